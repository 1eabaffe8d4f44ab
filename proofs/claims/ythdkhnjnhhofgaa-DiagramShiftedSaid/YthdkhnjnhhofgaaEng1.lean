/- The engine, part 1: partial heaps, what a call may leave behind, and their laws. -/
import Derived.Calls
import Derived.Laws.Sem
import Derived.Laws.World
import Derived.Laws.Rows
import Derived.Laws.AppendOwn
import Derived.Below
namespace Go.Eng
open Go.RowKit

abbrev Hp := Nat → Option Obj
abbrev Slots := List (Nat × Value)

def Hp.le (h h' : Hp) : Prop := ∀ g o, h g = some o → h' g = some o
def Hp.inW (h : Hp) (w : World) : Prop := ∀ g o, h g = some o → w.heap[g]? = some o
def Hp.emp : Hp := fun _ => none
def Hp.one (g : Nat) (o : Obj) : Hp := fun k => if k = g then some o else none
def Hp.disj (m m' : Hp) : Prop := ∀ g, m g = none ∨ m' g = none
def Hp.join (h m : Hp) : Hp := fun g => match h g with | some o => some o | none => m g

theorem Hp.le_refl (h : Hp) : h.le h := fun _ _ e => e
theorem Hp.le_trans {a b c : Hp} (h : a.le b) (k : b.le c) : a.le c := fun g o e => k g o (h g o e)
theorem Hp.emp_le (h : Hp) : Hp.emp.le h := fun _ _ e => by cases e
theorem Hp.le_join (h m : Hp) : h.le (h.join m) := fun g o e => by simp [Hp.join, e]
theorem Hp.join_le_right {h m : Hp} (d : m.disj h) : m.le (h.join m) := fun g o e => by
  rcases d g with h1 | h1
  · rw [h1] at e; cases e
  · simp [Hp.join, h1, e]
theorem Hp.disj_symm {m m' : Hp} (h : m.disj m') : m'.disj m := fun g => (h g).symm
theorem Hp.one_self (g : Nat) (o : Obj) : Hp.one g o g = some o := by simp [Hp.one]
theorem Hp.one_some {g k : Nat} {o o' : Obj} (h : Hp.one g o k = some o') : k = g ∧ o' = o := by
  unfold Hp.one at h; split at h
  · exact ⟨by assumption, by cases h; rfl⟩
  · cases h
theorem Hp.one_ne {g k : Nat} {o : Obj} (h : k ≠ g) : Hp.one g o k = none := by simp [Hp.one, h]
theorem Hp.inW_lt {h : Hp} {w : World} (hw : h.inW w) {g : Nat} {o : Obj} (e : h g = some o) : g < w.heap.size :=
  (Array.getElem?_eq_some_iff.1 (hw g o e)).1
theorem Hp.inW_none {h : Hp} {w : World} (hw : h.inW w) {g : Nat} (e : w.heap.size ≤ g) : h g = none := by
  cases hg : h g with
  | none => rfl
  | some o => have := Hp.inW_lt hw hg; omega
theorem Hp.ne_none {h : Hp} {g : Nat} (e : h g ≠ none) : ∃ o, h g = some o := by
  cases hg : h g with
  | none => exact absurd hg e
  | some o => exact ⟨o, rfl⟩

/-- The world holds the immutable part and the parts that are owned; all are apart. -/
structure St (w : World) (h : Hp) (ms : List Hp) : Prop where
  imm : h.inW w
  own : ∀ m ∈ ms, m.inW w
  off : ∀ m ∈ ms, m.disj h
  apart : ms.Pairwise Hp.disj

/-- Every block that was there is as it was; the streams too. -/
abbrev Ext (w w' : World) : Prop := Below w.heap.size w w'

/-- From the entry (w0, h0, ms0) on: what stands now. -/
structure Ends (w0 : World) (h0 : Hp) (ms0 : List Hp) (w : World) (h : Hp) (ms : List Hp) : Prop where
  st : St w h ms
  os : w.os = w0.os
  tape : w.tape = w0.tape
  output : w.output = w0.output
  size : w0.heap.size ≤ w.heap.size
  block : ∀ k, k < w0.heap.size → (∀ m ∈ ms0, m k = none) → w.heap[k]? = w0.heap[k]?
  le : h0.le h
  hnew : ∀ k, k < w0.heap.size → (∀ m ∈ ms0, m k = none) → h k = h0 k
  mnew : ∀ m ∈ ms, ∀ k, k < w0.heap.size → m k ≠ none → ∃ m0 ∈ ms0, m0 k ≠ none

theorem Ends.refl {w : World} {h : Hp} {ms : List Hp} (s : St w h ms) : Ends w h ms w h ms :=
  ⟨s, rfl, rfl, rfl, Nat.le_refl _, fun _ _ _ => rfl, Hp.le_refl _, fun _ _ _ => rfl, fun m hm _ _ e => ⟨m, hm, e⟩⟩

theorem St.frame_off {w : World} {h : Hp} {pre fr : List Hp} (s : St w h (pre ++ fr)) : ∀ m ∈ fr, ∀ m' ∈ pre, m'.disj m :=
  fun m hm m' hm' => (List.pairwise_append.1 s.apart).2.2 m' hm' m hm

theorem St.pre {w : World} {h : Hp} {pre fr : List Hp} (s : St w h (pre ++ fr)) : St w h pre :=
  ⟨s.imm, fun m hm => s.own m (List.mem_append_left _ hm), fun m hm => s.off m (List.mem_append_left _ hm), (List.pairwise_append.1 s.apart).1⟩

/-- A callee is given some of what is owned; the rest is as it was. -/
theorem Ends.call {w0 w w' : World} {h0 h h' : Hp} {ms0 pre pre' fr : List Hp} (H : Ends w0 h0 ms0 w h (pre ++ fr)) (C : Ends w h pre w' h' pre') : Ends w0 h0 ms0 w' h' (pre' ++ fr) := by
  have hlt : ∀ m ∈ fr, ∀ k, m k ≠ none → k < w.heap.size := fun m hm k hk => by
    obtain ⟨o, ho⟩ := Hp.ne_none hk
    exact Hp.inW_lt (H.st.own m (List.mem_append_right _ hm)) ho
  have hno : ∀ m ∈ fr, ∀ k, m k ≠ none → ∀ m' ∈ pre, m' k = none := fun m hm k hk m' hm' => by
    rcases H.st.frame_off m hm m' hm' k with e | e
    · exact e
    · exact absurd e hk
  have hpre : ∀ k, k < w0.heap.size → (∀ m ∈ ms0, m k = none) → ∀ m ∈ pre, m k = none := fun k hk hm m hmp => by
    cases e : m k with
    | none => rfl
    | some o =>
      obtain ⟨m0, hm0, e0⟩ := H.mnew m (List.mem_append_left _ hmp) k hk (by rw [e]; simp)
      exact absurd (hm m0 hm0) e0
  refine ⟨⟨C.st.imm, ?_, ?_, ?_⟩, C.os.trans H.os, C.tape.trans H.tape, C.output.trans H.output, Nat.le_trans H.size C.size, ?_, Hp.le_trans H.le C.le, ?_, ?_⟩
  · intro m hm
    rcases List.mem_append.1 hm with hm | hm
    · exact C.st.own m hm
    · intro k o e
      rw [C.block k (hlt m hm k (by rw [e]; simp)) (hno m hm k (by rw [e]; simp))]
      exact H.st.own m (List.mem_append_right _ hm) k o e
  · intro m hm
    rcases List.mem_append.1 hm with hm | hm
    · exact C.st.off m hm
    · intro k
      cases e : m k with
      | none => exact .inl rfl
      | some o =>
        have hk : m k ≠ none := by rw [e]; simp
        right
        rw [C.hnew k (hlt m hm k hk) (hno m hm k hk)]
        rcases H.st.off m (List.mem_append_right _ hm) k with e1 | e1
        · exact absurd e1 hk
        · exact e1
  · refine List.pairwise_append.2 ⟨C.st.apart, (List.pairwise_append.1 H.st.apart).2.1, fun m' hm' m hm k => ?_⟩
    cases e : m k with
    | none => exact .inr rfl
    | some o =>
      have hk : m k ≠ none := by rw [e]; simp
      cases e' : m' k with
      | none => exact .inl rfl
      | some o' =>
        obtain ⟨m0, hm0, e0⟩ := C.mnew m' hm' k (hlt m hm k hk) (by rw [e']; simp)
        exact absurd (hno m hm k hk m0 hm0) e0
  · intro k hk hm
    rw [C.block k (Nat.lt_of_lt_of_le hk H.size) (hpre k hk hm)]
    exact H.block k hk hm
  · intro k hk hm
    rw [C.hnew k (Nat.lt_of_lt_of_le hk H.size) (hpre k hk hm)]
    exact H.hnew k hk hm
  · intro m hm k hk e
    rcases List.mem_append.1 hm with hm | hm
    · obtain ⟨m1, hm1, e1⟩ := C.mnew m hm k (Nat.lt_of_lt_of_le hk H.size) e
      exact H.mnew m1 (List.mem_append_left _ hm1) k hk e1
    · exact H.mnew m (List.mem_append_right _ hm) k hk e

theorem Hp.inW_ext {h : Hp} {w w' : World} (hw : h.inW w) (e : Ext w w') : h.inW w' := fun g o ho => by
  rw [e.block g (Hp.inW_lt hw ho)]; exact hw g o ho

theorem St.ext {w w' : World} {h : Hp} {ms : List Hp} (s : St w h ms) (e : Ext w w') : St w' h ms :=
  ⟨Hp.inW_ext s.imm e, fun m hm => Hp.inW_ext (s.own m hm) e, s.off, s.apart⟩

/-- Nothing of what was there has turned. -/
theorem Ends.ext {w0 w w' : World} {h0 h : Hp} {ms0 ms : List Hp} (H : Ends w0 h0 ms0 w h ms) (e : Ext w w') : Ends w0 h0 ms0 w' h ms :=
  ⟨H.st.ext e, e.os.trans H.os, e.tape.trans H.tape, e.output.trans H.output, Nat.le_trans H.size e.size,
   fun k hk hm => (e.block k (Nat.lt_of_lt_of_le hk H.size)).trans (H.block k hk hm), H.le, H.hnew, H.mnew⟩

theorem Ends.drew {w0 w : World} {h0 h : Hp} {ms0 ms : List Hp} (H : Ends w0 h0 ms0 w h ms) : Ends w0 h0 ms0 w.drew h ms :=
  H.ext (Below.refl _ _).drew

/-- A new block, owned. -/
theorem Ends.alloc {w0 w : World} {h0 h : Hp} {ms0 ms : List Hp} (H : Ends w0 h0 ms0 w h ms) (o : Obj) : Ends w0 h0 ms0 (w.alloc o) h (Hp.one w.heap.size o :: ms) := by
  have H' := H.ext ((Below.refl w.heap.size w).alloc (Nat.le_refl _) o)
  refine ⟨⟨H'.st.imm, ?_, ?_, ?_⟩, H'.os, H'.tape, H'.output, H'.size, H'.block, H'.le, H'.hnew, ?_⟩
  · intro m hm
    rcases List.mem_cons.1 hm with rfl | hm
    · intro k o' e
      obtain ⟨rfl, rfl⟩ := Hp.one_some e
      exact heap_alloc_new w o'
    · exact H'.st.own m hm
  · intro m hm
    rcases List.mem_cons.1 hm with rfl | hm
    · intro k
      by_cases hk : k = w.heap.size
      · exact .inr (Hp.inW_none H.st.imm (by omega))
      · exact .inl (Hp.one_ne hk)
    · exact H'.st.off m hm
  · refine List.pairwise_cons.2 ⟨fun m hm k => ?_, H'.st.apart⟩
    by_cases hk : k = w.heap.size
    · exact .inr (Hp.inW_none (H.st.own m hm) (by omega))
    · exact .inl (Hp.one_ne hk)
  · intro m hm k hk e
    rcases List.mem_cons.1 hm with rfl | hm
    · exact absurd (Hp.one_ne (o := o) (show k ≠ w.heap.size by have := H.size; omega)) e
    · exact H'.mnew m hm k hk e

/-- What is owned becomes immutable. -/
theorem Ends.freeze {w0 w : World} {h0 h : Hp} {ms0 ms : List Hp} {m : Hp} (H : Ends w0 h0 ms0 w h (m :: ms)) : Ends w0 h0 ms0 w (h.join m) ms := by
  have hd : m.disj h := H.st.off m (List.mem_cons_self)
  refine ⟨⟨?_, fun m' hm' => H.st.own m' (List.mem_cons_of_mem _ hm'), ?_, (List.pairwise_cons.1 H.st.apart).2⟩, H.os, H.tape, H.output, H.size, H.block, Hp.le_trans H.le (Hp.le_join _ _), ?_, fun m' hm' => H.mnew m' (List.mem_cons_of_mem _ hm')⟩
  · intro k o e
    unfold Hp.join at e
    split at e
    · rename_i o' e'; cases e; exact H.st.imm k _ e'
    · exact H.st.own m (List.mem_cons_self) k o e
  · intro m' hm' k
    rcases (List.pairwise_cons.1 H.st.apart).1 m' hm' k with e | e
    · rcases H.st.off m' (List.mem_cons_of_mem _ hm') k with e1 | e1
      · exact .inl e1
      · right; simp [Hp.join, e1, e]
    · exact .inl e
  · intro k hk hm
    have h1 := H.hnew k hk hm
    have h2 : m k = none := by
      cases e : m k with
      | none => rfl
      | some o =>
        obtain ⟨m0, hm0, e0⟩ := H.mnew m (List.mem_cons_self) k hk (by rw [e]; simp)
        exact absurd (hm m0 hm0) e0
    simp only [Hp.join, h2]
    rw [← h1]
    cases h k <;> rfl

/-- What is owned is forgotten. -/
theorem Ends.drop {w0 w : World} {h0 h : Hp} {ms0 ms : List Hp} {m : Hp} (H : Ends w0 h0 ms0 w h (m :: ms)) : Ends w0 h0 ms0 w h ms :=
  ⟨⟨H.st.imm, fun m' hm' => H.st.own m' (List.mem_cons_of_mem _ hm'), fun m' hm' => H.st.off m' (List.mem_cons_of_mem _ hm'), (List.pairwise_cons.1 H.st.apart).2⟩,
   H.os, H.tape, H.output, H.size, H.block, H.le, H.hnew, fun m' hm' => H.mnew m' (List.mem_cons_of_mem _ hm')⟩

/-- The order of what is owned plays no part. -/
theorem Ends.perm {w0 w : World} {h0 h : Hp} {ms0 ms ms' : List Hp} (H : Ends w0 h0 ms0 w h ms) (p : ms.Perm ms') : Ends w0 h0 ms0 w h ms' :=
  ⟨⟨H.st.imm, fun m hm => H.st.own m (p.mem_iff.2 hm), fun m hm => H.st.off m (p.mem_iff.2 hm), (p.pairwise_iff (fun h => Hp.disj_symm h)).1 H.st.apart⟩,
   H.os, H.tape, H.output, H.size, H.block, H.le, H.hnew, fun m hm => H.mnew m (p.mem_iff.2 hm)⟩

/-- A part of what is owned is turned: block g alone, and it stays the owner's. -/
theorem Ends.change {w0 w w' : World} {h0 h : Hp} {ms0 ms : List Hp} {g : Nat} {o o' : Obj} (H : Ends w0 h0 ms0 w h (Hp.one g o :: ms))
    (hos : w'.os = w.os) (htape : w'.tape = w.tape) (hout : w'.output = w.output) (hsize : w.heap.size ≤ w'.heap.size)
    (hg : w'.heap[g]? = some o') (hother : ∀ k, k < w.heap.size → k ≠ g → w'.heap[k]? = w.heap[k]?) : Ends w0 h0 ms0 w' h (Hp.one g o' :: ms) := by
  have hgw : w.heap[g]? = some o := H.st.own _ (List.mem_cons_self) g o (Hp.one_self g o)
  have hoff : ∀ m ∈ ms, ∀ k o1, m k = some o1 → k ≠ g := fun m hm k o1 e he => by
    subst he
    rcases (List.pairwise_cons.1 H.st.apart).1 m hm k with e1 | e1
    · rw [Hp.one_self] at e1; cases e1
    · rw [e1] at e; cases e
  have hhg : h g = none := by
    rcases H.st.off _ (List.mem_cons_self) g with e1 | e1
    · rw [Hp.one_self] at e1; cases e1
    · exact e1
  refine ⟨⟨?_, ?_, ?_, ?_⟩, hos.trans H.os, htape.trans H.tape, hout.trans H.output, Nat.le_trans H.size hsize, ?_, H.le, H.hnew, ?_⟩
  · intro k o1 e
    rw [hother k (Hp.inW_lt H.st.imm e) (fun he => by subst he; rw [hhg] at e; cases e)]
    exact H.st.imm k o1 e
  · intro m hm
    rcases List.mem_cons.1 hm with rfl | hm
    · intro k o1 e
      obtain ⟨rfl, rfl⟩ := Hp.one_some e
      exact hg
    · intro k o1 e
      have hm' := H.st.own m (List.mem_cons_of_mem _ hm)
      rw [hother k (Hp.inW_lt hm' e) (hoff m hm k o1 e)]
      exact hm' k o1 e
  · intro m hm
    rcases List.mem_cons.1 hm with rfl | hm
    · intro k
      by_cases hk : k = g
      · subst hk; exact .inr hhg
      · exact .inl (Hp.one_ne hk)
    · exact H.st.off m (List.mem_cons_of_mem _ hm)
  · refine List.pairwise_cons.2 ⟨fun m hm k => ?_, (List.pairwise_cons.1 H.st.apart).2⟩
    by_cases hk : k = g
    · right
      cases e : m k with
      | none => rfl
      | some o1 => exact absurd hk (hoff m hm k o1 e)
    · exact .inl (Hp.one_ne hk)
  · intro k hk hm
    have hkg : k ≠ g := fun he => by
      subst he
      obtain ⟨m0, hm0, e0⟩ := H.mnew _ (List.mem_cons_self) k hk (by rw [Hp.one_self]; simp)
      exact absurd (hm m0 hm0) e0
    rw [hother k (Nat.lt_of_lt_of_le hk H.size) hkg]
    exact H.block k hk hm
  · intro m hm k hk e
    rcases List.mem_cons.1 hm with rfl | hm
    · by_cases hkg : k = g
      · subst hkg
        exact H.mnew _ (List.mem_cons_self) k hk (by rw [Hp.one_self]; simp)
      · exact absurd (Hp.one_ne hkg) e
    · exact H.mnew m (List.mem_cons_of_mem _ hm) k hk e

end Go.Eng
