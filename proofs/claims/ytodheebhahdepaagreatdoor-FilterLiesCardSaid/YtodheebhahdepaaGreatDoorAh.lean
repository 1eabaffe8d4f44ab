/- A proof in which something was changed is accepted exactly az by the reference: the statement 'FilterLies' (the tied card), for every input. -/
import Derived.Test.YtodheebhahdepaaGreatDoorRI
set_option linter.unusedSimpArgs false
set_option linter.unusedVariables false
set_option linter.unusedSimpArgs false
set_option linter.unusedVariables false
set_option maxRecDepth 100000
namespace Go.Proofs.YtodheebhahdepaaGreatDoor
open Go.Eng Go.ChangeShapes Go.WideShapes Go.ChangeAt Go.RowKit Go.Deep Go.Proofs.Q

theorem PT(os:Os)(started:os.Started)(H:Type)(enc:TypeId×Value->H) :
    ReturnsInHanded {} Tryz.checked os 9 .any (fun w args=>(Rows.filterLiesSpec.pre enc Tryz.prog Tryz.f9 Rows.filterLiesRow.domain false w args/\laidMetH Tryz.prog Rows.filterLiesRow.laid w)/\sizedMet enc Tryz.prog Tryz.f9 (OpenSpec.ofChange Rows.filterLiesSpec) false w args)
      (Rows.filterLiesSpec.post enc Tryz.prog Tryz.f9 false true false false):=by
  refine returnsInHanded_of_change_and (C:=Tryz.checked) (X:=fun w _=>laidMetH Tryz.prog Rows.filterLiesRow.laid w) (fun _ _ _ hh h=>h.of_heap hh) own started (by kernel_rfl) Tryz.func9
    (ChangeSpec.witness_shaped (enc:=enc) (C:=Tryz.checked) (os:=os) (X:=fun w _=>laidMetH Tryz.prog Rows.filterLiesRow.laid w) false (World.laidAll Tryz.prog os Rows.filterLiesRow.laid) #[.agg #[.int .u8 0,.slice none 0 0,.slice none 0 0,.int .u8 0],.slice none 0 0,.agg #[.int .i64 0,.int .i64 0,.int .i64 0,.int .i64 0]] 8 (World.laidAll_os _ _ _)
      (World.shaped_of_ZipB (by kernel_rfl) (by kernel_rfl)) (by kernel_rfl) (by kernel_rfl) (by kernel_rfl)
      (by rw[MakeChecks.laidMetH_plain _ _ _ (by kernel_rfl)];exact laidMet_laidAll _ (by kernel_rfl) (by kernel_rfl))) ?_
  intro W base args ds gs before hval0 hW hcnd _ hL _;have hval:∀(j:Nat) t v,Tryz.f9.params[j]?=some t->args[j]?=some v->Value.okWide Tryz.prog W .any base t v:=hval0;have hW':=hW;obtain⟨p,q,hA0,hV,rfl,hfz,hnd⟩:=hW;have hA:DataW.TrodAll enc Tryz.prog W 0 (fun _=>true) true Tryz.f9.params.toList args.toList ds p:=hA0;rw[Tryz.params9]at hA hval;obtain⟨v0,vs0,d0,ds0,p0,q0,hargs,rfl,rfl,h0,r0⟩:=trodAll_cons hA;obtain⟨v1,vs1,d1,ds1,p1,q1,rfl,rfl,rfl,h1,r1⟩:=trodAll_cons r0;obtain⟨v2,vs2,d2,ds2,p2,q2,rfl,rfl,rfl,h2,r2⟩:=trodAll_cons r1;obtain⟨rfl,rfl,rfl⟩:=trodAll_nil r2;obtain rfl:args=#[v0,v1,v2]:=by cases args;simp_all
  obtain⟨rfl,rfl⟩:=trodVars_none hV;have lt0:∀x∈p0,x.block<W.heap.size:=by obtain⟨m,hm⟩:=h0;exact DataW.trod_lt m _ _ _ hm
  have k0:=h0;obtain⟨sp,be,vL0,vG,LL,GG,rfl,wsp,wbe,wG,RL0,RG⟩:=Sf (hval 0 25 v0 rfl rfl) h0;obtain⟨a1,len1,cap1,rfl⟩:=okWide_slice AN (hval 1 22 v1 rfl rfl);have lt1:∀x∈p1,x.block<W.heap.size:=by obtain⟨m,hm⟩:=h1;exact DataW.trod_lt m _ _ _ hm
  obtain⟨l1,R1,ok1⟩:∃l,RdL cI 1 (whole W) [] (.slice a1 len1 cap1) l/\∀a∈l,BS a:=by obtain⟨fuel,hf⟩:=h1;exact Th hf
  have lt2:∀x∈p2,x.block<W.heap.size:=by obtain⟨m,hm⟩:=h2;exact DataW.trod_lt m _ _ _ hm
  have k2:=h2;obtain⟨a0,a1,a2,a3,rfl,w0,w1,w2,w3⟩:=UI (hval 2 75 v2 rfl rfl) h2;clear hA0 hval0;refine(Xd sp be a0 a1 a2 a3 LL l1 GG vL0 vG _ (whole W) wsp wbe w0 w1 w2 w3 wG RL0 RG R1 ok1 W (St.whole W)).mono fun e W' ⟨r,h',ms',he,hE,hr⟩=>?_;subst he;subst hr;have bel:=Abo hE.toExt;exact⟨_,rfl,_,_,_,[],_,[],hW',trodAll_mk1 (shut_bool U4 _),(trodAll_cons_mk (Below.trod Oh (by kernel_rfl) (of_decide_eq_true (by kernel_rfl)) k0 bel lt0) (trodAll_cons_mk (Below.trod Oh (by kernel_rfl) (of_decide_eq_true (by kernel_rfl)) h1 bel lt1) (trodAll_cons_mk (Below.trod Oh (by kernel_rfl) (of_decide_eq_true (by kernel_rfl)) k2 bel lt2) trodAll_mk0))),rfl,bel.frame _,fun h=>by cases h⟩

theorem Rb:joinedFacts Tryz.prog 9 Tryz.f9 Rows.filterLiesSpec Rows.filterLiesRow=true:=by
  unfold joinedFacts;simp only[Bool.and_eq_true]
  repeat' apply And.intro
  all_goals first|with_reducible exact Aal|with_reducible exact Yy|with_reducible exact ZV|with_reducible exact YY|kernel_rfl
theorem VS:Rows.FilterLiesSaid:=
  OpenClaim.holds_of_wide 9 Tryz.f9 rfl rfl rfl rfl rfl rfl rfl ⟨rfl,rfl,rfl,rfl,rfl⟩ rfl rfl rfl rfl rfl lies_g2 Tryz.func9 Rb
    (of_decide_eq_true (by kernel_rfl)) (by unfold Func.isWrapper;first|(rw[if_pos (by decide +kernel)];kernel_rfl)|(rw[if_neg (by decide +kernel)];exact⟨rfl,rfl⟩))
    (fun os started H enc _=>PT os started H enc)
theorem lies_holds:Rows.FilterLiesCardSaid:=
  Claim7.holds_tied_plain_at .later [] [.data,.pinned] true (true,"1e708c681872694a52748150097b492f671239d41ebc9dfa17f9289ca7ca9dab") false VS (fun _ h=>by cases h) (by kernel_rfl) (fun _ h=>by cases h) filterLies_row_tie rfl ⟨rfl,rfl⟩ (by kernel_rfl) rfl
    (fun f fn hf hfn=>by
      obtain rfl:f=9:=Option.some.inj (lies_g2.symm.trans hf) |>.symm;obtain rfl:fn=Tryz.f9:=(Option.some.inj (Tryz.func9.symm.trans hfn)).symm
      exact⟨Aab,fun j t ht=>by
        rw[Tryz.params9]at ht;have hm:t∈[25,22,75]:=by simpa using Array.mem_of_getElem? ht
        have hall:([25,22,75].all fun u=>!Tryz.prog.wantsStandIn u)=true:=by kernel_rfl
        exact(show Tryz.prog.wantsStandIn t=false by simpa using List.all_eq_true.1 hall t hm)⟩)
    Zi
end Go.Proofs.YtodheebhahdepaaGreatDoor
