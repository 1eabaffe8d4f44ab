/- A part of the proof. -/
import Derived.Sort.LotA
import Derived.Calls
import Derived.Laws.Sem
import Derived.Laws.World
import Derived.Laws.Rows
import Derived.Laws.AppendOwn
import Derived.Below
import Derived.Tactics
import Derived.Orders
import Derived.Laws.Entries
import Derived.Laws.Cells
import Derived.Laws.Slices
import Derived.Laws.Small
import Derived.IntWalk
import Derived.Laws.Append
import Derived.Laws.MakeOwn
import Derived.Laws.CopyRow
import Derived.Deep.Quiet
import Derived.Sort.AssemblyPlain
import Derived.Sort.LotD5
import Derived.Sort.Walk13a
import Derived.Lib.BitFns
import Derived.Deep.Slices
import Derived.OpenShut
import Derived.Maps.RangeRun
import Derived.Maps.Keyed
import Derived.Carry
import Derived.Lib.SliceRun
set_option linter.unusedSimpArgs false
set_option linter.unusedVariables false
set_option linter.unusedSectionVars false
set_option maxRecDepth 100000
set_option maxHeartbeats 4000000

open List (replicate range length_append nil_append length_take mem_range cons_append map_append mem_cons_self mem_cons_of_mem length_drop map_map map_cons append_assoc flatMap_cons mem_append_left mem_append_right map_congr_left drop_drop)
theorem ω{p:Prop}(h:p:=by omega):p:=h
theorem κ{p:Prop}(h:p:=by kernel_rfl):p:=h
theorem σ{p:Prop}(h:p:=by simp):p:=h
theorem δ{p:Prop}(h:p:=by decide):p:=h
abbrev Go.Value.nl:Go.Value:=.slice none 0 0
abbrev Go.Value.es:Go.Value:=.string ByteArray.empty
abbrev Go.Value.w(n:Int):Go.Value:=.int .i64 n
abbrev Go.Value.pt(g:Nat):Go.Value:=.pointer (some ⟨g,0,none⟩)
abbrev ig:=true
abbrev ii:=false
theorem ie{a b:Prop}(h:a)(k:¬a):b:=absurd h k
theorem ab:type_of% @List.length_singleton:=@List.length_singleton
theorem ae:type_of% @if_neg:=@if_neg
theorem af:type_of% @List.length_append:=@List.length_append
theorem ag:type_of% @List.mem_map:=@List.mem_map
theorem ah:type_of% @if_pos:=@if_pos
theorem aj:type_of% @List.getElem?_eq_getElem:=@List.getElem?_eq_getElem
theorem ak:type_of% @List.take_succ_eq_append_getElem:=@List.take_succ_eq_append_getElem
theorem am:type_of% @Nat.le_refl:=@Nat.le_refl
theorem ao:type_of% @List.getElem_mem:=@List.getElem_mem
theorem ap:type_of% @List.nil_append:=@List.nil_append
theorem aq:type_of% @Classical.byContradiction:=@Classical.byContradiction
theorem aw:type_of% @congrArg:=@congrArg
theorem ax:type_of% @List.mem_cons_self:=@List.mem_cons_self
theorem ay:type_of% @List.length_take:=@List.length_take
theorem be:type_of% @List.length_map:=@List.length_map
theorem bf:type_of% @Option.some.inj:=@Option.some.inj
theorem bg:type_of% @List.mem_cons:=@List.mem_cons
theorem bh:type_of% @List.cons_append:=@List.cons_append
theorem bi:type_of% @List.mem_cons_of_mem:=@List.mem_cons_of_mem
theorem bj:type_of% @List.mem_append:=@List.mem_append
theorem bl:type_of% @Nat.le_trans:=@Nat.le_trans
theorem bm:type_of% @List.mem_singleton:=@List.mem_singleton
theorem bp:type_of% @Array.getD_eq_getD_getElem?:=@Array.getD_eq_getD_getElem?
theorem bq:type_of% @decide_eq_true:=@decide_eq_true
theorem br:type_of% @List.getElem?_eq_some_iff:=@List.getElem?_eq_some_iff
theorem bw:type_of% @List.length_drop:=@List.length_drop
theorem b6:type_of% @Nat.lt_of_lt_of_le:=@Nat.lt_of_lt_of_le
theorem b7:type_of% @List.pairwise_cons:=@List.pairwise_cons
theorem cg:type_of% @decide_eq_false:=@decide_eq_false
theorem cj:type_of% @Array.getElem?_eq_some_iff:=@Array.getElem?_eq_some_iff
theorem cm:type_of% @List.mem_range:=@List.mem_range
theorem ct:type_of% @List.pairwise_iff_getElem:=@List.pairwise_iff_getElem
theorem cw:type_of% @Nat.add_mul:=@Nat.add_mul
theorem cz:type_of% @List.append_assoc:=@List.append_assoc
theorem db:type_of% @Nat.mod_eq_of_lt:=@Nat.mod_eq_of_lt
theorem dd:type_of% @List.map_append:=@List.map_append
theorem de:type_of% @List.eq_nil_of_length_eq_zero:=@List.eq_nil_of_length_eq_zero
theorem df:type_of% @List.perm_append_comm:=@List.perm_append_comm
theorem dh:type_of% @List.mem_filter:=@List.mem_filter
theorem di:type_of% @Nat.le_of_ble_eq_true:=@Nat.le_of_ble_eq_true
theorem dm:type_of% @List.mem_iff_getElem:=@List.mem_iff_getElem
theorem dp:type_of% @List.take_append_drop:=@List.take_append_drop
theorem dq:type_of% @of_decide_eq_true:=@of_decide_eq_true
theorem dr:type_of% @List.map_cons:=@List.map_cons
theorem dt:type_of% @Bool.and_eq_true:=@Bool.and_eq_true
theorem du:type_of% @Nat.mul_le_mul_right:=@Nat.mul_le_mul_right
theorem dw:type_of% @Nat.mul_comm:=@Nat.mul_comm
theorem dx:type_of% @List.flatMap_append:=@List.flatMap_append
theorem dy:type_of% @List.mem_of_getElem?:=@List.mem_of_getElem?
theorem dz:type_of% @List.pairwise_map:=@List.pairwise_map
theorem d5:type_of% @List.getElem?_append_left:=@List.getElem?_append_left
theorem d6:type_of% @List.append_nil:=@List.append_nil
theorem d7:type_of% @List.all_eq_true:=@List.all_eq_true
theorem d8:type_of% @List.length_cons:=@List.length_cons
theorem ee:type_of% @List.length_nil:=@List.length_nil
theorem ef:type_of% @Classical.not_not:=@Classical.not_not
theorem eh:type_of% @List.mem_append_left:=@List.mem_append_left
theorem ei:type_of% @Array.getElem?_setIfInBounds_ne:=@Array.getElem?_setIfInBounds_ne
theorem ej:type_of% @trivial:=@trivial
theorem eo:type_of% @List.drop_eq_getElem_cons:=@List.drop_eq_getElem_cons
theorem ep:type_of% @Nat.mul_le_mul:=@Nat.mul_le_mul
theorem eq:type_of% @List.getElem?_eq_none:=@List.getElem?_eq_none
theorem fa:type_of% @decide_eq_decide:=@decide_eq_decide
theorem fc:type_of% @List.flatMap_cons:=@List.flatMap_cons
theorem fd:type_of% @List.length_filter_le:=@List.length_filter_le
theorem fe:type_of% @List.take_length:=@List.take_length
theorem ff:type_of% @List.length_set:=@List.length_set
theorem fg:type_of% @List.mem_append_right:=@List.mem_append_right
theorem fh:type_of% @List.pairwise_append:=@List.pairwise_append
theorem fj:type_of% @Nat.div_eq_of_lt:=@Nat.div_eq_of_lt
theorem fk:type_of% @List.getElem?_map:=@List.getElem?_map
theorem fl:type_of% @List.nodup_cons:=@List.nodup_cons
theorem fm:type_of% @List.length_eq_zero_iff:=@List.length_eq_zero_iff
theorem fo:type_of% @List.Perm.refl:=@List.Perm.refl
theorem fp:type_of% @Nat.one_mul:=@Nat.one_mul
theorem fq:type_of% @decide_eq_true_iff:=@decide_eq_true_iff
theorem ft:type_of% @Ne.symm:=@Ne.symm
theorem fu:type_of% @Nat.min_eq_left:=@Nat.min_eq_left
theorem fv:type_of% @Int.natCast_mul:=@Int.natCast_mul
theorem fw:type_of% @List.ext_getElem:=@List.ext_getElem
theorem fx:type_of% @List.getElem?_take:=@List.getElem?_take
theorem fy:type_of% @List.take_of_length_le:=@List.take_of_length_le
theorem fz:type_of% @Int.add_zero:=@Int.add_zero
theorem f5:type_of% @List.size_toArray:=@List.size_toArray
theorem f6:type_of% @Nat.lt_or_ge:=@Nat.lt_or_ge
theorem f7:type_of% @Int.mul_comm:=@Int.mul_comm
theorem f9:type_of% @Nat.eq_zero_or_pos:=@Nat.eq_zero_or_pos
theorem gc:type_of% @List.map_congr_left:=@List.map_congr_left
theorem ge:type_of% @List.foldl_cons:=@List.foldl_cons
theorem gg:type_of% @List.map_map:=@List.map_map
theorem gh:type_of% @List.getElem_of_mem:=@List.getElem_of_mem
theorem gj:type_of% @Int.zero_mul:=@Int.zero_mul
theorem gk:type_of% @Nat.lt_trichotomy:=@Nat.lt_trichotomy
theorem gl:type_of% @List.getElem_map:=@List.getElem_map
theorem gn:type_of% @List.getD_eq_getElem?_getD:=@List.getD_eq_getElem?_getD
theorem gq:type_of% @Array.ext_getElem?:=@Array.ext_getElem?
theorem gr:type_of% @List.getElem?_toArray:=@List.getElem?_toArray
theorem gt:type_of% @List.mem_of_mem_drop:=@List.mem_of_mem_drop
theorem gu:type_of% @Int.mul_zero:=@Int.mul_zero
theorem gv:type_of% @or_false:=@or_false
theorem gw:type_of% @List.take_add_one:=@List.take_add_one
theorem gx:type_of% @Nat.mul_one:=@Nat.mul_one
theorem gy:type_of% @Int.one_mul:=@Int.one_mul
theorem gz:type_of% @List.not_mem_nil:=@List.not_mem_nil
theorem ia:type_of% @List.findIdx?_eq_some_iff_getElem:=@List.findIdx?_eq_some_iff_getElem
theorem ib:type_of% @List.nodup_append:=@List.nodup_append
theorem ic:type_of% @List.getElem_take:=@List.getElem_take
theorem Y{α:Sort _}{a:α}:a=a:=Eq.refl a
namespace Go.Lin
def sm:Nat->(Nat->Int)->Int
 | 0,_=>0
 | n+1,f=>sm n f+f n
theorem Bl{n:Nat}{f g:Nat->Int}(h:∀i,i<n->f i=g i):sm n f=sm n g:=by
 induction n with
 | zero=>rfl
 | succ n ih=>unfold sm;rw[ih λi hi=>h i ω,h n ω]
theorem Po(n:Nat):sm n (λ_=>0)=0:=by
 induction n with
 | zero=>rfl
 | succ n ih=>unfold sm;rw[ih];rfl
theorem Pj(n:Nat)(f g:Nat->Int):sm n (λi=>f i+g i)=sm n f+sm n g:=by
 induction n with
 | zero=>rfl
 | succ n ih=>
  show sm n (λi=>f i+g i)+(f n+g n)=sm n f+f n+(sm n g+g n);rw[ih];omega
theorem Yj(n:Nat)(f g:Nat->Int):sm n (λi=>f i-g i)=sm n f-sm n g:=by
 induction n with
 | zero=>rfl
 | succ n ih=>
  show sm n (λi=>f i-g i)+(f n-g n)=sm n f+f n-(sm n g+g n);rw[ih];omega
theorem GR(n:Nat)(c:Int)(f:Nat->Int):sm n (λi=>c*f i)=c*sm n f:=by
 induction n with
 | zero=>simp[sm]
 | succ n ih=>unfold sm;rw[ih,Int.mul_add]
theorem LF(n:Nat)(c:Int)(f:Nat->Int):sm n (λi=>f i*c)=sm n f*c:=by rw[f7,<-GR];exact Bl λi _=>f7 _ _
theorem OW(m n:Nat)(f:Nat->Nat->Int):sm m (λi=>sm n (f i))=sm n (λj=>sm m (λi=>f i j)):=by
 induction m with
 | zero=>simp[sm,Po]
 | succ m ih=>
  show sm m (λi=>sm n (f i))+sm n (f m)=sm n (λj=>sm m (λi=>f i j)+f m j);rw[ih,Pj]
theorem Ku(n:Nat)(k:Nat)(f:Nat->Int)(hk:k<n)(h:∀i,i<n->i≠k->f i=0):sm n f=f k:=by
 induction n with
 | zero=>omega
 | succ n ih=>
  unfold sm;by_cases e:k=n
  ·subst e;have:sm k f=sm k λ_=>0:=Bl λi hi=>h i ω ω;rw[this,Po];omega
  ·rw[ih ω λi hi hne=>h i ω hne,h n ω ω];omega
theorem RO(n:Nat)(k:Nat)(f:Nat->Int)(hk:k<n):sm n (λi=>if i=k then f i else 0)=f k:=by rw[Ku n k _ hk λi _ hne=>by simp[hne]];simp
theorem YS(m n:Nat)(f:Nat->Int):sm (m+n) f=sm m f+sm n (λi=>f (m+i)):=by
 induction n with
 | zero=>simp[sm]
 | succ n ih=>
  show sm (m+n) f+f (m+n)=sm m f+(sm n (λi=>f (m+i))+f (m+n));rw[ih];omega
theorem LJ{n:Nat}{f:Nat->Int}(h:∀i,i<n->f i=0):sm n f=0:=by rw[Bl (g:=λ_=>0) h,Po]
variable {c r i j:Nat} {f:Nat->Nat->Int}
def Dr(n:Nat)(f:Nat->Int):List Int:=(range n).map f
def DW(r c:Nat)(f:Nat->Nat->Int):List Int:=(range (r*c)).map λk=>f (k/c) (k%c)
theorem B7(n:Nat)(f:Nat->Int):(Dr n f).length=n:=by simp[Dr]
theorem Ca(r c:Nat)(f:Nat->Nat->Int):(DW r c f).length=r*c:=by simp[DW]
theorem LS(hi:i<r)(hj:j<c):i*c+j<r*c:=by have:(i+1)*c<=r*c:=du c hi;rw[cw,fp]at this;omega
theorem TG(hj:j<c):(i*c+j)/c=i:=by rw[dw,Nat.mul_add_div ω,fj hj,Nat.add_zero]
theorem Tg(hj:j<c):(i*c+j)%c=j:=by rw[dw,Nat.mul_add_mod,db hj]
theorem AaU{n:Nat}{f:Nat->Int}(hj:j<n):(Dr n f)[j]'(by rw[B7];exact hj)=f j:=by simp[Dr]
theorem AcF(hi:i<r)(hj:j<c):(DW r c f)[i*c+j]'(by rw[Ca];exact LS hi hj)=f i j:=by simp[DW,TG hj,Tg hj]
theorem Nv{n:Nat}{f g:Nat->Int}(h:∀j,j<n->f j=g j):Dr n f=Dr n g:=by unfold Dr;exact map_congr_left λk hk=>h k<|cm.1 hk
theorem OG{k:Nat}(h:k<r*c):k/c<r/\k%c<c:=by
 have hc:0<c:=Nat.pos_of_ne_zero λh0=>by subst h0;simp at h
 exact⟨(Nat.div_lt_iff_lt_mul hc).2 h,Nat.mod_lt _ hc⟩
theorem CT{g:Nat->Nat->Int}(h:∀i,i<r->∀j,j<c->f i j=g i j):DW r c f=DW r c g:=by unfold DW;refine map_congr_left λk hk=>?_;have:=OG (cm.1 hk);exact h _ this.1 _ this.2
def OS(f:Nat->Nat->Int)(i j:Nat)(x:Int):Nat->Nat->Int:=λa b=>if a=i/\b=j then x else f a b
theorem PS(x:Int)(hj:j<c):(DW r c f).set (i*c+j) x=DW r c (OS f i j x):=by
 refine fw (by simp[Ca]) λk h1 h2=>?_;have hk:k<r*c:=by rw[Ca]at h2;exact h2
 have hd:k/c*c+k%c=k:=by rw[dw];exact Nat.div_add_mod k c
 rw[List.getElem_set];by_cases he:i*c+j=k
 ·subst he;rw[ah rfl];simp[DW,OS,TG hj,Tg hj]
 ·rw[ae he];have:¬(k/c=i/\k%c=j):=λ⟨h3,h4⟩=>he (by rw[<-h3,<-h4];exact hd);simp[DW,OS,this]
theorem PL(r c:Nat):replicate (r*c) (0:Int)=DW r c λ_ _=>0:=by unfold DW;rw[List.map_const',List.length_range]
theorem AcT(hi:i<r):((DW r c f).drop (i*c)).take c=Dr c (f i):=by have h0:(i+1)*c<=r*c:=du c hi;rw[cw,fp]at h0;refine fw (by simp[Ca,B7];omega) λk h1 h2=>?_;rw[B7]at h2;have hi':i*c+k<r*c:=LS hi h2;simp[Dr,DW,TG h2,Tg h2]
end Go.Lin
namespace Go.Kuhn
theorem nodup_le{α:Type}[DecidableEq α]:∀(l l':List α),l.Nodup->(∀x∈l,x∈l')->l.length<=l'.length
 | [],l',_,_=>by simp
 | a::l,l',hn,h=>by
  have h1:a∈l':=h a σ
  have h2:∀x∈l,x∈l'.erase a:=λx hx=>by have:x≠a:=λe=>(fl.1 hn).1 (e ▸ hx);exact(List.mem_erase_of_ne this).2 (h x (by simp[hx]))
  have:=nodup_le l (l'.erase a) (fl.1 hn).2 h2;rw[List.length_erase_of_mem h1]at this;have:=List.length_pos_of_mem h1;simp;omega
end Go.Kuhn

namespace Go.Lin
def skip(j0 j:Nat):Nat:=if j<j0 then j else j+1
def ML(n:Nat)(D:Nat->Nat->Int)(x:Nat->Int)(i:Nat):Int:=sm n λk=>D i k*x k
end Go.Lin

namespace Go.Eng
open Go.RowKit
abbrev Hp:=Nat->Option Obj
abbrev AE:=List (Nat×Value)
def Hp.le(h h':Hp):Prop:=∀g o,h g=some o->h' g=some o
def Hp.inW(h:Hp)(w:World):Prop:=∀g o,h g=some o->w.heap[g]?=some o
def Hp.emp:Hp:=λ_=>none
def Hp.one(g:Nat)(o:Obj):Hp:=λk=>if k=g then some o else none
def Hp.disj(m m':Hp):Prop:=∀g,m g=none\/m' g=none
def Hp.join(h m:Hp):Hp:=λg=>match h g with|some o=>some o|none=>m g
theorem Hp.le_refl(h:Hp):h.le h:=λ_ _ e=>e
theorem Hp.le_trans{a b c:Hp}(h:a.le b)(k:b.le c):a.le c:=λg o e=>k g o (h g o e)
theorem Hp.le_join(h m:Hp):h.le (h.join m):=λg o e=>by simp[Hp.join,e]
theorem Hp.join_le_right{h m:Hp}(d:m.disj h):m.le (h.join m):=λg o e=>by
 rcases d g with h1|h1
 ·rw[h1]at e;cases e
 ·simp[Hp.join,h1,e]
theorem Hp.disj_symm{m m':Hp}(h:m.disj m'):m'.disj m:=λg=>(h g).symm
theorem Hp.one_self(g:Nat)(o:Obj):Hp.one g o g=some o:=by simp[Hp.one]
theorem Hp.one_some{g k:Nat}{o o':Obj}(h:Hp.one g o k=some o'):k=g/\o'=o:=by
 unfold Hp.one at h;split at h
 ·exact⟨by assumption,by cases h;rfl⟩
 ·cases h
theorem Hp.one_ne{g k:Nat}{o:Obj}(h:k≠g):Hp.one g o k=none:=by simp[Hp.one,h]
theorem Hp.inW_lt{h:Hp}{w:World}(hw:h.inW w){g:Nat}{o:Obj}(e:h g=some o):g<w.heap.size:=
 (cj.1 (hw g o e)).1
theorem Hp.inW_none{h:Hp}{w:World}(hw:h.inW w){g:Nat}(e:w.heap.size<=g):h g=none:=by
 cases hg:h g with
 | none=>rfl
 | some o=>have:=Hp.inW_lt hw hg;omega
theorem Hp.ne_none{h:Hp}{g:Nat}(e:h g≠none):∃o,h g=some o:=by
 cases hg:h g with
 | none=>exact ie hg e
 | some o=>exact⟨o,Y⟩
structure St(w:World)(h:Hp)(ms:List Hp):Prop where
 imm:h.inW w
 own:∀m∈ms,m.inW w
 off:∀m∈ms,m.disj h
 apart:ms.Pairwise Hp.disj
structure TL(w0 w:World):Prop where
 tape:w.tape=w0.tape
 drawn:w0.drawn<=w.drawn
theorem TL.refl(w:World):TL w w:=⟨rfl,am _⟩
theorem TL.trans{a b c:World}(h:TL b c)(k:TL a b):TL a c:=⟨h.tape.trans k.tape,bl k.drawn h.drawn⟩
structure Ext(w w':World):Prop where
 os:w'.os=w.os
 tape:TL w w'
 output:w'.output=w.output
 size:w.heap.size<=w'.heap.size
 block:∀k,k<w.heap.size->w'.heap[k]?=w.heap[k]?
theorem Ext.refl(w:World):Ext w w:=⟨rfl,TL.refl w,rfl,am _,λ_ _=>rfl⟩
theorem Ext.drew(w:World):Ext w w.drew:=⟨rfl,⟨rfl,Nat.le_succ _⟩,rfl,am _,λ_ _=>rfl⟩
theorem Ext.alloc(w:World)(o:Obj):Ext w (w.alloc o):=
 let b:=(Below.refl w.heap.size w).alloc (am _) o
 ⟨b.os,⟨b.tape,am _⟩,b.output,b.size,b.block⟩
structure Ends(w0:World)(h0:Hp)(ms0:List Hp)(w:World)(h:Hp)(ms:List Hp):Prop where
 st:St w h ms
 os:w.os=w0.os
 tape:TL w0 w
 output:w.output=w0.output
 size:w0.heap.size<=w.heap.size
 block:∀k,k<w0.heap.size->(∀m∈ms0,m k=none)->w.heap[k]?=w0.heap[k]?
 le:h0.le h
 hnew:∀k,k<w0.heap.size->(∀m∈ms0,m k=none)->h k=h0 k
 mnew:∀m∈ms,∀k,k<w0.heap.size->m k≠none->∃m0∈ms0,m0 k≠none
theorem Ends.refl{w:World}{h:Hp}{ms:List Hp}(s:St w h ms):Ends w h ms w h ms:=
 ⟨s,rfl,TL.refl _,rfl,am _,λ_ _ _=>rfl,Hp.le_refl _,λ_ _ _=>rfl,λm hm _ _ e=>⟨m,hm,e⟩⟩
theorem St.frame_off{w:World}{h:Hp}{pre fr:List Hp}(s:St w h (pre++fr)):∀m∈fr,∀m'∈pre,m'.disj m:=
 λm hm m' hm'=>(fh.1 s.apart).2.2 m' hm' m hm
theorem St.pre{w:World}{h:Hp}{pre fr:List Hp}(s:St w h (pre++fr)):St w h pre:=
 ⟨s.imm,λm hm=>s.own m (eh _ hm),λm hm=>s.off m (eh _ hm),(fh.1 s.apart).1⟩
theorem Ends.call{w0 w w':World}{h0 h h':Hp}{ms0 pre pre' fr:List Hp}(H:Ends w0 h0 ms0 w h (pre++fr))(C:Ends w h pre w' h' pre'):Ends w0 h0 ms0 w' h' (pre'++fr):=by
 have hlt:∀m∈fr,∀k,m k≠none->k<w.heap.size:=λm hm k hk=>by obtain⟨o,ho⟩:=Hp.ne_none hk;exact Hp.inW_lt (H.st.own m<|fg _ hm) ho
 have hno:∀m∈fr,∀k,m k≠none->∀m'∈pre,m' k=none:=λm hm k hk m' hm'=>by
  rcases H.st.frame_off m hm m' hm' k with e|e
  ·exact e
  ·exact ie e hk
 have hpre:∀k,k<w0.heap.size->(∀m∈ms0,m k=none)->∀m∈pre,m k=none:=λk hk hm m hmp=>by
  cases e:m k with
  | none=>rfl
  | some o=>
   obtain⟨m0,hm0,e0⟩:=H.mnew m (eh _ hmp) k hk (by rw[e];simp);exact ie (hm m0 hm0) e0
 refine⟨⟨C.st.imm,?_,?_,?_⟩,C.os.trans H.os,C.tape.trans H.tape,C.output.trans H.output,bl H.size C.size,?_,Hp.le_trans H.le C.le,?_,?_⟩
 ·intro m hm;rcases bj.1 hm with hm|hm
  ·exact C.st.own m hm
  ·intro k o e;rw[C.block k (hlt m hm k (by rw[e];simp)) (hno m hm k (by rw[e];simp))];exact H.st.own m (fg _ hm) k o e
 ·intro m hm;rcases bj.1 hm with hm|hm
  ·exact C.st.off m hm
  ·intro k;cases e:m k with
   | none=>exact .inl Y
   | some o=>
    have hk:m k≠none:=by rw[e];simp
    right
    rw[C.hnew k (hlt m hm k hk) (hno m hm k hk)];rcases H.st.off m (fg _ hm) k with e1|e1
    ·exact ie e1 hk
    ·exact e1
 ·refine fh.2 ⟨C.st.apart,(fh.1 H.st.apart).2.1,λm' hm' m hm k=>?_⟩;cases e:m k with
  | none=>exact .inr Y
  | some o=>
   have hk:m k≠none:=by rw[e];simp
   cases e':m' k with
   | none=>exact .inl Y
   | some o'=>
    obtain⟨m0,hm0,e0⟩:=C.mnew m' hm' k (hlt m hm k hk) (by rw[e'];simp);exact ie (hno m hm k hk m0 hm0) e0
 ·intro k hk hm;rw[C.block k (b6 hk H.size) (hpre k hk hm)];exact H.block k hk hm
 ·intro k hk hm;rw[C.hnew k (b6 hk H.size) (hpre k hk hm)];exact H.hnew k hk hm
 ·intro m hm k hk e;rcases bj.1 hm with hm|hm
  ·obtain⟨m1,hm1,e1⟩:=C.mnew m hm k (b6 hk H.size) e;exact H.mnew m1 (eh _ hm1) k hk e1
  ·exact H.mnew m (fg _ hm) k hk e
theorem Hp.inW_ext{h:Hp}{w w':World}(hw:h.inW w)(e:Ext w w'):h.inW w':=λg o ho=>by rw[e.block g (Hp.inW_lt hw ho)];exact hw g o ho
theorem St.ext{w w':World}{h:Hp}{ms:List Hp}(s:St w h ms)(e:Ext w w'):St w' h ms:=
 ⟨Hp.inW_ext s.imm e,λm hm=>Hp.inW_ext (s.own m hm) e,s.off,s.apart⟩
theorem Ends.ext{w0 w w':World}{h0 h:Hp}{ms0 ms:List Hp}(H:Ends w0 h0 ms0 w h ms)(e:Ext w w'):Ends w0 h0 ms0 w' h ms:=
 ⟨H.st.ext e,e.os.trans H.os,e.tape.trans H.tape,e.output.trans H.output,bl H.size e.size,
  λk hk hm=>(e.block k (b6 hk H.size)).trans (H.block k hk hm),H.le,H.hnew,H.mnew⟩
theorem Ends.drew{w0 w:World}{h0 h:Hp}{ms0 ms:List Hp}(H:Ends w0 h0 ms0 w h ms):Ends w0 h0 ms0 w.drew h ms:=
 H.ext (Ext.drew _)
theorem Ends.alloc{w0 w:World}{h0 h:Hp}{ms0 ms:List Hp}(H:Ends w0 h0 ms0 w h ms)(o:Obj):Ends w0 h0 ms0 (w.alloc o) h (Hp.one w.heap.size o::ms):=by
 have H':=H.ext (Ext.alloc w o);refine⟨⟨H'.st.imm,?_,?_,?_⟩,H'.os,H'.tape,H'.output,H'.size,H'.block,H'.le,H'.hnew,?_⟩
 ·intro m hm;rcases bg.1 hm with rfl|hm
  ·intro k o' e;obtain⟨rfl,rfl⟩:=Hp.one_some e;exact heap_alloc_new w o'
  ·exact H'.st.own m hm
 ·intro m hm;rcases bg.1 hm with rfl|hm
  ·intro k;by_cases hk:k=w.heap.size
   ·exact .inr<|Hp.inW_none H.st.imm ω
   ·exact .inl<|Hp.one_ne hk
  ·exact H'.st.off m hm
 ·refine b7.2 ⟨λm hm k=>?_,H'.st.apart⟩;by_cases hk:k=w.heap.size
  ·exact .inr<|Hp.inW_none (H.st.own m hm) ω
  ·exact .inl<|Hp.one_ne hk
 ·intro m hm k hk e;rcases bg.1 hm with rfl|hm
  ·exact ie (Hp.one_ne (o:=o) (show k≠w.heap.size by have:=H.size;omega)) e
  ·exact H'.mnew m hm k hk e
theorem Ends.freeze{w0 w:World}{h0 h:Hp}{ms0 ms:List Hp}{m:Hp}(H:Ends w0 h0 ms0 w h (m::ms)):Ends w0 h0 ms0 w (h.join m) ms:=by
 have hd:m.disj h:=H.st.off m (ax);refine⟨⟨?_,λm' hm'=>H.st.own m' (bi _ hm'),?_,(b7.1 H.st.apart).2⟩,H.os,H.tape,H.output,H.size,H.block,Hp.le_trans H.le (Hp.le_join _ _),?_,λm' hm'=>H.mnew m' (bi _ hm')⟩
 ·intro k o e;unfold Hp.join at e;split at e
  ·rename_i o' e';cases e;exact H.st.imm k _ e'
  ·exact H.st.own m (ax) k o e
 ·intro m' hm' k;rcases (b7.1 H.st.apart).1 m' hm' k with e|e
  ·rcases H.st.off m' (bi _ hm') k with e1|e1
   ·exact .inl e1
   ·right;simp[Hp.join,e1,e]
  ·exact .inl e
 ·intro k hk hm;have h1:=H.hnew k hk hm
  have h2:m k=none:=by
   cases e:m k with
   | none=>rfl
   | some o=>
    obtain⟨m0,hm0,e0⟩:=H.mnew m (ax) k hk (by rw[e];simp);exact ie (hm m0 hm0) e0
  simp only[Hp.join,h2];rw[<-h1];cases h k<;>rfl
theorem Ends.drop{w0 w:World}{h0 h:Hp}{ms0 ms:List Hp}{m:Hp}(H:Ends w0 h0 ms0 w h (m::ms)):Ends w0 h0 ms0 w h ms:=
 ⟨⟨H.st.imm,λm' hm'=>H.st.own m' (bi _ hm'),λm' hm'=>H.st.off m' (bi _ hm'),(b7.1 H.st.apart).2⟩,
  H.os,H.tape,H.output,H.size,H.block,H.le,H.hnew,λm' hm'=>H.mnew m' (bi _ hm')⟩
theorem Ends.perm{w0 w:World}{h0 h:Hp}{ms0 ms ms':List Hp}(H:Ends w0 h0 ms0 w h ms)(p:ms.Perm ms'):Ends w0 h0 ms0 w h ms':=
 ⟨⟨H.st.imm,λm hm=>H.st.own m (p.mem_iff.2 hm),λm hm=>H.st.off m (p.mem_iff.2 hm),(p.pairwise_iff (λh=>Hp.disj_symm h)).1 H.st.apart⟩,
  H.os,H.tape,H.output,H.size,H.block,H.le,H.hnew,λm hm=>H.mnew m (p.mem_iff.2 hm)⟩
theorem Ends.change{w0 w w':World}{h0 h:Hp}{ms0 ms:List Hp}{g:Nat}{o o':Obj}(H:Ends w0 h0 ms0 w h (Hp.one g o::ms))
  (hos:w'.os=w.os) (htape:TL w w') (hout:w'.output=w.output) (hsize:w.heap.size<=w'.heap.size)
  (hg:w'.heap[g]?=some o') (hother:∀k,k<w.heap.size->k≠g->w'.heap[k]?=w.heap[k]?):Ends w0 h0 ms0 w' h (Hp.one g o'::ms):=by
 have hgw:w.heap[g]?=some o:=H.st.own _ (ax) g o (Hp.one_self g o)
 have hoff:∀m∈ms,∀k o1,m k=some o1->k≠g:=λm hm k o1 e he=>by
  subst he;rcases (b7.1 H.st.apart).1 m hm k with e1|e1
  ·rw[Hp.one_self]at e1;cases e1
  ·rw[e1]at e;cases e
 have hhg:h g=none:=by
  rcases H.st.off _ (ax) g with e1|e1
  ·rw[Hp.one_self]at e1;cases e1
  ·exact e1
 refine⟨⟨?_,?_,?_,?_⟩,hos.trans H.os,htape.trans H.tape,hout.trans H.output,bl H.size hsize,?_,H.le,H.hnew,?_⟩
 ·intro k o1 e;rw[hother k (Hp.inW_lt H.st.imm e) (λhe=>by subst he;rw[hhg]at e;cases e)];exact H.st.imm k o1 e
 ·intro m hm;rcases bg.1 hm with rfl|hm
  ·intro k o1 e;obtain⟨rfl,rfl⟩:=Hp.one_some e;exact hg
  ·intro k o1 e;have hm':=H.st.own m (bi _ hm);rw[hother k (Hp.inW_lt hm' e) (hoff m hm k o1 e)];exact hm' k o1 e
 ·intro m hm;rcases bg.1 hm with rfl|hm
  ·intro k;by_cases hk:k=g
   ·subst hk;exact .inr hhg
   ·exact .inl<|Hp.one_ne hk
  ·exact H.st.off m<|bi _ hm
 ·refine b7.2 ⟨λm hm k=>?_,(b7.1 H.st.apart).2⟩;by_cases hk:k=g
  ·right
   cases e:m k with
   | none=>rfl
   | some o1=>exact ie hk<|hoff m hm k o1 e
  ·exact .inl<|Hp.one_ne hk
 ·intro k hk hm
  have hkg:k≠g:=λhe=>by subst he;obtain⟨m0,hm0,e0⟩:=H.mnew _ (ax) k hk (by rw[Hp.one_self];simp);exact ie (hm m0 hm0) e0
  rw[hother k (b6 hk H.size) hkg];exact H.block k hk hm
 ·intro m hm k hk e;rcases bg.1 hm with rfl|hm
  ·by_cases hkg:k=g
   ·subst hkg;exact H.mnew _ (ax) k hk (by rw[Hp.one_self];simp)
   ·exact ie (Hp.one_ne hkg) e
  ·exact H.mnew m (bi _ hm) k hk e
variable {n id t d j dj:Nat} {P:Program} {post:Value->Hp->List Hp->Prop} {a:Act} {y x c:Code} {ds:List Nat} {b:Bool} {v:Value} {fn:Func} {oj:Oper} {l:List Oper} {w0:World} {h0:Hp} {ms0 ms':List Hp} {K:Act->World->Prop} {f:FuncId}
def lk:AE->Nat->Option Value
 | [],_=>none
 | (i,v)::s,j=>match Nat.beq i j with|true=>some v|false=>lk s j
theorem BG(d:Nat)(v:Value)(s:AE):lk ((d,v)::s) d=some v:=by have:Nat.beq d d=true:=Nat.beq_refl d;simp[lk,this]
theorem BN{i:Nat}(v:Value)(s:AE)(h:d≠i):lk ((d,v)::s) i=lk s i:=by
 have:Nat.beq d i=false:=by
  cases e:Nat.beq d i with
  | false=>rfl
  | true=>exact ie (Nat.eq_of_beq_eq_true e) h
 simp[lk,this]
def ev(s:AE):Operand->Option Value
 | .tmp t=>lk s t
 | .const v=>some v
 | .global g=>some (.pt g)
 | .func f=>some (.func (.func f) #[] #[])
def Sh(s:AE):List Operand->Option (List Value)
 | []=>some []
 | x::l=>match ev s x with
  | none=>none
  | some v=>match Sh s l with
   | none=>none
   | some vs=>some (v::vs)
def evp(s:AE):List (Nat×Operand)->Option (List (Nat×Value))
 | []=>some []
 | x::l=>match ev s x.2 with
  | none=>none
  | some v=>match evp s l with
   | none=>none
   | some vs=>some ((x.1,v)::vs)
abbrev mkD(ds:List Nat):List Deferred:=ds.map λD=>{ target:=.collected D,args:=#[] }
structure Has(n:Nat)(ds:List Nat)(a:Act)(s:AE):Prop where
 defers:a.defers=mkD ds
 size:a.tmps.size=n
 slots:∀i v,lk s i=some v->a.tmps[i]?=some v
theorem Has.eval{s:AE}(H:Has n ds a s)(x:Operand)(v:Value)(h:ev s x=some v):a.eval x=v:=by
 cases x with
 | tmp t=>
  have:=H.slots t v h;simp only[Act.eval];rw[bp,this];rfl
 | const u=>cases h;rfl
 | global g=>cases h;rfl
 | func f=>cases h;rfl
theorem Has.put{s:AE}(H:Has n ds a s)(hd:d<n)(v:Value):Has n ds (a.put (some d) v) ((d,v)::s):=by
 refine⟨H.defers,by simp[Act.put,H.size],λi u h=>?_⟩;by_cases hi:d=i
 ·subst hi;rw[BG]at h;cases h;simp[Act.put,H.size,hd]
 ·rw[BN _ _ hi]at h;simp[Act.put,ei hi,H.slots i u h]
theorem Has.put_none{s:AE}(H:Has n ds a s)(v:Value):Has n ds (a.put none v) s:=⟨H.defers,H.size,H.slots⟩
def Sub:AE->AE->Prop
 | [],_=>True
 | (i,v)::r,s=>lk s i=some v/\Sub r s
theorem Sub.lk{s' s:AE}(h:Sub s' s):∀i v,Eng.lk s' i=some v->Eng.lk s i=some v:=by
 induction s' with
 | nil=>intro i v e;cases e
 | cons p r ih=>
  obtain⟨j,u⟩:=p;intro i v e;by_cases hi:j=i
  ·subst hi;rw[BG]at e;cases e;exact h.1
  ·rw[BN _ _ hi]at e;exact ih h.2 i v e
theorem Has.sub{s s':AE}(H:Has n ds a s)(h:Sub s' s):Has n ds a s':=
 ⟨H.defers,H.size,λi v e=>H.slots i v (h.lk i v e)⟩
structure Entry where
 P:Program
 w0:World
 h0:Hp
 ms0:List Hp
 n:Nat
 ds:List Nat
abbrev Entry.Ends(e:Entry)(w:World)(h:Hp)(ms:List Hp):Prop:=Eng.Ends e.w0 e.h0 e.ms0 w h ms
def WS(e:Entry)(c:Code)(Q:Exit->Act->World->Prop)(s:AE)(h:Hp)(ms:List Hp):Prop:=
 ∀a w,Has e.n e.ds a s->e.Ends w h ms->c.wp e.P Q a w
def WL(e:Entry)(ops:Array Oper)(Q:Exit->Act->World->Prop)(l:List Oper)(s:AE)(h:Hp)(ms:List Hp):Prop:=
 ∀a w,Has e.n e.ds a s->e.Ends w h ms->wpList e.P ops Q l a w
def NX(e:Entry)(Q:Exit->Act->World->Prop)(x:Exit)(s:AE)(h:Hp)(ms:List Hp):Prop:=
 ∀a w,Has e.n e.ds a s->e.Ends w h ms->Q x a w
def Inv(e:Entry)(I:AE->Hp->List Hp->Prop)(a:Act)(w:World):Prop:=∃s h ms,I s h ms/\Has e.n e.ds a s/\e.Ends w h ms
section rules
variable {e:Entry} {Q:Exit->Act->World->Prop} {s s':AE} {h:Hp} {ms:List Hp} {ops:Array Oper}
theorem Afn(hs:Sub s' s)(k:WL e ops Q l s' h ms):WL e ops Q l s h ms:=λa w ha hw=>k a w (ha.sub hs) hw
theorem JY{m:Hp}(k:WS e c Q s h ms):WS e c Q s h (m::ms):=λa w ha hw=>k a w ha (Ends.drop hw)
theorem Pa(p:ms.Perm ms')(k:WS e c Q s h ms'):WS e c Q s h ms:=λa w ha hw=>k a w ha (Ends.perm hw p)
theorem AQ{x:Exit}{m:Hp}(k:NX e Q x s h ms):NX e Q x s h (m::ms):=λa w ha hw=>k a w ha (Ends.drop hw)
theorem Iv{x:Exit}(p:ms.Perm ms')(k:NX e Q x s h ms'):NX e Q x s h ms:=λa w ha hw=>k a w ha (Ends.perm hw p)
theorem Ad(k:WL e l.toArray Q l s h ms):WS e (.region id l.toArray false) Q s h ms:=
 λa w ha hw=>wp_region_lit (k a w ha hw)
theorem An(k:NX e Q .normal s h ms):WL e ops Q [] s h ms:=λa w ha hw=>k a w ha hw
theorem Ac(k:WS e x (Exit.then (λa w=>y.wp e.P Q a w) Q) s h ms):WS e (.seq x y) Q s h ms:=
 λa w ha hw=>wp_seq (k a w ha hw)
theorem Ag(k:WS e c (Exit.inBlock id Q) s h ms):WS e (.block id c) Q s h ms:=
 λa w ha hw=>wp_block (k a w ha hw)
theorem Ax(k:NX e Q (.exit id) s h ms):WS e (.exit id) Q s h ms:=λa w ha hw=>wp_exit (k a w ha hw)
theorem Aj(k:NX e Q .ret s h ms):WS e .ret Q s h ms:=λa w ha hw=>wp_ret (k a w ha hw)
theorem Ah(k:NX e Q .normal s h ms):WS e .skip Q s h ms:=λa w ha hw=>wp_skip (k a w ha hw)
theorem Ab(k:WS e y Q s h ms):NX e (Exit.then (λa w=>y.wp e.P Q a w) Q) .normal s h ms:=λa w ha hw=>k a w ha hw
theorem Aa(k:NX e Q (.exit id) s h ms):NX e (Exit.then K Q) (.exit id) s h ms:=λa w ha hw=>k a w ha hw
theorem Ae(k:NX e Q .ret s h ms):NX e (Exit.then K Q) .ret s h ms:=λa w ha hw=>k a w ha hw
theorem Ai(k:NX e Q .normal s h ms):NX e (Exit.inBlock id Q) .normal s h ms:=λa w ha hw=>k a w ha hw
theorem Ak(k:NX e Q .ret s h ms):NX e (Exit.inBlock id Q) .ret s h ms:=λa w ha hw=>k a w ha hw
theorem Af(k:NX e Q .normal s h ms):NX e (Exit.inBlock id Q) (.exit id) s h ms:=λa w ha hw=>by simp only[Exit.inBlock,if_true];exact k a w ha hw
theorem Ou{id':Nat}(hne:Nat.beq id' id=false)(k:NX e Q (.exit id') s h ms):NX e (Exit.inBlock id Q) (.exit id') s h ms:=λa w ha hw=>by
 have:id'≠id:=λhe=>by subst he;rw[Nat.beq_refl]at hne;cases hne
 simp only[Exit.inBlock,this,if_false];exact k a w ha hw
theorem AX(hc:lk s t=some (.bool true))(k:WS e x Q s h ms):WS e (.cond (.tmp t) x y) Q s h ms:=
 λa w ha hw=>wp_cond_true (ha.eval (.tmp t) _ hc) (k a w ha hw)
theorem AL(hc:lk s t=some (.bool false))(k:WS e y Q s h ms):WS e (.cond (.tmp t) x y) Q s h ms:=
 λa w ha hw=>wp_cond_false (ha.eval (.tmp t) _ hc) (k a w ha hw)
theorem BW(hc:lk s t=some (.bool b))(kt:b=true->WS e x Q s h ms)(kf:b=false->WS e y Q s h ms) :
  WS e (.cond (.tmp t) x y) Q s h ms:=
 λa w ha hw=>wp_cond_split (ha.eval (.tmp t) _ hc) (λhb=>kt hb a w ha hw) (λhb=>kf hb a w ha hw)
theorem Aw{p:Prop}{_:Decidable p}(hc:lk s t=some (.bool (decide p)))(kt:p->WS e x Q s h ms)(kf:¬p->WS e y Q s h ms) :
  WS e (.cond (.tmp t) x y) Q s h ms:=
 BW hc (λhb=>kt (dq hb)) (λhb=>kf (of_decide_eq_false hb))
theorem AB(I:Nat->AE->Hp->List Hp->Prop)(n:Nat)(s':AE)(hI:I n s' h ms)(hs:Sub s' s)
  (round:∀n s h ms,I n s h ms->WS e c (Exit.then (λa w=>∃n',n'<n/\Inv e (I n') a w) Q) s h ms):WS e (.loop c) Q s h ms:=by
 intro a w ha hw b k cs
 have key:∀n a w,Inv e (I n) a w->∃x a' w',Q x a' w'/\Arrives e.P (lone (b.at a (.code c::.inLoop c::k)) cs w) b k cs x a' w':=by
  intro n
  induction n using Nat.strongRecOn with
  | _ n ih=>
   intro a w ⟨s,h,ms,hI,ha,hw⟩;obtain⟨x,a₁,w₁,hq,harr⟩:=round n s h ms hI a w ha hw b (.inLoop c::k) cs;cases x with
   | normal=>
    obtain⟨n',hlt,hinv⟩:=hq;obtain⟨x₂,a₂,w₂,hq₂,harr₂⟩:=ih n' hlt a₁ w₁ hinv;exact⟨x₂,a₂,w₂,hq₂,.of_steps (Steps.trans harr (.one step_inLoop)) harr₂⟩
   | exit id=>exact⟨_,a₁,w₁,hq,.pass (x:=.inLoop c) Y (λ_ _=>.inl σ) harr⟩
   | goto l=>exact⟨_,a₁,w₁,hq,.pass (x:=.inLoop c) Y (λ_ _=>.inl σ) harr⟩
   | ret=>exact⟨_,a₁,w₁,hq,.pass (x:=.inLoop c) Y (λ_ _=>.inl σ) harr⟩
   | panic ch=>exact⟨_,a₁,w₁,hq,.pass (x:=.inLoop c) Y (λ_ _=>.inl σ) harr⟩
   | outgrown=>exact⟨_,a₁,w₁,hq,.pass (x:=.inLoop c) Y (λ_ _=>.inl σ) harr⟩
 obtain⟨x,a',w',hq,harr⟩:=key n a w ⟨s',h,ms,hI,ha.sub hs,hw⟩;exact⟨x,a',w',hq,.of_steps (.one step_loop) harr⟩
theorem Ao{I:Nat->AE->Hp->List Hp->Prop}(n':Nat)(s':AE)(hlt:n'<n)(hI:I n' s' h ms)(hs:Sub s' s) :
  NX e (Exit.then (λa w=>∃n',n'<n/\Inv e (I n') a w) Q) .normal s h ms:=
 λ_ _ ha hw=>⟨n',hlt,s',h,ms,hI,ha.sub hs,hw⟩
theorem Bv(I:AE->Hp->List Hp->Prop)(k:WS e x (Exit.then (Inv e I) Q) s h ms)(k':∀s h ms,I s h ms->WS e y Q s h ms) :
  WS e (.seq x y) Q s h ms:=
 λa w ha hw=>wp_seq (Code.wp_mono (λx a w q=>by
  cases x with
  | normal=>obtain⟨s,h,ms,hI,ha,hw⟩:=q;exact k' s h ms hI a w ha hw
  | _=>exact q) (k a w ha hw))
theorem AI{I:AE->Hp->List Hp->Prop}(s':AE)(hI:I s' h ms)(hs:Sub s' s):NX e (Exit.then (Inv e I) Q) .normal s h ms:=
 λ_ _ ha hw=>⟨s',h,ms,hI,ha.sub hs,hw⟩
end rules
def RP(w0:World)(h0:Hp)(ms0:List Hp)(post:Value->Hp->List Hp->Prop):Ending->World->Prop:=
 λx w'=>∃r h' ms',x=.returned r/\Ends w0 h0 ms0 w' h' ms'/\post r h' ms'
def FnT(P:Program)(f:FuncId)(args:Array Value)(h:Hp)(ms:List Hp)(post:Value->Hp->List Hp->Prop):Prop:=
 ∀w,St w h ms->Calls P f args w (RP w h ms post)
def FnV(P:Program)(f:FuncId)(args:Array Value)(h:Hp)(ms:List Hp)(v:Value):Prop:=
 ∀w,St w h ms->Calls P f args w (λx w'=>x=.returned v/\Ext w w')
theorem FnT.mono{args:Array Value}{h:Hp}{ms:List Hp}{post':Value->Hp->List Hp->Prop}(k:FnT P f args h ms post)
  (hp:∀r h' ms',post r h' ms'->post' r h' ms'):FnT P f args h ms post':=
 λw hw=>(k w hw).mono λ_ _ ⟨r,h',ms',e1,e2,e3⟩=>⟨r,h',ms',e1,e2,hp _ _ _ e3⟩
theorem Ends.toExt{w w':World}{h h':Hp}(H:Ends w h [] w' h' ms'):Ext w w':=
 ⟨H.os,H.tape,H.output,H.size,λk hk=>H.block k hk σ⟩
theorem FnT.toV{args:Array Value}{h:Hp}(k:FnT P f args h [] (λr _ _=>r=v)):FnV P f args h [] v:=
 λw hw=>(k w hw).mono λ_ _ ⟨_,_,_,e1,e2,e3⟩=>⟨by rw[e1,e3],e2.toExt⟩
def AR:Nat->List Value->AE
 | _,[]=>[]
 | i,v::l=>(i,v)::AR (i+1) l
theorem Uz(l:List Value):∀k i v,lk (AR k l) i=some v->k<=i/\l[i-k]?=some v:=by
 induction l with
 | nil=>intro k i v e;cases e
 | cons x l ih=>
  intro k i v e;by_cases hi:k=i
  ·subst hi;rw[AR,BG]at e;cases e;simp
  ·rw[AR,BN _ _ hi]at e;obtain⟨h1,h2⟩:=ih (k+1) i v e;refine⟨ω,?_⟩;rw[show i-k=(i-(k+1))+1 by omega];simpa using h2
theorem Ap{l:List Value}{h:Hp}{ms:List Hp}
  (hf:P.funcs[f]?=some fn) (hn:fn.ntmps=n) (hb:fn.body=some c) (hl:Nat.ble l.length n=true)
  (k:∀w0,St w0 h ms->WS ⟨P,w0,h,ms,n,[]⟩ c (bodyPost P fn (RP w0 h ms post)) (AR 0 l) h ms):FnT P f l.toArray h ms post:=by
 intro w hw;refine calls_of_wp hf hb<|k w hw _ w ?_<|Ends.refl hw;have hl':=di hl;refine⟨Y,by simp[hn];omega,λi v e=>?_⟩;obtain⟨_,h2⟩:=Uz l 0 i v e
 have hi:i<l.length:=by
  rcases f6 i l.length with h'|h'
  ·exact h'
  ·rw[eq ω]at h2;cases h2
 simp only[Nat.sub_zero]at h2;rw[Array.getElem?_append_left (by simpa using hi)];simpa using h2
theorem Al{s:AE}{h:Hp}{ms:List Hp}(hr:fn.results=#[.tmp t])(hv:lk s t=some v)(hp:post v h ms) :
  NX ⟨P,w0,h0,ms0,n,[]⟩ (bodyPost P fn (RP w0 h0 ms0 post)) .ret s h ms:=λa w ha hw=>
 bodyPost_ret (results_tmp hr _ _ _) ha.defers ⟨_,h,ms,rfl,hw,by
  have:=ha.eval (.tmp t) v hv;simp only[Act.eval]at this
  rw[this];exact hp⟩
theorem Ck{s:AE}{h:Hp}{ms:List Hp}{u:Nat}{v':Value}(hr:fn.results=#[.tmp t,.tmp u])(hv:lk s t=some v)(hv':lk s u=some v')(hp:post (.tuple #[v,v']) h ms) :
  NX ⟨P,w0,h0,ms0,n,[]⟩ (bodyPost P fn (RP w0 h0 ms0 post)) .ret s h ms:=λa w ha hw=>
 bodyPost_ret (results_tmp2 hr _ _ _) ha.defers ⟨_,h,ms,rfl,hw,by
  have h1:=ha.eval (.tmp t) v hv;have h2:=ha.eval (.tmp u) v' hv';simp only[Act.eval]at h1 h2
  rw[h1,h2];exact hp⟩
theorem Cv{s:AE}{h:Hp}{ms:List Hp}(hr:fn.results=#[])(hp:post (.tuple #[]) h ms) :
  NX ⟨P,w0,h0,ms0,n,[]⟩ (bodyPost P fn (RP w0 h0 ms0 post)) .normal s h ms:=λa w ha hw=>
 bodyPost_end (results_none hr _ _ _) ha.defers ⟨_,h,ms,rfl,hw,hp⟩
theorem JJ{s:AE}{h:Hp}{ms:List Hp}(hr:fn.results=#[])(hp:post (.tuple #[]) h ms) :
  NX ⟨P,w0,h0,ms0,n,[]⟩ (bodyPost P fn (RP w0 h0 ms0 post)) .ret s h ms:=λa w ha hw=>
 bodyPost_ret (results_none hr _ _ _) ha.defers ⟨_,h,ms,rfl,hw,hp⟩
def OpRes(P:Program)(o:Oper)(ρ:Operand->Value)(w:World)(Φ:Value->World->Prop):Prop:=
 match (execOp ρ o).run P w with
 | .ok (.value v) w'=>Φ v w'
 | .ok .skip w'=>Φ undef w'
 | .ok (.enter f args) w'=>Calls P f args w' (λx w''=>∃v,x=.returned v/\Φ v w'')
 | _=>False
theorem OpRes.wp{o:Oper}{w:World}{Φ:Value->World->Prop}{Q:Exit->Act->World->Prop}
  (h:OpRes P o a.eval w Φ) (k:∀v w',Φ v w'->K (a.put o.dst v) w'):o.wp P a w K Q:=by
 unfold OpRes at h;unfold Oper.wp;generalize (execOp a.eval o).run P w=r at *;cases r with
 | ok x w'=>
  cases x<;>simp only at h<;>simp only[Oper.upon]
  case value v=>exact k _ _ h
  case skip=>exact k _ _ h
  case enter f args=>exact h.mono λx w'' ⟨v,e,hv⟩=>by subst e;exact k _ _ hv
 | halt x w'=>exact h.elim
def Evs(s:AE)(ρ:Operand->Value):Prop:=∀x u,ev s x=some u->ρ x=u
theorem Evs.map{s:AE}{ρ:Operand->Value}(H:Evs s ρ):∀(l:List Operand) (vs:List Value),Sh s l=some vs->l.map ρ=vs
 | [],vs,h=>by cases h;rfl
 | x::l,vs,h=>by
  unfold Sh at h;cases hx:ev s x with
  | none=>rw[hx]at h;cases h
  | some v=>
   rw[hx]at h;cases hl:Sh s l with
   | none=>rw[hl]at h;cases h
   | some us=>rw[hl]at h;cases h;rw[dr,H _ _ hx,H.map l us hl]
theorem Evs.pairs{s:AE}{ρ:Operand->Value}(H:Evs s ρ):∀(l:List (Nat×Operand)) (vs:List (Nat×Value)),evp s l=some vs->(l.map λ(i,x)=>(i,ρ x))=vs
 | [],vs,h=>by cases h;rfl
 | x::l,vs,h=>by
  unfold evp at h;cases hx:ev s x.2 with
  | none=>rw[hx]at h;cases h
  | some v=>
   rw[hx]at h;cases hl:evp s l with
   | none=>rw[hl]at h;cases h
   | some us=>rw[hl]at h;cases h;rw[dr,H.pairs l us hl];simp[H _ _ hx]
def OX(P:Program)(o:Oper)(s:AE)(h:Hp)(ms:List Hp)(v:Value):Prop:=
 ∀ρ w,Evs s ρ->St w h ms->OpRes P o ρ w (λv' w'=>v'=v/\Ext w w')
def OT(e:Entry)(o:Oper)(s:AE)(h:Hp)(ms:List Hp)(post:Value->Hp->List Hp->Prop):Prop:=
 ∀ρ w,Evs s ρ->e.Ends w h ms->OpRes e.P o ρ w (λv w'=>∃h' ms',e.Ends w' h' ms'/\post v h' ms')
section
variable {e:Entry} {Q:Exit->Act->World->Prop} {s:AE} {h:Hp} {ms:List Hp} {ops:Array Oper} {o:Oper} {rest:List Oper}
theorem LV(hg:o.guard=none)(k:∀a w,Has e.n e.ds a s->e.Ends w h ms->o.wp e.P a w (wpList e.P ops Q rest) Q):WL e ops Q (o::rest) s h ms:=
 λa w ha hw=>by unfold wpList;rw[ah (by simp[Region.wanted,hg])];exact .inl<|k a w ha hw
theorem AeO(hx:OX e.P o s h ms v)(hd:o.dst=some d)(hn:Nat.blt d e.n=true)(hg:o.guard=none)(k:WL e ops Q rest ((d,v)::s) h ms) :
  WL e ops Q (o::rest) s h ms:=
 LV hg λa w ha hw=>(hx a.eval w ha.eval hw.st).wp λv' w' ⟨e1,e2⟩=>by subst e1;rw[hd];exact k _ _ (ha.put (di hn) _)<|hw.ext e2
theorem HP(hx:OT e o s h ms post)(hd:o.dst=some d)(hn:Nat.blt d e.n=true)(hg:o.guard=none)
  (k:∀v h' ms',post v h' ms'->WL e ops Q rest ((d,v)::s) h' ms'):WL e ops Q (o::rest) s h ms:=
 LV hg λa w ha hw=>(hx a.eval w ha.eval hw).wp λv' w' ⟨h',ms',e1,e2⟩=>by rw[hd];exact k _ _ _ e2 _ _ (ha.put (di hn) _) e1
theorem Og(hx:OT e o s h ms post)(hd:o.dst=none)(hg:o.guard=none)
  (k:∀v h' ms',post v h' ms'->WL e ops Q rest s h' ms'):WL e ops Q (o::rest) s h ms:=
 LV hg λa w ha hw=>(hx a.eval w ha.eval hw).wp λv' w' ⟨h',ms',e1,e2⟩=>by rw[hd];exact k _ _ _ e2 _ _ (ha.put_none _) e1
theorem Has.yields(ha:Has n ds a s)(hj:ops[j]?=some oj)(hd:oj.dst=some dj)(hv:lk s dj=some (.bool b)):yielded ops a.tmps j=some b:=by simp[yielded,hj,hd,ha.slots dj _ hv]
theorem Ac4(hx:OX e.P o s h ms v)(hd:o.dst=some d)(hn:Nat.blt d e.n=true)(hg:o.guard=some (j,b))(hj:ops[j]?=some oj)(hdj:oj.dst=some dj)(hv:lk s dj=some (.bool b))
  (k:WL e ops Q rest ((d,v)::s) h ms):WL e ops Q (o::rest) s h ms:=λa w ha hw=>by
 unfold wpList;rw[ah (by simp[Region.wanted,hg,ha.yields hj hdj hv])]
 exact .inl ((hx a.eval w ha.eval hw.st).wp λv' w' ⟨e1,e2⟩=>by
  subst e1;rw[hd]
  exact k _ _ (ha.put (di hn) _)<|hw.ext e2)
theorem Ab4{b':Bool}(hd:o.dst=some d)(hn:Nat.blt d e.n=true)(hg:o.guard=some (j,b))(hj:ops[j]?=some oj)(hdj:oj.dst=some dj)(hv:lk s dj=some (.bool b'))(hne:(b'==b)=false)
  (k:WL e ops Q rest ((d,undef)::s) h ms):WL e ops Q (o::rest) s h ms:=λa w ha hw=>by
 unfold wpList;rw[ae (by simp[Region.wanted,hg,ha.yields hj hdj hv];simpa using hne),hd];exact k _ _ (ha.put (di hn) _) hw
theorem Has.yieldsu(ha:Has n ds a s)(hj:ops[j]?=some oj)(hd:oj.dst=some dj)(hv:lk s dj=some undef):yielded ops a.tmps j=none:=by simp[yielded,hj,hd,ha.slots dj _ hv,undef]
theorem Bc(hd:o.dst=some d)(hn:Nat.blt d e.n=true)(hg:o.guard=some (j,b))(hj:ops[j]?=some oj)(hdj:oj.dst=some dj)(hv:lk s dj=some undef)
  (k:WL e ops Q rest ((d,undef)::s) h ms):WL e ops Q (o::rest) s h ms:=λa w ha hw=>by
 unfold wpList;rw[ae (by simp[Region.wanted,hg,ha.yieldsu hj hdj hv]),hd];exact k _ _ (ha.put (di hn) _) hw
theorem AU{p:Prop}{_:Decidable p}(hc:lk s t=some (.bool (decide p)))(kt:p->WL e ops Q l ((t,.bool true)::s) h ms)(kf:¬p->WL e ops Q l ((t,.bool false)::s) h ms):WL e ops Q l s h ms:=by
 by_cases hp:p
 ·refine λa w ha hw=>kt hp a w ⟨ha.defers,ha.size,λi v hi=>?_⟩ hw;by_cases hi':t=i
  ·subst hi';rw[BG]at hi;cases hi;rw[ha.slots t _ hc];simp[hp]
  ·rw[BN _ _ hi']at hi;exact ha.slots i v hi
 ·refine λa w ha hw=>kf hp a w ⟨ha.defers,ha.size,λi v hi=>?_⟩ hw;by_cases hi':t=i
  ·subst hi';rw[BG]at hi;cases hi;rw[ha.slots t _ hc];simp[hp]
  ·rw[BN _ _ hi']at hi;exact ha.slots i v hi
theorem N9(hc:lk s t=some (.bool b))(kt:b=true->WL e ops Q l ((t,.bool true)::s) h ms)(kf:b=false->WL e ops Q l ((t,.bool false)::s) h ms):WL e ops Q l s h ms:=by
 have e1:decide (b=true)=b:=by cases b<;>rfl
 exact AU (p:=b=true) (by rw[hc,e1]) kt<|λhb=>kf (by simpa using hb)
end
end Go.Eng
namespace Go.Eng
open Go.RowKit
variable {v:Value} {vs cs:List Value} {ts:Array TypeId} {f:FuncId} {l:List Operand} {d:TypeDesc} {e:Entry} {post:Value->Hp->List Hp->Prop} {pre fr:List Hp} {g i:Nat} {fs:Array Field} {Q:Exit->Act->World->Prop} {ops:Array Oper} {rest:List Oper}
def Ih:TypeDesc->Bool
 | .struct _|.array _ _=>true
 | _=>false
theorem Ds{P:Program}{t:TypeId}(h:P.underlying t=some d)(w:World):(isAgg t).run P w=.ok (Ih d) w:=by simp only[isAgg,Sem.run_bind,run_underlying h,Result.andThen_ok];cases d<;>rfl
def Cell(h:Hp)(ms:List Hp)(p:Addr)(v:Value):Prop:=
 p.spot=none/\∃cs el fr,(h p.block=some (.cells cs el fr)\/∃m∈ms,m p.block=some (.cells cs el fr))/\cs[p.off]?=some v
def Seg(h:Hp)(ms:List Hp)(p:Addr)(vs:List Value):Prop:=∀j v,vs[j]?=some v->Cell h ms (p.add j) v
def BI(g:Nat)(el:TypeId)(l:List Value):Hp:=Hp.one g (.cells l.toArray el (0,0))
theorem St.cell{w:World}{h:Hp}{ms:List Hp}(s:St w h ms){p:Addr}(c:Cell h ms p v):w.cell? p=some v:=by
 obtain⟨hs,cs,el,fr,hm,hv⟩:=c
 have hb:w.heap[p.block]?=some (.cells cs el fr):=by
  rcases hm with hm|⟨m,hm,e⟩
  ·exact s.imm _ _ hm
  ·exact s.own m hm _ _ e
 simp[World.cell?,hb,hs,hv]
theorem Cell.le{h h':Hp}{ms:List Hp}{p:Addr}(c:Cell h ms p v)(l:h.le h'):Cell h' ms p v:=
 let ⟨hs,cs,el,fr,hm,hv⟩:=c
 ⟨hs,cs,el,fr,hm.imp (l _ _) id,hv⟩
theorem Cell.sub{h:Hp}{ms ms':List Hp}{p:Addr}(c:Cell h ms p v)(l:∀m∈ms,m∈ms'):Cell h ms' p v:=
 let ⟨hs,cs,el,fr,hm,hv⟩:=c
 ⟨hs,cs,el,fr,hm.imp id (λ⟨m,e1,e2⟩=>⟨m,l m e1,e2⟩),hv⟩
theorem Seg.le{h h':Hp}{ms:List Hp}{p:Addr}(c:Seg h ms p vs)(l:h.le h'):Seg h' ms p vs:=λj v e=>(c j v e).le l
theorem Seg.sub{h:Hp}{ms ms':List Hp}{p:Addr}(c:Seg h ms p vs)(l:∀m∈ms,m∈ms'):Seg h ms' p vs:=λj v e=>(c j v e).sub l
theorem Cell.any{h:Hp}{ms:List Hp}{p:Addr}(c:Cell h [] p v):Cell h ms p v:=c.sub σ
theorem Seg.any{h:Hp}{ms:List Hp}{p:Addr}(c:Seg h [] p vs):Seg h ms p vs:=c.sub σ
theorem BF(p:Addr)(i j:Nat):(p.add i).add j=p.add (i+j):=by unfold Addr.add;by_cases hi:i=0<;>by_cases hj:j=0<;>simp[hi,hj,Nat.add_assoc]
theorem Fc(p:Addr):p.add 0=p:=by simp[Addr.add]
theorem CK(p:Addr)(i:Nat):(p.add i).block=p.block:=by unfold Addr.add;split<;>rfl
theorem DN(p:Addr)(i:Nat):(p.add i).off=p.off+i:=by unfold Addr.add;split<;>simp_all
theorem Cell.blk{h:Hp}{ms:List Hp}{el:TypeId}{l:List Value}(i:Nat)(hm:ms[i]?=some (BI g el l)){k:Nat}(hv:l[k]?=some v):Cell h ms ((⟨g,0,none⟩:Addr).add k) v:=by
 refine⟨by unfold Addr.add;split<;>rfl,l.toArray,el,(0,0),.inr ⟨_,dy hm,?_⟩,?_⟩
 ·rw[CK];exact Hp.one_self _ _
 ·rw[DN];simpa using hv
theorem Cell.blk0{h:Hp}{ms:List Hp}{el:TypeId}{l:List Value}(i:Nat)(hm:ms[i]?=some (BI g el l))(hv:l[0]?=some v):Cell h ms ⟨g,0,none⟩ v:=by
 have:=Cell.blk (h:=h) i hm (k:=0) hv
 rwa [Fc]at this
theorem Seg.blk{h:Hp}{ms:List Hp}{el:TypeId}{l:List Value}(i:Nat)(hm:ms[i]?=some (BI g el l)):Seg h ms ⟨g,0,none⟩ l:=λ_ _ e=>Cell.blk i hm e
theorem Seg.at0{h:Hp}{ms:List Hp}{p:Addr}(c:Seg h ms p vs)(e:vs[0]?=some v):Cell h ms p v:=by have:=c 0 v e;rwa [Fc]at this
structure Elem(P:Program)(el:TypeId)(sz:Nat)(z:Value)(bytes:Nat):Prop where
 info:∃i,P.info? el=some i/\i.zero=some z/\i.size=sz/\i.bytes=bytes
theorem Elem.of{P:Program}{el:TypeId}{sz:Nat}{z:Value}{bytes:Nat}(h:(P.info? el).map (λi=>(i.zero,i.size,i.bytes))=some (some z,sz,bytes)):Elem P el sz z bytes:=by
 cases e:P.info? el with
 | none=>rw[e]at h;cases h
 | some i=>rw[e]at h;simp at h;exact⟨i,e ▸ Y,h.1,h.2.1,h.2.2⟩
theorem Elem.sizeOf{P:Program}{el:TypeId}{sz:Nat}{z:Value}{bytes:Nat}(E:Elem P el sz z bytes)(w:World):(Go.sizeOf el).run P w=.ok sz w:=by obtain⟨i,h1,h2,h3,h4⟩:=E.info;simp[Go.sizeOf,typeInfo,h1,h3]
theorem Elem.zeroValue{P:Program}{el:TypeId}{sz:Nat}{z:Value}{bytes:Nat}(E:Elem P el sz z bytes)(w:World):(Go.zeroValue el).run P w=.ok z w:=by obtain⟨i,h1,h2,h3,h4⟩:=E.info;simp[Go.zeroValue,typeInfo,h1,h2]
section
variable {P:Program} {o:Oper} {s:AE} {h:Hp} {ms:List Hp}
theorem Bs(k:∀ρ w,Evs s ρ->St w h ms->(execOp ρ o).run P w=.ok (.value v) w):OX P o s h ms v:=λρ w hρ hw=>by unfold OpRes;rw[k ρ w hρ hw];exact⟨Y,Ext.refl _⟩
theorem Au{x:Operand}(ho:o.op=.move x)(hx:ev s x=some v):OX P o s h ms v:=
 Bs λρ w hρ _=>by simp[execOp,ho,hρ _ _ hx]
theorem II{x:Operand}(ho:o.op=.assign x)(hx:ev s x=some v):OX P o s h ms v:=
 Bs λρ w hρ _=>by simp[execOp,ho,hρ _ _ hx]
theorem CS{c x y:Operand}(ho:o.op=.pick c x y)(hc:ev s c=some (.bool true))(hx:ev s x=some v):OX P o s h ms v:=
 Bs λρ w hρ _=>by simp[execOp,ho,hρ _ _ hc,hρ _ _ hx,asBool]
theorem CA{c x y:Operand}(ho:o.op=.pick c x y)(hc:ev s c=some (.bool false))(hx:ev s y=some v):OX P o s h ms v:=
 Bs λρ w hρ _=>by simp[execOp,ho,hρ _ _ hc,hρ _ _ hx,asBool]
theorem BM{x:Operand}{vs:Array Value}(ho:o.op=.extract x i)(hx:ev s x=some (.tuple vs))(hv:vs[i]?=some v):OX P o s h ms v:=
 Bs λρ w hρ _=>by simp[execOp,ho,hρ _ _ hx,Instr.extract,hv]
section
variable {t u:TypeId} {x y:Operand} {k:IntKind} {a b:Int}
theorem VI(ho:o.op=.binOp .add t x y u)(hx:ev s x=some (.int k a))(hy:ev s y=some (.int k b)):OX P o s h ms (.int k (k.wrap (a+b))):=
 Bs λρ w hρ _=>by simp[execOp,ho,hρ _ _ hx,hρ _ _ hy,go_sem]
theorem AbX(ho:o.op=.binOp .sub t x y u)(hx:ev s x=some (.int k a))(hy:ev s y=some (.int k b)):OX P o s h ms (.int k (k.wrap (a-b))):=
 Bs λρ w hρ _=>by simp[execOp,ho,hρ _ _ hx,hρ _ _ hy,go_sem]
theorem UU(ho:o.op=.binOp .mul t x y u)(hx:ev s x=some (.int k a))(hy:ev s y=some (.int k b)):OX P o s h ms (.int k (k.wrap (a*b))):=
 Bs λρ w hρ _=>by simp[execOp,ho,hρ _ _ hx,hρ _ _ hy,go_sem]
theorem Ex{n:Int}(hn:-9223372036854775808<=n/\n<=9223372036854775807):IntKind.i64.wrap n=n:=IntWalk.i64_in n hn
theorem AdW(ho:o.op=.binOp .add t x y u)(hx:ev s x=some (.int .i64 a))(hy:ev s y=some (.int .i64 b))(hr:-9223372036854775808<=a+b/\a+b<=9223372036854775807):OX P o s h ms (.int .i64 (a+b)):=by have:=VI (P:=P) (h:=h) (ms:=ms) ho hx hy;rwa [Ex hr]at this
theorem AdN(ho:o.op=.binOp .sub t x y u)(hx:ev s x=some (.int .i64 a))(hy:ev s y=some (.int .i64 b))(hr:-9223372036854775808<=a-b/\a-b<=9223372036854775807):OX P o s h ms (.int .i64 (a-b)):=by have:=AbX (P:=P) (h:=h) (ms:=ms) ho hx hy;rwa [Ex hr]at this
theorem Adh(ho:o.op=.binOp .mul t x y u)(hx:ev s x=some (.int .i64 a))(hy:ev s y=some (.int .i64 b))(hr:-9223372036854775808<=a*b/\a*b<=9223372036854775807):OX P o s h ms (.int .i64 (a*b)):=by have:=UU (P:=P) (h:=h) (ms:=ms) ho hx hy;rwa [Ex hr]at this
theorem Vh(ho:o.op=.binOp .quo t x y u)(hx:ev s x=some (.int k a))(hy:ev s y=some (.int k b))(hb:b≠0):OX P o s h ms (.int k (k.wrap (a.tdiv b))):=
 Bs λρ w hρ _=>by simp[execOp,ho,hρ _ _ hx,hρ _ _ hy,go_sem,hb]
theorem T9{a b:Int}(ha:-9223372036854775808<=a/\a<=9223372036854775807)(hb:1<=b):-9223372036854775808<=a.tdiv b/\a.tdiv b<=9223372036854775807:=by
 rcases Int.lt_or_le a 0 with h0|h0
 ·have e:a.tdiv b=-((-a)/b):=by rw[tdiv_eq_if];simp[Int.not_le.2 h0]
  have h1:(-a)/b<=-a:=Int.ediv_le_self _ ω;have h2:0<=(-a)/b:=Int.ediv_nonneg ω ω;omega
 ·have e:a.tdiv b=a/b:=by rw[tdiv_eq_if];simp[h0]
  have h1:a/b<=a:=Int.ediv_le_self _ h0;have h2:0<=a/b:=Int.ediv_nonneg h0 ω;omega
theorem AdY(ho:o.op=.binOp .quo t x y u)(hx:ev s x=some (.int .i64 a))(hy:ev s y=some (.int .i64 b))(ha:-9223372036854775808<=a/\a<=9223372036854775807)(hb:1<=b):OX P o s h ms (.int .i64 (a.tdiv b)):=by have:=Vh (P:=P) (h:=h) (ms:=ms) ho hx hy ω;rwa [Ex (T9 ha hb)]at this
theorem DC(ho:o.op=.binOp .quo t x y u)(hx:ev s x=some (.int .i64 a))(hy:ev s y=some (.int .i64 b))(ha:0<=a/\a<=9223372036854775807)(hb:1<=b):OX P o s h ms (.int .i64 (a/b)):=by
 have:=AdY (P:=P) (h:=h) (ms:=ms) ho hx hy ω hb;have e:a.tdiv b=a/b:=by rw[tdiv_eq_if];simp[ha.1]
 rwa [e]at this
theorem X3(ho:o.op=.binOp .rem t x y u)(hx:ev s x=some (.int k a))(hy:ev s y=some (.int k b))(hb:b≠0):OX P o s h ms (.int k (a.tmod b)):=
 Bs λρ w hρ _=>by simp[execOp,ho,hρ _ _ hx,hρ _ _ hy,go_sem,hb]
theorem C6(ho:o.op=.binOp .rem t x y u)(hx:ev s x=some (.int k a))(hy:ev s y=some (.int k b))(ha:0<=a)(hb:1<=b):OX P o s h ms (.int k (a%b)):=by
 have:=X3 (P:=P) (h:=h) (ms:=ms) ho hx hy ω;have e:a.tmod b=a%b:=by rw[tmod_eq_if];simp[ha]
 rwa [e]at this
theorem Dy(ho:o.op=.binOp .lss t x y u)(hx:ev s x=some (.int k a))(hy:ev s y=some (.int k b)):OX P o s h ms (.bool (decide (a<b))):=
 Bs λρ w hρ _=>by simp[execOp,ho,hρ _ _ hx,hρ _ _ hy,go_sem]
theorem TS(ho:o.op=.binOp .leq t x y u)(hx:ev s x=some (.int k a))(hy:ev s y=some (.int k b)):OX P o s h ms (.bool (decide (a<=b))):=
 Bs λρ w hρ _=>by simp[execOp,ho,hρ _ _ hx,hρ _ _ hy,go_sem]
theorem Ci(ho:o.op=.binOp .gtr t x y u)(hx:ev s x=some (.int k a))(hy:ev s y=some (.int k b)):OX P o s h ms (.bool (decide (b<a))):=
 Bs λρ w hρ _=>by simp[execOp,ho,hρ _ _ hx,hρ _ _ hy,go_sem]
theorem MZ(ho:o.op=.binOp .geq t x y u)(hx:ev s x=some (.int k a))(hy:ev s y=some (.int k b)):OX P o s h ms (.bool (decide (b<=a))):=
 Bs λρ w hρ _=>by simp[execOp,ho,hρ _ _ hx,hρ _ _ hy,go_sem]
theorem Cq(ho:o.op=.binOp .eql t x y u)(hx:ev s x=some (.int k a))(hy:ev s y=some (.int k b)):OX P o s h ms (.bool (decide (a=b))):=
 Bs λρ w hρ _=>by simp[execOp,ho,hρ _ _ hx,hρ _ _ hy,go_sem];rfl
theorem EO(ho:o.op=.binOp .neq t x y u)(hx:ev s x=some (.int k a))(hy:ev s y=some (.int k b)):OX P o s h ms (.bool (decide (a≠b))):=
 Bs λρ w hρ _=>by simp[execOp,ho,hρ _ _ hx,hρ _ _ hy,go_sem];rfl
theorem Abm(ho:o.op=.unOp .neg t x)(hx:ev s x=some (.int k a)):OX P o s h ms (.int k (k.wrap (-a))):=
 Bs λρ w hρ _=>by simp[execOp,ho,hρ _ _ hx,Op.unary,Op.intArith]
theorem Pw{k':IntKind}(ho:o.op=.convert t u x)(ht:P.underlying t=some d)(hu:P.underlying u=some (.int k'))(hx:ev s x=some (.int k a))(hr:k'.wrap a=a):OX P o s h ms (.int k' a):=
 Bs λρ w hρ _=>by simp[execOp,ho,hρ _ _ hx,convert,run_underlying ht,run_underlying hu,Conv.intToInt,hr]
theorem Ec{k':IntKind}(ho:o.op=.convert t u x)(ht:P.underlying t=some d)(hu:P.underlying u=some (.int k'))(hx:ev s x=some (.int k a)):OX P o s h ms (.int k' (k'.wrap a)):=
 Bs λρ w hρ _=>by simp[execOp,ho,hρ _ _ hx,convert,run_underlying ht,run_underlying hu,Conv.intToInt]
theorem PR{k':IntKind}(ho:o.op=.call { callee:=.builtin .max,args:=#[x,y],argTypes:=ts })(hx:ev s x=some (.int k a))(hy:ev s y=some (.int k' b)):OX P o s h ms (.int k (max a b)):=
 Bs λρ w hρ _=>by
  have:(if b>a then b else a)=max a b:=ω
  simp[execOp,ho,hρ _ _ hx,hρ _ _ hy,resolve,invoke,builtin,run_max_int2,this]
theorem Um{k':IntKind}(ho:o.op=.call { callee:=.builtin .min,args:=#[x,y],argTypes:=ts })(hx:ev s x=some (.int k a))(hy:ev s y=some (.int k' b)):OX P o s h ms (.int k (min a b)):=
 Bs λρ w hρ _=>by
  have:(if b<a then b else a)=min a b:=ω
  simp[execOp,ho,hρ _ _ hx,hρ _ _ hy,resolve,invoke,builtin,run_min_int2,this]
end
section
variable {t u:TypeId} {x y:Operand} {a b:Bool}
theorem Kj(ho:o.op=.binOp .eql t x y u)(ht:P.underlying t=some .bool)(hx:ev s x=some (.bool a))(hy:ev s y=some (.bool b)):OX P o s h ms (.bool (decide (a=b))):=
 Bs λρ w hρ _=>by simp[execOp,ho,hρ _ _ hx,hρ _ _ hy,go_sem,run_eql_bool _ _ _ _ ht];cases a<;>cases b<;>rfl
theorem OF(ho:o.op=.binOp .neq t x y u)(ht:P.underlying t=some .bool)(hx:ev s x=some (.bool a))(hy:ev s y=some (.bool b)):OX P o s h ms (.bool (decide (a≠b))):=
 Bs λρ w hρ _=>by simp[execOp,ho,hρ _ _ hx,hρ _ _ hy,go_sem,run_neq_bool _ _ _ _ ht];cases a<;>cases b<;>rfl
theorem Dn(ho:o.op=.unOp .not t x)(hx:ev s x=some (.bool a)):OX P o s h ms (.bool (!a)):=
 Bs λρ w hρ _=>by simp[execOp,ho,hρ _ _ hx,Op.unary]
end
section
variable {t el:TypeId} {x y:Operand} {p:Addr} {len cap sz:Nat} {k:IntKind}
theorem Cf{z:Value}{bytes:Nat}{i:Int}(j:Nat)(ho:o.op=.indexAddr t x y)(ht:P.underlying t=some (.slice el))(hs:Elem P el sz z bytes)(hx:ev s x=some (.slice (some p) len cap))(hy:ev s y=some (.int k i))(hi:i=(j:Int))(hlt:j<len) :
  OX P o s h ms (.pointer (some (p.add (j*sz)))):=
 Bs λρ w hρ _=>by
  have h1:(0:Int)<=i/\i<(len:Int):=ω
  have h2:i.toNat=j:=ω
  simp[execOp,ho,hρ _ _ hx,hρ _ _ hy,Instr.indexAt,run_underlying ht,asIntOf,h1,h2,hs.sizeOf]
theorem FX{z:Value}{bytes:Nat}{i:Int}(j:Nat)(ho:o.op=.indexAddr t x y)(ht:P.underlying t=some (.array len el))(hs:Elem P el sz z bytes)(hx:ev s x=some (.pointer (some p)))(hy:ev s y=some (.int k i))(hi:i=(j:Int))(hlt:j<len) :
  OX P o s h ms (.pointer (some (p.add (j*sz)))):=
 Bs λρ w hρ _=>by
  have h1:(0:Int)<=i/\i<(len:Int):=ω
  have h2:i.toNat=j:=ω
  simp[execOp,ho,hρ _ _ hx,hρ _ _ hy,Instr.indexAt,run_underlying ht,Instr.sureAddr,asIntOf,h1,h2,hs.sizeOf]
theorem X7{f:Field}{n:Nat}(ho:o.op=.fieldAddr t x i)(ht:P.underlying t=some (.struct fs))(hf:fs[i]?=some f)(hs:∀w,(sizeOf f.type).run P w=.ok (n+1) w)(hx:ev s x=some (.pointer (some p))) :
  OX P o s h ms (.pointer (some (p.add f.offset))):=
 Bs λρ w hρ _=>by simp[execOp,ho,hρ _ _ hx,Instr.fieldAt,run_underlying ht,hf,Instr.sureAddr,fieldPlace,hs]
theorem AcQ(ho:o.op=.load t x)(ht:P.underlying t=some d)(hd:Ih d=false)(hx:ev s x=some (.pointer (some p)))(hc:Cell h ms p v):OX P o s h ms v:=
 Bs λρ w hρ hw=>by
  have ha:(isAgg t).run P w=.ok false w:=by rw[Ds ht,hd]
  simp[execOp,ho,hρ _ _ hx,Instr.loadAt,Instr.sureAddr,loadVar,ha,hw.cell hc]
theorem Zi{z:Value}{bytes:Nat}(ho:o.op=.load t x)(ht:P.underlying t=some d)(hd:Ih d=true)(hs:Elem P t sz z bytes)(hl:vs.length=sz)(hx:ev s x=some (.pointer (some p)))(hc:Seg h ms p vs):OX P o s h ms (.agg vs.toArray):=
 Bs λρ w hρ hw=>by
  have ha:(isAgg t).run P w=.ok true w:=by rw[Ds ht,hd]
  have hc':∀j v,vs[j]?=some v->w.cell? (p.add j)=some v:=λj v e=>hw.cell (hc j v e);subst hl;simp[execOp,ho,hρ _ _ hx,Instr.loadAt,Instr.sureAddr,loadVar,ha,hs.sizeOf,run_loadCells_list (P:=P) w p vs hc']
theorem QQ(ho:o.op=.nilCheck x)(hx:ev s x=some (.pointer (some p))):OX P o s h ms (.pointer (some p)):=
 Bs λρ w hρ _=>by simp[execOp,ho,hρ _ _ hx]
theorem D6{ty:TypeId}{a:Option Addr}(ho:o.op=.call { callee:=.builtin .len,args:=#[x],argTypes:=#[t] })(ht:P.underlying t=some (.slice el))(hx:ev s x=some (.slice a len cap)):OX P o s h ms (.int .i64 len):=
 Bs λρ w hρ _=>by simp[execOp,ho,hρ _ _ hx,resolve,invoke,builtin,Builtin.len_,run_underlying ht,goInt]
theorem Hg{f:Field}{cs:Array Value}(ho:o.op=.field t x i)(ht:P.underlying t=some (.struct fs))(hf:fs[i]?=some f)(hd:P.underlying f.type=some d)(ha:Ih d=false)(hx:ev s x=some (.agg cs))(hv:cs[f.offset]?=some v) :
  OX P o s h ms v:=
 Bs λρ w hρ _=>by
  have hag:(isAgg f.type).run P w=.ok false w:=by rw[Ds hd,ha]
  simp[execOp,ho,hρ _ _ hx,Instr.field,run_underlying ht,hf,asAgg,part,hag,hv]
def Ie:List Value->Nat->List Value->List Value
 | l,_,[]=>l
 | l,k,v::vs=>Ie (l.set k v) (k+1) vs
def SK:List Value->List (Nat×List Value)->List Value
 | l,[]=>l
 | l,(k,vs)::r=>SK (Ie l k vs) r
theorem Tx(vs:List Value):∀(k off:Nat) (l:List Value),(List.foldl (λ(cs:Array Value) (c:Value×Nat)=>cs.setIfInBounds (off+c.2) c.1) l.toArray (vs.zipIdx k))=(Ie l (off+k) vs).toArray:=by
 induction vs with
 | nil=>intro k off l;rfl
 | cons v vs ih=>
  intro k off l;simp only[List.zipIdx_cons,ge,List.setIfInBounds_toArray];rw[ih (k+1) off];rfl
def HG(place:Nat->Option (Nat×Nat))(n:Nat):List (Nat×Value)->List (Nat×List Value)->Prop
 | [],[]=>True
 | p::ps,q::qs=>(p.2.cells=q.2.toArray/\place p.1=some (q.1,q.2.length)/\Nat.ble (q.1+q.2.length) n=true)/\HG place n ps qs
 | _,_=>False
theorem Je:∀(vs:List Value) (l:List Value) (k:Nat),(Ie l k vs).length=l.length
 | [],_,_=>rfl
 | v::vs,l,k=>by simp only[Ie];rw[Je vs];simp
theorem ID(place:Nat->Option (Nat×Nat)):∀(parts:List (Nat×Value)) (l:List Value) (ps:List (Nat×List Value)),HG place l.length parts ps->Instr.fill place l.toArray parts=some (SK l ps).toArray
 | [],l,[],_=>rfl
 | [],_,_::_,h=>h.elim
 | _::_,_,[],h=>h.elim
 | (i,v)::parts,l,(off,vs)::ps,h=>by obtain⟨⟨h1,h2,h3⟩,h4⟩:=h;simp only at h1 h2 h3;have h3':=di h3;simp only[Instr.fill,h2,h1,f5];rw[ae (by simp;omega)];rw[<-Array.foldl_toList];simp only[Array.toList_zipIdx];rw[Tx vs 0 off l,Nat.add_zero];exact ID place parts _ ps (by rw[Je];exact h4)
theorem Zn{z:Value}{bytes:Nat}{lp:List (Nat×Operand)}{vs:List (Nat×Value)}{places:Array (Nat×Nat)}(zl:List Value)(ps:List (Nat×List Value))(vl:List Value)(ho:o.op=.build t lp.toArray)(ht:P.underlying t=some (.struct fs))(hs:Elem P t sz z bytes)(hz:z.cells=zl.toArray)
  (hpl:∀w,(fs.mapM λf=>do pure (f.offset,<-sizeOf f.type):Sem (Array (Nat×Nat))).run P w=.ok places w) (hv:evp s lp=some vs)
  (hps:HG (places[·]?) zl.length vs ps) (hvl:SK zl ps=vl):OX P o s h ms (.agg vl.toArray):=
 Bs λρ w hρ _=>by
  have hf:=ID (places[·]?) vs zl ps hps
  have hm:(lp.toArray.map λ(i,x)=>(i,ρ x))=vs.toArray:=by rw[List.map_toArray,hρ.pairs lp vs hv]
  have hpl':=hpl w;simp only[execOp,ho,hm];simp only[Instr.build,Sem.run_bind,hs.zeroValue,run_underlying ht,hz,Result.andThen_ok,hpl',hf,Sem.run_pure,hvl]
theorem Wq{n:Nat}{z:Value}{bytes bytes':Nat}{zt:Value}{lp:List (Nat×Operand)}{vs:List (Nat×Value)}{szt:Nat}(zl:List Value)(ps:List (Nat×List Value))(vl:List Value)(ho:o.op=.build t lp.toArray)(ht:P.underlying t=some (.array n el))(hs:Elem P t szt zt bytes)(hz:zt.cells=zl.toArray)(hel:Elem P el sz z bytes')(hv:evp s lp=some vs)
  (hps:HG (λi=>some (i*sz,sz)) zl.length vs ps) (hvl:SK zl ps=vl):OX P o s h ms (.agg vl.toArray):=
 Bs λρ w hρ _=>by
  have hf:=ID (λi=>some (i*sz,sz)) vs zl ps hps
  have hm:(lp.toArray.map λ(i,x)=>(i,ρ x))=vs.toArray:=by rw[List.map_toArray,hρ.pairs lp vs hv]
  simp only[execOp,ho,hm];simp only[Instr.build,Sem.run_bind,hs.zeroValue,run_underlying ht,hz,Result.andThen_ok,hel.sizeOf,hf,Sem.run_pure,hvl]
theorem Bz{fn:Fn}{lf lc:List Operand}{vf vc:List Value}(ho:o.op=.makeFunc fn lf.toArray lc.toArray)(hf:Sh s lf=some vf)(hc:Sh s lc=some vc):OX P o s h ms (.func fn vf.toArray vc.toArray):=
 Bs λρ w hρ _=>by simp[execOp,ho,hρ.map _ _ hf,hρ.map _ _ hc,Instr.makeFunc]
end
theorem As(ho:o.op=.call { callee:=.value (.func f),args:=l.toArray,argTypes:=ts })(hc:∀az w,(callFunc f az).run P w=.ok (.enter f az) w)(ha:Sh s l=some vs)(k:FnV P f vs.toArray h ms v):OX P o s h ms v:=
 λρ w hρ hw=>by
  have hev:ρ (.func f)=.func (.func f) #[] #[]:=hρ _ _ Y;have:(execOp ρ o).run P w=.ok (.enter f vs.toArray) w:=by simp[execOp,ho,resolve,hev,Deferred.ofValue,invoke,hc,hρ.map l vs ha]
  unfold OpRes;rw[this];exact(k w hw).mono λx w' ⟨e1,e2⟩=>⟨v,e1,Y,e2⟩
theorem UC(ho:o.op=.call { callee:=.value (.func f),args:=l.toArray,argTypes:=ts })(hc:∀az w,(callFunc f az).run e.P w=.ok (.enter f az) w)(ha:Sh s l=some vs)(k:FnT e.P f vs.toArray h pre post) :
  OT e o s h (pre++fr) (λv h' ms'=>∃pre',ms'=pre'++fr/\h.le h'/\post v h' pre'):=
 λρ w hρ hw=>by
  have hev:ρ (.func f)=.func (.func f) #[] #[]:=hρ _ _ Y;have:(execOp ρ o).run e.P w=.ok (.enter f vs.toArray) w:=by simp[execOp,ho,resolve,hev,Deferred.ofValue,invoke,hc,hρ.map l vs ha]
  unfold OpRes;rw[this];exact(k w hw.st.pre).mono λx w' ⟨r,h',pre',e1,e2,e3⟩=>⟨r,e1,h',pre'++fr,Ends.call hw e2,pre',Y,e2.le,e3⟩
theorem Cy{x:Operand}{fs:List Value}(ho:o.op=.call { callee:=.value x,args:=l.toArray,argTypes:=ts })(hx:ev s x=some (.func (.func f) fs.toArray cs.toArray))(hc:∀az w,(callFunc f az).run P w=.ok (.enter f az) w)(ha:Sh s l=some vs)(k:FnV P f (fs++vs++cs).toArray h ms v):OX P o s h ms v:=
 λρ w hρ hw=>by
  have:(execOp ρ o).run P w=.ok (.enter f (fs++vs++cs).toArray) w:=by simp[execOp,ho,resolve,hρ _ _ hx,Deferred.ofValue,invoke,hc,hρ.map l vs ha]
  unfold OpRes;rw[this];exact(k w hw).mono λx w' ⟨e1,e2⟩=>⟨v,e1,Y,e2⟩
theorem Z8{x:Operand}{fs:List Value}(ho:o.op=.call { callee:=.value x,args:=l.toArray,argTypes:=ts })(hx:ev s x=some (.func (.func f) fs.toArray cs.toArray))(hc:∀az w,(callFunc f az).run e.P w=.ok (.enter f az) w)(ha:Sh s l=some vs)(k:FnT e.P f (fs++vs++cs).toArray h pre post) :
  OT e o s h (pre++fr) (λv h' ms'=>∃pre',ms'=pre'++fr/\h.le h'/\post v h' pre'):=
 λρ w hρ hw=>by
  have:(execOp ρ o).run e.P w=.ok (.enter f (fs++vs++cs).toArray) w:=by simp[execOp,ho,resolve,hρ _ _ hx,Deferred.ofValue,invoke,hc,hρ.map l vs ha]
  unfold OpRes;rw[this];exact(k w hw.st.pre).mono λx w' ⟨r,h',pre',e1,e2,e3⟩=>⟨r,e1,h',pre'++fr,Ends.call hw e2,pre',Y,e2.le,e3⟩
theorem Aa9{d:Nat}(ho:o.op=.call { callee:=.value (.func f),args:=l.toArray,argTypes:=ts })(hc:∀az w,(callFunc f az).run e.P w=.ok (.enter f az) w)(ha:Sh s l=some vs)(k:FnT e.P f vs.toArray h [] post)(hd:o.dst=some d)(hn:Nat.blt d e.n=true)(hg:o.guard=none)
  (K:∀v h' pre',h.le h'->post v h' pre'->WL e ops Q rest ((d,v)::s) h' (pre'++ms)):WL e ops Q (o::rest) s h ms:=
 HP (UC (fr:=ms) ho hc ha k) hd hn hg λv h' ms' ⟨pre',e1,e2,e3⟩=>by subst e1;exact K v h' pre' e2 e3
theorem AC{d:Nat}(ho:o.op=.call { callee:=.value (.func f),args:=l.toArray,argTypes:=ts })(hc:∀az w,(callFunc f az).run e.P w=.ok (.enter f az) w)(ha:Sh s l=some vs)(k:FnT e.P f vs.toArray h pre post)(hm:ms=pre++fr)(hd:o.dst=some d)(hn:Nat.blt d e.n=true)(hg:o.guard=none)
  (K:∀v h' pre',h.le h'->post v h' pre'->WL e ops Q rest ((d,v)::s) h' (pre'++fr)):WL e ops Q (o::rest) s h ms:=by
 subst hm;exact HP (UC ho hc ha k) hd hn hg λv h' ms' ⟨pre',e1,e2,e3⟩=>by subst e1;exact K v h' pre' e2 e3
theorem E5{x:Operand}{fs:List Value}{d:Nat}(ho:o.op=.call { callee:=.value x,args:=l.toArray,argTypes:=ts })(hx:ev s x=some (.func (.func f) fs.toArray cs.toArray))(hc:∀az w,(callFunc f az).run e.P w=.ok (.enter f az) w)(ha:Sh s l=some vs)(k:FnT e.P f (fs++vs++cs).toArray h pre post)(hm:ms=pre++fr)(hd:o.dst=some d)(hn:Nat.blt d e.n=true)(hg:o.guard=none)
  (K:∀v h' pre',h.le h'->post v h' pre'->WL e ops Q rest ((d,v)::s) h' (pre'++fr)):WL e ops Q (o::rest) s h ms:=by
 subst hm;exact HP (Z8 ho hx hc ha k) hd hn hg λv h' ms' ⟨pre',e1,e2,e3⟩=>by subst e1;exact K v h' pre' e2 e3
end
end Go.Eng
namespace Go.Eng
open Go.RowKit
variable {sz bytes n d g:Nat} {v z:Value} {el t:TypeId} {cs l:List Value} {x y:Operand} {m:Hp}
theorem Fw{α:Type}(l:List α)(i:Nat)(x y:α)(h:l[i]?=some x):∃r,l.Perm (x::r)/\(l.set i y).Perm (y::r):=by
 induction l generalizing i with
 | nil=>cases h
 | cons a l ih=>
  cases i with
  | zero=>simp at h;subst h;exact⟨l,fo _,fo _⟩
  | succ i=>
   simp at h;obtain⟨r,h1,h2⟩:=ih i h;exact⟨a::r,(h1.cons a).trans (List.Perm.swap _ _ _),by rw[List.set_cons_succ];exact(h2.cons a).trans (List.Perm.swap _ _ _)⟩
structure Rd(h:Hp)(ms:List Hp)(v:Value)(sz n:Nat)(cs:List Value):Prop where
 ex:∃a c,v=.slice a n c/\n<=c/\c<=9223372036854775807/\cs.length=n*sz/\(0<n->∃q,a=some q/\Seg h ms q cs)
def Own(el:TypeId)(sz:Nat)(m:Hp)(v:Value)(n:Nat)(cs:List Value):Prop:=
 cs.length=n*sz/\((v=.nl/\n=0/\m=Hp.emp) ∨
  ∃g cap spare,v=.slice (some ⟨g,0,none⟩) n cap/\m=BI g el (cs++spare)/\(cs++spare).length=cap*sz/\n<=cap/\cap<=9223372036854775807)
theorem Rd.le{h h':Hp}{ms:List Hp}(R:Rd h ms v sz n cs)(l:h.le h'):Rd h' ms v sz n cs:=by obtain⟨a,c,e1,e2,e3,e4,e5⟩:=R.ex;exact⟨a,c,e1,e2,e3,e4,λhn=>let ⟨q,q1,q2⟩:=e5 hn;⟨q,q1,q2.le l⟩⟩
theorem Rd.sub{h:Hp}{ms ms':List Hp}(R:Rd h ms v sz n cs)(l:∀m∈ms,m∈ms'):Rd h ms' v sz n cs:=by obtain⟨a,c,e1,e2,e3,e4,e5⟩:=R.ex;exact⟨a,c,e1,e2,e3,e4,λhn=>let ⟨q,q1,q2⟩:=e5 hn;⟨q,q1,q2.sub l⟩⟩
theorem Rd.any{h:Hp}{ms:List Hp}(R:Rd h [] v sz n cs):Rd h ms v sz n cs:=R.sub σ
theorem Rd.nil(h:Hp)(ms:List Hp)(sz:Nat):Rd h ms (.slice none 0 0) sz 0 []:=⟨none,0,rfl,am _,ω,by simp,λh=>ω⟩
theorem Own.nil(el:TypeId)(sz:Nat):Own el sz Hp.emp (.slice none 0 0) 0 []:=⟨by simp,.inl ⟨rfl,rfl,rfl⟩⟩
theorem Own.rd(O:Own el sz m v n cs){h:Hp}{ms:List Hp}(hm:m∈ms):Rd h ms v sz n cs:=by
 obtain⟨h1,h2⟩:=O;rcases h2 with ⟨rfl,rfl,rfl⟩|⟨g,cap,spare,rfl,rfl,e1,e2,e3⟩
 ·exact⟨none,0,Y,am _,ω,h1,λh=>ω⟩
 ·refine⟨_,cap,Y,e2,e3,h1,λ_=>⟨_,Y,λj v hv=>?_⟩⟩;obtain⟨i,hi⟩:=List.getElem?_of_mem hm;exact Cell.blk i hi (by rw[d5 (br.1 hv).1];exact hv)
theorem Own.rdh(O:Own el sz m v n cs){h:Hp}{ms:List Hp}(hm:m.le h):Rd h ms v sz n cs:=by
 obtain⟨h1,h2⟩:=O;rcases h2 with ⟨rfl,rfl,rfl⟩|⟨g,cap,spare,rfl,rfl,e1,e2,e3⟩
 ·exact⟨none,0,Y,am _,ω,h1,λh=>ω⟩
 ·refine⟨_,cap,Y,e2,e3,h1,λ_=>⟨_,Y,λj v hv=>?_⟩⟩;refine⟨by unfold Addr.add;split<;>rfl,(cs++spare).toArray,el,(0,0),.inl (hm _ _ ?_),?_⟩
  ·rw[CK];exact Hp.one_self _ _
  ·rw[DN];have:=(br.1 hv).1;simp only[Nat.zero_add,gr];rw[d5 this];exact hv
theorem Ends.put{w0 w w':World}{h0 h:Hp}{ms0 ms:List Hp}{i:Nat}{l':List Value}(H:Ends w0 h0 ms0 w h ms)(hm:ms[i]?=some (BI g el l))
  (hos:w'.os=w.os) (htape:TL w w') (hout:w'.output=w.output) (hsize:w.heap.size<=w'.heap.size)
  (hg:w'.heap[g]?=some (.cells l'.toArray el (0,0))) (hother:∀k,k<w.heap.size->k≠g->w'.heap[k]?=w.heap[k]?):Ends w0 h0 ms0 w' h (ms.set i (BI g el l')):=by
 obtain⟨r,p1,p2⟩:=Fw ms i (BI g el l) (BI g el l') hm;exact Ends.perm (Ends.change (H.perm p1) hos htape hout hsize hg hother) p2.symm
section
variable {P:Program} {o:Oper} {s:AE} {h:Hp} {ms:List Hp} {e:Entry} {Q:Exit->Act->World->Prop} {ops:Array Oper} {rest:List Oper}
theorem Zu(zl:List Value)(ho:o.op=.alloc t)(hs:Elem e.P t sz z bytes)(hz:z.cells=zl.toArray) :
  OT e o s h ms (λv h' ms'=>∃g,v=.pt g/\h'=h/\ms'=BI g t zl::ms):=λρ w hρ hw=>by
 have:(execOp ρ o).run e.P w=.ok (.value (.pointer (some ⟨w.heap.size,0,none⟩))) (w.alloc (.cells zl.toArray t)):=by simp[execOp,ho,Instr.alloc,hs.zeroValue,newVar,newRow,hz]
 unfold OpRes;rw[this];exact⟨h,_,Ends.alloc hw _,_,Y,Y,Y⟩
theorem AaB(zl:List Value)(ho:o.op=.alloc t)(hs:Elem e.P t sz z bytes)(hz:z.cells=zl.toArray)(hd:o.dst=some d)(hn:Nat.blt d e.n=true)(hg:o.guard=none)
  (k:∀g,WL e ops Q rest ((d,.pt g)::s) h (BI g t zl::ms)):WL e ops Q (o::rest) s h ms:=
 HP (Zu zl ho hs hz) hd hn hg λ_ _ _ ⟨g,e1,e2,e3⟩=>by subst e1 e2 e3;exact k g
theorem AK(zl:List Value)(ho:o.op=.box t x)(hx:ev s x=some v)(hz:v.cells=zl.toArray)(hd:o.dst=some d)(hn:Nat.blt d e.n=true)(hg:o.guard=none)
  (k:∀g,WL e ops Q rest ((d,.pt g)::s) h (BI g t zl::ms)):WL e ops Q (o::rest) s h ms:=
 HP (post:=λv h' ms'=>∃g,v=.pt g/\h'=h/\ms'=BI g t zl::ms) (λρ w hρ hw=>by
  have:(execOp ρ o).run e.P w=.ok (.value (.pointer (some ⟨w.heap.size,0,none⟩))) (w.alloc (.cells zl.toArray t)):=by simp[execOp,ho,hρ _ _ hx,Instr.box,newVar,newRow,hz]
  unfold OpRes;rw[this]
  exact⟨h,_,Ends.alloc hw _,_,Y,Y,Y⟩) hd hn hg λ_ _ _ ⟨g,e1,e2,e3⟩=>by subst e1 e2 e3;exact k g
theorem Iq{vs:List (Nat×Value)}(ps:List (Nat×List Value))(zl vl:List Value)(ht:P.underlying t=some (.slice el))(hs:Elem P el sz z bytes)(hb:n*sz<=16777216)
  (hz:(Array.range (n*sz)).map (λi=>(if n*sz=0 then #[] else z.cells)[i%(if n*sz=0 then #[] else z.cells).size]!)=zl.toArray) (hps:HG (λi=>some (i*sz,sz)) zl.length vs ps) (hvl:SK zl ps=vl) (w:World) :
  (Instr.buildSlice t n vs.toArray).run P w=.ok (.slice (some ⟨w.heap.size,0,none⟩) n n) (w.alloc (.cells vl.toArray el)):=by
 have hf:=ID (λi=>some (i*sz,sz)) vs zl ps hps;have hb':¬(n*sz>2^24):=ω
 rw[hvl,<-hz]at hf;simp only[Instr.buildSlice,Sem.run_bind,run_underlying ht,Result.andThen_ok,hs.sizeOf];rw[ae hb'];by_cases h0:n*sz=0
 ·simp only[h0,if_true]at hf ⊢;simp only[Sem.run_bind,Sem.run_pure,Result.andThen_ok,hf,newRow,run_newObj];rfl
 ·simp only[h0,if_false]at hf ⊢;simp only[Sem.run_bind,Sem.run_pure,Result.andThen_ok,hs.zeroValue,hf,newRow,run_newObj];rfl
theorem Mo:∀(vs l:List Value) (k:Nat),k+vs.length<=l.length->Ie l k vs=l.take k++vs++l.drop (k+vs.length)
 | [],l,k,h=>by simp[Ie]
 | v::vs,l,k,h=>by
  simp only[Ie];have hk:k<l.length:=by simp at h;omega
  rw[Mo vs _ _ (by simp at h ⊢;omega)];rw[gw,List.take_set_of_le ω,List.drop_set_of_lt ω];have e1:(l.set k v)[k]?=some v:=by rw[List.getElem?_set];simp only[if_true];rw[ah hk]
  have e2:k+1+vs.length=k+(v::vs).length:=by simp;omega
  rw[e1,e2];simp
theorem HM(zl:List Value)(ht:P.underlying t=some (.slice el))(hs:Elem P el sz z bytes)(hv:v.cells=zl.toArray)(hl:zl.length=sz)(hzs:z.cells.size=sz)(hsz:0<sz/\sz<=1000)(w:World) :
  (Instr.buildSlice t 1 #[(0,v)]).run P w=.ok (.slice (some ⟨w.heap.size,0,none⟩) 1 1) (w.alloc (.cells zl.toArray el)):=by
 refine Iq (vs:=[(0,v)]) [(0,zl)] ((range<|1*sz).map<|λi=>(if 1*sz=0 then #[] else z.cells)[i%(if 1*sz=0 then #[] else z.cells).size]!) zl ht hs ω (by apply Array.ext';simp) ?_ ?_ w
 ·refine⟨⟨hv,by simp[hl],?_⟩,ej⟩;simp[hl]
 ·simp only[SK];rw[Mo _ _ _ (by simp[hl])];simp[hl]
theorem Ay(zl:List Value)(ho:o.op=.buildSlice t 1 #[(0,x)])(ht:e.P.underlying t=some (.slice el))(hs:Elem e.P el sz z bytes)(hx:ev s x=some v)(hv:v.cells=zl.toArray)(hl:zl.length=sz)(hzs:z.cells.size=sz)(hsz:0<sz/\sz<=1000)(hd:o.dst=some d)(hn:Nat.blt d e.n=true)(hg:o.guard=none)
  (k:∀g,WL e ops Q rest ((d,.slice (some ⟨g,0,none⟩) 1 1)::s) h (BI g el zl::ms)):WL e ops Q (o::rest) s h ms:=
 HP (post:=λv h' ms'=>∃g,v=.slice (some ⟨g,0,none⟩) 1 1/\h'=h/\ms'=BI g el zl::ms) (λρ w hρ hw=>by
  have:(execOp ρ o).run e.P w=.ok (.value (.slice (some ⟨w.heap.size,0,none⟩) 1 1)) (w.alloc (.cells zl.toArray el)):=by simp[execOp,ho,hρ _ _ hx,HM zl ht hs hv hl hzs hsz]
  unfold OpRes;rw[this]
  exact⟨h,_,Ends.alloc hw _,_,Y,Y,Y⟩) hd hn hg λ_ _ _ ⟨g,e1,e2,e3⟩=>by subst e1 e2 e3;exact k g
theorem AO{lp:List (Nat×Operand)}{vs:List (Nat×Value)}(ps:List (Nat×List Value))(zl vl:List Value)(ho:o.op=.buildSlice t n lp.toArray)(ht:e.P.underlying t=some (.slice el))(hs:Elem e.P el sz z bytes)
  (hv:evp s lp=some vs) (hb:n*sz<=16777216) (hz:(Array.range (n*sz)).map (λi=>(if n*sz=0 then #[] else z.cells)[i%(if n*sz=0 then #[] else z.cells).size]!)=zl.toArray) (hps:HG (λi=>some (i*sz,sz)) zl.length vs ps) (hvl:SK zl ps=vl) (hd:o.dst=some d) (hn:Nat.blt d e.n=true) (hg:o.guard=none)
  (k:∀g,WL e ops Q rest ((d,.slice (some ⟨g,0,none⟩) n n)::s) h (BI g el vl::ms)):WL e ops Q (o::rest) s h ms:=
 HP (post:=λv h' ms'=>∃g,v=.slice (some ⟨g,0,none⟩) n n/\h'=h/\ms'=BI g el vl::ms) (λρ w hρ hw=>by
  have hm:(lp.toArray.map λ(i,x)=>(i,ρ x))=vs.toArray:=by rw[List.map_toArray,hρ.pairs lp vs hv]
  have:(execOp ρ o).run e.P w=.ok (.value (.slice (some ⟨w.heap.size,0,none⟩) n n)) (w.alloc (.cells vl.toArray el)):=by simp only[execOp,ho,hm,Sem.run_bind,Iq ps zl vl ht hs hb hz hps hvl,Result.andThen_ok,Sem.run_pure]
  unfold OpRes;rw[this]
  exact⟨h,_,Ends.alloc hw _,_,Y,Y,Y⟩) hd hn hg λ_ _ _ ⟨g,e1,e2,e3⟩=>by subst e1 e2 e3;exact k g
theorem Bh{p:Addr}(i k:Nat)(ho:o.op=.store t x y)(hs:Elem e.P t 1 z bytes)(hx:ev s x=some (.pointer (some p)))(hy:ev s y=some v)(h1:v.oneCell'=true)
  (hm:ms[i]?=some (BI g el l)) (hp:p=(⟨g,0,none⟩:Addr).add k) (hk:k<l.length) (hd:o.dst=none) (hg:o.guard=none)
  (K:WL e ops Q rest s h (ms.set i (BI g el (l.set k v)))):WL e ops Q (o::rest) s h ms:=
 Og (post:=λ_ h' ms'=>h'=h/\ms'=ms.set i (BI g el (l.set k v))) (λρ w hρ hw=>by
  have hp':p=⟨g,k,none⟩:=by subst hp;unfold Addr.add;split<;>simp_all
  have hgw:w.heap[g]?=some (.cells l.toArray el (0,0)):=hw.st.own _ (dy hm) g _ (Hp.one_self _ _);have hc:w.cell? ⟨g,k,none⟩=some l[k]:=by simp[World.cell?,hgw,hk]
  have hf:w.frozen? ⟨g,k,none⟩=false:=by simp[World.frozen?,hgw]
  have hvc:v.cells=#[v]:=by cases v<;>first|rfl|(simp[Value.oneCell']at h1)
  have hst:(store (Addr.add ⟨g,k,none⟩ 0) v).run e.P w=.ok () (w.setCell ⟨g,k,none⟩ v):=by rw[Fc,run_store e.P w _ v _ h1,hc];simp[hf]
  have:(execOp ρ o).run e.P w=.ok .skip (w.setCell ⟨g,k,none⟩ v):=by simp[execOp,ho,hρ _ _ hx,hρ _ _ hy,Instr.storeAt,Instr.sureAddr,storeVar,hs.sizeOf,hvc,hp',storeCells,hst]
  unfold OpRes;rw[this];refine⟨h,_,Ends.put hw hm Y ⟨Y,am _⟩ Y (by simp[World.setCell]) (l':=l.set k v) ?_ (λj hj hne=>Below.heap_setCell _ _ _ _ hne),rfl,rfl⟩
  rw[heap_setCell_same w g k l.toArray el v hgw];simp) hd hg λ_ _ _ ⟨e1,e2⟩=>by subst e1 e2;exact K
theorem QC(i:Nat)(vl:List Value)(ho:o.op=.store t x y)(hs:Elem e.P t sz z bytes)(hx:ev s x=some (.pointer (some ⟨g,0,none⟩)))(hy:ev s y=some v)(hv:v.cells=vl.toArray)(h1:∀u∈vl,u.oneCell'=true)
  (hm:ms[i]?=some (BI g el l)) (hl:vl.length=sz) (hl':l.length=sz) (hd:o.dst=none) (hg:o.guard=none)
  (K:WL e ops Q rest s h (ms.set i (BI g el vl))):WL e ops Q (o::rest) s h ms:=
 Og (post:=λ_ h' ms'=>h'=h/\ms'=ms.set i (BI g el vl)) (λρ w hρ hw=>by
  have hgw:w.heap[g]?=some (.cells l.toArray el (0,0)):=hw.st.own _ (dy hm) g _ (Hp.one_self _ _);have hst:=run_storeCells_at e.P g 0 el vl 0 l.toArray w hgw (by simp;omega) h1
  have:(execOp ρ o).run e.P w=.ok .skip (w.setRow g vl.toArray):=by simp[execOp,ho,hρ _ _ hx,hρ _ _ hy,Instr.storeAt,Instr.sureAddr,storeVar,hs.sizeOf,hv,hl,hst];rw[List.drop_eq_nil_of_le ω];simp
  unfold OpRes;rw[this]
  exact⟨h,_,Ends.put hw hm Y ⟨Y,am _⟩ Y σ (setRow_heap w g _ _ _ _ hgw) (λj hj hne=>setRow_other w g j _ hne),rfl,rfl⟩) hd hg λ_ _ _ ⟨e1,e2⟩=>by subst e1 e2;exact K
theorem FC(w:World)(t ty el:TypeId)(ht:P.underlying t=some (.slice el))(hs:Elem P el sz z bytes)(base a:Option Addr)(n cap c:Nat)(hn:n<=cap) :
  (Builtin.append_ #[t,t] ty #[.slice base n cap,.slice a 0 c]).run P w=.ok (.slice base n cap) w:=by
 cases base<;>cases a<;>simp[Builtin.append_,run_underlying ht,hs.sizeOf,Builtin.lenOf,hn,Builtin.firstCells,loadCells,loadCellsFrom,storeCells]
theorem LU{w0 w:World}{h0 h:Hp}{ms0 ms:List Hp}(H:Ends w0 h0 ms0 w h (m::ms))(t ty el:TypeId)(ht:P.underlying t=some (.slice el))(hs:Elem P el sz z bytes)(hzs:z.cells.size=sz)(hsz:0<sz)
  {x:Value} {k:Nat} {news:List Value} (O:Own el sz m v n cs) (R:Rd h (m::ms) x sz k news) (h1:∀u∈news,u.oneCell'=true) (hb:(n+k)*bytes<=140737488355328) (hb63:n+k<=9223372036854775807) :
  ∃v' w' m',(Builtin.append_ #[t,t] ty #[v,x]).run P w=.ok v' w'/\Own el sz m' v' (n+k) (cs++news)/\Ends w0 h0 ms0 w' h (m'::ms):=by
 obtain⟨a,c,rfl,hkc,hcm,hnl,hq⟩:=R.ex;obtain⟨hcl,hO⟩:=O;obtain⟨i,hi,hz,his,hib⟩:=hs.info;rcases f9 k with rfl|hk
 ·have hnews:news=[]:=de (by simpa using hnl);subst hnews;rcases hO with ⟨rfl,rfl,rfl⟩|⟨g,cap,spare,rfl,rfl,e1,e2,e3⟩
  ·exact⟨_,w,_,FC w t ty el ht hs none a 0 0 c (am _),⟨by simpa using hcl,.inl ⟨rfl,rfl,rfl⟩⟩,H⟩
  ·exact⟨_,w,_,FC w t ty el ht hs _ a n cap c e2,⟨by simpa using hcl,.inr ⟨g,cap,spare,rfl,by simp,by simpa using e1,e2,e3⟩⟩,H⟩
 ·obtain⟨q,rfl,hseg⟩:=hq hk;have hnews:∀j u,news[j]?=some u->w.cell? (q.add j)=some u:=λj u e=>H.st.cell (hseg j u e)
  have hcap:∀old,grownCap w (n+k) old el<=9223372036854775807/\n+k<=grownCap w (n+k) old el:=λold=>
   ⟨grownCap_le_maxLen w (n+k) old el (by simp only[maxLen];omega),grownCap_ge w (n+k) old el⟩
  have hzl:∀N,(Builtin.zeroCells z.cells N).toList.length=N*sz:=λN=>by rw[Array.length_toList,size_zeroCells,hzs]
  rcases hO with ⟨rfl,rfl,rfl⟩|⟨g,cap,spare,rfl,rfl,e1,e2,e3⟩
  ·have hc0:cs=[]:=de (by simpa using hcl);subst hc0;simp only[Nat.zero_add,ap]at *;have hr:=run_append_nil (P:=P) w t ty el i z ht hi hz q k c news (by rw[his];exact hnl) hnews hk ω (by rw[hib];omega);refine⟨_,_,_,hr,⟨hnl,.inr ⟨w.heap.size,grownCap w k 0 el,(Builtin.zeroCells z.cells (grownCap w k 0 el-k)).toList,Y,Y,?_,(hcap 0).2,(hcap 0).1⟩⟩,?_⟩
   ·rw[af,hzl,hnl,<-cw];congr 1;have:=(hcap 0).2;omega
   ·have:=Ends.alloc (Ends.drew (Ends.drop H)) (.cells (news.toArray++Builtin.zeroCells z.cells (grownCap w k 0 el-k)) el)
    have e:(news++(Builtin.zeroCells z.cells (grownCap w k 0 el-k)).toList).toArray=news.toArray++Builtin.zeroCells z.cells (grownCap w k 0 el-k):=by apply Array.ext';simp
    unfold BI;rw[e];exact this
  ·have hgw:w.heap[g]?=some (.cells (cs++spare).toArray el (0,0)):=H.st.own _ (ax) g _ (Hp.one_self _ _);by_cases hroom:n+k<=cap
   ·have hfit:n*i.size+news.length<=(cs++spare).toArray.size:=by
     rw[his,hnl,f5,e1,<-cw];exact du _ hroom
    have hr:=run_append_room (P:=P) w t ty el i ht hi g n cap (cs++spare).toArray hgw q k c news (by rw[his];exact hnl) hnews h1 hroom hfit
    have e5:(List.take (n*i.size) (cs++spare).toArray.toList++news++List.drop (n*i.size+news.length) (cs++spare).toArray.toList)=cs++news++spare.drop news.length:=by
     rw[his,<-hcl];have hd:List.drop (cs.length+news.length) (cs++spare)=spare.drop news.length:=by rw[<-drop_drop,List.drop_left]
     simp only[List.take_left',hd,cz]
    rw[e5]at hr;refine⟨_,_,_,hr,⟨by rw[af,hcl,hnl,cw],.inr ⟨g,cap,spare.drop news.length,rfl,rfl,?_,hroom,e3⟩⟩,?_⟩
    ·rw[<-e1];simp only[af,bw]
     have:news.length<=spare.length:=by rw[f5,af,his,<-hcl]at hfit;omega
     omega
    ·exact Ends.change H Y ⟨Y,am _⟩ Y σ (setRow_heap w g _ _ _ _ hgw)<|λj hj hne=>setRow_other w g j _ hne
   ·have holds:∀j u,cs[j]?=some u->w.cell? ((⟨g,0,none⟩:Addr).add j)=some u:=λj u hv=>H.st.cell (Cell.blk (el:=el) (l:=cs++spare) 0 Y (by rw[d5 (br.1 hv).1];exact hv));have hr:=run_append_grow (P:=P) w t ty el i z ht hi hz ⟨g,0,none⟩ n cap cs (by rw[his];exact hcl) holds q k c news (by rw[his];exact hnl) hnews ω ω (by rw[hib];exact growslice_fits ω hb);refine⟨_,_,_,hr,⟨by rw[af,hcl,hnl,cw],.inr ⟨w.heap.size,grownCap w (n+k) cap el,(Builtin.zeroCells z.cells (grownCap w (n+k) cap el-(n+k))).toList,rfl,rfl,?_,(hcap cap).2,(hcap cap).1⟩⟩,?_⟩
    ·rw[af,af,hzl,hcl,hnl,<-cw,<-cw];congr 1;have:=(hcap cap).2;omega
    ·have:=Ends.alloc (Ends.drew (Ends.drop H)) (.cells (cs.toArray++news.toArray++Builtin.zeroCells z.cells (grownCap w (n+k) cap el-(n+k))) el)
     have e:(cs++news++(Builtin.zeroCells z.cells (grownCap w (n+k) cap el-(n+k))).toList).toArray=cs.toArray++news.toArray++Builtin.zeroCells z.cells (grownCap w (n+k) cap el-(n+k)):=by apply Array.ext';simp
     unfold BI;rw[e];exact this
theorem Oe{u:Value}{k:Nat}{news:List Value}(i:Nat)(ho:o.op=.call { callee:=.builtin .append,args:=#[x,y],argTypes:=#[t,t] })(ht:e.P.underlying t=some (.slice el))(hs:Elem e.P el sz z bytes)(hzs:z.cells.size=sz)(hsz:0<sz)
  (hx:ev s x=some v) (hy:ev s y=some u) (hm:ms[i]?=some m) (O:Own el sz m v n cs) (R:Rd h ms u sz k news) (h1:∀u∈news,u.oneCell'=true) (hb:(n+k)*bytes<=140737488355328) (hb63:n+k<=9223372036854775807) (hd:o.dst=some d) (hn:Nat.blt d e.n=true) (hg:o.guard=none)
  (K:∀v' m',Own el sz m' v' (n+k) (cs++news)->WL e ops Q rest ((d,v')::s) h (ms.set i m')):WL e ops Q (o::rest) s h ms:=
 HP (post:=λv' h' ms'=>∃m',h'=h/\ms'=ms.set i m'/\Own el sz m' v' (n+k) (cs++news)) (λρ w hρ hw=>by
  obtain⟨r,p1,_⟩:=Fw ms i m m hm;obtain⟨v',w',m',hr,hO,hE⟩:=LU (P:=e.P) (Ends.perm hw p1) t o.type el ht hs hzs hsz O (R.sub (λm hm=>p1.mem_iff.1 hm)) h1 hb hb63
  have:(execOp ρ o).run e.P w=.ok (.value v') w':=by simp[execOp,ho,hρ _ _ hx,hρ _ _ hy,resolve,invoke,builtin,hr]
  unfold OpRes;rw[this];obtain⟨r',q1,q2⟩:=Fw ms i m m' hm;have pr:(m'::r).Perm (ms.set i m'):=((List.Perm.cons_inv (p1.symm.trans q1)).cons m').trans q2.symm
  exact⟨h,_,Ends.perm hE pr,m',Y,Y,hO⟩) hd hn hg λv' h' ms' ⟨m',e1,e2,e3⟩=>by subst e1 e2;exact K v' m' e3
theorem I9(v:Value)(n:Nat):madeCells #[v] n=(replicate n v).toArray:=by
 apply Array.ext
 ·simp[madeCells]
 ·intro i h1 h2;simp[madeCells,Nat.mod_one]
theorem Fb{k1 k2:IntKind}{l c:Int}(ho:o.op=.makeSlice t x y)(ht:e.P.underlying t=some (.slice el))(hs:Elem e.P el 1 z bytes)(hz:z.cells=#[z])
  (hx:ev s x=some (.int k1 l)) (hy:ev s y=some (.int k2 c)) (hl:l=(n:Int)) (hc:c=(n:Int)) (hb:bytes*n<=281474976710656) (h63:n<=9223372036854775807) (hd:o.dst=some d) (hn:Nat.blt d e.n=true) (hg:o.guard=none)
  (k:∀g,WL e ops Q rest ((d,.slice (some ⟨g,0,none⟩) n n)::s) h (BI g el (replicate n z)::ms)):WL e ops Q (o::rest) s h ms:=
 HP (post:=λv h' ms'=>∃g,v=.slice (some ⟨g,0,none⟩) n n/\h'=h/\ms'=BI g el (replicate n z)::ms) (λρ w hρ hw=>by
  obtain⟨i,hi,hz',his,hib⟩:=hs.info
  have hb':(i.bytes:Int)*c<=281474976710656:=by
   rw[hib,hc];have h:((bytes*n:Nat):Int)<=281474976710656:=ω
   rwa [fv]at h
  have hr:=run_make (P:=e.P) w t el i z ht hi hz' k1 k2 l c ω ω hb' ω
  have:(execOp ρ o).run e.P w=.ok (.value (.slice (some ⟨w.heap.size,0,none⟩) n n)) (w.alloc (.cells (replicate n z).toArray el)):=by
   have e1:l.toNat=n:=ω
   have e2:c.toNat=n:=ω
   rw[e1,e2,his,hz,gx,I9]at hr;simp only[execOp,ho,hρ _ _ hx,hρ _ _ hy,Sem.run_bind,hr,Result.andThen_ok,Sem.run_pure]
  unfold OpRes;rw[this]
  exact⟨h,_,Ends.alloc hw _,_,Y,Y,Y⟩) hd hn hg λ_ _ _ ⟨g,e1,e2,e3⟩=>by subst e1 e2 e3;exact k g
end
end Go.Eng
namespace Go.Eng
open Go.RowKit
abbrev VP:=Hp->Value->Prop
abbrev Nb:=(TypeId×List Value)×(Nat->Value)
abbrev P0:=Value ⊕ (VP ⊕ Nb)
def OC(o:Oper)(j:Nat):Bool:=o.after.any λe=>Region.binds .any e&&e.on==j
def backs(o:Oper)(i:Nat):Bool:=o.after.all λe=>!Region.binds .any e||e.on<i
def MC(ops:Array Oper):Nat->Nat->Nat->Bool
 | 0,_,_=>false
 | n+1,i,j=>match ops[i]? with
  | none=>false
  | some o=>OC o j||o.after.any λe=>Region.binds .any e&&MC ops n e.on j
def Bo(ops:Array Oper)(j:Nat):Option Nat:=(ops[j]?).bind (·.dst)
def _root_.Go.Op.idle:Op->Bool
 | .move (.const _)=>true
 | _=>false
theorem WG{o:Op}(h:o.idle=true):∃v,o=.move (.const v):=by
 unfold Op.idle at h;split at h
 ·exact⟨_,Y⟩
 ·cases h
def Q3(pu:List Nat)(ops:Array Oper)(np:Nat):Bool:=
 Nat.ble np ops.size&&(pu.all λi=>Nat.blt i ops.size)&&Region.noSelect ops &&
 (range ops.size).all λi=>match ops[i]? with
  | none=>false
  | some o=>backs o i &&
   if i<np then
    ((range np).all λj=>j==i||(match o.dst with|some d=>Bo ops j != some d|none=>true)) &&
    ((o.looksAt ops).all λt=>(range np).all λj=>Bo ops j != some t||(j<i&&OC o j))
   else if pu.contains i then o.dst.isNone&&o.guard.isNone&&o.op.idle else(range i).all λj=>pu.contains j||MC ops ops.size i j
def OPX(P:Program)(o:Oper)(s:AE)(h:Hp)(ms:List Hp)(V:VP):Prop:=
 ∀ρ w,Evs s ρ->St w h ms->OpRes P o ρ w (λu w'=>∃h',h.le h'/\h'.inW w'/\(∀k,k<w.heap.size->h' k=h k)/\Ext w w'/\V h' u)
def Aeu(V:VP):Prop:=∀h h' u,Hp.le h h'->V h u->V h' u
def PQ(q:List (Nat×VP))(val:Nat->Value):AE:=q.map λp=>(p.1,val p.1)
def Yk(q:List (Nat×VP))(val:Nat->Value)(h:Hp):Prop:=∀d V,(d,V)∈q->V h (val d)
def Wants(ops:Array Oper)(o:Oper)(s:AE)(b:Bool):Prop:=
 match o.guard with
 | none=>b=true
 | some (j,want)=>(∃dj b',Bo ops j=some dj/\lk s dj=some (.bool b')/\b=(b'==want))\/∃dj,Bo ops j=some dj/\lk s dj=some undef/\b=false
def ONB(P:Program)(o:Oper)(s:AE)(h:Hp)(ms:List Hp)(x:Nb):Prop:=
 ∀ρ w,Evs s ρ->St w h ms->OpRes P o ρ w (λu w'=>u=x.2 w.heap.size/\w'=w.alloc (.cells x.1.2.toArray x.1.1))
def StpOK(P:Program)(ops:Array Oper)(h:Hp)(ms:List Hp)(o:Oper)(s:AE)(q:List (Nat×VP)):P0->Prop
 | .inl v=>(Wants ops o s true/\OX P o s h ms v)\/(Wants ops o s true/\∃q',(∀p∈q',p∈q/\p.1∈o.looksAt ops)/\∀h',h.le h'->∀val,Yk q' val h'->OX P o (PQ q' val++s) h' ms v)\/(Wants ops o s false/\v=undef)
 | .inr (.inl V)=>Wants ops o s true/\Aeu V/\(OPX P o s h ms V\/∃q',(∀p∈q',p∈q/\p.1∈o.looksAt ops)/\∀h',h.le h'->∀val,Yk q' val h'->OPX P o (PQ q' val++s) h' ms V)
 | .inr (.inr x)=>Wants ops o s true/\(∃d,o.dst=some d)/\ONB P o s h ms x
def Eo:List Oper->List P0->AE->AE
 | o::l,.inl v::p,s=>Eo l p (match o.dst with|some d=>(d,v)::s|none=>s)
 | _::l,.inr _::p,s=>Eo l p s
 | _,_,s=>s
def Em:List Oper->List P0->List (Nat×VP)
 | o::l,.inr (.inl V)::p=>(match o.dst with|some d=>[(d,V)]|none=>[])++Em l p
 | _::l,_::p=>Em l p
 | _,_=>[]
def D9:List Oper->List P0->List (Nat×Nb)
 | o::l,.inr (.inr x)::p=>(match o.dst with|some d=>[(d,x)]|none=>[])++D9 l p
 | _::l,_::p=>D9 l p
 | _,_=>[]
def Rn(al:List (Nat×Nb))(γ:Nat->Nat):AE:=al.map λp=>(p.1,p.2.2 (γ p.1))
def Qi(al:List (Nat×Nb))(γ:Nat->Nat):List Hp:=al.map λp=>BI (γ p.1) p.2.1.1 p.2.1.2
def WR(e:Entry)(ops:Array Oper)(Q:Exit->Act->World->Prop)(tl:List Oper)(h:Hp)(ms:List Hp):List Oper->AE->List (Nat×VP)->List (Nat×Nb)->Prop
 | [],s,q,al=>(q=[]/\∀γ,WL e ops Q tl (Rn al γ++s) h (Qi al γ++ms))\/∀h',h.le h'->∀val γ,Yk q val h'->WL e ops Q tl (PQ q val++(Rn al γ++s)) h' (Qi al γ++ms)
 | o::l,s,q,al=>
  (∃v,StpOK e.P ops h ms o s q (.inl v)/\WR e ops Q tl h ms l (match o.dst with|some d=>(d,v)::s|none=>s) q al) ∨
  (∃V,StpOK e.P ops h ms o s q (.inr (.inl V))/\WR e ops Q tl h ms l s (q++match o.dst with|some d=>[(d,V)]|none=>[]) al) ∨
  (∃x,StpOK e.P ops h ms o s q (.inr (.inr x))/\WR e ops Q tl h ms l s q (al++match o.dst with|some d=>[(d,x)]|none=>[]))
def PlanOK(P:Program)(ops:Array Oper)(h:Hp)(ms:List Hp):List Oper->List P0->AE->List (Nat×VP)->Prop
 | [],[],_,_=>True
 | o::l,st::p,s,q=>StpOK P ops h ms o s q st/\PlanOK P ops h ms l p (match st with|.inl v=>(match o.dst with|some d=>(d,v)::s|none=>s)|_=>s) (match st with|.inr (.inl V)=>q++(match o.dst with|some d=>[(d,V)]|none=>[])|_=>q)
 | _,_,_,_=>False
theorem Lf{e:Entry}{ops:Array Oper}{Q:Exit->Act->World->Prop}{tl:List Oper}{h:Hp}{ms:List Hp}:∀(l:List Oper) (s:AE) (q:List (Nat×VP)) (al:List (Nat×Nb)),WR e ops Q tl h ms l s q al →
  ∃pl,pl.length=l.length/\PlanOK e.P ops h ms l pl s q ∧
   ((q++Em l pl=[]/\∀γ,WL e ops Q tl (Rn (al++D9 l pl) γ++Eo l pl s) h (Qi (al++D9 l pl) γ++ms)) ∨
    ∀h',h.le h'->∀val γ,Yk (q++Em l pl) val h'->WL e ops Q tl (PQ (q++Em l pl) val++(Rn (al++D9 l pl) γ++Eo l pl s)) h' (Qi (al++D9 l pl) γ++ms))
 | [],s,q,al,H=>⟨[],rfl,ej,by simp only[WR]at H;simpa[Em,D9,Eo] using H⟩
 | o::l,s,q,al,H=>by
  rcases H with ⟨v,h1,h2⟩|⟨V,h1,h2⟩|⟨x,h1,h2⟩
  ·obtain⟨pl,e1,e2,e3⟩:=Lf l _ _ _ h2;exact⟨.inl v::pl,by simp[e1],⟨h1,e2⟩,by simpa[Em,D9,Eo] using e3⟩
  ·obtain⟨pl,e1,e2,e3⟩:=Lf l _ _ _ h2;exact⟨.inr (.inl V)::pl,by simp[e1],⟨h1,e2⟩,by simpa[Em,D9,Eo,cz] using e3⟩
  ·obtain⟨pl,e1,e2,e3⟩:=Lf l _ _ _ h2;exact⟨.inr (.inr x)::pl,by simp[e1],⟨h1,e2⟩,by simpa[Em,D9,Eo,cz] using e3⟩
theorem PlanOK.get{P:Program}{ops:Array Oper}{h:Hp}{ms:List Hp}:∀(l:List Oper) (pl:List P0) (s:AE) (q:List (Nat×VP)),PlanOK P ops h ms l pl s q →
  ∀i o,l[i]?=some o->∃st,pl[i]?=some st/\StpOK P ops h ms o (Eo (l.take i) (pl.take i) s) (q++Em (l.take i) (pl.take i)) st
 | [],[],_,_,_,i,o,e=>by cases e
 | [],_::_,_,_,H,_,_,_=>H.elim
 | _::_,[],_,_,H,_,_,_=>H.elim
 | o::l,st::p,s,q,H,i,o',e=>by
  cases i with
  | zero=>simp at e;subst e;exact⟨st,Y,by simpa[Eo,Em] using H.1⟩
  | succ i=>
   obtain⟨st',e1,e2⟩:=PlanOK.get l p _ _ H.2 i o' (by simpa using e);refine⟨st',by simpa using e1,?_⟩;rcases st with v|V|x<;>simpa[Eo,Em,cz] using e2
theorem JX:∀(l:List Oper) (pl:List P0) (s:AE) (t:Nat) (u:Value),lk (Eo l pl s) t=some u →
  (∃(j:Nat) (o:Oper),l[j]?=some o/\o.dst=some t/\pl[j]?=some (.inl u))\/lk s t=some u
 | [],_,s,t,u,h=>.inr (by simpa[Eo] using h)
 | o::l,[],s,t,u,h=>.inr (by simpa[Eo] using h)
 | o::l,.inl v::p,s,t,u,h=>by
  rcases JX l p _ t u (by simpa[Eo] using h) with ⟨j,o',h1,h2,h3⟩|h
  ·exact .inl ⟨j+1,o',by simpa using h1,h2,by simpa using h3⟩
  ·cases hd:o.dst with
   | none=>simp[hd]at h;exact .inr h
   | some d=>
    simp[hd]at h;by_cases hdt:d=t
    ·subst hdt;rw[BG]at h;cases h;exact .inl ⟨0,o,Y,hd,Y⟩
    ·rw[BN _ _ hdt]at h;exact .inr h
 | o::l,.inr x::p,s,t,u,h=>by
  rcases JX l p _ t u (by simpa[Eo] using h) with ⟨j,o',h1,h2,h3⟩|h
  ·exact .inl ⟨j+1,o',by simpa using h1,h2,by simpa using h3⟩
  ·exact .inr h
theorem Hd:∀(l:List Oper) (pl:List P0) (d:Nat) (V:VP),(d,V)∈Em l pl->∃(j:Nat) (o:Oper),l[j]?=some o/\o.dst=some d/\pl[j]?=some (.inr (.inl V))
 | [],_,d,V,h=>by cases h
 | o::l,[],d,V,h=>by cases h
 | o::l,.inl v::p,d,V,h=>by obtain⟨j,o',h1,h2,h3⟩:=Hd l p d V (by simpa[Em] using h);exact⟨j+1,o',by simpa using h1,h2,by simpa using h3⟩
 | o::l,.inr (.inl W)::p,d,V,h=>by
  simp only[Em,bj]at h;rcases h with h|h
  ·cases hd:o.dst with
   | none=>simp[hd]at h
   | some d'=>simp[hd]at h;exact⟨0,o,Y,by rw[hd,h.1],by simp[h.2]⟩
  ·obtain⟨j,o',h1,h2,h3⟩:=Hd l p d V h;exact⟨j+1,o',by simpa using h1,h2,by simpa using h3⟩
 | o::l,.inr (.inr x)::p,d,V,h=>by obtain⟨j,o',h1,h2,h3⟩:=Hd l p d V (by simpa[Em] using h);exact⟨j+1,o',by simpa using h1,h2,by simpa using h3⟩
theorem IP:∀(l:List Oper) (pl:List P0) (d:Nat) (x:Nb),(d,x)∈D9 l pl->∃(j:Nat) (o:Oper),l[j]?=some o/\o.dst=some d/\pl[j]?=some (.inr (.inr x))
 | [],_,d,V,h=>by cases h
 | o::l,[],d,V,h=>by cases h
 | o::l,.inl v::p,d,V,h=>by obtain⟨j,o',h1,h2,h3⟩:=IP l p d V (by simpa[D9] using h);exact⟨j+1,o',by simpa using h1,h2,by simpa using h3⟩
 | o::l,.inr (.inr W)::p,d,V,h=>by
  simp only[D9,bj]at h;rcases h with h|h
  ·cases hd:o.dst with
   | none=>simp[hd]at h
   | some d'=>simp[hd]at h;exact⟨0,o,Y,by rw[hd,h.1],by simp[h.2]⟩
  ·obtain⟨j,o',h1,h2,h3⟩:=IP l p d V h;exact⟨j+1,o',by simpa using h1,h2,by simpa using h3⟩
 | o::l,.inr (.inl x)::p,d,V,h=>by obtain⟨j,o',h1,h2,h3⟩:=IP l p d V (by simpa[D9] using h);exact⟨j+1,o',by simpa using h1,h2,by simpa using h3⟩
structure Pre(pu:List Nat)(ops:Array Oper)(np:Nat):Prop where
 le:np<=ops.size
 low:∀i,pu.contains i=true->i<ops.size
 nosel:Region.noSelect ops=true
 backs:∀i o,ops[i]?=some o->∀e∈o.after,Region.binds .any e=true->e.on<i
 uniq:∀i j o d,ops[i]?=some o->i<np->j<np->o.dst=some d->Bo ops j=some d->j=i
 look:∀i o t j,ops[i]?=some o->i<np->t∈o.looksAt ops->j<np->Bo ops j=some t->j<i/\OC o j=true
 tail:∀i j,i<ops.size->np<=i->pu.contains i=false->j<i->pu.contains j=true\/MC ops ops.size i j=true
 zap:∀i o,ops[i]?=some o->np<=i->pu.contains i=true->o.dst=none/\o.guard=none/\∃v,o.op=.move (.const v)
theorem Ue{pu:List Nat}{ops:Array Oper}{np:Nat}(h:Q3 pu ops np=true):Pre pu ops np:=by
 simp only[Q3,dt,d7,mem_range]at h;obtain⟨⟨⟨h1,h1'⟩,h2⟩,h3⟩:=h;have at_:∀i o,ops[i]?=some o->i<ops.size:=λi o e=>(cj.1 e).1;refine⟨di h1,λi hi=>di (h1' i (by simpa using hi)),h2,?_,?_,?_,?_,?_⟩
 ·intro i o e ed hed hb;have:=h3 i (at_ i o e);simp only[e,dt]at this;have h4:=Array.all_eq_true_iff_forall_mem.1 this.1 ed hed;simp[hb]at h4;exact h4
 ·intro i j o d e hi hj hd hdj;have:=h3 i (at_ i o e);simp only[e,dt,hi,if_true,d7,mem_range,hd]at this;have h4:=this.2.1 j hj;simp[hdj]at h4;exact h4
 ·intro i o t j e hi ht hj hd;have:=h3 i (at_ i o e);simp only[e,dt,hi,if_true,d7,mem_range]at this;have h4:=this.2.2 t ht j hj;simp[hd]at h4;exact h4
 ·intro i j his hi hpu hj;obtain⟨o,e⟩:∃o,ops[i]?=some o:=⟨ops[i],by simp[his]⟩
  have:=h3 i (at_ i o e);have hni:¬i<np:=ω
  have hpu':¬pu.contains i=true:=by rw[hpu];simp
  simp only[e,dt,ae hni,ae hpu',d7,mem_range]at this;exact Bool.or_eq_true_iff.1<|this.2 j hj
 ·intro i o e hi hpu;have:=h3 i (at_ i o e);have hni:¬i<np:=ω
  simp only[e,dt,ae hni,ah hpu]at this;exact⟨by simpa using this.2.1.1,by simpa using this.2.1.2,WG this.2.2⟩
theorem Is{o:Oper}{j:Nat}(h:OC o j=true):∃e∈o.after,Region.binds .any e=true/\e.on=j:=by obtain⟨e,he,hb⟩:=Array.any_eq_true'.1 h;simp at hb;exact⟨e,he,hb.1,hb.2⟩
theorem Me{ops:Array Oper}{listed:Array Bool}{i:Nat}{o:Oper}(hi:ops[i]?=some o)(hr:i∈Region.ready .any ops listed){j:Nat}(h:OC o j=true):listed.getD j false=true:=by obtain⟨_,o',ho',hall⟩:=mem_ready.1 hr;rw[hi]at ho';cases ho';obtain⟨e,he,hb,rfl⟩:=Is h;exact hall e he hb
def Closed(ops:Array Oper)(listed:Array Bool):Prop:=∀i o,listed.getD i false=true->ops[i]?=some o->∀e∈o.after,Region.binds .any e=true->listed.getD e.on false=true
theorem J3{ops:Array Oper}{listed:Array Bool}(hc:Closed ops listed):∀(n i j:Nat) (o:Oper),ops[i]?=some o->(∀e∈o.after,Region.binds .any e=true->listed.getD e.on false=true)->MC ops n i j=true->listed.getD j false=true
 | 0,_,_,_,_,_,h=>by cases h
 | n+1,i,j,o,ho,hall,h=>by
  simp only[MC,ho,Bool.or_eq_true]at h;rcases h with h|h
  ·obtain⟨e,he,hb,rfl⟩:=Is h;exact hall e he hb
  ·obtain⟨e,he,hb⟩:=Array.any_eq_true'.1 h;simp only[dt]at hb;have hl:=hall e he hb.1;cases ho':ops[e.on]? with
   | none=>
    cases n with
    | zero=>cases hb.2
    | succ n=>simp[MC,ho']at hb
   | some o'=>exact J3 hc n e.on j o' ho' (λe' he' hb'=>hc e.on o' hl ho' e' he' hb') hb.2
theorem KC{ops:Array Oper}{listed:Array Bool}(hc:Closed ops listed){n i:Nat}(hr:i∈Region.ready .any ops listed){j:Nat}(h:MC ops n i j=true):listed.getD j false=true:=by obtain⟨_,o,ho,hall⟩:=mem_ready.1 hr;exact J3 hc n i j o ho hall h
theorem Closed.set{ops:Array Oper}{listed:Array Bool}(hc:Closed ops listed){i:Nat}(hr:i∈Region.ready .any ops listed):Closed ops (listed.setIfInBounds i true):=by
 intro k o hk ho e he hb;refine getD_set_true ?_;by_cases hki:i=k
 ·subst hki;obtain⟨_,o',ho',hall⟩:=mem_ready.1 hr;rw[ho]at ho';cases ho';exact hall e he hb
 ·rw[getD_set_ne false hki]at hk;exact hc k o hk ho e he hb
def left(listed:Array Bool):Nat:=listed.toList.countP (! ·)
theorem T8(l:List Bool)(i:Nat)(h:l[i]?=some false):(l.set i true).countP (! ·)+1=l.countP (! ·):=by
 induction l generalizing i with
 | nil=>cases h
 | cons a l ih=>
  cases i with
  | zero=>simp at h;subst h;simp
  | succ i=>simp at h;simp[List.countP_cons];have:=ih i h;omega
theorem Mm{listed:Array Bool}{i:Nat}(h:listed[i]?=some false):left (listed.setIfInBounds i true)+1=left listed:=by unfold left;rw[Array.toList_setIfInBounds];exact T8 _ _ (by simpa using h)
theorem NQ{listed:Array Bool}(h:left listed=0)(i:Nat):listed.getD i true=true:=by
 unfold left at h;rw[List.countP_eq_zero]at h;rw[bp];cases e:listed[i]? with
 | none=>rfl
 | some b=>
  have:=h b (by rw[Array.mem_toList_iff];exact Array.mem_of_getElem? e);simpa using this
theorem BO{listed:Array Bool}{i:Nat}(h:listed.getD i true=false):listed[i]?=some false:=by
 rw[bp]at h;cases e:listed[i]? with
 | none=>rw[e]at h;cases h
 | some b=>rw[e]at h;simp at h;rw[h]
theorem AaE{P:Program}{pu:List Nat}{ops:Array Oper}{Q:Exit->Act->World->Prop}{np:Nat}(hp:Pre pu ops np):∀(l:List Oper) (k fuel:Nat) (listed:Array Bool) (a:Act) (w:World),
  ops.toList.drop k=l->np<=k->Closed ops listed->listed.size=ops.size->(∀j,j<ops.size->(listed.getD j false=true<->(j<k\/pu.contains j=true)))->left listed<=fuel->wpList P ops Q l a w->wpAny P .any ops Q fuel listed a w:=by
 intro l
 induction l with
 | nil=>
  intro k fuel listed a w hl hk hc hs hlist hf h;have hk':ops.size<=k:=by simpa using List.drop_eq_nil_iff.1 hl
  refine wpAny_done ?_ h fuel;cases hr:Region.ready .any ops listed with
  | nil=>rfl
  | cons x xs=>
   have hx:x∈Region.ready .any ops listed:=by rw[hr];exact ax
   obtain⟨h0,o,ho,_⟩:=mem_ready.1 hx;have hlt:=(cj.1 ho).1;have:=(hlist x hlt).2 (.inl ω);have h2:=BO h0;rw[bp,h2]at this;cases this
 | cons o l ih=>
  intro k fuel listed a w hl hk hc hs hlist hf h
  have hko:ops[k]?=some o:=by
   have:(ops.toList.drop k)[0]?=some o:=by rw[hl];rfl
   simpa using this
  have hklt:k<ops.size:=(cj.1 hko).1;by_cases hkpu:pu.contains k=true
  ·obtain⟨z1,z2,v,z3⟩:=hp.zap k o hko hk hkpu;refine ih (k+1) fuel listed a w (by rw[<-drop_drop,hl];rfl) ω hc hs (λj hj=>?_) hf ?_
   ·rw[hlist j hj];constructor
    ·rintro(h1|h1)
     ·exact .inl ω
     ·exact .inr h1
    ·rintro(h1|h1)
     ·by_cases hjk:j=k
      ·subst hjk;exact .inr hkpu
      ·exact .inl ω
     ·exact .inr h1
   ·unfold wpList at h;rw[ah (by simp[Region.wanted,z2])]at h;have hrun:(execOp a.eval o).run P w=.ok (.value v) w:=by simp[execOp,z3,Act.eval]
    rcases h with h|h
    ·unfold Oper.wp at h;rw[hrun]at h;simp only[Oper.upon,z1,Act.put]at h;exact h
    ·have h1:=h.1.1;have e1:execOp a.eval o=(pure (Next.value v):Sem Next):=by simp only[execOp,z3,Act.eval]
     rw[e1]at h1;have e2:(Sem.runT P (pure (Next.value v):Sem Next) w #[]).2=#[]:=rfl;rw[e2]at h1;exact ie h1 σ
  have hkpu':pu.contains k=false:=by simpa using hkpu
  have hkf:listed[k]?=some false:=by
   have hlt:k<listed.size:=ω
   cases e:listed[k] with
   | false=>simp[hlt,e]
   | true=>
    have:=(hlist k hklt).1 (by rw[bp];simp[hlt,e]);rcases this with h1|h1
    ·omega
    ·exact ie h1 hkpu
  have hl1:=Mm hkf;cases fuel with
  | zero=>omega
  | succ fuel=>
   have hready:∀j∈Region.ready .any ops listed,j=k:=by
    intro j hj;obtain⟨h0,o',ho',_⟩:=mem_ready.1 hj;have hjlt:=(cj.1 ho').1
    have hjn:¬(j<k\/pu.contains j=true):=λhc=>by have:=(hlist j hjlt).2 hc;rw[bp,BO h0]at this;cases this
    have hjk:¬j<k:=λhc=>hjn (.inl hc)
    have hjpu:pu.contains j=false:=by
     cases e:pu.contains j with
     | false=>rfl
     | true=>exact ie (.inr e) hjn
    by_cases hjk':j=k
    ·exact hjk'
    ·have:=KC hc hj ((hp.tail j k hjlt ω hjpu ω).resolve_left hkpu);rw[bp,hkf]at this;cases this
   have hkr:k∈Region.ready .any ops listed:=mem_ready.2 ⟨by rw[bp,hkf];rfl,o,hko,λe he hb=>(hlist e.on (by have:=hp.backs k o hko e he hb;omega)).2 (.inl (hp.backs k o hko e he hb))⟩;refine⟨λh0=>(by rw[h0]at hkr;cases hkr),λj hj=>?_⟩;obtain rfl:=hready j hj
   have hnext:∀a w,wpList P ops Q l a w->wpAny P .any ops Q fuel (listed.setIfInBounds j true) a w:=λa w hw=>by
    refine ih (j+1) fuel _ a w ?_ ω (hc.set hkr) (by simpa using hs) ?_ ω hw
    ·rw[<-drop_drop,hl];rfl
    ·intro i hi;by_cases hij:i=j
     ·subst hij;have:i<listed.size:=ω
      simp[bp,this]
     ·rw[bp,ei (ft hij),<-bp,hlist i hi];constructor
      ·rintro(h1|h1)
       ·exact .inl ω
       ·exact .inr h1
      ·rintro(h1|h1)
       ·exact .inl ω
       ·exact .inr h1
   unfold wpOp;simp only[hko];unfold wpList at h;split
   ·rename_i hw;rw[ah hw]at h;exact h.imp (Oper.wp_mono hnext) id
   ·rename_i hw;rw[ae hw]at h;exact hnext _ _ h
def Ef(pl:List P0)(dst:Nat->Option Nat)(γ:Nat->Nat)(j:Nat):List Hp:=
 match pl[j]?,dst j with
 | some (.inr (.inr x)),some d=>[BI (γ d) x.1.1 x.1.2]
 | _,_=>[]
def Rel(h:Hp)(γ:Nat->Nat)(d:Nat)(u:Value):P0->Prop
 | .inl v=>u=v
 | .inr (.inl V)=>Aeu V/\V h u
 | .inr (.inr x)=>u=x.2 (γ d)
structure Mid(e:Entry)(pu:List Nat)(ops:Array Oper)(np:Nat)(pl:List P0)(s0:AE)(h0:Hp)(ms:List Hp)(listed:Array Bool)(a:Act)(w:World)(h:Hp)(γ:Nat->Nat):Prop where
 le:h0.le h
 ends:e.Ends w h (((range np).flatMap λj=>if listed.getD j false then Ef pl (Bo ops) γ j else [])++ms)
 defers:a.defers=mkD e.ds
 size:a.tmps.size=e.n
 old:∀t u,lk s0 t=some u->(∀j,j<np->Bo ops j≠some t)->a.tmps[t]?=some u
 new:∀j,j<np->listed.getD j false=true->∀d,Bo ops j=some d->∃u st,a.tmps[d]?=some u/\pl[j]?=some st/\Rel h γ d u st
 later:∀j,np<=j->listed.getD j false=pu.contains j
 lsize:listed.size=ops.size
 closed:Closed ops listed
 pure:∀j,pu.contains j=true->listed.getD j false=true
theorem Dp(a s:AE)(t:Nat):lk (a++s) t=(lk a t).or (lk s t):=by
 induction a with
 | nil=>simp[lk]
 | cons p a ih=>
  obtain⟨i,v⟩:=p;by_cases hi:i=t
  ·subst hi;rw[bh,BG,BG];rfl
  ·rw[bh,BN _ _ hi,BN _ _ hi,ih]
theorem PF:∀(s:AE) (t:Nat) (u:Value),lk s t=some u->(t,u)∈s
 | (i,v)::s,t,u,h=>by
  by_cases hi:i=t
  ·subst hi;rw[BG]at h;cases h;exact ax
  ·rw[BN _ _ hi]at h;exact bi _<|PF s t u h
theorem Ends.grow{w0 w w':World}{h0 h h1 h1':Hp}{ms0 ms:List Hp}(H:Ends w0 h0 ms0 w h ms)(hl:h1.le h)(hl':h1.le h1')(hin:h1'.inW w')(hold:∀k,k<w.heap.size->h1' k=h1 k)(he:Ext w w') :
  h.le (h.join h1')/\h1'.le (h.join h1')/\Ends w0 h0 ms0 w' (h.join h1') ms:=by
 have H':=H.ext he
 have e1:∀k,k<w.heap.size->(h.join h1') k=h k:=λk hk=>by
  unfold Hp.join;cases e:h k with
  | some o=>rfl
  | none=>
   simp only;rw[hold k hk];cases e2:h1 k with
   | none=>rfl
   | some o=>rw[hl k o e2]at e;cases e
 refine⟨Hp.le_join _ _,?_,⟨⟨?_,H'.st.own,?_,H'.st.apart⟩,H'.os,H'.tape,H'.output,H'.size,H'.block,Hp.le_trans H'.le (Hp.le_join _ _),?_,H'.mnew⟩⟩
 ·intro k o e;rcases f6 k w.heap.size with hk|hk
  ·rw[e1 k hk];rw[hold k hk]at e;exact hl k o e
  ·have:h k=none:=Hp.inW_none H.st.imm hk;simp[Hp.join,this,e]
 ·intro k o e;unfold Hp.join at e;split at e
  ·rename_i o' e';cases e;exact H'.st.imm k _ e'
  ·exact hin k o e
 ·intro m hm k;cases e:m k with
  | none=>exact .inl Y
  | some o=>
   right
   have hk:k<w.heap.size:=Hp.inW_lt (H.st.own m hm) e;rw[e1 k hk];rcases H.st.off m hm k with e2|e2
   ·rw[e2]at e;cases e
   ·exact e2
 ·intro k hk hm;rw[e1 k (b6 hk H.size)];exact H.hnew k hk hm
theorem St.weaken{w:World}{h h1:Hp}{ms ms1:List Hp}(s:St w h ms)(hl:h1.le h)(hm:ms1.Sublist ms):St w h1 ms1:=
 ⟨λg o e=>s.imm g o (hl g o e),λm h'=>s.own m (hm.subset h'),λm h' k=>by
  rcases s.off m (hm.subset h') k with e|e
  ·exact .inl e
  ·right
   cases e2:h1 k with
   | none=>rfl
   | some o=>(rw[hl k o e2]at e;cases e),s.apart.sublist hm⟩
theorem Ends.back{w0 w w1:World}{h0 h h1:Hp}{ms0 ms ms1:List Hp}(H:Ends w0 h0 ms0 w h ms)(H1:Ends w0 h0 ms0 w1 h1 ms1)(hl:h1.le h):Ends w0 h0 ms0 w h1 ms:=
 ⟨H.st.weaken hl (List.Sublist.refl _),H.os,H.tape,H.output,H.size,H.block,H1.le,H1.hnew,H.mnew⟩
theorem OpRes.congr{P:Program}{o:Oper}{ρ ρ':Operand->Value}{w:World}{Φ:Value->World->Prop}(hs:∀cs b,o.op≠.select cs b)(h:∀x∈o.op.operands,ρ x=ρ' x)(k:OpRes P o ρ w Φ):OpRes P o ρ' w Φ:=by unfold OpRes at *;rwa [<-execOp_congr o hs h]
theorem Act.eval_of_slot{a:Act}{t:Nat}{u:Value}(h:a.tmps[t]?=some u):a.eval (.tmp t)=u:=by simp only[Act.eval];rw[bp,h];rfl
theorem OpRes.looks{P:Program}{ops:Array Oper}{o:Oper}{a:Act}{w:World}{s:AE}{Φ:Value->World->Prop}(hs:∀cs b,o.op≠.select cs b)(hl:∀t∈o.looksAt ops,∀u,lk s t=some u->a.tmps[t]?=some u)
  (k:∀ρ,Evs s ρ->OpRes P o ρ w Φ):OpRes P o a.eval w Φ:=by
 classical
 refine OpRes.congr (ρ:=λx=>if x∈o.op.operands then a.eval x else(ev s x).getD undef) hs (λx hx=>ah hx)<|k _ λx u hu=>?_;show(if x∈o.op.operands then a.eval x else(ev s x).getD undef)=u;split
 ·rename_i hx;cases x with
  | tmp t=>
   refine Act.eval_of_slot<|hl t ?_ u hu;exact eh _<|List.mem_filterMap.2 ⟨.tmp t,by simpa using hx,rfl⟩
  | const v=>cases hu;rfl
  | global g=>cases hu;rfl
  | func f=>cases hu;rfl
 ·rw[hu];rfl
theorem KD{α:Type}(x:α)(f f':Nat->List α)(i:Nat):∀(l:List Nat),l.Nodup->i∈l->(∀j∈l,j≠i->f' j=f j)->f i=[]->f' i=[x]->(x::l.flatMap f).Perm (l.flatMap f')
 | [],_,h,_,_,_=>by cases h
 | j::l,hn,hi,ho,e1,e2=>by
  simp only[fc];by_cases hj:j=i
  ·subst hj;rw[e1,e2];have hnot:j ∉ l:=(fl.1 hn).1
   have:l.flatMap f'=l.flatMap f:=by
    have:∀(l':List Nat),(∀k∈l',k≠j/\k∈j::l)->l'.flatMap f'=l'.flatMap f:=by
     intro l'
     induction l' with
     | nil=>intro _;rfl
     | cons k l' ih=>intro hk;simp only[fc];rw[ho k (hk k σ).2 (hk k σ).1,ih λk' hk'=>hk k' (bi _ hk')]
    exact this l λk hk=>⟨λe=>hnot<|e ▸ hk,bi _ hk⟩
   rw[this];exact fo _
  ·rw[ho j σ hj];have hil:i∈l:=(bg.1 hi).resolve_left (λe=>hj e.symm);have:=KD x f f' i l (fl.1 hn).2 hil (λk hk hne=>ho k (bi _ hk) hne) e1 e2;exact(List.perm_middle.symm).trans (List.Perm.append_left _ this)
theorem FP{α:Type}(f f':Nat->List α):∀(l:List Nat),(∀j∈l,f' j=f j)->l.flatMap f'=l.flatMap f
 | [],_=>rfl
 | j::l,h=>by simp only[fc];rw[h j σ,FP f f' l λk hk=>h k (bi _ hk)]
theorem UN(γ:Nat->Nat):∀(l:List Oper) (pl:List P0),pl.length=l.length →
  (range l.length).flatMap (λj=>Ef pl (λj=>(l[j]?).bind (·.dst)) γ j)=Qi (D9 l pl) γ
 | [],[],_=>rfl
 | o::l,st::pl,h=>by
  have ih:=UN γ l pl (by simpa using h);rw[List.length_cons,List.range_succ_eq_map,fc,List.flatMap_map]
  have ih':(range l.length).flatMap (λa=>Ef (st::pl) (λj=>((o::l)[j]?).bind (·.dst)) γ (Nat.succ a))=Qi (D9 l pl) γ:=by rw[<-ih];refine FP _ _ _ λj _=>?_;simp[Ef]
  rw[ih'];rcases st with v|V|x
  ·simp[D9,Ef]
  ·simp[D9,Ef]
  ·cases hd:o.dst with
   | none=>simp[D9,hd,Ef]
   | some d=>simp[D9,hd,Qi,Ef]
section sound
variable {e:Entry} {pu:List Nat} {ops:Array Oper} {np:Nat} {pl:List P0} {s0:AE} {h0:Hp} {ms:List Hp} {listed:Array Bool} {a:Act} {w:World} {h:Hp} {γ:Nat->Nat}
theorem Mid.look(M:Mid e pu ops np pl s0 h0 ms listed a w h γ)(hp:Pre pu ops np)(hlen:pl.length=np)(hf:∀j,j<np->∀d,Bo ops j=some d->lk s0 d=none){i:Nat}{o:Oper}(hi:ops[i]?=some o)(hin:i<np)(hr:i∈Region.ready .any ops listed){t:Nat}(ht:t∈o.looksAt ops){u:Value}
  (hu:lk (Eo (ops.toList.take i) (pl.take i) s0) t=some u):a.tmps[t]?=some u:=by
 rcases JX _ _ _ _ _ hu with ⟨j,o',h1,h2,h3⟩|h1
 ·have hji:j<i:=by
   have:=(br.1 h1).1;simp at this;omega
  have hoj:ops[j]?=some o':=by rw[fx,ah hji]at h1;simpa using h1
  have hplj:pl[j]?=some (.inl u):=by rw[fx,ah hji]at h3;exact h3
  have hd:Bo ops j=some t:=by simp[Bo,hoj,h2]
  obtain⟨_,hed⟩:=hp.look i o t j hi hin ht ω hd;obtain⟨u',st,e1,e2,e3⟩:=M.new j ω (Me hi hr hed) t hd;rw[hplj]at e2;cases e2;simp only[Rel]at e3;rw[e1,e3]
 ·exact M.old t u h1 λj hj hd=>by rw[hf j hj t hd]at h1;cases h1
theorem Mid.lookQ(M:Mid e pu ops np pl s0 h0 ms listed a w h γ)(hp:Pre pu ops np){i:Nat}{o:Oper}(hi:ops[i]?=some o)(hin:i<np)(hr:i∈Region.ready .any ops listed){d:Nat}{V:VP}(hd:d∈o.looksAt ops)(hq:(d,V)∈Em (ops.toList.take i) (pl.take i)) :
  ∃u,a.tmps[d]?=some u/\V h u:=by
 obtain⟨j,o',h1,h2,h3⟩:=Hd _ _ _ _ hq
 have hji:j<i:=by have:=(br.1 h1).1;simp at this;omega
 have hoj:ops[j]?=some o':=by rw[fx,ah hji]at h1;simpa using h1
 have hplj:pl[j]?=some (.inr (.inl V)):=by rw[fx,ah hji]at h3;exact h3
 have hdj:Bo ops j=some d:=by simp[Bo,hoj,h2]
 obtain⟨_,hed⟩:=hp.look i o d j hi hin hd ω hdj;obtain⟨u',st,e1,e2,e3⟩:=M.new j ω (Me hi hr hed) d hdj;rw[hplj]at e2;cases e2;exact⟨u',e1,e3.2⟩
theorem Rel.le{h h':Hp}{γ:Nat->Nat}{d:Nat}{u:Value}{st:P0}(hl:h.le h')(r:Rel h γ d u st):Rel h' γ d u st:=by
 rcases st with v|V|x
 ·exact r
 ·exact⟨r.1,r.1 _ _ _ hl r.2⟩
 ·exact r
theorem Mid.next(M:Mid e pu ops np pl s0 h0 ms listed a w h γ)(hp:Pre pu ops np)(hlen:pl.length=np){i:Nat}{o:Oper}(hi:ops[i]?=some o)(hin:i<np)(hr:i∈Region.ready .any ops listed)(hun:listed.getD i true=false)(hbig:∀d,o.dst=some d->d<e.n){st:P0}(hst:pl[i]?=some st){u:Value}{w':World}{h':Hp}{γ':Nat->Nat}
  (hl:h.le h') (hγ:∀d,o.dst≠some d->γ' d=γ d) (hγ0:(∀x,st≠.inr (.inr x))->γ'=γ) (hR:∀d,o.dst=some d->Rel h' γ' d u st)
  (hE:e.Ends w' h' (Ef pl (Bo ops) γ' i++(((range np).flatMap λj=>if listed.getD j false then Ef pl (Bo ops) γ j else [])++ms))) :
  Mid e pu ops np pl s0 h0 ms (listed.setIfInBounds i true) (a.put o.dst u) w' h' γ':=by
 have hilt:i<listed.size:=by rw[M.lsize];exact(cj.1 hi).1
 have hdi:Bo ops i=o.dst:=by simp[Bo,hi]
 have hset:∀j d,(listed.setIfInBounds i true).getD j d=if j=i then true else listed.getD j d:=λj d=>by
  by_cases hj:j=i
  ·subst hj;simp[hilt]
  ·rw[getD_set_ne d (ft hj)];simp[hj]
 have hli:listed.getD i false=false:=by rw[bp,BO hun];rfl
 have hresj:∀j,j≠i->j<np->Ef pl (Bo ops) γ' j=Ef pl (Bo ops) γ j:=λj hj hjn=>by
  unfold Ef;split
  ·rename_i x d e1 e2;rw[hγ d (λe3=>hj (hp.uniq i j o d hi hin hjn e3 e2))]
  ·rfl
 refine⟨Hp.le_trans M.le hl,?_,by cases hd:o.dst<;>exact M.defers,?_,?_,?_,?_,by simpa using M.lsize,M.closed.set hr,λj hj=>getD_set_true (M.pure j hj)⟩
 ·-- resources
  cases hr:Ef pl (Bo ops) γ' i with
  | nil=>
   rw[hr,ap]at hE;refine Ends.perm hE<|List.Perm.of_eq ?_;congr 1;refine(FP _ _ _ λj hj=>?_).symm;rw[hset];by_cases hji:j=i
   ·subst hji;simp[hli,hr]
   ·simp only[hji,if_false];split
    ·exact hresj j hji (by simpa using hj)
    ·rfl
  | cons x xs=>
   have hx:xs=[]:=by
    unfold Ef at hr;split at hr
    ·simp at hr;exact hr.2
    ·cases hr
   subst hx;rw[hr,List.singleton_append,<-bh]at hE;refine Ends.perm hE<|List.Perm.append_right _ ?_;refine KD x _ _ i _ List.nodup_range (by simpa using hin) ?_ (by simp[hli]) (by rw[hset];simp[hr]);intro j hj hji;rw[hset];simp only[hji,if_false];split
   ·exact hresj j hji (by simpa using hj)
   ·rfl
 ·cases hd:o.dst<;>simp[Act.put,M.size]
 ·intro t v hv hno;have hne:o.dst≠some t:=by rw[<-hdi];exact hno i hin
  cases hd:o.dst with
  | none=>exact M.old t v hv hno
  | some d=>
   have:d≠t:=λe=>hne (by rw[hd,e]);simp[Act.put,ei this,M.old t v hv hno]
 ·intro j hj hlj d hd;by_cases hji:j=i
  ·subst hji;rw[hdi]at hd;refine⟨u,st,?_,hst,hR d hd⟩;rw[hd];simp[Act.put,M.size,hbig d hd]
  ·rw[hset]at hlj;simp only[hji,if_false]at hlj;obtain⟨u',st',e1,e2,e3⟩:=M.new j hj hlj d hd;have hne:o.dst≠some d:=λe'=>hji (hp.uniq i j o d hi hin hj e' hd);refine⟨u',st',?_,e2,?_⟩
   ·cases hd':o.dst with
    | none=>exact e1
    | some d'=>
     have:d'≠d:=λe=>hne (by rw[hd',e]);simp[Act.put,ei this,e1]
   ·have:=Rel.le hl e3;rcases st' with v|V|x
    ·exact this
    ·exact this
    ·simp only[Rel]at this ⊢;rw[hγ d hne];exact this
 ·intro j hj;rw[hset];have:j≠i:=ω
  simp only[this,if_false];exact M.later j hj
theorem Gx{s:AE}{o:Oper}{b:Bool}(hl:∀t∈o.looksAt ops,∀u,lk s t=some u->a.tmps[t]?=some u)(h:Wants ops o s b):Region.wanted o (yielded ops a.tmps)=b:=by
 unfold Wants at h;unfold Region.wanted;cases hg:o.guard with
 | none=>simp only[hg]at h;simp[h]
 | some p=>
  obtain⟨j,want⟩:=p;simp only[hg]at h
  have hlk:∀dj u,Bo ops j=some dj->lk s dj=some u->a.tmps[dj]?=some u:=λdj u e1 e2=>by refine hl dj ?_ _ e2;unfold Oper.looksAt;refine fg _ ?_;simp only[hg];unfold Bo at e1;rw[e1];simp
  rcases h with ⟨dj,b',e1,e2,e3⟩|⟨dj,e1,e2,e3⟩
  rotate_left
  ·have h1:=hlk dj _ e1 e2
   have hy:yielded ops a.tmps j=none:=by unfold yielded;unfold Bo at e1;rw[e1];simp[h1,undef]
   simp only[hy,e3];rfl
  have h1:a.tmps[dj]?=some (.bool b'):=hlk dj _ e1 e2
  have hy:yielded ops a.tmps j=some b':=by unfold yielded;unfold Bo at e1;rw[e1];simp[h1]
  simp only[hy,e3];cases b'<;>cases want<;>rfl
theorem Mid.step(M:Mid e pu ops np pl s0 h0 ms listed a w h γ)(hp:Pre pu ops np)(hlen:pl.length=np)(hf:∀j,j<np->∀d,Bo ops j=some d->lk s0 d=none)(hbig:∀j,j<np->∀d,Bo ops j=some d->d<e.n){i:Nat}{o:Oper}(hi:ops[i]?=some o)(hin:i<np)(hr:i∈Region.ready .any ops listed)
  {st:P0} (hst:pl[i]?=some st) (hok:StpOK e.P ops h0 ms o (Eo (ops.toList.take i) (pl.take i) s0) (Em (ops.toList.take i) (pl.take i)) st) {Q:Exit->Act->World->Prop} {K:Act->World->Prop}
  (hK:∀a' w' h' γ',Mid e pu ops np pl s0 h0 ms (listed.setIfInBounds i true) a' w' h' γ'->K a' w'):wpOp e.P ops Q i K a w:=by
 have hun:=(mem_ready.1 hr).1;have hdi:Bo ops i=o.dst:=by simp[Bo,hi]
 have hbig':∀d,o.dst=some d->d<e.n:=λd hd=>hbig i hin d (by rw[hdi,hd]);have hlook:=λ(t:Nat) (ht:t∈o.looksAt ops) (u:Value) hu=>M.look hp hlen hf hi hin hr ht (u:=u) hu;have hsel:∀cs b,o.op≠.select cs b:=λcs b=>Region.noSelect_spec hp.nosel i o cs b hi;have hst0:St w h0 ms:=M.ends.st.weaken M.le (List.sublist_append_right _ _);have hsth:St w h ms:=M.ends.st.weaken (Hp.le_refl _) (List.sublist_append_right _ _);unfold wpOp;simp only[hi]
 have hresX:(∀x,st≠.inr (.inr x))->Ef pl (Bo ops) γ i=[]:=λhne=>by
  unfold Ef;rw[hst];rcases st with v|V|x
  ·rfl
  ·rfl
  ·exact ie Y<|hne x
 have hvalQ:∀q',(∀p∈q',p∈Em (ops.toList.take i) (pl.take i)/\p.1∈o.looksAt ops)->Yk q' (λd=>(a.tmps[d]?).getD undef) h/\∀t∈o.looksAt ops,∀u,lk (PQ q' (λd=>(a.tmps[d]?).getD undef)++Eo (ops.toList.take i) (pl.take i) s0) t=some u->a.tmps[t]?=some u:=λq' hq'=>by
  refine⟨λd V hdV=>?_,λt ht u hu=>?_⟩
  ·obtain⟨h1,h2⟩:=hq' _ hdV;obtain⟨u,e1,e2⟩:=M.lookQ hp hi hin hr h2 h1;simp only[e1];exact e2
  ·rw[Dp]at hu;cases hq:lk (PQ q' λd=>(a.tmps[d]?).getD undef) t with
   | none=>rw[hq]at hu;exact hlook t ht u hu
   | some u'=>
    rw[hq]at hu;cases hu;have hm:=PF _ _ _ hq;unfold PQ at hm;obtain⟨p,hp',e1⟩:=ag.1 hm;obtain⟨d,V⟩:=p;simp only[Prod.mk.injEq]at e1;obtain⟨rfl,rfl⟩:=e1;obtain⟨h1,h2⟩:=hq' _ hp';obtain⟨u,e1,e2⟩:=M.lookQ hp hi hin hr h2 h1;simp[e1]
 -- an exact value,or none
 have exact_:∀v,st=.inl v->∀w',Ext w w'->K (a.put o.dst v) w':=λv hv w' he=>by subst hv;refine hK _ _ h γ<|M.next hp hlen hi hin hr hun hbig' hst (Hp.le_refl _) (λ_ _=>rfl) (λ_=>rfl) (λd _=>rfl) ?_;rw[hresX (λx hx=>by cases hx),ap];exact Ends.ext M.ends he
 rcases st with v|V|x
 ·rcases hok with ⟨hw,hx⟩|⟨hw,q',hq',hx⟩|⟨hw,rfl⟩
  ·rw[Gx hlook hw,ah rfl];exact .inl ((OpRes.looks hsel hlook λρ hρ=>hx ρ w hρ hst0).wp λv' w' ⟨e1,e2⟩=>by subst e1;exact exact_ _ Y w' e2)
  ·rw[Gx hlook hw,ah rfl];obtain⟨hsat,hlook'⟩:=hvalQ q' hq';exact .inl ((OpRes.looks hsel hlook' λρ hρ=>hx h M.le _ hsat ρ w hρ hsth).wp λv' w' ⟨e1,e2⟩=>by subst e1;exact exact_ _ Y w' e2)
  ·rw[Gx hlook hw,ae σ];exact exact_ _ Y w<|Ext.refl _
 ·obtain⟨hw,hmono,hx⟩:=hok;rw[Gx hlook hw,ah rfl]
  have fin:∀(h1:Hp) (u:Value) (w':World),h1.le h->(∃h':Hp,h1.le h'/\h'.inW w'/\(∀k,k<w.heap.size->h' k=h1 k)/\Ext w w'/\V h' u)->K (a.put o.dst u) w':=λh1 u w' hl ⟨h',g1,g2,g3,g4,g5⟩=>by obtain⟨l1,l2,E⟩:=Ends.grow M.ends hl g1 g2 g3 g4;refine hK _ _ _ γ<|M.next hp hlen hi hin hr hun hbig' hst l1 (λ_ _=>rfl) (λ_=>rfl) (λd _=>⟨hmono,hmono _ _ _ l2 g5⟩) ?_;rw[hresX (λx hx=>by cases hx),ap];exact E
  rcases hx with hx|⟨q',hq',hx⟩
  ·exact .inl ((OpRes.looks hsel hlook λρ hρ=>hx ρ w hρ hst0).wp λu w' hh=>fin h0 u w' M.le hh)
  ·obtain⟨hsat,hlook'⟩:=hvalQ q' hq';exact .inl ((OpRes.looks hsel hlook' λρ hρ=>hx h M.le _ hsat ρ w hρ hsth).wp λu w' hh=>fin h u w' (Hp.le_refl _) hh)
 ·obtain⟨hw,⟨d,hd⟩,hx⟩:=hok;rw[Gx hlook hw,ah rfl];refine .inl ((OpRes.looks hsel hlook λρ hρ=>hx ρ w hρ hst0).wp λu w' ⟨e1,e2⟩=>?_);subst e1 e2;refine hK _ _ h (λy=>if y=d then w.heap.size else γ y)<|M.next hp hlen hi hin hr hun hbig' hst (Hp.le_refl _) (λy hy=>?_) (λhne=>ie Y<|hne _) (λy hy=>?_) ?_
  ·have:y≠d:=λe=>hy (by rw[hd,e]);simp[this]
  ·rw[hd]at hy;cases hy;simp[Rel]
  ·have hres:Ef pl (Bo ops) (λy=>if y=d then w.heap.size else γ y) i=[BI w.heap.size x.1.1 x.1.2]:=by
    unfold Ef;rw[hst,hdi,hd];simp
   rw[hres,List.singleton_append];exact Ends.alloc M.ends _
theorem Mid.any(hp:Pre pu ops np)(hlen:pl.length=np)(hf:∀j,j<np->∀d,Bo ops j=some d->lk s0 d=none)(hbig:∀j,j<np->∀d,Bo ops j=some d->d<e.n)
  (hplan:∀i o,i<np->ops[i]?=some o->∃st,pl[i]?=some st/\StpOK e.P ops h0 ms o (Eo (ops.toList.take i) (pl.take i) s0) (Em (ops.toList.take i) (pl.take i)) st) {Q:Exit->Act->World->Prop}
  (hend:∀listed a w h γ,Mid e pu ops np pl s0 h0 ms listed a w h γ->(∀j,j<np->listed.getD j false=true)->wpList e.P ops Q (ops.toList.drop np) a w) :
  ∀fuel listed a w h γ,Mid e pu ops np pl s0 h0 ms listed a w h γ->left listed<=fuel->wpAny e.P .any ops Q fuel listed a w:=by
 have alldone:∀fuel listed a w h γ,Mid e pu ops np pl s0 h0 ms listed a w h γ->left listed<=fuel->(∀j,j<np->listed.getD j false=true)->wpAny e.P .any ops Q fuel listed a w:=by
  intro fuel listed a w h γ M hle hall;refine AaE hp _ np fuel listed a w Y (am _) M.closed M.lsize (λj hj=>⟨λh1=>?_,λh1=>h1.elim (hall j)<|M.pure j⟩) hle<|hend _ _ _ _ _ M hall;rcases f6 j np with h2|h2
  ·exact .inl h2
  ·rw[M.later j h2]at h1;exact .inr h1
 intro fuel
 induction fuel with
 | zero=>
  intro listed a w h γ M hle;refine alldone 0 listed a w h γ M hle λj hj=>?_;have h1:=NQ (show left listed=0 by omega) j;have hjlt:j<listed.size:=by rw[M.lsize];exact b6 hj hp.le
  rw[bp]at h1 ⊢;simp[hjlt]at h1 ⊢;exact h1
 | succ fuel ih=>
  intro listed a w h γ M hle;by_cases hall:∀j,j<np->listed.getD j false=true
  ·exact alldone _ listed a w h γ M hle hall
  ·-- the least that is left is ready
   have hex:∃j,j<np/\listed.getD j false=false:=by
    apply aq;intro hne
    exact hall λj hj=>by
     cases hl:listed.getD j false with
     | true=>rfl
     | false=>exact ie ⟨j,hj,hl⟩ hne
   obtain⟨k,hk,hkl,hmin⟩:∃k,k<np/\listed.getD k false=false/\∀j,j<k->listed.getD j false=true:=by
    obtain⟨j,hj,hl⟩:=hex
    have:∀n j,j<=n->j<np->listed.getD j false=false->∃k,k<np/\listed.getD k false=false/\∀i,i<k->listed.getD i false=true:=by
     intro n
     induction n with
     | zero=>intro j hjn hj hl;exact⟨j,hj,hl,λi hi=>ω⟩
     | succ n ihn=>
      intro j hjn hj hl;by_cases hc:∃i,i<j/\listed.getD i false=false
      ·obtain⟨i,hi,hil⟩:=hc;exact ihn i ω ω hil
      ·refine⟨j,hj,hl,λi hi=>?_⟩;cases hil:listed.getD i false with
       | true=>rfl
       | false=>exact ie ⟨i,hi,hil⟩ hc
    exact this j j (am _) hj hl
   have hko:∃o,ops[k]?=some o:=⟨ops[k]'(b6 hk hp.le),by simp[b6 hk hp.le]⟩
   obtain⟨ok,hko⟩:=hko
   have hkr:k∈Region.ready .any ops listed:=by
    refine mem_ready.2 ⟨?_,ok,hko,λed hed hb=>hmin _<|hp.backs k ok hko ed hed hb⟩;have hklt:k<listed.size:=by rw[M.lsize];exact b6 hk hp.le
    rw[bp]at hkl ⊢;simp[hklt]at hkl ⊢;exact hkl
   refine⟨λh0'=>(by rw[h0']at hkr;cases hkr),λi hir=>?_⟩;obtain⟨hun,o,ho,_⟩:=mem_ready.1 hir
   have hin:i<np:=by
    rcases f6 i np with h2|h2
    ·exact h2
    ·have hipu:pu.contains i=false:=by
      rw[<-M.later i h2];rw[bp,BO hun];rfl
     have:=KC M.closed hir ((hp.tail i k (cj.1 ho).1 h2 hipu ω).resolve_left λh'=>by have:=M.pure k h';rw[hkl]at this;cases this);rw[hkl]at this;cases this
   obtain⟨st,hst,hok⟩:=hplan i o hin ho;have hls:=Mm (BO hun);exact M.step hp hlen hf hbig ho hin hir hst hok λa' w' h' γ' M'=>ih _ a' w' h' γ' M' ω
end sound
def Ki(n:Nat):List Oper->AE->Bool
 | [],_=>true
 | o::l,s=>(match o.dst with|some d=>(match lk s d with|none=>true|some _=>false)&&Nat.blt d n|none=>true)&&Ki n l s
theorem KK{n:Nat}:∀(l:List Oper) (s:AE),Ki n l s=true->∀(j:Nat) (o:Oper) (d:Nat),l[j]?=some o->o.dst=some d->lk s d=none/\d<n
 | [],_,_,j,o,d,h,_=>by cases h
 | o::l,s,H,j,o',d,h,hd=>by
  simp only[Ki,dt]at H;cases j with
  | zero=>
   simp at h;subst h;have h1:=H.1;simp only[hd,dt]at h1;refine⟨?_,di h1.2⟩;cases hl:lk s d with
   | none=>rfl
   | some v=>rw[hl]at h1;cases h1.1
  | succ j=>exact KK l s H.2 j o' d (by simpa using h) hd
theorem Qy{e:Entry}{pu:List Nat}{l:List Oper}{Q:Exit->Act->World->Prop}{s:AE}{h:Hp}{ms:List Hp}(np:Nat)(hp:Q3 pu l.toArray np=true)(hf:Ki e.n (l.take np) s=true)
  (k:WR e l.toArray Q (l.drop np) h ms (l.take np) s [] []) {listed:Array Bool} (hl1:listed.size=l.length) (hl2:∀i,listed.getD i false=pu.contains i) (hl3:Closed l.toArray listed) (hl4:∀i,pu.contains i=true->Bo l.toArray i=none) {fuel:Nat} (hfu:left listed<=fuel)
  {a:Act} {w:World} (ha:Has e.n e.ds a s) (hw:e.Ends w h ms):wpAny e.P .any l.toArray Q fuel listed a { w with drawn:=w.drawn+1 }:=by
 have P:=Ue hp;have hnp:np<=l.length:=by simpa using P.le
 obtain⟨pl,hlen,hplan,hfin⟩:=Lf _ _ _ _ k;have hlen':pl.length=np:=by rw[hlen,ay];omega
 have hd:∀j d,j<np->Bo l.toArray j=some d->lk s d=none/\d<e.n:=λj d hj hd=>by
  unfold Bo at hd;simp only[gr]at hd;cases ho:l[j]? with
  | none=>rw[ho]at hd;cases hd
  | some o=>
   rw[ho]at hd;exact KK _ _ hf j o d (by rw[fx,ah hj];exact ho) hd
 have hw1:e.Ends { w with drawn:=w.drawn+1 } h ms:=Ends.drew hw
 have M0:Mid e pu l.toArray np pl s h ms listed a { w with drawn:=w.drawn+1 } h (λ_=>0):=by
  refine⟨Hp.le_refl _,?_,ha.defers,ha.size,λt u hu _=>ha.slots t u hu,λj _ hj d hd=>?_,λj hj=>?_,by simpa using hl1,hl3,λj hj=>by rw[hl2];exact hj⟩
  ·have:(range np).flatMap (λj=>if listed.getD j false then Ef pl (Bo l.toArray) (λ_=>0) j else [])=[]:=by
    rw[List.flatMap_eq_nil_iff];intro j _;rw[hl2];cases hc:pu.contains j with
    | false=>rfl
    | true=>simp only[if_true];unfold Ef;rw[hl4 j hc];split<;>first|rfl|(rename_i hh;cases hh)
   rw[this];exact hw1
  ·rw[hl2]at hj;rw[hl4 j hj]at hd;cases hd
  ·exact hl2 j
 refine(Mid.any P hlen' (λj hj d hdj=>(hd j d hj hdj).1) (λj hj d hdj=>(hd j d hj hdj).2) ?_ ?_ _ _ _ _ _ _ M0 hfu)
 ·intro i o hi ho;have ho':(l.take np)[i]?=some o:=by rw[fx,ah hi];simpa using ho
  obtain⟨st,e1,e2⟩:=PlanOK.get _ _ _ _ hplan i o ho';refine⟨st,e1,?_⟩;have e3:(l.take np).take i=l.toArray.toList.take i:=by rw[List.take_take];congr 1;omega
  rw[e3]at e2;simpa using e2
 ·intro listed a w h' γ M hall
  have hfd:∀t u,lk (Eo (l.take np) pl s) t=some u->a.tmps[t]?=some u:=λt u hu=>by
   rcases JX _ _ _ _ _ hu with ⟨j,o,h1,h2,h3⟩|h1
   ·have hj:j<np:=by
     have:=(br.1 h1).1;simp at this;omega
    have hdj:Bo l.toArray j=some t:=by rw[fx,ah hj]at h1;simp[Bo,h1,h2]
    obtain⟨u',st,e1,e2,e3⟩:=M.new j hj (hall j hj) t hdj;rw[h3]at e2;cases e2;simp only[Rel]at e3;rw[e1,e3]
   ·exact M.old t u h1 λj hj hdj=>by rw[(hd j t hj hdj).1]at h1;cases h1
  have hres:((range np).flatMap λj=>if listed.getD j false then Ef pl (Bo l.toArray) γ j else [])=Qi (D9 (l.take np) pl) γ:=by
   rw[<-UN γ (l.take np) pl hlen];have hlt:(l.take np).length=np:=by rw[ay];omega
   rw[hlt];refine FP _ _ _ λj hj=>?_;have hj':j<np:=by simpa using hj
   rw[hall j hj',ah rfl];unfold Ef Bo;simp only[gr];rw[fx,ah hj']
  have hslotA:∀t u,lk (Rn (D9 (l.take np) pl) γ) t=some u->a.tmps[t]?=some u:=λt u hu=>by
   have hm:=PF _ _ _ hu;unfold Rn at hm;obtain⟨p,hp',e1⟩:=ag.1 hm;obtain⟨d,x⟩:=p;simp only[Prod.mk.injEq]at e1;obtain⟨rfl,rfl⟩:=e1;obtain⟨j,o,h1,h2,h3⟩:=IP _ _ _ _ hp'
   have hj:j<np:=by have:=(br.1 h1).1;simp at this;omega
   have hdj:Bo l.toArray j=some d:=by rw[fx,ah hj]at h1;simp[Bo,h1,h2]
   obtain⟨u',st,e1,e2,e3⟩:=M.new j hj (hall j hj) d hdj;rw[h3]at e2;cases e2;simp only[Rel]at e3;rw[e1,e3]
  have hq:∀d V,(d,V)∈Em (l.take np) pl->∃u,a.tmps[d]?=some u/\V h' u:=λd V hm=>by
   obtain⟨j,o,h1,h2,h3⟩:=Hd _ _ _ _ hm
   have hj:j<np:=by have:=(br.1 h1).1;simp at this;omega
   have hdj:Bo l.toArray j=some d:=by rw[fx,ah hj]at h1;simp[Bo,h1,h2]
   obtain⟨u',st,e1,e2,e3⟩:=M.new j hj (hall j hj) d hdj;rw[h3]at e2;cases e2;exact⟨u',e1,e3.2⟩
  have hE:=M.ends;rw[hres]at hE
  have hA:∀t u,lk (Rn (D9 (l.take np) pl) γ++Eo (l.take np) pl s) t=some u->a.tmps[t]?=some u:=λt u hu=>by
   rw[Dp]at hu;cases hv:lk (Rn (D9 (l.take np) pl) γ) t with
   | none=>rw[hv]at hu;exact hfd t u hu
   | some u'=>rw[hv]at hu;cases hu;exact hslotA t _ hv
  simp only[ap]at hfin;have hdr:l.toArray.toList.drop np=l.drop np:=rfl;rw[hdr];rcases hfin with ⟨_,hfin⟩|hfin
  ·exact hfin γ a w ⟨M.defers,M.size,hA⟩<|Ends.back hE hw M.le
  ·refine hfin h' M.le (λd=>(a.tmps[d]?).getD undef) γ (λd V hm=>?_) a w ⟨M.defers,M.size,λt u hu=>?_⟩ hE
   ·obtain⟨u,e1,e2⟩:=hq d V hm;simp only[e1];exact e2
   ·rw[Dp]at hu;cases hv:lk (PQ (Em (l.take np) pl) λd=>(a.tmps[d]?).getD undef) t with
    | none=>rw[hv]at hu;exact hA t u hu
    | some u'=>
     rw[hv]at hu;cases hu;have hm:=PF _ _ _ hv;unfold PQ at hm;obtain⟨p,hp',e1⟩:=ag.1 hm;obtain⟨d,V⟩:=p;simp only[Prod.mk.injEq]at e1;obtain⟨rfl,rfl⟩:=e1;obtain⟨u,e1,e2⟩:=hq d V hp';simp[e1]
theorem Cu(n i:Nat):(Array.replicate n false).getD i false=false:=by
 rw[bp];by_cases hi:i<n
 ·simp[hi]
 ·simp[Array.getElem?_eq_none,hi]
theorem BB{e:Entry}{id:Nat}{l:List Oper}{Q:Exit->Act->World->Prop}{s:AE}{h:Hp}{ms:List Hp}(np:Nat)(hm:e.P.follows .mixedOrders=true)(hp:Q3 [] l.toArray np=true)(hf:Ki e.n (l.take np) s=true)
  (k:WR e l.toArray Q (l.drop np) h ms (l.take np) s [] []):WS e (.region id l.toArray true) Q s h ms:=by
 intro a w ha hw;refine wp_region_any hm<|Qy np hp hf k σ (λi=>by rw[Cu];rfl) (λi o hi=>by rw[Cu]at hi;cases hi) (λi hi=>by cases hi) ?_ ha hw;unfold left;rw[Array.toList_replicate];exact bl (List.countP_le_length) σ
end Go.Eng
namespace Go.Eng
open Go.RowKit
variable {b:Bool} {s':AE} {j dj d t:Nat} {v:Value} {P:Program}
section
variable {e:Entry} {ops:Array Oper} {Q:Exit->Act->World->Prop} {tl:List Oper} {h:Hp} {ms:List Hp} {l:List Oper} {o:Oper} {s:AE} {q:List (Nat×VP)} {al:List (Nat×Nb)}
theorem Wants.plain(hg:o.guard=none):Wants ops o s true:=by unfold Wants;rw[hg]
theorem Wants.yes(hg:o.guard=some (j,b))(hj:Bo ops j=some dj)(hv:lk s dj=some (.bool b)):Wants ops o s true:=by unfold Wants;rw[hg];exact .inl ⟨dj,b,hj,hv,by cases b<;>rfl⟩
theorem Wants.no{b':Bool}(hg:o.guard=some (j,b))(hj:Bo ops j=some dj)(hv:lk s dj=some (.bool b'))(hne:(b'==b)=false):Wants ops o s false:=by unfold Wants;rw[hg];exact .inl ⟨dj,b',hj,hv,hne.symm⟩
theorem Wants.nou(hg:o.guard=some (j,b))(hj:Bo ops j=some dj)(hv:lk s dj=some undef):Wants ops o s false:=by unfold Wants;rw[hg];exact .inr ⟨dj,hj,hv,Y⟩
theorem BD(hx:OX e.P o s h ms v)(hd:o.dst=some d)(hg:o.guard=none)(k:WR e ops Q tl h ms l ((d,v)::s) q al):WR e ops Q tl h ms (o::l) s q al:=
 .inl ⟨v,.inl ⟨.plain hg,hx⟩,by rw[hd];exact k⟩
theorem AP(hx:OX e.P o s h ms v)(hd:o.dst=some d)(hg:o.guard=some (j,b))(hj:Bo ops j=some dj)(hv:lk s dj=some (.bool b))(k:WR e ops Q tl h ms l ((d,v)::s) q al):WR e ops Q tl h ms (o::l) s q al:=
 .inl ⟨v,.inl ⟨.yes hg hj hv,hx⟩,by rw[hd];exact k⟩
theorem AG{b':Bool}(hd:o.dst=some d)(hg:o.guard=some (j,b))(hj:Bo ops j=some dj)(hv:lk s dj=some (.bool b'))(hne:(b'==b)=false)(k:WR e ops Q tl h ms l ((d,undef)::s) q al):WR e ops Q tl h ms (o::l) s q al:=
 .inl ⟨undef,.inr (.inr ⟨.no hg hj hv hne,rfl⟩),by rw[hd];exact k⟩
theorem AW(hd:o.dst=some d)(hg:o.guard=some (j,b))(hj:Bo ops j=some dj)(hv:lk s dj=some undef)(k:WR e ops Q tl h ms l ((d,undef)::s) q al):WR e ops Q tl h ms (o::l) s q al:=
 .inl ⟨undef,.inr (.inr ⟨.nou hg hj hv,rfl⟩),by rw[hd];exact k⟩
theorem Afc{x:Nb}(hx:ONB e.P o s h ms x)(hd:o.dst=some d)(hg:o.guard=none)(k:WR e ops Q tl h ms l s q (al++[(d,x)])):WR e ops Q tl h ms (o::l) s q al:=
 .inr (.inr ⟨x,⟨.plain hg,⟨d,hd⟩,hx⟩,by rw[hd];exact k⟩)
theorem HL{t el:TypeId}{sz:Nat}{z:Value}{bytes:Nat}{x:Operand}(zl:List Value)(ho:o.op=.buildSlice t 1 #[(0,x)])(ht:P.underlying t=some (.slice el))(hs:Elem P el sz z bytes)(hx:ev s x=some v)(hv:v.cells=zl.toArray)(hl:zl.length=sz)(hzs:z.cells.size=sz)(hsz:0<sz/\sz<=1000) :
  ONB P o s h ms ((el,zl),λg=>.slice (some ⟨g,0,none⟩) 1 1):=λρ w hρ hw=>by
 have:=HM (P:=P) zl ht hs hv hl hzs hsz w
 have:(execOp ρ o).run P w=.ok (.value (.slice (some ⟨w.heap.size,0,none⟩) 1 1)) (w.alloc (.cells zl.toArray el)):=by simp[execOp,ho,hρ _ _ hx,this]
 unfold OpRes;rw[this];exact⟨Y,Y⟩
theorem Bu(k:WL e ops Q tl s h ms):WR e ops Q tl h ms [] s [] []:=.inl ⟨rfl,λ_=>k⟩
theorem VD{zl:List Value}{f:Nat->Value}(k:∀g,WL e ops Q tl ((d,f g)::s) h (BI g t zl::ms)):WR e ops Q tl h ms [] s [] [(d,((t,zl),f))]:=.inl ⟨rfl,λγ=>k (γ d)⟩
theorem Ado{s:AE}(he:∀t,lk s t=lk s' t)(x:Operand):ev s x=ev s' x:=by cases x<;>first|exact he _|rfl
theorem Evs.ext{s:AE}(he:∀t,lk s t=lk s' t){ρ:Operand->Value}(H:Evs s' ρ):Evs s ρ:=λx u hu=>H x u (by rw[<-Ado he];exact hu)
theorem OX.ext{s:AE}(he:∀t,lk s t=lk s' t)(H:OX P o s h ms v):OX P o s' h ms v:=λρ w hρ hw=>H ρ w (Evs.ext he hρ) hw
theorem OPX.ext{s:AE}{V:VP}(he:∀t,lk s t=lk s' t)(H:OPX P o s h ms V):OPX P o s' h ms V:=λρ w hρ hw=>H ρ w (Evs.ext he hρ) hw
theorem D1{s:AE}(he:∀t,lk s t=lk s' t)(a:AE)(t:Nat):lk (a++s) t=lk (a++s') t:=by rw[Dp,Dp,he]
theorem Wants.ext{s:AE}(he:∀t,lk s t=lk s' t)(H:Wants ops o s b):Wants ops o s' b:=by
 unfold Wants at *;cases hg:o.guard with
 | none=>simp only[hg]at H;exact H
 | some p=>simp only[hg]at H;exact H.imp (λ⟨dj,b',e1,e2,e3⟩=>⟨dj,b',e1,by rw[<-he];exact e2,e3⟩)<|λ⟨dj,e1,e2,e3⟩=>⟨dj,e1,by rw[<-he];exact e2,e3⟩
theorem StpOK.ext{s:AE}{st:P0}(he:∀t,lk s t=lk s' t)(H:StpOK P ops h ms o s q st):StpOK P ops h ms o s' q st:=by
 rcases st with v|V|x
 ·rcases H with ⟨h1,h2⟩|⟨h1,q',h2,h3⟩|⟨h1,h2⟩
  ·exact .inl ⟨h1.ext he,OX.ext he h2⟩
  ·exact .inr<|.inl ⟨h1.ext he,q',h2,λh' hl val hs=>OX.ext (D1 he _)<|h3 h' hl val hs⟩
  ·exact .inr<|.inr ⟨h1.ext he,h2⟩
 ·obtain⟨h1,h2,h3⟩:=H;refine⟨h1.ext he,h2,?_⟩;rcases h3 with h3|⟨q',h3,h4⟩
  ·exact .inl<|OPX.ext he h3
  ·exact .inr ⟨q',h3,λh' hl val hs=>OPX.ext (D1 he _)<|h4 h' hl val hs⟩
 ·exact⟨H.1.ext he,H.2.1,λρ w hρ hw=>H.2.2 ρ w (Evs.ext he hρ) hw⟩
theorem WL.ext{s:AE}(he:∀t,lk s t=lk s' t)(H:WL e ops Q l s h ms):WL e ops Q l s' h ms:=
 λa w ha hw=>H a w ⟨ha.defers,ha.size,λi v hi=>ha.slots i v (by rw[<-he];exact hi)⟩ hw
theorem WR.ext:∀(l:List Oper) (s s':AE) (q:List (Nat×VP)) (al:List (Nat×Nb)),(∀t,lk s t=lk s' t)->WR e ops Q tl h ms l s q al->WR e ops Q tl h ms l s' q al
 | [],s,s',q,al,he,H=>by
  rcases H with ⟨h1,h2⟩|h2
  ·exact .inl ⟨h1,λγ=>WL.ext (D1 he _)<|h2 γ⟩
  ·exact .inr λh' hl val γ hs=>WL.ext (D1 (D1 he _) _)<|h2 h' hl val γ hs
 | o::l,s,s',q,al,he,H=>by
  rcases H with ⟨v,h1,h2⟩|⟨V,h1,h2⟩|⟨x,h1,h2⟩
  ·refine .inl ⟨v,h1.ext he,WR.ext l _ _ _ _ ?_ h2⟩;cases o.dst with
   | none=>exact he
   | some d=>exact λt=>D1 he [(d,v)] t
  ·exact .inr<|.inl ⟨V,h1.ext he,WR.ext l _ _ _ _ he h2⟩
  ·exact .inr<|.inr ⟨x,h1.ext he,WR.ext l _ _ _ _ he h2⟩
theorem C3{p:Prop}{_:Decidable p}(hc:lk s t=some (.bool (decide p)))(kt:p->WR e ops Q tl h ms l ((t,.bool true)::s) q al)(kf:¬p->WR e ops Q tl h ms l ((t,.bool false)::s) q al):WR e ops Q tl h ms l s q al:=by
 by_cases hp:p
 ·refine WR.ext l _ _ _ _ (λi=>?_)<|kt hp;by_cases hi:t=i
  ·subst hi;rw[BG,hc];simp[hp]
  ·rw[BN _ _ hi]
 ·refine WR.ext l _ _ _ _ (λi=>?_)<|kf hp;by_cases hi:t=i
  ·subst hi;rw[BG,hc];simp[hp]
  ·rw[BN _ _ hi]
theorem Xo(hc:lk s t=some (.bool b))(kt:b=true->WR e ops Q tl h ms l ((t,.bool true)::s) q al)(kf:b=false->WR e ops Q tl h ms l ((t,.bool false)::s) q al):WR e ops Q tl h ms l s q al:=by
 have e1:decide (b=true)=b:=by cases b<;>rfl
 exact C3 (p:=b=true) (by rw[hc,e1]) kt<|λhb=>kf (by simpa using hb)
end
end Go.Eng
namespace Go.Eng
open Go.RowKit
variable {j:Nat} {u:Value}
def AH:Value->Addr
 | .slice (some p) _ _=>p
 | _=>⟨0,0,none⟩
def CP(sz:Nat)(v:Value)(i j:Nat):Value:=
 match v with
 | .slice a _ c=>.slice (if c=i then a else a.map (·.add (i*sz))) (j-i) (c-i)
 | u=>u
theorem Rd.val{h:Hp}{ms:List Hp}{v:Value}{sz n:Nat}{cs:List Value}(R:Rd h ms v sz n cs)(hn:0<n):∃c,v=.slice (some (AH v)) n c/\Seg h ms (AH v) cs:=by obtain⟨a,c,rfl,e2,e3,e4,e5⟩:=R.ex;obtain⟨q,rfl,hs⟩:=e5 hn;exact⟨c,Y,hs⟩
theorem Rd.len_le{h:Hp}{ms:List Hp}{v:Value}{sz n:Nat}{cs:List Value}(R:Rd h ms v sz n cs):n<=9223372036854775807:=by obtain⟨a,c,rfl,e2,e3,e4,e5⟩:=R.ex;omega
theorem Rd.cells{h:Hp}{ms:List Hp}{v:Value}{sz n:Nat}{cs:List Value}(R:Rd h ms v sz n cs):v.cells=[v].toArray:=by obtain⟨a,c,rfl,_⟩:=R.ex;rfl
theorem Rd.one{h:Hp}{ms:List Hp}{v:Value}{sz n:Nat}{cs:List Value}(R:Rd h ms v sz n cs):v.oneCell'=true:=by obtain⟨a,c,rfl,_⟩:=R.ex;rfl
theorem Rd.blk{h:Hp}{ms:List Hp}{g:Nat}{el:TypeId}{sz n c:Nat}{cs:List Value}(hm:BI g el cs∈ms)(hl:cs.length=n*sz)(hn:n<=c)(hc:c<=9223372036854775807):Rd h ms (.slice (some ⟨g,0,none⟩) n c) sz n cs:=by refine⟨_,c,Y,hn,hc,hl,λ_=>⟨_,Y,?_⟩⟩;obtain⟨i,hi⟩:=List.getElem?_of_mem hm;exact Seg.blk i hi
theorem Rd.sub_{h:Hp}{ms:List Hp}{v:Value}{sz n:Nat}{cs:List Value}(R:Rd h ms v sz n cs){i:Nat}(hi:i<=j)(hj:j<=n):Rd h ms (CP sz v i j) sz (j-i) ((cs.drop (i*sz)).take ((j-i)*sz)):=by
 obtain⟨a,c,rfl,e2,e3,e4,e5⟩:=R.ex;refine⟨_,c-i,Y,ω,ω,?_,λhlt=>?_⟩
 ·rw[ay,bw,e4];have h1:(j-i)*sz<=n*sz-i*sz:=by rw[<-Nat.sub_mul];exact du _ ω
  omega
 ·obtain⟨q,rfl,hs⟩:=e5 ω;have hci:¬c=i:=ω
  refine⟨q.add (i*sz),by simp[hci],λk u hu=>?_⟩;rw[BF];refine hs _ u ?_;rw[fx]at hu;split at hu
  ·rw[List.getElem?_drop]at hu;exact hu
  ·cases hu
structure RdL{α:Type}(F:α->List Value)(sz:Nat)(h:Hp)(ms:List Hp)(v:Value)(l:List α):Prop where
 rd:Rd h ms v sz l.length (l.flatMap F)
 len:∀x,(F x).length=sz
structure OwnL{α:Type}(F:α->List Value)(sz:Nat)(el:TypeId)(m:Hp)(v:Value)(l:List α):Prop where
 own:Own el sz m v l.length (l.flatMap F)
 len:∀x,(F x).length=sz
section
variable {α:Type} {F:α->List Value} {sz:Nat} {h h':Hp} {ms ms':List Hp} {v:Value} {l:List α} {el:TypeId} {m:Hp}
theorem RdL.up(R:RdL F sz h ms v l)(hl:h.le h'):RdL F sz h' ms v l:=⟨R.rd.le hl,R.len⟩
theorem RdL.sub(R:RdL F sz h ms v l)(hm:∀m∈ms,m∈ms'):RdL F sz h ms' v l:=⟨R.rd.sub hm,R.len⟩
theorem RdL.any(R:RdL F sz h [] v l):RdL F sz h ms v l:=R.sub σ
theorem RdL.len_le(R:RdL F sz h ms v l):l.length<=9223372036854775807:=R.rd.len_le
theorem OwnL.rd(O:OwnL F sz el m v l)(hm:m∈ms):RdL F sz h ms v l:=⟨O.own.rd hm,O.len⟩
theorem OwnL.rdh(O:OwnL F sz el m v l)(hm:m.le h):RdL F sz h ms v l:=⟨O.own.rdh hm,O.len⟩
theorem OwnL.frozen(O:OwnL F sz el m v l){h0:Hp}(hd:m.disj h0):RdL F sz (h0.join m) ms v l:=O.rdh (Hp.join_le_right hd)
theorem OwnL.nil(hF:∀x,(F x).length=sz):OwnL F sz el Hp.emp (.slice none 0 0) []:=⟨Own.nil el sz,hF⟩
theorem FF(hF:∀x,(F x).length=sz):∀(l:List α) (j:Nat),(l.flatMap F).drop (j*sz)=(l.drop j).flatMap F
 | [],j=>by simp
 | x::l,0=>by simp
 | x::l,j+1=>by rw[fc,cw,fp,Nat.add_comm,<-drop_drop,<-hF x,List.drop_left,hF x,FF hF l j];rfl
theorem HD(hF:∀x,(F x).length=sz):∀(l:List α) (j:Nat),(l.flatMap F).take (j*sz)=(l.take j).flatMap F
 | [],j=>by simp
 | x::l,0=>by simp
 | x::l,j+1=>by rw[fc,cw,fp,Nat.add_comm,List.take_append,hF x,fy (by rw[hF x];omega),Nat.add_sub_cancel_left,HD hF l j];rfl
theorem BY(hF:∀x,(F x).length=sz)(l:List α):(l.flatMap F).length=l.length*sz:=by
 induction l with
 | nil=>simp
 | cons x l ih=>rw[fc,af,hF,ih,List.length_cons,cw];omega
theorem H4(hF:∀x,(F x).length=sz)(l:List α)(j:Nat)(hj:j<l.length)(f:Nat)(u:Value)(hf:(F l[j])[f]?=some u):(l.flatMap F)[j*sz+f]?=some u:=by
 have h1:((l.flatMap F).drop (j*sz))[f]?=some u:=by rw[FF hF,eo hj,fc,d5 (br.1 hf).1];exact hf
 rwa [List.getElem?_drop]at h1
theorem RdL.cell(R:RdL F sz h ms v l)(hj:j<l.length){f:Nat}(hf:(F l[j])[f]?=some u):Cell h ms (((AH v).add (j*sz)).add f) u:=by obtain⟨c,_,hs⟩:=R.rd.val ω;rw[BF];exact hs _ u<|H4 R.len l j hj f u hf
theorem RdL.cell0(R:RdL F sz h ms v l)(hj:j<l.length)(hf:(F l[j])[0]?=some u):Cell h ms ((AH v).add (j*sz)) u:=by have:=R.cell hj hf;rwa [Fc]at this
theorem RdL.seg(R:RdL F sz h ms v l)(hj:j<l.length):Seg h ms ((AH v).add (j*sz)) (F l[j]):=λf u hf=>R.cell hj hf
theorem RdL.sub_(R:RdL F sz h ms v l){i:Nat}(hi:i<=j)(hj:j<=l.length):RdL F sz h ms (CP sz v i j) ((l.drop i).take (j-i)):=by
 refine⟨?_,R.len⟩;have:=R.rd.sub_ hi hj;rw[FF R.len,HD R.len]at this;have e:((l.drop i).take (j-i)).length=j-i:=by rw[ay,bw];omega
 rw[e];exact this
end
section
variable {P:Program} {o:Oper} {s:AE} {h:Hp} {ms:List Hp} {t el:TypeId} {x y lo hi:Operand} {v:Value} {sz n:Nat} {cs:List Value} {z:Value} {bytes:Nat} {k k':IntKind}
theorem AM{i:Int}(j:Nat)(R:Rd h ms v sz n cs)(ho:o.op=.indexAddr t x y)(ht:P.underlying t=some (.slice el))(hs:Elem P el sz z bytes)(hx:ev s x=some v)(hy:ev s y=some (.int k i))(hi:i=(j:Int))(hlt:j<n):OX P o s h ms (.pointer (some ((AH v).add (j*sz)))):=by obtain⟨c,e,_⟩:=R.val ω;rw[e]at hx;exact Cf j ho ht hs hx hy hi hlt
theorem Aq(R:Rd h ms v sz n cs)(ho:o.op=.call { callee:=.builtin .len,args:=#[x],argTypes:=#[t] })(ht:P.underlying t=some (.slice el))(hx:ev s x=some v):OX P o s h ms (.int .i64 n):=by obtain⟨a,c,rfl,_⟩:=R.ex;exact D6 (ty:=t) ho ht hx
theorem Hm{l r:Int}(i j:Nat)(R:Rd h ms v sz n cs)(ho:o.op=.slice t x (some lo) (some hi) none)(ht:P.underlying t=some (.slice el))(hs:Elem P el sz z bytes)(hx:ev s x=some v)(hlo:ev s lo=some (.int k l))(hhi:ev s hi=some (.int k' r))(el':l=(i:Int))(er:r=(j:Int))(h1:i<=j)(h2:j<=n) :
  OX P o s h ms (CP sz v i j):=by
 obtain⟨a,c,rfl,e2,e3,e4,e5⟩:=R.ex
 exact Bs λρ w hρ _=>by
  have g1:(0:Int)<=l/\l<=(j:Int):=ω
  have g2:(0:Int)<=r/\r<=(c:Int):=ω
  have g3:l.toNat=i:=ω
  have g4:r.toNat=j:=ω
  simp[execOp,ho,hρ _ _ hx,hρ _ _ hlo,hρ _ _ hhi,Instr.sliceAt,Instr.slice,run_underlying ht,Instr.sliceBounds,Instr.sliceBound,asIntOf,g1,g2,g3,g4,hs.sizeOf,CP]
theorem C8{l:Int}(i:Nat)(R:Rd h ms v sz n cs)(ho:o.op=.slice t x (some lo) none none)(ht:P.underlying t=some (.slice el))(hs:Elem P el sz z bytes)(hx:ev s x=some v)(hlo:ev s lo=some (.int k l))(el':l=(i:Int))(h1:i<=n) :
  OX P o s h ms (CP sz v i n):=by
 obtain⟨a,c,rfl,e2,e3,e4,e5⟩:=R.ex
 exact Bs λρ w hρ _=>by
  have g1:(0:Int)<=l/\l<=(n:Int):=ω
  have g3:l.toNat=i:=ω
  simp[execOp,ho,hρ _ _ hx,hρ _ _ hlo,Instr.sliceAt,Instr.slice,run_underlying ht,Instr.sliceBounds,Instr.sliceBound,asIntOf,g1,g3,hs.sizeOf,CP]
theorem DL{r:Int}(j:Nat)(R:Rd h ms v sz n cs)(ho:o.op=.slice t x none (some hi) none)(ht:P.underlying t=some (.slice el))(hs:Elem P el sz z bytes)(hx:ev s x=some v)(hhi:ev s hi=some (.int k r))(er:r=(j:Int))(h2:j<=n) :
  OX P o s h ms (CP sz v 0 j):=by
 obtain⟨a,c,rfl,e2,e3,e4,e5⟩:=R.ex
 exact Bs λρ w hρ _=>by
  have g2:(0:Int)<=r/\r<=(c:Int):=ω
  have g4:r.toNat=j:=ω
  simp[execOp,ho,hρ _ _ hx,hρ _ _ hhi,Instr.sliceAt,Instr.slice,run_underlying ht,Instr.sliceBounds,Instr.sliceBound,asIntOf,g2,g4,hs.sizeOf,CP]
end
section
variable {e:Entry} {Q:Exit->Act->World->Prop} {ops:Array Oper} {rest:List Oper} {o:Oper} {s:AE} {h:Hp} {ms:List Hp} {α:Type} {F:α->List Value}
theorem AJ{t el:TypeId}{sz d:Nat}{z:Value}{bytes:Nat}{x y:Operand}{v:Value}{m:Hp}{l r:List α}(i:Nat)(O:OwnL F sz el m v l)(R:RdL F sz h ms u r)(ho:o.op=.call { callee:=.builtin .append,args:=#[x,y],argTypes:=#[t,t] })(ht:e.P.underlying t=some (.slice el))(hs:Elem e.P el sz z bytes)(hzs:z.cells.size=sz)(hsz:0<sz)
  (hx:ev s x=some v) (hy:ev s y=some u) (hm:ms[i]?=some m) (h1:∀a,∀c∈F a,c.oneCell'=true) (hb:(l.length+r.length)*bytes<=140737488355328) (hb63:l.length+r.length<=9223372036854775807) (hd:o.dst=some d) (hn:Nat.blt d e.n=true) (hg:o.guard=none)
  (K:∀v' m',OwnL F sz el m' v' (l++r)->WL e ops Q rest ((d,v')::s) h (ms.set i m')):WL e ops Q (o::rest) s h ms:=
 Oe i ho ht hs hzs hsz hx hy hm O.own R.rd (λc hc=>by obtain⟨a,_,ha⟩:=List.mem_flatMap.1 hc;exact h1 a c ha) hb hb63 hd hn hg λv' m' O'=>K v' m' ⟨by rw[af,dx];exact O',O.len⟩
theorem RdL.one{sz:Nat}{g:Nat}{el:TypeId}{x:α}{cs:List Value}(hF:∀x,(F x).length=sz)(hm:BI g el cs∈ms)(hc:cs=F x):RdL F sz h ms (.slice (some ⟨g,0,none⟩) 1 1) [x]:=
 ⟨by subst hc;simpa using Rd.blk (h:=h) (n:=1) (c:=1) (sz:=sz) hm (by rw[hF];omega) (am _) ω,hF⟩
end
def cI(n:Int):List Value:=[.int .i64 n]
def cB(b:Bool):List Value:=[.bool b]
theorem A8:∀n,(cI n).length=1:=λ_=>rfl
theorem AdD:∀n,(cB n).length=1:=λ_=>rfl
theorem BT:∀a,∀c∈cI a,c.oneCell'=true:=λa c hc=>by simp[cI]at hc;subst hc;rfl
theorem OA{α:Type}(f:α->Value)(l:List α)(k:Nat)(x:α):(l.flatMap λy=>[f y]).set k (f x)=(l.set k x).flatMap λy=>[f y]:=by
 induction l generalizing k with
 | nil=>simp
 | cons a l ih=>
  cases k with
  | zero=>simp
  | succ k=>simp only[fc,List.set_cons_succ,List.singleton_append];rw[ih]
theorem AdT(n:Nat)(x:Int):replicate n (Value.int .i64 x)=(replicate n x).flatMap cI:=by
 induction n with
 | zero=>rfl
 | succ n ih=>rw[List.replicate_succ,List.replicate_succ,fc,ih];rfl
theorem Uj(n:Nat)(x:Bool):replicate n (Value.bool x)=(replicate n x).flatMap cB:=by
 induction n with
 | zero=>rfl
 | succ n ih=>rw[List.replicate_succ,List.replicate_succ,fc,ih];rfl
end Go.Eng
namespace Go.Eng
open Go.RowKit
structure GD(P:Program)(t:TypeId)(i off:Nat):Prop where
 ex:∃fs f n,P.underlying t=some (.struct fs)/\fs[i]?=some f/\f.offset=off/\∀w,(sizeOf f.type).run P w=.ok (n+1) w
structure Gy(P:Program)(t:TypeId)(places:Array (Nat×Nat)):Prop where
 ex:∃fs,P.underlying t=some (.struct fs)/\∀w,(fs.mapM λf=>do pure (f.offset,<-sizeOf f.type):Sem (Array (Nat×Nat))).run P w=.ok places w
section
variable {P:Program} {o:Oper} {s:AE} {h:Hp} {ms:List Hp} {t:TypeId} {x:Operand}
theorem Wv{i off:Nat}{p:Addr}(F:GD P t i off)(ho:o.op=.fieldAddr t x i)(hx:ev s x=some (.pointer (some p))):OX P o s h ms (.pointer (some (p.add off))):=by
 obtain⟨fs,f,n,h1,h2,h3,h4⟩:=F.ex;have:=X7 (h:=h) (ms:=ms) ho h1 h2 h4 hx
 rwa [h3]at this
theorem AN{sz:Nat}{z:Value}{bytes:Nat}{lp:List (Nat×Operand)}{vs:List (Nat×Value)}{places:Array (Nat×Nat)}(S:Gy P t places)(zl:List Value)(ps:List (Nat×List Value))(vl:List Value)(ho:o.op=.build t lp.toArray)(hs:Elem P t sz z bytes)(hz:z.cells=zl.toArray)
  (hv:evp s lp=some vs) (hps:HG (places[·]?) zl.length vs ps) (hvl:SK zl ps=vl):OX P o s h ms (.agg vl.toArray):=by
 obtain⟨fs,h1,h2⟩:=S.ex;exact Zn zl ps vl ho h1 hs hz h2 hv hps hvl
end
end Go.Eng
namespace Go.Eng
section
variable {e:Entry} {Q:Exit->Act->World->Prop} {s:AE} {h:Hp} {ms:List Hp} {m:Hp} {α:Type} {F:α->List Value} {sz:Nat} {el:TypeId} {v:Value} {l:List α} {ops:Array Oper}
theorem Cx{c:Code}(O:OwnL F sz el m v l)(k:∀h',h.le h'->RdL F sz h' [] v l->WS e c Q s h' ms):WS e c Q s h (m::ms):=
 λa w ha hw=>k _ (Hp.le_join _ _) (O.frozen (hw.st.off m ax)) a w ha (Ends.freeze hw)
theorem Bt{r:List Oper}(O:OwnL F sz el m v l)(k:∀h',h.le h'->RdL F sz h' [] v l->WL e ops Q r s h' ms):WL e ops Q r s h (m::ms):=
 λa w ha hw=>k _ (Hp.le_join _ _) (O.frozen (hw.st.off m ax)) a w ha (Ends.freeze hw)
theorem Dg{x:Exit}(O:OwnL F sz el m v l)(k:∀h',h.le h'->RdL F sz h' [] v l->NX e Q x s h' ms):NX e Q x s h (m::ms):=
 λa w ha hw=>k _ (Hp.le_join _ _) (O.frozen (hw.st.off m ax)) a w ha (Ends.freeze hw)
theorem AF{c:Code}{g:Nat}{cs:List Value}(k:∀h',h.le h'->Seg h' [] ⟨g,0,none⟩ cs->WS e c Q s h' ms):WS e c Q s h (BI g el cs::ms):=
 λa w ha hw=>k _ (Hp.le_join _ _) (λj u hu=>⟨by unfold Addr.add;split<;>rfl,cs.toArray,el,(0,0),.inl (by
  rw[CK]
  exact(Hp.join_le_right (hw.st.off _ ax)) _ _ (Hp.one_self _ _)),by rw[DN];simpa using hu⟩) a w ha (Ends.freeze hw)
theorem Bg{r:List Oper}{g:Nat}{cs:List Value}(k:∀h',h.le h'->Seg h' [] ⟨g,0,none⟩ cs->WL e ops Q r s h' ms):WL e ops Q r s h (BI g el cs::ms):=
 λa w ha hw=>k _ (Hp.le_join _ _) (λj u hu=>⟨by unfold Addr.add;split<;>rfl,cs.toArray,el,(0,0),.inl (by
  rw[CK]
  exact(Hp.join_le_right (hw.st.off _ ax)) _ _ (Hp.one_self _ _)),by rw[DN];simpa using hu⟩) a w ha (Ends.freeze hw)
theorem BV{c:Code}(k:WS e c Q s h (Hp.emp::ms)):WS e c Q s h ms:=λa w ha hw=>k a w ha
 ⟨⟨hw.st.imm,λm hm=>by
  rcases bg.1 hm with rfl|hm
  ·intro g o e;cases e
  ·exact hw.st.own m hm,λm hm=>by
  rcases bg.1 hm with rfl|hm
  ·exact λ_=>.inl Y
  ·exact hw.st.off m hm,b7.2 ⟨λ_ _ _=>.inl Y,hw.st.apart⟩⟩,hw.os,hw.tape,hw.output,hw.size,hw.block,hw.le,hw.hnew,λm hm k hk hne=>by
  rcases bg.1 hm with rfl|hm
  ·exact ie Y hne
  ·exact hw.mnew m hm k hk hne⟩
end
end Go.Eng
namespace Go.Eng
open Go.RowKit
variable {a:Act}
def Q0(Q:Exit->Act->World->Prop):Exit->Act->World->Prop:=λx a w=>x=.normal/\Q .normal a w
theorem YD{Q:Exit->Act->World->Prop}:¬LetsOut (Q0 Q):=λh=>by simp[LetsOut,Q0]at h
def zA(z:AE)(a:Act):Act:={ a with tmps:=a.tmps.mapIdx λk x=>(lk z k).getD x }
theorem OB{b:Act}(h1:a.tmps=b.tmps)(h2:a.defers=b.defers):a=b:=by cases a;cases b;cases h1;cases h2;rfl
theorem Hu(z:AE)(a:Act)(t:Nat):(zA z a).tmps[t]?=(a.tmps[t]?).map λx=>(lk z t).getD x:=by simp[zA]
theorem Kn{z:AE}{d:Option Nat}{v:Value}(h:∀t,d=some t->lk z t=none):zA z (a.put d v)=(zA z a).put d v:=by
 cases d with
 | none=>rfl
 | some d=>
  refine OB ?_ Y;apply gq;intro i;rw[Hu];simp only[Act.put,Array.getElem?_setIfInBounds];have hs:(zA z a).tmps.size=a.tmps.size:=by simp[zA]
  by_cases hd:d=i
  ·subst hd;simp only[if_true,hs];by_cases hlt:d<a.tmps.size
   ·simp[hlt,h d rfl]
   ·simp[hlt]
  ·simp only[hd,if_false];rw[Hu]
theorem Qr{z:AE}{d:Nat}{v:Value}(h:lk z d=some v):zA z (a.put (some d) v)=zA z a:=by
 refine OB ?_ Y;apply gq;intro i;rw[Hu,Hu];simp only[Act.put,Array.getElem?_setIfInBounds];by_cases hd:d=i
 ·subst hd;by_cases hlt:d<a.tmps.size
  ·simp[hlt,h]
  ·simp[hlt]
 ·simp[hd]
def My(pu:List Nat)(ops:Array Oper):Bool:=
 Region.noSelect ops &&
 (range ops.size).all λi=>match ops[i]? with
  | none=>false
  | some o=>
   ((o.looksAt ops).all λt=>(range ops.size).all λj=>Bo ops j != some t||(if pu.contains j then OC o j else(!pu.contains i||(match ops[j]? with|some oj=>OC oj i|none=>false)))) &&
   (if pu.contains i then o.guard.isNone&&o.dst.isSome&&((range ops.size).all λj=>j==i||Bo ops j != o.dst)
    else match o.guard with|none=>true|some (j,_)=>!pu.contains j)
structure POK(pu:List Nat)(ops:Array Oper):Prop where
 nosel:Region.noSelect ops=true
 look:∀i o t j,ops[i]?=some o->t∈o.looksAt ops->Bo ops j=some t->(pu.contains j=true/\OC o j=true)\/(pu.contains j=false/\(pu.contains i=false\/∃oj,ops[j]?=some oj/\OC oj i=true))
 plain:∀i o,ops[i]?=some o->pu.contains i=true->o.guard=none/\(∃d,o.dst=some d)/\∀j,j≠i->∀d,o.dst=some d->Bo ops j≠some d
 guard:∀i o j b,ops[i]?=some o->pu.contains i=false->o.guard=some (j,b)->pu.contains j=false
theorem F7{ops:Array Oper}{j t:Nat}(h:Bo ops j=some t):j<ops.size:=by
 unfold Bo at h;rcases f6 j ops.size with h'|h'
 ·exact h'
 ·rw[Array.getElem?_eq_none h']at h;cases h
theorem Ss{pu:List Nat}{ops:Array Oper}(h:My pu ops=true):POK pu ops:=by
 simp only[My,dt,d7,mem_range]at h;obtain⟨h1,h2⟩:=h;have at_:∀i o,ops[i]?=some o->i<ops.size:=λi o e=>(cj.1 e).1;refine⟨h1,?_,?_,?_⟩
 ·intro i o t j e ht hd;have:=h2 i (at_ i o e);simp only[e,dt,d7,mem_range]at this;have h3:=this.1 t ht j (F7 hd);cases hc:pu.contains j with
  | true=>rw[hc]at h3;simp[hd]at h3;exact .inl ⟨Y,h3⟩
  | false=>
   rw[hc]at h3;simp[hd]at h3;refine .inr ⟨Y,?_⟩;rcases h3 with h3|h3
   ·exact .inl (by simpa using h3)
   ·right
    cases hoj:ops[j]? with
    | none=>rw[hoj]at h3;cases h3
    | some oj=>rw[hoj]at h3;exact⟨oj,Y,h3⟩
 ·intro i o e hi;have:=h2 i (at_ i o e);simp only[e,dt,hi,if_true,d7,mem_range]at this;obtain⟨_,⟨g1,g2⟩,g3⟩:=this;refine⟨by simpa using g1,by simpa[Option.isSome_iff_exists] using g2,λj hj d hd hdj=>?_⟩;have:=g3 j (F7 hdj);simp[hj,hdj,hd]at this
 ·intro i o j b e hi hg;have:=h2 i (at_ i o e);simp only[e,dt,hi,hg]at this;simpa using this.2
section
variable {P:Program} {ops:Array Oper} {Q:Exit->Act->World->Prop}
structure Sim(pu:List Nat)(ops:Array Oper)(z:AE)(a0 a:Act)(listed:Array Bool):Prop where
 pure:∀i,pu.contains i=true->listed.getD i false=true->∀d v,Bo ops i=some d->lk z d=some v->d<a.tmps.size->a.tmps[d]?=some v
 old:∀t,(∀j,Bo ops j=some t->listed.getD j false=false)->a.tmps[t]?=a0.tmps[t]?
 size:a.tmps.size=a0.tmps.size
 closed:Closed ops listed
def un(pu:List Nat)(listed:Array Bool):Array Bool:=listed.mapIdx λi b=>b||pu.contains i
theorem TM(pu:List Nat)(listed:Array Bool)(i:Nat)(b:Bool)(hi:i<listed.size):(un pu listed).getD i b=(listed.getD i b||pu.contains i):=by simp[un,bp,hi]
theorem AdE(pu:List Nat)(listed:Array Bool)(i:Nat):un pu (listed.setIfInBounds i true)=(un pu listed).setIfInBounds i true:=by
 apply gq;intro j;simp only[un,Array.getElem?_mapIdx,Array.getElem?_setIfInBounds,Array.size_mapIdx];by_cases hij:i=j
 ·subst hij;by_cases hlt:i<listed.size<;>simp[hlt]
 ·simp[hij]
theorem QX{pu:List Nat}(listed:Array Bool){i:Nat}(h:pu.contains i=true):un pu (listed.setIfInBounds i true)=un pu listed:=by
 apply gq;intro j;simp only[un,Array.getElem?_mapIdx,Array.getElem?_setIfInBounds];by_cases hij:i=j
 ·subst hij;by_cases hlt:i<listed.size
  ·have hm:i∈pu:=by simpa using h
   simp[hlt,hm]
  ·simp[hlt]
 ·simp[hij]
end
def zap(o:Oper):Oper:={ o with dst:=none,op:=.move (.const undef),after:=#[],guard:=none }
def TK:List Bool->Nat->List Nat
 | [],_=>[]
 | true::m,k=>k::TK m (k+1)
 | false::m,k=>TK m (k+1)
def JP(ops:Array Oper):Bool:=(range ops.size).all λi=>match ops[i]? with|none=>false|some o=>backs o i
theorem Pt{ops:Array Oper}(h:JP ops=true):∀i o,ops[i]?=some o->∀e∈o.after,Region.binds .any e=true->e.on<i:=by intro i o e ed hed hb;simp only[JP,d7,mem_range]at h;have:=h i (cj.1 e).1;simp only[e]at this;have h4:=Array.all_eq_true_iff_forall_mem.1 this ed hed;simp[hb]at h4;exact h4
end Go.Eng
namespace Go.Eng
open Go.RowKit
section
variable {e:Entry} {Q:Exit->Act->World->Prop} {ops:Array Oper} {rest:List Oper} {o:Oper} {s:AE} {h:Hp} {ms:List Hp} {α:Type} {F:α->List Value} {l:List α} {v:Value} {m:Hp} {el:TypeId} {sz:Nat}
theorem V7{t:TypeId}{x y:Operand}{u:Value}{z:Value}{bytes k:Nat}{l':List α}(i:Nat)(O:OwnL F sz el m v l)(ho:o.op=.store t x y)(hs:Elem e.P t 1 z bytes)(hx:ev s x=some (.pointer (some ((AH v).add k))))(hy:ev s y=some u)(h1:u.oneCell'=true)
  (hm:ms[i]?=some m) (hk:k<l.length*sz) (hset:(l.flatMap F).set k u=l'.flatMap F) (hl:l'.length=l.length) (hd:o.dst=none) (hg:o.guard=none)
  (K:∀m',OwnL F sz el m' v l'->WL e ops Q rest s h (ms.set i m')):WL e ops Q (o::rest) s h ms:=by
 obtain⟨⟨h2,h3⟩,hF⟩:=O;rcases h3 with ⟨rfl,h4,rfl⟩|⟨g,cap,spare,rfl,rfl,e1,e2,e3⟩
 ·rw[h4]at hk;simp at hk
 ·refine Bh i k ho hs hx hy h1 hm Y (by rw[af];omega) hd hg<|K _ ⟨⟨?_,.inr ⟨g,cap,spare,by rw[hl],?_,?_,ω,e3⟩⟩,hF⟩
  ·rw[<-hset,List.length_set,h2,hl]
  ·rw[List.set_append_left _ _ ω,hset]
  ·rw[<-hset,af,List.length_set,<-af];exact e1
theorem CV{f:α->Value}{t:TypeId}{x y:Operand}{z:Value}{bytes:Nat}{a:α}(i j:Nat)(hF:∀x,F x=[f x])(O:OwnL F 1 el m v l)(ho:o.op=.store t x y)(hs:Elem e.P t 1 z bytes)(hx:ev s x=some (.pointer (some ((AH v).add (j*1)))))(hy:ev s y=some (f a))(h1:(f a).oneCell'=true)
  (hm:ms[i]?=some m) (hj:j<l.length) (hd:o.dst=none) (hg:o.guard=none)
  (K:∀m',OwnL F 1 el m' v (l.set j a)->WL e ops Q rest s h (ms.set i m')):WL e ops Q (o::rest) s h ms:=by
 have hF':F=λy=>[f y]:=funext hF;refine V7 i O ho hs hx hy h1 hm ω ?_ σ hd hg K;rw[hF',gx];exact OA f l j a
end
end Go.Eng
namespace Go.Eng
open Go.RowKit
theorem FnV.ofCalls{P:Program}{f:FuncId}{args:Array Value}{h:Hp}{ms:List Hp}{v:Value}(k:∀w,Calls P f args w (λe w'=>e=.returned v/\w'=w)):FnV P f args h ms v:=
 λw hw=>(k w).mono λx w' ⟨e1,e2⟩=>⟨e1,by rw[e2];exact Ext.refl _⟩
theorem Ev{n:Int}(hn:0<=n/\n<=18446744073709551615):IntKind.u64.wrap n=n:=IntWalk.u64_in n hn
section
variable {P:Program} {o:Oper} {s:AE} {h:Hp} {ms:List Hp} {t u:TypeId} {x y:Operand} {a b n:Nat} {k:IntKind}
theorem Abu(ho:o.op=.binOp .shl t x y u)(hx:ev s x=some (.int .u64 a))(hy:ev s y=some (.int k n))(hn:n<=64):OX P o s h ms (.int .u64 ((a*2^n%18446744073709551616:Nat):Int)):=
 Bs λρ w hρ _=>by
  have h1:¬((n:Int)<0):=ω
  have h2:min n 64=n:=fu hn
  have h3:IntKind.u64.wrap ((a:Int)*2^n)=((a*2^n%18446744073709551616:Nat):Int):=by simp[IntKind.wrap,IntKind.bits,IntKind.signed]
  simp[execOp,ho,hρ _ _ hx,hρ _ _ hy,Op.shift,h1,IntKind.bits,h2,h3,go_sem]
theorem GG(ho:o.op=.binOp .shr t x y u)(hx:ev s x=some (.int .u64 a))(hy:ev s y=some (.int k n))(hn:n<=64):OX P o s h ms (.int .u64 ((a/2^n:Nat):Int)):=
 Bs λρ w hρ _=>by
  have h1:¬((n:Int)<0):=ω
  have h2:min n 64=n:=fu hn
  have h3:(a:Int).fdiv (2^n)=((a/2^n:Nat):Int):=by rw[Int.fdiv_eq_ediv_of_nonneg _ (Int.le_of_lt (Int.pow_pos δ))];simp
  simp[execOp,ho,hρ _ _ hx,hρ _ _ hy,Op.shift,h1,IntKind.bits,h2,h3,go_sem]
theorem Aca(ho:o.op=.binOp .and t x y u)(hx:ev s x=some (.int .u64 a))(hy:ev s y=some (.int .u64 b))(ha:a<18446744073709551616)(hb:b<18446744073709551616):OX P o s h ms (.int .u64 ((a &&& b:Nat):Int)):=
 Bs λρ w hρ _=>by
  have h0:a &&& b<=a:=Nat.and_le_left
  have h3:IntKind.u64.wrap (((BitVec.ofNat 64 a) &&& (BitVec.ofNat 64 b)).toNat:Int)=((a &&& b:Nat):Int):=by rw[BitVec.toNat_and,BitVec.toNat_ofNat,BitVec.toNat_ofNat,db ω,db ω];exact Ev ω
  simp[execOp,ho,hρ _ _ hx,hρ _ _ hy,Op.intBits,IntKind.bits,go_sem];exact h3
end
end Go.Eng
namespace Go.Eng
open Go.RowKit
section
variable {e:Entry} {Q:Exit->Act->World->Prop} {ops:Array Oper} {rest:List Oper} {o:Oper} {s:AE} {h:Hp} {ms:List Hp}
theorem DS{j dj:Nat}{b:Bool}{oj:Oper}(hg:o.guard=some (j,b))(hj:ops[j]?=some oj)(hdj:oj.dst=some dj)(hv:lk s dj=some (.bool b))
  (k:WL e ops Q ({ o with guard:=none }::rest) s h ms):WL e ops Q (o::rest) s h ms:=λa w ha hw=>by
 have h1:=k a w ha hw;unfold wpList at h1 ⊢;rw[ah (by simp[Region.wanted])]at h1;rw[ah (by simp[Region.wanted,hg,ha.yields hj hdj hv])];exact h1
end
end Go.Eng
namespace Go.Eng
open Go.RowKit Go.ChangeShapes Go.WideShapes Go.Deep
def whole(w:World):Hp:=λg=>w.heap[g]?
theorem St.whole(w:World):St w (whole w) []:=⟨λ_ _ h=>h,by simp,by simp,List.Pairwise.nil⟩
theorem Cell.ofW{w:World}{ms:List Hp}{a:Addr}{v:Value}(h:w.cell? a=some v):Cell (whole w) ms a v:=by
 unfold World.cell? at h;split at h
 ·rename_i c el fr hb;split at h
  ·cases h
  ·rename_i hs;exact⟨by simpa using hs,c,el,fr,.inl hb,h⟩
 ·cases h
theorem KG{α:Type}{Q:Nat->α->Prop}:∀n,(∀i,i<n->∃a,Q i a)->∃l:List α,l.length=n/\∀i (hi:i<l.length),Q i l[i]
 | 0,_=>⟨[],rfl,λi hi=>by simp at hi⟩
 | n+1,h=>by
  obtain⟨l,hl,hq⟩:=KG n λi hi=>h i ω;obtain⟨a,ha⟩:=h n ω;refine⟨l++[a],by simp[hl],λi hi=>?_⟩;rw[List.getElem_append];split
  ·exact hq i (by assumption)
  ·have:i=n:=by simp at hi;omega
   subst this;simpa using ha
section
variable {H:Type} {enc:TypeId×Value->H} {P:Program} {w:World} {base:Nat} {spare:Nat->Bool} {held:Bool}
theorem Z1{α:Type}{F:α->List Value}{Ok:α->Prop}{sz:Nat}{t e:TypeId}{fuel:Nat}{v:Value}{x:DataW H×List MemPlace}(ht:P.underlying t=some (.slice e))(hC:P.cellsOf e=sz)(hF:∀x,(F x).length=sz)(hsz:0<sz)
  (hel:∀n cs y,DataW.trod enc P w base spare held n e cs=some y->∃a,cs=F a/\Ok a) (h:DataW.trod enc P w base spare held fuel t [v]=some x):∃l,RdL F sz (whole w) [] v l/\∀a∈l,Ok a:=by
 rcases open_slice ht h with ⟨h0,_⟩|⟨a,len,cap,m,n,D,Pl,hcs,hb,hl,hm,hmm,hx,hi⟩
 ·simp only[List.cons.injEq,and_true]at h0;subst h0;exact⟨[],⟨⟨none,0,Y,by simp,ω,by simp,λh=>by simp at h⟩,hF⟩,by simp⟩
 ·simp only[List.cons.injEq,and_true]at hcs;subst hcs;rw[hC]at hi;have hlm:len<=m:=by rw[hmm];split<;>omega
  obtain⟨l,hll,hq⟩:=KG (α:=α) (Q:=λi b=>w.cells? base (a.add (i*sz)) sz=some (F b)/\Ok b) len λi hi'=>by obtain⟨cs,h1,h2⟩:=hi i ω;obtain⟨b,rfl,h3⟩:=hel n cs _ h2;exact⟨b,h1,h3⟩
  refine⟨l,⟨⟨some a,cap,by rw[hll],ω,by unfold maxLen at hm;omega,BY hF l,λ_=>⟨a,rfl,λj u hj=>?_⟩⟩,hF⟩,λb hb=>?_⟩
  ·have hjl:=(br.1 hj).1;rw[BY hF l]at hjl;have h1:j/sz<l.length:=Nat.div_lt_of_lt_mul (by rw[dw];exact hjl);have h2:j%sz<sz:=Nat.mod_lt _ hsz;have h3:j/sz*sz+j%sz=j:=by rw[dw];exact Nat.div_add_mod j sz
   have h4:=H4 hF l (j/sz) h1 (j%sz) ((F l[j/sz])[j%sz]'(by rw[hF];exact h2)) (aj _);rw[h3,hj]at h4;have h5:=bf h4;obtain⟨_,_,hat⟩:=World.cells?_some (hq (j/sz) h1).1;have h6:=hat (j%sz) h2;rw[BF,h3]at h6;refine Cell.ofW<|h6.trans ?_;rw[aj (by rw[hF];exact h2),<-h5]
  ·obtain⟨i,hi',rfl⟩:=List.getElem_of_mem hb;exact(hq i hi').2
end
end Go.Eng
namespace Go.Eng
open Go.RowKit
section
variable {e:Entry} {ops:Array Oper} {Q:Exit->Act->World->Prop} {fuel:Nat} {listed:Array Bool} {s:AE} {h:Hp} {ms:List Hp}
theorem Aeh{P:Program}:∀fuel listed a w,wpAny P .any ops (Q0 Q) fuel listed a w->wpAny P .any ops Q fuel listed a w:=by
 intro fuel
 induction fuel with
 | zero=>intro listed a w H;exact⟨H.1,H.2.2⟩
 | succ fuel ih=>
  intro listed a w H;refine⟨λh=>(H.1 h).2,λi hi=>?_⟩;have H':=H.2 i hi;unfold wpOp at H' ⊢;split
  ·rename_i ho;simp only[ho]at H';exact ih _ _ _ H'
  ·rename_i o ho;simp only[ho]at H';split
   ·rename_i hw;rw[ah hw]at H';rcases H' with H'|⟨_,H'⟩
    ·refine .inl ?_;unfold Oper.wp at *;generalize (execOp a.eval o).run P w=r at *;cases r with
     | ok n w'=>
      cases n<;>simp only[Oper.upon]at H' ⊢ <;>
       first
        | exact ih _ _ _ H'
        | exact Calls.mono H' (λx w'' he=>by
         cases x
         ·exact ih _ _ _ he
         ·exact ie he.1 σ
         ·exact ie he YD)
        | exact Rows.mono H'<|λ_ _ he=>ih _ _ _ he
     | halt x w'=>cases x<;>simp only[Oper.upon]at H' ⊢<;>exact ie H'.1 σ
    ·exact ie H' YD
   ·rename_i hw;rw[ae hw]at H';exact ih _ _ _ H'
end
end Go.Eng
namespace Go.Eng
open Go.RowKit
structure Nj{κ:Type}(P:Program)(kt:TypeId)(K:κ->Value)(Ok:κ->Prop):Prop where
 law:Maps.Keyed P kt
 inj:∀a b,K a=K b->a=b
 key:∀a,Ok a->∃l,keyOf P kt (K a)=some l
section
variable {κ ν:Type} (K:κ->Value) (V:ν->Value)
def M9(p:(κ×ν)×Nat):MapEntry:=⟨K p.1.1,V p.1.2,p.2⟩
structure CF(g:Nat)(Ok:κ->Prop)(m:Hp)(T:List (κ×ν))(bs:List Nat):Prop where
 ex:∃es clock,m=Hp.one g (.map es clock)/\es.toList=(T.zip bs).map (M9 K V)/\∀b∈bs,b<clock
 len:bs.length=T.length
 up:bs.Pairwise (· < ·)
 keys:(T.map Prod.fst).Nodup
 ok:∀p∈T,Ok p.1
end
theorem NO{α:Type}{l:List α}(hn:l.Nodup){i j:Nat}{a:α}(h1:l[i]?=some a)(h2:l[j]?=some a):i=j:=by
 obtain⟨i1,i2⟩:=br.1 h1;obtain⟨j1,j2⟩:=br.1 h2;have hp:=ct.1 hn;rcases gk i j with h|h|h
 ·exact ie (i2.trans j2.symm)<|hp i j i1 j1 h
 ·exact h
 ·exact ie (j2.trans i2.symm)<|hp j i j1 i1 h
section
variable {κ ν:Type} [DecidableEq κ]
def BJ(T:List (κ×ν))(a:κ):Option ν:=(T.find? λp=>decide (p.1=a)).map Prod.snd
theorem ED{T:List (κ×ν)}(hn:(T.map Prod.fst).Nodup){j:Nat}{a:κ}{x:ν}(h:T[j]?=some (a,x)):BJ T a=some x:=by
 induction T generalizing j with
 | nil=>simp at h
 | cons p T ih=>
  unfold BJ;rw[List.find?_cons];cases j with
  | zero=>simp at h;subst h;simp
  | succ j=>
   have h':T[j]?=some (a,x):=by simpa using h
   have hne:p.1≠a:=λe=>by rw[dr,fl]at hn;exact hn.1<|ag.2 ⟨(a,x),dy h',e.symm⟩
   simp only[hne,decide_false];rw[dr,fl]at hn;exact ih hn.2 h'
theorem DZ{T:List (κ×ν)}{a:κ}(h:a ∉ T.map Prod.fst):BJ T a=none:=by
 unfold BJ
 rw[List.find?_eq_none.2 λp hp=>by
  simp only[decide_eq_true_eq]
  exact λe=>h<|ag.2 ⟨p,hp,e⟩]
 rfl
end
section
variable {κ ν:Type} [DecidableEq κ] {K:κ->Value} {V:ν->Value} {Ok:κ->Prop} {P:Program} {kt et t:TypeId} {g:Nat} {m:Hp} {T:List (κ×ν)} {bs:List Nat}
theorem If(L:Nj P kt K Ok)(hn:(T.map Prod.fst).Nodup)(hok:∀p∈T,Ok p.1)(hl:bs.length=T.length){es:Array MapEntry}(he:es.toList=(T.zip bs).map (M9 K V))(w:World)(a:κ)(ha:Ok a) :
  ((Instr.findKey kt (K a) es.toList).run P w=.ok none w/\a ∉ T.map Prod.fst)\/∃(j:Nat) (x:ν) (b:Nat),(Instr.findKey kt (K a) es.toList).run P w=.ok (some (j,V x)) w/\T[j]?=some (a,x)/\bs[j]?=some b/\es[j]?=some ⟨K a,V x,b⟩:=by
 obtain⟨l,hk⟩:=L.key a ha
 rcases L.law.find w hk es.toList (λe hmem=>by
  rw[he]at hmem;obtain⟨p,hp,rfl⟩:=ag.1 hmem
  exact L.key p.1.1<|hok p.1 (List.of_mem_zip hp).1) with ⟨h1,h2⟩|⟨j,e,h1,h2,h3⟩
 ·refine .inl ⟨h1,λhmem=>?_⟩;obtain⟨p,hp,rfl⟩:=ag.1 hmem;obtain⟨j,hj,e⟩:=List.getElem_of_mem hp;have hjb:j<bs.length:=ω
  refine h2 (M9 K V (p,bs[j])) ?_ Y;rw[he];exact ag.2 ⟨(p,bs[j]),dy (i:=j) (by rw[List.getElem?_zip_eq_some];exact⟨by rw[aj hj,e],aj hjb⟩),rfl⟩
 ·rw[he,fk]at h2;cases hz:(T.zip bs)[j]? with
  | none=>rw[hz]at h2;cases h2
  | some p=>
   rw[hz]at h2;have h2:=bf h2;obtain⟨z1,z2⟩:=List.getElem?_zip_eq_some.1 hz;have e1:p.1.1=a:=L.inj _ _ (by rw[<-h2]at h3;exact h3);refine .inr ⟨j,p.1.2,p.2,?_,?_,z2,?_⟩
   ·rw[h1,<-h2];rfl
   ·rw[z1,<-e1]
   ·rw[<-Array.getElem?_toList,he,fk,hz,<-e1];rfl
variable {o:Oper} {s:AE} {h:Hp} {ms:List Hp}
theorem Kt{x y:Operand}{z:ν}(a:κ)(L:Nj P kt K Ok)(O:CF K V g Ok m T bs)(hm:m∈ms)(ho:o.op=.lookup t x y false)(ht:P.underlying t=some (.map kt et))(hz:∀w,(zeroValue et).run P w=.ok (V z) w)(hx:ev s x=some (.map (some g)))(hy:ev s y=some (K a))(ha:Ok a) :
  OX P o s h ms (V ((BJ T a).getD z)):=
 Bs λρ w hρ hw=>by
  obtain⟨es,clock,rfl,he,hb⟩:=O.ex;have hgw:w.heap[g]?=some (.map es clock):=hw.own _ hm g _ (Hp.one_self _ _);obtain⟨l,hk⟩:=L.key a ha;have hc:=L.law.check w es.isEmpty hk;rcases If L O.keys O.ok O.len he w a ha with ⟨h1,h2⟩|⟨j,u,b,h1,h2,_,_⟩
  ·rw[DZ h2];simp only[execOp,ho,hρ _ _ hx,hρ _ _ hy,Instr.lookup,Sem.run_bind,run_underlying ht,Result.andThen_ok,getObj,Sem.run_pure,h1,hz];simp[Sem.run,hgw,hc,h1,hz,Result.andThen]
  ·rw[ED O.keys h2];simp only[execOp,ho,hρ _ _ hx,hρ _ _ hy,Instr.lookup,Sem.run_bind,run_underlying ht,Result.andThen_ok,getObj,Sem.run_pure,h1,hz];simp[Sem.run,hgw,hc,h1,hz,Result.andThen]
theorem Ends.turn{w0 w:World}{h0 h:Hp}{ms0 ms:List Hp}{i g:Nat}{o o':Obj}(H:Ends w0 h0 ms0 w h ms)(hm:ms[i]?=some (Hp.one g o)):Ends w0 h0 ms0 { w with heap:=w.heap.setIfInBounds g o' } h (ms.set i (Hp.one g o')):=by
 obtain⟨r,p1,p2⟩:=Fw ms i (Hp.one g o) (Hp.one g o') hm;have hgw:w.heap[g]?=some o:=H.st.own _ (dy hm) g o (Hp.one_self g o);have hlt:=(cj.1 hgw).1;refine Ends.perm (Ends.change (H.perm p1) Y ⟨Y,am _⟩ Y σ ?_ λk hk hne=>?_) p2.symm
 ·simp[hlt]
 ·show(w.heap.setIfInBounds g o')[k]?=w.heap[k]?;rw[ei (ft hne)]
def Dw(T:List (κ×ν))(a:κ)(x:ν):List (κ×ν):=if a∈T.map Prod.fst then T.map λp=>if p.1=a then(a,x) else p else T++[(a,x)]
theorem FV{T:List (κ×ν)}(hn:(T.map Prod.fst).Nodup)(a:κ)(x:ν):((Dw T a x).map Prod.fst).Nodup:=by
 unfold Dw;split
 ·have:(T.map λp=>if p.1=a then(a,x) else p).map Prod.fst=T.map Prod.fst:=by
   rw[gg];refine map_congr_left λp _=>?_;show(if p.1=a then(a,x) else p).1=p.1;split
   ·rename_i e;exact e.symm
   ·rfl
  rw[this];exact hn
 ·rename_i h;rw[dd]
  exact ib.2 ⟨hn,by simp,λb hb c hc e=>by
   simp at hc;subst hc;subst e;exact h hb⟩
theorem FH{T:List (κ×ν)}(hn:(T.map Prod.fst).Nodup){j:Nat}{a:κ}{y x:ν}(h:T[j]?=some (a,y)):Dw T a x=T.set j (a,x):=by
 have hmem:a∈T.map Prod.fst:=ag.2 ⟨(a,y),dy h,Y⟩;unfold Dw;rw[ah hmem];refine List.ext_getElem? λi=>?_;rw[fk,List.getElem?_set];obtain⟨hj,hje⟩:=br.1 h;by_cases hij:j=i
 ·subst hij;simp[h,hj,hje]
 ·rw[ae hij];cases hi:T[i]? with
  | none=>rfl
  | some p=>
   have:p.1≠a:=λe=>by
    have h1:(T.map Prod.fst)[i]?=some a:=by rw[fk,hi];exact aw some e
    have h2:(T.map Prod.fst)[j]?=some a:=by rw[fk,h];rfl
    exact hij<|NO hn h2 h1
   simp[this]
theorem FW{T:List (κ×ν)}(a b:κ)(x:ν):BJ (Dw T a x) b=if b=a then some x else BJ T b:=by
 unfold BJ Dw;split
 ·rename_i hmem
  induction T with
  | nil=>simp at hmem
  | cons p T ih=>
   rw[dr,List.find?_cons,List.find?_cons];by_cases hp:p.1=a
   ·rw[ah hp];by_cases hba:b=a
    ·subst hba;simp
    ·have h1:a≠b:=λe=>hba e.symm;have h2:p.1≠b:=λe=>h1 (hp.symm.trans e);simp only[h1,h2,decide_false,ae hba];by_cases hmem':a∈T.map Prod.fst
     ·have:=ih hmem';rw[ae hba]at this;exact this
     ·have:(T.map λp=>if p.1=a then(a,x) else p)=T:=by
       rw[map_congr_left (g:=id) λq hq=>?_]
       ·simp
       ·rw[ae λe=>hmem' (ag.2 ⟨q,hq,e⟩)];rfl
      rw[this]
   ·rw[ae hp];by_cases hpb:p.1=b
    ·have hba:b≠a:=λe=>hp (hpb.trans e);simp[hpb,hba]
    ·simp only[hpb,decide_false]
     exact ih (by
      rw[dr,bg]at hmem
      exact hmem.resolve_left λe=>hp e.symm)
 ·rename_i hmem;rw[List.find?_append];by_cases hba:b=a
  ·subst hba
   rw[List.find?_eq_none.2 λp hp=>by
    simp only[decide_eq_true_eq]
    exact λe=>hmem<|ag.2 ⟨p,hp,e⟩]
   simp
  ·have h1:a≠b:=λe=>hba e.symm;rw[ae hba];simp[List.find?_cons,h1]
theorem UI(T:List (κ×ν))(bs:List Nat)(j:Nat)(p:κ×ν)(b:Nat)(hb:bs[j]?=some b):(T.set j p).zip bs=(T.zip bs).set j (p,b):=by
 induction T generalizing j bs with
 | nil=>simp
 | cons q T ih=>
  cases bs with
  | nil=>simp
  | cons c bs=>
   cases j with
   | zero=>simp at hb;subst hb;simp
   | succ j=>simp[ih bs j (by simpa using hb)]
variable {e:Entry} {Q:Exit->Act->World->Prop} {ops:Array Oper} {rest:List Oper}
theorem Dx{d:Nat}(ho:o.op=.makeMap t none)(hd:o.dst=some d)(hn:Nat.blt d e.n=true)(hg:o.guard=none)
  (k:∀g m,CF K V g Ok m ([]:List (κ×ν)) []->WL e ops Q rest ((d,.map (some g))::s) h (m::ms)):WL e ops Q (o::rest) s h ms:=
 HP (post:=λv h' ms'=>∃g,v=.map (some g)/\h'=h/\ms'=Hp.one g (.map #[] 0)::ms) (λρ w hρ hw=>by
  have:(execOp ρ o).run e.P w=.ok (.value (.map (some w.heap.size))) (w.alloc (.map #[] 0)):=by simp[execOp,ho,run_makeMap]
  unfold OpRes;rw[this]
  exact⟨h,_,Ends.alloc hw _,_,Y,Y,Y⟩) hd hn hg λ_ _ _ ⟨g,e1,e2,e3⟩=>by subst e1 e2 e3;exact k g _ ⟨⟨#[],0,Y,Y,by simp⟩,rfl,List.Pairwise.nil,by simp,by simp⟩
theorem Zw(T:List (κ×ν))(bs:List Nat)(hl:bs.length=T.length)(p:κ×ν)(b:Nat):(T++[p]).zip (bs++[b])=T.zip bs++[(p,b)]:=by rw[List.zip_append hl.symm];rfl
theorem Abb{bs:List Nat}(h:bs.Pairwise (· < ·)){c:Nat}(hc:∀b∈bs,b<c):(bs++[c]).Pairwise (· < ·):=
 fh.2 ⟨h,by simp,λa ha b hb=>by simp at hb;subst hb;exact hc a ha⟩
end
end Go.Eng
namespace Go.Eng
open Go.RowKit
variable {x:Operand}
structure En(gi g:Nat)(m mi:Hp)(bs vis:List Nat):Prop where
 ex:∃es clock since seen last,m=Hp.one g (.map es clock)/\mi=Hp.one gi (.mapIter (some g) since seen last)/\(∀b∈bs,b<since)/\since<=last/\since<=clock/\seen.toList=vis.map (λj=>bs[j]?.getD 0)/\(vis≠[]->last=clock)
 lt:∀j∈vis,j<bs.length
 nodup:vis.Nodup
theorem JF{g:Nat}{o o':Obj}(h:Hp.one g o=Hp.one g o'):o=o':=by have:=congrFun h g;rw[Hp.one_self,Hp.one_self]at this;exact bf this
section
variable {κ ν:Type} [DecidableEq κ] {K:κ->Value} {V:ν->Value} {Ok:κ->Prop} {P:Program} {t:TypeId} {gi g:Nat} {m mi:Hp} {T:List (κ×ν)} {bs vis:List Nat}
variable {o:Oper} {s:AE} {h:Hp} {ms:List Hp} {e:Entry} {Q:Exit->Act->World->Prop} {ops:Array Oper} {rest:List Oper}
theorem Aak{d:Nat}{kt et:TypeId}(O:CF K V g Ok m T bs)(hm:m∈ms)(ho:o.op=.range t x)(ht:e.P.underlying t=some (.map kt et))(hx:ev s x=some (.map (some g)))(hd:o.dst=some d)(hn:Nat.blt d e.n=true)(hg:o.guard=none)
  (k:∀gi mi,En gi g m mi bs []->WL e ops Q rest ((d,.pt gi)::s) h (mi::ms)):WL e ops Q (o::rest) s h ms:=
 HP (post:=λv h' ms'=>∃gi mi,En gi g m mi bs []/\v=.pt gi/\h'=h/\ms'=mi::ms) (λρ w hρ hw=>by
  obtain⟨es,clock,rfl,he,hb⟩:=O.ex;have hgw:w.heap[g]?=some (.map es clock):=hw.st.own _ hm g _ (Hp.one_self _ _)
  have hrun:(execOp ρ o).run e.P w=.ok (.value (.pointer (some ⟨w.heap.size,0,none⟩))) (w.alloc (.mapIter (some g) clock #[] clock)):=by simp only[execOp,ho,hρ _ _ hx,Instr.range,Sem.run_bind,run_underlying ht,Result.andThen_ok,getObj,Sem.run_pure];simp[Sem.run,hgw,Result.andThen,newObj]
  unfold OpRes;rw[hrun]
  exact⟨h,_,Ends.alloc hw _,_,_,⟨⟨es,clock,clock,#[],clock,Y,Y,hb,am _,am _,Y,λh=>ie Y h⟩,by simp,List.Pairwise.nil⟩,rfl,rfl,rfl⟩) hd hn hg λv h' ms' ⟨gi,mi,e1,e2,e3,e4⟩=>by subst e2 e3 e4;exact k gi mi e1
theorem AaN{bs:List Nat}(h:bs.Pairwise (· < ·)){i j:Nat}{b:Nat}(hi:bs[i]?=some b)(hj:bs[j]?=some b):i=j:=
 NO (h.imp λh=>Nat.ne_of_lt h) hi hj
theorem Abf{d:Nat}(i:Nat)(O:CF K V g Ok m T bs)(I:En gi g m mi bs vis)(hm:m∈ms)(hi:ms[i]?=some mi)(ho:o.op=.next x false)(hx:ev s x=some (.pointer (some ⟨gi,0,none⟩)))(hd:o.dst=some d)(hn:Nat.blt d e.n=true)(hg:o.guard=none)
  (k0:(∀j,j<T.length->j∈vis)->WL e ops Q rest ((d,.tuple #[.bool false])::s) h ms)
  (k1:∀(j:Nat) (hj:j<T.length) (mi':Hp),j ∉ vis->En gi g m mi' bs (vis++[j])->WL e ops Q rest ((d,.tuple #[.bool true,K T[j].1,V T[j].2])::s) h (ms.set i mi')):WL e ops Q (o::rest) s h ms:=
 HP (post:=λv h' ms'=>(v=.tuple #[.bool false]/\h'=h/\ms'=ms/\∀j,j<T.length->j∈vis)\/∃(j:Nat) (hj:j<T.length) (mi':Hp),j ∉ vis/\En gi g m mi' bs (vis++[j])/\v=.tuple #[.bool true,K T[j].1,V T[j].2]/\h'=h/\ms'=ms.set i mi') (λρ w hρ hw=>by
  obtain⟨es,clock,rfl,he,hb⟩:=O.ex;obtain⟨es',clock',since,seen,last,e1,rfl,i1,i2,i3,i4,i5⟩:=I.ex;have e1:=JF e1;cases e1;have hgw:w.heap[g]?=some (.map es clock):=hw.st.own _ hm g _ (Hp.one_self _ _);have hiw:w.heap[gi]?=some (.mapIter (some g) since seen last):=hw.st.own _ (dy hi) gi _ (Hp.one_self _ _)
  have hent:∀x∈es.toList,∃(j:Nat) (hj:j<T.length) (hjb:j<bs.length),x=M9 K V (T[j],bs[j]):=λx hx=>by rw[he]at hx;obtain⟨p,hp,rfl⟩:=ag.1 hx;obtain⟨j,hj⟩:=List.getElem?_of_mem hp;obtain⟨z1,z2⟩:=List.getElem?_zip_eq_some.1 hj;obtain⟨j1,j2⟩:=br.1 z1;obtain⟨k1,k2⟩:=br.1 z2;exact⟨j,j1,k1,by rw[j2,k2]⟩
  have hin:∀(j:Nat) (hj:j<T.length) (hjb:j<bs.length),M9 K V (T[j],bs[j])∈es.toList:=λj hj hjb=>by rw[he];exact ag.2 ⟨(T[j],bs[j]),dy (i:=j)<|List.getElem?_zip_eq_some.2 ⟨aj hj,aj hjb⟩,Y⟩
  have hseen:∀b,seen.contains b=true<->∃j∈vis,bs[j]?.getD 0=b:=λb=>by rw[Array.contains_iff_mem,<-Array.mem_toList_iff,i4,ag]
  rcases run_next_at (P:=e.P) w o.type gi g since last seen es clock hiw hgw (λx hx=>by
   obtain⟨j,hj,hjb,rfl⟩:=hent x hx
   exact i1 _<|List.getElem_mem hjb) i2 with ⟨h1,h2⟩|⟨x,h1,w1,h2,h3⟩
  ·have hrun:(execOp ρ o).run e.P w=.ok (.value (.tuple #[.bool false])) w:=by
    simp only[execOp,ho,hρ _ _ hx,Sem.run_bind,h2,Result.andThen_ok,Sem.run_pure]
   unfold OpRes;rw[hrun];refine⟨h,ms,hw,.inl ⟨Y,Y,Y,λj hj=>?_⟩⟩;have hjb:j<bs.length:=by rw[O.len];exact hj
   have hmem:=hin j hj hjb
   have hc:seen.contains bs[j]=true:=by
    cases hcc:seen.contains bs[j] with
    | true=>rfl
    | false=>
     have:M9 K V (T[j],bs[j])∈leftOf es seen:=by unfold leftOf;rw[Array.mem_filter];exact⟨Array.mem_toList_iff.1 hmem,by show(!seen.contains bs[j])=true;rw[hcc];rfl⟩
     rw[Array.size_eq_zero_iff.1 h1]at this;simp at this
   obtain⟨j',hj',e2⟩:=(hseen _).1 hc;have hj'b:=I.lt j' hj';rw[aj hj'b]at e2;have:j'=j:=AaN O.up (aj hj'b) (by rw[aj hjb];exact aw some e2.symm);subst this;exact hj'
  ·unfold leftOf at h1;have h1:=Array.mem_filter.1 (Array.mem_toList_iff.1 h1);obtain⟨j,hj,hjb,rfl⟩:=hent x (Array.mem_toList_iff.2 h1.1)
   have hjv:j ∉ vis:=λhv=>by have:seen.contains bs[j]=true:=(hseen _).2 ⟨j,hv,by rw[aj hjb];rfl⟩;have h4:=h1.2;simp only[M9]at h4;rw[this]at h4;cases h4
   have hrun:(execOp ρ o).run e.P w=.ok (.value (.tuple #[.bool true,K T[j].1,V T[j].2])) (ChangeMaps.setBlock w1 gi (.mapIter (some g) since (seen.push bs[j]) clock)):=by simp only[execOp,ho,hρ _ _ hx,Sem.run_bind,h3,Result.andThen_ok,Sem.run_pure,M9]
   unfold OpRes;rw[hrun]
   have hw1:e.Ends w1 h ms:=by
    rcases h2 with rfl|rfl
    ·exact hw
    ·exact Ends.drew hw
   refine⟨h,_,Ends.turn hw1 hi,.inr ⟨j,hj,_,hjv,⟨⟨es,clock,since,seen.push bs[j],clock,Y,Y,i1,i3,i3,?_,λ_=>rfl⟩,λi hi=>?_,?_⟩,Y,Y,Y⟩⟩
   ·rw[Array.toList_push,i4,dd];simp[aj hjb]
   ·rcases bj.1 hi with hi|hi
    ·exact I.lt i hi
    ·simp at hi;subst hi;exact hjb
   ·exact ib.2 ⟨I.nodup,by simp,λa ha b hb e=>by simp at hb;subst hb;subst e;exact hjv ha⟩) hd hn hg λv h' ms' hp=>by
  rcases hp with ⟨e1,e2,e3,e4⟩|⟨j,hj,mi',e1,e2,e3,e4,e5⟩
  ·subst e1 e2 e3;exact k0 e4
  ·subst e3 e4 e5;exact k1 j hj mi' e1 e2
theorem Yo{j:Nat}(O:CF K V g Ok m T bs)(I:En gi g m mi bs (vis++[j]))(hm:m∈ms)(hi:mi∈ms)(hj:j<T.length)(ho:o.op=.entry x)(hx:ev s x=some (.pointer (some ⟨gi,0,none⟩))):OX P o s h ms (.tuple #[K T[j].1,V T[j].2]):=
 Bs λρ w hρ hw=>by
  obtain⟨es,clock,rfl,he,hb⟩:=O.ex;obtain⟨es',clock',since,seen,last,e1,rfl,i1,i2,i3,i4,i5⟩:=I.ex;have e1:=JF e1;cases e1;have hl:last=clock:=i5 σ;subst hl;have hgw:w.heap[g]?=some (.map es last):=hw.own _ hm g _ (Hp.one_self _ _);have hjb:j<bs.length:=by rw[O.len];exact hj
  have hs:seen=(vis.map λj=>bs[j]?.getD 0).toArray.push bs[j]:=by apply Array.toList_inj.1;rw[i4,Array.toList_push,dd];simp[aj hjb]
  have hiw:w.heap[gi]?=some (.mapIter (some g) since ((vis.map λj=>bs[j]?.getD 0).toArray.push (M9 K V (T[j],bs[j])).born) last):=by have:=hw.own _ hi gi _ (Hp.one_self _ _);rw[hs]at this;exact this
  have hmem:M9 K V (T[j],bs[j])∈es.toList:=by rw[he];exact ag.2 ⟨(T[j],bs[j]),dy (i:=j)<|List.getElem?_zip_eq_some.2 ⟨aj hj,aj hjb⟩,Y⟩
  have hn:(es.toList.map (·.born)).Nodup:=by rw[he,gg];have:(MapEntry.born∘M9 K V)=(Prod.snd:(κ×ν)×Nat->Nat):=rfl;rw[this,List.map_snd_zip (by rw[O.len];exact am _)];exact O.up.imp λh=>Nat.ne_of_lt h
  have:=run_entry_at (P:=P) w gi g since _ es last _ hiw hgw hmem hn;simp only[execOp,ho,hρ _ _ hx,Sem.run_bind,this,Result.andThen_ok,Sem.run_pure,M9]
end
end Go.Eng
namespace Go.Eng
open Go.RowKit
variable {m c:Hp} {r:List Oper} {w:World}
theorem Dz{α:Type}:∀{l:List α} {i:Nat} {a:α},l[i]?=some a->l.Perm (a::l.eraseIdx i)
 | [],i,a,h=>by simp at h
 | b::l,0,a,h=>by simp at h;subst h;simp
 | b::l,i+1,a,h=>by simp at h;exact((Dz h).cons b).trans (List.Perm.swap _ _ _)
theorem Ends.erase{w0:World}{h0 h:Hp}{ms0 ms:List Hp}{i:Nat}(H:Ends w0 h0 ms0 w h ms)(hm:ms[i]?=some m):Ends w0 h0 ms0 w h (ms.eraseIdx i):=
 Ends.drop (Ends.perm H (Dz hm))
section
variable {P:Program} {w0:World} {h0:Hp} {ms0:List Hp} {n:Nat} {fn:Func} {post:Value->Hp->List Hp->Prop} {s:AE} {h:Hp} {ms:List Hp} {t u:Nat} {ty el:TypeId} {g:Nat} {d:TypeDesc} {sz:Nat} {z:Value} {bytes:Nat} {vs:List Value} {v:Value}
theorem Bx(i:Nat)(hr:fn.results=#[.cell t ty])(hv:lk s t=some (.pointer (some ⟨g,0,none⟩)))(ht:P.underlying ty=some d)(hd:Ih d=true)(hs:Elem P ty sz z bytes)(hl:vs.length=sz)(hc:ms[i]?=some (BI g el vs))(hp:post (.agg vs.toArray) h (ms.eraseIdx i)) :
  NX ⟨P,w0,h0,ms0,n,[]⟩ (bodyPost P fn (RP w0 h0 ms0 post)) .ret s h ms:=λa w ha hw=>by
 have h1:a.tmps[t]?.getD undef=.pt g:=by rw[ha.slots t _ hv];rfl
 have hag:(isAgg ty).run P w=.ok true w:=by rw[Ds ht,hd]
 have hc':∀j v,vs[j]?=some v->w.cell? ((⟨g,0,none⟩:Addr).add j)=some v:=λj v e=>hw.st.cell (Seg.blk i hc j v e);refine bodyPost_ret (v:=.agg vs.toArray) ?_ ha.defers ⟨_,h,_,Y,Ends.erase hw hc,hp⟩;subst hl;simp[results,hr,h1,asAddr,loadVar,hag,hs.sizeOf,run_loadCells_list (P:=P) w _ vs hc']
theorem Ig(i:Nat)(hr:fn.results=#[.cell t ty,.tmp u])(hv:lk s t=some (.pointer (some ⟨g,0,none⟩)))(hu:lk s u=some v)(ht:P.underlying ty=some d)(hd:Ih d=true)(hs:Elem P ty sz z bytes)(hl:vs.length=sz)(hc:ms[i]?=some (BI g el vs))(hp:post (.tuple #[.agg vs.toArray,v]) h (ms.eraseIdx i)) :
  NX ⟨P,w0,h0,ms0,n,[]⟩ (bodyPost P fn (RP w0 h0 ms0 post)) .ret s h ms:=λa w ha hw=>by
 have h1:a.tmps[t]?.getD undef=.pt g:=by rw[ha.slots t _ hv];rfl
 have h2:a.tmps[u]?.getD undef=v:=by rw[ha.slots u _ hu];rfl
 have hag:(isAgg ty).run P w=.ok true w:=by rw[Ds ht,hd]
 have hc':∀j v,vs[j]?=some v->w.cell? ((⟨g,0,none⟩:Addr).add j)=some v:=λj v e=>hw.st.cell (Seg.blk i hc j v e);refine bodyPost_ret (v:=.tuple #[.agg vs.toArray,v]) ?_ ha.defers ⟨_,h,_,Y,Ends.erase hw hc,hp⟩;subst hl;simp[results,hr,h1,h2,asAddr,loadVar,hag,hs.sizeOf,run_loadCells_list (P:=P) w _ vs hc']
end
def VK:Value->Bool
 | .slice none _ _=>true
 | _=>false
section
variable {P:Program} {o:Oper} {s:AE} {h:Hp} {ms:List Hp} {t u el:TypeId} {x y:Operand} {v:Value} {sz n:Nat} {cs:List Value}
theorem Lw(R:Rd h ms v sz n cs)(ho:o.op=.binOp .eql t x y u)(ht:P.underlying t=some (.slice el))(hx:ev s x=some v)(hy:ev s y=some (.slice none 0 0)):OX P o s h ms (.bool (VK v)):=by
 obtain⟨a,c,rfl,_⟩:=R.ex;refine Bs λρ w hρ _=>?_;have:=Go.Lib.run_eql_slice_nil w t el a n c 0 0 ht;have hg:(eqGuard .eql t x y (.slice a n c) (.nl)).run P w=.ok () w:=by simp[eqGuard]
 cases a<;>simp[execOp,ho,hρ _ _ hx,hρ _ _ hy,this,hg,VK]
end
theorem KA{h:Hp}{ms:List Hp}{v:Value}{sz n:Nat}{cs:List Value}(R:Rd h ms v sz n cs)(hv:VK v=true):n=0:=by obtain⟨a,c,rfl,h1,h2,h3,h4⟩:=R.ex;refine Nat.eq_zero_of_not_pos λhn=>?_;obtain⟨q,rfl,_⟩:=h4 hn;simp[VK]at hv
theorem Hp.disj_join{a b:Hp}(h1:a.disj c)(h2:b.disj c):(a.join b).disj c:=λg=>by
 rcases h1 g with e1|e1
 ·rcases h2 g with e2|e2
  ·left;simp[Hp.join,e1,e2]
  ·exact .inr e2
 ·exact .inr e1
theorem Hp.disj_left{a b:Hp}(h:(a.join b).disj c):a.disj c:=λg=>by
 rcases h g with e|e
 ·left
  cases ha:a g with
  | none=>rfl
  | some o=>simp[Hp.join,ha]at e
 ·exact .inr e
theorem Hp.disj_right{a b:Hp}(h:(a.join b).disj c):b.disj c:=λg=>by
 rcases h g with e|e
 ·left
  cases ha:a g with
  | none=>simpa[Hp.join,ha] using e
  | some o=>simp[Hp.join,ha]at e
 ·exact .inr e
theorem OV{e:Entry}{Q:Exit->Act->World->Prop}{s:AE}{h:Hp}{ms:List Hp}{x:Exit}(k:NX e Q x s h (Hp.emp::ms)):NX e Q x s h ms:=λa w ha hw=>k a w ha
 ⟨⟨hw.st.imm,λm hm=>by
  rcases bg.1 hm with rfl|hm
  ·intro g o e;cases e
  ·exact hw.st.own m hm,λm hm=>by
  rcases bg.1 hm with rfl|hm
  ·exact λ_=>.inl Y
  ·exact hw.st.off m hm,b7.2 ⟨λ_ _ _=>.inl Y,hw.st.apart⟩⟩,hw.os,hw.tape,hw.output,hw.size,hw.block,hw.le,hw.hnew,λm hm k hk hne=>by
  rcases bg.1 hm with rfl|hm
  ·exact ie Y hne
  ·exact hw.mnew m hm k hk hne⟩
theorem D4{e:Entry}{Q:Exit->Act->World->Prop}{s:AE}{h:Hp}{ms:List Hp}{x:Exit}(i:Nat)(hm:ms[i]?=some m)(k:NX e Q x s h (ms.eraseIdx i)):NX e Q x s h ms:=λa w ha hw=>k a w ha (Ends.erase hw hm)
theorem N6{e:Entry}{Q:Exit->Act->World->Prop}{s:AE}{h:Hp}{ms:List Hp}{ops:Array Oper}(i:Nat)(hm:ms[i]?=some m)(k:WL e ops Q r s h (ms.eraseIdx i)):WL e ops Q r s h ms:=λa w ha hw=>k a w ha (Ends.erase hw hm)
@[simp] theorem Afu(k:IntKind)(n:Int):(Value.int k n).oneCell'=true:=rfl
@[simp] theorem Afg(b:Bool):(Value.bool b).oneCell'=true:=rfl
@[simp] theorem Afs(p:Option Addr):(Value.pointer p).oneCell'=true:=rfl
@[simp] theorem Aer(p:Option Addr)(n c:Nat):(Value.slice p n c).oneCell'=true:=rfl
@[simp] theorem Afr(p:Option Nat):(Value.map p).oneCell'=true:=rfl
theorem D3{e:Entry}{Q:Exit->Act->World->Prop}{ops:Array Oper}{rest:List Oper}{o:Oper}{s:AE}{h:Hp}{ms:List Hp}{el:TypeId}{v:Value}{l:List Int}{t:TypeId}{x y:Operand}{z:Value}{bytes:Nat}{a:Int}(i j:Nat)(O:OwnL cI 1 el m v l)(ho:o.op=.store t x y)(hs:Elem e.P t 1 z bytes)(hx:ev s x=some (.pointer (some ((AH v).add (j*1)))))(hy:ev s y=some (.int .i64 a))
  (hm:ms[i]?=some m) (hj:j<l.length) (hd:o.dst=none) (hg:o.guard=none)
  (K:∀m',OwnL cI 1 el m' v (l.set j a)->WL e ops Q rest s h (ms.set i m')):WL e ops Q (o::rest) s h ms:=
 CV i j (λ_=>rfl) O ho hs hx hy rfl hm hj hd hg K
theorem OwnL.blk{α:Type}{F:α->List Value}{sz:Nat}{el:TypeId}{g:Nat}{l:List α}(n:Nat)(hF:∀x,(F x).length=sz)(hl:l.length=n)(hn:n<=9223372036854775807):OwnL F sz el (BI g el (l.flatMap F)) (.slice (some ⟨g,0,none⟩) n n) l:=
 ⟨⟨BY hF l,.inr ⟨g,n,[],by rw[hl],by rw[List.append_nil],by rw[List.append_nil,BY hF,hl],ω,hn⟩⟩,hF⟩
theorem OwnL.rep{g:Nat}{el:TypeId}(n:Nat)(x:Int)(hn:n<=9223372036854775807):OwnL cI 1 el (BI g el (replicate n (.int .i64 x))) (.slice (some ⟨g,0,none⟩) n n) (replicate n x):=by rw[AdT];exact OwnL.blk n A8 σ hn
theorem Ends.join{w0:World}{h0 h:Hp}{ms0 ms:List Hp}{a b:Hp}(H:Ends w0 h0 ms0 w h (a::b::ms)):Ends w0 h0 ms0 w h (a.join b::ms):=by
 have hap:=b7.1 H.st.apart;have hap2:=b7.1 hap.2;refine⟨⟨H.st.imm,?_,?_,b7.2 ⟨λm hm=>Hp.disj_join (hap.1 m (bi _ hm)) (hap2.1 m hm),hap2.2⟩⟩,H.os,H.tape,H.output,H.size,H.block,H.le,H.hnew,?_⟩
 ·intro m hm;rcases bg.1 hm with rfl|hm
  ·intro k o e;unfold Hp.join at e;split at e
   ·rename_i o' e';cases e;exact H.st.own a σ k _ e'
   ·exact H.st.own b σ k o e
  ·exact H.st.own m (by simp[hm])
 ·intro m hm;rcases bg.1 hm with rfl|hm
  ·exact Hp.disj_join (H.st.off a σ)<|H.st.off b σ
  ·exact H.st.off m (by simp[hm])
 ·intro m hm k hk e;rcases bg.1 hm with rfl|hm
  ·cases ha:a k with
   | some o=>exact H.mnew a σ k hk (by rw[ha];simp)
   | none=>exact H.mnew b σ k hk (by simpa[Hp.join,ha] using e)
  ·exact H.mnew m (by simp[hm]) k hk e
theorem Ends.part{w0:World}{h0 h:Hp}{ms0 ms:List Hp}{a b:Hp}(H:Ends w0 h0 ms0 w h (a.join b::ms))(hd:a.disj b):Ends w0 h0 ms0 w h (a::b::ms):=by
 have hap:=b7.1 H.st.apart
 have hb:∀k o,b k=some o->(a.join b) k=some o:=λk o e=>by
  rcases hd k with e1|e1
  ·simp[Hp.join,e1,e]
  ·rw[e1]at e;cases e
 have ha:∀k o,a k=some o->(a.join b) k=some o:=λk o e=>by simp[Hp.join,e]
 refine⟨⟨H.st.imm,?_,?_,b7.2 ⟨?_,b7.2 ⟨λm hm=>Hp.disj_right (hap.1 m hm),hap.2⟩⟩⟩,H.os,H.tape,H.output,H.size,H.block,H.le,H.hnew,?_⟩
 ·intro m hm;rcases bg.1 hm with rfl|hm
  ·exact λk o e=>H.st.own _ σ k o<|ha k o e
  rcases bg.1 hm with rfl|hm
  ·exact λk o e=>H.st.own _ σ k o<|hb k o e
  ·exact H.st.own m (by simp[hm])
 ·intro m hm;have h1:=H.st.off (a.join b) σ;rcases bg.1 hm with rfl|hm
  ·exact Hp.disj_left h1
  rcases bg.1 hm with rfl|hm
  ·exact Hp.disj_right h1
  ·exact H.st.off m (by simp[hm])
 ·intro m hm;rcases bg.1 hm with rfl|hm
  ·exact hd
  ·exact Hp.disj_left<|hap.1 m hm
 ·intro m hm k hk e;rcases bg.1 hm with rfl|hm
  ·obtain⟨o,ho⟩:=Hp.ne_none e;exact H.mnew (m.join b) σ k hk (by rw[ha k o ho];simp)
  rcases bg.1 hm with rfl|hm
  ·obtain⟨o,ho⟩:=Hp.ne_none e;exact H.mnew (a.join m) σ k hk (by rw[hb k o ho];simp)
  ·exact H.mnew m (by simp[hm]) k hk e
section
variable {e:Entry} {Q:Exit->Act->World->Prop} {s:AE} {h:Hp} {ms:List Hp} {a b:Hp} {ops:Array Oper}
theorem Ab7(k:WL e ops Q r s h (a.join b::ms)):WL e ops Q r s h (a::b::ms):=λx w ha hw=>k x w ha (Ends.join hw)
theorem IJ{y:Exit}(k:NX e Q y s h (a.join b::ms)):NX e Q y s h (a::b::ms):=λx w ha hw=>k x w ha (Ends.join hw)
theorem K3{c:Code}(hd:a.disj b)(k:WS e c Q s h (a::b::ms)):WS e c Q s h (a.join b::ms):=λx w ha hw=>k x w ha (Ends.part hw hd)
theorem AbU(hd:a.disj b)(k:WL e ops Q r s h (a::b::ms)):WL e ops Q r s h (a.join b::ms):=λx w ha hw=>k x w ha (Ends.part hw hd)
theorem Aam(k:ms.Pairwise Hp.disj->WL e ops Q r s h ms):WL e ops Q r s h ms:=λx w ha hw=>k hw.st.apart x w ha hw
theorem Hc{y:Exit}(k:ms.Pairwise Hp.disj->NX e Q y s h ms):NX e Q y s h ms:=λx w ha hw=>k hw.st.apart x w ha hw
end
end Go.Eng
