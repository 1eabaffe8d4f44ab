/- A part of the proof. -/
import Derived.Sort.LotA
import Derived.Calls
import Derived.Laws.Sem
import Derived.Laws.World
import Derived.Laws.Rows
import Derived.Laws.AppendOwn
import Derived.Below
import Derived.Tactics
import Derived.Orders
import Derived.Laws.Entries
import Derived.Laws.Cells
import Derived.Laws.Slices
import Derived.Laws.Small
import Derived.IntWalk
import Derived.Laws.Append
import Derived.Laws.MakeOwn
import Derived.Laws.CopyRow
import Derived.Deep.Quiet
import Derived.Sort.AssemblyPlain
import Derived.Sort.LotD5
import Derived.Sort.Walk13a
import Derived.Lib.BitFns
import Derived.Deep.Slices
import Derived.OpenShut
import Derived.Maps.RangeRun
import Derived.Maps.Keyed
import Derived.Carry
import Derived.Lib.SliceRun
set_option linter.unusedSimpArgs false
set_option linter.unusedVariables false
set_option linter.unusedSectionVars false
set_option maxRecDepth 100000
set_option maxHeartbeats 4000000
open List (replicate range length_append nil_append length_take mem_range cons_append map_append mem_cons_self mem_cons_of_mem length_drop map_map map_cons append_assoc flatMap_cons mem_append_left mem_append_right map_congr_left drop_drop)
theorem ω{p:Prop}(h:p:=by omega):p:=h
theorem κ{p:Prop}(h:p:=by kernel_rfl):p:=h
theorem σ{p:Prop}(h:p:=by simp):p:=h
theorem δ{p:Prop}(h:p:=by decide):p:=h
abbrev Go.Value.nl:Go.Value:=.slice none 0 0
abbrev Go.Value.es:Go.Value:=.string ByteArray.empty
abbrev Go.Value.w(n:Int):Go.Value:=.int .i64 n
abbrev Go.Value.pt(g:Nat):Go.Value:=.pointer (some ⟨g,0,none⟩)
abbrev lr:=true
abbrev lw:=false
theorem lj{a b:Prop}(h:a)(k:¬a):b:=absurd h k
theorem ae:type_of% @List.length_singleton:=by simp_all
theorem af:type_of% @if_neg:=@if_neg
theorem ag:type_of% @List.length_append:=by simp_all
theorem ah:type_of% @if_pos:=@if_pos
theorem ai:type_of% @List.mem_map:=@List.mem_map
theorem aj:type_of% @List.getElem?_eq_getElem:=by simp_all
theorem ak:type_of% @Nat.le_refl:=@Nat.le_refl
theorem am:type_of% @List.mem_cons_of_mem:=by simp_all
theorem ao:type_of% @List.mem_cons_self:=by simp_all
theorem ap:type_of% @List.take_succ_eq_append_getElem:=by simp_all
theorem aq:type_of% @List.getElem_mem:=by simp_all
theorem aw:type_of% @List.nil_append:=by simp_all
theorem ax:type_of% @Classical.byContradiction:=by simp_all
theorem ay:type_of% @Option.some.inj:=by simp_all
theorem bb:type_of% @List.length_map:=by simp_all
theorem be:type_of% @List.mem_cons:=@List.mem_cons
theorem bf:type_of% @List.length_take:=by simp_all
theorem bg:type_of% @List.cons_append:=by simp_all
theorem bh:type_of% @congrArg:=@congrArg
theorem bi:type_of% @List.mem_append:=by simp_all
theorem bj:type_of% @List.mem_singleton:=by simp_all
theorem bl:type_of% @Nat.le_trans:=@Nat.le_trans
theorem bm:type_of% @List.take_of_length_le:=@List.take_of_length_le
theorem bo:type_of% @Array.getD_eq_getD_getElem?:=by simp_all
theorem bp:type_of% @decide_eq_true:=by simp_all
theorem bq:type_of% @List.getElem?_eq_some_iff:=by grind
theorem br:type_of% @List.length_drop:=by simp_all
theorem bw:type_of% @List.pairwise_iff_getElem:=@List.pairwise_iff_getElem
theorem b6:type_of% @List.mem_range:=by simp_all
theorem b7:type_of% @Nat.lt_of_lt_of_le:=by omega
theorem cg:type_of% @List.pairwise_cons:=by simp_all
theorem cj:type_of% @Array.getElem?_eq_some_iff:=by grind
theorem cw:type_of% @Go.run_underlying:=@Go.run_underlying
theorem cz:type_of% @List.map_append:=by simp_all
theorem db:type_of% @List.perm_append_comm:=@List.perm_append_comm
theorem dd:type_of% @of_decide_eq_true:=by simp_all
theorem de:type_of% @List.length_cons:=by simp_all
theorem df:type_of% @Bool.and_eq_true:=by simp_all
theorem dh:type_of% @List.map_cons:=@List.map_cons
theorem di:type_of% @Int.sign_eq_zero_iff_zero:=by simp_all
theorem dn:type_of% @Nat.pow_le_pow_right:=@Nat.pow_le_pow_right
theorem dp:type_of% @List.mem_filter:=by simp_all
theorem dq:type_of% @Nat.add_mul:=@Nat.add_mul
theorem dr:type_of% @Nat.lt_of_le_of_lt:=by omega
theorem dt:type_of% @Go.Result.andThen_ok:=by simp_all
theorem du:type_of% @List.append_assoc:=by simp_all
theorem dv:type_of% @Nat.mod_eq_of_lt:=@Nat.mod_eq_of_lt
theorem dw:type_of% @List.eq_nil_of_length_eq_zero:=by simp_all
theorem dx:type_of% @decide_eq_false:=by simp_all
theorem dy:type_of% @List.all_eq_true:=by simp_all
theorem dz:type_of% @Int.natCast_mul:=by omega
theorem d5:type_of% @Nat.le_of_ble_eq_true:=by simp_all
theorem d6:type_of% @List.take_append_drop:=by simp_all
theorem d7:type_of% @Nat.pow_succ:=@Nat.pow_succ
theorem d8:type_of% @List.append_nil:=by simp_all
theorem ee:type_of% @List.getElem_of_mem:=@List.getElem_of_mem
theorem ef:type_of% @List.mem_iff_getElem:=@List.mem_iff_getElem
theorem eg:type_of% @List.mem_append_left:=by simp_all
theorem eh:type_of% @Nat.mul_le_mul_right:=@Nat.mul_le_mul_right
theorem ei:type_of% @Nat.mul_comm:=@Nat.mul_comm
theorem ej:type_of% @List.mem_append_right:=by simp_all
theorem eo:type_of% @List.flatMap_cons:=by simp_all
theorem ep:type_of% @Go.Sem.run_bind:=by simp_all
theorem ez:type_of% @List.mem_of_getElem?:=by grind
theorem e9:type_of% @Int.mul_comm:=@Int.mul_comm
theorem fa:type_of% @List.sum_cons:=@List.sum_cons
theorem fc:type_of% @List.getElem?_append_left:=by grind
theorem fd:type_of% @List.getElem_map:=by simp_all
theorem fe:type_of% @List.flatMap_append:=by simp_all
theorem ff:type_of% @Option.map_eq_some_iff:=by simp_all
theorem fg:type_of% @List.map_congr_left:=by simp_all
theorem fh:type_of% @List.length_set:=by simp_all
theorem fj:type_of% @List.length_filter_le:=by grind
theorem fk:type_of% @List.getElem?_eq_none:=by simp_all
theorem fl:type_of% @Go.Sem.run_pure:=by simp_all
theorem fm:type_of% @Nat.zero_le:=@Nat.zero_le
theorem fo:type_of% @List.pairwise_map:=by grind
theorem fp:type_of% @Classical.not_not:=by simp_all
theorem fq:type_of% @Int.toNat_of_nonneg:=by omega
theorem ft:type_of% @Array.getElem?_setIfInBounds_ne:=by simp_all
theorem fu:type_of% @trivial:=@trivial
theorem fv:type_of% @List.length_nil:=by simp_all
theorem fw:type_of% @List.drop_eq_getElem_cons:=by simp_all
theorem fx:type_of% @Nat.mul_le_mul:=@Nat.mul_le_mul
theorem fy:type_of% @decide_eq_decide:=by simp_all
theorem fz:type_of% @List.take_length:=by simp_all
theorem f5:type_of% @List.replicate_succ:=by grind
theorem f6:type_of% @Nat.mod_lt:=@Nat.mod_lt
theorem f7:type_of% @Nat.div_div_eq_div_mul:=@Nat.div_div_eq_div_mul
theorem f9:type_of% @List.pairwise_append:=by grind
theorem gc:type_of% @Nat.div_eq_of_lt:=by simp_all
theorem ge:type_of% @List.mem_of_mem_take:=by grind
theorem gg:type_of% @List.ext_getElem:=@List.ext_getElem
theorem gh:type_of% @List.getElem?_set:=by grind
theorem gj:type_of% @List.getElem?_map:=by simp_all
theorem gk:type_of% @decide_eq_true_iff:=by simp_all
theorem gl:type_of% @List.getElem?_take:=by grind
theorem gn:type_of% @Nat.one_mul:=@Nat.one_mul
theorem gq:type_of% @Go.run_loadCells_list:=@Go.run_loadCells_list
theorem gr:type_of% @Nat.min_eq_left:=by omega
theorem gt:type_of% @List.nodup_cons:=by simp_all
theorem gu:type_of% @List.length_eq_zero_iff:=by simp_all
theorem gv:type_of% @List.Perm.refl:=by simp_all
theorem gx:type_of% @Ne.symm:=@Ne.symm
theorem gy:type_of% @List.mem_or_eq_of_mem_set:=by grind
theorem gz:type_of% @Nat.add_zero:=@Nat.add_zero
theorem ia:type_of% @List.not_mem_nil:=by simp_all
theorem ib:type_of% @cond_false:=@cond_false
theorem ic:type_of% @List.ext_getElem?:=@List.ext_getElem?
theorem ie:type_of% @Nat.mul_assoc:=@Nat.mul_assoc
theorem ig:type_of% @Nat.zero_add:=@Nat.zero_add
theorem ii:type_of% @Nat.lt_or_ge:=@Nat.lt_or_ge
theorem ij:type_of% @Nat.add_comm:=@Nat.add_comm
theorem ik:type_of% @List.length_range:=by simp_all
theorem il:type_of% @Int.add_zero:=@Int.add_zero
theorem im:type_of% @List.getElem?_zip_eq_some:=by grind
theorem io:type_of% @decide_eq_true_eq:=by simp_all
theorem ip:type_of% @Nat.mul_add:=@Nat.mul_add
theorem iq:type_of% @List.size_toArray:=by simp_all
theorem ir:type_of% @Go.mem_ready:=@Go.mem_ready
theorem it:type_of% @List.foldl_cons:=by simp_all
theorem iu:type_of% @Int.zero_mul:=@Int.zero_mul
theorem iv:type_of% @List.mem_flatMap:=by simp_all
theorem iw:type_of% @Array.mem_toList_iff:=by simp_all
theorem ix:type_of% @Nat.sub_zero:=@Nat.sub_zero
theorem iy:type_of% @Nat.sub_self:=@Nat.sub_self
theorem iz:type_of% @Nat.lt_trichotomy:=by omega
theorem i6:type_of% @Nat.mul_le_mul_left:=@Nat.mul_le_mul_left
theorem i7:type_of% @Int.neg_mul:=@Int.neg_mul
theorem i8:type_of% @Int.natCast_pow:=by simp_all
theorem i9:type_of% @Nat.le_add_right:=by omega
theorem ja:type_of% @Nat.eq_zero_or_pos:=by omega
theorem jb:type_of% @List.map_map:=@List.map_map
theorem jc:type_of% @Nat.pow_pos:=@Nat.pow_pos
theorem jd:type_of% @List.mem_of_mem_drop:=by grind
theorem je:type_of% @Nat.mul_div_cancel_left:=by simp_all
theorem jf:type_of% @Nat.mod_add_div:=@Nat.mod_add_div
theorem jg:type_of% @List.drop_of_length_le:=by simp_all
theorem jh:type_of% @Int.one_mul:=@Int.one_mul
theorem ji:type_of% @Int.mul_assoc:=@Int.mul_assoc
theorem jj:type_of% @Int.mul_add:=@Int.mul_add
theorem jk:type_of% @cond_true:=@cond_true
theorem jl:type_of% @List.getD_eq_getElem?_getD:=by simp_all
theorem jm:type_of% @List.filter_append:=by simp_all
theorem jn:type_of% @Array.ext_getElem?:=@Array.ext_getElem?
theorem jo:type_of% @List.singleton_append:=by simp_all
theorem jp:type_of% @List.getElem?_toArray:=by simp_all
theorem jq:type_of% @Nat.div_le_self:=@Nat.div_le_self
theorem jr:type_of% @Nat.pow_zero:=@Nat.pow_zero
theorem js:type_of% @List.drop_zero:=by simp_all
theorem jt:type_of% @List.filter_cons_of_pos:=by simp_all
theorem ju:type_of% @List.filter_cons_of_neg:=by simp_all
theorem jv:type_of% @Int.natAbs_mul:=@Int.natAbs_mul
theorem jw:type_of% @Bool.not_eq_true:=by simp_all
theorem jx:type_of% @Nat.pow_add:=@Nat.pow_add
theorem jy:type_of% @Nat.blt_eq:=@Nat.blt_eq
theorem jz:type_of% @Nat.beq_eq:=@Nat.beq_eq
theorem j6:type_of% @Int.mul_zero:=@Int.mul_zero
theorem j7:type_of% @or_false:=@or_false
theorem j8:type_of% @List.find?_cons:=by grind
theorem j9:type_of% @List.take_add_one:=@List.take_add_one
theorem ka:type_of% @List.getElem_take:=by simp_all
theorem kb:type_of% @Go.bodyPost_ret:=@Go.bodyPost_ret
theorem kc:type_of% @List.getElem?_append_right:=by grind
theorem kd:type_of% @List.countP_cons:=by grind
theorem ke:type_of% @Nat.add_mul_mod_self_left:=by simp_all
theorem kg:type_of% @Prod.mk.injEq:=@Prod.mk.injEq
theorem kh:type_of% @List.getElem_append_left:=by simp_all
theorem ki:type_of% @Bool.eq_iff_iff:=by simp_all
theorem kj:type_of% @List.mem_replicate:=by simp_all
theorem kk:type_of% @BitVec.toNat_ofNat:=by simp_all
theorem km:type_of% @Nat.mul_one:=@Nat.mul_one
theorem ko:type_of% @Int.add_mul:=@Int.add_mul
theorem kp:type_of% @List.range_succ:=@List.range_succ
theorem kq:type_of% @List.findIdx?_eq_some_iff_getElem:=@List.findIdx?_eq_some_iff_getElem
theorem kr:type_of% @Nat.mul_left_comm:=by grind
theorem ku:type_of% @List.takeWhile_sublist:=by grind
theorem kv:type_of% @List.nodup_append:=by grind
theorem kx:type_of% @List.getElem_drop:=by simp_all
theorem ky:type_of% @List.getElem_cons_succ:=by simp_all
theorem kz:type_of% @List.any_eq_false:=by simp_all
theorem lg:type_of% @List.Sublist.refl:=by simp_all
theorem li:type_of% @Int.mul_left_comm:=by grind
theorem Z{p:Prop}(h:p:=by omega):p:=h
theorem V{p:Prop}(h:p:=by kernel_rfl):p:=h
theorem H{p:Prop}(h:p:=by decide):p:=h
abbrev W:=true
theorem ξ{p:Prop}(h:p:=by rfl):p:=h
theorem χ{p:Prop}(h:p:=by decide +kernel):p:=h
theorem Y{α:Sort _}{a:α}:a=a:=Eq.refl a
namespace Go.Lin
def sm:Nat->(Nat->Int)->Int
 | 0,_=>0
 | n+1,f=>sm n f+f n
theorem Bt{n:Nat}{f g:Nat->Int}(h:∀i,i<n->f i=g i):sm n f=sm n g:=by
 induction n<;>grind [sm]
theorem Q9(n:Nat):sm n (λ_=>0)=0:=by
 induction n<;>grind [sm]
theorem QE(n:Nat)(f g:Nat->Int):sm n (λi=>f i+g i)=sm n f+sm n g:=by
 induction n<;>grind [sm]
theorem Acn(n:Nat)(f g:Nat->Int):sm n (λi=>f i-g i)=sm n f-sm n g:=by
 induction n<;>grind [sm]
theorem Hh(n:Nat)(c:Int)(f:Nat->Int):sm n (λi=>c*f i)=c*sm n f:=by
 induction n<;>grind [sm,jj]
theorem NJ(n:Nat)(c:Int)(f:Nat->Int):sm n (λi=>f i*c)=sm n f*c:=by grind [e9,Hh,Bt]
theorem QS(m n:Nat)(f:Nat->Nat->Int):sm m (λi=>sm n (f i))=sm n (λj=>sm m (λi=>f i j)):=by
 induction m<;>simp_all [sm,Q9,QE]
theorem Lo(n:Nat)(k:Nat)(f:Nat->Int)(c:k<n)(h:∀i,i<n->i≠k->f i=0):sm n f=f k:=by
 induction n with
 | zero=>omega
 | succ n ih=>
  unfold sm;by_cases e:k=n
  .subst e;have:sm k f=sm k λ_=>0:=Bt λi b=>h i Z Z;rw[this,Q9];omega
  grind
theorem Uo(n:Nat)(k:Nat)(f:Nat->Int)(b:k<n):sm n (λi=>if i=k then f i else 0)=f k:=by grind [Lo]
theorem Ac7(m n:Nat)(f:Nat->Int):sm (m+n) f=sm m f+sm n (λi=>f (m+i)):=by
 induction n<;>grind [sm]
theorem Oh{n:Nat}{f:Nat->Int}(h:∀i,i<n->f i=0):sm n f=0:=by rw[Bt (g:=λ_=>0) h,Q9]
variable {c r i j:Nat} {f:Nat->Nat->Int}
def DC(n:Nat)(f:Nat->Int):List Int:=(range n).map f
def Eb(r c:Nat)(f:Nat->Nat->Int):List Int:=(range (r*c)).map λk=>f (k/c) (k%c)
theorem Cc(n:Nat)(f:Nat->Int):(DC n f).length=n:=by simp[DC]
theorem Ci(r c:Nat)(f:Nat->Nat->Int):(Eb r c f).length=r*c:=by simp[Eb]
theorem Om(a:i<r)(b:j<c):i*c+j<r*c:=by have:(i+1)*c<=r*c:=eh c a;grind
theorem WV(a:j<c):(i*c+j)/c=i:=by rw[ei,Nat.mul_add_div Z,gc a,gz]
theorem WU(a:j<c):(i*c+j)%c=j:=by rw[ei,Nat.mul_add_mod,dv a]
theorem AeN{n:Nat}{f:Nat->Int}(a:j<n):(DC n f)[j]'(by rw[Cc];exact a)=f j:=by simp[DC]
theorem AdT(b:i<r)(a:j<c):(Eb r c f)[i*c+j]'(by rw[Ci];exact Om b a)=f i j:=by simp[Eb,WV a,WU a]
theorem Pn{n:Nat}{f g:Nat->Int}(h:∀j,j<n->f j=g j):DC n f=DC n g:=by grind [DC,fg,b6]
theorem SF{k:Nat}(h:k<r*c):k/c<r/\k%c<c:=by
 have a:0<c:=Nat.pos_of_ne_zero λb=>by subst b;simp at h
 simp_all [Nat.div_lt_iff_lt_mul,f6]
theorem C7{g:Nat->Nat->Int}(h:∀i,i<r->∀j,j<c->f i j=g i j):Eb r c f=Eb r c g:=by grind [Eb,fg,SF,b6]
def QI(f:Nat->Nat->Int)(i j:Nat)(x:Int):Nat->Nat->Int:=λa b=>if a=i/\b=j then x else f a b
theorem Ta(x:Int)(d:j<c):(Eb r c f).set (i*c+j) x=Eb r c (QI f i j x):=by
 refine gg (by simp[Ci]) λk g b=>?_;have h:k<r*c:=by rw[Ci]at b;exact b
 have e:k/c*c+k%c=k:=by rw[ei];exact Nat.div_add_mod k c
 grind [Eb,QI,WV,WU]
theorem SV(r c:Nat):replicate (r*c) (0:Int)=Eb r c λ_ _=>0:=by unfold Eb;rw[List.map_const',ik]
theorem AdK(b:i<r):((Eb r c f).drop (i*c)).take c=DC c (f i):=by have d:(i+1)*c<=r*c:=eh c b;rw[dq,gn]at d;refine gg (by simp[Ci,Cc];omega) λk g a=>?_;grind [Cc,Om,DC,Eb,WV,WU]
end Go.Lin
namespace Go.Kuhn
theorem nodup_le{α:Type}[DecidableEq α]:∀(l b:List α),l.Nodup->(∀x∈l,x∈b)->l.length<=b.length
 | [],b,_,_=>by simp
 | a::l,b,hn,h=>by
  have c:a∈b:=h a σ
  have f:∀x∈l,x∈b.erase a:=λx d=>by have:x≠a:=λe=>(gt.1 hn).1 (e ▸ d);exact(List.mem_erase_of_ne this).2 (h x (by simp[d]))
  have:=nodup_le l (b.erase a) (gt.1 hn).2 f;grind
end Go.Kuhn
namespace Go.Lin
def skip(j0 j:Nat):Nat:=if j<j0 then j else j+1
def Io(n:Nat)(b:Nat->Bool):List Nat:=(range n).filter b
def PR(n:Nat)(D:Nat->Nat->Int)(x:Nat->Int)(i:Nat):Int:=sm n λk=>D i k*x k
section
variable {p:Int} {n:Nat} {D:Nat->Nat->Int} {dm:Nat->Int} {pos pos':Nat->Nat} {v v':Nat->Nat->Int} {low low':Nat->Option Nat}
def prs(dm:Nat->Int)(low:Nat->Option Nat)(d:Int)(j:Nat):Bool:=decide (dm j=d)&&(low j).isSome
end
end Go.Lin
namespace Go.Eng
open Go.RowKit
abbrev Hp:=Nat->Option Obj
abbrev AG:=List (Nat×Value)
def Hp.le(h h':Hp):Prop:=∀g o,h g=some o->h' g=some o
def Hp.inW(h:Hp)(w:World):Prop:=∀g o,h g=some o->w.heap[g]?=some o
def Hp.emp:Hp:=λ_=>none
def Hp.one(g:Nat)(o:Obj):Hp:=λk=>if k=g then some o else none
def Hp.disj(m m':Hp):Prop:=∀g,m g=none\/m' g=none
def Hp.join(h m:Hp):Hp:=λg=>match h g with|some o=>some o|none=>m g
theorem Hp.le_refl(h:Hp):h.le h:=λ_ _ e=>e
theorem Hp.le_trans{a b c:Hp}(h:a.le b)(k:b.le c):a.le c:=λg o e=>k g o (h g o e)
theorem Hp.le_join(h m:Hp):h.le (h.join m):=λg o e=>by simp[Hp.join,e]
theorem Hp.join_le_right{h m:Hp}(d:m.disj h):m.le (h.join m):=λg o e=>by
 rcases d g with a|a
 all_goals grind [Hp.join]
theorem Hp.disj_symm{m a:Hp}(h:m.disj a):a.disj m:=λg=>(h g).symm
theorem Hp.one_self(g:Nat)(o:Obj):Hp.one g o g=some o:=by simp[Hp.one]
theorem Hp.one_some{g k:Nat}{o a:Obj}(h:Hp.one g o k=some a):k=g/\a=o:=by
 grind [Hp.one]
theorem Hp.one_ne{g k:Nat}{o:Obj}(h:k≠g):Hp.one g o k=none:=by simp[Hp.one,h]
theorem Hp.inW_lt{h:Hp}{w:World}(a:h.inW w){g:Nat}{o:Obj}(e:h g=some o):g<w.heap.size:=
 (cj.1 (a g o e)).1
theorem Hp.inW_none{h:Hp}{w:World}(a:h.inW w){g:Nat}(e:w.heap.size<=g):h g=none:=by
 cases hg:h g with
 | none=>rfl
 | some o=>have:=Hp.inW_lt a hg;omega
theorem Hp.ne_none{h:Hp}{g:Nat}(e:h g≠none):∃o,h g=some o:=by
 cases hg:h g with
 | none=>simp_all
 | some o=>simp_all
structure St(w:World)(h:Hp)(ms:List Hp):Prop where
 imm:h.inW w
 own:∀m∈ms,m.inW w
 off:∀m∈ms,m.disj h
 apart:ms.Pairwise Hp.disj
structure TL(w0 w:World):Prop where
 tape:w.tape=w0.tape
 drawn:w0.drawn<=w.drawn
theorem TL.refl(w:World):TL w w:=⟨rfl,ak _⟩
theorem TL.trans{a b c:World}(h:TL b c)(k:TL a b):TL a c:=⟨h.tape.trans k.tape,bl k.drawn h.drawn⟩
structure Ext(w w':World):Prop where
 os:w'.os=w.os
 tape:TL w w'
 output:w'.output=w.output
 size:w.heap.size<=w'.heap.size
 block:∀k,k<w.heap.size->w'.heap[k]?=w.heap[k]?
theorem Ext.refl(w:World):Ext w w:=⟨rfl,TL.refl w,rfl,ak _,λ_ _=>rfl⟩
theorem Ext.drew(w:World):Ext w w.drew:=⟨rfl,⟨rfl,Nat.le_succ _⟩,rfl,ak _,λ_ _=>rfl⟩
theorem Ext.alloc(w:World)(o:Obj):Ext w (w.alloc o):=
 let b:=(Below.refl w.heap.size w).alloc (ak _) o
 ⟨b.os,⟨b.tape,ak _⟩,b.output,b.size,b.block⟩
structure Ends(w0:World)(h0:Hp)(ms0:List Hp)(w:World)(h:Hp)(ms:List Hp):Prop where
 st:St w h ms
 os:w.os=w0.os
 tape:TL w0 w
 output:w.output=w0.output
 size:w0.heap.size<=w.heap.size
 block:∀k,k<w0.heap.size->(∀m∈ms0,m k=none)->w.heap[k]?=w0.heap[k]?
 le:h0.le h
 hnew:∀k,k<w0.heap.size->(∀m∈ms0,m k=none)->h k=h0 k
 mnew:∀m∈ms,∀k,k<w0.heap.size->m k≠none->∃m0∈ms0,m0 k≠none
theorem Ends.refl{w:World}{h:Hp}{a:List Hp}(s:St w h a):Ends w h a w h a:=
 ⟨s,rfl,TL.refl _,rfl,ak _,λ_ _ _=>rfl,Hp.le_refl _,λ_ _ _=>rfl,λm b _ _ e=>⟨m,b,e⟩⟩
theorem St.frame_off{w:World}{h:Hp}{pre c:List Hp}(s:St w h (pre++c)):∀m∈c,∀b∈pre,b.disj m:=
 λm d b a=>(f9.1 s.apart).2.2 b a m d
theorem St.pre{w:World}{h:Hp}{pre b:List Hp}(s:St w h (pre++b)):St w h pre:=
 ⟨s.imm,λm a=>s.own m (eg _ a),λm a=>s.off m (eg _ a),(f9.1 s.apart).1⟩
theorem Ends.call{v w z:World}{y h x:Hp}{l pre d fr:List Hp}(K:Ends v y l w h (pre++fr))(C:Ends w h pre z x d):Ends v y l z x (d++fr):=by
 have f:∀m∈fr,∀k,m k≠none->k<w.heap.size:=λm a k b=>by obtain⟨o,A⟩:=Hp.ne_none b;exact Hp.inW_lt (K.st.own m<|ej _ a) A
 have j:∀m∈fr,∀k,m k≠none->∀n∈pre,n k=none:=λm a k b n g=>by
  rcases K.st.frame_off m a n g k with e|e
  all_goals simp_all
 have c:∀k,k<v.heap.size->(∀m∈l,m k=none)->∀m∈pre,m k=none:=λk b a m t=>by
  cases e:m k with
  | none=>rfl
  | some o=>
   obtain⟨u,i,r⟩:=K.mnew m (eg _ t) k b (by rw[e];simp);simp_all
 refine⟨⟨C.st.imm,?_,?_,?_⟩,C.os.trans K.os,C.tape.trans K.tape,C.output.trans K.output,bl K.size C.size,?_,Hp.le_trans K.le C.le,?_,?_⟩
 .intro m a;rcases bi.1 a with a|a
  .exact C.st.own m a
  .intro k o e;rw[C.block k (f m a k (by rw[e];simp)) (j m a k (by rw[e];simp))];exact K.st.own m (ej _ a) k o e
 .intro m a;rcases bi.1 a with a|a
  .exact C.st.off m a
  .intro k;cases e:m k with
   | none=>simp_all
   | some o=>
    have b:m k≠none:=by rw[e];simp
    right
    rw[C.hnew k (f m a k b) (j m a k b)];rcases K.st.off m (ej _ a) k with p|p
    all_goals simp_all
 .refine f9.2 ⟨C.st.apart,(f9.1 K.st.apart).2.1,λn g m a k=>?_⟩;cases e:m k with
  | none=>simp_all
  | some o=>
   have b:m k≠none:=by rw[e];simp
   cases e':n k with
   | none=>simp_all
   | some o'=>
    obtain⟨u,i,r⟩:=C.mnew n g k (f m a k b) (by rw[e'];simp);exact lj (j m a k b u i) r
 .intro k b a;rw[C.block k (b7 b K.size) (c k b a)];exact K.block k b a
 .intro k b a;rw[C.hnew k (b7 b K.size) (c k b a)];exact K.hnew k b a
 .intro m a k b e;rcases bi.1 a with a|a
  .obtain⟨B,s,p⟩:=C.mnew m a k (b7 b K.size) e;grind
  .exact K.mnew m (ej _ a) k b e
theorem Hp.inW_ext{h:Hp}{w c:World}(b:h.inW w)(e:Ext w c):h.inW c:=λg o a=>by rw[e.block g (Hp.inW_lt b a)];exact b g o a
theorem St.ext{w b:World}{h:Hp}{a:List Hp}(s:St w h a)(e:Ext w b):St b h a:=
 ⟨Hp.inW_ext s.imm e,λm c=>Hp.inW_ext (s.own m c) e,s.off,s.apart⟩
theorem Ends.ext{g w f:World}{b h:Hp}{a d:List Hp}(j:Ends g b a w h d)(e:Ext w f):Ends g b a f h d:=
 ⟨j.st.ext e,e.os.trans j.os,e.tape.trans j.tape,e.output.trans j.output,bl j.size e.size,
  λk c i=>(e.block k (b7 c j.size)).trans (j.block k c i),j.le,j.hnew,j.mnew⟩
theorem Ends.drew{d w:World}{b h:Hp}{a c:List Hp}(e:Ends d b a w h c):Ends d b a w.drew h c:=
 e.ext (Ext.drew _)
theorem Ends.alloc{i w:World}{f h:Hp}{d g:List Hp}(l:Ends i f d w h g)(o:Obj):Ends i f d (w.alloc o) h (Hp.one w.heap.size o::g):=by
 have b:=l.ext (Ext.alloc w o);refine⟨⟨b.st.imm,?_,?_,?_⟩,b.os,b.tape,b.output,b.size,b.block,b.le,b.hnew,?_⟩
 .intro m a;rcases be.1 a with rfl|a
  .intro k j e;grind [Hp.one_some,heap_alloc_new]
  .exact b.st.own m a
 .intro m a;rcases be.1 a with rfl|a
  .intro k;by_cases c:k=w.heap.size
   .exact .inr<|Hp.inW_none l.st.imm Z
   grind [Hp.one_ne]
  .exact b.st.off m a
 .refine cg.2 ⟨λm a k=>?_,b.st.apart⟩;by_cases c:k=w.heap.size
  .exact .inr<|Hp.inW_none (l.st.own m a) Z
  grind [Hp.one_ne]
 .intro m a k c e;rcases be.1 a with rfl|a
  .exact lj (Hp.one_ne (o:=o) (show k≠w.heap.size by have:=l.size;omega)) e
  .exact b.mnew m a k c e
theorem Ends.freeze{n w:World}{g h:Hp}{c l:List Hp}{m:Hp}(y:Ends n g c w h (m::l)):Ends n g c w (h.join m) l:=by
 have v:m.disj h:=y.st.off m (ao);refine⟨⟨?_,λb a=>y.st.own b (am _ a),?_,(cg.1 y.st.apart).2⟩,y.os,y.tape,y.output,y.size,y.block,Hp.le_trans y.le (Hp.le_join _ _),?_,λb a=>y.mnew b (am _ a)⟩
 .intro k o e;unfold Hp.join at e;split at e
  .rename_i x p;cases e;exact y.st.imm k _ p
  .exact y.st.own m (ao) k o e
 .intro b a k;rcases (cg.1 y.st.apart).1 b a k with e|e
  .rcases y.st.off b (am _ a) k with d|d
   .exact .inl d
   .right;simp[Hp.join,d,e]
  simp_all
 .intro k i j;have s:=y.hnew k i j
  have t:m k=none:=by
   cases e:m k with
   | none=>rfl
   | some o=>
    obtain⟨u,f,r⟩:=y.mnew m (ao) k i (by rw[e];simp);exact lj (j u f) r
  grind [Hp.join]
theorem Ends.drop{f w:World}{d h:Hp}{c e:List Hp}{m:Hp}(g:Ends f d c w h (m::e)):Ends f d c w h e:=
 ⟨⟨g.st.imm,λb a=>g.st.own b (am _ a),λb a=>g.st.off b (am _ a),(cg.1 g.st.apart).2⟩,
  g.os,g.tape,g.output,g.size,g.block,g.le,g.hnew,λb a=>g.mnew b (am _ a)⟩
theorem Ends.perm{e w:World}{c h:Hp}{b d ms':List Hp}(f:Ends e c b w h d)(p:d.Perm ms'):Ends e c b w h ms':=
 ⟨⟨f.st.imm,λm a=>f.st.own m (p.mem_iff.2 a),λm a=>f.st.off m (p.mem_iff.2 a),(p.pairwise_iff (λh=>Hp.disj_symm h)).1 f.st.apart⟩,
  f.os,f.tape,f.output,f.size,f.block,f.le,f.hnew,λm a=>f.mnew m (p.mem_iff.2 a)⟩
theorem Ends.change{B w n:World}{z h:Hp}{u y:List Hp}{g:Nat}{o A:Obj}(P:Ends B z u w h (Hp.one g o::y))
  (x:n.os=w.os) (l:TL w n) (t:n.output=w.output) (j:w.heap.size<=n.heap.size)
  (L:n.heap[g]?=some A) (b:∀k,k<w.heap.size->k≠g->n.heap[k]?=w.heap[k]?):Ends B z u n h (Hp.one g A::y):=by
 have M:w.heap[g]?=some o:=P.st.own _ (ao) g o (Hp.one_self g o)
 have i:∀m∈y,∀k o1,m k=some o1->k≠g:=λm a k o1 e p=>by
  subst p;rcases (cg.1 P.st.apart).1 m a k with d|d
  all_goals grind [Hp.one_self]
 have r:h g=none:=by
  rcases P.st.off _ (ao) g with d|d
  .grind [Hp.one_self]
  .exact d
 refine⟨⟨?_,?_,?_,?_⟩,x.trans P.os,l.trans P.tape,t.trans P.output,bl P.size j,?_,P.le,P.hnew,?_⟩
 .intro k o1 e;rw[b k (Hp.inW_lt P.st.imm e) (λp=>by simp_all)];exact P.st.imm k o1 e
 .intro m a;rcases be.1 a with rfl|a
  .intro k o1 e;grind [Hp.one_some]
  .intro k o1 e;have s:=P.st.own m (am _ a);rw[b k (Hp.inW_lt s e) (i m a k o1 e)];exact s k o1 e
 .intro m a;rcases be.1 a with rfl|a
  .intro k;grind [Hp.one_ne]
  .exact P.st.off m<|am _ a
 .refine cg.2 ⟨λm a k=>?_,(cg.1 P.st.apart).2⟩;by_cases c:k=g
  .right
   cases e:m k with
   | none=>rfl
   | some o1=>exact lj c<|i m a k o1 e
  grind [Hp.one_ne]
 .intro k c a
  have f:k≠g:=λp=>by subst p;obtain⟨O,v,K⟩:=P.mnew _ (ao) k c (by rw[Hp.one_self];simp);simp_all
  rw[b k (b7 c P.size) f];exact P.block k c a
 .intro m a k c e;rcases be.1 a with rfl|a
  .by_cases f:k=g
   .subst f;exact P.mnew _ (ao) k c (by rw[Hp.one_self];simp)
   grind [Hp.one_ne]
  .exact P.mnew m (am _ a) k c e
variable {n id t d j dj:Nat} {P:Program} {post:Value->Hp->List Hp->Prop} {a:Act} {y x c:Code} {ds:List Nat} {b:Bool} {v:Value} {fn:Func} {oj:Oper} {l:List Oper} {w0:World} {h0:Hp} {ms0 ms':List Hp} {K:Act->World->Prop} {f:FuncId}
def lk:AG->Nat->Option Value
 | [],_=>none
 | (i,v)::s,j=>match Nat.beq i j with|true=>some v|false=>lk s j
theorem BM(d:Nat)(v:Value)(s:AG):lk ((d,v)::s) d=some v:=by grind [Nat.beq,Nat.beq_refl,lk]
theorem BR{i:Nat}(v:Value)(s:AG)(h:d≠i):lk ((d,v)::s) i=lk s i:=by
 grind [Nat.beq,Nat.eq_of_beq_eq_true,lk]
def ev(s:AG):Operand->Option Value
 | .tmp t=>lk s t
 | .const v=>some v
 | .global g=>some (.pt g)
 | .func f=>some (.func (.func f) #[] #[])
def Vg(s:AG):List Operand->Option (List Value)
 | []=>some []
 | x::l=>match ev s x with
  | none=>none
  | some v=>match Vg s l with
   | none=>none
   | some vs=>some (v::vs)
def evp(s:AG):List (Nat×Operand)->Option (List (Nat×Value))
 | []=>some []
 | x::l=>match ev s x.2 with
  | none=>none
  | some v=>match evp s l with
   | none=>none
   | some vs=>some ((x.1,v)::vs)
abbrev mkD(ds:List Nat):List Deferred:=ds.map λD=>{ target:=.collected D,args:=#[] }
structure Has(n:Nat)(ds:List Nat)(a:Act)(s:AG):Prop where
 defers:a.defers=mkD ds
 size:a.tmps.size=n
 slots:∀i v,lk s i=some v->a.tmps[i]?=some v
theorem Has.eval{s:AG}(e:Has n ds a s)(x:Operand)(v:Value)(h:ev s x=some v):a.eval x=v:=by
 cases x with
 | tmp t=>
  have:=e.slots t v h;simp_all [Act.eval,bo]
 | const u=>cases h;rfl
 | global g=>cases h;rfl
 | func f=>cases h;rfl
theorem Has.put{s:AG}(k:Has n ds a s)(g:d<n)(v:Value):Has n ds (a.put (some d) v) ((d,v)::s):=by
 refine⟨k.defers,by simp[Act.put,k.size],λi u h=>?_⟩;by_cases e:d=i
 .subst e;rw[BM]at h;cases h;simp[Act.put,k.size,g]
 .rw[BR _ _ e]at h;simp[Act.put,ft e,k.slots i u h]
theorem Has.put_none{s:AG}(e:Has n ds a s)(v:Value):Has n ds (a.put none v) s:=⟨e.defers,e.size,e.slots⟩
def Sub:AG->AG->Prop
 | [],_=>True
 | (i,v)::r,s=>lk s i=some v/\Sub r s
theorem Sub.lk{g s:AG}(h:Sub g s):∀i v,Eng.lk g i=some v->Eng.lk s i=some v:=by
 induction g with
 | nil=>intro i v e;cases e
 | cons p r ih=>
  obtain⟨j,u⟩:=p;intro i v e;by_cases k:j=i
  .subst k;rw[BM]at e;cases e;exact h.1
  .rw[BR _ _ k]at e;exact ih h.2 i v e
theorem Has.sub{s g:AG}(k:Has n ds a s)(h:Sub g s):Has n ds a g:=
 ⟨k.defers,k.size,λi v e=>k.slots i v (h.lk i v e)⟩
structure Entry where
 P:Program
 w0:World
 h0:Hp
 ms0:List Hp
 n:Nat
 ds:List Nat
abbrev Entry.Ends(e:Entry)(w:World)(h:Hp)(ms:List Hp):Prop:=Eng.Ends e.w0 e.h0 e.ms0 w h ms
def WS(e:Entry)(c:Code)(Q:Exit->Act->World->Prop)(s:AG)(h:Hp)(ms:List Hp):Prop:=
 ∀a w,Has e.n e.ds a s->e.Ends w h ms->c.wp e.P Q a w
def WL(e:Entry)(ops:Array Oper)(Q:Exit->Act->World->Prop)(l:List Oper)(s:AG)(h:Hp)(ms:List Hp):Prop:=
 ∀a w,Has e.n e.ds a s->e.Ends w h ms->wpList e.P ops Q l a w
def NX(e:Entry)(Q:Exit->Act->World->Prop)(x:Exit)(s:AG)(h:Hp)(ms:List Hp):Prop:=
 ∀a w,Has e.n e.ds a s->e.Ends w h ms->Q x a w
def Inv(e:Entry)(I:AG->Hp->List Hp->Prop)(a:Act)(w:World):Prop:=∃s h ms,I s h ms/\Has e.n e.ds a s/\e.Ends w h ms
section rules
variable {e:Entry} {Q:Exit->Act->World->Prop} {s s':AG} {h:Hp} {ms:List Hp} {ops:Array Oper}
theorem AiE(i:Sub s' s)(k:WL e ops Q l s' h ms):WL e ops Q l s h ms:=λa w g m=>k a w (g.sub i) m
theorem Lf{m:Hp}(k:WS e c Q s h ms):WS e c Q s h (m::ms):=λa w g i=>k a w g (Ends.drop i)
theorem Sc(p:ms.Perm ms')(k:WS e c Q s h ms'):WS e c Q s h ms:=λa w g i=>k a w g (Ends.perm i p)
theorem AU{x:Exit}{m:Hp}(k:NX e Q x s h ms):NX e Q x s h (m::ms):=λa w g i=>k a w g (Ends.drop i)
theorem Jf{x:Exit}(p:ms.Perm ms')(k:NX e Q x s h ms'):NX e Q x s h ms:=λa w g i=>k a w g (Ends.perm i p)
theorem Ad(k:WL e l.toArray Q l s h ms):WS e (.region id l.toArray false) Q s h ms:=
 λa w g i=>wp_region_lit (k a w g i)
theorem Am(k:NX e Q .normal s h ms):WL e ops Q [] s h ms:=λa w g i=>k a w g i
theorem Ac(k:WS e x (Exit.then (λa w=>y.wp e.P Q a w) Q) s h ms):WS e (.seq x y) Q s h ms:=
 λa w g i=>wp_seq (k a w g i)
theorem X:type_of% @Ac:=@Ac
theorem Ag(k:WS e c (Exit.inBlock id Q) s h ms):WS e (.block id c) Q s h ms:=
 λa w g i=>wp_block (k a w g i)
theorem Az(k:NX e Q (.exit id) s h ms):WS e (.exit id) Q s h ms:=λa w g i=>wp_exit (k a w g i)
theorem Aj(k:NX e Q .ret s h ms):WS e .ret Q s h ms:=λa w g i=>wp_ret (k a w g i)
theorem Ah(k:NX e Q .normal s h ms):WS e .skip Q s h ms:=λa w g i=>wp_skip (k a w g i)
theorem Ab(k:WS e y Q s h ms):NX e (Exit.then (λa w=>y.wp e.P Q a w) Q) .normal s h ms:=λa w g i=>k a w g i
theorem Aa(k:NX e Q (.exit id) s h ms):NX e (Exit.then K Q) (.exit id) s h ms:=λa w g i=>k a w g i
theorem Ae(k:NX e Q .ret s h ms):NX e (Exit.then K Q) .ret s h ms:=λa w g i=>k a w g i
theorem Ai(k:NX e Q .normal s h ms):NX e (Exit.inBlock id Q) .normal s h ms:=λa w g i=>k a w g i
theorem An(k:NX e Q .ret s h ms):NX e (Exit.inBlock id Q) .ret s h ms:=λa w g i=>k a w g i
theorem Af(k:NX e Q .normal s h ms):NX e (Exit.inBlock id Q) (.exit id) s h ms:=λa w g i=>by simp only[Exit.inBlock,if_true];exact k a w g i
theorem SD{g:Nat}(i:Nat.beq g id=false)(k:NX e Q (.exit g) s h ms):NX e (Exit.inBlock id Q) (.exit g) s h ms:=λa w m r=>by
 have:g≠id:=λp=>by simp_all
 simp only[Exit.inBlock,this,if_false];exact k a w m r
theorem A4(i:lk s t=some (.bool true))(k:WS e x Q s h ms):WS e (.cond (.tmp t) x y) Q s h ms:=
 λa w g m=>wp_cond_true (g.eval (.tmp t) _ i) (k a w g m)
theorem AM(i:lk s t=some (.bool false))(k:WS e y Q s h ms):WS e (.cond (.tmp t) x y) Q s h ms:=
 λa w g m=>wp_cond_false (g.eval (.tmp t) _ i) (k a w g m)
theorem B1(m:lk s t=some (.bool b))(r:b=true->WS e x Q s h ms)(p:b=false->WS e y Q s h ms) :
  WS e (.cond (.tmp t) x y) Q s h ms:=
 λa w g k=>wp_cond_split (g.eval (.tmp t) _ m) (λi=>r i a w g k) (λi=>p i a w g k)
theorem Ay{p:Prop}{_:Decidable p}(i:lk s t=some (.bool (decide p)))(m:p->WS e x Q s h ms)(k:¬p->WS e y Q s h ms) :
  WS e (.cond (.tmp t) x y) Q s h ms:=by grind [B1,of_decide_eq_false]
theorem AC(I:Nat->AG->Hp->List Hp->Prop)(n:Nat)(s':AG)(M:I n s' h ms)(hs:Sub s' s)
  (p:∀n s h ms,I n s h ms->WS e c (Exit.then (λa w=>∃B,B<n/\Inv e (I B) a w) Q) s h ms):WS e (.loop c) Q s h ms:=by
 intro a w O T b k cs
 have key:∀n a w,Inv e (I n) a w->∃x A L,Q x A L/\Arrives e.P (lone (b.at a (.code c::.inLoop c::k)) cs w) b k cs x A L:=by
  intro n
  induction n using Nat.strongRecOn with
  | _ n ih=>
   intro a w ⟨s,h,ms,M,O,T⟩;obtain⟨x,r,u,i,g⟩:=p n s h ms M a w O T b (.inLoop c::k) cs;cases x with
   | normal=>
    obtain⟨B,R,z⟩:=i;obtain⟨x₂,a₂,w₂,S,m⟩:=ih B R r u z;exact⟨x₂,a₂,w₂,S,.of_steps (Steps.trans g (.one step_inLoop)) m⟩
   | exit id=>exact⟨_,r,u,i,.pass (x:=.inLoop c) Y (λ_ _=>.inl σ) g⟩
   | goto l=>exact⟨_,r,u,i,.pass (x:=.inLoop c) Y (λ_ _=>.inl σ) g⟩
   | ret=>exact⟨_,r,u,i,.pass (x:=.inLoop c) Y (λ_ _=>.inl σ) g⟩
   | panic ch=>exact⟨_,r,u,i,.pass (x:=.inLoop c) Y (λ_ _=>.inl σ) g⟩
   | outgrown=>exact⟨_,r,u,i,.pass (x:=.inLoop c) Y (λ_ _=>.inl σ) g⟩
 obtain⟨x,A,L,i,g⟩:=key n a w ⟨s',h,ms,M,O.sub hs,T⟩;exact⟨x,A,L,i,.of_steps (.one step_loop) g⟩
theorem Aq{I:Nat->AG->Hp->List Hp->Prop}(g:Nat)(s':AG)(i:g<n)(k:I g s' h ms)(p:Sub s' s) :
  NX e (Exit.then (λa w=>∃g,g<n/\Inv e (I g) a w) Q) .normal s h ms:=
 λ_ _ m r=>⟨g,i,s',h,ms,k,m.sub p,r⟩
theorem Bu(I:AG->Hp->List Hp->Prop)(k:WS e x (Exit.then (Inv e I) Q) s h ms)(p:∀s h ms,I s h ms->WS e y Q s h ms) :
  WS e (.seq x y) Q s h ms:=
 λa w g i=>wp_seq (Code.wp_mono (λx a w q=>by
  cases x with
  | normal=>obtain⟨s,h,ms,m,g,i⟩:=q;exact p s h ms m a w g i
  | _=>exact q) (k a w g i))
theorem AI{I:AG->Hp->List Hp->Prop}(s':AG)(g:I s' h ms)(k:Sub s' s):NX e (Exit.then (Inv e I) Q) .normal s h ms:=
 λ_ _ i m=>⟨s',h,ms,g,i.sub k,m⟩
end rules
def RP(w0:World)(h0:Hp)(ms0:List Hp)(post:Value->Hp->List Hp->Prop):Ending->World->Prop:=
 λx w'=>∃r h' ms',x=.returned r/\Ends w0 h0 ms0 w' h' ms'/\post r h' ms'
def FnT(P:Program)(f:FuncId)(args:Array Value)(h:Hp)(ms:List Hp)(post:Value->Hp->List Hp->Prop):Prop:=
 ∀w,St w h ms->Calls P f args w (RP w h ms post)
def FnV(P:Program)(f:FuncId)(args:Array Value)(h:Hp)(ms:List Hp)(v:Value):Prop:=
 ∀w,St w h ms->Calls P f args w (λx w'=>x=.returned v/\Ext w w')
theorem FnT.mono{g:Array Value}{h:Hp}{m:List Hp}{e:Value->Hp->List Hp->Prop}(k:FnT P f g h m post)
  (z:∀r i ms',post r i ms'->e r i ms'):FnT P f g h m e:=
 λw A=>(k w A).mono λ_ _ ⟨r,i,ms',p,s,u⟩=>⟨r,i,ms',p,s,z _ _ _ u⟩
theorem Ends.toExt{w e:World}{h g:Hp}(m:Ends w h [] e g ms'):Ext w e:=
 ⟨m.os,m.tape,m.output,m.size,λk i=>m.block k i σ⟩
theorem FnT.toV{e:Array Value}{h:Hp}(k:FnT P f e h [] (λr _ _=>r=v)):FnV P f e h [] v:=
 λw p=>(k w p).mono λ_ _ ⟨_,_,_,g,i,m⟩=>⟨by rw[g,m],i.toExt⟩
def AW:Nat->List Value->AG
 | _,[]=>[]
 | i,v::l=>(i,v)::AW (i+1) l
theorem YV(l:List Value):∀k i v,lk (AW k l) i=some v->k<=i/\l[i-k]?=some v:=by
 induction l with
 | nil=>intro k i v e;cases e
 | cons x l ih=>
  intro k i v e;by_cases g:k=i
  all_goals grind [AW,BM,BR]
theorem Au{l:List Value}{h:Hp}{g:List Hp}
  (u:P.funcs[f]?=some fn) (L:fn.ntmps=n) (s:fn.body=some c) (A:Nat.ble l.length n=true)
  (k:∀w0,St w0 h g->WS ⟨P,w0,h,g,n,[]⟩ c (bodyPost P fn (RP w0 h g post)) (AW 0 l) h g):FnT P f l.toArray h g post:=by
 intro w r;refine calls_of_wp u s<|k w r _ w ?_<|Ends.refl r;have B:=d5 A;refine⟨Y,by simp[L];omega,λi v e=>?_⟩;obtain⟨_,m⟩:=YV l 0 i v e
 grind
theorem Ar{s:AG}{h:Hp}{e:List Hp}(k:fn.results=#[.tmp t])(m:lk s t=some v)(i:post v h e) :
  NX ⟨P,w0,h0,ms0,n,[]⟩ (bodyPost P fn (RP w0 h0 ms0 post)) .ret s h e:=λa w g p=>
 kb (results_tmp k _ _ _) g.defers ⟨_,h,e,rfl,p,by
  have:=g.eval (.tmp t) v m;grind [Act.eval]⟩
theorem Cw{s:AG}{h:Hp}{i:List Hp}{u:Nat}{k:Value}(z:fn.results=#[.tmp t,.tmp u])(A:lk s t=some v)(g:lk s u=some k)(r:post (.tuple #[v,k]) h i) :
  NX ⟨P,w0,h0,ms0,n,[]⟩ (bodyPost P fn (RP w0 h0 ms0 post)) .ret s h i:=λa w e B=>
 kb (results_tmp2 z _ _ _) e.defers ⟨_,h,i,rfl,B,by
  have m:=e.eval (.tmp t) v A;have p:=e.eval (.tmp u) k g;grind [Act.eval]⟩
theorem CC{s:AG}{h:Hp}{e:List Hp}(k:fn.results=#[])(i:post (.tuple #[]) h e) :
  NX ⟨P,w0,h0,ms0,n,[]⟩ (bodyPost P fn (RP w0 h0 ms0 post)) .normal s h e:=λa w g m=>
 bodyPost_end (results_none k _ _ _) g.defers ⟨_,h,e,rfl,m,i⟩
theorem La{s:AG}{h:Hp}{e:List Hp}(k:fn.results=#[])(i:post (.tuple #[]) h e) :
  NX ⟨P,w0,h0,ms0,n,[]⟩ (bodyPost P fn (RP w0 h0 ms0 post)) .ret s h e:=λa w g m=>
 kb (results_none k _ _ _) g.defers ⟨_,h,e,rfl,m,i⟩
def OpRes(P:Program)(o:Oper)(ρ:Operand->Value)(w:World)(Φ:Value->World->Prop):Prop:=
 match (execOp ρ o).run P w with
 | .ok (.value v) w'=>Φ v w'
 | .ok .skip w'=>Φ undef w'
 | .ok (.enter f args) w'=>Calls P f args w' (λx w''=>∃v,x=.returned v/\Φ v w'')
 | _=>False
theorem OpRes.wp{o:Oper}{w:World}{Φ:Value->World->Prop}{Q:Exit->Act->World->Prop}
  (h:OpRes P o a.eval w Φ) (k:∀v g,Φ v g->K (a.put o.dst v) g):o.wp P a w K Q:=by
 unfold OpRes at h;unfold Oper.wp;generalize (execOp a.eval o).run P w=r at *;cases r with
 | ok x g=>
  cases x<;>simp only at h<;>simp only[Oper.upon]
  case value v=>simp_all
  case skip=>simp_all
  case enter f args=>exact h.mono λx m ⟨v,e,i⟩=>by simp_all
 | halt x g=>simp_all
def Evs(s:AG)(ρ:Operand->Value):Prop:=∀x u,ev s x=some u->ρ x=u
theorem Evs.map{s:AG}{ρ:Operand->Value}(g:Evs s ρ):∀(l:List Operand) (e:List Value),Vg s l=some e->l.map ρ=e
 | [],e,h=>by cases h;rfl
 | x::l,e,h=>by
  unfold Vg at h;cases hx:ev s x with
  | none=>simp_all
  | some v=>
   rw[hx]at h;cases hl:Vg s l with
   | none=>simp_all
   | some us=>rw[hl]at h;cases h;rw[dh,g _ _ hx,g.map l us hl]
theorem Evs.pairs{s:AG}{ρ:Operand->Value}(g:Evs s ρ):∀(l:List (Nat×Operand)) (e:List (Nat×Value)),evp s l=some e->(l.map λ(i,x)=>(i,ρ x))=e
 | [],e,h=>by cases h;rfl
 | x::l,e,h=>by
  unfold evp at h;cases hx:ev s x.2 with
  | none=>simp_all
  | some v=>
   rw[hx]at h;cases hl:evp s l with
   | none=>simp_all
   | some us=>rw[hl]at h;cases h;rw[dh,g.pairs l us hl];simp[g _ _ hx]
def OX(P:Program)(o:Oper)(s:AG)(h:Hp)(ms:List Hp)(v:Value):Prop:=
 ∀ρ w,Evs s ρ->St w h ms->OpRes P o ρ w (λv' w'=>v'=v/\Ext w w')
def OT(e:Entry)(o:Oper)(s:AG)(h:Hp)(ms:List Hp)(post:Value->Hp->List Hp->Prop):Prop:=
 ∀ρ w,Evs s ρ->e.Ends w h ms->OpRes e.P o ρ w (λv w'=>∃h' ms',e.Ends w' h' ms'/\post v h' ms')
section
variable {e:Entry} {Q:Exit->Act->World->Prop} {s:AG} {h:Hp} {ms:List Hp} {ops:Array Oper} {o:Oper} {rest:List Oper}
theorem M3(i:o.guard=none)(k:∀a w,Has e.n e.ds a s->e.Ends w h ms->o.wp e.P a w (wpList e.P ops Q rest) Q):WL e ops Q (o::rest) s h ms:=
 λa w g m=>by grind [wpList,Region.wanted]
theorem Zd(A:OX e.P o s h ms v)(r:o.dst=some d)(z:Nat.blt d e.n=true)(u:o.guard=none)(k:WL e ops Q rest ((d,v)::s) h ms) :
  WL e ops Q (o::rest) s h ms:=
 M3 u λa w g i=>(A a.eval w g.eval i.st).wp λB L ⟨m,p⟩=>by subst m;rw[r];exact k _ _ (g.put (d5 z) _)<|i.ext p
theorem Is(B:OT e o s h ms post)(r:o.dst=some d)(z:Nat.blt d e.n=true)(u:o.guard=none)
  (k:∀v g ms',post v g ms'->WL e ops Q rest ((d,v)::s) g ms'):WL e ops Q (o::rest) s h ms:=
 M3 u λa w i A=>(B a.eval w i.eval A).wp λL M ⟨g,ms',m,p⟩=>by rw[r];exact k _ _ _ p _ _ (i.put (d5 z) _) m
theorem Pj(A:OT e o s h ms post)(r:o.dst=none)(u:o.guard=none)
  (k:∀v g ms',post v g ms'->WL e ops Q rest s g ms'):WL e ops Q (o::rest) s h ms:=
 M3 u λa w i z=>(A a.eval w i.eval z).wp λB L ⟨g,ms',m,p⟩=>by rw[r];exact k _ _ _ p _ _ (i.put_none _) m
theorem Has.yields(g:Has n ds a s)(k:ops[j]?=some oj)(i:oj.dst=some dj)(m:lk s dj=some (.bool b)):yielded ops a.tmps j=some b:=by simp[yielded,k,i,g.slots dj _ m]
theorem Af2(M:OX e.P o s h ms v)(u:o.dst=some d)(B:Nat.blt d e.n=true)(z:o.guard=some (j,b))(A:ops[j]?=some oj)(i:oj.dst=some dj)(L:lk s dj=some (.bool b))
  (k:WL e ops Q rest ((d,v)::s) h ms):WL e ops Q (o::rest) s h ms:=λa w g m=>by
 unfold wpList;rw[ah (by simp[Region.wanted,z,g.yields A i L])]
 exact .inl ((M a.eval w g.eval m.st).wp λO R ⟨p,r⟩=>by
  subst p;rw[u]
  exact k _ _ (g.put (d5 B) _)<|m.ext r)
theorem Aev{m:Bool}(r:o.dst=some d)(A:Nat.blt d e.n=true)(u:o.guard=some (j,b))(z:ops[j]?=some oj)(g:oj.dst=some dj)(B:lk s dj=some (.bool m))(i:(m==b)=false)
  (k:WL e ops Q rest ((d,undef)::s) h ms):WL e ops Q (o::rest) s h ms:=λa w p L=>by
 unfold wpList;rw[af (by simp[Region.wanted,u,p.yields z g B];simp_all),r];exact k _ _ (p.put (d5 A) _) L
theorem Has.yieldsu(g:Has n ds a s)(k:ops[j]?=some oj)(i:oj.dst=some dj)(m:lk s dj=some undef):yielded ops a.tmps j=none:=by simp[yielded,k,i,g.slots dj _ m,undef]
theorem Bh(m:o.dst=some d)(u:Nat.blt d e.n=true)(p:o.guard=some (j,b))(r:ops[j]?=some oj)(g:oj.dst=some dj)(z:lk s dj=some undef)
  (k:WL e ops Q rest ((d,undef)::s) h ms):WL e ops Q (o::rest) s h ms:=λa w i A=>by
 unfold wpList;rw[af (by simp[Region.wanted,p,i.yieldsu r g z]),m];exact k _ _ (i.put (d5 u) _) A
theorem AY{p:Prop}{_:Decidable p}(z:lk s t=some (.bool (decide p)))(B:p->WL e ops Q l ((t,.bool true)::s) h ms)(A:¬p->WL e ops Q l ((t,.bool false)::s) h ms):WL e ops Q l s h ms:=by
 by_cases r:p
 .refine λa w k u=>B r a w ⟨k.defers,k.size,λi v m=>?_⟩ u;by_cases g:t=i
  .subst g;rw[BM]at m;cases m;rw[k.slots t _ z];simp[r]
  .rw[BR _ _ g]at m;exact k.slots i v m
 .refine λa w k u=>A r a w ⟨k.defers,k.size,λi v m=>?_⟩ u;by_cases g:t=i
  .subst g;rw[BM]at m;cases m;rw[k.slots t _ z];simp[r]
  .rw[BR _ _ g]at m;exact k.slots i v m
theorem Po(k:lk s t=some (.bool b))(p:b=true->WL e ops Q l ((t,.bool true)::s) h ms)(m:b=false->WL e ops Q l ((t,.bool false)::s) h ms):WL e ops Q l s h ms:=by
 have g:decide (b=true)=b:=by cases b<;>rfl
 grind [AY]
end
end Go.Eng
namespace Go.Eng
open Go.RowKit
variable {v:Value} {vs cs:List Value} {ts:Array TypeId} {f:FuncId} {l:List Operand} {d:TypeDesc} {e:Entry} {post:Value->Hp->List Hp->Prop} {pre fr:List Hp} {g i:Nat} {fs:Array Field} {Q:Exit->Act->World->Prop} {ops:Array Oper} {rest:List Oper}
def Iv:TypeDesc->Bool
 | .struct _|.array _ _=>true
 | _=>false
theorem Dn{P:Program}{t:TypeId}(h:P.underlying t=some d)(w:World):(isAgg t).run P w=.ok (Iv d) w:=by simp only[isAgg,ep,cw h,dt];cases d<;>rfl
def Cell(h:Hp)(ms:List Hp)(p:Addr)(v:Value):Prop:=
 p.spot=none/\∃cs el fr,(h p.block=some (.cells cs el fr)\/∃m∈ms,m p.block=some (.cells cs el fr))/\cs[p.off]?=some v
def Seg(h:Hp)(ms:List Hp)(p:Addr)(vs:List Value):Prop:=∀j v,vs[j]?=some v->Cell h ms (p.add j) v
def BE(g:Nat)(el:TypeId)(l:List Value):Hp:=Hp.one g (.cells l.toArray el (0,0))
theorem St.cell{w:World}{h:Hp}{b:List Hp}(s:St w h b){p:Addr}(c:Cell h b p v):w.cell? p=some v:=by
 obtain⟨k,cs,el,fr,a,n⟩:=c
 have j:w.heap[p.block]?=some (.cells cs el fr):=by
  rcases a with a|⟨m,a,e⟩
  .exact s.imm _ _ a
  .exact s.own m a _ _ e
 simp[World.cell?,j,k,n]
theorem Cell.le{h a:Hp}{b:List Hp}{p:Addr}(c:Cell h b p v)(l:h.le a):Cell a b p v:=
 let ⟨hs,cs,el,fr,hm,hv⟩:=c
 ⟨hs,cs,el,fr,hm.imp (l _ _) id,hv⟩
theorem Cell.sub{h:Hp}{b a:List Hp}{p:Addr}(c:Cell h b p v)(l:∀m∈b,m∈a):Cell h a p v:=
 let ⟨hs,cs,el,fr,hm,hv⟩:=c
 ⟨hs,cs,el,fr,hm.imp id (λ⟨m,e1,e2⟩=>⟨m,l m e1,e2⟩),hv⟩
theorem Seg.le{h a:Hp}{b:List Hp}{p:Addr}(c:Seg h b p vs)(l:h.le a):Seg a b p vs:=λj v e=>(c j v e).le l
theorem Seg.sub{h:Hp}{b a:List Hp}{p:Addr}(c:Seg h b p vs)(l:∀m∈b,m∈a):Seg h a p vs:=λj v e=>(c j v e).sub l
theorem Cell.any{h:Hp}{ms:List Hp}{p:Addr}(c:Cell h [] p v):Cell h ms p v:=c.sub σ
theorem Seg.any{h:Hp}{ms:List Hp}{p:Addr}(c:Seg h [] p vs):Seg h ms p vs:=c.sub σ
theorem qC{h:Hp}{a:Addr}{vs:List Value}{v:Value}(i:Nat)(c:Seg h [] a vs)(e:vs[i]?=some v):∀b,Cell h b (a.add i) v:=λ_=>(c i v e).any
theorem qD{h:Hp}{a:Addr}{vs:List Value}{v:Value}(i:Nat)(c:Seg h [] a vs)(e:vs[i]?=some v):∀b,h.le b->∀j,Cell b j (a.add i) v:=λ_ l _=>((c i v e).any).le l
theorem qS{h:Hp}{a:Addr}{vs:List Value}(c:Seg h [] a vs):∀b,Seg h b a vs:=λ_=>c.any
theorem qT{h:Hp}{a:Addr}{vs:List Value}(c:Seg h [] a vs):∀b,h.le b->∀j,Seg b j a vs:=λ_ l _=>(c.le l).any
theorem BD(p:Addr)(i j:Nat):(p.add i).add j=p.add (i+j):=by grind [Addr.add,Nat.add_assoc]
theorem FD(p:Addr):p.add 0=p:=by simp[Addr.add]
theorem C0(p:Addr)(i:Nat):(p.add i).block=p.block:=by grind [Addr.add]
theorem D4(p:Addr)(i:Nat):(p.add i).off=p.off+i:=by grind [Addr.add]
theorem Cell.blk{h:Hp}{a:List Hp}{el:TypeId}{l:List Value}(i:Nat)(b:a[i]?=some (BE g el l)){k:Nat}(c:l[k]?=some v):Cell h a ((⟨g,0,none⟩:Addr).add k) v:=by
 refine⟨by unfold Addr.add;split<;>rfl,l.toArray,el,(0,0),.inr ⟨_,ez b,?_⟩,?_⟩
 .rw[C0];exact Hp.one_self _ _
 grind [D4]
theorem Cell.blk0{h:Hp}{ms:List Hp}{el:TypeId}{l:List Value}(i:Nat)(a:ms[i]?=some (BE g el l))(b:l[0]?=some v):Cell h ms ⟨g,0,none⟩ v:=by
 have:=Cell.blk (h:=h) i a (k:=0) b
 grind [FD]
theorem Seg.blk{h:Hp}{a:List Hp}{el:TypeId}{l:List Value}(i:Nat)(b:a[i]?=some (BE g el l)):Seg h a ⟨g,0,none⟩ l:=λ_ _ e=>Cell.blk i b e
theorem Seg.at0{h:Hp}{a:List Hp}{p:Addr}(c:Seg h a p vs)(e:vs[0]?=some v):Cell h a p v:=by have:=c 0 v e;grind [FD]
structure Elem(P:Program)(el:TypeId)(sz:Nat)(z:Value)(bytes:Nat):Prop where
 info:∃i,P.info? el=some i/\i.zero=some z/\i.size=sz/\i.bytes=bytes
theorem Elem.of{P:Program}{el:TypeId}{sz:Nat}{z:Value}{a:Nat}(h:(P.info? el).map (λi=>(i.zero,i.size,i.bytes))=some (some z,sz,a)):Elem P el sz z a:=by
 cases e:P.info? el with
 | none=>simp_all
 | some i=>rw[e]at h;simp at h;exact⟨i,e ▸ Y,h.1,h.2.1,h.2.2⟩
theorem Elem.sizeOf{P:Program}{el:TypeId}{sz:Nat}{z:Value}{a:Nat}(E:Elem P el sz z a)(w:World):(Go.sizeOf el).run P w=.ok sz w:=by obtain⟨i,b,h,c,j⟩:=E.info;simp[Go.sizeOf,typeInfo,b,c]
theorem Elem.zeroValue{P:Program}{el:TypeId}{sz:Nat}{z:Value}{a:Nat}(E:Elem P el sz z a)(w:World):(Go.zeroValue el).run P w=.ok z w:=by obtain⟨i,b,c,h,j⟩:=E.info;simp[Go.zeroValue,typeInfo,b,c]
section
variable {P:Program} {o:Oper} {s:AG} {h:Hp} {ms:List Hp}
theorem Bz(k:∀ρ w,Evs s ρ->St w h ms->(execOp ρ o).run P w=.ok (.value v) w):OX P o s h ms v:=λρ w b a=>by grind [OpRes,Ext.refl]
theorem Ap{x:Operand}(a:o.op=.move x)(b:ev s x=some v):OX P o s h ms v:=
 Bz λρ w c _=>by simp[execOp,a,c _ _ b]
theorem Jt{x:Operand}(a:o.op=.assign x)(b:ev s x=some v):OX P o s h ms v:=
 Bz λρ w c _=>by simp[execOp,a,c _ _ b]
theorem Cf{c x y:Operand}(j:o.op=.pick c x y)(b:ev s c=some (.bool true))(k:ev s x=some v):OX P o s h ms v:=
 Bz λρ w a _=>by simp[execOp,j,a _ _ b,a _ _ k,asBool]
theorem Bv{c x y:Operand}(j:o.op=.pick c x y)(b:ev s c=some (.bool false))(k:ev s y=some v):OX P o s h ms v:=
 Bz λρ w a _=>by simp[execOp,j,a _ _ b,a _ _ k,asBool]
theorem Bo{x:Operand}{vs:Array Value}(a:o.op=.extract x i)(c:ev s x=some (.tuple vs))(b:vs[i]?=some v):OX P o s h ms v:=
 Bz λρ w j _=>by simp[execOp,a,j _ _ c,Instr.extract,b]
section
variable {t u:TypeId} {x y:Operand} {k:IntKind} {a b:Int}
theorem YJ(j:o.op=.binOp .add t x y u)(m:ev s x=some (.int k a))(n:ev s y=some (.int k b)):OX P o s h ms (.int k (k.wrap (a+b))):=
 Bz λρ w c _=>by simp[execOp,j,c _ _ m,c _ _ n,go_sem]
theorem Aet(j:o.op=.binOp .sub t x y u)(m:ev s x=some (.int k a))(n:ev s y=some (.int k b)):OX P o s h ms (.int k (k.wrap (a-b))):=
 Bz λρ w c _=>by simp[execOp,j,c _ _ m,c _ _ n,go_sem]
theorem Yn(j:o.op=.binOp .mul t x y u)(m:ev s x=some (.int k a))(n:ev s y=some (.int k b)):OX P o s h ms (.int k (k.wrap (a*b))):=
 Bz λρ w c _=>by simp[execOp,j,c _ _ m,c _ _ n,go_sem]
theorem EO{n:Int}(c:-9223372036854775808<=n/\n<=9223372036854775807):IntKind.i64.wrap n=n:=IntWalk.i64_in n c
theorem Ag4(c:o.op=.binOp .add t x y u)(m:ev s x=some (.int .i64 a))(n:ev s y=some (.int .i64 b))(j:-9223372036854775808<=a+b/\a+b<=9223372036854775807):OX P o s h ms (.int .i64 (a+b)):=by have:=YJ (P:=P) (h:=h) (ms:=ms) c m n;grind [EO]
theorem Ahp(c:o.op=.binOp .sub t x y u)(m:ev s x=some (.int .i64 a))(n:ev s y=some (.int .i64 b))(j:-9223372036854775808<=a-b/\a-b<=9223372036854775807):OX P o s h ms (.int .i64 (a-b)):=by have:=Aet (P:=P) (h:=h) (ms:=ms) c m n;grind [EO]
theorem Agi(c:o.op=.binOp .mul t x y u)(m:ev s x=some (.int .i64 a))(n:ev s y=some (.int .i64 b))(j:-9223372036854775808<=a*b/\a*b<=9223372036854775807):OX P o s h ms (.int .i64 (a*b)):=by have:=Yn (P:=P) (h:=h) (ms:=ms) c m n;grind [EO]
theorem X9(m:o.op=.binOp .quo t x y u)(n:ev s x=some (.int k a))(p:ev s y=some (.int k b))(j:b≠0):OX P o s h ms (.int k (k.wrap (a.tdiv b))):=
 Bz λρ w c _=>by simp[execOp,m,c _ _ n,c _ _ p,go_sem,j]
theorem WC{a b:Int}(n:-9223372036854775808<=a/\a<=9223372036854775807)(p:1<=b):-9223372036854775808<=a.tdiv b/\a.tdiv b<=9223372036854775807:=by
 rcases Int.lt_or_le a 0 with c|c
 .have e:a.tdiv b=-((-a)/b):=by rw[tdiv_eq_if];simp[Int.not_le.2 c]
  have j:(-a)/b<=-a:=Int.ediv_le_self _ Z;have m:0<=(-a)/b:=Int.ediv_nonneg Z Z;omega
 .have e:a.tdiv b=a/b:=by rw[tdiv_eq_if];simp[c]
  have j:a/b<=a:=Int.ediv_le_self _ c;have m:0<=a/b:=Int.ediv_nonneg c Z;omega
theorem Ahg(m:o.op=.binOp .quo t x y u)(n:ev s x=some (.int .i64 a))(p:ev s y=some (.int .i64 b))(c:-9223372036854775808<=a/\a<=9223372036854775807)(j:1<=b):OX P o s h ms (.int .i64 (a.tdiv b)):=by have:=X9 (P:=P) (h:=h) (ms:=ms) m n p Z;grind [EO,WC]
theorem Ek(m:o.op=.binOp .quo t x y u)(n:ev s x=some (.int .i64 a))(p:ev s y=some (.int .i64 b))(c:0<=a/\a<=9223372036854775807)(j:1<=b):OX P o s h ms (.int .i64 (a/b)):=by
 have:=Ahg (P:=P) (h:=h) (ms:=ms) m n p Z j;grind
theorem AbK(m:o.op=.binOp .rem t x y u)(n:ev s x=some (.int k a))(p:ev s y=some (.int k b))(j:b≠0):OX P o s h ms (.int k (a.tmod b)):=
 Bz λρ w c _=>by simp[execOp,m,c _ _ n,c _ _ p,go_sem,j]
theorem Eh(j:o.op=.binOp .rem t x y u)(m:ev s x=some (.int k a))(n:ev s y=some (.int k b))(c:0<=a)(p:1<=b):OX P o s h ms (.int k (a%b)):=by
 have:=AbK (P:=P) (h:=h) (ms:=ms) j m n Z;grind
theorem Dw(j:o.op=.binOp .lss t x y u)(m:ev s x=some (.int k a))(n:ev s y=some (.int k b)):OX P o s h ms (.bool (decide (a<b))):=
 Bz λρ w c _=>by simp[execOp,j,c _ _ m,c _ _ n,go_sem]
theorem W6(j:o.op=.binOp .leq t x y u)(m:ev s x=some (.int k a))(n:ev s y=some (.int k b)):OX P o s h ms (.bool (decide (a<=b))):=
 Bz λρ w c _=>by simp[execOp,j,c _ _ m,c _ _ n,go_sem]
theorem CE(j:o.op=.binOp .gtr t x y u)(m:ev s x=some (.int k a))(n:ev s y=some (.int k b)):OX P o s h ms (.bool (decide (b<a))):=
 Bz λρ w c _=>by simp[execOp,j,c _ _ m,c _ _ n,go_sem]
theorem NK(j:o.op=.binOp .geq t x y u)(m:ev s x=some (.int k a))(n:ev s y=some (.int k b)):OX P o s h ms (.bool (decide (b<=a))):=
 Bz λρ w c _=>by simp[execOp,j,c _ _ m,c _ _ n,go_sem]
theorem Cq(j:o.op=.binOp .eql t x y u)(m:ev s x=some (.int k a))(n:ev s y=some (.int k b)):OX P o s h ms (.bool (decide (a=b))):=
 Bz λρ w c _=>by simp[execOp,j,c _ _ m,c _ _ n,go_sem];rfl
theorem FV(j:o.op=.binOp .neq t x y u)(m:ev s x=some (.int k a))(n:ev s y=some (.int k b)):OX P o s h ms (.bool (decide (a≠b))):=
 Bz λρ w c _=>by simp[execOp,j,c _ _ m,c _ _ n,go_sem];rfl
theorem AeG(c:o.op=.unOp .neg t x)(j:ev s x=some (.int k a)):OX P o s h ms (.int k (k.wrap (-a))):=
 Bz λρ w m _=>by simp[execOp,c,m _ _ j,Op.unary,Op.intArith]
theorem RQ{c:IntKind}(j:o.op=.convert t u x)(n:P.underlying t=some d)(p:P.underlying u=some (.int c))(r:ev s x=some (.int k a))(m:c.wrap a=a):OX P o s h ms (.int c a):=
 Bz λρ w z _=>by simp[execOp,j,z _ _ r,convert,cw n,cw p,Conv.intToInt,m]
theorem Eu{c:IntKind}(j:o.op=.convert t u x)(m:P.underlying t=some d)(n:P.underlying u=some (.int c))(p:ev s x=some (.int k a)):OX P o s h ms (.int c (c.wrap a)):=
 Bz λρ w r _=>by simp[execOp,j,r _ _ p,convert,cw m,cw n,Conv.intToInt]
theorem RO{p:IntKind}(j:o.op=.call { callee:=.builtin .max,args:=#[x,y],argTypes:=ts })(m:ev s x=some (.int k a))(n:ev s y=some (.int p b)):OX P o s h ms (.int k (max a b)):=
 Bz λρ w c _=>by
  have:(if b>a then b else a)=max a b:=Z
  simp[execOp,j,c _ _ m,c _ _ n,resolve,invoke,builtin,run_max_int2,this]
theorem W4{p:IntKind}(j:o.op=.call { callee:=.builtin .min,args:=#[x,y],argTypes:=ts })(m:ev s x=some (.int k a))(n:ev s y=some (.int p b)):OX P o s h ms (.int k (min a b)):=
 Bz λρ w c _=>by
  have:(if b<a then b else a)=min a b:=Z
  simp[execOp,j,c _ _ m,c _ _ n,resolve,invoke,builtin,run_min_int2,this]
end
section
variable {t u:TypeId} {x y:Operand} {a b:Bool}
theorem Nt(j:o.op=.binOp .eql t x y u)(k:P.underlying t=some .bool)(m:ev s x=some (.bool a))(n:ev s y=some (.bool b)):OX P o s h ms (.bool (decide (a=b))):=
 Bz λρ w c _=>by simp[execOp,j,c _ _ m,c _ _ n,go_sem,run_eql_bool _ _ _ _ k];grind
theorem I6(j:o.op=.binOp .neq t x y u)(k:P.underlying t=some .bool)(m:ev s x=some (.bool a))(n:ev s y=some (.bool b)):OX P o s h ms (.bool (decide (a≠b))):=
 Bz λρ w c _=>by simp[execOp,j,c _ _ m,c _ _ n,go_sem,run_neq_bool _ _ _ _ k];grind
theorem Dg(c:o.op=.unOp .not t x)(j:ev s x=some (.bool a)):OX P o s h ms (.bool (!a)):=
 Bz λρ w k _=>by simp[execOp,c,k _ _ j,Op.unary]
end
section
variable {t el:TypeId} {x y:Operand} {p:Addr} {len cap sz:Nat} {k:IntKind}
theorem Cm{z:Value}{a:Nat}{i:Int}(j:Nat)(r:o.op=.indexAddr t x y)(A:P.underlying t=some (.slice el))(u:Elem P el sz z a)(B:ev s x=some (.slice (some p) len cap))(K:ev s y=some (.int k i))(L:i=(j:Int))(n:j<len) :
  OX P o s h ms (.pointer (some (p.add (j*sz)))):=
 Bz λρ w b _=>by
  have c:(0:Int)<=i/\i<(len:Int):=Z
  have m:i.toNat=j:=Z
  simp[execOp,r,b _ _ B,b _ _ K,Instr.indexAt,cw A,asIntOf,c,m,u.sizeOf]
theorem A5{z:Value}{a:Nat}{i:Int}(j:Nat)(r:o.op=.indexAddr t x y)(A:P.underlying t=some (.array len el))(u:Elem P el sz z a)(B:ev s x=some (.pointer (some p)))(K:ev s y=some (.int k i))(L:i=(j:Int))(n:j<len) :
  OX P o s h ms (.pointer (some (p.add (j*sz)))):=
 Bz λρ w b _=>by
  have c:(0:Int)<=i/\i<(len:Int):=Z
  have m:i.toNat=j:=Z
  simp[execOp,r,b _ _ B,b _ _ K,Instr.indexAt,cw A,Instr.sureAddr,asIntOf,c,m,u.sizeOf]
theorem AaN{f:Field}{n:Nat}(b:o.op=.fieldAddr t x i)(j:P.underlying t=some (.struct fs))(a:fs[i]?=some f)(c:∀w,(sizeOf f.type).run P w=.ok (n+1) w)(m:ev s x=some (.pointer (some p))) :
  OX P o s h ms (.pointer (some (p.add f.offset))):=
 Bz λρ w r _=>by simp[execOp,b,r _ _ m,Instr.fieldAt,cw j,a,Instr.sureAddr,fieldPlace,c]
theorem AdZ(j:o.op=.load t x)(m:P.underlying t=some d)(c:Iv d=false)(r:ev s x=some (.pointer (some p)))(b:Cell h ms p v):OX P o s h ms v:=
 Bz λρ w u n=>by
  have a:(isAgg t).run P w=.ok false w:=by rw[Dn m,c]
  simp[execOp,j,u _ _ r,Instr.loadAt,Instr.sureAddr,loadVar,a,n.cell b]
theorem Ac3{z:Value}{a:Nat}(u:o.op=.load t x)(B:P.underlying t=some d)(n:Iv d=true)(A:Elem P t sz z a)(r:vs.length=sz)(L:ev s x=some (.pointer (some p)))(m:Seg h ms p vs):OX P o s h ms (.agg vs.toArray):=
 Bz λρ w M K=>by
  have c:(isAgg t).run P w=.ok true w:=by rw[Dn B,n]
  have b:∀j v,vs[j]?=some v->w.cell? (p.add j)=some v:=λj v e=>K.cell (m j v e);subst r;simp[execOp,u,M _ _ L,Instr.loadAt,Instr.sureAddr,loadVar,c,A.sizeOf,gq (P:=P) w p vs b]
theorem Vc(a:o.op=.nilCheck x)(b:ev s x=some (.pointer (some p))):OX P o s h ms (.pointer (some p)):=
 Bz λρ w c _=>by simp[execOp,a,c _ _ b]
theorem EJ{ty:TypeId}{a:Option Addr}(b:o.op=.call { callee:=.builtin .len,args:=#[x],argTypes:=#[t] })(c:P.underlying t=some (.slice el))(j:ev s x=some (.slice a len cap)):OX P o s h ms (.int .i64 len):=
 Bz λρ w m _=>by simp[execOp,b,m _ _ j,resolve,invoke,builtin,Builtin.len_,cw c,goInt]
theorem HJ{f:Field}{cs:Array Value}(m:o.op=.field t x i)(n:P.underlying t=some (.struct fs))(j:fs[i]?=some f)(c:P.underlying f.type=some d)(b:Iv d=false)(u:ev s x=some (.agg cs))(r:cs[f.offset]?=some v) :
  OX P o s h ms v:=
 Bz λρ w z _=>by
  have a:(isAgg f.type).run P w=.ok false w:=by rw[Dn c,b]
  simp[execOp,m,z _ _ u,Instr.field,cw n,j,asAgg,part,a,r]
def IT:List Value->Nat->List Value->List Value
 | l,_,[]=>l
 | l,k,v::vs=>IT (l.set k v) (k+1) vs
def TK:List Value->List (Nat×List Value)->List Value
 | l,[]=>l
 | l,(k,vs)::r=>TK (IT l k vs) r
theorem V7(vs:List Value):∀(k a:Nat) (l:List Value),(List.foldl (λ(cs:Array Value) (c:Value×Nat)=>cs.setIfInBounds (a+c.2) c.1) l.toArray (vs.zipIdx k))=(IT l (a+k) vs).toArray:=by
 induction vs with
 | nil=>intro k a l;rfl
 | cons v vs ih=>
  intro k a l;simp only[List.zipIdx_cons,it,List.setIfInBounds_toArray];rw[ih (k+1) a];rfl
def HT(place:Nat->Option (Nat×Nat))(n:Nat):List (Nat×Value)->List (Nat×List Value)->Prop
 | [],[]=>True
 | p::ps,q::qs=>(p.2.cells=q.2.toArray/\place p.1=some (q.1,q.2.length)/\Nat.ble (q.1+q.2.length) n=true)/\HT place n ps qs
 | _,_=>False
theorem J1:∀(vs:List Value) (l:List Value) (k:Nat),(IT l k vs).length=l.length
 :=by intro x;induction x<;>grind [IT]
theorem Jq(b:Nat->Option (Nat×Nat)):∀(a:List (Nat×Value)) (l:List Value) (c:List (Nat×List Value)),HT b l.length a c->Instr.fill b l.toArray a=some (TK l c).toArray
 | [],l,[],_=>rfl
 | [],_,_::_,h=>h.elim
 | _::_,_,[],h=>h.elim
 | (i,v)::a,l,(off,vs)::c,h=>by obtain⟨⟨j,m,n⟩,u⟩:=h;simp only at j m n;have r:=d5 n;simp only[Instr.fill,m,j,iq];rw[af (by simp;omega)];rw[<-Array.foldl_toList];simp only[Array.toList_zipIdx];rw[V7 vs 0 off l,gz];exact Jq b a _ c (by rw[J1];exact u)
theorem AbW{z:Value}{b:Nat}{j:List (Nat×Operand)}{vs:List (Nat×Value)}{a:Array (Nat×Nat)}(m:List Value)(A:List (Nat×List Value))(B:List Value)(M:o.op=.build t j.toArray)(R:P.underlying t=some (.struct fs))(O:Elem P t sz z b)(T:z.cells=m.toArray)
  (n:∀w,(fs.mapM λf=>do pure (f.offset,<-sizeOf f.type):Sem (Array (Nat×Nat))).run P w=.ok a w) (S:evp s j=some vs)
  (r:HT (a[·]?) m.length vs A) (u:TK m A=B):OX P o s h ms (.agg B.toArray):=
 Bz λρ w hρ _=>by
  have K:=Jq (a[·]?) vs m A r
  have L:(j.toArray.map λ(i,x)=>(i,ρ x))=vs.toArray:=by rw[List.map_toArray,hρ.pairs j vs S]
  have c:=n w;simp only[execOp,M,L];simp only[Instr.build,ep,O.zeroValue,cw R,T,dt,c,K,fl,u]
theorem Aaz{n:Nat}{z:Value}{b a:Nat}{L:Value}{c:List (Nat×Operand)}{vs:List (Nat×Value)}{B:Nat}(j:List Value)(A:List (Nat×List Value))(K:List Value)(R:o.op=.build t c.toArray)(T:P.underlying t=some (.array n el))(S:Elem P t B L b)(hz:L.cells=j.toArray)(m:Elem P el sz z a)(hv:evp s c=some vs)
  (r:HT (λi=>some (i*sz,sz)) j.length vs A) (u:TK j A=K):OX P o s h ms (.agg K.toArray):=
 Bz λρ w hρ _=>by
  have M:=Jq (λi=>some (i*sz,sz)) vs j A r
  have O:(c.toArray.map λ(i,x)=>(i,ρ x))=vs.toArray:=by rw[List.map_toArray,hρ.pairs c vs hv]
  simp only[execOp,R,O];simp only[Instr.build,ep,S.zeroValue,cw T,hz,dt,m.sizeOf,M,fl,u]
theorem BI{a:Fn}{j c:List Operand}{n m:List Value}(z:o.op=.makeFunc a j.toArray c.toArray)(u:Vg s j=some n)(r:Vg s c=some m):OX P o s h ms (.func a n.toArray m.toArray):=
 Bz λρ w b _=>by simp[execOp,z,b.map _ _ u,b.map _ _ r,Instr.makeFunc]
end
theorem As(r:o.op=.call { callee:=.value (.func f),args:=l.toArray,argTypes:=ts })(p:∀b w,(callFunc f b).run P w=.ok (.enter f b) w)(n:Vg s l=some vs)(k:FnV P f vs.toArray h ms v):OX P o s h ms v:=
 λρ w c t=>by
  have a:ρ (.func f)=.func (.func f) #[] #[]:=c _ _ Y;have:(execOp ρ o).run P w=.ok (.enter f vs.toArray) w:=by simp[execOp,r,resolve,a,Deferred.ofValue,invoke,p,c.map l vs n]
  unfold OpRes;rw[this];exact(k w t).mono λx u ⟨j,m⟩=>⟨v,j,Y,m⟩
theorem Yz(B:o.op=.call { callee:=.value (.func f),args:=l.toArray,argTypes:=ts })(A:∀m w,(callFunc f m).run e.P w=.ok (.enter f m) w)(z:Vg s l=some vs)(k:FnT e.P f vs.toArray h pre post) :
  OT e o s h (pre++fr) (λv b j=>∃a,j=a++fr/\h.le b/\post v b a):=
 λρ w t p=>by
  have c:ρ (.func f)=.func (.func f) #[] #[]:=t _ _ Y;have:(execOp ρ o).run e.P w=.ok (.enter f vs.toArray) w:=by simp[execOp,B,resolve,c,Deferred.ofValue,invoke,A,t.map l vs z]
  unfold OpRes;rw[this];exact(k w p.st.pre).mono λx K ⟨r,b,a,u,n,y⟩=>⟨r,u,b,a++fr,Ends.call p n,a,Y,n.le,y⟩
theorem CF{x:Operand}{fs:List Value}(p:o.op=.call { callee:=.value x,args:=l.toArray,argTypes:=ts })(t:ev s x=some (.func (.func f) fs.toArray cs.toArray))(n:∀a w,(callFunc f a).run P w=.ok (.enter f a) w)(m:Vg s l=some vs)(k:FnV P f (fs++vs++cs).toArray h ms v):OX P o s h ms v:=
 λρ w b r=>by
  have:(execOp ρ o).run P w=.ok (.enter f (fs++vs++cs).toArray) w:=by simp[execOp,p,resolve,b _ _ t,Deferred.ofValue,invoke,n,b.map l vs m]
  unfold OpRes;rw[this];exact(k w r).mono λx u ⟨c,j⟩=>⟨v,c,Y,j⟩
theorem Ab4{x:Operand}{fs:List Value}(A:o.op=.call { callee:=.value x,args:=l.toArray,argTypes:=ts })(B:ev s x=some (.func (.func f) fs.toArray cs.toArray))(z:∀j w,(callFunc f j).run e.P w=.ok (.enter f j) w)(y:Vg s l=some vs)(k:FnT e.P f (fs++vs++cs).toArray h pre post) :
  OT e o s h (pre++fr) (λv b c=>∃a,c=a++fr/\h.le b/\post v b a):=
 λρ w p n=>by
  have:(execOp ρ o).run e.P w=.ok (.enter f (fs++vs++cs).toArray) w:=by simp[execOp,A,resolve,p _ _ B,Deferred.ofValue,invoke,z,p.map l vs y]
  unfold OpRes;rw[this];exact(k w n.st.pre).mono λx K ⟨r,b,a,t,m,u⟩=>⟨r,t,b,a++fr,Ends.call n m,a,Y,m.le,u⟩
theorem AdE{d:Nat}(y:o.op=.call { callee:=.value (.func f),args:=l.toArray,argTypes:=ts })(r:∀c w,(callFunc f c).run e.P w=.ok (.enter f c) w)(p:Vg s l=some vs)(k:FnT e.P f vs.toArray h [] post)(t:o.dst=some d)(x:Nat.blt d e.n=true)(u:o.guard=none)
  (K:∀v b a,h.le b->post v b a->WL e ops Q rest ((d,v)::s) b (a++ms)):WL e ops Q (o::rest) s h ms:=
 Is (Yz (fr:=ms) y r p k) t x u λv b z ⟨a,j,m,n⟩=>by simp_all
theorem AE{d:Nat}(z:o.op=.call { callee:=.value (.func f),args:=l.toArray,argTypes:=ts })(r:∀c w,(callFunc f c).run e.P w=.ok (.enter f c) w)(p:Vg s l=some vs)(k:FnT e.P f vs.toArray h pre post)(x:ms=pre++fr)(t:o.dst=some d)(y:Nat.blt d e.n=true)(u:o.guard=none)
  (K:∀v b a,h.le b->post v b a->WL e ops Q rest ((d,v)::s) b (a++fr)):WL e ops Q (o::rest) s h ms:=by
 subst x;exact Is (Yz z r p k) t y u λv b A ⟨a,j,m,n⟩=>by simp_all
theorem EC{x:Operand}{fs:List Value}{d:Nat}(A:o.op=.call { callee:=.value x,args:=l.toArray,argTypes:=ts })(B:ev s x=some (.func (.func f) fs.toArray cs.toArray))(r:∀c w,(callFunc f c).run e.P w=.ok (.enter f c) w)(p:Vg s l=some vs)(k:FnT e.P f (fs++vs++cs).toArray h pre post)(y:ms=pre++fr)(t:o.dst=some d)(z:Nat.blt d e.n=true)(u:o.guard=none)
  (K:∀v b a,h.le b->post v b a->WL e ops Q rest ((d,v)::s) b (a++fr)):WL e ops Q (o::rest) s h ms:=by
 subst y;exact Is (Ab4 A B r p k) t z u λv b L ⟨a,j,m,n⟩=>by simp_all
end
end Go.Eng
namespace Go.Eng
open Go.RowKit
variable {sz bytes n d g:Nat} {v z:Value} {el t:TypeId} {cs l:List Value} {x y:Operand} {m:Hp}
theorem FN{α:Type}(l:List α)(i:Nat)(x y:α)(h:l[i]?=some x):∃r,l.Perm (x::r)/\(l.set i y).Perm (y::r):=by
 induction l generalizing i with
 | nil=>cases h
 | cons a l ih=>
  cases i with
  | zero=>grind [gv]
  | succ i=>
   simp at h;obtain⟨r,b,c⟩:=ih i h;exact⟨a::r,(b.cons a).trans (List.Perm.swap _ _ _),by rw[List.set_cons_succ];exact(c.cons a).trans (List.Perm.swap _ _ _)⟩
structure Rd(h:Hp)(ms:List Hp)(v:Value)(sz n:Nat)(cs:List Value):Prop where
 ex:∃a c,v=.slice a n c/\n<=c/\c<=9223372036854775807/\cs.length=n*sz/\(0<n->∃q,a=some q/\Seg h ms q cs)
def Own(el:TypeId)(sz:Nat)(m:Hp)(v:Value)(n:Nat)(cs:List Value):Prop:=
 cs.length=n*sz/\((v=.nl/\n=0/\m=Hp.emp) ∨
  ∃g cap spare,v=.slice (some ⟨g,0,none⟩) n cap/\m=BE g el (cs++spare)/\(cs++spare).length=cap*sz/\n<=cap/\cap<=9223372036854775807)
theorem Rd.le{h b:Hp}{e:List Hp}(R:Rd h e v sz n cs)(l:h.le b):Rd b e v sz n cs:=by obtain⟨a,c,f,i,j,k,p⟩:=R.ex;exact⟨a,c,f,i,j,k,λr=>let ⟨q,q1,q2⟩:=p r;⟨q,q1,q2.le l⟩⟩
theorem Rd.sub{h:Hp}{e b:List Hp}(R:Rd h e v sz n cs)(l:∀m∈e,m∈b):Rd h b v sz n cs:=by obtain⟨a,c,f,i,j,k,p⟩:=R.ex;exact⟨a,c,f,i,j,k,λr=>let ⟨q,q1,q2⟩:=p r;⟨q,q1,q2.sub l⟩⟩
theorem Rd.any{h:Hp}{ms:List Hp}(R:Rd h [] v sz n cs):Rd h ms v sz n cs:=R.sub σ
theorem Rd.nil(h:Hp)(a:List Hp)(sz:Nat):Rd h a (.slice none 0 0) sz 0 []:=⟨none,0,rfl,ak _,Z,by simp,λh=>Z⟩
theorem Own.nil(el:TypeId)(sz:Nat):Own el sz Hp.emp (.slice none 0 0) 0 []:=⟨by simp,.inl ⟨rfl,rfl,rfl⟩⟩
theorem Own.rd(O:Own el sz m v n cs){h:Hp}{ms:List Hp}(s:m∈ms):Rd h ms v sz n cs:=by
 obtain⟨c,p⟩:=O;rcases p with ⟨rfl,rfl,rfl⟩|⟨g,a,b,rfl,rfl,u,f,k⟩
 .exact⟨none,0,Y,ak _,Z,c,λh=>Z⟩
 .refine⟨_,a,Y,f,k,c,λ_=>⟨_,Y,λj v e=>?_⟩⟩;obtain⟨i,r⟩:=List.getElem?_of_mem s;grind [Cell.blk,fc,bq]
theorem Own.rdh(O:Own el sz m v n cs){h:Hp}{ms:List Hp}(p:m.le h):Rd h ms v sz n cs:=by
 obtain⟨c,k⟩:=O;rcases k with ⟨rfl,rfl,rfl⟩|⟨g,b,a,rfl,rfl,r,f,i⟩
 .exact⟨none,0,Y,ak _,Z,c,λh=>Z⟩
 .refine⟨_,b,Y,f,i,c,λ_=>⟨_,Y,λj v e=>?_⟩⟩;refine⟨by unfold Addr.add;split<;>rfl,(cs++a).toArray,el,(0,0),.inl (p _ _ ?_),?_⟩
  .rw[C0];exact Hp.one_self _ _
  grind [D4,bq,jp,fc]
theorem Ends.put{A w e:World}{u h:Hp}{j p:List Hp}{i:Nat}{l':List Value}(O:Ends A u j w h p)(K:p[i]?=some (BE g el l))
  (s:e.os=w.os) (c:TL w e) (f:e.output=w.output) (b:w.heap.size<=e.heap.size)
  (B:e.heap[g]?=some (.cells l'.toArray el (0,0))) (a:∀k,k<w.heap.size->k≠g->e.heap[k]?=w.heap[k]?):Ends A u j e h (p.set i (BE g el l')):=by
 obtain⟨r,L,M⟩:=FN p i (BE g el l) (BE g el l') K;exact Ends.perm (Ends.change (O.perm L) s c f b B a) M.symm
section
variable {P:Program} {o:Oper} {s:AG} {h:Hp} {ms:List Hp} {e:Entry} {Q:Exit->Act->World->Prop} {ops:Array Oper} {rest:List Oper}
theorem Ab7(b:List Value)(f:o.op=.alloc t)(i:Elem e.P t sz z bytes)(k:z.cells=b.toArray) :
  OT e o s h ms (λv c a=>∃g,v=.pt g/\c=h/\a=BE g t b::ms):=λρ w p j=>by
 have:(execOp ρ o).run e.P w=.ok (.value (.pointer (some ⟨w.heap.size,0,none⟩))) (w.alloc (.cells b.toArray t)):=by simp[execOp,f,Instr.alloc,i.zeroValue,newVar,newRow,k]
 unfold OpRes;rw[this];exact⟨h,_,Ends.alloc j _,_,Y,Y,Y⟩
theorem TX(a:List Value)(r:o.op=.alloc t)(u:Elem e.P t sz z bytes)(A:z.cells=a.toArray)(i:o.dst=some d)(p:Nat.blt d e.n=true)(j:o.guard=none)
  (k:∀g,WL e ops Q rest ((d,.pt g)::s) h (BE g t a::ms)):WL e ops Q (o::rest) s h ms:=
 Is (Ab7 a r u A) i p j λ_ _ _ ⟨g,b,c,f⟩=>by simp_all
theorem AK(a:List Value)(A:o.op=.box t x)(K:ev s x=some v)(L:v.cells=a.toArray)(p:o.dst=some d)(u:Nat.blt d e.n=true)(r:o.guard=none)
  (k:∀g,WL e ops Q rest ((d,.pt g)::s) h (BE g t a::ms)):WL e ops Q (o::rest) s h ms:=
 Is (post:=λv j b=>∃g,v=.pt g/\j=h/\b=BE g t a::ms) (λρ w M B=>by
  have:(execOp ρ o).run e.P w=.ok (.value (.pointer (some ⟨w.heap.size,0,none⟩))) (w.alloc (.cells a.toArray t)):=by simp[execOp,A,M _ _ K,Instr.box,newVar,newRow,L]
  unfold OpRes;rw[this]
  exact⟨h,_,Ends.alloc B _,_,Y,Y,Y⟩) p u r λ_ _ _ ⟨g,c,f,i⟩=>by simp_all
theorem IX{vs:List (Nat×Value)}(k:List (Nat×List Value))(b u:List Value)(A:P.underlying t=some (.slice el))(r:Elem P el sz z bytes)(K:n*sz<=16777216)
  (B:(Array.range (n*sz)).map (λi=>(if n*sz=0 then #[] else z.cells)[i%(if n*sz=0 then #[] else z.cells).size]!)=b.toArray) (f:HT (λi=>some (i*sz,sz)) b.length vs k) (j:TK b k=u) (w:World) :
  (Instr.buildSlice t n vs.toArray).run P w=.ok (.slice (some ⟨w.heap.size,0,none⟩) n n) (w.alloc (.cells u.toArray el)):=by
 have a:=Jq (λi=>some (i*sz,sz)) vs b k f;have c:¬(n*sz>2^24):=Z
 rw[j,<-B]at a;simp only[Instr.buildSlice,ep,cw A,dt,r.sizeOf];rw[af c];by_cases p:n*sz=0
 .simp_all [ep,fl,dt,newRow,run_newObj]
 .simp only[p,if_false]at a ⊢;simp only[ep,fl,dt,r.zeroValue,a,newRow,run_newObj];rfl
theorem Ny:∀(a l:List Value) (k:Nat),k+a.length<=l.length->IT l k a=l.take k++a++l.drop (k+a.length)
 | [],l,k,h=>by simp[IT]
 | v::a,l,k,h=>by
  simp only[IT];have f:k<l.length:=by simp at h;omega
  rw[Ny a _ _ (by simp at h ⊢;omega)];grind [j9,List.take_set_of_le,List.drop_set_of_lt,gh]
theorem Im(a:List Value)(j:P.underlying t=some (.slice el))(c:Elem P el sz z bytes)(k:v.cells=a.toArray)(b:a.length=sz)(p:z.cells.size=sz)(f:0<sz/\sz<=1000)(w:World) :
  (Instr.buildSlice t 1 #[(0,v)]).run P w=.ok (.slice (some ⟨w.heap.size,0,none⟩) 1 1) (w.alloc (.cells a.toArray el)):=by
 refine IX (vs:=[(0,v)]) [(0,a)] ((range<|1*sz).map<|λi=>(if 1*sz=0 then #[] else z.cells)[i%(if 1*sz=0 then #[] else z.cells).size]!) a j c Z (by apply Array.ext';simp) ?_ ?_ w
 .refine⟨⟨k,by simp[b],?_⟩,fu⟩;simp[b]
 grind [TK,Ny]
theorem AB(a:List Value)(L:o.op=.buildSlice t 1 #[(0,x)])(O:e.P.underlying t=some (.slice el))(M:Elem e.P el sz z bytes)(T:ev s x=some v)(R:v.cells=a.toArray)(B:a.length=sz)(c:z.cells.size=sz)(b:0<sz/\sz<=1000)(u:o.dst=some d)(K:Nat.blt d e.n=true)(A:o.guard=none)
  (k:∀g,WL e ops Q rest ((d,.slice (some ⟨g,0,none⟩) 1 1)::s) h (BE g el a::ms)):WL e ops Q (o::rest) s h ms:=
 Is (post:=λv r f=>∃g,v=.slice (some ⟨g,0,none⟩) 1 1/\r=h/\f=BE g el a::ms) (λρ w hρ S=>by
  have:(execOp ρ o).run e.P w=.ok (.value (.slice (some ⟨w.heap.size,0,none⟩) 1 1)) (w.alloc (.cells a.toArray el)):=by simp[execOp,L,hρ _ _ T,Im a O M R B c b]
  unfold OpRes;rw[this]
  exact⟨h,_,Ends.alloc S _,_,Y,Y,Y⟩) u K A λ_ _ _ ⟨g,i,j,p⟩=>by simp_all
theorem AX{b:List (Nat×Operand)}{c:List (Nat×Value)}(u:List (Nat×List Value))(f a:List Value)(ho:o.op=.buildSlice t n b.toArray)(ht:e.P.underlying t=some (.slice el))(hs:Elem e.P el sz z bytes)
  (hv:evp s b=some c) (M:n*sz<=16777216) (hz:(Array.range (n*sz)).map (λi=>(if n*sz=0 then #[] else z.cells)[i%(if n*sz=0 then #[] else z.cells).size]!)=f.toArray) (j:HT (λi=>some (i*sz,sz)) f.length c u) (p:TK f u=a) (O:o.dst=some d) (T:Nat.blt d e.n=true) (R:o.guard=none)
  (k:∀g,WL e ops Q rest ((d,.slice (some ⟨g,0,none⟩) n n)::s) h (BE g el a::ms)):WL e ops Q (o::rest) s h ms:=
 Is (post:=λv L r=>∃g,v=.slice (some ⟨g,0,none⟩) n n/\L=h/\r=BE g el a::ms) (λρ w hρ hw=>by
  have S:(b.toArray.map λ(i,x)=>(i,ρ x))=c.toArray:=by rw[List.map_toArray,hρ.pairs b c hv]
  have:(execOp ρ o).run e.P w=.ok (.value (.slice (some ⟨w.heap.size,0,none⟩) n n)) (w.alloc (.cells a.toArray el)):=by simp only[execOp,ho,S,ep,IX u f a ht hs M hz j p,dt,fl]
  unfold OpRes;rw[this]
  exact⟨h,_,Ends.alloc hw _,_,Y,Y,Y⟩) O T R λ_ _ _ ⟨g,A,B,K⟩=>by simp_all
theorem Bl{p:Addr}(i k:Nat)(ho:o.op=.store t x y)(hs:Elem e.P t 1 z bytes)(hx:ev s x=some (.pointer (some p)))(hy:ev s y=some v)(A:v.oneCell'=true)
  (B:ms[i]?=some (BE g el l)) (hp:p=(⟨g,0,none⟩:Addr).add k) (hk:k<l.length) (hd:o.dst=none) (hg:o.guard=none)
  (K:WL e ops Q rest s h (ms.set i (BE g el (l.set k v)))):WL e ops Q (o::rest) s h ms:=
 Pj (post:=λ_ S u=>S=h/\u=ms.set i (BE g el (l.set k v))) (λρ w M L=>by
  have c:p=⟨g,k,none⟩:=by subst hp;unfold Addr.add;split<;>simp_all
  have a:w.heap[g]?=some (.cells l.toArray el (0,0)):=L.st.own _ (ez B) g _ (Hp.one_self _ _);have T:w.cell? ⟨g,k,none⟩=some l[k]:=by simp[World.cell?,a,hk]
  have hf:w.frozen? ⟨g,k,none⟩=false:=by simp[World.frozen?,a]
  have r:v.cells=#[v]:=by cases v<;>first|rfl|(simp[Value.oneCell']at A)
  have f:(store (Addr.add ⟨g,k,none⟩ 0) v).run e.P w=.ok () (w.setCell ⟨g,k,none⟩ v):=by rw[FD,run_store e.P w _ v _ A,T];simp[hf]
  have:(execOp ρ o).run e.P w=.ok .skip (w.setCell ⟨g,k,none⟩ v):=by simp[execOp,ho,M _ _ hx,M _ _ hy,Instr.storeAt,Instr.sureAddr,storeVar,hs.sizeOf,r,c,storeCells,f]
  unfold OpRes;rw[this];refine⟨h,_,Ends.put L B Y ⟨Y,ak _⟩ Y (by simp_all) (l':=l.set k v) ?_ (λj hj b=>Below.heap_setCell _ _ _ _ b),rfl,rfl⟩
  rw[heap_setCell_same w g k l.toArray el v a];simp) hd hg λ_ _ _ ⟨O,R⟩=>by simp_all
theorem IG(i:Nat)(a:List Value)(ho:o.op=.store t x y)(hs:Elem e.P t sz z bytes)(hx:ev s x=some (.pointer (some ⟨g,0,none⟩)))(hy:ev s y=some v)(hv:v.cells=a.toArray)(O:∀u∈a,u.oneCell'=true)
  (p:ms[i]?=some (BE g el l)) (T:a.length=sz) (hl':l.length=sz) (R:o.dst=none) (S:o.guard=none)
  (K:WL e ops Q rest s h (ms.set i (BE g el a))):WL e ops Q (o::rest) s h ms:=
 Pj (post:=λ_ M k=>M=h/\k=ms.set i (BE g el a)) (λρ w A r=>by
  have b:w.heap[g]?=some (.cells l.toArray el (0,0)):=r.st.own _ (ez p) g _ (Hp.one_self _ _);have f:=run_storeCells_at e.P g 0 el a 0 l.toArray w b (by simp;omega) O
  have:(execOp ρ o).run e.P w=.ok .skip (w.setRow g a.toArray):=by simp[execOp,ho,A _ _ hx,A _ _ hy,Instr.storeAt,Instr.sureAddr,storeVar,hs.sizeOf,hv,T,f];rw[List.drop_eq_nil_of_le Z];simp
  unfold OpRes;rw[this]
  exact⟨h,_,Ends.put r p Y ⟨Y,ak _⟩ Y σ (setRow_heap w g _ _ _ _ b) (λj hj c=>setRow_other w g j _ c),rfl,rfl⟩) R S λ_ _ _ ⟨B,L⟩=>by simp_all
theorem FX(w:World)(t p el:TypeId)(k:P.underlying t=some (.slice el))(j:Elem P el sz z bytes)(b a:Option Addr)(n f c:Nat)(i:n<=f) :
  (Builtin.append_ #[t,t] p #[.slice b n f,.slice a 0 c]).run P w=.ok (.slice b n f) w:=by
 cases b<;>cases a<;>simp[Builtin.append_,cw k,j.sizeOf,Builtin.lenOf,i,Builtin.firstCells,loadCells,loadCellsFrom,storeCells]
theorem NY{w0 w:World}{h0 h:Hp}{ms0 ms:List Hp}(H:Ends w0 h0 ms0 w h (m::ms))(t ty el:TypeId)(ht:P.underlying t=some (.slice el))(hs:Elem P el sz z bytes)(hzs:z.cells.size=sz)(hsz:0<sz)
  {x:Value} {k:Nat} {b:List Value} (O:Own el sz m v n cs) (R:Rd h (m::ms) x sz k b) (h1:∀u∈b,u.oneCell'=true) (hb:(n+k)*bytes<=140737488355328) (hb63:n+k<=9223372036854775807) :
  ∃v' w' m',(Builtin.append_ #[t,t] ty #[v,x]).run P w=.ok v' w'/\Own el sz m' v' (n+k) (cs++b)/\Ends w0 h0 ms0 w' h (m'::ms):=by
 obtain⟨a,c,rfl,hkc,hcm,A,hq⟩:=R.ex;obtain⟨K,hO⟩:=O;obtain⟨i,hi,hz,L,hib⟩:=hs.info;rcases ja k with rfl|hk
 .have r:b=[]:=dw (by omega);subst r;rcases hO with ⟨rfl,rfl,rfl⟩|⟨g,p,f,rfl,rfl,e1,e2,e3⟩
  .exact⟨_,w,_,FX w t ty el ht hs none a 0 0 c (ak _),⟨by simp_all,.inl ⟨rfl,rfl,rfl⟩⟩,H⟩
  .exact⟨_,w,_,FX w t ty el ht hs _ a n p c e2,⟨by simp_all,.inr ⟨g,p,f,rfl,by simp,by simp_all,e2,e3⟩⟩,H⟩
 .obtain⟨q,rfl,hseg⟩:=hq hk;have r:∀j u,b[j]?=some u->w.cell? (q.add j)=some u:=λj u e=>H.st.cell (hseg j u e)
  have B:∀S,grownCap w (n+k) S el<=9223372036854775807/\n+k<=grownCap w (n+k) S el:=λS=>
   ⟨grownCap_le_maxLen w (n+k) S el (by grind [maxLen]),grownCap_ge w (n+k) S el⟩
  have hzl:∀N,(Builtin.zeroCells z.cells N).toList.length=N*sz:=λN=>by rw[Array.length_toList,size_zeroCells,hzs]
  rcases hO with ⟨rfl,rfl,rfl⟩|⟨g,p,f,rfl,rfl,e1,e2,e3⟩
  .have hc0:cs=[]:=dw (by omega);subst hc0;simp only[ig,aw]at *;have hr:=run_append_nil (P:=P) w t ty el i z ht hi hz q k c b (by simp_all) r hk Z (by grind);refine⟨_,_,_,hr,⟨A,.inr ⟨w.heap.size,grownCap w k 0 el,(Builtin.zeroCells z.cells (grownCap w k 0 el-k)).toList,Y,Y,?_,(B 0).2,(B 0).1⟩⟩,?_⟩
   .rw[ag,hzl,A,<-dq];simp_all
   .have:=Ends.alloc (Ends.drew (Ends.drop H)) (.cells (b.toArray++Builtin.zeroCells z.cells (grownCap w k 0 el-k)) el)
    have e:(b++(Builtin.zeroCells z.cells (grownCap w k 0 el-k)).toList).toArray=b.toArray++Builtin.zeroCells z.cells (grownCap w k 0 el-k):=by apply Array.ext';simp
    unfold BE;rw[e];exact this
  .have hgw:w.heap[g]?=some (.cells (cs++f).toArray el (0,0)):=H.st.own _ (ao) g _ (Hp.one_self _ _);by_cases M:n+k<=p
   .have T:n*i.size+b.length<=(cs++f).toArray.size:=by
     rw[L,A,iq,e1,<-dq];exact eh _ M
    have hr:=run_append_room (P:=P) w t ty el i ht hi g n p (cs++f).toArray hgw q k c b (by simp_all) r h1 M T
    have e5:(List.take (n*i.size) (cs++f).toArray.toList++b++List.drop (n*i.size+b.length) (cs++f).toArray.toList)=cs++b++f.drop b.length:=by
     rw[L,<-K];have hd:List.drop (cs.length+b.length) (cs++f)=f.drop b.length:=by rw[<-drop_drop,List.drop_left]
     simp only[List.take_left',hd,du]
    rw[e5]at hr;refine⟨_,_,_,hr,⟨by grind,.inr ⟨g,p,f.drop b.length,rfl,rfl,?_,M,e3⟩⟩,?_⟩
    .grind
    .exact Ends.change H Y ⟨Y,ak _⟩ Y σ (setRow_heap w g _ _ _ _ hgw)<|λj hj hne=>setRow_other w g j _ hne
   .have holds:∀j u,cs[j]?=some u->w.cell? ((⟨g,0,none⟩:Addr).add j)=some u:=λj u hv=>H.st.cell (Cell.blk (el:=el) (l:=cs++f) 0 Y (by grind));have hr:=run_append_grow (P:=P) w t ty el i z ht hi hz ⟨g,0,none⟩ n p cs (by simp_all) holds q k c b (by simp_all) r Z Z (by simp_all [growslice_fits]);refine⟨_,_,_,hr,⟨by grind,.inr ⟨w.heap.size,grownCap w (n+k) p el,(Builtin.zeroCells z.cells (grownCap w (n+k) p el-(n+k))).toList,rfl,rfl,?_,(B p).2,(B p).1⟩⟩,?_⟩
    .rw[ag,ag,hzl,K,A,<-dq,<-dq];simp_all
    .have:=Ends.alloc (Ends.drew (Ends.drop H)) (.cells (cs.toArray++b.toArray++Builtin.zeroCells z.cells (grownCap w (n+k) p el-(n+k))) el)
     have e:(cs++b++(Builtin.zeroCells z.cells (grownCap w (n+k) p el-(n+k))).toList).toArray=cs.toArray++b.toArray++Builtin.zeroCells z.cells (grownCap w (n+k) p el-(n+k)):=by apply Array.ext';simp
     unfold BE;rw[e];exact this
theorem Qz{u:Value}{k:Nat}{a:List Value}(i:Nat)(ho:o.op=.call { callee:=.builtin .append,args:=#[x,y],argTypes:=#[t,t] })(ht:e.P.underlying t=some (.slice el))(hs:Elem e.P el sz z bytes)(B:z.cells.size=sz)(A:0<sz)
  (hx:ev s x=some v) (hy:ev s y=some u) (p:ms[i]?=some m) (O:Own el sz m v n cs) (R:Rd h ms u sz k a) (h1:∀u∈a,u.oneCell'=true) (hb:(n+k)*bytes<=140737488355328) (f:n+k<=9223372036854775807) (hd:o.dst=some d) (hn:Nat.blt d e.n=true) (hg:o.guard=none)
  (K:∀c b,Own el sz b c (n+k) (cs++a)->WL e ops Q rest ((d,c)::s) h (ms.set i b)):WL e ops Q (o::rest) s h ms:=
 Is (post:=λc M j=>∃b,M=h/\j=ms.set i b/\Own el sz b c (n+k) (cs++a)) (λρ w S hw=>by
  obtain⟨r,L,_⟩:=FN ms i m m p;obtain⟨c,w',b,hr,hO,hE⟩:=NY (P:=e.P) (Ends.perm hw L) t o.type el ht hs B A O (R.sub (λm p=>L.mem_iff.1 p)) h1 hb f
  have:(execOp ρ o).run e.P w=.ok (.value c) w':=by simp[execOp,ho,S _ _ hx,S _ _ hy,resolve,invoke,builtin,hr]
  unfold OpRes;rw[this];obtain⟨r',q1,q2⟩:=FN ms i m b p;have pr:(b::r).Perm (ms.set i b):=((List.Perm.cons_inv (L.symm.trans q1)).cons b).trans q2.symm
  grind [Ends.perm]) hd hn hg λc M j ⟨b,T,e2,e3⟩=>by simp_all
theorem J3(v:Value)(n:Nat):madeCells #[v] n=(replicate n v).toArray:=by
 grind [Array.ext,madeCells]
theorem FE{K L:IntKind}{l c:Int}(ho:o.op=.makeSlice t x y)(ht:e.P.underlying t=some (.slice el))(hs:Elem e.P el 1 z bytes)(hz:z.cells=#[z])
  (hx:ev s x=some (.int K l)) (hy:ev s y=some (.int L c)) (hl:l=(n:Int)) (S:c=(n:Int)) (hb:bytes*n<=281474976710656) (R:n<=9223372036854775807) (T:o.dst=some d) (hn:Nat.blt d e.n=true) (hg:o.guard=none)
  (k:∀g,WL e ops Q rest ((d,.slice (some ⟨g,0,none⟩) n n)::s) h (BE g el (replicate n z)::ms)):WL e ops Q (o::rest) s h ms:=
 Is (post:=λv O u=>∃g,v=.slice (some ⟨g,0,none⟩) n n/\O=h/\u=BE g el (replicate n z)::ms) (λρ w B hw=>by
  obtain⟨i,hi,r,p,j⟩:=hs.info
  have f:(i.bytes:Int)*c<=281474976710656:=by
   rw[j,S];have h:((bytes*n:Nat):Int)<=281474976710656:=Z
   rwa [dz]at h
  have A:=run_make (P:=e.P) w t el i z ht hi r K L l c Z Z f Z
  have:(execOp ρ o).run e.P w=.ok (.value (.slice (some ⟨w.heap.size,0,none⟩) n n)) (w.alloc (.cells (replicate n z).toArray el)):=by
   have a:l.toNat=n:=Z
   have b:c.toNat=n:=Z
   rw[a,b,p,hz,km,J3]at A;simp only[execOp,ho,B _ _ hx,B _ _ hy,ep,A,dt,fl]
  unfold OpRes;rw[this]
  exact⟨h,_,Ends.alloc hw _,_,Y,Y,Y⟩) T hn hg λ_ _ _ ⟨g,a,b,M⟩=>by simp_all
end
end Go.Eng
namespace Go.Eng
open Go.RowKit
abbrev VP:=Hp->Value->Prop
abbrev Nb:=(TypeId×List Value)×(Nat->Value)
abbrev Tf:=Value ⊕ (VP ⊕ Nb)
def QP(o:Oper)(j:Nat):Bool:=o.after.any λe=>Region.binds .any e&&e.on==j
def backs(o:Oper)(i:Nat):Bool:=o.after.all λe=>!Region.binds .any e||e.on<i
def Nw(ops:Array Oper):Nat->Nat->Nat->Bool
 | 0,_,_=>false
 | n+1,i,j=>match ops[i]? with
  | none=>false
  | some o=>QP o j||o.after.any λe=>Region.binds .any e&&Nw ops n e.on j
def Bx(ops:Array Oper)(j:Nat):Option Nat:=(ops[j]?).bind (·.dst)
def _root_.Go.Op.idle:Op->Bool
 | .move (.const _)=>true
 | _=>false
theorem Aaf{o:Op}(h:o.idle=true):∃v,o=.move (.const v):=by
 unfold Op.idle at h;grind
def Vw(pu:List Nat)(ops:Array Oper)(np:Nat):Bool:=
 Nat.ble np ops.size&&(pu.all λi=>Nat.blt i ops.size)&&Region.noSelect ops &&
 (range ops.size).all λi=>match ops[i]? with
  | none=>false
  | some o=>backs o i &&
   if i<np then
    ((range np).all λj=>j==i||(match o.dst with|some d=>Bx ops j != some d|none=>true)) &&
    ((o.looksAt ops).all λt=>(range np).all λj=>Bx ops j != some t||(j<i&&QP o j))
   else if pu.contains i then o.dst.isNone&&o.guard.isNone&&o.op.idle else(range i).all λj=>pu.contains j||Nw ops ops.size i j
def OPX(P:Program)(o:Oper)(s:AG)(h:Hp)(ms:List Hp)(V:VP):Prop:=
 ∀ρ w,Evs s ρ->St w h ms->OpRes P o ρ w (λu w'=>∃h',h.le h'/\h'.inW w'/\(∀k,k<w.heap.size->h' k=h k)/\Ext w w'/\V h' u)
def Ah7(V:VP):Prop:=∀h h' u,Hp.le h h'->V h u->V h' u
def Td(q:List (Nat×VP))(val:Nat->Value):AG:=q.map λp=>(p.1,val p.1)
def Adn(q:List (Nat×VP))(val:Nat->Value)(h:Hp):Prop:=∀d V,(d,V)∈q->V h (val d)
def Wants(ops:Array Oper)(o:Oper)(s:AG)(b:Bool):Prop:=
 match o.guard with
 | none=>b=true
 | some (j,want)=>(∃dj b',Bx ops j=some dj/\lk s dj=some (.bool b')/\b=(b'==want))\/∃dj,Bx ops j=some dj/\lk s dj=some undef/\b=false
def ONB(P:Program)(o:Oper)(s:AG)(h:Hp)(ms:List Hp)(x:Nb):Prop:=
 ∀ρ w,Evs s ρ->St w h ms->OpRes P o ρ w (λu w'=>u=x.2 w.heap.size/\w'=w.alloc (.cells x.1.2.toArray x.1.1))
def StpOK(P:Program)(ops:Array Oper)(h:Hp)(ms:List Hp)(o:Oper)(s:AG)(q:List (Nat×VP)):Tf->Prop
 | .inl v=>(Wants ops o s true/\OX P o s h ms v)\/(Wants ops o s true/\∃q',(∀p∈q',p∈q/\p.1∈o.looksAt ops)/\∀h',h.le h'->∀val,Adn q' val h'->OX P o (Td q' val++s) h' ms v)\/(Wants ops o s false/\v=undef)
 | .inr (.inl V)=>Wants ops o s true/\Ah7 V/\(OPX P o s h ms V\/∃q',(∀p∈q',p∈q/\p.1∈o.looksAt ops)/\∀h',h.le h'->∀val,Adn q' val h'->OPX P o (Td q' val++s) h' ms V)
 | .inr (.inr x)=>Wants ops o s true/\(∃d,o.dst=some d)/\ONB P o s h ms x
def EE:List Oper->List Tf->AG->AG
 | o::l,.inl v::p,s=>EE l p (match o.dst with|some d=>(d,v)::s|none=>s)
 | _::l,.inr _::p,s=>EE l p s
 | _,_,s=>s
def EG:List Oper->List Tf->List (Nat×VP)
 | o::l,.inr (.inl V)::p=>(match o.dst with|some d=>[(d,V)]|none=>[])++EG l p
 | _::l,_::p=>EG l p
 | _,_=>[]
def Ej:List Oper->List Tf->List (Nat×Nb)
 | o::l,.inr (.inr x)::p=>(match o.dst with|some d=>[(d,x)]|none=>[])++Ej l p
 | _::l,_::p=>Ej l p
 | _,_=>[]
def T4(al:List (Nat×Nb))(γ:Nat->Nat):AG:=al.map λp=>(p.1,p.2.2 (γ p.1))
def TG(al:List (Nat×Nb))(γ:Nat->Nat):List Hp:=al.map λp=>BE (γ p.1) p.2.1.1 p.2.1.2
def WR(e:Entry)(ops:Array Oper)(Q:Exit->Act->World->Prop)(tl:List Oper)(h:Hp)(ms:List Hp):List Oper->AG->List (Nat×VP)->List (Nat×Nb)->Prop
 | [],s,q,al=>(q=[]/\∀γ,WL e ops Q tl (T4 al γ++s) h (TG al γ++ms))\/∀h',h.le h'->∀val γ,Adn q val h'->WL e ops Q tl (Td q val++(T4 al γ++s)) h' (TG al γ++ms)
 | o::l,s,q,al=>
  (∃v,StpOK e.P ops h ms o s q (.inl v)/\WR e ops Q tl h ms l (match o.dst with|some d=>(d,v)::s|none=>s) q al) ∨
  (∃V,StpOK e.P ops h ms o s q (.inr (.inl V))/\WR e ops Q tl h ms l s (q++match o.dst with|some d=>[(d,V)]|none=>[]) al) ∨
  (∃x,StpOK e.P ops h ms o s q (.inr (.inr x))/\WR e ops Q tl h ms l s q (al++match o.dst with|some d=>[(d,x)]|none=>[]))
def PlanOK(P:Program)(ops:Array Oper)(h:Hp)(ms:List Hp):List Oper->List Tf->AG->List (Nat×VP)->Prop
 | [],[],_,_=>True
 | o::l,st::p,s,q=>StpOK P ops h ms o s q st/\PlanOK P ops h ms l p (match st with|.inl v=>(match o.dst with|some d=>(d,v)::s|none=>s)|_=>s) (match st with|.inr (.inl V)=>q++(match o.dst with|some d=>[(d,V)]|none=>[])|_=>q)
 | _,_,_,_=>False
theorem MD{e:Entry}{b:Array Oper}{Q:Exit->Act->World->Prop}{n:List Oper}{h:Hp}{k:List Hp}:∀(l:List Oper) (s:AG) (q:List (Nat×VP)) (c:List (Nat×Nb)),WR e b Q n h k l s q c →
  ∃a,a.length=l.length/\PlanOK e.P b h k l a s q ∧
   ((q++EG l a=[]/\∀γ,WL e b Q n (T4 (c++Ej l a) γ++EE l a s) h (TG (c++Ej l a) γ++k)) ∨
    ∀m,h.le m->∀val γ,Adn (q++EG l a) val m->WL e b Q n (Td (q++EG l a) val++(T4 (c++Ej l a) γ++EE l a s)) m (TG (c++Ej l a) γ++k))
 | [],s,q,c,H=>⟨[],rfl,fu,by grind [WR,EG,Ej,EE]⟩
 | o::l,s,q,c,H=>by
  rcases H with ⟨v,i,j⟩|⟨p,i,j⟩|⟨x,i,j⟩
  .obtain⟨a,d,f,g⟩:=MD l _ _ _ j;exact⟨.inl v::a,by simp[d],⟨i,f⟩,by simpa[EG,Ej,EE] using g⟩
  .obtain⟨a,d,f,g⟩:=MD l _ _ _ j;exact⟨.inr (.inl p)::a,by simp[d],⟨i,f⟩,by simpa[EG,Ej,EE,du] using g⟩
  .obtain⟨a,d,f,g⟩:=MD l _ _ _ j;exact⟨.inr (.inr x)::a,by simp[d],⟨i,f⟩,by simpa[EG,Ej,EE,du] using g⟩
theorem PlanOK.get{P:Program}{a:Array Oper}{h:Hp}{f:List Hp}:∀(l:List Oper) (c:List Tf) (s:AG) (q:List (Nat×VP)),PlanOK P a h f l c s q →
  ∀i o,l[i]?=some o->∃b,c[i]?=some b/\StpOK P a h f o (EE (l.take i) (c.take i) s) (q++EG (l.take i) (c.take i)) b
 | [],[],_,_,_,i,o,e=>by cases e
 | [],_::_,_,_,H,_,_,_=>H.elim
 | _::_,[],_,_,H,_,_,_=>H.elim
 | o::l,b::p,s,q,H,i,o',e=>by
  cases i with
  | zero=>simp at e;subst e;exact⟨b,Y,by simpa[EE,EG] using H.1⟩
  | succ i=>
   obtain⟨d,g,j⟩:=PlanOK.get l p _ _ H.2 i o' (by simpa using e);refine⟨d,by simpa using g,?_⟩;rcases b with v|k|x<;>simpa[EE,EG,du] using j
theorem KR:∀(l:List Oper) (g:List Tf) (s:AG) (t:Nat) (u:Value),lk (EE l g s) t=some u →
  (∃(j:Nat) (o:Oper),l[j]?=some o/\o.dst=some t/\g[j]?=some (.inl u))\/lk s t=some u
 | [],_,s,t,u,h=>.inr (by grind [EE])
 | o::l,[],s,t,u,h=>.inr (by grind [EE])
 | o::l,.inl v::p,s,t,u,h=>by
  rcases KR l p _ t u (by simpa[EE] using h) with ⟨j,f,b,c,e⟩|h
  .exact .inl ⟨j+1,f,by simpa using b,c,by simpa using e⟩
  .cases hd:o.dst with
   | none=>simp[hd]at h;exact .inr h
   | some d=>
    simp[hd]at h;by_cases a:d=t
    .subst a;rw[BM]at h;cases h;exact .inl ⟨0,o,Y,hd,Y⟩
    .rw[BR _ _ a]at h;exact .inr h
 | o::l,.inr x::p,s,t,u,h=>by
  rcases KR l p _ t u (by simpa[EE] using h) with ⟨j,f,b,c,e⟩|h
  .exact .inl ⟨j+1,f,by simpa using b,c,by simpa using e⟩
  .exact .inr h
theorem HI:∀(l:List Oper) (f:List Tf) (d:Nat) (g:VP),(d,g)∈EG l f->∃(j:Nat) (o:Oper),l[j]?=some o/\o.dst=some d/\f[j]?=some (.inr (.inl g))
 | [],_,d,g,h=>by cases h
 | o::l,[],d,g,h=>by cases h
 | o::l,.inl v::p,d,g,h=>by obtain⟨j,e,a,b,c⟩:=HI l p d g (by simpa[EG] using h);exact⟨j+1,e,by simpa using a,b,by simpa using c⟩
 | o::l,.inr (.inl W)::p,d,g,h=>by
  simp only[EG,bi]at h;rcases h with h|h
  .cases hd:o.dst with
   | none=>simp[hd]at h
   | some d'=>simp[hd]at h;exact⟨0,o,Y,by rw[hd,h.1],by simp[h.2]⟩
  .obtain⟨j,e,a,b,c⟩:=HI l p d g h;exact⟨j+1,e,by simpa using a,b,by simpa using c⟩
 | o::l,.inr (.inr x)::p,d,g,h=>by obtain⟨j,e,a,b,c⟩:=HI l p d g (by simpa[EG] using h);exact⟨j+1,e,by simpa using a,b,by simpa using c⟩
theorem Js:∀(l:List Oper) (f:List Tf) (d:Nat) (x:Nb),(d,x)∈Ej l f->∃(j:Nat) (o:Oper),l[j]?=some o/\o.dst=some d/\f[j]?=some (.inr (.inr x))
 | [],_,d,V,h=>by cases h
 | o::l,[],d,V,h=>by cases h
 | o::l,.inl v::p,d,V,h=>by obtain⟨j,e,a,b,c⟩:=Js l p d V (by simpa[Ej] using h);exact⟨j+1,e,by simpa using a,b,by simpa using c⟩
 | o::l,.inr (.inr W)::p,d,V,h=>by
  simp only[Ej,bi]at h;rcases h with h|h
  .cases hd:o.dst with
   | none=>simp[hd]at h
   | some d'=>simp[hd]at h;exact⟨0,o,Y,by rw[hd,h.1],by simp[h.2]⟩
  .obtain⟨j,e,a,b,c⟩:=Js l p d V h;exact⟨j+1,e,by simpa using a,b,by simpa using c⟩
 | o::l,.inr (.inl x)::p,d,V,h=>by obtain⟨j,e,a,b,c⟩:=Js l p d V (by simpa[Ej] using h);exact⟨j+1,e,by simpa using a,b,by simpa using c⟩
structure Pre(pu:List Nat)(ops:Array Oper)(np:Nat):Prop where
 le:np<=ops.size
 low:∀i,pu.contains i=true->i<ops.size
 nosel:Region.noSelect ops=true
 backs:∀i o,ops[i]?=some o->∀e∈o.after,Region.binds .any e=true->e.on<i
 uniq:∀i j o d,ops[i]?=some o->i<np->j<np->o.dst=some d->Bx ops j=some d->j=i
 look:∀i o t j,ops[i]?=some o->i<np->t∈o.looksAt ops->j<np->Bx ops j=some t->j<i/\QP o j=true
 tail:∀i j,i<ops.size->np<=i->pu.contains i=false->j<i->pu.contains j=true\/Nw ops ops.size i j=true
 zap:∀i o,ops[i]?=some o->np<=i->pu.contains i=true->o.dst=none/\o.guard=none/\∃v,o.op=.move (.const v)
theorem Wy{v:List Nat}{a:Array Oper}{n:Nat}(h:Vw v a n=true):Pre v a n:=by
 simp only[Vw,df,dy,b6]at h;obtain⟨⟨⟨y,p⟩,z⟩,k⟩:=h;have at_:∀i o,a[i]?=some o->i<a.size:=λi o e=>(cj.1 e).1;refine⟨d5 y,λi c=>d5 (p i (by simp_all)),z,?_,?_,?_,?_,?_⟩
 .intro i o e x L9 A;have:=k i (at_ i o e);simp only[e,df]at this;have b:=Array.all_eq_true_iff_forall_mem.1 this.1 x L9;simp_all
 .intro i j o d e c l r s;have:=k i (at_ i o e);simp only[e,df,c,if_true,dy,b6,r]at this;grind
 .intro i o t j e c B l r;have:=k i (at_ i o e);simp only[e,df,c,if_true,dy,b6]at this;grind
 .grind
 .intro i o e c g;have:=k i (at_ i o e);have f:¬i<n:=Z
  simp_all [Aaf]
theorem Jm{o:Oper}{j:Nat}(h:QP o j=true):∃e∈o.after,Region.binds .any e=true/\e.on=j:=by obtain⟨e,b,a⟩:=Array.any_eq_true'.1 h;grind
theorem Nh{d:Array Oper}{a:Array Bool}{i:Nat}{o:Oper}(k:d[i]?=some o)(l:i∈Region.ready .any d a){j:Nat}(h:QP o j=true):a.getD j false=true:=by grind [ir,Jm]
def Closed(ops:Array Oper)(listed:Array Bool):Prop:=∀i o,listed.getD i false=true->ops[i]?=some o->∀e∈o.after,Region.binds .any e=true->listed.getD e.on false=true
theorem KB{b:Array Oper}{a:Array Bool}(k:Closed b a):∀(n i j:Nat) (o:Oper),b[i]?=some o->(∀e∈o.after,Region.binds .any e=true->a.getD e.on false=true)->Nw b n i j=true->a.getD j false=true
 | 0,_,_,_,_,_,h=>by cases h
 | n+1,i,j,o,ho,hall,h=>by
  simp only[Nw,ho,Bool.or_eq_true]at h;rcases h with h|h
  .grind [Jm]
  .obtain⟨e,f,c⟩:=Array.any_eq_true'.1 h;simp only[df]at c;have m:=hall e f c.1;cases ho':b[e.on]? with
   | none=>
    induction n<;>grind [Nw]
   | some o'=>exact KB k n e.on j o' ho' (λl g d=>k e.on o' m ho' l g d) c.2
theorem Me{b:Array Oper}{a:Array Bool}(d:Closed b a){n i:Nat}(f:i∈Region.ready .any b a){j:Nat}(h:Nw b n i j=true):a.getD j false=true:=by grind [ir,KB]
theorem Closed.set{b:Array Oper}{a:Array Bool}(m:Closed b a){i:Nat}(n:i∈Region.ready .any b a):Closed b (a.setIfInBounds i true):=by
 intro k o j l e h g;refine getD_set_true ?_;by_cases d:i=k
 .grind [ir]
 .rw[getD_set_ne false d]at j;exact m k o j l e h g
def left(listed:Array Bool):Nat:=listed.toList.countP (! ·)
theorem VU(l:List Bool)(i:Nat)(h:l[i]?=some false):(l.set i true).countP (! ·)+1=l.countP (! ·):=by
 grind
theorem OU{a:Array Bool}{i:Nat}(h:a[i]?=some false):left (a.setIfInBounds i true)+1=left a:=by grind [left,Array.toList_setIfInBounds,VU]
theorem Qh{a:Array Bool}(h:left a=0)(i:Nat):a.getD i true=true:=by
 unfold left at h;rw[List.countP_eq_zero]at h;rw[bo];cases e:a[i]? with
 | none=>rfl
 | some b=>
  have:=h b (by rw[iw];exact Array.mem_of_getElem? e);simp_all
theorem BT{a:Array Bool}{i:Nat}(h:a.getD i true=false):a[i]?=some false:=by
 rw[bo]at h;grind
theorem Acj{P:Program}{z:List Nat}{c:Array Oper}{Q:Exit->Act->World->Prop}{np:Nat}(hp:Pre z c np):∀(l:List Oper) (k fuel:Nat) (b:Array Bool) (a:Act) (w:World),
  c.toList.drop k=l->np<=k->Closed c b->b.size=c.size->(∀j,j<c.size->(b.getD j false=true<->(j<k\/z.contains j=true)))->left b<=fuel->wpList P c Q l a w->wpAny P .any c Q fuel b a w:=by
 intro l
 induction l with
 | nil=>
  intro k fuel b a w T hk s hs d hf h;have hk':c.size<=k:=by simpa using List.drop_eq_nil_iff.1 T
  refine wpAny_done ?_ h fuel;cases hr:Region.ready .any c b with
  | nil=>rfl
  | cons x xs=>
   grind [Region.ready,ao,ir,cj,BT,bo]
 | cons o l ih=>
  intro k fuel b a w T hk s hs d hf h
  have m:c[k]?=some o:=by
   have:(c.toList.drop k)[0]?=some o:=by rw[T];rfl
   simpa using this
  have S:k<c.size:=(cj.1 m).1;by_cases g:z.contains k=true
  .obtain⟨z1,z2,v,z3⟩:=hp.zap k o m hk g;refine ih (k+1) fuel b a w (by rw[<-drop_drop,T];rfl) Z s hs (λj A=>?_) hf ?_
   .grind
   .unfold wpList at h;rw[ah (by simp[Region.wanted,z2])]at h;have hrun:(execOp a.eval o).run P w=.ok (.value v) w:=by simp[execOp,z3,Act.eval]
    rcases h with h|h
    .grind [Oper.wp,Oper.upon,Act.put]
    .have f:=h.1.1;have e1:execOp a.eval o=(pure (Next.value v):Sem Next):=by simp only[execOp,z3,Act.eval]
     rw[e1]at f;have e2:(Sem.runT P (pure (Next.value v):Sem Next) w #[]).2=#[]:=rfl;simp_all
  have hkpu':z.contains k=false:=by simpa using g
  have u:b[k]?=some false:=by
   have p:k<b.size:=Z
   cases e:b[k] with
   | false=>simp[p,e]
   | true=>
    simp_all
  have hl1:=OU u;cases fuel with
  | zero=>omega
  | succ fuel=>
   have r:∀j∈Region.ready .any c b,j=k:=by
    intro j A;obtain⟨B,o',ho',_⟩:=ir.1 A;have t:=(cj.1 ho').1
    have O:¬(j<k\/z.contains j=true):=λs=>by have:=(d j t).2 s;rw[bo,BT B]at this;cases this
    have L:¬j<k:=λs=>O (.inl s)
    have R:z.contains j=false:=by
     cases e:z.contains j with
     | false=>rfl
     | true=>exact lj (.inr e) O
    by_cases M:j=k
    .exact M
    .have:=Me s A ((hp.tail j k t Z R Z).resolve_left g);rw[bo,u]at this;cases this
   have y:k∈Region.ready .any c b:=ir.2 ⟨by rw[bo,u];rfl,o,m,λe he hb=>(d e.on (by have:=hp.backs k o m e he hb;omega)).2 (.inl (hp.backs k o m e he hb))⟩;refine⟨λB=>(by rw[B]at y;cases y),λj A=>?_⟩;obtain rfl:=r j A
   have n:∀a w,wpList P c Q l a w->wpAny P .any c Q fuel (b.setIfInBounds j true) a w:=λa w hw=>by
    refine ih (j+1) fuel _ a w ?_ Z (s.set y) (by simpa using hs) ?_ Z hw
    .rw[<-drop_drop,T];rfl
    .intro i hi;by_cases K:i=j
     .subst K;have:i<b.size:=Z
      simp[bo,this]
     .rw[bo,ft (gx K),<-bo,d i hi];constructor
      .rintro(f|f)
       .exact .inl Z
       .exact .inr f
      .rintro(f|f)
       .exact .inl Z
       .exact .inr f
   grind [wpOp,wpList,Oper.wp_mono,id]
def Es(pl:List Tf)(dst:Nat->Option Nat)(γ:Nat->Nat)(j:Nat):List Hp:=
 match pl[j]?,dst j with
 | some (.inr (.inr x)),some d=>[BE (γ d) x.1.1 x.1.2]
 | _,_=>[]
def Rel(h:Hp)(γ:Nat->Nat)(d:Nat)(u:Value):Tf->Prop
 | .inl v=>u=v
 | .inr (.inl V)=>Ah7 V/\V h u
 | .inr (.inr x)=>u=x.2 (γ d)
structure Mid(e:Entry)(pu:List Nat)(ops:Array Oper)(np:Nat)(pl:List Tf)(s0:AG)(h0:Hp)(ms:List Hp)(listed:Array Bool)(a:Act)(w:World)(h:Hp)(γ:Nat->Nat):Prop where
 le:h0.le h
 ends:e.Ends w h (((range np).flatMap λj=>if listed.getD j false then Es pl (Bx ops) γ j else [])++ms)
 defers:a.defers=mkD e.ds
 size:a.tmps.size=e.n
 old:∀t u,lk s0 t=some u->(∀j,j<np->Bx ops j≠some t)->a.tmps[t]?=some u
 new:∀j,j<np->listed.getD j false=true->∀d,Bx ops j=some d->∃u st,a.tmps[d]?=some u/\pl[j]?=some st/\Rel h γ d u st
 later:∀j,np<=j->listed.getD j false=pu.contains j
 lsize:listed.size=ops.size
 closed:Closed ops listed
 pure:∀j,pu.contains j=true->listed.getD j false=true
theorem DA(a s:AG)(t:Nat):lk (a++s) t=(lk a t).or (lk s t):=by
 induction a<;>grind [lk,bg,BM,BR]
theorem RH:∀(s:AG) (t:Nat) (u:Value),lk s t=some u->(t,u)∈s
 | (i,v)::s,t,u,h=>by
  by_cases a:i=t
  .subst a;rw[BM]at h;cases h;exact ao
  .rw[BR _ _ a]at h;exact am _<|RH s t u h
theorem Ends.grow{u w p:World}{r h i a:Hp}{g t:List Hp}(A:Ends u r g w h t)(s:i.le h)(y:i.le a)(n:a.inW p)(d:∀k,k<w.heap.size->a k=i k)(x:Ext w p) :
  h.le (h.join a)/\a.le (h.join a)/\Ends u r g p (h.join a) t:=by
 have c:=A.ext x
 have l:∀k,k<w.heap.size->(h.join a) k=h k:=λk b=>by
  unfold Hp.join;cases e:h k with
  | some o=>rfl
  | none=>
   simp only;rw[d k b];cases f:i k with
   | none=>rfl
   | some o=>rw[s k o f]at e;cases e
 refine⟨Hp.le_join _ _,?_,⟨⟨?_,c.st.own,?_,c.st.apart⟩,c.os,c.tape,c.output,c.size,c.block,Hp.le_trans c.le (Hp.le_join _ _),?_,c.mnew⟩⟩
 .intro k o e;rcases ii k w.heap.size with b|b
  .rw[l k b];rw[d k b]at e;exact s k o e
  .have:h k=none:=Hp.inW_none A.st.imm b;grind [Hp.join]
 .intro k o e;unfold Hp.join at e;split at e
  .rename_i z v;cases e;exact c.st.imm k _ v
  .exact n k o e
 .intro m j k;cases e:m k with
  | none=>simp_all
  | some o=>
   right
   have b:k<w.heap.size:=Hp.inW_lt (A.st.own m j) e;rw[l k b];rcases A.st.off m j k with f|f
   all_goals simp_all
 .intro k b j;rw[l k (b7 b A.size)];exact A.hnew k b j
theorem St.weaken{w:World}{h c:Hp}{i a:List Hp}(s:St w h i)(f:c.le h)(d:a.Sublist i):St w c a:=
 ⟨λg o e=>s.imm g o (f g o e),λm b=>s.own m (d.subset b),λm b k=>by
  rcases s.off m (d.subset b) k with e|e
  .simp_all
  .right
   cases e2:c k with
   | none=>rfl
   | some o=>(rw[f k o e2]at e;cases e),s.apart.sublist d⟩
theorem Ends.back{e w j:World}{b h c:Hp}{a g d:List Hp}(k:Ends e b a w h g)(f:Ends e b a j c d)(i:c.le h):Ends e b a w c g:=
 ⟨k.st.weaken i (lg _),k.os,k.tape,k.output,k.size,k.block,f.le,f.hnew,k.mnew⟩
theorem OpRes.congr{P:Program}{o:Oper}{ρ a:Operand->Value}{w:World}{Φ:Value->World->Prop}(c:∀cs b,o.op≠.select cs b)(h:∀x∈o.op.operands,ρ x=a x)(k:OpRes P o ρ w Φ):OpRes P o a w Φ:=by grind [OpRes,execOp_congr]
theorem Act.eval_of_slot{a:Act}{t:Nat}{u:Value}(h:a.tmps[t]?=some u):a.eval (.tmp t)=u:=by simp_all [Act.eval,bo]
theorem OpRes.looks{P:Program}{e:Array Oper}{o:Oper}{a:Act}{w:World}{s:AG}{Φ:Value->World->Prop}(i:∀cs b,o.op≠.select cs b)(h:∀t∈o.looksAt e,∀u,lk s t=some u->a.tmps[t]?=some u)
  (k:∀ρ,Evs s ρ->OpRes P o ρ w Φ):OpRes P o a.eval w Φ:=by
 classical
 refine OpRes.congr (ρ:=λx=>if x∈o.op.operands then a.eval x else(ev s x).getD undef) i (λx d=>ah d)<|k _ λx u c=>?_;show(if x∈o.op.operands then a.eval x else(ev s x).getD undef)=u;split
 .rename_i d;cases x with
  | tmp t=>
   refine Act.eval_of_slot<|h t ?_ u c;exact eg _<|List.mem_filterMap.2 ⟨.tmp t,by simp_all,rfl⟩
  | const v=>cases c;rfl
  | global g=>cases c;rfl
  | func f=>cases c;rfl
 .rw[c];rfl
theorem L4{α:Type}(x:α)(f b:Nat->List α)(i:Nat):∀(l:List Nat),l.Nodup->i∈l->(∀j∈l,j≠i->b j=f j)->f i=[]->b i=[x]->(x::l.flatMap f).Perm (l.flatMap b)
 | [],_,h,_,_,_=>by cases h
 | j::l,hn,hi,ho,e1,e2=>by
  simp only[eo];by_cases m:j=i
  .subst m;rw[e1,e2];have d:j ∉ l:=(gt.1 hn).1
   have:l.flatMap b=l.flatMap f:=by
    have:∀(c:List Nat),(∀k∈c,k≠j/\k∈j::l)->c.flatMap b=c.flatMap f:=by
     intro c
     induction c with
     | nil=>intro _;rfl
     | cons k c ih=>intro a;simp only[eo];rw[ho k (a k σ).2 (a k σ).1,ih λr n=>a r (am _ n)]
    exact this l λk a=>⟨λe=>d<|e ▸ a,am _ a⟩
   simp_all
  .rw[ho j σ m];have g:i∈l:=(be.1 hi).resolve_left (λe=>m e.symm);have:=L4 x f b i l (gt.1 hn).2 g (λk a p=>ho k (am _ a) p) e1 e2;exact(List.perm_middle.symm).trans (List.Perm.append_left _ this)
theorem Ga{α:Type}(f a:Nat->List α):∀(l:List Nat),(∀j∈l,a j=f j)->l.flatMap a=l.flatMap f
 | [],_=>rfl
 | j::l,h=>by simp only[eo];rw[h j σ,Ga f a l λk b=>h k (am _ b)]
theorem XR(γ:Nat->Nat):∀(l:List Oper) (b:List Tf),b.length=l.length →
  (range l.length).flatMap (λj=>Es b (λj=>(l[j]?).bind (·.dst)) γ j)=TG (Ej l b) γ
 | [],[],_=>rfl
 | o::l,st::b,h=>by
  have e:=XR γ l b (by simpa using h);rw[de,List.range_succ_eq_map,eo,List.flatMap_map]
  have c:(range l.length).flatMap (λa=>Es (st::b) (λj=>((o::l)[j]?).bind (·.dst)) γ (Nat.succ a))=TG (Ej l b) γ:=by rw[<-e];refine Ga _ _ _ λj _=>?_;simp[Es]
  rw[c];rcases st with v|f|x
  all_goals grind [Ej,Es,TG]
section sound
variable {e:Entry} {pu:List Nat} {ops:Array Oper} {np:Nat} {pl:List Tf} {s0:AG} {h0:Hp} {ms:List Hp} {listed:Array Bool} {a:Act} {w:World} {h:Hp} {γ:Nat->Nat}
theorem Mid.look(M:Mid e pu ops np pl s0 h0 ms listed a w h γ)(A:Pre pu ops np)(s:pl.length=np)(y:∀j,j<np->∀d,Bx ops j=some d->lk s0 d=none){i:Nat}{o:Oper}(r:ops[i]?=some o)(k:i<np)(B:i∈Region.ready .any ops listed){t:Nat}(K:t∈o.looksAt ops){u:Value}
  (L:lk (EE (ops.toList.take i) (pl.take i) s0) t=some u):a.tmps[t]?=some u:=by
 rcases KR _ _ _ _ _ L with ⟨j,O,b,x,p⟩|b
 .have c:j<i:=by
   have:=(bq.1 b).1;simp at this;omega
  have l:ops[j]?=some O:=by rw[gl,ah c]at b;simpa using b
  have f:pl[j]?=some (.inl u):=by rw[gl,ah c]at p;exact p
  have g:Bx ops j=some t:=by simp[Bx,l,x]
  obtain⟨_,L9⟩:=A.look i o t j r k K Z g;obtain⟨Q,P,v,m,n⟩:=M.new j Z (Nh r B L9) t g;grind [Rel]
 .exact M.old t u b λj z g=>by grind
theorem Mid.lookQ(M:Mid e pu ops np pl s0 h0 ms listed a w h γ)(x:Pre pu ops np){i:Nat}{o:Oper}(p:ops[i]?=some o)(k:i<np)(z:i∈Region.ready .any ops listed){d:Nat}{L:VP}(v:d∈o.looksAt ops)(y:(d,L)∈EG (ops.toList.take i) (pl.take i)) :
  ∃u,a.tmps[d]?=some u/\L h u:=by
 obtain⟨j,A,g,t,n⟩:=HI _ _ _ _ y
 have c:j<i:=by have:=(bq.1 g).1;simp at this;omega
 have l:ops[j]?=some A:=by rw[gl,ah c]at g;simpa using g
 have f:pl[j]?=some (.inr (.inl L)):=by rw[gl,ah c]at n;exact n
 have b:Bx ops j=some d:=by simp[Bx,l,t]
 obtain⟨_,L9⟩:=x.look i o d j p k v Z b;obtain⟨B,K,r,m,s⟩:=M.new j Z (Nh p z L9) d b;rw[f]at m;cases m;exact⟨B,r,s.2⟩
theorem Rel.le{h c:Hp}{γ:Nat->Nat}{d:Nat}{u:Value}{b:Tf}(f:h.le c)(r:Rel h γ d u b):Rel c γ d u b:=by
 rcases b with v|g|x
 .exact r
 .exact⟨r.1,r.1 _ _ _ f r.2⟩
 .exact r
theorem Mid.next(M:Mid e pu ops np pl s0 h0 ms listed a w h γ)(hp:Pre pu ops np)(hlen:pl.length=np){i:Nat}{o:Oper}(P:ops[i]?=some o)(m:i<np)(g:i∈Region.ready .any ops listed)(hun:listed.getD i true=false)(y:∀d,o.dst=some d->d<e.n){Q:Tf}(hst:pl[i]?=some Q){u:Value}{w':World}{L:Hp}{s:Nat->Nat}
  (hl:h.le L) (hγ:∀d,o.dst≠some d->s d=γ d) (hγ0:(∀x,Q≠.inr (.inr x))->s=γ) (hR:∀d,o.dst=some d->Rel L s d u Q)
  (O:e.Ends w' L (Es pl (Bx ops) s i++(((range np).flatMap λj=>if listed.getD j false then Es pl (Bx ops) γ j else [])++ms))) :
  Mid e pu ops np pl s0 h0 ms (listed.setIfInBounds i true) (a.put o.dst u) w' L s:=by
 have A:i<listed.size:=by rw[M.lsize];exact(cj.1 P).1
 have z:Bx ops i=o.dst:=by simp[Bx,P]
 have c:∀j d,(listed.setIfInBounds i true).getD j d=if j=i then true else listed.getD j d:=λj d=>by
  by_cases f:j=i
  .simp_all
  .rw[getD_set_ne d (gx f)];simp[f]
 have B:listed.getD i false=false:=by rw[bo,BT hun];rfl
 have k:∀j,j≠i->j<np->Es pl (Bx ops) s j=Es pl (Bx ops) γ j:=λj f hjn=>by
  unfold Es;split
  .rename_i x d R S;rw[hγ d (λT=>f (hp.uniq i j o d P m hjn T S))]
  .rfl
 refine⟨Hp.le_trans M.le hl,?_,by cases l:o.dst<;>exact M.defers,?_,?_,?_,?_,by simpa using M.lsize,M.closed.set g,λj f=>getD_set_true (M.pure j f)⟩
 ·-- resources
  cases g:Es pl (Bx ops) s i with
  | nil=>
   rw[g,aw]at O;refine Ends.perm O<|List.Perm.of_eq ?_;congr 1;refine(Ga _ _ _ λj f=>?_).symm;rw[c];grind
  | cons x xs=>
   have hx:xs=[]:=by
    unfold Es at g;split at g
    .simp at g;exact g.2
    .cases g
   subst hx;rw[g,jo,<-bg]at O;refine Ends.perm O<|List.Perm.append_right _ ?_;refine L4 x _ _ i _ List.nodup_range (by simpa using m) ?_ (by simp[B]) (by rw[c];simp[g]);simp_all
 .cases l:o.dst<;>simp[Act.put,M.size]
 .intro t v hv r;have n:o.dst≠some t:=by rw[<-z];exact r i m
  cases l:o.dst with
  | none=>exact M.old t v hv r
  | some d=>
   have:d≠t:=λe=>n (by rw[l,e]);simp[Act.put,ft this,M.old t v hv r]
 .intro j f p d l;by_cases b:j=i
  .subst b;rw[z]at l;refine⟨u,Q,?_,hst,hR d l⟩;rw[l];simp[Act.put,M.size,y d l]
  .rw[c]at p;simp only[b,if_false]at p;obtain⟨u',K,R,S,T⟩:=M.new j f p d l;have n:o.dst≠some d:=λe'=>b (hp.uniq i j o d P m f e' l);refine⟨u',K,?_,S,?_⟩
   .cases hd':o.dst with
    | none=>exact R
    | some d'=>
     have:d'≠d:=λe=>n (by rw[hd',e]);simp[Act.put,ft this,R]
   grind [Rel.le,Rel]
 .intro j f;rw[c];have:j≠i:=Z
  simp only[this,if_false];exact M.later j f
theorem Gy{s:AG}{o:Oper}{b:Bool}(r:∀t∈o.looksAt ops,∀u,lk s t=some u->a.tmps[t]?=some u)(h:Wants ops o s b):Region.wanted o (yielded ops a.tmps)=b:=by
 unfold Wants at h;unfold Region.wanted;cases hg:o.guard with
 | none=>simp_all
 | some p=>
  obtain⟨j,i⟩:=p;simp only[hg]at h
  have g:∀c u,Bx ops j=some c->lk s c=some u->a.tmps[c]?=some u:=λc u d f=>by refine r c ?_ _ f;unfold Oper.looksAt;refine ej _ ?_;simp only[hg];unfold Bx at d;rw[d];simp
  rcases h with ⟨c,k,d,f,l⟩|⟨c,d,f,l⟩
  all_goals simp_all [yielded,Bx,undef,bool]
theorem Mid.step(M:Mid e pu ops np pl s0 h0 ms listed a w h γ)(hp:Pre pu ops np)(s:pl.length=np)(hf:∀j,j<np->∀d,Bx ops j=some d->lk s0 d=none)(hbig:∀j,j<np->∀d,Bx ops j=some d->d<e.n){i:Nat}{o:Oper}(T:ops[i]?=some o)(n:i<np)(hr:i∈Region.ready .any ops listed)
  {st:Tf} (P:pl[i]?=some st) (hok:StpOK e.P ops h0 ms o (EE (ops.toList.take i) (pl.take i) s0) (EG (ops.toList.take i) (pl.take i)) st) {Q:Exit->Act->World->Prop} {K:Act->World->Prop}
  (hK:∀a' w' h' γ',Mid e pu ops np pl s0 h0 ms (listed.setIfInBounds i true) a' w' h' γ'->K a' w'):wpOp e.P ops Q i K a w:=by
 have hun:=(ir.1 hr).1;have hdi:Bx ops i=o.dst:=by simp[Bx,T]
 have m:∀d,o.dst=some d->d<e.n:=λd hd=>hbig i n d (by rw[hdi,hd]);have c:=λ(t:Nat) (ht:t∈o.looksAt ops) (u:Value) hu=>M.look hp s hf T n hr ht (u:=u) hu;have l:∀cs b,o.op≠.select cs b:=λcs b=>Region.noSelect_spec hp.nosel i o cs b T;have R:St w h0 ms:=M.ends.st.weaken M.le (List.sublist_append_right _ _);have hsth:St w h ms:=M.ends.st.weaken (Hp.le_refl _) (List.sublist_append_right _ _);unfold wpOp;simp only[T]
 have L:(∀x,st≠.inr (.inr x))->Es pl (Bx ops) γ i=[]:=λhne=>by
  simp_all [Es]
 have S:∀q',(∀p∈q',p∈EG (ops.toList.take i) (pl.take i)/\p.1∈o.looksAt ops)->Adn q' (λd=>(a.tmps[d]?).getD undef) h/\∀t∈o.looksAt ops,∀u,lk (Td q' (λd=>(a.tmps[d]?).getD undef)++EE (ops.toList.take i) (pl.take i) s0) t=some u->a.tmps[t]?=some u:=λq' z=>by
  refine⟨λd V hdV=>?_,λt ht u hu=>?_⟩
  .obtain⟨h1,h2⟩:=z _ hdV;obtain⟨u,A,e2⟩:=M.lookQ hp T n hr h2 h1;simp_all
  .rw[DA]at hu;cases hq:lk (Td q' λd=>(a.tmps[d]?).getD undef) t with
   | none=>simp_all
   | some u'=>
    rw[hq]at hu;cases hu;have hm:=RH _ _ _ hq;unfold Td at hm;obtain⟨p,hp',A⟩:=ai.1 hm;obtain⟨d,V⟩:=p;simp only[kg]at A;obtain⟨rfl,rfl⟩:=A;obtain⟨h1,h2⟩:=z _ hp';obtain⟨u,A,e2⟩:=M.lookQ hp T n hr h2 h1;simp[A]
 -- an exact value,or none
 have f:∀v,st=.inl v->∀w',Ext w w'->K (a.put o.dst v) w':=λv hv w' he=>by subst hv;refine hK _ _ h γ<|M.next hp s T n hr hun m P (Hp.le_refl _) (λ_ _=>rfl) (λ_=>rfl) (λd _=>rfl) ?_;rw[L (λx r=>by cases r),aw];exact Ends.ext M.ends he
 rcases st with v|V|x
 .rcases hok with ⟨hw,r⟩|⟨hw,q',z,r⟩|⟨hw,rfl⟩
  .rw[Gy c hw,ah rfl];exact .inl ((OpRes.looks l c λρ hρ=>r ρ w hρ R).wp λv' w' ⟨A,e2⟩=>by subst A;exact f _ Y w' e2)
  .rw[Gy c hw,ah rfl];obtain⟨O,g⟩:=S q' z;exact .inl ((OpRes.looks l g λρ hρ=>r h M.le _ O ρ w hρ hsth).wp λv' w' ⟨A,e2⟩=>by subst A;exact f _ Y w' e2)
  grind [Gy,Ext.refl]
 .obtain⟨hw,B,r⟩:=hok;rw[Gy c hw,ah rfl]
  have fin:∀(h1:Hp) (u:Value) (w':World),h1.le h->(∃h':Hp,h1.le h'/\h'.inW w'/\(∀k,k<w.heap.size->h' k=h1 k)/\Ext w w'/\V h' u)->K (a.put o.dst u) w':=λh1 u w' hl ⟨h',g1,g2,g3,g4,g5⟩=>by obtain⟨l1,l2,E⟩:=Ends.grow M.ends hl g1 g2 g3 g4;refine hK _ _ _ γ<|M.next hp s T n hr hun m P l1 (λ_ _=>rfl) (λ_=>rfl) (λd _=>⟨B,B _ _ _ l2 g5⟩) ?_;simp_all
  rcases r with r|⟨q',z,r⟩
  .exact .inl ((OpRes.looks l c λρ hρ=>r ρ w hρ R).wp λu w' hh=>fin h0 u w' M.le hh)
  .obtain⟨O,g⟩:=S q' z;exact .inl ((OpRes.looks l g λρ hρ=>r h M.le _ O ρ w hρ hsth).wp λu w' hh=>fin h u w' (Hp.le_refl _) hh)
 .obtain⟨hw,⟨d,hd⟩,r⟩:=hok;rw[Gy c hw,ah rfl];refine .inl ((OpRes.looks l c λρ hρ=>r ρ w hρ R).wp λu w' ⟨A,e2⟩=>?_);subst A e2;refine hK _ _ h (λy=>if y=d then w.heap.size else γ y)<|M.next hp s T n hr hun m P (Hp.le_refl _) (λy hy=>?_) (λhne=>lj Y<|hne _) (λy hy=>?_) ?_
  .grind
  .grind [Rel]
  .have hres:Es pl (Bx ops) (λy=>if y=d then w.heap.size else γ y) i=[BE w.heap.size x.1.1 x.1.2]:=by
    unfold Es;rw[P,hdi,hd];simp
   rw[hres,jo];exact Ends.alloc M.ends _
theorem Mid.any(s:Pre pu ops np)(P:pl.length=np)(hf:∀j,j<np->∀d,Bx ops j=some d->lk s0 d=none)(y:∀j,j<np->∀d,Bx ops j=some d->d<e.n)
  (x:∀i o,i<np->ops[i]?=some o->∃st,pl[i]?=some st/\StpOK e.P ops h0 ms o (EE (ops.toList.take i) (pl.take i) s0) (EG (ops.toList.take i) (pl.take i)) st) {Q:Exit->Act->World->Prop}
  (z:∀listed a w h γ,Mid e pu ops np pl s0 h0 ms listed a w h γ->(∀j,j<np->listed.getD j false=true)->wpList e.P ops Q (ops.toList.drop np) a w) :
  ∀fuel listed a w h γ,Mid e pu ops np pl s0 h0 ms listed a w h γ->left listed<=fuel->wpAny e.P .any ops Q fuel listed a w:=by
 have b:∀fuel listed a w h γ,Mid e pu ops np pl s0 h0 ms listed a w h γ->left listed<=fuel->(∀j,j<np->listed.getD j false=true)->wpAny e.P .any ops Q fuel listed a w:=by
  intro fuel listed a w h γ M g c;refine Acj s _ np fuel listed a w Y (ak _) M.closed M.lsize (λj l=>⟨λp=>?_,λp=>p.elim (c j)<|M.pure j⟩) g<|z _ _ _ _ _ M c;rcases ii j np with r|r
  .omega
  .rw[M.later j r]at p;simp_all
 intro fuel
 induction fuel with
 | zero=>
  intro listed a w h γ M g;refine b 0 listed a w h γ M g λj l=>?_;have p:=Qh (show left listed=0 by omega) j;have K:j<listed.size:=by rw[M.lsize];exact b7 l s.le
  simp_all
 | succ fuel ih=>
  intro listed a w h γ M g;by_cases c:∀j,j<np->listed.getD j false=true
  .grind
  ·-- the least that is left is ready
   have hex:∃j,j<np/\listed.getD j false=false:=by
    apply ax;intro hne
    exact c λj l=>by
     simp_all
   obtain⟨k,hk,f,R⟩:∃k,k<np/\listed.getD k false=false/\∀j,j<k->listed.getD j false=true:=by
    obtain⟨j,l,v⟩:=hex
    have:∀n j,j<=n->j<np->listed.getD j false=false->∃k,k<np/\listed.getD k false=false/\∀i,i<k->listed.getD i false=true:=by
     intro n
     induction n with
     | zero=>grind
     | succ n ihn=>
      grind
    exact this j j (ak _) l v
   have m:∃o,ops[k]?=some o:=⟨ops[k]'(b7 hk s.le),by simp_all⟩
   obtain⟨ok,m⟩:=m
   have O:k∈Region.ready .any ops listed:=by
    refine ir.2 ⟨?_,ok,m,λed L9 hb=>R _<|s.backs k ok m ed L9 hb⟩;have L:k<listed.size:=by rw[M.lsize];exact b7 hk s.le
    rw[bo]at f ⊢;simp[L]at f ⊢;exact f
   refine⟨λh0'=>(by simp_all),λi u=>?_⟩;obtain⟨S,o,ho,_⟩:=ir.1 u
   have A:i<np:=by
    rcases ii i np with r|r
    .exact r
    .have B:pu.contains i=false:=by
      rw[<-M.later i r];rw[bo,BT S];rfl
     have:=Me M.closed u ((s.tail i k (cj.1 ho).1 r B Z).resolve_left λT=>by have:=M.pure k T;rw[f]at this;cases this);simp_all
   obtain⟨st,hst,hok⟩:=x i o A ho;have hls:=OU (BT S);exact M.step s P hf y ho A u hst hok λa' w' T γ' M'=>ih _ a' w' T γ' M' Z
end sound
def LR(n:Nat):List Oper->AG->Bool
 | [],_=>true
 | o::l,s=>(match o.dst with|some d=>(match lk s d with|none=>true|some _=>false)&&Nat.blt d n|none=>true)&&LR n l s
theorem Mb{n:Nat}:∀(l:List Oper) (s:AG),LR n l s=true->∀(j:Nat) (o:Oper) (d:Nat),l[j]?=some o->o.dst=some d->lk s d=none/\d<n
 | [],_,_,j,o,d,h,_=>by cases h
 | o::l,s,H,j,o',d,h,hd=>by
  simp only[LR,df]at H;cases j with
  | zero=>
   simp at h;subst h;have a:=H.1;simp only[hd,df]at a;refine⟨?_,d5 a.2⟩;grind
  | succ j=>exact Mb l s H.2 j o' d (by simp_all) hd
theorem TS{e:Entry}{pu:List Nat}{l:List Oper}{Q:Exit->Act->World->Prop}{s:AG}{h:Hp}{ms:List Hp}(c:Nat)(hp:Vw pu l.toArray c=true)(hf:LR e.n (l.take c) s=true)
  (k:WR e l.toArray Q (l.drop c) h ms (l.take c) s [] []) {b:Array Bool} (hl1:b.size=l.length) (L:∀i,b.getD i false=pu.contains i) (hl3:Closed l.toArray b) (hl4:∀i,pu.contains i=true->Bx l.toArray i=none) {fuel:Nat} (hfu:left b<=fuel)
  {a:Act} {w:World} (ha:Has e.n e.ds a s) (hw:e.Ends w h ms):wpAny e.P .any l.toArray Q fuel b a { w with drawn:=w.drawn+1 }:=by
 have P:=Wy hp;have hnp:c<=l.length:=by simpa using P.le
 obtain⟨B,S,hplan,m⟩:=MD _ _ _ _ k;have T:B.length=c:=by rw[S,bf];omega
 have A:∀j d,j<c->Bx l.toArray j=some d->lk s d=none/\d<e.n:=λj d f A=>by
  unfold Bx at A;simp only[jp]at A;cases ho:l[j]? with
  | none=>simp_all
  | some o=>
   rw[ho]at A;exact Mb _ _ hf j o d (by grind) A
 have hw1:e.Ends { w with drawn:=w.drawn+1 } h ms:=Ends.drew hw
 have M0:Mid e pu l.toArray c B s h ms b a { w with drawn:=w.drawn+1 } h (λ_=>0):=by
  refine⟨Hp.le_refl _,?_,ha.defers,ha.size,λt u r _=>ha.slots t u r,λj _ f d A=>?_,λj f=>?_,by omega,hl3,λj f=>by simp_all⟩
  .grind [range,Es,Bx,List.flatMap_eq_nil_iff]
  .simp_all
  .exact L j
 refine(Mid.any P T (λj f d g=>(A j d f g).1) (λj f d g=>(A j d f g).2) ?_ ?_ _ _ _ _ _ _ M0 hfu)
 .intro i o hi ho;have ho':(l.take c)[i]?=some o:=by rw[gl,ah hi];simpa using ho
  grind [PlanOK.get]
 .intro b a w h' γ M z
  have hfd:∀t u,lk (EE (l.take c) B s) t=some u->a.tmps[t]?=some u:=λt u r=>by
   rcases KR _ _ _ _ _ r with ⟨j,o,v,h2,h3⟩|v
   .have f:j<c:=by
     have:=(bq.1 v).1;simp at this;omega
    have g:Bx l.toArray j=some t:=by rw[gl,ah f]at v;simp[Bx,v,h2]
    obtain⟨u',st,n,y,K⟩:=M.new j f (z j f) t g;grind [Rel]
   .exact M.old t u v λj f g=>by grind
  have hres:((range c).flatMap λj=>if b.getD j false then Es B (Bx l.toArray) γ j else [])=TG (Ej (l.take c) B) γ:=by
   rw[<-XR γ (l.take c) B S];have hlt:(l.take c).length=c:=by rw[bf];omega
   rw[hlt];refine Ga _ _ _ λj f=>?_;have hj':j<c:=by simpa using f
   rw[z j hj',ah rfl];unfold Es Bx;simp only[jp];rw[gl,ah hj']
  have R:∀t u,lk (T4 (Ej (l.take c) B) γ) t=some u->a.tmps[t]?=some u:=λt u r=>by
   have O:=RH _ _ _ r;unfold T4 at O;obtain⟨p,hp',n⟩:=ai.1 O;obtain⟨d,x⟩:=p;simp only[kg]at n;obtain⟨rfl,rfl⟩:=n;obtain⟨j,o,v,h2,h3⟩:=Js _ _ _ _ hp'
   have f:j<c:=by have:=(bq.1 v).1;simp at this;omega
   have g:Bx l.toArray j=some d:=by rw[gl,ah f]at v;simp[Bx,v,h2]
   obtain⟨u',st,n,y,K⟩:=M.new j f (z j f) d g;grind [Rel]
  have hq:∀d V,(d,V)∈EG (l.take c) B->∃u,a.tmps[d]?=some u/\V h' u:=λd V O=>by
   obtain⟨j,o,v,h2,h3⟩:=HI _ _ _ _ O
   have f:j<c:=by have:=(bq.1 v).1;simp at this;omega
   have g:Bx l.toArray j=some d:=by rw[gl,ah f]at v;simp[Bx,v,h2]
   obtain⟨u',st,n,y,K⟩:=M.new j f (z j f) d g;rw[h3]at y;cases y;exact⟨u',n,K.2⟩
  have hE:=M.ends;rw[hres]at hE
  have hA:∀t u,lk (T4 (Ej (l.take c) B) γ++EE (l.take c) B s) t=some u->a.tmps[t]?=some u:=λt u r=>by
   rw[DA]at r;cases hv:lk (T4 (Ej (l.take c) B) γ) t with
   | none=>simp_all
   | some u'=>simp_all
  simp only[aw]at m;have hdr:l.toArray.toList.drop c=l.drop c:=rfl;rw[hdr];rcases m with ⟨_,m⟩|m
  .exact m γ a w ⟨M.defers,M.size,hA⟩<|Ends.back hE hw M.le
  .refine m h' M.le (λd=>(a.tmps[d]?).getD undef) γ (λd V O=>?_) a w ⟨M.defers,M.size,λt u r=>?_⟩ hE
   .grind
   .rw[DA]at r;cases hv:lk (Td (EG (l.take c) B) λd=>(a.tmps[d]?).getD undef) t with
    | none=>simp_all
    | some u'=>
     rw[hv]at r;cases r;have O:=RH _ _ _ hv;grind [Td,ai,kg]
theorem CA(n i:Nat):(Array.replicate n false).getD i false=false:=by
 rw[bo];grind
theorem BK{e:Entry}{id:Nat}{l:List Oper}{Q:Exit->Act->World->Prop}{s:AG}{h:Hp}{d:List Hp}(b:Nat)(j:e.P.follows .mixedOrders=true)(m:Vw [] l.toArray b=true)(g:LR e.n (l.take b) s=true)
  (k:WR e l.toArray Q (l.drop b) h d (l.take b) s [] []):WS e (.region id l.toArray true) Q s h d:=by
 intro a w f n;refine wp_region_any j<|TS b m g k σ (λi=>by rw[CA];rfl) (λi o c=>by rw[CA]at c;cases c) (λi c=>by cases c) ?_ f n;grind [left,Array.toList_replicate,bl,List.countP_le_length]
end Go.Eng
namespace Go.Eng
open Go.RowKit
variable {b:Bool} {s':AG} {j dj d t:Nat} {v:Value} {P:Program}
section
variable {e:Entry} {ops:Array Oper} {Q:Exit->Act->World->Prop} {tl:List Oper} {h:Hp} {ms:List Hp} {l:List Oper} {o:Oper} {s:AG} {q:List (Nat×VP)} {al:List (Nat×Nb)}
theorem Wants.plain(a:o.guard=none):Wants ops o s true:=by grind [Wants]
theorem Wants.yes(a:o.guard=some (j,b))(c:Bx ops j=some dj)(f:lk s dj=some (.bool b)):Wants ops o s true:=by grind [Wants]
theorem Wants.no{a:Bool}(f:o.guard=some (j,b))(g:Bx ops j=some dj)(i:lk s dj=some (.bool a))(c:(a==b)=false):Wants ops o s false:=by grind [Wants]
theorem Wants.nou(a:o.guard=some (j,b))(c:Bx ops j=some dj)(f:lk s dj=some undef):Wants ops o s false:=by grind [Wants]
theorem BS(f:OX e.P o s h ms v)(a:o.dst=some d)(c:o.guard=none)(k:WR e ops Q tl h ms l ((d,v)::s) q al):WR e ops Q tl h ms (o::l) s q al:=
 .inl ⟨v,.inl ⟨.plain c,f⟩,by simp_all⟩
theorem AV(i:OX e.P o s h ms v)(a:o.dst=some d)(c:o.guard=some (j,b))(f:Bx ops j=some dj)(g:lk s dj=some (.bool b))(k:WR e ops Q tl h ms l ((d,v)::s) q al):WR e ops Q tl h ms (o::l) s q al:=
 .inl ⟨v,.inl ⟨.yes c f g,i⟩,by simp_all⟩
theorem AF{c:Bool}(f:o.dst=some d)(g:o.guard=some (j,b))(i:Bx ops j=some dj)(m:lk s dj=some (.bool c))(a:(c==b)=false)(k:WR e ops Q tl h ms l ((d,undef)::s) q al):WR e ops Q tl h ms (o::l) s q al:=
 .inl ⟨undef,.inr (.inr ⟨.no g i m a,rfl⟩),by simp_all⟩
theorem A3(a:o.dst=some d)(c:o.guard=some (j,b))(f:Bx ops j=some dj)(g:lk s dj=some undef)(k:WR e ops Q tl h ms l ((d,undef)::s) q al):WR e ops Q tl h ms (o::l) s q al:=
 .inl ⟨undef,.inr (.inr ⟨.nou c f g,rfl⟩),by simp_all⟩
theorem Ahz{x:Nb}(f:ONB e.P o s h ms x)(a:o.dst=some d)(c:o.guard=none)(k:WR e ops Q tl h ms l s q (al++[(d,x)])):WR e ops Q tl h ms (o::l) s q al:=
 .inr (.inr ⟨x,⟨.plain c,⟨d,a⟩,f⟩,by simp_all⟩)
theorem Ip{t el:TypeId}{sz:Nat}{z:Value}{a:Nat}{x:Operand}(c:List Value)(m:o.op=.buildSlice t 1 #[(0,x)])(p:P.underlying t=some (.slice el))(n:Elem P el sz z a)(u:ev s x=some v)(r:v.cells=c.toArray)(k:c.length=sz)(i:z.cells.size=sz)(f:0<sz/\sz<=1000) :
  ONB P o s h ms ((el,c),λg=>.slice (some ⟨g,0,none⟩) 1 1):=λρ w y A=>by
 have:=Im (P:=P) c p n r k i f w
 have:(execOp ρ o).run P w=.ok (.value (.slice (some ⟨w.heap.size,0,none⟩) 1 1)) (w.alloc (.cells c.toArray el)):=by simp[execOp,m,y _ _ u,this]
 grind [OpRes]
theorem BB(k:WL e ops Q tl s h ms):WR e ops Q tl h ms [] s [] []:=.inl ⟨rfl,λ_=>k⟩
theorem Xx{a:List Value}{f:Nat->Value}(k:∀g,WL e ops Q tl ((d,f g)::s) h (BE g t a::ms)):WR e ops Q tl h ms [] s [] [(d,((t,a),f))]:=.inl ⟨rfl,λγ=>k (γ d)⟩
theorem AgX{s:AG}(a:∀t,lk s t=lk s' t)(x:Operand):ev s x=ev s' x:=by cases x<;>first|exact a _|rfl
theorem Evs.ext{s:AG}(a:∀t,lk s t=lk s' t){ρ:Operand->Value}(f:Evs s' ρ):Evs s ρ:=λx u c=>f x u (by grind [AgX])
theorem OX.ext{s:AG}(a:∀t,lk s t=lk s' t)(g:OX P o s h ms v):OX P o s' h ms v:=λρ w f c=>g ρ w (Evs.ext a f) c
theorem OPX.ext{s:AG}{g:VP}(a:∀t,lk s t=lk s' t)(i:OPX P o s h ms g):OPX P o s' h ms g:=λρ w f c=>i ρ w (Evs.ext a f) c
theorem Eg{s:AG}(c:∀t,lk s t=lk s' t)(a:AG)(t:Nat):lk (a++s) t=lk (a++s') t:=by rw[DA,DA,c]
theorem Wants.ext{s:AG}(a:∀t,lk s t=lk s' t)(c:Wants ops o s b):Wants ops o s' b:=by
 grind [Wants]
theorem StpOK.ext{s:AG}{p:Tf}(a:∀t,lk s t=lk s' t)(A:StpOK P ops h ms o s q p):StpOK P ops h ms o s' q p:=by
 rcases p with v|z|x
 .rcases A with ⟨c,f⟩|⟨c,n,f,g⟩|⟨c,f⟩
  .exact .inl ⟨c.ext a,OX.ext a f⟩
  .exact .inr<|.inl ⟨c.ext a,n,f,λi k val m=>OX.ext (Eg a _)<|g i k val m⟩
  .exact .inr<|.inr ⟨c.ext a,f⟩
 .obtain⟨c,f,g⟩:=A;refine⟨c.ext a,f,?_⟩;rcases g with g|⟨n,g,r⟩
  .grind [OPX.ext]
  .exact .inr ⟨n,g,λi k val m=>OPX.ext (Eg a _)<|r i k val m⟩
 .exact⟨A.1.ext a,A.2.1,λρ w y u=>A.2.2 ρ w (Evs.ext a y) u⟩
theorem WL.ext{s:AG}(f:∀t,lk s t=lk s' t)(m:WL e ops Q l s h ms):WL e ops Q l s' h ms:=
 λa w c k=>m a w ⟨c.defers,c.size,λi v g=>c.slots i v (by simp_all)⟩ k
theorem WR.ext:∀(l:List Oper) (s s':AG) (q:List (Nat×VP)) (al:List (Nat×Nb)),(∀t,lk s t=lk s' t)->WR e ops Q tl h ms l s q al->WR e ops Q tl h ms l s' q al
 | [],s,s',q,al,he,H=>by
  rcases H with ⟨c,a⟩|a
  .exact .inl ⟨c,λγ=>WL.ext (Eg he _)<|a γ⟩
  .exact .inr λf g val γ i=>WL.ext (Eg (Eg he _) _)<|a f g val γ i
 | o::l,s,s',q,al,he,H=>by
  rcases H with ⟨v,c,a⟩|⟨k,c,a⟩|⟨x,c,a⟩
  .refine .inl ⟨v,c.ext he,WR.ext l _ _ _ _ ?_ a⟩;cases o.dst with
   | none=>exact he
   | some d=>exact λt=>Eg he [(d,v)] t
  .exact .inr<|.inl ⟨k,c.ext he,WR.ext l _ _ _ _ he a⟩
  .exact .inr<|.inr ⟨x,c.ext he,WR.ext l _ _ _ _ he a⟩
theorem Dd{p:Prop}{_:Decidable p}(f:lk s t=some (.bool (decide p)))(k:p->WR e ops Q tl h ms l ((t,.bool true)::s) q al)(g:¬p->WR e ops Q tl h ms l ((t,.bool false)::s) q al):WR e ops Q tl h ms l s q al:=by
 by_cases c:p
 all_goals grind [WR.ext,BM,BR]
theorem Zu(f:lk s t=some (.bool b))(i:b=true->WR e ops Q tl h ms l ((t,.bool true)::s) q al)(g:b=false->WR e ops Q tl h ms l ((t,.bool false)::s) q al):WR e ops Q tl h ms l s q al:=by
 have a:decide (b=true)=b:=by cases b<;>rfl
 grind [Dd]
end
end Go.Eng
namespace Go.Eng
open Go.RowKit
variable {j:Nat} {u:Value}
def AJ:Value->Addr
 | .slice (some p) _ _=>p
 | _=>⟨0,0,none⟩
def C6(sz:Nat)(v:Value)(i j:Nat):Value:=
 match v with
 | .slice a _ c=>.slice (if c=i then a else a.map (·.add (i*sz))) (j-i) (c-i)
 | u=>u
theorem Rd.val{h:Hp}{b:List Hp}{v:Value}{sz n:Nat}{cs:List Value}(R:Rd h b v sz n cs)(e:0<n):∃c,v=.slice (some (AJ v)) n c/\Seg h b (AJ v) cs:=by obtain⟨a,c,rfl,g,i,k,d⟩:=R.ex;obtain⟨q,rfl,f⟩:=d e;exact⟨c,Y,f⟩
theorem Rd.len_le{h:Hp}{b:List Hp}{v:Value}{sz n:Nat}{cs:List Value}(R:Rd h b v sz n cs):n<=9223372036854775807:=by obtain⟨a,c,rfl,d,e,f,g⟩:=R.ex;omega
theorem Rd.cells{h:Hp}{b:List Hp}{v:Value}{sz n:Nat}{cs:List Value}(R:Rd h b v sz n cs):v.cells=[v].toArray:=by obtain⟨a,c,rfl,_⟩:=R.ex;rfl
theorem Rd.one{h:Hp}{b:List Hp}{v:Value}{sz n:Nat}{cs:List Value}(R:Rd h b v sz n cs):v.oneCell'=true:=by obtain⟨a,c,rfl,_⟩:=R.ex;rfl
theorem Rd.blk{h:Hp}{a:List Hp}{g:Nat}{el:TypeId}{sz n c:Nat}{cs:List Value}(f:BE g el cs∈a)(e:cs.length=n*sz)(k:n<=c)(b:c<=9223372036854775807):Rd h a (.slice (some ⟨g,0,none⟩) n c) sz n cs:=by refine⟨_,c,Y,k,b,e,λ_=>⟨_,Y,?_⟩⟩;obtain⟨i,d⟩:=List.getElem?_of_mem f;exact Seg.blk i d
theorem Rd.sub_{h:Hp}{e:List Hp}{v:Value}{sz n:Nat}{cs:List Value}(R:Rd h e v sz n cs){i:Nat}(t:i<=j)(x:j<=n):Rd h e (C6 sz v i j) sz (j-i) ((cs.drop (i*sz)).take ((j-i)*sz)):=by
 obtain⟨a,c,rfl,p,r,f,g⟩:=R.ex;refine⟨_,c-i,Y,Z,Z,?_,λl=>?_⟩
 .rw[bf,br,f];have s:(j-i)*sz<=n*sz-i*sz:=by rw[<-Nat.sub_mul];exact eh _ Z
  omega
 .obtain⟨q,rfl,m⟩:=g Z;have d:¬c=i:=Z
  refine⟨q.add (i*sz),by simp[d],λk u b=>?_⟩;rw[BD];refine m _ u ?_;grind
structure RdL{α:Type}(F:α->List Value)(sz:Nat)(h:Hp)(ms:List Hp)(v:Value)(l:List α):Prop where
 rd:Rd h ms v sz l.length (l.flatMap F)
 len:∀x,(F x).length=sz
structure OwnL{α:Type}(F:α->List Value)(sz:Nat)(el:TypeId)(m:Hp)(v:Value)(l:List α):Prop where
 own:Own el sz m v l.length (l.flatMap F)
 len:∀x,(F x).length=sz
section
variable {α:Type} {F:α->List Value} {sz:Nat} {h h':Hp} {ms ms':List Hp} {v:Value} {l:List α} {el:TypeId} {m:Hp}
theorem RdL.up(R:RdL F sz h ms v l)(a:h.le h'):RdL F sz h' ms v l:=⟨R.rd.le a,R.len⟩
theorem RdL.sub(R:RdL F sz h ms v l)(a:∀m∈ms,m∈ms'):RdL F sz h ms' v l:=⟨R.rd.sub a,R.len⟩
theorem RdL.any(R:RdL F sz h [] v l):RdL F sz h ms v l:=R.sub σ
theorem RdL.len_le(R:RdL F sz h ms v l):l.length<=9223372036854775807:=R.rd.len_le
theorem OwnL.rd(O:OwnL F sz el m v l)(a:m∈ms):RdL F sz h ms v l:=⟨O.own.rd a,O.len⟩
theorem OwnL.rdh(O:OwnL F sz el m v l)(a:m.le h):RdL F sz h ms v l:=⟨O.own.rdh a,O.len⟩
theorem OwnL.frozen(O:OwnL F sz el m v l){a:Hp}(b:m.disj a):RdL F sz (a.join m) ms v l:=O.rdh (Hp.join_le_right b)
theorem OwnL.nil(a:∀x,(F x).length=sz):OwnL F sz el Hp.emp (.slice none 0 0) []:=⟨Own.nil el sz,a⟩
theorem F6(a:∀x,(F x).length=sz):∀(l:List α) (j:Nat),(l.flatMap F).drop (j*sz)=(l.drop j).flatMap F
 | [],j=>by simp
 | x::l,0=>by simp
 | x::l,j+1=>by rw[eo,dq,gn,ij,<-drop_drop,<-a x,List.drop_left,a x,F6 a l j];rfl
theorem HS(a:∀x,(F x).length=sz):∀(l:List α) (j:Nat),(l.flatMap F).take (j*sz)=(l.take j).flatMap F
 | [],j=>by simp
 | x::l,0=>by simp
 | x::l,j+1=>by rw[eo,dq,gn,ij,List.take_append,a x,bm (by rw[a x];omega),Nat.add_sub_cancel_left,HS a l j];rfl
theorem B6(a:∀x,(F x).length=sz)(l:List α):(l.flatMap F).length=l.length*sz:=by
 induction l<;>grind
theorem I4(c:∀x,(F x).length=sz)(l:List α)(j:Nat)(d:j<l.length)(f:Nat)(u:Value)(a:(F l[j])[f]?=some u):(l.flatMap F)[j*sz+f]?=some u:=by
 have b:((l.flatMap F).drop (j*sz))[f]?=some u:=by rw[F6 c,fw d,eo,fc (bq.1 a).1];exact a
 simp_all
theorem RdL.cell(R:RdL F sz h ms v l)(b:j<l.length){f:Nat}(a:(F l[j])[f]?=some u):Cell h ms (((AJ v).add (j*sz)).add f) u:=by obtain⟨c,_,d⟩:=R.rd.val Z;rw[BD];exact d _ u<|I4 R.len l j b f u a
theorem RdL.cell0(R:RdL F sz h ms v l)(b:j<l.length)(a:(F l[j])[0]?=some u):Cell h ms ((AJ v).add (j*sz)) u:=by have:=R.cell b a;grind [FD]
theorem RdL.seg(R:RdL F sz h ms v l)(b:j<l.length):Seg h ms ((AJ v).add (j*sz)) (F l[j]):=λf u a=>R.cell b a
theorem RdL.sub_(R:RdL F sz h ms v l){i:Nat}(a:i<=j)(b:j<=l.length):RdL F sz h ms (C6 sz v i j) ((l.drop i).take (j-i)):=by
 refine⟨?_,R.len⟩;have:=R.rd.sub_ a b;rw[F6 R.len,HS R.len]at this;grind
end
section
variable {P:Program} {o:Oper} {s:AG} {h:Hp} {ms:List Hp} {t el:TypeId} {x y lo hi:Operand} {v:Value} {sz n:Nat} {cs:List Value} {z:Value} {bytes:Nat} {k k':IntKind}
theorem AR{i:Int}(j:Nat)(R:Rd h ms v sz n cs)(d:o.op=.indexAddr t x y)(g:P.underlying t=some (.slice el))(f:Elem P el sz z bytes)(b:ev s x=some v)(l:ev s y=some (.int k i))(hi:i=(j:Int))(a:j<n):OX P o s h ms (.pointer (some ((AJ v).add (j*sz)))):=by obtain⟨c,e,_⟩:=R.val Z;grind [Cm]
theorem Aw(R:Rd h ms v sz n cs)(b:o.op=.call { callee:=.builtin .len,args:=#[x],argTypes:=#[t] })(d:P.underlying t=some (.slice el))(e:ev s x=some v):OX P o s h ms (.int .i64 n):=by obtain⟨a,c,rfl,_⟩:=R.ex;exact EJ (ty:=t) b d e
theorem H5{l r:Int}(i j:Nat)(R:Rd h ms v sz n cs)(B:o.op=.slice t x (some lo) (some hi) none)(L:P.underlying t=some (.slice el))(K:Elem P el sz z bytes)(M:ev s x=some v)(d:ev s lo=some (.int k l))(b:ev s hi=some (.int k' r))(f:l=(i:Int))(er:r=(j:Int))(h1:i<=j)(h2:j<=n) :
  OX P o s h ms (C6 sz v i j):=by
 obtain⟨a,c,rfl,O,Q,S,T⟩:=R.ex
 exact Bz λρ w e _=>by
  have g:(0:Int)<=l/\l<=(j:Int):=Z
  have m:(0:Int)<=r/\r<=(c:Int):=Z
  have p:l.toNat=i:=Z
  have A:r.toNat=j:=Z
  simp[execOp,B,e _ _ M,e _ _ d,e _ _ b,Instr.sliceAt,Instr.slice,cw L,Instr.sliceBounds,Instr.sliceBound,asIntOf,g,m,p,A,K.sizeOf,C6]
theorem Dm{l:Int}(i:Nat)(R:Rd h ms v sz n cs)(m:o.op=.slice t x (some lo) none none)(r:P.underlying t=some (.slice el))(p:Elem P el sz z bytes)(A:ev s x=some v)(b:ev s lo=some (.int k l))(e:l=(i:Int))(O:i<=n) :
  OX P o s h ms (C6 sz v i n):=by
 obtain⟨a,c,rfl,B,K,L,M⟩:=R.ex
 exact Bz λρ w d _=>by
  have f:(0:Int)<=l/\l<=(n:Int):=Z
  have g:l.toNat=i:=Z
  simp[execOp,m,d _ _ A,d _ _ b,Instr.sliceAt,Instr.slice,cw r,Instr.sliceBounds,Instr.sliceBound,asIntOf,f,g,p.sizeOf,C6]
theorem DW{r:Int}(j:Nat)(R:Rd h ms v sz n cs)(g:o.op=.slice t x none (some hi) none)(l:P.underlying t=some (.slice el))(i:Elem P el sz z bytes)(m:ev s x=some v)(b:ev s hi=some (.int k r))(L:r=(j:Int))(M:j<=n) :
  OX P o s h ms (C6 sz v 0 j):=by
 obtain⟨a,c,rfl,p,A,B,K⟩:=R.ex
 exact Bz λρ w d _=>by
  have e:(0:Int)<=r/\r<=(c:Int):=Z
  have f:r.toNat=j:=Z
  simp[execOp,g,d _ _ m,d _ _ b,Instr.sliceAt,Instr.slice,cw l,Instr.sliceBounds,Instr.sliceBound,asIntOf,e,f,i.sizeOf,C6]
end
section
variable {e:Entry} {Q:Exit->Act->World->Prop} {ops:Array Oper} {rest:List Oper} {o:Oper} {s:AG} {h:Hp} {ms:List Hp} {α:Type} {F:α->List Value}
theorem AL{t el:TypeId}{sz d:Nat}{z:Value}{b:Nat}{x y:Operand}{v:Value}{m:Hp}{l r:List α}(i:Nat)(O:OwnL F sz el m v l)(R:RdL F sz h ms u r)(ho:o.op=.call { callee:=.builtin .append,args:=#[x,y],argTypes:=#[t,t] })(ht:e.P.underlying t=some (.slice el))(hs:Elem e.P el sz z b)(p:z.cells.size=sz)(n:0<sz)
  (hx:ev s x=some v) (hy:ev s y=some u) (hm:ms[i]?=some m) (B:∀a,∀c∈F a,c.oneCell'=true) (M:(l.length+r.length)*b<=140737488355328) (f:l.length+r.length<=9223372036854775807) (S:o.dst=some d) (hn:Nat.blt d e.n=true) (T:o.guard=none)
  (K:∀k g,OwnL F sz el g k (l++r)->WL e ops Q rest ((d,k)::s) h (ms.set i g)):WL e ops Q (o::rest) s h ms:=
 Qz i ho ht hs p n hx hy hm O.own R.rd (λc P=>by grind) M f S hn T λk g A=>K k g ⟨by simp_all,O.len⟩
theorem RdL.one{sz:Nat}{g:Nat}{el:TypeId}{x:α}{cs:List Value}(a:∀x,(F x).length=sz)(c:BE g el cs∈ms)(b:cs=F x):RdL F sz h ms (.slice (some ⟨g,0,none⟩) 1 1) [x]:=
 ⟨by grind [Rd.blk],a⟩
end
def cI(n:Int):List Value:=[.int .i64 n]
def cB(b:Bool):List Value:=[.bool b]
theorem Bf:∀n,(cI n).length=1:=λ_=>rfl
theorem Ag9:∀n,(cB n).length=1:=λ_=>rfl
theorem BY:∀a,∀c∈cI a,c.oneCell'=true:=λa c b=>by simp[cI]at b;subst b;rfl
theorem SQ{α:Type}(f:α->Value)(l:List α)(k:Nat)(x:α):(l.flatMap λy=>[f y]).set k (f x)=(l.set k x).flatMap λy=>[f y]:=by
 induction l generalizing k with
 | nil=>simp
 | cons a l ih=>
  induction k<;>simp_all
theorem Ahe(n:Nat)(x:Int):replicate n (Value.int .i64 x)=(replicate n x).flatMap cI:=by
 induction n with
 | zero=>rfl
 | succ n ih=>rw[f5,f5,eo,ih];rfl
theorem VT(n:Nat)(x:Bool):replicate n (Value.bool x)=(replicate n x).flatMap cB:=by
 induction n with
 | zero=>rfl
 | succ n ih=>rw[f5,f5,eo,ih];rfl
end Go.Eng
namespace Go.Eng
open Go.RowKit
structure GR(P:Program)(t:TypeId)(i off:Nat):Prop where
 ex:∃fs f n,P.underlying t=some (.struct fs)/\fs[i]?=some f/\f.offset=off/\∀w,(sizeOf f.type).run P w=.ok (n+1) w
structure GL(P:Program)(t:TypeId)(places:Array (Nat×Nat)):Prop where
 ex:∃fs,P.underlying t=some (.struct fs)/\∀w,(fs.mapM λf=>do pure (f.offset,<-sizeOf f.type):Sem (Array (Nat×Nat))).run P w=.ok places w
section
variable {P:Program} {o:Oper} {s:AG} {h:Hp} {ms:List Hp} {t:TypeId} {x:Operand}
theorem Aay{i a:Nat}{p:Addr}(F:GR P t i a)(g:o.op=.fieldAddr t x i)(j:ev s x=some (.pointer (some p))):OX P o s h ms (.pointer (some (p.add a))):=by
 obtain⟨k,f,n,b,c,d,e⟩:=F.ex;have:=AaN (h:=h) (ms:=ms) g b c e j
 simp_all
theorem AQ{sz:Nat}{z:Value}{b:Nat}{i:List (Nat×Operand)}{j:List (Nat×Value)}{a:Array (Nat×Nat)}(S:GL P t a)(c:List Value)(f:List (Nat×List Value))(g:List Value)(m:o.op=.build t i.toArray)(n:Elem P t sz z b)(r:z.cells=c.toArray)
  (p:evp s i=some j) (d:HT (a[·]?) c.length j f) (e:TK c f=g):OX P o s h ms (.agg g.toArray):=by
 obtain⟨u,k,l⟩:=S.ex;grind [AbW]
end
end Go.Eng
namespace Go.Eng
section
variable {e:Entry} {Q:Exit->Act->World->Prop} {s:AG} {h:Hp} {ms:List Hp} {m:Hp} {α:Type} {F:α->List Value} {sz:Nat} {el:TypeId} {v:Value} {l:List α} {ops:Array Oper}
theorem CQ{c:Code}(O:OwnL F sz el m v l)(k:∀b,h.le b->RdL F sz b [] v l->WS e c Q s b ms):WS e c Q s h (m::ms):=
 λa w f d=>k _ (Hp.le_join _ _) (O.frozen (d.st.off m ao)) a w f (Ends.freeze d)
theorem BX{r:List Oper}(O:OwnL F sz el m v l)(k:∀b,h.le b->RdL F sz b [] v l->WL e ops Q r s b ms):WL e ops Q r s h (m::ms):=
 λa w d c=>k _ (Hp.le_join _ _) (O.frozen (c.st.off m ao)) a w d (Ends.freeze c)
theorem Dr{x:Exit}(O:OwnL F sz el m v l)(k:∀b,h.le b->RdL F sz b [] v l->NX e Q x s b ms):NX e Q x s h (m::ms):=
 λa w d c=>k _ (Hp.le_join _ _) (O.frozen (c.st.off m ao)) a w d (Ends.freeze c)
theorem AH{c:Code}{g:Nat}{cs:List Value}(k:∀b,h.le b->Seg b [] ⟨g,0,none⟩ cs->WS e c Q s b ms):WS e c Q s h (BE g el cs::ms):=
 λa w f d=>k _ (Hp.le_join _ _) (λj u i=>⟨by grind [Addr.add],cs.toArray,el,(0,0),.inl (by
  rw[C0]
  exact(Hp.join_le_right (d.st.off _ ao)) _ _ (Hp.one_self _ _)),by grind [D4]⟩) a w f (Ends.freeze d)
theorem Bm{r:List Oper}{g:Nat}{cs:List Value}(k:∀b,h.le b->Seg b [] ⟨g,0,none⟩ cs->WL e ops Q r s b ms):WL e ops Q r s h (BE g el cs::ms):=
 λa w d c=>k _ (Hp.le_join _ _) (λj u f=>⟨by grind [Addr.add],cs.toArray,el,(0,0),.inl (by
  rw[C0]
  exact(Hp.join_le_right (c.st.off _ ao)) _ _ (Hp.one_self _ _)),by grind [D4]⟩) a w d (Ends.freeze c)
theorem BW{c:Code}(k:WS e c Q s h (Hp.emp::ms)):WS e c Q s h ms:=λa w i b=>k a w i
 ⟨⟨b.st.imm,λm d=>by
  rcases be.1 d with rfl|d
  .intro g o e;cases e
  .exact b.st.own m d,λm d=>by
  rcases be.1 d with rfl|d
  .exact λ_=>.inl Y
  .exact b.st.off m d,cg.2 ⟨λ_ _ _=>.inl Y,b.st.apart⟩⟩,b.os,b.tape,b.output,b.size,b.block,b.le,b.hnew,λm d k j f=>by
  rcases be.1 d with rfl|d
  .exact lj Y f
  .exact b.mnew m d k j f⟩
end
end Go.Eng
namespace Go.Eng
open Go.RowKit
variable {a:Act}
def Q0(Q:Exit->Act->World->Prop):Exit->Act->World->Prop:=λx a w=>x=.normal/\Q .normal a w
theorem Ab3{Q:Exit->Act->World->Prop}:¬LetsOut (Q0 Q):=by grind [LetsOut,Q0]
def zA(z:AG)(a:Act):Act:={ a with tmps:=a.tmps.mapIdx λk x=>(lk z k).getD x }
theorem SA{b:Act}(c:a.tmps=b.tmps)(d:a.defers=b.defers):a=b:=by induction a<;>simp_all
theorem H0(z:AG)(a:Act)(t:Nat):(zA z a).tmps[t]?=(a.tmps[t]?).map λx=>(lk z t).getD x:=by simp[zA]
theorem Ls{z:AG}{d:Option Nat}{v:Value}(h:∀t,d=some t->lk z t=none):zA z (a.put d v)=(zA z a).put d v:=by
 cases d with
 | none=>rfl
 | some d=>
  refine SA ?_ Y;grind [H0,Act.put,zA]
theorem Tr{z:AG}{d:Nat}{v:Value}(h:lk z d=some v):zA z (a.put (some d) v)=zA z a:=by
 refine SA ?_ Y;apply jn;grind [H0,Act.put]
def Nj(pu:List Nat)(ops:Array Oper):Bool:=
 Region.noSelect ops &&
 (range ops.size).all λi=>match ops[i]? with
  | none=>false
  | some o=>
   ((o.looksAt ops).all λt=>(range ops.size).all λj=>Bx ops j != some t||(if pu.contains j then QP o j else(!pu.contains i||(match ops[j]? with|some oj=>QP oj i|none=>false)))) &&
   (if pu.contains i then o.guard.isNone&&o.dst.isSome&&((range ops.size).all λj=>j==i||Bx ops j != o.dst)
    else match o.guard with|none=>true|some (j,_)=>!pu.contains j)
structure POK(pu:List Nat)(ops:Array Oper):Prop where
 nosel:Region.noSelect ops=true
 look:∀i o t j,ops[i]?=some o->t∈o.looksAt ops->Bx ops j=some t->(pu.contains j=true/\QP o j=true)\/(pu.contains j=false/\(pu.contains i=false\/∃oj,ops[j]?=some oj/\QP oj i=true))
 plain:∀i o,ops[i]?=some o->pu.contains i=true->o.guard=none/\(∃d,o.dst=some d)/\∀j,j≠i->∀d,o.dst=some d->Bx ops j≠some d
 guard:∀i o j b,ops[i]?=some o->pu.contains i=false->o.guard=some (j,b)->pu.contains j=false
theorem Gq{b:Array Oper}{j t:Nat}(h:Bx b j=some t):j<b.size:=by
 grind [Bx,ii]
theorem TQ{n:List Nat}{f:Array Oper}(h:Nj n f=true):POK n f:=by
 simp only[Nj,df,dy,b6]at h;obtain⟨u,l⟩:=h;have at_:∀i o,f[i]?=some o->i<f.size:=λi o e=>(cj.1 e).1;refine⟨u,?_,?_,?_⟩
 .intro i o t j e y g;have:=l i (at_ i o e);simp only[e,df,dy,b6]at this;have c:=this.1 t y j (Gq g);cases hc:n.contains j with
  | true=>rw[hc]at c;simp[g]at c;exact .inl ⟨Y,c⟩
  | false=>
   rw[hc]at c;simp[g]at c;refine .inr ⟨Y,?_⟩;rcases c with c|c
   .exact .inl (by simpa using c)
   .right
    cases hoj:f[j]? with
    | none=>rw[hoj]at c;cases c
    | some oj=>rw[hoj]at c;exact⟨oj,Y,c⟩
 .intro i o e m;have:=l i (at_ i o e);simp only[e,df,m,if_true,dy,b6]at this;obtain⟨_,⟨p,r⟩,s⟩:=this;refine⟨by simpa using p,by simpa[Option.isSome_iff_exists] using r,λj x d g k=>?_⟩;have:=s j (Gq k);simp[x,k,g]at this
 grind
section
variable {P:Program} {ops:Array Oper} {Q:Exit->Act->World->Prop}
structure Sim(pu:List Nat)(ops:Array Oper)(z:AG)(a0 a:Act)(listed:Array Bool):Prop where
 pure:∀i,pu.contains i=true->listed.getD i false=true->∀d v,Bx ops i=some d->lk z d=some v->d<a.tmps.size->a.tmps[d]?=some v
 old:∀t,(∀j,Bx ops j=some t->listed.getD j false=false)->a.tmps[t]?=a0.tmps[t]?
 size:a.tmps.size=a0.tmps.size
 closed:Closed ops listed
def un(pu:List Nat)(listed:Array Bool):Array Bool:=listed.mapIdx λi b=>b||pu.contains i
theorem Xa(d:List Nat)(c:Array Bool)(i:Nat)(b:Bool)(e:i<c.size):(un d c).getD i b=(c.getD i b||d.contains i):=by simp[un,bo,e]
theorem Agv(e:List Nat)(b:Array Bool)(i:Nat):un e (b.setIfInBounds i true)=(un e b).setIfInBounds i true:=by
 grind [un,Array.size_mapIdx]
theorem Vt{e:List Nat}(b:Array Bool){i:Nat}(h:e.contains i=true):un e (b.setIfInBounds i true)=un e b:=by
 grind [un]
end
def zap(o:Oper):Oper:={ o with dst:=none,op:=.move (.const undef),after:=#[],guard:=none }
def Wp:List Bool->Nat->List Nat
 | [],_=>[]
 | true::m,k=>k::Wp m (k+1)
 | false::m,k=>Wp m (k+1)
def K5(ops:Array Oper):Bool:=(range ops.size).all λi=>match ops[i]? with|none=>false|some o=>backs o i
theorem QN{b:Array Oper}(h:K5 b=true):∀i o,b[i]?=some o->∀e∈o.after,Region.binds .any e=true->e.on<i:=by intro i o e d L9 f;simp only[K5,dy,b6]at h;have:=h i (cj.1 e).1;simp only[e]at this;have c:=Array.all_eq_true_iff_forall_mem.1 this d L9;simp_all
end Go.Eng
namespace Go.Eng
open Go.RowKit
section
variable {e:Entry} {Q:Exit->Act->World->Prop} {ops:Array Oper} {rest:List Oper} {o:Oper} {s:AG} {h:Hp} {ms:List Hp} {α:Type} {F:α->List Value} {l:List α} {v:Value} {m:Hp} {el:TypeId} {sz:Nat}
theorem ZK{t:TypeId}{x y:Operand}{u:Value}{z:Value}{b k:Nat}{f:List α}(i:Nat)(O:OwnL F sz el m v l)(ho:o.op=.store t x y)(hs:Elem e.P t 1 z b)(hx:ev s x=some (.pointer (some ((AJ v).add k))))(hy:ev s y=some u)(B:u.oneCell'=true)
  (hm:ms[i]?=some m) (j:k<l.length*sz) (a:(l.flatMap F).set k u=f.flatMap F) (n:f.length=l.length) (S:o.dst=none) (T:o.guard=none)
  (K:∀p,OwnL F sz el p v f->WL e ops Q rest s h (ms.set i p)):WL e ops Q (o::rest) s h ms:=by
 obtain⟨⟨L,M⟩,R⟩:=O;rcases M with ⟨rfl,P,rfl⟩|⟨g,d,c,rfl,rfl,r,e2,A⟩
 .simp_all
 .refine Bl i k ho hs hx hy B hm Y (by rw[ag];omega) S T<|K _ ⟨⟨?_,.inr ⟨g,d,c,by rw[n],?_,?_,Z,A⟩⟩,R⟩
  all_goals grind
theorem Db{f:α->Value}{t:TypeId}{x y:Operand}{z:Value}{b:Nat}{a:α}(i j:Nat)(k:∀x,F x=[f x])(O:OwnL F 1 el m v l)(u:o.op=.store t x y)(A:Elem e.P t 1 z b)(B:ev s x=some (.pointer (some ((AJ v).add (j*1)))))(L:ev s y=some (f a))(g:(f a).oneCell'=true)
  (r:ms[i]?=some m) (M:j<l.length) (n:o.dst=none) (p:o.guard=none)
  (K:∀d,OwnL F 1 el d v (l.set j a)->WL e ops Q rest s h (ms.set i d)):WL e ops Q (o::rest) s h ms:=by
 have c:F=λy=>[f y]:=funext k;refine ZK i O u A B L g r Z ?_ σ n p K;rw[c,km];exact SQ f l j a
end
end Go.Eng
namespace Go.Eng
open Go.RowKit
theorem FnV.ofCalls{P:Program}{f:FuncId}{a:Array Value}{h:Hp}{g:List Hp}{v:Value}(k:∀w,Calls P f a w (λe b=>e=.returned v/\b=w)):FnV P f a h g v:=
 λw i=>(k w).mono λx b ⟨c,d⟩=>⟨c,by grind [Ext.refl]⟩
theorem EN{n:Int}(a:0<=n/\n<=18446744073709551615):IntKind.u64.wrap n=n:=IntWalk.u64_in n a
section
variable {P:Program} {o:Oper} {s:AG} {h:Hp} {ms:List Hp} {t u:TypeId} {x y:Operand} {a b n:Nat} {k:IntKind}
theorem Ad6(i:o.op=.binOp .shl t x y u)(j:ev s x=some (.int .u64 a))(l:ev s y=some (.int k n))(g:n<=64):OX P o s h ms (.int .u64 ((a*2^n%18446744073709551616:Nat):Int)):=
 Bz λρ w c _=>by
  have d:¬((n:Int)<0):=Z
  have e:min n 64=n:=gr g
  have f:IntKind.u64.wrap ((a:Int)*2^n)=((a*2^n%18446744073709551616:Nat):Int):=by simp[IntKind.wrap,IntKind.bits,IntKind.signed]
  simp[execOp,i,c _ _ j,c _ _ l,Op.shift,d,IntKind.bits,e,f,go_sem]
theorem GW(i:o.op=.binOp .shr t x y u)(j:ev s x=some (.int .u64 a))(l:ev s y=some (.int k n))(g:n<=64):OX P o s h ms (.int .u64 ((a/2^n:Nat):Int)):=
 Bz λρ w c _=>by
  have d:¬((n:Int)<0):=Z
  have e:min n 64=n:=gr g
  have f:(a:Int).fdiv (2^n)=((a/2^n:Nat):Int):=by rw[Int.fdiv_eq_ediv_of_nonneg _ (Int.le_of_lt (Int.pow_pos H))];simp
  simp[execOp,i,c _ _ j,c _ _ l,Op.shift,d,IntKind.bits,e,f,go_sem]
theorem AeB(e:o.op=.binOp .and t x y u)(f:ev s x=some (.int .u64 a))(g:ev s y=some (.int .u64 b))(j:a<18446744073709551616)(l:b<18446744073709551616):OX P o s h ms (.int .u64 ((a &&& b:Nat):Int)):=
 Bz λρ w c _=>by
  have i:a &&& b<=a:=Nat.and_le_left
  have d:IntKind.u64.wrap (((BitVec.ofNat 64 a) &&& (BitVec.ofNat 64 b)).toNat:Int)=((a &&& b:Nat):Int):=by rw[BitVec.toNat_and,kk,kk,dv Z,dv Z];exact EN Z
  simp[execOp,e,c _ _ f,c _ _ g,Op.intBits,IntKind.bits,go_sem];exact d
end
end Go.Eng
namespace Go.Eng
open Go.RowKit
section
variable {e:Entry} {Q:Exit->Act->World->Prop} {ops:Array Oper} {rest:List Oper} {o:Oper} {s:AG} {h:Hp} {ms:List Hp}
theorem Dz{j f:Nat}{b:Bool}{i:Oper}(l:o.guard=some (j,b))(m:ops[j]?=some i)(d:i.dst=some f)(n:lk s f=some (.bool b))
  (k:WL e ops Q ({ o with guard:=none }::rest) s h ms):WL e ops Q (o::rest) s h ms:=λa w g p=>by
 have c:=k a w g p;unfold wpList at c ⊢;rw[ah (by simp[Region.wanted])]at c;rw[ah (by simp[Region.wanted,l,g.yields m d n])];exact c
end
end Go.Eng
namespace Go.Eng
open Go.RowKit Go.ChangeShapes Go.WideShapes Go.Deep
def whole(w:World):Hp:=λg=>w.heap[g]?
theorem St.whole(w:World):St w (whole w) []:=⟨λ_ _ h=>h,by simp,by simp,List.Pairwise.nil⟩
theorem Cell.ofW{w:World}{f:List Hp}{a:Addr}{v:Value}(h:w.cell? a=some v):Cell (whole w) f a v:=by
 unfold World.cell? at h;split at h
 .rename_i c el b d;split at h
  .cases h
  .rename_i e;exact⟨by simp_all,c,el,b,.inl d,h⟩
 .cases h
theorem L7{α:Type}{Q:Nat->α->Prop}:∀n,(∀i,i<n->∃a,Q i a)->∃l:List α,l.length=n/\∀i (b:i<l.length),Q i l[i]
 | 0,_=>⟨[],rfl,λi b=>by simp at b⟩
 | n+1,h=>by
  obtain⟨l,d,e⟩:=L7 n λi b=>h i Z;obtain⟨a,c⟩:=h n Z;refine⟨l++[a],by simp[d],λi b=>?_⟩;grind
section
variable {H:Type} {enc:TypeId×Value->H} {P:Program} {w:World} {base:Nat} {spare:Nat->Bool} {held:Bool}
theorem Aa1{α:Type}{F:α->List Value}{Ok:α->Prop}{sz:Nat}{t e:TypeId}{fuel:Nat}{v:Value}{x:DataW H×List MemPlace}(ht:P.underlying t=some (.slice e))(hC:P.cellsOf e=sz)(c:∀x,(F x).length=sz)(L:0<sz)
  (A:∀n cs y,DataW.trod enc P w base spare held n e cs=some y->∃a,cs=F a/\Ok a) (h:DataW.trod enc P w base spare held fuel t [v]=some x):∃l,RdL F sz (whole w) [] v l/\∀a∈l,Ok a:=by
 rcases open_slice ht h with ⟨M,_⟩|⟨a,len,s,m,n,D,Pl,f,R,hl,hm,K,hx,S⟩
 .simp only[List.cons.injEq,and_true]at M;subst M;exact⟨[],⟨⟨none,0,Y,by simp,Z,by simp,λh=>by simp at h⟩,c⟩,by simp⟩
 .simp only[List.cons.injEq,and_true]at f;subst f;rw[hC]at S;have hlm:len<=m:=by rw[K];split<;>omega
  obtain⟨l,B,hq⟩:=L7 (α:=α) (Q:=λi b=>w.cells? base (a.add (i*sz)) sz=some (F b)/\Ok b) len λi g=>by obtain⟨cs,p,d⟩:=S i Z;obtain⟨b,rfl,r⟩:=A n cs _ d;exact⟨b,p,r⟩
  refine⟨l,⟨⟨some a,s,by rw[B],Z,by unfold maxLen at hm;omega,B6 c l,λ_=>⟨a,rfl,λj u T=>?_⟩⟩,c⟩,λb R=>?_⟩
  .have k:=(bq.1 T).1;rw[B6 c l]at k;have p:j/sz<l.length:=Nat.div_lt_of_lt_mul (by rw[ei];exact k);have d:j%sz<sz:=f6 _ L;have r:j/sz*sz+j%sz=j:=by rw[ei];exact Nat.div_add_mod j sz
   have O:=I4 c l (j/sz) p (j%sz) ((F l[j/sz])[j%sz]'(by rw[c];exact d)) (aj _);rw[r,T]at O;have h5:=ay O;obtain⟨_,_,z⟩:=World.cells?_some (hq (j/sz) p).1;have Q:=z (j%sz) d;rw[BD,r]at Q;refine Cell.ofW<|Q.trans ?_;rw[aj (by rw[c];exact d),<-h5]
  grind [ee]
end
end Go.Eng
namespace Go.Eng
open Go.RowKit
section
variable {e:Entry} {ops:Array Oper} {Q:Exit->Act->World->Prop} {fuel:Nat} {listed:Array Bool} {s:AG} {h:Hp} {ms:List Hp}
theorem AgJ{P:Program}:∀fuel listed a w,wpAny P .any ops (Q0 Q) fuel listed a w->wpAny P .any ops Q fuel listed a w:=by
 intro fuel
 induction fuel with
 | zero=>intro listed a w k;exact⟨k.1,k.2.2⟩
 | succ fuel ih=>
  intro listed a w k;refine⟨λh=>(k.1 h).2,λi g=>?_⟩;have b:=k.2 i g;unfold wpOp at b ⊢;split
  .simp_all
  .rename_i o d;simp only[d]at b;split
   .rename_i f;rw[ah f]at b;rcases b with b|⟨_,b⟩
    .refine .inl ?_;unfold Oper.wp at *;generalize (execOp a.eval o).run P w=r at *;cases r with
     | ok n w'=>
      cases n<;>simp only[Oper.upon]at b ⊢ <;>
       first
        | exact ih _ _ _ b
        | exact Calls.mono b (λx j c=>by
         cases x
         .exact ih _ _ _ c
         .exact lj c.1 σ
         .exact lj c Ab3)
        | exact Rows.mono b<|λ_ _ c=>ih _ _ _ c
     | halt x w'=>cases x<;>simp only[Oper.upon]at b ⊢<;>exact lj b.1 σ
    .exact lj b Ab3
   simp_all
end
end Go.Eng
namespace Go.Eng
open Go.RowKit
structure O8{κ:Type}(P:Program)(kt:TypeId)(K:κ->Value)(Ok:κ->Prop):Prop where
 law:Maps.Keyed P kt
 inj:∀a b,K a=K b->a=b
 key:∀a,Ok a->∃l,keyOf P kt (K a)=some l
section
variable {κ ν:Type} (K:κ->Value) (V:ν->Value)
def O5(p:(κ×ν)×Nat):MapEntry:=⟨K p.1.1,V p.1.2,p.2⟩
structure CM(g:Nat)(Ok:κ->Prop)(m:Hp)(T:List (κ×ν))(bs:List Nat):Prop where
 ex:∃es clock,m=Hp.one g (.map es clock)/\es.toList=(T.zip bs).map (O5 K V)/\∀b∈bs,b<clock
 len:bs.length=T.length
 up:bs.Pairwise (· < ·)
 keys:(T.map Prod.fst).Nodup
 ok:∀p∈T,Ok p.1
end
theorem Pi{α:Type}{l:List α}(m:l.Nodup){i j:Nat}{a:α}(g:l[i]?=some a)(k:l[j]?=some a):i=j:=by
 grind [bq,bw,iz]
section
variable {κ ν:Type} [DecidableEq κ]
def BO(T:List (κ×ν))(a:κ):Option ν:=(T.find? λp=>decide (p.1=a)).map Prod.snd
theorem EU{T:List (κ×ν)}(b:(T.map Prod.fst).Nodup){j:Nat}{a:κ}{x:ν}(h:T[j]?=some (a,x)):BO T a=some x:=by
 induction T generalizing j with
 | nil=>simp at h
 | cons p T ih=>
  grind [BO,j8,dh,gt,ai,ez,decide_false]
theorem Ee{T:List (κ×ν)}{a:κ}(h:a ∉ T.map Prod.fst):BO T a=none:=by
 grind [BO,ai]
end
section
variable {κ ν:Type} [DecidableEq κ] {K:κ->Value} {V:ν->Value} {Ok:κ->Prop} {P:Program} {kt et t:TypeId} {g:Nat} {m:Hp} {T:List (κ×ν)} {bs:List Nat}
theorem IQ(L:O8 P kt K Ok)(B:(T.map Prod.fst).Nodup)(k:∀p∈T,Ok p.1)(A:bs.length=T.length){f:Array MapEntry}(h:f.toList=(T.zip bs).map (O5 K V))(w:World)(a:κ)(s:Ok a) :
  ((Instr.findKey kt (K a) f.toList).run P w=.ok none w/\a ∉ T.map Prod.fst)\/∃(j:Nat) (x:ν) (b:Nat),(Instr.findKey kt (K a) f.toList).run P w=.ok (some (j,V x)) w/\T[j]?=some (a,x)/\bs[j]?=some b/\f[j]?=some ⟨K a,V x,b⟩:=by
 obtain⟨l,v⟩:=L.key a s
 rcases L.law.find w v f.toList (λe c=>by
  rw[h]at c;obtain⟨p,n,rfl⟩:=ai.1 c
  exact L.key p.1.1<|k p.1 (List.of_mem_zip n).1) with ⟨h1,d⟩|⟨j,e,h1,d,h3⟩
 .refine .inl ⟨h1,λc=>?_⟩;obtain⟨p,n,rfl⟩:=ai.1 c;obtain⟨j,u,e⟩:=ee n;have i:j<bs.length:=Z
  refine d (O5 K V (p,bs[j])) ?_ Y;rw[h];exact ai.2 ⟨(p,bs[j]),ez (i:=j) (by simp_all),rfl⟩
 .rw[h,gj]at d;cases hz:(T.zip bs)[j]? with
  | none=>simp_all
  | some p=>
   rw[hz]at d;have d:=ay d;obtain⟨y,z⟩:=im.1 hz;have r:p.1.1=a:=L.inj _ _ (by rw[<-d]at h3;exact h3);refine .inr ⟨j,p.1.2,p.2,?_,?_,z,?_⟩
   .rw[h1,<-d];rfl
   .rw[y,<-r]
   .rw[<-Array.getElem?_toList,h,gj,hz,<-r];rfl
variable {o:Oper} {s:AG} {h:Hp} {ms:List Hp}
theorem LZ{x y:Operand}{z:ν}(a:κ)(L:O8 P kt K Ok)(O:CM K V g Ok m T bs)(S:m∈ms)(v:o.op=.lookup t x y false)(A:P.underlying t=some (.map kt et))(f:∀w,(zeroValue et).run P w=.ok (V z) w)(B:ev s x=some (.map (some g)))(M:ev s y=some (K a))(p:Ok a) :
  OX P o s h ms (V ((BO T a).getD z)):=
 Bz λρ w i hw=>by
  obtain⟨n,c,rfl,Q,hb⟩:=O.ex;have e:w.heap[g]?=some (.map n c):=hw.own _ S g _ (Hp.one_self _ _);obtain⟨l,R⟩:=L.key a p;have r:=L.law.check w n.isEmpty R;rcases IQ L O.keys O.ok O.len Q w a p with ⟨d,k⟩|⟨j,u,b,d,k,_,_⟩
  ·rw[Ee k];simp only[execOp,v,i _ _ B,i _ _ M,Instr.lookup,ep,cw A,dt,getObj,fl,d,f];simp[Sem.run,e,r,d,f,Result.andThen]
  ·rw[EU O.keys k];simp only[execOp,v,i _ _ B,i _ _ M,Instr.lookup,ep,cw A,dt,getObj,fl,d,f];simp[Sem.run,e,r,d,f,Result.andThen]
theorem Ends.turn{l w:World}{f h:Hp}{a ms:List Hp}{i g:Nat}{o b:Obj}(v:Ends l f a w h ms)(j:ms[i]?=some (Hp.one g o)):Ends l f a { w with heap:=w.heap.setIfInBounds g b } h (ms.set i (Hp.one g b)):=by
 obtain⟨r,n,p⟩:=FN ms i (Hp.one g o) (Hp.one g b) j;have c:w.heap[g]?=some o:=v.st.own _ (ez j) g o (Hp.one_self g o);have d:=(cj.1 c).1;refine Ends.perm (Ends.change (v.perm n) Y ⟨Y,ak _⟩ Y σ ?_ λk u e=>?_) p.symm
 all_goals grind
def DG(T:List (κ×ν))(a:κ)(x:ν):List (κ×ν):=if a∈T.map Prod.fst then T.map λp=>if p.1=a then(a,x) else p else T++[(a,x)]
theorem Gj{T:List (κ×ν)}(f:(T.map Prod.fst).Nodup)(a:κ)(x:ν):((DG T a x).map Prod.fst).Nodup:=by
 grind [DG,jb,fg,cz,kv]
theorem Gg{T:List (κ×ν)}(n:(T.map Prod.fst).Nodup){j:Nat}{a:κ}{y x:ν}(h:T[j]?=some (a,y)):DG T a x=T.set j (a,x):=by
 have c:a∈T.map Prod.fst:=ai.2 ⟨(a,y),ez h,Y⟩;unfold DG;rw[ah c];refine ic λi=>?_;rw[gj,gh];obtain⟨l,d⟩:=bq.1 h;by_cases b:j=i
 .grind
 .rw[af b];cases hi:T[i]? with
  | none=>rfl
  | some p=>
   have:p.1≠a:=λe=>by
    have f:(T.map Prod.fst)[i]?=some a:=by rw[gj,hi];exact bh some e
    have k:(T.map Prod.fst)[j]?=some a:=by rw[gj,h];rfl
    grind [Pi]
   simp[this]
theorem Gk{T:List (κ×ν)}(a b:κ)(x:ν):BO (DG T a x) b=if b=a then some x else BO T b:=by
 unfold BO DG;split
 .rename_i d
  induction T with
  | nil=>simp at d
  | cons p T ih=>
   rw[dh,j8,j8];by_cases i:p.1=a
   .rw[ah i];by_cases c:b=a
    .subst c;simp
    .have k:a≠b:=λe=>c e.symm;have l:p.1≠b:=λe=>k (i.symm.trans e);simp only[k,l,decide_false,af c];by_cases f:a∈T.map Prod.fst
     .have:=ih f;rw[af c]at this;exact this
     .have:(T.map λp=>if p.1=a then(a,x) else p)=T:=by
       rw[fg (g:=id) λq n=>?_]
       .simp
       .rw[af λe=>f (ai.2 ⟨q,n,e⟩)];rfl
      rw[this]
   .rw[af i];by_cases j:p.1=b
    .have c:b≠a:=λe=>i (j.trans e);simp[j,c]
    .simp only[j,decide_false]
     exact ih (by
      rw[dh,be]at d
      exact d.resolve_left λe=>i e.symm)
 grind
theorem Yy(T:List (κ×ν))(bs:List Nat)(j:Nat)(p:κ×ν)(b:Nat)(a:bs[j]?=some b):(T.set j p).zip bs=(T.zip bs).set j (p,b):=by
 induction T generalizing j bs with
 | nil=>simp
 | cons q T ih=>
  cases bs with
  | nil=>simp
  | cons c bs=>
   induction j<;>simp_all
variable {e:Entry} {Q:Exit->Act->World->Prop} {ops:Array Oper} {rest:List Oper}
theorem DJ{d:Nat}(p:o.op=.makeMap t none)(j:o.dst=some d)(n:Nat.blt d e.n=true)(l:o.guard=none)
  (k:∀g m,CM K V g Ok m ([]:List (κ×ν)) []->WL e ops Q rest ((d,.map (some g))::s) h (m::ms)):WL e ops Q (o::rest) s h ms:=
 Is (post:=λv i a=>∃g,v=.map (some g)/\i=h/\a=Hp.one g (.map #[] 0)::ms) (λρ w u r=>by
  simp_all [execOp,run_makeMap,OpRes,Ends.alloc]) j n l λ_ _ _ ⟨g,b,c,f⟩=>by subst b c f;exact k g _ ⟨⟨#[],0,Y,Y,by simp⟩,rfl,List.Pairwise.nil,by simp,by simp⟩
theorem Adq(T:List (κ×ν))(bs:List Nat)(a:bs.length=T.length)(p:κ×ν)(b:Nat):(T++[p]).zip (bs++[b])=T.zip bs++[(p,b)]:=by simp_all [List.zip_append]
theorem AdJ{bs:List Nat}(h:bs.Pairwise (· < ·)){c:Nat}(i:∀b∈bs,b<c):(bs++[c]).Pairwise (· < ·):=by grind
end
end Go.Eng
namespace Go.Eng
open Go.RowKit
variable {x:Operand}
structure EF(gi g:Nat)(m mi:Hp)(bs vis:List Nat):Prop where
 ex:∃es clock since seen last,m=Hp.one g (.map es clock)/\mi=Hp.one gi (.mapIter (some g) since seen last)/\(∀b∈bs,b<since)/\since<=last/\since<=clock/\seen.toList=vis.map (λj=>bs[j]?.getD 0)/\(vis≠[]->last=clock)
 lt:∀j∈vis,j<bs.length
 nodup:vis.Nodup
theorem K7{g:Nat}{o a:Obj}(h:Hp.one g o=Hp.one g a):o=a:=by have:=congrFun h g;grind [Hp.one_self,ay]
section
variable {κ ν:Type} [DecidableEq κ] {K:κ->Value} {V:ν->Value} {Ok:κ->Prop} {P:Program} {t:TypeId} {gi g:Nat} {m mi:Hp} {T:List (κ×ν)} {bs vis:List Nat}
variable {o:Oper} {s:AG} {h:Hp} {ms:List Hp} {e:Entry} {Q:Exit->Act->World->Prop} {ops:Array Oper} {rest:List Oper}
theorem AbC{d:Nat}{kt y:TypeId}(O:CM K V g Ok m T bs)(L:m∈ms)(R:o.op=.range t x)(S:e.P.underlying t=some (.map kt y))(hx:ev s x=some (.map (some g)))(A:o.dst=some d)(M:Nat.blt d e.n=true)(B:o.guard=none)
  (k:∀gi mi,EF gi g m mi bs []->WL e ops Q rest ((d,.pt gi)::s) h (mi::ms)):WL e ops Q (o::rest) s h ms:=
 Is (post:=λv j c=>∃gi mi,EF gi g m mi bs []/\v=.pt gi/\j=h/\c=mi::ms) (λρ w hρ l=>by
  obtain⟨i,a,rfl,he,z⟩:=O.ex;have f:w.heap[g]?=some (.map i a):=l.st.own _ L g _ (Hp.one_self _ _)
  have b:(execOp ρ o).run e.P w=.ok (.value (.pointer (some ⟨w.heap.size,0,none⟩))) (w.alloc (.mapIter (some g) a #[] a)):=by simp only[execOp,R,hρ _ _ hx,Instr.range,ep,cw S,dt,getObj,fl];simp[Sem.run,f,Result.andThen,newObj]
  unfold OpRes;rw[b]
  exact⟨h,_,Ends.alloc l _,_,_,⟨⟨i,a,a,#[],a,Y,Y,z,ak _,ak _,Y,λh=>lj Y h⟩,by simp,List.Pairwise.nil⟩,rfl,rfl,rfl⟩) A M B λv j c ⟨gi,mi,n,p,r,u⟩=>by simp_all
theorem Adf{bs:List Nat}(h:bs.Pairwise (· < ·)){i j:Nat}{b:Nat}(a:bs[i]?=some b)(c:bs[j]?=some b):i=j:=
 Pi (h.imp λh=>Nat.ne_of_lt h) a c
theorem Ad1{d:Nat}(i:Nat)(O:CM K V g Ok m T bs)(I:EF gi g m mi bs vis)(hm:m∈ms)(z:ms[i]?=some mi)(ho:o.op=.next x false)(S:ev s x=some (.pointer (some ⟨gi,0,none⟩)))(hd:o.dst=some d)(hn:Nat.blt d e.n=true)(hg:o.guard=none)
  (k0:(∀j,j<T.length->j∈vis)->WL e ops Q rest ((d,.tuple #[.bool false])::s) h ms)
  (k1:∀(j:Nat) (n:j<T.length) (r:Hp),j ∉ vis->EF gi g m r bs (vis++[j])->WL e ops Q rest ((d,.tuple #[.bool true,K T[j].1,V T[j].2])::s) h (ms.set i r)):WL e ops Q (o::rest) s h ms:=
 Is (post:=λv h' ms'=>(v=.tuple #[.bool false]/\h'=h/\ms'=ms/\∀j,j<T.length->j∈vis)\/∃(j:Nat) (n:j<T.length) (r:Hp),j ∉ vis/\EF gi g m r bs (vis++[j])/\v=.tuple #[.bool true,K T[j].1,V T[j].2]/\h'=h/\ms'=ms.set i r) (λρ w hρ hw=>by
  obtain⟨es,k,rfl,he,hb⟩:=O.ex;obtain⟨es',clock',l,c,L,M,rfl,i1,i2,i3,i4,i5⟩:=I.ex;have M:=K7 M;cases M;have hgw:w.heap[g]?=some (.map es k):=hw.st.own _ hm g _ (Hp.one_self _ _);have hiw:w.heap[gi]?=some (.mapIter (some g) l c L):=hw.st.own _ (ez z) gi _ (Hp.one_self _ _)
  have A:∀x∈es.toList,∃(j:Nat) (n:j<T.length) (f:j<bs.length),x=O5 K V (T[j],bs[j]):=λx S=>by rw[he]at S;obtain⟨p,hp,rfl⟩:=ai.1 S;obtain⟨j,n⟩:=List.getElem?_of_mem hp;grind
  have hin:∀(j:Nat) (n:j<T.length) (f:j<bs.length),O5 K V (T[j],bs[j])∈es.toList:=λj n f=>by rw[he];exact ai.2 ⟨(T[j],bs[j]),ez (i:=j)<|im.2 ⟨aj n,aj f⟩,Y⟩
  have y:∀b,c.contains b=true<->∃j∈vis,bs[j]?.getD 0=b:=λb=>by rw[Array.contains_iff_mem,<-iw,i4,ai]
  rcases run_next_at (P:=e.P) w o.type gi g l L c es k hiw hgw (λx S=>by
   obtain⟨j,n,f,rfl⟩:=A x S
   exact i1 _<|aq f) i2 with ⟨R,h2⟩|⟨x,R,w1,h2,h3⟩
  .have u:(execOp ρ o).run e.P w=.ok (.value (.tuple #[.bool false])) w:=by
    simp only[execOp,ho,hρ _ _ S,ep,h2,dt,fl]
   unfold OpRes;rw[u];refine⟨h,ms,hw,.inl ⟨Y,Y,Y,λj n=>?_⟩⟩;have f:j<bs.length:=by rw[O.len];exact n
   have hmem:=hin j n f
   have hc:c.contains bs[j]=true:=by
    cases hcc:c.contains bs[j] with
    | true=>rfl
    | false=>
     have:O5 K V (T[j],bs[j])∈leftOf es c:=by unfold leftOf;rw[Array.mem_filter];exact⟨iw.1 hmem,by show(!c.contains bs[j])=true;rw[hcc];rfl⟩
     rw[Array.size_eq_zero_iff.1 R]at this;simp at this
   obtain⟨j',hj',e2⟩:=(y _).1 hc;have B:=I.lt j' hj';rw[aj B]at e2;have:j'=j:=Adf O.up (aj B) (by rw[aj f];exact bh some e2.symm);simp_all
  .unfold leftOf at R;have R:=Array.mem_filter.1 (iw.1 R);obtain⟨j,n,f,rfl⟩:=A x (iw.2 R.1)
   have hjv:j ∉ vis:=λhv=>by grind [aj,O5]
   have u:(execOp ρ o).run e.P w=.ok (.value (.tuple #[.bool true,K T[j].1,V T[j].2])) (ChangeMaps.setBlock w1 gi (.mapIter (some g) l (c.push bs[j]) k)):=by simp only[execOp,ho,hρ _ _ S,ep,h3,dt,fl,O5]
   unfold OpRes;rw[u]
   have hw1:e.Ends w1 h ms:=by
    rcases h2 with rfl|rfl
    .exact hw
    .exact Ends.drew hw
   refine⟨h,_,Ends.turn hw1 z,.inr ⟨j,n,_,hjv,⟨⟨es,k,l,c.push bs[j],k,Y,Y,i1,i3,i3,?_,λ_=>rfl⟩,λi z=>?_,?_⟩,Y,Y,Y⟩⟩
   .simp_all
   .rcases bi.1 z with z|z
    .exact I.lt i z
    simp_all
   .exact kv.2 ⟨I.nodup,by simp,λa ha b hb e=>by simp_all⟩) hd hn hg λv h' ms' hp=>by
  grind
theorem AcX{j:Nat}(O:CM K V g Ok m T bs)(I:EF gi g m mi bs (vis++[j]))(L:m∈ms)(A:mi∈ms)(v:j<T.length)(R:o.op=.entry x)(hx:ev s x=some (.pointer (some ⟨gi,0,none⟩))):OX P o s h ms (.tuple #[K T[j].1,V T[j].2]):=
 Bz λρ w hρ y=>by
  obtain⟨l,c,rfl,u,hb⟩:=O.ex;obtain⟨z,k,b,i,a,n,rfl,i1,i2,i3,i4,i5⟩:=I.ex;have n:=K7 n;cases n;have B:a=c:=i5 σ;subst B;have p:w.heap[g]?=some (.map l a):=y.own _ L g _ (Hp.one_self _ _);have d:j<bs.length:=by rw[O.len];exact v
  have S:i=(vis.map λj=>bs[j]?.getD 0).toArray.push bs[j]:=by apply Array.toList_inj.1;rw[i4,Array.toList_push,cz];simp[aj d]
  have r:w.heap[gi]?=some (.mapIter (some g) b ((vis.map λj=>bs[j]?.getD 0).toArray.push (O5 K V (T[j],bs[j])).born) a):=by have:=y.own _ A gi _ (Hp.one_self _ _);rw[S]at this;exact this
  have f:O5 K V (T[j],bs[j])∈l.toList:=by rw[u];exact ai.2 ⟨(T[j],bs[j]),ez (i:=j)<|im.2 ⟨aj v,aj d⟩,Y⟩
  have M:(l.toList.map (·.born)).Nodup:=by rw[u,jb];have:(MapEntry.born∘O5 K V)=(Prod.snd:(κ×ν)×Nat->Nat):=rfl;rw[this,List.map_snd_zip (by rw[O.len];exact ak _)];exact O.up.imp λh=>Nat.ne_of_lt h
  have:=run_entry_at (P:=P) w gi g b _ l a _ r p f M;simp only[execOp,R,hρ _ _ hx,ep,this,dt,fl,O5]
end
end Go.Eng
namespace Go.Eng
open Go.RowKit
variable {m c:Hp} {r:List Oper} {w:World}
theorem DH{α:Type}:∀{l:List α} {i:Nat} {a:α},l[i]?=some a->l.Perm (a::l.eraseIdx i)
 | [],i,a,h=>by simp at h
 | b::l,0,a,h=>by simp_all
 | b::l,i+1,a,h=>by simp at h;exact((DH h).cons b).trans (List.Perm.swap _ _ _)
theorem Ends.erase{e:World}{d h:Hp}{a b:List Hp}{i:Nat}(g:Ends e d a w h b)(f:b[i]?=some m):Ends e d a w h (b.eraseIdx i):=
 Ends.drop (Ends.perm g (DH f))
section
variable {P:Program} {w0:World} {h0:Hp} {ms0:List Hp} {n:Nat} {fn:Func} {post:Value->Hp->List Hp->Prop} {s:AG} {h:Hp} {ms:List Hp} {t u:Nat} {ty el:TypeId} {g:Nat} {d:TypeDesc} {sz:Nat} {z:Value} {bytes:Nat} {vs:List Value} {v:Value}
theorem BC(i:Nat)(K:fn.results=#[.cell t ty])(O:lk s t=some (.pointer (some ⟨g,0,none⟩)))(M:P.underlying ty=some d)(y:Iv d=true)(L:Elem P ty sz z bytes)(A:vs.length=sz)(l:ms[i]?=some (BE g el vs))(B:post (.agg vs.toArray) h (ms.eraseIdx i)) :
  NX ⟨P,w0,h0,ms0,n,[]⟩ (bodyPost P fn (RP w0 h0 ms0 post)) .ret s h ms:=λa w k p=>by
 have x:a.tmps[t]?.getD undef=.pt g:=by rw[k.slots t _ O];rfl
 have b:(isAgg ty).run P w=.ok true w:=by rw[Dn M,y]
 have f:∀j v,vs[j]?=some v->w.cell? ((⟨g,0,none⟩:Addr).add j)=some v:=λj v e=>p.st.cell (Seg.blk i l j v e);refine kb (v:=.agg vs.toArray) ?_ k.defers ⟨_,h,_,Y,Ends.erase p l,B⟩;subst A;simp[results,K,x,asAddr,loadVar,b,L.sizeOf,gq (P:=P) w _ vs f]
theorem Ja(i:Nat)(L:fn.results=#[.cell t ty,.tmp u])(R:lk s t=some (.pointer (some ⟨g,0,none⟩)))(Q:lk s u=some v)(O:P.underlying ty=some d)(A:Iv d=true)(M:Elem P ty sz z bytes)(B:vs.length=sz)(l:ms[i]?=some (BE g el vs))(K:post (.tuple #[.agg vs.toArray,v]) h (ms.eraseIdx i)) :
  NX ⟨P,w0,h0,ms0,n,[]⟩ (bodyPost P fn (RP w0 h0 ms0 post)) .ret s h ms:=λa w b p=>by
 have x:a.tmps[t]?.getD undef=.pt g:=by rw[b.slots t _ R];rfl
 have y:a.tmps[u]?.getD undef=v:=by rw[b.slots u _ Q];rfl
 have f:(isAgg ty).run P w=.ok true w:=by rw[Dn O,A]
 have k:∀j v,vs[j]?=some v->w.cell? ((⟨g,0,none⟩:Addr).add j)=some v:=λj v e=>p.st.cell (Seg.blk i l j v e);refine kb (v:=.tuple #[.agg vs.toArray,v]) ?_ b.defers ⟨_,h,_,Y,Ends.erase p l,K⟩;subst B;simp[results,L,x,y,asAddr,loadVar,f,M.sizeOf,gq (P:=P) w _ vs k]
end
def Yf:Value->Bool
 | .slice none _ _=>true
 | _=>false
section
variable {P:Program} {o:Oper} {s:AG} {h:Hp} {ms:List Hp} {t u el:TypeId} {x y:Operand} {v:Value} {sz n:Nat} {cs:List Value}
theorem OP(R:Rd h ms v sz n cs)(e:o.op=.binOp .eql t x y u)(f:P.underlying t=some (.slice el))(g:ev s x=some v)(i:ev s y=some (.slice none 0 0)):OX P o s h ms (.bool (Yf v)):=by
 obtain⟨a,c,rfl,_⟩:=R.ex;refine Bz λρ w b _=>?_;have:=Go.Lib.run_eql_slice_nil w t el a n c 0 0 f;have d:(eqGuard .eql t x y (.slice a n c) (.nl)).run P w=.ok () w:=by simp[eqGuard]
 cases a<;>simp[execOp,e,b _ _ g,b _ _ i,this,d,Yf]
end
theorem Lw{h:Hp}{f:List Hp}{v:Value}{sz n:Nat}{cs:List Value}(R:Rd h f v sz n cs)(e:Yf v=true):n=0:=by obtain⟨a,c,rfl,g,i,j,b⟩:=R.ex;refine Nat.eq_zero_of_not_pos λd=>?_;obtain⟨q,rfl,_⟩:=b d;simp[Yf]at e
theorem Hp.disj_join{a b:Hp}(f:a.disj c)(h:b.disj c):(a.join b).disj c:=λg=>by
 rcases f g with d|d
 .rcases h g with e|e
  .left;simp[Hp.join,d,e]
  .exact .inr e
 simp_all
theorem Hp.disj_left{a b:Hp}(h:(a.join b).disj c):a.disj c:=λg=>by
 rcases h g with e|e
 all_goals grind [Hp.join]
theorem Hp.disj_right{a b:Hp}(h:(a.join b).disj c):b.disj c:=λg=>by
 rcases h g with e|e
 all_goals grind [Hp.join]
theorem Se{e:Entry}{Q:Exit->Act->World->Prop}{s:AG}{h:Hp}{i:List Hp}{x:Exit}(k:NX e Q x s h (Hp.emp::i)):NX e Q x s h i:=λa w j b=>k a w j
 ⟨⟨b.st.imm,λm d=>by
  rcases be.1 d with rfl|d
  .intro g o e;cases e
  .exact b.st.own m d,λm d=>by
  rcases be.1 d with rfl|d
  .exact λ_=>.inl Y
  .exact b.st.off m d,cg.2 ⟨λ_ _ _=>.inl Y,b.st.apart⟩⟩,b.os,b.tape,b.output,b.size,b.block,b.le,b.hnew,λm d k l f=>by
  rcases be.1 d with rfl|d
  .exact lj Y f
  .exact b.mnew m d k l f⟩
theorem EB{e:Entry}{Q:Exit->Act->World->Prop}{s:AG}{h:Hp}{b:List Hp}{x:Exit}(i:Nat)(f:b[i]?=some m)(k:NX e Q x s h (b.eraseIdx i)):NX e Q x s h b:=λa w d g=>k a w d (Ends.erase g f)
theorem PF{e:Entry}{Q:Exit->Act->World->Prop}{s:AG}{h:Hp}{d:List Hp}{b:Array Oper}(i:Nat)(g:d[i]?=some m)(k:WL e b Q r s h (d.eraseIdx i)):WL e b Q r s h d:=λa w f j=>k a w f (Ends.erase j g)
@[simp] theorem AiA(k:IntKind)(n:Int):(Value.int k n).oneCell'=true:=rfl
@[simp] theorem Aip(b:Bool):(Value.bool b).oneCell'=true:=rfl
@[simp] theorem Aiz(p:Option Addr):(Value.pointer p).oneCell'=true:=rfl
@[simp] theorem Aic(p:Option Addr)(n c:Nat):(Value.slice p n c).oneCell'=true:=rfl
@[simp] theorem Aix(p:Option Nat):(Value.map p).oneCell'=true:=rfl
theorem Fm{e:Entry}{Q:Exit->Act->World->Prop}{f:Array Oper}{b:List Oper}{o:Oper}{s:AG}{h:Hp}{g:List Hp}{el:TypeId}{v:Value}{l:List Int}{t:TypeId}{x y:Operand}{z:Value}{d:Nat}{a:Int}(i j:Nat)(O:OwnL cI 1 el m v l)(B:o.op=.store t x y)(L:Elem e.P t 1 z d)(M:ev s x=some (.pointer (some ((AJ v).add (j*1)))))(P:ev s y=some (.int .i64 a))
  (A:g[i]?=some m) (u:j<l.length) (n:o.dst=none) (p:o.guard=none)
  (K:∀k,OwnL cI 1 el k v (l.set j a)->WL e f Q b s h (g.set i k)):WL e f Q (o::b) s h g:=
 Db i j (λ_=>rfl) O B L M P rfl A u n p K
theorem OwnL.blk{α:Type}{F:α->List Value}{sz:Nat}{el:TypeId}{g:Nat}{l:List α}(n:Nat)(a:∀x,(F x).length=sz)(b:l.length=n)(d:n<=9223372036854775807):OwnL F sz el (BE g el (l.flatMap F)) (.slice (some ⟨g,0,none⟩) n n) l:=
 ⟨⟨B6 a l,.inr ⟨g,n,[],by rw[b],by rw[d8],by rw[d8,B6 a,b],Z,d⟩⟩,a⟩
theorem OwnL.rep{g:Nat}{el:TypeId}(n:Nat)(x:Int)(a:n<=9223372036854775807):OwnL cI 1 el (BE g el (replicate n (.int .i64 x))) (.slice (some ⟨g,0,none⟩) n n) (replicate n x):=by grind [Ahe,OwnL.blk,Bf]
theorem Ends.join{p:World}{l h:Hp}{i n:List Hp}{a b:Hp}(u:Ends p l i w h (a::b::n)):Ends p l i w h (a.join b::n):=by
 have g:=cg.1 u.st.apart;have f:=cg.1 g.2;refine⟨⟨u.st.imm,?_,?_,cg.2 ⟨λm d=>Hp.disj_join (g.1 m (am _ d)) (f.1 m d),f.2⟩⟩,u.os,u.tape,u.output,u.size,u.block,u.le,u.hnew,?_⟩
 .intro m d;rcases be.1 d with rfl|d
  .intro k o e;unfold Hp.join at e;split at e
   .rename_i t s;cases e;exact u.st.own a σ k _ s
   .exact u.st.own b σ k o e
  .exact u.st.own m (by simp[d])
 .intro m d;rcases be.1 d with rfl|d
  .exact Hp.disj_join (u.st.off a σ)<|u.st.off b σ
  .exact u.st.off m (by simp[d])
 .intro m d k j e;rcases be.1 d with rfl|d
  .cases ha:a k with
   | some o=>exact u.mnew a σ k j (by rw[ha];simp)
   | none=>exact u.mnew b σ k j (by grind [Hp.join])
  .exact u.mnew m (by simp[d]) k j e
theorem Ends.part{x:World}{n h:Hp}{g v:List Hp}{a b:Hp}(y:Ends x n g w h (a.join b::v))(u:a.disj b):Ends x n g w h (a::b::v):=by
 have f:=cg.1 y.st.apart
 have t:∀k o,b k=some o->(a.join b) k=some o:=λk o e=>by
  rcases u k with i|i
  all_goals grind [Hp.join]
 have s:∀k o,a k=some o->(a.join b) k=some o:=λk o e=>by simp[Hp.join,e]
 refine⟨⟨y.st.imm,?_,?_,cg.2 ⟨?_,cg.2 ⟨λm d=>Hp.disj_right (f.1 m d),f.2⟩⟩⟩,y.os,y.tape,y.output,y.size,y.block,y.le,y.hnew,?_⟩
 .intro m d;rcases be.1 d with rfl|d
  .exact λk o e=>y.st.own _ σ k o<|s k o e
  rcases be.1 d with rfl|d
  .exact λk o e=>y.st.own _ σ k o<|t k o e
  .exact y.st.own m (by simp[d])
 .intro m d;have p:=y.st.off (a.join b) σ;rcases be.1 d with rfl|d
  .exact Hp.disj_left p
  rcases be.1 d with rfl|d
  .exact Hp.disj_right p
  .exact y.st.off m (by simp[d])
 .grind [be,Hp.disj_left]
 .intro m d k j e;rcases be.1 d with rfl|d
  .obtain⟨o,l⟩:=Hp.ne_none e;exact y.mnew (m.join b) σ k j (by simp_all)
  rcases be.1 d with rfl|d
  .obtain⟨o,l⟩:=Hp.ne_none e;exact y.mnew (a.join m) σ k j (by simp_all)
  .exact y.mnew m (by simp[d]) k j e
section
variable {e:Entry} {Q:Exit->Act->World->Prop} {s:AG} {h:Hp} {ms:List Hp} {a b:Hp} {ops:Array Oper}
theorem AdU(k:WL e ops Q r s h (a.join b::ms)):WL e ops Q r s h (a::b::ms):=λx w d f=>k x w d (Ends.join f)
theorem Jl{y:Exit}(k:NX e Q y s h (a.join b::ms)):NX e Q y s h (a::b::ms):=λx w d f=>k x w d (Ends.join f)
theorem MK{c:Code}(f:a.disj b)(k:WS e c Q s h (a::b::ms)):WS e c Q s h (a.join b::ms):=λx w d g=>k x w d (Ends.part g f)
theorem Afg(f:a.disj b)(k:WL e ops Q r s h (a::b::ms)):WL e ops Q r s h (a.join b::ms):=λx w d g=>k x w d (Ends.part g f)
theorem Ace(k:ms.Pairwise Hp.disj->WL e ops Q r s h ms):WL e ops Q r s h ms:=λx w f d=>k d.st.apart x w f d
theorem HC{y:Exit}(k:ms.Pairwise Hp.disj->NX e Q y s h ms):NX e Q y s h ms:=λx w f d=>k d.st.apart x w f d
end
end Go.Eng
