/- A part of the proof. -/
import Derived.Sort.LotA
import Derived.Calls
import Derived.Laws.Sem
import Derived.Laws.World
import Derived.Laws.Rows
import Derived.Laws.AppendOwn
import Derived.Below
import Derived.Tactics
import Derived.Orders
import Derived.Laws.Entries
import Derived.Laws.Cells
import Derived.Laws.Slices
import Derived.Laws.Small
import Derived.IntWalk
import Derived.Laws.Append
import Derived.Laws.MakeOwn
import Derived.Laws.CopyRow
import Derived.Deep.Quiet
set_option linter.unusedSimpArgs false
set_option linter.unusedVariables false
set_option linter.unusedSectionVars false
set_option maxRecDepth 100000
set_option maxHeartbeats 4000000
open List (length_singleton replicate range length_append nil_append mem_range cons_append mem_cons_self mem_cons_of_mem map_cons append_assoc flatMap_cons mem_append_left mem_append_right drop_drop)
theorem ω{p:Prop}(h:p:=by omega):p:=h
theorem κ{p:Prop}(h:p:=by kernel_rfl):p:=h
theorem σ{p:Prop}(h:p:=by simp):p:=h
theorem δ{p:Prop}(h:p:=by decide):p:=h
abbrev Go.Value.nl:Go.Value:=.slice none 0 0
abbrev Go.Value.w(n:Int):Go.Value:=.int .i64 n
abbrev Go.Value.pt(g:Nat):Go.Value:=.pointer (some ⟨g,0,none⟩)
theorem jt{a b:Prop}(h:a)(k:¬a):b:=absurd h k
theorem aa:type_of% @if_neg:=@if_neg
theorem ab:type_of% @List.length_singleton:=@List.length_singleton
theorem ac:type_of% @if_pos:=@if_pos
theorem ad:type_of% @List.mem_map:=@List.mem_map
theorem ae:type_of% @List.getElem_mem:=@List.getElem_mem
theorem af:type_of% @List.length_map:=@List.length_map
theorem ag:type_of% @List.length_append:=@List.length_append
theorem ah:type_of% @List.getElem?_eq_getElem:=@List.getElem?_eq_getElem
theorem ai:type_of% @decide_eq_true:=@decide_eq_true
theorem aj:type_of% @decide_eq_false:=@decide_eq_false
theorem ak:type_of% @List.take_succ_eq_append_getElem:=@List.take_succ_eq_append_getElem
theorem am:type_of% @Array.getD_eq_getD_getElem?:=@Array.getD_eq_getD_getElem?
theorem ao:type_of% @List.mem_singleton:=@List.mem_singleton
theorem aq:type_of% @List.mem_cons:=@List.mem_cons
theorem au:type_of% @Nat.le_refl:=@Nat.le_refl
theorem av:type_of% @List.length_take:=@List.length_take
theorem aw:type_of% @congrArg:=@congrArg
theorem ax:type_of% @List.pairwise_iff_getElem:=@List.pairwise_iff_getElem
theorem ay:type_of% @List.nil_append:=@List.nil_append
theorem ba:type_of% @Array.getElem?_eq_some_iff:=@Array.getElem?_eq_some_iff
theorem bc:type_of% @Classical.byContradiction:=@Classical.byContradiction
theorem bf:type_of% @List.mem_append:=@List.mem_append
theorem bg:type_of% @List.getElem?_eq_some_iff:=@List.getElem?_eq_some_iff
theorem bh:type_of% @List.mem_cons_of_mem:=@List.mem_cons_of_mem
theorem bi:type_of% @List.mem_range:=@List.mem_range
theorem bj:type_of% @List.pairwise_cons:=@List.pairwise_cons
theorem bk:type_of% @Classical.not_not:=@Classical.not_not
theorem bl:type_of% @List.cons_append:=@List.cons_append
theorem bm:type_of% @List.map_append:=@List.map_append
theorem bo:type_of% @Bool.and_eq_true:=@Bool.and_eq_true
theorem bp:type_of% @List.append_assoc:=@List.append_assoc
theorem br:type_of% @List.mem_filter:=@List.mem_filter
theorem bu:type_of% @List.mem_cons_self:=@List.mem_cons_self
theorem bw:type_of% @Int.emod_lt_of_pos:=@Int.emod_lt_of_pos
theorem bz:type_of% @of_decide_eq_true:=@of_decide_eq_true
theorem cm:type_of% @List.pairwise_map:=@List.pairwise_map
theorem co:type_of% @Int.emod_nonneg:=@Int.emod_nonneg
theorem ct:type_of% @List.take_length:=@List.take_length
theorem cu:type_of% @List.getElem?_eq_none:=@List.getElem?_eq_none
theorem cw:type_of% @Array.getElem?_setIfInBounds_ne:=@Array.getElem?_setIfInBounds_ne
theorem cz:type_of% @List.length_drop:=@List.length_drop
theorem da:type_of% @Int.natCast_mul:=@Int.natCast_mul
theorem dc:type_of% @Nat.le_trans:=@Nat.le_trans
theorem dd:type_of% @Nat.le_of_ble_eq_true:=@Nat.le_of_ble_eq_true
theorem de:type_of% @Int.toNat_natCast:=@Int.toNat_natCast
theorem df:type_of% @List.getElem_of_mem:=@List.getElem_of_mem
theorem dh:type_of% @Nat.mul_le_mul:=@Nat.mul_le_mul
theorem di:type_of% @Option.some.inj:=@Option.some.inj
theorem dl:type_of% @List.mem_iff_getElem:=@List.mem_iff_getElem
theorem dn:type_of% @List.eq_nil_of_length_eq_zero:=@List.eq_nil_of_length_eq_zero
theorem dp:type_of% @List.length_filter_le:=@List.length_filter_le
theorem dq:type_of% @List.ext_getElem:=@List.ext_getElem
theorem dt:type_of% @Int.mul_nonneg:=@Int.mul_nonneg
theorem du:type_of% @List.mem_of_getElem?:=@List.mem_of_getElem?
theorem dv:type_of% @List.length_nil:=@List.length_nil
theorem dw:type_of% @List.getElem?_append_left:=@List.getElem?_append_left
theorem dy:type_of% @Nat.lt_trichotomy:=@Nat.lt_trichotomy
theorem d5:type_of% @Nat.add_mul:=@Nat.add_mul
theorem d6:type_of% @decide_eq_true_iff:=@decide_eq_true_iff
theorem d7:type_of% @Nat.mul_le_mul_right:=@Nat.mul_le_mul_right
theorem d8:type_of% @Nat.eq_zero_or_pos:=@Nat.eq_zero_or_pos
theorem d9:type_of% @List.drop_eq_getElem_cons:=@List.drop_eq_getElem_cons
theorem ef:type_of% @List.length_cons:=@List.length_cons
theorem eh:type_of% @Nat.lt_or_ge:=@Nat.lt_or_ge
theorem eo:type_of% @List.append_nil:=@List.append_nil
theorem ep:type_of% @Int.mul_assoc:=@Int.mul_assoc
theorem e8:type_of% @List.length_set:=@List.length_set
theorem fa:type_of% @Int.mul_comm:=@Int.mul_comm
theorem fc:type_of% @List.map_congr_left:=@List.map_congr_left
theorem fd:type_of% @Int.toNat_of_nonneg:=@Int.toNat_of_nonneg
theorem fe:type_of% @List.mem_append_left:=@List.mem_append_left
theorem ff:type_of% @trivial:=@trivial
theorem fg:type_of% @List.flatMap_append:=@List.flatMap_append
theorem fh:type_of% @Int.mul_zero:=@Int.mul_zero
theorem fj:type_of% @Nat.mod_eq_of_lt:=@Nat.mod_eq_of_lt
theorem fk:type_of% @List.map_map:=@List.map_map
theorem fl:type_of% @List.map_cons:=@List.map_cons
theorem fm:type_of% @List.getElem_map:=@List.getElem_map
theorem fp:type_of% @List.flatMap_cons:=@List.flatMap_cons
theorem fq:type_of% @List.mem_append_right:=@List.mem_append_right
theorem ft:type_of% @decide_eq_decide:=@decide_eq_decide
theorem fu:type_of% @Int.dvd_mul_of_dvd_right:=@Int.dvd_mul_of_dvd_right
theorem fv:type_of% @Nat.mul_comm:=@Nat.mul_comm
theorem fw:type_of% @Ne.symm:=@Ne.symm
theorem fz:type_of% @Nat.lt_of_lt_of_le:=@Nat.lt_of_lt_of_le
theorem f7:type_of% @List.pairwise_append:=@List.pairwise_append
theorem f8:type_of% @List.getElem?_take:=@List.getElem?_take
theorem gc:type_of% @List.getElem?_set_ne:=@List.getElem?_set_ne
theorem ge:type_of% @List.getD_eq_getElem?_getD:=@List.getD_eq_getElem?_getD
theorem gh:type_of% @Nat.min_eq_left:=@Nat.min_eq_left
theorem gj:type_of% @Int.natCast_add:=@Int.natCast_add
theorem gk:type_of% @List.all_eq_true:=@List.all_eq_true
theorem gl:type_of% @Int.add_zero:=@Int.add_zero
theorem gn:type_of% @List.mem_of_find?_eq_some:=@List.mem_of_find?_eq_some
theorem gq:type_of% @Array.length_toList:=@Array.length_toList
theorem gr:type_of% @List.getElem?_map:=@List.getElem?_map
theorem gt:type_of% @Int.emod_eq_of_lt:=@Int.emod_eq_of_lt
theorem gu:type_of% @List.getElem?_toArray:=@List.getElem?_toArray
theorem gv:type_of% @List.contains_iff_mem:=@List.contains_iff_mem
theorem gw:type_of% @List.nodup_cons:=@List.nodup_cons
theorem gx:type_of% @Array.ext_getElem?:=@Array.ext_getElem?
theorem gy:type_of% @decide_eq_false_iff_not:=@decide_eq_false_iff_not
theorem gz:type_of% @List.length_eq_zero_iff:=@List.length_eq_zero_iff
theorem ia:type_of% @List.findIdx?_eq_some_iff_getElem:=@List.findIdx?_eq_some_iff_getElem
theorem ib:type_of% @List.take_add_one:=@List.take_add_one
theorem ic:type_of% @List.perm_append_comm:=@List.perm_append_comm
theorem ie:type_of% @Nat.add_sub_cancel:=@Nat.add_sub_cancel
theorem ig:type_of% @List.nodup_range:=@List.nodup_range
theorem ii:type_of% @List.find?_eq_none:=@List.find?_eq_none
theorem ik:type_of% @List.Perm.refl:=@List.Perm.refl
theorem il:type_of% @Int.eq_ofNat_of_zero_le:=@Int.eq_ofNat_of_zero_le
theorem im:type_of% @if_true:=@if_true
theorem io:type_of% @List.take_of_length_le:=@List.take_of_length_le
theorem ip:type_of% @List.length_range:=@List.length_range
theorem iq:type_of% @Int.dvd_zero:=@Int.dvd_zero
theorem ir:type_of% @Int.one_mul:=@Int.one_mul
theorem it:type_of% @List.take_append_drop:=@List.take_append_drop
theorem iu:type_of% @List.findIdx?_eq_none_iff:=@List.findIdx?_eq_none_iff
theorem iv:type_of% @Nat.one_mul:=@Nat.one_mul
theorem iw:type_of% @List.size_toArray:=@List.size_toArray
theorem ix:type_of% @Int.zero_mul:=@Int.zero_mul
theorem iy:type_of% @Decidable.not_not:=@Decidable.not_not
theorem iz:type_of% @List.not_mem_nil:=@List.not_mem_nil
theorem i6:type_of% @List.take_nil:=@List.take_nil
theorem i7:type_of% @List.drop_nil:=@List.drop_nil
theorem i8:type_of% @if_false:=@if_false
theorem i9:type_of% @Option.getD_some:=@Option.getD_some
theorem ja:type_of% @Nat.div_eq_of_lt:=@Nat.div_eq_of_lt
theorem jb:type_of% @Int.mul_le_mul:=@Int.mul_le_mul
theorem jc:type_of% @Int.dvd_mul_of_dvd_left:=@Int.dvd_mul_of_dvd_left
theorem jd:type_of% @List.mem_filterMap:=@List.mem_filterMap
theorem je:type_of% @Array.getElem?_eq_none:=@Array.getElem?_eq_none
theorem jf:type_of% @or_false:=@or_false
theorem jg:type_of% @List.foldl_cons:=@List.foldl_cons
theorem jh:type_of% @List.nodup_append:=@List.nodup_append
theorem ji:type_of% @List.getElem_take:=@List.getElem_take
theorem jj:type_of% @List.drop_zero:=@List.drop_zero
theorem jk:type_of% @Nat.mul_one:=@Nat.mul_one
theorem jl:type_of% @List.mem_of_mem_drop:=@List.mem_of_mem_drop
theorem jm:type_of% @List.Pairwise.filter:=@List.Pairwise.filter
theorem jo:type_of% @Array.getElem?_append_left:=@Array.getElem?_append_left
theorem jp:type_of% @List.range_succ:=@List.range_succ
theorem jq:type_of% @List.take_zero:=@List.take_zero
theorem jr:type_of% @List.take_succ_cons:=@List.take_succ_cons
theorem js:type_of% @List.drop_succ_cons:=@List.drop_succ_cons
theorem Y{α:Sort _}{a:α}:a=a:=Eq.refl a
namespace Go.Lin
variable {p a b c d:Int} {n:Nat} {f:Nat->Int}
def sm:Nat->(Nat->Int)->Int
 | 0,_=>0
 | n+1,f=>sm n f+f n
theorem Bw{g:Nat->Int}(h:∀i,i<n->f i=g i):sm n f=sm n g:=by
 induction n with
 | zero=>rfl
 | succ n ih=>unfold sm;rw[ih λi hi=>h i ω,h n ω]
theorem Fy(n:Nat):sm n (λ_=>0)=0:=by
 induction n with
 | zero=>rfl
 | succ n ih=>unfold sm;rw[ih];rfl
theorem Hz(n:Nat)(f g:Nat->Int):sm n (λi=>f i+g i)=sm n f+sm n g:=by
 induction n with
 | zero=>rfl
 | succ n ih=>
  show sm n (λi=>f i+g i)+(f n+g n)=sm n f+f n+(sm n g+g n);rw[ih];omega
theorem RI(n:Nat)(f g:Nat->Int):sm n (λi=>f i-g i)=sm n f-sm n g:=by
 induction n with
 | zero=>rfl
 | succ n ih=>
  show sm n (λi=>f i-g i)+(f n-g n)=sm n f+f n-(sm n g+g n);rw[ih];omega
theorem FV(n:Nat)(c:Int)(f:Nat->Int):sm n (λi=>c*f i)=c*sm n f:=by
 induction n with
 | zero=>simp[sm]
 | succ n ih=>unfold sm;rw[ih,Int.mul_add]
theorem QD(n:Nat)(c:Int)(f:Nat->Int):sm n (λi=>f i*c)=sm n f*c:=by rw[fa,<-FV];exact Bw λi _=>fa _ _
theorem KN(m n:Nat)(f:Nat->Nat->Int):sm m (λi=>sm n (f i))=sm n (λj=>sm m (λi=>f i j)):=by
 induction m with
 | zero=>simp[sm,Fy]
 | succ m ih=>
  show sm m (λi=>sm n (f i))+sm n (f m)=sm n (λj=>sm m (λi=>f i j)+f m j);rw[ih,Hz]
theorem GX(n:Nat)(k:Nat)(f:Nat->Int)(hk:k<n)(h:∀i,i<n->i≠k->f i=0):sm n f=f k:=by
 induction n with
 | zero=>omega
 | succ n ih=>
  unfold sm;by_cases e:k=n
  ·subst e;have:sm k f=sm k λ_=>0:=Bw λi hi=>h i ω ω;rw[this,Fy];omega
  ·rw[ih ω λi hi hne=>h i ω hne,h n ω ω];omega
theorem Jl(n:Nat)(k:Nat)(f:Nat->Int)(hk:k<n):sm n (λi=>if i=k then f i else 0)=f k:=by rw[GX n k _ hk λi _ hne=>by simp[hne]];simp
theorem Gz(h:∀i,i<n->f i=0):sm n f=0:=by rw[Bw (g:=λ_=>0) h,Fy]
def Cg(p a b:Int):Prop:=p∣a-b
theorem Cg.refl(p a:Int):Cg p a a:=by unfold Cg;rw[Int.sub_self];exact iq p
theorem Cg.of_eq(h:a=b):Cg p a b:=h ▸ Cg.refl p a
theorem Cg.symm(h:Cg p a b):Cg p b a:=by
 unfold Cg at *;have:=Int.dvd_neg.2 h
 rwa [Int.neg_sub]at this
theorem Cg.trans(h:Cg p a b)(h':Cg p b c):Cg p a c:=by
 unfold Cg at *;have:=Int.dvd_add h h'
 rwa [show a-b+(b-c)=a-c by omega]at this
theorem Cg.add(h:Cg p a b)(h':Cg p c d):Cg p (a+c) (b+d):=by
 unfold Cg at *;have:=Int.dvd_add h h'
 rwa [show a-b+(c-d)=a+c-(b+d) by omega]at this
theorem Cg.sub(h:Cg p a b)(h':Cg p c d):Cg p (a-c) (b-d):=by
 unfold Cg at *;have:=Int.dvd_sub h h'
 rwa [show a-b-(c-d)=a-c-(b-d) by omega]at this
theorem Cg.mul(h:Cg p a b)(h':Cg p c d):Cg p (a*c) (b*d):=by
 unfold Cg at *;have e:a*c-b*d=(a-b)*c+b*(c-d):=by rw[Int.sub_mul,Int.mul_sub];omega
 rw[e];exact Int.dvd_add (jc h) (fu h')
theorem Cg.neg(h:Cg p a b):Cg p (-a) (-b):=by have:=(Cg.refl p 0).sub h;simpa using this
theorem Cg.mod(p a:Int):Cg p (a%p) a:=by unfold Cg;refine⟨-(a/p),?_⟩;have:=Int.emod_add_mul_ediv a p;rw[Int.mul_neg];omega
theorem Cg.self(p:Int):Cg p p 0:=⟨1,ω⟩
theorem Cg.sm{g:Nat->Int}(h:∀i,i<n->Cg p (f i) (g i)):Cg p (Lin.sm n f) (Lin.sm n g):=by
 induction n with
 | zero=>exact Cg.refl _ _
 | succ n ih=>exact(ih λi hi=>h i ω).add (h n ω)
theorem Cg.iff_mod:Cg p a b<->a%p=b%p:=by unfold Cg;rw[Int.dvd_iff_emod_eq_zero,Int.emod_eq_emod_iff_emod_sub_eq_zero]
theorem Cg.eq(h:Cg p a b)(ha:0<=a/\a<p)(hb:0<=b/\b<p):a=b:=by
 have:=Cg.iff_mod.1 h
 rwa [gt ha.1 ha.2,gt hb.1 hb.2]at this
end Go.Lin
namespace Go.Lin
variable {c r j i n:Nat} {f:Nat->Nat->Int}
def EK(n:Nat)(f:Nat->Int):List Int:=(range n).map f
def BV(r c:Nat)(f:Nat->Nat->Int):List Int:=(range (r*c)).map λk=>f (k/c) (k%c)
theorem Cd(n:Nat)(f:Nat->Int):(EK n f).length=n:=by simp[EK]
theorem BO(r c:Nat)(f:Nat->Nat->Int):(BV r c f).length=r*c:=by simp[BV]
theorem Ds(hi:i<r)(hj:j<c):i*c+j<r*c:=by have:(i+1)*c<=r*c:=d7 c hi;rw[d5,iv]at this;omega
theorem ND(hj:j<c):(i*c+j)/c=i:=by rw[fv,Nat.mul_add_div ω,ja hj,Nat.add_zero]
theorem NG(hj:j<c):(i*c+j)%c=j:=by rw[fv,Nat.mul_add_mod,fj hj]
theorem GY{f:Nat->Int}(hj:j<n):(EK n f)[j]'(by rw[Cd];exact hj)=f j:=by simp[EK]
theorem GY?{f:Nat->Int}(hj:j<n):(EK n f)[j]?=some (f j):=by simp[EK,hj]
theorem Tf(hi:i<r)(hj:j<c):(BV r c f)[i*c+j]'(by rw[BO];exact Ds hi hj)=f i j:=by simp[BV,ND hj,NG hj]
theorem MF{f g:Nat->Int}(h:∀j,j<n->f j=g j):EK n f=EK n g:=by unfold EK;exact fc λk hk=>h k (bi.1 hk)
theorem VO{k:Nat}(h:k<r*c):k/c<r/\k%c<c:=by
 have hc:0<c:=Nat.pos_of_ne_zero λh0=>by subst h0;simp at h
 exact⟨(Nat.div_lt_iff_lt_mul hc).2 h,Nat.mod_lt _ hc⟩
theorem AW{g:Nat->Nat->Int}(h:∀i,i<r->∀j,j<c->f i j=g i j):BV r c f=BV r c g:=by unfold BV;refine fc λk hk=>?_;have:=VO (bi.1 hk);exact h _ this.1 _ this.2
theorem mem_mat{x:Int}:x∈BV r c f<->∃i j,i<r/\j<c/\x=f i j:=by
 unfold BV;rw[ad];constructor
 ·rintro⟨k,hk,rfl⟩;have:=VO (bi.1 hk);exact⟨_,_,this.1,this.2,Y⟩
 ·rintro⟨i,j,hi,hj,rfl⟩;exact⟨i*c+j,bi.2 (Ds hi hj),by rw[ND hj,NG hj]⟩
def JK(c:Nat)(l:List Int)(i j:Nat):Int:=l.getD (i*c+j) 0
theorem K5{l:List Int}(h:l.length=r*c):l=BV r c (JK c l):=by
 refine dq (by rw[BO,h]) λk h1 h2=>?_;have hk:k<r*c:=ω
 have hd:k/c*c+k%c=k:=by rw[fv];exact Nat.div_add_mod k c
 simp[BV,JK,hd,ah h1]
def Fe(f:Nat->Nat->Int)(i j:Nat)(x:Int):Nat->Nat->Int:=λa b=>if a=i/\b=j then x else f a b
theorem DZ(x:Int)(hj:j<c):(BV r c f).set (i*c+j) x=BV r c (Fe f i j x):=by
 refine dq (by simp[BO]) λk h1 h2=>?_;have hk:k<r*c:=by rw[BO]at h2;exact h2
 have hd:k/c*c+k%c=k:=by rw[fv];exact Nat.div_add_mod k c
 rw[List.getElem_set];by_cases he:i*c+j=k
 ·subst he;rw[ac rfl];simp[BV,Fe,ND hj,NG hj]
 ·rw[aa he];have:¬(k/c=i/\k%c=j):=λ⟨h3,h4⟩=>he (by rw[<-h3,<-h4];exact hd);simp[BV,Fe,this]
theorem On(r c:Nat):replicate (r*c) (0:Int)=BV r c λ_ _=>0:=by unfold BV;rw[List.map_const',List.length_range]
theorem YX(hi:i<r):((BV r c f).drop (i*c)).take c=EK c (f i):=by have h0:(i+1)*c<=r*c:=d7 c hi;rw[d5,iv]at h0;refine dq (by simp[BO,Cd];omega) λk h1 h2=>?_;rw[Cd]at h2;have hi':i*c+k<r*c:=Ds hi h2;simp[EK,BV,ND h2,NG h2]
end Go.Lin
namespace Go.Srt
open Go.Sort
variable {a m b i:Nat}
variable {α:Type} [Inhabited α]
def SwR(d0 d:Array α)(a b n:Nat):Prop:=d.size=d0.size/\∀k,d[k]! = if a<=k/\k<a+n then d0[k-a+b]! else if b<=k/\k<b+n then d0[k-b+a]! else d0[k]!
theorem SwR.start(d0:Array α)(a b:Nat):SwR d0 d0 a b 0:=⟨rfl,λk=>by rw[aa ω,aa ω]⟩
theorem SwR.step{d0 d:Array α}{n:Nat}(S:SwR d0 d a b n)(hab:a+n<b)(hb:b+n<d0.size):SwR d0 (swp d (a+n) (b+n)) a b (n+1):=by
 refine⟨by rw[swp_size,S.1],λk=>?_⟩;rw[swp_get d (by rw[S.1];omega) (by rw[S.1];omega)];rw[S.2 (a+n),S.2 (b+n),S.2 k];by_cases h1:k=b+n
 ·subst h1;rw[ac rfl,aa ω,aa ω,aa ω,ac ω];congr 1;omega
 ·by_cases h2:k=a+n
  ·subst h2;rw[aa h1,ac rfl,aa ω,aa ω,ac ω];congr 1;omega
  ·rw[aa h1,aa h2];by_cases h3:a<=k/\k<a+n
   ·rw[ac h3,ac ω]
   ·rw[aa h3];by_cases h4:b<=k/\k<b+n
    ·rw[ac h4,aa ω,ac ω]
    ·rw[aa h4,aa ω,aa ω]
def FO(d:Array α)(a m b k:Nat):α:=if a<=k/\k<b then if k<a+(b-m) then d[k+(m-a)]! else d[k-(b-m)]! else d[k]!
theorem PJ{d d':Array α}{j:Nat}(hi:i<=m)(hj:j<i)(S:SwR d d' (m-i) m j)(k:Nat):FO d' (m-(i-j)) m (m+j) k=FO d (m-i) m (m+j) k:=by
 unfold FO;rw[S.2 (k+(m-(m-(i-j)))),S.2 (k-(m+j-m)),S.2 k]
 repeat' split
 all_goals first|omega|(congr 1<;>omega)
theorem Lm{d d':Array α}{j:Nat}(hi:i<=m)(hj:i<j)(S:SwR d d' (m-i) (m+j-i) i)(k:Nat):FO d' (m-i) m (m+(j-i)) k=FO d (m-i) m (m+j) k:=by
 unfold FO;rw[S.2 (k+(m-(m-i))),S.2 (k-(m+(j-i)-m)),S.2 k]
 repeat' split
 all_goals first|omega|(congr 1<;>omega)
theorem Q2{d d':Array α}(hi:i<=m)(S:SwR d d' (m-i) m i)(k:Nat):d'[k]! = FO d (m-i) m (m+i) k:=by
 unfold FO;rw[S.2 k]
 repeat' split
 all_goals first|omega|(congr 1<;>omega)
theorem HQ{d:Array α}(h:m=a\/b=m)(k:Nat):FO d a m b k=d[k]!:=by
 unfold FO
 repeat' split
 all_goals (congr 1<;>omega)
variable {lt:α->α->Bool}
def InsR(d0 d:Array α)(a t:Nat):Prop:=d.size=d0.size/\∀k,d[k]! = if a<=k/\k<t then d0[k+1]! else if k=t then d0[a]! else d0[k]!
theorem InsR.start(d0:Array α)(a:Nat):InsR d0 d0 a a:=⟨rfl,λk=>by
 rw[aa ω];split
 ·rename_i h;rw[h]
 ·rfl⟩
theorem InsR.step{d0 d:Array α}{t:Nat}(S:InsR d0 d a t)(hat:a<=t)(ht:t+1<d0.size):InsR d0 (swp d t (t+1)) a (t+1):=by
 refine⟨by rw[swp_size,S.1],λk=>?_⟩;rw[swp_get d (by rw[S.1];omega) (by rw[S.1];omega),S.2 t,S.2 (t+1),S.2 k];by_cases h1:k=t+1
 ·subst h1;rw[ac rfl,aa ω,ac rfl,aa ω,ac rfl]
 ·by_cases h2:k=t
  ·subst h2;rw[aa h1,ac rfl,aa ω,aa ω,ac ω]
  ·rw[aa h1,aa h2];by_cases h3:a<=k/\k<t
   ·rw[ac h3,ac ω]
   ·rw[aa h3,aa h2,aa ω,aa h1]
theorem LQ(hO:SWO lt){d0 d:Array α}(hS:SortedIn lt (a+1) b d0)(hi:a+1<=i/\i<=b)(h1:i=a+1\/lt d0[i-1]! d0[a]! = true)(h2:i=b\/lt d0[i]! d0[a]! = false)(R:InsR d0 d a (i-1)):SortedIn lt a b d:=by
 have lo:∀k,a+1<=k->k<i->lt d0[a]! d0[k]! = false:=λk h3 h4=>by
  rcases h1 with h1|h1
  ·omega
  ·have h5:=hO.asymmA h1;rcases (ω:k=i-1\/k<i-1) with rfl|h6
   ·exact h5
   ·exact hO.ntrans _ _ _ h5 (hS k (i-1) h3 h6 ω)
 have hi':∀k,i<=k->k<b->lt d0[k]! d0[a]! = false:=λk h3 h4=>by
  rcases h2 with h2|h2
  ·omega
  ·rcases (ω:k=i\/i<k) with rfl|h6
   ·exact h2
   ·exact hO.ntrans _ _ _ (hS i k ω h6 h4) h2
 intro x y hx hxy hy;rw[R.2 x,R.2 y];by_cases hy1:y<i-1
 ·rw[ac ω,ac ω];exact hS _ _ ω ω ω
 ·by_cases hy2:y=i-1
  ·rw[aa ω,ac hy2,ac ω];exact lo _ ω ω
  ·rw[aa ω,aa hy2];by_cases hx1:x<i-1
   ·rw[ac ω];exact hS _ _ ω ω ω
   ·by_cases hx2:x=i-1
    ·rw[aa ω,ac hx2];exact hi' _ ω hy
    ·rw[aa ω,aa hx2];exact hS _ _ ω ω ω
def ShR(d0 d:Array α)(m t:Nat):Prop:=d.size=d0.size/\∀k,d[k]! = if t<k/\k<=m then d0[k-1]! else if k=t then d0[m]! else d0[k]!
theorem ShR.start(d0:Array α)(m:Nat):ShR d0 d0 m m:=⟨rfl,λk=>by
 rw[aa ω];split
 ·rename_i h;rw[h]
 ·rfl⟩
theorem ShR.step{d0 d:Array α}{t:Nat}(S:ShR d0 d m (t+1))(ht:t+1<=m)(hm:m<d0.size):ShR d0 (swp d (t+1) t) m t:=by
 refine⟨by rw[swp_size,S.1],λk=>?_⟩;rw[swp_get d (by rw[S.1];omega) (by rw[S.1];omega),S.2 t,S.2 (t+1),S.2 k];by_cases h1:k=t
 ·subst h1;rw[ac rfl,aa ω,ac rfl,aa ω,ac rfl]
 ·by_cases h2:k=t+1
  ·subst h2;rw[aa h1,ac rfl,aa ω,aa ω,ac ω];rfl
  ·rw[aa h1,aa h2];by_cases h3:t+1<k/\k<=m
   ·rw[ac h3,ac ω]
   ·rw[aa h3,aa h2,aa ω,aa h1]
theorem Ng(hO:SWO lt){d0 d:Array α}(hS:SortedIn lt a m d0)(hi:a<=i/\i<=m)(h1:i=a\/lt d0[m]! d0[i-1]! = false)(h2:i=m\/lt d0[m]! d0[i]! = true)(R:ShR d0 d m i):SortedIn lt a (m+1) d:=by
 have lo:∀k,a<=k->k<i->lt d0[m]! d0[k]! = false:=λk h3 h4=>by
  rcases h1 with h1|h1
  ·omega
  ·rcases (ω:k=i-1\/k<i-1) with rfl|h6
   ·exact h1
   ·exact hO.ntrans _ _ _ h1 (hS k (i-1) h3 h6 ω)
 have hi':∀k,i<=k->k<m->lt d0[k]! d0[m]! = false:=λk h3 h4=>by
  rcases h2 with h2|h2
  ·omega
  ·have h5:=hO.asymmA h2;rcases (ω:k=i\/i<k) with rfl|h6
   ·exact h5
   ·exact hO.ntrans _ _ _ (hS i k ω h6 h4) h5
 intro x y hx hxy hy;rw[R.2 x,R.2 y];by_cases hy1:i<y
 ·rw[ac ω];by_cases hx1:i<x
  ·rw[ac ω];exact hS _ _ ω ω ω
  ·by_cases hx2:x=i
   ·rw[aa ω,ac hx2];exact hi' _ ω ω
   ·rw[aa ω,aa hx2];rcases (ω:x<y-1\/x=y-1) with h|h
    ·exact hS _ _ ω h ω
    ·omega
 ·by_cases hy2:y=i
  ·rw[aa ω,ac hy2,aa ω,aa ω];exact lo _ hx ω
  ·rw[aa ω,aa hy2,aa ω,aa ω];exact hS _ _ hx hxy ω
structure Cut(lt:α->α->Bool)(d0 d:Array α)(a start mid e m b:Nat):Prop where
 lo:SortedIn lt a start d
 lo2:SortedIn lt start mid d
 hi:SortedIn lt mid e d
 hi2:SortedIn lt e b d
 cross:∀x y,a<=x->x<mid->mid<=y->y<b->lt d[y]! d[x]! = false
theorem XS(hO:SWO lt){d0 d:Array α}{start mid e:Nat}(hA:SortedIn lt a m d0)(hB:SortedIn lt m b d0)(h1:a<=start/\start<=m/\start<=mid/\m<=e/\e<=b)(h2:start+e=mid+m)
  (hR:∀k,d[k]! = FO d0 start m e k)
  (c1:start=a\/e=b\/lt d0[e]! d0[start-1]! = false) (c2:start=m\/e=m\/lt d0[e-1]! d0[start]! = true):Cut lt d0 d a start mid e m b:=by
 have g1:∀k,k<start->d[k]! = d0[k]!:=λk h=>by rw[hR];unfold FO;rw[aa ω]
 have g2:∀k,start<=k->k<mid->d[k]! = d0[k+(m-start)]!:=λk h h'=>by rw[hR];unfold FO;rw[ac ω,ac ω]
 have g3:∀k,mid<=k->k<e->d[k]! = d0[k-(e-m)]!:=λk h h'=>by rw[hR];unfold FO;rw[ac ω,aa ω]
 have g4:∀k,e<=k->d[k]! = d0[k]!:=λk h=>by rw[hR];unfold FO;rw[aa ω]
 -- the four pieces,of the former
 have ab2:∀x y,a<=x->x<start->e<=y->y<b->lt d0[y]! d0[x]! = false:=λx y hx hx' hy hy'=>by
  rcases c1 with c|c|c
  ·omega
  ·omega
  ·have k1:lt d0[y]! d0[e]! = false:=by
    rcases (ω:y=e\/e<y) with rfl|h
    ·exact hO.irrefl _
    ·exact hB _ _ ω h hy'
   have k2:lt d0[start-1]! d0[x]! = false:=by
    rcases (ω:x=start-1\/x<start-1) with rfl|h
    ·exact hO.irrefl _
    ·exact hA _ _ hx h ω
   exact hO.ntrans _ _ _ (hO.ntrans _ _ _ k1 c) k2
 have ba2:∀x y,m<=x->x<e->start<=y->y<m->lt d0[y]! d0[x]! = false:=λx y hx hx' hy hy'=>by
  rcases c2 with c|c|c
  ·omega
  ·omega
  ·have k0:=hO.asymmA c
   have k1:lt d0[y]! d0[start]! = false:=by
    rcases (ω:y=start\/start<y) with rfl|h
    ·exact hO.irrefl _
    ·exact hA _ _ ω h hy'
   have k2:lt d0[e-1]! d0[x]! = false:=by
    rcases (ω:x=e-1\/x<e-1) with rfl|h
    ·exact hO.irrefl _
    ·exact hB _ _ hx h ω
   exact hO.ntrans _ _ _ (hO.ntrans _ _ _ k1 k0) k2
 refine⟨λx y hx hxy hy=>?_,λx y hx hxy hy=>?_,λx y hx hxy hy=>?_,λx y hx hxy hy=>?_,λx y hx hxm hy hyb=>?_⟩
 ·rw[g1 x ω,g1 y ω];exact hA _ _ hx hxy ω
 ·rw[g2 x hx ω,g2 y ω hy];exact hB _ _ ω ω ω
 ·rw[g3 x hx ω,g3 y ω hy];exact hA _ _ ω ω ω
 ·rw[g4 x hx,g4 y ω];exact hB _ _ ω hxy hy
 ·rcases eh x start with h3|h3<;>rcases eh y e with h4|h4
  ·rw[g1 x h3,g3 y hy h4];exact hA _ _ hx ω ω
  ·rw[g1 x h3,g4 y h4];exact ab2 _ _ hx h3 h4 hyb
  ·rw[g2 x h3 hxm,g3 y hy h4];exact ba2 _ _ ω ω ω ω
  ·rw[g2 x h3 hxm,g4 y h4];exact hB _ _ ω ω hyb
theorem PK{d0 d d2 d3:Array α}{start mid e:Nat}(C:Cut lt d0 d a start mid e m b)(hb:b<=d.size)(hm:a<=mid/\mid<=b)(p1:PermIn a mid d d2)(s1:SortedIn lt a mid d2)(p2:PermIn mid b d2 d3)(s2:SortedIn lt mid b d3):SortedIn lt a b d3:=by
 have q1:∀x,a<=x->x<mid->∀y,mid<=y->y<b->lt d[y]! d2[x]! = false:=λx hx hx' y hy hy'=>
  permIn_all d d2 a mid (λv=>lt d[y]! v=false) ω p1 (λi h1 h2=>C.cross i y h1 h2 hy hy') x hx hx'
 have q2:∀y,mid<=y->y<b->∀x,a<=x->x<mid->lt d3[y]! d2[x]! = false:=λy hy hy' x hx hx'=>
  permIn_all d2 d3 mid b (λv=>lt v d2[x]! = false) (by rw[p1.1];exact hb) p2 (λi h1 h2=>by rw[p1.2.1 i (.inr h1)];exact q1 x hx hx' i h1 h2) y hy hy'
 intro x y hx hxy hy;rcases eh y mid with h1|h1
 ·rw[p2.2.1 x (.inl ω),p2.2.1 y (.inl h1)];exact s1 _ _ hx hxy h1
 ·rcases eh x mid with h2|h2
  ·rw[p2.2.1 x (.inl h2)];exact q2 y h1 hy x hx h2
  ·exact s2 _ _ h2 hxy hy
theorem B3{d d':Array α}(h:SortedIn lt a b d)(e:∀k,a<=k->k<b->d'[k]! = d[k]!):SortedIn lt a b d':=λx y hx hxy hy=>by rw[e x hx ω,e y ω hy];exact h x y hx hxy hy
end Go.Srt
namespace Go.Kuhn
theorem nodup_le{α:Type}[DecidableEq α]:∀(l l':List α),l.Nodup->(∀x∈l,x∈l')->l.length<=l'.length
 | [],l',_,_=>by simp
 | a::l,l',hn,h=>by
  have h1:a∈l':=h a σ
  have h2:∀x∈l,x∈l'.erase a:=λx hx=>by have:x≠a:=λe=>(gw.1 hn).1 (e ▸ hx);exact(List.mem_erase_of_ne this).2 (h x (by simp[hx]))
  have:=nodup_le l (l'.erase a) (gw.1 hn).2 h2;rw[List.length_erase_of_mem h1]at this;have:=List.length_pos_of_mem h1;simp;omega
end Go.Kuhn
namespace Go.Lin
variable {p a:Nat}
def Prm(p:Nat):Prop:=2<=p/\∀d,d∣p->d=1\/d=p
theorem Prm.coprime(hp:Prm p)(h:¬p∣a):Nat.Coprime p a:=by
 rcases hp.2 (Nat.gcd p a) (Nat.gcd_dvd_left p a) with h1|h1
 ·exact h1
 ·exact jt (h1 ▸ Nat.gcd_dvd_right p a) h
theorem Prm.mul{b:Nat}(hp:Prm p)(h:p∣a*b):p∣a\/p∣b:=by
 by_cases hb:p∣b
 ·exact .inr hb
 ·exact .inl ((hp.coprime hb).dvd_of_dvd_mul_right h)
theorem JE(h2:2<=p)(h:∀k,2<=k->k*k<=p->p%k≠0):Prm p:=by
 refine⟨h2,λd hd=>?_⟩;obtain⟨e,he⟩:=hd;have hd0:d≠0:=λh0=>by subst h0;simp at he;omega
 have he0:e≠0:=λh0=>by subst h0;simp at he;omega
 by_cases hd1:d=1
 ·exact .inl hd1
 by_cases he1:e=1
 ·subst he1;exact .inr ω
 exfalso;rcases Nat.le_total d e with hle|hle
 ·refine h d ω (by rw[he];exact Nat.mul_le_mul_left d hle) (by rw[he];exact Nat.mul_mod_right d e)
 ·refine h e ω (by rw[he];exact d7 e hle) (by rw[he];exact Nat.mul_mod_left d e)
def prod(l:List Nat):Nat:=l.foldr (·*·) 1
theorem R0{l:List Nat}(h:a∈l):prod l=a*prod (l.erase a):=by
 induction l with
 | nil=>simp at h
 | cons b l ih=>
  by_cases e:b=a
  ·subst e;simp[prod]
  ·rw[List.erase_cons_tail (by simpa using e)];have:=ih ((aq.1 h).resolve_left λh=>e h.symm);show b*prod l=a*(b*prod (l.erase a));rw[this,Nat.mul_left_comm]
theorem Nm:∀(l l':List Nat),l.Nodup->l'.Nodup->(∀x∈l,x∈l')->l.length=l'.length->prod l=prod l'
 | [],l',_,_,_,hl=>by have:l'=[]:=dn hl.symm;rw[this]
 | a::l,l',hn,hn',h,hl=>by
  have h1:a∈l':=h a σ
  have h2:∀x∈l,x∈l'.erase a:=λx hx=>by have:x≠a:=λe=>(gw.1 hn).1 (e ▸ hx);exact(List.mem_erase_of_ne this).2 (h x (by simp[hx]))
  have h3:=Nm l (l'.erase a) (gw.1 hn).2 (hn'.erase a) h2 (by rw[List.length_erase_of_mem h1,<-hl];simp);rw[R0 h1,<-h3];rfl
theorem PD(a p:Nat):∀l:List Nat,prod (l.map λx=>a*x%p)%p=a^l.length*prod l%p
 | []=>by simp[prod]
 | x::l=>by have ih:=PD a p l;show(a*x%p*prod (l.map λx=>a*x%p))%p=a^(l.length+1)*(x*prod l)%p;rw[Nat.mul_mod,ih,Nat.mod_mod,<-Nat.mul_mod];congr 1;rw[Nat.pow_succ];simp only[Nat.mul_assoc,Nat.mul_left_comm,fv]
theorem Prm.prod(hp:Prm p):∀l:List Nat,(∀x∈l,¬p∣x)->¬p∣Lin.prod l
 | [],_,h=>by have:=Nat.le_of_dvd δ (show p∣1 from h);have:=hp.1;omega
 | x::l,hl,h=>by
  rcases hp.mul (show p∣x*Lin.prod l from h) with h|h
  ·exact hl x σ h
  ·exact Prm.prod hp l (λy hy=>hl y (by simp[hy])) h
theorem Vz(hp:Prm p)(ha:¬p∣a):a^(p-1)%p=1:=by
 have hp2:=hp.1
 have hr:∀x∈(range (p-1)).map (·+1),1<=x/\x<p:=λx hx=>by obtain⟨i,hi,rfl⟩:=ad.1 hx;simp at hi;omega
 have hnd:∀x,1<=x->x<p->¬p∣x:=λx h1 h2 h=>by have:=Nat.le_of_dvd ω h;omega
 have hn:((range (p-1)).map (·+1)).Nodup:=cm.2 (ig.imp λh e=>h ω)
 have hinj:∀x y,1<=x->x<p->1<=y->y<p->a*x%p=a*y%p->x=y:=by
  have go:∀x y,x<=y->1<=x->y<p->a*x%p=a*y%p->x=y:=λx y hxy h1 h2 h=>by
   have h3:p∣a*y-a*x:=Nat.dvd_of_mod_eq_zero (Nat.sub_mod_eq_zero_of_mod_eq h.symm);rw[<-Nat.mul_sub]at h3;have h4:=(hp.mul h3).resolve_left ha;rcases d8 (y-x) with h5|h5
   ·omega
   ·have:=Nat.le_of_dvd h5 h4;omega
  intro x y h1 h2 h3 h4 h;rcases Nat.le_total x y with h5|h5
  ·exact go x y h5 h1 h4 h
  ·exact(go y x h5 h3 h2 h.symm).symm
 have hs:=Nm (((range (p-1)).map (·+1)).map λx=>a*x%p) ((range (p-1)).map (·+1))
  (cm.2 (hn.imp_of_mem λ{x y} hx hy hne e=>hne (hinj x y (hr x hx).1 (hr x hx).2 (hr y hy).1 (hr y hy).2 e))) hn (λy hy=>by
   obtain⟨x,hx,rfl⟩:=ad.1 hy;have h1:a*x%p<p:=Nat.mod_lt _ ω
   have h2:a*x%p≠0:=λh0=>by
    rcases hp.mul (Nat.dvd_of_mod_eq_zero h0) with h|h
    ·exact ha h
    ·exact hnd x (hr x hx).1 (hr x hx).2 h
   exact ad.2 ⟨a*x%p-1,by simp;omega,ω⟩) σ
 have hm:=PD a p ((range (p-1)).map (·+1));rw[hs,List.length_map,List.length_range]at hm;have hP:=Prm.prod hp ((range (p-1)).map (·+1)) λx hx=>hnd x (hr x hx).1 (hr x hx).2;generalize Lin.prod ((range (p-1)).map (·+1))=P at hm hP;have hpos:0<a^(p-1):=Nat.pow_pos (Nat.pos_of_ne_zero λh=>ha (h ▸ Nat.dvd_zero p));have h5:p∣a^(p-1)*P-P:=Nat.dvd_of_mod_eq_zero (Nat.sub_mod_eq_zero_of_mod_eq hm.symm);have e:a^(p-1)*P-P=(a^(p-1)-1)*P:=by rw[Nat.sub_mul,iv]
 rw[e]at h5;have h6:=(hp.mul h5).resolve_right hP;obtain⟨k,hk⟩:=h6;have h7:a^(p-1)=p*k+1:=ω
 rw[h7,Nat.mul_add_mod,fj ω]
structure E5(p:Int):Prop where
 two:2<=p
 inv:∀a,¬p∣a->∃b,Cg p (a*b) 1
 mul:∀a b,p∣a*b->p∣a\/p∣b
theorem Prm.fld(hp:Prm p):E5 p:=by
 have hp2:=hp.1;have hpp:(0:Int)<p:=ω
 have key:∀a:Int,(p:Int)∣a<->p∣(a%p).toNat:=λa=>by
  have h1:=co a (show(p:Int)≠0 by omega);rw[Int.dvd_iff_emod_eq_zero];constructor
  ·intro h;rw[h];exact Nat.dvd_zero p
  ·intro h;have h2:=bw a hpp;rcases d8 (a%p).toNat with h3|h3
   ·omega
   ·have:=Nat.le_of_dvd h3 h;omega
 refine⟨ω,λa ha=>?_,λa b h=>?_⟩
 ·have ha':¬p∣(a%p).toNat:=λh=>ha ((key a).2 h);have hf:=Vz hp ha';have h1:=co a (show(p:Int)≠0 by omega);refine⟨(((a%p).toNat^(p-2):Nat):Int),?_⟩
  have e1:Cg p (a*(((a%p).toNat^(p-2):Nat):Int)) ((((a%p).toNat:Nat):Int)*(((a%p).toNat^(p-2):Nat):Int)):=by refine Cg.mul ?_ (Cg.refl _ _);rw[fd h1];exact(Cg.mod p a).symm
  refine e1.trans ?_;rw[<-da,fv,<-Nat.pow_succ,show(p-2).succ=p-1 by omega];refine Cg.iff_mod.2 ?_;have:=aw (λn:Nat=>(n:Int)) hf;simp only[Int.natCast_emod]at this;rw[this,gt ω ω];rfl
 ·have h1:=co a (show(p:Int)≠0 by omega);have h2:=co b (show(p:Int)≠0 by omega)
  have h3:p∣(a%p).toNat*(b%p).toNat:=by
   have:((p:Int))∣(a%p)*(b%p):=by
    have h4:=((Cg.mod p a).mul (Cg.mod p b))
    have h5:Cg p (a*b) 0:=by unfold Cg;rw[Int.sub_zero];exact h
    have:=h4.trans h5;unfold Cg at this;rwa [Int.sub_zero]at this
   rw[<-fd h1,<-fd h2,<-da]at this;exact Int.natCast_dvd_natCast.1 this
  rcases hp.mul h3 with h|h
  ·exact .inl ((key a).2 h)
  ·exact .inr ((key b).2 h)
end Go.Lin

namespace Go.Lin
def skip(j0 j:Nat):Nat:=if j<j0 then j else j+1
theorem ZB(m j0:Nat)(f:Nat->Int)(h:j0<m+1):sm (m+1) f=sm m (λj=>f (skip j0 j))+f j0:=by
 induction m with
 | zero=>
    have:j0=0:=ω
    subst this;simp[sm]
 | succ m ih=>
  by_cases e:j0=m+1
  ·subst e;show sm (m+1) f+f (m+1)=_;congr 1;exact Bw λi hi=>by unfold skip;rw[ac hi]
  ·show sm (m+1) f+f (m+1)=sm m (λj=>f (skip j0 j))+f (skip j0 m)+f j0;rw[ih ω];have:skip j0 m=m+1:=by unfold skip;rw[aa ω]
   rw[this];omega
theorem Zk{j0 j m:Nat}(h:j<m):skip j0 j<m+1:=by unfold skip;split<;>omega
theorem Ph{p:Int}(F:E5 p):∀(k m:Nat) (A:Nat->Nat->Int),k<m->∃c:Nat->Int,(∃j,j<m/\¬p∣c j)/\∀i,i<k->Cg p (sm m λj=>A i j*c j) 0:=by
 intro k
 induction k with
 | zero=>
  intro m A hm;refine⟨λ_=>1,⟨0,hm,λh=>?_⟩,λi hi=>ω⟩;have h:p∣1:=h;have:=Int.le_of_dvd δ h;have:=F.two;omega
 | succ k ih=>
  intro m A hm;obtain⟨m,rfl⟩:∃m',m=m'+1:=⟨m-1,ω⟩
  by_cases hz:∀j,j<m+1->p∣A k j
  ·obtain⟨c,h1,h2⟩:=ih (m+1) A ω;refine⟨c,h1,λi hi=>?_⟩;by_cases e:i=k
   ·subst e
    have:Cg p (sm (m+1) λj=>A i j*c j) (sm (m+1) λ_=>0):=Cg.sm λj hj=>by
     have h3:Cg p (A i j) 0:=by unfold Cg;rw[Int.sub_zero];exact hz j hj
     have:=h3.mul (Cg.refl p (c j))
     rwa [ix]at this
    rwa [Fy]at this
   ·exact h2 i ω
  ·obtain⟨j0,hj0⟩:=Classical.not_forall.1 hz;obtain⟨hj,hnd⟩:=Classical.not_imp.1 hj0;obtain⟨b,hb⟩:=F.inv _ hnd;obtain⟨c,⟨j1,hj1,hc1⟩,h2⟩:=ih m (λi j=>A i (skip j0 j)-A i j0*b*A k (skip j0 j)) ω
   -- the unknown that is left out
   obtain⟨t,ht⟩:∃t,t=sm m λj=>A k (skip j0 j)*c j:=⟨_,Y⟩
   let c':Nat->Int:=λi=>if i<j0 then c i else if i=j0 then -(b*t) else c (i-1)
   have hc':∀j,c' (skip j0 j)=c j:=λj=>by
    show(if skip j0 j<j0 then c (skip j0 j) else if skip j0 j=j0 then -(b*t) else c (skip j0 j-1))=c j;unfold skip;by_cases h:j<j0
    ·simp[h]
    ·simp only[h,i8];rw[aa ω,aa ω];congr 1
   have hc0:c' j0=-(b*t):=by show(if j0<j0 then c j0 else if j0=j0 then -(b*t) else c (j0-1))=_;rw[aa ω,ac rfl]
   refine⟨c',⟨skip j0 j1,Zk hj1,by rw[hc'];exact hc1⟩,λi hi=>?_⟩;rw[ZB m j0 _ hj,hc0];have e1:sm m (λj=>A i (skip j0 j)*c' (skip j0 j))=sm m λj=>A i (skip j0 j)*c j:=Bw λj _=>by rw[hc']
   rw[e1];by_cases e:i=k
   ·subst e
    -- t-A b t
    rw[<-ht]
    have h3:Cg p (A i j0*(-(b*t))) (-t):=by
     have:=(hb.mul (Cg.refl p t)).neg;rw[ir]at this;have e2:A i j0*-(b*t)=-(A i j0*b*t):=by rw[Int.mul_neg,ep]
     rw[e2];exact this
    have:=(Cg.refl p t).add h3;rw[show t+-t=0 by omega]at this;exact this
   ·have h3:=h2 i ω
    have e2:(sm m λj=>(A i (skip j0 j)-A i j0*b*A k (skip j0 j))*c j)=(sm m λj=>A i (skip j0 j)*c j)+A i j0*-(b*t):=by rw[Bw (g:=λj=>A i (skip j0 j)*c j-A i j0*b*(A k (skip j0 j)*c j)) λj _=>by rw[Int.sub_mul,ep (A i j0*b)],RI,FV,<-ht,Int.mul_neg,ep];omega
    rw[e2]at h3;exact h3
def Gm(n:Nat)(b:Nat->Bool):List Nat:=(range n).filter b
def Ho(n:Nat)(b:Nat->Bool):Nat:=(Gm n b).length
theorem Ur(n:Nat)(b:Nat->Bool):(Gm n b).Nodup:=jm _ ig
theorem mem_sel{n:Nat}{b:Nat->Bool}{l:Nat}:l∈Gm n b<->l<n/\b l=true:=by simp[Gm]
theorem Xa{l:List Nat}(hn:l.Nodup){i j:Nat}{a:Nat}(h1:l[i]?=some a)(h2:l[j]?=some a):i=j:=by
 obtain⟨i1,i2⟩:=bg.1 h1;obtain⟨j1,j2⟩:=bg.1 h2;have hp:=ax.1 hn;rcases dy i j with h|h|h
 ·exact jt (i2.trans j2.symm) (hp i j i1 j1 h)
 ·exact h
 ·exact jt (j2.trans i2.symm) (hp j i j1 i1 h)
theorem IX(n:Nat)(b:Nat->Bool):Gm (n+1) b=Gm n b++if b n then [n] else []:=by unfold Gm;rw[List.range_succ,List.filter_append];congr 1;cases h:b n<;>simp[h]
theorem Gu(n:Nat)(b:Nat->Bool):Ho (n+1) b=Ho n b+if b n then 1 else 0:=by unfold Ho;rw[IX,ag];cases b n<;>simp
theorem Aa4(n:Nat)(b:Nat->Bool)(f:Nat->Int):sm n (λl=>if b l then f l else 0)=sm (Ho n b) λt=>f ((Gm n b).getD t 0):=by
 induction n with
 | zero=>rfl
 | succ n ih=>
  show sm n (λl=>if b l then f l else 0)+(if b n then f n else 0)=_;rw[ih,Gu];cases h:b n with
  | false=>
   simp only[Bool.false_eq_true,i8,Nat.add_zero,gl];exact Bw λt ht=>by rw[IX,h];simp
  | true=>
   simp only[im];show _=sm (Ho n b) (λt=>f ((Gm (n+1) b).getD t 0))+f ((Gm (n+1) b).getD (Ho n b) 0);have e1:(Gm (n+1) b).getD (Ho n b) 0=n:=by rw[IX,h];simp[Ho,List.getD]
   rw[e1];congr 1
   exact Bw λt ht=>by have:t<(Gm n b).length:=ht;rw[IX,h];simp[List.getD,dw this]
theorem NN{p:Int}(F:E5 p)(k n:Nat)(b:Nat->Bool)(A:Nat->Nat->Int)(h:k<Ho n b):∃c:Nat->Int,(∃l,l<n/\b l=true/\¬p∣c l)/\∀i,i<k->Cg p (sm n λl=>if b l then A i l*c l else 0) 0:=by
 obtain⟨c,⟨t,ht,hc⟩,h2⟩:=Ph F k (Ho n b) (λi t=>A i ((Gm n b).getD t 0)) h
 have hat:∀t,t<Ho n b->(Gm n b).idxOf ((Gm n b).getD t 0)=t:=λt ht=>by
  have ht':t<(Gm n b).length:=ht;have e:(Gm n b).getD t 0=(Gm n b)[t]:=by simp[List.getD,ht']
  rw[e];have hm:(Gm n b)[t]∈Gm n b:=List.getElem_mem ht';have hlt:=List.idxOf_lt_length_of_mem hm;refine Xa (Ur n b) (a:=(Gm n b)[t]) ?_ (ah ht');rw[ah hlt,List.getElem_idxOf]
 refine⟨λl=>c ((Gm n b).idxOf l),⟨(Gm n b).getD t 0,?_,?_,by show ¬p∣c _;rw[hat t ht];exact hc⟩,λi hi=>?_⟩
 ·have ht':t<(Gm n b).length:=ht;have:(Gm n b).getD t 0∈Gm n b:=by simp[List.getD,ht']
  exact(mem_sel.1 this).1
 ·have ht':t<(Gm n b).length:=ht;have:(Gm n b).getD t 0∈Gm n b:=by simp[List.getD,ht']
  exact(mem_sel.1 this).2
 ·rw[Aa4 n b λl=>A i l*c ((Gm n b).idxOf l)];have:=h2 i hi
  rwa [Bw (g:=λt=>A i ((Gm n b).getD t 0)*c ((Gm n b).idxOf ((Gm n b).getD t 0))) λt ht=>by rw[hat t ht]]at this
def EL(n:Nat)(b:Nat->Bool)(c:Nat->Int)(v:Nat->Nat->Int)(i:Nat):Int:=sm n λl=>if b l then c l*v l i else 0
def Ind(p:Int)(n:Nat)(b:Nat->Bool)(d:Nat)(v:Nat->Nat->Int):Prop:=∀c:Nat->Int,(∀i,i<d->Cg p (EL n b c v i) 0)->∀l,l<n->b l=true->p∣c l
def Spn(p:Int)(n:Nat)(b:Nat->Bool)(d:Nat)(v:Nat->Nat->Int)(x:Nat->Int):Prop:=∃c:Nat->Int,∀i,i<d->Cg p (x i) (EL n b c v i)
theorem Ps{p:Int}(F:E5 p){n n' d:Nat}{b b':Nat->Bool}{v v':Nat->Nat->Int}(hI:Ind p n b d v)(hS:∀l,l<n->b l=true->Spn p n' b' d v' (v l)):Ho n b<=Ho n' b':=by
 refine Nat.le_of_not_lt λhlt=>?_
 have hex:∀l,∃a:Nat->Int,l<n->b l=true->∀i,i<d->Cg p (v l i) (EL n' b' a v' i):=λl=>by
  by_cases h:l<n/\b l=true
  ·obtain⟨a,ha⟩:=hS l h.1 h.2;exact⟨a,λ_ _=>ha⟩
  ·exact⟨λ_=>0,λh1 h2=>jt ⟨h1,h2⟩ h⟩
 obtain⟨a,ha⟩:=Classical.axiomOfChoice hex;obtain⟨c,⟨l,hl,hb,hc⟩,h2⟩:=NN F (Ho n' b') n b (λe l=>a l ((Gm n' b').getD e 0)) hlt;refine hc (hI c (λi hi=>?_) l hl hb)
 -- the sum by the second family
 have e1:Cg p (EL n b c v i) (sm n λl=>if b l then sm n' (λl'=>if b' l' then c l*(a l l'*v' l' i) else 0) else 0):=by
  refine Cg.sm λl hl=>?_;cases hbl:b l with
  | false=>exact Cg.refl _ _
  | true=>
   simp only[im];have:=(Cg.refl p (c l)).mul (ha l hl hbl i hi);refine this.trans (Cg.of_eq ?_);unfold EL;rw[<-FV];exact Bw λl' _=>by cases b' l'<;>simp
 have e2:(sm n λl=>if b l then sm n' (λl'=>if b' l' then c l*(a l l'*v' l' i) else 0) else 0)=sm n' λl'=>if b' l' then(sm n λl=>if b l then a l l'*c l else 0)*v' l' i else 0:=by
  rw[Bw (g:=λl=>sm n' λl'=>if b l then(if b' l' then c l*(a l l'*v' l' i) else 0) else 0) λl _=>by
   cases b l
   ·simp[Fy]
   ·simp,KN]
  refine Bw λl' _=>?_;cases b' l' with
  | false=>simp only[Bool.false_eq_true,i8];exact Gz λl _=>by cases b l<;>rfl
  | true=>
   simp only[im];rw[<-QD];refine Bw λl _=>?_;cases b l
   ·simp
   ·simp only[im];rw[<-ep,fa (c l)]
 rw[e2]at e1;refine e1.trans ?_
 have:Cg p (sm n' λl'=>if b' l' then(sm n λl=>if b l then a l l'*c l else 0)*v' l' i else 0) (sm n' λ_=>0):=Cg.sm λl' hl'=>by
  cases hb':b' l' with
  | false=>exact Cg.refl _ _
  | true=>
   simp only[im];obtain⟨e,he,hee⟩:=List.getElem_of_mem (mem_sel.2 ⟨hl',hb'⟩);have h3:=h2 e he;have e3:(Gm n' b').getD e 0=l':=by simp[List.getD,he,hee]
   simp only[e3]at h3;have:=h3.mul (Cg.refl p (v' l' i))
   rwa [ix]at this
 rwa [Fy]at this
variable {f:Nat->Int} {d:Int}
theorem cgz{p c:Int}:Cg p c 0<->p∣c:=by unfold Cg;rw[Int.sub_zero]
theorem Vr:∀(m:Nat) (P:Nat->Prop) (k:Nat->Nat) (l0:Nat),l0<m->P l0->∃l,l<m/\P l/\∀l',l'<m->P l'->k l'<=k l
 | 0,_,_,_,h,_=>jt h ω
 | m+1,P,k,l0,h,hP=>by
  by_cases h1:∃l1,l1<m/\P l1
  ·obtain⟨l1,h2,h3⟩:=h1;obtain⟨l,h4,h5,h6⟩:=Vr m P k l1 h2 h3;by_cases h7:P m/\k l<k m
   ·refine⟨m,ω,h7.1,λl' hl' hp=>?_⟩;rcases (ω:l'<m\/l'=m) with h8|rfl
    ·have:=h6 l' h8 hp;omega
    ·omega
   ·refine⟨l,ω,h5,λl' hl' hp=>?_⟩;rcases (ω:l'<m\/l'=m) with h8|rfl
    ·exact h6 l' h8 hp
    ·exact Nat.le_of_not_lt λh9=>h7 ⟨hp,h9⟩
  ·have:l0=m:=by
    rcases (ω:l0<m\/l0=m) with h8|h8
    ·exact jt ⟨l0,h8,hP⟩ h1
    ·exact h8
   subst this;refine⟨l0,ω,hP,λl' hl' hp=>?_⟩;rcases (ω:l'<l0\/l'=l0) with h8|rfl
   ·exact jt ⟨l',h8,hp⟩ h1
   ·exact au _
theorem Sc{p:Int}{n:Nat}(h:∀i,i<n->p∣f i):p∣sm n f:=by have:=Cg.sm (p:=p) (n:=n) (f:=f) (g:=λ_=>0) λi hi=>cgz.2 (h i hi);rw[Fy]at this;exact cgz.1 this
theorem AaB{p:Int}{n:Nat}(h:¬p∣sm n f):∃i,i<n/\¬p∣f i:=
 bc λh1=>h (Sc λi hi=>bc λh2=>h1 ⟨i,hi,h2⟩)
theorem Sp{p:Int}{n k:Nat}(hk:k<n)(h:∀i,i<n->i≠k->p∣f i):Cg p (sm n f) (f k):=by
 rw[<-Jl n k f hk];refine Cg.sm λi hi=>?_;by_cases e:i=k
 ·rw[ac e];exact Cg.refl _ _
 ·rw[aa e];exact cgz.2 (h i hi e)
theorem Cg.dvd_iff{p a b:Int}(h:Cg p a b):p∣a<->p∣b:=by rw[<-cgz,<-cgz];exact⟨λq=>h.symm.trans q,λq=>h.trans q⟩
def Top(p:Int)(n:Nat)(pos:Nat->Nat)(x:Nat->Int)(i:Nat):Prop:=i<n/\¬p∣x i/\∀i',i'<n->¬p∣x i'->pos i'<=pos i
section
variable {p:Int} {n m:Nat} {pos:Nat->Nat} {v:Nat->Nat->Int} {b:Nat->Bool} {τ:Nat->Nat}
theorem I8(F:E5 p)(hT:∀l,l<m->b l=true->Top p n pos (v l) (τ l))(hi:∀l l',l<m->l'<m->b l=true->b l'=true->pos (τ l)=pos (τ l')->l=l')(c:Nat->Int){l0:Nat}(h0:l0<m)(hb0:b l0=true)(hc0:¬p∣c l0):∃i,i<n/\¬p∣EL m b c v i/\pos (τ l0)<=pos i:=by
 obtain⟨l,hl,⟨hb,hc⟩,hmax⟩:=Vr m (λl=>b l=true/\¬p∣c l) (λl=>pos (τ l)) l0 h0 ⟨hb0,hc0⟩;obtain⟨t1,t2,t3⟩:=hT l hl hb;refine⟨τ l,t1,λh=>?_,hmax l0 h0 ⟨hb0,hc0⟩⟩
 have e:Cg p (EL m b c v (τ l)) (if b l then c l*v l (τ l) else 0):=by
  refine Sp hl λl' hl' hne=>?_;cases hb':b l' with
  | false=>exact iq p
  | true=>
   simp only[im];by_cases h1:p∣c l'
   ·exact jc h1
   ·by_cases h2:p∣v l' (τ l)
    ·exact fu h2
    ·exact jt (hi l' l hl' hl hb' hb (Nat.le_antisymm (hmax l' hl' ⟨hb',h1⟩) ((hT l' hl' hb').2.2 _ t1 h2))) hne
 rw[e.dvd_iff,hb,ac rfl]at h;rcases F.mul _ _ h with h|h
 ·exact hc h
 ·exact t2 h
theorem OP(F:E5 p)(pinj:∀i j,i<n->j<n->pos i=pos j->i=j)(hT:∀l,l<m->b l=true->Top p n pos (v l) (τ l))(Q:(Nat->Int)->Prop)(hQ:∀x c l,Q x->l<m->b l=true->Q λi=>x i-c*v l i)(hQT:∀x i,Q x->Top p n pos x i->∃l,l<m/\b l=true/\τ l=i):∀(M:Nat) (x:Nat->Int),Q x->(∀i,i<n->¬p∣x i->pos i<M)->∃c,∀i,i<n->Cg p (x i) (EL m b c v i)
 | 0,x,hx,h=>⟨λ_=>0,λi hi=>by
  have h1:p∣x i:=bc λh1=>jt (h i hi h1) ω;have h2:EL m b (λ_=>0) v i=0:=Gz λl _=>by cases b l<;>simp
  rw[h2];exact cgz.2 h1⟩
 | M+1,x,hx,h=>by
  by_cases hM:∃i,i<n/\¬p∣x i/\pos i=M
  ·obtain⟨i,hi,hn,hp⟩:=hM;obtain⟨l,hl,hb,rfl⟩:=hQT x i hx ⟨hi,hn,λi' hi' h'=>by have:=h i' hi' h';omega⟩;obtain⟨t1,t2,t3⟩:=hT l hl hb;obtain⟨w,hw⟩:=F.inv _ t2
   let c0:Int:=x (τ l)*w
   have hz:Cg p (x (τ l)-c0*v l (τ l)) 0:=by
    have h1:Cg p (c0*v l (τ l)) (x (τ l)):=by have:=(Cg.refl p (x (τ l))).mul hw;rw[Int.mul_one]at this;refine(Cg.of_eq ?_).trans this;show x (τ l)*w*v l (τ l)=_;rw[ep,fa w]
    have:=(Cg.refl p (x (τ l))).sub h1
    rwa [Int.sub_self]at this
   obtain⟨c,hc⟩:=OP F pinj hT Q hQ hQT M (λi=>x i-c0*v l i) (hQ x c0 l hx hl hb) λi' hi' h'=>by
    have h1:pos i'<=M:=by
     by_cases h2:p∣x i'
     ·have h3:¬p∣v l i':=λh3=>h' (Int.dvd_sub h2 (fu h3));have:=t3 i' hi' h3;omega
     ·have:=h i' hi' h2;omega
    have h4:pos i'≠M:=λh4=>by have:i'=τ l:=pinj _ _ hi' hi ω;subst this;exact h' (cgz.1 hz)
    omega
   refine⟨λl'=>c l'+if l'=l then c0 else 0,λi hi=>?_⟩;have h1:=(hc i hi).add (Cg.refl p (c0*v l i));rw[Int.sub_add_cancel]at h1;refine h1.trans (Cg.of_eq ?_);have e2:c0*v l i=sm m λl'=>if l'=l then c0*v l i else 0:=(Jl m l (λ_=>c0*v l i) hl).symm
   unfold EL;rw[e2,<-Hz];refine Bw λl' _=>?_;by_cases e:l'=l
   ·subst e;simp only[hb,im];rw[Int.add_mul]
   ·cases b l'<;>simp[e]
  ·exact OP F pinj hT Q hQ hQT M x hx λi hi h'=>by have:=h i hi h';have:pos i≠M:=λe=>hM ⟨i,hi,h',e⟩;omega
theorem Vn(n:Nat)(pos:Nat->Nat):∃M,∀i,i<n->pos i<M:=by
 induction n with
 | zero=>exact⟨0,λi hi=>ω⟩
 | succ n ih=>
  obtain⟨M,h⟩:=ih;refine⟨max M (pos n+1),λi hi=>?_⟩;rcases (ω:i<n\/i=n) with h1|rfl
  ·have:=h i h1;omega
  ·omega
end
def F2(n:Nat)(D:Nat->Nat->Int)(x:Nat->Int)(i:Nat):Int:=sm n λk=>D i k*x k
theorem Ru{p:Int}{n:Nat}{D:Nat->Nat->Int}{x y:Nat->Int}(h:∀k,k<n->Cg p (x k) (y k))(i:Nat):Cg p (F2 n D x i) (F2 n D y i):=Cg.sm λk hk=>(Cg.refl _ _).mul (h k hk)
theorem O7(n m:Nat)(D:Nat->Nat->Int)(b:Nat->Bool)(c:Nat->Int)(v:Nat->Nat->Int)(i:Nat):F2 n D (EL m b c v) i=EL m b c (λl=>F2 n D (v l)) i:=by
 unfold F2 EL
 have:(sm n λk=>D i k*sm m λl=>if b l then c l*v l k else 0)=sm n λk=>sm m λl=>if b l then c l*(D i k*v l k) else 0:=Bw λk _=>by
  rw[<-FV];refine Bw λl _=>?_;cases b l
  ·simp
  ·simp only[im];rw[<-ep,<-ep,fa (D i k)]
 rw[this,KN];refine Bw λl _=>?_;cases b l
 ·simp[Fy]
 ·simp only[im];rw[FV]
structure Rdc(p:Int)(n:Nat)(D:Nat->Nat->Int)(dm:Nat->Int)(pos:Nat->Nat)(v:Nat->Nat->Int)(low:Nat->Option Nat):Prop where
 F:E5 p
 D2:∀i j,i<n->j<n->p∣F2 n D (λk=>D k j) i
 Ddm:∀i j,i<n->j<n->¬p∣D i j->dm j=dm i+1
 pinj:∀i j,i<n->j<n->pos i=pos j->i=j
 vtop:∀j,j<n->Top p n pos (v j) j
 vdm:∀j i,j<n->i<n->¬p∣v j i->dm i=dm j
 lnone:∀j,j<n->low j=none->∀i,i<n->p∣F2 n D (v j) i
 lsome:∀j i,j<n->low j=some i->Top p n pos (F2 n D (v j)) i
 linj:∀j j' i,j<n->j'<n->low j=some i->low j'=some i->j=j'
section
variable {p:Int} {n:Nat} {D:Nat->Nat->Int} {dm:Nat->Int} {pos pos':Nat->Nat} {v v':Nat->Nat->Int} {low low':Nat->Option Nat}
def OR(dm:Nat->Int)(low:Nat->Option Nat)(d:Int)(j:Nat):Bool:=decide (dm j=d)&&(low j).isSome
def lo(low:Nat->Option Nat)(j:Nat):Nat:=(low j).getD 0
theorem prs_iff{j:Nat}:OR dm low d j=true<->dm j=d/\low j=some (lo low j):=by unfold OR lo;rw[bo,decide_eq_true_eq];cases low j<;>simp
theorem Rdc.prs_top(R:Rdc p n D dm pos v low){j:Nat}(hj:j<n)(h:OR dm low d j=true):Top p n pos (F2 n D (v j)) (lo low j):=R.lsome j _ hj (prs_iff.1 h).2
theorem Rdc.prs_inj(R:Rdc p n D dm pos v low)(l l':Nat)(hl:l<n)(hl':l'<n)(h:OR dm low d l=true)(h':OR dm low d l'=true)(e:pos (lo low l)=pos (lo low l')):l=l':=by have e1:=R.pinj _ _ (R.prs_top hl h).1 (R.prs_top hl' h').1 e;refine R.linj l l' _ hl hl' (prs_iff.1 h).2 ?_;rw[e1];exact(prs_iff.1 h').2
theorem Rdc.all(R:Rdc p n D dm pos v low)(d:Int)(x:Nat->Int)(hx:∀i,i<n->¬p∣x i->dm i=d):∃c,∀i,i<n->Cg p (x i) (EL n (λl=>decide (dm l=d)) c v i):=by
 obtain⟨M,hM⟩:=Vn n pos;refine OP (τ:=λl=>l) R.F R.pinj (λl hl _=>R.vtop l hl) (λx=>∀i,i<n->¬p∣x i->dm i=d) (λx c l h hl hb i hi hn=>?_) (λx i h hT=>⟨i,hT.1,ai (h i hT.1 hT.2.1),Y⟩) M x hx λi hi _=>hM i hi;by_cases h1:p∣x i
 ·have h2:¬p∣v l i:=λh2=>hn (Int.dvd_sub h1 (fu h2));rw[R.vdm l i hl hi h2];exact bz hb
 ·exact h i hi h1
theorem Rdc.chg(R:Rdc p n D dm pos v low)(R':Rdc p n D dm pos' v' low'){g:Nat->Int}{δ:Int}(hf:∀i j,i<n->j<n->pos i<=pos j->f i<=f j)(hg:∀i j,i<n->j<n->pos' i<=pos' j->g i<=g j)(hfg:∀i,i<n->g i<=f i+δ)(d:Int) :
  ∃C:Nat->Nat->Int,∀j,j<n->OR dm low d j=true->(∀i,i<n->Cg p (F2 n D (v j) i) (EL n (OR dm low' d) (C j) (λk=>F2 n D (v' k)) i))/\∀k,k<n->OR dm low' d k=true->¬p∣C j k->g k<=f j+δ/\g (lo low' k)<=f (lo low j)+δ:=by
 have hex:∀j,∃c:Nat->Int,j<n->dm j=d->∀i,i<n->Cg p (v j i) (EL n (λl=>decide (dm l=d)) c v' i):=λj=>by
  by_cases h:j<n/\dm j=d
  ·obtain⟨c,hc⟩:=R'.all d (v j) λi hi hn=>(R.vdm j i h.1 hi hn).trans h.2;exact⟨c,λ_ _=>hc⟩
  ·exact⟨λ_=>0,λh1 h2=>jt ⟨h1,h2⟩ h⟩
 obtain⟨C,hC⟩:=Classical.axiomOfChoice hex;refine⟨C,λj hj hb=>?_⟩;obtain⟨hd,hlow⟩:=prs_iff.1 hb;have hv:=hC j hj hd
 have hr:∀i,i<n->Cg p (F2 n D (v j) i) (EL n (OR dm low' d) (C j) (λk=>F2 n D (v' k)) i):=λi hi=>by
  refine(Ru hv i).trans ?_;rw[O7];refine Cg.sm λk hk=>?_;show Cg p (if decide (dm k=d)=true then _ else 0) _;by_cases h1:dm k=d
  ·cases h2:low' k with
   | none=>
    have h3:OR dm low' d k=false:=by simp[OR,h2]
    rw[h3,ai h1,ac rfl];exact cgz.2 (fu (R'.lnone k hk h2 i hi))
   | some i'=>
    have h3:OR dm low' d k=true:=by simp[OR,h2,h1]
    rw[h3,ai h1];exact Cg.refl _ _
  ·have h3:OR dm low' d k=false:=by simp[OR,h1]
   rw[h3,aj h1];exact Cg.refl _ _
 refine⟨hr,λk hk hbk hck=>⟨?_,?_⟩⟩
 ·obtain⟨i,hi,h1,h2⟩:=I8 (τ:=λl=>l) (b:=λl=>decide (dm l=d)) R.F (λl hl _=>R'.vtop l hl) (λl l' hl hl' _ _ e=>R'.pinj l l' hl hl' e) (C j) hk (ai (prs_iff.1 hbk).1) hck;have h3:¬p∣v j i:=λh=>h1 ((hv i hi).dvd_iff.1 h);have h4:=hf i j hi hj ((R.vtop j hj).2.2 i hi h3);have h5:=hg k i hk hi h2;have h6:=hfg i hi;omega
 ·obtain⟨i,hi,h1,h2⟩:=I8 (τ:=lo low') R.F (λl hl hb=>R'.prs_top hl hb) (λl l' hl hl' hb hb' e=>R'.prs_inj l l' hl hl' hb hb' e) (C j) hk hbk hck;have h3:¬p∣F2 n D (v j) i:=λh=>h1 ((hr i hi).dvd_iff.1 h);have hT:=R.prs_top hj hb;have h4:=hf i (lo low j) hi hT.1 (hT.2.2 i hi h3);have h5:=hg _ i (R'.prs_top hk hbk).1 hi h2;have h6:=hfg i hi;omega
def opn(n:Nat)(dm:Nat->Int)(low:Nat->Option Nat)(d:Int)(i:Nat):Prop:=dm i=d/\low i=none/\∀j,j<n->low j≠some i
theorem Rdc.cyc(R:Rdc p n D dm pos v low){x:Nat->Int}{i:Nat}(hx:∀i,i<n->p∣F2 n D x i)(hT:Top p n pos x i):low i=none:=by
 cases hl:low i with
 | none=>rfl
 | some i0=>
  exfalso;obtain⟨M,hM⟩:=Vn n pos;obtain⟨c,hc⟩:=OP (b:=λ_=>true) (τ:=λl=>l) R.F R.pinj (λl hl _=>R.vtop l hl) (λ_=>True) (λ_ _ _ _ _ _=>ff) (λx i _ hT=>⟨i,hT.1,Y,Y⟩) M x ff λi hi _=>hM i hi;obtain⟨hi,hn,hmax⟩:=hT
  -- the part of i
  have hci:¬p∣c i:=λh=>hn ((hc i hi).dvd_iff.2 (Sc λl hl=>by
   show p∣if true=true then c l*v l i else 0
   rw[ac rfl];by_cases h1:p∣c l
   ·exact jc h1
   by_cases h2:p∣v l i
   ·exact fu h2
   exfalso;have h3:=(R.vtop l hl).2.2 i hi h2;obtain⟨i',hi',h4,h5⟩:=I8 (τ:=λl=>l) (b:=λ_=>true) R.F (λl hl _=>R.vtop l hl) (λl l' hl hl' _ _ e=>R.pinj l l' hl hl' e) c hl Y h1;have h6:=hmax i' hi' λh=>h4 ((hc i' hi').dvd_iff.1 h);have:=R.pinj l i hl hi ω;subst this
   exact h1 h))
  obtain⟨i',hi',h1,_⟩:=I8 (v:=λk=>F2 n D (v k)) (τ:=lo low) (b:=λl=>(low l).isSome) R.F (λl hl hb=>R.lsome l _ hl (by unfold lo;revert hb;cases low l<;>simp)) (λl l' hl hl' hb hb' e=>by
   have e1:low l=some (lo low l):=by unfold lo;revert hb;cases low l<;>simp
   have e2:low l'=some (lo low l'):=by unfold lo;revert hb';cases low l'<;>simp
   have:=R.pinj _ _ (R.lsome l _ hl e1).1 (R.lsome l' _ hl' e2).1 e;refine R.linj l l' _ hl hl' e1 ?_
   rw[this];exact e2) c hi (by rw[hl];rfl) hci
  refine h1 ?_;have h2:=Ru (D:=D) hc i';rw[O7]at h2;have h3:=h2.dvd_iff.1 (hx i' hi')
  have h4:Cg p (EL n (λl=>(low l).isSome) c (λk=>F2 n D (v k)) i') (EL n (λ_=>true) c (λk=>F2 n D (v k)) i'):=Cg.sm λl hl=>by
   show Cg p (if(low l).isSome=true then _ else 0) (if true=true then _ else 0);cases hll:low l with
   | some _=>exact Cg.refl _ _
   | none=>
    rw[ac rfl];exact(cgz.2 (fu (R.lnone l hl hll i' hi'))).symm
  exact h4.dvd_iff.2 h3
end
end Go.Lin
namespace Go.Lin
section
variable {p:Int} {n:Nat} {D:Nat->Nat->Int} {dm:Nat->Int} {pos pos':Nat->Nat} {v v':Nat->Nat->Int} {low low':Nat->Option Nat}
theorem Rdc.bb(R:Rdc p n D dm pos v low)(x:Nat->Int){i:Nat}(hi:i<n):p∣F2 n D (F2 n D x) i:=by
 have e:F2 n D (F2 n D x) i=sm n λj=>F2 n D (λk=>D k j) i*x j:=by unfold F2;rw[Bw (g:=λk=>sm n λj=>D i k*(D k j*x j)) λk _=>(FV n (D i k) λj=>D k j*x j).symm,KN];refine Bw λj _=>?_;rw[<-QD];exact Bw λk _=>(ep _ _ _).symm
 rw[e];exact Sc λj hj=>jc (R.D2 i j hi hj)
end
end Go.Lin

namespace Go.Lin
def ap(A:Nat->Nat->Int)(cols:Nat)(v:Nat->Int)(i:Nat):Int:=sm cols λj=>A i j*v j
variable {r c i j:Nat} {p:Int} {f:Nat->Nat->Int} {x:Nat->Int}
def RSp(p:Int)(r c:Nat)(f:Nat->Nat->Int)(x:Nat->Int):Prop:=∃u:Nat->Int,∀b,b<c->Cg p (x b) (sm r λl=>u l*f l b)
theorem RSp.row(hi:i<r):RSp p r c f (f i):=
 ⟨λl=>if l=i then 1 else 0,λb _=>Cg.of_eq (by
  rw[GX r i _ hi λl _ hne=>by simp[hne]]
  simp)⟩
theorem RSp.cg{y:Nat->Int}(h:RSp p r c f x)(hc:∀b,b<c->Cg p (y b) (x b)):RSp p r c f y:=by obtain⟨u,hu⟩:=h;exact⟨u,λb hb=>(hc b hb).trans (hu b hb)⟩
theorem RSp.mul(h:RSp p r c f x)(k:Int):RSp p r c f λb=>k*x b:=by obtain⟨u,hu⟩:=h;refine⟨λl=>k*u l,λb hb=>(Cg.mul (Cg.refl p k) (hu b hb)).trans (Cg.of_eq ?_)⟩;rw[<-FV];exact Bw λl _=>by rw[ep]
theorem RSp.add{y:Nat->Int}(h:RSp p r c f x)(h':RSp p r c f y):RSp p r c f λb=>x b+y b:=by obtain⟨u,hu⟩:=h;obtain⟨v,hv⟩:=h';refine⟨λl=>u l+v l,λb hb=>(Cg.add (hu b hb) (hv b hb)).trans (Cg.of_eq ?_)⟩;rw[<-Hz];exact Bw λl _=>by rw[Int.add_mul]
structure Red(p:Int)(r c:Nat)(f F:Nat->Nat->Int)(pv:List Nat)(j:Nat):Prop where
 bd:∀i,i<r->∀b,b<c->0<=F i b/\F i b<p
 sorted:pv.Pairwise (· < ·)
 lt:∀k (h:k<pv.length),pv[k]<j
 len:pv.length<=r
 col:∀i,i<r->∀k (h:k<pv.length),F i pv[k]=if i=k then 1 else 0
 low:∀i,i<r->pv.length<=i->∀b,b<j->F i b=0
 left:∀i (h:i<pv.length),∀b,b<pv[i]->F i b=0
 ker:∀x:Nat->Int,(∀i,i<r->Cg p (ap F c x i) 0)<->(∀i,i<r->Cg p (ap f c x i) 0)
 row:∀i,i<r->RSp p r c f (F i)
theorem Red.start(h:∀i,i<r->∀b,b<c->0<=f i b/\f i b<p):Red p r c f f [] 0:=
 ⟨h,List.Pairwise.nil,λk h=>by simp at h,by simp,λi _ k h=>by simp at h,λi _ _ b hb=>ω,λi h=>by simp at h,λx=>Iff.rfl,λi hi=>RSp.row hi⟩
theorem Red.skip{F:Nat->Nat->Int}{pv:List Nat}(R:Red p r c f F pv j)(h:∀i,i<r->pv.length<=i->F i j=0):Red p r c f F pv (j+1):=
 ⟨R.bd,R.sorted,λk hk=>Nat.lt_succ_of_lt (R.lt k hk),R.len,R.col,λi hi hl b hb=>by
  rcases (ω:b<j\/b=j) with h1|rfl
  ·exact R.low i hi hl b h1
  ·exact h i hi hl,R.left,R.ker,R.row⟩
def Ib(i j a:Nat):Nat:=if a=i then j else if a=j then i else a
theorem HC{a:Nat}(hi:i<r)(hj:j<r)(ha:a<r):Ib i j a<r:=by
 unfold Ib;split
 ·exact hj
 ·split
  ·exact hi
  ·exact ha
theorem So(i j a:Nat):Ib i j (Ib i j a)=a:=by
 unfold Ib;by_cases h1:a=i
 ·by_cases h2:j=i
  ·simp[h1,h2]
  ·simp[h1,h2]
 ·by_cases h2:a=j
  ·simp[h2]
  ·simp[h1,h2]
def EP(p:Int)(t i:Nat)(v:Int)(F:Nat->Nat->Int)(a b:Nat):Int:=if a=t then F (Ib t i t) b*v%p else F (Ib t i a) b
def RY(p:Int)(t i j:Nat)(v:Int)(F:Nat->Nat->Int)(a b:Nat):Int:=if a=t then EP p t i v F t b else(EP p t i v F a b+EP p t i v F t b*(p-EP p t i v F a j))%p
theorem Red.step{F:Nat->Nat->Int}{pv:List Nat}{v:Int}(hp:2<=p)(R:Red p r c f F pv j)(hi:i<r)(hl:pv.length<=i)(hj:j<c)(hv:F i j*v%p=1) :
  Red p r c f (RY p pv.length i j v F) (pv++[j]) (j+1):=by
 generalize ht:pv.length=t at *;have htr:t<r:=ω
 have hst:Ib t i t=i:=by simp[Ib]
 have hle:∀a,t<=a->t<=Ib t i a:=λa ha=>by
  unfold Ib;split
  ·omega
  ·split<;>omega
 have hsm:∀a,a<t->Ib t i a=a:=λa ha=>by unfold Ib;rw[aa ω,aa ω]
 -- row t,in the second form
 have h2bd:∀a,a<r->∀b,b<c->0<=EP p t i v F a b/\EP p t i v F a b<p:=λa ha b hb=>by
  unfold EP;split
  ·exact⟨co _ ω,bw _ ω⟩
  ·exact R.bd _ (HC htr hi ha) b hb
 have h2t:∀b,EP p t i v F t b=F i b*v%p:=λb=>by unfold EP;rw[ac rfl,hst]
 have h2z:∀b,F i b=0->EP p t i v F t b=0:=λb hb=>by rw[h2t,hb,ix,Int.zero_emod]
 have h2j:EP p t i v F t j=1:=by rw[h2t,hv]
 have h2n:∀a,a≠t->∀b,EP p t i v F a b=F (Ib t i a) b:=λa ha b=>by unfold EP;rw[aa ha]
 have h3t:∀b,RY p t i j v F t b=EP p t i v F t b:=λb=>by unfold RY;rw[ac rfl]
 have h3n:∀a,a≠t->∀b,RY p t i j v F a b=(EP p t i v F a b+EP p t i v F t b*(p-EP p t i v F a j))%p:=λa ha b=>by unfold RY;rw[aa ha]
 have h3same:∀a,a<r->a≠t->∀b,b<c->F i b=0->RY p t i j v F a b=F (Ib t i a) b:=λa ha hat b hb hz=>by rw[h3n a hat,h2z b hz,ix,gl,h2n a hat];have:=R.bd _ (HC htr hi ha) b hb;exact gt this.1 this.2
 have hlowi:∀b,b<j->F i b=0:=λb hb=>R.low i hi ω b hb;have hpvz:∀k (h:k<pv.length),F i pv[k]=0:=λk h=>by rw[R.col i hi k h,aa ω]
 refine⟨λa ha b hb=>?_,?_,λk hk=>?_,?_,λa ha k hk=>?_,λa ha hla b hb=>?_,λa ha b hb=>?_,λx=>?_,λa ha=>?_⟩
 ·by_cases hat:a=t
  ·subst hat;rw[h3t];exact h2bd _ ha b hb
  ·rw[h3n a hat];exact⟨co _ ω,bw _ ω⟩
 ·rw[f7];refine⟨R.sorted,List.pairwise_singleton _ _,λa ha b hb=>?_⟩;obtain⟨k,hk,rfl⟩:=dl.1 ha;rw[ao.1 hb];exact R.lt k hk
 ·rw[List.getElem_append];split
  ·exact Nat.lt_succ_of_lt (R.lt k _)
  ·simp
 ·rw[ag,ab];omega
 ·rw[List.getElem_append];split
  ·rename_i hk';have hkj:=R.lt k hk';by_cases hat:a=t
   ·subst hat;rw[h3t,h2z _ (hpvz k hk'),aa ω]
   ·rw[h3same a ha hat _ ω (hpvz k hk'),R.col _ (HC htr hi ha) k hk'];by_cases h1:a<t
    ·rw[hsm a h1]
    ·rw[aa (by have:=hle a ω;omega),aa ω]
  ·rename_i hk';rw[ag,ab]at hk;have hkt:k=t:=ω
   simp only[List.getElem_singleton];by_cases hat:a=t
   ·subst hat;rw[h3t,h2j,ac ω]
   ·rw[h3n a hat,h2j,ir,aa ω,show EP p t i v F a j+(p-EP p t i v F a j)=p by omega,Int.emod_self]
 ·rw[ag,ab]at hla;have hat:a≠t:=ω
  by_cases hbj:b<j
  ·by_cases hbc:b<c
   ·rw[h3same a ha hat b hbc (hlowi b hbj)];exact R.low _ (HC htr hi ha) (by have:=hle a ω;omega) b hbj
   ·omega
  ·have:b=j:=ω
   subst this;rw[h3n a hat,h2j,ir,show EP p t i v F a b+(p-EP p t i v F a b)=p by omega,Int.emod_self]
 ·rw[ag,ab]at ha;rw[List.getElem_append]at hb;split at hb
  ·rename_i ha';have hlt:=R.lt a ha';rw[h3same a ω ω b ω (hlowi b ω),hsm a ω];exact R.left a ha' b hb
  ·simp only[List.getElem_singleton]at hb;have hat:a=t:=ω
   subst hat;rw[h3t,h2z b (hlowi b hb)]
 ·rw[<-R.ker x]
  -- the sums
  have s2n:∀a,a≠t->ap (EP p t i v F) c x a=ap F c x (Ib t i a):=λa ha=>Bw λb hb=>by rw[h2n a ha]
  have s2t:Cg p (ap (EP p t i v F) c x t) (v*ap F c x i):=by refine Cg.trans (Cg.sm λb hb=>(show Cg p (EP p t i v F t b*x b) (v*(F i b*x b)) from ?_)) (Cg.of_eq (FV c v _));rw[h2t];refine Cg.trans (Cg.mul (Cg.mod _ _) (Cg.refl _ _)) (Cg.of_eq ?_);rw[fa (F i b) v,ep]
  have s3t:ap (RY p t i j v F) c x t=ap (EP p t i v F) c x t:=Bw λb hb=>by rw[h3t]
  have s3n:∀a,a≠t->Cg p (ap (RY p t i j v F) c x a) (ap F c x (Ib t i a)+(p-EP p t i v F a j)*ap (EP p t i v F) c x t):=λa ha=>by
   refine Cg.trans (Cg.sm λb hb=>(show Cg p (RY p t i j v F a b*x b) (F (Ib t i a) b*x b+(p-EP p t i v F a j)*(EP p t i v F t b*x b)) from ?_)) (Cg.of_eq ?_)
   ·rw[h3n a ha,h2n a ha b];refine Cg.trans (Cg.mul (Cg.mod _ _) (Cg.refl _ _)) (Cg.of_eq ?_);rw[Int.add_mul,fa (EP p t i v F t b),ep]
   ·rw[Hz,FV];rfl
  constructor
  ·intro H a ha;have ht0:Cg p (ap (EP p t i v F) c x t) 0:=by rw[<-s3t];exact H t htr
   have hn0:∀a,a<r->a≠t->Cg p (ap F c x (Ib t i a)) 0:=λa ha hat=>by have h1:=(s3n a hat).symm.trans (H a ha);have h2:=Cg.mul (Cg.refl p (p-EP p t i v F a j)) ht0;have h3:=Cg.sub h1 h2;rw[fh,Int.sub_zero]at h3;exact Cg.trans (Cg.of_eq ω) h3
   have hi0:Cg p (ap F c x i) 0:=by have h1:=s2t.symm.trans ht0;have h2:=Cg.mul (Cg.refl p (F i j)) h1;rw[fh,<-ep]at h2;have h3:Cg p (F i j*v) 1:=Cg.iff_mod.2 (by rw[hv,gt ω ω]);have h4:=Cg.mul h3 (Cg.refl p (ap F c x i));rw[ir]at h4;exact h4.symm.trans h2
   by_cases hat:Ib t i a=t
   ·have:a=i:=by
     have h1:=So t i a;rw[hat,hst]at h1;exact h1.symm
    rw[this];exact hi0
   ·have h1:=hn0 (Ib t i a) (HC htr hi ha) hat
    rwa [So]at h1
  ·intro H a ha
   have ht0:Cg p (ap (EP p t i v F) c x t) 0:=by have:=Cg.mul (Cg.refl p v) (H i hi);rw[fh]at this;exact s2t.trans this
   by_cases hat:a=t
   ·subst hat;rw[s3t];exact ht0
   ·refine(s3n a hat).trans ?_;have h2:=Cg.mul (Cg.refl p (p-EP p t i v F a j)) ht0;have h3:=Cg.add (H _ (HC htr hi ha)) h2
    rwa [fh,gl]at h3
 ·have ht:RSp p r c f (EP p t i v F t):=((R.row i hi).mul v).cg λb _=>by
   rw[h2t,fa v];exact Cg.mod _ _
  by_cases hat:a=t
  ·subst hat;exact ht.cg λb _=>Cg.of_eq (h3t b)
  ·refine((R.row _ (HC htr hi ha)).add (ht.mul (p-EP p t i v F a j))).cg λb _=>?_;rw[h3n a hat,h2n a hat b,fa (EP p t i v F t b)];exact Cg.mod _ _
end Go.Lin
namespace Go.Lin
structure SubV(p:Int)(d:Nat)(W:(Nat->Int)->Prop):Prop where
 zero:W λ_=>0
 cg:∀x y,(∀i,i<d->Cg p (y i) (x i))->W x->W y
 lin:∀x y c,W x->W y->W λi=>x i+c*y i
theorem PI(p:Int)(n d:Nat)(b:Nat->Bool)(w:Nat->Nat->Int):SubV p d (Spn p n b d w):=by
 refine⟨⟨λ_=>0,λi _=>Cg.of_eq ?_⟩,λx y h ⟨c,hc⟩=>⟨c,λi hi=>(h i hi).trans (hc i hi)⟩,λx y c ⟨a,ha⟩ ⟨e,he⟩=>⟨λl=>a l+c*e l,λi hi=>?_⟩⟩
 ·unfold EL;exact(Gz λl _=>by rw[ix,ite_self]).symm
 ·refine((ha i hi).add ((Cg.refl p c).mul (he i hi))).trans (Cg.of_eq ?_);unfold EL;rw[<-FV,<-Hz];refine Bw λl _=>?_;cases b l
  ·simp
  ·simp only[im];rw[Int.add_mul,ep]
theorem Spn.one{p:Int}{n d:Nat}{b:Nat->Bool}{v:Nat->Nat->Int}{l:Nat}(hl:l<n)(hb:b l=true):Spn p n b d v (v l):=
 ⟨λk=>if k=l then 1 else 0,λi _=>Cg.of_eq (by
  unfold EL;rw[GX n l _ hl λk _ hne=>by simp[hne]]
  simp[hb])⟩
theorem SubV.sm{p:Int}{d:Nat}{W:(Nat->Int)->Prop}(H:SubV p d W){n:Nat}{f:Nat->Nat->Int}{c:Nat->Int}(h:∀k,k<n->W (f k)\/c k=0):W λi=>Lin.sm n λk=>c k*f k i:=by
 induction n with
 | zero=>exact H.zero
 | succ n ih=>
  have h1:=ih λk hk=>h k ω;rcases h n ω with h2|h2
  ·exact H.lin _ _ (c n) h1 h2
  ·exact H.cg _ _ (λi _=>Cg.of_eq (by show Lin.sm n _+c n*f n i=_;rw[h2,ix,gl])) h1
theorem Vp{p:Int}(F:E5 p){N:Nat}{b:Nat->Bool}{v:Nat->Nat->Int}{last:Nat->Nat}(h:∀j,j<N->b j=true->last j<N/\¬p∣v j (last j)/\∀i,last j<i->i<N->p∣v j i)
  (hinj:∀j k,j<N->k<N->b j=true->b k=true->last j=last k->j=k):Ind p N b N v:=by
 intro c hc
 have key:∀t,∀l,l<N->b l=true->N<=last l+t->p∣c l:=by
  intro t
  induction t with
  | zero=>intro l hl hb h1;have:=(h l hl hb).1;omega
  | succ t ih=>
   intro l hl hb h1;obtain⟨h2,h3,h4⟩:=h l hl hb;have h5:=hc (last l) h2
   have h6:Cg p (EL N b c v (last l)) (if b l=true then c l*v l (last l) else 0):=by
    unfold EL;refine Sp hl λi hi hne=>?_;by_cases hbi:b i=true
    ·rw[ac hbi];rcases (ω:last l<last i\/last i<last l\/last l=last i) with h7|h7|h7
     ·exact jc (ih i hi hbi ω)
     ·exact fu ((h i hi hbi).2.2 _ h7 h2)
     ·exact jt (hinj l i hl hi hb hbi h7).symm hne
    ·rw[aa hbi];exact iq p
   rw[ac hb]at h6;have h7:p∣c l*v l (last l):=by have:=h6.symm.trans h5;unfold Cg at this;rwa [Int.sub_zero]at this
   rcases F.mul _ _ h7 with h8|h8
   ·exact h8
   ·exact jt h8 h3
 exact λl hl hb=>key N l hl hb ω
theorem W8{pv:List Nat}(hs:pv.Pairwise (· < ·)){c:Nat}(hc:∀a∈pv,a<c):Ho c pv.contains=pv.length:=by
 unfold Ho Gm;have hn:pv.Nodup:=hs.imp λh=>ω
 refine(List.Perm.length_eq ?_);refine(List.perm_ext_iff_of_nodup (jm _ ig) hn).2 λa=>?_;simp only[br,mem_range,gv];exact⟨λh=>h.2,λh=>⟨hc a h,h⟩⟩
theorem Red.at_{p:Int}{r c:Nat}{f G:Nat->Nat->Int}{pv:List Nat}(R:Red p r c f G pv c){x:Nat->Int}{i:Nat}(hi:i<pv.length)(h0:∀b,b<c->pv.contains b=false->x b=0):ap G c x i=x (pv[i]):=by
 unfold ap;have hil:i<r:=by have:=R.len;omega
 rw[GX c pv[i] _ (R.lt i hi) λb hb hne=>?_]
 ·rw[R.col i hil i hi,ac rfl,ir]
 ·by_cases hb2:b∈pv
  ·obtain⟨k,hk,e⟩:=dl.1 hb2;subst e;rw[R.col i hil k hk,aa (by rintro rfl;exact hne Y),ix]
  ·rw[h0 b hb (by simpa using hb2),fh]
section
variable {p:Int} {r c N:Nat} {f G:Nat->Nat->Int} {pv:List Nat} {D:Nat->Nat->Int} {q ρ:Nat->Nat}
theorem Y5(hf:∀i,i<r->∀k,k<c->Cg p (f i k) (D (ρ i) (q k)))(hρ:∀i,i<r->ρ i<N)(hz:∀x,x<N->∀k,k<c->(∀i,i<r->ρ i≠x)->Cg p (D x (q k)) 0)(x:Nat->Int) :
  (∀i,i<N->Cg p (sm c λk=>x k*D i (q k)) 0)<->∀i,i<r->Cg p (ap f c x i) 0:=by
 have e:∀i,i<r->Cg p (ap f c x i) (sm c λk=>x k*D (ρ i) (q k)):=λi hi=>by unfold ap;refine Cg.sm λk hk=>?_;exact((hf i hi k hk).mul (Cg.refl p (x k))).trans (Cg.of_eq (fa _ _))
 constructor
 ·exact λh i hi=>(e i hi).trans (h _ (hρ i hi))
 ·intro h i hi;by_cases h1:∃k,k<r/\ρ k=i
  ·obtain⟨k,hk,rfl⟩:=h1;exact(e k hk).symm.trans (h k hk)
  ·refine(Cg.sm (g:=λ_=>0) λk hk=>?_).trans (Cg.of_eq (Fy c));have:=hz i hi k hk λk' hk' e'=>h1 ⟨k',hk',e'⟩;exact((Cg.refl p (x k)).mul this).trans (Cg.of_eq (fh _))
theorem TK(F:E5 p)(R:Red p r c f G pv c)(hq:∀k,k<c->q k<N)(hρ:∀i,i<r->ρ i<N)(hf:∀i,i<r->∀k,k<c->Cg p (f i k) (D (ρ i) (q k)))
  (hz:∀x,x<N->∀k,k<c->(∀i,i<r->ρ i≠x)->Cg p (D x (q k)) 0) (b:Nat->Bool) (hb:∀j,j<N->(b j=true<->∃k,k<c/\q k=j)) (rc v:Nat->Nat->Int)
  (heq:∀j,j<N->b j=true->∀i,i<N->Cg p (rc j i) (sm N λm=>v j m*D i m)) (hone:∀j,j<N->b j=true->v j j=1) (haft:∀j m,j<N->b j=true->j<m->v j m=0) (hin:∀j m,j<N->m<N->b j=true->v j m≠0->b m=true)
  (nz:Nat->Bool) (last:Nat->Nat) (h0:∀j,j<N->b j=true->nz j=false->∀i,i<N->Cg p (rc j i) 0) (h1:∀j,j<N->b j=true->nz j=true->last j<N/\¬p∣rc j (last j)/\∀i,last j<i->i<N->p∣rc j i)
  (hinj:∀j k,j<N->k<N->b j=true->b k=true->nz j=true->nz k=true->last j=last k->j=k):pv.length=Ho N λj=>b j&&nz j:=by
 have hlt:∀a∈pv,a<c:=λa ha=>by obtain⟨k,hk,rfl⟩:=dl.1 ha;exact R.lt k hk
 have hrel:=λx=>Y5 (x:=x) hf hρ hz;have SN:=PI p N N (λj=>b j&&nz j) rc;have SP:=PI p c N pv.contains λk i=>D i (q k)
 -- the columns lie in the span of the reduced ones
 have hD:∀j,j<N->b j=true->Spn p N (λj=>b j&&nz j) N rc λi=>D i j:=by
  intro j
  induction j using Nat.strongRecOn with
  | ind j ih=>
   intro hj hbj
   have hr:Spn p N (λj=>b j&&nz j) N rc (rc j):=by
    cases hn:nz j with
    | true=>exact Spn.one hj (by simp[hbj,hn])
    | false=>exact SN.cg _ _ (h0 j hj hbj hn) SN.zero
   have hs:Spn p N (λj=>b j&&nz j) N rc λi=>sm N λm=>(if m=j then 0 else v j m)*D i m:=
    SN.sm (f:=λm i=>D i m) λm hm=>by
     by_cases e:m=j
     ·exact .inr (ac e)
     ·by_cases e2:v j m=0
      ·exact .inr (by rw[aa e,e2])
      ·refine .inl (ih m ?_ hm (hin j m hj hm hbj e2));rcases (ω:m<j\/j<m) with h|h
       ·exact h
       ·exact jt (haft j m hj hbj h) e2
   refine SN.cg _ _ (λi hi=>?_) (SN.lin _ _ (-1) hr hs)
   have e1:(sm N λm=>v j m*D i m)=(sm N λm=>(if m=j then 0 else v j m)*D i m)+D i j:=by
    have:D i j=sm N λm=>if m=j then D i m else 0:=(Jl N j _ hj).symm
    rw[this,<-Hz];refine Bw λm hm=>?_;by_cases e:m=j
    ·subst e;simp[hone m hm hbj]
    ·simp[e]
   have e2:=heq j hj hbj i hi;rw[e1]at e2;have:=e2.sub (Cg.refl p (sm N λm=>(if m=j then 0 else v j m)*D i m));exact(this.trans (Cg.of_eq ω)).symm.trans (Cg.of_eq ω)
 -- the chosen columns lie in the span of the pivots'
 have hP:∀k,k<c->Spn p c pv.contains N (λk i=>D i (q k)) λi=>D i (q k):=by
  intro k hk
  let x:Nat->Int:=λb=>if pv.contains b then(if h:pv.idxOf b<r then G (pv.idxOf b) k else 0) else 0
  have hx:∀t (ht:t<pv.length),x pv[t]=G t k:=λt ht=>by
   have hn:pv.Nodup:=R.sorted.imp λh=>ω
   have e:pv.idxOf pv[t]=t:=hn.idxOf_getElem t ht;have:pv.contains pv[t]=true:=by simp
   simp only[x,this,im,e];rw[dif_pos (by have:=R.len;omega)]
  have hx0:∀b,b<c->pv.contains b=false->x b=0:=λb _ hb=>by simp only[x,hb];rfl
  have hA:∀i,i<r->Cg p (ap G c (λb=>x b-if b=k then 1 else 0) i) 0:=λi hi=>by
   have e:ap G c (λb=>x b-if b=k then 1 else 0) i=ap G c x i-G i k:=by
    unfold ap
    have:G i k=sm c λb=>G i b*(if b=k then 1 else 0):=by rw[GX c k _ hk λb _ hne=>by simp[hne]];simp
    rw[this,<-RI];exact Bw λb _=>by rw[Int.mul_sub]
   rw[e];rcases eh i pv.length with h|h
   ·rw[R.at_ h hx0,hx i h];exact Cg.of_eq ω
   ·have:ap G c x i=0:=by
     unfold ap;exact Gz λb hb=>by rw[R.low i hi h b hb,ix]
    rw[this,R.low i hi h k hk];exact Cg.of_eq Y
  have hB:=(hrel _).2 ((R.ker _).1 hA);refine⟨x,λi hi=>?_⟩;have h2:=hB i hi
  have e:(sm c λb=>(x b-if b=k then 1 else 0)*D i (q b))=EL c pv.contains x (λk i=>D i (q k)) i-D i (q k):=by
   unfold EL
   have:D i (q k)=sm c λb=>(if b=k then 1 else 0)*D i (q b):=by rw[GX c k _ hk λb _ hne=>by simp[hne]];simp
   rw[this,<-RI];refine Bw λb hb=>?_;rw[Int.sub_mul];cases hc:pv.contains b with
   | true=>simp
   | false=>rw[hx0 b hb hc];simp
  rw[e]at h2;have h3:=h2.add (Cg.refl p (D i (q k)));exact(h3.trans (Cg.of_eq (Int.zero_add _))).symm.trans (Cg.of_eq (Int.sub_add_cancel _ _))
 refine Nat.le_antisymm ?_ ?_
 ·rw[<-W8 R.sorted hlt];refine Ps F (d:=N) (v:=λk i=>D i (q k)) (v':=rc) ?_ λk hk hc=>hD _ (hq k hk) ((hb _ (hq k hk)).2 ⟨k,hk,Y⟩);intro x hx l hl hc
  have h2:∀i,i<N->Cg p (sm c λk=>(if pv.contains k then x k else 0)*D i (q k)) 0:=λi hi=>by have:=hx i hi;unfold EL at this;refine(Cg.of_eq (Bw λk _=>?_)).trans this;cases pv.contains k<;>simp
  have h3:=(R.ker _).2 ((hrel _).1 h2);obtain⟨t,ht,rfl⟩:=dl.1 (gv.1 hc);have h4:=h3 t (by have:=R.len;omega);rw[R.at_ ht (λb _ hb=>by rw[hb];rfl),ac hc]at h4;unfold Cg at h4;rwa [Int.sub_zero]at h4
 ·rw[<-W8 R.sorted hlt];refine Ps F (d:=N) (v:=rc) (v':=λk i=>D i (q k)) (Vp F (b:=λj=>b j&&nz j) (last:=last) (λj hj hc=>?_) λj k hj hk hc hc' e=>?_) λj hj hc=>?_
  ·simp only[bo]at hc;exact h1 j hj hc.1 hc.2
  ·simp only[bo]at hc hc';exact hinj j k hj hk hc.1 hc'.1 hc.2 hc'.2 e
  ·simp only[bo]at hc;refine SP.cg _ _ (heq j hj hc.1) (SP.sm (f:=λm i=>D i m) (c:=v j) λm hm=>?_);by_cases e:v j m=0
   ·exact .inr e
   ·obtain⟨k,hk,rfl⟩:=(hb m hm).1 (hin j m hj hm hc.1 e);exact .inl (hP k hk)
end
end Go.Lin

namespace Go.Eng
open Go.RowKit
abbrev Hp:=Nat->Option Obj
abbrev AF:=List (Nat×Value)
def Hp.le(h h':Hp):Prop:=∀g o,h g=some o->h' g=some o
def Hp.inW(h:Hp)(w:World):Prop:=∀g o,h g=some o->w.heap[g]?=some o
def Hp.emp:Hp:=λ_=>none
def Hp.one(g:Nat)(o:Obj):Hp:=λk=>if k=g then some o else none
def Hp.disj(m m':Hp):Prop:=∀g,m g=none\/m' g=none
def Hp.join(h m:Hp):Hp:=λg=>match h g with|some o=>some o|none=>m g
theorem Hp.le_refl(h:Hp):h.le h:=λ_ _ e=>e
theorem Hp.le_trans{a b c:Hp}(h:a.le b)(k:b.le c):a.le c:=λg o e=>k g o (h g o e)
theorem Hp.emp_le(h:Hp):Hp.emp.le h:=λ_ _ e=>by cases e
theorem Hp.le_join(h m:Hp):h.le (h.join m):=λg o e=>by simp[Hp.join,e]
theorem Hp.join_le_right{h m:Hp}(d:m.disj h):m.le (h.join m):=λg o e=>by
 rcases d g with h1|h1
 ·rw[h1]at e;cases e
 ·simp[Hp.join,h1,e]
theorem Hp.disj_symm{m m':Hp}(h:m.disj m'):m'.disj m:=λg=>(h g).symm
theorem Hp.one_self(g:Nat)(o:Obj):Hp.one g o g=some o:=by simp[Hp.one]
theorem Hp.one_some{g k:Nat}{o o':Obj}(h:Hp.one g o k=some o'):k=g/\o'=o:=by
 unfold Hp.one at h;split at h
 ·exact⟨by assumption,by cases h;rfl⟩
 ·cases h
theorem Hp.one_ne{g k:Nat}{o:Obj}(h:k≠g):Hp.one g o k=none:=by simp[Hp.one,h]
theorem Hp.inW_lt{h:Hp}{w:World}(hw:h.inW w){g:Nat}{o:Obj}(e:h g=some o):g<w.heap.size:=
 (ba.1 (hw g o e)).1
theorem Hp.inW_none{h:Hp}{w:World}(hw:h.inW w){g:Nat}(e:w.heap.size<=g):h g=none:=by
 cases hg:h g with
 | none=>rfl
 | some o=>have:=Hp.inW_lt hw hg;omega
theorem Hp.ne_none{h:Hp}{g:Nat}(e:h g≠none):∃o,h g=some o:=by
 cases hg:h g with
 | none=>exact jt hg e
 | some o=>exact⟨o,Y⟩
structure St(w:World)(h:Hp)(ms:List Hp):Prop where
 imm:h.inW w
 own:∀m∈ms,m.inW w
 off:∀m∈ms,m.disj h
 apart:ms.Pairwise Hp.disj
structure TL(w0 w:World):Prop where
 tape:w.tape=w0.tape
 drawn:w0.drawn<=w.drawn
theorem TL.refl(w:World):TL w w:=⟨rfl,au _⟩
theorem TL.trans{a b c:World}(h:TL b c)(k:TL a b):TL a c:=⟨h.tape.trans k.tape,dc k.drawn h.drawn⟩
structure Ext(w w':World):Prop where
 os:w'.os=w.os
 tape:TL w w'
 output:w'.output=w.output
 size:w.heap.size<=w'.heap.size
 block:∀k,k<w.heap.size->w'.heap[k]?=w.heap[k]?
theorem Ext.refl(w:World):Ext w w:=⟨rfl,TL.refl w,rfl,au _,λ_ _=>rfl⟩
theorem Ext.drew(w:World):Ext w w.drew:=⟨rfl,⟨rfl,Nat.le_succ _⟩,rfl,au _,λ_ _=>rfl⟩
theorem Ext.alloc(w:World)(o:Obj):Ext w (w.alloc o):=
 let b:=(Below.refl w.heap.size w).alloc (au _) o
 ⟨b.os,⟨b.tape,au _⟩,b.output,b.size,b.block⟩
structure Ends(w0:World)(h0:Hp)(ms0:List Hp)(w:World)(h:Hp)(ms:List Hp):Prop where
 st:St w h ms
 os:w.os=w0.os
 tape:TL w0 w
 output:w.output=w0.output
 size:w0.heap.size<=w.heap.size
 block:∀k,k<w0.heap.size->(∀m∈ms0,m k=none)->w.heap[k]?=w0.heap[k]?
 le:h0.le h
 hnew:∀k,k<w0.heap.size->(∀m∈ms0,m k=none)->h k=h0 k
 mnew:∀m∈ms,∀k,k<w0.heap.size->m k≠none->∃m0∈ms0,m0 k≠none
theorem Ends.refl{w:World}{h:Hp}{ms:List Hp}(s:St w h ms):Ends w h ms w h ms:=
 ⟨s,rfl,TL.refl _,rfl,au _,λ_ _ _=>rfl,Hp.le_refl _,λ_ _ _=>rfl,λm hm _ _ e=>⟨m,hm,e⟩⟩
theorem St.frame_off{w:World}{h:Hp}{pre fr:List Hp}(s:St w h (pre++fr)):∀m∈fr,∀m'∈pre,m'.disj m:=
 λm hm m' hm'=>(f7.1 s.apart).2.2 m' hm' m hm
theorem St.pre{w:World}{h:Hp}{pre fr:List Hp}(s:St w h (pre++fr)):St w h pre:=
 ⟨s.imm,λm hm=>s.own m (fe _ hm),λm hm=>s.off m (fe _ hm),(f7.1 s.apart).1⟩
theorem Ends.call{w0 w w':World}{h0 h h':Hp}{ms0 pre pre' fr:List Hp}(H:Ends w0 h0 ms0 w h (pre++fr))(C:Ends w h pre w' h' pre'):Ends w0 h0 ms0 w' h' (pre'++fr):=by
 have hlt:∀m∈fr,∀k,m k≠none->k<w.heap.size:=λm hm k hk=>by obtain⟨o,ho⟩:=Hp.ne_none hk;exact Hp.inW_lt (H.st.own m (fq _ hm)) ho
 have hno:∀m∈fr,∀k,m k≠none->∀m'∈pre,m' k=none:=λm hm k hk m' hm'=>by
  rcases H.st.frame_off m hm m' hm' k with e|e
  ·exact e
  ·exact jt e hk
 have hpre:∀k,k<w0.heap.size->(∀m∈ms0,m k=none)->∀m∈pre,m k=none:=λk hk hm m hmp=>by
  cases e:m k with
  | none=>rfl
  | some o=>
   obtain⟨m0,hm0,e0⟩:=H.mnew m (fe _ hmp) k hk (by rw[e];simp);exact jt (hm m0 hm0) e0
 refine⟨⟨C.st.imm,?_,?_,?_⟩,C.os.trans H.os,C.tape.trans H.tape,C.output.trans H.output,dc H.size C.size,?_,Hp.le_trans H.le C.le,?_,?_⟩
 ·intro m hm;rcases bf.1 hm with hm|hm
  ·exact C.st.own m hm
  ·intro k o e;rw[C.block k (hlt m hm k (by rw[e];simp)) (hno m hm k (by rw[e];simp))];exact H.st.own m (fq _ hm) k o e
 ·intro m hm;rcases bf.1 hm with hm|hm
  ·exact C.st.off m hm
  ·intro k;cases e:m k with
   | none=>exact .inl Y
   | some o=>
    have hk:m k≠none:=by rw[e];simp
    right
    rw[C.hnew k (hlt m hm k hk) (hno m hm k hk)];rcases H.st.off m (fq _ hm) k with e1|e1
    ·exact jt e1 hk
    ·exact e1
 ·refine f7.2 ⟨C.st.apart,(f7.1 H.st.apart).2.1,λm' hm' m hm k=>?_⟩;cases e:m k with
  | none=>exact .inr Y
  | some o=>
   have hk:m k≠none:=by rw[e];simp
   cases e':m' k with
   | none=>exact .inl Y
   | some o'=>
    obtain⟨m0,hm0,e0⟩:=C.mnew m' hm' k (hlt m hm k hk) (by rw[e'];simp);exact jt (hno m hm k hk m0 hm0) e0
 ·intro k hk hm;rw[C.block k (fz hk H.size) (hpre k hk hm)];exact H.block k hk hm
 ·intro k hk hm;rw[C.hnew k (fz hk H.size) (hpre k hk hm)];exact H.hnew k hk hm
 ·intro m hm k hk e;rcases bf.1 hm with hm|hm
  ·obtain⟨m1,hm1,e1⟩:=C.mnew m hm k (fz hk H.size) e;exact H.mnew m1 (fe _ hm1) k hk e1
  ·exact H.mnew m (fq _ hm) k hk e
theorem Hp.inW_ext{h:Hp}{w w':World}(hw:h.inW w)(e:Ext w w'):h.inW w':=λg o ho=>by rw[e.block g (Hp.inW_lt hw ho)];exact hw g o ho
theorem St.ext{w w':World}{h:Hp}{ms:List Hp}(s:St w h ms)(e:Ext w w'):St w' h ms:=
 ⟨Hp.inW_ext s.imm e,λm hm=>Hp.inW_ext (s.own m hm) e,s.off,s.apart⟩
theorem Ends.ext{w0 w w':World}{h0 h:Hp}{ms0 ms:List Hp}(H:Ends w0 h0 ms0 w h ms)(e:Ext w w'):Ends w0 h0 ms0 w' h ms:=
 ⟨H.st.ext e,e.os.trans H.os,e.tape.trans H.tape,e.output.trans H.output,dc H.size e.size,
  λk hk hm=>(e.block k (fz hk H.size)).trans (H.block k hk hm),H.le,H.hnew,H.mnew⟩
theorem Ends.drew{w0 w:World}{h0 h:Hp}{ms0 ms:List Hp}(H:Ends w0 h0 ms0 w h ms):Ends w0 h0 ms0 w.drew h ms:=
 H.ext (Ext.drew _)
theorem Ends.alloc{w0 w:World}{h0 h:Hp}{ms0 ms:List Hp}(H:Ends w0 h0 ms0 w h ms)(o:Obj):Ends w0 h0 ms0 (w.alloc o) h (Hp.one w.heap.size o::ms):=by
 have H':=H.ext (Ext.alloc w o);refine⟨⟨H'.st.imm,?_,?_,?_⟩,H'.os,H'.tape,H'.output,H'.size,H'.block,H'.le,H'.hnew,?_⟩
 ·intro m hm;rcases aq.1 hm with rfl|hm
  ·intro k o' e;obtain⟨rfl,rfl⟩:=Hp.one_some e;exact heap_alloc_new w o'
  ·exact H'.st.own m hm
 ·intro m hm;rcases aq.1 hm with rfl|hm
  ·intro k;by_cases hk:k=w.heap.size
   ·exact .inr (Hp.inW_none H.st.imm ω)
   ·exact .inl (Hp.one_ne hk)
  ·exact H'.st.off m hm
 ·refine bj.2 ⟨λm hm k=>?_,H'.st.apart⟩;by_cases hk:k=w.heap.size
  ·exact .inr (Hp.inW_none (H.st.own m hm) ω)
  ·exact .inl (Hp.one_ne hk)
 ·intro m hm k hk e;rcases aq.1 hm with rfl|hm
  ·exact jt (Hp.one_ne (o:=o) (show k≠w.heap.size by have:=H.size;omega)) e
  ·exact H'.mnew m hm k hk e
theorem Ends.freeze{w0 w:World}{h0 h:Hp}{ms0 ms:List Hp}{m:Hp}(H:Ends w0 h0 ms0 w h (m::ms)):Ends w0 h0 ms0 w (h.join m) ms:=by
 have hd:m.disj h:=H.st.off m (bu);refine⟨⟨?_,λm' hm'=>H.st.own m' (bh _ hm'),?_,(bj.1 H.st.apart).2⟩,H.os,H.tape,H.output,H.size,H.block,Hp.le_trans H.le (Hp.le_join _ _),?_,λm' hm'=>H.mnew m' (bh _ hm')⟩
 ·intro k o e;unfold Hp.join at e;split at e
  ·rename_i o' e';cases e;exact H.st.imm k _ e'
  ·exact H.st.own m (bu) k o e
 ·intro m' hm' k;rcases (bj.1 H.st.apart).1 m' hm' k with e|e
  ·rcases H.st.off m' (bh _ hm') k with e1|e1
   ·exact .inl e1
   ·right;simp[Hp.join,e1,e]
  ·exact .inl e
 ·intro k hk hm;have h1:=H.hnew k hk hm
  have h2:m k=none:=by
   cases e:m k with
   | none=>rfl
   | some o=>
    obtain⟨m0,hm0,e0⟩:=H.mnew m (bu) k hk (by rw[e];simp);exact jt (hm m0 hm0) e0
  simp only[Hp.join,h2];rw[<-h1];cases h k<;>rfl
theorem Ends.drop{w0 w:World}{h0 h:Hp}{ms0 ms:List Hp}{m:Hp}(H:Ends w0 h0 ms0 w h (m::ms)):Ends w0 h0 ms0 w h ms:=
 ⟨⟨H.st.imm,λm' hm'=>H.st.own m' (bh _ hm'),λm' hm'=>H.st.off m' (bh _ hm'),(bj.1 H.st.apart).2⟩,
  H.os,H.tape,H.output,H.size,H.block,H.le,H.hnew,λm' hm'=>H.mnew m' (bh _ hm')⟩
theorem Ends.perm{w0 w:World}{h0 h:Hp}{ms0 ms ms':List Hp}(H:Ends w0 h0 ms0 w h ms)(p:ms.Perm ms'):Ends w0 h0 ms0 w h ms':=
 ⟨⟨H.st.imm,λm hm=>H.st.own m (p.mem_iff.2 hm),λm hm=>H.st.off m (p.mem_iff.2 hm),(p.pairwise_iff (λh=>Hp.disj_symm h)).1 H.st.apart⟩,
  H.os,H.tape,H.output,H.size,H.block,H.le,H.hnew,λm hm=>H.mnew m (p.mem_iff.2 hm)⟩
theorem Ends.change{w0 w w':World}{h0 h:Hp}{ms0 ms:List Hp}{g:Nat}{o o':Obj}(H:Ends w0 h0 ms0 w h (Hp.one g o::ms))
  (hos:w'.os=w.os) (htape:TL w w') (hout:w'.output=w.output) (hsize:w.heap.size<=w'.heap.size)
  (hg:w'.heap[g]?=some o') (hother:∀k,k<w.heap.size->k≠g->w'.heap[k]?=w.heap[k]?):Ends w0 h0 ms0 w' h (Hp.one g o'::ms):=by
 have hgw:w.heap[g]?=some o:=H.st.own _ (bu) g o (Hp.one_self g o)
 have hoff:∀m∈ms,∀k o1,m k=some o1->k≠g:=λm hm k o1 e he=>by
  subst he;rcases (bj.1 H.st.apart).1 m hm k with e1|e1
  ·rw[Hp.one_self]at e1;cases e1
  ·rw[e1]at e;cases e
 have hhg:h g=none:=by
  rcases H.st.off _ (bu) g with e1|e1
  ·rw[Hp.one_self]at e1;cases e1
  ·exact e1
 refine⟨⟨?_,?_,?_,?_⟩,hos.trans H.os,htape.trans H.tape,hout.trans H.output,dc H.size hsize,?_,H.le,H.hnew,?_⟩
 ·intro k o1 e;rw[hother k (Hp.inW_lt H.st.imm e) (λhe=>by subst he;rw[hhg]at e;cases e)];exact H.st.imm k o1 e
 ·intro m hm;rcases aq.1 hm with rfl|hm
  ·intro k o1 e;obtain⟨rfl,rfl⟩:=Hp.one_some e;exact hg
  ·intro k o1 e;have hm':=H.st.own m (bh _ hm);rw[hother k (Hp.inW_lt hm' e) (hoff m hm k o1 e)];exact hm' k o1 e
 ·intro m hm;rcases aq.1 hm with rfl|hm
  ·intro k;by_cases hk:k=g
   ·subst hk;exact .inr hhg
   ·exact .inl (Hp.one_ne hk)
  ·exact H.st.off m (bh _ hm)
 ·refine bj.2 ⟨λm hm k=>?_,(bj.1 H.st.apart).2⟩;by_cases hk:k=g
  ·right
   cases e:m k with
   | none=>rfl
   | some o1=>exact jt hk (hoff m hm k o1 e)
  ·exact .inl (Hp.one_ne hk)
 ·intro k hk hm
  have hkg:k≠g:=λhe=>by subst he;obtain⟨m0,hm0,e0⟩:=H.mnew _ (bu) k hk (by rw[Hp.one_self];simp);exact jt (hm m0 hm0) e0
  rw[hother k (fz hk H.size) hkg];exact H.block k hk hm
 ·intro m hm k hk e;rcases aq.1 hm with rfl|hm
  ·by_cases hkg:k=g
   ·subst hkg;exact H.mnew _ (bu) k hk (by rw[Hp.one_self];simp)
   ·exact jt (Hp.one_ne hkg) e
  ·exact H.mnew m (bh _ hm) k hk e
variable {n id t d j dj:Nat} {P:Program} {post:Value->Hp->List Hp->Prop} {a:Act} {y x c:Code} {ds:List Nat} {b:Bool} {v:Value} {l:List Oper} {fn:Func} {oj:Oper} {ms' ms0:List Hp} {f:FuncId} {w0:World} {h0:Hp} {K:Act->World->Prop} {args:Array Value}
def lk:AF->Nat->Option Value
 | [],_=>none
 | (i,v)::s,j=>match Nat.beq i j with|true=>some v|false=>lk s j
theorem BL(d:Nat)(v:Value)(s:AF):lk ((d,v)::s) d=some v:=by have:Nat.beq d d=true:=Nat.beq_refl d;simp[lk,this]
theorem BF{i:Nat}(v:Value)(s:AF)(h:d≠i):lk ((d,v)::s) i=lk s i:=by
 have:Nat.beq d i=false:=by
  cases e:Nat.beq d i with
  | false=>rfl
  | true=>exact jt (Nat.eq_of_beq_eq_true e) h
 simp[lk,this]
def ev(s:AF):Operand->Option Value
 | .tmp t=>lk s t
 | .const v=>some v
 | .global g=>some (.pt g)
 | .func f=>some (.func (.func f) #[] #[])
def Q6(s:AF):List Operand->Option (List Value)
 | []=>some []
 | x::l=>match ev s x with
  | none=>none
  | some v=>match Q6 s l with
   | none=>none
   | some vs=>some (v::vs)
def ZA(s:AF):List (Nat×Operand)->Option (List (Nat×Value))
 | []=>some []
 | x::l=>match ev s x.2 with
  | none=>none
  | some v=>match ZA s l with
   | none=>none
   | some vs=>some ((x.1,v)::vs)
abbrev mkD(ds:List Nat):List Deferred:=ds.map λD=>{ target:=.collected D,args:=#[] }
structure Has(n:Nat)(ds:List Nat)(a:Act)(s:AF):Prop where
 defers:a.defers=mkD ds
 size:a.tmps.size=n
 slots:∀i v,lk s i=some v->a.tmps[i]?=some v
theorem Has.eval{s:AF}(H:Has n ds a s)(x:Operand)(v:Value)(h:ev s x=some v):a.eval x=v:=by
 cases x with
 | tmp t=>
  have:=H.slots t v h;simp only[Act.eval];rw[am,this];rfl
 | const u=>cases h;rfl
 | global g=>cases h;rfl
 | func f=>cases h;rfl
theorem Has.put{s:AF}(H:Has n ds a s)(hd:d<n)(v:Value):Has n ds (a.put (some d) v) ((d,v)::s):=by
 refine⟨H.defers,by simp[Act.put,H.size],λi u h=>?_⟩;by_cases hi:d=i
 ·subst hi;rw[BL]at h;cases h;simp[Act.put,H.size,hd]
 ·rw[BF _ _ hi]at h;simp[Act.put,cw hi,H.slots i u h]
theorem Has.put_none{s:AF}(H:Has n ds a s)(v:Value):Has n ds (a.put none v) s:=⟨H.defers,H.size,H.slots⟩
def Sub:AF->AF->Prop
 | [],_=>True
 | (i,v)::r,s=>lk s i=some v/\Sub r s
theorem Sub.lk{s' s:AF}(h:Sub s' s):∀i v,Eng.lk s' i=some v->Eng.lk s i=some v:=by
 induction s' with
 | nil=>intro i v e;cases e
 | cons p r ih=>
  obtain⟨j,u⟩:=p;intro i v e;by_cases hi:j=i
  ·subst hi;rw[BL]at e;cases e;exact h.1
  ·rw[BF _ _ hi]at e;exact ih h.2 i v e
theorem Has.sub{s s':AF}(H:Has n ds a s)(h:Sub s' s):Has n ds a s':=
 ⟨H.defers,H.size,λi v e=>H.slots i v (h.lk i v e)⟩
structure Entry where
 P:Program
 w0:World
 h0:Hp
 ms0:List Hp
 n:Nat
 ds:List Nat
abbrev Entry.Ends(e:Entry)(w:World)(h:Hp)(ms:List Hp):Prop:=Eng.Ends e.w0 e.h0 e.ms0 w h ms
def WS(e:Entry)(c:Code)(Q:Exit->Act->World->Prop)(s:AF)(h:Hp)(ms:List Hp):Prop:=
 ∀a w,Has e.n e.ds a s->e.Ends w h ms->c.wp e.P Q a w
def WL(e:Entry)(ops:Array Oper)(Q:Exit->Act->World->Prop)(l:List Oper)(s:AF)(h:Hp)(ms:List Hp):Prop:=
 ∀a w,Has e.n e.ds a s->e.Ends w h ms->wpList e.P ops Q l a w
def NX(e:Entry)(Q:Exit->Act->World->Prop)(x:Exit)(s:AF)(h:Hp)(ms:List Hp):Prop:=
 ∀a w,Has e.n e.ds a s->e.Ends w h ms->Q x a w
def Inv(e:Entry)(I:AF->Hp->List Hp->Prop)(a:Act)(w:World):Prop:=∃s h ms,I s h ms/\Has e.n e.ds a s/\e.Ends w h ms
section rules
variable {e:Entry} {Q:Exit->Act->World->Prop} {s s':AF} {h:Hp} {ms:List Hp} {ops:Array Oper}
theorem AbP(hs:Sub s' s)(k:WL e ops Q l s' h ms):WL e ops Q l s h ms:=λa w ha hw=>k a w (ha.sub hs) hw
theorem SU{m:Hp}(k:WS e c Q s h ms):WS e c Q s h (m::ms):=λa w ha hw=>k a w ha (Ends.drop hw)
theorem Jk(p:ms.Perm ms')(k:WS e c Q s h ms'):WS e c Q s h ms:=λa w ha hw=>k a w ha (Ends.perm hw p)
theorem SY(p:ms.Perm ms')(k:WL e ops Q l s h ms'):WL e ops Q l s h ms:=λa w ha hw=>k a w ha (Ends.perm hw p)
theorem AX{x:Exit}{m:Hp}(k:NX e Q x s h ms):NX e Q x s h (m::ms):=λa w ha hw=>k a w ha (Ends.drop hw)
theorem JD{x:Exit}(p:ms.Perm ms')(k:NX e Q x s h ms'):NX e Q x s h ms:=λa w ha hw=>k a w ha (Ends.perm hw p)
theorem Ab(k:WL e l.toArray Q l s h ms):WS e (.region id l.toArray false) Q s h ms:=
 λa w ha hw=>wp_region_lit (k a w ha hw)
theorem Ak(k:NX e Q .normal s h ms):WL e ops Q [] s h ms:=λa w ha hw=>k a w ha hw
theorem Ac(k:WS e x (Exit.then (λa w=>y.wp e.P Q a w) Q) s h ms):WS e (.seq x y) Q s h ms:=
 λa w ha hw=>wp_seq (k a w ha hw)
theorem Ag(k:WS e c (Exit.inBlock id Q) s h ms):WS e (.block id c) Q s h ms:=
 λa w ha hw=>wp_block (k a w ha hw)
theorem Av(k:NX e Q (.exit id) s h ms):WS e (.exit id) Q s h ms:=λa w ha hw=>wp_exit (k a w ha hw)
theorem An(k:NX e Q .ret s h ms):WS e .ret Q s h ms:=λa w ha hw=>wp_ret (k a w ha hw)
theorem Ah(k:NX e Q .normal s h ms):WS e .skip Q s h ms:=λa w ha hw=>wp_skip (k a w ha hw)
theorem XH{l:Nat}(k:NX e Q .normal s h ms):WS e (.label l) Q s h ms:=λa w ha hw=>wp_label (k a w ha hw)
theorem Ad(k:WS e y Q s h ms):NX e (Exit.then (λa w=>y.wp e.P Q a w) Q) .normal s h ms:=λa w ha hw=>k a w ha hw
theorem Aa(k:NX e Q (.exit id) s h ms):NX e (Exit.then K Q) (.exit id) s h ms:=λa w ha hw=>k a w ha hw
theorem Ae(k:NX e Q .ret s h ms):NX e (Exit.then K Q) .ret s h ms:=λa w ha hw=>k a w ha hw
theorem Ai(k:NX e Q .normal s h ms):NX e (Exit.inBlock id Q) .normal s h ms:=λa w ha hw=>k a w ha hw
theorem Aj(k:NX e Q .ret s h ms):NX e (Exit.inBlock id Q) .ret s h ms:=λa w ha hw=>k a w ha hw
theorem Af(k:NX e Q .normal s h ms):NX e (Exit.inBlock id Q) (.exit id) s h ms:=λa w ha hw=>by simp only[Exit.inBlock,im];exact k a w ha hw
theorem EE{id':Nat}(hne:Nat.beq id' id=false)(k:NX e Q (.exit id') s h ms):NX e (Exit.inBlock id Q) (.exit id') s h ms:=λa w ha hw=>by
 have:id'≠id:=λhe=>by subst he;rw[Nat.beq_refl]at hne;cases hne
 simp only[Exit.inBlock,this,i8];exact k a w ha hw
theorem A5(hc:lk s t=some (.bool true))(k:WS e x Q s h ms):WS e (.cond (.tmp t) x y) Q s h ms:=
 λa w ha hw=>wp_cond_true (ha.eval (.tmp t) _ hc) (k a w ha hw)
theorem AQ(hc:lk s t=some (.bool false))(k:WS e y Q s h ms):WS e (.cond (.tmp t) x y) Q s h ms:=
 λa w ha hw=>wp_cond_false (ha.eval (.tmp t) _ hc) (k a w ha hw)
theorem BG(hc:lk s t=some (.bool b))(kt:b=true->WS e x Q s h ms)(kf:b=false->WS e y Q s h ms) :
  WS e (.cond (.tmp t) x y) Q s h ms:=
 λa w ha hw=>wp_cond_split (ha.eval (.tmp t) _ hc) (λhb=>kt hb a w ha hw) (λhb=>kf hb a w ha hw)
theorem Ao{p:Prop}{_:Decidable p}(hc:lk s t=some (.bool (decide p)))(kt:p->WS e x Q s h ms)(kf:¬p->WS e y Q s h ms) :
  WS e (.cond (.tmp t) x y) Q s h ms:=
 BG hc (λhb=>kt (bz hb)) (λhb=>kf (of_decide_eq_false hb))
theorem Ay(I:Nat->AF->Hp->List Hp->Prop)(n:Nat)(s':AF)(hI:I n s' h ms)(hs:Sub s' s)
  (round:∀n s h ms,I n s h ms->WS e c (Exit.then (λa w=>∃n',n'<n/\Inv e (I n') a w) Q) s h ms):WS e (.loop c) Q s h ms:=by
 intro a w ha hw b k cs
 have key:∀n a w,Inv e (I n) a w->∃x a' w',Q x a' w'/\Arrives e.P (lone (b.at a (.code c::.inLoop c::k)) cs w) b k cs x a' w':=by
  intro n
  induction n using Nat.strongRecOn with
  | _ n ih=>
   intro a w ⟨s,h,ms,hI,ha,hw⟩;obtain⟨x,a₁,w₁,hq,harr⟩:=round n s h ms hI a w ha hw b (.inLoop c::k) cs;cases x with
   | normal=>
    obtain⟨n',hlt,hinv⟩:=hq;obtain⟨x₂,a₂,w₂,hq₂,harr₂⟩:=ih n' hlt a₁ w₁ hinv;exact⟨x₂,a₂,w₂,hq₂,.of_steps (Steps.trans harr (.one step_inLoop)) harr₂⟩
   | exit id=>exact⟨_,a₁,w₁,hq,.pass (x:=.inLoop c) Y (λ_ _=>.inl σ) harr⟩
   | goto l=>exact⟨_,a₁,w₁,hq,.pass (x:=.inLoop c) Y (λ_ _=>.inl σ) harr⟩
   | ret=>exact⟨_,a₁,w₁,hq,.pass (x:=.inLoop c) Y (λ_ _=>.inl σ) harr⟩
   | panic ch=>exact⟨_,a₁,w₁,hq,.pass (x:=.inLoop c) Y (λ_ _=>.inl σ) harr⟩
   | outgrown=>exact⟨_,a₁,w₁,hq,.pass (x:=.inLoop c) Y (λ_ _=>.inl σ) harr⟩
 obtain⟨x,a',w',hq,harr⟩:=key n a w ⟨s',h,ms,hI,ha.sub hs,hw⟩;exact⟨x,a',w',hq,.of_steps (.one step_loop) harr⟩
theorem Al{I:Nat->AF->Hp->List Hp->Prop}(n':Nat)(s':AF)(hlt:n'<n)(hI:I n' s' h ms)(hs:Sub s' s) :
  NX e (Exit.then (λa w=>∃n',n'<n/\Inv e (I n') a w) Q) .normal s h ms:=
 λ_ _ ha hw=>⟨n',hlt,s',h,ms,hI,ha.sub hs,hw⟩
theorem Bg(I:AF->Hp->List Hp->Prop)(k:WS e x (Exit.then (Inv e I) Q) s h ms)(k':∀s h ms,I s h ms->WS e y Q s h ms) :
  WS e (.seq x y) Q s h ms:=
 λa w ha hw=>wp_seq (Code.wp_mono (λx a w q=>by
  cases x with
  | normal=>obtain⟨s,h,ms,hI,ha,hw⟩:=q;exact k' s h ms hI a w ha hw
  | _=>exact q) (k a w ha hw))
theorem Az{I:AF->Hp->List Hp->Prop}(s':AF)(hI:I s' h ms)(hs:Sub s' s):NX e (Exit.then (Inv e I) Q) .normal s h ms:=
 λ_ _ ha hw=>⟨s',h,ms,hI,ha.sub hs,hw⟩
end rules
def RP(w0:World)(h0:Hp)(ms0:List Hp)(post:Value->Hp->List Hp->Prop):Ending->World->Prop:=
 λx w'=>∃r h' ms',x=.returned r/\Ends w0 h0 ms0 w' h' ms'/\post r h' ms'
def FnT(P:Program)(f:FuncId)(args:Array Value)(h:Hp)(ms:List Hp)(post:Value->Hp->List Hp->Prop):Prop:=
 ∀w,St w h ms->Calls P f args w (RP w h ms post)
def FnV(P:Program)(f:FuncId)(args:Array Value)(h:Hp)(ms:List Hp)(v:Value):Prop:=
 ∀w,St w h ms->Calls P f args w (λx w'=>x=.returned v/\Ext w w')
theorem FnT.mono{h:Hp}{ms:List Hp}{post':Value->Hp->List Hp->Prop}(k:FnT P f args h ms post)
  (hp:∀r h' ms',post r h' ms'->post' r h' ms'):FnT P f args h ms post':=
 λw hw=>(k w hw).mono λ_ _ ⟨r,h',ms',e1,e2,e3⟩=>⟨r,h',ms',e1,e2,hp _ _ _ e3⟩
theorem Ends.toExt{w w':World}{h h':Hp}(H:Ends w h [] w' h' ms'):Ext w w':=
 ⟨H.os,H.tape,H.output,H.size,λk hk=>H.block k hk σ⟩
theorem FnT.toV{h:Hp}(k:FnT P f args h [] (λr _ _=>r=v)):FnV P f args h [] v:=
 λw hw=>(k w hw).mono λ_ _ ⟨_,_,_,e1,e2,e3⟩=>⟨by rw[e1,e3],e2.toExt⟩
theorem FnV.weaken{h h1:Hp}{ms:List Hp}(k:FnV P f args h [] v)(hl:h.le h1):FnV P f args h1 ms v:=
 λw hw=>k w ⟨λg o e=>hw.imm g o (hl g o e),by simp,by simp,List.Pairwise.nil⟩
def A6:Nat->List Value->AF
 | _,[]=>[]
 | i,v::l=>(i,v)::A6 (i+1) l
theorem Sx(l:List Value):∀k i v,lk (A6 k l) i=some v->k<=i/\l[i-k]?=some v:=by
 induction l with
 | nil=>intro k i v e;cases e
 | cons x l ih=>
  intro k i v e;by_cases hi:k=i
  ·subst hi;rw[A6,BL]at e;cases e;simp
  ·rw[A6,BF _ _ hi]at e;obtain⟨h1,h2⟩:=ih (k+1) i v e;refine⟨ω,?_⟩;rw[show i-k=(i-(k+1))+1 by omega];simpa using h2
theorem Au{l:List Value}{h:Hp}{ms:List Hp}
  (hf:P.funcs[f]?=some fn) (hn:fn.ntmps=n) (hb:fn.body=some c) (hl:Nat.ble l.length n=true)
  (k:∀w0,St w0 h ms->WS ⟨P,w0,h,ms,n,[]⟩ c (bodyPost P fn (RP w0 h ms post)) (A6 0 l) h ms):FnT P f l.toArray h ms post:=by
 intro w hw;refine calls_of_wp hf hb (k w hw _ w ?_ (Ends.refl hw));have hl':=dd hl;refine⟨Y,by simp[hn];omega,λi v e=>?_⟩;obtain⟨_,h2⟩:=Sx l 0 i v e
 have hi:i<l.length:=by
  rcases eh i l.length with h'|h'
  ·exact h'
  ·rw[cu ω]at h2;cases h2
 simp only[Nat.sub_zero]at h2;rw[jo (by simpa using hi)];simpa using h2
theorem Ap{s:AF}{h:Hp}{ms:List Hp}(hr:fn.results=#[.tmp t])(hv:lk s t=some v)(hp:post v h ms) :
  NX ⟨P,w0,h0,ms0,n,[]⟩ (bodyPost P fn (RP w0 h0 ms0 post)) .ret s h ms:=λa w ha hw=>
 bodyPost_ret (results_tmp hr _ _ _) ha.defers ⟨_,h,ms,rfl,hw,by
  have:=ha.eval (.tmp t) v hv;simp only[Act.eval]at this
  rw[this];exact hp⟩
theorem BE{s:AF}{h:Hp}{ms:List Hp}{u:Nat}{v':Value}(hr:fn.results=#[.tmp t,.tmp u])(hv:lk s t=some v)(hv':lk s u=some v')(hp:post (.tuple #[v,v']) h ms) :
  NX ⟨P,w0,h0,ms0,n,[]⟩ (bodyPost P fn (RP w0 h0 ms0 post)) .ret s h ms:=λa w ha hw=>
 bodyPost_ret (results_tmp2 hr _ _ _) ha.defers ⟨_,h,ms,rfl,hw,by
  have h1:=ha.eval (.tmp t) v hv;have h2:=ha.eval (.tmp u) v' hv';simp only[Act.eval]at h1 h2
  rw[h1,h2];exact hp⟩
theorem Cq{s:AF}{h:Hp}{ms:List Hp}(hr:fn.results=#[])(hp:post (.tuple #[]) h ms) :
  NX ⟨P,w0,h0,ms0,n,[]⟩ (bodyPost P fn (RP w0 h0 ms0 post)) .normal s h ms:=λa w ha hw=>
 bodyPost_end (results_none hr _ _ _) ha.defers ⟨_,h,ms,rfl,hw,hp⟩
theorem F6{s:AF}{h:Hp}{ms:List Hp}(hr:fn.results=#[])(hp:post (.tuple #[]) h ms) :
  NX ⟨P,w0,h0,ms0,n,[]⟩ (bodyPost P fn (RP w0 h0 ms0 post)) .ret s h ms:=λa w ha hw=>
 bodyPost_ret (results_none hr _ _ _) ha.defers ⟨_,h,ms,rfl,hw,hp⟩
def OpRes(P:Program)(o:Oper)(ρ:Operand->Value)(w:World)(Φ:Value->World->Prop):Prop:=
 match (execOp ρ o).run P w with
 | .ok (.value v) w'=>Φ v w'
 | .ok .skip w'=>Φ undef w'
 | .ok (.enter f args) w'=>Calls P f args w' (λx w''=>∃v,x=.returned v/\Φ v w'')
 | _=>False
theorem OpRes.wp{o:Oper}{w:World}{Φ:Value->World->Prop}{Q:Exit->Act->World->Prop}
  (h:OpRes P o a.eval w Φ) (k:∀v w',Φ v w'->K (a.put o.dst v) w'):o.wp P a w K Q:=by
 unfold OpRes at h;unfold Oper.wp;generalize (execOp a.eval o).run P w=r at *;cases r with
 | ok x w'=>
  cases x<;>simp only at h<;>simp only[Oper.upon]
  case value v=>exact k _ _ h
  case skip=>exact k _ _ h
  case enter f args=>exact h.mono λx w'' ⟨v,e,hv⟩=>by subst e;exact k _ _ hv
 | halt x w'=>exact h.elim
def Evs(s:AF)(ρ:Operand->Value):Prop:=∀x u,ev s x=some u->ρ x=u
theorem Evs.map{s:AF}{ρ:Operand->Value}(H:Evs s ρ):∀(l:List Operand) (vs:List Value),Q6 s l=some vs->l.map ρ=vs
 | [],vs,h=>by cases h;rfl
 | x::l,vs,h=>by
  unfold Q6 at h;cases hx:ev s x with
  | none=>rw[hx]at h;cases h
  | some v=>
   rw[hx]at h;cases hl:Q6 s l with
   | none=>rw[hl]at h;cases h
   | some us=>rw[hl]at h;cases h;rw[fl,H _ _ hx,H.map l us hl]
theorem Evs.pairs{s:AF}{ρ:Operand->Value}(H:Evs s ρ):∀(l:List (Nat×Operand)) (vs:List (Nat×Value)),ZA s l=some vs->(l.map λ(i,x)=>(i,ρ x))=vs
 | [],vs,h=>by cases h;rfl
 | x::l,vs,h=>by
  unfold ZA at h;cases hx:ev s x.2 with
  | none=>rw[hx]at h;cases h
  | some v=>
   rw[hx]at h;cases hl:ZA s l with
   | none=>rw[hl]at h;cases h
   | some us=>rw[hl]at h;cases h;rw[fl,H.pairs l us hl];simp[H _ _ hx]
def OX(P:Program)(o:Oper)(s:AF)(h:Hp)(ms:List Hp)(v:Value):Prop:=
 ∀ρ w,Evs s ρ->St w h ms->OpRes P o ρ w (λv' w'=>v'=v/\Ext w w')
def OT(e:Entry)(o:Oper)(s:AF)(h:Hp)(ms:List Hp)(post:Value->Hp->List Hp->Prop):Prop:=
 ∀ρ w,Evs s ρ->e.Ends w h ms->OpRes e.P o ρ w (λv w'=>∃h' ms',e.Ends w' h' ms'/\post v h' ms')
section
variable {e:Entry} {Q:Exit->Act->World->Prop} {s:AF} {h:Hp} {ms:List Hp} {ops:Array Oper} {o:Oper} {rest:List Oper}
theorem Lj(hg:o.guard=none)(k:∀a w,Has e.n e.ds a s->e.Ends w h ms->o.wp e.P a w (wpList e.P ops Q rest) Q):WL e ops Q (o::rest) s h ms:=
 λa w ha hw=>by unfold wpList;rw[ac (by simp[Region.wanted,hg])];exact .inl (k a w ha hw)
theorem Ack(hx:OX e.P o s h ms v)(hd:o.dst=some d)(hn:Nat.blt d e.n=true)(hg:o.guard=none)(k:WL e ops Q rest ((d,v)::s) h ms) :
  WL e ops Q (o::rest) s h ms:=
 Lj hg λa w ha hw=>(hx a.eval w ha.eval hw.st).wp λv' w' ⟨e1,e2⟩=>by subst e1;rw[hd];exact k _ _ (ha.put (dd hn) _) (hw.ext e2)
theorem Ix(hx:OT e o s h ms post)(hd:o.dst=some d)(hn:Nat.blt d e.n=true)(hg:o.guard=none)
  (k:∀v h' ms',post v h' ms'->WL e ops Q rest ((d,v)::s) h' ms'):WL e ops Q (o::rest) s h ms:=
 Lj hg λa w ha hw=>(hx a.eval w ha.eval hw).wp λv' w' ⟨h',ms',e1,e2⟩=>by rw[hd];exact k _ _ _ e2 _ _ (ha.put (dd hn) _) e1
theorem Lo(hx:OT e o s h ms post)(hd:o.dst=none)(hg:o.guard=none)
  (k:∀v h' ms',post v h' ms'->WL e ops Q rest s h' ms'):WL e ops Q (o::rest) s h ms:=
 Lj hg λa w ha hw=>(hx a.eval w ha.eval hw).wp λv' w' ⟨h',ms',e1,e2⟩=>by rw[hd];exact k _ _ _ e2 _ _ (ha.put_none _) e1
theorem Has.yields(ha:Has n ds a s)(hj:ops[j]?=some oj)(hd:oj.dst=some dj)(hv:lk s dj=some (.bool b)):yielded ops a.tmps j=some b:=by simp[yielded,hj,hd,ha.slots dj _ hv]
theorem Aam(hx:OX e.P o s h ms v)(hd:o.dst=some d)(hn:Nat.blt d e.n=true)(hg:o.guard=some (j,b))(hj:ops[j]?=some oj)(hdj:oj.dst=some dj)(hv:lk s dj=some (.bool b))
  (k:WL e ops Q rest ((d,v)::s) h ms):WL e ops Q (o::rest) s h ms:=λa w ha hw=>by
 unfold wpList;rw[ac (by simp[Region.wanted,hg,ha.yields hj hdj hv])]
 exact .inl ((hx a.eval w ha.eval hw.st).wp λv' w' ⟨e1,e2⟩=>by
  subst e1;rw[hd]
  exact k _ _ (ha.put (dd hn) _) (hw.ext e2))
theorem YR{b':Bool}(hd:o.dst=some d)(hn:Nat.blt d e.n=true)(hg:o.guard=some (j,b))(hj:ops[j]?=some oj)(hdj:oj.dst=some dj)(hv:lk s dj=some (.bool b'))(hne:(b'==b)=false)
  (k:WL e ops Q rest ((d,undef)::s) h ms):WL e ops Q (o::rest) s h ms:=λa w ha hw=>by
 unfold wpList;rw[aa (by simp[Region.wanted,hg,ha.yields hj hdj hv];simpa using hne),hd];exact k _ _ (ha.put (dd hn) _) hw
theorem Has.yieldsu(ha:Has n ds a s)(hj:ops[j]?=some oj)(hd:oj.dst=some dj)(hv:lk s dj=some undef):yielded ops a.tmps j=none:=by simp[yielded,hj,hd,ha.slots dj _ hv,undef]
theorem A3(hd:o.dst=some d)(hn:Nat.blt d e.n=true)(hg:o.guard=some (j,b))(hj:ops[j]?=some oj)(hdj:oj.dst=some dj)(hv:lk s dj=some undef)
  (k:WL e ops Q rest ((d,undef)::s) h ms):WL e ops Q (o::rest) s h ms:=λa w ha hw=>by
 unfold wpList;rw[aa (by simp[Region.wanted,hg,ha.yieldsu hj hdj hv]),hd];exact k _ _ (ha.put (dd hn) _) hw
theorem AL{p:Prop}{_:Decidable p}(hc:lk s t=some (.bool (decide p)))(kt:p->WL e ops Q l ((t,.bool true)::s) h ms)(kf:¬p->WL e ops Q l ((t,.bool false)::s) h ms):WL e ops Q l s h ms:=by
 by_cases hp:p
 ·refine λa w ha hw=>kt hp a w ⟨ha.defers,ha.size,λi v hi=>?_⟩ hw;by_cases hi':t=i
  ·subst hi';rw[BL]at hi;cases hi;rw[ha.slots t _ hc];simp[hp]
  ·rw[BF _ _ hi']at hi;exact ha.slots i v hi
 ·refine λa w ha hw=>kf hp a w ⟨ha.defers,ha.size,λi v hi=>?_⟩ hw;by_cases hi':t=i
  ·subst hi';rw[BL]at hi;cases hi;rw[ha.slots t _ hc];simp[hp]
  ·rw[BF _ _ hi']at hi;exact ha.slots i v hi
theorem FG(hc:lk s t=some (.bool b))(kt:b=true->WL e ops Q l ((t,.bool true)::s) h ms)(kf:b=false->WL e ops Q l ((t,.bool false)::s) h ms):WL e ops Q l s h ms:=by
 have e1:decide (b=true)=b:=by cases b<;>rfl
 exact AL (p:=b=true) (by rw[hc,e1]) kt (λhb=>kf (by simpa using hb))
end
end Go.Eng
namespace Go.Eng
open Go.RowKit
variable {v:Value} {vs cs:List Value} {ts:Array TypeId} {f:FuncId} {l:List Operand} {d:TypeDesc} {e:Entry} {post:Value->Hp->List Hp->Prop} {pre fr:List Hp} {g i:Nat} {fs:Array Field} {Q:Exit->Act->World->Prop} {ops:Array Oper} {rest:List Oper}
def Iz:TypeDesc->Bool
 | .struct _|.array _ _=>true
 | _=>false
theorem En{P:Program}{t:TypeId}(h:P.underlying t=some d)(w:World):(isAgg t).run P w=.ok (Iz d) w:=by simp only[isAgg,Sem.run_bind,run_underlying h,Result.andThen_ok];cases d<;>rfl
def Cell(h:Hp)(ms:List Hp)(p:Addr)(v:Value):Prop:=
 p.spot=none/\∃cs el fr,(h p.block=some (.cells cs el fr)\/∃m∈ms,m p.block=some (.cells cs el fr))/\cs[p.off]?=some v
def Seg(h:Hp)(ms:List Hp)(p:Addr)(vs:List Value):Prop:=∀j v,vs[j]?=some v->Cell h ms (p.add j) v
def Bh(g:Nat)(el:TypeId)(l:List Value):Hp:=Hp.one g (.cells l.toArray el (0,0))
theorem St.cell{w:World}{h:Hp}{ms:List Hp}(s:St w h ms){p:Addr}(c:Cell h ms p v):w.cell? p=some v:=by
 obtain⟨hs,cs,el,fr,hm,hv⟩:=c
 have hb:w.heap[p.block]?=some (.cells cs el fr):=by
  rcases hm with hm|⟨m,hm,e⟩
  ·exact s.imm _ _ hm
  ·exact s.own m hm _ _ e
 simp[World.cell?,hb,hs,hv]
theorem Cell.le{h h':Hp}{ms:List Hp}{p:Addr}(c:Cell h ms p v)(l:h.le h'):Cell h' ms p v:=
 let ⟨hs,cs,el,fr,hm,hv⟩:=c
 ⟨hs,cs,el,fr,hm.imp (l _ _) id,hv⟩
theorem Cell.sub{h:Hp}{ms ms':List Hp}{p:Addr}(c:Cell h ms p v)(l:∀m∈ms,m∈ms'):Cell h ms' p v:=
 let ⟨hs,cs,el,fr,hm,hv⟩:=c
 ⟨hs,cs,el,fr,hm.imp id (λ⟨m,e1,e2⟩=>⟨m,l m e1,e2⟩),hv⟩
theorem Seg.le{h h':Hp}{ms:List Hp}{p:Addr}(c:Seg h ms p vs)(l:h.le h'):Seg h' ms p vs:=λj v e=>(c j v e).le l
theorem Seg.sub{h:Hp}{ms ms':List Hp}{p:Addr}(c:Seg h ms p vs)(l:∀m∈ms,m∈ms'):Seg h ms' p vs:=λj v e=>(c j v e).sub l
theorem Cell.any{h:Hp}{ms:List Hp}{p:Addr}(c:Cell h [] p v):Cell h ms p v:=c.sub σ
theorem Seg.any{h:Hp}{ms:List Hp}{p:Addr}(c:Seg h [] p vs):Seg h ms p vs:=c.sub σ
theorem B9(p:Addr)(i j:Nat):(p.add i).add j=p.add (i+j):=by unfold Addr.add;by_cases hi:i=0<;>by_cases hj:j=0<;>simp[hi,hj,Nat.add_assoc]
theorem E4(p:Addr):p.add 0=p:=by simp[Addr.add]
theorem Dn(p:Addr)(i:Nat):(p.add i).block=p.block:=by unfold Addr.add;split<;>rfl
theorem DY(p:Addr)(i:Nat):(p.add i).off=p.off+i:=by unfold Addr.add;split<;>simp_all
theorem Cell.blk{h:Hp}{ms:List Hp}{el:TypeId}{l:List Value}(i:Nat)(hm:ms[i]?=some (Bh g el l)){k:Nat}(hv:l[k]?=some v):Cell h ms ((⟨g,0,none⟩:Addr).add k) v:=by
 refine⟨by unfold Addr.add;split<;>rfl,l.toArray,el,(0,0),.inr ⟨_,du hm,?_⟩,?_⟩
 ·rw[Dn];exact Hp.one_self _ _
 ·rw[DY];simpa using hv
theorem Cell.blk0{h:Hp}{ms:List Hp}{el:TypeId}{l:List Value}(i:Nat)(hm:ms[i]?=some (Bh g el l))(hv:l[0]?=some v):Cell h ms ⟨g,0,none⟩ v:=by
 have:=Cell.blk (h:=h) i hm (k:=0) hv
 rwa [E4]at this
theorem Seg.blk{h:Hp}{ms:List Hp}{el:TypeId}{l:List Value}(i:Nat)(hm:ms[i]?=some (Bh g el l)):Seg h ms ⟨g,0,none⟩ l:=λ_ _ e=>Cell.blk i hm e
theorem Seg.at0{h:Hp}{ms:List Hp}{p:Addr}(c:Seg h ms p vs)(e:vs[0]?=some v):Cell h ms p v:=by have:=c 0 v e;rwa [E4]at this
structure Elem(P:Program)(el:TypeId)(sz:Nat)(z:Value)(bytes:Nat):Prop where
 info:∃i,P.info? el=some i/\i.zero=some z/\i.size=sz/\i.bytes=bytes
theorem Elem.of{P:Program}{el:TypeId}{sz:Nat}{z:Value}{bytes:Nat}(h:(P.info? el).map (λi=>(i.zero,i.size,i.bytes))=some (some z,sz,bytes)):Elem P el sz z bytes:=by
 cases e:P.info? el with
 | none=>rw[e]at h;cases h
 | some i=>rw[e]at h;simp at h;exact⟨i,e ▸ Y,h.1,h.2.1,h.2.2⟩
theorem Elem.sizeOf{P:Program}{el:TypeId}{sz:Nat}{z:Value}{bytes:Nat}(E:Elem P el sz z bytes)(w:World):(Go.sizeOf el).run P w=.ok sz w:=by obtain⟨i,h1,h2,h3,h4⟩:=E.info;simp[Go.sizeOf,typeInfo,h1,h3]
theorem Elem.zeroValue{P:Program}{el:TypeId}{sz:Nat}{z:Value}{bytes:Nat}(E:Elem P el sz z bytes)(w:World):(Go.zeroValue el).run P w=.ok z w:=by obtain⟨i,h1,h2,h3,h4⟩:=E.info;simp[Go.zeroValue,typeInfo,h1,h2]
section
variable {P:Program} {o:Oper} {s:AF} {h:Hp} {ms:List Hp}
theorem BJ(k:∀ρ w,Evs s ρ->St w h ms->(execOp ρ o).run P w=.ok (.value v) w):OX P o s h ms v:=λρ w hρ hw=>by unfold OpRes;rw[k ρ w hρ hw];exact⟨Y,Ext.refl _⟩
theorem Ar{x:Operand}(ho:o.op=.move x)(hx:ev s x=some v):OX P o s h ms v:=
 BJ λρ w hρ _=>by simp[execOp,ho,hρ _ _ hx]
theorem GD{x:Operand}(ho:o.op=.assign x)(hx:ev s x=some v):OX P o s h ms v:=
 BJ λρ w hρ _=>by simp[execOp,ho,hρ _ _ hx]
theorem Cp{c x y:Operand}(ho:o.op=.pick c x y)(hc:ev s c=some (.bool true))(hx:ev s x=some v):OX P o s h ms v:=
 BJ λρ w hρ _=>by simp[execOp,ho,hρ _ _ hc,hρ _ _ hx,asBool]
theorem Ch{c x y:Operand}(ho:o.op=.pick c x y)(hc:ev s c=some (.bool false))(hx:ev s y=some v):OX P o s h ms v:=
 BJ λρ w hρ _=>by simp[execOp,ho,hρ _ _ hc,hρ _ _ hx,asBool]
theorem BX{x:Operand}{vs:Array Value}(ho:o.op=.extract x i)(hx:ev s x=some (.tuple vs))(hv:vs[i]?=some v):OX P o s h ms v:=
 BJ λρ w hρ _=>by simp[execOp,ho,hρ _ _ hx,Instr.extract,hv]
section
variable {t u:TypeId} {x y:Operand} {k:IntKind} {a b:Int}
theorem Yv(ho:o.op=.binOp .add t x y u)(hx:ev s x=some (.int k a))(hy:ev s y=some (.int k b)):OX P o s h ms (.int k (k.wrap (a+b))):=
 BJ λρ w hρ _=>by simp[execOp,ho,hρ _ _ hx,hρ _ _ hy,go_sem]
theorem Y7(ho:o.op=.binOp .sub t x y u)(hx:ev s x=some (.int k a))(hy:ev s y=some (.int k b)):OX P o s h ms (.int k (k.wrap (a-b))):=
 BJ λρ w hρ _=>by simp[execOp,ho,hρ _ _ hx,hρ _ _ hy,go_sem]
theorem Yp(ho:o.op=.binOp .mul t x y u)(hx:ev s x=some (.int k a))(hy:ev s y=some (.int k b)):OX P o s h ms (.int k (k.wrap (a*b))):=
 BJ λρ w hρ _=>by simp[execOp,ho,hρ _ _ hx,hρ _ _ hy,go_sem]
theorem Dm{n:Int}(hn:-9223372036854775808<=n/\n<=9223372036854775807):IntKind.i64.wrap n=n:=IntWalk.i64_in n hn
theorem Abv(ho:o.op=.binOp .add t x y u)(hx:ev s x=some (.int .i64 a))(hy:ev s y=some (.int .i64 b))(hr:-9223372036854775808<=a+b/\a+b<=9223372036854775807):OX P o s h ms (.int .i64 (a+b)):=by have:=Yv (P:=P) (h:=h) (ms:=ms) ho hx hy;rwa [Dm hr]at this
theorem Abe(ho:o.op=.binOp .sub t x y u)(hx:ev s x=some (.int .i64 a))(hy:ev s y=some (.int .i64 b))(hr:-9223372036854775808<=a-b/\a-b<=9223372036854775807):OX P o s h ms (.int .i64 (a-b)):=by have:=Y7 (P:=P) (h:=h) (ms:=ms) ho hx hy;rwa [Dm hr]at this
theorem Abq(ho:o.op=.binOp .mul t x y u)(hx:ev s x=some (.int .i64 a))(hy:ev s y=some (.int .i64 b))(hr:-9223372036854775808<=a*b/\a*b<=9223372036854775807):OX P o s h ms (.int .i64 (a*b)):=by have:=Yp (P:=P) (h:=h) (ms:=ms) ho hx hy;rwa [Dm hr]at this
theorem NQ(ho:o.op=.binOp .quo t x y u)(hx:ev s x=some (.int k a))(hy:ev s y=some (.int k b))(hb:b≠0):OX P o s h ms (.int k (k.wrap (a.tdiv b))):=
 BJ λρ w hρ _=>by simp[execOp,ho,hρ _ _ hx,hρ _ _ hy,go_sem,hb]
theorem Rp{a b:Int}(ha:-9223372036854775808<=a/\a<=9223372036854775807)(hb:1<=b):-9223372036854775808<=a.tdiv b/\a.tdiv b<=9223372036854775807:=by
 rcases Int.lt_or_le a 0 with h0|h0
 ·have e:a.tdiv b=-((-a)/b):=by rw[tdiv_eq_if];simp[Int.not_le.2 h0]
  have h1:(-a)/b<=-a:=Int.ediv_le_self _ ω;have h2:0<=(-a)/b:=Int.ediv_nonneg ω ω;omega
 ·have e:a.tdiv b=a/b:=by rw[tdiv_eq_if];simp[h0]
  have h1:a/b<=a:=Int.ediv_le_self _ h0;have h2:0<=a/b:=Int.ediv_nonneg h0 ω;omega
theorem Abt(ho:o.op=.binOp .quo t x y u)(hx:ev s x=some (.int .i64 a))(hy:ev s y=some (.int .i64 b))(ha:-9223372036854775808<=a/\a<=9223372036854775807)(hb:1<=b):OX P o s h ms (.int .i64 (a.tdiv b)):=by have:=NQ (P:=P) (h:=h) (ms:=ms) ho hx hy ω;rwa [Dm (Rp ha hb)]at this
theorem G7(ho:o.op=.binOp .quo t x y u)(hx:ev s x=some (.int .i64 a))(hy:ev s y=some (.int .i64 b))(ha:0<=a/\a<=9223372036854775807)(hb:1<=b):OX P o s h ms (.int .i64 (a/b)):=by
 have:=Abt (P:=P) (h:=h) (ms:=ms) ho hx hy ω hb;have e:a.tdiv b=a/b:=by rw[tdiv_eq_if];simp[ha.1]
 rwa [e]at this
theorem VT(ho:o.op=.binOp .rem t x y u)(hx:ev s x=some (.int k a))(hy:ev s y=some (.int k b))(hb:b≠0):OX P o s h ms (.int k (a.tmod b)):=
 BJ λρ w hρ _=>by simp[execOp,ho,hρ _ _ hx,hρ _ _ hy,go_sem,hb]
theorem BH(ho:o.op=.binOp .rem t x y u)(hx:ev s x=some (.int k a))(hy:ev s y=some (.int k b))(ha:0<=a)(hb:1<=b):OX P o s h ms (.int k (a%b)):=by
 have:=VT (P:=P) (h:=h) (ms:=ms) ho hx hy ω;have e:a.tmod b=a%b:=by rw[tmod_eq_if];simp[ha]
 rwa [e]at this
theorem DA(ho:o.op=.binOp .lss t x y u)(hx:ev s x=some (.int k a))(hy:ev s y=some (.int k b)):OX P o s h ms (.bool (decide (a<b))):=
 BJ λρ w hρ _=>by simp[execOp,ho,hρ _ _ hx,hρ _ _ hy,go_sem]
theorem JQ(ho:o.op=.binOp .leq t x y u)(hx:ev s x=some (.int k a))(hy:ev s y=some (.int k b)):OX P o s h ms (.bool (decide (a<=b))):=
 BJ λρ w hρ _=>by simp[execOp,ho,hρ _ _ hx,hρ _ _ hy,go_sem]
theorem Ct(ho:o.op=.binOp .gtr t x y u)(hx:ev s x=some (.int k a))(hy:ev s y=some (.int k b)):OX P o s h ms (.bool (decide (b<a))):=
 BJ λρ w hρ _=>by simp[execOp,ho,hρ _ _ hx,hρ _ _ hy,go_sem]
theorem HE(ho:o.op=.binOp .geq t x y u)(hx:ev s x=some (.int k a))(hy:ev s y=some (.int k b)):OX P o s h ms (.bool (decide (b<=a))):=
 BJ λρ w hρ _=>by simp[execOp,ho,hρ _ _ hx,hρ _ _ hy,go_sem]
theorem CO(ho:o.op=.binOp .eql t x y u)(hx:ev s x=some (.int k a))(hy:ev s y=some (.int k b)):OX P o s h ms (.bool (decide (a=b))):=
 BJ λρ w hρ _=>by simp[execOp,ho,hρ _ _ hx,hρ _ _ hy,go_sem];rfl
theorem B8(ho:o.op=.binOp .neq t x y u)(hx:ev s x=some (.int k a))(hy:ev s y=some (.int k b)):OX P o s h ms (.bool (decide (a≠b))):=
 BJ λρ w hρ _=>by simp[execOp,ho,hρ _ _ hx,hρ _ _ hy,go_sem];rfl
theorem J9(ho:o.op=.unOp .neg t x)(hx:ev s x=some (.int .i64 a))(hr:-9223372036854775807<=a/\a<=9223372036854775807):OX P o s h ms (.int .i64 (-a)):=
 BJ λρ w hρ _=>by have:=Dm (n:=-a) ω;simp[execOp,ho,hρ _ _ hx,Op.unary,Op.intArith,this]
theorem YG(ho:o.op=.unOp .neg t x)(hx:ev s x=some (.int k a)):OX P o s h ms (.int k (k.wrap (-a))):=
 BJ λρ w hρ _=>by simp[execOp,ho,hρ _ _ hx,Op.unary,Op.intArith]
theorem Jt{k':IntKind}(ho:o.op=.convert t u x)(ht:P.underlying t=some d)(hu:P.underlying u=some (.int k'))(hx:ev s x=some (.int k a))(hr:k'.wrap a=a):OX P o s h ms (.int k' a):=
 BJ λρ w hρ _=>by simp[execOp,ho,hρ _ _ hx,convert,run_underlying ht,run_underlying hu,Conv.intToInt,hr]
theorem CD{k':IntKind}(ho:o.op=.convert t u x)(ht:P.underlying t=some d)(hu:P.underlying u=some (.int k'))(hx:ev s x=some (.int k a)):OX P o s h ms (.int k' (k'.wrap a)):=
 BJ λρ w hρ _=>by simp[execOp,ho,hρ _ _ hx,convert,run_underlying ht,run_underlying hu,Conv.intToInt]
theorem GU{k':IntKind}(ho:o.op=.call { callee:=.builtin .max,args:=#[x,y],argTypes:=ts })(hx:ev s x=some (.int k a))(hy:ev s y=some (.int k' b)):OX P o s h ms (.int k (max a b)):=
 BJ λρ w hρ _=>by
  have:(if b>a then b else a)=max a b:=ω
  simp[execOp,ho,hρ _ _ hx,hρ _ _ hy,resolve,invoke,builtin,run_max_int2,this]
theorem Sd{k':IntKind}(ho:o.op=.call { callee:=.builtin .min,args:=#[x,y],argTypes:=ts })(hx:ev s x=some (.int k a))(hy:ev s y=some (.int k' b)):OX P o s h ms (.int k (min a b)):=
 BJ λρ w hρ _=>by
  have:(if b<a then b else a)=min a b:=ω
  simp[execOp,ho,hρ _ _ hx,hρ _ _ hy,resolve,invoke,builtin,run_min_int2,this]
end
section
variable {t u:TypeId} {x y:Operand} {a b:Bool}
theorem Abd(ho:o.op=.binOp .eql t x y u)(ht:P.underlying t=some .bool)(hx:ev s x=some (.bool a))(hy:ev s y=some (.bool b)):OX P o s h ms (.bool (decide (a=b))):=
 BJ λρ w hρ _=>by simp[execOp,ho,hρ _ _ hx,hρ _ _ hy,go_sem,run_eql_bool _ _ _ _ ht];cases a<;>cases b<;>rfl
theorem AaI(ho:o.op=.binOp .neq t x y u)(ht:P.underlying t=some .bool)(hx:ev s x=some (.bool a))(hy:ev s y=some (.bool b)):OX P o s h ms (.bool (decide (a≠b))):=
 BJ λρ w hρ _=>by simp[execOp,ho,hρ _ _ hx,hρ _ _ hy,go_sem,run_neq_bool _ _ _ _ ht];cases a<;>cases b<;>rfl
theorem DB(ho:o.op=.unOp .not t x)(hx:ev s x=some (.bool a)):OX P o s h ms (.bool (!a)):=
 BJ λρ w hρ _=>by simp[execOp,ho,hρ _ _ hx,Op.unary]
end
section
variable {t el:TypeId} {x y:Operand} {p:Addr} {len cap sz:Nat} {k:IntKind}
theorem Co{z:Value}{bytes:Nat}{i:Int}(j:Nat)(ho:o.op=.indexAddr t x y)(ht:P.underlying t=some (.slice el))(hs:Elem P el sz z bytes)(hx:ev s x=some (.slice (some p) len cap))(hy:ev s y=some (.int k i))(hi:i=(j:Int))(hlt:j<len) :
  OX P o s h ms (.pointer (some (p.add (j*sz)))):=
 BJ λρ w hρ _=>by
  have h1:(0:Int)<=i/\i<(len:Int):=ω
  have h2:i.toNat=j:=ω
  simp[execOp,ho,hρ _ _ hx,hρ _ _ hy,Instr.indexAt,run_underlying ht,asIntOf,h1,h2,hs.sizeOf]
theorem Ci{z:Value}{bytes:Nat}{i:Int}(j:Nat)(ho:o.op=.indexAddr t x y)(ht:P.underlying t=some (.array len el))(hs:Elem P el sz z bytes)(hx:ev s x=some (.pointer (some p)))(hy:ev s y=some (.int k i))(hi:i=(j:Int))(hlt:j<len) :
  OX P o s h ms (.pointer (some (p.add (j*sz)))):=
 BJ λρ w hρ _=>by
  have h1:(0:Int)<=i/\i<(len:Int):=ω
  have h2:i.toNat=j:=ω
  simp[execOp,ho,hρ _ _ hx,hρ _ _ hy,Instr.indexAt,run_underlying ht,Instr.sureAddr,asIntOf,h1,h2,hs.sizeOf]
theorem VE{f:Field}{n:Nat}(ho:o.op=.fieldAddr t x i)(ht:P.underlying t=some (.struct fs))(hf:fs[i]?=some f)(hs:∀w,(sizeOf f.type).run P w=.ok (n+1) w)(hx:ev s x=some (.pointer (some p))) :
  OX P o s h ms (.pointer (some (p.add f.offset))):=
 BJ λρ w hρ _=>by simp[execOp,ho,hρ _ _ hx,Instr.fieldAt,run_underlying ht,hf,Instr.sureAddr,fieldPlace,hs]
theorem YH(ho:o.op=.load t x)(ht:P.underlying t=some d)(hd:Iz d=false)(hx:ev s x=some (.pointer (some p)))(hc:Cell h ms p v):OX P o s h ms v:=
 BJ λρ w hρ hw=>by
  have ha:(isAgg t).run P w=.ok false w:=by rw[En ht,hd]
  simp[execOp,ho,hρ _ _ hx,Instr.loadAt,Instr.sureAddr,loadVar,ha,hw.cell hc]
theorem Yg{z:Value}{bytes:Nat}(ho:o.op=.load t x)(ht:P.underlying t=some d)(hd:Iz d=true)(hs:Elem P t sz z bytes)(hl:vs.length=sz)(hx:ev s x=some (.pointer (some p)))(hc:Seg h ms p vs):OX P o s h ms (.agg vs.toArray):=
 BJ λρ w hρ hw=>by
  have ha:(isAgg t).run P w=.ok true w:=by rw[En ht,hd]
  have hc':∀j v,vs[j]?=some v->w.cell? (p.add j)=some v:=λj v e=>hw.cell (hc j v e);subst hl;simp[execOp,ho,hρ _ _ hx,Instr.loadAt,Instr.sureAddr,loadVar,ha,hs.sizeOf,run_loadCells_list (P:=P) w p vs hc']
theorem PU(ho:o.op=.nilCheck x)(hx:ev s x=some (.pointer (some p))):OX P o s h ms (.pointer (some p)):=
 BJ λρ w hρ _=>by simp[execOp,ho,hρ _ _ hx]
theorem RL{ty:TypeId}{a:Option Addr}(ho:o.op=.call { callee:=.builtin .len,args:=#[x],argTypes:=#[t] })(ht:P.underlying t=some (.slice el))(hx:ev s x=some (.slice a len cap)):OX P o s h ms (.int .i64 len):=
 BJ λρ w hρ _=>by simp[execOp,ho,hρ _ _ hx,resolve,invoke,builtin,Builtin.len_,run_underlying ht,goInt]
theorem Er{f:Field}{cs:Array Value}(ho:o.op=.field t x i)(ht:P.underlying t=some (.struct fs))(hf:fs[i]?=some f)(hd:P.underlying f.type=some d)(ha:Iz d=false)(hx:ev s x=some (.agg cs))(hv:cs[f.offset]?=some v) :
  OX P o s h ms v:=
 BJ λρ w hρ _=>by
  have hag:(isAgg f.type).run P w=.ok false w:=by rw[En hd,ha]
  simp[execOp,ho,hρ _ _ hx,Instr.field,run_underlying ht,hf,asAgg,part,hag,hv]
def Ht:List Value->Nat->List Value->List Value
 | l,_,[]=>l
 | l,k,v::vs=>Ht (l.set k v) (k+1) vs
def OG:List Value->List (Nat×List Value)->List Value
 | l,[]=>l
 | l,(k,vs)::r=>OG (Ht l k vs) r
theorem Rl(vs:List Value):∀(k off:Nat) (l:List Value),(List.foldl (λ(cs:Array Value) (c:Value×Nat)=>cs.setIfInBounds (off+c.2) c.1) l.toArray (vs.zipIdx k))=(Ht l (off+k) vs).toArray:=by
 induction vs with
 | nil=>intro k off l;rfl
 | cons v vs ih=>
  intro k off l;simp only[List.zipIdx_cons,jg,List.setIfInBounds_toArray];rw[ih (k+1) off];rfl
def G4(place:Nat->Option (Nat×Nat))(n:Nat):List (Nat×Value)->List (Nat×List Value)->Prop
 | [],[]=>True
 | p::ps,q::qs=>(p.2.cells=q.2.toArray/\place p.1=some (q.1,q.2.length)/\Nat.ble (q.1+q.2.length) n=true)/\G4 place n ps qs
 | _,_=>False
theorem Ih:∀(vs:List Value) (l:List Value) (k:Nat),(Ht l k vs).length=l.length
 | [],_,_=>rfl
 | v::vs,l,k=>by simp only[Ht];rw[Ih vs];simp
theorem H5(place:Nat->Option (Nat×Nat)):∀(parts:List (Nat×Value)) (l:List Value) (ps:List (Nat×List Value)),G4 place l.length parts ps->Instr.fill place l.toArray parts=some (OG l ps).toArray
 | [],l,[],_=>rfl
 | [],_,_::_,h=>h.elim
 | _::_,_,[],h=>h.elim
 | (i,v)::parts,l,(off,vs)::ps,h=>by obtain⟨⟨h1,h2,h3⟩,h4⟩:=h;simp only at h1 h2 h3;have h3':=dd h3;simp only[Instr.fill,h2,h1,iw];rw[aa (by simp;omega)];rw[<-Array.foldl_toList];simp only[Array.toList_zipIdx];rw[Rl vs 0 off l,Nat.add_zero];exact H5 place parts _ ps (by rw[Ih];exact h4)
theorem VQ{z:Value}{bytes:Nat}{lp:List (Nat×Operand)}{vs:List (Nat×Value)}{places:Array (Nat×Nat)}(zl:List Value)(ps:List (Nat×List Value))(vl:List Value)(ho:o.op=.build t lp.toArray)(ht:P.underlying t=some (.struct fs))(hs:Elem P t sz z bytes)(hz:z.cells=zl.toArray)
  (hpl:∀w,(fs.mapM λf=>do pure (f.offset,<-sizeOf f.type):Sem (Array (Nat×Nat))).run P w=.ok places w) (hv:ZA s lp=some vs)
  (hps:G4 (places[·]?) zl.length vs ps) (hvl:OG zl ps=vl):OX P o s h ms (.agg vl.toArray):=
 BJ λρ w hρ _=>by
  have hf:=H5 (places[·]?) vs zl ps hps
  have hm:(lp.toArray.map λ(i,x)=>(i,ρ x))=vs.toArray:=by rw[List.map_toArray,hρ.pairs lp vs hv]
  have hpl':=hpl w;simp only[execOp,ho,hm];simp only[Instr.build,Sem.run_bind,hs.zeroValue,run_underlying ht,hz,Result.andThen_ok,hpl',hf,Sem.run_pure,hvl]
theorem MH{n:Nat}{z:Value}{bytes bytes':Nat}{zt:Value}{lp:List (Nat×Operand)}{vs:List (Nat×Value)}{szt:Nat}(zl:List Value)(ps:List (Nat×List Value))(vl:List Value)(ho:o.op=.build t lp.toArray)(ht:P.underlying t=some (.array n el))(hs:Elem P t szt zt bytes)(hz:zt.cells=zl.toArray)(hel:Elem P el sz z bytes')(hv:ZA s lp=some vs)
  (hps:G4 (λi=>some (i*sz,sz)) zl.length vs ps) (hvl:OG zl ps=vl):OX P o s h ms (.agg vl.toArray):=
 BJ λρ w hρ _=>by
  have hf:=H5 (λi=>some (i*sz,sz)) vs zl ps hps
  have hm:(lp.toArray.map λ(i,x)=>(i,ρ x))=vs.toArray:=by rw[List.map_toArray,hρ.pairs lp vs hv]
  simp only[execOp,ho,hm];simp only[Instr.build,Sem.run_bind,hs.zeroValue,run_underlying ht,hz,Result.andThen_ok,hel.sizeOf,hf,Sem.run_pure,hvl]
theorem Cc{fn:Fn}{lf lc:List Operand}{vf vc:List Value}(ho:o.op=.makeFunc fn lf.toArray lc.toArray)(hf:Q6 s lf=some vf)(hc:Q6 s lc=some vc):OX P o s h ms (.func fn vf.toArray vc.toArray):=
 BJ λρ w hρ _=>by simp[execOp,ho,hρ.map _ _ hf,hρ.map _ _ hc,Instr.makeFunc]
end
theorem AH(ho:o.op=.call { callee:=.value (.func f),args:=l.toArray,argTypes:=ts })(hc:∀az w,(callFunc f az).run P w=.ok (.enter f az) w)(ha:Q6 s l=some vs)(k:FnV P f vs.toArray h ms v):OX P o s h ms v:=
 λρ w hρ hw=>by
  have hev:ρ (.func f)=.func (.func f) #[] #[]:=hρ _ _ Y;have:(execOp ρ o).run P w=.ok (.enter f vs.toArray) w:=by simp[execOp,ho,resolve,hev,Deferred.ofValue,invoke,hc,hρ.map l vs ha]
  unfold OpRes;rw[this];exact(k w hw).mono λx w' ⟨e1,e2⟩=>⟨v,e1,Y,e2⟩
theorem Ts(ho:o.op=.call { callee:=.value (.func f),args:=l.toArray,argTypes:=ts })(hc:∀az w,(callFunc f az).run e.P w=.ok (.enter f az) w)(ha:Q6 s l=some vs)(k:FnT e.P f vs.toArray h pre post) :
  OT e o s h (pre++fr) (λv h' ms'=>∃pre',ms'=pre'++fr/\h.le h'/\post v h' pre'):=
 λρ w hρ hw=>by
  have hev:ρ (.func f)=.func (.func f) #[] #[]:=hρ _ _ Y;have:(execOp ρ o).run e.P w=.ok (.enter f vs.toArray) w:=by simp[execOp,ho,resolve,hev,Deferred.ofValue,invoke,hc,hρ.map l vs ha]
  unfold OpRes;rw[this];exact(k w hw.st.pre).mono λx w' ⟨r,h',pre',e1,e2,e3⟩=>⟨r,e1,h',pre'++fr,Ends.call hw e2,pre',Y,e2.le,e3⟩
theorem CE{x:Operand}{fs:List Value}(ho:o.op=.call { callee:=.value x,args:=l.toArray,argTypes:=ts })(hx:ev s x=some (.func (.func f) fs.toArray cs.toArray))(hc:∀az w,(callFunc f az).run P w=.ok (.enter f az) w)(ha:Q6 s l=some vs)(k:FnV P f (fs++vs++cs).toArray h ms v):OX P o s h ms v:=
 λρ w hρ hw=>by
  have:(execOp ρ o).run P w=.ok (.enter f (fs++vs++cs).toArray) w:=by simp[execOp,ho,resolve,hρ _ _ hx,Deferred.ofValue,invoke,hc,hρ.map l vs ha]
  unfold OpRes;rw[this];exact(k w hw).mono λx w' ⟨e1,e2⟩=>⟨v,e1,Y,e2⟩
theorem X8{x:Operand}{fs:List Value}(ho:o.op=.call { callee:=.value x,args:=l.toArray,argTypes:=ts })(hx:ev s x=some (.func (.func f) fs.toArray cs.toArray))(hc:∀az w,(callFunc f az).run e.P w=.ok (.enter f az) w)(ha:Q6 s l=some vs)(k:FnT e.P f (fs++vs++cs).toArray h pre post) :
  OT e o s h (pre++fr) (λv h' ms'=>∃pre',ms'=pre'++fr/\h.le h'/\post v h' pre'):=
 λρ w hρ hw=>by
  have:(execOp ρ o).run e.P w=.ok (.enter f (fs++vs++cs).toArray) w:=by simp[execOp,ho,resolve,hρ _ _ hx,Deferred.ofValue,invoke,hc,hρ.map l vs ha]
  unfold OpRes;rw[this];exact(k w hw.st.pre).mono λx w' ⟨r,h',pre',e1,e2,e3⟩=>⟨r,e1,h',pre'++fr,Ends.call hw e2,pre',Y,e2.le,e3⟩
theorem ZW{d:Nat}(ho:o.op=.call { callee:=.value (.func f),args:=l.toArray,argTypes:=ts })(hc:∀az w,(callFunc f az).run e.P w=.ok (.enter f az) w)(ha:Q6 s l=some vs)(k:FnT e.P f vs.toArray h [] post)(hd:o.dst=some d)(hn:Nat.blt d e.n=true)(hg:o.guard=none)
  (K:∀v h' pre',h.le h'->post v h' pre'->WL e ops Q rest ((d,v)::s) h' (pre'++ms)):WL e ops Q (o::rest) s h ms:=
 Ix (Ts (fr:=ms) ho hc ha k) hd hn hg λv h' ms' ⟨pre',e1,e2,e3⟩=>by subst e1;exact K v h' pre' e2 e3
theorem Bs{d:Nat}(ho:o.op=.call { callee:=.value (.func f),args:=l.toArray,argTypes:=ts })(hc:∀az w,(callFunc f az).run e.P w=.ok (.enter f az) w)(ha:Q6 s l=some vs)(k:FnT e.P f vs.toArray h pre post)(hm:ms=pre++fr)(hd:o.dst=some d)(hn:Nat.blt d e.n=true)(hg:o.guard=none)
  (K:∀v h' pre',h.le h'->post v h' pre'->WL e ops Q rest ((d,v)::s) h' (pre'++fr)):WL e ops Q (o::rest) s h ms:=by
 subst hm;exact Ix (Ts ho hc ha k) hd hn hg λv h' ms' ⟨pre',e1,e2,e3⟩=>by subst e1;exact K v h' pre' e2 e3
theorem H6{x:Operand}{fs:List Value}{d:Nat}(ho:o.op=.call { callee:=.value x,args:=l.toArray,argTypes:=ts })(hx:ev s x=some (.func (.func f) fs.toArray cs.toArray))(hc:∀az w,(callFunc f az).run e.P w=.ok (.enter f az) w)(ha:Q6 s l=some vs)(k:FnT e.P f (fs++vs++cs).toArray h pre post)(hm:ms=pre++fr)(hd:o.dst=some d)(hn:Nat.blt d e.n=true)(hg:o.guard=none)
  (K:∀v h' pre',h.le h'->post v h' pre'->WL e ops Q rest ((d,v)::s) h' (pre'++fr)):WL e ops Q (o::rest) s h ms:=by
 subst hm;exact Ix (X8 ho hx hc ha k) hd hn hg λv h' ms' ⟨pre',e1,e2,e3⟩=>by subst e1;exact K v h' pre' e2 e3
end
end Go.Eng
namespace Go.Eng
open Go.RowKit
variable {sz bytes n d g:Nat} {v z:Value} {el t:TypeId} {cs l:List Value} {x y:Operand} {m:Hp}
theorem Gn{α:Type}(l:List α)(i:Nat)(x y:α)(h:l[i]?=some x):∃r,l.Perm (x::r)/\(l.set i y).Perm (y::r):=by
 induction l generalizing i with
 | nil=>cases h
 | cons a l ih=>
  cases i with
  | zero=>simp at h;subst h;exact⟨l,ik _,ik _⟩
  | succ i=>
   simp at h;obtain⟨r,h1,h2⟩:=ih i h;exact⟨a::r,(h1.cons a).trans (List.Perm.swap _ _ _),by rw[List.set_cons_succ];exact(h2.cons a).trans (List.Perm.swap _ _ _)⟩
structure Rd(h:Hp)(ms:List Hp)(v:Value)(sz n:Nat)(cs:List Value):Prop where
 ex:∃a c,v=.slice a n c/\n<=c/\c<=9223372036854775807/\cs.length=n*sz/\(0<n->∃q,a=some q/\Seg h ms q cs)
def Own(el:TypeId)(sz:Nat)(m:Hp)(v:Value)(n:Nat)(cs:List Value):Prop:=
 cs.length=n*sz/\((v=.nl/\n=0/\m=Hp.emp) ∨
  ∃g cap spare,v=.slice (some ⟨g,0,none⟩) n cap/\m=Bh g el (cs++spare)/\(cs++spare).length=cap*sz/\n<=cap/\cap<=9223372036854775807)
theorem Rd.le{h h':Hp}{ms:List Hp}(R:Rd h ms v sz n cs)(l:h.le h'):Rd h' ms v sz n cs:=by obtain⟨a,c,e1,e2,e3,e4,e5⟩:=R.ex;exact⟨a,c,e1,e2,e3,e4,λhn=>let ⟨q,q1,q2⟩:=e5 hn;⟨q,q1,q2.le l⟩⟩
theorem Rd.sub{h:Hp}{ms ms':List Hp}(R:Rd h ms v sz n cs)(l:∀m∈ms,m∈ms'):Rd h ms' v sz n cs:=by obtain⟨a,c,e1,e2,e3,e4,e5⟩:=R.ex;exact⟨a,c,e1,e2,e3,e4,λhn=>let ⟨q,q1,q2⟩:=e5 hn;⟨q,q1,q2.sub l⟩⟩
theorem Rd.any{h:Hp}{ms:List Hp}(R:Rd h [] v sz n cs):Rd h ms v sz n cs:=R.sub σ
theorem Rd.nil(h:Hp)(ms:List Hp)(sz:Nat):Rd h ms (.slice none 0 0) sz 0 []:=⟨none,0,rfl,au _,ω,by simp,λh=>ω⟩
theorem Own.nil(el:TypeId)(sz:Nat):Own el sz Hp.emp (.slice none 0 0) 0 []:=⟨by simp,.inl ⟨rfl,rfl,rfl⟩⟩
theorem Own.rd(O:Own el sz m v n cs){h:Hp}{ms:List Hp}(hm:m∈ms):Rd h ms v sz n cs:=by
 obtain⟨h1,h2⟩:=O;rcases h2 with ⟨rfl,rfl,rfl⟩|⟨g,cap,spare,rfl,rfl,e1,e2,e3⟩
 ·exact⟨none,0,Y,au _,ω,h1,λh=>ω⟩
 ·refine⟨_,cap,Y,e2,e3,h1,λ_=>⟨_,Y,λj v hv=>?_⟩⟩;obtain⟨i,hi⟩:=List.getElem?_of_mem hm;exact Cell.blk i hi (by rw[dw (bg.1 hv).1];exact hv)
theorem Own.rdh(O:Own el sz m v n cs){h:Hp}{ms:List Hp}(hm:m.le h):Rd h ms v sz n cs:=by
 obtain⟨h1,h2⟩:=O;rcases h2 with ⟨rfl,rfl,rfl⟩|⟨g,cap,spare,rfl,rfl,e1,e2,e3⟩
 ·exact⟨none,0,Y,au _,ω,h1,λh=>ω⟩
 ·refine⟨_,cap,Y,e2,e3,h1,λ_=>⟨_,Y,λj v hv=>?_⟩⟩;refine⟨by unfold Addr.add;split<;>rfl,(cs++spare).toArray,el,(0,0),.inl (hm _ _ ?_),?_⟩
  ·rw[Dn];exact Hp.one_self _ _
  ·rw[DY];have:=(bg.1 hv).1;simp only[Nat.zero_add,gu];rw[dw this];exact hv
theorem Ends.put{w0 w w':World}{h0 h:Hp}{ms0 ms:List Hp}{i:Nat}{l':List Value}(H:Ends w0 h0 ms0 w h ms)(hm:ms[i]?=some (Bh g el l))
  (hos:w'.os=w.os) (htape:TL w w') (hout:w'.output=w.output) (hsize:w.heap.size<=w'.heap.size)
  (hg:w'.heap[g]?=some (.cells l'.toArray el (0,0))) (hother:∀k,k<w.heap.size->k≠g->w'.heap[k]?=w.heap[k]?):Ends w0 h0 ms0 w' h (ms.set i (Bh g el l')):=by
 obtain⟨r,p1,p2⟩:=Gn ms i (Bh g el l) (Bh g el l') hm;exact Ends.perm (Ends.change (H.perm p1) hos htape hout hsize hg hother) p2.symm
section
variable {P:Program} {o:Oper} {s:AF} {h:Hp} {ms:List Hp} {e:Entry} {Q:Exit->Act->World->Prop} {ops:Array Oper} {rest:List Oper}
theorem WO(zl:List Value)(ho:o.op=.alloc t)(hs:Elem e.P t sz z bytes)(hz:z.cells=zl.toArray) :
  OT e o s h ms (λv h' ms'=>∃g,v=.pt g/\h'=h/\ms'=Bh g t zl::ms):=λρ w hρ hw=>by
 have:(execOp ρ o).run e.P w=.ok (.value (.pointer (some ⟨w.heap.size,0,none⟩))) (w.alloc (.cells zl.toArray t)):=by simp[execOp,ho,Instr.alloc,hs.zeroValue,newVar,newRow,hz]
 unfold OpRes;rw[this];exact⟨h,_,Ends.alloc hw _,_,Y,Y,Y⟩
theorem XU(zl:List Value)(ho:o.op=.alloc t)(hs:Elem e.P t sz z bytes)(hz:z.cells=zl.toArray)(hd:o.dst=some d)(hn:Nat.blt d e.n=true)(hg:o.guard=none)
  (k:∀g,WL e ops Q rest ((d,.pt g)::s) h (Bh g t zl::ms)):WL e ops Q (o::rest) s h ms:=
 Ix (WO zl ho hs hz) hd hn hg λ_ _ _ ⟨g,e1,e2,e3⟩=>by subst e1 e2 e3;exact k g
theorem AP(zl:List Value)(ho:o.op=.box t x)(hx:ev s x=some v)(hz:v.cells=zl.toArray)(hd:o.dst=some d)(hn:Nat.blt d e.n=true)(hg:o.guard=none)
  (k:∀g,WL e ops Q rest ((d,.pt g)::s) h (Bh g t zl::ms)):WL e ops Q (o::rest) s h ms:=
 Ix (post:=λv h' ms'=>∃g,v=.pt g/\h'=h/\ms'=Bh g t zl::ms) (λρ w hρ hw=>by
  have:(execOp ρ o).run e.P w=.ok (.value (.pointer (some ⟨w.heap.size,0,none⟩))) (w.alloc (.cells zl.toArray t)):=by simp[execOp,ho,hρ _ _ hx,Instr.box,newVar,newRow,hz]
  unfold OpRes;rw[this]
  exact⟨h,_,Ends.alloc hw _,_,Y,Y,Y⟩) hd hn hg λ_ _ _ ⟨g,e1,e2,e3⟩=>by subst e1 e2 e3;exact k g
theorem Hl{vs:List (Nat×Value)}(ps:List (Nat×List Value))(zl vl:List Value)(ht:P.underlying t=some (.slice el))(hs:Elem P el sz z bytes)(hb:n*sz<=16777216)
  (hz:(Array.range (n*sz)).map (λi=>(if n*sz=0 then #[] else z.cells)[i%(if n*sz=0 then #[] else z.cells).size]!)=zl.toArray) (hps:G4 (λi=>some (i*sz,sz)) zl.length vs ps) (hvl:OG zl ps=vl) (w:World) :
  (Instr.buildSlice t n vs.toArray).run P w=.ok (.slice (some ⟨w.heap.size,0,none⟩) n n) (w.alloc (.cells vl.toArray el)):=by
 have hf:=H5 (λi=>some (i*sz,sz)) vs zl ps hps;have hb':¬(n*sz>2^24):=ω
 rw[hvl,<-hz]at hf;simp only[Instr.buildSlice,Sem.run_bind,run_underlying ht,Result.andThen_ok,hs.sizeOf];rw[aa hb'];by_cases h0:n*sz=0
 ·simp only[h0,im]at hf ⊢;simp only[Sem.run_bind,Sem.run_pure,Result.andThen_ok,hf,newRow,run_newObj];rfl
 ·simp only[h0,i8]at hf ⊢;simp only[Sem.run_bind,Sem.run_pure,Result.andThen_ok,hs.zeroValue,hf,newRow,run_newObj];rfl
theorem L9:∀(vs l:List Value) (k:Nat),k+vs.length<=l.length->Ht l k vs=l.take k++vs++l.drop (k+vs.length)
 | [],l,k,h=>by simp[Ht]
 | v::vs,l,k,h=>by
  simp only[Ht];have hk:k<l.length:=by simp at h;omega
  rw[L9 vs _ _ (by simp at h ⊢;omega)];rw[ib,List.take_set_of_le ω,List.drop_set_of_lt ω];have e1:(l.set k v)[k]?=some v:=by rw[List.getElem?_set];simp only[im];rw[ac hk]
  have e2:k+1+vs.length=k+(v::vs).length:=by simp;omega
  rw[e1,e2];simp
theorem Hd(zl:List Value)(ht:P.underlying t=some (.slice el))(hs:Elem P el sz z bytes)(hv:v.cells=zl.toArray)(hl:zl.length=sz)(hzs:z.cells.size=sz)(hsz:0<sz/\sz<=1000)(w:World) :
  (Instr.buildSlice t 1 #[(0,v)]).run P w=.ok (.slice (some ⟨w.heap.size,0,none⟩) 1 1) (w.alloc (.cells zl.toArray el)):=by
 refine Hl (vs:=[(0,v)]) [(0,zl)] ((range (1*sz)).map (λi=>(if 1*sz=0 then #[] else z.cells)[i%(if 1*sz=0 then #[] else z.cells).size]!)) zl ht hs ω (by apply Array.ext';simp) ?_ ?_ w
 ·refine⟨⟨hv,by simp[hl],?_⟩,ff⟩;simp[hl]
 ·simp only[OG];rw[L9 _ _ _ (by simp[hl])];simp[hl]
theorem Aw(zl:List Value)(ho:o.op=.buildSlice t 1 #[(0,x)])(ht:e.P.underlying t=some (.slice el))(hs:Elem e.P el sz z bytes)(hx:ev s x=some v)(hv:v.cells=zl.toArray)(hl:zl.length=sz)(hzs:z.cells.size=sz)(hsz:0<sz/\sz<=1000)(hd:o.dst=some d)(hn:Nat.blt d e.n=true)(hg:o.guard=none)
  (k:∀g,WL e ops Q rest ((d,.slice (some ⟨g,0,none⟩) 1 1)::s) h (Bh g el zl::ms)):WL e ops Q (o::rest) s h ms:=
 Ix (post:=λv h' ms'=>∃g,v=.slice (some ⟨g,0,none⟩) 1 1/\h'=h/\ms'=Bh g el zl::ms) (λρ w hρ hw=>by
  have:(execOp ρ o).run e.P w=.ok (.value (.slice (some ⟨w.heap.size,0,none⟩) 1 1)) (w.alloc (.cells zl.toArray el)):=by simp[execOp,ho,hρ _ _ hx,Hd zl ht hs hv hl hzs hsz]
  unfold OpRes;rw[this]
  exact⟨h,_,Ends.alloc hw _,_,Y,Y,Y⟩) hd hn hg λ_ _ _ ⟨g,e1,e2,e3⟩=>by subst e1 e2 e3;exact k g
theorem AB{lp:List (Nat×Operand)}{vs:List (Nat×Value)}(ps:List (Nat×List Value))(zl vl:List Value)(ho:o.op=.buildSlice t n lp.toArray)(ht:e.P.underlying t=some (.slice el))(hs:Elem e.P el sz z bytes)
  (hv:ZA s lp=some vs) (hb:n*sz<=16777216) (hz:(Array.range (n*sz)).map (λi=>(if n*sz=0 then #[] else z.cells)[i%(if n*sz=0 then #[] else z.cells).size]!)=zl.toArray) (hps:G4 (λi=>some (i*sz,sz)) zl.length vs ps) (hvl:OG zl ps=vl) (hd:o.dst=some d) (hn:Nat.blt d e.n=true) (hg:o.guard=none)
  (k:∀g,WL e ops Q rest ((d,.slice (some ⟨g,0,none⟩) n n)::s) h (Bh g el vl::ms)):WL e ops Q (o::rest) s h ms:=
 Ix (post:=λv h' ms'=>∃g,v=.slice (some ⟨g,0,none⟩) n n/\h'=h/\ms'=Bh g el vl::ms) (λρ w hρ hw=>by
  have hm:(lp.toArray.map λ(i,x)=>(i,ρ x))=vs.toArray:=by rw[List.map_toArray,hρ.pairs lp vs hv]
  have:(execOp ρ o).run e.P w=.ok (.value (.slice (some ⟨w.heap.size,0,none⟩) n n)) (w.alloc (.cells vl.toArray el)):=by simp only[execOp,ho,hm,Sem.run_bind,Hl ps zl vl ht hs hb hz hps hvl,Result.andThen_ok,Sem.run_pure]
  unfold OpRes;rw[this]
  exact⟨h,_,Ends.alloc hw _,_,Y,Y,Y⟩) hd hn hg λ_ _ _ ⟨g,e1,e2,e3⟩=>by subst e1 e2 e3;exact k g
theorem AO{p:Addr}(i k:Nat)(ho:o.op=.store t x y)(hs:Elem e.P t 1 z bytes)(hx:ev s x=some (.pointer (some p)))(hy:ev s y=some v)(h1:v.oneCell'=true)
  (hm:ms[i]?=some (Bh g el l)) (hp:p=(⟨g,0,none⟩:Addr).add k) (hk:k<l.length) (hd:o.dst=none) (hg:o.guard=none)
  (K:WL e ops Q rest s h (ms.set i (Bh g el (l.set k v)))):WL e ops Q (o::rest) s h ms:=
 Lo (post:=λ_ h' ms'=>h'=h/\ms'=ms.set i (Bh g el (l.set k v))) (λρ w hρ hw=>by
  have hp':p=⟨g,k,none⟩:=by subst hp;unfold Addr.add;split<;>simp_all
  have hgw:w.heap[g]?=some (.cells l.toArray el (0,0)):=hw.st.own _ (du hm) g _ (Hp.one_self _ _);have hc:w.cell? ⟨g,k,none⟩=some l[k]:=by simp[World.cell?,hgw,hk]
  have hf:w.frozen? ⟨g,k,none⟩=false:=by simp[World.frozen?,hgw]
  have hvc:v.cells=#[v]:=by cases v<;>first|rfl|(simp[Value.oneCell']at h1)
  have hst:(store (Addr.add ⟨g,k,none⟩ 0) v).run e.P w=.ok () (w.setCell ⟨g,k,none⟩ v):=by rw[E4,run_store e.P w _ v _ h1,hc];simp[hf]
  have:(execOp ρ o).run e.P w=.ok .skip (w.setCell ⟨g,k,none⟩ v):=by simp[execOp,ho,hρ _ _ hx,hρ _ _ hy,Instr.storeAt,Instr.sureAddr,storeVar,hs.sizeOf,hvc,hp',storeCells,hst]
  unfold OpRes;rw[this];refine⟨h,_,Ends.put hw hm Y ⟨Y,au _⟩ Y (by simp[World.setCell]) (l':=l.set k v) ?_ (λj hj hne=>Below.heap_setCell _ _ _ _ hne),rfl,rfl⟩
  rw[heap_setCell_same w g k l.toArray el v hgw];simp) hd hg λ_ _ _ ⟨e1,e2⟩=>by subst e1 e2;exact K
theorem QC(i:Nat)(vl:List Value)(ho:o.op=.store t x y)(hs:Elem e.P t sz z bytes)(hx:ev s x=some (.pointer (some ⟨g,0,none⟩)))(hy:ev s y=some v)(hv:v.cells=vl.toArray)(h1:∀u∈vl,u.oneCell'=true)
  (hm:ms[i]?=some (Bh g el l)) (hl:vl.length=sz) (hl':l.length=sz) (hd:o.dst=none) (hg:o.guard=none)
  (K:WL e ops Q rest s h (ms.set i (Bh g el vl))):WL e ops Q (o::rest) s h ms:=
 Lo (post:=λ_ h' ms'=>h'=h/\ms'=ms.set i (Bh g el vl)) (λρ w hρ hw=>by
  have hgw:w.heap[g]?=some (.cells l.toArray el (0,0)):=hw.st.own _ (du hm) g _ (Hp.one_self _ _);have hst:=run_storeCells_at e.P g 0 el vl 0 l.toArray w hgw (by simp;omega) h1
  have:(execOp ρ o).run e.P w=.ok .skip (w.setRow g vl.toArray):=by simp[execOp,ho,hρ _ _ hx,hρ _ _ hy,Instr.storeAt,Instr.sureAddr,storeVar,hs.sizeOf,hv,hl,hst];rw[List.drop_eq_nil_of_le ω];simp
  unfold OpRes;rw[this]
  exact⟨h,_,Ends.put hw hm Y ⟨Y,au _⟩ Y σ (setRow_heap w g _ _ _ _ hgw) (λj hj hne=>setRow_other w g j _ hne),rfl,rfl⟩) hd hg λ_ _ _ ⟨e1,e2⟩=>by subst e1 e2;exact K
theorem Fu(w:World)(t ty el:TypeId)(ht:P.underlying t=some (.slice el))(hs:Elem P el sz z bytes)(base a:Option Addr)(n cap c:Nat)(hn:n<=cap) :
  (Builtin.append_ #[t,t] ty #[.slice base n cap,.slice a 0 c]).run P w=.ok (.slice base n cap) w:=by
 cases base<;>cases a<;>simp[Builtin.append_,run_underlying ht,hs.sizeOf,Builtin.lenOf,hn,Builtin.firstCells,loadCells,loadCellsFrom,storeCells]
theorem Lh{w0 w:World}{h0 h:Hp}{ms0 ms:List Hp}(H:Ends w0 h0 ms0 w h (m::ms))(t ty el:TypeId)(ht:P.underlying t=some (.slice el))(hs:Elem P el sz z bytes)(hzs:z.cells.size=sz)(hsz:0<sz)
  {x:Value} {k:Nat} {news:List Value} (O:Own el sz m v n cs) (R:Rd h (m::ms) x sz k news) (h1:∀u∈news,u.oneCell'=true) (hb:(n+k)*bytes<=140737488355328) (hb63:n+k<=9223372036854775807) :
  ∃v' w' m',(Builtin.append_ #[t,t] ty #[v,x]).run P w=.ok v' w'/\Own el sz m' v' (n+k) (cs++news)/\Ends w0 h0 ms0 w' h (m'::ms):=by
 obtain⟨a,c,rfl,hkc,hcm,hnl,hq⟩:=R.ex;obtain⟨hcl,hO⟩:=O;obtain⟨i,hi,hz,his,hib⟩:=hs.info;rcases d8 k with rfl|hk
 ·have hnews:news=[]:=dn (by simpa using hnl);subst hnews;rcases hO with ⟨rfl,rfl,rfl⟩|⟨g,cap,spare,rfl,rfl,e1,e2,e3⟩
  ·exact⟨_,w,_,Fu w t ty el ht hs none a 0 0 c (au _),⟨by simpa using hcl,.inl ⟨rfl,rfl,rfl⟩⟩,H⟩
  ·exact⟨_,w,_,Fu w t ty el ht hs _ a n cap c e2,⟨by simpa using hcl,.inr ⟨g,cap,spare,rfl,by simp,by simpa using e1,e2,e3⟩⟩,H⟩
 ·obtain⟨q,rfl,hseg⟩:=hq hk;have hnews:∀j u,news[j]?=some u->w.cell? (q.add j)=some u:=λj u e=>H.st.cell (hseg j u e)
  have hcap:∀old,grownCap w (n+k) old el<=9223372036854775807/\n+k<=grownCap w (n+k) old el:=λold=>
   ⟨grownCap_le_maxLen w (n+k) old el (by simp only[maxLen];omega),grownCap_ge w (n+k) old el⟩
  have hzl:∀N,(Builtin.zeroCells z.cells N).toList.length=N*sz:=λN=>by rw[gq,size_zeroCells,hzs]
  rcases hO with ⟨rfl,rfl,rfl⟩|⟨g,cap,spare,rfl,rfl,e1,e2,e3⟩
  ·have hc0:cs=[]:=dn (by simpa using hcl);subst hc0;simp only[Nat.zero_add,ay]at *;have hr:=run_append_nil (P:=P) w t ty el i z ht hi hz q k c news (by rw[his];exact hnl) hnews hk ω (by rw[hib];omega);refine⟨_,_,_,hr,⟨hnl,.inr ⟨w.heap.size,grownCap w k 0 el,(Builtin.zeroCells z.cells (grownCap w k 0 el-k)).toList,Y,Y,?_,(hcap 0).2,(hcap 0).1⟩⟩,?_⟩
   ·rw[ag,hzl,hnl,<-d5];congr 1;have:=(hcap 0).2;omega
   ·have:=Ends.alloc (Ends.drew (Ends.drop H)) (.cells (news.toArray++Builtin.zeroCells z.cells (grownCap w k 0 el-k)) el)
    have e:(news++(Builtin.zeroCells z.cells (grownCap w k 0 el-k)).toList).toArray=news.toArray++Builtin.zeroCells z.cells (grownCap w k 0 el-k):=by apply Array.ext';simp
    unfold Bh;rw[e];exact this
  ·have hgw:w.heap[g]?=some (.cells (cs++spare).toArray el (0,0)):=H.st.own _ (bu) g _ (Hp.one_self _ _);by_cases hroom:n+k<=cap
   ·have hfit:n*i.size+news.length<=(cs++spare).toArray.size:=by
     rw[his,hnl,iw,e1,<-d5];exact d7 _ hroom
    have hr:=run_append_room (P:=P) w t ty el i ht hi g n cap (cs++spare).toArray hgw q k c news (by rw[his];exact hnl) hnews h1 hroom hfit
    have e5:(List.take (n*i.size) (cs++spare).toArray.toList++news++List.drop (n*i.size+news.length) (cs++spare).toArray.toList)=cs++news++spare.drop news.length:=by
     rw[his,<-hcl];have hd:List.drop (cs.length+news.length) (cs++spare)=spare.drop news.length:=by rw[<-drop_drop,List.drop_left]
     simp only[List.take_left',hd,bp]
    rw[e5]at hr;refine⟨_,_,_,hr,⟨by rw[ag,hcl,hnl,d5],.inr ⟨g,cap,spare.drop news.length,rfl,rfl,?_,hroom,e3⟩⟩,?_⟩
    ·rw[<-e1];simp only[ag,List.length_drop]
     have:news.length<=spare.length:=by rw[iw,ag,his,<-hcl]at hfit;omega
     omega
    ·exact Ends.change H Y ⟨Y,au _⟩ Y σ (setRow_heap w g _ _ _ _ hgw) (λj hj hne=>setRow_other w g j _ hne)
   ·have holds:∀j u,cs[j]?=some u->w.cell? ((⟨g,0,none⟩:Addr).add j)=some u:=λj u hv=>H.st.cell (Cell.blk (el:=el) (l:=cs++spare) 0 Y (by rw[dw (bg.1 hv).1];exact hv));have hr:=run_append_grow (P:=P) w t ty el i z ht hi hz ⟨g,0,none⟩ n cap cs (by rw[his];exact hcl) holds q k c news (by rw[his];exact hnl) hnews ω ω (by rw[hib];exact growslice_fits ω hb);refine⟨_,_,_,hr,⟨by rw[ag,hcl,hnl,d5],.inr ⟨w.heap.size,grownCap w (n+k) cap el,(Builtin.zeroCells z.cells (grownCap w (n+k) cap el-(n+k))).toList,rfl,rfl,?_,(hcap cap).2,(hcap cap).1⟩⟩,?_⟩
    ·rw[ag,ag,hzl,hcl,hnl,<-d5,<-d5];congr 1;have:=(hcap cap).2;omega
    ·have:=Ends.alloc (Ends.drew (Ends.drop H)) (.cells (cs.toArray++news.toArray++Builtin.zeroCells z.cells (grownCap w (n+k) cap el-(n+k))) el)
     have e:(cs++news++(Builtin.zeroCells z.cells (grownCap w (n+k) cap el-(n+k))).toList).toArray=cs.toArray++news.toArray++Builtin.zeroCells z.cells (grownCap w (n+k) cap el-(n+k)):=by apply Array.ext';simp
     unfold Bh;rw[e];exact this
theorem MQ{u:Value}{k:Nat}{news:List Value}(i:Nat)(ho:o.op=.call { callee:=.builtin .append,args:=#[x,y],argTypes:=#[t,t] })(ht:e.P.underlying t=some (.slice el))(hs:Elem e.P el sz z bytes)(hzs:z.cells.size=sz)(hsz:0<sz)
  (hx:ev s x=some v) (hy:ev s y=some u) (hm:ms[i]?=some m) (O:Own el sz m v n cs) (R:Rd h ms u sz k news) (h1:∀u∈news,u.oneCell'=true) (hb:(n+k)*bytes<=140737488355328) (hb63:n+k<=9223372036854775807) (hd:o.dst=some d) (hn:Nat.blt d e.n=true) (hg:o.guard=none)
  (K:∀v' m',Own el sz m' v' (n+k) (cs++news)->WL e ops Q rest ((d,v')::s) h (ms.set i m')):WL e ops Q (o::rest) s h ms:=
 Ix (post:=λv' h' ms'=>∃m',h'=h/\ms'=ms.set i m'/\Own el sz m' v' (n+k) (cs++news)) (λρ w hρ hw=>by
  obtain⟨r,p1,_⟩:=Gn ms i m m hm;obtain⟨v',w',m',hr,hO,hE⟩:=Lh (P:=e.P) (Ends.perm hw p1) t o.type el ht hs hzs hsz O (R.sub (λm hm=>p1.mem_iff.1 hm)) h1 hb hb63
  have:(execOp ρ o).run e.P w=.ok (.value v') w':=by simp[execOp,ho,hρ _ _ hx,hρ _ _ hy,resolve,invoke,builtin,hr]
  unfold OpRes;rw[this];obtain⟨r',q1,q2⟩:=Gn ms i m m' hm;have pr:(m'::r).Perm (ms.set i m'):=((List.Perm.cons_inv (p1.symm.trans q1)).cons m').trans q2.symm
  exact⟨h,_,Ends.perm hE pr,m',Y,Y,hO⟩) hd hn hg λv' h' ms' ⟨m',e1,e2,e3⟩=>by subst e1 e2;exact K v' m' e3
theorem Ik(v:Value)(n:Nat):madeCells #[v] n=(replicate n v).toArray:=by
 apply Array.ext
 ·simp[madeCells]
 ·intro i h1 h2;simp[madeCells,Nat.mod_one]
theorem CL{k1 k2:IntKind}{l c:Int}(ho:o.op=.makeSlice t x y)(ht:e.P.underlying t=some (.slice el))(hs:Elem e.P el 1 z bytes)(hz:z.cells=#[z])
  (hx:ev s x=some (.int k1 l)) (hy:ev s y=some (.int k2 c)) (hl:l=(n:Int)) (hc:c=(n:Int)) (hb:bytes*n<=281474976710656) (h63:n<=9223372036854775807) (hd:o.dst=some d) (hn:Nat.blt d e.n=true) (hg:o.guard=none)
  (k:∀g,WL e ops Q rest ((d,.slice (some ⟨g,0,none⟩) n n)::s) h (Bh g el (replicate n z)::ms)):WL e ops Q (o::rest) s h ms:=
 Ix (post:=λv h' ms'=>∃g,v=.slice (some ⟨g,0,none⟩) n n/\h'=h/\ms'=Bh g el (replicate n z)::ms) (λρ w hρ hw=>by
  obtain⟨i,hi,hz',his,hib⟩:=hs.info
  have hb':(i.bytes:Int)*c<=281474976710656:=by
   rw[hib,hc];have h:((bytes*n:Nat):Int)<=281474976710656:=ω
   rwa [da]at h
  have hr:=run_make (P:=e.P) w t el i z ht hi hz' k1 k2 l c ω ω hb' ω
  have:(execOp ρ o).run e.P w=.ok (.value (.slice (some ⟨w.heap.size,0,none⟩) n n)) (w.alloc (.cells (replicate n z).toArray el)):=by
   have e1:l.toNat=n:=ω
   have e2:c.toNat=n:=ω
   rw[e1,e2,his,hz,jk,Ik]at hr;simp only[execOp,ho,hρ _ _ hx,hρ _ _ hy,Sem.run_bind,hr,Result.andThen_ok,Sem.run_pure]
  unfold OpRes;rw[this]
  exact⟨h,_,Ends.alloc hw _,_,Y,Y,Y⟩) hd hn hg λ_ _ _ ⟨g,e1,e2,e3⟩=>by subst e1 e2 e3;exact k g
end
end Go.Eng
namespace Go.Eng
open Go.RowKit
abbrev VP:=Hp->Value->Prop
abbrev Nb:=(TypeId×List Value)×(Nat->Value)
abbrev OS:=Value ⊕ (VP ⊕ Nb)
def NZ(o:Oper)(j:Nat):Bool:=o.after.any λe=>Region.binds .any e&&e.on==j
def backs(o:Oper)(i:Nat):Bool:=o.after.all λe=>!Region.binds .any e||e.on<i
def Mf(ops:Array Oper):Nat->Nat->Nat->Bool
 | 0,_,_=>false
 | n+1,i,j=>match ops[i]? with
  | none=>false
  | some o=>NZ o j||o.after.any λe=>Region.binds .any e&&Mf ops n e.on j
def Bt(ops:Array Oper)(j:Nat):Option Nat:=(ops[j]?).bind (·.dst)
def _root_.Go.Op.idle:Op->Bool
 | .move (.const _)=>true
 | _=>false
theorem TV{o:Op}(h:o.idle=true):∃v,o=.move (.const v):=by
 unfold Op.idle at h;split at h
 ·exact⟨_,Y⟩
 ·cases h
def Q3(pu:List Nat)(ops:Array Oper)(np:Nat):Bool:=
 Nat.ble np ops.size&&(pu.all λi=>Nat.blt i ops.size)&&Region.noSelect ops &&
 (range ops.size).all λi=>match ops[i]? with
  | none=>false
  | some o=>backs o i &&
   if i<np then
    ((range np).all λj=>j==i||(match o.dst with|some d=>Bt ops j != some d|none=>true)) &&
    ((o.looksAt ops).all λt=>(range np).all λj=>Bt ops j != some t||(j<i&&NZ o j))
   else if pu.contains i then o.dst.isNone&&o.guard.isNone&&o.op.idle else(range i).all λj=>pu.contains j||Mf ops ops.size i j
def OPX(P:Program)(o:Oper)(s:AF)(h:Hp)(ms:List Hp)(V:VP):Prop:=
 ∀ρ w,Evs s ρ->St w h ms->OpRes P o ρ w (λu w'=>∃h',h.le h'/\h'.inW w'/\(∀k,k<w.heap.size->h' k=h k)/\Ext w w'/\V h' u)
def AbR(V:VP):Prop:=∀h h' u,Hp.le h h'->V h u->V h' u
def Nz(q:List (Nat×VP))(val:Nat->Value):AF:=q.map λp=>(p.1,val p.1)
def W9(q:List (Nat×VP))(val:Nat->Value)(h:Hp):Prop:=∀d V,(d,V)∈q->V h (val d)
def Wants(ops:Array Oper)(o:Oper)(s:AF)(b:Bool):Prop:=
 match o.guard with
 | none=>b=true
 | some (j,want)=>(∃dj b',Bt ops j=some dj/\lk s dj=some (.bool b')/\b=(b'==want))\/∃dj,Bt ops j=some dj/\lk s dj=some undef/\b=false
def ONB(P:Program)(o:Oper)(s:AF)(h:Hp)(ms:List Hp)(x:Nb):Prop:=
 ∀ρ w,Evs s ρ->St w h ms->OpRes P o ρ w (λu w'=>u=x.2 w.heap.size/\w'=w.alloc (.cells x.1.2.toArray x.1.1))
def StpOK(P:Program)(ops:Array Oper)(h:Hp)(ms:List Hp)(o:Oper)(s:AF)(q:List (Nat×VP)):OS->Prop
 | .inl v=>(Wants ops o s true/\OX P o s h ms v)\/(Wants ops o s true/\∃q',(∀p∈q',p∈q/\p.1∈o.looksAt ops)/\∀h',h.le h'->∀val,W9 q' val h'->OX P o (Nz q' val++s) h' ms v)\/(Wants ops o s false/\v=undef)
 | .inr (.inl V)=>Wants ops o s true/\AbR V/\(OPX P o s h ms V\/∃q',(∀p∈q',p∈q/\p.1∈o.looksAt ops)/\∀h',h.le h'->∀val,W9 q' val h'->OPX P o (Nz q' val++s) h' ms V)
 | .inr (.inr x)=>Wants ops o s true/\(∃d,o.dst=some d)/\ONB P o s h ms x
def D1:List Oper->List OS->AF->AF
 | o::l,.inl v::p,s=>D1 l p (match o.dst with|some d=>(d,v)::s|none=>s)
 | _::l,.inr _::p,s=>D1 l p s
 | _,_,s=>s
def D3:List Oper->List OS->List (Nat×VP)
 | o::l,.inr (.inl V)::p=>(match o.dst with|some d=>[(d,V)]|none=>[])++D3 l p
 | _::l,_::p=>D3 l p
 | _,_=>[]
def DH:List Oper->List OS->List (Nat×Nb)
 | o::l,.inr (.inr x)::p=>(match o.dst with|some d=>[(d,x)]|none=>[])++DH l p
 | _::l,_::p=>DH l p
 | _,_=>[]
def O3(al:List (Nat×Nb))(γ:Nat->Nat):AF:=al.map λp=>(p.1,p.2.2 (γ p.1))
def QX(al:List (Nat×Nb))(γ:Nat->Nat):List Hp:=al.map λp=>Bh (γ p.1) p.2.1.1 p.2.1.2
def WR(e:Entry)(ops:Array Oper)(Q:Exit->Act->World->Prop)(tl:List Oper)(h:Hp)(ms:List Hp):List Oper->AF->List (Nat×VP)->List (Nat×Nb)->Prop
 | [],s,q,al=>(q=[]/\∀γ,WL e ops Q tl (O3 al γ++s) h (QX al γ++ms))\/∀h',h.le h'->∀val γ,W9 q val h'->WL e ops Q tl (Nz q val++(O3 al γ++s)) h' (QX al γ++ms)
 | o::l,s,q,al=>
  (∃v,StpOK e.P ops h ms o s q (.inl v)/\WR e ops Q tl h ms l (match o.dst with|some d=>(d,v)::s|none=>s) q al) ∨
  (∃V,StpOK e.P ops h ms o s q (.inr (.inl V))/\WR e ops Q tl h ms l s (q++match o.dst with|some d=>[(d,V)]|none=>[]) al) ∨
  (∃x,StpOK e.P ops h ms o s q (.inr (.inr x))/\WR e ops Q tl h ms l s q (al++match o.dst with|some d=>[(d,x)]|none=>[]))
def PlanOK(P:Program)(ops:Array Oper)(h:Hp)(ms:List Hp):List Oper->List OS->AF->List (Nat×VP)->Prop
 | [],[],_,_=>True
 | o::l,st::p,s,q=>StpOK P ops h ms o s q st/\PlanOK P ops h ms l p (match st with|.inl v=>(match o.dst with|some d=>(d,v)::s|none=>s)|_=>s) (match st with|.inr (.inl V)=>q++(match o.dst with|some d=>[(d,V)]|none=>[])|_=>q)
 | _,_,_,_=>False
theorem KK{e:Entry}{ops:Array Oper}{Q:Exit->Act->World->Prop}{tl:List Oper}{h:Hp}{ms:List Hp}:∀(l:List Oper) (s:AF) (q:List (Nat×VP)) (al:List (Nat×Nb)),WR e ops Q tl h ms l s q al →
  ∃pl,pl.length=l.length/\PlanOK e.P ops h ms l pl s q ∧
   ((q++D3 l pl=[]/\∀γ,WL e ops Q tl (O3 (al++DH l pl) γ++D1 l pl s) h (QX (al++DH l pl) γ++ms)) ∨
    ∀h',h.le h'->∀val γ,W9 (q++D3 l pl) val h'->WL e ops Q tl (Nz (q++D3 l pl) val++(O3 (al++DH l pl) γ++D1 l pl s)) h' (QX (al++DH l pl) γ++ms))
 | [],s,q,al,H=>⟨[],rfl,ff,by simp only[WR]at H;simpa[D3,DH,D1] using H⟩
 | o::l,s,q,al,H=>by
  rcases H with ⟨v,h1,h2⟩|⟨V,h1,h2⟩|⟨x,h1,h2⟩
  ·obtain⟨pl,e1,e2,e3⟩:=KK l _ _ _ h2;exact⟨.inl v::pl,by simp[e1],⟨h1,e2⟩,by simpa[D3,DH,D1] using e3⟩
  ·obtain⟨pl,e1,e2,e3⟩:=KK l _ _ _ h2;exact⟨.inr (.inl V)::pl,by simp[e1],⟨h1,e2⟩,by simpa[D3,DH,D1,bp] using e3⟩
  ·obtain⟨pl,e1,e2,e3⟩:=KK l _ _ _ h2;exact⟨.inr (.inr x)::pl,by simp[e1],⟨h1,e2⟩,by simpa[D3,DH,D1,bp] using e3⟩
theorem PlanOK.get{P:Program}{ops:Array Oper}{h:Hp}{ms:List Hp}:∀(l:List Oper) (pl:List OS) (s:AF) (q:List (Nat×VP)),PlanOK P ops h ms l pl s q →
  ∀i o,l[i]?=some o->∃st,pl[i]?=some st/\StpOK P ops h ms o (D1 (l.take i) (pl.take i) s) (q++D3 (l.take i) (pl.take i)) st
 | [],[],_,_,_,i,o,e=>by cases e
 | [],_::_,_,_,H,_,_,_=>H.elim
 | _::_,[],_,_,H,_,_,_=>H.elim
 | o::l,st::p,s,q,H,i,o',e=>by
  cases i with
  | zero=>simp at e;subst e;exact⟨st,Y,by simpa[D1,D3] using H.1⟩
  | succ i=>
   obtain⟨st',e1,e2⟩:=PlanOK.get l p _ _ H.2 i o' (by simpa using e);refine⟨st',by simpa using e1,?_⟩;rcases st with v|V|x<;>simpa[D1,D3,bp] using e2
theorem I7:∀(l:List Oper) (pl:List OS) (s:AF) (t:Nat) (u:Value),lk (D1 l pl s) t=some u →
  (∃(j:Nat) (o:Oper),l[j]?=some o/\o.dst=some t/\pl[j]?=some (.inl u))\/lk s t=some u
 | [],_,s,t,u,h=>.inr (by simpa[D1] using h)
 | o::l,[],s,t,u,h=>.inr (by simpa[D1] using h)
 | o::l,.inl v::p,s,t,u,h=>by
  rcases I7 l p _ t u (by simpa[D1] using h) with ⟨j,o',h1,h2,h3⟩|h
  ·exact .inl ⟨j+1,o',by simpa using h1,h2,by simpa using h3⟩
  ·cases hd:o.dst with
   | none=>simp[hd]at h;exact .inr h
   | some d=>
    simp[hd]at h;by_cases hdt:d=t
    ·subst hdt;rw[BL]at h;cases h;exact .inl ⟨0,o,Y,hd,Y⟩
    ·rw[BF _ _ hdt]at h;exact .inr h
 | o::l,.inr x::p,s,t,u,h=>by
  rcases I7 l p _ t u (by simpa[D1] using h) with ⟨j,o',h1,h2,h3⟩|h
  ·exact .inl ⟨j+1,o',by simpa using h1,h2,by simpa using h3⟩
  ·exact .inr h
theorem Gp:∀(l:List Oper) (pl:List OS) (d:Nat) (V:VP),(d,V)∈D3 l pl->∃(j:Nat) (o:Oper),l[j]?=some o/\o.dst=some d/\pl[j]?=some (.inr (.inl V))
 | [],_,d,V,h=>by cases h
 | o::l,[],d,V,h=>by cases h
 | o::l,.inl v::p,d,V,h=>by obtain⟨j,o',h1,h2,h3⟩:=Gp l p d V (by simpa[D3] using h);exact⟨j+1,o',by simpa using h1,h2,by simpa using h3⟩
 | o::l,.inr (.inl W)::p,d,V,h=>by
  simp only[D3,bf]at h;rcases h with h|h
  ·cases hd:o.dst with
   | none=>simp[hd]at h
   | some d'=>simp[hd]at h;exact⟨0,o,Y,by rw[hd,h.1],by simp[h.2]⟩
  ·obtain⟨j,o',h1,h2,h3⟩:=Gp l p d V h;exact⟨j+1,o',by simpa using h1,h2,by simpa using h3⟩
 | o::l,.inr (.inr x)::p,d,V,h=>by obtain⟨j,o',h1,h2,h3⟩:=Gp l p d V (by simpa[D3] using h);exact⟨j+1,o',by simpa using h1,h2,by simpa using h3⟩
theorem HM:∀(l:List Oper) (pl:List OS) (d:Nat) (x:Nb),(d,x)∈DH l pl->∃(j:Nat) (o:Oper),l[j]?=some o/\o.dst=some d/\pl[j]?=some (.inr (.inr x))
 | [],_,d,V,h=>by cases h
 | o::l,[],d,V,h=>by cases h
 | o::l,.inl v::p,d,V,h=>by obtain⟨j,o',h1,h2,h3⟩:=HM l p d V (by simpa[DH] using h);exact⟨j+1,o',by simpa using h1,h2,by simpa using h3⟩
 | o::l,.inr (.inr W)::p,d,V,h=>by
  simp only[DH,bf]at h;rcases h with h|h
  ·cases hd:o.dst with
   | none=>simp[hd]at h
   | some d'=>simp[hd]at h;exact⟨0,o,Y,by rw[hd,h.1],by simp[h.2]⟩
  ·obtain⟨j,o',h1,h2,h3⟩:=HM l p d V h;exact⟨j+1,o',by simpa using h1,h2,by simpa using h3⟩
 | o::l,.inr (.inl x)::p,d,V,h=>by obtain⟨j,o',h1,h2,h3⟩:=HM l p d V (by simpa[DH] using h);exact⟨j+1,o',by simpa using h1,h2,by simpa using h3⟩
structure Pre(pu:List Nat)(ops:Array Oper)(np:Nat):Prop where
 le:np<=ops.size
 low:∀i,pu.contains i=true->i<ops.size
 nosel:Region.noSelect ops=true
 backs:∀i o,ops[i]?=some o->∀e∈o.after,Region.binds .any e=true->e.on<i
 uniq:∀i j o d,ops[i]?=some o->i<np->j<np->o.dst=some d->Bt ops j=some d->j=i
 look:∀i o t j,ops[i]?=some o->i<np->t∈o.looksAt ops->j<np->Bt ops j=some t->j<i/\NZ o j=true
 tail:∀i j,i<ops.size->np<=i->pu.contains i=false->j<i->pu.contains j=true\/Mf ops ops.size i j=true
 zap:∀i o,ops[i]?=some o->np<=i->pu.contains i=true->o.dst=none/\o.guard=none/\∃v,o.op=.move (.const v)
theorem LO{pu:List Nat}{ops:Array Oper}{np:Nat}(h:Q3 pu ops np=true):Pre pu ops np:=by
 simp only[Q3,bo,gk,mem_range]at h;obtain⟨⟨⟨h1,h1'⟩,h2⟩,h3⟩:=h;have at_:∀i o,ops[i]?=some o->i<ops.size:=λi o e=>(ba.1 e).1;refine⟨dd h1,λi hi=>dd (h1' i (by simpa using hi)),h2,?_,?_,?_,?_,?_⟩
 ·intro i o e ed hed hb;have:=h3 i (at_ i o e);simp only[e,bo]at this;have h4:=Array.all_eq_true_iff_forall_mem.1 this.1 ed hed;simp[hb]at h4;exact h4
 ·intro i j o d e hi hj hd hdj;have:=h3 i (at_ i o e);simp only[e,bo,hi,im,gk,mem_range,hd]at this;have h4:=this.2.1 j hj;simp[hdj]at h4;exact h4
 ·intro i o t j e hi ht hj hd;have:=h3 i (at_ i o e);simp only[e,bo,hi,im,gk,mem_range]at this;have h4:=this.2.2 t ht j hj;simp[hd]at h4;exact h4
 ·intro i j his hi hpu hj;obtain⟨o,e⟩:∃o,ops[i]?=some o:=⟨ops[i],by simp[his]⟩
  have:=h3 i (at_ i o e);have hni:¬i<np:=ω
  have hpu':¬pu.contains i=true:=by rw[hpu];simp
  simp only[e,bo,aa hni,aa hpu',gk,mem_range]at this;exact Bool.or_eq_true_iff.1 (this.2 j hj)
 ·intro i o e hi hpu;have:=h3 i (at_ i o e);have hni:¬i<np:=ω
  simp only[e,bo,aa hni,ac hpu]at this;exact⟨by simpa using this.2.1.1,by simpa using this.2.1.2,TV this.2.2⟩
theorem FI{o:Oper}{j:Nat}(h:NZ o j=true):∃e∈o.after,Region.binds .any e=true/\e.on=j:=by obtain⟨e,he,hb⟩:=Array.any_eq_true'.1 h;simp at hb;exact⟨e,he,hb.1,hb.2⟩
theorem Lc{ops:Array Oper}{listed:Array Bool}{i:Nat}{o:Oper}(hi:ops[i]?=some o)(hr:i∈Region.ready .any ops listed){j:Nat}(h:NZ o j=true):listed.getD j false=true:=by obtain⟨_,o',ho',hall⟩:=mem_ready.1 hr;rw[hi]at ho';cases ho';obtain⟨e,he,hb,rfl⟩:=FI h;exact hall e he hb
def Closed(ops:Array Oper)(listed:Array Bool):Prop:=∀i o,listed.getD i false=true->ops[i]?=some o->∀e∈o.after,Region.binds .any e=true->listed.getD e.on false=true
theorem Jv{ops:Array Oper}{listed:Array Bool}(hc:Closed ops listed):∀(n i j:Nat) (o:Oper),ops[i]?=some o->(∀e∈o.after,Region.binds .any e=true->listed.getD e.on false=true)->Mf ops n i j=true->listed.getD j false=true
 | 0,_,_,_,_,_,h=>by cases h
 | n+1,i,j,o,ho,hall,h=>by
  simp only[Mf,ho,Bool.or_eq_true]at h;rcases h with h|h
  ·obtain⟨e,he,hb,rfl⟩:=FI h;exact hall e he hb
  ·obtain⟨e,he,hb⟩:=Array.any_eq_true'.1 h;simp only[bo]at hb;have hl:=hall e he hb.1;cases ho':ops[e.on]? with
   | none=>
    cases n with
    | zero=>cases hb.2
    | succ n=>simp[Mf,ho']at hb
   | some o'=>exact Jv hc n e.on j o' ho' (λe' he' hb'=>hc e.on o' hl ho' e' he' hb') hb.2
theorem Kr{ops:Array Oper}{listed:Array Bool}(hc:Closed ops listed){n i:Nat}(hr:i∈Region.ready .any ops listed){j:Nat}(h:Mf ops n i j=true):listed.getD j false=true:=by obtain⟨_,o,ho,hall⟩:=mem_ready.1 hr;exact Jv hc n i j o ho hall h
theorem Closed.set{ops:Array Oper}{listed:Array Bool}(hc:Closed ops listed){i:Nat}(hr:i∈Region.ready .any ops listed):Closed ops (listed.setIfInBounds i true):=by
 intro k o hk ho e he hb;refine getD_set_true ?_;by_cases hki:i=k
 ·subst hki;obtain⟨_,o',ho',hall⟩:=mem_ready.1 hr;rw[ho]at ho';cases ho';exact hall e he hb
 ·rw[getD_set_ne false hki]at hk;exact hc k o hk ho e he hb
def left(listed:Array Bool):Nat:=listed.toList.countP (! ·)
theorem RJ(l:List Bool)(i:Nat)(h:l[i]?=some false):(l.set i true).countP (! ·)+1=l.countP (! ·):=by
 induction l generalizing i with
 | nil=>cases h
 | cons a l ih=>
  cases i with
  | zero=>simp at h;subst h;simp
  | succ i=>simp at h;simp[List.countP_cons];have:=ih i h;omega
theorem Jp{listed:Array Bool}{i:Nat}(h:listed[i]?=some false):left (listed.setIfInBounds i true)+1=left listed:=by unfold left;rw[Array.toList_setIfInBounds];exact RJ _ _ (by simpa using h)
theorem J8{listed:Array Bool}(h:left listed=0)(i:Nat):listed.getD i true=true:=by
 unfold left at h;rw[List.countP_eq_zero]at h;rw[am];cases e:listed[i]? with
 | none=>rfl
 | some b=>
  have:=h b (by rw[Array.mem_toList_iff];exact Array.mem_of_getElem? e);simpa using this
theorem Bu{listed:Array Bool}{i:Nat}(h:listed.getD i true=false):listed[i]?=some false:=by
 rw[am]at h;cases e:listed[i]? with
 | none=>rw[e]at h;cases h
 | some b=>rw[e]at h;simp at h;rw[h]
theorem V0{P:Program}{pu:List Nat}{ops:Array Oper}{Q:Exit->Act->World->Prop}{np:Nat}(hp:Pre pu ops np):∀(l:List Oper) (k fuel:Nat) (listed:Array Bool) (a:Act) (w:World),
  ops.toList.drop k=l->np<=k->Closed ops listed->listed.size=ops.size->(∀j,j<ops.size->(listed.getD j false=true<->(j<k\/pu.contains j=true)))->left listed<=fuel->wpList P ops Q l a w->wpAny P .any ops Q fuel listed a w:=by
 intro l
 induction l with
 | nil=>
  intro k fuel listed a w hl hk hc hs hlist hf h;have hk':ops.size<=k:=by simpa using List.drop_eq_nil_iff.1 hl
  refine wpAny_done ?_ h fuel;cases hr:Region.ready .any ops listed with
  | nil=>rfl
  | cons x xs=>
   have hx:x∈Region.ready .any ops listed:=by rw[hr];exact bu
   obtain⟨h0,o,ho,_⟩:=mem_ready.1 hx;have hlt:=(ba.1 ho).1;have:=(hlist x hlt).2 (.inl ω);have h2:=Bu h0;rw[am,h2]at this;cases this
 | cons o l ih=>
  intro k fuel listed a w hl hk hc hs hlist hf h
  have hko:ops[k]?=some o:=by
   have:(ops.toList.drop k)[0]?=some o:=by rw[hl];rfl
   simpa using this
  have hklt:k<ops.size:=(ba.1 hko).1;by_cases hkpu:pu.contains k=true
  ·obtain⟨z1,z2,v,z3⟩:=hp.zap k o hko hk hkpu;refine ih (k+1) fuel listed a w (by rw[<-drop_drop,hl];rfl) ω hc hs (λj hj=>?_) hf ?_
   ·rw[hlist j hj];constructor
    ·rintro(h1|h1)
     ·exact .inl ω
     ·exact .inr h1
    ·rintro(h1|h1)
     ·by_cases hjk:j=k
      ·subst hjk;exact .inr hkpu
      ·exact .inl ω
     ·exact .inr h1
   ·unfold wpList at h;rw[ac (by simp[Region.wanted,z2])]at h;have hrun:(execOp a.eval o).run P w=.ok (.value v) w:=by simp[execOp,z3,Act.eval]
    rcases h with h|h
    ·unfold Oper.wp at h;rw[hrun]at h;simp only[Oper.upon,z1,Act.put]at h;exact h
    ·have h1:=h.1.1;have e1:execOp a.eval o=(pure (Next.value v):Sem Next):=by simp only[execOp,z3,Act.eval]
     rw[e1]at h1;have e2:(Sem.runT P (pure (Next.value v):Sem Next) w #[]).2=#[]:=rfl;rw[e2]at h1;exact jt h1 σ
  have hkpu':pu.contains k=false:=by simpa using hkpu
  have hkf:listed[k]?=some false:=by
   have hlt:k<listed.size:=ω
   cases e:listed[k] with
   | false=>simp[hlt,e]
   | true=>
    have:=(hlist k hklt).1 (by rw[am];simp[hlt,e]);rcases this with h1|h1
    ·omega
    ·exact jt h1 hkpu
  have hl1:=Jp hkf;cases fuel with
  | zero=>omega
  | succ fuel=>
   have hready:∀j∈Region.ready .any ops listed,j=k:=by
    intro j hj;obtain⟨h0,o',ho',_⟩:=mem_ready.1 hj;have hjlt:=(ba.1 ho').1
    have hjn:¬(j<k\/pu.contains j=true):=λhc=>by have:=(hlist j hjlt).2 hc;rw[am,Bu h0]at this;cases this
    have hjk:¬j<k:=λhc=>hjn (.inl hc)
    have hjpu:pu.contains j=false:=by
     cases e:pu.contains j with
     | false=>rfl
     | true=>exact jt (.inr e) hjn
    by_cases hjk':j=k
    ·exact hjk'
    ·have:=Kr hc hj ((hp.tail j k hjlt ω hjpu ω).resolve_left hkpu);rw[am,hkf]at this;cases this
   have hkr:k∈Region.ready .any ops listed:=mem_ready.2 ⟨by rw[am,hkf];rfl,o,hko,λe he hb=>(hlist e.on (by have:=hp.backs k o hko e he hb;omega)).2 (.inl (hp.backs k o hko e he hb))⟩;refine⟨λh0=>(by rw[h0]at hkr;cases hkr),λj hj=>?_⟩;obtain rfl:=hready j hj
   have hnext:∀a w,wpList P ops Q l a w->wpAny P .any ops Q fuel (listed.setIfInBounds j true) a w:=λa w hw=>by
    refine ih (j+1) fuel _ a w ?_ ω (hc.set hkr) (by simpa using hs) ?_ ω hw
    ·rw[<-drop_drop,hl];rfl
    ·intro i hi;by_cases hij:i=j
     ·subst hij;have:i<listed.size:=ω
      simp[am,this]
     ·rw[am,cw (fw hij),<-am,hlist i hi];constructor
      ·rintro(h1|h1)
       ·exact .inl ω
       ·exact .inr h1
      ·rintro(h1|h1)
       ·exact .inl ω
       ·exact .inr h1
   unfold wpOp;simp only[hko];unfold wpList at h;split
   ·rename_i hw;rw[ac hw]at h;exact h.imp (Oper.wp_mono hnext) id
   ·rename_i hw;rw[aa hw]at h;exact hnext _ _ h
def DQ(pl:List OS)(dst:Nat->Option Nat)(γ:Nat->Nat)(j:Nat):List Hp:=
 match pl[j]?,dst j with
 | some (.inr (.inr x)),some d=>[Bh (γ d) x.1.1 x.1.2]
 | _,_=>[]
def Rel(h:Hp)(γ:Nat->Nat)(d:Nat)(u:Value):OS->Prop
 | .inl v=>u=v
 | .inr (.inl V)=>AbR V/\V h u
 | .inr (.inr x)=>u=x.2 (γ d)
structure Mid(e:Entry)(pu:List Nat)(ops:Array Oper)(np:Nat)(pl:List OS)(s0:AF)(h0:Hp)(ms:List Hp)(listed:Array Bool)(a:Act)(w:World)(h:Hp)(γ:Nat->Nat):Prop where
 le:h0.le h
 ends:e.Ends w h (((range np).flatMap λj=>if listed.getD j false then DQ pl (Bt ops) γ j else [])++ms)
 defers:a.defers=mkD e.ds
 size:a.tmps.size=e.n
 old:∀t u,lk s0 t=some u->(∀j,j<np->Bt ops j≠some t)->a.tmps[t]?=some u
 new:∀j,j<np->listed.getD j false=true->∀d,Bt ops j=some d->∃u st,a.tmps[d]?=some u/\pl[j]?=some st/\Rel h γ d u st
 later:∀j,np<=j->listed.getD j false=pu.contains j
 lsize:listed.size=ops.size
 closed:Closed ops listed
 pure:∀j,pu.contains j=true->listed.getD j false=true
theorem CJ(a s:AF)(t:Nat):lk (a++s) t=(lk a t).or (lk s t):=by
 induction a with
 | nil=>simp[lk]
 | cons p a ih=>
  obtain⟨i,v⟩:=p;by_cases hi:i=t
  ·subst hi;rw[bl,BL,BL];rfl
  ·rw[bl,BF _ _ hi,BF _ _ hi,ih]
theorem OQ:∀(s:AF) (t:Nat) (u:Value),lk s t=some u->(t,u)∈s
 | (i,v)::s,t,u,h=>by
  by_cases hi:i=t
  ·subst hi;rw[BL]at h;cases h;exact bu
  ·rw[BF _ _ hi]at h;exact bh _ (OQ s t u h)
theorem Ends.grow{w0 w w':World}{h0 h h1 h1':Hp}{ms0 ms:List Hp}(H:Ends w0 h0 ms0 w h ms)(hl:h1.le h)(hl':h1.le h1')(hin:h1'.inW w')(hold:∀k,k<w.heap.size->h1' k=h1 k)(he:Ext w w') :
  h.le (h.join h1')/\h1'.le (h.join h1')/\Ends w0 h0 ms0 w' (h.join h1') ms:=by
 have H':=H.ext he
 have e1:∀k,k<w.heap.size->(h.join h1') k=h k:=λk hk=>by
  unfold Hp.join;cases e:h k with
  | some o=>rfl
  | none=>
   simp only;rw[hold k hk];cases e2:h1 k with
   | none=>rfl
   | some o=>rw[hl k o e2]at e;cases e
 refine⟨Hp.le_join _ _,?_,⟨⟨?_,H'.st.own,?_,H'.st.apart⟩,H'.os,H'.tape,H'.output,H'.size,H'.block,Hp.le_trans H'.le (Hp.le_join _ _),?_,H'.mnew⟩⟩
 ·intro k o e;rcases eh k w.heap.size with hk|hk
  ·rw[e1 k hk];rw[hold k hk]at e;exact hl k o e
  ·have:h k=none:=Hp.inW_none H.st.imm hk;simp[Hp.join,this,e]
 ·intro k o e;unfold Hp.join at e;split at e
  ·rename_i o' e';cases e;exact H'.st.imm k _ e'
  ·exact hin k o e
 ·intro m hm k;cases e:m k with
  | none=>exact .inl Y
  | some o=>
   right
   have hk:k<w.heap.size:=Hp.inW_lt (H.st.own m hm) e;rw[e1 k hk];rcases H.st.off m hm k with e2|e2
   ·rw[e2]at e;cases e
   ·exact e2
 ·intro k hk hm;rw[e1 k (fz hk H.size)];exact H.hnew k hk hm
theorem St.weaken{w:World}{h h1:Hp}{ms ms1:List Hp}(s:St w h ms)(hl:h1.le h)(hm:ms1.Sublist ms):St w h1 ms1:=
 ⟨λg o e=>s.imm g o (hl g o e),λm h'=>s.own m (hm.subset h'),λm h' k=>by
  rcases s.off m (hm.subset h') k with e|e
  ·exact .inl e
  ·right
   cases e2:h1 k with
   | none=>rfl
   | some o=>(rw[hl k o e2]at e;cases e),s.apart.sublist hm⟩
theorem Ends.back{w0 w w1:World}{h0 h h1:Hp}{ms0 ms ms1:List Hp}(H:Ends w0 h0 ms0 w h ms)(H1:Ends w0 h0 ms0 w1 h1 ms1)(hl:h1.le h):Ends w0 h0 ms0 w h1 ms:=
 ⟨H.st.weaken hl (List.Sublist.refl _),H.os,H.tape,H.output,H.size,H.block,H1.le,H1.hnew,H.mnew⟩
theorem OpRes.congr{P:Program}{o:Oper}{ρ ρ':Operand->Value}{w:World}{Φ:Value->World->Prop}(hs:∀cs b,o.op≠.select cs b)(h:∀x∈o.op.operands,ρ x=ρ' x)(k:OpRes P o ρ w Φ):OpRes P o ρ' w Φ:=by unfold OpRes at *;rwa [<-execOp_congr o hs h]
theorem Act.eval_of_slot{a:Act}{t:Nat}{u:Value}(h:a.tmps[t]?=some u):a.eval (.tmp t)=u:=by simp only[Act.eval];rw[am,h];rfl
theorem OpRes.looks{P:Program}{ops:Array Oper}{o:Oper}{a:Act}{w:World}{s:AF}{Φ:Value->World->Prop}(hs:∀cs b,o.op≠.select cs b)(hl:∀t∈o.looksAt ops,∀u,lk s t=some u->a.tmps[t]?=some u)
  (k:∀ρ,Evs s ρ->OpRes P o ρ w Φ):OpRes P o a.eval w Φ:=by
 classical
 refine OpRes.congr (ρ:=λx=>if x∈o.op.operands then a.eval x else(ev s x).getD undef) hs (λx hx=>ac hx) (k _ λx u hu=>?_);show(if x∈o.op.operands then a.eval x else(ev s x).getD undef)=u;split
 ·rename_i hx;cases x with
  | tmp t=>
   refine Act.eval_of_slot (hl t ?_ u hu);exact fe _ (jd.2 ⟨.tmp t,by simpa using hx,rfl⟩)
  | const v=>cases hu;rfl
  | global g=>cases hu;rfl
  | func f=>cases hu;rfl
 ·rw[hu];rfl
theorem Ke{α:Type}(x:α)(f f':Nat->List α)(i:Nat):∀(l:List Nat),l.Nodup->i∈l->(∀j∈l,j≠i->f' j=f j)->f i=[]->f' i=[x]->(x::l.flatMap f).Perm (l.flatMap f')
 | [],_,h,_,_,_=>by cases h
 | j::l,hn,hi,ho,e1,e2=>by
  simp only[fp];by_cases hj:j=i
  ·subst hj;rw[e1,e2];have hnot:j ∉ l:=(gw.1 hn).1
   have:l.flatMap f'=l.flatMap f:=by
    have:∀(l':List Nat),(∀k∈l',k≠j/\k∈j::l)->l'.flatMap f'=l'.flatMap f:=by
     intro l'
     induction l' with
     | nil=>intro _;rfl
     | cons k l' ih=>intro hk;simp only[fp];rw[ho k (hk k σ).2 (hk k σ).1,ih λk' hk'=>hk k' (bh _ hk')]
    exact this l λk hk=>⟨λe=>hnot (e ▸ hk),bh _ hk⟩
   rw[this];exact ik _
  ·rw[ho j σ hj];have hil:i∈l:=(aq.1 hi).resolve_left (λe=>hj e.symm);have:=Ke x f f' i l (gw.1 hn).2 hil (λk hk hne=>ho k (bh _ hk) hne) e1 e2;exact(List.perm_middle.symm).trans (List.Perm.append_left _ this)
theorem FE{α:Type}(f f':Nat->List α):∀(l:List Nat),(∀j∈l,f' j=f j)->l.flatMap f'=l.flatMap f
 | [],_=>rfl
 | j::l,h=>by simp only[fp];rw[h j σ,FE f f' l λk hk=>h k (bh _ hk)]
theorem Su(γ:Nat->Nat):∀(l:List Oper) (pl:List OS),pl.length=l.length →
  (range l.length).flatMap (λj=>DQ pl (λj=>(l[j]?).bind (·.dst)) γ j)=QX (DH l pl) γ
 | [],[],_=>rfl
 | o::l,st::pl,h=>by
  have ih:=Su γ l pl (by simpa using h);rw[List.length_cons,List.range_succ_eq_map,fp,List.flatMap_map]
  have ih':(range l.length).flatMap (λa=>DQ (st::pl) (λj=>((o::l)[j]?).bind (·.dst)) γ (Nat.succ a))=QX (DH l pl) γ:=by rw[<-ih];refine FE _ _ _ λj _=>?_;simp[DQ]
  rw[ih'];rcases st with v|V|x
  ·simp[DH,DQ]
  ·simp[DH,DQ]
  ·cases hd:o.dst with
   | none=>simp[DH,hd,DQ]
   | some d=>simp[DH,hd,QX,DQ]
section sound
variable {e:Entry} {pu:List Nat} {ops:Array Oper} {np:Nat} {pl:List OS} {s0:AF} {h0:Hp} {ms:List Hp} {listed:Array Bool} {a:Act} {w:World} {h:Hp} {γ:Nat->Nat}
theorem Mid.look(M:Mid e pu ops np pl s0 h0 ms listed a w h γ)(hp:Pre pu ops np)(hlen:pl.length=np)(hf:∀j,j<np->∀d,Bt ops j=some d->lk s0 d=none){i:Nat}{o:Oper}(hi:ops[i]?=some o)(hin:i<np)(hr:i∈Region.ready .any ops listed){t:Nat}(ht:t∈o.looksAt ops){u:Value}
  (hu:lk (D1 (ops.toList.take i) (pl.take i) s0) t=some u):a.tmps[t]?=some u:=by
 rcases I7 _ _ _ _ _ hu with ⟨j,o',h1,h2,h3⟩|h1
 ·have hji:j<i:=by
   have:=(bg.1 h1).1;simp at this;omega
  have hoj:ops[j]?=some o':=by rw[f8,ac hji]at h1;simpa using h1
  have hplj:pl[j]?=some (.inl u):=by rw[f8,ac hji]at h3;exact h3
  have hd:Bt ops j=some t:=by simp[Bt,hoj,h2]
  obtain⟨_,hed⟩:=hp.look i o t j hi hin ht ω hd;obtain⟨u',st,e1,e2,e3⟩:=M.new j ω (Lc hi hr hed) t hd;rw[hplj]at e2;cases e2;simp only[Rel]at e3;rw[e1,e3]
 ·exact M.old t u h1 λj hj hd=>by rw[hf j hj t hd]at h1;cases h1
theorem Mid.lookQ(M:Mid e pu ops np pl s0 h0 ms listed a w h γ)(hp:Pre pu ops np){i:Nat}{o:Oper}(hi:ops[i]?=some o)(hin:i<np)(hr:i∈Region.ready .any ops listed){d:Nat}{V:VP}(hd:d∈o.looksAt ops)(hq:(d,V)∈D3 (ops.toList.take i) (pl.take i)) :
  ∃u,a.tmps[d]?=some u/\V h u:=by
 obtain⟨j,o',h1,h2,h3⟩:=Gp _ _ _ _ hq
 have hji:j<i:=by have:=(bg.1 h1).1;simp at this;omega
 have hoj:ops[j]?=some o':=by rw[f8,ac hji]at h1;simpa using h1
 have hplj:pl[j]?=some (.inr (.inl V)):=by rw[f8,ac hji]at h3;exact h3
 have hdj:Bt ops j=some d:=by simp[Bt,hoj,h2]
 obtain⟨_,hed⟩:=hp.look i o d j hi hin hd ω hdj;obtain⟨u',st,e1,e2,e3⟩:=M.new j ω (Lc hi hr hed) d hdj;rw[hplj]at e2;cases e2;exact⟨u',e1,e3.2⟩
theorem Rel.le{h h':Hp}{γ:Nat->Nat}{d:Nat}{u:Value}{st:OS}(hl:h.le h')(r:Rel h γ d u st):Rel h' γ d u st:=by
 rcases st with v|V|x
 ·exact r
 ·exact⟨r.1,r.1 _ _ _ hl r.2⟩
 ·exact r
theorem Mid.next(M:Mid e pu ops np pl s0 h0 ms listed a w h γ)(hp:Pre pu ops np)(hlen:pl.length=np){i:Nat}{o:Oper}(hi:ops[i]?=some o)(hin:i<np)(hr:i∈Region.ready .any ops listed)(hun:listed.getD i true=false)(hbig:∀d,o.dst=some d->d<e.n){st:OS}(hst:pl[i]?=some st){u:Value}{w':World}{h':Hp}{γ':Nat->Nat}
  (hl:h.le h') (hγ:∀d,o.dst≠some d->γ' d=γ d) (hγ0:(∀x,st≠.inr (.inr x))->γ'=γ) (hR:∀d,o.dst=some d->Rel h' γ' d u st)
  (hE:e.Ends w' h' (DQ pl (Bt ops) γ' i++(((range np).flatMap λj=>if listed.getD j false then DQ pl (Bt ops) γ j else [])++ms))) :
  Mid e pu ops np pl s0 h0 ms (listed.setIfInBounds i true) (a.put o.dst u) w' h' γ':=by
 have hilt:i<listed.size:=by rw[M.lsize];exact(ba.1 hi).1
 have hdi:Bt ops i=o.dst:=by simp[Bt,hi]
 have hset:∀j d,(listed.setIfInBounds i true).getD j d=if j=i then true else listed.getD j d:=λj d=>by
  by_cases hj:j=i
  ·subst hj;simp[hilt]
  ·rw[getD_set_ne d (fw hj)];simp[hj]
 have hli:listed.getD i false=false:=by rw[am,Bu hun];rfl
 have hresj:∀j,j≠i->j<np->DQ pl (Bt ops) γ' j=DQ pl (Bt ops) γ j:=λj hj hjn=>by
  unfold DQ;split
  ·rename_i x d e1 e2;rw[hγ d (λe3=>hj (hp.uniq i j o d hi hin hjn e3 e2))]
  ·rfl
 refine⟨Hp.le_trans M.le hl,?_,by cases hd:o.dst<;>exact M.defers,?_,?_,?_,?_,by simpa using M.lsize,M.closed.set hr,λj hj=>getD_set_true (M.pure j hj)⟩
 ·-- resources
  cases hr:DQ pl (Bt ops) γ' i with
  | nil=>
   rw[hr,ay]at hE;refine Ends.perm hE (List.Perm.of_eq ?_);congr 1;refine(FE _ _ _ λj hj=>?_).symm;rw[hset];by_cases hji:j=i
   ·subst hji;simp[hli,hr]
   ·simp only[hji,i8];split
    ·exact hresj j hji (by simpa using hj)
    ·rfl
  | cons x xs=>
   have hx:xs=[]:=by
    unfold DQ at hr;split at hr
    ·simp at hr;exact hr.2
    ·cases hr
   subst hx;rw[hr,List.singleton_append,<-bl]at hE;refine Ends.perm hE (List.Perm.append_right _ ?_);refine Ke x _ _ i _ ig (by simpa using hin) ?_ (by simp[hli]) (by rw[hset];simp[hr]);intro j hj hji;rw[hset];simp only[hji,i8];split
   ·exact hresj j hji (by simpa using hj)
   ·rfl
 ·cases hd:o.dst<;>simp[Act.put,M.size]
 ·intro t v hv hno;have hne:o.dst≠some t:=by rw[<-hdi];exact hno i hin
  cases hd:o.dst with
  | none=>exact M.old t v hv hno
  | some d=>
   have:d≠t:=λe=>hne (by rw[hd,e]);simp[Act.put,cw this,M.old t v hv hno]
 ·intro j hj hlj d hd;by_cases hji:j=i
  ·subst hji;rw[hdi]at hd;refine⟨u,st,?_,hst,hR d hd⟩;rw[hd];simp[Act.put,M.size,hbig d hd]
  ·rw[hset]at hlj;simp only[hji,i8]at hlj;obtain⟨u',st',e1,e2,e3⟩:=M.new j hj hlj d hd;have hne:o.dst≠some d:=λe'=>hji (hp.uniq i j o d hi hin hj e' hd);refine⟨u',st',?_,e2,?_⟩
   ·cases hd':o.dst with
    | none=>exact e1
    | some d'=>
     have:d'≠d:=λe=>hne (by rw[hd',e]);simp[Act.put,cw this,e1]
   ·have:=Rel.le hl e3;rcases st' with v|V|x
    ·exact this
    ·exact this
    ·simp only[Rel]at this ⊢;rw[hγ d hne];exact this
 ·intro j hj;rw[hset];have:j≠i:=ω
  simp only[this,i8];exact M.later j hj
theorem FK{s:AF}{o:Oper}{b:Bool}(hl:∀t∈o.looksAt ops,∀u,lk s t=some u->a.tmps[t]?=some u)(h:Wants ops o s b):Region.wanted o (yielded ops a.tmps)=b:=by
 unfold Wants at h;unfold Region.wanted;cases hg:o.guard with
 | none=>simp only[hg]at h;simp[h]
 | some p=>
  obtain⟨j,want⟩:=p;simp only[hg]at h
  have hlk:∀dj u,Bt ops j=some dj->lk s dj=some u->a.tmps[dj]?=some u:=λdj u e1 e2=>by refine hl dj ?_ _ e2;unfold Oper.looksAt;refine fq _ ?_;simp only[hg];unfold Bt at e1;rw[e1];simp
  rcases h with ⟨dj,b',e1,e2,e3⟩|⟨dj,e1,e2,e3⟩
  rotate_left
  ·have h1:=hlk dj _ e1 e2
   have hy:yielded ops a.tmps j=none:=by unfold yielded;unfold Bt at e1;rw[e1];simp[h1,undef]
   simp only[hy,e3];rfl
  have h1:a.tmps[dj]?=some (.bool b'):=hlk dj _ e1 e2
  have hy:yielded ops a.tmps j=some b':=by unfold yielded;unfold Bt at e1;rw[e1];simp[h1]
  simp only[hy,e3];cases b'<;>cases want<;>rfl
theorem Mid.step(M:Mid e pu ops np pl s0 h0 ms listed a w h γ)(hp:Pre pu ops np)(hlen:pl.length=np)(hf:∀j,j<np->∀d,Bt ops j=some d->lk s0 d=none)(hbig:∀j,j<np->∀d,Bt ops j=some d->d<e.n){i:Nat}{o:Oper}(hi:ops[i]?=some o)(hin:i<np)(hr:i∈Region.ready .any ops listed)
  {st:OS} (hst:pl[i]?=some st) (hok:StpOK e.P ops h0 ms o (D1 (ops.toList.take i) (pl.take i) s0) (D3 (ops.toList.take i) (pl.take i)) st) {Q:Exit->Act->World->Prop} {K:Act->World->Prop}
  (hK:∀a' w' h' γ',Mid e pu ops np pl s0 h0 ms (listed.setIfInBounds i true) a' w' h' γ'->K a' w'):wpOp e.P ops Q i K a w:=by
 have hun:=(mem_ready.1 hr).1;have hdi:Bt ops i=o.dst:=by simp[Bt,hi]
 have hbig':∀d,o.dst=some d->d<e.n:=λd hd=>hbig i hin d (by rw[hdi,hd]);have hlook:=λ(t:Nat) (ht:t∈o.looksAt ops) (u:Value) hu=>M.look hp hlen hf hi hin hr ht (u:=u) hu;have hsel:∀cs b,o.op≠.select cs b:=λcs b=>Region.noSelect_spec hp.nosel i o cs b hi;have hst0:St w h0 ms:=M.ends.st.weaken M.le (List.sublist_append_right _ _);have hsth:St w h ms:=M.ends.st.weaken (Hp.le_refl _) (List.sublist_append_right _ _);unfold wpOp;simp only[hi]
 have hresX:(∀x,st≠.inr (.inr x))->DQ pl (Bt ops) γ i=[]:=λhne=>by
  unfold DQ;rw[hst];rcases st with v|V|x
  ·rfl
  ·rfl
  ·exact jt Y (hne x)
 have hvalQ:∀q',(∀p∈q',p∈D3 (ops.toList.take i) (pl.take i)/\p.1∈o.looksAt ops)->W9 q' (λd=>(a.tmps[d]?).getD undef) h/\∀t∈o.looksAt ops,∀u,lk (Nz q' (λd=>(a.tmps[d]?).getD undef)++D1 (ops.toList.take i) (pl.take i) s0) t=some u->a.tmps[t]?=some u:=λq' hq'=>by
  refine⟨λd V hdV=>?_,λt ht u hu=>?_⟩
  ·obtain⟨h1,h2⟩:=hq' _ hdV;obtain⟨u,e1,e2⟩:=M.lookQ hp hi hin hr h2 h1;simp only[e1];exact e2
  ·rw[CJ]at hu;cases hq:lk (Nz q' λd=>(a.tmps[d]?).getD undef) t with
   | none=>rw[hq]at hu;exact hlook t ht u hu
   | some u'=>
    rw[hq]at hu;cases hu;have hm:=OQ _ _ _ hq;unfold Nz at hm;obtain⟨p,hp',e1⟩:=ad.1 hm;obtain⟨d,V⟩:=p;simp only[Prod.mk.injEq]at e1;obtain⟨rfl,rfl⟩:=e1;obtain⟨h1,h2⟩:=hq' _ hp';obtain⟨u,e1,e2⟩:=M.lookQ hp hi hin hr h2 h1;simp[e1]
 -- an exact value,or none
 have exact_:∀v,st=.inl v->∀w',Ext w w'->K (a.put o.dst v) w':=λv hv w' he=>by subst hv;refine hK _ _ h γ (M.next hp hlen hi hin hr hun hbig' hst (Hp.le_refl _) (λ_ _=>rfl) (λ_=>rfl) (λd _=>rfl) ?_);rw[hresX (λx hx=>by cases hx),ay];exact Ends.ext M.ends he
 rcases st with v|V|x
 ·rcases hok with ⟨hw,hx⟩|⟨hw,q',hq',hx⟩|⟨hw,rfl⟩
  ·rw[FK hlook hw,ac rfl];exact .inl ((OpRes.looks hsel hlook λρ hρ=>hx ρ w hρ hst0).wp λv' w' ⟨e1,e2⟩=>by subst e1;exact exact_ _ Y w' e2)
  ·rw[FK hlook hw,ac rfl];obtain⟨hsat,hlook'⟩:=hvalQ q' hq';exact .inl ((OpRes.looks hsel hlook' λρ hρ=>hx h M.le _ hsat ρ w hρ hsth).wp λv' w' ⟨e1,e2⟩=>by subst e1;exact exact_ _ Y w' e2)
  ·rw[FK hlook hw,aa σ];exact exact_ _ Y w (Ext.refl _)
 ·obtain⟨hw,hmono,hx⟩:=hok;rw[FK hlook hw,ac rfl]
  have fin:∀(h1:Hp) (u:Value) (w':World),h1.le h->(∃h':Hp,h1.le h'/\h'.inW w'/\(∀k,k<w.heap.size->h' k=h1 k)/\Ext w w'/\V h' u)->K (a.put o.dst u) w':=λh1 u w' hl ⟨h',g1,g2,g3,g4,g5⟩=>by obtain⟨l1,l2,E⟩:=Ends.grow M.ends hl g1 g2 g3 g4;refine hK _ _ _ γ (M.next hp hlen hi hin hr hun hbig' hst l1 (λ_ _=>rfl) (λ_=>rfl) (λd _=>⟨hmono,hmono _ _ _ l2 g5⟩) ?_);rw[hresX (λx hx=>by cases hx),ay];exact E
  rcases hx with hx|⟨q',hq',hx⟩
  ·exact .inl ((OpRes.looks hsel hlook λρ hρ=>hx ρ w hρ hst0).wp λu w' hh=>fin h0 u w' M.le hh)
  ·obtain⟨hsat,hlook'⟩:=hvalQ q' hq';exact .inl ((OpRes.looks hsel hlook' λρ hρ=>hx h M.le _ hsat ρ w hρ hsth).wp λu w' hh=>fin h u w' (Hp.le_refl _) hh)
 ·obtain⟨hw,⟨d,hd⟩,hx⟩:=hok;rw[FK hlook hw,ac rfl];refine .inl ((OpRes.looks hsel hlook λρ hρ=>hx ρ w hρ hst0).wp λu w' ⟨e1,e2⟩=>?_);subst e1 e2;refine hK _ _ h (λy=>if y=d then w.heap.size else γ y) (M.next hp hlen hi hin hr hun hbig' hst (Hp.le_refl _) (λy hy=>?_) (λhne=>jt Y (hne _)) (λy hy=>?_) ?_)
  ·have:y≠d:=λe=>hy (by rw[hd,e]);simp[this]
  ·rw[hd]at hy;cases hy;simp[Rel]
  ·have hres:DQ pl (Bt ops) (λy=>if y=d then w.heap.size else γ y) i=[Bh w.heap.size x.1.1 x.1.2]:=by
    unfold DQ;rw[hst,hdi,hd];simp
   rw[hres,List.singleton_append];exact Ends.alloc M.ends _
theorem Mid.any(hp:Pre pu ops np)(hlen:pl.length=np)(hf:∀j,j<np->∀d,Bt ops j=some d->lk s0 d=none)(hbig:∀j,j<np->∀d,Bt ops j=some d->d<e.n)
  (hplan:∀i o,i<np->ops[i]?=some o->∃st,pl[i]?=some st/\StpOK e.P ops h0 ms o (D1 (ops.toList.take i) (pl.take i) s0) (D3 (ops.toList.take i) (pl.take i)) st) {Q:Exit->Act->World->Prop}
  (hend:∀listed a w h γ,Mid e pu ops np pl s0 h0 ms listed a w h γ->(∀j,j<np->listed.getD j false=true)->wpList e.P ops Q (ops.toList.drop np) a w) :
  ∀fuel listed a w h γ,Mid e pu ops np pl s0 h0 ms listed a w h γ->left listed<=fuel->wpAny e.P .any ops Q fuel listed a w:=by
 have alldone:∀fuel listed a w h γ,Mid e pu ops np pl s0 h0 ms listed a w h γ->left listed<=fuel->(∀j,j<np->listed.getD j false=true)->wpAny e.P .any ops Q fuel listed a w:=by
  intro fuel listed a w h γ M hle hall;refine V0 hp _ np fuel listed a w Y (au _) M.closed M.lsize (λj hj=>⟨λh1=>?_,λh1=>h1.elim (hall j) (M.pure j)⟩) hle (hend _ _ _ _ _ M hall);rcases eh j np with h2|h2
  ·exact .inl h2
  ·rw[M.later j h2]at h1;exact .inr h1
 intro fuel
 induction fuel with
 | zero=>
  intro listed a w h γ M hle;refine alldone 0 listed a w h γ M hle λj hj=>?_;have h1:=J8 (show left listed=0 by omega) j;have hjlt:j<listed.size:=by rw[M.lsize];exact fz hj hp.le
  rw[am]at h1 ⊢;simp[hjlt]at h1 ⊢;exact h1
 | succ fuel ih=>
  intro listed a w h γ M hle;by_cases hall:∀j,j<np->listed.getD j false=true
  ·exact alldone _ listed a w h γ M hle hall
  ·-- the least that is left is ready
   have hex:∃j,j<np/\listed.getD j false=false:=by
    apply bc;intro hne
    exact hall λj hj=>by
     cases hl:listed.getD j false with
     | true=>rfl
     | false=>exact jt ⟨j,hj,hl⟩ hne
   obtain⟨k,hk,hkl,hmin⟩:∃k,k<np/\listed.getD k false=false/\∀j,j<k->listed.getD j false=true:=by
    obtain⟨j,hj,hl⟩:=hex
    have:∀n j,j<=n->j<np->listed.getD j false=false->∃k,k<np/\listed.getD k false=false/\∀i,i<k->listed.getD i false=true:=by
     intro n
     induction n with
     | zero=>intro j hjn hj hl;exact⟨j,hj,hl,λi hi=>ω⟩
     | succ n ihn=>
      intro j hjn hj hl;by_cases hc:∃i,i<j/\listed.getD i false=false
      ·obtain⟨i,hi,hil⟩:=hc;exact ihn i ω ω hil
      ·refine⟨j,hj,hl,λi hi=>?_⟩;cases hil:listed.getD i false with
       | true=>rfl
       | false=>exact jt ⟨i,hi,hil⟩ hc
    exact this j j (au _) hj hl
   have hko:∃o,ops[k]?=some o:=⟨ops[k]'(fz hk hp.le),by simp[fz hk hp.le]⟩
   obtain⟨ok,hko⟩:=hko
   have hkr:k∈Region.ready .any ops listed:=by
    refine mem_ready.2 ⟨?_,ok,hko,λed hed hb=>hmin _ (hp.backs k ok hko ed hed hb)⟩;have hklt:k<listed.size:=by rw[M.lsize];exact fz hk hp.le
    rw[am]at hkl ⊢;simp[hklt]at hkl ⊢;exact hkl
   refine⟨λh0'=>(by rw[h0']at hkr;cases hkr),λi hir=>?_⟩;obtain⟨hun,o,ho,_⟩:=mem_ready.1 hir
   have hin:i<np:=by
    rcases eh i np with h2|h2
    ·exact h2
    ·have hipu:pu.contains i=false:=by
      rw[<-M.later i h2];rw[am,Bu hun];rfl
     have:=Kr M.closed hir ((hp.tail i k (ba.1 ho).1 h2 hipu ω).resolve_left λh'=>by have:=M.pure k h';rw[hkl]at this;cases this);rw[hkl]at this;cases this
   obtain⟨st,hst,hok⟩:=hplan i o hin ho;have hls:=Jp (Bu hun);exact M.step hp hlen hf hbig ho hin hir hst hok λa' w' h' γ' M'=>ih _ a' w' h' γ' M' ω
end sound
def J6(n:Nat):List Oper->AF->Bool
 | [],_=>true
 | o::l,s=>(match o.dst with|some d=>(match lk s d with|none=>true|some _=>false)&&Nat.blt d n|none=>true)&&J6 n l s
theorem Kh{n:Nat}:∀(l:List Oper) (s:AF),J6 n l s=true->∀(j:Nat) (o:Oper) (d:Nat),l[j]?=some o->o.dst=some d->lk s d=none/\d<n
 | [],_,_,j,o,d,h,_=>by cases h
 | o::l,s,H,j,o',d,h,hd=>by
  simp only[J6,bo]at H;cases j with
  | zero=>
   simp at h;subst h;have h1:=H.1;simp only[hd,bo]at h1;refine⟨?_,dd h1.2⟩;cases hl:lk s d with
   | none=>rfl
   | some v=>rw[hl]at h1;cases h1.1
  | succ j=>exact Kh l s H.2 j o' d (by simpa using h) hd
theorem Q1{e:Entry}{pu:List Nat}{l:List Oper}{Q:Exit->Act->World->Prop}{s:AF}{h:Hp}{ms:List Hp}(np:Nat)(hp:Q3 pu l.toArray np=true)(hf:J6 e.n (l.take np) s=true)
  (k:WR e l.toArray Q (l.drop np) h ms (l.take np) s [] []) {listed:Array Bool} (hl1:listed.size=l.length) (hl2:∀i,listed.getD i false=pu.contains i) (hl3:Closed l.toArray listed) (hl4:∀i,pu.contains i=true->Bt l.toArray i=none) {fuel:Nat} (hfu:left listed<=fuel)
  {a:Act} {w:World} (ha:Has e.n e.ds a s) (hw:e.Ends w h ms):wpAny e.P .any l.toArray Q fuel listed a { w with drawn:=w.drawn+1 }:=by
 have P:=LO hp;have hnp:np<=l.length:=by simpa using P.le
 obtain⟨pl,hlen,hplan,hfin⟩:=KK _ _ _ _ k;have hlen':pl.length=np:=by rw[hlen,List.length_take];omega
 have hd:∀j d,j<np->Bt l.toArray j=some d->lk s d=none/\d<e.n:=λj d hj hd=>by
  unfold Bt at hd;simp only[gu]at hd;cases ho:l[j]? with
  | none=>rw[ho]at hd;cases hd
  | some o=>
   rw[ho]at hd;exact Kh _ _ hf j o d (by rw[f8,ac hj];exact ho) hd
 have hw1:e.Ends { w with drawn:=w.drawn+1 } h ms:=Ends.drew hw
 have M0:Mid e pu l.toArray np pl s h ms listed a { w with drawn:=w.drawn+1 } h (λ_=>0):=by
  refine⟨Hp.le_refl _,?_,ha.defers,ha.size,λt u hu _=>ha.slots t u hu,λj _ hj d hd=>?_,λj hj=>?_,by simpa using hl1,hl3,λj hj=>by rw[hl2];exact hj⟩
  ·have:(range np).flatMap (λj=>if listed.getD j false then DQ pl (Bt l.toArray) (λ_=>0) j else [])=[]:=by
    rw[List.flatMap_eq_nil_iff];intro j _;rw[hl2];cases hc:pu.contains j with
    | false=>rfl
    | true=>simp only[im];unfold DQ;rw[hl4 j hc];split<;>first|rfl|(rename_i hh;cases hh)
   rw[this];exact hw1
  ·rw[hl2]at hj;rw[hl4 j hj]at hd;cases hd
  ·exact hl2 j
 refine(Mid.any P hlen' (λj hj d hdj=>(hd j d hj hdj).1) (λj hj d hdj=>(hd j d hj hdj).2) ?_ ?_ _ _ _ _ _ _ M0 hfu)
 ·intro i o hi ho;have ho':(l.take np)[i]?=some o:=by rw[f8,ac hi];simpa using ho
  obtain⟨st,e1,e2⟩:=PlanOK.get _ _ _ _ hplan i o ho';refine⟨st,e1,?_⟩;have e3:(l.take np).take i=l.toArray.toList.take i:=by rw[List.take_take];congr 1;omega
  rw[e3]at e2;simpa using e2
 ·intro listed a w h' γ M hall
  have hfd:∀t u,lk (D1 (l.take np) pl s) t=some u->a.tmps[t]?=some u:=λt u hu=>by
   rcases I7 _ _ _ _ _ hu with ⟨j,o,h1,h2,h3⟩|h1
   ·have hj:j<np:=by
     have:=(bg.1 h1).1;simp at this;omega
    have hdj:Bt l.toArray j=some t:=by rw[f8,ac hj]at h1;simp[Bt,h1,h2]
    obtain⟨u',st,e1,e2,e3⟩:=M.new j hj (hall j hj) t hdj;rw[h3]at e2;cases e2;simp only[Rel]at e3;rw[e1,e3]
   ·exact M.old t u h1 λj hj hdj=>by rw[(hd j t hj hdj).1]at h1;cases h1
  have hres:((range np).flatMap λj=>if listed.getD j false then DQ pl (Bt l.toArray) γ j else [])=QX (DH (l.take np) pl) γ:=by
   rw[<-Su γ (l.take np) pl hlen];have hlt:(l.take np).length=np:=by rw[List.length_take];omega
   rw[hlt];refine FE _ _ _ λj hj=>?_;have hj':j<np:=by simpa using hj
   rw[hall j hj',ac rfl];unfold DQ Bt;simp only[gu];rw[f8,ac hj']
  have hslotA:∀t u,lk (O3 (DH (l.take np) pl) γ) t=some u->a.tmps[t]?=some u:=λt u hu=>by
   have hm:=OQ _ _ _ hu;unfold O3 at hm;obtain⟨p,hp',e1⟩:=ad.1 hm;obtain⟨d,x⟩:=p;simp only[Prod.mk.injEq]at e1;obtain⟨rfl,rfl⟩:=e1;obtain⟨j,o,h1,h2,h3⟩:=HM _ _ _ _ hp'
   have hj:j<np:=by have:=(bg.1 h1).1;simp at this;omega
   have hdj:Bt l.toArray j=some d:=by rw[f8,ac hj]at h1;simp[Bt,h1,h2]
   obtain⟨u',st,e1,e2,e3⟩:=M.new j hj (hall j hj) d hdj;rw[h3]at e2;cases e2;simp only[Rel]at e3;rw[e1,e3]
  have hq:∀d V,(d,V)∈D3 (l.take np) pl->∃u,a.tmps[d]?=some u/\V h' u:=λd V hm=>by
   obtain⟨j,o,h1,h2,h3⟩:=Gp _ _ _ _ hm
   have hj:j<np:=by have:=(bg.1 h1).1;simp at this;omega
   have hdj:Bt l.toArray j=some d:=by rw[f8,ac hj]at h1;simp[Bt,h1,h2]
   obtain⟨u',st,e1,e2,e3⟩:=M.new j hj (hall j hj) d hdj;rw[h3]at e2;cases e2;exact⟨u',e1,e3.2⟩
  have hE:=M.ends;rw[hres]at hE
  have hA:∀t u,lk (O3 (DH (l.take np) pl) γ++D1 (l.take np) pl s) t=some u->a.tmps[t]?=some u:=λt u hu=>by
   rw[CJ]at hu;cases hv:lk (O3 (DH (l.take np) pl) γ) t with
   | none=>rw[hv]at hu;exact hfd t u hu
   | some u'=>rw[hv]at hu;cases hu;exact hslotA t _ hv
  simp only[ay]at hfin;have hdr:l.toArray.toList.drop np=l.drop np:=rfl;rw[hdr];rcases hfin with ⟨_,hfin⟩|hfin
  ·exact hfin γ a w ⟨M.defers,M.size,hA⟩ (Ends.back hE hw M.le)
  ·refine hfin h' M.le (λd=>(a.tmps[d]?).getD undef) γ (λd V hm=>?_) a w ⟨M.defers,M.size,λt u hu=>?_⟩ hE
   ·obtain⟨u,e1,e2⟩:=hq d V hm;simp only[e1];exact e2
   ·rw[CJ]at hu;cases hv:lk (Nz (D3 (l.take np) pl) λd=>(a.tmps[d]?).getD undef) t with
    | none=>rw[hv]at hu;exact hA t u hu
    | some u'=>
     rw[hv]at hu;cases hu;have hm:=OQ _ _ _ hv;unfold Nz at hm;obtain⟨p,hp',e1⟩:=ad.1 hm;obtain⟨d,V⟩:=p;simp only[Prod.mk.injEq]at e1;obtain⟨rfl,rfl⟩:=e1;obtain⟨u,e1,e2⟩:=hq d V hp';simp[e1]
theorem B6(n i:Nat):(Array.replicate n false).getD i false=false:=by
 rw[am];by_cases hi:i<n
 ·simp[hi]
 ·simp[je,hi]
theorem Bc{e:Entry}{id:Nat}{l:List Oper}{Q:Exit->Act->World->Prop}{s:AF}{h:Hp}{ms:List Hp}(np:Nat)(hm:e.P.follows .mixedOrders=true)(hp:Q3 [] l.toArray np=true)(hf:J6 e.n (l.take np) s=true)
  (k:WR e l.toArray Q (l.drop np) h ms (l.take np) s [] []):WS e (.region id l.toArray true) Q s h ms:=by
 intro a w ha hw;refine wp_region_any hm (Q1 np hp hf k σ (λi=>by rw[B6];rfl) (λi o hi=>by rw[B6]at hi;cases hi) (λi hi=>by cases hi) ?_ ha hw);unfold left;rw[Array.toList_replicate];exact dc (List.countP_le_length) σ
end Go.Eng
namespace Go.Eng
open Go.RowKit
variable {b:Bool} {s':AF} {j dj d t:Nat} {P:Program} {v:Value}
section
variable {e:Entry} {ops:Array Oper} {Q:Exit->Act->World->Prop} {tl:List Oper} {h:Hp} {ms:List Hp} {l:List Oper} {o:Oper} {s:AF} {q:List (Nat×VP)} {al:List (Nat×Nb)}
theorem Wants.plain(hg:o.guard=none):Wants ops o s true:=by unfold Wants;rw[hg]
theorem Wants.yes(hg:o.guard=some (j,b))(hj:Bt ops j=some dj)(hv:lk s dj=some (.bool b)):Wants ops o s true:=by unfold Wants;rw[hg];exact .inl ⟨dj,b,hj,hv,by cases b<;>rfl⟩
theorem Wants.no{b':Bool}(hg:o.guard=some (j,b))(hj:Bt ops j=some dj)(hv:lk s dj=some (.bool b'))(hne:(b'==b)=false):Wants ops o s false:=by unfold Wants;rw[hg];exact .inl ⟨dj,b',hj,hv,hne.symm⟩
theorem Wants.nou(hg:o.guard=some (j,b))(hj:Bt ops j=some dj)(hv:lk s dj=some undef):Wants ops o s false:=by unfold Wants;rw[hg];exact .inr ⟨dj,hj,hv,Y⟩
theorem AM(hx:OX e.P o s h ms v)(hd:o.dst=some d)(hg:o.guard=none)(k:WR e ops Q tl h ms l ((d,v)::s) q al):WR e ops Q tl h ms (o::l) s q al:=
 .inl ⟨v,.inl ⟨.plain hg,hx⟩,by rw[hd];exact k⟩
theorem AJ(hx:OX e.P o s h ms v)(hd:o.dst=some d)(hg:o.guard=some (j,b))(hj:Bt ops j=some dj)(hv:lk s dj=some (.bool b))(k:WR e ops Q tl h ms l ((d,v)::s) q al):WR e ops Q tl h ms (o::l) s q al:=
 .inl ⟨v,.inl ⟨.yes hg hj hv,hx⟩,by rw[hd];exact k⟩
theorem AC{b':Bool}(hd:o.dst=some d)(hg:o.guard=some (j,b))(hj:Bt ops j=some dj)(hv:lk s dj=some (.bool b'))(hne:(b'==b)=false)(k:WR e ops Q tl h ms l ((d,undef)::s) q al):WR e ops Q tl h ms (o::l) s q al:=
 .inl ⟨undef,.inr (.inr ⟨.no hg hj hv hne,rfl⟩),by rw[hd];exact k⟩
theorem AY(hd:o.dst=some d)(hg:o.guard=some (j,b))(hj:Bt ops j=some dj)(hv:lk s dj=some undef)(k:WR e ops Q tl h ms l ((d,undef)::s) q al):WR e ops Q tl h ms (o::l) s q al:=
 .inl ⟨undef,.inr (.inr ⟨.nou hg hj hv,rfl⟩),by rw[hd];exact k⟩
theorem Ug{x:Nb}(hx:ONB e.P o s h ms x)(hd:o.dst=some d)(hg:o.guard=none)(k:WR e ops Q tl h ms l s q (al++[(d,x)])):WR e ops Q tl h ms (o::l) s q al:=
 .inr (.inr ⟨x,⟨.plain hg,⟨d,hd⟩,hx⟩,by rw[hd];exact k⟩)
theorem Ka{sz bytes:Nat}{z:Value}(zl:List Value)(ho:o.op=.alloc t)(hs:Elem P t sz z bytes)(hz:z.cells=zl.toArray):ONB P o s h ms ((t,zl),λg=>.pointer (some ⟨g,0,none⟩)):=λρ w hρ hw=>by
 have:(execOp ρ o).run P w=.ok (.value (.pointer (some ⟨w.heap.size,0,none⟩))) (w.alloc (.cells zl.toArray t)):=by simp[execOp,ho,Instr.alloc,hs.zeroValue,newVar,newRow,hz]
 unfold OpRes;rw[this];exact⟨Y,Y⟩
theorem Ft{t el:TypeId}{sz:Nat}{z:Value}{bytes:Nat}{x:Operand}(zl:List Value)(ho:o.op=.buildSlice t 1 #[(0,x)])(ht:P.underlying t=some (.slice el))(hs:Elem P el sz z bytes)(hx:ev s x=some v)(hv:v.cells=zl.toArray)(hl:zl.length=sz)(hzs:z.cells.size=sz)(hsz:0<sz/\sz<=1000) :
  ONB P o s h ms ((el,zl),λg=>.slice (some ⟨g,0,none⟩) 1 1):=λρ w hρ hw=>by
 have:=Hd (P:=P) zl ht hs hv hl hzs hsz w
 have:(execOp ρ o).run P w=.ok (.value (.slice (some ⟨w.heap.size,0,none⟩) 1 1)) (w.alloc (.cells zl.toArray el)):=by simp[execOp,ho,hρ _ _ hx,this]
 unfold OpRes;rw[this];exact⟨Y,Y⟩
theorem A7(k:WL e ops Q tl s h ms):WR e ops Q tl h ms [] s [] []:=.inl ⟨rfl,λ_=>k⟩
theorem HZ{zl:List Value}{f:Nat->Value}(k:∀g,WL e ops Q tl ((d,f g)::s) h (Bh g t zl::ms)):WR e ops Q tl h ms [] s [] [(d,((t,zl),f))]:=.inl ⟨rfl,λγ=>k (γ d)⟩
theorem Abm{s:AF}(he:∀t,lk s t=lk s' t)(x:Operand):ev s x=ev s' x:=by cases x<;>first|exact he _|rfl
theorem Evs.ext{s:AF}(he:∀t,lk s t=lk s' t){ρ:Operand->Value}(H:Evs s' ρ):Evs s ρ:=λx u hu=>H x u (by rw[<-Abm he];exact hu)
theorem OX.ext{s:AF}(he:∀t,lk s t=lk s' t)(H:OX P o s h ms v):OX P o s' h ms v:=λρ w hρ hw=>H ρ w (Evs.ext he hρ) hw
theorem OPX.ext{s:AF}{V:VP}(he:∀t,lk s t=lk s' t)(H:OPX P o s h ms V):OPX P o s' h ms V:=λρ w hρ hw=>H ρ w (Evs.ext he hρ) hw
theorem Dz{s:AF}(he:∀t,lk s t=lk s' t)(a:AF)(t:Nat):lk (a++s) t=lk (a++s') t:=by rw[CJ,CJ,he]
theorem Wants.ext{s:AF}(he:∀t,lk s t=lk s' t)(H:Wants ops o s b):Wants ops o s' b:=by
 unfold Wants at *;cases hg:o.guard with
 | none=>simp only[hg]at H;exact H
 | some p=>simp only[hg]at H;exact H.imp (λ⟨dj,b',e1,e2,e3⟩=>⟨dj,b',e1,by rw[<-he];exact e2,e3⟩) (λ⟨dj,e1,e2,e3⟩=>⟨dj,e1,by rw[<-he];exact e2,e3⟩)
theorem StpOK.ext{s:AF}{st:OS}(he:∀t,lk s t=lk s' t)(H:StpOK P ops h ms o s q st):StpOK P ops h ms o s' q st:=by
 rcases st with v|V|x
 ·rcases H with ⟨h1,h2⟩|⟨h1,q',h2,h3⟩|⟨h1,h2⟩
  ·exact .inl ⟨h1.ext he,OX.ext he h2⟩
  ·exact .inr (.inl ⟨h1.ext he,q',h2,λh' hl val hs=>OX.ext (Dz he _) (h3 h' hl val hs)⟩)
  ·exact .inr (.inr ⟨h1.ext he,h2⟩)
 ·obtain⟨h1,h2,h3⟩:=H;refine⟨h1.ext he,h2,?_⟩;rcases h3 with h3|⟨q',h3,h4⟩
  ·exact .inl (OPX.ext he h3)
  ·exact .inr ⟨q',h3,λh' hl val hs=>OPX.ext (Dz he _) (h4 h' hl val hs)⟩
 ·exact⟨H.1.ext he,H.2.1,λρ w hρ hw=>H.2.2 ρ w (Evs.ext he hρ) hw⟩
theorem WL.ext{s:AF}(he:∀t,lk s t=lk s' t)(H:WL e ops Q l s h ms):WL e ops Q l s' h ms:=
 λa w ha hw=>H a w ⟨ha.defers,ha.size,λi v hi=>ha.slots i v (by rw[<-he];exact hi)⟩ hw
theorem WR.ext:∀(l:List Oper) (s s':AF) (q:List (Nat×VP)) (al:List (Nat×Nb)),(∀t,lk s t=lk s' t)->WR e ops Q tl h ms l s q al->WR e ops Q tl h ms l s' q al
 | [],s,s',q,al,he,H=>by
  rcases H with ⟨h1,h2⟩|h2
  ·exact .inl ⟨h1,λγ=>WL.ext (Dz he _) (h2 γ)⟩
  ·exact .inr λh' hl val γ hs=>WL.ext (Dz (Dz he _) _) (h2 h' hl val γ hs)
 | o::l,s,s',q,al,he,H=>by
  rcases H with ⟨v,h1,h2⟩|⟨V,h1,h2⟩|⟨x,h1,h2⟩
  ·refine .inl ⟨v,h1.ext he,WR.ext l _ _ _ _ ?_ h2⟩;cases o.dst with
   | none=>exact he
   | some d=>exact λt=>Dz he [(d,v)] t
  ·exact .inr (.inl ⟨V,h1.ext he,WR.ext l _ _ _ _ he h2⟩)
  ·exact .inr (.inr ⟨x,h1.ext he,WR.ext l _ _ _ _ he h2⟩)
theorem CC{p:Prop}{_:Decidable p}(hc:lk s t=some (.bool (decide p)))(kt:p->WR e ops Q tl h ms l ((t,.bool true)::s) q al)(kf:¬p->WR e ops Q tl h ms l ((t,.bool false)::s) q al):WR e ops Q tl h ms l s q al:=by
 by_cases hp:p
 ·refine WR.ext l _ _ _ _ (λi=>?_) (kt hp);by_cases hi:t=i
  ·subst hi;rw[BL,hc];simp[hp]
  ·rw[BF _ _ hi]
 ·refine WR.ext l _ _ _ _ (λi=>?_) (kf hp);by_cases hi:t=i
  ·subst hi;rw[BL,hc];simp[hp]
  ·rw[BF _ _ hi]
theorem Vb(hc:lk s t=some (.bool b))(kt:b=true->WR e ops Q tl h ms l ((t,.bool true)::s) q al)(kf:b=false->WR e ops Q tl h ms l ((t,.bool false)::s) q al):WR e ops Q tl h ms l s q al:=by
 have e1:decide (b=true)=b:=by cases b<;>rfl
 exact CC (p:=b=true) (by rw[hc,e1]) kt (λhb=>kf (by simpa using hb))
end
end Go.Eng
