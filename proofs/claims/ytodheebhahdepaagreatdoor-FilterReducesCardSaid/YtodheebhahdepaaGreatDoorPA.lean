/- A part of the proof. -/
import Derived.Sort.LotA
import Derived.Calls
import Derived.Laws.Sem
import Derived.Laws.World
import Derived.Laws.Rows
import Derived.Laws.AppendOwn
import Derived.Below
import Derived.Tactics
import Derived.Orders
import Derived.Laws.Entries
import Derived.Laws.Cells
import Derived.Laws.Slices
import Derived.Laws.Small
import Derived.IntWalk
import Derived.Laws.Append
import Derived.Laws.MakeOwn
import Derived.Laws.CopyRow
import Derived.Deep.Quiet
set_option linter.unusedSimpArgs false
set_option linter.unusedVariables false
set_option linter.unusedSectionVars false
set_option maxRecDepth 100000
set_option maxHeartbeats 4000000
open List (length_singleton replicate range length_append nil_append mem_range cons_append mem_cons_self mem_cons_of_mem map_cons append_assoc flatMap_cons mem_append_left mem_append_right drop_drop)
theorem ω{p:Prop}(h:p:=by omega):p:=h
theorem κ{p:Prop}(h:p:=by kernel_rfl):p:=h
abbrev Go.Value.w(n:Int):Go.Value:=.int .i64 n
abbrev Go.Value.pt(g:Nat):Go.Value:=.pointer (some ⟨g,0,none⟩)
theorem aa:type_of% @if_neg:=@if_neg
theorem ab:type_of% @if_pos:=@if_pos
theorem ac:type_of% @List.length_singleton:=@List.length_singleton
theorem ad:type_of% @List.length_append:=@List.length_append
theorem ae:type_of% @List.getElem_mem:=@List.getElem_mem
theorem af:type_of% @List.length_map:=@List.length_map
theorem ag:type_of% @decide_eq_true:=@decide_eq_true
theorem ah:type_of% @decide_eq_false:=@decide_eq_false
theorem ai:type_of% @List.mem_map:=@List.mem_map
theorem aj:type_of% @List.mem_cons:=@List.mem_cons
theorem ak:type_of% @List.mem_singleton:=@List.mem_singleton
theorem am:type_of% @List.take_succ_eq_append_getElem:=@List.take_succ_eq_append_getElem
theorem ao:type_of% @List.length_take:=@List.length_take
theorem aq:type_of% @List.mem_append:=@List.mem_append
theorem au:type_of% @List.mem_cons_of_mem:=@List.mem_cons_of_mem
theorem av:type_of% @List.nil_append:=@List.nil_append
theorem aw:type_of% @List.pairwise_iff_getElem:=@List.pairwise_iff_getElem
theorem ax:type_of% @Classical.byContradiction:=@Classical.byContradiction
theorem ay:type_of% @Nat.le_refl:=@Nat.le_refl
theorem ba:type_of% @List.mem_range:=@List.mem_range
theorem bc:type_of% @Array.getD_eq_getD_getElem?:=@Array.getD_eq_getD_getElem?
theorem bf:type_of% @congrArg:=@congrArg
theorem bg:type_of% @List.map_append:=@List.map_append
theorem bh:type_of% @List.cons_append:=@List.cons_append
theorem bi:type_of% @List.mem_cons_self:=@List.mem_cons_self
theorem bj:type_of% @Bool.and_eq_true:=@Bool.and_eq_true
theorem bk:type_of% @List.length_drop:=@List.length_drop
theorem bl:type_of% @List.append_assoc:=@List.append_assoc
theorem bm:type_of% @List.pairwise_cons:=@List.pairwise_cons
theorem bo:type_of% @List.ext_getElem:=@List.ext_getElem
theorem bp:type_of% @List.mem_iff_getElem:=@List.mem_iff_getElem
theorem br:type_of% @Nat.le_of_ble_eq_true:=@Nat.le_of_ble_eq_true
theorem bu:type_of% @Int.toNat_natCast:=@Int.toNat_natCast
theorem bw:type_of% @of_decide_eq_true:=@of_decide_eq_true
theorem bz:type_of% @List.length_set:=@List.length_set
theorem cm:type_of% @List.getElem_map:=@List.getElem_map
theorem co:type_of% @List.getElem?_eq_getElem:=@List.getElem?_eq_getElem
theorem ct:type_of% @List.take_length:=@List.take_length
theorem cu:type_of% @Int.mul_comm:=@Int.mul_comm
theorem cw:type_of% @Int.add_zero:=@Int.add_zero
theorem cz:type_of% @Int.mul_assoc:=@Int.mul_assoc
theorem da:type_of% @Int.emod_nonneg:=@Int.emod_nonneg
theorem dc:type_of% @Int.emod_lt_of_pos:=@Int.emod_lt_of_pos
theorem dd:type_of% @Nat.mul_le_mul:=@Nat.mul_le_mul
theorem de:type_of% @Option.some.inj:=@Option.some.inj
theorem df:type_of% @List.length_cons:=@List.length_cons
theorem dh:type_of% @List.nodup_cons:=@List.nodup_cons
theorem di:type_of% @List.mem_filter:=@List.mem_filter
theorem Y{α:Sort _}{a:α}:a=a:=Eq.refl a
namespace Go.Lin
variable {p a b c d:Int} {n:Nat} {f:Nat->Int}
def sm:Nat->(Nat->Int)->Int
  | 0,_=>0
  | n+1,f=>sm n f+f n
theorem Bq{g:Nat->Int}(h:∀i,i<n->f i=g i):sm n f=sm n g:=by
  induction n with
  | zero=>rfl
  | succ n ih=>unfold sm;rw[ih λi hi=>h i ω,h n ω]
theorem Fi(n:Nat):sm n (λ_=>0)=0:=by
  induction n with
  | zero=>rfl
  | succ n ih=>unfold sm;rw[ih];rfl
theorem Hb(n:Nat)(f g:Nat->Int):sm n (λi=>f i+g i)=sm n f+sm n g:=by
  induction n with
  | zero=>rfl
  | succ n ih=>
    show sm n (λi=>f i+g i)+(f n+g n)=sm n f+f n+(sm n g+g n);rw[ih];omega
theorem RH(n:Nat)(f g:Nat->Int):sm n (λi=>f i-g i)=sm n f-sm n g:=by
  induction n with
  | zero=>rfl
  | succ n ih=>
    show sm n (λi=>f i-g i)+(f n-g n)=sm n f+f n-(sm n g+g n);rw[ih];omega
theorem Fy(n:Nat)(c:Int)(f:Nat->Int):sm n (λi=>c*f i)=c*sm n f:=by
  induction n with
  | zero=>simp[sm]
  | succ n ih=>unfold sm;rw[ih,Int.mul_add]
theorem Pe(n:Nat)(c:Int)(f:Nat->Int):sm n (λi=>f i*c)=sm n f*c:=by rw[cu,<-Fy];exact Bq λi _=>cu _ _
theorem Kl(m n:Nat)(f:Nat->Nat->Int):sm m (λi=>sm n (f i))=sm n (λj=>sm m (λi=>f i j)):=by
  induction m with
  | zero=>simp[sm,Fi]
  | succ m ih=>
    show sm m (λi=>sm n (f i))+sm n (f m)=sm n (λj=>sm m (λi=>f i j)+f m j);rw[ih,Hb]
theorem Gy(n:Nat)(k:Nat)(f:Nat->Int)(hk:k<n)(h:∀i,i<n->i≠k->f i=0):sm n f=f k:=by
  induction n with
  | zero=>omega
  | succ n ih=>
    unfold sm;by_cases e:k=n
    · subst e;have:sm k f=sm k λ_=>0:=Bq λi hi=>h i ω ω;rw[this,Fi];omega
    · rw[ih ω λi hi hne=>h i ω hne,h n ω ω];omega
theorem IA(n:Nat)(k:Nat)(f:Nat->Int)(hk:k<n):sm n (λi=>if i=k then f i else 0)=f k:=by rw[Gy n k _ hk λi _ hne=>by simp[hne]];simp
theorem Hl(h:∀i,i<n->f i=0):sm n f=0:=by rw[Bq (g:=λ_=>0) h,Fi]
def Cg(p a b:Int):Prop:=p∣a-b
theorem Cg.refl(p a:Int):Cg p a a:=by unfold Cg;rw[Int.sub_self];exact Int.dvd_zero p
theorem Cg.of_eq(h:a=b):Cg p a b:=h ▸ Cg.refl p a
theorem Cg.symm(h:Cg p a b):Cg p b a:=by
  unfold Cg at *;have:=Int.dvd_neg.2 h
  rwa [Int.neg_sub]at this
theorem Cg.trans(h:Cg p a b)(h':Cg p b c):Cg p a c:=by
  unfold Cg at *;have:=Int.dvd_add h h'
  rwa [show a-b+(b-c)=a-c by omega]at this
theorem Cg.add(h:Cg p a b)(h':Cg p c d):Cg p (a+c) (b+d):=by
  unfold Cg at *;have:=Int.dvd_add h h'
  rwa [show a-b+(c-d)=a+c-(b+d) by omega]at this
theorem Cg.sub(h:Cg p a b)(h':Cg p c d):Cg p (a-c) (b-d):=by
  unfold Cg at *;have:=Int.dvd_sub h h'
  rwa [show a-b-(c-d)=a-c-(b-d) by omega]at this
theorem Cg.mul(h:Cg p a b)(h':Cg p c d):Cg p (a*c) (b*d):=by
  unfold Cg at *;have e:a*c-b*d=(a-b)*c+b*(c-d):=by rw[Int.sub_mul,Int.mul_sub];omega
  rw[e];exact Int.dvd_add (Int.dvd_mul_of_dvd_left h) (Int.dvd_mul_of_dvd_right h')
theorem Cg.neg(h:Cg p a b):Cg p (-a) (-b):=by have:=(Cg.refl p 0).sub h;simpa using this
theorem Cg.mod(p a:Int):Cg p (a%p) a:=by unfold Cg;refine⟨-(a/p),?_⟩;have:=Int.emod_add_mul_ediv a p;rw[Int.mul_neg];omega
theorem Cg.self(p:Int):Cg p p 0:=⟨1,ω⟩
theorem Cg.sm{g:Nat->Int}(h:∀i,i<n->Cg p (f i) (g i)):Cg p (Lin.sm n f) (Lin.sm n g):=by
  induction n with
  | zero=>exact Cg.refl _ _
  | succ n ih=>exact(ih λi hi=>h i ω).add (h n ω)
theorem Cg.iff_mod:Cg p a b<->a%p=b%p:=by unfold Cg;rw[Int.dvd_iff_emod_eq_zero,Int.emod_eq_emod_iff_emod_sub_eq_zero]
theorem Cg.eq(h:Cg p a b)(ha:0<=a/\a<p)(hb:0<=b/\b<p):a=b:=by
  have:=Cg.iff_mod.1 h
  rwa [Int.emod_eq_of_lt ha.1 ha.2,Int.emod_eq_of_lt hb.1 hb.2]at this
end Go.Lin
namespace Go.Lin
variable {c r i j:Nat} {f:Nat->Nat->Int}
def Fu(n:Nat)(f:Nat->Int):List Int:=(range n).map f
def BN(r c:Nat)(f:Nat->Nat->Int):List Int:=(range (r*c)).map λk=>f (k/c) (k%c)
theorem Ca(n:Nat)(f:Nat->Int):(Fu n f).length=n:=by simp[Fu]
theorem BK(r c:Nat)(f:Nat->Nat->Int):(BN r c f).length=r*c:=by simp[BN]
theorem DO(hi:i<r)(hj:j<c):i*c+j<r*c:=by have:(i+1)*c<=r*c:=Nat.mul_le_mul_right c hi;rw[Nat.add_mul,Nat.one_mul]at this;omega
theorem N5(hj:j<c):(i*c+j)/c=i:=by rw[Nat.mul_comm,Nat.mul_add_div ω,Nat.div_eq_of_lt hj,Nat.add_zero]
theorem Np(hj:j<c):(i*c+j)%c=j:=by rw[Nat.mul_comm,Nat.mul_add_mod,Nat.mod_eq_of_lt hj]
theorem Kr{n:Nat}{f:Nat->Int}(hj:j<n):(Fu n f)[j]'(by rw[Ca];exact hj)=f j:=by simp[Fu]
theorem Y7(hi:i<r)(hj:j<c):(BN r c f)[i*c+j]'(by rw[BK];exact DO hi hj)=f i j:=by simp[BN,N5 hj,Np hj]
theorem MS{n:Nat}{f g:Nat->Int}(h:∀j,j<n->f j=g j):Fu n f=Fu n g:=by unfold Fu;exact List.map_congr_left λk hk=>h k (ba.1 hk)
theorem Xo{k:Nat}(h:k<r*c):k/c<r/\k%c<c:=by
  have hc:0<c:=Nat.pos_of_ne_zero λh0=>by subst h0;simp at h
  exact⟨(Nat.div_lt_iff_lt_mul hc).2 h,Nat.mod_lt _ hc⟩
theorem AS{g:Nat->Nat->Int}(h:∀i,i<r->∀j,j<c->f i j=g i j):BN r c f=BN r c g:=by unfold BN;refine List.map_congr_left λk hk=>?_;have:=Xo (ba.1 hk);exact h _ this.1 _ this.2
theorem mem_mat{x:Int}:x∈BN r c f<->∃i j,i<r/\j<c/\x=f i j:=by
  unfold BN;rw[ai];constructor
  · rintro⟨k,hk,rfl⟩;have:=Xo (ba.1 hk);exact⟨_,_,this.1,this.2,Y⟩
  · rintro⟨i,j,hi,hj,rfl⟩;exact⟨i*c+j,ba.2 (DO hi hj),by rw[N5 hj,Np hj]⟩
def F2(f:Nat->Nat->Int)(i j:Nat)(x:Int):Nat->Nat->Int:=λa b=>if a=i/\b=j then x else f a b
theorem Fk(x:Int)(hj:j<c):(BN r c f).set (i*c+j) x=BN r c (F2 f i j x):=by
  refine bo (by simp[BK]) λk h1 h2=>?_;have hk:k<r*c:=by rw[BK]at h2;exact h2
  have hd:k/c*c+k%c=k:=by rw[Nat.mul_comm];exact Nat.div_add_mod k c
  rw[List.getElem_set];by_cases he:i*c+j=k
  · subst he;rw[ab rfl];simp[BN,F2,N5 hj,Np hj]
  · rw[aa he];have:¬(k/c=i/\k%c=j):=λ⟨h3,h4⟩=>he (by rw[<-h3,<-h4];exact hd);simp[BN,F2,this]
theorem M7(r c:Nat):replicate (r*c) (0:Int)=BN r c λ_ _=>0:=by unfold BN;rw[List.map_const',List.length_range]
theorem Yd(hi:i<r):((BN r c f).drop (i*c)).take c=Fu c (f i):=by have h0:(i+1)*c<=r*c:=Nat.mul_le_mul_right c hi;rw[Nat.add_mul,Nat.one_mul]at h0;refine bo (by simp[BK,Ca];omega) λk h1 h2=>?_;rw[Ca]at h2;have hi':i*c+k<r*c:=DO hi h2;simp[Fu,BN,N5 h2,Np h2]
end Go.Lin
namespace Go.Srt
open Go.Sort
variable {a m b i:Nat}
variable {α:Type} [Inhabited α]
def SwR(d0 d:Array α)(a b n:Nat):Prop:=d.size=d0.size/\∀k,d[k]! = if a<=k/\k<a+n then d0[k-a+b]! else if b<=k/\k<b+n then d0[k-b+a]! else d0[k]!
theorem SwR.start(d0:Array α)(a b:Nat):SwR d0 d0 a b 0:=⟨rfl,λk=>by rw[aa ω,aa ω]⟩
theorem SwR.step{d0 d:Array α}{n:Nat}(S:SwR d0 d a b n)(hab:a+n<b)(hb:b+n<d0.size):SwR d0 (swp d (a+n) (b+n)) a b (n+1):=by
  refine⟨by rw[swp_size,S.1],λk=>?_⟩;rw[swp_get d (by rw[S.1];omega) (by rw[S.1];omega)];rw[S.2 (a+n),S.2 (b+n),S.2 k];by_cases h1:k=b+n
  · subst h1;rw[ab rfl,aa ω,aa ω,aa ω,ab ω];congr 1;omega
  · by_cases h2:k=a+n
    · subst h2;rw[aa h1,ab rfl,aa ω,aa ω,ab ω];congr 1;omega
    · rw[aa h1,aa h2];by_cases h3:a<=k/\k<a+n
      · rw[ab h3,ab ω]
      · rw[aa h3];by_cases h4:b<=k/\k<b+n
        · rw[ab h4,aa ω,ab ω]
        · rw[aa h4,aa ω,aa ω]
def Fz(d:Array α)(a m b k:Nat):α:=if a<=k/\k<b then if k<a+(b-m) then d[k+(m-a)]! else d[k-(b-m)]! else d[k]!
theorem Px{d d':Array α}{j:Nat}(hi:i<=m)(hj:j<i)(S:SwR d d' (m-i) m j)(k:Nat):Fz d' (m-(i-j)) m (m+j) k=Fz d (m-i) m (m+j) k:=by
  unfold Fz;rw[S.2 (k+(m-(m-(i-j)))),S.2 (k-(m+j-m)),S.2 k]
  repeat' split
  all_goals first|omega|(congr 1<;>omega)
theorem K3{d d':Array α}{j:Nat}(hi:i<=m)(hj:i<j)(S:SwR d d' (m-i) (m+j-i) i)(k:Nat):Fz d' (m-i) m (m+(j-i)) k=Fz d (m-i) m (m+j) k:=by
  unfold Fz;rw[S.2 (k+(m-(m-i))),S.2 (k-(m+(j-i)-m)),S.2 k]
  repeat' split
  all_goals first|omega|(congr 1<;>omega)
theorem Pu{d d':Array α}(hi:i<=m)(S:SwR d d' (m-i) m i)(k:Nat):d'[k]! = Fz d (m-i) m (m+i) k:=by
  unfold Fz;rw[S.2 k]
  repeat' split
  all_goals first|omega|(congr 1<;>omega)
theorem Hy{d:Array α}(h:m=a\/b=m)(k:Nat):Fz d a m b k=d[k]!:=by
  unfold Fz
  repeat' split
  all_goals (congr 1<;>omega)
variable {lt:α->α->Bool}
def InsR(d0 d:Array α)(a t:Nat):Prop:=d.size=d0.size/\∀k,d[k]! = if a<=k/\k<t then d0[k+1]! else if k=t then d0[a]! else d0[k]!
theorem InsR.start(d0:Array α)(a:Nat):InsR d0 d0 a a:=⟨rfl,λk=>by
  rw[aa ω];split
  · rename_i h;rw[h]
  · rfl⟩
theorem InsR.step{d0 d:Array α}{t:Nat}(S:InsR d0 d a t)(hat:a<=t)(ht:t+1<d0.size):InsR d0 (swp d t (t+1)) a (t+1):=by
  refine⟨by rw[swp_size,S.1],λk=>?_⟩;rw[swp_get d (by rw[S.1];omega) (by rw[S.1];omega),S.2 t,S.2 (t+1),S.2 k];by_cases h1:k=t+1
  · subst h1;rw[ab rfl,aa ω,ab rfl,aa ω,ab rfl]
  · by_cases h2:k=t
    · subst h2;rw[aa h1,ab rfl,aa ω,aa ω,ab ω]
    · rw[aa h1,aa h2];by_cases h3:a<=k/\k<t
      · rw[ab h3,ab ω]
      · rw[aa h3,aa h2,aa ω,aa h1]
theorem KR(hO:SWO lt){d0 d:Array α}(hS:SortedIn lt (a+1) b d0)(hi:a+1<=i/\i<=b)(h1:i=a+1\/lt d0[i-1]! d0[a]! = true)(h2:i=b\/lt d0[i]! d0[a]! = false)(R:InsR d0 d a (i-1)):SortedIn lt a b d:=by
  have lo:∀k,a+1<=k->k<i->lt d0[a]! d0[k]! = false:=λk h3 h4=>by
    rcases h1 with h1|h1
    · omega
    · have h5:=hO.asymmA h1;rcases (ω:k=i-1\/k<i-1) with rfl|h6
      · exact h5
      · exact hO.ntrans _ _ _ h5 (hS k (i-1) h3 h6 ω)
  have hi':∀k,i<=k->k<b->lt d0[k]! d0[a]! = false:=λk h3 h4=>by
    rcases h2 with h2|h2
    · omega
    · rcases (ω:k=i\/i<k) with rfl|h6
      · exact h2
      · exact hO.ntrans _ _ _ (hS i k ω h6 h4) h2
  intro x y hx hxy hy;rw[R.2 x,R.2 y];by_cases hy1:y<i-1
  · rw[ab ω,ab ω];exact hS _ _ ω ω ω
  · by_cases hy2:y=i-1
    · rw[aa ω,ab hy2,ab ω];exact lo _ ω ω
    · rw[aa ω,aa hy2];by_cases hx1:x<i-1
      · rw[ab ω];exact hS _ _ ω ω ω
      · by_cases hx2:x=i-1
        · rw[aa ω,ab hx2];exact hi' _ ω hy
        · rw[aa ω,aa hx2];exact hS _ _ ω ω ω
def ShR(d0 d:Array α)(m t:Nat):Prop:=d.size=d0.size/\∀k,d[k]! = if t<k/\k<=m then d0[k-1]! else if k=t then d0[m]! else d0[k]!
theorem ShR.start(d0:Array α)(m:Nat):ShR d0 d0 m m:=⟨rfl,λk=>by
  rw[aa ω];split
  · rename_i h;rw[h]
  · rfl⟩
theorem ShR.step{d0 d:Array α}{t:Nat}(S:ShR d0 d m (t+1))(ht:t+1<=m)(hm:m<d0.size):ShR d0 (swp d (t+1) t) m t:=by
  refine⟨by rw[swp_size,S.1],λk=>?_⟩;rw[swp_get d (by rw[S.1];omega) (by rw[S.1];omega),S.2 t,S.2 (t+1),S.2 k];by_cases h1:k=t
  · subst h1;rw[ab rfl,aa ω,ab rfl,aa ω,ab rfl]
  · by_cases h2:k=t+1
    · subst h2;rw[aa h1,ab rfl,aa ω,aa ω,ab ω];rfl
    · rw[aa h1,aa h2];by_cases h3:t+1<k/\k<=m
      · rw[ab h3,ab ω]
      · rw[aa h3,aa h2,aa ω,aa h1]
theorem Mp(hO:SWO lt){d0 d:Array α}(hS:SortedIn lt a m d0)(hi:a<=i/\i<=m)(h1:i=a\/lt d0[m]! d0[i-1]! = false)(h2:i=m\/lt d0[m]! d0[i]! = true)(R:ShR d0 d m i):SortedIn lt a (m+1) d:=by
  have lo:∀k,a<=k->k<i->lt d0[m]! d0[k]! = false:=λk h3 h4=>by
    rcases h1 with h1|h1
    · omega
    · rcases (ω:k=i-1\/k<i-1) with rfl|h6
      · exact h1
      · exact hO.ntrans _ _ _ h1 (hS k (i-1) h3 h6 ω)
  have hi':∀k,i<=k->k<m->lt d0[k]! d0[m]! = false:=λk h3 h4=>by
    rcases h2 with h2|h2
    · omega
    · have h5:=hO.asymmA h2;rcases (ω:k=i\/i<k) with rfl|h6
      · exact h5
      · exact hO.ntrans _ _ _ (hS i k ω h6 h4) h5
  intro x y hx hxy hy;rw[R.2 x,R.2 y];by_cases hy1:i<y
  · rw[ab ω];by_cases hx1:i<x
    · rw[ab ω];exact hS _ _ ω ω ω
    · by_cases hx2:x=i
      · rw[aa ω,ab hx2];exact hi' _ ω ω
      · rw[aa ω,aa hx2];rcases (ω:x<y-1\/x=y-1) with h|h
        · exact hS _ _ ω h ω
        · omega
  · by_cases hy2:y=i
    · rw[aa ω,ab hy2,aa ω,aa ω];exact lo _ hx ω
    · rw[aa ω,aa hy2,aa ω,aa ω];exact hS _ _ hx hxy ω
structure Cut(lt:α->α->Bool)(d0 d:Array α)(a start mid e m b:Nat):Prop where
  lo:SortedIn lt a start d
  lo2:SortedIn lt start mid d
  hi:SortedIn lt mid e d
  hi2:SortedIn lt e b d
  cross:∀x y,a<=x->x<mid->mid<=y->y<b->lt d[y]! d[x]! = false
theorem Xf(hO:SWO lt){d0 d:Array α}{start mid e:Nat}(hA:SortedIn lt a m d0)(hB:SortedIn lt m b d0)(h1:a<=start/\start<=m/\start<=mid/\m<=e/\e<=b)(h2:start+e=mid+m)
    (hR:∀k,d[k]! = Fz d0 start m e k)
    (c1:start=a\/e=b\/lt d0[e]! d0[start-1]! = false) (c2:start=m\/e=m\/lt d0[e-1]! d0[start]! = true):Cut lt d0 d a start mid e m b:=by
  have g1:∀k,k<start->d[k]! = d0[k]!:=λk h=>by rw[hR];unfold Fz;rw[aa ω]
  have g2:∀k,start<=k->k<mid->d[k]! = d0[k+(m-start)]!:=λk h h'=>by rw[hR];unfold Fz;rw[ab ω,ab ω]
  have g3:∀k,mid<=k->k<e->d[k]! = d0[k-(e-m)]!:=λk h h'=>by rw[hR];unfold Fz;rw[ab ω,aa ω]
  have g4:∀k,e<=k->d[k]! = d0[k]!:=λk h=>by rw[hR];unfold Fz;rw[aa ω]
  -- the four pieces,of the former
  have ab2:∀x y,a<=x->x<start->e<=y->y<b->lt d0[y]! d0[x]! = false:=λx y hx hx' hy hy'=>by
    rcases c1 with c|c|c
    · omega
    · omega
    · have k1:lt d0[y]! d0[e]! = false:=by
        rcases (ω:y=e\/e<y) with rfl|h
        · exact hO.irrefl _
        · exact hB _ _ ω h hy'
      have k2:lt d0[start-1]! d0[x]! = false:=by
        rcases (ω:x=start-1\/x<start-1) with rfl|h
        · exact hO.irrefl _
        · exact hA _ _ hx h ω
      exact hO.ntrans _ _ _ (hO.ntrans _ _ _ k1 c) k2
  have ba2:∀x y,m<=x->x<e->start<=y->y<m->lt d0[y]! d0[x]! = false:=λx y hx hx' hy hy'=>by
    rcases c2 with c|c|c
    · omega
    · omega
    · have k0:=hO.asymmA c
      have k1:lt d0[y]! d0[start]! = false:=by
        rcases (ω:y=start\/start<y) with rfl|h
        · exact hO.irrefl _
        · exact hA _ _ ω h hy'
      have k2:lt d0[e-1]! d0[x]! = false:=by
        rcases (ω:x=e-1\/x<e-1) with rfl|h
        · exact hO.irrefl _
        · exact hB _ _ hx h ω
      exact hO.ntrans _ _ _ (hO.ntrans _ _ _ k1 k0) k2
  refine⟨λx y hx hxy hy=>?_,λx y hx hxy hy=>?_,λx y hx hxy hy=>?_,λx y hx hxy hy=>?_,λx y hx hxm hy hyb=>?_⟩
  · rw[g1 x ω,g1 y ω];exact hA _ _ hx hxy ω
  · rw[g2 x hx ω,g2 y ω hy];exact hB _ _ ω ω ω
  · rw[g3 x hx ω,g3 y ω hy];exact hA _ _ ω ω ω
  · rw[g4 x hx,g4 y ω];exact hB _ _ ω hxy hy
  · rcases Nat.lt_or_ge x start with h3|h3<;>rcases Nat.lt_or_ge y e with h4|h4
    · rw[g1 x h3,g3 y hy h4];exact hA _ _ hx ω ω
    · rw[g1 x h3,g4 y h4];exact ab2 _ _ hx h3 h4 hyb
    · rw[g2 x h3 hxm,g3 y hy h4];exact ba2 _ _ ω ω ω ω
    · rw[g2 x h3 hxm,g4 y h4];exact hB _ _ ω ω hyb
theorem Ol{d0 d d2 d3:Array α}{start mid e:Nat}(C:Cut lt d0 d a start mid e m b)(hb:b<=d.size)(hm:a<=mid/\mid<=b)(p1:PermIn a mid d d2)(s1:SortedIn lt a mid d2)(p2:PermIn mid b d2 d3)(s2:SortedIn lt mid b d3):SortedIn lt a b d3:=by
  have q1:∀x,a<=x->x<mid->∀y,mid<=y->y<b->lt d[y]! d2[x]! = false:=λx hx hx' y hy hy'=>
    permIn_all d d2 a mid (λv=>lt d[y]! v=false) ω p1 (λi h1 h2=>C.cross i y h1 h2 hy hy') x hx hx'
  have q2:∀y,mid<=y->y<b->∀x,a<=x->x<mid->lt d3[y]! d2[x]! = false:=λy hy hy' x hx hx'=>
    permIn_all d2 d3 mid b (λv=>lt v d2[x]! = false) (by rw[p1.1];exact hb) p2 (λi h1 h2=>by rw[p1.2.1 i (.inr h1)];exact q1 x hx hx' i h1 h2) y hy hy'
  intro x y hx hxy hy;rcases Nat.lt_or_ge y mid with h1|h1
  · rw[p2.2.1 x (.inl ω),p2.2.1 y (.inl h1)];exact s1 _ _ hx hxy h1
  · rcases Nat.lt_or_ge x mid with h2|h2
    · rw[p2.2.1 x (.inl h2)];exact q2 y h1 hy x hx h2
    · exact s2 _ _ h2 hxy hy
theorem BQ{d d':Array α}(h:SortedIn lt a b d)(e:∀k,a<=k->k<b->d'[k]! = d[k]!):SortedIn lt a b d':=λx y hx hxy hy=>by rw[e x hx ω,e y ω hy];exact h x y hx hxy hy
end Go.Srt
namespace Go.Kuhn
theorem nodup_le{α:Type}[DecidableEq α]:∀(l l':List α),l.Nodup->(∀x∈l,x∈l')->l.length<=l'.length
  | [],l',_,_=>by simp
  | a::l,l',hn,h=>by
    have h1:a∈l':=h a (by simp)
    have h2:∀x∈l,x∈l'.erase a:=λx hx=>by have:x≠a:=λe=>(dh.1 hn).1 (e ▸ hx);exact(List.mem_erase_of_ne this).2 (h x (by simp[hx]))
    have:=nodup_le l (l'.erase a) (dh.1 hn).2 h2;rw[List.length_erase_of_mem h1]at this;have:=List.length_pos_of_mem h1;simp;omega
end Go.Kuhn
namespace Go.Lin
variable {p a:Nat}
def Prm(p:Nat):Prop:=2<=p/\∀d,d∣p->d=1\/d=p
theorem Prm.coprime(hp:Prm p)(h:¬p∣a):Nat.Coprime p a:=by
  rcases hp.2 (Nat.gcd p a) (Nat.gcd_dvd_left p a) with h1|h1
  · exact h1
  · exact absurd (h1 ▸ Nat.gcd_dvd_right p a) h
theorem Prm.mul{b:Nat}(hp:Prm p)(h:p∣a*b):p∣a\/p∣b:=by
  by_cases hb:p∣b
  · exact .inr hb
  · exact .inl ((hp.coprime hb).dvd_of_dvd_mul_right h)
theorem Im(h2:2<=p)(h:∀k,2<=k->k*k<=p->p%k≠0):Prm p:=by
  refine⟨h2,λd hd=>?_⟩;obtain⟨e,he⟩:=hd;have hd0:d≠0:=λh0=>by subst h0;simp at he;omega
  have he0:e≠0:=λh0=>by subst h0;simp at he;omega
  by_cases hd1:d=1
  · exact .inl hd1
  by_cases he1:e=1
  · subst he1;exact .inr ω
  exfalso;rcases Nat.le_total d e with hle|hle
  · refine h d ω (by rw[he];exact Nat.mul_le_mul_left d hle) (by rw[he];exact Nat.mul_mod_right d e)
  · refine h e ω (by rw[he];exact Nat.mul_le_mul_right e hle) (by rw[he];exact Nat.mul_mod_left d e)
def prod(l:List Nat):Nat:=l.foldr (·*·) 1
theorem Rw{l:List Nat}(h:a∈l):prod l=a*prod (l.erase a):=by
  induction l with
  | nil=>simp at h
  | cons b l ih=>
    by_cases e:b=a
    · subst e;simp[prod]
    · rw[List.erase_cons_tail (by simpa using e)];have:=ih ((aj.1 h).resolve_left λh=>e h.symm);show b*prod l=a*(b*prod (l.erase a));rw[this,Nat.mul_left_comm]
theorem Mu:∀(l l':List Nat),l.Nodup->l'.Nodup->(∀x∈l,x∈l')->l.length=l'.length->prod l=prod l'
  | [],l',_,_,_,hl=>by have:l'=[]:=List.eq_nil_of_length_eq_zero hl.symm;rw[this]
  | a::l,l',hn,hn',h,hl=>by
    have h1:a∈l':=h a (by simp)
    have h2:∀x∈l,x∈l'.erase a:=λx hx=>by have:x≠a:=λe=>(dh.1 hn).1 (e ▸ hx);exact(List.mem_erase_of_ne this).2 (h x (by simp[hx]))
    have h3:=Mu l (l'.erase a) (dh.1 hn).2 (hn'.erase a) h2 (by rw[List.length_erase_of_mem h1,<-hl];simp);rw[Rw h1,<-h3];rfl
theorem Pj(a p:Nat):∀l:List Nat,prod (l.map λx=>a*x%p)%p=a^l.length*prod l%p
  | []=>by simp[prod]
  | x::l=>by have ih:=Pj a p l;show(a*x%p*prod (l.map λx=>a*x%p))%p=a^(l.length+1)*(x*prod l)%p;rw[Nat.mul_mod,ih,Nat.mod_mod,<-Nat.mul_mod];congr 1;rw[Nat.pow_succ];simp only[Nat.mul_assoc,Nat.mul_left_comm,Nat.mul_comm]
theorem Prm.prod(hp:Prm p):∀l:List Nat,(∀x∈l,¬p∣x)->¬p∣Lin.prod l
  | [],_,h=>by have:=Nat.le_of_dvd (by decide) (show p∣1 from h);have:=hp.1;omega
  | x::l,hl,h=>by
    rcases hp.mul (show p∣x*Lin.prod l from h) with h|h
    · exact hl x (by simp) h
    · exact Prm.prod hp l (λy hy=>hl y (by simp[hy])) h
theorem Xk(hp:Prm p)(ha:¬p∣a):a^(p-1)%p=1:=by
  have hp2:=hp.1
  have hr:∀x∈(range (p-1)).map (·+1),1<=x/\x<p:=λx hx=>by obtain⟨i,hi,rfl⟩:=ai.1 hx;simp at hi;omega
  have hnd:∀x,1<=x->x<p->¬p∣x:=λx h1 h2 h=>by have:=Nat.le_of_dvd ω h;omega
  have hn:((range (p-1)).map (·+1)).Nodup:=List.pairwise_map.2 (List.nodup_range.imp λh e=>h ω)
  have hinj:∀x y,1<=x->x<p->1<=y->y<p->a*x%p=a*y%p->x=y:=by
    have go:∀x y,x<=y->1<=x->y<p->a*x%p=a*y%p->x=y:=λx y hxy h1 h2 h=>by
      have h3:p∣a*y-a*x:=Nat.dvd_of_mod_eq_zero (Nat.sub_mod_eq_zero_of_mod_eq h.symm);rw[<-Nat.mul_sub]at h3;have h4:=(hp.mul h3).resolve_left ha;rcases Nat.eq_zero_or_pos (y-x) with h5|h5
      · omega
      · have:=Nat.le_of_dvd h5 h4;omega
    intro x y h1 h2 h3 h4 h;rcases Nat.le_total x y with h5|h5
    · exact go x y h5 h1 h4 h
    · exact(go y x h5 h3 h2 h.symm).symm
  have hs:=Mu (((range (p-1)).map (·+1)).map λx=>a*x%p) ((range (p-1)).map (·+1))
    (List.pairwise_map.2 (hn.imp_of_mem λ{x y} hx hy hne e=>hne (hinj x y (hr x hx).1 (hr x hx).2 (hr y hy).1 (hr y hy).2 e))) hn (λy hy=>by
      obtain⟨x,hx,rfl⟩:=ai.1 hy;have h1:a*x%p<p:=Nat.mod_lt _ ω
      have h2:a*x%p≠0:=λh0=>by
        rcases hp.mul (Nat.dvd_of_mod_eq_zero h0) with h|h
        · exact ha h
        · exact hnd x (hr x hx).1 (hr x hx).2 h
      exact ai.2 ⟨a*x%p-1,by simp;omega,ω⟩) (by simp)
  have hm:=Pj a p ((range (p-1)).map (·+1));rw[hs,List.length_map,List.length_range]at hm;have hP:=Prm.prod hp ((range (p-1)).map (·+1)) λx hx=>hnd x (hr x hx).1 (hr x hx).2;generalize Lin.prod ((range (p-1)).map (·+1))=P at hm hP;have hpos:0<a^(p-1):=Nat.pow_pos (Nat.pos_of_ne_zero λh=>ha (h ▸ Nat.dvd_zero p));have h5:p∣a^(p-1)*P-P:=Nat.dvd_of_mod_eq_zero (Nat.sub_mod_eq_zero_of_mod_eq hm.symm);have e:a^(p-1)*P-P=(a^(p-1)-1)*P:=by rw[Nat.sub_mul,Nat.one_mul]
  rw[e]at h5;have h6:=(hp.mul h5).resolve_right hP;obtain⟨k,hk⟩:=h6;have h7:a^(p-1)=p*k+1:=ω
  rw[h7,Nat.mul_add_mod,Nat.mod_eq_of_lt ω]
structure EO(p:Int):Prop where
  two:2<=p
  inv:∀a,¬p∣a->∃b,Cg p (a*b) 1
  mul:∀a b,p∣a*b->p∣a\/p∣b
theorem Prm.fld(hp:Prm p):EO p:=by
  have hp2:=hp.1;have hpp:(0:Int)<p:=ω
  have key:∀a:Int,(p:Int)∣a<->p∣(a%p).toNat:=λa=>by
    have h1:=da a (show(p:Int)≠0 by omega);rw[Int.dvd_iff_emod_eq_zero];constructor
    · intro h;rw[h];exact Nat.dvd_zero p
    · intro h;have h2:=dc a hpp;rcases Nat.eq_zero_or_pos (a%p).toNat with h3|h3
      · omega
      · have:=Nat.le_of_dvd h3 h;omega
  refine⟨ω,λa ha=>?_,λa b h=>?_⟩
  · have ha':¬p∣(a%p).toNat:=λh=>ha ((key a).2 h);have hf:=Xk hp ha';have h1:=da a (show(p:Int)≠0 by omega);refine⟨(((a%p).toNat^(p-2):Nat):Int),?_⟩
    have e1:Cg p (a*(((a%p).toNat^(p-2):Nat):Int)) ((((a%p).toNat:Nat):Int)*(((a%p).toNat^(p-2):Nat):Int)):=by refine Cg.mul ?_ (Cg.refl _ _);rw[Int.toNat_of_nonneg h1];exact(Cg.mod p a).symm
    refine e1.trans ?_;rw[<-Int.natCast_mul,Nat.mul_comm,<-Nat.pow_succ,show(p-2).succ=p-1 by omega];refine Cg.iff_mod.2 ?_;have:=bf (λn:Nat=>(n:Int)) hf;simp only[Int.natCast_emod]at this;rw[this,Int.emod_eq_of_lt ω ω];rfl
  · have h1:=da a (show(p:Int)≠0 by omega);have h2:=da b (show(p:Int)≠0 by omega)
    have h3:p∣(a%p).toNat*(b%p).toNat:=by
      have:((p:Int))∣(a%p)*(b%p):=by
        have h4:=((Cg.mod p a).mul (Cg.mod p b))
        have h5:Cg p (a*b) 0:=by unfold Cg;rw[Int.sub_zero];exact h
        have:=h4.trans h5;unfold Cg at this;rwa [Int.sub_zero]at this
      rw[<-Int.toNat_of_nonneg h1,<-Int.toNat_of_nonneg h2,<-Int.natCast_mul]at this;exact Int.natCast_dvd_natCast.1 this
    rcases hp.mul h3 with h|h
    · exact .inl ((key a).2 h)
    · exact .inr ((key b).2 h)
end Go.Lin

namespace Go.Lin
def skip(j0 j:Nat):Nat:=if j<j0 then j else j+1
theorem Zl(m j0:Nat)(f:Nat->Int)(h:j0<m+1):sm (m+1) f=sm m (λj=>f (skip j0 j))+f j0:=by
  induction m with
  | zero=>have:j0=0:=ω
          subst this;simp[sm]
  | succ m ih=>
    by_cases e:j0=m+1
    · subst e;show sm (m+1) f+f (m+1)=_;congr 1;exact Bq λi hi=>by unfold skip;rw[ab hi]
    · show sm (m+1) f+f (m+1)=sm m (λj=>f (skip j0 j))+f (skip j0 m)+f j0;rw[ih ω];have:skip j0 m=m+1:=by unfold skip;rw[aa ω]
      rw[this];omega
theorem X4{j0 j m:Nat}(h:j<m):skip j0 j<m+1:=by unfold skip;split<;>omega
theorem Pb{p:Int}(F:EO p):∀(k m:Nat) (A:Nat->Nat->Int),k<m->∃c:Nat->Int,(∃j,j<m/\¬p∣c j)/\∀i,i<k->Cg p (sm m λj=>A i j*c j) 0:=by
  intro k
  induction k with
  | zero=>
    intro m A hm;refine⟨λ_=>1,⟨0,hm,λh=>?_⟩,λi hi=>ω⟩;have h:p∣1:=h;have:=Int.le_of_dvd (by decide) h;have:=F.two;omega
  | succ k ih=>
    intro m A hm;obtain⟨m,rfl⟩:∃m',m=m'+1:=⟨m-1,ω⟩
    by_cases hz:∀j,j<m+1->p∣A k j
    · obtain⟨c,h1,h2⟩:=ih (m+1) A ω;refine⟨c,h1,λi hi=>?_⟩;by_cases e:i=k
      · subst e
        have:Cg p (sm (m+1) λj=>A i j*c j) (sm (m+1) λ_=>0):=Cg.sm λj hj=>by
          have h3:Cg p (A i j) 0:=by unfold Cg;rw[Int.sub_zero];exact hz j hj
          have:=h3.mul (Cg.refl p (c j))
          rwa [Int.zero_mul]at this
        rwa [Fi]at this
      · exact h2 i ω
    · obtain⟨j0,hj0⟩:=Classical.not_forall.1 hz;obtain⟨hj,hnd⟩:=Classical.not_imp.1 hj0;obtain⟨b,hb⟩:=F.inv _ hnd;obtain⟨c,⟨j1,hj1,hc1⟩,h2⟩:=ih m (λi j=>A i (skip j0 j)-A i j0*b*A k (skip j0 j)) ω
      -- the unknown that is left out
      obtain⟨t,ht⟩:∃t,t=sm m λj=>A k (skip j0 j)*c j:=⟨_,Y⟩
      let c':Nat->Int:=λi=>if i<j0 then c i else if i=j0 then -(b*t) else c (i-1)
      have hc':∀j,c' (skip j0 j)=c j:=λj=>by
        show(if skip j0 j<j0 then c (skip j0 j) else if skip j0 j=j0 then -(b*t) else c (skip j0 j-1))=c j;unfold skip;by_cases h:j<j0
        · simp[h]
        · simp only[h,if_false];rw[aa ω,aa ω];congr 1
      have hc0:c' j0=-(b*t):=by show(if j0<j0 then c j0 else if j0=j0 then -(b*t) else c (j0-1))=_;rw[aa ω,ab rfl]
      refine⟨c',⟨skip j0 j1,X4 hj1,by rw[hc'];exact hc1⟩,λi hi=>?_⟩;rw[Zl m j0 _ hj,hc0];have e1:sm m (λj=>A i (skip j0 j)*c' (skip j0 j))=sm m λj=>A i (skip j0 j)*c j:=Bq λj _=>by rw[hc']
      rw[e1];by_cases e:i=k
      · subst e
        -- t-A b t
        rw[<-ht]
        have h3:Cg p (A i j0*(-(b*t))) (-t):=by
          have:=(hb.mul (Cg.refl p t)).neg;rw[Int.one_mul]at this;have e2:A i j0*-(b*t)=-(A i j0*b*t):=by rw[Int.mul_neg,cz]
          rw[e2];exact this
        have:=(Cg.refl p t).add h3;rw[show t+-t=0 by omega]at this;exact this
      · have h3:=h2 i ω
        have e2:(sm m λj=>(A i (skip j0 j)-A i j0*b*A k (skip j0 j))*c j)=(sm m λj=>A i (skip j0 j)*c j)+A i j0*-(b*t):=by rw[Bq (g:=λj=>A i (skip j0 j)*c j-A i j0*b*(A k (skip j0 j)*c j)) λj _=>by rw[Int.sub_mul,cz (A i j0*b)],RH,Fy,<-ht,Int.mul_neg,cz];omega
        rw[e2]at h3;exact h3
def Gj(n:Nat)(b:Nat->Bool):List Nat:=(range n).filter b
def Hc(n:Nat)(b:Nat->Bool):Nat:=(Gj n b).length
theorem TP(n:Nat)(b:Nat->Bool):(Gj n b).Nodup:=List.Pairwise.filter _ List.nodup_range
theorem mem_sel{n:Nat}{b:Nat->Bool}{l:Nat}:l∈Gj n b<->l<n/\b l=true:=by simp[Gj]
theorem Vi{l:List Nat}(hn:l.Nodup){i j:Nat}{a:Nat}(h1:l[i]?=some a)(h2:l[j]?=some a):i=j:=by
  obtain⟨i1,i2⟩:=List.getElem?_eq_some_iff.1 h1;obtain⟨j1,j2⟩:=List.getElem?_eq_some_iff.1 h2;have hp:=aw.1 hn;rcases Nat.lt_trichotomy i j with h|h|h
  · exact absurd (i2.trans j2.symm) (hp i j i1 j1 h)
  · exact h
  · exact absurd (j2.trans i2.symm) (hp j i j1 i1 h)
theorem IZ(n:Nat)(b:Nat->Bool):Gj (n+1) b=Gj n b++if b n then [n] else []:=by unfold Gj;rw[List.range_succ,List.filter_append];congr 1;cases h:b n<;>simp[h]
theorem Gq(n:Nat)(b:Nat->Bool):Hc (n+1) b=Hc n b+if b n then 1 else 0:=by unfold Hc;rw[IZ,ad];cases b n<;>simp
theorem AaS(n:Nat)(b:Nat->Bool)(f:Nat->Int):sm n (λl=>if b l then f l else 0)=sm (Hc n b) λt=>f ((Gj n b).getD t 0):=by
  induction n with
  | zero=>rfl
  | succ n ih=>
    show sm n (λl=>if b l then f l else 0)+(if b n then f n else 0)=_;rw[ih,Gq];cases h:b n with
    | false=>
      simp only[Bool.false_eq_true,if_false,Nat.add_zero,cw];exact Bq λt ht=>by rw[IZ,h];simp
    | true=>
      simp only[if_true];show _=sm (Hc n b) (λt=>f ((Gj (n+1) b).getD t 0))+f ((Gj (n+1) b).getD (Hc n b) 0);have e1:(Gj (n+1) b).getD (Hc n b) 0=n:=by rw[IZ,h];simp[Hc,List.getD]
      rw[e1];congr 1
      exact Bq λt ht=>by have:t<(Gj n b).length:=ht;rw[IZ,h];simp[List.getD,List.getElem?_append_left this]
theorem NY{p:Int}(F:EO p)(k n:Nat)(b:Nat->Bool)(A:Nat->Nat->Int)(h:k<Hc n b):∃c:Nat->Int,(∃l,l<n/\b l=true/\¬p∣c l)/\∀i,i<k->Cg p (sm n λl=>if b l then A i l*c l else 0) 0:=by
  obtain⟨c,⟨t,ht,hc⟩,h2⟩:=Pb F k (Hc n b) (λi t=>A i ((Gj n b).getD t 0)) h
  have hat:∀t,t<Hc n b->(Gj n b).idxOf ((Gj n b).getD t 0)=t:=λt ht=>by
    have ht':t<(Gj n b).length:=ht;have e:(Gj n b).getD t 0=(Gj n b)[t]:=by simp[List.getD,ht']
    rw[e];have hm:(Gj n b)[t]∈Gj n b:=List.getElem_mem ht';have hlt:=List.idxOf_lt_length_of_mem hm;refine Vi (TP n b) (a:=(Gj n b)[t]) ?_ (co ht');rw[co hlt,List.getElem_idxOf]
  refine⟨λl=>c ((Gj n b).idxOf l),⟨(Gj n b).getD t 0,?_,?_,by show ¬p∣c _;rw[hat t ht];exact hc⟩,λi hi=>?_⟩
  · have ht':t<(Gj n b).length:=ht;have:(Gj n b).getD t 0∈Gj n b:=by simp[List.getD,ht']
    exact(mem_sel.1 this).1
  · have ht':t<(Gj n b).length:=ht;have:(Gj n b).getD t 0∈Gj n b:=by simp[List.getD,ht']
    exact(mem_sel.1 this).2
  · rw[AaS n b λl=>A i l*c ((Gj n b).idxOf l)];have:=h2 i hi
    rwa [Bq (g:=λt=>A i ((Gj n b).getD t 0)*c ((Gj n b).idxOf ((Gj n b).getD t 0))) λt ht=>by rw[hat t ht]]at this
def Et(n:Nat)(b:Nat->Bool)(c:Nat->Int)(v:Nat->Nat->Int)(i:Nat):Int:=sm n λl=>if b l then c l*v l i else 0
def Ind(p:Int)(n:Nat)(b:Nat->Bool)(d:Nat)(v:Nat->Nat->Int):Prop:=∀c:Nat->Int,(∀i,i<d->Cg p (Et n b c v i) 0)->∀l,l<n->b l=true->p∣c l
def Spn(p:Int)(n:Nat)(b:Nat->Bool)(d:Nat)(v:Nat->Nat->Int)(x:Nat->Int):Prop:=∃c:Nat->Int,∀i,i<d->Cg p (x i) (Et n b c v i)
theorem P5{p:Int}(F:EO p){n n' d:Nat}{b b':Nat->Bool}{v v':Nat->Nat->Int}(hI:Ind p n b d v)(hS:∀l,l<n->b l=true->Spn p n' b' d v' (v l)):Hc n b<=Hc n' b':=by
  refine Nat.le_of_not_lt λhlt=>?_
  have hex:∀l,∃a:Nat->Int,l<n->b l=true->∀i,i<d->Cg p (v l i) (Et n' b' a v' i):=λl=>by
    by_cases h:l<n/\b l=true
    · obtain⟨a,ha⟩:=hS l h.1 h.2;exact⟨a,λ_ _=>ha⟩
    · exact⟨λ_=>0,λh1 h2=>absurd ⟨h1,h2⟩ h⟩
  obtain⟨a,ha⟩:=Classical.axiomOfChoice hex;obtain⟨c,⟨l,hl,hb,hc⟩,h2⟩:=NY F (Hc n' b') n b (λe l=>a l ((Gj n' b').getD e 0)) hlt;refine hc (hI c (λi hi=>?_) l hl hb)
  -- the sum by the second family
  have e1:Cg p (Et n b c v i) (sm n λl=>if b l then sm n' (λl'=>if b' l' then c l*(a l l'*v' l' i) else 0) else 0):=by
    refine Cg.sm λl hl=>?_;cases hbl:b l with
    | false=>exact Cg.refl _ _
    | true=>
      simp only[if_true];have:=(Cg.refl p (c l)).mul (ha l hl hbl i hi);refine this.trans (Cg.of_eq ?_);unfold Et;rw[<-Fy];exact Bq λl' _=>by cases b' l'<;>simp
  have e2:(sm n λl=>if b l then sm n' (λl'=>if b' l' then c l*(a l l'*v' l' i) else 0) else 0)=sm n' λl'=>if b' l' then(sm n λl=>if b l then a l l'*c l else 0)*v' l' i else 0:=by
    rw[Bq (g:=λl=>sm n' λl'=>if b l then(if b' l' then c l*(a l l'*v' l' i) else 0) else 0) λl _=>by
      cases b l
      · simp[Fi]
      · simp,Kl]
    refine Bq λl' _=>?_;cases b' l' with
    | false=>simp only[Bool.false_eq_true,if_false];exact Hl λl _=>by cases b l<;>rfl
    | true=>
      simp only[if_true];rw[<-Pe];refine Bq λl _=>?_;cases b l
      · simp
      · simp only[if_true];rw[<-cz,cu (c l)]
  rw[e2]at e1;refine e1.trans ?_
  have:Cg p (sm n' λl'=>if b' l' then(sm n λl=>if b l then a l l'*c l else 0)*v' l' i else 0) (sm n' λ_=>0):=Cg.sm λl' hl'=>by
    cases hb':b' l' with
    | false=>exact Cg.refl _ _
    | true=>
      simp only[if_true];obtain⟨e,he,hee⟩:=List.getElem_of_mem (mem_sel.2 ⟨hl',hb'⟩);have h3:=h2 e he;have e3:(Gj n' b').getD e 0=l':=by simp[List.getD,he,hee]
      simp only[e3]at h3;have:=h3.mul (Cg.refl p (v' l' i))
      rwa [Int.zero_mul]at this
  rwa [Fi]at this
variable {f:Nat->Int} {d:Int}
theorem cgz{p c:Int}:Cg p c 0<->p∣c:=by unfold Cg;rw[Int.sub_zero]
theorem Xw:∀(m:Nat) (P:Nat->Prop) (k:Nat->Nat) (l0:Nat),l0<m->P l0->∃l,l<m/\P l/\∀l',l'<m->P l'->k l'<=k l
  | 0,_,_,_,h,_=>absurd h ω
  | m+1,P,k,l0,h,hP=>by
    by_cases h1:∃l1,l1<m/\P l1
    · obtain⟨l1,h2,h3⟩:=h1;obtain⟨l,h4,h5,h6⟩:=Xw m P k l1 h2 h3;by_cases h7:P m/\k l<k m
      · refine⟨m,ω,h7.1,λl' hl' hp=>?_⟩;rcases (ω:l'<m\/l'=m) with h8|rfl
        · have:=h6 l' h8 hp;omega
        · omega
      · refine⟨l,ω,h5,λl' hl' hp=>?_⟩;rcases (ω:l'<m\/l'=m) with h8|rfl
        · exact h6 l' h8 hp
        · exact Nat.le_of_not_lt λh9=>h7 ⟨hp,h9⟩
    · have:l0=m:=by
        rcases (ω:l0<m\/l0=m) with h8|h8
        · exact absurd ⟨l0,h8,hP⟩ h1
        · exact h8
      subst this;refine⟨l0,ω,hP,λl' hl' hp=>?_⟩;rcases (ω:l'<l0\/l'=l0) with h8|rfl
      · exact absurd ⟨l',h8,hp⟩ h1
      · exact ay _
theorem QM{p:Int}{n:Nat}(h:∀i,i<n->p∣f i):p∣sm n f:=by have:=Cg.sm (p:=p) (n:=n) (f:=f) (g:=λ_=>0) λi hi=>cgz.2 (h i hi);rw[Fi]at this;exact cgz.1 this
theorem ZW{p:Int}{n:Nat}(h:¬p∣sm n f):∃i,i<n/\¬p∣f i:=
  ax λh1=>h (QM λi hi=>ax λh2=>h1 ⟨i,hi,h2⟩)
theorem Sx{p:Int}{n k:Nat}(hk:k<n)(h:∀i,i<n->i≠k->p∣f i):Cg p (sm n f) (f k):=by
  rw[<-IA n k f hk];refine Cg.sm λi hi=>?_;by_cases e:i=k
  · rw[ab e];exact Cg.refl _ _
  · rw[aa e];exact cgz.2 (h i hi e)
theorem Cg.dvd_iff{p a b:Int}(h:Cg p a b):p∣a<->p∣b:=by rw[<-cgz,<-cgz];exact⟨λq=>h.symm.trans q,λq=>h.trans q⟩
def Top(p:Int)(n:Nat)(pos:Nat->Nat)(x:Nat->Int)(i:Nat):Prop:=i<n/\¬p∣x i/\∀i',i'<n->¬p∣x i'->pos i'<=pos i
section
variable {p:Int} {n m:Nat} {pos:Nat->Nat} {v:Nat->Nat->Int} {b:Nat->Bool} {τ:Nat->Nat}
theorem Il(F:EO p)(hT:∀l,l<m->b l=true->Top p n pos (v l) (τ l))(hi:∀l l',l<m->l'<m->b l=true->b l'=true->pos (τ l)=pos (τ l')->l=l')(c:Nat->Int){l0:Nat}(h0:l0<m)(hb0:b l0=true)(hc0:¬p∣c l0):∃i,i<n/\¬p∣Et m b c v i/\pos (τ l0)<=pos i:=by
  obtain⟨l,hl,⟨hb,hc⟩,hmax⟩:=Xw m (λl=>b l=true/\¬p∣c l) (λl=>pos (τ l)) l0 h0 ⟨hb0,hc0⟩;obtain⟨t1,t2,t3⟩:=hT l hl hb;refine⟨τ l,t1,λh=>?_,hmax l0 h0 ⟨hb0,hc0⟩⟩
  have e:Cg p (Et m b c v (τ l)) (if b l then c l*v l (τ l) else 0):=by
    refine Sx hl λl' hl' hne=>?_;cases hb':b l' with
    | false=>exact Int.dvd_zero p
    | true=>
      simp only[if_true];by_cases h1:p∣c l'
      · exact Int.dvd_mul_of_dvd_left h1
      · by_cases h2:p∣v l' (τ l)
        · exact Int.dvd_mul_of_dvd_right h2
        · exact absurd (hi l' l hl' hl hb' hb (Nat.le_antisymm (hmax l' hl' ⟨hb',h1⟩) ((hT l' hl' hb').2.2 _ t1 h2))) hne
  rw[e.dvd_iff,hb,ab rfl]at h;rcases F.mul _ _ h with h|h
  · exact hc h
  · exact t2 h
theorem N1(F:EO p)(pinj:∀i j,i<n->j<n->pos i=pos j->i=j)(hT:∀l,l<m->b l=true->Top p n pos (v l) (τ l))(Q:(Nat->Int)->Prop)(hQ:∀x c l,Q x->l<m->b l=true->Q λi=>x i-c*v l i)(hQT:∀x i,Q x->Top p n pos x i->∃l,l<m/\b l=true/\τ l=i):∀(M:Nat) (x:Nat->Int),Q x->(∀i,i<n->¬p∣x i->pos i<M)->∃c,∀i,i<n->Cg p (x i) (Et m b c v i)
  | 0,x,hx,h=>⟨λ_=>0,λi hi=>by
    have h1:p∣x i:=ax λh1=>absurd (h i hi h1) ω;have h2:Et m b (λ_=>0) v i=0:=Hl λl _=>by cases b l<;>simp
    rw[h2];exact cgz.2 h1⟩
  | M+1,x,hx,h=>by
    by_cases hM:∃i,i<n/\¬p∣x i/\pos i=M
    · obtain⟨i,hi,hn,hp⟩:=hM;obtain⟨l,hl,hb,rfl⟩:=hQT x i hx ⟨hi,hn,λi' hi' h'=>by have:=h i' hi' h';omega⟩;obtain⟨t1,t2,t3⟩:=hT l hl hb;obtain⟨w,hw⟩:=F.inv _ t2
      let c0:Int:=x (τ l)*w
      have hz:Cg p (x (τ l)-c0*v l (τ l)) 0:=by
        have h1:Cg p (c0*v l (τ l)) (x (τ l)):=by have:=(Cg.refl p (x (τ l))).mul hw;rw[Int.mul_one]at this;refine(Cg.of_eq ?_).trans this;show x (τ l)*w*v l (τ l)=_;rw[cz,cu w]
        have:=(Cg.refl p (x (τ l))).sub h1
        rwa [Int.sub_self]at this
      obtain⟨c,hc⟩:=N1 F pinj hT Q hQ hQT M (λi=>x i-c0*v l i) (hQ x c0 l hx hl hb) λi' hi' h'=>by
        have h1:pos i'<=M:=by
          by_cases h2:p∣x i'
          · have h3:¬p∣v l i':=λh3=>h' (Int.dvd_sub h2 (Int.dvd_mul_of_dvd_right h3));have:=t3 i' hi' h3;omega
          · have:=h i' hi' h2;omega
        have h4:pos i'≠M:=λh4=>by have:i'=τ l:=pinj _ _ hi' hi ω;subst this;exact h' (cgz.1 hz)
        omega
      refine⟨λl'=>c l'+if l'=l then c0 else 0,λi hi=>?_⟩;have h1:=(hc i hi).add (Cg.refl p (c0*v l i));rw[Int.sub_add_cancel]at h1;refine h1.trans (Cg.of_eq ?_);have e2:c0*v l i=sm m λl'=>if l'=l then c0*v l i else 0:=(IA m l (λ_=>c0*v l i) hl).symm
      unfold Et;rw[e2,<-Hb];refine Bq λl' _=>?_;by_cases e:l'=l
      · subst e;simp only[hb,if_true];rw[Int.add_mul]
      · cases b l'<;>simp[e]
    · exact N1 F pinj hT Q hQ hQT M x hx λi hi h'=>by have:=h i hi h';have:pos i≠M:=λe=>hM ⟨i,hi,h',e⟩;omega
theorem Vn(n:Nat)(pos:Nat->Nat):∃M,∀i,i<n->pos i<M:=by
  induction n with
  | zero=>exact⟨0,λi hi=>ω⟩
  | succ n ih=>
    obtain⟨M,h⟩:=ih;refine⟨max M (pos n+1),λi hi=>?_⟩;rcases (ω:i<n\/i=n) with h1|rfl
    · have:=h i h1;omega
    · omega
end
def FK(n:Nat)(D:Nat->Nat->Int)(x:Nat->Int)(i:Nat):Int:=sm n λk=>D i k*x k
theorem RR{p:Int}{n:Nat}{D:Nat->Nat->Int}{x y:Nat->Int}(h:∀k,k<n->Cg p (x k) (y k))(i:Nat):Cg p (FK n D x i) (FK n D y i):=Cg.sm λk hk=>(Cg.refl _ _).mul (h k hk)
theorem OV(n m:Nat)(D:Nat->Nat->Int)(b:Nat->Bool)(c:Nat->Int)(v:Nat->Nat->Int)(i:Nat):FK n D (Et m b c v) i=Et m b c (λl=>FK n D (v l)) i:=by
  unfold FK Et
  have:(sm n λk=>D i k*sm m λl=>if b l then c l*v l k else 0)=sm n λk=>sm m λl=>if b l then c l*(D i k*v l k) else 0:=Bq λk _=>by
    rw[<-Fy];refine Bq λl _=>?_;cases b l
    · simp
    · simp only[if_true];rw[<-cz,<-cz,cu (D i k)]
  rw[this,Kl];refine Bq λl _=>?_;cases b l
  · simp[Fi]
  · simp only[if_true];rw[Fy]
structure Rdc(p:Int)(n:Nat)(D:Nat->Nat->Int)(dm:Nat->Int)(pos:Nat->Nat)(v:Nat->Nat->Int)(low:Nat->Option Nat):Prop where
  F:EO p
  D2:∀i j,i<n->j<n->p∣FK n D (λk=>D k j) i
  Ddm:∀i j,i<n->j<n->¬p∣D i j->dm j=dm i+1
  pinj:∀i j,i<n->j<n->pos i=pos j->i=j
  vtop:∀j,j<n->Top p n pos (v j) j
  vdm:∀j i,j<n->i<n->¬p∣v j i->dm i=dm j
  lnone:∀j,j<n->low j=none->∀i,i<n->p∣FK n D (v j) i
  lsome:∀j i,j<n->low j=some i->Top p n pos (FK n D (v j)) i
  linj:∀j j' i,j<n->j'<n->low j=some i->low j'=some i->j=j'
section
variable {p:Int} {n:Nat} {D:Nat->Nat->Int} {dm:Nat->Int} {pos pos':Nat->Nat} {v v':Nat->Nat->Int} {low low':Nat->Option Nat}
def Oh(dm:Nat->Int)(low:Nat->Option Nat)(d:Int)(j:Nat):Bool:=decide (dm j=d)&&(low j).isSome
def lo(low:Nat->Option Nat)(j:Nat):Nat:=(low j).getD 0
theorem prs_iff{j:Nat}:Oh dm low d j=true<->dm j=d/\low j=some (lo low j):=by unfold Oh lo;rw[bj,decide_eq_true_eq];cases low j<;>simp
theorem Rdc.prs_top(R:Rdc p n D dm pos v low){j:Nat}(hj:j<n)(h:Oh dm low d j=true):Top p n pos (FK n D (v j)) (lo low j):=R.lsome j _ hj (prs_iff.1 h).2
theorem Rdc.prs_inj(R:Rdc p n D dm pos v low)(l l':Nat)(hl:l<n)(hl':l'<n)(h:Oh dm low d l=true)(h':Oh dm low d l'=true)(e:pos (lo low l)=pos (lo low l')):l=l':=by have e1:=R.pinj _ _ (R.prs_top hl h).1 (R.prs_top hl' h').1 e;refine R.linj l l' _ hl hl' (prs_iff.1 h).2 ?_;rw[e1];exact(prs_iff.1 h').2
theorem Rdc.all(R:Rdc p n D dm pos v low)(d:Int)(x:Nat->Int)(hx:∀i,i<n->¬p∣x i->dm i=d):∃c,∀i,i<n->Cg p (x i) (Et n (λl=>decide (dm l=d)) c v i):=by
  obtain⟨M,hM⟩:=Vn n pos;refine N1 (τ:=λl=>l) R.F R.pinj (λl hl _=>R.vtop l hl) (λx=>∀i,i<n->¬p∣x i->dm i=d) (λx c l h hl hb i hi hn=>?_) (λx i h hT=>⟨i,hT.1,ag (h i hT.1 hT.2.1),Y⟩) M x hx λi hi _=>hM i hi;by_cases h1:p∣x i
  · have h2:¬p∣v l i:=λh2=>hn (Int.dvd_sub h1 (Int.dvd_mul_of_dvd_right h2));rw[R.vdm l i hl hi h2];exact bw hb
  · exact h i hi h1
theorem Rdc.chg(R:Rdc p n D dm pos v low)(R':Rdc p n D dm pos' v' low'){g:Nat->Int}{δ:Int}(hf:∀i j,i<n->j<n->pos i<=pos j->f i<=f j)(hg:∀i j,i<n->j<n->pos' i<=pos' j->g i<=g j)(hfg:∀i,i<n->g i<=f i+δ)(d:Int) :
    ∃C:Nat->Nat->Int,∀j,j<n->Oh dm low d j=true->(∀i,i<n->Cg p (FK n D (v j) i) (Et n (Oh dm low' d) (C j) (λk=>FK n D (v' k)) i))/\∀k,k<n->Oh dm low' d k=true->¬p∣C j k->g k<=f j+δ/\g (lo low' k)<=f (lo low j)+δ:=by
  have hex:∀j,∃c:Nat->Int,j<n->dm j=d->∀i,i<n->Cg p (v j i) (Et n (λl=>decide (dm l=d)) c v' i):=λj=>by
    by_cases h:j<n/\dm j=d
    · obtain⟨c,hc⟩:=R'.all d (v j) λi hi hn=>(R.vdm j i h.1 hi hn).trans h.2;exact⟨c,λ_ _=>hc⟩
    · exact⟨λ_=>0,λh1 h2=>absurd ⟨h1,h2⟩ h⟩
  obtain⟨C,hC⟩:=Classical.axiomOfChoice hex;refine⟨C,λj hj hb=>?_⟩;obtain⟨hd,hlow⟩:=prs_iff.1 hb;have hv:=hC j hj hd
  have hr:∀i,i<n->Cg p (FK n D (v j) i) (Et n (Oh dm low' d) (C j) (λk=>FK n D (v' k)) i):=λi hi=>by
    refine(RR hv i).trans ?_;rw[OV];refine Cg.sm λk hk=>?_;show Cg p (if decide (dm k=d)=true then _ else 0) _;by_cases h1:dm k=d
    · cases h2:low' k with
      | none=>
        have h3:Oh dm low' d k=false:=by simp[Oh,h2]
        rw[h3,ag h1,ab rfl];exact cgz.2 (Int.dvd_mul_of_dvd_right (R'.lnone k hk h2 i hi))
      | some i'=>
        have h3:Oh dm low' d k=true:=by simp[Oh,h2,h1]
        rw[h3,ag h1];exact Cg.refl _ _
    · have h3:Oh dm low' d k=false:=by simp[Oh,h1]
      rw[h3,ah h1];exact Cg.refl _ _
  refine⟨hr,λk hk hbk hck=>⟨?_,?_⟩⟩
  · obtain⟨i,hi,h1,h2⟩:=Il (τ:=λl=>l) (b:=λl=>decide (dm l=d)) R.F (λl hl _=>R'.vtop l hl) (λl l' hl hl' _ _ e=>R'.pinj l l' hl hl' e) (C j) hk (ag (prs_iff.1 hbk).1) hck;have h3:¬p∣v j i:=λh=>h1 ((hv i hi).dvd_iff.1 h);have h4:=hf i j hi hj ((R.vtop j hj).2.2 i hi h3);have h5:=hg k i hk hi h2;have h6:=hfg i hi;omega
  · obtain⟨i,hi,h1,h2⟩:=Il (τ:=lo low') R.F (λl hl hb=>R'.prs_top hl hb) (λl l' hl hl' hb hb' e=>R'.prs_inj l l' hl hl' hb hb' e) (C j) hk hbk hck;have h3:¬p∣FK n D (v j) i:=λh=>h1 ((hr i hi).dvd_iff.1 h);have hT:=R.prs_top hj hb;have h4:=hf i (lo low j) hi hT.1 (hT.2.2 i hi h3);have h5:=hg _ i (R'.prs_top hk hbk).1 hi h2;have h6:=hfg i hi;omega
def opn(n:Nat)(dm:Nat->Int)(low:Nat->Option Nat)(d:Int)(i:Nat):Prop:=dm i=d/\low i=none/\∀j,j<n->low j≠some i
theorem Rdc.cyc(R:Rdc p n D dm pos v low){x:Nat->Int}{i:Nat}(hx:∀i,i<n->p∣FK n D x i)(hT:Top p n pos x i):low i=none:=by
  cases hl:low i with
  | none=>rfl
  | some i0=>
    exfalso;obtain⟨M,hM⟩:=Vn n pos;obtain⟨c,hc⟩:=N1 (b:=λ_=>true) (τ:=λl=>l) R.F R.pinj (λl hl _=>R.vtop l hl) (λ_=>True) (λ_ _ _ _ _ _=>trivial) (λx i _ hT=>⟨i,hT.1,Y,Y⟩) M x trivial λi hi _=>hM i hi;obtain⟨hi,hn,hmax⟩:=hT
    -- the part of i
    have hci:¬p∣c i:=λh=>hn ((hc i hi).dvd_iff.2 (QM λl hl=>by
      show p∣if true=true then c l*v l i else 0
      rw[ab rfl];by_cases h1:p∣c l
      · exact Int.dvd_mul_of_dvd_left h1
      by_cases h2:p∣v l i
      · exact Int.dvd_mul_of_dvd_right h2
      exfalso;have h3:=(R.vtop l hl).2.2 i hi h2;obtain⟨i',hi',h4,h5⟩:=Il (τ:=λl=>l) (b:=λ_=>true) R.F (λl hl _=>R.vtop l hl) (λl l' hl hl' _ _ e=>R.pinj l l' hl hl' e) c hl Y h1;have h6:=hmax i' hi' λh=>h4 ((hc i' hi').dvd_iff.1 h);have:=R.pinj l i hl hi ω;subst this
      exact h1 h))
    obtain⟨i',hi',h1,_⟩:=Il (v:=λk=>FK n D (v k)) (τ:=lo low) (b:=λl=>(low l).isSome) R.F (λl hl hb=>R.lsome l _ hl (by unfold lo;revert hb;cases low l<;>simp)) (λl l' hl hl' hb hb' e=>by
      have e1:low l=some (lo low l):=by unfold lo;revert hb;cases low l<;>simp
      have e2:low l'=some (lo low l'):=by unfold lo;revert hb';cases low l'<;>simp
      have:=R.pinj _ _ (R.lsome l _ hl e1).1 (R.lsome l' _ hl' e2).1 e;refine R.linj l l' _ hl hl' e1 ?_
      rw[this];exact e2) c hi (by rw[hl];rfl) hci
    refine h1 ?_;have h2:=RR (D:=D) hc i';rw[OV]at h2;have h3:=h2.dvd_iff.1 (hx i' hi')
    have h4:Cg p (Et n (λl=>(low l).isSome) c (λk=>FK n D (v k)) i') (Et n (λ_=>true) c (λk=>FK n D (v k)) i'):=Cg.sm λl hl=>by
      show Cg p (if(low l).isSome=true then _ else 0) (if true=true then _ else 0);cases hll:low l with
      | some _=>exact Cg.refl _ _
      | none=>
        rw[ab rfl];exact(cgz.2 (Int.dvd_mul_of_dvd_right (R.lnone l hl hll i' hi'))).symm
    exact h4.dvd_iff.2 h3
end
end Go.Lin
namespace Go.Lin
section
variable {p:Int} {n:Nat} {D:Nat->Nat->Int} {dm:Nat->Int} {pos pos':Nat->Nat} {v v':Nat->Nat->Int} {low low':Nat->Option Nat}
theorem Rdc.bb(R:Rdc p n D dm pos v low)(x:Nat->Int){i:Nat}(hi:i<n):p∣FK n D (FK n D x) i:=by
  have e:FK n D (FK n D x) i=sm n λj=>FK n D (λk=>D k j) i*x j:=by unfold FK;rw[Bq (g:=λk=>sm n λj=>D i k*(D k j*x j)) λk _=>(Fy n (D i k) λj=>D k j*x j).symm,Kl];refine Bq λj _=>?_;rw[<-Pe];exact Bq λk _=>(cz _ _ _).symm
  rw[e];exact QM λj hj=>Int.dvd_mul_of_dvd_left (R.D2 i j hi hj)
end
end Go.Lin

namespace Go.Lin
def ap(A:Nat->Nat->Int)(cols:Nat)(v:Nat->Int)(i:Nat):Int:=sm cols λj=>A i j*v j
variable {r c i j:Nat} {p:Int} {f:Nat->Nat->Int} {x:Nat->Int}
def RSp(p:Int)(r c:Nat)(f:Nat->Nat->Int)(x:Nat->Int):Prop:=∃u:Nat->Int,∀b,b<c->Cg p (x b) (sm r λl=>u l*f l b)
theorem RSp.row(hi:i<r):RSp p r c f (f i):=
  ⟨λl=>if l=i then 1 else 0,λb _=>Cg.of_eq (by
    rw[Gy r i _ hi λl _ hne=>by simp[hne]]
    simp)⟩
theorem RSp.cg{y:Nat->Int}(h:RSp p r c f x)(hc:∀b,b<c->Cg p (y b) (x b)):RSp p r c f y:=by obtain⟨u,hu⟩:=h;exact⟨u,λb hb=>(hc b hb).trans (hu b hb)⟩
theorem RSp.mul(h:RSp p r c f x)(k:Int):RSp p r c f λb=>k*x b:=by obtain⟨u,hu⟩:=h;refine⟨λl=>k*u l,λb hb=>(Cg.mul (Cg.refl p k) (hu b hb)).trans (Cg.of_eq ?_)⟩;rw[<-Fy];exact Bq λl _=>by rw[cz]
theorem RSp.add{y:Nat->Int}(h:RSp p r c f x)(h':RSp p r c f y):RSp p r c f λb=>x b+y b:=by obtain⟨u,hu⟩:=h;obtain⟨v,hv⟩:=h';refine⟨λl=>u l+v l,λb hb=>(Cg.add (hu b hb) (hv b hb)).trans (Cg.of_eq ?_)⟩;rw[<-Hb];exact Bq λl _=>by rw[Int.add_mul]
structure Red(p:Int)(r c:Nat)(f F:Nat->Nat->Int)(pv:List Nat)(j:Nat):Prop where
  bd:∀i,i<r->∀b,b<c->0<=F i b/\F i b<p
  sorted:pv.Pairwise (· < ·)
  lt:∀k (h:k<pv.length),pv[k]<j
  len:pv.length<=r
  col:∀i,i<r->∀k (h:k<pv.length),F i pv[k]=if i=k then 1 else 0
  low:∀i,i<r->pv.length<=i->∀b,b<j->F i b=0
  left:∀i (h:i<pv.length),∀b,b<pv[i]->F i b=0
  ker:∀x:Nat->Int,(∀i,i<r->Cg p (ap F c x i) 0)<->(∀i,i<r->Cg p (ap f c x i) 0)
  row:∀i,i<r->RSp p r c f (F i)
theorem Red.start(h:∀i,i<r->∀b,b<c->0<=f i b/\f i b<p):Red p r c f f [] 0:=
  ⟨h,List.Pairwise.nil,λk h=>by simp at h,by simp,λi _ k h=>by simp at h,λi _ _ b hb=>ω,λi h=>by simp at h,λx=>Iff.rfl,λi hi=>RSp.row hi⟩
theorem Red.skip{F:Nat->Nat->Int}{pv:List Nat}(R:Red p r c f F pv j)(h:∀i,i<r->pv.length<=i->F i j=0):Red p r c f F pv (j+1):=
  ⟨R.bd,R.sorted,λk hk=>Nat.lt_succ_of_lt (R.lt k hk),R.len,R.col,λi hi hl b hb=>by
    rcases (ω:b<j\/b=j) with h1|rfl
    · exact R.low i hi hl b h1
    · exact h i hi hl,R.left,R.ker,R.row⟩
def Hz(i j a:Nat):Nat:=if a=i then j else if a=j then i else a
theorem G4{a:Nat}(hi:i<r)(hj:j<r)(ha:a<r):Hz i j a<r:=by
  unfold Hz;split
  · exact hj
  · split
    · exact hi
    · exact ha
theorem So(i j a:Nat):Hz i j (Hz i j a)=a:=by
  unfold Hz;by_cases h1:a=i
  · by_cases h2:j=i
    · simp[h1,h2]
    · simp[h1,h2]
  · by_cases h2:a=j
    · simp[h2]
    · simp[h1,h2]
def ED(p:Int)(t i:Nat)(v:Int)(F:Nat->Nat->Int)(a b:Nat):Int:=if a=t then F (Hz t i t) b*v%p else F (Hz t i a) b
def QU(p:Int)(t i j:Nat)(v:Int)(F:Nat->Nat->Int)(a b:Nat):Int:=if a=t then ED p t i v F t b else(ED p t i v F a b+ED p t i v F t b*(p-ED p t i v F a j))%p
theorem Red.step{F:Nat->Nat->Int}{pv:List Nat}{v:Int}(hp:2<=p)(R:Red p r c f F pv j)(hi:i<r)(hl:pv.length<=i)(hj:j<c)(hv:F i j*v%p=1) :
    Red p r c f (QU p pv.length i j v F) (pv++[j]) (j+1):=by
  generalize ht:pv.length=t at *;have htr:t<r:=ω
  have hst:Hz t i t=i:=by simp[Hz]
  have hle:∀a,t<=a->t<=Hz t i a:=λa ha=>by
    unfold Hz;split
    · omega
    · split<;>omega
  have hsm:∀a,a<t->Hz t i a=a:=λa ha=>by unfold Hz;rw[aa ω,aa ω]
  -- row t,in the second form
  have h2bd:∀a,a<r->∀b,b<c->0<=ED p t i v F a b/\ED p t i v F a b<p:=λa ha b hb=>by
    unfold ED;split
    · exact⟨da _ ω,dc _ ω⟩
    · exact R.bd _ (G4 htr hi ha) b hb
  have h2t:∀b,ED p t i v F t b=F i b*v%p:=λb=>by unfold ED;rw[ab rfl,hst]
  have h2z:∀b,F i b=0->ED p t i v F t b=0:=λb hb=>by rw[h2t,hb,Int.zero_mul,Int.zero_emod]
  have h2j:ED p t i v F t j=1:=by rw[h2t,hv]
  have h2n:∀a,a≠t->∀b,ED p t i v F a b=F (Hz t i a) b:=λa ha b=>by unfold ED;rw[aa ha]
  have h3t:∀b,QU p t i j v F t b=ED p t i v F t b:=λb=>by unfold QU;rw[ab rfl]
  have h3n:∀a,a≠t->∀b,QU p t i j v F a b=(ED p t i v F a b+ED p t i v F t b*(p-ED p t i v F a j))%p:=λa ha b=>by unfold QU;rw[aa ha]
  have h3same:∀a,a<r->a≠t->∀b,b<c->F i b=0->QU p t i j v F a b=F (Hz t i a) b:=λa ha hat b hb hz=>by rw[h3n a hat,h2z b hz,Int.zero_mul,cw,h2n a hat];have:=R.bd _ (G4 htr hi ha) b hb;exact Int.emod_eq_of_lt this.1 this.2
  have hlowi:∀b,b<j->F i b=0:=λb hb=>R.low i hi ω b hb;have hpvz:∀k (h:k<pv.length),F i pv[k]=0:=λk h=>by rw[R.col i hi k h,aa ω]
  refine⟨λa ha b hb=>?_,?_,λk hk=>?_,?_,λa ha k hk=>?_,λa ha hla b hb=>?_,λa ha b hb=>?_,λx=>?_,λa ha=>?_⟩
  · by_cases hat:a=t
    · subst hat;rw[h3t];exact h2bd _ ha b hb
    · rw[h3n a hat];exact⟨da _ ω,dc _ ω⟩
  · rw[List.pairwise_append];refine⟨R.sorted,List.pairwise_singleton _ _,λa ha b hb=>?_⟩;obtain⟨k,hk,rfl⟩:=bp.1 ha;rw[ak.1 hb];exact R.lt k hk
  · rw[List.getElem_append];split
    · exact Nat.lt_succ_of_lt (R.lt k _)
    · simp
  · rw[ad,ac];omega
  · rw[List.getElem_append];split
    · rename_i hk';have hkj:=R.lt k hk';by_cases hat:a=t
      · subst hat;rw[h3t,h2z _ (hpvz k hk'),aa ω]
      · rw[h3same a ha hat _ ω (hpvz k hk'),R.col _ (G4 htr hi ha) k hk'];by_cases h1:a<t
        · rw[hsm a h1]
        · rw[aa (by have:=hle a ω;omega),aa ω]
    · rename_i hk';rw[ad,ac]at hk;have hkt:k=t:=ω
      simp only[List.getElem_singleton];by_cases hat:a=t
      · subst hat;rw[h3t,h2j,ab ω]
      · rw[h3n a hat,h2j,Int.one_mul,aa ω,show ED p t i v F a j+(p-ED p t i v F a j)=p by omega,Int.emod_self]
  · rw[ad,ac]at hla;have hat:a≠t:=ω
    by_cases hbj:b<j
    · by_cases hbc:b<c
      · rw[h3same a ha hat b hbc (hlowi b hbj)];exact R.low _ (G4 htr hi ha) (by have:=hle a ω;omega) b hbj
      · omega
    · have:b=j:=ω
      subst this;rw[h3n a hat,h2j,Int.one_mul,show ED p t i v F a b+(p-ED p t i v F a b)=p by omega,Int.emod_self]
  · rw[ad,ac]at ha;rw[List.getElem_append]at hb;split at hb
    · rename_i ha';have hlt:=R.lt a ha';rw[h3same a ω ω b ω (hlowi b ω),hsm a ω];exact R.left a ha' b hb
    · simp only[List.getElem_singleton]at hb;have hat:a=t:=ω
      subst hat;rw[h3t,h2z b (hlowi b hb)]
  · rw[<-R.ker x]
    -- the sums
    have s2n:∀a,a≠t->ap (ED p t i v F) c x a=ap F c x (Hz t i a):=λa ha=>Bq λb hb=>by rw[h2n a ha]
    have s2t:Cg p (ap (ED p t i v F) c x t) (v*ap F c x i):=by refine Cg.trans (Cg.sm λb hb=>(show Cg p (ED p t i v F t b*x b) (v*(F i b*x b)) from ?_)) (Cg.of_eq (Fy c v _));rw[h2t];refine Cg.trans (Cg.mul (Cg.mod _ _) (Cg.refl _ _)) (Cg.of_eq ?_);rw[cu (F i b) v,cz]
    have s3t:ap (QU p t i j v F) c x t=ap (ED p t i v F) c x t:=Bq λb hb=>by rw[h3t]
    have s3n:∀a,a≠t->Cg p (ap (QU p t i j v F) c x a) (ap F c x (Hz t i a)+(p-ED p t i v F a j)*ap (ED p t i v F) c x t):=λa ha=>by
      refine Cg.trans (Cg.sm λb hb=>(show Cg p (QU p t i j v F a b*x b) (F (Hz t i a) b*x b+(p-ED p t i v F a j)*(ED p t i v F t b*x b)) from ?_)) (Cg.of_eq ?_)
      · rw[h3n a ha,h2n a ha b];refine Cg.trans (Cg.mul (Cg.mod _ _) (Cg.refl _ _)) (Cg.of_eq ?_);rw[Int.add_mul,cu (ED p t i v F t b),cz]
      · rw[Hb,Fy];rfl
    constructor
    · intro H a ha;have ht0:Cg p (ap (ED p t i v F) c x t) 0:=by rw[<-s3t];exact H t htr
      have hn0:∀a,a<r->a≠t->Cg p (ap F c x (Hz t i a)) 0:=λa ha hat=>by have h1:=(s3n a hat).symm.trans (H a ha);have h2:=Cg.mul (Cg.refl p (p-ED p t i v F a j)) ht0;have h3:=Cg.sub h1 h2;rw[Int.mul_zero,Int.sub_zero]at h3;exact Cg.trans (Cg.of_eq ω) h3
      have hi0:Cg p (ap F c x i) 0:=by have h1:=s2t.symm.trans ht0;have h2:=Cg.mul (Cg.refl p (F i j)) h1;rw[Int.mul_zero,<-cz]at h2;have h3:Cg p (F i j*v) 1:=Cg.iff_mod.2 (by rw[hv,Int.emod_eq_of_lt ω ω]);have h4:=Cg.mul h3 (Cg.refl p (ap F c x i));rw[Int.one_mul]at h4;exact h4.symm.trans h2
      by_cases hat:Hz t i a=t
      · have:a=i:=by
          have h1:=So t i a;rw[hat,hst]at h1;exact h1.symm
        rw[this];exact hi0
      · have h1:=hn0 (Hz t i a) (G4 htr hi ha) hat
        rwa [So]at h1
    · intro H a ha
      have ht0:Cg p (ap (ED p t i v F) c x t) 0:=by have:=Cg.mul (Cg.refl p v) (H i hi);rw[Int.mul_zero]at this;exact s2t.trans this
      by_cases hat:a=t
      · subst hat;rw[s3t];exact ht0
      · refine(s3n a hat).trans ?_;have h2:=Cg.mul (Cg.refl p (p-ED p t i v F a j)) ht0;have h3:=Cg.add (H _ (G4 htr hi ha)) h2
        rwa [Int.mul_zero,cw]at h3
  · have ht:RSp p r c f (ED p t i v F t):=((R.row i hi).mul v).cg λb _=>by
      rw[h2t,cu v];exact Cg.mod _ _
    by_cases hat:a=t
    · subst hat;exact ht.cg λb _=>Cg.of_eq (h3t b)
    · refine((R.row _ (G4 htr hi ha)).add (ht.mul (p-ED p t i v F a j))).cg λb _=>?_;rw[h3n a hat,h2n a hat b,cu (ED p t i v F t b)];exact Cg.mod _ _
end Go.Lin
namespace Go.Lin
structure SubV(p:Int)(d:Nat)(W:(Nat->Int)->Prop):Prop where
  zero:W λ_=>0
  cg:∀x y,(∀i,i<d->Cg p (y i) (x i))->W x->W y
  lin:∀x y c,W x->W y->W λi=>x i+c*y i
theorem PA(p:Int)(n d:Nat)(b:Nat->Bool)(w:Nat->Nat->Int):SubV p d (Spn p n b d w):=by
  refine⟨⟨λ_=>0,λi _=>Cg.of_eq ?_⟩,λx y h ⟨c,hc⟩=>⟨c,λi hi=>(h i hi).trans (hc i hi)⟩,λx y c ⟨a,ha⟩ ⟨e,he⟩=>⟨λl=>a l+c*e l,λi hi=>?_⟩⟩
  · unfold Et;exact(Hl λl _=>by rw[Int.zero_mul,ite_self]).symm
  · refine((ha i hi).add ((Cg.refl p c).mul (he i hi))).trans (Cg.of_eq ?_);unfold Et;rw[<-Fy,<-Hb];refine Bq λl _=>?_;cases b l
    · simp
    · simp only[if_true];rw[Int.add_mul,cz]
theorem Spn.one{p:Int}{n d:Nat}{b:Nat->Bool}{v:Nat->Nat->Int}{l:Nat}(hl:l<n)(hb:b l=true):Spn p n b d v (v l):=
  ⟨λk=>if k=l then 1 else 0,λi _=>Cg.of_eq (by
    unfold Et;rw[Gy n l _ hl λk _ hne=>by simp[hne]]
    simp[hb])⟩
theorem SubV.sm{p:Int}{d:Nat}{W:(Nat->Int)->Prop}(H:SubV p d W){n:Nat}{f:Nat->Nat->Int}{c:Nat->Int}(h:∀k,k<n->W (f k)\/c k=0):W λi=>Lin.sm n λk=>c k*f k i:=by
  induction n with
  | zero=>exact H.zero
  | succ n ih=>
    have h1:=ih λk hk=>h k ω;rcases h n ω with h2|h2
    · exact H.lin _ _ (c n) h1 h2
    · exact H.cg _ _ (λi _=>Cg.of_eq (by show Lin.sm n _+c n*f n i=_;rw[h2,Int.zero_mul,cw])) h1
theorem Xv{p:Int}(F:EO p){N:Nat}{b:Nat->Bool}{v:Nat->Nat->Int}{last:Nat->Nat}(h:∀j,j<N->b j=true->last j<N/\¬p∣v j (last j)/\∀i,last j<i->i<N->p∣v j i)
    (hinj:∀j k,j<N->k<N->b j=true->b k=true->last j=last k->j=k):Ind p N b N v:=by
  intro c hc
  have key:∀t,∀l,l<N->b l=true->N<=last l+t->p∣c l:=by
    intro t
    induction t with
    | zero=>intro l hl hb h1;have:=(h l hl hb).1;omega
    | succ t ih=>
      intro l hl hb h1;obtain⟨h2,h3,h4⟩:=h l hl hb;have h5:=hc (last l) h2
      have h6:Cg p (Et N b c v (last l)) (if b l=true then c l*v l (last l) else 0):=by
        unfold Et;refine Sx hl λi hi hne=>?_;by_cases hbi:b i=true
        · rw[ab hbi];rcases (ω:last l<last i\/last i<last l\/last l=last i) with h7|h7|h7
          · exact Int.dvd_mul_of_dvd_left (ih i hi hbi ω)
          · exact Int.dvd_mul_of_dvd_right ((h i hi hbi).2.2 _ h7 h2)
          · exact absurd (hinj l i hl hi hb hbi h7).symm hne
        · rw[aa hbi];exact Int.dvd_zero p
      rw[ab hb]at h6;have h7:p∣c l*v l (last l):=by have:=h6.symm.trans h5;unfold Cg at this;rwa [Int.sub_zero]at this
      rcases F.mul _ _ h7 with h8|h8
      · exact h8
      · exact absurd h8 h3
  exact λl hl hb=>key N l hl hb ω
theorem Vp{pv:List Nat}(hs:pv.Pairwise (· < ·)){c:Nat}(hc:∀a∈pv,a<c):Hc c pv.contains=pv.length:=by
  unfold Hc Gj;have hn:pv.Nodup:=hs.imp λh=>ω
  refine(List.Perm.length_eq ?_);refine(List.perm_ext_iff_of_nodup (List.Pairwise.filter _ List.nodup_range) hn).2 λa=>?_;simp only[di,mem_range,List.contains_iff_mem];exact⟨λh=>h.2,λh=>⟨hc a h,h⟩⟩
theorem Red.at_{p:Int}{r c:Nat}{f G:Nat->Nat->Int}{pv:List Nat}(R:Red p r c f G pv c){x:Nat->Int}{i:Nat}(hi:i<pv.length)(h0:∀b,b<c->pv.contains b=false->x b=0):ap G c x i=x (pv[i]):=by
  unfold ap;have hil:i<r:=by have:=R.len;omega
  rw[Gy c pv[i] _ (R.lt i hi) λb hb hne=>?_]
  · rw[R.col i hil i hi,ab rfl,Int.one_mul]
  · by_cases hb2:b∈pv
    · obtain⟨k,hk,e⟩:=bp.1 hb2;subst e;rw[R.col i hil k hk,aa (by rintro rfl;exact hne Y),Int.zero_mul]
    · rw[h0 b hb (by simpa using hb2),Int.mul_zero]
section
variable {p:Int} {r c N:Nat} {f G:Nat->Nat->Int} {pv:List Nat} {D:Nat->Nat->Int} {q ρ:Nat->Nat}
theorem YJ(hf:∀i,i<r->∀k,k<c->Cg p (f i k) (D (ρ i) (q k)))(hρ:∀i,i<r->ρ i<N)(hz:∀x,x<N->∀k,k<c->(∀i,i<r->ρ i≠x)->Cg p (D x (q k)) 0)(x:Nat->Int) :
    (∀i,i<N->Cg p (sm c λk=>x k*D i (q k)) 0)<->∀i,i<r->Cg p (ap f c x i) 0:=by
  have e:∀i,i<r->Cg p (ap f c x i) (sm c λk=>x k*D (ρ i) (q k)):=λi hi=>by unfold ap;refine Cg.sm λk hk=>?_;exact((hf i hi k hk).mul (Cg.refl p (x k))).trans (Cg.of_eq (cu _ _))
  constructor
  · exact λh i hi=>(e i hi).trans (h _ (hρ i hi))
  · intro h i hi;by_cases h1:∃k,k<r/\ρ k=i
    · obtain⟨k,hk,rfl⟩:=h1;exact(e k hk).symm.trans (h k hk)
    · refine(Cg.sm (g:=λ_=>0) λk hk=>?_).trans (Cg.of_eq (Fi c));have:=hz i hi k hk λk' hk' e'=>h1 ⟨k',hk',e'⟩;exact((Cg.refl p (x k)).mul this).trans (Cg.of_eq (Int.mul_zero _))
theorem Uc(F:EO p)(R:Red p r c f G pv c)(hq:∀k,k<c->q k<N)(hρ:∀i,i<r->ρ i<N)(hf:∀i,i<r->∀k,k<c->Cg p (f i k) (D (ρ i) (q k)))
    (hz:∀x,x<N->∀k,k<c->(∀i,i<r->ρ i≠x)->Cg p (D x (q k)) 0) (b:Nat->Bool) (hb:∀j,j<N->(b j=true<->∃k,k<c/\q k=j)) (rc v:Nat->Nat->Int)
    (heq:∀j,j<N->b j=true->∀i,i<N->Cg p (rc j i) (sm N λm=>v j m*D i m)) (hone:∀j,j<N->b j=true->v j j=1) (haft:∀j m,j<N->b j=true->j<m->v j m=0) (hin:∀j m,j<N->m<N->b j=true->v j m≠0->b m=true)
    (nz:Nat->Bool) (last:Nat->Nat) (h0:∀j,j<N->b j=true->nz j=false->∀i,i<N->Cg p (rc j i) 0) (h1:∀j,j<N->b j=true->nz j=true->last j<N/\¬p∣rc j (last j)/\∀i,last j<i->i<N->p∣rc j i)
    (hinj:∀j k,j<N->k<N->b j=true->b k=true->nz j=true->nz k=true->last j=last k->j=k):pv.length=Hc N λj=>b j&&nz j:=by
  have hlt:∀a∈pv,a<c:=λa ha=>by obtain⟨k,hk,rfl⟩:=bp.1 ha;exact R.lt k hk
  have hrel:=λx=>YJ (x:=x) hf hρ hz;have SN:=PA p N N (λj=>b j&&nz j) rc;have SP:=PA p c N pv.contains λk i=>D i (q k)
  -- the columns lie in the span of the reduced ones
  have hD:∀j,j<N->b j=true->Spn p N (λj=>b j&&nz j) N rc λi=>D i j:=by
    intro j
    induction j using Nat.strongRecOn with
    | ind j ih=>
      intro hj hbj
      have hr:Spn p N (λj=>b j&&nz j) N rc (rc j):=by
        cases hn:nz j with
        | true=>exact Spn.one hj (by simp[hbj,hn])
        | false=>exact SN.cg _ _ (h0 j hj hbj hn) SN.zero
      have hs:Spn p N (λj=>b j&&nz j) N rc λi=>sm N λm=>(if m=j then 0 else v j m)*D i m:=
        SN.sm (f:=λm i=>D i m) λm hm=>by
          by_cases e:m=j
          · exact .inr (ab e)
          · by_cases e2:v j m=0
            · exact .inr (by rw[aa e,e2])
            · refine .inl (ih m ?_ hm (hin j m hj hm hbj e2));rcases (ω:m<j\/j<m) with h|h
              · exact h
              · exact absurd (haft j m hj hbj h) e2
      refine SN.cg _ _ (λi hi=>?_) (SN.lin _ _ (-1) hr hs)
      have e1:(sm N λm=>v j m*D i m)=(sm N λm=>(if m=j then 0 else v j m)*D i m)+D i j:=by
        have:D i j=sm N λm=>if m=j then D i m else 0:=(IA N j _ hj).symm
        rw[this,<-Hb];refine Bq λm hm=>?_;by_cases e:m=j
        · subst e;simp[hone m hm hbj]
        · simp[e]
      have e2:=heq j hj hbj i hi;rw[e1]at e2;have:=e2.sub (Cg.refl p (sm N λm=>(if m=j then 0 else v j m)*D i m));exact(this.trans (Cg.of_eq ω)).symm.trans (Cg.of_eq ω)
  -- the chosen columns lie in the span of the pivots'
  have hP:∀k,k<c->Spn p c pv.contains N (λk i=>D i (q k)) λi=>D i (q k):=by
    intro k hk
    let x:Nat->Int:=λb=>if pv.contains b then(if h:pv.idxOf b<r then G (pv.idxOf b) k else 0) else 0
    have hx:∀t (ht:t<pv.length),x pv[t]=G t k:=λt ht=>by
      have hn:pv.Nodup:=R.sorted.imp λh=>ω
      have e:pv.idxOf pv[t]=t:=hn.idxOf_getElem t ht;have:pv.contains pv[t]=true:=by simp
      simp only[x,this,if_true,e];rw[dif_pos (by have:=R.len;omega)]
    have hx0:∀b,b<c->pv.contains b=false->x b=0:=λb _ hb=>by simp only[x,hb];rfl
    have hA:∀i,i<r->Cg p (ap G c (λb=>x b-if b=k then 1 else 0) i) 0:=λi hi=>by
      have e:ap G c (λb=>x b-if b=k then 1 else 0) i=ap G c x i-G i k:=by
        unfold ap
        have:G i k=sm c λb=>G i b*(if b=k then 1 else 0):=by rw[Gy c k _ hk λb _ hne=>by simp[hne]];simp
        rw[this,<-RH];exact Bq λb _=>by rw[Int.mul_sub]
      rw[e];rcases Nat.lt_or_ge i pv.length with h|h
      · rw[R.at_ h hx0,hx i h];exact Cg.of_eq ω
      · have:ap G c x i=0:=by
          unfold ap;exact Hl λb hb=>by rw[R.low i hi h b hb,Int.zero_mul]
        rw[this,R.low i hi h k hk];exact Cg.of_eq Y
    have hB:=(hrel _).2 ((R.ker _).1 hA);refine⟨x,λi hi=>?_⟩;have h2:=hB i hi
    have e:(sm c λb=>(x b-if b=k then 1 else 0)*D i (q b))=Et c pv.contains x (λk i=>D i (q k)) i-D i (q k):=by
      unfold Et
      have:D i (q k)=sm c λb=>(if b=k then 1 else 0)*D i (q b):=by rw[Gy c k _ hk λb _ hne=>by simp[hne]];simp
      rw[this,<-RH];refine Bq λb hb=>?_;rw[Int.sub_mul];cases hc:pv.contains b with
      | true=>simp
      | false=>rw[hx0 b hb hc];simp
    rw[e]at h2;have h3:=h2.add (Cg.refl p (D i (q k)));exact(h3.trans (Cg.of_eq (Int.zero_add _))).symm.trans (Cg.of_eq (Int.sub_add_cancel _ _))
  refine Nat.le_antisymm ?_ ?_
  · rw[<-Vp R.sorted hlt];refine P5 F (d:=N) (v:=λk i=>D i (q k)) (v':=rc) ?_ λk hk hc=>hD _ (hq k hk) ((hb _ (hq k hk)).2 ⟨k,hk,Y⟩);intro x hx l hl hc
    have h2:∀i,i<N->Cg p (sm c λk=>(if pv.contains k then x k else 0)*D i (q k)) 0:=λi hi=>by have:=hx i hi;unfold Et at this;refine(Cg.of_eq (Bq λk _=>?_)).trans this;cases pv.contains k<;>simp
    have h3:=(R.ker _).2 ((hrel _).1 h2);obtain⟨t,ht,rfl⟩:=bp.1 (List.contains_iff_mem.1 hc);have h4:=h3 t (by have:=R.len;omega);rw[R.at_ ht (λb _ hb=>by rw[hb];rfl),ab hc]at h4;unfold Cg at h4;rwa [Int.sub_zero]at h4
  · rw[<-Vp R.sorted hlt];refine P5 F (d:=N) (v:=rc) (v':=λk i=>D i (q k)) (Xv F (b:=λj=>b j&&nz j) (last:=last) (λj hj hc=>?_) λj k hj hk hc hc' e=>?_) λj hj hc=>?_
    · simp only[bj]at hc;exact h1 j hj hc.1 hc.2
    · simp only[bj]at hc hc';exact hinj j k hj hk hc.1 hc'.1 hc.2 hc'.2 e
    · simp only[bj]at hc;refine SP.cg _ _ (heq j hj hc.1) (SP.sm (f:=λm i=>D i m) (c:=v j) λm hm=>?_);by_cases e:v j m=0
      · exact .inr e
      · obtain⟨k,hk,rfl⟩:=(hb m hm).1 (hin j m hj hm hc.1 e);exact .inl (hP k hk)
end
end Go.Lin

namespace Go.Eng
open Go.RowKit
abbrev Hp:=Nat->Option Obj
abbrev AC:=List (Nat×Value)
def Hp.le(h h':Hp):Prop:=∀g o,h g=some o->h' g=some o
def Hp.inW(h:Hp)(w:World):Prop:=∀g o,h g=some o->w.heap[g]?=some o
def Hp.emp:Hp:=λ_=>none
def Hp.one(g:Nat)(o:Obj):Hp:=λk=>if k=g then some o else none
def Hp.disj(m m':Hp):Prop:=∀g,m g=none\/m' g=none
def Hp.join(h m:Hp):Hp:=λg=>match h g with|some o=>some o|none=>m g
theorem Hp.le_refl(h:Hp):h.le h:=λ_ _ e=>e
theorem Hp.le_trans{a b c:Hp}(h:a.le b)(k:b.le c):a.le c:=λg o e=>k g o (h g o e)
theorem Hp.emp_le(h:Hp):Hp.emp.le h:=λ_ _ e=>by cases e
theorem Hp.le_join(h m:Hp):h.le (h.join m):=λg o e=>by simp[Hp.join,e]
theorem Hp.join_le_right{h m:Hp}(d:m.disj h):m.le (h.join m):=λg o e=>by
  rcases d g with h1|h1
  · rw[h1]at e;cases e
  · simp[Hp.join,h1,e]
theorem Hp.disj_symm{m m':Hp}(h:m.disj m'):m'.disj m:=λg=>(h g).symm
theorem Hp.one_self(g:Nat)(o:Obj):Hp.one g o g=some o:=by simp[Hp.one]
theorem Hp.one_some{g k:Nat}{o o':Obj}(h:Hp.one g o k=some o'):k=g/\o'=o:=by
  unfold Hp.one at h;split at h
  · exact⟨by assumption,by cases h;rfl⟩
  · cases h
theorem Hp.one_ne{g k:Nat}{o:Obj}(h:k≠g):Hp.one g o k=none:=by simp[Hp.one,h]
theorem Hp.inW_lt{h:Hp}{w:World}(hw:h.inW w){g:Nat}{o:Obj}(e:h g=some o):g<w.heap.size:=
  (Array.getElem?_eq_some_iff.1 (hw g o e)).1
theorem Hp.inW_none{h:Hp}{w:World}(hw:h.inW w){g:Nat}(e:w.heap.size<=g):h g=none:=by
  cases hg:h g with
  | none=>rfl
  | some o=>have:=Hp.inW_lt hw hg;omega
theorem Hp.ne_none{h:Hp}{g:Nat}(e:h g≠none):∃o,h g=some o:=by
  cases hg:h g with
  | none=>exact absurd hg e
  | some o=>exact⟨o,Y⟩
structure St(w:World)(h:Hp)(ms:List Hp):Prop where
  imm:h.inW w
  own:∀m∈ms,m.inW w
  off:∀m∈ms,m.disj h
  apart:ms.Pairwise Hp.disj
structure TL(w0 w:World):Prop where
  tape:w.tape=w0.tape
  drawn:w0.drawn<=w.drawn
theorem TL.refl(w:World):TL w w:=⟨rfl,ay _⟩
theorem TL.trans{a b c:World}(h:TL b c)(k:TL a b):TL a c:=⟨h.tape.trans k.tape,Nat.le_trans k.drawn h.drawn⟩
structure Ext(w w':World):Prop where
  os:w'.os=w.os
  tape:TL w w'
  output:w'.output=w.output
  size:w.heap.size<=w'.heap.size
  block:∀k,k<w.heap.size->w'.heap[k]?=w.heap[k]?
theorem Ext.refl(w:World):Ext w w:=⟨rfl,TL.refl w,rfl,ay _,λ_ _=>rfl⟩
theorem Ext.drew(w:World):Ext w w.drew:=⟨rfl,⟨rfl,Nat.le_succ _⟩,rfl,ay _,λ_ _=>rfl⟩
theorem Ext.alloc(w:World)(o:Obj):Ext w (w.alloc o):=
  let b:=(Below.refl w.heap.size w).alloc (ay _) o
  ⟨b.os,⟨b.tape,ay _⟩,b.output,b.size,b.block⟩
structure Ends(w0:World)(h0:Hp)(ms0:List Hp)(w:World)(h:Hp)(ms:List Hp):Prop where
  st:St w h ms
  os:w.os=w0.os
  tape:TL w0 w
  output:w.output=w0.output
  size:w0.heap.size<=w.heap.size
  block:∀k,k<w0.heap.size->(∀m∈ms0,m k=none)->w.heap[k]?=w0.heap[k]?
  le:h0.le h
  hnew:∀k,k<w0.heap.size->(∀m∈ms0,m k=none)->h k=h0 k
  mnew:∀m∈ms,∀k,k<w0.heap.size->m k≠none->∃m0∈ms0,m0 k≠none
theorem Ends.refl{w:World}{h:Hp}{ms:List Hp}(s:St w h ms):Ends w h ms w h ms:=
  ⟨s,rfl,TL.refl _,rfl,ay _,λ_ _ _=>rfl,Hp.le_refl _,λ_ _ _=>rfl,λm hm _ _ e=>⟨m,hm,e⟩⟩
theorem St.frame_off{w:World}{h:Hp}{pre fr:List Hp}(s:St w h (pre++fr)):∀m∈fr,∀m'∈pre,m'.disj m:=
  λm hm m' hm'=>(List.pairwise_append.1 s.apart).2.2 m' hm' m hm
theorem St.pre{w:World}{h:Hp}{pre fr:List Hp}(s:St w h (pre++fr)):St w h pre:=
  ⟨s.imm,λm hm=>s.own m (mem_append_left _ hm),λm hm=>s.off m (mem_append_left _ hm),(List.pairwise_append.1 s.apart).1⟩
theorem Ends.call{w0 w w':World}{h0 h h':Hp}{ms0 pre pre' fr:List Hp}(H:Ends w0 h0 ms0 w h (pre++fr))(C:Ends w h pre w' h' pre'):Ends w0 h0 ms0 w' h' (pre'++fr):=by
  have hlt:∀m∈fr,∀k,m k≠none->k<w.heap.size:=λm hm k hk=>by obtain⟨o,ho⟩:=Hp.ne_none hk;exact Hp.inW_lt (H.st.own m (mem_append_right _ hm)) ho
  have hno:∀m∈fr,∀k,m k≠none->∀m'∈pre,m' k=none:=λm hm k hk m' hm'=>by
    rcases H.st.frame_off m hm m' hm' k with e|e
    · exact e
    · exact absurd e hk
  have hpre:∀k,k<w0.heap.size->(∀m∈ms0,m k=none)->∀m∈pre,m k=none:=λk hk hm m hmp=>by
    cases e:m k with
    | none=>rfl
    | some o=>
      obtain⟨m0,hm0,e0⟩:=H.mnew m (mem_append_left _ hmp) k hk (by rw[e];simp);exact absurd (hm m0 hm0) e0
  refine⟨⟨C.st.imm,?_,?_,?_⟩,C.os.trans H.os,C.tape.trans H.tape,C.output.trans H.output,Nat.le_trans H.size C.size,?_,Hp.le_trans H.le C.le,?_,?_⟩
  · intro m hm;rcases aq.1 hm with hm|hm
    · exact C.st.own m hm
    · intro k o e;rw[C.block k (hlt m hm k (by rw[e];simp)) (hno m hm k (by rw[e];simp))];exact H.st.own m (mem_append_right _ hm) k o e
  · intro m hm;rcases aq.1 hm with hm|hm
    · exact C.st.off m hm
    · intro k;cases e:m k with
      | none=>exact .inl Y
      | some o=>
        have hk:m k≠none:=by rw[e];simp
        right
        rw[C.hnew k (hlt m hm k hk) (hno m hm k hk)];rcases H.st.off m (mem_append_right _ hm) k with e1|e1
        · exact absurd e1 hk
        · exact e1
  · refine List.pairwise_append.2 ⟨C.st.apart,(List.pairwise_append.1 H.st.apart).2.1,λm' hm' m hm k=>?_⟩;cases e:m k with
    | none=>exact .inr Y
    | some o=>
      have hk:m k≠none:=by rw[e];simp
      cases e':m' k with
      | none=>exact .inl Y
      | some o'=>
        obtain⟨m0,hm0,e0⟩:=C.mnew m' hm' k (hlt m hm k hk) (by rw[e'];simp);exact absurd (hno m hm k hk m0 hm0) e0
  · intro k hk hm;rw[C.block k (Nat.lt_of_lt_of_le hk H.size) (hpre k hk hm)];exact H.block k hk hm
  · intro k hk hm;rw[C.hnew k (Nat.lt_of_lt_of_le hk H.size) (hpre k hk hm)];exact H.hnew k hk hm
  · intro m hm k hk e;rcases aq.1 hm with hm|hm
    · obtain⟨m1,hm1,e1⟩:=C.mnew m hm k (Nat.lt_of_lt_of_le hk H.size) e;exact H.mnew m1 (mem_append_left _ hm1) k hk e1
    · exact H.mnew m (mem_append_right _ hm) k hk e
theorem Hp.inW_ext{h:Hp}{w w':World}(hw:h.inW w)(e:Ext w w'):h.inW w':=λg o ho=>by rw[e.block g (Hp.inW_lt hw ho)];exact hw g o ho
theorem St.ext{w w':World}{h:Hp}{ms:List Hp}(s:St w h ms)(e:Ext w w'):St w' h ms:=
  ⟨Hp.inW_ext s.imm e,λm hm=>Hp.inW_ext (s.own m hm) e,s.off,s.apart⟩
theorem Ends.ext{w0 w w':World}{h0 h:Hp}{ms0 ms:List Hp}(H:Ends w0 h0 ms0 w h ms)(e:Ext w w'):Ends w0 h0 ms0 w' h ms:=
  ⟨H.st.ext e,e.os.trans H.os,e.tape.trans H.tape,e.output.trans H.output,Nat.le_trans H.size e.size,
   λk hk hm=>(e.block k (Nat.lt_of_lt_of_le hk H.size)).trans (H.block k hk hm),H.le,H.hnew,H.mnew⟩
theorem Ends.drew{w0 w:World}{h0 h:Hp}{ms0 ms:List Hp}(H:Ends w0 h0 ms0 w h ms):Ends w0 h0 ms0 w.drew h ms:=
  H.ext (Ext.drew _)
theorem Ends.alloc{w0 w:World}{h0 h:Hp}{ms0 ms:List Hp}(H:Ends w0 h0 ms0 w h ms)(o:Obj):Ends w0 h0 ms0 (w.alloc o) h (Hp.one w.heap.size o::ms):=by
  have H':=H.ext (Ext.alloc w o);refine⟨⟨H'.st.imm,?_,?_,?_⟩,H'.os,H'.tape,H'.output,H'.size,H'.block,H'.le,H'.hnew,?_⟩
  · intro m hm;rcases aj.1 hm with rfl|hm
    · intro k o' e;obtain⟨rfl,rfl⟩:=Hp.one_some e;exact heap_alloc_new w o'
    · exact H'.st.own m hm
  · intro m hm;rcases aj.1 hm with rfl|hm
    · intro k;by_cases hk:k=w.heap.size
      · exact .inr (Hp.inW_none H.st.imm ω)
      · exact .inl (Hp.one_ne hk)
    · exact H'.st.off m hm
  · refine bm.2 ⟨λm hm k=>?_,H'.st.apart⟩;by_cases hk:k=w.heap.size
    · exact .inr (Hp.inW_none (H.st.own m hm) ω)
    · exact .inl (Hp.one_ne hk)
  · intro m hm k hk e;rcases aj.1 hm with rfl|hm
    · exact absurd (Hp.one_ne (o:=o) (show k≠w.heap.size by have:=H.size;omega)) e
    · exact H'.mnew m hm k hk e
theorem Ends.freeze{w0 w:World}{h0 h:Hp}{ms0 ms:List Hp}{m:Hp}(H:Ends w0 h0 ms0 w h (m::ms)):Ends w0 h0 ms0 w (h.join m) ms:=by
  have hd:m.disj h:=H.st.off m (bi);refine⟨⟨?_,λm' hm'=>H.st.own m' (au _ hm'),?_,(bm.1 H.st.apart).2⟩,H.os,H.tape,H.output,H.size,H.block,Hp.le_trans H.le (Hp.le_join _ _),?_,λm' hm'=>H.mnew m' (au _ hm')⟩
  · intro k o e;unfold Hp.join at e;split at e
    · rename_i o' e';cases e;exact H.st.imm k _ e'
    · exact H.st.own m (bi) k o e
  · intro m' hm' k;rcases (bm.1 H.st.apart).1 m' hm' k with e|e
    · rcases H.st.off m' (au _ hm') k with e1|e1
      · exact .inl e1
      · right;simp[Hp.join,e1,e]
    · exact .inl e
  · intro k hk hm;have h1:=H.hnew k hk hm
    have h2:m k=none:=by
      cases e:m k with
      | none=>rfl
      | some o=>
        obtain⟨m0,hm0,e0⟩:=H.mnew m (bi) k hk (by rw[e];simp);exact absurd (hm m0 hm0) e0
    simp only[Hp.join,h2];rw[<-h1];cases h k<;>rfl
theorem Ends.drop{w0 w:World}{h0 h:Hp}{ms0 ms:List Hp}{m:Hp}(H:Ends w0 h0 ms0 w h (m::ms)):Ends w0 h0 ms0 w h ms:=
  ⟨⟨H.st.imm,λm' hm'=>H.st.own m' (au _ hm'),λm' hm'=>H.st.off m' (au _ hm'),(bm.1 H.st.apart).2⟩,
   H.os,H.tape,H.output,H.size,H.block,H.le,H.hnew,λm' hm'=>H.mnew m' (au _ hm')⟩
theorem Ends.perm{w0 w:World}{h0 h:Hp}{ms0 ms ms':List Hp}(H:Ends w0 h0 ms0 w h ms)(p:ms.Perm ms'):Ends w0 h0 ms0 w h ms':=
  ⟨⟨H.st.imm,λm hm=>H.st.own m (p.mem_iff.2 hm),λm hm=>H.st.off m (p.mem_iff.2 hm),(p.pairwise_iff (λh=>Hp.disj_symm h)).1 H.st.apart⟩,
   H.os,H.tape,H.output,H.size,H.block,H.le,H.hnew,λm hm=>H.mnew m (p.mem_iff.2 hm)⟩
theorem Ends.change{w0 w w':World}{h0 h:Hp}{ms0 ms:List Hp}{g:Nat}{o o':Obj}(H:Ends w0 h0 ms0 w h (Hp.one g o::ms))
    (hos:w'.os=w.os) (htape:TL w w') (hout:w'.output=w.output) (hsize:w.heap.size<=w'.heap.size)
    (hg:w'.heap[g]?=some o') (hother:∀k,k<w.heap.size->k≠g->w'.heap[k]?=w.heap[k]?):Ends w0 h0 ms0 w' h (Hp.one g o'::ms):=by
  have hgw:w.heap[g]?=some o:=H.st.own _ (bi) g o (Hp.one_self g o)
  have hoff:∀m∈ms,∀k o1,m k=some o1->k≠g:=λm hm k o1 e he=>by
    subst he;rcases (bm.1 H.st.apart).1 m hm k with e1|e1
    · rw[Hp.one_self]at e1;cases e1
    · rw[e1]at e;cases e
  have hhg:h g=none:=by
    rcases H.st.off _ (bi) g with e1|e1
    · rw[Hp.one_self]at e1;cases e1
    · exact e1
  refine⟨⟨?_,?_,?_,?_⟩,hos.trans H.os,htape.trans H.tape,hout.trans H.output,Nat.le_trans H.size hsize,?_,H.le,H.hnew,?_⟩
  · intro k o1 e;rw[hother k (Hp.inW_lt H.st.imm e) (λhe=>by subst he;rw[hhg]at e;cases e)];exact H.st.imm k o1 e
  · intro m hm;rcases aj.1 hm with rfl|hm
    · intro k o1 e;obtain⟨rfl,rfl⟩:=Hp.one_some e;exact hg
    · intro k o1 e;have hm':=H.st.own m (au _ hm);rw[hother k (Hp.inW_lt hm' e) (hoff m hm k o1 e)];exact hm' k o1 e
  · intro m hm;rcases aj.1 hm with rfl|hm
    · intro k;by_cases hk:k=g
      · subst hk;exact .inr hhg
      · exact .inl (Hp.one_ne hk)
    · exact H.st.off m (au _ hm)
  · refine bm.2 ⟨λm hm k=>?_,(bm.1 H.st.apart).2⟩;by_cases hk:k=g
    · right
      cases e:m k with
      | none=>rfl
      | some o1=>exact absurd hk (hoff m hm k o1 e)
    · exact .inl (Hp.one_ne hk)
  · intro k hk hm
    have hkg:k≠g:=λhe=>by subst he;obtain⟨m0,hm0,e0⟩:=H.mnew _ (bi) k hk (by rw[Hp.one_self];simp);exact absurd (hm m0 hm0) e0
    rw[hother k (Nat.lt_of_lt_of_le hk H.size) hkg];exact H.block k hk hm
  · intro m hm k hk e;rcases aj.1 hm with rfl|hm
    · by_cases hkg:k=g
      · subst hkg;exact H.mnew _ (bi) k hk (by rw[Hp.one_self];simp)
      · exact absurd (Hp.one_ne hkg) e
    · exact H.mnew m (au _ hm) k hk e
variable {n id t d j dj:Nat} {P:Program} {post:Value->Hp->List Hp->Prop} {a:Act} {y x c:Code} {ds:List Nat} {b:Bool} {v:Value} {l:List Oper} {fn:Func} {oj:Oper} {ms' ms0:List Hp} {f:FuncId} {w0:World} {h0:Hp} {K:Act->World->Prop} {args:Array Value}
def lk:AC->Nat->Option Value
  | [],_=>none
  | (i,v)::s,j=>match Nat.beq i j with|true=>some v|false=>lk s j
theorem BB(d:Nat)(v:Value)(s:AC):lk ((d,v)::s) d=some v:=by have:Nat.beq d d=true:=Nat.beq_refl d;simp[lk,this]
theorem By{i:Nat}(v:Value)(s:AC)(h:d≠i):lk ((d,v)::s) i=lk s i:=by
  have:Nat.beq d i=false:=by
    cases e:Nat.beq d i with
    | false=>rfl
    | true=>exact absurd (Nat.eq_of_beq_eq_true e) h
  simp[lk,this]
def ev(s:AC):Operand->Option Value
  | .tmp t=>lk s t
  | .const v=>some v
  | .global g=>some (.pt g)
  | .func f=>some (.func (.func f) #[] #[])
def Qv(s:AC):List Operand->Option (List Value)
  | []=>some []
  | x::l=>match ev s x with
    | none=>none
    | some v=>match Qv s l with
      | none=>none
      | some vs=>some (v::vs)
def Z8(s:AC):List (Nat×Operand)->Option (List (Nat×Value))
  | []=>some []
  | x::l=>match ev s x.2 with
    | none=>none
    | some v=>match Z8 s l with
      | none=>none
      | some vs=>some ((x.1,v)::vs)
abbrev mkD(ds:List Nat):List Deferred:=ds.map λD=>{ target:=.collected D,args:=#[] }
structure Has(n:Nat)(ds:List Nat)(a:Act)(s:AC):Prop where
  defers:a.defers=mkD ds
  size:a.tmps.size=n
  slots:∀i v,lk s i=some v->a.tmps[i]?=some v
theorem Has.eval{s:AC}(H:Has n ds a s)(x:Operand)(v:Value)(h:ev s x=some v):a.eval x=v:=by
  cases x with
  | tmp t=>
    have:=H.slots t v h;simp only[Act.eval];rw[bc,this];rfl
  | const u=>cases h;rfl
  | global g=>cases h;rfl
  | func f=>cases h;rfl
theorem Has.put{s:AC}(H:Has n ds a s)(hd:d<n)(v:Value):Has n ds (a.put (some d) v) ((d,v)::s):=by
  refine⟨H.defers,by simp[Act.put,H.size],λi u h=>?_⟩;by_cases hi:d=i
  · subst hi;rw[BB]at h;cases h;simp[Act.put,H.size,hd]
  · rw[By _ _ hi]at h;simp[Act.put,Array.getElem?_setIfInBounds_ne hi,H.slots i u h]
theorem Has.put_none{s:AC}(H:Has n ds a s)(v:Value):Has n ds (a.put none v) s:=⟨H.defers,H.size,H.slots⟩
def Sub:AC->AC->Prop
  | [],_=>True
  | (i,v)::r,s=>lk s i=some v/\Sub r s
theorem Sub.lk{s' s:AC}(h:Sub s' s):∀i v,Eng.lk s' i=some v->Eng.lk s i=some v:=by
  induction s' with
  | nil=>intro i v e;cases e
  | cons p r ih=>
    obtain⟨j,u⟩:=p;intro i v e;by_cases hi:j=i
    · subst hi;rw[BB]at e;cases e;exact h.1
    · rw[By _ _ hi]at e;exact ih h.2 i v e
theorem Has.sub{s s':AC}(H:Has n ds a s)(h:Sub s' s):Has n ds a s':=
  ⟨H.defers,H.size,λi v e=>H.slots i v (h.lk i v e)⟩
structure Entry where
  P:Program
  w0:World
  h0:Hp
  ms0:List Hp
  n:Nat
  ds:List Nat
abbrev Entry.Ends(e:Entry)(w:World)(h:Hp)(ms:List Hp):Prop:=Eng.Ends e.w0 e.h0 e.ms0 w h ms
def WS(e:Entry)(c:Code)(Q:Exit->Act->World->Prop)(s:AC)(h:Hp)(ms:List Hp):Prop:=
  ∀a w,Has e.n e.ds a s->e.Ends w h ms->c.wp e.P Q a w
def WL(e:Entry)(ops:Array Oper)(Q:Exit->Act->World->Prop)(l:List Oper)(s:AC)(h:Hp)(ms:List Hp):Prop:=
  ∀a w,Has e.n e.ds a s->e.Ends w h ms->wpList e.P ops Q l a w
def NX(e:Entry)(Q:Exit->Act->World->Prop)(x:Exit)(s:AC)(h:Hp)(ms:List Hp):Prop:=
  ∀a w,Has e.n e.ds a s->e.Ends w h ms->Q x a w
def Inv(e:Entry)(I:AC->Hp->List Hp->Prop)(a:Act)(w:World):Prop:=∃s h ms,I s h ms/\Has e.n e.ds a s/\e.Ends w h ms
section rules
variable {e:Entry} {Q:Exit->Act->World->Prop} {s s':AC} {h:Hp} {ms:List Hp} {ops:Array Oper}
theorem Aad(hs:Sub s' s)(k:WL e ops Q l s' h ms):WL e ops Q l s h ms:=λa w ha hw=>k a w (ha.sub hs) hw
theorem SC{m:Hp}(k:WS e c Q s h ms):WS e c Q s h (m::ms):=λa w ha hw=>k a w ha (Ends.drop hw)
theorem Ij(p:ms.Perm ms')(k:WS e c Q s h ms'):WS e c Q s h ms:=λa w ha hw=>k a w ha (Ends.perm hw p)
theorem Sh(p:ms.Perm ms')(k:WL e ops Q l s h ms'):WL e ops Q l s h ms:=λa w ha hw=>k a w ha (Ends.perm hw p)
theorem AR{x:Exit}{m:Hp}(k:NX e Q x s h ms):NX e Q x s h (m::ms):=λa w ha hw=>k a w ha (Ends.drop hw)
theorem IT{x:Exit}(p:ms.Perm ms')(k:NX e Q x s h ms'):NX e Q x s h ms:=λa w ha hw=>k a w ha (Ends.perm hw p)
theorem Ad(k:WL e l.toArray Q l s h ms):WS e (.region id l.toArray false) Q s h ms:=
  λa w ha hw=>wp_region_lit (k a w ha hw)
theorem Al(k:NX e Q .normal s h ms):WL e ops Q [] s h ms:=λa w ha hw=>k a w ha hw
theorem Ac(k:WS e x (Exit.then (λa w=>y.wp e.P Q a w) Q) s h ms):WS e (.seq x y) Q s h ms:=
  λa w ha hw=>wp_seq (k a w ha hw)
theorem Ag(k:WS e c (Exit.inBlock id Q) s h ms):WS e (.block id c) Q s h ms:=
  λa w ha hw=>wp_block (k a w ha hw)
theorem Aq(k:NX e Q (.exit id) s h ms):WS e (.exit id) Q s h ms:=λa w ha hw=>wp_exit (k a w ha hw)
theorem An(k:NX e Q .ret s h ms):WS e .ret Q s h ms:=λa w ha hw=>wp_ret (k a w ha hw)
theorem Ah(k:NX e Q .normal s h ms):WS e .skip Q s h ms:=λa w ha hw=>wp_skip (k a w ha hw)
theorem Vw{l:Nat}(k:NX e Q .normal s h ms):WS e (.label l) Q s h ms:=λa w ha hw=>wp_label (k a w ha hw)
theorem Ab(k:WS e y Q s h ms):NX e (Exit.then (λa w=>y.wp e.P Q a w) Q) .normal s h ms:=λa w ha hw=>k a w ha hw
theorem Aa(k:NX e Q (.exit id) s h ms):NX e (Exit.then K Q) (.exit id) s h ms:=λa w ha hw=>k a w ha hw
theorem Ae(k:NX e Q .ret s h ms):NX e (Exit.then K Q) .ret s h ms:=λa w ha hw=>k a w ha hw
theorem Ai(k:NX e Q .normal s h ms):NX e (Exit.inBlock id Q) .normal s h ms:=λa w ha hw=>k a w ha hw
theorem Aj(k:NX e Q .ret s h ms):NX e (Exit.inBlock id Q) .ret s h ms:=λa w ha hw=>k a w ha hw
theorem Af(k:NX e Q .normal s h ms):NX e (Exit.inBlock id Q) (.exit id) s h ms:=λa w ha hw=>by simp only[Exit.inBlock,if_true];exact k a w ha hw
theorem Eg{id':Nat}(hne:Nat.beq id' id=false)(k:NX e Q (.exit id') s h ms):NX e (Exit.inBlock id Q) (.exit id') s h ms:=λa w ha hw=>by
  have:id'≠id:=λhe=>by subst he;rw[Nat.beq_refl]at hne;cases hne
  simp only[Exit.inBlock,this,if_false];exact k a w ha hw
theorem Bu(hc:lk s t=some (.bool true))(k:WS e x Q s h ms):WS e (.cond (.tmp t) x y) Q s h ms:=
  λa w ha hw=>wp_cond_true (ha.eval (.tmp t) _ hc) (k a w ha hw)
theorem AN(hc:lk s t=some (.bool false))(k:WS e y Q s h ms):WS e (.cond (.tmp t) x y) Q s h ms:=
  λa w ha hw=>wp_cond_false (ha.eval (.tmp t) _ hc) (k a w ha hw)
theorem Bz(hc:lk s t=some (.bool b))(kt:b=true->WS e x Q s h ms)(kf:b=false->WS e y Q s h ms) :
    WS e (.cond (.tmp t) x y) Q s h ms:=
  λa w ha hw=>wp_cond_split (ha.eval (.tmp t) _ hc) (λhb=>kt hb a w ha hw) (λhb=>kf hb a w ha hw)
theorem Ar{p:Prop}{_:Decidable p}(hc:lk s t=some (.bool (decide p)))(kt:p->WS e x Q s h ms)(kf:¬p->WS e y Q s h ms) :
    WS e (.cond (.tmp t) x y) Q s h ms:=
  Bz hc (λhb=>kt (bw hb)) (λhb=>kf (of_decide_eq_false hb))
theorem Ax(I:Nat->AC->Hp->List Hp->Prop)(n:Nat)(s':AC)(hI:I n s' h ms)(hs:Sub s' s)
    (round:∀n s h ms,I n s h ms->WS e c (Exit.then (λa w=>∃n',n'<n/\Inv e (I n') a w) Q) s h ms):WS e (.loop c) Q s h ms:=by
  intro a w ha hw b k cs
  have key:∀n a w,Inv e (I n) a w->∃x a' w',Q x a' w'/\Arrives e.P (lone (b.at a (.code c::.inLoop c::k)) cs w) b k cs x a' w':=by
    intro n
    induction n using Nat.strongRecOn with
    | _ n ih=>
      intro a w ⟨s,h,ms,hI,ha,hw⟩;obtain⟨x,a₁,w₁,hq,harr⟩:=round n s h ms hI a w ha hw b (.inLoop c::k) cs;cases x with
      | normal=>
        obtain⟨n',hlt,hinv⟩:=hq;obtain⟨x₂,a₂,w₂,hq₂,harr₂⟩:=ih n' hlt a₁ w₁ hinv;exact⟨x₂,a₂,w₂,hq₂,.of_steps (Steps.trans harr (.one step_inLoop)) harr₂⟩
      | exit id=>exact⟨_,a₁,w₁,hq,.pass (x:=.inLoop c) Y (λ_ _=>.inl (by simp)) harr⟩
      | goto l=>exact⟨_,a₁,w₁,hq,.pass (x:=.inLoop c) Y (λ_ _=>.inl (by simp)) harr⟩
      | ret=>exact⟨_,a₁,w₁,hq,.pass (x:=.inLoop c) Y (λ_ _=>.inl (by simp)) harr⟩
      | panic ch=>exact⟨_,a₁,w₁,hq,.pass (x:=.inLoop c) Y (λ_ _=>.inl (by simp)) harr⟩
      | outgrown=>exact⟨_,a₁,w₁,hq,.pass (x:=.inLoop c) Y (λ_ _=>.inl (by simp)) harr⟩
  obtain⟨x,a',w',hq,harr⟩:=key n a w ⟨s',h,ms,hI,ha.sub hs,hw⟩;exact⟨x,a',w',hq,.of_steps (.one step_loop) harr⟩
theorem Ak{I:Nat->AC->Hp->List Hp->Prop}(n':Nat)(s':AC)(hlt:n'<n)(hI:I n' s' h ms)(hs:Sub s' s) :
    NX e (Exit.then (λa w=>∃n',n'<n/\Inv e (I n') a w) Q) .normal s h ms:=
  λ_ _ ha hw=>⟨n',hlt,s',h,ms,hI,ha.sub hs,hw⟩
theorem A9(I:AC->Hp->List Hp->Prop)(k:WS e x (Exit.then (Inv e I) Q) s h ms)(k':∀s h ms,I s h ms->WS e y Q s h ms) :
    WS e (.seq x y) Q s h ms:=
  λa w ha hw=>wp_seq (Code.wp_mono (λx a w q=>by
    cases x with
    | normal=>obtain⟨s,h,ms,hI,ha,hw⟩:=q;exact k' s h ms hI a w ha hw
    | _=>exact q) (k a w ha hw))
theorem AE{I:AC->Hp->List Hp->Prop}(s':AC)(hI:I s' h ms)(hs:Sub s' s):NX e (Exit.then (Inv e I) Q) .normal s h ms:=
  λ_ _ ha hw=>⟨s',h,ms,hI,ha.sub hs,hw⟩
end rules
def RP(w0:World)(h0:Hp)(ms0:List Hp)(post:Value->Hp->List Hp->Prop):Ending->World->Prop:=
  λx w'=>∃r h' ms',x=.returned r/\Ends w0 h0 ms0 w' h' ms'/\post r h' ms'
def FnT(P:Program)(f:FuncId)(args:Array Value)(h:Hp)(ms:List Hp)(post:Value->Hp->List Hp->Prop):Prop:=
  ∀w,St w h ms->Calls P f args w (RP w h ms post)
def FnV(P:Program)(f:FuncId)(args:Array Value)(h:Hp)(ms:List Hp)(v:Value):Prop:=
  ∀w,St w h ms->Calls P f args w (λx w'=>x=.returned v/\Ext w w')
theorem FnT.mono{h:Hp}{ms:List Hp}{post':Value->Hp->List Hp->Prop}(k:FnT P f args h ms post)
    (hp:∀r h' ms',post r h' ms'->post' r h' ms'):FnT P f args h ms post':=
  λw hw=>(k w hw).mono λ_ _ ⟨r,h',ms',e1,e2,e3⟩=>⟨r,h',ms',e1,e2,hp _ _ _ e3⟩
theorem Ends.toExt{w w':World}{h h':Hp}(H:Ends w h [] w' h' ms'):Ext w w':=
  ⟨H.os,H.tape,H.output,H.size,λk hk=>H.block k hk (by simp)⟩
theorem FnT.toV{h:Hp}(k:FnT P f args h [] (λr _ _=>r=v)):FnV P f args h [] v:=
  λw hw=>(k w hw).mono λ_ _ ⟨_,_,_,e1,e2,e3⟩=>⟨by rw[e1,e3],e2.toExt⟩
theorem FnV.weaken{h h1:Hp}{ms:List Hp}(k:FnV P f args h [] v)(hl:h.le h1):FnV P f args h1 ms v:=
  λw hw=>k w ⟨λg o e=>hw.imm g o (hl g o e),by simp,by simp,List.Pairwise.nil⟩
def AX:Nat->List Value->AC
  | _,[]=>[]
  | i,v::l=>(i,v)::AX (i+1) l
theorem SQ(l:List Value):∀k i v,lk (AX k l) i=some v->k<=i/\l[i-k]?=some v:=by
  induction l with
  | nil=>intro k i v e;cases e
  | cons x l ih=>
    intro k i v e;by_cases hi:k=i
    · subst hi;rw[AX,BB]at e;cases e;simp
    · rw[AX,By _ _ hi]at e;obtain⟨h1,h2⟩:=ih (k+1) i v e;refine⟨ω,?_⟩;rw[show i-k=(i-(k+1))+1 by omega];simpa using h2
theorem Ao{l:List Value}{h:Hp}{ms:List Hp}
    (hf:P.funcs[f]?=some fn) (hn:fn.ntmps=n) (hb:fn.body=some c) (hl:Nat.ble l.length n=true)
    (k:∀w0,St w0 h ms->WS ⟨P,w0,h,ms,n,[]⟩ c (bodyPost P fn (RP w0 h ms post)) (AX 0 l) h ms):FnT P f l.toArray h ms post:=by
  intro w hw;refine calls_of_wp hf hb (k w hw _ w ?_ (Ends.refl hw));have hl':=br hl;refine⟨Y,by simp[hn];omega,λi v e=>?_⟩;obtain⟨_,h2⟩:=SQ l 0 i v e
  have hi:i<l.length:=by
    rcases Nat.lt_or_ge i l.length with h'|h'
    · exact h'
    · rw[List.getElem?_eq_none ω]at h2;cases h2
  simp only[Nat.sub_zero]at h2;rw[Array.getElem?_append_left (by simpa using hi)];simpa using h2
theorem Au{s:AC}{h:Hp}{ms:List Hp}(hr:fn.results=#[.tmp t])(hv:lk s t=some v)(hp:post v h ms) :
    NX ⟨P,w0,h0,ms0,n,[]⟩ (bodyPost P fn (RP w0 h0 ms0 post)) .ret s h ms:=λa w ha hw=>
  bodyPost_ret (results_tmp hr _ _ _) ha.defers ⟨_,h,ms,rfl,hw,by
    have:=ha.eval (.tmp t) v hv;simp only[Act.eval]at this
    rw[this];exact hp⟩
theorem BC{s:AC}{h:Hp}{ms:List Hp}{u:Nat}{v':Value}(hr:fn.results=#[.tmp t,.tmp u])(hv:lk s t=some v)(hv':lk s u=some v')(hp:post (.tuple #[v,v']) h ms) :
    NX ⟨P,w0,h0,ms0,n,[]⟩ (bodyPost P fn (RP w0 h0 ms0 post)) .ret s h ms:=λa w ha hw=>
  bodyPost_ret (results_tmp2 hr _ _ _) ha.defers ⟨_,h,ms,rfl,hw,by
    have h1:=ha.eval (.tmp t) v hv;have h2:=ha.eval (.tmp u) v' hv';simp only[Act.eval]at h1 h2
    rw[h1,h2];exact hp⟩
theorem Cb{s:AC}{h:Hp}{ms:List Hp}(hr:fn.results=#[])(hp:post (.tuple #[]) h ms) :
    NX ⟨P,w0,h0,ms0,n,[]⟩ (bodyPost P fn (RP w0 h0 ms0 post)) .normal s h ms:=λa w ha hw=>
  bodyPost_end (results_none hr _ _ _) ha.defers ⟨_,h,ms,rfl,hw,hp⟩
theorem FQ{s:AC}{h:Hp}{ms:List Hp}(hr:fn.results=#[])(hp:post (.tuple #[]) h ms) :
    NX ⟨P,w0,h0,ms0,n,[]⟩ (bodyPost P fn (RP w0 h0 ms0 post)) .ret s h ms:=λa w ha hw=>
  bodyPost_ret (results_none hr _ _ _) ha.defers ⟨_,h,ms,rfl,hw,hp⟩
def OpRes(P:Program)(o:Oper)(ρ:Operand->Value)(w:World)(Φ:Value->World->Prop):Prop:=
  match (execOp ρ o).run P w with
  | .ok (.value v) w'=>Φ v w'
  | .ok .skip w'=>Φ undef w'
  | .ok (.enter f args) w'=>Calls P f args w' (λx w''=>∃v,x=.returned v/\Φ v w'')
  | _=>False
theorem OpRes.wp{o:Oper}{w:World}{Φ:Value->World->Prop}{Q:Exit->Act->World->Prop}
    (h:OpRes P o a.eval w Φ) (k:∀v w',Φ v w'->K (a.put o.dst v) w'):o.wp P a w K Q:=by
  unfold OpRes at h;unfold Oper.wp;generalize (execOp a.eval o).run P w=r at *;cases r with
  | ok x w'=>
    cases x<;>simp only at h<;>simp only[Oper.upon]
    case value v=>exact k _ _ h
    case skip=>exact k _ _ h
    case enter f args=>exact h.mono λx w'' ⟨v,e,hv⟩=>by subst e;exact k _ _ hv
  | halt x w'=>exact h.elim
def Evs(s:AC)(ρ:Operand->Value):Prop:=∀x u,ev s x=some u->ρ x=u
theorem Evs.map{s:AC}{ρ:Operand->Value}(H:Evs s ρ):∀(l:List Operand) (vs:List Value),Qv s l=some vs->l.map ρ=vs
  | [],vs,h=>by cases h;rfl
  | x::l,vs,h=>by
    unfold Qv at h;cases hx:ev s x with
    | none=>rw[hx]at h;cases h
    | some v=>
      rw[hx]at h;cases hl:Qv s l with
      | none=>rw[hl]at h;cases h
      | some us=>rw[hl]at h;cases h;rw[map_cons,H _ _ hx,H.map l us hl]
theorem Evs.pairs{s:AC}{ρ:Operand->Value}(H:Evs s ρ):∀(l:List (Nat×Operand)) (vs:List (Nat×Value)),Z8 s l=some vs->(l.map λ(i,x)=>(i,ρ x))=vs
  | [],vs,h=>by cases h;rfl
  | x::l,vs,h=>by
    unfold Z8 at h;cases hx:ev s x.2 with
    | none=>rw[hx]at h;cases h
    | some v=>
      rw[hx]at h;cases hl:Z8 s l with
      | none=>rw[hl]at h;cases h
      | some us=>rw[hl]at h;cases h;rw[map_cons,H.pairs l us hl];simp[H _ _ hx]
def OX(P:Program)(o:Oper)(s:AC)(h:Hp)(ms:List Hp)(v:Value):Prop:=
  ∀ρ w,Evs s ρ->St w h ms->OpRes P o ρ w (λv' w'=>v'=v/\Ext w w')
def OT(e:Entry)(o:Oper)(s:AC)(h:Hp)(ms:List Hp)(post:Value->Hp->List Hp->Prop):Prop:=
  ∀ρ w,Evs s ρ->e.Ends w h ms->OpRes e.P o ρ w (λv w'=>∃h' ms',e.Ends w' h' ms'/\post v h' ms')
section
variable {e:Entry} {Q:Exit->Act->World->Prop} {s:AC} {h:Hp} {ms:List Hp} {ops:Array Oper} {o:Oper} {rest:List Oper}
theorem K7(hg:o.guard=none)(k:∀a w,Has e.n e.ds a s->e.Ends w h ms->o.wp e.P a w (wpList e.P ops Q rest) Q):WL e ops Q (o::rest) s h ms:=
  λa w ha hw=>by unfold wpList;rw[ab (by simp[Region.wanted,hg])];exact .inl (k a w ha hw)
theorem AbU(hx:OX e.P o s h ms v)(hd:o.dst=some d)(hn:Nat.blt d e.n=true)(hg:o.guard=none)(k:WL e ops Q rest ((d,v)::s) h ms) :
    WL e ops Q (o::rest) s h ms:=
  K7 hg λa w ha hw=>(hx a.eval w ha.eval hw.st).wp λv' w' ⟨e1,e2⟩=>by subst e1;rw[hd];exact k _ _ (ha.put (br hn) _) (hw.ext e2)
theorem H5(hx:OT e o s h ms post)(hd:o.dst=some d)(hn:Nat.blt d e.n=true)(hg:o.guard=none)
    (k:∀v h' ms',post v h' ms'->WL e ops Q rest ((d,v)::s) h' ms'):WL e ops Q (o::rest) s h ms:=
  K7 hg λa w ha hw=>(hx a.eval w ha.eval hw).wp λv' w' ⟨h',ms',e1,e2⟩=>by rw[hd];exact k _ _ _ e2 _ _ (ha.put (br hn) _) e1
theorem Lj(hx:OT e o s h ms post)(hd:o.dst=none)(hg:o.guard=none)
    (k:∀v h' ms',post v h' ms'->WL e ops Q rest s h' ms'):WL e ops Q (o::rest) s h ms:=
  K7 hg λa w ha hw=>(hx a.eval w ha.eval hw).wp λv' w' ⟨h',ms',e1,e2⟩=>by rw[hd];exact k _ _ _ e2 _ _ (ha.put_none _) e1
theorem Has.yields(ha:Has n ds a s)(hj:ops[j]?=some oj)(hd:oj.dst=some dj)(hv:lk s dj=some (.bool b)):yielded ops a.tmps j=some b:=by simp[yielded,hj,hd,ha.slots dj _ hv]
theorem Z0(hx:OX e.P o s h ms v)(hd:o.dst=some d)(hn:Nat.blt d e.n=true)(hg:o.guard=some (j,b))(hj:ops[j]?=some oj)(hdj:oj.dst=some dj)(hv:lk s dj=some (.bool b))
    (k:WL e ops Q rest ((d,v)::s) h ms):WL e ops Q (o::rest) s h ms:=λa w ha hw=>by
  unfold wpList;rw[ab (by simp[Region.wanted,hg,ha.yields hj hdj hv])]
  exact .inl ((hx a.eval w ha.eval hw.st).wp λv' w' ⟨e1,e2⟩=>by
    subst e1;rw[hd]
    exact k _ _ (ha.put (br hn) _) (hw.ext e2))
theorem ZF{b':Bool}(hd:o.dst=some d)(hn:Nat.blt d e.n=true)(hg:o.guard=some (j,b))(hj:ops[j]?=some oj)(hdj:oj.dst=some dj)(hv:lk s dj=some (.bool b'))(hne:(b'==b)=false)
    (k:WL e ops Q rest ((d,undef)::s) h ms):WL e ops Q (o::rest) s h ms:=λa w ha hw=>by
  unfold wpList;rw[aa (by simp[Region.wanted,hg,ha.yields hj hdj hv];simpa using hne),hd];exact k _ _ (ha.put (br hn) _) hw
theorem Has.yieldsu(ha:Has n ds a s)(hj:ops[j]?=some oj)(hd:oj.dst=some dj)(hv:lk s dj=some undef):yielded ops a.tmps j=none:=by simp[yielded,hj,hd,ha.slots dj _ hv,undef]
theorem Bc(hd:o.dst=some d)(hn:Nat.blt d e.n=true)(hg:o.guard=some (j,b))(hj:ops[j]?=some oj)(hdj:oj.dst=some dj)(hv:lk s dj=some undef)
    (k:WL e ops Q rest ((d,undef)::s) h ms):WL e ops Q (o::rest) s h ms:=λa w ha hw=>by
  unfold wpList;rw[aa (by simp[Region.wanted,hg,ha.yieldsu hj hdj hv]),hd];exact k _ _ (ha.put (br hn) _) hw
theorem AM{p:Prop}{_:Decidable p}(hc:lk s t=some (.bool (decide p)))(kt:p->WL e ops Q l ((t,.bool true)::s) h ms)(kf:¬p->WL e ops Q l ((t,.bool false)::s) h ms):WL e ops Q l s h ms:=by
  by_cases hp:p
  · refine λa w ha hw=>kt hp a w ⟨ha.defers,ha.size,λi v hi=>?_⟩ hw;by_cases hi':t=i
    · subst hi';rw[BB]at hi;cases hi;rw[ha.slots t _ hc];simp[hp]
    · rw[By _ _ hi']at hi;exact ha.slots i v hi
  · refine λa w ha hw=>kf hp a w ⟨ha.defers,ha.size,λi v hi=>?_⟩ hw;by_cases hi':t=i
    · subst hi';rw[BB]at hi;cases hi;rw[ha.slots t _ hc];simp[hp]
    · rw[By _ _ hi']at hi;exact ha.slots i v hi
theorem Gk(hc:lk s t=some (.bool b))(kt:b=true->WL e ops Q l ((t,.bool true)::s) h ms)(kf:b=false->WL e ops Q l ((t,.bool false)::s) h ms):WL e ops Q l s h ms:=by
  have e1:decide (b=true)=b:=by cases b<;>rfl
  exact AM (p:=b=true) (by rw[hc,e1]) kt (λhb=>kf (by simpa using hb))
end
end Go.Eng
namespace Go.Eng
open Go.RowKit
variable {v:Value} {vs cs:List Value} {ts:Array TypeId} {f:FuncId} {l:List Operand} {d:TypeDesc} {e:Entry} {post:Value->Hp->List Hp->Prop} {pre fr:List Hp} {g i:Nat} {fs:Array Field} {Q:Exit->Act->World->Prop} {ops:Array Oper} {rest:List Oper}
def Ia:TypeDesc->Bool
  | .struct _|.array _ _=>true
  | _=>false
theorem D9{P:Program}{t:TypeId}(h:P.underlying t=some d)(w:World):(isAgg t).run P w=.ok (Ia d) w:=by simp only[isAgg,Sem.run_bind,run_underlying h,Result.andThen_ok];cases d<;>rfl
def Cell(h:Hp)(ms:List Hp)(p:Addr)(v:Value):Prop:=
  p.spot=none/\∃cs el fr,(h p.block=some (.cells cs el fr)\/∃m∈ms,m p.block=some (.cells cs el fr))/\cs[p.off]?=some v
def Seg(h:Hp)(ms:List Hp)(p:Addr)(vs:List Value):Prop:=∀j v,vs[j]?=some v->Cell h ms (p.add j) v
def A8(g:Nat)(el:TypeId)(l:List Value):Hp:=Hp.one g (.cells l.toArray el (0,0))
theorem St.cell{w:World}{h:Hp}{ms:List Hp}(s:St w h ms){p:Addr}(c:Cell h ms p v):w.cell? p=some v:=by
  obtain⟨hs,cs,el,fr,hm,hv⟩:=c
  have hb:w.heap[p.block]?=some (.cells cs el fr):=by
    rcases hm with hm|⟨m,hm,e⟩
    · exact s.imm _ _ hm
    · exact s.own m hm _ _ e
  simp[World.cell?,hb,hs,hv]
theorem Cell.le{h h':Hp}{ms:List Hp}{p:Addr}(c:Cell h ms p v)(l:h.le h'):Cell h' ms p v:=
  let ⟨hs,cs,el,fr,hm,hv⟩:=c
  ⟨hs,cs,el,fr,hm.imp (l _ _) id,hv⟩
theorem Cell.sub{h:Hp}{ms ms':List Hp}{p:Addr}(c:Cell h ms p v)(l:∀m∈ms,m∈ms'):Cell h ms' p v:=
  let ⟨hs,cs,el,fr,hm,hv⟩:=c
  ⟨hs,cs,el,fr,hm.imp id (λ⟨m,e1,e2⟩=>⟨m,l m e1,e2⟩),hv⟩
theorem Seg.le{h h':Hp}{ms:List Hp}{p:Addr}(c:Seg h ms p vs)(l:h.le h'):Seg h' ms p vs:=λj v e=>(c j v e).le l
theorem Seg.sub{h:Hp}{ms ms':List Hp}{p:Addr}(c:Seg h ms p vs)(l:∀m∈ms,m∈ms'):Seg h ms' p vs:=λj v e=>(c j v e).sub l
theorem Cell.any{h:Hp}{ms:List Hp}{p:Addr}(c:Cell h [] p v):Cell h ms p v:=c.sub (by simp)
theorem Seg.any{h:Hp}{ms:List Hp}{p:Addr}(c:Seg h [] p vs):Seg h ms p vs:=c.sub (by simp)
theorem BW(p:Addr)(i j:Nat):(p.add i).add j=p.add (i+j):=by unfold Addr.add;by_cases hi:i=0<;>by_cases hj:j=0<;>simp[hi,hj,Nat.add_assoc]
theorem EN(p:Addr):p.add 0=p:=by simp[Addr.add]
theorem DD(p:Addr)(i:Nat):(p.add i).block=p.block:=by unfold Addr.add;split<;>rfl
theorem Es(p:Addr)(i:Nat):(p.add i).off=p.off+i:=by unfold Addr.add;split<;>simp_all
theorem Cell.blk{h:Hp}{ms:List Hp}{el:TypeId}{l:List Value}(i:Nat)(hm:ms[i]?=some (A8 g el l)){k:Nat}(hv:l[k]?=some v):Cell h ms ((⟨g,0,none⟩:Addr).add k) v:=by
  refine⟨by unfold Addr.add;split<;>rfl,l.toArray,el,(0,0),.inr ⟨_,List.mem_of_getElem? hm,?_⟩,?_⟩
  · rw[DD];exact Hp.one_self _ _
  · rw[Es];simpa using hv
theorem Cell.blk0{h:Hp}{ms:List Hp}{el:TypeId}{l:List Value}(i:Nat)(hm:ms[i]?=some (A8 g el l))(hv:l[0]?=some v):Cell h ms ⟨g,0,none⟩ v:=by
  have:=Cell.blk (h:=h) i hm (k:=0) hv
  rwa [EN]at this
theorem Seg.blk{h:Hp}{ms:List Hp}{el:TypeId}{l:List Value}(i:Nat)(hm:ms[i]?=some (A8 g el l)):Seg h ms ⟨g,0,none⟩ l:=λ_ _ e=>Cell.blk i hm e
theorem Seg.at0{h:Hp}{ms:List Hp}{p:Addr}(c:Seg h ms p vs)(e:vs[0]?=some v):Cell h ms p v:=by have:=c 0 v e;rwa [EN]at this
structure Elem(P:Program)(el:TypeId)(sz:Nat)(z:Value)(bytes:Nat):Prop where
  info:∃i,P.info? el=some i/\i.zero=some z/\i.size=sz/\i.bytes=bytes
theorem Elem.of{P:Program}{el:TypeId}{sz:Nat}{z:Value}{bytes:Nat}(h:(P.info? el).map (λi=>(i.zero,i.size,i.bytes))=some (some z,sz,bytes)):Elem P el sz z bytes:=by
  cases e:P.info? el with
  | none=>rw[e]at h;cases h
  | some i=>rw[e]at h;simp at h;exact⟨i,e ▸ Y,h.1,h.2.1,h.2.2⟩
theorem Elem.sizeOf{P:Program}{el:TypeId}{sz:Nat}{z:Value}{bytes:Nat}(E:Elem P el sz z bytes)(w:World):(Go.sizeOf el).run P w=.ok sz w:=by obtain⟨i,h1,h2,h3,h4⟩:=E.info;simp[Go.sizeOf,typeInfo,h1,h3]
theorem Elem.zeroValue{P:Program}{el:TypeId}{sz:Nat}{z:Value}{bytes:Nat}(E:Elem P el sz z bytes)(w:World):(Go.zeroValue el).run P w=.ok z w:=by obtain⟨i,h1,h2,h3,h4⟩:=E.info;simp[Go.zeroValue,typeInfo,h1,h2]
section
variable {P:Program} {o:Oper} {s:AC} {h:Hp} {ms:List Hp}
theorem BD(k:∀ρ w,Evs s ρ->St w h ms->(execOp ρ o).run P w=.ok (.value v) w):OX P o s h ms v:=λρ w hρ hw=>by unfold OpRes;rw[k ρ w hρ hw];exact⟨Y,Ext.refl _⟩
theorem As{x:Operand}(ho:o.op=.move x)(hx:ev s x=some v):OX P o s h ms v:=
  BD λρ w hρ _=>by simp[execOp,ho,hρ _ _ hx]
theorem Gs{x:Operand}(ho:o.op=.assign x)(hx:ev s x=some v):OX P o s h ms v:=
  BD λρ w hρ _=>by simp[execOp,ho,hρ _ _ hx]
theorem CE{c x y:Operand}(ho:o.op=.pick c x y)(hc:ev s c=some (.bool true))(hx:ev s x=some v):OX P o s h ms v:=
  BD λρ w hρ _=>by simp[execOp,ho,hρ _ _ hc,hρ _ _ hx,asBool]
theorem B9{c x y:Operand}(ho:o.op=.pick c x y)(hc:ev s c=some (.bool false))(hx:ev s y=some v):OX P o s h ms v:=
  BD λρ w hρ _=>by simp[execOp,ho,hρ _ _ hc,hρ _ _ hx,asBool]
theorem Ct{x:Operand}{vs:Array Value}(ho:o.op=.extract x i)(hx:ev s x=some (.tuple vs))(hv:vs[i]?=some v):OX P o s h ms v:=
  BD λρ w hρ _=>by simp[execOp,ho,hρ _ _ hx,Instr.extract,hv]
section
variable {t u:TypeId} {x y:Operand} {k:IntKind} {a b:Int}
theorem Ye(ho:o.op=.binOp .add t x y u)(hx:ev s x=some (.int k a))(hy:ev s y=some (.int k b)):OX P o s h ms (.int k (k.wrap (a+b))):=
  BD λρ w hρ _=>by simp[execOp,ho,hρ _ _ hx,hρ _ _ hy,go_sem]
theorem YL(ho:o.op=.binOp .sub t x y u)(hx:ev s x=some (.int k a))(hy:ev s y=some (.int k b)):OX P o s h ms (.int k (k.wrap (a-b))):=
  BD λρ w hρ _=>by simp[execOp,ho,hρ _ _ hx,hρ _ _ hy,go_sem]
theorem Za(ho:o.op=.binOp .mul t x y u)(hx:ev s x=some (.int k a))(hy:ev s y=some (.int k b)):OX P o s h ms (.int k (k.wrap (a*b))):=
  BD λρ w hρ _=>by simp[execOp,ho,hρ _ _ hx,hρ _ _ hy,go_sem]
theorem Db{n:Int}(hn:-9223372036854775808<=n/\n<=9223372036854775807):IntKind.i64.wrap n=n:=IntWalk.i64_in n hn
theorem Aal(ho:o.op=.binOp .add t x y u)(hx:ev s x=some (.int .i64 a))(hy:ev s y=some (.int .i64 b))(hr:-9223372036854775808<=a+b/\a+b<=9223372036854775807):OX P o s h ms (.int .i64 (a+b)):=by have:=Ye (P:=P) (h:=h) (ms:=ms) ho hx hy;rwa [Db hr]at this
theorem AaK(ho:o.op=.binOp .sub t x y u)(hx:ev s x=some (.int .i64 a))(hy:ev s y=some (.int .i64 b))(hr:-9223372036854775808<=a-b/\a-b<=9223372036854775807):OX P o s h ms (.int .i64 (a-b)):=by have:=YL (P:=P) (h:=h) (ms:=ms) ho hx hy;rwa [Db hr]at this
theorem Aav(ho:o.op=.binOp .mul t x y u)(hx:ev s x=some (.int .i64 a))(hy:ev s y=some (.int .i64 b))(hr:-9223372036854775808<=a*b/\a*b<=9223372036854775807):OX P o s h ms (.int .i64 (a*b)):=by have:=Za (P:=P) (h:=h) (ms:=ms) ho hx hy;rwa [Db hr]at this
theorem NC(ho:o.op=.binOp .quo t x y u)(hx:ev s x=some (.int k a))(hy:ev s y=some (.int k b))(hb:b≠0):OX P o s h ms (.int k (k.wrap (a.tdiv b))):=
  BD λρ w hρ _=>by simp[execOp,ho,hρ _ _ hx,hρ _ _ hy,go_sem,hb]
theorem Rk{a b:Int}(ha:-9223372036854775808<=a/\a<=9223372036854775807)(hb:1<=b):-9223372036854775808<=a.tdiv b/\a.tdiv b<=9223372036854775807:=by
  rcases Int.lt_or_le a 0 with h0|h0
  · have e:a.tdiv b=-((-a)/b):=by rw[tdiv_eq_if];simp[Int.not_le.2 h0]
    have h1:(-a)/b<=-a:=Int.ediv_le_self _ ω;have h2:0<=(-a)/b:=Int.ediv_nonneg ω ω;omega
  · have e:a.tdiv b=a/b:=by rw[tdiv_eq_if];simp[h0]
    have h1:a/b<=a:=Int.ediv_le_self _ h0;have h2:0<=a/b:=Int.ediv_nonneg h0 ω;omega
theorem AaB(ho:o.op=.binOp .quo t x y u)(hx:ev s x=some (.int .i64 a))(hy:ev s y=some (.int .i64 b))(ha:-9223372036854775808<=a/\a<=9223372036854775807)(hb:1<=b):OX P o s h ms (.int .i64 (a.tdiv b)):=by have:=NC (P:=P) (h:=h) (ms:=ms) ho hx hy ω;rwa [Db (Rk ha hb)]at this
theorem Gx(ho:o.op=.binOp .quo t x y u)(hx:ev s x=some (.int .i64 a))(hy:ev s y=some (.int .i64 b))(ha:0<=a/\a<=9223372036854775807)(hb:1<=b):OX P o s h ms (.int .i64 (a/b)):=by
  have:=AaB (P:=P) (h:=h) (ms:=ms) ho hx hy ω hb;have e:a.tdiv b=a/b:=by rw[tdiv_eq_if];simp[ha.1]
  rwa [e]at this
theorem Xp(ho:o.op=.binOp .rem t x y u)(hx:ev s x=some (.int k a))(hy:ev s y=some (.int k b))(hb:b≠0):OX P o s h ms (.int k (a.tmod b)):=
  BD λρ w hρ _=>by simp[execOp,ho,hρ _ _ hx,hρ _ _ hy,go_sem,hb]
theorem BJ(ho:o.op=.binOp .rem t x y u)(hx:ev s x=some (.int k a))(hy:ev s y=some (.int k b))(ha:0<=a)(hb:1<=b):OX P o s h ms (.int k (a%b)):=by
  have:=Xp (P:=P) (h:=h) (ms:=ms) ho hx hy ω;have e:a.tmod b=a%b:=by rw[tmod_eq_if];simp[ha]
  rwa [e]at this
theorem Dp(ho:o.op=.binOp .lss t x y u)(hx:ev s x=some (.int k a))(hy:ev s y=some (.int k b)):OX P o s h ms (.bool (decide (a<b))):=
  BD λρ w hρ _=>by simp[execOp,ho,hρ _ _ hx,hρ _ _ hy,go_sem]
theorem JH(ho:o.op=.binOp .leq t x y u)(hx:ev s x=some (.int k a))(hy:ev s y=some (.int k b)):OX P o s h ms (.bool (decide (a<=b))):=
  BD λρ w hρ _=>by simp[execOp,ho,hρ _ _ hx,hρ _ _ hy,go_sem]
theorem Cf(ho:o.op=.binOp .gtr t x y u)(hx:ev s x=some (.int k a))(hy:ev s y=some (.int k b)):OX P o s h ms (.bool (decide (b<a))):=
  BD λρ w hρ _=>by simp[execOp,ho,hρ _ _ hx,hρ _ _ hy,go_sem]
theorem Hd(ho:o.op=.binOp .geq t x y u)(hx:ev s x=some (.int k a))(hy:ev s y=some (.int k b)):OX P o s h ms (.bool (decide (b<=a))):=
  BD λρ w hρ _=>by simp[execOp,ho,hρ _ _ hx,hρ _ _ hy,go_sem]
theorem CD(ho:o.op=.binOp .eql t x y u)(hx:ev s x=some (.int k a))(hy:ev s y=some (.int k b)):OX P o s h ms (.bool (decide (a=b))):=
  BD λρ w hρ _=>by simp[execOp,ho,hρ _ _ hx,hρ _ _ hy,go_sem];rfl
theorem CI(ho:o.op=.binOp .neq t x y u)(hx:ev s x=some (.int k a))(hy:ev s y=some (.int k b)):OX P o s h ms (.bool (decide (a≠b))):=
  BD λρ w hρ _=>by simp[execOp,ho,hρ _ _ hx,hρ _ _ hy,go_sem];rfl
theorem NA(ho:o.op=.unOp .neg t x)(hx:ev s x=some (.int .i64 a))(hr:-9223372036854775807<=a/\a<=9223372036854775807):OX P o s h ms (.int .i64 (-a)):=
  BD λρ w hρ _=>by have:=Db (n:=-a) ω;simp[execOp,ho,hρ _ _ hx,Op.unary,Op.intArith,this]
theorem YZ(ho:o.op=.unOp .neg t x)(hx:ev s x=some (.int k a)):OX P o s h ms (.int k (k.wrap (-a))):=
  BD λρ w hρ _=>by simp[execOp,ho,hρ _ _ hx,Op.unary,Op.intArith]
theorem IB{k':IntKind}(ho:o.op=.convert t u x)(ht:P.underlying t=some d)(hu:P.underlying u=some (.int k'))(hx:ev s x=some (.int k a))(hr:k'.wrap a=a):OX P o s h ms (.int k' a):=
  BD λρ w hρ _=>by simp[execOp,ho,hρ _ _ hx,convert,run_underlying ht,run_underlying hu,Conv.intToInt,hr]
theorem Cq{k':IntKind}(ho:o.op=.convert t u x)(ht:P.underlying t=some d)(hu:P.underlying u=some (.int k'))(hx:ev s x=some (.int k a)):OX P o s h ms (.int k' (k'.wrap a)):=
  BD λρ w hρ _=>by simp[execOp,ho,hρ _ _ hx,convert,run_underlying ht,run_underlying hu,Conv.intToInt]
theorem Jm{k':IntKind}(ho:o.op=.call { callee:=.builtin .max,args:=#[x,y],argTypes:=ts })(hx:ev s x=some (.int k a))(hy:ev s y=some (.int k' b)):OX P o s h ms (.int k (max a b)):=
  BD λρ w hρ _=>by
    have:(if b>a then b else a)=max a b:=ω
    simp[execOp,ho,hρ _ _ hx,hρ _ _ hy,resolve,invoke,builtin,run_max_int2,this]
theorem RT{k':IntKind}(ho:o.op=.call { callee:=.builtin .min,args:=#[x,y],argTypes:=ts })(hx:ev s x=some (.int k a))(hy:ev s y=some (.int k' b)):OX P o s h ms (.int k (min a b)):=
  BD λρ w hρ _=>by
    have:(if b<a then b else a)=min a b:=ω
    simp[execOp,ho,hρ _ _ hx,hρ _ _ hy,resolve,invoke,builtin,run_min_int2,this]
end
section
variable {t u:TypeId} {x y:Operand} {a b:Bool}
theorem AaR(ho:o.op=.binOp .neq t x y u)(ht:P.underlying t=some .bool)(hx:ev s x=some (.bool a))(hy:ev s y=some (.bool b)):OX P o s h ms (.bool (decide (a≠b))):=
  BD λρ w hρ _=>by simp[execOp,ho,hρ _ _ hx,hρ _ _ hy,go_sem,run_neq_bool _ _ _ _ ht];cases a<;>cases b<;>rfl
theorem Eo(ho:o.op=.unOp .not t x)(hx:ev s x=some (.bool a)):OX P o s h ms (.bool (!a)):=
  BD λρ w hρ _=>by simp[execOp,ho,hρ _ _ hx,Op.unary]
end
section
variable {t el:TypeId} {x y:Operand} {p:Addr} {len cap sz:Nat} {k:IntKind}
theorem Ch{z:Value}{bytes:Nat}{i:Int}(j:Nat)(ho:o.op=.indexAddr t x y)(ht:P.underlying t=some (.slice el))(hs:Elem P el sz z bytes)(hx:ev s x=some (.slice (some p) len cap))(hy:ev s y=some (.int k i))(hi:i=(j:Int))(hlt:j<len) :
    OX P o s h ms (.pointer (some (p.add (j*sz)))):=
  BD λρ w hρ _=>by
    have h1:(0:Int)<=i/\i<(len:Int):=ω
    have h2:i.toNat=j:=ω
    simp[execOp,ho,hρ _ _ hx,hρ _ _ hy,Instr.indexAt,run_underlying ht,asIntOf,h1,h2,hs.sizeOf]
theorem Gh{z:Value}{bytes:Nat}{i:Int}(j:Nat)(ho:o.op=.indexAddr t x y)(ht:P.underlying t=some (.array len el))(hs:Elem P el sz z bytes)(hx:ev s x=some (.pointer (some p)))(hy:ev s y=some (.int k i))(hi:i=(j:Int))(hlt:j<len) :
    OX P o s h ms (.pointer (some (p.add (j*sz)))):=
  BD λρ w hρ _=>by
    have h1:(0:Int)<=i/\i<(len:Int):=ω
    have h2:i.toNat=j:=ω
    simp[execOp,ho,hρ _ _ hx,hρ _ _ hy,Instr.indexAt,run_underlying ht,Instr.sureAddr,asIntOf,h1,h2,hs.sizeOf]
theorem Ve{f:Field}{n:Nat}(ho:o.op=.fieldAddr t x i)(ht:P.underlying t=some (.struct fs))(hf:fs[i]?=some f)(hs:∀w,(sizeOf f.type).run P w=.ok (n+1) w)(hx:ev s x=some (.pointer (some p))) :
    OX P o s h ms (.pointer (some (p.add f.offset))):=
  BD λρ w hρ _=>by simp[execOp,ho,hρ _ _ hx,Instr.fieldAt,run_underlying ht,hf,Instr.sureAddr,fieldPlace,hs]
theorem X3(ho:o.op=.load t x)(ht:P.underlying t=some d)(hd:Ia d=false)(hx:ev s x=some (.pointer (some p)))(hc:Cell h ms p v):OX P o s h ms v:=
  BD λρ w hρ hw=>by
    have ha:(isAgg t).run P w=.ok false w:=by rw[D9 ht,hd]
    simp[execOp,ho,hρ _ _ hx,Instr.loadAt,Instr.sureAddr,loadVar,ha,hw.cell hc]
theorem Xz{z:Value}{bytes:Nat}(ho:o.op=.load t x)(ht:P.underlying t=some d)(hd:Ia d=true)(hs:Elem P t sz z bytes)(hl:vs.length=sz)(hx:ev s x=some (.pointer (some p)))(hc:Seg h ms p vs):OX P o s h ms (.agg vs.toArray):=
  BD λρ w hρ hw=>by
    have ha:(isAgg t).run P w=.ok true w:=by rw[D9 ht,hd]
    have hc':∀j v,vs[j]?=some v->w.cell? (p.add j)=some v:=λj v e=>hw.cell (hc j v e);subst hl;simp[execOp,ho,hρ _ _ hx,Instr.loadAt,Instr.sureAddr,loadVar,ha,hs.sizeOf,run_loadCells_list (P:=P) w p vs hc']
theorem PV(ho:o.op=.nilCheck x)(hx:ev s x=some (.pointer (some p))):OX P o s h ms (.pointer (some p)):=
  BD λρ w hρ _=>by simp[execOp,ho,hρ _ _ hx]
theorem Rc{ty:TypeId}{a:Option Addr}(ho:o.op=.call { callee:=.builtin .len,args:=#[x],argTypes:=#[t] })(ht:P.underlying t=some (.slice el))(hx:ev s x=some (.slice a len cap)):OX P o s h ms (.int .i64 len):=
  BD λρ w hρ _=>by simp[execOp,ho,hρ _ _ hx,resolve,invoke,builtin,Builtin.len_,run_underlying ht,goInt]
theorem EE{f:Field}{cs:Array Value}(ho:o.op=.field t x i)(ht:P.underlying t=some (.struct fs))(hf:fs[i]?=some f)(hd:P.underlying f.type=some d)(ha:Ia d=false)(hx:ev s x=some (.agg cs))(hv:cs[f.offset]?=some v) :
    OX P o s h ms v:=
  BD λρ w hρ _=>by
    have hag:(isAgg f.type).run P w=.ok false w:=by rw[D9 hd,ha]
    simp[execOp,ho,hρ _ _ hx,Instr.field,run_underlying ht,hf,asAgg,part,hag,hv]
def G0:List Value->Nat->List Value->List Value
  | l,_,[]=>l
  | l,k,v::vs=>G0 (l.set k v) (k+1) vs
def Pf:List Value->List (Nat×List Value)->List Value
  | l,[]=>l
  | l,(k,vs)::r=>Pf (G0 l k vs) r
theorem Rg(vs:List Value):∀(k off:Nat) (l:List Value),(List.foldl (λ(cs:Array Value) (c:Value×Nat)=>cs.setIfInBounds (off+c.2) c.1) l.toArray (vs.zipIdx k))=(G0 l (off+k) vs).toArray:=by
  induction vs with
  | nil=>intro k off l;rfl
  | cons v vs ih=>
    intro k off l;simp only[List.zipIdx_cons,List.foldl_cons,List.setIfInBounds_toArray];rw[ih (k+1) off];rfl
def G2(place:Nat->Option (Nat×Nat))(n:Nat):List (Nat×Value)->List (Nat×List Value)->Prop
  | [],[]=>True
  | p::ps,q::qs=>(p.2.cells=q.2.toArray/\place p.1=some (q.1,q.2.length)/\Nat.ble (q.1+q.2.length) n=true)/\G2 place n ps qs
  | _,_=>False
theorem HX:∀(vs:List Value) (l:List Value) (k:Nat),(G0 l k vs).length=l.length
  | [],_,_=>rfl
  | v::vs,l,k=>by simp only[G0];rw[HX vs];simp
theorem JM(place:Nat->Option (Nat×Nat)):∀(parts:List (Nat×Value)) (l:List Value) (ps:List (Nat×List Value)),G2 place l.length parts ps->Instr.fill place l.toArray parts=some (Pf l ps).toArray
  | [],l,[],_=>rfl
  | [],_,_::_,h=>h.elim
  | _::_,_,[],h=>h.elim
  | (i,v)::parts,l,(off,vs)::ps,h=>by obtain⟨⟨h1,h2,h3⟩,h4⟩:=h;simp only at h1 h2 h3;have h3':=br h3;simp only[Instr.fill,h2,h1,List.size_toArray];rw[aa (by simp;omega)];rw[<-Array.foldl_toList];simp only[Array.toList_zipIdx];rw[Rg vs 0 off l,Nat.add_zero];exact JM place parts _ ps (by rw[HX];exact h4)
theorem Ws{z:Value}{bytes:Nat}{lp:List (Nat×Operand)}{vs:List (Nat×Value)}{places:Array (Nat×Nat)}(zl:List Value)(ps:List (Nat×List Value))(vl:List Value)(ho:o.op=.build t lp.toArray)(ht:P.underlying t=some (.struct fs))(hs:Elem P t sz z bytes)(hz:z.cells=zl.toArray)
    (hpl:∀w,(fs.mapM λf=>do pure (f.offset,<-sizeOf f.type):Sem (Array (Nat×Nat))).run P w=.ok places w) (hv:Z8 s lp=some vs)
    (hps:G2 (places[·]?) zl.length vs ps) (hvl:Pf zl ps=vl):OX P o s h ms (.agg vl.toArray):=
  BD λρ w hρ _=>by
    have hf:=JM (places[·]?) vs zl ps hps
    have hm:(lp.toArray.map λ(i,x)=>(i,ρ x))=vs.toArray:=by rw[List.map_toArray,hρ.pairs lp vs hv]
    have hpl':=hpl w;simp only[execOp,ho,hm];simp only[Instr.build,Sem.run_bind,hs.zeroValue,run_underlying ht,hz,Result.andThen_ok,hpl',hf,Sem.run_pure,hvl]
theorem BY{fn:Fn}{lf lc:List Operand}{vf vc:List Value}(ho:o.op=.makeFunc fn lf.toArray lc.toArray)(hf:Qv s lf=some vf)(hc:Qv s lc=some vc):OX P o s h ms (.func fn vf.toArray vc.toArray):=
  BD λρ w hρ _=>by simp[execOp,ho,hρ.map _ _ hf,hρ.map _ _ hc,Instr.makeFunc]
end
theorem AG(ho:o.op=.call { callee:=.value (.func f),args:=l.toArray,argTypes:=ts })(hc:∀az w,(callFunc f az).run P w=.ok (.enter f az) w)(ha:Qv s l=some vs)(k:FnV P f vs.toArray h ms v):OX P o s h ms v:=
  λρ w hρ hw=>by
    have hev:ρ (.func f)=.func (.func f) #[] #[]:=hρ _ _ Y;have:(execOp ρ o).run P w=.ok (.enter f vs.toArray) w:=by simp[execOp,ho,resolve,hev,Deferred.ofValue,invoke,hc,hρ.map l vs ha]
    unfold OpRes;rw[this];exact(k w hw).mono λx w' ⟨e1,e2⟩=>⟨v,e1,Y,e2⟩
theorem SG(ho:o.op=.call { callee:=.value (.func f),args:=l.toArray,argTypes:=ts })(hc:∀az w,(callFunc f az).run e.P w=.ok (.enter f az) w)(ha:Qv s l=some vs)(k:FnT e.P f vs.toArray h pre post) :
    OT e o s h (pre++fr) (λv h' ms'=>∃pre',ms'=pre'++fr/\h.le h'/\post v h' pre'):=
  λρ w hρ hw=>by
    have hev:ρ (.func f)=.func (.func f) #[] #[]:=hρ _ _ Y;have:(execOp ρ o).run e.P w=.ok (.enter f vs.toArray) w:=by simp[execOp,ho,resolve,hev,Deferred.ofValue,invoke,hc,hρ.map l vs ha]
    unfold OpRes;rw[this];exact(k w hw.st.pre).mono λx w' ⟨r,h',pre',e1,e2,e3⟩=>⟨r,e1,h',pre'++fr,Ends.call hw e2,pre',Y,e2.le,e3⟩
theorem Co{x:Operand}{fs:List Value}(ho:o.op=.call { callee:=.value x,args:=l.toArray,argTypes:=ts })(hx:ev s x=some (.func (.func f) fs.toArray cs.toArray))(hc:∀az w,(callFunc f az).run P w=.ok (.enter f az) w)(ha:Qv s l=some vs)(k:FnV P f (fs++vs++cs).toArray h ms v):OX P o s h ms v:=
  λρ w hρ hw=>by
    have:(execOp ρ o).run P w=.ok (.enter f (fs++vs++cs).toArray) w:=by simp[execOp,ho,resolve,hρ _ _ hx,Deferred.ofValue,invoke,hc,hρ.map l vs ha]
    unfold OpRes;rw[this];exact(k w hw).mono λx w' ⟨e1,e2⟩=>⟨v,e1,Y,e2⟩
theorem Vu{x:Operand}{fs:List Value}(ho:o.op=.call { callee:=.value x,args:=l.toArray,argTypes:=ts })(hx:ev s x=some (.func (.func f) fs.toArray cs.toArray))(hc:∀az w,(callFunc f az).run e.P w=.ok (.enter f az) w)(ha:Qv s l=some vs)(k:FnT e.P f (fs++vs++cs).toArray h pre post) :
    OT e o s h (pre++fr) (λv h' ms'=>∃pre',ms'=pre'++fr/\h.le h'/\post v h' pre'):=
  λρ w hρ hw=>by
    have:(execOp ρ o).run e.P w=.ok (.enter f (fs++vs++cs).toArray) w:=by simp[execOp,ho,resolve,hρ _ _ hx,Deferred.ofValue,invoke,hc,hρ.map l vs ha]
    unfold OpRes;rw[this];exact(k w hw.st.pre).mono λx w' ⟨r,h',pre',e1,e2,e3⟩=>⟨r,e1,h',pre'++fr,Ends.call hw e2,pre',Y,e2.le,e3⟩
theorem Y4{d:Nat}(ho:o.op=.call { callee:=.value (.func f),args:=l.toArray,argTypes:=ts })(hc:∀az w,(callFunc f az).run e.P w=.ok (.enter f az) w)(ha:Qv s l=some vs)(k:FnT e.P f vs.toArray h [] post)(hd:o.dst=some d)(hn:Nat.blt d e.n=true)(hg:o.guard=none)
    (K:∀v h' pre',h.le h'->post v h' pre'->WL e ops Q rest ((d,v)::s) h' (pre'++ms)):WL e ops Q (o::rest) s h ms:=
  H5 (SG (fr:=ms) ho hc ha k) hd hn hg λv h' ms' ⟨pre',e1,e2,e3⟩=>by subst e1;exact K v h' pre' e2 e3
theorem Bf{d:Nat}(ho:o.op=.call { callee:=.value (.func f),args:=l.toArray,argTypes:=ts })(hc:∀az w,(callFunc f az).run e.P w=.ok (.enter f az) w)(ha:Qv s l=some vs)(k:FnT e.P f vs.toArray h pre post)(hm:ms=pre++fr)(hd:o.dst=some d)(hn:Nat.blt d e.n=true)(hg:o.guard=none)
    (K:∀v h' pre',h.le h'->post v h' pre'->WL e ops Q rest ((d,v)::s) h' (pre'++fr)):WL e ops Q (o::rest) s h ms:=by
  subst hm;exact H5 (SG ho hc ha k) hd hn hg λv h' ms' ⟨pre',e1,e2,e3⟩=>by subst e1;exact K v h' pre' e2 e3
theorem HC{x:Operand}{fs:List Value}{d:Nat}(ho:o.op=.call { callee:=.value x,args:=l.toArray,argTypes:=ts })(hx:ev s x=some (.func (.func f) fs.toArray cs.toArray))(hc:∀az w,(callFunc f az).run e.P w=.ok (.enter f az) w)(ha:Qv s l=some vs)(k:FnT e.P f (fs++vs++cs).toArray h pre post)(hm:ms=pre++fr)(hd:o.dst=some d)(hn:Nat.blt d e.n=true)(hg:o.guard=none)
    (K:∀v h' pre',h.le h'->post v h' pre'->WL e ops Q rest ((d,v)::s) h' (pre'++fr)):WL e ops Q (o::rest) s h ms:=by
  subst hm;exact H5 (Vu ho hx hc ha k) hd hn hg λv h' ms' ⟨pre',e1,e2,e3⟩=>by subst e1;exact K v h' pre' e2 e3
end
end Go.Eng
namespace Go.Eng
open Go.RowKit
variable {sz bytes n d g:Nat} {v z:Value} {el t:TypeId} {cs l:List Value} {x y:Operand} {m:Hp}
theorem Gn{α:Type}(l:List α)(i:Nat)(x y:α)(h:l[i]?=some x):∃r,l.Perm (x::r)/\(l.set i y).Perm (y::r):=by
  induction l generalizing i with
  | nil=>cases h
  | cons a l ih=>
    cases i with
    | zero=>simp at h;subst h;exact⟨l,List.Perm.refl _,List.Perm.refl _⟩
    | succ i=>
      simp at h;obtain⟨r,h1,h2⟩:=ih i h;exact⟨a::r,(h1.cons a).trans (List.Perm.swap _ _ _),by rw[List.set_cons_succ];exact(h2.cons a).trans (List.Perm.swap _ _ _)⟩
structure Rd(h:Hp)(ms:List Hp)(v:Value)(sz n:Nat)(cs:List Value):Prop where
  ex:∃a c,v=.slice a n c/\n<=c/\c<=9223372036854775807/\cs.length=n*sz/\(0<n->∃q,a=some q/\Seg h ms q cs)
def Own(el:TypeId)(sz:Nat)(m:Hp)(v:Value)(n:Nat)(cs:List Value):Prop:=
  cs.length=n*sz/\((v=.slice none 0 0/\n=0/\m=Hp.emp) ∨
    ∃g cap spare,v=.slice (some ⟨g,0,none⟩) n cap/\m=A8 g el (cs++spare)/\(cs++spare).length=cap*sz/\n<=cap/\cap<=9223372036854775807)
theorem Rd.le{h h':Hp}{ms:List Hp}(R:Rd h ms v sz n cs)(l:h.le h'):Rd h' ms v sz n cs:=by obtain⟨a,c,e1,e2,e3,e4,e5⟩:=R.ex;exact⟨a,c,e1,e2,e3,e4,λhn=>let ⟨q,q1,q2⟩:=e5 hn;⟨q,q1,q2.le l⟩⟩
theorem Rd.sub{h:Hp}{ms ms':List Hp}(R:Rd h ms v sz n cs)(l:∀m∈ms,m∈ms'):Rd h ms' v sz n cs:=by obtain⟨a,c,e1,e2,e3,e4,e5⟩:=R.ex;exact⟨a,c,e1,e2,e3,e4,λhn=>let ⟨q,q1,q2⟩:=e5 hn;⟨q,q1,q2.sub l⟩⟩
theorem Rd.any{h:Hp}{ms:List Hp}(R:Rd h [] v sz n cs):Rd h ms v sz n cs:=R.sub (by simp)
theorem Rd.nil(h:Hp)(ms:List Hp)(sz:Nat):Rd h ms (.slice none 0 0) sz 0 []:=⟨none,0,rfl,ay _,ω,by simp,λh=>ω⟩
theorem Own.nil(el:TypeId)(sz:Nat):Own el sz Hp.emp (.slice none 0 0) 0 []:=⟨by simp,.inl ⟨rfl,rfl,rfl⟩⟩
theorem Own.rd(O:Own el sz m v n cs){h:Hp}{ms:List Hp}(hm:m∈ms):Rd h ms v sz n cs:=by
  obtain⟨h1,h2⟩:=O;rcases h2 with ⟨rfl,rfl,rfl⟩|⟨g,cap,spare,rfl,rfl,e1,e2,e3⟩
  · exact⟨none,0,Y,ay _,ω,h1,λh=>ω⟩
  · refine⟨_,cap,Y,e2,e3,h1,λ_=>⟨_,Y,λj v hv=>?_⟩⟩;obtain⟨i,hi⟩:=List.getElem?_of_mem hm;exact Cell.blk i hi (by rw[List.getElem?_append_left (List.getElem?_eq_some_iff.1 hv).1];exact hv)
theorem Own.rdh(O:Own el sz m v n cs){h:Hp}{ms:List Hp}(hm:m.le h):Rd h ms v sz n cs:=by
  obtain⟨h1,h2⟩:=O;rcases h2 with ⟨rfl,rfl,rfl⟩|⟨g,cap,spare,rfl,rfl,e1,e2,e3⟩
  · exact⟨none,0,Y,ay _,ω,h1,λh=>ω⟩
  · refine⟨_,cap,Y,e2,e3,h1,λ_=>⟨_,Y,λj v hv=>?_⟩⟩;refine⟨by unfold Addr.add;split<;>rfl,(cs++spare).toArray,el,(0,0),.inl (hm _ _ ?_),?_⟩
    · rw[DD];exact Hp.one_self _ _
    · rw[Es];have:=(List.getElem?_eq_some_iff.1 hv).1;simp only[Nat.zero_add,List.getElem?_toArray];rw[List.getElem?_append_left this];exact hv
theorem Ends.put{w0 w w':World}{h0 h:Hp}{ms0 ms:List Hp}{i:Nat}{l':List Value}(H:Ends w0 h0 ms0 w h ms)(hm:ms[i]?=some (A8 g el l))
    (hos:w'.os=w.os) (htape:TL w w') (hout:w'.output=w.output) (hsize:w.heap.size<=w'.heap.size)
    (hg:w'.heap[g]?=some (.cells l'.toArray el (0,0))) (hother:∀k,k<w.heap.size->k≠g->w'.heap[k]?=w.heap[k]?):Ends w0 h0 ms0 w' h (ms.set i (A8 g el l')):=by
  obtain⟨r,p1,p2⟩:=Gn ms i (A8 g el l) (A8 g el l') hm;exact Ends.perm (Ends.change (H.perm p1) hos htape hout hsize hg hother) p2.symm
section
variable {P:Program} {o:Oper} {s:AC} {h:Hp} {ms:List Hp} {e:Entry} {Q:Exit->Act->World->Prop} {ops:Array Oper} {rest:List Oper}
theorem XK(zl:List Value)(ho:o.op=.alloc t)(hs:Elem e.P t sz z bytes)(hz:z.cells=zl.toArray) :
    OT e o s h ms (λv h' ms'=>∃g,v=.pt g/\h'=h/\ms'=A8 g t zl::ms):=λρ w hρ hw=>by
  have:(execOp ρ o).run e.P w=.ok (.value (.pointer (some ⟨w.heap.size,0,none⟩))) (w.alloc (.cells zl.toArray t)):=by simp[execOp,ho,Instr.alloc,hs.zeroValue,newVar,newRow,hz]
  unfold OpRes;rw[this];exact⟨h,_,Ends.alloc hw _,_,Y,Y,Y⟩
theorem Wh(zl:List Value)(ho:o.op=.alloc t)(hs:Elem e.P t sz z bytes)(hz:z.cells=zl.toArray)(hd:o.dst=some d)(hn:Nat.blt d e.n=true)(hg:o.guard=none)
    (k:∀g,WL e ops Q rest ((d,.pt g)::s) h (A8 g t zl::ms)):WL e ops Q (o::rest) s h ms:=
  H5 (XK zl ho hs hz) hd hn hg λ_ _ _ ⟨g,e1,e2,e3⟩=>by subst e1 e2 e3;exact k g
theorem AQ(zl:List Value)(ho:o.op=.box t x)(hx:ev s x=some v)(hz:v.cells=zl.toArray)(hd:o.dst=some d)(hn:Nat.blt d e.n=true)(hg:o.guard=none)
    (k:∀g,WL e ops Q rest ((d,.pt g)::s) h (A8 g t zl::ms)):WL e ops Q (o::rest) s h ms:=
  H5 (post:=λv h' ms'=>∃g,v=.pt g/\h'=h/\ms'=A8 g t zl::ms) (λρ w hρ hw=>by
    have:(execOp ρ o).run e.P w=.ok (.value (.pointer (some ⟨w.heap.size,0,none⟩))) (w.alloc (.cells zl.toArray t)):=by simp[execOp,ho,hρ _ _ hx,Instr.box,newVar,newRow,hz]
    unfold OpRes;rw[this]
    exact⟨h,_,Ends.alloc hw _,_,Y,Y,Y⟩) hd hn hg λ_ _ _ ⟨g,e1,e2,e3⟩=>by subst e1 e2 e3;exact k g
theorem Hh{vs:List (Nat×Value)}(ps:List (Nat×List Value))(zl vl:List Value)(ht:P.underlying t=some (.slice el))(hs:Elem P el sz z bytes)(hb:n*sz<=16777216)
    (hz:(Array.range (n*sz)).map (λi=>(if n*sz=0 then #[] else z.cells)[i%(if n*sz=0 then #[] else z.cells).size]!)=zl.toArray) (hps:G2 (λi=>some (i*sz,sz)) zl.length vs ps) (hvl:Pf zl ps=vl) (w:World) :
    (Instr.buildSlice t n vs.toArray).run P w=.ok (.slice (some ⟨w.heap.size,0,none⟩) n n) (w.alloc (.cells vl.toArray el)):=by
  have hf:=JM (λi=>some (i*sz,sz)) vs zl ps hps;have hb':¬(n*sz>2^24):=ω
  rw[hvl,<-hz]at hf;simp only[Instr.buildSlice,Sem.run_bind,run_underlying ht,Result.andThen_ok,hs.sizeOf];rw[aa hb'];by_cases h0:n*sz=0
  · simp only[h0,if_true]at hf ⊢;simp only[Sem.run_bind,Sem.run_pure,Result.andThen_ok,hf,newRow,run_newObj];rfl
  · simp only[h0,if_false]at hf ⊢;simp only[Sem.run_bind,Sem.run_pure,Result.andThen_ok,hs.zeroValue,hf,newRow,run_newObj];rfl
theorem La:∀(vs l:List Value) (k:Nat),k+vs.length<=l.length->G0 l k vs=l.take k++vs++l.drop (k+vs.length)
  | [],l,k,h=>by simp[G0]
  | v::vs,l,k,h=>by
    simp only[G0];have hk:k<l.length:=by simp at h;omega
    rw[La vs _ _ (by simp at h ⊢;omega)];rw[List.take_add_one,List.take_set_of_le ω,List.drop_set_of_lt ω];have e1:(l.set k v)[k]?=some v:=by rw[List.getElem?_set];simp only[if_true];rw[ab hk]
    have e2:k+1+vs.length=k+(v::vs).length:=by simp;omega
    rw[e1,e2];simp
theorem GV(zl:List Value)(ht:P.underlying t=some (.slice el))(hs:Elem P el sz z bytes)(hv:v.cells=zl.toArray)(hl:zl.length=sz)(hzs:z.cells.size=sz)(hsz:0<sz/\sz<=1000)(w:World) :
    (Instr.buildSlice t 1 #[(0,v)]).run P w=.ok (.slice (some ⟨w.heap.size,0,none⟩) 1 1) (w.alloc (.cells zl.toArray el)):=by
  refine Hh (vs:=[(0,v)]) [(0,zl)] ((range (1*sz)).map (λi=>(if 1*sz=0 then #[] else z.cells)[i%(if 1*sz=0 then #[] else z.cells).size]!)) zl ht hs ω (by apply Array.ext';simp) ?_ ?_ w
  · refine⟨⟨hv,by simp[hl],?_⟩,trivial⟩;simp[hl]
  · simp only[Pf];rw[La _ _ _ (by simp[hl])];simp[hl]
theorem Aw(zl:List Value)(ho:o.op=.buildSlice t 1 #[(0,x)])(ht:e.P.underlying t=some (.slice el))(hs:Elem e.P el sz z bytes)(hx:ev s x=some v)(hv:v.cells=zl.toArray)(hl:zl.length=sz)(hzs:z.cells.size=sz)(hsz:0<sz/\sz<=1000)(hd:o.dst=some d)(hn:Nat.blt d e.n=true)(hg:o.guard=none)
    (k:∀g,WL e ops Q rest ((d,.slice (some ⟨g,0,none⟩) 1 1)::s) h (A8 g el zl::ms)):WL e ops Q (o::rest) s h ms:=
  H5 (post:=λv h' ms'=>∃g,v=.slice (some ⟨g,0,none⟩) 1 1/\h'=h/\ms'=A8 g el zl::ms) (λρ w hρ hw=>by
    have:(execOp ρ o).run e.P w=.ok (.value (.slice (some ⟨w.heap.size,0,none⟩) 1 1)) (w.alloc (.cells zl.toArray el)):=by simp[execOp,ho,hρ _ _ hx,GV zl ht hs hv hl hzs hsz]
    unfold OpRes;rw[this]
    exact⟨h,_,Ends.alloc hw _,_,Y,Y,Y⟩) hd hn hg λ_ _ _ ⟨g,e1,e2,e3⟩=>by subst e1 e2 e3;exact k g
theorem AB{lp:List (Nat×Operand)}{vs:List (Nat×Value)}(ps:List (Nat×List Value))(zl vl:List Value)(ho:o.op=.buildSlice t n lp.toArray)(ht:e.P.underlying t=some (.slice el))(hs:Elem e.P el sz z bytes)
    (hv:Z8 s lp=some vs) (hb:n*sz<=16777216) (hz:(Array.range (n*sz)).map (λi=>(if n*sz=0 then #[] else z.cells)[i%(if n*sz=0 then #[] else z.cells).size]!)=zl.toArray) (hps:G2 (λi=>some (i*sz,sz)) zl.length vs ps) (hvl:Pf zl ps=vl) (hd:o.dst=some d) (hn:Nat.blt d e.n=true) (hg:o.guard=none)
    (k:∀g,WL e ops Q rest ((d,.slice (some ⟨g,0,none⟩) n n)::s) h (A8 g el vl::ms)):WL e ops Q (o::rest) s h ms:=
  H5 (post:=λv h' ms'=>∃g,v=.slice (some ⟨g,0,none⟩) n n/\h'=h/\ms'=A8 g el vl::ms) (λρ w hρ hw=>by
    have hm:(lp.toArray.map λ(i,x)=>(i,ρ x))=vs.toArray:=by rw[List.map_toArray,hρ.pairs lp vs hv]
    have:(execOp ρ o).run e.P w=.ok (.value (.slice (some ⟨w.heap.size,0,none⟩) n n)) (w.alloc (.cells vl.toArray el)):=by simp only[execOp,ho,hm,Sem.run_bind,Hh ps zl vl ht hs hb hz hps hvl,Result.andThen_ok,Sem.run_pure]
    unfold OpRes;rw[this]
    exact⟨h,_,Ends.alloc hw _,_,Y,Y,Y⟩) hd hn hg λ_ _ _ ⟨g,e1,e2,e3⟩=>by subst e1 e2 e3;exact k g
theorem AY{p:Addr}(i k:Nat)(ho:o.op=.store t x y)(hs:Elem e.P t 1 z bytes)(hx:ev s x=some (.pointer (some p)))(hy:ev s y=some v)(h1:v.oneCell'=true)
    (hm:ms[i]?=some (A8 g el l)) (hp:p=(⟨g,0,none⟩:Addr).add k) (hk:k<l.length) (hd:o.dst=none) (hg:o.guard=none)
    (K:WL e ops Q rest s h (ms.set i (A8 g el (l.set k v)))):WL e ops Q (o::rest) s h ms:=
  Lj (post:=λ_ h' ms'=>h'=h/\ms'=ms.set i (A8 g el (l.set k v))) (λρ w hρ hw=>by
    have hp':p=⟨g,k,none⟩:=by subst hp;unfold Addr.add;split<;>simp_all
    have hgw:w.heap[g]?=some (.cells l.toArray el (0,0)):=hw.st.own _ (List.mem_of_getElem? hm) g _ (Hp.one_self _ _);have hc:w.cell? ⟨g,k,none⟩=some l[k]:=by simp[World.cell?,hgw,hk]
    have hf:w.frozen? ⟨g,k,none⟩=false:=by simp[World.frozen?,hgw]
    have hvc:v.cells=#[v]:=by cases v<;>first|rfl|(simp[Value.oneCell']at h1)
    have hst:(store (Addr.add ⟨g,k,none⟩ 0) v).run e.P w=.ok () (w.setCell ⟨g,k,none⟩ v):=by rw[EN,run_store e.P w _ v _ h1,hc];simp[hf]
    have:(execOp ρ o).run e.P w=.ok .skip (w.setCell ⟨g,k,none⟩ v):=by simp[execOp,ho,hρ _ _ hx,hρ _ _ hy,Instr.storeAt,Instr.sureAddr,storeVar,hs.sizeOf,hvc,hp',storeCells,hst]
    unfold OpRes;rw[this];refine⟨h,_,Ends.put hw hm Y ⟨Y,ay _⟩ Y (by simp[World.setCell]) (l':=l.set k v) ?_ (λj hj hne=>Below.heap_setCell _ _ _ _ hne),rfl,rfl⟩
    rw[heap_setCell_same w g k l.toArray el v hgw];simp) hd hg λ_ _ _ ⟨e1,e2⟩=>by subst e1 e2;exact K
theorem PR(i:Nat)(vl:List Value)(ho:o.op=.store t x y)(hs:Elem e.P t sz z bytes)(hx:ev s x=some (.pointer (some ⟨g,0,none⟩)))(hy:ev s y=some v)(hv:v.cells=vl.toArray)(h1:∀u∈vl,u.oneCell'=true)
    (hm:ms[i]?=some (A8 g el l)) (hl:vl.length=sz) (hl':l.length=sz) (hd:o.dst=none) (hg:o.guard=none)
    (K:WL e ops Q rest s h (ms.set i (A8 g el vl))):WL e ops Q (o::rest) s h ms:=
  Lj (post:=λ_ h' ms'=>h'=h/\ms'=ms.set i (A8 g el vl)) (λρ w hρ hw=>by
    have hgw:w.heap[g]?=some (.cells l.toArray el (0,0)):=hw.st.own _ (List.mem_of_getElem? hm) g _ (Hp.one_self _ _);have hst:=run_storeCells_at e.P g 0 el vl 0 l.toArray w hgw (by simp;omega) h1
    have:(execOp ρ o).run e.P w=.ok .skip (w.setRow g vl.toArray):=by simp[execOp,ho,hρ _ _ hx,hρ _ _ hy,Instr.storeAt,Instr.sureAddr,storeVar,hs.sizeOf,hv,hl,hst];rw[List.drop_eq_nil_of_le ω];simp
    unfold OpRes;rw[this]
    exact⟨h,_,Ends.put hw hm Y ⟨Y,ay _⟩ Y (by simp) (setRow_heap w g _ _ _ _ hgw) (λj hj hne=>setRow_other w g j _ hne),rfl,rfl⟩) hd hg λ_ _ _ ⟨e1,e2⟩=>by subst e1 e2;exact K
theorem E9(w:World)(t ty el:TypeId)(ht:P.underlying t=some (.slice el))(hs:Elem P el sz z bytes)(base a:Option Addr)(n cap c:Nat)(hn:n<=cap) :
    (Builtin.append_ #[t,t] ty #[.slice base n cap,.slice a 0 c]).run P w=.ok (.slice base n cap) w:=by
  cases base<;>cases a<;>simp[Builtin.append_,run_underlying ht,hs.sizeOf,Builtin.lenOf,hn,Builtin.firstCells,loadCells,loadCellsFrom,storeCells]
theorem KF{w0 w:World}{h0 h:Hp}{ms0 ms:List Hp}(H:Ends w0 h0 ms0 w h (m::ms))(t ty el:TypeId)(ht:P.underlying t=some (.slice el))(hs:Elem P el sz z bytes)(hzs:z.cells.size=sz)(hsz:0<sz)
    {x:Value} {k:Nat} {news:List Value} (O:Own el sz m v n cs) (R:Rd h (m::ms) x sz k news) (h1:∀u∈news,u.oneCell'=true) (hb:(n+k)*bytes<=140737488355328) (hb63:n+k<=9223372036854775807) :
    ∃v' w' m',(Builtin.append_ #[t,t] ty #[v,x]).run P w=.ok v' w'/\Own el sz m' v' (n+k) (cs++news)/\Ends w0 h0 ms0 w' h (m'::ms):=by
  obtain⟨a,c,rfl,hkc,hcm,hnl,hq⟩:=R.ex;obtain⟨hcl,hO⟩:=O;obtain⟨i,hi,hz,his,hib⟩:=hs.info;rcases Nat.eq_zero_or_pos k with rfl|hk
  · have hnews:news=[]:=List.eq_nil_of_length_eq_zero (by simpa using hnl);subst hnews;rcases hO with ⟨rfl,rfl,rfl⟩|⟨g,cap,spare,rfl,rfl,e1,e2,e3⟩
    · exact⟨_,w,_,E9 w t ty el ht hs none a 0 0 c (ay _),⟨by simpa using hcl,.inl ⟨rfl,rfl,rfl⟩⟩,H⟩
    · exact⟨_,w,_,E9 w t ty el ht hs _ a n cap c e2,⟨by simpa using hcl,.inr ⟨g,cap,spare,rfl,by simp,by simpa using e1,e2,e3⟩⟩,H⟩
  · obtain⟨q,rfl,hseg⟩:=hq hk;have hnews:∀j u,news[j]?=some u->w.cell? (q.add j)=some u:=λj u e=>H.st.cell (hseg j u e)
    have hcap:∀old,grownCap w (n+k) old el<=9223372036854775807/\n+k<=grownCap w (n+k) old el:=λold=>
      ⟨grownCap_le_maxLen w (n+k) old el (by simp only[maxLen];omega),grownCap_ge w (n+k) old el⟩
    have hzl:∀N,(Builtin.zeroCells z.cells N).toList.length=N*sz:=λN=>by rw[Array.length_toList,size_zeroCells,hzs]
    rcases hO with ⟨rfl,rfl,rfl⟩|⟨g,cap,spare,rfl,rfl,e1,e2,e3⟩
    · have hc0:cs=[]:=List.eq_nil_of_length_eq_zero (by simpa using hcl);subst hc0;simp only[Nat.zero_add,av]at *;have hr:=run_append_nil (P:=P) w t ty el i z ht hi hz q k c news (by rw[his];exact hnl) hnews hk ω (by rw[hib];omega);refine⟨_,_,_,hr,⟨hnl,.inr ⟨w.heap.size,grownCap w k 0 el,(Builtin.zeroCells z.cells (grownCap w k 0 el-k)).toList,Y,Y,?_,(hcap 0).2,(hcap 0).1⟩⟩,?_⟩
      · rw[ad,hzl,hnl,<-Nat.add_mul];congr 1;have:=(hcap 0).2;omega
      · have:=Ends.alloc (Ends.drew (Ends.drop H)) (.cells (news.toArray++Builtin.zeroCells z.cells (grownCap w k 0 el-k)) el)
        have e:(news++(Builtin.zeroCells z.cells (grownCap w k 0 el-k)).toList).toArray=news.toArray++Builtin.zeroCells z.cells (grownCap w k 0 el-k):=by apply Array.ext';simp
        unfold A8;rw[e];exact this
    · have hgw:w.heap[g]?=some (.cells (cs++spare).toArray el (0,0)):=H.st.own _ (bi) g _ (Hp.one_self _ _);by_cases hroom:n+k<=cap
      · have hfit:n*i.size+news.length<=(cs++spare).toArray.size:=by
          rw[his,hnl,List.size_toArray,e1,<-Nat.add_mul];exact Nat.mul_le_mul_right _ hroom
        have hr:=run_append_room (P:=P) w t ty el i ht hi g n cap (cs++spare).toArray hgw q k c news (by rw[his];exact hnl) hnews h1 hroom hfit
        have e5:(List.take (n*i.size) (cs++spare).toArray.toList++news++List.drop (n*i.size+news.length) (cs++spare).toArray.toList)=cs++news++spare.drop news.length:=by
          rw[his,<-hcl];have hd:List.drop (cs.length+news.length) (cs++spare)=spare.drop news.length:=by rw[<-drop_drop,List.drop_left]
          simp only[List.take_left',hd,bl]
        rw[e5]at hr;refine⟨_,_,_,hr,⟨by rw[ad,hcl,hnl,Nat.add_mul],.inr ⟨g,cap,spare.drop news.length,rfl,rfl,?_,hroom,e3⟩⟩,?_⟩
        · rw[<-e1];simp only[ad,List.length_drop]
          have:news.length<=spare.length:=by rw[List.size_toArray,ad,his,<-hcl]at hfit;omega
          omega
        · exact Ends.change H Y ⟨Y,ay _⟩ Y (by simp) (setRow_heap w g _ _ _ _ hgw) (λj hj hne=>setRow_other w g j _ hne)
      · have holds:∀j u,cs[j]?=some u->w.cell? ((⟨g,0,none⟩:Addr).add j)=some u:=λj u hv=>H.st.cell (Cell.blk (el:=el) (l:=cs++spare) 0 Y (by rw[List.getElem?_append_left (List.getElem?_eq_some_iff.1 hv).1];exact hv));have hr:=run_append_grow (P:=P) w t ty el i z ht hi hz ⟨g,0,none⟩ n cap cs (by rw[his];exact hcl) holds q k c news (by rw[his];exact hnl) hnews ω ω (by rw[hib];exact growslice_fits ω hb);refine⟨_,_,_,hr,⟨by rw[ad,hcl,hnl,Nat.add_mul],.inr ⟨w.heap.size,grownCap w (n+k) cap el,(Builtin.zeroCells z.cells (grownCap w (n+k) cap el-(n+k))).toList,rfl,rfl,?_,(hcap cap).2,(hcap cap).1⟩⟩,?_⟩
        · rw[ad,ad,hzl,hcl,hnl,<-Nat.add_mul,<-Nat.add_mul];congr 1;have:=(hcap cap).2;omega
        · have:=Ends.alloc (Ends.drew (Ends.drop H)) (.cells (cs.toArray++news.toArray++Builtin.zeroCells z.cells (grownCap w (n+k) cap el-(n+k))) el)
          have e:(cs++news++(Builtin.zeroCells z.cells (grownCap w (n+k) cap el-(n+k))).toList).toArray=cs.toArray++news.toArray++Builtin.zeroCells z.cells (grownCap w (n+k) cap el-(n+k)):=by apply Array.ext';simp
          unfold A8;rw[e];exact this
theorem My{u:Value}{k:Nat}{news:List Value}(i:Nat)(ho:o.op=.call { callee:=.builtin .append,args:=#[x,y],argTypes:=#[t,t] })(ht:e.P.underlying t=some (.slice el))(hs:Elem e.P el sz z bytes)(hzs:z.cells.size=sz)(hsz:0<sz)
    (hx:ev s x=some v) (hy:ev s y=some u) (hm:ms[i]?=some m) (O:Own el sz m v n cs) (R:Rd h ms u sz k news) (h1:∀u∈news,u.oneCell'=true) (hb:(n+k)*bytes<=140737488355328) (hb63:n+k<=9223372036854775807) (hd:o.dst=some d) (hn:Nat.blt d e.n=true) (hg:o.guard=none)
    (K:∀v' m',Own el sz m' v' (n+k) (cs++news)->WL e ops Q rest ((d,v')::s) h (ms.set i m')):WL e ops Q (o::rest) s h ms:=
  H5 (post:=λv' h' ms'=>∃m',h'=h/\ms'=ms.set i m'/\Own el sz m' v' (n+k) (cs++news)) (λρ w hρ hw=>by
    obtain⟨r,p1,_⟩:=Gn ms i m m hm;obtain⟨v',w',m',hr,hO,hE⟩:=KF (P:=e.P) (Ends.perm hw p1) t o.type el ht hs hzs hsz O (R.sub (λm hm=>p1.mem_iff.1 hm)) h1 hb hb63
    have:(execOp ρ o).run e.P w=.ok (.value v') w':=by simp[execOp,ho,hρ _ _ hx,hρ _ _ hy,resolve,invoke,builtin,hr]
    unfold OpRes;rw[this];obtain⟨r',q1,q2⟩:=Gn ms i m m' hm;have pr:(m'::r).Perm (ms.set i m'):=((List.Perm.cons_inv (p1.symm.trans q1)).cons m').trans q2.symm
    exact⟨h,_,Ends.perm hE pr,m',Y,Y,hO⟩) hd hn hg λv' h' ms' ⟨m',e1,e2,e3⟩=>by subst e1 e2;exact K v' m' e3
theorem HN(v:Value)(n:Nat):madeCells #[v] n=(replicate n v).toArray:=by
  apply Array.ext
  · simp[madeCells]
  · intro i h1 h2;simp[madeCells,Nat.mod_one]
theorem CA{k1 k2:IntKind}{l c:Int}(ho:o.op=.makeSlice t x y)(ht:e.P.underlying t=some (.slice el))(hs:Elem e.P el 1 z bytes)(hz:z.cells=#[z])
    (hx:ev s x=some (.int k1 l)) (hy:ev s y=some (.int k2 c)) (hl:l=(n:Int)) (hc:c=(n:Int)) (hb:bytes*n<=281474976710656) (h63:n<=9223372036854775807) (hd:o.dst=some d) (hn:Nat.blt d e.n=true) (hg:o.guard=none)
    (k:∀g,WL e ops Q rest ((d,.slice (some ⟨g,0,none⟩) n n)::s) h (A8 g el (replicate n z)::ms)):WL e ops Q (o::rest) s h ms:=
  H5 (post:=λv h' ms'=>∃g,v=.slice (some ⟨g,0,none⟩) n n/\h'=h/\ms'=A8 g el (replicate n z)::ms) (λρ w hρ hw=>by
    obtain⟨i,hi,hz',his,hib⟩:=hs.info
    have hb':(i.bytes:Int)*c<=281474976710656:=by
      rw[hib,hc];have h:((bytes*n:Nat):Int)<=281474976710656:=ω
      rwa [Int.natCast_mul]at h
    have hr:=run_make (P:=e.P) w t el i z ht hi hz' k1 k2 l c ω ω hb' ω
    have:(execOp ρ o).run e.P w=.ok (.value (.slice (some ⟨w.heap.size,0,none⟩) n n)) (w.alloc (.cells (replicate n z).toArray el)):=by
      have e1:l.toNat=n:=ω
      have e2:c.toNat=n:=ω
      rw[e1,e2,his,hz,Nat.mul_one,HN]at hr;simp only[execOp,ho,hρ _ _ hx,hρ _ _ hy,Sem.run_bind,hr,Result.andThen_ok,Sem.run_pure]
    unfold OpRes;rw[this]
    exact⟨h,_,Ends.alloc hw _,_,Y,Y,Y⟩) hd hn hg λ_ _ _ ⟨g,e1,e2,e3⟩=>by subst e1 e2 e3;exact k g
end
end Go.Eng
namespace Go.Eng
open Go.RowKit
abbrev VP:=Hp->Value->Prop
abbrev Nb:=(TypeId×List Value)×(Nat->Value)
abbrev Og:=Value ⊕ (VP ⊕ Nb)
def NF(o:Oper)(j:Nat):Bool:=o.after.any λe=>Region.binds .any e&&e.on==j
def backs(o:Oper)(i:Nat):Bool:=o.after.all λe=>!Region.binds .any e||e.on<i
def KP(ops:Array Oper):Nat->Nat->Nat->Bool
  | 0,_,_=>false
  | n+1,i,j=>match ops[i]? with
    | none=>false
    | some o=>NF o j||o.after.any λe=>Region.binds .any e&&KP ops n e.on j
def Bh(ops:Array Oper)(j:Nat):Option Nat:=(ops[j]?).bind (·.dst)
def _root_.Go.Op.idle:Op->Bool
  | .move (.const _)=>true
  | _=>false
theorem Uh{o:Op}(h:o.idle=true):∃v,o=.move (.const v):=by
  unfold Op.idle at h;split at h
  · exact⟨_,Y⟩
  · cases h
def Pk(pu:List Nat)(ops:Array Oper)(np:Nat):Bool:=
  Nat.ble np ops.size&&(pu.all λi=>Nat.blt i ops.size)&&Region.noSelect ops &&
  (range ops.size).all λi=>match ops[i]? with
    | none=>false
    | some o=>backs o i &&
      if i<np then
        ((range np).all λj=>j==i||(match o.dst with|some d=>Bh ops j != some d|none=>true)) &&
        ((o.looksAt ops).all λt=>(range np).all λj=>Bh ops j != some t||(j<i&&NF o j))
      else if pu.contains i then o.dst.isNone&&o.guard.isNone&&o.op.idle else(range i).all λj=>pu.contains j||KP ops ops.size i j
def OPX(P:Program)(o:Oper)(s:AC)(h:Hp)(ms:List Hp)(V:VP):Prop:=
  ∀ρ w,Evs s ρ->St w h ms->OpRes P o ρ w (λu w'=>∃h',h.le h'/\h'.inW w'/\(∀k,k<w.heap.size->h' k=h k)/\Ext w w'/\V h' u)
def AbP(V:VP):Prop:=∀h h' u,Hp.le h h'->V h u->V h' u
def Od(q:List (Nat×VP))(val:Nat->Value):AC:=q.map λp=>(p.1,val p.1)
def Wo(q:List (Nat×VP))(val:Nat->Value)(h:Hp):Prop:=∀d V,(d,V)∈q->V h (val d)
def Wants(ops:Array Oper)(o:Oper)(s:AC)(b:Bool):Prop:=
  match o.guard with
  | none=>b=true
  | some (j,want)=>(∃dj b',Bh ops j=some dj/\lk s dj=some (.bool b')/\b=(b'==want))\/∃dj,Bh ops j=some dj/\lk s dj=some undef/\b=false
def ONB(P:Program)(o:Oper)(s:AC)(h:Hp)(ms:List Hp)(x:Nb):Prop:=
  ∀ρ w,Evs s ρ->St w h ms->OpRes P o ρ w (λu w'=>u=x.2 w.heap.size/\w'=w.alloc (.cells x.1.2.toArray x.1.1))
def StpOK(P:Program)(ops:Array Oper)(h:Hp)(ms:List Hp)(o:Oper)(s:AC)(q:List (Nat×VP)):Og->Prop
  | .inl v=>(Wants ops o s true/\OX P o s h ms v)\/(Wants ops o s true/\∃q',(∀p∈q',p∈q/\p.1∈o.looksAt ops)/\∀h',h.le h'->∀val,Wo q' val h'->OX P o (Od q' val++s) h' ms v)\/(Wants ops o s false/\v=undef)
  | .inr (.inl V)=>Wants ops o s true/\AbP V/\(OPX P o s h ms V\/∃q',(∀p∈q',p∈q/\p.1∈o.looksAt ops)/\∀h',h.le h'->∀val,Wo q' val h'->OPX P o (Od q' val++s) h' ms V)
  | .inr (.inr x)=>Wants ops o s true/\(∃d,o.dst=some d)/\ONB P o s h ms x
def DL:List Oper->List Og->AC->AC
  | o::l,.inl v::p,s=>DL l p (match o.dst with|some d=>(d,v)::s|none=>s)
  | _::l,.inr _::p,s=>DL l p s
  | _,_,s=>s
def DK:List Oper->List Og->List (Nat×VP)
  | o::l,.inr (.inl V)::p=>(match o.dst with|some d=>[(d,V)]|none=>[])++DK l p
  | _::l,_::p=>DK l p
  | _,_=>[]
def Du:List Oper->List Og->List (Nat×Nb)
  | o::l,.inr (.inr x)::p=>(match o.dst with|some d=>[(d,x)]|none=>[])++Du l p
  | _::l,_::p=>Du l p
  | _,_=>[]
def Qh(al:List (Nat×Nb))(γ:Nat->Nat):AC:=al.map λp=>(p.1,p.2.2 (γ p.1))
def PS(al:List (Nat×Nb))(γ:Nat->Nat):List Hp:=al.map λp=>A8 (γ p.1) p.2.1.1 p.2.1.2
def WR(e:Entry)(ops:Array Oper)(Q:Exit->Act->World->Prop)(tl:List Oper)(h:Hp)(ms:List Hp):List Oper->AC->List (Nat×VP)->List (Nat×Nb)->Prop
  | [],s,q,al=>(q=[]/\∀γ,WL e ops Q tl (Qh al γ++s) h (PS al γ++ms))\/∀h',h.le h'->∀val γ,Wo q val h'->WL e ops Q tl (Od q val++(Qh al γ++s)) h' (PS al γ++ms)
  | o::l,s,q,al=>
    (∃v,StpOK e.P ops h ms o s q (.inl v)/\WR e ops Q tl h ms l (match o.dst with|some d=>(d,v)::s|none=>s) q al) ∨
    (∃V,StpOK e.P ops h ms o s q (.inr (.inl V))/\WR e ops Q tl h ms l s (q++match o.dst with|some d=>[(d,V)]|none=>[]) al) ∨
    (∃x,StpOK e.P ops h ms o s q (.inr (.inr x))/\WR e ops Q tl h ms l s q (al++match o.dst with|some d=>[(d,x)]|none=>[]))
def PlanOK(P:Program)(ops:Array Oper)(h:Hp)(ms:List Hp):List Oper->List Og->AC->List (Nat×VP)->Prop
  | [],[],_,_=>True
  | o::l,st::p,s,q=>StpOK P ops h ms o s q st/\PlanOK P ops h ms l p (match st with|.inl v=>(match o.dst with|some d=>(d,v)::s|none=>s)|_=>s) (match st with|.inr (.inl V)=>q++(match o.dst with|some d=>[(d,V)]|none=>[])|_=>q)
  | _,_,_,_=>False
theorem Kq{e:Entry}{ops:Array Oper}{Q:Exit->Act->World->Prop}{tl:List Oper}{h:Hp}{ms:List Hp}:∀(l:List Oper) (s:AC) (q:List (Nat×VP)) (al:List (Nat×Nb)),WR e ops Q tl h ms l s q al →
    ∃pl,pl.length=l.length/\PlanOK e.P ops h ms l pl s q ∧
      ((q++DK l pl=[]/\∀γ,WL e ops Q tl (Qh (al++Du l pl) γ++DL l pl s) h (PS (al++Du l pl) γ++ms)) ∨
        ∀h',h.le h'->∀val γ,Wo (q++DK l pl) val h'->WL e ops Q tl (Od (q++DK l pl) val++(Qh (al++Du l pl) γ++DL l pl s)) h' (PS (al++Du l pl) γ++ms))
  | [],s,q,al,H=>⟨[],rfl,trivial,by simp only[WR]at H;simpa[DK,Du,DL] using H⟩
  | o::l,s,q,al,H=>by
    rcases H with ⟨v,h1,h2⟩|⟨V,h1,h2⟩|⟨x,h1,h2⟩
    · obtain⟨pl,e1,e2,e3⟩:=Kq l _ _ _ h2;exact⟨.inl v::pl,by simp[e1],⟨h1,e2⟩,by simpa[DK,Du,DL] using e3⟩
    · obtain⟨pl,e1,e2,e3⟩:=Kq l _ _ _ h2;exact⟨.inr (.inl V)::pl,by simp[e1],⟨h1,e2⟩,by simpa[DK,Du,DL,bl] using e3⟩
    · obtain⟨pl,e1,e2,e3⟩:=Kq l _ _ _ h2;exact⟨.inr (.inr x)::pl,by simp[e1],⟨h1,e2⟩,by simpa[DK,Du,DL,bl] using e3⟩
theorem PlanOK.get{P:Program}{ops:Array Oper}{h:Hp}{ms:List Hp}:∀(l:List Oper) (pl:List Og) (s:AC) (q:List (Nat×VP)),PlanOK P ops h ms l pl s q →
    ∀i o,l[i]?=some o->∃st,pl[i]?=some st/\StpOK P ops h ms o (DL (l.take i) (pl.take i) s) (q++DK (l.take i) (pl.take i)) st
  | [],[],_,_,_,i,o,e=>by cases e
  | [],_::_,_,_,H,_,_,_=>H.elim
  | _::_,[],_,_,H,_,_,_=>H.elim
  | o::l,st::p,s,q,H,i,o',e=>by
    cases i with
    | zero=>simp at e;subst e;exact⟨st,Y,by simpa[DL,DK] using H.1⟩
    | succ i=>
      obtain⟨st',e1,e2⟩:=PlanOK.get l p _ _ H.2 i o' (by simpa using e);refine⟨st',by simpa using e1,?_⟩;rcases st with v|V|x<;>simpa[DL,DK,bl] using e2
theorem Iw:∀(l:List Oper) (pl:List Og) (s:AC) (t:Nat) (u:Value),lk (DL l pl s) t=some u →
    (∃(j:Nat) (o:Oper),l[j]?=some o/\o.dst=some t/\pl[j]?=some (.inl u))\/lk s t=some u
  | [],_,s,t,u,h=>.inr (by simpa[DL] using h)
  | o::l,[],s,t,u,h=>.inr (by simpa[DL] using h)
  | o::l,.inl v::p,s,t,u,h=>by
    rcases Iw l p _ t u (by simpa[DL] using h) with ⟨j,o',h1,h2,h3⟩|h
    · exact .inl ⟨j+1,o',by simpa using h1,h2,by simpa using h3⟩
    · cases hd:o.dst with
      | none=>simp[hd]at h;exact .inr h
      | some d=>
        simp[hd]at h;by_cases hdt:d=t
        · subst hdt;rw[BB]at h;cases h;exact .inl ⟨0,o,Y,hd,Y⟩
        · rw[By _ _ hdt]at h;exact .inr h
  | o::l,.inr x::p,s,t,u,h=>by
    rcases Iw l p _ t u (by simpa[DL] using h) with ⟨j,o',h1,h2,h3⟩|h
    · exact .inl ⟨j+1,o',by simpa using h1,h2,by simpa using h3⟩
    · exact .inr h
theorem F9:∀(l:List Oper) (pl:List Og) (d:Nat) (V:VP),(d,V)∈DK l pl->∃(j:Nat) (o:Oper),l[j]?=some o/\o.dst=some d/\pl[j]?=some (.inr (.inl V))
  | [],_,d,V,h=>by cases h
  | o::l,[],d,V,h=>by cases h
  | o::l,.inl v::p,d,V,h=>by obtain⟨j,o',h1,h2,h3⟩:=F9 l p d V (by simpa[DK] using h);exact⟨j+1,o',by simpa using h1,h2,by simpa using h3⟩
  | o::l,.inr (.inl W)::p,d,V,h=>by
    simp only[DK,aq]at h;rcases h with h|h
    · cases hd:o.dst with
      | none=>simp[hd]at h
      | some d'=>simp[hd]at h;exact⟨0,o,Y,by rw[hd,h.1],by simp[h.2]⟩
    · obtain⟨j,o',h1,h2,h3⟩:=F9 l p d V h;exact⟨j+1,o',by simpa using h1,h2,by simpa using h3⟩
  | o::l,.inr (.inr x)::p,d,V,h=>by obtain⟨j,o',h1,h2,h3⟩:=F9 l p d V (by simpa[DK] using h);exact⟨j+1,o',by simpa using h1,h2,by simpa using h3⟩
theorem HE:∀(l:List Oper) (pl:List Og) (d:Nat) (x:Nb),(d,x)∈Du l pl->∃(j:Nat) (o:Oper),l[j]?=some o/\o.dst=some d/\pl[j]?=some (.inr (.inr x))
  | [],_,d,V,h=>by cases h
  | o::l,[],d,V,h=>by cases h
  | o::l,.inl v::p,d,V,h=>by obtain⟨j,o',h1,h2,h3⟩:=HE l p d V (by simpa[Du] using h);exact⟨j+1,o',by simpa using h1,h2,by simpa using h3⟩
  | o::l,.inr (.inr W)::p,d,V,h=>by
    simp only[Du,aq]at h;rcases h with h|h
    · cases hd:o.dst with
      | none=>simp[hd]at h
      | some d'=>simp[hd]at h;exact⟨0,o,Y,by rw[hd,h.1],by simp[h.2]⟩
    · obtain⟨j,o',h1,h2,h3⟩:=HE l p d V h;exact⟨j+1,o',by simpa using h1,h2,by simpa using h3⟩
  | o::l,.inr (.inl x)::p,d,V,h=>by obtain⟨j,o',h1,h2,h3⟩:=HE l p d V (by simpa[Du] using h);exact⟨j+1,o',by simpa using h1,h2,by simpa using h3⟩
structure Pre(pu:List Nat)(ops:Array Oper)(np:Nat):Prop where
  le:np<=ops.size
  low:∀i,pu.contains i=true->i<ops.size
  nosel:Region.noSelect ops=true
  backs:∀i o,ops[i]?=some o->∀e∈o.after,Region.binds .any e=true->e.on<i
  uniq:∀i j o d,ops[i]?=some o->i<np->j<np->o.dst=some d->Bh ops j=some d->j=i
  look:∀i o t j,ops[i]?=some o->i<np->t∈o.looksAt ops->j<np->Bh ops j=some t->j<i/\NF o j=true
  tail:∀i j,i<ops.size->np<=i->pu.contains i=false->j<i->pu.contains j=true\/KP ops ops.size i j=true
  zap:∀i o,ops[i]?=some o->np<=i->pu.contains i=true->o.dst=none/\o.guard=none/\∃v,o.op=.move (.const v)
theorem Lo{pu:List Nat}{ops:Array Oper}{np:Nat}(h:Pk pu ops np=true):Pre pu ops np:=by
  simp only[Pk,bj,List.all_eq_true,mem_range]at h;obtain⟨⟨⟨h1,h1'⟩,h2⟩,h3⟩:=h;have at_:∀i o,ops[i]?=some o->i<ops.size:=λi o e=>(Array.getElem?_eq_some_iff.1 e).1;refine⟨br h1,λi hi=>br (h1' i (by simpa using hi)),h2,?_,?_,?_,?_,?_⟩
  · intro i o e ed hed hb;have:=h3 i (at_ i o e);simp only[e,bj]at this;have h4:=Array.all_eq_true_iff_forall_mem.1 this.1 ed hed;simp[hb]at h4;exact h4
  · intro i j o d e hi hj hd hdj;have:=h3 i (at_ i o e);simp only[e,bj,hi,if_true,List.all_eq_true,mem_range,hd]at this;have h4:=this.2.1 j hj;simp[hdj]at h4;exact h4
  · intro i o t j e hi ht hj hd;have:=h3 i (at_ i o e);simp only[e,bj,hi,if_true,List.all_eq_true,mem_range]at this;have h4:=this.2.2 t ht j hj;simp[hd]at h4;exact h4
  · intro i j his hi hpu hj;obtain⟨o,e⟩:∃o,ops[i]?=some o:=⟨ops[i],by simp[his]⟩
    have:=h3 i (at_ i o e);have hni:¬i<np:=ω
    have hpu':¬pu.contains i=true:=by rw[hpu];simp
    simp only[e,bj,aa hni,aa hpu',List.all_eq_true,mem_range]at this;exact Bool.or_eq_true_iff.1 (this.2 j hj)
  · intro i o e hi hpu;have:=h3 i (at_ i o e);have hni:¬i<np:=ω
    simp only[e,bj,aa hni,ab hpu]at this;exact⟨by simpa using this.2.1.1,by simpa using this.2.1.2,Uh this.2.2⟩
theorem Ft{o:Oper}{j:Nat}(h:NF o j=true):∃e∈o.after,Region.binds .any e=true/\e.on=j:=by obtain⟨e,he,hb⟩:=Array.any_eq_true'.1 h;simp at hb;exact⟨e,he,hb.1,hb.2⟩
theorem KA{ops:Array Oper}{listed:Array Bool}{i:Nat}{o:Oper}(hi:ops[i]?=some o)(hr:i∈Region.ready .any ops listed){j:Nat}(h:NF o j=true):listed.getD j false=true:=by obtain⟨_,o',ho',hall⟩:=mem_ready.1 hr;rw[hi]at ho';cases ho';obtain⟨e,he,hb,rfl⟩:=Ft h;exact hall e he hb
def Closed(ops:Array Oper)(listed:Array Bool):Prop:=∀i o,listed.getD i false=true->ops[i]?=some o->∀e∈o.after,Region.binds .any e=true->listed.getD e.on false=true
theorem I7{ops:Array Oper}{listed:Array Bool}(hc:Closed ops listed):∀(n i j:Nat) (o:Oper),ops[i]?=some o->(∀e∈o.after,Region.binds .any e=true->listed.getD e.on false=true)->KP ops n i j=true->listed.getD j false=true
  | 0,_,_,_,_,_,h=>by cases h
  | n+1,i,j,o,ho,hall,h=>by
    simp only[KP,ho,Bool.or_eq_true]at h;rcases h with h|h
    · obtain⟨e,he,hb,rfl⟩:=Ft h;exact hall e he hb
    · obtain⟨e,he,hb⟩:=Array.any_eq_true'.1 h;simp only[bj]at hb;have hl:=hall e he hb.1;cases ho':ops[e.on]? with
      | none=>
        cases n with
        | zero=>cases hb.2
        | succ n=>simp[KP,ho']at hb
      | some o'=>exact I7 hc n e.on j o' ho' (λe' he' hb'=>hc e.on o' hl ho' e' he' hb') hb.2
theorem J2{ops:Array Oper}{listed:Array Bool}(hc:Closed ops listed){n i:Nat}(hr:i∈Region.ready .any ops listed){j:Nat}(h:KP ops n i j=true):listed.getD j false=true:=by obtain⟨_,o,ho,hall⟩:=mem_ready.1 hr;exact I7 hc n i j o ho hall h
theorem Closed.set{ops:Array Oper}{listed:Array Bool}(hc:Closed ops listed){i:Nat}(hr:i∈Region.ready .any ops listed):Closed ops (listed.setIfInBounds i true):=by
  intro k o hk ho e he hb;refine getD_set_true ?_;by_cases hki:i=k
  · subst hki;obtain⟨_,o',ho',hall⟩:=mem_ready.1 hr;rw[ho]at ho';cases ho';exact hall e he hb
  · rw[getD_set_ne false hki]at hk;exact hc k o hk ho e he hb
def left(listed:Array Bool):Nat:=listed.toList.countP (! ·)
theorem QY(l:List Bool)(i:Nat)(h:l[i]?=some false):(l.set i true).countP (! ·)+1=l.countP (! ·):=by
  induction l generalizing i with
  | nil=>cases h
  | cons a l ih=>
    cases i with
    | zero=>simp at h;subst h;simp
    | succ i=>simp at h;simp[List.countP_cons];have:=ih i h;omega
theorem I1{listed:Array Bool}{i:Nat}(h:listed[i]?=some false):left (listed.setIfInBounds i true)+1=left listed:=by unfold left;rw[Array.toList_setIfInBounds];exact QY _ _ (by simpa using h)
theorem JF{listed:Array Bool}(h:left listed=0)(i:Nat):listed.getD i true=true:=by
  unfold left at h;rw[List.countP_eq_zero]at h;rw[bc];cases e:listed[i]? with
  | none=>rfl
  | some b=>
    have:=h b (by rw[Array.mem_toList_iff];exact Array.mem_of_getElem? e);simpa using this
theorem Bl{listed:Array Bool}{i:Nat}(h:listed.getD i true=false):listed[i]?=some false:=by
  rw[bc]at h;cases e:listed[i]? with
  | none=>rw[e]at h;cases h
  | some b=>rw[e]at h;simp at h;rw[h]
theorem XB{P:Program}{pu:List Nat}{ops:Array Oper}{Q:Exit->Act->World->Prop}{np:Nat}(hp:Pre pu ops np):∀(l:List Oper) (k fuel:Nat) (listed:Array Bool) (a:Act) (w:World),
    ops.toList.drop k=l->np<=k->Closed ops listed->listed.size=ops.size->(∀j,j<ops.size->(listed.getD j false=true<->(j<k\/pu.contains j=true)))->left listed<=fuel->wpList P ops Q l a w->wpAny P .any ops Q fuel listed a w:=by
  intro l
  induction l with
  | nil=>
    intro k fuel listed a w hl hk hc hs hlist hf h;have hk':ops.size<=k:=by simpa using List.drop_eq_nil_iff.1 hl
    refine wpAny_done ?_ h fuel;cases hr:Region.ready .any ops listed with
    | nil=>rfl
    | cons x xs=>
      have hx:x∈Region.ready .any ops listed:=by rw[hr];exact bi
      obtain⟨h0,o,ho,_⟩:=mem_ready.1 hx;have hlt:=(Array.getElem?_eq_some_iff.1 ho).1;have:=(hlist x hlt).2 (.inl ω);have h2:=Bl h0;rw[bc,h2]at this;cases this
  | cons o l ih=>
    intro k fuel listed a w hl hk hc hs hlist hf h
    have hko:ops[k]?=some o:=by
      have:(ops.toList.drop k)[0]?=some o:=by rw[hl];rfl
      simpa using this
    have hklt:k<ops.size:=(Array.getElem?_eq_some_iff.1 hko).1;by_cases hkpu:pu.contains k=true
    · obtain⟨z1,z2,v,z3⟩:=hp.zap k o hko hk hkpu;refine ih (k+1) fuel listed a w (by rw[<-drop_drop,hl];rfl) ω hc hs (λj hj=>?_) hf ?_
      · rw[hlist j hj];constructor
        · rintro(h1|h1)
          · exact .inl ω
          · exact .inr h1
        · rintro(h1|h1)
          · by_cases hjk:j=k
            · subst hjk;exact .inr hkpu
            · exact .inl ω
          · exact .inr h1
      · unfold wpList at h;rw[ab (by simp[Region.wanted,z2])]at h;have hrun:(execOp a.eval o).run P w=.ok (.value v) w:=by simp[execOp,z3,Act.eval]
        rcases h with h|h
        · unfold Oper.wp at h;rw[hrun]at h;simp only[Oper.upon,z1,Act.put]at h;exact h
        · have h1:=h.1.1;have e1:execOp a.eval o=(pure (Next.value v):Sem Next):=by simp only[execOp,z3,Act.eval]
          rw[e1]at h1;have e2:(Sem.runT P (pure (Next.value v):Sem Next) w #[]).2=#[]:=rfl;rw[e2]at h1;exact absurd h1 (by simp)
    have hkpu':pu.contains k=false:=by simpa using hkpu
    have hkf:listed[k]?=some false:=by
      have hlt:k<listed.size:=ω
      cases e:listed[k] with
      | false=>simp[hlt,e]
      | true=>
        have:=(hlist k hklt).1 (by rw[bc];simp[hlt,e]);rcases this with h1|h1
        · omega
        · exact absurd h1 hkpu
    have hl1:=I1 hkf;cases fuel with
    | zero=>omega
    | succ fuel=>
      have hready:∀j∈Region.ready .any ops listed,j=k:=by
        intro j hj;obtain⟨h0,o',ho',_⟩:=mem_ready.1 hj;have hjlt:=(Array.getElem?_eq_some_iff.1 ho').1
        have hjn:¬(j<k\/pu.contains j=true):=λhc=>by have:=(hlist j hjlt).2 hc;rw[bc,Bl h0]at this;cases this
        have hjk:¬j<k:=λhc=>hjn (.inl hc)
        have hjpu:pu.contains j=false:=by
          cases e:pu.contains j with
          | false=>rfl
          | true=>exact absurd (.inr e) hjn
        by_cases hjk':j=k
        · exact hjk'
        · have:=J2 hc hj ((hp.tail j k hjlt ω hjpu ω).resolve_left hkpu);rw[bc,hkf]at this;cases this
      have hkr:k∈Region.ready .any ops listed:=mem_ready.2 ⟨by rw[bc,hkf];rfl,o,hko,λe he hb=>(hlist e.on (by have:=hp.backs k o hko e he hb;omega)).2 (.inl (hp.backs k o hko e he hb))⟩;refine⟨λh0=>(by rw[h0]at hkr;cases hkr),λj hj=>?_⟩;obtain rfl:=hready j hj
      have hnext:∀a w,wpList P ops Q l a w->wpAny P .any ops Q fuel (listed.setIfInBounds j true) a w:=λa w hw=>by
        refine ih (j+1) fuel _ a w ?_ ω (hc.set hkr) (by simpa using hs) ?_ ω hw
        · rw[<-drop_drop,hl];rfl
        · intro i hi;by_cases hij:i=j
          · subst hij;have:i<listed.size:=ω
            simp[bc,this]
          · rw[bc,Array.getElem?_setIfInBounds_ne (Ne.symm hij),<-bc,hlist i hi];constructor
            · rintro(h1|h1)
              · exact .inl ω
              · exact .inr h1
            · rintro(h1|h1)
              · exact .inl ω
              · exact .inr h1
      unfold wpOp;simp only[hko];unfold wpList at h;split
      · rename_i hw;rw[ab hw]at h;exact h.imp (Oper.wp_mono hnext) id
      · rename_i hw;rw[aa hw]at h;exact hnext _ _ h
def Dy(pl:List Og)(dst:Nat->Option Nat)(γ:Nat->Nat)(j:Nat):List Hp:=
  match pl[j]?,dst j with
  | some (.inr (.inr x)),some d=>[A8 (γ d) x.1.1 x.1.2]
  | _,_=>[]
def Rel(h:Hp)(γ:Nat->Nat)(d:Nat)(u:Value):Og->Prop
  | .inl v=>u=v
  | .inr (.inl V)=>AbP V/\V h u
  | .inr (.inr x)=>u=x.2 (γ d)
structure Mid(e:Entry)(pu:List Nat)(ops:Array Oper)(np:Nat)(pl:List Og)(s0:AC)(h0:Hp)(ms:List Hp)(listed:Array Bool)(a:Act)(w:World)(h:Hp)(γ:Nat->Nat):Prop where
  le:h0.le h
  ends:e.Ends w h (((range np).flatMap λj=>if listed.getD j false then Dy pl (Bh ops) γ j else [])++ms)
  defers:a.defers=mkD e.ds
  size:a.tmps.size=e.n
  old:∀t u,lk s0 t=some u->(∀j,j<np->Bh ops j≠some t)->a.tmps[t]?=some u
  new:∀j,j<np->listed.getD j false=true->∀d,Bh ops j=some d->∃u st,a.tmps[d]?=some u/\pl[j]?=some st/\Rel h γ d u st
  later:∀j,np<=j->listed.getD j false=pu.contains j
  lsize:listed.size=ops.size
  closed:Closed ops listed
  pure:∀j,pu.contains j=true->listed.getD j false=true
theorem Cs(a s:AC)(t:Nat):lk (a++s) t=(lk a t).or (lk s t):=by
  induction a with
  | nil=>simp[lk]
  | cons p a ih=>
    obtain⟨i,v⟩:=p;by_cases hi:i=t
    · subst hi;rw[bh,BB,BB];rfl
    · rw[bh,By _ _ hi,By _ _ hi,ih]
theorem Nz:∀(s:AC) (t:Nat) (u:Value),lk s t=some u->(t,u)∈s
  | (i,v)::s,t,u,h=>by
    by_cases hi:i=t
    · subst hi;rw[BB]at h;cases h;exact bi
    · rw[By _ _ hi]at h;exact au _ (Nz s t u h)
theorem Ends.grow{w0 w w':World}{h0 h h1 h1':Hp}{ms0 ms:List Hp}(H:Ends w0 h0 ms0 w h ms)(hl:h1.le h)(hl':h1.le h1')(hin:h1'.inW w')(hold:∀k,k<w.heap.size->h1' k=h1 k)(he:Ext w w') :
    h.le (h.join h1')/\h1'.le (h.join h1')/\Ends w0 h0 ms0 w' (h.join h1') ms:=by
  have H':=H.ext he
  have e1:∀k,k<w.heap.size->(h.join h1') k=h k:=λk hk=>by
    unfold Hp.join;cases e:h k with
    | some o=>rfl
    | none=>
      simp only;rw[hold k hk];cases e2:h1 k with
      | none=>rfl
      | some o=>rw[hl k o e2]at e;cases e
  refine⟨Hp.le_join _ _,?_,⟨⟨?_,H'.st.own,?_,H'.st.apart⟩,H'.os,H'.tape,H'.output,H'.size,H'.block,Hp.le_trans H'.le (Hp.le_join _ _),?_,H'.mnew⟩⟩
  · intro k o e;rcases Nat.lt_or_ge k w.heap.size with hk|hk
    · rw[e1 k hk];rw[hold k hk]at e;exact hl k o e
    · have:h k=none:=Hp.inW_none H.st.imm hk;simp[Hp.join,this,e]
  · intro k o e;unfold Hp.join at e;split at e
    · rename_i o' e';cases e;exact H'.st.imm k _ e'
    · exact hin k o e
  · intro m hm k;cases e:m k with
    | none=>exact .inl Y
    | some o=>
      right
      have hk:k<w.heap.size:=Hp.inW_lt (H.st.own m hm) e;rw[e1 k hk];rcases H.st.off m hm k with e2|e2
      · rw[e2]at e;cases e
      · exact e2
  · intro k hk hm;rw[e1 k (Nat.lt_of_lt_of_le hk H.size)];exact H.hnew k hk hm
theorem St.weaken{w:World}{h h1:Hp}{ms ms1:List Hp}(s:St w h ms)(hl:h1.le h)(hm:ms1.Sublist ms):St w h1 ms1:=
  ⟨λg o e=>s.imm g o (hl g o e),λm h'=>s.own m (hm.subset h'),λm h' k=>by
    rcases s.off m (hm.subset h') k with e|e
    · exact .inl e
    · right
      cases e2:h1 k with
      | none=>rfl
      | some o=>(rw[hl k o e2]at e;cases e),s.apart.sublist hm⟩
theorem Ends.back{w0 w w1:World}{h0 h h1:Hp}{ms0 ms ms1:List Hp}(H:Ends w0 h0 ms0 w h ms)(H1:Ends w0 h0 ms0 w1 h1 ms1)(hl:h1.le h):Ends w0 h0 ms0 w h1 ms:=
  ⟨H.st.weaken hl (List.Sublist.refl _),H.os,H.tape,H.output,H.size,H.block,H1.le,H1.hnew,H.mnew⟩
theorem OpRes.congr{P:Program}{o:Oper}{ρ ρ':Operand->Value}{w:World}{Φ:Value->World->Prop}(hs:∀cs b,o.op≠.select cs b)(h:∀x∈o.op.operands,ρ x=ρ' x)(k:OpRes P o ρ w Φ):OpRes P o ρ' w Φ:=by unfold OpRes at *;rwa [<-execOp_congr o hs h]
theorem Act.eval_of_slot{a:Act}{t:Nat}{u:Value}(h:a.tmps[t]?=some u):a.eval (.tmp t)=u:=by simp only[Act.eval];rw[bc,h];rfl
theorem OpRes.looks{P:Program}{ops:Array Oper}{o:Oper}{a:Act}{w:World}{s:AC}{Φ:Value->World->Prop}(hs:∀cs b,o.op≠.select cs b)(hl:∀t∈o.looksAt ops,∀u,lk s t=some u->a.tmps[t]?=some u)
    (k:∀ρ,Evs s ρ->OpRes P o ρ w Φ):OpRes P o a.eval w Φ:=by
  classical
  refine OpRes.congr (ρ:=λx=>if x∈o.op.operands then a.eval x else(ev s x).getD undef) hs (λx hx=>ab hx) (k _ λx u hu=>?_);show(if x∈o.op.operands then a.eval x else(ev s x).getD undef)=u;split
  · rename_i hx;cases x with
    | tmp t=>
      refine Act.eval_of_slot (hl t ?_ u hu);exact mem_append_left _ (List.mem_filterMap.2 ⟨.tmp t,by simpa using hx,rfl⟩)
    | const v=>cases hu;rfl
    | global g=>cases hu;rfl
    | func f=>cases hu;rfl
  · rw[hu];rfl
theorem JV{α:Type}(x:α)(f f':Nat->List α)(i:Nat):∀(l:List Nat),l.Nodup->i∈l->(∀j∈l,j≠i->f' j=f j)->f i=[]->f' i=[x]->(x::l.flatMap f).Perm (l.flatMap f')
  | [],_,h,_,_,_=>by cases h
  | j::l,hn,hi,ho,e1,e2=>by
    simp only[flatMap_cons];by_cases hj:j=i
    · subst hj;rw[e1,e2];have hnot:j ∉ l:=(dh.1 hn).1
      have:l.flatMap f'=l.flatMap f:=by
        have:∀(l':List Nat),(∀k∈l',k≠j/\k∈j::l)->l'.flatMap f'=l'.flatMap f:=by
          intro l'
          induction l' with
          | nil=>intro _;rfl
          | cons k l' ih=>intro hk;simp only[flatMap_cons];rw[ho k (hk k (by simp)).2 (hk k (by simp)).1,ih λk' hk'=>hk k' (au _ hk')]
        exact this l λk hk=>⟨λe=>hnot (e ▸ hk),au _ hk⟩
      rw[this];exact List.Perm.refl _
    · rw[ho j (by simp) hj];have hil:i∈l:=(aj.1 hi).resolve_left (λe=>hj e.symm);have:=JV x f f' i l (dh.1 hn).2 hil (λk hk hne=>ho k (au _ hk) hne) e1 e2;exact(List.perm_middle.symm).trans (List.Perm.append_left _ this)
theorem Fj{α:Type}(f f':Nat->List α):∀(l:List Nat),(∀j∈l,f' j=f j)->l.flatMap f'=l.flatMap f
  | [],_=>rfl
  | j::l,h=>by simp only[flatMap_cons];rw[h j (by simp),Fj f f' l λk hk=>h k (au _ hk)]
theorem Tb(γ:Nat->Nat):∀(l:List Oper) (pl:List Og),pl.length=l.length →
    (range l.length).flatMap (λj=>Dy pl (λj=>(l[j]?).bind (·.dst)) γ j)=PS (Du l pl) γ
  | [],[],_=>rfl
  | o::l,st::pl,h=>by
    have ih:=Tb γ l pl (by simpa using h);rw[List.length_cons,List.range_succ_eq_map,flatMap_cons,List.flatMap_map]
    have ih':(range l.length).flatMap (λa=>Dy (st::pl) (λj=>((o::l)[j]?).bind (·.dst)) γ (Nat.succ a))=PS (Du l pl) γ:=by rw[<-ih];refine Fj _ _ _ λj _=>?_;simp[Dy]
    rw[ih'];rcases st with v|V|x
    · simp[Du,Dy]
    · simp[Du,Dy]
    · cases hd:o.dst with
      | none=>simp[Du,hd,Dy]
      | some d=>simp[Du,hd,PS,Dy]
section sound
variable {e:Entry} {pu:List Nat} {ops:Array Oper} {np:Nat} {pl:List Og} {s0:AC} {h0:Hp} {ms:List Hp} {listed:Array Bool} {a:Act} {w:World} {h:Hp} {γ:Nat->Nat}
theorem Mid.look(M:Mid e pu ops np pl s0 h0 ms listed a w h γ)(hp:Pre pu ops np)(hlen:pl.length=np)(hf:∀j,j<np->∀d,Bh ops j=some d->lk s0 d=none){i:Nat}{o:Oper}(hi:ops[i]?=some o)(hin:i<np)(hr:i∈Region.ready .any ops listed){t:Nat}(ht:t∈o.looksAt ops){u:Value}
    (hu:lk (DL (ops.toList.take i) (pl.take i) s0) t=some u):a.tmps[t]?=some u:=by
  rcases Iw _ _ _ _ _ hu with ⟨j,o',h1,h2,h3⟩|h1
  · have hji:j<i:=by
      have:=(List.getElem?_eq_some_iff.1 h1).1;simp at this;omega
    have hoj:ops[j]?=some o':=by rw[List.getElem?_take,ab hji]at h1;simpa using h1
    have hplj:pl[j]?=some (.inl u):=by rw[List.getElem?_take,ab hji]at h3;exact h3
    have hd:Bh ops j=some t:=by simp[Bh,hoj,h2]
    obtain⟨_,hed⟩:=hp.look i o t j hi hin ht ω hd;obtain⟨u',st,e1,e2,e3⟩:=M.new j ω (KA hi hr hed) t hd;rw[hplj]at e2;cases e2;simp only[Rel]at e3;rw[e1,e3]
  · exact M.old t u h1 λj hj hd=>by rw[hf j hj t hd]at h1;cases h1
theorem Mid.lookQ(M:Mid e pu ops np pl s0 h0 ms listed a w h γ)(hp:Pre pu ops np){i:Nat}{o:Oper}(hi:ops[i]?=some o)(hin:i<np)(hr:i∈Region.ready .any ops listed){d:Nat}{V:VP}(hd:d∈o.looksAt ops)(hq:(d,V)∈DK (ops.toList.take i) (pl.take i)) :
    ∃u,a.tmps[d]?=some u/\V h u:=by
  obtain⟨j,o',h1,h2,h3⟩:=F9 _ _ _ _ hq
  have hji:j<i:=by have:=(List.getElem?_eq_some_iff.1 h1).1;simp at this;omega
  have hoj:ops[j]?=some o':=by rw[List.getElem?_take,ab hji]at h1;simpa using h1
  have hplj:pl[j]?=some (.inr (.inl V)):=by rw[List.getElem?_take,ab hji]at h3;exact h3
  have hdj:Bh ops j=some d:=by simp[Bh,hoj,h2]
  obtain⟨_,hed⟩:=hp.look i o d j hi hin hd ω hdj;obtain⟨u',st,e1,e2,e3⟩:=M.new j ω (KA hi hr hed) d hdj;rw[hplj]at e2;cases e2;exact⟨u',e1,e3.2⟩
theorem Rel.le{h h':Hp}{γ:Nat->Nat}{d:Nat}{u:Value}{st:Og}(hl:h.le h')(r:Rel h γ d u st):Rel h' γ d u st:=by
  rcases st with v|V|x
  · exact r
  · exact⟨r.1,r.1 _ _ _ hl r.2⟩
  · exact r
theorem Mid.next(M:Mid e pu ops np pl s0 h0 ms listed a w h γ)(hp:Pre pu ops np)(hlen:pl.length=np){i:Nat}{o:Oper}(hi:ops[i]?=some o)(hin:i<np)(hr:i∈Region.ready .any ops listed)(hun:listed.getD i true=false)(hbig:∀d,o.dst=some d->d<e.n){st:Og}(hst:pl[i]?=some st){u:Value}{w':World}{h':Hp}{γ':Nat->Nat}
    (hl:h.le h') (hγ:∀d,o.dst≠some d->γ' d=γ d) (hγ0:(∀x,st≠.inr (.inr x))->γ'=γ) (hR:∀d,o.dst=some d->Rel h' γ' d u st)
    (hE:e.Ends w' h' (Dy pl (Bh ops) γ' i++(((range np).flatMap λj=>if listed.getD j false then Dy pl (Bh ops) γ j else [])++ms))) :
    Mid e pu ops np pl s0 h0 ms (listed.setIfInBounds i true) (a.put o.dst u) w' h' γ':=by
  have hilt:i<listed.size:=by rw[M.lsize];exact(Array.getElem?_eq_some_iff.1 hi).1
  have hdi:Bh ops i=o.dst:=by simp[Bh,hi]
  have hset:∀j d,(listed.setIfInBounds i true).getD j d=if j=i then true else listed.getD j d:=λj d=>by
    by_cases hj:j=i
    · subst hj;simp[hilt]
    · rw[getD_set_ne d (Ne.symm hj)];simp[hj]
  have hli:listed.getD i false=false:=by rw[bc,Bl hun];rfl
  have hresj:∀j,j≠i->j<np->Dy pl (Bh ops) γ' j=Dy pl (Bh ops) γ j:=λj hj hjn=>by
    unfold Dy;split
    · rename_i x d e1 e2;rw[hγ d (λe3=>hj (hp.uniq i j o d hi hin hjn e3 e2))]
    · rfl
  refine⟨Hp.le_trans M.le hl,?_,by cases hd:o.dst<;>exact M.defers,?_,?_,?_,?_,by simpa using M.lsize,M.closed.set hr,λj hj=>getD_set_true (M.pure j hj)⟩
  · -- resources
    cases hr:Dy pl (Bh ops) γ' i with
    | nil=>
      rw[hr,av]at hE;refine Ends.perm hE (List.Perm.of_eq ?_);congr 1;refine(Fj _ _ _ λj hj=>?_).symm;rw[hset];by_cases hji:j=i
      · subst hji;simp[hli,hr]
      · simp only[hji,if_false];split
        · exact hresj j hji (by simpa using hj)
        · rfl
    | cons x xs=>
      have hx:xs=[]:=by
        unfold Dy at hr;split at hr
        · simp at hr;exact hr.2
        · cases hr
      subst hx;rw[hr,List.singleton_append,<-bh]at hE;refine Ends.perm hE (List.Perm.append_right _ ?_);refine JV x _ _ i _ List.nodup_range (by simpa using hin) ?_ (by simp[hli]) (by rw[hset];simp[hr]);intro j hj hji;rw[hset];simp only[hji,if_false];split
      · exact hresj j hji (by simpa using hj)
      · rfl
  · cases hd:o.dst<;>simp[Act.put,M.size]
  · intro t v hv hno;have hne:o.dst≠some t:=by rw[<-hdi];exact hno i hin
    cases hd:o.dst with
    | none=>exact M.old t v hv hno
    | some d=>
      have:d≠t:=λe=>hne (by rw[hd,e]);simp[Act.put,Array.getElem?_setIfInBounds_ne this,M.old t v hv hno]
  · intro j hj hlj d hd;by_cases hji:j=i
    · subst hji;rw[hdi]at hd;refine⟨u,st,?_,hst,hR d hd⟩;rw[hd];simp[Act.put,M.size,hbig d hd]
    · rw[hset]at hlj;simp only[hji,if_false]at hlj;obtain⟨u',st',e1,e2,e3⟩:=M.new j hj hlj d hd;have hne:o.dst≠some d:=λe'=>hji (hp.uniq i j o d hi hin hj e' hd);refine⟨u',st',?_,e2,?_⟩
      · cases hd':o.dst with
        | none=>exact e1
        | some d'=>
          have:d'≠d:=λe=>hne (by rw[hd',e]);simp[Act.put,Array.getElem?_setIfInBounds_ne this,e1]
      · have:=Rel.le hl e3;rcases st' with v|V|x
        · exact this
        · exact this
        · simp only[Rel]at this ⊢;rw[hγ d hne];exact this
  · intro j hj;rw[hset];have:j≠i:=ω
    simp only[this,if_false];exact M.later j hj
theorem FE{s:AC}{o:Oper}{b:Bool}(hl:∀t∈o.looksAt ops,∀u,lk s t=some u->a.tmps[t]?=some u)(h:Wants ops o s b):Region.wanted o (yielded ops a.tmps)=b:=by
  unfold Wants at h;unfold Region.wanted;cases hg:o.guard with
  | none=>simp only[hg]at h;simp[h]
  | some p=>
    obtain⟨j,want⟩:=p;simp only[hg]at h
    have hlk:∀dj u,Bh ops j=some dj->lk s dj=some u->a.tmps[dj]?=some u:=λdj u e1 e2=>by refine hl dj ?_ _ e2;unfold Oper.looksAt;refine mem_append_right _ ?_;simp only[hg];unfold Bh at e1;rw[e1];simp
    rcases h with ⟨dj,b',e1,e2,e3⟩|⟨dj,e1,e2,e3⟩
    rotate_left
    · have h1:=hlk dj _ e1 e2
      have hy:yielded ops a.tmps j=none:=by unfold yielded;unfold Bh at e1;rw[e1];simp[h1,undef]
      simp only[hy,e3];rfl
    have h1:a.tmps[dj]?=some (.bool b'):=hlk dj _ e1 e2
    have hy:yielded ops a.tmps j=some b':=by unfold yielded;unfold Bh at e1;rw[e1];simp[h1]
    simp only[hy,e3];cases b'<;>cases want<;>rfl
theorem Mid.step(M:Mid e pu ops np pl s0 h0 ms listed a w h γ)(hp:Pre pu ops np)(hlen:pl.length=np)(hf:∀j,j<np->∀d,Bh ops j=some d->lk s0 d=none)(hbig:∀j,j<np->∀d,Bh ops j=some d->d<e.n){i:Nat}{o:Oper}(hi:ops[i]?=some o)(hin:i<np)(hr:i∈Region.ready .any ops listed)
    {st:Og} (hst:pl[i]?=some st) (hok:StpOK e.P ops h0 ms o (DL (ops.toList.take i) (pl.take i) s0) (DK (ops.toList.take i) (pl.take i)) st) {Q:Exit->Act->World->Prop} {K:Act->World->Prop}
    (hK:∀a' w' h' γ',Mid e pu ops np pl s0 h0 ms (listed.setIfInBounds i true) a' w' h' γ'->K a' w'):wpOp e.P ops Q i K a w:=by
  have hun:=(mem_ready.1 hr).1;have hdi:Bh ops i=o.dst:=by simp[Bh,hi]
  have hbig':∀d,o.dst=some d->d<e.n:=λd hd=>hbig i hin d (by rw[hdi,hd]);have hlook:=λ(t:Nat) (ht:t∈o.looksAt ops) (u:Value) hu=>M.look hp hlen hf hi hin hr ht (u:=u) hu;have hsel:∀cs b,o.op≠.select cs b:=λcs b=>Region.noSelect_spec hp.nosel i o cs b hi;have hst0:St w h0 ms:=M.ends.st.weaken M.le (List.sublist_append_right _ _);have hsth:St w h ms:=M.ends.st.weaken (Hp.le_refl _) (List.sublist_append_right _ _);unfold wpOp;simp only[hi]
  have hresX:(∀x,st≠.inr (.inr x))->Dy pl (Bh ops) γ i=[]:=λhne=>by
    unfold Dy;rw[hst];rcases st with v|V|x
    · rfl
    · rfl
    · exact absurd Y (hne x)
  have hvalQ:∀q',(∀p∈q',p∈DK (ops.toList.take i) (pl.take i)/\p.1∈o.looksAt ops)->Wo q' (λd=>(a.tmps[d]?).getD undef) h/\∀t∈o.looksAt ops,∀u,lk (Od q' (λd=>(a.tmps[d]?).getD undef)++DL (ops.toList.take i) (pl.take i) s0) t=some u->a.tmps[t]?=some u:=λq' hq'=>by
    refine⟨λd V hdV=>?_,λt ht u hu=>?_⟩
    · obtain⟨h1,h2⟩:=hq' _ hdV;obtain⟨u,e1,e2⟩:=M.lookQ hp hi hin hr h2 h1;simp only[e1];exact e2
    · rw[Cs]at hu;cases hq:lk (Od q' λd=>(a.tmps[d]?).getD undef) t with
      | none=>rw[hq]at hu;exact hlook t ht u hu
      | some u'=>
        rw[hq]at hu;cases hu;have hm:=Nz _ _ _ hq;unfold Od at hm;obtain⟨p,hp',e1⟩:=ai.1 hm;obtain⟨d,V⟩:=p;simp only[Prod.mk.injEq]at e1;obtain⟨rfl,rfl⟩:=e1;obtain⟨h1,h2⟩:=hq' _ hp';obtain⟨u,e1,e2⟩:=M.lookQ hp hi hin hr h2 h1;simp[e1]
  -- an exact value,or none
  have exact_:∀v,st=.inl v->∀w',Ext w w'->K (a.put o.dst v) w':=λv hv w' he=>by subst hv;refine hK _ _ h γ (M.next hp hlen hi hin hr hun hbig' hst (Hp.le_refl _) (λ_ _=>rfl) (λ_=>rfl) (λd _=>rfl) ?_);rw[hresX (λx hx=>by cases hx),av];exact Ends.ext M.ends he
  rcases st with v|V|x
  · rcases hok with ⟨hw,hx⟩|⟨hw,q',hq',hx⟩|⟨hw,rfl⟩
    · rw[FE hlook hw,ab rfl];exact .inl ((OpRes.looks hsel hlook λρ hρ=>hx ρ w hρ hst0).wp λv' w' ⟨e1,e2⟩=>by subst e1;exact exact_ _ Y w' e2)
    · rw[FE hlook hw,ab rfl];obtain⟨hsat,hlook'⟩:=hvalQ q' hq';exact .inl ((OpRes.looks hsel hlook' λρ hρ=>hx h M.le _ hsat ρ w hρ hsth).wp λv' w' ⟨e1,e2⟩=>by subst e1;exact exact_ _ Y w' e2)
    · rw[FE hlook hw,aa (by simp)];exact exact_ _ Y w (Ext.refl _)
  · obtain⟨hw,hmono,hx⟩:=hok;rw[FE hlook hw,ab rfl]
    have fin:∀(h1:Hp) (u:Value) (w':World),h1.le h->(∃h':Hp,h1.le h'/\h'.inW w'/\(∀k,k<w.heap.size->h' k=h1 k)/\Ext w w'/\V h' u)->K (a.put o.dst u) w':=λh1 u w' hl ⟨h',g1,g2,g3,g4,g5⟩=>by obtain⟨l1,l2,E⟩:=Ends.grow M.ends hl g1 g2 g3 g4;refine hK _ _ _ γ (M.next hp hlen hi hin hr hun hbig' hst l1 (λ_ _=>rfl) (λ_=>rfl) (λd _=>⟨hmono,hmono _ _ _ l2 g5⟩) ?_);rw[hresX (λx hx=>by cases hx),av];exact E
    rcases hx with hx|⟨q',hq',hx⟩
    · exact .inl ((OpRes.looks hsel hlook λρ hρ=>hx ρ w hρ hst0).wp λu w' hh=>fin h0 u w' M.le hh)
    · obtain⟨hsat,hlook'⟩:=hvalQ q' hq';exact .inl ((OpRes.looks hsel hlook' λρ hρ=>hx h M.le _ hsat ρ w hρ hsth).wp λu w' hh=>fin h u w' (Hp.le_refl _) hh)
  · obtain⟨hw,⟨d,hd⟩,hx⟩:=hok;rw[FE hlook hw,ab rfl];refine .inl ((OpRes.looks hsel hlook λρ hρ=>hx ρ w hρ hst0).wp λu w' ⟨e1,e2⟩=>?_);subst e1 e2;refine hK _ _ h (λy=>if y=d then w.heap.size else γ y) (M.next hp hlen hi hin hr hun hbig' hst (Hp.le_refl _) (λy hy=>?_) (λhne=>absurd Y (hne _)) (λy hy=>?_) ?_)
    · have:y≠d:=λe=>hy (by rw[hd,e]);simp[this]
    · rw[hd]at hy;cases hy;simp[Rel]
    · have hres:Dy pl (Bh ops) (λy=>if y=d then w.heap.size else γ y) i=[A8 w.heap.size x.1.1 x.1.2]:=by
        unfold Dy;rw[hst,hdi,hd];simp
      rw[hres,List.singleton_append];exact Ends.alloc M.ends _
theorem Mid.any(hp:Pre pu ops np)(hlen:pl.length=np)(hf:∀j,j<np->∀d,Bh ops j=some d->lk s0 d=none)(hbig:∀j,j<np->∀d,Bh ops j=some d->d<e.n)
    (hplan:∀i o,i<np->ops[i]?=some o->∃st,pl[i]?=some st/\StpOK e.P ops h0 ms o (DL (ops.toList.take i) (pl.take i) s0) (DK (ops.toList.take i) (pl.take i)) st) {Q:Exit->Act->World->Prop}
    (hend:∀listed a w h γ,Mid e pu ops np pl s0 h0 ms listed a w h γ->(∀j,j<np->listed.getD j false=true)->wpList e.P ops Q (ops.toList.drop np) a w) :
    ∀fuel listed a w h γ,Mid e pu ops np pl s0 h0 ms listed a w h γ->left listed<=fuel->wpAny e.P .any ops Q fuel listed a w:=by
  have alldone:∀fuel listed a w h γ,Mid e pu ops np pl s0 h0 ms listed a w h γ->left listed<=fuel->(∀j,j<np->listed.getD j false=true)->wpAny e.P .any ops Q fuel listed a w:=by
    intro fuel listed a w h γ M hle hall;refine XB hp _ np fuel listed a w Y (ay _) M.closed M.lsize (λj hj=>⟨λh1=>?_,λh1=>h1.elim (hall j) (M.pure j)⟩) hle (hend _ _ _ _ _ M hall);rcases Nat.lt_or_ge j np with h2|h2
    · exact .inl h2
    · rw[M.later j h2]at h1;exact .inr h1
  intro fuel
  induction fuel with
  | zero=>
    intro listed a w h γ M hle;refine alldone 0 listed a w h γ M hle λj hj=>?_;have h1:=JF (show left listed=0 by omega) j;have hjlt:j<listed.size:=by rw[M.lsize];exact Nat.lt_of_lt_of_le hj hp.le
    rw[bc]at h1 ⊢;simp[hjlt]at h1 ⊢;exact h1
  | succ fuel ih=>
    intro listed a w h γ M hle;by_cases hall:∀j,j<np->listed.getD j false=true
    · exact alldone _ listed a w h γ M hle hall
    · -- the least that is left is ready
      have hex:∃j,j<np/\listed.getD j false=false:=by
        apply ax;intro hne
        exact hall λj hj=>by
          cases hl:listed.getD j false with
          | true=>rfl
          | false=>exact absurd ⟨j,hj,hl⟩ hne
      obtain⟨k,hk,hkl,hmin⟩:∃k,k<np/\listed.getD k false=false/\∀j,j<k->listed.getD j false=true:=by
        obtain⟨j,hj,hl⟩:=hex
        have:∀n j,j<=n->j<np->listed.getD j false=false->∃k,k<np/\listed.getD k false=false/\∀i,i<k->listed.getD i false=true:=by
          intro n
          induction n with
          | zero=>intro j hjn hj hl;exact⟨j,hj,hl,λi hi=>ω⟩
          | succ n ihn=>
            intro j hjn hj hl;by_cases hc:∃i,i<j/\listed.getD i false=false
            · obtain⟨i,hi,hil⟩:=hc;exact ihn i ω ω hil
            · refine⟨j,hj,hl,λi hi=>?_⟩;cases hil:listed.getD i false with
              | true=>rfl
              | false=>exact absurd ⟨i,hi,hil⟩ hc
        exact this j j (ay _) hj hl
      have hko:∃o,ops[k]?=some o:=⟨ops[k]'(Nat.lt_of_lt_of_le hk hp.le),by simp[Nat.lt_of_lt_of_le hk hp.le]⟩
      obtain⟨ok,hko⟩:=hko
      have hkr:k∈Region.ready .any ops listed:=by
        refine mem_ready.2 ⟨?_,ok,hko,λed hed hb=>hmin _ (hp.backs k ok hko ed hed hb)⟩;have hklt:k<listed.size:=by rw[M.lsize];exact Nat.lt_of_lt_of_le hk hp.le
        rw[bc]at hkl ⊢;simp[hklt]at hkl ⊢;exact hkl
      refine⟨λh0'=>(by rw[h0']at hkr;cases hkr),λi hir=>?_⟩;obtain⟨hun,o,ho,_⟩:=mem_ready.1 hir
      have hin:i<np:=by
        rcases Nat.lt_or_ge i np with h2|h2
        · exact h2
        · have hipu:pu.contains i=false:=by
            rw[<-M.later i h2];rw[bc,Bl hun];rfl
          have:=J2 M.closed hir ((hp.tail i k (Array.getElem?_eq_some_iff.1 ho).1 h2 hipu ω).resolve_left λh'=>by have:=M.pure k h';rw[hkl]at this;cases this);rw[hkl]at this;cases this
      obtain⟨st,hst,hok⟩:=hplan i o hin ho;have hls:=I1 (Bl hun);exact M.step hp hlen hf hbig ho hin hir hst hok λa' w' h' γ' M'=>ih _ a' w' h' γ' M' ω
end sound
def JD(n:Nat):List Oper->AC->Bool
  | [],_=>true
  | o::l,s=>(match o.dst with|some d=>(match lk s d with|none=>true|some _=>false)&&Nat.blt d n|none=>true)&&JD n l s
theorem JU{n:Nat}:∀(l:List Oper) (s:AC),JD n l s=true->∀(j:Nat) (o:Oper) (d:Nat),l[j]?=some o->o.dst=some d->lk s d=none/\d<n
  | [],_,_,j,o,d,h,_=>by cases h
  | o::l,s,H,j,o',d,h,hd=>by
    simp only[JD,bj]at H;cases j with
    | zero=>
      simp at h;subst h;have h1:=H.1;simp only[hd,bj]at h1;refine⟨?_,br h1.2⟩;cases hl:lk s d with
      | none=>rfl
      | some v=>rw[hl]at h1;cases h1.1
    | succ j=>exact JU l s H.2 j o' d (by simpa using h) hd
theorem On{e:Entry}{pu:List Nat}{l:List Oper}{Q:Exit->Act->World->Prop}{s:AC}{h:Hp}{ms:List Hp}(np:Nat)(hp:Pk pu l.toArray np=true)(hf:JD e.n (l.take np) s=true)
    (k:WR e l.toArray Q (l.drop np) h ms (l.take np) s [] []) {listed:Array Bool} (hl1:listed.size=l.length) (hl2:∀i,listed.getD i false=pu.contains i) (hl3:Closed l.toArray listed) (hl4:∀i,pu.contains i=true->Bh l.toArray i=none) {fuel:Nat} (hfu:left listed<=fuel)
    {a:Act} {w:World} (ha:Has e.n e.ds a s) (hw:e.Ends w h ms):wpAny e.P .any l.toArray Q fuel listed a { w with drawn:=w.drawn+1 }:=by
  have P:=Lo hp;have hnp:np<=l.length:=by simpa using P.le
  obtain⟨pl,hlen,hplan,hfin⟩:=Kq _ _ _ _ k;have hlen':pl.length=np:=by rw[hlen,List.length_take];omega
  have hd:∀j d,j<np->Bh l.toArray j=some d->lk s d=none/\d<e.n:=λj d hj hd=>by
    unfold Bh at hd;simp only[List.getElem?_toArray]at hd;cases ho:l[j]? with
    | none=>rw[ho]at hd;cases hd
    | some o=>
      rw[ho]at hd;exact JU _ _ hf j o d (by rw[List.getElem?_take,ab hj];exact ho) hd
  have hw1:e.Ends { w with drawn:=w.drawn+1 } h ms:=Ends.drew hw
  have M0:Mid e pu l.toArray np pl s h ms listed a { w with drawn:=w.drawn+1 } h (λ_=>0):=by
    refine⟨Hp.le_refl _,?_,ha.defers,ha.size,λt u hu _=>ha.slots t u hu,λj _ hj d hd=>?_,λj hj=>?_,by simpa using hl1,hl3,λj hj=>by rw[hl2];exact hj⟩
    · have:(range np).flatMap (λj=>if listed.getD j false then Dy pl (Bh l.toArray) (λ_=>0) j else [])=[]:=by
        rw[List.flatMap_eq_nil_iff];intro j _;rw[hl2];cases hc:pu.contains j with
        | false=>rfl
        | true=>simp only[if_true];unfold Dy;rw[hl4 j hc];split<;>first|rfl|(rename_i hh;cases hh)
      rw[this];exact hw1
    · rw[hl2]at hj;rw[hl4 j hj]at hd;cases hd
    · exact hl2 j
  refine(Mid.any P hlen' (λj hj d hdj=>(hd j d hj hdj).1) (λj hj d hdj=>(hd j d hj hdj).2) ?_ ?_ _ _ _ _ _ _ M0 hfu)
  · intro i o hi ho;have ho':(l.take np)[i]?=some o:=by rw[List.getElem?_take,ab hi];simpa using ho
    obtain⟨st,e1,e2⟩:=PlanOK.get _ _ _ _ hplan i o ho';refine⟨st,e1,?_⟩;have e3:(l.take np).take i=l.toArray.toList.take i:=by rw[List.take_take];congr 1;omega
    rw[e3]at e2;simpa using e2
  · intro listed a w h' γ M hall
    have hfd:∀t u,lk (DL (l.take np) pl s) t=some u->a.tmps[t]?=some u:=λt u hu=>by
      rcases Iw _ _ _ _ _ hu with ⟨j,o,h1,h2,h3⟩|h1
      · have hj:j<np:=by
          have:=(List.getElem?_eq_some_iff.1 h1).1;simp at this;omega
        have hdj:Bh l.toArray j=some t:=by rw[List.getElem?_take,ab hj]at h1;simp[Bh,h1,h2]
        obtain⟨u',st,e1,e2,e3⟩:=M.new j hj (hall j hj) t hdj;rw[h3]at e2;cases e2;simp only[Rel]at e3;rw[e1,e3]
      · exact M.old t u h1 λj hj hdj=>by rw[(hd j t hj hdj).1]at h1;cases h1
    have hres:((range np).flatMap λj=>if listed.getD j false then Dy pl (Bh l.toArray) γ j else [])=PS (Du (l.take np) pl) γ:=by
      rw[<-Tb γ (l.take np) pl hlen];have hlt:(l.take np).length=np:=by rw[List.length_take];omega
      rw[hlt];refine Fj _ _ _ λj hj=>?_;have hj':j<np:=by simpa using hj
      rw[hall j hj',ab rfl];unfold Dy Bh;simp only[List.getElem?_toArray];rw[List.getElem?_take,ab hj']
    have hslotA:∀t u,lk (Qh (Du (l.take np) pl) γ) t=some u->a.tmps[t]?=some u:=λt u hu=>by
      have hm:=Nz _ _ _ hu;unfold Qh at hm;obtain⟨p,hp',e1⟩:=ai.1 hm;obtain⟨d,x⟩:=p;simp only[Prod.mk.injEq]at e1;obtain⟨rfl,rfl⟩:=e1;obtain⟨j,o,h1,h2,h3⟩:=HE _ _ _ _ hp'
      have hj:j<np:=by have:=(List.getElem?_eq_some_iff.1 h1).1;simp at this;omega
      have hdj:Bh l.toArray j=some d:=by rw[List.getElem?_take,ab hj]at h1;simp[Bh,h1,h2]
      obtain⟨u',st,e1,e2,e3⟩:=M.new j hj (hall j hj) d hdj;rw[h3]at e2;cases e2;simp only[Rel]at e3;rw[e1,e3]
    have hq:∀d V,(d,V)∈DK (l.take np) pl->∃u,a.tmps[d]?=some u/\V h' u:=λd V hm=>by
      obtain⟨j,o,h1,h2,h3⟩:=F9 _ _ _ _ hm
      have hj:j<np:=by have:=(List.getElem?_eq_some_iff.1 h1).1;simp at this;omega
      have hdj:Bh l.toArray j=some d:=by rw[List.getElem?_take,ab hj]at h1;simp[Bh,h1,h2]
      obtain⟨u',st,e1,e2,e3⟩:=M.new j hj (hall j hj) d hdj;rw[h3]at e2;cases e2;exact⟨u',e1,e3.2⟩
    have hE:=M.ends;rw[hres]at hE
    have hA:∀t u,lk (Qh (Du (l.take np) pl) γ++DL (l.take np) pl s) t=some u->a.tmps[t]?=some u:=λt u hu=>by
      rw[Cs]at hu;cases hv:lk (Qh (Du (l.take np) pl) γ) t with
      | none=>rw[hv]at hu;exact hfd t u hu
      | some u'=>rw[hv]at hu;cases hu;exact hslotA t _ hv
    simp only[av]at hfin;have hdr:l.toArray.toList.drop np=l.drop np:=rfl;rw[hdr];rcases hfin with ⟨_,hfin⟩|hfin
    · exact hfin γ a w ⟨M.defers,M.size,hA⟩ (Ends.back hE hw M.le)
    · refine hfin h' M.le (λd=>(a.tmps[d]?).getD undef) γ (λd V hm=>?_) a w ⟨M.defers,M.size,λt u hu=>?_⟩ hE
      · obtain⟨u,e1,e2⟩:=hq d V hm;simp only[e1];exact e2
      · rw[Cs]at hu;cases hv:lk (Od (DK (l.take np) pl) λd=>(a.tmps[d]?).getD undef) t with
        | none=>rw[hv]at hu;exact hA t u hu
        | some u'=>
          rw[hv]at hu;cases hu;have hm:=Nz _ _ _ hv;unfold Od at hm;obtain⟨p,hp',e1⟩:=ai.1 hm;obtain⟨d,V⟩:=p;simp only[Prod.mk.injEq]at e1;obtain⟨rfl,rfl⟩:=e1;obtain⟨u,e1,e2⟩:=hq d V hp';simp[e1]
theorem BV(n i:Nat):(Array.replicate n false).getD i false=false:=by
  rw[bc];by_cases hi:i<n
  · simp[hi]
  · simp[Array.getElem?_eq_none,hi]
theorem A5{e:Entry}{id:Nat}{l:List Oper}{Q:Exit->Act->World->Prop}{s:AC}{h:Hp}{ms:List Hp}(np:Nat)(hm:e.P.follows .mixedOrders=true)(hp:Pk [] l.toArray np=true)(hf:JD e.n (l.take np) s=true)
    (k:WR e l.toArray Q (l.drop np) h ms (l.take np) s [] []):WS e (.region id l.toArray true) Q s h ms:=by
  intro a w ha hw;refine wp_region_any hm (On np hp hf k (by simp) (λi=>by rw[BV];rfl) (λi o hi=>by rw[BV]at hi;cases hi) (λi hi=>by cases hi) ?_ ha hw);unfold left;rw[Array.toList_replicate];exact Nat.le_trans (List.countP_le_length) (by simp)
end Go.Eng
namespace Go.Eng
open Go.RowKit
variable {b:Bool} {s':AC} {j dj d t:Nat} {P:Program} {v:Value}
section
variable {e:Entry} {ops:Array Oper} {Q:Exit->Act->World->Prop} {tl:List Oper} {h:Hp} {ms:List Hp} {l:List Oper} {o:Oper} {s:AC} {q:List (Nat×VP)} {al:List (Nat×Nb)}
theorem Wants.plain(hg:o.guard=none):Wants ops o s true:=by unfold Wants;rw[hg]
theorem Wants.yes(hg:o.guard=some (j,b))(hj:Bh ops j=some dj)(hv:lk s dj=some (.bool b)):Wants ops o s true:=by unfold Wants;rw[hg];exact .inl ⟨dj,b,hj,hv,by cases b<;>rfl⟩
theorem Wants.no{b':Bool}(hg:o.guard=some (j,b))(hj:Bh ops j=some dj)(hv:lk s dj=some (.bool b'))(hne:(b'==b)=false):Wants ops o s false:=by unfold Wants;rw[hg];exact .inl ⟨dj,b',hj,hv,hne.symm⟩
theorem Wants.nou(hg:o.guard=some (j,b))(hj:Bh ops j=some dj)(hv:lk s dj=some undef):Wants ops o s false:=by unfold Wants;rw[hg];exact .inr ⟨dj,hj,hv,Y⟩
theorem AL(hx:OX e.P o s h ms v)(hd:o.dst=some d)(hg:o.guard=none)(k:WR e ops Q tl h ms l ((d,v)::s) q al):WR e ops Q tl h ms (o::l) s q al:=
  .inl ⟨v,.inl ⟨.plain hg,hx⟩,by rw[hd];exact k⟩
theorem AK(hx:OX e.P o s h ms v)(hd:o.dst=some d)(hg:o.guard=some (j,b))(hj:Bh ops j=some dj)(hv:lk s dj=some (.bool b))(k:WR e ops Q tl h ms l ((d,v)::s) q al):WR e ops Q tl h ms (o::l) s q al:=
  .inl ⟨v,.inl ⟨.yes hg hj hv,hx⟩,by rw[hd];exact k⟩
theorem Ay{b':Bool}(hd:o.dst=some d)(hg:o.guard=some (j,b))(hj:Bh ops j=some dj)(hv:lk s dj=some (.bool b'))(hne:(b'==b)=false)(k:WR e ops Q tl h ms l ((d,undef)::s) q al):WR e ops Q tl h ms (o::l) s q al:=
  .inl ⟨undef,.inr (.inr ⟨.no hg hj hv hne,rfl⟩),by rw[hd];exact k⟩
theorem AW(hd:o.dst=some d)(hg:o.guard=some (j,b))(hj:Bh ops j=some dj)(hv:lk s dj=some undef)(k:WR e ops Q tl h ms l ((d,undef)::s) q al):WR e ops Q tl h ms (o::l) s q al:=
  .inl ⟨undef,.inr (.inr ⟨.nou hg hj hv,rfl⟩),by rw[hd];exact k⟩
theorem Vh{x:Nb}(hx:ONB e.P o s h ms x)(hd:o.dst=some d)(hg:o.guard=none)(k:WR e ops Q tl h ms l s q (al++[(d,x)])):WR e ops Q tl h ms (o::l) s q al:=
  .inr (.inr ⟨x,⟨.plain hg,⟨d,hd⟩,hx⟩,by rw[hd];exact k⟩)
theorem Mx{sz bytes:Nat}{z:Value}(zl:List Value)(ho:o.op=.alloc t)(hs:Elem P t sz z bytes)(hz:z.cells=zl.toArray):ONB P o s h ms ((t,zl),λg=>.pointer (some ⟨g,0,none⟩)):=λρ w hρ hw=>by
  have:(execOp ρ o).run P w=.ok (.value (.pointer (some ⟨w.heap.size,0,none⟩))) (w.alloc (.cells zl.toArray t)):=by simp[execOp,ho,Instr.alloc,hs.zeroValue,newVar,newRow,hz]
  unfold OpRes;rw[this];exact⟨Y,Y⟩
theorem Fg{t el:TypeId}{sz:Nat}{z:Value}{bytes:Nat}{x:Operand}(zl:List Value)(ho:o.op=.buildSlice t 1 #[(0,x)])(ht:P.underlying t=some (.slice el))(hs:Elem P el sz z bytes)(hx:ev s x=some v)(hv:v.cells=zl.toArray)(hl:zl.length=sz)(hzs:z.cells.size=sz)(hsz:0<sz/\sz<=1000) :
    ONB P o s h ms ((el,zl),λg=>.slice (some ⟨g,0,none⟩) 1 1):=λρ w hρ hw=>by
  have:=GV (P:=P) zl ht hs hv hl hzs hsz w
  have:(execOp ρ o).run P w=.ok (.value (.slice (some ⟨w.heap.size,0,none⟩) 1 1)) (w.alloc (.cells zl.toArray el)):=by simp[execOp,ho,hρ _ _ hx,this]
  unfold OpRes;rw[this];exact⟨Y,Y⟩
theorem AZ(k:WL e ops Q tl s h ms):WR e ops Q tl h ms [] s [] []:=.inl ⟨rfl,λ_=>k⟩
theorem Jg{zl:List Value}{f:Nat->Value}(k:∀g,WL e ops Q tl ((d,f g)::s) h (A8 g t zl::ms)):WR e ops Q tl h ms [] s [] [(d,((t,zl),f))]:=.inl ⟨rfl,λγ=>k (γ d)⟩
theorem Aa5{s:AC}(he:∀t,lk s t=lk s' t)(x:Operand):ev s x=ev s' x:=by cases x<;>first|exact he _|rfl
theorem Evs.ext{s:AC}(he:∀t,lk s t=lk s' t){ρ:Operand->Value}(H:Evs s' ρ):Evs s ρ:=λx u hu=>H x u (by rw[<-Aa5 he];exact hu)
theorem OX.ext{s:AC}(he:∀t,lk s t=lk s' t)(H:OX P o s h ms v):OX P o s' h ms v:=λρ w hρ hw=>H ρ w (Evs.ext he hρ) hw
theorem OPX.ext{s:AC}{V:VP}(he:∀t,lk s t=lk s' t)(H:OPX P o s h ms V):OPX P o s' h ms V:=λρ w hρ hw=>H ρ w (Evs.ext he hρ) hw
theorem Dm{s:AC}(he:∀t,lk s t=lk s' t)(a:AC)(t:Nat):lk (a++s) t=lk (a++s') t:=by rw[Cs,Cs,he]
theorem Wants.ext{s:AC}(he:∀t,lk s t=lk s' t)(H:Wants ops o s b):Wants ops o s' b:=by
  unfold Wants at *;cases hg:o.guard with
  | none=>simp only[hg]at H;exact H
  | some p=>simp only[hg]at H;exact H.imp (λ⟨dj,b',e1,e2,e3⟩=>⟨dj,b',e1,by rw[<-he];exact e2,e3⟩) (λ⟨dj,e1,e2,e3⟩=>⟨dj,e1,by rw[<-he];exact e2,e3⟩)
theorem StpOK.ext{s:AC}{st:Og}(he:∀t,lk s t=lk s' t)(H:StpOK P ops h ms o s q st):StpOK P ops h ms o s' q st:=by
  rcases st with v|V|x
  · rcases H with ⟨h1,h2⟩|⟨h1,q',h2,h3⟩|⟨h1,h2⟩
    · exact .inl ⟨h1.ext he,OX.ext he h2⟩
    · exact .inr (.inl ⟨h1.ext he,q',h2,λh' hl val hs=>OX.ext (Dm he _) (h3 h' hl val hs)⟩)
    · exact .inr (.inr ⟨h1.ext he,h2⟩)
  · obtain⟨h1,h2,h3⟩:=H;refine⟨h1.ext he,h2,?_⟩;rcases h3 with h3|⟨q',h3,h4⟩
    · exact .inl (OPX.ext he h3)
    · exact .inr ⟨q',h3,λh' hl val hs=>OPX.ext (Dm he _) (h4 h' hl val hs)⟩
  · exact⟨H.1.ext he,H.2.1,λρ w hρ hw=>H.2.2 ρ w (Evs.ext he hρ) hw⟩
theorem WL.ext{s:AC}(he:∀t,lk s t=lk s' t)(H:WL e ops Q l s h ms):WL e ops Q l s' h ms:=
  λa w ha hw=>H a w ⟨ha.defers,ha.size,λi v hi=>ha.slots i v (by rw[<-he];exact hi)⟩ hw
theorem WR.ext:∀(l:List Oper) (s s':AC) (q:List (Nat×VP)) (al:List (Nat×Nb)),(∀t,lk s t=lk s' t)->WR e ops Q tl h ms l s q al->WR e ops Q tl h ms l s' q al
  | [],s,s',q,al,he,H=>by
    rcases H with ⟨h1,h2⟩|h2
    · exact .inl ⟨h1,λγ=>WL.ext (Dm he _) (h2 γ)⟩
    · exact .inr λh' hl val γ hs=>WL.ext (Dm (Dm he _) _) (h2 h' hl val γ hs)
  | o::l,s,s',q,al,he,H=>by
    rcases H with ⟨v,h1,h2⟩|⟨V,h1,h2⟩|⟨x,h1,h2⟩
    · refine .inl ⟨v,h1.ext he,WR.ext l _ _ _ _ ?_ h2⟩;cases o.dst with
      | none=>exact he
      | some d=>exact λt=>Dm he [(d,v)] t
    · exact .inr (.inl ⟨V,h1.ext he,WR.ext l _ _ _ _ he h2⟩)
    · exact .inr (.inr ⟨x,h1.ext he,WR.ext l _ _ _ _ he h2⟩)
theorem Cp{p:Prop}{_:Decidable p}(hc:lk s t=some (.bool (decide p)))(kt:p->WR e ops Q tl h ms l ((t,.bool true)::s) q al)(kf:¬p->WR e ops Q tl h ms l ((t,.bool false)::s) q al):WR e ops Q tl h ms l s q al:=by
  by_cases hp:p
  · refine WR.ext l _ _ _ _ (λi=>?_) (kt hp);by_cases hi:t=i
    · subst hi;rw[BB,hc];simp[hp]
    · rw[By _ _ hi]
  · refine WR.ext l _ _ _ _ (λi=>?_) (kf hp);by_cases hi:t=i
    · subst hi;rw[BB,hc];simp[hp]
    · rw[By _ _ hi]
theorem T6(hc:lk s t=some (.bool b))(kt:b=true->WR e ops Q tl h ms l ((t,.bool true)::s) q al)(kf:b=false->WR e ops Q tl h ms l ((t,.bool false)::s) q al):WR e ops Q tl h ms l s q al:=by
  have e1:decide (b=true)=b:=by cases b<;>rfl
  exact Cp (p:=b=true) (by rw[hc,e1]) kt (λhb=>kf (by simpa using hb))
end
end Go.Eng
