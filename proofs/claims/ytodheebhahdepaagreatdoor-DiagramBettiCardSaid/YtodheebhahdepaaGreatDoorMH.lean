/- A part of the proof. -/
import Derived.Test.YtodheebhahdepaaGreatDoorMG
import Derived.Test.YtodheebhahdepaaGreatDoorRows
import Derived.Test.YtodheebhahdepaaGreatDoorChecked
import Derived.WalkKit
import Derived.ProofKit
import Derived.ChangeOld
import Derived.LaidMore
import Derived.Lay
import Derived.SevenTiedAt
import Derived.Stop.Joined
import Derived.Test.YtodheebhahdepaaGreatDoorCards
import Derived.Test.YtodheebhahdepaaGreatDoorTie
set_option linter.unusedSimpArgs false
set_option linter.unusedVariables false
set_option linter.unusedSectionVars false
set_option maxRecDepth 100000
set_option maxHeartbeats 4000000
open List (mem_map length_map length_singleton getElem_mem range length_append nil_append length_take cons_append map_append mem_filter map_map map_cons getElem_of_mem take_length getElem_map sum_cons)
namespace Go.Proofs.Q
open Go.Eng Go.RowKit Go.Lin
variable {i j:Nat}
def Dl(S:List Ce)(i:Nat):Cl:=(S.getD i default).c
theorem Gq{S:List Ce}(h:i<S.length):Dl S i=S[i].c:=by unfold Dl;simp[List.getD,h]
structure PerH(p:Int)(F:List (Int×Int))(l S:List Ce)(R V:Nat->List Int):Prop where
 P:PersF p F l S R V
 hp:IsP p
 G:Rgt (cn l)
 mon:∀x∈cn l,∀s∈x.sd,Ed (BQ F) s.1<=Ed (BQ F) x.id
section
variable {p:Int} {F:List (Int×Int)} {l S:List Ce} {R V:Nat->List Int}
theorem PerH.nd(H:PerH p F l S R V):(S.map fun a=>a.c.id).Nodup:=by
 have:=(H.P.perm.map Cl.id).nodup_iff.2 H.G.nd
 rwa [map_map]at this
theorem PerH.mem(H:PerH p F l S R V)(h:i<S.length):Dl S i∈cn l:=by rw[Gq h];exact H.P.perm.mem_iff.1 (List.mem_map.2 ⟨_,getElem_mem h,rfl⟩)
theorem PerH.inj(H:PerH p F l S R V)(hi:i<S.length)(hj:j<S.length)(h:(Dl S i).id=(Dl S j).id):i=j:=by
 rw[Gq hi,Gq hj]at h;have hp:=List.pairwise_iff_getElem.1 H.nd;rcases Nat.lt_trichotomy i j with h1|h1|h1
 ·have:=hp i j (by simpa using hi) (by simpa using hj) h1;simp only[getElem_map]at this;exact absurd h this
 ·exact h1
 ·have:=hp j i (by simpa using hj) (by simpa using hi) h1;simp only[getElem_map]at this;exact absurd h.symm this
theorem PerH.place(H:PerH p F l S R V){y:Cl}(hy:y∈cn l):∃m,m<S.length/\Dl S m=y:=by obtain⟨a,ha,rfl⟩:=List.mem_map.1 (H.P.perm.mem_iff.2 hy);obtain⟨m,hm,rfl⟩:=getElem_of_mem ha;exact⟨m,hm,Gq hm⟩
theorem PerH.before(H:PerH p F l S R V)(hj:j<S.length){s:Int×Int}(hs:s∈(Dl S j).sd):∃m,m<j/\(Dl S m).id=s.1/\(Dl S m).dim=(Dl S j).dim-1:=by
 obtain⟨y,hy,e1,e2⟩:=H.G.sid _ (H.mem hj) s hs;obtain⟨m,hm,rfl⟩:=H.place hy;refine⟨m,?_,e1,e2⟩;have hf:=H.mon _ (H.mem hj) s hs;rw[<-e1]at hf;refine Classical.byContradiction fun hn=>?_;rcases (by omega:m=j\/j<m) with rfl|h
 ·omega
 ·have:=List.pairwise_iff_getElem.1 H.P.srt j m hj hm h;rw[<-Gq hj,<-Gq hm]at this;omega
def EM(S:List Ce)(i k:Nat):Int:=sgn (Dl S k).sd (Dl S i).id
theorem Sj(H:PerH p F l S R V)(hj:j<S.length)(hi:i<S.length):∀k,k<=(Dl S j).sd.length->Cg p ((Ft p S j k).getD i 0) (sgn ((Dl S j).sd.take k) (Dl S i).id)
 | 0,_=>by
  have:(Ft p S j 0).getD i 0=0:=by unfold Ft;simp[List.getD,hi]
  rw[this,List.take_zero,HI];exact Cg.refl _ _
 | k+1,hk=>by
  have ih:=Sj H hj hi k (by omega);have hkl:k<(S.getD j default).c.sd.length:=by unfold Dl at hk;omega
  have hkl':k<(Dl S j).sd.length:=hkl;obtain⟨s,hs⟩:∃s,(Dl S j).sd[k]=s:=⟨_,rfl⟩
  have hs':(S.getD j default).c.sd[k]=s:=hs
  have hcs:Ft p S j (k+1)=(Ft p S j k).set (pl S (j+1) s.1) ((s.2+p)%p):=by rw[<-hs'];exact Mv hkl
  rw[hcs,List.take_succ_eq_append_getElem hkl',Lx,hs];have hsm:s∈(Dl S j).sd:=by rw[<-hs];exact getElem_mem hkl'
  obtain⟨m,hm,e1,e2⟩:=H.before hj hsm
  have hpl:pl S (j+1) s.1=m:=by rw[<-e1];exact ZU H.nd (by omega) (by omega)
  rw[hpl];have hpp:0<p:=by have:=H.hp.1;omega
  by_cases him:i=m
  ·subst him
   have hz:sgn ((Dl S j).sd.take k) (Dl S i).id=0:=Lh fun s' hs2 e=>by have h1:=List.pairwise_iff_getElem.1 (H.G.sds _ (H.mem hj));obtain⟨t,ht,rfl⟩:=getElem_of_mem hs2;rw[length_take]at ht;have:=h1 t k (by simp;omega) (by simpa using hkl') (by omega);rw[getElem_map,getElem_map,hs]at this;rw[List.getElem_take]at e;exact this (e.trans e1)
   have hlt:i<(Ft p S j k).length:=by rw[Gf];exact hi
   rw[hz,if_pos e1.symm];have hv:((Ft p S j k).set i ((s.2+p)%p)).getD i 0=(s.2+p)%p:=by simp[List.getD,hlt]
   rw[hv,Int.zero_add];have h5:=(Cg.mod p (s.2+p)).trans ((Cg.refl p s.2).add (Cg.self p))
   rwa [Int.add_zero]at h5
  ·have hne:s.1≠(Dl S i).id:=fun e=>him (H.inj hi (by omega) (by rw[e1,e]));rw[if_neg hne,Int.add_zero]
   have hv:((Ft p S j k).set m ((s.2+p)%p)).getD i 0=(Ft p S j k).getD i 0:=by simp[List.getD,List.getElem?_set_ne (Ne.symm him)]
   rw[hv];exact ih
theorem RH(H:PerH p F l S R V)(hj:j<S.length)(hi:i<S.length):Cg p ((J5 p S j).getD i 0) (EM S i j):=by have:=Sj H hj hi (Dl S j).sd.length (Nat.le_refl _);rw[take_length]at this;exact this
end
end Go.Proofs.Q
namespace Go.Proofs.Q
open Go.Eng Go.RowKit Go.Lin
variable {i k j:Nat} {o o':List Cl}
section
variable {p:Int} {F:List (Int×Int)} {l S:List Ce} {R V:Nat->List Int}
structure ColI(p:Int)(S:List Ce)(k:Nat)(r v:List Int):Prop where
 rl:r.length=S.length
 vl:v.length=S.length
 eq:∀i,i<S.length->Cg p (r.getD i 0) (HQ S.length (EM S) (fun m=>v.getD m 0) i)
 one:v.getD k 0=1
 aft:∀i,k<i->v.getD i 0=0
 vd:∀i,i<S.length->v.getD i 0≠0->(Dl S i).dim=(Dl S k).dim
 rd:∀i,i<S.length->r.getD i 0≠0->(Dl S k).dim=(Dl S i).dim+1
theorem G5{n:Nat}(hk:k<n)(i:Nat):(Fp n k).getD i 0=if i=k then 1 else 0:=by
 unfold Fp;by_cases e:i=k
 ·subst e;simp[List.getD,hk]
 ·rw[if_neg e];simp only[List.getD];rw[List.getElem?_set_ne (Ne.symm e)];by_cases h:i<n
  ·simp[h]
  ·simp[List.getElem?_eq_none (show(List.replicate n (0:Int)).length<=i by simp;omega)]
theorem PerH.col0(H:PerH p F l S R V)(hk:k<S.length):ColI p S k (J5 p S k) (Fp S.length k):=by
 have hp:=H.hp.1;refine⟨Gf _ _ _ _,Mm _ _,fun i hi=>?_,?_,fun i hi=>?_,fun i hi h=>?_,fun i hi h=>?_⟩
 ·refine(RH H hk hi).trans (Cg.of_eq ?_);unfold HQ;rw[GF S.length k _ hk fun m hm hne=>by show EM S i m*(Fp S.length k).getD m 0=0;rw[G5 hk,if_neg hne,Int.mul_zero]];show EM S i k=EM S i k*(Fp S.length k).getD k 0;rw[G5 hk,if_pos rfl,Int.mul_one]
 ·rw[G5 hk,if_pos rfl]
 ·rw[G5 hk,if_neg (by omega)]
 ·rw[G5 hk]at h;split at h
  ·rename_i e;rw[e]
  ·exact absurd rfl h
 ·have hE:EM S i k≠0:=fun e=>h (by
   have h1:=RH H hk hi;rw[e]at h1
   exact h1.eq (Gm (by omega) (N1 (by omega) S k _) i) ⟨by omega,by omega⟩)
  obtain⟨s,hs,e⟩:=M1 hE;obtain⟨m,hm,e1,e2⟩:=H.before hk hs;have:m=i:=H.inj (by omega) hi (by rw[e1,e]);subst this;omega
theorem XH(n:Nat)(D:Nat->Nat->Int)(x y:Nat->Int)(c:Int)(i:Nat):HQ n D (fun k=>x k+c*y k) i=HQ n D x i+c*HQ n D y i:=by unfold HQ;rw[<-Fx,<-Hf];exact Bg fun k _=>by rw[Int.mul_add,<-Int.mul_assoc,<-Int.mul_assoc,Int.mul_comm c]
theorem ColI.step{k' i0:Nat}{t:Int}{r v r' v':List Int}(hp:2<=p)(C:ColI p S k r v)(C':ColI p S k' r' v')(hk:k'<k)(hi0:i0<S.length)(h1:r.getD i0 0≠0)(h2:r'.getD i0 0≠0):ColI p S k (FP p r r' t) (FP p v v' t):=by
 have lr:r.length=r'.length:=C.rl.trans C'.rl.symm;have lv:v.length=v'.length:=C.vl.trans C'.vl.symm
 have hd:(Dl S k').dim=(Dl S k).dim:=by have:=C.rd i0 hi0 h1;have:=C'.rd i0 hi0 h2;omega
 refine⟨by rw[Fl lr,C.rl],by rw[Fl lv,C.vl],fun i hi=>?_,?_,fun i hi=>?_,fun i hi h=>?_,fun i hi h=>?_⟩
 ·rw[Ev lr];refine(Cg.mod p _).trans (((C.eq i hi).add ((Cg.refl p t).mul (C'.eq i hi))).trans ?_);rw[<-XH];exact V9 (fun m _=>by rw[Ev lv];exact(Cg.mod p _).symm) i
 ·rw[Ev lv,C.one,C'.aft k hk,Int.mul_zero,Int.add_zero];exact Int.emod_eq_of_lt (by omega) (by omega)
 ·rw[Ev lv,C.aft i hi,C'.aft i (by omega),Int.mul_zero,Int.add_zero];rfl
 ·rw[Ev lv]at h;by_cases e:v.getD i 0=0
  ·by_cases e':v'.getD i 0=0
   ·rw[e,e',Int.mul_zero]at h;exact absurd rfl h
   ·rw[C'.vd i hi e',hd]
  ·exact C.vd i hi e
 ·rw[Ev lr]at h;by_cases e:r.getD i 0=0
  ·by_cases e':r'.getD i 0=0
   ·rw[e,e',Int.mul_zero]at h;exact absurd rfl h
   ·rw[<-hd];exact C'.rd i hi e'
  ·exact C.rd i hi e
theorem PerH.ops(H:PerH p F l S R V)(ih:∀k',k'<k->ColI p S k' (R k') (V k')){r0 v0 r v:List Int}(C:ColI p S k r0 v0)(h:Ops p S.length k R V r0 v0 r v):ColI p S k r v:=by
 induction h with
 | refl=>exact C
 | step h hk hi h0 h1 h2 h3 ih'=>exact ih'.step H.hp.1 (ih _ hk) hk hi h2 h3
theorem PerH.col(H:PerH p F l S R V):∀k,k<S.length->ColI p S k (R k) (V k):=fun k=>by
 induction k using Nat.strongRecOn with
 | ind k ih=>
  intro hk;obtain⟨la,A⟩:=H.P.all;exact H.ops (fun k' hk'=>ih k' hk' (by omega)) (H.col0 hk) (A.ops k hk)
end
def tr(o o':List Cl)(i:Nat):Nat:=PP o' (o.getD i default).id
theorem Mt(h:o.Perm o')(hn:(o.map Cl.id).Nodup)(hi:i<o.length):tr o o' i<o.length/\o'.getD (tr o o' i) default=o.getD i default:=by have:=IZ (h.mem_iff.1 (F8 hi)) ((h.map Cl.id).nodup_iff.1 hn);exact⟨by rw[h.length_eq];exact this.1,this.2⟩
theorem KB(h:o.Perm o')(hn:(o.map Cl.id).Nodup)(hi:i<o.length):tr o' o (tr o o' i)=i:=by obtain⟨h1,h2⟩:=Mt h hn hi;have hn':=(h.map Cl.id).nodup_iff.1 hn;obtain⟨h3,h4⟩:=Mt h.symm hn' (i:=tr o o' i) (by rw[<-h.length_eq];exact h1);exact P9 hn (by rw[h.length_eq];exact h3) hi (by rw[h4,h2])
theorem Va(h:o.Perm o')(hn:(o.map Cl.id).Nodup)(hi:i<o.length)(hj:j<o.length)(e:tr o o' i=tr o o' j):i=j:=by rw[<-KB h hn hi,e,KB h hn hj]
theorem AaX{n:Nat}{π ρ:Nat->Nat}(f:Nat->Int)(h1:∀i,i<n->π i<n)(h2:∀i,i<n->ρ i<n)(h3:∀i,i<n->π (ρ i)=i)(h4:∀i,i<n->ρ (π i)=i):sm n (fun i=>f (π i))=sm n f:=by rw[Bg (g:=fun i=>sm n fun m=>if m=π i then f m else 0) fun i hi=>(IK n (π i) f (h1 i hi)).symm,Ka];refine Bg fun m hm=>?_;rw[GF n (ρ m) _ (h2 m hm) fun i hi hne=>if_neg fun e=>hne (by rw[e,h4 i hi]),if_pos (h3 m hm).symm]
theorem Mc{l:List Int}(h:Bm l<0)(i:Nat):l.getD i 0=0:=by
 rcases IM l with ⟨k,hk,e,_⟩|⟨e,h1⟩
 ·omega
 ·by_cases hi:i<l.length
  ·rw[show l.getD i 0=l[i] by simp[List.getD,hi]];exact h1 i hi
  ·simp[List.getD,List.getElem?_eq_none (show l.length<=i by omega)]
def vO(o:List Cl)(S:List Ce)(V:Nat->List Int)(j i:Nat):Int:=(V (tr o (S.map Ce.c) j)).getD (tr o (S.map Ce.c) i) 0
noncomputable def SE(o:List Cl)(S:List Ce)(R:Nat->List Int)(j:Nat):Option Nat:=if 0<=Bm (R (tr o (S.map Ce.c) j)) then some (tr (S.map Ce.c) o (Bm (R (tr o (S.map Ce.c) j))).toNat) else none
theorem NI{S:List Ce}(h:i<S.length):(S.map Ce.c).getD i default=Dl S i:=by rw[Gq h];simp[List.getD,h]
def dmo(o:List Cl)(i:Nat):Int:=(o.getD i default).dim
section
variable {p:Int} {F:List (Int×Int)} {l S:List Ce} {R V:Nat->List Int}
theorem PerH.lenS(H:PerH p F l S R V):S.length=(cn l).length:=by have:=H.P.perm.length_eq;simpa using this
theorem PerH.trS(H:PerH p F l S R V)(hi:i<S.length):tr (cn l) (S.map Ce.c) i<S.length/\Dl S (tr (cn l) (S.map Ce.c) i)=(cn l).getD i default:=by
 have h1:=Mt H.P.perm.symm H.G.nd (i:=i) (by rw[<-H.lenS];exact hi);have h2:tr (cn l) (S.map Ce.c) i<S.length:=by rw[H.lenS];exact h1.1
 exact⟨h2,by rw[<-NI h2];exact h1.2⟩
theorem PerH.bndS(H:PerH p F l S R V)(hj:j<S.length)(hi:i<S.length):HQ S.length (DM (cn l)) (vO (cn l) S V j) i=HQ S.length (EM S) (fun m=>(V (tr (cn l) (S.map Ce.c) j)).getD m 0) (tr (cn l) (S.map Ce.c) i):=by
 have hnS:((S.map Ce.c).map Cl.id).Nodup:=(H.P.perm.map Cl.id).nodup_iff.2 H.G.nd;unfold HQ;rw[<-AaX (π:=tr (cn l) (S.map Ce.c)) (ρ:=tr (S.map Ce.c) (cn l)) (fun m=>EM S (tr (cn l) (S.map Ce.c) i) m*(V (tr (cn l) (S.map Ce.c) j)).getD m 0) (fun k hk=>(H.trS hk).1) (fun k hk=>?_) (fun k hk=>?_) (fun k hk=>?_)]
 ·refine Bg fun k hk=>?_;show DM _ i k*(V _).getD _ 0=EM S _ _*_;congr 1;unfold DM EM;rw[(H.trS hk).2,(H.trS hi).2]
 ·have:=(Mt H.P.perm hnS (i:=k) (by simpa using hk)).1;simpa using this
 ·exact KB H.P.perm hnS (by simpa using hk)
 ·exact KB H.P.perm.symm H.G.nd (by rw[<-H.lenS];exact hk)
theorem PerH.lowS(H:PerH p F l S R V)(hj:j<S.length):SE (cn l) S R j=some i<->i<S.length/\Bm (R (tr (cn l) (S.map Ce.c) j))=tr (cn l) (S.map Ce.c) i:=by
 have hnS:((S.map Ce.c).map Cl.id).Nodup:=(H.P.perm.map Cl.id).nodup_iff.2 H.G.nd;have C:=H.col _ (H.trS hj).1;unfold SE;constructor
 ·intro h;split at h
  ·rename_i h0;cases h;have h1:=(KM (R (tr (cn l) (S.map Ce.c) j))).2;rw[C.rl]at h1;have h2:(Bm (R (tr (cn l) (S.map Ce.c) j))).toNat<(S.map Ce.c).length:=by rw[length_map];omega
   have h3:=Mt H.P.perm hnS h2;have h4:=KB H.P.perm hnS h2;refine⟨by simpa using h3.1,?_⟩;rw[h4,Int.toNat_of_nonneg h0]
  ·cases h
 ·rintro⟨hi,h⟩;rw[h,if_pos (by omega),Int.toNat_natCast,KB H.P.perm.symm H.G.nd (by rw[<-H.lenS];exact hi)]
theorem PerH.rdc(H:PerH p F l S R V):Rdc p S.length (DM (cn l)) (dmo (cn l)) (tr (cn l) (S.map Ce.c)) (vO (cn l) S V) (SE (cn l) S R):=by
 have hp:=H.hp.1;obtain⟨la,A⟩:=H.P.all;have e1:=H.lenS
 have hR:∀k,k<S.length->∀i,p∣(R k).getD i 0->(R k).getD i 0=0:=fun k hk i hd=>by have:=Gm (by omega) (A.red.rr k hk) i;exact(Cg.eq (cgz.2 hd) this ⟨by omega,by omega⟩)
 have hb:∀j i,j<S.length->i<S.length->(p∣HQ S.length (DM (cn l)) (vO (cn l) S V j) i<->(R (tr (cn l) (S.map Ce.c) j)).getD (tr (cn l) (S.map Ce.c) i) 0=0):=fun j i hj hi=>by have ht:=(H.trS hj).1;rw[H.bndS hj hi,<-((H.col _ ht).eq _ (H.trS hi).1).dvd_iff];exact⟨hR _ ht _,fun h=>by rw[h];exact Int.dvd_zero p⟩
 refine⟨H.hp.fld,fun i j hi hj=>?_,fun i j hi hj h=>?_,fun i j hi hj h=>?_,fun j hj=>?_,fun j i hj hi h=>?_,fun j hj h i hi=>?_,fun j i hj h=>?_,fun j j' i hj hj' h h'=>?_⟩
 ·rw[e1,DM2 H.G (by omega)];exact Int.dvd_zero p
 ·exact Aar H.G (by omega) (by omega) fun e=>h (by rw[e];exact Int.dvd_zero p)
 ·exact Va H.P.perm.symm H.G.nd (by omega) (by omega) h
 ·have C:=H.col _ (H.trS hj).1;refine⟨hj,fun h=>?_,fun i' hi' h=>?_⟩
  ·unfold vO at h;rw[C.one]at h;have:=Int.le_of_dvd (by omega) h;omega
  ·refine Nat.le_of_not_lt fun hlt=>h ?_;unfold vO;rw[C.aft _ hlt];exact Int.dvd_zero p
 ·have C:=H.col _ (H.trS hj).1;have:=C.vd _ (H.trS hi).1 fun e=>h (by unfold vO;rw[e];exact Int.dvd_zero p);rw[(H.trS hi).2,(H.trS hj).2]at this;exact this
 ·rw[hb j i hj hi];refine Mc ?_ _;unfold SE at h;split at h
  ·cases h
  ·omega
 ·obtain⟨hi,e⟩:=(H.lowS hj).1 h;obtain⟨h1,h2,h3⟩:=EH e;refine⟨hi,fun hd=>h2 ((hb j i hj hi).1 hd),fun i' hi' hd=>Nat.le_of_not_lt fun hlt=>hd ((hb j i' hj hi').2 (h3 _ hlt))⟩
 ·obtain⟨hi,e⟩:=(H.lowS hj).1 h;obtain⟨_,e'⟩:=(H.lowS hj').1 h';have a1:=A.red.a1 _ (H.trS hj).1 (by omega);have a2:=A.red.a1 _ (H.trS hj').1 (by omega);rw[e']at a2;rw[e]at a1;exact Va H.P.perm.symm H.G.nd (by omega) (by omega) (by omega)
end
end Go.Proofs.Q
namespace Go.Proofs.Q
open Go.Eng Go.RowKit Go.Lin Go.Kuhn
variable {m j:Nat}
theorem KH{α β:Type}{l:List α}{g:α->β}(h:l.Nodup)(hi:∀a∈l,∀b∈l,g a=g b->a=b):(l.map g).Nodup:=
 List.pairwise_map.2 (h.imp_of_mem fun {a b} ha hb hne e=>hne (hi a ha b hb e))
def fo(F:List (Int×Int))(o:List Cl)(i:Nat):Int:=Ed (BQ F) (o.getD i default).id
section
variable {p:Int} {F:List (Int×Int)} {l S:List Ce} {R V:Nat->List Int}
theorem PerH.uniq(H:PerH p F l S R V){j':Nat}(hj:j<S.length)(hj':j'<S.length)(h0:0<=Bm (R j))(e:Bm (R j)=Bm (R j')):j=j':=by obtain⟨la,A⟩:=H.P.all;have a1:=A.red.a1 j hj h0;have a2:=A.red.a1 j' hj' (by omega);rw[e]at a1;omega
theorem PerH.end_some(H:PerH p F l S R V){x:Int}(h:Bf (C5 (Fy S R) (Fy S R).length) (m:Int)=some x):∃j,j<S.length/\x=j/\Bm (R j)=m:=by obtain⟨j,h1,h2,h3,_⟩:=Gr h;rw[K9]at h1;rw[Lu S R h1]at h3;exact⟨j,h1,h2,h3⟩
theorem PerH.end_get(H:PerH p F l S R V)(hj:j<S.length)(e:Bm (R j)=m):Bf (C5 (Fy S R) (Fy S R).length) (m:Int)=some (j:Int):=by
 cases h:Bf (C5 (Fy S R) (Fy S R).length) (m:Int) with
 | none=>exact absurd (by rw[Lu S R hj];exact e) (H4 h j (by rw[K9];exact hj) (by omega))
 | some x=>
  obtain⟨j',h1,rfl,h3⟩:=H.end_some h;rw[H.uniq h1 hj (by omega) (by rw[e,h3])]
theorem PerH.inv(H:PerH p F l S R V)(hm:m<S.length):tr (S.map Ce.c) (cn l) m<S.length/\(cn l).getD (tr (S.map Ce.c) (cn l) m) default=(S.getD m default).c/\tr (cn l) (S.map Ce.c) (tr (S.map Ce.c) (cn l) m)=m:=by
 have hnS:((S.map Ce.c).map Cl.id).Nodup:=(H.P.perm.map Cl.id).nodup_iff.2 H.G.nd;have hm':m<(S.map Ce.c).length:=by simpa using hm
 obtain⟨h1,h2⟩:=Mt H.P.perm hnS hm';refine⟨by simpa using h1,?_,KB H.P.perm hnS hm'⟩;rw[h2,NI hm];rfl
theorem PerH.pair(H:PerH p F l S R V)(hm:m<S.length)(hj:j<S.length)(e:Bm (R j)=m):SE (cn l) S R (tr (S.map Ce.c) (cn l) j)=some (tr (S.map Ce.c) (cn l) m):=by rw[H.lowS (H.inv hj).1];exact⟨(H.inv hm).1,by rw[(H.inv hj).2.2,(H.inv hm).2.2];exact e⟩
end
end Go.Proofs.Q
namespace Go.Proofs.Q
open Go.Eng Go.RowKit Go.Lin
variable {t d:Int} {n i j m:Nat} {b:Nat->Bool}
def SO(f:Int->Int)(S:List Ce)(L:List Int)(d t:Int)(m:Nat):Bool:=match Bf (C5 L L.length) (m:Int) with
 | some j=>decide (f (Dl S m).id<f (Dl S j.toNat).id/\(Dl S m).dim=d/\f (Dl S m).id<=t/\t<f (Dl S j.toNat).id)
 | none=>decide (L.getD m 0<0/\(Dl S m).dim=d/\f (Dl S m).id<=t)
theorem YC(f:Int->Int)(S:List Ce)(L:List Int)(d t:Int)(m:Nat):((LY f S L m).filter (Br.at d t)).length=if SO f S L d t m then 1 else 0:=by
 unfold LY SO;cases Bf (C5 L L.length) (m:Int) with
 | none=>
  show((if L.getD m 0<0 then [⟨(Dl S m).dim,f (Dl S m).id,0,true,(Dl S m).id,0⟩] else []:List Br).filter (Br.at d t)).length=_;generalize Dl S m=x;generalize L.getD m 0=z;by_cases h1:z<0<;>by_cases h2:x.dim=d<;>by_cases h3:f x.id<=t<;>simp[h1,h2,h3,Br.at]
 | some j=>
  show((if f (Dl S m).id<f (Dl S j.toNat).id then [⟨(Dl S m).dim,f (Dl S m).id,f (Dl S j.toNat).id,false,(Dl S m).id,(Dl S j.toNat).id⟩] else []:List Br).filter (Br.at d t)).length=if decide (f (Dl S m).id<f (Dl S j.toNat).id/\(Dl S m).dim=d/\f (Dl S m).id<=t/\t<f (Dl S j.toNat).id)=true then 1 else 0
  generalize Dl S m=x;generalize Dl S j.toNat=y;by_cases h1:f x.id<f y.id<;>by_cases h2:x.dim=d<;>by_cases h3:f x.id<=t<;>by_cases h4:t<f y.id<;>simp[h1,h2,h3,h4,Br.at]
theorem Pv(f:Int->Int)(S:List Ce)(L:List Int)(d t:Int):∀n,((Gg f S L n).filter (Br.at d t)).length=cnt n (SO f S L d t)
 | 0=>rfl
 | n+1=>by rw[Er,List.filter_append,length_append,Pv f S L d t n,YC,Gl]
theorem AaC{a c e:Nat->Bool}(h:∀i,i<n->(if a i then 1 else 0)=(if b i then 1 else 0)+(if c i then 1 else 0)+(if e i then 1 else 0:Nat)):cnt n a=cnt n b+cnt n c+cnt n e:=by
 induction n with
 | zero=>rfl
 | succ n ih=>
  have:=h n (by omega);rw[Gl,Gl,Gl,Gl,ih fun i hi=>h i (by omega)];omega
theorem RM(h:∀l,l<n->b l=false):cnt n b=0:=by unfold cnt Gj;rw[List.length_eq_zero_iff,List.filter_eq_nil_iff];intro a ha;rw[h a (List.mem_range.1 ha)];simp
theorem OD{L:List Nat}(hn:L.Nodup)(h:∀l,l∈L<->l<n/\b l=true):cnt n b=L.length:=by unfold cnt Gj;refine((List.perm_ext_iff_of_nodup (List.Pairwise.filter _ List.nodup_range) hn).2 fun a=>?_).length_eq;rw[mem_filter,List.mem_range,h]
section
variable {p:Int} {F:List (Int×Int)} {l S:List Ce} {R V:Nat->List Int}
def fs(F:List (Int×Int))(S:List Ce)(i:Nat):Int:=Ed (BQ F) (Dl S i).id
def OL(F:List (Int×Int))(S:List Ce)(d t:Int)(i:Nat):Bool:=decide ((Dl S i).dim=d/\fs F S i<=t)
noncomputable def Ui(R:Nat->List Int)(i:Nat):Bool:=decide (0<=Bm (R i))
theorem inA_iff:OL F S d t i=true<->(Dl S i).dim=d/\fs F S i<=t:=decide_eq_true_iff
theorem nzA_iff:Ui R i=true<->0<=Bm (R i):=decide_eq_true_iff
theorem PerH.fmono(H:PerH p F l S R V)(hij:i<=j)(hj:j<S.length):fs F S i<=fs F S j:=by
 rcases Nat.lt_or_eq_of_le hij with h|h
 ·have:=List.pairwise_iff_getElem.1 H.P.srt i j (by omega) hj h;unfold fs;rw[Gq hj,Gq (by omega:i<S.length)];omega
 ·rw[h];exact Int.le_refl _
theorem PerH.low_lt(H:PerH p F l S R V)(hj:j<S.length)(e:Bm (R j)=m):m<j/\(Dl S j).dim=(Dl S m).dim+1:=by
 have C:=H.col j hj;obtain⟨la,A⟩:=H.P.all;obtain⟨h1,h2,h3⟩:=EH e;rw[C.rl]at h1;have hp:=H.hp.1;refine⟨?_,C.rd m h1 h2⟩;have hn:¬p∣HQ S.length (EM S) (fun k=>(V j).getD k 0) m:=fun hd=>h2 (Cg.eq ((C.eq m h1).trans (cgz.2 hd)) (Gm (by omega) (A.red.rr j hj) m) ⟨by omega,by omega⟩);obtain⟨k,hk,h4⟩:=Abr hn;have h5:EM S m k≠0:=fun e=>h4 (by rw[e,Int.zero_mul];exact Int.dvd_zero p);have h6:(V j).getD k 0≠0:=fun e=>h4 (by show p∣_*(V j).getD k 0;rw[e,Int.mul_zero];exact Int.dvd_zero p);obtain⟨s,hs,e1⟩:=M1 h5;obtain⟨m',h7,h8,_⟩:=H.before hk hs;have:m'=m:=H.inj (by omega) h1 (by rw[h8,e1]);subst this;rcases (by omega:k<=j\/j<k) with h9|h9
 ·omega
 ·exact absurd (C.aft k h9) h6
theorem PerH.low_none(H:PerH p F l S R V)(hj:j<S.length)(e:Bm (R j)=m):Bm (R m)<0:=by
 have hm:m<S.length:=by have:=(H.low_lt hj e).1;omega
 have h1:=H.pair hm hj e;have Q:=H.rdc;have h2:=Q.cyc (fun i hi=>Q.bb _ hi) (Q.lsome _ _ (H.inv hj).1 h1);unfold SE at h2;rw[(H.inv hm).2.2]at h2;split at h2
 ·cases h2
 ·omega
noncomputable def Zr(F:List (Int×Int))(S:List Ce)(R:Nat->List Int)(d t:Int)(m:Nat):Bool:=@decide (OL F S d t m=true/\∃j,j<S.length/\fs F S j<=t/\Bm (R j)=m) (Classical.propDecidable _)
theorem enA_iff:Zr F S R d t m=true<->OL F S d t m=true/\∃j,j<S.length/\fs F S j<=t/\Bm (R j)=m:=by unfold Zr;exact @decide_eq_true_iff _ (Classical.propDecidable _)
theorem PerH.ends(H:PerH p F l S R V)(d t:Int):cnt S.length (Zr F S R d t)=cnt S.length fun j=>OL F S (d+1) t j&&Ui R j:=by
 have hP:∀{j},j∈Gj S.length (fun j=>OL F S (d+1) t j&&Ui R j)<->j<S.length/\(Dl S j).dim=d+1/\fs F S j<=t/\0<=Bm (R j):=fun {j}=>by unfold Gj;rw[mem_filter,List.mem_range,Bool.and_eq_true,inA_iff,nzA_iff];exact⟨fun⟨a,⟨b,c⟩,e⟩=>⟨a,b,c,e⟩,fun⟨a,b,c,e⟩=>⟨a,⟨b,c⟩,e⟩⟩
 rw[OD (L:=(Gj S.length fun j=>OL F S (d+1) t j&&Ui R j).map fun j=>(Bm (R j)).toNat),length_map]
 ·rfl
 ·refine KH (List.Pairwise.filter _ List.nodup_range) fun a ha b hb e=>?_;obtain⟨a1,_,_,a2⟩:=hP.1 ha;obtain⟨b1,_,_,b2⟩:=hP.1 hb;exact H.uniq a1 b1 a2 (by omega)
 ·intro m;rw[enA_iff,inA_iff];constructor
  ·intro h;obtain⟨j,hj,rfl⟩:=List.mem_map.1 h;obtain⟨a1,a2,a3,a4⟩:=hP.1 hj;have e:Bm (R j)=((Bm (R j)).toNat:Int):=by omega
   obtain⟨h1,h2⟩:=H.low_lt a1 e;have h3:=H.fmono (Nat.le_of_lt h1) a1;exact⟨by omega,⟨by omega,by omega⟩,j,a1,a3,e⟩
  ·rintro⟨hm,⟨h1,h2⟩,j,h3,h4,h5⟩;obtain⟨h6,h7⟩:=H.low_lt h3 h5;exact List.mem_map.2 ⟨j,hP.2 ⟨h3,by omega,h4,by omega⟩,by rw[h5];omega⟩
theorem PerH.bars(H:PerH p F l S R V)(d t:Int):cnt S.length (OL F S d t)=((Gg (Ed (BQ F)) S (Fy S R) S.length).filter (Br.at d t)).length+(cnt S.length fun j=>OL F S d t j&&Ui R j)+cnt S.length fun j=>OL F S (d+1) t j&&Ui R j:=by
 rw[Pv,<-H.ends];refine AaC fun m hm=>?_
 have hb:SO (Ed (BQ F)) S (Fy S R) d t m=true<->OL F S d t m=true/\¬Ui R m=true/\¬Zr F S R d t m=true:=by
  rw[enA_iff,nzA_iff,inA_iff];unfold SO;cases hg:Bf (C5 (Fy S R) (Fy S R).length) (m:Int) with
  | none=>
   simp only[];rw[decide_eq_true_iff,Lu S R hm];constructor
   ·rintro⟨h1,h2,h3⟩;refine⟨⟨h2,h3⟩,by omega,?_⟩;rintro⟨_,j,h4,_,h5⟩;have:=H.end_get h4 h5;rw[hg]at this;cases this
   ·rintro⟨⟨h1,h2⟩,h3,_⟩;exact⟨by omega,h1,h2⟩
  | some x=>
   obtain⟨j,hj,rfl,e⟩:=H.end_some hg;have h0:=H.low_none hj e;simp only[Int.toNat_natCast];rw[decide_eq_true_iff];constructor
   ·rintro⟨h1,h2,h3,h4⟩;refine⟨⟨h2,h3⟩,by omega,?_⟩;rintro⟨_,j',h5,h6,h7⟩;have:=H.uniq hj h5 (by omega) (by rw[e,h7]);subst this;have h6:Ed (BQ F) (Dl S j).id<=t:=h6;omega
   ·rintro⟨⟨h1,h2⟩,_,h3⟩;have h4:t<Ed (BQ F) (Dl S j).id:=Int.lt_of_not_ge fun h5=>h3 ⟨⟨h1,h2⟩,j,hj,h5,e⟩;have h2:Ed (BQ F) (Dl S m).id<=t:=h2;exact⟨by omega,h1,h2,h4⟩
 have hx:Zr F S R d t m=true->¬Ui R m=true:=by rw[enA_iff,nzA_iff];rintro⟨_,j,h1,_,h2⟩;have:=H.low_none h1 h2;omega
 have hE:Zr F S R d t m=true->OL F S d t m=true:=fun h=>(enA_iff.1 h).1;revert hb hx hE;cases SO (Ed (BQ F)) S (Fy S R) d t m<;>cases OL F S d t m<;>cases Ui R m<;>cases Zr F S R d t m<;>simp
def Uh(S:List Ce)(c:Int):Nat:=PP (S.map Ce.c) c
theorem PerH.pl(H:PerH p F l S R V){y:Cl}(hy:y∈cn l):Uh S y.id<S.length/\Dl S (Uh S y.id)=y:=by
 have hn:((S.map Ce.c).map Cl.id).Nodup:=by have:=H.nd;rw[map_map];exact this
 obtain⟨h1,h2⟩:=IZ (H.P.perm.mem_iff.2 hy) hn;have h1:PP (S.map Ce.c) y.id<S.length:=by simpa using h1
 exact⟨h1,by show Dl S (PP (S.map Ce.c) y.id)=y;rw[<-NI h1];exact h2⟩
theorem mem_sub{F:List (Int×Int)}{o:List Cl}{y:Cl}:y∈Ff F t o<->y∈o/\Ed (BQ F) y.id<=t:=by unfold Ff;rw[mem_filter,decide_eq_true_iff]
theorem PerH.ids(H:PerH p F l S R V){c:Int}:c∈By (Ff F t (cn l)) d<->∃y,y∈cn l/\Ed (BQ F) y.id<=t/\y.dim=d/\y.id=c:=by
 unfold By;rw[mem_map];constructor
 ·rintro⟨y,hy,e⟩;obtain⟨h1,h2⟩:=List.mem_filter.1 hy;obtain⟨h3,h4⟩:=mem_sub.1 h1;exact⟨y,h3,h4,of_decide_eq_true h2,e⟩
 ·rintro⟨y,h1,h2,h3,e⟩;exact⟨y,List.mem_filter.2 ⟨mem_sub.2 ⟨h1,h2⟩,decide_eq_true h3⟩,e⟩
theorem PerH.idsN(H:PerH p F l S R V)(d t:Int):(By (Ff F t (cn l)) d).Nodup:=by unfold By;exact H.G.nd.sublist ((List.filter_sublist.trans List.filter_sublist).map _)
theorem PerH.nIds(H:PerH p F l S R V)(d t:Int):(By (Ff F t (cn l)) d).length=cnt S.length (OL F S d t):=by
 rw[OD (L:=(By (Ff F t (cn l)) d).map (Uh S)),length_map]
 ·refine KH (H.idsN d t) fun a ha b hb e=>?_;obtain⟨y,h1,_,_,rfl⟩:=H.ids.1 ha;obtain⟨z,h2,_,_,rfl⟩:=H.ids.1 hb;have:=(H.pl h1).2;rw[e,(H.pl h2).2]at this;rw[this]
 ·intro m;rw[inA_iff,mem_map];constructor
  ·rintro⟨c,hc,rfl⟩;obtain⟨y,h1,h2,h3,rfl⟩:=H.ids.1 hc;obtain⟨h4,h5⟩:=H.pl h1;exact⟨h4,by rw[h5];exact h3,by unfold fs;rw[h5];exact h2⟩
  ·rintro⟨hm,h1,h2⟩;refine⟨(Dl S m).id,H.ids.2 ⟨_,H.mem hm,h2,h1,rfl⟩,?_⟩;obtain⟨h4,h5⟩:=H.pl (H.mem hm);exact H.inj h4 hm (by rw[h5])
theorem PerH.rank(H:PerH p F l S R V)(d t:Int){ρ:Nat}(hr:RkO p (Ff F t (cn l)) d ρ):ρ=cnt S.length fun j=>OL F S d t j&&Ui R j:=by
 obtain⟨E,pv,hE,rfl⟩:=hr;obtain⟨la,A⟩:=H.P.all;have hp:=H.hp.1;obtain⟨sb,hsb⟩:∃sb,Ff F t (cn l)=sb:=⟨_,rfl⟩
 have hids:∀{d c},c∈By sb d<->∃y,y∈cn l/\Ed (BQ F) y.id<=t/\y.dim=d/\y.id=c:=fun {d c}=>by rw[<-hsb];exact H.ids
 have hcel:∀{y},y∈cn l->Ed (BQ F) y.id<=t->Gn sb y.id=y:=fun {y} hy h=>by
  refine C3 ?_ ?_
  ·rw[<-hsb];exact H.G.nd.sublist (List.filter_sublist.map _)
  ·rw[<-hsb];exact mem_sub.2 ⟨hy,h⟩
 rw[hsb]at hE
 have hgc:∀k,k<(By sb d).length->∃y,y∈cn l/\Ed (BQ F) y.id<=t/\y.dim=d/\y.id=(By sb d).getD k 0:=fun k hk=>by refine hids.1 ?_;rw[show(By sb d).getD k 0=(By sb d)[k] by simp[List.getD,hk]];exact getElem_mem hk
 have hgr:∀k,k<(By sb (d-1)).length->∃y,y∈cn l/\Ed (BQ F) y.id<=t/\y.dim=d-1/\y.id=(By sb (d-1)).getD k 0:=fun k hk=>by refine hids.1 ?_;rw[show(By sb (d-1)).getD k 0=(By sb (d-1))[k] by simp[List.getD,hk]];exact getElem_mem hk
 refine TU (N:=S.length) (D:=EM S) (q:=fun k=>Uh S ((By sb d).getD k 0)) (ρ:=fun i=>Uh S ((By sb (d-1)).getD i 0)) (b:=OL F S d t) H.hp.fld hE.red (fun k hk=>?_) (fun k hk=>?_) (fun i hi k hk=>?_) (fun x hx k hk hno=>?_) (fun j hj=>?_) (fun j i=>(R j).getD i 0) (fun j i=>(V j).getD i 0) (fun j hj hb i hi=>?_) (fun j hj hb=>?_) (fun j m hj hb hm=>?_) (fun j m hj hm hb hv=>?_) (Ui R) (fun j=>(Bm (R j)).toNat) (fun j hj hb hn i hi=>?_) (fun j hj hb hn=>?_) (fun j k hj hk hb hb' hn hn' e=>?_)
 ·obtain⟨y,h1,_,_,e⟩:=hgc k hk;rw[<-e];exact(H.pl h1).1
 ·obtain⟨y,h1,_,_,e⟩:=hgr k hk;rw[<-e];exact(H.pl h1).1
 ·obtain⟨y,h1,h2,_,e⟩:=hgc k hk;obtain⟨z,h3,h4,_,e'⟩:=hgr i hi;refine(Cg.mod p _).trans (Cg.of_eq ?_);show Is sb d i k=EM S (Uh S ((By sb (d-1)).getD i 0)) (Uh S ((By sb d).getD k 0));unfold Is EM;rw[<-e,<-e',hcel h1 h2,(H.pl h1).2,(H.pl h3).2]
 ·obtain⟨y,h1,h2,h3,e⟩:=hgc k hk;refine Cg.of_eq (Classical.byContradiction fun hne=>?_);have hne:sgn (Dl S (Uh S ((By sb d).getD k 0))).sd (Dl S x).id≠0:=hne;rw[<-e,(H.pl h1).2]at hne;obtain⟨s,hs,es⟩:=M1 hne;obtain⟨z,hz,ez,dz⟩:=H.G.sid y h1 s hs;have hm:=H.mon y h1 s hs;have hmem:z.id∈By sb (d-1):=hids.2 ⟨z,hz,by rw[ez];omega,by omega,rfl⟩;obtain⟨i,hi,ei⟩:=getElem_of_mem hmem;refine hno i hi ?_;show Uh S ((By sb (d-1)).getD i 0)=x;rw[show(By sb (d-1)).getD i 0=(By sb (d-1))[i] by simp[List.getD,hi],ei];exact H.inj (H.pl hz).1 hx (by rw[(H.pl hz).2,ez,es])
 ·rw[inA_iff];constructor
  ·rintro⟨h1,h2⟩;have hmem:(Dl S j).id∈By sb d:=hids.2 ⟨_,H.mem hj,h2,h1,rfl⟩;obtain⟨k,hk,ek⟩:=getElem_of_mem hmem;refine⟨k,hk,?_⟩;show Uh S ((By sb d).getD k 0)=j;rw[show(By sb d).getD k 0=(By sb d)[k] by simp[List.getD,hk],ek];exact H.inj (H.pl (H.mem hj)).1 hj (by rw[(H.pl (H.mem hj)).2])
  ·rintro⟨k,hk,rfl⟩;obtain⟨y,h1,h2,h3,e⟩:=hgc k hk;show(Dl S (Uh S ((By sb d).getD k 0))).dim=d/\fs F S (Uh S ((By sb d).getD k 0))<=t;unfold fs;rw[<-e,(H.pl h1).2];exact⟨h3,h2⟩
 ·refine((H.col j hj).eq i hi).trans (Cg.of_eq ?_);unfold HQ;exact Bg fun k _=>Int.mul_comm _ _
 ·exact(H.col j hj).one
 ·exact(H.col j hj).aft m hm
 ·have C:=H.col j hj;have h1:=C.vd m hm hv;have h2:m<=j:=Nat.le_of_not_lt fun h=>hv (C.aft m h);have h3:=H.fmono h2 hj;rw[inA_iff]at hb ⊢;exact⟨by omega,by omega⟩
 ·have hn:¬0<=Bm (R j):=of_decide_eq_false hn;show Cg p ((R j).getD i 0) 0;rw[Mc (by omega) i];exact Cg.refl p 0
 ·have hn:=nzA_iff.1 hn;have e:Bm (R j)=((Bm (R j)).toNat:Int):=by omega
  obtain⟨h1,h2,h3⟩:=EH e;rw[(H.col j hj).rl]at h1;refine⟨h1,fun hd=>h2 ?_,fun i hi _=>?_⟩
  ·exact Cg.eq (cgz.2 hd) (Gm (by omega) (A.red.rr j hj) _) ⟨by omega,by omega⟩
  ·show p∣(R j).getD i 0;rw[h3 i hi];exact Int.dvd_zero p
 ·have hn:=nzA_iff.1 hn;have hn':=nzA_iff.1 hn';have e:(Bm (R j)).toNat=(Bm (R k)).toNat:=e;exact H.uniq hj hk hn (by omega)
theorem PerH.betti(H:PerH p F l S R V)(t D:Int)(rk:Nat->Nat)(hD:Rm (Ff F t (cn l)) D)(h0:rk 0=0)(hrk:∀n:Nat,n<(D+1).toNat->RkO p (Ff F t (cn l)) (n+1) (rk (n+1)))(d:Nat) :
  (((Gg (Ed (BQ F)) S (Fy S R) S.length).filter (Br.at d t)).length:Int)=if d<(D+1).toNat then(NF (Ff F t (cn l)) rk (D+1).toNat).getD d 0 else 0:=by
 have h1:=H.bars d t;split
 ·rename_i hd
  have h2:(NF (Ff F t (cn l)) rk (D+1).toNat).getD d 0=((By (Ff F t (cn l)) d).length:Int)-rk d-rk (d+1):=by unfold NF;simp[List.getD,hd]
  have h3:=H.rank _ _ (hrk d hd)
  have h4:rk d=cnt S.length fun j=>OL F S d t j&&Ui R j:=by
   cases d with
   | zero=>
    rw[h0,RM];intro j hj;refine Bool.eq_false_iff.2 fun h=>?_;rw[Bool.and_eq_true,inA_iff,nzA_iff]at h;have e:Bm (R j)=((Bm (R j)).toNat:Int):=by omega
    obtain⟨h5,h6⟩:=H.low_lt hj e;have:=H.G.dim _ (H.mem (i:=(Bm (R j)).toNat) (by omega));have:=h.1.1;omega
   | succ d=>
    exact H.rank _ _ (hrk d (by omega))
  rw[h2,h4,h3,H.nIds,h1];omega
 ·rename_i hd
  have h2:cnt S.length (OL F S d t)=0:=RM fun j hj=>by refine Bool.eq_false_iff.2 fun h=>?_;obtain⟨h3,h4⟩:=inA_iff.1 h;have h5:=hD.2.1 _ (mem_sub.2 ⟨H.mem hj,h4⟩);have:=hD.1;omega
  omega
end
end Go.Proofs.Q
namespace Go.Proofs.Q
open Go.Eng Go.RowKit Go.Lin Go.Kuhn
variable {o:List Cl}
structure Z5(o:List Cl)(F:List (Int×Int)):Prop where
 fst:F.map Prod.fst=o.map Cl.id
 bd:∀q∈F,-2000000000<=q.2/\q.2<=2000000000
 at_:∀i,i<o.length->fo F o i=(F.getD i (0,0)).2
 chk:HM o F=(0,0)
 bI:∀c,-2000000000<=Ed (BQ F) c/\Ed (BQ F) c<=2000000000
 mon:∀x∈o,∀s∈x.sd,Ed (BQ F) s.1<=Ed (BQ F) x.id
theorem XS(G:Rgt o)(L:List Int)(c:Int):-2000000000<=ON o L c/\ON o L c<=2000000000:=by
 unfold ON;refine⟨?_,?_⟩
 ·have:=((Ks L (GY L (PH o c)) (PH o c)).1 (Int.le_refl _)).1;omega
 ·refine Int.le_trans ((Ks L 100 (PH o c)).2 ⟨by omega,fun k hk=>?_⟩) (by omega);obtain⟨y,hy,rfl⟩:=List.mem_map.1 (cloL_mem.1 hk).1;have h1:=G.pos _ hy;have:=Aa6 L (k:=y.id) (by omega);omega
theorem Ts(G:Rgt o)(L:List Int){x:Cl}(hx:x∈o){s:Int×Int}(hs:s∈x.sd):ON o L s.1<=ON o L x.id:=by refine Jw fun k hk=>?_;rw[cloL_mem]at hk ⊢;refine⟨hk.1,Rch.trans (Rch.step (Rch.refl _) ?_) hk.2⟩;unfold R0;rw[C3 G.nd hx];exact List.mem_map.2 ⟨s,hs,rfl⟩
theorem Zy(G:Rgt o)(w:Int->Int)(hb:∀y∈o,-2000000000<=w y.id/\w y.id<=2000000000)(hm:∀x∈o,∀s∈x.sd,w s.1<=w x.id):Z5 o (o.map fun x=>(x.id,w x.id)):=by
 obtain⟨F,hF⟩:∃F,(o.map fun x=>(x.id,w x.id))=F:=⟨_,rfl⟩
 have e0:F=o.map fun x=>(x.id,w x.id):=hF.symm;have e1:F.map Prod.fst=o.map Cl.id:=by rw[e0,map_map];rfl
 have hnd:(F.map Prod.fst).Nodup:=by rw[e1];exact G.nd
 have hat:∀x∈o,Ed (BQ F) x.id=w x.id:=fun x hx=>WW hnd (by rw[e0];exact List.mem_map.2 ⟨x,hx,rfl⟩)
 have hmon:∀x∈o,∀s∈x.sd,Ed (BQ F) s.1<=Ed (BQ F) x.id:=fun x hx s hs=>by obtain⟨y,hy,e,_⟩:=G.sid x hx s hs;rw[hat x hx,<-e,hat y hy,e];exact hm x hx s hs
 rw[hF];refine⟨e1,fun q hq=>?_,fun i hi=>?_,Uw (fun j hj=>?_) (fun j hj=>?_) (fun j hj=>?_),fun c=>?_,hmon⟩
 ·rw[e0]at hq;obtain⟨x,hx,rfl⟩:=List.mem_map.1 hq;exact hb x hx
 ·have h1:o.getD i default=o[i]:=by simp[List.getD,hi]
  unfold fo;rw[h1,hat _ (getElem_mem hi),e0];simp[List.getD,hi]
 ·have hjo:j<o.length:=by rw[e0,length_map]at hj;exact hj
  have h1:(F.getD j (0,0)).1=o[j].id:=by rw[e0];simp[List.getD,hjo]
  unfold fA;rw[h1,EF G.nd (getElem_mem hjo),if_neg (by simp),if_neg fun h=>?_];obtain⟨q,hq,e⟩:=List.mem_map.1 h;obtain⟨i,hi,rfl⟩:=getElem_of_mem hq;rw[length_take]at hi;have hp:=List.pairwise_iff_getElem.1 G.nd i j (by simp;omega) (by simpa using hjo) (by omega);rw[getElem_map,getElem_map]at hp;refine hp ?_;rw[List.getElem_take]at e;rw[<-e];simp only[e0,getElem_map]
 ·unfold fB;rw[if_neg];intro h;refine h ?_;rw[e1];exact List.mem_map.2 ⟨_,F8 hj,rfl⟩
 ·unfold fC;rw[if_neg];rintro⟨s,hs,h⟩;have:=hmon _ (F8 hj) s hs;unfold Ed at this;unfold IS at h;omega
 ·unfold Ed;cases h:Bf (BQ F) c with
  | none=>simp
  | some x=>
   have hc:c∈(BQ F).map Prod.fst:=Classical.byContradiction fun hn=>by rw[Dd hn]at h;cases h
   rw[SY,e1]at hc;obtain⟨y,hy,rfl⟩:=List.mem_map.1 hc;have:=hat y hy;unfold Ed at this;rw[h]at this;rw[this];exact hb y hy
theorem Aas(G:Rgt o)(L:List Int):Z5 o (Hb o L o.length):=by
 have:=Zy G (ON o L) (fun y _=>XS G L y.id) fun x hx s hs=>Ts G L hx hs;unfold Hb
 rwa [take_length]
end Go.Proofs.Q
namespace Go.Proofs.Q
open Go.Eng Go.RowKit
variable {t k d y s a:Int}
def CW(k a:Int):Int:=if k=1 then a else a*k%211+1
def Qh(t x s:Int):Int:=if 1<t/\x%t=1 then -s else s
def Ri(t d y s:Int):Int:=if(1<t/\1<d)/\y%t=1 then -s else s
def IC(k t:Int)(c:Cl):Cl:=⟨CW k c.id,c.dim,c.sd.map fun r=>(CW k r.1,Ri t c.dim r.1 (Qh t c.id r.2))⟩
def uS(t x:Int):Int:=if 1<t/\x%t=1 then -1 else 1
theorem AaY(t x:Int):uS t x*uS t x=1:=by unfold uS;split<;>decide
theorem QD(t x s:Int):Qh t x s=uS t x*s:=by unfold Qh uS;split<;>omega
theorem WN(h:1<d):Ri t d y s=uS t y*s:=by
 unfold Ri uS;by_cases h1:1<t/\y%t=1
 ·rw[if_pos ⟨⟨h1.1,h⟩,h1.2⟩,if_pos h1];omega
 ·rw[if_neg (fun q=>h1 ⟨q.1.1,q.2⟩),if_neg h1];omega
theorem Uz(h:¬1<d):Ri t d y s=s:=if_neg fun q=>h q.1.2
theorem Aak{x:Int}(h:s=1\/s=-1):Ri t d y (Qh t x s)=1\/Ri t d y (Qh t x s)=-1:=by unfold Ri Qh;split<;>split<;>omega
theorem YL{b:Int}(hk:k=1\/k=3\/k=5)(ha:1<=a/\a<=210)(hb:1<=b/\b<=210)(h:CW k a=CW k b):a=b:=by
 unfold CW at h;rcases hk with rfl|rfl|rfl
 ·simpa using h
 ·rw[if_neg (by decide),if_neg (by decide)]at h;omega
 ·rw[if_neg (by decide),if_neg (by decide)]at h;omega
theorem X9(ha:1<=a):1<=CW k a:=by
 unfold CW;split
 ·exact ha
 ·have:=Int.emod_nonneg (a*k) (show(211:Int)≠0 by decide);omega
theorem Aae(ha:a<=1000):CW k a<=1000:=by
 unfold CW;split
 ·exact ha
 ·have:=Int.emod_lt_of_pos (a*k) (show(0:Int)<211 by decide);omega
theorem Hr(f:Int×Int×Int->Int)(g:Int×Int×Int->Int)(κ:Int):∀T:F4,(∀e∈T,f e=κ*g e)->(T.map f).sum=κ*(T.map g).sum
 | [],_=>by simp
 | e::T,h=>by rw[map_cons,map_cons,sum_cons,sum_cons,h e Mh,Hr f g κ T fun e he=>h e (List.mem_cons_of_mem _ he),Int.mul_add]
theorem GoodT.ren{T:F4}{s s':List (Int×Int)}(G:GoodT T s)(φ κ:Int->Int)(hφ:∀e∈T,∀e'∈T,φ e.2.1=φ e'.2.1->e.2.1=e'.2.1)(hs:∀a∈s',∃b∈s,a.1=φ b.1):GoodT (T.map fun e=>(φ e.1,φ e.2.1,κ e.2.1*e.2.2)) s' where
 sum:=fun e' he'=>by
  obtain⟨e,he,rfl⟩:=List.mem_map.1 he';have h1:=G.sum e he;unfold D6 at *;rw[map_map,Hr _ (fun e'=>if e'.2.1=e.2.1 then e'.2.2 else 0) (κ e.2.1) T fun e' he'=>?_,h1,Int.mul_zero];show(if φ e'.2.1=φ e.2.1 then κ e'.2.1*e'.2.2 else 0)=_;by_cases h:e'.2.1=e.2.1
  ·rw[if_pos h,h,if_pos rfl]
  ·rw[if_neg h,if_neg fun q=>h (hφ _ he' _ he q),Int.mul_zero]
 two:=fun e' he'=>by
  obtain⟨e,he,rfl⟩:=List.mem_map.1 he';have h1:=G.two e he;unfold Fs at *;rw[map_map,Hr _ (fun e'=>if e'.2.1=e.2.1 then 1 else 0) 1 T fun e' he'=>?_,h1]
  ·rfl
  show(if φ e'.2.1=φ e.2.1 then(1:Int) else 0)=_;by_cases h:e'.2.1=e.2.1
  ·rw[if_pos h,h,if_pos rfl];rfl
  ·rw[if_neg h,if_neg fun q=>h (hφ _ he' _ he q)];rfl
 con:=fun a ha b hb=>by
  obtain⟨a',ha',ea⟩:=hs a ha;obtain⟨b',hb',eb⟩:=hs b hb;rw[ea,eb];have h:=G.con a' ha' b' hb';generalize a'.1=x at *;generalize b'.1=y at *;clear ea eb
  induction h with
  | refl=>exact .refl _
  | step _ h1 h2 ih=>exact .step ih (List.mem_map.2 ⟨_,h1,rfl⟩) (List.mem_map.2 ⟨_,h2,rfl⟩)
theorem Rgt.ren{l:List Cl}(R:Rgt l)(hk:k=1\/k=3\/k=5)(hb:∀x∈l,x.id<=210):Rgt (l.map (IC k t)):=by
 have hi:∀x∈l,∀y∈l,CW k x.id=CW k y.id->x.id=y.id:=fun x hx y hy h=>YL hk ⟨R.pos x hx,hb x hx⟩ ⟨R.pos y hy,hb y hy⟩ h
 have hsi:∀x∈l,∀y∈l,∀s∈x.sd,∀r∈y.sd,CW k s.1=CW k r.1->s.1=r.1:=fun x hx y hy s hs r hr h=>by obtain⟨a,ha,e,_⟩:=R.sid x hx s hs;obtain⟨b,hb,e',_⟩:=R.sid y hy r hr;rw[<-e,<-e']at h ⊢;exact hi a ha b hb h
 have hnd:((l.map (IC k t)).map Cl.id).Nodup:=by rw[map_map];have:=List.pairwise_map.1 R.nd;refine List.pairwise_map.2 (this.imp_of_mem fun {a b} ha hb hne e=>hne (hi a ha b hb e))
 refine⟨by rw[length_map];exact R.n,hnd,fun x' hx'=>?_,fun x' hx'=>?_,fun x' hx'=>?_,fun x' hx'=>?_,fun x' hx' s' hs'=>?_,fun x' hx' s' hs'=>?_,fun x' hx' hd=>?_,fun x' hx' hd=>?_⟩<;>obtain⟨x,hx,rfl⟩:=List.mem_map.1 hx'
 ·exact X9 (R.pos x hx)
 ·exact R.dim x hx
 ·have:=R.num x hx;unfold BP at *;show ¬((x.dim=0/\0<(x.sd.map _).length)\/(x.dim=1/\(x.sd.map _).length≠2)\/(1<x.dim/\((x.sd.map _).length<2\/64<(x.sd.map _).length)));rw[length_map];exact this
 ·show((x.sd.map _).map Prod.fst).Nodup;rw[map_map];have:=List.pairwise_map.1 (R.sds x hx);exact List.pairwise_map.2 (this.imp_of_mem fun {a b} ha hb hne e=>hne (hsi x hx x hx a ha b hb e))
 ·obtain⟨s,hs,rfl⟩:=List.mem_map.1 hs';obtain⟨y,hy,e1,e2⟩:=R.sid x hx s hs;exact⟨_,List.mem_map.2 ⟨y,hy,rfl⟩,by show CW k y.id=CW k s.1;rw[e1],e2⟩
 ·obtain⟨s,hs,rfl⟩:=List.mem_map.1 hs';exact Aak (R.sgn x hx s hs)
 ·have hd:x.dim=1:=hd;have h1:=R.one x hx hd;show((x.sd.map _).map Prod.snd).sum=0;rw[map_map]
  have h2:(x.sd.map (Prod.snd∘fun r=>(CW k r.1,Ri t x.dim r.1 (Qh t x.id r.2))))=x.sd.map fun r=>uS t x.id*r.2:=List.map_congr_left fun r _=>by show Ri t x.dim r.1 (Qh t x.id r.2)=_;rw[Uz (by omega),QD]
  have h3:∀L:List (Int×Int),(L.map fun r=>uS t x.id*r.2).sum=uS t x.id*(L.map Prod.snd).sum:=fun L=>by
   induction L with
   | nil=>simp
   | cons r L ih=>simp only[map_cons,sum_cons,ih,Int.mul_add]
  rw[h2,h3,h1,Int.mul_zero]
 ·have hd:2<=x.dim:=hd
  let κ:Int->Int:=fun c=>uS t x.id*if 2<x.dim then uS t c else 1
  have hT:FZ (l.map (IC k t)) (IC k t x)=(FZ l x).map fun e=>(CW k e.1,CW k e.2.1,κ e.2.1*e.2.2):=by
   unfold FZ Lk;show(x.sd.map _).flatMap _=_;rw[List.flatMap_map,List.map_flatMap];refine Ep fun s hs=>?_;obtain⟨y,hy,e1,e2⟩:=R.sid x hx s hs
   have h1:Gn (l.map (IC k t)) (CW k s.1)=IC k t y:=by rw[<-e1];exact C3 hnd (List.mem_map.2 ⟨y,hy,rfl⟩)
   have h2:Gn l s.1=y:=by rw[<-e1];exact C3 R.nd hy
   show List.map (fun r=>(CW k s.1,r.1,Ri t x.dim s.1 (Qh t x.id s.2)*r.2)) (Gn (l.map (IC k t)) (CW k s.1)).sd=List.map _ (List.map (fun r=>(s.1,r.1,s.2*r.2)) (Gn l s.1).sd);rw[h1,h2,map_map];show List.map _ (y.sd.map _)=_;rw[map_map];refine List.map_congr_left fun r hr=>?_;show(CW k s.1,CW k r.1,Ri t x.dim s.1 (Qh t x.id s.2)*Ri t y.dim r.1 (Qh t y.id r.2))=(CW k s.1,CW k r.1,κ r.1*(s.2*r.2));have h3:=AaY t s.1;rw[WN (by omega),QD,QD,e1];congr 2;by_cases hd3:2<x.dim
   ·rw[WN (by omega)];simp only[κ];rw[if_pos hd3];generalize uS t s.1=a at *;generalize uS t x.id=b at *;generalize uS t r.1=c at *;have q1:a*(b*s.2)*(c*(a*r.2))=(a*a)*(b*c*(s.2*r.2)):=by simp only[Int.mul_assoc,Int.mul_comm,Int.mul_left_comm]
    rw[q1,h3,Int.one_mul]
   ·rw[Uz (by omega)];simp only[κ];rw[if_neg hd3,Int.mul_one];generalize uS t s.1=a at *;generalize uS t x.id=b at *;have q1:a*(b*s.2)*(a*r.2)=(a*a)*(b*(s.2*r.2)):=by simp only[Int.mul_assoc,Int.mul_comm,Int.mul_left_comm]
    rw[q1,h3,Int.one_mul]
  rw[hT]
  have hin:∀e∈FZ l x,∃z∈l,z.id=e.2.1:=fun e he=>by unfold FZ Lk at he;obtain⟨s,hs,h1⟩:=List.mem_flatMap.1 he;obtain⟨r,hr,rfl⟩:=List.mem_map.1 h1;obtain⟨y,hy,e1,_⟩:=R.sid x hx s hs;have hr:r∈(Gn l s.1).sd:=hr;rw[<-e1,C3 R.nd hy]at hr;obtain⟨z,hz,e3,_⟩:=R.sid y hy r hr;exact⟨z,hz,e3⟩
  refine(R.tab x hx hd).ren (CW k) κ (fun e he e' he' q=>?_) fun a ha=>?_
  ·obtain⟨z,hz,e1⟩:=hin e he;obtain⟨z',hz',e2⟩:=hin e' he';rw[<-e1,<-e2]at q ⊢;exact hi z hz z' hz' q
  ·obtain⟨s,hs,rfl⟩:=List.mem_map.1 ha;exact⟨s,hs,rfl⟩
end Go.Proofs.Q
namespace Go.Proofs.Q
open Go.Proofs.Tryz
open Go.Eng Go.RowKit
def QU(b:Int):Int:=1+2*(b.tdiv 7%3)
def X8(b:Int):Int:=b.tdiv 5%4
theorem Vp(b:Int):QU b=1\/QU b=3\/QU b=5:=by unfold QU;omega
structure Aam(c:Cl):Prop where
 i:0<=c.id/\c.id<=100000
 n:c.sd.length<=1000
 m:∀r∈c.sd,0<=r.1/\r.1<=100000
 s:∀r∈c.sd,r.2=1\/r.2=-1
theorem LH{b k:Int}(hb:BD b)(hk:2<=k):BD (b.tdiv k):=by obtain⟨h1,h2⟩:=hb;have h3:(b.tdiv k).natAbs=b.natAbs/k.natAbs:=Int.natAbs_tdiv b k;have h4:b.natAbs/k.natAbs<=b.natAbs/2:=Nat.div_le_div_left (by omega) (by decide);exact⟨by omega,by omega⟩
theorem Rgt.rn{l:List Cl}(R:Rgt l)(hb:∀x∈l,x.id<=100000):∀x∈l,Aam x:=fun x hx=>by have h1:=R.num x hx;have h2:=R.dim x hx;unfold BP at h1;refine⟨⟨by have:=R.pos x hx;omega,hb x hx⟩,by omega,fun r hr=>?_,R.sgn x hx⟩;obtain⟨y,hy,e,_⟩:=R.sid x hx r hr;have:=R.pos y hy;have:=hb y hy;omega
theorem L4(l:List Ce)(v:Value)(b:Int)(hp:Hp)(hb:BD b)(hn:l.length<=4000)(hK:∀a∈l,Aam a.c)(hR:RdC hp v l):FnT Tryz.prog 110 #[.agg #[v],.int .i64 b] hp [] (fun r h' ms'=>hp.le h'/\ZV h' r ms' fun o=>o=ordF ((l.map Ce.c).map (IC (QU b) (X8 b)))):=by
 have o1:=hR.q.rd.one;have hd7:=LH hb (k:=7) (by decide);have hd5:=LH hb (k:=5) (by decide);have h71:=hd7.1;have hb1:=hb.1;have hb2:=hb.2;have h72:=hd7.2;have h51:=hd5.1;have h52:=hd5.2;refine Ao func110 ntmps110 rfl rfl (fun w0 hw0=>?_);simp only[AU];refine As (AS [_] rfl rfl (by rfl) rfl rfl rfl (fun g2=>CC [.slice none 0 0] rfl A6 rfl rfl (fun g4=>An (BH 1 rfl fun h1 l1 hS=>?_))));have hR:=hR.up l1;refine As (Qm rfl (Qx (M6 rfl rfl rfl (by omega) (by omega)) rfl (Qx (AF rfl call34 rfl (E2 (b.tdiv 7) 3 hd7 (by decide) h1 _)) rfl (Qx (oM rfl) rfl (Qx (oA rfl) rfl (Qm rfl (Bv (Qm rfl (Qx (M6 rfl rfl rfl (by omega) (by omega)) rfl (Qx (AF rfl call34 rfl (E2 (b.tdiv 5) 4 hd5 (by decide) h1 _)) rfl (Qm rfl (An ?_))))))))))));obtain⟨k,hk⟩:∃k,QU b=k:=⟨_,rfl⟩
 obtain⟨t,ht⟩:∃t,X8 b=t:=⟨_,rfl⟩
 have hk':1+2*(b.tdiv 7%3)=k:=hk;have ht':b.tdiv 5%4=t:=ht;rw[hk,ht,hk',ht'];have hk3:1<=k/\k<=5:=by have:=Vp b;omega
 have ht3:0<=t/\t<=3:=by omega
 have hA:=Seg.all hS;have c0:∀ms,Cell h1 ms (⟨g2,0,none⟩:Addr) v:=fun ms=>hA 0 _ rfl ms;refine As (CC [.slice none 0 0] rfl A6 rfl rfl (fun g7=>An (BB ?_)));refine A3 (fun sl h' ms'=>∃(vO:Value) (mO:Hp) (O:List Ce),sl=[(4,.pointer (some ⟨g4,0,none⟩)),(7,.pointer (some ⟨g7,0,none⟩))]/\h1.le h'/\ms'=[mO,A7 g7 29 [vO],A7 g4 29 [.slice none 0 0]]/\OwnL cC 3 52 mO vO O/\O.map Ce.c=(l.map Ce.c).map (IC k t)/\∀a∈O,RdL cD 2 h' [] a.v a.c.sd) ?_ (fun s h ms hI=>?_)
 ·refine Ac (Ad (Qm rfl (An (Ae ?_))))
  refine Az (fun q sl h' ms'=>∃(i:Nat) (vO:Value) (mO:Hp) (O:List Ce),q=l.length-i/\sl=[(2,.pointer (some ⟨g2,0,none⟩)),(4,.pointer (some ⟨g4,0,none⟩)),(5,.int .i64 k),(6,.int .i64 t),(7,.pointer (some ⟨g7,0,none⟩)),(8,.int .i64 i)]/\h1.le h'/\ms'=[mO,A7 g7 29 [vO],A7 g4 29 [.slice none 0 0]]/\i<=l.length/\OwnL cC 3 52 mO vO O/\O.map Ce.c=((l.take i).map Ce.c).map (IC k t)/\∀a∈O,RdL cD 2 h' [] a.v a.c.sd)
   (l.length-0) _ ⟨0,_,Hp.emp,[],rfl,rfl,CY,rfl,by omega,OwnL.nil B3,rfl,fun a ha=>nomatch ha⟩ Qs ?_
  rintro q sl h2 ms' ⟨i,vO,mO,O,rfl,rfl,l2,rfl,hi,hO,hOc,hOs⟩;have hR:=hR.up l2;have ovO:=hO.o1;have hOl:O.length=i:=by have:=congrArg List.length hOc;simpa[Nat.min_eq_left hi] using this
  have c0:∀ms,Cell h2 ms (⟨g2,0,none⟩:Addr) v:=fun ms=>(c0 ms).le l2;refine Ac (As (Qm rfl (Qf B6 rfl (Ql rfl Bs (c0 _) (Qx (Ar hR.q.rd.any rfl Bs rfl) rfl (Qm rfl (An ?_)))))));refine Au rfl (fun hlt=>?_) (fun hlt=>?_)
  ·have hil:i<l.length:=by omega
   have hsx:∀ms,Seg h2 ms ((AG v).add (i*3)) (cC l[i]):=fun ms=>(hR.q.any (ms:=ms)).seg hil;obtain⟨x,hx⟩:∃x,l[i]=x:=⟨_,rfl⟩
   have hK:=hK _ (getElem_mem hil);have hSd:=hR.s _ (getElem_mem hil);have hOc':(l.take (i+1)).map Ce.c=(l.take i).map Ce.c++[x.c]:=by rw[List.take_succ_eq_append_getElem hil,map_append,hx];rfl
   rw[hx]at hK hSd;have hsx:∀ms,Seg h2 ms ((AG v).add (i*3)) (cC x):=fun ms=>by rw[<-hx];exact hsx ms
   have oxv:=hSd.rd.one;have hi1:=hK.i;refine Ah (Ab ?_);refine A3 (fun sl h' ms'=>∃(vO:Value) (mO:Hp) (O:List Ce),sl=[(2,.pointer (some ⟨g2,0,none⟩)),(4,.pointer (some ⟨g4,0,none⟩)),(5,.int .i64 k),(6,.int .i64 t),(7,.pointer (some ⟨g7,0,none⟩)),(8,.int .i64 i)]/\h2.le h'/\ms'=[mO,A7 g7 29 [vO],A7 g4 29 [.slice none 0 0]]/\OwnL cC 3 52 mO vO O/\O.map Ce.c=((l.take (i+1)).map Ce.c).map (IC k t)/\∀a∈O,RdL cD 2 h' [] a.v a.c.sd) ?_ (fun s h ms hI=>?_)
   ·refine Ae (As (Qf B6 rfl (Ql rfl Bs (c0 _) (Qm rfl (Qx (BS (i) hR.q.rd.any rfl Bs AI rfl rfl) rfl (Qx (oG rfl Fb AI (hsx _)) rfl (CC [.int .i64 0,.int .i64 0,.slice none 0 0] rfl AI rfl rfl (fun g9=>?_))))))));refine Sa 0 [_,_,_] AI rfl (by simp[o1,ovO,oxv]) ?_;refine An (Aw fun h3 l3 hS9=>?_);have hSd:=hSd.up l3;have e9:=Seg.all hS9;have e90:∀ms,Cell h3 ms (⟨g9,0,none⟩:Addr) (.int .i64 x.c.id):=fun ms=>e9 0 _ rfl ms;have e91:∀ms,Cell h3 ms (⟨g9,1,none⟩:Addr) (.int .i64 x.c.dim):=fun ms=>e9 1 _ rfl ms;have e92:∀ms,Cell h3 ms (⟨g9,2,none⟩:Addr) x.v:=fun ms=>e9 2 _ rfl ms;have hmx:∀ms,FnV Tryz.prog 172 #[.int .i64 x.c.id,.int .i64 k] h3 ms (.int .i64 (CW k x.c.id)):=fun ms=>RG x.c.id k (by omega) (by omega) h3 ms;refine A3 (fun sl h' ms'=>∃g10:Nat,sl=[(2,.pointer (some ⟨g2,0,none⟩)),(4,.pointer (some ⟨g4,0,none⟩)),(5,.int .i64 k),(6,.int .i64 t),(7,.pointer (some ⟨g7,0,none⟩)),(8,.int .i64 i),(9,.pointer (some ⟨g9,0,none⟩)),(10,.pointer (some ⟨g10,0,none⟩))]/\h3=h'/\ms'=[A7 g10 52 [.int .i64 (CW k x.c.id),.int .i64 x.c.dim,.slice none 0 0],mO,A7 g7 29 [vO],A7 g4 29 [.slice none 0 0]]) ?_ (fun s h ms hI=>?_)
    ·refine BF (n:=9) (bs:=[true,true,true,true,true,true,true,false,false]) [true,true,true,true,true,true,true] CP (by kernel_rfl) (by kernel_rfl) rfl rfl (QF Bz rfl (QL rfl U3 (e90 _) (Qq rfl (Qp rfl (AF rfl call172 rfl (hmx _)) (QF BM rfl (QL rfl U3 (e91 _) (Qp rfl (A0 LW [.int .i64 0,.int .i64 0,.slice none 0 0] [(0,_),(1,_)] [_,_,_] rfl AI rfl rfl Qt rfl) ?_)))))));unfold FN;simp only[cons_append,nil_append];refine Qo 7 rfl (CC [.int .i64 0,.int .i64 0,.slice none 0 0] rfl AI rfl rfl (fun g10=>Qw (Qo 8 rfl ?_)));refine Sa 0 [_,_,_] AI rfl (by simp[Value.oneCell']) ?_;refine Qw (Qe ?_);exact AA _ ⟨g10,rfl,rfl,rfl⟩ Qs
    ·obtain⟨g10,rfl,rfl,rfl⟩:=hI
     let L:Nat->List (Int×Int):=fun j=>(x.c.sd.take j).map fun r=>(CW k r.1,Ri t x.c.dim r.1 (Qh t x.c.id r.2))
     refine BB ?_;refine A3 (fun sl h' ms'=>∃(vS:Value) (mS:Hp),sl=[(2,.pointer (some ⟨g2,0,none⟩)),(4,.pointer (some ⟨g4,0,none⟩)),(5,.int .i64 k),(6,.int .i64 t),(7,.pointer (some ⟨g7,0,none⟩)),(8,.int .i64 i),(10,.pointer (some ⟨g10,0,none⟩))]/\h3.le h'/\ms'=[mS,A7 g10 52 [.int .i64 (CW k x.c.id),.int .i64 x.c.dim,vS],mO,A7 g7 29 [vO],A7 g4 29 [.slice none 0 0]]/\OwnL cD 2 119 mS vS (L x.c.sd.length)) ?_ (fun s h ms hI=>?_)
     ·refine Ac (Ad (Qm rfl (An (Ae ?_))))
      refine Az (fun q sl h' ms'=>∃(j:Nat) (vS:Value) (mS:Hp),q=x.c.sd.length-j/\sl=[(2,.pointer (some ⟨g2,0,none⟩)),(4,.pointer (some ⟨g4,0,none⟩)),(5,.int .i64 k),(6,.int .i64 t),(7,.pointer (some ⟨g7,0,none⟩)),(8,.int .i64 i),(9,.pointer (some ⟨g9,0,none⟩)),(10,.pointer (some ⟨g10,0,none⟩)),(11,.int .i64 j)]/\h3.le h'/\ms'=[mS,A7 g10 52 [.int .i64 (CW k x.c.id),.int .i64 x.c.dim,vS],mO,A7 g7 29 [vO],A7 g4 29 [.slice none 0 0]]/\j<=x.c.sd.length/\OwnL cD 2 119 mS vS (L j))
       (x.c.sd.length-0) _ ⟨0,_,Hp.emp,rfl,rfl,CY,rfl,by omega,OwnL.nil CK⟩ Qs ?_
      rintro q sl h4 ms' ⟨j,vS,mS,rfl,rfl,l4,rfl,hj,hOS⟩;have hSd:=hSd.up l4;have e90:∀ms,Cell h4 ms (⟨g9,0,none⟩:Addr) (.int .i64 x.c.id):=fun ms=>(e90 ms).le l4;have e91:∀ms,Cell h4 ms (⟨g9,1,none⟩:Addr) (.int .i64 x.c.dim):=fun ms=>(e91 ms).le l4;have e92:∀ms,Cell h4 ms (⟨g9,2,none⟩:Addr) x.v:=fun ms=>(e92 ms).le l4;have ovS:=hOS.o1;have hs1:=hK.n;refine Ac (As (Qm rfl (Qf Bu rfl (Ql rfl BL (e92 _) (Qx (Ar hSd.rd.any rfl BL rfl) rfl (Qm rfl (An ?_)))))));refine Au rfl (fun hjs=>?_) (fun hjs=>?_)
      ·have hjs:j<x.c.sd.length:=by omega
       obtain⟨r,hr⟩:∃r,x.c.sd[j]=r:=⟨_,rfl⟩
       have hrm:r∈x.c.sd:=by rw[<-hr];exact getElem_mem hjs
       have hr1:=hK.m r hrm;have hr2:=hK.s r hrm
       have hLs:L (j+1)=L j++[(CW k r.1,Ri t x.c.dim r.1 (Qh t x.c.id r.2))]:=by simp only[L];rw[List.take_succ_eq_append_getElem hjs,map_append,hr];rfl
       have hLl:(L j).length=j:=by simp[L];omega
       have r0:∀ms,Cell h4 ms ((AG x.v).add (j*2)) (.int .i64 r.1):=fun ms=>by rw[<-hr];exact(hSd.any (ms:=ms)).cell0 hjs rfl
       have r1:∀ms,Cell h4 ms (((AG x.v).add (j*2)).add 1) (.int .i64 r.2):=fun ms=>by rw[<-hr];exact(hSd.any (ms:=ms)).cell hjs (f:=1) rfl
       have hmr:∀ms,FnV Tryz.prog 172 #[.int .i64 r.1,.int .i64 k] h4 ms (.int .i64 (CW k r.1)):=fun ms=>RG r.1 k (by omega) (by omega) h4 ms;refine Ah (Ab ?_);refine A3 (fun sl h' ms'=>∃(vS:Value) (mS:Hp),sl=[(2,.pointer (some ⟨g2,0,none⟩)),(4,.pointer (some ⟨g4,0,none⟩)),(5,.int .i64 k),(6,.int .i64 t),(7,.pointer (some ⟨g7,0,none⟩)),(8,.int .i64 i),(9,.pointer (some ⟨g9,0,none⟩)),(10,.pointer (some ⟨g10,0,none⟩)),(11,.int .i64 j)]/\h4=h'/\ms'=[mS,A7 g10 52 [.int .i64 (CW k x.c.id),.int .i64 x.c.dim,vS],mO,A7 g7 29 [vO],A7 g4 29 [.slice none 0 0]]/\OwnL cD 2 119 mS vS (L (j+1))) ?_ (fun s h ms hI=>?_)
       ·refine Ae ?_;refine A3 (fun sl h' ms'=>∃g12:Nat,sl=[(2,.pointer (some ⟨g2,0,none⟩)),(4,.pointer (some ⟨g4,0,none⟩)),(5,.int .i64 k),(6,.int .i64 t),(7,.pointer (some ⟨g7,0,none⟩)),(8,.int .i64 i),(9,.pointer (some ⟨g9,0,none⟩)),(10,.pointer (some ⟨g10,0,none⟩)),(11,.int .i64 j),(12,.pointer (some ⟨g12,0,none⟩))]/\h4=h'/\ms'=[A7 g12 119 [.int .i64 (CW k r.1),.int .i64 r.2],mS,A7 g10 52 [.int .i64 (CW k x.c.id),.int .i64 x.c.dim,vS],mO,A7 g7 29 [vO],A7 g4 29 [.slice none 0 0]]) ?_ (fun s h ms hI=>?_)
        ·refine BF (n:=17) (bs:=[true,true,true,true,true,true,true,true,true,true,true,true,true,true,true,false,false]) [true,true,true,true,true,true,true,true,true,true,true,true,true,true,true] CP (by kernel_rfl) (by kernel_rfl) rfl rfl (QF Bu rfl (QL rfl BL (e92 _) (Qq rfl (Qp rfl (BS (j) hSd.rd.any rfl BL AH rfl rfl) (QF B4 rfl (QL rfl U3 (r0 _) (Qq rfl (Qp rfl (AF rfl call172 rfl (hmr _)) (QF Bu rfl (QL rfl BL (e92 _) (Qq rfl (Qp rfl (BS (j) hSd.rd.any rfl BL AH rfl rfl) (QF Cp rfl (QL rfl U3 (r1 _) (Qp rfl (A0 KW [.int .i64 0,.int .i64 0] [(0,_),(1,_)] [_,_] rfl AH rfl rfl Qt rfl) ?_)))))))))))))));unfold FN;simp only[cons_append,nil_append];refine Qo 15 rfl (CC [.int .i64 0,.int .i64 0] rfl AH rfl rfl (fun g12=>Qw (Qo 16 rfl ?_)));refine Sa 0 [_,_] AH rfl (by simp[Value.oneCell']) ?_;refine Qw (Qe ?_);exact AA _ ⟨g12,rfl,rfl,rfl⟩ Qs
        ·obtain⟨g12,rfl,rfl,rfl⟩:=hI;have ht1:∀ms,1<t->FnV Tryz.prog 173 #[.int .i64 x.c.id,.int .i64 t] h4 ms (.bool (decide (x.c.id%t=1))):=fun ms h=>Oz x.c.id t (by omega) (by omega) h4 ms;have ht2:∀ms,1<t->FnV Tryz.prog 173 #[.int .i64 r.1,.int .i64 t] h4 ms (.bool (decide (r.1%t=1))):=fun ms h=>Oz r.1 t (by omega) (by omega) h4 ms;have hsA:=hr2;obtain⟨A,hA⟩:∃A,Qh t x.c.id r.2=A:=⟨_,rfl⟩
         refine A3 (fun sl h' ms'=>sl=[(2,.pointer (some ⟨g2,0,none⟩)),(4,.pointer (some ⟨g4,0,none⟩)),(5,.int .i64 k),(6,.int .i64 t),(7,.pointer (some ⟨g7,0,none⟩)),(8,.int .i64 i),(9,.pointer (some ⟨g9,0,none⟩)),(10,.pointer (some ⟨g10,0,none⟩)),(11,.int .i64 j),(12,.pointer (some ⟨g12,0,none⟩))]/\h4=h'/\ms'=[A7 g12 119 [.int .i64 (CW k r.1),.int .i64 A],mS,A7 g10 52 [.int .i64 (CW k x.c.id),.int .i64 x.c.dim,vS],mO,A7 g7 29 [vO],A7 g4 29 [.slice none 0 0]]) ?_ (fun s h ms hI=>?_)
         ·refine Ac (Ad (Qm rfl (Qm rfl (Qm rfl ?_))));refine AO (t:=64) rfl (fun g1=>?_) (fun g1=>?_)
          ·refine Qg (oF Bz rfl) rfl (Qg (oL rfl U3 (e90 _)) rfl (Qg (Ay rfl rfl) rfl (Qg (AF rfl call173 rfl (ht1 _ g1)) rfl (Qm rfl (An ?_)))));refine Au rfl (fun g2=>?_) (fun g2=>?_)
           ·have eA:A=-r.2:=by rw[<-hA];exact if_pos ⟨g1,g2⟩
            refine Ad (Qf Cp rfl (Ql rfl U3 (Cell.blk 0 rfl rfl) (Qx (Qv rfl rfl (by omega)) rfl (Qf Cp rfl ?_))));refine AK 0 _ rfl Be rfl rfl (by rfl) rfl rfl (by(simp;done)) rfl rfl ?_;refine Aj ?_;exact AA _ ⟨rfl,rfl,by rw[eA];rfl⟩ Qs
           ·have eA:A=r.2:=by rw[<-hA];exact if_neg fun q=>g2 q.2
            refine Ah ?_;exact AA _ ⟨rfl,rfl,by rw[eA]⟩ Qs
          ·have eA:A=r.2:=by rw[<-hA];exact if_neg fun q=>g1 q.1
           refine Qk rfl (Qk rfl (Qk rfl (Qk rfl (Qm rfl (An (AQ rfl (Ah ?_)))))));exact AA _ ⟨rfl,rfl,by rw[eA]⟩ Qs
         ·obtain⟨rfl,rfl,rfl⟩:=hI
          have hA1:A=1\/A=-1:=by rw[<-hA];unfold Qh;split<;>omega
          obtain⟨B,hB⟩:∃B,Ri t x.c.dim r.1 A=B:=⟨_,rfl⟩
          rw[hA,hB]at hLs;refine A3 (fun sl h' ms'=>sl=[(2,.pointer (some ⟨g2,0,none⟩)),(4,.pointer (some ⟨g4,0,none⟩)),(5,.int .i64 k),(6,.int .i64 t),(7,.pointer (some ⟨g7,0,none⟩)),(8,.int .i64 i),(9,.pointer (some ⟨g9,0,none⟩)),(10,.pointer (some ⟨g10,0,none⟩)),(11,.int .i64 j),(12,.pointer (some ⟨g12,0,none⟩))]/\h4=h'/\ms'=[A7 g12 119 [.int .i64 (CW k r.1),.int .i64 B],mS,A7 g10 52 [.int .i64 (CW k x.c.id),.int .i64 x.c.dim,vS],mO,A7 g7 29 [vO],A7 g4 29 [.slice none 0 0]]) ?_ (fun s h ms hI=>?_)
          ·refine Ac (Ad (Qm rfl (Qm rfl (Qm rfl ?_))));refine AO (t:=76) rfl (fun g1=>?_) (fun g1=>?_)
           ·refine Qg (oF BM rfl) rfl (Qg (oL rfl U3 (e91 _)) rfl (Qg (Cc rfl rfl rfl) rfl (Qm rfl (Qm rfl ?_))));refine AO (t:=81) rfl (fun g2=>?_) (fun g2=>?_)
            ·refine Qg (oF Bu rfl) rfl (Qg (oL rfl BL (e92 _)) rfl (Qg (Ay rfl rfl) rfl (Qg (BS (j) hSd.rd.any rfl BL AH rfl rfl) rfl (Qg (oF B4 rfl) rfl (Qg (oL rfl U3 (r0 _)) rfl (Qg (Ay rfl rfl) rfl (Qg (AF rfl call173 rfl (ht2 _ g1)) rfl (Qm rfl (An ?_)))))))));refine Au rfl (fun g3=>?_) (fun g3=>?_)
             ·have eB:B=-A:=by rw[<-hB];exact if_pos ⟨⟨g1,g2⟩,g3⟩
              refine Ad (Qf Cp rfl (Ql rfl U3 (Cell.blk 0 rfl rfl) (Qx (Qv rfl rfl (by omega)) rfl (Qf Cp rfl ?_))));refine AK 0 _ rfl Be rfl rfl (by rfl) rfl rfl (by(simp;done)) rfl rfl ?_;refine Aj ?_;exact AA _ ⟨rfl,rfl,by rw[eB];rfl⟩ Qs
             ·have eB:B=A:=by rw[<-hB];exact if_neg fun q=>g3 q.2
              refine Ah ?_;exact AA _ ⟨rfl,rfl,by rw[eB]⟩ Qs
            ·have eB:B=A:=by rw[<-hB];exact if_neg fun q=>g2 q.1.2
             refine Qk rfl (Qk rfl (Qk rfl (Qk rfl (Qk rfl (Qk rfl (Qk rfl (Qk rfl (Qm rfl (An (AQ rfl (Ah ?_)))))))))));exact AA _ ⟨rfl,rfl,by rw[eB]⟩ Qs
           ·have eB:B=A:=by rw[<-hB];exact if_neg fun q=>g1 q.1.1
            refine Qk rfl (Qk rfl (Qk rfl (Qm rfl (Qm rfl (Qk rfl (Qk rfl (Qk rfl (Qk rfl (Qk rfl (Qk rfl (Qk rfl (Qk rfl (Qm rfl (An (AQ rfl (Ah ?_))))))))))))))));exact AA _ ⟨rfl,rfl,by rw[eB]⟩ Qs
          ·obtain⟨rfl,rfl,rfl⟩:=hI;refine Ad (Qf Bu rfl (Ql rfl BL (Cell.blk 2 rfl rfl) (Qx (oG rfl DJ AH (Seg.blk 0 rfl)) rfl (Aq [_,_] rfl BL AH rfl (by rfl) rfl rfl (by omega) rfl rfl rfl (fun g98=>AM 2 hOS (RdL.one CK (x:=(CW k r.1,B)) Mh rfl) rfl BL AH rfl (by omega) rfl rfl rfl DT (by(try simp only[length_singleton]);omega) (by(try simp only[length_singleton]);omega) rfl rfl rfl (fun v9 m9 hO9=>?_))))));rw[<-hLs]at hO9;have ov9:=hO9.o1;refine Qf Bu rfl ?_;refine AK 3 _ rfl Pb rfl rfl (by assumption) rfl rfl (by(simp;done)) rfl rfl ?_;refine Aj (Ai (Bp 0 rfl (Bp 0 rfl ?_)));exact AA _ ⟨v9,m9,rfl,rfl,rfl,hO9⟩ Qs
       ·obtain⟨vS,mS,rfl,rfl,rfl,hOS⟩:=hI;refine Ad (Qm rfl (Qx (oA rfl) rfl (Qm rfl (Aj ?_))));exact Ak (x.c.sd.length-(j+1)) _ (by omega) ⟨j+1,vS,mS,rfl,rfl,l4,rfl,by omega,hOS⟩ Qs
      ·obtain rfl:j=x.c.sd.length:=by omega
       refine Av (Aa (Aa (Af ?_)));exact AA _ ⟨vS,mS,rfl,l4,rfl,hOS⟩ Qs
     ·obtain⟨vS,mS,rfl,l4,rfl,hOS⟩:=hI;refine BN hOS fun h5 l5 hRS=>?_;have ovS:=hRS.rd.one;have hOs:=fun a ha=>(hOs a ha).up (AJ l3 (AJ l4 l5))
      let ce:Ce:=⟨IC k t x.c,vS⟩
      have hce:RdL cD 2 h5 [] ce.v ce.c.sd:=by
       have:ce.c.sd=L x.c.sd.length:=by simp only[L];rw[take_length];rfl
       rw[this];exact hRS
      refine Ad (Qf B6 rfl (Ql rfl Bs (Cell.blk 2 rfl rfl) (Qx (oG rfl Fb AI (Seg.blk 0 rfl)) rfl (Aq [_,_,_] rfl Bs AI rfl (by rfl) rfl rfl (by omega) rfl rfl rfl (fun g104=>?_)))));refine Bj 2 hO (RdL.one B3 (x:=ce) Mh rfl) rfl Bs AI rfl (by omega) rfl rfl rfl (Df (l:=[ce]) (h:=h5) fun y hy=>by rw[List.mem_singleton.1 hy];exact hce) (by(try simp only[length_singleton]);omega) (by(try simp only[length_singleton]);omega) rfl rfl rfl (fun v9 m9 hO9=>?_);have ov9:=hO9.o1;refine Qf B6 rfl ?_;refine AK 3 _ rfl JI rfl rfl (by assumption) rfl rfl (by(simp;done)) rfl rfl ?_;refine Aj (Ai (Bp 0 rfl (Bp 0 rfl ?_)));exact AA _ ⟨v9,m9,O++[ce],rfl,AJ l3 (AJ l4 l5),rfl,hO9,by rw[map_append,hOc,hOc',map_append];rfl,RdC.snoc' hOs hce⟩ Qs
   ·obtain⟨vO,mO,O,rfl,k2,rfl,hO,hOc,hOs⟩:=hI;refine Ad (Qm rfl (Qx (oA rfl) rfl (Qm rfl (Aj ?_))));exact Ak (l.length-(i+1)) _ (by omega) ⟨i+1,vO,mO,O,rfl,rfl,AJ l2 k2,rfl,by omega,hO,hOc,hOs⟩ Qs
  ·obtain rfl:i=l.length:=by omega
   refine Av (Aa (Aa (Af ?_)));rw[take_length]at hOc;exact AA _ ⟨vO,mO,O,rfl,l2,rfl,hO,hOc,hOs⟩ Qs
 ·obtain⟨vO,mO,O,rfl,l2,rfl,hO,hOc,hOs⟩:=hI;refine BE fun h4 l4 k4=>(Aw fun h5 l5 hS3=>?_)
  have hR:RdC h5 vO O:=⟨hO.rdh (AJ k4 l5),fun a ha=>(hOs a ha).up (AJ l4 l5)⟩
  have ovO:=hR.q.rd.one;have hOl:O.length<=4000:=by have:=congrArg List.length hOc;rw[length_map,length_map,length_map]at this;omega
  have hKO:CsOk O:=⟨by omega,fun a ha=>by
   have:a.c∈(l.map Ce.c).map (IC k t):=by rw[<-hOc];exact List.mem_map.2 ⟨a,ha,rfl⟩
   obtain⟨c,hc,e⟩:=List.mem_map.1 this;obtain⟨a',ha',rfl⟩:=List.mem_map.1 hc;have h1:=(hK a' ha').n;have h2:a.c.sd.length=a'.c.sd.length:=by rw[<-e];exact length_map _
   omega⟩
  refine As (Qx (oG rfl Dt A6 (Seg.any hS3)) rfl (Qc call83 rfl (KP O vO h5 hKO hR) (fun rC h10 ms10 l10 hF=>?_)));obtain⟨l10',mC,C,vC,rfl,rfl,hOC,hC,hsC⟩:=hF;have ovC:=hOC.o1;refine Sa 1 [_] A6 rfl (by simp[ovO,ovC]) ?_;refine An (Am ?_);exact BU (vs:=[_]) 1 rfl rfl Dt rfl A6 rfl rfl (⟨AJ l1 (AJ l2 (AJ l4 (AJ l5 l10))),mC,C,_,rfl,rfl,hOC,by rw[hC,hOc],hsC⟩)
end Go.Proofs.Q
namespace Go.Proofs.Q
open Go.Eng Go.RowKit
variable {n k b m j:Nat} {all:List (List Int)} {S l t s:List Int} {f:Nat->Int}
abbrev Inc(l:List Int):Prop:=l.Pairwise (· < ·)
theorem M7{x:Int}(h:t.Sublist (l++[x])):t.Sublist l\/∃t',t=t'++[x]/\t'.Sublist l:=by
 obtain⟨t1,t2,e,h1,h2⟩:=List.sublist_append_iff.1 h
 have h3:t2=[]\/t2=[x]:=by
  cases h2 with
  | cons _ h=>exact .inl (List.sublist_nil.1 h)
  | cons_cons _ h=>exact .inr (by rw[List.sublist_nil.1 h])
 rcases h3 with rfl|rfl
 ·left;rw[e,List.append_nil];exact h1
 ·exact .inr ⟨t1,e,h1⟩
theorem Px(s:List Int)(b:Nat):∀n,n<=s.length->(EJ s b n).Sublist (s.take n)
 | 0,_=>by simp[EJ]
 | n+1,h=>by
  rw[HL,List.take_succ_eq_append_getElem (by omega)];refine(Px s b n (by omega)).append ?_;split
  ·simp[List.getD,show n<s.length by omega]
  ·simp
theorem TM{b':Nat}(h:∀k,k<n->b.testBit k=b'.testBit k):EJ s b n=EJ s b' n:=by unfold EJ;congr 1;exact List.filter_congr fun k hk=>h k (List.mem_range.1 hk)
theorem KC(s:List Int):∀n,n<=s.length->∀t:List Int,t.Sublist (s.take n)->∃b,b<2^n/\t=EJ s b n
 | 0,_,t,ht=>⟨0,by simp,by simpa[EJ] using ht⟩
 | n+1,h,t,ht=>by
  rw[List.take_succ_eq_append_getElem (by omega)]at ht;have h2:2^(n+1)=2^n+2^n:=by rw[Nat.pow_succ];omega
  rcases M7 ht with h1|⟨t',rfl,h1⟩
  ·obtain⟨b,hb,e⟩:=KC s n (by omega) t h1;refine⟨b,by omega,?_⟩;rw[HL,Nat.testBit_lt_two_pow hb,e];simp
  ·obtain⟨b,hb,e⟩:=KC s n (by omega) t' h1;refine⟨2^n+b,by omega,?_⟩;rw[HL,Nat.testBit_two_pow_add_eq,Nat.testBit_lt_two_pow hb,e];rw[TM (b:=2^n+b) (b':=b) fun k hk=>Nat.testBit_two_pow_add_gt hk b];simp[List.getD,show n<s.length by omega]
theorem TB(s:List Int)(n:Nat):EJ s 0 n=[]:=by simp[EJ]
theorem PV(H:SrtB all):t∈CX all s (2^s.length-1)<->t∈all\/(t≠[]/\t.Sublist s)\/(t=[]/\∃b,1<=b/\b<=2^s.length-1/\EJ s b s.length=[]):=by
 rw[Ic H];constructor
 ·rintro(h|⟨b,h1,h2,rfl⟩)
  ·exact .inl h
  ·by_cases h3:EJ s b s.length=[]
   ·exact .inr (.inr ⟨h3,b,h1,h2,h3⟩)
   ·refine .inr (.inl ⟨h3,?_⟩);have:=Px s b s.length (Nat.le_refl _)
    rwa [take_length]at this
 ·rintro(h|⟨h1,h2⟩|⟨rfl,b,h1,h2,h3⟩)
  ·exact .inl h
  ·obtain⟨b,hb,e⟩:=KC s s.length (Nat.le_refl _) t (by rw[take_length];exact h2);refine .inr ⟨b,?_,by omega,e⟩;rcases Nat.eq_zero_or_pos b with rfl|h
   ·rw[TB]at e;exact absurd e h1
   ·exact h
  ·exact .inr ⟨b,h1,h2,h3.symm⟩
theorem XU(h1:1<=b)(h2:b<2^s.length):EJ s b s.length≠[]:=fun h=>by
 have:b=0:=Nat.eq_of_testBit_eq fun k=>by
  rw[Nat.zero_testBit];by_cases hk:k<s.length
  ·cases hb:b.testBit k with
   | false=>rfl
   | true=>
    have:s.getD k 0∈EJ s b s.length:=by unfold EJ;exact List.mem_map.2 ⟨k,List.mem_filter.2 ⟨List.mem_range.2 hk,hb⟩,rfl⟩
    rw[h]at this;cases this
  ·exact Nat.testBit_lt_two_pow (Nat.lt_of_lt_of_le h2 (Nat.pow_le_pow_right (by decide) (by omega)))
 omega
theorem Xe{x:Int}(h:Inc l)(hn:¬LX x l):Inc (J6 x l):=by
 unfold LX at hn;unfold J6
 have h1:∀y∈l.takeWhile (fun y=>decide (y<x)),y<x:=fun y hy=>by have:=List.all_eq_true.1 (List.all_takeWhile (p:=fun y:Int=>decide (y<x)) (l:=l)) y hy;simpa using this
 have h2:∀l:List Int,Inc l->(l.dropWhile fun y=>decide (y<x)).head?≠some x->∀y∈l.dropWhile (fun y=>decide (y<x)),x<y:=fun l=>by
  induction l with
  | nil=>intro _ _ y hy;cases hy
  | cons a l ih=>
   intro hi hx y hy;rw[List.dropWhile_cons]at hy hx;split at hy
   ·rename_i g;rw[if_pos g]at hx;exact ih (List.pairwise_cons.1 hi).2 hx y hy
   ·rename_i g;rw[if_neg g]at hx;have g1:¬a<x:=by simpa using g
    have g2:a≠x:=by simpa using hx
    rcases List.mem_cons.1 hy with rfl|hy
    ·omega
    ·have:=(List.pairwise_cons.1 hi).1 y hy;omega
 have h3:=h2 l h hn;refine List.pairwise_append.2 ⟨h.sublist (List.takeWhile_sublist _),List.pairwise_cons.2 ⟨h3,h.sublist (List.dropWhile_sublist _)⟩,fun a ha b hb=>?_⟩;have h4:=h1 a ha;rcases List.mem_cons.1 hb with rfl|hb
 ·exact h4
 ·have:=h3 b hb;omega
theorem KO:∀(l acc:List Int) (s:List Int),Inc acc->E4 acc l=some s->Inc s
 | [],acc,s,h,e=>by have:acc=s:=Option.some.inj e;rw[<-this];exact h
 | x::l,acc,s,h,e=>by
  unfold E4 at e;split at e
  ·exact KO l acc s h e
  ·rename_i hn;split at e
   ·cases e
   ·refine KO l _ s ?_ e;exact Xe h hn
structure AllS(all:List (List Int)):Prop where
 srt:SrtB all
 inc:∀s∈all,Inc s
 ne:∀s∈all,s≠[]
 sub:∀s∈all,∀t:List Int,t≠[]->t.Sublist s->t∈all
theorem AllS.faces(A:AllS all)(hs:Inc s):AllS (CX all s (2^s.length-1)):=by
 have hm:∀t,t∈CX all s (2^s.length-1)<->t∈all\/(t≠[]/\t.Sublist s):=fun t=>by
  rw[PV A.srt];refine⟨fun h=>?_,fun h=>?_⟩
  ·rcases h with h|h|⟨_,b,h1,h2,h3⟩
   ·exact .inl h
   ·exact .inr h
   ·exact absurd h3 (XU h1 (by have:=Nat.two_pow_pos s.length;omega))
  ·rcases h with h|h
   ·exact .inl h
   ·exact .inr (.inl h)
 refine⟨Ew A.srt s _,fun t ht=>?_,fun t ht=>?_,fun t ht u hu hs=>?_⟩
 ·rcases (hm t).1 ht with h|h
  ·exact A.inc t h
  ·exact hs.sublist h.2
 ·rcases (hm t).1 ht with h|h
  ·exact A.ne t h
  ·exact h.1
 ·rw[hm];rcases (hm t).1 ht with h|h
  ·exact .inl (A.sub t h u hu hs)
  ·exact .inr ⟨hu,hs.trans h.2⟩
theorem Ml:∀(ll:List (List Int)) (acc all:List (List Int)),AllS acc->CS acc ll=some all->AllS all
 | [],acc,all,h,e=>by have:acc=all:=Option.some.inj e;rw[<-this];exact h
 | l::ll,acc,all,h,e=>by
  rw[E5]at e;split at e
  ·cases e
  ·refine Ml ll _ all ?_ e;cases hs:E4 [] l with
   | none=>exact h
   | some s=>exact h.faces (KO l [] s List.Pairwise.nil hs)
def nI(all:List (List Int))(t:List Int):Int:=((CZ all t).1:Int)+1
theorem AllS.nI_at(A:AllS all)(ht:t∈all):∃j,∃hj:j<all.length,all[j]=t/\nI all t=(j:Int)+1:=by obtain⟨j,hj,rfl⟩:=getElem_of_mem ht;exact⟨j,hj,rfl,by unfold nI;rw[OB A.srt hj]⟩
theorem AllS.nI_inj(A:AllS all){u:List Int}(ht:t∈all)(hu:u∈all)(e:nI all t=nI all u):t=u:=by
 obtain⟨j,hj,rfl,e1⟩:=A.nI_at ht;obtain⟨k,hk,rfl,e2⟩:=A.nI_at hu;have:j=k:=by omega
 subst this;rfl
def sk(k i:Nat):Nat:=if i<k then i else i+1
theorem GX(k i:Nat):(i<k/\sk k i=i)\/(k<=i/\sk k i=i+1):=by unfold sk;split<;>omega
theorem L9(k i:Nat):sk k i≠k:=by unfold sk;split<;>omega
theorem Abs{i:Nat}(hi:i<n):sk k i<n+1:=by unfold sk;split<;>omega
theorem FX(l:List Int)(k i:Nat):(l.eraseIdx k)[i]?=l[sk k i]?:=by rw[List.getElem?_eraseIdx];unfold sk;split<;>rfl
def un(j k:Nat):Nat:=if k<j then k else k-1
theorem KE(j k:Nat):(k<j/\un j k=k)\/(j<=k/\un j k=k-1):=by unfold un;split<;>omega
theorem PA(h:j≠k):sk j (un j k)=k:=by have:=KE j k;have:=GX j (un j k);omega
theorem Ru(l:List Int):(l.eraseIdx k).eraseIdx m=(l.eraseIdx (sk k m)).eraseIdx (un (sk k m) k):=by refine List.ext_getElem? fun i=>?_;rw[FX,FX,FX,FX];congr 1;have:=GX k m;have:=GX m i;have:=GX k (sk m i);have:=KE (sk k m) k;have:=GX (un (sk k m) k) i;have:=GX (sk k m) (sk (un (sk k m) k) i);omega
theorem UN(hn:l.Nodup)(hj:j<l.length):l[j]∈l.eraseIdx k<->j≠k:=by
 rw[List.mem_iff_getElem?];constructor
 ·rintro⟨i,h⟩ e;rw[FX]at h;obtain⟨h1,h2⟩:=List.getElem?_eq_some_iff.1 h;have:=HG hn h1 hj h2;exact L9 k i (by omega)
 ·intro h;exact⟨un k j,by rw[FX,PA (Ne.symm h),List.getElem?_eq_getElem hj]⟩
theorem Ko(hn:l.Nodup)(hj:j<l.length):l[j]∈(l.eraseIdx k).eraseIdx m<->j≠k/\j≠sk k m:=by
 rw[List.mem_iff_getElem?];constructor
 ·rintro⟨i,h⟩;rw[FX,FX]at h;obtain⟨h1,h2⟩:=List.getElem?_eq_some_iff.1 h;have:=HG hn h1 hj h2;refine⟨fun e=>L9 k (sk m i) (by omega),fun e=>?_⟩;have h3:sk k (sk m i)=sk k m:=by omega
  have h4:=L9 m i;have:=GX k m;have:=GX k (sk m i);omega
 ·rintro⟨h1,h2⟩;have h3:m≠un k j:=fun e=>h2 (by rw[e,PA (Ne.symm h1)]);exact⟨un m (un k j),by rw[FX,FX,PA h3,PA (Ne.symm h1),List.getElem?_eq_getElem hj]⟩
theorem Aby(hn:l.Nodup){a:Nat}(hl:l.length=n+1)(hk:k<n+1)(hm:m<n)(ha:a<n+1)(hb:b<n):(l.eraseIdx k).eraseIdx m=(l.eraseIdx a).eraseIdx b<->(k=a/\m=b)\/(k=sk a b/\m=un (sk a b) a):=by
 constructor
 ·intro h;have hab:=Abs (k:=a) hb
  have h1:¬(a≠k/\a≠sk k m):=fun q=>by have:=(Ko hn (k:=k) (m:=m) (show a<l.length by omega)).2 q;rw[h]at this;exact((Ko hn (show a<l.length by omega)).1 this).1 rfl
  have h2:¬(sk a b≠k/\sk a b≠sk k m):=fun q=>by have:=(Ko hn (k:=k) (m:=m) (show sk a b<l.length by omega)).2 q;rw[h]at this;exact((Ko hn (show sk a b<l.length by omega)).1 this).2 rfl
  have h3:=L9 a b;have:=GX k m;have:=GX a b;have:=KE (sk a b) a;omega
 ·rintro(⟨rfl,rfl⟩|⟨rfl,rfl⟩)
  ·rfl
  ·exact(Ru l).symm
def rs(n:Nat)(f:Nat->Int):Int:=((range n).map f).sum
theorem Nw(n:Nat)(f:Nat->Int):rs (n+1) f=rs n f+f n:=by unfold rs;rw[List.range_succ,map_append,List.sum_append];simp
theorem R9(h:∀i,i<n->f i=0):rs n f=0:=by
 induction n with
 | zero=>rfl
 | succ n ih=>rw[Nw,ih fun i hi=>h i (by omega),h n (by omega)];rfl
theorem Nv(hk:k<n)(h:∀i,i<n->i≠k->f i=0):rs n f=f k:=by
 induction n with
 | zero=>omega
 | succ n ih=>
  rw[Nw];rcases (by omega:k=n\/k<n) with rfl|h1
  ·rw[R9 fun i hi=>h i (by omega) (by omega),Int.zero_add]
  ·rw[ih h1 fun i hi=>h i (by omega),h n (by omega) (by omega),Int.add_zero]
theorem Aax{k':Nat}(hk:k<n)(hk':k'<n)(hne:k≠k')(h:∀i,i<n->i≠k->i≠k'->f i=0):rs n f=f k+f k':=by
 induction n with
 | zero=>omega
 | succ n ih=>
  rw[Nw];rcases (by omega:k=n\/(k<n/\k'=n)\/(k<n/\k'<n)) with rfl|⟨h1,rfl⟩|⟨h1,h2⟩
  ·rw[Nv (k:=k') (by omega) fun i hi hn=>h i (by omega) (by omega) hn,Int.add_comm]
  ·rw[Nv (k:=k) h1 fun i hi hn=>h i (by omega) hn (by omega)]
  ·rw[ih h1 h2 fun i hi=>h i (by omega),h n (by omega) (by omega) (by omega),Int.add_zero]
theorem Pm{α:Type}(f:α->List Int):∀l:List α,(l.flatMap f).sum=(l.map fun a=>(f a).sum).sum
 | []=>rfl
 | a::l=>by rw[List.flatMap_cons,List.sum_append,Pm f l,map_cons,sum_cons]
def sg(k:Nat):Int:=1-2*((k:Int)%2)
theorem Sk(k:Nat):sg (k+1)=- sg k:=by unfold sg;omega
theorem Abb(k:Nat):sg k=1\/sg k=-1:=by unfold sg;omega
def Ig(all:List (List Int))(t:List Int):List (Int×Int):=(range t.length).map fun k=>(nI all (t.eraseIdx k),sg k)
def sc(all:List (List Int))(t:List Int):Cl:=⟨nI all t,(t.length:Int)-1,if t.length<=1 then [] else CF (Ig all t)⟩
theorem QE(A:AllS all):(range all.length).map (DK all)=all.map (sc all):=by
 refine List.ext_getElem (by simp) fun j h1 h2=>?_;have hj:j<all.length:=by simpa using h2
 rw[getElem_map,getElem_map,List.getElem_range];have e:all.getD j []=all[j]:=by simp[List.getD,hj]
 unfold DK sc;rw[e];unfold nI;rw[OB A.srt hj];rfl
def Tk(all:List (List Int))(S:List Int)(n:Nat):F4:=(range (n+1)).flatMap fun k=>(range n).map fun m=>(nI all (S.eraseIdx k),nI all ((S.eraseIdx k).eraseIdx m),sg k*sg m)
theorem Oe(all:List (List Int))(S:List Int)(n:Nat)(g:Int×Int×Int->Int):((Tk all S n).map g).sum=rs (n+1) fun k=>rs n fun m=>g (nI all (S.eraseIdx k),nI all ((S.eraseIdx k).eraseIdx m),sg k*sg m):=by unfold Tk;rw[List.map_flatMap,Pm];unfold rs;simp only[map_map];rfl
theorem WH(A:AllS all)(hS:S∈all)(hl:S.length=n+1)(hn:1<=n)(hk:k<n+1):S.eraseIdx k∈all:=by refine A.sub S hS _ (fun e=>?_) (List.eraseIdx_sublist _ _);have:=congrArg List.length e;rw[List.length_eraseIdx,if_pos (by omega)]at this;simp at this;omega
theorem NQ(hl:S.length=n+1)(hk:k<n+1):(S.eraseIdx k).length=n:=by rw[List.length_eraseIdx,if_pos (by omega)];omega
theorem Pg(A:AllS all)(hS:S∈all){a:Nat}(hl:S.length=n+1)(hn:2<=n)(ha:a<n+1)(hb:b<n)(w:Nat->Nat->Int):(rs (n+1) fun k=>rs n fun m=>if nI all ((S.eraseIdx k).eraseIdx m)=nI all ((S.eraseIdx a).eraseIdx b) then w k m else 0)=w a b+w (sk a b) (un (sk a b) a):=by
 have hnd:S.Nodup:=(A.inc S hS).imp fun h e=>by omega
 have hin:∀k m,k<n+1->m<n->(S.eraseIdx k).eraseIdx m∈all:=fun k m hk hm=>by
  obtain⟨n',rfl⟩:∃n',n=n'+1:=⟨n-1,by omega⟩
  exact WH A (WH A hS hl (by omega) hk) (NQ hl hk) (by omega) hm
 have hiff:∀k m,k<n+1->m<n->(nI all ((S.eraseIdx k).eraseIdx m)=nI all ((S.eraseIdx a).eraseIdx b)<->(k=a/\m=b)\/(k=sk a b/\m=un (sk a b) a)):=fun k m hk hm=>by rw[<-Aby hnd hl hk hm ha hb];exact⟨fun h=>A.nI_inj (hin k m hk hm) (hin a b ha hb) h,fun h=>by rw[h]⟩
 have h1:=L9 a b;have h2:=GX a b;have h3:=KE (sk a b) a
 rw[Aax (k:=a) (k':=sk a b) ha (by omega) (Ne.symm h1) fun k hk q1 q2=>R9 fun m hm=>if_neg fun q=>by
  rcases (hiff k m hk hm).1 q with q|q
  ·exact q1 q.1
  ·exact q2 q.1]
 rw[Nv (k:=b) hb fun m hm q=>if_neg fun q'=>by
   rcases (hiff a m ha hm).1 q' with q'|q'
   ·exact q q'.2
   ·exact h1 q'.1.symm,if_pos rfl,
  Nv (k:=un (sk a b) a) (by omega) fun m hm q=>if_neg fun q'=>by
   rcases (hiff (sk a b) m (by omega) hm).1 q' with q'|q'
   ·exact h1 q'.1
   ·exact q q'.2,if_pos ((hiff _ _ (by omega) (by omega)).2 (.inr ⟨rfl,rfl⟩))]
theorem Pf{e:Int×Int×Int}(h:e∈Tk all S n):∃k m,k<n+1/\m<n/\e=(nI all (S.eraseIdx k),nI all ((S.eraseIdx k).eraseIdx m),sg k*sg m):=by obtain⟨k,hk,h1⟩:=List.mem_flatMap.1 h;obtain⟨m,hm,rfl⟩:=List.mem_map.1 h1;exact⟨k,m,List.mem_range.1 hk,List.mem_range.1 hm,rfl⟩
theorem Oj(hk:k<n+1)(hm:m<n):(nI all (S.eraseIdx k),nI all ((S.eraseIdx k).eraseIdx m),sg k*sg m)∈Tk all S n:=List.mem_flatMap.2 ⟨k,List.mem_range.2 hk,List.mem_map.2 ⟨m,List.mem_range.2 hm,rfl⟩⟩
theorem T5(A:AllS all)(hS:S∈all)(hl:S.length=n+1)(hn:2<=n):GoodT (Tk all S n) (Ig all S) where
 sum:=fun e he=>by
  obtain⟨a,b,ha,hb,rfl⟩:=Pf he;unfold D6;rw[Oe];refine(Pg A hS hl hn ha hb fun k m=>sg k*sg m).trans ?_;have h1:=L9 a b;have h2:=GX a b;have h3:=KE (sk a b) a;rcases h2 with ⟨h4,h5⟩|⟨h4,h5⟩
  ·rw[h5]at h3 ⊢;obtain⟨c,rfl⟩:∃c,a=c+1:=⟨a-1,by omega⟩
   rw[show un b (c+1)=c by omega,Sk,Int.neg_mul,Int.mul_comm (sg b)];omega
  ·rw[h5]at h3 ⊢;rw[show un (b+1) a=a by omega,Sk,Int.neg_mul,Int.mul_comm (sg b)];omega
 two:=fun e he=>by obtain⟨a,b,ha,hb,rfl⟩:=Pf he;unfold Fs;rw[Oe];exact Pg A hS hl hn ha hb fun k m=>1
 con:=fun a ha b hb=>by
  unfold Ig at ha hb;obtain⟨k,hk,rfl⟩:=List.mem_map.1 ha;obtain⟨k',hk',rfl⟩:=List.mem_map.1 hb;have hk:=List.mem_range.1 hk;have hk':=List.mem_range.1 hk';show Con _ (nI all (S.eraseIdx k)) (nI all (S.eraseIdx k'));by_cases e:k=k'
  ·subst e;exact .refl _
  ·have h1:=KE k k';have h2:=KE k' k
   have h3:(S.eraseIdx k).eraseIdx (un k k')=(S.eraseIdx k').eraseIdx (un k' k):=by rw[Ru S (k:=k) (m:=un k k'),PA e]
   have m1:=Oj (all:=all) (S:=S) (n:=n) (k:=k) (m:=un k k') (by omega) (by omega);have m2:=Oj (all:=all) (S:=S) (n:=n) (k:=k') (m:=un k' k) (by omega) (by omega);rw[h3]at m1;exact .step (.refl _) m1 m2
theorem AllS.nil:AllS []:=⟨List.Pairwise.nil,nofun,nofun,nofun⟩
theorem VC(ll:List (List Int)):Rgt (D4 ll):=by
 have hbd:=KF ll;unfold D4 at *;cases h:CS [] ll with
 | none=>exact Rgt.nil
 | some all=>
  rw[h]at hbd;have A:=Ml ll [] all AllS.nil h;have h9:=E9 ll [] all List.Pairwise.nil (fun t ht=>nomatch ht) h;show Rgt ((range all.length).map (DK all));have hbd1:((range all.length).map (DK all)).length<=4000:=hbd.1;rw[QE A]at hbd1 ⊢
  have hlen:∀t∈all,1<=t.length:=fun t ht=>by
   have:=A.ne t ht;cases t with
   | nil=>exact absurd rfl this
   | cons a t=>simp
  have hnd:((all.map (sc all)).map Cl.id).Nodup:=by rw[map_map];refine List.pairwise_map.2 ((A.srt.imp fun {a b} h e=>?_:all.Pairwise (·≠·)).imp_of_mem fun {a b} ha hb hne e=>hne (A.nI_inj ha hb e));rw[e,He]at h;cases h
  have hcel:∀t∈all,Gn (all.map (sc all)) (nI all t)=sc all t:=fun t ht=>C3 hnd (List.mem_map.2 ⟨t,ht,rfl⟩);have hsd:∀t∈all,2<=t.length->(sc all t).sd=CF (Ig all t):=fun t _ h=>if_neg (by omega);have hraw:∀t:List Int,(Ig all t).length=t.length:=fun t=>by simp[Ig]
  have hside:∀t∈all,∀s∈(sc all t).sd,∃k,k<t.length/\2<=t.length/\s=(nI all (t.eraseIdx k),sg k):=fun t ht s hs=>by
   by_cases h2:2<=t.length
   ·rw[hsd t ht h2]at hs;have hs:=(Cr _).mem_iff.1 hs;unfold Ig at hs;obtain⟨k,hk,rfl⟩:=List.mem_map.1 hs;exact⟨k,List.mem_range.1 hk,h2,rfl⟩
   ·have:(sc all t).sd=[]:=if_pos (by omega);rw[this]at hs;cases hs
  have hin:∀t∈all,2<=t.length->∀k,k<t.length->t.eraseIdx k∈all:=fun t ht h2 k hk=>WH A ht (n:=t.length-1) (by omega) (by omega) (by omega);refine⟨hbd1,hnd,fun x hx=>?_,fun x hx=>?_,fun x hx=>?_,fun x hx=>?_,fun x hx s hs=>?_,fun x hx s hs=>?_,fun x hx hd=>?_,fun x hx hd=>?_⟩<;>obtain⟨t,ht,rfl⟩:=List.mem_map.1 hx<;>have hl1:=hlen t ht<;>have hl9:=h9 t ht
  ·show 1<=nI all t;unfold nI;omega
  ·show 0<=(t.length:Int)-1/\(t.length:Int)-1<=8;omega
  ·unfold BP;show ¬(((t.length:Int)-1=0/\0<(sc all t).sd.length)\/((t.length:Int)-1=1/\(sc all t).sd.length≠2)\/(1<(t.length:Int)-1/\((sc all t).sd.length<2\/64<(sc all t).sd.length)));by_cases h2:2<=t.length
   ·rw[hsd t ht h2,GQ,hraw];omega
   ·have:(sc all t).sd=[]:=if_pos (by omega);rw[this];simp;omega
  ·by_cases h2:2<=t.length
   ·rw[hsd t ht h2,((Cr (Ig all t)).map Prod.fst).nodup_iff];unfold Ig;rw[map_map];refine List.pairwise_map.2 ((List.nodup_range (n:=t.length)).imp_of_mem fun {a b} ha hb hne e=>hne ?_);have ha:=List.mem_range.1 ha;have hb:=List.mem_range.1 hb;have e:=A.nI_inj (hin t ht h2 a ha) (hin t ht h2 b hb) e;have hnd:t.Nodup:=(A.inc t ht).imp fun h e=>by omega
    have h3:t[a] ∉ t.eraseIdx a:=fun q=>(UN hnd ha).1 q rfl;rw[e,UN hnd ha]at h3;exact Classical.not_not.1 h3
   ·have:(sc all t).sd=[]:=if_pos (by omega);rw[this];simp
  ·obtain⟨k,hk,h2,rfl⟩:=hside t ht s hs;refine⟨_,List.mem_map.2 ⟨_,hin t ht h2 k hk,rfl⟩,rfl,?_⟩;show((t.eraseIdx k).length:Int)-1=(t.length:Int)-1-1;rw[NQ (n:=t.length-1) (by omega) (by omega)];omega
  ·obtain⟨k,hk,h2,rfl⟩:=hside t ht s hs;exact Abb k
  ·have hd:(t.length:Int)-1=1:=hd;have h2:t.length=2:=by omega
   rw[hsd t ht (by omega),IF ((Cr (Ig all t)).map Prod.snd)];unfold Ig;rw[h2];rfl
  ·have hd:2<=(t.length:Int)-1:=hd;obtain⟨n,hl⟩:∃n,t.length=n+1:=⟨t.length-1,by omega⟩
   have h2:2<=t.length:=by omega
   refine(T5 A ht hl (by omega)).perm ?_ (by rw[hsd t ht h2];exact(Cr _).symm);unfold FZ;rw[hsd t ht h2]
   have e:Tk all t n=Lk (fun c=>if c=0 then [] else Ig all (all.getD (c-1).toNat [])) (Ig all t):=by
    unfold Lk Ig;rw[List.flatMap_map,hl];refine Ep fun k hk=>?_;have hk:=List.mem_range.1 hk;obtain⟨j,hj,e1,e2⟩:=A.nI_at (hin t ht h2 k (by omega));show _=List.map _ (if nI all (t.eraseIdx k)=0 then [] else _);rw[if_neg (by omega)]
    have e3:all.getD (nI all (t.eraseIdx k)-1).toNat []=t.eraseIdx k:=by rw[e2,show(((j:Int)+1)-1).toNat=j by omega];simp[List.getD,hj,e1]
    rw[e3,map_map,NQ hl (by omega)];rfl
   rw[e];refine IW (Cr _).symm fun s hs=>List.Perm.map _ ?_;unfold Ig at hs;obtain⟨k,hk,rfl⟩:=List.mem_map.1 hs;have hk:=List.mem_range.1 hk;obtain⟨j,hj,e1,e2⟩:=A.nI_at (hin t ht h2 k hk);show List.Perm (if nI all (t.eraseIdx k)=0 then [] else _) (Gn (all.map (sc all)) (nI all (t.eraseIdx k))).sd;rw[if_neg (by omega),hcel _ (hin t ht h2 k hk)]
   have e3:all.getD (nI all (t.eraseIdx k)-1).toNat []=t.eraseIdx k:=by rw[e2,show(((j:Int)+1)-1).toNat=j by omega];simp[List.getD,hj,e1]
   rw[e3,hsd _ (hin t ht h2 k hk) (by rw[NQ hl (by omega)];omega)];exact(Cr _).symm
theorem XV(ll:List (List Int)):∀x∈D4 ll,x.id<=(D4 ll).length:=by
 unfold D4;cases h:CS [] ll with
 | none=>nofun
 | some all=>
  intro x hx;obtain⟨i,hi,rfl⟩:=List.mem_map.1 hx;have hi:=List.mem_range.1 hi;show(i:Int)+1<=(((range all.length).map (DK all)).length:Nat);rw[length_map,List.length_range];omega
end Go.Proofs.Q

namespace Go.Proofs.Q
open Go.Eng Go.RowKit
def W5(l:List Cl):List Cl:=l.map Cl.can
structure Abn(o:List Cl):Prop where
 n:o.length<=4000
 inc:o.Pairwise fun a b=>a.id<b.id
 pos:∀x∈o,1<=x.id
 fst:∀x∈o,Cd o x=0
 snd:∀x∈o,2<=x.dim->DQ o x=0
theorem Qj{l:List Cl}(B:Abn (W5 l)):Rgt l:=by
 have R:RgtF (W5 l):=⟨B.n,B.inc,B.pos,fun x hx=>by obtain⟨y,_,rfl⟩:=List.mem_map.1 hx;exact⟨y,rfl⟩,B.fst,B.snd⟩
 refine R.rgt.sim ⟨by unfold W5;rw[length_map],by unfold W5;rw[map_map];exact List.Perm.refl _,fun x hx=>⟨x.can,List.mem_map.2 ⟨x,hx,rfl⟩,rfl,rfl,(Cr _).symm⟩⟩
instance (x:Cl):DecidablePred (Cy [] x):=fun i=>inferInstance
theorem AbC(n:Nat)(h:n=2\/n=3\/n=4\/n=5\/n=6):Abn (W5 (Fe n)):=by rcases h with rfl|rfl|rfl|rfl|rfl<;>exact⟨by decide,by decide,by decide,by decide,by decide⟩
theorem V0(n:Nat)(h:n=2\/n=3\/n=4\/n=5\/n=6):Rgt (Fe n):=Qj (AbC n h)
theorem YD(n:Nat)(h:n=2\/n=3\/n=4\/n=5\/n=6):∀x∈Fe n,x.id<=210:=by rcases h with rfl|rfl|rfl|rfl|rfl<;>decide
open Go.Proofs.Tryz
variable {n:Nat} {l:List Cl}
def Ob(l:List Cl):Prop:=Rgt l/\(l.length<=45->∀x∈l,x.id<=210)
def VY(o:List Cl):Prop:=RgtF o/\o.length<=45/\∀x∈o,x.id<=1000
theorem Ld(ll:List (List Int)):Ob (D4 ll):=⟨VC ll,fun h x hx=>by have:=XV ll x hx;omega⟩
theorem G0(hn:n<=210)(h:R8 n l):Ob l:=by
 rcases h with rfl|⟨out,rfl,h1,h2,h3⟩
 ·exact⟨Rgt.nil,fun _=>nofun⟩
 ·refine⟨(JC h1).1.rgt,fun _ x hx=>?_⟩;obtain⟨a,ha,rfl⟩:=Ea hx;have:a.can.id=a.id:=rfl;have:=h3 a ha;omega
theorem Ve(h:n=2\/n=3\/n=4\/n=5\/n=6):Ob (ordF (Fe n)):=by refine⟨(V0 n h).sim (MF _),fun _ x hx=>?_⟩;obtain⟨a,ha,rfl⟩:=Ea hx;exact YD n h a ha
theorem Xf(h:Ob l)(hl:l.length<=45)(b:Int):VY (ordF (l.map (IC (QU b) (X8 b)))):=by have R:=h.1.ren (Vp b) (t:=X8 b) (h.2 hl);refine⟨R.ordF,by rw[Gc,length_map];exact hl,fun x hx=>?_⟩;obtain⟨a,ha,rfl⟩:=Ea hx;obtain⟨c,hc,rfl⟩:=List.mem_map.1 ha;exact Aae (by have:=h.2 hl c hc;omega)
theorem PG(h:R8 n l):l.length<=n:=by
 rcases h with rfl|⟨out,rfl,_,h,_⟩
 ·exact Nat.zero_le _
 ·rw[Gc];omega
def Hq(n:Nat):List (List Int):=if n=0 then [[0,1]] else if n=1 then [[0,1],[1,2]] else [[0,1],[1,2],[0,2]]
theorem FO(n:Nat):(Hq n).length<=100000/\∀l∈Hq n,l.length<=100000:=by
 unfold Hq;split
 ·decide
 ·split<;>decide
theorem Ou(h:n<3):(D4 (Hq n)).length<=6:=by rcases (by omega:n=0\/n=1\/n=2) with rfl|rfl|rfl<;>decide
theorem Oi{m:Nat}{A B:List Ce}(hn:n<3)(hm:m<3)(hA:A.map Ce.c=D4 (Hq n))(hB:B.map Ce.c=D4 (Hq m)):A.length*B.length<=210:=by have h1:=Ou hn;have h2:=Ou hm;rw[<-hA,length_map]at h1;rw[<-hB,length_map]at h2;have:=Ul h1 h2;omega
theorem Tq(n:Int):4<=(Fz n).length:=by
 unfold Fz;split
 ·decide
 ·split<;>decide
theorem RdEs.app{h:Hp}{es es':List Value}{ll ll':List (List Int)}(H:RdEs h es ll)(H':RdEs h es' ll'):RdEs h (es++es') (ll++ll'):=by
 refine⟨by rw[length_append,length_append,H.1,H'.1],fun i h1 h2=>?_⟩;rw[length_append]at h1 h2;have e1:=H.1;by_cases h3:i<es.length
 ·rw[List.getElem_append_left h3,List.getElem_append_left (by omega)];exact H.2 i h3 (by omega)
 ·rw[List.getElem_append_right (by omega),List.getElem_append_right (by omega)];have e2:i-ll.length=i-es.length:=by omega
  simp only[e2];exact H'.2 (i-es.length) (by omega) (by omega)
theorem RdEs.tak{h:Hp}{es:List Value}{ll:List (List Int)}(H:RdEs h es ll)(j:Nat):RdEs h (es.take j) (ll.take j):=by refine⟨by rw[length_take,length_take,H.1],fun i h1 h2=>?_⟩;rw[length_take]at h1 h2;rw[List.getElem_take,List.getElem_take];exact H.2 i (by omega) (by omega)
theorem NS(ll:List (List Int)):(Ec ll).length<=100000/\∀l∈Ec ll,l.length<=100000:=by unfold Ec;refine⟨by rw[length_map,length_take];omega,fun l hl=>?_⟩;obtain⟨s,_,rfl⟩:=List.mem_map.1 hl;rw[length_map,length_take];omega
theorem MI(n:Int):(Fz n).length<=100000/\∀l∈Fz n,l.length<=100000:=by
 unfold Fz;split
 ·decide
 ·split<;>decide
theorem O7(ll:List (List Int)):(Ec ll).length<=5:=by unfold Ec;rw[length_map,length_take];omega
theorem UL(ll:List (List Int))(b:Int)(j:Nat):(Ec ll++(Fz b).take j).length<=100000/\∀l∈Ec ll++(Fz b).take j,l.length<=100000:=by
 have h1:=O7 ll
 have h2:(Fz b).length<=14:=by
  unfold Fz;split
  ·decide
  ·split<;>decide
 refine⟨by rw[length_append,length_take];omega,fun l hl=>?_⟩;rcases List.mem_append.1 hl with h|h
 ·exact(NS ll).2 l h
 ·exact(MI b).2 l (List.mem_of_mem_take h)
theorem ZJ{A:List Ce}(h:Ob (A.map Ce.c)):O5 A:=Zd rfl (by have:=h.1.n;omega) fun c hc=>by have h1:=h.1.dim c hc;have h2:=h.1.num c hc;unfold BP at h2;omega
theorem YW(kind b:Int)(ll:List (List Int))(es0:List Value)(vS:Value)(hp:Hp)(hk:BD kind)(hb:BD b)(hi:∀l∈ll,∀x∈l,BD x)(hV:RdL cW 1 hp [] vS es0)(hE:RdEs hp es0 ll):FnT Tryz.prog 40 #[.agg #[.int .i64 kind,vS,.int .i64 b]] hp [] (fun r h' ms'=>hp.le h'/\ZV h' r ms' VY):=by
 have o1:=hV.rd.one;have hk1:=hk.1;have hk2:=hk.2;have hb1:=hb.1;have hb2:=hb.2;refine Ao func40 ntmps40 rfl rfl (fun w0 hw0=>?_);simp only[AU];refine As (AS [_,_,_] rfl rfl (by rfl) rfl rfl rfl (fun g1=>CC [.slice none 0 0] rfl A6 rfl rfl (fun g2=>An (BH 1 rfl fun h1 l1 hS=>?_))));have hV:=hV.up l1;have hE:=hE.up l1;have hA:=Seg.all hS;have c0:∀ms,Cell h1 ms (⟨g1,0,none⟩:Addr) (.int .i64 kind):=fun ms=>hA 0 _ rfl ms;have c1:∀ms,Cell h1 ms (⟨g1,1,none⟩:Addr) vS:=fun ms=>hA 1 _ rfl ms;have c2:∀ms,Cell h1 ms (⟨g1,2,none⟩:Addr) (.int .i64 b):=fun ms=>hA 2 _ rfl ms;refine As (CC [.slice none 0 0] rfl A6 rfl rfl (fun g3=>An ?_));refine A3 (fun sl h' ms'=>∃(vC:Value) (mC:Hp) (C:List Ce),sl=[(1,.pointer (some ⟨g1,0,none⟩)),(2,.pointer (some ⟨g2,0,none⟩)),(3,.pointer (some ⟨g3,0,none⟩))]/\h1.le h'/\ms'=[mC,A7 g3 29 [vC],A7 g2 29 [.slice none 0 0]]/\OwnL cC 3 52 mC vC C/\Ob (C.map Ce.c)/\∀a∈C,RdL cD 2 h' [] a.v a.c.sd) ?_ (fun s h ms hI=>?_)
 ·obtain⟨K,hK⟩:∃K,kind%8=K:=⟨_,rfl⟩
  have hK8:0<=K/\K<=7:=by omega
  refine As (Qf Aab rfl (Ql rfl U3 (c0 _) (Qx (AF rfl call34 rfl (E2 kind 8 hk (by decide) h1 _)) rfl (An (Ae ?_)))));rw[hK];refine A3 (fun sl h' ms'=>∃bb:Bool,sl=[(1,.pointer (some ⟨g1,0,none⟩)),(2,.pointer (some ⟨g2,0,none⟩)),(3,.pointer (some ⟨g3,0,none⟩)),(9,.int .i64 K),(10,.bool bb)]/\h1=h'/\ms'=[A7 g3 29 [.slice none 0 0],A7 g2 29 [.slice none 0 0]]/\(bb=true<->K<=2)) ?_ (fun s h ms hI=>?_)
  ·refine Ac (Ad (Qm rfl (Qm rfl (An ?_))));refine Au rfl (fun k0=>?_) (fun k0=>?_)
   ·refine Ah ?_;exact AA _ ⟨decide (K=0),rfl,rfl,rfl,by rw[decide_eq_true_iff];omega⟩ Qs
   ·refine Ac (Ad (Qm rfl (Qm rfl (An ?_))));refine Au rfl (fun k1=>?_) (fun k1=>?_)
    ·refine Ah ?_;exact AA _ ⟨decide (K=1),rfl,rfl,rfl,by rw[decide_eq_true_iff];omega⟩ Qs
    ·refine Ad (Qm rfl (Qm rfl (Aj ?_)));exact AA _ ⟨decide (K=2),rfl,rfl,rfl,by rw[decide_eq_true_iff];omega⟩ Qs
  ·obtain⟨bb,rfl,rfl,rfl,hbb⟩:=hI;refine Bq rfl (fun k2=>?_) (fun k2=>?_)
   ·refine Ad (Qf Un rfl (Ql rfl Ck (c1 _) (Qc call105 rfl (R6 ll es0 vS h1 hi hV hE) (fun rs h2 ms2 l2 hF=>?_))));obtain⟨l2',m2,es,rfl,hO2,hE2⟩:=hF;refine A4 hO2 fun h3 l3 hV2=>?_;have hE2:=hE2.up l3;have ov2:=hV2.rd.one;refine Qc call104 rfl (Co (Ec ll) es rs h3 (NS ll).1 (NS ll).2 hV2 hE2) (fun rC h4 ms4 l4 hF=>?_);obtain⟨l4',mC,C,vC,rfl,rfl,hOC,hC,hs⟩:=hF;have ovC:=hOC.o1;refine Sa 1 [_] A6 rfl (by simp[o1,ov2,ovC]) ?_;refine Aj (Ai ?_);exact AA _ ⟨vC,mC,C,rfl,AJ l2 (AJ l3 l4),rfl,hOC,by rw[hC];exact Ld _,hs⟩ Qs
   ·have k2:¬K<=2:=fun q=>by rw[hbb.2 q]at k2;cases k2
    refine As (Qm rfl (Qm rfl (An ?_)));refine Au rfl (fun k3=>?_) (fun k3=>?_)
    ·refine Ad (Qf Ii rfl (Ql rfl U3 (c2 _) (Qc call106 rfl (Lo b h1 hb) (fun rs h2 ms2 l2 hF=>?_))));obtain⟨l2',m2,es,rfl,hO2,hE2⟩:=hF;refine A4 hO2 fun h3 l3 hV2=>?_;have hE2:=hE2.up l3;have ov2:=hV2.rd.one;refine Qc call104 rfl (Co (Fz b) es rs h3 (MI b).1 (MI b).2 hV2 hE2) (fun rC h4 ms4 l4 hF=>?_);obtain⟨l4',mC,C,vC,rfl,rfl,hOC,hC,hs⟩:=hF;have ovC:=hOC.o1;refine Sa 1 [_] A6 rfl (by simp[o1,ov2,ovC]) ?_;refine Aj (Ai ?_);exact AA _ ⟨vC,mC,C,rfl,AJ l2 (AJ l3 l4),rfl,hOC,by rw[hC];exact Ld _,hs⟩ Qs
    ·refine Ac (Ad (Qm rfl (Qm rfl (An ?_))));refine Au rfl (fun k4=>?_) (fun k4=>?_)
     ·have hd3:=LH hb (k:=3) (by decide);have h31:=hd3.1;have h32:=hd3.2;obtain⟨n1,hn1⟩:∃n:Nat,b%3=(n:Int):=⟨(b%3).toNat,by omega⟩
      obtain⟨n2,hn2⟩:∃n:Nat,b.tdiv 3%3=(n:Int):=⟨(b.tdiv 3%3).toNat,by omega⟩
      have hm1:∀h ms,FnV Tryz.prog 34 #[.int .i64 b,.int .i64 3] h ms (.int .i64 n1):=fun h ms=>by rw[<-hn1];exact E2 b 3 hb (by decide) h ms
      have hm2:∀h ms,FnV Tryz.prog 34 #[.int .i64 (b.tdiv 3),.int .i64 3] h ms (.int .i64 n2):=fun h ms=>by rw[<-hn2];exact E2 (b.tdiv 3) 3 hd3 (by decide) h ms
      have hn13:n1<3:=by omega
      have hn23:n2<3:=by omega
      have hE0:=RdEs.nil h1;refine As (Qf Ii rfl (Ql rfl U3 (c2 _) (Qx (AF rfl call34 rfl (hm1 _ _)) rfl (Qm rfl (Bv (AE [(0,_),(1,_)] [.int .i64 0,.int .i64 0] [_,_] rfl AY Be rfl (by omega) (by kernel_rfl) Qt rfl rfl rfl rfl (fun g29=>AW fun h2 l2 m2=>?_)))))));have hE1:=(hE0.up l2).snoc (RdEs.one2 m2);refine Aq [_] rfl Ck Cw rfl (by rfl) rfl rfl (by omega) rfl rfl rfl (fun g30=>AW fun h3 l3 m3=>?_);have hE1:=hE1.up l3;have hV1:=(OwnL.blk (g:=g30) (el:=22) (F:=cW) (l:=[_]) 1 DV rfl (by decide)).rdh (ms:=[]) m3;have hE0:=RdEs.nil h3;refine AE [(0,_),(1,_)] [.int .i64 0,.int .i64 0] [_,_] rfl AY Be rfl (by omega) (by kernel_rfl) Qt rfl rfl rfl rfl (fun g31=>AW fun h4 l4 m4=>?_);have hE2:=(hE0.up l4).snoc (RdEs.one2 m4);refine AE [(0,_),(1,_)] [.int .i64 0,.int .i64 0] [_,_] rfl AY Be rfl (by omega) (by kernel_rfl) Qt rfl rfl rfl rfl (fun g32=>AW fun h5 l5 m5=>?_);have hE2:=(hE2.up l5).snoc (RdEs.one2 m5);refine AE [(0,_),(1,_)] [.slice none 0 0,.slice none 0 0] [_,_] rfl Ck Cw rfl (by omega) (by kernel_rfl) Qt rfl rfl rfl rfl (fun g33=>AW fun h6 l6 m6=>?_);have hE2:=hE2.up l6;have hV2:=(OwnL.blk (g:=g33) (el:=22) (F:=cW) (l:=[_,_]) 2 DV rfl (by decide)).rdh (ms:=[]) m6;have hE0:=RdEs.nil h6;refine AE [(0,_),(1,_)] [.int .i64 0,.int .i64 0] [_,_] rfl AY Be rfl (by omega) (by kernel_rfl) Qt rfl rfl rfl rfl (fun g34=>AW fun h7 l7 m7=>?_);have hE3:=(hE0.up l7).snoc (RdEs.one2 m7);refine AE [(0,_),(1,_)] [.int .i64 0,.int .i64 0] [_,_] rfl AY Be rfl (by omega) (by kernel_rfl) Qt rfl rfl rfl rfl (fun g35=>AW fun h8 l8 m8=>?_);have hE3:=(hE3.up l8).snoc (RdEs.one2 m8);refine AE [(0,_),(1,_)] [.int .i64 0,.int .i64 0] [_,_] rfl AY Be rfl (by omega) (by kernel_rfl) Qt rfl rfl rfl rfl (fun g36=>AW fun h9 l9 m9=>?_);have hE3:=(hE3.up l9).snoc (RdEs.one2 m9);refine AE [(0,_),(1,_),(2,_)] [.slice none 0 0,.slice none 0 0,.slice none 0 0] [_,_,_] rfl Ck Cw rfl (by omega) (by kernel_rfl) Qt rfl rfl rfl rfl (fun g37=>AW fun ha la ma=>?_);have hE3:=hE3.up la;have hV3:=(OwnL.blk (g:=g37) (el:=22) (F:=cW) (l:=[_,_,_]) 3 DV rfl (by decide)).rdh (ms:=[]) ma;refine Qx (TO [.slice none 0 0,.slice none 0 0,.slice none 0 0] [(0,[_]),(1,[_]),(2,[_])] [_,_,_] rfl Z6 VL rfl Wu rfl Qt rfl) rfl (CC [.slice none 0 0,.slice none 0 0,.slice none 0 0] rfl VL rfl rfl (fun g5=>?_));refine Sa 0 [_,_,_] VL rfl (by simp[Value.oneCell']) ?_;refine An (Aw fun hb' lb hS5=>?_);have l9b:=AJ l9 (AJ la lb);have l6b:=AJ l7 (AJ l8 l9b);have l3b:=AJ l4 (AJ l5 (AJ l6 l6b));have l1b:=AJ l2 (AJ l3 l3b);have c2:∀ms,Cell hb' ms (⟨g1,2,none⟩:Addr) (.int .i64 b):=fun ms=>(c2 ms).le l1b;have hA5:=Seg.all hS5
      have hArr:∀n:Nat,n<3->∃v es,(∀ms,Cell hb' ms ((⟨g5,0,none⟩:Addr).add (n*1)) v)/\RdL cW 1 hb' [] v es/\RdEs hb' es (Hq n):=fun n hn=>by
       rcases (by omega:n=0\/n=1\/n=2) with rfl|rfl|rfl
       ·exact⟨_,_,fun ms=>hA5 0 _ rfl ms,hV1.up l3b,hE1.up l3b⟩
       ·exact⟨_,_,fun ms=>hA5 1 _ rfl ms,hV2.up l6b,hE2.up l6b⟩
       ·exact⟨_,_,fun ms=>hA5 2 _ rfl ms,hV3.up lb,hE3.up lb⟩
      obtain⟨v1,es1,q1,hV1,hE1⟩:=hArr n1 hn13;obtain⟨v2,es2,q2,hV2,hE2⟩:=hArr n2 hn23;have ov1:=hV1.rd.one;have ov2:=hV2.rd.one;refine BF (n:=13) (bs:=[true,true,true,false,true,true,true,true,true,true,false,false,false]) [true,true,true,false,true,true,true,true,true,true] CP (by kernel_rfl) (by kernel_rfl) rfl rfl (Qq rfl (Qp rfl (Ek (n1) rfl Z6 Wu rfl rfl (by omega) (by omega)) (QL rfl Ck (q1 _) (QF Ii rfl (QL rfl U3 (c2 _) (Qp rfl (M6 rfl rfl rfl (by omega) (by omega)) (Qp rfl (AF rfl call34 rfl (hm2 _ _)) (Qp rfl (Ek (n2) rfl Z6 Wu rfl rfl (by omega) (by omega)) (QL rfl Ck (q2 _) ?_)))))))));unfold FN;simp only[cons_append,nil_append];refine Ba [3,10] (by kernel_rfl) rfl ?_;refine AD rfl ?_ ?_
      ·refine Qc call104 rfl (Co (Hq n1) es1 v1 _ (FO n1).1 (FO n1).2 (hV1.up (CY)) (hE1.up (CY))) (fun rA hA msA lA hF=>?_);obtain⟨lA',mA,A,vA,rfl,rfl,hOA,hAc,hsA⟩:=hF;refine A4 hOA fun hA2 lA2 hRA=>?_;have lcA:=AJ lA lA2;have lbA:hb'.le hA2:=AJ (CY) lcA;have hRA:RdC hA2 vA A:=⟨hRA,fun a ha=>(hsA a ha).up lA2⟩
       have ovA:=hRA.q.rd.one;refine Qa (Qo 10 rfl (Qc call104 rfl (Co (Hq n2) es2 v2 _ (FO n2).1 (FO n2).2 (hV2.up (by assumption)) (hE2.up (by assumption))) (fun rB hB msB lB hF=>?_)));obtain⟨lB',mB,B,vB,rfl,rfl,hOB,hBc,hsB⟩:=hF;refine A4 hOB fun hB2 lB2 hRB=>?_;have lcB:=AJ lB lB2;have lbB:hb'.le hB2:=AJ (by assumption) lcB;have hRB:RdC hB2 vB B:=⟨hRB,fun a ha=>(hsB a ha).up lB2⟩
       have ovB:=hRB.q.rd.one;refine Qa (Qo 11 rfl (Qc call107 rfl (Fg A B vA vB _ (E7 hAc) (E7 hBc) (hRA.up (by assumption)) (hRB.up (CY))) (fun rR hR msR lR hF=>?_)));obtain⟨lR',mC,C,vC,rfl,rfl,hOC,hsC,hC⟩:=hF;have lbR:hb'.le hR:=AJ (by assumption) lR;have hn36:A.length*B.length<=210:=Oi hn13 hn23 hAc hBc;have ovC:=hOC.o1;refine Qa (Qo 12 rfl ?_);refine Sa 1 [_] A6 rfl (by simp[o1,ov1,ov2,ovA,ovB,ovC]) ?_;refine Qa (Qe (Ai ?_));exact AA _ ⟨vC,mC,C,rfl,AJ l1b lbR,rfl,hOC,G0 hn36 (JE hC rfl),hsC⟩ Qs
      refine AD rfl ?_ ?_
      ·refine Qc call104 rfl (Co (Hq n2) es2 v2 _ (FO n2).1 (FO n2).2 (hV2.up (CY)) (hE2.up (CY))) (fun rB hB msB lB hF=>?_);obtain⟨lB',mB,B,vB,rfl,rfl,hOB,hBc,hsB⟩:=hF;refine A4 hOB fun hB2 lB2 hRB=>?_;have lcB:=AJ lB lB2;have lbB:hb'.le hB2:=AJ (CY) lcB;have hRB:RdC hB2 vB B:=⟨hRB,fun a ha=>(hsB a ha).up lB2⟩
       have ovB:=hRB.q.rd.one;refine Qa (Qo 3 rfl (Qc call104 rfl (Co (Hq n1) es1 v1 _ (FO n1).1 (FO n1).2 (hV1.up (by assumption)) (hE1.up (by assumption))) (fun rA hA msA lA hF=>?_)));obtain⟨lA',mA,A,vA,rfl,rfl,hOA,hAc,hsA⟩:=hF;refine A4 hOA fun hA2 lA2 hRA=>?_;have lcA:=AJ lA lA2;have lbA:hb'.le hA2:=AJ (by assumption) lcA;have hRA:RdC hA2 vA A:=⟨hRA,fun a ha=>(hsA a ha).up lA2⟩
       have ovA:=hRA.q.rd.one;refine Qa (Qo 11 rfl (Qc call107 rfl (Fg A B vA vB _ (E7 hAc) (E7 hBc) (hRA.up (CY)) (hRB.up (by assumption))) (fun rR hR msR lR hF=>?_)));obtain⟨lR',mC,C,vC,rfl,rfl,hOC,hsC,hC⟩:=hF;have lbR:hb'.le hR:=AJ (by assumption) lR;have hn36:A.length*B.length<=210:=Oi hn13 hn23 hAc hBc;have ovC:=hOC.o1;refine Qa (Qo 12 rfl ?_);refine Sa 1 [_] A6 rfl (by simp[o1,ov1,ov2,ovA,ovB,ovC]) ?_;refine Qa (Qe (Ai ?_));exact AA _ ⟨vC,mC,C,rfl,AJ l1b lbR,rfl,hOC,G0 hn36 (JE hC rfl),hsC⟩ Qs
      exact Bb
     ·refine Ac (Ad (Qm rfl (Qm rfl (An ?_))));refine Au rfl (fun k5=>?_) (fun k5=>?_)
      ·obtain⟨n,hn⟩:∃n:Nat,2+b%5=(n:Int):=⟨(2+b%5).toNat,by omega⟩
       have hn5:n=2\/n=3\/n=4\/n=5\/n=6:=by omega
       have hpo:=Ra n h1 (by omega);rw[<-hn]at hpo;refine Ad (Qf Ii rfl (Ql rfl U3 (c2 _) (Qx (AF rfl call34 rfl (E2 b 5 hb (by decide) h1 _)) rfl (Qx (oA rfl) rfl (Qc call108 rfl (hpo) (fun rC h4 ms4 l4 hF=>?_))))));obtain⟨l4',mC,C,vC,rfl,rfl,hOC,hC,hs⟩:=hF;have ovC:=hOC.o1;refine Sa 1 [_] A6 rfl (by simp[o1,ovC]) ?_;refine Aj (Ai ?_);exact AA _ ⟨vC,mC,C,rfl,l4,rfl,hOC,by rw[hC];exact Ve hn5,hs⟩ Qs
      ·refine Ac (Ad (Qm rfl (Qm rfl (An ?_))));refine Au rfl (fun k6=>?_) (fun k6=>?_)
       ·have hE0:=RdEs.nil h1;refine As (AE [(0,_),(1,_)] [.int .i64 0,.int .i64 0] [_,_] rfl AY Be rfl (by omega) (by kernel_rfl) Qt rfl rfl rfl rfl (fun g60=>AW fun h2 l2 m2=>?_));have hE0:=(hE0.up l2).snoc (RdEs.one2 m2);refine Aq [_] rfl Ck Cw rfl (by rfl) rfl rfl (by omega) rfl rfl rfl (fun g61=>AW fun h3 l3 m3=>?_);have hE0:=hE0.up l3;have hV0:=(OwnL.blk (g:=g61) (el:=22) (F:=cW) (l:=[_]) 1 DV rfl (by decide)).rdh (ms:=[]) m3;refine Qc call104 rfl (Co [[0,1]] _ _ h3 (by decide) (by decide) hV0 hE0) (fun rC h4 ms4 l4 hF=>?_);obtain⟨l4',mE,E,vE,rfl,rfl,hOE,hEc,hsE⟩:=hF;refine A4 hOE fun h5 l5 hRE=>?_;have hRE:RdC h5 vE E:=⟨hRE,fun a ha=>(hsE a ha).up l5⟩
        have ovE:=hRE.q.rd.one;refine CC [.slice none 0 0] rfl A6 rfl rfl (fun g6=>?_);refine Sa 0 [_] A6 rfl (by simp[o1,ovE]) ?_;refine An (Aw fun h6 l6 hS6=>?_);have hRE:=hRE.up l6;have hE3:E.length=3:=by have:=congrArg List.length hEc;rw[length_map]at this;rw[this];rfl
        refine BF (n:=6) (bs:=[true,true,false,true,false,false]) [true,true,false,true] CP (by kernel_rfl) (by kernel_rfl) rfl rfl (Qp rfl (oG rfl Dt A6 (Seg.any hS6)) (Qp rfl (oG rfl Dt A6 (Seg.any hS6)) (Qp rfl (oG rfl Dt A6 (Seg.any hS6)) ?_)));unfold FN;simp only[cons_append,nil_append];refine Qo 2 rfl (Qc call107 rfl (Fg E E vE vE h6 (E7 hEc) (E7 hEc) hRE hRE) (fun rP h7 ms7 l7 hF=>?_));obtain⟨l7',mP,P,vP,rfl,rfl,hOP,hsP,hP⟩:=hF;have hPQ:Ob (P.map Ce.c):=G0 (n:=9) (by decide) (JE hP (by rw[hE3]));refine A4 hOP fun h8 l8 hRP=>?_;have hRP:RdC h8 vP P:=⟨hRP,fun a ha=>(hsP a ha).up l8⟩
        have ovP:=hRP.q.rd.one;have l68:h6.le h8:=AJ l7 l8;have hPl:P.length*3<=210:=by have:=PG (JE hP (show _=9 by rw[hE3]));rw[length_map]at this;omega
        refine Qa (Qo 4 rfl ?_);have hRE:=hRE.up (AJ l7 l8);refine Qc call107 rfl (Fg P E vP vE h8 (ZJ hPQ) (E7 hEc) hRP hRE) (fun rR h9 ms9 l9 hF=>?_);obtain⟨l9',mC,C,vC,rfl,rfl,hOC,hsC,hC⟩:=hF;have l69:h6.le h9:=AJ l68 l9;have ovC:=hOC.o1;refine Qa (Qo 5 rfl ?_);refine Sa 1 [_] A6 rfl (by simp[o1,ovE,ovP,ovC]) ?_;refine Qa (Qe (Ai ?_));exact AA _ ⟨vC,mC,C,rfl,AJ l2 (AJ l3 (AJ l4 (AJ l5 (AJ l6 (AJ l7 (AJ l8 l9)))))),rfl,hOC,G0 (n:=P.length*3) hPl (JE hC (by rw[hE3])),hsC⟩ Qs
       ·refine Ac (Ad (Qm rfl (Qm rfl (An ?_))));refine Au rfl (fun hc=>?_) (fun hc=>absurd (by omega) hc);obtain⟨m3,hm3⟩:∃n:Nat,b%2=(n:Int):=⟨(b%2).toNat,by omega⟩
        have hmd:∀h ms,FnV Tryz.prog 34 #[.int .i64 b,.int .i64 2] h ms (.int .i64 m3):=fun h ms=>by rw[<-hm3];exact E2 b 2 hb (by decide) h ms
        have hm32:m3<2:=by omega
        have hs4:=Tq b;refine BF (n:=14) (bs:=[true,true,false,true,true,false,true,true,true,true,false,false,false,false]) [true,true,false,true,true,false,true,true,true,true] CP (by kernel_rfl) (by kernel_rfl) rfl rfl (QF Un rfl (QL rfl Ck (c1 _) (QF Ii rfl (QL rfl U3 (c2 _) (QF Ii rfl (QL rfl U3 (c2 _) (Qp rfl (AF rfl call34 rfl (hmd _ _)) (Qp rfl (oA rfl) ?_))))))));unfold FN;simp only[cons_append,nil_append];refine Qo 2 rfl (Qc call105 rfl (R6 ll es0 vS _ hi (hV.up (CY)) (hE.up (CY))) (fun r2 h2 ms2 l2 hF=>?_));obtain⟨l2',m2,es2,rfl,hO2,hE2⟩:=hF;have he2:es2.length<=5:=by rw[hE2.1];exact O7 ll
        have ov2:=hO2.o1;refine Qa (Qo 5 rfl (Qc call106 rfl (Lo b _ hb) (fun r5 h5 ms5 l5 hF=>?_)));obtain⟨l5',m5,es5,rfl,hO5,hE5⟩:=hF;refine A4 hO5 fun h6 l6 hV5=>?_;have hE5:=hE5.up l6;have l26:=AJ l5 l6;have l16:h1.le h6:=AJ (by assumption) l26;have hE2:=hE2.up l26;have ov5:=hV5.rd.one;have he5:4<=es5.length:=by rw[hE5.1];exact hs4
        refine Qa (EL 10 80 (by kernel_rfl) rfl (by assumption) rfl (EG (2+m3) hV5.rd rfl Ck Cw rfl rfl (by omega) (by omega)) (Qo 11 rfl ?_));have hV6:RdL cW 1 h6 [] (Cu 1 r5 0 (2+m3)) (es5.take (2+m3)):=by have:=hV5.sub_ (i:=0) (j:=2+m3) (by omega) (by omega);rwa [List.drop_zero,Nat.sub_zero]at this
        have hV6l:(es5.take (2+m3)).length<=5:=by rw[length_take];omega
        refine Bj 0 hO2 hV6.any rfl Ck Cw rfl (by omega) rfl rfl rfl (fun u hu=>JL hE5.ones u (List.mem_of_mem_take hu)) (by omega) (by omega) rfl rfl rfl (fun v9 m9 hO9=>?_);have hE9:=hE2.app (hE5.tak (2+m3));have hO9:OwnL cW 1 22 m9 v9 (es2++es5.take (2+m3)):=hO9;refine A4 hO9 fun h9 l9 hV9=>?_;have hE9:=hE9.up l9;have l19:h1.le h9:=AJ l16 l9;have ov9:=hV9.rd.one;refine Qa (Qo 12 rfl (Qc call104 rfl (Co (Ec ll++(Fz b).take (2+m3)) _ v9 h9 (UL ll b _).1 (UL ll b _).2 hV9 hE9) (fun rC hC msC lC hF=>?_)));obtain⟨lC',mC,C,vC,rfl,rfl,hOC,hCc,hsC⟩:=hF;have l1C:h1.le hC:=AJ l19 lC;have ovC:=hOC.o1;refine Qa (Qo 13 rfl ?_);refine Sa 1 [_] A6 rfl (by simp[o1,ov2,ov5,ov9,ovC]) ?_;refine Qa (Qe (Ai ?_));exact AA _ ⟨vC,mC,C,rfl,l1C,rfl,hOC,by rw[hCc];exact Ld _,hsC⟩ Qs
 ·obtain⟨vC,mC,C,rfl,l2,rfl,hC,hQ,hs⟩:=hI;have ovC:=hC.o1;refine A3 (fun sl h' ms'=>∃(vC:Value) (mC:Hp) (C:List Ce),sl=[(1,.pointer (some ⟨g1,0,none⟩)),(2,.pointer (some ⟨g2,0,none⟩)),(3,.pointer (some ⟨g3,0,none⟩))]/\h.le h'/\ms'=[mC,A7 g3 29 [vC],A7 g2 29 [.slice none 0 0]]/\OwnL cC 3 52 mC vC C/\Ob (C.map Ce.c)/\C.length<=45/\∀a∈C,RdL cD 2 h' [] a.v a.c.sd) ?_ (fun s h ms hI=>?_)
  ·refine Ac (Ad (Qf B6 rfl (Ql rfl Bs (Cell.blk 1 rfl rfl) (Qx (Ar (hC.rd Mh).rd rfl Bs rfl) rfl (Qm rfl (An ?_))))));refine Au rfl (fun h45=>?_) (fun h45=>?_)
   ·refine Ad (Qc call109 rfl (Vu _) (fun rT hT msT lT hF=>?_));obtain⟨lT',mT,T,vT,rfl,rfl,hOT,hTQ,hsT⟩:=hF;have ovT:=hOT.o1
    have hT36:T.length<=45:=by have:=PG hTQ;rw[length_map]at this;exact Nat.le_trans this (by decide)
    refine Sa 2 [_] A6 rfl (by simp[o1,ovC,ovT]) ?_;refine Aj (Bp 1 rfl ?_);exact AA _ ⟨vT,mT,T,rfl,lT,rfl,hOT,G0 (by decide) hTQ,hT36,hsT⟩ Qs
   ·refine Ah ?_;exact AA _ ⟨vC,mC,C,rfl,CY,rfl,hC,hQ,by omega,hs⟩ Qs
  ·obtain⟨vC,mC,C,rfl,l3,rfl,hC,hQ,h45,hs⟩:=hI;refine BN hC fun h5 l5 hRC=>(Aw fun h6 l6 hS3=>?_)
   have hRC:RdC h6 vC C:=⟨hRC.up l6,fun a ha=>(hs a ha).up (AJ l5 l6)⟩
   have ovC:=hRC.q.rd.one;have l2z:h1.le h6:=AJ l2 (AJ l3 (AJ l5 l6));have c2:∀ms,Cell h6 ms (⟨g1,2,none⟩:Addr) (.int .i64 b):=fun ms=>(c2 ms).le l2z;have hrn:∀a∈C,Aam a.c:=fun a ha=>hQ.1.rn (fun x hx=>by have:=hQ.2 (by rw[length_map];exact h45) x hx;omega) a.c (List.mem_map.2 ⟨a,ha,rfl⟩);refine As (Qx (oG rfl Dt A6 (Seg.any hS3)) rfl (Qf Ii rfl (Ql rfl U3 (c2 _) (Qc call110 rfl (L4 C vC b h6 hb (by omega) hrn hRC) (fun rR hR msR lR hF=>?_)))));obtain⟨lR',mR,R,vR,rfl,rfl,hOR,hRe,hsR⟩:=hF;have ovR:=hOR.o1;have hMQ:VY (R.map Ce.c):=by rw[hRe];exact Xf hQ (by rw[length_map];exact h45) b
   refine Sa 1 [_] A6 rfl (by simp[o1,ovC,ovR]) ?_;refine An (Am ?_);exact BU (vs:=[_]) 1 rfl rfl Dt rfl A6 rfl rfl (⟨AJ l1 (AJ l2z lR),mR,R,_,rfl,rfl,hOR,hMQ,hsR⟩)
end Go.Proofs.Q
namespace Go.Proofs.Q
open Go.Proofs.Tryz
open Go.Eng Go.RowKit Go.Lin Go.Sort Go.Srt
theorem Tz(kind b t:Int)(ll:List (List Int))(es0:List Value)(vS vl:Value)(L:List Int)(hp:Hp)(hk:BD kind)(hb:BD b)(ht:-128<=t/\t<=127)(hi:∀l∈ll,∀x∈l,BD x)(hV:RdL cW 1 hp [] vS es0)(hE:RdEs hp es0 ll)(hL:RdL cI 1 hp [] vl L):FnT Tryz.prog 11 #[.agg #[.int .i64 kind,vS,.int .i64 b],vl,.int .i8 t] hp [] (fun r _ _=>r=.bool true):=by
 have o1:=hV.rd.one;have o2:=hL.rd.one;refine Ao func11 ntmps11 rfl rfl (fun w0 hw0=>?_);simp only[AU];refine As (AS [_,_,_] rfl rfl (by rfl) rfl rfl rfl (fun g3=>Qm rfl (An (Aw fun h1 l1 hS=>?_))));have hV:=hV.up l1;have hE:=hE.up l1;have hL:=hL.up l1;refine As (Qx (AF rfl call39 rfl (Tn _ _)) rfl (Qm rfl (Bv (Qx (oG rfl U83 AbD (Seg.any hS)) rfl (Qc call40 rfl (YW kind b ll es0 vS h1 hk hb hi hV hE) (fun rc h2 ms2 l2 hQ=>?_))))));obtain⟨l2',mC,A,vC,rfl,rfl,hOC,hMQ,hsd⟩:=hQ;have oC:=hOC.o1;refine CC [.slice none 0 0] rfl A6 rfl rfl (fun g8=>?_);refine Sa 0 [_] A6 rfl (by simp[o1,o2,oC]) ?_;refine An (Aw fun h3 l3 hS8=>(BN hOC fun h4 l4 hC=>?_));have hR:RdC h4 vC A:=⟨hC,fun a ha=>(hsd a ha).up (AJ l3 l4)⟩
 have hFA:RgtF (A.map Ce.c):=hMQ.1;have hcn:cn A=A.map Ce.c:=Q7 hFA;have hK:RgC A:=⟨hFA.rgt,fun a ha=>by have:=hMQ.2.2 a.c (List.mem_map.2 ⟨a,ha,rfl⟩);omega⟩
 have hG:=hFA.rgt;have hA45:A.length<=45:=by have:=hMQ.2.1;rwa [length_map]at this
 have l24:=AJ l2 (AJ l3 l4);have hL:=hL.up l24;have hS8:=hS8.le l4;refine As (Qx (oG rfl Dt A6 (Seg.any hS8)) rfl (Qm rfl (Qc call41 rfl (SB A vC vl L h4 hK hFA hR hL hL.len_le) (fun rF h5 ms5 l5 hQ=>?_))));obtain⟨l5',mF,rfl,hOF⟩:=hQ;have oF_:=hOF.o1;refine Qm rfl (An (BN hOF fun h6 l6 hF=>?_));have l46:=AJ l5 l6;have hR:=hR.up l46;have hL:=hL.up l46;have hS8:=hS8.le l46;obtain⟨z,hz⟩:∃z:Nat,(L.length:Int)%3=z:=⟨L.length%3,by omega⟩
 have hz3:z<3:=by omega
 obtain⟨p,hcell,hP,hp2⟩:∃p,([.int .i64 2,.int .i64 3,.int .i64 7]:List Value)[z]?=some (.int .i64 p)/\IsP p/\p<256:=by
  rcases (by omega:z=0\/z=1\/z=2) with rfl|rfl|rfl
  ·exact⟨2,rfl,by decide⟩
  ·exact⟨3,rfl,by decide⟩
  ·exact⟨7,rfl,by decide⟩
 refine As (AE [(0,_),(1,_),(2,_)] [.int .i64 0,.int .i64 0,.int .i64 0] [_,_,_] rfl AY Be rfl (by omega) (by kernel_rfl) Qt rfl rfl rfl rfl (fun g25=>Qm rfl (Qx (Ar hL.rd.any rfl AY rfl) rfl (Qx (BV rfl rfl rfl (by omega) (by omega)) rfl (Qx (Cs (z) rfl AY Be rfl rfl (by omega) (by omega)) rfl ?_)))));refine Ql rfl U3 (by exact Cell.blk 0 rfl (by rw[Nat.mul_one];exact hcell)) ?_;refine Qm rfl (An (Aw fun h9 l9 _=>?_));have hR:=hR.up l9;have hF:=hF.up l9;have hS8:=hS8.le l9;have QF:Z5 (A.map Ce.c) (Hb (A.map Ce.c) L A.length):=by have:=Aas hG L;rwa [length_map]at this
 generalize Hb (A.map Ce.c) L A.length=F at hF QF;have hlF:F.length=A.length:=by have:=congrArg List.length QF.fst;simpa using this
 have kF:∀q∈F,BD q.1:=fun q hq=>by
  have hc:q.1∈(A.map Ce.c).map Cl.id:=by rw[<-QF.fst];exact List.mem_map.2 ⟨q,hq,rfl⟩
  obtain⟨x,hx,e⟩:=List.mem_map.1 hc;have h1:=hG.pos x hx;have h2:=hMQ.2.2 x hx;rw[<-e];unfold BD;omega
 have VF:QI F:=⟨by omega,kF⟩
 have iF:∀c,BD (Ed (BQ F) c):=fun c=>by have:=QF.bI c;unfold BD;omega
 rw[<-hcn]at QF;refine As (Qx (oG rfl Dt A6 (Seg.any hS8)) rfl (Qm rfl (Qm rfl (Qc call15 rfl (P7 A F vC rF p h9 hK hR hF VF iF QF.chk hP (by omega)) (fun ra h10 ms10 l10 hQ=>?_)))));obtain⟨l10',S,Rf,Vf,va,ma,rfl,rfl,hOa,Pa⟩:=hQ;have oa:=hOa.o1;refine Qm rfl (Qm rfl (Qm rfl (Qm rfl (Qm rfl (An (BN hOa fun h11 l11 hBa=>?_))))));have l11':=AJ l10 l11;have hR:=hR.up l11';have hF:=hF.up l11';have hS8:=hS8.le l11';have H:PerH p F A S Rf Vf:=⟨Pa,hP,hK.F.rgt,QF.mon⟩
 have hbt:=H.betti;have hlS:S.length<=45:=by have:=Pa.perm.length_eq;rw[length_map,Ej]at this;omega
 have nA:(Gg (Ed (BQ F)) S (Fy S Rf) S.length).length<=1000000:=by have:=KX (Ed (BQ F)) S (Fy S Rf) S.length;omega
 generalize Gg (Ed (BQ F)) S (Fy S Rf) S.length=la at *;refine As (Qm rfl (Qx (Hz rfl U84 U3 rfl (Da (by omega))) rfl (AE [(0,_),(1,_),(2,_)] [.int .i64 0,.int .i64 0,.int .i64 0] [_,_,_] rfl AY Be rfl (by omega) (by kernel_rfl) Qt rfl rfl rfl rfl (fun g40=>Qm rfl (An (Aw fun h12 l12 hS40=>?_))))));have hR:=hR.up l12;have hF:=hF.up l12;have hBa:=hBa.up l12;have hS8:=hS8.le l12;refine Ac (As (Qm rfl (An (Ae ?_))))
 refine Az (fun q sl h' ms'=>∃(k:Nat),q=3-k/\sl=[(7,.bool true),(8,.pointer (some ⟨g8,0,none⟩)),(9,rF),(10,.int .i64 p),(11,va),(12,.int .i64 0),(13,.slice (some ⟨g40,0,none⟩) 3 3),(14,.int .i64 k)]/\h12.le h'/\ms'=[]/\k<=3)
  (3-0) _ ⟨0,rfl,rfl,CY,rfl,by omega⟩ Qs ?_
 rintro q sl h' ms' ⟨k,rfl,rfl,lh,rfl,hk'⟩;have hR:=hR.up lh;have hF:=hF.up lh;have hBa:=hBa.up lh;have hS8:=hS8.le lh;have hS40:=hS40.le lh;refine Ac (As (Qm rfl (Qm rfl (An ?_))));refine Au rfl (fun hlt=>?_) (fun hlt=>?_)
 ·obtain⟨tt,hct,htt⟩:∃tt,([.int .i64 t,.int .i64 (-1000),.int .i64 1000]:List Value)[k]?=some (.int .i64 tt)/\-1000<=tt/\tt<=1000:=by
   rcases (by omega:k=0\/k=1\/k=2) with rfl|rfl|rfl
   ·exact⟨t,rfl,by omega⟩
   ·exact⟨-1000,rfl,by decide⟩
   ·exact⟨1000,rfl,by decide⟩
  have c40:∀{h},h'.le h->∀ms,Cell h ms ((⟨g40,0,none⟩:Addr).add (k*1)) (.int .i64 tt):=fun l ms=>by rw[Nat.mul_one];exact Seg.all (hS40.le l) k _ hct ms
  refine Ah (Ab (Ac (Ae (Ac (BF (n:=13) (bs:=[true,true,true,true,true,true,true,false,false,false,false,false,false]) [true,true,true,true,true,true,true] CP (by kernel_rfl) (by kernel_rfl) rfl rfl (Qp rfl (oG rfl Dt A6 (Seg.any hS8)) (Qq rfl (Qq rfl (Qq rfl (Qp rfl (Cs (k) rfl AY Be rfl rfl (by omega) (by omega)) (QL rfl U3 (c40 (CY) _) (Qq rfl ?_))))))))))));unfold FN;simp only[cons_append,nil_append];refine Qo 7 rfl (Qc call19 rfl (Tx A F vC rF tt p h' hK hR hF VF QF.chk QF.mon hP hp2 (by omega)) (fun rB h4 ms4 l4 hB=>?_));obtain⟨l4',D,rk,w,mW,rfl,rfl,hOW,hD,hr0,hrk⟩:=hB;have ow:=hOW.o1;refine Qa (EL 8 45 (by kernel_rfl) rfl (by assumption) rfl (Ay rfl rfl) (EL 9 54 (by kernel_rfl) rfl (by assumption) rfl (H2 rfl rfl rfl) (EL 10 55 (by kernel_rfl) rfl (by assumption) rfl (H2 rfl rfl rfl) (Qo 11 rfl (Qm rfl (Qa (Qo 12 rfl (Qm rfl (Qa (Qe (Ab (BN hOW fun h5 l5 hW=>?_))))))))))));have l45:=AJ l4 l5;have hBa:=hBa.up l45;have key:=hbt tt D rk hD hr0 hrk;have hWl:(NF (Ff F tt (cn A)) rk (D+1).toNat).length=(D+1).toNat:=by unfold NF;rw[length_map,List.length_range]
  have hD8:(D+1).toNat<=9:=by
   rcases hD.2.2 with h|⟨c,hc,h⟩
   ·omega
   ·have:=(hK.F.rgt.bds (mem_sub.1 hc).1).1;omega
  generalize NF (Ff F tt (cn A)) rk (D+1).toNat=W at hW key hWl;generalize (D+1).toNat=nD at key hWl hD8;refine Ac (As (Qm rfl (Qm rfl (Qm rfl (Qg (Ay rfl rfl) rfl (Qg (EZ rfl rfl rfl) rfl (Qm rfl (An (Au rfl (fun hc=>absurd hc (fun h=>h rfl)) (fun hc=>Ah (Ab (As (Qm rfl (An (Ae ?_)))))))))))))))
  refine Az (fun q sl h' ms'=>∃(d:Nat),q=4-d/\sl=[(7,.bool true),(8,.pointer (some ⟨g8,0,none⟩)),(9,rF),(10,.int .i64 p),(11,va),(12,.int .i64 0),(13,.slice (some ⟨g40,0,none⟩) 3 3),(14,.int .i64 k),(15,w),(17,.int .i64 d)]/\h5=h'/\ms'=[]/\d<=4)
   (4-0) _ ⟨0,rfl,rfl,rfl,rfl,by omega⟩ Qs ?_
  rintro q sl h' ms' ⟨d,rfl,rfl,rfl,rfl,hd'⟩;have c45:∀ms,Cell h5 ms ((⟨g40,0,none⟩:Addr).add (k*1)) (.int .i64 tt):=fun ms=>c40 l45 ms;refine Ac (As (Qm rfl (Qm rfl (An ?_))));refine Au rfl (fun hld=>?_) (fun hld=>?_)
  ·refine Ah (Ab (Ac (Ae (As (Qm rfl (An (Ac (As (Qm rfl (Qm rfl (Qx (Ar hW.rd.any rfl AY rfl) rfl (Qm rfl (An ?_)))))))))))));refine Au rfl (fun hdn=>?_) (fun hdn=>?_)
   ·have hdW:d<W.length:=by omega
    have cW:∀ms,Cell h5 ms ((AG w).add (d*1)) (.int .i64 (W.getD d 0)):=fun ms=>by rw[show W.getD d 0=W[d] by simp[List.getD,hdW]];exact(hW.any (ms:=ms)).cell0 hdW rfl
    have hkd:=key d;rw[if_pos (by omega)]at hkd;refine Ad (Qm rfl (Qm rfl (Qx (BS (d) hW.rd.any rfl AY Be rfl rfl) rfl (Ql rfl U3 (cW _) (Qm rfl (Bv (Qm rfl (Qm rfl (Qm rfl (Qm rfl (Qx (Cs (k) rfl AY Be rfl rfl (by omega) (by omega)) rfl (Ql rfl U3 (c45 _) (Qx (AF rfl call42 rfl (KN la va (d:Int) tt h5 hBa nA _)) rfl (Qm rfl (Qm rfl (An (Au rfl (fun hc=>absurd hc (fun h=>h hkd)) (fun hc=>Ah (Ai (Ab (Ad (Qm rfl (Qx (oA rfl) rfl (Qm rfl (Aj ?_)))))))))))))))))))))))));exact Ak (4-(d+1)) _ (by omega) ⟨d+1,rfl,rfl,rfl,rfl,by omega⟩ Qs
   ·have hkd:=key d;rw[if_neg (by omega)]at hkd;refine Ah (Ab (As (Qm rfl (Qm rfl (Qm rfl (Qm rfl (Qx (Cs (k) rfl AY Be rfl rfl (by omega) (by omega)) rfl (Ql rfl U3 (c45 _) (Qx (AF rfl call42 rfl (KN la va (d:Int) tt h5 hBa nA _)) rfl (Qm rfl (Qm rfl (An (Au rfl (fun hc=>absurd hc (fun h=>h hkd)) (fun hc=>Ah (Ai (Ab (Ad (Qm rfl (Qx (oA rfl) rfl (Qm rfl (Aj ?_)))))))))))))))))))));exact Ak (4-(d+1)) _ (by omega) ⟨d+1,rfl,rfl,rfl,rfl,by omega⟩ Qs
  ·refine Av (Aa (Aa (Af (Ai (Ab (Ad (Qm rfl (Qx (oA rfl) rfl (Qm rfl (Aj ?_))))))))));exact Ak (3-(k+1)) _ (by omega) ⟨k+1,rfl,rfl,AJ lh l45,rfl,by omega⟩ Qs
 ·refine Av (Aa (Aa (Af (Ab (As (Qm rfl (Qm rfl (An (Am ?_)))))))));exact Ap rfl rfl (rfl)
end Go.Proofs.Q
namespace Go.Proofs.Q
open Go.Eng Go.ChangeShapes Go.WideShapes Go.ChangeAt Go.RowKit Go.Deep
theorem own:ownKnob Tryz.prog.godebug=none:=by kernel_rfl
theorem Aac{w w':World}(E:Ext w w'):Below w.heap.size w w':=⟨E.os,E.tape.tape,E.output,E.size,E.block⟩
theorem RD:laidOutB Tryz.prog=true:=by kernel_rfl
section
variable {H:Type} {enc:TypeId×Value->H} {w:World} {base:Nat} {spare:Nat->Bool} {held:Bool}
theorem NN{P:Program}{t:TypeId}{f0 f1 f2:Field}{fuel:Nat}{cs:List Value}{x:DataW H×List MemPlace}(ht:P.underlying t=some (.struct #[f0,f1,f2]))(h:DataW.trod enc P w base spare held fuel t cs=some x) :
  ∃y0 y1 y2 n,cs.length=P.cellsOf t/\DataW.trod enc P w base spare held n f0.type ((cs.drop f0.offset).take (P.cellsOf f0.type))=some y0 ∧
   DataW.trod enc P w base spare held n f1.type ((cs.drop f1.offset).take (P.cellsOf f1.type))=some y1/\DataW.trod enc P w base spare held n f2.type ((cs.drop f2.offset).take (P.cellsOf f2.type))=some y2:=by
 obtain⟨xs,n,_,rfl,hl,hlen,hf⟩:=DataW.trod_struct ht h
 match xs,hlen with
 | [y0,y1,y2],_=>exact⟨y0,y1,y2,n,hl,by simpa using hf 0 f0 rfl,by simpa using hf 1 f1 rfl,by simpa using hf 2 f2 rfl⟩
theorem Jz(n:Nat)(cs:List Value)(y:DataW H×List MemPlace)(h:DataW.trod enc Tryz.prog w base spare held n 3 cs=some y):∃a,cs=cI a/\BD a:=by obtain⟨b,h1,_,h2⟩:=DataW.trod_int U3 h;exact⟨b,h1,bounds_i64 h2⟩
theorem ML{v:Value}{fuel:Nat}{x:DataW H×List MemPlace}(h:DataW.trod enc Tryz.prog w base spare held fuel 22 [v]=some x):∃l,RdL cI 1 (whole w) [] v l/\∀a∈l,BD a:=
 Pt AY (by kernel_rfl) AV (by decide) Jz h
theorem Vj(n:Nat)(cs:List Value)(y:DataW H×List MemPlace)(h:DataW.trod enc Tryz.prog w base spare held n 22 cs=some y):∃v,cs=cW v/\∃l,RdL cI 1 (whole w) [] v l/\∀a∈l,BD a:=by
 rcases open_slice AY h with ⟨h0,_⟩|⟨a,len,cap,m,n,D,Pl,hcs,_⟩
 ·subst h0;exact⟨_,rfl,ML h⟩
 ·subst hcs;exact⟨_,rfl,ML h⟩
theorem Vy{v:Value}{fuel:Nat}{x:DataW H×List MemPlace}(h:DataW.trod enc Tryz.prog w base spare held fuel 81 [v]=some x):∃es ll,RdL cW 1 (whole w) [] v es/\RdEs (whole w) es ll/\∀l∈ll,∀a∈l,BD a:=by
 obtain⟨es,hR,hE⟩:=Pt Ck (by kernel_rfl) DV (by decide) Vj h
 have hex:∀a,∃l:List Int,a∈es->RdL cI 1 (whole w) [] a l/\∀x∈l,BD x:=fun a=>by
  by_cases ha:a∈es
  ·obtain⟨l,hl⟩:=hE a ha;exact⟨l,fun _=>hl⟩
  ·exact⟨[],fun h=>absurd h ha⟩
 obtain⟨f,hf⟩:=Classical.axiomOfChoice hex;refine⟨es,es.map f,hR,⟨by simp,fun i h1 h2=>?_⟩,fun l hl=>?_⟩
 ·rw[getElem_map];exact(hf _ (getElem_mem h1)).1
 ·obtain⟨a,ha,rfl⟩:=List.mem_map.1 hl;exact(hf a ha).2
theorem Rg{v:Value}{r:Reach}{b0:Nat}{d:DataW H}{ps:List MemPlace}(hval:Value.okWide Tryz.prog w r b0 83 v)(h:DataW.Trod enc Tryz.prog w base spare held 83 v d ps):∃(kind b:Int) (vS:Value) (es:List Value) (ll:List (List Int)),v=.agg #[.int .i64 kind,vS,.int .i64 b]/\BD kind/\BD b/\(∀l∈ll,∀x∈l,BD x)/\RdL cW 1 (whole w) [] vS es/\RdEs (whole w) es ll:=by
 obtain⟨cs,rfl,hc⟩:=okWide_struct U83 hval;obtain⟨fuel,hf⟩:=h;obtain⟨y0,y1,y2,n,h0,h1,h2,h3⟩:=NN U83 hf;have hc3:cs.size=3:=hc.trans (by kernel_rfl);obtain⟨l⟩:=cs
 match l,hc3 with
 | [c0,c1,c2],_=>
  have h1:DataW.trod enc Tryz.prog w base spare held n 3 [c0]=some y0:=h1;have h2:DataW.trod enc Tryz.prog w base spare held n 81 [c1]=some y1:=h2;have h3:DataW.trod enc Tryz.prog w base spare held n 3 [c2]=some y2:=h3;obtain⟨k,e0,w0⟩:=Jz n _ _ h1;obtain⟨es,ll,hR,hE,hI⟩:=Vy h2;obtain⟨b,e2,w2⟩:=Jz n _ _ h3;simp only[cI,List.cons.injEq,and_true]at e0 e2;subst e0 e2;exact⟨k,b,c1,es,ll,rfl,w0,w2,hI,hR,hE⟩
end
end Go.Proofs.Q

namespace Go.Proofs.YtodheebhahdepaaGreatDoor
open Go Go.ChangeShapes Go.WideShapes Go.ChangeAt Go.RowKit Go.Proofs.Q

theorem VT:(Rows.diagramBettiRow.inPlace==Tryz.prog.inPlace 11)=true:=by kernel_rfl
theorem Vx:(Rows.diagramBettiRow.unfollowed==Tryz.prog.unfollowed 11)=true:=by kernel_rfl
theorem UH:(Rows.diagramBettiRow.recurses==Tryz.prog.recurses 11)=true:=by kernel_rfl
theorem W6:(Rows.diagramBettiRow.named==Tryz.prog.varsNamed 11)=true:=by kernel_rfl

theorem UR:false=Tryz.prog.looks []:=by kernel_rfl
theorem betti_g2:Tryz.prog.funcNamed "cocycle/cocyclelaw21.DiagramBetti" = some 11:=by kernel_rfl
theorem UG:false=Rows.diagramBettiRow.goesBy Tryz.prog:=by kernel_rfl
end Go.Proofs.YtodheebhahdepaaGreatDoor
