/- A part of the proof. -/
import Derived.Test.YtodheebhahdepaaGreatDoorUF
import Derived.Test.YtodheebhahdepaaGreatDoorRows
import Derived.Test.YtodheebhahdepaaGreatDoorChecked
import Derived.WalkKit
import Derived.ProofKit
import Derived.ChangeOld
import Derived.LaidMore
import Derived.Lay
import Derived.SevenTiedAt
import Derived.Stop.Joined
import Derived.Test.YtodheebhahdepaaGreatDoorCards
import Derived.Test.YtodheebhahdepaaGreatDoorTie
set_option linter.unusedSimpArgs false
set_option linter.unusedVariables false
set_option linter.unusedSectionVars false
set_option maxRecDepth 100000
set_option maxHeartbeats 4000000

open List (mem_map length_map length_singleton getElem_mem replicate range length_append length_take mem_cons map_append mem_filter mem_cons_of_mem length_nil take_succ_eq_append_getElem append_nil map_map map_cons length_set getElem_of_mem take_length append_assoc getElem_map length_cons length_range range_succ filter_append filter_cons sum_cons not_mem_nil)
namespace Go.Proofs.Q
open Go.Proofs.Tryz
open Go.Eng Go.RowKit Go.Lin
theorem Tx(l:List Ce)(v:Value)(hp:Hp)(hK:RgC l)(hR:RdC hp v l)(hn:l.length<=100) :
  FnT Tryz.prog 55 #[.agg #[v]] hp [] (λr h' ms'=>hp.le h'/\ms'=[]/\r=.int .i64 0):=by
 have ov:=hR.q.rd.one;refine Av func55 ntmps55 Y Y (λw0 hw0=>?_);simp only[A3];refine Aw (AY [_] Y Y (by rfl) Y Y Y (λg1=>Qm Y (Ap (AB λh1 l1 hS1=>?_))));have hR1:=hR.up l1;have gS1:∀ms,Seg h1 ms (⟨g1,0,none⟩:Addr) [v]:=λms=>hS1.any;refine Ac (Aw (Qx (oG Y BJ AO (gS1 _)) Y (Qx (AR Y call28 Y (EX (I6 l v h1 hK hR1) _)) Y (Qm Y (Qm Y (Qm Y (Qm Y (Qm Y (BN (Qm Y (Qm Y (Ap ?_))))))))))));refine Ax Y (λhz=>?_) (λhz=>?_)
 ·exact absurd Y hz
 ·refine Aj (Ab (Ac (Aw (Qx (oG Y BJ AO (gS1 _)) Y (Qc call61 Y (Uw l v h1 hK hR1) (λr h3 ms3 l3 hF=>?_))))));obtain⟨l3',rfl,D,rfl,hD1,hD2,hD3⟩:=hF
  have hD8:D<=8:=by
   rcases hD3 with h|⟨c,hc,h⟩
   ·omega
   ·have:=(hK.F.bds hc).1;omega
  have gS1:∀ms,Seg h3 ms (⟨g1,0,none⟩:Addr) [v]:=λms=>(hS1.le l3').any;refine Qx (oA Y) Y (Qm Y (Ap (Ah ?_)));refine AD (λq sl h' ms'=>∃(k:Nat),(D+1).toNat-k=q/\sl=[(1,.pointer (some ⟨g1,0,none⟩)),(16,.int .i64 (D+1)),(17,.int .i64 k)]/\h3.le h'/\ms'=[]/\(k:Int)<=D+1) ((D+1).toNat-0) _ ⟨0,Y,Y,B8,Y,by omega⟩ Qs ?_;rintro q sl h' ms' ⟨k,rfl,rfl,lh,rfl,hk⟩;have gS1:∀ms,Seg h' ms (⟨g1,0,none⟩:Addr) [v]:=λms=>(gS1 ms).le lh;refine Aw (Qm Y (Ap (Ac ?_)));refine Ax Y (λhlt=>?_) (λhlt=>?_)
  ·refine Aj (Ab (Ac (Ah (Aw (Qm Y (Qm Y (BN (Qx (oG Y BJ AO (gS1 _)) Y (Qm Y (Qc call63 Y (Nj l v (k:Int) h' hK ((hR1.up l3').up lh)) (λr h4 ms4 l4 hF=>?_)))))))))));obtain⟨l4',m,rfl,hO⟩:=hF
   have hlen:(((cn l).filter λc=>decide (c.dim=(k:Int))).map Cl.id).length<=100:=by rw[length_map];exact Nat.le_trans (List.length_filter_le _ _) (by rw[C6];exact hn)
   refine Qx (D7 (hO.rd (h:=h4) (ms:=[m]) Mh).rd Y A0 Y) Y (Qm Y (Ap ?_));refine Ax Y (λh5=>?_) (λh5=>?_)
   ·exact absurd h5 (by omega)
   ·refine Aj (Ak (Ab (Ad (Qx (oA Y) Y (Qm Y (An (AS ?_)))))));exact Am ((D+1).toNat-(k+1)) _ (by omega) ⟨k+1,Y,Y,AI lh l4',Y,by omega⟩ Qs
  ·refine Ay (Aa (Aa (Ag (Ab (Aw (Qm Y (Ap (Aq ?_))))))));exact Az Y Y (⟨AI l1 (AI l3' lh),Y,Y⟩)
def RkO(p:Int)(o:List Cl)(d:Int)(ρ:Nat):Prop:=∃(F:Nat->Nat->Int) (pv:List Nat),Ech p (BG o (d-1)).length (BG o d).length (λi k=>H8 o d i k%p) F pv/\ρ=pv.length
def L3(o:List Cl)(rk:Nat->Nat)(n:Nat):List Int:=(range n).map λ(k:Nat)=>((BG o k).length:Int)-rk k-rk (k+1)
theorem VZ(o:List Cl)(rk:Nat->Nat)(n:Nat):L3 o rk (n+1)=L3 o rk n++[((BG o n).length:Int)-rk n-rk (n+1)]:=by unfold L3;rw[range_succ,map_append];rfl
theorem SY{o:List Cl}{rk rk':Nat->Nat}{n:Nat}(h:∀k,k<=n->rk k=rk' k):L3 o rk n=L3 o rk' n:=by unfold L3;refine List.map_congr_left λk hk=>?_;have:=List.mem_range.1 hk;rw[h k (by omega),h (k+1) (by omega)]
theorem ZX{o:List Cl}(hrg:RgtF o)(d:Int)(i j:Nat)(hj:j<(BG o d).length):-256<H8 o d i j/\H8 o d i j<256:=by
 unfold H8;obtain⟨y,hy⟩:∃y,(BG o d).getD j 0=y:=⟨_,Y⟩
 rw[hy];unfold FZ;cases hg:H7 o y with
 | none=>exact(by decide:-256<(0:Int)/\(0:Int)<256)
 | some z=>
  have hz:z∈o:=List.mem_of_find?_eq_some hg;have h2:=Nf z.sd ((BG o (d-1)).getD i 0) (hrg.rgt.sgn _ hz);have h3:=(hrg.bds hz).2.1;simp only[Option.getD_some];omega
theorem Wd(l:List Ce)(v:Value)(p:Int)(hp:Hp)(hP:IsP p)(hp2:p<256)(hK:RgC l)(hR:RdC hp v l)(hn:l.length<=100) :
  FnT Tryz.prog 20 #[.agg #[v],.int .i64 p] hp [] (λr h' ms'=>hp.le h'/\∃(D:Int) (rk:Nat->Nat) (w:Value) (m:Hp),r=.tuple #[w,.int .i64 0]/\ms'=[m]/\OwnL cI 1 3 m w (L3 (cn l) rk (D+1).toNat)/\J8 (cn l) D/\rk 0=0/\∀n:Nat,n<(D+1).toNat->RkO p (cn l) (n+1) (rk (n+1))):=by
 have hpb:=hP.1;have ov:=hR.q.rd.one;refine Av func20 ntmps20 Y Y (λw0 hw0=>?_);simp only[A3];refine Aw (AY [_] Y Y (by rfl) Y Y Y (λg2=>AY [_] Y Y (by rfl) Y Y Y (λg3=>Qm Y (Qm Y (Ap (AB λh1 l1 hS3=>(AB λh2 l2 hS2=>?_)))))));have hR2:=(hR.up l1).up l2;have gS2:∀ms,Seg h2 ms (⟨g2,0,none⟩:Addr) [v]:=λms=>hS2.any;have eD:∀ms,Cell h2 ms (⟨g3,0,none⟩:Addr) (.int .i64 p):=λms=>((hS3 0 _ Y).any).le l2;refine Ac (Aw (Ql Y U3 (eD _) (Qm Y (Qm Y ?_))));refine AU (t:=14) Y (λhp0=>?_) (λhp0=>?_)
 ·refine Qg (oL Y U3 (eD _)) Y ?_;refine Qg (AR Y call54 Y (My p h2 ⟨by omega,by omega⟩ _)) Y ?_;refine Qg (Gj Y Y) Y (Qm Y (Ap ?_));refine Bz Y (λhnp=>?_) (λhnp=>?_)
  ·exact absurd hP (by simpa using hnp)
  ·refine Aj (Ab (Ac (Aw (Qx (oG Y BJ AO (gS2 _)) Y (Qx (AR Y call55 Y (EX ((Tx l v h2 hK hR2 hn).mono λ_ _ _ h=>h.2.2) _)) Y (Qm Y (BN (Qm Y (Qm Y (Ap ?_))))))))));refine Ax Y (λhz=>?_) (λhz=>?_)
   ·exact absurd Y hz
   ·refine Aj (Ab (Aw (Qm Y (Ap (Ac (Aw (Ql Y U3 (eD _) (Qm Y (Ap ?_)))))))));refine Ax Y (λhp1=>?_) (λhp1=>?_)
    ·refine Ad (Qx (BM Y Y Y) Y (Qm Y (BN (Qm Y (BN (Qm Y (Ap (Ac (Aw (Qx (oG Y BJ AO (gS2 _)) Y (Qc call61 Y (Uw l v h2 hK hR2) (λr h3 ms3 l3 hF=>?_))))))))))));obtain⟨l3',rfl,D,rfl,hD⟩:=hF
     have hD8:D<=8:=by
      rcases hD.2.2 with h|⟨c,hc,h⟩
      ·omega
      ·have:=(hK.F.bds hc).1;omega
     have hD1:=hD.1;obtain⟨o,ho⟩:∃o,cn l=o:=⟨_,Y⟩
     have hrg:RgtF o:=by rw[<-ho];exact hK.F
     have hol:o.length<=100:=by rw[<-ho,C6];exact hn
     rw[ho]at hD ⊢;refine Qx (oA Y) Y (Qm Y (Ap (Ah (BO ?_))))
     refine AD (λq sl h' ms'=>∃(k x:Nat) (rk:Nat->Nat) (vo:Value) (mo:Hp),x=rk k/\(D+1).toNat-k=q/\sl=[(2,.pointer (some ⟨g2,0,none⟩)),(7,.func (.func 58) #[] #[.pointer (some ⟨g3,0,none⟩)]),(8,vo),(9,.int .i64 (x:Nat)),(29,.int .i64 (D+1)),(30,.int .i64 k)]/\h3.le h'/\ms'=[mo]/\(k:Int)<=D+1/\OwnL cI 1 3 mo vo (L3 o rk k)/\rk 0=0/\∀n:Nat,n<k->RkO p o (n+1) (rk (n+1)))
      ((D+1).toNat-0) _ ⟨0,0,λ_=>0,_,Hp.emp,rfl,rfl,rfl,B8,rfl,by omega,OwnL.nil Bl,rfl,λn h=>by omega⟩ Qs ?_
     rintro q sl h' ms' ⟨k,xk,rk,vo,mo,hxk,rfl,rfl,lh,rfl,hk,hO,hr0,hrk⟩;have l2h:=AI l3' lh;have hRh:=hR2.up l2h;have gS2:∀ms,Seg h' ms (⟨g2,0,none⟩:Addr) [v]:=λms=>(hS2.le l2h).any;have ovo:=hO.o1;refine Aw (Qm Y (Ap (Ac ?_)));refine Ax Y (λhlt=>?_) (λhlt=>?_)
     ·refine Aj (Ab (Ac (Ah (Aw (Qm Y (Qm Y (BN (Qm Y (Qx (oG Y BJ AO (gS2 _)) Y (Qm Y (Qx (oA Y) Y (Qc call62 Y (Sn l v ((k:Int)+1) (by omega) h' hK hRh (by omega)) (λz h4 ms4 l4 hF=>?_)))))))))))));obtain⟨l4',ev,m,rfl,rfl,hM⟩:=hF;have hk1:(k:Int)+1-1=k:=by omega
      rw[ho,hk1]at hM;simp only[ho,hk1];have hrl:(BG o (k:Int)).length<=100:=Nat.le_trans (Gf o _) hol;have hcl:(BG o ((k:Int)+1)).length<=100:=Nat.le_trans (Gf o _) hol;refine A5 hM λh5 l5 hQ=>?_;have l25:=AI l2h (AI l4' l5);have eD5:∀ms,Cell h5 ms (⟨g3,0,none⟩:Addr) (.int .i64 p):=λms=>(eD ms).le l25;refine E7 (pre:=[]) Y Y call58 Y (Ui p _ _ (H8 o ((k:Int)+1)) hP hp2 (by omega) (by omega) (λi _ j hj=>ZX hrg _ i j hj) g3 ev h5 eD5 hQ) Y Y Y Y (λx h6 pre' l6 hF=>?_);obtain⟨l6',rfl,F,pv,rfl,hE⟩:=hF;have l26:=AI l25 l6';have gS6:∀ms,Seg h6 ms (⟨g2,0,none⟩:Addr) [v]:=λms=>(hS2.le l26).any;refine Qm Y (BN (Qm Y (Qx (oG Y BJ AO (gS6 _)) Y (Qm Y (Qc call63 Y (Nj l v (k:Int) h6 hK (hR2.up l26)) (λw h7 ms7 l7 hF=>?_))))));obtain⟨l7',mi,rfl,hOi⟩:=hF;rw[ho]at hOi;change OwnL cI 1 3 mi w (BG o (k:Int)) at hOi;have hil:(BG o (k:Int)).length<=100:=Nat.le_trans (Gf o _) hol;have hpl:pv.length<=100:=Nat.le_trans hE.red.len hrl
      have hrkk:xk<=100:=by
       rw[hxk];by_cases hk0:k=0
       ·rw[hk0,hr0];omega
       ·obtain⟨F',pv',hE',e'⟩:=hrk (k-1) (by omega);have e1:k-1+1=k:=by omega
        rw[e1]at e';rw[e'];exact Nat.le_trans hE'.red.len (Nat.le_trans (Gf o _) hol)
      have rI:=(hOi.rd (h:=h7) (ms:=[mi]) Mh).rd;have ow:=rI.one;refine Qx (D7 rI Y A0 Y) Y (Qm Y (Qx (oS Y) Y (Qm Y (Qx (oS Y) Y (Ar [_] Y A0 Ba Y (by rfl) Y Y (by omega) Y Y Y (λg48=>?_))))));have hbl:(L3 o rk k).length<=1000000:=by unfold L3;rw[length_map,length_range];omega
      refine AZ 2 hO (RdL.one Bl (x:=((BG o (k:Int)).length:Int)-xk-pv.length) Mh Y) Y A0 Ba Y (by omega) Y Y Y Ck (by simp only[length_singleton];omega) (by simp only[length_singleton];omega) rfl rfl rfl (λv6 m6 hO6=>?_);have ov6:=hO6.o1;refine Qm Y (GH (Qm Y (Qm Y (An (Ak (Ab (Ad (Qx (oA Y) Y (Qm Y (An ?_))))))))));refine AS (AS ?_);obtain⟨rk',hra,hrb⟩:∃rk':Nat->Nat,rk' (k+1)=pv.length/\∀n,n≠k+1->rk' n=rk n:=⟨λn=>if n=k+1 then pv.length else rk n,by simp,λn hn=>by simp[hn]⟩
      have hk1:L3 o rk k++[((BG o (k:Int)).length:Int)-xk-pv.length]=L3 o rk' (k+1):=by rw[VZ,SY (rk:=rk) (rk':=rk') (λn hn=>(hrb n (by omega)).symm),hrb k (by omega),hra,hxk]
      rw[hk1]at hO6
      exact Am ((D+1).toNat-(k+1)) _ (by omega) ⟨k+1,pv.length,rk',v6,m6,hra.symm,Y,Y,AI lh (AI l4' (AI l5 (AI l6' l7'))),Y,by omega,hO6,by rw[hrb 0 (by omega),hr0],λn hn=>by
       by_cases e:n=k
       ·subst e;have e1:(n:Int)+1-1=n:=by omega
        rw[hra];unfold RkO;rw[e1];exact⟨F,pv,hE,Y⟩
       ·rw[hrb (n+1) (by omega)]
        exact hrk n (by omega)⟩ Qs
     ·have hkD:k=(D+1).toNat:=by omega
      subst hkD;refine Ay (Aa (Aa (Ag (Ab (Aw (Qm Y (Qm Y (Qm Y (Ap (Aq ?_))))))))));exact BA Y Y Y (⟨AI l1 (AI l2 l2h),D,rk,vo,mo,Y,Y,hO,hD,hr0,hrk⟩)
    ·exact absurd hp0 hp1
 ·exact absurd (by omega) hp0
end Go.Proofs.Q
namespace Go.Proofs.Q
open Go.Proofs.Tryz
open Go.Eng Go.RowKit
variable {A W:List CeO} {pr:CeO->Bool} {i j:Nat}
def OF(A:List CeO)(pr:CeO->Bool):Int:=match A.findIdx? pr with|some k=>k|none=>-1
theorem Sw{k:Nat}(hk:k<A.length)(h:pr A[k]=true)(hno:∀j (hj:j<A.length),j<k->pr A[j]=false):OF A pr=k:=by
 unfold OF
 have:A.findIdx? pr=some k:=by rw[List.findIdx?_eq_some_iff_getElem];exact⟨hk,h,λj hj=>by rw[hno j (by omega) hj];simp⟩
 rw[this]
theorem SV(hno:∀j (hj:j<A.length),pr A[j]=false):OF A pr=-1:=by
 unfold OF
 have:A.findIdx? pr=none:=by rw[List.findIdx?_eq_none_iff];intro a ha;obtain⟨j,hj,rfl⟩:=getElem_of_mem ha;exact hno j hj
 rw[this]
structure DelI(A W:List CeO)(pr:CeO->Bool)(i j:Nat):Prop where
 len:W.length=A.length
 ij:i<=j
 jn:j<=A.length
 tk:W.take i=(A.take j).filter λa=>!pr a
 dr:W.drop j=A.drop j
theorem DelI.start{k:Nat}(hk:k<A.length)(h:pr A[k]=true)(hno:∀j (hj:j<A.length),j<k->pr A[j]=false):DelI A A pr k (k+1):=by
 refine⟨Y,by omega,by omega,?_,Y⟩;rw[take_succ_eq_append_getElem hk,filter_append];have e1:[A[k]].filter (λa=>!pr a)=[]:=by simp[h]
 have e2:(A.take k).filter (λa=>!pr a)=A.take k:=by rw[List.filter_eq_self];intro a ha;obtain⟨j,hj,rfl⟩:=getElem_of_mem ha;rw[length_take]at hj;rw[List.getElem_take,hno j (by omega) (by omega)];rfl
 rw[e1,e2,append_nil]
theorem DelI.get(D:DelI A W pr i j)(hj:j<W.length)(hj':j<A.length):W[j]=A[j]:=by have h1:W.drop j=W[j]::W.drop (j+1):=List.drop_eq_getElem_cons hj;have h2:A.drop j=A[j]::A.drop (j+1):=List.drop_eq_getElem_cons hj';have:=D.dr;rw[h1,h2]at this;exact(List.cons.inj this).1
theorem DelI.next(D:DelI A W pr i j)(hj:j<A.length):W.drop (j+1)=A.drop (j+1):=by
 have:=congrArg (List.drop 1) D.dr
 rwa [List.drop_drop,List.drop_drop]at this
theorem DelI.del(D:DelI A W pr i j)(hj:j<A.length)(h:pr A[j]=true):DelI A W pr i (j+1):=by refine⟨D.len,by have:=D.ij;omega,by omega,?_,D.next hj⟩;rw[take_succ_eq_append_getElem hj,filter_append,<-D.tk];simp[h]
theorem DelI.keep(D:DelI A W pr i j)(hj:j<A.length)(h:pr A[j]=false):DelI A (W.set i A[j]) pr (i+1) (j+1):=by
 have hij:=D.ij;have hl:=D.len;refine⟨by rw[length_set,D.len],by omega,by omega,?_,?_⟩
 ·rw[take_succ_eq_append_getElem hj,filter_append,<-D.tk];have hi:i<(W.set i A[j]).length:=by rw[length_set];omega
  rw[take_succ_eq_append_getElem hi,List.getElem_set_self,List.take_set_of_le (Nat.le_refl _)];simp[h]
 ·rw[List.drop_set_of_lt (by omega),D.next hj]
theorem Tz(A:List CeO)(v:Value)(cf:FuncId)(cs:List Value)(pr:CeO->Bool)(h:Hp)(hR:RdL HI 3 h [] v A)(hn:A.length<=100000)
  (hc:∀xs w,(callFunc cf xs).run Tryz.prog w=.ok (.enter cf xs) w)
  (hp:∀a∈A,∀h',h.le h'->∀ms,FnV Tryz.prog cf ([]++[Value.agg (HI a).toArray]++cs).toArray h' ms (.bool (pr a))) :
  FnT Tryz.prog 141 #[v,.func (.func cf) #[] cs.toArray] h [] (λr _ _=>r=.int .i64 (OF A pr)):=by
 have ov:=hR.rd.one;refine Av func141 ntmps141 Y Y (λw0 hw0=>?_);simp only[A3];refine Aw (Qm Y (Ap (Ac (Aw (Qm Y (Qx (As hR.rd.any Y A9 Y) Y (Qm Y (Ap (Ah ?_)))))))))
 refine AD (λq s h' ms'=>∃(k:Nat),q=A.length-k/\s=[(0,v),(1,.func (.func cf) #[] cs.toArray),(7,.int .i64 A.length),(8,.int .i64 k)]/\h=h'/\ms'=[]/\k<=A.length/\∀j (hj:j<A.length),j<k->pr A[j]=false)
  (A.length-0) _ ⟨0,rfl,rfl,rfl,rfl,by omega,λj _ hj=>by omega⟩ Qs ?_
 rintro q s h' ms' ⟨k,rfl,rfl,rfl,rfl,hk,hno⟩;refine Aw (Qm Y (Ap (Ac ?_)));refine Ax Y (λhlt=>?_) (λhlt=>?_)
 ·have hkn:k<A.length:=by omega
  obtain⟨x,hx⟩:∃x,A[k]=x:=⟨_,Y⟩
  have gX:∀ms,Seg h ms ((AJ v).add (k*3)) (HI x):=λms=>by rw[<-hx];exact(hR.any (ms:=ms)).seg hkn
  have oxv:=x.one;refine Aj (Ab (Ac (Ah (Aw (Qm Y (Qm Y (BN (Qm Y (Qm Y (Qm Y (Qx (BH (k) hR.rd.any Y A9 AL Y Y) Y (Qx (oG Y D1 AL (gX _)) Y ?_))))))))))));refine Qx (Ch Y Y hc Y (hp x (by rw[<-hx];exact getElem_mem hkn) _ (B8) _)) Y ?_;refine Ap ?_;refine Bz Y (λhpk=>?_) (λhpk=>?_)
  ·refine Ac (Ad (Qm Y (Qm Y (Ap (Aq (Al (Ae (Ae (Al (Ae ?_))))))))));exact Az Y Y (by rw[Sw hkn (by rw[hx];exact hpk) hno])
  ·refine Aj (Ak (Ab (Ad (Qx (oA Y) Y (Qm Y (An ?_))))));refine Am (A.length-(k+1)) _ (by omega) ⟨k+1,Y,Y,Y,Y,by omega,λj hj hj2=>?_⟩ Qs;rcases (by omega:j<k\/j=k) with h2|rfl
   ·exact hno j hj h2
   ·rw[hx];exact hpk
 ·refine Ay (Aa (Aa (Ag (Ab (Aw (Qm Y (Ap (Aq ?_))))))));exact Az Y Y (by rw[SV λj hj=>hno j hj (by omega)])
theorem PD(A:List CeO)(v:Value)(m:Hp)(cf:FuncId)(cs:List Value)(pr:CeO->Bool)(h:Hp)(hO:OwnL HI 3 52 m v A)(hn:A.length<=100000)
  (hc:∀xs w,(callFunc cf xs).run Tryz.prog w=.ok (.enter cf xs) w)
  (hp:∀a∈A,∀h',h.le h'->∀ms,FnV Tryz.prog cf ([]++[Value.agg (HI a).toArray]++cs).toArray h' ms (.bool (pr a))) :
  FnT Tryz.prog 74 #[v,.func (.func cf) #[] cs.toArray] h [m] (λr h' ms'=>h=h'/\∃m',ms'=[m']/\OwnL HI 3 52 m' r (A.filter λa=>!pr a)):=by
 have ov:=hO.o1;refine Av func74 ntmps74 Y Y (λw0 hw0=>?_);simp only[A3];refine Aw (Qm Y (BN (Qm Y (Qm Y (Qx (AR Y call141 Y (CG λh' hl hm=>EX (Tz A v cf cs pr h' (hO.rdh (hm _ Mh)) hn hc λa ha h2 l2=>hp a ha h2 (AI hl l2)) _)) Y (Qm Y (Ap (Ac (Aw (Qm Y (Qm Y (Ap ?_))))))))))));obtain⟨q,hq⟩:∃q,OF A pr=q:=⟨_,Y⟩
 have hcase:(q=-1/\A.filter (λa=>!pr a)=A)\/∃k:Nat,q=k/\∃hk:k<A.length,pr A[k]=true/\∀j (hj:j<A.length),j<k->pr A[j]=false:=by
  rw[<-hq];cases h:A.findIdx? pr with
  | none=>
   have h1:=List.findIdx?_eq_none_iff.1 h;refine .inl ⟨by unfold OF;rw[h],?_⟩;rw[List.filter_eq_self];intro a ha;rw[h1 a ha];rfl
  | some k=>
   obtain⟨h1,h2,h3⟩:=List.findIdx?_eq_some_iff_getElem.1 h;exact .inr ⟨k,by unfold OF;rw[h],h1,h2,λj hj hjk=>by simpa using h3 j hjk⟩
 rw[hq];refine Ax Y (λhz=>?_) (λhz=>?_)
 ·have hfl:A.filter (λa=>!pr a)=A:=by
   rcases hcase with ⟨_,e⟩|⟨k,e,_⟩
   ·exact e
   ·omega
  refine Aw (Qm Y (Qm Y (Ap (Aq (Ae ?_)))));exact Az Y Y (⟨Y,m,Y,by rw[hfl];exact hO⟩)
 ·obtain⟨k,rfl,hk,hkp,hkn⟩:∃k:Nat,q=k/\∃hk:k<A.length,pr A[k]=true/\∀j (hj:j<A.length),j<k->pr A[j]=false:=by
   rcases hcase with ⟨e,_⟩|h
   ·exact absurd e hz
   ·exact h
  refine Aj (Ab (Ac (Aw (Qm Y (Qx (oA Y) Y (Qm Y (Ap (Ah ?_))))))))
  refine AD (λq s h' ms'=>∃(i j:Nat) (W:List CeO) (m:Hp),A.length-j=q/\s=[(0,v),(1,.func (.func cf) #[] cs.toArray),(5,.int .i64 i),(6,.int .i64 j)]/\h=h'/\ms'=[m]/\OwnL HI 3 52 m v W/\DelI A W pr i j)
   (A.length-(k+1)) _ ⟨k,k+1,A,m,rfl,rfl,rfl,rfl,hO,DelI.start hk hkp hkn⟩ Qs ?_
  rintro q s h' ms' ⟨i,j,W,m,rfl,rfl,rfl,rfl,hO,hD⟩;have hlW:=hD.len;have hij:=hD.ij;have hjn:=hD.jn;refine Ac (Aw (Qm Y (Qm Y (Qx (As (hO.rd Mh).rd Y A9 Y) Y (Qm Y (Ap ?_))))));refine Ax Y (λhlt=>?_) (λhlt=>?_)
  ·have hjA:j<A.length:=by omega
   have hjW:j<W.length:=by omega
   have hgx:=hD.get hjW hjA;obtain⟨x,hx⟩:∃x,A[j]=x:=⟨_,Y⟩
   rw[hx]at hgx;have gX:∀ms,m∈ms->Seg h ms ((AJ v).add (j*3)) (HI x):=λms hm=>by rw[<-hgx];exact(hO.rd hm).seg hjW
   have oxv:=x.one;refine Aj (Ab (Ac (Ah (Aw (Qm Y (Qm Y (Qx (AM (j) (hO.rd Mh).rd Y A9 AL Y Y (by omega) (by omega)) Y (Qx (oG Y D1 AL (gX _ Mh)) Y (By [.int .i64 0,.int .i64 0,.slice none 0 0] Y AL Y Y (λg7=>?_))))))))));refine Sa 0 [_,_,_] AL Y (by simp[ov,oxv]) ?_;refine BN (Qm Y (Qx (oG Y D1 AL (Seg.blk 0 Y)) Y ?_));refine Qx (Ch Y Y hc Y (hp x (by rw[<-hx];exact getElem_mem hjA) _ (B8) _)) Y ?_;refine Qm Y (Ap ?_);refine Bz Y (λhpk=>?_) (λhpk=>?_)
   ·have hpf:pr A[j]=false:=by rw[hx];simpa using hpk
    have hk':=hD.keep hjA hpf;refine Aw (Qm Y (Qm Y (Qx (oG Y D1 AL (Seg.blk 0 Y)) Y (Qx (AM (i) (hO.rd (List.Mem.tail _ Mh)).rd Y A9 AL Y Y (by omega) (by omega)) Y ?_))));refine Gw 1 i x hO Y AL Y Y Y (Mo x) Y (show i<W.length by omega) Y Y (λm' hO'=>?_);rw[hx]at hk';refine GH (Qm Y (Qx (oA Y) Y (Qm Y (An (Ak (Ab (Ad (Qm Y (Qx (oA Y) Y (Qm Y (An (AS ?_))))))))))));exact Am (A.length-(j+1)) _ (by omega) ⟨i+1,j+1,_,m',Y,Y,Y,Y,hO',hk'⟩ Qs
   ·have hpt:pr A[j]=true:=by rw[hx];simpa using hpk
    refine Aj (Ak (Ab (Ad (Qm Y (Qx (oA Y) Y (Qm Y (An (AS ?_))))))));exact Am (A.length-(j+1)) _ (by omega) ⟨i,j+1,W,m,Y,Y,Y,Y,hO,hD.del hjA hpt⟩ Qs
  ·have hjl:j=A.length:=by omega
   subst hjl;refine Ay (Aa (Aa (Ag (Ab (Aw (Qm Y (Qm Y (Qx (CU _ (hO.rd Mh).rd Y A9 AL Y Y Y (by omega)) Y (Se 0 i hO (by omega) Y A9 AL Y (by decide) Y Y Y Y (λm' hO'=>?_))))))))));have htk:W.take i=A.filter λa=>!pr a:=by have:=hD.tk;rwa [take_length]at this
   rw[htk]at hO';refine BN (Qm Y (Qm Y (Qx (EF i (hO.rd (h:=h) (ms:=[m]) Mh).rd Y A9 AL Y Y Y (by omega)) Y (Qm Y (Ap (Aq ?_))))));exact Az Y Y (⟨Y,m',Y,hO'⟩)
end Go.Proofs.Q
namespace Go.Proofs.Q
open Go.Proofs.Tryz
open Go.Eng Go.RowKit
def Dm(F:List (Int×Int))(t:Int)(o:List Cl):List Cl:=o.filter λc=>decide (Dn (BI F) c.id<=t)
theorem ZQ{lo:List CeO}{m:Hp}{v:Value}(O:OwnL cC 3 52 m v (lo.map KO)):OwnL HI 3 52 m v lo:=⟨by have:=O.own;rwa [I5,length_map]at this,J2⟩
theorem XU(F:List (Int×Int))(x:CeO)(t:Int)(g1 g2 gA:Nat)(mA:Hp)(bs:List Nat)(h:Hp)(hO:CC kN kN gA BP mA (BI F) bs)(lA:mA.le h)(h1:∀ms,Cell h ms (⟨g1,0,none⟩:Addr) (.map (some gA)))(h2:∀ms,Cell h ms (⟨g2,0,none⟩:Addr) (.int .i64 t))(hs:BP x.c.id)(ms:List Hp) :
  FnV Tryz.prog 75 ([]++[Value.agg (HI x).toArray]++[Value.pointer (some ⟨g1,0,none⟩),.pointer (some ⟨g2,0,none⟩)]).toArray h ms (.bool (decide (Dn (BI F) x.c.id>t))):=by
 refine EX ?_ ms;show FnT _ _ #[.agg #[.int .i64 x.c.id,.int .i64 x.c.dim,x.v],.pointer (some ⟨g1,0,none⟩),.pointer (some ⟨g2,0,none⟩)] _ _ _;have ox:=x.one;refine Av func75 ntmps75 Y Y (λw0 hw0=>?_);simp only[A3];refine Aw (AY [_,_,_] Y Y (by rfl) Y Y Y (λg3=>Qm Y (Ap (AB λh3 l3 hS=>?_))));have e0:∀ms,Cell h3 ms ((⟨g3,0,none⟩:Addr).add 0) (.int .i64 x.c.id):=λms=>(hS 0 _ Y).any;have h1:∀ms,Cell h3 ms (⟨g1,0,none⟩:Addr) (.map (some gA)):=λms=>(h1 ms).le l3;have h2:∀ms,Cell h3 ms (⟨g2,0,none⟩:Addr) (.int .i64 t):=λms=>(h2 ms).le l3;refine Aw (Ql Y Ll (h1 _) (Qf Bq Y (Ql Y U3 (e0 _) (Qx (B9 (V:=kN) (z:=(0:Int)) (u:=Dn (BI F) x.c.id) x.c.id Y Bh hO (AI lA l3) Y Ll HJ Y Y hs) Y (Ql Y U3 (h2 _) (Qm Y (Qm Y (Ap (Aq ?_)))))))));exact Az Y Y (Y)
theorem FC(l:List Ce)(F:List (Int×Int))(v vf:Value)(t:Int)(hp:Hp)(hK:RgC l)(hR:RdC hp v l)(hF:RdL cV 2 hp [] vf F)(hV:Ls F)(h0:Fz (cn l) F=(0,0))(hl:l.length<=400) :
  FnT Tryz.prog 27 #[.agg #[v],vf,.int .i64 t] hp [] (λr h' ms'=>hp.le h'/\∃m A v',ms'=[m]/\r=.agg #[v']/\OwnL cC 3 52 m v' A/\A.map Ce.c=Dm F t (cn l)/\∀a∈A,RdL cD 2 h' [] a.v a.c.sd):=by
 have o1:=hR.q.rd.one;have o2:=hF.rd.one;refine Av func27 ntmps27 Y Y (λw0 hw0=>?_);simp only[A3];refine Aw (AY [_] Y Y (by rfl) Y Y Y (λg3=>AY [_] Y Y (by rfl) Y Y Y (λg5=>By [.slice none 0 0] Y AO Y Y (λg6=>Ap (Bk 1 Y λh1 l1 hS5=>(Bk 1 Y λh2 l2 hS3=>?_))))));have hR2:=(hR.up l1).up l2;have hF2:=(hF.up l1).up l2;have c3:∀ms,Seg h2 ms (⟨g3,0,none⟩:Addr) [v]:=λms=>hS3.any;have c5:∀ms,Cell h2 ms (⟨g5,0,none⟩:Addr) (.int .i64 t):=λms=>((hS5 0 _ Y).any).le l2;refine Ac (Aw (Qx (oG Y BJ AO (c3 _)) Y (Qm Y ?_)));refine Qx (AR Y call24 Y (EX ((F8 l F v vf h2 hK hR2 hF2 hV).mono λr _ _ h=>by rw[h,h0]) _)) rfl ?_;refine Qm Y (Qm Y (Qm Y (Qm Y (Qm Y (BN (Qm Y (Qm Y (Ap ?_))))))));refine Ax Y (λhz=>?_) (λhz=>?_)
 ·exact absurd Y hz
 ·refine Aj (Ab (Aw (Qm Y (Qc call66 Y (Je F vf h2 hF2 hV.n hV.k) (λrL h3 ms3 l3 hL=>?_)))));obtain⟨l3',gL,mL,bL,rfl,rfl,hOL⟩:=hL;refine By [.map none] Y Yu Y Y (λg9=>Af 0 0 Y Yu Y Y (by rfl) Y Y (by decide) Y Y (Ap (AB λh4 l4 hS9=>(Bt λh5 l5 lmL=>?_))));have l25:=AI l3' (AI l4 l5);have c9:∀ms,Cell h5 ms (⟨g9,0,none⟩:Addr) (.map (some gL)):=λms=>((hS9 0 _ Y).any).le l5;have c3:∀ms,Seg h5 ms (⟨g3,0,none⟩:Addr) [v]:=λms=>(c3 ms).le l25;have c5:∀ms,Cell h5 ms (⟨g5,0,none⟩:Addr) (.int .i64 t):=λms=>(c5 ms).le l25;refine Aw (Qx (oG Y BJ AO (c3 _)) Y (Qc call65 Y (Dz l v h5 hK (hR2.up l25)) (λrC h6 ms6 l6 hQ=>?_)));obtain⟨l6',mC,A,vA,rfl,rfl,hOC,hAl,hsA⟩:=hQ;obtain⟨lo,e⟩:=exO (λa ha=>(hsA a ha).rd.one);have e:lo.map KO=A:=e;have hlo:lo.length=l.length:=by have h1:=congrArg List.length hAl;rw[<-e]at h1;rw[C6]at h1;simpa using h1
  have hOo:OwnL HI 3 52 mC vA lo:=ZQ (by rw[e];exact hOC);have ovA:=hOC.o1;refine By [.slice none 0 0] Y AO Y Y (λg10=>?_);refine Sa 0 [_] AO Y (by simp[o1,o2,ovA]) ?_;refine BN (Qf B3 Y (Ql Y A9 (Cell.blk 0 Y Y) (Qx (BM Y Y Y) Y ?_)))
  have hidI:∀a∈lo,BP a.c.id:=λa ha=>by
   have h1:a.c∈cn l:=by rw[<-hAl,<-e,map_map];exact List.mem_map.2 ⟨a,ha,Y⟩
   exact hK.cI h1
  refine MS 1 Y (Bb (pre:=[mC]) Y call74 Y (PD lo vA mC 75 [Value.pointer (some ⟨g9,0,none⟩),.pointer (some ⟨g5,0,none⟩)] (λx=>decide (Dn (BI F) x.c.id>t)) h6 hOo (by omega) call75 (λa ha h' l' ms=>XU F a t g9 g5 gL mL bL h' hOL (AI lmL (AI l6 l')) (λms=>(c9 ms).le (AI l6 l')) (λms=>(c5 ms).le (AI l6 l')) (hidI a ha) ms)) Y Y Y Y (λvD h7 ms7 l7 hF=>?_));obtain⟨rfl,mD,rfl,hOD⟩:=hF;have ovD:=hOD.o1;refine Qf B3 Y ?_;refine Af 1 _ Y IK Y Y (by assumption) Y Y (by(simp;done)) rfl rfl ?_;refine Ap (Bk 1 Y λh8 l8 hS10=>?_);have c10:∀ms,Seg h8 ms (⟨g10,0,none⟩:Addr) [vD]:=λms=>hS10.any
  have hfe:(lo.filter λx=>!decide (Dn (BI F) x.c.id>t)).map KO=A.filter λa=>decide (Dn (BI F) a.c.id<=t):=by
   rw[<-e,List.filter_map];congr 1;refine List.filter_congr λx _=>?_;show(!decide (Dn (BI F) x.c.id>t))=decide (Dn (BI F) x.c.id<=t);by_cases h:Dn (BI F) x.c.id<=t
   ·rw[decide_eq_true h,decide_eq_false (by omega)];rfl
   ·rw[decide_eq_false h,decide_eq_true (by omega)];rfl
  have hOe:=UQ hOD;rw[hfe]at hOe
  have hfc:(A.filter λa=>decide (Dn (BI F) a.c.id<=t)).map Ce.c=Dm F t (cn l):=by unfold Dm;rw[<-hAl,List.filter_map];rfl
  refine Aw (Qx (oG Y BJ AO (c10 _)) Y ?_);refine Sa 1 [_] AO Y (by simp[o1,o2,ovA,ovD]) ?_;refine Ap (Aq ?_);have lpp:=AI l1 (AI l2 (AI l25 (AI l6 l8)));have hpost:=λa (ha:a∈A.filter λa=>decide (Dn (BI F) a.c.id<=t))=>(hsA a (List.mem_filter.1 ha).1).up l8;exact BB (vs:=[_]) 1 Y Y BJ Y AO Y Y (⟨lpp,mD,_,vD,Y,Y,hOe,hfc,hpost⟩)
end Go.Proofs.Q
namespace Go.Proofs.Q
open Go.Eng Go.RowKit
variable {o:List Cl}
theorem Rgt.filt(R:Rgt o){P:Cl->Bool}(hc:∀x∈o,P x=true->∀s∈x.sd,∀y∈o,y.id=s.1->P y=true):Rgt (o.filter P):=by
 have hm:∀{x},x∈o.filter P->x∈o:=λh=>(List.mem_filter.1 h).1;have hnd:((o.filter P).map Cl.id).Nodup:=R.nd.sublist (List.filter_sublist.map _)
 have hsid:∀x∈o.filter P,∀s∈x.sd,∃y∈o.filter P,y.id=s.1/\y.dim=x.dim-1:=λx hx s hs=>by obtain⟨y,hy,e1,e2⟩:=R.sid x (hm hx) s hs;exact⟨y,List.mem_filter.2 ⟨hy,hc x (hm hx) (List.mem_filter.1 hx).2 s hs y hy e1⟩,e1,e2⟩
 refine⟨Nat.le_trans (List.length_filter_le _ _) R.n,hnd,λx hx=>R.pos x (hm hx),λx hx=>R.dim x (hm hx),λx hx=>R.num x (hm hx),λx hx=>R.sds x (hm hx),hsid,λx hx=>R.sgn x (hm hx),λx hx=>R.one x (hm hx),λx hx hd=>?_⟩
 have e:Fy (o.filter P) x=Fy o x:=by
  unfold Fy Kh;refine DW λs hs=>?_;obtain⟨y,hy,e1,_⟩:=hsid x hx s hs
  have h1:FZ (o.filter P) s.1=FZ o s.1:=by rw[<-e1];unfold FZ;rw[Dh hnd hy,Dh R.nd (hm hy)]
  simp only[h1]
 rw[e];exact R.tab x (hm hx) hd
theorem RgtF.can_eq(R:RgtF o){x:Cl}(hx:x∈o):x.can=x:=by have e:Cd x.sd=x.sd:=Dr Prod.fst (BY _) (E8 _) (R.sinc x hx);unfold Cl.can;rw[e]
theorem RgtF.filt(R:RgtF o){P:Cl->Bool}(hc:∀x∈o,P x=true->∀s∈x.sd,∀y∈o,y.id=s.1->P y=true):RgtF (o.filter P):=by
 have h1:=(R.rgt.filt hc).ordF
 have e1:(o.filter P).map Cl.can=o.filter P:=by
  have:∀l:List Cl,(∀x∈l,x∈o)->l.map Cl.can=l:=λl=>by
   induction l with
   | nil=>intro _;rfl
   | cons a l ih=>intro h;rw[map_cons,R.can_eq (h a Mh),ih λx hx=>h x (mem_cons_of_mem _ hx)]
  exact this _ λx hx=>(List.mem_filter.1 hx).1
 have h2:=Dc (o.filter P).length (o.filter P) (Nat.le_refl _);rw[e1]at h2;have h3:=Dr Cl.id h2 (Dx _ _ (Nat.le_refl _)) (R.inc.sublist List.filter_sublist)
 rwa [h3]at h1
theorem RgtF.sub(R:RgtF o){F:List (Int×Int)}(hmon:∀x∈o,∀s∈x.sd,Dn (BI F) s.1<=Dn (BI F) x.id)(t:Int):RgtF (Dm F t o):=
 R.filt λx hx hP s hs y hy e=>by have h1:=of_decide_eq_true hP;have h2:=hmon x hx s hs;rw[<-e]at h2;exact decide_eq_true (by omega)
end Go.Proofs.Q
namespace Go.Proofs.Q
open Go.Proofs.Tryz
open Go.Eng Go.RowKit
theorem Lw(l:List Ce)(F:List (Int×Int))(v vf:Value)(t p:Int)(hp:Hp)(hK:RgC l)(hR:RdC hp v l)(hF:RdL cV 2 hp [] vf F)(hV:Ls F)(h0:Fz (cn l) F=(0,0))(hmon:∀x∈cn l,∀s∈x.sd,Dn (BI F) s.1<=Dn (BI F) x.id)(hP:IsP p)(hp2:p<256)(hl:l.length<=100) :
  FnT Tryz.prog 19 #[.agg #[v],vf,.int .i64 t,.int .i64 p] hp [] (λr h' ms'=>hp.le h'/\∃(D:Int) (rk:Nat->Nat) (w:Value) (m:Hp),r=.tuple #[w,.int .i64 0]/\ms'=[m]/\OwnL cI 1 3 m w (L3 (Dm F t (cn l)) rk (D+1).toNat)/\J8 (Dm F t (cn l)) D/\rk 0=0/\∀n:Nat,n<(D+1).toNat->RkO p (Dm F t (cn l)) (n+1) (rk (n+1))):=by
 have o1:=hR.q.rd.one;have o2:=hF.rd.one;refine Av func19 ntmps19 Y Y (λw0 hw0=>?_);simp only[A3];refine Aw (AY [_] Y Y (by rfl) Y Y Y (λg4=>Qm Y (Qm Y (Ap (AB λh1 l1 hS4=>?_)))));have hR1:=hR.up l1;have hF1:=hF.up l1;have c4:∀ms,Seg h1 ms (⟨g4,0,none⟩:Addr) [v]:=λms=>hS4.any;refine Ac (Aw (Qx (oG Y BJ AO (c4 _)) Y (Qm Y ?_)));refine Qx (AR Y call24 Y (EX ((F8 l F v vf h1 hK hR1 hF1 hV).mono λr _ _ h=>by rw[h,h0]) _)) rfl ?_;refine Qm Y (Qm Y (Qm Y (Qm Y (Qm Y (BN (Qm Y (Qm Y (Ap ?_))))))));refine Ax Y (λhz=>?_) (λhz=>?_)
 ·exact absurd Y hz
 ·refine Aj (Ab (Aw (Qx (oG Y BJ AO (c4 _)) Y (Qm Y (Qm Y (Qc call27 Y (FC l F v vf t h1 hK hR1 hF1 hV h0 (by omega)) (λrS h2 ms2 l2 hS=>?_)))))));obtain⟨l2',mS,A,vA,rfl,rfl,hOS,hA,hsA⟩:=hS;refine A5 hOS λh3 l3 hRA=>?_
  have hAl:A.length<=100:=by have h1:=congrArg List.length hA;rw[length_map]at h1;rw[h1];refine Nat.le_trans (List.length_filter_le _ _) ?_;rw[C6];exact hl
  have hFA:RgtF (A.map Ce.c):=by rw[hA];exact hK.F.sub hmon t
  have hKA:RgC A:=⟨hFA.rgt,λa ha=>by
   have h1:a.c∈Dm F t (cn l):=by rw[<-hA];exact List.mem_map.2 ⟨a,ha,Y⟩
   exact hK.ci (List.mem_filter.1 h1).1⟩
  have hRC:RdC h3 vA A:=⟨hRA,λa ha=>(hsA a ha).up l3⟩
  have oA_:=hRA.rd.one;refine Qm Y (Qc call20 Y (Wd A vA p h3 hP hp2 hKA hRC hAl) (λrB h4 ms4 l4 hB=>?_));obtain⟨l4',D,rk,w,m,rfl,rfl,hO,hD,hr0,hrk⟩:=hB;rw[Nl hFA,hA]at hO hD hrk;have ow:=hO.o1;refine Qm Y (Qm Y (Qm Y (Qm Y (Ap (Aq ?_)))));exact BA Y Y Y (⟨AI l1 (AI l2 (AI l3 l4)),D,rk,w,m,Y,Y,hO,hD,hr0,hrk⟩)
end Go.Proofs.Q
namespace Go.Proofs.Q
open Go.Eng Go.RowKit Go.Lin
variable {i j:Nat}
def Do(S:List Ce)(i:Nat):Cl:=(S.getD i default).c
theorem GB{S:List Ce}(h:i<S.length):Do S i=S[i].c:=by unfold Do;simp[List.getD,h]
structure PerH(p:Int)(F:List (Int×Int))(l S:List Ce)(R V:Nat->List Int):Prop where
 P:PersF p F l S R V
 hp:IsP p
 G:Rgt (cn l)
 mon:∀x∈cn l,∀s∈x.sd,Dn (BI F) s.1<=Dn (BI F) x.id
section
variable {p:Int} {F:List (Int×Int)} {l S:List Ce} {R V:Nat->List Int}
theorem PerH.nd(H:PerH p F l S R V):(S.map λa=>a.c.id).Nodup:=by
 have:=(H.P.perm.map Cl.id).nodup_iff.2 H.G.nd
 rwa [map_map]at this
theorem PerH.mem(H:PerH p F l S R V)(h:i<S.length):Do S i∈cn l:=by rw[GB h];exact H.P.perm.mem_iff.1 (List.mem_map.2 ⟨_,getElem_mem h,Y⟩)
theorem PerH.inj(H:PerH p F l S R V)(hi:i<S.length)(hj:j<S.length)(h:(Do S i).id=(Do S j).id):i=j:=by
 rw[GB hi,GB hj]at h;have hp:=List.pairwise_iff_getElem.1 H.nd;rcases Nat.lt_trichotomy i j with h1|h1|h1
 ·have:=hp i j (by simpa using hi) (by simpa using hj) h1;simp only[getElem_map]at this;exact absurd h this
 ·exact h1
 ·have:=hp j i (by simpa using hj) (by simpa using hi) h1;simp only[getElem_map]at this;exact absurd h.symm this
theorem PerH.place(H:PerH p F l S R V){y:Cl}(hy:y∈cn l):∃m,m<S.length/\Do S m=y:=by obtain⟨a,ha,rfl⟩:=List.mem_map.1 (H.P.perm.mem_iff.2 hy);obtain⟨m,hm,rfl⟩:=getElem_of_mem ha;exact⟨m,hm,GB hm⟩
theorem PerH.before(H:PerH p F l S R V)(hj:j<S.length){s:Int×Int}(hs:s∈(Do S j).sd):∃m,m<j/\(Do S m).id=s.1/\(Do S m).dim=(Do S j).dim-1:=by
 obtain⟨y,hy,e1,e2⟩:=H.G.sid _ (H.mem hj) s hs;obtain⟨m,hm,rfl⟩:=H.place hy;refine⟨m,?_,e1,e2⟩;have hf:=H.mon _ (H.mem hj) s hs;rw[<-e1]at hf;refine Classical.byContradiction λhn=>?_;rcases (by omega:m=j\/j<m) with rfl|h
 ·omega
 ·have:=List.pairwise_iff_getElem.1 H.P.srt j m hj hm h;rw[<-GB hj,<-GB hm]at this;omega
def EM(S:List Ce)(i k:Nat):Int:=sgn (Do S k).sd (Do S i).id
theorem Rw(H:PerH p F l S R V)(hj:j<S.length)(hi:i<S.length):∀k,k<=(Do S j).sd.length->Cg p ((Ff p S j k).getD i 0) (sgn ((Do S j).sd.take k) (Do S i).id)
 | 0,_=>by
  have:(Ff p S j 0).getD i 0=0:=by unfold Ff;simp[List.getD,hi]
  rw[this,List.take_zero,Hh];exact Cg.refl _ _
 | k+1,hk=>by
  have ih:=Rw H hj hi k (by omega);have hkl:k<(S.getD j default).c.sd.length:=by unfold Do at hk;omega
  have hkl':k<(Do S j).sd.length:=hkl;obtain⟨s,hs⟩:∃s,(Do S j).sd[k]=s:=⟨_,Y⟩
  have hs':(S.getD j default).c.sd[k]=s:=hs
  have hcs:Ff p S j (k+1)=(Ff p S j k).set (pl S (j+1) s.1) ((s.2+p)%p):=by rw[<-hs'];exact Mi hkl
  rw[hcs,take_succ_eq_append_getElem hkl',Kq,hs];have hsm:s∈(Do S j).sd:=by rw[<-hs];exact getElem_mem hkl'
  obtain⟨m,hm,e1,e2⟩:=H.before hj hsm
  have hpl:pl S (j+1) s.1=m:=by rw[<-e1];exact Aai H.nd (by omega) (by omega)
  rw[hpl];have hpp:0<p:=by have:=H.hp.1;omega
  by_cases him:i=m
  ·subst him
   have hz:sgn ((Do S j).sd.take k) (Do S i).id=0:=Kr λs' hs2 e=>by have h1:=List.pairwise_iff_getElem.1 (H.G.sds _ (H.mem hj));obtain⟨t,ht,rfl⟩:=getElem_of_mem hs2;rw[length_take]at ht;have:=h1 t k (by simp;omega) (by simpa using hkl') (by omega);rw[getElem_map,getElem_map,hs]at this;rw[List.getElem_take]at e;exact this (e.trans e1)
   have hlt:i<(Ff p S j k).length:=by rw[F6];exact hi
   rw[hz,if_pos e1.symm];have hv:((Ff p S j k).set i ((s.2+p)%p)).getD i 0=(s.2+p)%p:=by simp[List.getD,hlt]
   rw[hv,Int.zero_add];have h5:=(Cg.mod p (s.2+p)).trans ((Cg.refl p s.2).add (Cg.self p))
   rwa [Int.add_zero]at h5
  ·have hne:s.1≠(Do S i).id:=λe=>him (H.inj hi (by omega) (by rw[e1,e]));rw[if_neg hne,Int.add_zero]
   have hv:((Ff p S j k).set m ((s.2+p)%p)).getD i 0=(Ff p S j k).getD i 0:=by simp[List.getD,List.getElem?_set_ne (Ne.symm him)]
   rw[hv];exact ih
theorem QU(H:PerH p F l S R V)(hj:j<S.length)(hi:i<S.length):Cg p ((JF p S j).getD i 0) (EM S i j):=by have:=Rw H hj hi (Do S j).sd.length (Nat.le_refl _);rw[take_length]at this;exact this
end
end Go.Proofs.Q
namespace Go.Proofs.Q
open Go.Eng Go.RowKit Go.Lin
variable {i k j:Nat} {o o':List Cl}
section
variable {p:Int} {F:List (Int×Int)} {l S:List Ce} {R V:Nat->List Int}
structure ColI(p:Int)(S:List Ce)(k:Nat)(r v:List Int):Prop where
 rl:r.length=S.length
 vl:v.length=S.length
 eq:∀i,i<S.length->Cg p (r.getD i 0) (Fx S.length (EM S) (λm=>v.getD m 0) i)
 one:v.getD k 0=1
 aft:∀i,k<i->v.getD i 0=0
 vd:∀i,i<S.length->v.getD i 0≠0->(Do S i).dim=(Do S k).dim
 rd:∀i,i<S.length->r.getD i 0≠0->(Do S k).dim=(Do S i).dim+1
theorem Ha{n:Nat}(hk:k<n)(i:Nat):(Fv n k).getD i 0=if i=k then 1 else 0:=by
 unfold Fv;by_cases e:i=k
 ·subst e;simp[List.getD,hk]
 ·rw[if_neg e];simp only[List.getD];rw[List.getElem?_set_ne (Ne.symm e)];by_cases h:i<n
  ·simp[h]
  ·simp[List.getElem?_eq_none (show(replicate n (0:Int)).length<=i by simp;omega)]
theorem PerH.col0(H:PerH p F l S R V)(hk:k<S.length):ColI p S k (JF p S k) (Fv S.length k):=by
 have hp:=H.hp.1;refine⟨F6 _ _ _ _,LS _ _,λi hi=>?_,?_,λi hi=>?_,λi hi h=>?_,λi hi h=>?_⟩
 ·refine(QU H hk hi).trans (Cg.of_eq ?_);unfold Fx;rw[Gr S.length k _ hk λm hm hne=>by show EM S i m*(Fv S.length k).getD m 0=0;rw[Ha hk,if_neg hne,Int.mul_zero]];show EM S i k=EM S i k*(Fv S.length k).getD k 0;rw[Ha hk,if_pos rfl,Int.mul_one]
 ·rw[Ha hk,if_pos rfl]
 ·rw[Ha hk,if_neg (by omega)]
 ·rw[Ha hk]at h;split at h
  ·rename_i e;rw[e]
  ·exact absurd Y h
 ·have hE:EM S i k≠0:=λe=>h (by
   have h1:=QU H hk hi;rw[e]at h1
   exact h1.eq (Gb (by omega) (O6 (by omega) S k _) i) ⟨by omega,by omega⟩)
  obtain⟨s,hs,e⟩:=MB hE;obtain⟨m,hm,e1,e2⟩:=H.before hk hs;have:m=i:=H.inj (by omega) hi (by rw[e1,e]);subst this;omega
theorem Xs(n:Nat)(D:Nat->Nat->Int)(x y:Nat->Int)(c:Int)(i:Nat):Fx n D (λk=>x k+c*y k) i=Fx n D x i+c*Fx n D y i:=by unfold Fx;rw[<-Ft,<-GQ];exact Bo λk _=>by rw[Int.mul_add,<-Int.mul_assoc,<-Int.mul_assoc,Int.mul_comm c]
theorem ColI.step{k' i0:Nat}{t:Int}{r v r' v':List Int}(hp:2<=p)(C:ColI p S k r v)(C':ColI p S k' r' v')(hk:k'<k)(hi0:i0<S.length)(h1:r.getD i0 0≠0)(h2:r'.getD i0 0≠0):ColI p S k (FX p r r' t) (FX p v v' t):=by
 have lr:r.length=r'.length:=C.rl.trans C'.rl.symm;have lv:v.length=v'.length:=C.vl.trans C'.vl.symm
 have hd:(Do S k').dim=(Do S k).dim:=by have:=C.rd i0 hi0 h1;have:=C'.rd i0 hi0 h2;omega
 refine⟨by rw[Fu lr,C.rl],by rw[Fu lv,C.vl],λi hi=>?_,?_,λi hi=>?_,λi hi h=>?_,λi hi h=>?_⟩
 ·rw[Em lr];refine(Cg.mod p _).trans (((C.eq i hi).add ((Cg.refl p t).mul (C'.eq i hi))).trans ?_);rw[<-Xs];exact QE (λm _=>by rw[Em lv];exact(Cg.mod p _).symm) i
 ·rw[Em lv,C.one,C'.aft k hk,Int.mul_zero,Int.add_zero];exact Int.emod_eq_of_lt (by omega) (by omega)
 ·rw[Em lv,C.aft i hi,C'.aft i (by omega),Int.mul_zero,Int.add_zero];rfl
 ·rw[Em lv]at h;by_cases e:v.getD i 0=0
  ·by_cases e':v'.getD i 0=0
   ·rw[e,e',Int.mul_zero]at h;exact absurd Y h
   ·rw[C'.vd i hi e',hd]
  ·exact C.vd i hi e
 ·rw[Em lr]at h;by_cases e:r.getD i 0=0
  ·by_cases e':r'.getD i 0=0
   ·rw[e,e',Int.mul_zero]at h;exact absurd Y h
   ·rw[<-hd];exact C'.rd i hi e'
  ·exact C.rd i hi e
theorem PerH.ops(H:PerH p F l S R V)(ih:∀k',k'<k->ColI p S k' (R k') (V k')){r0 v0 r v:List Int}(C:ColI p S k r0 v0)(h:Ops p S.length k R V r0 v0 r v):ColI p S k r v:=by
 induction h with
 | refl=>exact C
 | step h hk hi h0 h1 h2 h3 ih'=>exact ih'.step H.hp.1 (ih _ hk) hk hi h2 h3
theorem PerH.col(H:PerH p F l S R V):∀k,k<S.length->ColI p S k (R k) (V k):=λk=>by
 induction k using Nat.strongRecOn with
 | ind k ih=>
  intro hk;obtain⟨la,A⟩:=H.P.all;exact H.ops (λk' hk'=>ih k' hk' (by omega)) (H.col0 hk) (A.ops k hk)
end
def tr(o o':List Cl)(i:Nat):Nat:=O5 o' (o.getD i default).id
theorem LK(h:o.Perm o')(hn:(o.map Cl.id).Nodup)(hi:i<o.length):tr o o' i<o.length/\o'.getD (tr o o' i) default=o.getD i default:=by have:=Hj (h.mem_iff.1 (DZ hi)) ((h.map Cl.id).nodup_iff.1 hn);exact⟨by rw[h.length_eq];exact this.1,this.2⟩
theorem Lb(h:o.Perm o')(hn:(o.map Cl.id).Nodup)(hi:i<o.length):tr o' o (tr o o' i)=i:=by obtain⟨h1,h2⟩:=LK h hn hi;have hn':=(h.map Cl.id).nodup_iff.1 hn;obtain⟨h3,h4⟩:=LK h.symm hn' (i:=tr o o' i) (by rw[<-h.length_eq];exact h1);exact Kl hn (by rw[h.length_eq];exact h3) hi (by rw[h4,h2])
theorem US(h:o.Perm o')(hn:(o.map Cl.id).Nodup)(hi:i<o.length)(hj:j<o.length)(e:tr o o' i=tr o o' j):i=j:=by rw[<-Lb h hn hi,e,Lb h hn hj]
theorem Aay{n:Nat}{π ρ:Nat->Nat}(f:Nat->Int)(h1:∀i,i<n->π i<n)(h2:∀i,i<n->ρ i<n)(h3:∀i,i<n->π (ρ i)=i)(h4:∀i,i<n->ρ (π i)=i):sm n (λi=>f (π i))=sm n f:=by rw[Bo (g:=λi=>sm n λm=>if m=π i then f m else 0) λi hi=>(It n (π i) f (h1 i hi)).symm,J3];refine Bo λm hm=>?_;rw[Gr n (ρ m) _ (h2 m hm) λi hi hne=>if_neg λe=>hne (by rw[e,h4 i hi]),if_pos (h3 m hm).symm]
theorem LV{l:List Int}(h:Bn l<0)(i:Nat):l.getD i 0=0:=by
 rcases IQ l with ⟨k,hk,e,_⟩|⟨e,h1⟩
 ·omega
 ·by_cases hi:i<l.length
  ·rw[show l.getD i 0=l[i] by simp[List.getD,hi]];exact h1 i hi
  ·simp[List.getD,List.getElem?_eq_none (show l.length<=i by omega)]
def vO(o:List Cl)(S:List Ce)(V:Nat->List Int)(j i:Nat):Int:=(V (tr o (S.map Ce.c) j)).getD (tr o (S.map Ce.c) i) 0
noncomputable def Qu(o:List Cl)(S:List Ce)(R:Nat->List Int)(j:Nat):Option Nat:=if 0<=Bn (R (tr o (S.map Ce.c) j)) then some (tr (S.map Ce.c) o (Bn (R (tr o (S.map Ce.c) j))).toNat) else none
theorem Np{S:List Ce}(h:i<S.length):(S.map Ce.c).getD i default=Do S i:=by rw[GB h];simp[List.getD,h]
def dmo(o:List Cl)(i:Nat):Int:=(o.getD i default).dim
section
variable {p:Int} {F:List (Int×Int)} {l S:List Ce} {R V:Nat->List Int}
theorem PerH.lenS(H:PerH p F l S R V):S.length=(cn l).length:=by have:=H.P.perm.length_eq;simpa using this
theorem PerH.trS(H:PerH p F l S R V)(hi:i<S.length):tr (cn l) (S.map Ce.c) i<S.length/\Do S (tr (cn l) (S.map Ce.c) i)=(cn l).getD i default:=by
 have h1:=LK H.P.perm.symm H.G.nd (i:=i) (by rw[<-H.lenS];exact hi);have h2:tr (cn l) (S.map Ce.c) i<S.length:=by rw[H.lenS];exact h1.1
 exact⟨h2,by rw[<-Np h2];exact h1.2⟩
theorem PerH.bndS(H:PerH p F l S R V)(hj:j<S.length)(hi:i<S.length):Fx S.length (DM (cn l)) (vO (cn l) S V j) i=Fx S.length (EM S) (λm=>(V (tr (cn l) (S.map Ce.c) j)).getD m 0) (tr (cn l) (S.map Ce.c) i):=by
 have hnS:((S.map Ce.c).map Cl.id).Nodup:=(H.P.perm.map Cl.id).nodup_iff.2 H.G.nd;unfold Fx;rw[<-Aay (π:=tr (cn l) (S.map Ce.c)) (ρ:=tr (S.map Ce.c) (cn l)) (λm=>EM S (tr (cn l) (S.map Ce.c) i) m*(V (tr (cn l) (S.map Ce.c) j)).getD m 0) (λk hk=>(H.trS hk).1) (λk hk=>?_) (λk hk=>?_) (λk hk=>?_)]
 ·refine Bo λk hk=>?_;show DM _ i k*(V _).getD _ 0=EM S _ _*_;congr 1;unfold DM EM;rw[(H.trS hk).2,(H.trS hi).2]
 ·have:=(LK H.P.perm hnS (i:=k) (by simpa using hk)).1;simpa using this
 ·exact Lb H.P.perm hnS (by simpa using hk)
 ·exact Lb H.P.perm.symm H.G.nd (by rw[<-H.lenS];exact hk)
theorem PerH.lowS(H:PerH p F l S R V)(hj:j<S.length):Qu (cn l) S R j=some i<->i<S.length/\Bn (R (tr (cn l) (S.map Ce.c) j))=tr (cn l) (S.map Ce.c) i:=by
 have hnS:((S.map Ce.c).map Cl.id).Nodup:=(H.P.perm.map Cl.id).nodup_iff.2 H.G.nd;have C:=H.col _ (H.trS hj).1;unfold Qu;constructor
 ·intro h;split at h
  ·rename_i h0;cases h;have h1:=(G8 (R (tr (cn l) (S.map Ce.c) j))).2;rw[C.rl]at h1;have h2:(Bn (R (tr (cn l) (S.map Ce.c) j))).toNat<(S.map Ce.c).length:=by rw[length_map];omega
   have h3:=LK H.P.perm hnS h2;have h4:=Lb H.P.perm hnS h2;refine⟨by simpa using h3.1,?_⟩;rw[h4,Int.toNat_of_nonneg h0]
  ·cases h
 ·rintro⟨hi,h⟩;rw[h,if_pos (by omega),Int.toNat_natCast,Lb H.P.perm.symm H.G.nd (by rw[<-H.lenS];exact hi)]
theorem PerH.rdc(H:PerH p F l S R V):Rdc p S.length (DM (cn l)) (dmo (cn l)) (tr (cn l) (S.map Ce.c)) (vO (cn l) S V) (Qu (cn l) S R):=by
 have hp:=H.hp.1;obtain⟨la,A⟩:=H.P.all;have e1:=H.lenS
 have hR:∀k,k<S.length->∀i,p∣(R k).getD i 0->(R k).getD i 0=0:=λk hk i hd=>by have:=Gb (by omega) (A.red.rr k hk) i;exact(Cg.eq (cgz.2 hd) this ⟨by omega,by omega⟩)
 have hb:∀j i,j<S.length->i<S.length->(p∣Fx S.length (DM (cn l)) (vO (cn l) S V j) i<->(R (tr (cn l) (S.map Ce.c) j)).getD (tr (cn l) (S.map Ce.c) i) 0=0):=λj i hj hi=>by have ht:=(H.trS hj).1;rw[H.bndS hj hi,<-((H.col _ ht).eq _ (H.trS hi).1).dvd_iff];exact⟨hR _ ht _,λh=>by rw[h];exact Int.dvd_zero p⟩
 refine⟨H.hp.fld,λi j hi hj=>?_,λi j hi hj h=>?_,λi j hi hj h=>?_,λj hj=>?_,λj i hj hi h=>?_,λj hj h i hi=>?_,λj i hj h=>?_,λj j' i hj hj' h h'=>?_⟩
 ·rw[e1,DM2 H.G (by omega)];exact Int.dvd_zero p
 ·exact Zy H.G (by omega) (by omega) λe=>h (by rw[e];exact Int.dvd_zero p)
 ·exact US H.P.perm.symm H.G.nd (by omega) (by omega) h
 ·have C:=H.col _ (H.trS hj).1;refine⟨hj,λh=>?_,λi' hi' h=>?_⟩
  ·unfold vO at h;rw[C.one]at h;have:=Int.le_of_dvd (by omega) h;omega
  ·refine Nat.le_of_not_lt λhlt=>h ?_;unfold vO;rw[C.aft _ hlt];exact Int.dvd_zero p
 ·have C:=H.col _ (H.trS hj).1;have:=C.vd _ (H.trS hi).1 λe=>h (by unfold vO;rw[e];exact Int.dvd_zero p);rw[(H.trS hi).2,(H.trS hj).2]at this;exact this
 ·rw[hb j i hj hi];refine LV ?_ _;unfold Qu at h;split at h
  ·cases h
  ·omega
 ·obtain⟨hi,e⟩:=(H.lowS hj).1 h;obtain⟨h1,h2,h3⟩:=EH e;refine⟨hi,λhd=>h2 ((hb j i hj hi).1 hd),λi' hi' hd=>Nat.le_of_not_lt λhlt=>hd ((hb j i' hj hi').2 (h3 _ hlt))⟩
 ·obtain⟨hi,e⟩:=(H.lowS hj).1 h;obtain⟨_,e'⟩:=(H.lowS hj').1 h';have a1:=A.red.a1 _ (H.trS hj).1 (by omega);have a2:=A.red.a1 _ (H.trS hj').1 (by omega);rw[e']at a2;rw[e]at a1;exact US H.P.perm.symm H.G.nd (by omega) (by omega) (by omega)
end
end Go.Proofs.Q
namespace Go.Proofs.Q
open Go.Eng Go.RowKit Go.Lin Go.Kuhn
variable {m j:Nat}
theorem K3{α β:Type}{l:List α}{g:α->β}(h:l.Nodup)(hi:∀a∈l,∀b∈l,g a=g b->a=b):(l.map g).Nodup:=
 List.pairwise_map.2 (h.imp_of_mem λ{a b} ha hb hne e=>hne (hi a ha b hb e))
def fo(F:List (Int×Int))(o:List Cl)(i:Nat):Int:=Dn (BI F) (o.getD i default).id
section
variable {p:Int} {F:List (Int×Int)} {l S:List Ce} {R V:Nat->List Int}
theorem PerH.uniq(H:PerH p F l S R V){j':Nat}(hj:j<S.length)(hj':j'<S.length)(h0:0<=Bn (R j))(e:Bn (R j)=Bn (R j')):j=j':=by obtain⟨la,A⟩:=H.P.all;have a1:=A.red.a1 j hj h0;have a2:=A.red.a1 j' hj' (by omega);rw[e]at a1;omega
theorem PerH.end_some(H:PerH p F l S R V){x:Int}(h:Bj (C9 (Fa S R) (Fa S R).length) (m:Int)=some x):∃j,j<S.length/\x=j/\Bn (R j)=m:=by obtain⟨j,h1,h2,h3,_⟩:=GD h;rw[Kd]at h1;rw[KB S R h1]at h3;exact⟨j,h1,h2,h3⟩
theorem PerH.end_get(H:PerH p F l S R V)(hj:j<S.length)(e:Bn (R j)=m):Bj (C9 (Fa S R) (Fa S R).length) (m:Int)=some (j:Int):=by
 cases h:Bj (C9 (Fa S R) (Fa S R).length) (m:Int) with
 | none=>exact absurd (by rw[KB S R hj];exact e) (H0 h j (by rw[Kd];exact hj) (by omega))
 | some x=>
  obtain⟨j',h1,rfl,h3⟩:=H.end_some h;rw[H.uniq h1 hj (by omega) (by rw[e,h3])]
theorem PerH.inv(H:PerH p F l S R V)(hm:m<S.length):tr (S.map Ce.c) (cn l) m<S.length/\(cn l).getD (tr (S.map Ce.c) (cn l) m) default=(S.getD m default).c/\tr (cn l) (S.map Ce.c) (tr (S.map Ce.c) (cn l) m)=m:=by
 have hnS:((S.map Ce.c).map Cl.id).Nodup:=(H.P.perm.map Cl.id).nodup_iff.2 H.G.nd;have hm':m<(S.map Ce.c).length:=by simpa using hm
 obtain⟨h1,h2⟩:=LK H.P.perm hnS hm';refine⟨by simpa using h1,?_,Lb H.P.perm hnS hm'⟩;rw[h2,Np hm];rfl
theorem PerH.pair(H:PerH p F l S R V)(hm:m<S.length)(hj:j<S.length)(e:Bn (R j)=m):Qu (cn l) S R (tr (S.map Ce.c) (cn l) j)=some (tr (S.map Ce.c) (cn l) m):=by rw[H.lowS (H.inv hj).1];exact⟨(H.inv hm).1,by rw[(H.inv hj).2.2,(H.inv hm).2.2];exact e⟩
end
end Go.Proofs.Q
namespace Go.Proofs.Q
open Go.Eng Go.RowKit Go.Lin
variable {t d:Int} {n i j m:Nat} {b:Nat->Bool}
def Sy(f:Int->Int)(S:List Ce)(L:List Int)(d t:Int)(m:Nat):Bool:=match Bj (C9 L L.length) (m:Int) with
 | some j=>decide (f (Do S m).id<f (Do S j.toNat).id/\(Do S m).dim=d/\f (Do S m).id<=t/\t<f (Do S j.toNat).id)
 | none=>decide (L.getD m 0<0/\(Do S m).dim=d/\f (Do S m).id<=t)
theorem XW(f:Int->Int)(S:List Ce)(L:List Int)(d t:Int)(m:Nat):((K5 f S L m).filter (Br.at d t)).length=if Sy f S L d t m then 1 else 0:=by
 unfold K5 Sy;cases Bj (C9 L L.length) (m:Int) with
 | none=>
  show((if L.getD m 0<0 then [⟨(Do S m).dim,f (Do S m).id,0,true,(Do S m).id,0⟩] else []:List Br).filter (Br.at d t)).length=_;generalize Do S m=x;generalize L.getD m 0=z;by_cases h1:z<0<;>by_cases h2:x.dim=d<;>by_cases h3:f x.id<=t<;>simp[h1,h2,h3,Br.at]
 | some j=>
  show((if f (Do S m).id<f (Do S j.toNat).id then [⟨(Do S m).dim,f (Do S m).id,f (Do S j.toNat).id,false,(Do S m).id,(Do S j.toNat).id⟩] else []:List Br).filter (Br.at d t)).length=if decide (f (Do S m).id<f (Do S j.toNat).id/\(Do S m).dim=d/\f (Do S m).id<=t/\t<f (Do S j.toNat).id)=true then 1 else 0
  generalize Do S m=x;generalize Do S j.toNat=y;by_cases h1:f x.id<f y.id<;>by_cases h2:x.dim=d<;>by_cases h3:f x.id<=t<;>by_cases h4:t<f y.id<;>simp[h1,h2,h3,h4,Br.at]
theorem OU(f:Int->Int)(S:List Ce)(L:List Int)(d t:Int):∀n,((Fi f S L n).filter (Br.at d t)).length=Hf n (Sy f S L d t)
 | 0=>rfl
 | n+1=>by rw[Er,filter_append,length_append,OU f S L d t n,XW,Gg]
theorem Aac{a c e:Nat->Bool}(h:∀i,i<n->(if a i then 1 else 0)=(if b i then 1 else 0)+(if c i then 1 else 0)+(if e i then 1 else 0:Nat)):Hf n a=Hf n b+Hf n c+Hf n e:=by
 induction n with
 | zero=>rfl
 | succ n ih=>
  have:=h n (by omega);rw[Gg,Gg,Gg,Gg,ih λi hi=>h i (by omega)];omega
theorem QO(h:∀l,l<n->b l=false):Hf n b=0:=by unfold Hf F4;rw[List.length_eq_zero_iff,List.filter_eq_nil_iff];intro a ha;rw[h a (List.mem_range.1 ha)];simp
theorem NZ{L:List Nat}(hn:L.Nodup)(h:∀l,l∈L<->l<n/\b l=true):Hf n b=L.length:=by unfold Hf F4;refine((List.perm_ext_iff_of_nodup (List.Pairwise.filter _ List.nodup_range) hn).2 λa=>?_).length_eq;rw[mem_filter,List.mem_range,h]
section
variable {p:Int} {F:List (Int×Int)} {l S:List Ce} {R V:Nat->List Int}
def fs(F:List (Int×Int))(S:List Ce)(i:Nat):Int:=Dn (BI F) (Do S i).id
def NC(F:List (Int×Int))(S:List Ce)(d t:Int)(i:Nat):Bool:=decide ((Do S i).dim=d/\fs F S i<=t)
noncomputable def TF(R:Nat->List Int)(i:Nat):Bool:=decide (0<=Bn (R i))
theorem inA_iff:NC F S d t i=true<->(Do S i).dim=d/\fs F S i<=t:=decide_eq_true_iff
theorem nzA_iff:TF R i=true<->0<=Bn (R i):=decide_eq_true_iff
theorem PerH.fmono(H:PerH p F l S R V)(hij:i<=j)(hj:j<S.length):fs F S i<=fs F S j:=by
 rcases Nat.lt_or_eq_of_le hij with h|h
 ·have:=List.pairwise_iff_getElem.1 H.P.srt i j (by omega) hj h;unfold fs;rw[GB hj,GB (by omega:i<S.length)];omega
 ·rw[h];exact Int.le_refl _
theorem PerH.low_lt(H:PerH p F l S R V)(hj:j<S.length)(e:Bn (R j)=m):m<j/\(Do S j).dim=(Do S m).dim+1:=by
 have C:=H.col j hj;obtain⟨la,A⟩:=H.P.all;obtain⟨h1,h2,h3⟩:=EH e;rw[C.rl]at h1;have hp:=H.hp.1;refine⟨?_,C.rd m h1 h2⟩;have hn:¬p∣Fx S.length (EM S) (λk=>(V j).getD k 0) m:=λhd=>h2 (Cg.eq ((C.eq m h1).trans (cgz.2 hd)) (Gb (by omega) (A.red.rr j hj) m) ⟨by omega,by omega⟩);obtain⟨k,hk,h4⟩:=YT hn;have h5:EM S m k≠0:=λe=>h4 (by rw[e,Int.zero_mul];exact Int.dvd_zero p);have h6:(V j).getD k 0≠0:=λe=>h4 (by show p∣_*(V j).getD k 0;rw[e,Int.mul_zero];exact Int.dvd_zero p);obtain⟨s,hs,e1⟩:=MB h5;obtain⟨m',h7,h8,_⟩:=H.before hk hs;have:m'=m:=H.inj (by omega) h1 (by rw[h8,e1]);subst this;rcases (by omega:k<=j\/j<k) with h9|h9
 ·omega
 ·exact absurd (C.aft k h9) h6
theorem PerH.low_none(H:PerH p F l S R V)(hj:j<S.length)(e:Bn (R j)=m):Bn (R m)<0:=by
 have hm:m<S.length:=by have:=(H.low_lt hj e).1;omega
 have h1:=H.pair hm hj e;have Q:=H.rdc;have h2:=Q.cyc (λi hi=>Q.bb _ hi) (Q.lsome _ _ (H.inv hj).1 h1);unfold Qu at h2;rw[(H.inv hm).2.2]at h2;split at h2
 ·cases h2
 ·omega
noncomputable def Y8(F:List (Int×Int))(S:List Ce)(R:Nat->List Int)(d t:Int)(m:Nat):Bool:=@decide (NC F S d t m=true/\∃j,j<S.length/\fs F S j<=t/\Bn (R j)=m) (Classical.propDecidable _)
theorem enA_iff:Y8 F S R d t m=true<->NC F S d t m=true/\∃j,j<S.length/\fs F S j<=t/\Bn (R j)=m:=by unfold Y8;exact @decide_eq_true_iff _ (Classical.propDecidable _)
theorem PerH.ends(H:PerH p F l S R V)(d t:Int):Hf S.length (Y8 F S R d t)=Hf S.length λj=>NC F S (d+1) t j&&TF R j:=by
 have hP:∀{j},j∈F4 S.length (λj=>NC F S (d+1) t j&&TF R j)<->j<S.length/\(Do S j).dim=d+1/\fs F S j<=t/\0<=Bn (R j):=λ{j}=>by unfold F4;rw[mem_filter,List.mem_range,Bool.and_eq_true,inA_iff,nzA_iff];exact⟨λ⟨a,⟨b,c⟩,e⟩=>⟨a,b,c,e⟩,λ⟨a,b,c,e⟩=>⟨a,⟨b,c⟩,e⟩⟩
 rw[NZ (L:=(F4 S.length λj=>NC F S (d+1) t j&&TF R j).map λj=>(Bn (R j)).toNat),length_map]
 ·rfl
 ·refine K3 (List.Pairwise.filter _ List.nodup_range) λa ha b hb e=>?_;obtain⟨a1,_,_,a2⟩:=hP.1 ha;obtain⟨b1,_,_,b2⟩:=hP.1 hb;exact H.uniq a1 b1 a2 (by omega)
 ·intro m;rw[enA_iff,inA_iff];constructor
  ·intro h;obtain⟨j,hj,rfl⟩:=List.mem_map.1 h;obtain⟨a1,a2,a3,a4⟩:=hP.1 hj;have e:Bn (R j)=((Bn (R j)).toNat:Int):=by omega
   obtain⟨h1,h2⟩:=H.low_lt a1 e;have h3:=H.fmono (Nat.le_of_lt h1) a1;exact⟨by omega,⟨by omega,by omega⟩,j,a1,a3,e⟩
  ·rintro⟨hm,⟨h1,h2⟩,j,h3,h4,h5⟩;obtain⟨h6,h7⟩:=H.low_lt h3 h5;exact List.mem_map.2 ⟨j,hP.2 ⟨h3,by omega,h4,by omega⟩,by rw[h5];omega⟩
theorem PerH.bars(H:PerH p F l S R V)(d t:Int):Hf S.length (NC F S d t)=((Fi (Dn (BI F)) S (Fa S R) S.length).filter (Br.at d t)).length+(Hf S.length λj=>NC F S d t j&&TF R j)+Hf S.length λj=>NC F S (d+1) t j&&TF R j:=by
 rw[OU,<-H.ends];refine Aac λm hm=>?_
 have hb:Sy (Dn (BI F)) S (Fa S R) d t m=true<->NC F S d t m=true/\¬TF R m=true/\¬Y8 F S R d t m=true:=by
  rw[enA_iff,nzA_iff,inA_iff];unfold Sy;cases hg:Bj (C9 (Fa S R) (Fa S R).length) (m:Int) with
  | none=>
   simp only[];rw[decide_eq_true_iff,KB S R hm];constructor
   ·rintro⟨h1,h2,h3⟩;refine⟨⟨h2,h3⟩,by omega,?_⟩;rintro⟨_,j,h4,_,h5⟩;have:=H.end_get h4 h5;rw[hg]at this;cases this
   ·rintro⟨⟨h1,h2⟩,h3,_⟩;exact⟨by omega,h1,h2⟩
  | some x=>
   obtain⟨j,hj,rfl,e⟩:=H.end_some hg;have h0:=H.low_none hj e;simp only[Int.toNat_natCast];rw[decide_eq_true_iff];constructor
   ·rintro⟨h1,h2,h3,h4⟩;refine⟨⟨h2,h3⟩,by omega,?_⟩;rintro⟨_,j',h5,h6,h7⟩;have:=H.uniq hj h5 (by omega) (by rw[e,h7]);subst this;have h6:Dn (BI F) (Do S j).id<=t:=h6;omega
   ·rintro⟨⟨h1,h2⟩,_,h3⟩;have h4:t<Dn (BI F) (Do S j).id:=Int.lt_of_not_ge λh5=>h3 ⟨⟨h1,h2⟩,j,hj,h5,e⟩;have h2:Dn (BI F) (Do S m).id<=t:=h2;exact⟨by omega,h1,h2,h4⟩
 have hx:Y8 F S R d t m=true->¬TF R m=true:=by rw[enA_iff,nzA_iff];rintro⟨_,j,h1,_,h2⟩;have:=H.low_none h1 h2;omega
 have hE:Y8 F S R d t m=true->NC F S d t m=true:=λh=>(enA_iff.1 h).1;revert hb hx hE;cases Sy (Dn (BI F)) S (Fa S R) d t m<;>cases NC F S d t m<;>cases TF R m<;>cases Y8 F S R d t m<;>simp
def TG(S:List Ce)(c:Int):Nat:=O5 (S.map Ce.c) c
theorem PerH.pl(H:PerH p F l S R V){y:Cl}(hy:y∈cn l):TG S y.id<S.length/\Do S (TG S y.id)=y:=by
 have hn:((S.map Ce.c).map Cl.id).Nodup:=by have:=H.nd;rw[map_map];exact this
 obtain⟨h1,h2⟩:=Hj (H.P.perm.mem_iff.2 hy) hn;have h1:O5 (S.map Ce.c) y.id<S.length:=by simpa using h1
 exact⟨h1,by show Do S (O5 (S.map Ce.c) y.id)=y;rw[<-Np h1];exact h2⟩
theorem mem_sub{F:List (Int×Int)}{o:List Cl}{y:Cl}:y∈Dm F t o<->y∈o/\Dn (BI F) y.id<=t:=by unfold Dm;rw[mem_filter,decide_eq_true_iff]
theorem PerH.ids(H:PerH p F l S R V){c:Int}:c∈BG (Dm F t (cn l)) d<->∃y,y∈cn l/\Dn (BI F) y.id<=t/\y.dim=d/\y.id=c:=by
 unfold BG;rw[mem_map];constructor
 ·rintro⟨y,hy,e⟩;obtain⟨h1,h2⟩:=List.mem_filter.1 hy;obtain⟨h3,h4⟩:=mem_sub.1 h1;exact⟨y,h3,h4,of_decide_eq_true h2,e⟩
 ·rintro⟨y,h1,h2,h3,e⟩;exact⟨y,List.mem_filter.2 ⟨mem_sub.2 ⟨h1,h2⟩,decide_eq_true h3⟩,e⟩
theorem PerH.idsN(H:PerH p F l S R V)(d t:Int):(BG (Dm F t (cn l)) d).Nodup:=by unfold BG;exact H.G.nd.sublist ((List.filter_sublist.trans List.filter_sublist).map _)
theorem PerH.nIds(H:PerH p F l S R V)(d t:Int):(BG (Dm F t (cn l)) d).length=Hf S.length (NC F S d t):=by
 rw[NZ (L:=(BG (Dm F t (cn l)) d).map (TG S)),length_map]
 ·refine K3 (H.idsN d t) λa ha b hb e=>?_;obtain⟨y,h1,_,_,rfl⟩:=H.ids.1 ha;obtain⟨z,h2,_,_,rfl⟩:=H.ids.1 hb;have:=(H.pl h1).2;rw[e,(H.pl h2).2]at this;rw[this]
 ·intro m;rw[inA_iff,mem_map];constructor
  ·rintro⟨c,hc,rfl⟩;obtain⟨y,h1,h2,h3,rfl⟩:=H.ids.1 hc;obtain⟨h4,h5⟩:=H.pl h1;exact⟨h4,by rw[h5];exact h3,by unfold fs;rw[h5];exact h2⟩
  ·rintro⟨hm,h1,h2⟩;refine⟨(Do S m).id,H.ids.2 ⟨_,H.mem hm,h2,h1,Y⟩,?_⟩;obtain⟨h4,h5⟩:=H.pl (H.mem hm);exact H.inj h4 hm (by rw[h5])
theorem PerH.rank(H:PerH p F l S R V)(d t:Int){ρ:Nat}(hr:RkO p (Dm F t (cn l)) d ρ):ρ=Hf S.length λj=>NC F S d t j&&TF R j:=by
 obtain⟨E,pv,hE,rfl⟩:=hr;obtain⟨la,A⟩:=H.P.all;have hp:=H.hp.1;obtain⟨sb,hsb⟩:∃sb,Dm F t (cn l)=sb:=⟨_,Y⟩
 have hids:∀{d c},c∈BG sb d<->∃y,y∈cn l/\Dn (BI F) y.id<=t/\y.dim=d/\y.id=c:=λ{d c}=>by rw[<-hsb];exact H.ids
 have hcel:∀{y},y∈cn l->Dn (BI F) y.id<=t->FZ sb y.id=y:=λ{y} hy h=>by
  refine CS ?_ ?_
  ·rw[<-hsb];exact H.G.nd.sublist (List.filter_sublist.map _)
  ·rw[<-hsb];exact mem_sub.2 ⟨hy,h⟩
 rw[hsb]at hE
 have hgc:∀k,k<(BG sb d).length->∃y,y∈cn l/\Dn (BI F) y.id<=t/\y.dim=d/\y.id=(BG sb d).getD k 0:=λk hk=>by refine hids.1 ?_;rw[show(BG sb d).getD k 0=(BG sb d)[k] by simp[List.getD,hk]];exact getElem_mem hk
 have hgr:∀k,k<(BG sb (d-1)).length->∃y,y∈cn l/\Dn (BI F) y.id<=t/\y.dim=d-1/\y.id=(BG sb (d-1)).getD k 0:=λk hk=>by refine hids.1 ?_;rw[show(BG sb (d-1)).getD k 0=(BG sb (d-1))[k] by simp[List.getD,hk]];exact getElem_mem hk
 refine S9 (N:=S.length) (D:=EM S) (q:=λk=>TG S ((BG sb d).getD k 0)) (ρ:=λi=>TG S ((BG sb (d-1)).getD i 0)) (b:=NC F S d t) H.hp.fld hE.red (λk hk=>?_) (λk hk=>?_) (λi hi k hk=>?_) (λx hx k hk hno=>?_) (λj hj=>?_) (λj i=>(R j).getD i 0) (λj i=>(V j).getD i 0) (λj hj hb i hi=>?_) (λj hj hb=>?_) (λj m hj hb hm=>?_) (λj m hj hm hb hv=>?_) (TF R) (λj=>(Bn (R j)).toNat) (λj hj hb hn i hi=>?_) (λj hj hb hn=>?_) (λj k hj hk hb hb' hn hn' e=>?_)
 ·obtain⟨y,h1,_,_,e⟩:=hgc k hk;rw[<-e];exact(H.pl h1).1
 ·obtain⟨y,h1,_,_,e⟩:=hgr k hk;rw[<-e];exact(H.pl h1).1
 ·obtain⟨y,h1,h2,_,e⟩:=hgc k hk;obtain⟨z,h3,h4,_,e'⟩:=hgr i hi;refine(Cg.mod p _).trans (Cg.of_eq ?_);show H8 sb d i k=EM S (TG S ((BG sb (d-1)).getD i 0)) (TG S ((BG sb d).getD k 0));unfold H8 EM;rw[<-e,<-e',hcel h1 h2,(H.pl h1).2,(H.pl h3).2]
 ·obtain⟨y,h1,h2,h3,e⟩:=hgc k hk;refine Cg.of_eq (Classical.byContradiction λhne=>?_);have hne:sgn (Do S (TG S ((BG sb d).getD k 0))).sd (Do S x).id≠0:=hne;rw[<-e,(H.pl h1).2]at hne;obtain⟨s,hs,es⟩:=MB hne;obtain⟨z,hz,ez,dz⟩:=H.G.sid y h1 s hs;have hm:=H.mon y h1 s hs;have hmem:z.id∈BG sb (d-1):=hids.2 ⟨z,hz,by rw[ez];omega,by omega,rfl⟩;obtain⟨i,hi,ei⟩:=getElem_of_mem hmem;refine hno i hi ?_;show TG S ((BG sb (d-1)).getD i 0)=x;rw[show(BG sb (d-1)).getD i 0=(BG sb (d-1))[i] by simp[List.getD,hi],ei];exact H.inj (H.pl hz).1 hx (by rw[(H.pl hz).2,ez,es])
 ·rw[inA_iff];constructor
  ·rintro⟨h1,h2⟩;have hmem:(Do S j).id∈BG sb d:=hids.2 ⟨_,H.mem hj,h2,h1,Y⟩;obtain⟨k,hk,ek⟩:=getElem_of_mem hmem;refine⟨k,hk,?_⟩;show TG S ((BG sb d).getD k 0)=j;rw[show(BG sb d).getD k 0=(BG sb d)[k] by simp[List.getD,hk],ek];exact H.inj (H.pl (H.mem hj)).1 hj (by rw[(H.pl (H.mem hj)).2])
  ·rintro⟨k,hk,rfl⟩;obtain⟨y,h1,h2,h3,e⟩:=hgc k hk;show(Do S (TG S ((BG sb d).getD k 0))).dim=d/\fs F S (TG S ((BG sb d).getD k 0))<=t;unfold fs;rw[<-e,(H.pl h1).2];exact⟨h3,h2⟩
 ·refine((H.col j hj).eq i hi).trans (Cg.of_eq ?_);unfold Fx;exact Bo λk _=>Int.mul_comm _ _
 ·exact(H.col j hj).one
 ·exact(H.col j hj).aft m hm
 ·have C:=H.col j hj;have h1:=C.vd m hm hv;have h2:m<=j:=Nat.le_of_not_lt λh=>hv (C.aft m h);have h3:=H.fmono h2 hj;rw[inA_iff]at hb ⊢;exact⟨by omega,by omega⟩
 ·have hn:¬0<=Bn (R j):=of_decide_eq_false hn;show Cg p ((R j).getD i 0) 0;rw[LV (by omega) i];exact Cg.refl p 0
 ·have hn:=nzA_iff.1 hn;have e:Bn (R j)=((Bn (R j)).toNat:Int):=by omega
  obtain⟨h1,h2,h3⟩:=EH e;rw[(H.col j hj).rl]at h1;refine⟨h1,λhd=>h2 ?_,λi hi _=>?_⟩
  ·exact Cg.eq (cgz.2 hd) (Gb (by omega) (A.red.rr j hj) _) ⟨by omega,by omega⟩
  ·show p∣(R j).getD i 0;rw[h3 i hi];exact Int.dvd_zero p
 ·have hn:=nzA_iff.1 hn;have hn':=nzA_iff.1 hn';have e:(Bn (R j)).toNat=(Bn (R k)).toNat:=e;exact H.uniq hj hk hn (by omega)
theorem PerH.betti(H:PerH p F l S R V)(t D:Int)(rk:Nat->Nat)(hD:J8 (Dm F t (cn l)) D)(h0:rk 0=0)(hrk:∀n:Nat,n<(D+1).toNat->RkO p (Dm F t (cn l)) (n+1) (rk (n+1)))(d:Nat) :
  (((Fi (Dn (BI F)) S (Fa S R) S.length).filter (Br.at d t)).length:Int)=if d<(D+1).toNat then(L3 (Dm F t (cn l)) rk (D+1).toNat).getD d 0 else 0:=by
 have h1:=H.bars d t;split
 ·rename_i hd
  have h2:(L3 (Dm F t (cn l)) rk (D+1).toNat).getD d 0=((BG (Dm F t (cn l)) d).length:Int)-rk d-rk (d+1):=by unfold L3;simp[List.getD,hd]
  have h3:=H.rank _ _ (hrk d hd)
  have h4:rk d=Hf S.length λj=>NC F S d t j&&TF R j:=by
   cases d with
   | zero=>
    rw[h0,QO];intro j hj;refine Bool.eq_false_iff.2 λh=>?_;rw[Bool.and_eq_true,inA_iff,nzA_iff]at h;have e:Bn (R j)=((Bn (R j)).toNat:Int):=by omega
    obtain⟨h5,h6⟩:=H.low_lt hj e;have:=H.G.dim _ (H.mem (i:=(Bn (R j)).toNat) (by omega));have:=h.1.1;omega
   | succ d=>
    exact H.rank _ _ (hrk d (by omega))
  rw[h2,h4,h3,H.nIds,h1];omega
 ·rename_i hd
  have h2:Hf S.length (NC F S d t)=0:=QO λj hj=>by refine Bool.eq_false_iff.2 λh=>?_;obtain⟨h3,h4⟩:=inA_iff.1 h;have h5:=hD.2.1 _ (mem_sub.2 ⟨H.mem hj,h4⟩);have:=hD.1;omega
  omega
end
end Go.Proofs.Q
namespace Go.Proofs.Q
open Go.Eng Go.RowKit Go.Lin Go.Kuhn
structure Xw(o:List Cl)(F:List (Int×Int)):Prop where
 fst:F.map Prod.fst=o.map Cl.id
 bd:∀q∈F,-2000000000<=q.2/\q.2<=2000000000
 at_:∀i,i<o.length->fo F o i=(F.getD i (0,0)).2
 chk:Fz o F=(0,0)
 bI:∀c,-2000000000<=Dn (BI F) c/\Dn (BI F) c<=2000000000
 mon:∀x∈o,∀s∈x.sd,Dn (BI F) s.1<=Dn (BI F) x.id
theorem VI{o:List Cl}(G:Rgt o)(w:Int->Int)(hb:∀y∈o,-2000000000<=w y.id/\w y.id<=2000000000)(hm:∀x∈o,∀s∈x.sd,w s.1<=w x.id):Xw o (o.map λx=>(x.id,w x.id)):=by
 obtain⟨F,hF⟩:∃F,(o.map λx=>(x.id,w x.id))=F:=⟨_,Y⟩
 have e0:F=o.map λx=>(x.id,w x.id):=hF.symm;have e1:F.map Prod.fst=o.map Cl.id:=by rw[e0,map_map];rfl
 have hnd:(F.map Prod.fst).Nodup:=by rw[e1];exact G.nd
 have hat:∀x∈o,Dn (BI F) x.id=w x.id:=λx hx=>Kt hnd (by rw[e0];exact List.mem_map.2 ⟨x,hx,Y⟩)
 have hmon:∀x∈o,∀s∈x.sd,Dn (BI F) s.1<=Dn (BI F) x.id:=λx hx s hs=>by obtain⟨y,hy,e,_⟩:=G.sid x hx s hs;rw[hat x hx,<-e,hat y hy,e];exact hm x hx s hs
 rw[hF];refine⟨e1,λq hq=>?_,λi hi=>?_,Pq (λj hj=>?_) (λj hj=>?_) (λj hj=>?_),λc=>?_,hmon⟩
 ·rw[e0]at hq;obtain⟨x,hx,rfl⟩:=List.mem_map.1 hq;exact hb x hx
 ·have h1:o.getD i default=o[i]:=by simp[List.getD,hi]
  unfold fo;rw[h1,hat _ (getElem_mem hi),e0];simp[List.getD,hi]
 ·have hjo:j<o.length:=by rw[e0,length_map]at hj;exact hj
  have h1:(F.getD j (0,0)).1=o[j].id:=by rw[e0];simp[List.getD,hjo]
  unfold fA;rw[h1,Dh G.nd (getElem_mem hjo),if_neg (by simp),if_neg λh=>?_];obtain⟨q,hq,e⟩:=List.mem_map.1 h;obtain⟨i,hi,rfl⟩:=getElem_of_mem hq;rw[length_take]at hi;have hp:=List.pairwise_iff_getElem.1 G.nd i j (by simp;omega) (by simpa using hjo) (by omega);rw[getElem_map,getElem_map]at hp;refine hp ?_;rw[List.getElem_take]at e;rw[<-e];simp only[e0,getElem_map]
 ·unfold fB;rw[if_neg];intro h;refine h ?_;rw[e1];exact List.mem_map.2 ⟨_,DZ hj,Y⟩
 ·unfold fC;rw[if_neg];rintro⟨s,hs,h⟩;have:=hmon _ (DZ hj) s hs;unfold Dn at this;unfold GO at h;omega
 ·unfold Dn;cases h:Bj (BI F) c with
  | none=>simp
  | some x=>
   have hc:c∈(BI F).map Prod.fst:=Classical.byContradiction λhn=>by rw[C7 hn]at h;cases h
   rw[LN,e1]at hc;obtain⟨y,hy,rfl⟩:=List.mem_map.1 hc;have:=hat y hy;unfold Dn at this;rw[h]at this;rw[this];exact hb y hy
end Go.Proofs.Q

namespace Go.Proofs.Q
open Go.Eng Go.RowKit
theorem G2(f:Int×Int×Int->Int)(g:Int×Int×Int->Int)(κ:Int):∀T:Gd,(∀e∈T,f e=κ*g e)->(T.map f).sum=κ*(T.map g).sum
 | [],_=>by simp
 | e::T,h=>by rw[map_cons,map_cons,sum_cons,sum_cons,h e Mh,G2 f g κ T λe he=>h e (mem_cons_of_mem _ he),Int.mul_add]
theorem GoodT.ren{T:Gd}{s s':List (Int×Int)}(G:GoodT T s)(φ κ:Int->Int)(hφ:∀e∈T,∀e'∈T,φ e.2.1=φ e'.2.1->e.2.1=e'.2.1)(hs:∀a∈s',∃b∈s,a.1=φ b.1):GoodT (T.map λe=>(φ e.1,φ e.2.1,κ e.2.1*e.2.2)) s' where
 sum:=λe' he'=>by
  obtain⟨e,he,rfl⟩:=List.mem_map.1 he';have h1:=G.sum e he;unfold Eb at *;rw[map_map,G2 _ (λe'=>if e'.2.1=e.2.1 then e'.2.2 else 0) (κ e.2.1) T λe' he'=>?_,h1,Int.mul_zero];show(if φ e'.2.1=φ e.2.1 then κ e'.2.1*e'.2.2 else 0)=_;by_cases h:e'.2.1=e.2.1
  ·rw[if_pos h,h,if_pos rfl]
  ·rw[if_neg h,if_neg λq=>h (hφ _ he' _ he q),Int.mul_zero]
 two:=λe' he'=>by
  obtain⟨e,he,rfl⟩:=List.mem_map.1 he';have h1:=G.two e he;unfold Fq at *;rw[map_map,G2 _ (λe'=>if e'.2.1=e.2.1 then 1 else 0) 1 T λe' he'=>?_,h1]
  ·rfl
  show(if φ e'.2.1=φ e.2.1 then(1:Int) else 0)=_;by_cases h:e'.2.1=e.2.1
  ·rw[if_pos h,h,if_pos rfl];rfl
  ·rw[if_neg h,if_neg λq=>h (hφ _ he' _ he q)];rfl
 con:=λa ha b hb=>by
  obtain⟨a',ha',ea⟩:=hs a ha;obtain⟨b',hb',eb⟩:=hs b hb;rw[ea,eb];have h:=G.con a' ha' b' hb';generalize a'.1=x at *;generalize b'.1=y at *;clear ea eb
  induction h with
  | refl=>exact .refl _
  | step _ h1 h2 ih=>exact .step ih (List.mem_map.2 ⟨_,h1,Y⟩) (List.mem_map.2 ⟨_,h2,Y⟩)
variable {n k b m j:Nat} {all:List (List Int)} {S l t s:List Int} {f:Nat->Int}
abbrev Z5(l:List Int):Prop:=l.Pairwise (· < ·)
theorem MI{x:Int}(h:t.Sublist (l++[x])):t.Sublist l\/∃t',t=t'++[x]/\t'.Sublist l:=by
 obtain⟨t1,t2,e,h1,h2⟩:=List.sublist_append_iff.1 h
 have h3:t2=[]\/t2=[x]:=by
  cases h2 with
  | cons _ h=>exact .inl (List.sublist_nil.1 h)
  | cons_cons _ h=>exact .inr (by rw[List.sublist_nil.1 h])
 rcases h3 with rfl|rfl
 ·left;rw[e,append_nil];exact h1
 ·exact .inr ⟨t1,e,h1⟩
theorem N9(s:List Int)(b:Nat):∀n,n<=s.length->(Ei s b n).Sublist (s.take n)
 | 0,_=>by simp[Ei]
 | n+1,h=>by
  rw[Hs,take_succ_eq_append_getElem (by omega)];refine(N9 s b n (by omega)).append ?_;split
  ·simp[List.getD,show n<s.length by omega]
  ·simp
theorem Tq{b':Nat}(h:∀k,k<n->b.testBit k=b'.testBit k):Ei s b n=Ei s b' n:=by unfold Ei;congr 1;exact List.filter_congr λk hk=>h k (List.mem_range.1 hk)
theorem K0(s:List Int):∀n,n<=s.length->∀t:List Int,t.Sublist (s.take n)->∃b,b<2^n/\t=Ei s b n
 | 0,_,t,ht=>⟨0,by simp,by simpa[Ei] using ht⟩
 | n+1,h,t,ht=>by
  rw[take_succ_eq_append_getElem (by omega)]at ht;have h2:2^(n+1)=2^n+2^n:=by rw[Nat.pow_succ];omega
  rcases MI ht with h1|⟨t',rfl,h1⟩
  ·obtain⟨b,hb,e⟩:=K0 s n (by omega) t h1;refine⟨b,by omega,?_⟩;rw[Hs,Nat.testBit_lt_two_pow hb,e];simp
  ·obtain⟨b,hb,e⟩:=K0 s n (by omega) t' h1;refine⟨2^n+b,by omega,?_⟩;rw[Hs,Nat.testBit_two_pow_add_eq,Nat.testBit_lt_two_pow hb,e];rw[Tq (b:=2^n+b) (b':=b) λk hk=>Nat.testBit_two_pow_add_gt hk b];simp[List.getD,show n<s.length by omega]
theorem TA(s:List Int)(n:Nat):Ei s 0 n=[]:=by simp[Ei]
theorem P7(H:SrtB all):t∈CO all s (2^s.length-1)<->t∈all\/(t≠[]/\t.Sublist s)\/(t=[]/\∃b,1<=b/\b<=2^s.length-1/\Ei s b s.length=[]):=by
 rw[HU H];constructor
 ·rintro(h|⟨b,h1,h2,rfl⟩)
  ·exact .inl h
  ·by_cases h3:Ei s b s.length=[]
   ·exact .inr (.inr ⟨h3,b,h1,h2,h3⟩)
   ·refine .inr (.inl ⟨h3,?_⟩);have:=N9 s b s.length (Nat.le_refl _)
    rwa [take_length]at this
 ·rintro(h|⟨h1,h2⟩|⟨rfl,b,h1,h2,h3⟩)
  ·exact .inl h
  ·obtain⟨b,hb,e⟩:=K0 s s.length (Nat.le_refl _) t (by rw[take_length];exact h2);refine .inr ⟨b,?_,by omega,e⟩;rcases Nat.eq_zero_or_pos b with rfl|h
   ·rw[TA]at e;exact absurd e h1
   ·exact h
  ·exact .inr ⟨b,h1,h2,h3.symm⟩
theorem W2(h1:1<=b)(h2:b<2^s.length):Ei s b s.length≠[]:=λh=>by
 have:b=0:=Nat.eq_of_testBit_eq λk=>by
  rw[Nat.zero_testBit];by_cases hk:k<s.length
  ·cases hb:b.testBit k with
   | false=>rfl
   | true=>
    have:s.getD k 0∈Ei s b s.length:=by unfold Ei;exact List.mem_map.2 ⟨k,List.mem_filter.2 ⟨List.mem_range.2 hk,hb⟩,Y⟩
    rw[h]at this;cases this
  ·exact Nat.testBit_lt_two_pow (Nat.lt_of_lt_of_le h2 (Nat.pow_le_pow_right (by decide) (by omega)))
 omega
theorem Wh{x:Int}(h:Z5 l)(hn:¬Lq x l):Z5 (JJ x l):=by
 unfold Lq at hn;unfold JJ
 have h1:∀y∈l.takeWhile (λy=>decide (y<x)),y<x:=λy hy=>by have:=List.all_eq_true.1 (List.all_takeWhile (p:=λy:Int=>decide (y<x)) (l:=l)) y hy;simpa using this
 have h2:∀l:List Int,Z5 l->(l.dropWhile λy=>decide (y<x)).head?≠some x->∀y∈l.dropWhile (λy=>decide (y<x)),x<y:=λl=>by
  induction l with
  | nil=>intro _ _ y hy;cases hy
  | cons a l ih=>
   intro hi hx y hy;rw[List.dropWhile_cons]at hy hx;split at hy
   ·rename_i g;rw[if_pos g]at hx;exact ih (List.pairwise_cons.1 hi).2 hx y hy
   ·rename_i g;rw[if_neg g]at hx;have g1:¬a<x:=by simpa using g
    have g2:a≠x:=by simpa using hx
    rcases List.mem_cons.1 hy with rfl|hy
    ·omega
    ·have:=(List.pairwise_cons.1 hi).1 y hy;omega
 have h3:=h2 l h hn;refine List.pairwise_append.2 ⟨h.sublist (List.takeWhile_sublist _),List.pairwise_cons.2 ⟨h3,h.sublist (List.dropWhile_sublist _)⟩,λa ha b hb=>?_⟩;have h4:=h1 a ha;rcases List.mem_cons.1 hb with rfl|hb
 ·exact h4
 ·have:=h3 b hb;omega
theorem Kk:∀(l acc:List Int) (s:List Int),Z5 acc->D6 acc l=some s->Z5 s
 | [],acc,s,h,e=>by have:acc=s:=Option.some.inj e;rw[<-this];exact h
 | x::l,acc,s,h,e=>by
  unfold D6 at e;split at e
  ·exact Kk l acc s h e
  ·rename_i hn;split at e
   ·cases e
   ·refine Kk l _ s ?_ e;exact Wh h hn
structure AllS(all:List (List Int)):Prop where
 srt:SrtB all
 inc:∀s∈all,Z5 s
 ne:∀s∈all,s≠[]
 sub:∀s∈all,∀t:List Int,t≠[]->t.Sublist s->t∈all
theorem AllS.faces(A:AllS all)(hs:Z5 s):AllS (CO all s (2^s.length-1)):=by
 have hm:∀t,t∈CO all s (2^s.length-1)<->t∈all\/(t≠[]/\t.Sublist s):=λt=>by
  rw[P7 A.srt];refine⟨λh=>?_,λh=>?_⟩
  ·rcases h with h|h|⟨_,b,h1,h2,h3⟩
   ·exact .inl h
   ·exact .inr h
   ·exact absurd h3 (W2 h1 (by have:=Nat.two_pow_pos s.length;omega))
  ·rcases h with h|h
   ·exact .inl h
   ·exact .inr (.inl h)
 refine⟨Eo A.srt s _,λt ht=>?_,λt ht=>?_,λt ht u hu hs=>?_⟩
 ·rcases (hm t).1 ht with h|h
  ·exact A.inc t h
  ·exact hs.sublist h.2
 ·rcases (hm t).1 ht with h|h
  ·exact A.ne t h
  ·exact h.1
 ·rw[hm];rcases (hm t).1 ht with h|h
  ·exact .inl (A.sub t h u hu hs)
  ·exact .inr ⟨hu,hs.trans h.2⟩
theorem LO:∀(ll:List (List Int)) (acc all:List (List Int)),AllS acc->Cz acc ll=some all->AllS all
 | [],acc,all,h,e=>by have:acc=all:=Option.some.inj e;rw[<-this];exact h
 | l::ll,acc,all,h,e=>by
  rw[DC]at e;split at e
  ·cases e
  ·refine LO ll _ all ?_ e;cases hs:D6 [] l with
   | none=>exact h
   | some s=>exact h.faces (Kk l [] s List.Pairwise.nil hs)
def nI(all:List (List Int))(t:List Int):Int:=((C4 all t).1:Int)+1
theorem AllS.nI_at(A:AllS all)(ht:t∈all):∃j,∃hj:j<all.length,all[j]=t/\nI all t=(j:Int)+1:=by obtain⟨j,hj,rfl⟩:=getElem_of_mem ht;exact⟨j,hj,Y,by unfold nI;rw[N5 A.srt hj]⟩
theorem AllS.nI_inj(A:AllS all){u:List Int}(ht:t∈all)(hu:u∈all)(e:nI all t=nI all u):t=u:=by
 obtain⟨j,hj,rfl,e1⟩:=A.nI_at ht;obtain⟨k,hk,rfl,e2⟩:=A.nI_at hu;have:j=k:=by omega
 subst this;rfl
def sk(k i:Nat):Nat:=if i<k then i else i+1
theorem GI(k i:Nat):(i<k/\sk k i=i)\/(k<=i/\sk k i=i+1):=by unfold sk;split<;>omega
theorem Mc(k i:Nat):sk k i≠k:=by unfold sk;split<;>omega
theorem AaU{i:Nat}(hi:i<n):sk k i<n+1:=by unfold sk;split<;>omega
theorem FU(l:List Int)(k i:Nat):(l.eraseIdx k)[i]?=l[sk k i]?:=by rw[List.getElem?_eraseIdx];unfold sk;split<;>rfl
def un(j k:Nat):Nat:=if k<j then k else k-1
theorem K8(j k:Nat):(k<j/\un j k=k)\/(j<=k/\un j k=k-1):=by unfold un;split<;>omega
theorem OM(h:j≠k):sk j (un j k)=k:=by have:=K8 j k;have:=GI j (un j k);omega
theorem RA(l:List Int):(l.eraseIdx k).eraseIdx m=(l.eraseIdx (sk k m)).eraseIdx (un (sk k m) k):=by refine List.ext_getElem? λi=>?_;rw[FU,FU,FU,FU];congr 1;have:=GI k m;have:=GI m i;have:=GI k (sk m i);have:=K8 (sk k m) k;have:=GI (un (sk k m) k) i;have:=GI (sk k m) (sk (un (sk k m) k) i);omega
theorem Vn(hn:l.Nodup)(hj:j<l.length):l[j]∈l.eraseIdx k<->j≠k:=by
 rw[List.mem_iff_getElem?];constructor
 ·rintro⟨i,h⟩ e;rw[FU]at h;obtain⟨h1,h2⟩:=List.getElem?_eq_some_iff.1 h;have:=Hn hn h1 hj h2;exact Mc k i (by omega)
 ·intro h;exact⟨un k j,by rw[FU,OM (Ne.symm h),List.getElem?_eq_getElem hj]⟩
theorem JU(hn:l.Nodup)(hj:j<l.length):l[j]∈(l.eraseIdx k).eraseIdx m<->j≠k/\j≠sk k m:=by
 rw[List.mem_iff_getElem?];constructor
 ·rintro⟨i,h⟩;rw[FU,FU]at h;obtain⟨h1,h2⟩:=List.getElem?_eq_some_iff.1 h;have:=Hn hn h1 hj h2;refine⟨λe=>Mc k (sk m i) (by omega),λe=>?_⟩;have h3:sk k (sk m i)=sk k m:=by omega
  have h4:=Mc m i;have:=GI k m;have:=GI k (sk m i);omega
 ·rintro⟨h1,h2⟩;have h3:m≠un k j:=λe=>h2 (by rw[e,OM (Ne.symm h1)]);exact⟨un m (un k j),by rw[FU,FU,OM h3,OM (Ne.symm h1),List.getElem?_eq_getElem hj]⟩
theorem Aan(hn:l.Nodup){a:Nat}(hl:l.length=n+1)(hk:k<n+1)(hm:m<n)(ha:a<n+1)(hb:b<n):(l.eraseIdx k).eraseIdx m=(l.eraseIdx a).eraseIdx b<->(k=a/\m=b)\/(k=sk a b/\m=un (sk a b) a):=by
 constructor
 ·intro h;have hab:=AaU (k:=a) hb
  have h1:¬(a≠k/\a≠sk k m):=λq=>by have:=(JU hn (k:=k) (m:=m) (show a<l.length by omega)).2 q;rw[h]at this;exact((JU hn (show a<l.length by omega)).1 this).1 Y
  have h2:¬(sk a b≠k/\sk a b≠sk k m):=λq=>by have:=(JU hn (k:=k) (m:=m) (show sk a b<l.length by omega)).2 q;rw[h]at this;exact((JU hn (show sk a b<l.length by omega)).1 this).2 Y
  have h3:=Mc a b;have:=GI k m;have:=GI a b;have:=K8 (sk a b) a;omega
 ·rintro(⟨rfl,rfl⟩|⟨rfl,rfl⟩)
  ·rfl
  ·exact(RA l).symm
def rs(n:Nat)(f:Nat->Int):Int:=((range n).map f).sum
theorem Mn(n:Nat)(f:Nat->Int):rs (n+1) f=rs n f+f n:=by unfold rs;rw[range_succ,map_append,List.sum_append];simp
theorem Rq(h:∀i,i<n->f i=0):rs n f=0:=by
 induction n with
 | zero=>rfl
 | succ n ih=>rw[Mn,ih λi hi=>h i (by omega),h n (by omega)];rfl
theorem MC(hk:k<n)(h:∀i,i<n->i≠k->f i=0):rs n f=f k:=by
 induction n with
 | zero=>omega
 | succ n ih=>
  rw[Mn];rcases (by omega:k=n\/k<n) with rfl|h1
  ·rw[Rq λi hi=>h i (by omega) (by omega),Int.zero_add]
  ·rw[ih h1 λi hi=>h i (by omega),h n (by omega) (by omega),Int.add_zero]
theorem Zo{k':Nat}(hk:k<n)(hk':k'<n)(hne:k≠k')(h:∀i,i<n->i≠k->i≠k'->f i=0):rs n f=f k+f k':=by
 induction n with
 | zero=>omega
 | succ n ih=>
  rw[Mn];rcases (by omega:k=n\/(k<n/\k'=n)\/(k<n/\k'<n)) with rfl|⟨h1,rfl⟩|⟨h1,h2⟩
  ·rw[MC (k:=k') (by omega) λi hi hn=>h i (by omega) (by omega) hn,Int.add_comm]
  ·rw[MC (k:=k) h1 λi hi hn=>h i (by omega) hn (by omega)]
  ·rw[ih h1 h2 λi hi=>h i (by omega),h n (by omega) (by omega) (by omega),Int.add_zero]
theorem OV{α:Type}(f:α->List Int):∀l:List α,(l.flatMap f).sum=(l.map λa=>(f a).sum).sum
 | []=>rfl
 | a::l=>by rw[List.flatMap_cons,List.sum_append,OV f l,map_cons,sum_cons]
def sg(k:Nat):Int:=1-2*((k:Int)%2)
theorem RO(k:Nat):sg (k+1)=- sg k:=by unfold sg;omega
theorem AaS(k:Nat):sg k=1\/sg k=-1:=by unfold sg;omega
def HQ(all:List (List Int))(t:List Int):List (Int×Int):=(range t.length).map λk=>(nI all (t.eraseIdx k),sg k)
def sc(all:List (List Int))(t:List Int):Cl:=⟨nI all t,(t.length:Int)-1,if t.length<=1 then [] else Cd (HQ all t)⟩
theorem PH(A:AllS all):(range all.length).map (DL all)=all.map (sc all):=by
 refine List.ext_getElem (by simp) λj h1 h2=>?_;have hj:j<all.length:=by simpa using h2
 rw[getElem_map,getElem_map,List.getElem_range];have e:all.getD j []=all[j]:=by simp[List.getD,hj]
 unfold DL sc;rw[e];unfold nI;rw[N5 A.srt hj];rfl
def Tn(all:List (List Int))(S:List Int)(n:Nat):Gd:=(range (n+1)).flatMap λk=>(range n).map λm=>(nI all (S.eraseIdx k),nI all ((S.eraseIdx k).eraseIdx m),sg k*sg m)
theorem OR(all:List (List Int))(S:List Int)(n:Nat)(g:Int×Int×Int->Int):((Tn all S n).map g).sum=rs (n+1) λk=>rs n λm=>g (nI all (S.eraseIdx k),nI all ((S.eraseIdx k).eraseIdx m),sg k*sg m):=by unfold Tn;rw[List.map_flatMap,OV];unfold rs;simp only[map_map];rfl
theorem V3(A:AllS all)(hS:S∈all)(hl:S.length=n+1)(hn:1<=n)(hk:k<n+1):S.eraseIdx k∈all:=by refine A.sub S hS _ (λe=>?_) (List.eraseIdx_sublist _ _);have:=congrArg List.length e;rw[List.length_eraseIdx,if_pos (by omega)]at this;simp at this;omega
theorem Nd(hl:S.length=n+1)(hk:k<n+1):(S.eraseIdx k).length=n:=by rw[List.length_eraseIdx,if_pos (by omega)];omega
theorem OK(A:AllS all)(hS:S∈all){a:Nat}(hl:S.length=n+1)(hn:2<=n)(ha:a<n+1)(hb:b<n)(w:Nat->Nat->Int):(rs (n+1) λk=>rs n λm=>if nI all ((S.eraseIdx k).eraseIdx m)=nI all ((S.eraseIdx a).eraseIdx b) then w k m else 0)=w a b+w (sk a b) (un (sk a b) a):=by
 have hnd:S.Nodup:=(A.inc S hS).imp λh e=>by omega
 have hin:∀k m,k<n+1->m<n->(S.eraseIdx k).eraseIdx m∈all:=λk m hk hm=>by
  obtain⟨n',rfl⟩:∃n',n=n'+1:=⟨n-1,by omega⟩
  exact V3 A (V3 A hS hl (by omega) hk) (Nd hl hk) (by omega) hm
 have hiff:∀k m,k<n+1->m<n->(nI all ((S.eraseIdx k).eraseIdx m)=nI all ((S.eraseIdx a).eraseIdx b)<->(k=a/\m=b)\/(k=sk a b/\m=un (sk a b) a)):=λk m hk hm=>by rw[<-Aan hnd hl hk hm ha hb];exact⟨λh=>A.nI_inj (hin k m hk hm) (hin a b ha hb) h,λh=>by rw[h]⟩
 have h1:=Mc a b;have h2:=GI a b;have h3:=K8 (sk a b) a
 rw[Zo (k:=a) (k':=sk a b) ha (by omega) (Ne.symm h1) λk hk q1 q2=>Rq λm hm=>if_neg λq=>by
  rcases (hiff k m hk hm).1 q with q|q
  ·exact q1 q.1
  ·exact q2 q.1]
 rw[MC (k:=b) hb λm hm q=>if_neg λq'=>by
   rcases (hiff a m ha hm).1 q' with q'|q'
   ·exact q q'.2
   ·exact h1 q'.1.symm,if_pos Y,
  MC (k:=un (sk a b) a) (by omega) λm hm q=>if_neg λq'=>by
   rcases (hiff (sk a b) m (by omega) hm).1 q' with q'|q'
   ·exact h1 q'.1
   ·exact q q'.2,if_pos ((hiff _ _ (by omega) (by omega)).2 (.inr ⟨Y,Y⟩))]
theorem Oj{e:Int×Int×Int}(h:e∈Tn all S n):∃k m,k<n+1/\m<n/\e=(nI all (S.eraseIdx k),nI all ((S.eraseIdx k).eraseIdx m),sg k*sg m):=by obtain⟨k,hk,h1⟩:=List.mem_flatMap.1 h;obtain⟨m,hm,rfl⟩:=List.mem_map.1 h1;exact⟨k,m,List.mem_range.1 hk,List.mem_range.1 hm,Y⟩
theorem OB(hk:k<n+1)(hm:m<n):(nI all (S.eraseIdx k),nI all ((S.eraseIdx k).eraseIdx m),sg k*sg m)∈Tn all S n:=List.mem_flatMap.2 ⟨k,List.mem_range.2 hk,List.mem_map.2 ⟨m,List.mem_range.2 hm,rfl⟩⟩
theorem Si(A:AllS all)(hS:S∈all)(hl:S.length=n+1)(hn:2<=n):GoodT (Tn all S n) (HQ all S) where
 sum:=λe he=>by
  obtain⟨a,b,ha,hb,rfl⟩:=Oj he;unfold Eb;rw[OR];refine(OK A hS hl hn ha hb λk m=>sg k*sg m).trans ?_;have h1:=Mc a b;have h2:=GI a b;have h3:=K8 (sk a b) a;rcases h2 with ⟨h4,h5⟩|⟨h4,h5⟩
  ·rw[h5]at h3 ⊢;obtain⟨c,rfl⟩:∃c,a=c+1:=⟨a-1,by omega⟩
   rw[show un b (c+1)=c by omega,RO,Int.neg_mul,Int.mul_comm (sg b)];omega
  ·rw[h5]at h3 ⊢;rw[show un (b+1) a=a by omega,RO,Int.neg_mul,Int.mul_comm (sg b)];omega
 two:=λe he=>by obtain⟨a,b,ha,hb,rfl⟩:=Oj he;unfold Fq;rw[OR];exact OK A hS hl hn ha hb λk m=>1
 con:=λa ha b hb=>by
  unfold HQ at ha hb;obtain⟨k,hk,rfl⟩:=List.mem_map.1 ha;obtain⟨k',hk',rfl⟩:=List.mem_map.1 hb;have hk:=List.mem_range.1 hk;have hk':=List.mem_range.1 hk';show Con _ (nI all (S.eraseIdx k)) (nI all (S.eraseIdx k'));by_cases e:k=k'
  ·subst e;exact .refl _
  ·have h1:=K8 k k';have h2:=K8 k' k
   have h3:(S.eraseIdx k).eraseIdx (un k k')=(S.eraseIdx k').eraseIdx (un k' k):=by rw[RA S (k:=k) (m:=un k k'),OM e]
   have m1:=OB (all:=all) (S:=S) (n:=n) (k:=k) (m:=un k k') (by omega) (by omega);have m2:=OB (all:=all) (S:=S) (n:=n) (k:=k') (m:=un k' k) (by omega) (by omega);rw[h3]at m1;exact .step (.refl _) m1 m2
theorem AllS.nil:AllS []:=⟨List.Pairwise.nil,nofun,nofun,nofun⟩
theorem V2(ll:List (List Int)):Rgt (Eg ll):=by
 have hbd:=U1 ll;unfold Eg at *;cases h:Cz [] ll with
 | none=>exact Rgt.nil
 | some all=>
  rw[h]at hbd;have A:=LO ll [] all AllS.nil h;have h9:=E1 ll [] all List.Pairwise.nil (λt ht=>nomatch ht) h;show Rgt ((range all.length).map (DL all));have hbd1:((range all.length).map (DL all)).length<=4000:=hbd.1;rw[PH A]at hbd1 ⊢
  have hlen:∀t∈all,1<=t.length:=λt ht=>by
   have:=A.ne t ht;cases t with
   | nil=>exact absurd Y this
   | cons a t=>simp
  have hnd:((all.map (sc all)).map Cl.id).Nodup:=by rw[map_map];refine List.pairwise_map.2 ((A.srt.imp λ{a b} h e=>?_:all.Pairwise (·≠·)).imp_of_mem λ{a b} ha hb hne e=>hne (A.nI_inj ha hb e));rw[e,GU]at h;cases h
  have hcel:∀t∈all,FZ (all.map (sc all)) (nI all t)=sc all t:=λt ht=>CS hnd (List.mem_map.2 ⟨t,ht,Y⟩);have hsd:∀t∈all,2<=t.length->(sc all t).sd=Cd (HQ all t):=λt _ h=>if_neg (by omega);have hraw:∀t:List Int,(HQ all t).length=t.length:=λt=>by simp[HQ]
  have hside:∀t∈all,∀s∈(sc all t).sd,∃k,k<t.length/\2<=t.length/\s=(nI all (t.eraseIdx k),sg k):=λt ht s hs=>by
   by_cases h2:2<=t.length
   ·rw[hsd t ht h2]at hs;have hs:=(BY _).mem_iff.1 hs;unfold HQ at hs;obtain⟨k,hk,rfl⟩:=List.mem_map.1 hs;exact⟨k,List.mem_range.1 hk,h2,Y⟩
   ·have:(sc all t).sd=[]:=if_pos (by omega);rw[this]at hs;cases hs
  have hin:∀t∈all,2<=t.length->∀k,k<t.length->t.eraseIdx k∈all:=λt ht h2 k hk=>V3 A ht (n:=t.length-1) (by omega) (by omega) (by omega);refine⟨hbd1,hnd,λx hx=>?_,λx hx=>?_,λx hx=>?_,λx hx=>?_,λx hx s hs=>?_,λx hx s hs=>?_,λx hx hd=>?_,λx hx hd=>?_⟩<;>obtain⟨t,ht,rfl⟩:=List.mem_map.1 hx<;>have hl1:=hlen t ht<;>have hl9:=h9 t ht
  ·show 1<=nI all t;unfold nI;omega
  ·show 0<=(t.length:Int)-1/\(t.length:Int)-1<=8;omega
  ·unfold B0;show ¬(((t.length:Int)-1=0/\0<(sc all t).sd.length)\/((t.length:Int)-1=1/\(sc all t).sd.length≠2)\/(1<(t.length:Int)-1/\((sc all t).sd.length<2\/64<(sc all t).sd.length)));by_cases h2:2<=t.length
   ·rw[hsd t ht h2,Gm,hraw];omega
   ·have:(sc all t).sd=[]:=if_pos (by omega);rw[this];simp;omega
  ·by_cases h2:2<=t.length
   ·rw[hsd t ht h2,((BY (HQ all t)).map Prod.fst).nodup_iff];unfold HQ;rw[map_map];refine List.pairwise_map.2 ((List.nodup_range (n:=t.length)).imp_of_mem λ{a b} ha hb hne e=>hne ?_);have ha:=List.mem_range.1 ha;have hb:=List.mem_range.1 hb;have e:=A.nI_inj (hin t ht h2 a ha) (hin t ht h2 b hb) e;have hnd:t.Nodup:=(A.inc t ht).imp λh e=>by omega
    have h3:t[a] ∉ t.eraseIdx a:=λq=>(Vn hnd ha).1 q Y;rw[e,Vn hnd ha]at h3;exact Classical.not_not.1 h3
   ·have:(sc all t).sd=[]:=if_pos (by omega);rw[this];simp
  ·obtain⟨k,hk,h2,rfl⟩:=hside t ht s hs;refine⟨_,List.mem_map.2 ⟨_,hin t ht h2 k hk,Y⟩,Y,?_⟩;show((t.eraseIdx k).length:Int)-1=(t.length:Int)-1-1;rw[Nd (n:=t.length-1) (by omega) (by omega)];omega
  ·obtain⟨k,hk,h2,rfl⟩:=hside t ht s hs;exact AaS k
  ·have hd:(t.length:Int)-1=1:=hd;have h2:t.length=2:=by omega
   rw[hsd t ht (by omega),Ir ((BY (HQ all t)).map Prod.snd)];unfold HQ;rw[h2];rfl
  ·have hd:2<=(t.length:Int)-1:=hd;obtain⟨n,hl⟩:∃n,t.length=n+1:=⟨t.length-1,by omega⟩
   have h2:2<=t.length:=by omega
   refine(Si A ht hl (by omega)).perm ?_ (by rw[hsd t ht h2];exact(BY _).symm);unfold Fy;rw[hsd t ht h2]
   have e:Tn all t n=Kh (λc=>if c=0 then [] else HQ all (all.getD (c-1).toNat [])) (HQ all t):=by
    unfold Kh HQ;rw[List.flatMap_map,hl];refine DW λk hk=>?_;have hk:=List.mem_range.1 hk;obtain⟨j,hj,e1,e2⟩:=A.nI_at (hin t ht h2 k (by omega));show _=List.map _ (if nI all (t.eraseIdx k)=0 then [] else _);rw[if_neg (by omega)]
    have e3:all.getD (nI all (t.eraseIdx k)-1).toNat []=t.eraseIdx k:=by rw[e2,show(((j:Int)+1)-1).toNat=j by omega];simp[List.getD,hj,e1]
    rw[e3,map_map,Nd hl (by omega)];rfl
   rw[e];refine IJ (BY _).symm λs hs=>List.Perm.map _ ?_;unfold HQ at hs;obtain⟨k,hk,rfl⟩:=List.mem_map.1 hs;have hk:=List.mem_range.1 hk;obtain⟨j,hj,e1,e2⟩:=A.nI_at (hin t ht h2 k hk);show List.Perm (if nI all (t.eraseIdx k)=0 then [] else _) (FZ (all.map (sc all)) (nI all (t.eraseIdx k))).sd;rw[if_neg (by omega),hcel _ (hin t ht h2 k hk)]
   have e3:all.getD (nI all (t.eraseIdx k)-1).toNat []=t.eraseIdx k:=by rw[e2,show(((j:Int)+1)-1).toNat=j by omega];simp[List.getD,hj,e1]
   rw[e3,hsd _ (hin t ht h2 k hk) (by rw[Nd hl (by omega)];omega)];exact(BY _).symm
theorem XE(ll:List (List Int)):∀x∈Eg ll,x.id<=(Eg ll).length:=by
 unfold Eg;cases h:Cz [] ll with
 | none=>nofun
 | some all=>
  intro x hx;obtain⟨i,hi,rfl⟩:=List.mem_map.1 hx;have hi:=List.mem_range.1 hi;show(i:Int)+1<=(((range all.length).map (DL all)).length:Nat);rw[length_map,length_range];omega
end Go.Proofs.Q

namespace Go.Proofs.Q
open Go.Eng Go.RowKit
def RX(l:List Cl):List Cl:=l.map Cl.can
structure AaX(o:List Cl):Prop where
 n:o.length<=4000
 inc:o.Pairwise λa b=>a.id<b.id
 pos:∀x∈o,1<=x.id
 fst:∀x∈o,Cr o x=0
 snd:∀x∈o,2<=x.dim->DP o x=0
theorem PQ{l:List Cl}(B:AaX (RX l)):Rgt l:=by
 have R:RgtF (RX l):=⟨B.n,B.inc,B.pos,λx hx=>by obtain⟨y,_,rfl⟩:=List.mem_map.1 hx;exact⟨y,Y⟩,B.fst,B.snd⟩
 refine R.rgt.sim ⟨by unfold RX;rw[length_map],by unfold RX;rw[map_map];exact List.Perm.refl _,λx hx=>⟨x.can,List.mem_map.2 ⟨x,hx,Y⟩,Y,Y,(BY _).symm⟩⟩
instance (x:Cl):DecidablePred (CF [] x):=λi=>inferInstance
open Go.ChangeShapes Go.WideShapes Go.ChangeAt Go.Deep
theorem own:ownKnob Tryz.prog.godebug=none:=by kernel_rfl
theorem Z1{w w':World}(E:Ext w w'):Below w.heap.size w w':=⟨E.os,E.tape.tape,E.output,E.size,E.block⟩
theorem MQ:laidOutB Tryz.prog=true:=by kernel_rfl
section
variable {H:Type} {enc:TypeId×Value->H} {w:World} {base:Nat} {spare:Nat->Bool} {held:Bool}
theorem Jd(n:Nat)(cs:List Value)(y:DataW H×List MemPlace)(h:DataW.trod enc Tryz.prog w base spare held n 3 cs=some y):∃a,cs=cI a/\BP a:=by obtain⟨b,h1,_,h2⟩:=DataW.trod_int U3 h;exact⟨b,h1,bounds_i64 h2⟩
theorem Ry{v:Value}{fuel:Nat}{x:DataW H×List MemPlace}(h:DataW.trod enc Tryz.prog w base spare held fuel 22 [v]=some x):∃l,RdL cI 1 (whole w) [] v l/\∀a∈l,BP a:=
 Oz A0 (by kernel_rfl) Bl (by decide) Jd h
end
end Go.Proofs.Q

namespace Go.Proofs.YtodheebhahdepaaGreatDoor
open Go Go.ChangeShapes Go.WideShapes Go.ChangeAt Go.RowKit Go.Proofs.Q

theorem R6:(Rows.filterLevelsRow.inPlace==Tryz.prog.inPlace 8)=true:=by kernel_rfl
theorem Ty:(Rows.filterLevelsRow.unfollowed==Tryz.prog.unfollowed 8)=true:=by kernel_rfl
theorem Ti:(Rows.filterLevelsRow.recurses==Tryz.prog.recurses 8)=true:=by kernel_rfl
theorem SK:(Rows.filterLevelsRow.named==Tryz.prog.varsNamed 8)=true:=by kernel_rfl

theorem Sp:false=Tryz.prog.looks []:=by kernel_rfl
theorem levels_g2:Tryz.prog.funcNamed "cocycle/cocyclelaw20.FilterLevels" = some 8:=by kernel_rfl
theorem Tk:false=Rows.filterLevelsRow.goesBy Tryz.prog:=by kernel_rfl
end Go.Proofs.YtodheebhahdepaaGreatDoor

namespace Go.Proofs.Q
open Go.Eng Go.RowKit
theorem Rgt.union{a b:List Cl}(A:Rgt a)(B:Rgt b)(hd:∀x∈a,∀y∈b,x.id≠y.id)(hn:a.length+b.length<=4000):Rgt (a++b):=by
 have hnd:((a++b).map Cl.id).Nodup:=by rw[map_append];refine List.nodup_append.2 ⟨A.nd,B.nd,λx hx y hy=>?_⟩;obtain⟨c,hc,rfl⟩:=List.mem_map.1 hx;obtain⟨e,he,rfl⟩:=List.mem_map.1 hy;exact hd c hc e he
 have tb:∀(o:List Cl) (R:Rgt o),(∀x∈o,x∈a++b)->∀x∈o,Fy (a++b) x=Fy o x:=λo R hs x hx=>by
  unfold Fy Kh;refine DW λs hs'=>?_;obtain⟨y,hy,e1,_⟩:=R.sid x hx s hs';have h1:FZ (a++b) s.1=FZ o s.1:=by rw[<-e1,CS hnd (hs y hy),CS R.nd hy]
  simp only[h1]
 have ta:=tb a A λx hx=>List.mem_append.2 (.inl hx);have tb:=tb b B λx hx=>List.mem_append.2 (.inr hx);refine⟨by rw[length_append];exact hn,hnd,λx hx=>?_,λx hx=>?_,λx hx=>?_,λx hx=>?_,λx hx s hs=>?_,λx hx=>?_,λx hx=>?_,λx hx hd=>?_⟩<;>rcases List.mem_append.1 hx with h|h
 ·exact A.pos x h
 ·exact B.pos x h
 ·exact A.dim x h
 ·exact B.dim x h
 ·exact A.num x h
 ·exact B.num x h
 ·exact A.sds x h
 ·exact B.sds x h
 ·obtain⟨y,hy,e⟩:=A.sid x h s hs;exact⟨y,List.mem_append.2 (.inl hy),e⟩
 ·obtain⟨y,hy,e⟩:=B.sid x h s hs;exact⟨y,List.mem_append.2 (.inr hy),e⟩
 ·exact A.sgn x h
 ·exact B.sgn x h
 ·exact A.one x h
 ·exact B.one x h
 ·rw[ta x h];exact A.tab x h hd
 ·rw[tb x h];exact B.tab x h hd
def Ws(m:Int)(c:Cl):Cl:=⟨c.id+m,c.dim,c.sd.map λs=>(s.1+m,s.2)⟩
theorem Rgt.shift{l:List Cl}(R:Rgt l){m:Int}(hm:0<=m):Rgt (l.map (Ws m)):=by
 have hnd:((l.map (Ws m)).map Cl.id).Nodup:=by rw[map_map];have:=List.pairwise_map.1 R.nd;refine List.pairwise_map.2 (this.imp_of_mem λ{a b} ha hb hne e=>hne ?_);have e:a.id+m=b.id+m:=e;omega
 refine⟨by rw[length_map];exact R.n,hnd,λx' hx'=>?_,λx' hx'=>?_,λx' hx'=>?_,λx' hx'=>?_,λx' hx' s' hs'=>?_,λx' hx' s' hs'=>?_,λx' hx' hd=>?_,λx' hx' hd=>?_⟩<;>obtain⟨x,hx,rfl⟩:=List.mem_map.1 hx'
 ·have:=R.pos x hx;show 1<=x.id+m;omega
 ·exact R.dim x hx
 ·have:=R.num x hx;unfold B0 at *;show ¬((x.dim=0/\0<(x.sd.map _).length)\/(x.dim=1/\(x.sd.map _).length≠2)\/(1<x.dim/\((x.sd.map _).length<2\/64<(x.sd.map _).length)));rw[length_map];exact this
 ·show((x.sd.map _).map Prod.fst).Nodup;rw[map_map];have:=List.pairwise_map.1 (R.sds x hx);refine List.pairwise_map.2 (this.imp λ{a b} hne e=>hne ?_);have e:a.1+m=b.1+m:=e;omega
 ·obtain⟨s,hs,rfl⟩:=List.mem_map.1 hs';obtain⟨y,hy,e1,e2⟩:=R.sid x hx s hs;exact⟨_,List.mem_map.2 ⟨y,hy,Y⟩,by show y.id+m=s.1+m;rw[e1],e2⟩
 ·obtain⟨s,hs,rfl⟩:=List.mem_map.1 hs';exact R.sgn x hx s hs
 ·have h1:=R.one x hx hd;show((x.sd.map _).map Prod.snd).sum=0;rw[map_map];exact h1
 ·have hd:2<=x.dim:=hd
  have hT:Fy (l.map (Ws m)) (Ws m x)=(Fy l x).map λe=>(e.1+m,e.2.1+m,1*e.2.2):=by
   unfold Fy Kh;show(x.sd.map _).flatMap _=_;rw[List.flatMap_map,List.map_flatMap];refine DW λs hs=>?_;obtain⟨y,hy,e1,e2⟩:=R.sid x hx s hs
   have h1:FZ (l.map (Ws m)) (s.1+m)=Ws m y:=by rw[<-e1];exact CS hnd (List.mem_map.2 ⟨y,hy,Y⟩)
   have h2:FZ l s.1=y:=by rw[<-e1];exact CS R.nd hy
   show List.map (λr=>(s.1+m,r.1,s.2*r.2)) (FZ (l.map (Ws m)) (s.1+m)).sd=List.map _ (List.map (λr=>(s.1,r.1,s.2*r.2)) (FZ l s.1).sd);rw[h1,h2,map_map];show List.map _ (y.sd.map _)=_;rw[map_map];exact List.map_congr_left λr _=>by simp
  rw[hT]
  exact(R.tab x hx hd).ren (λc=>c+m) (λ_=>1) (λe _ e' _ h=>by have h:e.2.1+m=e'.2.1+m:=h;omega) λa ha=>by obtain⟨s,hs,rfl⟩:=List.mem_map.1 ha;exact⟨s,hs,Y⟩
def Ix(o:List Cl):List Int:=(o.filter λx=>!(o.any λy=>y.sd.any λs=>decide (s.1=x.id))).map Cl.id
theorem UM{o:List Cl}{c:Int}(h:c∈Ix o):∀y∈o,∀s∈y.sd,s.1≠c:=by
 unfold Ix at h;obtain⟨x,hx,rfl⟩:=List.mem_map.1 h;obtain⟨_,h2⟩:=List.mem_filter.1 hx;intro y hy s hs e;have h2:(o.any λy=>y.sd.any λs=>decide (s.1=x.id))=false:=by simpa using h2
 have h3:=List.any_eq_false.1 h2 y hy;exact h3 (List.any_eq_true.2 ⟨s,hs,decide_eq_true e⟩)
theorem Rgt.gone{l:List Cl}(R:Rgt l){c:Int}(h:∀y∈l,∀s∈y.sd,s.1≠c):Rgt (l.filter λx=>decide (x.id≠c)):=
 R.filt λx hx _ s hs y hy e=>decide_eq_true (by rw[e];exact h x hx s hs)
theorem Xz{o:List Cl}(R:Rgt o)(h:o≠[]):Ix o≠[]:=by
 -- a cell of the greatest dimension
 obtain⟨x,hx,hm⟩:∃x∈o,∀y∈o,y.dim<=x.dim:=by
  have:∀l:List Cl,l≠[]->∃x∈l,∀y∈l,y.dim<=x.dim:=λl=>by
   induction l with
   | nil=>intro h;exact absurd Y h
   | cons a l ih=>
    intro _;by_cases hl:l=[]
    ·subst hl;exact⟨a,Mh,λy hy=>by rw[List.mem_singleton.1 hy];exact Int.le_refl _⟩
    ·obtain⟨x,hx,hm⟩:=ih hl;by_cases ha:a.dim<=x.dim
     ·exact⟨x,mem_cons_of_mem _ hx,λy hy=>by
       rcases List.mem_cons.1 hy with rfl|h
       ·exact ha
       ·exact hm y h⟩
     ·exact⟨a,Mh,λy hy=>by
       rcases List.mem_cons.1 hy with rfl|h
       ·exact Int.le_refl _
       ·have:=hm y h;omega⟩
  exact this o h
 refine List.ne_nil_of_mem (a:=x.id) (List.mem_map.2 ⟨x,List.mem_filter.2 ⟨hx,?_⟩,Y⟩)
 have:(o.any λy=>y.sd.any λs=>decide (s.1=x.id))=false:=List.any_eq_false.2 λy hy q=>by
  obtain⟨s,hs,e⟩:=List.any_eq_true.1 q;obtain⟨z,hz,e1,e2⟩:=R.sid y hy s hs
  have:z=x:=by have h1:=Dh R.nd hz;have h2:=Dh R.nd hx;rw[e1,of_decide_eq_true e,h2]at h1;exact(Option.some.inj h1).symm
  subst this;have:=hm y hy;omega
 rw[this];rfl
def TD(x:Int):Int×Int:=if x<0 then(-x,-1) else(x,1)
def Tj(k:Nat)(r:List Int):Cl:=⟨(k:Int)+1,r.headD 0,r.tail.map TD⟩
def Oh(L:List (List Int)):List Cl:=(range L.length).map λk=>Tj k (L.getD k [])
def Kn(n:Nat):List Int:=if n=1 then [1,-1,2] else if n%2=0 then [(n:Int),2*n-1,-(2*n)] else [(n:Int),-(2*n-1),2*n]
def Lu(n:Nat):List (List Int):=[[0],[0]]++(range n).flatMap λk=>[Kn (k+1),Kn (k+1)]
def P0(n:Nat):List (List Int):=([[0],[0],[0],[0],[1,-2,3],[1,-3,4],[1,-4,2]]:List (List Int))++((range (3*n)).map λ(k:Nat)=>[(1:Int),-1,2+((k%3:Nat):Int)])++(range (3*n)).map λ(k:Nat)=>[(2:Int),8+(k:Int),5+((k%3:Nat):Int),-(8+(((k+1)%(3*n):Nat):Int))]
def Zv:List (List Int):=[[0],[0],[0],[1,-1,2],[1,-1,2],[1,-2,3],[1,-2,3],[1,-1,3],[1,-1,3],[2,4,6,-8],[2,4,7,-9],[2,5,6,-9],[2,5,7,-8]]
def Zc:List (List Int):=[[0],[0],[0],[0],[1,-1,2],[1,-1,2],[1,-3,4],[1,-3,4],[1,-1,3],[1,-2,4],[1,-3,1],[1,-4,2],[2,5,10,-7,-9],[2,6,10,-8,-9],[2,7,12,-6,-11],[2,8,12,-5,-11]]
def Zs:List (List Int):=[[0],[0],[0],[0],[1,-1,2],[1,-1,2],[1,-3,4],[1,-3,4],[1,-1,3],[1,-2,4],[1,-3,1],[1,-4,2],[2,5,10,-7,-9],[2,6,10,-8,-9],[2,7,12,-5,-11],[2,8,12,-6,-11]]
def E5(n:Nat):List (List Int):=
 if n=0 then [[0]] else if n<=3 then Lu n else if n=4 then Lu 0 else if n=5 then Zv else if n=6 then P0 3 else if n=7 then Zc else if n=8 then Zs else P0 4
theorem Abb(n:Nat)(h:n<10):AaX (RX (Oh (E5 n))):=by rcases (by omega:n=0\/n=1\/n=2\/n=3\/n=4\/n=5\/n=6\/n=7\/n=8\/n=9) with rfl|rfl|rfl|rfl|rfl|rfl|rfl|rfl|rfl|rfl<;>exact⟨by decide,by decide,by decide,by decide +kernel,by decide +kernel⟩
theorem MK(n:Nat)(h:n<10):Rgt (Oh (E5 n)):=PQ (Abb n h)
theorem MT(L:List (List Int)):(Oh L).length=L.length:=by simp[Oh]
theorem JL(n:Nat)(h:n<10):(E5 n).length<=31/\(n<5->(E5 n).length<=8):=by rcases (by omega:n=0\/n=1\/n=2\/n=3\/n=4\/n=5\/n=6\/n=7\/n=8\/n=9) with rfl|rfl|rfl|rfl|rfl|rfl|rfl|rfl|rfl|rfl<;>decide
theorem KE{L:List (List Int)}:∀x∈Oh L,1<=x.id/\x.id<=L.length:=λx hx=>by obtain⟨k,hk,rfl⟩:=List.mem_map.1 hx;have:=List.mem_range.1 hk;show 1<=(k:Int)+1/\(k:Int)+1<=_;omega
open Go.Proofs.Tryz
theorem N3(id dim:Int)(sd:List Int)(v:Value)(hp:Hp)(hR:RdL cI 1 hp [] v sd)(hb:∀x∈sd,-1000000<=x/\x<=1000000)(hn:sd.length<=1000):FnT Tryz.prog 176 #[.int .i64 id,.int .i64 dim,v] hp [] (λr h' ms'=>hp=h'/\∃vs m,ms'=[m]/\r=.agg #[.int .i64 id,.int .i64 dim,vs]/\OwnL cD 2 119 m vs (sd.map TD)):=by
 have ov:=hR.rd.one;refine Av func176 ntmps176 Y Y (λw0 hw0=>?_);simp only[A3];refine Aw (By [.int .i64 0,.int .i64 0,.slice none 0 0] Y AL Y Y (λg6=>BN (Qm Y (Qm Y (Qx (Bm Uo [.int .i64 0,.int .i64 0,.slice none 0 0] [(0,_),(1,_)] [_,_,_] Y AL Y Y Qt Y) Y (By [.int .i64 0,.int .i64 0,.slice none 0 0] Y AL Y Y (λg7=>?_)))))));refine Sa 0 [_,_,_] AL Y (by simp[Value.oneCell']) ?_;refine Ap (BO (Ac (Aw (Qm Y (Ap (Ah ?_))))))
 refine AD (λq sl h' ms'=>∃(i:Nat) (vs:Value) (m:Hp),q=sd.length-i/\sl=[(2,v),(6,.pointer (some ⟨g6,0,none⟩)),(7,.pointer (some ⟨g7,0,none⟩)),(8,.int .i64 i)]/\hp=h'/\ms'=[m,Bw g7 52 [.int .i64 id,.int .i64 dim,vs],Bw g6 52 [.int .i64 0,.int .i64 0,.slice none 0 0]]/\i<=sd.length/\OwnL cD 2 119 m vs ((sd.take i).map TD))
  (sd.length-0) _ ⟨0,_,Hp.emp,rfl,rfl,rfl,rfl,by omega,OwnL.nil Ek⟩ Qs ?_
 rintro q sl h' ms' ⟨i,vs,m,rfl,rfl,rfl,rfl,hi,hO⟩;have ovs:=hO.o1;refine Ac (Aw (Qm Y (Qm Y (Qx (As hR.rd.any Y A0 Y) Y (Qm Y (Ap ?_))))));refine Ax Y (λhlt=>?_) (λhlt=>?_)
 ·have hil:i<sd.length:=by omega
  obtain⟨x,hx⟩:∃x,sd[i]=x:=⟨_,Y⟩
  have hxb:=hb x (by rw[<-hx];exact getElem_mem hil);have cx:∀ms,Cell hp ms ((AJ v).add (i*1)) (.int .i64 x):=λms=>by rw[<-hx];exact(hR.any (ms:=ms)).cell0 hil Y
  have hll:((sd.take i).map TD).length<=1000:=by rw[length_map,length_take];omega
  have hs:((sd.take (i+1)).map TD)=((sd.take i).map TD)++[TD x]:=by rw[take_succ_eq_append_getElem hil,map_append,hx];rfl
  refine Aj (Ab (Ac (Ah (Aw (Qm Y (Qm Y (Qx (BH (i) hR.rd.any Y A0 Ba Y Y) Y (Ql Y U3 (cx _) (Qx (Bm Vw [.int .i64 0,.int .i64 0] [(0,_),(1,_)] [_,_] Y AQ Y Y Qt Y) Y (By [.int .i64 0,.int .i64 0] Y AQ Y Y (λg9=>?_)))))))))));refine Sa 0 [_,_] AQ Y (by simp[Value.oneCell']) ?_;refine Ap (Ac (Aw (Qm Y (Qm Y (Qx (BH (i) hR.rd.any Y A0 Ba Y Y) Y (Ql Y U3 (cx _) (Qm Y (Ap ?_))))))));refine Ax Y (λhneg=>?_) (λhneg=>?_)
  ·refine Ad (Qm Y (Qm Y (Qx (BH (i) hR.rd.any Y A0 Ba Y Y) Y (Ql Y U3 (cx _) (Qx (MH Y Y (by omega)) Y (Qx (Bm Vw [.int .i64 0,.int .i64 0] [(0,_),(1,_)] [_,_] Y AQ Y Y Qt Y) Y ?_))))));refine Sa 0 [_,_] AQ Y (by simp[Value.oneCell']) ?_;refine GH (Qf Bs Y (Ql Y BQ (Cell.blk 2 Y Y) (Qx (oG Y Du AQ (Seg.blk 0 Y)) Y (Ar [_,_] Y BQ AQ Y (by rfl) Y Y (by omega) Y Y Y (λg38=>AZ 2 hO (RdL.one Ek (x:=(-x,-1)) Mh Y) Y BQ AQ Y (by omega) Y Y Y Gx (by(try simp only[length_singleton]);omega) (by(try simp only[length_singleton]);omega) rfl rfl rfl (λv9 m9 hO9=>?_))))));have hs':TD x=(-x,-1):=by unfold TD;rw[if_pos hneg]
   rw[<-hs',<-hs]at hO9;have ov9:=hO9.o1;refine Qf Bs Y ?_;refine Af 3 _ Y Sq Y Y (by assumption) Y Y (by(simp;done)) rfl rfl ?_;refine An (Ak (Ab (Ad (Qm Y (Qx (oA Y) Y (Qm Y (An (Bd 0 Y (Bd 0 Y ?_)))))))));exact Am (sd.length-(i+1)) _ (by omega) ⟨i+1,v9,m9,Y,Y,Y,Y,by omega,hO9⟩ Qs
  ·refine Aj (Ab (Ad (Qf Bs Y (Ql Y BQ (Cell.blk 2 Y Y) (Qx (oG Y Du AQ (Seg.blk 0 Y)) Y (Ar [_,_] Y BQ AQ Y (by rfl) Y Y (by omega) Y Y Y (λg38=>AZ 2 hO (RdL.one Ek (x:=(x,1)) Mh Y) Y BQ AQ Y (by omega) Y Y Y Gx (by(try simp only[length_singleton]);omega) (by(try simp only[length_singleton]);omega) rfl rfl rfl (λv9 m9 hO9=>?_))))))));have hs':TD x=(x,1):=by unfold TD;rw[if_neg hneg]
   rw[<-hs',<-hs]at hO9;have ov9:=hO9.o1;refine Qf Bs Y ?_;refine Af 3 _ Y Sq Y Y (by assumption) Y Y (by(simp;done)) rfl rfl ?_;refine An (Ak (Ab (Ad (Qm Y (Qx (oA Y) Y (Qm Y (An (Bd 0 Y (Bd 0 Y ?_)))))))));exact Am (sd.length-(i+1)) _ (by omega) ⟨i+1,v9,m9,Y,Y,Y,Y,by omega,hO9⟩ Qs
 ·obtain rfl:i=sd.length:=by omega
  refine Ay (Aa (Aa (Ag (Ab (Aw (Qx (oG Y D1 AL (Seg.blk 1 Y)) Y ?_))))));refine Sa 2 [_,_,_] AL Y (by simp[ov,ovs]) ?_;refine Ap (Aq (Bd 1 Y ?_));exact BB (vs:=[_,_,_]) 1 Y Y D1 Y AL Y Y (⟨Y,vs,m,Y,Y,by rw[take_length]at hO;exact hO⟩)
theorem KR(L:List (List Int))(i:Nat):((range (i+1)).map λk=>Tj k (L.getD k []))=((range i).map λk=>Tj k (L.getD k []))++[Tj i (L.getD i [])]:=by rw[range_succ,map_append];rfl
theorem Hg(L:List (List Int))(es0:List Value)(v:Value)(hp:Hp)(hV:RdL cW 1 hp [] v es0)(hE:RdEs hp es0 L)(hb:∀l∈L,l≠[]/\l.length<=1000/\∀x∈l,-1000000<=x/\x<=1000000)(hn:L.length<=1000):FnT Tryz.prog 114 #[v] hp [] (λr h' ms'=>hp.le h'/\P8 h' r ms' (λo=>o=Oh L)):=by
 have o1:=hV.rd.one;have hle:=hE.1;refine Av func114 ntmps114 Y Y (λw0 hw0=>?_);simp only[A3];refine Aw (By [.slice none 0 0] Y AO Y Y (λg2=>BN (By [.slice none 0 0] Y AO Y Y (λg3=>Ap (Ac (Aw (Qm Y (Ap (Ah (BO ?_))))))))))
 refine AD (λq sl hh ms'=>∃(i:Nat) (vO:Value) (mO:Hp) (O:List Ce),q=L.length-i/\sl=[(0,v),(2,.pointer (some ⟨g2,0,none⟩)),(3,.pointer (some ⟨g3,0,none⟩)),(4,.int .i64 i)]/\hp.le hh/\ms'=[mO,Bw g3 29 [vO],Bw g2 29 [.slice none 0 0]]/\i<=L.length/\OwnL cC 3 52 mO vO O/\O.map Ce.c=((range i).map λk=>Tj k (L.getD k []))/\∀a∈O,RdL cD 2 hh [] a.v a.c.sd)
  (L.length-0) _ ⟨0,_,Hp.emp,[],rfl,rfl,B8,rfl,by omega,OwnL.nil Cc,rfl,λa ha=>nomatch ha⟩ Qs ?_
 rintro q sl hh ms' ⟨i,vO,mO,O,rfl,rfl,lh,rfl,hi,hO,hOc,hOs⟩;have hV:=hV.up lh;have hE:=hE.up lh;have ovO:=hO.o1;have hOl:O.length=i:=by have:=congrArg List.length hOc;simpa using this
 refine Ac (Aw (Qm Y (Qm Y (Qx (As hV.rd.any Y Cu Y) Y (Qm Y (Ap ?_))))));refine Ax Y (λhlt=>?_) (λhlt=>?_)
 ·have hil:i<L.length:=by omega
  have hie:i<es0.length:=by omega
  have hci:∀ms,Cell hh ms ((AJ v).add (i*1)) es0[i]:=λms=>(hV.any (ms:=ms)).cell0 hie Y;have hRi:=hE.2 i hie hil;have oei:=hRi.rd.one;obtain⟨hne,hl1,hlb⟩:=hb _ (getElem_mem hil);have hgi:L.getD i []=L[i]:=by simp[List.getD,hil]
  obtain⟨r,hr⟩:∃r,L[i]=r:=⟨_,Y⟩
  rw[hr]at hne hl1 hlb hgi hRi;obtain⟨d,s,rfl⟩:∃d s,r=d::s:=by cases r with|nil=>exact absurd Y hne|cons d s=>exact⟨d,s,Y⟩
  have cd:∀ms,Cell hh ms ((AJ es0[i]).add (0*1)) (.int .i64 d):=λms=>(hRi.any (ms:=ms)).cell0 (j:=0) (by simp) rfl;have hl0:0<(d::s).length:=by simp
  refine Aj (Ab ?_);refine A8 (λsl h' ms'=>∃(vO:Value) (mO:Hp) (O:List Ce),sl=[(0,v),(2,.pointer (some ⟨g2,0,none⟩)),(3,.pointer (some ⟨g3,0,none⟩)),(4,.int .i64 i)]/\hh.le h'/\ms'=[mO,Bw g3 29 [vO],Bw g2 29 [.slice none 0 0]]/\OwnL cC 3 52 mO vO O/\O.map Ce.c=((range (i+1)).map λk=>Tj k (L.getD k []))/\∀a∈O,RdL cD 2 h' [] a.v a.c.sd) ?_ (λs h ms hI=>?_)
  ·refine Ah ?_
   have hRs:RdL cI 1 hh [] (Ca 1 es0[i] 1 (d::s).length) s:=by have:=hRi.sub_ (i:=1) (j:=(d::s).length) (by simp) (Nat.le_refl _);simpa using this
   let c:Cl:=⟨(i:Int)+1,d,s.map TD⟩
   refine BK (n:=20) (bs:=[true,false,true,true,true,true,true,true,true,true,true,true,true,true,true,false,false,false,true,false]) [true,false,true,true,true,true,true,true,true,true,true,true,true,true,true,false,false,false,true] CZ (by kernel_rfl) (by kernel_rfl) Y Y (QF B3 Y (Qq Y (Qp Y (oA Y) (Qq Y (Qq Y (Qp Y (BH (i) hV.rd.any Y Cu Cw Y Y) (QL Y A0 (hci _) (Qp Y (BH (0) hRi.rd.any Y A0 Ba Y Y) (QL Y U3 (cd _) (Qq Y (Qq Y (Qp Y (BH (i) hV.rd.any Y Cu Cw Y Y) (QL Y A0 (hci _) (Qp Y (CU (1) hRi.rd.any Y A0 Ba Y Y (by omega) (by omega)) (QF B3 Y ?_)))))))))))))));unfold FK;simp only[List.cons_append,List.nil_append];refine AG [1,15] (by kernel_rfl) Y ?_;refine Ai Y ?_ ?_
   ·refine Ql Y A9 (Cell.blk 1 Y Y) (Qw (Qo 15 Y ?_));refine Qc call176 Y (N3 ((i:Int)+1) d s _ hh hRs (λx hx=>hlb x (mem_cons_of_mem _ hx)) (by simp at hl1;omega)) (λrc h2 ms2 l2 hF=>?_);obtain⟨rfl,vs,mS,rfl,rfl,hOS⟩:=hF;refine A5 hOS λh3 l3 hRS=>?_;have ovs:=hRS.rd.one;refine Qa (Qo 16 Y (Ar [_,_,_] Y A9 AL Y (by rfl) Y Y (by omega) Y Y Y (λg27=>Qa (Qo 17 Y ?_))));refine A6 1 hO (RdL.one Cc (x:=(⟨c,vs⟩:Ce)) Mh Y) Y A9 AL Y (by omega) Y Y Y (C5 (l:=[⟨c,vs⟩]) (h:=h3) λy hy=>by rw[List.mem_singleton.1 hy];exact hRS) (by(try simp only[length_singleton]);omega) (by(try simp only[length_singleton]);omega) rfl rfl rfl (λv9 m9 hO9=>?_);have ov9:=hO9.o1;refine Qa (Qo 19 Y ?_);refine Af 2 _ Y IK Y Y (by assumption) Y Y (by(simp;done)) rfl rfl ?_;refine Qa (Qe (AS (Ak ?_)));exact Ao _ ⟨v9,m9,O++[⟨c,vs⟩],Y,AI l2 l3,Y,hO9,by rw[KR,hgi,map_append,hOc];rfl,RdC.snoc' (λa ha=>(hOs a ha).up (AI l2 l3)) hRS⟩ Qs
   refine Ai Y ?_ ?_
   ·refine Qc call176 Y (N3 ((i:Int)+1) d s _ hh hRs (λx hx=>hlb x (mem_cons_of_mem _ hx)) (by simp at hl1;omega)) (λrc h2 ms2 l2 hF=>?_);obtain⟨rfl,vs,mS,rfl,rfl,hOS⟩:=hF;refine A5 hOS λh3 l3 hRS=>?_;have ovs:=hRS.rd.one;refine Qa (AG [1,16] (by kernel_rfl) Y ?_);refine Ai Y ?_ ?_
    ·refine Ql Y A9 (Cell.blk 1 Y Y) (Qa (Qo 16 Y (Ar [_,_,_] Y A9 AL Y (by rfl) Y Y (by omega) Y Y Y (λg27=>Qa (Qo 17 Y ?_)))));refine A6 1 hO (RdL.one Cc (x:=(⟨c,vs⟩:Ce)) Mh Y) Y A9 AL Y (by omega) Y Y Y (C5 (l:=[⟨c,vs⟩]) (h:=h3) λy hy=>by rw[List.mem_singleton.1 hy];exact hRS) (by(try simp only[length_singleton]);omega) (by(try simp only[length_singleton]);omega) rfl rfl rfl (λv9 m9 hO9=>?_);have ov9:=hO9.o1;refine Qa (Qo 19 Y ?_);refine Af 2 _ Y IK Y Y (by assumption) Y Y (by(simp;done)) rfl rfl ?_;refine Qa (Qe (AS (Ak ?_)));exact Ao _ ⟨v9,m9,O++[⟨c,vs⟩],Y,AI l2 l3,Y,hO9,by rw[KR,hgi,map_append,hOc];rfl,RdC.snoc' (λa ha=>(hOs a ha).up (AI l2 l3)) hRS⟩ Qs
    refine Ai Y ?_ ?_
    ·refine Ar [_,_,_] Y A9 AL Y (by rfl) Y Y (by omega) Y Y Y (λg27=>Qa (Qo 1 Y (Ql Y A9 (Cell.blk 2 Y Y) (Qa (Qo 17 Y ?_)))));refine A6 1 hO (RdL.one Cc (x:=(⟨c,vs⟩:Ce)) Mh Y) Y A9 AL Y (by omega) Y Y Y (C5 (l:=[⟨c,vs⟩]) (h:=h3) λy hy=>by rw[List.mem_singleton.1 hy];exact hRS) (by(try simp only[length_singleton]);omega) (by(try simp only[length_singleton]);omega) rfl rfl rfl (λv9 m9 hO9=>?_);have ov9:=hO9.o1;refine Qa (Qo 19 Y ?_);refine Af 2 _ Y IK Y Y (by assumption) Y Y (by(simp;done)) rfl rfl ?_;refine Qa (Qe (AS (Ak ?_)));exact Ao _ ⟨v9,m9,O++[⟨c,vs⟩],Y,AI l2 l3,Y,hO9,by rw[KR,hgi,map_append,hOc];rfl,RdC.snoc' (λa ha=>(hOs a ha).up (AI l2 l3)) hRS⟩ Qs
    exact AH
   exact AH
  ·obtain⟨vO,mO,O,rfl,l2,rfl,hO,hOc,hOs⟩:=hI;have ovO:=hO.o1;refine Ad (Qm Y (Qx (oA Y) Y (Qm Y (An ?_))));exact Am (L.length-(i+1)) _ (by omega) ⟨i+1,vO,mO,O,Y,Y,AI lh l2,Y,by omega,hO,hOc,hOs⟩ Qs
 ·obtain rfl:i=L.length:=by omega
  refine Ay (Aa (Aa (Ag (Ab (Aw (Qx (oG Y BJ AO (Seg.blk 1 Y)) Y ?_))))));refine Sa 2 [_] AO Y (by simp[o1,ovO]) ?_;refine Ap (Aq (Bd 1 Y ?_));exact BB (vs:=[_]) 1 Y Y BJ Y AO Y Y (⟨lh,mO,O,_,Y,Y,hO,hOc,hOs⟩)
theorem Cb{h:Hp}{el:TypeId}{g:Nat}(l:List Int)(n:Nat)(e:l.length=n)(hn:n<=1000)(k:(Bw g el (l.flatMap cI)).le h):RdL cI 1 h [] (.slice (some ⟨g,0,none⟩) n n) l:=by subst e;exact(OwnL.blk (g:=g) (el:=el) (F:=cI) (l:=l) l.length Bl Y (by omega)).rdh k
theorem Ii(n:Nat):Lu (n+1)=Lu n++[Kn (n+1),Kn (n+1)]:=by unfold Lu;rw[range_succ,List.flatMap_append,<-append_assoc];rfl
theorem RE(n:Nat):(Lu n).length=2+2*n:=by
 induction n with
 | zero=>rfl
 | succ n ih=>rw[Ii,length_append,ih];simp;omega
theorem Z2(n:Nat)(hn:n<=4):∀l∈Lu n,l≠[]/\l.length<=1000/\∀x∈l,-1000000<=x/\x<=1000000:=by rcases (by omega:n=0\/n=1\/n=2\/n=3\/n=4) with rfl|rfl|rfl|rfl|rfl<;>decide
def Mq(m i:Nat):List (List Int):=([[0],[0],[0],[0],[1,-2,3],[1,-3,4],[1,-4,2]]:List (List Int))++((range i).map λ(k:Nat)=>[(1:Int),-1,2+((k%3:Nat):Int)])
def PF(m i:Nat):List (List Int):=(range i).map λ(k:Nat)=>[(2:Int),8+(k:Int),5+((k%3:Nat):Int),-(8+(((k+1)%m:Nat):Int))]
theorem Yx(n:Nat):P0 n=Mq (3*n) (3*n)++PF (3*n) (3*n):=rfl
theorem R3(m i:Nat):Mq m (i+1)=Mq m i++[[(1:Int),-1,2+((i%3:Nat):Int)]]:=by unfold Mq;rw[range_succ,map_append,append_assoc];rfl
theorem Tc(m i:Nat):PF m (i+1)=PF m i++[[(2:Int),8+(i:Int),5+((i%3:Nat):Int),-(8+(((i+1)%m:Nat):Int))]]:=by unfold PF;rw[range_succ,map_append];rfl
theorem Zm(n:Nat)(hn:n=3\/n=4):∀l∈P0 n,l≠[]/\l.length<=1000/\∀x∈l,-1000000<=x/\x<=1000000:=by rcases hn with rfl|rfl<;>decide
theorem Ho(n:Nat)(hp:Hp)(hn:n<=4):FnT Tryz.prog 115 #[.int .i64 n] hp [] (λr h' ms'=>hp.le h'/\P8 h' r ms' (λo=>o=Oh (Lu n))):=by
 refine Av func115 ntmps115 Y Y (λw0 hw0=>?_);simp only[A3];have hE:=RdEs.nil hp;refine Aw (By [.slice none 0 0] Y AO Y Y (λg2=>BN (Ar [_] Y A0 Ba Y (by rfl) Y Y (by omega) Y Y Y (λg7=>AN λh1 l1 k1=>?_))));have hE:=(hE.up l1).snoc (Cb [0] 1 Y (by decide) k1);refine Ar [_] Y A0 Ba Y (by rfl) Y Y (by omega) Y Y Y (λg8=>AN λh2 l2 k2=>?_);have hE:=(hE.up l2).snoc (Cb [0] 1 Y (by decide) k2);refine AA [(0,_),(1,_)] [.slice none 0 0,.slice none 0 0] [_,_] Y Cu Cw Y (by omega) (by kernel_rfl) Qt Y Y Y Y (λg9=>Qm Y (Ap (Ac (Aw (Qm Y (Ap (Ah ?_)))))))
 refine AD (λq sl h' ms'=>∃(i:Nat) (v3:Value) (m3:Hp) (es:List Value),q=n-i/\sl=[(0,.int .i64 n),(2,.pointer (some ⟨g2,0,none⟩)),(3,v3),(4,.int .i64 ((i:Int)+1))]/\hp.le h'/\ms'=[m3,Bw g2 29 [.slice none 0 0]]/\i<=n/\OwnL cW 1 22 m3 v3 es/\RdEs h' es (Lu i))
  (n-0) _ ⟨0,_,_,_,rfl,rfl,AI l1 l2,rfl,by omega,OwnL.blk (g:=g9) (el:=22) (F:=cW) (l:=[_,_]) 2 DG rfl (by decide),hE⟩ Qs ?_
 rintro q sl h' ms' ⟨i,v3,m3,es,rfl,rfl,lh,rfl,hi,hO,hE⟩;have hel:es.length=2+2*i:=by rw[hE.1,RE]
 have ov3:=hO.o1;refine Ac (Aw (Qm Y (Qm Y (Qm Y (Ap ?_)))));refine Ax Y (λhlt=>?_) (λhlt=>?_)
 ·refine Aj (Ab (Ac (Ah (Aw (Qm Y (Qx (oM Y) Y (Qx (oS Y) Y (Qm Y (BN (Qm Y (Qm Y (Qx (MH Y Y (by omega)) Y (Qm Y (Qx (oA Y) Y (AA [(0,_),(1,_),(2,_)] [.int .i64 0,.int .i64 0,.int .i64 0] [_,_,_] Y A0 Ba Y (by omega) (by kernel_rfl) Qt Y Y Y Y (λg23=>Qm Y (Ap (Bt λh3 l3 k3=>?_))))))))))))))))));have hE:=hE.up l3;refine Ac (Aw (Qm Y (Qx (Cf Y Y Y (by omega) (by omega)) Y (Qm Y (Ap ?_)))));refine Ax Y (λhev=>?_) (λhev=>?_)
  ·refine Ad (Qm Y (Qm Y (Qm Y (Qx (oA Y) Y (Qx (MH Y Y (by omega)) Y (AA [(0,_),(1,_),(2,_)] [.int .i64 0,.int .i64 0,.int .i64 0] [_,_,_] Y A0 Ba Y (by omega) (by kernel_rfl) Qt Y Y Y Y (λg32=>Qm Y (Ap (Bt λh4 l4 k4=>?_)))))))));have hE:=hE.up l4;refine Ac (Aw (Qm Y (Qm Y (Ap ?_))));refine Ax Y (λh1=>?_) (λh1=>?_)
   ·exact absurd h1 (by omega)
   ·have hrow:RdL cI 1 h4 [] (.slice (some ⟨g32,0,none⟩) 3 3) (Kn (i+1)):=by
     have:=Cb (el:=3) (g:=g32) (h:=h4) [(i:Int)+1,2*((i:Int)+1)-1,-(2*((i:Int)+1)-1+1)] 3 Y (by decide) k4
     have e:Kn (i+1)=[(i:Int)+1,2*((i:Int)+1)-1,-(2*((i:Int)+1)-1+1)]:=by unfold Kn;rw[if_neg (by omega),if_pos (by omega)];simp<;>omega
     rw[e];exact this
    refine Aj (Ab (Ad (Qm Y (Qm Y (Qm Y (AA [(0,_),(1,_)] [.slice none 0 0,.slice none 0 0] [_,_] Y Cu Cw Y (by omega) (by kernel_rfl) Qt Y Y Y Y (λg39=>?_)))))));refine A6 1 hO (OwnL.blk (g:=g39) (F:=cW) (l:=[.slice (some ⟨g32,0,none⟩) 3 3,.slice (some ⟨g32,0,none⟩) 3 3]) 2 DG Y (by decide) |>.rd Mh) Y Cu Cw Y (by omega) Y Y Y (Gl λu hu=>by simp only[mem_cons,not_mem_nil,or_false]at hu;rcases hu with rfl|rfl<;>rfl) (by(try simp only[length_cons,length_nil]);omega) (by(try simp only[length_cons,length_nil]);omega) rfl rfl rfl (λv9 m9 hO9=>?_);have ov9:=hO9.o1;refine Qm Y (An (Ak (Ab (Ad (Qm Y (Qx (oA Y) Y (Qm Y (An (Bd 0 Y ?_)))))))));exact Am (n-(i+1)) _ (by omega) ⟨i+1,v9,m9,_,Y,Y,AI lh (AI l3 l4),Y,by omega,hO9,by rw[Ii];have:=(hE.snoc hrow).snoc hrow;rwa [append_assoc,append_assoc]at this⟩ Qs
  ·refine Aj (Ab (Ac (Aw (Qm Y (Qm Y (Ap ?_))))));refine Ax Y (λh1=>?_) (λh1=>?_)
   ·refine Ad (AA [(0,_),(1,_),(2,_)] [.int .i64 0,.int .i64 0,.int .i64 0] [_,_,_] Y A0 Ba Y (by omega) (by kernel_rfl) Qt Y Y Y Y (λg35=>Qm Y (Ap (Bt λh4 l4 k4=>?_))));have hE:=hE.up l4;have hi0:i=0:=by omega
    have hrow:RdL cI 1 h4 [] (.slice (some ⟨g35,0,none⟩) 3 3) (Kn (i+1)):=by subst hi0;exact Cb (el:=3) (g:=g35) (h:=h4) [1,-1,2] 3 Y (by decide) k4
    refine Ad (Qm Y (Qm Y (Qm Y (AA [(0,_),(1,_)] [.slice none 0 0,.slice none 0 0] [_,_] Y Cu Cw Y (by omega) (by kernel_rfl) Qt Y Y Y Y (λg39=>?_)))));refine A6 1 hO (OwnL.blk (g:=g39) (F:=cW) (l:=[.slice (some ⟨g35,0,none⟩) 3 3,.slice (some ⟨g35,0,none⟩) 3 3]) 2 DG Y (by decide) |>.rd Mh) Y Cu Cw Y (by omega) Y Y Y (Gl λu hu=>by simp only[mem_cons,not_mem_nil,or_false]at hu;rcases hu with rfl|rfl<;>rfl) (by(try simp only[length_cons,length_nil]);omega) (by(try simp only[length_cons,length_nil]);omega) rfl rfl rfl (λv9 m9 hO9=>?_);have ov9:=hO9.o1;refine Qm Y (An (Ak (Ab (Ad (Qm Y (Qx (oA Y) Y (Qm Y (An (Bd 0 Y ?_)))))))));exact Am (n-(i+1)) _ (by omega) ⟨i+1,v9,m9,_,Y,Y,AI lh (AI l3 l4),Y,by omega,hO9,by rw[Ii];have:=(hE.snoc hrow).snoc hrow;rwa [append_assoc,append_assoc]at this⟩ Qs
   ·have hrow:RdL cI 1 h3 [] (.slice (some ⟨g23,0,none⟩) 3 3) (Kn (i+1)):=by
     have:=Cb (el:=3) (g:=g23) (h:=h3) [(i:Int)+1,-(2*((i:Int)+1)-1),2*((i:Int)+1)-1+1] 3 Y (by decide) k3
     have e:Kn (i+1)=[(i:Int)+1,-(2*((i:Int)+1)-1),2*((i:Int)+1)-1+1]:=by unfold Kn;rw[if_neg (by omega),if_neg (by omega)];simp<;>omega
     rw[e];exact this
    refine Aj (Ab (Ad (Qm Y (Qm Y (Qm Y (AA [(0,_),(1,_)] [.slice none 0 0,.slice none 0 0] [_,_] Y Cu Cw Y (by omega) (by kernel_rfl) Qt Y Y Y Y (λg39=>?_)))))));refine A6 1 hO (OwnL.blk (g:=g39) (F:=cW) (l:=[.slice (some ⟨g23,0,none⟩) 3 3,.slice (some ⟨g23,0,none⟩) 3 3]) 2 DG Y (by decide) |>.rd Mh) Y Cu Cw Y (by omega) Y Y Y (Gl λu hu=>by simp only[mem_cons,not_mem_nil,or_false]at hu;rcases hu with rfl|rfl<;>rfl) (by(try simp only[length_cons,length_nil]);omega) (by(try simp only[length_cons,length_nil]);omega) rfl rfl rfl (λv9 m9 hO9=>?_);have ov9:=hO9.o1;refine Qm Y (An (Ak (Ab (Ad (Qm Y (Qx (oA Y) Y (Qm Y (An (Bd 0 Y ?_)))))))));exact Am (n-(i+1)) _ (by omega) ⟨i+1,v9,m9,_,Y,Y,AI lh l3,Y,by omega,hO9,by rw[Ii];have:=(hE.snoc hrow).snoc hrow;rwa [append_assoc,append_assoc]at this⟩ Qs
 ·obtain rfl:i=n:=by omega
  refine Bt λh3 l3 k3=>?_;have hV:=hO.rdh (ms:=[]) k3;have hE:=hE.up l3;refine Ay (Aa (Aa (Ag (Ab (Aw (Qm Y ?_))))));refine Qc call114 Y (Hg (Lu i) _ _ h3 hV hE (Z2 i hn) (by rw[RE];omega)) (λrC h5 ms5 l5 hF=>?_);obtain⟨l5',m,A,vA,rfl,rfl,hOA,hA,hs⟩:=hF;have ovA:=hOA.o1;refine Sa 1 [_] AO Y (by simp[ov3,ovA]) ?_;refine Ap (Aq ?_);exact BB (vs:=[_]) 1 Y Y BJ Y AO Y Y (⟨AI lh (AI l3 l5),m,A,_,Y,Y,hOA,hA,hs⟩)
theorem NI(n:Nat)(hp:Hp)(hn:n=3\/n=4):FnT Tryz.prog 116 #[.int .i64 n] hp [] (λr h' ms'=>hp.le h'/\P8 h' r ms' (λo=>o=Oh (P0 n))):=by
 have hn4:n<=4:=by omega
 refine Av func116 ntmps116 Y Y (λw0 hw0=>?_);simp only[A3];have hE:=RdEs.nil hp;refine Aw (By [.slice none 0 0] Y AO Y Y (λg2=>BN (Ar [_] Y A0 Ba Y (by rfl) Y Y (by omega) Y Y Y (λg6=>AN λh1 l1 k1=>?_))));have hE:=(hE.up l1).snoc (Cb [0] 1 Y (by decide) k1);refine Ar [_] Y A0 Ba Y (by rfl) Y Y (by omega) Y Y Y (λg7=>AN λh2 l2 k2=>?_);have hE:=(hE.up l2).snoc (Cb [0] 1 Y (by decide) k2);refine Ar [_] Y A0 Ba Y (by rfl) Y Y (by omega) Y Y Y (λg8=>AN λh3 l3 k3=>?_);have hE:=(hE.up l3).snoc (Cb [0] 1 Y (by decide) k3);refine Ar [_] Y A0 Ba Y (by rfl) Y Y (by omega) Y Y Y (λg9=>AN λh4 l4 k4=>?_);have hE:=(hE.up l4).snoc (Cb [0] 1 Y (by decide) k4);refine AA [(0,_),(1,_),(2,_)] [.int .i64 0,.int .i64 0,.int .i64 0] [_,_,_] Y A0 Ba Y (by omega) (by kernel_rfl) Qt Y Y Y Y (λg10=>AN λh5 l5 k5=>?_);have hE:=(hE.up l5).snoc (Cb [1,-2,3] 3 Y (by decide) k5);refine AA [(0,_),(1,_),(2,_)] [.int .i64 0,.int .i64 0,.int .i64 0] [_,_,_] Y A0 Ba Y (by omega) (by kernel_rfl) Qt Y Y Y Y (λg11=>AN λh6 l6 k6=>?_);have hE:=(hE.up l6).snoc (Cb [1,-3,4] 3 Y (by decide) k6);refine AA [(0,_),(1,_),(2,_)] [.int .i64 0,.int .i64 0,.int .i64 0] [_,_,_] Y A0 Ba Y (by omega) (by kernel_rfl) Qt Y Y Y Y (λg12=>AN λh7 l7 k7=>?_);have hE:=(hE.up l7).snoc (Cb [1,-4,2] 3 Y (by decide) k7);have l17:=AI l1 (AI l2 (AI l3 (AI l4 (AI l5 (AI l6 l7)))));refine AA [(0,_),(1,_),(2,_),(3,_),(4,_),(5,_),(6,_)] [.slice none 0 0,.slice none 0 0,.slice none 0 0,.slice none 0 0,.slice none 0 0,.slice none 0 0,.slice none 0 0] [_,_,_,_,_,_,_] Y Cu Cw Y (by omega) (by kernel_rfl) Qt Y Y Y Y (λg13=>Qm Y (Ap ?_));obtain⟨M,hM⟩:∃M,3*n=M:=⟨_,Y⟩
 have hM3:3*(n:Int)=M:=by omega
 have hMb:9<=M/\M<=12:=by omega
 refine A8 (λsl h' ms'=>∃(v3:Value) (m3:Hp) (es:List Value),sl=[(0,.int .i64 n),(2,.pointer (some ⟨g2,0,none⟩)),(3,v3)]/\hp.le h'/\ms'=[m3,Bw g2 29 [.slice none 0 0]]/\OwnL cW 1 22 m3 v3 es/\RdEs h' es (Mq M M)) ?_ (λs h ms hI=>?_)
 ·refine Ac (Ad (Qm Y (Ap (Ah ?_))))
  refine AD (λq sl h' ms'=>∃(i:Nat) (v3:Value) (m3:Hp) (es:List Value),q=M-i/\sl=[(0,.int .i64 n),(2,.pointer (some ⟨g2,0,none⟩)),(3,v3),(4,.int .i64 i)]/\hp.le h'/\ms'=[m3,Bw g2 29 [.slice none 0 0]]/\i<=M/\OwnL cW 1 22 m3 v3 es/\RdEs h' es (Mq M i))
   (M-0) _ ⟨0,_,_,_,rfl,rfl,l17,rfl,by omega,OwnL.blk (g:=g13) (el:=22) (F:=cW) (l:=[_,_,_,_,_,_,_]) 7 DG rfl (by decide),hE⟩ Qs ?_
  rintro q sl h' ms' ⟨i,v3,m3,es,rfl,rfl,lh,rfl,hi,hO,hE⟩;have hel:es.length=7+i:=by rw[hE.1];unfold Mq;simp;omega
  have ov3:=hO.o1;refine Ac (Aw (Qm Y (Qm Y (Qx (oM Y) Y (Qm Y (Ap ?_))))));refine Ax Y (λhlt=>?_) (λhlt=>?_)
  ·refine Aj (Ab (Ac (Ah (Ad (Qm Y (Qm Y (Qx (Cf Y Y Y (by omega) (by omega)) Y (Qx (oA Y) Y (AA [(0,_),(1,_),(2,_)] [.int .i64 0,.int .i64 0,.int .i64 0] [_,_,_] Y A0 Ba Y (by omega) (by kernel_rfl) Qt Y Y Y Y (λg24=>AN λh8 l8 k8=>?_))))))))));have hrow:RdL cI 1 h8 [] (.slice (some ⟨g24,0,none⟩) 3 3) [(1:Int),-1,2+((i%3:Nat):Int)]:=Cb (el:=3) [(1:Int),-1,2+((i%3:Nat):Int)] 3 Y (by decide) k8;have hE:=hE.up l8;refine Ar [_] Y Cu Cw Y (by rfl) Y Y (by omega) Y Y Y (λg25=>?_);refine A6 1 hO (RdL.one DG (x:=(.slice (some ⟨g24,0,none⟩) 3 3:Value)) Mh Y) Y Cu Cw Y (by omega) Y Y Y (Gl λu hu=>by rw[List.mem_singleton.1 hu];rfl) (by(try simp only[length_singleton]);omega) (by(try simp only[length_singleton]);omega) rfl rfl rfl (λv9 m9 hO9=>?_);have ov9:=hO9.o1;refine Qm Y (An (Ak (Ab (Ad (Qm Y (Qx (oA Y) Y (Qm Y (An (Bd 0 Y ?_)))))))));exact Am (M-(i+1)) _ (by omega) ⟨i+1,v9,m9,_,Y,Y,AI lh l8,Y,by omega,hO9,by rw[R3];exact hE.snoc hrow⟩ Qs
  ·obtain rfl:i=M:=by omega
   refine Ay (Aa (Aa (Ag ?_)));exact Ao _ ⟨v3,m3,es,Y,lh,Y,hO,hE⟩ Qs
 ·obtain⟨v3,m3,es,rfl,lh,rfl,hO,hE⟩:=hI;have hEl:=hE.1;refine Ac (Aw (Qm Y (Ap (Ah ?_))))
  refine AD (λq sl h' ms'=>∃(i:Nat) (v3:Value) (m3:Hp) (es:List Value),q=M-i/\sl=[(0,.int .i64 n),(2,.pointer (some ⟨g2,0,none⟩)),(3,v3),(5,.int .i64 i)]/\hp.le h'/\ms'=[m3,Bw g2 29 [.slice none 0 0]]/\i<=M/\OwnL cW 1 22 m3 v3 es/\RdEs h' es (Mq M M++PF M i))
   (M-0) _ ⟨0,v3,m3,es,rfl,rfl,lh,rfl,by omega,hO,by rw[show PF M 0=[] from Y,append_nil];exact hE⟩ Qs ?_
  rintro q sl h' ms' ⟨i,v3,m3,es,rfl,rfl,lh,rfl,hi,hO,hE⟩;have hel:es.length=7+M+i:=by rw[hE.1];unfold Mq PF;simp;omega
  have ov3:=hO.o1;refine Ac (Aw (Qm Y (Qm Y (Qx (oM Y) Y (Qm Y (Ap ?_))))));refine Ax Y (λhlt=>?_) (λhlt=>?_)
  ·have hm0:0<=((i:Int)+1)%(3*(n:Int)):=Int.emod_nonneg _ (by omega);have hm1:((i:Int)+1)%(3*(n:Int))<3*(n:Int):=Int.emod_lt_of_pos _ (by omega);refine Aj (Ab (Ac (Ah (Ad (Qm Y (Qm Y (Qx (oA Y) Y (Qm Y (Qx (Cf Y Y Y (by omega) (by omega)) Y (Qx (oA Y) Y (Qm Y (Qx (oA Y) Y (Qm Y (Qx (oM Y) Y (Qx (Cf Y Y Y (by omega) (by omega)) Y (Qx (oA Y) Y (Qx (MH Y Y (by omega)) Y (AA [(0,_),(1,_),(2,_),(3,_)] [.int .i64 0,.int .i64 0,.int .i64 0,.int .i64 0] [_,_,_,_] Y A0 Ba Y (by omega) (by kernel_rfl) Qt Y Y Y Y (λg46=>AN λh8 l8 k8=>?_)))))))))))))))))));have hrow:RdL cI 1 h8 [] (.slice (some ⟨g46,0,none⟩) 4 4) [(2:Int),8+(i:Int),5+((i%3:Nat):Int),-(8+(((i+1)%M:Nat):Int))]:=Cb (el:=3) [(2:Int),8+(i:Int),5+((i%3:Nat):Int),-(8+(((i+1)%M:Nat):Int))] 4 Y (by decide) (by subst hM;exact k8);have hE:=hE.up l8;refine Ar [_] Y Cu Cw Y (by rfl) Y Y (by omega) Y Y Y (λg47=>?_);refine A6 1 hO (RdL.one DG (x:=(.slice (some ⟨g46,0,none⟩) 4 4:Value)) Mh Y) Y Cu Cw Y (by omega) Y Y Y (Gl λu hu=>by rw[List.mem_singleton.1 hu];rfl) (by(try simp only[length_singleton]);omega) (by(try simp only[length_singleton]);omega) rfl rfl rfl (λv9 m9 hO9=>?_);have ov9:=hO9.o1;refine Qm Y (An (Ak (Ab (Ad (Qm Y (Qx (oA Y) Y (Qm Y (An (Bd 0 Y ?_)))))))));exact Am (M-(i+1)) _ (by omega) ⟨i+1,v9,m9,_,Y,Y,AI lh l8,Y,by omega,hO9,by rw[Tc,<-append_assoc];exact hE.snoc hrow⟩ Qs
  ·obtain rfl:i=M:=by omega
   refine Bt λh9 l9 k9=>?_;have hV:=hO.rdh (ms:=[]) k9;have hE:RdEs h9 es (P0 n):=by rw[Yx,hM];exact hE.up l9
   refine Ay (Aa (Aa (Ag (Ab (Aw (Qm Y ?_))))));refine Qc call114 Y (Hg (P0 n) _ _ h9 hV hE (Zm n hn) (by rw[<-hE.1];omega)) (λrC h10 ms10 l10 hF=>?_);obtain⟨l10',m,A,vA,rfl,rfl,hOA,hA,hs⟩:=hF;have ovA:=hOA.o1;refine Sa 1 [_] AO Y (by simp[ov3,ovA]) ?_;refine Ap (Aq ?_);exact BB (vs:=[_]) 1 Y Y BJ Y AO Y Y (⟨AI lh (AI l9 l10),m,A,_,Y,Y,hOA,hA,hs⟩)
theorem Hd{L:List (List Int)}(h:L=[[0]]\/L=Zv\/L=Zc\/L=Zs):L.length<=1000/\∀l∈L,l≠[]/\l.length<=1000/\∀x∈l,-1000000<=x/\x<=1000000:=by rcases h with rfl|rfl|rfl|rfl<;>decide
theorem Ip(n:Int)(hp:Hp)(hn:BP n):FnT Tryz.prog 45 #[.int .i64 n] hp [] (λr h' ms'=>hp.le h'/\P8 h' r ms' (λo=>o=Oh (E5 (n%10).toNat))):=by
 refine Av func45 ntmps45 Y Y (λw0 hw0=>?_);simp only[A3];obtain⟨k,hk⟩:∃k:Nat,n%10=k:=⟨(n%10).toNat,by omega⟩
 have hk10:k<10:=by omega
 rw[hk,Int.toNat_natCast];refine Aw (By [.slice none 0 0] Y AO Y Y (λg2=>Ap (Ac (Aw (Qm Y (Qx (AR Y call34 Y (Iu n 10 hn (by decide) _ _)) Y (Ap (Ah (Aw (Qm Y (Qm Y (Ap ?_))))))))))));refine Ax Y (λh0=>?_) (λh0=>?_)
 ·have hE:=RdEs.nil hp;refine Aw (Ar [_] Y A0 Ba Y (by rfl) Y Y (by omega) Y Y Y (λg7=>AN λh1 l1 k1=>?_));have hE:=(hE.up l1).snoc (Cb [0] 1 Y (by decide) k1);refine Ar [_] Y Cu Cw Y (by rfl) Y Y (by omega) Y Y Y (λg8=>AN λhz lz kz=>?_);have hE:=hE.up lz;have hV:=(OwnL.blk (g:=g8) (el:=22) (F:=cW) (l:=[_]) 1 DG Y (by decide)).rdh (ms:=[]) kz;have lall:=(AI l1 lz)
  refine Qc call114 Y (Hg [[0]] _ _ hz hV hE (Hd (.inl Y)).2 (Hd (.inl Y)).1) (λrC hc msc lc hF=>?_);obtain⟨lc',m,A,vA,rfl,rfl,hOA,hA,hs⟩:=hF;have ovA:=hOA.o1;refine Sa 1 [_] AO Y (by simp[ovA]) ?_;refine Ap (Aq (Al (Ae ?_)));exact BB (vs:=[_]) 1 Y Y BJ Y AO Y Y (⟨AI lall lc',m,A,_,Y,Y,hOA,by rw[hA];unfold E5;rw[if_pos (by omega)],hs⟩)
 ·refine Ac (Aw (Qm Y (Qm Y (Ap ?_))));refine Ax Y (λh1=>?_) (λh1=>?_)
  ·refine Aj (Ab ?_);refine Ax Y (λhc=>?_) (λhc=>absurd (h1) hc);refine Aw (Qm Y (Qx (AR Y call34 Y (Iu n 10 hn (by decide) _ _)) Y ?_));rw[hk];refine Qc call115 Y (Ho k hp (by omega)) (λrC hc msc lc hF=>?_);obtain⟨lc',m,A,vA,rfl,rfl,hOA,hA,hs⟩:=hF;have ovA:=hOA.o1;refine Sa 1 [_] AO Y (by simp[ovA]) ?_;refine Ap (Aq (Al (Ae ?_)));exact BB (vs:=[_]) 1 Y Y BJ Y AO Y Y (⟨lc',m,A,_,Y,Y,hOA,by rw[hA];unfold E5;rw[if_neg (by omega),if_pos (by omega)],hs⟩)
  ·refine Ac (Ad (Qm Y (Qm Y (Ap ?_))));refine Ax Y (λh2=>?_) (λh2=>?_)
   ·refine Aj (Ab ?_);refine Ax Y (λhc=>?_) (λhc=>absurd (h2) hc);refine Aw (Qm Y (Qx (AR Y call34 Y (Iu n 10 hn (by decide) _ _)) Y ?_));rw[hk];refine Qc call115 Y (Ho k hp (by omega)) (λrC hc msc lc hF=>?_);obtain⟨lc',m,A,vA,rfl,rfl,hOA,hA,hs⟩:=hF;have ovA:=hOA.o1;refine Sa 1 [_] AO Y (by simp[ovA]) ?_;refine Ap (Aq (Al (Ae ?_)));exact BB (vs:=[_]) 1 Y Y BJ Y AO Y Y (⟨lc',m,A,_,Y,Y,hOA,by rw[hA];unfold E5;rw[if_neg (by omega),if_pos (by omega)],hs⟩)
   ·refine Ad (Qm Y (Qm Y (Ap ?_)));refine Ax Y (λh3=>?_) (λh3=>?_)
    ·refine Ac (Ad (Qm Y (Qx (AR Y call34 Y (Iu n 10 hn (by decide) _ _)) Y ?_)));rw[hk];refine Qc call115 Y (Ho k hp (by omega)) (λrC hc msc lc hF=>?_);obtain⟨lc',m,A,vA,rfl,rfl,hOA,hA,hs⟩:=hF;have ovA:=hOA.o1;refine Sa 1 [_] AO Y (by simp[ovA]) ?_;refine Ap (Aq (Al (Ae ?_)));exact BB (vs:=[_]) 1 Y Y BJ Y AO Y Y (⟨lc',m,A,_,Y,Y,hOA,by rw[hA];unfold E5;rw[if_neg (by omega),if_pos (by omega)],hs⟩)
    ·refine Ac (Ad (Qm Y (Qm Y (Ap ?_))));refine Ax Y (λh4=>?_) (λh4=>?_)
     ·refine Ac (Ad (Qc call115 Y (Ho 0 hp (by omega)) (λrC hc msc lc hF=>?_)));obtain⟨lc',m,A,vA,rfl,rfl,hOA,hA,hs⟩:=hF;have ovA:=hOA.o1;refine Sa 1 [_] AO Y (by simp[ovA]) ?_;refine Ap (Aq (Al (Ae ?_)));exact BB (vs:=[_]) 1 Y Y BJ Y AO Y Y (⟨lc',m,A,_,Y,Y,hOA,by rw[hA];unfold E5;rw[if_neg (by omega),if_neg (by omega),if_pos (by omega)],hs⟩)
     ·refine Ac (Ad (Qm Y (Qm Y (Ap ?_))));refine Ax Y (λh5=>?_) (λh5=>?_)
      ·have hE:=RdEs.nil hp;refine Aw (Ar [_] Y A0 Ba Y (by rfl) Y Y (by omega) Y Y Y (λg22=>AN λh1 l1 k1=>?_));have hE:=(hE.up l1).snoc (Cb [0] 1 Y (by decide) k1);refine Ar [_] Y A0 Ba Y (by rfl) Y Y (by omega) Y Y Y (λg23=>AN λh2 l2 k2=>?_);have hE:=(hE.up l2).snoc (Cb [0] 1 Y (by decide) k2);refine Ar [_] Y A0 Ba Y (by rfl) Y Y (by omega) Y Y Y (λg24=>AN λh3 l3 k3=>?_);have hE:=(hE.up l3).snoc (Cb [0] 1 Y (by decide) k3);refine AA [(0,_),(1,_),(2,_)] [.int .i64 0,.int .i64 0,.int .i64 0] [_,_,_] Y A0 Ba Y (by omega) (by kernel_rfl) Qt Y Y Y Y (λg25=>AN λh4 l4 k4=>?_);have hE:=(hE.up l4).snoc (Cb [1,-1,2] 3 Y (by decide) k4);refine AA [(0,_),(1,_),(2,_)] [.int .i64 0,.int .i64 0,.int .i64 0] [_,_,_] Y A0 Ba Y (by omega) (by kernel_rfl) Qt Y Y Y Y (λg26=>AN λh5 l5 k5=>?_);have hE:=(hE.up l5).snoc (Cb [1,-1,2] 3 Y (by decide) k5);refine AA [(0,_),(1,_),(2,_)] [.int .i64 0,.int .i64 0,.int .i64 0] [_,_,_] Y A0 Ba Y (by omega) (by kernel_rfl) Qt Y Y Y Y (λg27=>AN λh6 l6 k6=>?_);have hE:=(hE.up l6).snoc (Cb [1,-2,3] 3 Y (by decide) k6);refine AA [(0,_),(1,_),(2,_)] [.int .i64 0,.int .i64 0,.int .i64 0] [_,_,_] Y A0 Ba Y (by omega) (by kernel_rfl) Qt Y Y Y Y (λg28=>AN λh7 l7 k7=>?_);have hE:=(hE.up l7).snoc (Cb [1,-2,3] 3 Y (by decide) k7);refine AA [(0,_),(1,_),(2,_)] [.int .i64 0,.int .i64 0,.int .i64 0] [_,_,_] Y A0 Ba Y (by omega) (by kernel_rfl) Qt Y Y Y Y (λg29=>AN λh8 l8 k8=>?_);have hE:=(hE.up l8).snoc (Cb [1,-1,3] 3 Y (by decide) k8);refine AA [(0,_),(1,_),(2,_)] [.int .i64 0,.int .i64 0,.int .i64 0] [_,_,_] Y A0 Ba Y (by omega) (by kernel_rfl) Qt Y Y Y Y (λg30=>AN λh9 l9 k9=>?_);have hE:=(hE.up l9).snoc (Cb [1,-1,3] 3 Y (by decide) k9);refine AA [(0,_),(1,_),(2,_),(3,_)] [.int .i64 0,.int .i64 0,.int .i64 0,.int .i64 0] [_,_,_,_] Y A0 Ba Y (by omega) (by kernel_rfl) Qt Y Y Y Y (λg31=>AN λh10 l10 k10=>?_);have hE:=(hE.up l10).snoc (Cb [2,4,6,-8] 4 Y (by decide) k10);refine AA [(0,_),(1,_),(2,_),(3,_)] [.int .i64 0,.int .i64 0,.int .i64 0,.int .i64 0] [_,_,_,_] Y A0 Ba Y (by omega) (by kernel_rfl) Qt Y Y Y Y (λg32=>AN λh11 l11 k11=>?_);have hE:=(hE.up l11).snoc (Cb [2,4,7,-9] 4 Y (by decide) k11);refine AA [(0,_),(1,_),(2,_),(3,_)] [.int .i64 0,.int .i64 0,.int .i64 0,.int .i64 0] [_,_,_,_] Y A0 Ba Y (by omega) (by kernel_rfl) Qt Y Y Y Y (λg33=>AN λh12 l12 k12=>?_);have hE:=(hE.up l12).snoc (Cb [2,5,6,-9] 4 Y (by decide) k12);refine AA [(0,_),(1,_),(2,_),(3,_)] [.int .i64 0,.int .i64 0,.int .i64 0,.int .i64 0] [_,_,_,_] Y A0 Ba Y (by omega) (by kernel_rfl) Qt Y Y Y Y (λg34=>AN λh13 l13 k13=>?_);have hE:=(hE.up l13).snoc (Cb [2,5,7,-8] 4 Y (by decide) k13);refine AA [(0,_),(1,_),(2,_),(3,_),(4,_),(5,_),(6,_),(7,_),(8,_),(9,_),(10,_),(11,_),(12,_)] [.slice none 0 0,.slice none 0 0,.slice none 0 0,.slice none 0 0,.slice none 0 0,.slice none 0 0,.slice none 0 0,.slice none 0 0,.slice none 0 0,.slice none 0 0,.slice none 0 0,.slice none 0 0,.slice none 0 0] [_,_,_,_,_,_,_,_,_,_,_,_,_] Y Cu Cw Y (by omega) (by kernel_rfl) Qt Y Y Y Y (λg35=>AN λhz lz kz=>?_);have hE:=hE.up lz;have hV:=(OwnL.blk (g:=g35) (el:=22) (F:=cW) (l:=[_,_,_,_,_,_,_,_,_,_,_,_,_]) 13 DG Y (by decide)).rdh (ms:=[]) kz;have lall:=(AI l1 (AI l2 (AI l3 (AI l4 (AI l5 (AI l6 (AI l7 (AI l8 (AI l9 (AI l10 (AI l11 (AI l12 (AI l13 lz)))))))))))))
       refine Qc call114 Y (Hg Zv _ _ hz hV hE (Hd (.inr (.inl Y))).2 (Hd (.inr (.inl Y))).1) (λrC hc msc lc hF=>?_);obtain⟨lc',m,A,vA,rfl,rfl,hOA,hA,hs⟩:=hF;have ovA:=hOA.o1;refine Sa 1 [_] AO Y (by simp[ovA]) ?_;refine Ap (Aq (Al (Ae ?_)));exact BB (vs:=[_]) 1 Y Y BJ Y AO Y Y (⟨AI lall lc',m,A,_,Y,Y,hOA,by rw[hA];unfold E5;rw[if_neg (by omega),if_neg (by omega),if_neg (by omega),if_pos (by omega)],hs⟩)
      ·refine Ac (Ad (Qm Y (Qm Y (Ap ?_))));refine Ax Y (λh6=>?_) (λh6=>?_)
       ·refine Ac (Ad (Qc call116 Y (NI 3 hp (by omega)) (λrC hc msc lc hF=>?_)));obtain⟨lc',m,A,vA,rfl,rfl,hOA,hA,hs⟩:=hF;have ovA:=hOA.o1;refine Sa 1 [_] AO Y (by simp[ovA]) ?_;refine Ap (Aq (Al (Ae ?_)));exact BB (vs:=[_]) 1 Y Y BJ Y AO Y Y (⟨lc',m,A,_,Y,Y,hOA,by rw[hA];unfold E5;rw[if_neg (by omega),if_neg (by omega),if_neg (by omega),if_neg (by omega),if_pos (by omega)],hs⟩)
       ·refine Ac (Ad (Qm Y (Qm Y (Ap ?_))));refine Ax Y (λh7=>?_) (λh7=>?_)
        ·have hE:=RdEs.nil hp;refine Aw (Ar [_] Y A0 Ba Y (by rfl) Y Y (by omega) Y Y Y (λg42=>AN λh1 l1 k1=>?_));have hE:=(hE.up l1).snoc (Cb [0] 1 Y (by decide) k1);refine Ar [_] Y A0 Ba Y (by rfl) Y Y (by omega) Y Y Y (λg43=>AN λh2 l2 k2=>?_);have hE:=(hE.up l2).snoc (Cb [0] 1 Y (by decide) k2);refine Ar [_] Y A0 Ba Y (by rfl) Y Y (by omega) Y Y Y (λg44=>AN λh3 l3 k3=>?_);have hE:=(hE.up l3).snoc (Cb [0] 1 Y (by decide) k3);refine Ar [_] Y A0 Ba Y (by rfl) Y Y (by omega) Y Y Y (λg45=>AN λh4 l4 k4=>?_);have hE:=(hE.up l4).snoc (Cb [0] 1 Y (by decide) k4);refine AA [(0,_),(1,_),(2,_)] [.int .i64 0,.int .i64 0,.int .i64 0] [_,_,_] Y A0 Ba Y (by omega) (by kernel_rfl) Qt Y Y Y Y (λg46=>AN λh5 l5 k5=>?_);have hE:=(hE.up l5).snoc (Cb [1,-1,2] 3 Y (by decide) k5);refine AA [(0,_),(1,_),(2,_)] [.int .i64 0,.int .i64 0,.int .i64 0] [_,_,_] Y A0 Ba Y (by omega) (by kernel_rfl) Qt Y Y Y Y (λg47=>AN λh6 l6 k6=>?_);have hE:=(hE.up l6).snoc (Cb [1,-1,2] 3 Y (by decide) k6);refine AA [(0,_),(1,_),(2,_)] [.int .i64 0,.int .i64 0,.int .i64 0] [_,_,_] Y A0 Ba Y (by omega) (by kernel_rfl) Qt Y Y Y Y (λg48=>AN λh7 l7 k7=>?_);have hE:=(hE.up l7).snoc (Cb [1,-3,4] 3 Y (by decide) k7);refine AA [(0,_),(1,_),(2,_)] [.int .i64 0,.int .i64 0,.int .i64 0] [_,_,_] Y A0 Ba Y (by omega) (by kernel_rfl) Qt Y Y Y Y (λg49=>AN λh8 l8 k8=>?_);have hE:=(hE.up l8).snoc (Cb [1,-3,4] 3 Y (by decide) k8);refine AA [(0,_),(1,_),(2,_)] [.int .i64 0,.int .i64 0,.int .i64 0] [_,_,_] Y A0 Ba Y (by omega) (by kernel_rfl) Qt Y Y Y Y (λg50=>AN λh9 l9 k9=>?_);have hE:=(hE.up l9).snoc (Cb [1,-1,3] 3 Y (by decide) k9);refine AA [(0,_),(1,_),(2,_)] [.int .i64 0,.int .i64 0,.int .i64 0] [_,_,_] Y A0 Ba Y (by omega) (by kernel_rfl) Qt Y Y Y Y (λg51=>AN λh10 l10 k10=>?_);have hE:=(hE.up l10).snoc (Cb [1,-2,4] 3 Y (by decide) k10);refine AA [(0,_),(1,_),(2,_)] [.int .i64 0,.int .i64 0,.int .i64 0] [_,_,_] Y A0 Ba Y (by omega) (by kernel_rfl) Qt Y Y Y Y (λg52=>AN λh11 l11 k11=>?_);have hE:=(hE.up l11).snoc (Cb [1,-3,1] 3 Y (by decide) k11);refine AA [(0,_),(1,_),(2,_)] [.int .i64 0,.int .i64 0,.int .i64 0] [_,_,_] Y A0 Ba Y (by omega) (by kernel_rfl) Qt Y Y Y Y (λg53=>AN λh12 l12 k12=>?_);have hE:=(hE.up l12).snoc (Cb [1,-4,2] 3 Y (by decide) k12);refine AA [(0,_),(1,_),(2,_),(3,_),(4,_)] [.int .i64 0,.int .i64 0,.int .i64 0,.int .i64 0,.int .i64 0] [_,_,_,_,_] Y A0 Ba Y (by omega) (by kernel_rfl) Qt Y Y Y Y (λg54=>AN λh13 l13 k13=>?_);have hE:=(hE.up l13).snoc (Cb [2,5,10,-7,-9] 5 Y (by decide) k13);refine AA [(0,_),(1,_),(2,_),(3,_),(4,_)] [.int .i64 0,.int .i64 0,.int .i64 0,.int .i64 0,.int .i64 0] [_,_,_,_,_] Y A0 Ba Y (by omega) (by kernel_rfl) Qt Y Y Y Y (λg55=>AN λh14 l14 k14=>?_);have hE:=(hE.up l14).snoc (Cb [2,6,10,-8,-9] 5 Y (by decide) k14);refine AA [(0,_),(1,_),(2,_),(3,_),(4,_)] [.int .i64 0,.int .i64 0,.int .i64 0,.int .i64 0,.int .i64 0] [_,_,_,_,_] Y A0 Ba Y (by omega) (by kernel_rfl) Qt Y Y Y Y (λg56=>AN λh15 l15 k15=>?_);have hE:=(hE.up l15).snoc (Cb [2,7,12,-6,-11] 5 Y (by decide) k15);refine AA [(0,_),(1,_),(2,_),(3,_),(4,_)] [.int .i64 0,.int .i64 0,.int .i64 0,.int .i64 0,.int .i64 0] [_,_,_,_,_] Y A0 Ba Y (by omega) (by kernel_rfl) Qt Y Y Y Y (λg57=>AN λh16 l16 k16=>?_);have hE:=(hE.up l16).snoc (Cb [2,8,12,-5,-11] 5 Y (by decide) k16);refine AA [(0,_),(1,_),(2,_),(3,_),(4,_),(5,_),(6,_),(7,_),(8,_),(9,_),(10,_),(11,_),(12,_),(13,_),(14,_),(15,_)] [.slice none 0 0,.slice none 0 0,.slice none 0 0,.slice none 0 0,.slice none 0 0,.slice none 0 0,.slice none 0 0,.slice none 0 0,.slice none 0 0,.slice none 0 0,.slice none 0 0,.slice none 0 0,.slice none 0 0,.slice none 0 0,.slice none 0 0,.slice none 0 0] [_,_,_,_,_,_,_,_,_,_,_,_,_,_,_,_] Y Cu Cw Y (by omega) (by kernel_rfl) Qt Y Y Y Y (λg58=>AN λhz lz kz=>?_);have hE:=hE.up lz;have hV:=(OwnL.blk (g:=g58) (el:=22) (F:=cW) (l:=[_,_,_,_,_,_,_,_,_,_,_,_,_,_,_,_]) 16 DG Y (by decide)).rdh (ms:=[]) kz;have lall:=(AI l1 (AI l2 (AI l3 (AI l4 (AI l5 (AI l6 (AI l7 (AI l8 (AI l9 (AI l10 (AI l11 (AI l12 (AI l13 (AI l14 (AI l15 (AI l16 lz))))))))))))))))
         refine Qc call114 Y (Hg Zc _ _ hz hV hE (Hd (.inr (.inr (.inl Y)))).2 (Hd (.inr (.inr (.inl Y)))).1) (λrC hc msc lc hF=>?_);obtain⟨lc',m,A,vA,rfl,rfl,hOA,hA,hs⟩:=hF;have ovA:=hOA.o1;refine Sa 1 [_] AO Y (by simp[ovA]) ?_;refine Ap (Aq (Al (Ae ?_)));exact BB (vs:=[_]) 1 Y Y BJ Y AO Y Y (⟨AI lall lc',m,A,_,Y,Y,hOA,by rw[hA];unfold E5;rw[if_neg (by omega),if_neg (by omega),if_neg (by omega),if_neg (by omega),if_neg (by omega),if_pos (by omega)],hs⟩)
        ·refine Ac (Ad (Qm Y (Qm Y (Ap ?_))));refine Ax Y (λh8=>?_) (λh8=>?_)
         ·have hE:=RdEs.nil hp;refine Aw (Ar [_] Y A0 Ba Y (by rfl) Y Y (by omega) Y Y Y (λg62=>AN λh1 l1 k1=>?_));have hE:=(hE.up l1).snoc (Cb [0] 1 Y (by decide) k1);refine Ar [_] Y A0 Ba Y (by rfl) Y Y (by omega) Y Y Y (λg63=>AN λh2 l2 k2=>?_);have hE:=(hE.up l2).snoc (Cb [0] 1 Y (by decide) k2);refine Ar [_] Y A0 Ba Y (by rfl) Y Y (by omega) Y Y Y (λg64=>AN λh3 l3 k3=>?_);have hE:=(hE.up l3).snoc (Cb [0] 1 Y (by decide) k3);refine Ar [_] Y A0 Ba Y (by rfl) Y Y (by omega) Y Y Y (λg65=>AN λh4 l4 k4=>?_);have hE:=(hE.up l4).snoc (Cb [0] 1 Y (by decide) k4);refine AA [(0,_),(1,_),(2,_)] [.int .i64 0,.int .i64 0,.int .i64 0] [_,_,_] Y A0 Ba Y (by omega) (by kernel_rfl) Qt Y Y Y Y (λg66=>AN λh5 l5 k5=>?_);have hE:=(hE.up l5).snoc (Cb [1,-1,2] 3 Y (by decide) k5);refine AA [(0,_),(1,_),(2,_)] [.int .i64 0,.int .i64 0,.int .i64 0] [_,_,_] Y A0 Ba Y (by omega) (by kernel_rfl) Qt Y Y Y Y (λg67=>AN λh6 l6 k6=>?_);have hE:=(hE.up l6).snoc (Cb [1,-1,2] 3 Y (by decide) k6);refine AA [(0,_),(1,_),(2,_)] [.int .i64 0,.int .i64 0,.int .i64 0] [_,_,_] Y A0 Ba Y (by omega) (by kernel_rfl) Qt Y Y Y Y (λg68=>AN λh7 l7 k7=>?_);have hE:=(hE.up l7).snoc (Cb [1,-3,4] 3 Y (by decide) k7);refine AA [(0,_),(1,_),(2,_)] [.int .i64 0,.int .i64 0,.int .i64 0] [_,_,_] Y A0 Ba Y (by omega) (by kernel_rfl) Qt Y Y Y Y (λg69=>AN λh8 l8 k8=>?_);have hE:=(hE.up l8).snoc (Cb [1,-3,4] 3 Y (by decide) k8);refine AA [(0,_),(1,_),(2,_)] [.int .i64 0,.int .i64 0,.int .i64 0] [_,_,_] Y A0 Ba Y (by omega) (by kernel_rfl) Qt Y Y Y Y (λg70=>AN λh9 l9 k9=>?_);have hE:=(hE.up l9).snoc (Cb [1,-1,3] 3 Y (by decide) k9);refine AA [(0,_),(1,_),(2,_)] [.int .i64 0,.int .i64 0,.int .i64 0] [_,_,_] Y A0 Ba Y (by omega) (by kernel_rfl) Qt Y Y Y Y (λg71=>AN λh10 l10 k10=>?_);have hE:=(hE.up l10).snoc (Cb [1,-2,4] 3 Y (by decide) k10);refine AA [(0,_),(1,_),(2,_)] [.int .i64 0,.int .i64 0,.int .i64 0] [_,_,_] Y A0 Ba Y (by omega) (by kernel_rfl) Qt Y Y Y Y (λg72=>AN λh11 l11 k11=>?_);have hE:=(hE.up l11).snoc (Cb [1,-3,1] 3 Y (by decide) k11);refine AA [(0,_),(1,_),(2,_)] [.int .i64 0,.int .i64 0,.int .i64 0] [_,_,_] Y A0 Ba Y (by omega) (by kernel_rfl) Qt Y Y Y Y (λg73=>AN λh12 l12 k12=>?_);have hE:=(hE.up l12).snoc (Cb [1,-4,2] 3 Y (by decide) k12);refine AA [(0,_),(1,_),(2,_),(3,_),(4,_)] [.int .i64 0,.int .i64 0,.int .i64 0,.int .i64 0,.int .i64 0] [_,_,_,_,_] Y A0 Ba Y (by omega) (by kernel_rfl) Qt Y Y Y Y (λg74=>AN λh13 l13 k13=>?_);have hE:=(hE.up l13).snoc (Cb [2,5,10,-7,-9] 5 Y (by decide) k13);refine AA [(0,_),(1,_),(2,_),(3,_),(4,_)] [.int .i64 0,.int .i64 0,.int .i64 0,.int .i64 0,.int .i64 0] [_,_,_,_,_] Y A0 Ba Y (by omega) (by kernel_rfl) Qt Y Y Y Y (λg75=>AN λh14 l14 k14=>?_);have hE:=(hE.up l14).snoc (Cb [2,6,10,-8,-9] 5 Y (by decide) k14);refine AA [(0,_),(1,_),(2,_),(3,_),(4,_)] [.int .i64 0,.int .i64 0,.int .i64 0,.int .i64 0,.int .i64 0] [_,_,_,_,_] Y A0 Ba Y (by omega) (by kernel_rfl) Qt Y Y Y Y (λg76=>AN λh15 l15 k15=>?_);have hE:=(hE.up l15).snoc (Cb [2,7,12,-5,-11] 5 Y (by decide) k15);refine AA [(0,_),(1,_),(2,_),(3,_),(4,_)] [.int .i64 0,.int .i64 0,.int .i64 0,.int .i64 0,.int .i64 0] [_,_,_,_,_] Y A0 Ba Y (by omega) (by kernel_rfl) Qt Y Y Y Y (λg77=>AN λh16 l16 k16=>?_);have hE:=(hE.up l16).snoc (Cb [2,8,12,-6,-11] 5 Y (by decide) k16);refine AA [(0,_),(1,_),(2,_),(3,_),(4,_),(5,_),(6,_),(7,_),(8,_),(9,_),(10,_),(11,_),(12,_),(13,_),(14,_),(15,_)] [.slice none 0 0,.slice none 0 0,.slice none 0 0,.slice none 0 0,.slice none 0 0,.slice none 0 0,.slice none 0 0,.slice none 0 0,.slice none 0 0,.slice none 0 0,.slice none 0 0,.slice none 0 0,.slice none 0 0,.slice none 0 0,.slice none 0 0,.slice none 0 0] [_,_,_,_,_,_,_,_,_,_,_,_,_,_,_,_] Y Cu Cw Y (by omega) (by kernel_rfl) Qt Y Y Y Y (λg78=>AN λhz lz kz=>?_);have hE:=hE.up lz;have hV:=(OwnL.blk (g:=g78) (el:=22) (F:=cW) (l:=[_,_,_,_,_,_,_,_,_,_,_,_,_,_,_,_]) 16 DG Y (by decide)).rdh (ms:=[]) kz;have lall:=(AI l1 (AI l2 (AI l3 (AI l4 (AI l5 (AI l6 (AI l7 (AI l8 (AI l9 (AI l10 (AI l11 (AI l12 (AI l13 (AI l14 (AI l15 (AI l16 lz))))))))))))))))
          refine Qc call114 Y (Hg Zs _ _ hz hV hE (Hd (.inr (.inr (.inr Y)))).2 (Hd (.inr (.inr (.inr Y)))).1) (λrC hc msc lc hF=>?_);obtain⟨lc',m,A,vA,rfl,rfl,hOA,hA,hs⟩:=hF;have ovA:=hOA.o1;refine Sa 1 [_] AO Y (by simp[ovA]) ?_;refine Ap (Aq (Al (Ae ?_)));exact BB (vs:=[_]) 1 Y Y BJ Y AO Y Y (⟨AI lall lc',m,A,_,Y,Y,hOA,by rw[hA];unfold E5;rw[if_neg (by omega),if_neg (by omega),if_neg (by omega),if_neg (by omega),if_neg (by omega),if_neg (by omega),if_pos (by omega)],hs⟩)
         ·refine Aj (Ak (Ab (Aw (Qc call116 Y (NI 4 hp (by omega)) (λrC hc msc lc hF=>?_)))));obtain⟨lc',m,A,vA,rfl,rfl,hOA,hA,hs⟩:=hF;have ovA:=hOA.o1;refine Sa 1 [_] AO Y (by simp[ovA]) ?_;refine Ap (Aq ?_);exact BB (vs:=[_]) 1 Y Y BJ Y AO Y Y (⟨lc',m,A,_,Y,Y,hOA,by rw[hA];unfold E5;rw[if_neg (by omega),if_neg (by omega),if_neg (by omega),if_neg (by omega),if_neg (by omega),if_neg (by omega),if_neg (by omega)],hs⟩)
theorem LC(A B:List Ce)(va vb:Value)(K:Int)(hK:0<=K/\K<=1000000)(hp:Hp)(hA:RdC hp va A)(hB:RdC hp vb B)(hnA:A.length<=1000)(hnB:B.length<=1000)(hiA:∀a∈A,-1000000<=a.c.id/\a.c.id<=K)(hiB:∀b∈B,(-1000000<=b.c.id/\b.c.id<=1000000)/\b.c.sd.length<=100/\∀s∈b.c.sd,-1000000<=s.1/\s.1<=1000000) :
  FnT Tryz.prog 48 #[.agg #[va],.agg #[vb]] hp [] (λr h' ms'=>hp.le h'/\P8 h' r ms' (λo=>∃m:Int,0<=m/\m<=K/\(∀a∈A,a.c.id<=m)/\o=A.map Ce.c++(B.map Ce.c).map (Ws m))):=by
 have oa:=hA.q.rd.one;have ob:=hB.q.rd.one;refine Av func48 ntmps48 Y Y (λw0 hw0=>?_);simp only[A3];refine Aw (AY [_] Y Y (by rfl) Y Y Y (λg2=>AY [_] Y Y (by rfl) Y Y Y (λg3=>By [.slice none 0 0] Y AO Y Y (λg4=>Ap (Bk 1 Y λh1 l1 hS3=>(Bk 1 Y λh2 l2 hS2=>?_))))));have hA:=(hA.up l1).up l2;have hB:=(hB.up l1).up l2;have hS3:=hS3.le l2;have e2:∀{h},h2.le h->∀ms,Cell h ms (⟨g2,0,none⟩:Addr) va:=λl ms=>Seg.all (hS2.le l) 0 _ Y ms;have e3:∀{h},h2.le h->∀ms,Cell h ms (⟨g3,0,none⟩:Addr) vb:=λl ms=>Seg.all (hS3.le l) 0 _ Y ms;refine Aw (Qm Y (Ap ?_));refine A8 (λsl h' ms'=>∃(m:Int),sl=[(2,.pointer (some ⟨g2,0,none⟩)),(3,.pointer (some ⟨g3,0,none⟩)),(4,.pointer (some ⟨g4,0,none⟩)),(5,.int .i64 m)]/\h2=h'/\ms'=[Bw g4 29 [.slice none 0 0]]/\0<=m/\m<=K/\∀a∈A,a.c.id<=m) ?_ (λs h ms hI=>?_)
 ·refine Ac (Ad (Qm Y (Ap (Ah ?_))))
  refine AD (λq sl h' ms'=>∃(i:Nat) (m:Int),q=A.length-i/\sl=[(2,.pointer (some ⟨g2,0,none⟩)),(3,.pointer (some ⟨g3,0,none⟩)),(4,.pointer (some ⟨g4,0,none⟩)),(5,.int .i64 m),(6,.int .i64 i)]/\h2=h'/\ms'=[Bw g4 29 [.slice none 0 0]]/\i<=A.length/\0<=m/\m<=K/\∀a∈A.take i,a.c.id<=m)
   (A.length-0) _ ⟨0,0,rfl,rfl,rfl,rfl,by omega,by omega,by omega,by simp⟩ Qs ?_
  rintro q sl h' ms' ⟨i,m,rfl,rfl,rfl,rfl,hi,hm0,hm1,hm⟩;refine Ac (Aw (Qm Y (Qf B3 Y (Ql Y A9 (e2 (B8) _) (Qx (As hA.q.rd.any Y A9 Y) Y (Qm Y (Ap ?_)))))));refine Ax Y (λhlt=>?_) (λhlt=>?_)
  ·have hil:i<A.length:=by omega
   obtain⟨x,hx⟩:∃x,A[i]=x:=⟨_,Y⟩
   have hxi:=hiA x (by rw[<-hx];exact getElem_mem hil);have cx:∀ms,Cell h2 ms (((AJ va).add (i*3)).add 0) (.int .i64 x.c.id):=λms=>by rw[<-hx];exact(hA.q.any (ms:=ms)).cell (j:=i) hil (f:=0) Y
   refine Aj (Ab (Ac (Ah (Ad (Qm Y (Qf B3 Y (Ql Y A9 (e2 (B8) _) (Qm Y (Qx (BH (i) hA.q.rd.any Y A9 AL Y Y) Y (Qf Bq Y (Ql Y U3 (cx _) (Qx (GV Y Y Y) Y (Qm Y (An (Ak (Ab (Ad (Qm Y (Qx (oA Y) Y (Qm Y (An ?_)))))))))))))))))))))
   exact Am (A.length-(i+1)) _ (by omega) ⟨i+1,max m x.c.id,Y,Y,Y,Y,by omega,by omega,by omega,λa ha=>by
    rw[take_succ_eq_append_getElem hil,hx]at ha;rcases List.mem_append.1 ha with h|h
    ·have:=hm a h;omega
    ·rw[List.mem_singleton.1 h];omega⟩ Qs
  ·obtain rfl:i=A.length:=by omega
   refine Ay (Aa (Aa (Ag ?_)));exact Ao _ ⟨m,Y,Y,Y,hm0,hm1,λa ha=>hm a (by rw[take_length];exact ha)⟩ Qs
 ·obtain⟨m,rfl,rfl,rfl,hm0,hm1,hm⟩:=hI;refine Aw ?_;refine AA [] [] [] rfl A9 AL rfl (by omega) (by kernel_rfl) (by repeat (first|exact trivial|refine⟨⟨by first|rfl|exact(hA.q.rd.any).cells|exact Rd.cells ‹_›|exact(RdL.rd ‹_›).cells,rfl,rfl⟩,?_⟩)) rfl rfl rfl rfl (λg27=>?_);refine Qf B3 rfl (Ql rfl A9 (e2 (B8) _) (A6 0 (Fg g27 Cc) hA.q.any rfl A9 AL rfl (by omega) rfl rfl rfl (C5 hA.s) (by(try simp only[length_singleton,length_nil,Nat.zero_add]);omega) (by(try simp only[length_singleton,length_nil,Nat.zero_add]);omega) rfl rfl rfl (λvA mA hOA=>?_)));have ovA:=hOA.o1;rw[List.nil_append]at hOA;obtain⟨aA,cA,rfl,_⟩:=(hOA.rd (h:=hp) (ms:=[mA]) Mh).rd.ex;refine Qx (Bm XP [.slice none 0 0] [(0,_)] [_] rfl AO rfl rfl Qt rfl) rfl (By [.slice none 0 0] rfl AO rfl rfl (λg7=>?_));refine Sa 0 [_] AO rfl (by simp[Value.oneCell']) ?_;refine Ap (Ac (Aw (Qm rfl (Ap (Ah (Ig (ms':=[mA,Bw g7 29 [.slice aA A.length cA],Bw g4 29 [.slice none 0 0]]) (List.Perm.swap _ _ _) ?_))))))
  refine AD (λq sl h' ms'=>∃(i:Nat) (v:Value) (mO:Hp) (O:List Ce),q=B.length-i/\sl=[(2,.pointer (some ⟨g2,0,none⟩)),(3,.pointer (some ⟨g3,0,none⟩)),(4,.pointer (some ⟨g4,0,none⟩)),(5,.int .i64 m),(7,.pointer (some ⟨g7,0,none⟩)),(8,.int .i64 i)]/\h2.le h'/\ms'=[mO,Bw g7 29 [v],Bw g4 29 [.slice none 0 0]]/\i<=B.length/\OwnL cC 3 52 mO v O/\O.map Ce.c=A.map Ce.c++((B.take i).map Ce.c).map (Ws m)/\∀a∈O,RdL cD 2 h' [] a.v a.c.sd)
   (B.length-0) _ ⟨0,_,mA,A,rfl,rfl,B8,rfl,by omega,hOA,by simp,hA.s⟩ Qs ?_
  rintro q sl h' ms' ⟨i,v,mO,O,rfl,rfl,lh,rfl,hi,hO,hOc,hOs⟩;have hB:=hB.up lh;have ov:=hO.o1;have hOl:O.length=A.length+i:=by have:=congrArg List.length hOc;simpa[Nat.min_eq_left hi] using this
  refine Ac (Aw (Qm Y (Qf B3 Y (Ql Y A9 (e3 lh _) (Qx (As hB.q.rd.any Y A9 Y) Y (Qm Y (Ap ?_)))))));refine Ax Y (λhlt=>?_) (λhlt=>?_)
  ·have hil:i<B.length:=by omega
   obtain⟨x,hx⟩:∃x,B[i]=x:=⟨_,Y⟩
   have hxm:x∈B:=by rw[<-hx];exact getElem_mem hil
   obtain⟨hxi,hxl,hxs⟩:=hiB x hxm;have hX:=hB.s x hxm;have cx0:∀ms,Cell h' ms (((AJ vb).add (i*3)).add 0) (.int .i64 x.c.id):=λms=>by rw[<-hx];exact(hB.q.any (ms:=ms)).cell (j:=i) hil (f:=0) Y
   have cx1:∀ms,Cell h' ms (((AJ vb).add (i*3)).add 1) (.int .i64 x.c.dim):=λms=>by rw[<-hx];exact(hB.q.any (ms:=ms)).cell (j:=i) hil (f:=1) Y
   have cx2:∀ms,Cell h' ms (((AJ vb).add (i*3)).add 2) x.v:=λms=>by rw[<-hx];exact(hB.q.any (ms:=ms)).cell (j:=i) hil (f:=2) Y
   have ox:=hX.rd.one;refine Aj (Ab (Ac (Ah (Ac (Bc 16 CZ (by kernel_rfl) Y (Wf B3 Y (Wl Y A9 (e3 lh _) (Wm Y (AW (BH (i) hB.q.rd.any Y A9 AL Y Y) Y Y (Wf Bq Y (Wl Y U3 (cx0 _) (Wm Y (AW (oA Y) Y Y (Wf B3 Y (Wl Y A9 (e3 lh _) (Wm Y (AW (BH (i) hB.q.rd.any Y A9 AL Y Y) Y Y (Wf BV Y (Wl Y U3 (cx1 _) (AW (Bm Uo [.int .i64 0,.int .i64 0,.slice none 0 0] [(0,_),(1,_)] [_,_,_] Y AL Y Y Qt Y) Y Y (Wp (LR [.int .i64 0,.int .i64 0,.slice none 0 0] Y AL Y) Y Y (Iv (λg9=>?_)))))))))))))))))))))));refine Sa 0 [_,_,_] AL Y (by simp[Value.oneCell']) ?_;refine Ap (BO ?_);refine A8 (λsl h'' ms'=>∃(vs:Value) (mS:Hp),sl=[(2,.pointer (some ⟨g2,0,none⟩)),(3,.pointer (some ⟨g3,0,none⟩)),(4,.pointer (some ⟨g4,0,none⟩)),(5,.int .i64 m),(7,.pointer (some ⟨g7,0,none⟩)),(8,.int .i64 i),(9,.pointer (some ⟨g9,0,none⟩))]/\h'=h''/\ms'=[mS,Bw g9 52 [.int .i64 (x.c.id+m),.int .i64 x.c.dim,vs],mO,Bw g7 29 [v],Bw g4 29 [.slice none 0 0]]/\OwnL cD 2 119 mS vs (x.c.sd.map λs=>(s.1+m,s.2))) ?_ (λs h ms hI=>?_)
   ·refine Ac (Ad (Qm Y (Ap (Ah ?_))))
    refine AD (λq sl h'' ms'=>∃(j:Nat) (vs:Value) (mS:Hp),q=x.c.sd.length-j/\sl=[(2,.pointer (some ⟨g2,0,none⟩)),(3,.pointer (some ⟨g3,0,none⟩)),(4,.pointer (some ⟨g4,0,none⟩)),(5,.int .i64 m),(7,.pointer (some ⟨g7,0,none⟩)),(8,.int .i64 i),(9,.pointer (some ⟨g9,0,none⟩)),(10,.int .i64 j)]/\h'=h''/\ms'=[mS,Bw g9 52 [.int .i64 (x.c.id+m),.int .i64 x.c.dim,vs],mO,Bw g7 29 [v],Bw g4 29 [.slice none 0 0]]/\j<=x.c.sd.length/\OwnL cD 2 119 mS vs ((x.c.sd.take j).map λs=>(s.1+m,s.2)))
     (x.c.sd.length-0) _ ⟨0,_,Hp.emp,rfl,rfl,rfl,rfl,by omega,OwnL.nil Ek⟩ Qs ?_
    rintro q sl h'' ms' ⟨j,vs,mS,rfl,rfl,rfl,rfl,hj,hOS⟩;have ovs:=hOS.o1;refine Ac (Aw (Qm Y (Qf B3 Y (Ql Y A9 (e3 lh _) (Qm Y (Qx (BH (i) hB.q.rd.any Y A9 AL Y Y) Y (Qf Bs Y (Ql Y BQ (cx2 _) (Qx (As hX.rd.any Y BQ Y) Y (Qm Y (Ap ?_)))))))))));refine Ax Y (λhjl=>?_) (λhjl=>?_)
    ·have hjn:j<x.c.sd.length:=by omega
     obtain⟨s,hs⟩:∃s,x.c.sd[j]=s:=⟨_,Y⟩
     have hsb:=hxs s (by rw[<-hs];exact getElem_mem hjn);have cs:∀ms,Seg h' ms ((AJ x.v).add (j*2)) (cD s):=λms=>by rw[<-hs];exact(hX.any (ms:=ms)).seg hjn
     have hll:((x.c.sd.take j).map λs=>(s.1+m,s.2)).length<=100:=by rw[length_map,length_take];omega
     have hsn:((x.c.sd.take (j+1)).map λs=>(s.1+m,s.2))=((x.c.sd.take j).map λs=>(s.1+m,s.2))++[(s.1+m,s.2)]:=by rw[take_succ_eq_append_getElem hjn,map_append,hs];rfl
     refine Aj (Ab (Ac (Ah (Aw (Qf B3 Y (Ql Y A9 (e3 lh _) (Qm Y (Qx (BH (i) hB.q.rd.any Y A9 AL Y Y) Y (Qf Bs Y (Ql Y BQ (cx2 _) (Qm Y (Qx (BH (j) hX.rd.any Y BQ AQ Y Y) Y (Qx (oG Y Du AQ (cs _)) Y (By [.int .i64 0,.int .i64 0] Y AQ Y Y (λg11=>?_)))))))))))))));refine Sa 0 [_,_] AQ Y (by simp[Value.oneCell']) ?_;refine BN (Qf B6 Y (Ql Y U3 (Cell.blk 0 Y Y) (Qm Y (Qx (oA Y) Y (Qf B6 Y ?_)))));refine Af 0 _ Y Ba Y Y (by rfl) Y Y (by(simp;done)) rfl rfl ?_;refine GH (Qf Bs Y (Ql Y BQ (Cell.blk 2 Y Y) (Qx (oG Y Du AQ (Seg.blk 0 Y)) Y (Ar [_,_] Y BQ AQ Y (by rfl) Y Y (by omega) Y Y Y (λg82=>AZ 2 hOS (RdL.one Ek (x:=(s.1+m,s.2)) Mh Y) Y BQ AQ Y (by omega) Y Y Y Gx (by(try simp only[length_singleton]);omega) (by(try simp only[length_singleton]);omega) rfl rfl rfl (λv9 m9 hO9=>?_))))));rw[<-hsn]at hO9;have ov9:=hO9.o1;refine Qf Bs Y ?_;refine Af 3 _ Y Sq Y Y (by assumption) Y Y (by(simp;done)) rfl rfl ?_;refine An (Ak (Ab (Ad (Qm Y (Qx (oA Y) Y (Qm Y (An (Bd 0 Y (Bd 0 Y ?_)))))))));exact Am (x.c.sd.length-(j+1)) _ (by omega) ⟨j+1,v9,m9,Y,Y,Y,Y,by omega,hO9⟩ Qs
    ·obtain rfl:j=x.c.sd.length:=by omega
     refine Ay (Aa (Aa (Ag ?_)));exact Ao _ ⟨vs,mS,Y,Y,Y,by rw[take_length]at hOS;exact hOS⟩ Qs
   ·obtain⟨vs,mS,rfl,rfl,rfl,hOS⟩:=hI;obtain⟨aS,cS,rfl,_⟩:=(hOS.rd (h:=hp) (ms:=[mS]) Mh).rd.ex;refine Bt λh3 l3 k3=>?_;have hRS:=hOS.rdh (ms:=[]) k3;have oS_:=hRS.rd.one
    let ce:Ce:=⟨Ws m x.c,.slice aS (x.c.sd.map λs=>(s.1+m,s.2)).length cS⟩
    have hce:RdL cD 2 h3 [] ce.v ce.c.sd:=hRS;refine Ad (Qf B3 Y (Ql Y A9 (Cell.blk 2 Y Y) (Qx (oG Y D1 AL (Seg.blk 0 Y)) Y (Ar [_,_,_] Y A9 AL Y (by rfl) Y Y (by omega) Y Y Y (λg88=>?_)))));refine A6 2 hO (RdL.one Cc (x:=ce) Mh Y) Y A9 AL Y (by omega) Y Y Y (C5 (l:=[ce]) (h:=h3) λy hy=>by rw[List.mem_singleton.1 hy];exact hce) (by(try simp only[length_singleton]);omega) (by(try simp only[length_singleton]);omega) rfl rfl rfl (λv9 m9 hO9=>?_);have ov9:=hO9.o1;refine Qf B3 Y ?_;refine Af 3 _ Y IK Y Y (by assumption) Y Y (by(simp;done)) rfl rfl ?_;refine An (Ak (Ab (Ad (Qm Y (Qx (oA Y) Y (Qm Y (An (Bd 0 Y (Bd 0 Y ?_)))))))));exact Am (B.length-(i+1)) _ (by omega) ⟨i+1,v9,m9,O++[ce],Y,Y,AI lh l3,Y,by omega,hO9,by rw[map_append,hOc,take_succ_eq_append_getElem hil,map_append,map_append,hx,append_assoc];rfl,RdC.snoc' (λa ha=>(hOs a ha).up l3) hce⟩ Qs
  ·obtain rfl:i=B.length:=by omega
   refine Ay (Aa (Aa (Ag (Ab (Aw (Qx (oG Y BJ AO (Seg.blk 1 Y)) Y ?_))))));refine Sa 2 [_] AO Y (by simp[oa,ob,ov]) ?_;refine Ap (Aq (Bd 1 Y ?_));exact BB (vs:=[_]) 1 Y Y BJ Y AO Y Y (⟨AI l1 (AI l2 lh),mO,O,_,Y,Y,hO,⟨m,hm0,hm1,hm,by rw[hOc,take_length]⟩,hOs⟩)
variable {o:List Cl}
theorem Et{l:List Cl}(R:Rgt l):Fs l=ordF l:=by have F:=R.ordF;refine PG _ _ (λ_=>nofun) λi hi e=>?_;have:=List.pairwise_iff_getElem.1 F.inc i (i+1) (by omega) hi (by omega);omega
theorem Rgt.cs{l:List Ce}(R:Rgt (l.map Ce.c)):CsOk l:=by have hn:=R.n;rw[length_map]at hn;exact⟨by omega,λa ha=>by have:=(R.bds (List.mem_map.2 ⟨a,ha,Y⟩)).2;omega⟩
def WE(o:List Cl)(i j k:Nat):Bool:=(o.take i).any (λy=>y.sd.any λs=>decide (s.1=(o.getD k default).id))||((o.getD i default).sd.take j).any λs=>decide (s.1=(o.getD k default).id)
def Lk(o:List Cl)(i j:Nat):List Bool:=(range o.length).map (WE o i j)
theorem FA(o:List Cl)(i j:Nat):(Lk o i j).length=o.length:=by simp[Lk]
theorem V7(o:List Cl):Lk o 0 0=replicate o.length false:=by unfold Lk;refine List.ext_getElem (by simp) λk h1 h2=>?_;simp[WE]
theorem WY{i:Nat}(hi:i<o.length):Lk o i o[i].sd.length=Lk o (i+1) 0:=by unfold Lk;refine List.map_congr_left λk hk=>?_;unfold WE;rw[show o.getD i default=o[i] by simp[List.getD,hi],take_length,take_succ_eq_append_getElem hi,List.any_append];simp
theorem Wa(R:RgtF o){i j:Nat}(hi:i<o.length)(hj:j<o[i].sd.length){k:Nat}(hk:I1 o o[i].sd[j].1=k):(Lk o i j).set k true=Lk o i (j+1):=by
 have G:=R.rgt;obtain⟨y,hy,e1,_⟩:=G.sid _ (getElem_mem hi) _ (getElem_mem hj);obtain⟨h1,h2⟩:=Hw R.inc hy;rw[e1,hk]at h1 h2;rw[Int.toNat_natCast]at h2;have hkl:k<o.length:=by have:=HP o o[i].sd[j].1;omega
 refine List.ext_getElem (by rw[length_set,FA,FA]) λq hq1 hq2=>?_;have hq:q<o.length:=by rw[FA]at hq2;exact hq2
 have hg:o.getD i default=o[i]:=by simp[List.getD,hi]
 have hT:WE o i (j+1) q=(WE o i j q||decide (o[i].sd[j].1=(o.getD q default).id)):=by unfold WE;rw[hg,take_succ_eq_append_getElem hj,List.any_append,Bool.or_assoc];simp
 have hr:(Lk o i (j+1))[q]=WE o i (j+1) q:=by simp[Lk]
 have hl:(Lk o i j)[q]'(by rw[FA];exact hq)=WE o i j q:=by simp[Lk]
 rw[hr,hT,List.getElem_set];by_cases e:k=q
 ·subst e;rw[if_pos rfl,h2,e1];simp
 ·rw[if_neg e,hl];have hne:o[i].sd[j].1≠(o.getD q default).id:=λh=>e (Kl G.nd hkl hq (by rw[h2,e1,h]));rw[decide_eq_false hne,Bool.or_false]
theorem WQ{k:Nat}(hk:k<o.length):(Lk o o.length 0)[k]'(by rw[FA];exact hk)=o.any λy=>y.sd.any λs=>decide (s.1=o[k].id):=by
 have:(Lk o o.length 0)[k]'(by rw[FA];exact hk)=WE o o.length 0 k:=by simp[Lk]
 rw[this];unfold WE;rw[take_length,show o.getD k default=o[k] by simp[List.getD,hk]];simp
def Nc(o:List Cl)(x:Cl):Bool:=!(o.any λy=>y.sd.any λs=>decide (s.1=x.id))
theorem Xb(l:List Ce)(v:Value)(hp:Hp)(hK:RgC l)(hR:RdC hp v l):FnT Tryz.prog 47 #[.agg #[v]] hp [] (λr h' ms'=>hp.le h'/\∃m,ms'=[m]/\OwnL cI 1 3 m r (Ix (cn l))):=by
 have o1:=hR.q.rd.one;have hln:=hK.r.n;rw[length_map]at hln;refine Av func47 ntmps47 Y Y (λw0 hw0=>?_);simp only[A3];refine Aw (AY [_] Y Y (by rfl) Y Y Y (λg1=>Qm Y (Ap (Bk 0 Y λh1 l1 hS=>?_))));have hR:=hR.up l1;refine Aw (Qm Y (BN (Qx (oG Y BJ AO (Seg.any hS)) Y (Qc call49 Y (Fm l v h1 hK.r.cs hR) (λrC h2 ms2 l2 hF=>?_)))));obtain⟨l2',mC,A,rfl,hOC,hA,hAs⟩:=hF;rw[Et hK.r]at hA;obtain⟨o,ho⟩:∃o,cn l=o:=⟨_,Y⟩
 have hA:A.map Ce.c=o:=by rw[hA,<-ho];rfl
 have F:RgtF o:=by rw[<-ho];exact hK.F
 have G:=F.rgt;rw[ho];have hAl:A.length=o.length:=by rw[<-hA,length_map]
 have hol:o.length<=4000:=G.n;have oC:=hOC.o1;refine Qm Y (Ap (Bu hOC λh3 l3 hQ=>?_));have hAs:∀a∈A,RdL cD 2 h3 [] a.v a.c.sd:=λa ha=>(hAs a ha).up l3;have l13:=AI l2' l3;have hge:∀i (hi:i<A.length),o[i]'(by omega)=A[i].c:=λi hi=>by subst hA;simp
 refine Aw (Qm Y (Qx (As hQ.rd.any Y A9 Y) Y (CQ (n:=_) Y P5 WH Y Y Y (by rfl) (by rfl) (by omega) (by omega) Y Y Y (λg14=>Qm Y (Ap ?_)))));have hO5:=Rm g14 A.length (by omega);rw[hAl,<-V7]at hO5;refine BO ?_;refine A8 (λsl h' ms'=>∃(m5:Hp),sl=[(3,.slice none 0 0),(4,rC),(5,.slice (some ⟨g14,0,none⟩) A.length A.length)]/\h3=h'/\ms'=[Hp.emp,m5]/\OwnL cB 1 4 m5 (.slice (some ⟨g14,0,none⟩) A.length A.length) (Lk o A.length 0)) ?_ (λs h ms hI=>?_)
 ·refine Ac (Ad (Qm Y (Ap (Ah ?_))))
  refine AD (λq sl h' ms'=>∃(i:Nat) (m5:Hp),q=A.length-i/\sl=[(3,.slice none 0 0),(4,rC),(5,.slice (some ⟨g14,0,none⟩) A.length A.length),(6,.int .i64 i)]/\h3=h'/\ms'=[Hp.emp,m5]/\i<=A.length/\OwnL cB 1 4 m5 (.slice (some ⟨g14,0,none⟩) A.length A.length) (Lk o i 0))
   (A.length-0) _ ⟨0,_,rfl,rfl,rfl,rfl,by omega,by rw[hAl];exact hO5⟩ Qs ?_
  rintro q sl h' ms' ⟨i,m5,rfl,rfl,rfl,rfl,hi,hO5⟩;refine Ac (Aw (Qm Y (Qm Y (Qx (As hQ.rd.any Y A9 Y) Y (Qm Y (Ap ?_))))));refine Ax Y (λhlt=>?_) (λhlt=>?_)
  ·have hil:i<A.length:=by omega
   have hio:i<o.length:=by omega
   obtain⟨x,hx⟩:∃x,A[i]=x:=⟨_,Y⟩
   have hxm:x∈A:=by rw[<-hx];exact getElem_mem hil
   have hxo:o[i]=x.c:=by rw[hge i hil,hx]
   have hX:=hAs x hxm;have oX:=hX.rd.one;have hxl:x.c.sd.length<=64:=by have:=(F.bds (getElem_mem hio)).2.1;rwa [hxo]at this
   have cx:∀ms,Cell h3 ms (((AJ rC).add (i*3)).add 2) x.v:=λms=>by rw[<-hx];exact(hQ.any (ms:=ms)).cell (j:=i) hil (f:=2) Y
   refine Aj (Ab (Ac (Ah (Aw (Qm Y (Ap (Ah ?_)))))))
   refine AD (λq sl h' ms'=>∃(j:Nat) (m5:Hp),q=x.c.sd.length-j/\sl=[(3,.slice none 0 0),(4,rC),(5,.slice (some ⟨g14,0,none⟩) A.length A.length),(6,.int .i64 i),(7,.int .i64 j)]/\h3=h'/\ms'=[Hp.emp,m5]/\j<=x.c.sd.length/\OwnL cB 1 4 m5 (.slice (some ⟨g14,0,none⟩) A.length A.length) (Lk o i j))
    (x.c.sd.length-0) _ ⟨0,m5,rfl,rfl,rfl,rfl,by omega,hO5⟩ Qs ?_
   rintro q sl h' ms' ⟨j,m5,rfl,rfl,rfl,rfl,hj,hO5⟩;refine Ac (Aw (Qm Y (Qm Y (Qm Y (Qx (BH (i) hQ.rd.any Y A9 AL Y Y) Y (Qf Bs Y (Ql Y BQ (cx _) (Qx (As hX.rd.any Y BQ Y) Y (Qm Y (Ap ?_))))))))));refine Ax Y (λhjl=>?_) (λhjl=>?_)
   ·have hjn:j<x.c.sd.length:=by omega
    obtain⟨s,hs⟩:∃s,x.c.sd[j]=s:=⟨_,Y⟩
    have cs:∀ms,Cell h3 ms (((AJ x.v).add (j*2)).add 0) (.int .i64 s.1):=λms=>by
     have:Seg h3 ms ((AJ x.v).add (j*2)) (cD s):=by rw[<-hs];exact(hX.any (ms:=ms)).seg hjn
     exact this 0 _ Y
    obtain⟨y,hy,ey,_⟩:=G.sid _ (getElem_mem hio) s (by rw[hxo,<-hs];exact getElem_mem hjn);have hat:=(Hw F.inc hy).1;rw[ey]at hat;obtain⟨k,hk⟩:∃k:Nat,I1 o s.1=k:=⟨_,(Int.toNat_of_nonneg hat).symm⟩
    have hko:k<o.length:=by have:=HP o s.1;omega
    have hkM:k<(Lk o i j).length:=by rw[FA];exact hko
    have hmk:=Wa F hio (j:=j) (by rw[hxo];exact hjn) (k:=k) (by simp only[hxo,hs];exact hk);refine Aj (Ab (Ac (Ah (Aw (Qm Y (Qm Y (Qm Y (Qx (BH (i) hQ.rd.any Y A9 AL Y Y) Y (Qf Bs Y (Ql Y BQ (cx _) (Qm Y (Qx (BH (j) hX.rd.any Y BQ AQ Y Y) Y (Qf B6 Y (Ql Y U3 (cs _) ?_))))))))))))));refine Qx (AR Y call117 Y ((by have:=VC A rC s.1 h3 (by omega) (by rw[hA];exact F.inc.imp λh=>Int.le_of_lt h) hQ [Hp.emp,m5];rwa [hA,hk]at this))) rfl ?_;refine Qm Y (BN (Qm Y (Qm Y (Ap ?_))));refine Ax Y (λhc=>?_) (λhc=>absurd (by omega) hc);refine Ad (Qm Y (Qm Y (Qx (Cn (k) Y P5 WH Y Y (by omega) (by omega)) Y (CW (F:=cB) (f:=λx=>.bool x) (a:=true) 1 k (λ_=>rfl) hO5 Y WH Y Y Y Y hkM Y Y (λm6 hO6=>?_)))));rw[hmk]at hO6;refine An (Ak (Ab (Ad (Qm Y (Qx (oA Y) Y (Qm Y (An ?_)))))));exact Am (x.c.sd.length-(j+1)) _ (by omega) ⟨j+1,m6,Y,Y,Y,Y,by omega,hO6⟩ Qs
   ·obtain rfl:j=x.c.sd.length:=by omega
    refine Ay (Aa (Aa (Ag (Ak (Ab (Ad (Qm Y (Qx (oA Y) Y (Qm Y (An ?_))))))))));exact Am (A.length-(i+1)) _ (by omega) ⟨i+1,m5,Y,Y,Y,Y,by omega,by rw[<-WY hio,hxo];exact hO5⟩ Qs
  ·obtain rfl:i=A.length:=by omega
   refine Ay (Aa (Aa (Ag ?_)));exact Ao _ ⟨m5,Y,Y,Y,hO5⟩ Qs
 ·obtain⟨m5,rfl,rfl,rfl,hO5⟩:=hI;refine DT 1 Y (Bt λh4 l4 k4=>?_);have hB:=hO5.rdh (ms:=[]) k4;have hQ:=hQ.up l4
  have htk:∀i (hi:i<o.length),((o.take (i+1)).filter (Nc o)).map Cl.id=((o.take i).filter (Nc o)).map Cl.id++if Nc o o[i] then [o[i].id] else []:=λi hi=>by rw[take_succ_eq_append_getElem hi,filter_append,map_append];congr 1;cases h:Nc o o[i]<;>simp[filter_cons,h]
  refine Ac (Aw (Qm Y (Ap (Ah ?_))))
  refine AD (λq sl h' ms'=>∃(i:Nat) (v:Value) (m:Hp),q=A.length-i/\sl=[(3,v),(4,rC),(5,.slice (some ⟨g14,0,none⟩) A.length A.length),(9,.int .i64 i)]/\h4=h'/\ms'=[m]/\i<=A.length/\OwnL cI 1 3 m v (((o.take i).filter (Nc o)).map Cl.id))
   (A.length-0) _ ⟨0,_,Hp.emp,rfl,rfl,rfl,rfl,by omega,OwnL.nil Bl⟩ Qs ?_
  rintro q sl h' ms' ⟨i,v3,m3,rfl,rfl,rfl,rfl,hi,hO3⟩;have ov3:=hO3.o1;refine Ac (Aw (Qm Y (Qm Y (Qx (As hQ.rd.any Y A9 Y) Y (Qm Y (Ap ?_))))));refine Ax Y (λhlt=>?_) (λhlt=>?_)
  ·have hil:i<A.length:=by omega
   have hio:i<o.length:=by omega
   obtain⟨x,hx⟩:∃x,A[i]=x:=⟨_,Y⟩
   have hxo:o[i]=x.c:=by rw[hge i hil,hx]
   have hmi:i<(Lk o A.length 0).length:=by rw[FA];exact hio
   have hmk:(Lk o A.length 0)[i]=!Nc o o[i]:=by have:=WQ hio;unfold Nc;rw[Bool.not_not,<-this];simp only[hAl]
   have cb:∀ms,Cell h4 ms ((AJ (.slice (some ⟨g14,0,none⟩) A.length A.length)).add (i*1)) (.bool (!Nc o o[i])):=λms=>by rw[<-hmk];exact(hB.any (ms:=ms)).cell0 hmi Y
   have cx:∀ms,Cell h4 ms (((AJ rC).add (i*3)).add 0) (.int .i64 x.c.id):=λms=>by rw[<-hx];exact(hQ.any (ms:=ms)).cell (j:=i) hil (f:=0) Y
   have hfl:(((o.take i).filter (Nc o)).map Cl.id).length<=4000:=by rw[length_map];exact Nat.le_trans (List.length_filter_le _ _) (by rw[length_take];omega)
   have hk:=htk i hio;refine Aj (Ab (Ac (Ah (Aw (Qm Y (Qm Y (Qx (Cn (i) Y P5 WH Y Y (by omega) (by omega)) Y (Ql Y U4 (cb _) (Qm Y (Ap ?_))))))))));refine Bz Y (λhb=>?_) (λhb=>?_)
   ·rw[Bool.not_not]at hb;rw[hb,if_pos rfl,hxo]at hk;refine Ad (Qm Y (Qm Y (Qm Y (Qx (BH (i) hQ.rd.any Y A9 AL Y Y) Y (Qf Bq Y (Ql Y U3 (cx _) (Ar [_] Y A0 Ba Y (by rfl) Y Y (by omega) Y Y Y (λg64=>AZ 1 hO3 (RdL.one Bl (x:=x.c.id) Mh Y) Y A0 Ba Y (by omega) Y Y Y Ck (by(try simp only[length_singleton]);omega) (by(try simp only[length_singleton]);omega) rfl rfl rfl (λv9 m9 hO9=>?_)))))))));rw[<-hk]at hO9;have ov9:=hO9.o1;refine Qm Y (An (Ak (Ab (Ad (Qm Y (Qx (oA Y) Y (Qm Y (An (AS ?_)))))))));exact Am (A.length-(i+1)) _ (by omega) ⟨i+1,v9,m9,Y,Y,Y,Y,by omega,hO9⟩ Qs
   ·rw[Bool.not_not]at hb;rw[hb,if_neg (by decide),append_nil]at hk;refine Aj (Ak (Ab (Ad (Qm Y (Qx (oA Y) Y (Qm Y (An ?_)))))));exact Am (A.length-(i+1)) _ (by omega) ⟨i+1,v3,m3,Y,Y,Y,Y,by omega,by rw[hk];exact hO3⟩ Qs
  ·obtain rfl:i=A.length:=by omega
   refine Ay (Aa (Aa (Ag (Ab (Aw (Qm Y (Qm Y (Ap (Aq ?_)))))))));exact Az Y Y (⟨AI l1 (AI l2' (AI l3 l4)),m3,Y,by rw[hAl,take_length]at hO3;exact hO3⟩)
end Go.Proofs.Q
namespace Go.Proofs.Q
open Go.Eng Go.RowKit
variable {o:List Cl} {M:List Bool} {c0 x:Int} {Q:List Int} {k:Nat}
def MkC(o:List Cl)(M:List Bool)(x:Int):Prop:=∃k,k<o.length/\(o.getD k default).id=x/\M.getD k false=true
structure ReI(o:List Cl)(c0:Int)(M:List Bool)(Q:List Int):Prop where
 len:M.length=o.length
 rM:∀x,MkC o M x->Rch (LX o) c0 x
 rQ:∀x∈Q,Rch (LX o) c0 x
 st:c0∈Q\/MkC o M c0
 cl:∀x,MkC o M x->∀s∈LX o x,s∈Q\/MkC o M s
theorem ReI.start(o:List Cl)(c0:Int):ReI o c0 (replicate o.length false) [c0]:=by
 have hn:∀x,¬MkC o (replicate o.length false) x:=λx ⟨k,hk,_,h⟩=>by simp[List.getD,hk]at h
 exact⟨by simp,λx h=>absurd h (hn x),λx h=>by rw[List.mem_singleton.1 h];exact .refl _,.inl (List.mem_singleton.2 Y),λx h=>absurd h (hn x)⟩
theorem ReI.mem(R:Rgt o)(hc:c0∈o.map Cl.id)(I:ReI o c0 M Q)(h:Rch (LX o) c0 x):∃y∈o,y.id=x:=by
 have:x∈o.map Cl.id:=by
  induction h with
  | refl=>exact hc
  | step h hk ih=>
   obtain⟨z,hz,rfl⟩:=List.mem_map.1 ih;unfold LX at hk;rw[CS R.nd hz]at hk;obtain⟨s,hs,rfl⟩:=List.mem_map.1 hk;obtain⟨w,hw,e,_⟩:=R.sid z hz s hs;exact List.mem_map.2 ⟨w,hw,e⟩
 obtain⟨y,hy,e⟩:=List.mem_map.1 this;exact⟨y,hy,e⟩
theorem ReI.skip(I:ReI o c0 M (x::Q))(hx:MkC o M x):ReI o c0 M Q:=by
 refine⟨I.len,I.rM,λy hy=>I.rQ y (mem_cons_of_mem _ hy),?_,λy hy s hs=>?_⟩
 ·rcases I.st with h|h
  ·rcases List.mem_cons.1 h with rfl|h
   ·exact .inr hx
   ·exact .inl h
  ·exact .inr h
 ·rcases I.cl y hy s hs with h|h
  ·rcases List.mem_cons.1 h with rfl|h
   ·exact .inr hx
   ·exact .inl h
  ·exact .inr h
theorem MkC.set(hk:k<M.length):MkC o (M.set k true) x<->MkC o M x\/(k<o.length/\(o.getD k default).id=x):=by
 constructor
 ·rintro⟨q,h1,h2,h3⟩;by_cases e:k=q
  ·subst e;exact .inr ⟨h1,h2⟩
  ·refine .inl ⟨q,h1,h2,?_⟩
   rwa [show(M.set k true).getD q false=M.getD q false by simp[List.getD,List.getElem?_set_ne e]]at h3
 ·rintro(⟨q,h1,h2,h3⟩|⟨h1,h2⟩)
  ·refine⟨q,h1,h2,?_⟩;by_cases e:k=q
   ·subst e;simp[List.getD,hk]
   ·rw[show(M.set k true).getD q false=M.getD q false by simp[List.getD,List.getElem?_set_ne e]];exact h3
  ·exact⟨k,h1,h2,by simp[List.getD,hk]⟩
theorem ReI.mark(R:Rgt o)(I:ReI o c0 M (x::Q))(hk:k<o.length)(e:(o.getD k default).id=x):ReI o c0 (M.set k true) (Q++(o.getD k default).sd.map Prod.fst):=by
 have hkM:k<M.length:=by rw[I.len];exact hk
 have hs:LX o x=(o.getD k default).sd.map Prod.fst:=by unfold LX;rw[<-e,CS R.nd (DZ hk)]
 have hrx:=I.rQ x Mh;refine⟨by rw[length_set];exact I.len,λy hy=>?_,λy hy=>?_,?_,λy hy s hs'=>?_⟩
 ·rcases (MkC.set hkM).1 hy with h|⟨_,h⟩
  ·exact I.rM y h
  ·rw[<-h,e];exact hrx
 ·rcases List.mem_append.1 hy with h|h
  ·exact I.rQ y (mem_cons_of_mem _ h)
  ·exact .step hrx (by rw[hs];exact h)
 ·rcases I.st with h|h
  ·rcases List.mem_cons.1 h with rfl|h
   ·exact .inr ((MkC.set hkM).2 (.inr ⟨hk,e⟩))
   ·exact .inl (List.mem_append.2 (.inl h))
  ·exact .inr ((MkC.set hkM).2 (.inl h))
 ·rcases (MkC.set hkM).1 hy with h|⟨_,h⟩
  ·rcases I.cl y h s hs' with h2|h2
   ·rcases List.mem_cons.1 h2 with rfl|h2
    ·exact .inr ((MkC.set hkM).2 (.inr ⟨hk,e⟩))
    ·exact .inl (List.mem_append.2 (.inl h2))
   ·exact .inr ((MkC.set hkM).2 (.inl h2))
  ·rw[<-h,e,hs]at hs';exact .inl (List.mem_append.2 (.inr hs'))
theorem ReI.all(R:Rgt o)(hc:c0∈o.map Cl.id)(I:ReI o c0 M [])(hk:k<o.length):M.getD k false=true<->(o.getD k default).id∈UA o c0:=by
 have hcl:∀x,Rch (LX o) c0 x->MkC o M x:=λx h=>by
  induction h with
  | refl=>exact I.st.resolve_left nofun
  | step h hk' ih=>exact(I.cl _ ih _ hk').resolve_left nofun
 rw[cloL_mem];constructor
 ·intro h;exact⟨List.mem_map.2 ⟨_,DZ hk,Y⟩,I.rM _ ⟨k,hk,Y,h⟩⟩
 ·rintro⟨_,h⟩;obtain⟨q,h1,h2,h3⟩:=hcl _ h;have:=Kl R.nd h1 hk h2;subst this;exact h3
def Sx(M:List Bool)(Q:List Int):Nat:=M.count false*70+Q.length
theorem Vd(hk:k<M.length)(h:M.getD k false=false){S:List Int}(hS:S.length<=64):Sx (M.set k true) (Q++S)<Sx M (x::Q):=by
 have hc:(M.set k true).count false+1=M.count false:=by
  have hg:M[k]=false:=by simpa[List.getD,hk] using h
  have h1:=List.count_set (a:=true) (b:=false) (l:=M) (i:=k) hk;rw[hg]at h1;have h2:0<M.count false:=List.count_pos_iff.2 (by rw[<-hg];exact getElem_mem hk);simp at h1;omega
 unfold Sx;rw[length_append,length_cons];omega
theorem Wt(M:List Bool)(x:Int)(Q:List Int):Sx M Q<Sx M (x::Q):=by unfold Sx;rw[length_cons];omega
def Jk(o:List Cl)(M:List Bool)(n:Nat):List Int:=((range n).filter λk=>M.getD k false).map λk=>(o.getD k default).id
theorem VX(R:Rgt o)(hc:c0∈o.map Cl.id)(I:ReI o c0 M [])(x:Int):x∈Jk o M o.length<->x∈UA o c0:=by
 unfold Jk;rw[mem_map];constructor
 ·rintro⟨k,hk,rfl⟩;obtain⟨h1,h2⟩:=List.mem_filter.1 hk;exact(I.all R hc (List.mem_range.1 h1)).1 h2
 ·intro h;obtain⟨y,hy,rfl⟩:=List.mem_map.1 (cloL_mem.1 h).1;obtain⟨h1,h2⟩:=Hj hy R.nd;refine⟨O5 o y.id,List.mem_filter.2 ⟨List.mem_range.2 h1,?_⟩,by rw[h2]⟩;exact(I.all R hc h1).2 (by rw[h2];exact h)
theorem R0(o:List Cl)(M:List Bool)(n:Nat):Jk o M (n+1)=Jk o M n++if M.getD n false then [(o.getD n default).id] else []:=by
 unfold Jk;rw[range_succ,filter_append,map_append];congr 1;cases h:M.getD n false
 ·rw[filter_cons,h];simp
 ·rw[filter_cons,h];simp
def nM(L:List Int)(k:Int):Int:=L.getD (k%(L.length:Int)).toNat 0%6
def QN(L:List Int)(ks:List Int):Int:=if L=[] then 0 else ks.foldl (λm k=>max m (nM L k)) 0
theorem Gz(L:List Int)(x:Int):∀(ks:List Int) (m:Int),ks.foldl (λm k=>max m (nM L k)) m<=x<->m<=x/\∀k∈ks,nM L k<=x
 | [],m=>by simp
 | k::ks,m=>by rw[List.foldl_cons,Gz L x ks];simp only[mem_cons,forall_eq_or_imp,Int.max_le];exact⟨λ⟨⟨a,b⟩,c⟩=>⟨a,b,c⟩,λ⟨a,b,c⟩=>⟨⟨a,b⟩,c⟩⟩
theorem YM(L:List Int)(k:Int):0<=nM L k/\nM L k<=5:=by unfold nM;omega
theorem P9(L ks:List Int):0<=QN L ks/\QN L ks<=5:=by
 unfold QN;split
 ·decide
 ·have h1:=((Gz L (ks.foldl (λm k=>max m (nM L k)) 0) ks 0).1 (Int.le_refl _)).1;have h2:=(Gz L 5 ks 0).2 ⟨by decide,λk _=>(YM L k).2⟩;exact⟨h1,h2⟩
theorem KD{L ks ks':List Int}(h:∀k∈ks,k∈ks'):QN L ks<=QN L ks':=by
 unfold QN;split
 ·exact Int.le_refl _
 ·have h1:=(Gz L (ks'.foldl (λm k=>max m (nM L k)) 0) ks' 0).1 (Int.le_refl _);exact(Gz L _ ks 0).2 ⟨h1.1,λk hk=>h1.2 k (h k hk)⟩
theorem Td{L ks ks':List Int}(h:∀k,k∈ks<->k∈ks'):QN L ks=QN L ks':=Int.le_antisymm (KD λk hk=>(h k).1 hk) (KD λk hk=>(h k).2 hk)
noncomputable def FN(o:List Cl)(L:List Int)(c:Int):Int:=QN L (UA o c)
theorem SL(G:Rgt o)(L:List Int){x:Cl}(hx:x∈o){s:Int×Int}(hs:s∈x.sd):FN o L s.1<=FN o L x.id:=by refine KD λk hk=>?_;rw[cloL_mem]at hk ⊢;refine⟨hk.1,Rch.trans (Rch.step (Rch.refl _) ?_) hk.2⟩;unfold LX;rw[CS G.nd hx];exact List.mem_map.2 ⟨s,hs,Y⟩
noncomputable def Fp(o:List Cl)(L:List Int)(f:Int)(n:Nat):List (Int×Int):=(o.take n).map λx=>(x.id,FN o L x.id*f)
theorem ZR(G:Rgt o)(L:List Int)(f:Int)(hf:0<=f/\f<=1000):Xw o (Fp o L f o.length):=by
 have hb:∀c,0<=FN o L c/\FN o L c<=5:=λc=>P9 _ _;have hm:∀a b:Int,a<=b->a*f<=b*f:=λa b h=>Int.mul_le_mul_of_nonneg_right h hf.1
 have:=VI G (λc=>FN o L c*f) (λy _=>by
  have h1:=hb y.id;have h2:=hm 0 _ h1.1;have h3:=hm _ 5 h1.2
  constructor<;>omega) λx hx s hs=>hm _ _ (SL G L hx hs)
 unfold Fp
 rwa [take_length]
end Go.Proofs.Q

namespace Go.Proofs.Q
open Go.Proofs.Tryz
open Go.Eng Go.RowKit
theorem Pw(A:List Ce)(v vq:Value)(c0:Int)(hp:Hp)(F:RgtF (A.map Ce.c))(hc:c0∈(A.map Ce.c).map Cl.id)(hR:RdL cC 3 hp [] v A)(hAs:∀a∈A,RdL cD 2 hp [] a.v a.c.sd)(hq:RdL cI 1 hp [] vq [c0]):FnT Tryz.prog 119 #[v,vq] hp [] (λr h' ms'=>hp.le h'/\∃m M,ms'=[m]/\OwnL cB 1 4 m r M/\ReI (A.map Ce.c) c0 M []):=by
 have o1:=hR.rd.one;have o2:=hq.rd.one;have G:=F.rgt;obtain⟨o,ho⟩:∃o,A.map Ce.c=o:=⟨_,Y⟩
 rw[ho]at F G hc;rw[ho];have hAl:A.length=o.length:=by rw[<-ho,length_map]
 have hol:o.length<=4000:=G.n;have hge:∀i (hi:i<A.length),o[i]'(by omega)=A[i].c:=λi hi=>by subst ho;simp
 refine Av func119 ntmps119 rfl rfl (λw0 hw0=>?_);simp only[A3];refine Aw (Qm rfl (BN (Qm rfl (Qx (As hR.rd.any rfl A9 rfl) rfl (CQ (n:=_) rfl P5 WH rfl rfl rfl (by rfl) (by rfl) (by omega) (by omega) rfl rfl rfl (λg11=>Qm rfl (Ap ?_)))))));have hM0:=Rm g11 A.length (by omega);refine Aw ?_;refine AA [] [] [] rfl A0 Ba rfl (by omega) (by kernel_rfl) (by repeat (first|exact trivial|refine⟨⟨by first|rfl|exact(hR.rd.any).cells|exact Rd.cells ‹_›|exact(RdL.rd ‹_›).cells,rfl,rfl⟩,?_⟩)) rfl rfl rfl rfl (λg12=>?_);refine Qm rfl ?_;refine KY 0 (Fg g12 Bl).q hq.any rfl A0 Ba rfl (by omega) rfl rfl rfl (λa _=>Ck a) (by(simp;done)) (by(simp;done)) rfl rfl rfl (λv6 m6 hO6=>?_);have hI0:=ReI.start o c0;have hr0:Sx (replicate o.length false) [c0]<=300000:=by unfold Sx;rw[List.count_replicate_self];simp;omega
 refine Qm Y (Ap (Ac (Ah ?_)))
 refine AD (λq sl h' ms'=>∃(M:List Bool) (Q:List Int) (m5 m6:Hp) (v6:Value),q=Sx M Q/\sl=[(0,v),(4,.slice none 0 0),(5,.slice (some ⟨g11,0,none⟩) A.length A.length),(6,v6)]/\hp=h'/\ms'=[m6,m5]/\Sx M Q<=300000/\ReI o c0 M Q/\OwnL cB 1 4 m5 (.slice (some ⟨g11,0,none⟩) A.length A.length) M/\OwnQ cI 1 3 m6 v6 Q)
  _ _ ⟨replicate o.length false,[c0],_,_,_,rfl,rfl,rfl,rfl,hr0,hI0,by rw[<-hAl];exact hM0,hO6⟩ Qs ?_
 rintro q sl h' ms' ⟨M,Q,m5,m6,v6,rfl,rfl,rfl,rfl,hr,hI,hO5,hO6⟩;have ov6:=hO6.o1;refine Ac (Aw (Qm Y (Qx (As (hO6.rd (h:=hp) (ms:=[m6,m5]) Mh).rd Y A0 Y) Y (Qm Y (Ap ?_)))));refine Ax Y (λhql=>?_) (λhql=>?_)
 ·obtain⟨x,Q,rfl⟩:∃x Q',Q=x::Q':=by
   cases Q with
   | nil=>simp at hql
   | cons x Q'=>exact⟨x,Q',Y⟩
  have cq:Cell hp [m6,m5] ((AJ v6).add (0*1)) (.int .i64 x):=(hO6.rd (h:=hp) (ms:=[m6,m5]) Mh).cell0 (j:=0) (by simp) rfl;obtain⟨y,hy,ey⟩:=hI.mem G hc (hI.rQ x Mh);obtain⟨hat,hgk⟩:=Hw F.inc hy;rw[ey]at hat hgk;obtain⟨k,hk⟩:∃k:Nat,I1 o x=k:=⟨_,(Int.toNat_of_nonneg hat).symm⟩
  rw[hk,Int.toNat_natCast]at hgk;have hko:k<o.length:=by have:=HP o x;omega
  have hkA:k<A.length:=by omega
  have hkM:k<M.length:=by rw[hI.len];exact hko
  have hkid:(o.getD k default).id=x:=by rw[hgk,ey]
  refine Aj (Ab (Ah (Aw (Qm Y (Qm Y (Qx (AM 0 (hO6.rd (h:=hp) (ms:=[m6,m5]) Mh).rd Y A0 Ba Y Y Y (by omega)) Y (Ql Y U3 (cq) ?_)))))));refine Qx (AR Y call117 Y ((by have:=VC A v x hp (by omega) (by rw[ho];exact F.inc.imp λh=>Int.le_of_lt h) hR [m6,m5];rwa [ho,hk]at this))) rfl ?_;refine Qm Y (BN (Qm Y (Qx (CU 1 (hO6.rd (h:=hp) (ms:=[m6,m5]) Mh).rd Y A0 Ba Y Y Y (by simp)) rfl (Qm rfl (Ap ?_)))));have hO6:=hO6.tail;obtain⟨w6,hw6⟩:∃w,Ca 1 v6 1 (Q.length+1)=w:=⟨_,Y⟩
  simp only[length_cons,hw6]at hO6 ⊢;have ov6:=hO6.o1;have cb:∀ms,m5∈ms->Cell hp ms ((AJ (.slice (some ⟨g11,0,none⟩) A.length A.length)).add (k*1)) (.bool M[k]):=λms hm=>(hO5.rd hm).cell0 hkM Y;refine Ac (Aw (Qm Y (Qm Y (Qm Y ?_))));refine AU (t:=27) Y (λhs=>?_) (λhs=>?_)
  ·omega
  ·refine Qg (AC Y Y) Y (Qg (AC Y Y) Y (Qg (Cn (k) Y P5 WH Y Y (by omega) (by omega)) Y (Qg (oL Y U4 (cb _ (.tail _ (.head _)))) Y (Qm Y (Ap ?_)))));refine Bz Y (λhb=>?_) (λhb=>?_)
   ·have hmk:MkC o M x:=⟨k,hko,hkid,by rw[show M.getD k false=M[k] by simp[List.getD,hkM]];exact hb⟩
    have hlt:=Wt M x Q;refine Ay (Aa (Ag ?_));exact Am (Sx M Q) _ hlt ⟨M,Q,m5,m6,w6,Y,Y,Y,Y,by omega,hI.skip hmk,hO5,hO6⟩ Qs
   ·have hmf:M.getD k false=false:=by rw[show M.getD k false=M[k] by simp[List.getD,hkM]];exact hb
    obtain⟨z,hz⟩:∃z,A[k]=z:=⟨_,Y⟩
    have hzo:o.getD k default=z.c:=by rw[show o.getD k default=o[k] by simp[List.getD,hko],hge k hkA,hz]
    have hI':=hI.mark G hko hkid;rw[hzo]at hI';have hX:=hAs z (by rw[<-hz];exact getElem_mem hkA);have hzl:z.c.sd.length<=64:=by have:=(F.bds (getElem_mem hko)).2.1;rwa [hge k hkA,hz]at this
    have hlt:=Vd (x:=x) (Q:=Q) (S:=z.c.sd.map Prod.fst) hkM hmf (by rw[length_map];omega);have hQl:Q.length<=300000:=by unfold Sx at hr;rw[length_cons]at hr;omega
    have cx:∀ms,Cell hp ms (((AJ v).add (k*3)).add 2) z.v:=λms=>by rw[<-hz];exact(hR.any (ms:=ms)).cell (j:=k) hkA (f:=2) Y
    refine Aj (Ab (Aw (Qm Y (Qm Y (Qx (Cn (k) Y P5 WH Y Y (by omega) (by omega)) Y (CW (F:=cB) (f:=λx=>.bool x) (a:=true) 1 k (λ_=>rfl) hO5 Y WH Y Y Y Y hkM Y Y (λm7 hO7=>BN (Qm Y (Ap (Ah ?_))))))))))
    refine AD (λq sl h' ms'=>∃(j:Nat) (m6:Hp) (v6:Value),q=z.c.sd.length-j/\sl=[(0,v),(4,.slice none 0 0),(5,.slice (some ⟨g11,0,none⟩) A.length A.length),(6,v6),(7,.int .i64 k),(8,.int .i64 j)]/\hp=h'/\ms'=[m6,m7]/\j<=z.c.sd.length/\OwnQ cI 1 3 m6 v6 (Q++(z.c.sd.take j).map Prod.fst))
     (z.c.sd.length-0) _ ⟨0,m6,w6,rfl,rfl,rfl,rfl,by omega,by simpa using hO6⟩ Qs ?_
    rintro q sl h' ms' ⟨j,m6,v6,rfl,rfl,rfl,rfl,hj,hO6⟩;have ov6:=hO6.o1;have hql:(Q++(z.c.sd.take j).map Prod.fst).length<=400000:=by rw[length_append,length_map,length_take];omega
    refine Ac (Aw (Qm Y (Qm Y (Qm Y (Qx (AM _ hR.rd.any Y A9 AL Y Y Y (by omega)) Y (Qf Bs Y (Ql Y BQ (cx _) (Qx (As hX.rd.any Y BQ Y) Y (Qm Y (Ap ?_))))))))));refine Ax Y (λhjl=>?_) (λhjl=>?_)
    ·have hjn:j<z.c.sd.length:=by omega
     obtain⟨s,hs⟩:∃s,z.c.sd[j]=s:=⟨_,Y⟩
     have cs:∀ms,Cell hp ms (((AJ z.v).add (j*2)).add 0) (.int .i64 s.1):=λms=>by
      have:Seg hp ms ((AJ z.v).add (j*2)) (cD s):=by rw[<-hs];exact(hX.any (ms:=ms)).seg hjn
      exact this 0 _ Y
     refine Aj (Ab (Ac (Ah (Ad (Qm Y (Qm Y (Qm Y (Qx (BH (k) hR.rd.any Y A9 AL Y Y) Y (Qf Bs Y (Ql Y BQ (cx _) (Qm Y (Qx (BH (j) hX.rd.any Y BQ AQ Y Y) Y (Qf B6 Y (Ql Y U3 (cs _) (Ar [_] Y A0 Ba Y (by rfl) Y Y (by omega) Y Y Y (λg56=>KY 1 hO6 (RdL.one Bl (x:=s.1) Mh Y) Y A0 Ba Y (by omega) Y Y Y (λa _=>Ck a) (by(try simp only[length_singleton]);omega) (by(try simp only[length_singleton]);omega) rfl rfl rfl (λv9 m9 hO9=>?_)))))))))))))))));have ov9:=hO9.o1;refine Qm Y (An (Ak (Ab (Ad (Qm Y (Qx (oA Y) Y (Qm Y (An (AS ?_)))))))));exact Am (z.c.sd.length-(j+1)) _ (by omega) ⟨j+1,m9,v9,Y,Y,Y,Y,by omega,by rw[take_succ_eq_append_getElem hjn,map_append,<-append_assoc,hs];exact hO9⟩ Qs
    ·obtain rfl:j=z.c.sd.length:=by omega
     rw[take_length]at hO6;refine Ay (Aa (Aa (Ag (Ak ?_))));exact Am (Sx (M.set k true) (Q++z.c.sd.map Prod.fst)) _ hlt ⟨M.set k true,Q++z.c.sd.map Prod.fst,m7,m6,v6,Y,Y,Y,Y,by omega,hI',hO7,hO6⟩ Qs
 ·obtain rfl:Q=[]:=by
   cases Q with
   | nil=>rfl
   | cons x Q'=>simp at hql
  refine Ay (Aa (Aa (Ag (Ab (Aw (Qm Y (Qm Y (Ap (Aq (AS ?_))))))))));exact Az Y Y (⟨B8,m5,M,Y,hO5,hI⟩)
theorem Od(l:List Ce)(v vq:Value)(c0:Int)(hp:Hp)(hK:RgC l)(hR:RdC hp v l)(hq:RdL cI 1 hp [] vq [c0])(hc:c0∈(cn l).map Cl.id):FnT Tryz.prog 50 #[.agg #[v],vq] hp [] (λr h' ms'=>hp.le h'/\∃m M,ms'=[m]/\OwnL cI 1 3 m r (Jk (cn l) M (cn l).length)/\ReI (cn l) c0 M []):=by
 have o1:=hR.q.rd.one;have o2:=hq.rd.one;have hln:=hK.r.n;rw[length_map]at hln;refine Av func50 ntmps50 Y Y (λw0 hw0=>?_);simp only[A3];refine Aw (AY [_] Y Y (by rfl) Y Y Y (λg2=>Qm Y (Ap (Bk 0 Y λh1 l1 hS=>?_))));have hR:=hR.up l1;have hq:=hq.up l1;refine Aw (Qx (oG Y BJ AO (Seg.any hS)) Y (Qc call49 Y (Fm l v h1 hK.r.cs hR) (λrC h2 ms2 l2 hF=>?_)));obtain⟨l2',mC,A,rfl,hOC,hA,hAs⟩:=hF;rw[Et hK.r]at hA;obtain⟨o,ho⟩:∃o,cn l=o:=⟨_,Y⟩
 have hA:A.map Ce.c=o:=by rw[hA,<-ho];rfl
 have F:RgtF o:=by rw[<-ho];exact hK.F
 have G:=F.rgt;rw[ho]at hc;rw[ho];have hAl:A.length=o.length:=by rw[<-hA,length_map]
 have hol:o.length<=4000:=G.n;have oC:=hOC.o1;refine Qm Y (Ap (Bu hOC λh3 l3 hQ=>?_));have hAs:∀a∈A,RdL cD 2 h3 [] a.v a.c.sd:=λa ha=>(hAs a ha).up l3;have l13:=AI l2' l3;have hge:∀i (hi:i<A.length),o[i]'(by omega)=A[i].c:=λi hi=>by subst hA;simp
 refine Aw (Qm Y (Qm Y ?_));refine Qc call119 Y (Pw A rC vq c0 h3 (by rw[hA];exact F) (by rw[hA];exact hc) hQ hAs (hq.up l13)) (λrM h4 ms4 l4 hF=>?_);obtain⟨l4',mM,M,rfl,hOM,hI⟩:=hF;rw[hA]at hI;have oM_:=hOM.o1;have hQ:=hQ.up l4';refine Qm Y (Ap (Bu hOM λh5 l5 hB=>?_));have hQ:=hQ.up l5;refine Aw (Qm Y (Ap (Ac (Aw (Qm Y (Ap (Ah (BO ?_))))))))
 refine AD (λq sl h' ms'=>∃(i:Nat) (v7:Value) (m:Hp),q=A.length-i/\sl=[(4,.slice none 0 0),(5,rC),(6,rM),(7,v7),(8,.int .i64 i)]/\h5=h'/\ms'=[m]/\i<=A.length/\OwnL cI 1 3 m v7 (Jk o M i))
  (A.length-0) _ ⟨0,_,Hp.emp,rfl,rfl,rfl,rfl,by omega,OwnL.nil Bl⟩ Qs ?_
 rintro q sl h' ms' ⟨i,v7,m7,rfl,rfl,rfl,rfl,hi,hO7⟩;have ov7:=hO7.o1;refine Ac (Aw (Qm Y (Qm Y (Qx (As hQ.rd.any Y A9 Y) Y (Qm Y (Ap ?_))))));refine Ax Y (λhlt=>?_) (λhlt=>?_)
 ·have hil:i<A.length:=by omega
  have hio:i<o.length:=by omega
  have hiM:i<M.length:=by rw[hI.len];exact hio
  obtain⟨x,hx⟩:∃x,A[i]=x:=⟨_,Y⟩
  have hxo:o.getD i default=x.c:=by rw[show o.getD i default=o[i] by simp[List.getD,hio],hge i hil,hx]
  have cb:∀ms,Cell h5 ms ((AJ rM).add (i*1)) (.bool M[i]):=λms=>(hB.any (ms:=ms)).cell0 hiM Y;have cx:∀ms,Cell h5 ms (((AJ rC).add (i*3)).add 0) (.int .i64 x.c.id):=λms=>by rw[<-hx];exact(hQ.any (ms:=ms)).cell (j:=i) hil (f:=0) Y
  have hk:=R0 o M i;rw[hxo,show M.getD i false=M[i] by simp[List.getD,hiM]]at hk
  have hfl:(Jk o M i).length<=4000:=by unfold Jk;rw[length_map];exact Nat.le_trans (List.length_filter_le _ _) (by rw[length_range];omega)
  refine Aj (Ab (Ac (Ah (Aw (Qm Y (Qm Y (Qx (BH (i) hB.rd.any Y P5 WH Y Y) Y (Ql Y U4 (cb _) (Ap ?_)))))))));refine Bz Y (λhb=>?_) (λhb=>?_)
  ·rw[hb,if_pos rfl]at hk;refine Ad (Qm Y (Qm Y (Qm Y (Qx (BH (i) hQ.rd.any Y A9 AL Y Y) Y (Qf Bq Y (Ql Y U3 (cx _) (Ar [_] Y A0 Ba Y (by rfl) Y Y (by omega) Y Y Y (λg30=>AZ 1 hO7 (RdL.one Bl (x:=x.c.id) Mh Y) Y A0 Ba Y (by omega) Y Y Y Ck (by(try simp only[length_singleton]);omega) (by(try simp only[length_singleton]);omega) rfl rfl rfl (λv9 m9 hO9=>?_)))))))));rw[<-hk]at hO9;have ov9:=hO9.o1;refine Qm Y (An (Ak (Ab (Ad (Qm Y (Qx (oA Y) Y (Qm Y (An (AS ?_)))))))));exact Am (A.length-(i+1)) _ (by omega) ⟨i+1,v9,m9,Y,Y,Y,Y,by omega,hO9⟩ Qs
  ·rw[hb,if_neg (by decide),append_nil]at hk;refine Aj (Ak (Ab (Ad (Qm Y (Qx (oA Y) Y (Qm Y (An ?_)))))));exact Am (A.length-(i+1)) _ (by omega) ⟨i+1,v7,m7,Y,Y,Y,Y,by omega,by rw[hk];exact hO7⟩ Qs
 ·obtain rfl:i=A.length:=by omega
  refine Ay (Aa (Aa (Ag (Ab (Aw (Qm Y (Qm Y (Ap (Aq ?_)))))))));exact Az Y Y (⟨AI l1 (AI l13 (AI l4' l5)),m7,M,Y,by rw[hAl]at hO7;exact hO7,hI⟩)
variable {L:List Int}
theorem N0{α:Type}{F:α->List Value}{h:Hp}{g:Nat}{x:α}(n:Nat)(hF:∀x,(F x).length=n)(hS:Seg h [] ⟨g,0,none⟩ (F x)):RdL F n h [] (.slice (some ⟨g,0,none⟩) 1 1) [x]:=
 ⟨⟨some ⟨g,0,none⟩,1,rfl,Nat.le_refl _,by decide,by rw[Bg hF],λ_=>⟨_,rfl,by simpa using hS⟩⟩,hF⟩
theorem WN(ks:List Int):QN [] ks=0:=by unfold QN;rw[if_pos rfl]
def W8(L ks:List Int)(j:Nat):Int:=(ks.take j).foldl (λm k=>max m (nM L k)) 0
theorem T7{ks:List Int}{j:Nat}(hj:j<ks.length):W8 L ks (j+1)=max (W8 L ks j) (nM L ks[j]):=by unfold W8;rw[take_succ_eq_append_getElem hj,List.foldl_append];rfl
theorem XT{ks:List Int}(h:L≠[]):W8 L ks ks.length=QN L ks:=by unfold W8 QN;rw[if_neg h,take_length]
theorem Zk(L ks:List Int)(j:Nat):0<=W8 L ks j/\W8 L ks j<=5:=by have h1:=((Gz L (W8 L ks j) (ks.take j) 0).1 (Int.le_refl _)).1;have h2:=(Gz L 5 (ks.take j) 0).2 ⟨by decide,λk _=>(YM L k).2⟩;exact⟨h1,h2⟩
theorem Xr{o:List Cl}{M:List Bool}{n:Nat}(hn:n<=o.length):∀y∈Jk o M n,∃x∈o,x.id=y:=λy hy=>by unfold Jk at hy;obtain⟨k,hk,rfl⟩:=List.mem_map.1 hy;have:=List.mem_range.1 (List.mem_filter.1 hk).1;exact⟨_,DZ (by omega),Y⟩
theorem PV{o:List Cl}{f:Int}{i:Nat}(hi:i<o.length):Fp o L f (i+1)=Fp o L f i++[(o[i].id,FN o L o[i].id*f)]:=by unfold Fp;rw[take_succ_eq_append_getElem hi,map_append];rfl
theorem SQ(l:List Ce)(v vL:Value)(L:List Int)(f:Int)(hp:Hp)(hK:RgC l)(hR:RdC hp v l)(hL:RdL cI 1 hp [] vL L)(hLb:∀x∈L,BP x)(hf:0<=f/\f<=1000):FnT Tryz.prog 14 #[.agg #[v],vL,.int .i64 f] hp [] (λr h' ms'=>hp.le h'/\∃m,ms'=[m]/\OwnL cV 2 47 m r (Fp (cn l) L f (cn l).length)):=by
 have o1:=hR.q.rd.one;have o2:=hL.rd.one;have hln:=hK.r.n;rw[length_map]at hln;refine Av func14 ntmps14 Y Y (λw0 hw0=>?_);simp only[A3];refine Aw (AY [_] Y Y (by rfl) Y Y Y (λg3=>Qm Y (Ap (Bk 0 Y λh1 l1 hS=>?_))));have hR:=hR.up l1;have hL:=hL.up l1;refine Aw (Qm Y (BN (Qx (oG Y BJ AO (Seg.any hS)) Y (Qc call49 Y (Fm l v h1 hK.r.cs hR) (λrC h2 ms2 l2 hF=>?_)))));obtain⟨l2',mC,A,rfl,hOC,hA,hAs⟩:=hF;rw[Et hK.r]at hA;obtain⟨o,ho⟩:∃o,cn l=o:=⟨_,Y⟩
 have hA:A.map Ce.c=o:=by rw[hA,<-ho];rfl
 have F:RgtF o:=by rw[<-ho];exact hK.F
 have G:=F.rgt;rw[ho];have hAl:A.length=o.length:=by rw[<-hA,length_map]
 have hol:o.length<=4000:=G.n;have oC:=hOC.o1;refine Qm Y (Ap (Bu hOC λh3 l3 hQ=>?_));have l13:=AI l2' l3;have hge:∀i (hi:i<A.length),o[i]'(by omega)=A[i].c:=λi hi=>by subst hA;simp
 refine Ac (Aw (Qm Y (Ap (Ah (BO ?_)))))
 refine AD (λq sl h' ms'=>∃(i:Nat) (v7:Value) (m:Hp),q=A.length-i/\sl=[(1,vL),(2,.int .i64 f),(3,.pointer (some ⟨g3,0,none⟩)),(6,.slice none 0 0),(7,v7),(8,rC),(9,.int .i64 i)]/\h3.le h'/\ms'=[m]/\i<=A.length/\OwnL cV 2 47 m v7 (Fp o L f i))
  (A.length-0) _ ⟨0,_,Hp.emp,rfl,rfl,B8,rfl,by omega,OwnL.nil M8⟩ Qs ?_
 rintro q sl h4 ms' ⟨i,v7,m7,rfl,rfl,l4,rfl,hi,hO7⟩;have ov7:=hO7.o1;have hQ:=hQ.up l4;have hL:=hL.up (AI l13 l4);have hR:=hR.up (AI l13 l4);have hS:Seg h4 [] ⟨g3,0,none⟩ [v]:=hS.le (AI l13 l4);refine Ac (Aw (Qm Y (Qm Y (Qx (As hQ.rd.any Y A9 Y) Y (Qm Y (Ap ?_))))));refine Ax Y (λhlt=>?_) (λhlt=>?_)
 ·have hil:i<A.length:=by omega
  have hio:i<o.length:=by omega
  obtain⟨x,hx⟩:∃x,A[i]=x:=⟨_,Y⟩
  have hxo:o[i]=x.c:=by rw[hge i hil,hx]
  have hxm:x.c∈o:=by rw[<-hxo];exact getElem_mem hio
  have cx:∀ms,Cell h4 ms (((AJ rC).add (i*3)).add 0) (.int .i64 x.c.id):=λms=>by rw[<-hx];exact(hQ.any (ms:=ms)).cell (j:=i) hil (f:=0) Y
  refine Aj (Ab (Ac (Ah (Aw (Qm Y (Ap (Ac (Bc 7 CZ (by kernel_rfl) Y (AW (oG Y BJ AO (Seg.any hS)) Y Y (Wm Y (Wm Y (AW (BH (i) hQ.rd.any Y A9 AL Y Y) Y Y (Wf Bq Y (Wl Y U3 (cx _) (Wp (EU [_] Y A0 Ba Y (by rfl) Y Y (by omega)) Y Y (Iv (λg27=>DX λh5 l5 hS5=>?_)))))))))))))))));refine Qc call50 Y (Od l v _ x.c.id h5 hK (hR.up l5) (N0 1 Bl hS5) (by rw[ho];exact List.mem_map.2 ⟨_,hxm,Y⟩)) (λrK h6 ms6 l6 hF=>?_);obtain⟨l6',mK,M,rfl,hOK,hI⟩:=hF;rw[ho]at hOK hI;obtain⟨K,hKe⟩:∃K,Jk o M o.length=K:=⟨_,Y⟩
  rw[hKe]at hOK
  have hKl:K.length<=4000:=by rw[<-hKe];unfold Jk;rw[length_map];exact Nat.le_trans (List.length_filter_le _ _) (by rw[length_range];omega)
  have hKid:∀y∈K,0<=y:=λy hy=>by obtain⟨z,hz,rfl⟩:=Xr (Nat.le_refl _) y (by rw[hKe];exact hy);have:=G.pos z hz;omega
  have hKv:QN L K=FN o L x.c.id:=Td λy=>by rw[<-hKe];exact VX G (List.mem_map.2 ⟨_,hxm,Y⟩) hI y
  have oK:=hOK.o1;refine Qm Y (Ap (Bu hOK λh7 l7 hRK=>?_));have l47:=AI l5 (AI l6' l7);have hL:=hL.up l47;have hQ:=hQ.up l47;refine A8 (λsl h' ms'=>sl=[(1,vL),(2,.int .i64 f),(3,.pointer (some ⟨g3,0,none⟩)),(6,.slice none 0 0),(7,v7),(8,rC),(9,.int .i64 i),(10,.int .i64 (FN o L x.c.id))]/\h7=h'/\ms'=[m7]) ?_ (λs h ms hI=>?_)
  ·refine Ac (Ad (Qm Y (Ap (Ah ?_))))
   refine AD (λq sl h' ms'=>∃(j:Nat) (w:Int),q=K.length-j/\sl=[(1,vL),(2,.int .i64 f),(3,.pointer (some ⟨g3,0,none⟩)),(6,.slice none 0 0),(7,v7),(8,rC),(9,.int .i64 i),(10,.int .i64 w),(11,rK),(12,.int .i64 j)]/\h7=h'/\ms'=[m7]/\j<=K.length/\(L=[]->w=0)/\(L≠[]->w=W8 L K j))
    (K.length-0) _ ⟨0,0,rfl,rfl,rfl,rfl,by omega,λ_=>rfl,λ_=>rfl⟩ Qs ?_
   rintro q sl h' ms' ⟨j,w,rfl,rfl,rfl,rfl,hj,hw0,hw1⟩
   have hwb:0<=w/\w<=5:=by
    by_cases e:L=[]
    ·rw[hw0 e];decide
    ·rw[hw1 e];exact Zk _ _ _
   have hLl:=hL.len_le
   have hend:(j=K.length\/L=[])->w=FN o L x.c.id:=λh=>by
    rw[<-hKv];by_cases e:L=[]
    ·rw[hw0 e,e,WN]
    ·rw[hw1 e,h.resolve_right e,XT e]
   refine Ac (Aw (Qm Y (Qm Y (Qx (As hRK.rd.any Y A0 Y) Y (Qm Y (Qm Y ?_))))));refine AU (t:=33) Y (λhs=>?_) (λhs=>?_)
   ·refine Qg (AC Y Y) Y (Qg (As hL.rd.any Y A0 Y) Y (Qg (CA Y Y Y) Y (Qm Y (Ap ?_))));refine Ax Y (λhLn=>?_) (λhLn=>?_)
    ·have hL0:L≠[]:=λe=>by rw[e]at hLn;simp at hLn
     have hLp:0<L.length:=by
      cases L with
      | nil=>exact absurd Y hL0
      | cons=>simp
     have hjn:j<K.length:=by omega
     have hK0:=hKid _ (getElem_mem hjn);obtain⟨r,hr⟩:∃r:Nat,K[j]%(L.length:Int)=r:=⟨(K[j]%(L.length:Int)).toNat,by rw[Int.toNat_of_nonneg (Int.emod_nonneg _ (by omega))]⟩
     have hrl:r<L.length:=by have:=Int.emod_lt_of_pos K[j] (show(0:Int)<L.length by omega);omega
     have hn:nM L K[j]=L[r]%6:=by unfold nM;rw[hr,Int.toNat_natCast];simp[List.getD,hrl]
     have hw:=hw1 hL0;have ck:∀ms,Cell h7 ms ((AJ rK).add (j*1)) (.int .i64 K[j]):=λms=>(hRK.any (ms:=ms)).cell0 hjn Y;have cl:∀ms,Cell h7 ms ((AJ vL).add (r*1)) (.int .i64 L[r]):=λms=>(hL.any (ms:=ms)).cell0 hrl Y;refine Aj (Ab (Ac (Ah (Ad (Qm Y (Qm Y (Qm Y (Qm Y (Qx (BH (j) hRK.rd.any Y A0 Ba Y Y) Y (Ql Y U3 (ck _) (Qm Y (Qx (As hL.rd.any Y A0 Y) Y (Qx (Cf Y Y Y hK0 (by omega)) Y (Qx (BH (r) hL.rd.any Y A0 Ba Y Y) Y (Ql Y U3 (cl _) (Qx (AR Y call34 Y (Iu L[r] 6 (hLb _ (getElem_mem hrl)) (by decide) h7 [m7])) Y (Qx (GV Y Y Y) Y (Qm Y (An (Ak (Ab (Ad (Qm Y (Qx (oA Y) Y (Qm Y (An ?_))))))))))))))))))))))))));exact Am (K.length-(j+1)) _ (by omega) ⟨j+1,max w (L[r]%6),Y,Y,Y,Y,by omega,λe=>absurd e hL0,λ_=>by rw[T7 hjn,hn,hw]⟩ Qs
    ·have hL0:L=[]:=by
      cases L with
      | nil=>rfl
      | cons=>simp at hLn
     obtain rfl:w=FN o L x.c.id:=hend (.inr hL0);refine Ay (Aa (Aa (Ag ?_)));exact Ao _ ⟨Y,Y,Y⟩ Qs
   ·obtain rfl:w=FN o L x.c.id:=hend (.inl (by omega));refine Qk Y (Qk Y (Qk Y (Qm Y (Ap (AV Y (Ay (Aa (Aa (Ag ?_)))))))));exact Ao _ ⟨Y,Y,Y⟩ Qs
  ·obtain⟨rfl,rfl,rfl⟩:=hI;have hvb:0<=FN o L x.c.id/\FN o L x.c.id<=5:=P9 _ _
   have hpb:-9223372036854775808<=FN o L x.c.id*f/\FN o L x.c.id*f<=9223372036854775807:=by have h1:0<=FN o L x.c.id*f:=Int.mul_nonneg hvb.1 hf.1;have h2:FN o L x.c.id*f<=5*f:=Int.mul_le_mul_of_nonneg_right hvb.2 hf.1;omega
   have hfl:(Fp o L f i).length<=4000:=by unfold Fp;rw[length_map,length_take];omega
   have cx7:∀ms,Cell h7 ms (((AJ rC).add (i*3)).add 0) (.int .i64 x.c.id):=λms=>by rw[<-hx];exact(hQ.any (ms:=ms)).cell (j:=i) hil (f:=0) Y
   refine Ad (Qm Y (Qm Y (Qm Y (Qx (BH (i) hQ.rd.any Y A9 AL Y Y) Y (Qf Bq Y (Ql Y U3 (cx7 _) (Qm Y (Qm Y (Qx (oM Y hpb) Y (Qx (Bm VY [.int .i64 0,.int .i64 0] [(0,_),(1,_)] [_,_] Y EV Y Y Qt Y) Y (Ar [_,_] Y Ny EV Y (by rfl) Y Y (by omega) Y Y Y (λg63=>AZ 1 hO7 (RdL.one M8 (x:=(x.c.id,FN o L x.c.id*f)) Mh Y) Y Ny EV Y (by omega) Y Y Y Za (by(try simp only[length_singleton]);omega) (by(try simp only[length_singleton]);omega) rfl rfl rfl (λv9 m9 hO9=>?_)))))))))))));have ov9:=hO9.o1;refine Qm Y (An (Ak (Ab (Ad (Qm Y (Qx (oA Y) Y (Qm Y (An (AS ?_)))))))));exact Am (A.length-(i+1)) _ (by omega) ⟨i+1,v9,m9,Y,Y,AI l4 l47,Y,by omega,by rw[PV hio,hxo];exact hO9⟩ Qs
 ·obtain rfl:i=A.length:=by omega
  refine Ay (Aa (Aa (Ag (Ab (Aw (Qm Y (Qm Y (Ap (Aq ?_)))))))));exact Az Y Y (⟨AI l1 (AI l13 l4),m7,Y,by rw[hAl]at hO7;exact hO7⟩)
end Go.Proofs.Q
