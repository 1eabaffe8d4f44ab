/- A part of the proof. -/
import Derived.Test.YtodheebhahdepaaGreatDoorRF
import Derived.Test.YtodheebhahdepaaGreatDoorRows
import Derived.Test.YtodheebhahdepaaGreatDoorChecked
import Derived.WalkKit
import Derived.ProofKit
import Derived.ChangeOld
import Derived.LaidMore
import Derived.Lay
import Derived.SevenTiedAt
import Derived.Stop.Joined
import Derived.Test.YtodheebhahdepaaGreatDoorCards
import Derived.Test.YtodheebhahdepaaGreatDoorTie
set_option linter.unusedSimpArgs false
set_option linter.unusedVariables false
set_option linter.unusedSectionVars false
set_option maxRecDepth 100000
set_option maxHeartbeats 4000000
open List (mem_map length_map length_singleton getElem_mem range length_append nil_append length_take mem_cons map_append mem_filter mem_cons_of_mem length_nil take_succ_eq_append_getElem append_nil map_map map_cons length_set getElem_of_mem take_length append_assoc getElem_map length_cons range_succ filter_append sum_cons not_mem_nil)
namespace Go.Proofs.Q
open Go.Proofs.Tryz
open Go.Eng Go.RowKit
section
variable {A W:List CeO} {pr:CeO->Bool} {i j:Nat}
def Pw(A:List CeO)(pr:CeO->Bool):Int:=match A.findIdx? pr with|some k=>k|none=>-1
theorem UY{k:Nat}(hk:k<A.length)(h:pr A[k]=true)(hno:∀j (hj:j<A.length),j<k->pr A[j]=false):Pw A pr=k:=by
 unfold Pw
 have:A.findIdx? pr=some k:=by rw[ia];exact⟨hk,h,λj hj=>by rw[hno j ω hj];simp⟩
 rw[this]
theorem Uf(hno:∀j (hj:j<A.length),pr A[j]=false):Pw A pr=-1:=by
 unfold Pw
 have:A.findIdx? pr=none:=by rw[iu];intro a ha;obtain⟨j,hj,rfl⟩:=df ha;exact hno j hj
 rw[this]
structure DelI(A W:List CeO)(pr:CeO->Bool)(i j:Nat):Prop where
 len:W.length=A.length
 ij:i<=j
 jn:j<=A.length
 tk:W.take i=(A.take j).filter λa=>!pr a
 dr:W.drop j=A.drop j
theorem DelI.start{k:Nat}(hk:k<A.length)(h:pr A[k]=true)(hno:∀j (hj:j<A.length),j<k->pr A[j]=false):DelI A A pr k (k+1):=by
 refine⟨Y,ω,ω,?_,Y⟩;rw[ak hk,filter_append];have e1:[A[k]].filter (λa=>!pr a)=[]:=by simp[h]
 have e2:(A.take k).filter (λa=>!pr a)=A.take k:=by rw[List.filter_eq_self];intro a ha;obtain⟨j,hj,rfl⟩:=df ha;rw[av]at hj;rw[ji,hno j ω ω];rfl
 rw[e1,e2,eo]
theorem DelI.get(D:DelI A W pr i j)(hj:j<W.length)(hj':j<A.length):W[j]=A[j]:=by have h1:W.drop j=W[j]::W.drop (j+1):=d9 hj;have h2:A.drop j=A[j]::A.drop (j+1):=d9 hj';have:=D.dr;rw[h1,h2]at this;exact(List.cons.inj this).1
theorem DelI.next(D:DelI A W pr i j)(hj:j<A.length):W.drop (j+1)=A.drop (j+1):=by
 have:=aw (List.drop 1) D.dr
 rwa [List.drop_drop,List.drop_drop]at this
theorem DelI.del(D:DelI A W pr i j)(hj:j<A.length)(h:pr A[j]=true):DelI A W pr i (j+1):=by refine⟨D.len,by have:=D.ij;omega,ω,?_,D.next hj⟩;rw[ak hj,filter_append,<-D.tk];simp[h]
theorem DelI.keep(D:DelI A W pr i j)(hj:j<A.length)(h:pr A[j]=false):DelI A (W.set i A[j]) pr (i+1) (j+1):=by
 have hij:=D.ij;have hl:=D.len;refine⟨by rw[e8,D.len],ω,ω,?_,?_⟩
 ·rw[ak hj,filter_append,<-D.tk];have hi:i<(W.set i A[j]).length:=by rw[e8];omega
  rw[ak hi,List.getElem_set_self,List.take_set_of_le (au _)];simp[h]
 ·rw[List.drop_set_of_lt ω,D.next hj]
theorem Uj(A:List CeO)(v:Value)(cf:FuncId)(cs:List Value)(pr:CeO->Bool)(h:Hp)(hR:RdL Ii 3 h [] v A)(hn:A.length<=100000)
  (hc:∀xs w,(callFunc cf xs).run Tryz.prog w=.ok (.enter cf xs) w)
  (hp:∀a∈A,∀h',h.le h'->∀ms,FnV Tryz.prog cf ([]++[Value.agg (Ii a).toArray]++cs).toArray h' ms (.bool (pr a))) :
  FnT Tryz.prog 141 #[v,.func (.func cf) #[] cs.toArray] h [] (λr _ _=>r=.w (Pw A pr)):=by
 have ov:=hR.rd.one;refine Au func141 ntmps141 Y Y (λw0 hw0=>?_);simp only[A6];refine Aq (Qm Y (Am (Ac (Aq (Qm Y (Qx (As hR.rd.any Y Bm Y) Y (Qm Y (Am (Ag ?_)))))))))
 refine Ay (λq s h' ms'=>∃(k:Nat),q=A.length-k/\s=[(0,v),(1,.func (.func cf) #[] cs.toArray),(7,.w A.length),(8,.w k)]/\h=h'/\ms'=[]/\k<=A.length/\∀j (hj:j<A.length),j<k->pr A[j]=false)
  (A.length-0) _ ⟨0,rfl,rfl,rfl,rfl,ω,λj _ hj=>ω⟩ Qs ?_
 rintro q s h' ms' ⟨k,rfl,rfl,rfl,rfl,hk,hno⟩;refine Aq (Qm Y (Am (Ac ?_)));refine Ao Y (λhlt=>?_) (λhlt=>?_)
 ·have hkn:k<A.length:=ω
  obtain⟨x,hx⟩:∃x,A[k]=x:=⟨_,Y⟩
  have gX:∀ms,Seg h ms ((AG v).add (k*3)) (Ii x):=λms=>by rw[<-hx];exact(hR.any (ms:=ms)).seg hkn
  have oxv:=x.one;refine Ah (Ad (Ac (Ag (Aq (Qm Y (Qm Y (BM (Qm Y (Qm Y (Qm Y (Qx (BN (k) hR.rd.any Y Bm AI Y Y) Y (Qx (oG Y Ey AI (gX _)) Y ?_))))))))))));refine Qx (CE Y Y hc Y (hp x (by rw[<-hx];exact ae hkn) _ (Da) _)) Y ?_;refine Am ?_;refine BG Y (λhpk=>?_) (λhpk=>?_)
  ·refine Ac (Ab (Qm Y (Qm Y (Am (An (Aj (Ae (Ae (Aj (Ae ?_))))))))));exact Ap Y Y (by rw[UY hkn (by rw[hx];exact hpk) hno])
  ·refine Ah (Ai (Ad (Ab (Qx (oA Y) Y (Qm Y (Ak ?_))))));refine Al (A.length-(k+1)) _ ω ⟨k+1,Y,Y,Y,Y,ω,λj hj hj2=>?_⟩ Qs;rcases (ω:j<k\/j=k) with h2|rfl
   ·exact hno j hj h2
   ·rw[hx];exact hpk
 ·refine Av (Aa (Aa (Af (Ad (Aq (Qm Y (Am (An ?_))))))));exact Ap Y Y (by rw[Uf λj hj=>hno j hj ω])
theorem Ra(A:List CeO)(v:Value)(m:Hp)(cf:FuncId)(cs:List Value)(pr:CeO->Bool)(h:Hp)(hO:OwnL Ii 3 52 m v A)(hn:A.length<=100000)
  (hc:∀xs w,(callFunc cf xs).run Tryz.prog w=.ok (.enter cf xs) w)
  (hp:∀a∈A,∀h',h.le h'->∀ms,FnV Tryz.prog cf ([]++[Value.agg (Ii a).toArray]++cs).toArray h' ms (.bool (pr a))) :
  FnT Tryz.prog 74 #[v,.func (.func cf) #[] cs.toArray] h [m] (λr h' ms'=>h=h'/\∃m',ms'=[m']/\OwnL Ii 3 52 m' r (A.filter λa=>!pr a)):=by
 have ov:=hO.o1;refine Au func74 ntmps74 Y Y (λw0 hw0=>?_);simp only[A6];refine Aq (Qm Y (BM (Qm Y (Qm Y (Qx (AH Y call141 Y (CF λh' hl hm=>DW (Uj A v cf cs pr h' (hO.rdh (hm _ Mh)) hn hc λa ha h2 l2=>hp a ha h2 (AE hl l2)) _)) Y (Qm Y (Am (Ac (Aq (Qm Y (Qm Y (Am ?_))))))))))));obtain⟨q,hq⟩:∃q,Pw A pr=q:=⟨_,Y⟩
 have hcase:(q=-1/\A.filter (λa=>!pr a)=A)\/∃k:Nat,q=k/\∃hk:k<A.length,pr A[k]=true/\∀j (hj:j<A.length),j<k->pr A[j]=false:=by
  rw[<-hq];cases h:A.findIdx? pr with
  | none=>
   have h1:=iu.1 h;refine .inl ⟨by unfold Pw;rw[h],?_⟩;rw[List.filter_eq_self];intro a ha;rw[h1 a ha];rfl
  | some k=>
   obtain⟨h1,h2,h3⟩:=ia.1 h;exact .inr ⟨k,by unfold Pw;rw[h],h1,h2,λj hj hjk=>by simpa using h3 j hjk⟩
 rw[hq];refine Ao Y (λhz=>?_) (λhz=>?_)
 ·have hfl:A.filter (λa=>!pr a)=A:=by
   rcases hcase with ⟨_,e⟩|⟨k,e,_⟩
   ·exact e
   ·omega
  refine Aq (Qm Y (Qm Y (Am (An (Ae ?_)))));exact Ap Y Y (⟨Y,m,Y,by rw[hfl];exact hO⟩)
 ·obtain⟨k,rfl,hk,hkp,hkn⟩:∃k:Nat,q=k/\∃hk:k<A.length,pr A[k]=true/\∀j (hj:j<A.length),j<k->pr A[j]=false:=by
   rcases hcase with ⟨e,_⟩|h
   ·exact jt e hz
   ·exact h
  refine Ah (Ad (Ac (Aq (Qm Y (Qx (oA Y) Y (Qm Y (Am (Ag ?_))))))))
  refine Ay (λq s h' ms'=>∃(i j:Nat) (W:List CeO) (m:Hp),A.length-j=q/\s=[(0,v),(1,.func (.func cf) #[] cs.toArray),(5,.w i),(6,.w j)]/\h=h'/\ms'=[m]/\OwnL Ii 3 52 m v W/\DelI A W pr i j)
   (A.length-(k+1)) _ ⟨k,k+1,A,m,rfl,rfl,rfl,rfl,hO,DelI.start hk hkp hkn⟩ Qs ?_
  rintro q s h' ms' ⟨i,j,W,m,rfl,rfl,rfl,rfl,hO,hD⟩;have hlW:=hD.len;have hij:=hD.ij;have hjn:=hD.jn;refine Ac (Aq (Qm Y (Qm Y (Qx (As (hO.rd Mh).rd Y Bm Y) Y (Qm Y (Am ?_))))));refine Ao Y (λhlt=>?_) (λhlt=>?_)
  ·have hjA:j<A.length:=ω
   have hjW:j<W.length:=ω
   have hgx:=hD.get hjW hjA;obtain⟨x,hx⟩:∃x,A[j]=x:=⟨_,Y⟩
   rw[hx]at hgx;have gX:∀ms,m∈ms->Seg h ms ((AG v).add (j*3)) (Ii x):=λms hm=>by rw[<-hgx];exact(hO.rd hm).seg hjW
   have oxv:=x.one;refine Ah (Ad (Ac (Ag (Aq (Qm Y (Qm Y (Qx (AA (j) (hO.rd Mh).rd Y Bm AI Y Y ω ω) Y (Qx (oG Y Ey AI (gX _ Mh)) Y (Cx [.w 0,.w 0,.nl] Y AI Y Y (λg7=>?_))))))))));refine Sa 0 [_,_,_] AI Y (by simp[ov,oxv]) ?_;refine BM (Qm Y (Qx (oG Y Ey AI (Seg.blk 0 Y)) Y ?_));refine Qx (CE Y Y hc Y (hp x (by rw[<-hx];exact ae hjA) _ (Da) _)) Y ?_;refine Qm Y (Am ?_);refine BG Y (λhpk=>?_) (λhpk=>?_)
   ·have hpf:pr A[j]=false:=by rw[hx];simpa using hpk
    have hk':=hD.keep hjA hpf;refine Aq (Qm Y (Qm Y (Qx (oG Y Ey AI (Seg.blk 0 Y)) Y (Qx (AA (i) (hO.rd (List.Mem.tail _ Mh)).rd Y Bm AI Y Y ω ω) Y ?_))));refine FX 1 i x hO Y AI Y Y Y (OI x) Y (show i<W.length by omega) Y Y (λm' hO'=>?_);rw[hx]at hk';refine Gl (Qm Y (Qx (oA Y) Y (Qm Y (Ak (Ai (Ad (Ab (Qm Y (Qx (oA Y) Y (Qm Y (Ak (AX ?_))))))))))));exact Al (A.length-(j+1)) _ ω ⟨i+1,j+1,_,m',Y,Y,Y,Y,hO',hk'⟩ Qs
   ·have hpt:pr A[j]=true:=by rw[hx];simpa using hpk
    refine Ah (Ai (Ad (Ab (Qm Y (Qx (oA Y) Y (Qm Y (Ak (AX ?_))))))));exact Al (A.length-(j+1)) _ ω ⟨i,j+1,W,m,Y,Y,Y,Y,hO,hD.del hjA hpt⟩ Qs
  ·have hjl:j=A.length:=ω
   subst hjl;refine Av (Aa (Aa (Af (Ad (Aq (Qm Y (Qm Y (Qx (C3 _ (hO.rd Mh).rd Y Bm AI Y Y Y ω) Y (Us 0 i hO ω Y Bm AI Y δ Y Y Y Y (λm' hO'=>?_))))))))));have htk:W.take i=A.filter λa=>!pr a:=by have:=hD.tk;rwa [ct]at this
   rw[htk]at hO';refine BM (Qm Y (Qm Y (Qx (Fl i (hO.rd (h:=h) (ms:=[m]) Mh).rd Y Bm AI Y Y Y ω) Y (Qm Y (Am (An ?_))))));exact Ap Y Y (⟨Y,m',Y,hO'⟩)
end
def Fo(F:List (Int×Int))(t:Int)(o:List Cl):List Cl:=o.filter λc=>decide (CN (Bn F) c.id<=t)
theorem AaH{lo:List CeO}{m:Hp}{v:Value}(O:OwnL cC 3 52 m v (lo.map LU)):OwnL Ii 3 52 m v lo:=⟨by have:=O.own;rwa [JS,af]at this,KR⟩
theorem Zb(F:List (Int×Int))(x:CeO)(t:Int)(g1 g2 gA:Nat)(mA:Hp)(bs:List Nat)(h:Hp)(hO:C4 kN kN gA BS mA (Bn F) bs)(lA:mA.le h)(h1:∀ms,Cell h ms (⟨g1,0,none⟩:Addr) (.map (some gA)))(h2:∀ms,Cell h ms (⟨g2,0,none⟩:Addr) (.int .i64 t))(hs:BS x.c.id)(ms:List Hp) :
  FnV Tryz.prog 75 ([]++[Value.agg (Ii x).toArray]++[Value.pt g1,.pt g2]).toArray h ms (.bool (decide (CN (Bn F) x.c.id>t))):=by
 refine DW ?_ ms;show FnT _ _ #[.agg #[.w x.c.id,.w x.c.dim,x.v],.pt g1,.pt g2] _ _ _;have ox:=x.one;refine Au func75 ntmps75 Y Y (λw0 hw0=>?_);simp only[A6];refine Aq (AP [_,_,_] Y Y (by rfl) Y Y Y (λg3=>Qm Y (Am (Ax λh3 l3 hS=>?_))));have e0:∀ms,Cell h3 ms ((⟨g3,0,none⟩:Addr).add 0) (.w x.c.id):=λms=>(hS 0 _ Y).any;have h1:∀ms,Cell h3 ms (⟨g1,0,none⟩:Addr) (.map (some gA)):=λms=>(h1 ms).le l3;have h2:∀ms,Cell h3 ms (⟨g2,0,none⟩:Addr) (.w t):=λms=>(h2 ms).le l3;refine Aq (Ql Y Mu (h1 _) (Qf Bq Y (Ql Y U3 (e0 _) (Qx (Cy (V:=kN) (z:=(0:Int)) (u:=CN (Bn F) x.c.id) x.c.id Y BA hO (AE lA l3) Y Mu Ij Y Y hs) Y (Ql Y U3 (h2 _) (Qm Y (Qm Y (Am (An ?_)))))))));exact Ap Y Y (Y)
theorem QK(l:List Ce)(F:List (Int×Int))(v vf:Value)(t:Int)(hp:Hp)(hK:RgC l)(hR:RdC hp v l)(hF:RdL cV 2 hp [] vf F)(hV:Ir F)(h0:DN (cn l) F=(0,0))(hl:l.length<=400) :
  FnT Tryz.prog 27 #[.agg #[v],vf,.w t] hp [] (λr h' ms'=>hp.le h'/\∃m A v',ms'=[m]/\r=.agg #[v']/\OwnL cC 3 52 m v' A/\A.map Ce.c=Fo F t (cn l)/\∀a∈A,RdL cD 2 h' [] a.v a.c.sd):=by
 have o1:=hR.q.rd.one;have o2:=hF.rd.one;refine Au func27 ntmps27 Y Y (λw0 hw0=>?_);simp only[A6];refine Aq (AP [_] Y Y (by rfl) Y Y Y (λg3=>AP [_] Y Y (by rfl) Y Y Y (λg5=>Cx [.nl] Y A8 Y Y (λg6=>Am (Bj 1 Y λh1 l1 hS5=>(Bj 1 Y λh2 l2 hS3=>?_))))));have hR2:=(hR.up l1).up l2;have hF2:=(hF.up l1).up l2;have c3:∀ms,Seg h2 ms (⟨g3,0,none⟩:Addr) [v]:=λms=>hS3.any;have c5:∀ms,Cell h2 ms (⟨g5,0,none⟩:Addr) (.w t):=λms=>((hS5 0 _ Y).any).le l2;refine Ac (Aq (Qx (oG Y CS A8 (c3 _)) Y (Qm Y ?_)));refine Qx (AH Y call24 Y (DW ((FF l F v vf h2 hK hR2 hF2 hV).mono λr _ _ h=>by rw[h,h0]) _)) rfl ?_;refine Qm Y (Qm Y (Qm Y (Qm Y (Qm Y (BM (Qm Y (Qm Y (Am ?_))))))));refine Ao Y (λhz=>?_) (λhz=>?_)
 ·exact jt Y hz
 ·refine Ah (Ad (Aq (Qm Y (Qc call66 Y (HP F vf h2 hF2 hV.n hV.k) (λrL h3 ms3 l3 hL=>?_)))));obtain⟨l3',gL,mL,bL,rfl,rfl,hOL⟩:=hL;refine Cx [.map none] Y Yr Y Y (λg9=>AO 0 0 Y Yr Y Y (by rfl) Y Y δ Y Y (Am (Ax λh4 l4 hS9=>(Bx λh5 l5 lmL=>?_))));have l25:=AE l3' (AE l4 l5);have c9:∀ms,Cell h5 ms (⟨g9,0,none⟩:Addr) (.map (some gL)):=λms=>((hS9 0 _ Y).any).le l5;have c3:∀ms,Seg h5 ms (⟨g3,0,none⟩:Addr) [v]:=λms=>(c3 ms).le l25;have c5:∀ms,Cell h5 ms (⟨g5,0,none⟩:Addr) (.w t):=λms=>(c5 ms).le l25;refine Aq (Qx (oG Y CS A8 (c3 _)) Y (Qc call65 Y (HY l v h5 hK (hR2.up l25)) (λrC h6 ms6 l6 hQ=>?_)));obtain⟨l6',mC,A,vA,rfl,rfl,hOC,hAl,hsA⟩:=hQ;obtain⟨lo,e⟩:=exO (λa ha=>(hsA a ha).rd.one);have e:lo.map LU=A:=e;have hlo:lo.length=l.length:=by have h1:=aw List.length hAl;rw[<-e]at h1;rw[Dg]at h1;simpa using h1
  have hOo:OwnL Ii 3 52 mC vA lo:=AaH (by rw[e];exact hOC);have ovA:=hOC.o1;refine Cx [.nl] Y A8 Y Y (λg10=>?_);refine Sa 0 [_] A8 Y (by simp[o1,o2,ovA]) ?_;refine BM (Qf Cr Y (Ql Y Bm (Cell.blk 0 Y Y) (Qx (Cc Y Y Y) Y ?_)))
  have hidI:∀a∈lo,BS a.c.id:=λa ha=>by
   have h1:a.c∈cn l:=by rw[<-hAl,<-e,fk];exact ad.2 ⟨a,ha,Y⟩
   exact hK.cI h1
  refine N5 1 Y (Bs (pre:=[mC]) Y call74 Y (Ra lo vA mC 75 [Value.pt g9,.pt g5] (λx=>decide (CN (Bn F) x.c.id>t)) h6 hOo ω call75 (λa ha h' l' ms=>Zb F a t g9 g5 gL mL bL h' hOL (AE lmL (AE l6 l')) (λms=>(c9 ms).le (AE l6 l')) (λms=>(c5 ms).le (AE l6 l')) (hidI a ha) ms)) Y Y Y Y (λvD h7 ms7 l7 hF=>?_));obtain⟨rfl,mD,rfl,hOD⟩:=hF;have ovD:=hOD.o1;refine Qf Cr Y ?_;refine AO 1 _ Y Kx Y Y (by assumption) Y Y (by(simp;done)) rfl rfl ?_;refine Am (Bj 1 Y λh8 l8 hS10=>?_);have c10:∀ms,Seg h8 ms (⟨g10,0,none⟩:Addr) [vD]:=λms=>hS10.any
  have hfe:(lo.filter λx=>!decide (CN (Bn F) x.c.id>t)).map LU=A.filter λa=>decide (CN (Bn F) a.c.id<=t):=by
   rw[<-e,List.filter_map];congr 1;refine List.filter_congr λx _=>?_;show(!decide (CN (Bn F) x.c.id>t))=decide (CN (Bn F) x.c.id<=t);by_cases h:CN (Bn F) x.c.id<=t
   ·rw[ai h,aj ω];rfl
   ·rw[aj h,ai ω];rfl
  have hOe:=VW hOD;rw[hfe]at hOe
  have hfc:(A.filter λa=>decide (CN (Bn F) a.c.id<=t)).map Ce.c=Fo F t (cn l):=by unfold Fo;rw[<-hAl,List.filter_map];rfl
  refine Aq (Qx (oG Y CS A8 (c10 _)) Y ?_);refine Sa 1 [_] A8 Y (by simp[o1,o2,ovA,ovD]) ?_;refine Am (An ?_);have lpp:=AE l1 (AE l2 (AE l25 (AE l6 l8)));have hpost:=λa (ha:a∈A.filter λa=>decide (CN (Bn F) a.c.id<=t))=>(hsA a (br.1 ha).1).up l8;exact BC (vs:=[_]) 1 Y Y CS Y A8 Y Y (⟨lpp,mD,_,vD,Y,Y,hOe,hfc,hpost⟩)
section
variable {o:List Cl}
theorem Rgt.filt(R:Rgt o){P:Cl->Bool}(hc:∀x∈o,P x=true->∀s∈x.sd,∀y∈o,y.id=s.1->P y=true):Rgt (o.filter P):=by
 have hm:∀{x},x∈o.filter P->x∈o:=λh=>(br.1 h).1;have hnd:((o.filter P).map Cl.id).Nodup:=R.nd.sublist (List.filter_sublist.map _)
 have hsid:∀x∈o.filter P,∀s∈x.sd,∃y∈o.filter P,y.id=s.1/\y.dim=x.dim-1:=λx hx s hs=>by obtain⟨y,hy,e1,e2⟩:=R.sid x (hm hx) s hs;exact⟨y,br.2 ⟨hy,hc x (hm hx) (br.1 hx).2 s hs y hy e1⟩,e1,e2⟩
 refine⟨dc (dp _ _) R.n,hnd,λx hx=>R.pos x (hm hx),λx hx=>R.dim x (hm hx),λx hx=>R.num x (hm hx),λx hx=>R.sds x (hm hx),hsid,λx hx=>R.sgn x (hm hx),λx hx=>R.one x (hm hx),λx hx hd=>?_⟩
 have e:F4 (o.filter P) x=F4 o x:=by
  unfold F4 Lq;refine El λs hs=>?_;obtain⟨y,hy,e1,_⟩:=hsid x hx s hs
  have h1:GJ (o.filter P) s.1=GJ o s.1:=by rw[<-e1];unfold GJ;rw[DG hnd hy,DG R.nd (hm hy)]
  simp only[h1]
 rw[e];exact R.tab x (hm hx) hd
theorem RgtF.can_eq(R:RgtF o){x:Cl}(hx:x∈o):x.can=x:=by have e:Cu x.sd=x.sd:=DL Prod.fst (B7 _) (F1 _) (R.sinc x hx);unfold Cl.can;rw[e]
theorem RgtF.filt(R:RgtF o){P:Cl->Bool}(hc:∀x∈o,P x=true->∀s∈x.sd,∀y∈o,y.id=s.1->P y=true):RgtF (o.filter P):=by
 have h1:=(R.rgt.filt hc).ordF
 have e1:(o.filter P).map Cl.can=o.filter P:=by
  have:∀l:List Cl,(∀x∈l,x∈o)->l.map Cl.can=l:=λl=>by
   induction l with
   | nil=>intro _;rfl
   | cons a l ih=>intro h;rw[fl,R.can_eq (h a Mh),ih λx hx=>h x (bh _ hx)]
  exact this _ λx hx=>(br.1 hx).1
 have h2:=Dy (o.filter P).length (o.filter P) (au _);rw[e1]at h2;have h3:=DL Cl.id h2 (DS _ _ (au _)) (R.inc.sublist List.filter_sublist)
 rwa [h3]at h1
theorem RgtF.sub(R:RgtF o){F:List (Int×Int)}(hmon:∀x∈o,∀s∈x.sd,CN (Bn F) s.1<=CN (Bn F) x.id)(t:Int):RgtF (Fo F t o):=
 R.filt λx hx hP s hs y hy e=>by have h1:=bz hP;have h2:=hmon x hx s hs;rw[<-e]at h2;exact ai ω
end
theorem Nh(l:List Ce)(F:List (Int×Int))(v vf:Value)(t p:Int)(hp:Hp)(hK:RgC l)(hR:RdC hp v l)(hF:RdL cV 2 hp [] vf F)(hV:Ir F)(h0:DN (cn l) F=(0,0))(hmon:∀x∈cn l,∀s∈x.sd,CN (Bn F) s.1<=CN (Bn F) x.id)(hP:IsP p)(hp2:p<256)(hl:l.length<=100) :
  FnT Tryz.prog 19 #[.agg #[v],vf,.w t,.w p] hp [] (λr h' ms'=>hp.le h'/\∃(D:Int) (rk:Nat->Nat) (w:Value) (m:Hp),r=.tuple #[w,.w 0]/\ms'=[m]/\OwnL cI 1 3 m w (MO (Fo F t (cn l)) rk (D+1).toNat)/\Me (Fo F t (cn l)) D/\rk 0=0/\∀n:Nat,n<(D+1).toNat->RkO p (Fo F t (cn l)) (n+1) (rk (n+1))):=by
 have o1:=hR.q.rd.one;have o2:=hF.rd.one;refine Au func19 ntmps19 Y Y (λw0 hw0=>?_);simp only[A6];refine Aq (AP [_] Y Y (by rfl) Y Y Y (λg4=>Qm Y (Qm Y (Am (Ax λh1 l1 hS4=>?_)))));have hR1:=hR.up l1;have hF1:=hF.up l1;have c4:∀ms,Seg h1 ms (⟨g4,0,none⟩:Addr) [v]:=λms=>hS4.any;refine Ac (Aq (Qx (oG Y CS A8 (c4 _)) Y (Qm Y ?_)));refine Qx (AH Y call24 Y (DW ((FF l F v vf h1 hK hR1 hF1 hV).mono λr _ _ h=>by rw[h,h0]) _)) rfl ?_;refine Qm Y (Qm Y (Qm Y (Qm Y (Qm Y (BM (Qm Y (Qm Y (Am ?_))))))));refine Ao Y (λhz=>?_) (λhz=>?_)
 ·exact jt Y hz
 ·refine Ah (Ad (Aq (Qx (oG Y CS A8 (c4 _)) Y (Qm Y (Qm Y (Qc call27 Y (QK l F v vf t h1 hK hR1 hF1 hV h0 ω) (λrS h2 ms2 l2 hS=>?_)))))));obtain⟨l2',mS,A,vA,rfl,rfl,hOS,hA,hsA⟩:=hS;refine Ba hOS λh3 l3 hRA=>?_
  have hAl:A.length<=100:=by have h1:=aw List.length hA;rw[af]at h1;rw[h1];refine dc (dp _ _) ?_;rw[Dg];exact hl
  have hFA:RgtF (A.map Ce.c):=by rw[hA];exact hK.F.sub hmon t
  have hKA:RgC A:=⟨hFA.rgt,λa ha=>by
   have h1:a.c∈Fo F t (cn l):=by rw[<-hA];exact ad.2 ⟨a,ha,Y⟩
   exact hK.ci (br.1 h1).1⟩
  have hRC:RdC h3 vA A:=⟨hRA,λa ha=>(hsA a ha).up l3⟩
  have oA_:=hRA.rd.one;refine Qm Y (Qc call20 Y (VU A vA p h3 hP hp2 hKA hRC hAl) (λrB h4 ms4 l4 hB=>?_));obtain⟨l4',D,rk,w,m,rfl,rfl,hO,hD,hr0,hrk⟩:=hB;rw[Wi hFA,hA]at hO hD hrk;have ow:=hO.o1;refine Qm Y (Qm Y (Qm Y (Qm Y (Am (An ?_)))));exact BE Y Y Y (⟨AE l1 (AE l2 (AE l3 l4)),D,rk,w,m,Y,Y,hO,hD,hr0,hrk⟩)
section
open Go.Lin
variable {i j:Nat}
def Cw(S:List Ce)(i:Nat):Cl:=(S.getD i default).c
theorem C6{S:List Ce}(h:i<S.length):Cw S i=S[i].c:=by unfold Cw;simp[List.getD,h]
structure PerH(p:Int)(F:List (Int×Int))(l S:List Ce)(R V:Nat->List Int):Prop where
 P:PersF p F l S R V
 hp:IsP p
 G:Rgt (cn l)
 mon:∀x∈cn l,∀s∈x.sd,CN (Bn F) s.1<=CN (Bn F) x.id
section
variable {p:Int} {F:List (Int×Int)} {l S:List Ce} {R V:Nat->List Int}
theorem PerH.nd(H:PerH p F l S R V):(S.map λa=>a.c.id).Nodup:=by
 have:=(H.P.perm.map Cl.id).nodup_iff.2 H.G.nd
 rwa [fk]at this
theorem PerH.mem(H:PerH p F l S R V)(h:i<S.length):Cw S i∈cn l:=by rw[C6 h];exact H.P.perm.mem_iff.1 (ad.2 ⟨_,ae h,Y⟩)
theorem PerH.inj(H:PerH p F l S R V)(hi:i<S.length)(hj:j<S.length)(h:(Cw S i).id=(Cw S j).id):i=j:=by
 rw[C6 hi,C6 hj]at h;have hp:=ax.1 H.nd;rcases dy i j with h1|h1|h1
 ·have:=hp i j (by simpa using hi) (by simpa using hj) h1;simp only[fm]at this;exact jt h this
 ·exact h1
 ·have:=hp j i (by simpa using hj) (by simpa using hi) h1;simp only[fm]at this;exact jt h.symm this
theorem PerH.place(H:PerH p F l S R V){y:Cl}(hy:y∈cn l):∃m,m<S.length/\Cw S m=y:=by obtain⟨a,ha,rfl⟩:=ad.1 (H.P.perm.mem_iff.2 hy);obtain⟨m,hm,rfl⟩:=df ha;exact⟨m,hm,C6 hm⟩
theorem PerH.before(H:PerH p F l S R V)(hj:j<S.length){s:Int×Int}(hs:s∈(Cw S j).sd):∃m,m<j/\(Cw S m).id=s.1/\(Cw S m).dim=(Cw S j).dim-1:=by
 obtain⟨y,hy,e1,e2⟩:=H.G.sid _ (H.mem hj) s hs;obtain⟨m,hm,rfl⟩:=H.place hy;refine⟨m,?_,e1,e2⟩;have hf:=H.mon _ (H.mem hj) s hs;rw[<-e1]at hf;refine bc λhn=>?_;rcases (ω:m=j\/j<m) with rfl|h
 ·omega
 ·have:=ax.1 H.P.srt j m hj hm h;rw[<-C6 hj,<-C6 hm]at this;omega
def EM(S:List Ce)(i k:Nat):Int:=sgn (Cw S k).sd (Cw S i).id
theorem Tq(H:PerH p F l S R V)(hj:j<S.length)(hi:i<S.length):∀k,k<=(Cw S j).sd.length->Cg p ((D8 p S j k).getD i 0) (sgn ((Cw S j).sd.take k) (Cw S i).id)
 | 0,_=>by
  have:(D8 p S j 0).getD i 0=0:=by unfold D8;simp[List.getD,hi]
  rw[this,List.take_zero,H8];exact Cg.refl _ _
 | k+1,hk=>by
  have ih:=Tq H hj hi k ω;have hkl:k<(S.getD j default).c.sd.length:=by unfold Cw at hk;omega
  have hkl':k<(Cw S j).sd.length:=hkl;obtain⟨s,hs⟩:∃s,(Cw S j).sd[k]=s:=⟨_,Y⟩
  have hs':(S.getD j default).c.sd[k]=s:=hs
  have hcs:D8 p S j (k+1)=(D8 p S j k).set (pl S (j+1) s.1) ((s.2+p)%p):=by rw[<-hs'];exact H7 hkl
  rw[hcs,ak hkl',Mt,hs];have hsm:s∈(Cw S j).sd:=by rw[<-hs];exact ae hkl'
  obtain⟨m,hm,e1,e2⟩:=H.before hj hsm
  have hpl:pl S (j+1) s.1=m:=by rw[<-e1];exact RH H.nd ω ω
  rw[hpl];have hpp:0<p:=by have:=H.hp.1;omega
  by_cases him:i=m
  ·subst him
   have hz:sgn ((Cw S j).sd.take k) (Cw S i).id=0:=Ms λs' hs2 e=>by have h1:=ax.1 (H.G.sds _ (H.mem hj));obtain⟨t,ht,rfl⟩:=df hs2;rw[av]at ht;have:=h1 t k (by simp;omega) (by simpa using hkl') ω;rw[fm,fm,hs]at this;rw[ji]at e;exact this (e.trans e1)
   have hlt:i<(D8 p S j k).length:=by rw[Dw];exact hi
   rw[hz,ac e1.symm];have hv:((D8 p S j k).set i ((s.2+p)%p)).getD i 0=(s.2+p)%p:=by simp[List.getD,hlt]
   rw[hv,Int.zero_add];have h5:=(Cg.mod p (s.2+p)).trans ((Cg.refl p s.2).add (Cg.self p))
   rwa [gl]at h5
  ·have hne:s.1≠(Cw S i).id:=λe=>him (H.inj hi ω (by rw[e1,e]));rw[aa hne,gl]
   have hv:((D8 p S j k).set m ((s.2+p)%p)).getD i 0=(D8 p S j k).getD i 0:=by simp[List.getD,gc (fw him)]
   rw[hv];exact ih
theorem SQ(H:PerH p F l S R V)(hj:j<S.length)(hi:i<S.length):Cg p ((C5 p S j).getD i 0) (EM S i j):=by have:=Tq H hj hi (Cw S j).sd.length (au _);rw[ct]at this;exact this
end
end
section
open Go.Lin
variable {i k j:Nat} {o o':List Cl}
section
variable {p:Int} {F:List (Int×Int)} {l S:List Ce} {R V:Nat->List Int}
structure ColI(p:Int)(S:List Ce)(k:Nat)(r v:List Int):Prop where
 rl:r.length=S.length
 vl:v.length=S.length
 eq:∀i,i<S.length->Cg p (r.getD i 0) (F2 S.length (EM S) (λm=>v.getD m 0) i)
 one:v.getD k 0=1
 aft:∀i,k<i->v.getD i 0=0
 vd:∀i,i<S.length->v.getD i 0≠0->(Cw S i).dim=(Cw S k).dim
 rd:∀i,i<S.length->r.getD i 0≠0->(Cw S k).dim=(Cw S i).dim+1
theorem Gw{n:Nat}(hk:k<n)(i:Nat):(C0 n k).getD i 0=if i=k then 1 else 0:=by
 unfold C0;by_cases e:i=k
 ·subst e;simp[List.getD,hk]
 ·rw[aa e];simp only[List.getD];rw[gc (fw e)];by_cases h:i<n
  ·simp[h]
  ·simp[cu (show(List.replicate n (0:Int)).length<=i by simp;omega)]
theorem PerH.col0(H:PerH p F l S R V)(hk:k<S.length):ColI p S k (C5 p S k) (C0 S.length k):=by
 have hp:=H.hp.1;refine⟨Dw _ _ _ _,JZ _ _,λi hi=>?_,?_,λi hi=>?_,λi hi h=>?_,λi hi h=>?_⟩
 ·refine(SQ H hk hi).trans (Cg.of_eq ?_);unfold F2;rw[GX S.length k _ hk λm hm hne=>by show EM S i m*(C0 S.length k).getD m 0=0;rw[Gw hk,aa hne,fh]];show EM S i k=EM S i k*(C0 S.length k).getD k 0;rw[Gw hk,ac rfl,Int.mul_one]
 ·rw[Gw hk,ac rfl]
 ·rw[Gw hk,aa ω]
 ·rw[Gw hk]at h;split at h
  ·rename_i e;rw[e]
  ·exact jt Y h
 ·have hE:EM S i k≠0:=λe=>h (by
   have h1:=SQ H hk hi;rw[e]at h1
   exact h1.eq (C8 ω (Jn ω S k _) i) ⟨ω,ω⟩)
  obtain⟨s,hs,e⟩:=N2 hE;obtain⟨m,hm,e1,e2⟩:=H.before hk hs;have:m=i:=H.inj ω hi (by rw[e1,e]);subst this;omega
theorem Aag(n:Nat)(D:Nat->Nat->Int)(x y:Nat->Int)(c:Int)(i:Nat):F2 n D (λk=>x k+c*y k) i=F2 n D x i+c*F2 n D y i:=by unfold F2;rw[<-FV,<-Hz];exact Bw λk _=>by rw[Int.mul_add,<-ep,<-ep,fa c]
theorem ColI.step{k' i0:Nat}{t:Int}{r v r' v':List Int}(hp:2<=p)(C:ColI p S k r v)(C':ColI p S k' r' v')(hk:k'<k)(hi0:i0<S.length)(h1:r.getD i0 0≠0)(h2:r'.getD i0 0≠0):ColI p S k (EJ p r r' t) (EJ p v v' t):=by
 have lr:r.length=r'.length:=C.rl.trans C'.rl.symm;have lv:v.length=v'.length:=C.vl.trans C'.vl.symm
 have hd:(Cw S k').dim=(Cw S k).dim:=by have:=C.rd i0 hi0 h1;have:=C'.rd i0 hi0 h2;omega
 refine⟨by rw[Ea lr,C.rl],by rw[Ea lv,C.vl],λi hi=>?_,?_,λi hi=>?_,λi hi h=>?_,λi hi h=>?_⟩
 ·rw[Eo lr];refine(Cg.mod p _).trans (((C.eq i hi).add ((Cg.refl p t).mul (C'.eq i hi))).trans ?_);rw[<-Aag];exact Ru (λm _=>by rw[Eo lv];exact(Cg.mod p _).symm) i
 ·rw[Eo lv,C.one,C'.aft k hk,fh,gl];exact gt ω ω
 ·rw[Eo lv,C.aft i hi,C'.aft i ω,fh,gl];rfl
 ·rw[Eo lv]at h;by_cases e:v.getD i 0=0
  ·by_cases e':v'.getD i 0=0
   ·rw[e,e',fh]at h;exact jt Y h
   ·rw[C'.vd i hi e',hd]
  ·exact C.vd i hi e
 ·rw[Eo lr]at h;by_cases e:r.getD i 0=0
  ·by_cases e':r'.getD i 0=0
   ·rw[e,e',fh]at h;exact jt Y h
   ·rw[<-hd];exact C'.rd i hi e'
  ·exact C.rd i hi e
theorem PerH.ops(H:PerH p F l S R V)(ih:∀k',k'<k->ColI p S k' (R k') (V k')){r0 v0 r v:List Int}(C:ColI p S k r0 v0)(h:Ops p S.length k R V r0 v0 r v):ColI p S k r v:=by
 induction h with
 | refl=>exact C
 | step h hk hi h0 h1 h2 h3 ih'=>exact ih'.step H.hp.1 (ih _ hk) hk hi h2 h3
theorem PerH.col(H:PerH p F l S R V):∀k,k<S.length->ColI p S k (R k) (V k):=λk=>by
 induction k using Nat.strongRecOn with
 | ind k ih=>
  intro hk;obtain⟨la,A⟩:=H.P.all;exact H.ops (λk' hk'=>ih k' hk' ω) (H.col0 hk) (A.ops k hk)
end
def tr(o o':List Cl)(i:Nat):Nat:=O6 o' (o.getD i default).id
theorem MV(h:o.Perm o')(hn:(o.map Cl.id).Nodup)(hi:i<o.length):tr o o' i<o.length/\o'.getD (tr o o' i) default=o.getD i default:=by have:=HR (h.mem_iff.1 (Es hi)) ((h.map Cl.id).nodup_iff.1 hn);exact⟨by rw[h.length_eq];exact this.1,this.2⟩
theorem K6(h:o.Perm o')(hn:(o.map Cl.id).Nodup)(hi:i<o.length):tr o' o (tr o o' i)=i:=by obtain⟨h1,h2⟩:=MV h hn hi;have hn':=(h.map Cl.id).nodup_iff.1 hn;obtain⟨h3,h4⟩:=MV h.symm hn' (i:=tr o o' i) (by rw[<-h.length_eq];exact h1);exact Ml hn (by rw[h.length_eq];exact h3) hi (by rw[h4,h2])
theorem Xq(h:o.Perm o')(hn:(o.map Cl.id).Nodup)(hi:i<o.length)(hj:j<o.length)(e:tr o o' i=tr o o' j):i=j:=by rw[<-K6 h hn hi,e,K6 h hn hj]
theorem Acv{n:Nat}{π ρ:Nat->Nat}(f:Nat->Int)(h1:∀i,i<n->π i<n)(h2:∀i,i<n->ρ i<n)(h3:∀i,i<n->π (ρ i)=i)(h4:∀i,i<n->ρ (π i)=i):sm n (λi=>f (π i))=sm n f:=by rw[Bw (g:=λi=>sm n λm=>if m=π i then f m else 0) λi hi=>(Jl n (π i) f (h1 i hi)).symm,KN];refine Bw λm hm=>?_;rw[GX n (ρ m) _ (h2 m hm) λi hi hne=>aa λe=>hne (by rw[e,h4 i hi]),ac (h3 m hm).symm]
theorem Nn{l:List Int}(h:AR l<0)(i:Nat):l.getD i 0=0:=by
 rcases Ja l with ⟨k,hk,e,_⟩|⟨e,h1⟩
 ·omega
 ·by_cases hi:i<l.length
  ·rw[show l.getD i 0=l[i] by simp[List.getD,hi]];exact h1 i hi
  ·simp[List.getD,cu (show l.length<=i by omega)]
def vO(o:List Cl)(S:List Ce)(V:Nat->List Int)(j i:Nat):Int:=(V (tr o (S.map Ce.c) j)).getD (tr o (S.map Ce.c) i) 0
noncomputable def Sb(o:List Cl)(S:List Ce)(R:Nat->List Int)(j:Nat):Option Nat:=if 0<=AR (R (tr o (S.map Ce.c) j)) then some (tr (S.map Ce.c) o (AR (R (tr o (S.map Ce.c) j))).toNat) else none
theorem N6{S:List Ce}(h:i<S.length):(S.map Ce.c).getD i default=Cw S i:=by rw[C6 h];simp[List.getD,h]
def dmo(o:List Cl)(i:Nat):Int:=(o.getD i default).dim
section
variable {p:Int} {F:List (Int×Int)} {l S:List Ce} {R V:Nat->List Int}
theorem PerH.lenS(H:PerH p F l S R V):S.length=(cn l).length:=by have:=H.P.perm.length_eq;simpa using this
theorem PerH.trS(H:PerH p F l S R V)(hi:i<S.length):tr (cn l) (S.map Ce.c) i<S.length/\Cw S (tr (cn l) (S.map Ce.c) i)=(cn l).getD i default:=by
 have h1:=MV H.P.perm.symm H.G.nd (i:=i) (by rw[<-H.lenS];exact hi);have h2:tr (cn l) (S.map Ce.c) i<S.length:=by rw[H.lenS];exact h1.1
 exact⟨h2,by rw[<-N6 h2];exact h1.2⟩
theorem PerH.bndS(H:PerH p F l S R V)(hj:j<S.length)(hi:i<S.length):F2 S.length (DM (cn l)) (vO (cn l) S V j) i=F2 S.length (EM S) (λm=>(V (tr (cn l) (S.map Ce.c) j)).getD m 0) (tr (cn l) (S.map Ce.c) i):=by
 have hnS:((S.map Ce.c).map Cl.id).Nodup:=(H.P.perm.map Cl.id).nodup_iff.2 H.G.nd;unfold F2;rw[<-Acv (π:=tr (cn l) (S.map Ce.c)) (ρ:=tr (S.map Ce.c) (cn l)) (λm=>EM S (tr (cn l) (S.map Ce.c) i) m*(V (tr (cn l) (S.map Ce.c) j)).getD m 0) (λk hk=>(H.trS hk).1) (λk hk=>?_) (λk hk=>?_) (λk hk=>?_)]
 ·refine Bw λk hk=>?_;show DM _ i k*(V _).getD _ 0=EM S _ _*_;congr 1;unfold DM EM;rw[(H.trS hk).2,(H.trS hi).2]
 ·have:=(MV H.P.perm hnS (i:=k) (by simpa using hk)).1;simpa using this
 ·exact K6 H.P.perm hnS (by simpa using hk)
 ·exact K6 H.P.perm.symm H.G.nd (by rw[<-H.lenS];exact hk)
theorem PerH.lowS(H:PerH p F l S R V)(hj:j<S.length):Sb (cn l) S R j=some i<->i<S.length/\AR (R (tr (cn l) (S.map Ce.c) j))=tr (cn l) (S.map Ce.c) i:=by
 have hnS:((S.map Ce.c).map Cl.id).Nodup:=(H.P.perm.map Cl.id).nodup_iff.2 H.G.nd;have C:=H.col _ (H.trS hj).1;unfold Sb;constructor
 ·intro h;split at h
  ·rename_i h0;cases h;have h1:=(Dv (R (tr (cn l) (S.map Ce.c) j))).2;rw[C.rl]at h1;have h2:(AR (R (tr (cn l) (S.map Ce.c) j))).toNat<(S.map Ce.c).length:=by rw[af];omega
   have h3:=MV H.P.perm hnS h2;have h4:=K6 H.P.perm hnS h2;refine⟨by simpa using h3.1,?_⟩;rw[h4,fd h0]
  ·cases h
 ·rintro⟨hi,h⟩;rw[h,ac ω,de,K6 H.P.perm.symm H.G.nd (by rw[<-H.lenS];exact hi)]
theorem PerH.rdc(H:PerH p F l S R V):Rdc p S.length (DM (cn l)) (dmo (cn l)) (tr (cn l) (S.map Ce.c)) (vO (cn l) S V) (Sb (cn l) S R):=by
 have hp:=H.hp.1;obtain⟨la,A⟩:=H.P.all;have e1:=H.lenS
 have hR:∀k,k<S.length->∀i,p∣(R k).getD i 0->(R k).getD i 0=0:=λk hk i hd=>by have:=C8 ω (A.red.rr k hk) i;exact(Cg.eq (cgz.2 hd) this ⟨ω,ω⟩)
 have hb:∀j i,j<S.length->i<S.length->(p∣F2 S.length (DM (cn l)) (vO (cn l) S V j) i<->(R (tr (cn l) (S.map Ce.c) j)).getD (tr (cn l) (S.map Ce.c) i) 0=0):=λj i hj hi=>by have ht:=(H.trS hj).1;rw[H.bndS hj hi,<-((H.col _ ht).eq _ (H.trS hi).1).dvd_iff];exact⟨hR _ ht _,λh=>by rw[h];exact iq p⟩
 refine⟨H.hp.fld,λi j hi hj=>?_,λi j hi hj h=>?_,λi j hi hj h=>?_,λj hj=>?_,λj i hj hi h=>?_,λj hj h i hi=>?_,λj i hj h=>?_,λj j' i hj hj' h h'=>?_⟩
 ·rw[e1,DM2 H.G ω];exact iq p
 ·exact AbM H.G ω ω λe=>h (by rw[e];exact iq p)
 ·exact Xq H.P.perm.symm H.G.nd ω ω h
 ·have C:=H.col _ (H.trS hj).1;refine⟨hj,λh=>?_,λi' hi' h=>?_⟩
  ·unfold vO at h;rw[C.one]at h;have:=Int.le_of_dvd ω h;omega
  ·refine Nat.le_of_not_lt λhlt=>h ?_;unfold vO;rw[C.aft _ hlt];exact iq p
 ·have C:=H.col _ (H.trS hj).1;have:=C.vd _ (H.trS hi).1 λe=>h (by unfold vO;rw[e];exact iq p);rw[(H.trS hi).2,(H.trS hj).2]at this;exact this
 ·rw[hb j i hj hi];refine Nn ?_ _;unfold Sb at h;split at h
  ·cases h
  ·omega
 ·obtain⟨hi,e⟩:=(H.lowS hj).1 h;obtain⟨h1,h2,h3⟩:=DI e;refine⟨hi,λhd=>h2 ((hb j i hj hi).1 hd),λi' hi' hd=>Nat.le_of_not_lt λhlt=>hd ((hb j i' hj hi').2 (h3 _ hlt))⟩
 ·obtain⟨hi,e⟩:=(H.lowS hj).1 h;obtain⟨_,e'⟩:=(H.lowS hj').1 h';have a1:=A.red.a1 _ (H.trS hj).1 ω;have a2:=A.red.a1 _ (H.trS hj').1 ω;rw[e']at a2;rw[e]at a1;exact Xq H.P.perm.symm H.G.nd ω ω ω
end
end
section
open Go.Lin Go.Kuhn
variable {m j:Nat}
theorem Lf{α β:Type}{l:List α}{g:α->β}(h:l.Nodup)(hi:∀a∈l,∀b∈l,g a=g b->a=b):(l.map g).Nodup:=
 cm.2 (h.imp_of_mem λ{a b} ha hb hne e=>hne (hi a ha b hb e))
def fo(F:List (Int×Int))(o:List Cl)(i:Nat):Int:=CN (Bn F) (o.getD i default).id
section
variable {p:Int} {F:List (Int×Int)} {l S:List Ce} {R V:Nat->List Int}
theorem PerH.uniq(H:PerH p F l S R V){j':Nat}(hj:j<S.length)(hj':j'<S.length)(h0:0<=AR (R j))(e:AR (R j)=AR (R j')):j=j':=by obtain⟨la,A⟩:=H.P.all;have a1:=A.red.a1 j hj h0;have a2:=A.red.a1 j' hj' ω;rw[e]at a1;omega
theorem PerH.end_some(H:PerH p F l S R V){x:Int}(h:Bz (Dp (DD S R) (DD S R).length) (m:Int)=some x):∃j,j<S.length/\x=j/\AR (R j)=m:=by obtain⟨j,h1,h2,h3,_⟩:=G0 h;rw[Ji]at h1;rw[Je S R h1]at h3;exact⟨j,h1,h2,h3⟩
theorem PerH.end_get(H:PerH p F l S R V)(hj:j<S.length)(e:AR (R j)=m):Bz (Dp (DD S R) (DD S R).length) (m:Int)=some (j:Int):=by
 cases h:Bz (Dp (DD S R) (DD S R).length) (m:Int) with
 | none=>exact jt (by rw[Je S R hj];exact e) (Iw h j (by rw[Ji];exact hj) ω)
 | some x=>
  obtain⟨j',h1,rfl,h3⟩:=H.end_some h;rw[H.uniq h1 hj ω (by rw[e,h3])]
theorem PerH.inv(H:PerH p F l S R V)(hm:m<S.length):tr (S.map Ce.c) (cn l) m<S.length/\(cn l).getD (tr (S.map Ce.c) (cn l) m) default=(S.getD m default).c/\tr (cn l) (S.map Ce.c) (tr (S.map Ce.c) (cn l) m)=m:=by
 have hnS:((S.map Ce.c).map Cl.id).Nodup:=(H.P.perm.map Cl.id).nodup_iff.2 H.G.nd;have hm':m<(S.map Ce.c).length:=by simpa using hm
 obtain⟨h1,h2⟩:=MV H.P.perm hnS hm';refine⟨by simpa using h1,?_,K6 H.P.perm hnS hm'⟩;rw[h2,N6 hm];rfl
theorem PerH.pair(H:PerH p F l S R V)(hm:m<S.length)(hj:j<S.length)(e:AR (R j)=m):Sb (cn l) S R (tr (S.map Ce.c) (cn l) j)=some (tr (S.map Ce.c) (cn l) m):=by rw[H.lowS (H.inv hj).1];exact⟨(H.inv hm).1,by rw[(H.inv hj).2.2,(H.inv hm).2.2];exact e⟩
end
end
section
open Go.Lin
variable {t d:Int} {n i j m:Nat} {b:Nat->Bool}
def U2(f:Int->Int)(S:List Ce)(L:List Int)(d t:Int)(m:Nat):Bool:=match Bz (Dp L L.length) (m:Int) with
 | some j=>decide (f (Cw S m).id<f (Cw S j.toNat).id/\(Cw S m).dim=d/\f (Cw S m).id<=t/\t<f (Cw S j.toNat).id)
 | none=>decide (L.getD m 0<0/\(Cw S m).dim=d/\f (Cw S m).id<=t)
theorem ZI(f:Int->Int)(S:List Ce)(L:List Int)(d t:Int)(m:Nat):((GV f S L m).filter (Br.at d t)).length=if U2 f S L d t m then 1 else 0:=by
 unfold GV U2;cases Bz (Dp L L.length) (m:Int) with
 | none=>
  show((if L.getD m 0<0 then [⟨(Cw S m).dim,f (Cw S m).id,0,true,(Cw S m).id,0⟩] else []:List Br).filter (Br.at d t)).length=_;generalize Cw S m=x;generalize L.getD m 0=z;by_cases h1:z<0<;>by_cases h2:x.dim=d<;>by_cases h3:f x.id<=t<;>simp[h1,h2,h3,Br.at]
 | some j=>
  show((if f (Cw S m).id<f (Cw S j.toNat).id then [⟨(Cw S m).dim,f (Cw S m).id,f (Cw S j.toNat).id,false,(Cw S m).id,(Cw S j.toNat).id⟩] else []:List Br).filter (Br.at d t)).length=if decide (f (Cw S m).id<f (Cw S j.toNat).id/\(Cw S m).dim=d/\f (Cw S m).id<=t/\t<f (Cw S j.toNat).id)=true then 1 else 0
  generalize Cw S m=x;generalize Cw S j.toNat=y;by_cases h1:f x.id<f y.id<;>by_cases h2:x.dim=d<;>by_cases h3:f x.id<=t<;>by_cases h4:t<f y.id<;>simp[h1,h2,h3,h4,Br.at]
theorem Pj(f:Int->Int)(S:List Ce)(L:List Int)(d t:Int):∀n,((Do f S L n).filter (Br.at d t)).length=Ho n (U2 f S L d t)
 | 0=>rfl
 | n+1=>by rw[Ej,filter_append,ag,Pj f S L d t n,ZI,Gu]
theorem Abi{a c e:Nat->Bool}(h:∀i,i<n->(if a i then 1 else 0)=(if b i then 1 else 0)+(if c i then 1 else 0)+(if e i then 1 else 0:Nat)):Ho n a=Ho n b+Ho n c+Ho n e:=by
 induction n with
 | zero=>rfl
 | succ n ih=>
  have:=h n ω;rw[Gu,Gu,Gu,Gu,ih λi hi=>h i ω];omega
theorem Tl(h:∀l,l<n->b l=false):Ho n b=0:=by unfold Ho Gm;rw[gz,List.filter_eq_nil_iff];intro a ha;rw[h a (bi.1 ha)];simp
theorem Qj{L:List Nat}(hn:L.Nodup)(h:∀l,l∈L<->l<n/\b l=true):Ho n b=L.length:=by unfold Ho Gm;refine((List.perm_ext_iff_of_nodup (jm _ ig) hn).2 λa=>?_).length_eq;rw[mem_filter,bi,h]
section
variable {p:Int} {F:List (Int×Int)} {l S:List Ce} {R V:Nat->List Int}
def fs(F:List (Int×Int))(S:List Ce)(i:Nat):Int:=CN (Bn F) (Cw S i).id
def Qn(F:List (Int×Int))(S:List Ce)(d t:Int)(i:Nat):Bool:=decide ((Cw S i).dim=d/\fs F S i<=t)
noncomputable def Vm(R:Nat->List Int)(i:Nat):Bool:=decide (0<=AR (R i))
theorem inA_iff:Qn F S d t i=true<->(Cw S i).dim=d/\fs F S i<=t:=d6
theorem nzA_iff:Vm R i=true<->0<=AR (R i):=d6
theorem PerH.fmono(H:PerH p F l S R V)(hij:i<=j)(hj:j<S.length):fs F S i<=fs F S j:=by
 rcases Nat.lt_or_eq_of_le hij with h|h
 ·have:=ax.1 H.P.srt i j ω hj h;unfold fs;rw[C6 hj,C6 (ω:i<S.length)];omega
 ·rw[h];exact Int.le_refl _
theorem PerH.low_lt(H:PerH p F l S R V)(hj:j<S.length)(e:AR (R j)=m):m<j/\(Cw S j).dim=(Cw S m).dim+1:=by
 have C:=H.col j hj;obtain⟨la,A⟩:=H.P.all;obtain⟨h1,h2,h3⟩:=DI e;rw[C.rl]at h1;have hp:=H.hp.1;refine⟨?_,C.rd m h1 h2⟩;have hn:¬p∣F2 S.length (EM S) (λk=>(V j).getD k 0) m:=λhd=>h2 (Cg.eq ((C.eq m h1).trans (cgz.2 hd)) (C8 ω (A.red.rr j hj) m) ⟨ω,ω⟩);obtain⟨k,hk,h4⟩:=AaB hn;have h5:EM S m k≠0:=λe=>h4 (by rw[e,ix];exact iq p);have h6:(V j).getD k 0≠0:=λe=>h4 (by show p∣_*(V j).getD k 0;rw[e,fh];exact iq p);obtain⟨s,hs,e1⟩:=N2 h5;obtain⟨m',h7,h8,_⟩:=H.before hk hs;have:m'=m:=H.inj ω h1 (by rw[h8,e1]);subst this;rcases (ω:k<=j\/j<k) with h9|h9
 ·omega
 ·exact jt (C.aft k h9) h6
theorem PerH.low_none(H:PerH p F l S R V)(hj:j<S.length)(e:AR (R j)=m):AR (R m)<0:=by
 have hm:m<S.length:=by have:=(H.low_lt hj e).1;omega
 have h1:=H.pair hm hj e;have Q:=H.rdc;have h2:=Q.cyc (λi hi=>Q.bb _ hi) (Q.lsome _ _ (H.inv hj).1 h1);unfold Sb at h2;rw[(H.inv hm).2.2]at h2;split at h2
 ·cases h2
 ·omega
noncomputable def enA(F:List (Int×Int))(S:List Ce)(R:Nat->List Int)(d t:Int)(m:Nat):Bool:=@decide (Qn F S d t m=true/\∃j,j<S.length/\fs F S j<=t/\AR (R j)=m) (Classical.propDecidable _)
theorem enA_iff:enA F S R d t m=true<->Qn F S d t m=true/\∃j,j<S.length/\fs F S j<=t/\AR (R j)=m:=by unfold enA;exact @d6 _ (Classical.propDecidable _)
theorem PerH.ends(H:PerH p F l S R V)(d t:Int):Ho S.length (enA F S R d t)=Ho S.length λj=>Qn F S (d+1) t j&&Vm R j:=by
 have hP:∀{j},j∈Gm S.length (λj=>Qn F S (d+1) t j&&Vm R j)<->j<S.length/\(Cw S j).dim=d+1/\fs F S j<=t/\0<=AR (R j):=λ{j}=>by unfold Gm;rw[mem_filter,bi,bo,inA_iff,nzA_iff];exact⟨λ⟨a,⟨b,c⟩,e⟩=>⟨a,b,c,e⟩,λ⟨a,b,c,e⟩=>⟨a,⟨b,c⟩,e⟩⟩
 rw[Qj (L:=(Gm S.length λj=>Qn F S (d+1) t j&&Vm R j).map λj=>(AR (R j)).toNat),af]
 ·rfl
 ·refine Lf (jm _ ig) λa ha b hb e=>?_;obtain⟨a1,_,_,a2⟩:=hP.1 ha;obtain⟨b1,_,_,b2⟩:=hP.1 hb;exact H.uniq a1 b1 a2 ω
 ·intro m;rw[enA_iff,inA_iff];constructor
  ·intro h;obtain⟨j,hj,rfl⟩:=ad.1 h;obtain⟨a1,a2,a3,a4⟩:=hP.1 hj;have e:AR (R j)=((AR (R j)).toNat:Int):=ω
   obtain⟨h1,h2⟩:=H.low_lt a1 e;have h3:=H.fmono (Nat.le_of_lt h1) a1;exact⟨ω,⟨ω,ω⟩,j,a1,a3,e⟩
  ·rintro⟨hm,⟨h1,h2⟩,j,h3,h4,h5⟩;obtain⟨h6,h7⟩:=H.low_lt h3 h5;exact ad.2 ⟨j,hP.2 ⟨h3,ω,h4,ω⟩,by rw[h5];omega⟩
theorem PerH.bars(H:PerH p F l S R V)(d t:Int):Ho S.length (Qn F S d t)=((Do (CN (Bn F)) S (DD S R) S.length).filter (Br.at d t)).length+(Ho S.length λj=>Qn F S d t j&&Vm R j)+Ho S.length λj=>Qn F S (d+1) t j&&Vm R j:=by
 rw[Pj,<-H.ends];refine Abi λm hm=>?_
 have hb:U2 (CN (Bn F)) S (DD S R) d t m=true<->Qn F S d t m=true/\¬Vm R m=true/\¬enA F S R d t m=true:=by
  rw[enA_iff,nzA_iff,inA_iff];unfold U2;cases hg:Bz (Dp (DD S R) (DD S R).length) (m:Int) with
  | none=>
   simp only[];rw[decide_eq_true_iff,Je S R hm];constructor
   ·rintro⟨h1,h2,h3⟩;refine⟨⟨h2,h3⟩,ω,?_⟩;rintro⟨_,j,h4,_,h5⟩;have:=H.end_get h4 h5;rw[hg]at this;cases this
   ·rintro⟨⟨h1,h2⟩,h3,_⟩;exact⟨ω,h1,h2⟩
  | some x=>
   obtain⟨j,hj,rfl,e⟩:=H.end_some hg;have h0:=H.low_none hj e;simp only[Int.toNat_natCast];rw[decide_eq_true_iff];constructor
   ·rintro⟨h1,h2,h3,h4⟩;refine⟨⟨h2,h3⟩,ω,?_⟩;rintro⟨_,j',h5,h6,h7⟩;have:=H.uniq hj h5 ω (by rw[e,h7]);subst this;have h6:CN (Bn F) (Cw S j).id<=t:=h6;omega
   ·rintro⟨⟨h1,h2⟩,_,h3⟩;have h4:t<CN (Bn F) (Cw S j).id:=Int.lt_of_not_ge λh5=>h3 ⟨⟨h1,h2⟩,j,hj,h5,e⟩;have h2:CN (Bn F) (Cw S m).id<=t:=h2;exact⟨ω,h1,h2,h4⟩
 have hx:enA F S R d t m=true->¬Vm R m=true:=by rw[enA_iff,nzA_iff];rintro⟨_,j,h1,_,h2⟩;have:=H.low_none h1 h2;omega
 have hE:enA F S R d t m=true->Qn F S d t m=true:=λh=>(enA_iff.1 h).1;revert hb hx hE;cases U2 (CN (Bn F)) S (DD S R) d t m<;>cases Qn F S d t m<;>cases Vm R m<;>cases enA F S R d t m<;>simp
def Vk(S:List Ce)(c:Int):Nat:=O6 (S.map Ce.c) c
theorem PerH.pl(H:PerH p F l S R V){y:Cl}(hy:y∈cn l):Vk S y.id<S.length/\Cw S (Vk S y.id)=y:=by
 have hn:((S.map Ce.c).map Cl.id).Nodup:=by have:=H.nd;rw[fk];exact this
 obtain⟨h1,h2⟩:=HR (H.P.perm.mem_iff.2 hy) hn;have h1:O6 (S.map Ce.c) y.id<S.length:=by simpa using h1
 exact⟨h1,by show Cw S (O6 (S.map Ce.c) y.id)=y;rw[<-N6 h1];exact h2⟩
theorem mem_sub{F:List (Int×Int)}{o:List Cl}{y:Cl}:y∈Fo F t o<->y∈o/\CN (Bn F) y.id<=t:=by unfold Fo;rw[mem_filter,decide_eq_true_iff]
theorem PerH.ids(H:PerH p F l S R V){c:Int}:c∈BP (Fo F t (cn l)) d<->∃y,y∈cn l/\CN (Bn F) y.id<=t/\y.dim=d/\y.id=c:=by
 unfold BP;rw[mem_map];constructor
 ·rintro⟨y,hy,e⟩;obtain⟨h1,h2⟩:=br.1 hy;obtain⟨h3,h4⟩:=mem_sub.1 h1;exact⟨y,h3,h4,bz h2,e⟩
 ·rintro⟨y,h1,h2,h3,e⟩;exact⟨y,br.2 ⟨mem_sub.2 ⟨h1,h2⟩,ai h3⟩,e⟩
theorem PerH.idsN(H:PerH p F l S R V)(d t:Int):(BP (Fo F t (cn l)) d).Nodup:=by unfold BP;exact H.G.nd.sublist ((List.filter_sublist.trans List.filter_sublist).map _)
theorem PerH.nIds(H:PerH p F l S R V)(d t:Int):(BP (Fo F t (cn l)) d).length=Ho S.length (Qn F S d t):=by
 rw[Qj (L:=(BP (Fo F t (cn l)) d).map (Vk S)),af]
 ·refine Lf (H.idsN d t) λa ha b hb e=>?_;obtain⟨y,h1,_,_,rfl⟩:=H.ids.1 ha;obtain⟨z,h2,_,_,rfl⟩:=H.ids.1 hb;have:=(H.pl h1).2;rw[e,(H.pl h2).2]at this;rw[this]
 ·intro m;rw[inA_iff,mem_map];constructor
  ·rintro⟨c,hc,rfl⟩;obtain⟨y,h1,h2,h3,rfl⟩:=H.ids.1 hc;obtain⟨h4,h5⟩:=H.pl h1;exact⟨h4,by rw[h5];exact h3,by unfold fs;rw[h5];exact h2⟩
  ·rintro⟨hm,h1,h2⟩;refine⟨(Cw S m).id,H.ids.2 ⟨_,H.mem hm,h2,h1,Y⟩,?_⟩;obtain⟨h4,h5⟩:=H.pl (H.mem hm);exact H.inj h4 hm (by rw[h5])
theorem PerH.rank(H:PerH p F l S R V)(d t:Int){ρ:Nat}(hr:RkO p (Fo F t (cn l)) d ρ):ρ=Ho S.length λj=>Qn F S d t j&&Vm R j:=by
 obtain⟨E,pv,hE,rfl⟩:=hr;obtain⟨la,A⟩:=H.P.all;have hp:=H.hp.1;obtain⟨sb,hsb⟩:∃sb,Fo F t (cn l)=sb:=⟨_,Y⟩
 have hids:∀{d c},c∈BP sb d<->∃y,y∈cn l/\CN (Bn F) y.id<=t/\y.dim=d/\y.id=c:=λ{d c}=>by rw[<-hsb];exact H.ids
 have hcel:∀{y},y∈cn l->CN (Bn F) y.id<=t->GJ sb y.id=y:=λ{y} hy h=>by
  refine De ?_ ?_
  ·rw[<-hsb];exact H.G.nd.sublist (List.filter_sublist.map _)
  ·rw[<-hsb];exact mem_sub.2 ⟨hy,h⟩
 rw[hsb]at hE
 have hgc:∀k,k<(BP sb d).length->∃y,y∈cn l/\CN (Bn F) y.id<=t/\y.dim=d/\y.id=(BP sb d).getD k 0:=λk hk=>by refine hids.1 ?_;rw[show(BP sb d).getD k 0=(BP sb d)[k] by simp[List.getD,hk]];exact ae hk
 have hgr:∀k,k<(BP sb (d-1)).length->∃y,y∈cn l/\CN (Bn F) y.id<=t/\y.dim=d-1/\y.id=(BP sb (d-1)).getD k 0:=λk hk=>by refine hids.1 ?_;rw[show(BP sb (d-1)).getD k 0=(BP sb (d-1))[k] by simp[List.getD,hk]];exact ae hk
 refine TK (N:=S.length) (D:=EM S) (q:=λk=>Vk S ((BP sb d).getD k 0)) (ρ:=λi=>Vk S ((BP sb (d-1)).getD i 0)) (b:=Qn F S d t) H.hp.fld hE.red (λk hk=>?_) (λk hk=>?_) (λi hi k hk=>?_) (λx hx k hk hno=>?_) (λj hj=>?_) (λj i=>(R j).getD i 0) (λj i=>(V j).getD i 0) (λj hj hb i hi=>?_) (λj hj hb=>?_) (λj m hj hb hm=>?_) (λj m hj hm hb hv=>?_) (Vm R) (λj=>(AR (R j)).toNat) (λj hj hb hn i hi=>?_) (λj hj hb hn=>?_) (λj k hj hk hb hb' hn hn' e=>?_)
 ·obtain⟨y,h1,_,_,e⟩:=hgc k hk;rw[<-e];exact(H.pl h1).1
 ·obtain⟨y,h1,_,_,e⟩:=hgr k hk;rw[<-e];exact(H.pl h1).1
 ·obtain⟨y,h1,h2,_,e⟩:=hgc k hk;obtain⟨z,h3,h4,_,e'⟩:=hgr i hi;refine(Cg.mod p _).trans (Cg.of_eq ?_);show IK sb d i k=EM S (Vk S ((BP sb (d-1)).getD i 0)) (Vk S ((BP sb d).getD k 0));unfold IK EM;rw[<-e,<-e',hcel h1 h2,(H.pl h1).2,(H.pl h3).2]
 ·obtain⟨y,h1,h2,h3,e⟩:=hgc k hk;refine Cg.of_eq (bc λhne=>?_);have hne:sgn (Cw S (Vk S ((BP sb d).getD k 0))).sd (Cw S x).id≠0:=hne;rw[<-e,(H.pl h1).2]at hne;obtain⟨s,hs,es⟩:=N2 hne;obtain⟨z,hz,ez,dz⟩:=H.G.sid y h1 s hs;have hm:=H.mon y h1 s hs;have hmem:z.id∈BP sb (d-1):=hids.2 ⟨z,hz,by rw[ez];omega,ω,rfl⟩;obtain⟨i,hi,ei⟩:=df hmem;refine hno i hi ?_;show Vk S ((BP sb (d-1)).getD i 0)=x;rw[show(BP sb (d-1)).getD i 0=(BP sb (d-1))[i] by simp[List.getD,hi],ei];exact H.inj (H.pl hz).1 hx (by rw[(H.pl hz).2,ez,es])
 ·rw[inA_iff];constructor
  ·rintro⟨h1,h2⟩;have hmem:(Cw S j).id∈BP sb d:=hids.2 ⟨_,H.mem hj,h2,h1,Y⟩;obtain⟨k,hk,ek⟩:=df hmem;refine⟨k,hk,?_⟩;show Vk S ((BP sb d).getD k 0)=j;rw[show(BP sb d).getD k 0=(BP sb d)[k] by simp[List.getD,hk],ek];exact H.inj (H.pl (H.mem hj)).1 hj (by rw[(H.pl (H.mem hj)).2])
  ·rintro⟨k,hk,rfl⟩;obtain⟨y,h1,h2,h3,e⟩:=hgc k hk;show(Cw S (Vk S ((BP sb d).getD k 0))).dim=d/\fs F S (Vk S ((BP sb d).getD k 0))<=t;unfold fs;rw[<-e,(H.pl h1).2];exact⟨h3,h2⟩
 ·refine((H.col j hj).eq i hi).trans (Cg.of_eq ?_);unfold F2;exact Bw λk _=>fa _ _
 ·exact(H.col j hj).one
 ·exact(H.col j hj).aft m hm
 ·have C:=H.col j hj;have h1:=C.vd m hm hv;have h2:m<=j:=Nat.le_of_not_lt λh=>hv (C.aft m h);have h3:=H.fmono h2 hj;rw[inA_iff]at hb ⊢;exact⟨ω,ω⟩
 ·have hn:¬0<=AR (R j):=of_decide_eq_false hn;show Cg p ((R j).getD i 0) 0;rw[Nn ω i];exact Cg.refl p 0
 ·have hn:=nzA_iff.1 hn;have e:AR (R j)=((AR (R j)).toNat:Int):=ω
  obtain⟨h1,h2,h3⟩:=DI e;rw[(H.col j hj).rl]at h1;refine⟨h1,λhd=>h2 ?_,λi hi _=>?_⟩
  ·exact Cg.eq (cgz.2 hd) (C8 ω (A.red.rr j hj) _) ⟨ω,ω⟩
  ·show p∣(R j).getD i 0;rw[h3 i hi];exact iq p
 ·have hn:=nzA_iff.1 hn;have hn':=nzA_iff.1 hn';have e:(AR (R j)).toNat=(AR (R k)).toNat:=e;exact H.uniq hj hk hn ω
theorem PerH.betti(H:PerH p F l S R V)(t D:Int)(rk:Nat->Nat)(hD:Me (Fo F t (cn l)) D)(h0:rk 0=0)(hrk:∀n:Nat,n<(D+1).toNat->RkO p (Fo F t (cn l)) (n+1) (rk (n+1)))(d:Nat) :
  (((Do (CN (Bn F)) S (DD S R) S.length).filter (Br.at d t)).length:Int)=if d<(D+1).toNat then(MO (Fo F t (cn l)) rk (D+1).toNat).getD d 0 else 0:=by
 have h1:=H.bars d t;split
 ·rename_i hd
  have h2:(MO (Fo F t (cn l)) rk (D+1).toNat).getD d 0=((BP (Fo F t (cn l)) d).length:Int)-rk d-rk (d+1):=by unfold MO;simp[List.getD,hd]
  have h3:=H.rank _ _ (hrk d hd)
  have h4:rk d=Ho S.length λj=>Qn F S d t j&&Vm R j:=by
   cases d with
   | zero=>
    rw[h0,Tl];intro j hj;refine Bool.eq_false_iff.2 λh=>?_;rw[bo,inA_iff,nzA_iff]at h;have e:AR (R j)=((AR (R j)).toNat:Int):=ω
    obtain⟨h5,h6⟩:=H.low_lt hj e;have:=H.G.dim _ (H.mem (i:=(AR (R j)).toNat) ω);have:=h.1.1;omega
   | succ d=>
    exact H.rank _ _ (hrk d ω)
  rw[h2,h4,h3,H.nIds,h1];omega
 ·rename_i hd
  have h2:Ho S.length (Qn F S d t)=0:=Tl λj hj=>by refine Bool.eq_false_iff.2 λh=>?_;obtain⟨h3,h4⟩:=inA_iff.1 h;have h5:=hD.2.1 _ (mem_sub.2 ⟨H.mem hj,h4⟩);have:=hD.1;omega
  omega
end
end
section
open Go.Lin Go.Kuhn
structure Y1(o:List Cl)(F:List (Int×Int)):Prop where
 fst:F.map Prod.fst=o.map Cl.id
 bd:∀q∈F,-2000000000<=q.2/\q.2<=2000000000
 at_:∀i,i<o.length->fo F o i=(F.getD i (0,0)).2
 chk:DN o F=(0,0)
 bI:∀c,-2000000000<=CN (Bn F) c/\CN (Bn F) c<=2000000000
 mon:∀x∈o,∀s∈x.sd,CN (Bn F) s.1<=CN (Bn F) x.id
theorem Yb{o:List Cl}(G:Rgt o)(w:Int->Int)(hb:∀y∈o,-2000000000<=w y.id/\w y.id<=2000000000)(hm:∀x∈o,∀s∈x.sd,w s.1<=w x.id):Y1 o (o.map λx=>(x.id,w x.id)):=by
 obtain⟨F,hF⟩:∃F,(o.map λx=>(x.id,w x.id))=F:=⟨_,Y⟩
 have e0:F=o.map λx=>(x.id,w x.id):=hF.symm;have e1:F.map Prod.fst=o.map Cl.id:=by rw[e0,fk];rfl
 have hnd:(F.map Prod.fst).Nodup:=by rw[e1];exact G.nd
 have hat:∀x∈o,CN (Bn F) x.id=w x.id:=λx hx=>P8 hnd (by rw[e0];exact ad.2 ⟨x,hx,Y⟩)
 have hmon:∀x∈o,∀s∈x.sd,CN (Bn F) s.1<=CN (Bn F) x.id:=λx hx s hs=>by obtain⟨y,hy,e,_⟩:=G.sid x hx s hs;rw[hat x hx,<-e,hat y hy,e];exact hm x hx s hs
 rw[hF];refine⟨e1,λq hq=>?_,λi hi=>?_,R5 (λj hj=>?_) (λj hj=>?_) (λj hj=>?_),λc=>?_,hmon⟩
 ·rw[e0]at hq;obtain⟨x,hx,rfl⟩:=ad.1 hq;exact hb x hx
 ·have h1:o.getD i default=o[i]:=by simp[List.getD,hi]
  unfold fo;rw[h1,hat _ (ae hi),e0];simp[List.getD,hi]
 ·have hjo:j<o.length:=by rw[e0,af]at hj;exact hj
  have h1:(F.getD j (0,0)).1=o[j].id:=by rw[e0];simp[List.getD,hjo]
  unfold fA;rw[h1,DG G.nd (ae hjo),aa σ,aa λh=>?_];obtain⟨q,hq,e⟩:=ad.1 h;obtain⟨i,hi,rfl⟩:=df hq;rw[av]at hi;have hp:=ax.1 G.nd i j (by simp;omega) (by simpa using hjo) ω;rw[fm,fm]at hp;refine hp ?_;rw[ji]at e;rw[<-e];simp only[e0,fm]
 ·unfold fB;rw[aa];intro h;refine h ?_;rw[e1];exact ad.2 ⟨_,Es hj,Y⟩
 ·unfold fC;rw[aa];rintro⟨s,hs,h⟩;have:=hmon _ (Es hj) s hs;unfold CN at this;unfold He at h;omega
 ·unfold CN;cases h:Bz (Bn F) c with
  | none=>simp
  | some x=>
   have hc:c∈(Bn F).map Prod.fst:=bc λhn=>by rw[Dl hn]at h;cases h
   rw[MY,e1]at hc;obtain⟨y,hy,rfl⟩:=ad.1 hc;have:=hat y hy;unfold CN at this;rw[h]at this;rw[this];exact hb y hy
end
section
theorem Hy(f:Int×Int×Int->Int)(g:Int×Int×Int->Int)(κ:Int):∀T:Gy,(∀e∈T,f e=κ*g e)->(T.map f).sum=κ*(T.map g).sum
 | [],_=>by simp
 | e::T,h=>by rw[fl,fl,sum_cons,sum_cons,h e Mh,Hy f g κ T λe he=>h e (bh _ he),Int.mul_add]
theorem GoodT.ren{T:Gy}{s s':List (Int×Int)}(G:GoodT T s)(φ κ:Int->Int)(hφ:∀e∈T,∀e'∈T,φ e.2.1=φ e'.2.1->e.2.1=e'.2.1)(hs:∀a∈s',∃b∈s,a.1=φ b.1):GoodT (T.map λe=>(φ e.1,φ e.2.1,κ e.2.1*e.2.2)) s' where
 sum:=λe' he'=>by
  obtain⟨e,he,rfl⟩:=ad.1 he';have h1:=G.sum e he;unfold EF at *;rw[fk,Hy _ (λe'=>if e'.2.1=e.2.1 then e'.2.2 else 0) (κ e.2.1) T λe' he'=>?_,h1,fh];show(if φ e'.2.1=φ e.2.1 then κ e'.2.1*e'.2.2 else 0)=_;by_cases h:e'.2.1=e.2.1
  ·rw[ac h,h,ac rfl]
  ·rw[aa h,aa λq=>h (hφ _ he' _ he q),fh]
 two:=λe' he'=>by
  obtain⟨e,he,rfl⟩:=ad.1 he';have h1:=G.two e he;unfold FL at *;rw[fk,Hy _ (λe'=>if e'.2.1=e.2.1 then 1 else 0) 1 T λe' he'=>?_,h1]
  ·rfl
  show(if φ e'.2.1=φ e.2.1 then(1:Int) else 0)=_;by_cases h:e'.2.1=e.2.1
  ·rw[ac h,h,ac rfl];rfl
  ·rw[aa h,aa λq=>h (hφ _ he' _ he q)];rfl
 con:=λa ha b hb=>by
  obtain⟨a',ha',ea⟩:=hs a ha;obtain⟨b',hb',eb⟩:=hs b hb;rw[ea,eb];have h:=G.con a' ha' b' hb';generalize a'.1=x at *;generalize b'.1=y at *;clear ea eb
  induction h with
  | refl=>exact .refl _
  | step _ h1 h2 ih=>exact .step ih (ad.2 ⟨_,h1,Y⟩) (ad.2 ⟨_,h2,Y⟩)
variable {n k b m j:Nat} {all:List (List Int)} {S l t s:List Int} {f:Nat->Int}
abbrev Inc(l:List Int):Prop:=l.Pairwise (· < ·)
theorem OC{x:Int}(h:t.Sublist (l++[x])):t.Sublist l\/∃t',t=t'++[x]/\t'.Sublist l:=by
 obtain⟨t1,t2,e,h1,h2⟩:=List.sublist_append_iff.1 h
 have h3:t2=[]\/t2=[x]:=by
  cases h2 with
  | cons _ h=>exact .inl (List.sublist_nil.1 h)
  | cons_cons _ h=>exact .inr (by rw[List.sublist_nil.1 h])
 rcases h3 with rfl|rfl
 ·left;rw[e,eo];exact h1
 ·exact .inr ⟨t1,e,h1⟩
theorem Qr(s:List Int)(b:Nat):∀n,n<=s.length->(ER s b n).Sublist (s.take n)
 | 0,_=>by simp[ER]
 | n+1,h=>by
  rw[H4,ak ω];refine(Qr s b n ω).append ?_;split
  ·simp[List.getD,show n<s.length by omega]
  ·simp
theorem TM{b':Nat}(h:∀k,k<n->b.testBit k=b'.testBit k):ER s b n=ER s b' n:=by unfold ER;congr 1;exact List.filter_congr λk hk=>h k (bi.1 hk)
theorem Lb(s:List Int):∀n,n<=s.length->∀t:List Int,t.Sublist (s.take n)->∃b,b<2^n/\t=ER s b n
 | 0,_,t,ht=>⟨0,by simp,by simpa[ER] using ht⟩
 | n+1,h,t,ht=>by
  rw[ak ω]at ht;have h2:2^(n+1)=2^n+2^n:=by rw[Nat.pow_succ];omega
  rcases OC ht with h1|⟨t',rfl,h1⟩
  ·obtain⟨b,hb,e⟩:=Lb s n ω t h1;refine⟨b,ω,?_⟩;rw[H4,Nat.testBit_lt_two_pow hb,e];simp
  ·obtain⟨b,hb,e⟩:=Lb s n ω t' h1;refine⟨2^n+b,ω,?_⟩;rw[H4,Nat.testBit_two_pow_add_eq,Nat.testBit_lt_two_pow hb,e];rw[TM (b:=2^n+b) (b':=b) λk hk=>Nat.testBit_two_pow_add_gt hk b];simp[List.getD,show n<s.length by omega]
theorem Vd(s:List Int)(n:Nat):ER s 0 n=[]:=by simp[ER]
theorem Rx(H:SrtB all):t∈Dc all s (2^s.length-1)<->t∈all\/(t≠[]/\t.Sublist s)\/(t=[]/\∃b,1<=b/\b<=2^s.length-1/\ER s b s.length=[]):=by
 rw[ID H];constructor
 ·rintro(h|⟨b,h1,h2,rfl⟩)
  ·exact .inl h
  ·by_cases h3:ER s b s.length=[]
   ·exact .inr (.inr ⟨h3,b,h1,h2,h3⟩)
   ·refine .inr (.inl ⟨h3,?_⟩);have:=Qr s b s.length (au _)
    rwa [ct]at this
 ·rintro(h|⟨h1,h2⟩|⟨rfl,b,h1,h2,h3⟩)
  ·exact .inl h
  ·obtain⟨b,hb,e⟩:=Lb s s.length (au _) t (by rw[ct];exact h2);refine .inr ⟨b,?_,ω,e⟩;rcases d8 b with rfl|h
   ·rw[Vd]at e;exact jt e h1
   ·exact h
  ·exact .inr ⟨b,h1,h2,h3.symm⟩
theorem Zw(h1:1<=b)(h2:b<2^s.length):ER s b s.length≠[]:=λh=>by
 have:b=0:=Nat.eq_of_testBit_eq λk=>by
  rw[Nat.zero_testBit];by_cases hk:k<s.length
  ·cases hb:b.testBit k with
   | false=>rfl
   | true=>
    have:s.getD k 0∈ER s b s.length:=by unfold ER;exact ad.2 ⟨k,br.2 ⟨bi.2 hk,hb⟩,Y⟩
    rw[h]at this;cases this
  ·exact Nat.testBit_lt_two_pow (fz h2 (Nat.pow_le_pow_right δ ω))
 omega
theorem WV{x:Int}(h:Inc l)(hn:¬MB x l):Inc (Kv x l):=by
 unfold MB at hn;unfold Kv
 have h1:∀y∈l.takeWhile (λy=>decide (y<x)),y<x:=λy hy=>by have:=gk.1 (List.all_takeWhile (p:=λy:Int=>decide (y<x)) (l:=l)) y hy;simpa using this
 have h2:∀l:List Int,Inc l->(l.dropWhile λy=>decide (y<x)).head?≠some x->∀y∈l.dropWhile (λy=>decide (y<x)),x<y:=λl=>by
  induction l with
  | nil=>intro _ _ y hy;cases hy
  | cons a l ih=>
   intro hi hx y hy;rw[List.dropWhile_cons]at hy hx;split at hy
   ·rename_i g;rw[ac g]at hx;exact ih (bj.1 hi).2 hx y hy
   ·rename_i g;rw[aa g]at hx;have g1:¬a<x:=by simpa using g
    have g2:a≠x:=by simpa using hx
    rcases aq.1 hy with rfl|hy
    ·omega
    ·have:=(bj.1 hi).1 y hy;omega
 have h3:=h2 l h hn;refine f7.2 ⟨h.sublist (List.takeWhile_sublist _),bj.2 ⟨h3,h.sublist (List.dropWhile_sublist _)⟩,λa ha b hb=>?_⟩;have h4:=h1 a ha;rcases aq.1 hb with rfl|hb
 ·exact h4
 ·have:=h3 b hb;omega
theorem Lr:∀(l acc:List Int) (s:List Int),Inc acc->Ez acc l=some s->Inc s
 | [],acc,s,h,e=>by have:acc=s:=di e;rw[<-this];exact h
 | x::l,acc,s,h,e=>by
  unfold Ez at e;split at e
  ·exact Lr l acc s h e
  ·rename_i hn;split at e
   ·cases e
   ·refine Lr l _ s ?_ e;exact WV h hn
structure AllS(all:List (List Int)):Prop where
 srt:SrtB all
 inc:∀s∈all,Inc s
 ne:∀s∈all,s≠[]
 sub:∀s∈all,∀t:List Int,t≠[]->t.Sublist s->t∈all
theorem AllS.faces(A:AllS all)(hs:Inc s):AllS (Dc all s (2^s.length-1)):=by
 have hm:∀t,t∈Dc all s (2^s.length-1)<->t∈all\/(t≠[]/\t.Sublist s):=λt=>by
  rw[Rx A.srt];refine⟨λh=>?_,λh=>?_⟩
  ·rcases h with h|h|⟨_,b,h1,h2,h3⟩
   ·exact .inl h
   ·exact .inr h
   ·exact jt h3 (Zw h1 (by have:=Nat.two_pow_pos s.length;omega))
  ·rcases h with h|h
   ·exact .inl h
   ·exact .inr (.inl h)
 refine⟨EW A.srt s _,λt ht=>?_,λt ht=>?_,λt ht u hu hs=>?_⟩
 ·rcases (hm t).1 ht with h|h
  ·exact A.inc t h
  ·exact hs.sublist h.2
 ·rcases (hm t).1 ht with h|h
  ·exact A.ne t h
  ·exact h.1
 ·rw[hm];rcases (hm t).1 ht with h|h
  ·exact .inl (A.sub t h u hu hs)
  ·exact .inr ⟨hu,hs.trans h.2⟩
theorem MZ:∀(ll:List (List Int)) (acc all:List (List Int)),AllS acc->CW acc ll=some all->AllS all
 | [],acc,all,h,e=>by have:acc=all:=di e;rw[<-this];exact h
 | l::ll,acc,all,h,e=>by
  rw[DX]at e;split at e
  ·cases e
  ·refine MZ ll _ all ?_ e;cases hs:Ez [] l with
   | none=>exact h
   | some s=>exact h.faces (Lr l [] s List.Pairwise.nil hs)
def nI(all:List (List Int))(t:List Int):Int:=((Dk all t).1:Int)+1
theorem AllS.nI_at(A:AllS all)(ht:t∈all):∃j,∃hj:j<all.length,all[j]=t/\nI all t=(j:Int)+1:=by obtain⟨j,hj,rfl⟩:=df ht;exact⟨j,hj,Y,by unfold nI;rw[QR A.srt hj]⟩
theorem AllS.nI_inj(A:AllS all){u:List Int}(ht:t∈all)(hu:u∈all)(e:nI all t=nI all u):t=u:=by
 obtain⟨j,hj,rfl,e1⟩:=A.nI_at ht;obtain⟨k,hk,rfl,e2⟩:=A.nI_at hu;have:j=k:=ω
 subst this;rfl
def sk(k i:Nat):Nat:=if i<k then i else i+1
theorem Hc(k i:Nat):(i<k/\sk k i=i)\/(k<=i/\sk k i=i+1):=by unfold sk;split<;>omega
theorem MJ(k i:Nat):sk k i≠k:=by unfold sk;split<;>omega
theorem AbT{i:Nat}(hi:i<n):sk k i<n+1:=by unfold sk;split<;>omega
theorem Gj(l:List Int)(k i:Nat):(l.eraseIdx k)[i]?=l[sk k i]?:=by rw[List.getElem?_eraseIdx];unfold sk;split<;>rfl
def un(j k:Nat):Nat:=if k<j then k else k-1
theorem Ld(j k:Nat):(k<j/\un j k=k)\/(j<=k/\un j k=k-1):=by unfold un;split<;>omega
theorem Pr(h:j≠k):sk j (un j k)=k:=by have:=Ld j k;have:=Hc j (un j k);omega
theorem Tp(l:List Int):(l.eraseIdx k).eraseIdx m=(l.eraseIdx (sk k m)).eraseIdx (un (sk k m) k):=by refine List.ext_getElem? λi=>?_;rw[Gj,Gj,Gj,Gj];congr 1;have:=Hc k m;have:=Hc m i;have:=Hc k (sk m i);have:=Ld (sk k m) k;have:=Hc (un (sk k m) k) i;have:=Hc (sk k m) (sk (un (sk k m) k) i);omega
theorem V6(hn:l.Nodup)(hj:j<l.length):l[j]∈l.eraseIdx k<->j≠k:=by
 rw[List.mem_iff_getElem?];constructor
 ·rintro⟨i,h⟩ e;rw[Gj]at h;obtain⟨h1,h2⟩:=bg.1 h;have:=H3 hn h1 hj h2;exact MJ k i ω
 ·intro h;exact⟨un k j,by rw[Gj,Pr (fw h),ah hj]⟩
theorem KJ(hn:l.Nodup)(hj:j<l.length):l[j]∈(l.eraseIdx k).eraseIdx m<->j≠k/\j≠sk k m:=by
 rw[List.mem_iff_getElem?];constructor
 ·rintro⟨i,h⟩;rw[Gj,Gj]at h;obtain⟨h1,h2⟩:=bg.1 h;have:=H3 hn h1 hj h2;refine⟨λe=>MJ k (sk m i) ω,λe=>?_⟩;have h3:sk k (sk m i)=sk k m:=ω
  have h4:=MJ m i;have:=Hc k m;have:=Hc k (sk m i);omega
 ·rintro⟨h1,h2⟩;have h3:m≠un k j:=λe=>h2 (by rw[e,Pr (fw h1)]);exact⟨un m (un k j),by rw[Gj,Gj,Pr h3,Pr (fw h1),ah hj]⟩
theorem Ab3(hn:l.Nodup){a:Nat}(hl:l.length=n+1)(hk:k<n+1)(hm:m<n)(ha:a<n+1)(hb:b<n):(l.eraseIdx k).eraseIdx m=(l.eraseIdx a).eraseIdx b<->(k=a/\m=b)\/(k=sk a b/\m=un (sk a b) a):=by
 constructor
 ·intro h;have hab:=AbT (k:=a) hb
  have h1:¬(a≠k/\a≠sk k m):=λq=>by have:=(KJ hn (k:=k) (m:=m) (show a<l.length by omega)).2 q;rw[h]at this;exact((KJ hn (show a<l.length by omega)).1 this).1 Y
  have h2:¬(sk a b≠k/\sk a b≠sk k m):=λq=>by have:=(KJ hn (k:=k) (m:=m) (show sk a b<l.length by omega)).2 q;rw[h]at this;exact((KJ hn (show sk a b<l.length by omega)).1 this).2 Y
  have h3:=MJ a b;have:=Hc k m;have:=Hc a b;have:=Ld (sk a b) a;omega
 ·rintro(⟨rfl,rfl⟩|⟨rfl,rfl⟩)
  ·rfl
  ·exact(Tp l).symm
def rs(n:Nat)(f:Nat->Int):Int:=((range n).map f).sum
theorem OD(n:Nat)(f:Nat->Int):rs (n+1) f=rs n f+f n:=by unfold rs;rw[jp,bm,List.sum_append];simp
theorem Sq(h:∀i,i<n->f i=0):rs n f=0:=by
 induction n with
 | zero=>rfl
 | succ n ih=>rw[OD,ih λi hi=>h i ω,h n ω];rfl
theorem NT(hk:k<n)(h:∀i,i<n->i≠k->f i=0):rs n f=f k:=by
 induction n with
 | zero=>omega
 | succ n ih=>
  rw[OD];rcases (ω:k=n\/k<n) with rfl|h1
  ·rw[Sq λi hi=>h i ω ω,Int.zero_add]
  ·rw[ih h1 λi hi=>h i ω,h n ω ω,gl]
theorem AbC{k':Nat}(hk:k<n)(hk':k'<n)(hne:k≠k')(h:∀i,i<n->i≠k->i≠k'->f i=0):rs n f=f k+f k':=by
 induction n with
 | zero=>omega
 | succ n ih=>
  rw[OD];rcases (ω:k=n\/(k<n/\k'=n)\/(k<n/\k'<n)) with rfl|⟨h1,rfl⟩|⟨h1,h2⟩
  ·rw[NT (k:=k') ω λi hi hn=>h i ω ω hn,Int.add_comm]
  ·rw[NT (k:=k) h1 λi hi hn=>h i ω hn ω]
  ·rw[ih h1 h2 λi hi=>h i ω,h n ω ω ω,gl]
theorem QM{α:Type}(f:α->List Int):∀l:List α,(l.flatMap f).sum=(l.map λa=>(f a).sum).sum
 | []=>rfl
 | a::l=>by rw[List.flatMap_cons,List.sum_append,QM f l,fl,sum_cons]
def sg(k:Nat):Int:=1-2*((k:Int)%2)
theorem Tu(k:Nat):sg (k+1)=- sg k:=by unfold sg;omega
theorem Acy(k:Nat):sg k=1\/sg k=-1:=by unfold sg;omega
def IB(all:List (List Int))(t:List Int):List (Int×Int):=(range t.length).map λk=>(nI all (t.eraseIdx k),sg k)
def sc(all:List (List Int))(t:List Int):Cl:=⟨nI all t,(t.length:Int)-1,if t.length<=1 then [] else Cu (IB all t)⟩
theorem RF(A:AllS all):(range all.length).map (D7 all)=all.map (sc all):=by
 refine dq σ λj h1 h2=>?_;have hj:j<all.length:=by simpa using h2
 rw[fm,fm,List.getElem_range];have e:all.getD j []=all[j]:=by simp[List.getD,hj]
 unfold D7 sc;rw[e];unfold nI;rw[QR A.srt hj];rfl
def Uk(all:List (List Int))(S:List Int)(n:Nat):Gy:=(range (n+1)).flatMap λk=>(range n).map λm=>(nI all (S.eraseIdx k),nI all ((S.eraseIdx k).eraseIdx m),sg k*sg m)
theorem Pn(all:List (List Int))(S:List Int)(n:Nat)(g:Int×Int×Int->Int):((Uk all S n).map g).sum=rs (n+1) λk=>rs n λm=>g (nI all (S.eraseIdx k),nI all ((S.eraseIdx k).eraseIdx m),sg k*sg m):=by unfold Uk;rw[List.map_flatMap,QM];unfold rs;simp only[fk];rfl
theorem VJ(A:AllS all)(hS:S∈all)(hl:S.length=n+1)(hn:1<=n)(hk:k<n+1):S.eraseIdx k∈all:=by refine A.sub S hS _ (λe=>?_) (List.eraseIdx_sublist _ _);have:=aw List.length e;rw[List.length_eraseIdx,ac ω]at this;simp at this;omega
theorem OM(hl:S.length=n+1)(hk:k<n+1):(S.eraseIdx k).length=n:=by rw[List.length_eraseIdx,ac ω];omega
theorem P0(A:AllS all)(hS:S∈all){a:Nat}(hl:S.length=n+1)(hn:2<=n)(ha:a<n+1)(hb:b<n)(w:Nat->Nat->Int):(rs (n+1) λk=>rs n λm=>if nI all ((S.eraseIdx k).eraseIdx m)=nI all ((S.eraseIdx a).eraseIdx b) then w k m else 0)=w a b+w (sk a b) (un (sk a b) a):=by
 have hnd:S.Nodup:=(A.inc S hS).imp λh e=>ω
 have hin:∀k m,k<n+1->m<n->(S.eraseIdx k).eraseIdx m∈all:=λk m hk hm=>by
  obtain⟨n',rfl⟩:∃n',n=n'+1:=⟨n-1,ω⟩
  exact VJ A (VJ A hS hl ω hk) (OM hl hk) ω hm
 have hiff:∀k m,k<n+1->m<n->(nI all ((S.eraseIdx k).eraseIdx m)=nI all ((S.eraseIdx a).eraseIdx b)<->(k=a/\m=b)\/(k=sk a b/\m=un (sk a b) a)):=λk m hk hm=>by rw[<-Ab3 hnd hl hk hm ha hb];exact⟨λh=>A.nI_inj (hin k m hk hm) (hin a b ha hb) h,λh=>by rw[h]⟩
 have h1:=MJ a b;have h2:=Hc a b;have h3:=Ld (sk a b) a
 rw[AbC (k:=a) (k':=sk a b) ha ω (fw h1) λk hk q1 q2=>Sq λm hm=>aa λq=>by
  rcases (hiff k m hk hm).1 q with q|q
  ·exact q1 q.1
  ·exact q2 q.1]
 rw[NT (k:=b) hb λm hm q=>aa λq'=>by
   rcases (hiff a m ha hm).1 q' with q'|q'
   ·exact q q'.2
   ·exact h1 q'.1.symm,ac Y,
  NT (k:=un (sk a b) a) ω λm hm q=>aa λq'=>by
   rcases (hiff (sk a b) m ω hm).1 q' with q'|q'
   ·exact h1 q'.1
   ·exact q q'.2,ac ((hiff _ _ ω ω).2 (.inr ⟨Y,Y⟩))]
theorem Pi{e:Int×Int×Int}(h:e∈Uk all S n):∃k m,k<n+1/\m<n/\e=(nI all (S.eraseIdx k),nI all ((S.eraseIdx k).eraseIdx m),sg k*sg m):=by obtain⟨k,hk,h1⟩:=List.mem_flatMap.1 h;obtain⟨m,hm,rfl⟩:=ad.1 h1;exact⟨k,m,bi.1 hk,bi.1 hm,Y⟩
theorem Qy(hk:k<n+1)(hm:m<n):(nI all (S.eraseIdx k),nI all ((S.eraseIdx k).eraseIdx m),sg k*sg m)∈Uk all S n:=List.mem_flatMap.2 ⟨k,bi.2 hk,ad.2 ⟨m,bi.2 hm,rfl⟩⟩
theorem Uu(A:AllS all)(hS:S∈all)(hl:S.length=n+1)(hn:2<=n):GoodT (Uk all S n) (IB all S) where
 sum:=λe he=>by
  obtain⟨a,b,ha,hb,rfl⟩:=Pi he;unfold EF;rw[Pn];refine(P0 A hS hl hn ha hb λk m=>sg k*sg m).trans ?_;have h1:=MJ a b;have h2:=Hc a b;have h3:=Ld (sk a b) a;rcases h2 with ⟨h4,h5⟩|⟨h4,h5⟩
  ·rw[h5]at h3 ⊢;obtain⟨c,rfl⟩:∃c,a=c+1:=⟨a-1,ω⟩
   rw[show un b (c+1)=c by omega,Tu,Int.neg_mul,fa (sg b)];omega
  ·rw[h5]at h3 ⊢;rw[show un (b+1) a=a by omega,Tu,Int.neg_mul,fa (sg b)];omega
 two:=λe he=>by obtain⟨a,b,ha,hb,rfl⟩:=Pi he;unfold FL;rw[Pn];exact P0 A hS hl hn ha hb λk m=>1
 con:=λa ha b hb=>by
  unfold IB at ha hb;obtain⟨k,hk,rfl⟩:=ad.1 ha;obtain⟨k',hk',rfl⟩:=ad.1 hb;have hk:=bi.1 hk;have hk':=bi.1 hk';show Con _ (nI all (S.eraseIdx k)) (nI all (S.eraseIdx k'));by_cases e:k=k'
  ·subst e;exact .refl _
  ·have h1:=Ld k k';have h2:=Ld k' k
   have h3:(S.eraseIdx k).eraseIdx (un k k')=(S.eraseIdx k').eraseIdx (un k' k):=by rw[Tp S (k:=k) (m:=un k k'),Pr e]
   have m1:=Qy (all:=all) (S:=S) (n:=n) (k:=k) (m:=un k k') ω ω;have m2:=Qy (all:=all) (S:=S) (n:=n) (k:=k') (m:=un k' k) ω ω;rw[h3]at m1;exact .step (.refl _) m1 m2
theorem AllS.nil:AllS []:=⟨List.Pairwise.nil,nofun,nofun,nofun⟩
theorem Xs(ll:List (List Int)):Rgt (EO ll):=by
 have hbd:=WC ll;unfold EO at *;cases h:CW [] ll with
 | none=>exact Rgt.nil
 | some all=>
  rw[h]at hbd;have A:=MZ ll [] all AllS.nil h;have h9:=FD ll [] all List.Pairwise.nil (λt ht=>nomatch ht) h;show Rgt ((range all.length).map (D7 all));have hbd1:((range all.length).map (D7 all)).length<=4000:=hbd.1;rw[RF A]at hbd1 ⊢
  have hlen:∀t∈all,1<=t.length:=λt ht=>by
   have:=A.ne t ht;cases t with
   | nil=>exact jt Y this
   | cons a t=>simp
  have hnd:((all.map (sc all)).map Cl.id).Nodup:=by rw[fk];refine cm.2 ((A.srt.imp λ{a b} h e=>?_:all.Pairwise (·≠·)).imp_of_mem λ{a b} ha hb hne e=>hne (A.nI_inj ha hb e));rw[e,Hn]at h;cases h
  have hcel:∀t∈all,GJ (all.map (sc all)) (nI all t)=sc all t:=λt ht=>De hnd (ad.2 ⟨t,ht,Y⟩);have hsd:∀t∈all,2<=t.length->(sc all t).sd=Cu (IB all t):=λt _ h=>aa ω;have hraw:∀t:List Int,(IB all t).length=t.length:=λt=>by simp[IB]
  have hside:∀t∈all,∀s∈(sc all t).sd,∃k,k<t.length/\2<=t.length/\s=(nI all (t.eraseIdx k),sg k):=λt ht s hs=>by
   by_cases h2:2<=t.length
   ·rw[hsd t ht h2]at hs;have hs:=(B7 _).mem_iff.1 hs;unfold IB at hs;obtain⟨k,hk,rfl⟩:=ad.1 hs;exact⟨k,bi.1 hk,h2,Y⟩
   ·have:(sc all t).sd=[]:=ac ω;rw[this]at hs;cases hs
  have hin:∀t∈all,2<=t.length->∀k,k<t.length->t.eraseIdx k∈all:=λt ht h2 k hk=>VJ A ht (n:=t.length-1) ω ω ω;refine⟨hbd1,hnd,λx hx=>?_,λx hx=>?_,λx hx=>?_,λx hx=>?_,λx hx s hs=>?_,λx hx s hs=>?_,λx hx hd=>?_,λx hx hd=>?_⟩<;>obtain⟨t,ht,rfl⟩:=ad.1 hx<;>have hl1:=hlen t ht<;>have hl9:=h9 t ht
  ·show 1<=nI all t;unfold nI;omega
  ·show 0<=(t.length:Int)-1/\(t.length:Int)-1<=8;omega
  ·unfold Cb;show ¬(((t.length:Int)-1=0/\0<(sc all t).sd.length)\/((t.length:Int)-1=1/\(sc all t).sd.length≠2)\/(1<(t.length:Int)-1/\((sc all t).sd.length<2\/64<(sc all t).sd.length)));by_cases h2:2<=t.length
   ·rw[hsd t ht h2,GR,hraw];omega
   ·have:(sc all t).sd=[]:=ac ω;rw[this];simp;omega
  ·by_cases h2:2<=t.length
   ·rw[hsd t ht h2,((B7 (IB all t)).map Prod.fst).nodup_iff];unfold IB;rw[fk];refine cm.2 ((ig (n:=t.length)).imp_of_mem λ{a b} ha hb hne e=>hne ?_);have ha:=bi.1 ha;have hb:=bi.1 hb;have e:=A.nI_inj (hin t ht h2 a ha) (hin t ht h2 b hb) e;have hnd:t.Nodup:=(A.inc t ht).imp λh e=>ω
    have h3:t[a] ∉ t.eraseIdx a:=λq=>(V6 hnd ha).1 q Y;rw[e,V6 hnd ha]at h3;exact bk.1 h3
   ·have:(sc all t).sd=[]:=ac ω;rw[this];simp
  ·obtain⟨k,hk,h2,rfl⟩:=hside t ht s hs;refine⟨_,ad.2 ⟨_,hin t ht h2 k hk,Y⟩,Y,?_⟩;show((t.eraseIdx k).length:Int)-1=(t.length:Int)-1-1;rw[OM (n:=t.length-1) ω ω];omega
  ·obtain⟨k,hk,h2,rfl⟩:=hside t ht s hs;exact Acy k
  ·have hd:(t.length:Int)-1=1:=hd;have h2:t.length=2:=ω
   rw[hsd t ht ω,Jq ((B7 (IB all t)).map Prod.snd)];unfold IB;rw[h2];rfl
  ·have hd:2<=(t.length:Int)-1:=hd;obtain⟨n,hl⟩:∃n,t.length=n+1:=⟨t.length-1,ω⟩
   have h2:2<=t.length:=ω
   refine(Uu A ht hl ω).perm ?_ (by rw[hsd t ht h2];exact(B7 _).symm);unfold F4;rw[hsd t ht h2]
   have e:Uk all t n=Lq (λc=>if c=0 then [] else IB all (all.getD (c-1).toNat [])) (IB all t):=by
    unfold Lq IB;rw[List.flatMap_map,hl];refine El λk hk=>?_;have hk:=bi.1 hk;obtain⟨j,hj,e1,e2⟩:=A.nI_at (hin t ht h2 k ω);show _=List.map _ (if nI all (t.eraseIdx k)=0 then [] else _);rw[aa ω]
    have e3:all.getD (nI all (t.eraseIdx k)-1).toNat []=t.eraseIdx k:=by rw[e2,show(((j:Int)+1)-1).toNat=j by omega];simp[List.getD,hj,e1]
    rw[e3,fk,OM hl ω];rfl
   rw[e];refine I6 (B7 _).symm λs hs=>List.Perm.map _ ?_;unfold IB at hs;obtain⟨k,hk,rfl⟩:=ad.1 hs;have hk:=bi.1 hk;obtain⟨j,hj,e1,e2⟩:=A.nI_at (hin t ht h2 k hk);show List.Perm (if nI all (t.eraseIdx k)=0 then [] else _) (GJ (all.map (sc all)) (nI all (t.eraseIdx k))).sd;rw[aa ω,hcel _ (hin t ht h2 k hk)]
   have e3:all.getD (nI all (t.eraseIdx k)-1).toNat []=t.eraseIdx k:=by rw[e2,show(((j:Int)+1)-1).toNat=j by omega];simp[List.getD,hj,e1]
   rw[e3,hsd _ (hin t ht h2 k hk) (by rw[OM hl ω];omega)];exact(B7 _).symm
theorem Aaj(ll:List (List Int)):∀x∈EO ll,x.id<=(EO ll).length:=by
 unfold EO;cases h:CW [] ll with
 | none=>nofun
 | some all=>
  intro x hx;obtain⟨i,hi,rfl⟩:=ad.1 hx;have hi:=bi.1 hi;show(i:Int)+1<=(((range all.length).map (D7 all)).length:Nat);rw[af,List.length_range];omega
end
section
def UE(l:List Cl):List Cl:=l.map Cl.can
structure Acu(o:List Cl):Prop where
 n:o.length<=4000
 inc:o.Pairwise λa b=>a.id<b.id
 pos:∀x∈o,1<=x.id
 fst:∀x∈o,CG o x=0
 snd:∀x∈o,2<=x.dim->Eg o x=0
theorem R4{l:List Cl}(B:Acu (UE l)):Rgt l:=by
 have R:RgtF (UE l):=⟨B.n,B.inc,B.pos,λx hx=>by obtain⟨y,_,rfl⟩:=ad.1 hx;exact⟨y,Y⟩,B.fst,B.snd⟩
 refine R.rgt.sim ⟨by unfold UE;rw[af],by unfold UE;rw[fk];exact ik _,λx hx=>⟨x.can,ad.2 ⟨x,hx,Y⟩,Y,Y,(B7 _).symm⟩⟩
instance (x:Cl):DecidablePred (CZ [] x):=λi=>inferInstance
open Go.ChangeShapes Go.WideShapes Go.ChangeAt Go.Deep
theorem own:ownKnob Tryz.prog.godebug=none:=by kernel_rfl
theorem Abo{w w':World}(E:Ext w w'):Below w.heap.size w w':=⟨E.os,E.tape.tape,E.output,E.size,E.block⟩
theorem Oh:laidOutB Tryz.prog=true:=by kernel_rfl
section
variable {H:Type} {enc:TypeId×Value->H} {w:World} {base:Nat} {spare:Nat->Bool} {held:Bool}
theorem GF(n:Nat)(cs:List Value)(y:DataW H×List MemPlace)(h:DataW.trod enc Tryz.prog w base spare held n 3 cs=some y):∃a,cs=cI a/\BS a:=by obtain⟨b,h1,_,h2⟩:=DataW.trod_int U3 h;exact⟨b,h1,bounds_i64 h2⟩
theorem Th{v:Value}{fuel:Nat}{x:DataW H×List MemPlace}(h:DataW.trod enc Tryz.prog w base spare held fuel 22 [v]=some x):∃l,RdL cI 1 (whole w) [] v l/\∀a∈l,BS a:=
 QE AN κ Bi δ GF h
end
end
end Go.Proofs.Q
namespace Go.Proofs.YtodheebhahdepaaGreatDoor
open Go Go.ChangeShapes Go.WideShapes Go.ChangeAt Go.RowKit Go.Proofs.Q

theorem Aal:(Rows.filterLiesRow.inPlace==Tryz.prog.inPlace 9)=true:=by kernel_rfl
theorem Yy:(Rows.filterLiesRow.unfollowed==Tryz.prog.unfollowed 9)=true:=by kernel_rfl
theorem ZV:(Rows.filterLiesRow.recurses==Tryz.prog.recurses 9)=true:=by kernel_rfl
theorem YY:(Rows.filterLiesRow.named==Tryz.prog.varsNamed 9)=true:=by kernel_rfl

theorem Aab:false=Tryz.prog.looks []:=by kernel_rfl
theorem lies_g2:Tryz.prog.funcNamed "cocycle/cocyclelaw20.FilterLies" = some 9:=by kernel_rfl
theorem Zi:false=Rows.filterLiesRow.goesBy Tryz.prog:=by kernel_rfl
end Go.Proofs.YtodheebhahdepaaGreatDoor
namespace Go.Proofs.Q
open Go.Proofs.Tryz
open Go.Eng Go.RowKit
section
variable {F:List (Int×Int)}
def JB(F:List (Int×Int))(c:Int):Option Int:=(F.find? λq=>decide (q.1=c)).map Prod.snd
theorem Za{c:Int}{k:Nat}(hk:k<F.length)(h:F[k].1=c)(hno:∀j (hj:j<F.length),j<k->F[j].1≠c):JB F c=some F[k].2:=by have e:(F.find? λq=>decide (q.1=c))=some F[k]:=List.find?_eq_some_iff_getElem.2 ⟨ai h,k,hk,Y,λj hj=>by rw[aj (hno j ω hj)];rfl⟩;unfold JB;rw[e];rfl
theorem Zo{c:Int}(hno:∀j (hj:j<F.length),F[j].1≠c):JB F c=none:=by
 unfold JB;rw[ii.2 λx hx=>?_]
 ·rfl
 ·obtain⟨j,hj,rfl⟩:=df hx;rw[aj (hno j hj)];decide
theorem PG(F:List (Int×Int))(c:Int):(JB F c).isSome=decide (c∈F.map Prod.fst):=by
 unfold JB;rw[Option.isSome_map];cases h:F.find? λq=>decide (q.1=c) with
 | none=>
  rw[ii]at h
  symm
  refine aj λq=>?_;obtain⟨x,hx,rfl⟩:=ad.1 q;exact h x hx (ai Y)
 | some x=>
  have h1:=gn h;have h2:x.1=c:=by have:=List.find?_some h;simpa using this
  symm
  exact ai (ad.2 ⟨x,h1,h2⟩)
theorem Hq(hn:(F.map Prod.fst).Nodup)(c:Int):(JB F c).getD 0=He F c:=by
 cases h:F.find? λq=>decide (q.1=c) with
 | none=>
  unfold JB;rw[h];rw[ii]at h
  have:c ∉ F.map Prod.fst:=λq=>by obtain⟨x,hx,rfl⟩:=ad.1 q;exact h x hx (ai Y)
  unfold He;rw[<-MY c F]at this;rw[Dl this];rfl
 | some x=>
  have h1:=gn h;have h2:x.1=c:=by have:=List.find?_some h;simpa using this
  unfold JB;rw[h];rw[P8 (x:=x.2) hn (by rw[<-h2];exact h1)];rfl
theorem Gq(F:List (Int×Int))(v:Value)(c:Int)(h:Hp)(hR:RdL cV 2 h [] v F)(ms:List Hp):FnV Tryz.prog 71 #[v,.int .i64 c] h ms (.tuple #[.int .i64 ((JB F c).getD 0),.bool (JB F c).isSome]):=by
 refine DW ?_ ms;have o1:=hR.rd.one;have hn:=hR.len_le;refine Au func71 ntmps71 Y Y (λw0 hw0=>?_);simp only[A6];refine Aq (Qm Y (Qm Y (Am (Ac (Aq (Qm Y (Am (Ag ?_))))))))
 refine Ay (λq sl h' ms'=>∃(i:Nat),q=F.length-i/\sl=[(0,v),(1,.w c),(6,.w i)]/\h=h'/\ms'=[]/\i<=F.length/\∀j (hj:j<F.length),j<i->F[j].1≠c)
  (F.length-0) _ ⟨0,rfl,rfl,rfl,rfl,ω,λj _ h=>ω⟩ Qs ?_
 rintro q sl h' ms' ⟨i,rfl,rfl,rfl,rfl,hi,hno⟩;refine Ac (Aq (Qm Y (Qm Y (Qx (As hR.rd.any Y OU Y) Y (Qm Y (Am ?_))))));refine Ao Y (λhlt=>?_) (λhlt=>?_)
 ·have hil:i<F.length:=ω
  have c0:∀ms,Cell h ms (((AG v).add (i*2)).add 0) (.w F[i].1):=λms=>(hR.any (ms:=ms)).cell hil (f:=0) Y;have c1:∀ms,Cell h ms (((AG v).add (i*2)).add 1) (.w F[i].2):=λms=>(hR.any (ms:=ms)).cell hil (f:=1) Y;refine Ah (Ad (Ac (Ag (Aq (Qm Y (Qm Y (Qx (BN (i) hR.rd.any Y OU Fv Y Y) Y (Qf FW Y (Ql Y U3 (c0 _) (Qm Y (Qm Y (Am ?_))))))))))));refine Ao Y (λhe=>?_) (λhe=>?_)
  ·refine Ac (Ab (Qm Y (Qm Y (Qx (BN (i) hR.rd.any Y OU Fv Y Y) Y (Qf Rz Y (Ql Y U3 (c1 _) (Qm Y (Qm Y (Am (An (Aj (Ae (Ae (Aj (Ae ?_)))))))))))))));exact BE Y Y Y (by rw[Za hil he hno];rfl)
  ·refine Ah (Ai (Ad (Ab (Qm Y (Qx (oA Y) Y (Qm Y (Ak ?_)))))))
   exact Al (F.length-(i+1)) _ ω ⟨i+1,Y,Y,Y,Y,ω,λj hj hji=>by
    rcases (ω:j<i\/j=i) with h1|rfl
    ·exact hno j hj h1
    ·exact he⟩ Qs
 ·obtain rfl:i=F.length:=ω
  refine Av (Aa (Aa (Af (Ad (Aq (Qm Y (Qm Y (Am (An ?_)))))))));exact BE Y Y Y (by rw[Zo λj hj=>hno j hj hj];rfl)
end
section
theorem Rgt.union{a b:List Cl}(A:Rgt a)(B:Rgt b)(hd:∀x∈a,∀y∈b,x.id≠y.id)(hn:a.length+b.length<=4000):Rgt (a++b):=by
 have hnd:((a++b).map Cl.id).Nodup:=by rw[bm];refine jh.2 ⟨A.nd,B.nd,λx hx y hy=>?_⟩;obtain⟨c,hc,rfl⟩:=ad.1 hx;obtain⟨e,he,rfl⟩:=ad.1 hy;exact hd c hc e he
 have tb:∀(o:List Cl) (R:Rgt o),(∀x∈o,x∈a++b)->∀x∈o,F4 (a++b) x=F4 o x:=λo R hs x hx=>by
  unfold F4 Lq;refine El λs hs'=>?_;obtain⟨y,hy,e1,_⟩:=R.sid x hx s hs';have h1:GJ (a++b) s.1=GJ o s.1:=by rw[<-e1,De hnd (hs y hy),De R.nd hy]
  simp only[h1]
 have ta:=tb a A λx hx=>bf.2 (.inl hx);have tb:=tb b B λx hx=>bf.2 (.inr hx);refine⟨by rw[ag];exact hn,hnd,λx hx=>?_,λx hx=>?_,λx hx=>?_,λx hx=>?_,λx hx s hs=>?_,λx hx=>?_,λx hx=>?_,λx hx hd=>?_⟩<;>rcases bf.1 hx with h|h
 ·exact A.pos x h
 ·exact B.pos x h
 ·exact A.dim x h
 ·exact B.dim x h
 ·exact A.num x h
 ·exact B.num x h
 ·exact A.sds x h
 ·exact B.sds x h
 ·obtain⟨y,hy,e⟩:=A.sid x h s hs;exact⟨y,bf.2 (.inl hy),e⟩
 ·obtain⟨y,hy,e⟩:=B.sid x h s hs;exact⟨y,bf.2 (.inr hy),e⟩
 ·exact A.sgn x h
 ·exact B.sgn x h
 ·exact A.one x h
 ·exact B.one x h
 ·rw[ta x h];exact A.tab x h hd
 ·rw[tb x h];exact B.tab x h hd
def XQ(m:Int)(c:Cl):Cl:=⟨c.id+m,c.dim,c.sd.map λs=>(s.1+m,s.2)⟩
theorem Rgt.shift{l:List Cl}(R:Rgt l){m:Int}(hm:0<=m):Rgt (l.map (XQ m)):=by
 have hnd:((l.map (XQ m)).map Cl.id).Nodup:=by rw[fk];have:=cm.1 R.nd;refine cm.2 (this.imp_of_mem λ{a b} ha hb hne e=>hne ?_);have e:a.id+m=b.id+m:=e;omega
 refine⟨by rw[af];exact R.n,hnd,λx' hx'=>?_,λx' hx'=>?_,λx' hx'=>?_,λx' hx'=>?_,λx' hx' s' hs'=>?_,λx' hx' s' hs'=>?_,λx' hx' hd=>?_,λx' hx' hd=>?_⟩<;>obtain⟨x,hx,rfl⟩:=ad.1 hx'
 ·have:=R.pos x hx;show 1<=x.id+m;omega
 ·exact R.dim x hx
 ·have:=R.num x hx;unfold Cb at *;show ¬((x.dim=0/\0<(x.sd.map _).length)\/(x.dim=1/\(x.sd.map _).length≠2)\/(1<x.dim/\((x.sd.map _).length<2\/64<(x.sd.map _).length)));rw[af];exact this
 ·show((x.sd.map _).map Prod.fst).Nodup;rw[fk];have:=cm.1 (R.sds x hx);refine cm.2 (this.imp λ{a b} hne e=>hne ?_);have e:a.1+m=b.1+m:=e;omega
 ·obtain⟨s,hs,rfl⟩:=ad.1 hs';obtain⟨y,hy,e1,e2⟩:=R.sid x hx s hs;exact⟨_,ad.2 ⟨y,hy,Y⟩,by show y.id+m=s.1+m;rw[e1],e2⟩
 ·obtain⟨s,hs,rfl⟩:=ad.1 hs';exact R.sgn x hx s hs
 ·have h1:=R.one x hx hd;show((x.sd.map _).map Prod.snd).sum=0;rw[fk];exact h1
 ·have hd:2<=x.dim:=hd
  have hT:F4 (l.map (XQ m)) (XQ m x)=(F4 l x).map λe=>(e.1+m,e.2.1+m,1*e.2.2):=by
   unfold F4 Lq;show(x.sd.map _).flatMap _=_;rw[List.flatMap_map,List.map_flatMap];refine El λs hs=>?_;obtain⟨y,hy,e1,e2⟩:=R.sid x hx s hs
   have h1:GJ (l.map (XQ m)) (s.1+m)=XQ m y:=by rw[<-e1];exact De hnd (ad.2 ⟨y,hy,Y⟩)
   have h2:GJ l s.1=y:=by rw[<-e1];exact De R.nd hy
   show List.map (λr=>(s.1+m,r.1,s.2*r.2)) (GJ (l.map (XQ m)) (s.1+m)).sd=List.map _ (List.map (λr=>(s.1,r.1,s.2*r.2)) (GJ l s.1).sd);rw[h1,h2,fk];show List.map _ (y.sd.map _)=_;rw[fk];exact fc λr _=>by simp
  rw[hT]
  exact(R.tab x hx hd).ren (λc=>c+m) (λ_=>1) (λe _ e' _ h=>by have h:e.2.1+m=e'.2.1+m:=h;omega) λa ha=>by obtain⟨s,hs,rfl⟩:=ad.1 ha;exact⟨s,hs,Y⟩
def Jo(o:List Cl):List Int:=(o.filter λx=>!(o.any λy=>y.sd.any λs=>decide (s.1=x.id))).map Cl.id
theorem Xh{o:List Cl}{c:Int}(h:c∈Jo o):∀y∈o,∀s∈y.sd,s.1≠c:=by
 unfold Jo at h;obtain⟨x,hx,rfl⟩:=ad.1 h;obtain⟨_,h2⟩:=br.1 hx;intro y hy s hs e;have h2:(o.any λy=>y.sd.any λs=>decide (s.1=x.id))=false:=by simpa using h2
 have h3:=List.any_eq_false.1 h2 y hy;exact h3 (List.any_eq_true.2 ⟨s,hs,ai e⟩)
theorem Rgt.gone{l:List Cl}(R:Rgt l){c:Int}(h:∀y∈l,∀s∈y.sd,s.1≠c):Rgt (l.filter λx=>decide (x.id≠c)):=
 R.filt λx hx _ s hs y hy e=>ai (by rw[e];exact h x hx s hs)
theorem YM{o:List Cl}(R:Rgt o)(h:o≠[]):Jo o≠[]:=by
 -- a cell of the greatest dimension
 obtain⟨x,hx,hm⟩:∃x∈o,∀y∈o,y.dim<=x.dim:=by
  have:∀l:List Cl,l≠[]->∃x∈l,∀y∈l,y.dim<=x.dim:=λl=>by
   induction l with
   | nil=>intro h;exact jt Y h
   | cons a l ih=>
    intro _;by_cases hl:l=[]
    ·subst hl;exact⟨a,Mh,λy hy=>by rw[ao.1 hy];exact Int.le_refl _⟩
    ·obtain⟨x,hx,hm⟩:=ih hl;by_cases ha:a.dim<=x.dim
     ·exact⟨x,bh _ hx,λy hy=>by
       rcases aq.1 hy with rfl|h
       ·exact ha
       ·exact hm y h⟩
     ·exact⟨a,Mh,λy hy=>by
       rcases aq.1 hy with rfl|h
       ·exact Int.le_refl _
       ·have:=hm y h;omega⟩
  exact this o h
 refine List.ne_nil_of_mem (a:=x.id) (ad.2 ⟨x,br.2 ⟨hx,?_⟩,Y⟩)
 have:(o.any λy=>y.sd.any λs=>decide (s.1=x.id))=false:=List.any_eq_false.2 λy hy q=>by
  obtain⟨s,hs,e⟩:=List.any_eq_true.1 q;obtain⟨z,hz,e1,e2⟩:=R.sid y hy s hs
  have:z=x:=by have h1:=DG R.nd hz;have h2:=DG R.nd hx;rw[e1,bz e,h2]at h1;exact(di h1).symm
  subst this;have:=hm y hy;omega
 rw[this];rfl
def Vj(x:Int):Int×Int:=if x<0 then(-x,-1) else(x,1)
def US(k:Nat)(r:List Int):Cl:=⟨(k:Int)+1,r.headD 0,r.tail.map Vj⟩
def O5(L:List (List Int)):List Cl:=(range L.length).map λk=>US k (L.getD k [])
def Lp(n:Nat):List Int:=if n=1 then [1,-1,2] else if n%2=0 then [(n:Int),2*n-1,-(2*n)] else [(n:Int),-(2*n-1),2*n]
def ME(n:Nat):List (List Int):=[[0],[0]]++(range n).flatMap λk=>[Lp (k+1),Lp (k+1)]
def RV(n:Nat):List (List Int):=([[0],[0],[0],[0],[1,-2,3],[1,-3,4],[1,-4,2]]:List (List Int))++((range (3*n)).map λ(k:Nat)=>[(1:Int),-1,2+((k%3:Nat):Int)])++(range (3*n)).map λ(k:Nat)=>[(2:Int),8+(k:Int),5+((k%3:Nat):Int),-(8+(((k+1)%(3*n):Nat):Int))]
def AbN:List (List Int):=[[0],[0],[0],[1,-1,2],[1,-1,2],[1,-2,3],[1,-2,3],[1,-1,3],[1,-1,3],[2,4,6,-8],[2,4,7,-9],[2,5,6,-9],[2,5,7,-8]]
def AbL:List (List Int):=[[0],[0],[0],[0],[1,-1,2],[1,-1,2],[1,-3,4],[1,-3,4],[1,-1,3],[1,-2,4],[1,-3,1],[1,-4,2],[2,5,10,-7,-9],[2,6,10,-8,-9],[2,7,12,-6,-11],[2,8,12,-5,-11]]
def Abf:List (List Int):=[[0],[0],[0],[0],[1,-1,2],[1,-1,2],[1,-3,4],[1,-3,4],[1,-1,3],[1,-2,4],[1,-3,1],[1,-4,2],[2,5,10,-7,-9],[2,6,10,-8,-9],[2,7,12,-5,-11],[2,8,12,-6,-11]]
def FB(n:Nat):List (List Int):=
 if n=0 then [[0]] else if n<=3 then ME n else if n=4 then ME 0 else if n=5 then AbN else if n=6 then RV 3 else if n=7 then AbL else if n=8 then Abf else RV 4
theorem AcF(n:Nat)(h:n<10):Acu (UE (O5 (FB n))):=by rcases (ω:n=0\/n=1\/n=2\/n=3\/n=4\/n=5\/n=6\/n=7\/n=8\/n=9) with rfl|rfl|rfl|rfl|rfl|rfl|rfl|rfl|rfl|rfl<;>exact⟨by decide,by decide,by decide,by decide +kernel,by decide +kernel⟩
theorem Oi(n:Nat)(h:n<10):Rgt (O5 (FB n)):=R4 (AcF n h)
theorem NC(L:List (List Int)):(O5 L).length=L.length:=by simp[O5]
theorem KE(n:Nat)(h:n<10):(FB n).length<=31/\(n<5->(FB n).length<=8):=by rcases (ω:n=0\/n=1\/n=2\/n=3\/n=4\/n=5\/n=6\/n=7\/n=8\/n=9) with rfl|rfl|rfl|rfl|rfl|rfl|rfl|rfl|rfl|rfl<;>decide
theorem Ly{L:List (List Int)}:∀x∈O5 L,1<=x.id/\x.id<=L.length:=λx hx=>by obtain⟨k,hk,rfl⟩:=ad.1 hx;have:=bi.1 hk;show 1<=(k:Int)+1/\(k:Int)+1<=_;omega
theorem Px(id dim:Int)(sd:List Int)(v:Value)(hp:Hp)(hR:RdL cI 1 hp [] v sd)(hb:∀x∈sd,-1000000<=x/\x<=1000000)(hn:sd.length<=1000):FnT Tryz.prog 176 #[.int .i64 id,.int .i64 dim,v] hp [] (λr h' ms'=>hp=h'/\∃vs m,ms'=[m]/\r=.agg #[.int .i64 id,.int .i64 dim,vs]/\OwnL cD 2 119 m vs (sd.map Vj)):=by
 have ov:=hR.rd.one;refine Au func176 ntmps176 Y Y (λw0 hw0=>?_);simp only[A6];refine Aq (Cx [.w 0,.w 0,.nl] Y AI Y Y (λg6=>BM (Qm Y (Qm Y (Qx (Bb VB [.w 0,.w 0,.nl] [(0,_),(1,_)] [_,_,_] Y AI Y Y Qt Y) Y (Cx [.w 0,.w 0,.nl] Y AI Y Y (λg7=>?_)))))));refine Sa 0 [_,_,_] AI Y (by simp[Value.oneCell']) ?_;refine Am (BT (Ac (Aq (Qm Y (Am (Ag ?_))))))
 refine Ay (λq sl h' ms'=>∃(i:Nat) (vs:Value) (m:Hp),q=sd.length-i/\sl=[(2,v),(6,.pt g6),(7,.pt g7),(8,.w i)]/\hp=h'/\ms'=[m,Bh g7 52 [.w id,.w dim,vs],Bh g6 52 [.w 0,.w 0,.nl]]/\i<=sd.length/\OwnL cD 2 119 m vs ((sd.take i).map Vj))
  (sd.length-0) _ ⟨0,_,Hp.emp,rfl,rfl,rfl,rfl,ω,OwnL.nil E2⟩ Qs ?_
 rintro q sl h' ms' ⟨i,vs,m,rfl,rfl,rfl,rfl,hi,hO⟩;have ovs:=hO.o1;refine Ac (Aq (Qm Y (Qm Y (Qx (As hR.rd.any Y AN Y) Y (Qm Y (Am ?_))))));refine Ao Y (λhlt=>?_) (λhlt=>?_)
 ·have hil:i<sd.length:=ω
  obtain⟨x,hx⟩:∃x,sd[i]=x:=⟨_,Y⟩
  have hxb:=hb x (by rw[<-hx];exact ae hil);have cx:∀ms,Cell hp ms ((AG v).add (i*1)) (.w x):=λms=>by rw[<-hx];exact(hR.any (ms:=ms)).cell0 hil Y
  have hll:((sd.take i).map Vj).length<=1000:=by rw[af,av];omega
  have hs:((sd.take (i+1)).map Vj)=((sd.take i).map Vj)++[Vj x]:=by rw[ak hil,bm,hx];rfl
  refine Ah (Ad (Ac (Ag (Aq (Qm Y (Qm Y (Qx (BN (i) hR.rd.any Y AN A0 Y Y) Y (Ql Y U3 (cx _) (Qx (Bb W2 [.w 0,.w 0] [(0,_),(1,_)] [_,_] Y AS Y Y Qt Y) Y (Cx [.w 0,.w 0] Y AS Y Y (λg9=>?_)))))))))));refine Sa 0 [_,_] AS Y (by simp[Value.oneCell']) ?_;refine Am (Ac (Aq (Qm Y (Qm Y (Qx (BN (i) hR.rd.any Y AN A0 Y Y) Y (Ql Y U3 (cx _) (Qm Y (Am ?_))))))));refine Ao Y (λhneg=>?_) (λhneg=>?_)
  ·refine Ab (Qm Y (Qm Y (Qx (BN (i) hR.rd.any Y AN A0 Y Y) Y (Ql Y U3 (cx _) (Qx (J9 Y Y ω) Y (Qx (Bb W2 [.w 0,.w 0] [(0,_),(1,_)] [_,_] Y AS Y Y Qt Y) Y ?_))))));refine Sa 0 [_,_] AS Y (by simp[Value.oneCell']) ?_;refine Gl (Qf BI Y (Ql Y Cf (Cell.blk 2 Y Y) (Qx (oG Y Eh AS (Seg.blk 0 Y)) Y (Aw [_,_] Y Cf AS Y (by rfl) Y Y ω Y Y Y (λg38=>AU 2 hO (RdL.one E2 (x:=(-x,-1)) Mh Y) Y Cf AS Y ω Y Y Y G9 (by(try simp only[ab]);omega) (by(try simp only[ab]);omega) rfl rfl rfl (λv9 m9 hO9=>?_))))));have hs':Vj x=(-x,-1):=by unfold Vj;rw[ac hneg]
   rw[<-hs',<-hs]at hO9;have ov9:=hO9.o1;refine Qf BI Y ?_;refine AO 3 _ Y Uz Y Y (by assumption) Y Y (by(simp;done)) rfl rfl ?_;refine Ak (Ai (Ad (Ab (Qm Y (Qx (oA Y) Y (Qm Y (Ak (AZ 0 Y (AZ 0 Y ?_)))))))));exact Al (sd.length-(i+1)) _ ω ⟨i+1,v9,m9,Y,Y,Y,Y,ω,hO9⟩ Qs
  ·refine Ah (Ad (Ab (Qf BI Y (Ql Y Cf (Cell.blk 2 Y Y) (Qx (oG Y Eh AS (Seg.blk 0 Y)) Y (Aw [_,_] Y Cf AS Y (by rfl) Y Y ω Y Y Y (λg38=>AU 2 hO (RdL.one E2 (x:=(x,1)) Mh Y) Y Cf AS Y ω Y Y Y G9 (by(try simp only[ab]);omega) (by(try simp only[ab]);omega) rfl rfl rfl (λv9 m9 hO9=>?_))))))));have hs':Vj x=(x,1):=by unfold Vj;rw[aa hneg]
   rw[<-hs',<-hs]at hO9;have ov9:=hO9.o1;refine Qf BI Y ?_;refine AO 3 _ Y Uz Y Y (by assumption) Y Y (by(simp;done)) rfl rfl ?_;refine Ak (Ai (Ad (Ab (Qm Y (Qx (oA Y) Y (Qm Y (Ak (AZ 0 Y (AZ 0 Y ?_)))))))));exact Al (sd.length-(i+1)) _ ω ⟨i+1,v9,m9,Y,Y,Y,Y,ω,hO9⟩ Qs
 ·obtain rfl:i=sd.length:=ω
  refine Av (Aa (Aa (Af (Ad (Aq (Qx (oG Y Ey AI (Seg.blk 1 Y)) Y ?_))))));refine Sa 2 [_,_,_] AI Y (by simp[ov,ovs]) ?_;refine Am (An (AZ 1 Y ?_));exact BC (vs:=[_,_,_]) 1 Y Y Ey Y AI Y Y (⟨Y,vs,m,Y,Y,by rw[ct]at hO;exact hO⟩)
theorem Lz(L:List (List Int))(i:Nat):((range (i+1)).map λk=>US k (L.getD k []))=((range i).map λk=>US k (L.getD k []))++[US i (L.getD i [])]:=by rw[jp,bm];rfl
theorem HV(L:List (List Int))(es0:List Value)(v:Value)(hp:Hp)(hV:RdL cW 1 hp [] v es0)(hE:RdEs hp es0 L)(hb:∀l∈L,l≠[]/\l.length<=1000/\∀x∈l,-1000000<=x/\x<=1000000)(hn:L.length<=1000):FnT Tryz.prog 114 #[v] hp [] (λr h' ms'=>hp.le h'/\Rg h' r ms' (λo=>o=O5 L)):=by
 have o1:=hV.rd.one;have hle:=hE.1;refine Au func114 ntmps114 Y Y (λw0 hw0=>?_);simp only[A6];refine Aq (Cx [.nl] Y A8 Y Y (λg2=>BM (Cx [.nl] Y A8 Y Y (λg3=>Am (Ac (Aq (Qm Y (Am (Ag (BT ?_))))))))))
 refine Ay (λq sl hh ms'=>∃(i:Nat) (vO:Value) (mO:Hp) (O:List Ce),q=L.length-i/\sl=[(0,v),(2,.pt g2),(3,.pt g3),(4,.w i)]/\hp.le hh/\ms'=[mO,Bh g3 29 [vO],Bh g2 29 [.nl]]/\i<=L.length/\OwnL cC 3 52 mO vO O/\O.map Ce.c=((range i).map λk=>US k (L.getD k []))/\∀a∈O,RdL cD 2 hh [] a.v a.c.sd)
  (L.length-0) _ ⟨0,_,Hp.emp,[],rfl,rfl,Da,rfl,ω,OwnL.nil CP,rfl,λa ha=>nomatch ha⟩ Qs ?_
 rintro q sl hh ms' ⟨i,vO,mO,O,rfl,rfl,lh,rfl,hi,hO,hOc,hOs⟩;have hV:=hV.up lh;have hE:=hE.up lh;have ovO:=hO.o1;have hOl:O.length=i:=by have:=aw List.length hOc;simpa using this
 refine Ac (Aq (Qm Y (Qm Y (Qx (As hV.rd.any Y CA Y) Y (Qm Y (Am ?_))))));refine Ao Y (λhlt=>?_) (λhlt=>?_)
 ·have hil:i<L.length:=ω
  have hie:i<es0.length:=ω
  have hci:∀ms,Cell hh ms ((AG v).add (i*1)) es0[i]:=λms=>(hV.any (ms:=ms)).cell0 hie Y;have hRi:=hE.2 i hie hil;have oei:=hRi.rd.one;obtain⟨hne,hl1,hlb⟩:=hb _ (ae hil);have hgi:L.getD i []=L[i]:=by simp[List.getD,hil]
  obtain⟨r,hr⟩:∃r,L[i]=r:=⟨_,Y⟩
  rw[hr]at hne hl1 hlb hgi hRi;obtain⟨d,s,rfl⟩:∃d s,r=d::s:=by cases r with|nil=>exact jt Y hne|cons d s=>exact⟨d,s,Y⟩
  have cd:∀ms,Cell hh ms ((AG es0[i]).add (0*1)) (.w d):=λms=>(hRi.any (ms:=ms)).cell0 (j:=0) σ rfl;have hl0:0<(d::s).length:=by simp
  refine Ah (Ad ?_);refine Bg (λsl h' ms'=>∃(vO:Value) (mO:Hp) (O:List Ce),sl=[(0,v),(2,.pt g2),(3,.pt g3),(4,.w i)]/\hh.le h'/\ms'=[mO,Bh g3 29 [vO],Bh g2 29 [.nl]]/\OwnL cC 3 52 mO vO O/\O.map Ce.c=((range (i+1)).map λk=>US k (L.getD k []))/\∀a∈O,RdL cD 2 h' [] a.v a.c.sd) ?_ (λs h ms hI=>?_)
  ·refine Ag ?_
   have hRs:RdL cI 1 hh [] (Cj 1 es0[i] 1 (d::s).length) s:=by have:=hRi.sub_ (i:=1) (j:=(d::s).length) σ (au _);simpa using this
   let c:Cl:=⟨(i:Int)+1,d,s.map Vj⟩
   refine BK (n:=20) (bs:=[true,false,true,true,true,true,true,true,true,true,true,true,true,true,true,false,false,false,true,false]) [true,false,true,true,true,true,true,true,true,true,true,true,true,true,true,false,false,false,true] CT κ κ Y Y (QF Cr Y (Qq Y (Qp Y (oA Y) (Qq Y (Qq Y (Qp Y (BN (i) hV.rd.any Y CA CI Y Y) (QL Y AN (hci _) (Qp Y (BN (0) hRi.rd.any Y AN A0 Y Y) (QL Y U3 (cd _) (Qq Y (Qq Y (Qp Y (BN (i) hV.rd.any Y CA CI Y Y) (QL Y AN (hci _) (Qp Y (C3 (1) hRi.rd.any Y AN A0 Y Y ω ω) (QF Cr Y ?_)))))))))))))));unfold Fm;simp only[List.cons_append,ay];refine Bf [1,15] κ Y ?_;refine AD Y ?_ ?_
   ·refine Ql Y Bm (Cell.blk 1 Y Y) (Qw (Qo 15 Y ?_));refine Qc call176 Y (Px ((i:Int)+1) d s _ hh hRs (λx hx=>hlb x (bh _ hx)) (by simp at hl1;omega)) (λrc h2 ms2 l2 hF=>?_);obtain⟨rfl,vs,mS,rfl,rfl,hOS⟩:=hF;refine Ba hOS λh3 l3 hRS=>?_;have ovs:=hRS.rd.one;refine Qa (Qo 16 Y (Aw [_,_,_] Y Bm AI Y (by rfl) Y Y ω Y Y Y (λg27=>Qa (Qo 17 Y ?_))));refine Bp 1 hO (RdL.one CP (x:=(⟨c,vs⟩:Ce)) Mh Y) Y Bm AI Y ω Y Y Y (DC (l:=[⟨c,vs⟩]) (h:=h3) λy hy=>by rw[ao.1 hy];exact hRS) (by(try simp only[ab]);omega) (by(try simp only[ab]);omega) rfl rfl rfl (λv9 m9 hO9=>?_);have ov9:=hO9.o1;refine Qa (Qo 19 Y ?_);refine AO 2 _ Y Kx Y Y (by assumption) Y Y (by(simp;done)) rfl rfl ?_;refine Qa (Qe (AX (Ai ?_)));exact Az _ ⟨v9,m9,O++[⟨c,vs⟩],Y,AE l2 l3,Y,hO9,by rw[Lz,hgi,bm,hOc];rfl,RdC.snoc' (λa ha=>(hOs a ha).up (AE l2 l3)) hRS⟩ Qs
   refine AD Y ?_ ?_
   ·refine Qc call176 Y (Px ((i:Int)+1) d s _ hh hRs (λx hx=>hlb x (bh _ hx)) (by simp at hl1;omega)) (λrc h2 ms2 l2 hF=>?_);obtain⟨rfl,vs,mS,rfl,rfl,hOS⟩:=hF;refine Ba hOS λh3 l3 hRS=>?_;have ovs:=hRS.rd.one;refine Qa (Bf [1,16] κ Y ?_);refine AD Y ?_ ?_
    ·refine Ql Y Bm (Cell.blk 1 Y Y) (Qa (Qo 16 Y (Aw [_,_,_] Y Bm AI Y (by rfl) Y Y ω Y Y Y (λg27=>Qa (Qo 17 Y ?_)))));refine Bp 1 hO (RdL.one CP (x:=(⟨c,vs⟩:Ce)) Mh Y) Y Bm AI Y ω Y Y Y (DC (l:=[⟨c,vs⟩]) (h:=h3) λy hy=>by rw[ao.1 hy];exact hRS) (by(try simp only[ab]);omega) (by(try simp only[ab]);omega) rfl rfl rfl (λv9 m9 hO9=>?_);have ov9:=hO9.o1;refine Qa (Qo 19 Y ?_);refine AO 2 _ Y Kx Y Y (by assumption) Y Y (by(simp;done)) rfl rfl ?_;refine Qa (Qe (AX (Ai ?_)));exact Az _ ⟨v9,m9,O++[⟨c,vs⟩],Y,AE l2 l3,Y,hO9,by rw[Lz,hgi,bm,hOc];rfl,RdC.snoc' (λa ha=>(hOs a ha).up (AE l2 l3)) hRS⟩ Qs
    refine AD Y ?_ ?_
    ·refine Aw [_,_,_] Y Bm AI Y (by rfl) Y Y ω Y Y Y (λg27=>Qa (Qo 1 Y (Ql Y Bm (Cell.blk 2 Y Y) (Qa (Qo 17 Y ?_)))));refine Bp 1 hO (RdL.one CP (x:=(⟨c,vs⟩:Ce)) Mh Y) Y Bm AI Y ω Y Y Y (DC (l:=[⟨c,vs⟩]) (h:=h3) λy hy=>by rw[ao.1 hy];exact hRS) (by(try simp only[ab]);omega) (by(try simp only[ab]);omega) rfl rfl rfl (λv9 m9 hO9=>?_);have ov9:=hO9.o1;refine Qa (Qo 19 Y ?_);refine AO 2 _ Y Kx Y Y (by assumption) Y Y (by(simp;done)) rfl rfl ?_;refine Qa (Qe (AX (Ai ?_)));exact Az _ ⟨v9,m9,O++[⟨c,vs⟩],Y,AE l2 l3,Y,hO9,by rw[Lz,hgi,bm,hOc];rfl,RdC.snoc' (λa ha=>(hOs a ha).up (AE l2 l3)) hRS⟩ Qs
    exact Be
   exact Be
  ·obtain⟨vO,mO,O,rfl,l2,rfl,hO,hOc,hOs⟩:=hI;have ovO:=hO.o1;refine Ab (Qm Y (Qx (oA Y) Y (Qm Y (Ak ?_))));exact Al (L.length-(i+1)) _ ω ⟨i+1,vO,mO,O,Y,Y,AE lh l2,Y,ω,hO,hOc,hOs⟩ Qs
 ·obtain rfl:i=L.length:=ω
  refine Av (Aa (Aa (Af (Ad (Aq (Qx (oG Y CS A8 (Seg.blk 1 Y)) Y ?_))))));refine Sa 2 [_] A8 Y (by simp[o1,ovO]) ?_;refine Am (An (AZ 1 Y ?_));exact BC (vs:=[_]) 1 Y Y CS Y A8 Y Y (⟨lh,mO,O,_,Y,Y,hO,hOc,hOs⟩)
theorem Cs{h:Hp}{el:TypeId}{g:Nat}(l:List Int)(n:Nat)(e:l.length=n)(hn:n<=1000)(k:(Bh g el (l.flatMap cI)).le h):RdL cI 1 h [] (.slice (some ⟨g,0,none⟩) n n) l:=by subst e;exact(OwnL.blk (g:=g) (el:=el) (F:=cI) (l:=l) l.length Bi Y ω).rdh k
theorem Jd(n:Nat):ME (n+1)=ME n++[Lp (n+1),Lp (n+1)]:=by unfold ME;rw[jp,fg,<-bp];rfl
theorem TC(n:Nat):(ME n).length=2+2*n:=by
 induction n with
 | zero=>rfl
 | succ n ih=>rw[Jd,ag,ih];simp;omega
theorem AaR(n:Nat)(hn:n<=4):∀l∈ME n,l≠[]/\l.length<=1000/\∀x∈l,-1000000<=x/\x<=1000000:=by rcases (ω:n=0\/n=1\/n=2\/n=3\/n=4) with rfl|rfl|rfl|rfl|rfl<;>decide
def NU(m i:Nat):List (List Int):=([[0],[0],[0],[0],[1,-2,3],[1,-3,4],[1,-4,2]]:List (List Int))++((range i).map λ(k:Nat)=>[(1:Int),-1,2+((k%3:Nat):Int)])
def RM(m i:Nat):List (List Int):=(range i).map λ(k:Nat)=>[(2:Int),8+(k:Int),5+((k%3:Nat):Int),-(8+(((k+1)%m:Nat):Int))]
theorem Zh(n:Nat):RV n=NU (3*n) (3*n)++RM (3*n) (3*n):=rfl
theorem Uw(m i:Nat):NU m (i+1)=NU m i++[[(1:Int),-1,2+((i%3:Nat):Int)]]:=by unfold NU;rw[jp,bm,bp];rfl
theorem Ub(m i:Nat):RM m (i+1)=RM m i++[[(2:Int),8+(i:Int),5+((i%3:Nat):Int),-(8+(((i+1)%m:Nat):Int))]]:=by unfold RM;rw[jp,bm];rfl
theorem Aa2(n:Nat)(hn:n=3\/n=4):∀l∈RV n,l≠[]/\l.length<=1000/\∀x∈l,-1000000<=x/\x<=1000000:=by rcases hn with rfl|rfl<;>decide
theorem HX(n:Nat)(hp:Hp)(hn:n<=4):FnT Tryz.prog 115 #[.int .i64 n] hp [] (λr h' ms'=>hp.le h'/\Rg h' r ms' (λo=>o=O5 (ME n))):=by
 refine Au func115 ntmps115 Y Y (λw0 hw0=>?_);simp only[A6];have hE:=RdEs.nil hp;refine Aq (Cx [.nl] Y A8 Y Y (λg2=>BM (Aw [_] Y AN A0 Y (by rfl) Y Y ω Y Y Y (λg7=>AK λh1 l1 k1=>?_))));have hE:=(hE.up l1).snoc (Cs [0] 1 Y δ k1);refine Aw [_] Y AN A0 Y (by rfl) Y Y ω Y Y Y (λg8=>AK λh2 l2 k2=>?_);have hE:=(hE.up l2).snoc (Cs [0] 1 Y δ k2);refine AB [(0,_),(1,_)] [.nl,.nl] [_,_] Y CA CI Y ω κ Qt Y Y Y Y (λg9=>Qm Y (Am (Ac (Aq (Qm Y (Am (Ag ?_)))))))
 refine Ay (λq sl h' ms'=>∃(i:Nat) (v3:Value) (m3:Hp) (es:List Value),q=n-i/\sl=[(0,.w n),(2,.pt g2),(3,v3),(4,.w ((i:Int)+1))]/\hp.le h'/\ms'=[m3,Bh g2 29 [.nl]]/\i<=n/\OwnL cW 1 22 m3 v3 es/\RdEs h' es (ME i))
  (n-0) _ ⟨0,_,_,_,rfl,rfl,AE l1 l2,rfl,ω,OwnL.blk (g:=g9) (el:=22) (F:=cW) (l:=[_,_]) 2 D5 rfl δ,hE⟩ Qs ?_
 rintro q sl h' ms' ⟨i,v3,m3,es,rfl,rfl,lh,rfl,hi,hO,hE⟩;have hel:es.length=2+2*i:=by rw[hE.1,TC]
 have ov3:=hO.o1;refine Ac (Aq (Qm Y (Qm Y (Qm Y (Am ?_)))));refine Ao Y (λhlt=>?_) (λhlt=>?_)
 ·refine Ah (Ad (Ac (Ag (Aq (Qm Y (Qx (oM Y) Y (Qx (oS Y) Y (Qm Y (BM (Qm Y (Qm Y (Qx (J9 Y Y ω) Y (Qm Y (Qx (oA Y) Y (AB [(0,_),(1,_),(2,_)] [.w 0,.w 0,.w 0] [_,_,_] Y AN A0 Y ω κ Qt Y Y Y Y (λg23=>Qm Y (Am (Bx λh3 l3 k3=>?_))))))))))))))))));have hE:=hE.up l3;refine Ac (Aq (Qm Y (Qx (BH Y Y Y ω ω) Y (Qm Y (Am ?_)))));refine Ao Y (λhev=>?_) (λhev=>?_)
  ·refine Ab (Qm Y (Qm Y (Qm Y (Qx (oA Y) Y (Qx (J9 Y Y ω) Y (AB [(0,_),(1,_),(2,_)] [.w 0,.w 0,.w 0] [_,_,_] Y AN A0 Y ω κ Qt Y Y Y Y (λg32=>Qm Y (Am (Bx λh4 l4 k4=>?_)))))))));have hE:=hE.up l4;refine Ac (Aq (Qm Y (Qm Y (Am ?_))));refine Ao Y (λh1=>?_) (λh1=>?_)
   ·exact jt h1 ω
   ·have hrow:RdL cI 1 h4 [] (.slice (some ⟨g32,0,none⟩) 3 3) (Lp (i+1)):=by
     have:=Cs (el:=3) (g:=g32) (h:=h4) [(i:Int)+1,2*((i:Int)+1)-1,-(2*((i:Int)+1)-1+1)] 3 Y δ k4
     have e:Lp (i+1)=[(i:Int)+1,2*((i:Int)+1)-1,-(2*((i:Int)+1)-1+1)]:=by unfold Lp;rw[aa ω,ac ω];simp<;>omega
     rw[e];exact this
    refine Ah (Ad (Ab (Qm Y (Qm Y (Qm Y (AB [(0,_),(1,_)] [.nl,.nl] [_,_] Y CA CI Y ω κ Qt Y Y Y Y (λg39=>?_)))))));refine Bp 1 hO (OwnL.blk (g:=g39) (F:=cW) (l:=[.slice (some ⟨g32,0,none⟩) 3 3,.slice (some ⟨g32,0,none⟩) 3 3]) 2 D5 Y δ |>.rd Mh) Y CA CI Y ω Y Y Y (GL λu hu=>by simp only[aq,iz,jf]at hu;rcases hu with rfl|rfl<;>rfl) (by(try simp only[ef,dv]);omega) (by(try simp only[ef,dv]);omega) rfl rfl rfl (λv9 m9 hO9=>?_);have ov9:=hO9.o1;refine Qm Y (Ak (Ai (Ad (Ab (Qm Y (Qx (oA Y) Y (Qm Y (Ak (AZ 0 Y ?_)))))))));exact Al (n-(i+1)) _ ω ⟨i+1,v9,m9,_,Y,Y,AE lh (AE l3 l4),Y,ω,hO9,by rw[Jd];have:=(hE.snoc hrow).snoc hrow;rwa [bp,bp]at this⟩ Qs
  ·refine Ah (Ad (Ac (Aq (Qm Y (Qm Y (Am ?_))))));refine Ao Y (λh1=>?_) (λh1=>?_)
   ·refine Ab (AB [(0,_),(1,_),(2,_)] [.w 0,.w 0,.w 0] [_,_,_] Y AN A0 Y ω κ Qt Y Y Y Y (λg35=>Qm Y (Am (Bx λh4 l4 k4=>?_))));have hE:=hE.up l4;have hi0:i=0:=ω
    have hrow:RdL cI 1 h4 [] (.slice (some ⟨g35,0,none⟩) 3 3) (Lp (i+1)):=by subst hi0;exact Cs (el:=3) (g:=g35) (h:=h4) [1,-1,2] 3 Y δ k4
    refine Ab (Qm Y (Qm Y (Qm Y (AB [(0,_),(1,_)] [.nl,.nl] [_,_] Y CA CI Y ω κ Qt Y Y Y Y (λg39=>?_)))));refine Bp 1 hO (OwnL.blk (g:=g39) (F:=cW) (l:=[.slice (some ⟨g35,0,none⟩) 3 3,.slice (some ⟨g35,0,none⟩) 3 3]) 2 D5 Y δ |>.rd Mh) Y CA CI Y ω Y Y Y (GL λu hu=>by simp only[aq,iz,jf]at hu;rcases hu with rfl|rfl<;>rfl) (by(try simp only[ef,dv]);omega) (by(try simp only[ef,dv]);omega) rfl rfl rfl (λv9 m9 hO9=>?_);have ov9:=hO9.o1;refine Qm Y (Ak (Ai (Ad (Ab (Qm Y (Qx (oA Y) Y (Qm Y (Ak (AZ 0 Y ?_)))))))));exact Al (n-(i+1)) _ ω ⟨i+1,v9,m9,_,Y,Y,AE lh (AE l3 l4),Y,ω,hO9,by rw[Jd];have:=(hE.snoc hrow).snoc hrow;rwa [bp,bp]at this⟩ Qs
   ·have hrow:RdL cI 1 h3 [] (.slice (some ⟨g23,0,none⟩) 3 3) (Lp (i+1)):=by
     have:=Cs (el:=3) (g:=g23) (h:=h3) [(i:Int)+1,-(2*((i:Int)+1)-1),2*((i:Int)+1)-1+1] 3 Y δ k3
     have e:Lp (i+1)=[(i:Int)+1,-(2*((i:Int)+1)-1),2*((i:Int)+1)-1+1]:=by unfold Lp;rw[aa ω,aa ω];simp<;>omega
     rw[e];exact this
    refine Ah (Ad (Ab (Qm Y (Qm Y (Qm Y (AB [(0,_),(1,_)] [.nl,.nl] [_,_] Y CA CI Y ω κ Qt Y Y Y Y (λg39=>?_)))))));refine Bp 1 hO (OwnL.blk (g:=g39) (F:=cW) (l:=[.slice (some ⟨g23,0,none⟩) 3 3,.slice (some ⟨g23,0,none⟩) 3 3]) 2 D5 Y δ |>.rd Mh) Y CA CI Y ω Y Y Y (GL λu hu=>by simp only[aq,iz,jf]at hu;rcases hu with rfl|rfl<;>rfl) (by(try simp only[ef,dv]);omega) (by(try simp only[ef,dv]);omega) rfl rfl rfl (λv9 m9 hO9=>?_);have ov9:=hO9.o1;refine Qm Y (Ak (Ai (Ad (Ab (Qm Y (Qx (oA Y) Y (Qm Y (Ak (AZ 0 Y ?_)))))))));exact Al (n-(i+1)) _ ω ⟨i+1,v9,m9,_,Y,Y,AE lh l3,Y,ω,hO9,by rw[Jd];have:=(hE.snoc hrow).snoc hrow;rwa [bp,bp]at this⟩ Qs
 ·obtain rfl:i=n:=ω
  refine Bx λh3 l3 k3=>?_;have hV:=hO.rdh (ms:=[]) k3;have hE:=hE.up l3;refine Av (Aa (Aa (Af (Ad (Aq (Qm Y ?_))))));refine Qc call114 Y (HV (ME i) _ _ h3 hV hE (AaR i hn) (by rw[TC];omega)) (λrC h5 ms5 l5 hF=>?_);obtain⟨l5',m,A,vA,rfl,rfl,hOA,hA,hs⟩:=hF;have ovA:=hOA.o1;refine Sa 1 [_] A8 Y (by simp[ov3,ovA]) ?_;refine Am (An ?_);exact BC (vs:=[_]) 1 Y Y CS Y A8 Y Y (⟨AE lh (AE l3 l5),m,A,_,Y,Y,hOA,hA,hs⟩)
theorem QJ(n:Nat)(hp:Hp)(hn:n=3\/n=4):FnT Tryz.prog 116 #[.int .i64 n] hp [] (λr h' ms'=>hp.le h'/\Rg h' r ms' (λo=>o=O5 (RV n))):=by
 have hn4:n<=4:=ω
 refine Au func116 ntmps116 Y Y (λw0 hw0=>?_);simp only[A6];have hE:=RdEs.nil hp;refine Aq (Cx [.nl] Y A8 Y Y (λg2=>BM (Aw [_] Y AN A0 Y (by rfl) Y Y ω Y Y Y (λg6=>AK λh1 l1 k1=>?_))));have hE:=(hE.up l1).snoc (Cs [0] 1 Y δ k1);refine Aw [_] Y AN A0 Y (by rfl) Y Y ω Y Y Y (λg7=>AK λh2 l2 k2=>?_);have hE:=(hE.up l2).snoc (Cs [0] 1 Y δ k2);refine Aw [_] Y AN A0 Y (by rfl) Y Y ω Y Y Y (λg8=>AK λh3 l3 k3=>?_);have hE:=(hE.up l3).snoc (Cs [0] 1 Y δ k3);refine Aw [_] Y AN A0 Y (by rfl) Y Y ω Y Y Y (λg9=>AK λh4 l4 k4=>?_);have hE:=(hE.up l4).snoc (Cs [0] 1 Y δ k4);refine AB [(0,_),(1,_),(2,_)] [.w 0,.w 0,.w 0] [_,_,_] Y AN A0 Y ω κ Qt Y Y Y Y (λg10=>AK λh5 l5 k5=>?_);have hE:=(hE.up l5).snoc (Cs [1,-2,3] 3 Y δ k5);refine AB [(0,_),(1,_),(2,_)] [.w 0,.w 0,.w 0] [_,_,_] Y AN A0 Y ω κ Qt Y Y Y Y (λg11=>AK λh6 l6 k6=>?_);have hE:=(hE.up l6).snoc (Cs [1,-3,4] 3 Y δ k6);refine AB [(0,_),(1,_),(2,_)] [.w 0,.w 0,.w 0] [_,_,_] Y AN A0 Y ω κ Qt Y Y Y Y (λg12=>AK λh7 l7 k7=>?_);have hE:=(hE.up l7).snoc (Cs [1,-4,2] 3 Y δ k7);have l17:=AE l1 (AE l2 (AE l3 (AE l4 (AE l5 (AE l6 l7)))));refine AB [(0,_),(1,_),(2,_),(3,_),(4,_),(5,_),(6,_)] [.nl,.nl,.nl,.nl,.nl,.nl,.nl] [_,_,_,_,_,_,_] Y CA CI Y ω κ Qt Y Y Y Y (λg13=>Qm Y (Am ?_));obtain⟨M,hM⟩:∃M,3*n=M:=⟨_,Y⟩
 have hM3:3*(n:Int)=M:=ω
 have hMb:9<=M/\M<=12:=ω
 refine Bg (λsl h' ms'=>∃(v3:Value) (m3:Hp) (es:List Value),sl=[(0,.w n),(2,.pt g2),(3,v3)]/\hp.le h'/\ms'=[m3,Bh g2 29 [.nl]]/\OwnL cW 1 22 m3 v3 es/\RdEs h' es (NU M M)) ?_ (λs h ms hI=>?_)
 ·refine Ac (Ab (Qm Y (Am (Ag ?_))))
  refine Ay (λq sl h' ms'=>∃(i:Nat) (v3:Value) (m3:Hp) (es:List Value),q=M-i/\sl=[(0,.w n),(2,.pt g2),(3,v3),(4,.w i)]/\hp.le h'/\ms'=[m3,Bh g2 29 [.nl]]/\i<=M/\OwnL cW 1 22 m3 v3 es/\RdEs h' es (NU M i))
   (M-0) _ ⟨0,_,_,_,rfl,rfl,l17,rfl,ω,OwnL.blk (g:=g13) (el:=22) (F:=cW) (l:=[_,_,_,_,_,_,_]) 7 D5 rfl δ,hE⟩ Qs ?_
  rintro q sl h' ms' ⟨i,v3,m3,es,rfl,rfl,lh,rfl,hi,hO,hE⟩;have hel:es.length=7+i:=by rw[hE.1];unfold NU;simp;omega
  have ov3:=hO.o1;refine Ac (Aq (Qm Y (Qm Y (Qx (oM Y) Y (Qm Y (Am ?_))))));refine Ao Y (λhlt=>?_) (λhlt=>?_)
  ·refine Ah (Ad (Ac (Ag (Ab (Qm Y (Qm Y (Qx (BH Y Y Y ω ω) Y (Qx (oA Y) Y (AB [(0,_),(1,_),(2,_)] [.w 0,.w 0,.w 0] [_,_,_] Y AN A0 Y ω κ Qt Y Y Y Y (λg24=>AK λh8 l8 k8=>?_))))))))));have hrow:RdL cI 1 h8 [] (.slice (some ⟨g24,0,none⟩) 3 3) [(1:Int),-1,2+((i%3:Nat):Int)]:=Cs (el:=3) [(1:Int),-1,2+((i%3:Nat):Int)] 3 Y δ k8;have hE:=hE.up l8;refine Aw [_] Y CA CI Y (by rfl) Y Y ω Y Y Y (λg25=>?_);refine Bp 1 hO (RdL.one D5 (x:=(.slice (some ⟨g24,0,none⟩) 3 3:Value)) Mh Y) Y CA CI Y ω Y Y Y (GL λu hu=>by rw[ao.1 hu];rfl) (by(try simp only[ab]);omega) (by(try simp only[ab]);omega) rfl rfl rfl (λv9 m9 hO9=>?_);have ov9:=hO9.o1;refine Qm Y (Ak (Ai (Ad (Ab (Qm Y (Qx (oA Y) Y (Qm Y (Ak (AZ 0 Y ?_)))))))));exact Al (M-(i+1)) _ ω ⟨i+1,v9,m9,_,Y,Y,AE lh l8,Y,ω,hO9,by rw[Uw];exact hE.snoc hrow⟩ Qs
  ·obtain rfl:i=M:=ω
   refine Av (Aa (Aa (Af ?_)));exact Az _ ⟨v3,m3,es,Y,lh,Y,hO,hE⟩ Qs
 ·obtain⟨v3,m3,es,rfl,lh,rfl,hO,hE⟩:=hI;have hEl:=hE.1;refine Ac (Aq (Qm Y (Am (Ag ?_))))
  refine Ay (λq sl h' ms'=>∃(i:Nat) (v3:Value) (m3:Hp) (es:List Value),q=M-i/\sl=[(0,.w n),(2,.pt g2),(3,v3),(5,.w i)]/\hp.le h'/\ms'=[m3,Bh g2 29 [.nl]]/\i<=M/\OwnL cW 1 22 m3 v3 es/\RdEs h' es (NU M M++RM M i))
   (M-0) _ ⟨0,v3,m3,es,rfl,rfl,lh,rfl,ω,hO,by rw[show RM M 0=[] from Y,eo];exact hE⟩ Qs ?_
  rintro q sl h' ms' ⟨i,v3,m3,es,rfl,rfl,lh,rfl,hi,hO,hE⟩;have hel:es.length=7+M+i:=by rw[hE.1];unfold NU RM;simp;omega
  have ov3:=hO.o1;refine Ac (Aq (Qm Y (Qm Y (Qx (oM Y) Y (Qm Y (Am ?_))))));refine Ao Y (λhlt=>?_) (λhlt=>?_)
  ·have hm0:0<=((i:Int)+1)%(3*(n:Int)):=co _ ω;have hm1:((i:Int)+1)%(3*(n:Int))<3*(n:Int):=bw _ ω;refine Ah (Ad (Ac (Ag (Ab (Qm Y (Qm Y (Qx (oA Y) Y (Qm Y (Qx (BH Y Y Y ω ω) Y (Qx (oA Y) Y (Qm Y (Qx (oA Y) Y (Qm Y (Qx (oM Y) Y (Qx (BH Y Y Y ω ω) Y (Qx (oA Y) Y (Qx (J9 Y Y ω) Y (AB [(0,_),(1,_),(2,_),(3,_)] [.w 0,.w 0,.w 0,.w 0] [_,_,_,_] Y AN A0 Y ω κ Qt Y Y Y Y (λg46=>AK λh8 l8 k8=>?_)))))))))))))))))));have hrow:RdL cI 1 h8 [] (.slice (some ⟨g46,0,none⟩) 4 4) [(2:Int),8+(i:Int),5+((i%3:Nat):Int),-(8+(((i+1)%M:Nat):Int))]:=Cs (el:=3) [(2:Int),8+(i:Int),5+((i%3:Nat):Int),-(8+(((i+1)%M:Nat):Int))] 4 Y δ (by subst hM;exact k8);have hE:=hE.up l8;refine Aw [_] Y CA CI Y (by rfl) Y Y ω Y Y Y (λg47=>?_);refine Bp 1 hO (RdL.one D5 (x:=(.slice (some ⟨g46,0,none⟩) 4 4:Value)) Mh Y) Y CA CI Y ω Y Y Y (GL λu hu=>by rw[ao.1 hu];rfl) (by(try simp only[ab]);omega) (by(try simp only[ab]);omega) rfl rfl rfl (λv9 m9 hO9=>?_);have ov9:=hO9.o1;refine Qm Y (Ak (Ai (Ad (Ab (Qm Y (Qx (oA Y) Y (Qm Y (Ak (AZ 0 Y ?_)))))))));exact Al (M-(i+1)) _ ω ⟨i+1,v9,m9,_,Y,Y,AE lh l8,Y,ω,hO9,by rw[Ub,<-bp];exact hE.snoc hrow⟩ Qs
  ·obtain rfl:i=M:=ω
   refine Bx λh9 l9 k9=>?_;have hV:=hO.rdh (ms:=[]) k9;have hE:RdEs h9 es (RV n):=by rw[Zh,hM];exact hE.up l9
   refine Av (Aa (Aa (Af (Ad (Aq (Qm Y ?_))))));refine Qc call114 Y (HV (RV n) _ _ h9 hV hE (Aa2 n hn) (by rw[<-hE.1];omega)) (λrC h10 ms10 l10 hF=>?_);obtain⟨l10',m,A,vA,rfl,rfl,hOA,hA,hs⟩:=hF;have ovA:=hOA.o1;refine Sa 1 [_] A8 Y (by simp[ov3,ovA]) ?_;refine Am (An ?_);exact BC (vs:=[_]) 1 Y Y CS Y A8 Y Y (⟨AE lh (AE l9 l10),m,A,_,Y,Y,hOA,hA,hs⟩)
theorem Hu{L:List (List Int)}(h:L=[[0]]\/L=AbN\/L=AbL\/L=Abf):L.length<=1000/\∀l∈L,l≠[]/\l.length<=1000/\∀x∈l,-1000000<=x/\x<=1000000:=by rcases h with rfl|rfl|rfl|rfl<;>decide
theorem Jm(n:Int)(hp:Hp)(hn:BS n):FnT Tryz.prog 45 #[.int .i64 n] hp [] (λr h' ms'=>hp.le h'/\Rg h' r ms' (λo=>o=O5 (FB (n%10).toNat))):=by
 refine Au func45 ntmps45 Y Y (λw0 hw0=>?_);simp only[A6];obtain⟨k,hk⟩:∃k:Nat,n%10=k:=⟨(n%10).toNat,ω⟩
 have hk10:k<10:=ω
 rw[hk,de];refine Aq (Cx [.nl] Y A8 Y Y (λg2=>Am (Ac (Aq (Qm Y (Qx (AH Y call34 Y (D0 n 10 hn δ _ _)) Y (Am (Ag (Aq (Qm Y (Qm Y (Am ?_))))))))))));refine Ao Y (λh0=>?_) (λh0=>?_)
 ·have hE:=RdEs.nil hp;refine Aq (Aw [_] Y AN A0 Y (by rfl) Y Y ω Y Y Y (λg7=>AK λh1 l1 k1=>?_));have hE:=(hE.up l1).snoc (Cs [0] 1 Y δ k1);refine Aw [_] Y CA CI Y (by rfl) Y Y ω Y Y Y (λg8=>AK λhz lz kz=>?_);have hE:=hE.up lz;have hV:=(OwnL.blk (g:=g8) (el:=22) (F:=cW) (l:=[_]) 1 D5 Y δ).rdh (ms:=[]) kz;have lall:=(AE l1 lz)
  refine Qc call114 Y (HV [[0]] _ _ hz hV hE (Hu (.inl Y)).2 (Hu (.inl Y)).1) (λrC hc msc lc hF=>?_);obtain⟨lc',m,A,vA,rfl,rfl,hOA,hA,hs⟩:=hF;have ovA:=hOA.o1;refine Sa 1 [_] A8 Y (by simp[ovA]) ?_;refine Am (An (Aj (Ae ?_)));exact BC (vs:=[_]) 1 Y Y CS Y A8 Y Y (⟨AE lall lc',m,A,_,Y,Y,hOA,by rw[hA];unfold FB;rw[ac ω],hs⟩)
 ·refine Ac (Aq (Qm Y (Qm Y (Am ?_))));refine Ao Y (λh1=>?_) (λh1=>?_)
  ·refine Ah (Ad ?_);refine Ao Y (λhc=>?_) (λhc=>jt (h1) hc);refine Aq (Qm Y (Qx (AH Y call34 Y (D0 n 10 hn δ _ _)) Y ?_));rw[hk];refine Qc call115 Y (HX k hp ω) (λrC hc msc lc hF=>?_);obtain⟨lc',m,A,vA,rfl,rfl,hOA,hA,hs⟩:=hF;have ovA:=hOA.o1;refine Sa 1 [_] A8 Y (by simp[ovA]) ?_;refine Am (An (Aj (Ae ?_)));exact BC (vs:=[_]) 1 Y Y CS Y A8 Y Y (⟨lc',m,A,_,Y,Y,hOA,by rw[hA];unfold FB;rw[aa ω,ac ω],hs⟩)
  ·refine Ac (Ab (Qm Y (Qm Y (Am ?_))));refine Ao Y (λh2=>?_) (λh2=>?_)
   ·refine Ah (Ad ?_);refine Ao Y (λhc=>?_) (λhc=>jt (h2) hc);refine Aq (Qm Y (Qx (AH Y call34 Y (D0 n 10 hn δ _ _)) Y ?_));rw[hk];refine Qc call115 Y (HX k hp ω) (λrC hc msc lc hF=>?_);obtain⟨lc',m,A,vA,rfl,rfl,hOA,hA,hs⟩:=hF;have ovA:=hOA.o1;refine Sa 1 [_] A8 Y (by simp[ovA]) ?_;refine Am (An (Aj (Ae ?_)));exact BC (vs:=[_]) 1 Y Y CS Y A8 Y Y (⟨lc',m,A,_,Y,Y,hOA,by rw[hA];unfold FB;rw[aa ω,ac ω],hs⟩)
   ·refine Ab (Qm Y (Qm Y (Am ?_)));refine Ao Y (λh3=>?_) (λh3=>?_)
    ·refine Ac (Ab (Qm Y (Qx (AH Y call34 Y (D0 n 10 hn δ _ _)) Y ?_)));rw[hk];refine Qc call115 Y (HX k hp ω) (λrC hc msc lc hF=>?_);obtain⟨lc',m,A,vA,rfl,rfl,hOA,hA,hs⟩:=hF;have ovA:=hOA.o1;refine Sa 1 [_] A8 Y (by simp[ovA]) ?_;refine Am (An (Aj (Ae ?_)));exact BC (vs:=[_]) 1 Y Y CS Y A8 Y Y (⟨lc',m,A,_,Y,Y,hOA,by rw[hA];unfold FB;rw[aa ω,ac ω],hs⟩)
    ·refine Ac (Ab (Qm Y (Qm Y (Am ?_))));refine Ao Y (λh4=>?_) (λh4=>?_)
     ·refine Ac (Ab (Qc call115 Y (HX 0 hp ω) (λrC hc msc lc hF=>?_)));obtain⟨lc',m,A,vA,rfl,rfl,hOA,hA,hs⟩:=hF;have ovA:=hOA.o1;refine Sa 1 [_] A8 Y (by simp[ovA]) ?_;refine Am (An (Aj (Ae ?_)));exact BC (vs:=[_]) 1 Y Y CS Y A8 Y Y (⟨lc',m,A,_,Y,Y,hOA,by rw[hA];unfold FB;rw[aa ω,aa ω,ac ω],hs⟩)
     ·refine Ac (Ab (Qm Y (Qm Y (Am ?_))));refine Ao Y (λh5=>?_) (λh5=>?_)
      ·have hE:=RdEs.nil hp;refine Aq (Aw [_] Y AN A0 Y (by rfl) Y Y ω Y Y Y (λg22=>AK λh1 l1 k1=>?_));have hE:=(hE.up l1).snoc (Cs [0] 1 Y δ k1);refine Aw [_] Y AN A0 Y (by rfl) Y Y ω Y Y Y (λg23=>AK λh2 l2 k2=>?_);have hE:=(hE.up l2).snoc (Cs [0] 1 Y δ k2);refine Aw [_] Y AN A0 Y (by rfl) Y Y ω Y Y Y (λg24=>AK λh3 l3 k3=>?_);have hE:=(hE.up l3).snoc (Cs [0] 1 Y δ k3);refine AB [(0,_),(1,_),(2,_)] [.w 0,.w 0,.w 0] [_,_,_] Y AN A0 Y ω κ Qt Y Y Y Y (λg25=>AK λh4 l4 k4=>?_);have hE:=(hE.up l4).snoc (Cs [1,-1,2] 3 Y δ k4);refine AB [(0,_),(1,_),(2,_)] [.w 0,.w 0,.w 0] [_,_,_] Y AN A0 Y ω κ Qt Y Y Y Y (λg26=>AK λh5 l5 k5=>?_);have hE:=(hE.up l5).snoc (Cs [1,-1,2] 3 Y δ k5);refine AB [(0,_),(1,_),(2,_)] [.w 0,.w 0,.w 0] [_,_,_] Y AN A0 Y ω κ Qt Y Y Y Y (λg27=>AK λh6 l6 k6=>?_);have hE:=(hE.up l6).snoc (Cs [1,-2,3] 3 Y δ k6);refine AB [(0,_),(1,_),(2,_)] [.w 0,.w 0,.w 0] [_,_,_] Y AN A0 Y ω κ Qt Y Y Y Y (λg28=>AK λh7 l7 k7=>?_);have hE:=(hE.up l7).snoc (Cs [1,-2,3] 3 Y δ k7);refine AB [(0,_),(1,_),(2,_)] [.w 0,.w 0,.w 0] [_,_,_] Y AN A0 Y ω κ Qt Y Y Y Y (λg29=>AK λh8 l8 k8=>?_);have hE:=(hE.up l8).snoc (Cs [1,-1,3] 3 Y δ k8);refine AB [(0,_),(1,_),(2,_)] [.w 0,.w 0,.w 0] [_,_,_] Y AN A0 Y ω κ Qt Y Y Y Y (λg30=>AK λh9 l9 k9=>?_);have hE:=(hE.up l9).snoc (Cs [1,-1,3] 3 Y δ k9);refine AB [(0,_),(1,_),(2,_),(3,_)] [.w 0,.w 0,.w 0,.w 0] [_,_,_,_] Y AN A0 Y ω κ Qt Y Y Y Y (λg31=>AK λh10 l10 k10=>?_);have hE:=(hE.up l10).snoc (Cs [2,4,6,-8] 4 Y δ k10);refine AB [(0,_),(1,_),(2,_),(3,_)] [.w 0,.w 0,.w 0,.w 0] [_,_,_,_] Y AN A0 Y ω κ Qt Y Y Y Y (λg32=>AK λh11 l11 k11=>?_);have hE:=(hE.up l11).snoc (Cs [2,4,7,-9] 4 Y δ k11);refine AB [(0,_),(1,_),(2,_),(3,_)] [.w 0,.w 0,.w 0,.w 0] [_,_,_,_] Y AN A0 Y ω κ Qt Y Y Y Y (λg33=>AK λh12 l12 k12=>?_);have hE:=(hE.up l12).snoc (Cs [2,5,6,-9] 4 Y δ k12);refine AB [(0,_),(1,_),(2,_),(3,_)] [.w 0,.w 0,.w 0,.w 0] [_,_,_,_] Y AN A0 Y ω κ Qt Y Y Y Y (λg34=>AK λh13 l13 k13=>?_);have hE:=(hE.up l13).snoc (Cs [2,5,7,-8] 4 Y δ k13);refine AB [(0,_),(1,_),(2,_),(3,_),(4,_),(5,_),(6,_),(7,_),(8,_),(9,_),(10,_),(11,_),(12,_)] [.nl,.nl,.nl,.nl,.nl,.nl,.nl,.nl,.nl,.nl,.nl,.nl,.nl] [_,_,_,_,_,_,_,_,_,_,_,_,_] Y CA CI Y ω κ Qt Y Y Y Y (λg35=>AK λhz lz kz=>?_);have hE:=hE.up lz;have hV:=(OwnL.blk (g:=g35) (el:=22) (F:=cW) (l:=[_,_,_,_,_,_,_,_,_,_,_,_,_]) 13 D5 Y δ).rdh (ms:=[]) kz;have lall:=(AE l1 (AE l2 (AE l3 (AE l4 (AE l5 (AE l6 (AE l7 (AE l8 (AE l9 (AE l10 (AE l11 (AE l12 (AE l13 lz)))))))))))))
       refine Qc call114 Y (HV AbN _ _ hz hV hE (Hu (.inr (.inl Y))).2 (Hu (.inr (.inl Y))).1) (λrC hc msc lc hF=>?_);obtain⟨lc',m,A,vA,rfl,rfl,hOA,hA,hs⟩:=hF;have ovA:=hOA.o1;refine Sa 1 [_] A8 Y (by simp[ovA]) ?_;refine Am (An (Aj (Ae ?_)));exact BC (vs:=[_]) 1 Y Y CS Y A8 Y Y (⟨AE lall lc',m,A,_,Y,Y,hOA,by rw[hA];unfold FB;rw[aa ω,aa ω,aa ω,ac ω],hs⟩)
      ·refine Ac (Ab (Qm Y (Qm Y (Am ?_))));refine Ao Y (λh6=>?_) (λh6=>?_)
       ·refine Ac (Ab (Qc call116 Y (QJ 3 hp ω) (λrC hc msc lc hF=>?_)));obtain⟨lc',m,A,vA,rfl,rfl,hOA,hA,hs⟩:=hF;have ovA:=hOA.o1;refine Sa 1 [_] A8 Y (by simp[ovA]) ?_;refine Am (An (Aj (Ae ?_)));exact BC (vs:=[_]) 1 Y Y CS Y A8 Y Y (⟨lc',m,A,_,Y,Y,hOA,by rw[hA];unfold FB;rw[aa ω,aa ω,aa ω,aa ω,ac ω],hs⟩)
       ·refine Ac (Ab (Qm Y (Qm Y (Am ?_))));refine Ao Y (λh7=>?_) (λh7=>?_)
        ·have hE:=RdEs.nil hp;refine Aq (Aw [_] Y AN A0 Y (by rfl) Y Y ω Y Y Y (λg42=>AK λh1 l1 k1=>?_));have hE:=(hE.up l1).snoc (Cs [0] 1 Y δ k1);refine Aw [_] Y AN A0 Y (by rfl) Y Y ω Y Y Y (λg43=>AK λh2 l2 k2=>?_);have hE:=(hE.up l2).snoc (Cs [0] 1 Y δ k2);refine Aw [_] Y AN A0 Y (by rfl) Y Y ω Y Y Y (λg44=>AK λh3 l3 k3=>?_);have hE:=(hE.up l3).snoc (Cs [0] 1 Y δ k3);refine Aw [_] Y AN A0 Y (by rfl) Y Y ω Y Y Y (λg45=>AK λh4 l4 k4=>?_);have hE:=(hE.up l4).snoc (Cs [0] 1 Y δ k4);refine AB [(0,_),(1,_),(2,_)] [.w 0,.w 0,.w 0] [_,_,_] Y AN A0 Y ω κ Qt Y Y Y Y (λg46=>AK λh5 l5 k5=>?_);have hE:=(hE.up l5).snoc (Cs [1,-1,2] 3 Y δ k5);refine AB [(0,_),(1,_),(2,_)] [.w 0,.w 0,.w 0] [_,_,_] Y AN A0 Y ω κ Qt Y Y Y Y (λg47=>AK λh6 l6 k6=>?_);have hE:=(hE.up l6).snoc (Cs [1,-1,2] 3 Y δ k6);refine AB [(0,_),(1,_),(2,_)] [.w 0,.w 0,.w 0] [_,_,_] Y AN A0 Y ω κ Qt Y Y Y Y (λg48=>AK λh7 l7 k7=>?_);have hE:=(hE.up l7).snoc (Cs [1,-3,4] 3 Y δ k7);refine AB [(0,_),(1,_),(2,_)] [.w 0,.w 0,.w 0] [_,_,_] Y AN A0 Y ω κ Qt Y Y Y Y (λg49=>AK λh8 l8 k8=>?_);have hE:=(hE.up l8).snoc (Cs [1,-3,4] 3 Y δ k8);refine AB [(0,_),(1,_),(2,_)] [.w 0,.w 0,.w 0] [_,_,_] Y AN A0 Y ω κ Qt Y Y Y Y (λg50=>AK λh9 l9 k9=>?_);have hE:=(hE.up l9).snoc (Cs [1,-1,3] 3 Y δ k9);refine AB [(0,_),(1,_),(2,_)] [.w 0,.w 0,.w 0] [_,_,_] Y AN A0 Y ω κ Qt Y Y Y Y (λg51=>AK λh10 l10 k10=>?_);have hE:=(hE.up l10).snoc (Cs [1,-2,4] 3 Y δ k10);refine AB [(0,_),(1,_),(2,_)] [.w 0,.w 0,.w 0] [_,_,_] Y AN A0 Y ω κ Qt Y Y Y Y (λg52=>AK λh11 l11 k11=>?_);have hE:=(hE.up l11).snoc (Cs [1,-3,1] 3 Y δ k11);refine AB [(0,_),(1,_),(2,_)] [.w 0,.w 0,.w 0] [_,_,_] Y AN A0 Y ω κ Qt Y Y Y Y (λg53=>AK λh12 l12 k12=>?_);have hE:=(hE.up l12).snoc (Cs [1,-4,2] 3 Y δ k12);refine AB [(0,_),(1,_),(2,_),(3,_),(4,_)] [.w 0,.w 0,.w 0,.w 0,.w 0] [_,_,_,_,_] Y AN A0 Y ω κ Qt Y Y Y Y (λg54=>AK λh13 l13 k13=>?_);have hE:=(hE.up l13).snoc (Cs [2,5,10,-7,-9] 5 Y δ k13);refine AB [(0,_),(1,_),(2,_),(3,_),(4,_)] [.w 0,.w 0,.w 0,.w 0,.w 0] [_,_,_,_,_] Y AN A0 Y ω κ Qt Y Y Y Y (λg55=>AK λh14 l14 k14=>?_);have hE:=(hE.up l14).snoc (Cs [2,6,10,-8,-9] 5 Y δ k14);refine AB [(0,_),(1,_),(2,_),(3,_),(4,_)] [.w 0,.w 0,.w 0,.w 0,.w 0] [_,_,_,_,_] Y AN A0 Y ω κ Qt Y Y Y Y (λg56=>AK λh15 l15 k15=>?_);have hE:=(hE.up l15).snoc (Cs [2,7,12,-6,-11] 5 Y δ k15);refine AB [(0,_),(1,_),(2,_),(3,_),(4,_)] [.w 0,.w 0,.w 0,.w 0,.w 0] [_,_,_,_,_] Y AN A0 Y ω κ Qt Y Y Y Y (λg57=>AK λh16 l16 k16=>?_);have hE:=(hE.up l16).snoc (Cs [2,8,12,-5,-11] 5 Y δ k16);refine AB [(0,_),(1,_),(2,_),(3,_),(4,_),(5,_),(6,_),(7,_),(8,_),(9,_),(10,_),(11,_),(12,_),(13,_),(14,_),(15,_)] [.nl,.nl,.nl,.nl,.nl,.nl,.nl,.nl,.nl,.nl,.nl,.nl,.nl,.nl,.nl,.nl] [_,_,_,_,_,_,_,_,_,_,_,_,_,_,_,_] Y CA CI Y ω κ Qt Y Y Y Y (λg58=>AK λhz lz kz=>?_);have hE:=hE.up lz;have hV:=(OwnL.blk (g:=g58) (el:=22) (F:=cW) (l:=[_,_,_,_,_,_,_,_,_,_,_,_,_,_,_,_]) 16 D5 Y δ).rdh (ms:=[]) kz;have lall:=(AE l1 (AE l2 (AE l3 (AE l4 (AE l5 (AE l6 (AE l7 (AE l8 (AE l9 (AE l10 (AE l11 (AE l12 (AE l13 (AE l14 (AE l15 (AE l16 lz))))))))))))))))
         refine Qc call114 Y (HV AbL _ _ hz hV hE (Hu (.inr (.inr (.inl Y)))).2 (Hu (.inr (.inr (.inl Y)))).1) (λrC hc msc lc hF=>?_);obtain⟨lc',m,A,vA,rfl,rfl,hOA,hA,hs⟩:=hF;have ovA:=hOA.o1;refine Sa 1 [_] A8 Y (by simp[ovA]) ?_;refine Am (An (Aj (Ae ?_)));exact BC (vs:=[_]) 1 Y Y CS Y A8 Y Y (⟨AE lall lc',m,A,_,Y,Y,hOA,by rw[hA];unfold FB;rw[aa ω,aa ω,aa ω,aa ω,aa ω,ac ω],hs⟩)
        ·refine Ac (Ab (Qm Y (Qm Y (Am ?_))));refine Ao Y (λh8=>?_) (λh8=>?_)
         ·have hE:=RdEs.nil hp;refine Aq (Aw [_] Y AN A0 Y (by rfl) Y Y ω Y Y Y (λg62=>AK λh1 l1 k1=>?_));have hE:=(hE.up l1).snoc (Cs [0] 1 Y δ k1);refine Aw [_] Y AN A0 Y (by rfl) Y Y ω Y Y Y (λg63=>AK λh2 l2 k2=>?_);have hE:=(hE.up l2).snoc (Cs [0] 1 Y δ k2);refine Aw [_] Y AN A0 Y (by rfl) Y Y ω Y Y Y (λg64=>AK λh3 l3 k3=>?_);have hE:=(hE.up l3).snoc (Cs [0] 1 Y δ k3);refine Aw [_] Y AN A0 Y (by rfl) Y Y ω Y Y Y (λg65=>AK λh4 l4 k4=>?_);have hE:=(hE.up l4).snoc (Cs [0] 1 Y δ k4);refine AB [(0,_),(1,_),(2,_)] [.w 0,.w 0,.w 0] [_,_,_] Y AN A0 Y ω κ Qt Y Y Y Y (λg66=>AK λh5 l5 k5=>?_);have hE:=(hE.up l5).snoc (Cs [1,-1,2] 3 Y δ k5);refine AB [(0,_),(1,_),(2,_)] [.w 0,.w 0,.w 0] [_,_,_] Y AN A0 Y ω κ Qt Y Y Y Y (λg67=>AK λh6 l6 k6=>?_);have hE:=(hE.up l6).snoc (Cs [1,-1,2] 3 Y δ k6);refine AB [(0,_),(1,_),(2,_)] [.w 0,.w 0,.w 0] [_,_,_] Y AN A0 Y ω κ Qt Y Y Y Y (λg68=>AK λh7 l7 k7=>?_);have hE:=(hE.up l7).snoc (Cs [1,-3,4] 3 Y δ k7);refine AB [(0,_),(1,_),(2,_)] [.w 0,.w 0,.w 0] [_,_,_] Y AN A0 Y ω κ Qt Y Y Y Y (λg69=>AK λh8 l8 k8=>?_);have hE:=(hE.up l8).snoc (Cs [1,-3,4] 3 Y δ k8);refine AB [(0,_),(1,_),(2,_)] [.w 0,.w 0,.w 0] [_,_,_] Y AN A0 Y ω κ Qt Y Y Y Y (λg70=>AK λh9 l9 k9=>?_);have hE:=(hE.up l9).snoc (Cs [1,-1,3] 3 Y δ k9);refine AB [(0,_),(1,_),(2,_)] [.w 0,.w 0,.w 0] [_,_,_] Y AN A0 Y ω κ Qt Y Y Y Y (λg71=>AK λh10 l10 k10=>?_);have hE:=(hE.up l10).snoc (Cs [1,-2,4] 3 Y δ k10);refine AB [(0,_),(1,_),(2,_)] [.w 0,.w 0,.w 0] [_,_,_] Y AN A0 Y ω κ Qt Y Y Y Y (λg72=>AK λh11 l11 k11=>?_);have hE:=(hE.up l11).snoc (Cs [1,-3,1] 3 Y δ k11);refine AB [(0,_),(1,_),(2,_)] [.w 0,.w 0,.w 0] [_,_,_] Y AN A0 Y ω κ Qt Y Y Y Y (λg73=>AK λh12 l12 k12=>?_);have hE:=(hE.up l12).snoc (Cs [1,-4,2] 3 Y δ k12);refine AB [(0,_),(1,_),(2,_),(3,_),(4,_)] [.w 0,.w 0,.w 0,.w 0,.w 0] [_,_,_,_,_] Y AN A0 Y ω κ Qt Y Y Y Y (λg74=>AK λh13 l13 k13=>?_);have hE:=(hE.up l13).snoc (Cs [2,5,10,-7,-9] 5 Y δ k13);refine AB [(0,_),(1,_),(2,_),(3,_),(4,_)] [.w 0,.w 0,.w 0,.w 0,.w 0] [_,_,_,_,_] Y AN A0 Y ω κ Qt Y Y Y Y (λg75=>AK λh14 l14 k14=>?_);have hE:=(hE.up l14).snoc (Cs [2,6,10,-8,-9] 5 Y δ k14);refine AB [(0,_),(1,_),(2,_),(3,_),(4,_)] [.w 0,.w 0,.w 0,.w 0,.w 0] [_,_,_,_,_] Y AN A0 Y ω κ Qt Y Y Y Y (λg76=>AK λh15 l15 k15=>?_);have hE:=(hE.up l15).snoc (Cs [2,7,12,-5,-11] 5 Y δ k15);refine AB [(0,_),(1,_),(2,_),(3,_),(4,_)] [.w 0,.w 0,.w 0,.w 0,.w 0] [_,_,_,_,_] Y AN A0 Y ω κ Qt Y Y Y Y (λg77=>AK λh16 l16 k16=>?_);have hE:=(hE.up l16).snoc (Cs [2,8,12,-6,-11] 5 Y δ k16);refine AB [(0,_),(1,_),(2,_),(3,_),(4,_),(5,_),(6,_),(7,_),(8,_),(9,_),(10,_),(11,_),(12,_),(13,_),(14,_),(15,_)] [.nl,.nl,.nl,.nl,.nl,.nl,.nl,.nl,.nl,.nl,.nl,.nl,.nl,.nl,.nl,.nl] [_,_,_,_,_,_,_,_,_,_,_,_,_,_,_,_] Y CA CI Y ω κ Qt Y Y Y Y (λg78=>AK λhz lz kz=>?_);have hE:=hE.up lz;have hV:=(OwnL.blk (g:=g78) (el:=22) (F:=cW) (l:=[_,_,_,_,_,_,_,_,_,_,_,_,_,_,_,_]) 16 D5 Y δ).rdh (ms:=[]) kz;have lall:=(AE l1 (AE l2 (AE l3 (AE l4 (AE l5 (AE l6 (AE l7 (AE l8 (AE l9 (AE l10 (AE l11 (AE l12 (AE l13 (AE l14 (AE l15 (AE l16 lz))))))))))))))))
          refine Qc call114 Y (HV Abf _ _ hz hV hE (Hu (.inr (.inr (.inr Y)))).2 (Hu (.inr (.inr (.inr Y)))).1) (λrC hc msc lc hF=>?_);obtain⟨lc',m,A,vA,rfl,rfl,hOA,hA,hs⟩:=hF;have ovA:=hOA.o1;refine Sa 1 [_] A8 Y (by simp[ovA]) ?_;refine Am (An (Aj (Ae ?_)));exact BC (vs:=[_]) 1 Y Y CS Y A8 Y Y (⟨AE lall lc',m,A,_,Y,Y,hOA,by rw[hA];unfold FB;rw[aa ω,aa ω,aa ω,aa ω,aa ω,aa ω,ac ω],hs⟩)
         ·refine Ah (Ai (Ad (Aq (Qc call116 Y (QJ 4 hp ω) (λrC hc msc lc hF=>?_)))));obtain⟨lc',m,A,vA,rfl,rfl,hOA,hA,hs⟩:=hF;have ovA:=hOA.o1;refine Sa 1 [_] A8 Y (by simp[ovA]) ?_;refine Am (An ?_);exact BC (vs:=[_]) 1 Y Y CS Y A8 Y Y (⟨lc',m,A,_,Y,Y,hOA,by rw[hA];unfold FB;rw[aa ω,aa ω,aa ω,aa ω,aa ω,aa ω,aa ω],hs⟩)
theorem MI(A B:List Ce)(va vb:Value)(K:Int)(hK:0<=K/\K<=1000000)(hp:Hp)(hA:RdC hp va A)(hB:RdC hp vb B)(hnA:A.length<=1000)(hnB:B.length<=1000)(hiA:∀a∈A,-1000000<=a.c.id/\a.c.id<=K)(hiB:∀b∈B,(-1000000<=b.c.id/\b.c.id<=1000000)/\b.c.sd.length<=100/\∀s∈b.c.sd,-1000000<=s.1/\s.1<=1000000) :
  FnT Tryz.prog 48 #[.agg #[va],.agg #[vb]] hp [] (λr h' ms'=>hp.le h'/\Rg h' r ms' (λo=>∃m:Int,0<=m/\m<=K/\(∀a∈A,a.c.id<=m)/\o=A.map Ce.c++(B.map Ce.c).map (XQ m))):=by
 have oa:=hA.q.rd.one;have ob:=hB.q.rd.one;refine Au func48 ntmps48 Y Y (λw0 hw0=>?_);simp only[A6];refine Aq (AP [_] Y Y (by rfl) Y Y Y (λg2=>AP [_] Y Y (by rfl) Y Y Y (λg3=>Cx [.nl] Y A8 Y Y (λg4=>Am (Bj 1 Y λh1 l1 hS3=>(Bj 1 Y λh2 l2 hS2=>?_))))));have hA:=(hA.up l1).up l2;have hB:=(hB.up l1).up l2;have hS3:=hS3.le l2;have e2:∀{h},h2.le h->∀ms,Cell h ms (⟨g2,0,none⟩:Addr) va:=λl ms=>Seg.all (hS2.le l) 0 _ Y ms;have e3:∀{h},h2.le h->∀ms,Cell h ms (⟨g3,0,none⟩:Addr) vb:=λl ms=>Seg.all (hS3.le l) 0 _ Y ms;refine Aq (Qm Y (Am ?_));refine Bg (λsl h' ms'=>∃(m:Int),sl=[(2,.pt g2),(3,.pt g3),(4,.pt g4),(5,.w m)]/\h2=h'/\ms'=[Bh g4 29 [.nl]]/\0<=m/\m<=K/\∀a∈A,a.c.id<=m) ?_ (λs h ms hI=>?_)
 ·refine Ac (Ab (Qm Y (Am (Ag ?_))))
  refine Ay (λq sl h' ms'=>∃(i:Nat) (m:Int),q=A.length-i/\sl=[(2,.pt g2),(3,.pt g3),(4,.pt g4),(5,.w m),(6,.w i)]/\h2=h'/\ms'=[Bh g4 29 [.nl]]/\i<=A.length/\0<=m/\m<=K/\∀a∈A.take i,a.c.id<=m)
   (A.length-0) _ ⟨0,0,rfl,rfl,rfl,rfl,ω,ω,ω,by simp⟩ Qs ?_
  rintro q sl h' ms' ⟨i,m,rfl,rfl,rfl,rfl,hi,hm0,hm1,hm⟩;refine Ac (Aq (Qm Y (Qf Cr Y (Ql Y Bm (e2 (Da) _) (Qx (As hA.q.rd.any Y Bm Y) Y (Qm Y (Am ?_)))))));refine Ao Y (λhlt=>?_) (λhlt=>?_)
  ·have hil:i<A.length:=ω
   obtain⟨x,hx⟩:∃x,A[i]=x:=⟨_,Y⟩
   have hxi:=hiA x (by rw[<-hx];exact ae hil);have cx:∀ms,Cell h2 ms (((AG va).add (i*3)).add 0) (.w x.c.id):=λms=>by rw[<-hx];exact(hA.q.any (ms:=ms)).cell (j:=i) hil (f:=0) Y
   refine Ah (Ad (Ac (Ag (Ab (Qm Y (Qf Cr Y (Ql Y Bm (e2 (Da) _) (Qm Y (Qx (BN (i) hA.q.rd.any Y Bm AI Y Y) Y (Qf Bq Y (Ql Y U3 (cx _) (Qx (GU Y Y Y) Y (Qm Y (Ak (Ai (Ad (Ab (Qm Y (Qx (oA Y) Y (Qm Y (Ak ?_)))))))))))))))))))))
   exact Al (A.length-(i+1)) _ ω ⟨i+1,max m x.c.id,Y,Y,Y,Y,ω,ω,ω,λa ha=>by
    rw[ak hil,hx]at ha;rcases bf.1 ha with h|h
    ·have:=hm a h;omega
    ·rw[ao.1 h];omega⟩ Qs
  ·obtain rfl:i=A.length:=ω
   refine Av (Aa (Aa (Af ?_)));exact Az _ ⟨m,Y,Y,Y,hm0,hm1,λa ha=>hm a (by rw[ct];exact ha)⟩ Qs
 ·obtain⟨m,rfl,rfl,rfl,hm0,hm1,hm⟩:=hI;refine Aq ?_;refine AB [] [] [] rfl Bm AI rfl ω κ (by repeat (first|exact ff|refine⟨⟨by first|rfl|exact(hA.q.rd.any).cells|exact Rd.cells ‹_›|exact(RdL.rd ‹_›).cells,rfl,rfl⟩,?_⟩)) rfl rfl rfl rfl (λg27=>?_);refine Qf Cr rfl (Ql rfl Bm (e2 (Da) _) (Bp 0 (DK g27 CP) hA.q.any rfl Bm AI rfl ω rfl rfl rfl (DC hA.s) (by(try simp only[ab,dv,Nat.zero_add]);omega) (by(try simp only[ab,dv,Nat.zero_add]);omega) rfl rfl rfl (λvA mA hOA=>?_)));have ovA:=hOA.o1;rw[ay]at hOA;obtain⟨aA,cA,rfl,_⟩:=(hOA.rd (h:=hp) (ms:=[mA]) Mh).rd.ex;refine Qx (Bb AbH [.nl] [(0,_)] [_] rfl A8 rfl rfl Qt rfl) rfl (Cx [.nl] rfl A8 rfl rfl (λg7=>?_));refine Sa 0 [_] A8 rfl (by simp[Value.oneCell']) ?_;refine Am (Ac (Aq (Qm rfl (Am (Ag (Jk (ms':=[mA,Bh g7 29 [.slice aA A.length cA],Bh g4 29 [.nl]]) (List.Perm.swap _ _ _) ?_))))))
  refine Ay (λq sl h' ms'=>∃(i:Nat) (v:Value) (mO:Hp) (O:List Ce),q=B.length-i/\sl=[(2,.pt g2),(3,.pt g3),(4,.pt g4),(5,.w m),(7,.pt g7),(8,.w i)]/\h2.le h'/\ms'=[mO,Bh g7 29 [v],Bh g4 29 [.nl]]/\i<=B.length/\OwnL cC 3 52 mO v O/\O.map Ce.c=A.map Ce.c++((B.take i).map Ce.c).map (XQ m)/\∀a∈O,RdL cD 2 h' [] a.v a.c.sd)
   (B.length-0) _ ⟨0,_,mA,A,rfl,rfl,Da,rfl,ω,hOA,by simp,hA.s⟩ Qs ?_
  rintro q sl h' ms' ⟨i,v,mO,O,rfl,rfl,lh,rfl,hi,hO,hOc,hOs⟩;have hB:=hB.up lh;have ov:=hO.o1;have hOl:O.length=A.length+i:=by have:=aw List.length hOc;simpa[gh hi] using this
  refine Ac (Aq (Qm Y (Qf Cr Y (Ql Y Bm (e3 lh _) (Qx (As hB.q.rd.any Y Bm Y) Y (Qm Y (Am ?_)))))));refine Ao Y (λhlt=>?_) (λhlt=>?_)
  ·have hil:i<B.length:=ω
   obtain⟨x,hx⟩:∃x,B[i]=x:=⟨_,Y⟩
   have hxm:x∈B:=by rw[<-hx];exact ae hil
   obtain⟨hxi,hxl,hxs⟩:=hiB x hxm;have hX:=hB.s x hxm;have cx0:∀ms,Cell h' ms (((AG vb).add (i*3)).add 0) (.w x.c.id):=λms=>by rw[<-hx];exact(hB.q.any (ms:=ms)).cell (j:=i) hil (f:=0) Y
   have cx1:∀ms,Cell h' ms (((AG vb).add (i*3)).add 1) (.w x.c.dim):=λms=>by rw[<-hx];exact(hB.q.any (ms:=ms)).cell (j:=i) hil (f:=1) Y
   have cx2:∀ms,Cell h' ms (((AG vb).add (i*3)).add 2) x.v:=λms=>by rw[<-hx];exact(hB.q.any (ms:=ms)).cell (j:=i) hil (f:=2) Y
   have ox:=hX.rd.one;refine Ah (Ad (Ac (Ag (Ac (Bc 16 CT κ Y (Wf Cr Y (Wl Y Bm (e3 lh _) (Wm Y (AM (BN (i) hB.q.rd.any Y Bm AI Y Y) Y Y (Wf Bq Y (Wl Y U3 (cx0 _) (Wm Y (AM (oA Y) Y Y (Wf Cr Y (Wl Y Bm (e3 lh _) (Wm Y (AM (BN (i) hB.q.rd.any Y Bm AI Y Y) Y Y (Wf BZ Y (Wl Y U3 (cx1 _) (AM (Bb VB [.w 0,.w 0,.nl] [(0,_),(1,_)] [_,_,_] Y AI Y Y Qt Y) Y Y (Ug (Ka [.w 0,.w 0,.nl] Y AI Y) Y Y (HZ (λg9=>?_)))))))))))))))))))))));refine Sa 0 [_,_,_] AI Y (by simp[Value.oneCell']) ?_;refine Am (BT ?_);refine Bg (λsl h'' ms'=>∃(vs:Value) (mS:Hp),sl=[(2,.pt g2),(3,.pt g3),(4,.pt g4),(5,.w m),(7,.pt g7),(8,.w i),(9,.pt g9)]/\h'=h''/\ms'=[mS,Bh g9 52 [.w (x.c.id+m),.w x.c.dim,vs],mO,Bh g7 29 [v],Bh g4 29 [.nl]]/\OwnL cD 2 119 mS vs (x.c.sd.map λs=>(s.1+m,s.2))) ?_ (λs h ms hI=>?_)
   ·refine Ac (Ab (Qm Y (Am (Ag ?_))))
    refine Ay (λq sl h'' ms'=>∃(j:Nat) (vs:Value) (mS:Hp),q=x.c.sd.length-j/\sl=[(2,.pt g2),(3,.pt g3),(4,.pt g4),(5,.w m),(7,.pt g7),(8,.w i),(9,.pt g9),(10,.w j)]/\h'=h''/\ms'=[mS,Bh g9 52 [.w (x.c.id+m),.w x.c.dim,vs],mO,Bh g7 29 [v],Bh g4 29 [.nl]]/\j<=x.c.sd.length/\OwnL cD 2 119 mS vs ((x.c.sd.take j).map λs=>(s.1+m,s.2)))
     (x.c.sd.length-0) _ ⟨0,_,Hp.emp,rfl,rfl,rfl,rfl,ω,OwnL.nil E2⟩ Qs ?_
    rintro q sl h'' ms' ⟨j,vs,mS,rfl,rfl,rfl,rfl,hj,hOS⟩;have ovs:=hOS.o1;refine Ac (Aq (Qm Y (Qf Cr Y (Ql Y Bm (e3 lh _) (Qm Y (Qx (BN (i) hB.q.rd.any Y Bm AI Y Y) Y (Qf BI Y (Ql Y Cf (cx2 _) (Qx (As hX.rd.any Y Cf Y) Y (Qm Y (Am ?_)))))))))));refine Ao Y (λhjl=>?_) (λhjl=>?_)
    ·have hjn:j<x.c.sd.length:=ω
     obtain⟨s,hs⟩:∃s,x.c.sd[j]=s:=⟨_,Y⟩
     have hsb:=hxs s (by rw[<-hs];exact ae hjn);have cs:∀ms,Seg h' ms ((AG x.v).add (j*2)) (cD s):=λms=>by rw[<-hs];exact(hX.any (ms:=ms)).seg hjn
     have hll:((x.c.sd.take j).map λs=>(s.1+m,s.2)).length<=100:=by rw[af,av];omega
     have hsn:((x.c.sd.take (j+1)).map λs=>(s.1+m,s.2))=((x.c.sd.take j).map λs=>(s.1+m,s.2))++[(s.1+m,s.2)]:=by rw[ak hjn,bm,hs];rfl
     refine Ah (Ad (Ac (Ag (Aq (Qf Cr Y (Ql Y Bm (e3 lh _) (Qm Y (Qx (BN (i) hB.q.rd.any Y Bm AI Y Y) Y (Qf BI Y (Ql Y Cf (cx2 _) (Qm Y (Qx (BN (j) hX.rd.any Y Cf AS Y Y) Y (Qx (oG Y Eh AS (cs _)) Y (Cx [.w 0,.w 0] Y AS Y Y (λg11=>?_)))))))))))))));refine Sa 0 [_,_] AS Y (by simp[Value.oneCell']) ?_;refine BM (Qf Cm Y (Ql Y U3 (Cell.blk 0 Y Y) (Qm Y (Qx (oA Y) Y (Qf Cm Y ?_)))));refine AO 0 _ Y A0 Y Y (by rfl) Y Y (by(simp;done)) rfl rfl ?_;refine Gl (Qf BI Y (Ql Y Cf (Cell.blk 2 Y Y) (Qx (oG Y Eh AS (Seg.blk 0 Y)) Y (Aw [_,_] Y Cf AS Y (by rfl) Y Y ω Y Y Y (λg82=>AU 2 hOS (RdL.one E2 (x:=(s.1+m,s.2)) Mh Y) Y Cf AS Y ω Y Y Y G9 (by(try simp only[ab]);omega) (by(try simp only[ab]);omega) rfl rfl rfl (λv9 m9 hO9=>?_))))));rw[<-hsn]at hO9;have ov9:=hO9.o1;refine Qf BI Y ?_;refine AO 3 _ Y Uz Y Y (by assumption) Y Y (by(simp;done)) rfl rfl ?_;refine Ak (Ai (Ad (Ab (Qm Y (Qx (oA Y) Y (Qm Y (Ak (AZ 0 Y (AZ 0 Y ?_)))))))));exact Al (x.c.sd.length-(j+1)) _ ω ⟨j+1,v9,m9,Y,Y,Y,Y,ω,hO9⟩ Qs
    ·obtain rfl:j=x.c.sd.length:=ω
     refine Av (Aa (Aa (Af ?_)));exact Az _ ⟨vs,mS,Y,Y,Y,by rw[ct]at hOS;exact hOS⟩ Qs
   ·obtain⟨vs,mS,rfl,rfl,rfl,hOS⟩:=hI;obtain⟨aS,cS,rfl,_⟩:=(hOS.rd (h:=hp) (ms:=[mS]) Mh).rd.ex;refine Bx λh3 l3 k3=>?_;have hRS:=hOS.rdh (ms:=[]) k3;have oS_:=hRS.rd.one
    let ce:Ce:=⟨XQ m x.c,.slice aS (x.c.sd.map λs=>(s.1+m,s.2)).length cS⟩
    have hce:RdL cD 2 h3 [] ce.v ce.c.sd:=hRS;refine Ab (Qf Cr Y (Ql Y Bm (Cell.blk 2 Y Y) (Qx (oG Y Ey AI (Seg.blk 0 Y)) Y (Aw [_,_,_] Y Bm AI Y (by rfl) Y Y ω Y Y Y (λg88=>?_)))));refine Bp 2 hO (RdL.one CP (x:=ce) Mh Y) Y Bm AI Y ω Y Y Y (DC (l:=[ce]) (h:=h3) λy hy=>by rw[ao.1 hy];exact hce) (by(try simp only[ab]);omega) (by(try simp only[ab]);omega) rfl rfl rfl (λv9 m9 hO9=>?_);have ov9:=hO9.o1;refine Qf Cr Y ?_;refine AO 3 _ Y Kx Y Y (by assumption) Y Y (by(simp;done)) rfl rfl ?_;refine Ak (Ai (Ad (Ab (Qm Y (Qx (oA Y) Y (Qm Y (Ak (AZ 0 Y (AZ 0 Y ?_)))))))));exact Al (B.length-(i+1)) _ ω ⟨i+1,v9,m9,O++[ce],Y,Y,AE lh l3,Y,ω,hO9,by rw[bm,hOc,ak hil,bm,bm,hx,bp];rfl,RdC.snoc' (λa ha=>(hOs a ha).up l3) hce⟩ Qs
  ·obtain rfl:i=B.length:=ω
   refine Av (Aa (Aa (Af (Ad (Aq (Qx (oG Y CS A8 (Seg.blk 1 Y)) Y ?_))))));refine Sa 2 [_] A8 Y (by simp[oa,ob,ov]) ?_;refine Am (An (AZ 1 Y ?_));exact BC (vs:=[_]) 1 Y Y CS Y A8 Y Y (⟨AE l1 (AE l2 lh),mO,O,_,Y,Y,hO,⟨m,hm0,hm1,hm,by rw[hOc,ct]⟩,hOs⟩)
variable {o:List Cl}
theorem Et{l:List Cl}(R:Rgt l):FU l=ordF l:=by have F:=R.ordF;refine Rh _ _ (λ_=>nofun) λi hi e=>?_;have:=ax.1 F.inc i (i+1) ω hi ω;omega
theorem Rgt.cs{l:List Ce}(R:Rgt (l.map Ce.c)):CsOk l:=by have hn:=R.n;rw[af]at hn;exact⟨ω,λa ha=>by have:=(R.bds (ad.2 ⟨a,ha,Y⟩)).2;omega⟩
def Yh(o:List Cl)(i j k:Nat):Bool:=(o.take i).any (λy=>y.sd.any λs=>decide (s.1=(o.getD k default).id))||((o.getD i default).sd.take j).any λs=>decide (s.1=(o.getD k default).id)
def Mv(o:List Cl)(i j:Nat):List Bool:=(range o.length).map (Yh o i j)
theorem F9(o:List Cl)(i j:Nat):(Mv o i j).length=o.length:=by simp[Mv]
theorem WW(o:List Cl):Mv o 0 0=List.replicate o.length false:=by unfold Mv;refine dq σ λk h1 h2=>?_;simp[Yh]
theorem YD{i:Nat}(hi:i<o.length):Mv o i o[i].sd.length=Mv o (i+1) 0:=by unfold Mv;refine fc λk hk=>?_;unfold Yh;rw[show o.getD i default=o[i] by simp[List.getD,hi],ct,ak hi,List.any_append];simp
theorem WT(R:RgtF o){i j:Nat}(hi:i<o.length)(hj:j<o[i].sd.length){k:Nat}(hk:JL o o[i].sd[j].1=k):(Mv o i j).set k true=Mv o i (j+1):=by
 have G:=R.rgt;obtain⟨y,hy,e1,_⟩:=G.sid _ (ae hi) _ (ae hj);obtain⟨h1,h2⟩:=H9 R.inc hy;rw[e1,hk]at h1 h2;rw[de]at h2;have hkl:k<o.length:=by have:=IG o o[i].sd[j].1;omega
 refine dq (by rw[e8,F9,F9]) λq hq1 hq2=>?_;have hq:q<o.length:=by rw[F9]at hq2;exact hq2
 have hg:o.getD i default=o[i]:=by simp[List.getD,hi]
 have hT:Yh o i (j+1) q=(Yh o i j q||decide (o[i].sd[j].1=(o.getD q default).id)):=by unfold Yh;rw[hg,ak hj,List.any_append,Bool.or_assoc];simp
 have hr:(Mv o i (j+1))[q]=Yh o i (j+1) q:=by simp[Mv]
 have hl:(Mv o i j)[q]'(by rw[F9];exact hq)=Yh o i j q:=by simp[Mv]
 rw[hr,hT,List.getElem_set];by_cases e:k=q
 ·subst e;rw[ac rfl,h2,e1];simp
 ·rw[aa e,hl];have hne:o[i].sd[j].1≠(o.getD q default).id:=λh=>e (Ml G.nd hkl hq (by rw[h2,e1,h]));rw[aj hne,Bool.or_false]
theorem ZY{k:Nat}(hk:k<o.length):(Mv o o.length 0)[k]'(by rw[F9];exact hk)=o.any λy=>y.sd.any λs=>decide (s.1=o[k].id):=by
 have:(Mv o o.length 0)[k]'(by rw[F9];exact hk)=Yh o o.length 0 k:=by simp[Mv]
 rw[this];unfold Yh;rw[ct,show o.getD k default=o[k] by simp[List.getD,hk]];simp
def Ox(o:List Cl)(x:Cl):Bool:=!(o.any λy=>y.sd.any λs=>decide (s.1=x.id))
theorem Zu(l:List Ce)(v:Value)(hp:Hp)(hK:RgC l)(hR:RdC hp v l):FnT Tryz.prog 47 #[.agg #[v]] hp [] (λr h' ms'=>hp.le h'/\∃m,ms'=[m]/\OwnL cI 1 3 m r (Jo (cn l))):=by
 have o1:=hR.q.rd.one;have hln:=hK.r.n;rw[af]at hln;refine Au func47 ntmps47 Y Y (λw0 hw0=>?_);simp only[A6];refine Aq (AP [_] Y Y (by rfl) Y Y Y (λg1=>Qm Y (Am (Bj 0 Y λh1 l1 hS=>?_))));have hR:=hR.up l1;refine Aq (Qm Y (BM (Qx (oG Y CS A8 (Seg.any hS)) Y (Qc call49 Y (Fa l v h1 hK.r.cs hR) (λrC h2 ms2 l2 hF=>?_)))));obtain⟨l2',mC,A,rfl,hOC,hA,hAs⟩:=hF;rw[Et hK.r]at hA;obtain⟨o,ho⟩:∃o,cn l=o:=⟨_,Y⟩
 have hA:A.map Ce.c=o:=by rw[hA,<-ho];rfl
 have F:RgtF o:=by rw[<-ho];exact hK.F
 have G:=F.rgt;rw[ho];have hAl:A.length=o.length:=by rw[<-hA,af]
 have hol:o.length<=4000:=G.n;have oC:=hOC.o1;refine Qm Y (Am (A9 hOC λh3 l3 hQ=>?_));have hAs:∀a∈A,RdL cD 2 h3 [] a.v a.c.sd:=λa ha=>(hAs a ha).up l3;have l13:=AE l2' l3;have hge:∀i (hi:i<A.length),o[i]'ω=A[i].c:=λi hi=>by subst hA;simp
 refine Aq (Qm Y (Qx (As hQ.rd.any Y Bm Y) Y (CL (n:=_) Y RA Xe Y Y Y (by rfl) (by rfl) ω ω Y Y Y (λg14=>Qm Y (Am ?_)))));have hO5:=S7 g14 A.length ω;rw[hAl,<-WW]at hO5;refine BT ?_;refine Bg (λsl h' ms'=>∃(m5:Hp),sl=[(3,.nl),(4,rC),(5,.slice (some ⟨g14,0,none⟩) A.length A.length)]/\h3=h'/\ms'=[Hp.emp,m5]/\OwnL cB 1 4 m5 (.slice (some ⟨g14,0,none⟩) A.length A.length) (Mv o A.length 0)) ?_ (λs h ms hI=>?_)
 ·refine Ac (Ab (Qm Y (Am (Ag ?_))))
  refine Ay (λq sl h' ms'=>∃(i:Nat) (m5:Hp),q=A.length-i/\sl=[(3,.nl),(4,rC),(5,.slice (some ⟨g14,0,none⟩) A.length A.length),(6,.w i)]/\h3=h'/\ms'=[Hp.emp,m5]/\i<=A.length/\OwnL cB 1 4 m5 (.slice (some ⟨g14,0,none⟩) A.length A.length) (Mv o i 0))
   (A.length-0) _ ⟨0,_,rfl,rfl,rfl,rfl,ω,by rw[hAl];exact hO5⟩ Qs ?_
  rintro q sl h' ms' ⟨i,m5,rfl,rfl,rfl,rfl,hi,hO5⟩;refine Ac (Aq (Qm Y (Qm Y (Qx (As hQ.rd.any Y Bm Y) Y (Qm Y (Am ?_))))));refine Ao Y (λhlt=>?_) (λhlt=>?_)
  ·have hil:i<A.length:=ω
   have hio:i<o.length:=ω
   obtain⟨x,hx⟩:∃x,A[i]=x:=⟨_,Y⟩
   have hxm:x∈A:=by rw[<-hx];exact ae hil
   have hxo:o[i]=x.c:=by rw[hge i hil,hx]
   have hX:=hAs x hxm;have oX:=hX.rd.one;have hxl:x.c.sd.length<=64:=by have:=(F.bds (ae hio)).2.1;rwa [hxo]at this
   have cx:∀ms,Cell h3 ms (((AG rC).add (i*3)).add 2) x.v:=λms=>by rw[<-hx];exact(hQ.any (ms:=ms)).cell (j:=i) hil (f:=2) Y
   refine Ah (Ad (Ac (Ag (Aq (Qm Y (Am (Ag ?_)))))))
   refine Ay (λq sl h' ms'=>∃(j:Nat) (m5:Hp),q=x.c.sd.length-j/\sl=[(3,.nl),(4,rC),(5,.slice (some ⟨g14,0,none⟩) A.length A.length),(6,.w i),(7,.w j)]/\h3=h'/\ms'=[Hp.emp,m5]/\j<=x.c.sd.length/\OwnL cB 1 4 m5 (.slice (some ⟨g14,0,none⟩) A.length A.length) (Mv o i j))
    (x.c.sd.length-0) _ ⟨0,m5,rfl,rfl,rfl,rfl,ω,hO5⟩ Qs ?_
   rintro q sl h' ms' ⟨j,m5,rfl,rfl,rfl,rfl,hj,hO5⟩;refine Ac (Aq (Qm Y (Qm Y (Qm Y (Qx (BN (i) hQ.rd.any Y Bm AI Y Y) Y (Qf BI Y (Ql Y Cf (cx _) (Qx (As hX.rd.any Y Cf Y) Y (Qm Y (Am ?_))))))))));refine Ao Y (λhjl=>?_) (λhjl=>?_)
   ·have hjn:j<x.c.sd.length:=ω
    obtain⟨s,hs⟩:∃s,x.c.sd[j]=s:=⟨_,Y⟩
    have cs:∀ms,Cell h3 ms (((AG x.v).add (j*2)).add 0) (.w s.1):=λms=>by
     have:Seg h3 ms ((AG x.v).add (j*2)) (cD s):=by rw[<-hs];exact(hX.any (ms:=ms)).seg hjn
     exact this 0 _ Y
    obtain⟨y,hy,ey,_⟩:=G.sid _ (ae hio) s (by rw[hxo,<-hs];exact ae hjn);have hat:=(H9 F.inc hy).1;rw[ey]at hat;obtain⟨k,hk⟩:∃k:Nat,JL o s.1=k:=⟨_,(fd hat).symm⟩
    have hko:k<o.length:=by have:=IG o s.1;omega
    have hkM:k<(Mv o i j).length:=by rw[F9];exact hko
    have hmk:=WT F hio (j:=j) (by rw[hxo];exact hjn) (k:=k) (by simp only[hxo,hs];exact hk);refine Ah (Ad (Ac (Ag (Aq (Qm Y (Qm Y (Qm Y (Qx (BN (i) hQ.rd.any Y Bm AI Y Y) Y (Qf BI Y (Ql Y Cf (cx _) (Qm Y (Qx (BN (j) hX.rd.any Y Cf AS Y Y) Y (Qf Cm Y (Ql Y U3 (cs _) ?_))))))))))))));refine Qx (AH Y call117 Y ((by have:=WM A rC s.1 h3 ω (by rw[hA];exact F.inc.imp λh=>Int.le_of_lt h) hQ [Hp.emp,m5];rwa [hA,hk]at this))) rfl ?_;refine Qm Y (BM (Qm Y (Qm Y (Am ?_))));refine Ao Y (λhc=>?_) (λhc=>jt ω hc);refine Ab (Qm Y (Qm Y (Qx (Co (k) Y RA Xe Y Y ω ω) Y (Ca (F:=cB) (f:=λx=>.bool x) (a:=true) 1 k (λ_=>rfl) hO5 Y Xe Y Y Y Y hkM Y Y (λm6 hO6=>?_)))));rw[hmk]at hO6;refine Ak (Ai (Ad (Ab (Qm Y (Qx (oA Y) Y (Qm Y (Ak ?_)))))));exact Al (x.c.sd.length-(j+1)) _ ω ⟨j+1,m6,Y,Y,Y,Y,ω,hO6⟩ Qs
   ·obtain rfl:j=x.c.sd.length:=ω
    refine Av (Aa (Aa (Af (Ai (Ad (Ab (Qm Y (Qx (oA Y) Y (Qm Y (Ak ?_))))))))));exact Al (A.length-(i+1)) _ ω ⟨i+1,m5,Y,Y,Y,Y,ω,by rw[<-YD hio,hxo];exact hO5⟩ Qs
  ·obtain rfl:i=A.length:=ω
   refine Av (Aa (Aa (Af ?_)));exact Az _ ⟨m5,Y,Y,Y,hO5⟩ Qs
 ·obtain⟨m5,rfl,rfl,rfl,hO5⟩:=hI;refine EC 1 Y (Bx λh4 l4 k4=>?_);have hB:=hO5.rdh (ms:=[]) k4;have hQ:=hQ.up l4
  have htk:∀i (hi:i<o.length),((o.take (i+1)).filter (Ox o)).map Cl.id=((o.take i).filter (Ox o)).map Cl.id++if Ox o o[i] then [o[i].id] else []:=λi hi=>by rw[ak hi,filter_append,bm];congr 1;cases h:Ox o o[i]<;>simp[List.filter_cons,h]
  refine Ac (Aq (Qm Y (Am (Ag ?_))))
  refine Ay (λq sl h' ms'=>∃(i:Nat) (v:Value) (m:Hp),q=A.length-i/\sl=[(3,v),(4,rC),(5,.slice (some ⟨g14,0,none⟩) A.length A.length),(9,.w i)]/\h4=h'/\ms'=[m]/\i<=A.length/\OwnL cI 1 3 m v (((o.take i).filter (Ox o)).map Cl.id))
   (A.length-0) _ ⟨0,_,Hp.emp,rfl,rfl,rfl,rfl,ω,OwnL.nil Bi⟩ Qs ?_
  rintro q sl h' ms' ⟨i,v3,m3,rfl,rfl,rfl,rfl,hi,hO3⟩;have ov3:=hO3.o1;refine Ac (Aq (Qm Y (Qm Y (Qx (As hQ.rd.any Y Bm Y) Y (Qm Y (Am ?_))))));refine Ao Y (λhlt=>?_) (λhlt=>?_)
  ·have hil:i<A.length:=ω
   have hio:i<o.length:=ω
   obtain⟨x,hx⟩:∃x,A[i]=x:=⟨_,Y⟩
   have hxo:o[i]=x.c:=by rw[hge i hil,hx]
   have hmi:i<(Mv o A.length 0).length:=by rw[F9];exact hio
   have hmk:(Mv o A.length 0)[i]=!Ox o o[i]:=by have:=ZY hio;unfold Ox;rw[Bool.not_not,<-this];simp only[hAl]
   have cb:∀ms,Cell h4 ms ((AG (.slice (some ⟨g14,0,none⟩) A.length A.length)).add (i*1)) (.bool (!Ox o o[i])):=λms=>by rw[<-hmk];exact(hB.any (ms:=ms)).cell0 hmi Y
   have cx:∀ms,Cell h4 ms (((AG rC).add (i*3)).add 0) (.w x.c.id):=λms=>by rw[<-hx];exact(hQ.any (ms:=ms)).cell (j:=i) hil (f:=0) Y
   have hfl:(((o.take i).filter (Ox o)).map Cl.id).length<=4000:=by rw[af];exact dc (dp _ _) (by rw[av];omega)
   have hk:=htk i hio;refine Ah (Ad (Ac (Ag (Aq (Qm Y (Qm Y (Qx (Co (i) Y RA Xe Y Y ω ω) Y (Ql Y U4 (cb _) (Qm Y (Am ?_))))))))));refine BG Y (λhb=>?_) (λhb=>?_)
   ·rw[Bool.not_not]at hb;rw[hb,ac rfl,hxo]at hk;refine Ab (Qm Y (Qm Y (Qm Y (Qx (BN (i) hQ.rd.any Y Bm AI Y Y) Y (Qf Bq Y (Ql Y U3 (cx _) (Aw [_] Y AN A0 Y (by rfl) Y Y ω Y Y Y (λg64=>AU 1 hO3 (RdL.one Bi (x:=x.c.id) Mh Y) Y AN A0 Y ω Y Y Y B5 (by(try simp only[ab]);omega) (by(try simp only[ab]);omega) rfl rfl rfl (λv9 m9 hO9=>?_)))))))));rw[<-hk]at hO9;have ov9:=hO9.o1;refine Qm Y (Ak (Ai (Ad (Ab (Qm Y (Qx (oA Y) Y (Qm Y (Ak (AX ?_)))))))));exact Al (A.length-(i+1)) _ ω ⟨i+1,v9,m9,Y,Y,Y,Y,ω,hO9⟩ Qs
   ·rw[Bool.not_not]at hb;rw[hb,aa δ,eo]at hk;refine Ah (Ai (Ad (Ab (Qm Y (Qx (oA Y) Y (Qm Y (Ak ?_)))))));exact Al (A.length-(i+1)) _ ω ⟨i+1,v3,m3,Y,Y,Y,Y,ω,by rw[hk];exact hO3⟩ Qs
  ·obtain rfl:i=A.length:=ω
   refine Av (Aa (Aa (Af (Ad (Aq (Qm Y (Qm Y (Am (An ?_)))))))));exact Ap Y Y (⟨AE l1 (AE l2' (AE l3 l4)),m3,Y,by rw[hAl,ct]at hO3;exact hO3⟩)
end
section
theorem Z1{l:List Cl}(R:Rgt l):Gi l=(0,0):=by
 have F:=R.ordF;have hl:=TG l
 have hA:(range l.length).findSome? (Iv (ordF l) (FU l))=none:=CH _ λb hb=>by
  have hb':b<(ordF l).length:=ω
  unfold Iv;rw[Et R,HF hb'];have h1:=F.pos _ (ae hb');rw[aa (λq=>?_),aa (λq=>q (F.fst _ (ae hb')))];rcases q with q|⟨q,e⟩
  ·omega
  ·have:=ax.1 F.inc (b-1) b ω hb' ω;rw[HF (show b-1<(ordF l).length by omega)]at e;omega
 have hB:(range l.length).findSome? (Ky (ordF l))=none:=CH _ λb hb=>by
  have hb':b<(ordF l).length:=ω
  unfold Ky;rw[HF hb'];split
  ·rfl
  ·rw[aa λq=>q (F.snd _ (ae hb') ω)]
 unfold Gi;rw[aa (by have:=R.n;omega),hA,hB];rfl
theorem Rgt.ck{l:List Ce}(R:Rgt (l.map Ce.c)):Ab7 l:=
 ⟨R.cs,λa ha=>by have:=(R.bds (ad.2 ⟨a,ha,Y⟩)).1;omega⟩
theorem QY(l:List Ce)(v:Value)(h:Hp)(hK:RgC l)(hR:RdC h v l):FnT Tryz.prog 69 #[.agg #[v]] h [] (λr _ _=>r=.tuple #[.int .i64 0,.int .i64 0]):=by
 have:=Rw l v h hK.r.ck hR
 rwa [Z1 hK.r]at this
theorem Ni(l:List Ce)(v:Value)(i:Int)(hp:Hp)(hK:RgC l)(hR:RdC hp v l):FnT Tryz.prog 70 #[.agg #[v],.int .i64 i] hp [] (λr h' ms'=>hp.le h'/\∃y:Ce,r=.tuple #[vC y,.bool (MR (cn l) i).isSome]/\y.v.oneCell'=true):=by
 have o1:=hR.q.rd.one;have F:=hK.F;refine Au func70 ntmps70 Y Y (λw0 hw0=>?_);simp only[A6];refine Aq (AP [_] Y Y (by rfl) Y Y Y (λg2=>Cx [.w 0,.w 0,.nl] Y AI Y Y (λg4=>Qm Y (Am (Bj 1 Y λh1 l1 hS=>?_)))));have hR:=hR.up l1;refine Aq (Qx (oG Y CS A8 (Seg.any hS)) Y (Qc call49 Y (Fa l v h1 hK.r.cs hR) (λrA h2 ms2 l2 hF=>?_)));obtain⟨l2',mA,A,rfl,hOA,hA,hsA⟩:=hF;rw[Et hK.r]at hA;have oA_:=hOA.o1;refine Qm Y (Am (A9 hOA λh3 l3 hRA=>?_))
 have hAl:A.length<=100000:=by have:=aw List.length hA;rw[af,Fh,af]at this;have:=hK.r.cs.n;omega
 have hcn:A.map Ce.c=cn l:=hA;have hst:(A.map Ce.c).Pairwise λa b=>a.id<=b.id:=by rw[hcn];exact F.inc.imp λh=>ω
 have hatv:=λms=>WM A rA i h3 hAl hst hRA ms;rw[hcn]at hatv;refine Aq (Qm Y (Qm Y (Qx (AH Y call117 Y (hatv _)) Y (Qm Y (Am (Ac (Aq (Qm Y (Qm Y (Am ?_))))))))));refine Ao Y (λhlt=>?_) (λhlt=>?_)
 ·have hno:(MR (cn l) i).isSome=false:=by
   cases e:(MR (cn l) i) with
   | none=>rfl
   | some y=>
    unfold MR at e;have h1:=gn e;have h2:y.id=i:=by have:=List.find?_some e;simpa using this
    have:=(H9 F.inc h1).1;rw[h2]at this;omega
  refine Aq (Qx (Bb VB [.w 0,.w 0,.nl] [] [_,_,_] Y AI Y Y Qt Y) Y ?_);refine Sa 0 [_,_,_] AI Y (by simp[Value.oneCell']) ?_;refine Qm Y (Am (An (Ae ?_)));exact Ed (vs:=[_,_,_]) 0 Y Y Y Ey Y AI Y Y (⟨AE l1 (AE l2 l3),default,by rw[hno];rfl,rfl⟩)
 ·obtain⟨y,hy,ey,eg⟩:=Si (o:=cn l) (c:=i) ω;have hys:(MR (cn l) i).isSome=true:=by rw[<-ey,DG (Oq F.inc) hy];rfl
  obtain⟨k,hk⟩:∃k:Nat,JL (cn l) i=k:=⟨(JL (cn l) i).toNat,ω⟩
  have hlt':=IG (cn l) i;have hkA:k<A.length:=by rw[<-hcn,af]at hlt';rw[<-hcn]at hk;omega
  obtain⟨x,hx⟩:∃x,A[k]=x:=⟨_,Y⟩
  have hX:=(hsA x (by rw[<-hx];exact ae hkA)).up l3;have ox:=hX.rd.one;have sx:∀ms,Seg h3 ms ((AG rA).add (k*3)) (cC x):=λms=>by rw[<-hx];exact(hRA.any (ms:=ms)).seg hkA
  rw[hk];refine Ah (Ad (Aq (Qm Y (Qm Y (Qx (BN (k) hRA.rd.any Y Bm AI Y Y) Y (Qx (oG Y Ey AI (sx _)) Y ?_))))));refine Sa 0 [_,_,_] AI Y (by simp[o1,oA_,ox]) ?_;refine Qm Y (Am (An ?_));exact Ed (vs:=[_,_,_]) 0 Y Y Y Ey Y AI Y Y (⟨AE l1 (AE l2 l3),x,by rw[hys];rfl,ox⟩)
theorem Ab5{o:List Cl}{F:List (Int×Int)}:(∀j,j<F.length->fA o F j=none)->(F.map Prod.fst).Nodup:=λh=>by
 have:∀i,i<=F.length->((F.take i).map Prod.fst).Nodup:=λi=>by
  induction i with
  | zero=>simp
  | succ i ih=>
   intro hi;have h1:=ih ω;have h2:=h i ω;unfold fA at h2;have hg:F.getD i (0,0)=F[i]:=by simp[List.getD,show i<F.length by omega]
   rw[hg]at h2;split at h2
   ·cases h2
   ·split at h2
    ·cases h2
    ·rename_i h3;rw[ak ω,bm,jh];refine⟨h1,by simp,λa ha b hb e=>h3 ?_⟩;simp only[fl,List.map_nil,ao]at hb;rw[<-hb,<-e];exact ha
 have:=this F.length (au _)
 rwa [ct]at this
theorem RZ(l:List Ce)(F:List (Int×Int))(v vf:Value)(hp:Hp)(hK:RgC l)(hR:RdC hp v l)(hF:RdL cV 2 hp [] vf F)(hV:Ir F):FnT Tryz.prog 25 #[.agg #[v],vf] hp [] (λr _ _=>r=.tuple #[.int .i64 (DN (cn l) F).1,.int .i64 (DN (cn l) F).2]):=by
 have o1:=hR.q.rd.one;have o2:=hF.rd.one;have hG:=hK.F.rgt;have hFn:=hV.n;have hln:l.length<=4000:=by have:=hG.n;rwa [Dg]at this
 refine Au func25 ntmps25 Y Y (λw0 hw0=>?_);simp only[A6];refine Aq (AP [_] Y Y (by rfl) Y Y Y (λg2=>Qm Y (Qm Y (Am (Ax λh1 l1 hS=>?_)))));have hR:=hR.up l1;have hF:=hF.up l1;refine Aq (Qx (oG Y CS A8 (Seg.any hS)) Y (Qx (AH Y call69 Y (DW (QY l v h1 hK hR) _)) Y (Qm Y (Qm Y (Qm Y (Qm Y (Qm Y (Am (Ac (Aq (Qm Y (Qm Y (Am (Ao Y (λhc=>jt hc (λh=>h Y)) (λhc=>Ah (Ad ?_))))))))))))))));refine Bg (λsl h' ms'=>sl=[(1,vf),(2,.pt g2)]/\h1.le h'/\ms'=[]/\∀j,j<F.length->fA (cn l) F j=none) ?_ (λs h ms hI=>?_)
 ·refine Ac (Ab (Qm Y (Am (Ag ?_))))
  refine Ay (λq sl h' ms'=>∃(i:Nat),q=F.length-i/\sl=[(1,vf),(2,.pt g2),(8,.w i)]/\h1.le h'/\ms'=[]/\i<=F.length/\∀j,j<i->fA (cn l) F j=none)
   (F.length-0) _ ⟨0,rfl,rfl,Da,rfl,ω,λj h=>ω⟩ Qs ?_
  rintro q sl h2 ms' ⟨i,rfl,rfl,l2,rfl,hi,hno⟩;have hF:=hF.up l2;have hR:=hR.up l2;have hS2:=hS.le l2;refine Ac (Aq (Qm Y (Qm Y (Qx (As hF.rd.any Y OU Y) Y (Qm Y (Am ?_))))));refine Ao Y (λhlt=>?_) (λhlt=>?_)
  ·have hil:i<F.length:=ω
   obtain⟨p,hp⟩:∃p,F[i]=p:=⟨_,Y⟩
   have hgp:F.getD i (0,0)=p:=by simp[List.getD,hil,hp]
   have c0:∀h',h2.le h'->∀ms,Cell h' ms (((AG vf).add (i*2)).add 0) (.w p.1):=λh' l' ms=>by rw[<-hp];exact((hF.up l').any (ms:=ms)).cell hil (f:=0) Y
   obtain⟨bb,hbb⟩:∃bb,(MR (cn l) p.1).isSome=bb:=⟨_,Y⟩
   refine Ah (Ad (Ac (Ag ?_)));refine Bg (λsl h' ms'=>sl=[(1,vf),(2,.pt g2),(8,.w i),(10,.bool bb)]/\h2.le h'/\ms'=[]) ?_ (λs h ms hI=>?_)
   ·refine BK (n:=13) (bs:=[true,true,true,true,true,true,false,false,false,false,false,false,false]) [true,true,true,true,true,true] CT κ κ Y Y (Qp Y (oG Y CS A8 (Seg.any hS2)) (Qq Y (Qq Y (Qp Y (BN (i) hF.rd.any Y OU Fv Y Y) (QF FW Y (QL Y U3 (c0 _ (Da) _) ?_))))));unfold Fm;simp only[List.cons_append,ay];refine Bf [6,10] κ Y ?_;refine AD Y ?_ ?_
    ·refine Qc call70 Y (Ni l v p.1 _ hK hR) (λrF h4 ms4 l4 hQ=>?_);obtain⟨l4',y,rfl,oy⟩:=hQ;refine E1 ?_ ms4;rw[hbb];refine Qa (Bd 7 38 κ Y (by assumption) Y (Ar Y Y) (Bd 8 46 κ Y (by assumption) Y (BX Y Y Y) (Bd 9 47 κ Y (by assumption) Y (BX Y Y Y) (Qo 10 Y (Cx [.w 0,.w 0,.nl] Y AI Y Y (λg9=>Qa (Qo 11 Y ?_)))))));refine Sa 0 [_,_,_] AI Y (by simp[o1,o2,oy]) ?_;refine Qa (Qo 12 Y (Qm Y (Qa (Qe (AX ?_)))));exact Az _ ⟨Y,l4',Y⟩ Qs
    refine AD Y ?_ ?_
    ·refine Cx [.w 0,.w 0,.nl] Y AI Y Y (λg9=>Qw (Qo 6 Y (Qc call70 Y (Ni l v p.1 _ hK hR) (λrF h4 ms4 l4 hQ=>?_))));obtain⟨l4',y,rfl,oy⟩:=hQ;refine E1 ?_ ms4;rw[hbb];refine Qa (Bd 7 38 κ Y (by assumption) Y (Ar Y Y) (Bd 8 46 κ Y (by assumption) Y (BX Y Y Y) (Bd 9 47 κ Y (by assumption) Y (BX Y Y Y) (Qo 11 Y ?_))));refine Sa 0 [_,_,_] AI Y (by simp[o1,o2,oy]) ?_;refine Qa (Qo 12 Y (Qm Y (Qa (Qe (AX ?_)))));exact Az _ ⟨Y,l4',Y⟩ Qs
    exact Be
   ·obtain⟨rfl,l3,rfl⟩:=hI;have hF:=hF.up l3;have hR:=hR.up l3;have l23:=AE l2 l3;have c0:=c0 _ l3;refine Ac (Aq (Qm Y (Qm Y (Am ?_))));refine BG Y (λhn=>?_) (λhn=>?_)
    ·have hbf:bb=false:=by cases bb<;>simp at hn ⊢
     have hch:=NR (o:=cn l) hil hno (by unfold fA;rw[hgp,hbb,ac hbf]);refine Aq (Qm Y (Qm Y (Qx (BN (i) hF.rd.any Y OU Fv Y Y) Y (Qf FW Y (Ql Y U3 (c0 _) (Qm Y (Qm Y (Am (An (Ae (Aj (Ae (Ae (Aj (Ae ?_)))))))))))))));exact BE Y Y Y (by rw[hch])
    ·have hbt:¬bb=false:=by cases bb<;>simp at hn ⊢
     have hTk:RdL cV 2 h [] (Cj 2 vf 0 i) (F.take i):=by have:=hF.sub_ (i:=0) (j:=i) ω hi;rwa [List.drop_zero,Nat.sub_zero]at this
     have hval:=Gq (F.take i) (Cj 2 vf 0 i) p.1 h hTk;rw[PG]at hval;refine Ah (Ad (Ac (Bc 13 CT κ Y (Wm Y (Wm Y (AM (Fk _ hF.rd.any Y OU Fv Y Y Y ω) Y Y (Wm Y (Wm Y (AM (BN (i) hF.rd.any Y OU Fv Y Y) Y Y (Wf FW Y (Wl Y U3 (c0 _) (AM (AH Y call71 Y (hval _)) Y Y (Wm Y (Wm Y (Wm Y (Wm Y (A7 (Qm Y (BM (Qm Y (Am ?_)))))))))))))))))))));refine BG Y (λhin=>?_) (λhin=>?_)
     ·have him:p.1∈(F.take i).map Prod.fst:=bz hin;have hch:=NR (o:=cn l) hil hno (by unfold fA;rw[hgp,hbb,aa hbt,ac him]);refine Aq (Qm Y (Qm Y (Qx (BN (i) hF.rd.any Y OU Fv Y Y) Y (Qf FW Y (Ql Y U3 (c0 _) (Qm Y (Qm Y (Am (An (Aj (Ae (Ae (Aj (Ae ?_))))))))))))));exact BE Y Y Y (by rw[hch])
     ·have him:p.1 ∉ (F.take i).map Prod.fst:=λq=>by rw[ai q]at hin;cases hin
      have hci:fA (cn l) F i=none:=by unfold fA;rw[hgp,hbb,aa hbt,aa him]
      refine Ah (Ai (Ad (Ab (Qm Y (Qx (oA Y) Y (Qm Y (Ak ?_)))))))
      exact Al (F.length-(i+1)) _ ω ⟨i+1,Y,Y,l23,Y,ω,λj hj=>by
       rcases (ω:j<i\/j=i) with h1|rfl
       ·exact hno j h1
       ·exact hci⟩ Qs
  ·obtain rfl:i=F.length:=ω
   refine Av (Aa (Aa (Af ?_)));exact Az _ ⟨Y,l2,Y,hno⟩ Qs
 ·obtain⟨rfl,l2,rfl,hno⟩:=hI;have hR:=hR.up l2;have hF:=hF.up l2;have hS2:=hS.le l2;have hfn:=Ab5 hno;refine Aq (Qx (oG Y CS A8 (Seg.any hS2)) Y (Qc call49 Y (Fa l v _ hK.r.cs hR) (λrA h3 ms3 l3 hQ=>?_)));obtain⟨l3',mA,A,rfl,hOA,hA,hsA⟩:=hQ;rw[Et hK.r]at hA;have hcn:A.map Ce.c=cn l:=hA;refine Qm Y (Am (A9 hOA λh4 l4 hQ=>?_));have hsA:=λa ha=>(hsA a ha).up l4;have hF:=hF.up (AE l3 l4);have oA_:=hQ.rd.one;have hol:(cn l).length=A.length:=by rw[<-hcn,af]
  have hAn:A.length<=4000:=by rw[<-hol,Dg];exact hln
  have hget:∀i (hi:i<A.length),(cn l).getD i default=A[i].c:=λi hi=>by rw[<-hcn];simp[List.getD,hi]
  have hAs:∀a∈A,a.c.sd.length<=64:=λa ha=>by
   have h1:a.c∈cn l:=by rw[<-hcn];exact ad.2 ⟨a,ha,Y⟩
   exact(hK.F.bds h1).2.1
  obtain⟨o,ho⟩:∃o,cn l=o:=⟨_,Y⟩
  rw[ho]at hol hno hget ⊢;have hvv:=λc=>Gq F vf c h4 hF;refine Bg (λsl h' ms'=>sl=[(1,vf),(13,rA)]/\h4=h'/\ms'=[]/\∀j,j<A.length->fB o F j=none) ?_ (λs h ms hI=>?_)
  ·refine Ac (Ab (Qm Y (Am (Ag ?_))))
   refine Ay (λq sl h' ms'=>∃(i:Nat),q=A.length-i/\sl=[(1,vf),(13,rA),(14,.w i)]/\h4=h'/\ms'=[]/\i<=A.length/\∀j,j<i->fB o F j=none)
    (A.length-0) _ ⟨0,rfl,rfl,rfl,rfl,ω,λj h=>ω⟩ Qs ?_
   rintro q sl h' ms' ⟨i,rfl,rfl,rfl,rfl,hi,hnB⟩;refine Ac (Aq (Qm Y (Qm Y (Qx (As hQ.rd.any Y Bm Y) Y (Qm Y (Am ?_))))));refine Ao Y (λhlt=>?_) (λhlt=>?_)
   ·have hil:i<A.length:=ω
    have hgx:=hget i hil;have c0:∀ms,Cell h4 ms (((AG rA).add (i*3)).add 0) (.w A[i].c.id):=λms=>(hQ.any (ms:=ms)).cell hil (f:=0) Y;have hvi:=hvv A[i].c.id;rw[PG]at hvi;refine Ah (Ad (Ac (Ag (Aq (Qm Y (Qm Y (Qm Y (Qx (BN (i) hQ.rd.any Y Bm AI Y Y) Y (Qf Bq Y (Ql Y U3 (c0 _) (Qx (AH Y call71 Y (hvi _)) Y (Qm Y (Qm Y (Qm Y (Qm Y (Qm Y (BM (Qm Y (Qm Y (Am ?_))))))))))))))))))));refine BG Y (λhin=>?_) (λhin=>?_)
    ·have hni:A[i].c.id ∉ F.map Prod.fst:=λq=>by rw[ai q]at hin;cases hin
     have hch:=XA (o:=o) (F:=F) hno (by rw[hol];exact hil) hnB (by unfold fB;rw[hgx,ac hni]);refine Aq (Qm Y (Qm Y (Qx (BN (i) hQ.rd.any Y Bm AI Y Y) Y (Qf Bq Y (Ql Y U3 (c0 _) (Qm Y (Qm Y (Am (An (Aj (Ae (Ae (Aj (Ae ?_))))))))))))));exact BE Y Y Y (by rw[hch])
    ·have hni:A[i].c.id∈F.map Prod.fst:=bc λq=>by rw[aj q]at hin;cases hin
     have hci:fB o F i=none:=by unfold fB;rw[hgx,aa λq=>q hni]
     refine Ah (Ai (Ad (Ab (Qm Y (Qx (oA Y) Y (Qm Y (Ak ?_)))))))
     exact Al (A.length-(i+1)) _ ω ⟨i+1,Y,Y,Y,Y,ω,λj hj=>by
      rcases (ω:j<i\/j=i) with h1|rfl
      ·exact hnB j h1
      ·exact hci⟩ Qs
   ·obtain rfl:i=A.length:=ω
    refine Av (Aa (Aa (Af ?_)));exact Az _ ⟨Y,Y,Y,hnB⟩ Qs
  ·obtain⟨rfl,rfl,rfl,hnB⟩:=hI;refine Ac (Aq (Qm Y (Am (Ag ?_))))
   refine Ay (λq sl h' ms'=>∃(i:Nat),q=A.length-i/\sl=[(1,vf),(13,rA),(17,.w i)]/\h4=h'/\ms'=[]/\i<=A.length/\∀j,j<i->fC o F j=none)
    (A.length-0) _ ⟨0,rfl,rfl,rfl,rfl,ω,λj h=>ω⟩ Qs ?_
   rintro q sl h' ms' ⟨i,rfl,rfl,rfl,rfl,hi,hnC⟩;refine Ac (Aq (Qm Y (Qm Y (Qx (As hQ.rd.any Y Bm Y) Y (Qm Y (Am ?_))))));refine Ao Y (λhlt=>?_) (λhlt=>?_)
   ·have hil:i<A.length:=ω
    obtain⟨x,hx⟩:∃x,A[i]=x:=⟨_,Y⟩
    have hxm:x∈A:=by rw[<-hx];exact ae hil
    have hgx:=hget i hil;rw[hx]at hgx;have hX:=hsA x hxm;have ox:=hX.rd.one;have hxs:=hAs x hxm;have c0:∀ms,Cell h4 ms (((AG rA).add (i*3)).add 0) (.w x.c.id):=λms=>by rw[<-hx];exact(hQ.any (ms:=ms)).cell hil (f:=0) Y
    have c2:∀ms,Cell h4 ms (((AG rA).add (i*3)).add 2) x.v:=λms=>by rw[<-hx];exact(hQ.any (ms:=ms)).cell hil (f:=2) Y
    have hvi:=hvv x.c.id;rw[Hq hfn]at hvi;obtain⟨w0,hw0⟩:∃w0,He F x.c.id=w0:=⟨_,Y⟩
    obtain⟨b0,hb0⟩:∃b0,(JB F x.c.id).isSome=b0:=⟨_,Y⟩
    rw[hw0,hb0]at hvi;refine Ah (Ad (Ac (Ag (Aq (Qm Y (Qm Y (Qm Y (Qx (BN (i) hQ.rd.any Y Bm AI Y Y) Y (Qf Bq Y (Ql Y U3 (c0 _) (Qx (AH Y call71 Y (hvi _)) Y (Qm Y (Qm Y (Qm Y (Qm Y (Qm Y (BM (Qm Y (Am (Ag ?_))))))))))))))))))))
    refine Ay (λq sl h' ms'=>∃(k:Nat),q=x.c.sd.length-k/\sl=[(1,vf),(13,rA),(17,.w i),(18,.w w0),(20,.w k)]/\h4=h'/\ms'=[]/\k<=x.c.sd.length/\∀j (hj:j<x.c.sd.length),j<k->¬He F x.c.sd[j].1>w0)
     (x.c.sd.length-0) _ ⟨0,rfl,rfl,rfl,rfl,ω,λj _ h=>ω⟩ Qs ?_
    rintro q sl h' ms' ⟨k,rfl,rfl,rfl,rfl,hk,hnD⟩;refine Ac (Aq (Qm Y (Qm Y (Qm Y (Qx (BN (i) hQ.rd.any Y Bm AI Y Y) Y (Qf BI Y (Ql Y Cf (c2 _) (Qx (As hX.rd.any Y Cf Y) Y (Qm Y (Am ?_))))))))));refine Ao Y (λhlt2=>?_) (λhlt2=>?_)
    ·have hkl:k<x.c.sd.length:=ω
     obtain⟨s,hs⟩:∃s,x.c.sd[k]=s:=⟨_,Y⟩
     have d0:∀ms,Cell h4 ms (((AG x.v).add (k*2)).add 0) (.w s.1):=λms=>by rw[<-hs];exact(hX.any (ms:=ms)).cell hkl (f:=0) Y
     have hvs:=hvv s.1;rw[Hq hfn]at hvs;refine Ah (Ad (Ac (Ag (Aq (Qm Y (Qm Y (Qm Y (Qx (BN (i) hQ.rd.any Y Bm AI Y Y) Y (Qf BI Y (Ql Y Cf (c2 _) (Qm Y (Qx (BN (k) hX.rd.any Y Cf AS Y Y) Y (Qf Cm Y (Ql Y U3 (d0 _) (Qx (AH Y call71 Y (hvs _)) Y (Qm Y (Qm Y (Qm Y (Qm Y (Qm Y (BM (Qm Y (Qm Y (Qm Y (Am ?_)))))))))))))))))))))))));refine Ao Y (λhgt=>?_) (λhgt=>?_)
     ·have hup:upS o F i:=by unfold upS;rw[hgx];exact⟨s,by rw[<-hs];exact ae hkl,by rw[hw0];exact hgt⟩
      have hch:=Wq (o:=o) (F:=F) hno (by rw[hol];exact hnB) (by rw[hol];exact hil) hnC (by unfold fC;rw[hgx,ac hup]);refine Aq (Qm Y (Qm Y (Qx (BN (i) hQ.rd.any Y Bm AI Y Y) Y (Qf Bq Y (Ql Y U3 (c0 _) (Qm Y (Qm Y (Am (An (Aj (Ae (Ae (Aj (Aj (Ae (Ae (Aj (Ae ?_))))))))))))))))));exact BE Y Y Y (by rw[hch])
     ·refine Ah (Ai (Ad (Ab (Qm Y (Qx (oA Y) Y (Qm Y (Ak ?_)))))))
      exact Al (x.c.sd.length-(k+1)) _ ω ⟨k+1,Y,Y,Y,Y,ω,λj hj hjk=>by
       rcases (ω:j<k\/j=k) with h1|rfl
       ·exact hnD j hj h1
       ·rw[hs];exact hgt⟩ Qs
    ·obtain rfl:k=x.c.sd.length:=ω
     have hci:fC o F i=none:=by unfold fC;rw[aa λq=>?_];unfold upS at q;rw[hgx]at q;obtain⟨s,hs,hgt⟩:=q;obtain⟨j,hj,rfl⟩:=df hs;rw[hw0]at hgt;exact hnD j hj hj hgt
     refine Av (Aa (Aa (Af (Ai (Ad (Ab (Qm Y (Qx (oA Y) Y (Qm Y (Ak ?_))))))))))
     exact Al (A.length-(i+1)) _ ω ⟨i+1,Y,Y,Y,Y,ω,λj hj=>by
      rcases (ω:j<i\/j=i) with h1|rfl
      ·exact hnC j h1
      ·exact hci⟩ Qs
   ·obtain rfl:i=A.length:=ω
    have hch:=R5 (o:=o) (F:=F) hno (by rw[hol];exact hnB) (by rw[hol];exact hnC);refine Av (Aa (Aa (Af (Ad (Aq (Qm Y (Qm Y (Am (An ?_)))))))));exact BE Y Y Y (by rw[hch])
open Go.Lin Go.Sort Go.Srt
variable {h m:Hp} {ms:List Hp} {v:Value} {d:Array CeI}
theorem AbD{l:List CeI}(R:RdL cC 3 h ms v (l.map CeI.ce)):RdL Kt 3 h ms v l:=by have h1:=R.rd;rw[RB,af]at h1;exact⟨h1,Ee⟩
abbrev OSI(m:Hp)(v:Value)(d:Array CeI):Prop:=OwnL Kt 3 52 m v d.toList
theorem OSI.rd(O:OSI m v d)(hm:m∈ms):Rd h ms v 3 d.size (d.toList.flatMap Kt):=by have:=(OwnL.rd O hm (h:=h)).rd;rwa [gq]at this
theorem OSI.get(O:OSI m v d)(hm:m∈ms){j:Nat}(hj:j<d.size):Seg h ms ((AG v).add (j*3)) (Kt d[j]!):=by have:=(OwnL.rd O hm (h:=h)).seg (j:=j) (by simpa using hj);simpa[hj] using this
theorem LJ{e:Entry}{Q:Exit->Act->World->Prop}{ops:Array Oper}{rest:List Oper}{o:Oper}{s:AF}{t:TypeId}{x y:Operand}{u z:Value}{bytes:Nat}(i j:Nat)(a:CeI)(O:OSI m v d)(ho:o.op=.store t x y)(hs:Elem e.P t 3 z bytes)(hx:ev s x=some (.pointer (some ((AG v).add (j*3)))))(hy:ev s y=some u)(hv:u.cells=(Kt a).toArray)
  (hm:ms[i]?=some m) (hj:j<d.size) (hd:o.dst=none) (hg:o.guard=none)
  (K:∀m',(d.setIfInBounds j a).size=d.size->OSI m' v (d.setIfInBounds j a)->WL e ops Q rest s h (ms.set i m')):WL e ops Q (o::rest) s h ms:=
 FX i j a O ho hs hx hy hv (Oz a) hm (by simpa using hj) hd hg λm' O'=>K m' σ (by
  show OwnL Kt 3 52 m' v (d.setIfInBounds j a).toList
  rw[Array.toList_setIfInBounds];exact O')
theorem R9(F:List (Int×Int))(vf:Value)(x y:CeI)(h:Hp)(hF:RdL cV 2 h [] vf F)(hn:(F.map Prod.fst).Nodup)(ms:List Hp):FnV Tryz.prog 179 #[vf,.agg (Kt x).toArray,.agg (Kt y).toArray] h ms (.bool (ltOf (L6 (CN (Bn F))) x y)):=by
 refine DW ?_ ms;have o1:=hF.rd.one;have o2:=x.one;have o3:=y.one;have hx:=Hq hn x.c.id;have hy:=Hq hn y.c.id;have hlt:=JA (CN (Bn F)) x y;change _=CN (Bn F) x.c.id at hx;change _=CN (Bn F) y.c.id at hy;show FnT _ _ #[vf,.agg #[.w x.c.id,.w x.c.dim,x.v],.agg #[.w y.c.id,.w y.c.dim,y.v]] _ _ _;refine Au func179 ntmps179 Y Y (λw0 hw0=>?_);simp only[A6];refine Aq (AP [_,_,_] Y Y (by rfl) Y Y Y (λg4=>AP [_,_,_] Y Y (by rfl) Y Y Y (λg5=>Qm Y (Am (Ax λh1 l1 hG5=>(Ax λh2 l2 hG4=>?_))))));have hF:=hF.up (AE l1 l2);have x0:∀ms,Cell h2 ms (⟨g4,0,none⟩:Addr) (.w x.c.id):=λms=>Seg.all hG4 0 _ Y ms;have x1:∀ms,Cell h2 ms (⟨g4,1,none⟩:Addr) (.w x.c.dim):=λms=>Seg.all hG4 1 _ Y ms;have y0:∀ms,Cell h2 ms (⟨g5,0,none⟩:Addr) (.w y.c.id):=λms=>(Seg.all hG5 0 _ Y ms).le l2;have y1:∀ms,Cell h2 ms (⟨g5,1,none⟩:Addr) (.w y.c.dim):=λms=>(Seg.all hG5 1 _ Y ms).le l2;have vx:=Gq F vf x.c.id h2 hF;have vy:=Gq F vf y.c.id h2 hF;rw[hx]at vx;rw[hy]at vy;generalize CN (Bn F) x.c.id=fx at *;generalize CN (Bn F) y.c.id=fy at *;refine Aq (Qm Y (Qf Bq Y (Ql Y U3 (x0 _) (Qx (AH Y call71 Y (vx _)) Y (Qm Y (Qm Y (Qm Y (Qm Y (Qm Y (BM (Qm Y (Qf Bq Y (Ql Y U3 (y0 _) (Qx (AH Y call71 Y (vy _)) Y (Qm Y (Qm Y (Qm Y (Qm Y (Qm Y (Am (Ac (Aq (Qm Y (Qm Y (Qm Y (Am ?_))))))))))))))))))))))))));refine Ao Y (λhne=>?_) (λhne=>?_)
 ·refine Ac (Ab (Qm Y (Qm Y (Qm Y (Qm Y (Am (An (Ae ?_))))))));exact Ap Y Y (by unfold ltOf;congr 1;rw[ft,hlt];omega)
 ·refine Ah (Ad (Ac (Aq (Qf BZ Y (Ql Y U3 (x1 _) (Qf BZ Y (Ql Y U3 (y1 _) (Qm Y (Am ?_)))))))));refine Ao Y (λhd=>?_) (λhd=>?_)
  ·refine Ac (Ab (Qf BZ Y (Ql Y U3 (x1 _) (Qf BZ Y (Ql Y U3 (y1 _) (Qm Y (Qm Y (Am (An (Ae ?_))))))))));exact Ap Y Y (by unfold ltOf;congr 1;rw[ft,hlt];omega)
  ·refine Ah (Ad (Aq (Qf Bq Y (Ql Y U3 (x0 _) (Qf Bq Y (Ql Y U3 (y0 _) (Qm Y (Qm Y (Am (An ?_))))))))));exact Ap Y Y (by unfold ltOf;congr 1;rw[ft,hlt];omega)
theorem GS(l:List Ce)(F:List (Int×Int))(v vf:Value)(hp:Hp)(hK:RgC l)(hR:RdC hp v l)(hF:RdL cV 2 hp [] vf F)(hn:(F.map Prod.fst).Nodup):FnT Tryz.prog 122 #[.agg #[v],vf] hp [] (λr h' ms'=>hp.le h'/\∃(m:Hp) (S:List Ce),ms'=[m]/\OwnL cC 3 52 m r S/\(S.map Ce.c).Perm (cn l)/\Ma (CN (Bn F)) S/\∀a∈S,RdL cD 2 h' [] a.v a.c.sd):=by
 have o1:=hR.q.rd.one;have o2:=hF.rd.one;have hG:=hK.F.rgt;have hln:l.length<=4000:=by have:=hG.n;rwa [Dg]at this
 refine Au func122 ntmps122 rfl rfl (λw0 hw0=>?_);simp only[A6];refine Aq (AP [_] rfl rfl (by rfl) rfl rfl rfl (λg2=>Qm rfl (Am (Ax λh1 l1 hS=>?_))));have hR:=hR.up l1;have hF:=hF.up l1;refine Aq ?_;refine AB [] [] [] rfl Bm AI rfl ω κ (by repeat (first|exact ff|refine⟨⟨by first|rfl|exact Rd.cells ‹_›|exact(RdL.rd ‹_›).cells,rfl,rfl⟩,?_⟩)) rfl rfl rfl rfl (λg10=>?_);refine Qx (oG rfl CS A8 (Seg.any hS)) rfl (Qc call49 rfl (Fa l v h1 hK.r.cs hR) (λrA h2 ms2 l2 hQ=>?_));obtain⟨l2',mA,A,rfl,hOA,hA,hsA⟩:=hQ;rw[Et hK.r]at hA;have hcn:A.map Ce.c=cn l:=hA;refine Ba hOA λh3 l3 hQ=>?_;have hsA:=λa ha=>(hsA a ha).up l3;have hF:=hF.up (AE l2 l3);have oA_:=hQ.rd.one;have hA4:A.length<=4000:=by rw[<-Dg l,<-hcn,af]at hln;exact hln
 have hAI:∀a∈A,a.v.oneCell'=true/\BS a.c.id:=λa ha=>⟨(hsA a ha).rd.one,by
  have h1:a.c∈cn l:=by rw[<-hcn];exact ad.2 ⟨a,ha,Y⟩
  have h2:=hG.pos _ h1;have h3:=hK.ci h1
  unfold BS;omega⟩
 obtain⟨lo,hlo⟩:=RO A hAI;rw[<-hlo]at hQ;have hQ:=AbD hQ;have hl4:lo.length<=4000:=by rw[<-hlo,af]at hA4;exact hA4
 refine AU 0 (DK g10 Ee) hQ.any Y Bm AI Y ω Y Y Y Oz (by simp;omega) (by simp;omega) rfl rfl rfl (λv5 m5 hO5=>?_);rw[ay]at hO5;have ov5:=hO5.o1;obtain⟨d,hd⟩:∃d:Array CeI,d.toList=lo:=⟨lo.toArray,Y⟩
 have hds:d.size=lo.length:=by rw[<-hd,gq]
 have hO:OSI m5 v5 d:=by show OwnL Kt 3 _ m5 v5 d.toList;rw[hd];exact hO5
 have hfin:=insertionSort_holds (lt:=ltOf (L6 (CN (Bn F)))) (Pb _) d 0 d.size (Nat.zero_le _) (au _);have hbv:=λx y ms=>R9 F vf x y h3 hF hn ms;generalize hlt:ltOf (L6 (CN (Bn F)))=lt at hfin hbv;refine Qm Y (Am (Ac (Aq (Qm Y (Am (Ag ?_))))))
 refine Ay (λq s h' ms'=>∃(i:Nat) (d':Array CeI) (m:Hp),q=d.size-i/\s=[(1,vf),(5,v5),(6,.w i)]/\h3=h'/\ms'=[m]/\0<i/\i<=4001/\OSI m v5 d'/\d'.size=d.size/\insOuter lt 0 d.size i d'=insertionSort lt d 0 d.size)
  _ _ ⟨1,d,m5,rfl,rfl,rfl,rfl,ω,ω,hO,rfl,rfl⟩ Qs ?_
 rintro q s h' ms' ⟨i,d',m,rfl,rfl,rfl,rfl,hi0,hi,hO,hds',hR1⟩;refine Ac (Aq (Qm Y (Qm Y (Qx (As (OSI.rd hO (.head _)) Y Bm Y) Y (Qm Y (Am ?_))))));refine Ao Y (λhil=>?_) (λhil=>?_)
 ·refine Ah (Ad (Ac (Ag (Aq (Qm Y (Qm Y (Am (Ag ?_))))))))
  refine Ay (λq s h' ms'=>∃(j:Nat) (y:Int) (d':Array CeI) (m:Hp),j=q/\s=[(1,vf),(5,v5),(6,.w i),(7,.w y)]/\h3=h'/\ms'=[m]/\y=j/\j<=i/\OSI m v5 d'/\d'.size=d.size/\insOuter lt 0 d.size (i+1) (insInner lt 0 j d')=insertionSort lt d 0 d.size)
   _ _ ⟨i,(i:Int),d',m,rfl,rfl,rfl,rfl,rfl,ω,hO,hds',by rw[<-hR1];conv=>rhs;unfold insOuter;rw[ac ω]⟩ Qs ?_
  rintro q s h' ms' ⟨j,y,d1,m1,rfl,rfl,rfl,rfl,hy,hji,hO1,hds1,hR2⟩;refine Ac (Aq (Qm Y (Qm Y (Am ?_))));refine Ao Y (λhj0=>?_) (λhj0=>?_)
  ·have hjd:j<d1.size:=ω
   have g1:∀ms,m1∈ms->Seg h3 ms ((AG v5).add (j*3)) (Kt d1[j]!):=λms hm=>hO1.get hm hjd;have g2:∀ms,m1∈ms->Seg h3 ms ((AG v5).add ((j-1)*3)) (Kt d1[j-1]!):=λms hm=>hO1.get hm ω;have ox1:=d1[j]!.one;have ox2:=d1[j-1]!.one;refine Ah (Ad (Ac (Ag (Ac (Bc 10 CT κ Y (Wm Y (Wm Y (Wm Y (AM (AA (j) (OSI.rd hO1 (.head _)) Y Bm AI Y Y ω ω) Y Y (AM (oG Y Ey AI (g1 _ (.head _))) Y Y (Wm Y (Wm Y (AM (oS Y) Y Y (AM (AA (j-1) (OSI.rd hO1 (.head _)) Y Bm AI Y Y ω ω) Y Y (AM (oG Y Ey AI (g2 _ (.head _))) Y Y (A7 (Qx (AH Y call179 Y (hbv d1[j]! d1[j-1]! _)) Y (Qm Y (Am (Ac (Aq (Qm Y (Qm Y (Am ?_))))))))))))))))))))))));refine BG Y (λhl=>?_) (λhl=>?_)
   ·refine Av (Aa (EE Y (Aa (Aa (Af (Ai (Ad (Ab (Qm Y (Qx (oA Y) Y (Qm Y (Ak ?_))))))))))));refine Al (d.size-(i+1)) _ ω ⟨i+1,d1,m1,Y,Y,Y,Y,ω,ω,hO1,hds1,?_⟩ Qs;rw[<-hR2];obtain⟨j',rfl⟩:∃j',j=j'+1:=⟨j-1,ω⟩
    conv=>rhs;unfold insInner
    rw[aa (by rw[bo];rintro⟨_,h2⟩;rw[show j'+1-1=j' by omega]at hl;rw[h2]at hl;cases hl)]
   ·have hl':lt d1[j]! d1[j-1]! = true:=by cases e:lt d1[j]! d1[j-1]! with|true=>rfl|false=>rw[e]at hl;cases hl
    refine Ah (Ad (Aq (Qm Y (Qm Y (Qx (AA (j) (OSI.rd hO1 (.head _)) Y Bm AI Y Y ω ω) Y (Qx (oG Y Ey AI (g1 _ (.head _))) Y (Cx [.w 0,.w 0,.nl] Y AI Y Y (λg9=>?_))))))));refine Sa 0 [_,_,_] AI Y (by simp[o1,o2,oA_,ov5,ox1,ox2]) ?_;refine Am ?_;have g2:∀ms,m1∈ms->Seg h3 ms ((AG v5).add ((j-1)*3)) (Kt d1[j-1]!):=λms hm=>hO1.get hm ω;refine Aq (Qm Y (Qm Y (Qm Y (Qm Y (Qx (oS Y) Y (Qx (AA (j-1) (OSI.rd hO1 (.tail _ (.head _))) Y Bm AI Y Y ω ω) Y (Qx (oG Y Ey AI (g2 _ (.tail _ (.head _)))) Y (Qx (AA (j) (OSI.rd hO1 (.tail _ (.head _))) Y Bm AI Y Y ω ω) Y (LJ 1 j d1[j-1]! hO1 Y AI Y Y Y Y hjd Y Y (λm2 hs2 hO2=>Gl (Qm Y (Qm Y (Qx (oS Y) Y (Qx (oG Y Ey AI (Seg.blk 0 Y)) Y (Qx (AA (j-1) (OSI.rd hO2 (.tail _ (.head _))) Y Bm AI Y Y ω ω) Y (LJ 1 (j-1) d1[j]! hO2 Y AI Y Y Y Y ω Y Y (λm3 hs3 hO3=>Ak (Ai (Ad (Ab (Qm Y (Qx (oS Y) Y (Qm Y (Ak ?_))))))))))))))))))))))));obtain⟨j',rfl⟩:∃j',j=j'+1:=⟨j-1,ω⟩
    refine AX ?_;refine Al j' _ ω ⟨j',y-1,_,m3,Y,Y,Y,Y,ω,ω,hO3,by rw[hs3,hs2,hds1],?_⟩ Qs;rw[<-hR2]
    conv=>rhs;unfold insInner
    rw[ac (by rw[bo];exact⟨ai ω,hl'⟩)];rfl
  ·refine Av (Aa (Aa (Af (Ai (Ad (Ab (Qm Y (Qx (oA Y) Y (Qm Y (Ak ?_))))))))));refine Al (d.size-(i+1)) _ ω ⟨i+1,d1,m1,Y,Y,Y,Y,ω,ω,hO1,hds1,?_⟩ Qs;rw[<-hR2];obtain rfl:j=0:=ω
   rfl
 ·have hfl:insertionSort lt d 0 d.size=d':=by rw[<-hR1];unfold insOuter;rw[aa ω]
  rw[hfl]at hfin;have hpp:=Hk hfin.1;have hso:=Gg (d:=d') (by have:=hfin.2;rwa [<-hds']at this);rw[hd]at hpp;have hO':OwnL cC 3 52 m v5 (d'.toList.map CeI.ce):=own_ceI.2 hO;refine Av (Aa (Aa (Af (Ad (Aq (Qm Y (Qm Y (Am (An ?_)))))))));exact Ap Y Y (⟨AE l1 (AE l2 l3),m,d'.toList.map CeI.ce,Y,hO',by have:=(hpp.map CeI.ce).map Ce.c;rw[hlo,hcn]at this;exact this,Tk (by rw[<-hlt]at hso;exact hso.imp λh=>by simpa[ltOf] using h),λa ha=>hsA a (by rw[<-hlo];exact(hpp.map CeI.ce).mem_iff.1 ha)⟩)
end
end Go.Proofs.Q