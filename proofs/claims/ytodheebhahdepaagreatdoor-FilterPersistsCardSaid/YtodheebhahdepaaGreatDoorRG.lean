/- A part of the proof. -/
import Derived.Test.YtodheebhahdepaaGreatDoorRF
import Derived.Test.YtodheebhahdepaaGreatDoorRows
import Derived.Test.YtodheebhahdepaaGreatDoorChecked
import Derived.WalkKit
import Derived.ProofKit
import Derived.ChangeOld
import Derived.LaidMore
import Derived.Lay
import Derived.SevenTiedAt
import Derived.Stop.Joined
import Derived.Test.YtodheebhahdepaaGreatDoorCards
import Derived.Test.YtodheebhahdepaaGreatDoorTie
set_option linter.unusedSimpArgs false
set_option linter.unusedVariables false
set_option linter.unusedSectionVars false
set_option maxRecDepth 100000
set_option maxHeartbeats 4000000
open List (mem_map length_map length_singleton getElem_mem range length_append nil_append length_take mem_cons map_append mem_filter mem_cons_of_mem length_nil take_succ_eq_append_getElem append_nil map_map map_cons length_set getElem_of_mem take_length append_assoc getElem_map length_cons range_succ filter_append sum_cons not_mem_nil)
namespace Go.Proofs.Q
open Go.Proofs.Tryz
open Go.Eng Go.RowKit
variable {A W:List CeO} {pr:CeO->Bool} {i j:Nat}
def Ps(A:List CeO)(pr:CeO->Bool):Int:=match A.findIdx? pr with|some k=>k|none=>-1
theorem Ub{k:Nat}(hk:k<A.length)(h:pr A[k]=true)(hno:∀j (hj:j<A.length),j<k->pr A[j]=false):Ps A pr=k:=by
 unfold Ps
 have:A.findIdx? pr=some k:=by rw[List.findIdx?_eq_some_iff_getElem];exact⟨hk,h,fun j hj=>by rw[hno j (by omega) hj];simp⟩
 rw[this]
theorem TB(hno:∀j (hj:j<A.length),pr A[j]=false):Ps A pr=-1:=by
 unfold Ps
 have:A.findIdx? pr=none:=by rw[List.findIdx?_eq_none_iff];intro a ha;obtain⟨j,hj,rfl⟩:=getElem_of_mem ha;exact hno j hj
 rw[this]
structure DelI(A W:List CeO)(pr:CeO->Bool)(i j:Nat):Prop where
 len:W.length=A.length
 ij:i<=j
 jn:j<=A.length
 tk:W.take i=(A.take j).filter fun a=>!pr a
 dr:W.drop j=A.drop j
theorem DelI.start{k:Nat}(hk:k<A.length)(h:pr A[k]=true)(hno:∀j (hj:j<A.length),j<k->pr A[j]=false):DelI A A pr k (k+1):=by
 refine⟨Y,by omega,by omega,?_,Y⟩;rw[take_succ_eq_append_getElem hk,filter_append];have e1:[A[k]].filter (fun a=>!pr a)=[]:=by simp[h]
 have e2:(A.take k).filter (fun a=>!pr a)=A.take k:=by rw[List.filter_eq_self];intro a ha;obtain⟨j,hj,rfl⟩:=getElem_of_mem ha;rw[length_take]at hj;rw[List.getElem_take,hno j (by omega) (by omega)];rfl
 rw[e1,e2,append_nil]
theorem DelI.get(D:DelI A W pr i j)(hj:j<W.length)(hj':j<A.length):W[j]=A[j]:=by have h1:W.drop j=W[j]::W.drop (j+1):=List.drop_eq_getElem_cons hj;have h2:A.drop j=A[j]::A.drop (j+1):=List.drop_eq_getElem_cons hj';have:=D.dr;rw[h1,h2]at this;exact(List.cons.inj this).1
theorem DelI.next(D:DelI A W pr i j)(hj:j<A.length):W.drop (j+1)=A.drop (j+1):=by
 have:=congrArg (List.drop 1) D.dr
 rwa [List.drop_drop,List.drop_drop]at this
theorem DelI.del(D:DelI A W pr i j)(hj:j<A.length)(h:pr A[j]=true):DelI A W pr i (j+1):=by refine⟨D.len,by have:=D.ij;omega,by omega,?_,D.next hj⟩;rw[take_succ_eq_append_getElem hj,filter_append,<-D.tk];simp[h]
theorem DelI.keep(D:DelI A W pr i j)(hj:j<A.length)(h:pr A[j]=false):DelI A (W.set i A[j]) pr (i+1) (j+1):=by
 have hij:=D.ij;have hl:=D.len;refine⟨by rw[length_set,D.len],by omega,by omega,?_,?_⟩
 ·rw[take_succ_eq_append_getElem hj,filter_append,<-D.tk];have hi:i<(W.set i A[j]).length:=by rw[length_set];omega
  rw[take_succ_eq_append_getElem hi,List.getElem_set_self,List.take_set_of_le (Nat.le_refl _)];simp[h]
 ·rw[List.drop_set_of_lt (by omega),D.next hj]
theorem S8(A:List CeO)(v:Value)(cf:FuncId)(cs:List Value)(pr:CeO->Bool)(h:Hp)(hR:RdL HU 3 h [] v A)(hn:A.length<=100000)
  (hc:∀xs w,(callFunc cf xs).run Tryz.prog w=.ok (.enter cf xs) w)
  (hp:∀a∈A,∀h',h.le h'->∀ms,FnV Tryz.prog cf ([]++[Value.agg (HU a).toArray]++cs).toArray h' ms (.bool (pr a))) :
  FnT Tryz.prog 141 #[v,.func (.func cf) #[] cs.toArray] h [] (fun r _ _=>r=.int .i64 (Ps A pr)):=by
 have ov:=hR.rd.one;refine Aq func141 ntmps141 Y Y (fun w0 hw0=>?_);simp only[AW];refine Ar (Qm Y (Am (Ac (Ar (Qm Y (Qx (Au hR.rd.any Y A9 Y) Y (Qm Y (Am (Ag ?_)))))))))
 refine Aw (fun q s h' ms'=>∃(k:Nat),q=A.length-k/\s=[(0,v),(1,.func (.func cf) #[] cs.toArray),(7,.int .i64 A.length),(8,.int .i64 k)]/\h=h'/\ms'=[]/\k<=A.length/\∀j (hj:j<A.length),j<k->pr A[j]=false)
  (A.length-0) _ ⟨0,rfl,rfl,rfl,rfl,by omega,fun j _ hj=>by omega⟩ Qs ?_
 rintro q s h' ms' ⟨k,rfl,rfl,rfl,rfl,hk,hno⟩;refine Ar (Qm Y (Am (Ac ?_)));refine Ap Y (fun hlt=>?_) (fun hlt=>?_)
 ·have hkn:k<A.length:=by omega
  obtain⟨x,hx⟩:∃x,A[k]=x:=⟨_,Y⟩
  have gX:∀ms,Seg h ms ((AE v).add (k*3)) (HU x):=fun ms=>by rw[<-hx];exact(hR.any (ms:=ms)).seg hkn
  have oxv:=x.one;refine Ah (Ab (Ac (Ag (Ar (Qm Y (Qm Y (BH (Qm Y (Qm Y (Qm Y (Qx (BE (k) hR.rd.any Y A9 AG Y Y) Y (Qx (oG Y Ei AG (gX _)) Y ?_))))))))))));refine Qx (Ci Y Y hc Y (hp x (by rw[<-hx];exact getElem_mem hkn) _ (DT) _)) Y ?_;refine Am ?_;refine Bx Y (fun hpk=>?_) (fun hpk=>?_)
  ·refine Ac (Ad (Qm Y (Qm Y (Am (An (Aj (Ae (Ae (Aj (Ae ?_))))))))));exact Av Y Y (by rw[Ub hkn (by rw[hx];exact hpk) hno])
  ·refine Ah (Ai (Ab (Ad (Qx (oA Y) Y (Qm Y (Al ?_))))));refine Ak (A.length-(k+1)) _ (by omega) ⟨k+1,Y,Y,Y,Y,by omega,fun j hj hj2=>?_⟩ Qs;rcases (by omega:j<k\/j=k) with h2|rfl
   ·exact hno j hj h2
   ·rw[hx];exact hpk
 ·refine As (Aa (Aa (Af (Ab (Ar (Qm Y (Am (An ?_))))))));exact Av Y Y (by rw[TB fun j hj=>hno j hj (by omega)])
theorem QI(A:List CeO)(v:Value)(m:Hp)(cf:FuncId)(cs:List Value)(pr:CeO->Bool)(h:Hp)(hO:OwnL HU 3 52 m v A)(hn:A.length<=100000)
  (hc:∀xs w,(callFunc cf xs).run Tryz.prog w=.ok (.enter cf xs) w)
  (hp:∀a∈A,∀h',h.le h'->∀ms,FnV Tryz.prog cf ([]++[Value.agg (HU a).toArray]++cs).toArray h' ms (.bool (pr a))) :
  FnT Tryz.prog 74 #[v,.func (.func cf) #[] cs.toArray] h [m] (fun r h' ms'=>h=h'/\∃m',ms'=[m']/\OwnL HU 3 52 m' r (A.filter fun a=>!pr a)):=by
 have ov:=hO.o1;refine Aq func74 ntmps74 Y Y (fun w0 hw0=>?_);simp only[AW];refine Ar (Qm Y (BH (Qm Y (Qm Y (Qx (AI Y call141 Y (Cn fun h' hl hm=>EO (S8 A v cf cs pr h' (hO.rdh (hm _ Mh)) hn hc fun a ha h2 l2=>hp a ha h2 (AJ hl l2)) _)) Y (Qm Y (Am (Ac (Ar (Qm Y (Qm Y (Am ?_))))))))))));obtain⟨q,hq⟩:∃q,Ps A pr=q:=⟨_,Y⟩
 have hcase:(q=-1/\A.filter (fun a=>!pr a)=A)\/∃k:Nat,q=k/\∃hk:k<A.length,pr A[k]=true/\∀j (hj:j<A.length),j<k->pr A[j]=false:=by
  rw[<-hq];cases h:A.findIdx? pr with
  | none=>
   have h1:=List.findIdx?_eq_none_iff.1 h;refine .inl ⟨by unfold Ps;rw[h],?_⟩;rw[List.filter_eq_self];intro a ha;rw[h1 a ha];rfl
  | some k=>
   obtain⟨h1,h2,h3⟩:=List.findIdx?_eq_some_iff_getElem.1 h;exact .inr ⟨k,by unfold Ps;rw[h],h1,h2,fun j hj hjk=>by simpa using h3 j hjk⟩
 rw[hq];refine Ap Y (fun hz=>?_) (fun hz=>?_)
 ·have hfl:A.filter (fun a=>!pr a)=A:=by
   rcases hcase with ⟨_,e⟩|⟨k,e,_⟩
   ·exact e
   ·omega
  refine Ar (Qm Y (Qm Y (Am (An (Ae ?_)))));exact Av Y Y (⟨Y,m,Y,by rw[hfl];exact hO⟩)
 ·obtain⟨k,rfl,hk,hkp,hkn⟩:∃k:Nat,q=k/\∃hk:k<A.length,pr A[k]=true/\∀j (hj:j<A.length),j<k->pr A[j]=false:=by
   rcases hcase with ⟨e,_⟩|h
   ·exact absurd e hz
   ·exact h
  refine Ah (Ab (Ac (Ar (Qm Y (Qx (oA Y) Y (Qm Y (Am (Ag ?_))))))))
  refine Aw (fun q s h' ms'=>∃(i j:Nat) (W:List CeO) (m:Hp),A.length-j=q/\s=[(0,v),(1,.func (.func cf) #[] cs.toArray),(5,.int .i64 i),(6,.int .i64 j)]/\h=h'/\ms'=[m]/\OwnL HU 3 52 m v W/\DelI A W pr i j)
   (A.length-(k+1)) _ ⟨k,k+1,A,m,rfl,rfl,rfl,rfl,hO,DelI.start hk hkp hkn⟩ Qs ?_
  rintro q s h' ms' ⟨i,j,W,m,rfl,rfl,rfl,rfl,hO,hD⟩;have hlW:=hD.len;have hij:=hD.ij;have hjn:=hD.jn;refine Ac (Ar (Qm Y (Qm Y (Qx (Au (hO.rd Mh).rd Y A9 Y) Y (Qm Y (Am ?_))))));refine Ap Y (fun hlt=>?_) (fun hlt=>?_)
  ·have hjA:j<A.length:=by omega
   have hjW:j<W.length:=by omega
   have hgx:=hD.get hjW hjA;obtain⟨x,hx⟩:∃x,A[j]=x:=⟨_,Y⟩
   rw[hx]at hgx;have gX:∀ms,m∈ms->Seg h ms ((AE v).add (j*3)) (HU x):=fun ms hm=>by rw[<-hgx];exact(hO.rd hm).seg hjW
   have oxv:=x.one;refine Ah (Ab (Ac (Ag (Ar (Qm Y (Qm Y (Qx (AB (j) (hO.rd Mh).rd Y A9 AG Y Y (by omega) (by omega)) Y (Qx (oG Y Ei AG (gX _ Mh)) Y (CG [.int .i64 0,.int .i64 0,.slice none 0 0] Y AG Y Y (fun g7=>?_))))))))));refine Sa 0 [_,_,_] AG Y (by simp[ov,oxv]) ?_;refine BH (Qm Y (Qx (oG Y Ei AG (Seg.blk 0 Y)) Y ?_));refine Qx (Ci Y Y hc Y (hp x (by rw[<-hx];exact getElem_mem hjA) _ (DT) _)) Y ?_;refine Qm Y (Am ?_);refine Bx Y (fun hpk=>?_) (fun hpk=>?_)
   ·have hpf:pr A[j]=false:=by rw[hx];simpa using hpk
    have hk':=hD.keep hjA hpf;refine Ar (Qm Y (Qm Y (Qx (oG Y Ei AG (Seg.blk 0 Y)) Y (Qx (AB (i) (hO.rd (List.Mem.tail _ Mh)).rd Y A9 AG Y Y (by omega) (by omega)) Y ?_))));refine Fk 1 i x hO Y AG Y Y Y (Np x) Y (show i<W.length by omega) Y Y (fun m' hO'=>?_);rw[hx]at hk';refine GJ (Qm Y (Qx (oA Y) Y (Qm Y (Al (Ai (Ab (Ad (Qm Y (Qx (oA Y) Y (Qm Y (Al (AO ?_))))))))))));exact Ak (A.length-(j+1)) _ (by omega) ⟨i+1,j+1,_,m',Y,Y,Y,Y,hO',hk'⟩ Qs
   ·have hpt:pr A[j]=true:=by rw[hx];simpa using hpk
    refine Ah (Ai (Ab (Ad (Qm Y (Qx (oA Y) Y (Qm Y (Al (AO ?_))))))));exact Ak (A.length-(j+1)) _ (by omega) ⟨i,j+1,W,m,Y,Y,Y,Y,hO,hD.del hjA hpt⟩ Qs
  ·have hjl:j=A.length:=by omega
   subst hjl;refine As (Aa (Aa (Af (Ab (Ar (Qm Y (Qm Y (Qx (CU _ (hO.rd Mh).rd Y A9 AG Y Y Y (by omega)) Y (Tb 0 i hO (by omega) Y A9 AG Y (by decide) Y Y Y Y (fun m' hO'=>?_))))))))));have htk:W.take i=A.filter fun a=>!pr a:=by have:=hD.tk;rwa [take_length]at this
   rw[htk]at hO';refine BH (Qm Y (Qm Y (Qx (EV i (hO.rd (h:=h) (ms:=[m]) Mh).rd Y A9 AG Y Y Y (by omega)) Y (Qm Y (Am (An ?_))))));exact Av Y Y (⟨Y,m',Y,hO'⟩)
end Go.Proofs.Q
namespace Go.Proofs.Q
open Go.Proofs.Tryz
open Go.Eng Go.RowKit
def E1(F:List (Int×Int))(t:Int)(o:List Cl):List Cl:=o.filter fun c=>decide (Cb (A6 F) c.id<=t)
theorem AaG{lo:List CeO}{m:Hp}{v:Value}(O:OwnL cC 3 52 m v (lo.map KP)):OwnL HU 3 52 m v lo:=⟨by have:=O.own;rwa [I8,length_map]at this,Kl⟩
theorem Yl(F:List (Int×Int))(x:CeO)(t:Int)(g1 g2 gA:Nat)(mA:Hp)(bs:List Nat)(h:Hp)(hO:CQ kN kN gA BN mA (A6 F) bs)(lA:mA.le h)(h1:∀ms,Cell h ms (⟨g1,0,none⟩:Addr) (.map (some gA)))(h2:∀ms,Cell h ms (⟨g2,0,none⟩:Addr) (.int .i64 t))(hs:BN x.c.id)(ms:List Hp) :
  FnV Tryz.prog 75 ([]++[Value.agg (HU x).toArray]++[Value.pointer (some ⟨g1,0,none⟩),.pointer (some ⟨g2,0,none⟩)]).toArray h ms (.bool (decide (Cb (A6 F) x.c.id>t))):=by
 refine EO ?_ ms;show FnT _ _ #[.agg #[.int .i64 x.c.id,.int .i64 x.c.dim,x.v],.pointer (some ⟨g1,0,none⟩),.pointer (some ⟨g2,0,none⟩)] _ _ _;have ox:=x.one;refine Aq func75 ntmps75 Y Y (fun w0 hw0=>?_);simp only[AW];refine Ar (AV [_,_,_] Y Y (by rfl) Y Y Y (fun g3=>Qm Y (Am (Az fun h3 l3 hS=>?_))));have e0:∀ms,Cell h3 ms ((⟨g3,0,none⟩:Addr).add 0) (.int .i64 x.c.id):=fun ms=>(hS 0 _ Y).any;have h1:∀ms,Cell h3 ms (⟨g1,0,none⟩:Addr) (.map (some gA)):=fun ms=>(h1 ms).le l3;have h2:∀ms,Cell h3 ms (⟨g2,0,none⟩:Addr) (.int .i64 t):=fun ms=>(h2 ms).le l3;refine Ar (Ql Y LJ (h1 _) (Qf Bi Y (Ql Y U3 (e0 _) (Qx (Ca (V:=kN) (z:=(0:Int)) (u:=Cb (A6 F) x.c.id) x.c.id Y Bu hO (AJ lA l3) Y LJ HQ Y Y hs) Y (Ql Y U3 (h2 _) (Qm Y (Qm Y (Am (An ?_)))))))));exact Av Y Y (Y)
theorem N7(l:List Ce)(F:List (Int×Int))(v vf:Value)(t:Int)(hp:Hp)(hK:RgC l)(hR:RdC hp v l)(hF:RdL cV 2 hp [] vf F)(hV:GA F)(h0:DF (cn l) F=(0,0))(hl:l.length<=400) :
  FnT Tryz.prog 27 #[.agg #[v],vf,.int .i64 t] hp [] (fun r h' ms'=>hp.le h'/\∃m A v',ms'=[m]/\r=.agg #[v']/\OwnL cC 3 52 m v' A/\A.map Ce.c=E1 F t (cn l)/\∀a∈A,RdL cD 2 h' [] a.v a.c.sd):=by
 have o1:=hR.q.rd.one;have o2:=hF.rd.one;refine Aq func27 ntmps27 Y Y (fun w0 hw0=>?_);simp only[AW];refine Ar (AV [_] Y Y (by rfl) Y Y Y (fun g3=>AV [_] Y Y (by rfl) Y Y Y (fun g5=>CG [.slice none 0 0] Y AY Y Y (fun g6=>Am (Bp 1 Y fun h1 l1 hS5=>(Bp 1 Y fun h2 l2 hS3=>?_))))));have hR2:=(hR.up l1).up l2;have hF2:=(hF.up l1).up l2;have c3:∀ms,Seg h2 ms (⟨g3,0,none⟩:Addr) [v]:=fun ms=>hS3.any;have c5:∀ms,Cell h2 ms (⟨g5,0,none⟩:Addr) (.int .i64 t):=fun ms=>((hS5 0 _ Y).any).le l2;refine Ac (Ar (Qx (oG Y CB AY (c3 _)) Y (Qm Y ?_)));refine Qx (AI Y call24 Y (EO ((Fh l F v vf h2 hK hR2 hF2 hV).mono fun r _ _ h=>by rw[h,h0]) _)) rfl ?_;refine Qm Y (Qm Y (Qm Y (Qm Y (Qm Y (BH (Qm Y (Qm Y (Am ?_))))))));refine Ap Y (fun hz=>?_) (fun hz=>?_)
 ·exact absurd Y hz
 ·refine Ah (Ab (Ar (Qm Y (Qc call66 Y (HH F vf h2 hF2 hV.n hV.k) (fun rL h3 ms3 l3 hL=>?_)))));obtain⟨l3',gL,mL,bL,rfl,rfl,hOL⟩:=hL;refine CG [.map none] Y Ze Y Y (fun g9=>AP 0 0 Y Ze Y Y (by rfl) Y Y (by decide) Y Y (Am (Az fun h4 l4 hS9=>(Bs fun h5 l5 lmL=>?_))));have l25:=AJ l3' (AJ l4 l5);have c9:∀ms,Cell h5 ms (⟨g9,0,none⟩:Addr) (.map (some gL)):=fun ms=>((hS9 0 _ Y).any).le l5;have c3:∀ms,Seg h5 ms (⟨g3,0,none⟩:Addr) [v]:=fun ms=>(c3 ms).le l25;have c5:∀ms,Cell h5 ms (⟨g5,0,none⟩:Addr) (.int .i64 t):=fun ms=>(c5 ms).le l25;refine Ar (Qx (oG Y CB AY (c3 _)) Y (Qc call65 Y (Hr l v h5 hK (hR2.up l25)) (fun rC h6 ms6 l6 hQ=>?_)));obtain⟨l6',mC,A,vA,rfl,rfl,hOC,hAl,hsA⟩:=hQ;obtain⟨lo,e⟩:=exO (fun a ha=>(hsA a ha).rd.one);have e:lo.map KP=A:=e;have hlo:lo.length=l.length:=by have h1:=congrArg List.length hAl;rw[<-e]at h1;rw[CY]at h1;simpa using h1
  have hOo:OwnL HU 3 52 mC vA lo:=AaG (by rw[e];exact hOC);have ovA:=hOC.o1;refine CG [.slice none 0 0] Y AY Y Y (fun g10=>?_);refine Sa 0 [_] AY Y (by simp[o1,o2,ovA]) ?_;refine BH (Qf B5 Y (Ql Y A9 (Cell.blk 0 Y Y) (Qx (BV Y Y Y) Y ?_)))
  have hidI:∀a∈lo,BN a.c.id:=fun a ha=>by
   have h1:a.c∈cn l:=by rw[<-hAl,<-e,map_map];exact List.mem_map.2 ⟨a,ha,Y⟩
   exact hK.cI h1
  refine Nx 1 Y (Ba (pre:=[mC]) Y call74 Y (QI lo vA mC 75 [Value.pointer (some ⟨g9,0,none⟩),.pointer (some ⟨g5,0,none⟩)] (fun x=>decide (Cb (A6 F) x.c.id>t)) h6 hOo (by omega) call75 (fun a ha h' l' ms=>Yl F a t g9 g5 gL mL bL h' hOL (AJ lmL (AJ l6 l')) (fun ms=>(c9 ms).le (AJ l6 l')) (fun ms=>(c5 ms).le (AJ l6 l')) (hidI a ha) ms)) Y Y Y Y (fun vD h7 ms7 l7 hF=>?_));obtain⟨rfl,mD,rfl,hOD⟩:=hF;have ovD:=hOD.o1;refine Qf B5 Y ?_;refine AP 1 _ Y JT Y Y (by assumption) Y Y (by(simp;done)) rfl rfl ?_;refine Am (Bp 1 Y fun h8 l8 hS10=>?_);have c10:∀ms,Seg h8 ms (⟨g10,0,none⟩:Addr) [vD]:=fun ms=>hS10.any
  have hfe:(lo.filter fun x=>!decide (Cb (A6 F) x.c.id>t)).map KP=A.filter fun a=>decide (Cb (A6 F) a.c.id<=t):=by
   rw[<-e,List.filter_map];congr 1;refine List.filter_congr fun x _=>?_;show(!decide (Cb (A6 F) x.c.id>t))=decide (Cb (A6 F) x.c.id<=t);by_cases h:Cb (A6 F) x.c.id<=t
   ·rw[decide_eq_true h,decide_eq_false (by omega)];rfl
   ·rw[decide_eq_false h,decide_eq_true (by omega)];rfl
  have hOe:=WT hOD;rw[hfe]at hOe
  have hfc:(A.filter fun a=>decide (Cb (A6 F) a.c.id<=t)).map Ce.c=E1 F t (cn l):=by unfold E1;rw[<-hAl,List.filter_map];rfl
  refine Ar (Qx (oG Y CB AY (c10 _)) Y ?_);refine Sa 1 [_] AY Y (by simp[o1,o2,ovA,ovD]) ?_;refine Am (An ?_);have lpp:=AJ l1 (AJ l2 (AJ l25 (AJ l6 l8)));have hpost:=fun a (ha:a∈A.filter fun a=>decide (Cb (A6 F) a.c.id<=t))=>(hsA a (List.mem_filter.1 ha).1).up l8;exact By (vs:=[_]) 1 Y Y CB Y AY Y Y (⟨lpp,mD,_,vD,Y,Y,hOe,hfc,hpost⟩)
end Go.Proofs.Q
namespace Go.Proofs.Q
open Go.Eng Go.RowKit
variable {o:List Cl}
theorem Rgt.filt(R:Rgt o){P:Cl->Bool}(hc:∀x∈o,P x=true->∀s∈x.sd,∀y∈o,y.id=s.1->P y=true):Rgt (o.filter P):=by
 have hm:∀{x},x∈o.filter P->x∈o:=fun h=>(List.mem_filter.1 h).1;have hnd:((o.filter P).map Cl.id).Nodup:=R.nd.sublist (List.filter_sublist.map _)
 have hsid:∀x∈o.filter P,∀s∈x.sd,∃y∈o.filter P,y.id=s.1/\y.dim=x.dim-1:=fun x hx s hs=>by obtain⟨y,hy,e1,e2⟩:=R.sid x (hm hx) s hs;exact⟨y,List.mem_filter.2 ⟨hy,hc x (hm hx) (List.mem_filter.1 hx).2 s hs y hy e1⟩,e1,e2⟩
 refine⟨Nat.le_trans (List.length_filter_le _ _) R.n,hnd,fun x hx=>R.pos x (hm hx),fun x hx=>R.dim x (hm hx),fun x hx=>R.num x (hm hx),fun x hx=>R.sds x (hm hx),hsid,fun x hx=>R.sgn x (hm hx),fun x hx=>R.one x (hm hx),fun x hx hd=>?_⟩
 have e:FE (o.filter P) x=FE o x:=by
  unfold FE KE;refine DY fun s hs=>?_;obtain⟨y,hy,e1,_⟩:=hsid x hx s hs
  have h1:Gp (o.filter P) s.1=Gp o s.1:=by rw[<-e1];unfold Gp;rw[Dp hnd hy,Dp R.nd (hm hy)]
  simp only[h1]
 rw[e];exact R.tab x (hm hx) hd
theorem RgtF.can_eq(R:RgtF o){x:Cl}(hx:x∈o):x.can=x:=by have e:B7 x.sd=x.sd:=Dw Prod.fst (BP _) (Fw _) (R.sinc x hx);unfold Cl.can;rw[e]
theorem RgtF.filt(R:RgtF o){P:Cl->Bool}(hc:∀x∈o,P x=true->∀s∈x.sd,∀y∈o,y.id=s.1->P y=true):RgtF (o.filter P):=by
 have h1:=(R.rgt.filt hc).ordF
 have e1:(o.filter P).map Cl.can=o.filter P:=by
  have:∀l:List Cl,(∀x∈l,x∈o)->l.map Cl.can=l:=fun l=>by
   induction l with
   | nil=>intro _;rfl
   | cons a l ih=>intro h;rw[map_cons,R.can_eq (h a Mh),ih fun x hx=>h x (mem_cons_of_mem _ hx)]
  exact this _ fun x hx=>(List.mem_filter.1 hx).1
 have h2:=Dg (o.filter P).length (o.filter P) (Nat.le_refl _);rw[e1]at h2;have h3:=Dw Cl.id h2 (Ds _ _ (Nat.le_refl _)) (R.inc.sublist List.filter_sublist)
 rwa [h3]at h1
theorem RgtF.sub(R:RgtF o){F:List (Int×Int)}(hmon:∀x∈o,∀s∈x.sd,Cb (A6 F) s.1<=Cb (A6 F) x.id)(t:Int):RgtF (E1 F t o):=
 R.filt fun x hx hP s hs y hy e=>by have h1:=of_decide_eq_true hP;have h2:=hmon x hx s hs;rw[<-e]at h2;exact decide_eq_true (by omega)
end Go.Proofs.Q
namespace Go.Proofs.Q
open Go.Proofs.Tryz
open Go.Eng Go.RowKit
theorem Ml(l:List Ce)(F:List (Int×Int))(v vf:Value)(t p:Int)(hp:Hp)(hK:RgC l)(hR:RdC hp v l)(hF:RdL cV 2 hp [] vf F)(hV:GA F)(h0:DF (cn l) F=(0,0))(hmon:∀x∈cn l,∀s∈x.sd,Cb (A6 F) s.1<=Cb (A6 F) x.id)(hP:IsP p)(hp2:p<256)(hl:l.length<=100) :
  FnT Tryz.prog 19 #[.agg #[v],vf,.int .i64 t,.int .i64 p] hp [] (fun r h' ms'=>hp.le h'/\∃(D:Int) (rk:Nat->Nat) (w:Value) (m:Hp),r=.tuple #[w,.int .i64 0]/\ms'=[m]/\OwnL cI 1 3 m w (Mw (E1 F t (cn l)) rk (D+1).toNat)/\Kv (E1 F t (cn l)) D/\rk 0=0/\∀n:Nat,n<(D+1).toNat->RkO p (E1 F t (cn l)) (n+1) (rk (n+1))):=by
 have o1:=hR.q.rd.one;have o2:=hF.rd.one;refine Aq func19 ntmps19 Y Y (fun w0 hw0=>?_);simp only[AW];refine Ar (AV [_] Y Y (by rfl) Y Y Y (fun g4=>Qm Y (Qm Y (Am (Az fun h1 l1 hS4=>?_)))));have hR1:=hR.up l1;have hF1:=hF.up l1;have c4:∀ms,Seg h1 ms (⟨g4,0,none⟩:Addr) [v]:=fun ms=>hS4.any;refine Ac (Ar (Qx (oG Y CB AY (c4 _)) Y (Qm Y ?_)));refine Qx (AI Y call24 Y (EO ((Fh l F v vf h1 hK hR1 hF1 hV).mono fun r _ _ h=>by rw[h,h0]) _)) rfl ?_;refine Qm Y (Qm Y (Qm Y (Qm Y (Qm Y (BH (Qm Y (Qm Y (Am ?_))))))));refine Ap Y (fun hz=>?_) (fun hz=>?_)
 ·exact absurd Y hz
 ·refine Ah (Ab (Ar (Qx (oG Y CB AY (c4 _)) Y (Qm Y (Qm Y (Qc call27 Y (N7 l F v vf t h1 hK hR1 hF1 hV h0 (by omega)) (fun rS h2 ms2 l2 hS=>?_)))))));obtain⟨l2',mS,A,vA,rfl,rfl,hOS,hA,hsA⟩:=hS;refine Bv hOS fun h3 l3 hRA=>?_
  have hAl:A.length<=100:=by have h1:=congrArg List.length hA;rw[length_map]at h1;rw[h1];refine Nat.le_trans (List.length_filter_le _ _) ?_;rw[CY];exact hl
  have hFA:RgtF (A.map Ce.c):=by rw[hA];exact hK.F.sub hmon t
  have hKA:RgC A:=⟨hFA.rgt,fun a ha=>by
   have h1:a.c∈E1 F t (cn l):=by rw[<-hA];exact List.mem_map.2 ⟨a,ha,Y⟩
   exact hK.ci (List.mem_filter.1 h1).1⟩
  have hRC:RdC h3 vA A:=⟨hRA,fun a ha=>(hsA a ha).up l3⟩
  have oA_:=hRA.rd.one;refine Qm Y (Qc call20 Y (Uy A vA p h3 hP hp2 hKA hRC hAl) (fun rB h4 ms4 l4 hB=>?_));obtain⟨l4',D,rk,w,m,rfl,rfl,hO,hD,hr0,hrk⟩:=hB;rw[Vx hFA,hA]at hO hD hrk;have ow:=hO.o1;refine Qm Y (Qm Y (Qm Y (Qm Y (Am (An ?_)))));exact Bq Y Y Y (⟨AJ l1 (AJ l2 (AJ l3 l4)),D,rk,w,m,Y,Y,hO,hD,hr0,hrk⟩)
end Go.Proofs.Q
namespace Go.Proofs.Q
open Go.Eng Go.RowKit Go.Lin
variable {i j:Nat}
def Cq(S:List Ce)(i:Nat):Cl:=(S.getD i default).c
theorem CJ{S:List Ce}(h:i<S.length):Cq S i=S[i].c:=by unfold Cq;simp[List.getD,h]
structure PerH(p:Int)(F:List (Int×Int))(l S:List Ce)(R V:Nat->List Int):Prop where
 P:PersF p F l S R V
 hp:IsP p
 G:Rgt (cn l)
 mon:∀x∈cn l,∀s∈x.sd,Cb (A6 F) s.1<=Cb (A6 F) x.id
section
variable {p:Int} {F:List (Int×Int)} {l S:List Ce} {R V:Nat->List Int}
theorem PerH.nd(H:PerH p F l S R V):(S.map fun a=>a.c.id).Nodup:=by
 have:=(H.P.perm.map Cl.id).nodup_iff.2 H.G.nd
 rwa [map_map]at this
theorem PerH.mem(H:PerH p F l S R V)(h:i<S.length):Cq S i∈cn l:=by rw[CJ h];exact H.P.perm.mem_iff.1 (List.mem_map.2 ⟨_,getElem_mem h,Y⟩)
theorem PerH.inj(H:PerH p F l S R V)(hi:i<S.length)(hj:j<S.length)(h:(Cq S i).id=(Cq S j).id):i=j:=by
 rw[CJ hi,CJ hj]at h;have hp:=List.pairwise_iff_getElem.1 H.nd;rcases Nat.lt_trichotomy i j with h1|h1|h1
 ·have:=hp i j (by simpa using hi) (by simpa using hj) h1;simp only[getElem_map]at this;exact absurd h this
 ·exact h1
 ·have:=hp j i (by simpa using hj) (by simpa using hi) h1;simp only[getElem_map]at this;exact absurd h.symm this
theorem PerH.place(H:PerH p F l S R V){y:Cl}(hy:y∈cn l):∃m,m<S.length/\Cq S m=y:=by obtain⟨a,ha,rfl⟩:=List.mem_map.1 (H.P.perm.mem_iff.2 hy);obtain⟨m,hm,rfl⟩:=getElem_of_mem ha;exact⟨m,hm,CJ hm⟩
theorem PerH.before(H:PerH p F l S R V)(hj:j<S.length){s:Int×Int}(hs:s∈(Cq S j).sd):∃m,m<j/\(Cq S m).id=s.1/\(Cq S m).dim=(Cq S j).dim-1:=by
 obtain⟨y,hy,e1,e2⟩:=H.G.sid _ (H.mem hj) s hs;obtain⟨m,hm,rfl⟩:=H.place hy;refine⟨m,?_,e1,e2⟩;have hf:=H.mon _ (H.mem hj) s hs;rw[<-e1]at hf;refine Classical.byContradiction fun hn=>?_;rcases (by omega:m=j\/j<m) with rfl|h
 ·omega
 ·have:=List.pairwise_iff_getElem.1 H.P.srt j m hj hm h;rw[<-CJ hj,<-CJ hm]at this;omega
def EM(S:List Ce)(i k:Nat):Int:=sgn (Cq S k).sd (Cq S i).id
theorem R5(H:PerH p F l S R V)(hj:j<S.length)(hi:i<S.length):∀k,k<=(Cq S j).sd.length->Cg p ((EP p S j k).getD i 0) (sgn ((Cq S j).sd.take k) (Cq S i).id)
 | 0,_=>by
  have:(EP p S j 0).getD i 0=0:=by unfold EP;simp[List.getD,hi]
  rw[this,List.take_zero,HG];exact Cg.refl _ _
 | k+1,hk=>by
  have ih:=R5 H hj hi k (by omega);have hkl:k<(S.getD j default).c.sd.length:=by unfold Cq at hk;omega
  have hkl':k<(Cq S j).sd.length:=hkl;obtain⟨s,hs⟩:∃s,(Cq S j).sd[k]=s:=⟨_,Y⟩
  have hs':(S.getD j default).c.sd[k]=s:=hs
  have hcs:EP p S j (k+1)=(EP p S j k).set (pl S (j+1) s.1) ((s.2+p)%p):=by rw[<-hs'];exact JA hkl
  rw[hcs,take_succ_eq_append_getElem hkl',Lb,hs];have hsm:s∈(Cq S j).sd:=by rw[<-hs];exact getElem_mem hkl'
  obtain⟨m,hm,e1,e2⟩:=H.before hj hsm
  have hpl:pl S (j+1) s.1=m:=by rw[<-e1];exact We H.nd (by omega) (by omega)
  rw[hpl];have hpp:0<p:=by have:=H.hp.1;omega
  by_cases him:i=m
  ·subst him
   have hz:sgn ((Cq S j).sd.take k) (Cq S i).id=0:=La fun s' hs2 e=>by have h1:=List.pairwise_iff_getElem.1 (H.G.sds _ (H.mem hj));obtain⟨t,ht,rfl⟩:=getElem_of_mem hs2;rw[length_take]at ht;have:=h1 t k (by simp;omega) (by simpa using hkl') (by omega);rw[getElem_map,getElem_map,hs]at this;rw[List.getElem_take]at e;exact this (e.trans e1)
   have hlt:i<(EP p S j k).length:=by rw[EH];exact hi
   rw[hz,if_pos e1.symm];have hv:((EP p S j k).set i ((s.2+p)%p)).getD i 0=(s.2+p)%p:=by simp[List.getD,hlt]
   rw[hv,Int.zero_add];have h5:=(Cg.mod p (s.2+p)).trans ((Cg.refl p s.2).add (Cg.self p))
   rwa [Int.add_zero]at h5
  ·have hne:s.1≠(Cq S i).id:=fun e=>him (H.inj hi (by omega) (by rw[e1,e]));rw[if_neg hne,Int.add_zero]
   have hv:((EP p S j k).set m ((s.2+p)%p)).getD i 0=(EP p S j k).getD i 0:=by simp[List.getD,List.getElem?_set_ne (Ne.symm him)]
   rw[hv];exact ih
theorem RT(H:PerH p F l S R V)(hj:j<S.length)(hi:i<S.length):Cg p ((Dm p S j).getD i 0) (EM S i j):=by have:=R5 H hj hi (Cq S j).sd.length (Nat.le_refl _);rw[take_length]at this;exact this
end
end Go.Proofs.Q
namespace Go.Proofs.Q
open Go.Eng Go.RowKit Go.Lin
variable {i k j:Nat} {o o':List Cl}
section
variable {p:Int} {F:List (Int×Int)} {l S:List Ce} {R V:Nat->List Int}
structure ColI(p:Int)(S:List Ce)(k:Nat)(r v:List Int):Prop where
 rl:r.length=S.length
 vl:v.length=S.length
 eq:∀i,i<S.length->Cg p (r.getD i 0) (FC S.length (EM S) (fun m=>v.getD m 0) i)
 one:v.getD k 0=1
 aft:∀i,k<i->v.getD i 0=0
 vd:∀i,i<S.length->v.getD i 0≠0->(Cq S i).dim=(Cq S k).dim
 rd:∀i,i<S.length->r.getD i 0≠0->(Cq S k).dim=(Cq S i).dim+1
theorem F3{n:Nat}(hk:k<n)(i:Nat):(CF n k).getD i 0=if i=k then 1 else 0:=by
 unfold CF;by_cases e:i=k
 ·subst e;simp[List.getD,hk]
 ·rw[if_neg e];simp only[List.getD];rw[List.getElem?_set_ne (Ne.symm e)];by_cases h:i<n
  ·simp[h]
  ·simp[List.getElem?_eq_none (show(List.replicate n (0:Int)).length<=i by simp;omega)]
theorem PerH.col0(H:PerH p F l S R V)(hk:k<S.length):ColI p S k (Dm p S k) (CF S.length k):=by
 have hp:=H.hp.1;refine⟨EH _ _ _ _,Jm _ _,fun i hi=>?_,?_,fun i hi=>?_,fun i hi h=>?_,fun i hi h=>?_⟩
 ·refine(RT H hk hi).trans (Cg.of_eq ?_);unfold FC;rw[Gn S.length k _ hk fun m hm hne=>by show EM S i m*(CF S.length k).getD m 0=0;rw[F3 hk,if_neg hne,Int.mul_zero]];show EM S i k=EM S i k*(CF S.length k).getD k 0;rw[F3 hk,if_pos rfl,Int.mul_one]
 ·rw[F3 hk,if_pos rfl]
 ·rw[F3 hk,if_neg (by omega)]
 ·rw[F3 hk]at h;split at h
  ·rename_i e;rw[e]
  ·exact absurd Y h
 ·have hE:EM S i k≠0:=fun e=>h (by
   have h1:=RT H hk hi;rw[e]at h1
   exact h1.eq (Dd (by omega) (Lp (by omega) S k _) i) ⟨by omega,by omega⟩)
  obtain⟨s,hs,e⟩:=MH hE;obtain⟨m,hm,e1,e2⟩:=H.before hk hs;have:m=i:=H.inj (by omega) hi (by rw[e1,e]);subst this;omega
theorem XB(n:Nat)(D:Nat->Nat->Int)(x y:Nat->Int)(c:Int)(i:Nat):FC n D (fun k=>x k+c*y k) i=FC n D x i+c*FC n D y i:=by unfold FC;rw[<-Fu,<-G9];exact Bn fun k _=>by rw[Int.mul_add,<-Int.mul_assoc,<-Int.mul_assoc,Int.mul_comm c]
theorem ColI.step{k' i0:Nat}{t:Int}{r v r' v':List Int}(hp:2<=p)(C:ColI p S k r v)(C':ColI p S k' r' v')(hk:k'<k)(hi0:i0<S.length)(h1:r.getD i0 0≠0)(h2:r'.getD i0 0≠0):ColI p S k (Em p r r' t) (Em p v v' t):=by
 have lr:r.length=r'.length:=C.rl.trans C'.rl.symm;have lv:v.length=v'.length:=C.vl.trans C'.vl.symm
 have hd:(Cq S k').dim=(Cq S k).dim:=by have:=C.rd i0 hi0 h1;have:=C'.rd i0 hi0 h2;omega
 refine⟨by rw[DH lr,C.rl],by rw[DH lv,C.vl],fun i hi=>?_,?_,fun i hi=>?_,fun i hi h=>?_,fun i hi h=>?_⟩
 ·rw[DZ lr];refine(Cg.mod p _).trans (((C.eq i hi).add ((Cg.refl p t).mul (C'.eq i hi))).trans ?_);rw[<-XB];exact QC (fun m _=>by rw[DZ lv];exact(Cg.mod p _).symm) i
 ·rw[DZ lv,C.one,C'.aft k hk,Int.mul_zero,Int.add_zero];exact Int.emod_eq_of_lt (by omega) (by omega)
 ·rw[DZ lv,C.aft i hi,C'.aft i (by omega),Int.mul_zero,Int.add_zero];rfl
 ·rw[DZ lv]at h;by_cases e:v.getD i 0=0
  ·by_cases e':v'.getD i 0=0
   ·rw[e,e',Int.mul_zero]at h;exact absurd Y h
   ·rw[C'.vd i hi e',hd]
  ·exact C.vd i hi e
 ·rw[DZ lr]at h;by_cases e:r.getD i 0=0
  ·by_cases e':r'.getD i 0=0
   ·rw[e,e',Int.mul_zero]at h;exact absurd Y h
   ·rw[<-hd];exact C'.rd i hi e'
  ·exact C.rd i hi e
theorem PerH.ops(H:PerH p F l S R V)(ih:∀k',k'<k->ColI p S k' (R k') (V k')){r0 v0 r v:List Int}(C:ColI p S k r0 v0)(h:Ops p S.length k R V r0 v0 r v):ColI p S k r v:=by
 induction h with
 | refl=>exact C
 | step h hk hi h0 h1 h2 h3 ih'=>exact ih'.step H.hp.1 (ih _ hk) hk hi h2 h3
theorem PerH.col(H:PerH p F l S R V):∀k,k<S.length->ColI p S k (R k) (V k):=fun k=>by
 induction k using Nat.strongRecOn with
 | ind k ih=>
  intro hk;obtain⟨la,A⟩:=H.P.all;exact H.ops (fun k' hk'=>ih k' hk' (by omega)) (H.col0 hk) (A.ops k hk)
end
def tr(o o':List Cl)(i:Nat):Nat:=OF o' (o.getD i default).id
theorem L6(h:o.Perm o')(hn:(o.map Cl.id).Nodup)(hi:i<o.length):tr o o' i<o.length/\o'.getD (tr o o' i) default=o.getD i default:=by have:=Hn (h.mem_iff.1 (D1 hi)) ((h.map Cl.id).nodup_iff.1 hn);exact⟨by rw[h.length_eq];exact this.1,this.2⟩
theorem KO(h:o.Perm o')(hn:(o.map Cl.id).Nodup)(hi:i<o.length):tr o' o (tr o o' i)=i:=by obtain⟨h1,h2⟩:=L6 h hn hi;have hn':=(h.map Cl.id).nodup_iff.1 hn;obtain⟨h3,h4⟩:=L6 h.symm hn' (i:=tr o o' i) (by rw[<-h.length_eq];exact h1);exact LA hn (by rw[h.length_eq];exact h3) hi (by rw[h4,h2])
theorem Rp(h:o.Perm o')(hn:(o.map Cl.id).Nodup)(hi:i<o.length)(hj:j<o.length)(e:tr o o' i=tr o o' j):i=j:=by rw[<-KO h hn hi,e,KO h hn hj]
theorem AaP{n:Nat}{π ρ:Nat->Nat}(f:Nat->Int)(h1:∀i,i<n->π i<n)(h2:∀i,i<n->ρ i<n)(h3:∀i,i<n->π (ρ i)=i)(h4:∀i,i<n->ρ (π i)=i):sm n (fun i=>f (π i))=sm n f:=by rw[Bn (g:=fun i=>sm n fun m=>if m=π i then f m else 0) fun i hi=>(I6 n (π i) f (h1 i hi)).symm,J7];refine Bn fun m hm=>?_;rw[Gn n (ρ m) _ (h2 m hm) fun i hi hne=>if_neg fun e=>hne (by rw[e,h4 i hi]),if_pos (h3 m hm).symm]
theorem MA{l:List Int}(h:AX l<0)(i:Nat):l.getD i 0=0:=by
 rcases IJ l with ⟨k,hk,e,_⟩|⟨e,h1⟩
 ·omega
 ·by_cases hi:i<l.length
  ·rw[show l.getD i 0=l[i] by simp[List.getD,hi]];exact h1 i hi
  ·simp[List.getD,List.getElem?_eq_none (show l.length<=i by omega)]
def vO(o:List Cl)(S:List Ce)(V:Nat->List Int)(j i:Nat):Int:=(V (tr o (S.map Ce.c) j)).getD (tr o (S.map Ce.c) i) 0
noncomputable def O8(o:List Cl)(S:List Ce)(R:Nat->List Int)(j:Nat):Option Nat:=if 0<=AX (R (tr o (S.map Ce.c) j)) then some (tr (S.map Ce.c) o (AX (R (tr o (S.map Ce.c) j))).toNat) else none
theorem IW{S:List Ce}(h:i<S.length):(S.map Ce.c).getD i default=Cq S i:=by rw[CJ h];simp[List.getD,h]
def dmo(o:List Cl)(i:Nat):Int:=(o.getD i default).dim
section
variable {p:Int} {F:List (Int×Int)} {l S:List Ce} {R V:Nat->List Int}
theorem PerH.lenS(H:PerH p F l S R V):S.length=(cn l).length:=by have:=H.P.perm.length_eq;simpa using this
theorem PerH.trS(H:PerH p F l S R V)(hi:i<S.length):tr (cn l) (S.map Ce.c) i<S.length/\Cq S (tr (cn l) (S.map Ce.c) i)=(cn l).getD i default:=by
 have h1:=L6 H.P.perm.symm H.G.nd (i:=i) (by rw[<-H.lenS];exact hi);have h2:tr (cn l) (S.map Ce.c) i<S.length:=by rw[H.lenS];exact h1.1
 exact⟨h2,by rw[<-IW h2];exact h1.2⟩
theorem PerH.bndS(H:PerH p F l S R V)(hj:j<S.length)(hi:i<S.length):FC S.length (DM (cn l)) (vO (cn l) S V j) i=FC S.length (EM S) (fun m=>(V (tr (cn l) (S.map Ce.c) j)).getD m 0) (tr (cn l) (S.map Ce.c) i):=by
 have hnS:((S.map Ce.c).map Cl.id).Nodup:=(H.P.perm.map Cl.id).nodup_iff.2 H.G.nd;unfold FC;rw[<-AaP (π:=tr (cn l) (S.map Ce.c)) (ρ:=tr (S.map Ce.c) (cn l)) (fun m=>EM S (tr (cn l) (S.map Ce.c) i) m*(V (tr (cn l) (S.map Ce.c) j)).getD m 0) (fun k hk=>(H.trS hk).1) (fun k hk=>?_) (fun k hk=>?_) (fun k hk=>?_)]
 ·refine Bn fun k hk=>?_;show DM _ i k*(V _).getD _ 0=EM S _ _*_;congr 1;unfold DM EM;rw[(H.trS hk).2,(H.trS hi).2]
 ·have:=(L6 H.P.perm hnS (i:=k) (by simpa using hk)).1;simpa using this
 ·exact KO H.P.perm hnS (by simpa using hk)
 ·exact KO H.P.perm.symm H.G.nd (by rw[<-H.lenS];exact hk)
theorem PerH.lowS(H:PerH p F l S R V)(hj:j<S.length):O8 (cn l) S R j=some i<->i<S.length/\AX (R (tr (cn l) (S.map Ce.c) j))=tr (cn l) (S.map Ce.c) i:=by
 have hnS:((S.map Ce.c).map Cl.id).Nodup:=(H.P.perm.map Cl.id).nodup_iff.2 H.G.nd;have C:=H.col _ (H.trS hj).1;unfold O8;constructor
 ·intro h;split at h
  ·rename_i h0;cases h;have h1:=(Dc (R (tr (cn l) (S.map Ce.c) j))).2;rw[C.rl]at h1;have h2:(AX (R (tr (cn l) (S.map Ce.c) j))).toNat<(S.map Ce.c).length:=by rw[length_map];omega
   have h3:=L6 H.P.perm hnS h2;have h4:=KO H.P.perm hnS h2;refine⟨by simpa using h3.1,?_⟩;rw[h4,Int.toNat_of_nonneg h0]
  ·cases h
 ·rintro⟨hi,h⟩;rw[h,if_pos (by omega),Int.toNat_natCast,KO H.P.perm.symm H.G.nd (by rw[<-H.lenS];exact hi)]
theorem PerH.rdc(H:PerH p F l S R V):Rdc p S.length (DM (cn l)) (dmo (cn l)) (tr (cn l) (S.map Ce.c)) (vO (cn l) S V) (O8 (cn l) S R):=by
 have hp:=H.hp.1;obtain⟨la,A⟩:=H.P.all;have e1:=H.lenS
 have hR:∀k,k<S.length->∀i,p∣(R k).getD i 0->(R k).getD i 0=0:=fun k hk i hd=>by have:=Dd (by omega) (A.red.rr k hk) i;exact(Cg.eq (cgz.2 hd) this ⟨by omega,by omega⟩)
 have hb:∀j i,j<S.length->i<S.length->(p∣FC S.length (DM (cn l)) (vO (cn l) S V j) i<->(R (tr (cn l) (S.map Ce.c) j)).getD (tr (cn l) (S.map Ce.c) i) 0=0):=fun j i hj hi=>by have ht:=(H.trS hj).1;rw[H.bndS hj hi,<-((H.col _ ht).eq _ (H.trS hi).1).dvd_iff];exact⟨hR _ ht _,fun h=>by rw[h];exact Int.dvd_zero p⟩
 refine⟨H.hp.fld,fun i j hi hj=>?_,fun i j hi hj h=>?_,fun i j hi hj h=>?_,fun j hj=>?_,fun j i hj hi h=>?_,fun j hj h i hi=>?_,fun j i hj h=>?_,fun j j' i hj hj' h h'=>?_⟩
 ·rw[e1,DM2 H.G (by omega)];exact Int.dvd_zero p
 ·exact ZJ H.G (by omega) (by omega) fun e=>h (by rw[e];exact Int.dvd_zero p)
 ·exact Rp H.P.perm.symm H.G.nd (by omega) (by omega) h
 ·have C:=H.col _ (H.trS hj).1;refine⟨hj,fun h=>?_,fun i' hi' h=>?_⟩
  ·unfold vO at h;rw[C.one]at h;have:=Int.le_of_dvd (by omega) h;omega
  ·refine Nat.le_of_not_lt fun hlt=>h ?_;unfold vO;rw[C.aft _ hlt];exact Int.dvd_zero p
 ·have C:=H.col _ (H.trS hj).1;have:=C.vd _ (H.trS hi).1 fun e=>h (by unfold vO;rw[e];exact Int.dvd_zero p);rw[(H.trS hi).2,(H.trS hj).2]at this;exact this
 ·rw[hb j i hj hi];refine MA ?_ _;unfold O8 at h;split at h
  ·cases h
  ·omega
 ·obtain⟨hi,e⟩:=(H.lowS hj).1 h;obtain⟨h1,h2,h3⟩:=DN e;refine⟨hi,fun hd=>h2 ((hb j i hj hi).1 hd),fun i' hi' hd=>Nat.le_of_not_lt fun hlt=>hd ((hb j i' hj hi').2 (h3 _ hlt))⟩
 ·obtain⟨hi,e⟩:=(H.lowS hj).1 h;obtain⟨_,e'⟩:=(H.lowS hj').1 h';have a1:=A.red.a1 _ (H.trS hj).1 (by omega);have a2:=A.red.a1 _ (H.trS hj').1 (by omega);rw[e']at a2;rw[e]at a1;exact Rp H.P.perm.symm H.G.nd (by omega) (by omega) (by omega)
end
end Go.Proofs.Q
namespace Go.Proofs.Q
open Go.Eng Go.RowKit Go.Lin Go.Kuhn
variable {m j:Nat}
theorem Lw{α β:Type}{l:List α}{g:α->β}(h:l.Nodup)(hi:∀a∈l,∀b∈l,g a=g b->a=b):(l.map g).Nodup:=
 List.pairwise_map.2 (h.imp_of_mem fun {a b} ha hb hne e=>hne (hi a ha b hb e))
def fo(F:List (Int×Int))(o:List Cl)(i:Nat):Int:=Cb (A6 F) (o.getD i default).id
section
variable {p:Int} {F:List (Int×Int)} {l S:List Ce} {R V:Nat->List Int}
theorem PerH.uniq(H:PerH p F l S R V){j':Nat}(hj:j<S.length)(hj':j'<S.length)(h0:0<=AX (R j))(e:AX (R j)=AX (R j')):j=j':=by obtain⟨la,A⟩:=H.P.all;have a1:=A.red.a1 j hj h0;have a2:=A.red.a1 j' hj' (by omega);rw[e]at a1;omega
theorem PerH.end_some(H:PerH p F l S R V){x:Int}(h:Bm (CZ (Dr S R) (Dr S R).length) (m:Int)=some x):∃j,j<S.length/\x=j/\AX (R j)=m:=by obtain⟨j,h1,h2,h3,_⟩:=Fx h;rw[Ft]at h1;rw[Gb S R h1]at h3;exact⟨j,h1,h2,h3⟩
theorem PerH.end_get(H:PerH p F l S R V)(hj:j<S.length)(e:AX (R j)=m):Bm (CZ (Dr S R) (Dr S R).length) (m:Int)=some (j:Int):=by
 cases h:Bm (CZ (Dr S R) (Dr S R).length) (m:Int) with
 | none=>exact absurd (by rw[Gb S R hj];exact e) (H6 h j (by rw[Ft];exact hj) (by omega))
 | some x=>
  obtain⟨j',h1,rfl,h3⟩:=H.end_some h;rw[H.uniq h1 hj (by omega) (by rw[e,h3])]
theorem PerH.inv(H:PerH p F l S R V)(hm:m<S.length):tr (S.map Ce.c) (cn l) m<S.length/\(cn l).getD (tr (S.map Ce.c) (cn l) m) default=(S.getD m default).c/\tr (cn l) (S.map Ce.c) (tr (S.map Ce.c) (cn l) m)=m:=by
 have hnS:((S.map Ce.c).map Cl.id).Nodup:=(H.P.perm.map Cl.id).nodup_iff.2 H.G.nd;have hm':m<(S.map Ce.c).length:=by simpa using hm
 obtain⟨h1,h2⟩:=L6 H.P.perm hnS hm';refine⟨by simpa using h1,?_,KO H.P.perm hnS hm'⟩;rw[h2,IW hm];rfl
theorem PerH.pair(H:PerH p F l S R V)(hm:m<S.length)(hj:j<S.length)(e:AX (R j)=m):O8 (cn l) S R (tr (S.map Ce.c) (cn l) j)=some (tr (S.map Ce.c) (cn l) m):=by rw[H.lowS (H.inv hj).1];exact⟨(H.inv hm).1,by rw[(H.inv hj).2.2,(H.inv hm).2.2];exact e⟩
end
end Go.Proofs.Q
namespace Go.Proofs.Q
open Go.Eng Go.RowKit Go.Lin
variable {t d:Int} {n i j m:Nat} {b:Nat->Bool}
def Td(f:Int->Int)(S:List Ce)(L:List Int)(d t:Int)(m:Nat):Bool:=match Bm (CZ L L.length) (m:Int) with
 | some j=>decide (f (Cq S m).id<f (Cq S j.toNat).id/\(Cq S m).dim=d/\f (Cq S m).id<=t/\t<f (Cq S j.toNat).id)
 | none=>decide (L.getD m 0<0/\(Cq S m).dim=d/\f (Cq S m).id<=t)
theorem YK(f:Int->Int)(S:List Ce)(L:List Int)(d t:Int)(m:Nat):((GP f S L m).filter (Br.at d t)).length=if Td f S L d t m then 1 else 0:=by
 unfold GP Td;cases Bm (CZ L L.length) (m:Int) with
 | none=>
  show((if L.getD m 0<0 then [⟨(Cq S m).dim,f (Cq S m).id,0,true,(Cq S m).id,0⟩] else []:List Br).filter (Br.at d t)).length=_;generalize Cq S m=x;generalize L.getD m 0=z;by_cases h1:z<0<;>by_cases h2:x.dim=d<;>by_cases h3:f x.id<=t<;>simp[h1,h2,h3,Br.at]
 | some j=>
  show((if f (Cq S m).id<f (Cq S j.toNat).id then [⟨(Cq S m).dim,f (Cq S m).id,f (Cq S j.toNat).id,false,(Cq S m).id,(Cq S j.toNat).id⟩] else []:List Br).filter (Br.at d t)).length=if decide (f (Cq S m).id<f (Cq S j.toNat).id/\(Cq S m).dim=d/\f (Cq S m).id<=t/\t<f (Cq S j.toNat).id)=true then 1 else 0
  generalize Cq S m=x;generalize Cq S j.toNat=y;by_cases h1:f x.id<f y.id<;>by_cases h2:x.dim=d<;>by_cases h3:f x.id<=t<;>by_cases h4:t<f y.id<;>simp[h1,h2,h3,h4,Br.at]
theorem PA(f:Int->Int)(S:List Ce)(L:List Int)(d t:Int):∀n,((Do f S L n).filter (Br.at d t)).length=GS n (Td f S L d t)
 | 0=>rfl
 | n+1=>by rw[DV,filter_append,length_append,PA f S L d t n,YK,Gd]
theorem Aad{a c e:Nat->Bool}(h:∀i,i<n->(if a i then 1 else 0)=(if b i then 1 else 0)+(if c i then 1 else 0)+(if e i then 1 else 0:Nat)):GS n a=GS n b+GS n c+GS n e:=by
 induction n with
 | zero=>rfl
 | succ n ih=>
  have:=h n (by omega);rw[Gd,Gd,Gd,Gd,ih fun i hi=>h i (by omega)];omega
theorem RD(h:∀l,l<n->b l=false):GS n b=0:=by unfold GS Gl;rw[List.length_eq_zero_iff,List.filter_eq_nil_iff];intro a ha;rw[h a (List.mem_range.1 ha)];simp
theorem N8{L:List Nat}(hn:L.Nodup)(h:∀l,l∈L<->l<n/\b l=true):GS n b=L.length:=by unfold GS Gl;refine((List.perm_ext_iff_of_nodup (List.Pairwise.filter _ List.nodup_range) hn).2 fun a=>?_).length_eq;rw[mem_filter,List.mem_range,h]
section
variable {p:Int} {F:List (Int×Int)} {l S:List Ce} {R V:Nat->List Int}
def fs(F:List (Int×Int))(S:List Ce)(i:Nat):Int:=Cb (A6 F) (Cq S i).id
def PP(F:List (Int×Int))(S:List Ce)(d t:Int)(i:Nat):Bool:=decide ((Cq S i).dim=d/\fs F S i<=t)
noncomputable def Uv(R:Nat->List Int)(i:Nat):Bool:=decide (0<=AX (R i))
theorem inA_iff:PP F S d t i=true<->(Cq S i).dim=d/\fs F S i<=t:=decide_eq_true_iff
theorem nzA_iff:Uv R i=true<->0<=AX (R i):=decide_eq_true_iff
theorem PerH.fmono(H:PerH p F l S R V)(hij:i<=j)(hj:j<S.length):fs F S i<=fs F S j:=by
 rcases Nat.lt_or_eq_of_le hij with h|h
 ·have:=List.pairwise_iff_getElem.1 H.P.srt i j (by omega) hj h;unfold fs;rw[CJ hj,CJ (by omega:i<S.length)];omega
 ·rw[h];exact Int.le_refl _
theorem PerH.low_lt(H:PerH p F l S R V)(hj:j<S.length)(e:AX (R j)=m):m<j/\(Cq S j).dim=(Cq S m).dim+1:=by
 have C:=H.col j hj;obtain⟨la,A⟩:=H.P.all;obtain⟨h1,h2,h3⟩:=DN e;rw[C.rl]at h1;have hp:=H.hp.1;refine⟨?_,C.rd m h1 h2⟩;have hn:¬p∣FC S.length (EM S) (fun k=>(V j).getD k 0) m:=fun hd=>h2 (Cg.eq ((C.eq m h1).trans (cgz.2 hd)) (Dd (by omega) (A.red.rr j hj) m) ⟨by omega,by omega⟩);obtain⟨k,hk,h4⟩:=ZB hn;have h5:EM S m k≠0:=fun e=>h4 (by rw[e,Int.zero_mul];exact Int.dvd_zero p);have h6:(V j).getD k 0≠0:=fun e=>h4 (by show p∣_*(V j).getD k 0;rw[e,Int.mul_zero];exact Int.dvd_zero p);obtain⟨s,hs,e1⟩:=MH h5;obtain⟨m',h7,h8,_⟩:=H.before hk hs;have:m'=m:=H.inj (by omega) h1 (by rw[h8,e1]);subst this;rcases (by omega:k<=j\/j<k) with h9|h9
 ·omega
 ·exact absurd (C.aft k h9) h6
theorem PerH.low_none(H:PerH p F l S R V)(hj:j<S.length)(e:AX (R j)=m):AX (R m)<0:=by
 have hm:m<S.length:=by have:=(H.low_lt hj e).1;omega
 have h1:=H.pair hm hj e;have Q:=H.rdc;have h2:=Q.cyc (fun i hi=>Q.bb _ hi) (Q.lsome _ _ (H.inv hj).1 h1);unfold O8 at h2;rw[(H.inv hm).2.2]at h2;split at h2
 ·cases h2
 ·omega
noncomputable def ZX(F:List (Int×Int))(S:List Ce)(R:Nat->List Int)(d t:Int)(m:Nat):Bool:=@decide (PP F S d t m=true/\∃j,j<S.length/\fs F S j<=t/\AX (R j)=m) (Classical.propDecidable _)
theorem enA_iff:ZX F S R d t m=true<->PP F S d t m=true/\∃j,j<S.length/\fs F S j<=t/\AX (R j)=m:=by unfold ZX;exact @decide_eq_true_iff _ (Classical.propDecidable _)
theorem PerH.ends(H:PerH p F l S R V)(d t:Int):GS S.length (ZX F S R d t)=GS S.length fun j=>PP F S (d+1) t j&&Uv R j:=by
 have hP:∀{j},j∈Gl S.length (fun j=>PP F S (d+1) t j&&Uv R j)<->j<S.length/\(Cq S j).dim=d+1/\fs F S j<=t/\0<=AX (R j):=fun {j}=>by unfold Gl;rw[mem_filter,List.mem_range,Bool.and_eq_true,inA_iff,nzA_iff];exact⟨fun⟨a,⟨b,c⟩,e⟩=>⟨a,b,c,e⟩,fun⟨a,b,c,e⟩=>⟨a,⟨b,c⟩,e⟩⟩
 rw[N8 (L:=(Gl S.length fun j=>PP F S (d+1) t j&&Uv R j).map fun j=>(AX (R j)).toNat),length_map]
 ·rfl
 ·refine Lw (List.Pairwise.filter _ List.nodup_range) fun a ha b hb e=>?_;obtain⟨a1,_,_,a2⟩:=hP.1 ha;obtain⟨b1,_,_,b2⟩:=hP.1 hb;exact H.uniq a1 b1 a2 (by omega)
 ·intro m;rw[enA_iff,inA_iff];constructor
  ·intro h;obtain⟨j,hj,rfl⟩:=List.mem_map.1 h;obtain⟨a1,a2,a3,a4⟩:=hP.1 hj;have e:AX (R j)=((AX (R j)).toNat:Int):=by omega
   obtain⟨h1,h2⟩:=H.low_lt a1 e;have h3:=H.fmono (Nat.le_of_lt h1) a1;exact⟨by omega,⟨by omega,by omega⟩,j,a1,a3,e⟩
  ·rintro⟨hm,⟨h1,h2⟩,j,h3,h4,h5⟩;obtain⟨h6,h7⟩:=H.low_lt h3 h5;exact List.mem_map.2 ⟨j,hP.2 ⟨h3,by omega,h4,by omega⟩,by rw[h5];omega⟩
theorem PerH.bars(H:PerH p F l S R V)(d t:Int):GS S.length (PP F S d t)=((Do (Cb (A6 F)) S (Dr S R) S.length).filter (Br.at d t)).length+(GS S.length fun j=>PP F S d t j&&Uv R j)+GS S.length fun j=>PP F S (d+1) t j&&Uv R j:=by
 rw[PA,<-H.ends];refine Aad fun m hm=>?_
 have hb:Td (Cb (A6 F)) S (Dr S R) d t m=true<->PP F S d t m=true/\¬Uv R m=true/\¬ZX F S R d t m=true:=by
  rw[enA_iff,nzA_iff,inA_iff];unfold Td;cases hg:Bm (CZ (Dr S R) (Dr S R).length) (m:Int) with
  | none=>
   simp only[];rw[decide_eq_true_iff,Gb S R hm];constructor
   ·rintro⟨h1,h2,h3⟩;refine⟨⟨h2,h3⟩,by omega,?_⟩;rintro⟨_,j,h4,_,h5⟩;have:=H.end_get h4 h5;rw[hg]at this;cases this
   ·rintro⟨⟨h1,h2⟩,h3,_⟩;exact⟨by omega,h1,h2⟩
  | some x=>
   obtain⟨j,hj,rfl,e⟩:=H.end_some hg;have h0:=H.low_none hj e;simp only[Int.toNat_natCast];rw[decide_eq_true_iff];constructor
   ·rintro⟨h1,h2,h3,h4⟩;refine⟨⟨h2,h3⟩,by omega,?_⟩;rintro⟨_,j',h5,h6,h7⟩;have:=H.uniq hj h5 (by omega) (by rw[e,h7]);subst this;have h6:Cb (A6 F) (Cq S j).id<=t:=h6;omega
   ·rintro⟨⟨h1,h2⟩,_,h3⟩;have h4:t<Cb (A6 F) (Cq S j).id:=Int.lt_of_not_ge fun h5=>h3 ⟨⟨h1,h2⟩,j,hj,h5,e⟩;have h2:Cb (A6 F) (Cq S m).id<=t:=h2;exact⟨by omega,h1,h2,h4⟩
 have hx:ZX F S R d t m=true->¬Uv R m=true:=by rw[enA_iff,nzA_iff];rintro⟨_,j,h1,_,h2⟩;have:=H.low_none h1 h2;omega
 have hE:ZX F S R d t m=true->PP F S d t m=true:=fun h=>(enA_iff.1 h).1;revert hb hx hE;cases Td (Cb (A6 F)) S (Dr S R) d t m<;>cases PP F S d t m<;>cases Uv R m<;>cases ZX F S R d t m<;>simp
def Uw(S:List Ce)(c:Int):Nat:=OF (S.map Ce.c) c
theorem PerH.pl(H:PerH p F l S R V){y:Cl}(hy:y∈cn l):Uw S y.id<S.length/\Cq S (Uw S y.id)=y:=by
 have hn:((S.map Ce.c).map Cl.id).Nodup:=by have:=H.nd;rw[map_map];exact this
 obtain⟨h1,h2⟩:=Hn (H.P.perm.mem_iff.2 hy) hn;have h1:OF (S.map Ce.c) y.id<S.length:=by simpa using h1
 exact⟨h1,by show Cq S (OF (S.map Ce.c) y.id)=y;rw[<-IW h1];exact h2⟩
theorem mem_sub{F:List (Int×Int)}{o:List Cl}{y:Cl}:y∈E1 F t o<->y∈o/\Cb (A6 F) y.id<=t:=by unfold E1;rw[mem_filter,decide_eq_true_iff]
theorem PerH.ids(H:PerH p F l S R V){c:Int}:c∈BD (E1 F t (cn l)) d<->∃y,y∈cn l/\Cb (A6 F) y.id<=t/\y.dim=d/\y.id=c:=by
 unfold BD;rw[mem_map];constructor
 ·rintro⟨y,hy,e⟩;obtain⟨h1,h2⟩:=List.mem_filter.1 hy;obtain⟨h3,h4⟩:=mem_sub.1 h1;exact⟨y,h3,h4,of_decide_eq_true h2,e⟩
 ·rintro⟨y,h1,h2,h3,e⟩;exact⟨y,List.mem_filter.2 ⟨mem_sub.2 ⟨h1,h2⟩,decide_eq_true h3⟩,e⟩
theorem PerH.idsN(H:PerH p F l S R V)(d t:Int):(BD (E1 F t (cn l)) d).Nodup:=by unfold BD;exact H.G.nd.sublist ((List.filter_sublist.trans List.filter_sublist).map _)
theorem PerH.nIds(H:PerH p F l S R V)(d t:Int):(BD (E1 F t (cn l)) d).length=GS S.length (PP F S d t):=by
 rw[N8 (L:=(BD (E1 F t (cn l)) d).map (Uw S)),length_map]
 ·refine Lw (H.idsN d t) fun a ha b hb e=>?_;obtain⟨y,h1,_,_,rfl⟩:=H.ids.1 ha;obtain⟨z,h2,_,_,rfl⟩:=H.ids.1 hb;have:=(H.pl h1).2;rw[e,(H.pl h2).2]at this;rw[this]
 ·intro m;rw[inA_iff,mem_map];constructor
  ·rintro⟨c,hc,rfl⟩;obtain⟨y,h1,h2,h3,rfl⟩:=H.ids.1 hc;obtain⟨h4,h5⟩:=H.pl h1;exact⟨h4,by rw[h5];exact h3,by unfold fs;rw[h5];exact h2⟩
  ·rintro⟨hm,h1,h2⟩;refine⟨(Cq S m).id,H.ids.2 ⟨_,H.mem hm,h2,h1,Y⟩,?_⟩;obtain⟨h4,h5⟩:=H.pl (H.mem hm);exact H.inj h4 hm (by rw[h5])
theorem PerH.rank(H:PerH p F l S R V)(d t:Int){ρ:Nat}(hr:RkO p (E1 F t (cn l)) d ρ):ρ=GS S.length fun j=>PP F S d t j&&Uv R j:=by
 obtain⟨E,pv,hE,rfl⟩:=hr;obtain⟨la,A⟩:=H.P.all;have hp:=H.hp.1;obtain⟨sb,hsb⟩:∃sb,E1 F t (cn l)=sb:=⟨_,Y⟩
 have hids:∀{d c},c∈BD sb d<->∃y,y∈cn l/\Cb (A6 F) y.id<=t/\y.dim=d/\y.id=c:=fun {d c}=>by rw[<-hsb];exact H.ids
 have hcel:∀{y},y∈cn l->Cb (A6 F) y.id<=t->Gp sb y.id=y:=fun {y} hy h=>by
  refine CT ?_ ?_
  ·rw[<-hsb];exact H.G.nd.sublist (List.filter_sublist.map _)
  ·rw[<-hsb];exact mem_sub.2 ⟨hy,h⟩
 rw[hsb]at hE
 have hgc:∀k,k<(BD sb d).length->∃y,y∈cn l/\Cb (A6 F) y.id<=t/\y.dim=d/\y.id=(BD sb d).getD k 0:=fun k hk=>by refine hids.1 ?_;rw[show(BD sb d).getD k 0=(BD sb d)[k] by simp[List.getD,hk]];exact getElem_mem hk
 have hgr:∀k,k<(BD sb (d-1)).length->∃y,y∈cn l/\Cb (A6 F) y.id<=t/\y.dim=d-1/\y.id=(BD sb (d-1)).getD k 0:=fun k hk=>by refine hids.1 ?_;rw[show(BD sb (d-1)).getD k 0=(BD sb (d-1))[k] by simp[List.getD,hk]];exact getElem_mem hk
 refine Ta (N:=S.length) (D:=EM S) (q:=fun k=>Uw S ((BD sb d).getD k 0)) (ρ:=fun i=>Uw S ((BD sb (d-1)).getD i 0)) (b:=PP F S d t) H.hp.fld hE.red (fun k hk=>?_) (fun k hk=>?_) (fun i hi k hk=>?_) (fun x hx k hk hno=>?_) (fun j hj=>?_) (fun j i=>(R j).getD i 0) (fun j i=>(V j).getD i 0) (fun j hj hb i hi=>?_) (fun j hj hb=>?_) (fun j m hj hb hm=>?_) (fun j m hj hm hb hv=>?_) (Uv R) (fun j=>(AX (R j)).toNat) (fun j hj hb hn i hi=>?_) (fun j hj hb hn=>?_) (fun j k hj hk hb hb' hn hn' e=>?_)
 ·obtain⟨y,h1,_,_,e⟩:=hgc k hk;rw[<-e];exact(H.pl h1).1
 ·obtain⟨y,h1,_,_,e⟩:=hgr k hk;rw[<-e];exact(H.pl h1).1
 ·obtain⟨y,h1,h2,_,e⟩:=hgc k hk;obtain⟨z,h3,h4,_,e'⟩:=hgr i hi;refine(Cg.mod p _).trans (Cg.of_eq ?_);show If sb d i k=EM S (Uw S ((BD sb (d-1)).getD i 0)) (Uw S ((BD sb d).getD k 0));unfold If EM;rw[<-e,<-e',hcel h1 h2,(H.pl h1).2,(H.pl h3).2]
 ·obtain⟨y,h1,h2,h3,e⟩:=hgc k hk;refine Cg.of_eq (Classical.byContradiction fun hne=>?_);have hne:sgn (Cq S (Uw S ((BD sb d).getD k 0))).sd (Cq S x).id≠0:=hne;rw[<-e,(H.pl h1).2]at hne;obtain⟨s,hs,es⟩:=MH hne;obtain⟨z,hz,ez,dz⟩:=H.G.sid y h1 s hs;have hm:=H.mon y h1 s hs;have hmem:z.id∈BD sb (d-1):=hids.2 ⟨z,hz,by rw[ez];omega,by omega,rfl⟩;obtain⟨i,hi,ei⟩:=getElem_of_mem hmem;refine hno i hi ?_;show Uw S ((BD sb (d-1)).getD i 0)=x;rw[show(BD sb (d-1)).getD i 0=(BD sb (d-1))[i] by simp[List.getD,hi],ei];exact H.inj (H.pl hz).1 hx (by rw[(H.pl hz).2,ez,es])
 ·rw[inA_iff];constructor
  ·rintro⟨h1,h2⟩;have hmem:(Cq S j).id∈BD sb d:=hids.2 ⟨_,H.mem hj,h2,h1,Y⟩;obtain⟨k,hk,ek⟩:=getElem_of_mem hmem;refine⟨k,hk,?_⟩;show Uw S ((BD sb d).getD k 0)=j;rw[show(BD sb d).getD k 0=(BD sb d)[k] by simp[List.getD,hk],ek];exact H.inj (H.pl (H.mem hj)).1 hj (by rw[(H.pl (H.mem hj)).2])
  ·rintro⟨k,hk,rfl⟩;obtain⟨y,h1,h2,h3,e⟩:=hgc k hk;show(Cq S (Uw S ((BD sb d).getD k 0))).dim=d/\fs F S (Uw S ((BD sb d).getD k 0))<=t;unfold fs;rw[<-e,(H.pl h1).2];exact⟨h3,h2⟩
 ·refine((H.col j hj).eq i hi).trans (Cg.of_eq ?_);unfold FC;exact Bn fun k _=>Int.mul_comm _ _
 ·exact(H.col j hj).one
 ·exact(H.col j hj).aft m hm
 ·have C:=H.col j hj;have h1:=C.vd m hm hv;have h2:m<=j:=Nat.le_of_not_lt fun h=>hv (C.aft m h);have h3:=H.fmono h2 hj;rw[inA_iff]at hb ⊢;exact⟨by omega,by omega⟩
 ·have hn:¬0<=AX (R j):=of_decide_eq_false hn;show Cg p ((R j).getD i 0) 0;rw[MA (by omega) i];exact Cg.refl p 0
 ·have hn:=nzA_iff.1 hn;have e:AX (R j)=((AX (R j)).toNat:Int):=by omega
  obtain⟨h1,h2,h3⟩:=DN e;rw[(H.col j hj).rl]at h1;refine⟨h1,fun hd=>h2 ?_,fun i hi _=>?_⟩
  ·exact Cg.eq (cgz.2 hd) (Dd (by omega) (A.red.rr j hj) _) ⟨by omega,by omega⟩
  ·show p∣(R j).getD i 0;rw[h3 i hi];exact Int.dvd_zero p
 ·have hn:=nzA_iff.1 hn;have hn':=nzA_iff.1 hn';have e:(AX (R j)).toNat=(AX (R k)).toNat:=e;exact H.uniq hj hk hn (by omega)
theorem PerH.betti(H:PerH p F l S R V)(t D:Int)(rk:Nat->Nat)(hD:Kv (E1 F t (cn l)) D)(h0:rk 0=0)(hrk:∀n:Nat,n<(D+1).toNat->RkO p (E1 F t (cn l)) (n+1) (rk (n+1)))(d:Nat) :
  (((Do (Cb (A6 F)) S (Dr S R) S.length).filter (Br.at d t)).length:Int)=if d<(D+1).toNat then(Mw (E1 F t (cn l)) rk (D+1).toNat).getD d 0 else 0:=by
 have h1:=H.bars d t;split
 ·rename_i hd
  have h2:(Mw (E1 F t (cn l)) rk (D+1).toNat).getD d 0=((BD (E1 F t (cn l)) d).length:Int)-rk d-rk (d+1):=by unfold Mw;simp[List.getD,hd]
  have h3:=H.rank _ _ (hrk d hd)
  have h4:rk d=GS S.length fun j=>PP F S d t j&&Uv R j:=by
   cases d with
   | zero=>
    rw[h0,RD];intro j hj;refine Bool.eq_false_iff.2 fun h=>?_;rw[Bool.and_eq_true,inA_iff,nzA_iff]at h;have e:AX (R j)=((AX (R j)).toNat:Int):=by omega
    obtain⟨h5,h6⟩:=H.low_lt hj e;have:=H.G.dim _ (H.mem (i:=(AX (R j)).toNat) (by omega));have:=h.1.1;omega
   | succ d=>
    exact H.rank _ _ (hrk d (by omega))
  rw[h2,h4,h3,H.nIds,h1];omega
 ·rename_i hd
  have h2:GS S.length (PP F S d t)=0:=RD fun j hj=>by refine Bool.eq_false_iff.2 fun h=>?_;obtain⟨h3,h4⟩:=inA_iff.1 h;have h5:=hD.2.1 _ (mem_sub.2 ⟨H.mem hj,h4⟩);have:=hD.1;omega
  omega
end
end Go.Proofs.Q
namespace Go.Proofs.Q
open Go.Eng Go.RowKit Go.Lin Go.Kuhn
structure T4(o:List Cl)(F:List (Int×Int)):Prop where
 fst:F.map Prod.fst=o.map Cl.id
 bd:∀q∈F,-2000000000<=q.2/\q.2<=2000000000
 at_:∀i,i<o.length->fo F o i=(F.getD i (0,0)).2
 chk:DF o F=(0,0)
 bI:∀c,-2000000000<=Cb (A6 F) c/\Cb (A6 F) c<=2000000000
 mon:∀x∈o,∀s∈x.sd,Cb (A6 F) s.1<=Cb (A6 F) x.id
theorem Wy{o:List Cl}(G:Rgt o)(w:Int->Int)(hb:∀y∈o,-2000000000<=w y.id/\w y.id<=2000000000)(hm:∀x∈o,∀s∈x.sd,w s.1<=w x.id):T4 o (o.map fun x=>(x.id,w x.id)):=by
 obtain⟨F,hF⟩:∃F,(o.map fun x=>(x.id,w x.id))=F:=⟨_,Y⟩
 have e0:F=o.map fun x=>(x.id,w x.id):=hF.symm;have e1:F.map Prod.fst=o.map Cl.id:=by rw[e0,map_map];rfl
 have hnd:(F.map Prod.fst).Nodup:=by rw[e1];exact G.nd
 have hat:∀x∈o,Cb (A6 F) x.id=w x.id:=fun x hx=>PF hnd (by rw[e0];exact List.mem_map.2 ⟨x,hx,Y⟩)
 have hmon:∀x∈o,∀s∈x.sd,Cb (A6 F) s.1<=Cb (A6 F) x.id:=fun x hx s hs=>by obtain⟨y,hy,e,_⟩:=G.sid x hx s hs;rw[hat x hx,<-e,hat y hy,e];exact hm x hx s hs
 rw[hF];refine⟨e1,fun q hq=>?_,fun i hi=>?_,QE (fun j hj=>?_) (fun j hj=>?_) (fun j hj=>?_),fun c=>?_,hmon⟩
 ·rw[e0]at hq;obtain⟨x,hx,rfl⟩:=List.mem_map.1 hq;exact hb x hx
 ·have h1:o.getD i default=o[i]:=by simp[List.getD,hi]
  unfold fo;rw[h1,hat _ (getElem_mem hi),e0];simp[List.getD,hi]
 ·have hjo:j<o.length:=by rw[e0,length_map]at hj;exact hj
  have h1:(F.getD j (0,0)).1=o[j].id:=by rw[e0];simp[List.getD,hjo]
  unfold fA;rw[h1,Dp G.nd (getElem_mem hjo),if_neg (by simp),if_neg fun h=>?_];obtain⟨q,hq,e⟩:=List.mem_map.1 h;obtain⟨i,hi,rfl⟩:=getElem_of_mem hq;rw[length_take]at hi;have hp:=List.pairwise_iff_getElem.1 G.nd i j (by simp;omega) (by simpa using hjo) (by omega);rw[getElem_map,getElem_map]at hp;refine hp ?_;rw[List.getElem_take]at e;rw[<-e];simp only[e0,getElem_map]
 ·unfold fB;rw[if_neg];intro h;refine h ?_;rw[e1];exact List.mem_map.2 ⟨_,D1 hj,Y⟩
 ·unfold fC;rw[if_neg];rintro⟨s,hs,h⟩;have:=hmon _ (D1 hj) s hs;unfold Cb at this;unfold GQ at h;omega
 ·unfold Cb;cases h:Bm (A6 F) c with
  | none=>simp
  | some x=>
   have hc:c∈(A6 F).map Prod.fst:=Classical.byContradiction fun hn=>by rw[C7 hn]at h;cases h
   rw[Mr,e1]at hc;obtain⟨y,hy,rfl⟩:=List.mem_map.1 hc;have:=hat y hy;unfold Cb at this;rw[h]at this;rw[this];exact hb y hy
end Go.Proofs.Q

namespace Go.Proofs.Q
open Go.Eng Go.RowKit
theorem Hc(f:Int×Int×Int->Int)(g:Int×Int×Int->Int)(κ:Int):∀T:Gi,(∀e∈T,f e=κ*g e)->(T.map f).sum=κ*(T.map g).sum
 | [],_=>by simp
 | e::T,h=>by rw[map_cons,map_cons,sum_cons,sum_cons,h e Mh,Hc f g κ T fun e he=>h e (mem_cons_of_mem _ he),Int.mul_add]
theorem GoodT.ren{T:Gi}{s s':List (Int×Int)}(G:GoodT T s)(φ κ:Int->Int)(hφ:∀e∈T,∀e'∈T,φ e.2.1=φ e'.2.1->e.2.1=e'.2.1)(hs:∀a∈s',∃b∈s,a.1=φ b.1):GoodT (T.map fun e=>(φ e.1,φ e.2.1,κ e.2.1*e.2.2)) s' where
 sum:=fun e' he'=>by
  obtain⟨e,he,rfl⟩:=List.mem_map.1 he';have h1:=G.sum e he;unfold D8 at *;rw[map_map,Hc _ (fun e'=>if e'.2.1=e.2.1 then e'.2.2 else 0) (κ e.2.1) T fun e' he'=>?_,h1,Int.mul_zero];show(if φ e'.2.1=φ e.2.1 then κ e'.2.1*e'.2.2 else 0)=_;by_cases h:e'.2.1=e.2.1
  ·rw[if_pos h,h,if_pos rfl]
  ·rw[if_neg h,if_neg fun q=>h (hφ _ he' _ he q),Int.mul_zero]
 two:=fun e' he'=>by
  obtain⟨e,he,rfl⟩:=List.mem_map.1 he';have h1:=G.two e he;unfold Fp at *;rw[map_map,Hc _ (fun e'=>if e'.2.1=e.2.1 then 1 else 0) 1 T fun e' he'=>?_,h1]
  ·rfl
  show(if φ e'.2.1=φ e.2.1 then(1:Int) else 0)=_;by_cases h:e'.2.1=e.2.1
  ·rw[if_pos h,h,if_pos rfl];rfl
  ·rw[if_neg h,if_neg fun q=>h (hφ _ he' _ he q)];rfl
 con:=fun a ha b hb=>by
  obtain⟨a',ha',ea⟩:=hs a ha;obtain⟨b',hb',eb⟩:=hs b hb;rw[ea,eb];have h:=G.con a' ha' b' hb';generalize a'.1=x at *;generalize b'.1=y at *;clear ea eb
  induction h with
  | refl=>exact .refl _
  | step _ h1 h2 ih=>exact .step ih (List.mem_map.2 ⟨_,h1,Y⟩) (List.mem_map.2 ⟨_,h2,Y⟩)
variable {n k b m j:Nat} {all:List (List Int)} {S l t s:List Int} {f:Nat->Int}
abbrev Inc(l:List Int):Prop:=l.Pairwise (· < ·)
theorem NG{x:Int}(h:t.Sublist (l++[x])):t.Sublist l\/∃t',t=t'++[x]/\t'.Sublist l:=by
 obtain⟨t1,t2,e,h1,h2⟩:=List.sublist_append_iff.1 h
 have h3:t2=[]\/t2=[x]:=by
  cases h2 with
  | cons _ h=>exact .inl (List.sublist_nil.1 h)
  | cons_cons _ h=>exact .inr (by rw[List.sublist_nil.1 h])
 rcases h3 with rfl|rfl
 ·left;rw[e,append_nil];exact h1
 ·exact .inr ⟨t1,e,h1⟩
theorem N9(s:List Int)(b:Nat):∀n,n<=s.length->(Eu s b n).Sublist (s.take n)
 | 0,_=>by simp[Eu]
 | n+1,h=>by
  rw[HA,take_succ_eq_append_getElem (by omega)];refine(N9 s b n (by omega)).append ?_;split
  ·simp[List.getD,show n<s.length by omega]
  ·simp
theorem To{b':Nat}(h:∀k,k<n->b.testBit k=b'.testBit k):Eu s b n=Eu s b' n:=by unfold Eu;congr 1;exact List.filter_congr fun k hk=>h k (List.mem_range.1 hk)
theorem Lq(s:List Int):∀n,n<=s.length->∀t:List Int,t.Sublist (s.take n)->∃b,b<2^n/\t=Eu s b n
 | 0,_,t,ht=>⟨0,by simp,by simpa[Eu] using ht⟩
 | n+1,h,t,ht=>by
  rw[take_succ_eq_append_getElem (by omega)]at ht;have h2:2^(n+1)=2^n+2^n:=by rw[Nat.pow_succ];omega
  rcases NG ht with h1|⟨t',rfl,h1⟩
  ·obtain⟨b,hb,e⟩:=Lq s n (by omega) t h1;refine⟨b,by omega,?_⟩;rw[HA,Nat.testBit_lt_two_pow hb,e];simp
  ·obtain⟨b,hb,e⟩:=Lq s n (by omega) t' h1;refine⟨2^n+b,by omega,?_⟩;rw[HA,Nat.testBit_two_pow_add_eq,Nat.testBit_lt_two_pow hb,e];rw[To (b:=2^n+b) (b':=b) fun k hk=>Nat.testBit_two_pow_add_gt hk b];simp[List.getD,show n<s.length by omega]
theorem TN(s:List Int)(n:Nat):Eu s 0 n=[]:=by simp[Eu]
theorem Q5(H:SrtB all):t∈CP all s (2^s.length-1)<->t∈all\/(t≠[]/\t.Sublist s)\/(t=[]/\∃b,1<=b/\b<=2^s.length-1/\Eu s b s.length=[]):=by
 rw[H3 H];constructor
 ·rintro(h|⟨b,h1,h2,rfl⟩)
  ·exact .inl h
  ·by_cases h3:Eu s b s.length=[]
   ·exact .inr (.inr ⟨h3,b,h1,h2,h3⟩)
   ·refine .inr (.inl ⟨h3,?_⟩);have:=N9 s b s.length (Nat.le_refl _)
    rwa [take_length]at this
 ·rintro(h|⟨h1,h2⟩|⟨rfl,b,h1,h2,h3⟩)
  ·exact .inl h
  ·obtain⟨b,hb,e⟩:=Lq s s.length (Nat.le_refl _) t (by rw[take_length];exact h2);refine .inr ⟨b,?_,by omega,e⟩;rcases Nat.eq_zero_or_pos b with rfl|h
   ·rw[TN]at e;exact absurd e h1
   ·exact h
  ·exact .inr ⟨b,h1,h2,h3.symm⟩
theorem Yn(h1:1<=b)(h2:b<2^s.length):Eu s b s.length≠[]:=fun h=>by
 have:b=0:=Nat.eq_of_testBit_eq fun k=>by
  rw[Nat.zero_testBit];by_cases hk:k<s.length
  ·cases hb:b.testBit k with
   | false=>rfl
   | true=>
    have:s.getD k 0∈Eu s b s.length:=by unfold Eu;exact List.mem_map.2 ⟨k,List.mem_filter.2 ⟨List.mem_range.2 hk,hb⟩,Y⟩
    rw[h]at this;cases this
  ·exact Nat.testBit_lt_two_pow (Nat.lt_of_lt_of_le h2 (Nat.pow_le_pow_right (by decide) (by omega)))
 omega
theorem VN{x:Int}(h:Inc l)(hn:¬LV x l):Inc (JV x l):=by
 unfold LV at hn;unfold JV
 have h1:∀y∈l.takeWhile (fun y=>decide (y<x)),y<x:=fun y hy=>by have:=List.all_eq_true.1 (List.all_takeWhile (p:=fun y:Int=>decide (y<x)) (l:=l)) y hy;simpa using this
 have h2:∀l:List Int,Inc l->(l.dropWhile fun y=>decide (y<x)).head?≠some x->∀y∈l.dropWhile (fun y=>decide (y<x)),x<y:=fun l=>by
  induction l with
  | nil=>intro _ _ y hy;cases hy
  | cons a l ih=>
   intro hi hx y hy;rw[List.dropWhile_cons]at hy hx;split at hy
   ·rename_i g;rw[if_pos g]at hx;exact ih (List.pairwise_cons.1 hi).2 hx y hy
   ·rename_i g;rw[if_neg g]at hx;have g1:¬a<x:=by simpa using g
    have g2:a≠x:=by simpa using hx
    rcases List.mem_cons.1 hy with rfl|hy
    ·omega
    ·have:=(List.pairwise_cons.1 hi).1 y hy;omega
 have h3:=h2 l h hn;refine List.pairwise_append.2 ⟨h.sublist (List.takeWhile_sublist _),List.pairwise_cons.2 ⟨h3,h.sublist (List.dropWhile_sublist _)⟩,fun a ha b hb=>?_⟩;have h4:=h1 a ha;rcases List.mem_cons.1 hb with rfl|hb
 ·exact h4
 ·have:=h3 b hb;omega
theorem KX:∀(l acc:List Int) (s:List Int),Inc acc->Eb acc l=some s->Inc s
 | [],acc,s,h,e=>by have:acc=s:=Option.some.inj e;rw[<-this];exact h
 | x::l,acc,s,h,e=>by
  unfold Eb at e;split at e
  ·exact KX l acc s h e
  ·rename_i hn;split at e
   ·cases e
   ·refine KX l _ s ?_ e;exact VN h hn
structure AllS(all:List (List Int)):Prop where
 srt:SrtB all
 inc:∀s∈all,Inc s
 ne:∀s∈all,s≠[]
 sub:∀s∈all,∀t:List Int,t≠[]->t.Sublist s->t∈all
theorem AllS.faces(A:AllS all)(hs:Inc s):AllS (CP all s (2^s.length-1)):=by
 have hm:∀t,t∈CP all s (2^s.length-1)<->t∈all\/(t≠[]/\t.Sublist s):=fun t=>by
  rw[Q5 A.srt];refine⟨fun h=>?_,fun h=>?_⟩
  ·rcases h with h|h|⟨_,b,h1,h2,h3⟩
   ·exact .inl h
   ·exact .inr h
   ·exact absurd h3 (Yn h1 (by have:=Nat.two_pow_pos s.length;omega))
  ·rcases h with h|h
   ·exact .inl h
   ·exact .inr (.inl h)
 refine⟨EA A.srt s _,fun t ht=>?_,fun t ht=>?_,fun t ht u hu hs=>?_⟩
 ·rcases (hm t).1 ht with h|h
  ·exact A.inc t h
  ·exact hs.sublist h.2
 ·rcases (hm t).1 ht with h|h
  ·exact A.ne t h
  ·exact h.1
 ·rw[hm];rcases (hm t).1 ht with h|h
  ·exact .inl (A.sub t h u hu hs)
  ·exact .inr ⟨hu,hs.trans h.2⟩
theorem Mu:∀(ll:List (List Int)) (acc all:List (List Int)),AllS acc->Cx acc ll=some all->AllS all
 | [],acc,all,h,e=>by have:acc=all:=Option.some.inj e;rw[<-this];exact h
 | l::ll,acc,all,h,e=>by
  rw[DC]at e;split at e
  ·cases e
  ·refine Mu ll _ all ?_ e;cases hs:Eb [] l with
   | none=>exact h
   | some s=>exact h.faces (KX l [] s List.Pairwise.nil hs)
def nI(all:List (List Int))(t:List Int):Int:=((C3 all t).1:Int)+1
theorem AllS.nI_at(A:AllS all)(ht:t∈all):∃j,∃hj:j<all.length,all[j]=t/\nI all t=(j:Int)+1:=by obtain⟨j,hj,rfl⟩:=getElem_of_mem ht;exact⟨j,hj,Y,by unfold nI;rw[Pj A.srt hj]⟩
theorem AllS.nI_inj(A:AllS all){u:List Int}(ht:t∈all)(hu:u∈all)(e:nI all t=nI all u):t=u:=by
 obtain⟨j,hj,rfl,e1⟩:=A.nI_at ht;obtain⟨k,hk,rfl,e2⟩:=A.nI_at hu;have:j=k:=by omega
 subst this;rfl
def sk(k i:Nat):Nat:=if i<k then i else i+1
theorem GL(k i:Nat):(i<k/\sk k i=i)\/(k<=i/\sk k i=i+1):=by unfold sk;split<;>omega
theorem Mc(k i:Nat):sk k i≠k:=by unfold sk;split<;>omega
theorem Abn{i:Nat}(hi:i<n):sk k i<n+1:=by unfold sk;split<;>omega
theorem FY(l:List Int)(k i:Nat):(l.eraseIdx k)[i]?=l[sk k i]?:=by rw[List.getElem?_eraseIdx];unfold sk;split<;>rfl
def un(j k:Nat):Nat:=if k<j then k else k-1
theorem Li(j k:Nat):(k<j/\un j k=k)\/(j<=k/\un j k=k-1):=by unfold un;split<;>omega
theorem OG(h:j≠k):sk j (un j k)=k:=by have:=Li j k;have:=GL j (un j k);omega
theorem Sp(l:List Int):(l.eraseIdx k).eraseIdx m=(l.eraseIdx (sk k m)).eraseIdx (un (sk k m) k):=by refine List.ext_getElem? fun i=>?_;rw[FY,FY,FY,FY];congr 1;have:=GL k m;have:=GL m i;have:=GL k (sk m i);have:=Li (sk k m) k;have:=GL (un (sk k m) k) i;have:=GL (sk k m) (sk (un (sk k m) k) i);omega
theorem Vq(hn:l.Nodup)(hj:j<l.length):l[j]∈l.eraseIdx k<->j≠k:=by
 rw[List.mem_iff_getElem?];constructor
 ·rintro⟨i,h⟩ e;rw[FY]at h;obtain⟨h1,h2⟩:=List.getElem?_eq_some_iff.1 h;have:=Hz hn h1 hj h2;exact Mc k i (by omega)
 ·intro h;exact⟨un k j,by rw[FY,OG (Ne.symm h),List.getElem?_eq_getElem hj]⟩
theorem Ke(hn:l.Nodup)(hj:j<l.length):l[j]∈(l.eraseIdx k).eraseIdx m<->j≠k/\j≠sk k m:=by
 rw[List.mem_iff_getElem?];constructor
 ·rintro⟨i,h⟩;rw[FY,FY]at h;obtain⟨h1,h2⟩:=List.getElem?_eq_some_iff.1 h;have:=Hz hn h1 hj h2;refine⟨fun e=>Mc k (sk m i) (by omega),fun e=>?_⟩;have h3:sk k (sk m i)=sk k m:=by omega
  have h4:=Mc m i;have:=GL k m;have:=GL k (sk m i);omega
 ·rintro⟨h1,h2⟩;have h3:m≠un k j:=fun e=>h2 (by rw[e,OG (Ne.symm h1)]);exact⟨un m (un k j),by rw[FY,FY,OG h3,OG (Ne.symm h1),List.getElem?_eq_getElem hj]⟩
theorem Abm(hn:l.Nodup){a:Nat}(hl:l.length=n+1)(hk:k<n+1)(hm:m<n)(ha:a<n+1)(hb:b<n):(l.eraseIdx k).eraseIdx m=(l.eraseIdx a).eraseIdx b<->(k=a/\m=b)\/(k=sk a b/\m=un (sk a b) a):=by
 constructor
 ·intro h;have hab:=Abn (k:=a) hb
  have h1:¬(a≠k/\a≠sk k m):=fun q=>by have:=(Ke hn (k:=k) (m:=m) (show a<l.length by omega)).2 q;rw[h]at this;exact((Ke hn (show a<l.length by omega)).1 this).1 Y
  have h2:¬(sk a b≠k/\sk a b≠sk k m):=fun q=>by have:=(Ke hn (k:=k) (m:=m) (show sk a b<l.length by omega)).2 q;rw[h]at this;exact((Ke hn (show sk a b<l.length by omega)).1 this).2 Y
  have h3:=Mc a b;have:=GL k m;have:=GL a b;have:=Li (sk a b) a;omega
 ·rintro(⟨rfl,rfl⟩|⟨rfl,rfl⟩)
  ·rfl
  ·exact(Sp l).symm
def rs(n:Nat)(f:Nat->Int):Int:=((range n).map f).sum
theorem NQ(n:Nat)(f:Nat->Int):rs (n+1) f=rs n f+f n:=by unfold rs;rw[range_succ,map_append,List.sum_append];simp
theorem RF(h:∀i,i<n->f i=0):rs n f=0:=by
 induction n with
 | zero=>rfl
 | succ n ih=>rw[NQ,ih fun i hi=>h i (by omega),h n (by omega)];rfl
theorem Nw(hk:k<n)(h:∀i,i<n->i≠k->f i=0):rs n f=f k:=by
 induction n with
 | zero=>omega
 | succ n ih=>
  rw[NQ];rcases (by omega:k=n\/k<n) with rfl|h1
  ·rw[RF fun i hi=>h i (by omega) (by omega),Int.zero_add]
  ·rw[ih h1 fun i hi=>h i (by omega),h n (by omega) (by omega),Int.add_zero]
theorem ZN{k':Nat}(hk:k<n)(hk':k'<n)(hne:k≠k')(h:∀i,i<n->i≠k->i≠k'->f i=0):rs n f=f k+f k':=by
 induction n with
 | zero=>omega
 | succ n ih=>
  rw[NQ];rcases (by omega:k=n\/(k<n/\k'=n)\/(k<n/\k'<n)) with rfl|⟨h1,rfl⟩|⟨h1,h2⟩
  ·rw[Nw (k:=k') (by omega) fun i hi hn=>h i (by omega) (by omega) hn,Int.add_comm]
  ·rw[Nw (k:=k) h1 fun i hi hn=>h i (by omega) hn (by omega)]
  ·rw[ih h1 h2 fun i hi=>h i (by omega),h n (by omega) (by omega) (by omega),Int.add_zero]
theorem Pd{α:Type}(f:α->List Int):∀l:List α,(l.flatMap f).sum=(l.map fun a=>(f a).sum).sum
 | []=>rfl
 | a::l=>by rw[List.flatMap_cons,List.sum_append,Pd f l,map_cons,sum_cons]
def sg(k:Nat):Int:=1-2*((k:Int)%2)
theorem RO(k:Nat):sg (k+1)=- sg k:=by unfold sg;omega
theorem Abi(k:Nat):sg k=1\/sg k=-1:=by unfold sg;omega
def Ic(all:List (List Int))(t:List Int):List (Int×Int):=(range t.length).map fun k=>(nI all (t.eraseIdx k),sg k)
def sc(all:List (List Int))(t:List Int):Cl:=⟨nI all t,(t.length:Int)-1,if t.length<=1 then [] else B7 (Ic all t)⟩
theorem Q1(A:AllS all):(range all.length).map (DK all)=all.map (sc all):=by
 refine List.ext_getElem (by simp) fun j h1 h2=>?_;have hj:j<all.length:=by simpa using h2
 rw[getElem_map,getElem_map,List.getElem_range];have e:all.getD j []=all[j]:=by simp[List.getD,hj]
 unfold DK sc;rw[e];unfold nI;rw[Pj A.srt hj];rfl
def TV(all:List (List Int))(S:List Int)(n:Nat):Gi:=(range (n+1)).flatMap fun k=>(range n).map fun m=>(nI all (S.eraseIdx k),nI all ((S.eraseIdx k).eraseIdx m),sg k*sg m)
theorem P5(all:List (List Int))(S:List Int)(n:Nat)(g:Int×Int×Int->Int):((TV all S n).map g).sum=rs (n+1) fun k=>rs n fun m=>g (nI all (S.eraseIdx k),nI all ((S.eraseIdx k).eraseIdx m),sg k*sg m):=by unfold TV;rw[List.map_flatMap,Pd];unfold rs;simp only[map_map];rfl
theorem VU(A:AllS all)(hS:S∈all)(hl:S.length=n+1)(hn:1<=n)(hk:k<n+1):S.eraseIdx k∈all:=by refine A.sub S hS _ (fun e=>?_) (List.eraseIdx_sublist _ _);have:=congrArg List.length e;rw[List.length_eraseIdx,if_pos (by omega)]at this;simp at this;omega
theorem Nq(hl:S.length=n+1)(hk:k<n+1):(S.eraseIdx k).length=n:=by rw[List.length_eraseIdx,if_pos (by omega)];omega
theorem Pt(A:AllS all)(hS:S∈all){a:Nat}(hl:S.length=n+1)(hn:2<=n)(ha:a<n+1)(hb:b<n)(w:Nat->Nat->Int):(rs (n+1) fun k=>rs n fun m=>if nI all ((S.eraseIdx k).eraseIdx m)=nI all ((S.eraseIdx a).eraseIdx b) then w k m else 0)=w a b+w (sk a b) (un (sk a b) a):=by
 have hnd:S.Nodup:=(A.inc S hS).imp fun h e=>by omega
 have hin:∀k m,k<n+1->m<n->(S.eraseIdx k).eraseIdx m∈all:=fun k m hk hm=>by
  obtain⟨n',rfl⟩:∃n',n=n'+1:=⟨n-1,by omega⟩
  exact VU A (VU A hS hl (by omega) hk) (Nq hl hk) (by omega) hm
 have hiff:∀k m,k<n+1->m<n->(nI all ((S.eraseIdx k).eraseIdx m)=nI all ((S.eraseIdx a).eraseIdx b)<->(k=a/\m=b)\/(k=sk a b/\m=un (sk a b) a)):=fun k m hk hm=>by rw[<-Abm hnd hl hk hm ha hb];exact⟨fun h=>A.nI_inj (hin k m hk hm) (hin a b ha hb) h,fun h=>by rw[h]⟩
 have h1:=Mc a b;have h2:=GL a b;have h3:=Li (sk a b) a
 rw[ZN (k:=a) (k':=sk a b) ha (by omega) (Ne.symm h1) fun k hk q1 q2=>RF fun m hm=>if_neg fun q=>by
  rcases (hiff k m hk hm).1 q with q|q
  ·exact q1 q.1
  ·exact q2 q.1]
 rw[Nw (k:=b) hb fun m hm q=>if_neg fun q'=>by
   rcases (hiff a m ha hm).1 q' with q'|q'
   ·exact q q'.2
   ·exact h1 q'.1.symm,if_pos Y,
  Nw (k:=un (sk a b) a) (by omega) fun m hm q=>if_neg fun q'=>by
   rcases (hiff (sk a b) m (by omega) hm).1 q' with q'|q'
   ·exact h1 q'.1
   ·exact q q'.2,if_pos ((hiff _ _ (by omega) (by omega)).2 (.inr ⟨Y,Y⟩))]
theorem OH{e:Int×Int×Int}(h:e∈TV all S n):∃k m,k<n+1/\m<n/\e=(nI all (S.eraseIdx k),nI all ((S.eraseIdx k).eraseIdx m),sg k*sg m):=by obtain⟨k,hk,h1⟩:=List.mem_flatMap.1 h;obtain⟨m,hm,rfl⟩:=List.mem_map.1 h1;exact⟨k,m,List.mem_range.1 hk,List.mem_range.1 hm,Y⟩
theorem Pb(hk:k<n+1)(hm:m<n):(nI all (S.eraseIdx k),nI all ((S.eraseIdx k).eraseIdx m),sg k*sg m)∈TV all S n:=List.mem_flatMap.2 ⟨k,List.mem_range.2 hk,List.mem_map.2 ⟨m,List.mem_range.2 hm,rfl⟩⟩
theorem S9(A:AllS all)(hS:S∈all)(hl:S.length=n+1)(hn:2<=n):GoodT (TV all S n) (Ic all S) where
 sum:=fun e he=>by
  obtain⟨a,b,ha,hb,rfl⟩:=OH he;unfold D8;rw[P5];refine(Pt A hS hl hn ha hb fun k m=>sg k*sg m).trans ?_;have h1:=Mc a b;have h2:=GL a b;have h3:=Li (sk a b) a;rcases h2 with ⟨h4,h5⟩|⟨h4,h5⟩
  ·rw[h5]at h3 ⊢;obtain⟨c,rfl⟩:∃c,a=c+1:=⟨a-1,by omega⟩
   rw[show un b (c+1)=c by omega,RO,Int.neg_mul,Int.mul_comm (sg b)];omega
  ·rw[h5]at h3 ⊢;rw[show un (b+1) a=a by omega,RO,Int.neg_mul,Int.mul_comm (sg b)];omega
 two:=fun e he=>by obtain⟨a,b,ha,hb,rfl⟩:=OH he;unfold Fp;rw[P5];exact Pt A hS hl hn ha hb fun k m=>1
 con:=fun a ha b hb=>by
  unfold Ic at ha hb;obtain⟨k,hk,rfl⟩:=List.mem_map.1 ha;obtain⟨k',hk',rfl⟩:=List.mem_map.1 hb;have hk:=List.mem_range.1 hk;have hk':=List.mem_range.1 hk';show Con _ (nI all (S.eraseIdx k)) (nI all (S.eraseIdx k'));by_cases e:k=k'
  ·subst e;exact .refl _
  ·have h1:=Li k k';have h2:=Li k' k
   have h3:(S.eraseIdx k).eraseIdx (un k k')=(S.eraseIdx k').eraseIdx (un k' k):=by rw[Sp S (k:=k) (m:=un k k'),OG e]
   have m1:=Pb (all:=all) (S:=S) (n:=n) (k:=k) (m:=un k k') (by omega) (by omega);have m2:=Pb (all:=all) (S:=S) (n:=n) (k:=k') (m:=un k' k) (by omega) (by omega);rw[h3]at m1;exact .step (.refl _) m1 m2
theorem AllS.nil:AllS []:=⟨List.Pairwise.nil,nofun,nofun,nofun⟩
theorem UN(ll:List (List Int)):Rgt (En ll):=by
 have hbd:=Xk ll;unfold En at *;cases h:Cx [] ll with
 | none=>exact Rgt.nil
 | some all=>
  rw[h]at hbd;have A:=Mu ll [] all AllS.nil h;have h9:=Fe ll [] all List.Pairwise.nil (fun t ht=>nomatch ht) h;show Rgt ((range all.length).map (DK all));have hbd1:((range all.length).map (DK all)).length<=4000:=hbd.1;rw[Q1 A]at hbd1 ⊢
  have hlen:∀t∈all,1<=t.length:=fun t ht=>by
   have:=A.ne t ht;cases t with
   | nil=>exact absurd Y this
   | cons a t=>simp
  have hnd:((all.map (sc all)).map Cl.id).Nodup:=by rw[map_map];refine List.pairwise_map.2 ((A.srt.imp fun {a b} h e=>?_:all.Pairwise (·≠·)).imp_of_mem fun {a b} ha hb hne e=>hne (A.nI_inj ha hb e));rw[e,Hi]at h;cases h
  have hcel:∀t∈all,Gp (all.map (sc all)) (nI all t)=sc all t:=fun t ht=>CT hnd (List.mem_map.2 ⟨t,ht,Y⟩);have hsd:∀t∈all,2<=t.length->(sc all t).sd=B7 (Ic all t):=fun t _ h=>if_neg (by omega);have hraw:∀t:List Int,(Ic all t).length=t.length:=fun t=>by simp[Ic]
  have hside:∀t∈all,∀s∈(sc all t).sd,∃k,k<t.length/\2<=t.length/\s=(nI all (t.eraseIdx k),sg k):=fun t ht s hs=>by
   by_cases h2:2<=t.length
   ·rw[hsd t ht h2]at hs;have hs:=(BP _).mem_iff.1 hs;unfold Ic at hs;obtain⟨k,hk,rfl⟩:=List.mem_map.1 hs;exact⟨k,List.mem_range.1 hk,h2,Y⟩
   ·have:(sc all t).sd=[]:=if_pos (by omega);rw[this]at hs;cases hs
  have hin:∀t∈all,2<=t.length->∀k,k<t.length->t.eraseIdx k∈all:=fun t ht h2 k hk=>VU A ht (n:=t.length-1) (by omega) (by omega) (by omega);refine⟨hbd1,hnd,fun x hx=>?_,fun x hx=>?_,fun x hx=>?_,fun x hx=>?_,fun x hx s hs=>?_,fun x hx s hs=>?_,fun x hx hd=>?_,fun x hx hd=>?_⟩<;>obtain⟨t,ht,rfl⟩:=List.mem_map.1 hx<;>have hl1:=hlen t ht<;>have hl9:=h9 t ht
  ·show 1<=nI all t;unfold nI;omega
  ·show 0<=(t.length:Int)-1/\(t.length:Int)-1<=8;omega
  ·unfold BU;show ¬(((t.length:Int)-1=0/\0<(sc all t).sd.length)\/((t.length:Int)-1=1/\(sc all t).sd.length≠2)\/(1<(t.length:Int)-1/\((sc all t).sd.length<2\/64<(sc all t).sd.length)));by_cases h2:2<=t.length
   ·rw[hsd t ht h2,GD,hraw];omega
   ·have:(sc all t).sd=[]:=if_pos (by omega);rw[this];simp;omega
  ·by_cases h2:2<=t.length
   ·rw[hsd t ht h2,((BP (Ic all t)).map Prod.fst).nodup_iff];unfold Ic;rw[map_map];refine List.pairwise_map.2 ((List.nodup_range (n:=t.length)).imp_of_mem fun {a b} ha hb hne e=>hne ?_);have ha:=List.mem_range.1 ha;have hb:=List.mem_range.1 hb;have e:=A.nI_inj (hin t ht h2 a ha) (hin t ht h2 b hb) e;have hnd:t.Nodup:=(A.inc t ht).imp fun h e=>by omega
    have h3:t[a] ∉ t.eraseIdx a:=fun q=>(Vq hnd ha).1 q Y;rw[e,Vq hnd ha]at h3;exact Classical.not_not.1 h3
   ·have:(sc all t).sd=[]:=if_pos (by omega);rw[this];simp
  ·obtain⟨k,hk,h2,rfl⟩:=hside t ht s hs;refine⟨_,List.mem_map.2 ⟨_,hin t ht h2 k hk,Y⟩,Y,?_⟩;show((t.eraseIdx k).length:Int)-1=(t.length:Int)-1-1;rw[Nq (n:=t.length-1) (by omega) (by omega)];omega
  ·obtain⟨k,hk,h2,rfl⟩:=hside t ht s hs;exact Abi k
  ·have hd:(t.length:Int)-1=1:=hd;have h2:t.length=2:=by omega
   rw[hsd t ht (by omega),I5 ((BP (Ic all t)).map Prod.snd)];unfold Ic;rw[h2];rfl
  ·have hd:2<=(t.length:Int)-1:=hd;obtain⟨n,hl⟩:∃n,t.length=n+1:=⟨t.length-1,by omega⟩
   have h2:2<=t.length:=by omega
   refine(S9 A ht hl (by omega)).perm ?_ (by rw[hsd t ht h2];exact(BP _).symm);unfold FE;rw[hsd t ht h2]
   have e:TV all t n=KE (fun c=>if c=0 then [] else Ic all (all.getD (c-1).toNat [])) (Ic all t):=by
    unfold KE Ic;rw[List.flatMap_map,hl];refine DY fun k hk=>?_;have hk:=List.mem_range.1 hk;obtain⟨j,hj,e1,e2⟩:=A.nI_at (hin t ht h2 k (by omega));show _=List.map _ (if nI all (t.eraseIdx k)=0 then [] else _);rw[if_neg (by omega)]
    have e3:all.getD (nI all (t.eraseIdx k)-1).toNat []=t.eraseIdx k:=by rw[e2,show(((j:Int)+1)-1).toNat=j by omega];simp[List.getD,hj,e1]
    rw[e3,map_map,Nq hl (by omega)];rfl
   rw[e];refine Iz (BP _).symm fun s hs=>List.Perm.map _ ?_;unfold Ic at hs;obtain⟨k,hk,rfl⟩:=List.mem_map.1 hs;have hk:=List.mem_range.1 hk;obtain⟨j,hj,e1,e2⟩:=A.nI_at (hin t ht h2 k hk);show List.Perm (if nI all (t.eraseIdx k)=0 then [] else _) (Gp (all.map (sc all)) (nI all (t.eraseIdx k))).sd;rw[if_neg (by omega),hcel _ (hin t ht h2 k hk)]
   have e3:all.getD (nI all (t.eraseIdx k)-1).toNat []=t.eraseIdx k:=by rw[e2,show(((j:Int)+1)-1).toNat=j by omega];simp[List.getD,hj,e1]
   rw[e3,hsd _ (hin t ht h2 k hk) (by rw[Nq hl (by omega)];omega)];exact(BP _).symm
theorem X9(ll:List (List Int)):∀x∈En ll,x.id<=(En ll).length:=by
 unfold En;cases h:Cx [] ll with
 | none=>nofun
 | some all=>
  intro x hx;obtain⟨i,hi,rfl⟩:=List.mem_map.1 hx;have hi:=List.mem_range.1 hi;show(i:Int)+1<=(((range all.length).map (DK all)).length:Nat);rw[length_map,List.length_range];omega
end Go.Proofs.Q

namespace Go.Proofs.Q
open Go.Eng Go.RowKit
def Tz(l:List Cl):List Cl:=l.map Cl.can
structure Abe(o:List Cl):Prop where
 n:o.length<=4000
 inc:o.Pairwise fun a b=>a.id<b.id
 pos:∀x∈o,1<=x.id
 fst:∀x∈o,Cp o x=0
 snd:∀x∈o,2<=x.dim->DO o x=0
theorem Rm{l:List Cl}(B:Abe (Tz l)):Rgt l:=by
 have R:RgtF (Tz l):=⟨B.n,B.inc,B.pos,fun x hx=>by obtain⟨y,_,rfl⟩:=List.mem_map.1 hx;exact⟨y,Y⟩,B.fst,B.snd⟩
 refine R.rgt.sim ⟨by unfold Tz;rw[length_map],by unfold Tz;rw[map_map];exact List.Perm.refl _,fun x hx=>⟨x.can,List.mem_map.2 ⟨x,hx,Y⟩,Y,Y,(BP _).symm⟩⟩
instance (x:Cl):DecidablePred (CE [] x):=fun i=>inferInstance
open Go.ChangeShapes Go.WideShapes Go.ChangeAt Go.Deep
theorem own:ownKnob Tryz.prog.godebug=none:=by kernel_rfl
theorem ZO{w w':World}(E:Ext w w'):Below w.heap.size w w':=⟨E.os,E.tape.tape,E.output,E.size,E.block⟩
theorem Se:laidOutB Tryz.prog=true:=by kernel_rfl
section
variable {H:Type} {enc:TypeId×Value->H} {w:World} {base:Nat} {spare:Nat->Bool} {held:Bool}
theorem Tp(n:Nat)(cs:List Value)(y:DataW H×List MemPlace)(h:DataW.trod enc Tryz.prog w base spare held n 3 cs=some y):∃a,cs=cI a/\BN a:=by obtain⟨b,h1,_,h2⟩:=DataW.trod_int U3 h;exact⟨b,h1,bounds_i64 h2⟩
theorem Sy{v:Value}{fuel:Nat}{x:DataW H×List MemPlace}(h:DataW.trod enc Tryz.prog w base spare held fuel 22 [v]=some x):∃l,RdL cI 1 (whole w) [] v l/\∀a∈l,BN a:=
 Pi AU (by kernel_rfl) Be (by decide) Tp h
end
end Go.Proofs.Q

namespace Go.Proofs.YtodheebhahdepaaGreatDoor
open Go Go.ChangeShapes Go.WideShapes Go.ChangeAt Go.RowKit Go.Proofs.Q

theorem O5:(Rows.filterPersistsRow.inPlace==Tryz.prog.inPlace 3)=true:=by kernel_rfl
theorem OV:(Rows.filterPersistsRow.unfollowed==Tryz.prog.unfollowed 3)=true:=by kernel_rfl
theorem OL:(Rows.filterPersistsRow.recurses==Tryz.prog.recurses 3)=true:=by kernel_rfl
theorem Pe:(Rows.filterPersistsRow.named==Tryz.prog.varsNamed 3)=true:=by kernel_rfl

theorem Pq:false=Tryz.prog.looks []:=by kernel_rfl
theorem persists_g2:Tryz.prog.funcNamed "cocycle/cocyclelaw20.FilterPersists" = some 3:=by kernel_rfl
theorem OO:false=Rows.filterPersistsRow.goesBy Tryz.prog:=by kernel_rfl
end Go.Proofs.YtodheebhahdepaaGreatDoor
namespace Go.Proofs.Q
open Go.Proofs.Tryz
open Go.Eng Go.RowKit
variable {F:List (Int×Int)}
def Iu(F:List (Int×Int))(c:Int):Option Int:=(F.find? fun q=>decide (q.1=c)).map Prod.snd
theorem XT{c:Int}{k:Nat}(hk:k<F.length)(h:F[k].1=c)(hno:∀j (hj:j<F.length),j<k->F[j].1≠c):Iu F c=some F[k].2:=by have e:(F.find? fun q=>decide (q.1=c))=some F[k]:=List.find?_eq_some_iff_getElem.2 ⟨decide_eq_true h,k,hk,Y,fun j hj=>by rw[decide_eq_false (hno j (by omega) hj)];rfl⟩;unfold Iu;rw[e];rfl
theorem XO{c:Int}(hno:∀j (hj:j<F.length),F[j].1≠c):Iu F c=none:=by
 unfold Iu;rw[List.find?_eq_none.2 fun x hx=>?_]
 ·rfl
 ·obtain⟨j,hj,rfl⟩:=getElem_of_mem hx;rw[decide_eq_false (hno j hj)];decide
theorem OJ(F:List (Int×Int))(c:Int):(Iu F c).isSome=decide (c∈F.map Prod.fst):=by
 unfold Iu;rw[Option.isSome_map];cases h:F.find? fun q=>decide (q.1=c) with
 | none=>
  rw[List.find?_eq_none]at h
  symm
  refine decide_eq_false fun q=>?_;obtain⟨x,hx,rfl⟩:=List.mem_map.1 q;exact h x hx (decide_eq_true Y)
 | some x=>
  have h1:=List.mem_of_find?_eq_some h;have h2:x.1=c:=by have:=List.find?_some h;simpa using this
  symm
  exact decide_eq_true (List.mem_map.2 ⟨x,h1,h2⟩)
theorem Hb(hn:(F.map Prod.fst).Nodup)(c:Int):(Iu F c).getD 0=GQ F c:=by
 cases h:F.find? fun q=>decide (q.1=c) with
 | none=>
  unfold Iu;rw[h];rw[List.find?_eq_none]at h
  have:c ∉ F.map Prod.fst:=fun q=>by obtain⟨x,hx,rfl⟩:=List.mem_map.1 q;exact h x hx (decide_eq_true Y)
  unfold GQ;rw[<-Mr c F]at this;rw[C7 this];rfl
 | some x=>
  have h1:=List.mem_of_find?_eq_some h;have h2:x.1=c:=by have:=List.find?_some h;simpa using this
  unfold Iu;rw[h];rw[PF (x:=x.2) hn (by rw[<-h2];exact h1)];rfl
theorem F9(F:List (Int×Int))(v:Value)(c:Int)(h:Hp)(hR:RdL cV 2 h [] v F)(ms:List Hp):FnV Tryz.prog 71 #[v,.int .i64 c] h ms (.tuple #[.int .i64 ((Iu F c).getD 0),.bool (Iu F c).isSome]):=by
 refine EO ?_ ms;have o1:=hR.rd.one;have hn:=hR.len_le;refine Aq func71 ntmps71 Y Y (fun w0 hw0=>?_);simp only[AW];refine Ar (Qm Y (Qm Y (Am (Ac (Ar (Qm Y (Am (Ag ?_))))))))
 refine Aw (fun q sl h' ms'=>∃(i:Nat),q=F.length-i/\sl=[(0,v),(1,.int .i64 c),(6,.int .i64 i)]/\h=h'/\ms'=[]/\i<=F.length/\∀j (hj:j<F.length),j<i->F[j].1≠c)
  (F.length-0) _ ⟨0,rfl,rfl,rfl,rfl,by omega,fun j _ h=>by omega⟩ Qs ?_
 rintro q sl h' ms' ⟨i,rfl,rfl,rfl,rfl,hi,hno⟩;refine Ac (Ar (Qm Y (Qm Y (Qx (Au hR.rd.any Y NY Y) Y (Qm Y (Am ?_))))));refine Ap Y (fun hlt=>?_) (fun hlt=>?_)
 ·have hil:i<F.length:=by omega
  have c0:∀ms,Cell h ms (((AE v).add (i*2)).add 0) (.int .i64 F[i].1):=fun ms=>(hR.any (ms:=ms)).cell hil (f:=0) Y;have c1:∀ms,Cell h ms (((AE v).add (i*2)).add 1) (.int .i64 F[i].2):=fun ms=>(hR.any (ms:=ms)).cell hil (f:=1) Y;refine Ah (Ab (Ac (Ag (Ar (Qm Y (Qm Y (Qx (BE (i) hR.rd.any Y NY EZ Y Y) Y (Qf Fq Y (Ql Y U3 (c0 _) (Qm Y (Qm Y (Am ?_))))))))))));refine Ap Y (fun he=>?_) (fun he=>?_)
  ·refine Ac (Ad (Qm Y (Qm Y (Qx (BE (i) hR.rd.any Y NY EZ Y Y) Y (Qf Rg Y (Ql Y U3 (c1 _) (Qm Y (Qm Y (Am (An (Aj (Ae (Ae (Aj (Ae ?_)))))))))))))));exact Bq Y Y Y (by rw[XT hil he hno];rfl)
  ·refine Ah (Ai (Ab (Ad (Qm Y (Qx (oA Y) Y (Qm Y (Al ?_)))))))
   exact Ak (F.length-(i+1)) _ (by omega) ⟨i+1,Y,Y,Y,Y,by omega,fun j hj hji=>by
    rcases (by omega:j<i\/j=i) with h1|rfl
    ·exact hno j hj h1
    ·exact he⟩ Qs
 ·obtain rfl:i=F.length:=by omega
  refine As (Aa (Aa (Af (Ab (Ar (Qm Y (Qm Y (Am (An ?_)))))))));exact Bq Y Y Y (by rw[XO fun j hj=>hno j hj hj];rfl)
end Go.Proofs.Q

namespace Go.Proofs.Q
open Go.Eng Go.RowKit
theorem Rgt.union{a b:List Cl}(A:Rgt a)(B:Rgt b)(hd:∀x∈a,∀y∈b,x.id≠y.id)(hn:a.length+b.length<=4000):Rgt (a++b):=by
 have hnd:((a++b).map Cl.id).Nodup:=by rw[map_append];refine List.nodup_append.2 ⟨A.nd,B.nd,fun x hx y hy=>?_⟩;obtain⟨c,hc,rfl⟩:=List.mem_map.1 hx;obtain⟨e,he,rfl⟩:=List.mem_map.1 hy;exact hd c hc e he
 have tb:∀(o:List Cl) (R:Rgt o),(∀x∈o,x∈a++b)->∀x∈o,FE (a++b) x=FE o x:=fun o R hs x hx=>by
  unfold FE KE;refine DY fun s hs'=>?_;obtain⟨y,hy,e1,_⟩:=R.sid x hx s hs';have h1:Gp (a++b) s.1=Gp o s.1:=by rw[<-e1,CT hnd (hs y hy),CT R.nd hy]
  simp only[h1]
 have ta:=tb a A fun x hx=>List.mem_append.2 (.inl hx);have tb:=tb b B fun x hx=>List.mem_append.2 (.inr hx);refine⟨by rw[length_append];exact hn,hnd,fun x hx=>?_,fun x hx=>?_,fun x hx=>?_,fun x hx=>?_,fun x hx s hs=>?_,fun x hx=>?_,fun x hx=>?_,fun x hx hd=>?_⟩<;>rcases List.mem_append.1 hx with h|h
 ·exact A.pos x h
 ·exact B.pos x h
 ·exact A.dim x h
 ·exact B.dim x h
 ·exact A.num x h
 ·exact B.num x h
 ·exact A.sds x h
 ·exact B.sds x h
 ·obtain⟨y,hy,e⟩:=A.sid x h s hs;exact⟨y,List.mem_append.2 (.inl hy),e⟩
 ·obtain⟨y,hy,e⟩:=B.sid x h s hs;exact⟨y,List.mem_append.2 (.inr hy),e⟩
 ·exact A.sgn x h
 ·exact B.sgn x h
 ·exact A.one x h
 ·exact B.one x h
 ·rw[ta x h];exact A.tab x h hd
 ·rw[tb x h];exact B.tab x h hd
def Wh(m:Int)(c:Cl):Cl:=⟨c.id+m,c.dim,c.sd.map fun s=>(s.1+m,s.2)⟩
theorem Rgt.shift{l:List Cl}(R:Rgt l){m:Int}(hm:0<=m):Rgt (l.map (Wh m)):=by
 have hnd:((l.map (Wh m)).map Cl.id).Nodup:=by rw[map_map];have:=List.pairwise_map.1 R.nd;refine List.pairwise_map.2 (this.imp_of_mem fun {a b} ha hb hne e=>hne ?_);have e:a.id+m=b.id+m:=e;omega
 refine⟨by rw[length_map];exact R.n,hnd,fun x' hx'=>?_,fun x' hx'=>?_,fun x' hx'=>?_,fun x' hx'=>?_,fun x' hx' s' hs'=>?_,fun x' hx' s' hs'=>?_,fun x' hx' hd=>?_,fun x' hx' hd=>?_⟩<;>obtain⟨x,hx,rfl⟩:=List.mem_map.1 hx'
 ·have:=R.pos x hx;show 1<=x.id+m;omega
 ·exact R.dim x hx
 ·have:=R.num x hx;unfold BU at *;show ¬((x.dim=0/\0<(x.sd.map _).length)\/(x.dim=1/\(x.sd.map _).length≠2)\/(1<x.dim/\((x.sd.map _).length<2\/64<(x.sd.map _).length)));rw[length_map];exact this
 ·show((x.sd.map _).map Prod.fst).Nodup;rw[map_map];have:=List.pairwise_map.1 (R.sds x hx);refine List.pairwise_map.2 (this.imp fun {a b} hne e=>hne ?_);have e:a.1+m=b.1+m:=e;omega
 ·obtain⟨s,hs,rfl⟩:=List.mem_map.1 hs';obtain⟨y,hy,e1,e2⟩:=R.sid x hx s hs;exact⟨_,List.mem_map.2 ⟨y,hy,Y⟩,by show y.id+m=s.1+m;rw[e1],e2⟩
 ·obtain⟨s,hs,rfl⟩:=List.mem_map.1 hs';exact R.sgn x hx s hs
 ·have h1:=R.one x hx hd;show((x.sd.map _).map Prod.snd).sum=0;rw[map_map];exact h1
 ·have hd:2<=x.dim:=hd
  have hT:FE (l.map (Wh m)) (Wh m x)=(FE l x).map fun e=>(e.1+m,e.2.1+m,1*e.2.2):=by
   unfold FE KE;show(x.sd.map _).flatMap _=_;rw[List.flatMap_map,List.map_flatMap];refine DY fun s hs=>?_;obtain⟨y,hy,e1,e2⟩:=R.sid x hx s hs
   have h1:Gp (l.map (Wh m)) (s.1+m)=Wh m y:=by rw[<-e1];exact CT hnd (List.mem_map.2 ⟨y,hy,Y⟩)
   have h2:Gp l s.1=y:=by rw[<-e1];exact CT R.nd hy
   show List.map (fun r=>(s.1+m,r.1,s.2*r.2)) (Gp (l.map (Wh m)) (s.1+m)).sd=List.map _ (List.map (fun r=>(s.1,r.1,s.2*r.2)) (Gp l s.1).sd);rw[h1,h2,map_map];show List.map _ (y.sd.map _)=_;rw[map_map];exact List.map_congr_left fun r _=>by simp
  rw[hT]
  exact(R.tab x hx hd).ren (fun c=>c+m) (fun _=>1) (fun e _ e' _ h=>by have h:e.2.1+m=e'.2.1+m:=h;omega) fun a ha=>by obtain⟨s,hs,rfl⟩:=List.mem_map.1 ha;exact⟨s,hs,Y⟩
def IB(o:List Cl):List Int:=(o.filter fun x=>!(o.any fun y=>y.sd.any fun s=>decide (s.1=x.id))).map Cl.id
theorem UR{o:List Cl}{c:Int}(h:c∈IB o):∀y∈o,∀s∈y.sd,s.1≠c:=by
 unfold IB at h;obtain⟨x,hx,rfl⟩:=List.mem_map.1 h;obtain⟨_,h2⟩:=List.mem_filter.1 hx;intro y hy s hs e;have h2:(o.any fun y=>y.sd.any fun s=>decide (s.1=x.id))=false:=by simpa using h2
 have h3:=List.any_eq_false.1 h2 y hy;exact h3 (List.any_eq_true.2 ⟨s,hs,decide_eq_true e⟩)
theorem Rgt.gone{l:List Cl}(R:Rgt l){c:Int}(h:∀y∈l,∀s∈y.sd,s.1≠c):Rgt (l.filter fun x=>decide (x.id≠c)):=
 R.filt fun x hx _ s hs y hy e=>decide_eq_true (by rw[e];exact h x hx s hs)
theorem Zb{o:List Cl}(R:Rgt o)(h:o≠[]):IB o≠[]:=by
 -- a cell of the greatest dimension
 obtain⟨x,hx,hm⟩:∃x∈o,∀y∈o,y.dim<=x.dim:=by
  have:∀l:List Cl,l≠[]->∃x∈l,∀y∈l,y.dim<=x.dim:=fun l=>by
   induction l with
   | nil=>intro h;exact absurd Y h
   | cons a l ih=>
    intro _;by_cases hl:l=[]
    ·subst hl;exact⟨a,Mh,fun y hy=>by rw[List.mem_singleton.1 hy];exact Int.le_refl _⟩
    ·obtain⟨x,hx,hm⟩:=ih hl;by_cases ha:a.dim<=x.dim
     ·exact⟨x,mem_cons_of_mem _ hx,fun y hy=>by
       rcases List.mem_cons.1 hy with rfl|h
       ·exact ha
       ·exact hm y h⟩
     ·exact⟨a,Mh,fun y hy=>by
       rcases List.mem_cons.1 hy with rfl|h
       ·exact Int.le_refl _
       ·have:=hm y h;omega⟩
  exact this o h
 refine List.ne_nil_of_mem (a:=x.id) (List.mem_map.2 ⟨x,List.mem_filter.2 ⟨hx,?_⟩,Y⟩)
 have:(o.any fun y=>y.sd.any fun s=>decide (s.1=x.id))=false:=List.any_eq_false.2 fun y hy q=>by
  obtain⟨s,hs,e⟩:=List.any_eq_true.1 q;obtain⟨z,hz,e1,e2⟩:=R.sid y hy s hs
  have:z=x:=by have h1:=Dp R.nd hz;have h2:=Dp R.nd hx;rw[e1,of_decide_eq_true e,h2]at h1;exact(Option.some.inj h1).symm
  subst this;have:=hm y hy;omega
 rw[this];rfl
def Ux(x:Int):Int×Int:=if x<0 then(-x,-1) else(x,1)
def TW(k:Nat)(r:List Int):Cl:=⟨(k:Int)+1,r.headD 0,r.tail.map Ux⟩
def O9(L:List (List Int)):List Cl:=(range L.length).map fun k=>TW k (L.getD k [])
def Ky(n:Nat):List Int:=if n=1 then [1,-1,2] else if n%2=0 then [(n:Int),2*n-1,-(2*n)] else [(n:Int),-(2*n-1),2*n]
def LS(n:Nat):List (List Int):=[[0],[0]]++(range n).flatMap fun k=>[Ky (k+1),Ky (k+1)]
def Q6(n:Nat):List (List Int):=([[0],[0],[0],[0],[1,-2,3],[1,-3,4],[1,-4,2]]:List (List Int))++((range (3*n)).map fun(k:Nat)=>[(1:Int),-1,2+((k%3:Nat):Int)])++(range (3*n)).map fun(k:Nat)=>[(2:Int),8+(k:Int),5+((k%3:Nat):Int),-(8+(((k+1)%(3*n):Nat):Int))]
def Aav:List (List Int):=[[0],[0],[0],[1,-1,2],[1,-1,2],[1,-2,3],[1,-2,3],[1,-1,3],[1,-1,3],[2,4,6,-8],[2,4,7,-9],[2,5,6,-9],[2,5,7,-8]]
def AaM:List (List Int):=[[0],[0],[0],[0],[1,-1,2],[1,-1,2],[1,-3,4],[1,-3,4],[1,-1,3],[1,-2,4],[1,-3,1],[1,-4,2],[2,5,10,-7,-9],[2,6,10,-8,-9],[2,7,12,-6,-11],[2,8,12,-5,-11]]
def AaF:List (List Int):=[[0],[0],[0],[0],[1,-1,2],[1,-1,2],[1,-3,4],[1,-3,4],[1,-1,3],[1,-2,4],[1,-3,1],[1,-4,2],[2,5,10,-7,-9],[2,6,10,-8,-9],[2,7,12,-5,-11],[2,8,12,-6,-11]]
def E6(n:Nat):List (List Int):=
 if n=0 then [[0]] else if n<=3 then LS n else if n=4 then LS 0 else if n=5 then Aav else if n=6 then Q6 3 else if n=7 then AaM else if n=8 then AaF else Q6 4
theorem AbD(n:Nat)(h:n<10):Abe (Tz (O9 (E6 n))):=by rcases (by omega:n=0\/n=1\/n=2\/n=3\/n=4\/n=5\/n=6\/n=7\/n=8\/n=9) with rfl|rfl|rfl|rfl|rfl|rfl|rfl|rfl|rfl|rfl<;>exact⟨by decide,by decide,by decide,by decide +kernel,by decide +kernel⟩
theorem Nc(n:Nat)(h:n<10):Rgt (O9 (E6 n)):=Rm (AbD n h)
theorem NV(L:List (List Int)):(O9 L).length=L.length:=by simp[O9]
theorem Ka(n:Nat)(h:n<10):(E6 n).length<=31/\(n<5->(E6 n).length<=8):=by rcases (by omega:n=0\/n=1\/n=2\/n=3\/n=4\/n=5\/n=6\/n=7\/n=8\/n=9) with rfl|rfl|rfl|rfl|rfl|rfl|rfl|rfl|rfl|rfl<;>decide
theorem LC{L:List (List Int)}:∀x∈O9 L,1<=x.id/\x.id<=L.length:=fun x hx=>by obtain⟨k,hk,rfl⟩:=List.mem_map.1 hx;have:=List.mem_range.1 hk;show 1<=(k:Int)+1/\(k:Int)+1<=_;omega
open Go.Proofs.Tryz
theorem P8(id dim:Int)(sd:List Int)(v:Value)(hp:Hp)(hR:RdL cI 1 hp [] v sd)(hb:∀x∈sd,-1000000<=x/\x<=1000000)(hn:sd.length<=1000):FnT Tryz.prog 176 #[.int .i64 id,.int .i64 dim,v] hp [] (fun r h' ms'=>hp=h'/\∃vs m,ms'=[m]/\r=.agg #[.int .i64 id,.int .i64 dim,vs]/\OwnL cD 2 119 m vs (sd.map Ux)):=by
 have ov:=hR.rd.one;refine Aq func176 ntmps176 Y Y (fun w0 hw0=>?_);simp only[AW];refine Ar (CG [.int .i64 0,.int .i64 0,.slice none 0 0] Y AG Y Y (fun g6=>BH (Qm Y (Qm Y (Qx (A4 VH [.int .i64 0,.int .i64 0,.slice none 0 0] [(0,_),(1,_)] [_,_,_] Y AG Y Y Qt Y) Y (CG [.int .i64 0,.int .i64 0,.slice none 0 0] Y AG Y Y (fun g7=>?_)))))));refine Sa 0 [_,_,_] AG Y (by simp[Value.oneCell']) ?_;refine Am (BG (Ac (Ar (Qm Y (Am (Ag ?_))))))
 refine Aw (fun q sl h' ms'=>∃(i:Nat) (vs:Value) (m:Hp),q=sd.length-i/\sl=[(2,v),(6,.pointer (some ⟨g6,0,none⟩)),(7,.pointer (some ⟨g7,0,none⟩)),(8,.int .i64 i)]/\hp=h'/\ms'=[m,Bl g7 52 [.int .i64 id,.int .i64 dim,vs],Bl g6 52 [.int .i64 0,.int .i64 0,.slice none 0 0]]/\i<=sd.length/\OwnL cD 2 119 m vs ((sd.take i).map Ux))
  (sd.length-0) _ ⟨0,_,Hp.emp,rfl,rfl,rfl,rfl,by omega,OwnL.nil Es⟩ Qs ?_
 rintro q sl h' ms' ⟨i,vs,m,rfl,rfl,rfl,rfl,hi,hO⟩;have ovs:=hO.o1;refine Ac (Ar (Qm Y (Qm Y (Qx (Au hR.rd.any Y AU Y) Y (Qm Y (Am ?_))))));refine Ap Y (fun hlt=>?_) (fun hlt=>?_)
 ·have hil:i<sd.length:=by omega
  obtain⟨x,hx⟩:∃x,sd[i]=x:=⟨_,Y⟩
  have hxb:=hb x (by rw[<-hx];exact getElem_mem hil);have cx:∀ms,Cell hp ms ((AE v).add (i*1)) (.int .i64 x):=fun ms=>by rw[<-hx];exact(hR.any (ms:=ms)).cell0 hil Y
  have hll:((sd.take i).map Ux).length<=1000:=by rw[length_map,length_take];omega
  have hs:((sd.take (i+1)).map Ux)=((sd.take i).map Ux)++[Ux x]:=by rw[take_succ_eq_append_getElem hil,map_append,hx];rfl
  refine Ah (Ab (Ac (Ag (Ar (Qm Y (Qm Y (Qx (BE (i) hR.rd.any Y AU A5 Y Y) Y (Ql Y U3 (cx _) (Qx (A4 VK [.int .i64 0,.int .i64 0] [(0,_),(1,_)] [_,_] Y AM Y Y Qt Y) Y (CG [.int .i64 0,.int .i64 0] Y AM Y Y (fun g9=>?_)))))))))));refine Sa 0 [_,_] AM Y (by simp[Value.oneCell']) ?_;refine Am (Ac (Ar (Qm Y (Qm Y (Qx (BE (i) hR.rd.any Y AU A5 Y Y) Y (Ql Y U3 (cx _) (Qm Y (Am ?_))))))));refine Ap Y (fun hneg=>?_) (fun hneg=>?_)
  ·refine Ad (Qm Y (Qm Y (Qx (BE (i) hR.rd.any Y AU A5 Y Y) Y (Ql Y U3 (cx _) (Qx (Na Y Y (by omega)) Y (Qx (A4 VK [.int .i64 0,.int .i64 0] [(0,_),(1,_)] [_,_] Y AM Y Y Qt Y) Y ?_))))));refine Sa 0 [_,_] AM Y (by simp[Value.oneCell']) ?_;refine GJ (Qf Bz Y (Ql Y BW (Cell.blk 2 Y Y) (Qx (oG Y DS AM (Seg.blk 0 Y)) Y (Ao [_,_] Y BW AM Y (by rfl) Y Y (by omega) Y Y Y (fun g38=>AR 2 hO (RdL.one Es (x:=(-x,-1)) Mh Y) Y BW AM Y (by omega) Y Y Y Gs (by(try simp only[length_singleton]);omega) (by(try simp only[length_singleton]);omega) rfl rfl rfl (fun v9 m9 hO9=>?_))))));have hs':Ux x=(-x,-1):=by unfold Ux;rw[if_pos hneg]
   rw[<-hs',<-hs]at hO9;have ov9:=hO9.o1;refine Qf Bz Y ?_;refine AP 3 _ Y T8 Y Y (by assumption) Y Y (by(simp;done)) rfl rfl ?_;refine Al (Ai (Ab (Ad (Qm Y (Qx (oA Y) Y (Qm Y (Al (A3 0 Y (A3 0 Y ?_)))))))));exact Ak (sd.length-(i+1)) _ (by omega) ⟨i+1,v9,m9,Y,Y,Y,Y,by omega,hO9⟩ Qs
  ·refine Ah (Ab (Ad (Qf Bz Y (Ql Y BW (Cell.blk 2 Y Y) (Qx (oG Y DS AM (Seg.blk 0 Y)) Y (Ao [_,_] Y BW AM Y (by rfl) Y Y (by omega) Y Y Y (fun g38=>AR 2 hO (RdL.one Es (x:=(x,1)) Mh Y) Y BW AM Y (by omega) Y Y Y Gs (by(try simp only[length_singleton]);omega) (by(try simp only[length_singleton]);omega) rfl rfl rfl (fun v9 m9 hO9=>?_))))))));have hs':Ux x=(x,1):=by unfold Ux;rw[if_neg hneg]
   rw[<-hs',<-hs]at hO9;have ov9:=hO9.o1;refine Qf Bz Y ?_;refine AP 3 _ Y T8 Y Y (by assumption) Y Y (by(simp;done)) rfl rfl ?_;refine Al (Ai (Ab (Ad (Qm Y (Qx (oA Y) Y (Qm Y (Al (A3 0 Y (A3 0 Y ?_)))))))));exact Ak (sd.length-(i+1)) _ (by omega) ⟨i+1,v9,m9,Y,Y,Y,Y,by omega,hO9⟩ Qs
 ·obtain rfl:i=sd.length:=by omega
  refine As (Aa (Aa (Af (Ab (Ar (Qx (oG Y Ei AG (Seg.blk 1 Y)) Y ?_))))));refine Sa 2 [_,_,_] AG Y (by simp[ov,ovs]) ?_;refine Am (An (A3 1 Y ?_));exact By (vs:=[_,_,_]) 1 Y Y Ei Y AG Y Y (⟨Y,vs,m,Y,Y,by rw[take_length]at hO;exact hO⟩)
theorem KB(L:List (List Int))(i:Nat):((range (i+1)).map fun k=>TW k (L.getD k []))=((range i).map fun k=>TW k (L.getD k []))++[TW i (L.getD i [])]:=by rw[range_succ,map_append];rfl
theorem Ht(L:List (List Int))(es0:List Value)(v:Value)(hp:Hp)(hV:RdL cW 1 hp [] v es0)(hE:RdEs hp es0 L)(hb:∀l∈L,l≠[]/\l.length<=1000/\∀x∈l,-1000000<=x/\x<=1000000)(hn:L.length<=1000):FnT Tryz.prog 114 #[v] hp [] (fun r h' ms'=>hp.le h'/\Rn h' r ms' (fun o=>o=O9 L)):=by
 have o1:=hV.rd.one;have hle:=hE.1;refine Aq func114 ntmps114 Y Y (fun w0 hw0=>?_);simp only[AW];refine Ar (CG [.slice none 0 0] Y AY Y Y (fun g2=>BH (CG [.slice none 0 0] Y AY Y Y (fun g3=>Am (Ac (Ar (Qm Y (Am (Ag (BG ?_))))))))))
 refine Aw (fun q sl hh ms'=>∃(i:Nat) (vO:Value) (mO:Hp) (O:List Ce),q=L.length-i/\sl=[(0,v),(2,.pointer (some ⟨g2,0,none⟩)),(3,.pointer (some ⟨g3,0,none⟩)),(4,.int .i64 i)]/\hp.le hh/\ms'=[mO,Bl g3 29 [vO],Bl g2 29 [.slice none 0 0]]/\i<=L.length/\OwnL cC 3 52 mO vO O/\O.map Ce.c=((range i).map fun k=>TW k (L.getD k []))/\∀a∈O,RdL cD 2 hh [] a.v a.c.sd)
  (L.length-0) _ ⟨0,_,Hp.emp,[],rfl,rfl,DT,rfl,by omega,OwnL.nil Cw,rfl,fun a ha=>nomatch ha⟩ Qs ?_
 rintro q sl hh ms' ⟨i,vO,mO,O,rfl,rfl,lh,rfl,hi,hO,hOc,hOs⟩;have hV:=hV.up lh;have hE:=hE.up lh;have ovO:=hO.o1;have hOl:O.length=i:=by have:=congrArg List.length hOc;simpa using this
 refine Ac (Ar (Qm Y (Qm Y (Qx (Au hV.rd.any Y Cr Y) Y (Qm Y (Am ?_))))));refine Ap Y (fun hlt=>?_) (fun hlt=>?_)
 ·have hil:i<L.length:=by omega
  have hie:i<es0.length:=by omega
  have hci:∀ms,Cell hh ms ((AE v).add (i*1)) es0[i]:=fun ms=>(hV.any (ms:=ms)).cell0 hie Y;have hRi:=hE.2 i hie hil;have oei:=hRi.rd.one;obtain⟨hne,hl1,hlb⟩:=hb _ (getElem_mem hil);have hgi:L.getD i []=L[i]:=by simp[List.getD,hil]
  obtain⟨r,hr⟩:∃r,L[i]=r:=⟨_,Y⟩
  rw[hr]at hne hl1 hlb hgi hRi;obtain⟨d,s,rfl⟩:∃d s,r=d::s:=by cases r with|nil=>exact absurd Y hne|cons d s=>exact⟨d,s,Y⟩
  have cd:∀ms,Cell hh ms ((AE es0[i]).add (0*1)) (.int .i64 d):=fun ms=>(hRi.any (ms:=ms)).cell0 (j:=0) (by simp) rfl;have hl0:0<(d::s).length:=by simp
  refine Ah (Ab ?_);refine A8 (fun sl h' ms'=>∃(vO:Value) (mO:Hp) (O:List Ce),sl=[(0,v),(2,.pointer (some ⟨g2,0,none⟩)),(3,.pointer (some ⟨g3,0,none⟩)),(4,.int .i64 i)]/\hh.le h'/\ms'=[mO,Bl g3 29 [vO],Bl g2 29 [.slice none 0 0]]/\OwnL cC 3 52 mO vO O/\O.map Ce.c=((range (i+1)).map fun k=>TW k (L.getD k []))/\∀a∈O,RdL cD 2 h' [] a.v a.c.sd) ?_ (fun s h ms hI=>?_)
  ·refine Ag ?_
   have hRs:RdL cI 1 hh [] (B3 1 es0[i] 1 (d::s).length) s:=by have:=hRi.sub_ (i:=1) (j:=(d::s).length) (by simp) (Nat.le_refl _);simpa using this
   let c:Cl:=⟨(i:Int)+1,d,s.map Ux⟩
   refine BM (n:=20) (bs:=[true,false,true,true,true,true,true,true,true,true,true,true,true,true,true,false,false,false,true,false]) [true,false,true,true,true,true,true,true,true,true,true,true,true,true,true,false,false,false,true] CW (by kernel_rfl) (by kernel_rfl) Y Y (QF B5 Y (Qq Y (Qp Y (oA Y) (Qq Y (Qq Y (Qp Y (BE (i) hV.rd.any Y Cr Cv Y Y) (QL Y AU (hci _) (Qp Y (BE (0) hRi.rd.any Y AU A5 Y Y) (QL Y U3 (cd _) (Qq Y (Qq Y (Qp Y (BE (i) hV.rd.any Y Cr Cv Y Y) (QL Y AU (hci _) (Qp Y (CU (1) hRi.rd.any Y AU A5 Y Y (by omega) (by omega)) (QF B5 Y ?_)))))))))))))));unfold FU;simp only[List.cons_append,nil_append];refine Bf [1,15] (by kernel_rfl) Y ?_;refine AD Y ?_ ?_
   ·refine Ql Y A9 (Cell.blk 1 Y Y) (Qw (Qo 15 Y ?_));refine Qc call176 Y (P8 ((i:Int)+1) d s _ hh hRs (fun x hx=>hlb x (mem_cons_of_mem _ hx)) (by simp at hl1;omega)) (fun rc h2 ms2 l2 hF=>?_);obtain⟨rfl,vs,mS,rfl,rfl,hOS⟩:=hF;refine Bv hOS fun h3 l3 hRS=>?_;have ovs:=hRS.rd.one;refine Qa (Qo 16 Y (Ao [_,_,_] Y A9 AG Y (by rfl) Y Y (by omega) Y Y Y (fun g27=>Qa (Qo 17 Y ?_))));refine Bb 1 hO (RdL.one Cw (x:=(⟨c,vs⟩:Ce)) Mh Y) Y A9 AG Y (by omega) Y Y Y (Dh (l:=[⟨c,vs⟩]) (h:=h3) fun y hy=>by rw[List.mem_singleton.1 hy];exact hRS) (by(try simp only[length_singleton]);omega) (by(try simp only[length_singleton]);omega) rfl rfl rfl (fun v9 m9 hO9=>?_);have ov9:=hO9.o1;refine Qa (Qo 19 Y ?_);refine AP 2 _ Y JT Y Y (by assumption) Y Y (by(simp;done)) rfl rfl ?_;refine Qa (Qe (AO (Ai ?_)));exact AF _ ⟨v9,m9,O++[⟨c,vs⟩],Y,AJ l2 l3,Y,hO9,by rw[KB,hgi,map_append,hOc];rfl,RdC.snoc' (fun a ha=>(hOs a ha).up (AJ l2 l3)) hRS⟩ Qs
   refine AD Y ?_ ?_
   ·refine Qc call176 Y (P8 ((i:Int)+1) d s _ hh hRs (fun x hx=>hlb x (mem_cons_of_mem _ hx)) (by simp at hl1;omega)) (fun rc h2 ms2 l2 hF=>?_);obtain⟨rfl,vs,mS,rfl,rfl,hOS⟩:=hF;refine Bv hOS fun h3 l3 hRS=>?_;have ovs:=hRS.rd.one;refine Qa (Bf [1,16] (by kernel_rfl) Y ?_);refine AD Y ?_ ?_
    ·refine Ql Y A9 (Cell.blk 1 Y Y) (Qa (Qo 16 Y (Ao [_,_,_] Y A9 AG Y (by rfl) Y Y (by omega) Y Y Y (fun g27=>Qa (Qo 17 Y ?_)))));refine Bb 1 hO (RdL.one Cw (x:=(⟨c,vs⟩:Ce)) Mh Y) Y A9 AG Y (by omega) Y Y Y (Dh (l:=[⟨c,vs⟩]) (h:=h3) fun y hy=>by rw[List.mem_singleton.1 hy];exact hRS) (by(try simp only[length_singleton]);omega) (by(try simp only[length_singleton]);omega) rfl rfl rfl (fun v9 m9 hO9=>?_);have ov9:=hO9.o1;refine Qa (Qo 19 Y ?_);refine AP 2 _ Y JT Y Y (by assumption) Y Y (by(simp;done)) rfl rfl ?_;refine Qa (Qe (AO (Ai ?_)));exact AF _ ⟨v9,m9,O++[⟨c,vs⟩],Y,AJ l2 l3,Y,hO9,by rw[KB,hgi,map_append,hOc];rfl,RdC.snoc' (fun a ha=>(hOs a ha).up (AJ l2 l3)) hRS⟩ Qs
    refine AD Y ?_ ?_
    ·refine Ao [_,_,_] Y A9 AG Y (by rfl) Y Y (by omega) Y Y Y (fun g27=>Qa (Qo 1 Y (Ql Y A9 (Cell.blk 2 Y Y) (Qa (Qo 17 Y ?_)))));refine Bb 1 hO (RdL.one Cw (x:=(⟨c,vs⟩:Ce)) Mh Y) Y A9 AG Y (by omega) Y Y Y (Dh (l:=[⟨c,vs⟩]) (h:=h3) fun y hy=>by rw[List.mem_singleton.1 hy];exact hRS) (by(try simp only[length_singleton]);omega) (by(try simp only[length_singleton]);omega) rfl rfl rfl (fun v9 m9 hO9=>?_);have ov9:=hO9.o1;refine Qa (Qo 19 Y ?_);refine AP 2 _ Y JT Y Y (by assumption) Y Y (by(simp;done)) rfl rfl ?_;refine Qa (Qe (AO (Ai ?_)));exact AF _ ⟨v9,m9,O++[⟨c,vs⟩],Y,AJ l2 l3,Y,hO9,by rw[KB,hgi,map_append,hOc];rfl,RdC.snoc' (fun a ha=>(hOs a ha).up (AJ l2 l3)) hRS⟩ Qs
    exact Bd
   exact Bd
  ·obtain⟨vO,mO,O,rfl,l2,rfl,hO,hOc,hOs⟩:=hI;have ovO:=hO.o1;refine Ad (Qm Y (Qx (oA Y) Y (Qm Y (Al ?_))));exact Ak (L.length-(i+1)) _ (by omega) ⟨i+1,vO,mO,O,Y,Y,AJ lh l2,Y,by omega,hO,hOc,hOs⟩ Qs
 ·obtain rfl:i=L.length:=by omega
  refine As (Aa (Aa (Af (Ab (Ar (Qx (oG Y CB AY (Seg.blk 1 Y)) Y ?_))))));refine Sa 2 [_] AY Y (by simp[o1,ovO]) ?_;refine Am (An (A3 1 Y ?_));exact By (vs:=[_]) 1 Y Y CB Y AY Y Y (⟨lh,mO,O,_,Y,Y,hO,hOc,hOs⟩)
theorem B6{h:Hp}{el:TypeId}{g:Nat}(l:List Int)(n:Nat)(e:l.length=n)(hn:n<=1000)(k:(Bl g el (l.flatMap cI)).le h):RdL cI 1 h [] (.slice (some ⟨g,0,none⟩) n n) l:=by subst e;exact(OwnL.blk (g:=g) (el:=el) (F:=cI) (l:=l) l.length Be Y (by omega)).rdh k
theorem I4(n:Nat):LS (n+1)=LS n++[Ky (n+1),Ky (n+1)]:=by unfold LS;rw[range_succ,List.flatMap_append,<-append_assoc];rfl
theorem SF(n:Nat):(LS n).length=2+2*n:=by
 induction n with
 | zero=>rfl
 | succ n ih=>rw[I4,length_append,ih];simp;omega
theorem ZT(n:Nat)(hn:n<=4):∀l∈LS n,l≠[]/\l.length<=1000/\∀x∈l,-1000000<=x/\x<=1000000:=by rcases (by omega:n=0\/n=1\/n=2\/n=3\/n=4) with rfl|rfl|rfl|rfl|rfl<;>decide
def Ny(m i:Nat):List (List Int):=([[0],[0],[0],[0],[1,-2,3],[1,-3,4],[1,-4,2]]:List (List Int))++((range i).map fun(k:Nat)=>[(1:Int),-1,2+((k%3:Nat):Int)])
def QN(m i:Nat):List (List Int):=(range i).map fun(k:Nat)=>[(2:Int),8+(k:Int),5+((k%3:Nat):Int),-(8+(((k+1)%m:Nat):Int))]
theorem X7(n:Nat):Q6 n=Ny (3*n) (3*n)++QN (3*n) (3*n):=rfl
theorem Ua(m i:Nat):Ny m (i+1)=Ny m i++[[(1:Int),-1,2+((i%3:Nat):Int)]]:=by unfold Ny;rw[range_succ,map_append,append_assoc];rfl
theorem T6(m i:Nat):QN m (i+1)=QN m i++[[(2:Int),8+(i:Int),5+((i%3:Nat):Int),-(8+(((i+1)%m:Nat):Int))]]:=by unfold QN;rw[range_succ,map_append];rfl
theorem ZP(n:Nat)(hn:n=3\/n=4):∀l∈Q6 n,l≠[]/\l.length<=1000/\∀x∈l,-1000000<=x/\x<=1000000:=by rcases hn with rfl|rfl<;>decide
theorem Hy(n:Nat)(hp:Hp)(hn:n<=4):FnT Tryz.prog 115 #[.int .i64 n] hp [] (fun r h' ms'=>hp.le h'/\Rn h' r ms' (fun o=>o=O9 (LS n))):=by
 refine Aq func115 ntmps115 Y Y (fun w0 hw0=>?_);simp only[AW];have hE:=RdEs.nil hp;refine Ar (CG [.slice none 0 0] Y AY Y Y (fun g2=>BH (Ao [_] Y AU A5 Y (by rfl) Y Y (by omega) Y Y Y (fun g7=>AH fun h1 l1 k1=>?_))));have hE:=(hE.up l1).snoc (B6 [0] 1 Y (by decide) k1);refine Ao [_] Y AU A5 Y (by rfl) Y Y (by omega) Y Y Y (fun g8=>AH fun h2 l2 k2=>?_);have hE:=(hE.up l2).snoc (B6 [0] 1 Y (by decide) k2);refine Ax [(0,_),(1,_)] [.slice none 0 0,.slice none 0 0] [_,_] Y Cr Cv Y (by omega) (by kernel_rfl) Qt Y Y Y Y (fun g9=>Qm Y (Am (Ac (Ar (Qm Y (Am (Ag ?_)))))))
 refine Aw (fun q sl h' ms'=>∃(i:Nat) (v3:Value) (m3:Hp) (es:List Value),q=n-i/\sl=[(0,.int .i64 n),(2,.pointer (some ⟨g2,0,none⟩)),(3,v3),(4,.int .i64 ((i:Int)+1))]/\hp.le h'/\ms'=[m3,Bl g2 29 [.slice none 0 0]]/\i<=n/\OwnL cW 1 22 m3 v3 es/\RdEs h' es (LS i))
  (n-0) _ ⟨0,_,_,_,rfl,rfl,AJ l1 l2,rfl,by omega,OwnL.blk (g:=g9) (el:=22) (F:=cW) (l:=[_,_]) 2 DG rfl (by decide),hE⟩ Qs ?_
 rintro q sl h' ms' ⟨i,v3,m3,es,rfl,rfl,lh,rfl,hi,hO,hE⟩;have hel:es.length=2+2*i:=by rw[hE.1,SF]
 have ov3:=hO.o1;refine Ac (Ar (Qm Y (Qm Y (Qm Y (Am ?_)))));refine Ap Y (fun hlt=>?_) (fun hlt=>?_)
 ·refine Ah (Ab (Ac (Ag (Ar (Qm Y (Qx (oM Y) Y (Qx (oS Y) Y (Qm Y (BH (Qm Y (Qm Y (Qx (Na Y Y (by omega)) Y (Qm Y (Qx (oA Y) Y (Ax [(0,_),(1,_),(2,_)] [.int .i64 0,.int .i64 0,.int .i64 0] [_,_,_] Y AU A5 Y (by omega) (by kernel_rfl) Qt Y Y Y Y (fun g23=>Qm Y (Am (Bs fun h3 l3 k3=>?_))))))))))))))))));have hE:=hE.up l3;refine Ac (Ar (Qm Y (Qx (BO Y Y Y (by omega) (by omega)) Y (Qm Y (Am ?_)))));refine Ap Y (fun hev=>?_) (fun hev=>?_)
  ·refine Ad (Qm Y (Qm Y (Qm Y (Qx (oA Y) Y (Qx (Na Y Y (by omega)) Y (Ax [(0,_),(1,_),(2,_)] [.int .i64 0,.int .i64 0,.int .i64 0] [_,_,_] Y AU A5 Y (by omega) (by kernel_rfl) Qt Y Y Y Y (fun g32=>Qm Y (Am (Bs fun h4 l4 k4=>?_)))))))));have hE:=hE.up l4;refine Ac (Ar (Qm Y (Qm Y (Am ?_))));refine Ap Y (fun h1=>?_) (fun h1=>?_)
   ·exact absurd h1 (by omega)
   ·have hrow:RdL cI 1 h4 [] (.slice (some ⟨g32,0,none⟩) 3 3) (Ky (i+1)):=by
     have:=B6 (el:=3) (g:=g32) (h:=h4) [(i:Int)+1,2*((i:Int)+1)-1,-(2*((i:Int)+1)-1+1)] 3 Y (by decide) k4
     have e:Ky (i+1)=[(i:Int)+1,2*((i:Int)+1)-1,-(2*((i:Int)+1)-1+1)]:=by unfold Ky;rw[if_neg (by omega),if_pos (by omega)];simp<;>omega
     rw[e];exact this
    refine Ah (Ab (Ad (Qm Y (Qm Y (Qm Y (Ax [(0,_),(1,_)] [.slice none 0 0,.slice none 0 0] [_,_] Y Cr Cv Y (by omega) (by kernel_rfl) Qt Y Y Y Y (fun g39=>?_)))))));refine Bb 1 hO (OwnL.blk (g:=g39) (F:=cW) (l:=[.slice (some ⟨g32,0,none⟩) 3 3,.slice (some ⟨g32,0,none⟩) 3 3]) 2 DG Y (by decide) |>.rd Mh) Y Cr Cv Y (by omega) Y Y Y (Gr fun u hu=>by simp only[mem_cons,not_mem_nil,or_false]at hu;rcases hu with rfl|rfl<;>rfl) (by(try simp only[length_cons,length_nil]);omega) (by(try simp only[length_cons,length_nil]);omega) rfl rfl rfl (fun v9 m9 hO9=>?_);have ov9:=hO9.o1;refine Qm Y (Al (Ai (Ab (Ad (Qm Y (Qx (oA Y) Y (Qm Y (Al (A3 0 Y ?_)))))))));exact Ak (n-(i+1)) _ (by omega) ⟨i+1,v9,m9,_,Y,Y,AJ lh (AJ l3 l4),Y,by omega,hO9,by rw[I4];have:=(hE.snoc hrow).snoc hrow;rwa [append_assoc,append_assoc]at this⟩ Qs
  ·refine Ah (Ab (Ac (Ar (Qm Y (Qm Y (Am ?_))))));refine Ap Y (fun h1=>?_) (fun h1=>?_)
   ·refine Ad (Ax [(0,_),(1,_),(2,_)] [.int .i64 0,.int .i64 0,.int .i64 0] [_,_,_] Y AU A5 Y (by omega) (by kernel_rfl) Qt Y Y Y Y (fun g35=>Qm Y (Am (Bs fun h4 l4 k4=>?_))));have hE:=hE.up l4;have hi0:i=0:=by omega
    have hrow:RdL cI 1 h4 [] (.slice (some ⟨g35,0,none⟩) 3 3) (Ky (i+1)):=by subst hi0;exact B6 (el:=3) (g:=g35) (h:=h4) [1,-1,2] 3 Y (by decide) k4
    refine Ad (Qm Y (Qm Y (Qm Y (Ax [(0,_),(1,_)] [.slice none 0 0,.slice none 0 0] [_,_] Y Cr Cv Y (by omega) (by kernel_rfl) Qt Y Y Y Y (fun g39=>?_)))));refine Bb 1 hO (OwnL.blk (g:=g39) (F:=cW) (l:=[.slice (some ⟨g35,0,none⟩) 3 3,.slice (some ⟨g35,0,none⟩) 3 3]) 2 DG Y (by decide) |>.rd Mh) Y Cr Cv Y (by omega) Y Y Y (Gr fun u hu=>by simp only[mem_cons,not_mem_nil,or_false]at hu;rcases hu with rfl|rfl<;>rfl) (by(try simp only[length_cons,length_nil]);omega) (by(try simp only[length_cons,length_nil]);omega) rfl rfl rfl (fun v9 m9 hO9=>?_);have ov9:=hO9.o1;refine Qm Y (Al (Ai (Ab (Ad (Qm Y (Qx (oA Y) Y (Qm Y (Al (A3 0 Y ?_)))))))));exact Ak (n-(i+1)) _ (by omega) ⟨i+1,v9,m9,_,Y,Y,AJ lh (AJ l3 l4),Y,by omega,hO9,by rw[I4];have:=(hE.snoc hrow).snoc hrow;rwa [append_assoc,append_assoc]at this⟩ Qs
   ·have hrow:RdL cI 1 h3 [] (.slice (some ⟨g23,0,none⟩) 3 3) (Ky (i+1)):=by
     have:=B6 (el:=3) (g:=g23) (h:=h3) [(i:Int)+1,-(2*((i:Int)+1)-1),2*((i:Int)+1)-1+1] 3 Y (by decide) k3
     have e:Ky (i+1)=[(i:Int)+1,-(2*((i:Int)+1)-1),2*((i:Int)+1)-1+1]:=by unfold Ky;rw[if_neg (by omega),if_neg (by omega)];simp<;>omega
     rw[e];exact this
    refine Ah (Ab (Ad (Qm Y (Qm Y (Qm Y (Ax [(0,_),(1,_)] [.slice none 0 0,.slice none 0 0] [_,_] Y Cr Cv Y (by omega) (by kernel_rfl) Qt Y Y Y Y (fun g39=>?_)))))));refine Bb 1 hO (OwnL.blk (g:=g39) (F:=cW) (l:=[.slice (some ⟨g23,0,none⟩) 3 3,.slice (some ⟨g23,0,none⟩) 3 3]) 2 DG Y (by decide) |>.rd Mh) Y Cr Cv Y (by omega) Y Y Y (Gr fun u hu=>by simp only[mem_cons,not_mem_nil,or_false]at hu;rcases hu with rfl|rfl<;>rfl) (by(try simp only[length_cons,length_nil]);omega) (by(try simp only[length_cons,length_nil]);omega) rfl rfl rfl (fun v9 m9 hO9=>?_);have ov9:=hO9.o1;refine Qm Y (Al (Ai (Ab (Ad (Qm Y (Qx (oA Y) Y (Qm Y (Al (A3 0 Y ?_)))))))));exact Ak (n-(i+1)) _ (by omega) ⟨i+1,v9,m9,_,Y,Y,AJ lh l3,Y,by omega,hO9,by rw[I4];have:=(hE.snoc hrow).snoc hrow;rwa [append_assoc,append_assoc]at this⟩ Qs
 ·obtain rfl:i=n:=by omega
  refine Bs fun h3 l3 k3=>?_;have hV:=hO.rdh (ms:=[]) k3;have hE:=hE.up l3;refine As (Aa (Aa (Af (Ab (Ar (Qm Y ?_))))));refine Qc call114 Y (Ht (LS i) _ _ h3 hV hE (ZT i hn) (by rw[SF];omega)) (fun rC h5 ms5 l5 hF=>?_);obtain⟨l5',m,A,vA,rfl,rfl,hOA,hA,hs⟩:=hF;have ovA:=hOA.o1;refine Sa 1 [_] AY Y (by simp[ov3,ovA]) ?_;refine Am (An ?_);exact By (vs:=[_]) 1 Y Y CB Y AY Y Y (⟨AJ lh (AJ l3 l5),m,A,_,Y,Y,hOA,hA,hs⟩)
theorem Pc(n:Nat)(hp:Hp)(hn:n=3\/n=4):FnT Tryz.prog 116 #[.int .i64 n] hp [] (fun r h' ms'=>hp.le h'/\Rn h' r ms' (fun o=>o=O9 (Q6 n))):=by
 have hn4:n<=4:=by omega
 refine Aq func116 ntmps116 Y Y (fun w0 hw0=>?_);simp only[AW];have hE:=RdEs.nil hp;refine Ar (CG [.slice none 0 0] Y AY Y Y (fun g2=>BH (Ao [_] Y AU A5 Y (by rfl) Y Y (by omega) Y Y Y (fun g6=>AH fun h1 l1 k1=>?_))));have hE:=(hE.up l1).snoc (B6 [0] 1 Y (by decide) k1);refine Ao [_] Y AU A5 Y (by rfl) Y Y (by omega) Y Y Y (fun g7=>AH fun h2 l2 k2=>?_);have hE:=(hE.up l2).snoc (B6 [0] 1 Y (by decide) k2);refine Ao [_] Y AU A5 Y (by rfl) Y Y (by omega) Y Y Y (fun g8=>AH fun h3 l3 k3=>?_);have hE:=(hE.up l3).snoc (B6 [0] 1 Y (by decide) k3);refine Ao [_] Y AU A5 Y (by rfl) Y Y (by omega) Y Y Y (fun g9=>AH fun h4 l4 k4=>?_);have hE:=(hE.up l4).snoc (B6 [0] 1 Y (by decide) k4);refine Ax [(0,_),(1,_),(2,_)] [.int .i64 0,.int .i64 0,.int .i64 0] [_,_,_] Y AU A5 Y (by omega) (by kernel_rfl) Qt Y Y Y Y (fun g10=>AH fun h5 l5 k5=>?_);have hE:=(hE.up l5).snoc (B6 [1,-2,3] 3 Y (by decide) k5);refine Ax [(0,_),(1,_),(2,_)] [.int .i64 0,.int .i64 0,.int .i64 0] [_,_,_] Y AU A5 Y (by omega) (by kernel_rfl) Qt Y Y Y Y (fun g11=>AH fun h6 l6 k6=>?_);have hE:=(hE.up l6).snoc (B6 [1,-3,4] 3 Y (by decide) k6);refine Ax [(0,_),(1,_),(2,_)] [.int .i64 0,.int .i64 0,.int .i64 0] [_,_,_] Y AU A5 Y (by omega) (by kernel_rfl) Qt Y Y Y Y (fun g12=>AH fun h7 l7 k7=>?_);have hE:=(hE.up l7).snoc (B6 [1,-4,2] 3 Y (by decide) k7);have l17:=AJ l1 (AJ l2 (AJ l3 (AJ l4 (AJ l5 (AJ l6 l7)))));refine Ax [(0,_),(1,_),(2,_),(3,_),(4,_),(5,_),(6,_)] [.slice none 0 0,.slice none 0 0,.slice none 0 0,.slice none 0 0,.slice none 0 0,.slice none 0 0,.slice none 0 0] [_,_,_,_,_,_,_] Y Cr Cv Y (by omega) (by kernel_rfl) Qt Y Y Y Y (fun g13=>Qm Y (Am ?_));obtain⟨M,hM⟩:∃M,3*n=M:=⟨_,Y⟩
 have hM3:3*(n:Int)=M:=by omega
 have hMb:9<=M/\M<=12:=by omega
 refine A8 (fun sl h' ms'=>∃(v3:Value) (m3:Hp) (es:List Value),sl=[(0,.int .i64 n),(2,.pointer (some ⟨g2,0,none⟩)),(3,v3)]/\hp.le h'/\ms'=[m3,Bl g2 29 [.slice none 0 0]]/\OwnL cW 1 22 m3 v3 es/\RdEs h' es (Ny M M)) ?_ (fun s h ms hI=>?_)
 ·refine Ac (Ad (Qm Y (Am (Ag ?_))))
  refine Aw (fun q sl h' ms'=>∃(i:Nat) (v3:Value) (m3:Hp) (es:List Value),q=M-i/\sl=[(0,.int .i64 n),(2,.pointer (some ⟨g2,0,none⟩)),(3,v3),(4,.int .i64 i)]/\hp.le h'/\ms'=[m3,Bl g2 29 [.slice none 0 0]]/\i<=M/\OwnL cW 1 22 m3 v3 es/\RdEs h' es (Ny M i))
   (M-0) _ ⟨0,_,_,_,rfl,rfl,l17,rfl,by omega,OwnL.blk (g:=g13) (el:=22) (F:=cW) (l:=[_,_,_,_,_,_,_]) 7 DG rfl (by decide),hE⟩ Qs ?_
  rintro q sl h' ms' ⟨i,v3,m3,es,rfl,rfl,lh,rfl,hi,hO,hE⟩;have hel:es.length=7+i:=by rw[hE.1];unfold Ny;simp;omega
  have ov3:=hO.o1;refine Ac (Ar (Qm Y (Qm Y (Qx (oM Y) Y (Qm Y (Am ?_))))));refine Ap Y (fun hlt=>?_) (fun hlt=>?_)
  ·refine Ah (Ab (Ac (Ag (Ad (Qm Y (Qm Y (Qx (BO Y Y Y (by omega) (by omega)) Y (Qx (oA Y) Y (Ax [(0,_),(1,_),(2,_)] [.int .i64 0,.int .i64 0,.int .i64 0] [_,_,_] Y AU A5 Y (by omega) (by kernel_rfl) Qt Y Y Y Y (fun g24=>AH fun h8 l8 k8=>?_))))))))));have hrow:RdL cI 1 h8 [] (.slice (some ⟨g24,0,none⟩) 3 3) [(1:Int),-1,2+((i%3:Nat):Int)]:=B6 (el:=3) [(1:Int),-1,2+((i%3:Nat):Int)] 3 Y (by decide) k8;have hE:=hE.up l8;refine Ao [_] Y Cr Cv Y (by rfl) Y Y (by omega) Y Y Y (fun g25=>?_);refine Bb 1 hO (RdL.one DG (x:=(.slice (some ⟨g24,0,none⟩) 3 3:Value)) Mh Y) Y Cr Cv Y (by omega) Y Y Y (Gr fun u hu=>by rw[List.mem_singleton.1 hu];rfl) (by(try simp only[length_singleton]);omega) (by(try simp only[length_singleton]);omega) rfl rfl rfl (fun v9 m9 hO9=>?_);have ov9:=hO9.o1;refine Qm Y (Al (Ai (Ab (Ad (Qm Y (Qx (oA Y) Y (Qm Y (Al (A3 0 Y ?_)))))))));exact Ak (M-(i+1)) _ (by omega) ⟨i+1,v9,m9,_,Y,Y,AJ lh l8,Y,by omega,hO9,by rw[Ua];exact hE.snoc hrow⟩ Qs
  ·obtain rfl:i=M:=by omega
   refine As (Aa (Aa (Af ?_)));exact AF _ ⟨v3,m3,es,Y,lh,Y,hO,hE⟩ Qs
 ·obtain⟨v3,m3,es,rfl,lh,rfl,hO,hE⟩:=hI;have hEl:=hE.1;refine Ac (Ar (Qm Y (Am (Ag ?_))))
  refine Aw (fun q sl h' ms'=>∃(i:Nat) (v3:Value) (m3:Hp) (es:List Value),q=M-i/\sl=[(0,.int .i64 n),(2,.pointer (some ⟨g2,0,none⟩)),(3,v3),(5,.int .i64 i)]/\hp.le h'/\ms'=[m3,Bl g2 29 [.slice none 0 0]]/\i<=M/\OwnL cW 1 22 m3 v3 es/\RdEs h' es (Ny M M++QN M i))
   (M-0) _ ⟨0,v3,m3,es,rfl,rfl,lh,rfl,by omega,hO,by rw[show QN M 0=[] from Y,append_nil];exact hE⟩ Qs ?_
  rintro q sl h' ms' ⟨i,v3,m3,es,rfl,rfl,lh,rfl,hi,hO,hE⟩;have hel:es.length=7+M+i:=by rw[hE.1];unfold Ny QN;simp;omega
  have ov3:=hO.o1;refine Ac (Ar (Qm Y (Qm Y (Qx (oM Y) Y (Qm Y (Am ?_))))));refine Ap Y (fun hlt=>?_) (fun hlt=>?_)
  ·have hm0:0<=((i:Int)+1)%(3*(n:Int)):=Int.emod_nonneg _ (by omega);have hm1:((i:Int)+1)%(3*(n:Int))<3*(n:Int):=Int.emod_lt_of_pos _ (by omega);refine Ah (Ab (Ac (Ag (Ad (Qm Y (Qm Y (Qx (oA Y) Y (Qm Y (Qx (BO Y Y Y (by omega) (by omega)) Y (Qx (oA Y) Y (Qm Y (Qx (oA Y) Y (Qm Y (Qx (oM Y) Y (Qx (BO Y Y Y (by omega) (by omega)) Y (Qx (oA Y) Y (Qx (Na Y Y (by omega)) Y (Ax [(0,_),(1,_),(2,_),(3,_)] [.int .i64 0,.int .i64 0,.int .i64 0,.int .i64 0] [_,_,_,_] Y AU A5 Y (by omega) (by kernel_rfl) Qt Y Y Y Y (fun g46=>AH fun h8 l8 k8=>?_)))))))))))))))))));have hrow:RdL cI 1 h8 [] (.slice (some ⟨g46,0,none⟩) 4 4) [(2:Int),8+(i:Int),5+((i%3:Nat):Int),-(8+(((i+1)%M:Nat):Int))]:=B6 (el:=3) [(2:Int),8+(i:Int),5+((i%3:Nat):Int),-(8+(((i+1)%M:Nat):Int))] 4 Y (by decide) (by subst hM;exact k8);have hE:=hE.up l8;refine Ao [_] Y Cr Cv Y (by rfl) Y Y (by omega) Y Y Y (fun g47=>?_);refine Bb 1 hO (RdL.one DG (x:=(.slice (some ⟨g46,0,none⟩) 4 4:Value)) Mh Y) Y Cr Cv Y (by omega) Y Y Y (Gr fun u hu=>by rw[List.mem_singleton.1 hu];rfl) (by(try simp only[length_singleton]);omega) (by(try simp only[length_singleton]);omega) rfl rfl rfl (fun v9 m9 hO9=>?_);have ov9:=hO9.o1;refine Qm Y (Al (Ai (Ab (Ad (Qm Y (Qx (oA Y) Y (Qm Y (Al (A3 0 Y ?_)))))))));exact Ak (M-(i+1)) _ (by omega) ⟨i+1,v9,m9,_,Y,Y,AJ lh l8,Y,by omega,hO9,by rw[T6,<-append_assoc];exact hE.snoc hrow⟩ Qs
  ·obtain rfl:i=M:=by omega
   refine Bs fun h9 l9 k9=>?_;have hV:=hO.rdh (ms:=[]) k9;have hE:RdEs h9 es (Q6 n):=by rw[X7,hM];exact hE.up l9
   refine As (Aa (Aa (Af (Ab (Ar (Qm Y ?_))))));refine Qc call114 Y (Ht (Q6 n) _ _ h9 hV hE (ZP n hn) (by rw[<-hE.1];omega)) (fun rC h10 ms10 l10 hF=>?_);obtain⟨l10',m,A,vA,rfl,rfl,hOA,hA,hs⟩:=hF;have ovA:=hOA.o1;refine Sa 1 [_] AY Y (by simp[ov3,ovA]) ?_;refine Am (An ?_);exact By (vs:=[_]) 1 Y Y CB Y AY Y Y (⟨AJ lh (AJ l9 l10),m,A,_,Y,Y,hOA,hA,hs⟩)
theorem G1{L:List (List Int)}(h:L=[[0]]\/L=Aav\/L=AaM\/L=AaF):L.length<=1000/\∀l∈L,l≠[]/\l.length<=1000/\∀x∈l,-1000000<=x/\x<=1000000:=by rcases h with rfl|rfl|rfl|rfl<;>decide
theorem IM(n:Int)(hp:Hp)(hn:BN n):FnT Tryz.prog 45 #[.int .i64 n] hp [] (fun r h' ms'=>hp.le h'/\Rn h' r ms' (fun o=>o=O9 (E6 (n%10).toNat))):=by
 refine Aq func45 ntmps45 Y Y (fun w0 hw0=>?_);simp only[AW];obtain⟨k,hk⟩:∃k:Nat,n%10=k:=⟨(n%10).toNat,by omega⟩
 have hk10:k<10:=by omega
 rw[hk,Int.toNat_natCast];refine Ar (CG [.slice none 0 0] Y AY Y Y (fun g2=>Am (Ac (Ar (Qm Y (Qx (AI Y call34 Y (Hv n 10 hn (by decide) _ _)) Y (Am (Ag (Ar (Qm Y (Qm Y (Am ?_))))))))))));refine Ap Y (fun h0=>?_) (fun h0=>?_)
 ·have hE:=RdEs.nil hp;refine Ar (Ao [_] Y AU A5 Y (by rfl) Y Y (by omega) Y Y Y (fun g7=>AH fun h1 l1 k1=>?_));have hE:=(hE.up l1).snoc (B6 [0] 1 Y (by decide) k1);refine Ao [_] Y Cr Cv Y (by rfl) Y Y (by omega) Y Y Y (fun g8=>AH fun hz lz kz=>?_);have hE:=hE.up lz;have hV:=(OwnL.blk (g:=g8) (el:=22) (F:=cW) (l:=[_]) 1 DG Y (by decide)).rdh (ms:=[]) kz;have lall:=(AJ l1 lz)
  refine Qc call114 Y (Ht [[0]] _ _ hz hV hE (G1 (.inl Y)).2 (G1 (.inl Y)).1) (fun rC hc msc lc hF=>?_);obtain⟨lc',m,A,vA,rfl,rfl,hOA,hA,hs⟩:=hF;have ovA:=hOA.o1;refine Sa 1 [_] AY Y (by simp[ovA]) ?_;refine Am (An (Aj (Ae ?_)));exact By (vs:=[_]) 1 Y Y CB Y AY Y Y (⟨AJ lall lc',m,A,_,Y,Y,hOA,by rw[hA];unfold E6;rw[if_pos (by omega)],hs⟩)
 ·refine Ac (Ar (Qm Y (Qm Y (Am ?_))));refine Ap Y (fun h1=>?_) (fun h1=>?_)
  ·refine Ah (Ab ?_);refine Ap Y (fun hc=>?_) (fun hc=>absurd (h1) hc);refine Ar (Qm Y (Qx (AI Y call34 Y (Hv n 10 hn (by decide) _ _)) Y ?_));rw[hk];refine Qc call115 Y (Hy k hp (by omega)) (fun rC hc msc lc hF=>?_);obtain⟨lc',m,A,vA,rfl,rfl,hOA,hA,hs⟩:=hF;have ovA:=hOA.o1;refine Sa 1 [_] AY Y (by simp[ovA]) ?_;refine Am (An (Aj (Ae ?_)));exact By (vs:=[_]) 1 Y Y CB Y AY Y Y (⟨lc',m,A,_,Y,Y,hOA,by rw[hA];unfold E6;rw[if_neg (by omega),if_pos (by omega)],hs⟩)
  ·refine Ac (Ad (Qm Y (Qm Y (Am ?_))));refine Ap Y (fun h2=>?_) (fun h2=>?_)
   ·refine Ah (Ab ?_);refine Ap Y (fun hc=>?_) (fun hc=>absurd (h2) hc);refine Ar (Qm Y (Qx (AI Y call34 Y (Hv n 10 hn (by decide) _ _)) Y ?_));rw[hk];refine Qc call115 Y (Hy k hp (by omega)) (fun rC hc msc lc hF=>?_);obtain⟨lc',m,A,vA,rfl,rfl,hOA,hA,hs⟩:=hF;have ovA:=hOA.o1;refine Sa 1 [_] AY Y (by simp[ovA]) ?_;refine Am (An (Aj (Ae ?_)));exact By (vs:=[_]) 1 Y Y CB Y AY Y Y (⟨lc',m,A,_,Y,Y,hOA,by rw[hA];unfold E6;rw[if_neg (by omega),if_pos (by omega)],hs⟩)
   ·refine Ad (Qm Y (Qm Y (Am ?_)));refine Ap Y (fun h3=>?_) (fun h3=>?_)
    ·refine Ac (Ad (Qm Y (Qx (AI Y call34 Y (Hv n 10 hn (by decide) _ _)) Y ?_)));rw[hk];refine Qc call115 Y (Hy k hp (by omega)) (fun rC hc msc lc hF=>?_);obtain⟨lc',m,A,vA,rfl,rfl,hOA,hA,hs⟩:=hF;have ovA:=hOA.o1;refine Sa 1 [_] AY Y (by simp[ovA]) ?_;refine Am (An (Aj (Ae ?_)));exact By (vs:=[_]) 1 Y Y CB Y AY Y Y (⟨lc',m,A,_,Y,Y,hOA,by rw[hA];unfold E6;rw[if_neg (by omega),if_pos (by omega)],hs⟩)
    ·refine Ac (Ad (Qm Y (Qm Y (Am ?_))));refine Ap Y (fun h4=>?_) (fun h4=>?_)
     ·refine Ac (Ad (Qc call115 Y (Hy 0 hp (by omega)) (fun rC hc msc lc hF=>?_)));obtain⟨lc',m,A,vA,rfl,rfl,hOA,hA,hs⟩:=hF;have ovA:=hOA.o1;refine Sa 1 [_] AY Y (by simp[ovA]) ?_;refine Am (An (Aj (Ae ?_)));exact By (vs:=[_]) 1 Y Y CB Y AY Y Y (⟨lc',m,A,_,Y,Y,hOA,by rw[hA];unfold E6;rw[if_neg (by omega),if_neg (by omega),if_pos (by omega)],hs⟩)
     ·refine Ac (Ad (Qm Y (Qm Y (Am ?_))));refine Ap Y (fun h5=>?_) (fun h5=>?_)
      ·have hE:=RdEs.nil hp;refine Ar (Ao [_] Y AU A5 Y (by rfl) Y Y (by omega) Y Y Y (fun g22=>AH fun h1 l1 k1=>?_));have hE:=(hE.up l1).snoc (B6 [0] 1 Y (by decide) k1);refine Ao [_] Y AU A5 Y (by rfl) Y Y (by omega) Y Y Y (fun g23=>AH fun h2 l2 k2=>?_);have hE:=(hE.up l2).snoc (B6 [0] 1 Y (by decide) k2);refine Ao [_] Y AU A5 Y (by rfl) Y Y (by omega) Y Y Y (fun g24=>AH fun h3 l3 k3=>?_);have hE:=(hE.up l3).snoc (B6 [0] 1 Y (by decide) k3);refine Ax [(0,_),(1,_),(2,_)] [.int .i64 0,.int .i64 0,.int .i64 0] [_,_,_] Y AU A5 Y (by omega) (by kernel_rfl) Qt Y Y Y Y (fun g25=>AH fun h4 l4 k4=>?_);have hE:=(hE.up l4).snoc (B6 [1,-1,2] 3 Y (by decide) k4);refine Ax [(0,_),(1,_),(2,_)] [.int .i64 0,.int .i64 0,.int .i64 0] [_,_,_] Y AU A5 Y (by omega) (by kernel_rfl) Qt Y Y Y Y (fun g26=>AH fun h5 l5 k5=>?_);have hE:=(hE.up l5).snoc (B6 [1,-1,2] 3 Y (by decide) k5);refine Ax [(0,_),(1,_),(2,_)] [.int .i64 0,.int .i64 0,.int .i64 0] [_,_,_] Y AU A5 Y (by omega) (by kernel_rfl) Qt Y Y Y Y (fun g27=>AH fun h6 l6 k6=>?_);have hE:=(hE.up l6).snoc (B6 [1,-2,3] 3 Y (by decide) k6);refine Ax [(0,_),(1,_),(2,_)] [.int .i64 0,.int .i64 0,.int .i64 0] [_,_,_] Y AU A5 Y (by omega) (by kernel_rfl) Qt Y Y Y Y (fun g28=>AH fun h7 l7 k7=>?_);have hE:=(hE.up l7).snoc (B6 [1,-2,3] 3 Y (by decide) k7);refine Ax [(0,_),(1,_),(2,_)] [.int .i64 0,.int .i64 0,.int .i64 0] [_,_,_] Y AU A5 Y (by omega) (by kernel_rfl) Qt Y Y Y Y (fun g29=>AH fun h8 l8 k8=>?_);have hE:=(hE.up l8).snoc (B6 [1,-1,3] 3 Y (by decide) k8);refine Ax [(0,_),(1,_),(2,_)] [.int .i64 0,.int .i64 0,.int .i64 0] [_,_,_] Y AU A5 Y (by omega) (by kernel_rfl) Qt Y Y Y Y (fun g30=>AH fun h9 l9 k9=>?_);have hE:=(hE.up l9).snoc (B6 [1,-1,3] 3 Y (by decide) k9);refine Ax [(0,_),(1,_),(2,_),(3,_)] [.int .i64 0,.int .i64 0,.int .i64 0,.int .i64 0] [_,_,_,_] Y AU A5 Y (by omega) (by kernel_rfl) Qt Y Y Y Y (fun g31=>AH fun h10 l10 k10=>?_);have hE:=(hE.up l10).snoc (B6 [2,4,6,-8] 4 Y (by decide) k10);refine Ax [(0,_),(1,_),(2,_),(3,_)] [.int .i64 0,.int .i64 0,.int .i64 0,.int .i64 0] [_,_,_,_] Y AU A5 Y (by omega) (by kernel_rfl) Qt Y Y Y Y (fun g32=>AH fun h11 l11 k11=>?_);have hE:=(hE.up l11).snoc (B6 [2,4,7,-9] 4 Y (by decide) k11);refine Ax [(0,_),(1,_),(2,_),(3,_)] [.int .i64 0,.int .i64 0,.int .i64 0,.int .i64 0] [_,_,_,_] Y AU A5 Y (by omega) (by kernel_rfl) Qt Y Y Y Y (fun g33=>AH fun h12 l12 k12=>?_);have hE:=(hE.up l12).snoc (B6 [2,5,6,-9] 4 Y (by decide) k12);refine Ax [(0,_),(1,_),(2,_),(3,_)] [.int .i64 0,.int .i64 0,.int .i64 0,.int .i64 0] [_,_,_,_] Y AU A5 Y (by omega) (by kernel_rfl) Qt Y Y Y Y (fun g34=>AH fun h13 l13 k13=>?_);have hE:=(hE.up l13).snoc (B6 [2,5,7,-8] 4 Y (by decide) k13);refine Ax [(0,_),(1,_),(2,_),(3,_),(4,_),(5,_),(6,_),(7,_),(8,_),(9,_),(10,_),(11,_),(12,_)] [.slice none 0 0,.slice none 0 0,.slice none 0 0,.slice none 0 0,.slice none 0 0,.slice none 0 0,.slice none 0 0,.slice none 0 0,.slice none 0 0,.slice none 0 0,.slice none 0 0,.slice none 0 0,.slice none 0 0] [_,_,_,_,_,_,_,_,_,_,_,_,_] Y Cr Cv Y (by omega) (by kernel_rfl) Qt Y Y Y Y (fun g35=>AH fun hz lz kz=>?_);have hE:=hE.up lz;have hV:=(OwnL.blk (g:=g35) (el:=22) (F:=cW) (l:=[_,_,_,_,_,_,_,_,_,_,_,_,_]) 13 DG Y (by decide)).rdh (ms:=[]) kz;have lall:=(AJ l1 (AJ l2 (AJ l3 (AJ l4 (AJ l5 (AJ l6 (AJ l7 (AJ l8 (AJ l9 (AJ l10 (AJ l11 (AJ l12 (AJ l13 lz)))))))))))))
       refine Qc call114 Y (Ht Aav _ _ hz hV hE (G1 (.inr (.inl Y))).2 (G1 (.inr (.inl Y))).1) (fun rC hc msc lc hF=>?_);obtain⟨lc',m,A,vA,rfl,rfl,hOA,hA,hs⟩:=hF;have ovA:=hOA.o1;refine Sa 1 [_] AY Y (by simp[ovA]) ?_;refine Am (An (Aj (Ae ?_)));exact By (vs:=[_]) 1 Y Y CB Y AY Y Y (⟨AJ lall lc',m,A,_,Y,Y,hOA,by rw[hA];unfold E6;rw[if_neg (by omega),if_neg (by omega),if_neg (by omega),if_pos (by omega)],hs⟩)
      ·refine Ac (Ad (Qm Y (Qm Y (Am ?_))));refine Ap Y (fun h6=>?_) (fun h6=>?_)
       ·refine Ac (Ad (Qc call116 Y (Pc 3 hp (by omega)) (fun rC hc msc lc hF=>?_)));obtain⟨lc',m,A,vA,rfl,rfl,hOA,hA,hs⟩:=hF;have ovA:=hOA.o1;refine Sa 1 [_] AY Y (by simp[ovA]) ?_;refine Am (An (Aj (Ae ?_)));exact By (vs:=[_]) 1 Y Y CB Y AY Y Y (⟨lc',m,A,_,Y,Y,hOA,by rw[hA];unfold E6;rw[if_neg (by omega),if_neg (by omega),if_neg (by omega),if_neg (by omega),if_pos (by omega)],hs⟩)
       ·refine Ac (Ad (Qm Y (Qm Y (Am ?_))));refine Ap Y (fun h7=>?_) (fun h7=>?_)
        ·have hE:=RdEs.nil hp;refine Ar (Ao [_] Y AU A5 Y (by rfl) Y Y (by omega) Y Y Y (fun g42=>AH fun h1 l1 k1=>?_));have hE:=(hE.up l1).snoc (B6 [0] 1 Y (by decide) k1);refine Ao [_] Y AU A5 Y (by rfl) Y Y (by omega) Y Y Y (fun g43=>AH fun h2 l2 k2=>?_);have hE:=(hE.up l2).snoc (B6 [0] 1 Y (by decide) k2);refine Ao [_] Y AU A5 Y (by rfl) Y Y (by omega) Y Y Y (fun g44=>AH fun h3 l3 k3=>?_);have hE:=(hE.up l3).snoc (B6 [0] 1 Y (by decide) k3);refine Ao [_] Y AU A5 Y (by rfl) Y Y (by omega) Y Y Y (fun g45=>AH fun h4 l4 k4=>?_);have hE:=(hE.up l4).snoc (B6 [0] 1 Y (by decide) k4);refine Ax [(0,_),(1,_),(2,_)] [.int .i64 0,.int .i64 0,.int .i64 0] [_,_,_] Y AU A5 Y (by omega) (by kernel_rfl) Qt Y Y Y Y (fun g46=>AH fun h5 l5 k5=>?_);have hE:=(hE.up l5).snoc (B6 [1,-1,2] 3 Y (by decide) k5);refine Ax [(0,_),(1,_),(2,_)] [.int .i64 0,.int .i64 0,.int .i64 0] [_,_,_] Y AU A5 Y (by omega) (by kernel_rfl) Qt Y Y Y Y (fun g47=>AH fun h6 l6 k6=>?_);have hE:=(hE.up l6).snoc (B6 [1,-1,2] 3 Y (by decide) k6);refine Ax [(0,_),(1,_),(2,_)] [.int .i64 0,.int .i64 0,.int .i64 0] [_,_,_] Y AU A5 Y (by omega) (by kernel_rfl) Qt Y Y Y Y (fun g48=>AH fun h7 l7 k7=>?_);have hE:=(hE.up l7).snoc (B6 [1,-3,4] 3 Y (by decide) k7);refine Ax [(0,_),(1,_),(2,_)] [.int .i64 0,.int .i64 0,.int .i64 0] [_,_,_] Y AU A5 Y (by omega) (by kernel_rfl) Qt Y Y Y Y (fun g49=>AH fun h8 l8 k8=>?_);have hE:=(hE.up l8).snoc (B6 [1,-3,4] 3 Y (by decide) k8);refine Ax [(0,_),(1,_),(2,_)] [.int .i64 0,.int .i64 0,.int .i64 0] [_,_,_] Y AU A5 Y (by omega) (by kernel_rfl) Qt Y Y Y Y (fun g50=>AH fun h9 l9 k9=>?_);have hE:=(hE.up l9).snoc (B6 [1,-1,3] 3 Y (by decide) k9);refine Ax [(0,_),(1,_),(2,_)] [.int .i64 0,.int .i64 0,.int .i64 0] [_,_,_] Y AU A5 Y (by omega) (by kernel_rfl) Qt Y Y Y Y (fun g51=>AH fun h10 l10 k10=>?_);have hE:=(hE.up l10).snoc (B6 [1,-2,4] 3 Y (by decide) k10);refine Ax [(0,_),(1,_),(2,_)] [.int .i64 0,.int .i64 0,.int .i64 0] [_,_,_] Y AU A5 Y (by omega) (by kernel_rfl) Qt Y Y Y Y (fun g52=>AH fun h11 l11 k11=>?_);have hE:=(hE.up l11).snoc (B6 [1,-3,1] 3 Y (by decide) k11);refine Ax [(0,_),(1,_),(2,_)] [.int .i64 0,.int .i64 0,.int .i64 0] [_,_,_] Y AU A5 Y (by omega) (by kernel_rfl) Qt Y Y Y Y (fun g53=>AH fun h12 l12 k12=>?_);have hE:=(hE.up l12).snoc (B6 [1,-4,2] 3 Y (by decide) k12);refine Ax [(0,_),(1,_),(2,_),(3,_),(4,_)] [.int .i64 0,.int .i64 0,.int .i64 0,.int .i64 0,.int .i64 0] [_,_,_,_,_] Y AU A5 Y (by omega) (by kernel_rfl) Qt Y Y Y Y (fun g54=>AH fun h13 l13 k13=>?_);have hE:=(hE.up l13).snoc (B6 [2,5,10,-7,-9] 5 Y (by decide) k13);refine Ax [(0,_),(1,_),(2,_),(3,_),(4,_)] [.int .i64 0,.int .i64 0,.int .i64 0,.int .i64 0,.int .i64 0] [_,_,_,_,_] Y AU A5 Y (by omega) (by kernel_rfl) Qt Y Y Y Y (fun g55=>AH fun h14 l14 k14=>?_);have hE:=(hE.up l14).snoc (B6 [2,6,10,-8,-9] 5 Y (by decide) k14);refine Ax [(0,_),(1,_),(2,_),(3,_),(4,_)] [.int .i64 0,.int .i64 0,.int .i64 0,.int .i64 0,.int .i64 0] [_,_,_,_,_] Y AU A5 Y (by omega) (by kernel_rfl) Qt Y Y Y Y (fun g56=>AH fun h15 l15 k15=>?_);have hE:=(hE.up l15).snoc (B6 [2,7,12,-6,-11] 5 Y (by decide) k15);refine Ax [(0,_),(1,_),(2,_),(3,_),(4,_)] [.int .i64 0,.int .i64 0,.int .i64 0,.int .i64 0,.int .i64 0] [_,_,_,_,_] Y AU A5 Y (by omega) (by kernel_rfl) Qt Y Y Y Y (fun g57=>AH fun h16 l16 k16=>?_);have hE:=(hE.up l16).snoc (B6 [2,8,12,-5,-11] 5 Y (by decide) k16);refine Ax [(0,_),(1,_),(2,_),(3,_),(4,_),(5,_),(6,_),(7,_),(8,_),(9,_),(10,_),(11,_),(12,_),(13,_),(14,_),(15,_)] [.slice none 0 0,.slice none 0 0,.slice none 0 0,.slice none 0 0,.slice none 0 0,.slice none 0 0,.slice none 0 0,.slice none 0 0,.slice none 0 0,.slice none 0 0,.slice none 0 0,.slice none 0 0,.slice none 0 0,.slice none 0 0,.slice none 0 0,.slice none 0 0] [_,_,_,_,_,_,_,_,_,_,_,_,_,_,_,_] Y Cr Cv Y (by omega) (by kernel_rfl) Qt Y Y Y Y (fun g58=>AH fun hz lz kz=>?_);have hE:=hE.up lz;have hV:=(OwnL.blk (g:=g58) (el:=22) (F:=cW) (l:=[_,_,_,_,_,_,_,_,_,_,_,_,_,_,_,_]) 16 DG Y (by decide)).rdh (ms:=[]) kz;have lall:=(AJ l1 (AJ l2 (AJ l3 (AJ l4 (AJ l5 (AJ l6 (AJ l7 (AJ l8 (AJ l9 (AJ l10 (AJ l11 (AJ l12 (AJ l13 (AJ l14 (AJ l15 (AJ l16 lz))))))))))))))))
         refine Qc call114 Y (Ht AaM _ _ hz hV hE (G1 (.inr (.inr (.inl Y)))).2 (G1 (.inr (.inr (.inl Y)))).1) (fun rC hc msc lc hF=>?_);obtain⟨lc',m,A,vA,rfl,rfl,hOA,hA,hs⟩:=hF;have ovA:=hOA.o1;refine Sa 1 [_] AY Y (by simp[ovA]) ?_;refine Am (An (Aj (Ae ?_)));exact By (vs:=[_]) 1 Y Y CB Y AY Y Y (⟨AJ lall lc',m,A,_,Y,Y,hOA,by rw[hA];unfold E6;rw[if_neg (by omega),if_neg (by omega),if_neg (by omega),if_neg (by omega),if_neg (by omega),if_pos (by omega)],hs⟩)
        ·refine Ac (Ad (Qm Y (Qm Y (Am ?_))));refine Ap Y (fun h8=>?_) (fun h8=>?_)
         ·have hE:=RdEs.nil hp;refine Ar (Ao [_] Y AU A5 Y (by rfl) Y Y (by omega) Y Y Y (fun g62=>AH fun h1 l1 k1=>?_));have hE:=(hE.up l1).snoc (B6 [0] 1 Y (by decide) k1);refine Ao [_] Y AU A5 Y (by rfl) Y Y (by omega) Y Y Y (fun g63=>AH fun h2 l2 k2=>?_);have hE:=(hE.up l2).snoc (B6 [0] 1 Y (by decide) k2);refine Ao [_] Y AU A5 Y (by rfl) Y Y (by omega) Y Y Y (fun g64=>AH fun h3 l3 k3=>?_);have hE:=(hE.up l3).snoc (B6 [0] 1 Y (by decide) k3);refine Ao [_] Y AU A5 Y (by rfl) Y Y (by omega) Y Y Y (fun g65=>AH fun h4 l4 k4=>?_);have hE:=(hE.up l4).snoc (B6 [0] 1 Y (by decide) k4);refine Ax [(0,_),(1,_),(2,_)] [.int .i64 0,.int .i64 0,.int .i64 0] [_,_,_] Y AU A5 Y (by omega) (by kernel_rfl) Qt Y Y Y Y (fun g66=>AH fun h5 l5 k5=>?_);have hE:=(hE.up l5).snoc (B6 [1,-1,2] 3 Y (by decide) k5);refine Ax [(0,_),(1,_),(2,_)] [.int .i64 0,.int .i64 0,.int .i64 0] [_,_,_] Y AU A5 Y (by omega) (by kernel_rfl) Qt Y Y Y Y (fun g67=>AH fun h6 l6 k6=>?_);have hE:=(hE.up l6).snoc (B6 [1,-1,2] 3 Y (by decide) k6);refine Ax [(0,_),(1,_),(2,_)] [.int .i64 0,.int .i64 0,.int .i64 0] [_,_,_] Y AU A5 Y (by omega) (by kernel_rfl) Qt Y Y Y Y (fun g68=>AH fun h7 l7 k7=>?_);have hE:=(hE.up l7).snoc (B6 [1,-3,4] 3 Y (by decide) k7);refine Ax [(0,_),(1,_),(2,_)] [.int .i64 0,.int .i64 0,.int .i64 0] [_,_,_] Y AU A5 Y (by omega) (by kernel_rfl) Qt Y Y Y Y (fun g69=>AH fun h8 l8 k8=>?_);have hE:=(hE.up l8).snoc (B6 [1,-3,4] 3 Y (by decide) k8);refine Ax [(0,_),(1,_),(2,_)] [.int .i64 0,.int .i64 0,.int .i64 0] [_,_,_] Y AU A5 Y (by omega) (by kernel_rfl) Qt Y Y Y Y (fun g70=>AH fun h9 l9 k9=>?_);have hE:=(hE.up l9).snoc (B6 [1,-1,3] 3 Y (by decide) k9);refine Ax [(0,_),(1,_),(2,_)] [.int .i64 0,.int .i64 0,.int .i64 0] [_,_,_] Y AU A5 Y (by omega) (by kernel_rfl) Qt Y Y Y Y (fun g71=>AH fun h10 l10 k10=>?_);have hE:=(hE.up l10).snoc (B6 [1,-2,4] 3 Y (by decide) k10);refine Ax [(0,_),(1,_),(2,_)] [.int .i64 0,.int .i64 0,.int .i64 0] [_,_,_] Y AU A5 Y (by omega) (by kernel_rfl) Qt Y Y Y Y (fun g72=>AH fun h11 l11 k11=>?_);have hE:=(hE.up l11).snoc (B6 [1,-3,1] 3 Y (by decide) k11);refine Ax [(0,_),(1,_),(2,_)] [.int .i64 0,.int .i64 0,.int .i64 0] [_,_,_] Y AU A5 Y (by omega) (by kernel_rfl) Qt Y Y Y Y (fun g73=>AH fun h12 l12 k12=>?_);have hE:=(hE.up l12).snoc (B6 [1,-4,2] 3 Y (by decide) k12);refine Ax [(0,_),(1,_),(2,_),(3,_),(4,_)] [.int .i64 0,.int .i64 0,.int .i64 0,.int .i64 0,.int .i64 0] [_,_,_,_,_] Y AU A5 Y (by omega) (by kernel_rfl) Qt Y Y Y Y (fun g74=>AH fun h13 l13 k13=>?_);have hE:=(hE.up l13).snoc (B6 [2,5,10,-7,-9] 5 Y (by decide) k13);refine Ax [(0,_),(1,_),(2,_),(3,_),(4,_)] [.int .i64 0,.int .i64 0,.int .i64 0,.int .i64 0,.int .i64 0] [_,_,_,_,_] Y AU A5 Y (by omega) (by kernel_rfl) Qt Y Y Y Y (fun g75=>AH fun h14 l14 k14=>?_);have hE:=(hE.up l14).snoc (B6 [2,6,10,-8,-9] 5 Y (by decide) k14);refine Ax [(0,_),(1,_),(2,_),(3,_),(4,_)] [.int .i64 0,.int .i64 0,.int .i64 0,.int .i64 0,.int .i64 0] [_,_,_,_,_] Y AU A5 Y (by omega) (by kernel_rfl) Qt Y Y Y Y (fun g76=>AH fun h15 l15 k15=>?_);have hE:=(hE.up l15).snoc (B6 [2,7,12,-5,-11] 5 Y (by decide) k15);refine Ax [(0,_),(1,_),(2,_),(3,_),(4,_)] [.int .i64 0,.int .i64 0,.int .i64 0,.int .i64 0,.int .i64 0] [_,_,_,_,_] Y AU A5 Y (by omega) (by kernel_rfl) Qt Y Y Y Y (fun g77=>AH fun h16 l16 k16=>?_);have hE:=(hE.up l16).snoc (B6 [2,8,12,-6,-11] 5 Y (by decide) k16);refine Ax [(0,_),(1,_),(2,_),(3,_),(4,_),(5,_),(6,_),(7,_),(8,_),(9,_),(10,_),(11,_),(12,_),(13,_),(14,_),(15,_)] [.slice none 0 0,.slice none 0 0,.slice none 0 0,.slice none 0 0,.slice none 0 0,.slice none 0 0,.slice none 0 0,.slice none 0 0,.slice none 0 0,.slice none 0 0,.slice none 0 0,.slice none 0 0,.slice none 0 0,.slice none 0 0,.slice none 0 0,.slice none 0 0] [_,_,_,_,_,_,_,_,_,_,_,_,_,_,_,_] Y Cr Cv Y (by omega) (by kernel_rfl) Qt Y Y Y Y (fun g78=>AH fun hz lz kz=>?_);have hE:=hE.up lz;have hV:=(OwnL.blk (g:=g78) (el:=22) (F:=cW) (l:=[_,_,_,_,_,_,_,_,_,_,_,_,_,_,_,_]) 16 DG Y (by decide)).rdh (ms:=[]) kz;have lall:=(AJ l1 (AJ l2 (AJ l3 (AJ l4 (AJ l5 (AJ l6 (AJ l7 (AJ l8 (AJ l9 (AJ l10 (AJ l11 (AJ l12 (AJ l13 (AJ l14 (AJ l15 (AJ l16 lz))))))))))))))))
          refine Qc call114 Y (Ht AaF _ _ hz hV hE (G1 (.inr (.inr (.inr Y)))).2 (G1 (.inr (.inr (.inr Y)))).1) (fun rC hc msc lc hF=>?_);obtain⟨lc',m,A,vA,rfl,rfl,hOA,hA,hs⟩:=hF;have ovA:=hOA.o1;refine Sa 1 [_] AY Y (by simp[ovA]) ?_;refine Am (An (Aj (Ae ?_)));exact By (vs:=[_]) 1 Y Y CB Y AY Y Y (⟨AJ lall lc',m,A,_,Y,Y,hOA,by rw[hA];unfold E6;rw[if_neg (by omega),if_neg (by omega),if_neg (by omega),if_neg (by omega),if_neg (by omega),if_neg (by omega),if_pos (by omega)],hs⟩)
         ·refine Ah (Ai (Ab (Ar (Qc call116 Y (Pc 4 hp (by omega)) (fun rC hc msc lc hF=>?_)))));obtain⟨lc',m,A,vA,rfl,rfl,hOA,hA,hs⟩:=hF;have ovA:=hOA.o1;refine Sa 1 [_] AY Y (by simp[ovA]) ?_;refine Am (An ?_);exact By (vs:=[_]) 1 Y Y CB Y AY Y Y (⟨lc',m,A,_,Y,Y,hOA,by rw[hA];unfold E6;rw[if_neg (by omega),if_neg (by omega),if_neg (by omega),if_neg (by omega),if_neg (by omega),if_neg (by omega),if_neg (by omega)],hs⟩)
theorem Mt(A B:List Ce)(va vb:Value)(K:Int)(hK:0<=K/\K<=1000000)(hp:Hp)(hA:RdC hp va A)(hB:RdC hp vb B)(hnA:A.length<=1000)(hnB:B.length<=1000)(hiA:∀a∈A,-1000000<=a.c.id/\a.c.id<=K)(hiB:∀b∈B,(-1000000<=b.c.id/\b.c.id<=1000000)/\b.c.sd.length<=100/\∀s∈b.c.sd,-1000000<=s.1/\s.1<=1000000) :
  FnT Tryz.prog 48 #[.agg #[va],.agg #[vb]] hp [] (fun r h' ms'=>hp.le h'/\Rn h' r ms' (fun o=>∃m:Int,0<=m/\m<=K/\(∀a∈A,a.c.id<=m)/\o=A.map Ce.c++(B.map Ce.c).map (Wh m))):=by
 have oa:=hA.q.rd.one;have ob:=hB.q.rd.one;refine Aq func48 ntmps48 Y Y (fun w0 hw0=>?_);simp only[AW];refine Ar (AV [_] Y Y (by rfl) Y Y Y (fun g2=>AV [_] Y Y (by rfl) Y Y Y (fun g3=>CG [.slice none 0 0] Y AY Y Y (fun g4=>Am (Bp 1 Y fun h1 l1 hS3=>(Bp 1 Y fun h2 l2 hS2=>?_))))));have hA:=(hA.up l1).up l2;have hB:=(hB.up l1).up l2;have hS3:=hS3.le l2;have e2:∀{h},h2.le h->∀ms,Cell h ms (⟨g2,0,none⟩:Addr) va:=fun l ms=>Seg.all (hS2.le l) 0 _ Y ms;have e3:∀{h},h2.le h->∀ms,Cell h ms (⟨g3,0,none⟩:Addr) vb:=fun l ms=>Seg.all (hS3.le l) 0 _ Y ms;refine Ar (Qm Y (Am ?_));refine A8 (fun sl h' ms'=>∃(m:Int),sl=[(2,.pointer (some ⟨g2,0,none⟩)),(3,.pointer (some ⟨g3,0,none⟩)),(4,.pointer (some ⟨g4,0,none⟩)),(5,.int .i64 m)]/\h2=h'/\ms'=[Bl g4 29 [.slice none 0 0]]/\0<=m/\m<=K/\∀a∈A,a.c.id<=m) ?_ (fun s h ms hI=>?_)
 ·refine Ac (Ad (Qm Y (Am (Ag ?_))))
  refine Aw (fun q sl h' ms'=>∃(i:Nat) (m:Int),q=A.length-i/\sl=[(2,.pointer (some ⟨g2,0,none⟩)),(3,.pointer (some ⟨g3,0,none⟩)),(4,.pointer (some ⟨g4,0,none⟩)),(5,.int .i64 m),(6,.int .i64 i)]/\h2=h'/\ms'=[Bl g4 29 [.slice none 0 0]]/\i<=A.length/\0<=m/\m<=K/\∀a∈A.take i,a.c.id<=m)
   (A.length-0) _ ⟨0,0,rfl,rfl,rfl,rfl,by omega,by omega,by omega,by simp⟩ Qs ?_
  rintro q sl h' ms' ⟨i,m,rfl,rfl,rfl,rfl,hi,hm0,hm1,hm⟩;refine Ac (Ar (Qm Y (Qf B5 Y (Ql Y A9 (e2 (DT) _) (Qx (Au hA.q.rd.any Y A9 Y) Y (Qm Y (Am ?_)))))));refine Ap Y (fun hlt=>?_) (fun hlt=>?_)
  ·have hil:i<A.length:=by omega
   obtain⟨x,hx⟩:∃x,A[i]=x:=⟨_,Y⟩
   have hxi:=hiA x (by rw[<-hx];exact getElem_mem hil);have cx:∀ms,Cell h2 ms (((AE va).add (i*3)).add 0) (.int .i64 x.c.id):=fun ms=>by rw[<-hx];exact(hA.q.any (ms:=ms)).cell (j:=i) hil (f:=0) Y
   refine Ah (Ab (Ac (Ag (Ad (Qm Y (Qf B5 Y (Ql Y A9 (e2 (DT) _) (Qm Y (Qx (BE (i) hA.q.rd.any Y A9 AG Y Y) Y (Qf Bi Y (Ql Y U3 (cx _) (Qx (Jq Y Y Y) Y (Qm Y (Al (Ai (Ab (Ad (Qm Y (Qx (oA Y) Y (Qm Y (Al ?_)))))))))))))))))))))
   exact Ak (A.length-(i+1)) _ (by omega) ⟨i+1,max m x.c.id,Y,Y,Y,Y,by omega,by omega,by omega,fun a ha=>by
    rw[take_succ_eq_append_getElem hil,hx]at ha;rcases List.mem_append.1 ha with h|h
    ·have:=hm a h;omega
    ·rw[List.mem_singleton.1 h];omega⟩ Qs
  ·obtain rfl:i=A.length:=by omega
   refine As (Aa (Aa (Af ?_)));exact AF _ ⟨m,Y,Y,Y,hm0,hm1,fun a ha=>hm a (by rw[take_length];exact ha)⟩ Qs
 ·obtain⟨m,rfl,rfl,rfl,hm0,hm1,hm⟩:=hI;refine Ar ?_;refine Ax [] [] [] rfl A9 AG rfl (by omega) (by kernel_rfl) (by repeat (first|exact trivial|refine⟨⟨by first|rfl|exact(hA.q.rd.any).cells|exact Rd.cells ‹_›|exact(RdL.rd ‹_›).cells,rfl,rfl⟩,?_⟩)) rfl rfl rfl rfl (fun g27=>?_);refine Qf B5 rfl (Ql rfl A9 (e2 (DT) _) (Bb 0 (EI g27 Cw) hA.q.any rfl A9 AG rfl (by omega) rfl rfl rfl (Dh hA.s) (by(try simp only[length_singleton,length_nil,Nat.zero_add]);omega) (by(try simp only[length_singleton,length_nil,Nat.zero_add]);omega) rfl rfl rfl (fun vA mA hOA=>?_)));have ovA:=hOA.o1;rw[nil_append]at hOA;obtain⟨aA,cA,rfl,_⟩:=(hOA.rd (h:=hp) (ms:=[mA]) Mh).rd.ex;refine Qx (A4 Z4 [.slice none 0 0] [(0,_)] [_] rfl AY rfl rfl Qt rfl) rfl (CG [.slice none 0 0] rfl AY rfl rfl (fun g7=>?_));refine Sa 0 [_] AY rfl (by simp[Value.oneCell']) ?_;refine Am (Ac (Ar (Qm rfl (Am (Ag (II (ms':=[mA,Bl g7 29 [.slice aA A.length cA],Bl g4 29 [.slice none 0 0]]) (List.Perm.swap _ _ _) ?_))))))
  refine Aw (fun q sl h' ms'=>∃(i:Nat) (v:Value) (mO:Hp) (O:List Ce),q=B.length-i/\sl=[(2,.pointer (some ⟨g2,0,none⟩)),(3,.pointer (some ⟨g3,0,none⟩)),(4,.pointer (some ⟨g4,0,none⟩)),(5,.int .i64 m),(7,.pointer (some ⟨g7,0,none⟩)),(8,.int .i64 i)]/\h2.le h'/\ms'=[mO,Bl g7 29 [v],Bl g4 29 [.slice none 0 0]]/\i<=B.length/\OwnL cC 3 52 mO v O/\O.map Ce.c=A.map Ce.c++((B.take i).map Ce.c).map (Wh m)/\∀a∈O,RdL cD 2 h' [] a.v a.c.sd)
   (B.length-0) _ ⟨0,_,mA,A,rfl,rfl,DT,rfl,by omega,hOA,by simp,hA.s⟩ Qs ?_
  rintro q sl h' ms' ⟨i,v,mO,O,rfl,rfl,lh,rfl,hi,hO,hOc,hOs⟩;have hB:=hB.up lh;have ov:=hO.o1;have hOl:O.length=A.length+i:=by have:=congrArg List.length hOc;simpa[Nat.min_eq_left hi] using this
  refine Ac (Ar (Qm Y (Qf B5 Y (Ql Y A9 (e3 lh _) (Qx (Au hB.q.rd.any Y A9 Y) Y (Qm Y (Am ?_)))))));refine Ap Y (fun hlt=>?_) (fun hlt=>?_)
  ·have hil:i<B.length:=by omega
   obtain⟨x,hx⟩:∃x,B[i]=x:=⟨_,Y⟩
   have hxm:x∈B:=by rw[<-hx];exact getElem_mem hil
   obtain⟨hxi,hxl,hxs⟩:=hiB x hxm;have hX:=hB.s x hxm;have cx0:∀ms,Cell h' ms (((AE vb).add (i*3)).add 0) (.int .i64 x.c.id):=fun ms=>by rw[<-hx];exact(hB.q.any (ms:=ms)).cell (j:=i) hil (f:=0) Y
   have cx1:∀ms,Cell h' ms (((AE vb).add (i*3)).add 1) (.int .i64 x.c.dim):=fun ms=>by rw[<-hx];exact(hB.q.any (ms:=ms)).cell (j:=i) hil (f:=1) Y
   have cx2:∀ms,Cell h' ms (((AE vb).add (i*3)).add 2) x.v:=fun ms=>by rw[<-hx];exact(hB.q.any (ms:=ms)).cell (j:=i) hil (f:=2) Y
   have ox:=hX.rd.one;refine Ah (Ab (Ac (Ag (Ac (A7 16 CW (by kernel_rfl) Y (Wf B5 Y (Wl Y A9 (e3 lh _) (Wm Y (AK (BE (i) hB.q.rd.any Y A9 AG Y Y) Y Y (Wf Bi Y (Wl Y U3 (cx0 _) (Wm Y (AK (oA Y) Y Y (Wf B5 Y (Wl Y A9 (e3 lh _) (Wm Y (AK (BE (i) hB.q.rd.any Y A9 AG Y Y) Y Y (Wf BJ Y (Wl Y U3 (cx1 _) (AK (A4 VH [.int .i64 0,.int .i64 0,.slice none 0 0] [(0,_),(1,_)] [_,_,_] Y AG Y Y Qt Y) Y Y (Ui (Ja [.int .i64 0,.int .i64 0,.slice none 0 0] Y AG Y) Y Y (HF (fun g9=>?_)))))))))))))))))))))));refine Sa 0 [_,_,_] AG Y (by simp[Value.oneCell']) ?_;refine Am (BG ?_);refine A8 (fun sl h'' ms'=>∃(vs:Value) (mS:Hp),sl=[(2,.pointer (some ⟨g2,0,none⟩)),(3,.pointer (some ⟨g3,0,none⟩)),(4,.pointer (some ⟨g4,0,none⟩)),(5,.int .i64 m),(7,.pointer (some ⟨g7,0,none⟩)),(8,.int .i64 i),(9,.pointer (some ⟨g9,0,none⟩))]/\h'=h''/\ms'=[mS,Bl g9 52 [.int .i64 (x.c.id+m),.int .i64 x.c.dim,vs],mO,Bl g7 29 [v],Bl g4 29 [.slice none 0 0]]/\OwnL cD 2 119 mS vs (x.c.sd.map fun s=>(s.1+m,s.2))) ?_ (fun s h ms hI=>?_)
   ·refine Ac (Ad (Qm Y (Am (Ag ?_))))
    refine Aw (fun q sl h'' ms'=>∃(j:Nat) (vs:Value) (mS:Hp),q=x.c.sd.length-j/\sl=[(2,.pointer (some ⟨g2,0,none⟩)),(3,.pointer (some ⟨g3,0,none⟩)),(4,.pointer (some ⟨g4,0,none⟩)),(5,.int .i64 m),(7,.pointer (some ⟨g7,0,none⟩)),(8,.int .i64 i),(9,.pointer (some ⟨g9,0,none⟩)),(10,.int .i64 j)]/\h'=h''/\ms'=[mS,Bl g9 52 [.int .i64 (x.c.id+m),.int .i64 x.c.dim,vs],mO,Bl g7 29 [v],Bl g4 29 [.slice none 0 0]]/\j<=x.c.sd.length/\OwnL cD 2 119 mS vs ((x.c.sd.take j).map fun s=>(s.1+m,s.2)))
     (x.c.sd.length-0) _ ⟨0,_,Hp.emp,rfl,rfl,rfl,rfl,by omega,OwnL.nil Es⟩ Qs ?_
    rintro q sl h'' ms' ⟨j,vs,mS,rfl,rfl,rfl,rfl,hj,hOS⟩;have ovs:=hOS.o1;refine Ac (Ar (Qm Y (Qf B5 Y (Ql Y A9 (e3 lh _) (Qm Y (Qx (BE (i) hB.q.rd.any Y A9 AG Y Y) Y (Qf Bz Y (Ql Y BW (cx2 _) (Qx (Au hX.rd.any Y BW Y) Y (Qm Y (Am ?_)))))))))));refine Ap Y (fun hjl=>?_) (fun hjl=>?_)
    ·have hjn:j<x.c.sd.length:=by omega
     obtain⟨s,hs⟩:∃s,x.c.sd[j]=s:=⟨_,Y⟩
     have hsb:=hxs s (by rw[<-hs];exact getElem_mem hjn);have cs:∀ms,Seg h' ms ((AE x.v).add (j*2)) (cD s):=fun ms=>by rw[<-hs];exact(hX.any (ms:=ms)).seg hjn
     have hll:((x.c.sd.take j).map fun s=>(s.1+m,s.2)).length<=100:=by rw[length_map,length_take];omega
     have hsn:((x.c.sd.take (j+1)).map fun s=>(s.1+m,s.2))=((x.c.sd.take j).map fun s=>(s.1+m,s.2))++[(s.1+m,s.2)]:=by rw[take_succ_eq_append_getElem hjn,map_append,hs];rfl
     refine Ah (Ab (Ac (Ag (Ar (Qf B5 Y (Ql Y A9 (e3 lh _) (Qm Y (Qx (BE (i) hB.q.rd.any Y A9 AG Y Y) Y (Qf Bz Y (Ql Y BW (cx2 _) (Qm Y (Qx (BE (j) hX.rd.any Y BW AM Y Y) Y (Qx (oG Y DS AM (cs _)) Y (CG [.int .i64 0,.int .i64 0] Y AM Y Y (fun g11=>?_)))))))))))))));refine Sa 0 [_,_] AM Y (by simp[Value.oneCell']) ?_;refine BH (Qf BY Y (Ql Y U3 (Cell.blk 0 Y Y) (Qm Y (Qx (oA Y) Y (Qf BY Y ?_)))));refine AP 0 _ Y A5 Y Y (by rfl) Y Y (by(simp;done)) rfl rfl ?_;refine GJ (Qf Bz Y (Ql Y BW (Cell.blk 2 Y Y) (Qx (oG Y DS AM (Seg.blk 0 Y)) Y (Ao [_,_] Y BW AM Y (by rfl) Y Y (by omega) Y Y Y (fun g82=>AR 2 hOS (RdL.one Es (x:=(s.1+m,s.2)) Mh Y) Y BW AM Y (by omega) Y Y Y Gs (by(try simp only[length_singleton]);omega) (by(try simp only[length_singleton]);omega) rfl rfl rfl (fun v9 m9 hO9=>?_))))));rw[<-hsn]at hO9;have ov9:=hO9.o1;refine Qf Bz Y ?_;refine AP 3 _ Y T8 Y Y (by assumption) Y Y (by(simp;done)) rfl rfl ?_;refine Al (Ai (Ab (Ad (Qm Y (Qx (oA Y) Y (Qm Y (Al (A3 0 Y (A3 0 Y ?_)))))))));exact Ak (x.c.sd.length-(j+1)) _ (by omega) ⟨j+1,v9,m9,Y,Y,Y,Y,by omega,hO9⟩ Qs
    ·obtain rfl:j=x.c.sd.length:=by omega
     refine As (Aa (Aa (Af ?_)));exact AF _ ⟨vs,mS,Y,Y,Y,by rw[take_length]at hOS;exact hOS⟩ Qs
   ·obtain⟨vs,mS,rfl,rfl,rfl,hOS⟩:=hI;obtain⟨aS,cS,rfl,_⟩:=(hOS.rd (h:=hp) (ms:=[mS]) Mh).rd.ex;refine Bs fun h3 l3 k3=>?_;have hRS:=hOS.rdh (ms:=[]) k3;have oS_:=hRS.rd.one
    let ce:Ce:=⟨Wh m x.c,.slice aS (x.c.sd.map fun s=>(s.1+m,s.2)).length cS⟩
    have hce:RdL cD 2 h3 [] ce.v ce.c.sd:=hRS;refine Ad (Qf B5 Y (Ql Y A9 (Cell.blk 2 Y Y) (Qx (oG Y Ei AG (Seg.blk 0 Y)) Y (Ao [_,_,_] Y A9 AG Y (by rfl) Y Y (by omega) Y Y Y (fun g88=>?_)))));refine Bb 2 hO (RdL.one Cw (x:=ce) Mh Y) Y A9 AG Y (by omega) Y Y Y (Dh (l:=[ce]) (h:=h3) fun y hy=>by rw[List.mem_singleton.1 hy];exact hce) (by(try simp only[length_singleton]);omega) (by(try simp only[length_singleton]);omega) rfl rfl rfl (fun v9 m9 hO9=>?_);have ov9:=hO9.o1;refine Qf B5 Y ?_;refine AP 3 _ Y JT Y Y (by assumption) Y Y (by(simp;done)) rfl rfl ?_;refine Al (Ai (Ab (Ad (Qm Y (Qx (oA Y) Y (Qm Y (Al (A3 0 Y (A3 0 Y ?_)))))))));exact Ak (B.length-(i+1)) _ (by omega) ⟨i+1,v9,m9,O++[ce],Y,Y,AJ lh l3,Y,by omega,hO9,by rw[map_append,hOc,take_succ_eq_append_getElem hil,map_append,map_append,hx,append_assoc];rfl,RdC.snoc' (fun a ha=>(hOs a ha).up l3) hce⟩ Qs
  ·obtain rfl:i=B.length:=by omega
   refine As (Aa (Aa (Af (Ab (Ar (Qx (oG Y CB AY (Seg.blk 1 Y)) Y ?_))))));refine Sa 2 [_] AY Y (by simp[oa,ob,ov]) ?_;refine Am (An (A3 1 Y ?_));exact By (vs:=[_]) 1 Y Y CB Y AY Y Y (⟨AJ l1 (AJ l2 lh),mO,O,_,Y,Y,hO,⟨m,hm0,hm1,hm,by rw[hOc,take_length]⟩,hOs⟩)
variable {o:List Cl}
theorem D4{l:List Cl}(R:Rgt l):Fs l=ordF l:=by have F:=R.ordF;refine Ri _ _ (fun _=>nofun) fun i hi e=>?_;have:=List.pairwise_iff_getElem.1 F.inc i (i+1) (by omega) hi (by omega);omega
theorem Rgt.cs{l:List Ce}(R:Rgt (l.map Ce.c)):CsOk l:=by have hn:=R.n;rw[length_map]at hn;exact⟨by omega,fun a ha=>by have:=(R.bds (List.mem_map.2 ⟨a,ha,Y⟩)).2;omega⟩
def Xu(o:List Cl)(i j k:Nat):Bool:=(o.take i).any (fun y=>y.sd.any fun s=>decide (s.1=(o.getD k default).id))||((o.getD i default).sd.take j).any fun s=>decide (s.1=(o.getD k default).id)
def LK(o:List Cl)(i j:Nat):List Bool:=(range o.length).map (Xu o i j)
theorem FO(o:List Cl)(i j:Nat):(LK o i j).length=o.length:=by simp[LK]
theorem Vb(o:List Cl):LK o 0 0=List.replicate o.length false:=by unfold LK;refine List.ext_getElem (by simp) fun k h1 h2=>?_;simp[Xu]
theorem Yo{i:Nat}(hi:i<o.length):LK o i o[i].sd.length=LK o (i+1) 0:=by unfold LK;refine List.map_congr_left fun k hk=>?_;unfold Xu;rw[show o.getD i default=o[i] by simp[List.getD,hi],take_length,take_succ_eq_append_getElem hi,List.any_append];simp
theorem Xl(R:RgtF o){i j:Nat}(hi:i<o.length)(hj:j<o[i].sd.length){k:Nat}(hk:I7 o o[i].sd[j].1=k):(LK o i j).set k true=LK o i (j+1):=by
 have G:=R.rgt;obtain⟨y,hy,e1,_⟩:=G.sid _ (getElem_mem hi) _ (getElem_mem hj);obtain⟨h1,h2⟩:=Hm R.inc hy;rw[e1,hk]at h1 h2;rw[Int.toNat_natCast]at h2;have hkl:k<o.length:=by have:=HZ o o[i].sd[j].1;omega
 refine List.ext_getElem (by rw[length_set,FO,FO]) fun q hq1 hq2=>?_;have hq:q<o.length:=by rw[FO]at hq2;exact hq2
 have hg:o.getD i default=o[i]:=by simp[List.getD,hi]
 have hT:Xu o i (j+1) q=(Xu o i j q||decide (o[i].sd[j].1=(o.getD q default).id)):=by unfold Xu;rw[hg,take_succ_eq_append_getElem hj,List.any_append,Bool.or_assoc];simp
 have hr:(LK o i (j+1))[q]=Xu o i (j+1) q:=by simp[LK]
 have hl:(LK o i j)[q]'(by rw[FO];exact hq)=Xu o i j q:=by simp[LK]
 rw[hr,hT,List.getElem_set];by_cases e:k=q
 ·subst e;rw[if_pos rfl,h2,e1];simp
 ·rw[if_neg e,hl];have hne:o[i].sd[j].1≠(o.getD q default).id:=fun h=>e (LA G.nd hkl hq (by rw[h2,e1,h]));rw[decide_eq_false hne,Bool.or_false]
theorem Zc{k:Nat}(hk:k<o.length):(LK o o.length 0)[k]'(by rw[FO];exact hk)=o.any fun y=>y.sd.any fun s=>decide (s.1=o[k].id):=by
 have:(LK o o.length 0)[k]'(by rw[FO];exact hk)=Xu o o.length 0 k:=by simp[LK]
 rw[this];unfold Xu;rw[take_length,show o.getD k default=o[k] by simp[List.getD,hk]];simp
def NU(o:List Cl)(x:Cl):Bool:=!(o.any fun y=>y.sd.any fun s=>decide (s.1=x.id))
theorem YR(l:List Ce)(v:Value)(hp:Hp)(hK:RgC l)(hR:RdC hp v l):FnT Tryz.prog 47 #[.agg #[v]] hp [] (fun r h' ms'=>hp.le h'/\∃m,ms'=[m]/\OwnL cI 1 3 m r (IB (cn l))):=by
 have o1:=hR.q.rd.one;have hln:=hK.r.n;rw[length_map]at hln;refine Aq func47 ntmps47 Y Y (fun w0 hw0=>?_);simp only[AW];refine Ar (AV [_] Y Y (by rfl) Y Y Y (fun g1=>Qm Y (Am (Bp 0 Y fun h1 l1 hS=>?_))));have hR:=hR.up l1;refine Ar (Qm Y (BH (Qx (oG Y CB AY (Seg.any hS)) Y (Qc call49 Y (EK l v h1 hK.r.cs hR) (fun rC h2 ms2 l2 hF=>?_)))));obtain⟨l2',mC,A,rfl,hOC,hA,hAs⟩:=hF;rw[D4 hK.r]at hA;obtain⟨o,ho⟩:∃o,cn l=o:=⟨_,Y⟩
 have hA:A.map Ce.c=o:=by rw[hA,<-ho];rfl
 have F:RgtF o:=by rw[<-ho];exact hK.F
 have G:=F.rgt;rw[ho];have hAl:A.length=o.length:=by rw[<-hA,length_map]
 have hol:o.length<=4000:=G.n;have oC:=hOC.o1;refine Qm Y (Am (Bc hOC fun h3 l3 hQ=>?_));have hAs:∀a∈A,RdL cD 2 h3 [] a.v a.c.sd:=fun a ha=>(hAs a ha).up l3;have l13:=AJ l2' l3;have hge:∀i (hi:i<A.length),o[i]'(by omega)=A[i].c:=fun i hi=>by subst hA;simp
 refine Ar (Qm Y (Qx (Au hQ.rd.any Y A9 Y) Y (CN (n:=_) Y Rq Wd Y Y Y (by rfl) (by rfl) (by omega) (by omega) Y Y Y (fun g14=>Qm Y (Am ?_)))));have hO5:=SJ g14 A.length (by omega);rw[hAl,<-Vb]at hO5;refine BG ?_;refine A8 (fun sl h' ms'=>∃(m5:Hp),sl=[(3,.slice none 0 0),(4,rC),(5,.slice (some ⟨g14,0,none⟩) A.length A.length)]/\h3=h'/\ms'=[Hp.emp,m5]/\OwnL cB 1 4 m5 (.slice (some ⟨g14,0,none⟩) A.length A.length) (LK o A.length 0)) ?_ (fun s h ms hI=>?_)
 ·refine Ac (Ad (Qm Y (Am (Ag ?_))))
  refine Aw (fun q sl h' ms'=>∃(i:Nat) (m5:Hp),q=A.length-i/\sl=[(3,.slice none 0 0),(4,rC),(5,.slice (some ⟨g14,0,none⟩) A.length A.length),(6,.int .i64 i)]/\h3=h'/\ms'=[Hp.emp,m5]/\i<=A.length/\OwnL cB 1 4 m5 (.slice (some ⟨g14,0,none⟩) A.length A.length) (LK o i 0))
   (A.length-0) _ ⟨0,_,rfl,rfl,rfl,rfl,by omega,by rw[hAl];exact hO5⟩ Qs ?_
  rintro q sl h' ms' ⟨i,m5,rfl,rfl,rfl,rfl,hi,hO5⟩;refine Ac (Ar (Qm Y (Qm Y (Qx (Au hQ.rd.any Y A9 Y) Y (Qm Y (Am ?_))))));refine Ap Y (fun hlt=>?_) (fun hlt=>?_)
  ·have hil:i<A.length:=by omega
   have hio:i<o.length:=by omega
   obtain⟨x,hx⟩:∃x,A[i]=x:=⟨_,Y⟩
   have hxm:x∈A:=by rw[<-hx];exact getElem_mem hil
   have hxo:o[i]=x.c:=by rw[hge i hil,hx]
   have hX:=hAs x hxm;have oX:=hX.rd.one;have hxl:x.c.sd.length<=64:=by have:=(F.bds (getElem_mem hio)).2.1;rwa [hxo]at this
   have cx:∀ms,Cell h3 ms (((AE rC).add (i*3)).add 2) x.v:=fun ms=>by rw[<-hx];exact(hQ.any (ms:=ms)).cell (j:=i) hil (f:=2) Y
   refine Ah (Ab (Ac (Ag (Ar (Qm Y (Am (Ag ?_)))))))
   refine Aw (fun q sl h' ms'=>∃(j:Nat) (m5:Hp),q=x.c.sd.length-j/\sl=[(3,.slice none 0 0),(4,rC),(5,.slice (some ⟨g14,0,none⟩) A.length A.length),(6,.int .i64 i),(7,.int .i64 j)]/\h3=h'/\ms'=[Hp.emp,m5]/\j<=x.c.sd.length/\OwnL cB 1 4 m5 (.slice (some ⟨g14,0,none⟩) A.length A.length) (LK o i j))
    (x.c.sd.length-0) _ ⟨0,m5,rfl,rfl,rfl,rfl,by omega,hO5⟩ Qs ?_
   rintro q sl h' ms' ⟨j,m5,rfl,rfl,rfl,rfl,hj,hO5⟩;refine Ac (Ar (Qm Y (Qm Y (Qm Y (Qx (BE (i) hQ.rd.any Y A9 AG Y Y) Y (Qf Bz Y (Ql Y BW (cx _) (Qx (Au hX.rd.any Y BW Y) Y (Qm Y (Am ?_))))))))));refine Ap Y (fun hjl=>?_) (fun hjl=>?_)
   ·have hjn:j<x.c.sd.length:=by omega
    obtain⟨s,hs⟩:∃s,x.c.sd[j]=s:=⟨_,Y⟩
    have cs:∀ms,Cell h3 ms (((AE x.v).add (j*2)).add 0) (.int .i64 s.1):=fun ms=>by
     have:Seg h3 ms ((AE x.v).add (j*2)) (cD s):=by rw[<-hs];exact(hX.any (ms:=ms)).seg hjn
     exact this 0 _ Y
    obtain⟨y,hy,ey,_⟩:=G.sid _ (getElem_mem hio) s (by rw[hxo,<-hs];exact getElem_mem hjn);have hat:=(Hm F.inc hy).1;rw[ey]at hat;obtain⟨k,hk⟩:∃k:Nat,I7 o s.1=k:=⟨_,(Int.toNat_of_nonneg hat).symm⟩
    have hko:k<o.length:=by have:=HZ o s.1;omega
    have hkM:k<(LK o i j).length:=by rw[FO];exact hko
    have hmk:=Xl F hio (j:=j) (by rw[hxo];exact hjn) (k:=k) (by simp only[hxo,hs];exact hk);refine Ah (Ab (Ac (Ag (Ar (Qm Y (Qm Y (Qm Y (Qx (BE (i) hQ.rd.any Y A9 AG Y Y) Y (Qf Bz Y (Ql Y BW (cx _) (Qm Y (Qx (BE (j) hX.rd.any Y BW AM Y Y) Y (Qf BY Y (Ql Y U3 (cs _) ?_))))))))))))));refine Qx (AI Y call117 Y ((by have:=Vz A rC s.1 h3 (by omega) (by rw[hA];exact F.inc.imp fun h=>Int.le_of_lt h) hQ [Hp.emp,m5];rwa [hA,hk]at this))) rfl ?_;refine Qm Y (BH (Qm Y (Qm Y (Am ?_))));refine Ap Y (fun hc=>?_) (fun hc=>absurd (by omega) hc);refine Ad (Qm Y (Qm Y (Qx (B0 (k) Y Rq Wd Y Y (by omega) (by omega)) Y (Cj (F:=cB) (f:=fun x=>.bool x) (a:=true) 1 k (fun _=>rfl) hO5 Y Wd Y Y Y Y hkM Y Y (fun m6 hO6=>?_)))));rw[hmk]at hO6;refine Al (Ai (Ab (Ad (Qm Y (Qx (oA Y) Y (Qm Y (Al ?_)))))));exact Ak (x.c.sd.length-(j+1)) _ (by omega) ⟨j+1,m6,Y,Y,Y,Y,by omega,hO6⟩ Qs
   ·obtain rfl:j=x.c.sd.length:=by omega
    refine As (Aa (Aa (Af (Ai (Ab (Ad (Qm Y (Qx (oA Y) Y (Qm Y (Al ?_))))))))));exact Ak (A.length-(i+1)) _ (by omega) ⟨i+1,m5,Y,Y,Y,Y,by omega,by rw[<-Yo hio,hxo];exact hO5⟩ Qs
  ·obtain rfl:i=A.length:=by omega
   refine As (Aa (Aa (Af ?_)));exact AF _ ⟨m5,Y,Y,Y,hO5⟩ Qs
 ·obtain⟨m5,rfl,rfl,rfl,hO5⟩:=hI;refine Eg 1 Y (Bs fun h4 l4 k4=>?_);have hB:=hO5.rdh (ms:=[]) k4;have hQ:=hQ.up l4
  have htk:∀i (hi:i<o.length),((o.take (i+1)).filter (NU o)).map Cl.id=((o.take i).filter (NU o)).map Cl.id++if NU o o[i] then [o[i].id] else []:=fun i hi=>by rw[take_succ_eq_append_getElem hi,filter_append,map_append];congr 1;cases h:NU o o[i]<;>simp[List.filter_cons,h]
  refine Ac (Ar (Qm Y (Am (Ag ?_))))
  refine Aw (fun q sl h' ms'=>∃(i:Nat) (v:Value) (m:Hp),q=A.length-i/\sl=[(3,v),(4,rC),(5,.slice (some ⟨g14,0,none⟩) A.length A.length),(9,.int .i64 i)]/\h4=h'/\ms'=[m]/\i<=A.length/\OwnL cI 1 3 m v (((o.take i).filter (NU o)).map Cl.id))
   (A.length-0) _ ⟨0,_,Hp.emp,rfl,rfl,rfl,rfl,by omega,OwnL.nil Be⟩ Qs ?_
  rintro q sl h' ms' ⟨i,v3,m3,rfl,rfl,rfl,rfl,hi,hO3⟩;have ov3:=hO3.o1;refine Ac (Ar (Qm Y (Qm Y (Qx (Au hQ.rd.any Y A9 Y) Y (Qm Y (Am ?_))))));refine Ap Y (fun hlt=>?_) (fun hlt=>?_)
  ·have hil:i<A.length:=by omega
   have hio:i<o.length:=by omega
   obtain⟨x,hx⟩:∃x,A[i]=x:=⟨_,Y⟩
   have hxo:o[i]=x.c:=by rw[hge i hil,hx]
   have hmi:i<(LK o A.length 0).length:=by rw[FO];exact hio
   have hmk:(LK o A.length 0)[i]=!NU o o[i]:=by have:=Zc hio;unfold NU;rw[Bool.not_not,<-this];simp only[hAl]
   have cb:∀ms,Cell h4 ms ((AE (.slice (some ⟨g14,0,none⟩) A.length A.length)).add (i*1)) (.bool (!NU o o[i])):=fun ms=>by rw[<-hmk];exact(hB.any (ms:=ms)).cell0 hmi Y
   have cx:∀ms,Cell h4 ms (((AE rC).add (i*3)).add 0) (.int .i64 x.c.id):=fun ms=>by rw[<-hx];exact(hQ.any (ms:=ms)).cell (j:=i) hil (f:=0) Y
   have hfl:(((o.take i).filter (NU o)).map Cl.id).length<=4000:=by rw[length_map];exact Nat.le_trans (List.length_filter_le _ _) (by rw[length_take];omega)
   have hk:=htk i hio;refine Ah (Ab (Ac (Ag (Ar (Qm Y (Qm Y (Qx (B0 (i) Y Rq Wd Y Y (by omega) (by omega)) Y (Ql Y U4 (cb _) (Qm Y (Am ?_))))))))));refine Bx Y (fun hb=>?_) (fun hb=>?_)
   ·rw[Bool.not_not]at hb;rw[hb,if_pos rfl,hxo]at hk;refine Ad (Qm Y (Qm Y (Qm Y (Qx (BE (i) hQ.rd.any Y A9 AG Y Y) Y (Qf Bi Y (Ql Y U3 (cx _) (Ao [_] Y AU A5 Y (by rfl) Y Y (by omega) Y Y Y (fun g64=>AR 1 hO3 (RdL.one Be (x:=x.c.id) Mh Y) Y AU A5 Y (by omega) Y Y Y B8 (by(try simp only[length_singleton]);omega) (by(try simp only[length_singleton]);omega) rfl rfl rfl (fun v9 m9 hO9=>?_)))))))));rw[<-hk]at hO9;have ov9:=hO9.o1;refine Qm Y (Al (Ai (Ab (Ad (Qm Y (Qx (oA Y) Y (Qm Y (Al (AO ?_)))))))));exact Ak (A.length-(i+1)) _ (by omega) ⟨i+1,v9,m9,Y,Y,Y,Y,by omega,hO9⟩ Qs
   ·rw[Bool.not_not]at hb;rw[hb,if_neg (by decide),append_nil]at hk;refine Ah (Ai (Ab (Ad (Qm Y (Qx (oA Y) Y (Qm Y (Al ?_)))))));exact Ak (A.length-(i+1)) _ (by omega) ⟨i+1,v3,m3,Y,Y,Y,Y,by omega,by rw[hk];exact hO3⟩ Qs
  ·obtain rfl:i=A.length:=by omega
   refine As (Aa (Aa (Af (Ab (Ar (Qm Y (Qm Y (Am (An ?_)))))))));exact Av Y Y (⟨AJ l1 (AJ l2' (AJ l3 l4)),m3,Y,by rw[hAl,take_length]at hO3;exact hO3⟩)
end Go.Proofs.Q

namespace Go.Proofs.Q
open Go.Proofs.Tryz
open Go.Eng Go.RowKit
theorem Yz{l:List Cl}(R:Rgt l):FV l=(0,0):=by
 have F:=R.ordF;have hl:=Te l
 have hA:(range l.length).findSome? (H5 (ordF l) (Fs l))=none:=Co _ fun b hb=>by
  have hb':b<(ordF l).length:=by omega
  unfold H5;rw[D4 R,G2 hb'];have h1:=F.pos _ (getElem_mem hb');rw[if_neg (fun q=>?_),if_neg (fun q=>q (F.fst _ (getElem_mem hb')))];rcases q with q|⟨q,e⟩
  ·omega
  ·have:=List.pairwise_iff_getElem.1 F.inc (b-1) b (by omega) hb' (by omega);rw[G2 (show b-1<(ordF l).length by omega)]at e;omega
 have hB:(range l.length).findSome? (JR (ordF l))=none:=Co _ fun b hb=>by
  have hb':b<(ordF l).length:=by omega
  unfold JR;rw[G2 hb'];split
  ·rfl
  ·rw[if_neg fun q=>q (F.snd _ (getElem_mem hb') (by omega))]
 unfold FV;rw[if_neg (by have:=R.n;omega),hA,hB];rfl
theorem Rgt.ck{l:List Ce}(R:Rgt (l.map Ce.c)):Aa7 l:=
 ⟨R.cs,fun a ha=>by have:=(R.bds (List.mem_map.2 ⟨a,ha,Y⟩)).1;omega⟩
theorem PE(l:List Ce)(v:Value)(h:Hp)(hK:RgC l)(hR:RdC h v l):FnT Tryz.prog 69 #[.agg #[v]] h [] (fun r _ _=>r=.tuple #[.int .i64 0,.int .i64 0]):=by
 have:=Rw l v h hK.r.ck hR
 rwa [Yz hK.r]at this
theorem L7(l:List Ce)(v:Value)(i:Int)(hp:Hp)(hK:RgC l)(hR:RdC hp v l):FnT Tryz.prog 70 #[.agg #[v],.int .i64 i] hp [] (fun r h' ms'=>hp.le h'/\∃y:Ce,r=.tuple #[vC y,.bool (Md (cn l) i).isSome]/\y.v.oneCell'=true):=by
 have o1:=hR.q.rd.one;have F:=hK.F;refine Aq func70 ntmps70 Y Y (fun w0 hw0=>?_);simp only[AW];refine Ar (AV [_] Y Y (by rfl) Y Y Y (fun g2=>CG [.int .i64 0,.int .i64 0,.slice none 0 0] Y AG Y Y (fun g4=>Qm Y (Am (Bp 1 Y fun h1 l1 hS=>?_)))));have hR:=hR.up l1;refine Ar (Qx (oG Y CB AY (Seg.any hS)) Y (Qc call49 Y (EK l v h1 hK.r.cs hR) (fun rA h2 ms2 l2 hF=>?_)));obtain⟨l2',mA,A,rfl,hOA,hA,hsA⟩:=hF;rw[D4 hK.r]at hA;have oA_:=hOA.o1;refine Qm Y (Am (Bc hOA fun h3 l3 hRA=>?_))
 have hAl:A.length<=100000:=by have:=congrArg List.length hA;rw[length_map,EL,length_map]at this;have:=hK.r.cs.n;omega
 have hcn:A.map Ce.c=cn l:=hA;have hst:(A.map Ce.c).Pairwise fun a b=>a.id<=b.id:=by rw[hcn];exact F.inc.imp fun h=>by omega
 have hatv:=fun ms=>Vz A rA i h3 hAl hst hRA ms;rw[hcn]at hatv;refine Ar (Qm Y (Qm Y (Qx (AI Y call117 Y (hatv _)) Y (Qm Y (Am (Ac (Ar (Qm Y (Qm Y (Am ?_))))))))));refine Ap Y (fun hlt=>?_) (fun hlt=>?_)
 ·have hno:(Md (cn l) i).isSome=false:=by
   cases e:(Md (cn l) i) with
   | none=>rfl
   | some y=>
    unfold Md at e;have h1:=List.mem_of_find?_eq_some e;have h2:y.id=i:=by have:=List.find?_some e;simpa using this
    have:=(Hm F.inc h1).1;rw[h2]at this;omega
  refine Ar (Qx (A4 VH [.int .i64 0,.int .i64 0,.slice none 0 0] [] [_,_,_] Y AG Y Y Qt Y) Y ?_);refine Sa 0 [_,_,_] AG Y (by simp[Value.oneCell']) ?_;refine Qm Y (Am (An (Ae ?_)));exact F5 (vs:=[_,_,_]) 0 Y Y Y Ei Y AG Y Y (⟨AJ l1 (AJ l2 l3),default,by rw[hno];rfl,rfl⟩)
 ·obtain⟨y,hy,ey,eg⟩:=RK (o:=cn l) (c:=i) (by omega);have hys:(Md (cn l) i).isSome=true:=by rw[<-ey,Dp (NN F.inc) hy];rfl
  obtain⟨k,hk⟩:∃k:Nat,I7 (cn l) i=k:=⟨(I7 (cn l) i).toNat,by omega⟩
  have hlt':=HZ (cn l) i;have hkA:k<A.length:=by rw[<-hcn,length_map]at hlt';rw[<-hcn]at hk;omega
  obtain⟨x,hx⟩:∃x,A[k]=x:=⟨_,Y⟩
  have hX:=(hsA x (by rw[<-hx];exact getElem_mem hkA)).up l3;have ox:=hX.rd.one;have sx:∀ms,Seg h3 ms ((AE rA).add (k*3)) (cC x):=fun ms=>by rw[<-hx];exact(hRA.any (ms:=ms)).seg hkA
  rw[hk];refine Ah (Ab (Ar (Qm Y (Qm Y (Qx (BE (k) hRA.rd.any Y A9 AG Y Y) Y (Qx (oG Y Ei AG (sx _)) Y ?_))))));refine Sa 0 [_,_,_] AG Y (by simp[o1,oA_,ox]) ?_;refine Qm Y (Am (An ?_));exact F5 (vs:=[_,_,_]) 0 Y Y Y Ei Y AG Y Y (⟨AJ l1 (AJ l2 l3),x,by rw[hys];rfl,ox⟩)
theorem Aa6{o:List Cl}{F:List (Int×Int)}:(∀j,j<F.length->fA o F j=none)->(F.map Prod.fst).Nodup:=fun h=>by
 have:∀i,i<=F.length->((F.take i).map Prod.fst).Nodup:=fun i=>by
  induction i with
  | zero=>simp
  | succ i ih=>
   intro hi;have h1:=ih (by omega);have h2:=h i (by omega);unfold fA at h2;have hg:F.getD i (0,0)=F[i]:=by simp[List.getD,show i<F.length by omega]
   rw[hg]at h2;split at h2
   ·cases h2
   ·split at h2
    ·cases h2
    ·rename_i h3;rw[take_succ_eq_append_getElem (by omega),map_append,List.nodup_append];refine⟨h1,by simp,fun a ha b hb e=>h3 ?_⟩;simp only[map_cons,List.map_nil,List.mem_singleton]at hb;rw[<-hb,<-e];exact ha
 have:=this F.length (Nat.le_refl _)
 rwa [take_length]at this
theorem Qn(l:List Ce)(F:List (Int×Int))(v vf:Value)(hp:Hp)(hK:RgC l)(hR:RdC hp v l)(hF:RdL cV 2 hp [] vf F)(hV:GA F):FnT Tryz.prog 25 #[.agg #[v],vf] hp [] (fun r _ _=>r=.tuple #[.int .i64 (DF (cn l) F).1,.int .i64 (DF (cn l) F).2]):=by
 have o1:=hR.q.rd.one;have o2:=hF.rd.one;have hG:=hK.F.rgt;have hFn:=hV.n;have hln:l.length<=4000:=by have:=hG.n;rwa [CY]at this
 refine Aq func25 ntmps25 Y Y (fun w0 hw0=>?_);simp only[AW];refine Ar (AV [_] Y Y (by rfl) Y Y Y (fun g2=>Qm Y (Qm Y (Am (Az fun h1 l1 hS=>?_)))));have hR:=hR.up l1;have hF:=hF.up l1;refine Ar (Qx (oG Y CB AY (Seg.any hS)) Y (Qx (AI Y call69 Y (EO (PE l v h1 hK hR) _)) Y (Qm Y (Qm Y (Qm Y (Qm Y (Qm Y (Am (Ac (Ar (Qm Y (Qm Y (Am (Ap Y (fun hc=>absurd hc (fun h=>h Y)) (fun hc=>Ah (Ab ?_))))))))))))))));refine A8 (fun sl h' ms'=>sl=[(1,vf),(2,.pointer (some ⟨g2,0,none⟩))]/\h1.le h'/\ms'=[]/\∀j,j<F.length->fA (cn l) F j=none) ?_ (fun s h ms hI=>?_)
 ·refine Ac (Ad (Qm Y (Am (Ag ?_))))
  refine Aw (fun q sl h' ms'=>∃(i:Nat),q=F.length-i/\sl=[(1,vf),(2,.pointer (some ⟨g2,0,none⟩)),(8,.int .i64 i)]/\h1.le h'/\ms'=[]/\i<=F.length/\∀j,j<i->fA (cn l) F j=none)
   (F.length-0) _ ⟨0,rfl,rfl,DT,rfl,by omega,fun j h=>by omega⟩ Qs ?_
  rintro q sl h2 ms' ⟨i,rfl,rfl,l2,rfl,hi,hno⟩;have hF:=hF.up l2;have hR:=hR.up l2;have hS2:=hS.le l2;refine Ac (Ar (Qm Y (Qm Y (Qx (Au hF.rd.any Y NY Y) Y (Qm Y (Am ?_))))));refine Ap Y (fun hlt=>?_) (fun hlt=>?_)
  ·have hil:i<F.length:=by omega
   obtain⟨p,hp⟩:∃p,F[i]=p:=⟨_,Y⟩
   have hgp:F.getD i (0,0)=p:=by simp[List.getD,hil,hp]
   have c0:∀h',h2.le h'->∀ms,Cell h' ms (((AE vf).add (i*2)).add 0) (.int .i64 p.1):=fun h' l' ms=>by rw[<-hp];exact((hF.up l').any (ms:=ms)).cell hil (f:=0) Y
   obtain⟨bb,hbb⟩:∃bb,(Md (cn l) p.1).isSome=bb:=⟨_,Y⟩
   refine Ah (Ab (Ac (Ag ?_)));refine A8 (fun sl h' ms'=>sl=[(1,vf),(2,.pointer (some ⟨g2,0,none⟩)),(8,.int .i64 i),(10,.bool bb)]/\h2.le h'/\ms'=[]) ?_ (fun s h ms hI=>?_)
   ·refine BM (n:=13) (bs:=[true,true,true,true,true,true,false,false,false,false,false,false,false]) [true,true,true,true,true,true] CW (by kernel_rfl) (by kernel_rfl) Y Y (Qp Y (oG Y CB AY (Seg.any hS2)) (Qq Y (Qq Y (Qp Y (BE (i) hF.rd.any Y NY EZ Y Y) (QF Fq Y (QL Y U3 (c0 _ (DT) _) ?_))))));unfold FU;simp only[List.cons_append,nil_append];refine Bf [6,10] (by kernel_rfl) Y ?_;refine AD Y ?_ ?_
    ·refine Qc call70 Y (L7 l v p.1 _ hK hR) (fun rF h4 ms4 l4 hQ=>?_);obtain⟨l4',y,rfl,oy⟩:=hQ;refine Ez ?_ ms4;rw[hbb];refine Qa (Ch 7 38 (by kernel_rfl) Y (by assumption) Y (Ay Y Y) (Ch 8 46 (by kernel_rfl) Y (by assumption) Y (CL Y Y Y) (Ch 9 47 (by kernel_rfl) Y (by assumption) Y (CL Y Y Y) (Qo 10 Y (CG [.int .i64 0,.int .i64 0,.slice none 0 0] Y AG Y Y (fun g9=>Qa (Qo 11 Y ?_)))))));refine Sa 0 [_,_,_] AG Y (by simp[o1,o2,oy]) ?_;refine Qa (Qo 12 Y (Qm Y (Qa (Qe (AO ?_)))));exact AF _ ⟨Y,l4',Y⟩ Qs
    refine AD Y ?_ ?_
    ·refine CG [.int .i64 0,.int .i64 0,.slice none 0 0] Y AG Y Y (fun g9=>Qw (Qo 6 Y (Qc call70 Y (L7 l v p.1 _ hK hR) (fun rF h4 ms4 l4 hQ=>?_))));obtain⟨l4',y,rfl,oy⟩:=hQ;refine Ez ?_ ms4;rw[hbb];refine Qa (Ch 7 38 (by kernel_rfl) Y (by assumption) Y (Ay Y Y) (Ch 8 46 (by kernel_rfl) Y (by assumption) Y (CL Y Y Y) (Ch 9 47 (by kernel_rfl) Y (by assumption) Y (CL Y Y Y) (Qo 11 Y ?_))));refine Sa 0 [_,_,_] AG Y (by simp[o1,o2,oy]) ?_;refine Qa (Qo 12 Y (Qm Y (Qa (Qe (AO ?_)))));exact AF _ ⟨Y,l4',Y⟩ Qs
    exact Bd
   ·obtain⟨rfl,l3,rfl⟩:=hI;have hF:=hF.up l3;have hR:=hR.up l3;have l23:=AJ l2 l3;have c0:=c0 _ l3;refine Ac (Ar (Qm Y (Qm Y (Am ?_))));refine Bx Y (fun hn=>?_) (fun hn=>?_)
    ·have hbf:bb=false:=by cases bb<;>simp at hn ⊢
     have hch:=Nf (o:=cn l) hil hno (by unfold fA;rw[hgp,hbb,if_pos hbf]);refine Ar (Qm Y (Qm Y (Qx (BE (i) hF.rd.any Y NY EZ Y Y) Y (Qf Fq Y (Ql Y U3 (c0 _) (Qm Y (Qm Y (Am (An (Ae (Aj (Ae (Ae (Aj (Ae ?_)))))))))))))));exact Bq Y Y Y (by rw[hch])
    ·have hbt:¬bb=false:=by cases bb<;>simp at hn ⊢
     have hTk:RdL cV 2 h [] (B3 2 vf 0 i) (F.take i):=by have:=hF.sub_ (i:=0) (j:=i) (by omega) hi;rwa [List.drop_zero,Nat.sub_zero]at this
     have hval:=F9 (F.take i) (B3 2 vf 0 i) p.1 h hTk;rw[OJ]at hval;refine Ah (Ab (Ac (A7 13 CW (by kernel_rfl) Y (Wm Y (Wm Y (AK (ET _ hF.rd.any Y NY EZ Y Y Y (by omega)) Y Y (Wm Y (Wm Y (AK (BE (i) hF.rd.any Y NY EZ Y Y) Y Y (Wf Fq Y (Wl Y U3 (c0 _) (AK (AI Y call71 Y (hval _)) Y Y (Wm Y (Wm Y (Wm Y (Wm Y (AZ (Qm Y (BH (Qm Y (Am ?_)))))))))))))))))))));refine Bx Y (fun hin=>?_) (fun hin=>?_)
     ·have him:p.1∈(F.take i).map Prod.fst:=of_decide_eq_true hin;have hch:=Nf (o:=cn l) hil hno (by unfold fA;rw[hgp,hbb,if_neg hbt,if_pos him]);refine Ar (Qm Y (Qm Y (Qx (BE (i) hF.rd.any Y NY EZ Y Y) Y (Qf Fq Y (Ql Y U3 (c0 _) (Qm Y (Qm Y (Am (An (Aj (Ae (Ae (Aj (Ae ?_))))))))))))));exact Bq Y Y Y (by rw[hch])
     ·have him:p.1 ∉ (F.take i).map Prod.fst:=fun q=>by rw[decide_eq_true q]at hin;cases hin
      have hci:fA (cn l) F i=none:=by unfold fA;rw[hgp,hbb,if_neg hbt,if_neg him]
      refine Ah (Ai (Ab (Ad (Qm Y (Qx (oA Y) Y (Qm Y (Al ?_)))))))
      exact Ak (F.length-(i+1)) _ (by omega) ⟨i+1,Y,Y,l23,Y,by omega,fun j hj=>by
       rcases (by omega:j<i\/j=i) with h1|rfl
       ·exact hno j h1
       ·exact hci⟩ Qs
  ·obtain rfl:i=F.length:=by omega
   refine As (Aa (Aa (Af ?_)));exact AF _ ⟨Y,l2,Y,hno⟩ Qs
 ·obtain⟨rfl,l2,rfl,hno⟩:=hI;have hR:=hR.up l2;have hF:=hF.up l2;have hS2:=hS.le l2;have hfn:=Aa6 hno;refine Ar (Qx (oG Y CB AY (Seg.any hS2)) Y (Qc call49 Y (EK l v _ hK.r.cs hR) (fun rA h3 ms3 l3 hQ=>?_)));obtain⟨l3',mA,A,rfl,hOA,hA,hsA⟩:=hQ;rw[D4 hK.r]at hA;have hcn:A.map Ce.c=cn l:=hA;refine Qm Y (Am (Bc hOA fun h4 l4 hQ=>?_));have hsA:=fun a ha=>(hsA a ha).up l4;have hF:=hF.up (AJ l3 l4);have oA_:=hQ.rd.one;have hol:(cn l).length=A.length:=by rw[<-hcn,length_map]
  have hAn:A.length<=4000:=by rw[<-hol,CY];exact hln
  have hget:∀i (hi:i<A.length),(cn l).getD i default=A[i].c:=fun i hi=>by rw[<-hcn];simp[List.getD,hi]
  have hAs:∀a∈A,a.c.sd.length<=64:=fun a ha=>by
   have h1:a.c∈cn l:=by rw[<-hcn];exact List.mem_map.2 ⟨a,ha,Y⟩
   exact(hK.F.bds h1).2.1
  obtain⟨o,ho⟩:∃o,cn l=o:=⟨_,Y⟩
  rw[ho]at hol hno hget ⊢;have hvv:=fun c=>F9 F vf c h4 hF;refine A8 (fun sl h' ms'=>sl=[(1,vf),(13,rA)]/\h4=h'/\ms'=[]/\∀j,j<A.length->fB o F j=none) ?_ (fun s h ms hI=>?_)
  ·refine Ac (Ad (Qm Y (Am (Ag ?_))))
   refine Aw (fun q sl h' ms'=>∃(i:Nat),q=A.length-i/\sl=[(1,vf),(13,rA),(14,.int .i64 i)]/\h4=h'/\ms'=[]/\i<=A.length/\∀j,j<i->fB o F j=none)
    (A.length-0) _ ⟨0,rfl,rfl,rfl,rfl,by omega,fun j h=>by omega⟩ Qs ?_
   rintro q sl h' ms' ⟨i,rfl,rfl,rfl,rfl,hi,hnB⟩;refine Ac (Ar (Qm Y (Qm Y (Qx (Au hQ.rd.any Y A9 Y) Y (Qm Y (Am ?_))))));refine Ap Y (fun hlt=>?_) (fun hlt=>?_)
   ·have hil:i<A.length:=by omega
    have hgx:=hget i hil;have c0:∀ms,Cell h4 ms (((AE rA).add (i*3)).add 0) (.int .i64 A[i].c.id):=fun ms=>(hQ.any (ms:=ms)).cell hil (f:=0) Y;have hvi:=hvv A[i].c.id;rw[OJ]at hvi;refine Ah (Ab (Ac (Ag (Ar (Qm Y (Qm Y (Qm Y (Qx (BE (i) hQ.rd.any Y A9 AG Y Y) Y (Qf Bi Y (Ql Y U3 (c0 _) (Qx (AI Y call71 Y (hvi _)) Y (Qm Y (Qm Y (Qm Y (Qm Y (Qm Y (BH (Qm Y (Qm Y (Am ?_))))))))))))))))))));refine Bx Y (fun hin=>?_) (fun hin=>?_)
    ·have hni:A[i].c.id ∉ F.map Prod.fst:=fun q=>by rw[decide_eq_true q]at hin;cases hin
     have hch:=Xs (o:=o) (F:=F) hno (by rw[hol];exact hil) hnB (by unfold fB;rw[hgx,if_pos hni]);refine Ar (Qm Y (Qm Y (Qx (BE (i) hQ.rd.any Y A9 AG Y Y) Y (Qf Bi Y (Ql Y U3 (c0 _) (Qm Y (Qm Y (Am (An (Aj (Ae (Ae (Aj (Ae ?_))))))))))))));exact Bq Y Y Y (by rw[hch])
    ·have hni:A[i].c.id∈F.map Prod.fst:=Classical.byContradiction fun q=>by rw[decide_eq_false q]at hin;cases hin
     have hci:fB o F i=none:=by unfold fB;rw[hgx,if_neg fun q=>q hni]
     refine Ah (Ai (Ab (Ad (Qm Y (Qx (oA Y) Y (Qm Y (Al ?_)))))))
     exact Ak (A.length-(i+1)) _ (by omega) ⟨i+1,Y,Y,Y,Y,by omega,fun j hj=>by
      rcases (by omega:j<i\/j=i) with h1|rfl
      ·exact hnB j h1
      ·exact hci⟩ Qs
   ·obtain rfl:i=A.length:=by omega
    refine As (Aa (Aa (Af ?_)));exact AF _ ⟨Y,Y,Y,hnB⟩ Qs
  ·obtain⟨rfl,rfl,rfl,hnB⟩:=hI;refine Ac (Ar (Qm Y (Am (Ag ?_))))
   refine Aw (fun q sl h' ms'=>∃(i:Nat),q=A.length-i/\sl=[(1,vf),(13,rA),(17,.int .i64 i)]/\h4=h'/\ms'=[]/\i<=A.length/\∀j,j<i->fC o F j=none)
    (A.length-0) _ ⟨0,rfl,rfl,rfl,rfl,by omega,fun j h=>by omega⟩ Qs ?_
   rintro q sl h' ms' ⟨i,rfl,rfl,rfl,rfl,hi,hnC⟩;refine Ac (Ar (Qm Y (Qm Y (Qx (Au hQ.rd.any Y A9 Y) Y (Qm Y (Am ?_))))));refine Ap Y (fun hlt=>?_) (fun hlt=>?_)
   ·have hil:i<A.length:=by omega
    obtain⟨x,hx⟩:∃x,A[i]=x:=⟨_,Y⟩
    have hxm:x∈A:=by rw[<-hx];exact getElem_mem hil
    have hgx:=hget i hil;rw[hx]at hgx;have hX:=hsA x hxm;have ox:=hX.rd.one;have hxs:=hAs x hxm;have c0:∀ms,Cell h4 ms (((AE rA).add (i*3)).add 0) (.int .i64 x.c.id):=fun ms=>by rw[<-hx];exact(hQ.any (ms:=ms)).cell hil (f:=0) Y
    have c2:∀ms,Cell h4 ms (((AE rA).add (i*3)).add 2) x.v:=fun ms=>by rw[<-hx];exact(hQ.any (ms:=ms)).cell hil (f:=2) Y
    have hvi:=hvv x.c.id;rw[Hb hfn]at hvi;obtain⟨w0,hw0⟩:∃w0,GQ F x.c.id=w0:=⟨_,Y⟩
    obtain⟨b0,hb0⟩:∃b0,(Iu F x.c.id).isSome=b0:=⟨_,Y⟩
    rw[hw0,hb0]at hvi;refine Ah (Ab (Ac (Ag (Ar (Qm Y (Qm Y (Qm Y (Qx (BE (i) hQ.rd.any Y A9 AG Y Y) Y (Qf Bi Y (Ql Y U3 (c0 _) (Qx (AI Y call71 Y (hvi _)) Y (Qm Y (Qm Y (Qm Y (Qm Y (Qm Y (BH (Qm Y (Am (Ag ?_))))))))))))))))))))
    refine Aw (fun q sl h' ms'=>∃(k:Nat),q=x.c.sd.length-k/\sl=[(1,vf),(13,rA),(17,.int .i64 i),(18,.int .i64 w0),(20,.int .i64 k)]/\h4=h'/\ms'=[]/\k<=x.c.sd.length/\∀j (hj:j<x.c.sd.length),j<k->¬GQ F x.c.sd[j].1>w0)
     (x.c.sd.length-0) _ ⟨0,rfl,rfl,rfl,rfl,by omega,fun j _ h=>by omega⟩ Qs ?_
    rintro q sl h' ms' ⟨k,rfl,rfl,rfl,rfl,hk,hnD⟩;refine Ac (Ar (Qm Y (Qm Y (Qm Y (Qx (BE (i) hQ.rd.any Y A9 AG Y Y) Y (Qf Bz Y (Ql Y BW (c2 _) (Qx (Au hX.rd.any Y BW Y) Y (Qm Y (Am ?_))))))))));refine Ap Y (fun hlt2=>?_) (fun hlt2=>?_)
    ·have hkl:k<x.c.sd.length:=by omega
     obtain⟨s,hs⟩:∃s,x.c.sd[k]=s:=⟨_,Y⟩
     have d0:∀ms,Cell h4 ms (((AE x.v).add (k*2)).add 0) (.int .i64 s.1):=fun ms=>by rw[<-hs];exact(hX.any (ms:=ms)).cell hkl (f:=0) Y
     have hvs:=hvv s.1;rw[Hb hfn]at hvs;refine Ah (Ab (Ac (Ag (Ar (Qm Y (Qm Y (Qm Y (Qx (BE (i) hQ.rd.any Y A9 AG Y Y) Y (Qf Bz Y (Ql Y BW (c2 _) (Qm Y (Qx (BE (k) hX.rd.any Y BW AM Y Y) Y (Qf BY Y (Ql Y U3 (d0 _) (Qx (AI Y call71 Y (hvs _)) Y (Qm Y (Qm Y (Qm Y (Qm Y (Qm Y (BH (Qm Y (Qm Y (Qm Y (Am ?_)))))))))))))))))))))))));refine Ap Y (fun hgt=>?_) (fun hgt=>?_)
     ·have hup:Zo o F i:=by unfold Zo;rw[hgx];exact⟨s,by rw[<-hs];exact getElem_mem hkl,by rw[hw0];exact hgt⟩
      have hch:=Ws (o:=o) (F:=F) hno (by rw[hol];exact hnB) (by rw[hol];exact hil) hnC (by unfold fC;rw[hgx,if_pos hup]);refine Ar (Qm Y (Qm Y (Qx (BE (i) hQ.rd.any Y A9 AG Y Y) Y (Qf Bi Y (Ql Y U3 (c0 _) (Qm Y (Qm Y (Am (An (Aj (Ae (Ae (Aj (Aj (Ae (Ae (Aj (Ae ?_))))))))))))))))));exact Bq Y Y Y (by rw[hch])
     ·refine Ah (Ai (Ab (Ad (Qm Y (Qx (oA Y) Y (Qm Y (Al ?_)))))))
      exact Ak (x.c.sd.length-(k+1)) _ (by omega) ⟨k+1,Y,Y,Y,Y,by omega,fun j hj hjk=>by
       rcases (by omega:j<k\/j=k) with h1|rfl
       ·exact hnD j hj h1
       ·rw[hs];exact hgt⟩ Qs
    ·obtain rfl:k=x.c.sd.length:=by omega
     have hci:fC o F i=none:=by unfold fC;rw[if_neg fun q=>?_];unfold Zo at q;rw[hgx]at q;obtain⟨s,hs,hgt⟩:=q;obtain⟨j,hj,rfl⟩:=getElem_of_mem hs;rw[hw0]at hgt;exact hnD j hj hj hgt
     refine As (Aa (Aa (Af (Ai (Ab (Ad (Qm Y (Qx (oA Y) Y (Qm Y (Al ?_))))))))))
     exact Ak (A.length-(i+1)) _ (by omega) ⟨i+1,Y,Y,Y,Y,by omega,fun j hj=>by
      rcases (by omega:j<i\/j=i) with h1|rfl
      ·exact hnC j h1
      ·exact hci⟩ Qs
   ·obtain rfl:i=A.length:=by omega
    have hch:=QE (o:=o) (F:=F) hno (by rw[hol];exact hnB) (by rw[hol];exact hnC);refine As (Aa (Aa (Af (Ab (Ar (Qm Y (Qm Y (Am (An ?_)))))))));exact Bq Y Y Y (by rw[hch])
open Go.Lin Go.Sort Go.Srt
variable {h m:Hp} {ms:List Hp} {v:Value} {d:Array CeI}
theorem ZW{l:List CeI}(R:RdL cC 3 h ms v (l.map CeI.ce)):RdL JM 3 h ms v l:=by have h1:=R.rd;rw[QQ,length_map]at h1;exact⟨h1,DP⟩
abbrev OSI(m:Hp)(v:Value)(d:Array CeI):Prop:=OwnL JM 3 52 m v d.toList
theorem OSI.rd(O:OSI m v d)(hm:m∈ms):Rd h ms v 3 d.size (d.toList.flatMap JM):=by have:=(OwnL.rd O hm (h:=h)).rd;rwa [Array.length_toList]at this
theorem OSI.get(O:OSI m v d)(hm:m∈ms){j:Nat}(hj:j<d.size):Seg h ms ((AE v).add (j*3)) (JM d[j]!):=by have:=(OwnL.rd O hm (h:=h)).seg (j:=j) (by simpa using hj);simpa[hj] using this
theorem KY{e:Entry}{Q:Exit->Act->World->Prop}{ops:Array Oper}{rest:List Oper}{o:Oper}{s:AC}{t:TypeId}{x y:Operand}{u z:Value}{bytes:Nat}(i j:Nat)(a:CeI)(O:OSI m v d)(ho:o.op=.store t x y)(hs:Elem e.P t 3 z bytes)(hx:ev s x=some (.pointer (some ((AE v).add (j*3)))))(hy:ev s y=some u)(hv:u.cells=(JM a).toArray)
  (hm:ms[i]?=some m) (hj:j<d.size) (hd:o.dst=none) (hg:o.guard=none)
  (K:∀m',(d.setIfInBounds j a).size=d.size->OSI m' v (d.setIfInBounds j a)->WL e ops Q rest s h (ms.set i m')):WL e ops Q (o::rest) s h ms:=
 Fk i j a O ho hs hx hy hv (Nm a) hm (by simpa using hj) hd hg fun m' O'=>K m' (by simp) (by
  show OwnL JM 3 52 m' v (d.setIfInBounds j a).toList
  rw[Array.toList_setIfInBounds];exact O')
theorem Qu(F:List (Int×Int))(vf:Value)(x y:CeI)(h:Hp)(hF:RdL cV 2 h [] vf F)(hn:(F.map Prod.fst).Nodup)(ms:List Hp):FnV Tryz.prog 179 #[vf,.agg (JM x).toArray,.agg (JM y).toArray] h ms (.bool (ltOf (Kq (Cb (A6 F))) x y)):=by
 refine EO ?_ ms;have o1:=hF.rd.one;have o2:=x.one;have o3:=y.one;have hx:=Hb hn x.c.id;have hy:=Hb hn y.c.id;have hlt:=Ii (Cb (A6 F)) x y;change _=Cb (A6 F) x.c.id at hx;change _=Cb (A6 F) y.c.id at hy;show FnT _ _ #[vf,.agg #[.int .i64 x.c.id,.int .i64 x.c.dim,x.v],.agg #[.int .i64 y.c.id,.int .i64 y.c.dim,y.v]] _ _ _;refine Aq func179 ntmps179 Y Y (fun w0 hw0=>?_);simp only[AW];refine Ar (AV [_,_,_] Y Y (by rfl) Y Y Y (fun g4=>AV [_,_,_] Y Y (by rfl) Y Y Y (fun g5=>Qm Y (Am (Az fun h1 l1 hG5=>(Az fun h2 l2 hG4=>?_))))));have hF:=hF.up (AJ l1 l2);have x0:∀ms,Cell h2 ms (⟨g4,0,none⟩:Addr) (.int .i64 x.c.id):=fun ms=>Seg.all hG4 0 _ Y ms;have x1:∀ms,Cell h2 ms (⟨g4,1,none⟩:Addr) (.int .i64 x.c.dim):=fun ms=>Seg.all hG4 1 _ Y ms;have y0:∀ms,Cell h2 ms (⟨g5,0,none⟩:Addr) (.int .i64 y.c.id):=fun ms=>(Seg.all hG5 0 _ Y ms).le l2;have y1:∀ms,Cell h2 ms (⟨g5,1,none⟩:Addr) (.int .i64 y.c.dim):=fun ms=>(Seg.all hG5 1 _ Y ms).le l2;have vx:=F9 F vf x.c.id h2 hF;have vy:=F9 F vf y.c.id h2 hF;rw[hx]at vx;rw[hy]at vy;generalize Cb (A6 F) x.c.id=fx at *;generalize Cb (A6 F) y.c.id=fy at *;refine Ar (Qm Y (Qf Bi Y (Ql Y U3 (x0 _) (Qx (AI Y call71 Y (vx _)) Y (Qm Y (Qm Y (Qm Y (Qm Y (Qm Y (BH (Qm Y (Qf Bi Y (Ql Y U3 (y0 _) (Qx (AI Y call71 Y (vy _)) Y (Qm Y (Qm Y (Qm Y (Qm Y (Qm Y (Am (Ac (Ar (Qm Y (Qm Y (Qm Y (Am ?_))))))))))))))))))))))))));refine Ap Y (fun hne=>?_) (fun hne=>?_)
 ·refine Ac (Ad (Qm Y (Qm Y (Qm Y (Qm Y (Am (An (Ae ?_))))))));exact Av Y Y (by unfold ltOf;congr 1;rw[decide_eq_decide,hlt];omega)
 ·refine Ah (Ab (Ac (Ar (Qf BJ Y (Ql Y U3 (x1 _) (Qf BJ Y (Ql Y U3 (y1 _) (Qm Y (Am ?_)))))))));refine Ap Y (fun hd=>?_) (fun hd=>?_)
  ·refine Ac (Ad (Qf BJ Y (Ql Y U3 (x1 _) (Qf BJ Y (Ql Y U3 (y1 _) (Qm Y (Qm Y (Am (An (Ae ?_))))))))));exact Av Y Y (by unfold ltOf;congr 1;rw[decide_eq_decide,hlt];omega)
  ·refine Ah (Ab (Ar (Qf Bi Y (Ql Y U3 (x0 _) (Qf Bi Y (Ql Y U3 (y0 _) (Qm Y (Qm Y (Am (An ?_))))))))));exact Av Y Y (by unfold ltOf;congr 1;rw[decide_eq_decide,hlt];omega)
theorem GI(l:List Ce)(F:List (Int×Int))(v vf:Value)(hp:Hp)(hK:RgC l)(hR:RdC hp v l)(hF:RdL cV 2 hp [] vf F)(hn:(F.map Prod.fst).Nodup):FnT Tryz.prog 122 #[.agg #[v],vf] hp [] (fun r h' ms'=>hp.le h'/\∃(m:Hp) (S:List Ce),ms'=[m]/\OwnL cC 3 52 m r S/\(S.map Ce.c).Perm (cn l)/\Ls (Cb (A6 F)) S/\∀a∈S,RdL cD 2 h' [] a.v a.c.sd):=by
 have o1:=hR.q.rd.one;have o2:=hF.rd.one;have hG:=hK.F.rgt;have hln:l.length<=4000:=by have:=hG.n;rwa [CY]at this
 refine Aq func122 ntmps122 rfl rfl (fun w0 hw0=>?_);simp only[AW];refine Ar (AV [_] rfl rfl (by rfl) rfl rfl rfl (fun g2=>Qm rfl (Am (Az fun h1 l1 hS=>?_))));have hR:=hR.up l1;have hF:=hF.up l1;refine Ar ?_;refine Ax [] [] [] rfl A9 AG rfl (by omega) (by kernel_rfl) (by repeat (first|exact trivial|refine⟨⟨by first|rfl|exact Rd.cells ‹_›|exact(RdL.rd ‹_›).cells,rfl,rfl⟩,?_⟩)) rfl rfl rfl rfl (fun g10=>?_);refine Qx (oG rfl CB AY (Seg.any hS)) rfl (Qc call49 rfl (EK l v h1 hK.r.cs hR) (fun rA h2 ms2 l2 hQ=>?_));obtain⟨l2',mA,A,rfl,hOA,hA,hsA⟩:=hQ;rw[D4 hK.r]at hA;have hcn:A.map Ce.c=cn l:=hA;refine Bv hOA fun h3 l3 hQ=>?_;have hsA:=fun a ha=>(hsA a ha).up l3;have hF:=hF.up (AJ l2 l3);have oA_:=hQ.rd.one;have hA4:A.length<=4000:=by rw[<-CY l,<-hcn,length_map]at hln;exact hln
 have hAI:∀a∈A,a.v.oneCell'=true/\BN a.c.id:=fun a ha=>⟨(hsA a ha).rd.one,by
  have h1:a.c∈cn l:=by rw[<-hcn];exact List.mem_map.2 ⟨a,ha,Y⟩
  have h2:=hG.pos _ h1;have h3:=hK.ci h1
  unfold BN;omega⟩
 obtain⟨lo,hlo⟩:=Rk A hAI;rw[<-hlo]at hQ;have hQ:=ZW hQ;have hl4:lo.length<=4000:=by rw[<-hlo,length_map]at hA4;exact hA4
 refine AR 0 (EI g10 DP) hQ.any Y A9 AG Y (by omega) Y Y Y Nm (by simp;omega) (by simp;omega) rfl rfl rfl (fun v5 m5 hO5=>?_);rw[nil_append]at hO5;have ov5:=hO5.o1;obtain⟨d,hd⟩:∃d:Array CeI,d.toList=lo:=⟨lo.toArray,Y⟩
 have hds:d.size=lo.length:=by rw[<-hd,Array.length_toList]
 have hO:OSI m5 v5 d:=by show OwnL JM 3 _ m5 v5 d.toList;rw[hd];exact hO5
 have hfin:=insertionSort_holds (lt:=ltOf (Kq (Cb (A6 F)))) (On _) d 0 d.size (Nat.zero_le _) (Nat.le_refl _);have hbv:=fun x y ms=>Qu F vf x y h3 hF hn ms;generalize hlt:ltOf (Kq (Cb (A6 F)))=lt at hfin hbv;refine Qm Y (Am (Ac (Ar (Qm Y (Am (Ag ?_))))))
 refine Aw (fun q s h' ms'=>∃(i:Nat) (d':Array CeI) (m:Hp),q=d.size-i/\s=[(1,vf),(5,v5),(6,.int .i64 i)]/\h3=h'/\ms'=[m]/\0<i/\i<=4001/\OSI m v5 d'/\d'.size=d.size/\insOuter lt 0 d.size i d'=insertionSort lt d 0 d.size)
  _ _ ⟨1,d,m5,rfl,rfl,rfl,rfl,by omega,by omega,hO,rfl,rfl⟩ Qs ?_
 rintro q s h' ms' ⟨i,d',m,rfl,rfl,rfl,rfl,hi0,hi,hO,hds',hR1⟩;refine Ac (Ar (Qm Y (Qm Y (Qx (Au (OSI.rd hO (.head _)) Y A9 Y) Y (Qm Y (Am ?_))))));refine Ap Y (fun hil=>?_) (fun hil=>?_)
 ·refine Ah (Ab (Ac (Ag (Ar (Qm Y (Qm Y (Am (Ag ?_))))))))
  refine Aw (fun q s h' ms'=>∃(j:Nat) (y:Int) (d':Array CeI) (m:Hp),j=q/\s=[(1,vf),(5,v5),(6,.int .i64 i),(7,.int .i64 y)]/\h3=h'/\ms'=[m]/\y=j/\j<=i/\OSI m v5 d'/\d'.size=d.size/\insOuter lt 0 d.size (i+1) (insInner lt 0 j d')=insertionSort lt d 0 d.size)
   _ _ ⟨i,(i:Int),d',m,rfl,rfl,rfl,rfl,rfl,by omega,hO,hds',by rw[<-hR1];conv=>rhs;unfold insOuter;rw[if_pos (by omega)]⟩ Qs ?_
  rintro q s h' ms' ⟨j,y,d1,m1,rfl,rfl,rfl,rfl,hy,hji,hO1,hds1,hR2⟩;refine Ac (Ar (Qm Y (Qm Y (Am ?_))));refine Ap Y (fun hj0=>?_) (fun hj0=>?_)
  ·have hjd:j<d1.size:=by omega
   have g1:∀ms,m1∈ms->Seg h3 ms ((AE v5).add (j*3)) (JM d1[j]!):=fun ms hm=>hO1.get hm hjd;have g2:∀ms,m1∈ms->Seg h3 ms ((AE v5).add ((j-1)*3)) (JM d1[j-1]!):=fun ms hm=>hO1.get hm (by omega);have ox1:=d1[j]!.one;have ox2:=d1[j-1]!.one;refine Ah (Ab (Ac (Ag (Ac (A7 10 CW (by kernel_rfl) Y (Wm Y (Wm Y (Wm Y (AK (AB (j) (OSI.rd hO1 (.head _)) Y A9 AG Y Y (by omega) (by omega)) Y Y (AK (oG Y Ei AG (g1 _ (.head _))) Y Y (Wm Y (Wm Y (AK (oS Y) Y Y (AK (AB (j-1) (OSI.rd hO1 (.head _)) Y A9 AG Y Y (by omega) (by omega)) Y Y (AK (oG Y Ei AG (g2 _ (.head _))) Y Y (AZ (Qx (AI Y call179 Y (hbv d1[j]! d1[j-1]! _)) Y (Qm Y (Am (Ac (Ar (Qm Y (Qm Y (Am ?_))))))))))))))))))))))));refine Bx Y (fun hl=>?_) (fun hl=>?_)
   ·refine As (Aa (Ek Y (Aa (Aa (Af (Ai (Ab (Ad (Qm Y (Qx (oA Y) Y (Qm Y (Al ?_))))))))))));refine Ak (d.size-(i+1)) _ (by omega) ⟨i+1,d1,m1,Y,Y,Y,Y,by omega,by omega,hO1,hds1,?_⟩ Qs;rw[<-hR2];obtain⟨j',rfl⟩:∃j',j=j'+1:=⟨j-1,by omega⟩
    conv=>rhs;unfold insInner
    rw[if_neg (by rw[Bool.and_eq_true];rintro⟨_,h2⟩;rw[show j'+1-1=j' by omega]at hl;rw[h2]at hl;cases hl)]
   ·have hl':lt d1[j]! d1[j-1]! = true:=by cases e:lt d1[j]! d1[j-1]! with|true=>rfl|false=>rw[e]at hl;cases hl
    refine Ah (Ab (Ar (Qm Y (Qm Y (Qx (AB (j) (OSI.rd hO1 (.head _)) Y A9 AG Y Y (by omega) (by omega)) Y (Qx (oG Y Ei AG (g1 _ (.head _))) Y (CG [.int .i64 0,.int .i64 0,.slice none 0 0] Y AG Y Y (fun g9=>?_))))))));refine Sa 0 [_,_,_] AG Y (by simp[o1,o2,oA_,ov5,ox1,ox2]) ?_;refine Am ?_;have g2:∀ms,m1∈ms->Seg h3 ms ((AE v5).add ((j-1)*3)) (JM d1[j-1]!):=fun ms hm=>hO1.get hm (by omega);refine Ar (Qm Y (Qm Y (Qm Y (Qm Y (Qx (oS Y) Y (Qx (AB (j-1) (OSI.rd hO1 (.tail _ (.head _))) Y A9 AG Y Y (by omega) (by omega)) Y (Qx (oG Y Ei AG (g2 _ (.tail _ (.head _)))) Y (Qx (AB (j) (OSI.rd hO1 (.tail _ (.head _))) Y A9 AG Y Y (by omega) (by omega)) Y (KY 1 j d1[j-1]! hO1 Y AG Y Y Y Y hjd Y Y (fun m2 hs2 hO2=>GJ (Qm Y (Qm Y (Qx (oS Y) Y (Qx (oG Y Ei AG (Seg.blk 0 Y)) Y (Qx (AB (j-1) (OSI.rd hO2 (.tail _ (.head _))) Y A9 AG Y Y (by omega) (by omega)) Y (KY 1 (j-1) d1[j]! hO2 Y AG Y Y Y Y (by omega) Y Y (fun m3 hs3 hO3=>Al (Ai (Ab (Ad (Qm Y (Qx (oS Y) Y (Qm Y (Al ?_))))))))))))))))))))))));obtain⟨j',rfl⟩:∃j',j=j'+1:=⟨j-1,by omega⟩
    refine AO ?_;refine Ak j' _ (by omega) ⟨j',y-1,_,m3,Y,Y,Y,Y,by omega,by omega,hO3,by rw[hs3,hs2,hds1],?_⟩ Qs;rw[<-hR2]
    conv=>rhs;unfold insInner
    rw[if_pos (by rw[Bool.and_eq_true];exact⟨decide_eq_true (by omega),hl'⟩)];rfl
  ·refine As (Aa (Aa (Af (Ai (Ab (Ad (Qm Y (Qx (oA Y) Y (Qm Y (Al ?_))))))))));refine Ak (d.size-(i+1)) _ (by omega) ⟨i+1,d1,m1,Y,Y,Y,Y,by omega,by omega,hO1,hds1,?_⟩ Qs;rw[<-hR2];obtain rfl:j=0:=by omega
   rfl
 ·have hfl:insertionSort lt d 0 d.size=d':=by rw[<-hR1];unfold insOuter;rw[if_neg (by omega)]
  rw[hfl]at hfin;have hpp:=He hfin.1;have hso:=FW (d:=d') (by have:=hfin.2;rwa [<-hds']at this);rw[hd]at hpp;have hO':OwnL cC 3 52 m v5 (d'.toList.map CeI.ce):=own_ceI.2 hO;refine As (Aa (Aa (Af (Ab (Ar (Qm Y (Qm Y (Am (An ?_)))))))));exact Av Y Y (⟨AJ l1 (AJ l2 l3),m,d'.toList.map CeI.ce,Y,hO',by have:=(hpp.map CeI.ce).map Ce.c;rw[hlo,hcn]at this;exact this,RX (by rw[<-hlt]at hso;exact hso.imp fun h=>by simpa[ltOf] using h),fun a ha=>hsA a (by rw[<-hlo];exact(hpp.map CeI.ce).mem_iff.1 ha)⟩)
end Go.Proofs.Q
namespace Go.Proofs.Q
open Go.Proofs.Tryz
open Go.Eng Go.RowKit Go.Lin
def eye(i j:Nat):Int:=if i=j then 1 else 0
theorem Y5(k:Nat)(i j:Nat):GZ (fun i j=>if i=j/\i<k then 1 else 0) k k 1 i j=if i=j/\i<k+1 then 1 else 0:=by
 unfold GZ;by_cases h:i=k/\j=k
 ·rw[if_pos h,if_pos (by omega)]
 ·rw[if_neg h];show(if i=j/\i<k then 1 else 0)=_;by_cases h2:i=j/\i<k
  ·rw[if_pos h2,if_pos (by omega)]
  ·rw[if_neg h2,if_neg (by omega)]
theorem TU(p:Int)(h:Hp)(hI:BN p):FnT Tryz.prog 145 #[.int .i64 p] h [] (fun r _ _=>r=.bool (decide (IsP p))):=by
 have hI1:=hI.1;have hI2:=hI.2;refine Aq func145 ntmps145 Y Y (fun w0 hw0=>?_);simp only[AW];refine Ar (Qm Y (Am (Ac (Ar (Qm Y (Qm Y (Qm Y ?_)))))));refine AN (t:=6) Y (fun hs=>?_) (fun hs=>?_)
 ·refine Qk Y (Qk Y (Qm Y (Am (BC Y (Ar (Qm Y (Am (An (Ae ?_)))))))));exact Av Y Y (by rw[decide_eq_false];exact fun h=>absurd h.1 (by omega))
 ·refine Qg (Ay Y Y) Y (Qg (Cu Y Y Y) Y (Qm Y (Am ?_)));refine Ap Y (fun hs2=>?_) (fun hs2=>?_)
  ·refine Ac (Ad (Qm Y (Am (An (Ae ?_)))));exact Av Y Y (by rw[decide_eq_false];exact fun h=>absurd h.2.1 (by omega))
  ·refine Ah (Ab (Ac (Ar (Qm Y (Am (Ag ?_))))))
   refine Aw (fun n s h' ms'=>∃(k:Nat),n=1000-k/\s=[(0,.int .i64 p),(3,.int .i64 k)]/\h=h'/\ms'=[]/\2<=k/\k<=1000/\∀j,2<=j->j<k->p.toNat%j≠0)
    (1000-2) _ ⟨2,rfl,rfl,rfl,rfl,by omega,by omega,fun j h1 h2=>by omega⟩ Qs ?_
   rintro n s h' ms' ⟨k,rfl,rfl,rfl,rfl,h2,hk,hno⟩;refine Ac (Ar (Qm Y (Qm Y (Qm Y (Am ?_)))));refine Ap Y (fun hlt=>?_) (fun hlt=>?_)
   ·refine Ah (Ab (Ac (Ag (Ar (Qm Y (Qm Y (Qx (BO Y Y Y (by omega) (by omega)) Y (Qm Y (Am ?_)))))))));have hm:=RJ (p:=p) (by omega) k (by omega);refine Ap Y (fun hz=>?_) (fun hz=>?_)
    ·refine Ac (Ad (Qm Y (Am (An (Aj (Ae (Ae (Aj (Ae ?_)))))))));exact Av Y Y (by rw[decide_eq_false];exact fun h=>absurd (show p.toNat%k=0 by omega) (h.2.2 k (by omega) h2))
    ·refine Ah (Ai (Ab (Ad (Qm Y (Qx (oA Y) Y (Qm Y (Al ?_)))))));refine Ak (1000-(k+1)) _ (by omega) ⟨k+1,Y,Y,Y,Y,by omega,by omega,fun j h1 h3=>?_⟩ Qs;rcases (by omega:j<k\/j=k) with h4|h4
     ·exact hno j h1 h4
     ·subst h4;omega
   ·refine As (Aa (Aa (Af (Ab (Ar (Qm Y (Am (An ?_))))))));exact Av Y Y (by rw[decide_eq_true];exact⟨by omega,by omega,fun j h1 h2=>hno j h2 (by omega)⟩)
theorem Ph(p:Int)(h:Hp)(hI:BN p)(ms:List Hp):FnV Tryz.prog 145 #[.int .i64 p] h ms (.bool (decide (IsP p))):=EO (TU p h hI) ms
theorem Xg(r c:Int)(h:Hp):FnT Tryz.prog 153 #[.int .i64 r,.int .i64 c] h [] (fun x _ _=>x=.bool (decide (FF r c))):=by
 refine Aq func153 ntmps153 Y Y (fun w0 hw0=>?_);simp only[AW];refine Ar (Qm Y (BH (Qm Y (Qm Y (Qm Y ?_)))));refine AN (t:=7) Y (fun hs=>?_) (fun hs=>?_)
 ·refine Qg (Ay Y Y) Y (Qg (Jj Y Y Y) Y (Qm Y (Qm Y ?_)));refine AN (t:=11) Y (fun hs2=>?_) (fun hs2=>?_)
  ·refine Qg (Ay Y Y) Y (Qg (Jd Y Y Y) Y (Qm Y (Qm Y ?_)));refine AN (t:=15) Y (fun hs3=>?_) (fun hs3=>?_)
   ·refine Qg (Ay Y Y) Y (Qg (Jd Y Y Y) Y (Qm Y (Qm Y (Am (An ?_)))));exact Av Y Y (by congr 1;rw[decide_eq_decide];unfold FF;omega)
   ·refine Qk Y (Qk Y (Qm Y (Qm Y (Am (An ?_)))));exact Av Y Y (by rw[decide_eq_false];unfold FF;omega)
  ·refine Qk Y (Qk Y (Qm Y (Qm Y (Qk Y (Qk Y (Qm Y (Qm Y (Am (An ?_)))))))));exact Av Y Y (by rw[decide_eq_false];unfold FF;omega)
 ·refine Qk Y (Qk Y (Qm Y (Qm Y (Qk Y (Qk Y (Qm Y (Qm Y (Qk Y (Qk Y (Qm Y (Qm Y (Am (An ?_)))))))))))));exact Av Y Y (by rw[decide_eq_false];unfold FF;omega)
theorem YB(r c:Int)(h:Hp)(ms:List Hp):FnV Tryz.prog 153 #[.int .i64 r,.int .i64 c] h ms (.bool (decide (FF r c))):=EO (Xg r c h) ms
theorem PQ(p r c:Int)(h:Hp)(hI:BN p):FnT Tryz.prog 146 #[.int .i64 p,.int .i64 r,.int .i64 c] h [] (fun v h' ms'=>h=h'/\PR v ms' (Qd p r c)):=by
 refine Aq func146 ntmps146 Y Y (fun w0 hw0=>?_);simp only[AW];refine Ar (CG [.int .i64 0,.int .i64 0,.int .i64 0,.slice none 0 0] Y BF Y Y (fun g6=>BH (Qm Y (Qx (AI Y call145 Y (Ph _ _ hI _)) Y (Qm Y (BH (Qm Y (Qm Y (Qx (AI Y call153 Y (YB _ _ _ _)) Y (Qm Y (Am (Ac (Ar (Qm Y (Qm Y (Qm Y ?_))))))))))))))));refine Hl (t:=16) Y (fun hp=>?_) (fun hp=>?_)
 ·have hp:¬IsP p:=by simpa using hp
  refine Qk Y (Qk Y (Qm Y (Am (BC Y (Ar (Qx (A4 QT [.int .i64 0,.int .i64 0,.int .i64 0,.slice none 0 0] [] [_,_,_,_] Y BF Y Y Qt Y) Y ?_))))));refine Sa 0 [_,_,_,_] BF Y (by simp[Value.oneCell']) ?_;refine Am (An (Ae (Jz ?_)));exact By (vs:=[_,_,_,_]) 1 Y Y Jt Y BF Y Y (⟨Y,_,_,Y,by unfold Qd;rw[if_neg (fun hx=>hp hx.1)];rfl,by unfold Qd;rw[if_neg (fun hx=>hp hx.1)];exact OwnL.nil Be⟩)
 ·have hp:IsP p:=by simpa using hp
  refine Qg (Ay Y Y) Y (Qg (F1 Y Y) Y (Qm Y (Am ?_)));refine Bx Y (fun hf=>?_) (fun hf=>?_)
  ·have hf:¬FF r c:=by simpa using hf
   refine Ar (Qx (A4 QT [.int .i64 0,.int .i64 0,.int .i64 0,.slice none 0 0] [] [_,_,_,_] Y BF Y Y Qt Y) Y ?_);refine Sa 0 [_,_,_,_] BF Y (by simp[Value.oneCell']) ?_;refine Am (An (Ae (Jz ?_)));exact By (vs:=[_,_,_,_]) 1 Y Y Jt Y BF Y Y (⟨Y,_,_,Y,by unfold Qd;rw[if_neg (fun hx=>hf hx.2)];rfl,by unfold Qd;rw[if_neg (fun hx=>hf hx.2)];exact OwnL.nil Be⟩)
  ·have hf:FF r c:=by simpa using hf
   have hm:=Kr hf;obtain⟨n,hn⟩:∃n:Nat,r*c=n:=⟨(r*c).toNat,by omega⟩
   refine Ah (Ab (Ar (Qm Y (Qm Y (Qm Y (Qm Y (Qm Y (Qx (oM Y) Y (CN (n:=n) Y AU A5 Y Y Y (by omega) (by omega) (by omega) (by omega) Y Y Y (fun g27=>Qx (A4 QT [.int .i64 0,.int .i64 0,.int .i64 0,.slice none 0 0] [(0,_),(1,_),(2,_),(3,_)] [_,_,_,_] Y BF Y Y Qt Y) Y ?_))))))))));refine Sa 1 [_,_,_,_] BF Y (by simp[Value.oneCell']) ?_;refine Am (An ?_);exact By (vs:=[_,_,_,_]) 1 Y Y Jt Y BF Y Y (⟨Y,_,_,Y,by unfold Qd;rw[if_pos ⟨hp,hf⟩],by unfold Qd;rw[if_pos ⟨hp,hf⟩,hn];exact OwnL.rep n 0 (by omega)⟩)
theorem Y1(p:Int)(n:Nat)(h:Hp)(hp:IsP p)(hn:n<=400):FnT Tryz.prog 87 #[.int .i64 p,.int .i64 n] h [] (fun v h' ms'=>h=h'/\PR v ms' (Xy p n n eye)):=by
 have hI:BN p:=⟨by have:=hp.1;omega,by have:=hp.2.1;omega⟩
 refine Aq func87 ntmps87 Y Y (fun w0 hw0=>?_);simp only[AW];refine Ar (CG [.int .i64 0,.int .i64 0,.int .i64 0,.slice none 0 0] Y BF Y Y (fun g4=>BH (Qm Y (Qm Y (Qm Y (Qc call146 Y (PQ p n n h hI) (fun v h1 ms1 l1 hF=>?_)))))));obtain⟨rfl,ev,m,rfl,rfl,hO⟩:=hF;rw[R6 hp hn hn]at hO ⊢;have hO2:=hO.own.1;have he1:=hO.o1;refine CG [.int .i64 0,.int .i64 0,.int .i64 0,.slice none 0 0] Y BF Y Y (fun g5=>?_);refine Sa 0 [_,_,_,_] BF Y (by simp[he1]) ?_;refine Am (Ac (Ar (Qm Y (Am (Ag ?_)))))
 refine Aw (fun q s h' ms'=>∃(k:Nat) (m:Hp),q=n-k/\s=[(1,.int .i64 n),(4,.pointer (some ⟨g4,0,none⟩)),(5,.pointer (some ⟨g5,0,none⟩)),(6,.int .i64 k)]/\h=h'/\ms'=[Bl g5 65 [.int .i64 p,.int .i64 n,.int .i64 n,ev],m,Bl g4 65 [.int .i64 0,.int .i64 0,.int .i64 0,.slice none 0 0]]/\k<=n/\OwnL cI 1 3 m ev (CI n n fun i j=>if i=j/\i<k then 1 else 0))
  (n-0) _ ⟨0,m,rfl,rfl,rfl,rfl,by omega,by rw[Bg (g:=fun _ _=>0) (fun i _ j _=>if_neg (by omega))];exact hO⟩ Qs ?_
 rintro q s h' ms' ⟨k,m,rfl,rfl,rfl,rfl,hk,hO⟩;refine Ac (Ar (Qm Y (Qf Jy Y (Ql Y U3 (Cell.blk 0 Y Y) (Qm Y (Am ?_))))));refine Ap Y (fun hlt=>?_) (fun hlt=>?_)
 ·have hkn:k<n:=by omega
  have hix:=Gg hkn hkn;have hl:(CI n n fun i j=>if i=j/\i<k then 1 else 0).length=n*n:=Cy _ _ _;have hkk:k*n<=400*400:=Nat.mul_le_mul (by omega) hn;refine Ah (Ab (Ac (Ag (Ad (Qf Di Y (Ql Y AU (Cell.blk 0 Y Y) (Qm Y (Qm Y (Qx (oM Y) Y (Qm Y (Qx (oA Y) Y (Qx (AB (k*n+k) (hO.rd (List.Mem.tail _ Mh)).rd Y AU A5 Y Y (by omega) (by omega)) Y (C5 1 (k*n+k) hO Y A5 Y Y Y (by omega) Y Y (fun m' hO'=>Al (Ai (Ab (Ad (Qm Y (Qx (oA Y) Y (Qm Y (Al ?_)))))))))))))))))))));refine Ak (n-(k+1)) _ (by omega) ⟨k+1,m',Y,Y,Y,Y,by omega,?_⟩ Qs;rw[Hk _ hkn,Bg (fun i _ j _=>Y5 k i j)]at hO';exact hO'
 ·refine As (Aa (Aa (Af (Ab (Ar (Qx (oG Y Jt BF (Seg.blk 0 Y)) Y ?_))))));refine Sa 2 [_,_,_,_] BF Y (by simp[he1]) ?_;refine Am (An (AO ?_));exact By (vs:=[_,_,_,_]) 1 Y Y Jt Y BF Y Y (⟨Y,ev,m,Y,Y,by rw[show k=n by omega,Bg (g:=eye) (fun i hi j hj=>by unfold eye;simp only[hi,and_true])]at hO;exact hO⟩)
end Go.Proofs.Q
namespace Go.Proofs.Q
open Go.Eng Go.RowKit Go.Lin
def part(p:Int)(k:Nat)(f g:Nat->Nat->Int)(i t j a b:Nat):Int:=sm (if a<i then k else if a=i then(if b<j then t+1 else t) else 0) (fun t=>f a t*g t b)%p
theorem OW(p:Int)(k:Nat)(f g:Nat->Nat->Int)(i a b:Nat):part p k f g i k 0 a b=part p k f g (i+1) 0 0 a b:=by
 unfold part;by_cases h1:a<i
 ·rw[if_pos h1,if_pos (by omega)]
 ·rw[if_neg h1];by_cases h2:a=i
  ·rw[if_pos h2,if_neg (by omega),if_pos (by omega)]
  ·rw[if_neg h2,if_neg (by omega)];by_cases h3:a=i+1
   ·rw[if_pos h3,if_neg (by omega)]
   ·rw[if_neg h3]
end Go.Proofs.Q
