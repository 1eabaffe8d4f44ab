/- A part of the proof. -/
import Derived.Test.YtodheebhahdepaaGreatDoorSF
import Derived.Test.YtodheebhahdepaaGreatDoorRows
import Derived.Test.YtodheebhahdepaaGreatDoorChecked
import Derived.WalkKit
import Derived.ProofKit
import Derived.ChangeOld
import Derived.LaidMore
import Derived.Lay
import Derived.SevenTiedAt
import Derived.Stop.Joined
import Derived.Test.YtodheebhahdepaaGreatDoorCards
import Derived.Test.YtodheebhahdepaaGreatDoorTie
set_option linter.unusedSimpArgs false
set_option linter.unusedVariables false
set_option linter.unusedSectionVars false
set_option maxRecDepth 100000
set_option maxHeartbeats 4000000
open List (mem_map length_map length_singleton getElem_mem replicate range length_append nil_append length_take mem_cons cons_append map_append mem_filter mem_cons_of_mem length_nil take_succ_eq_append_getElem append_nil map_map map_cons length_set getElem_of_mem take_length append_assoc getElem_map length_cons range_succ filter_append sum_cons not_mem_nil)
namespace Go.Proofs.Q
open Go.Proofs.Tryz
open Go.Eng Go.RowKit
variable {A W:List CeO} {pr:CeO->Bool} {i j:Nat}
def On(A:List CeO)(pr:CeO->Bool):Int:=match A.findIdx? pr with|some k=>k|none=>-1
theorem TX{k:Nat}(hk:k<A.length)(h:pr A[k]=true)(hno:∀j (hj:j<A.length),j<k->pr A[j]=false):On A pr=k:=by
 unfold On
 have:A.findIdx? pr=some k:=by rw[List.findIdx?_eq_some_iff_getElem];exact⟨hk,h,fun j hj=>by rw[hno j (by omega) hj];simp⟩
 rw[this]
theorem Tc(hno:∀j (hj:j<A.length),pr A[j]=false):On A pr=-1:=by
 unfold On
 have:A.findIdx? pr=none:=by rw[List.findIdx?_eq_none_iff];intro a ha;obtain⟨j,hj,rfl⟩:=getElem_of_mem ha;exact hno j hj
 rw[this]
structure DelI(A W:List CeO)(pr:CeO->Bool)(i j:Nat):Prop where
 len:W.length=A.length
 ij:i<=j
 jn:j<=A.length
 tk:W.take i=(A.take j).filter fun a=>!pr a
 dr:W.drop j=A.drop j
theorem DelI.start{k:Nat}(hk:k<A.length)(h:pr A[k]=true)(hno:∀j (hj:j<A.length),j<k->pr A[j]=false):DelI A A pr k (k+1):=by
 refine⟨rfl,by omega,by omega,?_,rfl⟩;rw[take_succ_eq_append_getElem hk,filter_append];have e1:[A[k]].filter (fun a=>!pr a)=[]:=by simp[h]
 have e2:(A.take k).filter (fun a=>!pr a)=A.take k:=by rw[List.filter_eq_self];intro a ha;obtain⟨j,hj,rfl⟩:=getElem_of_mem ha;rw[length_take]at hj;rw[List.getElem_take,hno j (by omega) (by omega)];rfl
 rw[e1,e2,append_nil]
theorem DelI.get(D:DelI A W pr i j)(hj:j<W.length)(hj':j<A.length):W[j]=A[j]:=by have h1:W.drop j=W[j]::W.drop (j+1):=List.drop_eq_getElem_cons hj;have h2:A.drop j=A[j]::A.drop (j+1):=List.drop_eq_getElem_cons hj';have:=D.dr;rw[h1,h2]at this;exact(List.cons.inj this).1
theorem DelI.next(D:DelI A W pr i j)(hj:j<A.length):W.drop (j+1)=A.drop (j+1):=by
 have:=congrArg (List.drop 1) D.dr
 rwa [List.drop_drop,List.drop_drop]at this
theorem DelI.del(D:DelI A W pr i j)(hj:j<A.length)(h:pr A[j]=true):DelI A W pr i (j+1):=by refine⟨D.len,by have:=D.ij;omega,by omega,?_,D.next hj⟩;rw[take_succ_eq_append_getElem hj,filter_append,<-D.tk];simp[h]
theorem DelI.keep(D:DelI A W pr i j)(hj:j<A.length)(h:pr A[j]=false):DelI A (W.set i A[j]) pr (i+1) (j+1):=by
 have hij:=D.ij;have hl:=D.len;refine⟨by rw[length_set,D.len],by omega,by omega,?_,?_⟩
 ·rw[take_succ_eq_append_getElem hj,filter_append,<-D.tk];have hi:i<(W.set i A[j]).length:=by rw[length_set];omega
  rw[take_succ_eq_append_getElem hi,List.getElem_set_self,List.take_set_of_le (Nat.le_refl _)];simp[h]
 ·rw[List.drop_set_of_lt (by omega),D.next hj]
theorem SE(A:List CeO)(v:Value)(cf:FuncId)(cs:List Value)(pr:CeO->Bool)(h:Hp)(hR:RdL HK 3 h [] v A)(hn:A.length<=100000)
  (hc:∀xs w,(callFunc cf xs).run Tryz.prog w=.ok (.enter cf xs) w)
  (hp:∀a∈A,∀h',h.le h'->∀ms,FnV Tryz.prog cf ([]++[Value.agg (HK a).toArray]++cs).toArray h' ms (.bool (pr a))) :
  FnT Tryz.prog 141 #[v,.func (.func cf) #[] cs.toArray] h [] (fun r _ _=>r=.int .i64 (On A pr)):=by
 have ov:=hR.rd.one;refine Ap func141 ntmps141 rfl rfl (fun w0 hw0=>?_);simp only[AX];refine As (Qm rfl (Am (Ac (As (Qm rfl (Qx (Ar hR.rd.any rfl Bh rfl) rfl (Qm rfl (Am (Ag ?_)))))))))
 refine Ay (fun q s h' ms'=>∃(k:Nat),q=A.length-k/\s=[(0,v),(1,.func (.func cf) #[] cs.toArray),(7,.int .i64 A.length),(8,.int .i64 k)]/\h=h'/\ms'=[]/\k<=A.length/\∀j (hj:j<A.length),j<k->pr A[j]=false)
  (A.length-0) _ ⟨0,rfl,rfl,rfl,rfl,by omega,fun j _ hj=>by omega⟩ Qs ?_
 rintro q s h' ms' ⟨k,rfl,rfl,rfl,rfl,hk,hno⟩;refine As (Qm rfl (Am (Ac ?_)));refine Aq rfl (fun hlt=>?_) (fun hlt=>?_)
 ·have hkn:k<A.length:=by omega
  obtain⟨x,hx⟩:∃x,A[k]=x:=⟨_,rfl⟩
  have gX:∀ms,Seg h ms ((AF v).add (k*3)) (HK x):=fun ms=>by rw[<-hx];exact(hR.any (ms:=ms)).seg hkn
  have oxv:=x.one;refine Ah (Ab (Ac (Ag (As (Qm rfl (Qm rfl (BK (Qm rfl (Qm rfl (Qm rfl (Qx (BF (k) hR.rd.any rfl Bh AI rfl rfl) rfl (Qx (oG rfl Ef AI (gX _)) rfl ?_))))))))))));refine Qx (Cj rfl rfl hc rfl (hp x (by rw[<-hx];exact getElem_mem hkn) _ (C9) _)) rfl ?_;refine Am ?_;refine Bz rfl (fun hpk=>?_) (fun hpk=>?_)
  ·refine Ac (Ad (Qm rfl (Qm rfl (Am (An (Aj (Ae (Ae (Aj (Ae ?_))))))))));exact Az rfl rfl (by rw[TX hkn (by rw[hx];exact hpk) hno])
  ·refine Ah (Ai (Ab (Ad (Qx (oA rfl) rfl (Qm rfl (Ak ?_))))));refine Al (A.length-(k+1)) _ (by omega) ⟨k+1,rfl,rfl,rfl,rfl,by omega,fun j hj hj2=>?_⟩ Qs;rcases (by omega:j<k\/j=k) with h2|rfl
   ·exact hno j hj h2
   ·rw[hx];exact hpk
 ·refine Av (Aa (Aa (Af (Ab (As (Qm rfl (Am (An ?_))))))));exact Az rfl rfl (by rw[Tc fun j hj=>hno j hj (by omega)])
theorem PW(A:List CeO)(v:Value)(m:Hp)(cf:FuncId)(cs:List Value)(pr:CeO->Bool)(h:Hp)(hO:OwnL HK 3 52 m v A)(hn:A.length<=100000)
  (hc:∀xs w,(callFunc cf xs).run Tryz.prog w=.ok (.enter cf xs) w)
  (hp:∀a∈A,∀h',h.le h'->∀ms,FnV Tryz.prog cf ([]++[Value.agg (HK a).toArray]++cs).toArray h' ms (.bool (pr a))) :
  FnT Tryz.prog 74 #[v,.func (.func cf) #[] cs.toArray] h [m] (fun r h' ms'=>h=h'/\∃m',ms'=[m']/\OwnL HK 3 52 m' r (A.filter fun a=>!pr a)):=by
 have ov:=hO.o1;refine Ap func74 ntmps74 rfl rfl (fun w0 hw0=>?_);simp only[AX];refine As (Qm rfl (BK (Qm rfl (Qm rfl (Qx (AL rfl call141 rfl (CH fun h' hl hm=>EO (SE A v cf cs pr h' (hO.rdh (hm _ Mh)) hn hc fun a ha h2 l2=>hp a ha h2 (AJ hl l2)) _)) rfl (Qm rfl (Am (Ac (As (Qm rfl (Qm rfl (Am ?_))))))))))));obtain⟨q,hq⟩:∃q,On A pr=q:=⟨_,rfl⟩
 have hcase:(q=-1/\A.filter (fun a=>!pr a)=A)\/∃k:Nat,q=k/\∃hk:k<A.length,pr A[k]=true/\∀j (hj:j<A.length),j<k->pr A[j]=false:=by
  rw[<-hq];cases h:A.findIdx? pr with
  | none=>
   have h1:=List.findIdx?_eq_none_iff.1 h;refine .inl ⟨by unfold On;rw[h],?_⟩;rw[List.filter_eq_self];intro a ha;rw[h1 a ha];rfl
  | some k=>
   obtain⟨h1,h2,h3⟩:=List.findIdx?_eq_some_iff_getElem.1 h;exact .inr ⟨k,by unfold On;rw[h],h1,h2,fun j hj hjk=>by simpa using h3 j hjk⟩
 rw[hq];refine Aq rfl (fun hz=>?_) (fun hz=>?_)
 ·have hfl:A.filter (fun a=>!pr a)=A:=by
   rcases hcase with ⟨_,e⟩|⟨k,e,_⟩
   ·exact e
   ·omega
  refine As (Qm rfl (Qm rfl (Am (An (Ae ?_)))));exact Az rfl rfl (⟨rfl,m,rfl,by rw[hfl];exact hO⟩)
 ·obtain⟨k,rfl,hk,hkp,hkn⟩:∃k:Nat,q=k/\∃hk:k<A.length,pr A[k]=true/\∀j (hj:j<A.length),j<k->pr A[j]=false:=by
   rcases hcase with ⟨e,_⟩|h
   ·exact absurd e hz
   ·exact h
  refine Ah (Ab (Ac (As (Qm rfl (Qx (oA rfl) rfl (Qm rfl (Am (Ag ?_))))))))
  refine Ay (fun q s h' ms'=>∃(i j:Nat) (W:List CeO) (m:Hp),A.length-j=q/\s=[(0,v),(1,.func (.func cf) #[] cs.toArray),(5,.int .i64 i),(6,.int .i64 j)]/\h=h'/\ms'=[m]/\OwnL HK 3 52 m v W/\DelI A W pr i j)
   (A.length-(k+1)) _ ⟨k,k+1,A,m,rfl,rfl,rfl,rfl,hO,DelI.start hk hkp hkn⟩ Qs ?_
  rintro q s h' ms' ⟨i,j,W,m,rfl,rfl,rfl,rfl,hO,hD⟩;have hlW:=hD.len;have hij:=hD.ij;have hjn:=hD.jn;refine Ac (As (Qm rfl (Qm rfl (Qx (Ar (hO.rd Mh).rd rfl Bh rfl) rfl (Qm rfl (Am ?_))))));refine Aq rfl (fun hlt=>?_) (fun hlt=>?_)
  ·have hjA:j<A.length:=by omega
   have hjW:j<W.length:=by omega
   have hgx:=hD.get hjW hjA;obtain⟨x,hx⟩:∃x,A[j]=x:=⟨_,rfl⟩
   rw[hx]at hgx;have gX:∀ms,m∈ms->Seg h ms ((AF v).add (j*3)) (HK x):=fun ms hm=>by rw[<-hgx];exact(hO.rd hm).seg hjW
   have oxv:=x.one;refine Ah (Ab (Ac (Ag (As (Qm rfl (Qm rfl (Qx (AE (j) (hO.rd Mh).rd rfl Bh AI rfl rfl (by omega) (by omega)) rfl (Qx (oG rfl Ef AI (gX _ Mh)) rfl (Cz [.int .i64 0,.int .i64 0,.slice none 0 0] rfl AI rfl rfl (fun g7=>?_))))))))));refine Sa 0 [_,_,_] AI rfl (by simp[ov,oxv]) ?_;refine BK (Qm rfl (Qx (oG rfl Ef AI (Seg.blk 0 rfl)) rfl ?_));refine Qx (Cj rfl rfl hc rfl (hp x (by rw[<-hx];exact getElem_mem hjA) _ (C9) _)) rfl ?_;refine Qm rfl (Am ?_);refine Bz rfl (fun hpk=>?_) (fun hpk=>?_)
   ·have hpf:pr A[j]=false:=by rw[hx];simpa using hpk
    have hk':=hD.keep hjA hpf;refine As (Qm rfl (Qm rfl (Qx (oG rfl Ef AI (Seg.blk 0 rfl)) rfl (Qx (AE (i) (hO.rd (List.Mem.tail _ Mh)).rd rfl Bh AI rfl rfl (by omega) (by omega)) rfl ?_))));refine Ee 1 i x hO rfl AI rfl rfl rfl (Nf x) rfl (show i<W.length by omega) rfl rfl (fun m' hO'=>?_);rw[hx]at hk';refine Gm (Qm rfl (Qx (oA rfl) rfl (Qm rfl (Ak (Ai (Ab (Ad (Qm rfl (Qx (oA rfl) rfl (Qm rfl (Ak (AN ?_))))))))))));exact Al (A.length-(j+1)) _ (by omega) ⟨i+1,j+1,_,m',rfl,rfl,rfl,rfl,hO',hk'⟩ Qs
   ·have hpt:pr A[j]=true:=by rw[hx];simpa using hpk
    refine Ah (Ai (Ab (Ad (Qm rfl (Qx (oA rfl) rfl (Qm rfl (Ak (AN ?_))))))));exact Al (A.length-(j+1)) _ (by omega) ⟨i,j+1,W,m,rfl,rfl,rfl,rfl,hO,hD.del hjA hpt⟩ Qs
  ·have hjl:j=A.length:=by omega
   subst hjl;refine Av (Aa (Aa (Af (Ab (As (Qm rfl (Qm rfl (Qx (CE _ (hO.rd Mh).rd rfl Bh AI rfl rfl rfl (by omega)) rfl (Sp 0 i hO (by omega) rfl Bh AI rfl (by decide) rfl rfl rfl rfl (fun m' hO'=>?_))))))))));have htk:W.take i=A.filter fun a=>!pr a:=by have:=hD.tk;rwa [take_length]at this
   rw[htk]at hO';refine BK (Qm rfl (Qm rfl (Qx (EA i (hO.rd (h:=h) (ms:=[m]) Mh).rd rfl Bh AI rfl rfl rfl (by omega)) rfl (Qm rfl (Am (An ?_))))));exact Az rfl rfl (⟨rfl,m',rfl,hO'⟩)
end Go.Proofs.Q
namespace Go.Proofs.Q
open Go.Proofs.Tryz
open Go.Eng Go.RowKit
def ER(F:List (Int×Int))(t:Int)(o:List Cl):List Cl:=o.filter fun c=>decide (Dz (BD F) c.id<=t)
theorem ZZ{lo:List CeO}{m:Hp}{v:Value}(O:OwnL cC 3 52 m v (lo.map Lu)):OwnL HK 3 52 m v lo:=⟨by have:=O.own;rwa [I6,length_map]at this,JR⟩
theorem YY(F:List (Int×Int))(x:CeO)(t:Int)(g1 g2 gA:Nat)(mA:Hp)(bs:List Nat)(h:Hp)(hO:CO kN kN gA BH mA (BD F) bs)(lA:mA.le h)(h1:∀ms,Cell h ms (⟨g1,0,none⟩:Addr) (.map (some gA)))(h2:∀ms,Cell h ms (⟨g2,0,none⟩:Addr) (.int .i64 t))(hs:BH x.c.id)(ms:List Hp) :
  FnV Tryz.prog 75 ([]++[Value.agg (HK x).toArray]++[Value.pointer (some ⟨g1,0,none⟩),.pointer (some ⟨g2,0,none⟩)]).toArray h ms (.bool (decide (Dz (BD F) x.c.id>t))):=by
 refine EO ?_ ms;show FnT _ _ #[.agg #[.int .i64 x.c.id,.int .i64 x.c.dim,x.v],.pointer (some ⟨g1,0,none⟩),.pointer (some ⟨g2,0,none⟩)] _ _ _;have ox:=x.one;refine Ap func75 ntmps75 rfl rfl (fun w0 hw0=>?_);simp only[AX];refine As (AV [_,_,_] rfl rfl (by rfl) rfl rfl rfl (fun g3=>Qm rfl (Am (AC fun h3 l3 hS=>?_))));have e0:∀ms,Cell h3 ms ((⟨g3,0,none⟩:Addr).add 0) (.int .i64 x.c.id):=fun ms=>(hS 0 _ rfl).any;have h1:∀ms,Cell h3 ms (⟨g1,0,none⟩:Addr) (.map (some gA)):=fun ms=>(h1 ms).le l3;have h2:∀ms,Cell h3 ms (⟨g2,0,none⟩:Addr) (.int .i64 t):=fun ms=>(h2 ms).le l3;refine As (Ql rfl Lw (h1 _) (Qf Bt rfl (Ql rfl U3 (e0 _) (Qx (Cf (V:=kN) (z:=(0:Int)) (u:=Dz (BD F) x.c.id) x.c.id rfl Bs hO (AJ lA l3) rfl Lw HH rfl rfl hs) rfl (Ql rfl U3 (h2 _) (Qm rfl (Qm rfl (Am (An ?_)))))))));exact Az rfl rfl (rfl)
theorem O8(l:List Ce)(F:List (Int×Int))(v vf:Value)(t:Int)(hp:Hp)(hK:RgC l)(hR:RdC hp v l)(hF:RdL cV 2 hp [] vf F)(hV:Gs F)(h0:Cy (cn l) F=(0,0))(hl:l.length<=400) :
  FnT Tryz.prog 27 #[.agg #[v],vf,.int .i64 t] hp [] (fun r h' ms'=>hp.le h'/\∃m A v',ms'=[m]/\r=.agg #[v']/\OwnL cC 3 52 m v' A/\A.map Ce.c=ER F t (cn l)/\∀a∈A,RdL cD 2 h' [] a.v a.c.sd):=by
 have o1:=hR.q.rd.one;have o2:=hF.rd.one;refine Ap func27 ntmps27 rfl rfl (fun w0 hw0=>?_);simp only[AX];refine As (AV [_] rfl rfl (by rfl) rfl rfl rfl (fun g3=>AV [_] rfl rfl (by rfl) rfl rfl rfl (fun g5=>Cz [.slice none 0 0] rfl AW rfl rfl (fun g6=>Am (Bm 1 rfl fun h1 l1 hS5=>(Bm 1 rfl fun h2 l2 hS3=>?_))))));have hR2:=(hR.up l1).up l2;have hF2:=(hF.up l1).up l2;have c3:∀ms,Seg h2 ms (⟨g3,0,none⟩:Addr) [v]:=fun ms=>hS3.any;have c5:∀ms,Cell h2 ms (⟨g5,0,none⟩:Addr) (.int .i64 t):=fun ms=>((hS5 0 _ rfl).any).le l2;refine Ac (As (Qx (oG rfl CF AW (c3 _)) rfl (Qm rfl ?_)));refine Qx (AL rfl call24 rfl (EO ((Dc l F v vf h2 hK hR2 hF2 hV).mono fun r _ _ h=>by rw[h,h0]) _)) rfl ?_;refine Qm rfl (Qm rfl (Qm rfl (Qm rfl (Qm rfl (BK (Qm rfl (Qm rfl (Am ?_))))))));refine Aq rfl (fun hz=>?_) (fun hz=>?_)
 ·exact absurd rfl hz
 ·refine Ah (Ab (As (Qm rfl (Qc call66 rfl (Hf F vf h2 hF2 hV.n hV.k) (fun rL h3 ms3 l3 hL=>?_)))));obtain⟨l3',gL,mL,bL,rfl,rfl,hOL⟩:=hL;refine Cz [.map none] rfl Yv rfl rfl (fun g9=>AS 0 0 rfl Yv rfl rfl (by rfl) rfl rfl (by decide) rfl rfl (Am (AC fun h4 l4 hS9=>(Bq fun h5 l5 lmL=>?_))));have l25:=AJ l3' (AJ l4 l5);have c9:∀ms,Cell h5 ms (⟨g9,0,none⟩:Addr) (.map (some gL)):=fun ms=>((hS9 0 _ rfl).any).le l5;have c3:∀ms,Seg h5 ms (⟨g3,0,none⟩:Addr) [v]:=fun ms=>(c3 ms).le l25;have c5:∀ms,Cell h5 ms (⟨g5,0,none⟩:Addr) (.int .i64 t):=fun ms=>(c5 ms).le l25;refine As (Qx (oG rfl CF AW (c3 _)) rfl (Qc call65 rfl (Hm l v h5 hK (hR2.up l25)) (fun rC h6 ms6 l6 hQ=>?_)));obtain⟨l6',mC,A,vA,rfl,rfl,hOC,hAl,hsA⟩:=hQ;obtain⟨lo,e⟩:=exO (fun a ha=>(hsA a ha).rd.one);have e:lo.map Lu=A:=e;have hlo:lo.length=l.length:=by have h1:=congrArg List.length hAl;rw[<-e]at h1;rw[Ds]at h1;simpa using h1
  have hOo:OwnL HK 3 52 mC vA lo:=ZZ (by rw[e];exact hOC);have ovA:=hOC.o1;refine Cz [.slice none 0 0] rfl AW rfl rfl (fun g10=>?_);refine Sa 0 [_] AW rfl (by simp[o1,o2,ovA]) ?_;refine BK (Qf B8 rfl (Ql rfl Bh (Cell.blk 0 rfl rfl) (Qx (BW rfl rfl rfl) rfl ?_)))
  have hidI:∀a∈lo,BH a.c.id:=fun a ha=>by
   have h1:a.c∈cn l:=by rw[<-hAl,<-e,map_map];exact List.mem_map.2 ⟨a,ha,rfl⟩
   exact hK.cI h1
  refine ME 1 rfl (Bb (pre:=[mC]) rfl call74 rfl (PW lo vA mC 75 [Value.pointer (some ⟨g9,0,none⟩),.pointer (some ⟨g5,0,none⟩)] (fun x=>decide (Dz (BD F) x.c.id>t)) h6 hOo (by omega) call75 (fun a ha h' l' ms=>YY F a t g9 g5 gL mL bL h' hOL (AJ lmL (AJ l6 l')) (fun ms=>(c9 ms).le (AJ l6 l')) (fun ms=>(c5 ms).le (AJ l6 l')) (hidI a ha) ms)) rfl rfl rfl rfl (fun vD h7 ms7 l7 hF=>?_));obtain⟨rfl,mD,rfl,hOD⟩:=hF;have ovD:=hOD.o1;refine Qf B8 rfl ?_;refine AS 1 _ rfl JP rfl rfl (by assumption) rfl rfl (by(simp;done)) rfl rfl ?_;refine Am (Bm 1 rfl fun h8 l8 hS10=>?_);have c10:∀ms,Seg h8 ms (⟨g10,0,none⟩:Addr) [vD]:=fun ms=>hS10.any
  have hfe:(lo.filter fun x=>!decide (Dz (BD F) x.c.id>t)).map Lu=A.filter fun a=>decide (Dz (BD F) a.c.id<=t):=by
   rw[<-e,List.filter_map];congr 1;refine List.filter_congr fun x _=>?_;show(!decide (Dz (BD F) x.c.id>t))=decide (Dz (BD F) x.c.id<=t);by_cases h:Dz (BD F) x.c.id<=t
   ·rw[decide_eq_true h,decide_eq_false (by omega)];rfl
   ·rw[decide_eq_false h,decide_eq_true (by omega)];rfl
  have hOe:=U1 hOD;rw[hfe]at hOe
  have hfc:(A.filter fun a=>decide (Dz (BD F) a.c.id<=t)).map Ce.c=ER F t (cn l):=by unfold ER;rw[<-hAl,List.filter_map];rfl
  refine As (Qx (oG rfl CF AW (c10 _)) rfl ?_);refine Sa 1 [_] AW rfl (by simp[o1,o2,ovA,ovD]) ?_;refine Am (An ?_);have lpp:=AJ l1 (AJ l2 (AJ l25 (AJ l6 l8)));have hpost:=fun a (ha:a∈A.filter fun a=>decide (Dz (BD F) a.c.id<=t))=>(hsA a (List.mem_filter.1 ha).1).up l8;exact By (vs:=[_]) 1 rfl rfl CF rfl AW rfl rfl (⟨lpp,mD,_,vD,rfl,rfl,hOe,hfc,hpost⟩)
end Go.Proofs.Q
namespace Go.Proofs.Q
open Go.Eng Go.RowKit
variable {o:List Cl}
theorem Rgt.filt(R:Rgt o){P:Cl->Bool}(hc:∀x∈o,P x=true->∀s∈x.sd,∀y∈o,y.id=s.1->P y=true):Rgt (o.filter P):=by
 have hm:∀{x},x∈o.filter P->x∈o:=fun h=>(List.mem_filter.1 h).1;have hnd:((o.filter P).map Cl.id).Nodup:=R.nd.sublist (List.filter_sublist.map _)
 have hsid:∀x∈o.filter P,∀s∈x.sd,∃y∈o.filter P,y.id=s.1/\y.dim=x.dim-1:=fun x hx s hs=>by obtain⟨y,hy,e1,e2⟩:=R.sid x (hm hx) s hs;exact⟨y,List.mem_filter.2 ⟨hy,hc x (hm hx) (List.mem_filter.1 hx).2 s hs y hy e1⟩,e1,e2⟩
 refine⟨Nat.le_trans (List.length_filter_le _ _) R.n,hnd,fun x hx=>R.pos x (hm hx),fun x hx=>R.dim x (hm hx),fun x hx=>R.num x (hm hx),fun x hx=>R.sds x (hm hx),hsid,fun x hx=>R.sgn x (hm hx),fun x hx=>R.one x (hm hx),fun x hx hd=>?_⟩
 have e:Fu (o.filter P) x=Fu o x:=by
  unfold Fu KV;refine DQ fun s hs=>?_;obtain⟨y,hy,e1,_⟩:=hsid x hx s hs
  have h1:Gg (o.filter P) s.1=Gg o s.1:=by rw[<-e1];unfold Gg;rw[Dk hnd hy,Dk R.nd (hm hy)]
  simp only[h1]
 rw[e];exact R.tab x (hm hx) hd
theorem RgtF.can_eq(R:RgtF o){x:Cl}(hx:x∈o):x.can=x:=by have e:Ca x.sd=x.sd:=Dq Prod.fst (BQ _) (Fa _) (R.sinc x hx);unfold Cl.can;rw[e]
theorem RgtF.filt(R:RgtF o){P:Cl->Bool}(hc:∀x∈o,P x=true->∀s∈x.sd,∀y∈o,y.id=s.1->P y=true):RgtF (o.filter P):=by
 have h1:=(R.rgt.filt hc).ordF
 have e1:(o.filter P).map Cl.can=o.filter P:=by
  have:∀l:List Cl,(∀x∈l,x∈o)->l.map Cl.can=l:=fun l=>by
   induction l with
   | nil=>intro _;rfl
   | cons a l ih=>intro h;rw[map_cons,R.can_eq (h a Mh),ih fun x hx=>h x (mem_cons_of_mem _ hx)]
  exact this _ fun x hx=>(List.mem_filter.1 hx).1
 have h2:=Db (o.filter P).length (o.filter P) (Nat.le_refl _);rw[e1]at h2;have h3:=Dq Cl.id h2 (Du _ _ (Nat.le_refl _)) (R.inc.sublist List.filter_sublist)
 rwa [h3]at h1
theorem RgtF.sub(R:RgtF o){F:List (Int×Int)}(hmon:∀x∈o,∀s∈x.sd,Dz (BD F) s.1<=Dz (BD F) x.id)(t:Int):RgtF (ER F t o):=
 R.filt fun x hx hP s hs y hy e=>by have h1:=of_decide_eq_true hP;have h2:=hmon x hx s hs;rw[<-e]at h2;exact decide_eq_true (by omega)
end Go.Proofs.Q
namespace Go.Proofs.Q
open Go.Proofs.Tryz
open Go.Eng Go.RowKit
theorem Jm(l:List Ce)(F:List (Int×Int))(v vf:Value)(t p:Int)(hp:Hp)(hK:RgC l)(hR:RdC hp v l)(hF:RdL cV 2 hp [] vf F)(hV:Gs F)(h0:Cy (cn l) F=(0,0))(hmon:∀x∈cn l,∀s∈x.sd,Dz (BD F) s.1<=Dz (BD F) x.id)(hP:IsP p)(hp2:p<256)(hl:l.length<=100) :
  FnT Tryz.prog 19 #[.agg #[v],vf,.int .i64 t,.int .i64 p] hp [] (fun r h' ms'=>hp.le h'/\∃(D:Int) (rk:Nat->Nat) (w:Value) (m:Hp),r=.tuple #[w,.int .i64 0]/\ms'=[m]/\OwnL cI 1 3 m w (Mv (ER F t (cn l)) rk (D+1).toNat)/\K2 (ER F t (cn l)) D/\rk 0=0/\∀n:Nat,n<(D+1).toNat->RkO p (ER F t (cn l)) (n+1) (rk (n+1))):=by
 have o1:=hR.q.rd.one;have o2:=hF.rd.one;refine Ap func19 ntmps19 rfl rfl (fun w0 hw0=>?_);simp only[AX];refine As (AV [_] rfl rfl (by rfl) rfl rfl rfl (fun g4=>Qm rfl (Qm rfl (Am (AC fun h1 l1 hS4=>?_)))));have hR1:=hR.up l1;have hF1:=hF.up l1;have c4:∀ms,Seg h1 ms (⟨g4,0,none⟩:Addr) [v]:=fun ms=>hS4.any;refine Ac (As (Qx (oG rfl CF AW (c4 _)) rfl (Qm rfl ?_)));refine Qx (AL rfl call24 rfl (EO ((Dc l F v vf h1 hK hR1 hF1 hV).mono fun r _ _ h=>by rw[h,h0]) _)) rfl ?_;refine Qm rfl (Qm rfl (Qm rfl (Qm rfl (Qm rfl (BK (Qm rfl (Qm rfl (Am ?_))))))));refine Aq rfl (fun hz=>?_) (fun hz=>?_)
 ·exact absurd rfl hz
 ·refine Ah (Ab (As (Qx (oG rfl CF AW (c4 _)) rfl (Qm rfl (Qm rfl (Qc call27 rfl (O8 l F v vf t h1 hK hR1 hF1 hV h0 (by omega)) (fun rS h2 ms2 l2 hS=>?_)))))));obtain⟨l2',mS,A,vA,rfl,rfl,hOS,hA,hsA⟩:=hS;refine BA hOS fun h3 l3 hRA=>?_
  have hAl:A.length<=100:=by have h1:=congrArg List.length hA;rw[length_map]at h1;rw[h1];refine Nat.le_trans (List.length_filter_le _ _) ?_;rw[Ds];exact hl
  have hFA:RgtF (A.map Ce.c):=by rw[hA];exact hK.F.sub hmon t
  have hKA:RgC A:=⟨hFA.rgt,fun a ha=>by
   have h1:a.c∈ER F t (cn l):=by rw[<-hA];exact List.mem_map.2 ⟨a,ha,rfl⟩
   exact hK.ci (List.mem_filter.1 h1).1⟩
  have hRC:RdC h3 vA A:=⟨hRA,fun a ha=>(hsA a ha).up l3⟩
  have oA_:=hRA.rd.one;refine Qm rfl (Qc call20 rfl (VE A vA p h3 hP hp2 hKA hRC hAl) (fun rB h4 ms4 l4 hB=>?_));obtain⟨l4',D,rk,w,m,rfl,rfl,hO,hD,hr0,hrk⟩:=hB;rw[Wr hFA,hA]at hO hD hrk;have ow:=hO.o1;refine Qm rfl (Qm rfl (Qm rfl (Qm rfl (Am (An ?_)))));exact Bo rfl rfl rfl (⟨AJ l1 (AJ l2 (AJ l3 l4)),D,rk,w,m,rfl,rfl,hO,hD,hr0,hrk⟩)
end Go.Proofs.Q
namespace Go.Proofs.Q
open Go.Eng Go.RowKit Go.Lin
variable {i j:Nat}
def Do(S:List Ce)(i:Nat):Cl:=(S.getD i default).c
theorem Gd{S:List Ce}(h:i<S.length):Do S i=S[i].c:=by unfold Do;simp[List.getD,h]
structure PerH(p:Int)(F:List (Int×Int))(l S:List Ce)(R V:Nat->List Int):Prop where
 P:PersF p F l S R V
 hp:IsP p
 G:Rgt (cn l)
 mon:∀x∈cn l,∀s∈x.sd,Dz (BD F) s.1<=Dz (BD F) x.id
section
variable {p:Int} {F:List (Int×Int)} {l S:List Ce} {R V:Nat->List Int}
theorem PerH.nd(H:PerH p F l S R V):(S.map fun a=>a.c.id).Nodup:=by
 have:=(H.P.perm.map Cl.id).nodup_iff.2 H.G.nd
 rwa [map_map]at this
theorem PerH.mem(H:PerH p F l S R V)(h:i<S.length):Do S i∈cn l:=by rw[Gd h];exact H.P.perm.mem_iff.1 (List.mem_map.2 ⟨_,getElem_mem h,rfl⟩)
theorem PerH.inj(H:PerH p F l S R V)(hi:i<S.length)(hj:j<S.length)(h:(Do S i).id=(Do S j).id):i=j:=by
 rw[Gd hi,Gd hj]at h;have hp:=List.pairwise_iff_getElem.1 H.nd;rcases Nat.lt_trichotomy i j with h1|h1|h1
 ·have:=hp i j (by simpa using hi) (by simpa using hj) h1;simp only[getElem_map]at this;exact absurd h this
 ·exact h1
 ·have:=hp j i (by simpa using hj) (by simpa using hi) h1;simp only[getElem_map]at this;exact absurd h.symm this
theorem PerH.place(H:PerH p F l S R V){y:Cl}(hy:y∈cn l):∃m,m<S.length/\Do S m=y:=by obtain⟨a,ha,rfl⟩:=List.mem_map.1 (H.P.perm.mem_iff.2 hy);obtain⟨m,hm,rfl⟩:=getElem_of_mem ha;exact⟨m,hm,Gd hm⟩
theorem PerH.before(H:PerH p F l S R V)(hj:j<S.length){s:Int×Int}(hs:s∈(Do S j).sd):∃m,m<j/\(Do S m).id=s.1/\(Do S m).dim=(Do S j).dim-1:=by
 obtain⟨y,hy,e1,e2⟩:=H.G.sid _ (H.mem hj) s hs;obtain⟨m,hm,rfl⟩:=H.place hy;refine⟨m,?_,e1,e2⟩;have hf:=H.mon _ (H.mem hj) s hs;rw[<-e1]at hf;refine Classical.byContradiction fun hn=>?_;rcases (by omega:m=j\/j<m) with rfl|h
 ·omega
 ·have:=List.pairwise_iff_getElem.1 H.P.srt j m hj hm h;rw[<-Gd hj,<-Gd hm]at this;omega
def EM(S:List Ce)(i k:Nat):Int:=sgn (Do S k).sd (Do S i).id
theorem Sb(H:PerH p F l S R V)(hj:j<S.length)(hi:i<S.length):∀k,k<=(Do S j).sd.length->Cg p ((Fc p S j k).getD i 0) (sgn ((Do S j).sd.take k) (Do S i).id)
 | 0,_=>by
  have:(Fc p S j 0).getD i 0=0:=by unfold Fc;simp[List.getD,hi]
  rw[this,List.take_zero,HA];exact Cg.refl _ _
 | k+1,hk=>by
  have ih:=Sb H hj hi k (by omega);have hkl:k<(S.getD j default).c.sd.length:=by unfold Do at hk;omega
  have hkl':k<(Do S j).sd.length:=hkl;obtain⟨s,hs⟩:∃s,(Do S j).sd[k]=s:=⟨_,rfl⟩
  have hs':(S.getD j default).c.sd[k]=s:=hs
  have hcs:Fc p S j (k+1)=(Fc p S j k).set (pl S (j+1) s.1) ((s.2+p)%p):=by rw[<-hs'];exact Me hkl
  rw[hcs,take_succ_eq_append_getElem hkl',Kw,hs];have hsm:s∈(Do S j).sd:=by rw[<-hs];exact getElem_mem hkl'
  obtain⟨m,hm,e1,e2⟩:=H.before hj hsm
  have hpl:pl S (j+1) s.1=m:=by rw[<-e1];exact Z5 H.nd (by omega) (by omega)
  rw[hpl];have hpp:0<p:=by have:=H.hp.1;omega
  by_cases him:i=m
  ·subst him
   have hz:sgn ((Do S j).sd.take k) (Do S i).id=0:=K0 fun s' hs2 e=>by have h1:=List.pairwise_iff_getElem.1 (H.G.sds _ (H.mem hj));obtain⟨t,ht,rfl⟩:=getElem_of_mem hs2;rw[length_take]at ht;have:=h1 t k (by simp;omega) (by simpa using hkl') (by omega);rw[getElem_map,getElem_map,hs]at this;rw[List.getElem_take]at e;exact this (e.trans e1)
   have hlt:i<(Fc p S j k).length:=by rw[FX];exact hi
   rw[hz,if_pos e1.symm];have hv:((Fc p S j k).set i ((s.2+p)%p)).getD i 0=(s.2+p)%p:=by simp[List.getD,hlt]
   rw[hv,Int.zero_add];have h5:=(Cg.mod p (s.2+p)).trans ((Cg.refl p s.2).add (Cg.self p))
   rwa [Int.add_zero]at h5
  ·have hne:s.1≠(Do S i).id:=fun e=>him (H.inj hi (by omega) (by rw[e1,e]));rw[if_neg hne,Int.add_zero]
   have hv:((Fc p S j k).set m ((s.2+p)%p)).getD i 0=(Fc p S j k).getD i 0:=by simp[List.getD,List.getElem?_set_ne (Ne.symm him)]
   rw[hv];exact ih
theorem Ro(H:PerH p F l S R V)(hj:j<S.length)(hi:i<S.length):Cg p ((JM p S j).getD i 0) (EM S i j):=by have:=Sb H hj hi (Do S j).sd.length (Nat.le_refl _);rw[take_length]at this;exact this
end
end Go.Proofs.Q
namespace Go.Proofs.Q
open Go.Eng Go.RowKit Go.Lin
variable {i k j:Nat} {o o':List Cl}
section
variable {p:Int} {F:List (Int×Int)} {l S:List Ce} {R V:Nat->List Int}
structure ColI(p:Int)(S:List Ce)(k:Nat)(r v:List Int):Prop where
 rl:r.length=S.length
 vl:v.length=S.length
 eq:∀i,i<S.length->Cg p (r.getD i 0) (Fq S.length (EM S) (fun m=>v.getD m 0) i)
 one:v.getD k 0=1
 aft:∀i,k<i->v.getD i 0=0
 vd:∀i,i<S.length->v.getD i 0≠0->(Do S i).dim=(Do S k).dim
 rd:∀i,i<S.length->r.getD i 0≠0->(Do S k).dim=(Do S i).dim+1
theorem GW{n:Nat}(hk:k<n)(i:Nat):(Fb n k).getD i 0=if i=k then 1 else 0:=by
 unfold Fb;by_cases e:i=k
 ·subst e;simp[List.getD,hk]
 ·rw[if_neg e];simp only[List.getD];rw[List.getElem?_set_ne (Ne.symm e)];by_cases h:i<n
  ·simp[h]
  ·simp[List.getElem?_eq_none (show(replicate n (0:Int)).length<=i by simp;omega)]
theorem PerH.col0(H:PerH p F l S R V)(hk:k<S.length):ColI p S k (JM p S k) (Fb S.length k):=by
 have hp:=H.hp.1;refine⟨FX _ _ _ _,Ms _ _,fun i hi=>?_,?_,fun i hi=>?_,fun i hi h=>?_,fun i hi h=>?_⟩
 ·refine(Ro H hk hi).trans (Cg.of_eq ?_);unfold Fq;rw[Gh S.length k _ hk fun m hm hne=>by show EM S i m*(Fb S.length k).getD m 0=0;rw[GW hk,if_neg hne,Int.mul_zero]];show EM S i k=EM S i k*(Fb S.length k).getD k 0;rw[GW hk,if_pos rfl,Int.mul_one]
 ·rw[GW hk,if_pos rfl]
 ·rw[GW hk,if_neg (by omega)]
 ·rw[GW hk]at h;split at h
  ·rename_i e;rw[e]
  ·exact absurd rfl h
 ·have hE:EM S i k≠0:=fun e=>h (by
   have h1:=Ro H hk hi;rw[e]at h1
   exact h1.eq (FQ (by omega) (N7 (by omega) S k _) i) ⟨by omega,by omega⟩)
  obtain⟨s,hs,e⟩:=Na hE;obtain⟨m,hm,e1,e2⟩:=H.before hk hs;have:m=i:=H.inj (by omega) hi (by rw[e1,e]);subst this;omega
theorem YF(n:Nat)(D:Nat->Nat->Int)(x y:Nat->Int)(c:Int)(i:Nat):Fq n D (fun k=>x k+c*y k) i=Fq n D x i+c*Fq n D y i:=by unfold Fq;rw[<-Fk,<-GP];exact Bk fun k _=>by rw[Int.mul_add,<-Int.mul_assoc,<-Int.mul_assoc,Int.mul_comm c]
theorem ColI.step{k' i0:Nat}{t:Int}{r v r' v':List Int}(hp:2<=p)(C:ColI p S k r v)(C':ColI p S k' r' v')(hk:k'<k)(hi0:i0<S.length)(h1:r.getD i0 0≠0)(h2:r'.getD i0 0≠0):ColI p S k (FL p r r' t) (FL p v v' t):=by
 have lr:r.length=r'.length:=C.rl.trans C'.rl.symm;have lv:v.length=v'.length:=C.vl.trans C'.vl.symm
 have hd:(Do S k').dim=(Do S k).dim:=by have:=C.rd i0 hi0 h1;have:=C'.rd i0 hi0 h2;omega
 refine⟨by rw[E7 lr,C.rl],by rw[E7 lv,C.vl],fun i hi=>?_,?_,fun i hi=>?_,fun i hi h=>?_,fun i hi h=>?_⟩
 ·rw[Eo lr];refine(Cg.mod p _).trans (((C.eq i hi).add ((Cg.refl p t).mul (C'.eq i hi))).trans ?_);rw[<-YF];exact QU (fun m _=>by rw[Eo lv];exact(Cg.mod p _).symm) i
 ·rw[Eo lv,C.one,C'.aft k hk,Int.mul_zero,Int.add_zero];exact Int.emod_eq_of_lt (by omega) (by omega)
 ·rw[Eo lv,C.aft i hi,C'.aft i (by omega),Int.mul_zero,Int.add_zero];rfl
 ·rw[Eo lv]at h;by_cases e:v.getD i 0=0
  ·by_cases e':v'.getD i 0=0
   ·rw[e,e',Int.mul_zero]at h;exact absurd rfl h
   ·rw[C'.vd i hi e',hd]
  ·exact C.vd i hi e
 ·rw[Eo lr]at h;by_cases e:r.getD i 0=0
  ·by_cases e':r'.getD i 0=0
   ·rw[e,e',Int.mul_zero]at h;exact absurd rfl h
   ·rw[<-hd];exact C'.rd i hi e'
  ·exact C.rd i hi e
theorem PerH.ops(H:PerH p F l S R V)(ih:∀k',k'<k->ColI p S k' (R k') (V k')){r0 v0 r v:List Int}(C:ColI p S k r0 v0)(h:Ops p S.length k R V r0 v0 r v):ColI p S k r v:=by
 induction h with
 | refl=>exact C
 | step h hk hi h0 h1 h2 h3 ih'=>exact ih'.step H.hp.1 (ih _ hk) hk hi h2 h3
theorem PerH.col(H:PerH p F l S R V):∀k,k<S.length->ColI p S k (R k) (V k):=fun k=>by
 induction k using Nat.strongRecOn with
 | ind k ih=>
  intro hk;obtain⟨la,A⟩:=H.P.all;exact H.ops (fun k' hk'=>ih k' hk' (by omega)) (H.col0 hk) (A.ops k hk)
end
def tr(o o':List Cl)(i:Nat):Nat:=Pr o' (o.getD i default).id
theorem Mn(h:o.Perm o')(hn:(o.map Cl.id).Nodup)(hi:i<o.length):tr o o' i<o.length/\o'.getD (tr o o' i) default=o.getD i default:=by have:=Hr (h.mem_iff.1 (DV hi)) ((h.map Cl.id).nodup_iff.1 hn);exact⟨by rw[h.length_eq];exact this.1,this.2⟩
theorem KZ(h:o.Perm o')(hn:(o.map Cl.id).Nodup)(hi:i<o.length):tr o' o (tr o o' i)=i:=by obtain⟨h1,h2⟩:=Mn h hn hi;have hn':=(h.map Cl.id).nodup_iff.1 hn;obtain⟨h3,h4⟩:=Mn h.symm hn' (i:=tr o o' i) (by rw[<-h.length_eq];exact h1);exact Lq hn (by rw[h.length_eq];exact h3) hi (by rw[h4,h2])
theorem Us(h:o.Perm o')(hn:(o.map Cl.id).Nodup)(hi:i<o.length)(hj:j<o.length)(e:tr o o' i=tr o o' j):i=j:=by rw[<-KZ h hn hi,e,KZ h hn hj]
theorem AaV{n:Nat}{π ρ:Nat->Nat}(f:Nat->Int)(h1:∀i,i<n->π i<n)(h2:∀i,i<n->ρ i<n)(h3:∀i,i<n->π (ρ i)=i)(h4:∀i,i<n->ρ (π i)=i):sm n (fun i=>f (π i))=sm n f:=by rw[Bk (g:=fun i=>sm n fun m=>if m=π i then f m else 0) fun i hi=>(ID n (π i) f (h1 i hi)).symm,J7];refine Bk fun m hm=>?_;rw[Gh n (ρ m) _ (h2 m hm) fun i hi hne=>if_neg fun e=>hne (by rw[e,h4 i hi]),if_pos (h3 m hm).symm]
theorem Mm{l:List Int}(h:Bl l<0)(i:Nat):l.getD i 0=0:=by
 rcases IZ l with ⟨k,hk,e,_⟩|⟨e,h1⟩
 ·omega
 ·by_cases hi:i<l.length
  ·rw[show l.getD i 0=l[i] by simp[List.getD,hi]];exact h1 i hi
  ·simp[List.getD,List.getElem?_eq_none (show l.length<=i by omega)]
def vO(o:List Cl)(S:List Ce)(V:Nat->List Int)(j i:Nat):Int:=(V (tr o (S.map Ce.c) j)).getD (tr o (S.map Ce.c) i) 0
noncomputable def QZ(o:List Cl)(S:List Ce)(R:Nat->List Int)(j:Nat):Option Nat:=if 0<=Bl (R (tr o (S.map Ce.c) j)) then some (tr (S.map Ce.c) o (Bl (R (tr o (S.map Ce.c) j))).toNat) else none
theorem Nd{S:List Ce}(h:i<S.length):(S.map Ce.c).getD i default=Do S i:=by rw[Gd h];simp[List.getD,h]
def dmo(o:List Cl)(i:Nat):Int:=(o.getD i default).dim
section
variable {p:Int} {F:List (Int×Int)} {l S:List Ce} {R V:Nat->List Int}
theorem PerH.lenS(H:PerH p F l S R V):S.length=(cn l).length:=by have:=H.P.perm.length_eq;simpa using this
theorem PerH.trS(H:PerH p F l S R V)(hi:i<S.length):tr (cn l) (S.map Ce.c) i<S.length/\Do S (tr (cn l) (S.map Ce.c) i)=(cn l).getD i default:=by
 have h1:=Mn H.P.perm.symm H.G.nd (i:=i) (by rw[<-H.lenS];exact hi);have h2:tr (cn l) (S.map Ce.c) i<S.length:=by rw[H.lenS];exact h1.1
 exact⟨h2,by rw[<-Nd h2];exact h1.2⟩
theorem PerH.bndS(H:PerH p F l S R V)(hj:j<S.length)(hi:i<S.length):Fq S.length (DM (cn l)) (vO (cn l) S V j) i=Fq S.length (EM S) (fun m=>(V (tr (cn l) (S.map Ce.c) j)).getD m 0) (tr (cn l) (S.map Ce.c) i):=by
 have hnS:((S.map Ce.c).map Cl.id).Nodup:=(H.P.perm.map Cl.id).nodup_iff.2 H.G.nd;unfold Fq;rw[<-AaV (π:=tr (cn l) (S.map Ce.c)) (ρ:=tr (S.map Ce.c) (cn l)) (fun m=>EM S (tr (cn l) (S.map Ce.c) i) m*(V (tr (cn l) (S.map Ce.c) j)).getD m 0) (fun k hk=>(H.trS hk).1) (fun k hk=>?_) (fun k hk=>?_) (fun k hk=>?_)]
 ·refine Bk fun k hk=>?_;show DM _ i k*(V _).getD _ 0=EM S _ _*_;congr 1;unfold DM EM;rw[(H.trS hk).2,(H.trS hi).2]
 ·have:=(Mn H.P.perm hnS (i:=k) (by simpa using hk)).1;simpa using this
 ·exact KZ H.P.perm hnS (by simpa using hk)
 ·exact KZ H.P.perm.symm H.G.nd (by rw[<-H.lenS];exact hk)
theorem PerH.lowS(H:PerH p F l S R V)(hj:j<S.length):QZ (cn l) S R j=some i<->i<S.length/\Bl (R (tr (cn l) (S.map Ce.c) j))=tr (cn l) (S.map Ce.c) i:=by
 have hnS:((S.map Ce.c).map Cl.id).Nodup:=(H.P.perm.map Cl.id).nodup_iff.2 H.G.nd;have C:=H.col _ (H.trS hj).1;unfold QZ;constructor
 ·intro h;split at h
  ·rename_i h0;cases h;have h1:=(GZ (R (tr (cn l) (S.map Ce.c) j))).2;rw[C.rl]at h1;have h2:(Bl (R (tr (cn l) (S.map Ce.c) j))).toNat<(S.map Ce.c).length:=by rw[length_map];omega
   have h3:=Mn H.P.perm hnS h2;have h4:=KZ H.P.perm hnS h2;refine⟨by simpa using h3.1,?_⟩;rw[h4,Int.toNat_of_nonneg h0]
  ·cases h
 ·rintro⟨hi,h⟩;rw[h,if_pos (by omega),Int.toNat_natCast,KZ H.P.perm.symm H.G.nd (by rw[<-H.lenS];exact hi)]
theorem PerH.rdc(H:PerH p F l S R V):Rdc p S.length (DM (cn l)) (dmo (cn l)) (tr (cn l) (S.map Ce.c)) (vO (cn l) S V) (QZ (cn l) S R):=by
 have hp:=H.hp.1;obtain⟨la,A⟩:=H.P.all;have e1:=H.lenS
 have hR:∀k,k<S.length->∀i,p∣(R k).getD i 0->(R k).getD i 0=0:=fun k hk i hd=>by have:=FQ (by omega) (A.red.rr k hk) i;exact(Cg.eq (cgz.2 hd) this ⟨by omega,by omega⟩)
 have hb:∀j i,j<S.length->i<S.length->(p∣Fq S.length (DM (cn l)) (vO (cn l) S V j) i<->(R (tr (cn l) (S.map Ce.c) j)).getD (tr (cn l) (S.map Ce.c) i) 0=0):=fun j i hj hi=>by have ht:=(H.trS hj).1;rw[H.bndS hj hi,<-((H.col _ ht).eq _ (H.trS hi).1).dvd_iff];exact⟨hR _ ht _,fun h=>by rw[h];exact Int.dvd_zero p⟩
 refine⟨H.hp.fld,fun i j hi hj=>?_,fun i j hi hj h=>?_,fun i j hi hj h=>?_,fun j hj=>?_,fun j i hj hi h=>?_,fun j hj h i hi=>?_,fun j i hj h=>?_,fun j j' i hj hj' h h'=>?_⟩
 ·rw[e1,DM2 H.G (by omega)];exact Int.dvd_zero p
 ·exact Aas H.G (by omega) (by omega) fun e=>h (by rw[e];exact Int.dvd_zero p)
 ·exact Us H.P.perm.symm H.G.nd (by omega) (by omega) h
 ·have C:=H.col _ (H.trS hj).1;refine⟨hj,fun h=>?_,fun i' hi' h=>?_⟩
  ·unfold vO at h;rw[C.one]at h;have:=Int.le_of_dvd (by omega) h;omega
  ·refine Nat.le_of_not_lt fun hlt=>h ?_;unfold vO;rw[C.aft _ hlt];exact Int.dvd_zero p
 ·have C:=H.col _ (H.trS hj).1;have:=C.vd _ (H.trS hi).1 fun e=>h (by unfold vO;rw[e];exact Int.dvd_zero p);rw[(H.trS hi).2,(H.trS hj).2]at this;exact this
 ·rw[hb j i hj hi];refine Mm ?_ _;unfold QZ at h;split at h
  ·cases h
  ·omega
 ·obtain⟨hi,e⟩:=(H.lowS hj).1 h;obtain⟨h1,h2,h3⟩:=ED e;refine⟨hi,fun hd=>h2 ((hb j i hj hi).1 hd),fun i' hi' hd=>Nat.le_of_not_lt fun hlt=>hd ((hb j i' hj hi').2 (h3 _ hlt))⟩
 ·obtain⟨hi,e⟩:=(H.lowS hj).1 h;obtain⟨_,e'⟩:=(H.lowS hj').1 h';have a1:=A.red.a1 _ (H.trS hj).1 (by omega);have a2:=A.red.a1 _ (H.trS hj').1 (by omega);rw[e']at a2;rw[e]at a1;exact Us H.P.perm.symm H.G.nd (by omega) (by omega) (by omega)
end
end Go.Proofs.Q
namespace Go.Proofs.Q
open Go.Eng Go.RowKit Go.Lin Go.Kuhn
variable {m j:Nat}
theorem Kx{α β:Type}{l:List α}{g:α->β}(h:l.Nodup)(hi:∀a∈l,∀b∈l,g a=g b->a=b):(l.map g).Nodup:=
 List.pairwise_map.2 (h.imp_of_mem fun {a b} ha hb hne e=>hne (hi a ha b hb e))
def fo(F:List (Int×Int))(o:List Cl)(i:Nat):Int:=Dz (BD F) (o.getD i default).id
section
variable {p:Int} {F:List (Int×Int)} {l S:List Ce} {R V:Nat->List Int}
theorem PerH.uniq(H:PerH p F l S R V){j':Nat}(hj:j<S.length)(hj':j'<S.length)(h0:0<=Bl (R j))(e:Bl (R j)=Bl (R j')):j=j':=by obtain⟨la,A⟩:=H.P.all;have a1:=A.red.a1 j hj h0;have a2:=A.red.a1 j' hj' (by omega);rw[e]at a1;omega
theorem PerH.end_some(H:PerH p F l S R V){x:Int}(h:Bi (Da (Fl S R) (Fl S R).length) (m:Int)=some x):∃j,j<S.length/\x=j/\Bl (R j)=m:=by obtain⟨j,h1,h2,h3,_⟩:=Gr h;rw[K8]at h1;rw[Lv S R h1]at h3;exact⟨j,h1,h2,h3⟩
theorem PerH.end_get(H:PerH p F l S R V)(hj:j<S.length)(e:Bl (R j)=m):Bi (Da (Fl S R) (Fl S R).length) (m:Int)=some (j:Int):=by
 cases h:Bi (Da (Fl S R) (Fl S R).length) (m:Int) with
 | none=>exact absurd (by rw[Lv S R hj];exact e) (HV h j (by rw[K8];exact hj) (by omega))
 | some x=>
  obtain⟨j',h1,rfl,h3⟩:=H.end_some h;rw[H.uniq h1 hj (by omega) (by rw[e,h3])]
theorem PerH.inv(H:PerH p F l S R V)(hm:m<S.length):tr (S.map Ce.c) (cn l) m<S.length/\(cn l).getD (tr (S.map Ce.c) (cn l) m) default=(S.getD m default).c/\tr (cn l) (S.map Ce.c) (tr (S.map Ce.c) (cn l) m)=m:=by
 have hnS:((S.map Ce.c).map Cl.id).Nodup:=(H.P.perm.map Cl.id).nodup_iff.2 H.G.nd;have hm':m<(S.map Ce.c).length:=by simpa using hm
 obtain⟨h1,h2⟩:=Mn H.P.perm hnS hm';refine⟨by simpa using h1,?_,KZ H.P.perm hnS hm'⟩;rw[h2,Nd hm];rfl
theorem PerH.pair(H:PerH p F l S R V)(hm:m<S.length)(hj:j<S.length)(e:Bl (R j)=m):QZ (cn l) S R (tr (S.map Ce.c) (cn l) j)=some (tr (S.map Ce.c) (cn l) m):=by rw[H.lowS (H.inv hj).1];exact⟨(H.inv hm).1,by rw[(H.inv hj).2.2,(H.inv hm).2.2];exact e⟩
end
end Go.Proofs.Q
namespace Go.Proofs.Q
open Go.Eng Go.RowKit Go.Lin
variable {t d:Int} {n i j m:Nat} {b:Nat->Bool}
def TH(f:Int->Int)(S:List Ce)(L:List Int)(d t:Int)(m:Nat):Bool:=match Bi (Da L L.length) (m:Int) with
 | some j=>decide (f (Do S m).id<f (Do S j.toNat).id/\(Do S m).dim=d/\f (Do S m).id<=t/\t<f (Do S j.toNat).id)
 | none=>decide (L.getD m 0<0/\(Do S m).dim=d/\f (Do S m).id<=t)
theorem X8(f:Int->Int)(S:List Ce)(L:List Int)(d t:Int)(m:Nat):((Kb f S L m).filter (Br.at d t)).length=if TH f S L d t m then 1 else 0:=by
 unfold Kb TH;cases Bi (Da L L.length) (m:Int) with
 | none=>
  show((if L.getD m 0<0 then [⟨(Do S m).dim,f (Do S m).id,0,true,(Do S m).id,0⟩] else []:List Br).filter (Br.at d t)).length=_;generalize Do S m=x;generalize L.getD m 0=z;by_cases h1:z<0<;>by_cases h2:x.dim=d<;>by_cases h3:f x.id<=t<;>simp[h1,h2,h3,Br.at]
 | some j=>
  show((if f (Do S m).id<f (Do S j.toNat).id then [⟨(Do S m).dim,f (Do S m).id,f (Do S j.toNat).id,false,(Do S m).id,(Do S j.toNat).id⟩] else []:List Br).filter (Br.at d t)).length=if decide (f (Do S m).id<f (Do S j.toNat).id/\(Do S m).dim=d/\f (Do S m).id<=t/\t<f (Do S j.toNat).id)=true then 1 else 0
  generalize Do S m=x;generalize Do S j.toNat=y;by_cases h1:f x.id<f y.id<;>by_cases h2:x.dim=d<;>by_cases h3:f x.id<=t<;>by_cases h4:t<f y.id<;>simp[h1,h2,h3,h4,Br.at]
theorem Ou(f:Int->Int)(S:List Ce)(L:List Int)(d t:Int):∀n,((Fp f S L n).filter (Br.at d t)).length=GR n (TH f S L d t)
 | 0=>rfl
 | n+1=>by rw[Eg,filter_append,length_append,Ou f S L d t n,X8,F6]
theorem ZX{a c e:Nat->Bool}(h:∀i,i<n->(if a i then 1 else 0)=(if b i then 1 else 0)+(if c i then 1 else 0)+(if e i then 1 else 0:Nat)):GR n a=GR n b+GR n c+GR n e:=by
 induction n with
 | zero=>rfl
 | succ n ih=>
  have:=h n (by omega);rw[F6,F6,F6,F6,ih fun i hi=>h i (by omega)];omega
theorem Rw(h:∀l,l<n->b l=false):GR n b=0:=by unfold GR F2;rw[List.length_eq_zero_iff,List.filter_eq_nil_iff];intro a ha;rw[h a (List.mem_range.1 ha)];simp
theorem OI{L:List Nat}(hn:L.Nodup)(h:∀l,l∈L<->l<n/\b l=true):GR n b=L.length:=by unfold GR F2;refine((List.perm_ext_iff_of_nodup (List.Pairwise.filter _ List.nodup_range) hn).2 fun a=>?_).length_eq;rw[mem_filter,List.mem_range,h]
section
variable {p:Int} {F:List (Int×Int)} {l S:List Ce} {R V:Nat->List Int}
def fs(F:List (Int×Int))(S:List Ce)(i:Nat):Int:=Dz (BD F) (Do S i).id
def PF(F:List (Int×Int))(S:List Ce)(d t:Int)(i:Nat):Bool:=decide ((Do S i).dim=d/\fs F S i<=t)
noncomputable def TY(R:Nat->List Int)(i:Nat):Bool:=decide (0<=Bl (R i))
theorem inA_iff:PF F S d t i=true<->(Do S i).dim=d/\fs F S i<=t:=decide_eq_true_iff
theorem nzA_iff:TY R i=true<->0<=Bl (R i):=decide_eq_true_iff
theorem PerH.fmono(H:PerH p F l S R V)(hij:i<=j)(hj:j<S.length):fs F S i<=fs F S j:=by
 rcases Nat.lt_or_eq_of_le hij with h|h
 ·have:=List.pairwise_iff_getElem.1 H.P.srt i j (by omega) hj h;unfold fs;rw[Gd hj,Gd (by omega:i<S.length)];omega
 ·rw[h];exact Int.le_refl _
theorem PerH.low_lt(H:PerH p F l S R V)(hj:j<S.length)(e:Bl (R j)=m):m<j/\(Do S j).dim=(Do S m).dim+1:=by
 have C:=H.col j hj;obtain⟨la,A⟩:=H.P.all;obtain⟨h1,h2,h3⟩:=ED e;rw[C.rl]at h1;have hp:=H.hp.1;refine⟨?_,C.rd m h1 h2⟩;have hn:¬p∣Fq S.length (EM S) (fun k=>(V j).getD k 0) m:=fun hd=>h2 (Cg.eq ((C.eq m h1).trans (cgz.2 hd)) (FQ (by omega) (A.red.rr j hj) m) ⟨by omega,by omega⟩);obtain⟨k,hk,h4⟩:=Za hn;have h5:EM S m k≠0:=fun e=>h4 (by rw[e,Int.zero_mul];exact Int.dvd_zero p);have h6:(V j).getD k 0≠0:=fun e=>h4 (by show p∣_*(V j).getD k 0;rw[e,Int.mul_zero];exact Int.dvd_zero p);obtain⟨s,hs,e1⟩:=Na h5;obtain⟨m',h7,h8,_⟩:=H.before hk hs;have:m'=m:=H.inj (by omega) h1 (by rw[h8,e1]);subst this;rcases (by omega:k<=j\/j<k) with h9|h9
 ·omega
 ·exact absurd (C.aft k h9) h6
theorem PerH.low_none(H:PerH p F l S R V)(hj:j<S.length)(e:Bl (R j)=m):Bl (R m)<0:=by
 have hm:m<S.length:=by have:=(H.low_lt hj e).1;omega
 have h1:=H.pair hm hj e;have Q:=H.rdc;have h2:=Q.cyc (fun i hi=>Q.bb _ hi) (Q.lsome _ _ (H.inv hj).1 h1);unfold QZ at h2;rw[(H.inv hm).2.2]at h2;split at h2
 ·cases h2
 ·omega
noncomputable def Z2(F:List (Int×Int))(S:List Ce)(R:Nat->List Int)(d t:Int)(m:Nat):Bool:=@decide (PF F S d t m=true/\∃j,j<S.length/\fs F S j<=t/\Bl (R j)=m) (Classical.propDecidable _)
theorem enA_iff:Z2 F S R d t m=true<->PF F S d t m=true/\∃j,j<S.length/\fs F S j<=t/\Bl (R j)=m:=by unfold Z2;exact @decide_eq_true_iff _ (Classical.propDecidable _)
theorem PerH.ends(H:PerH p F l S R V)(d t:Int):GR S.length (Z2 F S R d t)=GR S.length fun j=>PF F S (d+1) t j&&TY R j:=by
 have hP:∀{j},j∈F2 S.length (fun j=>PF F S (d+1) t j&&TY R j)<->j<S.length/\(Do S j).dim=d+1/\fs F S j<=t/\0<=Bl (R j):=fun {j}=>by unfold F2;rw[mem_filter,List.mem_range,Bool.and_eq_true,inA_iff,nzA_iff];exact⟨fun⟨a,⟨b,c⟩,e⟩=>⟨a,b,c,e⟩,fun⟨a,b,c,e⟩=>⟨a,⟨b,c⟩,e⟩⟩
 rw[OI (L:=(F2 S.length fun j=>PF F S (d+1) t j&&TY R j).map fun j=>(Bl (R j)).toNat),length_map]
 ·rfl
 ·refine Kx (List.Pairwise.filter _ List.nodup_range) fun a ha b hb e=>?_;obtain⟨a1,_,_,a2⟩:=hP.1 ha;obtain⟨b1,_,_,b2⟩:=hP.1 hb;exact H.uniq a1 b1 a2 (by omega)
 ·intro m;rw[enA_iff,inA_iff];constructor
  ·intro h;obtain⟨j,hj,rfl⟩:=List.mem_map.1 h;obtain⟨a1,a2,a3,a4⟩:=hP.1 hj;have e:Bl (R j)=((Bl (R j)).toNat:Int):=by omega
   obtain⟨h1,h2⟩:=H.low_lt a1 e;have h3:=H.fmono (Nat.le_of_lt h1) a1;exact⟨by omega,⟨by omega,by omega⟩,j,a1,a3,e⟩
  ·rintro⟨hm,⟨h1,h2⟩,j,h3,h4,h5⟩;obtain⟨h6,h7⟩:=H.low_lt h3 h5;exact List.mem_map.2 ⟨j,hP.2 ⟨h3,by omega,h4,by omega⟩,by rw[h5];omega⟩
theorem PerH.bars(H:PerH p F l S R V)(d t:Int):GR S.length (PF F S d t)=((Fp (Dz (BD F)) S (Fl S R) S.length).filter (Br.at d t)).length+(GR S.length fun j=>PF F S d t j&&TY R j)+GR S.length fun j=>PF F S (d+1) t j&&TY R j:=by
 rw[Ou,<-H.ends];refine ZX fun m hm=>?_
 have hb:TH (Dz (BD F)) S (Fl S R) d t m=true<->PF F S d t m=true/\¬TY R m=true/\¬Z2 F S R d t m=true:=by
  rw[enA_iff,nzA_iff,inA_iff];unfold TH;cases hg:Bi (Da (Fl S R) (Fl S R).length) (m:Int) with
  | none=>
   simp only[];rw[decide_eq_true_iff,Lv S R hm];constructor
   ·rintro⟨h1,h2,h3⟩;refine⟨⟨h2,h3⟩,by omega,?_⟩;rintro⟨_,j,h4,_,h5⟩;have:=H.end_get h4 h5;rw[hg]at this;cases this
   ·rintro⟨⟨h1,h2⟩,h3,_⟩;exact⟨by omega,h1,h2⟩
  | some x=>
   obtain⟨j,hj,rfl,e⟩:=H.end_some hg;have h0:=H.low_none hj e;simp only[Int.toNat_natCast];rw[decide_eq_true_iff];constructor
   ·rintro⟨h1,h2,h3,h4⟩;refine⟨⟨h2,h3⟩,by omega,?_⟩;rintro⟨_,j',h5,h6,h7⟩;have:=H.uniq hj h5 (by omega) (by rw[e,h7]);subst this;have h6:Dz (BD F) (Do S j).id<=t:=h6;omega
   ·rintro⟨⟨h1,h2⟩,_,h3⟩;have h4:t<Dz (BD F) (Do S j).id:=Int.lt_of_not_ge fun h5=>h3 ⟨⟨h1,h2⟩,j,hj,h5,e⟩;have h2:Dz (BD F) (Do S m).id<=t:=h2;exact⟨by omega,h1,h2,h4⟩
 have hx:Z2 F S R d t m=true->¬TY R m=true:=by rw[enA_iff,nzA_iff];rintro⟨_,j,h1,_,h2⟩;have:=H.low_none h1 h2;omega
 have hE:Z2 F S R d t m=true->PF F S d t m=true:=fun h=>(enA_iff.1 h).1;revert hb hx hE;cases TH (Dz (BD F)) S (Fl S R) d t m<;>cases PF F S d t m<;>cases TY R m<;>cases Z2 F S R d t m<;>simp
def TZ(S:List Ce)(c:Int):Nat:=Pr (S.map Ce.c) c
theorem PerH.pl(H:PerH p F l S R V){y:Cl}(hy:y∈cn l):TZ S y.id<S.length/\Do S (TZ S y.id)=y:=by
 have hn:((S.map Ce.c).map Cl.id).Nodup:=by have:=H.nd;rw[map_map];exact this
 obtain⟨h1,h2⟩:=Hr (H.P.perm.mem_iff.2 hy) hn;have h1:Pr (S.map Ce.c) y.id<S.length:=by simpa using h1
 exact⟨h1,by show Do S (Pr (S.map Ce.c) y.id)=y;rw[<-Nd h1];exact h2⟩
theorem mem_sub{F:List (Int×Int)}{o:List Cl}{y:Cl}:y∈ER F t o<->y∈o/\Dz (BD F) y.id<=t:=by unfold ER;rw[mem_filter,decide_eq_true_iff]
theorem PerH.ids(H:PerH p F l S R V){c:Int}:c∈BC (ER F t (cn l)) d<->∃y,y∈cn l/\Dz (BD F) y.id<=t/\y.dim=d/\y.id=c:=by
 unfold BC;rw[mem_map];constructor
 ·rintro⟨y,hy,e⟩;obtain⟨h1,h2⟩:=List.mem_filter.1 hy;obtain⟨h3,h4⟩:=mem_sub.1 h1;exact⟨y,h3,h4,of_decide_eq_true h2,e⟩
 ·rintro⟨y,h1,h2,h3,e⟩;exact⟨y,List.mem_filter.2 ⟨mem_sub.2 ⟨h1,h2⟩,decide_eq_true h3⟩,e⟩
theorem PerH.idsN(H:PerH p F l S R V)(d t:Int):(BC (ER F t (cn l)) d).Nodup:=by unfold BC;exact H.G.nd.sublist ((List.filter_sublist.trans List.filter_sublist).map _)
theorem PerH.nIds(H:PerH p F l S R V)(d t:Int):(BC (ER F t (cn l)) d).length=GR S.length (PF F S d t):=by
 rw[OI (L:=(BC (ER F t (cn l)) d).map (TZ S)),length_map]
 ·refine Kx (H.idsN d t) fun a ha b hb e=>?_;obtain⟨y,h1,_,_,rfl⟩:=H.ids.1 ha;obtain⟨z,h2,_,_,rfl⟩:=H.ids.1 hb;have:=(H.pl h1).2;rw[e,(H.pl h2).2]at this;rw[this]
 ·intro m;rw[inA_iff,mem_map];constructor
  ·rintro⟨c,hc,rfl⟩;obtain⟨y,h1,h2,h3,rfl⟩:=H.ids.1 hc;obtain⟨h4,h5⟩:=H.pl h1;exact⟨h4,by rw[h5];exact h3,by unfold fs;rw[h5];exact h2⟩
  ·rintro⟨hm,h1,h2⟩;refine⟨(Do S m).id,H.ids.2 ⟨_,H.mem hm,h2,h1,rfl⟩,?_⟩;obtain⟨h4,h5⟩:=H.pl (H.mem hm);exact H.inj h4 hm (by rw[h5])
theorem PerH.rank(H:PerH p F l S R V)(d t:Int){ρ:Nat}(hr:RkO p (ER F t (cn l)) d ρ):ρ=GR S.length fun j=>PF F S d t j&&TY R j:=by
 obtain⟨E,pv,hE,rfl⟩:=hr;obtain⟨la,A⟩:=H.P.all;have hp:=H.hp.1;obtain⟨sb,hsb⟩:∃sb,ER F t (cn l)=sb:=⟨_,rfl⟩
 have hids:∀{d c},c∈BC sb d<->∃y,y∈cn l/\Dz (BD F) y.id<=t/\y.dim=d/\y.id=c:=fun {d c}=>by rw[<-hsb];exact H.ids
 have hcel:∀{y},y∈cn l->Dz (BD F) y.id<=t->Gg sb y.id=y:=fun {y} hy h=>by
  refine CP ?_ ?_
  ·rw[<-hsb];exact H.G.nd.sublist (List.filter_sublist.map _)
  ·rw[<-hsb];exact mem_sub.2 ⟨hy,h⟩
 rw[hsb]at hE
 have hgc:∀k,k<(BC sb d).length->∃y,y∈cn l/\Dz (BD F) y.id<=t/\y.dim=d/\y.id=(BC sb d).getD k 0:=fun k hk=>by refine hids.1 ?_;rw[show(BC sb d).getD k 0=(BC sb d)[k] by simp[List.getD,hk]];exact getElem_mem hk
 have hgr:∀k,k<(BC sb (d-1)).length->∃y,y∈cn l/\Dz (BD F) y.id<=t/\y.dim=d-1/\y.id=(BC sb (d-1)).getD k 0:=fun k hk=>by refine hids.1 ?_;rw[show(BC sb (d-1)).getD k 0=(BC sb (d-1))[k] by simp[List.getD,hk]];exact getElem_mem hk
 refine TC (N:=S.length) (D:=EM S) (q:=fun k=>TZ S ((BC sb d).getD k 0)) (ρ:=fun i=>TZ S ((BC sb (d-1)).getD i 0)) (b:=PF F S d t) H.hp.fld hE.red (fun k hk=>?_) (fun k hk=>?_) (fun i hi k hk=>?_) (fun x hx k hk hno=>?_) (fun j hj=>?_) (fun j i=>(R j).getD i 0) (fun j i=>(V j).getD i 0) (fun j hj hb i hi=>?_) (fun j hj hb=>?_) (fun j m hj hb hm=>?_) (fun j m hj hm hb hv=>?_) (TY R) (fun j=>(Bl (R j)).toNat) (fun j hj hb hn i hi=>?_) (fun j hj hb hn=>?_) (fun j k hj hk hb hb' hn hn' e=>?_)
 ·obtain⟨y,h1,_,_,e⟩:=hgc k hk;rw[<-e];exact(H.pl h1).1
 ·obtain⟨y,h1,_,_,e⟩:=hgr k hk;rw[<-e];exact(H.pl h1).1
 ·obtain⟨y,h1,h2,_,e⟩:=hgc k hk;obtain⟨z,h3,h4,_,e'⟩:=hgr i hi;refine(Cg.mod p _).trans (Cg.of_eq ?_);show Ie sb d i k=EM S (TZ S ((BC sb (d-1)).getD i 0)) (TZ S ((BC sb d).getD k 0));unfold Ie EM;rw[<-e,<-e',hcel h1 h2,(H.pl h1).2,(H.pl h3).2]
 ·obtain⟨y,h1,h2,h3,e⟩:=hgc k hk;refine Cg.of_eq (Classical.byContradiction fun hne=>?_);have hne:sgn (Do S (TZ S ((BC sb d).getD k 0))).sd (Do S x).id≠0:=hne;rw[<-e,(H.pl h1).2]at hne;obtain⟨s,hs,es⟩:=Na hne;obtain⟨z,hz,ez,dz⟩:=H.G.sid y h1 s hs;have hm:=H.mon y h1 s hs;have hmem:z.id∈BC sb (d-1):=hids.2 ⟨z,hz,by rw[ez];omega,by omega,rfl⟩;obtain⟨i,hi,ei⟩:=getElem_of_mem hmem;refine hno i hi ?_;show TZ S ((BC sb (d-1)).getD i 0)=x;rw[show(BC sb (d-1)).getD i 0=(BC sb (d-1))[i] by simp[List.getD,hi],ei];exact H.inj (H.pl hz).1 hx (by rw[(H.pl hz).2,ez,es])
 ·rw[inA_iff];constructor
  ·rintro⟨h1,h2⟩;have hmem:(Do S j).id∈BC sb d:=hids.2 ⟨_,H.mem hj,h2,h1,rfl⟩;obtain⟨k,hk,ek⟩:=getElem_of_mem hmem;refine⟨k,hk,?_⟩;show TZ S ((BC sb d).getD k 0)=j;rw[show(BC sb d).getD k 0=(BC sb d)[k] by simp[List.getD,hk],ek];exact H.inj (H.pl (H.mem hj)).1 hj (by rw[(H.pl (H.mem hj)).2])
  ·rintro⟨k,hk,rfl⟩;obtain⟨y,h1,h2,h3,e⟩:=hgc k hk;show(Do S (TZ S ((BC sb d).getD k 0))).dim=d/\fs F S (TZ S ((BC sb d).getD k 0))<=t;unfold fs;rw[<-e,(H.pl h1).2];exact⟨h3,h2⟩
 ·refine((H.col j hj).eq i hi).trans (Cg.of_eq ?_);unfold Fq;exact Bk fun k _=>Int.mul_comm _ _
 ·exact(H.col j hj).one
 ·exact(H.col j hj).aft m hm
 ·have C:=H.col j hj;have h1:=C.vd m hm hv;have h2:m<=j:=Nat.le_of_not_lt fun h=>hv (C.aft m h);have h3:=H.fmono h2 hj;rw[inA_iff]at hb ⊢;exact⟨by omega,by omega⟩
 ·have hn:¬0<=Bl (R j):=of_decide_eq_false hn;show Cg p ((R j).getD i 0) 0;rw[Mm (by omega) i];exact Cg.refl p 0
 ·have hn:=nzA_iff.1 hn;have e:Bl (R j)=((Bl (R j)).toNat:Int):=by omega
  obtain⟨h1,h2,h3⟩:=ED e;rw[(H.col j hj).rl]at h1;refine⟨h1,fun hd=>h2 ?_,fun i hi _=>?_⟩
  ·exact Cg.eq (cgz.2 hd) (FQ (by omega) (A.red.rr j hj) _) ⟨by omega,by omega⟩
  ·show p∣(R j).getD i 0;rw[h3 i hi];exact Int.dvd_zero p
 ·have hn:=nzA_iff.1 hn;have hn':=nzA_iff.1 hn';have e:(Bl (R j)).toNat=(Bl (R k)).toNat:=e;exact H.uniq hj hk hn (by omega)
theorem PerH.betti(H:PerH p F l S R V)(t D:Int)(rk:Nat->Nat)(hD:K2 (ER F t (cn l)) D)(h0:rk 0=0)(hrk:∀n:Nat,n<(D+1).toNat->RkO p (ER F t (cn l)) (n+1) (rk (n+1)))(d:Nat) :
  (((Fp (Dz (BD F)) S (Fl S R) S.length).filter (Br.at d t)).length:Int)=if d<(D+1).toNat then(Mv (ER F t (cn l)) rk (D+1).toNat).getD d 0 else 0:=by
 have h1:=H.bars d t;split
 ·rename_i hd
  have h2:(Mv (ER F t (cn l)) rk (D+1).toNat).getD d 0=((BC (ER F t (cn l)) d).length:Int)-rk d-rk (d+1):=by unfold Mv;simp[List.getD,hd]
  have h3:=H.rank _ _ (hrk d hd)
  have h4:rk d=GR S.length fun j=>PF F S d t j&&TY R j:=by
   cases d with
   | zero=>
    rw[h0,Rw];intro j hj;refine Bool.eq_false_iff.2 fun h=>?_;rw[Bool.and_eq_true,inA_iff,nzA_iff]at h;have e:Bl (R j)=((Bl (R j)).toNat:Int):=by omega
    obtain⟨h5,h6⟩:=H.low_lt hj e;have:=H.G.dim _ (H.mem (i:=(Bl (R j)).toNat) (by omega));have:=h.1.1;omega
   | succ d=>
    exact H.rank _ _ (hrk d (by omega))
  rw[h2,h4,h3,H.nIds,h1];omega
 ·rename_i hd
  have h2:GR S.length (PF F S d t)=0:=Rw fun j hj=>by refine Bool.eq_false_iff.2 fun h=>?_;obtain⟨h3,h4⟩:=inA_iff.1 h;have h5:=hD.2.1 _ (mem_sub.2 ⟨H.mem hj,h4⟩);have:=hD.1;omega
  omega
end
end Go.Proofs.Q
namespace Go.Proofs.Q
open Go.Eng Go.RowKit Go.Lin Go.Kuhn
structure YI(o:List Cl)(F:List (Int×Int)):Prop where
 fst:F.map Prod.fst=o.map Cl.id
 bd:∀q∈F,-2000000000<=q.2/\q.2<=2000000000
 at_:∀i,i<o.length->fo F o i=(F.getD i (0,0)).2
 chk:Cy o F=(0,0)
 bI:∀c,-2000000000<=Dz (BD F) c/\Dz (BD F) c<=2000000000
 mon:∀x∈o,∀s∈x.sd,Dz (BD F) s.1<=Dz (BD F) x.id
theorem Uu{o:List Cl}(G:Rgt o)(w:Int->Int)(hb:∀y∈o,-2000000000<=w y.id/\w y.id<=2000000000)(hm:∀x∈o,∀s∈x.sd,w s.1<=w x.id):YI o (o.map fun x=>(x.id,w x.id)):=by
 obtain⟨F,hF⟩:∃F,(o.map fun x=>(x.id,w x.id))=F:=⟨_,rfl⟩
 have e0:F=o.map fun x=>(x.id,w x.id):=hF.symm;have e1:F.map Prod.fst=o.map Cl.id:=by rw[e0,map_map];rfl
 have hnd:(F.map Prod.fst).Nodup:=by rw[e1];exact G.nd
 have hat:∀x∈o,Dz (BD F) x.id=w x.id:=fun x hx=>Lb hnd (by rw[e0];exact List.mem_map.2 ⟨x,hx,rfl⟩)
 have hmon:∀x∈o,∀s∈x.sd,Dz (BD F) s.1<=Dz (BD F) x.id:=fun x hx s hs=>by obtain⟨y,hy,e,_⟩:=G.sid x hx s hs;rw[hat x hx,<-e,hat y hy,e];exact hm x hx s hs
 rw[hF];refine⟨e1,fun q hq=>?_,fun i hi=>?_,MX (fun j hj=>?_) (fun j hj=>?_) (fun j hj=>?_),fun c=>?_,hmon⟩
 ·rw[e0]at hq;obtain⟨x,hx,rfl⟩:=List.mem_map.1 hq;exact hb x hx
 ·have h1:o.getD i default=o[i]:=by simp[List.getD,hi]
  unfold fo;rw[h1,hat _ (getElem_mem hi),e0];simp[List.getD,hi]
 ·have hjo:j<o.length:=by rw[e0,length_map]at hj;exact hj
  have h1:(F.getD j (0,0)).1=o[j].id:=by rw[e0];simp[List.getD,hjo]
  unfold fA;rw[h1,Dk G.nd (getElem_mem hjo),if_neg (by simp),if_neg fun h=>?_];obtain⟨q,hq,e⟩:=List.mem_map.1 h;obtain⟨i,hi,rfl⟩:=getElem_of_mem hq;rw[length_take]at hi;have hp:=List.pairwise_iff_getElem.1 G.nd i j (by simp;omega) (by simpa using hjo) (by omega);rw[getElem_map,getElem_map]at hp;refine hp ?_;rw[List.getElem_take]at e;rw[<-e];simp only[e0,getElem_map]
 ·unfold fB;rw[if_neg];intro h;refine h ?_;rw[e1];exact List.mem_map.2 ⟨_,DV hj,rfl⟩
 ·unfold fC;rw[if_neg];rintro⟨s,hs,h⟩;have:=hmon _ (DV hj) s hs;unfold Dz at this;unfold Fv at h;omega
 ·unfold Dz;cases h:Bi (BD F) c with
  | none=>simp
  | some x=>
   have hc:c∈(BD F).map Prod.fst:=Classical.byContradiction fun hn=>by rw[CZ hn]at h;cases h
   rw[Mq,e1]at hc;obtain⟨y,hy,rfl⟩:=List.mem_map.1 hc;have:=hat y hy;unfold Dz at this;rw[h]at this;rw[this];exact hb y hy
end Go.Proofs.Q

namespace Go.Proofs.Q
open Go.Eng Go.RowKit
theorem G9(f:Int×Int×Int->Int)(g:Int×Int×Int->Int)(κ:Int):∀T:FV,(∀e∈T,f e=κ*g e)->(T.map f).sum=κ*(T.map g).sum
 | [],_=>by simp
 | e::T,h=>by rw[map_cons,map_cons,sum_cons,sum_cons,h e Mh,G9 f g κ T fun e he=>h e (mem_cons_of_mem _ he),Int.mul_add]
theorem GoodT.ren{T:FV}{s s':List (Int×Int)}(G:GoodT T s)(φ κ:Int->Int)(hφ:∀e∈T,∀e'∈T,φ e.2.1=φ e'.2.1->e.2.1=e'.2.1)(hs:∀a∈s',∃b∈s,a.1=φ b.1):GoodT (T.map fun e=>(φ e.1,φ e.2.1,κ e.2.1*e.2.2)) s' where
 sum:=fun e' he'=>by
  obtain⟨e,he,rfl⟩:=List.mem_map.1 he';have h1:=G.sum e he;unfold D1 at *;rw[map_map,G9 _ (fun e'=>if e'.2.1=e.2.1 then e'.2.2 else 0) (κ e.2.1) T fun e' he'=>?_,h1,Int.mul_zero];show(if φ e'.2.1=φ e.2.1 then κ e'.2.1*e'.2.2 else 0)=_;by_cases h:e'.2.1=e.2.1
  ·rw[if_pos h,h,if_pos rfl]
  ·rw[if_neg h,if_neg fun q=>h (hφ _ he' _ he q),Int.mul_zero]
 two:=fun e' he'=>by
  obtain⟨e,he,rfl⟩:=List.mem_map.1 he';have h1:=G.two e he;unfold Fi at *;rw[map_map,G9 _ (fun e'=>if e'.2.1=e.2.1 then 1 else 0) 1 T fun e' he'=>?_,h1]
  ·rfl
  show(if φ e'.2.1=φ e.2.1 then(1:Int) else 0)=_;by_cases h:e'.2.1=e.2.1
  ·rw[if_pos h,h,if_pos rfl];rfl
  ·rw[if_neg h,if_neg fun q=>h (hφ _ he' _ he q)];rfl
 con:=fun a ha b hb=>by
  obtain⟨a',ha',ea⟩:=hs a ha;obtain⟨b',hb',eb⟩:=hs b hb;rw[ea,eb];have h:=G.con a' ha' b' hb';generalize a'.1=x at *;generalize b'.1=y at *;clear ea eb
  induction h with
  | refl=>exact .refl _
  | step _ h1 h2 ih=>exact .step ih (List.mem_map.2 ⟨_,h1,rfl⟩) (List.mem_map.2 ⟨_,h2,rfl⟩)
variable {n k b m j:Nat} {all:List (List Int)} {S l t s:List Int} {f:Nat->Int}
abbrev Z4(l:List Int):Prop:=l.Pairwise (· < ·)
theorem Ni{x:Int}(h:t.Sublist (l++[x])):t.Sublist l\/∃t',t=t'++[x]/\t'.Sublist l:=by
 obtain⟨t1,t2,e,h1,h2⟩:=List.sublist_append_iff.1 h
 have h3:t2=[]\/t2=[x]:=by
  cases h2 with
  | cons _ h=>exact .inl (List.sublist_nil.1 h)
  | cons_cons _ h=>exact .inr (by rw[List.sublist_nil.1 h])
 rcases h3 with rfl|rfl
 ·left;rw[e,append_nil];exact h1
 ·exact .inr ⟨t1,e,h1⟩
theorem OM(s:List Int)(b:Nat):∀n,n<=s.length->(Ei s b n).Sublist (s.take n)
 | 0,_=>by simp[Ei]
 | n+1,h=>by
  rw[Hz,take_succ_eq_append_getElem (by omega)];refine(OM s b n (by omega)).append ?_;split
  ·simp[List.getD,show n<s.length by omega]
  ·simp
theorem Si{b':Nat}(h:∀k,k<n->b.testBit k=b'.testBit k):Ei s b n=Ei s b' n:=by unfold Ei;congr 1;exact List.filter_congr fun k hk=>h k (List.mem_range.1 hk)
theorem KO(s:List Int):∀n,n<=s.length->∀t:List Int,t.Sublist (s.take n)->∃b,b<2^n/\t=Ei s b n
 | 0,_,t,ht=>⟨0,by simp,by simpa[Ei] using ht⟩
 | n+1,h,t,ht=>by
  rw[take_succ_eq_append_getElem (by omega)]at ht;have h2:2^(n+1)=2^n+2^n:=by rw[Nat.pow_succ];omega
  rcases Ni ht with h1|⟨t',rfl,h1⟩
  ·obtain⟨b,hb,e⟩:=KO s n (by omega) t h1;refine⟨b,by omega,?_⟩;rw[Hz,Nat.testBit_lt_two_pow hb,e];simp
  ·obtain⟨b,hb,e⟩:=KO s n (by omega) t' h1;refine⟨2^n+b,by omega,?_⟩;rw[Hz,Nat.testBit_two_pow_add_eq,Nat.testBit_lt_two_pow hb,e];rw[Si (b:=2^n+b) (b':=b) fun k hk=>Nat.testBit_two_pow_add_gt hk b];simp[List.getD,show n<s.length by omega]
theorem Tq(s:List Int)(n:Nat):Ei s 0 n=[]:=by simp[Ei]
theorem PN(H:SrtB all):t∈CN all s (2^s.length-1)<->t∈all\/(t≠[]/\t.Sublist s)\/(t=[]/\∃b,1<=b/\b<=2^s.length-1/\Ei s b s.length=[]):=by
 rw[H7 H];constructor
 ·rintro(h|⟨b,h1,h2,rfl⟩)
  ·exact .inl h
  ·by_cases h3:Ei s b s.length=[]
   ·exact .inr (.inr ⟨h3,b,h1,h2,h3⟩)
   ·refine .inr (.inl ⟨h3,?_⟩);have:=OM s b s.length (Nat.le_refl _)
    rwa [take_length]at this
 ·rintro(h|⟨h1,h2⟩|⟨rfl,b,h1,h2,h3⟩)
  ·exact .inl h
  ·obtain⟨b,hb,e⟩:=KO s s.length (Nat.le_refl _) t (by rw[take_length];exact h2);refine .inr ⟨b,?_,by omega,e⟩;rcases Nat.eq_zero_or_pos b with rfl|h
   ·rw[Tq]at e;exact absurd e h1
   ·exact h
  ·exact .inr ⟨b,h1,h2,h3.symm⟩
theorem Y3(h1:1<=b)(h2:b<2^s.length):Ei s b s.length≠[]:=fun h=>by
 have:b=0:=Nat.eq_of_testBit_eq fun k=>by
  rw[Nat.zero_testBit];by_cases hk:k<s.length
  ·cases hb:b.testBit k with
   | false=>rfl
   | true=>
    have:s.getD k 0∈Ei s b s.length:=by unfold Ei;exact List.mem_map.2 ⟨k,List.mem_filter.2 ⟨List.mem_range.2 hk,hb⟩,rfl⟩
    rw[h]at this;cases this
  ·exact Nat.testBit_lt_two_pow (Nat.lt_of_lt_of_le h2 (Nat.pow_le_pow_right (by decide) (by omega)))
 omega
theorem WH{x:Int}(h:Z4 l)(hn:¬Lz x l):Z4 (JN x l):=by
 unfold Lz at hn;unfold JN
 have h1:∀y∈l.takeWhile (fun y=>decide (y<x)),y<x:=fun y hy=>by have:=List.all_eq_true.1 (List.all_takeWhile (p:=fun y:Int=>decide (y<x)) (l:=l)) y hy;simpa using this
 have h2:∀l:List Int,Z4 l->(l.dropWhile fun y=>decide (y<x)).head?≠some x->∀y∈l.dropWhile (fun y=>decide (y<x)),x<y:=fun l=>by
  induction l with
  | nil=>intro _ _ y hy;cases hy
  | cons a l ih=>
   intro hi hx y hy;rw[List.dropWhile_cons]at hy hx;split at hy
   ·rename_i g;rw[if_pos g]at hx;exact ih (List.pairwise_cons.1 hi).2 hx y hy
   ·rename_i g;rw[if_neg g]at hx;have g1:¬a<x:=by simpa using g
    have g2:a≠x:=by simpa using hx
    rcases List.mem_cons.1 hy with rfl|hy
    ·omega
    ·have:=(List.pairwise_cons.1 hi).1 y hy;omega
 have h3:=h2 l h hn;refine List.pairwise_append.2 ⟨h.sublist (List.takeWhile_sublist _),List.pairwise_cons.2 ⟨h3,h.sublist (List.dropWhile_sublist _)⟩,fun a ha b hb=>?_⟩;have h4:=h1 a ha;rcases List.mem_cons.1 hb with rfl|hb
 ·exact h4
 ·have:=h3 b hb;omega
theorem Kg:∀(l acc:List Int) (s:List Int),Z4 acc->D6 acc l=some s->Z4 s
 | [],acc,s,h,e=>by have:acc=s:=Option.some.inj e;rw[<-this];exact h
 | x::l,acc,s,h,e=>by
  unfold D6 at e;split at e
  ·exact Kg l acc s h e
  ·rename_i hn;split at e
   ·cases e
   ·refine Kg l _ s ?_ e;exact WH h hn
structure AllS(all:List (List Int)):Prop where
 srt:SrtB all
 inc:∀s∈all,Z4 s
 ne:∀s∈all,s≠[]
 sub:∀s∈all,∀t:List Int,t≠[]->t.Sublist s->t∈all
theorem AllS.faces(A:AllS all)(hs:Z4 s):AllS (CN all s (2^s.length-1)):=by
 have hm:∀t,t∈CN all s (2^s.length-1)<->t∈all\/(t≠[]/\t.Sublist s):=fun t=>by
  rw[PN A.srt];refine⟨fun h=>?_,fun h=>?_⟩
  ·rcases h with h|h|⟨_,b,h1,h2,h3⟩
   ·exact .inl h
   ·exact .inr h
   ·exact absurd h3 (Y3 h1 (by have:=Nat.two_pow_pos s.length;omega))
  ·rcases h with h|h
   ·exact .inl h
   ·exact .inr (.inl h)
 refine⟨Ej A.srt s _,fun t ht=>?_,fun t ht=>?_,fun t ht u hu hs=>?_⟩
 ·rcases (hm t).1 ht with h|h
  ·exact A.inc t h
  ·exact hs.sublist h.2
 ·rcases (hm t).1 ht with h|h
  ·exact A.ne t h
  ·exact h.1
 ·rw[hm];rcases (hm t).1 ht with h|h
  ·exact .inl (A.sub t h u hu hs)
  ·exact .inr ⟨hu,hs.trans h.2⟩
theorem LV:∀(ll:List (List Int)) (acc all:List (List Int)),AllS acc->Cu acc ll=some all->AllS all
 | [],acc,all,h,e=>by have:acc=all:=Option.some.inj e;rw[<-this];exact h
 | l::ll,acc,all,h,e=>by
  rw[DA]at e;split at e
  ·cases e
  ·refine LV ll _ all ?_ e;cases hs:D6 [] l with
   | none=>exact h
   | some s=>exact h.faces (Kg l [] s List.Pairwise.nil hs)
def nI(all:List (List Int))(t:List Int):Int:=((C0 all t).1:Int)+1
theorem AllS.nI_at(A:AllS all)(ht:t∈all):∃j,∃hj:j<all.length,all[j]=t/\nI all t=(j:Int)+1:=by obtain⟨j,hj,rfl⟩:=getElem_of_mem ht;exact⟨j,hj,rfl,by unfold nI;rw[N2 A.srt hj]⟩
theorem AllS.nI_inj(A:AllS all){u:List Int}(ht:t∈all)(hu:u∈all)(e:nI all t=nI all u):t=u:=by
 obtain⟨j,hj,rfl,e1⟩:=A.nI_at ht;obtain⟨k,hk,rfl,e2⟩:=A.nI_at hu;have:j=k:=by omega
 subst this;rfl
def sk(k i:Nat):Nat:=if i<k then i else i+1
theorem GH(k i:Nat):(i<k/\sk k i=i)\/(k<=i/\sk k i=i+1):=by unfold sk;split<;>omega
theorem LY(k i:Nat):sk k i≠k:=by unfold sk;split<;>omega
theorem Aba{i:Nat}(hi:i<n):sk k i<n+1:=by unfold sk;split<;>omega
theorem FH(l:List Int)(k i:Nat):(l.eraseIdx k)[i]?=l[sk k i]?:=by rw[List.getElem?_eraseIdx];unfold sk;split<;>rfl
def un(j k:Nat):Nat:=if k<j then k else k-1
theorem KP(j k:Nat):(k<j/\un j k=k)\/(j<=k/\un j k=k-1):=by unfold un;split<;>omega
theorem Pv(h:j≠k):sk j (un j k)=k:=by have:=KP j k;have:=GH j (un j k);omega
theorem RY(l:List Int):(l.eraseIdx k).eraseIdx m=(l.eraseIdx (sk k m)).eraseIdx (un (sk k m) k):=by refine List.ext_getElem? fun i=>?_;rw[FH,FH,FH,FH];congr 1;have:=GH k m;have:=GH m i;have:=GH k (sk m i);have:=KP (sk k m) k;have:=GH (un (sk k m) k) i;have:=GH (sk k m) (sk (un (sk k m) k) i);omega
theorem Uq(hn:l.Nodup)(hj:j<l.length):l[j]∈l.eraseIdx k<->j≠k:=by
 rw[List.mem_iff_getElem?];constructor
 ·rintro⟨i,h⟩ e;rw[FH]at h;obtain⟨h1,h2⟩:=List.getElem?_eq_some_iff.1 h;have:=Hj hn h1 hj h2;exact LY k i (by omega)
 ·intro h;exact⟨un k j,by rw[FH,Pv (Ne.symm h),List.getElem?_eq_getElem hj]⟩
theorem Ka(hn:l.Nodup)(hj:j<l.length):l[j]∈(l.eraseIdx k).eraseIdx m<->j≠k/\j≠sk k m:=by
 rw[List.mem_iff_getElem?];constructor
 ·rintro⟨i,h⟩;rw[FH,FH]at h;obtain⟨h1,h2⟩:=List.getElem?_eq_some_iff.1 h;have:=Hj hn h1 hj h2;refine⟨fun e=>LY k (sk m i) (by omega),fun e=>?_⟩;have h3:sk k (sk m i)=sk k m:=by omega
  have h4:=LY m i;have:=GH k m;have:=GH k (sk m i);omega
 ·rintro⟨h1,h2⟩;have h3:m≠un k j:=fun e=>h2 (by rw[e,Pv (Ne.symm h1)]);exact⟨un m (un k j),by rw[FH,FH,Pv h3,Pv (Ne.symm h1),List.getElem?_eq_getElem hj]⟩
theorem Abe(hn:l.Nodup){a:Nat}(hl:l.length=n+1)(hk:k<n+1)(hm:m<n)(ha:a<n+1)(hb:b<n):(l.eraseIdx k).eraseIdx m=(l.eraseIdx a).eraseIdx b<->(k=a/\m=b)\/(k=sk a b/\m=un (sk a b) a):=by
 constructor
 ·intro h;have hab:=Aba (k:=a) hb
  have h1:¬(a≠k/\a≠sk k m):=fun q=>by have:=(Ka hn (k:=k) (m:=m) (show a<l.length by omega)).2 q;rw[h]at this;exact((Ka hn (show a<l.length by omega)).1 this).1 rfl
  have h2:¬(sk a b≠k/\sk a b≠sk k m):=fun q=>by have:=(Ka hn (k:=k) (m:=m) (show sk a b<l.length by omega)).2 q;rw[h]at this;exact((Ka hn (show sk a b<l.length by omega)).1 this).2 rfl
  have h3:=LY a b;have:=GH k m;have:=GH a b;have:=KP (sk a b) a;omega
 ·rintro(⟨rfl,rfl⟩|⟨rfl,rfl⟩)
  ·rfl
  ·exact(RY l).symm
def rs(n:Nat)(f:Nat->Int):Int:=((range n).map f).sum
theorem MC(n:Nat)(f:Nat->Int):rs (n+1) f=rs n f+f n:=by unfold rs;rw[range_succ,map_append,List.sum_append];simp
theorem Sd(h:∀i,i<n->f i=0):rs n f=0:=by
 induction n with
 | zero=>rfl
 | succ n ih=>rw[MC,ih fun i hi=>h i (by omega),h n (by omega)];rfl
theorem MK(hk:k<n)(h:∀i,i<n->i≠k->f i=0):rs n f=f k:=by
 induction n with
 | zero=>omega
 | succ n ih=>
  rw[MC];rcases (by omega:k=n\/k<n) with rfl|h1
  ·rw[Sd fun i hi=>h i (by omega) (by omega),Int.zero_add]
  ·rw[ih h1 fun i hi=>h i (by omega),h n (by omega) (by omega),Int.add_zero]
theorem Zr{k':Nat}(hk:k<n)(hk':k'<n)(hne:k≠k')(h:∀i,i<n->i≠k->i≠k'->f i=0):rs n f=f k+f k':=by
 induction n with
 | zero=>omega
 | succ n ih=>
  rw[MC];rcases (by omega:k=n\/(k<n/\k'=n)\/(k<n/\k'<n)) with rfl|⟨h1,rfl⟩|⟨h1,h2⟩
  ·rw[MK (k:=k') (by omega) fun i hi hn=>h i (by omega) (by omega) hn,Int.add_comm]
  ·rw[MK (k:=k) h1 fun i hi hn=>h i (by omega) hn (by omega)]
  ·rw[ih h1 h2 fun i hi=>h i (by omega),h n (by omega) (by omega) (by omega),Int.add_zero]
theorem Pw{α:Type}(f:α->List Int):∀l:List α,(l.flatMap f).sum=(l.map fun a=>(f a).sum).sum
 | []=>rfl
 | a::l=>by rw[List.flatMap_cons,List.sum_append,Pw f l,map_cons,sum_cons]
def sg(k:Nat):Int:=1-2*((k:Int)%2)
theorem Ri(k:Nat):sg (k+1)=- sg k:=by unfold sg;omega
theorem Aay(k:Nat):sg k=1\/sg k=-1:=by unfold sg;omega
def HZ(all:List (List Int))(t:List Int):List (Int×Int):=(range t.length).map fun k=>(nI all (t.eraseIdx k),sg k)
def sc(all:List (List Int))(t:List Int):Cl:=⟨nI all t,(t.length:Int)-1,if t.length<=1 then [] else Ca (HZ all t)⟩
theorem QD(A:AllS all):(range all.length).map (DI all)=all.map (sc all):=by
 refine List.ext_getElem (by simp) fun j h1 h2=>?_;have hj:j<all.length:=by simpa using h2
 rw[getElem_map,getElem_map,List.getElem_range];have e:all.getD j []=all[j]:=by simp[List.getD,hj]
 unfold DI sc;rw[e];unfold nI;rw[N2 A.srt hj];rfl
def Tp(all:List (List Int))(S:List Int)(n:Nat):FV:=(range (n+1)).flatMap fun k=>(range n).map fun m=>(nI all (S.eraseIdx k),nI all ((S.eraseIdx k).eraseIdx m),sg k*sg m)
theorem N1(all:List (List Int))(S:List Int)(n:Nat)(g:Int×Int×Int->Int):((Tp all S n).map g).sum=rs (n+1) fun k=>rs n fun m=>g (nI all (S.eraseIdx k),nI all ((S.eraseIdx k).eraseIdx m),sg k*sg m):=by unfold Tp;rw[List.map_flatMap,Pw];unfold rs;simp only[map_map];rfl
theorem Vg(A:AllS all)(hS:S∈all)(hl:S.length=n+1)(hn:1<=n)(hk:k<n+1):S.eraseIdx k∈all:=by refine A.sub S hS _ (fun e=>?_) (List.eraseIdx_sublist _ _);have:=congrArg List.length e;rw[List.length_eraseIdx,if_pos (by omega)]at this;simp at this;omega
theorem Nj(hl:S.length=n+1)(hk:k<n+1):(S.eraseIdx k).length=n:=by rw[List.length_eraseIdx,if_pos (by omega)];omega
theorem OR(A:AllS all)(hS:S∈all){a:Nat}(hl:S.length=n+1)(hn:2<=n)(ha:a<n+1)(hb:b<n)(w:Nat->Nat->Int):(rs (n+1) fun k=>rs n fun m=>if nI all ((S.eraseIdx k).eraseIdx m)=nI all ((S.eraseIdx a).eraseIdx b) then w k m else 0)=w a b+w (sk a b) (un (sk a b) a):=by
 have hnd:S.Nodup:=(A.inc S hS).imp fun h e=>by omega
 have hin:∀k m,k<n+1->m<n->(S.eraseIdx k).eraseIdx m∈all:=fun k m hk hm=>by
  obtain⟨n',rfl⟩:∃n',n=n'+1:=⟨n-1,by omega⟩
  exact Vg A (Vg A hS hl (by omega) hk) (Nj hl hk) (by omega) hm
 have hiff:∀k m,k<n+1->m<n->(nI all ((S.eraseIdx k).eraseIdx m)=nI all ((S.eraseIdx a).eraseIdx b)<->(k=a/\m=b)\/(k=sk a b/\m=un (sk a b) a)):=fun k m hk hm=>by rw[<-Abe hnd hl hk hm ha hb];exact⟨fun h=>A.nI_inj (hin k m hk hm) (hin a b ha hb) h,fun h=>by rw[h]⟩
 have h1:=LY a b;have h2:=GH a b;have h3:=KP (sk a b) a
 rw[Zr (k:=a) (k':=sk a b) ha (by omega) (Ne.symm h1) fun k hk q1 q2=>Sd fun m hm=>if_neg fun q=>by
  rcases (hiff k m hk hm).1 q with q|q
  ·exact q1 q.1
  ·exact q2 q.1]
 rw[MK (k:=b) hb fun m hm q=>if_neg fun q'=>by
   rcases (hiff a m ha hm).1 q' with q'|q'
   ·exact q q'.2
   ·exact h1 q'.1.symm,if_pos rfl,
  MK (k:=un (sk a b) a) (by omega) fun m hm q=>if_neg fun q'=>by
   rcases (hiff (sk a b) m (by omega) hm).1 q' with q'|q'
   ·exact h1 q'.1
   ·exact q q'.2,if_pos ((hiff _ _ (by omega) (by omega)).2 (.inr ⟨rfl,rfl⟩))]
theorem Pt{e:Int×Int×Int}(h:e∈Tp all S n):∃k m,k<n+1/\m<n/\e=(nI all (S.eraseIdx k),nI all ((S.eraseIdx k).eraseIdx m),sg k*sg m):=by obtain⟨k,hk,h1⟩:=List.mem_flatMap.1 h;obtain⟨m,hm,rfl⟩:=List.mem_map.1 h1;exact⟨k,m,List.mem_range.1 hk,List.mem_range.1 hm,rfl⟩
theorem ON(hk:k<n+1)(hm:m<n):(nI all (S.eraseIdx k),nI all ((S.eraseIdx k).eraseIdx m),sg k*sg m)∈Tp all S n:=List.mem_flatMap.2 ⟨k,List.mem_range.2 hk,List.mem_map.2 ⟨m,List.mem_range.2 hm,rfl⟩⟩
theorem SY(A:AllS all)(hS:S∈all)(hl:S.length=n+1)(hn:2<=n):GoodT (Tp all S n) (HZ all S) where
 sum:=fun e he=>by
  obtain⟨a,b,ha,hb,rfl⟩:=Pt he;unfold D1;rw[N1];refine(OR A hS hl hn ha hb fun k m=>sg k*sg m).trans ?_;have h1:=LY a b;have h2:=GH a b;have h3:=KP (sk a b) a;rcases h2 with ⟨h4,h5⟩|⟨h4,h5⟩
  ·rw[h5]at h3 ⊢;obtain⟨c,rfl⟩:∃c,a=c+1:=⟨a-1,by omega⟩
   rw[show un b (c+1)=c by omega,Ri,Int.neg_mul,Int.mul_comm (sg b)];omega
  ·rw[h5]at h3 ⊢;rw[show un (b+1) a=a by omega,Ri,Int.neg_mul,Int.mul_comm (sg b)];omega
 two:=fun e he=>by obtain⟨a,b,ha,hb,rfl⟩:=Pt he;unfold Fi;rw[N1];exact OR A hS hl hn ha hb fun k m=>1
 con:=fun a ha b hb=>by
  unfold HZ at ha hb;obtain⟨k,hk,rfl⟩:=List.mem_map.1 ha;obtain⟨k',hk',rfl⟩:=List.mem_map.1 hb;have hk:=List.mem_range.1 hk;have hk':=List.mem_range.1 hk';show Con _ (nI all (S.eraseIdx k)) (nI all (S.eraseIdx k'));by_cases e:k=k'
  ·subst e;exact .refl _
  ·have h1:=KP k k';have h2:=KP k' k
   have h3:(S.eraseIdx k).eraseIdx (un k k')=(S.eraseIdx k').eraseIdx (un k' k):=by rw[RY S (k:=k) (m:=un k k'),Pv e]
   have m1:=ON (all:=all) (S:=S) (n:=n) (k:=k) (m:=un k k') (by omega) (by omega);have m2:=ON (all:=all) (S:=S) (n:=n) (k:=k') (m:=un k' k) (by omega) (by omega);rw[h3]at m1;exact .step (.refl _) m1 m2
theorem AllS.nil:AllS []:=⟨List.Pairwise.nil,nofun,nofun,nofun⟩
theorem Ud(ll:List (List Int)):Rgt (Eb ll):=by
 have hbd:=WX ll;unfold Eb at *;cases h:Cu [] ll with
 | none=>exact Rgt.nil
 | some all=>
  rw[h]at hbd;have A:=LV ll [] all AllS.nil h;have h9:=EW ll [] all List.Pairwise.nil (fun t ht=>nomatch ht) h;show Rgt ((range all.length).map (DI all));have hbd1:((range all.length).map (DI all)).length<=4000:=hbd.1;rw[QD A]at hbd1 ⊢
  have hlen:∀t∈all,1<=t.length:=fun t ht=>by
   have:=A.ne t ht;cases t with
   | nil=>exact absurd rfl this
   | cons a t=>simp
  have hnd:((all.map (sc all)).map Cl.id).Nodup:=by rw[map_map];refine List.pairwise_map.2 ((A.srt.imp fun {a b} h e=>?_:all.Pairwise (·≠·)).imp_of_mem fun {a b} ha hb hne e=>hne (A.nI_inj ha hb e));rw[e,G8]at h;cases h
  have hcel:∀t∈all,Gg (all.map (sc all)) (nI all t)=sc all t:=fun t ht=>CP hnd (List.mem_map.2 ⟨t,ht,rfl⟩);have hsd:∀t∈all,2<=t.length->(sc all t).sd=Ca (HZ all t):=fun t _ h=>if_neg (by omega);have hraw:∀t:List Int,(HZ all t).length=t.length:=fun t=>by simp[HZ]
  have hside:∀t∈all,∀s∈(sc all t).sd,∃k,k<t.length/\2<=t.length/\s=(nI all (t.eraseIdx k),sg k):=fun t ht s hs=>by
   by_cases h2:2<=t.length
   ·rw[hsd t ht h2]at hs;have hs:=(BQ _).mem_iff.1 hs;unfold HZ at hs;obtain⟨k,hk,rfl⟩:=List.mem_map.1 hs;exact⟨k,List.mem_range.1 hk,h2,rfl⟩
   ·have:(sc all t).sd=[]:=if_pos (by omega);rw[this]at hs;cases hs
  have hin:∀t∈all,2<=t.length->∀k,k<t.length->t.eraseIdx k∈all:=fun t ht h2 k hk=>Vg A ht (n:=t.length-1) (by omega) (by omega) (by omega);refine⟨hbd1,hnd,fun x hx=>?_,fun x hx=>?_,fun x hx=>?_,fun x hx=>?_,fun x hx s hs=>?_,fun x hx s hs=>?_,fun x hx hd=>?_,fun x hx hd=>?_⟩<;>obtain⟨t,ht,rfl⟩:=List.mem_map.1 hx<;>have hl1:=hlen t ht<;>have hl9:=h9 t ht
  ·show 1<=nI all t;unfold nI;omega
  ·show 0<=(t.length:Int)-1/\(t.length:Int)-1<=8;omega
  ·unfold BV;show ¬(((t.length:Int)-1=0/\0<(sc all t).sd.length)\/((t.length:Int)-1=1/\(sc all t).sd.length≠2)\/(1<(t.length:Int)-1/\((sc all t).sd.length<2\/64<(sc all t).sd.length)));by_cases h2:2<=t.length
   ·rw[hsd t ht h2,Gn,hraw];omega
   ·have:(sc all t).sd=[]:=if_pos (by omega);rw[this];simp;omega
  ·by_cases h2:2<=t.length
   ·rw[hsd t ht h2,((BQ (HZ all t)).map Prod.fst).nodup_iff];unfold HZ;rw[map_map];refine List.pairwise_map.2 ((List.nodup_range (n:=t.length)).imp_of_mem fun {a b} ha hb hne e=>hne ?_);have ha:=List.mem_range.1 ha;have hb:=List.mem_range.1 hb;have e:=A.nI_inj (hin t ht h2 a ha) (hin t ht h2 b hb) e;have hnd:t.Nodup:=(A.inc t ht).imp fun h e=>by omega
    have h3:t[a] ∉ t.eraseIdx a:=fun q=>(Uq hnd ha).1 q rfl;rw[e,Uq hnd ha]at h3;exact Classical.not_not.1 h3
   ·have:(sc all t).sd=[]:=if_pos (by omega);rw[this];simp
  ·obtain⟨k,hk,h2,rfl⟩:=hside t ht s hs;refine⟨_,List.mem_map.2 ⟨_,hin t ht h2 k hk,rfl⟩,rfl,?_⟩;show((t.eraseIdx k).length:Int)-1=(t.length:Int)-1-1;rw[Nj (n:=t.length-1) (by omega) (by omega)];omega
  ·obtain⟨k,hk,h2,rfl⟩:=hside t ht s hs;exact Aay k
  ·have hd:(t.length:Int)-1=1:=hd;have h2:t.length=2:=by omega
   rw[hsd t ht (by omega),IQ ((BQ (HZ all t)).map Prod.snd)];unfold HZ;rw[h2];rfl
  ·have hd:2<=(t.length:Int)-1:=hd;obtain⟨n,hl⟩:∃n,t.length=n+1:=⟨t.length-1,by omega⟩
   have h2:2<=t.length:=by omega
   refine(SY A ht hl (by omega)).perm ?_ (by rw[hsd t ht h2];exact(BQ _).symm);unfold Fu;rw[hsd t ht h2]
   have e:Tp all t n=KV (fun c=>if c=0 then [] else HZ all (all.getD (c-1).toNat [])) (HZ all t):=by
    unfold KV HZ;rw[List.flatMap_map,hl];refine DQ fun k hk=>?_;have hk:=List.mem_range.1 hk;obtain⟨j,hj,e1,e2⟩:=A.nI_at (hin t ht h2 k (by omega));show _=List.map _ (if nI all (t.eraseIdx k)=0 then [] else _);rw[if_neg (by omega)]
    have e3:all.getD (nI all (t.eraseIdx k)-1).toNat []=t.eraseIdx k:=by rw[e2,show(((j:Int)+1)-1).toNat=j by omega];simp[List.getD,hj,e1]
    rw[e3,map_map,Nj hl (by omega)];rfl
   rw[e];refine I3 (BQ _).symm fun s hs=>List.Perm.map _ ?_;unfold HZ at hs;obtain⟨k,hk,rfl⟩:=List.mem_map.1 hs;have hk:=List.mem_range.1 hk;obtain⟨j,hj,e1,e2⟩:=A.nI_at (hin t ht h2 k hk);show List.Perm (if nI all (t.eraseIdx k)=0 then [] else _) (Gg (all.map (sc all)) (nI all (t.eraseIdx k))).sd;rw[if_neg (by omega),hcel _ (hin t ht h2 k hk)]
   have e3:all.getD (nI all (t.eraseIdx k)-1).toNat []=t.eraseIdx k:=by rw[e2,show(((j:Int)+1)-1).toNat=j by omega];simp[List.getD,hj,e1]
   rw[e3,hsd _ (hin t ht h2 k hk) (by rw[Nj hl (by omega)];omega)];exact(BQ _).symm
theorem YV(ll:List (List Int)):∀x∈Eb ll,x.id<=(Eb ll).length:=by
 unfold Eb;cases h:Cu [] ll with
 | none=>nofun
 | some all=>
  intro x hx;obtain⟨i,hi,rfl⟩:=List.mem_map.1 hx;have hi:=List.mem_range.1 hi;show(i:Int)+1<=(((range all.length).map (DI all)).length:Nat);rw[length_map,List.length_range];omega
end Go.Proofs.Q

namespace Go.Proofs.Q
open Go.Eng Go.RowKit
def SC(l:List Cl):List Cl:=l.map Cl.can
structure AaS(o:List Cl):Prop where
 n:o.length<=4000
 inc:o.Pairwise fun a b=>a.id<b.id
 pos:∀x∈o,1<=x.id
 fst:∀x∈o,Cn o x=0
 snd:∀x∈o,2<=x.dim->DL o x=0
theorem QT{l:List Cl}(B:AaS (SC l)):Rgt l:=by
 have R:RgtF (SC l):=⟨B.n,B.inc,B.pos,fun x hx=>by obtain⟨y,_,rfl⟩:=List.mem_map.1 hx;exact⟨y,rfl⟩,B.fst,B.snd⟩
 refine R.rgt.sim ⟨by unfold SC;rw[length_map],by unfold SC;rw[map_map];exact List.Perm.refl _,fun x hx=>⟨x.can,List.mem_map.2 ⟨x,hx,rfl⟩,rfl,rfl,(BQ _).symm⟩⟩
instance (x:Cl):DecidablePred (CA [] x):=fun i=>inferInstance
open Go.ChangeShapes Go.WideShapes Go.ChangeAt Go.Deep
theorem own:ownKnob Tryz.prog.godebug=none:=by kernel_rfl
theorem Aan{w w':World}(E:Ext w w'):Below w.heap.size w w':=⟨E.os,E.tape.tape,E.output,E.size,E.block⟩
theorem NG:laidOutB Tryz.prog=true:=by kernel_rfl
section
variable {H:Type} {enc:TypeId×Value->H} {w:World} {base:Nat} {spare:Nat->Bool} {held:Bool}
theorem El(n:Nat)(cs:List Value)(y:DataW H×List MemPlace)(h:DataW.trod enc Tryz.prog w base spare held n 3 cs=some y):∃a,cs=cI a/\BH a:=by obtain⟨b,h1,_,h2⟩:=DataW.trod_int U3 h;exact⟨b,h1,bounds_i64 h2⟩
theorem Q9{v:Value}{fuel:Nat}{x:DataW H×List MemPlace}(h:DataW.trod enc Tryz.prog w base spare held fuel 22 [v]=some x):∃l,RdL cI 1 (whole w) [] v l/\∀a∈l,BH a:=
 NY AU (by kernel_rfl) Bg (by decide) El h
end
end Go.Proofs.Q

namespace Go.Proofs.YtodheebhahdepaaGreatDoor
open Go Go.ChangeShapes Go.WideShapes Go.ChangeAt Go.RowKit Go.Proofs.Q

theorem Sx:(Rows.filterChecksRow.inPlace==Tryz.prog.inPlace 7)=true:=by kernel_rfl
theorem SM:(Rows.filterChecksRow.unfollowed==Tryz.prog.unfollowed 7)=true:=by kernel_rfl
theorem Ss:(Rows.filterChecksRow.recurses==Tryz.prog.recurses 7)=true:=by kernel_rfl
theorem Sw:(Rows.filterChecksRow.named==Tryz.prog.varsNamed 7)=true:=by kernel_rfl

theorem Sq:false=Tryz.prog.looks []:=by kernel_rfl
theorem checks_g2:Tryz.prog.funcNamed "cocycle/cocyclelaw20.FilterChecks" = some 7:=by kernel_rfl
theorem SV:false=Rows.filterChecksRow.goesBy Tryz.prog:=by kernel_rfl
end Go.Proofs.YtodheebhahdepaaGreatDoor
namespace Go.Proofs.Q
open Go.Proofs.Tryz
open Go.Eng Go.RowKit
variable {F:List (Int×Int)}
def JK(F:List (Int×Int))(c:Int):Option Int:=(F.find? fun q=>decide (q.1=c)).map Prod.snd
theorem YU{c:Int}{k:Nat}(hk:k<F.length)(h:F[k].1=c)(hno:∀j (hj:j<F.length),j<k->F[j].1≠c):JK F c=some F[k].2:=by have e:(F.find? fun q=>decide (q.1=c))=some F[k]:=List.find?_eq_some_iff_getElem.2 ⟨decide_eq_true h,k,hk,rfl,fun j hj=>by rw[decide_eq_false (hno j (by omega) hj)];rfl⟩;unfold JK;rw[e];rfl
theorem Xq{c:Int}(hno:∀j (hj:j<F.length),F[j].1≠c):JK F c=none:=by
 unfold JK;rw[List.find?_eq_none.2 fun x hx=>?_]
 ·rfl
 ·obtain⟨j,hj,rfl⟩:=getElem_of_mem hx;rw[decide_eq_false (hno j hj)];decide
theorem OZ(F:List (Int×Int))(c:Int):(JK F c).isSome=decide (c∈F.map Prod.fst):=by
 unfold JK;rw[Option.isSome_map];cases h:F.find? fun q=>decide (q.1=c) with
 | none=>
  rw[List.find?_eq_none]at h
  symm
  refine decide_eq_false fun q=>?_;obtain⟨x,hx,rfl⟩:=List.mem_map.1 q;exact h x hx (decide_eq_true rfl)
 | some x=>
  have h1:=List.mem_of_find?_eq_some h;have h2:x.1=c:=by have:=List.find?_some h;simpa using this
  symm
  exact decide_eq_true (List.mem_map.2 ⟨x,h1,h2⟩)
theorem Pi(hn:(F.map Prod.fst).Nodup)(c:Int):(JK F c).getD 0=Fv F c:=by
 cases h:F.find? fun q=>decide (q.1=c) with
 | none=>
  unfold JK;rw[h];rw[List.find?_eq_none]at h
  have:c ∉ F.map Prod.fst:=fun q=>by obtain⟨x,hx,rfl⟩:=List.mem_map.1 q;exact h x hx (decide_eq_true rfl)
  unfold Fv;rw[<-Mq c F]at this;rw[CZ this];rfl
 | some x=>
  have h1:=List.mem_of_find?_eq_some h;have h2:x.1=c:=by have:=List.find?_some h;simpa using this
  unfold JK;rw[h];rw[Lb (x:=x.2) hn (by rw[<-h2];exact h1)];rfl
theorem L5(F:List (Int×Int))(v:Value)(c:Int)(h:Hp)(hR:RdL cV 2 h [] v F)(ms:List Hp):FnV Tryz.prog 71 #[v,.int .i64 c] h ms (.tuple #[.int .i64 ((JK F c).getD 0),.bool (JK F c).isSome]):=by
 refine EO ?_ ms;have o1:=hR.rd.one;have hn:=hR.len_le;refine Ap func71 ntmps71 rfl rfl (fun w0 hw0=>?_);simp only[AX];refine As (Qm rfl (Qm rfl (Am (Ac (As (Qm rfl (Am (Ag ?_))))))))
 refine Ay (fun q sl h' ms'=>∃(i:Nat),q=F.length-i/\sl=[(0,v),(1,.int .i64 c),(6,.int .i64 i)]/\h=h'/\ms'=[]/\i<=F.length/\∀j (hj:j<F.length),j<i->F[j].1≠c)
  (F.length-0) _ ⟨0,rfl,rfl,rfl,rfl,by omega,fun j _ h=>by omega⟩ Qs ?_
 rintro q sl h' ms' ⟨i,rfl,rfl,rfl,rfl,hi,hno⟩;refine Ac (As (Qm rfl (Qm rfl (Qx (Ar hR.rd.any rfl FP rfl) rfl (Qm rfl (Am ?_))))));refine Aq rfl (fun hlt=>?_) (fun hlt=>?_)
 ·have hil:i<F.length:=by omega
  have c0:∀ms,Cell h ms (((AF v).add (i*2)).add 0) (.int .i64 F[i].1):=fun ms=>(hR.any (ms:=ms)).cell hil (f:=0) rfl;have c1:∀ms,Cell h ms (((AF v).add (i*2)).add 1) (.int .i64 F[i].2):=fun ms=>(hR.any (ms:=ms)).cell hil (f:=1) rfl;refine Ah (Ab (Ac (Ag (As (Qm rfl (Qm rfl (Qx (BF (i) hR.rd.any rfl FP Cx rfl rfl) rfl (Qf EJ rfl (Ql rfl U3 (c0 _) (Qm rfl (Qm rfl (Am ?_))))))))))));refine Aq rfl (fun he=>?_) (fun he=>?_)
  ·refine Ac (Ad (Qm rfl (Qm rfl (Qx (BF (i) hR.rd.any rfl FP Cx rfl rfl) rfl (Qf MF rfl (Ql rfl U3 (c1 _) (Qm rfl (Qm rfl (Am (An (Aj (Ae (Ae (Aj (Ae ?_)))))))))))))));exact Bo rfl rfl rfl (by rw[YU hil he hno];rfl)
  ·refine Ah (Ai (Ab (Ad (Qm rfl (Qx (oA rfl) rfl (Qm rfl (Ak ?_)))))))
   exact Al (F.length-(i+1)) _ (by omega) ⟨i+1,rfl,rfl,rfl,rfl,by omega,fun j hj hji=>by
    rcases (by omega:j<i\/j=i) with h1|rfl
    ·exact hno j hj h1
    ·exact he⟩ Qs
 ·obtain rfl:i=F.length:=by omega
  refine Av (Aa (Aa (Af (Ab (As (Qm rfl (Qm rfl (Am (An ?_)))))))));exact Bo rfl rfl rfl (by rw[Xq fun j hj=>hno j hj hj];rfl)
end Go.Proofs.Q

namespace Go.Proofs.Q
open Go.Eng Go.RowKit
theorem Rgt.union{a b:List Cl}(A:Rgt a)(B:Rgt b)(hd:∀x∈a,∀y∈b,x.id≠y.id)(hn:a.length+b.length<=4000):Rgt (a++b):=by
 have hnd:((a++b).map Cl.id).Nodup:=by rw[map_append];refine List.nodup_append.2 ⟨A.nd,B.nd,fun x hx y hy=>?_⟩;obtain⟨c,hc,rfl⟩:=List.mem_map.1 hx;obtain⟨e,he,rfl⟩:=List.mem_map.1 hy;exact hd c hc e he
 have tb:∀(o:List Cl) (R:Rgt o),(∀x∈o,x∈a++b)->∀x∈o,Fu (a++b) x=Fu o x:=fun o R hs x hx=>by
  unfold Fu KV;refine DQ fun s hs'=>?_;obtain⟨y,hy,e1,_⟩:=R.sid x hx s hs';have h1:Gg (a++b) s.1=Gg o s.1:=by rw[<-e1,CP hnd (hs y hy),CP R.nd hy]
  simp only[h1]
 have ta:=tb a A fun x hx=>List.mem_append.2 (.inl hx);have tb:=tb b B fun x hx=>List.mem_append.2 (.inr hx);refine⟨by rw[length_append];exact hn,hnd,fun x hx=>?_,fun x hx=>?_,fun x hx=>?_,fun x hx=>?_,fun x hx s hs=>?_,fun x hx=>?_,fun x hx=>?_,fun x hx hd=>?_⟩<;>rcases List.mem_append.1 hx with h|h
 ·exact A.pos x h
 ·exact B.pos x h
 ·exact A.dim x h
 ·exact B.dim x h
 ·exact A.num x h
 ·exact B.num x h
 ·exact A.sds x h
 ·exact B.sds x h
 ·obtain⟨y,hy,e⟩:=A.sid x h s hs;exact⟨y,List.mem_append.2 (.inl hy),e⟩
 ·obtain⟨y,hy,e⟩:=B.sid x h s hs;exact⟨y,List.mem_append.2 (.inr hy),e⟩
 ·exact A.sgn x h
 ·exact B.sgn x h
 ·exact A.one x h
 ·exact B.one x h
 ·rw[ta x h];exact A.tab x h hd
 ·rw[tb x h];exact B.tab x h hd
def Wa(m:Int)(c:Cl):Cl:=⟨c.id+m,c.dim,c.sd.map fun s=>(s.1+m,s.2)⟩
theorem Rgt.shift{l:List Cl}(R:Rgt l){m:Int}(hm:0<=m):Rgt (l.map (Wa m)):=by
 have hnd:((l.map (Wa m)).map Cl.id).Nodup:=by rw[map_map];have:=List.pairwise_map.1 R.nd;refine List.pairwise_map.2 (this.imp_of_mem fun {a b} ha hb hne e=>hne ?_);have e:a.id+m=b.id+m:=e;omega
 refine⟨by rw[length_map];exact R.n,hnd,fun x' hx'=>?_,fun x' hx'=>?_,fun x' hx'=>?_,fun x' hx'=>?_,fun x' hx' s' hs'=>?_,fun x' hx' s' hs'=>?_,fun x' hx' hd=>?_,fun x' hx' hd=>?_⟩<;>obtain⟨x,hx,rfl⟩:=List.mem_map.1 hx'
 ·have:=R.pos x hx;show 1<=x.id+m;omega
 ·exact R.dim x hx
 ·have:=R.num x hx;unfold BV at *;show ¬((x.dim=0/\0<(x.sd.map _).length)\/(x.dim=1/\(x.sd.map _).length≠2)\/(1<x.dim/\((x.sd.map _).length<2\/64<(x.sd.map _).length)));rw[length_map];exact this
 ·show((x.sd.map _).map Prod.fst).Nodup;rw[map_map];have:=List.pairwise_map.1 (R.sds x hx);refine List.pairwise_map.2 (this.imp fun {a b} hne e=>hne ?_);have e:a.1+m=b.1+m:=e;omega
 ·obtain⟨s,hs,rfl⟩:=List.mem_map.1 hs';obtain⟨y,hy,e1,e2⟩:=R.sid x hx s hs;exact⟨_,List.mem_map.2 ⟨y,hy,rfl⟩,by show y.id+m=s.1+m;rw[e1],e2⟩
 ·obtain⟨s,hs,rfl⟩:=List.mem_map.1 hs';exact R.sgn x hx s hs
 ·have h1:=R.one x hx hd;show((x.sd.map _).map Prod.snd).sum=0;rw[map_map];exact h1
 ·have hd:2<=x.dim:=hd
  have hT:Fu (l.map (Wa m)) (Wa m x)=(Fu l x).map fun e=>(e.1+m,e.2.1+m,1*e.2.2):=by
   unfold Fu KV;show(x.sd.map _).flatMap _=_;rw[List.flatMap_map,List.map_flatMap];refine DQ fun s hs=>?_;obtain⟨y,hy,e1,e2⟩:=R.sid x hx s hs
   have h1:Gg (l.map (Wa m)) (s.1+m)=Wa m y:=by rw[<-e1];exact CP hnd (List.mem_map.2 ⟨y,hy,rfl⟩)
   have h2:Gg l s.1=y:=by rw[<-e1];exact CP R.nd hy
   show List.map (fun r=>(s.1+m,r.1,s.2*r.2)) (Gg (l.map (Wa m)) (s.1+m)).sd=List.map _ (List.map (fun r=>(s.1,r.1,s.2*r.2)) (Gg l s.1).sd);rw[h1,h2,map_map];show List.map _ (y.sd.map _)=_;rw[map_map];exact List.map_congr_left fun r _=>by simp
  rw[hT]
  exact(R.tab x hx hd).ren (fun c=>c+m) (fun _=>1) (fun e _ e' _ h=>by have h:e.2.1+m=e'.2.1+m:=h;omega) fun a ha=>by obtain⟨s,hs,rfl⟩:=List.mem_map.1 ha;exact⟨s,hs,rfl⟩
def IM(o:List Cl):List Int:=(o.filter fun x=>!(o.any fun y=>y.sd.any fun s=>decide (s.1=x.id))).map Cl.id
theorem UD{o:List Cl}{c:Int}(h:c∈IM o):∀y∈o,∀s∈y.sd,s.1≠c:=by
 unfold IM at h;obtain⟨x,hx,rfl⟩:=List.mem_map.1 h;obtain⟨_,h2⟩:=List.mem_filter.1 hx;intro y hy s hs e;have h2:(o.any fun y=>y.sd.any fun s=>decide (s.1=x.id))=false:=by simpa using h2
 have h3:=List.any_eq_false.1 h2 y hy;exact h3 (List.any_eq_true.2 ⟨s,hs,decide_eq_true e⟩)
theorem Rgt.gone{l:List Cl}(R:Rgt l){c:Int}(h:∀y∈l,∀s∈y.sd,s.1≠c):Rgt (l.filter fun x=>decide (x.id≠c)):=
 R.filt fun x hx _ s hs y hy e=>decide_eq_true (by rw[e];exact h x hx s hs)
theorem YX{o:List Cl}(R:Rgt o)(h:o≠[]):IM o≠[]:=by
 -- a cell of the greatest dimension
 obtain⟨x,hx,hm⟩:∃x∈o,∀y∈o,y.dim<=x.dim:=by
  have:∀l:List Cl,l≠[]->∃x∈l,∀y∈l,y.dim<=x.dim:=fun l=>by
   induction l with
   | nil=>intro h;exact absurd rfl h
   | cons a l ih=>
    intro _;by_cases hl:l=[]
    ·subst hl;exact⟨a,Mh,fun y hy=>by rw[List.mem_singleton.1 hy];exact Int.le_refl _⟩
    ·obtain⟨x,hx,hm⟩:=ih hl;by_cases ha:a.dim<=x.dim
     ·exact⟨x,mem_cons_of_mem _ hx,fun y hy=>by
       rcases List.mem_cons.1 hy with rfl|h
       ·exact ha
       ·exact hm y h⟩
     ·exact⟨a,Mh,fun y hy=>by
       rcases List.mem_cons.1 hy with rfl|h
       ·exact Int.le_refl _
       ·have:=hm y h;omega⟩
  exact this o h
 refine List.ne_nil_of_mem (a:=x.id) (List.mem_map.2 ⟨x,List.mem_filter.2 ⟨hx,?_⟩,rfl⟩)
 have:(o.any fun y=>y.sd.any fun s=>decide (s.1=x.id))=false:=List.any_eq_false.2 fun y hy q=>by
  obtain⟨s,hs,e⟩:=List.any_eq_true.1 q;obtain⟨z,hz,e1,e2⟩:=R.sid y hy s hs
  have:z=x:=by have h1:=Dk R.nd hz;have h2:=Dk R.nd hx;rw[e1,of_decide_eq_true e,h2]at h1;exact(Option.some.inj h1).symm
  subst this;have:=hm y hy;omega
 rw[this];rfl
def T3(x:Int):Int×Int:=if x<0 then(-x,-1) else(x,1)
def TD(k:Nat)(r:List Int):Cl:=⟨(k:Int)+1,r.headD 0,r.tail.map T3⟩
def Po(L:List (List Int)):List Cl:=(range L.length).map fun k=>TD k (L.getD k [])
def Lr(n:Nat):List Int:=if n=1 then [1,-1,2] else if n%2=0 then [(n:Int),2*n-1,-(2*n)] else [(n:Int),-(2*n-1),2*n]
def LC(n:Nat):List (List Int):=[[0],[0]]++(range n).flatMap fun k=>[Lr (k+1),Lr (k+1)]
def PQ(n:Nat):List (List Int):=([[0],[0],[0],[0],[1,-2,3],[1,-3,4],[1,-4,2]]:List (List Int))++((range (3*n)).map fun(k:Nat)=>[(1:Int),-1,2+((k%3:Nat):Int)])++(range (3*n)).map fun(k:Nat)=>[(2:Int),8+(k:Int),5+((k%3:Nat):Int),-(8+(((k+1)%(3*n):Nat):Int))]
def ZI:List (List Int):=[[0],[0],[0],[1,-1,2],[1,-1,2],[1,-2,3],[1,-2,3],[1,-1,3],[1,-1,3],[2,4,6,-8],[2,4,7,-9],[2,5,6,-9],[2,5,7,-8]]
def Aao:List (List Int):=[[0],[0],[0],[0],[1,-1,2],[1,-1,2],[1,-3,4],[1,-3,4],[1,-1,3],[1,-2,4],[1,-3,1],[1,-4,2],[2,5,10,-7,-9],[2,6,10,-8,-9],[2,7,12,-6,-11],[2,8,12,-5,-11]]
def Zz:List (List Int):=[[0],[0],[0],[0],[1,-1,2],[1,-1,2],[1,-3,4],[1,-3,4],[1,-1,3],[1,-2,4],[1,-3,1],[1,-4,2],[2,5,10,-7,-9],[2,6,10,-8,-9],[2,7,12,-5,-11],[2,8,12,-6,-11]]
def EZ(n:Nat):List (List Int):=
 if n=0 then [[0]] else if n<=3 then LC n else if n=4 then LC 0 else if n=5 then ZI else if n=6 then PQ 3 else if n=7 then Aao else if n=8 then Zz else PQ 4
theorem Abh(n:Nat)(h:n<10):AaS (SC (Po (EZ n))):=by rcases (by omega:n=0\/n=1\/n=2\/n=3\/n=4\/n=5\/n=6\/n=7\/n=8\/n=9) with rfl|rfl|rfl|rfl|rfl|rfl|rfl|rfl|rfl|rfl<;>exact⟨by decide,by decide,by decide,by decide +kernel,by decide +kernel⟩
theorem MV(n:Nat)(h:n<10):Rgt (Po (EZ n)):=QT (Abh n h)
theorem MG(L:List (List Int)):(Po L).length=L.length:=by simp[Po]
theorem JV(n:Nat)(h:n<10):(EZ n).length<=31/\(n<5->(EZ n).length<=8):=by rcases (by omega:n=0\/n=1\/n=2\/n=3\/n=4\/n=5\/n=6\/n=7\/n=8\/n=9) with rfl|rfl|rfl|rfl|rfl|rfl|rfl|rfl|rfl|rfl<;>decide
theorem KX{L:List (List Int)}:∀x∈Po L,1<=x.id/\x.id<=L.length:=fun x hx=>by obtain⟨k,hk,rfl⟩:=List.mem_map.1 hx;have:=List.mem_range.1 hk;show 1<=(k:Int)+1/\(k:Int)+1<=_;omega
open Go.Proofs.Tryz
theorem Pf(id dim:Int)(sd:List Int)(v:Value)(hp:Hp)(hR:RdL cI 1 hp [] v sd)(hb:∀x∈sd,-1000000<=x/\x<=1000000)(hn:sd.length<=1000):FnT Tryz.prog 176 #[.int .i64 id,.int .i64 dim,v] hp [] (fun r h' ms'=>hp=h'/\∃vs m,ms'=[m]/\r=.agg #[.int .i64 id,.int .i64 dim,vs]/\OwnL cD 2 119 m vs (sd.map T3)):=by
 have ov:=hR.rd.one;refine Ap func176 ntmps176 rfl rfl (fun w0 hw0=>?_);simp only[AX];refine As (Cz [.int .i64 0,.int .i64 0,.slice none 0 0] rfl AI rfl rfl (fun g6=>BK (Qm rfl (Qm rfl (Qx (A3 VZ [.int .i64 0,.int .i64 0,.slice none 0 0] [(0,_),(1,_)] [_,_,_] rfl AI rfl rfl Qt rfl) rfl (Cz [.int .i64 0,.int .i64 0,.slice none 0 0] rfl AI rfl rfl (fun g7=>?_)))))));refine Sa 0 [_,_,_] AI rfl (by simp[Value.oneCell']) ?_;refine Am (BJ (Ac (As (Qm rfl (Am (Ag ?_))))))
 refine Ay (fun q sl h' ms'=>∃(i:Nat) (vs:Value) (m:Hp),q=sd.length-i/\sl=[(2,v),(6,.pointer (some ⟨g6,0,none⟩)),(7,.pointer (some ⟨g7,0,none⟩)),(8,.int .i64 i)]/\hp=h'/\ms'=[m,Bn g7 52 [.int .i64 id,.int .i64 dim,vs],Bn g6 52 [.int .i64 0,.int .i64 0,.slice none 0 0]]/\i<=sd.length/\OwnL cD 2 119 m vs ((sd.take i).map T3))
  (sd.length-0) _ ⟨0,_,Hp.emp,rfl,rfl,rfl,rfl,by omega,OwnL.nil Ep⟩ Qs ?_
 rintro q sl h' ms' ⟨i,vs,m,rfl,rfl,rfl,rfl,hi,hO⟩;have ovs:=hO.o1;refine Ac (As (Qm rfl (Qm rfl (Qx (Ar hR.rd.any rfl AU rfl) rfl (Qm rfl (Am ?_))))));refine Aq rfl (fun hlt=>?_) (fun hlt=>?_)
 ·have hil:i<sd.length:=by omega
  obtain⟨x,hx⟩:∃x,sd[i]=x:=⟨_,rfl⟩
  have hxb:=hb x (by rw[<-hx];exact getElem_mem hil);have cx:∀ms,Cell hp ms ((AF v).add (i*1)) (.int .i64 x):=fun ms=>by rw[<-hx];exact(hR.any (ms:=ms)).cell0 hil rfl
  have hll:((sd.take i).map T3).length<=1000:=by rw[length_map,length_take];omega
  have hs:((sd.take (i+1)).map T3)=((sd.take i).map T3)++[T3 x]:=by rw[take_succ_eq_append_getElem hil,map_append,hx];rfl
  refine Ah (Ab (Ac (Ag (As (Qm rfl (Qm rfl (Qx (BF (i) hR.rd.any rfl AU A6 rfl rfl) rfl (Ql rfl U3 (cx _) (Qx (A3 Wv [.int .i64 0,.int .i64 0] [(0,_),(1,_)] [_,_] rfl AM rfl rfl Qt rfl) rfl (Cz [.int .i64 0,.int .i64 0] rfl AM rfl rfl (fun g9=>?_)))))))))));refine Sa 0 [_,_] AM rfl (by simp[Value.oneCell']) ?_;refine Am (Ac (As (Qm rfl (Qm rfl (Qx (BF (i) hR.rd.any rfl AU A6 rfl rfl) rfl (Ql rfl U3 (cx _) (Qm rfl (Am ?_))))))));refine Aq rfl (fun hneg=>?_) (fun hneg=>?_)
  ·refine Ad (Qm rfl (Qm rfl (Qx (BF (i) hR.rd.any rfl AU A6 rfl rfl) rfl (Ql rfl U3 (cx _) (Qx (M1 rfl rfl (by omega)) rfl (Qx (A3 Wv [.int .i64 0,.int .i64 0] [(0,_),(1,_)] [_,_] rfl AM rfl rfl Qt rfl) rfl ?_))))));refine Sa 0 [_,_] AM rfl (by simp[Value.oneCell']) ?_;refine Gm (Qf BB rfl (Ql rfl BZ (Cell.blk 2 rfl rfl) (Qx (oG rfl DX AM (Seg.blk 0 rfl)) rfl (Ao [_,_] rfl BZ AM rfl (by rfl) rfl rfl (by omega) rfl rfl rfl (fun g38=>AO 2 hO (RdL.one Ep (x:=(-x,-1)) Mh rfl) rfl BZ AM rfl (by omega) rfl rfl rfl Ga (by(try simp only[length_singleton]);omega) (by(try simp only[length_singleton]);omega) rfl rfl rfl (fun v9 m9 hO9=>?_))))));have hs':T3 x=(-x,-1):=by unfold T3;rw[if_pos hneg]
   rw[<-hs',<-hs]at hO9;have ov9:=hO9.o1;refine Qf BB rfl ?_;refine AS 3 _ rfl Tf rfl rfl (by assumption) rfl rfl (by(simp;done)) rfl rfl ?_;refine Ak (Ai (Ab (Ad (Qm rfl (Qx (oA rfl) rfl (Qm rfl (Ak (A8 0 rfl (A8 0 rfl ?_)))))))));exact Al (sd.length-(i+1)) _ (by omega) ⟨i+1,v9,m9,rfl,rfl,rfl,rfl,by omega,hO9⟩ Qs
  ·refine Ah (Ab (Ad (Qf BB rfl (Ql rfl BZ (Cell.blk 2 rfl rfl) (Qx (oG rfl DX AM (Seg.blk 0 rfl)) rfl (Ao [_,_] rfl BZ AM rfl (by rfl) rfl rfl (by omega) rfl rfl rfl (fun g38=>AO 2 hO (RdL.one Ep (x:=(x,1)) Mh rfl) rfl BZ AM rfl (by omega) rfl rfl rfl Ga (by(try simp only[length_singleton]);omega) (by(try simp only[length_singleton]);omega) rfl rfl rfl (fun v9 m9 hO9=>?_))))))));have hs':T3 x=(x,1):=by unfold T3;rw[if_neg hneg]
   rw[<-hs',<-hs]at hO9;have ov9:=hO9.o1;refine Qf BB rfl ?_;refine AS 3 _ rfl Tf rfl rfl (by assumption) rfl rfl (by(simp;done)) rfl rfl ?_;refine Ak (Ai (Ab (Ad (Qm rfl (Qx (oA rfl) rfl (Qm rfl (Ak (A8 0 rfl (A8 0 rfl ?_)))))))));exact Al (sd.length-(i+1)) _ (by omega) ⟨i+1,v9,m9,rfl,rfl,rfl,rfl,by omega,hO9⟩ Qs
 ·obtain rfl:i=sd.length:=by omega
  refine Av (Aa (Aa (Af (Ab (As (Qx (oG rfl Ef AI (Seg.blk 1 rfl)) rfl ?_))))));refine Sa 2 [_,_,_] AI rfl (by simp[ov,ovs]) ?_;refine Am (An (A8 1 rfl ?_));exact By (vs:=[_,_,_]) 1 rfl rfl Ef rfl AI rfl rfl (⟨rfl,vs,m,rfl,rfl,by rw[take_length]at hO;exact hO⟩)
theorem KI(L:List (List Int))(i:Nat):((range (i+1)).map fun k=>TD k (L.getD k []))=((range i).map fun k=>TD k (L.getD k []))++[TD i (L.getD i [])]:=by rw[range_succ,map_append];rfl
theorem Hk(L:List (List Int))(es0:List Value)(v:Value)(hp:Hp)(hV:RdL cW 1 hp [] v es0)(hE:RdEs hp es0 L)(hb:∀l∈L,l≠[]/\l.length<=1000/\∀x∈l,-1000000<=x/\x<=1000000)(hn:L.length<=1000):FnT Tryz.prog 114 #[v] hp [] (fun r h' ms'=>hp.le h'/\QP h' r ms' (fun o=>o=Po L)):=by
 have o1:=hV.rd.one;have hle:=hE.1;refine Ap func114 ntmps114 rfl rfl (fun w0 hw0=>?_);simp only[AX];refine As (Cz [.slice none 0 0] rfl AW rfl rfl (fun g2=>BK (Cz [.slice none 0 0] rfl AW rfl rfl (fun g3=>Am (Ac (As (Qm rfl (Am (Ag (BJ ?_))))))))))
 refine Ay (fun q sl hh ms'=>∃(i:Nat) (vO:Value) (mO:Hp) (O:List Ce),q=L.length-i/\sl=[(0,v),(2,.pointer (some ⟨g2,0,none⟩)),(3,.pointer (some ⟨g3,0,none⟩)),(4,.int .i64 i)]/\hp.le hh/\ms'=[mO,Bn g3 29 [vO],Bn g2 29 [.slice none 0 0]]/\i<=L.length/\OwnL cC 3 52 mO vO O/\O.map Ce.c=((range i).map fun k=>TD k (L.getD k []))/\∀a∈O,RdL cD 2 hh [] a.v a.c.sd)
  (L.length-0) _ ⟨0,_,Hp.emp,[],rfl,rfl,C9,rfl,by omega,OwnL.nil Ct,rfl,fun a ha=>nomatch ha⟩ Qs ?_
 rintro q sl hh ms' ⟨i,vO,mO,O,rfl,rfl,lh,rfl,hi,hO,hOc,hOs⟩;have hV:=hV.up lh;have hE:=hE.up lh;have ovO:=hO.o1;have hOl:O.length=i:=by have:=congrArg List.length hOc;simpa using this
 refine Ac (As (Qm rfl (Qm rfl (Qx (Ar hV.rd.any rfl Ch rfl) rfl (Qm rfl (Am ?_))))));refine Aq rfl (fun hlt=>?_) (fun hlt=>?_)
 ·have hil:i<L.length:=by omega
  have hie:i<es0.length:=by omega
  have hci:∀ms,Cell hh ms ((AF v).add (i*1)) es0[i]:=fun ms=>(hV.any (ms:=ms)).cell0 hie rfl;have hRi:=hE.2 i hie hil;have oei:=hRi.rd.one;obtain⟨hne,hl1,hlb⟩:=hb _ (getElem_mem hil);have hgi:L.getD i []=L[i]:=by simp[List.getD,hil]
  obtain⟨r,hr⟩:∃r,L[i]=r:=⟨_,rfl⟩
  rw[hr]at hne hl1 hlb hgi hRi;obtain⟨d,s,rfl⟩:∃d s,r=d::s:=by cases r with|nil=>exact absurd rfl hne|cons d s=>exact⟨d,s,rfl⟩
  have cd:∀ms,Cell hh ms ((AF es0[i]).add (0*1)) (.int .i64 d):=fun ms=>(hRi.any (ms:=ms)).cell0 (j:=0) (by simp) rfl;have hl0:0<(d::s).length:=by simp
  refine Ah (Ab ?_);refine A9 (fun sl h' ms'=>∃(vO:Value) (mO:Hp) (O:List Ce),sl=[(0,v),(2,.pointer (some ⟨g2,0,none⟩)),(3,.pointer (some ⟨g3,0,none⟩)),(4,.int .i64 i)]/\hh.le h'/\ms'=[mO,Bn g3 29 [vO],Bn g2 29 [.slice none 0 0]]/\OwnL cC 3 52 mO vO O/\O.map Ce.c=((range (i+1)).map fun k=>TD k (L.getD k []))/\∀a∈O,RdL cD 2 h' [] a.v a.c.sd) ?_ (fun s h ms hI=>?_)
  ·refine Ag ?_
   have hRs:RdL cI 1 hh [] (B4 1 es0[i] 1 (d::s).length) s:=by have:=hRi.sub_ (i:=1) (j:=(d::s).length) (by simp) (Nat.le_refl _);simpa using this
   let c:Cl:=⟨(i:Int)+1,d,s.map T3⟩
   refine BG (n:=20) (bs:=[true,false,true,true,true,true,true,true,true,true,true,true,true,true,true,false,false,false,true,false]) [true,false,true,true,true,true,true,true,true,true,true,true,true,true,true,false,false,false,true] CS (by kernel_rfl) (by kernel_rfl) rfl rfl (QF B8 rfl (Qq rfl (Qp rfl (oA rfl) (Qq rfl (Qq rfl (Qp rfl (BF (i) hV.rd.any rfl Ch Cr rfl rfl) (QL rfl AU (hci _) (Qp rfl (BF (0) hRi.rd.any rfl AU A6 rfl rfl) (QL rfl U3 (cd _) (Qq rfl (Qq rfl (Qp rfl (BF (i) hV.rd.any rfl Ch Cr rfl rfl) (QL rfl AU (hci _) (Qp rfl (CE (1) hRi.rd.any rfl AU A6 rfl rfl (by omega) (by omega)) (QF B8 rfl ?_)))))))))))))));unfold Ft;simp only[cons_append,nil_append];refine A4 [1,15] (by kernel_rfl) rfl ?_;refine AA rfl ?_ ?_
   ·refine Ql rfl Bh (Cell.blk 1 rfl rfl) (Qw (Qo 15 rfl ?_));refine Qc call176 rfl (Pf ((i:Int)+1) d s _ hh hRs (fun x hx=>hlb x (mem_cons_of_mem _ hx)) (by simp at hl1;omega)) (fun rc h2 ms2 l2 hF=>?_);obtain⟨rfl,vs,mS,rfl,rfl,hOS⟩:=hF;refine BA hOS fun h3 l3 hRS=>?_;have ovs:=hRS.rd.one;refine Qa (Qo 16 rfl (Ao [_,_,_] rfl Bh AI rfl (by rfl) rfl rfl (by omega) rfl rfl rfl (fun g27=>Qa (Qo 17 rfl ?_))));refine Bd 1 hO (RdL.one Ct (x:=(⟨c,vs⟩:Ce)) Mh rfl) rfl Bh AI rfl (by omega) rfl rfl rfl (Di (l:=[⟨c,vs⟩]) (h:=h3) fun y hy=>by rw[List.mem_singleton.1 hy];exact hRS) (by(try simp only[length_singleton]);omega) (by(try simp only[length_singleton]);omega) rfl rfl rfl (fun v9 m9 hO9=>?_);have ov9:=hO9.o1;refine Qa (Qo 19 rfl ?_);refine AS 2 _ rfl JP rfl rfl (by assumption) rfl rfl (by(simp;done)) rfl rfl ?_;refine Qa (Qe (AN (Ai ?_)));exact AD _ ⟨v9,m9,O++[⟨c,vs⟩],rfl,AJ l2 l3,rfl,hO9,by rw[KI,hgi,map_append,hOc];rfl,RdC.snoc' (fun a ha=>(hOs a ha).up (AJ l2 l3)) hRS⟩ Qs
   refine AA rfl ?_ ?_
   ·refine Qc call176 rfl (Pf ((i:Int)+1) d s _ hh hRs (fun x hx=>hlb x (mem_cons_of_mem _ hx)) (by simp at hl1;omega)) (fun rc h2 ms2 l2 hF=>?_);obtain⟨rfl,vs,mS,rfl,rfl,hOS⟩:=hF;refine BA hOS fun h3 l3 hRS=>?_;have ovs:=hRS.rd.one;refine Qa (A4 [1,16] (by kernel_rfl) rfl ?_);refine AA rfl ?_ ?_
    ·refine Ql rfl Bh (Cell.blk 1 rfl rfl) (Qa (Qo 16 rfl (Ao [_,_,_] rfl Bh AI rfl (by rfl) rfl rfl (by omega) rfl rfl rfl (fun g27=>Qa (Qo 17 rfl ?_)))));refine Bd 1 hO (RdL.one Ct (x:=(⟨c,vs⟩:Ce)) Mh rfl) rfl Bh AI rfl (by omega) rfl rfl rfl (Di (l:=[⟨c,vs⟩]) (h:=h3) fun y hy=>by rw[List.mem_singleton.1 hy];exact hRS) (by(try simp only[length_singleton]);omega) (by(try simp only[length_singleton]);omega) rfl rfl rfl (fun v9 m9 hO9=>?_);have ov9:=hO9.o1;refine Qa (Qo 19 rfl ?_);refine AS 2 _ rfl JP rfl rfl (by assumption) rfl rfl (by(simp;done)) rfl rfl ?_;refine Qa (Qe (AN (Ai ?_)));exact AD _ ⟨v9,m9,O++[⟨c,vs⟩],rfl,AJ l2 l3,rfl,hO9,by rw[KI,hgi,map_append,hOc];rfl,RdC.snoc' (fun a ha=>(hOs a ha).up (AJ l2 l3)) hRS⟩ Qs
    refine AA rfl ?_ ?_
    ·refine Ao [_,_,_] rfl Bh AI rfl (by rfl) rfl rfl (by omega) rfl rfl rfl (fun g27=>Qa (Qo 1 rfl (Ql rfl Bh (Cell.blk 2 rfl rfl) (Qa (Qo 17 rfl ?_)))));refine Bd 1 hO (RdL.one Ct (x:=(⟨c,vs⟩:Ce)) Mh rfl) rfl Bh AI rfl (by omega) rfl rfl rfl (Di (l:=[⟨c,vs⟩]) (h:=h3) fun y hy=>by rw[List.mem_singleton.1 hy];exact hRS) (by(try simp only[length_singleton]);omega) (by(try simp only[length_singleton]);omega) rfl rfl rfl (fun v9 m9 hO9=>?_);have ov9:=hO9.o1;refine Qa (Qo 19 rfl ?_);refine AS 2 _ rfl JP rfl rfl (by assumption) rfl rfl (by(simp;done)) rfl rfl ?_;refine Qa (Qe (AN (Ai ?_)));exact AD _ ⟨v9,m9,O++[⟨c,vs⟩],rfl,AJ l2 l3,rfl,hO9,by rw[KI,hgi,map_append,hOc];rfl,RdC.snoc' (fun a ha=>(hOs a ha).up (AJ l2 l3)) hRS⟩ Qs
    exact A5
   exact A5
  ·obtain⟨vO,mO,O,rfl,l2,rfl,hO,hOc,hOs⟩:=hI;have ovO:=hO.o1;refine Ad (Qm rfl (Qx (oA rfl) rfl (Qm rfl (Ak ?_))));exact Al (L.length-(i+1)) _ (by omega) ⟨i+1,vO,mO,O,rfl,rfl,AJ lh l2,rfl,by omega,hO,hOc,hOs⟩ Qs
 ·obtain rfl:i=L.length:=by omega
  refine Av (Aa (Aa (Af (Ab (As (Qx (oG rfl CF AW (Seg.blk 1 rfl)) rfl ?_))))));refine Sa 2 [_] AW rfl (by simp[o1,ovO]) ?_;refine Am (An (A8 1 rfl ?_));exact By (vs:=[_]) 1 rfl rfl CF rfl AW rfl rfl (⟨lh,mO,O,_,rfl,rfl,hO,hOc,hOs⟩)
theorem B9{h:Hp}{el:TypeId}{g:Nat}(l:List Int)(n:Nat)(e:l.length=n)(hn:n<=1000)(k:(Bn g el (l.flatMap cI)).le h):RdL cI 1 h [] (.slice (some ⟨g,0,none⟩) n n) l:=by subst e;exact(OwnL.blk (g:=g) (el:=el) (F:=cI) (l:=l) l.length Bg rfl (by omega)).rdh k
theorem II(n:Nat):LC (n+1)=LC n++[Lr (n+1),Lr (n+1)]:=by unfold LC;rw[range_succ,List.flatMap_append,<-append_assoc];rfl
theorem RX(n:Nat):(LC n).length=2+2*n:=by
 induction n with
 | zero=>rfl
 | succ n ih=>rw[II,length_append,ih];simp;omega
theorem ZC(n:Nat)(hn:n<=4):∀l∈LC n,l≠[]/\l.length<=1000/\∀x∈l,-1000000<=x/\x<=1000000:=by rcases (by omega:n=0\/n=1\/n=2\/n=3\/n=4) with rfl|rfl|rfl|rfl|rfl<;>decide
def MB(m i:Nat):List (List Int):=([[0],[0],[0],[0],[1,-2,3],[1,-3,4],[1,-4,2]]:List (List Int))++((range i).map fun(k:Nat)=>[(1:Int),-1,2+((k%3:Nat):Int)])
def QE(m i:Nat):List (List Int):=(range i).map fun(k:Nat)=>[(2:Int),8+(k:Int),5+((k%3:Nat):Int),-(8+(((k+1)%m:Nat):Int))]
theorem XG(n:Nat):PQ n=MB (3*n) (3*n)++QE (3*n) (3*n):=rfl
theorem TU(m i:Nat):MB m (i+1)=MB m i++[[(1:Int),-1,2+((i%3:Nat):Int)]]:=by unfold MB;rw[range_succ,map_append,append_assoc];rfl
theorem TT(m i:Nat):QE m (i+1)=QE m i++[[(2:Int),8+(i:Int),5+((i%3:Nat):Int),-(8+(((i+1)%m:Nat):Int))]]:=by unfold QE;rw[range_succ,map_append];rfl
theorem ZW(n:Nat)(hn:n=3\/n=4):∀l∈PQ n,l≠[]/\l.length<=1000/\∀x∈l,-1000000<=x/\x<=1000000:=by rcases hn with rfl|rfl<;>decide
theorem Hn(n:Nat)(hp:Hp)(hn:n<=4):FnT Tryz.prog 115 #[.int .i64 n] hp [] (fun r h' ms'=>hp.le h'/\QP h' r ms' (fun o=>o=Po (LC n))):=by
 refine Ap func115 ntmps115 rfl rfl (fun w0 hw0=>?_);simp only[AX];have hE:=RdEs.nil hp;refine As (Cz [.slice none 0 0] rfl AW rfl rfl (fun g2=>BK (Ao [_] rfl AU A6 rfl (by rfl) rfl rfl (by omega) rfl rfl rfl (fun g7=>AH fun h1 l1 k1=>?_))));have hE:=(hE.up l1).snoc (B9 [0] 1 rfl (by decide) k1);refine Ao [_] rfl AU A6 rfl (by rfl) rfl rfl (by omega) rfl rfl rfl (fun g8=>AH fun h2 l2 k2=>?_);have hE:=(hE.up l2).snoc (B9 [0] 1 rfl (by decide) k2);refine Ax [(0,_),(1,_)] [.slice none 0 0,.slice none 0 0] [_,_] rfl Ch Cr rfl (by omega) (by kernel_rfl) Qt rfl rfl rfl rfl (fun g9=>Qm rfl (Am (Ac (As (Qm rfl (Am (Ag ?_)))))))
 refine Ay (fun q sl h' ms'=>∃(i:Nat) (v3:Value) (m3:Hp) (es:List Value),q=n-i/\sl=[(0,.int .i64 n),(2,.pointer (some ⟨g2,0,none⟩)),(3,v3),(4,.int .i64 ((i:Int)+1))]/\hp.le h'/\ms'=[m3,Bn g2 29 [.slice none 0 0]]/\i<=n/\OwnL cW 1 22 m3 v3 es/\RdEs h' es (LC i))
  (n-0) _ ⟨0,_,_,_,rfl,rfl,AJ l1 l2,rfl,by omega,OwnL.blk (g:=g9) (el:=22) (F:=cW) (l:=[_,_]) 2 DG rfl (by decide),hE⟩ Qs ?_
 rintro q sl h' ms' ⟨i,v3,m3,es,rfl,rfl,lh,rfl,hi,hO,hE⟩;have hel:es.length=2+2*i:=by rw[hE.1,RX]
 have ov3:=hO.o1;refine Ac (As (Qm rfl (Qm rfl (Qm rfl (Am ?_)))));refine Aq rfl (fun hlt=>?_) (fun hlt=>?_)
 ·refine Ah (Ab (Ac (Ag (As (Qm rfl (Qx (oM rfl) rfl (Qx (oS rfl) rfl (Qm rfl (BK (Qm rfl (Qm rfl (Qx (M1 rfl rfl (by omega)) rfl (Qm rfl (Qx (oA rfl) rfl (Ax [(0,_),(1,_),(2,_)] [.int .i64 0,.int .i64 0,.int .i64 0] [_,_,_] rfl AU A6 rfl (by omega) (by kernel_rfl) Qt rfl rfl rfl rfl (fun g23=>Qm rfl (Am (Bq fun h3 l3 k3=>?_))))))))))))))))));have hE:=hE.up l3;refine Ac (As (Qm rfl (Qx (Cc rfl rfl rfl (by omega) (by omega)) rfl (Qm rfl (Am ?_)))));refine Aq rfl (fun hev=>?_) (fun hev=>?_)
  ·refine Ad (Qm rfl (Qm rfl (Qm rfl (Qx (oA rfl) rfl (Qx (M1 rfl rfl (by omega)) rfl (Ax [(0,_),(1,_),(2,_)] [.int .i64 0,.int .i64 0,.int .i64 0] [_,_,_] rfl AU A6 rfl (by omega) (by kernel_rfl) Qt rfl rfl rfl rfl (fun g32=>Qm rfl (Am (Bq fun h4 l4 k4=>?_)))))))));have hE:=hE.up l4;refine Ac (As (Qm rfl (Qm rfl (Am ?_))));refine Aq rfl (fun h1=>?_) (fun h1=>?_)
   ·exact absurd h1 (by omega)
   ·have hrow:RdL cI 1 h4 [] (.slice (some ⟨g32,0,none⟩) 3 3) (Lr (i+1)):=by
     have:=B9 (el:=3) (g:=g32) (h:=h4) [(i:Int)+1,2*((i:Int)+1)-1,-(2*((i:Int)+1)-1+1)] 3 rfl (by decide) k4
     have e:Lr (i+1)=[(i:Int)+1,2*((i:Int)+1)-1,-(2*((i:Int)+1)-1+1)]:=by unfold Lr;rw[if_neg (by omega),if_pos (by omega)];simp<;>omega
     rw[e];exact this
    refine Ah (Ab (Ad (Qm rfl (Qm rfl (Qm rfl (Ax [(0,_),(1,_)] [.slice none 0 0,.slice none 0 0] [_,_] rfl Ch Cr rfl (by omega) (by kernel_rfl) Qt rfl rfl rfl rfl (fun g39=>?_)))))));refine Bd 1 hO (OwnL.blk (g:=g39) (F:=cW) (l:=[.slice (some ⟨g32,0,none⟩) 3 3,.slice (some ⟨g32,0,none⟩) 3 3]) 2 DG rfl (by decide) |>.rd Mh) rfl Ch Cr rfl (by omega) rfl rfl rfl (Gp fun u hu=>by simp only[mem_cons,not_mem_nil,or_false]at hu;rcases hu with rfl|rfl<;>rfl) (by(try simp only[length_cons,length_nil]);omega) (by(try simp only[length_cons,length_nil]);omega) rfl rfl rfl (fun v9 m9 hO9=>?_);have ov9:=hO9.o1;refine Qm rfl (Ak (Ai (Ab (Ad (Qm rfl (Qx (oA rfl) rfl (Qm rfl (Ak (A8 0 rfl ?_)))))))));exact Al (n-(i+1)) _ (by omega) ⟨i+1,v9,m9,_,rfl,rfl,AJ lh (AJ l3 l4),rfl,by omega,hO9,by rw[II];have:=(hE.snoc hrow).snoc hrow;rwa [append_assoc,append_assoc]at this⟩ Qs
  ·refine Ah (Ab (Ac (As (Qm rfl (Qm rfl (Am ?_))))));refine Aq rfl (fun h1=>?_) (fun h1=>?_)
   ·refine Ad (Ax [(0,_),(1,_),(2,_)] [.int .i64 0,.int .i64 0,.int .i64 0] [_,_,_] rfl AU A6 rfl (by omega) (by kernel_rfl) Qt rfl rfl rfl rfl (fun g35=>Qm rfl (Am (Bq fun h4 l4 k4=>?_))));have hE:=hE.up l4;have hi0:i=0:=by omega
    have hrow:RdL cI 1 h4 [] (.slice (some ⟨g35,0,none⟩) 3 3) (Lr (i+1)):=by subst hi0;exact B9 (el:=3) (g:=g35) (h:=h4) [1,-1,2] 3 rfl (by decide) k4
    refine Ad (Qm rfl (Qm rfl (Qm rfl (Ax [(0,_),(1,_)] [.slice none 0 0,.slice none 0 0] [_,_] rfl Ch Cr rfl (by omega) (by kernel_rfl) Qt rfl rfl rfl rfl (fun g39=>?_)))));refine Bd 1 hO (OwnL.blk (g:=g39) (F:=cW) (l:=[.slice (some ⟨g35,0,none⟩) 3 3,.slice (some ⟨g35,0,none⟩) 3 3]) 2 DG rfl (by decide) |>.rd Mh) rfl Ch Cr rfl (by omega) rfl rfl rfl (Gp fun u hu=>by simp only[mem_cons,not_mem_nil,or_false]at hu;rcases hu with rfl|rfl<;>rfl) (by(try simp only[length_cons,length_nil]);omega) (by(try simp only[length_cons,length_nil]);omega) rfl rfl rfl (fun v9 m9 hO9=>?_);have ov9:=hO9.o1;refine Qm rfl (Ak (Ai (Ab (Ad (Qm rfl (Qx (oA rfl) rfl (Qm rfl (Ak (A8 0 rfl ?_)))))))));exact Al (n-(i+1)) _ (by omega) ⟨i+1,v9,m9,_,rfl,rfl,AJ lh (AJ l3 l4),rfl,by omega,hO9,by rw[II];have:=(hE.snoc hrow).snoc hrow;rwa [append_assoc,append_assoc]at this⟩ Qs
   ·have hrow:RdL cI 1 h3 [] (.slice (some ⟨g23,0,none⟩) 3 3) (Lr (i+1)):=by
     have:=B9 (el:=3) (g:=g23) (h:=h3) [(i:Int)+1,-(2*((i:Int)+1)-1),2*((i:Int)+1)-1+1] 3 rfl (by decide) k3
     have e:Lr (i+1)=[(i:Int)+1,-(2*((i:Int)+1)-1),2*((i:Int)+1)-1+1]:=by unfold Lr;rw[if_neg (by omega),if_neg (by omega)];simp<;>omega
     rw[e];exact this
    refine Ah (Ab (Ad (Qm rfl (Qm rfl (Qm rfl (Ax [(0,_),(1,_)] [.slice none 0 0,.slice none 0 0] [_,_] rfl Ch Cr rfl (by omega) (by kernel_rfl) Qt rfl rfl rfl rfl (fun g39=>?_)))))));refine Bd 1 hO (OwnL.blk (g:=g39) (F:=cW) (l:=[.slice (some ⟨g23,0,none⟩) 3 3,.slice (some ⟨g23,0,none⟩) 3 3]) 2 DG rfl (by decide) |>.rd Mh) rfl Ch Cr rfl (by omega) rfl rfl rfl (Gp fun u hu=>by simp only[mem_cons,not_mem_nil,or_false]at hu;rcases hu with rfl|rfl<;>rfl) (by(try simp only[length_cons,length_nil]);omega) (by(try simp only[length_cons,length_nil]);omega) rfl rfl rfl (fun v9 m9 hO9=>?_);have ov9:=hO9.o1;refine Qm rfl (Ak (Ai (Ab (Ad (Qm rfl (Qx (oA rfl) rfl (Qm rfl (Ak (A8 0 rfl ?_)))))))));exact Al (n-(i+1)) _ (by omega) ⟨i+1,v9,m9,_,rfl,rfl,AJ lh l3,rfl,by omega,hO9,by rw[II];have:=(hE.snoc hrow).snoc hrow;rwa [append_assoc,append_assoc]at this⟩ Qs
 ·obtain rfl:i=n:=by omega
  refine Bq fun h3 l3 k3=>?_;have hV:=hO.rdh (ms:=[]) k3;have hE:=hE.up l3;refine Av (Aa (Aa (Af (Ab (As (Qm rfl ?_))))));refine Qc call114 rfl (Hk (LC i) _ _ h3 hV hE (ZC i hn) (by rw[RX];omega)) (fun rC h5 ms5 l5 hF=>?_);obtain⟨l5',m,A,vA,rfl,rfl,hOA,hA,hs⟩:=hF;have ovA:=hOA.o1;refine Sa 1 [_] AW rfl (by simp[ov3,ovA]) ?_;refine Am (An ?_);exact By (vs:=[_]) 1 rfl rfl CF rfl AW rfl rfl (⟨AJ lh (AJ l3 l5),m,A,_,rfl,rfl,hOA,hA,hs⟩)
theorem NU(n:Nat)(hp:Hp)(hn:n=3\/n=4):FnT Tryz.prog 116 #[.int .i64 n] hp [] (fun r h' ms'=>hp.le h'/\QP h' r ms' (fun o=>o=Po (PQ n))):=by
 have hn4:n<=4:=by omega
 refine Ap func116 ntmps116 rfl rfl (fun w0 hw0=>?_);simp only[AX];have hE:=RdEs.nil hp;refine As (Cz [.slice none 0 0] rfl AW rfl rfl (fun g2=>BK (Ao [_] rfl AU A6 rfl (by rfl) rfl rfl (by omega) rfl rfl rfl (fun g6=>AH fun h1 l1 k1=>?_))));have hE:=(hE.up l1).snoc (B9 [0] 1 rfl (by decide) k1);refine Ao [_] rfl AU A6 rfl (by rfl) rfl rfl (by omega) rfl rfl rfl (fun g7=>AH fun h2 l2 k2=>?_);have hE:=(hE.up l2).snoc (B9 [0] 1 rfl (by decide) k2);refine Ao [_] rfl AU A6 rfl (by rfl) rfl rfl (by omega) rfl rfl rfl (fun g8=>AH fun h3 l3 k3=>?_);have hE:=(hE.up l3).snoc (B9 [0] 1 rfl (by decide) k3);refine Ao [_] rfl AU A6 rfl (by rfl) rfl rfl (by omega) rfl rfl rfl (fun g9=>AH fun h4 l4 k4=>?_);have hE:=(hE.up l4).snoc (B9 [0] 1 rfl (by decide) k4);refine Ax [(0,_),(1,_),(2,_)] [.int .i64 0,.int .i64 0,.int .i64 0] [_,_,_] rfl AU A6 rfl (by omega) (by kernel_rfl) Qt rfl rfl rfl rfl (fun g10=>AH fun h5 l5 k5=>?_);have hE:=(hE.up l5).snoc (B9 [1,-2,3] 3 rfl (by decide) k5);refine Ax [(0,_),(1,_),(2,_)] [.int .i64 0,.int .i64 0,.int .i64 0] [_,_,_] rfl AU A6 rfl (by omega) (by kernel_rfl) Qt rfl rfl rfl rfl (fun g11=>AH fun h6 l6 k6=>?_);have hE:=(hE.up l6).snoc (B9 [1,-3,4] 3 rfl (by decide) k6);refine Ax [(0,_),(1,_),(2,_)] [.int .i64 0,.int .i64 0,.int .i64 0] [_,_,_] rfl AU A6 rfl (by omega) (by kernel_rfl) Qt rfl rfl rfl rfl (fun g12=>AH fun h7 l7 k7=>?_);have hE:=(hE.up l7).snoc (B9 [1,-4,2] 3 rfl (by decide) k7);have l17:=AJ l1 (AJ l2 (AJ l3 (AJ l4 (AJ l5 (AJ l6 l7)))));refine Ax [(0,_),(1,_),(2,_),(3,_),(4,_),(5,_),(6,_)] [.slice none 0 0,.slice none 0 0,.slice none 0 0,.slice none 0 0,.slice none 0 0,.slice none 0 0,.slice none 0 0] [_,_,_,_,_,_,_] rfl Ch Cr rfl (by omega) (by kernel_rfl) Qt rfl rfl rfl rfl (fun g13=>Qm rfl (Am ?_));obtain⟨M,hM⟩:∃M,3*n=M:=⟨_,rfl⟩
 have hM3:3*(n:Int)=M:=by omega
 have hMb:9<=M/\M<=12:=by omega
 refine A9 (fun sl h' ms'=>∃(v3:Value) (m3:Hp) (es:List Value),sl=[(0,.int .i64 n),(2,.pointer (some ⟨g2,0,none⟩)),(3,v3)]/\hp.le h'/\ms'=[m3,Bn g2 29 [.slice none 0 0]]/\OwnL cW 1 22 m3 v3 es/\RdEs h' es (MB M M)) ?_ (fun s h ms hI=>?_)
 ·refine Ac (Ad (Qm rfl (Am (Ag ?_))))
  refine Ay (fun q sl h' ms'=>∃(i:Nat) (v3:Value) (m3:Hp) (es:List Value),q=M-i/\sl=[(0,.int .i64 n),(2,.pointer (some ⟨g2,0,none⟩)),(3,v3),(4,.int .i64 i)]/\hp.le h'/\ms'=[m3,Bn g2 29 [.slice none 0 0]]/\i<=M/\OwnL cW 1 22 m3 v3 es/\RdEs h' es (MB M i))
   (M-0) _ ⟨0,_,_,_,rfl,rfl,l17,rfl,by omega,OwnL.blk (g:=g13) (el:=22) (F:=cW) (l:=[_,_,_,_,_,_,_]) 7 DG rfl (by decide),hE⟩ Qs ?_
  rintro q sl h' ms' ⟨i,v3,m3,es,rfl,rfl,lh,rfl,hi,hO,hE⟩;have hel:es.length=7+i:=by rw[hE.1];unfold MB;simp;omega
  have ov3:=hO.o1;refine Ac (As (Qm rfl (Qm rfl (Qx (oM rfl) rfl (Qm rfl (Am ?_))))));refine Aq rfl (fun hlt=>?_) (fun hlt=>?_)
  ·refine Ah (Ab (Ac (Ag (Ad (Qm rfl (Qm rfl (Qx (Cc rfl rfl rfl (by omega) (by omega)) rfl (Qx (oA rfl) rfl (Ax [(0,_),(1,_),(2,_)] [.int .i64 0,.int .i64 0,.int .i64 0] [_,_,_] rfl AU A6 rfl (by omega) (by kernel_rfl) Qt rfl rfl rfl rfl (fun g24=>AH fun h8 l8 k8=>?_))))))))));have hrow:RdL cI 1 h8 [] (.slice (some ⟨g24,0,none⟩) 3 3) [(1:Int),-1,2+((i%3:Nat):Int)]:=B9 (el:=3) [(1:Int),-1,2+((i%3:Nat):Int)] 3 rfl (by decide) k8;have hE:=hE.up l8;refine Ao [_] rfl Ch Cr rfl (by rfl) rfl rfl (by omega) rfl rfl rfl (fun g25=>?_);refine Bd 1 hO (RdL.one DG (x:=(.slice (some ⟨g24,0,none⟩) 3 3:Value)) Mh rfl) rfl Ch Cr rfl (by omega) rfl rfl rfl (Gp fun u hu=>by rw[List.mem_singleton.1 hu];rfl) (by(try simp only[length_singleton]);omega) (by(try simp only[length_singleton]);omega) rfl rfl rfl (fun v9 m9 hO9=>?_);have ov9:=hO9.o1;refine Qm rfl (Ak (Ai (Ab (Ad (Qm rfl (Qx (oA rfl) rfl (Qm rfl (Ak (A8 0 rfl ?_)))))))));exact Al (M-(i+1)) _ (by omega) ⟨i+1,v9,m9,_,rfl,rfl,AJ lh l8,rfl,by omega,hO9,by rw[TU];exact hE.snoc hrow⟩ Qs
  ·obtain rfl:i=M:=by omega
   refine Av (Aa (Aa (Af ?_)));exact AD _ ⟨v3,m3,es,rfl,lh,rfl,hO,hE⟩ Qs
 ·obtain⟨v3,m3,es,rfl,lh,rfl,hO,hE⟩:=hI;have hEl:=hE.1;refine Ac (As (Qm rfl (Am (Ag ?_))))
  refine Ay (fun q sl h' ms'=>∃(i:Nat) (v3:Value) (m3:Hp) (es:List Value),q=M-i/\sl=[(0,.int .i64 n),(2,.pointer (some ⟨g2,0,none⟩)),(3,v3),(5,.int .i64 i)]/\hp.le h'/\ms'=[m3,Bn g2 29 [.slice none 0 0]]/\i<=M/\OwnL cW 1 22 m3 v3 es/\RdEs h' es (MB M M++QE M i))
   (M-0) _ ⟨0,v3,m3,es,rfl,rfl,lh,rfl,by omega,hO,by rw[show QE M 0=[] from rfl,append_nil];exact hE⟩ Qs ?_
  rintro q sl h' ms' ⟨i,v3,m3,es,rfl,rfl,lh,rfl,hi,hO,hE⟩;have hel:es.length=7+M+i:=by rw[hE.1];unfold MB QE;simp;omega
  have ov3:=hO.o1;refine Ac (As (Qm rfl (Qm rfl (Qx (oM rfl) rfl (Qm rfl (Am ?_))))));refine Aq rfl (fun hlt=>?_) (fun hlt=>?_)
  ·have hm0:0<=((i:Int)+1)%(3*(n:Int)):=Int.emod_nonneg _ (by omega);have hm1:((i:Int)+1)%(3*(n:Int))<3*(n:Int):=Int.emod_lt_of_pos _ (by omega);refine Ah (Ab (Ac (Ag (Ad (Qm rfl (Qm rfl (Qx (oA rfl) rfl (Qm rfl (Qx (Cc rfl rfl rfl (by omega) (by omega)) rfl (Qx (oA rfl) rfl (Qm rfl (Qx (oA rfl) rfl (Qm rfl (Qx (oM rfl) rfl (Qx (Cc rfl rfl rfl (by omega) (by omega)) rfl (Qx (oA rfl) rfl (Qx (M1 rfl rfl (by omega)) rfl (Ax [(0,_),(1,_),(2,_),(3,_)] [.int .i64 0,.int .i64 0,.int .i64 0,.int .i64 0] [_,_,_,_] rfl AU A6 rfl (by omega) (by kernel_rfl) Qt rfl rfl rfl rfl (fun g46=>AH fun h8 l8 k8=>?_)))))))))))))))))));have hrow:RdL cI 1 h8 [] (.slice (some ⟨g46,0,none⟩) 4 4) [(2:Int),8+(i:Int),5+((i%3:Nat):Int),-(8+(((i+1)%M:Nat):Int))]:=B9 (el:=3) [(2:Int),8+(i:Int),5+((i%3:Nat):Int),-(8+(((i+1)%M:Nat):Int))] 4 rfl (by decide) (by subst hM;exact k8);have hE:=hE.up l8;refine Ao [_] rfl Ch Cr rfl (by rfl) rfl rfl (by omega) rfl rfl rfl (fun g47=>?_);refine Bd 1 hO (RdL.one DG (x:=(.slice (some ⟨g46,0,none⟩) 4 4:Value)) Mh rfl) rfl Ch Cr rfl (by omega) rfl rfl rfl (Gp fun u hu=>by rw[List.mem_singleton.1 hu];rfl) (by(try simp only[length_singleton]);omega) (by(try simp only[length_singleton]);omega) rfl rfl rfl (fun v9 m9 hO9=>?_);have ov9:=hO9.o1;refine Qm rfl (Ak (Ai (Ab (Ad (Qm rfl (Qx (oA rfl) rfl (Qm rfl (Ak (A8 0 rfl ?_)))))))));exact Al (M-(i+1)) _ (by omega) ⟨i+1,v9,m9,_,rfl,rfl,AJ lh l8,rfl,by omega,hO9,by rw[TT,<-append_assoc];exact hE.snoc hrow⟩ Qs
  ·obtain rfl:i=M:=by omega
   refine Bq fun h9 l9 k9=>?_;have hV:=hO.rdh (ms:=[]) k9;have hE:RdEs h9 es (PQ n):=by rw[XG,hM];exact hE.up l9
   refine Av (Aa (Aa (Af (Ab (As (Qm rfl ?_))))));refine Qc call114 rfl (Hk (PQ n) _ _ h9 hV hE (ZW n hn) (by rw[<-hE.1];omega)) (fun rC h10 ms10 l10 hF=>?_);obtain⟨l10',m,A,vA,rfl,rfl,hOA,hA,hs⟩:=hF;have ovA:=hOA.o1;refine Sa 1 [_] AW rfl (by simp[ov3,ovA]) ?_;refine Am (An ?_);exact By (vs:=[_]) 1 rfl rfl CF rfl AW rfl rfl (⟨AJ lh (AJ l9 l10),m,A,_,rfl,rfl,hOA,hA,hs⟩)
theorem GM{L:List (List Int)}(h:L=[[0]]\/L=ZI\/L=Aao\/L=Zz):L.length<=1000/\∀l∈L,l≠[]/\l.length<=1000/\∀x∈l,-1000000<=x/\x<=1000000:=by rcases h with rfl|rfl|rfl|rfl<;>decide
theorem Il(n:Int)(hp:Hp)(hn:BH n):FnT Tryz.prog 45 #[.int .i64 n] hp [] (fun r h' ms'=>hp.le h'/\QP h' r ms' (fun o=>o=Po (EZ (n%10).toNat))):=by
 refine Ap func45 ntmps45 rfl rfl (fun w0 hw0=>?_);simp only[AX];obtain⟨k,hk⟩:∃k:Nat,n%10=k:=⟨(n%10).toNat,by omega⟩
 have hk10:k<10:=by omega
 rw[hk,Int.toNat_natCast];refine As (Cz [.slice none 0 0] rfl AW rfl rfl (fun g2=>Am (Ac (As (Qm rfl (Qx (AL rfl call34 rfl (Gf n 10 hn (by decide) _ _)) rfl (Am (Ag (As (Qm rfl (Qm rfl (Am ?_))))))))))));refine Aq rfl (fun h0=>?_) (fun h0=>?_)
 ·have hE:=RdEs.nil hp;refine As (Ao [_] rfl AU A6 rfl (by rfl) rfl rfl (by omega) rfl rfl rfl (fun g7=>AH fun h1 l1 k1=>?_));have hE:=(hE.up l1).snoc (B9 [0] 1 rfl (by decide) k1);refine Ao [_] rfl Ch Cr rfl (by rfl) rfl rfl (by omega) rfl rfl rfl (fun g8=>AH fun hz lz kz=>?_);have hE:=hE.up lz;have hV:=(OwnL.blk (g:=g8) (el:=22) (F:=cW) (l:=[_]) 1 DG rfl (by decide)).rdh (ms:=[]) kz;have lall:=(AJ l1 lz)
  refine Qc call114 rfl (Hk [[0]] _ _ hz hV hE (GM (.inl rfl)).2 (GM (.inl rfl)).1) (fun rC hc msc lc hF=>?_);obtain⟨lc',m,A,vA,rfl,rfl,hOA,hA,hs⟩:=hF;have ovA:=hOA.o1;refine Sa 1 [_] AW rfl (by simp[ovA]) ?_;refine Am (An (Aj (Ae ?_)));exact By (vs:=[_]) 1 rfl rfl CF rfl AW rfl rfl (⟨AJ lall lc',m,A,_,rfl,rfl,hOA,by rw[hA];unfold EZ;rw[if_pos (by omega)],hs⟩)
 ·refine Ac (As (Qm rfl (Qm rfl (Am ?_))));refine Aq rfl (fun h1=>?_) (fun h1=>?_)
  ·refine Ah (Ab ?_);refine Aq rfl (fun hc=>?_) (fun hc=>absurd (h1) hc);refine As (Qm rfl (Qx (AL rfl call34 rfl (Gf n 10 hn (by decide) _ _)) rfl ?_));rw[hk];refine Qc call115 rfl (Hn k hp (by omega)) (fun rC hc msc lc hF=>?_);obtain⟨lc',m,A,vA,rfl,rfl,hOA,hA,hs⟩:=hF;have ovA:=hOA.o1;refine Sa 1 [_] AW rfl (by simp[ovA]) ?_;refine Am (An (Aj (Ae ?_)));exact By (vs:=[_]) 1 rfl rfl CF rfl AW rfl rfl (⟨lc',m,A,_,rfl,rfl,hOA,by rw[hA];unfold EZ;rw[if_neg (by omega),if_pos (by omega)],hs⟩)
  ·refine Ac (Ad (Qm rfl (Qm rfl (Am ?_))));refine Aq rfl (fun h2=>?_) (fun h2=>?_)
   ·refine Ah (Ab ?_);refine Aq rfl (fun hc=>?_) (fun hc=>absurd (h2) hc);refine As (Qm rfl (Qx (AL rfl call34 rfl (Gf n 10 hn (by decide) _ _)) rfl ?_));rw[hk];refine Qc call115 rfl (Hn k hp (by omega)) (fun rC hc msc lc hF=>?_);obtain⟨lc',m,A,vA,rfl,rfl,hOA,hA,hs⟩:=hF;have ovA:=hOA.o1;refine Sa 1 [_] AW rfl (by simp[ovA]) ?_;refine Am (An (Aj (Ae ?_)));exact By (vs:=[_]) 1 rfl rfl CF rfl AW rfl rfl (⟨lc',m,A,_,rfl,rfl,hOA,by rw[hA];unfold EZ;rw[if_neg (by omega),if_pos (by omega)],hs⟩)
   ·refine Ad (Qm rfl (Qm rfl (Am ?_)));refine Aq rfl (fun h3=>?_) (fun h3=>?_)
    ·refine Ac (Ad (Qm rfl (Qx (AL rfl call34 rfl (Gf n 10 hn (by decide) _ _)) rfl ?_)));rw[hk];refine Qc call115 rfl (Hn k hp (by omega)) (fun rC hc msc lc hF=>?_);obtain⟨lc',m,A,vA,rfl,rfl,hOA,hA,hs⟩:=hF;have ovA:=hOA.o1;refine Sa 1 [_] AW rfl (by simp[ovA]) ?_;refine Am (An (Aj (Ae ?_)));exact By (vs:=[_]) 1 rfl rfl CF rfl AW rfl rfl (⟨lc',m,A,_,rfl,rfl,hOA,by rw[hA];unfold EZ;rw[if_neg (by omega),if_pos (by omega)],hs⟩)
    ·refine Ac (Ad (Qm rfl (Qm rfl (Am ?_))));refine Aq rfl (fun h4=>?_) (fun h4=>?_)
     ·refine Ac (Ad (Qc call115 rfl (Hn 0 hp (by omega)) (fun rC hc msc lc hF=>?_)));obtain⟨lc',m,A,vA,rfl,rfl,hOA,hA,hs⟩:=hF;have ovA:=hOA.o1;refine Sa 1 [_] AW rfl (by simp[ovA]) ?_;refine Am (An (Aj (Ae ?_)));exact By (vs:=[_]) 1 rfl rfl CF rfl AW rfl rfl (⟨lc',m,A,_,rfl,rfl,hOA,by rw[hA];unfold EZ;rw[if_neg (by omega),if_neg (by omega),if_pos (by omega)],hs⟩)
     ·refine Ac (Ad (Qm rfl (Qm rfl (Am ?_))));refine Aq rfl (fun h5=>?_) (fun h5=>?_)
      ·have hE:=RdEs.nil hp;refine As (Ao [_] rfl AU A6 rfl (by rfl) rfl rfl (by omega) rfl rfl rfl (fun g22=>AH fun h1 l1 k1=>?_));have hE:=(hE.up l1).snoc (B9 [0] 1 rfl (by decide) k1);refine Ao [_] rfl AU A6 rfl (by rfl) rfl rfl (by omega) rfl rfl rfl (fun g23=>AH fun h2 l2 k2=>?_);have hE:=(hE.up l2).snoc (B9 [0] 1 rfl (by decide) k2);refine Ao [_] rfl AU A6 rfl (by rfl) rfl rfl (by omega) rfl rfl rfl (fun g24=>AH fun h3 l3 k3=>?_);have hE:=(hE.up l3).snoc (B9 [0] 1 rfl (by decide) k3);refine Ax [(0,_),(1,_),(2,_)] [.int .i64 0,.int .i64 0,.int .i64 0] [_,_,_] rfl AU A6 rfl (by omega) (by kernel_rfl) Qt rfl rfl rfl rfl (fun g25=>AH fun h4 l4 k4=>?_);have hE:=(hE.up l4).snoc (B9 [1,-1,2] 3 rfl (by decide) k4);refine Ax [(0,_),(1,_),(2,_)] [.int .i64 0,.int .i64 0,.int .i64 0] [_,_,_] rfl AU A6 rfl (by omega) (by kernel_rfl) Qt rfl rfl rfl rfl (fun g26=>AH fun h5 l5 k5=>?_);have hE:=(hE.up l5).snoc (B9 [1,-1,2] 3 rfl (by decide) k5);refine Ax [(0,_),(1,_),(2,_)] [.int .i64 0,.int .i64 0,.int .i64 0] [_,_,_] rfl AU A6 rfl (by omega) (by kernel_rfl) Qt rfl rfl rfl rfl (fun g27=>AH fun h6 l6 k6=>?_);have hE:=(hE.up l6).snoc (B9 [1,-2,3] 3 rfl (by decide) k6);refine Ax [(0,_),(1,_),(2,_)] [.int .i64 0,.int .i64 0,.int .i64 0] [_,_,_] rfl AU A6 rfl (by omega) (by kernel_rfl) Qt rfl rfl rfl rfl (fun g28=>AH fun h7 l7 k7=>?_);have hE:=(hE.up l7).snoc (B9 [1,-2,3] 3 rfl (by decide) k7);refine Ax [(0,_),(1,_),(2,_)] [.int .i64 0,.int .i64 0,.int .i64 0] [_,_,_] rfl AU A6 rfl (by omega) (by kernel_rfl) Qt rfl rfl rfl rfl (fun g29=>AH fun h8 l8 k8=>?_);have hE:=(hE.up l8).snoc (B9 [1,-1,3] 3 rfl (by decide) k8);refine Ax [(0,_),(1,_),(2,_)] [.int .i64 0,.int .i64 0,.int .i64 0] [_,_,_] rfl AU A6 rfl (by omega) (by kernel_rfl) Qt rfl rfl rfl rfl (fun g30=>AH fun h9 l9 k9=>?_);have hE:=(hE.up l9).snoc (B9 [1,-1,3] 3 rfl (by decide) k9);refine Ax [(0,_),(1,_),(2,_),(3,_)] [.int .i64 0,.int .i64 0,.int .i64 0,.int .i64 0] [_,_,_,_] rfl AU A6 rfl (by omega) (by kernel_rfl) Qt rfl rfl rfl rfl (fun g31=>AH fun h10 l10 k10=>?_);have hE:=(hE.up l10).snoc (B9 [2,4,6,-8] 4 rfl (by decide) k10);refine Ax [(0,_),(1,_),(2,_),(3,_)] [.int .i64 0,.int .i64 0,.int .i64 0,.int .i64 0] [_,_,_,_] rfl AU A6 rfl (by omega) (by kernel_rfl) Qt rfl rfl rfl rfl (fun g32=>AH fun h11 l11 k11=>?_);have hE:=(hE.up l11).snoc (B9 [2,4,7,-9] 4 rfl (by decide) k11);refine Ax [(0,_),(1,_),(2,_),(3,_)] [.int .i64 0,.int .i64 0,.int .i64 0,.int .i64 0] [_,_,_,_] rfl AU A6 rfl (by omega) (by kernel_rfl) Qt rfl rfl rfl rfl (fun g33=>AH fun h12 l12 k12=>?_);have hE:=(hE.up l12).snoc (B9 [2,5,6,-9] 4 rfl (by decide) k12);refine Ax [(0,_),(1,_),(2,_),(3,_)] [.int .i64 0,.int .i64 0,.int .i64 0,.int .i64 0] [_,_,_,_] rfl AU A6 rfl (by omega) (by kernel_rfl) Qt rfl rfl rfl rfl (fun g34=>AH fun h13 l13 k13=>?_);have hE:=(hE.up l13).snoc (B9 [2,5,7,-8] 4 rfl (by decide) k13);refine Ax [(0,_),(1,_),(2,_),(3,_),(4,_),(5,_),(6,_),(7,_),(8,_),(9,_),(10,_),(11,_),(12,_)] [.slice none 0 0,.slice none 0 0,.slice none 0 0,.slice none 0 0,.slice none 0 0,.slice none 0 0,.slice none 0 0,.slice none 0 0,.slice none 0 0,.slice none 0 0,.slice none 0 0,.slice none 0 0,.slice none 0 0] [_,_,_,_,_,_,_,_,_,_,_,_,_] rfl Ch Cr rfl (by omega) (by kernel_rfl) Qt rfl rfl rfl rfl (fun g35=>AH fun hz lz kz=>?_);have hE:=hE.up lz;have hV:=(OwnL.blk (g:=g35) (el:=22) (F:=cW) (l:=[_,_,_,_,_,_,_,_,_,_,_,_,_]) 13 DG rfl (by decide)).rdh (ms:=[]) kz;have lall:=(AJ l1 (AJ l2 (AJ l3 (AJ l4 (AJ l5 (AJ l6 (AJ l7 (AJ l8 (AJ l9 (AJ l10 (AJ l11 (AJ l12 (AJ l13 lz)))))))))))))
       refine Qc call114 rfl (Hk ZI _ _ hz hV hE (GM (.inr (.inl rfl))).2 (GM (.inr (.inl rfl))).1) (fun rC hc msc lc hF=>?_);obtain⟨lc',m,A,vA,rfl,rfl,hOA,hA,hs⟩:=hF;have ovA:=hOA.o1;refine Sa 1 [_] AW rfl (by simp[ovA]) ?_;refine Am (An (Aj (Ae ?_)));exact By (vs:=[_]) 1 rfl rfl CF rfl AW rfl rfl (⟨AJ lall lc',m,A,_,rfl,rfl,hOA,by rw[hA];unfold EZ;rw[if_neg (by omega),if_neg (by omega),if_neg (by omega),if_pos (by omega)],hs⟩)
      ·refine Ac (Ad (Qm rfl (Qm rfl (Am ?_))));refine Aq rfl (fun h6=>?_) (fun h6=>?_)
       ·refine Ac (Ad (Qc call116 rfl (NU 3 hp (by omega)) (fun rC hc msc lc hF=>?_)));obtain⟨lc',m,A,vA,rfl,rfl,hOA,hA,hs⟩:=hF;have ovA:=hOA.o1;refine Sa 1 [_] AW rfl (by simp[ovA]) ?_;refine Am (An (Aj (Ae ?_)));exact By (vs:=[_]) 1 rfl rfl CF rfl AW rfl rfl (⟨lc',m,A,_,rfl,rfl,hOA,by rw[hA];unfold EZ;rw[if_neg (by omega),if_neg (by omega),if_neg (by omega),if_neg (by omega),if_pos (by omega)],hs⟩)
       ·refine Ac (Ad (Qm rfl (Qm rfl (Am ?_))));refine Aq rfl (fun h7=>?_) (fun h7=>?_)
        ·have hE:=RdEs.nil hp;refine As (Ao [_] rfl AU A6 rfl (by rfl) rfl rfl (by omega) rfl rfl rfl (fun g42=>AH fun h1 l1 k1=>?_));have hE:=(hE.up l1).snoc (B9 [0] 1 rfl (by decide) k1);refine Ao [_] rfl AU A6 rfl (by rfl) rfl rfl (by omega) rfl rfl rfl (fun g43=>AH fun h2 l2 k2=>?_);have hE:=(hE.up l2).snoc (B9 [0] 1 rfl (by decide) k2);refine Ao [_] rfl AU A6 rfl (by rfl) rfl rfl (by omega) rfl rfl rfl (fun g44=>AH fun h3 l3 k3=>?_);have hE:=(hE.up l3).snoc (B9 [0] 1 rfl (by decide) k3);refine Ao [_] rfl AU A6 rfl (by rfl) rfl rfl (by omega) rfl rfl rfl (fun g45=>AH fun h4 l4 k4=>?_);have hE:=(hE.up l4).snoc (B9 [0] 1 rfl (by decide) k4);refine Ax [(0,_),(1,_),(2,_)] [.int .i64 0,.int .i64 0,.int .i64 0] [_,_,_] rfl AU A6 rfl (by omega) (by kernel_rfl) Qt rfl rfl rfl rfl (fun g46=>AH fun h5 l5 k5=>?_);have hE:=(hE.up l5).snoc (B9 [1,-1,2] 3 rfl (by decide) k5);refine Ax [(0,_),(1,_),(2,_)] [.int .i64 0,.int .i64 0,.int .i64 0] [_,_,_] rfl AU A6 rfl (by omega) (by kernel_rfl) Qt rfl rfl rfl rfl (fun g47=>AH fun h6 l6 k6=>?_);have hE:=(hE.up l6).snoc (B9 [1,-1,2] 3 rfl (by decide) k6);refine Ax [(0,_),(1,_),(2,_)] [.int .i64 0,.int .i64 0,.int .i64 0] [_,_,_] rfl AU A6 rfl (by omega) (by kernel_rfl) Qt rfl rfl rfl rfl (fun g48=>AH fun h7 l7 k7=>?_);have hE:=(hE.up l7).snoc (B9 [1,-3,4] 3 rfl (by decide) k7);refine Ax [(0,_),(1,_),(2,_)] [.int .i64 0,.int .i64 0,.int .i64 0] [_,_,_] rfl AU A6 rfl (by omega) (by kernel_rfl) Qt rfl rfl rfl rfl (fun g49=>AH fun h8 l8 k8=>?_);have hE:=(hE.up l8).snoc (B9 [1,-3,4] 3 rfl (by decide) k8);refine Ax [(0,_),(1,_),(2,_)] [.int .i64 0,.int .i64 0,.int .i64 0] [_,_,_] rfl AU A6 rfl (by omega) (by kernel_rfl) Qt rfl rfl rfl rfl (fun g50=>AH fun h9 l9 k9=>?_);have hE:=(hE.up l9).snoc (B9 [1,-1,3] 3 rfl (by decide) k9);refine Ax [(0,_),(1,_),(2,_)] [.int .i64 0,.int .i64 0,.int .i64 0] [_,_,_] rfl AU A6 rfl (by omega) (by kernel_rfl) Qt rfl rfl rfl rfl (fun g51=>AH fun h10 l10 k10=>?_);have hE:=(hE.up l10).snoc (B9 [1,-2,4] 3 rfl (by decide) k10);refine Ax [(0,_),(1,_),(2,_)] [.int .i64 0,.int .i64 0,.int .i64 0] [_,_,_] rfl AU A6 rfl (by omega) (by kernel_rfl) Qt rfl rfl rfl rfl (fun g52=>AH fun h11 l11 k11=>?_);have hE:=(hE.up l11).snoc (B9 [1,-3,1] 3 rfl (by decide) k11);refine Ax [(0,_),(1,_),(2,_)] [.int .i64 0,.int .i64 0,.int .i64 0] [_,_,_] rfl AU A6 rfl (by omega) (by kernel_rfl) Qt rfl rfl rfl rfl (fun g53=>AH fun h12 l12 k12=>?_);have hE:=(hE.up l12).snoc (B9 [1,-4,2] 3 rfl (by decide) k12);refine Ax [(0,_),(1,_),(2,_),(3,_),(4,_)] [.int .i64 0,.int .i64 0,.int .i64 0,.int .i64 0,.int .i64 0] [_,_,_,_,_] rfl AU A6 rfl (by omega) (by kernel_rfl) Qt rfl rfl rfl rfl (fun g54=>AH fun h13 l13 k13=>?_);have hE:=(hE.up l13).snoc (B9 [2,5,10,-7,-9] 5 rfl (by decide) k13);refine Ax [(0,_),(1,_),(2,_),(3,_),(4,_)] [.int .i64 0,.int .i64 0,.int .i64 0,.int .i64 0,.int .i64 0] [_,_,_,_,_] rfl AU A6 rfl (by omega) (by kernel_rfl) Qt rfl rfl rfl rfl (fun g55=>AH fun h14 l14 k14=>?_);have hE:=(hE.up l14).snoc (B9 [2,6,10,-8,-9] 5 rfl (by decide) k14);refine Ax [(0,_),(1,_),(2,_),(3,_),(4,_)] [.int .i64 0,.int .i64 0,.int .i64 0,.int .i64 0,.int .i64 0] [_,_,_,_,_] rfl AU A6 rfl (by omega) (by kernel_rfl) Qt rfl rfl rfl rfl (fun g56=>AH fun h15 l15 k15=>?_);have hE:=(hE.up l15).snoc (B9 [2,7,12,-6,-11] 5 rfl (by decide) k15);refine Ax [(0,_),(1,_),(2,_),(3,_),(4,_)] [.int .i64 0,.int .i64 0,.int .i64 0,.int .i64 0,.int .i64 0] [_,_,_,_,_] rfl AU A6 rfl (by omega) (by kernel_rfl) Qt rfl rfl rfl rfl (fun g57=>AH fun h16 l16 k16=>?_);have hE:=(hE.up l16).snoc (B9 [2,8,12,-5,-11] 5 rfl (by decide) k16);refine Ax [(0,_),(1,_),(2,_),(3,_),(4,_),(5,_),(6,_),(7,_),(8,_),(9,_),(10,_),(11,_),(12,_),(13,_),(14,_),(15,_)] [.slice none 0 0,.slice none 0 0,.slice none 0 0,.slice none 0 0,.slice none 0 0,.slice none 0 0,.slice none 0 0,.slice none 0 0,.slice none 0 0,.slice none 0 0,.slice none 0 0,.slice none 0 0,.slice none 0 0,.slice none 0 0,.slice none 0 0,.slice none 0 0] [_,_,_,_,_,_,_,_,_,_,_,_,_,_,_,_] rfl Ch Cr rfl (by omega) (by kernel_rfl) Qt rfl rfl rfl rfl (fun g58=>AH fun hz lz kz=>?_);have hE:=hE.up lz;have hV:=(OwnL.blk (g:=g58) (el:=22) (F:=cW) (l:=[_,_,_,_,_,_,_,_,_,_,_,_,_,_,_,_]) 16 DG rfl (by decide)).rdh (ms:=[]) kz;have lall:=(AJ l1 (AJ l2 (AJ l3 (AJ l4 (AJ l5 (AJ l6 (AJ l7 (AJ l8 (AJ l9 (AJ l10 (AJ l11 (AJ l12 (AJ l13 (AJ l14 (AJ l15 (AJ l16 lz))))))))))))))))
         refine Qc call114 rfl (Hk Aao _ _ hz hV hE (GM (.inr (.inr (.inl rfl)))).2 (GM (.inr (.inr (.inl rfl)))).1) (fun rC hc msc lc hF=>?_);obtain⟨lc',m,A,vA,rfl,rfl,hOA,hA,hs⟩:=hF;have ovA:=hOA.o1;refine Sa 1 [_] AW rfl (by simp[ovA]) ?_;refine Am (An (Aj (Ae ?_)));exact By (vs:=[_]) 1 rfl rfl CF rfl AW rfl rfl (⟨AJ lall lc',m,A,_,rfl,rfl,hOA,by rw[hA];unfold EZ;rw[if_neg (by omega),if_neg (by omega),if_neg (by omega),if_neg (by omega),if_neg (by omega),if_pos (by omega)],hs⟩)
        ·refine Ac (Ad (Qm rfl (Qm rfl (Am ?_))));refine Aq rfl (fun h8=>?_) (fun h8=>?_)
         ·have hE:=RdEs.nil hp;refine As (Ao [_] rfl AU A6 rfl (by rfl) rfl rfl (by omega) rfl rfl rfl (fun g62=>AH fun h1 l1 k1=>?_));have hE:=(hE.up l1).snoc (B9 [0] 1 rfl (by decide) k1);refine Ao [_] rfl AU A6 rfl (by rfl) rfl rfl (by omega) rfl rfl rfl (fun g63=>AH fun h2 l2 k2=>?_);have hE:=(hE.up l2).snoc (B9 [0] 1 rfl (by decide) k2);refine Ao [_] rfl AU A6 rfl (by rfl) rfl rfl (by omega) rfl rfl rfl (fun g64=>AH fun h3 l3 k3=>?_);have hE:=(hE.up l3).snoc (B9 [0] 1 rfl (by decide) k3);refine Ao [_] rfl AU A6 rfl (by rfl) rfl rfl (by omega) rfl rfl rfl (fun g65=>AH fun h4 l4 k4=>?_);have hE:=(hE.up l4).snoc (B9 [0] 1 rfl (by decide) k4);refine Ax [(0,_),(1,_),(2,_)] [.int .i64 0,.int .i64 0,.int .i64 0] [_,_,_] rfl AU A6 rfl (by omega) (by kernel_rfl) Qt rfl rfl rfl rfl (fun g66=>AH fun h5 l5 k5=>?_);have hE:=(hE.up l5).snoc (B9 [1,-1,2] 3 rfl (by decide) k5);refine Ax [(0,_),(1,_),(2,_)] [.int .i64 0,.int .i64 0,.int .i64 0] [_,_,_] rfl AU A6 rfl (by omega) (by kernel_rfl) Qt rfl rfl rfl rfl (fun g67=>AH fun h6 l6 k6=>?_);have hE:=(hE.up l6).snoc (B9 [1,-1,2] 3 rfl (by decide) k6);refine Ax [(0,_),(1,_),(2,_)] [.int .i64 0,.int .i64 0,.int .i64 0] [_,_,_] rfl AU A6 rfl (by omega) (by kernel_rfl) Qt rfl rfl rfl rfl (fun g68=>AH fun h7 l7 k7=>?_);have hE:=(hE.up l7).snoc (B9 [1,-3,4] 3 rfl (by decide) k7);refine Ax [(0,_),(1,_),(2,_)] [.int .i64 0,.int .i64 0,.int .i64 0] [_,_,_] rfl AU A6 rfl (by omega) (by kernel_rfl) Qt rfl rfl rfl rfl (fun g69=>AH fun h8 l8 k8=>?_);have hE:=(hE.up l8).snoc (B9 [1,-3,4] 3 rfl (by decide) k8);refine Ax [(0,_),(1,_),(2,_)] [.int .i64 0,.int .i64 0,.int .i64 0] [_,_,_] rfl AU A6 rfl (by omega) (by kernel_rfl) Qt rfl rfl rfl rfl (fun g70=>AH fun h9 l9 k9=>?_);have hE:=(hE.up l9).snoc (B9 [1,-1,3] 3 rfl (by decide) k9);refine Ax [(0,_),(1,_),(2,_)] [.int .i64 0,.int .i64 0,.int .i64 0] [_,_,_] rfl AU A6 rfl (by omega) (by kernel_rfl) Qt rfl rfl rfl rfl (fun g71=>AH fun h10 l10 k10=>?_);have hE:=(hE.up l10).snoc (B9 [1,-2,4] 3 rfl (by decide) k10);refine Ax [(0,_),(1,_),(2,_)] [.int .i64 0,.int .i64 0,.int .i64 0] [_,_,_] rfl AU A6 rfl (by omega) (by kernel_rfl) Qt rfl rfl rfl rfl (fun g72=>AH fun h11 l11 k11=>?_);have hE:=(hE.up l11).snoc (B9 [1,-3,1] 3 rfl (by decide) k11);refine Ax [(0,_),(1,_),(2,_)] [.int .i64 0,.int .i64 0,.int .i64 0] [_,_,_] rfl AU A6 rfl (by omega) (by kernel_rfl) Qt rfl rfl rfl rfl (fun g73=>AH fun h12 l12 k12=>?_);have hE:=(hE.up l12).snoc (B9 [1,-4,2] 3 rfl (by decide) k12);refine Ax [(0,_),(1,_),(2,_),(3,_),(4,_)] [.int .i64 0,.int .i64 0,.int .i64 0,.int .i64 0,.int .i64 0] [_,_,_,_,_] rfl AU A6 rfl (by omega) (by kernel_rfl) Qt rfl rfl rfl rfl (fun g74=>AH fun h13 l13 k13=>?_);have hE:=(hE.up l13).snoc (B9 [2,5,10,-7,-9] 5 rfl (by decide) k13);refine Ax [(0,_),(1,_),(2,_),(3,_),(4,_)] [.int .i64 0,.int .i64 0,.int .i64 0,.int .i64 0,.int .i64 0] [_,_,_,_,_] rfl AU A6 rfl (by omega) (by kernel_rfl) Qt rfl rfl rfl rfl (fun g75=>AH fun h14 l14 k14=>?_);have hE:=(hE.up l14).snoc (B9 [2,6,10,-8,-9] 5 rfl (by decide) k14);refine Ax [(0,_),(1,_),(2,_),(3,_),(4,_)] [.int .i64 0,.int .i64 0,.int .i64 0,.int .i64 0,.int .i64 0] [_,_,_,_,_] rfl AU A6 rfl (by omega) (by kernel_rfl) Qt rfl rfl rfl rfl (fun g76=>AH fun h15 l15 k15=>?_);have hE:=(hE.up l15).snoc (B9 [2,7,12,-5,-11] 5 rfl (by decide) k15);refine Ax [(0,_),(1,_),(2,_),(3,_),(4,_)] [.int .i64 0,.int .i64 0,.int .i64 0,.int .i64 0,.int .i64 0] [_,_,_,_,_] rfl AU A6 rfl (by omega) (by kernel_rfl) Qt rfl rfl rfl rfl (fun g77=>AH fun h16 l16 k16=>?_);have hE:=(hE.up l16).snoc (B9 [2,8,12,-6,-11] 5 rfl (by decide) k16);refine Ax [(0,_),(1,_),(2,_),(3,_),(4,_),(5,_),(6,_),(7,_),(8,_),(9,_),(10,_),(11,_),(12,_),(13,_),(14,_),(15,_)] [.slice none 0 0,.slice none 0 0,.slice none 0 0,.slice none 0 0,.slice none 0 0,.slice none 0 0,.slice none 0 0,.slice none 0 0,.slice none 0 0,.slice none 0 0,.slice none 0 0,.slice none 0 0,.slice none 0 0,.slice none 0 0,.slice none 0 0,.slice none 0 0] [_,_,_,_,_,_,_,_,_,_,_,_,_,_,_,_] rfl Ch Cr rfl (by omega) (by kernel_rfl) Qt rfl rfl rfl rfl (fun g78=>AH fun hz lz kz=>?_);have hE:=hE.up lz;have hV:=(OwnL.blk (g:=g78) (el:=22) (F:=cW) (l:=[_,_,_,_,_,_,_,_,_,_,_,_,_,_,_,_]) 16 DG rfl (by decide)).rdh (ms:=[]) kz;have lall:=(AJ l1 (AJ l2 (AJ l3 (AJ l4 (AJ l5 (AJ l6 (AJ l7 (AJ l8 (AJ l9 (AJ l10 (AJ l11 (AJ l12 (AJ l13 (AJ l14 (AJ l15 (AJ l16 lz))))))))))))))))
          refine Qc call114 rfl (Hk Zz _ _ hz hV hE (GM (.inr (.inr (.inr rfl)))).2 (GM (.inr (.inr (.inr rfl)))).1) (fun rC hc msc lc hF=>?_);obtain⟨lc',m,A,vA,rfl,rfl,hOA,hA,hs⟩:=hF;have ovA:=hOA.o1;refine Sa 1 [_] AW rfl (by simp[ovA]) ?_;refine Am (An (Aj (Ae ?_)));exact By (vs:=[_]) 1 rfl rfl CF rfl AW rfl rfl (⟨AJ lall lc',m,A,_,rfl,rfl,hOA,by rw[hA];unfold EZ;rw[if_neg (by omega),if_neg (by omega),if_neg (by omega),if_neg (by omega),if_neg (by omega),if_neg (by omega),if_pos (by omega)],hs⟩)
         ·refine Ah (Ai (Ab (As (Qc call116 rfl (NU 4 hp (by omega)) (fun rC hc msc lc hF=>?_)))));obtain⟨lc',m,A,vA,rfl,rfl,hOA,hA,hs⟩:=hF;have ovA:=hOA.o1;refine Sa 1 [_] AW rfl (by simp[ovA]) ?_;refine Am (An ?_);exact By (vs:=[_]) 1 rfl rfl CF rfl AW rfl rfl (⟨lc',m,A,_,rfl,rfl,hOA,by rw[hA];unfold EZ;rw[if_neg (by omega),if_neg (by omega),if_neg (by omega),if_neg (by omega),if_neg (by omega),if_neg (by omega),if_neg (by omega)],hs⟩)
theorem Mx(A B:List Ce)(va vb:Value)(K:Int)(hK:0<=K/\K<=1000000)(hp:Hp)(hA:RdC hp va A)(hB:RdC hp vb B)(hnA:A.length<=1000)(hnB:B.length<=1000)(hiA:∀a∈A,-1000000<=a.c.id/\a.c.id<=K)(hiB:∀b∈B,(-1000000<=b.c.id/\b.c.id<=1000000)/\b.c.sd.length<=100/\∀s∈b.c.sd,-1000000<=s.1/\s.1<=1000000) :
  FnT Tryz.prog 48 #[.agg #[va],.agg #[vb]] hp [] (fun r h' ms'=>hp.le h'/\QP h' r ms' (fun o=>∃m:Int,0<=m/\m<=K/\(∀a∈A,a.c.id<=m)/\o=A.map Ce.c++(B.map Ce.c).map (Wa m))):=by
 have oa:=hA.q.rd.one;have ob:=hB.q.rd.one;refine Ap func48 ntmps48 rfl rfl (fun w0 hw0=>?_);simp only[AX];refine As (AV [_] rfl rfl (by rfl) rfl rfl rfl (fun g2=>AV [_] rfl rfl (by rfl) rfl rfl rfl (fun g3=>Cz [.slice none 0 0] rfl AW rfl rfl (fun g4=>Am (Bm 1 rfl fun h1 l1 hS3=>(Bm 1 rfl fun h2 l2 hS2=>?_))))));have hA:=(hA.up l1).up l2;have hB:=(hB.up l1).up l2;have hS3:=hS3.le l2;have e2:∀{h},h2.le h->∀ms,Cell h ms (⟨g2,0,none⟩:Addr) va:=fun l ms=>Seg.all (hS2.le l) 0 _ rfl ms;have e3:∀{h},h2.le h->∀ms,Cell h ms (⟨g3,0,none⟩:Addr) vb:=fun l ms=>Seg.all (hS3.le l) 0 _ rfl ms;refine As (Qm rfl (Am ?_));refine A9 (fun sl h' ms'=>∃(m:Int),sl=[(2,.pointer (some ⟨g2,0,none⟩)),(3,.pointer (some ⟨g3,0,none⟩)),(4,.pointer (some ⟨g4,0,none⟩)),(5,.int .i64 m)]/\h2=h'/\ms'=[Bn g4 29 [.slice none 0 0]]/\0<=m/\m<=K/\∀a∈A,a.c.id<=m) ?_ (fun s h ms hI=>?_)
 ·refine Ac (Ad (Qm rfl (Am (Ag ?_))))
  refine Ay (fun q sl h' ms'=>∃(i:Nat) (m:Int),q=A.length-i/\sl=[(2,.pointer (some ⟨g2,0,none⟩)),(3,.pointer (some ⟨g3,0,none⟩)),(4,.pointer (some ⟨g4,0,none⟩)),(5,.int .i64 m),(6,.int .i64 i)]/\h2=h'/\ms'=[Bn g4 29 [.slice none 0 0]]/\i<=A.length/\0<=m/\m<=K/\∀a∈A.take i,a.c.id<=m)
   (A.length-0) _ ⟨0,0,rfl,rfl,rfl,rfl,by omega,by omega,by omega,by simp⟩ Qs ?_
  rintro q sl h' ms' ⟨i,m,rfl,rfl,rfl,rfl,hi,hm0,hm1,hm⟩;refine Ac (As (Qm rfl (Qf B8 rfl (Ql rfl Bh (e2 (C9) _) (Qx (Ar hA.q.rd.any rfl Bh rfl) rfl (Qm rfl (Am ?_)))))));refine Aq rfl (fun hlt=>?_) (fun hlt=>?_)
  ·have hil:i<A.length:=by omega
   obtain⟨x,hx⟩:∃x,A[i]=x:=⟨_,rfl⟩
   have hxi:=hiA x (by rw[<-hx];exact getElem_mem hil);have cx:∀ms,Cell h2 ms (((AF va).add (i*3)).add 0) (.int .i64 x.c.id):=fun ms=>by rw[<-hx];exact(hA.q.any (ms:=ms)).cell (j:=i) hil (f:=0) rfl
   refine Ah (Ab (Ac (Ag (Ad (Qm rfl (Qf B8 rfl (Ql rfl Bh (e2 (C9) _) (Qm rfl (Qx (BF (i) hA.q.rd.any rfl Bh AI rfl rfl) rfl (Qf Bt rfl (Ql rfl U3 (cx _) (Qx (I9 rfl rfl rfl) rfl (Qm rfl (Ak (Ai (Ab (Ad (Qm rfl (Qx (oA rfl) rfl (Qm rfl (Ak ?_)))))))))))))))))))))
   exact Al (A.length-(i+1)) _ (by omega) ⟨i+1,max m x.c.id,rfl,rfl,rfl,rfl,by omega,by omega,by omega,fun a ha=>by
    rw[take_succ_eq_append_getElem hil,hx]at ha;rcases List.mem_append.1 ha with h|h
    ·have:=hm a h;omega
    ·rw[List.mem_singleton.1 h];omega⟩ Qs
  ·obtain rfl:i=A.length:=by omega
   refine Av (Aa (Aa (Af ?_)));exact AD _ ⟨m,rfl,rfl,rfl,hm0,hm1,fun a ha=>hm a (by rw[take_length];exact ha)⟩ Qs
 ·obtain⟨m,rfl,rfl,rfl,hm0,hm1,hm⟩:=hI;refine As ?_;refine Ax [] [] [] rfl Bh AI rfl (by omega) (by kernel_rfl) (by repeat (first|exact trivial|refine⟨⟨by first|rfl|exact(hA.q.rd.any).cells|exact Rd.cells ‹_›|exact(RdL.rd ‹_›).cells,rfl,rfl⟩,?_⟩)) rfl rfl rfl rfl (fun g27=>?_);refine Qf B8 rfl (Ql rfl Bh (e2 (C9) _) (Bd 0 (EC g27 Ct) hA.q.any rfl Bh AI rfl (by omega) rfl rfl rfl (Di hA.s) (by(try simp only[length_singleton,length_nil,Nat.zero_add]);omega) (by(try simp only[length_singleton,length_nil,Nat.zero_add]);omega) rfl rfl rfl (fun vA mA hOA=>?_)));have ovA:=hOA.o1;rw[nil_append]at hOA;obtain⟨aA,cA,rfl,_⟩:=(hOA.rd (h:=hp) (ms:=[mA]) Mh).rd.ex;refine Qx (A3 YQ [.slice none 0 0] [(0,_)] [_] rfl AW rfl rfl Qt rfl) rfl (Cz [.slice none 0 0] rfl AW rfl rfl (fun g7=>?_));refine Sa 0 [_] AW rfl (by simp[Value.oneCell']) ?_;refine Am (Ac (As (Qm rfl (Am (Ag (Iq (ms':=[mA,Bn g7 29 [.slice aA A.length cA],Bn g4 29 [.slice none 0 0]]) (List.Perm.swap _ _ _) ?_))))))
  refine Ay (fun q sl h' ms'=>∃(i:Nat) (v:Value) (mO:Hp) (O:List Ce),q=B.length-i/\sl=[(2,.pointer (some ⟨g2,0,none⟩)),(3,.pointer (some ⟨g3,0,none⟩)),(4,.pointer (some ⟨g4,0,none⟩)),(5,.int .i64 m),(7,.pointer (some ⟨g7,0,none⟩)),(8,.int .i64 i)]/\h2.le h'/\ms'=[mO,Bn g7 29 [v],Bn g4 29 [.slice none 0 0]]/\i<=B.length/\OwnL cC 3 52 mO v O/\O.map Ce.c=A.map Ce.c++((B.take i).map Ce.c).map (Wa m)/\∀a∈O,RdL cD 2 h' [] a.v a.c.sd)
   (B.length-0) _ ⟨0,_,mA,A,rfl,rfl,C9,rfl,by omega,hOA,by simp,hA.s⟩ Qs ?_
  rintro q sl h' ms' ⟨i,v,mO,O,rfl,rfl,lh,rfl,hi,hO,hOc,hOs⟩;have hB:=hB.up lh;have ov:=hO.o1;have hOl:O.length=A.length+i:=by have:=congrArg List.length hOc;simpa[Nat.min_eq_left hi] using this
  refine Ac (As (Qm rfl (Qf B8 rfl (Ql rfl Bh (e3 lh _) (Qx (Ar hB.q.rd.any rfl Bh rfl) rfl (Qm rfl (Am ?_)))))));refine Aq rfl (fun hlt=>?_) (fun hlt=>?_)
  ·have hil:i<B.length:=by omega
   obtain⟨x,hx⟩:∃x,B[i]=x:=⟨_,rfl⟩
   have hxm:x∈B:=by rw[<-hx];exact getElem_mem hil
   obtain⟨hxi,hxl,hxs⟩:=hiB x hxm;have hX:=hB.s x hxm;have cx0:∀ms,Cell h' ms (((AF vb).add (i*3)).add 0) (.int .i64 x.c.id):=fun ms=>by rw[<-hx];exact(hB.q.any (ms:=ms)).cell (j:=i) hil (f:=0) rfl
   have cx1:∀ms,Cell h' ms (((AF vb).add (i*3)).add 1) (.int .i64 x.c.dim):=fun ms=>by rw[<-hx];exact(hB.q.any (ms:=ms)).cell (j:=i) hil (f:=1) rfl
   have cx2:∀ms,Cell h' ms (((AF vb).add (i*3)).add 2) x.v:=fun ms=>by rw[<-hx];exact(hB.q.any (ms:=ms)).cell (j:=i) hil (f:=2) rfl
   have ox:=hX.rd.one;refine Ah (Ab (Ac (Ag (Ac (Bc 16 CS (by kernel_rfl) rfl (Wf B8 rfl (Wl rfl Bh (e3 lh _) (Wm rfl (AR (BF (i) hB.q.rd.any rfl Bh AI rfl rfl) rfl rfl (Wf Bt rfl (Wl rfl U3 (cx0 _) (Wm rfl (AR (oA rfl) rfl rfl (Wf B8 rfl (Wl rfl Bh (e3 lh _) (Wm rfl (AR (BF (i) hB.q.rd.any rfl Bh AI rfl rfl) rfl rfl (Wf BY rfl (Wl rfl U3 (cx1 _) (AR (A3 VZ [.int .i64 0,.int .i64 0,.slice none 0 0] [(0,_),(1,_)] [_,_,_] rfl AI rfl rfl Qt rfl) rfl rfl (Vv (Mp [.int .i64 0,.int .i64 0,.slice none 0 0] rfl AI rfl) rfl rfl (IK (fun g9=>?_)))))))))))))))))))))));refine Sa 0 [_,_,_] AI rfl (by simp[Value.oneCell']) ?_;refine Am (BJ ?_);refine A9 (fun sl h'' ms'=>∃(vs:Value) (mS:Hp),sl=[(2,.pointer (some ⟨g2,0,none⟩)),(3,.pointer (some ⟨g3,0,none⟩)),(4,.pointer (some ⟨g4,0,none⟩)),(5,.int .i64 m),(7,.pointer (some ⟨g7,0,none⟩)),(8,.int .i64 i),(9,.pointer (some ⟨g9,0,none⟩))]/\h'=h''/\ms'=[mS,Bn g9 52 [.int .i64 (x.c.id+m),.int .i64 x.c.dim,vs],mO,Bn g7 29 [v],Bn g4 29 [.slice none 0 0]]/\OwnL cD 2 119 mS vs (x.c.sd.map fun s=>(s.1+m,s.2))) ?_ (fun s h ms hI=>?_)
   ·refine Ac (Ad (Qm rfl (Am (Ag ?_))))
    refine Ay (fun q sl h'' ms'=>∃(j:Nat) (vs:Value) (mS:Hp),q=x.c.sd.length-j/\sl=[(2,.pointer (some ⟨g2,0,none⟩)),(3,.pointer (some ⟨g3,0,none⟩)),(4,.pointer (some ⟨g4,0,none⟩)),(5,.int .i64 m),(7,.pointer (some ⟨g7,0,none⟩)),(8,.int .i64 i),(9,.pointer (some ⟨g9,0,none⟩)),(10,.int .i64 j)]/\h'=h''/\ms'=[mS,Bn g9 52 [.int .i64 (x.c.id+m),.int .i64 x.c.dim,vs],mO,Bn g7 29 [v],Bn g4 29 [.slice none 0 0]]/\j<=x.c.sd.length/\OwnL cD 2 119 mS vs ((x.c.sd.take j).map fun s=>(s.1+m,s.2)))
     (x.c.sd.length-0) _ ⟨0,_,Hp.emp,rfl,rfl,rfl,rfl,by omega,OwnL.nil Ep⟩ Qs ?_
    rintro q sl h'' ms' ⟨j,vs,mS,rfl,rfl,rfl,rfl,hj,hOS⟩;have ovs:=hOS.o1;refine Ac (As (Qm rfl (Qf B8 rfl (Ql rfl Bh (e3 lh _) (Qm rfl (Qx (BF (i) hB.q.rd.any rfl Bh AI rfl rfl) rfl (Qf BB rfl (Ql rfl BZ (cx2 _) (Qx (Ar hX.rd.any rfl BZ rfl) rfl (Qm rfl (Am ?_)))))))))));refine Aq rfl (fun hjl=>?_) (fun hjl=>?_)
    ·have hjn:j<x.c.sd.length:=by omega
     obtain⟨s,hs⟩:∃s,x.c.sd[j]=s:=⟨_,rfl⟩
     have hsb:=hxs s (by rw[<-hs];exact getElem_mem hjn);have cs:∀ms,Seg h' ms ((AF x.v).add (j*2)) (cD s):=fun ms=>by rw[<-hs];exact(hX.any (ms:=ms)).seg hjn
     have hll:((x.c.sd.take j).map fun s=>(s.1+m,s.2)).length<=100:=by rw[length_map,length_take];omega
     have hsn:((x.c.sd.take (j+1)).map fun s=>(s.1+m,s.2))=((x.c.sd.take j).map fun s=>(s.1+m,s.2))++[(s.1+m,s.2)]:=by rw[take_succ_eq_append_getElem hjn,map_append,hs];rfl
     refine Ah (Ab (Ac (Ag (As (Qf B8 rfl (Ql rfl Bh (e3 lh _) (Qm rfl (Qx (BF (i) hB.q.rd.any rfl Bh AI rfl rfl) rfl (Qf BB rfl (Ql rfl BZ (cx2 _) (Qm rfl (Qx (BF (j) hX.rd.any rfl BZ AM rfl rfl) rfl (Qx (oG rfl DX AM (cs _)) rfl (Cz [.int .i64 0,.int .i64 0] rfl AM rfl rfl (fun g11=>?_)))))))))))))));refine Sa 0 [_,_] AM rfl (by simp[Value.oneCell']) ?_;refine BK (Qf B6 rfl (Ql rfl U3 (Cell.blk 0 rfl rfl) (Qm rfl (Qx (oA rfl) rfl (Qf B6 rfl ?_)))));refine AS 0 _ rfl A6 rfl rfl (by rfl) rfl rfl (by(simp;done)) rfl rfl ?_;refine Gm (Qf BB rfl (Ql rfl BZ (Cell.blk 2 rfl rfl) (Qx (oG rfl DX AM (Seg.blk 0 rfl)) rfl (Ao [_,_] rfl BZ AM rfl (by rfl) rfl rfl (by omega) rfl rfl rfl (fun g82=>AO 2 hOS (RdL.one Ep (x:=(s.1+m,s.2)) Mh rfl) rfl BZ AM rfl (by omega) rfl rfl rfl Ga (by(try simp only[length_singleton]);omega) (by(try simp only[length_singleton]);omega) rfl rfl rfl (fun v9 m9 hO9=>?_))))));rw[<-hsn]at hO9;have ov9:=hO9.o1;refine Qf BB rfl ?_;refine AS 3 _ rfl Tf rfl rfl (by assumption) rfl rfl (by(simp;done)) rfl rfl ?_;refine Ak (Ai (Ab (Ad (Qm rfl (Qx (oA rfl) rfl (Qm rfl (Ak (A8 0 rfl (A8 0 rfl ?_)))))))));exact Al (x.c.sd.length-(j+1)) _ (by omega) ⟨j+1,v9,m9,rfl,rfl,rfl,rfl,by omega,hO9⟩ Qs
    ·obtain rfl:j=x.c.sd.length:=by omega
     refine Av (Aa (Aa (Af ?_)));exact AD _ ⟨vs,mS,rfl,rfl,rfl,by rw[take_length]at hOS;exact hOS⟩ Qs
   ·obtain⟨vs,mS,rfl,rfl,rfl,hOS⟩:=hI;obtain⟨aS,cS,rfl,_⟩:=(hOS.rd (h:=hp) (ms:=[mS]) Mh).rd.ex;refine Bq fun h3 l3 k3=>?_;have hRS:=hOS.rdh (ms:=[]) k3;have oS_:=hRS.rd.one
    let ce:Ce:=⟨Wa m x.c,.slice aS (x.c.sd.map fun s=>(s.1+m,s.2)).length cS⟩
    have hce:RdL cD 2 h3 [] ce.v ce.c.sd:=hRS;refine Ad (Qf B8 rfl (Ql rfl Bh (Cell.blk 2 rfl rfl) (Qx (oG rfl Ef AI (Seg.blk 0 rfl)) rfl (Ao [_,_,_] rfl Bh AI rfl (by rfl) rfl rfl (by omega) rfl rfl rfl (fun g88=>?_)))));refine Bd 2 hO (RdL.one Ct (x:=ce) Mh rfl) rfl Bh AI rfl (by omega) rfl rfl rfl (Di (l:=[ce]) (h:=h3) fun y hy=>by rw[List.mem_singleton.1 hy];exact hce) (by(try simp only[length_singleton]);omega) (by(try simp only[length_singleton]);omega) rfl rfl rfl (fun v9 m9 hO9=>?_);have ov9:=hO9.o1;refine Qf B8 rfl ?_;refine AS 3 _ rfl JP rfl rfl (by assumption) rfl rfl (by(simp;done)) rfl rfl ?_;refine Ak (Ai (Ab (Ad (Qm rfl (Qx (oA rfl) rfl (Qm rfl (Ak (A8 0 rfl (A8 0 rfl ?_)))))))));exact Al (B.length-(i+1)) _ (by omega) ⟨i+1,v9,m9,O++[ce],rfl,rfl,AJ lh l3,rfl,by omega,hO9,by rw[map_append,hOc,take_succ_eq_append_getElem hil,map_append,map_append,hx,append_assoc];rfl,RdC.snoc' (fun a ha=>(hOs a ha).up l3) hce⟩ Qs
  ·obtain rfl:i=B.length:=by omega
   refine Av (Aa (Aa (Af (Ab (As (Qx (oG rfl CF AW (Seg.blk 1 rfl)) rfl ?_))))));refine Sa 2 [_] AW rfl (by simp[oa,ob,ov]) ?_;refine Am (An (A8 1 rfl ?_));exact By (vs:=[_]) 1 rfl rfl CF rfl AW rfl rfl (⟨AJ l1 (AJ l2 lh),mO,O,_,rfl,rfl,hO,⟨m,hm0,hm1,hm,by rw[hOc,take_length]⟩,hOs⟩)
variable {o:List Cl}
theorem E5{l:List Cl}(R:Rgt l):Fh l=ordF l:=by have F:=R.ordF;refine Qy _ _ (fun _=>nofun) fun i hi e=>?_;have:=List.pairwise_iff_getElem.1 F.inc i (i+1) (by omega) hi (by omega);omega
theorem Rgt.cs{l:List Ce}(R:Rgt (l.map Ce.c)):CsOk l:=by have hn:=R.n;rw[length_map]at hn;exact⟨by omega,fun a ha=>by have:=(R.bds (List.mem_map.2 ⟨a,ha,rfl⟩)).2;omega⟩
def W4(o:List Cl)(i j k:Nat):Bool:=(o.take i).any (fun y=>y.sd.any fun s=>decide (s.1=(o.getD k default).id))||((o.getD i default).sd.take j).any fun s=>decide (s.1=(o.getD k default).id)
def Lx(o:List Cl)(i j:Nat):List Bool:=(range o.length).map (W4 o i j)
theorem FD(o:List Cl)(i j:Nat):(Lx o i j).length=o.length:=by simp[Lx]
theorem V7(o:List Cl):Lx o 0 0=replicate o.length false:=by unfold Lx;refine List.ext_getElem (by simp) fun k h1 h2=>?_;simp[W4]
theorem X4{i:Nat}(hi:i<o.length):Lx o i o[i].sd.length=Lx o (i+1) 0:=by unfold Lx;refine List.map_congr_left fun k hk=>?_;unfold W4;rw[show o.getD i default=o[i] by simp[List.getD,hi],take_length,take_succ_eq_append_getElem hi,List.any_append];simp
theorem Ur(R:RgtF o){i j:Nat}(hi:i<o.length)(hj:j<o[i].sd.length){k:Nat}(hk:I5 o o[i].sd[j].1=k):(Lx o i j).set k true=Lx o i (j+1):=by
 have G:=R.rgt;obtain⟨y,hy,e1,_⟩:=G.sid _ (getElem_mem hi) _ (getElem_mem hj);obtain⟨h1,h2⟩:=Hi R.inc hy;rw[e1,hk]at h1 h2;rw[Int.toNat_natCast]at h2;have hkl:k<o.length:=by have:=HT o o[i].sd[j].1;omega
 refine List.ext_getElem (by rw[length_set,FD,FD]) fun q hq1 hq2=>?_;have hq:q<o.length:=by rw[FD]at hq2;exact hq2
 have hg:o.getD i default=o[i]:=by simp[List.getD,hi]
 have hT:W4 o i (j+1) q=(W4 o i j q||decide (o[i].sd[j].1=(o.getD q default).id)):=by unfold W4;rw[hg,take_succ_eq_append_getElem hj,List.any_append,Bool.or_assoc];simp
 have hr:(Lx o i (j+1))[q]=W4 o i (j+1) q:=by simp[Lx]
 have hl:(Lx o i j)[q]'(by rw[FD];exact hq)=W4 o i j q:=by simp[Lx]
 rw[hr,hT,List.getElem_set];by_cases e:k=q
 ·subst e;rw[if_pos rfl,h2,e1];simp
 ·rw[if_neg e,hl];have hne:o[i].sd[j].1≠(o.getD q default).id:=fun h=>e (Lq G.nd hkl hq (by rw[h2,e1,h]));rw[decide_eq_false hne,Bool.or_false]
theorem W9{k:Nat}(hk:k<o.length):(Lx o o.length 0)[k]'(by rw[FD];exact hk)=o.any fun y=>y.sd.any fun s=>decide (s.1=o[k].id):=by
 have:(Lx o o.length 0)[k]'(by rw[FD];exact hk)=W4 o o.length 0 k:=by simp[Lx]
 rw[this];unfold W4;rw[take_length,show o.getD k default=o[k] by simp[List.getD,hk]];simp
def Ny(o:List Cl)(x:Cl):Bool:=!(o.any fun y=>y.sd.any fun s=>decide (s.1=x.id))
theorem XJ(l:List Ce)(v:Value)(hp:Hp)(hK:RgC l)(hR:RdC hp v l):FnT Tryz.prog 47 #[.agg #[v]] hp [] (fun r h' ms'=>hp.le h'/\∃m,ms'=[m]/\OwnL cI 1 3 m r (IM (cn l))):=by
 have o1:=hR.q.rd.one;have hln:=hK.r.n;rw[length_map]at hln;refine Ap func47 ntmps47 rfl rfl (fun w0 hw0=>?_);simp only[AX];refine As (AV [_] rfl rfl (by rfl) rfl rfl rfl (fun g1=>Qm rfl (Am (Bm 0 rfl fun h1 l1 hS=>?_))));have hR:=hR.up l1;refine As (Qm rfl (BK (Qx (oG rfl CF AW (Seg.any hS)) rfl (Qc call49 rfl (F5 l v h1 hK.r.cs hR) (fun rC h2 ms2 l2 hF=>?_)))));obtain⟨l2',mC,A,rfl,hOC,hA,hAs⟩:=hF;rw[E5 hK.r]at hA;obtain⟨o,ho⟩:∃o,cn l=o:=⟨_,rfl⟩
 have hA:A.map Ce.c=o:=by rw[hA,<-ho];rfl
 have F:RgtF o:=by rw[<-ho];exact hK.F
 have G:=F.rgt;rw[ho];have hAl:A.length=o.length:=by rw[<-hA,length_map]
 have hol:o.length<=4000:=G.n;have oC:=hOC.o1;refine Qm rfl (Am (Bu hOC fun h3 l3 hQ=>?_));have hAs:∀a∈A,RdL cD 2 h3 [] a.v a.c.sd:=fun a ha=>(hAs a ha).up l3;have l13:=AJ l2' l3;have hge:∀i (hi:i<A.length),o[i]'(by omega)=A[i].c:=fun i hi=>by subst hA;simp
 refine As (Qm rfl (Qx (Ar hQ.rd.any rfl Bh rfl) rfl (CD (n:=_) rfl Qh W7 rfl rfl rfl (by rfl) (by rfl) (by omega) (by omega) rfl rfl rfl (fun g14=>Qm rfl (Am ?_)))));have hO5:=R3 g14 A.length (by omega);rw[hAl,<-V7]at hO5;refine BJ ?_;refine A9 (fun sl h' ms'=>∃(m5:Hp),sl=[(3,.slice none 0 0),(4,rC),(5,.slice (some ⟨g14,0,none⟩) A.length A.length)]/\h3=h'/\ms'=[Hp.emp,m5]/\OwnL cB 1 4 m5 (.slice (some ⟨g14,0,none⟩) A.length A.length) (Lx o A.length 0)) ?_ (fun s h ms hI=>?_)
 ·refine Ac (Ad (Qm rfl (Am (Ag ?_))))
  refine Ay (fun q sl h' ms'=>∃(i:Nat) (m5:Hp),q=A.length-i/\sl=[(3,.slice none 0 0),(4,rC),(5,.slice (some ⟨g14,0,none⟩) A.length A.length),(6,.int .i64 i)]/\h3=h'/\ms'=[Hp.emp,m5]/\i<=A.length/\OwnL cB 1 4 m5 (.slice (some ⟨g14,0,none⟩) A.length A.length) (Lx o i 0))
   (A.length-0) _ ⟨0,_,rfl,rfl,rfl,rfl,by omega,by rw[hAl];exact hO5⟩ Qs ?_
  rintro q sl h' ms' ⟨i,m5,rfl,rfl,rfl,rfl,hi,hO5⟩;refine Ac (As (Qm rfl (Qm rfl (Qx (Ar hQ.rd.any rfl Bh rfl) rfl (Qm rfl (Am ?_))))));refine Aq rfl (fun hlt=>?_) (fun hlt=>?_)
  ·have hil:i<A.length:=by omega
   have hio:i<o.length:=by omega
   obtain⟨x,hx⟩:∃x,A[i]=x:=⟨_,rfl⟩
   have hxm:x∈A:=by rw[<-hx];exact getElem_mem hil
   have hxo:o[i]=x.c:=by rw[hge i hil,hx]
   have hX:=hAs x hxm;have oX:=hX.rd.one;have hxl:x.c.sd.length<=64:=by have:=(F.bds (getElem_mem hio)).2.1;rwa [hxo]at this
   have cx:∀ms,Cell h3 ms (((AF rC).add (i*3)).add 2) x.v:=fun ms=>by rw[<-hx];exact(hQ.any (ms:=ms)).cell (j:=i) hil (f:=2) rfl
   refine Ah (Ab (Ac (Ag (As (Qm rfl (Am (Ag ?_)))))))
   refine Ay (fun q sl h' ms'=>∃(j:Nat) (m5:Hp),q=x.c.sd.length-j/\sl=[(3,.slice none 0 0),(4,rC),(5,.slice (some ⟨g14,0,none⟩) A.length A.length),(6,.int .i64 i),(7,.int .i64 j)]/\h3=h'/\ms'=[Hp.emp,m5]/\j<=x.c.sd.length/\OwnL cB 1 4 m5 (.slice (some ⟨g14,0,none⟩) A.length A.length) (Lx o i j))
    (x.c.sd.length-0) _ ⟨0,m5,rfl,rfl,rfl,rfl,by omega,hO5⟩ Qs ?_
   rintro q sl h' ms' ⟨j,m5,rfl,rfl,rfl,rfl,hj,hO5⟩;refine Ac (As (Qm rfl (Qm rfl (Qm rfl (Qx (BF (i) hQ.rd.any rfl Bh AI rfl rfl) rfl (Qf BB rfl (Ql rfl BZ (cx _) (Qx (Ar hX.rd.any rfl BZ rfl) rfl (Qm rfl (Am ?_))))))))));refine Aq rfl (fun hjl=>?_) (fun hjl=>?_)
   ·have hjn:j<x.c.sd.length:=by omega
    obtain⟨s,hs⟩:∃s,x.c.sd[j]=s:=⟨_,rfl⟩
    have cs:∀ms,Cell h3 ms (((AF x.v).add (j*2)).add 0) (.int .i64 s.1):=fun ms=>by
     have:Seg h3 ms ((AF x.v).add (j*2)) (cD s):=by rw[<-hs];exact(hX.any (ms:=ms)).seg hjn
     exact this 0 _ rfl
    obtain⟨y,hy,ey,_⟩:=G.sid _ (getElem_mem hio) s (by rw[hxo,<-hs];exact getElem_mem hjn);have hat:=(Hi F.inc hy).1;rw[ey]at hat;obtain⟨k,hk⟩:∃k:Nat,I5 o s.1=k:=⟨_,(Int.toNat_of_nonneg hat).symm⟩
    have hko:k<o.length:=by have:=HT o s.1;omega
    have hkM:k<(Lx o i j).length:=by rw[FD];exact hko
    have hmk:=Ur F hio (j:=j) (by rw[hxo];exact hjn) (k:=k) (by simp only[hxo,hs];exact hk);refine Ah (Ab (Ac (Ag (As (Qm rfl (Qm rfl (Qm rfl (Qx (BF (i) hQ.rd.any rfl Bh AI rfl rfl) rfl (Qf BB rfl (Ql rfl BZ (cx _) (Qm rfl (Qx (BF (j) hX.rd.any rfl BZ AM rfl rfl) rfl (Qf B6 rfl (Ql rfl U3 (cs _) ?_))))))))))))));refine Qx (AL rfl call117 rfl ((by have:=WG A rC s.1 h3 (by omega) (by rw[hA];exact F.inc.imp fun h=>Int.le_of_lt h) hQ [Hp.emp,m5];rwa [hA,hk]at this))) rfl ?_;refine Qm rfl (BK (Qm rfl (Qm rfl (Am ?_))));refine Aq rfl (fun hc=>?_) (fun hc=>absurd (by omega) hc);refine Ad (Qm rfl (Qm rfl (Qx (BM (k) rfl Qh W7 rfl rfl (by omega) (by omega)) rfl (CK (F:=cB) (f:=fun x=>.bool x) (a:=true) 1 k (fun _=>rfl) hO5 rfl W7 rfl rfl rfl rfl hkM rfl rfl (fun m6 hO6=>?_)))));rw[hmk]at hO6;refine Ak (Ai (Ab (Ad (Qm rfl (Qx (oA rfl) rfl (Qm rfl (Ak ?_)))))));exact Al (x.c.sd.length-(j+1)) _ (by omega) ⟨j+1,m6,rfl,rfl,rfl,rfl,by omega,hO6⟩ Qs
   ·obtain rfl:j=x.c.sd.length:=by omega
    refine Av (Aa (Aa (Af (Ai (Ab (Ad (Qm rfl (Qx (oA rfl) rfl (Qm rfl (Ak ?_))))))))));exact Al (A.length-(i+1)) _ (by omega) ⟨i+1,m5,rfl,rfl,rfl,rfl,by omega,by rw[<-X4 hio,hxo];exact hO5⟩ Qs
  ·obtain rfl:i=A.length:=by omega
   refine Av (Aa (Aa (Af ?_)));exact AD _ ⟨m5,rfl,rfl,rfl,hO5⟩ Qs
 ·obtain⟨m5,rfl,rfl,rfl,hO5⟩:=hI;refine DZ 1 rfl (Bq fun h4 l4 k4=>?_);have hB:=hO5.rdh (ms:=[]) k4;have hQ:=hQ.up l4
  have htk:∀i (hi:i<o.length),((o.take (i+1)).filter (Ny o)).map Cl.id=((o.take i).filter (Ny o)).map Cl.id++if Ny o o[i] then [o[i].id] else []:=fun i hi=>by rw[take_succ_eq_append_getElem hi,filter_append,map_append];congr 1;cases h:Ny o o[i]<;>simp[List.filter_cons,h]
  refine Ac (As (Qm rfl (Am (Ag ?_))))
  refine Ay (fun q sl h' ms'=>∃(i:Nat) (v:Value) (m:Hp),q=A.length-i/\sl=[(3,v),(4,rC),(5,.slice (some ⟨g14,0,none⟩) A.length A.length),(9,.int .i64 i)]/\h4=h'/\ms'=[m]/\i<=A.length/\OwnL cI 1 3 m v (((o.take i).filter (Ny o)).map Cl.id))
   (A.length-0) _ ⟨0,_,Hp.emp,rfl,rfl,rfl,rfl,by omega,OwnL.nil Bg⟩ Qs ?_
  rintro q sl h' ms' ⟨i,v3,m3,rfl,rfl,rfl,rfl,hi,hO3⟩;have ov3:=hO3.o1;refine Ac (As (Qm rfl (Qm rfl (Qx (Ar hQ.rd.any rfl Bh rfl) rfl (Qm rfl (Am ?_))))));refine Aq rfl (fun hlt=>?_) (fun hlt=>?_)
  ·have hil:i<A.length:=by omega
   have hio:i<o.length:=by omega
   obtain⟨x,hx⟩:∃x,A[i]=x:=⟨_,rfl⟩
   have hxo:o[i]=x.c:=by rw[hge i hil,hx]
   have hmi:i<(Lx o A.length 0).length:=by rw[FD];exact hio
   have hmk:(Lx o A.length 0)[i]=!Ny o o[i]:=by have:=W9 hio;unfold Ny;rw[Bool.not_not,<-this];simp only[hAl]
   have cb:∀ms,Cell h4 ms ((AF (.slice (some ⟨g14,0,none⟩) A.length A.length)).add (i*1)) (.bool (!Ny o o[i])):=fun ms=>by rw[<-hmk];exact(hB.any (ms:=ms)).cell0 hmi rfl
   have cx:∀ms,Cell h4 ms (((AF rC).add (i*3)).add 0) (.int .i64 x.c.id):=fun ms=>by rw[<-hx];exact(hQ.any (ms:=ms)).cell (j:=i) hil (f:=0) rfl
   have hfl:(((o.take i).filter (Ny o)).map Cl.id).length<=4000:=by rw[length_map];exact Nat.le_trans (List.length_filter_le _ _) (by rw[length_take];omega)
   have hk:=htk i hio;refine Ah (Ab (Ac (Ag (As (Qm rfl (Qm rfl (Qx (BM (i) rfl Qh W7 rfl rfl (by omega) (by omega)) rfl (Ql rfl U4 (cb _) (Qm rfl (Am ?_))))))))));refine Bz rfl (fun hb=>?_) (fun hb=>?_)
   ·rw[Bool.not_not]at hb;rw[hb,if_pos rfl,hxo]at hk;refine Ad (Qm rfl (Qm rfl (Qm rfl (Qx (BF (i) hQ.rd.any rfl Bh AI rfl rfl) rfl (Qf Bt rfl (Ql rfl U3 (cx _) (Ao [_] rfl AU A6 rfl (by rfl) rfl rfl (by omega) rfl rfl rfl (fun g64=>AO 1 hO3 (RdL.one Bg (x:=x.c.id) Mh rfl) rfl AU A6 rfl (by omega) rfl rfl rfl Cb (by(try simp only[length_singleton]);omega) (by(try simp only[length_singleton]);omega) rfl rfl rfl (fun v9 m9 hO9=>?_)))))))));rw[<-hk]at hO9;have ov9:=hO9.o1;refine Qm rfl (Ak (Ai (Ab (Ad (Qm rfl (Qx (oA rfl) rfl (Qm rfl (Ak (AN ?_)))))))));exact Al (A.length-(i+1)) _ (by omega) ⟨i+1,v9,m9,rfl,rfl,rfl,rfl,by omega,hO9⟩ Qs
   ·rw[Bool.not_not]at hb;rw[hb,if_neg (by decide),append_nil]at hk;refine Ah (Ai (Ab (Ad (Qm rfl (Qx (oA rfl) rfl (Qm rfl (Ak ?_)))))));exact Al (A.length-(i+1)) _ (by omega) ⟨i+1,v3,m3,rfl,rfl,rfl,rfl,by omega,by rw[hk];exact hO3⟩ Qs
  ·obtain rfl:i=A.length:=by omega
   refine Av (Aa (Aa (Af (Ab (As (Qm rfl (Qm rfl (Am (An ?_)))))))));exact Az rfl rfl (⟨AJ l1 (AJ l2' (AJ l3 l4)),m3,rfl,by rw[hAl,take_length]at hO3;exact hO3⟩)
end Go.Proofs.Q

namespace Go.Proofs.Q
open Go.Proofs.Tryz
open Go.Eng Go.RowKit
theorem Xz{l:List Cl}(R:Rgt l):FN l=(0,0):=by
 have F:=R.ordF;have hl:=TB l
 have hA:(range l.length).findSome? (H2 (ordF l) (Fh l))=none:=Co _ fun b hb=>by
  have hb':b<(ordF l).length:=by omega
  unfold H2;rw[E5 R,Hc hb'];have h1:=F.pos _ (getElem_mem hb');rw[if_neg (fun q=>?_),if_neg (fun q=>q (F.fst _ (getElem_mem hb')))];rcases q with q|⟨q,e⟩
  ·omega
  ·have:=List.pairwise_iff_getElem.1 F.inc (b-1) b (by omega) hb' (by omega);rw[Hc (show b-1<(ordF l).length by omega)]at e;omega
 have hB:(range l.length).findSome? (JL (ordF l))=none:=Co _ fun b hb=>by
  have hb':b<(ordF l).length:=by omega
  unfold JL;rw[Hc hb'];split
  ·rfl
  ·rw[if_neg fun q=>q (F.snd _ (getElem_mem hb') (by omega))]
 unfold FN;rw[if_neg (by have:=R.n;omega),hA,hB];rfl
theorem Rgt.ck{l:List Ce}(R:Rgt (l.map Ce.c)):Aa2 l:=
 ⟨R.cs,fun a ha=>by have:=(R.bds (List.mem_map.2 ⟨a,ha,rfl⟩)).1;omega⟩
theorem Oq(l:List Ce)(v:Value)(h:Hp)(hK:RgC l)(hR:RdC h v l):FnT Tryz.prog 69 #[.agg #[v]] h [] (fun r _ _=>r=.tuple #[.int .i64 0,.int .i64 0]):=by
 have:=Qv l v h hK.r.ck hR
 rwa [Xz hK.r]at this
theorem My(l:List Ce)(v:Value)(i:Int)(hp:Hp)(hK:RgC l)(hR:RdC hp v l):FnT Tryz.prog 70 #[.agg #[v],.int .i64 i] hp [] (fun r h' ms'=>hp.le h'/\∃y:Ce,r=.tuple #[vC y,.bool (LW (cn l) i).isSome]/\y.v.oneCell'=true):=by
 have o1:=hR.q.rd.one;have F:=hK.F;refine Ap func70 ntmps70 rfl rfl (fun w0 hw0=>?_);simp only[AX];refine As (AV [_] rfl rfl (by rfl) rfl rfl rfl (fun g2=>Cz [.int .i64 0,.int .i64 0,.slice none 0 0] rfl AI rfl rfl (fun g4=>Qm rfl (Am (Bm 1 rfl fun h1 l1 hS=>?_)))));have hR:=hR.up l1;refine As (Qx (oG rfl CF AW (Seg.any hS)) rfl (Qc call49 rfl (F5 l v h1 hK.r.cs hR) (fun rA h2 ms2 l2 hF=>?_)));obtain⟨l2',mA,A,rfl,hOA,hA,hsA⟩:=hF;rw[E5 hK.r]at hA;have oA_:=hOA.o1;refine Qm rfl (Am (Bu hOA fun h3 l3 hRA=>?_))
 have hAl:A.length<=100000:=by have:=congrArg List.length hA;rw[length_map,E8,length_map]at this;have:=hK.r.cs.n;omega
 have hcn:A.map Ce.c=cn l:=hA;have hst:(A.map Ce.c).Pairwise fun a b=>a.id<=b.id:=by rw[hcn];exact F.inc.imp fun h=>by omega
 have hatv:=fun ms=>WG A rA i h3 hAl hst hRA ms;rw[hcn]at hatv;refine As (Qm rfl (Qm rfl (Qx (AL rfl call117 rfl (hatv _)) rfl (Qm rfl (Am (Ac (As (Qm rfl (Qm rfl (Am ?_))))))))));refine Aq rfl (fun hlt=>?_) (fun hlt=>?_)
 ·have hno:(LW (cn l) i).isSome=false:=by
   cases e:(LW (cn l) i) with
   | none=>rfl
   | some y=>
    unfold LW at e;have h1:=List.mem_of_find?_eq_some e;have h2:y.id=i:=by have:=List.find?_some e;simpa using this
    have:=(Hi F.inc h1).1;rw[h2]at this;omega
  refine As (Qx (A3 VZ [.int .i64 0,.int .i64 0,.slice none 0 0] [] [_,_,_] rfl AI rfl rfl Qt rfl) rfl ?_);refine Sa 0 [_,_,_] AI rfl (by simp[Value.oneCell']) ?_;refine Qm rfl (Am (An (Ae ?_)));exact FY (vs:=[_,_,_]) 0 rfl rfl rfl Ef rfl AI rfl rfl (⟨AJ l1 (AJ l2 l3),default,by rw[hno];rfl,rfl⟩)
 ·obtain⟨y,hy,ey,eg⟩:=Sh (o:=cn l) (c:=i) (by omega);have hys:(LW (cn l) i).isSome=true:=by rw[<-ey,Dk (MP F.inc) hy];rfl
  obtain⟨k,hk⟩:∃k:Nat,I5 (cn l) i=k:=⟨(I5 (cn l) i).toNat,by omega⟩
  have hlt':=HT (cn l) i;have hkA:k<A.length:=by rw[<-hcn,length_map]at hlt';rw[<-hcn]at hk;omega
  obtain⟨x,hx⟩:∃x,A[k]=x:=⟨_,rfl⟩
  have hX:=(hsA x (by rw[<-hx];exact getElem_mem hkA)).up l3;have ox:=hX.rd.one;have sx:∀ms,Seg h3 ms ((AF rA).add (k*3)) (cC x):=fun ms=>by rw[<-hx];exact(hRA.any (ms:=ms)).seg hkA
  rw[hk];refine Ah (Ab (As (Qm rfl (Qm rfl (Qx (BF (k) hRA.rd.any rfl Bh AI rfl rfl) rfl (Qx (oG rfl Ef AI (sx _)) rfl ?_))))));refine Sa 0 [_,_,_] AI rfl (by simp[o1,oA_,ox]) ?_;refine Qm rfl (Am (An ?_));exact FY (vs:=[_,_,_]) 0 rfl rfl rfl Ef rfl AI rfl rfl (⟨AJ l1 (AJ l2 l3),x,by rw[hys];rfl,ox⟩)
theorem Abd{o:List Cl}{F:List (Int×Int)}:(∀j,j<F.length->fA o F j=none)->(F.map Prod.fst).Nodup:=fun h=>by
 have:∀i,i<=F.length->((F.take i).map Prod.fst).Nodup:=fun i=>by
  induction i with
  | zero=>simp
  | succ i ih=>
   intro hi;have h1:=ih (by omega);have h2:=h i (by omega);unfold fA at h2;have hg:F.getD i (0,0)=F[i]:=by simp[List.getD,show i<F.length by omega]
   rw[hg]at h2;split at h2
   ·cases h2
   ·split at h2
    ·cases h2
    ·rename_i h3;rw[take_succ_eq_append_getElem (by omega),map_append,List.nodup_append];refine⟨h1,by simp,fun a ha b hb e=>h3 ?_⟩;simp only[map_cons,List.map_nil,List.mem_singleton]at hb;rw[<-hb,<-e];exact ha
 have:=this F.length (Nat.le_refl _)
 rwa [take_length]at this
theorem P6(l:List Ce)(F:List (Int×Int))(v vf:Value)(hp:Hp)(hK:RgC l)(hR:RdC hp v l)(hF:RdL cV 2 hp [] vf F)(hV:Gs F):FnT Tryz.prog 25 #[.agg #[v],vf] hp [] (fun r _ _=>r=.tuple #[.int .i64 (Cy (cn l) F).1,.int .i64 (Cy (cn l) F).2]):=by
 have o1:=hR.q.rd.one;have o2:=hF.rd.one;have hG:=hK.F.rgt;have hFn:=hV.n;have hln:l.length<=4000:=by have:=hG.n;rwa [Ds]at this
 refine Ap func25 ntmps25 rfl rfl (fun w0 hw0=>?_);simp only[AX];refine As (AV [_] rfl rfl (by rfl) rfl rfl rfl (fun g2=>Qm rfl (Qm rfl (Am (AC fun h1 l1 hS=>?_)))));have hR:=hR.up l1;have hF:=hF.up l1;refine As (Qx (oG rfl CF AW (Seg.any hS)) rfl (Qx (AL rfl call69 rfl (EO (Oq l v h1 hK hR) _)) rfl (Qm rfl (Qm rfl (Qm rfl (Qm rfl (Qm rfl (Am (Ac (As (Qm rfl (Qm rfl (Am (Aq rfl (fun hc=>absurd hc (fun h=>h rfl)) (fun hc=>Ah (Ab ?_))))))))))))))));refine A9 (fun sl h' ms'=>sl=[(1,vf),(2,.pointer (some ⟨g2,0,none⟩))]/\h1.le h'/\ms'=[]/\∀j,j<F.length->fA (cn l) F j=none) ?_ (fun s h ms hI=>?_)
 ·refine Ac (Ad (Qm rfl (Am (Ag ?_))))
  refine Ay (fun q sl h' ms'=>∃(i:Nat),q=F.length-i/\sl=[(1,vf),(2,.pointer (some ⟨g2,0,none⟩)),(8,.int .i64 i)]/\h1.le h'/\ms'=[]/\i<=F.length/\∀j,j<i->fA (cn l) F j=none)
   (F.length-0) _ ⟨0,rfl,rfl,C9,rfl,by omega,fun j h=>by omega⟩ Qs ?_
  rintro q sl h2 ms' ⟨i,rfl,rfl,l2,rfl,hi,hno⟩;have hF:=hF.up l2;have hR:=hR.up l2;have hS2:=hS.le l2;refine Ac (As (Qm rfl (Qm rfl (Qx (Ar hF.rd.any rfl FP rfl) rfl (Qm rfl (Am ?_))))));refine Aq rfl (fun hlt=>?_) (fun hlt=>?_)
  ·have hil:i<F.length:=by omega
   obtain⟨p,hp⟩:∃p,F[i]=p:=⟨_,rfl⟩
   have hgp:F.getD i (0,0)=p:=by simp[List.getD,hil,hp]
   have c0:∀h',h2.le h'->∀ms,Cell h' ms (((AF vf).add (i*2)).add 0) (.int .i64 p.1):=fun h' l' ms=>by rw[<-hp];exact((hF.up l').any (ms:=ms)).cell hil (f:=0) rfl
   obtain⟨bb,hbb⟩:∃bb,(LW (cn l) p.1).isSome=bb:=⟨_,rfl⟩
   refine Ah (Ab (Ac (Ag ?_)));refine A9 (fun sl h' ms'=>sl=[(1,vf),(2,.pointer (some ⟨g2,0,none⟩)),(8,.int .i64 i),(10,.bool bb)]/\h2.le h'/\ms'=[]) ?_ (fun s h ms hI=>?_)
   ·refine BG (n:=13) (bs:=[true,true,true,true,true,true,false,false,false,false,false,false,false]) [true,true,true,true,true,true] CS (by kernel_rfl) (by kernel_rfl) rfl rfl (Qp rfl (oG rfl CF AW (Seg.any hS2)) (Qq rfl (Qq rfl (Qp rfl (BF (i) hF.rd.any rfl FP Cx rfl rfl) (QF EJ rfl (QL rfl U3 (c0 _ (C9) _) ?_))))));unfold Ft;simp only[cons_append,nil_append];refine A4 [6,10] (by kernel_rfl) rfl ?_;refine AA rfl ?_ ?_
    ·refine Qc call70 rfl (My l v p.1 _ hK hR) (fun rF h4 ms4 l4 hQ=>?_);obtain⟨l4',y,rfl,oy⟩:=hQ;refine Em ?_ ms4;rw[hbb];refine Qa (AZ 7 38 (by kernel_rfl) rfl (by assumption) rfl (Au rfl rfl) (AZ 8 46 (by kernel_rfl) rfl (by assumption) rfl (A7 rfl rfl rfl) (AZ 9 47 (by kernel_rfl) rfl (by assumption) rfl (A7 rfl rfl rfl) (Qo 10 rfl (Cz [.int .i64 0,.int .i64 0,.slice none 0 0] rfl AI rfl rfl (fun g9=>Qa (Qo 11 rfl ?_)))))));refine Sa 0 [_,_,_] AI rfl (by simp[o1,o2,oy]) ?_;refine Qa (Qo 12 rfl (Qm rfl (Qa (Qe (AN ?_)))));exact AD _ ⟨rfl,l4',rfl⟩ Qs
    refine AA rfl ?_ ?_
    ·refine Cz [.int .i64 0,.int .i64 0,.slice none 0 0] rfl AI rfl rfl (fun g9=>Qw (Qo 6 rfl (Qc call70 rfl (My l v p.1 _ hK hR) (fun rF h4 ms4 l4 hQ=>?_))));obtain⟨l4',y,rfl,oy⟩:=hQ;refine Em ?_ ms4;rw[hbb];refine Qa (AZ 7 38 (by kernel_rfl) rfl (by assumption) rfl (Au rfl rfl) (AZ 8 46 (by kernel_rfl) rfl (by assumption) rfl (A7 rfl rfl rfl) (AZ 9 47 (by kernel_rfl) rfl (by assumption) rfl (A7 rfl rfl rfl) (Qo 11 rfl ?_))));refine Sa 0 [_,_,_] AI rfl (by simp[o1,o2,oy]) ?_;refine Qa (Qo 12 rfl (Qm rfl (Qa (Qe (AN ?_)))));exact AD _ ⟨rfl,l4',rfl⟩ Qs
    exact A5
   ·obtain⟨rfl,l3,rfl⟩:=hI;have hF:=hF.up l3;have hR:=hR.up l3;have l23:=AJ l2 l3;have c0:=c0 _ l3;refine Ac (As (Qm rfl (Qm rfl (Am ?_))));refine Bz rfl (fun hn=>?_) (fun hn=>?_)
    ·have hbf:bb=false:=by cases bb<;>simp at hn ⊢
     have hch:=Ns (o:=cn l) hil hno (by unfold fA;rw[hgp,hbb,if_pos hbf]);refine As (Qm rfl (Qm rfl (Qx (BF (i) hF.rd.any rfl FP Cx rfl rfl) rfl (Qf EJ rfl (Ql rfl U3 (c0 _) (Qm rfl (Qm rfl (Am (An (Ae (Aj (Ae (Ae (Aj (Ae ?_)))))))))))))));exact Bo rfl rfl rfl (by rw[hch])
    ·have hbt:¬bb=false:=by cases bb<;>simp at hn ⊢
     have hTk:RdL cV 2 h [] (B4 2 vf 0 i) (F.take i):=by have:=hF.sub_ (i:=0) (j:=i) (by omega) hi;rwa [List.drop_zero,Nat.sub_zero]at this
     have hval:=L5 (F.take i) (B4 2 vf 0 i) p.1 h hTk;rw[OZ]at hval;refine Ah (Ab (Ac (Bc 13 CS (by kernel_rfl) rfl (Wm rfl (Wm rfl (AR (DS _ hF.rd.any rfl FP Cx rfl rfl rfl (by omega)) rfl rfl (Wm rfl (Wm rfl (AR (BF (i) hF.rd.any rfl FP Cx rfl rfl) rfl rfl (Wf EJ rfl (Wl rfl U3 (c0 _) (AR (AL rfl call71 rfl (hval _)) rfl rfl (Wm rfl (Wm rfl (Wm rfl (Wm rfl (AY (Qm rfl (BK (Qm rfl (Am ?_)))))))))))))))))))));refine Bz rfl (fun hin=>?_) (fun hin=>?_)
     ·have him:p.1∈(F.take i).map Prod.fst:=of_decide_eq_true hin;have hch:=Ns (o:=cn l) hil hno (by unfold fA;rw[hgp,hbb,if_neg hbt,if_pos him]);refine As (Qm rfl (Qm rfl (Qx (BF (i) hF.rd.any rfl FP Cx rfl rfl) rfl (Qf EJ rfl (Ql rfl U3 (c0 _) (Qm rfl (Qm rfl (Am (An (Aj (Ae (Ae (Aj (Ae ?_))))))))))))));exact Bo rfl rfl rfl (by rw[hch])
     ·have him:p.1 ∉ (F.take i).map Prod.fst:=fun q=>by rw[decide_eq_true q]at hin;cases hin
      have hci:fA (cn l) F i=none:=by unfold fA;rw[hgp,hbb,if_neg hbt,if_neg him]
      refine Ah (Ai (Ab (Ad (Qm rfl (Qx (oA rfl) rfl (Qm rfl (Ak ?_)))))))
      exact Al (F.length-(i+1)) _ (by omega) ⟨i+1,rfl,rfl,l23,rfl,by omega,fun j hj=>by
       rcases (by omega:j<i\/j=i) with h1|rfl
       ·exact hno j h1
       ·exact hci⟩ Qs
  ·obtain rfl:i=F.length:=by omega
   refine Av (Aa (Aa (Af ?_)));exact AD _ ⟨rfl,l2,rfl,hno⟩ Qs
 ·obtain⟨rfl,l2,rfl,hno⟩:=hI;have hR:=hR.up l2;have hF:=hF.up l2;have hS2:=hS.le l2;have hfn:=Abd hno;refine As (Qx (oG rfl CF AW (Seg.any hS2)) rfl (Qc call49 rfl (F5 l v _ hK.r.cs hR) (fun rA h3 ms3 l3 hQ=>?_)));obtain⟨l3',mA,A,rfl,hOA,hA,hsA⟩:=hQ;rw[E5 hK.r]at hA;have hcn:A.map Ce.c=cn l:=hA;refine Qm rfl (Am (Bu hOA fun h4 l4 hQ=>?_));have hsA:=fun a ha=>(hsA a ha).up l4;have hF:=hF.up (AJ l3 l4);have oA_:=hQ.rd.one;have hol:(cn l).length=A.length:=by rw[<-hcn,length_map]
  have hAn:A.length<=4000:=by rw[<-hol,Ds];exact hln
  have hget:∀i (hi:i<A.length),(cn l).getD i default=A[i].c:=fun i hi=>by rw[<-hcn];simp[List.getD,hi]
  have hAs:∀a∈A,a.c.sd.length<=64:=fun a ha=>by
   have h1:a.c∈cn l:=by rw[<-hcn];exact List.mem_map.2 ⟨a,ha,rfl⟩
   exact(hK.F.bds h1).2.1
  obtain⟨o,ho⟩:∃o,cn l=o:=⟨_,rfl⟩
  rw[ho]at hol hno hget ⊢;have hvv:=fun c=>L5 F vf c h4 hF;refine A9 (fun sl h' ms'=>sl=[(1,vf),(13,rA)]/\h4=h'/\ms'=[]/\∀j,j<A.length->fB o F j=none) ?_ (fun s h ms hI=>?_)
  ·refine Ac (Ad (Qm rfl (Am (Ag ?_))))
   refine Ay (fun q sl h' ms'=>∃(i:Nat),q=A.length-i/\sl=[(1,vf),(13,rA),(14,.int .i64 i)]/\h4=h'/\ms'=[]/\i<=A.length/\∀j,j<i->fB o F j=none)
    (A.length-0) _ ⟨0,rfl,rfl,rfl,rfl,by omega,fun j h=>by omega⟩ Qs ?_
   rintro q sl h' ms' ⟨i,rfl,rfl,rfl,rfl,hi,hnB⟩;refine Ac (As (Qm rfl (Qm rfl (Qx (Ar hQ.rd.any rfl Bh rfl) rfl (Qm rfl (Am ?_))))));refine Aq rfl (fun hlt=>?_) (fun hlt=>?_)
   ·have hil:i<A.length:=by omega
    have hgx:=hget i hil;have c0:∀ms,Cell h4 ms (((AF rA).add (i*3)).add 0) (.int .i64 A[i].c.id):=fun ms=>(hQ.any (ms:=ms)).cell hil (f:=0) rfl;have hvi:=hvv A[i].c.id;rw[OZ]at hvi;refine Ah (Ab (Ac (Ag (As (Qm rfl (Qm rfl (Qm rfl (Qx (BF (i) hQ.rd.any rfl Bh AI rfl rfl) rfl (Qf Bt rfl (Ql rfl U3 (c0 _) (Qx (AL rfl call71 rfl (hvi _)) rfl (Qm rfl (Qm rfl (Qm rfl (Qm rfl (Qm rfl (BK (Qm rfl (Qm rfl (Am ?_))))))))))))))))))));refine Bz rfl (fun hin=>?_) (fun hin=>?_)
    ·have hni:A[i].c.id ∉ F.map Prod.fst:=fun q=>by rw[decide_eq_true q]at hin;cases hin
     have hch:=UT (o:=o) (F:=F) hno (by rw[hol];exact hil) hnB (by unfold fB;rw[hgx,if_pos hni]);refine As (Qm rfl (Qm rfl (Qx (BF (i) hQ.rd.any rfl Bh AI rfl rfl) rfl (Qf Bt rfl (Ql rfl U3 (c0 _) (Qm rfl (Qm rfl (Am (An (Aj (Ae (Ae (Aj (Ae ?_))))))))))))));exact Bo rfl rfl rfl (by rw[hch])
    ·have hni:A[i].c.id∈F.map Prod.fst:=Classical.byContradiction fun q=>by rw[decide_eq_false q]at hin;cases hin
     have hci:fB o F i=none:=by unfold fB;rw[hgx,if_neg fun q=>q hni]
     refine Ah (Ai (Ab (Ad (Qm rfl (Qx (oA rfl) rfl (Qm rfl (Ak ?_)))))))
     exact Al (A.length-(i+1)) _ (by omega) ⟨i+1,rfl,rfl,rfl,rfl,by omega,fun j hj=>by
      rcases (by omega:j<i\/j=i) with h1|rfl
      ·exact hnB j h1
      ·exact hci⟩ Qs
   ·obtain rfl:i=A.length:=by omega
    refine Av (Aa (Aa (Af ?_)));exact AD _ ⟨rfl,rfl,rfl,hnB⟩ Qs
  ·obtain⟨rfl,rfl,rfl,hnB⟩:=hI;refine Ac (As (Qm rfl (Am (Ag ?_))))
   refine Ay (fun q sl h' ms'=>∃(i:Nat),q=A.length-i/\sl=[(1,vf),(13,rA),(17,.int .i64 i)]/\h4=h'/\ms'=[]/\i<=A.length/\∀j,j<i->fC o F j=none)
    (A.length-0) _ ⟨0,rfl,rfl,rfl,rfl,by omega,fun j h=>by omega⟩ Qs ?_
   rintro q sl h' ms' ⟨i,rfl,rfl,rfl,rfl,hi,hnC⟩;refine Ac (As (Qm rfl (Qm rfl (Qx (Ar hQ.rd.any rfl Bh rfl) rfl (Qm rfl (Am ?_))))));refine Aq rfl (fun hlt=>?_) (fun hlt=>?_)
   ·have hil:i<A.length:=by omega
    obtain⟨x,hx⟩:∃x,A[i]=x:=⟨_,rfl⟩
    have hxm:x∈A:=by rw[<-hx];exact getElem_mem hil
    have hgx:=hget i hil;rw[hx]at hgx;have hX:=hsA x hxm;have ox:=hX.rd.one;have hxs:=hAs x hxm;have c0:∀ms,Cell h4 ms (((AF rA).add (i*3)).add 0) (.int .i64 x.c.id):=fun ms=>by rw[<-hx];exact(hQ.any (ms:=ms)).cell hil (f:=0) rfl
    have c2:∀ms,Cell h4 ms (((AF rA).add (i*3)).add 2) x.v:=fun ms=>by rw[<-hx];exact(hQ.any (ms:=ms)).cell hil (f:=2) rfl
    have hvi:=hvv x.c.id;rw[Pi hfn]at hvi;obtain⟨w0,hw0⟩:∃w0,Fv F x.c.id=w0:=⟨_,rfl⟩
    obtain⟨b0,hb0⟩:∃b0,(JK F x.c.id).isSome=b0:=⟨_,rfl⟩
    rw[hw0,hb0]at hvi;refine Ah (Ab (Ac (Ag (As (Qm rfl (Qm rfl (Qm rfl (Qx (BF (i) hQ.rd.any rfl Bh AI rfl rfl) rfl (Qf Bt rfl (Ql rfl U3 (c0 _) (Qx (AL rfl call71 rfl (hvi _)) rfl (Qm rfl (Qm rfl (Qm rfl (Qm rfl (Qm rfl (BK (Qm rfl (Am (Ag ?_))))))))))))))))))))
    refine Ay (fun q sl h' ms'=>∃(k:Nat),q=x.c.sd.length-k/\sl=[(1,vf),(13,rA),(17,.int .i64 i),(18,.int .i64 w0),(20,.int .i64 k)]/\h4=h'/\ms'=[]/\k<=x.c.sd.length/\∀j (hj:j<x.c.sd.length),j<k->¬Fv F x.c.sd[j].1>w0)
     (x.c.sd.length-0) _ ⟨0,rfl,rfl,rfl,rfl,by omega,fun j _ h=>by omega⟩ Qs ?_
    rintro q sl h' ms' ⟨k,rfl,rfl,rfl,rfl,hk,hnD⟩;refine Ac (As (Qm rfl (Qm rfl (Qm rfl (Qx (BF (i) hQ.rd.any rfl Bh AI rfl rfl) rfl (Qf BB rfl (Ql rfl BZ (c2 _) (Qx (Ar hX.rd.any rfl BZ rfl) rfl (Qm rfl (Am ?_))))))))));refine Aq rfl (fun hlt2=>?_) (fun hlt2=>?_)
    ·have hkl:k<x.c.sd.length:=by omega
     obtain⟨s,hs⟩:∃s,x.c.sd[k]=s:=⟨_,rfl⟩
     have d0:∀ms,Cell h4 ms (((AF x.v).add (k*2)).add 0) (.int .i64 s.1):=fun ms=>by rw[<-hs];exact(hX.any (ms:=ms)).cell hkl (f:=0) rfl
     have hvs:=hvv s.1;rw[Pi hfn]at hvs;refine Ah (Ab (Ac (Ag (As (Qm rfl (Qm rfl (Qm rfl (Qx (BF (i) hQ.rd.any rfl Bh AI rfl rfl) rfl (Qf BB rfl (Ql rfl BZ (c2 _) (Qm rfl (Qx (BF (k) hX.rd.any rfl BZ AM rfl rfl) rfl (Qf B6 rfl (Ql rfl U3 (d0 _) (Qx (AL rfl call71 rfl (hvs _)) rfl (Qm rfl (Qm rfl (Qm rfl (Qm rfl (Qm rfl (BK (Qm rfl (Qm rfl (Qm rfl (Am ?_)))))))))))))))))))))))));refine Aq rfl (fun hgt=>?_) (fun hgt=>?_)
     ·have hup:YR o F i:=by unfold YR;rw[hgx];exact⟨s,by rw[<-hs];exact getElem_mem hkl,by rw[hw0];exact hgt⟩
      have hch:=W2 (o:=o) (F:=F) hno (by rw[hol];exact hnB) (by rw[hol];exact hil) hnC (by unfold fC;rw[hgx,if_pos hup]);refine As (Qm rfl (Qm rfl (Qx (BF (i) hQ.rd.any rfl Bh AI rfl rfl) rfl (Qf Bt rfl (Ql rfl U3 (c0 _) (Qm rfl (Qm rfl (Am (An (Aj (Ae (Ae (Aj (Aj (Ae (Ae (Aj (Ae ?_))))))))))))))))));exact Bo rfl rfl rfl (by rw[hch])
     ·refine Ah (Ai (Ab (Ad (Qm rfl (Qx (oA rfl) rfl (Qm rfl (Ak ?_)))))))
      exact Al (x.c.sd.length-(k+1)) _ (by omega) ⟨k+1,rfl,rfl,rfl,rfl,by omega,fun j hj hjk=>by
       rcases (by omega:j<k\/j=k) with h1|rfl
       ·exact hnD j hj h1
       ·rw[hs];exact hgt⟩ Qs
    ·obtain rfl:k=x.c.sd.length:=by omega
     have hci:fC o F i=none:=by unfold fC;rw[if_neg fun q=>?_];unfold YR at q;rw[hgx]at q;obtain⟨s,hs,hgt⟩:=q;obtain⟨j,hj,rfl⟩:=getElem_of_mem hs;rw[hw0]at hgt;exact hnD j hj hj hgt
     refine Av (Aa (Aa (Af (Ai (Ab (Ad (Qm rfl (Qx (oA rfl) rfl (Qm rfl (Ak ?_))))))))))
     exact Al (A.length-(i+1)) _ (by omega) ⟨i+1,rfl,rfl,rfl,rfl,by omega,fun j hj=>by
      rcases (by omega:j<i\/j=i) with h1|rfl
      ·exact hnC j h1
      ·exact hci⟩ Qs
   ·obtain rfl:i=A.length:=by omega
    have hch:=MX (o:=o) (F:=F) hno (by rw[hol];exact hnB) (by rw[hol];exact hnC);refine Av (Aa (Aa (Af (Ab (As (Qm rfl (Qm rfl (Am (An ?_)))))))));exact Bo rfl rfl rfl (by rw[hch])
end Go.Proofs.Q

namespace Go.Proofs.Q
open Go.Eng Go.RowKit Go.Lin
def part(p:Int)(k:Nat)(f g:Nat->Nat->Int)(i t j a b:Nat):Int:=sm (if a<i then k else if a=i then(if b<j then t+1 else t) else 0) (fun t=>f a t*g t b)%p
theorem NS(p:Int)(k:Nat)(f g:Nat->Nat->Int)(i a b:Nat):part p k f g i k 0 a b=part p k f g (i+1) 0 0 a b:=by
 unfold part;by_cases h1:a<i
 ·rw[if_pos h1,if_pos (by omega)]
 ·rw[if_neg h1];by_cases h2:a=i
  ·rw[if_pos h2,if_neg (by omega),if_pos (by omega)]
  ·rw[if_neg h2,if_neg (by omega)];by_cases h3:a=i+1
   ·rw[if_pos h3,if_neg (by omega)]
   ·rw[if_neg h3]
def FI(o:List Cl)(F:List (Int×Int))(p:Int):Int:=if(Cy o F).2≠0 then(Cy o F).2 else if IsP p then 0 else 46
section
variable {p:Int} {n:Nat} {D:Nat->Nat->Int} {dm:Nat->Int} {pos:Nat->Nat} {v v':Nat->Nat->Int} {low low':Nat->Option Nat}
theorem WE(R:Rdc p n D dm pos v low)(R':Rdc p n D dm pos v' low'){j i:Nat}(hj:j<n)(h:low j=some i):∃k,k<n/\low' k=some i/\pos k<=pos j:=by
 obtain⟨C,hC⟩:=R.chg R' (f:=fun i=>(pos i:Int)) (g:=fun i=>(pos i:Int)) (δ:=0) (fun i j _ _ h=>by show(pos i:Int)<=pos j;omega) (fun i j _ _ h=>by show(pos i:Int)<=pos j;omega) (fun i _=>by show(pos i:Int)<=pos i+0;omega) (dm j);have hlo:lo low j=i:=by unfold lo;rw[h];rfl
 have hb:NN dm low (dm j) j=true:=prs_iff.2 ⟨rfl,by rw[hlo];exact h⟩;obtain⟨h1,h2⟩:=hC j hj hb;obtain⟨hi,hn,hm⟩:=R.lsome j i hj h;have h3:¬p∣Ea n (NN dm low' (dm j)) (C j) (fun k=>Fq n D (v' k)) i:=fun q=>hn ((h1 i hi).dvd_iff.2 q);obtain⟨k,hk,h4⟩:=Za h3;cases hbk:NN dm low' (dm j) k with
 | false=>rw[hbk]at h4;exact absurd (Int.dvd_zero p) h4
 | true=>
  rw[hbk]at h4;have h4:¬p∣C j k*Fq n D (v' k) i:=h4;have hc:¬p∣C j k:=fun q=>h4 (Int.dvd_mul_of_dvd_left q);have hv:¬p∣Fq n D (v' k) i:=fun q=>h4 (Int.dvd_mul_of_dvd_right q);obtain⟨h5,h6⟩:=h2 k hk hbk hc;rw[hlo]at h6;have T:=R'.prs_top hk hbk;have h7:=T.2.2 i hi hv;have h8:lo low' k=i:=R.pinj _ _ T.1 hi (by omega);exact⟨k,hk,by rw[<-h8];exact(prs_iff.1 hbk).2,by omega⟩
theorem Aap(R:Rdc p n D dm pos v low)(R':Rdc p n D dm pos v' low'){j:Nat}(hj:j<n):low j=low' j:=by
 have key:∀{v v':Nat->Nat->Int} {low low':Nat->Option Nat},Rdc p n D dm pos v low->Rdc p n D dm pos v' low'->∀i,low j=some i->low' j=some i:=fun {v v' low low'} R R' i h=>by obtain⟨k,hk,h1,h2⟩:=WE R R' hj h;obtain⟨j',hj',h3,h4⟩:=WE R' R hk h1;have:j'=j:=R.linj j' j i hj' hj h3 h;subst this;have:k=j':=R.pinj _ _ hk hj (by omega);rw[<-this];exact h1
 cases h:low j with
 | some i=>exact(key R R' i h).symm
 | none=>
  cases h':low' j with
  | none=>rfl
  | some i=>have:=key R' R i h';rw[h]at this;cases this
end
section
variable {p:Int} {F F':List (Int×Int)} {l l' S S':List Ce} {R V R' V':Nat->List Int}
theorem Aau{f g:Int->Int}(hS:NI f S)(hS':NI g S')(hp:(S.map Ce.c).Perm (S'.map Ce.c))(hn:(S.map fun a=>a.c.id).Nodup)(hfg:∀a∈S,∀b∈S,(f a.c.id<f b.c.id<->g a.c.id<g b.c.id)):S'.map Ce.c=S.map Ce.c:=by
 have hS1:(S.map Ce.c).Pairwise fun a b=>f a.id<f b.id\/(f a.id=f b.id/\(a.dim<b.dim\/(a.dim=b.dim/\a.id<=b.id))):=List.pairwise_map.2 hS
 have hS2:(S'.map Ce.c).Pairwise fun a b=>f a.id<f b.id\/(f a.id=f b.id/\(a.dim<b.dim\/(a.dim=b.dim/\a.id<=b.id))):=by have:(S'.map Ce.c).Pairwise fun a b=>g a.id<g b.id\/(g a.id=g b.id/\(a.dim<b.dim\/(a.dim=b.dim/\a.id<=b.id))):=List.pairwise_map.2 hS';refine this.imp_of_mem fun {a b} ha hb h=>?_;obtain⟨x,hx,rfl⟩:=List.mem_map.1 (hp.mem_iff.2 ha);obtain⟨y,hy,rfl⟩:=List.mem_map.1 (hp.mem_iff.2 hb);have h1:=hfg x hx y hy;have h2:=hfg y hy x hx;omega
 have hinj:∀a∈S.map Ce.c,∀b∈S.map Ce.c,a.id=b.id->a=b:=fun a ha b hb e=>by
  have hn':((S.map Ce.c).map Cl.id).Nodup:=by rw[map_map];exact hn
  have h1:=Dk hn' ha;have h2:=Dk hn' hb;rw[e,h2]at h1;exact(Option.some.inj h1).symm
 refine(List.Perm.eq_of_pairwise (fun a b ha hb h1 h2=>?_) hS1 hS2 hp).symm;exact hinj a ha b (hp.mem_iff.2 hb) (by omega)
end
end Go.Proofs.Q

namespace Go.Proofs.Q
open Go.Eng Go.RowKit Go.Lin Go.Sort Go.Srt
def N4(S:List Ce):List Int:=S.map fun a=>a.c.id
open Go.Proofs.Tryz
def mq(R:Nat->List Int)(j k:Nat)(a b:Nat):Int:=if b<j then(R b).getD a 0 else if b=j/\a<k then(R b).getD a 0 else 0
theorem XV(R:Nat->List Int)(a b:Nat):mq R 0 0 a b=0:=by unfold mq;rw[if_neg (by omega),if_neg (by omega)]
theorem Yq(R:Nat->List Int){n j:Nat}(a b:Nat)(ha:a<n):mq R j n a b=mq R (j+1) 0 a b:=by
 unfold mq;rcases (by omega:b<j\/b=j\/j<b) with h|rfl|h
 ·rw[if_pos h,if_pos (by omega)]
 ·rw[if_neg (by omega),if_pos ⟨rfl,ha⟩,if_pos (by omega)]
 ·rw[if_neg (by omega),if_neg (by omega),if_neg (by omega),if_neg (by omega)]
theorem XH(R:Nat->List Int)(j k a b:Nat):Jg (mq R j k) k j ((R j).getD k 0) a b=mq R j (k+1) a b:=by
 unfold Jg mq;by_cases h:a=k/\b=j
 ·obtain⟨rfl,rfl⟩:=h;rw[if_pos ⟨rfl,rfl⟩,if_neg (by omega),if_pos (by omega)]
 ·rw[if_neg h];by_cases h1:b<j
  ·rw[if_pos h1,if_pos h1]
  ·rw[if_neg h1,if_neg h1];by_cases h2:b=j/\a<k
   ·rw[if_pos h2,if_pos ⟨h2.1,by omega⟩]
   ·rw[if_neg h2,if_neg (by omega)]
theorem Ym(S:List Ce)(p:Int)(gm gA:Nat)(vc vr vv:Value)(la:List Int)(h:Hp)(hB:Seg h [] ⟨gm,0,none⟩ (EG p vc gA vr vv la))(hRS:RdL cC 3 h [] vc S)(hsd:∀a∈S,RdL cD 2 h [] a.v a.c.sd)(hn:S.length<=400):FnT Tryz.prog 72 #[.pointer (some ⟨gm,0,none⟩)] h [] (fun r h' ms'=>h.le h'/\∃m,ms'=[m]/\OwnL cI 1 3 m r (N4 S)):=by
 have oc:=hRS.rd.one;have a1:∀ms,Cell h ms (⟨gm,1,none⟩:Addr) vc:=fun ms=>Seg.all hB 1 _ rfl ms;refine Ap func72 ntmps72 rfl rfl (fun w0 hw0=>?_);simp only[AX];refine As (Qm rfl (BK (Qm rfl (Am (Ac (As (Qm rfl (Qm rfl (Qf E3 rfl (Ql rfl Bh (a1 _) (Qx (Ar hRS.rd.any rfl Bh rfl) rfl (Qm rfl (Am (Ag (BJ ?_)))))))))))))))
 refine Ay (fun q sl h' ms'=>∃(i:Nat) (vo:Value) (mo:Hp),q=S.length-i/\sl=[(3,vo),(9,vc),(10,.int .i64 S.length),(11,.int .i64 i)]/\h.le h'/\ms'=[mo]/\i<=S.length/\OwnL cI 1 3 mo vo (N4 (S.take i)))
  (S.length-0) _ ⟨0,_,Hp.emp,rfl,rfl,C9,rfl,by omega,OwnL.nil Bg⟩ Qs ?_
 rintro q sl h' ms' ⟨i,vo,mo,rfl,rfl,lh,rfl,hi,hO⟩;have ov:=hO.o1;have hRS:=hRS.up lh;refine As (Qm rfl (Am (Ac ?_)));refine Aq rfl (fun hil=>?_) (fun hil=>?_)
 ·have hiS:i<S.length:=by omega
  obtain⟨x,hx⟩:∃x,S[i]=x:=⟨_,rfl⟩
  have hX:=(hsd x (by rw[<-hx];exact getElem_mem hiS)).up lh;have ox:=hX.rd.one;have sx:∀ms,Seg h' ms ((AF vc).add (i*3)) (cC x):=fun ms=>by rw[<-hx];exact(hRS.any (ms:=ms)).seg hiS
  have hnx:N4 (S.take (i+1))=N4 (S.take i)++[x.c.id]:=by unfold N4;rw[take_succ_eq_append_getElem hiS,map_append,hx];rfl
  have hnl:(N4 (S.take i)).length<=4000:=by unfold N4;rw[length_map,length_take];omega
  refine Ah (Ab (Ac (Ag (As (Qx (BF (i) hRS.rd.any rfl Bh AI rfl rfl) rfl (Qx (oG rfl Ef AI (sx _)) rfl (Cz [.int .i64 0,.int .i64 0,.slice none 0 0] rfl AI rfl rfl (fun g5=>?_))))))));refine Sa 0 [_,_,_] AI rfl (by simp[oc,ov,ox]) ?_;refine Am (AC fun h3 l3 hS5=>?_);have e0:∀ms,Cell h3 ms (⟨g5,0,none⟩:Addr) (.int .i64 x.c.id):=fun ms=>Seg.all hS5 0 _ rfl ms;refine Ad (Qm rfl (Qf Bt rfl (Ql rfl U3 (e0 _) (Ao [_] rfl AU A6 rfl (by rfl) rfl rfl (by omega) rfl rfl rfl (fun g18=>?_)))));refine AO 1 hO (OwnL.rd (OwnL.blk (g:=g18) (el:=3) (F:=cI) (l:=[x.c.id]) 1 Bg rfl (by decide)) Mh) rfl AU A6 rfl (by omega) rfl rfl rfl Cb (by simp;omega) (by simp;omega) rfl rfl rfl (fun v8 m8 hO8=>?_);rw[<-hnx]at hO8;refine Qm rfl (Ak (Ai (Ab (Ad (Qx (oA rfl) rfl (Qm rfl (Ak (A8 0 rfl ?_))))))));exact Al (S.length-(i+1)) _ (by omega) ⟨i+1,v8,m8,rfl,rfl,AJ lh l3,rfl,by omega,hO8⟩ Qs
 ·obtain rfl:i=S.length:=by omega
  rw[take_length]at hO;refine Av (Aa (Aa (Af (Ab (As (Qm rfl (Qm rfl (Am (An ?_)))))))));exact Az rfl rfl (⟨lh,mo,rfl,hO⟩)
theorem KQ(n:Nat)(p:Int)(gm:Nat)(vm:Value)(Rs:List Value)(R:Nat->List Int)(h:Hp)(a0:∀ms,Cell h ms (⟨gm,0,none⟩:Addr) (.int .i64 p))(hRs:RdL cU 1 h [] vm Rs)(hRl:Rs.length=n)(hn:n<=400)(hR:∀k,k<n->RdL cI 1 h [] (Rs.getD k undef) (R k))(hl:∀k,k<n->(R k).length=n):FnT Tryz.prog 73 #[.pointer (some ⟨gm,0,none⟩),vm] h [] (fun r h' ms'=>h.le h'/\WY r ms' (mkM p n n fun i j=>(R j).getD i 0)):=by
 have om:=hRs.rd.one;have hnn:n*n<=160000:=by have:=Nat.mul_le_mul hn hn;omega
 subst hRl;refine Ap func73 ntmps73 rfl rfl (fun w0 hw0=>?_);simp only[AX];refine As (Cz [.int .i64 0,.int .i64 0,.int .i64 0,.slice none 0 0] rfl BS rfl rfl (fun g4=>BK (Qm rfl (Qx (Ar hRs.rd.any rfl Ch rfl) rfl (Qm rfl (Am ?_))))));have hm0:0<=(Rs.length:Int)*(Rs.length:Int):=Int.mul_nonneg (by omega) (by omega);have hm1:((Rs.length*Rs.length:Nat):Int)=(Rs.length:Int)*(Rs.length:Int):=Int.natCast_mul _ _;obtain⟨nn,hnn2⟩:∃nn,Rs.length*Rs.length=nn:=⟨_,rfl⟩
 rw[hnn2]at hm1 hnn;refine A9 (fun sl h' ms'=>∃g6 g22,sl=[(1,vm),(4,.pointer (some ⟨g4,0,none⟩)),(5,.int .i64 Rs.length),(6,.pointer (some ⟨g6,0,none⟩))]/\h=h'/\ms'=[Bn g6 65 [.int .i64 p,.int .i64 Rs.length,.int .i64 Rs.length,.slice (some ⟨g22,0,none⟩) nn nn],Bn g22 3 (replicate nn (.int .i64 0)),Bn g4 65 [.int .i64 0,.int .i64 0,.int .i64 0,.slice none 0 0]]) ?_ (fun s h ms hI=>?_)
 ·refine BG (n:=13) (bs:=[true,true,true,true,true,true,true,true,true,false,false,false,false]) [true,true,true,true,true,true,true,true,true] CS (by kernel_rfl) (by kernel_rfl) rfl rfl (Qq rfl (Qq rfl (QF Hw rfl (QL rfl U3 (a0 _) (Qq rfl (Qq rfl (Qq rfl (Qq rfl (Qp rfl (oM rfl) ?_)))))))));unfold Ft;simp only[cons_append,nil_append];refine A4 [9,11] (by kernel_rfl) rfl ?_;refine AA rfl ?_ ?_
  ·refine CD (n:=nn) rfl AU A6 rfl rfl rfl (by omega) (by omega) (by omega) (by omega) rfl rfl rfl (fun g22=>Qw (AZ 10 23 (by kernel_rfl) rfl (C9) rfl (A3 Sy [.int .i64 0,.int .i64 0,.int .i64 0,.slice none 0 0] [(0,_),(1,_),(2,_),(3,_)] [_,_,_,_] rfl BS rfl rfl Qt rfl) (Qo 11 rfl (Cz [.int .i64 0,.int .i64 0,.int .i64 0,.slice none 0 0] rfl BS rfl rfl (fun g6=>Qw (Qo 12 rfl ?_))))));refine Sa 0 [_,_,_,_] BS rfl (by simp[Value.oneCell']) ?_;refine Qw (Qe ?_);exact AD _ ⟨_,_,rfl,rfl,rfl⟩ Qs
  refine AA rfl ?_ ?_
  ·refine Cz [.int .i64 0,.int .i64 0,.int .i64 0,.slice none 0 0] rfl BS rfl rfl (fun g6=>Qw (Qo 9 rfl (CD (n:=nn) rfl AU A6 rfl rfl rfl (by omega) (by omega) (by omega) (by omega) rfl rfl rfl (fun g22=>Qw (AZ 10 23 (by kernel_rfl) rfl (C9) rfl (A3 Sy [.int .i64 0,.int .i64 0,.int .i64 0,.slice none 0 0] [(0,_),(1,_),(2,_),(3,_)] [_,_,_,_] rfl BS rfl rfl Qt rfl) (Qo 12 rfl ?_))))));refine Sa 1 [_,_,_,_] BS rfl (by simp[Value.oneCell']) ?_;refine Qw (Qe ?_)
   (refine J4 ?_;exact AD _ ⟨_,_,rfl,rfl,rfl⟩ Qs)
  exact A5
 ·obtain⟨g6,g22,rfl,rfl,rfl⟩:=hI;refine AC fun h3 l3 hS6=>?_;have hRs:=hRs.up l3;have hR:=fun k hk=>(hR k hk).up l3;have e3:∀ms,Cell h3 ms (⟨g6,3,none⟩:Addr) (.slice (some ⟨g22,0,none⟩) nn nn):=fun ms=>Seg.all hS6 3 _ rfl ms;have s6:∀ms,Seg h3 ms (⟨g6,0,none⟩:Addr) [.int .i64 p,.int .i64 Rs.length,.int .i64 Rs.length,.slice (some ⟨g22,0,none⟩) nn nn]:=fun ms=>hS6.any;have hO:OwnL cI 1 3 (Bn g22 3 (replicate nn (.int .i64 0))) (.slice (some ⟨g22,0,none⟩) nn nn) (replicate nn 0):=OwnL.rep nn 0 (by omega);rw[<-hnn2,Re,BO (g:=mq R 0 0) (fun a _ b _=>(XV R a b).symm),hnn2]at hO;generalize hev:Value.slice (some ⟨g22,0,none⟩) nn nn=ev at *;generalize Bn g22 3 (replicate nn (.int .i64 0))=me at *;have oe:=hO.o1;refine Ac (As (Qm rfl (Qx (Ar hRs.rd.any rfl Ch rfl) rfl (Qm rfl (Am (Ag ?_))))))
  refine Ay (fun q sl h' ms'=>∃(j:Nat) (me:Hp),q=Rs.length-j/\sl=[(4,.pointer (some ⟨g4,0,none⟩)),(5,.int .i64 Rs.length),(6,.pointer (some ⟨g6,0,none⟩)),(24,vm),(25,.int .i64 Rs.length),(26,.int .i64 j)]/\h3=h'/\ms'=[me,Bn g4 65 [.int .i64 0,.int .i64 0,.int .i64 0,.slice none 0 0]]/\j<=Rs.length/\OwnL cI 1 3 me ev (Dy Rs.length Rs.length (mq R j 0)))
   (Rs.length-0) _ ⟨0,me,rfl,rfl,rfl,rfl,by omega,hO⟩ Qs ?_
  rintro q sl h' ms' ⟨j,me,rfl,rfl,rfl,rfl,hj,hO⟩;refine As (Qm rfl (Am (Ac ?_)));refine Aq rfl (fun hjl=>?_) (fun hjl=>?_)
  ·have hjn:j<Rs.length:=by omega
   have hRj:=hR j hjn;have lRj:=hl j hjn;have ej:Rs.getD j undef=Rs[j]:=by simp[List.getD,hjn]
   have oj:=hRj.rd.one;have cj:∀ms,Cell h3 ms ((AF vm).add (j*1)) (Rs.getD j undef):=fun ms=>by rw[ej];exact(hRs.any (ms:=ms)).cell0 hjn rfl
   refine Ah (Ab (Ac (Ag (As (Qm rfl (Qx (BF (j) hRs.rd.any rfl Ch Cr rfl rfl) rfl (Ql rfl AU (cj _) (Qm rfl (Qm rfl (BK (Qm rfl (Qx (Ar hRj.rd.any rfl AU rfl) rfl (Qm rfl (Am (Ag ?_)))))))))))))))
   refine Ay (fun q sl h' ms'=>∃(k:Nat) (me:Hp),q=(R j).length-k/\sl=[(4,.pointer (some ⟨g4,0,none⟩)),(5,.int .i64 Rs.length),(6,.pointer (some ⟨g6,0,none⟩)),(7,.int .i64 j),(24,vm),(25,.int .i64 Rs.length),(26,.int .i64 j),(31,Rs.getD j undef),(32,.int .i64 (R j).length),(33,.int .i64 k)]/\h3=h'/\ms'=[me,Bn g4 65 [.int .i64 0,.int .i64 0,.int .i64 0,.slice none 0 0]]/\k<=(R j).length/\OwnL cI 1 3 me ev (Dy Rs.length Rs.length (mq R j k)))
    ((R j).length-0) _ ⟨0,me,rfl,rfl,rfl,rfl,by omega,hO⟩ Qs ?_
   rintro q sl h' ms' ⟨k,me,rfl,rfl,rfl,rfl,hk,hO⟩;have hO':=hO;refine As (Qm rfl (Am (Ac ?_)));refine Aq rfl (fun hkl=>?_) (fun hkl=>?_)
   ·have hkn:k<(R j).length:=by omega
    have ck:∀ms,Cell h3 ms ((AF (Rs.getD j undef)).add (k*1)) (.int .i64 ((R j).getD k 0)):=fun ms=>by rw[show(R j).getD k 0=(R j)[k] by simp[List.getD,hkn]];exact(hRj.any (ms:=ms)).cell0 hkn rfl
    have hix:=OL (show k<Rs.length by omega) hjn;have hml:(Dy Rs.length Rs.length (mq R j k)).length=nn:=by rw[DC,hnn2]
    have hc1:(((k*Rs.length+j:Nat)):Int)=(k:Int)*(Rs.length:Int)+j:=by rw[Int.natCast_add,Int.natCast_mul]
    have hk0:0<=(k:Int)*(Rs.length:Int):=Int.mul_nonneg (by omega) (by omega);rw[hnn2]at hix;refine Ah (Ab (Ac (Ag (As (Qm rfl (Qx (BF (k) hRj.rd.any rfl AU A6 rfl rfl) rfl (Ql rfl U3 (ck _) (Qm rfl (Qm rfl (Gm (Qf GV rfl (Ql rfl AU (e3 _) (Qm rfl (Qm rfl (Qx (oM rfl) rfl (Qm rfl (Qx (oA rfl) rfl (Qm rfl (Qx (AE ((k*Rs.length+j)) (hO'.rd (h:=h3) (ms:=[me,Bn g4 65 [.int .i64 0,.int .i64 0,.int .i64 0,.slice none 0 0]]) Mh).rd rfl AU A6 rfl rfl (by omega) (by omega)) rfl (CK (F:=cI) (f:=fun x=>.int .i64 x) (a:=(R j).getD k 0) 0 (k*Rs.length+j) (fun _=>rfl) hO rfl A6 rfl rfl rfl rfl (by omega) rfl rfl (fun m2 hO2=>?_)))))))))))))))))))));rw[Nn _ hjn,BO (g:=mq R j (k+1)) (fun a _ b _=>XH R j k a b)]at hO2;refine Ak (Ai (Ab (Ad (Qx (oA rfl) rfl (Qm rfl (Ak ?_))))));exact Al ((R j).length-(k+1)) _ (by omega) ⟨k+1,m2,rfl,rfl,rfl,rfl,by omega,hO2⟩ Qs
   ·have hke:k=Rs.length:=by omega
    rw[hke,BO (g:=mq R (j+1) 0) (fun a ha b _=>Yq R a b ha)]at hO;refine Av (Aa (Aa (Af (Ai (Ab (Ad (Qx (oA rfl) rfl (Qm rfl (Ak ?_)))))))));exact Al (Rs.length-(j+1)) _ (by omega) ⟨j+1,me,rfl,rfl,rfl,rfl,by omega,hO⟩ Qs
  ·have hje:j=Rs.length:=by omega
   rw[hje,BO (g:=fun i j=>(R j).getD i 0) (fun a _ b hb=>by unfold mq;rw[if_pos hb])]at hO;refine Av (Aa (Aa (Af (Ab (As (Qx (oG rfl PS BS (s6 _)) rfl ?_))))));refine Sa 1 [_,_,_,_] BS rfl (by simp[om,oe]) ?_;refine Am (An ?_);exact By (vs:=[_,_,_,_]) 1 rfl rfl PS rfl BS rfl rfl (⟨l3,ev,me,rfl,rfl,hO⟩)
theorem Yn{o:List Cl}{F:List (Int×Int)}{p:Int}(h0:(Cy o F).2=0)(hE:FI o F p≠0):¬IsP p/\FI o F p=46:=by
 unfold FI at *;rw[if_neg (fun h=>h h0)]at *;by_cases hP:IsP p
 ·rw[if_pos hP]at hE;exact absurd rfl hE
 ·exact⟨hP,if_neg hP⟩
theorem Sr(l:List Ce)(F:List (Int×Int))(v vf:Value)(p:Int)(hp:Hp)(hK:RgC l)(hR:RdC hp v l)(hF:RdL cV 2 hp [] vf F)(hV:Gs F)(hI:BH p)(hE:FI (cn l) F p≠0):FnT Tryz.prog 91 #[.agg #[v],vf,.int .i64 p] hp [] (fun r h' ms'=>r=.tuple #[.pointer none,.int .i64 (FI (cn l) F p)]):=by
 have o1:=hR.q.rd.one;have o2:=hF.rd.one;have hG:=hK.F.rgt;refine Ap func91 ntmps91 rfl rfl (fun w0 hw0=>?_);simp only[AX];refine As (AV [_] rfl rfl (by rfl) rfl rfl rfl (fun g3=>Qm rfl (Qm rfl (Am (AC fun h1 l1 hS=>?_)))));have hR:=hR.up l1;have hF:=hF.up l1;have hck:=fun ms=>EO (Dc l F v vf h1 hK hR hF hV) ms;have hre:(Cy (cn l) F).2≠0->FI (cn l) F p=(Cy (cn l) F).2:=fun h=>by unfold FI;rw[if_pos h]
 have hno:=Yn (o:=cn l) (F:=F) (p:=p);generalize FI (cn l) F p=ee at *;generalize Cy (cn l) F=cc at *;refine Ac (As (Qx (oG rfl CF AW (Seg.any hS)) rfl (Qm rfl (Qx (AL rfl call24 rfl (hck _)) rfl (Qm rfl (Qm rfl (Qm rfl (Qm rfl (Qm rfl (BK (Qm rfl (Qm rfl (Am ?_)))))))))))));refine Aq rfl (fun he=>?_) (fun he=>?_)
 ·refine Ac (Ad (Qm rfl (Qm rfl (Qm rfl (Am (An (Ae ?_)))))));exact Bo rfl rfl rfl (by rw[hre he];rfl)
 ·obtain⟨hnp,e46⟩:=hno (Classical.not_not.1 he) hE;refine Ah (Ab (As (Qm rfl (Qx (oG rfl CF AW (Seg.any hS)) rfl (Qc call65 rfl (Hm l v _ hK hR) (fun rC h2 ms2 l2 hQ=>?_))))));obtain⟨l2',mC,A,vA,rfl,rfl,hOC,hAl,hsA⟩:=hQ;have hF:=hF.up l2;refine Qx (DD rfl CF rfl Bh rfl rfl rfl) rfl (Qm rfl (Qc call66 rfl (Hf F vf _ hF hV.n hV.k) (fun rL h3 ms3 l3 hL=>?_)));obtain⟨l3',gL,mL,bL,rfl,rfl,hOL⟩:=hL;have ovA:=hOC.o1;have cvA:vA.cells=#[vA]:=(hOC.rd (h:=h3) (ms:=[mC]) Mh).rd.cells;refine Qx (A3 Zh box0 [(0,[_]),(1,[vA]),(2,[_])] (EG p vA gL (.slice none 0 0) (.slice none 0 0) (replicate 400 0)) rfl Zi (by kernel_rfl) rfl (by rw[OJ];exact⟨⟨rfl,rfl,rfl⟩,⟨cvA,rfl,rfl⟩,⟨rfl,rfl,rfl⟩,trivial⟩) (Pq p vA gL)) rfl ?_;refine AV (EG p vA gL (.slice none 0 0) (.slice none 0 0) (replicate 400 0)) rfl rfl rfl rfl rfl rfl (fun g34=>Cz [.pointer none] rfl Xe rfl rfl (fun g10=>AS 0 0 rfl Xe rfl rfl (by rfl) rfl rfl (by decide) rfl rfl (Am (Ac (Ag (As (Qm rfl (Qx (AL rfl call54 rfl (J6 p h3 hI _)) rfl (Qm rfl (Qm rfl (Am ?_)))))))))));refine Bz rfl (fun hpr=>?_) (fun hpr=>?_)
  ·refine Ac (Ad (Qm rfl (Qm rfl (Am (An (Aj (Ae ?_)))))));exact Bo rfl rfl rfl (by rw[e46])
  ·exact absurd (of_decide_eq_true (by simpa using hpr)) hnp
theorem Jz(l:List Ce)(F:List (Int×Int))(v vf:Value)(p:Int)(hp:Hp)(hK:RgC l)(hR:RdC hp v l)(hF:RdL cV 2 hp [] vf F)(hV:Gs F)(hI:BH p)(hE:FI (cn l) F p≠0):FnT Tryz.prog 51 #[.agg #[v],vf,.int .i64 p] hp [] (fun r h' ms'=>r=.tuple #[.pointer none,.slice none 0 0,.int .i64 (FI (cn l) F p)]):=by have o1:=hR.q.rd.one;have o2:=hF.rd.one;refine Ap func51 ntmps51 rfl rfl (fun w0 hw0=>?_);simp only[AX];refine As (AV [_] rfl rfl (by rfl) rfl rfl rfl (fun g3=>Qm rfl (Qm rfl (Qm rfl (Am (AC fun h1 l1 hS=>?_))))));have hb:=fun ms=>EO (Sr l F v vf p h1 hK (hR.up l1) (hF.up l1) hV hI hE) ms;generalize FI (cn l) F p=ee at *;refine As (Qx (oG rfl CF AW (Seg.any hS)) rfl (Qm rfl (Qm rfl (Qx (AL rfl call91 rfl (hb _)) rfl (Qm rfl (Qm rfl (Qm rfl (Qm rfl (Qm rfl (Am (Ac (As (Qm rfl (Qm rfl (Am ?_)))))))))))))));refine Aq rfl (fun hc=>?_) (fun hc=>absurd (hE) hc);refine As (Qm rfl (Qm rfl (Qm rfl (Qm rfl (Am (An (Ae ?_)))))));exact Rh rfl rfl rfl rfl (rfl)
theorem Ot(l:List Ce)(F:List (Int×Int))(v vf:Value)(p:Int)(hp:Hp)(hK:RgC l)(hR:RdC hp v l)(hF:RdL cV 2 hp [] vf F)(hV:Gs F)(hI:BH p)(hE:FI (cn l) F p≠0):FnT Tryz.prog 15 #[.agg #[v],vf,.int .i64 p] hp [] (fun r h' ms'=>r=.tuple #[.slice none 0 0,.int .i64 (FI (cn l) F p)]):=by have o1:=hR.q.rd.one;have o2:=hF.rd.one;refine Ap func15 ntmps15 rfl rfl (fun w0 hw0=>?_);simp only[AX];refine As (AV [_] rfl rfl (by rfl) rfl rfl rfl (fun g3=>Qm rfl (Qm rfl (Am (AC fun h1 l1 hS=>?_)))));have hb:=fun ms=>EO (Jz l F v vf p h1 hK (hR.up l1) (hF.up l1) hV hI hE) ms;generalize FI (cn l) F p=ee at *;refine As (Qx (oG rfl CF AW (Seg.any hS)) rfl (Qm rfl (Qm rfl (Qx (AL rfl call51 rfl (hb _)) rfl (Qm rfl (Qm rfl (Qm rfl (Qm rfl (Qm rfl (Qm rfl (Qm rfl (Am (Ac (As (Qm rfl (Qm rfl (Am ?_)))))))))))))))));refine Aq rfl (fun hc=>?_) (fun hc=>absurd (hE) hc);refine As (Qm rfl (Qm rfl (Qm rfl (Am (An (Ae ?_))))));exact Bo rfl rfl rfl (rfl)
end Go.Proofs.Q
