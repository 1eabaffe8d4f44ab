/- A part of the proof. -/
import Derived.Test.YtodheebhahdepaaGreatDoorPG
set_option linter.unusedSimpArgs false
set_option linter.unusedVariables false
set_option linter.unusedSectionVars false
set_option maxRecDepth 100000
set_option maxHeartbeats 4000000

open List (length_map length_singleton)
namespace Go.Proofs.Q
open Go.Proofs.Tryz
open Go.Eng Go.RowKit
theorem SJ:IsP 3:=⟨by decide,by decide,by decide⟩
theorem RD(sp be s r:Nat)(L0 L:List Int)(G:List Nat)(v0 vG vL:Value)(hp:Hp)(hsp:sp<256)(hbe:be<256)(hs:s<256)(hr:r<256)(hG:∀g∈G,g<256)(hL0:RdL cI 1 hp [] v0 L0)(hRG:RdL (fun g=>[.int .u8 (g:Nat)]) 1 hp [] vG G)(hL:RdL cI 1 hp [] vL L)(hLb:∀x∈L,BE x):FnT Tryz.prog 6 #[.agg #[.int .u8 sp,v0,vG,.int .u8 be],vL,.agg #[.int .u8 s,.int .u8 r]] hp [] (fun r _ _=>r=.bool true):=by
 have o1:=hL0.rd.one;have o2:=hRG.rd.one;have o3:=hL.rd.one;refine Aq func6 ntmps6 rfl rfl (fun w0 hw0=>?_);simp only[AV];refine Au (AX [_,_,_,_] rfl rfl (by rfl) rfl rfl rfl (fun g3=>AX [_,_] rfl rfl (by rfl) rfl rfl rfl (fun g5=>Qm rfl (Am (AD fun h0 l0 hS5=>(AD fun h1 l1 hS=>?_))))));have hS5:=hS5.le l1;have l1:=AH l0 l1;have hL0:=hL0.up l1;have hRG:=hRG.up l1;have hL:=hL.up l1;refine Au (Qx (AN rfl call12 rfl (Ph _ _)) rfl (Qm rfl (BG (Qx (oG rfl U25 Aav (Seg.any hS)) rfl (Qc call13 rfl (Pq sp be L0 G v0 vG h1 hsp hbe hG hL0 hRG) (fun rc h2 ms2 l2 hQ=>?_))))));obtain⟨l2',mC,A,vC,rfl,rfl,hOC,hCQ,hsd⟩:=hQ;have oC:=hOC.o1;refine CJ [.slice none 0 0] rfl AS rfl rfl (fun g8=>?_);refine Sa 0 [_] AS rfl (by simp[o1,o2,o3,oC]) ?_;refine Am (AD fun h3 l3 hS8=>(Bl hOC fun h4 l4 hC=>?_));have hR:RdC h4 vC A:=⟨hC,fun a ha=>(hsd a ha).up (AH l3 l4)⟩
 have hK:RgC A:=hCQ.rg (by decide);have hG:=hK.F.rgt;have hA80:A.length<=80:=by have:=hCQ.n;rwa [length_map]at this
 have hdim:∀x∈cn A,0<=x.dim/\x.dim<=7:=fun x hx=>by obtain⟨b,hb,rfl⟩:=V4 hx;exact⟨(hG.bds hx).1.1,hCQ.d b.c (List.mem_map.2 ⟨b,hb,rfl⟩)⟩
 have l24:=AH l2 (AH l3 l4);have hL:=hL.up l24;have hS8:=hS8.le l4;refine Au (Qx (oG rfl CI AS (Seg.any hS8)) rfl (Qm rfl (Qc call14 rfl (Sq A vC vL L 1 h4 hK hR hL hLb (by decide)) (fun rF h5 ms5 l5 hQ=>?_))));obtain⟨l5',mF,rfl,hOF⟩:=hQ;have oF_:=hOF.o1;refine Qm rfl (Am (Bl hOF fun h6 l6 hF=>?_));have l46:=AH l5 l6;have hR:=hR.up l46;have hS8:=hS8.le l46;have QF:Xe (cn A) (Ff (cn A) L 1 (cn A).length):=Ze hG L 1 (by decide);have hFe:Ff (cn A) L 1 (cn A).length=(cn A).map fun x=>(x.id,Dm (cn A) L x.id):=by unfold Ff;rw[List.take_length];simp only[Int.mul_one]
 have hvb:∀q∈Ff (cn A) L 1 (cn A).length,0<=q.2/\q.2<=5:=fun q hq=>by rw[hFe]at hq;obtain⟨x,_,rfl⟩:=List.mem_map.1 hq;exact Mb _ _
 generalize Ff (cn A) L 1 (cn A).length=F at hF QF hFe hvb;have hlF:F.length=A.length:=by have:=congrArg List.length QF.fst;rw[length_map,length_map,C4]at this;exact this
 have kF:∀q∈F,BE q.1:=fun q hq=>by
  have hc:q.1∈(cn A).map Cl.id:=by rw[<-QF.fst];exact List.mem_map.2 ⟨q,hq,rfl⟩
  obtain⟨x,hx,e⟩:=List.mem_map.1 hc;have h1:=hG.pos x hx;have h2:=hK.ci hx;rw[<-e];unfold BE;omega
 have VF:K8 F:=⟨by omega,kF⟩
 have iF:∀c,BE (Cj (A8 F) c):=fun c=>by have:=QF.bI c;unfold BE;omega
 refine Au (Qx (oG rfl CI AS (Seg.any hS8)) rfl (Qm rfl (Qc call15 rfl (Gj A F vC rF 3 h6 hK hR hF VF iF QF.chk SJ (by omega)) (fun ra h10 ms10 l10 hQ=>?_))));obtain⟨l10',S,Rf,Vf,va,ma,rfl,rfl,hOa,Pa⟩:=hQ;have oa:=hOa.o1;refine Qm rfl (Qm rfl (Qm rfl (Qm rfl (Qm rfl (Am (Bl hOa fun h11 l11 hBa=>?_))))));have l11':=AH l10 l11;have hR:=hR.up l11';have hF:=hF.up l11';have hS8:=hS8.le l11';have hS5:Seg h11 [] ⟨g5,0,none⟩ [.int .u8 s,.int .u8 r]:=hS5.le (AH l24 (AH l46 l11'));have c5:∀ms (k:Nat) u,([.int .u8 s,.int .u8 r]:List Value)[k]?=some u->Cell h11 ms ((⟨g5,0,none⟩:Addr).add (k*1)) u:=fun ms k u hu=>by rw[Nat.mul_one];exact Seg.all hS5 k _ hu ms
 refine Au (Qm rfl (Qm rfl (Am ?_)));refine Bd (fun sl h' ms'=>∃(v12 v13:Value) (m12 m13:Hp),sl=[(5,.pointer (some ⟨g5,0,none⟩)),(7,.bool true),(8,.pointer (some ⟨g8,0,none⟩)),(9,rF),(10,va),(12,v12),(13,v13)]/\h11=h'/\ms'=[m12,m13]/\OwnL cV 2 47 m12 v12 (Es F s (fun v=>v) F.length)/\OwnL cV 2 47 m13 v13 (Es F s (DJ r) F.length)) ?_ (fun s h ms hI=>?_)
 ·refine Ac (Ad (Qm rfl (Am (Af (By (By ?_))))))
  refine Ax (fun q sl h' ms'=>∃(i:Nat) (v12 v13:Value) (m12 m13:Hp),q=F.length-i/\sl=[(5,.pointer (some ⟨g5,0,none⟩)),(7,.bool true),(8,.pointer (some ⟨g8,0,none⟩)),(9,rF),(10,va),(12,v12),(13,v13),(14,.int .i64 i)]/\h11=h'/\ms'=[m12,m13]/\i<=F.length/\OwnL cV 2 47 m12 v12 (Es F s (fun v=>v) i)/\OwnL cV 2 47 m13 v13 (Es F s (DJ r) i))
   (F.length-0) _ ⟨0,_,_,Hp.emp,Hp.emp,rfl,rfl,rfl,rfl,by omega,OwnL.nil GA,OwnL.nil GA⟩ Qs ?_
  rintro q sl h' ms' ⟨i,v12,v13,m12,m13,rfl,rfl,rfl,rfl,hi,hO12,hO13⟩;have ov12:=hO12.o1;have ov13:=hO13.o1;refine Ac (Au (Qm rfl (Qm rfl (Qx (Ap hF.rd.any rfl OU rfl) rfl (Qm rfl (Am ?_))))));refine Av rfl (fun hlt=>?_) (fun hlt=>?_)
  ·have hil:i<F.length:=by omega
   obtain⟨k,hkn⟩:∃k:Nat,(i+s)%F.length=k:=⟨_,rfl⟩
   have hk:((i:Int)+s)%(F.length:Int)=k:=by rw[<-hkn,Int.natCast_emod,Int.natCast_add]
   have hkl:k<F.length:=by rw[<-hkn];exact Nat.mod_lt _ (by omega)
   obtain⟨q,hq⟩:∃q,F[k]=q:=⟨_,rfl⟩
   have hqb:=hvb q (by rw[<-hq];exact List.getElem_mem hkl);have hqq:0<=q.2*q.2/\q.2*q.2<=25:=⟨Int.mul_nonneg hqb.1 hqb.1,Int.le_trans (Int.mul_le_mul hqb.2 hqb.2 hqb.1 (by decide)) (by decide)⟩
   have hgk:F.getD ((i+s)%F.length) default=q:=by rw[hkn,<-hq];simp[List.getD,hkl]
   have sq:∀ms,Seg h11 ms ((AF rF).add (k*2)) (cV q):=fun ms=>by rw[<-hq];exact(hF.any (ms:=ms)).seg hkl
   have n12:=Li F s (fun v=>v) i;have n13:=Li F s (DJ r) i;rw[hgk]at n12 n13;have l12:(Es F s (fun v=>v) i).length<=4000:=by unfold Es;rw[length_map,DD];omega
   have l13:(Es F s (DJ r) i).length<=4000:=by unfold Es;rw[length_map,DD];omega
   refine Ag (Ab (Ac (Af (Au (Qm rfl (Qm rfl (Qx (CP 0 rfl U55 X6 rfl rfl rfl (by omega)) rfl (Ql rfl U5 (c5 _ 0 _ rfl) (Qx (Ef rfl U5 U3 rfl (B3 (by omega))) rfl (Qx (oA rfl) rfl (Qm rfl (Qx (Ap hF.rd.any rfl OU rfl) rfl (Qx (Dr (BP rfl rfl rfl (by omega) (by omega)) (congrArg (Value.int .i64) hk)) rfl (Qx (BT (k) hF.rd.any rfl OU DV rfl rfl) rfl (Qx (oG rfl U47 DV (sq _)) rfl (CJ [.int .i64 0,.int .i64 0] rfl DV rfl rfl (fun g15=>?_)))))))))))))))));refine Sa 0 [_,_] DV rfl (by simp[Value.oneCell']) ?_;refine BG (Qm rfl (Qx (oG rfl U47 DV (Seg.blk 0 rfl)) rfl (Al [_,_] rfl OU DV rfl (by rfl) rfl rfl (by omega) rfl rfl rfl (fun g53=>AP 2 hO12 (RdL.one GA (x:=q) Mh rfl) rfl OU DV rfl (by omega) rfl rfl rfl O8 (by(try simp only[length_singleton]);omega) (by(try simp only[length_singleton]);omega) rfl rfl rfl (fun v8 m8 hO8=>?_)))));have ov8:=hO8.o1;refine Qm rfl (BG (Qf Ke rfl (Ql rfl U3 (Cell.blk 1 rfl rfl) (Qf Ke rfl (Ql rfl U3 (Cell.blk 1 rfl rfl) (Qx (oM rfl) rfl (Qx (oM rfl) rfl (Qx (CP 1 rfl U55 X6 rfl rfl rfl (by omega)) rfl (Ql rfl U5 (c5 _ 1 _ rfl) (Qx (Ef rfl U5 U3 rfl (B3 (by omega))) rfl (Qx (oS rfl) rfl (Qf Ke rfl ?_))))))))))));refine AJ 1 _ rfl Bg rfl rfl (by rfl) rfl rfl (by(simp;done)) rfl rfl ?_;refine Gs (Qm rfl (Qx (oG rfl U47 DV (Seg.blk 1 rfl)) rfl (Al [_,_] rfl OU DV rfl (by rfl) rfl rfl (by omega) rfl rfl rfl (fun g68=>AP 4 hO13 (RdL.one GA (x:=(q.1,DJ r q.2)) Mh rfl) rfl OU DV rfl (by omega) rfl rfl rfl O8 (by(try simp only[length_singleton]);omega) (by(try simp only[length_singleton]);omega) rfl rfl rfl (fun v9 m9 hO9=>?_)))));have ov9:=hO9.o1;refine Qm rfl (Aj (Ai (Ab (Ad (Qm rfl (Qx (oA rfl) rfl (Qm rfl (Aj (AQ 0 rfl (AQ 0 rfl (AQ 0 rfl ?_)))))))))));exact Ak (F.length-(i+1)) _ (by omega) ⟨i+1,v8,v9,m8,m9,rfl,rfl,rfl,rfl,by omega,by rw[n12];exact hO8,by rw[n13];exact hO9⟩ Qs
  ·obtain rfl:i=F.length:=by omega
   refine As (Aa (Aa (Ae ?_)));exact AC _ ⟨v12,v13,m12,m13,rfl,rfl,rfl,hO12,hO13⟩ Qs
 ·obtain⟨v12,v13,m12,m13,rfl,rfl,rfl,hO12,hO13⟩:=hI;have ov12:=hO12.o1;have ov13:=hO13.o1;refine Bl hO12 fun h12 l12 hF12=>(Bl hO13 fun h13 l13 hF13=>?_)
  have l113:=AH l12 l13;have hF12:=hF12.up l13;have hR:=hR.up l113;have hBa:=hBa.up l113;have hS8:=hS8.le l113;have hS5:=hS5.le l113;have c5:∀ms (k:Nat) u,([.int .u8 s,.int .u8 r]:List Value)[k]?=some u->Cell h13 ms ((⟨g5,0,none⟩:Addr).add (k*1)) u:=fun ms k u hu=>by rw[Nat.mul_one];exact Seg.all hS5 k _ hu ms
  have hwb:∀c,0<=Dm (cn A) L c/\Dm (cn A) L c<=5:=fun c=>Mb _ _;have P2:W0 (cn A) (Es F s (fun v=>v) F.length) (Dm (cn A) L):=Yp hG (Dm (cn A) L) hFe s (fun v=>v) (fun y _=>by have:=hwb y.id;omega) fun x hx sd hsd=>IX hG L hx hsd
  have P3:W0 (cn A) (Es F s (DJ r) F.length) (fun c=>DJ r (Dm (cn A) L c)):=Yp hG (Dm (cn A) L) hFe s (DJ r) (fun y _=>by
   have h1:=hwb y.id;have h2:0<=Dm (cn A) L y.id*Dm (cn A) L y.id:=Int.mul_nonneg h1.1 h1.1;have h3:Dm (cn A) L y.id*Dm (cn A) L y.id<=25:=Int.le_trans (Int.mul_le_mul h1.2 h1.2 h1.1 (by decide)) (by decide)
   unfold DJ;omega) fun x hx sd hsd=>by have h1:=IX hG L hx hsd;have h2:=QT r (hwb x.id).1 (hwb sd.1).1;omega
  have hln:∀φ:Int->Int,(Es F s φ F.length).length=F.length:=fun φ=>by unfold Es;rw[length_map,DD]
  have kM:∀φ:Int->Int,∀q∈Es F s φ F.length,BE q.1:=fun φ q hq=>by obtain⟨q',hq',rfl⟩:=List.mem_map.1 hq;exact kF q' ((DB F s).mem_iff.1 hq')
  have V2:K8 (Es F s (fun v=>v) F.length):=⟨by rw[hln];omega,kM _⟩
  have V3:K8 (Es F s (DJ r) F.length):=⟨by rw[hln];omega,kM _⟩
  have i2:∀c,BE (Cj (A8 (Es F s (fun v=>v) F.length)) c):=fun c=>by have:=P2.bI c;unfold BE;omega
  have i3:∀c,BE (Cj (A8 (Es F s (DJ r) F.length)) c):=fun c=>by have:=P3.bI c;unfold BE;omega
  have w2:∀a∈cn A,Cj (A8 (Es F s (fun v=>v) F.length)) a.id=Cj (A8 F) a.id:=fun a ha=>by rw[P2.at_ a ha];exact(GM (by rw[QF.fst];exact hG.nd) (by rw[hFe];exact List.mem_map.2 ⟨a,ha,rfl⟩)).symm
  have w3:∀a∈cn A,Cj (A8 (Es F s (DJ r) F.length)) a.id=DJ r (Cj (A8 F) a.id):=fun a ha=>by rw[P3.at_ a ha];have:Cj (A8 F) a.id=Dm (cn A) L a.id:=GM (by rw[QF.fst];exact hG.nd) (by rw[hFe];exact List.mem_map.2 ⟨a,ha,rfl⟩);rw[this]
  generalize Es F s (fun v=>v) F.length=F2 at *;generalize Es F s (DJ r) F.length=F3 at *;refine Au (Qx (oG rfl CI AS (Seg.any hS8)) rfl (Qx (CP 0 rfl U55 X6 rfl rfl rfl (by omega)) rfl (Ql rfl U5 (c5 _ 0 _ rfl) (Qx (Ef rfl U5 U3 rfl (B3 (by omega))) rfl ?_))));refine Qc call22 rfl (RZ A vC s h13 hs hR (by omega) (fun a ha=>by have:=(hCQ.r.bds (List.mem_map.2 ⟨a,ha,rfl⟩)).2;omega)) (fun rT h14 ms14 l14 hQ=>?_);obtain⟨l14',mT,T,vT,rfl,rfl,hOT,hT,hTs⟩:=hQ;refine Bt hOT fun h15 l15 hQT=>?_;have l1315:=AH l14' l15;have hRT:RdC h15 vT T:=⟨hQT,fun a ha=>(hTs a ha).up l15⟩
  have hTe:T.map Ce.c=Iz (A.map Ce.c) s:=by rw[hT];unfold Iz;rw[length_map]
  have hcT:cn T=cn A:=by unfold cn;rw[hTe];exact turn_ord hCQ.r s
  have hTl:T.length=A.length:=by rw[<-C4 T,hcT,C4]
  have hKT:RgC T:=⟨by rw[hTe];exact hCQ.r.sim (turn_sim _ _),fun a ha=>by
   obtain⟨x,hx,e,_⟩:=(turn_sim (A.map Ce.c) s).mem a.c (by rw[<-hTe];exact List.mem_map.2 ⟨a,ha,rfl⟩);have:=hCQ.i x hx
   omega⟩
  have oT:=hQT.rd.one;refine Qm rfl ?_;refine Qc call15 rfl (Gj T F2 vT v12 3 h15 hKT hRT (hF12.up l1315) V2 i2 (by rw[hcT];exact P2.chk) SJ (by omega)) (fun rb h16 ms16 l16 hQ=>?_);obtain⟨l16',S2,R2,W2,vb,mb,rfl,rfl,hOb,Pb⟩:=hQ;have ob:=hOb.o1;refine Qm rfl (Qm rfl (Qm rfl (Qm rfl (Qm rfl (Am (Bl hOb fun h17 l17 hBb=>?_))))));have l1317:=AH l1315 (AH l16' l17);have hR:=hR.up l1317;have hF13:=hF13.up l1317;have hBa:=hBa.up l1317;have hS8:=hS8.le l1317;have hS5:=hS5.le l1317;refine Au (Qx (oG rfl CI AS (Seg.any hS8)) rfl (Qm rfl (Qc call15 rfl (Gj A F3 vC v13 3 h17 hK hR hF13 V3 i3 P3.chk SJ (by omega)) (fun rd h18 ms18 l18 hQ=>?_))));obtain⟨l18',S3,R3,W3,vd,md,rfl,rfl,hOd,Pd⟩:=hQ;have od:=hOd.o1;refine Qm rfl (Qm rfl (Qm rfl (Qm rfl (Qm rfl (Am (Bl hOd fun h19 l19 hBd=>?_))))));have l1719:=AH l18' l19;have hBa:=hBa.up l1719;have hBb:=hBb.up l1719;have hS5:=hS5.le l1719;have H:PerH 3 F A S Rf Vf:=⟨Pa,SJ,hK.F.rgt,QF.mon⟩
  have H2:PerH 3 F2 T S2 R2 W2:=⟨Pb,SJ,hKT.F.rgt,by rw[hcT];exact P2.mon⟩
  have H3:PerH 3 F3 A S3 R3 W3:=⟨Pd,SJ,hK.F.rgt,P3.mon⟩
  have hat:∀a∈cn A,Cj (A8 F) a.id=Dm (cn A) L a.id:=fun a ha=>GM (by rw[QF.fst];exact hG.nd) (by rw[hFe];exact List.mem_map.2 ⟨a,ha,rfl⟩);have e2:=H.bars_eq H2 hcT (fun v=>v) w2 (fun _ _ _ _=>Iff.rfl);have e3:=H.bars_eq H3 rfl (DJ r) w3 (fun a ha b hb=>QT r (by rw[hat a ha];exact(hwb _).1) (by rw[hat b hb];exact(hwb _).1));have hlv:∀x∈cn A,0<=Cj (A8 F) x.id/\Cj (A8 F) x.id<=5:=fun x hx=>by rw[hat x hx];exact hwb _
  have hbv:∀b∈C0 (Cj (A8 F)) S (Dk S Rf) S.length,(0<=b.birth/\b.birth<=5)/\(b.opn=false->0<=b.death/\b.death<=5):=fun b hb=>by have Q:=H.bar_q hb;obtain⟨x,hx,ex,_,eb⟩:=Q.low;refine⟨by rw[<-eb,<-ex];exact hlv x hx,fun ho=>?_⟩;obtain⟨y,hy,ey,_,ed,_⟩:=Q.fin ho;rw[<-ed,<-ey];exact hlv y hy
  rw[e2]at hBb;rw[e3]at hBd
  have hid:∀l:List Br,(l.map fun b=>(⟨b.dim,b.birth,if b.opn then b.death else b.death,b.opn,b.low,b.high⟩:Br))=l:=fun l=>by
   have:(fun b:Br=>(⟨b.dim,b.birth,if b.opn then b.death else b.death,b.opn,b.low,b.high⟩:Br))=id:=by funext b;cases b;simp
   rw[this,List.map_id]
  rw[hid]at hBb
  have nA:(C0 (Cj (A8 F)) S (Dk S Rf) S.length).length<=1000000:=by have:=KB (Cj (A8 F)) S (Dk S Rf) S.length;have:=Pa.perm.length_eq;rw[length_map,C4]at this;omega
  clear e2 e3;generalize C0 (Cj (A8 F)) S (Dk S Rf) S.length=la at *;have c5:∀ms (k:Nat) u,([.int .u8 s,.int .u8 r]:List Value)[k]?=some u->Cell h19 ms ((⟨g5,0,none⟩:Addr).add (k*1)) u:=fun ms k u hu=>by rw[Nat.mul_one];exact Seg.all hS5 k _ hu ms
  refine Ac (Au (Qm rfl (Qm rfl ?_)));refine Qx (AN rfl call17 rfl ((by have:=ND la la va vb h19 hBa hBb [];rwa [decide_eq_true rfl]at this))) rfl ?_;refine Qm rfl (Qm rfl (Qg (AA rfl rfl) rfl (Qg (Ap hBd.rd.any rfl OO rfl) rfl (Qg (AA rfl rfl) rfl (Qg (Ap hBa.rd.any rfl OO rfl) rfl ?_)))));refine Qg (Dr (GN rfl rfl rfl) (congrArg Value.bool (decide_eq_false fun e=>e (by rw[length_map])))) rfl ?_;refine Qm rfl (Am (AO rfl (Ag (Ab (Ac (Au (Qm rfl (Am (Af ?_)))))))))
  refine Ax (fun q sl h' ms'=>∃(k:Nat),q=la.length-k/\sl=[(5,.pointer (some ⟨g5,0,none⟩)),(7,.bool true),(10,va),(18,vd),(20,.int .i64 k)]/\h19=h'/\ms'=[]/\k<=la.length)
   (la.length-0) _ ⟨0,rfl,rfl,rfl,rfl,by omega⟩ Qs ?_
  rintro q sl h' ms' ⟨k,rfl,rfl,rfl,rfl,hk'⟩;refine Ac (Au (Qm rfl (Qm rfl (Qx (Ap hBa.rd.any rfl OO rfl) rfl (Qm rfl (Am ?_))))));refine Av rfl (fun hkl=>?_) (fun hkl=>?_)
  ·have hk:k<la.length:=by omega
   obtain⟨b,hb⟩:∃b,la[k]=b:=⟨_,rfl⟩
   have hbb:=hbv b (by rw[<-hb];exact List.getElem_mem hk);have sb:∀ms,Seg h19 ms ((AF va).add (k*6)) (Ld b):=fun ms=>by rw[<-hb];exact(hBa.any (ms:=ms)).seg hk
   have hq1:0<=b.birth*b.birth/\b.birth*b.birth<=25:=⟨Int.mul_nonneg hbb.1.1 hbb.1.1,Int.le_trans (Int.mul_le_mul hbb.1.2 hbb.1.2 hbb.1.1 (by decide)) (by decide)⟩
   have hdl:(la.map fun b=>(⟨b.dim,DJ r b.birth,if b.opn then b.death else DJ r b.death,b.opn,b.low,b.high⟩:Br)).length=la.length:=by rw[length_map]
   refine Ag (Ab (Ac (Af (Au (Qm rfl (Qm rfl (Qx (BT (k) hBa.rd.any rfl OO D3 rfl rfl) rfl (Qx (oG rfl Xg D3 (sb _)) rfl (CJ [.int .i64 0,.int .i64 0,.int .i64 0,.bool false,.int .i64 0,.int .i64 0] rfl D3 rfl rfl (fun g21=>?_))))))))));refine Sa 0 [_,_,_,_,_,_] D3 rfl (by simp[Value.oneCell']) ?_;refine BG (Qf ME rfl (Ql rfl U3 (Cell.blk 0 rfl rfl) (Qf ME rfl (Ql rfl U3 (Cell.blk 0 rfl rfl) (Qx (oM rfl) rfl (Qx (oM rfl) rfl (Qx (CP 1 rfl U55 X6 rfl rfl rfl (by omega)) rfl (Ql rfl U5 (c5 _ 1 _ rfl) (Qx (Ef rfl U5 U3 rfl (B3 (by omega))) rfl (Qx (oS rfl) rfl (Qf ME rfl ?_)))))))))));refine AJ 0 _ rfl Bg rfl rfl (by rfl) rfl rfl (by(simp;done)) rfl rfl ?_;refine Am ?_;simp only[Ld,List.set_cons_succ,List.set_cons_zero];refine Ac (Au (Qf Mx rfl (Ql rfl U4 (Cell.blk 0 rfl rfl) (Qm rfl (Am ?_)))));refine Bv rfl (fun ho=>?_) (fun ho=>?_)
   ·rw[Bool.not_eq_true']at ho;have hd:=hbb.2 ho;have hq2:0<=b.death*b.death/\b.death*b.death<=25:=⟨Int.mul_nonneg hd.1 hd.1,Int.le_trans (Int.mul_le_mul hd.2 hd.2 hd.1 (by decide)) (by decide)⟩
    refine Ad (Qf Kw rfl (Ql rfl U3 (Cell.blk 0 rfl rfl) (Qf Kw rfl (Ql rfl U3 (Cell.blk 0 rfl rfl) (Qx (oM rfl) rfl (Qx (oM rfl) rfl (Qx (CP 1 rfl U55 X6 rfl rfl rfl (by omega)) rfl (Ql rfl U5 (c5 _ 1 _ rfl) (Qx (Ef rfl U5 U3 rfl (B3 (by omega))) rfl (Qx (oS rfl) rfl (Qf Kw rfl ?_)))))))))));refine AJ 0 _ rfl Bg rfl rfl (by rfl) rfl rfl (by(simp;done)) rfl rfl ?_;refine Am ?_
    have sd:∀ms,Seg h19 ms ((AF vd).add (k*6)) (Ld ⟨b.dim,DJ r b.birth,DJ r b.death,b.opn,b.low,b.high⟩):=fun ms=>by have:=(hBd.any (ms:=ms)).seg (j:=k) (by rw[length_map];exact hk);rw[List.getElem_map,hb,ho]at this;rw[ho];exact this
    refine Ac (Bh 5 CT (by kernel_rfl) rfl (Wm rfl (Wm rfl (AM (BT (k) hBd.rd.any rfl OO D3 rfl rfl) rfl rfl (AM (oG rfl Xg D3 (sd _)) rfl rfl (AM (oG rfl Xg D3 (Seg.blk 0 rfl)) rfl rfl (Bf (Qx (Dr (MA ⟨b.dim,DJ r b.birth,DJ r b.death,b.opn,b.low,b.high⟩ ⟨b.dim,DJ r b.birth,DJ r b.death,b.opn,b.low,b.high⟩ rfl rfl rfl) (congrArg Value.bool (decide_eq_false fun e=>e rfl))) rfl (Am (AO rfl (Ag (Ai (Ab (Ad (Qm rfl (Qx (oA rfl) rfl (Qm rfl (Aj (AL ?_)))))))))))))))))));exact Ak (la.length-(k+1)) _ (by omega) ⟨k+1,rfl,rfl,rfl,rfl,by omega⟩ Qs
   ·rw[Bool.not_eq_false']at ho;refine Ag (Ab ?_)
    have sd:∀ms,Seg h19 ms ((AF vd).add (k*6)) (Ld ⟨b.dim,DJ r b.birth,b.death,b.opn,b.low,b.high⟩):=fun ms=>by have:=(hBd.any (ms:=ms)).seg (j:=k) (by rw[length_map];exact hk);rw[List.getElem_map,hb,ho]at this;rw[ho];exact this
    refine Ac (Bh 5 CT (by kernel_rfl) rfl (Wm rfl (Wm rfl (AM (BT (k) hBd.rd.any rfl OO D3 rfl rfl) rfl rfl (AM (oG rfl Xg D3 (sd _)) rfl rfl (AM (oG rfl Xg D3 (Seg.blk 0 rfl)) rfl rfl (Bf (Qx (Dr (MA ⟨b.dim,DJ r b.birth,b.death,b.opn,b.low,b.high⟩ ⟨b.dim,DJ r b.birth,b.death,b.opn,b.low,b.high⟩ rfl rfl rfl) (congrArg Value.bool (decide_eq_false fun e=>e rfl))) rfl (Am (AO rfl (Ag (Ai (Ab (Ad (Qm rfl (Qx (oA rfl) rfl (Qm rfl (Aj (AL ?_)))))))))))))))))));exact Ak (la.length-(k+1)) _ (by omega) ⟨k+1,rfl,rfl,rfl,rfl,by omega⟩ Qs
  ·refine As (Aa (Aa (Ae (Ab (Au (Qm rfl (Qm rfl (Am (Ao ?_)))))))));exact Az rfl rfl (rfl)
open Go.ChangeShapes Go.WideShapes Go.ChangeAt Go.Deep
section
variable {H:Type} {enc:TypeId×Value->H} {w:World} {base:Nat} {spare:Nat->Bool} {held:Bool}
theorem Mz{P:Program}{t:TypeId}{f0 f1 f2 f3:Field}{fuel:Nat}{cs:List Value}{x:DataW H×List MemPlace}(ht:P.underlying t=some (.struct #[f0,f1,f2,f3]))(h:DataW.trod enc P w base spare held fuel t cs=some x) :
  ∃y0 y1 y2 y3 n,cs.length=P.cellsOf t/\DataW.trod enc P w base spare held n f0.type ((cs.drop f0.offset).take (P.cellsOf f0.type))=some y0 ∧
   DataW.trod enc P w base spare held n f1.type ((cs.drop f1.offset).take (P.cellsOf f1.type))=some y1/\DataW.trod enc P w base spare held n f2.type ((cs.drop f2.offset).take (P.cellsOf f2.type))=some y2/\DataW.trod enc P w base spare held n f3.type ((cs.drop f3.offset).take (P.cellsOf f3.type))=some y3:=by
 obtain⟨xs,n,_,rfl,hl,hlen,hf⟩:=DataW.trod_struct ht h
 match xs,hlen with
 | [y0,y1,y2,y3],_=>exact⟨y0,y1,y2,y3,n,hl,by simpa using hf 0 f0 rfl,by simpa using hf 1 f1 rfl,by simpa using hf 2 f2 rfl,by simpa using hf 3 f3 rfl⟩
theorem HN(n:Nat)(cs:List Value)(y:DataW H×List MemPlace)(h:DataW.trod enc Tryz.prog w base spare held n 5 cs=some y):∃a:Nat,cs=[.int .u8 (a:Nat)]/\a<256:=by obtain⟨b,h1,_,h2⟩:=DataW.trod_int U5 h;have h3:=bounds_u8 h2;exact⟨b.toNat,by rw[h1,Int.toNat_of_nonneg (by omega)],by omega⟩
theorem XX{v:Value}{fuel:Nat}{x:DataW H×List MemPlace}(h:DataW.trod enc Tryz.prog w base spare held fuel 23 [v]=some x):∃l,RdL (fun g:Nat=>[.int .u8 (g:Nat)]) 1 (whole w) [] v l/\∀a∈l,a<256:=
 Ns Tk (by kernel_rfl) (fun _=>rfl) (by decide) HN h
theorem O7{v:Value}{r:Reach}{b0:Nat}{d:DataW H}{ps:List MemPlace}(hval:Value.okWide Tryz.prog w r b0 25 v)(h:DataW.Trod enc Tryz.prog w base spare held 25 v d ps):∃(sp be:Nat) (v0 vG:Value) (L:List Int) (G:List Nat),v=.agg #[.int .u8 sp,v0,vG,.int .u8 be]/\sp<256/\be<256/\(∀g∈G,g<256)/\RdL cI 1 (whole w) [] v0 L/\RdL (fun g:Nat=>[.int .u8 (g:Nat)]) 1 (whole w) [] vG G:=by
 obtain⟨cs,rfl,hc⟩:=okWide_struct U25 hval;obtain⟨fuel,hf⟩:=h;obtain⟨y0,y1,y2,y3,n,h0,h1,h2,h3,h4⟩:=Mz U25 hf;have hc3:cs.size=4:=hc.trans (by kernel_rfl);obtain⟨l⟩:=cs
 match l,hc3 with
 | [c0,c1,c2,c3],_=>
  have h1:DataW.trod enc Tryz.prog w base spare held n 5 [c0]=some y0:=h1;have h2:DataW.trod enc Tryz.prog w base spare held n 22 [c1]=some y1:=h2;have h3:DataW.trod enc Tryz.prog w base spare held n 23 [c2]=some y2:=h3;have h4:DataW.trod enc Tryz.prog w base spare held n 5 [c3]=some y3:=h4;obtain⟨sp,e0,w0⟩:=HN n _ _ h1;obtain⟨L,hR,hE⟩:=QS h2;obtain⟨G,hG,hI⟩:=XX h3;obtain⟨be,e2,w2⟩:=HN n _ _ h4;simp only[List.cons.injEq,and_true]at e0 e2;subst e0 e2;exact⟨sp,be,c1,c2,L,G,rfl,w0,w2,hI,hR,hG⟩
end
end Go.Proofs.Q
namespace Go.Proofs.Q
open Go.Proofs.Tryz
open Go.Eng Go.ChangeShapes Go.WideShapes Go.ChangeAt Go.RowKit Go.Deep
section
variable {H:Type} {enc:TypeId×Value->H} {w:World} {base:Nat} {spare:Nat->Bool} {held:Bool}
theorem Ym:Tryz.prog.underlying 55=some (.array 2 5):=by kernel_rfl
theorem Tl{v:Value}{r:Reach}{b0:Nat}{d:DataW H}{ps:List MemPlace}(hval:Value.okWide Tryz.prog w r b0 55 v)(h:DataW.Trod enc Tryz.prog w base spare held 55 v d ps):∃a b:Nat,v=.agg #[.int .u8 (a:Nat),.int .u8 (b:Nat)]/\a<256/\b<256:=by
 obtain⟨cs,rfl,hc⟩:∃cs,v=.agg cs/\cs.size=Tryz.prog.cellsOf 55:=by simp only[Value.okWide,Ym]at hval;obtain⟨cs,h1,h2,_⟩:=hval;exact⟨cs,h1,h2⟩
 obtain⟨fuel,hf⟩:=h;obtain⟨xs,m,_,_,_,hl,hx⟩:=DataW.trod_array Ym hf;have hc2:cs.size=2:=hc.trans (by kernel_rfl);obtain⟨l⟩:=cs
 match l,hc2,xs,hl with
 | [c0,c1],_,[y0,y1],_=>
  have h0:DataW.trod enc Tryz.prog w base spare held m 5 [c0]=some y0:=hx 0 (by decide);have h1:DataW.trod enc Tryz.prog w base spare held m 5 [c1]=some y1:=hx 1 (by decide);obtain⟨a,e0,w0⟩:=HN m _ _ h0;obtain⟨b,e1,w1⟩:=HN m _ _ h1;simp only[List.cons.injEq,and_true]at e0 e1;subst e0 e1;exact⟨a,b,rfl,w0,w1⟩
end
end Go.Proofs.Q
