/- A part of the proof. -/
import Derived.Test.YtmgaeedkcecckaaGreatDoorRG
set_option linter.unusedSimpArgs false
set_option linter.unusedVariables false
set_option linter.unusedSectionVars false
set_option maxRecDepth 100000
set_option maxHeartbeats 4000000

open List (mem_map length_map length_singleton getElem_mem replicate range length_append nil_append length_take cons_append map_append mem_cons_self mem_cons_of_mem length_nil length_drop take_succ_eq_append_getElem append_nil map_map map_cons length_set take_length append_assoc getElem_map length_cons map_congr_left sum_cons take_of_length_le)
namespace Go.Proofs.Q
open Go.Proofs.Tryz
open Go.Eng Go.RowKit
section
open Go.Lin Go.Wd Go.Sm Go.Ch
theorem M3(Z:List Nat)(j d:Nat):(iD Z).set j (d:Int)=iD (Z.set j d):=by unfold iD;rw[List.map_set];rfl
theorem MO{Z:List Nat}{x y i k c o ai bk:Nat}(hk:i+k<Z.length)(ho:Z.getD (i+k) 0=o)(hbk:y/65536^k%65536=bk)
  (hv:val 65536 Z+c*65536^(i+k)=x%65536^i*y+ai*(y%65536^k)*65536^i) :
  val 65536 (Z.set (i+k) ((o+ai*bk+c)%65536))+(o+ai*bk+c)/65536*65536^(i+k+1)=x%65536^i*y+ai*(y%65536^(k+1))*65536^i:=by
 have h1:=HC 65536 Z (i+k) ((o+ai*bk+c)%65536) hk;rw[ho]at h1;have h2:y%65536^(k+1)=y%65536^k+65536^k*bk:=by rw[Nat.pow_succ,Nat.mod_mul,hbk]
 obtain⟨d,hd⟩:∃d,o+ai*bk+c=d:=⟨_,Y⟩
 rw[hd]at h1 ⊢;have h3:=Nat.mod_add_div d 65536;rw[h2,Nat.mul_add,cw]
 have h4:ai*(65536^k*bk)*65536^i=65536^(i+k)*(ai*bk):=by rw[Nat.pow_add];ac_rfl
 rw[h4];obtain⟨P,hP⟩:∃P,65536^(i+k)=P:=⟨_,Y⟩
 rw[show 65536^(i+k+1)=P*65536 by rw[Nat.pow_succ,hP]];rw[hP]at h1 hv ⊢;have h5:=aw (P*·) h3;have h6:=aw (P*·) hd;simp only[Nat.mul_add]at h5 h6;have h7:d/65536*(P*65536)=P*(65536*(d/65536)):=by rw[dw,Nat.mul_assoc]
 have h8:c*P=P*c:=dw _ _;omega
theorem Od{Z:List Nat}{x y i k c ai:Nat}(hk:i+k<Z.length)(ho:Z.getD (i+k) 0=0)(hy:y%65536^k=y)(hai:x/65536^i%65536=ai)
  (hv:val 65536 Z+c*65536^(i+k)=x%65536^i*y+ai*(y%65536^k)*65536^i) :
  val 65536 (Z.set (i+k) c)=x%65536^(i+1)*y:=by
 have h1:=HC 65536 Z (i+k) c hk;rw[ho,Nat.mul_zero,Nat.add_zero]at h1;rw[h1,Nat.pow_succ,Nat.mod_mul,hai,cw];rw[hy]at hv;have h2:65536^(i+k)*c=c*65536^(i+k):=dw _ _;have h3:65536^i*ai*y=ai*y*65536^i:=by rw[Nat.mul_assoc,dw]
 omega
theorem Xt(va vb:Value)(x y:Nat)(h:Hp)(RA:RdL cI 1 h [] va (iD (dg 65536 x)))(RB:RdL cI 1 h [] vb (iD (dg 65536 y)))(hx:(dg 65536 x).length<=400000)(hy:(dg 65536 y).length<=400000):FnT Tryz.prog 70 #[va,vb] h [] (λr h' ms'=>h.le h'/\ms'=[]/\RdL cI 1 h' [] r (iD (dg 65536 (x*y)))):=by
 obtain⟨n,hn⟩:∃n,(dg 65536 x).length=n:=⟨_,Y⟩
 obtain⟨p,hp⟩:∃p,(dg 65536 y).length=p:=⟨_,Y⟩
 have rA:Rd h [] va 1 n ((iD (dg 65536 x)).flatMap cI):=by have:=RA.rd;rwa [BP,hn]at this
 have rB:Rd h [] vb 1 p ((iD (dg 65536 y)).flatMap cI):=by have:=RB.rd;rwa [BP,hp]at this
 have oa:=rA.one;have ob:=rB.one;have hxn:x%65536^n=x:=db ((BQ (b:=65536) δ n x).1 ω);have hyp:y%65536^p=y:=db ((BQ (b:=65536) δ p y).1 ω);refine Ap func70 ntmps70 Y Y<|λw0 hw0=>?_;simp only[AR];refine Ar<|Qm Y<|Bp<|Qm Y<|Qx (Aq rA.any Y AZ Y) Y<|Qm Y<|Qx (Aq rB.any Y AZ Y) Y<|Qx (oA Y) Y<|Ha A8 ω (0:Int) (n:=n+p) Y AZ Bk Y Y Y ω ω ω ω Y Y Y<|λg15 ev m0 hev hOi=>?_;have oe:=hOi.o1;refine Qm Y<|Am<|Ac<|Ar<|Qm Y<|Am<|Ag ?_;refine AB (λq sl h' ms'=>∃(i:Nat) (mo:Hp) (Z:List Nat),n-i=q/\sl=[(0,va),(1,vb),(5,ev),(6,.w (i:Int))]/\h=h'/\ms'=[mo]/\i<=n/\Z.length=n+p/\(∀a∈Z,a<65536)/\(∀j,i+p<=j->Z.getD j 0=0)/\val 65536 Z=x%65536^i*y/\OwnL cI 1 3 mo ev (iD Z)) (n-0) _ ⟨0,m0,replicate (n+p) 0,Y,Y,Y,Y,ω,by simp,λa ha=>by rw[(List.mem_replicate.1 ha).2];decide,λj _=>by simp[List.getD,List.getElem?_replicate];split<;>rfl,by rw[Ey,Nat.pow_zero,Nat.mod_one,Nat.zero_mul],by rw[show iD (replicate (n+p) 0)=replicate (n+p) 0 by simp[iD]];exact hOi⟩ Qs ?_;rintro q sl h' ms' ⟨i,moA,ZA,rfl,rfl,rfl,rfl,hi,hZA,hltA,hzeroA,hvA,hOA⟩;refine Ac<|Ar<|Qm Y<|Qm Y<|Qx (Aq rA.any Y AZ Y) Y<|Qm Y<|Am ?_;refine Aw Y (λhin=>?_)<|λhin=>?_
 ·have hin':i<n:=ω
  have cA:=EB RA (i:=i) ω;obtain⟨ai,hai⟩:∃ai,x/65536^i%65536=ai:=⟨_,Y⟩
  have haib:ai<65536:=ω
  rw[hai]at cA;refine Ah<|Ab<|Ac<|Ag<|Ar<|Qm Y<|Am<|Ac<|Ar<|Qm Y<|Am<|Ag ?_;refine AB (λq sl h' ms'=>∃(k c:Nat) (mo:Hp) (Z:List Nat),p-k=q/\sl=[(0,va),(1,vb),(5,ev),(6,.w (i:Int)),(7,.w (c:Int)),(8,.w (k:Int))]/\h=h'/\ms'=[mo]/\k<=p/\c<65536/\Z.length=n+p/\(∀a∈Z,a<65536)/\(∀j,i+p<=j->Z.getD j 0=0)/\val 65536 Z+c*65536^(i+k)=x%65536^i*y+ai*(y%65536^k)*65536^i/\OwnL cI 1 3 mo ev (iD Z)) (p-0) _ ⟨0,0,moA,ZA,Y,Y,Y,Y,ω,by decide,hZA,hltA,hzeroA,by rw[hvA,Nat.pow_zero,Nat.mod_one];simp,hOA⟩ Qs ?_;rintro q sl h' ms' ⟨k,c,mo,Z,rfl,rfl,rfl,rfl,hk,hc,hZ,hlt,hzero,hv,hO⟩;have rE:Rd h [mo] ev 1 (n+p) ((iD Z).flatMap cI):=by have:=(hO.rd (h:=h) (ms:=[mo]) Mh).rd;rwa [BP,hZ]at this
  refine Ac<|Ar<|Qm Y<|Qm Y<|Qx (Aq rB.any Y AZ Y) Y<|Qm Y<|Am ?_;refine Aw Y (λhkp=>?_)<|λhkp=>?_
  ·have hkp':k<p:=ω
   have cB:=EB RB (i:=k) ω;obtain⟨bk,hbk⟩:∃bk,y/65536^k%65536=bk:=⟨_,Y⟩
   have hbb:bk<65536:=ω
   rw[hbk]at cB;have hikZ:i+k<Z.length:=ω
   obtain⟨o,ho⟩:∃o,Z.getD (i+k) 0=o:=⟨_,Y⟩
   have hoZ:Z[i+k]=o:=by rw[<-ho];simp[List.getD,hikZ]
   have hob:o<65536:=hlt o (hoZ ▸ ao hikZ)
   have cZ:Cell h [mo] ((AH ev).add ((i+k)*1)) (.w (o:Int)):=by
    have h1:i+k<(iD Z).length:=by rw[BP];exact hikZ
    exact(hO.rd (h:=h) (ms:=[mo]) Mh).cell0 h1 (by rw[NM hikZ,hoZ];rfl)
   have hprod:ai*bk<=65535*65535:=ep ω ω;have hpc:(ai:Int)*bk=((ai*bk:Nat):Int):=(fv ai bk).symm;obtain⟨d,hd⟩:∃d:Nat,o+ai*bk+c=d:=⟨_,Y⟩
   have hdI:(o:Int)+ai*bk+c=(d:Int):=by rw[hpc];omega
   have hstep:=MO hikZ ho hbk hv;rw[hd]at hstep;have hdb:d/65536<65536:=ω
   have q1:((d:Int)/65536)=((d/65536:Nat):Int):=ω
   have q2:((d:Int)%65536)=((d%65536:Nat):Int):=ω
   refine Ah<|Ab<|Ac<|Ag<|Ac<|BB 17 CC κ Y<|Wm Y<|Wm Y<|Wm Y<|BD (oA Y) Y Y<|BD (BC (i+k) rE Y AZ Bk Y Y) Y Y<|Wl Y U3 (cZ)<|Wm Y<|Wm Y<|BD (BC (i) rA.any Y AZ Bk Y Y) Y Y<|Wl Y U3 (cA _)<|Wm Y<|Wm Y<|BD (BC (k) rB.any Y AZ Bk Y Y) Y Y<|Wl Y U3 (cB _) ?_;refine BD (oM Y (by rw[hpc];omega)) rfl rfl ?_;refine BD (oA Y (by rw[hpc];omega)) rfl rfl ?_;refine Wm Y<|Bu ?_;refine Qx (Dk (oA Y (by rw[hpc];omega))<|aw (Value.int .i64) hdI) rfl ?_;refine Qm Y<|Bp<|Qm Y<|Qm Y<|Qm Y<|Qx (oA Y) Y<|Qm Y<|Qx (Dk (C6 Y Y Y ω ω)<|aw (Value.int .i64) q2) Y<|Qx (BC (i+k) rE Y AZ Bk Y Y) Y ?_;refine D3 0 (i+k) hO Y Bk Y Y Y (by rw[BP];omega) rfl rfl<|λmo' hO'=>?_;rw[M3]at hO';refine GX<|Qm Y<|Qx (Dk (DC Y Y Y ω ω)<|aw (Value.int .i64) q1) Y<|Qm Y<|An<|Ai<|Ab<|Ad<|Qm Y<|Qx (oA Y) Y<|Qm Y<|An ?_;exact Ao (p-(k+1)) _ ω ⟨k+1,d/65536,mo',Z.set (i+k) (d%65536),Y,Y,Y,Y,ω,hdb,by rw[ff];exact hZ,λa ha=>(List.mem_or_eq_of_mem_set ha).elim (hlt a) (λq=>by rw[q];exact Nat.mod_lt _ δ),λj hj=>by rw[show(Z.set (i+k) (d%65536)).getD j 0=Z.getD j 0 by simp[List.getD,List.getElem?_set,show ¬i+k=j by omega]];exact hzero j hj,hstep,hO'⟩ Qs
  ·obtain rfl:k=p:=ω
   have hikZ:i+k<Z.length:=ω
   have hfin:=Od hikZ (hzero (i+k) (am _)) hyp hai hv;refine Ax<|Aa<|Aa<|Af<|Ab<|Ad<|Qm Y<|Qm Y<|Qm Y<|Qx (Aq rB.any Y AZ Y) Y<|Qx (oA Y) Y<|Qm Y<|Qx (BC (i+k) rE Y AZ Bk Y Y) Y ?_;refine D3 0 (i+k) hO Y Bk Y Y Y (by rw[BP];omega) rfl rfl<|λmo' hO'=>?_;rw[M3]at hO';refine An<|Ai<|Ab<|Ad<|Qm Y<|Qx (oA Y) Y<|Qm Y<|An ?_;exact Ao (n-(i+1)) _ ω ⟨i+1,mo',Z.set (i+k) c,Y,Y,Y,Y,ω,by rw[ff];exact hZ,λa ha=>(List.mem_or_eq_of_mem_set ha).elim (hlt a) (λq=>by rw[q];exact hc),λj hj=>by rw[show(Z.set (i+k) c).getD j 0=Z.getD j 0 by simp[List.getD,List.getElem?_set,show ¬i+k=j by omega]];exact hzero j ω,hfin,hO'⟩ Qs
 ·obtain rfl:i=n:=ω
  rw[hxn]at hvA;have hst:De ZA=dg 65536 (x*y):=by rw[C0 δ hltA,hvA]
  refine Ax<|Aa<|Aa<|Af<|Ab<|Ar<|Qm Y<|Bt hOA λh2 l2 hR=>Qc call125 Y (HJ ev ZA h2 hR ω)<|λr h3 ms3 l3 hF=>?_;obtain⟨rfl,rfl,RT⟩:=hF;rw[hst]at RT;have or_:=RT.rd.one;refine Qm Y<|Am<|Aj ?_;exact Al Y Y (⟨l2,Y,RT⟩)
theorem Aad{a b:Int}(h:a*b≠0):decide (decide (a<0)≠decide (b<0))=decide (a*b<0):=by
 have ha:a≠0:=λe=>h (by rw[e,gj]);have hb:b≠0:=λe=>h (by rw[e,gu]);rcases Int.lt_or_gt_of_ne ha with h1|h1<;>rcases Int.lt_or_gt_of_ne hb with h2|h2
 ·have:=Int.mul_pos_of_neg_of_neg h1 h2;simp[h1,h2,show ¬a*b<0 by omega]
 ·have:=Int.mul_neg_of_neg_of_pos h1 h2;simp[h1,show ¬b<0 by omega,this]
 ·have:=Int.mul_neg_of_pos_of_neg h1 h2;simp[h2,show ¬a<0 by omega,this]
 ·have:=Int.mul_pos h1 h2;simp[show ¬a<0 by omega,show ¬b<0 by omega,show ¬a*b<0 by omega]
theorem Pn(a b:Int)(ha:Sz a)(hb:Sz b)(h:Hp)(ms:List Hp):FnV Tryz.prog 26 #[WD a,WD b] h ms (WD (a*b)):=by
 refine DY (FnT.mono (post:=λr h' ms'=>h.le h'/\ms'=[]/\r=WD (a*b)) ?_ λ_ _ _ q=>q.2.2) ms;have osa:(sv (A7 a.natAbs)).oneCell'=true:=rfl;have osb:(sv (A7 b.natAbs)).oneCell'=true:=rfl;have osr:(sv (A7 (a*b).natAbs)).oneCell'=true:=rfl;have la:=ha.d16;have lb:=hb.d16
 have hW:WS (decide (decide (a<0)≠decide (b<0))) (a.natAbs*b.natAbs)=WD (a*b):=by rw[<-Int.natAbs_mul];exact Mj λhne=>Aad hne
 have hlen:(dg 65536 (a.natAbs*b.natAbs)).length<=800000:=by have:=M4 (b:=65536) δ a.natAbs b.natAbs;omega
 refine Ap func26 ntmps26 Y Y<|λw0 hw0=>?_;simp only[AR];refine Ar<|AK [_,_] Y Y (by rfl) Y Y Y<|λg2=>AK [_,_] Y Y (by rfl) Y Y Y<|λg3=>BS [.bool false,.es] Y Az Y Y<|λg4=>Am<|Av 1 Y λh1 l1 hS3=>Av 1 Y λh2 l2 hS2=>?_;have l02:=AD l1 l2;have s2:∀ms,Seg h2 ms (⟨g2,0,none⟩:Addr) (Bi a):=λms=>hS2.any;have s3:∀ms,Seg h2 ms (⟨g3,0,none⟩:Addr) (Bi b):=λms=>(hS3.le l2).any;have c2:∀ms,Cell h2 ms ((⟨g2,0,none⟩:Addr).add 0) (.bool (decide (a<0))):=λms=>(hS2 0 _ Y).any;have c3:∀ms,Cell h2 ms ((⟨g3,0,none⟩:Addr).add 0) (.bool (decide (b<0))):=λms=>((hS3.le l2) 0 _ Y).any;refine Ac<|AS (n:=12) (bs:=[ig,ig,ig,ig,ig,ig,ii,ig,ii,ii,ii,ii]) [ig,ig,ig,ig,ig,ig,ii,ig] CC κ κ Y Y<|QF C4 Y<|QL Y U4 (c2 _)<|QF C4 Y<|QL Y U4 (c3 _)<|Qp Y (OF Y U4 Y Y)<|Qp Y (oG Y By Az<|s2 _)<|Qp Y (oG Y By Az<|s3 _) ?_;unfold Dd;simp only[bh,ap];refine Qo 6 Y<|AC (pre:=[]) Y call63 Y (EK a ha h2) Y Y Y Y<|λva h3 ms3 l3 hF=>?_;obtain⟨l3',rfl,RA⟩:=hF;have oa:=RA.rd.one;refine Qa<|Qo 8 Y<|AC (pre:=[]) Y call63 Y (EK b hb h3) Y Y Y Y<|λvb h4 ms4 l4 hF=>?_;obtain⟨l4',rfl,RB⟩:=hF;have ob:=RB.rd.one;have l24:=AD l3' l4';refine Qa<|Qo 9 Y<|AC (pre:=[]) Y call70 Y (Xt va vb a.natAbs b.natAbs h4 (RA.up l4') RB la lb) Y Y Y Y<|λvp h5 ms5 l5 hF=>?_;obtain⟨l5',rfl,RL⟩:=hF;have op:=RL.rd.one;have l25:=AD l24 l5';refine Qa<|Qo 10 Y<|AC (pre:=[]) Y call64 Y (Fl (decide<|decide (a<0)≠decide (b<0)) vp _ (a.natAbs*b.natAbs) h5 RL ω (Hn _)<|F5 δ _) Y Y Y Y<|λvw h6 ms6 l6 hF=>?_;obtain⟨l6',rfl,rfl⟩:=hF;have l26:=AD l25 l6';rw[hW];refine Qa<|Qo 11 Y ?_;refine Sa 0 [_,_] Az Y (by simp[osa,osb,osr,B8]) ?_;refine Qa<|Qe<|Ab<|Aj ?_;exact Bx (vs:=[_,_]) 0 Y Y By Y Az Y Y (⟨AD l02 l26,Y,Y⟩)
theorem YL{h:Hp}{v:Value}{y:Nat}{L:List Nat}(R:RdL cI 1 h [] v (iD L))(hB:∀k,k<L.length->L.getD k 0=y/65536^k%65536){i:Nat}(hi:i<L.length):∀ms,Cell h ms ((AH v).add (i*1)) (.int .i64 ((y/65536^i%65536:Nat):Int)):=λms=>by
 have h1:i<(iD L).length:=by rw[BP];exact hi
 refine(R.any (ms:=ms)).cell0 h1 ?_;rw[NM hi];have:=hB i hi;simp[List.getD,hi]at this;simp[cI,this]
theorem Ur(va vb:Value)(x y:Nat)(Lb:List Nat)(h:Hp)(RA:RdL cI 1 h [] va (iD (dg 65536 x)))(RB:RdL cI 1 h [] vb (iD Lb))(hBd:∀k,k<Lb.length->Lb.getD k 0=y/65536^k%65536)(hBv:y<65536^Lb.length)(hx:(dg 65536 x).length<=400000)(hy:Lb.length<=400000):FnT Tryz.prog 70 #[va,vb] h [] (λr h' ms'=>h.le h'/\ms'=[]/\RdL cI 1 h' [] r (iD (dg 65536 (x*y)))):=by
 obtain⟨n,hn⟩:∃n,(dg 65536 x).length=n:=⟨_,Y⟩
 obtain⟨p,hp⟩:∃p,Lb.length=p:=⟨_,Y⟩
 have rA:Rd h [] va 1 n ((iD (dg 65536 x)).flatMap cI):=by have:=RA.rd;rwa [BP,hn]at this
 have rB:Rd h [] vb 1 p ((iD Lb).flatMap cI):=by have:=RB.rd;rwa [BP,hp]at this
 have oa:=rA.one;have ob:=rB.one;have hxn:x%65536^n=x:=db ((BQ (b:=65536) δ n x).1 ω);have hyp:y%65536^p=y:=db (hp ▸ hBv);refine Ap func70 ntmps70 Y Y<|λw0 hw0=>?_;simp only[AR];refine Ar<|Qm Y<|Bp<|Qm Y<|Qx (Aq rA.any Y AZ Y) Y<|Qm Y<|Qx (Aq rB.any Y AZ Y) Y<|Qx (oA Y) Y<|Ha A8 ω (0:Int) (n:=n+p) Y AZ Bk Y Y Y ω ω ω ω Y Y Y<|λg15 ev m0 hev hOi=>?_;have oe:=hOi.o1;refine Qm Y<|Am<|Ac<|Ar<|Qm Y<|Am<|Ag ?_;refine AB (λq sl h' ms'=>∃(i:Nat) (mo:Hp) (Z:List Nat),n-i=q/\sl=[(0,va),(1,vb),(5,ev),(6,.w (i:Int))]/\h=h'/\ms'=[mo]/\i<=n/\Z.length=n+p/\(∀a∈Z,a<65536)/\(∀j,i+p<=j->Z.getD j 0=0)/\val 65536 Z=x%65536^i*y/\OwnL cI 1 3 mo ev (iD Z)) (n-0) _ ⟨0,m0,replicate (n+p) 0,Y,Y,Y,Y,ω,by simp,λa ha=>by rw[(List.mem_replicate.1 ha).2];decide,λj _=>by simp[List.getD,List.getElem?_replicate];split<;>rfl,by rw[Ey,Nat.pow_zero,Nat.mod_one,Nat.zero_mul],by rw[show iD (replicate (n+p) 0)=replicate (n+p) 0 by simp[iD]];exact hOi⟩ Qs ?_;rintro q sl h' ms' ⟨i,moA,ZA,rfl,rfl,rfl,rfl,hi,hZA,hltA,hzeroA,hvA,hOA⟩;refine Ac<|Ar<|Qm Y<|Qm Y<|Qx (Aq rA.any Y AZ Y) Y<|Qm Y<|Am ?_;refine Aw Y (λhin=>?_)<|λhin=>?_
 ·have hin':i<n:=ω
  have cA:=EB RA (i:=i) ω;obtain⟨ai,hai⟩:∃ai,x/65536^i%65536=ai:=⟨_,Y⟩
  have haib:ai<65536:=ω
  rw[hai]at cA;refine Ah<|Ab<|Ac<|Ag<|Ar<|Qm Y<|Am<|Ac<|Ar<|Qm Y<|Am<|Ag ?_;refine AB (λq sl h' ms'=>∃(k c:Nat) (mo:Hp) (Z:List Nat),p-k=q/\sl=[(0,va),(1,vb),(5,ev),(6,.w (i:Int)),(7,.w (c:Int)),(8,.w (k:Int))]/\h=h'/\ms'=[mo]/\k<=p/\c<65536/\Z.length=n+p/\(∀a∈Z,a<65536)/\(∀j,i+p<=j->Z.getD j 0=0)/\val 65536 Z+c*65536^(i+k)=x%65536^i*y+ai*(y%65536^k)*65536^i/\OwnL cI 1 3 mo ev (iD Z)) (p-0) _ ⟨0,0,moA,ZA,Y,Y,Y,Y,ω,by decide,hZA,hltA,hzeroA,by rw[hvA,Nat.pow_zero,Nat.mod_one];simp,hOA⟩ Qs ?_;rintro q sl h' ms' ⟨k,c,mo,Z,rfl,rfl,rfl,rfl,hk,hc,hZ,hlt,hzero,hv,hO⟩;have rE:Rd h [mo] ev 1 (n+p) ((iD Z).flatMap cI):=by have:=(hO.rd (h:=h) (ms:=[mo]) Mh).rd;rwa [BP,hZ]at this
  refine Ac<|Ar<|Qm Y<|Qm Y<|Qx (Aq rB.any Y AZ Y) Y<|Qm Y<|Am ?_;refine Aw Y (λhkp=>?_)<|λhkp=>?_
  ·have hkp':k<p:=ω
   have cB:=YL RB hBd (i:=k) ω;obtain⟨bk,hbk⟩:∃bk,y/65536^k%65536=bk:=⟨_,Y⟩
   have hbb:bk<65536:=ω
   rw[hbk]at cB;have hikZ:i+k<Z.length:=ω
   obtain⟨o,ho⟩:∃o,Z.getD (i+k) 0=o:=⟨_,Y⟩
   have hoZ:Z[i+k]=o:=by rw[<-ho];simp[List.getD,hikZ]
   have hob:o<65536:=hlt o (hoZ ▸ ao hikZ)
   have cZ:Cell h [mo] ((AH ev).add ((i+k)*1)) (.w (o:Int)):=by
    have h1:i+k<(iD Z).length:=by rw[BP];exact hikZ
    exact(hO.rd (h:=h) (ms:=[mo]) Mh).cell0 h1 (by rw[NM hikZ,hoZ];rfl)
   have hprod:ai*bk<=65535*65535:=ep ω ω;have hpc:(ai:Int)*bk=((ai*bk:Nat):Int):=(fv ai bk).symm;obtain⟨d,hd⟩:∃d:Nat,o+ai*bk+c=d:=⟨_,Y⟩
   have hdI:(o:Int)+ai*bk+c=(d:Int):=by rw[hpc];omega
   have hstep:=MO hikZ ho hbk hv;rw[hd]at hstep;have hdb:d/65536<65536:=ω
   have q1:((d:Int)/65536)=((d/65536:Nat):Int):=ω
   have q2:((d:Int)%65536)=((d%65536:Nat):Int):=ω
   refine Ah<|Ab<|Ac<|Ag<|Ac<|BB 17 CC κ Y<|Wm Y<|Wm Y<|Wm Y<|BD (oA Y) Y Y<|BD (BC (i+k) rE Y AZ Bk Y Y) Y Y<|Wl Y U3 (cZ)<|Wm Y<|Wm Y<|BD (BC (i) rA.any Y AZ Bk Y Y) Y Y<|Wl Y U3 (cA _)<|Wm Y<|Wm Y<|BD (BC (k) rB.any Y AZ Bk Y Y) Y Y<|Wl Y U3 (cB _) ?_;refine BD (oM Y (by rw[hpc];omega)) rfl rfl ?_;refine BD (oA Y (by rw[hpc];omega)) rfl rfl ?_;refine Wm Y<|Bu ?_;refine Qx (Dk (oA Y (by rw[hpc];omega))<|aw (Value.int .i64) hdI) rfl ?_;refine Qm Y<|Bp<|Qm Y<|Qm Y<|Qm Y<|Qx (oA Y) Y<|Qm Y<|Qx (Dk (C6 Y Y Y ω ω)<|aw (Value.int .i64) q2) Y<|Qx (BC (i+k) rE Y AZ Bk Y Y) Y ?_;refine D3 0 (i+k) hO Y Bk Y Y Y (by rw[BP];omega) rfl rfl<|λmo' hO'=>?_;rw[M3]at hO';refine GX<|Qm Y<|Qx (Dk (DC Y Y Y ω ω)<|aw (Value.int .i64) q1) Y<|Qm Y<|An<|Ai<|Ab<|Ad<|Qm Y<|Qx (oA Y) Y<|Qm Y<|An ?_;exact Ao (p-(k+1)) _ ω ⟨k+1,d/65536,mo',Z.set (i+k) (d%65536),Y,Y,Y,Y,ω,hdb,by rw[ff];exact hZ,λa ha=>(List.mem_or_eq_of_mem_set ha).elim (hlt a) (λq=>by rw[q];exact Nat.mod_lt _ δ),λj hj=>by rw[show(Z.set (i+k) (d%65536)).getD j 0=Z.getD j 0 by simp[List.getD,List.getElem?_set,show ¬i+k=j by omega]];exact hzero j hj,hstep,hO'⟩ Qs
  ·obtain rfl:k=p:=ω
   have hikZ:i+k<Z.length:=ω
   have hfin:=Od hikZ (hzero (i+k) (am _)) hyp hai hv;refine Ax<|Aa<|Aa<|Af<|Ab<|Ad<|Qm Y<|Qm Y<|Qm Y<|Qx (Aq rB.any Y AZ Y) Y<|Qx (oA Y) Y<|Qm Y<|Qx (BC (i+k) rE Y AZ Bk Y Y) Y ?_;refine D3 0 (i+k) hO Y Bk Y Y Y (by rw[BP];omega) rfl rfl<|λmo' hO'=>?_;rw[M3]at hO';refine An<|Ai<|Ab<|Ad<|Qm Y<|Qx (oA Y) Y<|Qm Y<|An ?_;exact Ao (n-(i+1)) _ ω ⟨i+1,mo',Z.set (i+k) c,Y,Y,Y,Y,ω,by rw[ff];exact hZ,λa ha=>(List.mem_or_eq_of_mem_set ha).elim (hlt a) (λq=>by rw[q];exact hc),λj hj=>by rw[show(Z.set (i+k) c).getD j 0=Z.getD j 0 by simp[List.getD,List.getElem?_set,show ¬i+k=j by omega]];exact hzero j ω,hfin,hO'⟩ Qs
 ·obtain rfl:i=n:=ω
  rw[hxn]at hvA;have hst:De ZA=dg 65536 (x*y):=by rw[C0 δ hltA,hvA]
  refine Ax<|Aa<|Aa<|Af<|Ab<|Ar<|Qm Y<|Bt hOA λh2 l2 hR=>Qc call125 Y (HJ ev ZA h2 hR ω)<|λr h3 ms3 l3 hF=>?_;obtain⟨rfl,rfl,RT⟩:=hF;rw[hst]at RT;have or_:=RT.rd.one;refine Qm Y<|Am<|Aj ?_;exact Al Y Y (⟨l2,Y,RT⟩)
theorem Zs(va:Value)(x d:Nat)(h:Hp)(RA:RdL cI 1 h [] va (iD (dg 65536 x)))(hx:(dg 65536 x).length<=400000)(hd:d<65536):FnT Tryz.prog 130 #[va,.int .i64 (d:Int)] h [] (λr h' ms'=>h.le h'/\ms'=[]/\RdL cI 1 h' [] r (iD (dg 65536 (x*d)))):=by
 obtain⟨n,hn⟩:∃n,(dg 65536 x).length=n:=⟨_,Y⟩
 have rA:Rd h [] va 1 n ((iD (dg 65536 x)).flatMap cI):=by have:=RA.rd;rwa [BP,hn]at this
 have oa:=rA.one;refine Ap func130 ntmps130 Y Y<|λw0 hw0=>?_;simp only[AR];refine Ar<|Qm Y<|Bp<|Qm Y<|Qm Y<|Ay [_] Y AZ Bk Y (by rfl) Y Y ω Y Y Y<|λg7=>Bt (OwnL.blk (g:=g7) (el:=3) (F:=cI) (l:=iD [d]) 1 A8 Y δ) λh2 l2 hR=>?_
 have hBd:∀k,k < [d].length->[d].getD k 0=d/65536^k%65536:=λk hk=>by
  obtain rfl:k=0:=by simpa using hk
  simp;exact(db hd).symm
 refine Qc call70 Y (Ur va _ x d [d] h2 (RA.up l2) hR hBd (by simpa using hd) hx σ)<|λr h3 ms3 l3 hF=>?_;obtain⟨l3',rfl,RT⟩:=hF;have or_:=RT.rd.one;refine Qm Y<|Am<|Aj ?_;exact Al Y Y (⟨AD l2 l3',Y,RT⟩)
variable {x y:Nat}
theorem Xy{A B t a:Nat}(hB:0<B)(ha:A/65536^t%65536=a):A/65536^t/B=A/65536^(t+1)/B*65536+((A/65536^(t+1)%B)*65536+a)/B/\A/65536^t%B=((A/65536^(t+1)%B)*65536+a)%B:=by
 have e1:A/65536^t=A/65536^(t+1)*65536+a:=by rw[Nat.pow_succ,<-Nat.div_div_eq_div_mul,<-ha];omega
 have e2:A/65536^(t+1)*65536+a=B*(A/65536^(t+1)/B*65536)+((A/65536^(t+1)%B)*65536+a):=by have:=Nat.div_add_mod (A/65536^(t+1)) B;generalize A/65536^(t+1)/B=q at *;generalize A/65536^(t+1)%B=r at *;rw[<-this,cw,Nat.mul_assoc];omega
 rw[e1,e2];exact⟨Nat.mul_add_div hB _ _,Nat.mul_add_mod _ _ _⟩
theorem UG:KN x y<=0<->x<=y:=by unfold KN;split<;>(try split)<;>omega
theorem Ab9:KN x y<0<->x<y:=by unfold KN;split<;>(try split)<;>omega
theorem JV(h:x<=y):(dg 65536 x).length<=(dg 65536 y).length:=(BQ (b:=65536) δ _ x).2 (Nat.lt_of_le_of_lt h ((BQ (b:=65536) δ _ y).1 (am _)))
theorem Pd(d:Nat)(hd:d<=65536):(dg 65536 (x*d)).length<=(dg 65536 x).length+1:=by
 refine(BQ (b:=65536) δ _ _).2 ?_;have h:=(BQ (b:=65536) δ _ x).1 (am _);rw[Nat.pow_succ];rcases f9 d with e|e
 ·rw[e,Nat.mul_zero];exact Nat.mul_pos (Nat.pow_pos δ) δ
 ·exact b6 (Nat.mul_lt_mul_of_pos_right h e)<|Nat.mul_le_mul_left _ hd
theorem Abc(va vb:Value)(A B:Nat)(h:Hp)(RA:RdL cI 1 h [] va (iD (dg 65536 A)))(RB:RdL cI 1 h [] vb (iD (dg 65536 B)))(hA:(dg 65536 A).length<=300000)(hB:(dg 65536 B).length<=300000)(hB0:0<B):FnT Tryz.prog 72 #[va,vb] h [] (λw h' ms'=>h.le h'/\ms'=[]/\∃q r,w=.tuple #[q,r]/\RdL cI 1 h' [] q (iD (dg 65536 (A/B)))/\RdL cI 1 h' [] r (iD (dg 65536 (A%B)))):=by
 obtain⟨n,hn⟩:∃n,(dg 65536 A).length=n:=⟨_,Y⟩
 obtain⟨p,hp⟩:∃p,(dg 65536 B).length=p:=⟨_,Y⟩
 have rA:∀h',h.le h'->Rd h' [] va 1 n ((iD (dg 65536 A)).flatMap cI):=λh' q=>by have:=(RA.up q).rd;rwa [BP,hn]at this
 have oa:=RA.rd.one;have ob:=RB.rd.one;have hAn:A<65536^n:=(BQ (b:=65536) δ n A).1 ω;refine Ap func72 ntmps72 Y Y<|λw0 hw0=>?_;simp only[AR];refine Ar<|Qm Y<|Qm Y<|Bp<|Qm Y<|Qx (Aq (rA _<|BE).any Y AZ Y) Y<|Ha A8 ω (0:Int) (n:=n) Y AZ Bk Y Y Y ω ω ω ω Y Y Y<|λg14 ev m0 hev hOi=>?_;have oe:=hOi.o1;refine Qm Y<|Bp<|Qm Y<|Am<|Ac<|Ar<|Qm Y<|Qx (Aq (rA _<|BE).any Y AZ Y) Y<|Qx (oS Y) Y<|Qm Y<|Am<|Ag ?_;refine AB (λq sl h' ms'=>∃(t:Nat) (mo:Hp) (Z:List Nat) (vr:Value),t=q/\sl=[(0,va),(1,vb),(6,ev),(7,vr),(8,.w ((t:Int)-1))]/\h.le h'/\ms'=[mo]/\t<=n/\Z.length=n/\(∀a∈Z,a<65536)/\(∀j,j<t->Z.getD j 0=0)/\val 65536 Z=A/65536^t/B*65536^t/\OwnL cI 1 3 mo ev (iD Z)/\RdL cI 1 h' [] vr (iD (dg 65536 (A/65536^t%B)))) n _ ⟨n,m0,replicate n 0,_,Y,Y,BE,Y,ω,by simp,λa ha=>by rw[(List.mem_replicate.1 ha).2];decide,λj _=>by simp[List.getD,List.getElem?_replicate];split<;>rfl,by rw[Ey,fj hAn,Nat.zero_div,Nat.zero_mul],by rw[show iD (replicate n 0)=replicate n 0 by simp[iD]];exact hOi,by rw[fj hAn,Nat.zero_mod,(GZ δ).2 rfl];exact⟨Rd.nil _ _ _,A8⟩⟩ Qs ?_;rintro q sl h' ms' ⟨t,mo,Z,vr,rfl,rfl,lh,rfl,ht,hZ,hltZ,hzero,hv,hO,RR⟩;have ovr:=RR.rd.one;refine Ac<|Ar<|Qm Y<|Qm Y<|Am ?_;refine Aw Y (λhlt=>?_)<|λhlt=>?_
 ·obtain⟨t,rfl⟩:∃u,t=u+1:=⟨t-1,ω⟩
  rw[show(((t+1:Nat):Int)-1)=(t:Int) by omega];have htn:t<n:=ω
  have cA:=EB (RA.up lh) (i:=t) ω;obtain⟨a,ha⟩:∃a,A/65536^t%65536=a:=⟨_,Y⟩
  have hab:a<65536:=ω
  rw[ha]at cA;obtain⟨hs1,hs2⟩:=Xy (t:=t) hB0 ha;obtain⟨R,hR⟩:∃R,A/65536^(t+1)%B=R:=⟨_,Y⟩
  rw[hR]at hs1 hs2 RR;have hRB:R<B:=by rw[<-hR];exact Nat.mod_lt _ hB0
  obtain⟨R',hR'⟩:∃R',R*65536+a=R':=⟨_,Y⟩
  rw[hR']at hs1 hs2;have hRl:(dg 65536 R).length<=300000:=bl (JV (Nat.le_of_lt hRB)) hB;have hR'B:R'<B*65536:=ω
  have hR'l:(dg 65536 R').length<=300001:=bl (JV (Nat.le_of_lt hR'B)) (bl (Pd 65536 (am _)) ω)
  have hst:De (a::dg 65536 R)=dg 65536 R':=by
   rw[C0 (b:=65536) δ (λx hx=>by
    rcases bg.1 hx with rfl|hx
    ·exact hab
    ·exact Hn R x hx)]
   congr 1;show a+65536*val 65536 (dg 65536 R)=_;rw[F5 δ];omega
  have rR:∀ms,Rd h' ms vr 1 (dg 65536 R).length ((iD (dg 65536 R)).flatMap cI):=λms=>by have:=RR.rd.any (ms:=ms);rwa [BP]at this
  refine Ah (Ab (Ac (Ag (Ar (Qm rfl (Qm rfl (Qx (AM (t) (rA _ lh).any rfl AZ Bk rfl rfl (by omega) (by omega)) rfl (Ql rfl U3 (cA _) (Ay [_] rfl AZ Bk rfl (by rfl) rfl rfl (by omega) rfl rfl rfl (fun g26=>Qm rfl (AJ 0 (OwnL.blk (g:=g26) (el:=3) (F:=cI) (l:=iD [a]) 1 A8 rfl (by decide)) RR.any rfl AZ Bk rfl (by omega) rfl rfl rfl BT (by simp only[length_singleton,BP];omega) (by simp only[length_singleton,BP];omega) rfl rfl rfl (fun v28 m28 hO28=>?_))))))))))));have o28:=hO28.o1;refine Bt hO28 fun h2 l2 hR28=>?_;refine Qc call125 rfl (HJ v28 (a::dg 65536 R) h2 hR28 (by rw[length_cons];omega)) (fun v7 h3 ms3 l3 hF=>?_);obtain⟨rfl,rfl,R7⟩:=hF;rw[hst]at R7;have o7:=R7.rd.one;have lh2:=AD lh l2;have hcmp:=Jv v7 vb R' B h2 R7 (RB.up lh2) (by omega) (by omega);refine Qm rfl (Bp (Qm rfl (Bp (Qm rfl (Am ?_)))));refine Bv (fun sl h' ms'=>∃hi:Nat,sl=[(0,va),(1,vb),(6,ev),(7,v7),(8,.int .i64 (t:Int)),(9,.int .i64 ((0:Nat):Int)),(10,.int .i64 (hi:Int))]/\h2=h'/\ms'=[mo]/\R'<B*hi/\hi<=65536) ?_ (fun s h ms hI=>?_)
  ·refine Ac<|Ad<|Qm Y<|Qm Y<|Qx (As Y call66 Y<|hcmp _) Y<|Qm Y<|Am ?_;refine Aw Y (λhcp=>?_)<|λhcp=>?_
   ·rw[Ab9]at hcp;refine Ad<|Qm Y<|An ?_;exact AI _ ⟨1,Y,Y,Y,ω,ω⟩ Qs
   ·refine Ah ?_;exact AI _ ⟨65536,Y,Y,Y,hR'B,ω⟩ Qs
  ·obtain⟨hi,rfl,rfl,rfl,hhi,hhi2⟩:=hI;refine Ac<|Ag ?_;refine AB (λq sl h' ms'=>∃(lo hi:Nat),hi-lo=q/\sl=[(0,va),(1,vb),(6,ev),(7,v7),(8,.w (t:Int)),(9,.w (lo:Int)),(10,.w (hi:Int))]/\h2.le h'/\ms'=[mo]/\lo<hi/\hi<=65536/\B*lo<=R'/\R'<B*hi) (hi-0) _ ⟨0,hi,Y,Y,BE,Y,by(refine Nat.pos_of_ne_zero λe=>?_);subst e;omega,hhi2,ω,hhi⟩ Qs ?_;rintro q sl h' ms' ⟨lo,hi,rfl,rfl,l3,rfl,hlh,hhi2,hlo,hhi⟩;have lh3:=AD lh2 l3;refine Ac<|Ar<|Qm Y<|Qm Y<|Qx (oS Y) Y<|Qm Y<|Am ?_;refine Aw Y (λhgo=>?_)<|λhgo=>?_
   ·obtain⟨m,hm⟩:∃m,(lo+hi)/2=m:=⟨_,Y⟩
    have hmI:((lo:Int)+hi)/2=(m:Int):=ω
    have hml:lo<m/\m<hi:=ω
    refine Ah<|Ab<|Ag<|Ar<|Qm Y<|Qm Y<|Qx (oA Y) Y<|Qx (Dk (DC Y Y Y ω ω)<|aw (Value.int .i64) hmI) Y<|Qm Y<|Bp<|Qm Y<|Qm Y<|Qc call130 Y (Zs vb B m h' (RB.up lh3) ω ω)<|λvm h4 ms4 l4 hF4=>?_;obtain⟨l4',rfl,RM⟩:=hF4;have om:=RM.rd.one;have hbl:=Pd (x:=B) m ω;have hcmp:=Jv vm v7 (B*m) R' h4 RM (R7.up (AD l3 l4')) ω ω;refine Qm Y<|Qx (As Y call66 Y<|hcmp _) Y<|Qm Y<|Am ?_;refine Aw Y (λhcp=>?_)<|λhcp=>?_
    ·rw[UG]at hcp;refine Ad<|Qm Y<|Qm Y<|An<|Ai ?_;exact Ao (hi-m) _ ω ⟨m,hi,Y,Y,AD l3 l4',Y,ω,hhi2,hcp,hhi⟩ Qs
    ·rw[UG]at hcp;refine Ad<|Qm Y<|Qm Y<|An<|Ai ?_;exact Ao (m-lo) _ ω ⟨lo,m,Y,Y,AD l3 l4',Y,ω,ω,hlo,ω⟩ Qs
   ·obtain rfl:hi=lo+1:=ω
    have hq:R'/B=lo:=by
     refine(Nat.div_eq_iff hB0).2 ⟨?_,?_⟩
     ·rw[dw];exact hlo
     ·rw[Nat.mul_add,gx,dw]at hhi;omega
    have hr:R'%B=R'-B*lo:=by have:=Nat.div_add_mod R' B;rw[hq]at this;omega
    have htZ:t<Z.length:=ω
    have rE:Rd h' [mo] ev 1 n ((iD Z).flatMap cI):=by have:=(hO.rd (h:=h') (ms:=[mo]) Mh).rd;rwa [BP,hZ]at this
    refine Ax<|Aa<|Aa<|Af<|Ab<|Ar<|Qm Y<|Qm Y<|Qm Y<|Qx (BC (t) rE Y AZ Bk Y Y) Y ?_;refine D3 0 t hO Y Bk Y Y Y (by rw[BP];omega) rfl rfl<|λmo' hO'=>?_;rw[M3]at hO';refine GX<|Qm Y<|Qm Y<|Qm Y<|Qc call130 Y (Zs vb B lo h' (RB.up lh3) ω ω)<|λvm h4 ms4 l4 hF4=>?_;obtain⟨l4',rfl,RM⟩:=hF4;have om:=RM.rd.one;have hbl:=Pd (x:=B) lo ω;refine Qc call67 Y (IB v7 vm R' (B*lo) h4 (R7.up<|AD l3 l4') RM ω ω hlo)<|λv9 h5 ms5 l5 hF5=>?_;obtain⟨l5',rfl,R9⟩:=hF5;have o9:=R9.rd.one;rw[<-hr,<-hs2]at R9;have hv':=HC 65536 Z t lo htZ;rw[hzero t ω,Nat.mul_zero,Nat.add_zero,hv]at hv';refine Qm Y<|An<|Ai<|Ab<|Ad<|Qm Y<|Qx (oS Y) Y<|Qm Y<|An ?_;exact Ao t _ ω ⟨t,mo',Z.set t lo,v9,Y,Y,AD lh3 (AD l4' l5'),Y,ω,by rw[ff];exact hZ,λx hx=>(List.mem_or_eq_of_mem_set hx).elim (hltZ x) (λq=>by rw[q];omega),λj hj=>by rw[show(Z.set t lo).getD j 0=Z.getD j 0 by simp[List.getD,List.getElem?_set,show ¬t=j by omega]];exact hzero j ω,by rw[hv',hs1,hq,Nat.pow_succ,cw,Nat.mul_assoc,dw 65536,dw (65536^t) lo],hO',R9⟩ Qs
 ·obtain rfl:t=0:=ω
  rw[Nat.pow_zero,Nat.div_one,gx]at hv;rw[Nat.pow_zero,Nat.div_one]at RR;have hst:De Z=dg 65536 (A/B):=by rw[C0 (b:=65536) δ hltZ,hv]
  refine Ax<|Aa<|Aa<|Af<|Ab<|Ar<|Qm Y<|Bt hO λh2 l2 hR=>Qc call125 Y (HJ ev Z h2 hR ω)<|λr h3 ms3 l3 hF=>?_;obtain⟨rfl,rfl,RT⟩:=hF;rw[hst]at RT;have or_:=RT.rd.one;refine Qm Y<|Qm Y<|Qm Y<|Am<|Aj ?_;exact Ck Y Y Y (⟨AD lh l2,Y,_,_,Y,RT,RR.up l2⟩)
end
section
open Go.Lin Go.Wd Go.Sm Go.Ch
set_option exponentiation.threshold 4000000 in
theorem Sz.d17{x:Int}(h:Sz x):(dg 65536 x.natAbs).length<=200000:=by have h1:(A7 x.natAbs).length<=400000:=h;rw[EV]at h1;have h2:=(BQ (b:=256) δ 400000 x.natAbs).1 h1;refine(BQ (b:=65536) δ 200000 x.natAbs).2 ?_;rw[<-EN];exact b6 h2<|Nat.pow_le_pow_right δ δ
theorem Aaj(x:Int)(hx:Sz x)(h:Hp)(ms:List Hp):FnV Tryz.prog 73 #[WD x] h ms (.bool (decide (x<0))):=by
 refine DY ?_ ms;have osx:(sv (A7 x.natAbs)).oneCell'=true:=rfl;refine Ap func73 ntmps73 Y Y<|λw0 hw0=>?_;simp only[AR];refine Ar<|AK [_,_] Y Y (by rfl) Y Y Y<|λg1=>Qm Y<|Am<|AF λh1 l1 hS1=>?_;have g1_:∀h',h1.le h'->∀ms,Seg h' ms (⟨g1,0,none⟩:Addr) (Bi x):=λh' q ms=>(hS1.any).le q;have c0:∀h',h1.le h'->∀ms,Cell h' ms ((⟨g1,0,none⟩:Addr).add 0) (.bool (decide (x<0))):=λh' q ms=>((hS1 0 _ Y).any).le q;by_cases hneg:x<0
 all_goals first|rw[bq hneg]at c0 ⊢|rw[cg hneg]at c0 ⊢
 ·refine Ac<|Ad<|Qf C4 Y<|Ql Y U4 (c0 _ (BE) _)<|Qm Y<|Qg (oG Y By Az<|g1_ _ (BE) _) Y<|DS Y Y Y Y<|Qc call63 Y (EK x hx h1)<|λr h2 ms2 l2 hF=>?_;obtain⟨l2',rfl,R⟩:=hF;have or_:=R.rd.one;have rR:Rd h2 [] r 1 (dg 65536 x.natAbs).length ((iD (dg 65536 x.natAbs)).flatMap cI):=by have:=R.rd;rwa [BP]at this
  have hd0:=K4 (m:=x.natAbs);refine Qg (Aq rR.any Y AZ Y) Y<|Qg (Ci Y Y Y) Y<|Qm Y<|Qm Y<|Am<|Aj ?_;exact Al Y Y (by congr 1;exact bq ω)
 ·refine Ac<|Ad<|Qf C4 Y<|Ql Y U4 (c0 _ (BE) _)<|Qm Y<|Qk Y<|Qk Y<|Qk Y<|Qk Y<|Qm Y<|Qm Y<|Am<|Aj ?_;exact Al Y Y<|Y
theorem Abx(a b:Int)(ha:Sz a)(hb:Sz b)(hb0:b≠0)(h:Hp):FnT Tryz.prog 33 #[WD a,WD b] h [] (λr h' ms'=>h.le h'/\ms'=[]/\r=.tuple #[WD (a/b),WD (a%b),.bool true]):=by
 have osa:(sv (A7 a.natAbs)).oneCell'=true:=rfl;have osb:(sv (A7 b.natAbs)).oneCell'=true:=rfl;have osq:(sv (A7 (a/b).natAbs)).oneCell'=true:=rfl;have osr:(sv (A7 (a%b).natAbs)).oneCell'=true:=rfl;obtain⟨m,hm⟩:∃m,a.natAbs=m:=⟨_,Y⟩
 obtain⟨k,hk⟩:∃k,b.natAbs=k:=⟨_,Y⟩
 obtain⟨hd1,hd2,hd3,hd4⟩:=J6 hb0 hm hk;have hk0:0<k:=ω
 have hla:=ha.d17;have hlb:=hb.d17;rw[hm]at hla;rw[hk]at hlb;have hlq:(dg 65536 (m/k)).length<=200000:=bl (JV (Nat.div_le_self _ _)) hla;have hlr:(dg 65536 (m%k)).length<=200000:=bl (JV (Nat.mod_le _ _)) hla;have hlt:=Nat.mod_lt m hk0;refine Ap func33 ntmps33 Y Y<|λw0 hw0=>?_;simp only[AR];refine Ar<|AK [_,_] Y Y (by rfl) Y Y Y<|λg2=>AK [_,_] Y Y (by rfl) Y Y Y<|λg3=>BS [.bool false,.es] Y Az Y Y<|λg4=>BS [.bool false,.es] Y Az Y Y<|λg5=>Qm Y<|Am<|Av 2 Y λh1 l1 hS3=>Av 2 Y λh2 l2 hS2=>?_;have l02:=AD l1 l2;have s2:∀h',h2.le h'->∀ms,Seg h' ms (⟨g2,0,none⟩:Addr) (Bi a):=λh' q ms=>(hS2.any).le q;have s3:∀h',h2.le h'->∀ms,Seg h' ms (⟨g3,0,none⟩:Addr) (Bi b):=λh' q ms=>((hS3.le l2).any).le q;have c3:∀h',h2.le h'->∀ms,Cell h' ms ((⟨g3,0,none⟩:Addr).add 0) (.bool (decide (b<0))):=λh' q ms=>(((hS3.le l2) 0 _ Y).any).le q;refine Ar<|Qx (oG Y By Az<|s3 _ (BE) _) Y<|Qc call63 Y (EK b hb h2)<|λvb h3 ms3 l3 hF=>?_;obtain⟨l3',rfl,RB⟩:=hF;rw[hk]at RB;have ob:=RB.rd.one;have rB:∀ms,Rd h3 ms vb 1 (dg 65536 k).length ((iD (dg 65536 k)).flatMap cI):=λms=>by have:=RB.rd.any (ms:=ms);rwa [BP]at this
 have hd0:=K4 (m:=k);refine Qm Y<|Am<|Ac<|Ar<|Qm Y<|Qx (Aq (rB _) Y AZ Y) Y<|Qm Y<|Am ?_;refine Aw Y (λhc=>ie hc (λe=>by have:=hd0.1 ω;omega))<|λhc=>?_;refine Ah<|Ab<|Ar<|Qx (oG Y By Az<|s2 _ l3' _) Y<|Qc call63 Y (EK a ha h3)<|λva h4 ms4 l4 hF=>?_;obtain⟨l4',rfl,RA⟩:=hF;rw[hm]at RA;have oa:=RA.rd.one;refine Qm Y<|Qc call72 Y (Abc va vb m k h4 RA (RB.up l4') ω ω hk0)<|λw h5 ms5 l5 hF=>?_;obtain⟨l5',rfl,vq,vr,rfl,RQ,RR⟩:=hF;have oq:=RQ.rd.one;have or_:=RR.rd.one;have l35:=AD l4' l5';have l25:=AD l3' l35;have l05:=AD l02 l25;have rR:∀ms,Rd h5 ms vr 1 (dg 65536 (m%k)).length ((iD (dg 65536 (m%k))).flatMap cI):=λms=>by have:=RR.rd.any (ms:=ms);rwa [BP]at this
 have hr0:=K4 (m:=m%k);refine Qm Y<|Qm Y<|Qm Y<|Qm Y<|Qm Y<|Am ?_;refine Bv (λsl h' ms'=>∃(q' r':Value) (L:List Nat),sl=[(2,.pt g2),(3,.pt g3),(4,.pt g4),(5,.pt g5),(8,q'),(9,r')]/\h5.le h'/\ms'=[BI g5 33 (Bi 0),BI g4 33 (Bi 0)]/\RdL cI 1 h' [] q' (iD L)/\(∀x∈L,x<65536)/\val 65536 L=(a/b).natAbs/\L.length<=800001/\RdL cI 1 h' [] r' (iD (dg 65536 (a%b).natAbs))) ?_<|λs h ms hI=>?_
 ·have hng:=Aaj a ha;by_cases hneg:a<0
  all_goals first|rw[bq hneg]at hng|rw[cg hneg]at hng
  ·refine Ac<|Ad<|Qx (oG Y By Az<|s2 _ l25 _) Y<|Qx (As Y call73 Y<|hng _ _) Y<|Qm Y<|Qg (Au Y Y) Y<|Qg (Aq (rR _) Y AZ Y) Y<|Qg (Ci Y Y Y) Y<|Qm Y<|Am ?_;refine Aw Y (λhr=>?_)<|λhr=>?_
   ·have hmk:m%k≠0:=λe=>by have:=hr0.2 e;omega
    rw[ah ⟨hneg,hmk⟩]at hd1 hd3;refine Ar<|Qm Y<|Ay [_] Y AZ Bk Y (by rfl) Y Y ω Y Y Y<|λg32=>Bt (OwnL.blk (g:=g32) (el:=3) (F:=cI) (l:=iD (dg 65536 1)) 1 A8 Y δ) λh6 l6 hR6=>Qc call65 Y (QG vq _ (m/k) 1 h6 (RQ.up l6) hR6 ω δ)<|λq' h7 ms7 l7 hF=>?_;obtain⟨l7',rfl,L,RL,hLl,hLv,hLn⟩:=hF;have oL_:=RL.rd.one;refine Qm Y<|GX<|Qm Y<|Qm Y<|Qc call67 Y (IB vb vr k (m%k) h7 (RB.up<|AD l35<|AD l6 l7') (RR.up<|AD l6 l7') ω ω ω)<|λr' h8 ms8 l8 hF=>?_;obtain⟨l8',rfl,R8⟩:=hF;have o8:=R8.rd.one;refine Qm Y<|An ?_;exact AI _ ⟨q',r',L,Y,AD l6 (AD l7' l8'),Y,RL.up l8',hLl,by rw[hLv,hd1],hLn,by rw[hd3];exact R8⟩ Qs
   ·have hmk:m%k=0:=by have:=hr0.1 ω;exact this
    rw[ae (λe=>e.2 hmk)]at hd1 hd3;refine Ah ?_;exact AI _ ⟨vq,vr,dg 65536 (m/k),Y,BE,Y,RQ,Hn _,by rw[F5 δ,hd1],ω,by rw[hd3];exact RR⟩ Qs
  ·rw[ae (λe=>hneg e.1)]at hd1 hd3;refine Ar<|Qx (oG Y By Az<|s2 _ l25 _) Y<|Qx (As Y call73 Y<|hng _ _) Y<|Qm Y<|Qk Y<|Qk Y<|Qk Y<|Qm Y<|Am<|AL Y<|Ah ?_;exact AI _ ⟨vq,vr,dg 65536 (m/k),Y,BE,Y,RQ,Hn _,by rw[F5 δ,hd1],ω,by rw[hd3];exact RR⟩ Qs
 ·obtain⟨q',r',L,rfl,l6,rfl,RL,hLl,hLv,hLn,RR'⟩:=hI;have l26:=AD l25 l6;have oL_:=RL.rd.one;have o8:=RR'.rd.one;have hW1:WS (decide (decide (a<0)≠decide (b<0))) (a/b).natAbs=WD (a/b):=Mj hd2;have hW2:WS false (a%b).natAbs=WD (a%b):=Mj λ_=>(cg ω).symm
  have hl8:(dg 65536 (a%b).natAbs).length<=400000:=by
   have h1:(a%b).natAbs<=k:=by rw[hd3];split<;>omega
   exact bl (JV h1) ω
  refine Ac<|AS (n:=12) (bs:=[ig,ig,ig,ig,ig,ig,ii,ig,ii,ii,ii,ii]) [ig,ig,ig,ig,ig,ig,ii,ig] CC κ κ Y Y<|Qp Y (oG Y By Az<|s2 _ l26 _)<|Qp Y (As Y call73 Y<|Aaj a ha _ _)<|QF C4 Y<|QL Y U4 (c3 _ l26 _)<|Qp Y (OF Y U4 Y Y)<|Qq Y<|Qq Y ?_;unfold Dd;simp only[bh,ap];refine Qo 6 Y<|AC (pre:=[]) Y call64 Y (Fl (decide<|decide (a<0)≠decide (b<0)) q' L (a/b).natAbs h RL ω hLl hLv) Y Y Y Y<|λw6 h7 ms7 l7 hF=>?_;obtain⟨l7',rfl,rfl⟩:=hF;rw[hW1];refine Qa<|Qo 8 Y<|AC (pre:=[]) Y call64 Y (Fl false r' (dg 65536 (a%b).natAbs) (a%b).natAbs h7 (RR'.up l7') ω (Hn _)<|F5 δ _) Y Y Y Y<|λw8 h8 ms8 l8 hF=>?_;obtain⟨l8',rfl,rfl⟩:=hF;have l78:=AD l7' l8';rw[hW2];refine Qa<|Qo 9 Y ?_;refine Sa 1 [_,_] Az Y (by simp[osa,osb,osq,osr,B8,ob,oa,oq,or_,oL_,o8]) ?_;refine Qa<|Qo 10 Y ?_;refine Sa 0 [_,_] Az Y (by simp[osa,osb,osq,osr,B8,ob,oa,oq,or_,oL_,o8]) ?_;refine Qa<|Qo 11 Y<|Qm Y<|Qa<|Qe<|Ab<|Aj<|Es 1 Y ?_;exact RD (vs:=[_,_]) (vs2:=[_,_]) Y Y Y Y By Y Az Y Y ⟨AD l05<|AD l6 l78,Y,Y⟩
theorem AdF(a b:Int)(ha:Sz a)(hb:Sz b)(hb0:b≠0)(h:Hp)(ms:List Hp):FnV Tryz.prog 33 #[WD a,WD b] h ms (.tuple #[WD (a/b),WD (a%b),.bool true]):=DY ((Abx a b ha hb hb0 h).mono λ_ _ _ h=>h.2.2) ms
theorem Sz.le{x y:Int}(h:Sz x)(e:y.natAbs<=x.natAbs):Sz y:=by have h1:(A7 x.natAbs).length<=400000:=h;show(A7 y.natAbs).length<=400000;rw[EV]at h1 ⊢;exact bl (DJ (b:=256) δ e) h1
theorem AaX(m a:Int)(Sm_:Sz m)(ha:Sz a)(h:Hp)(ms:List Hp):FnV Tryz.prog 112 #[WD m,WD a] h ms (.bool (decide (m∣a))):=by
 refine DY ?_ ms;have osm:(sv (A7 m.natAbs)).oneCell'=true:=rfl;have osa:(sv (A7 a.natAbs)).oneCell'=true:=rfl;have osq:(sv (A7 (a/m).natAbs)).oneCell'=true:=rfl;have osr:(sv (A7 (a%m).natAbs)).oneCell'=true:=rfl;refine Ap func112 ntmps112 Y Y<|λw0 hw0=>?_;simp only[AR];refine Ar<|AK [_,_] Y Y (by rfl) Y Y Y<|λg2=>AK [_,_] Y Y (by rfl) Y Y Y<|λg3=>Qm Y<|Am<|AF λh1 l1 hS3=>AF λh2 l2 hS2=>?_;have g3:∀ms,Seg h2 ms (⟨g3,0,none⟩:Addr) (Bi a):=λms=>(hS3.le l2).any;have g2:∀ms,Seg h2 ms (⟨g2,0,none⟩:Addr) (Bi m):=λms=>hS2.any;refine Ac<|Ar<|Qx (oG Y By Az<|g2 _) Y<|Qx (As Y call55 Y<|FK m Sm_ _ _) Y<|Qm Y<|Am ?_;refine Aw Y (λh0=>?_)<|λh0=>?_
 ·have h0':m=0:=Int.sign_eq_zero_iff_zero.1 h0;refine Ar<|Qx (oG Y By Az<|g3 _) Y<|Qx (As Y call55 Y<|FK a ha _ _) Y<|Qm Y<|Qm Y<|Am<|Aj<|Ae ?_;exact Al Y Y<|aw Value.bool<|fa.2 (by rw[h0',Int.zero_dvd];exact Int.sign_eq_zero_iff_zero)
 ·have h0':m≠0:=λe=>h0 (by rw[e];rfl);have Sr:Sz (a%m):=Sm_.le (HZ h0');refine Ah<|Ab<|Ar<|Qx (oG Y By Az<|g3 _) Y<|Qx (oG Y By Az<|g2 _) Y<|Qx (As Y call33 Y<|AdF a m ha Sm_ h0' _ _) Y<|Qm Y<|Qm Y<|Qm Y<|Qm Y<|BS [.bool false,.es] Y Az Y Y<|λg5=>BS [.bool false,.es] Y Az Y Y<|λg6=>?_;refine Sa 1 [_,_] Az Y (by simp[osm,osa,osq,osr]) ?_;refine Sa 0 [_,_] Az Y (by simp[osm,osa,osq,osr]) ?_;refine Qm Y<|Bp<|Qx (oG Y By Az<|Seg.blk 0 Y) Y<|Qx (As Y call55 Y<|FK (a%m) Sr _ _) Y<|Qm Y<|Qm Y<|Am<|Aj ?_;exact Al Y Y<|aw Value.bool<|fa.2 (by rw[Int.dvd_iff_emod_eq_zero];exact Int.sign_eq_zero_iff_zero)
theorem Yf(m a:Int)(Sm_:Sz m)(ha:Sz a)(h:Hp)(ms:List Hp):FnV Tryz.prog 57 #[WD m,WD a] h ms (.bool (decide (m∣a))):=by refine DY ?_ ms;have osm:(sv (A7 m.natAbs)).oneCell'=true:=rfl;have osa:(sv (A7 a.natAbs)).oneCell'=true:=rfl;refine Ap func57 ntmps57 Y Y<|λw0 hw0=>?_;simp only[AR];refine Ar<|AK [_,_] Y Y (by rfl) Y Y Y<|λg2=>AK [_,_] Y Y (by rfl) Y Y Y<|λg3=>Qm Y<|Am<|AF λh1 l1 hS3=>AF λh2 l2 hS2=>?_;have g3:∀ms,Seg h2 ms (⟨g3,0,none⟩:Addr) (Bi a):=λms=>(hS3.le l2).any;have g2:∀ms,Seg h2 ms (⟨g2,0,none⟩:Addr) (Bi m):=λms=>hS2.any;refine Ar<|Qx (oG Y By Az<|g2 _) Y<|Qx (oG Y By Az<|g3 _) Y<|Qx (As Y call112 Y<|AaX m a Sm_ ha _ _) Y<|Qm Y<|Am<|Aj ?_;exact Al Y Y<|Y
theorem Gj{h:Hp}{ms:List Hp}{p:Addr}{t:Tm}(S:Seg h ms p (DQ t)):Seg h ms (p.add 1) (Bi t.2):=λi v hv=>by
 have:=S (1+i) v (by rw[Nat.add_comm];exact hv)
 rwa [BF]
theorem Gq{h:Hp}{ms:List Hp}{p:Addr}{t:Tm}(S:Seg h ms p (DQ t)):Cell h ms (p.add 0) (.int .i64 t.1):=S 0 _ rfl
theorem Up(v:Value)(l:List Tm)(c:Int)(h:Hp)(R:ChR v h l)(ms:List Hp):FnV Tryz.prog 71 #[v,.int .i64 c] h ms (WD (cf l c)):=by
 refine DY ?_ ms;obtain⟨n,hn⟩:∃n,l.length=n:=⟨_,Y⟩
 have hnb:n<=100000:=hn ▸ R.len;have rL:Rd h [] v 3 n (l.flatMap DQ):=by have:=R.rd.rd;rwa [hn]at this
 have ov:=rL.one;refine Ap func71 ntmps71 Y Y<|λw0 hw0=>?_;simp only[AR];refine Ar<|BS [.bool false,.es] Y Az Y Y<|λg4=>Bp<|BS [.bool false,.es] Y Az Y Y<|λg5=>Am<|Ac<|Ar<|Qm Y<|Am<|Ag ?_;refine AB (λq sl h' ms'=>∃(k:Nat),n-k=q/\sl=[(0,v),(1,.w c),(4,.pt g4),(5,.pt g5),(6,.w (k:Int))]/\h=h'/\ms'=[BI g5 33 (Bi (cf (l.take k) c)),BI g4 33 (Bi 0)]/\k<=n) (n-0) _ ⟨0,Y,Y,Y,Y,ω⟩ Qs ?_;rintro q sl h' ms' ⟨k,rfl,rfl,rfl,rfl,hk⟩;obtain⟨x,hx⟩:∃x,cf (l.take k) c=x:=⟨_,Y⟩
 have hxs:Sz x:=by rw[<-hx];exact KM (bl (CW _ _)<|F8 l k) R.abs δ
 have osx:(sv (A7 x.natAbs)).oneCell'=true:=rfl;rw[hx];refine Ac<|Ar<|Qm Y<|Qm Y<|Qx (Aq rL.any Y CN Y) Y<|Qm Y<|Am ?_;refine Aw Y (λhlt=>?_)<|λhlt=>?_
 ·have hkn:k<n:=ω
  have hkl:k<l.length:=ω
  obtain⟨t,ht⟩:∃t,l[k]=t:=⟨_,Y⟩
  have htm:t∈l:=ht ▸ ao hkl;have gE:∀ms,Seg h ms ((AH v).add (k*3)) (DQ t):=λms=>by rw[<-ht];exact(R.rd.any (ms:=ms)).seg hkl
  have e1:cf (l.take (k+1)) c=x+if t.1=c then t.2 else 0:=by rw[ak hkl,ht,Ej,hx,CI,FB];omega
  refine Ah<|Ab<|Ac<|Ag<|Ar<|Qm Y<|Qm Y<|Qx (BC (k) rL.any Y CN Co Y Y) Y<|Qf Ga Y<|Ql Y U3 (Gq<|gE _)<|Qm Y<|Qm Y<|Am ?_;refine Aw Y (λhc=>?_)<|λhc=>?_
  ·have ost:(sv (A7 t.2.natAbs)).oneCell'=true:=rfl;have oss:(sv (A7 (x+t.2).natAbs)).oneCell'=true:=rfl;rw[ah hc]at e1;refine AS (n:=8) (bs:=[ii,ig,ig,ig,ig,ig,ii,ii]) [ii,ig,ig,ig,ig,ig] CC κ κ Y Y<|Qq Y<|Qq Y<|Qp Y (BC (k) rL.any Y CN Co Y Y)<|QF GY Y<|Qp Y (oG Y By Az<|Gj<|gE _) ?_;unfold Dd;simp only[bh,ap];refine Qo 0 Y<|Qx (oG Y By Az<|Seg.blk 0 Y) Y<|Qw<|Qo 6 Y<|Qx (As Y call22 Y<|Kv x t.2 hxs (R.sz htm) _ _) Y<|Qw<|Qo 7 Y ?_;refine Sa 0 [_,_] Az Y (by simp[ov,B8,osx,ost,oss]) ?_;refine Qw<|Qe<|Ai<|Ab<|Ad<|Qm Y<|Qx (oA Y) Y<|Qm Y<|An ?_;exact Ao (n-(k+1)) _ ω ⟨k+1,Y,Y,Y,by rw[e1];rfl,ω⟩ Qs
  ·rw[ae hc,fz]at e1;refine Ah<|Ai<|Ab<|Ad<|Qm Y<|Qx (oA Y) Y<|Qm Y<|An ?_;exact Ao (n-(k+1)) _ ω ⟨k+1,Y,Y,Y,by rw[e1],ω⟩ Qs
 ·obtain rfl:k=n:=ω
  rw[show l.take k=l from take_of_length_le ω]at hx;refine Ax<|Aa<|Aa<|Af<|Ab<|Ar<|Qx (oG Y By Az<|Seg.blk 0 Y) Y ?_;refine Sa 1 [_,_] Az Y (by simp[ov,B8,osx]) ?_;refine Am<|Aj<|AQ ?_;exact Bx (vs:=[_,_]) 0 Y Y By Y Az Y Y ((by rw[hx];rfl))
def FL(l:List Tm)(k d:Nat)(c n:Int):List Tm:=l.take k++(if n≠0 then [(c,n)] else [])++l.drop (k+d)
theorem AdV(v:Value)(l:List Tm)(c x:Int)(h:Hp)(R:ChR v h l)(hx:Sz x)(hc:Cd c)(hs:∀t∈l,Sz (t.2+x)) :
  FnT Tryz.prog 62 #[v,.w c,WD x] h [] (λr h' ms'=>h.le h'/\ms'=[]/\∃k,k<=l.length/\(∀j (hj:j<l.length),j<k->l[j].1<c)/\((∃hk:k<l.length,l[k].1=c/\RdL DQ 3 h' [] r (FL l k 1 c (l[k].2+x)))\/((∀hk:k<l.length,c<l[k].1)/\RdL DQ 3 h' [] r (FL l k 0 c x)))):=by
 obtain⟨n,hn⟩:∃n,l.length=n:=⟨_,Y⟩
 have hnb:n<=100000:=hn ▸ R.len;have rL:Rd h [] v 3 n (l.flatMap DQ):=by have:=R.rd.rd;rwa [hn]at this
 have ov:=rL.one;have osx:(sv (A7 x.natAbs)).oneCell'=true:=rfl;refine Ap func62 ntmps62 Y Y<|λw0 hw0=>?_;simp only[AR];refine Ar<|AK [_,_] Y Y (by rfl) Y Y Y<|λg5=>Qm Y<|Bp<|Qm Y<|Am ?_;refine Bv (λsl h' ms'=>∃k:Nat,sl=[(0,v),(1,.w c),(5,.pt g5),(7,.w (k:Int))]/\h=h'/\ms'=[BI g5 33 (Bi x)]/\k<=n/\(∀j (hj:j<l.length),j<k->l[j].1<c)/\(∀hk:k<l.length,¬l[k].1<c)) ?_<|λs h ms hI=>?_
 ·refine Ag ?_;refine AB (λq sl h' ms'=>∃(k:Nat),n-k=q/\sl=[(0,v),(1,.w c),(5,.pt g5),(7,.w (k:Int))]/\h=h'/\ms'=[BI g5 33 (Bi x)]/\k<=n/\(∀j (hj:j<l.length),j<k->l[j].1<c)) (n-0) _ ⟨0,Y,Y,Y,Y,ω,λj _ hj=>ω⟩ Qs ?_;rintro q sl h' ms' ⟨k,rfl,rfl,rfl,rfl,hk,hall⟩;refine Ac<|Ar<|Qm Y<|Qm Y<|Qx (Aq rL.any Y CN Y) Y<|Qm Y<|Qm Y ?_;refine AU (t:=14) Y (λhlt=>?_)<|λhlt=>?_
  ·have hkl:k<l.length:=ω
   have gE:∀ms,Seg h ms ((AH v).add (k*3)) (DQ l[k]):=λms=>(R.rd.any (ms:=ms)).seg hkl;refine Qg (Au Y Y) Y<|Qg (Au Y Y) Y<|Qg (BC (k) rL.any Y CN Co Y Y) Y<|Qg (oF Ga Y) Y<|Qg (oL Y U3<|Gq<|gE _) Y<|Qg (Au Y Y) Y<|Qg (Dy Y Y Y) Y<|Qm Y<|Am ?_;refine Aw Y (λhlc=>?_)<|λhlc=>?_
   ·refine Ah<|Ab<|Ag<|Ad<|Qm Y<|Qx (oA Y) Y<|Qm Y<|An<|Ai ?_;exact Ao (n-(k+1)) _ ω ⟨k+1,Y,Y,Y,Y,ω,λj hj hjk=>by rcases (ω:j<k\/j=k) with q|rfl;exact hall j hj q;exact hlc⟩ Qs
   ·refine Ax<|Aa<|Aa<|Af ?_;exact AI _ ⟨k,Y,Y,Y,hk,hall,λ_=>hlc⟩ Qs
  ·refine Qk Y<|Qk Y<|Qk Y<|Qk Y<|Qk Y<|Qk Y<|Qk Y<|Qm Y<|Am<|AL Y<|Ax<|Aa<|Aa<|Af ?_;exact AI _ ⟨k,Y,Y,Y,hk,hall,λq=>ie q ω⟩ Qs
 ·obtain⟨k,rfl,rfl,rfl,hk,hall,hge⟩:=hI
  have R1:RdL DQ 3 h [] (CP 3 v 0 k) (l.take k):=by
   have:=R.rd.sub_ (i:=0) (j:=k) ω ω
   rwa [List.drop_zero,Nat.sub_zero]at this
  refine Ar<|Qm Y<|Am<|BV<|Ar<|Qm Y<|Qm Y<|Qm Y<|Qx (DL (k) rL.any Y CN Co Y Y ω ω) Y<|AJ 0 (OwnL.nil EC) R1.any Y CN Co Y ω Y Y Y DO (by simp only[ee,ay];omega) (by simp only[ee,ay];omega) rfl rfl rfl<|λv8 mo hO=>?_;rw[ap]at hO;have o8:=hO.o1;refine Qm Y<|Bp<|Qm Y<|Qm Y<|Qx (C8 (k) rL.any Y CN Co Y Y ω ω) Y<|Qm Y<|Am ?_
  have R9:RdL DQ 3 h [] (CP 3 v k n) (l.drop k):=by
   have:=R.rd.sub_ (i:=k) (j:=n) ω ω
   rwa [take_of_length_le (by rw[bw];omega)]at this
  have h9l:(l.drop k).length=n-k:=by rw[bw,hn]
  have r9:Rd h [] (CP 3 v k n) 3 (n-k) ((l.drop k).flatMap DQ):=by have:=R9.rd;rwa [h9l]at this
  refine Ac<|Ar<|Qm Y<|Qx (Aq r9.any Y CN Y) Y<|Qm Y<|Qm Y ?_;refine AU (t:=36) Y (λhlen=>?_)<|λhlen=>?_
  ·have hkl:k<l.length:=ω
   obtain⟨t,ht⟩:∃t,l[k]=t:=⟨_,Y⟩
   have htm:t∈l:=ht ▸ ao hkl;have hd0:(l.drop k)[0]'ω=t:=by rw[List.getElem_drop];exact ht
   have gE:∀ms,Seg h ms ((AH (CP 3 v k n)).add (0*3)) (DQ t):=λms=>by
    have:=(R9.any (ms:=ms)).seg (j:=0) ω
    rwa [hd0]at this
   refine Qg (Au Y Y) Y<|Qg (BC (0) r9.any Y CN Co Y Y) Y<|Qg (oF Ga Y) Y<|Qg (oL Y U3<|Gq<|gE _) Y<|Qg (Au Y Y) Y<|Qg (Cq Y Y Y) Y<|Qm Y<|Am ?_;refine Aw Y (λheq=>?_)<|λheq=>?_
   ·have ost:(sv (A7 t.2.natAbs)).oneCell'=true:=rfl;have oss:(sv (A7 (t.2+x).natAbs)).oneCell'=true:=rfl;refine Ac<|AS (n:=7) (bs:=[ig,ig,ig,ig,ii,ii,ii]) [ig,ig,ig,ig] CC κ κ Y Y<|Qq Y<|Qp Y (BC (0) r9.any Y CN Co Y Y)<|QF GY Y<|Qp Y (oG Y By Az<|Gj<|gE _) ?_;unfold Dd;simp only[bh,ap];refine Qo 4 Y<|Qx (oG Y By Az<|Seg.blk 1 Y) Y<|Qw<|Qo 5 Y<|Qx (As Y call22 Y<|Kv t.2 x (R.sz htm) hx _ _) Y<|Qw<|Qo 6 Y ?_;refine Sa 1 [_,_] Az Y (by simp[ov,osx,B8,o8,ost,oss]) ?_;refine Qw<|Qe ?_
    have R10:RdL DQ 3 h [] (CP 3 (CP 3 v k n) 1 (n-k)) (l.drop (k+1)):=by
     have:=R9.sub_ (i:=1) (j:=n-k) ω ω
     rwa [List.drop_drop,take_of_length_le (by rw[bw];omega)]at this
    have h10l:(l.drop (k+1)).length=n-k-1:=by rw[bw];omega
    have r10:Rd h [] (CP 3 (CP 3 v k n) 1 (n-k)) 3 (n-k-1) ((l.drop (k+1)).flatMap DQ):=by have:=R10.rd;rwa [h10l]at this
    refine Ab<|Ad<|Qm Y<|Qx (C8 (1) r9.any Y CN Co Y Y ω ω) Y<|Qm Y<|Am ?_;obtain⟨xq,hxqe⟩:∃xq,t.2+x=xq:=⟨_,Y⟩
    have hxq:Sz xq:=hxqe ▸ hs t htm;rw[hxqe];have osq:(sv (A7 xq.natAbs)).oneCell'=true:=rfl;have osq0:(sv (A7 (xq+0).natAbs)).oneCell'=true:=rfl;have o9:=R10.rd.one;refine Ac<|Ar<|Qx (oG Y By Az<|Seg.blk 1 Y) Y<|Qx (As Y call55 Y<|FK xq hxq _ _) Y<|Qm Y<|Am ?_;refine Aw Y (λhnz=>?_)<|λhnz=>?_
    ·have hq0:xq≠0:=λe=>hnz (by rw[e];rfl);refine Ad<|Qm Y<|Qm Y<|Qx (oG Y By Az<|Seg.blk 1 Y) Y<|Qx (AN Jp [.bool false,.es] [] [_,_] Y Az Y Y Qt Y) Y ?_;refine Qx (As Y call22 Y<|Kv xq 0 hxq (by unfold Sz;decide) _ _) Y ?_;refine Qx (AN WX [.w 0,.bool false,.es] [(0,_),(1,_)] [_,_,_] Y Co Y Y Qt Y) Y<|Ay [_,_,_] Y CN Co Y (by rfl) Y Y ω Y Y Y<|λg61=>AJ 1 hO (RdL.one EC (x:=((c,xq+0):Tm)) Mh Y) Y CN Co Y ω Y Y Y DO (by simp only[ab,ay];omega) (by simp only[ab,ay];omega) rfl rfl rfl<|λv9 mo9 hO9=>?_;have o99:=hO9.o1;refine Qm Y<|Bp<|Qm Y<|Qm Y<|AJ 1 hO9 (R10).any Y CN Co Y ω Y Y Y DO (by simp only[af,ab,ay,bw];omega) (by simp only[af,ab,ay,bw];omega) rfl rfl rfl<|λvA moA hOA=>?_;have oA_:=hOA.o1;refine Qm Y<|Am<|Aj<|AQ<|Dg hOA λh2 l2 hR2=>AQ ?_;rw[show l.take k++[((c,xq+0):Tm)]++l.drop (k+1)=FL l k 1 c xq by unfold FL;rw[ah hq0,fz]<;>rfl]at hR2;exact Al Y Y (⟨l2,Y,k,ω,hall,.inl ⟨hkl,by rw[ht];exact heq,by rw[ht,hxqe];exact hR2⟩⟩)
    ·have hq0:xq=0:=Int.sign_eq_zero_iff_zero.1 (Classical.not_not.1 hnz);refine Ah (Ab (Ar (Qm rfl (Qm rfl (AJ 0 hO (R10).any rfl CN Co rfl (by omega) rfl rfl rfl DO (by simp only[length_append,length_take,length_drop];omega) (by simp only[length_append,length_take,length_drop];omega) rfl rfl rfl (fun vA moA hOA=>?_))))));have oA_:=hOA.o1;refine Qm rfl (Am (Aj (Dg hOA fun h2 l2 hR2=>(AQ ?_))));rw[show l.take k++l.drop (k+1)=FL l k 1 c xq by unfold FL;rw[if_neg (fun e=>e hq0),append_nil]<;>rfl]at hR2;exact Al rfl rfl (⟨l2,rfl,k,by omega,hall,.inl ⟨hkl,by rw[ht];exact heq,by rw[ht,hxqe];exact hR2⟩⟩)
   ·have hgt:∀hk:k<l.length,c<l[k].1:=λq=>by have:=hge q;rw[ht]at this ⊢;omega
    obtain⟨xq,hxqe⟩:∃xq,x=xq:=⟨_,Y⟩
    have hxq:Sz xq:=hxqe ▸ hx;subst hxqe;refine Ah<|Ab ?_;have osq:(sv (A7 x.natAbs)).oneCell'=true:=rfl;have osq0:(sv (A7 (x+0).natAbs)).oneCell'=true:=rfl;have o9:=R9.rd.one;refine Ac<|Ar<|Qx (oG Y By Az<|Seg.blk 1 Y) Y<|Qx (As Y call55 Y<|FK x hx _ _) Y<|Qm Y<|Am ?_;refine Aw Y (λhnz=>?_)<|λhnz=>?_
    ·have hq0:x≠0:=λe=>hnz (by rw[e];rfl);refine Ad<|Qm Y<|Qm Y<|Qx (oG Y By Az<|Seg.blk 1 Y) Y<|Qx (AN Jp [.bool false,.es] [] [_,_] Y Az Y Y Qt Y) Y ?_;refine Qx (As Y call22 Y<|Kv x 0 hx (by unfold Sz;decide) _ _) Y ?_;refine Qx (AN WX [.w 0,.bool false,.es] [(0,_),(1,_)] [_,_,_] Y Co Y Y Qt Y) Y<|Ay [_,_,_] Y CN Co Y (by rfl) Y Y ω Y Y Y<|λg61=>AJ 1 hO (RdL.one EC (x:=((c,x+0):Tm)) Mh Y) Y CN Co Y ω Y Y Y DO (by simp only[ab,ay];omega) (by simp only[ab,ay];omega) rfl rfl rfl<|λv9 mo9 hO9=>?_;have o99:=hO9.o1;refine Qm Y<|Bp<|Qm Y<|Qm Y<|AJ 1 hO9 (R9).any Y CN Co Y ω Y Y Y DO (by simp only[af,ab,ay,bw];omega) (by simp only[af,ab,ay,bw];omega) rfl rfl rfl<|λvA moA hOA=>?_;have oA_:=hOA.o1;refine Qm Y<|Am<|Aj<|AQ<|Dg hOA λh2 l2 hR2=>AQ ?_;rw[show l.take k++[((c,x+0):Tm)]++l.drop k=FL l k 0 c x by unfold FL;rw[ah hq0,fz]<;>rfl]at hR2;exact Al Y Y (⟨l2,Y,k,ω,hall,.inr ⟨hgt,hR2⟩⟩)
    ·have hq0:x=0:=Int.sign_eq_zero_iff_zero.1 (Classical.not_not.1 hnz);refine Ah (Ab (Ar (Qm rfl (Qm rfl (AJ 0 hO (R9).any rfl CN Co rfl (by omega) rfl rfl rfl DO (by simp only[length_append,length_take,length_drop];omega) (by simp only[length_append,length_take,length_drop];omega) rfl rfl rfl (fun vA moA hOA=>?_))))));have oA_:=hOA.o1;refine Qm rfl (Am (Aj (Dg hOA fun h2 l2 hR2=>(AQ ?_))));rw[show l.take k++l.drop k=FL l k 0 c x by unfold FL;rw[if_neg (fun e=>e hq0),append_nil]<;>rfl]at hR2;exact Al rfl rfl (⟨l2,rfl,k,by omega,hall,.inr ⟨hgt,hR2⟩⟩)
  ·have hgt:∀hk:k<l.length,c<l[k].1:=λq=>ie q ω;refine Qk Y<|Qk Y<|Qk Y<|Qk Y<|Qk Y<|Qk Y<|Qm Y<|Am<|AL Y<|Ah<|Ab ?_;have osq:(sv (A7 x.natAbs)).oneCell'=true:=rfl;have osq0:(sv (A7 (x+0).natAbs)).oneCell'=true:=rfl;have o9:=R9.rd.one;refine Ac<|Ar<|Qx (oG Y By Az<|Seg.blk 1 Y) Y<|Qx (As Y call55 Y<|FK x hx _ _) Y<|Qm Y<|Am ?_;refine Aw Y (λhnz=>?_)<|λhnz=>?_
   ·have hq0:x≠0:=λe=>hnz (by rw[e];rfl);refine Ad<|Qm Y<|Qm Y<|Qx (oG Y By Az<|Seg.blk 1 Y) Y<|Qx (AN Jp [.bool false,.es] [] [_,_] Y Az Y Y Qt Y) Y ?_;refine Qx (As Y call22 Y<|Kv x 0 hx (by unfold Sz;decide) _ _) Y ?_;refine Qx (AN WX [.w 0,.bool false,.es] [(0,_),(1,_)] [_,_,_] Y Co Y Y Qt Y) Y<|Ay [_,_,_] Y CN Co Y (by rfl) Y Y ω Y Y Y<|λg61=>AJ 1 hO (RdL.one EC (x:=((c,x+0):Tm)) Mh Y) Y CN Co Y ω Y Y Y DO (by simp only[ab,ay];omega) (by simp only[ab,ay];omega) rfl rfl rfl<|λv9 mo9 hO9=>?_;have o99:=hO9.o1;refine Qm Y<|Bp<|Qm Y<|Qm Y<|AJ 1 hO9 (R9).any Y CN Co Y ω Y Y Y DO (by simp only[af,ab,ay,bw];omega) (by simp only[af,ab,ay,bw];omega) rfl rfl rfl<|λvA moA hOA=>?_;have oA_:=hOA.o1;refine Qm Y<|Am<|Aj<|AQ<|Dg hOA λh2 l2 hR2=>AQ ?_;rw[show l.take k++[((c,x+0):Tm)]++l.drop k=FL l k 0 c x by unfold FL;rw[ah hq0,fz]<;>rfl]at hR2;exact Al Y Y (⟨l2,Y,k,ω,hall,.inr ⟨hgt,hR2⟩⟩)
   ·have hq0:x=0:=Int.sign_eq_zero_iff_zero.1 (Classical.not_not.1 hnz);refine Ah (Ab (Ar (Qm rfl (Qm rfl (AJ 0 hO (R9).any rfl CN Co rfl (by omega) rfl rfl rfl DO (by simp only[length_append,length_take,length_drop];omega) (by simp only[length_append,length_take,length_drop];omega) rfl rfl rfl (fun vA moA hOA=>?_))))));have oA_:=hOA.o1;refine Qm rfl (Am (Aj (Dg hOA fun h2 l2 hR2=>(AQ ?_))));rw[show l.take k++l.drop k=FL l k 0 c x by unfold FL;rw[if_neg (fun e=>e hq0),append_nil]<;>rfl]at hR2;exact Al rfl rfl (⟨l2,rfl,k,by omega,hall,.inr ⟨hgt,hR2⟩⟩)
theorem U6(l:List Tm)(k:Nat):Bf l=Bf (l.take k)+Bf (l.drop k):=by rw[<-Bn,dp]
theorem YK(c n:Int):Bf (if n≠0 then [((c,n):Tm)] else [])<=n.natAbs:=by
 split
 ·simp[Bf]
 ·simp[Bf]
theorem Ri(l:List Tm)(k d:Nat)(c n:Int)(hk:k<=l.length):(FL l k d c n).length<=l.length+1:=by unfold FL;rw[af,af,ay,bw];split<;>simp<;>omega
def CanV(f:Int->Int)(A N:Nat)(r:Value)(h:Hp):Prop:=∃l,CanL l f/\ChR r h l/\Bf l<=A/\l.length<=N
theorem CanV.up{f:Int->Int}{A N:Nat}{r:Value}{h h':Hp}(C:CanV f A N r h)(q:h.le h'):CanV f A N r h':=by obtain⟨l,c,R,a,b⟩:=C;exact⟨l,c,R.up q,a,b⟩
theorem Qj(v:Value)(l:List Tm)(f:Int->Int)(c x:Int)(h:Hp)(R:ChR v h l)(C:CanL l f)(hc:Cd c)(hN:l.length<100000)(hab:Bf l+x.natAbs<2^2000000) :
  FnT Tryz.prog 62 #[v,.w c,WD x] h [] (λr h' ms'=>h.le h'/\ms'=[]/\CanV (upd f c x) (Bf l+x.natAbs) (l.length+1) r h'):=by
 have hx:Sz x:=KM (n:=Bf l+x.natAbs) ω hab δ;have hs:∀t∈l,Sz (t.2+x):=λt ht=>KM (n:=Bf l+x.natAbs) (by have:=HE ht;omega) hab δ;refine(AdV v l c x h R hx hc hs).mono λr h' ms' ⟨q,e,k,hk,hlt,hr⟩=>⟨q,e,?_⟩
 have fin:∀d n,(∀p∈FL l k d c n,p.1=c\/p∈l)->Bf (FL l k d c n)<=Bf l+x.natAbs->CanL (FL l k d c n) (upd f c x)->RdL DQ 3 h' [] r (FL l k d c n)->CanV (upd f c x) (Bf l+x.natAbs) (l.length+1) r h':=λd n h1 h2 h3 h4=>
  ⟨_,h3,⟨h4,by have:=Ri l k d c n hk;omega,λp hp=>(h1 p hp).elim (λe=>e ▸ hc) (R.ids p),ω⟩,h2,Ri l k d c n hk⟩
 have hmem:∀d n,∀p∈FL l k d c n,p.1=c\/p∈l:=λd n p hp=>by
  unfold FL at hp;rcases bj.1 hp with hp|hp
  ·rcases bj.1 hp with hp|hp
   ·exact .inr<|List.mem_of_mem_take hp
   ·left;split at hp
    ·rw[bm.1 hp]
    ·cases hp
  ·exact .inr<|gt hp
 rcases hr with ⟨hkl,hkc,hR⟩|⟨hgt,hR⟩
 ·have hfc:l[k].2=f c:=by rw[<-hkc];exact(C.val _ (ao hkl)).1
  refine fin 1 _ (hmem _ _) ?_ (Qh C hk hlt (λj hj hkj=>by have:=PY C.srt hkl hj ω;omega) (by rw[hfc]) (λj hj h1 h2=>by have e:j=k:=ω;subst e;exact hkc)) hR;have e1:=U6 l k;rw[eo hkl,Dv]at e1;have e2:=YK c (l[k].2+x);have e3:=Int.natAbs_add_le l[k].2 x;unfold FL;rw[Bn,Bn];revert e1 e2 e3;generalize Bf (if l[k].2+x≠0 then [((c,l[k].2+x):Tm)] else [])=z1;generalize (l[k].2+x).natAbs=z2;generalize l[k].2.natAbs=z3;generalize x.natAbs=z4;generalize Bf (l.take k)=z5;generalize Bf (l.drop (k+1))=z6;intro e1 e2 e3;omega
 ·have hfc:f c=0:=by
   refine aq λhne=>?_;obtain⟨j,hj,e⟩:=dm.1 (C.all c hne);rcases (ω:j<k\/j=k\/k<j) with h1|rfl|h1
   ·have:=hlt j hj h1;rw[e]at this;exact ie this σ
   ·have:=hgt hj;rw[e]at this;exact ie this σ
   ·have h2:=PY C.srt (i:=k) ω hj h1;have h3:=hgt ω;rw[e]at h2;have h2:l[k].1<c:=h2;omega
  refine fin 0 _ (hmem _ _) ?_ (Qh C hk hlt (λj hj hkj=>?_) (by rw[hfc,Int.zero_add])<|λj hj h1 h2=>ω) hR
  ·have e1:=U6 l k;have e2:=YK c x;unfold FL;rw[Bn,Bn];show _+_+Bf (l.drop (k+0))<=_;rw[Nat.add_zero];revert e1 e2;generalize Bf (if x≠0 then [((c,x):Tm)] else [])=z1;generalize x.natAbs=z4;generalize Bf (l.take k)=z5;generalize Bf (l.drop k)=z6;intro e1 e2;omega
  ·rcases (ω:j=k\/k<j) with rfl|h1
   ·exact hgt hj
   ·have h2:=PY C.srt (i:=k) ω hj h1;have h3:=hgt ω;omega
theorem H7:CanL [] (λ_=>0):=⟨List.Pairwise.nil,λp hp=>(by cases hp),λc hc=>ie rfl hc⟩
theorem LA(l:List Tm)(t:Tm):upd (cf l) t.1 t.2=cf (l++[t]):=by funext a;unfold upd;rw[Ej,CI,FB];omega
set_option exponentiation.threshold 4000000 in
theorem DD(h:Hp):ChR (.slice none 0 0) h []:=⟨⟨Rd.nil _ _ _,EC⟩,by decide,λp hp=>(by cases hp),by show 0<_;exact Nat.pow_pos δ⟩
theorem Im(v:Value)(l:List Tm)(h:Hp)(R:ChR v h l):FnT Tryz.prog 21 #[v] h [] (λr h' ms'=>h.le h'/\ms'=[]/\CanR l r h'):=by
 obtain⟨n,hn⟩:∃n,l.length=n:=⟨_,Y⟩
 have hnb:n<=100000:=hn ▸ R.len;have rL:∀h',h.le h'->Rd h' [] v 3 n (l.flatMap DQ):=λh' q=>by have:=(R.rd.up q).rd;rwa [hn]at this
 have ov:=(rL _ (BE)).one;refine Ap func21 ntmps21 Y Y<|λw0 hw0=>?_;simp only[AR];refine Ar<|Qm Y<|Bp<|Qm Y<|Am<|Ac<|Ar<|Qm Y<|Am<|Ag ?_;refine AB (λq sl h' ms'=>∃(k:Nat) (w:Value),n-k=q/\sl=[(0,v),(3,w),(4,.w (k:Int))]/\h.le h'/\ms'=[]/\k<=n/\CanV (cf (l.take k)) (Bf (l.take k)) k w h') (n-0) _ ⟨0,_,Y,Y,BE,Y,ω,[],H7,DD _,Nat.zero_le _,Nat.zero_le _⟩ Qs ?_;rintro q sl h' ms' ⟨k,w,rfl,rfl,lh,rfl,hk,hC⟩;have ow:w.oneCell'=true:=by obtain⟨_,_,q,_⟩:=hC;exact q.rd.rd.one
 refine Ac<|Ar<|Qm Y<|Qm Y<|Qx (Aq (rL _ lh).any Y CN Y) Y<|Qm Y<|Am ?_;refine Aw Y (λhlt=>?_)<|λhlt=>?_
 ·have hkn:k<n:=ω
  have hkl:k<l.length:=ω
  obtain⟨t,ht⟩:∃t,l[k]=t:=⟨_,Y⟩
  have htm:t∈l:=ht ▸ ao hkl;have etk:l.take (k+1)=l.take k++[t]:=by rw[ak hkl,ht]
  have gE:∀ms,Seg h' ms ((AH v).add (k*3)) (DQ t):=λms=>by rw[<-ht];exact((R.rd.up lh).any (ms:=ms)).seg hkl
  obtain⟨l',CL,CR,ha,hb⟩:=hC;have hbt:Bf (l.take (k+1))=Bf (l.take k)+t.2.natAbs:=by rw[etk,Bn];rfl
  have hle:=F8 l (k+1);have habs:=R.abs;refine Ah<|Ab<|Ac<|Ag<|AS (n:=13) (bs:=[ig,ig,ig,ig,ig,ig,ig,ig,ig,ig,ig,ii,ii]) [ig,ig,ig,ig,ig,ig,ig,ig,ig,ig,ig] CC κ κ Y Y<|Qq Y<|Qq Y<|Qq Y<|Qp Y (AM (k) (rL _ lh).any Y CN Co Y Y ω ω)<|QF Ga Y<|QL Y U3 (Gq<|gE _)<|Qq Y<|Qq Y<|Qp Y (AM (k) (rL _ lh).any Y CN Co Y Y ω ω)<|QF GY Y<|Qp Y (oG Y By Az<|Gj<|gE _) ?_;unfold Dd;simp only[bh,ap];refine Qo 11 Y<|AC (pre:=[]) Y call62 Y (Qj w l' _ t.1 t.2 h' CR CL (R.ids t htm) ω ω) Y Y Y Y<|λw2 h2 ms2 l2 hF=>?_;obtain⟨l2',rfl,hC2⟩:=hF;have ow2:w2.oneCell'=true:=by obtain⟨_,_,q,_⟩:=hC2;exact q.rd.rd.one
  refine Qa<|Qo 12 Y<|Qm Y<|Qa<|Qe ?_;rw[LA,<-etk]at hC2;obtain⟨l3,CL3,CR3,ha3,hb3⟩:=hC2;refine Ai<|Ab<|Ad<|Qm Y<|Qx (oA Y) Y<|Qm Y<|An ?_;exact Ao (n-(k+1)) _ ω ⟨k+1,w2,Y,Y,AD lh l2',Y,ω,l3,CL3,CR3,ω,ω⟩ Qs
 ·obtain rfl:k=n:=ω
  rw[show l.take k=l from take_of_length_le ω]at hC;obtain⟨l',CL,CR,ha,hb⟩:=hC;refine Ax<|Aa<|Aa<|Af<|Ab<|Ar<|Qm Y<|Qm Y<|Am<|Aj ?_;exact Al Y Y (⟨lh,Y,l',CL,CR,ha,ω⟩)
theorem QH(n_:Int)(v:Value)(l:List Tm)(h:Hp)(R:ChR v h l)(hn_:Sz n_)(ha_:n_.natAbs*Bf l<2^2000000):FnT Tryz.prog 31 #[WD n_,v] h [] (λr h' ms'=>h.le h'/\ms'=[]/\CanR (Kg n_ l) r h'):=by
 obtain⟨n,hn⟩:∃n,l.length=n:=⟨_,Y⟩
 have hnb:n<=100000:=hn ▸ R.len;have rL:∀h',h.le h'->Rd h' [] v 3 n (l.flatMap DQ):=λh' q=>by have:=(R.rd.up q).rd;rwa [hn]at this
 have ov:=(rL _ (BE)).one;have osn:(sv (A7 n_.natAbs)).oneCell'=true:=rfl;refine Ap func31 ntmps31 Y Y<|λw0 hw0=>?_;simp only[AR];refine Ar<|AK [_,_] Y Y (by rfl) Y Y Y<|λg2=>Qm Y<|Am<|AF λh0 l0 hS2=>?_;have g2_:∀h',h0.le h'->∀ms,Seg h' ms (⟨g2,0,none⟩:Addr) (Bi n_):=λh' q ms=>(hS2.any).le q;refine Ar<|Qm Y<|Am<|Ac<|Ar<|Qm Y<|Am<|Ag ?_;refine AB (λq sl h' ms'=>∃(k:Nat) (w:Value),n-k=q/\sl=[(1,v),(2,.pt g2),(5,w),(6,.w (k:Int))]/\h0.le h'/\ms'=[]/\k<=n/\CanV (cf (Kg n_ (l.take k))) (Bf (Kg n_ (l.take k))) k w h') (n-0) _ ⟨0,_,Y,Y,BE,Y,ω,[],H7,DD _,Nat.zero_le _,Nat.zero_le _⟩ Qs ?_;rintro q sl h' ms' ⟨k,w,rfl,rfl,lh0,rfl,hk,hC⟩;have lh:=AD l0 lh0;have ow:w.oneCell'=true:=by obtain⟨_,_,q,_⟩:=hC;exact q.rd.rd.one
 refine Ac<|Ar<|Qm Y<|Qm Y<|Qx (Aq (rL _ lh).any Y CN Y) Y<|Qm Y<|Am ?_;refine Aw Y (λhlt=>?_)<|λhlt=>?_
 ·have hkn:k<n:=ω
  have hkl:k<l.length:=ω
  obtain⟨t,ht⟩:∃t,l[k]=t:=⟨_,Y⟩
  have htm:t∈l:=ht ▸ ao hkl;have etk:l.take (k+1)=l.take k++[t]:=by rw[ak hkl,ht]
  have gE:∀ms,Seg h' ms ((AH v).add (k*3)) (DQ t):=λms=>by rw[<-ht];exact((R.rd.up lh).any (ms:=ms)).seg hkl
  obtain⟨l',CL,CR,ha,hb⟩:=hC;have esc:Kg n_ (l.take (k+1))=Kg n_ (l.take k)++[(t.1,n_*t.2)]:=by rw[etk];simp[Kg]
  have hbt:Bf (Kg n_ (l.take (k+1)))=Bf (Kg n_ (l.take k))+(n_*t.2).natAbs:=by rw[esc,Bn];rfl
  have hle:Bf (Kg n_ (l.take (k+1)))<=n_.natAbs*Bf l:=by rw[JC];exact Nat.mul_le_mul_left _<|F8 l<|k+1
  have osm:(sv (A7 (n_*t.2).natAbs)).oneCell'=true:=rfl;have ost:(sv (A7 t.2.natAbs)).oneCell'=true:=rfl;refine Ah<|Ab<|Ac<|Ag<|AS (n:=15) (bs:=[ig,ig,ig,ig,ig,ig,ig,ig,ig,ig,ig,ig,ig,ii,ii]) [ig,ig,ig,ig,ig,ig,ig,ig,ig,ig,ig,ig,ig] CC κ κ Y Y<|Qq Y<|Qq Y<|Qq Y<|Qp Y (AM (k) (rL _ lh).any Y CN Co Y Y ω ω)<|QF Ga Y<|QL Y U3 (Gq<|gE _)<|Qp Y (oG Y By Az<|g2_ _ lh0 _)<|Qq Y<|Qq Y<|Qp Y (AM (k) (rL _ lh).any Y CN Co Y Y ω ω)<|QF GY Y<|Qp Y (oG Y By Az<|Gj<|gE _)<|Qp Y (As Y call26 Y<|Pn n_ t.2 hn_ (R.sz htm) _ _) ?_;unfold Dd;simp only[bh,ap];refine Qo 13 Y<|AC (pre:=[]) Y call62 Y (Qj w l' _ t.1 (n_*t.2) h' CR CL (R.ids t htm) ω ω) Y Y Y Y<|λw2 h2 ms2 l2 hF=>?_;obtain⟨l2',rfl,hC2⟩:=hF;have ow2:w2.oneCell'=true:=by obtain⟨_,_,q,_⟩:=hC2;exact q.rd.rd.one
  refine Qa<|Qo 14 Y<|Qm Y<|Qa<|Qe ?_;have eup:upd (cf (Kg n_ (l.take k))) t.1 (n_*t.2)=cf (Kg n_ (l.take (k+1))):=by rw[esc];exact LA _ (t.1,n_*t.2)
  rw[eup]at hC2;obtain⟨l3,CL3,CR3,ha3,hb3⟩:=hC2;refine Ai<|Ab<|Ad<|Qm Y<|Qx (oA Y) Y<|Qm Y<|An ?_;exact Ao (n-(k+1)) _ ω ⟨k+1,w2,Y,Y,AD lh0 l2',Y,ω,l3,CL3,CR3,ω,ω⟩ Qs
 ·obtain rfl:k=n:=ω
  rw[show l.take k=l from take_of_length_le ω]at hC;obtain⟨l',CL,CR,ha,hb⟩:=hC;refine Ax<|Aa<|Aa<|Af<|Ab<|Ar<|Qm Y<|Qm Y<|Am<|Aj ?_;exact Al Y Y (⟨lh,Y,l',CL,CR,ha,by rw[Kg,be];omega⟩)
theorem US(v w:Value)(l k:List Tm)(h:Hp)(R:ChR v h l)(R2:ChR w h k)(hn:l.length+k.length<=100000)(ha:Bf (l++k)<2^2000000):FnT Tryz.prog 28 #[v,w] h [] (λr h' ms'=>h.le h'/\ms'=[]/\CanR (l++k) r h'):=by
 have ov:=R.rd.rd.one;have ow:=R2.rd.rd.one;refine Ap func28 ntmps28 rfl rfl<|λw0 hw0=>?_;simp only[AR];have hl1:=R.len;have hk1:=R2.len;refine Ar<|Qm rfl<|Bp ?_;refine AO [] [] [] rfl CN Co rfl ω κ (by repeat (first|exact ej|refine⟨⟨by first|rfl|exact(R.rd.rd.any).cells|exact(R2.rd.rd.any).cells|exact Rd.cells ‹_›|exact(RdL.rd ‹_›).cells,rfl,rfl⟩,?_⟩)) rfl rfl rfl rfl<|λg5=>?_;refine Qm rfl<|AJ 0 (OwnL.blk (el:=79) (F:=DQ) (l:=[]) 0 EC rfl δ) R.rd.any rfl CN Co rfl ω rfl rfl rfl DO (by simp only[ee];omega) (by simp only[ee];omega) rfl rfl rfl<|λv7 m7 hO7=>?_;rw[ap]at hO7;have o7:=hO7.o1;refine Qm rfl<|AJ 0 hO7 R2.rd.any rfl CN Co rfl ω rfl rfl rfl DO ω ω rfl rfl rfl<|λv9 m9 hO9=>?_;have o9:=hO9.o1;refine Bt hO9 λh2 l2 hR9=>?_;refine Qc call21 rfl (Im v9 (l++k) h2 ⟨hR9,by rw[af];omega,λp hp=>(bj.1 hp).elim (R.ids p) (R2.ids p),ha⟩)<|λr h3 ms3 l3 hF=>?_;obtain⟨l3',rfl,C⟩:=hF;have or_:r.oneCell'=true:=by obtain⟨_,_,q,_⟩:=C;exact q.rd.rd.one
 refine Qm Y<|Am<|Aj ?_;exact Al Y Y (⟨AD l2 l3',Y,C⟩)
theorem Vr(v w:Value)(x y:List Tm)(h:Hp)(X:ChR v h x)(Y:ChR w h y)(hn:x.length+y.length<=100000)(ha:Bf x+Bf y<2^2000000):FnT Tryz.prog 50 #[v,w] h [] (fun r h' ms'=>h.le h'/\ms'=[]/\AaT x y r h'):=by
 have ov:=X.rd.rd.one;have ow:=Y.rd.rd.one;have osm:(sv (A7 (-1:Int).natAbs)).oneCell'=true:=rfl
 have hone:(-1:Int).natAbs*Bf y<2^2000000:=by show 1*Bf y<_;omega
 refine Ap func50 ntmps50 rfl rfl<|fun w0 hw0=>?_;simp only[AR];refine Ar<|Qm rfl<|Bp<|Qm rfl<|Qx (As rfl call25 rfl<|Hq (-1) δ _ _) rfl<|Qm rfl<|Qc call31 rfl (QH (-1) w y h Y (N7 δ) hone)<|fun z h2 ms2 l2 hF=>?_;obtain⟨l2',rfl,l5,CL,CR,hab,hln⟩:=hF;have oz:=CR.rd.rd.one;have hab':Bf l5<=Bf y:=by rw[JC]at hab;exact bl hab (by show 1*Bf y<=_;omega)
 have hln':l5.length<=y.length:=by rw[Kg,be]at hln;exact hln
 refine Qc call28 rfl (US v z x l5 h2 (X.up l2') CR ω (by rw[Bn];omega))<|fun r h3 ms3 l3 hF=>?_;obtain⟨l3',rfl,l6,CL6,CR6,hab6,hln6⟩:=hF;have or_:=CR6.rd.rd.one;have hfin:AaT x y r h3:=⟨l6,CL6.congr fun c=>by rw[Ej,CL.cf_eq,MD];omega,CR6,by rw[Bn]at hab6;omega,by rw[af]at hln6;omega⟩
 refine Qm rfl<|Am<|Aj ?_;exact Al rfl rfl (⟨AD l2' l3',rfl,hfin⟩)
def KX(S:List (Int×(Int×Int)))(a:List Tm):List Tm:=S.map λp=>(p.2.1,cf a p.1*p.2.2)
theorem YC(S:List (Int×(Int×Int)))(a:List Tm)(p:Int×(Int×Int)):KX (S++[p]) a=KX S a++[(p.2.1,cf a p.1*p.2.2)]:=by unfold KX;rw[dd];rfl
theorem Aaa(S:List (Int×(Int×Int)))(a:List Tm):(∀c,cf (KX S a) c=cf (DB S a) c)/\Bf (KX S a)=Bf (DB S a):=by
 induction S with
 | nil=>exact⟨λc=>rfl,Y⟩
 | cons p S ih=>
  have e:DB (p::S) a=(if cf a p.1≠0 then [((p.2.1,cf a p.1*p.2.2):Tm)] else [])++DB S a:=by unfold DB;by_cases h:cf a p.1=0<;>simp[h]
  rw[e];show(∀c,cf ((p.2.1,cf a p.1*p.2.2)::KX S a) c=_)/\Bf ((p.2.1,cf a p.1*p.2.2)::KX S a)=_;by_cases h:cf a p.1=0
  ·rw[ae (λq=>q h),ap];refine⟨λc=>?_,?_⟩
   ·rw[CI,ih.1,h];simp
   ·rw[Dv,ih.2,h];simp
  ·rw[ah h];refine⟨λc=>?_,?_⟩
   ·rw[List.singleton_append,CI,CI,ih.1]
   ·rw[List.singleton_append,Dv,Dv,ih.2]
theorem Aay(S:List (Int×(Int×Int)))(T:List (Int×(Int×Int)))(a:List Tm):Bf (KX S a)<=Bf (KX (S++T) a):=by unfold KX;rw[dd,Bn];omega
theorem L8(v va:Value)(l:List Ce)(a:List Tm)(h:Hp)(X:CxS v h l)(A:ChR va h a)(hB:Bf (DB (AY (l.map Ce.c)) a)<2^2000000)(hT:(AY (l.map Ce.c)).length<100000) :
  FnT Tryz.prog 29 #[.agg #[v],va] h [] (λr h' ms'=>h.le h'/\ms'=[]/\CanV (cf (DB (AY (l.map Ce.c)) a)) (Bf (DB (AY (l.map Ce.c)) a)) (AY (l.map Ce.c)).length r h'):=by
 have ov:=X.rd.q.rd.one;obtain⟨aa,ac,rfl,_⟩:=A.rd.rd.ex;obtain⟨o,ho⟩:∃o,l.map Ce.c=o:=⟨_,Y⟩
 rw[ho]at hB hT ⊢;obtain⟨hcfA,hablA⟩:=Aaa (AY o) a;obtain⟨n,hnn⟩:∃n,l.length=n:=⟨_,Y⟩
 have hon:o.length=n:=by rw[<-ho,be,hnn]
 have hnb:n<=1000:=hnn ▸ X.len;have rV:∀h',h.le h'->Rd h' [] v 3 n (l.flatMap cC):=λh' q=>by have:=(X.rd.q.up q).rd;rwa [hnn]at this
 refine Ap func29 ntmps29 Y Y<|λw0 hw0=>?_;simp only[AR];refine Ar<|AK [_] Y Y (by rfl) Y Y Y<|λg2=>Qm Y<|Am<|AF λh1 l1 hS2=>?_;have c0:∀h',h1.le h'->∀ms,Cell h' ms ((⟨g2,0,none⟩:Addr).add 0) v:=λh' q ms=>((hS2 0 _ Y).any).le q;refine Ar<|Qm Y<|Am<|Ac<|Ar<|Qm Y<|Am<|Ag ?_;refine AB (λq sl h' ms'=>∃(i:Nat) (w:Value),n-i=q/\sl=[(1,.slice aa a.length ac),(2,.pt g2),(5,w),(6,.w (i:Int))]/\h1.le h'/\ms'=[]/\i<=n/\CanV (cf (KX (AY (o.take i)) a)) (Bf (KX (AY (o.take i)) a)) (AY (o.take i)).length w h') (n-0) _ ⟨0,_,Y,Y,BE,Y,ω,[],H7,DD _,Nat.zero_le _,Nat.zero_le _⟩ Qs ?_;rintro q sl h' ms' ⟨i,w,rfl,rfl,lh,rfl,hi,hC⟩;have l0h:=AD l1 lh;refine Ac<|Ar<|Qm Y<|Qf Ct Y<|Ql Y B0 (c0 _ lh _)<|Qx (Aq (rV _ l0h).any Y B0 Y) Y<|Qm Y<|Am ?_;refine Aw Y (λhlt=>?_)<|λhlt=>?_
 ·have hin:i<n:=ω
  have hil:i<l.length:=ω
  have hio:i<o.length:=ω
  obtain⟨x,hx⟩:∃x,l[i]=x:=⟨_,Y⟩
  have hox:o[i]=x.c:=by subst ho;rw[gl,hx]
  have hxm:x∈l:=hx ▸ ao hil;have Rs:=X.rd.s x hxm;have ox:=Rs.rd.one;obtain⟨p,hp⟩:∃p,x.c.sd.length=p:=⟨_,Y⟩
  have hpn:p<=1000:=hp ▸ X.sdn x hxm;have gE:∀h2,h.le h2->∀ms,Seg h2 ms ((AH v).add (i*3)) (cC x):=λh2 q ms=>by rw[<-hx];exact((X.rd.q.up q).any (ms:=ms)).seg hil
  have e0:∀ms,Cell h' ms (((AH v).add (i*3)).add 0) (.w x.c.id):=λms=>gE _ l0h ms 0 _ Y;obtain⟨nn,hnn2⟩:∃nn,cf a x.c.id=nn:=⟨_,Y⟩
  have osn:(sv (A7 nn.natAbs)).oneCell'=true:=rfl;have hns:Sz nn:=by rw[<-hnn2];exact KM (CW _ _) A.abs δ
  have hcoef:=Up _ a x.c.id h' (A.up l0h);rw[hnn2]at hcoef;refine Ah<|Ab<|Ac<|Ag<|Ar<|Qm Y<|Qf Ct Y<|Ql Y B0 (c0 _ lh _)<|Qm Y<|Qx (AM (i) (rV _ l0h).any Y B0 A3 Y Y ω ω) Y<|Qf BZ Y<|Ql Y U3 (e0 _)<|Qx (As Y call71 Y<|hcoef _) Y<|BS [.bool false,.es] Y Az Y Y<|λg7=>?_;refine Sa 0 [_,_] Az Y (by simp[ov,ox,osn]) ?_;refine Am<|AF λh3 l3 hS7=>?_;have l03:=AD l0h l3;have lh3:=AD lh l3;have g7_:∀h2,h3.le h2->∀ms,Seg h2 ms (⟨g7,0,none⟩:Addr) (Bi nn):=λh2 q ms=>(hS7.le q).any;have rS:∀h2,h.le h2->Rd h2 [] x.v 2 p (x.c.sd.flatMap cD):=λh2 q=>by have:=(Rs.up q).rd;rwa [hp]at this
  obtain⟨P,hP⟩:∃P:Nat->List (Int×(Int×Int)),P=λj=>AY (o.take i)++(x.c.sd.take j).map λs=>(x.c.id,s):=⟨_,Y⟩
  have hP0:P 0=AY (o.take i):=by rw[hP];simp
  have hPp:P p=AY (o.take (i+1)):=by rw[hP];show _++(x.c.sd.take p).map _=_;rw[show x.c.sd.take p=x.c.sd from take_of_length_le ω,ak hio,hox,Kq]
  rw[<-hP0]at hC;have hpre:∃T,AY o=P p++T:=⟨AY (o.drop (i+1)),by rw[hPp];unfold AY;rw[<-dx,dp]⟩
  refine Ar<|Qm Y<|Am<|Ag ?_;refine AB (λq sl h2 ms'=>∃(j:Nat) (w:Value),p-j=q/\sl=[(1,.slice aa a.length ac),(2,.pt g2),(5,w),(6,.w (i:Int)),(7,.pt g7),(8,.w (j:Int))]/\h3.le h2/\ms'=[]/\j<=p/\CanV (cf (KX (P j) a)) (Bf (KX (P j) a)) (P j).length w h2) (p-0) _ ⟨0,_,Y,Y,BE,Y,ω,hC.up l3⟩ Qs ?_;rintro q sl h2 ms' ⟨j,w,rfl,rfl,l2,rfl,hj,hC⟩;have l02:=AD l03 l2;have lh2:=AD lh3 l2;have ow:w.oneCell'=true:=by obtain⟨_,_,q,_⟩:=hC;exact q.rd.rd.one
  have e2:∀ms,Cell h2 ms (((AH v).add (i*3)).add 2) x.v:=λms=>gE _ l02 ms 2 _ Y;refine Ac<|Ar<|Qm Y<|Qf Ct Y<|Ql Y B0 (c0 _ lh2 _)<|Qm Y<|Qx (AM (i) (rV _ l02).any Y B0 A3 Y Y ω ω) Y<|Qf BU Y<|Ql Y Da (e2 _)<|Qx (Aq (rS _ l02).any Y Da Y) Y<|Qm Y<|Am ?_;refine Aw Y (λhjp=>?_)<|λhjp=>?_
  ·have hjp':j<p:=ω
   have hjs:j<x.c.sd.length:=ω
   obtain⟨y,hy⟩:∃y,x.c.sd[j]=y:=⟨_,Y⟩
   have hym:y∈x.c.sd:=hy ▸ ao hjs;have hyI:=X.sds x hxm y hym;have gS:∀ms,Seg h2 ms ((AH x.v).add (j*2)) (cD y):=λms=>by rw[<-hy];exact((Rs.up l02).any (ms:=ms)).seg hjs
   have f0:∀ms,Cell h2 ms (((AH x.v).add (j*2)).add 0) (.w y.1):=λms=>gS ms 0 _ Y;have f1:∀ms,Cell h2 ms (((AH x.v).add (j*2)).add 1) (.w y.2):=λms=>gS ms 1 _ Y;have ePs:P (j+1)=P j++[(x.c.id,y)]:=by rw[hP];show _++_=_++_++_;rw[ak hjs,hy,dd,cz];rfl
   have eB:KX (P (j+1)) a=KX (P j) a++[(y.1,nn*y.2)]:=by rw[ePs,YC,hnn2]
   obtain⟨T,hT2⟩:=hpre;have hsub:∃T2,AY o=P (j+1)++T2:=⟨(x.c.sd.drop (j+1)).map (λs=>(x.c.id,s))++T,by rw[hT2,hP];show _++_++T=_++_++(_++T);rw[show x.c.sd.take p=x.c.sd from take_of_length_le ω,cz,cz,<-cz (List.map _ _),<-dd,dp]⟩
   obtain⟨T2,hT3⟩:=hsub;have hle:Bf (KX (P (j+1)) a)<=Bf (KX (AY o) a):=by rw[hT3];exact Aay _ _ _
   have hlen:(P (j+1)).length<=(AY o).length:=by rw[hT3,af];omega
   have hlen1:(P (j+1)).length=(P j).length+1:=by rw[ePs,af];rfl
   have hbt:Bf (KX (P (j+1)) a)=Bf (KX (P j) a)+(nn*y.2).natAbs:=by rw[eB,Bn];rfl
   obtain⟨l',CL,CR,ha',hb'⟩:=hC;have osy:(sv (A7 y.2.natAbs)).oneCell'=true:=rfl;have osm:(sv (A7 (nn*y.2).natAbs)).oneCell'=true:=rfl;refine Ah<|Ab<|Ac<|Ag<|AS (n:=26) (bs:=[ig,ig,ig,ig,ig,ig,ig,ig,ig,ig,ig,ig,ig,ig,ig,ig,ig,ig,ig,ig,ig,ig,ig,ig,ii,ii]) [ig,ig,ig,ig,ig,ig,ig,ig,ig,ig,ig,ig,ig,ig,ig,ig,ig,ig,ig,ig,ig,ig,ig,ig] CC κ κ Y Y<|Qq Y<|QF Ct Y<|QL Y B0 (c0 _ lh2 _)<|Qq Y<|Qp Y (AM (i) (rV _ l02).any Y B0 A3 Y Y ω ω)<|QF BU Y<|QL Y Da (e2 _)<|Qq Y<|Qp Y (AM (j) (rS _ l02).any Y Da BX Y Y ω ω)<|QF Dl Y<|QL Y U3 (f0 _)<|Qp Y (oG Y By Az<|g7_ _ l2 _)<|QF Ct Y<|QL Y B0 (c0 _ lh2 _)<|Qq Y<|Qp Y (AM (i) (rV _ l02).any Y B0 A3 Y Y ω ω)<|QF BU Y<|QL Y Da (e2 _)<|Qq Y<|Qp Y (AM (j) (rS _ l02).any Y Da BX Y Y ω ω)<|QF Eg Y<|QL Y U3 (f1 _)<|Qp Y (As Y call25 Y<|Hq y.2 hyI.2 _ _)<|Qp Y (As Y call26 Y<|Pn nn y.2 hns (N7 hyI.2) _ _) ?_;unfold Dd;simp only[bh,ap];refine Qo 24 Y<|AC (pre:=[]) Y call62 Y (Qj w l' _ y.1 (nn*y.2) h2 CR CL hyI.1 ω ω) Y Y Y Y<|λw2 h4 ms4 l4 hF=>?_;obtain⟨l4',rfl,hC2⟩:=hF;have ow2:w2.oneCell'=true:=by obtain⟨_,_,q,_⟩:=hC2;exact q.rd.rd.one
   refine Qa<|Qo 25 Y<|Qm Y<|Qa<|Qe ?_;have eup:upd (cf (KX (P j) a)) y.1 (nn*y.2)=cf (KX (P (j+1)) a):=by rw[eB];exact LA _ (y.1,nn*y.2)
   rw[eup]at hC2;obtain⟨l5,CL5,CR5,ha5,hb5⟩:=hC2;refine Ai<|Ab<|Ad<|Qm Y<|Qx (oA Y) Y<|Qm Y<|An ?_;exact Ao (p-(j+1)) _ ω ⟨j+1,w2,Y,Y,AD l2 l4',Y,ω,l5,CL5,CR5,ω,ω⟩ Qs
  ·obtain rfl:j=p:=ω
   rw[hPp]at hC;refine Ax<|Aa<|Aa<|Af<|Ai<|Ab<|Ad<|Qm Y<|Qx (oA Y) Y<|Qm Y<|An ?_;exact Ao (n-(i+1)) _ ω ⟨i+1,w,Y,Y,AD lh3 l2,Y,ω,hC⟩ Qs
 ·obtain rfl:i=n:=ω
  rw[show o.take i=o from take_of_length_le ω]at hC;obtain⟨l',CL,CR,ha',hb'⟩:=hC;have ow:=CR.rd.rd.one;refine Ax<|Aa<|Aa<|Af<|Ab<|Ar<|Qm Y<|Qm Y<|Am<|Aj ?_;exact Al Y Y (⟨l0h,Y,l',CL.congr hcfA,CR,ω,hb'⟩)
theorem AcD(a b:List Tm)(va vb:Value)(h:Hp)(hA:RdL DQ 3 h [] va a)(hB:RdL DQ 3 h [] vb b)(ms:List Hp):FnV Tryz.prog 20 #[va,vb] h ms (.bool (decide (a=b))):=by
 refine DY ?_ ms;have la:=hA.len_le;have lb:=hB.len_le;have oa:=hA.rd.one;have ob:=hB.rd.one;refine Ap func20 ntmps20 Y Y<|λw0 hw0=>?_;simp only[AR];refine Ar<|Qm Y<|Am<|Ac<|Ar<|Qm Y<|Qx (Aq hA.rd.any Y CN Y) Y<|Qm Y<|Qx (Aq hB.rd.any Y CN Y) Y<|Qm Y<|Am ?_;refine Aw Y (λhne=>?_)<|λhne=>?_
 ·refine Ac<|Ad<|Qm Y<|Am<|Aj<|Ae ?_;exact Al Y Y (by rw[cg];intro e;rw[e]at hne;exact hne Y)
 ·have hl:a.length=b.length:=ω
  refine Ah<|Ab<|Ac<|Ar<|Qm Y<|Am<|Ag ?_
  refine AB (λq s h' ms'=>∃(k:Nat),q=a.length-k/\s=[(0,va),(1,vb),(5,.w k)]/\h=h'/\ms'=[]/\k<=a.length/\a.take k=b.take k)
   (a.length-0) _ ⟨0,rfl,rfl,rfl,rfl,ω,rfl⟩ Qs ?_
  rintro q s h' ms' ⟨k,rfl,rfl,rfl,rfl,hk,he⟩;refine Ac<|Ar<|Qm Y<|Qm Y<|Qx (Aq hA.rd.any Y CN Y) Y<|Qm Y<|Am ?_;refine Aw Y (λhlt=>?_)<|λhlt=>?_
  ·have hka:k<a.length:=ω
   have hkb:k<b.length:=ω
   have ca:∀ms,Seg h ms ((AH va).add (k*3)) (DQ a[k]):=λms=>(hA.any (ms:=ms)).seg hka;have cb:∀ms,Seg h ms ((AH vb).add (k*3)) (DQ b[k]):=λms=>(hB.any (ms:=ms)).seg hkb;refine Ah<|Ab<|Ac<|Ag<|Ac<|BB 8 CC κ Y<|Wm Y<|Wm Y<|BD (BC (k) hA.rd.any Y CN Co Y Y) Y Y<|BD (oG Y U79 Co<|ca _) Y Y<|Wm Y<|Wm Y<|BD (BC (k) hB.rd.any Y CN Co Y Y) Y Y<|BD (oG Y U79 Co<|cb _) Y Y<|Bu<|Qx (YJ a[k] b[k] Y Y Y) Y<|Am ?_;refine Aw Y (λhne=>?_)<|λhne=>?_
   ·refine Ac<|Ad<|Qm Y<|Am<|Aj<|Ak<|Ae<|Ae<|Ak<|Ae ?_;exact Al Y Y (by rw[cg];rintro rfl;exact hne Y)
   ·refine Ah<|Ai<|Ab<|Ad<|Qm Y<|Qx (oA Y) Y<|Qm Y<|An ?_;refine Ao (a.length-(k+1)) _ ω ⟨k+1,Y,Y,Y,Y,ω,?_⟩ Qs;rw[gw,gw,he,aj hka,aj hkb,Decidable.not_not.1 hne]
  ·obtain rfl:k=a.length:=ω
   refine Ax<|Aa<|Aa<|Af<|Ab<|Ar<|Qm Y<|Am<|Aj ?_;exact Al Y Y (by rw[fe,hl,fe]at he;rw[bq he])
theorem NI(va vb:Value)(a b:List Tm)(h:Hp)(A:ChR va h a)(B:ChR vb h b)(ms:List Hp):FnV Tryz.prog 54 #[va,vb] h ms (.bool (eqC a b)):=by
 refine DY ?_ ms;obtain⟨aa,ac,rfl,_⟩:=A.rd.rd.ex;obtain⟨ba,bc,rfl,_⟩:=B.rd.rd.ex;refine Ap func54 ntmps54 Y Y<|λw0 hw0=>?_;simp only[AR];refine Ar<|Qm Y<|Bp<|Qm Y<|Qc call21 Y (Im _ a h A)<|λx h1 ms1 l1 hF=>?_;obtain⟨l1',rfl,l,CL,CR,_,_⟩:=hF;refine Qm Y<|Qc call21 Y (Im _ b h1<|B.up l1')<|λy h2 ms2 l2 hF=>?_;obtain⟨l2',rfl,r,CL2,CR2,_,_⟩:=hF;have ox:=CR.rd.rd.one;have oy:=CR2.rd.rd.one;refine Qx (As Y call20 Y<|AcD l r x y h2 (CR.rd.up l2') CR2.rd _) Y<|Qm Y<|Am<|Aj ?_;have e:l=r<->∀c,cf a c=cf b c:=⟨λe c=>by rw[<-CL.cf_eq,<-CL2.cf_eq,e],λe=>CL.ext CL2 e⟩
 have e2:decide (l=r)=eqC a b:=by rw[Bool.eq_iff_iff,Py,fq];exact e
 exact Al Y Y<|aw Value.bool e2
theorem AbE(va vb:Value)(a l:List Tm)(h:Hp)(A:ChR va h a)(B:ChR vb h l)(hAB:Bf a*Bf l<2^2000000)(ms:List Hp):FnV Tryz.prog 58 #[va,vb] h ms (WD (lin (cf a) l)):=by
 refine DY ?_ ms;obtain⟨n,hn⟩:∃n,l.length=n:=⟨_,Y⟩
 have hnb:n<=100000:=hn ▸ B.len;have rL:Rd h [] vb 3 n (l.flatMap DQ):=by have:=B.rd.rd;rwa [hn]at this
 have oa:=A.rd.rd.one;have ov:=rL.one;have hsz:∀k,Sz (lin (cf a) (l.take k)):=λk=>KM (bl (K6 (CW a) _) (Nat.mul_le_mul_left _ (F8 l k))) hAB δ;refine Ap func58 ntmps58 Y Y<|λw0 hw0=>?_;simp only[AR];refine Ar<|BS [.bool false,.es] Y Az Y Y<|λg4=>Bp<|BS [.bool false,.es] Y Az Y Y<|λg5=>Am<|Ac<|Ar<|Qm Y<|Am<|Ag ?_;refine AB (λq sl h' ms'=>∃(k:Nat),n-k=q/\sl=[(0,va),(1,vb),(4,.pt g4),(5,.pt g5),(6,.w (k:Int))]/\h=h'/\ms'=[BI g5 33 (Bi (lin (cf a) (l.take k))),BI g4 33 (Bi 0)]/\k<=n) (n-0) _ ⟨0,Y,Y,Y,Y,ω⟩ Qs ?_;rintro q sl h' ms' ⟨k,rfl,rfl,rfl,rfl,hk⟩;obtain⟨y,hy⟩:∃y,lin (cf a) (l.take k)=y:=⟨_,Y⟩
 have hys:Sz y:=hy ▸ hsz k;have osy:(sv (A7 y.natAbs)).oneCell'=true:=rfl;rw[hy];refine Ac<|Ar<|Qm Y<|Qm Y<|Qx (Aq rL.any Y CN Y) Y<|Qm Y<|Am ?_;refine Aw Y (λhlt=>?_)<|λhlt=>?_
 ·have hkn:k<n:=ω
  have hkl:k<l.length:=ω
  obtain⟨t,ht⟩:∃t,l[k]=t:=⟨_,Y⟩
  have htm:t∈l:=ht ▸ ao hkl;have gE:∀ms,Seg h ms ((AH vb).add (k*3)) (DQ t):=λms=>by rw[<-ht];exact(B.rd.any (ms:=ms)).seg hkl
  obtain⟨x,hx⟩:∃x,cf a t.1=x:=⟨_,Y⟩
  have hxs:Sz x:=by rw[<-hx];exact KM (CW _ _) A.abs δ
  have etk:lin (cf a) (l.take (k+1))=y+x*t.2:=by rw[ak hkl,ht,Ed,hy];show _+(cf a t.1*t.2+0)=_;rw[hx];omega
  have hps:Sz (x*t.2):=KM (n:=Bf a*Bf l) (by rw[Int.natAbs_mul,<-hx];exact ep (CW a _)<|HE htm) hAB δ;have hcoef:=Up va a t.1 h A;rw[hx]at hcoef;have osx:(sv (A7 x.natAbs)).oneCell'=true:=rfl;have ost:(sv (A7 t.2.natAbs)).oneCell'=true:=rfl;have osm:(sv (A7 (x*t.2).natAbs)).oneCell'=true:=rfl;have osr:(sv (A7 (y+x*t.2).natAbs)).oneCell'=true:=rfl;refine Ah<|Ab<|Ac<|Ag<|AS (n:=16) (bs:=[ii,ig,ig,ig,ig,ig,ig,ig,ig,ig,ig,ig,ig,ig,ii,ii]) [ii,ig,ig,ig,ig,ig,ig,ig,ig,ig,ig,ig,ig,ig] CC κ κ Y Y<|Qq Y<|Qq Y<|Qq Y<|Qp Y (BC (k) rL.any Y CN Co Y Y)<|QF Ga Y<|QL Y U3 (Gq<|gE _)<|Qp Y (As Y call71 Y<|hcoef _)<|Qq Y<|Qq Y<|Qp Y (BC (k) rL.any Y CN Co Y Y)<|QF GY Y<|Qp Y (oG Y By Az<|Gj<|gE _)<|Qp Y (As Y call26 Y<|Pn x t.2 hxs (B.sz htm) _ _) ?_;unfold Dd;simp only[bh,ap];refine Qo 0 Y<|Qx (oG Y By Az<|Seg.blk 0 Y) Y<|Qw<|Qo 14 Y<|Qx (As Y call22 Y<|Kv y (x*t.2) hys hps _ _) Y<|Qw<|Qo 15 Y ?_;refine Sa 0 [_,_] Az Y (by simp[oa,ov,osy,osx,ost,osm,osr]) ?_;refine Qw<|Qe<|Ai<|Ab<|Ad<|Qm Y<|Qx (oA Y) Y<|Qm Y<|An ?_;exact Ao (n-(k+1)) _ ω ⟨k+1,Y,Y,Y,by rw[etk];rfl,ω⟩ Qs
 ·obtain rfl:k=n:=ω
  rw[show l.take k=l from take_of_length_le ω]at hy;refine Ax<|Aa<|Aa<|Af<|Ab<|Ar<|Qx (oG Y By Az<|Seg.blk 0 Y) Y ?_;refine Sa 1 [_,_] Az Y (by simp[oa,ov,B8,osy]) ?_;refine Am<|Aj<|AQ ?_;exact Bx (vs:=[_,_]) 0 Y Y By Y Az Y Y ((by rw[hy];rfl))
def KZ(S:List (Int×(Int×Int)))(a:List Tm):List Tm:=S.map λp=>(p.1,cf a p.2.1*p.2.2)
theorem Yl(S:List (Int×(Int×Int)))(a:List Tm)(p:Int×(Int×Int)):KZ (S++[p]) a=KZ S a++[(p.1,cf a p.2.1*p.2.2)]:=by unfold KZ;rw[dd];rfl
theorem Z5(S:List (Int×(Int×Int)))(a:List Tm):(∀c,cf (KZ S a) c=cf (Gl S a) c)/\Bf (KZ S a)=Bf (Gl S a):=by
 induction S with
 | nil=>exact⟨λc=>rfl,Y⟩
 | cons p S ih=>
  have e:Gl (p::S) a=(if cf a p.2.1≠0 then [((p.1,cf a p.2.1*p.2.2):Tm)] else [])++Gl S a:=by unfold Gl;by_cases h:cf a p.2.1=0<;>simp[h]
  rw[e];show(∀c,cf ((p.1,cf a p.2.1*p.2.2)::KZ S a) c=_)/\Bf ((p.1,cf a p.2.1*p.2.2)::KZ S a)=_;by_cases h:cf a p.2.1=0
  ·rw[ae (λq=>q h),ap];refine⟨λc=>?_,?_⟩
   ·rw[CI,ih.1,h];simp
   ·rw[Dv,ih.2,h];simp
  ·rw[ah h];refine⟨λc=>?_,?_⟩
   ·rw[List.singleton_append,CI,CI,ih.1]
   ·rw[List.singleton_append,Dv,Dv,ih.2]
theorem Ye(S:List (Int×(Int×Int)))(T:List (Int×(Int×Int)))(a:List Tm):Bf (KZ S a)<=Bf (KZ (S++T) a):=by unfold KZ;rw[dd,Bn];omega
theorem Adp(v va:Value)(l:List Ce)(a:List Tm)(h:Hp)(X:CxS v h l)(A:ChR va h a)(hB:Bf (Gl (AY (l.map Ce.c)) a)<2^2000000)(hT:(AY (l.map Ce.c)).length<100000) :
  FnT Tryz.prog 56 #[.agg #[v],va] h [] (λr h' ms'=>h.le h'/\ms'=[]/\CanV (cf (Gl (AY (l.map Ce.c)) a)) (Bf (Gl (AY (l.map Ce.c)) a)) (AY (l.map Ce.c)).length r h'):=by
 have ov:=X.rd.q.rd.one;obtain⟨aa,ac,rfl,_⟩:=A.rd.rd.ex;obtain⟨o,ho⟩:∃o,l.map Ce.c=o:=⟨_,Y⟩
 rw[ho]at hB hT ⊢;obtain⟨hcfA,hablA⟩:=Z5 (AY o) a;obtain⟨n,hnn⟩:∃n,l.length=n:=⟨_,Y⟩
 have hon:o.length=n:=by rw[<-ho,be,hnn]
 have hnb:n<=1000:=hnn ▸ X.len;have rV:∀h',h.le h'->Rd h' [] v 3 n (l.flatMap cC):=λh' q=>by have:=(X.rd.q.up q).rd;rwa [hnn]at this
 refine Ap func56 ntmps56 Y Y<|λw0 hw0=>?_;simp only[AR];refine Ar<|AK [_] Y Y (by rfl) Y Y Y<|λg2=>Qm Y<|Am<|AF λh1 l1 hS2=>?_;have c0:∀h',h1.le h'->∀ms,Cell h' ms ((⟨g2,0,none⟩:Addr).add 0) v:=λh' q ms=>((hS2 0 _ Y).any).le q;refine Ar<|Qm Y<|Am<|Ac<|Ar<|Qm Y<|Am<|Ag ?_;refine AB (λq sl h' ms'=>∃(i:Nat) (w:Value),n-i=q/\sl=[(1,.slice aa a.length ac),(2,.pt g2),(5,w),(6,.w (i:Int))]/\h1.le h'/\ms'=[]/\i<=n/\CanV (cf (KZ (AY (o.take i)) a)) (Bf (KZ (AY (o.take i)) a)) (AY (o.take i)).length w h') (n-0) _ ⟨0,_,Y,Y,BE,Y,ω,[],H7,DD _,Nat.zero_le _,Nat.zero_le _⟩ Qs ?_;rintro q sl h' ms' ⟨i,w,rfl,rfl,lh,rfl,hi,hC⟩;have l0h:=AD l1 lh;refine Ac<|Ar<|Qm Y<|Qf Ct Y<|Ql Y B0 (c0 _ lh _)<|Qx (Aq (rV _ l0h).any Y B0 Y) Y<|Qm Y<|Am ?_;refine Aw Y (λhlt=>?_)<|λhlt=>?_
 ·have hin:i<n:=ω
  have hil:i<l.length:=ω
  have hio:i<o.length:=ω
  obtain⟨x,hx⟩:∃x,l[i]=x:=⟨_,Y⟩
  have hox:o[i]=x.c:=by subst ho;rw[gl,hx]
  have hxm:x∈l:=hx ▸ ao hil;have Rs:=X.rd.s x hxm;have ox:=Rs.rd.one;obtain⟨p,hp⟩:∃p,x.c.sd.length=p:=⟨_,Y⟩
  have hpn:p<=1000:=hp ▸ X.sdn x hxm;have gE:∀h2,h.le h2->∀ms,Seg h2 ms ((AH v).add (i*3)) (cC x):=λh2 q ms=>by rw[<-hx];exact((X.rd.q.up q).any (ms:=ms)).seg hil
  have rS:∀h2,h.le h2->Rd h2 [] x.v 2 p (x.c.sd.flatMap cD):=λh2 q=>by have:=(Rs.up q).rd;rwa [hp]at this
  obtain⟨P,hP⟩:∃P:Nat->List (Int×(Int×Int)),P=λj=>AY (o.take i)++(x.c.sd.take j).map λs=>(x.c.id,s):=⟨_,Y⟩
  have hP0:P 0=AY (o.take i):=by rw[hP];simp
  have hPp:P p=AY (o.take (i+1)):=by rw[hP];show _++(x.c.sd.take p).map _=_;rw[show x.c.sd.take p=x.c.sd from take_of_length_le ω,ak hio,hox,Kq]
  rw[<-hP0]at hC;have hpre:∃T,AY o=P p++T:=⟨AY (o.drop (i+1)),by rw[hPp];unfold AY;rw[<-dx,dp]⟩
  refine Ah<|Ab<|Ac<|Ag<|Ar<|Qm Y<|Am<|Ag ?_;refine AB (λq sl h2 ms'=>∃(j:Nat) (w:Value),p-j=q/\sl=[(1,.slice aa a.length ac),(2,.pt g2),(5,w),(6,.w (i:Int)),(7,.w (j:Int))]/\h'.le h2/\ms'=[]/\j<=p/\CanV (cf (KZ (P j) a)) (Bf (KZ (P j) a)) (P j).length w h2) (p-0) _ ⟨0,_,Y,Y,BE,Y,ω,hC⟩ Qs ?_;rintro q sl h2 ms' ⟨j,w,rfl,rfl,l2,rfl,hj,hC⟩;have l02:=AD l0h l2;have lh2:=AD lh l2;have ow:w.oneCell'=true:=by obtain⟨_,_,q,_⟩:=hC;exact q.rd.rd.one
  have e2:∀h3,h2.le h3->∀ms,Cell h3 ms (((AH v).add (i*3)).add 2) x.v:=λh3 q ms=>gE _ (AD l02 q) ms 2 _ Y;refine Ac<|Ar<|Qm Y<|Qf Ct Y<|Ql Y B0 (c0 _ lh2 _)<|Qm Y<|Qx (AM (i) (rV _ l02).any Y B0 A3 Y Y ω ω) Y<|Qf BU Y<|Ql Y Da (e2 _ (BE) _)<|Qx (Aq (rS _ l02).any Y Da Y) Y<|Qm Y<|Am ?_;refine Aw Y (λhjp=>?_)<|λhjp=>?_
  ·have hjp':j<p:=ω
   have hjs:j<x.c.sd.length:=ω
   obtain⟨y,hy⟩:∃y,x.c.sd[j]=y:=⟨_,Y⟩
   have hym:y∈x.c.sd:=hy ▸ ao hjs;have hyI:=X.sds x hxm y hym;have gS:∀h3,h2.le h3->∀ms,Seg h3 ms ((AH x.v).add (j*2)) (cD y):=λh3 q ms=>by rw[<-hy];exact((Rs.up (AD l02 q)).any (ms:=ms)).seg hjs
   have e0:∀h3,h2.le h3->∀ms,Cell h3 ms (((AH v).add (i*3)).add 0) (.w x.c.id):=λh3 q ms=>gE _ (AD l02 q) ms 0 _ Y;have f0:∀h3,h2.le h3->∀ms,Cell h3 ms (((AH x.v).add (j*2)).add 0) (.w y.1):=λh3 q ms=>gS h3 q ms 0 _ Y;have f1:∀h3,h2.le h3->∀ms,Cell h3 ms (((AH x.v).add (j*2)).add 1) (.w y.2):=λh3 q ms=>gS h3 q ms 1 _ Y;obtain⟨nn,hnn2⟩:∃nn,cf a y.1=nn:=⟨_,Y⟩
   have osn:(sv (A7 nn.natAbs)).oneCell'=true:=rfl;have hns:Sz nn:=by rw[<-hnn2];exact KM (CW _ _) A.abs δ
   have hcoef:=Up _ a y.1 h2 (A.up l02);rw[hnn2]at hcoef;have ePs:P (j+1)=P j++[(x.c.id,y)]:=by rw[hP];show _++_=_++_++_;rw[ak hjs,hy,dd,cz];rfl
   have eB:KZ (P (j+1)) a=KZ (P j) a++[(x.c.id,nn*y.2)]:=by rw[ePs,Yl,hnn2]
   obtain⟨T,hT2⟩:=hpre;have hsub:∃T2,AY o=P (j+1)++T2:=⟨(x.c.sd.drop (j+1)).map (λs=>(x.c.id,s))++T,by rw[hT2,hP];show _++_++T=_++_++(_++T);rw[show x.c.sd.take p=x.c.sd from take_of_length_le ω,cz,cz,<-cz (List.map _ _),<-dd,dp]⟩
   obtain⟨T2,hT3⟩:=hsub;have hle:Bf (KZ (P (j+1)) a)<=Bf (KZ (AY o) a):=by rw[hT3];exact Ye _ _ _
   have hlen:(P (j+1)).length<=(AY o).length:=by rw[hT3,af];omega
   have hlen1:(P (j+1)).length=(P j).length+1:=by rw[ePs,af];rfl
   have hbt:Bf (KZ (P (j+1)) a)=Bf (KZ (P j) a)+(nn*y.2).natAbs:=by rw[eB,Bn];rfl
   have hxI:=X.ids x hxm;refine Ah<|Ab<|Ac<|Ag<|Ar<|Qm Y<|Qf Ct Y<|Ql Y B0 (c0 _ lh2 _)<|Qm Y<|Qx (AM (i) (rV _ l02).any Y B0 A3 Y Y ω ω) Y<|Qf BU Y<|Ql Y Da (e2 _ (BE) _)<|Qm Y<|Qx (AM (j) (rS _ l02).any Y Da BX Y Y ω ω) Y<|Qf Dl Y<|Ql Y U3 (f0 _ (BE) _)<|Qx (As Y call71 Y<|hcoef _) Y<|BS [.bool false,.es] Y Az Y Y<|λg8=>?_;refine Sa 0 [_,_] Az Y (by simp[ov,ox,osn,ow]) ?_;refine Am<|AF λh3 l3 hS8=>?_;have l03:=AD l02 l3;have lh3:=AD lh2 l3;have g8_:∀ms,Seg h3 ms (⟨g8,0,none⟩:Addr) (Bi nn):=λms=>hS8.any;have hC3:=hC.up l3;obtain⟨l',CL,CR,ha',hb'⟩:=hC3;have osy:(sv (A7 y.2.natAbs)).oneCell'=true:=rfl;have osm:(sv (A7 (nn*y.2).natAbs)).oneCell'=true:=rfl;refine AS (n:=22) (bs:=[ig,ig,ig,ig,ig,ig,ig,ig,ig,ig,ig,ig,ig,ig,ig,ig,ig,ig,ig,ig,ii,ii]) [ig,ig,ig,ig,ig,ig,ig,ig,ig,ig,ig,ig,ig,ig,ig,ig,ig,ig,ig,ig] CC κ κ Y Y<|Qq Y<|QF Ct Y<|QL Y B0 (c0 _ lh3 _)<|Qq Y<|Qp Y (AM (i) (rV _ l03).any Y B0 A3 Y Y ω ω)<|QF BZ Y<|QL Y U3 (e0 _ l3 _)<|Qp Y (oG Y By Az<|g8_ _)<|QF Ct Y<|QL Y B0 (c0 _ lh3 _)<|Qq Y<|Qp Y (AM (i) (rV _ l03).any Y B0 A3 Y Y ω ω)<|QF BU Y<|QL Y Da (e2 _ l3 _)<|Qq Y<|Qp Y (AM (j) (rS _ l03).any Y Da BX Y Y ω ω)<|QF Eg Y<|QL Y U3 (f1 _ l3 _)<|Qp Y (As Y call25 Y<|Hq y.2 hyI.2 _ _)<|Qp Y (As Y call26 Y<|Pn nn y.2 hns (N7 hyI.2) _ _) ?_;unfold Dd;simp only[bh,ap];refine Qo 20 Y<|AC (pre:=[]) Y call62 Y (Qj w l' _ x.c.id (nn*y.2) h3 CR CL hxI ω ω) Y Y Y Y<|λw2 h4 ms4 l4 hF=>?_;obtain⟨l4',rfl,hC2⟩:=hF;have ow2:w2.oneCell'=true:=by obtain⟨_,_,q,_⟩:=hC2;exact q.rd.rd.one
   refine Qa<|Qo 21 Y<|Qm Y<|Qa<|Qe ?_;have eup:upd (cf (KZ (P j) a)) x.c.id (nn*y.2)=cf (KZ (P (j+1)) a):=by rw[eB];exact LA _ (x.c.id,nn*y.2)
   rw[eup]at hC2;obtain⟨l5,CL5,CR5,ha5,hb5⟩:=hC2;refine Ai<|Ab<|Ad<|Qm Y<|Qx (oA Y) Y<|Qm Y<|An ?_;exact Ao (p-(j+1)) _ ω ⟨j+1,w2,Y,Y,AD l2<|AD l3 l4',Y,ω,l5,CL5,CR5,ω,ω⟩ Qs
  ·obtain rfl:j=p:=ω
   rw[hPp]at hC;refine Ax<|Aa<|Aa<|Af<|Ai<|Ab<|Ad<|Qm Y<|Qx (oA Y) Y<|Qm Y<|An ?_;exact Ao (n-(i+1)) _ ω ⟨i+1,w,Y,Y,AD lh l2,Y,ω,hC⟩ Qs
 ·obtain rfl:i=n:=ω
  rw[show o.take i=o from take_of_length_le ω]at hC;obtain⟨l',CL,CR,ha',hb'⟩:=hC;have ow:=CR.rd.rd.one;refine Ax<|Aa<|Aa<|Af<|Ab<|Ar<|Qm Y<|Qm Y<|Am<|Aj ?_;exact Al Y Y (⟨l0h,Y,l',CL.congr hcfA,CR,ω,hb'⟩)
theorem Cw{P:Program}{o:Oper}{s:AE}{h:Hp}{ms:List Hp}{v w:Value}(hx:OX P o s h ms v)(e:v=w):OX P o s h ms w:=e ▸ hx
theorem Aai(o:List Cl)(x:Cl)(d c:Int):HS (o++[x]) d c=(HS o d c||(decide (x.id=c)&&decide (x.dim=d))):=by unfold HS;rw[List.any_append];simp
theorem Ve(v va:Value)(l:List Ce)(d:Int)(a:List Tm)(h:Hp)(X:CxS v h l)(A:ChR va h a)(ms:List Hp):FnV Tryz.prog 53 #[.agg #[v],.int .i64 d,va] h ms (.bool (Eb (l.map Ce.c) d a)):=by
 refine DY ?_ ms;have ov:=X.rd.q.rd.one;obtain⟨aa,ac,rfl,_⟩:=A.rd.rd.ex;obtain⟨o,ho⟩:∃o,l.map Ce.c=o:=⟨_,Y⟩
 rw[ho];obtain⟨n,hnn⟩:∃n,l.length=n:=⟨_,Y⟩
 have hon:o.length=n:=by rw[<-ho,be,hnn]
 have hnb:n<=1000:=hnn ▸ X.len;have rV:∀h',h.le h'->Rd h' [] v 3 n (l.flatMap cC):=λh' q=>by have:=(X.rd.q.up q).rd;rwa [hnn]at this
 refine Ap func53 ntmps53 Y Y<|λw0 hw0=>?_;simp only[AR];refine Ar<|AK [_] Y Y (by rfl) Y Y Y<|λg3=>Qm Y<|Am<|AF λh1 l1 hS3=>?_;have c0:∀h',h1.le h'->∀ms,Cell h' ms ((⟨g3,0,none⟩:Addr).add 0) v:=λh' q ms=>((hS3 0 _ Y).any).le q;refine Ar<|Qm Y<|Qc call21 Y (Im _ a h1<|A.up l1)<|λw h2 ms2 l2 hF=>?_;obtain⟨l2',rfl,lc,CL,CR,hab,hln⟩:=hF;have l02:=AD l1 l2';have ow:=CR.rd.rd.one;obtain⟨m,hm⟩:∃m,lc.length=m:=⟨_,Y⟩
 have hmb:m<=100000:=hm ▸ CR.len;have rW:∀ms,Rd h2 ms w 3 m (lc.flatMap DQ):=λms=>by have:=CR.rd.rd.any (ms:=ms);rwa [hm]at this
 refine Qm Y<|Am<|Ac<|Ar<|Qm Y<|Am<|Ag ?_;refine AB (λq sl h' ms'=>∃(k:Nat),m-k=q/\sl=[(1,.w d),(3,.pt g3),(7,w),(8,.w (k:Int))]/\h2=h'/\ms'=[]/\k<=m/\(∀j (hj:j<lc.length),j<k->HS o d lc[j].1=true)) (m-0) _ ⟨0,Y,Y,Y,Y,ω,λj _ h=>ω⟩ Qs ?_;rintro q sl h' ms' ⟨k,rfl,rfl,rfl,rfl,hk,hall⟩;refine Ac<|Ar<|Qm Y<|Qm Y<|Qx (Aq (rW _) Y CN Y) Y<|Qm Y<|Am ?_;refine Aw Y (λhlt=>?_)<|λhlt=>?_
 ·have hkm:k<m:=ω
  have hkl:k<lc.length:=ω
  obtain⟨t,ht⟩:∃t,lc[k]=t:=⟨_,Y⟩
  have gT:∀ms,Seg h2 ms ((AH w).add (k*3)) (DQ t):=λms=>by rw[<-ht];exact(CR.rd.any (ms:=ms)).seg hkl
  have t0_:∀ms,Cell h2 ms (((AH w).add (k*3)).add 0) (.w t.1):=λms=>Gq (gT ms);refine Ah<|Ab<|Ac<|Ag<|Ar<|Qm Y<|Am<|Ac<|Ar<|Qm Y<|Am<|Ag ?_;refine AB (λq sl h' ms'=>∃(j:Nat),n-j=q/\sl=[(1,.w d),(3,.pt g3),(7,w),(8,.w (k:Int)),(9,.bool (HS (o.take j) d t.1)),(10,.w (j:Int))]/\h2=h'/\ms'=[]/\j<=n) (n-0) _ ⟨0,Y,Y,Y,Y,ω⟩ Qs ?_;rintro q sl h' ms' ⟨j,rfl,rfl,rfl,rfl,hj⟩;refine Ac<|Ar<|Qm Y<|Qf Ct Y<|Ql Y B0 (c0 _ l2' _)<|Qx (Aq (rV _ l02).any Y B0 Y) Y<|Qm Y<|Am ?_;refine Aw Y (λhjn=>?_)<|λhjn=>?_
  ·have hjn':j<n:=ω
   have hjl:j<l.length:=ω
   have hjo:j<o.length:=ω
   obtain⟨x,hx⟩:∃x,l[j]=x:=⟨_,Y⟩
   have hox:o[j]=x.c:=by subst ho;rw[gl,hx]
   have gE:∀ms,Seg h2 ms ((AH v).add (j*3)) (cC x):=λms=>by rw[<-hx];exact((X.rd.q.up l02).any (ms:=ms)).seg hjl
   have e0:∀ms,Cell h2 ms (((AH v).add (j*3)).add 0) (.w x.c.id):=λms=>gE ms 0 _ Y;have e1:∀ms,Cell h2 ms (((AH v).add (j*3)).add 1) (.w x.c.dim):=λms=>gE ms 1 _ Y;have etk:HS (o.take (j+1)) d t.1=(HS (o.take j) d t.1||(decide (x.c.id=t.1)&&decide (x.c.dim=d))):=by rw[ak hjo,hox,Aai]
   refine Ah<|Ab<|Ac<|Ag ?_;refine Bv (λsl h' ms'=>sl=[(1,.w d),(3,.pt g3),(7,w),(8,.w (k:Int)),(9,.bool (HS (o.take j) d t.1)),(10,.w (j:Int)),(47,.bool (decide (x.c.id=t.1)&&decide (x.c.dim=d)))]/\h2=h'/\ms'=[]) ?_<|λs h ms hI=>?_
   ·by_cases hid:x.c.id=t.1
    ·refine AS (n:=22) (bs:=[ig,ig,ig,ig,ig,ig,ig,ig,ig,ig,ig,ig,ii,ii,ii,ii,ii,ii,ii,ii,ii,ii]) [ig,ig,ig,ig,ig,ig,ig,ig,ig,ig,ig,ig] CC κ κ Y Y<|QF Ct Y<|QL Y B0 (c0 _ l2' _)<|Qq Y<|Qp Y (AM (j) (rV _ l02).any Y B0 A3 Y Y ω ω)<|QF BZ Y<|QL Y U3 (e0 _)<|Qq Y<|Qq Y<|Qp Y (AM (k) (rW _) Y CN Co Y Y ω ω)<|QF Ga Y<|QL Y U3 (t0_ _)<|Qp Y (Cw (Cq Y Y Y)<|aw Value.bool<|bq hid) ?_;unfold Dd;simp only[bh,ap];refine Qo 12 Y<|Qm Y<|Qw<|B6 13 39 κ Y Y Y Y Y (BE) Y (oF Ct Y)<|B6 14 40 κ Y Y Y Y Y (BE) Y (oL Y B0<|c0 _ l2' _)<|B6 15 41 κ Y Y Y Y Y (BE) Y (Au Y Y)<|B6 16 42 κ Y Y Y Y Y (BE) Y (AM (j) (rV _ l02).any Y B0 A3 Y Y ω ω)<|B6 17 43 κ Y Y Y Y Y (BE) Y (oF Cj Y)<|B6 18 44 κ Y Y Y Y Y (BE) Y (oL Y U3<|e1 _)<|B6 19 45 κ Y Y Y Y Y (BE) Y (Au Y Y)<|B6 20 46 κ Y Y Y Y Y (BE) Y (Cq Y Y Y)<|Qo 21 Y<|Qm Y<|Qw<|Qe ?_;exact AI _ ⟨by rw[bq hid,Bool.true_and],rfl,rfl⟩ Qs
    ·refine AS (n:=22) (bs:=[ig,ig,ig,ig,ig,ig,ig,ig,ig,ig,ig,ig,ii,ii,ii,ii,ii,ii,ii,ii,ii,ii]) [ig,ig,ig,ig,ig,ig,ig,ig,ig,ig,ig,ig] CC κ κ Y Y<|QF Ct Y<|QL Y B0 (c0 _ l2' _)<|Qq Y<|Qp Y (AM (j) (rV _ l02).any Y B0 A3 Y Y ω ω)<|QF BZ Y<|QL Y U3 (e0 _)<|Qq Y<|Qq Y<|Qp Y (AM (k) (rW _) Y CN Co Y Y ω ω)<|QF Ga Y<|QL Y U3 (t0_ _)<|Qp Y (Cw (Cq Y Y Y)<|aw Value.bool<|cg hid) ?_;unfold Dd;simp only[bh,ap];refine Qo 12 Y<|Qm Y<|Qw<|A4 [13,15,19] κ Y ?_;refine AA Y ?_ ?_;refine Qk Y<|Qw<|A4 [14,15,19] κ Y ?_;refine AA Y ?_ ?_;refine Qk Y<|Qw<|A4 [15,19] κ Y ?_;refine AA Y ?_ ?_;refine Qk Y<|Qw<|A4 [16,19] κ Y ?_;refine AA Y ?_ ?_;refine Qk Y<|Qw<|A4 [17,19] κ Y ?_;refine AA Y ?_ ?_;refine Qk Y<|Qw<|A4 [18,19] κ Y ?_;refine AA Y ?_ ?_;refine Qk Y<|Qw<|Qo 19 Y<|Qk Y<|Qw ?_
     rotate_left
     refine AA Y ?_ ?_;refine Qk Y<|Qw<|Qo 18 Y<|Qk Y<|Qw ?_
     rotate_left
     exact A5;refine AA Y ?_ ?_;refine Qk Y<|Qw<|Qo 17 Y<|Qk Y<|Qw<|Qo 18 Y<|Qk Y<|Qw ?_
     rotate_left
     exact A5;refine AA Y ?_ ?_;refine Qk Y<|Qw<|Qo 16 Y<|Qk Y<|Qw<|Qo 17 Y<|Qk Y<|Qw<|Qo 18 Y<|Qk Y<|Qw ?_
     rotate_left
     exact A5;refine AA Y ?_ ?_;refine Qk Y<|Qw<|Qo 15 Y<|Qk Y<|Qw<|Qo 16 Y<|Qk Y<|Qw<|Qo 17 Y<|Qk Y<|Qw<|Qo 18 Y<|Qk Y<|Qw ?_
     rotate_left
     exact A5;refine AA Y ?_ ?_;refine Qk Y<|Qw<|A4 [14,19] κ Y ?_;refine AA Y ?_ ?_;refine Qk Y<|Qw<|A4 [16,19] κ Y ?_;refine AA Y ?_ ?_;refine Qk Y<|Qw<|A4 [17,19] κ Y ?_;refine AA Y ?_ ?_;refine Qk Y<|Qw<|A4 [18,19] κ Y ?_;refine AA Y ?_ ?_;refine Qk Y<|Qw<|Qo 19 Y<|Qk Y<|Qw ?_
     rotate_left
     refine AA Y ?_ ?_;refine Qk Y<|Qw<|Qo 18 Y<|Qk Y<|Qw ?_
     rotate_left
     exact A5;refine AA Y ?_ ?_;refine Qk Y<|Qw<|Qo 17 Y<|Qk Y<|Qw<|Qo 18 Y<|Qk Y<|Qw ?_
     rotate_left
     exact A5;refine AA Y ?_ ?_;refine Qk Y<|Qw<|Qo 16 Y<|Qk Y<|Qw<|Qo 17 Y<|Qk Y<|Qw<|Qo 18 Y<|Qk Y<|Qw ?_
     rotate_left
     exact A5;refine AA Y ?_ ?_;refine Qk Y<|Qw<|Qo 14 Y<|Qk Y<|Qw<|Qo 16 Y<|Qk Y<|Qw<|Qo 17 Y<|Qk Y<|Qw<|Qo 18 Y<|Qk Y<|Qw ?_
     rotate_left
     exact A5;refine AA Y ?_ ?_;refine Qk Y<|Qw<|A4 [14,15] κ Y ?_;refine AA Y ?_ ?_;refine Qk Y<|Qw<|Qo 15 Y<|Qk Y<|Qw<|Qo 16 Y<|Qk Y<|Qw<|Qo 17 Y<|Qk Y<|Qw<|Qo 18 Y<|Qk Y<|Qw ?_
     rotate_left
     refine AA Y ?_ ?_;refine Qk Y<|Qw<|Qo 14 Y<|Qk Y<|Qw<|Qo 16 Y<|Qk Y<|Qw<|Qo 17 Y<|Qk Y<|Qw<|Qo 18 Y<|Qk Y<|Qw ?_
     rotate_left
     exact A5;exact A5;refine AA Y ?_ ?_;refine Qk Y<|Qw<|A4 [13,19] κ Y ?_;refine AA Y ?_ ?_;refine Qk Y<|Qw<|A4 [14,19] κ Y ?_;refine AA Y ?_ ?_;refine Qk Y<|Qw<|A4 [16,19] κ Y ?_;refine AA Y ?_ ?_;refine Qk Y<|Qw<|A4 [17,19] κ Y ?_;refine AA Y ?_ ?_;refine Qk Y<|Qw<|A4 [18,19] κ Y ?_;refine AA Y ?_ ?_;refine Qk Y<|Qw<|Qo 19 Y<|Qk Y<|Qw ?_
     rotate_left
     refine AA Y ?_ ?_;refine Qk Y<|Qw<|Qo 18 Y<|Qk Y<|Qw ?_
     rotate_left
     exact A5;refine AA Y ?_ ?_;refine Qk Y<|Qw<|Qo 17 Y<|Qk Y<|Qw<|Qo 18 Y<|Qk Y<|Qw ?_
     rotate_left
     exact A5;refine AA Y ?_ ?_;refine Qk Y<|Qw<|Qo 16 Y<|Qk Y<|Qw<|Qo 17 Y<|Qk Y<|Qw<|Qo 18 Y<|Qk Y<|Qw ?_
     rotate_left
     exact A5;refine AA Y ?_ ?_;refine Qk Y<|Qw<|Qo 14 Y<|Qk Y<|Qw<|Qo 16 Y<|Qk Y<|Qw<|Qo 17 Y<|Qk Y<|Qw<|Qo 18 Y<|Qk Y<|Qw ?_
     rotate_left
     exact A5;refine AA Y ?_ ?_;refine Qk Y<|Qw<|Qo 13 Y<|Qk Y<|Qw<|Qo 14 Y<|Qk Y<|Qw<|Qo 16 Y<|Qk Y<|Qw<|Qo 17 Y<|Qk Y<|Qw<|Qo 18 Y<|Qk Y<|Qw ?_
     rotate_left
     exact A5;refine AA Y ?_ ?_;refine Qk Y<|Qw<|A4 [13,15] κ Y ?_;refine AA Y ?_ ?_;refine Qk Y<|Qw<|A4 [14,15] κ Y ?_;refine AA Y ?_ ?_;refine Qk Y<|Qw<|Qo 15 Y<|Qk Y<|Qw<|Qo 16 Y<|Qk Y<|Qw<|Qo 17 Y<|Qk Y<|Qw<|Qo 18 Y<|Qk Y<|Qw ?_
     rotate_left
     refine AA Y ?_ ?_;refine Qk Y<|Qw<|Qo 14 Y<|Qk Y<|Qw<|Qo 16 Y<|Qk Y<|Qw<|Qo 17 Y<|Qk Y<|Qw<|Qo 18 Y<|Qk Y<|Qw ?_
     rotate_left
     exact A5;refine AA Y ?_ ?_;refine Qk Y<|Qw<|Qo 13 Y<|Qk Y<|Qw<|Qo 14 Y<|Qk Y<|Qw<|Qo 16 Y<|Qk Y<|Qw<|Qo 17 Y<|Qk Y<|Qw<|Qo 18 Y<|Qk Y<|Qw ?_
     rotate_left
     exact A5;exact A5
     all_goals
      refine Qo 20 Y<|Qk Y<|Qw<|Qo 21 Y<|Qm Y<|Qw<|Qe ?_;exact AI _ ⟨by rw[cg hid,Bool.false_and],rfl,rfl⟩ Qs
   ·obtain⟨rfl,rfl,rfl⟩:=hI;obtain⟨u,hu⟩:∃u,(decide (x.c.id=t.1)&&decide (x.c.dim=d))=u:=⟨_,Y⟩
    rw[hu]at etk ⊢;cases u
    ·refine AL Y<|Ah<|Ai<|Ab<|Ad<|Qm Y<|Qx (oA Y) Y<|Qm Y<|An ?_;exact Ao (n-(j+1)) _ ω ⟨j+1,Y,by rw[etk,Bool.or_false],rfl,rfl,ω⟩ Qs
    ·refine AX Y<|Ad<|Qm Y<|An<|Ai<|Ab<|Ad<|Qm Y<|Qx (oA Y) Y<|Qm Y<|An ?_;exact Ao (n-(j+1)) _ ω ⟨j+1,Y,by rw[etk,Bool.or_true],rfl,rfl,ω⟩ Qs
  ·obtain rfl:j=n:=ω
   rw[show o.take j=o from take_of_length_le ω];obtain⟨u,hu⟩:∃u,HS o d t.1=u:=⟨_,Y⟩
   rw[hu];cases u
   ·refine Ax<|Aa<|Aa<|Af<|Ab<|Ar<|Qm Y<|Qm Y<|Am<|AX Y<|Ar<|Qm Y<|Am<|Aj<|Ak<|Ae<|Ae<|Ak<|Ae ?_
    have hret:false=Eb o d a:=by rw[<-PB CL];have:(lc.any λp=>!HS o d p.1)=true:=List.any_eq_true.2 ⟨t,ht ▸ ao hkl,by rw[hu];rfl⟩;rw[this];rfl
    exact Al Y Y<|aw Value.bool hret
   ·refine Ax<|Aa<|Aa<|Af<|Ab<|Ar<|Qm Y<|Qm Y<|Am<|AL Y<|Ah<|Ai<|Ab<|Ad<|Qm Y<|Qx (oA Y) Y<|Qm Y<|An ?_
    exact Ao (m-(k+1)) _ ω ⟨k+1,Y,Y,Y,Y,ω,λi hi h=>by
     by_cases e:i=k
     ·subst e;rw[ht];exact hu
     ·exact hall i hi ω⟩ Qs
 ·obtain rfl:k=m:=ω
  refine Ax<|Aa<|Aa<|Af<|Ab<|Ar<|Qm Y<|Am<|Aj ?_
  have hret:true=Eb o d a:=by
   rw[<-PB CL]
   have:(lc.any λp=>!HS o d p.1)=false:=by rw[List.any_eq_false];intro p hp;obtain⟨i,hi,rfl⟩:=dm.1 hp;rw[hall i hi ω];simp
   rw[this];rfl
  exact Al Y Y<|aw Value.bool hret
end
section
variable {n k b m j:Nat} {all:List (List Int)} {S l t s:List Int} {f:Nat->Int}
abbrev Inc(l:List Int):Prop:=l.Pairwise (· < ·)
theorem PP{x:Int}(h:t.Sublist (l++[x])):t.Sublist l\/∃t',t=t'++[x]/\t'.Sublist l:=by
 obtain⟨t1,t2,e,h1,h2⟩:=List.sublist_append_iff.1 h
 have h3:t2=[]\/t2=[x]:=by
  cases h2 with
  | cons _ h=>exact .inl<|List.sublist_nil.1 h
  | cons_cons _ h=>exact .inr (by rw[List.sublist_nil.1 h])
 rcases h3 with rfl|rfl
 ·left;rw[e,append_nil];exact h1
 ·exact .inr ⟨t1,e,h1⟩
theorem QV(s:List Int)(b:Nat):∀n,n<=s.length->(Fk s b n).Sublist (s.take n)
 | 0,_=>by simp[Fk]
 | n+1,h=>by
  rw[IX,ak ω];refine(QV s b n ω).append ?_;split
  ·simp[List.getD,show n<s.length by omega]
  ·simp
theorem Wx{b':Nat}(h:∀k,k<n->b.testBit k=b'.testBit k):Fk s b n=Fk s b' n:=by unfold Fk;congr 1;exact List.filter_congr λk hk=>h k<|cm.1 hk
theorem Mn(s:List Int):∀n,n<=s.length->∀t:List Int,t.Sublist (s.take n)->∃b,b<2^n/\t=Fk s b n
 | 0,_,t,ht=>⟨0,by simp,by simpa[Fk] using ht⟩
 | n+1,h,t,ht=>by
  rw[ak ω]at ht;have h2:2^(n+1)=2^n+2^n:=by rw[Nat.pow_succ];omega
  rcases PP ht with h1|⟨t',rfl,h1⟩
  ·obtain⟨b,hb,e⟩:=Mn s n ω t h1;refine⟨b,ω,?_⟩;rw[IX,Nat.testBit_lt_two_pow hb,e];simp
  ·obtain⟨b,hb,e⟩:=Mn s n ω t' h1;refine⟨2^n+b,ω,?_⟩;rw[IX,Nat.testBit_two_pow_add_eq,Nat.testBit_lt_two_pow hb,e];rw[Wx (b:=2^n+b) (b':=b) λk hk=>Nat.testBit_two_pow_add_gt hk b];simp[List.getD,show n<s.length by omega]
theorem WN(s:List Int)(n:Nat):Fk s 0 n=[]:=by simp[Fk]
theorem Tz(H:SrtB all):t∈DG all s (2^s.length-1)<->t∈all\/(t≠[]/\t.Sublist s)\/(t=[]/\∃b,1<=b/\b<=2^s.length-1/\Fk s b s.length=[]):=by
 rw[Jf H];constructor
 ·rintro(h|⟨b,h1,h2,rfl⟩)
  ·exact .inl h
  ·by_cases h3:Fk s b s.length=[]
   ·exact .inr<|.inr ⟨h3,b,h1,h2,h3⟩
   ·refine .inr<|.inl ⟨h3,?_⟩;have:=QV s b s.length (am _)
    rwa [fe]at this
 ·rintro(h|⟨h1,h2⟩|⟨rfl,b,h1,h2,h3⟩)
  ·exact .inl h
  ·obtain⟨b,hb,e⟩:=Mn s s.length (am _) t (by rw[fe];exact h2);refine .inr ⟨b,?_,ω,e⟩;rcases f9 b with rfl|h
   ·rw[WN]at e;exact ie e h1
   ·exact h
  ·exact .inr ⟨b,h1,h2,h3.symm⟩
theorem Aci(h1:1<=b)(h2:b<2^s.length):Fk s b s.length≠[]:=λh=>by
 have:b=0:=Nat.eq_of_testBit_eq λk=>by
  rw[Nat.zero_testBit];by_cases hk:k<s.length
  ·cases hb:b.testBit k with
   | false=>rfl
   | true=>
    have:s.getD k 0∈Fk s b s.length:=by unfold Fk;exact ag.2 ⟨k,dh.2 ⟨cm.2 hk,hb⟩,Y⟩
    rw[h]at this;cases this
  ·exact Nat.testBit_lt_two_pow<|b6 h2<|Nat.pow_le_pow_right δ ω
 omega
theorem Y9{x:Int}(h:Inc l)(hn:¬Nm x l):Inc (KQ x l):=by
 unfold Nm at hn;unfold KQ
 have h1:∀y∈l.takeWhile (λy=>decide (y<x)),y<x:=λy hy=>by have:=d7.1 (List.all_takeWhile (p:=λy:Int=>decide (y<x)) (l:=l)) y hy;simpa using this
 have h2:∀l:List Int,Inc l->(l.dropWhile λy=>decide (y<x)).head?≠some x->∀y∈l.dropWhile (λy=>decide (y<x)),x<y:=λl=>by
  induction l with
  | nil=>intro _ _ y hy;cases hy
  | cons a l ih=>
   intro hi hx y hy;rw[List.dropWhile_cons]at hy hx;split at hy
   ·rename_i g;rw[ah g]at hx;exact ih (b7.1 hi).2 hx y hy
   ·rename_i g;rw[ae g]at hx;have g1:¬a<x:=by simpa using g
    have g2:a≠x:=by simpa using hx
    rcases bg.1 hy with rfl|hy
    ·omega
    ·have:=(b7.1 hi).1 y hy;omega
 have h3:=h2 l h hn;refine fh.2 ⟨h.sublist<|List.takeWhile_sublist _,b7.2 ⟨h3,h.sublist<|List.dropWhile_sublist _⟩,λa ha b hb=>?_⟩;have h4:=h1 a ha;rcases bg.1 hb with rfl|hb
 ·exact h4
 ·have:=h3 b hb;omega
theorem Mq:∀(l acc:List Int) (s:List Int),Inc acc->FQ acc l=some s->Inc s
 | [],acc,s,h,e=>by have:acc=s:=bf e;rw[<-this];exact h
 | x::l,acc,s,h,e=>by
  unfold FQ at e;split at e
  ·exact Mq l acc s h e
  ·rename_i hn;split at e
   ·cases e
   ·refine Mq l _ s ?_ e;exact Y9 h hn
structure AllS(all:List (List Int)):Prop where
 srt:SrtB all
 inc:∀s∈all,Inc s
 ne:∀s∈all,s≠[]
 sub:∀s∈all,∀t:List Int,t≠[]->t.Sublist s->t∈all
theorem AllS.faces(A:AllS all)(hs:Inc s):AllS (DG all s (2^s.length-1)):=by
 have hm:∀t,t∈DG all s (2^s.length-1)<->t∈all\/(t≠[]/\t.Sublist s):=λt=>by
  rw[Tz A.srt];refine⟨λh=>?_,λh=>?_⟩
  ·rcases h with h|h|⟨_,b,h1,h2,h3⟩
   ·exact .inl h
   ·exact .inr h
   ·exact ie h3<|Aci h1 (by have:=Nat.two_pow_pos s.length;omega)
  ·rcases h with h|h
   ·exact .inl h
   ·exact .inr<|.inl h
 refine⟨E3 A.srt s _,λt ht=>?_,λt ht=>?_,λt ht u hu hs=>?_⟩
 ·rcases (hm t).1 ht with h|h
  ·exact A.inc t h
  ·exact hs.sublist h.2
 ·rcases (hm t).1 ht with h|h
  ·exact A.ne t h
  ·exact h.1
 ·rw[hm];rcases (hm t).1 ht with h|h
  ·exact .inl<|A.sub t h u hu hs
  ·exact .inr ⟨hu,hs.trans h.2⟩
theorem NY:∀(ll:List (List Int)) (acc all:List (List Int)),AllS acc->Di acc ll=some all->AllS all
 | [],acc,all,h,e=>by have:acc=all:=bf e;rw[<-this];exact h
 | l::ll,acc,all,h,e=>by
  rw[FO]at e;split at e
  ·cases e
  ·refine NY ll _ all ?_ e;cases hs:FQ [] l with
   | none=>exact h
   | some s=>exact h.faces<|Mq l [] s List.Pairwise.nil hs
def nI(all:List (List Int))(t:List Int):Int:=((DE all t).1:Int)+1
theorem AllS.nI_at(A:AllS all)(ht:t∈all):∃j,∃hj:j<all.length,all[j]=t/\nI all t=(j:Int)+1:=by obtain⟨j,hj,rfl⟩:=List.getElem_of_mem ht;exact⟨j,hj,Y,by unfold nI;rw[Ry A.srt hj]⟩
theorem AllS.nI_inj(A:AllS all){u:List Int}(ht:t∈all)(hu:u∈all)(e:nI all t=nI all u):t=u:=by
 obtain⟨j,hj,rfl,e1⟩:=A.nI_at ht;obtain⟨k,hk,rfl,e2⟩:=A.nI_at hu;have:j=k:=ω
 subst this;rfl
def sk(k i:Nat):Nat:=if i<k then i else i+1
theorem HK(k i:Nat):(i<k/\sk k i=i)\/(k<=i/\sk k i=i+1):=by unfold sk;split<;>omega
theorem NT(k i:Nat):sk k i≠k:=by unfold sk;split<;>omega
theorem AeJ{i:Nat}(hi:i<n):sk k i<n+1:=by unfold sk;split<;>omega
theorem G3(l:List Int)(k i:Nat):(l.eraseIdx k)[i]?=l[sk k i]?:=by rw[List.getElem?_eraseIdx];unfold sk;split<;>rfl
def un(j k:Nat):Nat:=if k<j then k else k-1
theorem Mt(j k:Nat):(k<j/\un j k=k)\/(j<=k/\un j k=k-1):=by unfold un;split<;>omega
theorem SZ(h:j≠k):sk j (un j k)=k:=by have:=Mt j k;have:=HK j (un j k);omega
theorem Vb(l:List Int):(l.eraseIdx k).eraseIdx m=(l.eraseIdx (sk k m)).eraseIdx (un (sk k m) k):=by refine List.ext_getElem? λi=>?_;rw[G3,G3,G3,G3];congr 1;have:=HK k m;have:=HK m i;have:=HK k (sk m i);have:=Mt (sk k m) k;have:=HK (un (sk k m) k) i;have:=HK (sk k m) (sk (un (sk k m) k) i);omega
theorem AaP(hn:l.Nodup)(hj:j<l.length):l[j]∈l.eraseIdx k<->j≠k:=by
 rw[List.mem_iff_getElem?];constructor
 ·rintro⟨i,h⟩ e;rw[G3]at h;obtain⟨h1,h2⟩:=br.1 h;have:=Ix hn h1 hj h2;exact NT k i ω
 ·intro h;exact⟨un k j,by rw[G3,SZ (ft h),aj hj]⟩
theorem K0(hn:l.Nodup)(hj:j<l.length):l[j]∈(l.eraseIdx k).eraseIdx m<->j≠k/\j≠sk k m:=by
 rw[List.mem_iff_getElem?];constructor
 ·rintro⟨i,h⟩;rw[G3,G3]at h;obtain⟨h1,h2⟩:=br.1 h;have:=Ix hn h1 hj h2;refine⟨λe=>NT k (sk m i) ω,λe=>?_⟩;have h3:sk k (sk m i)=sk k m:=ω
  have h4:=NT m i;have:=HK k m;have:=HK k (sk m i);omega
 ·rintro⟨h1,h2⟩;have h3:m≠un k j:=λe=>h2 (by rw[e,SZ (ft h1)]);exact⟨un m (un k j),by rw[G3,G3,SZ h3,SZ (ft h1),aj hj]⟩
theorem Afb(hn:l.Nodup){a:Nat}(hl:l.length=n+1)(hk:k<n+1)(hm:m<n)(ha:a<n+1)(hb:b<n):(l.eraseIdx k).eraseIdx m=(l.eraseIdx a).eraseIdx b<->(k=a/\m=b)\/(k=sk a b/\m=un (sk a b) a):=by
 constructor
 ·intro h;have hab:=AeJ (k:=a) hb
  have h1:¬(a≠k/\a≠sk k m):=λq=>by have:=(K0 hn (k:=k) (m:=m) (show a<l.length by omega)).2 q;rw[h]at this;exact((K0 hn (show a<l.length by omega)).1 this).1 Y
  have h2:¬(sk a b≠k/\sk a b≠sk k m):=λq=>by have:=(K0 hn (k:=k) (m:=m) (show sk a b<l.length by omega)).2 q;rw[h]at this;exact((K0 hn (show sk a b<l.length by omega)).1 this).2 Y
  have h3:=NT a b;have:=HK k m;have:=HK a b;have:=Mt (sk a b) a;omega
 ·rintro(⟨rfl,rfl⟩|⟨rfl,rfl⟩)
  ·rfl
  ·exact(Vb l).symm
def rs(n:Nat)(f:Nat->Int):Int:=((range n).map f).sum
theorem O7(n:Nat)(f:Nat->Int):rs (n+1) f=rs n f+f n:=by unfold rs;rw[List.range_succ,dd,List.sum_append];simp
theorem UH(h:∀i,i<n->f i=0):rs n f=0:=by
 induction n with
 | zero=>rfl
 | succ n ih=>rw[O7,ih λi hi=>h i ω,h n ω];rfl
theorem O9(hk:k<n)(h:∀i,i<n->i≠k->f i=0):rs n f=f k:=by
 induction n with
 | zero=>omega
 | succ n ih=>
  rw[O7];rcases (ω:k=n\/k<n) with rfl|h1
  ·rw[UH λi hi=>h i ω ω,Int.zero_add]
  ·rw[ih h1 λi hi=>h i ω,h n ω ω,fz]
theorem Adr{k':Nat}(hk:k<n)(hk':k'<n)(hne:k≠k')(h:∀i,i<n->i≠k->i≠k'->f i=0):rs n f=f k+f k':=by
 induction n with
 | zero=>omega
 | succ n ih=>
  rw[O7];rcases (ω:k=n\/(k<n/\k'=n)\/(k<n/\k'<n)) with rfl|⟨h1,rfl⟩|⟨h1,h2⟩
  ·rw[O9 (k:=k') ω λi hi hn=>h i ω ω hn,Int.add_comm]
  ·rw[O9 (k:=k) h1 λi hi hn=>h i ω hn ω]
  ·rw[ih h1 h2 λi hi=>h i ω,h n ω ω ω,fz]
theorem Se{α:Type}(f:α->List Int):∀l:List α,(l.flatMap f).sum=(l.map λa=>(f a).sum).sum
 | []=>rfl
 | a::l=>by rw[List.flatMap_cons,List.sum_append,Se f l,dr,sum_cons]
def sg(k:Nat):Int:=1-2*((k:Int)%2)
theorem Vq(k:Nat):sg (k+1)=- sg k:=by unfold sg;omega
theorem Ae3(k:Nat):sg k=1\/sg k=-1:=by unfold sg;omega
def Jw(all:List (List Int))(t:List Int):List (Int×Int):=(range t.length).map λk=>(nI all (t.eraseIdx k),sg k)
def sc(all:List (List Int))(t:List Int):Cl:=⟨nI all t,(t.length:Int)-1,if t.length<=1 then [] else Dm (Jw all t)⟩
theorem Tr(A:AllS all):(range all.length).map (Eu all)=all.map (sc all):=by
 refine fw σ λj h1 h2=>?_;have hj:j<all.length:=by simpa using h2
 rw[gl,gl,List.getElem_range];have e:all.getD j []=all[j]:=by simp[List.getD,hj]
 unfold Eu sc;rw[e];unfold nI;rw[Ry A.srt hj];rfl
def Wn(all:List (List Int))(S:List Int)(n:Nat):HA:=(range (n+1)).flatMap λk=>(range n).map λm=>(nI all (S.eraseIdx k),nI all ((S.eraseIdx k).eraseIdx m),sg k*sg m)
theorem QI(all:List (List Int))(S:List Int)(n:Nat)(g:Int×Int×Int->Int):((Wn all S n).map g).sum=rs (n+1) λk=>rs n λm=>g (nI all (S.eraseIdx k),nI all ((S.eraseIdx k).eraseIdx m),sg k*sg m):=by unfold Wn;rw[List.map_flatMap,Se];unfold rs;simp only[gg];rfl
theorem YE(A:AllS all)(hS:S∈all)(hl:S.length=n+1)(hn:1<=n)(hk:k<n+1):S.eraseIdx k∈all:=by refine A.sub S hS _ (λe=>?_)<|List.eraseIdx_sublist _ _;have:=aw List.length e;rw[List.length_eraseIdx,ah ω]at this;simp at this;omega
theorem OZ(hl:S.length=n+1)(hk:k<n+1):(S.eraseIdx k).length=n:=by rw[List.length_eraseIdx,ah ω];omega
theorem SC(A:AllS all)(hS:S∈all){a:Nat}(hl:S.length=n+1)(hn:2<=n)(ha:a<n+1)(hb:b<n)(w:Nat->Nat->Int):(rs (n+1) λk=>rs n λm=>if nI all ((S.eraseIdx k).eraseIdx m)=nI all ((S.eraseIdx a).eraseIdx b) then w k m else 0)=w a b+w (sk a b) (un (sk a b) a):=by
 have hnd:S.Nodup:=(A.inc S hS).imp λh e=>ω
 have hin:∀k m,k<n+1->m<n->(S.eraseIdx k).eraseIdx m∈all:=λk m hk hm=>by
  obtain⟨n',rfl⟩:∃n',n=n'+1:=⟨n-1,ω⟩
  exact YE A (YE A hS hl ω hk) (OZ hl hk) ω hm
 have hiff:∀k m,k<n+1->m<n->(nI all ((S.eraseIdx k).eraseIdx m)=nI all ((S.eraseIdx a).eraseIdx b)<->(k=a/\m=b)\/(k=sk a b/\m=un (sk a b) a)):=λk m hk hm=>by rw[<-Afb hnd hl hk hm ha hb];exact⟨λh=>A.nI_inj (hin k m hk hm) (hin a b ha hb) h,λh=>by rw[h]⟩
 have h1:=NT a b;have h2:=HK a b;have h3:=Mt (sk a b) a
 rw[Adr (k:=a) (k':=sk a b) ha ω (ft h1) λk hk q1 q2=>UH λm hm=>ae λq=>by
  rcases (hiff k m hk hm).1 q with q|q
  ·exact q1 q.1
  ·exact q2 q.1]
 rw[O9 (k:=b) hb λm hm q=>ae λq'=>by
   rcases (hiff a m ha hm).1 q' with q'|q'
   ·exact q q'.2
   ·exact h1 q'.1.symm,ah Y,
  O9 (k:=un (sk a b) a) ω λm hm q=>ae λq'=>by
   rcases (hiff (sk a b) m ω hm).1 q' with q'|q'
   ·exact h1 q'.1
   ·exact q q'.2,ah ((hiff _ _ ω ω).2 (.inr ⟨Y,Y⟩))]
theorem RV{e:Int×Int×Int}(h:e∈Wn all S n):∃k m,k<n+1/\m<n/\e=(nI all (S.eraseIdx k),nI all ((S.eraseIdx k).eraseIdx m),sg k*sg m):=by obtain⟨k,hk,h1⟩:=List.mem_flatMap.1 h;obtain⟨m,hm,rfl⟩:=ag.1 h1;exact⟨k,m,cm.1 hk,cm.1 hm,Y⟩
theorem Q9(hk:k<n+1)(hm:m<n):(nI all (S.eraseIdx k),nI all ((S.eraseIdx k).eraseIdx m),sg k*sg m)∈Wn all S n:=List.mem_flatMap.2 ⟨k,cm.2 hk,ag.2 ⟨m,cm.2 hm,rfl⟩⟩
theorem Wt(A:AllS all)(hS:S∈all)(hl:S.length=n+1)(hn:2<=n):GoodT (Wn all S n) (Jw all S) where
 sum:=λe he=>by
  obtain⟨a,b,ha,hb,rfl⟩:=RV he;unfold EW;rw[QI];refine(SC A hS hl hn ha hb λk m=>sg k*sg m).trans ?_;have h1:=NT a b;have h2:=HK a b;have h3:=Mt (sk a b) a;rcases h2 with ⟨h4,h5⟩|⟨h4,h5⟩
  ·rw[h5]at h3 ⊢;obtain⟨c,rfl⟩:∃c,a=c+1:=⟨a-1,ω⟩
   rw[show un b (c+1)=c by omega,Vq,Int.neg_mul,f7 (sg b)];omega
  ·rw[h5]at h3 ⊢;rw[show un (b+1) a=a by omega,Vq,Int.neg_mul,f7 (sg b)];omega
 two:=λe he=>by obtain⟨a,b,ha,hb,rfl⟩:=RV he;unfold Gz;rw[QI];exact SC A hS hl hn ha hb λk m=>1
 con:=λa ha b hb=>by
  unfold Jw at ha hb;obtain⟨k,hk,rfl⟩:=ag.1 ha;obtain⟨k',hk',rfl⟩:=ag.1 hb;have hk:=cm.1 hk;have hk':=cm.1 hk';show Con _ (nI all (S.eraseIdx k)) (nI all (S.eraseIdx k'));by_cases e:k=k'
  ·subst e;exact .refl _
  ·have h1:=Mt k k';have h2:=Mt k' k
   have h3:(S.eraseIdx k).eraseIdx (un k k')=(S.eraseIdx k').eraseIdx (un k' k):=by rw[Vb S (k:=k) (m:=un k k'),SZ e]
   have m1:=Q9 (all:=all) (S:=S) (n:=n) (k:=k) (m:=un k k') ω ω;have m2:=Q9 (all:=all) (S:=S) (n:=n) (k:=k') (m:=un k' k) ω ω;rw[h3]at m1;exact .step (.refl _) m1 m2
theorem AllS.nil:AllS []:=⟨List.Pairwise.nil,nofun,nofun,nofun⟩
theorem MG(ll:List (List Int)):Rgt (DI ll):=by
 have hbd:=Mu ll;unfold DI at *;cases h:Di [] ll with
 | none=>exact Rgt.nil
 | some all=>
  rw[h]at hbd;have A:=NY ll [] all AllS.nil h;have h9:=FM ll [] all List.Pairwise.nil (λt ht=>nomatch ht) h;show Rgt ((range all.length).map (Eu all));have hbd1:((range all.length).map (Eu all)).length<=4000:=hbd.1;rw[Tr A]at hbd1 ⊢
  have hlen:∀t∈all,1<=t.length:=λt ht=>by
   have:=A.ne t ht;cases t with
   | nil=>exact ie Y this
   | cons a t=>simp
  have hnd:((all.map (sc all)).map Cl.id).Nodup:=by rw[gg];refine dz.2 ((A.srt.imp λ{a b} h e=>?_:all.Pairwise (·≠·)).imp_of_mem λ{a b} ha hb hne e=>hne<|A.nI_inj ha hb e);rw[e,H3]at h;cases h
  have hcel:∀t∈all,GF (all.map (sc all)) (nI all t)=sc all t:=λt ht=>DT hnd (ag.2 ⟨t,ht,Y⟩);have hsd:∀t∈all,2<=t.length->(sc all t).sd=Dm (Jw all t):=λt _ h=>ae ω;have hraw:∀t:List Int,(Jw all t).length=t.length:=λt=>by simp[Jw]
  have hside:∀t∈all,∀s∈(sc all t).sd,∃k,k<t.length/\2<=t.length/\s=(nI all (t.eraseIdx k),sg k):=λt ht s hs=>by
   by_cases h2:2<=t.length
   ·rw[hsd t ht h2]at hs;have hs:=(Du _).mem_iff.1 hs;unfold Jw at hs;obtain⟨k,hk,rfl⟩:=ag.1 hs;exact⟨k,cm.1 hk,h2,Y⟩
   ·have:(sc all t).sd=[]:=ah ω;rw[this]at hs;cases hs
  have hin:∀t∈all,2<=t.length->∀k,k<t.length->t.eraseIdx k∈all:=λt ht h2 k hk=>YE A ht (n:=t.length-1) ω ω ω;refine⟨hbd1,hnd,λx hx=>?_,λx hx=>?_,λx hx=>?_,λx hx=>?_,λx hx s hs=>?_,λx hx s hs=>?_,λx hx hd=>?_,λx hx hd=>?_⟩<;>obtain⟨t,ht,rfl⟩:=ag.1 hx<;>have hl1:=hlen t ht<;>have hl9:=h9 t ht
  ·show 1<=nI all t;unfold nI;omega
  ·show 0<=(t.length:Int)-1/\(t.length:Int)-1<=8;omega
  ·unfold Cb;show ¬(((t.length:Int)-1=0/\0<(sc all t).sd.length)\/((t.length:Int)-1=1/\(sc all t).sd.length≠2)\/(1<(t.length:Int)-1/\((sc all t).sd.length<2\/64<(sc all t).sd.length)));by_cases h2:2<=t.length
   ·rw[hsd t ht h2,Hy,hraw];omega
   ·have:(sc all t).sd=[]:=ah ω;rw[this];simp;omega
  ·by_cases h2:2<=t.length
   ·rw[hsd t ht h2,((Du (Jw all t)).map Prod.fst).nodup_iff];unfold Jw;rw[gg];refine dz.2 ((List.nodup_range (n:=t.length)).imp_of_mem λ{a b} ha hb hne e=>hne ?_);have ha:=cm.1 ha;have hb:=cm.1 hb;have e:=A.nI_inj (hin t ht h2 a ha) (hin t ht h2 b hb) e;have hnd:t.Nodup:=(A.inc t ht).imp λh e=>ω
    have h3:t[a] ∉ t.eraseIdx a:=λq=>(AaP hnd ha).1 q Y;rw[e,AaP hnd ha]at h3;exact ef.1 h3
   ·have:(sc all t).sd=[]:=ah ω;rw[this];simp
  ·obtain⟨k,hk,h2,rfl⟩:=hside t ht s hs;refine⟨_,ag.2 ⟨_,hin t ht h2 k hk,Y⟩,Y,?_⟩;show((t.eraseIdx k).length:Int)-1=(t.length:Int)-1-1;rw[OZ (n:=t.length-1) ω ω];omega
  ·obtain⟨k,hk,h2,rfl⟩:=hside t ht s hs;exact Ae3 k
  ·have hd:(t.length:Int)-1=1:=hd;have h2:t.length=2:=ω
   rw[hsd t ht ω,JT ((Du (Jw all t)).map Prod.snd)];unfold Jw;rw[h2];rfl
  ·have hd:2<=(t.length:Int)-1:=hd;obtain⟨n,hl⟩:∃n,t.length=n+1:=⟨t.length-1,ω⟩
   have h2:2<=t.length:=ω
   refine(Wt A ht hl ω).perm ?_ (by rw[hsd t ht h2];exact(Du _).symm);unfold KR;rw[hsd t ht h2]
   have e:Wn all t n=QW (λc=>if c=0 then [] else Jw all (all.getD (c-1).toNat [])) (Jw all t):=by
    unfold QW Jw;rw[List.flatMap_map,hl];refine Hw λk hk=>?_;have hk:=cm.1 hk;obtain⟨j,hj,e1,e2⟩:=A.nI_at (hin t ht h2 k ω);show _=List.map _ (if nI all (t.eraseIdx k)=0 then [] else _);rw[ae ω]
    have e3:all.getD (nI all (t.eraseIdx k)-1).toNat []=t.eraseIdx k:=by rw[e2,show(((j:Int)+1)-1).toNat=j by omega];simp[List.getD,hj,e1]
    rw[e3,gg,OZ hl ω];rfl
   rw[e];refine Kd (Du _).symm λs hs=>List.Perm.map _ ?_;unfold Jw at hs;obtain⟨k,hk,rfl⟩:=ag.1 hs;have hk:=cm.1 hk;obtain⟨j,hj,e1,e2⟩:=A.nI_at (hin t ht h2 k hk);show List.Perm (if nI all (t.eraseIdx k)=0 then [] else _) (GF (all.map (sc all)) (nI all (t.eraseIdx k))).sd;rw[ae ω,hcel _ (hin t ht h2 k hk)]
   have e3:all.getD (nI all (t.eraseIdx k)-1).toNat []=t.eraseIdx k:=by rw[e2,show(((j:Int)+1)-1).toNat=j by omega];simp[List.getD,hj,e1]
   rw[e3,hsd _ (hin t ht h2 k hk) (by rw[OZ hl ω];omega)];exact(Du _).symm
theorem Acu(ll:List (List Int)):∀x∈DI ll,x.id<=(DI ll).length:=by
 unfold DI;cases h:Di [] ll with
 | none=>nofun
 | some all=>
  intro x hx;obtain⟨i,hi,rfl⟩:=ag.1 hx;have hi:=cm.1 hi;show(i:Int)+1<=(((range all.length).map (Eu all)).length:Nat);rw[be,List.length_range];omega
end
section
open Go.Lin Go.Wd Go.Sm Go.Ch
theorem Ko{l:List Cl}(R:Rgt l):GP l=ordF l:=by have F:=R.ordF;refine Uk _ _ (λ_=>nofun) λi hi e=>?_;have:=ct.1 F.inc i (i+1) ω hi ω;omega
theorem Rgt.cs{l:List Ce}(R:Rgt (l.map Ce.c)):CsOk l:=by have hn:=R.n;rw[be]at hn;exact⟨ω,λa ha=>by have:=(R.bds (ag.2 ⟨a,ha,Y⟩)).2;omega⟩
theorem Xa(o:List Cl)(x:Cl)(d:Int):A9 (o++[x]) d=A9 o d++if x.dim=d then [x.id] else []:=by unfold A9;rw[List.filter_append,dd];congr 1;by_cases h:x.dim=d<;>simp[h]
theorem UD(l:List Ce)(v:Value)(h:Hp)(hK:RgC l)(hR:RdC h v l):FnT Tryz.prog 74 #[.agg #[v]] h [] (λr h' ms'=>h.le h'/\ms'=[]/\∃A:List Ce,RdC h' r A/\A.map Ce.c=cn l):=
 FnT.frz (LP l v h hK.r.cs hR) λr h' ms' ⟨q,m,A,e,O,eA,hs⟩=>⟨m,[],e,λh2 l2 lm=>⟨AD q l2,rfl,A,⟨O.rdh lm,λa ha=>(hs a ha).up l2⟩,by rw[eA,Ko hK.r];rfl⟩⟩
theorem Acn(l:List Ce)(v:Value)(d:Int)(hp:Hp)(hK:RgC l)(hR:RdC hp v l):FnT Tryz.prog 35 #[.agg #[v],.int .i64 d] hp [] (λr h' ms'=>hp.le h'/\∃m,ms'=[m]/\OwnL cI 1 3 m r (A9 (cn l) d)):=by
 have ov:=hR.q.rd.one;have hln:=hK.r.n;rw[be]at hln;refine Ap func35 ntmps35 Y Y<|λw0 hw0=>?_;simp only[AR];refine Ar<|AK [_] Y Y (by rfl) Y Y Y<|λg2=>Qm Y<|Am<|Av 0 Y λh1 l1 hS=>Ar<|Qm Y<|Bp<|Qx (oG Y C9 Bd<|Seg.any hS) Y<|Qc call74 Y (UD l v h1 hK<|hR.up l1)<|λw h2 ms2 l2 hF=>?_;obtain⟨l2',rfl,A,hQ,hA⟩:=hF;obtain⟨o,ho⟩:∃o,cn l=o:=⟨_,Y⟩
 rw[ho]at hA ⊢;obtain⟨n,hn⟩:∃n,A.length=n:=⟨_,Y⟩
 have hon:o.length=n:=by rw[<-hA,be,hn]
 have hnb:n<=4000:=by rw[<-hon,<-ho,Jg];omega
 have ow:=hQ.q.rd.one;have rW:Rd h2 [] w 3 n (A.flatMap cC):=by have:=hQ.q.rd;rwa [hn]at this
 refine Qm Y<|Am<|Ac<|Ar<|Qm Y<|Am<|Ag<|BV ?_;refine AB (λq sl h' ms'=>∃(i:Nat) (v5:Value) (m:Hp),n-i=q/\sl=[(1,.w d),(5,v5),(6,w),(7,.w i)]/\h2=h'/\ms'=[m]/\i<=n/\OwnL cI 1 3 m v5 (A9 (o.take i) d)) (n-0) _ ⟨0,_,Hp.emp,Y,Y,Y,Y,ω,OwnL.nil A8⟩ Qs ?_;rintro q sl h' ms' ⟨i,v5,m,rfl,rfl,rfl,rfl,hi,hO⟩;have o5:=hO.o1;refine Ac<|Ar<|Qm Y<|Qm Y<|Qx (Aq rW.any Y B0 Y) Y<|Qm Y<|Am ?_;refine Aw Y (λhlt=>?_)<|λhlt=>?_
 ·have hin:i<n:=ω
  have hil:i<A.length:=ω
  have hio:i<o.length:=ω
  obtain⟨x,hx⟩:∃x,A[i]=x:=⟨_,Y⟩
  have hox:o[i]=x.c:=by subst hA;rw[gl,hx]
  have etk:A9 (o.take (i+1)) d=A9 (o.take i) d++if x.c.dim=d then [x.c.id] else []:=by rw[ak hio,hox,Xa]
  have gE:∀ms,Seg h2 ms ((AH w).add (i*3)) (cC x):=λms=>by rw[<-hx];exact(hQ.q.any (ms:=ms)).seg hil
  have e0:∀ms,Cell h2 ms (((AH w).add (i*3)).add 0) (.w x.c.id):=λms=>gE ms 0 _ Y;have e1:∀ms,Cell h2 ms (((AH w).add (i*3)).add 1) (.w x.c.dim):=λms=>gE ms 1 _ Y;have hfl:(A9 (o.take i) d).length<=4000:=by have:=Gr (o.take i) d;rw[ay]at this;omega
  refine Ah<|Ab<|Ac<|Ag<|Ar<|Qm Y<|Qm Y<|Qx (BC (i) rW.any Y B0 A3 Y Y) Y<|Qf Cj Y<|Ql Y U3 (e1 _)<|Qm Y<|Qm Y<|Am ?_;refine Aw Y (λhd=>?_)<|λhd=>?_
  ·rw[ah hd]at etk;refine Ad<|Qm Y<|Qm Y<|Qm Y<|Qx (BC (i) rW.any Y B0 A3 Y Y) Y<|Qf BZ Y<|Ql Y U3 (e0 _)<|Ay [_] Y AZ Bk Y (by rfl) Y Y ω Y Y Y<|λg29=>AJ 1 hO (RdL.one A8 (x:=x.c.id) Mh Y) Y AZ Bk Y ω Y Y Y BT (by(try simp only[ab]);omega) (by(try simp only[ab]);omega) rfl rfl rfl<|λv9 m9 hO9=>?_;rw[<-etk]at hO9;have o9:=hO9.o1;refine Qm Y<|An<|Ai<|Ab<|Ad<|Qm Y<|Qx (oA Y) Y<|Qm Y<|An<|AQ ?_;exact Ao (n-(i+1)) _ ω ⟨i+1,v9,m9,Y,Y,Y,Y,ω,hO9⟩ Qs
  ·rw[if_neg hd,append_nil]at etk;refine Ah (Ai (Ab (Ad (Qm rfl (Qx (oA rfl) rfl (Qm rfl (An ?_)))))));exact Ao (n-(i+1)) _ (by omega) ⟨i+1,v5,m,rfl,rfl,rfl,rfl,by omega,by rw[etk];exact hO⟩ Qs
 ·obtain rfl:i=n:=ω
  rw[show o.take i=o from take_of_length_le ω]at hO;refine Ax<|Aa<|Aa<|Af<|Ab<|Ar<|Qm Y<|Qm Y<|Am<|Aj ?_;exact Al Y Y (⟨AD l1 l2',m,Y,hO⟩)
theorem Ph(l:List Ce)(v:Value)(d:Int)(hp:Hp)(hK:RgC l)(hR:RdC hp v l):FnT Tryz.prog 35 #[.agg #[v],.int .i64 d] hp [] (λr h' ms'=>hp.le h'/\ms'=[]/\RdL cI 1 h' [] r (A9 (cn l) d)):=
 FnT.frz (Acn l v d hp hK hR) λr h' ms' ⟨q,m,e,O⟩=>⟨m,[],e,λh2 l2 lm=>⟨AD q l2,rfl,O.rdh lm⟩⟩
theorem Tc{l:List Cl}(R:Rgt l):GQ l=(0,0):=by
 have F:=R.ordF;have hc:=Ko R;have hl:=Ws l;unfold GQ;rw[ae (by have:=R.n;omega),hc]
 have hA:(range l.length).findSome? (Jl (ordF l) (ordF l))=none:=El _ λb hb=>by
  unfold Jl;have hb2:b<(ordF l).length:=ω
  rw[HU hb2];have hm:=ao hb2;rw[ae,ae (λq=>q (F.fst _ hm))];rintro(h|⟨h1,h2⟩)
  ·have:=F.pos _ hm;omega
  ·rw[HU (show b-1<(ordF l).length by omega)]at h2;have:=ct.1 F.inc (b-1) b ω hb2 ω;omega
 have hB:(range l.length).findSome? (KV (ordF l))=none:=El _ λb hb=>by
  unfold KV;have hb2:b<(ordF l).length:=ω
  rw[HU hb2];have hm:=ao hb2;split
  ·rfl
  ·rw[ae (λq=>q (F.snd _ hm ω))]
 rw[hA,hB];rfl
theorem RgC.ck{l:List Ce}(K:RgC l):AeE l:=⟨K.r.cs,λa ha=>by have:=K.r.dim _ (ag.2 ⟨a,ha,Y⟩);omega⟩
theorem RY(l:List Ce)(v:Value)(h:Hp)(K:RgC l)(hR:RdC h v l)(ms:List Hp):FnV Tryz.prog 68 #[.agg #[v]] h ms (.tuple #[.int .i64 0,.int .i64 0]):=by refine DY ?_ ms;have:=Ts l v h K.ck hR;rw[Tc K.r]at this;exact this
def KO(o:List Cl):Int:=o.foldl (λm x=>max m x.dim) (-1)
theorem Xh(o:List Cl)(x:Cl):KO (o++[x])=max (KO o) x.dim:=by unfold KO;rw[List.foldl_append];rfl
theorem AcO:∀(o:List Cl),(∀x∈o,x.dim<=1000)->-1<=KO o/\KO o<=1000:=λo=>by
 have key:∀(o:List Cl) (m:Int),-1<=m->m<=1000->(∀x∈o,x.dim<=1000)->-1<=o.foldl (λm x=>max m x.dim) m/\o.foldl (λm x=>max m x.dim) m<=1000:=by
  intro o
  induction o with
  | nil=>intro m h1 h2 _;exact⟨h1,h2⟩
  | cons x o ih=>
   intro m h1 h2 h3;rw[ge];have:=h3 x ax;exact ih _ ω ω λy hy=>h3 y<|bi _ hy
 exact key o (-1) ω ω
theorem Adw(l:List Ce)(v:Value)(h:Hp)(K:RgC l)(hR:RdC h v l)(ms:List Hp):FnV Tryz.prog 129 #[.agg #[v]] h ms (.int .i64 (KO (cn l))):=by
 refine DY ?_ ms;have ov:=hR.q.rd.one;have hln:=K.r.n;rw[be]at hln;refine Ap func129 ntmps129 Y Y<|λw0 hw0=>?_;simp only[AR];refine Ar<|AK [_] Y Y (by rfl) Y Y Y<|λg1=>Qm Y<|Am<|Av 0 Y λh1 l1 hS=>Ar<|Qm Y<|Bp<|Qx (oG Y C9 Bd<|Seg.any hS) Y<|Qc call74 Y (UD l v h1 K<|hR.up l1)<|λw h2 ms2 l2 hF=>?_;obtain⟨l2',rfl,A,hQ,hA⟩:=hF;obtain⟨o,ho⟩:∃o,cn l=o:=⟨_,Y⟩
 rw[ho]at hA ⊢;obtain⟨n,hn⟩:∃n,A.length=n:=⟨_,Y⟩
 have hon:o.length=n:=by rw[<-hA,be,hn]
 have hnb:n<=4000:=by rw[<-hon,<-ho,Jg];omega
 have ow:=hQ.q.rd.one;have rW:Rd h2 [] w 3 n (A.flatMap cC):=by have:=hQ.q.rd;rwa [hn]at this
 refine Qm Y<|Am<|Ac<|Ar<|Qm Y<|Am<|Ag ?_;refine AB (λq sl h' ms'=>∃(i:Nat),n-i=q/\sl=[(3,.w (KO (o.take i))),(4,w),(5,.w i)]/\h2=h'/\ms'=[]/\i<=n) (n-0) _ ⟨0,Y,Y,Y,Y,ω⟩ Qs ?_;rintro q sl h' ms' ⟨i,rfl,rfl,rfl,rfl,hi⟩;refine Ac<|Ar<|Qm Y<|Qm Y<|Qx (Aq rW.any Y B0 Y) Y<|Qm Y<|Am ?_;refine Aw Y (λhlt=>?_)<|λhlt=>?_
 ·have hin:i<n:=ω
  have hil:i<A.length:=ω
  have hio:i<o.length:=ω
  obtain⟨x,hx⟩:∃x,A[i]=x:=⟨_,Y⟩
  have hox:o[i]=x.c:=by subst hA;rw[gl,hx]
  have etk:KO (o.take (i+1))=max (KO (o.take i)) x.c.dim:=by rw[ak hio,hox,Xh]
  have gE:∀ms,Seg h2 ms ((AH w).add (i*3)) (cC x):=λms=>by rw[<-hx];exact(hQ.q.any (ms:=ms)).seg hil
  have e1:∀ms,Cell h2 ms (((AH w).add (i*3)).add 1) (.w x.c.dim):=λms=>gE ms 1 _ Y;refine Ah<|Ab<|Ac<|Ag<|Ad<|Qm Y<|Qm Y<|Qm Y<|Qx (BC (i) rW.any Y B0 A3 Y Y) Y<|Qf Cj Y<|Ql Y U3 (e1 _)<|Qx (PR Y Y Y) Y<|Qm Y<|An<|Ai<|Ab<|Ad<|Qm Y<|Qx (oA Y) Y<|Qm Y<|An ?_;exact Ao (n-(i+1)) _ ω ⟨i+1,Y,by rw[etk],rfl,rfl,ω⟩ Qs
 ·obtain rfl:i=n:=ω
  rw[show o.take i=o from take_of_length_le ω];refine Ax<|Aa<|Aa<|Af<|Ab<|Ar<|Qm Y<|Qm Y<|Am<|Aj ?_;exact Al Y Y<|Y
theorem X4(l:List Ce)(v:Value)(h:Hp)(Q:QsOk v h l)(ms:List Hp):FnV Tryz.prog 69 #[.agg #[v]] h ms (.bool true):=by
 refine DY ?_ ms;have ov:=Q.X.rd.q.rd.one;refine Ap func69 ntmps69 Y Y<|λw0 hw0=>?_;simp only[AR];refine Ar<|AK [_] Y Y (by rfl) Y Y Y<|λg1=>Qm Y<|Am<|Av 0 Y λh1 l1 hS=>?_;have Q1:=Q.up l1;have sg:∀h',h1.le h'->∀ms,Seg h' ms (⟨g1,0,none⟩:Addr) [v]:=λh' q ms=>(hS.le q).any;refine Ar<|Qx (oG Y C9 Bd<|sg _ (BE) _) Y<|Qx (As Y call68 Y<|RY l v h1 Q1.K Q1.X.rd _) Y<|Qm Y<|Qm Y<|Qm Y<|Qm Y<|Qm Y<|Am<|Ac<|Ar<|Qm Y<|Qm Y<|Am<|Aw Y (λhc=>ie hc σ)<|λhc=>?_;have hD:=AcO (cn l) Q.dims;obtain⟨D,hDe⟩:∃D:Nat,KO (cn l)+1=D:=⟨(KO (cn l)+1).toNat,ω⟩
 have hD2:KO (cn l)=(D:Int)-1:=ω
 refine Ah<|Ab<|Ac<|Ar<|Qm Y<|Am<|Ag ?_;refine AB (λq sl h' ms'=>∃(i:Nat),D-i=q/\sl=[(1,.pt g1),(5,.w i)]/\h1.le h'/\ms'=[]/\i<=D) (D-0) _ ⟨0,Y,Y,BE,Y,ω⟩ Qs ?_;rintro q sl h' ms' ⟨i,rfl,rfl,lh,rfl,hi⟩;have hdim:=Adw l v h' Q.K (Q1.X.rd.up lh);rw[hD2]at hdim;refine Ac<|Ar<|Qm Y<|Qx (oG Y C9 Bd<|sg _ lh _) Y<|Qx (As Y call129 Y<|hdim _) Y<|Qm Y<|Am ?_;refine Aw Y (λhlt=>?_)<|λhlt=>?_
 ·refine Ah<|Ab<|Ac<|Ag<|Ar<|Qx (oG Y C9 Bd<|sg _ lh _) Y<|Qm Y<|Qc call35 Y (Ph l v i h' Q.K<|Q1.X.rd.up lh)<|λw h2 ms2 l2 hF=>?_;obtain⟨l2',rfl,hI⟩:=hF;have hm:=Q.many i;have hm:(A9 (cn l) i).length<=100:=hm;have ow:=hI.rd.one;refine Qx (Aq hI.rd.any Y AZ Y) Y<|Qm Y<|Am<|Aw Y (λhc=>ie hc ω)<|λhc=>Ah<|Ai<|Ab<|Ad<|Qm Y<|Qx (oA Y) Y<|Qm Y<|An ?_;exact Ao (D-(i+1)) _ ω ⟨i+1,Y,Y,AD lh l2',Y,ω⟩ Qs
 ·refine Ax<|Aa<|Aa<|Af<|Ab<|Ar<|Qm Y<|Am<|Aj ?_;exact Al Y Y<|Y
noncomputable def wrF(o:List Cl)(d:Int)(x y:List Tm):Int:=if Eb o d x&&Eb o d y then(if bz o x&&bz o y then 0 else 40) else 21
theorem Rq(v vx vy:Value)(d:Int)(x y:List Tm)(l:List Ce)(h:Hp)(Q:QsOk v h l)(X:ChR vx h x)(Y:ChR vy h y)(bx:Bf (DB (AY (l.map Ce.c)) x)<2^2000000)(by_:Bf (DB (AY (l.map Ce.c)) y)<2^2000000)(hT:(AY (l.map Ce.c)).length<100000)(ms:List Hp) :
  FnV Tryz.prog 24 #[.agg #[v],.w d,vx,vy] h ms (.w (wrF (l.map Ce.c) d x y)):=by
 refine DY ?_ ms;have ov:=Q.X.rd.q.rd.one;obtain⟨xa,xc,rfl,_⟩:=X.rd.rd.ex;obtain⟨ya,yc,rfl,_⟩:=Y.rd.rd.ex;refine Ap func24 ntmps24 rfl rfl<|fun w0 hw0=>?_;simp only[AR];refine Ar<|AK [_] rfl rfl (by rfl) rfl rfl rfl<|fun g4=>Qm rfl (Am (Av 0 rfl fun h1 l1 hS=>?_));have Q1:=Q.up l1;have X1:=X.up l1;have Y1:=Y.up l1;have sg:∀h',h1.le h'->∀ms,Seg h' ms (⟨g4,0,none⟩:Addr) [v]:=fun h' q ms=>(hS.le q).any;refine Ar<|Qx (oG rfl C9 Bd<|sg _ (BE) _) rfl<|Qx (As rfl call68 rfl<|RY l v h1 Q1.K Q1.X.rd _) rfl<|Qm rfl<|Qm rfl<|Qm rfl<|Qm rfl<|Qm rfl<|Am<|Ac<|Ar<|Qm rfl<|Qm rfl<|Am<|Aw rfl (fun hc=>ie hc σ)<|fun hc=>?_;have hinx:=Ve v (.slice xa x.length xc) l d x h1 Q1.X X1;have hiny:=Ve v (.slice ya y.length yc) l d y h1 Q1.X Y1;unfold wrF;obtain⟨ix,hix⟩:∃ix,Eb (l.map Ce.c) d x=ix:=⟨_,rfl⟩
 obtain⟨iy,hiy⟩:∃iy,Eb (l.map Ce.c) d y=iy:=⟨_,rfl⟩
 rw[hix]at hinx ⊢;rw[hiy]at hiny ⊢;refine Ah<|Ab<|Ar<|Qx (oG rfl C9 Bd<|sg _ (BE) _) rfl<|Qx (As rfl call69 rfl<|X4 l v h1 Q1 _) rfl<|Qm rfl<|Am<|Ac<|Ar<|Qm rfl<|Qm rfl<|Am<|AL rfl<|Ah<|Ab ?_;cases ix
 ·refine Ac<|Ad<|Qx (oG rfl C9 Bd<|sg _ (BE) _) rfl<|Qm rfl<|Qm rfl<|Qx (As rfl call53 rfl<|hinx _) rfl<|Qm rfl<|Am ?_;cases iy
  ·refine Ac<|Ad<|Qx (oG rfl C9 Bd<|sg _ (BE) _) rfl<|Qm rfl<|Qm rfl<|Qx (As rfl call53 rfl<|hiny _) rfl<|Qm rfl<|Am<|Ac<|Ar<|Qm rfl<|Qm rfl<|Qm rfl<|Qk rfl<|Qk rfl<|Qm rfl<|Am<|AX rfl<|Ar<|Qm rfl<|Am<|Aj<|Ae ?_;exact Al rfl rfl<|rfl
  ·refine Ac<|Ad<|Qx (oG rfl C9 Bd<|sg _ (BE) _) rfl<|Qm rfl<|Qm rfl<|Qx (As rfl call53 rfl<|hiny _) rfl<|Qm rfl<|Am<|Ac<|Ar<|Qm rfl<|Qm rfl<|Qm rfl<|Qk rfl<|Qk rfl<|Qm rfl<|Am<|AX rfl<|Ar<|Qm rfl<|Am<|Aj<|Ae ?_;exact Al rfl rfl<|rfl
 ·refine Ac<|Ad<|Qx (oG rfl C9 Bd<|sg _ (BE) _) rfl<|Qm rfl<|Qm rfl<|Qx (As rfl call53 rfl<|hinx _) rfl<|Qm rfl<|Am ?_;cases iy
  ·refine Ac<|Ad<|Qx (oG rfl C9 Bd<|sg _ (BE) _) rfl<|Qm rfl<|Qm rfl<|Qx (As rfl call53 rfl<|hiny _) rfl<|Qm rfl<|Am<|Ac<|Ar<|Qm rfl<|Qm rfl<|Qm rfl<|Qg (Au rfl rfl) rfl<|Qg (Dn rfl rfl) rfl<|Qm rfl<|Am<|AX rfl<|Ar<|Qm rfl<|Am<|Aj<|Ae ?_;exact Al rfl rfl<|rfl
  ·refine Ac<|Ad<|Qx (oG rfl C9 Bd<|sg _ (BE) _) rfl<|Qm rfl<|Qm rfl<|Qx (As rfl call53 rfl<|hiny _) rfl<|Qm rfl<|Am<|Ac<|Ar<|Qm rfl<|Qm rfl<|Qm rfl<|Qg (Au rfl rfl) rfl<|Qg (Dn rfl rfl) rfl<|Qm rfl<|Am<|AL rfl<|Ah<|Ab<|Ac<|Ar<|Qx (oG rfl C9 Bd<|sg _ (BE) _) rfl<|Qm rfl<|Qc call29 rfl (L8 v _ l x h1 Q1.X X1 bx hT)<|fun wb h2 ms2 l2 hF=>?_;obtain⟨l2',rfl,lx,CX,CRx,_,hlx⟩:=hF;have owb:=CRx.rd.rd.one;have hzx:=Oq CX;obtain⟨zx,hzxe⟩:∃zx,bz (l.map Ce.c) x=zx:=⟨_,rfl⟩
   rw[hzxe]at hzx ⊢;cases zx
   ·have hne:lx.length≠0:=fun e=>by have:=hzx.2 e;cases this
    refine Qx (Aq CRx.rd.rd.any rfl CN rfl) rfl<|Qx (Cw (Ci rfl rfl rfl)<|aw Value.bool<|bq ω) rfl<|Qm rfl<|Qk rfl<|Qk rfl<|Qk rfl<|Qk rfl<|Qk rfl<|Qm rfl<|Am<|AX rfl<|Ar<|Qm rfl<|Am<|Aj<|Ae ?_;exact Al rfl rfl<|rfl
   ·have he:lx.length=0:=hzx.1 rfl;refine Qx (Aq CRx.rd.rd.any rfl CN rfl) rfl<|Qx (Cw (Ci rfl rfl rfl)<|aw Value.bool<|cg ω) rfl<|Qm rfl<|Qg (oG rfl C9 Bd<|sg _ l2' _) rfl<|Qg (Au rfl rfl) rfl<|DS rfl rfl rfl rfl<|Qc call29 rfl (L8 v _ l y h2 (Q1.X.up l2') (Y1.up l2') by_ hT)<|fun wc h3 ms3 l3 hF=>?_;obtain⟨l3',rfl,ly,CY,CRy,_,hly⟩:=hF;have owc:=CRy.rd.rd.one;have hzy:=Oq CY;obtain⟨zy,hzye⟩:∃zy,bz (l.map Ce.c) y=zy:=⟨_,rfl⟩
    rw[hzye]at hzy ⊢;cases zy
    ·have hne:ly.length≠0:=fun e=>by have:=hzy.2 e;cases this
     refine Qg (Aq CRy.rd.rd.any rfl CN rfl) rfl<|Qg (Cw (Ci rfl rfl rfl)<|aw Value.bool<|bq ω) rfl<|Qm rfl<|Am<|AX rfl<|Ar<|Qm rfl<|Am<|Aj<|Ae ?_;exact Al rfl rfl<|rfl
    ·have he2:ly.length=0:=hzy.1 rfl;refine Qg (Aq CRy.rd.rd.any rfl CN rfl) rfl<|Qg (Cw (Ci rfl rfl rfl)<|aw Value.bool<|cg ω) rfl<|Qm rfl<|Am<|AL rfl<|Ah<|Ab<|Ar<|Qm rfl<|Am<|Aj ?_;exact Al rfl rfl<|rfl
theorem Ro(v vx vy vch vco:Value)(d m:Int)(hd:0<=d/\d<=900)(x y ch co:List Tm)(l:List Ce)(h:Hp)(Q:QsOk v h l)(X:ChR vx h x)(Y:ChR vy h y)(CH:ChR vch h ch)(C:ChR vco h co)(hx:Eb (l.map Ce.c) d x=true)(hy:Eb (l.map Ce.c) d y=true)(bx:Bf (DB (AY (l.map Ce.c)) x)<2^2000000)(by_:Bf (DB (AY (l.map Ce.c)) y)<2^2000000)(zx:bz (l.map Ce.c) x=true)(zy:bz (l.map Ce.c) y=true)(hn:x.length+y.length<=100000)(ha:Bf x+Bf y<2^2000000)(bc:Bf (DB (AY (l.map Ce.c)) ch)<2^2000000)(hT:(AY (l.map Ce.c)).length<100000)(hm:Sz m)(ms:List Hp) :
  FnV Tryz.prog 18 #[.agg #[v],.w d,vx,vy,S8 true vch vco m] h ms (.bool ((Eb (l.map Ce.c) (d+1) ch&&ML (l.map Ce.c) x y ch)&&(decide (co.length=0)&&decide (m=0)))):=by
 refine DY ?_ ms;have ov:=Q.X.rd.q.rd.one;have osm:(sv (A7 m.natAbs)).oneCell'=true:=rfl;obtain⟨xa,xc,rfl,_⟩:=X.rd.rd.ex;obtain⟨ya,yc,rfl,_⟩:=Y.rd.rd.ex;obtain⟨ha_,hc2,rfl,_⟩:=CH.rd.rd.ex;obtain⟨ca,cc,rfl,_⟩:=C.rd.rd.ex;unfold S8;refine Ap func18 ntmps18 rfl rfl<|fun w0 hw0=>?_;simp only[AR];refine Ar<|AK [_] rfl rfl (by rfl) rfl rfl rfl<|fun g5=>AK [_,_,_,_,_] rfl rfl (by rfl) rfl rfl rfl (fun g9=>Qm rfl (Am (Av 0 rfl fun h1 l1 hS9=>(Av 0 rfl fun h2 l2 hS5=>?_))));have l02:=AD l1 l2;have s5:∀h',h2.le h'->∀ms,Seg h' ms (⟨g5,0,none⟩:Addr) [v]:=fun h' q ms=>(hS5.le q).any;have d0:∀h',h2.le h'->∀ms,Cell h' ms ((⟨g9,0,none⟩:Addr).add 0) (.bool true):=fun h' q ms=>(((hS9.le l2) 0 _ rfl).any).le q;have d1:∀h',h2.le h'->∀ms,Cell h' ms ((⟨g9,0,none⟩:Addr).add 1) (.slice ha_ ch.length hc2):=fun h' q ms=>(((hS9.le l2) 1 _ rfl).any).le q;have d2:∀h',h2.le h'->∀ms,Cell h' ms ((⟨g9,0,none⟩:Addr).add 2) (.slice ca co.length cc):=fun h' q ms=>(((hS9.le l2) 2 _ rfl).any).le q
 have s9:∀h',h2.le h'->∀ms,Seg h' ms ((⟨g9,0,none⟩:Addr).add 3) (Bi m):=fun h' q ms i u hu=>by
  have:=(((hS9.le l2).le q) (3+i) u (by rw[Nat.add_comm];exact hu)).any (ms:=ms)
  rwa [BF]
 have Q2:=Q.up l02;have X2:=X.up l02;have Y2:=Y.up l02;have CH2:=CH.up l02;have hw:=Rq v _ _ d x y l h2 Q2 X2 Y2 bx by_ hT;have hw0:wrF (l.map Ce.c) d x y=0:=by unfold wrF;rw[hx,hy,zx,zy];rfl
 rw[hw0]at hw;refine Ar<|Qx (oG rfl C9 Bd<|s5 _ (BE) _) rfl<|Qm rfl<|Qm rfl<|Qm rfl<|Qx (As rfl call24 rfl<|hw _) rfl<|Qm rfl<|Am<|Ac<|Ar<|Qm rfl<|Qm rfl<|Am<|Aw rfl (fun hc=>ie hc σ)<|fun hc=>Ah (Ab (Ar (Qm rfl (Qm rfl (Qc call50 rfl (Vr _ _ x y h2 X2 Y2 hn ha) (fun wd h3 ms3 l3 hF=>?_))))));obtain⟨l3',rfl,dl,CD,CRd,hda,hdn⟩:=hF;obtain⟨da,dc,rfl,_⟩:=CRd.rd.rd.ex;refine Qm rfl<|Am<|Ac<|Ar<|Qf G0 rfl<|Ql rfl U4 (d0 _ l3' _)<|Am ?_;have hin:=Ve v (.slice ha_ ch.length hc2) l (d+1) ch h3 (Q2.X.up l3') (CH2.up l3');obtain⟨b1,hb1⟩:∃b,Eb (l.map Ce.c) (d+1) ch=b:=⟨_,rfl⟩
 rw[hb1]at hin ⊢;cases b1
 ·refine AX rfl<|Ar<|Qx (oG rfl C9 Bd<|s5 _ l3' _) rfl<|Qm rfl<|Qx (oA rfl) rfl<|Qf GW rfl<|Ql rfl CN (d1 _ l3' _)<|Qx (As rfl call53 rfl<|hin _) rfl<|Qm rfl<|Bp<|Qx (oG rfl C9 Bd<|s5 _ l3' _) rfl<|Qf GW rfl<|Ql rfl CN (d1 _ l3' _)<|Qc call29 rfl (L8 v _ l ch h3 (Q2.X.up l3') (CH2.up l3') bc hT)<|fun wb h4 ms4 l4 hF=>?_;obtain⟨l4',rfl,lb,CB,CRb,_,hlb⟩:=hF;obtain⟨ba,bcc,rfl,_⟩:=CRb.rd.rd.ex;have l24:=AD l3' l4';have heq:=NI _ _ lb dl h4 CRb (CRd.up l4');rw[PM CB CD]at heq;refine Qm rfl<|Qx (As rfl call54 rfl<|heq _) rfl<|Qm rfl<|Bp<|Qm rfl<|Qm rfl<|Qk rfl<|Qm rfl<|Qm rfl<|Qk rfl<|Qk rfl<|Qk rfl<|Qk rfl<|Qm rfl<|Qm rfl<|Qk rfl<|Qk rfl<|Qk rfl<|Qk rfl<|Qm rfl<|Qm rfl<|Am<|Aj<|Ae ?_;exact Al rfl rfl<|rfl
 ·refine AX rfl<|Ar<|Qx (oG rfl C9 Bd<|s5 _ l3' _) rfl<|Qm rfl<|Qx (oA rfl) rfl<|Qf GW rfl<|Ql rfl CN (d1 _ l3' _)<|Qx (As rfl call53 rfl<|hin _) rfl<|Qm rfl<|Bp<|Qx (oG rfl C9 Bd<|s5 _ l3' _) rfl<|Qf GW rfl<|Ql rfl CN (d1 _ l3' _)<|Qc call29 rfl (L8 v _ l ch h3 (Q2.X.up l3') (CH2.up l3') bc hT)<|fun wb h4 ms4 l4 hF=>?_;obtain⟨l4',rfl,lb,CB,CRb,_,hlb⟩:=hF;obtain⟨ba,bcc,rfl,_⟩:=CRb.rd.rd.ex;have l24:=AD l3' l4';have heq:=NI _ _ lb dl h4 CRb (CRd.up l4');rw[PM CB CD]at heq;obtain⟨b2,hb2⟩:∃b,ML (l.map Ce.c) x y ch=b:=⟨_,rfl⟩
  rw[hb2]at heq ⊢;cases b2
  ·refine Qm rfl<|Qx (As rfl call54 rfl<|heq _) rfl<|Qm rfl<|Bp<|Qm rfl<|Qm rfl<|Qg (Au rfl rfl) rfl<|Qm rfl<|Qm rfl<|Qk rfl<|Qk rfl<|Qk rfl<|Qk rfl<|Qm rfl<|Qm rfl<|Qk rfl<|Qk rfl<|Qk rfl<|Qk rfl<|Qm rfl<|Qm rfl<|Am<|Aj<|Ae ?_;exact Al rfl rfl<|rfl
  ·by_cases hco:co.length=0
   ·refine Qm rfl<|Qx (As rfl call54 rfl<|heq _) rfl<|Qm rfl<|Bp<|Qm rfl<|Qm rfl<|Qg (Au rfl rfl) rfl<|Qm rfl<|Qm rfl<|Qg (oF GV rfl) rfl<|Qg (oL rfl CN<|d2 _ l24 _) rfl<|Qg (D6 (ty:=30) rfl CN rfl) rfl<|Qg (Cw (Cq rfl rfl rfl)<|aw Value.bool<|bq ω) rfl<|Qm rfl<|Qm rfl<|Qg (oF Ia rfl) rfl<|Qg (oG rfl By Az<|s9 _ l24 _) rfl<|Qg (As rfl call55 rfl<|FK m hm _ _) rfl<|Qg (Cq rfl rfl rfl) rfl<|Qm rfl<|Qm rfl<|Am<|Aj<|Ae ?_;exact Al rfl rfl (by rw[bq hco];exact aw Value.bool (by simp only[Bool.true_and];exact fa.2 Int.sign_eq_zero_iff_zero))
   ·refine Qm rfl<|Qx (As rfl call54 rfl<|heq _) rfl<|Qm rfl<|Bp<|Qm rfl<|Qm rfl<|Qg (Au rfl rfl) rfl<|Qm rfl<|Qm rfl<|Qg (oF GV rfl) rfl<|Qg (oL rfl CN<|d2 _ l24 _) rfl<|Qg (D6 (ty:=30) rfl CN rfl) rfl<|Qg (Cw (Cq rfl rfl rfl)<|aw Value.bool<|cg ω) rfl<|Qm rfl<|Qm rfl<|Qk rfl<|Qk rfl<|Qk rfl<|Qk rfl<|Qm rfl<|Qm rfl<|Am<|Aj<|Ae ?_;exact Al rfl rfl (by rw[cg hco];rfl)
theorem To(v vx vy vch vco:Value)(d m:Int)(hd:0<=d/\d<=900)(x y ch co:List Tm)(l:List Ce)(h:Hp)(Q:QsOk v h l)(X:ChR vx h x)(Y:ChR vy h y)(CH:ChR vch h ch)(C:ChR vco h co)(hx:Eb (l.map Ce.c) d x=true)(hy:Eb (l.map Ce.c) d y=true)(bx:Bf (DB (AY (l.map Ce.c)) x)<2^2000000)(by_:Bf (DB (AY (l.map Ce.c)) y)<2^2000000)(zx:bz (l.map Ce.c) x=true)(zy:bz (l.map Ce.c) y=true)(hn:x.length+y.length<=100000)(ha:Bf x+Bf y<2^2000000)(hc_:Bf (Gl (AY (l.map Ce.c)) co)<2^2000000)(hp:Bf co*(Bf x+Bf y)<2^2000000)(hT:(AY (l.map Ce.c)).length<100000)(hm:Sz m)(ms:List Hp) :
  FnV Tryz.prog 18 #[.agg #[v],.w d,vx,vy,S8 false vch vco m] h ms (.bool (decide (ch.length=0)&&(decide (0<=m)&&(Eb (l.map Ce.c) d co&&(Pg (l.map Ce.c) m co&&!decide (m∣lin (cf co) x-lin (cf co) y)))))):=by
 refine DY ?_ ms;have ov:=Q.X.rd.q.rd.one;have osm:(sv (A7 m.natAbs)).oneCell'=true:=rfl;obtain⟨xa,xc,rfl,_⟩:=X.rd.rd.ex;obtain⟨ya,yc,rfl,_⟩:=Y.rd.rd.ex;obtain⟨ha_,hc2,rfl,_⟩:=CH.rd.rd.ex;obtain⟨ca,cc,rfl,_⟩:=C.rd.rd.ex;unfold S8;refine Ap func18 ntmps18 rfl rfl<|fun w0 hw0=>?_;simp only[AR];refine Ar<|AK [_] rfl rfl (by rfl) rfl rfl rfl<|fun g5=>AK [_,_,_,_,_] rfl rfl (by rfl) rfl rfl rfl (fun g9=>Qm rfl (Am (Av 0 rfl fun h1 l1 hS9=>(Av 0 rfl fun h2 l2 hS5=>?_))));have l02:=AD l1 l2;have s5:∀h',h2.le h'->∀ms,Seg h' ms (⟨g5,0,none⟩:Addr) [v]:=fun h' q ms=>(hS5.le q).any;have d0:∀h',h2.le h'->∀ms,Cell h' ms ((⟨g9,0,none⟩:Addr).add 0) (.bool false):=fun h' q ms=>(((hS9.le l2) 0 _ rfl).any).le q;have d1:∀h',h2.le h'->∀ms,Cell h' ms ((⟨g9,0,none⟩:Addr).add 1) (.slice ha_ ch.length hc2):=fun h' q ms=>(((hS9.le l2) 1 _ rfl).any).le q;have d2:∀h',h2.le h'->∀ms,Cell h' ms ((⟨g9,0,none⟩:Addr).add 2) (.slice ca co.length cc):=fun h' q ms=>(((hS9.le l2) 2 _ rfl).any).le q
 have s9:∀h',h2.le h'->∀ms,Seg h' ms ((⟨g9,0,none⟩:Addr).add 3) (Bi m):=fun h' q ms i u hu=>by
  have:=(((hS9.le l2).le q) (3+i) u (by rw[Nat.add_comm];exact hu)).any (ms:=ms)
  rwa [BF]
 have Q2:=Q.up l02;have X2:=X.up l02;have Y2:=Y.up l02;have CO2:=C.up l02;have hw:=Rq v _ _ d x y l h2 Q2 X2 Y2 bx by_ hT;have hw0:wrF (l.map Ce.c) d x y=0:=by unfold wrF;rw[hx,hy,zx,zy];rfl
 rw[hw0]at hw;refine Ar<|Qx (oG rfl C9 Bd<|s5 _ (BE) _) rfl<|Qm rfl<|Qm rfl<|Qm rfl<|Qx (As rfl call24 rfl<|hw _) rfl<|Qm rfl<|Am<|Ac<|Ar<|Qm rfl<|Qm rfl<|Am<|Aw rfl (fun hc=>ie hc σ)<|fun hc=>Ah (Ab (Ar (Qm rfl (Qm rfl (Qc call50 rfl (Vr _ _ x y h2 X2 Y2 hn ha) (fun wd h3 ms3 l3 hF=>?_))))));obtain⟨l3',rfl,dl,CD,CRd,hda,hdn⟩:=hF;obtain⟨da,dc,rfl,_⟩:=CRd.rd.rd.ex;refine Qm rfl<|Am<|Ac<|Ar<|Qf G0 rfl<|Ql rfl U4 (d0 _ l3' _)<|Am ?_;have hin:=Ve v (.slice ca co.length cc) l d co h3 (Q2.X.up l3') (CO2.up l3');obtain⟨b1,hb1⟩:∃b,Eb (l.map Ce.c) d co=b:=⟨_,rfl⟩
 rw[hb1]at hin ⊢;cases b1
 ·refine AL rfl<|Ah<|Ab<|Ar<|Qx (oG rfl C9 Bd<|s5 _ l3' _) rfl<|Qm rfl<|Qf GV rfl<|Ql rfl CN (d2 _ l3' _)<|Qx (As rfl call53 rfl<|hin _) rfl<|Qm rfl<|Am<|Ac<|Ar<|Qm rfl<|Qm rfl<|Qm rfl<|Qk rfl<|Qk rfl<|Qk rfl<|Qk rfl<|Qm rfl<|Qm rfl<|Qk rfl<|Qk rfl<|Qk rfl<|Qk rfl<|Qm rfl<|Am<|AX rfl<|Ar<|Qm rfl<|Am<|Aj<|Ae ?_;exact Al rfl rfl σ
 ·by_cases hch:ch.length=0
  rotate_left
  ·refine AL rfl<|Ah<|Ab<|Ar<|Qx (oG rfl C9 Bd<|s5 _ l3' _) rfl<|Qm rfl<|Qf GV rfl<|Ql rfl CN (d2 _ l3' _)<|Qx (As rfl call53 rfl<|hin _) rfl<|Qm rfl<|Am<|Ac<|Ar<|Qm rfl<|Qm rfl<|Qm rfl<|Qg (oF GW rfl) rfl<|Qg (oL rfl CN<|d1 _ l3' _) rfl<|Qg (D6 (ty:=30) rfl CN rfl) rfl<|Qg (Cw (Ci rfl rfl rfl)<|aw Value.bool<|bq ω) rfl<|Qm rfl<|Qm rfl<|Qk rfl<|Qk rfl<|Qk rfl<|Qk rfl<|Qm rfl<|Am<|AX rfl<|Ar<|Qm rfl<|Am<|Aj<|Ae ?_;exact Al rfl rfl (by rw[cg hch];rfl)
  ·rw[bq hch];by_cases hm0:m<0
   ·have hsg:m.sign<0:=by rw[Int.sign_eq_neg_one_of_neg hm0];decide
    refine AL rfl<|Ah<|Ab<|Ar<|Qx (oG rfl C9 Bd<|s5 _ l3' _) rfl<|Qm rfl<|Qf GV rfl<|Ql rfl CN (d2 _ l3' _)<|Qx (As rfl call53 rfl<|hin _) rfl<|Qm rfl<|Am<|Ac<|Ar<|Qm rfl<|Qm rfl<|Qm rfl<|Qg (oF GW rfl) rfl<|Qg (oL rfl CN<|d1 _ l3' _) rfl<|Qg (D6 (ty:=30) rfl CN rfl) rfl<|Qg (Cw (Ci rfl rfl rfl)<|aw Value.bool<|cg ω) rfl<|Qm rfl<|Qm rfl<|Qg (oF Ia rfl) rfl<|Qg (oG rfl By Az<|s9 _ l3' _) rfl<|Qg (As rfl call55 rfl<|FK m hm _ _) rfl<|Qg (Cw (Dy rfl rfl rfl)<|aw Value.bool<|bq hsg) rfl<|Qm rfl<|Am<|AX rfl<|Ar<|Qm rfl<|Am<|Aj<|Ae ?_;exact Al rfl rfl (by rw[cg (show ¬0<=m by omega)];rfl)
   ·have hsg:¬m.sign<0:=by
     rcases Int.lt_trichotomy m 0 with q|q|q
     ·omega
     ·rw[q];decide
     ·rw[Int.sign_eq_one_of_pos q];decide
    rw[bq (show 0<=m by omega)];refine AL rfl<|Ah<|Ab<|Ar<|Qx (oG rfl C9 Bd<|s5 _ l3' _) rfl<|Qm rfl<|Qf GV rfl<|Ql rfl CN (d2 _ l3' _)<|Qx (As rfl call53 rfl<|hin _) rfl<|Qm rfl<|Am<|Ac<|Ar<|Qm rfl<|Qm rfl<|Qm rfl<|Qg (oF GW rfl) rfl<|Qg (oL rfl CN<|d1 _ l3' _) rfl<|Qg (D6 (ty:=30) rfl CN rfl) rfl<|Qg (Cw (Ci rfl rfl rfl)<|aw Value.bool<|cg ω) rfl<|Qm rfl<|Qm rfl<|Qg (oF Ia rfl) rfl<|Qg (oG rfl By Az<|s9 _ l3' _) rfl<|Qg (As rfl call55 rfl<|FK m hm _ _) rfl<|Qg (Cw (Dy rfl rfl rfl)<|aw Value.bool<|cg hsg) rfl<|Qm rfl<|Am<|AL rfl<|Ah<|Ab<|Ar<|Qx (oG rfl C9 Bd<|s5 _ l3' _) rfl<|Qf GV rfl<|Ql rfl CN (d2 _ l3' _)<|Qc call56 rfl (Adp v _ l co h3 (Q2.X.up l3') (CO2.up l3') hc_ hT)<|fun wz h4 ms4 l4 hF=>?_;obtain⟨l4',rfl,lz,CZ,CRz,_,hlz⟩:=hF;have l24:=AD l3' l4';have owz:=CRz.rd.rd.one;have hclo:=UW (m:=m) CZ;obtain⟨p,hp_⟩:∃p,lz.length=p:=⟨_,rfl⟩
    have hpb:p<=100000:=hp_ ▸ CRz.len;have rZ:Rd h4 [] wz 3 p (lz.flatMap DQ):=by have:=CRz.rd.rd;rwa [hp_]at this
    refine Qm rfl<|Am<|Ac<|Ar<|Qm rfl<|Am<|Ag ?_;refine AB (fun q sl h' ms'=>∃(k:Nat),p-k=q/\sl=[(9,.pt g9),(12,.slice da dl.length dc),(16,wz),(17,.w (k:Int))]/\h4=h'/\ms'=[]/\k<=p/\(∀j (hj:j<lz.length),j<k->m∣lz[j].2)) (p-0) _ ⟨0,rfl,rfl,rfl,rfl,ω,fun j _ h=>ω⟩ Qs ?_;rintro q sl h' ms' ⟨k,rfl,rfl,rfl,rfl,hk,hall⟩;refine Ac<|Ar<|Qm rfl<|Qm rfl<|Qx (Aq rZ.any rfl CN rfl) rfl<|Qm rfl<|Am ?_;refine Aw rfl (fun hlt=>?_)<|fun hlt=>?_
    ·have hkp:k<p:=ω
     have hkl:k<lz.length:=ω
     obtain⟨t,ht⟩:∃t,lz[k]=t:=⟨_,rfl⟩
     have htm:t∈lz:=ht ▸ ao hkl;have ost:(sv (A7 t.2.natAbs)).oneCell'=true:=rfl;have gT:∀ms,Seg h4 ms ((AH wz).add (k*3)) (DQ t):=fun ms=>by rw[<-ht];exact(CRz.rd.any (ms:=ms)).seg hkl
     have hdv:=Yf m t.2 hm (CRz.sz htm) h4;by_cases hdt:m∣t.2
     all_goals first|rw[bq hdt]at hdv|rw[cg hdt]at hdv
     ·refine Ah<|Ab<|Ac<|Ag<|Ac<|AS (n:=9) (bs:=[ig,ig,ig,ig,ig,ig,ig,ig,ii]) [ig,ig,ig,ig,ig,ig,ig,ig] CC κ κ rfl rfl<|QF Ia rfl<|Qp rfl (oG rfl By Az<|s9 _ l24 _)<|Qq rfl<|Qq rfl<|Qp rfl (BC (k) rZ.any rfl CN Co rfl rfl)<|QF GY rfl<|Qp rfl (oG rfl By Az<|Gj<|gT _)<|Qp rfl (As rfl call57 rfl<|hdv _) ?_;unfold Dd;simp only[bh,ap];refine Qo 8 rfl<|Qm rfl<|Qw<|Qe<|Ab<|Ar<|Qm rfl<|Qm rfl<|Am<|AL rfl<|Ah<|Ai<|Ab<|Ad<|Qm rfl<|Qx (oA rfl) rfl<|Qm rfl<|An ?_
      exact Ao (p-(k+1)) _ ω ⟨k+1,rfl,rfl,rfl,rfl,ω,fun j hj h=>by
       by_cases e:j=k
       ·subst e;rw[ht];exact hdt
       ·exact hall j hj ω⟩ Qs
     ·refine Ah<|Ab<|Ac<|Ag<|Ac<|AS (n:=9) (bs:=[ig,ig,ig,ig,ig,ig,ig,ig,ii]) [ig,ig,ig,ig,ig,ig,ig,ig] CC κ κ rfl rfl<|QF Ia rfl<|Qp rfl (oG rfl By Az<|s9 _ l24 _)<|Qq rfl<|Qq rfl<|Qp rfl (BC (k) rZ.any rfl CN Co rfl rfl)<|QF GY rfl<|Qp rfl (oG rfl By Az<|Gj<|gT _)<|Qp rfl (As rfl call57 rfl<|hdv _) ?_;unfold Dd;simp only[bh,ap];refine Qo 8 rfl<|Qm rfl<|Qw<|Qe<|Ab<|Ar<|Qm rfl<|Qm rfl<|Am<|AX rfl<|Ar<|Qm rfl<|Am<|Aj<|Ak<|Ae<|Ae<|Ak<|Ae ?_
      have hcl:Pg (l.map Ce.c) m co=false:=by rw[<-hclo];have:(lz.any fun p=>!decide (m∣p.2))=true:=List.any_eq_true.2 ⟨t,htm,by rw[cg hdt];rfl⟩;rw[this];rfl
      exact Al rfl rfl (by rw[hcl];rfl)
    ·obtain rfl:k=p:=ω
     have hcl:Pg (l.map Ce.c) m co=true:=by
      rw[<-hclo]
      have:(lz.any fun p=>!decide (m∣p.2))=false:=by rw[List.any_eq_false];intro u hu;obtain⟨j,hj,rfl⟩:=dm.1 hu;rw[bq (hall j hj ω)];simp
      rw[this];rfl
     rw[hcl];have hpl:Bf co*Bf dl<2^2000000:=Nat.lt_of_le_of_lt (Nat.mul_le_mul_left _ hda) hp;have hpair:=AbE _ _ co dl h4 (CO2.up l24) (CRd.up l4') hpl;rw[OU CD]at hpair
     have hps:Sz (lin (cf co) x-lin (cf co) y):=by rw[<-OU CD];exact KM (bl (K6 (CW co) dl)<|am _) hpl δ
     obtain⟨pr,hpr⟩:∃pr,lin (cf co) x-lin (cf co) y=pr:=⟨_,rfl⟩
     rw[hpr]at hpair hps ⊢;have osp:(sv (A7 pr.natAbs)).oneCell'=true:=rfl;refine Ax<|Aa<|Aa<|Af<|Ab<|Ac<|AS (n:=9) (bs:=[ig,ig,ig,ig,ig,ig,ig,ig,ii]) [ig,ig,ig,ig,ig,ig,ig,ig] CC κ κ rfl rfl<|QF Ia rfl<|Qp rfl (oG rfl By Az<|s9 _ l24 _)<|QF GV rfl<|QL rfl CN (d2 _ l24 _)<|Qq rfl<|Qp rfl (As rfl call58 rfl<|hpair _)<|Qp rfl (As rfl call57 rfl<|Yf m pr hm hps _ _)<|Qq rfl ?_;unfold Dd;simp only[bh,ap];refine Qo 8 rfl<|Qm rfl<|Qw<|Qe<|Ab<|Aj ?_;exact Al rfl rfl<|rfl
end
section
open Go.Lin Go.Wd Go.Sm Go.Ch
variable {α:Type} {ch:List Tm}
theorem Hb{g:α->Int}:∀{l:List α},(∀x∈l,g x=0)->(l.map g).sum=0
 | [],_=>rfl
 | x::l,h=>by rw[dr,sum_cons,h x ax,Hb λy hy=>h y (bi _ hy)];rfl
theorem Nr(g:α->Int){l r:List α}(h:l.Perm r):(l.map g).sum=(r.map g).sum:=by
 induction h with
 | nil=>rfl
 | cons x _ ih=>rw[dr,dr,sum_cons,sum_cons,ih]
 | swap x y l=>simp only[dr,sum_cons];omega
 | trans _ _ h1 h2=>exact h1.trans h2
theorem MF{g:α->Int}{P:α->Bool}:∀{l:List α},(∀x∈l,P x=false->g x=0)->((l.filter P).map g).sum=(l.map g).sum
 | [],_=>rfl
 | x::l,h=>by
  have ih:=MF (l:=l) λy hy=>h y (bi _ hy);cases e:P x with
  | true=>rw[List.filter_cons_of_pos e,dr,sum_cons,dr,sum_cons,ih]
  | false=>rw[List.filter_cons_of_neg (by rw[e];simp),ih,dr,sum_cons,h x ax e];omega
theorem Te{o:List Cl}(R:Rgt o):((ordF o).map Cl.id).Nodup:=by have h:=R.ordF.inc;rw[List.nodup_iff_pairwise_ne,dz];exact h.imp λq=>ω
theorem mem_ord{o:List Cl}{x:Cl}:x∈ordF o<->∃y∈o,x=y.can:=by rw[(Ek o.length o (am _)).mem_iff,mem_map];exact⟨λ⟨y,h,e⟩=>⟨y,h,e.symm⟩,λ⟨y,h,e⟩=>⟨y,h,e.symm⟩⟩
theorem has_iff{o:List Cl}{d c:Int}:HS o d c=true<->∃x∈o,x.id=c/\x.dim=d:=by unfold HS;rw[List.any_eq_true];simp
theorem mem_ids{o:List Cl}{d c:Int}:c∈A9 (ordF o) d<->∃x∈o,x.id=c/\x.dim=d:=by
 unfold A9;rw[mem_map];constructor
 ·rintro⟨x,hx,rfl⟩;obtain⟨h1,h2⟩:=dh.1 hx;obtain⟨y,hy,rfl⟩:=mem_ord.1 h1;exact⟨y,hy,Y,dq h2⟩
 ·rintro⟨y,hy,rfl,rfl⟩;exact⟨y.can,dh.2 ⟨mem_ord.2 ⟨y,hy,Y⟩,by simp[Cl.can]⟩,rfl⟩
theorem Z2{o:List Cl}(R:Rgt o)(d:Int):(A9 (ordF o) d).Nodup:=by have h:=P7 R.ordF d;rw[List.nodup_iff_pairwise_ne];exact h.imp λq=>ω
theorem SQ{o:List Cl}(R:Rgt o){x y:Cl}(hx:x∈o)(hy:y∈o)(e:x.id=y.id):x=y:=by have h1:=ET R.nd hx;have h2:=ET R.nd hy;rw[e,h2]at h1;exact(bf h1).symm
theorem K9(x:Cl)(c:Int):sgn x.can.sd c=sgn x.sd c:=Nr _ (Du x.sd)
theorem Aff{o:List Cl}(R:Rgt o)(g:Cl->Int)(d:Int)(hg:∀x∈o,g x.can=g x)(h:∀x∈o,x.dim≠d->g x=0):(o.map g).sum=sm (A9 (ordF o) d).length λj=>g (GF (ordF o) ((A9 (ordF o) d).getD j 0)):=by
 have e1:(o.map g).sum=((ordF o).map g).sum:=by rw[Nr g (Ek o.length o (am _)),gg];congr 1;exact map_congr_left λx hx=>(hg x hx).symm
 rw[e1,<-MF (P:=λc=>decide (c.dim=d)) λx hx hP=>by
  obtain⟨y,hy,rfl⟩:=mem_ord.1 hx;rw[hg y hy]
  exact h y hy<|of_decide_eq_false hP]
 rw[<-L7 (λc=>g (GF (ordF o) c))];unfold A9;rw[gg];congr 1;refine map_congr_left λx hx=>?_;have:=ET (Te R) (dh.1 hx).1;show g x=g (GF (ordF o) x.id);unfold GF;rw[this];rfl
theorem ZJ(p:Int×(Int×Int))(S:List (Int×(Int×Int)))(a:List Tm):DB (p::S) a=(if cf a p.1≠0 then [((p.2.1,cf a p.1*p.2.2):Tm)] else [])++DB S a:=by unfold DB;by_cases h:cf a p.1=0<;>simp[h]
theorem Yb(p:Int×(Int×Int))(S:List (Int×(Int×Int)))(a:List Tm):Gl (p::S) a=(if cf a p.2.1≠0 then [((p.1,cf a p.2.1*p.2.2):Tm)] else [])++Gl S a:=by unfold Gl;by_cases h:cf a p.2.1=0<;>simp[h]
theorem YG{g:Int->Int}(c n:Int)(P:Prop)[Decidable P](h:¬P->n=0):lin g (if P then [((c,n):Tm)] else [])=g c*n:=by
 split
 ·show g c*n+0=_;omega
 ·rename_i q;rw[h q];show(0:Int)=_;simp
theorem O3(o:List Cl)(g:Int->Int)(ch:List Tm):lin g (DB (AY o) ch)=(o.map λx=>cf ch x.id*lin g x.sd).sum:=by
 induction o with
 | nil=>rfl
 | cons x o ih=>
  have e:AY (x::o)=(x.sd.map λs=>(x.id,s))++AY o:=rfl;rw[e,MK,Ed,ih,dr,sum_cons];congr 1;generalize x.sd=sd
  induction sd with
  | nil=>show(0:Int)=_*0;simp
  | cons s sd ih2=>
   rw[dr,ZJ,Ed,ih2,YG _ _ _ (λq=>by have q:cf ch x.id=0:=(by simpa using q);show cf ch x.id*s.2=0;rw[q];simp),Ez,Int.mul_add];show g s.1*(cf ch x.id*s.2)+_=_;rw[Int.mul_left_comm]
theorem Lq(L:List Tm)(c:Int):cf L c=lin (λa=>if a=c then 1 else 0) L:=by unfold cf lin;congr 1;refine map_congr_left λp _=>?_;show(if p.1=c then p.2 else 0)=(if p.1=c then 1 else 0)*p.2;split<;>simp
theorem UO(o:List Cl)(ch:List Tm)(c:Int):cf (DB (AY o) ch) c=(o.map λx=>cf ch x.id*sgn x.sd c).sum:=by rw[Lq,O3];congr 1;exact map_congr_left λx _=>by rw[<-Lq];rfl
theorem Adf(o:List Cl)(co:List Tm)(c:Int):cf (Gl (AY o) co) c=(o.map λx=>if x.id=c then lin (cf co) x.sd else 0).sum:=by
 induction o with
 | nil=>rfl
 | cons x o ih=>
  have e:AY (x::o)=(x.sd.map λs=>(x.id,s))++AY o:=rfl;rw[e,Ma,Ej,ih,dr,sum_cons];congr 1;generalize x.sd=sd
  induction sd with
  | nil=>show(0:Int)=if _ then 0 else 0;simp
  | cons s sd ih2=>
   rw[dr,Yb,Ej,ih2,Lq,YG _ _ _ (λq=>by have q:cf co s.1=0:=(by simpa using q);show cf co s.1*s.2=0;rw[q];simp),Ez];show(if x.id=c then 1 else 0)*(cf co s.1*s.2)+_=_;split<;>simp
theorem SV{o:List Cl}(R:Rgt o)(co:List Tm){x:Cl}(hx:x∈o):cf (Gl (AY o) co) x.id=lin (cf co) x.sd:=by
 rw[Adf]
 have key:∀l:List Cl,l.Nodup->x∈l->(∀y∈l,y.id=x.id->y=x)->(l.map λy=>if y.id=x.id then lin (cf co) y.sd else 0).sum=lin (cf co) x.sd:=by
  intro l
  induction l with
  | nil=>intro _ h;cases h
  | cons y l ih=>
   intro hn h hu;obtain⟨h1,h2⟩:=fl.1 hn;rw[dr,sum_cons];by_cases e:y=x
   ·subst e;rw[ah rfl,Hb λz hz=>ae λq=>h1 (by rw[<-hu z (bi _ hz) q];exact hz)];omega
   ·rw[ae (λq=>e (hu y ax q)),ih h2 ((bg.1 h).resolve_left (ft e)) λz hz=>hu z (bi _ hz)];omega
 refine key o ?_ hx λy hy q=>SQ R hy hx q;have:=R.nd;rw[List.nodup_iff_pairwise_ne,dz]at this;rw[List.nodup_iff_pairwise_ne];exact this.imp λq e=>q (by rw[e])
theorem Y4{o:List Cl}(co:List Tm){c:Int}(h:∀x∈o,x.id≠c):cf (Gl (AY o) co) c=0:=by rw[Adf];exact Hb λx hx=>ae<|h x hx
theorem AdP{o:List Cl}(R:Rgt o){d:Int}(hch:∀c,cf ch c≠0->HS o (d+1) c=true)(c:Int):cf (DB (AY o) ch) c=sm (A9 (ordF o) (d+1)).length fun j=>sgn (GF (ordF o) ((A9 (ordF o) (d+1)).getD j 0)).sd c*cf ch ((A9 (ordF o) (d+1)).getD j 0):=by
 rw[UO,Aff R _ (d+1) (λx _=>by rw[K9];rfl) λx hx hd=>by
  have:cf ch x.id=0:=aq λq=>by obtain⟨y,hy,e1,e2⟩:=has_iff.1 (hch _ q);rw[SQ R hy hx e1]at e2;exact hd e2
  rw[this,gj]]
 refine Bl λj hj=>?_
 have hm:(A9 (ordF o) (d+1)).getD j 0∈A9 (ordF o) (d+1):=by rw[show(A9 (ordF o) (d+1)).getD j 0=(A9 (ordF o) (d+1))[j] by simp[List.getD,hj]];exact ao hj
 unfold A9 at hm;obtain⟨x,hx,e⟩:=ag.1 hm;have:=ET (Te R) (dh.1 hx).1;rw[e]at this;have e2:GF (ordF o) ((A9 (ordF o) (d+1)).getD j 0)=x:=by unfold GF;rw[show ZP (ordF o) ((A9 (ordF o) (d+1)).getD j 0)=some x from this];rfl
 rw[e2,Int.mul_comm];congr 2
theorem Ug{o:List Cl}(R:Rgt o){d:Int}{j:Nat}(hj:j<(A9 (ordF o) d).length):∃x∈o,x.dim=d/\GF (ordF o) ((A9 (ordF o) d).getD j 0)=x.can/\(A9 (ordF o) d).getD j 0=x.id:=by
 have hm:(A9 (ordF o) d).getD j 0∈A9 (ordF o) d:=by rw[show(A9 (ordF o) d).getD j 0=(A9 (ordF o) d)[j] by simp[List.getD,hj]];exact ao hj
 unfold A9 at hm;obtain⟨x,hx,e⟩:=ag.1 hm;obtain⟨h1,h2⟩:=dh.1 hx;have:=ET (Te R) h1;rw[e]at this;have e2:GF (ordF o) ((A9 (ordF o) d).getD j 0)=x:=by unfold GF;rw[show ZP (ordF o) ((A9 (ordF o) d).getD j 0)=some x from this];rfl
 obtain⟨y,hy,rfl⟩:=mem_ord.1 h1;exact⟨y,hy,dq h2,e2,e.symm⟩
theorem Pb{r c:Nat}{M:List (List Int)}(S:Shape r c M){k:Nat}(hk:k<r):Vt c M.flatten k=if k<c then AV M k k else 0:=by
 unfold Vt;split
 ·rename_i hkc
  have hlt:k*c+k<r*c:=by have:(k+1)*c<=r*c:=du _ hk;rw[cw,fp]at this;omega
  rw[S.flat];unfold List.getD;rw[mat_at? hlt];show AV M ((k*c+k)/c) ((k*c+k)%c)=_;rw[dw k c,Nat.mul_add_div ω,fj hkc,Nat.mul_add_mod,db hkc,Nat.add_zero]
 ·rfl
section
variable {o:List Cl} {d:Int} {ids0 ids1:List Int} {r c:Nat} {f:Nat->Nat->Int} {S:FS} {x y:List Tm} {D C:Nat->Int}
theorem ZF(R:Rgt o)(hi0:A9 (ordF o) d=ids0)(hi1:A9 (ordF o) (d+1)=ids1)(hr:ids0.length=r)(hc:ids1.length=c)(hF:I7 (ordF o) (d+1)=f)(G:Gf r c f S)(hx:Eb o d x=true)(hy:Eb o d y=true)(hDe:Vt c S.d.flatten=D)(hCe:ubF S r (λi=>cf x (ids0.getD i 0)-cf y (ids0.getD i 0))=C)(hall:∀j,j<r->D j∣C j)(hch:CanL ch (cf (ids1.zip (Dr c λi=>sm c λq=>AV S.v i q*Ff r D C q)))):Eb o (d+1) ch=true/\ML o x y ch=true:=by
 have hn1:ids1.Nodup:=hi1 ▸ Z2 R (d+1);have hX:∀j,j<c->cf ch (ids1.getD j 0)=sm c λq=>AV S.v j q*Ff r D C q:=λj hj=>by rw[hch.cf_eq,VC hn1 _ hc hj]
 have hsup:∀a,cf ch a≠0->HS o (d+1) a=true:=λa ha=>by rw[hch.cf_eq]at ha;have:a∈ids1:=aq λq=>ha (U0 q);rw[<-hi1,mem_ids]at this;exact has_iff.2 this
 have hD:∀k,k<r->D k=if k<c then AV S.d k k else 0:=λk hk=>by rw[<-hDe];exact Pb G.shp.sd hk
 refine⟨(CQ _ _ _).2 hsup,(EE _ _ _ _).2 λa=>?_⟩;rw[AdP R hsup,hi1,hc];by_cases ha:a∈ids0
 ·obtain⟨i,hi,rfl⟩:=Aas ha;have hir:i<r:=ω
  rw[<-Ys G (b:=λi=>cf x (ids0.getD i 0)-cf y (ids0.getD i 0)) (y:=Ff r D C) (λk hk=>?_) i hir]
  ·refine Bl λj hj=>?_;rw[hX j hj,<-hF];unfold I7;rw[hi1,show d+1-1=d by omega,hi0]
  ·have h2:sm r (λq=>AV S.u k q*(cf x (ids0.getD q 0)-cf y (ids0.getD q 0)))=C k:=by rw[<-hCe];rfl
   rw[h2];have hk2:=hD k hk;unfold Ff;by_cases hkc:k<c
   ·rw[ah hkc]at hk2 ⊢;rw[<-hk2];by_cases h0:D k=0
    ·rw[h0,gj];have:=hall k hk;rw[h0,Int.zero_dvd]at this;exact this.symm
    ·rw[ah ⟨hk,h0⟩];exact Int.mul_ediv_cancel'<|hall k hk
   ·rw[ae hkc]at hk2 ⊢;have:=hall k hk;rw[hk2,Int.zero_dvd]at this;exact this.symm
 ·have h1:HS o d a=false:=by rw[<-hi0,mem_ids]at ha;exact Bool.eq_false_iff.2 λq=>ha<|has_iff.1 q
  have hx0:cf x a=0:=aq λq=>by rw[(CQ _ _ _).1 hx a q]at h1;cases h1
  have hy0:cf y a=0:=aq λq=>by rw[(CQ _ _ _).1 hy a q]at h1;cases h1
  rw[hx0,hy0];show _=(0:Int);refine LJ λj hj=>?_;obtain⟨z,hz,e1,e2,_⟩:=Ug R (d:=d+1) (j:=j) (by rw[hi1,hc];exact hj);rw[hi1]at e2
  have h0:sgn z.sd a=0:=Mc λs hs e=>by obtain⟨w,hw,e3,e4⟩:=R.sid z hz s hs;have:HS o d a=true:=has_iff.2 ⟨w,hw,e3.trans e,ω⟩;rw[this]at h1;cases h1
  rw[e2,K9,h0,gj]
theorem Aby(R:Rgt o)(hi0:A9 (ordF o) d=ids0)(hi1:A9 (ordF o) (d+1)=ids1)(hr:ids0.length=r)(hc:ids1.length=c)(hF:I7 (ordF o) (d+1)=f)(G:Gf r c f S)(hx:Eb o d x=true)(hy:Eb o d y=true)(hDe:Vt c S.d.flatten=D)(hCe:ubF S r (λi=>cf x (ids0.getD i 0)-cf y (ids0.getD i 0))=C){k:Nat}(hk:k<r)(hnd:¬D k∣C k){co:List Tm}(hco:CanL co (cf (ids0.zip (Dr r (AV S.u k))))):0<=D k/\(D k).natAbs<2147483648/\Eb o d co=true/\Pg o (D k) co=true/\¬D k∣lin (cf co) x-lin (cf co) y:=by
 have hn0:ids0.Nodup:=hi0 ▸ Z2 R d;have hU:∀j,j<r->cf co (ids0.getD j 0)=AV S.u k j:=λj hj=>by rw[hco.cf_eq,VC hn0 _ hr hj]
 have hin:∀a,cf co a≠0->a∈ids0:=λa ha=>by rw[hco.cf_eq]at ha;exact aq λq=>ha<|U0 q
 have hsup:∀a,cf co a≠0->HS o d a=true:=λa ha=>by have:=hin a ha;rw[<-hi0,mem_ids]at this;exact has_iff.2 this
 have hD:D k=if k<c then AV S.d k k else 0:=by rw[<-hDe];exact Pb G.shp.sd hk
 have hlin:∀L:List Tm,lin (cf co) L=sm r λi=>AV S.u k i*cf L (ids0.getD i 0):=λL=>by rw[JZ hn0 λp _ q=>hin _ q,hr];exact Bl λi hi=>by rw[hU i hi]
 refine⟨?_,?_,(CQ _ _ _).2 hsup,(Lj _ _ _).2 λa=>?_,?_⟩
 ·rw[hD];split
  ·rename_i h;exact(G.p k hk h).1
  ·exact Int.le_refl _
 ·rw[hD];split
  ·rename_i h;exact(G.p k hk h).2
  ·decide
 ·by_cases ha:∃z∈o,z.id=a
  ·obtain⟨z,hz,rfl⟩:=ha;rw[SV R co hz];by_cases hd:z.dim=d+1
   ·have hm:z.id∈ids1:=by rw[<-hi1];exact mem_ids.2 ⟨z,hz,Y,hd⟩
    obtain⟨j,hj,e⟩:=Aas hm;obtain⟨w,hw,e1,e2,e3⟩:=Ug R (d:=d+1) (j:=j) (by rw[hi1];exact hj);rw[hi1]at e2 e3;obtain rfl:w=z:=SQ R hw hz (e3.symm.trans e);have:=Wh G k j hk ω;rw[<-hD]at this;rw[hlin];refine(aw (λq=>D k∣q) (Bl λi hi=>?_)).mp this;congr 1;rw[<-hF];unfold I7;rw[hi1,show d+1-1=d by omega,hi0,e2,K9];rfl
   ·rw[Qv λs hs=>aq λq=>by
     obtain⟨w,hw,e3,e4⟩:=R.sid z hz s hs;obtain⟨w2,hw2,e5,e6⟩:=has_iff.1 (hsup _ q);obtain rfl:w=w2:=SQ R hw hw2 (e3.trans e5.symm)
     omega]
    exact Int.dvd_zero _
  ·rw[Y4 co λz hz e=>ha ⟨z,hz,e⟩];exact Int.dvd_zero _
 ·have e:lin (cf co) x-lin (cf co) y=C k:=by rw[hlin,hlin,<-Yj,<-hCe];exact Bl λi _=>by rw[Int.mul_sub]
  rw[e];exact hnd
theorem AbO(R:Rgt o){m:Int}{co:List Tm}(hb:ML o x y ch=true)(hcl:Pg o m co=true):m∣lin (cf co) x-lin (cf co) y:=by
 rw[EE]at hb;rw[Lj]at hcl
 have e:lin (cf co) (DB (AY o) ch)=lin (cf co) x-lin (cf co) y:=by
  have h1:lin (cf co) (DB (AY o) ch)=lin (cf co) (x++y.map λp=>((p.1,-p.2):Tm)):=FY _ λa=>by
   rw[hb,Ej]
   have:cf (y.map λp=>((p.1,-p.2):Tm)) a=-(cf y a):=by
    clear hb
    induction y with
    | nil=>rfl
    | cons p y ih=>rw[dr,CI,CI,ih];show(if p.1=a then -p.2 else 0)+_=_;split<;>omega
   rw[this];omega
  rw[h1,Ed]
  have:lin (cf co) (y.map λp=>((p.1,-p.2):Tm))=-(lin (cf co) y):=by
   clear h1 hb
   induction y with
   | nil=>rfl
   | cons p y ih=>rw[dr,Ez,Ez,ih];show cf co p.1*-p.2+_=_;rw[Int.mul_neg];omega
  rw[this];omega
 rw[<-e,O3]
 have key:∀l:List Cl,(∀z∈l,m∣lin (cf co) z.sd)->m∣(l.map λz=>cf ch z.id*lin (cf co) z.sd).sum:=by
  intro l
  induction l with
  | nil=>intro _;exact Int.dvd_zero _
  | cons z l ih=>
   intro h;rw[dr,sum_cons];exact Int.dvd_add (Int.dvd_trans (h z ax)<|Int.dvd_mul_left _ _)<|ih λw hw=>h w<|bi _ hw
 exact key o λz hz=>by rw[<-SV R co hz];exact hcl _
end
end
section
open Go.Lin Go.Wd Go.Sm Go.Ch
theorem AcN(r c:Nat)(f:Nat->Nat->Int):(Uc r c f).S.Shp r c:=⟨Db _ _ _,Db _ _ _,Db _ _ _,Db _ _ _,Db _ _ _⟩
theorem Yy{n a:Nat}(ha:a<n)(g:Nat->Int):sm n (λq=>(if a<n/\q<n then IR a q else 0)*g q)=g a:=by rw[Ku n a _ ha λq hq hne=>by rw[ah ⟨ha,hq⟩];unfold IR;rw[ae (ft hne),gj],ah ⟨ha,ha⟩];unfold IR;rw[ah rfl,gy]
theorem Ac5{n a:Nat}(ha:a<n)(g:Nat->Int):sm n (λq=>g q*(if q<n/\a<n then IR q a else 0))=g a:=by rw[Ku n a _ ha λq hq hne=>by rw[ah ⟨hq,ha⟩];unfold IR;rw[ae hne,gu],ah ⟨ha,ha⟩];unfold IR;rw[ah rfl,Int.mul_one]
theorem Aeb(r c:Nat)(f:Nat->Nat->Int):Gd r c f 0 (Uc r c f).S:=by
 refine⟨⟨λa j ha hj=>?_,λa j ha hj=>?_,λa b ha hb=>?_⟩,AcN r c f,λa b _ _ _ h=>ω,λa h=>ω⟩
 ·show sm r (λq=>AV (BK r r IR) a q*f q j)=sm c (λq=>AV (BK r c f) a q*AV (BK c c IR) q j);simp only[IC];rw[Yy ha λq=>f q j,Ac5 hj λq=>if a<r/\q<c then f a q else 0,ah ⟨ha,hj⟩]
 ·show sm c (λq=>f a q*AV (BK c c IR) q j)=sm r (λq=>AV (BK r r IR) a q*AV (BK r c f) q j);simp only[IC];rw[Ac5 hj λq=>f a q,Yy ha λq=>if q<r/\j<c then f q j else 0,ah ⟨ha,hj⟩]
 ·show sm r (λq=>AV (BK r r IR) a q*AV (BK r r IR) q b)=_;simp only[IC];rw[Yy ha λq=>if q<r/\b<r then IR q b else 0,ah ⟨ha,hb⟩];rfl
theorem Acx{r c:Nat}{f:Nat->Nat->Int}{s':St}(h:Fg r c (min r c) 0 (Uc r c f)=some s'):Gf r c f s'.S:=Rz (Aeb r c f) ω h
theorem Tw{S:List (Int×(Int×Int))}{a:List Tm}(h:∀p∈S,p.2.2.natAbs<=1):Bf (DB S a)<=S.length*Bf a:=by
 rw[<-(Aaa S a).2]
 induction S with
 | nil=>exact Nat.zero_le _
 | cons p S ih=>
  have ih:=ih fun q hq=>h q (mem_cons_of_mem _ hq);have h1:=h p mem_cons_self;have e:Bf (KX (p::S) a)=(cf a p.1*p.2.2).natAbs+Bf (KX S a):=rfl;rw[e,length_cons,Nat.add_mul,Nat.one_mul,Int.natAbs_mul];have h2:(cf a p.1).natAbs*p.2.2.natAbs<=Bf a*1:=Nat.mul_le_mul (CW _ _) h1;omega
theorem Ad4{S:List (Int×(Int×Int))}{a:List Tm}(h:∀p∈S,p.2.2.natAbs<=1):Bf (Gl S a)<=S.length*Bf a:=by
 rw[<-(Z5 S a).2]
 induction S with
 | nil=>exact Nat.zero_le _
 | cons p S ih=>
  have ih:=ih fun q hq=>h q (mem_cons_of_mem _ hq);have h1:=h p mem_cons_self;have e:Bf (KZ (p::S) a)=(cf a p.2.1*p.2.2).natAbs+Bf (KZ S a):=rfl;rw[e,length_cons,Nat.add_mul,Nat.one_mul,Int.natAbs_mul];have h2:(cf a p.2.1).natAbs*p.2.2.natAbs<=Bf a*1:=Nat.mul_le_mul (CW _ _) h1;omega
theorem OY{l:List Cl}(R:Rgt l):∀p∈AY l,p.2.2.natAbs<=1:=λp hp=>by obtain⟨x,hx,h2⟩:=List.mem_flatMap.1 hp;obtain⟨s,hs,rfl⟩:=ag.1 h2;rcases R.sgn x hx s hs with e|e<;>rw[show((x.id,s):Int×(Int×Int)).2.2=s.2 from Y,e]<;>decide
theorem Gi{a b A B N:Nat}(h1:a<2^A)(h2:b<2^B)(h3:A+B<=N):a*b<2^N:=by have:=Nat.mul_lt_mul'' h1 h2;rw[<-Nat.pow_add]at this;exact b6 this<|Nat.pow_le_pow_right δ h3
theorem SU{B:Nat}{ids:List Int}{n:Nat}{g:Nat->Int}(h:∀i,i<n->Bq B (g i))(hn:n<=200):Bf (ids.zip (Dr n g))<2^(8+B):=by
 have h1:=Oo (B:=B) (ids:=ids) (xs:=Dr n g) λx hx=>by obtain⟨i,hi,rfl⟩:=ag.1 hx;exact h i<|cm.1 hi
 rw[B7]at h1;refine Nat.lt_of_le_of_lt h1 ?_;rw[Nat.pow_add];exact Nat.mul_lt_mul_of_pos_right ω<|Nat.pow_pos δ
theorem AdU{r c:Nat}{S:FS}(O:S.Ok r c 660033){D C b:Nat->Int}(hCe:ubF S r b=C)(hb:∀i,i<r->Bq 100 (b i))(hr:r<=200)(hc:c<=200)(i:Nat):Bq 1320600 (sm c λq=>AV S.v i q*Ff r D C q):=by
 have hCk:∀k,k<r->Bq 660333 (C k):=λk hk=>by rw[<-hCe];exact(Kb r λq hq=>((O.bu k q).mul (hb q hq)).mono (show 660033+100<=660133 by decide)).mono ω
 have bY:=Ow (D:=D) hCk;exact(Kb c λq _=>((O.bv i q).mul (bY q)).mono (show 660033+(660333+1)<=1320400 by decide)).mono ω
def anZ:Value:=.agg #[.bool false,.slice none 0 0,.slice none 0 0,.bool false,sv []]
theorem Nf(v vx vy:Value)(d:Int)(hd:0<=d/\d<=900)(x y:List Tm)(l:List Ce)(h:Hp)(Q:QsOk v h l)(X:ChR vx h x)(Y:ChR vy h y)(hx:Eb (l.map Ce.c) d x=true)(hy:Eb (l.map Ce.c) d y=true)(bx:Bf (DB (AY (l.map Ce.c)) x)<2^2000000)(by_:Bf (DB (AY (l.map Ce.c)) y)<2^2000000)(zxy:(bz (l.map Ce.c) x&&bz (l.map Ce.c) y)=false) :
  FnT Tryz.prog 16 #[.agg #[v],.w d,vx,vy] h [] (fun w h' ms'=>h.le h'/\ms'=[]/\w=.tuple #[anZ,.w 40]):=by
 have ov:=Q.X.rd.q.rd.one;obtain⟨xa,xc,rfl,_⟩:=X.rd.rd.ex;obtain⟨ya,yc,rfl,_⟩:=Y.rd.rd.ex;refine Ap func16 ntmps16 rfl rfl<|fun w0 hw0=>?_;simp only[AR];refine Ar<|AK [_] rfl rfl (by rfl) rfl rfl rfl<|fun g4=>BS [.bool false,.nl,.nl,.bool false,.es] rfl E6 rfl rfl (fun g8=>Qm rfl (Bp (Qx (oG rfl C9 Bd (Seg.blk 1 rfl)) rfl (Qm rfl (Qm rfl (Qm rfl (Qx (AN Ab8 [.nl,.w 0,.nl,.nl] [(0,_),(1,_),(2,_),(3,_)] [_,_,_,_] rfl FJ rfl rfl Qt rfl) rfl (BS [.nl,.w 0,.nl,.nl] rfl FJ rfl rfl (fun g10=>?_)))))))));refine Sa 0 [_,_,_,_] FJ rfl (by simp[ov,B8]) ?_;refine Am<|Av 0 rfl fun h1 l1 hS10=>(Av 1 rfl fun h2 l2 hS4=>?_);have l02:=AD l1 l2;have s4:∀h',h2.le h'->∀ms,Seg h' ms (⟨g4,0,none⟩:Addr) [v]:=fun h' q ms=>(hS4.le q).any;have s10:∀h',h2.le h'->∀ms,Seg h' ms (⟨g10,0,none⟩:Addr) [v,.w d,.slice xa x.length xc,.slice ya y.length yc]:=fun h' q ms=>((hS10.le l2).le q).any;have Q2:=Q.up l02;have hwr:=IE v (.slice xa x.length xc) (.slice ya y.length yc) d x y l h2 Q2 (X.up l02) (Y.up l02) hx hy bx by_;rw[zxy]at hwr;unfold qV at hwr;refine Ac<|Ar<|Qx (oG rfl XQ FJ<|s10 _ (BE) _) rfl<|Qx (As rfl call42 rfl<|hwr _) rfl<|Qm rfl<|Bp<|Qm rfl<|Qm rfl<|Am ?_;refine Aw rfl (fun hc=>?_)<|fun hc=>ie σ hc;refine Ar<|Qx (AN AbM [.bool false,.nl,.nl,.bool false,.es] [] [_,_,_,_,_] rfl E6 rfl rfl Qt rfl) rfl<|Qm rfl ?_;refine Sa 0 [_,_,_,_,_] E6 rfl (by simp[Value.oneCell']) ?_;refine Qm rfl<|Am<|Aj<|Ae ?_;exact Ig (vs:=[_,_,_,_,_]) 0 rfl rfl rfl U35 rfl E6 rfl rfl (⟨l02,rfl,rfl⟩)
variable {v vx vy:Value} {h:Hp} {l:List Ce} {d:Int} {x y:List Tm}
structure Tq(v vx vy:Value)(h:Hp)(d:Int)(l:List Ce)(x y:List Tm):Prop where
 Q:QsOk v h l
 X:ChR vx h x
 Y:ChR vy h y
 hd:0<=d/\d<=900
 hl:l.length<=200
 hx:Eb (l.map Ce.c) d x=true
 hy:Eb (l.map Ce.c) d y=true
 zx:bz (l.map Ce.c) x=true
 zy:bz (l.map Ce.c) y=true
 hn:x.length+y.length<=100000
 ha:Bf x+Bf y<2^99
 hT:(AY (l.map Ce.c)).length<100000
theorem Tq.up{h':Hp}(T:Tq v vx vy h d l x y)(q:h.le h'):Tq v vx vy h' d l x y:=⟨T.Q.up q,T.X.up q,T.Y.up q,T.hd,T.hl,T.hx,T.hy,T.zx,T.zy,T.hn,T.ha,T.hT⟩
set_option exponentiation.threshold 4000000 in
theorem Tq.bch(T:Tq v vx vy h d l x y){ch:List Tm}{B:Nat}(hb:Bf ch<2^B)(hB:17+B<=2000000):Bf (DB (AY (l.map Ce.c)) ch)<2^2000000/\Bf (Gl (AY (l.map Ce.c)) ch)<2^2000000:=by have h1:(AY (l.map Ce.c)).length<2^17:=b6 T.hT δ;have h2:=OY T.Q.K.r;exact⟨Nat.lt_of_le_of_lt (Tw h2) (Gi h1 hb hB),Nat.lt_of_le_of_lt (Ad4 h2) (Gi h1 hb hB)⟩
theorem Tq.bx(T:Tq v vx vy h d l x y):Bf (DB (AY (l.map Ce.c)) x)<2^2000000:=(T.bch (B:=99) (Nat.lt_of_le_of_lt (Nat.le_add_right _ _) T.ha) δ).1
theorem Tq.by_(T:Tq v vx vy h d l x y):Bf (DB (AY (l.map Ce.c)) y)<2^2000000:=(T.bch (B:=99) (Nat.lt_of_le_of_lt (Nat.le_add_left _ _) T.ha) δ).1
set_option exponentiation.threshold 4000000 in
theorem Tq.ha2(T:Tq v vx vy h d l x y):Bf x+Bf y<2^2000000:=b6 T.ha (Nat.pow_le_pow_right δ δ)
structure Fq(l:List Ce)(d:Int)(s':St):Prop where
 hfp:Fg (A9 (cn l) d).length (A9 (cn l) (d+1)).length (min (A9 (cn l) d).length (A9 (cn l) (d+1)).length) 0 (Uc (A9 (cn l) d).length (A9 (cn l) (d+1)).length (I7 (cn l) (d+1)))=some s'
theorem AeP(Q:QsOk v h l)(d:Int):∀i j,j<(A9 (cn l) d).length->Bq 33 (I7 (cn l) d i j):=λi j hj=>by obtain⟨x,hx,e1,e2,e3⟩:=Ug Q.K.r (d:=d) (j:=j) hj;unfold I7;rw[show GF (cn l) ((A9 (cn l) d).getD j 0)=x.can from e2,K9];obtain⟨z,hz,rfl⟩:=ag.1 hx;have h1:=Pi z.c.sd ((A9 (cn l) (d-1)).getD i 0) λs hs=>Q.K.r.sgn _ hx s hs;have h2:=Q.X.sdn z hz;show Int.natAbs _<2^33;omega
set_option exponentiation.threshold 4000000 in
theorem AbQ{s':St}(T:Tq v vx vy h d l x y)(F:Fq l d s'):FnT Tryz.prog 16 #[.agg #[v],.int .i64 d,vx,vy] h [] (λw h' ms'=>h.le h'/\ms'=[] ∧
  ((∃ch vc,w=.tuple #[S8 true vc (.nl) 0,.w 0]/\CanL ch (cf ch)/\ChR vc h' ch/\Bf ch<2^1320700/\Eb (l.map Ce.c) (d+1) ch=true/\ML (l.map Ce.c) x y ch=true) ∨
  (∃co vc m,w=.tuple #[S8 false (.nl) vc m,.w 0]/\CanL co (cf co)/\ChR vc h' co/\Bf co<2^660100/\0<=m/\m<2147483648/\Eb (l.map Ce.c) d co=true/\Pg (l.map Ce.c) m co=true/\¬m∣lin (cf co) x-lin (cf co) y))):=by
 have hm0:(A9 (cn l) d).length<=100:=T.Q.many d;have hm1:(A9 (cn l) (d+1)).length<=100:=T.Q.many (d+1);have G:=Acx F.hfp;have R:=T.Q.K.r
 have hD:∀k,k<(A9 (cn l) d).length->(Vt (A9 (cn l) (d+1)).length s'.S.d.flatten k).natAbs<4294967296:=λk hk=>by
  rw[Pb G.shp.sd hk];split
  ·rename_i h2;have:=(G.p k hk h2).2;omega
  ·decide
 have hbq:∀i,i<(A9 (cn l) d).length->Bq 100 (cf x ((A9 (cn l) d).getD i 0)-cf y ((A9 (cn l) d).getD i 0)):=λi _=>by have h1:=CW x ((A9 (cn l) d).getD i 0);have h2:=CW y ((A9 (cn l) d).getD i 0);have h3:=T.ha;show(cf x _-cf y _).natAbs<2^100;have:(2:Nat)^99<=2^100:=Nat.pow_le_pow_right δ δ;omega
 refine(T5 v vx vy d T.hd x y l h T.Q T.hl T.X T.Y T.hx T.hy T.bx T.by_ T.zx T.zy T.hn T.ha _ _ _ _ Y Y Y Y _ Y (λi j _ hj=>AeP T.Q (d+1) i j hj) s' F.hfp _ _ Y Y hD).mono λw h' ms' ⟨q,e,O,A⟩=>⟨q,e,?_⟩
 rcases A with ⟨hall,vc,rfl,ch,C,CR,ha_,hn_⟩|⟨k,hk,hnd,_,vc,rfl,co,C,CR,ha_,hn_⟩
 ·left
  obtain⟨h1,h2⟩:=ZF R Y Y Y Y Y G T.hx T.hy Y Y hall C;refine⟨ch,vc,Y,C.congr λc=>(C.cf_eq c).symm,CR,Nat.lt_of_le_of_lt ha_ (b6 (SU (λi _=>AdU O Y hbq ω ω i) ω) (Nat.pow_le_pow_right δ δ)),h1,h2⟩
 ·right
  obtain⟨h1,h2,h3,h4,h5⟩:=Aby R Y Y Y Y Y G T.hx T.hy Y Y hk hnd C;refine⟨co,vc,_,Y,C.congr λc=>(C.cf_eq c).symm,CR,Nat.lt_of_le_of_lt ha_ (b6 (SU (λi _=>O.bu k i) ω) (Nat.pow_le_pow_right δ δ)),h1,(by have h6:=Int.ofNat_lt.2 h2;rw[Int.natAbs_of_nonneg h1]at h6;exact h6),h3,h4,h5⟩
structure AnQ(v vx vy:Value)(d:Int)(l:List Ce)(x y:List Tm)(sm:Bool)(s1 s2:Value)(m:Int)(h:Hp):Prop where
 m0:0<=m/\m<2147483648
 yes:sm=true->∃ch,CanL ch (cf ch)/\Eb (l.map Ce.c) (d+1) ch=true/\ML (l.map Ce.c) x y ch=true
 no:sm=false->∃co,Pg (l.map Ce.c) m co=true/\¬m∣lin (cf co) x-lin (cf co) y
 ck:∀h2,h.le h2->∀ms,FnV Tryz.prog 19 #[.agg #[v],.w d,vx,vy,S8 sm s1 s2 m] h2 ms (.bool true)
 rk:∀h2,h.le h2->∀ms,FnV Tryz.prog 18 #[.agg #[v],.w d,vx,vy,S8 sm s1 s2 m] h2 ms (.bool true)
theorem AnQ.iff{s1 s2:Value}{m:Int}{sm:Bool}(A:AnQ v vx vy d l x y sm s1 s2 m h)(R:Rgt (l.map Ce.c)):sm=true<->∃ch,ML (l.map Ce.c) x y ch=true:=
 ⟨λe=>(A.yes e).imp λ_ q=>q.2.2,λ⟨ch,hb⟩=>by
  cases sm with
  | true=>rfl
  | false=>
   obtain⟨co,h1,h2⟩:=A.no Y
   exact ie (AbO R hb h1) h2⟩
set_option exponentiation.threshold 4000000 in
theorem TR{s':St}(T:Tq v vx vy h d l x y)(F:Fq l d s'):FnT Tryz.prog 16 #[.agg #[v],.int .i64 d,vx,vy] h [] (λw h' ms'=>h.le h'/\ms'=[] ∧
  ∃sm a1 n1 c1 a2 n2 c2 m,w=.tuple #[S8 sm (.slice a1 n1 c1) (.slice a2 n2 c2) m,.w 0]/\AnQ v vx vy d l x y sm (.slice a1 n1 c1) (.slice a2 n2 c2) m h'):=by
 refine(AbQ T F).mono λw h' ms' ⟨q,e,A⟩=>⟨q,e,?_⟩
 rcases A with ⟨ch,vc,rfl,hcc,CR,hab,hin,hbn⟩|⟨co,vc,m,rfl,hcc,CR,hab,hm0,hm1,hin,hcl,hnd⟩
 ·obtain⟨ca,cc,rfl,_⟩:=CR.rd.rd.ex;have b1:=λh3 (l3:h'.le h3)=>((T.up (AD q l3)).bch hab δ).1;refine⟨true,_,_,_,_,_,_,_,Y,by decide,λ_=>⟨ch,hcc,hin,hbn⟩,λe=>(nomatch e),λh3 l3 ms=>?_,λh3 l3 ms=>?_⟩
  ·have T3:=T.up (AD q l3);have hck:=Ud v _ _ (.slice ca ch.length cc) (.nl) d 0 T.hd x y ch [] l h3 T3.Q T3.X T3.Y (CR.up l3) (DD _) T.hx T.hy T.bx T.by_ T.zx T.zy T.hn T.ha2 (b1 h3 l3) (by unfold Sz;decide);rw[hin,hbn]at hck;exact hck _
  ·have T3:=T.up (AD q l3);have hrk:=Ro v _ _ (.slice ca ch.length cc) (.nl) d 0 T.hd x y ch [] l h3 T3.Q T3.X T3.Y (CR.up l3) (DD _) T.hx T.hy T.bx T.by_ T.zx T.zy T.hn T.ha2 (b1 h3 l3) T.hT (by unfold Sz;decide);rw[hin,hbn]at hrk;exact hrk _
 ·obtain⟨ca,cc,rfl,_⟩:=CR.rd.rd.ex;have b1:=λh3 (l3:h'.le h3)=>((T.up (AD q l3)).bch hab δ).2;have hpp:Bf co*(Bf x+Bf y)<2^2000000:=Gi hab T.ha δ;refine⟨false,_,_,_,_,_,_,_,Y,⟨hm0,hm1⟩,λe=>(nomatch e),λ_=>⟨co,hcl,hnd⟩,λh3 l3 ms=>?_,λh3 l3 ms=>?_⟩
  ·have T3:=T.up (AD q l3);have hck:=N2 v _ _ (.nl) (.slice ca co.length cc) d m x y [] co l h3 T3.Q T3.X T3.Y (DD _) (CR.up l3) T.hx T.hy T.bx T.by_ T.zx T.zy T.hn T.ha2 (b1 h3 l3) hpp (show m.natAbs<4294967296 by omega);rw[hin,hcl,bq hm0,cg hnd]at hck;exact hck _
  ·have T3:=T.up (AD q l3);have hrk:=To v _ _ (.nl) (.slice ca co.length cc) d m T.hd x y [] co l h3 T3.Q T3.X T3.Y (DD _) (CR.up l3) T.hx T.hy T.bx T.by_ T.zx T.zy T.hn T.ha2 (b1 h3 l3) hpp T.hT (Sz.of (B:=32) (show m.natAbs<2^32 by omega) δ);rw[hin,hcl,bq hm0,cg hnd]at hrk;exact hrk _
end
section
open Go.Lin Go.Wd Go.Sm Go.Ch
theorem PA{v vx vy:Value}{h:Hp}{d:Int}{l:List Ce}{x y:List Tm}{s':St}(T:Tq v vx vy h d l x y)(F:Fq l d s')(same sm:Bool)(hsm:sm=true<->∃ch,ML (l.map Ce.c) x y ch=true)(ms:List Hp) :
  FnV Tryz.prog 36 #[.agg #[v],.w d,vx,vy,.bool same] h ms (.bool (decide (sm=same))):=by
 refine DY ?_ ms;have ov:=T.Q.X.rd.q.rd.one;have R:=T.Q.K.r;obtain⟨xa,xc,rfl,_⟩:=T.X.rd.rd.ex;obtain⟨ya,yc,rfl,_⟩:=T.Y.rd.rd.ex;refine Ap func36 ntmps36 Y Y<|λw0 hw0=>?_;simp only[AR];refine Ar<|AK [_] Y Y (by rfl) Y Y Y<|λg5=>Qm Y<|Am<|Av 0 Y λh1 l1 hS5=>?_;have s5:∀h',h1.le h'->∀ms,Seg h' ms (⟨g5,0,none⟩:Addr) [v]:=λh' q ms=>(hS5.le q).any;refine Ar<|Qx (oG Y C9 Bd<|s5 _ (BE) _) Y<|Qm Y<|Qm Y<|Qm Y<|Qc call16 Y (TR (T.up l1) F)<|λw h2 ms2 l2 hF=>?_;obtain⟨l2',rfl,sa,a1,n1,c1,a2,n2,c2,m,rfl,A⟩:=hF;obtain rfl:sa=sm:=Bool.eq_iff_iff.2 ((A.iff R).trans hsm.symm);refine Qm Y<|Qm Y<|Qm Y<|BS [.bool false,.nl,.nl,.bool false,.es] Y E6 Y Y<|λg11=>?_;refine Sa 0 [_,_,_,_,_] E6 Y (by simp[ov,B8]) ?_;refine Qm Y<|Am<|Av 0 Y λh3 l3 hS11=>?_;have l13:=AD l2' l3;have hck:=A.ck h3 l3;have hrk:=A.rk h3 l3;unfold S8 at hck hrk;have osm:(sv (A7 m.natAbs)).oneCell'=true:=rfl;have s11:∀ms,Seg h3 ms (⟨g11,0,none⟩:Addr) [.bool sa,.slice a1 n1 c1,.slice a2 n2 c2,.bool (decide (m<0)),sv (A7 m.natAbs)]:=λms=>hS11.any;have d0:∀ms,Cell h3 ms ((⟨g11,0,none⟩:Addr).add 0) (.bool sa):=λms=>(hS11 0 _ Y).any;by_cases hs:sa=same
 ·rw[bq hs];refine Ar<|Qm Y<|Qx (Cw (Cq Y Y Y)<|aw Value.bool<|bq Y) Y<|Qm Y<|Qg (oF G0 Y) Y<|Qg (oL Y U4<|d0 _) Y<|Qg (Au Y Y) Y<|Qg (Cw (Kj Y U4 Y Y)<|aw Value.bool<|bq hs) Y<|Qm Y<|Qm Y<|Qg (oG Y C9 Bd<|s5 _ l13 _) Y<|Qg (Au Y Y) Y<|Qg (Au Y Y) Y<|Qg (Au Y Y) Y<|Qg (oG Y U35 E6<|s11 _) Y<|Qg (As Y call18 Y<|hrk _) Y<|Qm Y<|Qm Y<|Qg (oG Y C9 Bd<|s5 _ l13 _) Y<|Qg (Au Y Y) Y<|Qg (Au Y Y) Y<|Qg (Au Y Y) Y<|Qg (oG Y U35 E6<|s11 _) Y<|Qg (As Y call19 Y<|hck _) Y<|Qm Y<|Qm Y<|Am<|Aj ?_;exact Al Y Y<|Y
 ·rw[cg hs];refine Ar<|Qm Y<|Qx (Cw (Cq Y Y Y)<|aw Value.bool<|bq Y) Y<|Qm Y<|Qg (oF G0 Y) Y<|Qg (oL Y U4<|d0 _) Y<|Qg (Au Y Y) Y<|Qg (Cw (Kj Y U4 Y Y)<|aw Value.bool<|cg hs) Y<|Qm Y<|Qm Y<|Qk Y<|Qk Y<|Qk Y<|Qk Y<|Qk Y<|Qk Y<|Qm Y<|Qm Y<|Qk Y<|Qk Y<|Qk Y<|Qk Y<|Qk Y<|Qk Y<|Qm Y<|Qm Y<|Am<|Aj ?_;exact Al Y Y<|Y
def M8(l:List Int)(n:Nat):List Tm:=(range n).map λj=>(l.getD (2*j) 0,l.getD (2*j+1) 0)
theorem XE(l:List Int)(n:Nat):M8 l (n+1)=M8 l n++[(l.getD (2*n) 0,l.getD (2*n+1) 0)]:=by unfold M8;rw[List.range_succ,dd];rfl
theorem ZM(l:List Int)(n:Nat):(M8 l n).length=n:=by simp[M8]
theorem Ua(v:Value)(l:List Int)(n:Nat)(hl:l.length=2*n)(hn:n<=1000)(hI:∀x∈l,Cd x)(h:Hp)(R:RdL cI 1 h [] v l):FnT Tryz.prog 37 #[v] h [] (λr h' ms'=>h.le h'/\ms'=[]/\RdL DQ 3 h' [] r (M8 l n)):=by
 have ov:=R.rd.one;have rL:Rd h [] v 1 (2*n) (l.flatMap cI):=by have:=R.rd;rwa [hl]at this
 refine Ap func37 ntmps37 Y Y<|λw0 hw0=>?_;simp only[AR];refine Ar<|Qm Y<|Bp<|Qm Y<|Am<|Ac<|Ar<|Qm Y<|Am<|Ag<|BV ?_;refine AB (λq sl h' ms'=>∃(j:Nat) (w:Value) (m:Hp),n-j=q/\sl=[(0,v),(3,w),(4,.w ((2*j+1:Nat):Int))]/\h=h'/\ms'=[m]/\j<=n/\OwnL DQ 3 79 m w (M8 l j)) (n-0) _ ⟨0,_,Hp.emp,Y,Y,Y,Y,ω,OwnL.nil EC⟩ Qs ?_;rintro q sl h' ms' ⟨j,w,m,rfl,rfl,rfl,rfl,hj,hO⟩;have ow:=hO.o1;refine Ac<|Ar<|Qm Y<|Qm Y<|Qx (Aq rL.any Y AZ Y) Y<|Qm Y<|Am ?_;refine Aw Y (λhlt=>?_)<|λhlt=>?_
 ·have hjn:j<n:=ω
  have h0:2*j<l.length:=ω
  have h1:2*j+1<l.length:=ω
  obtain⟨a,ha⟩:∃a,l[2*j]=a:=⟨_,Y⟩
  obtain⟨b,hb⟩:∃b,l[2*j+1]=b:=⟨_,Y⟩
  have hbI:Cd b:=hI b (hb ▸ ao h1);have ca:∀ms,Cell h ms ((AH v).add (2*j*1)) (.w a):=λms=>(R.any (ms:=ms)).cell0 h0 (by rw[ha];rfl);have cb:∀ms,Cell h ms ((AH v).add ((2*j+1)*1)) (.w b):=λms=>(R.any (ms:=ms)).cell0 h1 (by rw[hb];rfl);have etk:M8 l (j+1)=M8 l j++[(a,b)]:=by rw[XE,show l.getD (2*j) 0=a by simp[List.getD,h0,ha],show l.getD (2*j+1) 0=b by simp[List.getD,h1,hb]]
  have htl:=ZM l j;have osb:(sv (A7 b.natAbs)).oneCell'=true:=rfl;refine Ah<|Ab<|Ac<|Ag<|AS (n:=15) (bs:=[ig,ig,ig,ig,ig,ig,ig,ig,ig,ig,ig,ig,ii,ii,ii]) [ig,ig,ig,ig,ig,ig,ig,ig,ig,ig,ig,ig] CC κ κ Y Y<|Qq Y<|Qq Y<|Qq Y<|Qp Y (oS Y)<|Qp Y (BC (2*j) rL.any Y AZ Bk Y Y)<|QL Y U3 (ca _)<|Qq Y<|Qq Y<|Qp Y (BC (2*j+1) rL.any Y AZ Bk Y Y)<|QL Y U3 (cb _)<|Qp Y (As Y call25 Y<|Hq b hbI _ _)<|Qp Y (AN WX [.w 0,.bool false,.es] [(0,_),(1,_)] [_,_,_] Y Co Y Y Qt Y) ?_;unfold Dd;simp only[bh,ap];refine Qo 12 Y<|Ay [_,_,_] Y CN Co Y (by rfl) Y Y ω Y Y Y<|λg23=>Qw<|Qo 13 Y<|AJ 1 hO (RdL.one EC (x:=((a,b):Tm)) Mh Y) Y CN Co Y ω Y Y Y DO (by(try simp only[ab]);omega) (by(try simp only[ab]);omega) rfl rfl rfl<|λv9 m9 hO9=>?_;have o9:=hO9.o1;refine Qw<|Qo 14 Y<|Qm Y<|Qw<|Qe ?_;rw[<-etk]at hO9;refine Ai<|Ab<|Ad<|Qm Y<|Qx (oA Y) Y<|Qm Y<|An<|AQ ?_;exact Ao (n-(j+1)) _ ω ⟨j+1,v9,m9,Y,Y,Y,Y,ω,hO9⟩ Qs
 ·obtain rfl:j=n:=ω
  refine Cx hO λh2 l2 hR=>Ax<|Aa<|Aa<|Af<|Ab<|Ar<|Qm Y<|Qm Y<|Am<|Aj ?_
  exact Al Y Y (⟨l2,Y,hR⟩)
end
end Go.Proofs.Q