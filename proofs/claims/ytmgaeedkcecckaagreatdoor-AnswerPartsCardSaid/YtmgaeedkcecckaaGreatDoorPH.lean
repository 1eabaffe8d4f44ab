/- A part of the proof. -/
import Derived.Test.YtmgaeedkcecckaaGreatDoorPG
set_option linter.unusedSimpArgs false
set_option linter.unusedVariables false
set_option linter.unusedSectionVars false
set_option maxRecDepth 100000
set_option maxHeartbeats 4000000

open List (mem_map length_map length_singleton getElem_mem replicate range length_append nil_append length_take cons_append map_append mem_cons_self mem_cons_of_mem length_nil length_drop take_succ_eq_append_getElem append_nil map_map map_cons length_set take_length pairwise_map append_assoc getElem_map length_cons map_congr_left sum_cons take_of_length_le)
namespace Go.Proofs.Q
open Go.Proofs.Tryz
open Go.Eng Go.RowKit
section
open Go.Lin Go.Wd Go.Sm Go.Ch
theorem MM(Z:List Nat)(j d:Nat):(iD Z).set j (d:Int)=iD (Z.set j d):=by unfold iD;rw[List.map_set];rfl
theorem MP{Z:List Nat}{x y i k c o ai bk:Nat}(hk:i+k<Z.length)(ho:Z.getD (i+k) 0=o)(hbk:y/65536^k%65536=bk)
  (hv:val 65536 Z+c*65536^(i+k)=x%65536^i*y+ai*(y%65536^k)*65536^i) :
  val 65536 (Z.set (i+k) ((o+ai*bk+c)%65536))+(o+ai*bk+c)/65536*65536^(i+k+1)=x%65536^i*y+ai*(y%65536^(k+1))*65536^i:=by
 have h1:=Hj 65536 Z (i+k) ((o+ai*bk+c)%65536) hk;rw[ho]at h1;have h2:y%65536^(k+1)=y%65536^k+65536^k*bk:=by rw[Nat.pow_succ,Nat.mod_mul,hbk]
 obtain⟨d,hd⟩:∃d,o+ai*bk+c=d:=⟨_,Y⟩
 rw[hd]at h1 ⊢;have h3:=Nat.mod_add_div d 65536;rw[h2,Nat.mul_add,db]
 have h4:ai*(65536^k*bk)*65536^i=65536^(i+k)*(ai*bk):=by rw[Nat.pow_add];ac_rfl
 rw[h4];obtain⟨P,hP⟩:∃P,65536^(i+k)=P:=⟨_,Y⟩
 rw[show 65536^(i+k+1)=P*65536 by rw[Nat.pow_succ,hP]];rw[hP]at h1 hv ⊢;have h5:=ao (P*·) h3;have h6:=ao (P*·) hd;simp only[Nat.mul_add]at h5 h6;have h7:d/65536*(P*65536)=P*(65536*(d/65536)):=by rw[dr,Nat.mul_assoc]
 have h8:c*P=P*c:=dr _ _;omega
theorem Oq{Z:List Nat}{x y i k c ai:Nat}(hk:i+k<Z.length)(ho:Z.getD (i+k) 0=0)(hy:y%65536^k=y)(hai:x/65536^i%65536=ai)
  (hv:val 65536 Z+c*65536^(i+k)=x%65536^i*y+ai*(y%65536^k)*65536^i) :
  val 65536 (Z.set (i+k) c)=x%65536^(i+1)*y:=by
 have h1:=Hj 65536 Z (i+k) c hk;rw[ho,Nat.mul_zero,Nat.add_zero]at h1;rw[h1,Nat.pow_succ,Nat.mod_mul,hai,db];rw[hy]at hv;have h2:65536^(i+k)*c=c*65536^(i+k):=dr _ _;have h3:65536^i*ai*y=ai*y*65536^i:=by rw[Nat.mul_assoc,dr]
 omega
theorem W8(va vb:Value)(x y:Nat)(h:Hp)(RA:RdL cI 1 h [] va (iD (dg 65536 x)))(RB:RdL cI 1 h [] vb (iD (dg 65536 y)))(hx:(dg 65536 x).length<=400000)(hy:(dg 65536 y).length<=400000):FnT Tryz.prog 70 #[va,vb] h [] (λr h' ms'=>h.le h'/\ms'=[]/\RdL cI 1 h' [] r (iD (dg 65536 (x*y)))):=by
 obtain⟨n,hn⟩:∃n,(dg 65536 x).length=n:=⟨_,Y⟩
 obtain⟨p,hp⟩:∃p,(dg 65536 y).length=p:=⟨_,Y⟩
 have rA:Rd h [] va 1 n ((iD (dg 65536 x)).flatMap cI):=by have:=RA.rd;rwa [BU,hn]at this
 have rB:Rd h [] vb 1 p ((iD (dg 65536 y)).flatMap cI):=by have:=RB.rd;rwa [BU,hp]at this
 have oa:=rA.one;have ob:=rB.one;have hxn:x%65536^n=x:=cw ((BV (b:=65536) δ n x).1 ω);have hyp:y%65536^p=y:=cw ((BV (b:=65536) δ p y).1 ω);refine Ao func70 ntmps70 Y Y (λw0 hw0=>?_);simp only[AS];refine As (Qm Y (Bw (Qm Y (Qx (Aq rA.any Y A9 Y) Y (Qm Y (Qx (Aq rB.any Y A9 Y) Y (Qx (oA Y) Y (G6 Bf ω (0:Int) (n:=n+p) Y A9 Bp Y Y Y ω ω ω ω Y Y Y (λg15 ev m0 hev hOi=>?_)))))))));have oe:=hOi.o1;refine Qm Y (An (Ac (As (Qm Y (An (Af ?_))))));refine AC (λq sl h' ms'=>∃(i:Nat) (mo:Hp) (Z:List Nat),n-i=q/\sl=[(0,va),(1,vb),(5,ev),(6,.w (i:Int))]/\h=h'/\ms'=[mo]/\i<=n/\Z.length=n+p/\(∀a∈Z,a<65536)/\(∀j,i+p<=j->Z.getD j 0=0)/\val 65536 Z=x%65536^i*y/\OwnL cI 1 3 mo ev (iD Z)) (n-0) _ ⟨0,m0,replicate (n+p) 0,Y,Y,Y,Y,ω,by simp,λa ha=>by rw[(List.mem_replicate.1 ha).2];decide,λj _=>by simp[List.getD,List.getElem?_replicate];split<;>rfl,by rw[EE,Nat.pow_zero,Nat.mod_one,Nat.zero_mul],by rw[show iD (replicate (n+p) 0)=replicate (n+p) 0 by simp[iD]];exact hOi⟩ Qs ?_;rintro q sl h' ms' ⟨i,moA,ZA,rfl,rfl,rfl,rfl,hi,hZA,hltA,hzeroA,hvA,hOA⟩;refine Ac (As (Qm Y (Qm Y (Qx (Aq rA.any Y A9 Y) Y (Qm Y (An ?_))))));refine Ax Y (λhin=>?_) (λhin=>?_)
 ·have hin':i<n:=ω
  have cA:=EF RA (i:=i) ω;obtain⟨ai,hai⟩:∃ai,x/65536^i%65536=ai:=⟨_,Y⟩
  have haib:ai<65536:=ω
  rw[hai]at cA;refine Ah (Ab (Ac (Af (As (Qm Y (An (Ac (As (Qm Y (An (Af ?_)))))))))));refine AC (λq sl h' ms'=>∃(k c:Nat) (mo:Hp) (Z:List Nat),p-k=q/\sl=[(0,va),(1,vb),(5,ev),(6,.w (i:Int)),(7,.w (c:Int)),(8,.w (k:Int))]/\h=h'/\ms'=[mo]/\k<=p/\c<65536/\Z.length=n+p/\(∀a∈Z,a<65536)/\(∀j,i+p<=j->Z.getD j 0=0)/\val 65536 Z+c*65536^(i+k)=x%65536^i*y+ai*(y%65536^k)*65536^i/\OwnL cI 1 3 mo ev (iD Z)) (p-0) _ ⟨0,0,moA,ZA,Y,Y,Y,Y,ω,by decide,hZA,hltA,hzeroA,by rw[hvA,Nat.pow_zero,Nat.mod_one];simp,hOA⟩ Qs ?_;rintro q sl h' ms' ⟨k,c,mo,Z,rfl,rfl,rfl,rfl,hk,hc,hZ,hlt,hzero,hv,hO⟩;have rE:Rd h [mo] ev 1 (n+p) ((iD Z).flatMap cI):=by have:=(hO.rd (h:=h) (ms:=[mo]) Mh).rd;rwa [BU,hZ]at this
  refine Ac (As (Qm Y (Qm Y (Qx (Aq rB.any Y A9 Y) Y (Qm Y (An ?_))))));refine Ax Y (λhkp=>?_) (λhkp=>?_)
  ·have hkp':k<p:=ω
   have cB:=EF RB (i:=k) ω;obtain⟨bk,hbk⟩:∃bk,y/65536^k%65536=bk:=⟨_,Y⟩
   have hbb:bk<65536:=ω
   rw[hbk]at cB;have hikZ:i+k<Z.length:=ω
   obtain⟨o,ho⟩:∃o,Z.getD (i+k) 0=o:=⟨_,Y⟩
   have hoZ:Z[i+k]=o:=by rw[<-ho];simp[List.getD,hikZ]
   have hob:o<65536:=hlt o (hoZ ▸ ap hikZ)
   have cZ:Cell h [mo] ((AI ev).add ((i+k)*1)) (.w (o:Int)):=by
    have h1:i+k<(iD Z).length:=by rw[BU];exact hikZ
    exact(hO.rd (h:=h) (ms:=[mo]) Mh).cell0 h1 (by rw[N5 hikZ,hoZ];rfl)
   have hprod:ai*bk<=65535*65535:=ff ω ω;have hpc:(ai:Int)*bk=((ai*bk:Nat):Int):=(fq ai bk).symm;obtain⟨d,hd⟩:∃d:Nat,o+ai*bk+c=d:=⟨_,Y⟩
   have hdI:(o:Int)+ai*bk+c=(d:Int):=by rw[hpc];omega
   have hstep:=MP hikZ ho hbk hv;rw[hd]at hstep;have hdb:d/65536<65536:=ω
   have q1:((d:Int)/65536)=((d/65536:Nat):Int):=ω
   have q2:((d:Int)%65536)=((d%65536:Nat):Int):=ω
   refine Ah (Ab (Ac (Af (Ac (BP 17 CK (by kernel_rfl) rfl (Wm rfl (Wm rfl (Wm rfl (BQ (oA rfl) rfl rfl (BQ (BR (i+k) rE rfl A9 Bp rfl rfl) rfl rfl (Wl rfl U3 (cZ) (Wm rfl (Wm rfl (BQ (BR (i) rA.any rfl A9 Bp rfl rfl) rfl rfl (Wl rfl U3 (cA _) (Wm rfl (Wm rfl (BQ (BR (k) rB.any rfl A9 Bp rfl rfl) rfl rfl (Wl rfl U3 (cB _) ?_)))))))))))))))))));refine BQ (oM rfl (by rw[hpc];omega)) rfl rfl ?_;refine BQ (oA rfl (by rw[hpc];omega)) rfl rfl ?_;refine Wm rfl (BB ?_);refine Qx (Dx (oA rfl (by rw[hpc];omega)) (congrArg (Value.int .i64) hdI)) rfl ?_;refine Qm rfl (Bw (Qm rfl (Qm rfl (Qm rfl (Qx (oA rfl) rfl (Qm rfl (Qx (Dx (Eb rfl rfl rfl (by omega) (by omega)) (congrArg (Value.int .i64) q2)) rfl (Qx (BR (i+k) rE rfl A9 Bp rfl rfl) rfl ?_))))))));refine DY 0 (i+k) hO rfl Bp rfl rfl rfl (by rw[BU];omega) rfl rfl (fun mo' hO'=>?_);rw[MM]at hO';refine GM (Qm rfl (Qx (Dx (DP rfl rfl rfl (by omega) (by omega)) (congrArg (Value.int .i64) q1)) rfl (Qm rfl (Am (Ai (Ab (Ad (Qm rfl (Qx (oA rfl) rfl (Qm rfl (Am ?_)))))))))));exact Ap (p-(k+1)) _ (by omega) ⟨k+1,d/65536,mo',Z.set (i+k) (d%65536),rfl,rfl,rfl,rfl,by omega,hdb,by rw[length_set];exact hZ,fun a ha=>(List.mem_or_eq_of_mem_set ha).elim (hlt a) (fun q=>by rw[q];exact Nat.mod_lt _ (by decide)),fun j hj=>by rw[show(Z.set (i+k) (d%65536)).getD j 0=Z.getD j 0 by simp[List.getD,List.getElem?_set,show ¬i+k=j by omega]];exact hzero j hj,hstep,hO'⟩ Qs
  ·obtain rfl:k=p:=ω
   have hikZ:i+k<Z.length:=ω
   have hfin:=Oq hikZ (hzero (i+k) (Nat.le_refl _)) hyp hai hv;refine AA (Aa (Aa (Ag (Ab (Ad (Qm rfl (Qm rfl (Qm rfl (Qx (Aq rB.any rfl A9 rfl) rfl (Qx (oA rfl) rfl (Qm rfl (Qx (BR (i+k) rE rfl A9 Bp rfl rfl) rfl ?_))))))))))));refine DY 0 (i+k) hO rfl Bp rfl rfl rfl (by rw[BU];omega) rfl rfl (fun mo' hO'=>?_);rw[MM]at hO';refine Am (Ai (Ab (Ad (Qm rfl (Qx (oA rfl) rfl (Qm rfl (Am ?_)))))));exact Ap (n-(i+1)) _ (by omega) ⟨i+1,mo',Z.set (i+k) c,rfl,rfl,rfl,rfl,by omega,by rw[length_set];exact hZ,fun a ha=>(List.mem_or_eq_of_mem_set ha).elim (hlt a) (fun q=>by rw[q];exact hc),fun j hj=>by rw[show(Z.set (i+k) c).getD j 0=Z.getD j 0 by simp[List.getD,List.getElem?_set,show ¬i+k=j by omega]];exact hzero j (by omega),hfin,hO'⟩ Qs
 ·obtain rfl:i=n:=ω
  rw[hxn]at hvA;have hst:Dl ZA=dg 65536 (x*y):=by rw[C9 δ hltA,hvA]
  refine AA (Aa (Aa (Ag (Ab (As (Qm Y (Bv hOA λh2 l2 hR=>(Qc call125 Y (Hx ev ZA h2 hR ω) (λr h3 ms3 l3 hF=>?_)))))))));obtain⟨rfl,rfl,RT⟩:=hF;rw[hst]at RT;have or_:=RT.rd.one;refine Qm Y (An (Aj ?_));exact Al Y Y (⟨l2,Y,RT⟩)
theorem Ys{a b:Int}(h:a*b≠0):decide (decide (a<0)≠decide (b<0))=decide (a*b<0):=by
 have ha:a≠0:=fun e=>h (by rw[e,Int.zero_mul]);have hb:b≠0:=fun e=>h (by rw[e,Int.mul_zero]);rcases Int.lt_or_gt_of_ne ha with h1|h1<;>rcases Int.lt_or_gt_of_ne hb with h2|h2
 ·have:=Int.mul_pos_of_neg_of_neg h1 h2;simp[h1,h2,show ¬a*b<0 by omega]
 ·have:=Int.mul_neg_of_neg_of_pos h1 h2;simp[h1,show ¬b<0 by omega,this]
 ·have:=Int.mul_neg_of_pos_of_neg h1 h2;simp[h2,show ¬a<0 by omega,this]
 ·have:=Int.mul_pos h1 h2;simp[show ¬a<0 by omega,show ¬b<0 by omega,show ¬a*b<0 by omega]
theorem P8(a b:Int)(ha:Sz a)(hb:Sz b)(h:Hp)(ms:List Hp):FnV Tryz.prog 26 #[WD a,WD b] h ms (WD (a*b)):=by
 refine Ea (FnT.mono (post:=λr h' ms'=>h.le h'/\ms'=[]/\r=WD (a*b)) ?_ λ_ _ _ q=>q.2.2) ms;have osa:(sv (A8 a.natAbs)).oneCell'=true:=rfl;have osb:(sv (A8 b.natAbs)).oneCell'=true:=rfl;have osr:(sv (A8 (a*b).natAbs)).oneCell'=true:=rfl;have la:=ha.d16;have lb:=hb.d16
 have hW:WS (decide (decide (a<0)≠decide (b<0))) (a.natAbs*b.natAbs)=WD (a*b):=by rw[<-Int.natAbs_mul];exact LZ λhne=>Ys hne
 have hlen:(dg 65536 (a.natAbs*b.natAbs)).length<=800000:=by have:=Mq (b:=65536) δ a.natAbs b.natAbs;omega
 refine Ao func26 ntmps26 Y Y (λw0 hw0=>?_);simp only[AS];refine As (AK [_,_] Y Y (by rfl) Y Y Y (λg2=>AK [_,_] Y Y (by rfl) Y Y Y (λg3=>BY [.bool false,.es] Y Ay Y Y (λg4=>An (Aw 1 Y λh1 l1 hS3=>(Aw 1 Y λh2 l2 hS2=>?_))))));have l02:=AD l1 l2;have s2:∀ms,Seg h2 ms (⟨g2,0,none⟩:Addr) (Bl a):=λms=>hS2.any;have s3:∀ms,Seg h2 ms (⟨g3,0,none⟩:Addr) (Bl b):=λms=>(hS3.le l2).any;have c2:∀ms,Cell h2 ms ((⟨g2,0,none⟩:Addr).add 0) (.bool (decide (a<0))):=λms=>(hS2 0 _ Y).any;have c3:∀ms,Cell h2 ms ((⟨g3,0,none⟩:Addr).add 0) (.bool (decide (b<0))):=λms=>((hS3.le l2) 0 _ Y).any;refine Ac (AU (n:=12) (bs:=[ic,ic,ic,ic,ic,ic,ie,ic,ie,ie,ie,ie]) [ic,ic,ic,ic,ic,ic,ie,ic] CK κ κ Y Y (QF Da Y (QL Y U4 (c2 _) (QF Da Y (QL Y U4 (c3 _) (Qp Y (PE Y U4 Y Y) (Qp Y (oG Y BC Ay (s2 _)) (Qp Y (oG Y BC Ay (s3 _)) ?_))))))));unfold Do;simp only[bj,aw];refine Qo 6 Y (Az (pre:=[]) Y call63 Y (EP a ha h2) Y Y Y Y (λva h3 ms3 l3 hF=>?_));obtain⟨l3',rfl,RA⟩:=hF;have oa:=RA.rd.one;refine Qa (Qo 8 Y (Az (pre:=[]) Y call63 Y (EP b hb h3) Y Y Y Y (λvb h4 ms4 l4 hF=>?_)));obtain⟨l4',rfl,RB⟩:=hF;have ob:=RB.rd.one;have l24:=AD l3' l4';refine Qa (Qo 9 Y (Az (pre:=[]) Y call70 Y (W8 va vb a.natAbs b.natAbs h4 (RA.up l4') RB la lb) Y Y Y Y (λvp h5 ms5 l5 hF=>?_)));obtain⟨l5',rfl,RL⟩:=hF;have op:=RL.rd.one;have l25:=AD l24 l5';refine Qa (Qo 10 Y (Az (pre:=[]) Y call64 Y (Fw (decide (decide (a<0)≠decide (b<0))) vp _ (a.natAbs*b.natAbs) h5 RL ω (Hu _) (Gc δ _)) Y Y Y Y (λvw h6 ms6 l6 hF=>?_)));obtain⟨l6',rfl,rfl⟩:=hF;have l26:=AD l25 l6';rw[hW];refine Qa (Qo 11 Y ?_);refine Sa 0 [_,_] Ay Y (by simp[osa,osb,osr,Cn]) ?_;refine Qa (Qe (Ab (Aj ?_)));exact Bx (vs:=[_,_]) 0 Y Y BC Y Ay Y Y (⟨AD l02 l26,Y,Y⟩)
theorem AaA{h:Hp}{v:Value}{y:Nat}{L:List Nat}(R:RdL cI 1 h [] v (iD L))(hB:∀k,k<L.length->L.getD k 0=y/65536^k%65536){i:Nat}(hi:i<L.length):∀ms,Cell h ms ((AI v).add (i*1)) (.int .i64 ((y/65536^i%65536:Nat):Int)):=λms=>by
 have h1:i<(iD L).length:=by rw[BU];exact hi
 refine(R.any (ms:=ms)).cell0 h1 ?_;rw[N5 hi];have:=hB i hi;simp[List.getD,hi]at this;simp[cI,this]
theorem UC(va vb:Value)(x y:Nat)(Lb:List Nat)(h:Hp)(RA:RdL cI 1 h [] va (iD (dg 65536 x)))(RB:RdL cI 1 h [] vb (iD Lb))(hBd:∀k,k<Lb.length->Lb.getD k 0=y/65536^k%65536)(hBv:y<65536^Lb.length)(hx:(dg 65536 x).length<=400000)(hy:Lb.length<=400000):FnT Tryz.prog 70 #[va,vb] h [] (λr h' ms'=>h.le h'/\ms'=[]/\RdL cI 1 h' [] r (iD (dg 65536 (x*y)))):=by
 obtain⟨n,hn⟩:∃n,(dg 65536 x).length=n:=⟨_,Y⟩
 obtain⟨p,hp⟩:∃p,Lb.length=p:=⟨_,Y⟩
 have rA:Rd h [] va 1 n ((iD (dg 65536 x)).flatMap cI):=by have:=RA.rd;rwa [BU,hn]at this
 have rB:Rd h [] vb 1 p ((iD Lb).flatMap cI):=by have:=RB.rd;rwa [BU,hp]at this
 have oa:=rA.one;have ob:=rB.one;have hxn:x%65536^n=x:=cw ((BV (b:=65536) δ n x).1 ω);have hyp:y%65536^p=y:=cw (hp ▸ hBv);refine Ao func70 ntmps70 Y Y (λw0 hw0=>?_);simp only[AS];refine As (Qm Y (Bw (Qm Y (Qx (Aq rA.any Y A9 Y) Y (Qm Y (Qx (Aq rB.any Y A9 Y) Y (Qx (oA Y) Y (G6 Bf ω (0:Int) (n:=n+p) Y A9 Bp Y Y Y ω ω ω ω Y Y Y (λg15 ev m0 hev hOi=>?_)))))))));have oe:=hOi.o1;refine Qm Y (An (Ac (As (Qm Y (An (Af ?_))))));refine AC (λq sl h' ms'=>∃(i:Nat) (mo:Hp) (Z:List Nat),n-i=q/\sl=[(0,va),(1,vb),(5,ev),(6,.w (i:Int))]/\h=h'/\ms'=[mo]/\i<=n/\Z.length=n+p/\(∀a∈Z,a<65536)/\(∀j,i+p<=j->Z.getD j 0=0)/\val 65536 Z=x%65536^i*y/\OwnL cI 1 3 mo ev (iD Z)) (n-0) _ ⟨0,m0,replicate (n+p) 0,Y,Y,Y,Y,ω,by simp,λa ha=>by rw[(List.mem_replicate.1 ha).2];decide,λj _=>by simp[List.getD,List.getElem?_replicate];split<;>rfl,by rw[EE,Nat.pow_zero,Nat.mod_one,Nat.zero_mul],by rw[show iD (replicate (n+p) 0)=replicate (n+p) 0 by simp[iD]];exact hOi⟩ Qs ?_;rintro q sl h' ms' ⟨i,moA,ZA,rfl,rfl,rfl,rfl,hi,hZA,hltA,hzeroA,hvA,hOA⟩;refine Ac (As (Qm Y (Qm Y (Qx (Aq rA.any Y A9 Y) Y (Qm Y (An ?_))))));refine Ax Y (λhin=>?_) (λhin=>?_)
 ·have hin':i<n:=ω
  have cA:=EF RA (i:=i) ω;obtain⟨ai,hai⟩:∃ai,x/65536^i%65536=ai:=⟨_,Y⟩
  have haib:ai<65536:=ω
  rw[hai]at cA;refine Ah (Ab (Ac (Af (As (Qm Y (An (Ac (As (Qm Y (An (Af ?_)))))))))));refine AC (λq sl h' ms'=>∃(k c:Nat) (mo:Hp) (Z:List Nat),p-k=q/\sl=[(0,va),(1,vb),(5,ev),(6,.w (i:Int)),(7,.w (c:Int)),(8,.w (k:Int))]/\h=h'/\ms'=[mo]/\k<=p/\c<65536/\Z.length=n+p/\(∀a∈Z,a<65536)/\(∀j,i+p<=j->Z.getD j 0=0)/\val 65536 Z+c*65536^(i+k)=x%65536^i*y+ai*(y%65536^k)*65536^i/\OwnL cI 1 3 mo ev (iD Z)) (p-0) _ ⟨0,0,moA,ZA,Y,Y,Y,Y,ω,by decide,hZA,hltA,hzeroA,by rw[hvA,Nat.pow_zero,Nat.mod_one];simp,hOA⟩ Qs ?_;rintro q sl h' ms' ⟨k,c,mo,Z,rfl,rfl,rfl,rfl,hk,hc,hZ,hlt,hzero,hv,hO⟩;have rE:Rd h [mo] ev 1 (n+p) ((iD Z).flatMap cI):=by have:=(hO.rd (h:=h) (ms:=[mo]) Mh).rd;rwa [BU,hZ]at this
  refine Ac (As (Qm Y (Qm Y (Qx (Aq rB.any Y A9 Y) Y (Qm Y (An ?_))))));refine Ax Y (λhkp=>?_) (λhkp=>?_)
  ·have hkp':k<p:=ω
   have cB:=AaA RB hBd (i:=k) ω;obtain⟨bk,hbk⟩:∃bk,y/65536^k%65536=bk:=⟨_,Y⟩
   have hbb:bk<65536:=ω
   rw[hbk]at cB;have hikZ:i+k<Z.length:=ω
   obtain⟨o,ho⟩:∃o,Z.getD (i+k) 0=o:=⟨_,Y⟩
   have hoZ:Z[i+k]=o:=by rw[<-ho];simp[List.getD,hikZ]
   have hob:o<65536:=hlt o (hoZ ▸ ap hikZ)
   have cZ:Cell h [mo] ((AI ev).add ((i+k)*1)) (.w (o:Int)):=by
    have h1:i+k<(iD Z).length:=by rw[BU];exact hikZ
    exact(hO.rd (h:=h) (ms:=[mo]) Mh).cell0 h1 (by rw[N5 hikZ,hoZ];rfl)
   have hprod:ai*bk<=65535*65535:=ff ω ω;have hpc:(ai:Int)*bk=((ai*bk:Nat):Int):=(fq ai bk).symm;obtain⟨d,hd⟩:∃d:Nat,o+ai*bk+c=d:=⟨_,Y⟩
   have hdI:(o:Int)+ai*bk+c=(d:Int):=by rw[hpc];omega
   have hstep:=MP hikZ ho hbk hv;rw[hd]at hstep;have hdb:d/65536<65536:=ω
   have q1:((d:Int)/65536)=((d/65536:Nat):Int):=ω
   have q2:((d:Int)%65536)=((d%65536:Nat):Int):=ω
   refine Ah (Ab (Ac (Af (Ac (BP 17 CK (by kernel_rfl) rfl (Wm rfl (Wm rfl (Wm rfl (BQ (oA rfl) rfl rfl (BQ (BR (i+k) rE rfl A9 Bp rfl rfl) rfl rfl (Wl rfl U3 (cZ) (Wm rfl (Wm rfl (BQ (BR (i) rA.any rfl A9 Bp rfl rfl) rfl rfl (Wl rfl U3 (cA _) (Wm rfl (Wm rfl (BQ (BR (k) rB.any rfl A9 Bp rfl rfl) rfl rfl (Wl rfl U3 (cB _) ?_)))))))))))))))))));refine BQ (oM rfl (by rw[hpc];omega)) rfl rfl ?_;refine BQ (oA rfl (by rw[hpc];omega)) rfl rfl ?_;refine Wm rfl (BB ?_);refine Qx (Dx (oA rfl (by rw[hpc];omega)) (congrArg (Value.int .i64) hdI)) rfl ?_;refine Qm rfl (Bw (Qm rfl (Qm rfl (Qm rfl (Qx (oA rfl) rfl (Qm rfl (Qx (Dx (Eb rfl rfl rfl (by omega) (by omega)) (congrArg (Value.int .i64) q2)) rfl (Qx (BR (i+k) rE rfl A9 Bp rfl rfl) rfl ?_))))))));refine DY 0 (i+k) hO rfl Bp rfl rfl rfl (by rw[BU];omega) rfl rfl (fun mo' hO'=>?_);rw[MM]at hO';refine GM (Qm rfl (Qx (Dx (DP rfl rfl rfl (by omega) (by omega)) (congrArg (Value.int .i64) q1)) rfl (Qm rfl (Am (Ai (Ab (Ad (Qm rfl (Qx (oA rfl) rfl (Qm rfl (Am ?_)))))))))));exact Ap (p-(k+1)) _ (by omega) ⟨k+1,d/65536,mo',Z.set (i+k) (d%65536),rfl,rfl,rfl,rfl,by omega,hdb,by rw[length_set];exact hZ,fun a ha=>(List.mem_or_eq_of_mem_set ha).elim (hlt a) (fun q=>by rw[q];exact Nat.mod_lt _ (by decide)),fun j hj=>by rw[show(Z.set (i+k) (d%65536)).getD j 0=Z.getD j 0 by simp[List.getD,List.getElem?_set,show ¬i+k=j by omega]];exact hzero j hj,hstep,hO'⟩ Qs
  ·obtain rfl:k=p:=ω
   have hikZ:i+k<Z.length:=ω
   have hfin:=Oq hikZ (hzero (i+k) (Nat.le_refl _)) hyp hai hv;refine AA (Aa (Aa (Ag (Ab (Ad (Qm rfl (Qm rfl (Qm rfl (Qx (Aq rB.any rfl A9 rfl) rfl (Qx (oA rfl) rfl (Qm rfl (Qx (BR (i+k) rE rfl A9 Bp rfl rfl) rfl ?_))))))))))));refine DY 0 (i+k) hO rfl Bp rfl rfl rfl (by rw[BU];omega) rfl rfl (fun mo' hO'=>?_);rw[MM]at hO';refine Am (Ai (Ab (Ad (Qm rfl (Qx (oA rfl) rfl (Qm rfl (Am ?_)))))));exact Ap (n-(i+1)) _ (by omega) ⟨i+1,mo',Z.set (i+k) c,rfl,rfl,rfl,rfl,by omega,by rw[length_set];exact hZ,fun a ha=>(List.mem_or_eq_of_mem_set ha).elim (hlt a) (fun q=>by rw[q];exact hc),fun j hj=>by rw[show(Z.set (i+k) c).getD j 0=Z.getD j 0 by simp[List.getD,List.getElem?_set,show ¬i+k=j by omega]];exact hzero j (by omega),hfin,hO'⟩ Qs
 ·obtain rfl:i=n:=ω
  rw[hxn]at hvA;have hst:Dl ZA=dg 65536 (x*y):=by rw[C9 δ hltA,hvA]
  refine AA (Aa (Aa (Ag (Ab (As (Qm Y (Bv hOA λh2 l2 hR=>(Qc call125 Y (Hx ev ZA h2 hR ω) (λr h3 ms3 l3 hF=>?_)))))))));obtain⟨rfl,rfl,RT⟩:=hF;rw[hst]at RT;have or_:=RT.rd.one;refine Qm Y (An (Aj ?_));exact Al Y Y (⟨l2,Y,RT⟩)
theorem YY(va:Value)(x d:Nat)(h:Hp)(RA:RdL cI 1 h [] va (iD (dg 65536 x)))(hx:(dg 65536 x).length<=400000)(hd:d<65536):FnT Tryz.prog 130 #[va,.int .i64 (d:Int)] h [] (λr h' ms'=>h.le h'/\ms'=[]/\RdL cI 1 h' [] r (iD (dg 65536 (x*d)))):=by
 obtain⟨n,hn⟩:∃n,(dg 65536 x).length=n:=⟨_,Y⟩
 have rA:Rd h [] va 1 n ((iD (dg 65536 x)).flatMap cI):=by have:=RA.rd;rwa [BU,hn]at this
 have oa:=rA.one;refine Ao func130 ntmps130 Y Y (λw0 hw0=>?_);simp only[AS];refine As (Qm Y (Bw (Qm Y (Qm Y (AB [_] Y A9 Bp Y (by rfl) Y Y ω Y Y Y (λg7=>Bv (OwnL.blk (g:=g7) (el:=3) (F:=cI) (l:=iD [d]) 1 Bf Y δ) λh2 l2 hR=>?_))))))
 have hBd:∀k,k < [d].length->[d].getD k 0=d/65536^k%65536:=λk hk=>by
  obtain rfl:k=0:=by simpa using hk
  simp;exact(cw hd).symm
 refine Qc call70 Y (UC va _ x d [d] h2 (RA.up l2) hR hBd (by simpa using hd) hx σ) (λr h3 ms3 l3 hF=>?_);obtain⟨l3',rfl,RT⟩:=hF;have or_:=RT.rd.one;refine Qm Y (An (Aj ?_));exact Al Y Y (⟨AD l2 l3',Y,RT⟩)
variable {x y:Nat}
theorem Ya{A B t a:Nat}(hB:0<B)(ha:A/65536^t%65536=a):A/65536^t/B=A/65536^(t+1)/B*65536+((A/65536^(t+1)%B)*65536+a)/B/\A/65536^t%B=((A/65536^(t+1)%B)*65536+a)%B:=by
 have e1:A/65536^t=A/65536^(t+1)*65536+a:=by rw[Nat.pow_succ,<-Nat.div_div_eq_div_mul,<-ha];omega
 have e2:A/65536^(t+1)*65536+a=B*(A/65536^(t+1)/B*65536)+((A/65536^(t+1)%B)*65536+a):=by have:=Nat.div_add_mod (A/65536^(t+1)) B;generalize A/65536^(t+1)/B=q at *;generalize A/65536^(t+1)%B=r at *;rw[<-this,db,Nat.mul_assoc];omega
 rw[e1,e2];exact⟨Nat.mul_add_div hB _ _,Nat.mul_add_mod _ _ _⟩
theorem VO:K8 x y<=0<->x<=y:=by unfold K8;split<;>(try split)<;>omega
theorem AbX:K8 x y<0<->x<y:=by unfold K8;split<;>(try split)<;>omega
theorem JY(h:x<=y):(dg 65536 x).length<=(dg 65536 y).length:=(BV (b:=65536) δ _ x).2 (Nat.lt_of_le_of_lt h ((BV (b:=65536) δ _ y).1 (ak _)))
theorem QG(d:Nat)(hd:d<=65536):(dg 65536 (x*d)).length<=(dg 65536 x).length+1:=by
 refine(BV (b:=65536) δ _ _).2 ?_;have h:=(BV (b:=65536) δ _ x).1 (ak _);rw[Nat.pow_succ];rcases gj d with e|e
 ·rw[e,Nat.mul_zero];exact Nat.mul_pos (Nat.pow_pos δ) δ
 ·exact cj (Nat.mul_lt_mul_of_pos_right h e) (Nat.mul_le_mul_left _ hd)
theorem AbL(va vb:Value)(A B:Nat)(h:Hp)(RA:RdL cI 1 h [] va (iD (dg 65536 A)))(RB:RdL cI 1 h [] vb (iD (dg 65536 B)))(hA:(dg 65536 A).length<=300000)(hB:(dg 65536 B).length<=300000)(hB0:0<B):FnT Tryz.prog 72 #[va,vb] h [] (λw h' ms'=>h.le h'/\ms'=[]/\∃q r,w=.tuple #[q,r]/\RdL cI 1 h' [] q (iD (dg 65536 (A/B)))/\RdL cI 1 h' [] r (iD (dg 65536 (A%B)))):=by
 obtain⟨n,hn⟩:∃n,(dg 65536 A).length=n:=⟨_,Y⟩
 obtain⟨p,hp⟩:∃p,(dg 65536 B).length=p:=⟨_,Y⟩
 have rA:∀h',h.le h'->Rd h' [] va 1 n ((iD (dg 65536 A)).flatMap cI):=λh' q=>by have:=(RA.up q).rd;rwa [BU,hn]at this
 have oa:=RA.rd.one;have ob:=RB.rd.one;have hAn:A<65536^n:=(BV (b:=65536) δ n A).1 ω;refine Ao func72 ntmps72 Y Y (λw0 hw0=>?_);simp only[AS];refine As (Qm Y (Qm Y (Bw (Qm Y (Qx (Aq (rA _ (BD)).any Y A9 Y) Y (G6 Bf ω (0:Int) (n:=n) Y A9 Bp Y Y Y ω ω ω ω Y Y Y (λg14 ev m0 hev hOi=>?_)))))));have oe:=hOi.o1;refine Qm Y (Bw (Qm Y (An (Ac (As (Qm Y (Qx (Aq (rA _ (BD)).any Y A9 Y) Y (Qx (oS Y) Y (Qm Y (An (Af ?_)))))))))));refine AC (λq sl h' ms'=>∃(t:Nat) (mo:Hp) (Z:List Nat) (vr:Value),t=q/\sl=[(0,va),(1,vb),(6,ev),(7,vr),(8,.w ((t:Int)-1))]/\h.le h'/\ms'=[mo]/\t<=n/\Z.length=n/\(∀a∈Z,a<65536)/\(∀j,j<t->Z.getD j 0=0)/\val 65536 Z=A/65536^t/B*65536^t/\OwnL cI 1 3 mo ev (iD Z)/\RdL cI 1 h' [] vr (iD (dg 65536 (A/65536^t%B)))) n _ ⟨n,m0,replicate n 0,_,Y,Y,BD,Y,ω,by simp,λa ha=>by rw[(List.mem_replicate.1 ha).2];decide,λj _=>by simp[List.getD,List.getElem?_replicate];split<;>rfl,by rw[EE,fh hAn,Nat.zero_div,Nat.zero_mul],by rw[show iD (replicate n 0)=replicate n 0 by simp[iD]];exact hOi,by rw[fh hAn,Nat.zero_mod,(GV δ).2 rfl];exact⟨Rd.nil _ _ _,Bf⟩⟩ Qs ?_;rintro q sl h' ms' ⟨t,mo,Z,vr,rfl,rfl,lh,rfl,ht,hZ,hltZ,hzero,hv,hO,RR⟩;have ovr:=RR.rd.one;refine Ac (As (Qm Y (Qm Y (An ?_))));refine Ax Y (λhlt=>?_) (λhlt=>?_)
 ·obtain⟨t,rfl⟩:∃u,t=u+1:=⟨t-1,ω⟩
  rw[show(((t+1:Nat):Int)-1)=(t:Int) by omega];have htn:t<n:=ω
  have cA:=EF (RA.up lh) (i:=t) ω;obtain⟨a,ha⟩:∃a,A/65536^t%65536=a:=⟨_,Y⟩
  have hab:a<65536:=ω
  rw[ha]at cA;obtain⟨hs1,hs2⟩:=Ya (t:=t) hB0 ha;obtain⟨R,hR⟩:∃R,A/65536^(t+1)%B=R:=⟨_,Y⟩
  rw[hR]at hs1 hs2 RR;have hRB:R<B:=by rw[<-hR];exact Nat.mod_lt _ hB0
  obtain⟨R',hR'⟩:∃R',R*65536+a=R':=⟨_,Y⟩
  rw[hR']at hs1 hs2;have hRl:(dg 65536 R).length<=300000:=bp (JY (Nat.le_of_lt hRB)) hB;have hR'B:R'<B*65536:=ω
  have hR'l:(dg 65536 R').length<=300001:=bp (JY (Nat.le_of_lt hR'B)) (bp (QG 65536 (ak _)) ω)
  have hst:Dl (a::dg 65536 R)=dg 65536 R':=by
   rw[C9 (b:=65536) δ (λx hx=>by
    rcases bi.1 hx with rfl|hx
    ·exact hab
    ·exact Hu R x hx)]
   congr 1;show a+65536*val 65536 (dg 65536 R)=_;rw[Gc δ];omega
  have rR:∀ms,Rd h' ms vr 1 (dg 65536 R).length ((iD (dg 65536 R)).flatMap cI):=λms=>by have:=RR.rd.any (ms:=ms);rwa [BU]at this
  refine Ah (Ab (Ac (Af (As (Qm rfl (Qm rfl (Qx (AM (t) (rA _ lh).any rfl A9 Bp rfl rfl (by omega) (by omega)) rfl (Ql rfl U3 (cA _) (AB [_] rfl A9 Bp rfl (by rfl) rfl rfl (by omega) rfl rfl rfl (fun g26=>Qm rfl (AL 0 (OwnL.blk (g:=g26) (el:=3) (F:=cI) (l:=iD [a]) 1 Bf rfl (by decide)) RR.any rfl A9 Bp rfl (by omega) rfl rfl rfl Cq (by simp only[length_singleton,BU];omega) (by simp only[length_singleton,BU];omega) rfl rfl rfl (fun v28 m28 hO28=>?_))))))))))));have o28:=hO28.o1;refine Bv hO28 fun h2 l2 hR28=>?_;refine Qc call125 rfl (Hx v28 (a::dg 65536 R) h2 hR28 (by rw[length_cons];omega)) (fun v7 h3 ms3 l3 hF=>?_);obtain⟨rfl,rfl,R7⟩:=hF;rw[hst]at R7;have o7:=R7.rd.one;have lh2:=AD lh l2;have hcmp:=Jp v7 vb R' B h2 R7 (RB.up lh2) (by omega) (by omega);refine Qm rfl (Bw (Qm rfl (Bw (Qm rfl (An ?_)))));refine Bt (fun sl h' ms'=>∃hi:Nat,sl=[(0,va),(1,vb),(6,ev),(7,v7),(8,.int .i64 (t:Int)),(9,.int .i64 ((0:Nat):Int)),(10,.int .i64 (hi:Int))]/\h2=h'/\ms'=[mo]/\R'<B*hi/\hi<=65536) ?_ (fun s h ms hI=>?_)
  ·refine Ac (Ad (Qm Y (Qm Y (Qx (Au Y call66 Y (hcmp _)) Y (Qm Y (An ?_))))));refine Ax Y (λhcp=>?_) (λhcp=>?_)
   ·rw[AbX]at hcp;refine Ad (Qm Y (Am ?_));exact AH _ ⟨1,Y,Y,Y,ω,ω⟩ Qs
   ·refine Ah ?_;exact AH _ ⟨65536,Y,Y,Y,hR'B,ω⟩ Qs
  ·obtain⟨hi,rfl,rfl,rfl,hhi,hhi2⟩:=hI;refine Ac (Af ?_);refine AC (λq sl h' ms'=>∃(lo hi:Nat),hi-lo=q/\sl=[(0,va),(1,vb),(6,ev),(7,v7),(8,.w (t:Int)),(9,.w (lo:Int)),(10,.w (hi:Int))]/\h2.le h'/\ms'=[mo]/\lo<hi/\hi<=65536/\B*lo<=R'/\R'<B*hi) (hi-0) _ ⟨0,hi,Y,Y,BD,Y,by(refine Nat.pos_of_ne_zero λe=>?_);subst e;omega,hhi2,ω,hhi⟩ Qs ?_;rintro q sl h' ms' ⟨lo,hi,rfl,rfl,l3,rfl,hlh,hhi2,hlo,hhi⟩;have lh3:=AD lh2 l3;refine Ac (As (Qm Y (Qm Y (Qx (oS Y) Y (Qm Y (An ?_))))));refine Ax Y (λhgo=>?_) (λhgo=>?_)
   ·obtain⟨m,hm⟩:∃m,(lo+hi)/2=m:=⟨_,Y⟩
    have hmI:((lo:Int)+hi)/2=(m:Int):=ω
    have hml:lo<m/\m<hi:=ω
    refine Ah (Ab (Af (As (Qm Y (Qm Y (Qx (oA Y) Y (Qx (Dx (DP Y Y Y ω ω) (ao (Value.int .i64) hmI)) Y (Qm Y (Bw (Qm Y (Qm Y (Qc call130 Y (YY vb B m h' (RB.up lh3) ω ω) (λvm h4 ms4 l4 hF4=>?_)))))))))))));obtain⟨l4',rfl,RM⟩:=hF4;have om:=RM.rd.one;have hbl:=QG (x:=B) m ω;have hcmp:=Jp vm v7 (B*m) R' h4 RM (R7.up (AD l3 l4')) ω ω;refine Qm Y (Qx (Au Y call66 Y (hcmp _)) Y (Qm Y (An ?_)));refine Ax Y (λhcp=>?_) (λhcp=>?_)
    ·rw[VO]at hcp;refine Ad (Qm Y (Qm Y (Am (Ai ?_))));exact Ap (hi-m) _ ω ⟨m,hi,Y,Y,AD l3 l4',Y,ω,hhi2,hcp,hhi⟩ Qs
    ·rw[VO]at hcp;refine Ad (Qm Y (Qm Y (Am (Ai ?_))));exact Ap (m-lo) _ ω ⟨lo,m,Y,Y,AD l3 l4',Y,ω,ω,hlo,ω⟩ Qs
   ·obtain rfl:hi=lo+1:=ω
    have hq:R'/B=lo:=by
     refine(Nat.div_eq_iff hB0).2 ⟨?_,?_⟩
     ·rw[dr];exact hlo
     ·rw[Nat.mul_add,gw,dr]at hhi;omega
    have hr:R'%B=R'-B*lo:=by have:=Nat.div_add_mod R' B;rw[hq]at this;omega
    have htZ:t<Z.length:=ω
    have rE:Rd h' [mo] ev 1 n ((iD Z).flatMap cI):=by have:=(hO.rd (h:=h') (ms:=[mo]) Mh).rd;rwa [BU,hZ]at this
    refine AA (Aa (Aa (Ag (Ab (As (Qm rfl (Qm rfl (Qm rfl (Qx (BR (t) rE rfl A9 Bp rfl rfl) rfl ?_)))))))));refine DY 0 t hO rfl Bp rfl rfl rfl (by rw[BU];omega) rfl rfl (fun mo' hO'=>?_);rw[MM]at hO';refine GM (Qm rfl (Qm rfl (Qm rfl (Qc call130 rfl (YY vb B lo h' (RB.up lh3) (by omega) (by omega)) (fun vm h4 ms4 l4 hF4=>?_)))));obtain⟨l4',rfl,RM⟩:=hF4;have om:=RM.rd.one;have hbl:=QG (x:=B) lo (by omega);refine Qc call67 rfl (IJ v7 vm R' (B*lo) h4 (R7.up (AD l3 l4')) RM (by omega) (by omega) hlo) (fun v9 h5 ms5 l5 hF5=>?_);obtain⟨l5',rfl,R9⟩:=hF5;have o9:=R9.rd.one;rw[<-hr,<-hs2]at R9;have hv':=Hj 65536 Z t lo htZ;rw[hzero t (by omega),Nat.mul_zero,Nat.add_zero,hv]at hv';refine Qm rfl (Am (Ai (Ab (Ad (Qm rfl (Qx (oS rfl) rfl (Qm rfl (Am ?_))))))));exact Ap t _ (by omega) ⟨t,mo',Z.set t lo,v9,rfl,rfl,AD lh3 (AD l4' l5'),rfl,by omega,by rw[length_set];exact hZ,fun x hx=>(List.mem_or_eq_of_mem_set hx).elim (hltZ x) (fun q=>by rw[q];omega),fun j hj=>by rw[show(Z.set t lo).getD j 0=Z.getD j 0 by simp[List.getD,List.getElem?_set,show ¬t=j by omega]];exact hzero j (by omega),by rw[hv',hs1,hq,Nat.pow_succ,Nat.add_mul,Nat.mul_assoc,Nat.mul_comm 65536,Nat.mul_comm (65536^t) lo],hO',R9⟩ Qs
 ·obtain rfl:t=0:=ω
  rw[Nat.pow_zero,Nat.div_one,gw]at hv;rw[Nat.pow_zero,Nat.div_one]at RR;have hst:Dl Z=dg 65536 (A/B):=by rw[C9 (b:=65536) δ hltZ,hv]
  refine AA (Aa (Aa (Ag (Ab (As (Qm Y (Bv hO λh2 l2 hR=>(Qc call125 Y (Hx ev Z h2 hR ω) (λr h3 ms3 l3 hF=>?_)))))))));obtain⟨rfl,rfl,RT⟩:=hF;rw[hst]at RT;have or_:=RT.rd.one;refine Qm Y (Qm Y (Qm Y (An (Aj ?_))));exact Co Y Y Y (⟨AD lh l2,Y,_,_,Y,RT,RR.up l2⟩)
end
section
open Go.Lin Go.Wd Go.Sm Go.Ch
set_option exponentiation.threshold 4000000 in
theorem Sz.d17{x:Int}(h:Sz x):(dg 65536 x.natAbs).length<=200000:=by have h1:(A8 x.natAbs).length<=400000:=h;rw[EV]at h1;have h2:=(BV (b:=256) δ 400000 x.natAbs).1 h1;refine(BV (b:=65536) δ 200000 x.natAbs).2 ?_;rw[<-EL];exact cj h2 (Nat.pow_le_pow_right δ δ)
theorem Aan(x:Int)(hx:Sz x)(h:Hp)(ms:List Hp):FnV Tryz.prog 73 #[WD x] h ms (.bool (decide (x<0))):=by
 refine Ea ?_ ms;have osx:(sv (A8 x.natAbs)).oneCell'=true:=rfl;refine Ao func73 ntmps73 Y Y (λw0 hw0=>?_);simp only[AS];refine As (AK [_,_] Y Y (by rfl) Y Y Y (λg1=>Qm Y (An (AF λh1 l1 hS1=>?_))));have g1_:∀h',h1.le h'->∀ms,Seg h' ms (⟨g1,0,none⟩:Addr) (Bl x):=λh' q ms=>(hS1.any).le q;have c0:∀h',h1.le h'->∀ms,Cell h' ms ((⟨g1,0,none⟩:Addr).add 0) (.bool (decide (x<0))):=λh' q ms=>((hS1 0 _ Y).any).le q;by_cases hneg:x<0
 all_goals first|rw[bm hneg]at c0 ⊢|rw[b7 hneg]at c0 ⊢
 ·refine Ac (Ad (Qf Da Y (Ql Y U4 (c0 _ (BD) _) (Qm Y (Qg (oG Y BC Ay (g1_ _ (BD) _)) Y (Bh Y Y Y Y (Qc call63 Y (EP x hx h1) (λr h2 ms2 l2 hF=>?_))))))));obtain⟨l2',rfl,R⟩:=hF;have or_:=R.rd.one;have rR:Rd h2 [] r 1 (dg 65536 x.natAbs).length ((iD (dg 65536 x.natAbs)).flatMap cI):=by have:=R.rd;rwa [BU]at this
  have hd0:=LO (m:=x.natAbs);refine Qg (Aq rR.any Y A9 Y) Y (Qg (Cs Y Y Y) Y (Qm Y (Qm Y (An (Aj ?_)))));exact Al Y Y (by congr 1;exact bm ω)
 ·refine Ac (Ad (Qf Da Y (Ql Y U4 (c0 _ (BD) _) (Qm Y (Qk Y (Qk Y (Qk Y (Qk Y (Qm Y (Qm Y (An (Aj ?_))))))))))));exact Al Y Y (Y)
theorem Acn(a b:Int)(ha:Sz a)(hb:Sz b)(hb0:b≠0)(h:Hp):FnT Tryz.prog 33 #[WD a,WD b] h [] (λr h' ms'=>h.le h'/\ms'=[]/\r=.tuple #[WD (a/b),WD (a%b),.bool true]):=by
 have osa:(sv (A8 a.natAbs)).oneCell'=true:=rfl;have osb:(sv (A8 b.natAbs)).oneCell'=true:=rfl;have osq:(sv (A8 (a/b).natAbs)).oneCell'=true:=rfl;have osr:(sv (A8 (a%b).natAbs)).oneCell'=true:=rfl;obtain⟨m,hm⟩:∃m,a.natAbs=m:=⟨_,Y⟩
 obtain⟨k,hk⟩:∃k,b.natAbs=k:=⟨_,Y⟩
 obtain⟨hd1,hd2,hd3,hd4⟩:=JM hb0 hm hk;have hk0:0<k:=ω
 have hla:=ha.d17;have hlb:=hb.d17;rw[hm]at hla;rw[hk]at hlb;have hlq:(dg 65536 (m/k)).length<=200000:=bp (JY (Nat.div_le_self _ _)) hla;have hlr:(dg 65536 (m%k)).length<=200000:=bp (JY (Nat.mod_le _ _)) hla;have hlt:=Nat.mod_lt m hk0;refine Ao func33 ntmps33 Y Y (λw0 hw0=>?_);simp only[AS];refine As (AK [_,_] Y Y (by rfl) Y Y Y (λg2=>AK [_,_] Y Y (by rfl) Y Y Y (λg3=>BY [.bool false,.es] Y Ay Y Y (λg4=>BY [.bool false,.es] Y Ay Y Y (λg5=>Qm Y (An (Aw 2 Y λh1 l1 hS3=>(Aw 2 Y λh2 l2 hS2=>?_))))))));have l02:=AD l1 l2;have s2:∀h',h2.le h'->∀ms,Seg h' ms (⟨g2,0,none⟩:Addr) (Bl a):=λh' q ms=>(hS2.any).le q;have s3:∀h',h2.le h'->∀ms,Seg h' ms (⟨g3,0,none⟩:Addr) (Bl b):=λh' q ms=>((hS3.le l2).any).le q;have c3:∀h',h2.le h'->∀ms,Cell h' ms ((⟨g3,0,none⟩:Addr).add 0) (.bool (decide (b<0))):=λh' q ms=>(((hS3.le l2) 0 _ Y).any).le q;refine As (Qx (oG Y BC Ay (s3 _ (BD) _)) Y (Qc call63 Y (EP b hb h2) (λvb h3 ms3 l3 hF=>?_)));obtain⟨l3',rfl,RB⟩:=hF;rw[hk]at RB;have ob:=RB.rd.one;have rB:∀ms,Rd h3 ms vb 1 (dg 65536 k).length ((iD (dg 65536 k)).flatMap cI):=λms=>by have:=RB.rd.any (ms:=ms);rwa [BU]at this
 have hd0:=LO (m:=k);refine Qm Y (An (Ac (As (Qm Y (Qx (Aq (rB _) Y A9 Y) Y (Qm Y (An ?_)))))));refine Ax Y (λhc=>ib hc (λe=>by have:=hd0.1 ω;omega)) (λhc=>?_);refine Ah (Ab (As (Qx (oG Y BC Ay (s2 _ l3' _)) Y (Qc call63 Y (EP a ha h3) (λva h4 ms4 l4 hF=>?_)))));obtain⟨l4',rfl,RA⟩:=hF;rw[hm]at RA;have oa:=RA.rd.one;refine Qm Y (Qc call72 Y (AbL va vb m k h4 RA (RB.up l4') ω ω hk0) (λw h5 ms5 l5 hF=>?_));obtain⟨l5',rfl,vq,vr,rfl,RQ,RR⟩:=hF;have oq:=RQ.rd.one;have or_:=RR.rd.one;have l35:=AD l4' l5';have l25:=AD l3' l35;have l05:=AD l02 l25;have rR:∀ms,Rd h5 ms vr 1 (dg 65536 (m%k)).length ((iD (dg 65536 (m%k))).flatMap cI):=λms=>by have:=RR.rd.any (ms:=ms);rwa [BU]at this
 have hr0:=LO (m:=m%k);refine Qm Y (Qm Y (Qm Y (Qm Y (Qm Y (An ?_)))));refine Bt (λsl h' ms'=>∃(q' r':Value) (L:List Nat),sl=[(2,.pt g2),(3,.pt g3),(4,.pt g4),(5,.pt g5),(8,q'),(9,r')]/\h5.le h'/\ms'=[BL g5 33 (Bl 0),BL g4 33 (Bl 0)]/\RdL cI 1 h' [] q' (iD L)/\(∀x∈L,x<65536)/\val 65536 L=(a/b).natAbs/\L.length<=800001/\RdL cI 1 h' [] r' (iD (dg 65536 (a%b).natAbs))) ?_ (λs h ms hI=>?_)
 ·have hng:=Aan a ha;by_cases hneg:a<0
  all_goals first|rw[bm hneg]at hng|rw[b7 hneg]at hng
  ·refine Ac (Ad (Qx (oG Y BC Ay (s2 _ l25 _)) Y (Qx (Au Y call73 Y (hng _ _)) Y (Qm Y (Qg (Ar Y Y) Y (Qg (Aq (rR _) Y A9 Y) Y (Qg (Cs Y Y Y) Y (Qm Y (An ?_)))))))));refine Ax Y (λhr=>?_) (λhr=>?_)
   ·have hmk:m%k≠0:=λe=>by have:=hr0.2 e;omega
    rw[af ⟨hneg,hmk⟩]at hd1 hd3;refine As (Qm Y (AB [_] Y A9 Bp Y (by rfl) Y Y ω Y Y Y (λg32=>Bv (OwnL.blk (g:=g32) (el:=3) (F:=cI) (l:=iD (dg 65536 1)) 1 Bf Y δ) λh6 l6 hR6=>(Qc call65 Y (Ta vq _ (m/k) 1 h6 (RQ.up l6) hR6 ω δ) (λq' h7 ms7 l7 hF=>?_)))));obtain⟨l7',rfl,L,RL,hLl,hLv,hLn⟩:=hF;have oL_:=RL.rd.one;refine Qm Y (GM (Qm Y (Qm Y (Qc call67 Y (IJ vb vr k (m%k) h7 (RB.up (AD l35 (AD l6 l7'))) (RR.up (AD l6 l7')) ω ω ω) (λr' h8 ms8 l8 hF=>?_)))));obtain⟨l8',rfl,R8⟩:=hF;have o8:=R8.rd.one;refine Qm Y (Am ?_);exact AH _ ⟨q',r',L,Y,AD l6 (AD l7' l8'),Y,RL.up l8',hLl,by rw[hLv,hd1],hLn,by rw[hd3];exact R8⟩ Qs
   ·have hmk:m%k=0:=by have:=hr0.1 ω;exact this
    rw[ab (λe=>e.2 hmk)]at hd1 hd3;refine Ah ?_;exact AH _ ⟨vq,vr,dg 65536 (m/k),Y,BD,Y,RQ,Hu _,by rw[Gc δ,hd1],ω,by rw[hd3];exact RR⟩ Qs
  ·rw[ab (λe=>hneg e.1)]at hd1 hd3;refine As (Qx (oG Y BC Ay (s2 _ l25 _)) Y (Qx (Au Y call73 Y (hng _ _)) Y (Qm Y (Qk Y (Qk Y (Qk Y (Qm Y (An (AN Y (Ah ?_))))))))));exact AH _ ⟨vq,vr,dg 65536 (m/k),Y,BD,Y,RQ,Hu _,by rw[Gc δ,hd1],ω,by rw[hd3];exact RR⟩ Qs
 ·obtain⟨q',r',L,rfl,l6,rfl,RL,hLl,hLv,hLn,RR'⟩:=hI;have l26:=AD l25 l6;have oL_:=RL.rd.one;have o8:=RR'.rd.one;have hW1:WS (decide (decide (a<0)≠decide (b<0))) (a/b).natAbs=WD (a/b):=LZ hd2;have hW2:WS false (a%b).natAbs=WD (a%b):=LZ λ_=>(b7 ω).symm
  have hl8:(dg 65536 (a%b).natAbs).length<=400000:=by
   have h1:(a%b).natAbs<=k:=by rw[hd3];split<;>omega
   exact bp (JY h1) ω
  refine Ac (AU (n:=12) (bs:=[ic,ic,ic,ic,ic,ic,ie,ic,ie,ie,ie,ie]) [ic,ic,ic,ic,ic,ic,ie,ic] CK κ κ Y Y (Qp Y (oG Y BC Ay (s2 _ l26 _)) (Qp Y (Au Y call73 Y (Aan a ha _ _)) (QF Da Y (QL Y U4 (c3 _ l26 _) (Qp Y (PE Y U4 Y Y) (Qq Y (Qq Y ?_))))))));unfold Do;simp only[bj,aw];refine Qo 6 Y (Az (pre:=[]) Y call64 Y (Fw (decide (decide (a<0)≠decide (b<0))) q' L (a/b).natAbs h RL ω hLl hLv) Y Y Y Y (λw6 h7 ms7 l7 hF=>?_));obtain⟨l7',rfl,rfl⟩:=hF;rw[hW1];refine Qa (Qo 8 Y (Az (pre:=[]) Y call64 Y (Fw false r' (dg 65536 (a%b).natAbs) (a%b).natAbs h7 (RR'.up l7') ω (Hu _) (Gc δ _)) Y Y Y Y (λw8 h8 ms8 l8 hF=>?_)));obtain⟨l8',rfl,rfl⟩:=hF;have l78:=AD l7' l8';rw[hW2];refine Qa (Qo 9 Y ?_);refine Sa 1 [_,_] Ay Y (by simp[osa,osb,osq,osr,Cn,ob,oa,oq,or_,oL_,o8]) ?_;refine Qa (Qo 10 Y ?_);refine Sa 0 [_,_] Ay Y (by simp[osa,osb,osq,osr,Cn,ob,oa,oq,or_,oL_,o8]) ?_;refine Qa (Qo 11 Y (Qm Y (Qa (Qe (Ab (Aj (Ev 1 Y ?_)))))));exact Q6 (vs:=[_,_]) (vs2:=[_,_]) Y Y Y Y BC Y Ay Y Y ⟨AD l05 (AD l6 l78),Y,Y⟩
theorem AdI(a b:Int)(ha:Sz a)(hb:Sz b)(hb0:b≠0)(h:Hp)(ms:List Hp):FnV Tryz.prog 33 #[WD a,WD b] h ms (.tuple #[WD (a/b),WD (a%b),.bool true]):=Ea ((Acn a b ha hb hb0 h).mono λ_ _ _ h=>h.2.2) ms
theorem Sz.le{x y:Int}(h:Sz x)(e:y.natAbs<=x.natAbs):Sz y:=by have h1:(A8 x.natAbs).length<=400000:=h;show(A8 y.natAbs).length<=400000;rw[EV]at h1 ⊢;exact bp (DJ (b:=256) δ e) h1
theorem AbZ(m a:Int)(Sm_:Sz m)(ha:Sz a)(h:Hp)(ms:List Hp):FnV Tryz.prog 112 #[WD m,WD a] h ms (.bool (decide (m∣a))):=by
 refine Ea ?_ ms;have osm:(sv (A8 m.natAbs)).oneCell'=true:=rfl;have osa:(sv (A8 a.natAbs)).oneCell'=true:=rfl;have osq:(sv (A8 (a/m).natAbs)).oneCell'=true:=rfl;have osr:(sv (A8 (a%m).natAbs)).oneCell'=true:=rfl;refine Ao func112 ntmps112 Y Y (λw0 hw0=>?_);simp only[AS];refine As (AK [_,_] Y Y (by rfl) Y Y Y (λg2=>AK [_,_] Y Y (by rfl) Y Y Y (λg3=>Qm Y (An (AF λh1 l1 hS3=>(AF λh2 l2 hS2=>?_))))));have g3:∀ms,Seg h2 ms (⟨g3,0,none⟩:Addr) (Bl a):=λms=>(hS3.le l2).any;have g2:∀ms,Seg h2 ms (⟨g2,0,none⟩:Addr) (Bl m):=λms=>hS2.any;refine Ac (As (Qx (oG Y BC Ay (g2 _)) Y (Qx (Au Y call55 Y (FH m Sm_ _ _)) Y (Qm Y (An ?_)))));refine Ax Y (λh0=>?_) (λh0=>?_)
 ·have h0':m=0:=Int.sign_eq_zero_iff_zero.1 h0;refine As (Qx (oG Y BC Ay (g3 _)) Y (Qx (Au Y call55 Y (FH a ha _ _)) Y (Qm Y (Qm Y (An (Aj (Ae ?_)))))));exact Al Y Y (ao Value.bool (ej.2 (by rw[h0',Int.zero_dvd];exact Int.sign_eq_zero_iff_zero)))
 ·have h0':m≠0:=λe=>h0 (by rw[e];rfl);have Sr:Sz (a%m):=Sm_.le (Ik h0');refine Ah (Ab (As (Qx (oG Y BC Ay (g3 _)) Y (Qx (oG Y BC Ay (g2 _)) Y (Qx (Au Y call33 Y (AdI a m ha Sm_ h0' _ _)) Y (Qm Y (Qm Y (Qm Y (Qm Y (BY [.bool false,.es] Y Ay Y Y (λg5=>BY [.bool false,.es] Y Ay Y Y (λg6=>?_))))))))))));refine Sa 1 [_,_] Ay Y (by simp[osm,osa,osq,osr]) ?_;refine Sa 0 [_,_] Ay Y (by simp[osm,osa,osq,osr]) ?_;refine Qm Y (Bw (Qx (oG Y BC Ay (Seg.blk 0 Y)) Y (Qx (Au Y call55 Y (FH (a%m) Sr _ _)) Y (Qm Y (Qm Y (An (Aj ?_)))))));exact Al Y Y (ao Value.bool (ej.2 (by rw[Int.dvd_iff_emod_eq_zero];exact Int.sign_eq_zero_iff_zero)))
theorem YB(m a:Int)(Sm_:Sz m)(ha:Sz a)(h:Hp)(ms:List Hp):FnV Tryz.prog 57 #[WD m,WD a] h ms (.bool (decide (m∣a))):=by refine Ea ?_ ms;have osm:(sv (A8 m.natAbs)).oneCell'=true:=rfl;have osa:(sv (A8 a.natAbs)).oneCell'=true:=rfl;refine Ao func57 ntmps57 Y Y (λw0 hw0=>?_);simp only[AS];refine As (AK [_,_] Y Y (by rfl) Y Y Y (λg2=>AK [_,_] Y Y (by rfl) Y Y Y (λg3=>Qm Y (An (AF λh1 l1 hS3=>(AF λh2 l2 hS2=>?_))))));have g3:∀ms,Seg h2 ms (⟨g3,0,none⟩:Addr) (Bl a):=λms=>(hS3.le l2).any;have g2:∀ms,Seg h2 ms (⟨g2,0,none⟩:Addr) (Bl m):=λms=>hS2.any;refine As (Qx (oG Y BC Ay (g2 _)) Y (Qx (oG Y BC Ay (g3 _)) Y (Qx (Au Y call112 Y (AbZ m a Sm_ ha _ _)) Y (Qm Y (An (Aj ?_))))));exact Al Y Y (Y)
theorem FY{h:Hp}{ms:List Hp}{p:Addr}{t:Tm}(S:Seg h ms p (DK t)):Seg h ms (p.add 1) (Bl t.2):=λi v hv=>by
 have:=S (1+i) v (by rw[Nat.add_comm];exact hv)
 rwa [BK]
theorem F5{h:Hp}{ms:List Hp}{p:Addr}{t:Tm}(S:Seg h ms p (DK t)):Cell h ms (p.add 0) (.int .i64 t.1):=S 0 _ rfl
theorem UM(v:Value)(l:List Tm)(c:Int)(h:Hp)(R:ChR v h l)(ms:List Hp):FnV Tryz.prog 71 #[v,.int .i64 c] h ms (WD (cf l c)):=by
 refine Ea ?_ ms;obtain⟨n,hn⟩:∃n,l.length=n:=⟨_,Y⟩
 have hnb:n<=100000:=hn ▸ R.len;have rL:Rd h [] v 3 n (l.flatMap DK):=by have:=R.rd.rd;rwa [hn]at this
 have ov:=rL.one;refine Ao func71 ntmps71 Y Y (λw0 hw0=>?_);simp only[AS];refine As (BY [.bool false,.es] Y Ay Y Y (λg4=>Bw (BY [.bool false,.es] Y Ay Y Y (λg5=>An (Ac (As (Qm Y (An (Af ?_)))))))));refine AC (λq sl h' ms'=>∃(k:Nat),n-k=q/\sl=[(0,v),(1,.w c),(4,.pt g4),(5,.pt g5),(6,.w (k:Int))]/\h=h'/\ms'=[BL g5 33 (Bl (cf (l.take k) c)),BL g4 33 (Bl 0)]/\k<=n) (n-0) _ ⟨0,Y,Y,Y,Y,ω⟩ Qs ?_;rintro q sl h' ms' ⟨k,rfl,rfl,rfl,rfl,hk⟩;obtain⟨x,hx⟩:∃x,cf (l.take k) c=x:=⟨_,Y⟩
 have hxs:Sz x:=by rw[<-hx];exact La (bp (C4 _ _) (F6 l k)) R.abs δ
 have osx:(sv (A8 x.natAbs)).oneCell'=true:=rfl;rw[hx];refine Ac (As (Qm Y (Qm Y (Qx (Aq rL.any Y CV Y) Y (Qm Y (An ?_))))));refine Ax Y (λhlt=>?_) (λhlt=>?_)
 ·have hkn:k<n:=ω
  have hkl:k<l.length:=ω
  obtain⟨t,ht⟩:∃t,l[k]=t:=⟨_,Y⟩
  have htm:t∈l:=ht ▸ ap hkl;have gE:∀ms,Seg h ms ((AI v).add (k*3)) (DK t):=λms=>by rw[<-ht];exact(R.rd.any (ms:=ms)).seg hkl
  have e1:cf (l.take (k+1)) c=x+if t.1=c then t.2 else 0:=by rw[am hkl,ht,Eo,hx,B6,FW];omega
  refine Ah (Ab (Ac (Af (As (Qm Y (Qm Y (Qx (BR (k) rL.any Y CV Cx Y Y) Y (Qf Gg Y (Ql Y U3 (F5 (gE _)) (Qm Y (Qm Y (An ?_))))))))))));refine Ax Y (λhc=>?_) (λhc=>?_)
  ·have ost:(sv (A8 t.2.natAbs)).oneCell'=true:=rfl;have oss:(sv (A8 (x+t.2).natAbs)).oneCell'=true:=rfl;rw[af hc]at e1;refine AU (n:=8) (bs:=[ie,ic,ic,ic,ic,ic,ie,ie]) [ie,ic,ic,ic,ic,ic] CK κ κ Y Y (Qq Y (Qq Y (Qp Y (BR (k) rL.any Y CV Cx Y Y) (QF GR Y (Qp Y (oG Y BC Ay (FY (gE _))) ?_)))));unfold Do;simp only[bj,aw];refine Qo 0 Y (Qx (oG Y BC Ay (Seg.blk 0 Y)) Y (Qw (Qo 6 Y (Qx (Au Y call22 Y (Kx x t.2 hxs (R.sz htm) _ _)) Y (Qw (Qo 7 Y ?_))))));refine Sa 0 [_,_] Ay Y (by simp[ov,Cn,osx,ost,oss]) ?_;refine Qw (Qe (Ai (Ab (Ad (Qm Y (Qx (oA Y) Y (Qm Y (Am ?_))))))));exact Ap (n-(k+1)) _ ω ⟨k+1,Y,Y,Y,by rw[e1];rfl,ω⟩ Qs
  ·rw[ab hc,fu]at e1;refine Ah (Ai (Ab (Ad (Qm Y (Qx (oA Y) Y (Qm Y (Am ?_)))))));exact Ap (n-(k+1)) _ ω ⟨k+1,Y,Y,Y,by rw[e1],ω⟩ Qs
 ·obtain rfl:k=n:=ω
  rw[show l.take k=l from take_of_length_le ω]at hx;refine AA (Aa (Aa (Ag (Ab (As (Qx (oG Y BC Ay (Seg.blk 0 Y)) Y ?_))))));refine Sa 1 [_,_] Ay Y (by simp[ov,Cn,osx]) ?_;refine An (Aj (AR ?_));exact Bx (vs:=[_,_]) 0 Y Y BC Y Ay Y Y ((by rw[hx];rfl))
def FJ(l:List Tm)(k d:Nat)(c n:Int):List Tm:=l.take k++(if n≠0 then [(c,n)] else [])++l.drop (k+d)
theorem AdT(v:Value)(l:List Tm)(c x:Int)(h:Hp)(R:ChR v h l)(hx:Sz x)(hc:Cc c)(hs:∀t∈l,Sz (t.2+x)) :
  FnT Tryz.prog 62 #[v,.w c,WD x] h [] (λr h' ms'=>h.le h'/\ms'=[]/\∃k,k<=l.length/\(∀j (hj:j<l.length),j<k->l[j].1<c)/\((∃hk:k<l.length,l[k].1=c/\RdL DK 3 h' [] r (FJ l k 1 c (l[k].2+x)))\/((∀hk:k<l.length,c<l[k].1)/\RdL DK 3 h' [] r (FJ l k 0 c x)))):=by
 obtain⟨n,hn⟩:∃n,l.length=n:=⟨_,Y⟩
 have hnb:n<=100000:=hn ▸ R.len;have rL:Rd h [] v 3 n (l.flatMap DK):=by have:=R.rd.rd;rwa [hn]at this
 have ov:=rL.one;have osx:(sv (A8 x.natAbs)).oneCell'=true:=rfl;refine Ao func62 ntmps62 Y Y (λw0 hw0=>?_);simp only[AS];refine As (AK [_,_] Y Y (by rfl) Y Y Y (λg5=>Qm Y (Bw (Qm Y (An ?_)))));refine Bt (λsl h' ms'=>∃k:Nat,sl=[(0,v),(1,.w c),(5,.pt g5),(7,.w (k:Int))]/\h=h'/\ms'=[BL g5 33 (Bl x)]/\k<=n/\(∀j (hj:j<l.length),j<k->l[j].1<c)/\(∀hk:k<l.length,¬l[k].1<c)) ?_ (λs h ms hI=>?_)
 ·refine Af ?_;refine AC (λq sl h' ms'=>∃(k:Nat),n-k=q/\sl=[(0,v),(1,.w c),(5,.pt g5),(7,.w (k:Int))]/\h=h'/\ms'=[BL g5 33 (Bl x)]/\k<=n/\(∀j (hj:j<l.length),j<k->l[j].1<c)) (n-0) _ ⟨0,Y,Y,Y,Y,ω,λj _ hj=>ω⟩ Qs ?_;rintro q sl h' ms' ⟨k,rfl,rfl,rfl,rfl,hk,hall⟩;refine Ac (As (Qm Y (Qm Y (Qx (Aq rL.any Y CV Y) Y (Qm Y (Qm Y ?_))))));refine AY (t:=14) Y (λhlt=>?_) (λhlt=>?_)
  ·have hkl:k<l.length:=ω
   have gE:∀ms,Seg h ms ((AI v).add (k*3)) (DK l[k]):=λms=>(R.rd.any (ms:=ms)).seg hkl;refine Qg (Ar Y Y) Y (Qg (Ar Y Y) Y (Qg (BR (k) rL.any Y CV Cx Y Y) Y (Qg (oF Gg Y) Y (Qg (oL Y U3 (F5 (gE _))) Y (Qg (Ar Y Y) Y (Qg (DB Y Y Y) Y (Qm Y (An ?_))))))));refine Ax Y (λhlc=>?_) (λhlc=>?_)
   ·refine Ah (Ab (Af (Ad (Qm Y (Qx (oA Y) Y (Qm Y (Am (Ai ?_))))))));exact Ap (n-(k+1)) _ ω ⟨k+1,Y,Y,Y,Y,ω,λj hj hjk=>by rcases (ω:j<k\/j=k) with q|rfl;exact hall j hj q;exact hlc⟩ Qs
   ·refine AA (Aa (Aa (Ag ?_)));exact AH _ ⟨k,Y,Y,Y,hk,hall,λ_=>hlc⟩ Qs
  ·refine Qk Y (Qk Y (Qk Y (Qk Y (Qk Y (Qk Y (Qk Y (Qm Y (An (AN Y (AA (Aa (Aa (Ag ?_)))))))))))));exact AH _ ⟨k,Y,Y,Y,hk,hall,λq=>ib q ω⟩ Qs
 ·obtain⟨k,rfl,rfl,rfl,hk,hall,hge⟩:=hI
  have R1:RdL DK 3 h [] (Dg 3 v 0 k) (l.take k):=by
   have:=R.rd.sub_ (i:=0) (j:=k) ω ω
   rwa [List.drop_zero,Nat.sub_zero]at this
  refine As (Qm Y (An (B8 (As (Qm Y (Qm Y (Qm Y (Qx (Eg (k) rL.any Y CV Cx Y Y ω ω) Y (AL 0 (OwnL.nil Fj) R1.any Y CV Cx Y ω Y Y Y D8 (by simp only[fd,bh];omega) (by simp only[fd,bh];omega) rfl rfl rfl (λv8 mo hO=>?_))))))))));rw[aw]at hO;have o8:=hO.o1;refine Qm Y (Bw (Qm Y (Qm Y (Qx (DL (k) rL.any Y CV Cx Y Y ω ω) Y (Qm Y (An ?_))))))
  have R9:RdL DK 3 h [] (Dg 3 v k n) (l.drop k):=by
   have:=R.rd.sub_ (i:=k) (j:=n) ω ω
   rwa [take_of_length_le (by rw[cg];omega)]at this
  have h9l:(l.drop k).length=n-k:=by rw[cg,hn]
  have r9:Rd h [] (Dg 3 v k n) 3 (n-k) ((l.drop k).flatMap DK):=by have:=R9.rd;rwa [h9l]at this
  refine Ac (As (Qm Y (Qx (Aq r9.any Y CV Y) Y (Qm Y (Qm Y ?_)))));refine AY (t:=36) Y (λhlen=>?_) (λhlen=>?_)
  ·have hkl:k<l.length:=ω
   obtain⟨t,ht⟩:∃t,l[k]=t:=⟨_,Y⟩
   have htm:t∈l:=ht ▸ ap hkl;have hd0:(l.drop k)[0]'ω=t:=by rw[List.getElem_drop];exact ht
   have gE:∀ms,Seg h ms ((AI (Dg 3 v k n)).add (0*3)) (DK t):=λms=>by
    have:=(R9.any (ms:=ms)).seg (j:=0) ω
    rwa [hd0]at this
   refine Qg (Ar Y Y) Y (Qg (BR (0) r9.any Y CV Cx Y Y) Y (Qg (oF Gg Y) Y (Qg (oL Y U3 (F5 (gE _))) Y (Qg (Ar Y Y) Y (Qg (Ca Y Y Y) Y (Qm Y (An ?_)))))));refine Ax Y (λheq=>?_) (λheq=>?_)
   ·have ost:(sv (A8 t.2.natAbs)).oneCell'=true:=rfl;have oss:(sv (A8 (t.2+x).natAbs)).oneCell'=true:=rfl;refine Ac (AU (n:=7) (bs:=[ic,ic,ic,ic,ie,ie,ie]) [ic,ic,ic,ic] CK κ κ Y Y (Qq Y (Qp Y (BR (0) r9.any Y CV Cx Y Y) (QF GR Y (Qp Y (oG Y BC Ay (FY (gE _))) ?_)))));unfold Do;simp only[bj,aw];refine Qo 4 Y (Qx (oG Y BC Ay (Seg.blk 1 Y)) Y (Qw (Qo 5 Y (Qx (Au Y call22 Y (Kx t.2 x (R.sz htm) hx _ _)) Y (Qw (Qo 6 Y ?_))))));refine Sa 1 [_,_] Ay Y (by simp[ov,osx,Cn,o8,ost,oss]) ?_;refine Qw (Qe ?_)
    have R10:RdL DK 3 h [] (Dg 3 (Dg 3 v k n) 1 (n-k)) (l.drop (k+1)):=by
     have:=R9.sub_ (i:=1) (j:=n-k) ω ω
     rwa [List.drop_drop,take_of_length_le (by rw[cg];omega)]at this
    have h10l:(l.drop (k+1)).length=n-k-1:=by rw[cg];omega
    have r10:Rd h [] (Dg 3 (Dg 3 v k n) 1 (n-k)) 3 (n-k-1) ((l.drop (k+1)).flatMap DK):=by have:=R10.rd;rwa [h10l]at this
    refine Ab (Ad (Qm Y (Qx (DL (1) r9.any Y CV Cx Y Y ω ω) Y (Qm Y (An ?_)))));obtain⟨xq,hxqe⟩:∃xq,t.2+x=xq:=⟨_,Y⟩
    have hxq:Sz xq:=hxqe ▸ hs t htm;rw[hxqe];have osq:(sv (A8 xq.natAbs)).oneCell'=true:=rfl;have osq0:(sv (A8 (xq+0).natAbs)).oneCell'=true:=rfl;have o9:=R10.rd.one;refine Ac (As (Qx (oG Y BC Ay (Seg.blk 1 Y)) Y (Qx (Au Y call55 Y (FH xq hxq _ _)) Y (Qm Y (An ?_)))));refine Ax Y (λhnz=>?_) (λhnz=>?_)
    ·have hq0:xq≠0:=λe=>hnz (by rw[e];rfl);refine Ad (Qm Y (Qm Y (Qx (oG Y BC Ay (Seg.blk 1 Y)) Y (Qx (AP Jx [.bool false,.es] [] [_,_] Y Ay Y Y Qt Y) Y ?_))));refine Qx (Au Y call22 Y (Kx xq 0 hxq (by unfold Sz;decide) _ _)) Y ?_;refine Qx (AP AaW [.w 0,.bool false,.es] [(0,_),(1,_)] [_,_,_] Y Cx Y Y Qt Y) Y (AB [_,_,_] Y CV Cx Y (by rfl) Y Y ω Y Y Y (λg61=>AL 1 hO (RdL.one Fj (x:=((c,xq+0):Tm)) Mh Y) Y CV Cx Y ω Y Y Y D8 (by simp only[ae,bh];omega) (by simp only[ae,bh];omega) rfl rfl rfl (λv9 mo9 hO9=>?_)));have o99:=hO9.o1;refine Qm Y (Bw (Qm Y (Qm Y (AL 1 hO9 (R10).any Y CV Cx Y ω Y Y Y D8 (by simp only[ag,ae,bh,cg];omega) (by simp only[ag,ae,bh,cg];omega) rfl rfl rfl (λvA moA hOA=>?_)))));have oA_:=hOA.o1;refine Qm Y (An (Aj (AR (Dk hOA λh2 l2 hR2=>(AR ?_)))));rw[show l.take k++[((c,xq+0):Tm)]++l.drop (k+1)=FJ l k 1 c xq by unfold FJ;rw[af hq0,fu]<;>rfl]at hR2;exact Al Y Y (⟨l2,Y,k,ω,hall,.inl ⟨hkl,by rw[ht];exact heq,by rw[ht,hxqe];exact hR2⟩⟩)
    ·have hq0:xq=0:=Int.sign_eq_zero_iff_zero.1 (d7.1 hnz);refine Ah (Ab (As (Qm Y (Qm Y (AL 0 hO (R10).any Y CV Cx Y ω Y Y Y D8 (by simp only[ag,bh,cg];omega) (by simp only[ag,bh,cg];omega) rfl rfl rfl (λvA moA hOA=>?_))))));have oA_:=hOA.o1;refine Qm Y (An (Aj (Dk hOA λh2 l2 hR2=>(AR ?_))));rw[show l.take k++l.drop (k+1)=FJ l k 1 c xq by unfold FJ;rw[ab (λe=>e hq0),dx]<;>rfl]at hR2;exact Al Y Y (⟨l2,Y,k,ω,hall,.inl ⟨hkl,by rw[ht];exact heq,by rw[ht,hxqe];exact hR2⟩⟩)
   ·have hgt:∀hk:k<l.length,c<l[k].1:=λq=>by have:=hge q;rw[ht]at this ⊢;omega
    obtain⟨xq,hxqe⟩:∃xq,x=xq:=⟨_,Y⟩
    have hxq:Sz xq:=hxqe ▸ hx;subst hxqe;refine Ah (Ab ?_);have osq:(sv (A8 x.natAbs)).oneCell'=true:=rfl;have osq0:(sv (A8 (x+0).natAbs)).oneCell'=true:=rfl;have o9:=R9.rd.one;refine Ac (As (Qx (oG Y BC Ay (Seg.blk 1 Y)) Y (Qx (Au Y call55 Y (FH x hx _ _)) Y (Qm Y (An ?_)))));refine Ax Y (λhnz=>?_) (λhnz=>?_)
    ·have hq0:x≠0:=λe=>hnz (by rw[e];rfl);refine Ad (Qm Y (Qm Y (Qx (oG Y BC Ay (Seg.blk 1 Y)) Y (Qx (AP Jx [.bool false,.es] [] [_,_] Y Ay Y Y Qt Y) Y ?_))));refine Qx (Au Y call22 Y (Kx x 0 hx (by unfold Sz;decide) _ _)) Y ?_;refine Qx (AP AaW [.w 0,.bool false,.es] [(0,_),(1,_)] [_,_,_] Y Cx Y Y Qt Y) Y (AB [_,_,_] Y CV Cx Y (by rfl) Y Y ω Y Y Y (λg61=>AL 1 hO (RdL.one Fj (x:=((c,x+0):Tm)) Mh Y) Y CV Cx Y ω Y Y Y D8 (by simp only[ae,bh];omega) (by simp only[ae,bh];omega) rfl rfl rfl (λv9 mo9 hO9=>?_)));have o99:=hO9.o1;refine Qm Y (Bw (Qm Y (Qm Y (AL 1 hO9 (R9).any Y CV Cx Y ω Y Y Y D8 (by simp only[ag,ae,bh,cg];omega) (by simp only[ag,ae,bh,cg];omega) rfl rfl rfl (λvA moA hOA=>?_)))));have oA_:=hOA.o1;refine Qm Y (An (Aj (AR (Dk hOA λh2 l2 hR2=>(AR ?_)))));rw[show l.take k++[((c,x+0):Tm)]++l.drop k=FJ l k 0 c x by unfold FJ;rw[af hq0,fu]<;>rfl]at hR2;exact Al Y Y (⟨l2,Y,k,ω,hall,.inr ⟨hgt,hR2⟩⟩)
    ·have hq0:x=0:=Int.sign_eq_zero_iff_zero.1 (d7.1 hnz);refine Ah (Ab (As (Qm Y (Qm Y (AL 0 hO (R9).any Y CV Cx Y ω Y Y Y D8 (by simp only[ag,bh,cg];omega) (by simp only[ag,bh,cg];omega) rfl rfl rfl (λvA moA hOA=>?_))))));have oA_:=hOA.o1;refine Qm Y (An (Aj (Dk hOA λh2 l2 hR2=>(AR ?_))));rw[show l.take k++l.drop k=FJ l k 0 c x by unfold FJ;rw[ab (λe=>e hq0),dx]<;>rfl]at hR2;exact Al Y Y (⟨l2,Y,k,ω,hall,.inr ⟨hgt,hR2⟩⟩)
  ·have hgt:∀hk:k<l.length,c<l[k].1:=λq=>ib q ω;refine Qk Y (Qk Y (Qk Y (Qk Y (Qk Y (Qk Y (Qm Y (An (AN Y (Ah (Ab ?_))))))))));have osq:(sv (A8 x.natAbs)).oneCell'=true:=rfl;have osq0:(sv (A8 (x+0).natAbs)).oneCell'=true:=rfl;have o9:=R9.rd.one;refine Ac (As (Qx (oG Y BC Ay (Seg.blk 1 Y)) Y (Qx (Au Y call55 Y (FH x hx _ _)) Y (Qm Y (An ?_)))));refine Ax Y (λhnz=>?_) (λhnz=>?_)
   ·have hq0:x≠0:=λe=>hnz (by rw[e];rfl);refine Ad (Qm Y (Qm Y (Qx (oG Y BC Ay (Seg.blk 1 Y)) Y (Qx (AP Jx [.bool false,.es] [] [_,_] Y Ay Y Y Qt Y) Y ?_))));refine Qx (Au Y call22 Y (Kx x 0 hx (by unfold Sz;decide) _ _)) Y ?_;refine Qx (AP AaW [.w 0,.bool false,.es] [(0,_),(1,_)] [_,_,_] Y Cx Y Y Qt Y) Y (AB [_,_,_] Y CV Cx Y (by rfl) Y Y ω Y Y Y (λg61=>AL 1 hO (RdL.one Fj (x:=((c,x+0):Tm)) Mh Y) Y CV Cx Y ω Y Y Y D8 (by simp only[ae,bh];omega) (by simp only[ae,bh];omega) rfl rfl rfl (λv9 mo9 hO9=>?_)));have o99:=hO9.o1;refine Qm Y (Bw (Qm Y (Qm Y (AL 1 hO9 (R9).any Y CV Cx Y ω Y Y Y D8 (by simp only[ag,ae,bh,cg];omega) (by simp only[ag,ae,bh,cg];omega) rfl rfl rfl (λvA moA hOA=>?_)))));have oA_:=hOA.o1;refine Qm Y (An (Aj (AR (Dk hOA λh2 l2 hR2=>(AR ?_)))));rw[show l.take k++[((c,x+0):Tm)]++l.drop k=FJ l k 0 c x by unfold FJ;rw[af hq0,fu]<;>rfl]at hR2;exact Al Y Y (⟨l2,Y,k,ω,hall,.inr ⟨hgt,hR2⟩⟩)
   ·have hq0:x=0:=Int.sign_eq_zero_iff_zero.1 (d7.1 hnz);refine Ah (Ab (As (Qm Y (Qm Y (AL 0 hO (R9).any Y CV Cx Y ω Y Y Y D8 (by simp only[ag,bh,cg];omega) (by simp only[ag,bh,cg];omega) rfl rfl rfl (λvA moA hOA=>?_))))));have oA_:=hOA.o1;refine Qm Y (An (Aj (Dk hOA λh2 l2 hR2=>(AR ?_))));rw[show l.take k++l.drop k=FJ l k 0 c x by unfold FJ;rw[ab (λe=>e hq0),dx]<;>rfl]at hR2;exact Al Y Y (⟨l2,Y,k,ω,hall,.inr ⟨hgt,hR2⟩⟩)
theorem U7(l:List Tm)(k:Nat):Bk l=Bk (l.take k)+Bk (l.drop k):=by rw[<-BN,dp]
theorem Z2(c n:Int):Bk (if n≠0 then [((c,n):Tm)] else [])<=n.natAbs:=by
 split
 ·simp[Bk]
 ·simp[Bk]
theorem QU(l:List Tm)(k d:Nat)(c n:Int)(hk:k<=l.length):(FJ l k d c n).length<=l.length+1:=by unfold FJ;rw[ag,ag,bh,cg];split<;>simp<;>omega
def CanV(f:Int->Int)(A N:Nat)(r:Value)(h:Hp):Prop:=∃l,CanL l f/\ChR r h l/\Bk l<=A/\l.length<=N
theorem CanV.up{f:Int->Int}{A N:Nat}{r:Value}{h h':Hp}(C:CanV f A N r h)(q:h.le h'):CanV f A N r h':=by obtain⟨l,c,R,a,b⟩:=C;exact⟨l,c,R.up q,a,b⟩
theorem Vc(v:Value)(l:List Tm)(f:Int->Int)(c x:Int)(h:Hp)(R:ChR v h l)(C:CanL l f)(hc:Cc c)(hN:l.length<100000)(hab:Bk l+x.natAbs<2^2000000) :
  FnT Tryz.prog 62 #[v,.w c,WD x] h [] (λr h' ms'=>h.le h'/\ms'=[]/\CanV (upd f c x) (Bk l+x.natAbs) (l.length+1) r h'):=by
 have hx:Sz x:=La (n:=Bk l+x.natAbs) ω hab δ;have hs:∀t∈l,Sz (t.2+x):=λt ht=>La (n:=Bk l+x.natAbs) (by have:=Hq ht;omega) hab δ;refine(AdT v l c x h R hx hc hs).mono λr h' ms' ⟨q,e,k,hk,hlt,hr⟩=>⟨q,e,?_⟩
 have fin:∀d n,(∀p∈FJ l k d c n,p.1=c\/p∈l)->Bk (FJ l k d c n)<=Bk l+x.natAbs->CanL (FJ l k d c n) (upd f c x)->RdL DK 3 h' [] r (FJ l k d c n)->CanV (upd f c x) (Bk l+x.natAbs) (l.length+1) r h':=λd n h1 h2 h3 h4=>
  ⟨_,h3,⟨h4,by have:=QU l k d c n hk;omega,λp hp=>(h1 p hp).elim (λe=>e ▸ hc) (R.ids p),ω⟩,h2,QU l k d c n hk⟩
 have hmem:∀d n,∀p∈FJ l k d c n,p.1=c\/p∈l:=λd n p hp=>by
  unfold FJ at hp;rcases bl.1 hp with hp|hp
  ·rcases bl.1 hp with hp|hp
   ·exact .inr (List.mem_of_mem_take hp)
   ·left;split at hp
    ·rw[bg.1 hp]
    ·cases hp
  ·exact .inr (gr hp)
 rcases hr with ⟨hkl,hkc,hR⟩|⟨hgt,hR⟩
 ·have hfc:l[k].2=f c:=by rw[<-hkc];exact(C.val _ (ap hkl)).1
  refine fin 1 _ (hmem _ _) ?_ (SX C hk hlt (λj hj hkj=>by have:=PT C.srt hkl hj ω;omega) (by rw[hfc]) (λj hj h1 h2=>by have e:j=k:=ω;subst e;exact hkc)) hR;have e1:=U7 l k;rw[eh hkl,Dy]at e1;have e2:=Z2 c (l[k].2+x);have e3:=Int.natAbs_add_le l[k].2 x;unfold FJ;rw[BN,BN];revert e1 e2 e3;generalize Bk (if l[k].2+x≠0 then [((c,l[k].2+x):Tm)] else [])=z1;generalize (l[k].2+x).natAbs=z2;generalize l[k].2.natAbs=z3;generalize x.natAbs=z4;generalize Bk (l.take k)=z5;generalize Bk (l.drop (k+1))=z6;intro e1 e2 e3;omega
 ·have hfc:f c=0:=by
   refine ay λhne=>?_;obtain⟨j,hj,e⟩:=df.1 (C.all c hne);rcases (ω:j<k\/j=k\/k<j) with h1|rfl|h1
   ·have:=hlt j hj h1;rw[e]at this;exact ib this σ
   ·have:=hgt hj;rw[e]at this;exact ib this σ
   ·have h2:=PT C.srt (i:=k) ω hj h1;have h3:=hgt ω;rw[e]at h2;have h2:l[k].1<c:=h2;omega
  refine fin 0 _ (hmem _ _) ?_ (SX C hk hlt (λj hj hkj=>?_) (by rw[hfc,Int.zero_add]) (λj hj h1 h2=>ω)) hR
  ·have e1:=U7 l k;have e2:=Z2 c x;unfold FJ;rw[BN,BN];show _+_+Bk (l.drop (k+0))<=_;rw[Nat.add_zero];revert e1 e2;generalize Bk (if x≠0 then [((c,x):Tm)] else [])=z1;generalize x.natAbs=z4;generalize Bk (l.take k)=z5;generalize Bk (l.drop k)=z6;intro e1 e2;omega
  ·rcases (ω:j=k\/k<j) with rfl|h1
   ·exact hgt hj
   ·have h2:=PT C.srt (i:=k) ω hj h1;have h3:=hgt ω;omega
theorem Kb:CanL [] (λ_=>0):=⟨List.Pairwise.nil,λp hp=>(by cases hp),λc hc=>ib rfl hc⟩
theorem Px(l:List Tm)(t:Tm):upd (cf l) t.1 t.2=cf (l++[t]):=by funext a;unfold upd;rw[Eo,B6,FW];omega
set_option exponentiation.threshold 4000000 in
theorem El(h:Hp):ChR (.slice none 0 0) h []:=⟨⟨Rd.nil _ _ _,Fj⟩,by decide,λp hp=>(by cases hp),by show 0<_;exact Nat.pow_pos δ⟩
theorem J6(v:Value)(l:List Tm)(h:Hp)(R:ChR v h l):FnT Tryz.prog 21 #[v] h [] (λr h' ms'=>h.le h'/\ms'=[]/\CanR l r h'):=by
 obtain⟨n,hn⟩:∃n,l.length=n:=⟨_,Y⟩
 have hnb:n<=100000:=hn ▸ R.len;have rL:∀h',h.le h'->Rd h' [] v 3 n (l.flatMap DK):=λh' q=>by have:=(R.rd.up q).rd;rwa [hn]at this
 have ov:=(rL _ (BD)).one;refine Ao func21 ntmps21 Y Y (λw0 hw0=>?_);simp only[AS];refine As (Qm Y (Bw (Qm Y (An (Ac (As (Qm Y (An (Af ?_)))))))));refine AC (λq sl h' ms'=>∃(k:Nat) (w:Value),n-k=q/\sl=[(0,v),(3,w),(4,.w (k:Int))]/\h.le h'/\ms'=[]/\k<=n/\CanV (cf (l.take k)) (Bk (l.take k)) k w h') (n-0) _ ⟨0,_,Y,Y,BD,Y,ω,[],Kb,El _,Nat.zero_le _,Nat.zero_le _⟩ Qs ?_;rintro q sl h' ms' ⟨k,w,rfl,rfl,lh,rfl,hk,hC⟩;have ow:w.oneCell'=true:=by obtain⟨_,_,q,_⟩:=hC;exact q.rd.rd.one
 refine Ac (As (Qm Y (Qm Y (Qx (Aq (rL _ lh).any Y CV Y) Y (Qm Y (An ?_))))));refine Ax Y (λhlt=>?_) (λhlt=>?_)
 ·have hkn:k<n:=ω
  have hkl:k<l.length:=ω
  obtain⟨t,ht⟩:∃t,l[k]=t:=⟨_,Y⟩
  have htm:t∈l:=ht ▸ ap hkl;have etk:l.take (k+1)=l.take k++[t]:=by rw[am hkl,ht]
  have gE:∀ms,Seg h' ms ((AI v).add (k*3)) (DK t):=λms=>by rw[<-ht];exact((R.rd.up lh).any (ms:=ms)).seg hkl
  obtain⟨l',CL,CR,ha,hb⟩:=hC;have hbt:Bk (l.take (k+1))=Bk (l.take k)+t.2.natAbs:=by rw[etk,BN];rfl
  have hle:=F6 l (k+1);have habs:=R.abs;refine Ah (Ab (Ac (Af (AU (n:=13) (bs:=[ic,ic,ic,ic,ic,ic,ic,ic,ic,ic,ic,ie,ie]) [ic,ic,ic,ic,ic,ic,ic,ic,ic,ic,ic] CK κ κ Y Y (Qq Y (Qq Y (Qq Y (Qp Y (AM (k) (rL _ lh).any Y CV Cx Y Y ω ω) (QF Gg Y (QL Y U3 (F5 (gE _)) (Qq Y (Qq Y (Qp Y (AM (k) (rL _ lh).any Y CV Cx Y Y ω ω) (QF GR Y (Qp Y (oG Y BC Ay (FY (gE _))) ?_)))))))))))))));unfold Do;simp only[bj,aw];refine Qo 11 Y (Az (pre:=[]) Y call62 Y (Vc w l' _ t.1 t.2 h' CR CL (R.ids t htm) ω ω) Y Y Y Y (λw2 h2 ms2 l2 hF=>?_));obtain⟨l2',rfl,hC2⟩:=hF;have ow2:w2.oneCell'=true:=by obtain⟨_,_,q,_⟩:=hC2;exact q.rd.rd.one
  refine Qa (Qo 12 Y (Qm Y (Qa (Qe ?_))));rw[Px,<-etk]at hC2;obtain⟨l3,CL3,CR3,ha3,hb3⟩:=hC2;refine Ai (Ab (Ad (Qm Y (Qx (oA Y) Y (Qm Y (Am ?_))))));exact Ap (n-(k+1)) _ ω ⟨k+1,w2,Y,Y,AD lh l2',Y,ω,l3,CL3,CR3,ω,ω⟩ Qs
 ·obtain rfl:k=n:=ω
  rw[show l.take k=l from take_of_length_le ω]at hC;obtain⟨l',CL,CR,ha,hb⟩:=hC;refine AA (Aa (Aa (Ag (Ab (As (Qm Y (Qm Y (An (Aj ?_)))))))));exact Al Y Y (⟨lh,Y,l',CL,CR,ha,ω⟩)
theorem AaP(n_:Int)(v:Value)(l:List Tm)(h:Hp)(R:ChR v h l)(hn_:Sz n_)(ha_:n_.natAbs*Bk l<2^2000000):FnT Tryz.prog 31 #[WD n_,v] h [] (λr h' ms'=>h.le h'/\ms'=[]/\CanR (KK n_ l) r h'):=by
 obtain⟨n,hn⟩:∃n,l.length=n:=⟨_,Y⟩
 have hnb:n<=100000:=hn ▸ R.len;have rL:∀h',h.le h'->Rd h' [] v 3 n (l.flatMap DK):=λh' q=>by have:=(R.rd.up q).rd;rwa [hn]at this
 have ov:=(rL _ (BD)).one;have osn:(sv (A8 n_.natAbs)).oneCell'=true:=rfl;refine Ao func31 ntmps31 Y Y (λw0 hw0=>?_);simp only[AS];refine As (AK [_,_] Y Y (by rfl) Y Y Y (λg2=>Qm Y (An (AF λh0 l0 hS2=>?_))));have g2_:∀h',h0.le h'->∀ms,Seg h' ms (⟨g2,0,none⟩:Addr) (Bl n_):=λh' q ms=>(hS2.any).le q;refine As (Qm Y (An (Ac (As (Qm Y (An (Af ?_)))))));refine AC (λq sl h' ms'=>∃(k:Nat) (w:Value),n-k=q/\sl=[(1,v),(2,.pt g2),(5,w),(6,.w (k:Int))]/\h0.le h'/\ms'=[]/\k<=n/\CanV (cf (KK n_ (l.take k))) (Bk (KK n_ (l.take k))) k w h') (n-0) _ ⟨0,_,Y,Y,BD,Y,ω,[],Kb,El _,Nat.zero_le _,Nat.zero_le _⟩ Qs ?_;rintro q sl h' ms' ⟨k,w,rfl,rfl,lh0,rfl,hk,hC⟩;have lh:=AD l0 lh0;have ow:w.oneCell'=true:=by obtain⟨_,_,q,_⟩:=hC;exact q.rd.rd.one
 refine Ac (As (Qm Y (Qm Y (Qx (Aq (rL _ lh).any Y CV Y) Y (Qm Y (An ?_))))));refine Ax Y (λhlt=>?_) (λhlt=>?_)
 ·have hkn:k<n:=ω
  have hkl:k<l.length:=ω
  obtain⟨t,ht⟩:∃t,l[k]=t:=⟨_,Y⟩
  have htm:t∈l:=ht ▸ ap hkl;have etk:l.take (k+1)=l.take k++[t]:=by rw[am hkl,ht]
  have gE:∀ms,Seg h' ms ((AI v).add (k*3)) (DK t):=λms=>by rw[<-ht];exact((R.rd.up lh).any (ms:=ms)).seg hkl
  obtain⟨l',CL,CR,ha,hb⟩:=hC;have esc:KK n_ (l.take (k+1))=KK n_ (l.take k)++[(t.1,n_*t.2)]:=by rw[etk];simp[KK]
  have hbt:Bk (KK n_ (l.take (k+1)))=Bk (KK n_ (l.take k))+(n_*t.2).natAbs:=by rw[esc,BN];rfl
  have hle:Bk (KK n_ (l.take (k+1)))<=n_.natAbs*Bk l:=by rw[LP];exact Nat.mul_le_mul_left _ (F6 l (k+1))
  have osm:(sv (A8 (n_*t.2).natAbs)).oneCell'=true:=rfl;have ost:(sv (A8 t.2.natAbs)).oneCell'=true:=rfl;refine Ah (Ab (Ac (Af (AU (n:=15) (bs:=[ic,ic,ic,ic,ic,ic,ic,ic,ic,ic,ic,ic,ic,ie,ie]) [ic,ic,ic,ic,ic,ic,ic,ic,ic,ic,ic,ic,ic] CK κ κ Y Y (Qq Y (Qq Y (Qq Y (Qp Y (AM (k) (rL _ lh).any Y CV Cx Y Y ω ω) (QF Gg Y (QL Y U3 (F5 (gE _)) (Qp Y (oG Y BC Ay (g2_ _ lh0 _)) (Qq Y (Qq Y (Qp Y (AM (k) (rL _ lh).any Y CV Cx Y Y ω ω) (QF GR Y (Qp Y (oG Y BC Ay (FY (gE _))) (Qp Y (Au Y call26 Y (P8 n_ t.2 hn_ (R.sz htm) _ _)) ?_)))))))))))))))));unfold Do;simp only[bj,aw];refine Qo 13 Y (Az (pre:=[]) Y call62 Y (Vc w l' _ t.1 (n_*t.2) h' CR CL (R.ids t htm) ω ω) Y Y Y Y (λw2 h2 ms2 l2 hF=>?_));obtain⟨l2',rfl,hC2⟩:=hF;have ow2:w2.oneCell'=true:=by obtain⟨_,_,q,_⟩:=hC2;exact q.rd.rd.one
  refine Qa (Qo 14 Y (Qm Y (Qa (Qe ?_))));have eup:upd (cf (KK n_ (l.take k))) t.1 (n_*t.2)=cf (KK n_ (l.take (k+1))):=by rw[esc];exact Px _ (t.1,n_*t.2)
  rw[eup]at hC2;obtain⟨l3,CL3,CR3,ha3,hb3⟩:=hC2;refine Ai (Ab (Ad (Qm Y (Qx (oA Y) Y (Qm Y (Am ?_))))));exact Ap (n-(k+1)) _ ω ⟨k+1,w2,Y,Y,AD lh0 l2',Y,ω,l3,CL3,CR3,ω,ω⟩ Qs
 ·obtain rfl:k=n:=ω
  rw[show l.take k=l from take_of_length_le ω]at hC;obtain⟨l',CL,CR,ha,hb⟩:=hC;refine AA (Aa (Aa (Ag (Ab (As (Qm Y (Qm Y (An (Aj ?_)))))))));exact Al Y Y (⟨lh,Y,l',CL,CR,ha,by rw[KK,bf];omega⟩)
theorem AcI(v w:Value)(l k:List Tm)(h:Hp)(R:ChR v h l)(R2:ChR w h k)(hn:l.length+k.length<=100000)(ha:Bk (l++k)<2^2000000):FnT Tryz.prog 28 #[v,w] h [] (λr h' ms'=>h.le h'/\ms'=[]/\CanR (l++k) r h'):=by
 have ov:=R.rd.rd.one;have ow:=R2.rd.rd.one;refine Ao func28 ntmps28 rfl rfl (λw0 hw0=>?_);simp only[AS];have hl1:=R.len;have hk1:=R2.len;refine As (Qm rfl (Bw ?_));refine AJ [] [] [] rfl CV Cx rfl ω κ (by repeat (first|exact eo|refine⟨⟨by first|rfl|exact(R.rd.rd.any).cells|exact(R2.rd.rd.any).cells|exact Rd.cells ‹_›|exact(RdL.rd ‹_›).cells,rfl,rfl⟩,?_⟩)) rfl rfl rfl rfl (λg5=>?_);refine Qm rfl (AL 0 (OwnL.blk (el:=79) (F:=DK) (l:=[]) 0 Fj rfl δ) R.rd.any rfl CV Cx rfl ω rfl rfl rfl D8 (by simp only[fd];omega) (by simp only[fd];omega) rfl rfl rfl (λv7 m7 hO7=>?_));rw[aw]at hO7;have o7:=hO7.o1;refine Qm rfl (AL 0 hO7 R2.rd.any rfl CV Cx rfl ω rfl rfl rfl D8 ω ω rfl rfl rfl (λv9 m9 hO9=>?_));have o9:=hO9.o1;refine Bv hO9 λh2 l2 hR9=>?_;refine Qc call21 rfl (J6 v9 (l++k) h2 ⟨hR9,by rw[ag];omega,λp hp=>(bl.1 hp).elim (R.ids p) (R2.ids p),ha⟩) (λr h3 ms3 l3 hF=>?_);obtain⟨l3',rfl,C⟩:=hF;have or_:r.oneCell'=true:=by obtain⟨_,_,q,_⟩:=C;exact q.rd.rd.one
 refine Qm Y (An (Aj ?_));exact Al Y Y (⟨AD l2 l3',Y,C⟩)
theorem VS(v w:Value)(x y:List Tm)(h:Hp)(X:ChR v h x)(Y:ChR w h y)(hn:x.length+y.length<=100000)(ha:Bk x+Bk y<2^2000000):FnT Tryz.prog 50 #[v,w] h [] (fun r h' ms'=>h.le h'/\ms'=[]/\AbG x y r h'):=by
 have ov:=X.rd.rd.one;have ow:=Y.rd.rd.one;have osm:(sv (A8 (-1:Int).natAbs)).oneCell'=true:=rfl
 have hone:(-1:Int).natAbs*Bk y<2^2000000:=by show 1*Bk y<_;omega
 refine Ao func50 ntmps50 rfl rfl (fun w0 hw0=>?_);simp only[AS];refine As (Qm rfl (Bw (Qm rfl (Qx (Au rfl call25 rfl (Lx (-1) δ _ _)) rfl (Qm rfl (Qc call31 rfl (AaP (-1) w y h Y (Od δ) hone) (fun z h2 ms2 l2 hF=>?_)))))));obtain⟨l2',rfl,l5,CL,CR,hab,hln⟩:=hF;have oz:=CR.rd.rd.one;have hab':Bk l5<=Bk y:=by rw[LP]at hab;exact bp hab (by show 1*Bk y<=_;omega)
 have hln':l5.length<=y.length:=by rw[KK,bf]at hln;exact hln
 refine Qc call28 rfl (AcI v z x l5 h2 (X.up l2') CR ω (by rw[BN];omega)) (fun r h3 ms3 l3 hF=>?_);obtain⟨l3',rfl,l6,CL6,CR6,hab6,hln6⟩:=hF;have or_:=CR6.rd.rd.one;have hfin:AbG x y r h3:=⟨l6,CL6.congr fun c=>by rw[Eo,CL.cf_eq,PL];omega,CR6,by rw[BN]at hab6;omega,by rw[ag]at hln6;omega⟩
 refine Qm rfl (An (Aj ?_));exact Al rfl rfl (⟨AD l2' l3',rfl,hfin⟩)
def LA(S:List (Int×(Int×Int)))(a:List Tm):List Tm:=S.map λp=>(p.2.1,cf a p.1*p.2.2)
theorem Z6(S:List (Int×(Int×Int)))(a:List Tm)(p:Int×(Int×Int)):LA (S++[p]) a=LA S a++[(p.2.1,cf a p.1*p.2.2)]:=by unfold LA;rw[cq];rfl
theorem AaN(S:List (Int×(Int×Int)))(a:List Tm):(∀c,cf (LA S a) c=cf (DI S a) c)/\Bk (LA S a)=Bk (DI S a):=by
 induction S with
 | nil=>exact⟨λc=>rfl,Y⟩
 | cons p S ih=>
  have e:DI (p::S) a=(if cf a p.1≠0 then [((p.2.1,cf a p.1*p.2.2):Tm)] else [])++DI S a:=by unfold DI;by_cases h:cf a p.1=0<;>simp[h]
  rw[e];show(∀c,cf ((p.2.1,cf a p.1*p.2.2)::LA S a) c=_)/\Bk ((p.2.1,cf a p.1*p.2.2)::LA S a)=_;by_cases h:cf a p.1=0
  ·rw[ab (λq=>q h),aw];refine⟨λc=>?_,?_⟩
   ·rw[B6,ih.1,h];simp
   ·rw[Dy,ih.2,h];simp
  ·rw[af h];refine⟨λc=>?_,?_⟩
   ·rw[List.singleton_append,B6,B6,ih.1]
   ·rw[List.singleton_append,Dy,Dy,ih.2]
theorem Yr(S:List (Int×(Int×Int)))(T:List (Int×(Int×Int)))(a:List Tm):Bk (LA S a)<=Bk (LA (S++T) a):=by unfold LA;rw[cq,BN];omega
theorem PK(v va:Value)(l:List Ce)(a:List Tm)(h:Hp)(X:CxS v h l)(A:ChR va h a)(hB:Bk (DI (A4 (l.map Ce.c)) a)<2^2000000)(hT:(A4 (l.map Ce.c)).length<100000) :
  FnT Tryz.prog 29 #[.agg #[v],va] h [] (λr h' ms'=>h.le h'/\ms'=[]/\CanV (cf (DI (A4 (l.map Ce.c)) a)) (Bk (DI (A4 (l.map Ce.c)) a)) (A4 (l.map Ce.c)).length r h'):=by
 have ov:=X.rd.q.rd.one;obtain⟨aa,ac,rfl,_⟩:=A.rd.rd.ex;obtain⟨o,ho⟩:∃o,l.map Ce.c=o:=⟨_,Y⟩
 rw[ho]at hB hT ⊢;obtain⟨hcfA,hablA⟩:=AaN (A4 o) a;obtain⟨n,hnn⟩:∃n,l.length=n:=⟨_,Y⟩
 have hon:o.length=n:=by rw[<-ho,bf,hnn]
 have hnb:n<=1000:=hnn ▸ X.len;have rV:∀h',h.le h'->Rd h' [] v 3 n (l.flatMap cC):=λh' q=>by have:=(X.rd.q.up q).rd;rwa [hnn]at this
 refine Ao func29 ntmps29 Y Y (λw0 hw0=>?_);simp only[AS];refine As (AK [_] Y Y (by rfl) Y Y Y (λg2=>Qm Y (An (AF λh1 l1 hS2=>?_))));have c0:∀h',h1.le h'->∀ms,Cell h' ms ((⟨g2,0,none⟩:Addr).add 0) v:=λh' q ms=>((hS2 0 _ Y).any).le q;refine As (Qm Y (An (Ac (As (Qm Y (An (Af ?_)))))));refine AC (λq sl h' ms'=>∃(i:Nat) (w:Value),n-i=q/\sl=[(1,.slice aa a.length ac),(2,.pt g2),(5,w),(6,.w (i:Int))]/\h1.le h'/\ms'=[]/\i<=n/\CanV (cf (LA (A4 (o.take i)) a)) (Bk (LA (A4 (o.take i)) a)) (A4 (o.take i)).length w h') (n-0) _ ⟨0,_,Y,Y,BD,Y,ω,[],Kb,El _,Nat.zero_le _,Nat.zero_le _⟩ Qs ?_;rintro q sl h' ms' ⟨i,w,rfl,rfl,lh,rfl,hi,hC⟩;have l0h:=AD l1 lh;refine Ac (As (Qm Y (Qf Cz Y (Ql Y Cb (c0 _ lh _) (Qx (Aq (rV _ l0h).any Y Cb Y) Y (Qm Y (An ?_)))))));refine Ax Y (λhlt=>?_) (λhlt=>?_)
 ·have hin:i<n:=ω
  have hil:i<l.length:=ω
  have hio:i<o.length:=ω
  obtain⟨x,hx⟩:∃x,l[i]=x:=⟨_,Y⟩
  have hox:o[i]=x.c:=by subst ho;rw[gy,hx]
  have hxm:x∈l:=hx ▸ ap hil;have Rs:=X.rd.s x hxm;have ox:=Rs.rd.one;obtain⟨p,hp⟩:∃p,x.c.sd.length=p:=⟨_,Y⟩
  have hpn:p<=1000:=hp ▸ X.sdn x hxm;have gE:∀h2,h.le h2->∀ms,Seg h2 ms ((AI v).add (i*3)) (cC x):=λh2 q ms=>by rw[<-hx];exact((X.rd.q.up q).any (ms:=ms)).seg hil
  have e0:∀ms,Cell h' ms (((AI v).add (i*3)).add 0) (.w x.c.id):=λms=>gE _ l0h ms 0 _ Y;obtain⟨nn,hnn2⟩:∃nn,cf a x.c.id=nn:=⟨_,Y⟩
  have osn:(sv (A8 nn.natAbs)).oneCell'=true:=rfl;have hns:Sz nn:=by rw[<-hnn2];exact La (C4 _ _) A.abs δ
  have hcoef:=UM _ a x.c.id h' (A.up l0h);rw[hnn2]at hcoef;refine Ah (Ab (Ac (Af (As (Qm Y (Qf Cz Y (Ql Y Cb (c0 _ lh _) (Qm Y (Qx (AM (i) (rV _ l0h).any Y Cb A5 Y Y ω ω) Y (Qf Cm Y (Ql Y U3 (e0 _) (Qx (Au Y call71 Y (hcoef _)) Y (BY [.bool false,.es] Y Ay Y Y (λg7=>?_))))))))))))));refine Sa 0 [_,_] Ay Y (by simp[ov,ox,osn]) ?_;refine An (AF λh3 l3 hS7=>?_);have l03:=AD l0h l3;have lh3:=AD lh l3;have g7_:∀h2,h3.le h2->∀ms,Seg h2 ms (⟨g7,0,none⟩:Addr) (Bl nn):=λh2 q ms=>(hS7.le q).any;have rS:∀h2,h.le h2->Rd h2 [] x.v 2 p (x.c.sd.flatMap cD):=λh2 q=>by have:=(Rs.up q).rd;rwa [hp]at this
  obtain⟨P,hP⟩:∃P:Nat->List (Int×(Int×Int)),P=λj=>A4 (o.take i)++(x.c.sd.take j).map λs=>(x.c.id,s):=⟨_,Y⟩
  have hP0:P 0=A4 (o.take i):=by rw[hP];simp
  have hPp:P p=A4 (o.take (i+1)):=by rw[hP];show _++(x.c.sd.take p).map _=_;rw[show x.c.sd.take p=x.c.sd from take_of_length_le ω,am hio,hox,KG]
  rw[<-hP0]at hC;have hpre:∃T,A4 o=P p++T:=⟨A4 (o.drop (i+1)),by rw[hPp];unfold A4;rw[<-dy,dp]⟩
  refine As (Qm Y (An (Af ?_)));refine AC (λq sl h2 ms'=>∃(j:Nat) (w:Value),p-j=q/\sl=[(1,.slice aa a.length ac),(2,.pt g2),(5,w),(6,.w (i:Int)),(7,.pt g7),(8,.w (j:Int))]/\h3.le h2/\ms'=[]/\j<=p/\CanV (cf (LA (P j) a)) (Bk (LA (P j) a)) (P j).length w h2) (p-0) _ ⟨0,_,Y,Y,BD,Y,ω,hC.up l3⟩ Qs ?_;rintro q sl h2 ms' ⟨j,w,rfl,rfl,l2,rfl,hj,hC⟩;have l02:=AD l03 l2;have lh2:=AD lh3 l2;have ow:w.oneCell'=true:=by obtain⟨_,_,q,_⟩:=hC;exact q.rd.rd.one
  have e2:∀ms,Cell h2 ms (((AI v).add (i*3)).add 2) x.v:=λms=>gE _ l02 ms 2 _ Y;refine Ac (As (Qm Y (Qf Cz Y (Ql Y Cb (c0 _ lh2 _) (Qm Y (Qx (AM (i) (rV _ l02).any Y Cb A5 Y Y ω ω) Y (Qf BT Y (Ql Y C0 (e2 _) (Qx (Aq (rS _ l02).any Y C0 Y) Y (Qm Y (An ?_)))))))))));refine Ax Y (λhjp=>?_) (λhjp=>?_)
  ·have hjp':j<p:=ω
   have hjs:j<x.c.sd.length:=ω
   obtain⟨y,hy⟩:∃y,x.c.sd[j]=y:=⟨_,Y⟩
   have hym:y∈x.c.sd:=hy ▸ ap hjs;have hyI:=X.sds x hxm y hym;have gS:∀ms,Seg h2 ms ((AI x.v).add (j*2)) (cD y):=λms=>by rw[<-hy];exact((Rs.up l02).any (ms:=ms)).seg hjs
   have f0:∀ms,Cell h2 ms (((AI x.v).add (j*2)).add 0) (.w y.1):=λms=>gS ms 0 _ Y;have f1:∀ms,Cell h2 ms (((AI x.v).add (j*2)).add 1) (.w y.2):=λms=>gS ms 1 _ Y;have ePs:P (j+1)=P j++[(x.c.id,y)]:=by rw[hP];show _++_=_++_++_;rw[am hjs,hy,cq,di];rfl
   have eB:LA (P (j+1)) a=LA (P j) a++[(y.1,nn*y.2)]:=by rw[ePs,Z6,hnn2]
   obtain⟨T,hT2⟩:=hpre;have hsub:∃T2,A4 o=P (j+1)++T2:=⟨(x.c.sd.drop (j+1)).map (λs=>(x.c.id,s))++T,by rw[hT2,hP];show _++_++T=_++_++(_++T);rw[show x.c.sd.take p=x.c.sd from take_of_length_le ω,di,di,<-di (List.map _ _),<-cq,dp]⟩
   obtain⟨T2,hT3⟩:=hsub;have hle:Bk (LA (P (j+1)) a)<=Bk (LA (A4 o) a):=by rw[hT3];exact Yr _ _ _
   have hlen:(P (j+1)).length<=(A4 o).length:=by rw[hT3,ag];omega
   have hlen1:(P (j+1)).length=(P j).length+1:=by rw[ePs,ag];rfl
   have hbt:Bk (LA (P (j+1)) a)=Bk (LA (P j) a)+(nn*y.2).natAbs:=by rw[eB,BN];rfl
   obtain⟨l',CL,CR,ha',hb'⟩:=hC;have osy:(sv (A8 y.2.natAbs)).oneCell'=true:=rfl;have osm:(sv (A8 (nn*y.2).natAbs)).oneCell'=true:=rfl;refine Ah (Ab (Ac (Af (AU (n:=26) (bs:=[ic,ic,ic,ic,ic,ic,ic,ic,ic,ic,ic,ic,ic,ic,ic,ic,ic,ic,ic,ic,ic,ic,ic,ic,ie,ie]) [ic,ic,ic,ic,ic,ic,ic,ic,ic,ic,ic,ic,ic,ic,ic,ic,ic,ic,ic,ic,ic,ic,ic,ic] CK κ κ Y Y (Qq Y (QF Cz Y (QL Y Cb (c0 _ lh2 _) (Qq Y (Qp Y (AM (i) (rV _ l02).any Y Cb A5 Y Y ω ω) (QF BT Y (QL Y C0 (e2 _) (Qq Y (Qp Y (AM (j) (rS _ l02).any Y C0 BX Y Y ω ω) (QF CQ Y (QL Y U3 (f0 _) (Qp Y (oG Y BC Ay (g7_ _ l2 _)) (QF Cz Y (QL Y Cb (c0 _ lh2 _) (Qq Y (Qp Y (AM (i) (rV _ l02).any Y Cb A5 Y Y ω ω) (QF BT Y (QL Y C0 (e2 _) (Qq Y (Qp Y (AM (j) (rS _ l02).any Y C0 BX Y Y ω ω) (QF Eh Y (QL Y U3 (f1 _) (Qp Y (Au Y call25 Y (Lx y.2 hyI.2 _ _)) (Qp Y (Au Y call26 Y (P8 nn y.2 hns (Od hyI.2) _ _)) ?_))))))))))))))))))))))))))));unfold Do;simp only[bj,aw];refine Qo 24 Y (Az (pre:=[]) Y call62 Y (Vc w l' _ y.1 (nn*y.2) h2 CR CL hyI.1 ω ω) Y Y Y Y (λw2 h4 ms4 l4 hF=>?_));obtain⟨l4',rfl,hC2⟩:=hF;have ow2:w2.oneCell'=true:=by obtain⟨_,_,q,_⟩:=hC2;exact q.rd.rd.one
   refine Qa (Qo 25 Y (Qm Y (Qa (Qe ?_))));have eup:upd (cf (LA (P j) a)) y.1 (nn*y.2)=cf (LA (P (j+1)) a):=by rw[eB];exact Px _ (y.1,nn*y.2)
   rw[eup]at hC2;obtain⟨l5,CL5,CR5,ha5,hb5⟩:=hC2;refine Ai (Ab (Ad (Qm Y (Qx (oA Y) Y (Qm Y (Am ?_))))));exact Ap (p-(j+1)) _ ω ⟨j+1,w2,Y,Y,AD l2 l4',Y,ω,l5,CL5,CR5,ω,ω⟩ Qs
  ·obtain rfl:j=p:=ω
   rw[hPp]at hC;refine AA (Aa (Aa (Ag (Ai (Ab (Ad (Qm Y (Qx (oA Y) Y (Qm Y (Am ?_))))))))));exact Ap (n-(i+1)) _ ω ⟨i+1,w,Y,Y,AD lh3 l2,Y,ω,hC⟩ Qs
 ·obtain rfl:i=n:=ω
  rw[show o.take i=o from take_of_length_le ω]at hC;obtain⟨l',CL,CR,ha',hb'⟩:=hC;have ow:=CR.rd.rd.one;refine AA (Aa (Aa (Ag (Ab (As (Qm Y (Qm Y (An (Aj ?_)))))))));exact Al Y Y (⟨l0h,Y,l',CL.congr hcfA,CR,ω,hb'⟩)
theorem Abw(a b:List Tm)(va vb:Value)(h:Hp)(hA:RdL DK 3 h [] va a)(hB:RdL DK 3 h [] vb b)(ms:List Hp):FnV Tryz.prog 20 #[va,vb] h ms (.bool (decide (a=b))):=by
 refine Ea ?_ ms;have la:=hA.len_le;have lb:=hB.len_le;have oa:=hA.rd.one;have ob:=hB.rd.one;refine Ao func20 ntmps20 Y Y (λw0 hw0=>?_);simp only[AS];refine As (Qm Y (An (Ac (As (Qm Y (Qx (Aq hA.rd.any Y CV Y) Y (Qm Y (Qx (Aq hB.rd.any Y CV Y) Y (Qm Y (An ?_))))))))));refine Ax Y (λhne=>?_) (λhne=>?_)
 ·refine Ac (Ad (Qm Y (An (Aj (Ae ?_)))));exact Al Y Y (by rw[b7];intro e;rw[e]at hne;exact hne Y)
 ·have hl:a.length=b.length:=ω
  refine Ah (Ab (Ac (As (Qm Y (An (Af ?_))))))
  refine AC (λq s h' ms'=>∃(k:Nat),q=a.length-k/\s=[(0,va),(1,vb),(5,.w k)]/\h=h'/\ms'=[]/\k<=a.length/\a.take k=b.take k)
   (a.length-0) _ ⟨0,rfl,rfl,rfl,rfl,ω,rfl⟩ Qs ?_
  rintro q s h' ms' ⟨k,rfl,rfl,rfl,rfl,hk,he⟩;refine Ac (As (Qm Y (Qm Y (Qx (Aq hA.rd.any Y CV Y) Y (Qm Y (An ?_))))));refine Ax Y (λhlt=>?_) (λhlt=>?_)
  ·have hka:k<a.length:=ω
   have hkb:k<b.length:=ω
   have ca:∀ms,Seg h ms ((AI va).add (k*3)) (DK a[k]):=λms=>(hA.any (ms:=ms)).seg hka;have cb:∀ms,Seg h ms ((AI vb).add (k*3)) (DK b[k]):=λms=>(hB.any (ms:=ms)).seg hkb;refine Ah (Ab (Ac (Af (Ac (BP 8 CK κ Y (Wm Y (Wm Y (BQ (BR (k) hA.rd.any Y CV Cx Y Y) Y Y (BQ (oG Y U79 Cx (ca _)) Y Y (Wm Y (Wm Y (BQ (BR (k) hB.rd.any Y CV Cx Y Y) Y Y (BQ (oG Y U79 Cx (cb _)) Y Y (BB (Qx (Yo a[k] b[k] Y Y Y) Y (An ?_))))))))))))))));refine Ax Y (λhne=>?_) (λhne=>?_)
   ·refine Ac (Ad (Qm Y (An (Aj (Ak (Ae (Ae (Ak (Ae ?_)))))))));exact Al Y Y (by rw[b7];rintro rfl;exact hne Y)
   ·refine Ah (Ai (Ab (Ad (Qm Y (Qx (oA Y) Y (Qm Y (Am ?_)))))));refine Ap (a.length-(k+1)) _ ω ⟨k+1,Y,Y,Y,Y,ω,?_⟩ Qs;rw[List.take_add_one,List.take_add_one,he,ah hka,ah hkb,Decidable.not_not.1 hne]
  ·obtain rfl:k=a.length:=ω
   refine AA (Aa (Aa (Ag (Ab (As (Qm Y (An (Aj ?_))))))));exact Al Y Y (by rw[fo,hl,fo]at he;rw[bm he])
theorem N0(va vb:Value)(a b:List Tm)(h:Hp)(A:ChR va h a)(B:ChR vb h b)(ms:List Hp):FnV Tryz.prog 54 #[va,vb] h ms (.bool (eqC a b)):=by
 refine Ea ?_ ms;obtain⟨aa,ac,rfl,_⟩:=A.rd.rd.ex;obtain⟨ba,bc,rfl,_⟩:=B.rd.rd.ex;refine Ao func54 ntmps54 Y Y (λw0 hw0=>?_);simp only[AS];refine As (Qm Y (Bw (Qm Y (Qc call21 Y (J6 _ a h A) (λx h1 ms1 l1 hF=>?_)))));obtain⟨l1',rfl,l,CL,CR,_,_⟩:=hF;refine Qm Y (Qc call21 Y (J6 _ b h1 (B.up l1')) (λy h2 ms2 l2 hF=>?_));obtain⟨l2',rfl,r,CL2,CR2,_,_⟩:=hF;have ox:=CR.rd.rd.one;have oy:=CR2.rd.rd.one;refine Qx (Au Y call20 Y (Abw l r x y h2 (CR.rd.up l2') CR2.rd _)) Y (Qm Y (An (Aj ?_)));have e:l=r<->∀c,cf a c=cf b c:=⟨λe c=>by rw[<-CL.cf_eq,<-CL2.cf_eq,e],λe=>CL.ext CL2 e⟩
 have e2:decide (l=r)=eqC a b:=by rw[Bool.eq_iff_iff,PJ,fp];exact e
 exact Al Y Y (ao Value.bool e2)
theorem Aa4(va vb:Value)(a l:List Tm)(h:Hp)(A:ChR va h a)(B:ChR vb h l)(hAB:Bk a*Bk l<2^2000000)(ms:List Hp):FnV Tryz.prog 58 #[va,vb] h ms (WD (lin (cf a) l)):=by
 refine Ea ?_ ms;obtain⟨n,hn⟩:∃n,l.length=n:=⟨_,Y⟩
 have hnb:n<=100000:=hn ▸ B.len;have rL:Rd h [] vb 3 n (l.flatMap DK):=by have:=B.rd.rd;rwa [hn]at this
 have oa:=A.rd.rd.one;have ov:=rL.one;have hsz:∀k,Sz (lin (cf a) (l.take k)):=λk=>La (bp (LN (C4 a) _) (Nat.mul_le_mul_left _ (F6 l k))) hAB δ;refine Ao func58 ntmps58 Y Y (λw0 hw0=>?_);simp only[AS];refine As (BY [.bool false,.es] Y Ay Y Y (λg4=>Bw (BY [.bool false,.es] Y Ay Y Y (λg5=>An (Ac (As (Qm Y (An (Af ?_)))))))));refine AC (λq sl h' ms'=>∃(k:Nat),n-k=q/\sl=[(0,va),(1,vb),(4,.pt g4),(5,.pt g5),(6,.w (k:Int))]/\h=h'/\ms'=[BL g5 33 (Bl (lin (cf a) (l.take k))),BL g4 33 (Bl 0)]/\k<=n) (n-0) _ ⟨0,Y,Y,Y,Y,ω⟩ Qs ?_;rintro q sl h' ms' ⟨k,rfl,rfl,rfl,rfl,hk⟩;obtain⟨y,hy⟩:∃y,lin (cf a) (l.take k)=y:=⟨_,Y⟩
 have hys:Sz y:=hy ▸ hsz k;have osy:(sv (A8 y.natAbs)).oneCell'=true:=rfl;rw[hy];refine Ac (As (Qm Y (Qm Y (Qx (Aq rL.any Y CV Y) Y (Qm Y (An ?_))))));refine Ax Y (λhlt=>?_) (λhlt=>?_)
 ·have hkn:k<n:=ω
  have hkl:k<l.length:=ω
  obtain⟨t,ht⟩:∃t,l[k]=t:=⟨_,Y⟩
  have htm:t∈l:=ht ▸ ap hkl;have gE:∀ms,Seg h ms ((AI vb).add (k*3)) (DK t):=λms=>by rw[<-ht];exact(B.rd.any (ms:=ms)).seg hkl
  obtain⟨x,hx⟩:∃x,cf a t.1=x:=⟨_,Y⟩
  have hxs:Sz x:=by rw[<-hx];exact La (C4 _ _) A.abs δ
  have etk:lin (cf a) (l.take (k+1))=y+x*t.2:=by rw[am hkl,ht,Fe,hy];show _+(cf a t.1*t.2+0)=_;rw[hx];omega
  have hps:Sz (x*t.2):=La (n:=Bk a*Bk l) (by rw[Int.natAbs_mul,<-hx];exact ff (C4 a _) (Hq htm)) hAB δ;have hcoef:=UM va a t.1 h A;rw[hx]at hcoef;have osx:(sv (A8 x.natAbs)).oneCell'=true:=rfl;have ost:(sv (A8 t.2.natAbs)).oneCell'=true:=rfl;have osm:(sv (A8 (x*t.2).natAbs)).oneCell'=true:=rfl;have osr:(sv (A8 (y+x*t.2).natAbs)).oneCell'=true:=rfl;refine Ah (Ab (Ac (Af (AU (n:=16) (bs:=[ie,ic,ic,ic,ic,ic,ic,ic,ic,ic,ic,ic,ic,ic,ie,ie]) [ie,ic,ic,ic,ic,ic,ic,ic,ic,ic,ic,ic,ic,ic] CK κ κ Y Y (Qq Y (Qq Y (Qq Y (Qp Y (BR (k) rL.any Y CV Cx Y Y) (QF Gg Y (QL Y U3 (F5 (gE _)) (Qp Y (Au Y call71 Y (hcoef _)) (Qq Y (Qq Y (Qp Y (BR (k) rL.any Y CV Cx Y Y) (QF GR Y (Qp Y (oG Y BC Ay (FY (gE _))) (Qp Y (Au Y call26 Y (P8 x t.2 hxs (B.sz htm) _ _)) ?_)))))))))))))))));unfold Do;simp only[bj,aw];refine Qo 0 Y (Qx (oG Y BC Ay (Seg.blk 0 Y)) Y (Qw (Qo 14 Y (Qx (Au Y call22 Y (Kx y (x*t.2) hys hps _ _)) Y (Qw (Qo 15 Y ?_))))));refine Sa 0 [_,_] Ay Y (by simp[oa,ov,osy,osx,ost,osm,osr]) ?_;refine Qw (Qe (Ai (Ab (Ad (Qm Y (Qx (oA Y) Y (Qm Y (Am ?_))))))));exact Ap (n-(k+1)) _ ω ⟨k+1,Y,Y,Y,by rw[etk];rfl,ω⟩ Qs
 ·obtain rfl:k=n:=ω
  rw[show l.take k=l from take_of_length_le ω]at hy;refine AA (Aa (Aa (Ag (Ab (As (Qx (oG Y BC Ay (Seg.blk 0 Y)) Y ?_))))));refine Sa 1 [_,_] Ay Y (by simp[oa,ov,Cn,osy]) ?_;refine An (Aj (AR ?_));exact Bx (vs:=[_,_]) 0 Y Y BC Y Ay Y Y ((by rw[hy];rfl))
def LD(S:List (Int×(Int×Int)))(a:List Tm):List Tm:=S.map λp=>(p.1,cf a p.2.1*p.2.2)
theorem Yz(S:List (Int×(Int×Int)))(a:List Tm)(p:Int×(Int×Int)):LD (S++[p]) a=LD S a++[(p.1,cf a p.2.1*p.2.2)]:=by unfold LD;rw[cq];rfl
theorem AaK(S:List (Int×(Int×Int)))(a:List Tm):(∀c,cf (LD S a) c=cf (Gj S a) c)/\Bk (LD S a)=Bk (Gj S a):=by
 induction S with
 | nil=>exact⟨λc=>rfl,Y⟩
 | cons p S ih=>
  have e:Gj (p::S) a=(if cf a p.2.1≠0 then [((p.1,cf a p.2.1*p.2.2):Tm)] else [])++Gj S a:=by unfold Gj;by_cases h:cf a p.2.1=0<;>simp[h]
  rw[e];show(∀c,cf ((p.1,cf a p.2.1*p.2.2)::LD S a) c=_)/\Bk ((p.1,cf a p.2.1*p.2.2)::LD S a)=_;by_cases h:cf a p.2.1=0
  ·rw[ab (λq=>q h),aw];refine⟨λc=>?_,?_⟩
   ·rw[B6,ih.1,h];simp
   ·rw[Dy,ih.2,h];simp
  ·rw[af h];refine⟨λc=>?_,?_⟩
   ·rw[List.singleton_append,B6,B6,ih.1]
   ·rw[List.singleton_append,Dy,Dy,ih.2]
theorem YV(S:List (Int×(Int×Int)))(T:List (Int×(Int×Int)))(a:List Tm):Bk (LD S a)<=Bk (LD (S++T) a):=by unfold LD;rw[cq,BN];omega
theorem Adn(v va:Value)(l:List Ce)(a:List Tm)(h:Hp)(X:CxS v h l)(A:ChR va h a)(hB:Bk (Gj (A4 (l.map Ce.c)) a)<2^2000000)(hT:(A4 (l.map Ce.c)).length<100000) :
  FnT Tryz.prog 56 #[.agg #[v],va] h [] (λr h' ms'=>h.le h'/\ms'=[]/\CanV (cf (Gj (A4 (l.map Ce.c)) a)) (Bk (Gj (A4 (l.map Ce.c)) a)) (A4 (l.map Ce.c)).length r h'):=by
 have ov:=X.rd.q.rd.one;obtain⟨aa,ac,rfl,_⟩:=A.rd.rd.ex;obtain⟨o,ho⟩:∃o,l.map Ce.c=o:=⟨_,Y⟩
 rw[ho]at hB hT ⊢;obtain⟨hcfA,hablA⟩:=AaK (A4 o) a;obtain⟨n,hnn⟩:∃n,l.length=n:=⟨_,Y⟩
 have hon:o.length=n:=by rw[<-ho,bf,hnn]
 have hnb:n<=1000:=hnn ▸ X.len;have rV:∀h',h.le h'->Rd h' [] v 3 n (l.flatMap cC):=λh' q=>by have:=(X.rd.q.up q).rd;rwa [hnn]at this
 refine Ao func56 ntmps56 Y Y (λw0 hw0=>?_);simp only[AS];refine As (AK [_] Y Y (by rfl) Y Y Y (λg2=>Qm Y (An (AF λh1 l1 hS2=>?_))));have c0:∀h',h1.le h'->∀ms,Cell h' ms ((⟨g2,0,none⟩:Addr).add 0) v:=λh' q ms=>((hS2 0 _ Y).any).le q;refine As (Qm Y (An (Ac (As (Qm Y (An (Af ?_)))))));refine AC (λq sl h' ms'=>∃(i:Nat) (w:Value),n-i=q/\sl=[(1,.slice aa a.length ac),(2,.pt g2),(5,w),(6,.w (i:Int))]/\h1.le h'/\ms'=[]/\i<=n/\CanV (cf (LD (A4 (o.take i)) a)) (Bk (LD (A4 (o.take i)) a)) (A4 (o.take i)).length w h') (n-0) _ ⟨0,_,Y,Y,BD,Y,ω,[],Kb,El _,Nat.zero_le _,Nat.zero_le _⟩ Qs ?_;rintro q sl h' ms' ⟨i,w,rfl,rfl,lh,rfl,hi,hC⟩;have l0h:=AD l1 lh;refine Ac (As (Qm Y (Qf Cz Y (Ql Y Cb (c0 _ lh _) (Qx (Aq (rV _ l0h).any Y Cb Y) Y (Qm Y (An ?_)))))));refine Ax Y (λhlt=>?_) (λhlt=>?_)
 ·have hin:i<n:=ω
  have hil:i<l.length:=ω
  have hio:i<o.length:=ω
  obtain⟨x,hx⟩:∃x,l[i]=x:=⟨_,Y⟩
  have hox:o[i]=x.c:=by subst ho;rw[gy,hx]
  have hxm:x∈l:=hx ▸ ap hil;have Rs:=X.rd.s x hxm;have ox:=Rs.rd.one;obtain⟨p,hp⟩:∃p,x.c.sd.length=p:=⟨_,Y⟩
  have hpn:p<=1000:=hp ▸ X.sdn x hxm;have gE:∀h2,h.le h2->∀ms,Seg h2 ms ((AI v).add (i*3)) (cC x):=λh2 q ms=>by rw[<-hx];exact((X.rd.q.up q).any (ms:=ms)).seg hil
  have rS:∀h2,h.le h2->Rd h2 [] x.v 2 p (x.c.sd.flatMap cD):=λh2 q=>by have:=(Rs.up q).rd;rwa [hp]at this
  obtain⟨P,hP⟩:∃P:Nat->List (Int×(Int×Int)),P=λj=>A4 (o.take i)++(x.c.sd.take j).map λs=>(x.c.id,s):=⟨_,Y⟩
  have hP0:P 0=A4 (o.take i):=by rw[hP];simp
  have hPp:P p=A4 (o.take (i+1)):=by rw[hP];show _++(x.c.sd.take p).map _=_;rw[show x.c.sd.take p=x.c.sd from take_of_length_le ω,am hio,hox,KG]
  rw[<-hP0]at hC;have hpre:∃T,A4 o=P p++T:=⟨A4 (o.drop (i+1)),by rw[hPp];unfold A4;rw[<-dy,dp]⟩
  refine Ah (Ab (Ac (Af (As (Qm Y (An (Af ?_)))))));refine AC (λq sl h2 ms'=>∃(j:Nat) (w:Value),p-j=q/\sl=[(1,.slice aa a.length ac),(2,.pt g2),(5,w),(6,.w (i:Int)),(7,.w (j:Int))]/\h'.le h2/\ms'=[]/\j<=p/\CanV (cf (LD (P j) a)) (Bk (LD (P j) a)) (P j).length w h2) (p-0) _ ⟨0,_,Y,Y,BD,Y,ω,hC⟩ Qs ?_;rintro q sl h2 ms' ⟨j,w,rfl,rfl,l2,rfl,hj,hC⟩;have l02:=AD l0h l2;have lh2:=AD lh l2;have ow:w.oneCell'=true:=by obtain⟨_,_,q,_⟩:=hC;exact q.rd.rd.one
  have e2:∀h3,h2.le h3->∀ms,Cell h3 ms (((AI v).add (i*3)).add 2) x.v:=λh3 q ms=>gE _ (AD l02 q) ms 2 _ Y;refine Ac (As (Qm Y (Qf Cz Y (Ql Y Cb (c0 _ lh2 _) (Qm Y (Qx (AM (i) (rV _ l02).any Y Cb A5 Y Y ω ω) Y (Qf BT Y (Ql Y C0 (e2 _ (BD) _) (Qx (Aq (rS _ l02).any Y C0 Y) Y (Qm Y (An ?_)))))))))));refine Ax Y (λhjp=>?_) (λhjp=>?_)
  ·have hjp':j<p:=ω
   have hjs:j<x.c.sd.length:=ω
   obtain⟨y,hy⟩:∃y,x.c.sd[j]=y:=⟨_,Y⟩
   have hym:y∈x.c.sd:=hy ▸ ap hjs;have hyI:=X.sds x hxm y hym;have gS:∀h3,h2.le h3->∀ms,Seg h3 ms ((AI x.v).add (j*2)) (cD y):=λh3 q ms=>by rw[<-hy];exact((Rs.up (AD l02 q)).any (ms:=ms)).seg hjs
   have e0:∀h3,h2.le h3->∀ms,Cell h3 ms (((AI v).add (i*3)).add 0) (.w x.c.id):=λh3 q ms=>gE _ (AD l02 q) ms 0 _ Y;have f0:∀h3,h2.le h3->∀ms,Cell h3 ms (((AI x.v).add (j*2)).add 0) (.w y.1):=λh3 q ms=>gS h3 q ms 0 _ Y;have f1:∀h3,h2.le h3->∀ms,Cell h3 ms (((AI x.v).add (j*2)).add 1) (.w y.2):=λh3 q ms=>gS h3 q ms 1 _ Y;obtain⟨nn,hnn2⟩:∃nn,cf a y.1=nn:=⟨_,Y⟩
   have osn:(sv (A8 nn.natAbs)).oneCell'=true:=rfl;have hns:Sz nn:=by rw[<-hnn2];exact La (C4 _ _) A.abs δ
   have hcoef:=UM _ a y.1 h2 (A.up l02);rw[hnn2]at hcoef;have ePs:P (j+1)=P j++[(x.c.id,y)]:=by rw[hP];show _++_=_++_++_;rw[am hjs,hy,cq,di];rfl
   have eB:LD (P (j+1)) a=LD (P j) a++[(x.c.id,nn*y.2)]:=by rw[ePs,Yz,hnn2]
   obtain⟨T,hT2⟩:=hpre;have hsub:∃T2,A4 o=P (j+1)++T2:=⟨(x.c.sd.drop (j+1)).map (λs=>(x.c.id,s))++T,by rw[hT2,hP];show _++_++T=_++_++(_++T);rw[show x.c.sd.take p=x.c.sd from take_of_length_le ω,di,di,<-di (List.map _ _),<-cq,dp]⟩
   obtain⟨T2,hT3⟩:=hsub;have hle:Bk (LD (P (j+1)) a)<=Bk (LD (A4 o) a):=by rw[hT3];exact YV _ _ _
   have hlen:(P (j+1)).length<=(A4 o).length:=by rw[hT3,ag];omega
   have hlen1:(P (j+1)).length=(P j).length+1:=by rw[ePs,ag];rfl
   have hbt:Bk (LD (P (j+1)) a)=Bk (LD (P j) a)+(nn*y.2).natAbs:=by rw[eB,BN];rfl
   have hxI:=X.ids x hxm;refine Ah (Ab (Ac (Af (As (Qm Y (Qf Cz Y (Ql Y Cb (c0 _ lh2 _) (Qm Y (Qx (AM (i) (rV _ l02).any Y Cb A5 Y Y ω ω) Y (Qf BT Y (Ql Y C0 (e2 _ (BD) _) (Qm Y (Qx (AM (j) (rS _ l02).any Y C0 BX Y Y ω ω) Y (Qf CQ Y (Ql Y U3 (f0 _ (BD) _) (Qx (Au Y call71 Y (hcoef _)) Y (BY [.bool false,.es] Y Ay Y Y (λg8=>?_))))))))))))))))));refine Sa 0 [_,_] Ay Y (by simp[ov,ox,osn,ow]) ?_;refine An (AF λh3 l3 hS8=>?_);have l03:=AD l02 l3;have lh3:=AD lh2 l3;have g8_:∀ms,Seg h3 ms (⟨g8,0,none⟩:Addr) (Bl nn):=λms=>hS8.any;have hC3:=hC.up l3;obtain⟨l',CL,CR,ha',hb'⟩:=hC3;have osy:(sv (A8 y.2.natAbs)).oneCell'=true:=rfl;have osm:(sv (A8 (nn*y.2).natAbs)).oneCell'=true:=rfl;refine AU (n:=22) (bs:=[ic,ic,ic,ic,ic,ic,ic,ic,ic,ic,ic,ic,ic,ic,ic,ic,ic,ic,ic,ic,ie,ie]) [ic,ic,ic,ic,ic,ic,ic,ic,ic,ic,ic,ic,ic,ic,ic,ic,ic,ic,ic,ic] CK κ κ Y Y (Qq Y (QF Cz Y (QL Y Cb (c0 _ lh3 _) (Qq Y (Qp Y (AM (i) (rV _ l03).any Y Cb A5 Y Y ω ω) (QF Cm Y (QL Y U3 (e0 _ l3 _) (Qp Y (oG Y BC Ay (g8_ _)) (QF Cz Y (QL Y Cb (c0 _ lh3 _) (Qq Y (Qp Y (AM (i) (rV _ l03).any Y Cb A5 Y Y ω ω) (QF BT Y (QL Y C0 (e2 _ l3 _) (Qq Y (Qp Y (AM (j) (rS _ l03).any Y C0 BX Y Y ω ω) (QF Eh Y (QL Y U3 (f1 _ l3 _) (Qp Y (Au Y call25 Y (Lx y.2 hyI.2 _ _)) (Qp Y (Au Y call26 Y (P8 nn y.2 hns (Od hyI.2) _ _)) ?_))))))))))))))))))));unfold Do;simp only[bj,aw];refine Qo 20 Y (Az (pre:=[]) Y call62 Y (Vc w l' _ x.c.id (nn*y.2) h3 CR CL hxI ω ω) Y Y Y Y (λw2 h4 ms4 l4 hF=>?_));obtain⟨l4',rfl,hC2⟩:=hF;have ow2:w2.oneCell'=true:=by obtain⟨_,_,q,_⟩:=hC2;exact q.rd.rd.one
   refine Qa (Qo 21 Y (Qm Y (Qa (Qe ?_))));have eup:upd (cf (LD (P j) a)) x.c.id (nn*y.2)=cf (LD (P (j+1)) a):=by rw[eB];exact Px _ (x.c.id,nn*y.2)
   rw[eup]at hC2;obtain⟨l5,CL5,CR5,ha5,hb5⟩:=hC2;refine Ai (Ab (Ad (Qm Y (Qx (oA Y) Y (Qm Y (Am ?_))))));exact Ap (p-(j+1)) _ ω ⟨j+1,w2,Y,Y,AD l2 (AD l3 l4'),Y,ω,l5,CL5,CR5,ω,ω⟩ Qs
  ·obtain rfl:j=p:=ω
   rw[hPp]at hC;refine AA (Aa (Aa (Ag (Ai (Ab (Ad (Qm Y (Qx (oA Y) Y (Qm Y (Am ?_))))))))));exact Ap (n-(i+1)) _ ω ⟨i+1,w,Y,Y,AD lh l2,Y,ω,hC⟩ Qs
 ·obtain rfl:i=n:=ω
  rw[show o.take i=o from take_of_length_le ω]at hC;obtain⟨l',CL,CR,ha',hb'⟩:=hC;have ow:=CR.rd.rd.one;refine AA (Aa (Aa (Ag (Ab (As (Qm Y (Qm Y (An (Aj ?_)))))))));exact Al Y Y (⟨l0h,Y,l',CL.congr hcfA,CR,ω,hb'⟩)
theorem BE{P:Program}{o:Oper}{s:AE}{h:Hp}{ms:List Hp}{v w:Value}(hx:OX P o s h ms v)(e:v=w):OX P o s h ms w:=e ▸ hx
theorem AaQ(o:List Cl)(x:Cl)(d c:Int):IY (o++[x]) d c=(IY o d c||(decide (x.id=c)&&decide (x.dim=d))):=by unfold IY;rw[List.any_append];simp
theorem VM(v va:Value)(l:List Ce)(d:Int)(a:List Tm)(h:Hp)(X:CxS v h l)(A:ChR va h a)(ms:List Hp):FnV Tryz.prog 53 #[.agg #[v],.int .i64 d,va] h ms (.bool (E0 (l.map Ce.c) d a)):=by
 refine Ea ?_ ms;have ov:=X.rd.q.rd.one;obtain⟨aa,ac,rfl,_⟩:=A.rd.rd.ex;obtain⟨o,ho⟩:∃o,l.map Ce.c=o:=⟨_,Y⟩
 rw[ho];obtain⟨n,hnn⟩:∃n,l.length=n:=⟨_,Y⟩
 have hon:o.length=n:=by rw[<-ho,bf,hnn]
 have hnb:n<=1000:=hnn ▸ X.len;have rV:∀h',h.le h'->Rd h' [] v 3 n (l.flatMap cC):=λh' q=>by have:=(X.rd.q.up q).rd;rwa [hnn]at this
 refine Ao func53 ntmps53 Y Y (λw0 hw0=>?_);simp only[AS];refine As (AK [_] Y Y (by rfl) Y Y Y (λg3=>Qm Y (An (AF λh1 l1 hS3=>?_))));have c0:∀h',h1.le h'->∀ms,Cell h' ms ((⟨g3,0,none⟩:Addr).add 0) v:=λh' q ms=>((hS3 0 _ Y).any).le q;refine As (Qm Y (Qc call21 Y (J6 _ a h1 (A.up l1)) (λw h2 ms2 l2 hF=>?_)));obtain⟨l2',rfl,lc,CL,CR,hab,hln⟩:=hF;have l02:=AD l1 l2';have ow:=CR.rd.rd.one;obtain⟨m,hm⟩:∃m,lc.length=m:=⟨_,Y⟩
 have hmb:m<=100000:=hm ▸ CR.len;have rW:∀ms,Rd h2 ms w 3 m (lc.flatMap DK):=λms=>by have:=CR.rd.rd.any (ms:=ms);rwa [hm]at this
 refine Qm Y (An (Ac (As (Qm Y (An (Af ?_))))));refine AC (λq sl h' ms'=>∃(k:Nat),m-k=q/\sl=[(1,.w d),(3,.pt g3),(7,w),(8,.w (k:Int))]/\h2=h'/\ms'=[]/\k<=m/\(∀j (hj:j<lc.length),j<k->IY o d lc[j].1=true)) (m-0) _ ⟨0,Y,Y,Y,Y,ω,λj _ h=>ω⟩ Qs ?_;rintro q sl h' ms' ⟨k,rfl,rfl,rfl,rfl,hk,hall⟩;refine Ac (As (Qm Y (Qm Y (Qx (Aq (rW _) Y CV Y) Y (Qm Y (An ?_))))));refine Ax Y (λhlt=>?_) (λhlt=>?_)
 ·have hkm:k<m:=ω
  have hkl:k<lc.length:=ω
  obtain⟨t,ht⟩:∃t,lc[k]=t:=⟨_,Y⟩
  have gT:∀ms,Seg h2 ms ((AI w).add (k*3)) (DK t):=λms=>by rw[<-ht];exact(CR.rd.any (ms:=ms)).seg hkl
  have t0_:∀ms,Cell h2 ms (((AI w).add (k*3)).add 0) (.w t.1):=λms=>F5 (gT ms);refine Ah (Ab (Ac (Af (As (Qm Y (An (Ac (As (Qm Y (An (Af ?_)))))))))));refine AC (λq sl h' ms'=>∃(j:Nat),n-j=q/\sl=[(1,.w d),(3,.pt g3),(7,w),(8,.w (k:Int)),(9,.bool (IY (o.take j) d t.1)),(10,.w (j:Int))]/\h2=h'/\ms'=[]/\j<=n) (n-0) _ ⟨0,Y,Y,Y,Y,ω⟩ Qs ?_;rintro q sl h' ms' ⟨j,rfl,rfl,rfl,rfl,hj⟩;refine Ac (As (Qm Y (Qf Cz Y (Ql Y Cb (c0 _ l2' _) (Qx (Aq (rV _ l02).any Y Cb Y) Y (Qm Y (An ?_)))))));refine Ax Y (λhjn=>?_) (λhjn=>?_)
  ·have hjn':j<n:=ω
   have hjl:j<l.length:=ω
   have hjo:j<o.length:=ω
   obtain⟨x,hx⟩:∃x,l[j]=x:=⟨_,Y⟩
   have hox:o[j]=x.c:=by subst ho;rw[gy,hx]
   have gE:∀ms,Seg h2 ms ((AI v).add (j*3)) (cC x):=λms=>by rw[<-hx];exact((X.rd.q.up l02).any (ms:=ms)).seg hjl
   have e0:∀ms,Cell h2 ms (((AI v).add (j*3)).add 0) (.w x.c.id):=λms=>gE ms 0 _ Y;have e1:∀ms,Cell h2 ms (((AI v).add (j*3)).add 1) (.w x.c.dim):=λms=>gE ms 1 _ Y;have etk:IY (o.take (j+1)) d t.1=(IY (o.take j) d t.1||(decide (x.c.id=t.1)&&decide (x.c.dim=d))):=by rw[am hjo,hox,AaQ]
   refine Ah (Ab (Ac (Af ?_)));refine Bt (λsl h' ms'=>sl=[(1,.w d),(3,.pt g3),(7,w),(8,.w (k:Int)),(9,.bool (IY (o.take j) d t.1)),(10,.w (j:Int)),(47,.bool (decide (x.c.id=t.1)&&decide (x.c.dim=d)))]/\h2=h'/\ms'=[]) ?_ (λs h ms hI=>?_)
   ·by_cases hid:x.c.id=t.1
    ·refine AU (n:=22) (bs:=[ic,ic,ic,ic,ic,ic,ic,ic,ic,ic,ic,ic,ie,ie,ie,ie,ie,ie,ie,ie,ie,ie]) [ic,ic,ic,ic,ic,ic,ic,ic,ic,ic,ic,ic] CK κ κ Y Y (QF Cz Y (QL Y Cb (c0 _ l2' _) (Qq Y (Qp Y (AM (j) (rV _ l02).any Y Cb A5 Y Y ω ω) (QF Cm Y (QL Y U3 (e0 _) (Qq Y (Qq Y (Qp Y (AM (k) (rW _) Y CV Cx Y Y ω ω) (QF Gg Y (QL Y U3 (t0_ _) (Qp Y (BE (Ca Y Y Y) (ao Value.bool (bm hid))) ?_))))))))))));unfold Do;simp only[bj,aw];refine Qo 12 Y (Qm Y (Qw (BH 13 39 κ Y Y Y Y Y (BD) Y (oF Cz Y) (BH 14 40 κ Y Y Y Y Y (BD) Y (oL Y Cb (c0 _ l2' _)) (BH 15 41 κ Y Y Y Y Y (BD) Y (Ar Y Y) (BH 16 42 κ Y Y Y Y Y (BD) Y (AM (j) (rV _ l02).any Y Cb A5 Y Y ω ω) (BH 17 43 κ Y Y Y Y Y (BD) Y (oF B7 Y) (BH 18 44 κ Y Y Y Y Y (BD) Y (oL Y U3 (e1 _)) (BH 19 45 κ Y Y Y Y Y (BD) Y (Ar Y Y) (BH 20 46 κ Y Y Y Y Y (BD) Y (Ca Y Y Y) (Qo 21 Y (Qm Y (Qw (Qe ?_))))))))))))));exact AH _ ⟨by rw[bm hid,Bool.true_and],rfl,rfl⟩ Qs
    ·refine AU (n:=22) (bs:=[ic,ic,ic,ic,ic,ic,ic,ic,ic,ic,ic,ic,ie,ie,ie,ie,ie,ie,ie,ie,ie,ie]) [ic,ic,ic,ic,ic,ic,ic,ic,ic,ic,ic,ic] CK κ κ Y Y (QF Cz Y (QL Y Cb (c0 _ l2' _) (Qq Y (Qp Y (AM (j) (rV _ l02).any Y Cb A5 Y Y ω ω) (QF Cm Y (QL Y U3 (e0 _) (Qq Y (Qq Y (Qp Y (AM (k) (rW _) Y CV Cx Y Y ω ω) (QF Gg Y (QL Y U3 (t0_ _) (Qp Y (BE (Ca Y Y Y) (ao Value.bool (b7 hid))) ?_))))))))))));unfold Do;simp only[bj,aw];refine Qo 12 Y (Qm Y (Qw (AV [13,15,19] κ Y ?_)));refine Av Y ?_ ?_;refine Qk Y (Qw (AV [14,15,19] κ Y ?_));refine Av Y ?_ ?_;refine Qk Y (Qw (AV [15,19] κ Y ?_));refine Av Y ?_ ?_;refine Qk Y (Qw (AV [16,19] κ Y ?_));refine Av Y ?_ ?_;refine Qk Y (Qw (AV [17,19] κ Y ?_));refine Av Y ?_ ?_;refine Qk Y (Qw (AV [18,19] κ Y ?_));refine Av Y ?_ ?_;refine Qk Y (Qw (Qo 19 Y (Qk Y (Qw ?_))))
     rotate_left
     refine Av Y ?_ ?_;refine Qk Y (Qw (Qo 18 Y (Qk Y (Qw ?_))))
     rotate_left
     exact AW;refine Av Y ?_ ?_;refine Qk Y (Qw (Qo 17 Y (Qk Y (Qw (Qo 18 Y (Qk Y (Qw ?_)))))))
     rotate_left
     exact AW;refine Av Y ?_ ?_;refine Qk Y (Qw (Qo 16 Y (Qk Y (Qw (Qo 17 Y (Qk Y (Qw (Qo 18 Y (Qk Y (Qw ?_))))))))))
     rotate_left
     exact AW;refine Av Y ?_ ?_;refine Qk Y (Qw (Qo 15 Y (Qk Y (Qw (Qo 16 Y (Qk Y (Qw (Qo 17 Y (Qk Y (Qw (Qo 18 Y (Qk Y (Qw ?_)))))))))))))
     rotate_left
     exact AW;refine Av Y ?_ ?_;refine Qk Y (Qw (AV [14,19] κ Y ?_));refine Av Y ?_ ?_;refine Qk Y (Qw (AV [16,19] κ Y ?_));refine Av Y ?_ ?_;refine Qk Y (Qw (AV [17,19] κ Y ?_));refine Av Y ?_ ?_;refine Qk Y (Qw (AV [18,19] κ Y ?_));refine Av Y ?_ ?_;refine Qk Y (Qw (Qo 19 Y (Qk Y (Qw ?_))))
     rotate_left
     refine Av Y ?_ ?_;refine Qk Y (Qw (Qo 18 Y (Qk Y (Qw ?_))))
     rotate_left
     exact AW;refine Av Y ?_ ?_;refine Qk Y (Qw (Qo 17 Y (Qk Y (Qw (Qo 18 Y (Qk Y (Qw ?_)))))))
     rotate_left
     exact AW;refine Av Y ?_ ?_;refine Qk Y (Qw (Qo 16 Y (Qk Y (Qw (Qo 17 Y (Qk Y (Qw (Qo 18 Y (Qk Y (Qw ?_))))))))))
     rotate_left
     exact AW;refine Av Y ?_ ?_;refine Qk Y (Qw (Qo 14 Y (Qk Y (Qw (Qo 16 Y (Qk Y (Qw (Qo 17 Y (Qk Y (Qw (Qo 18 Y (Qk Y (Qw ?_)))))))))))))
     rotate_left
     exact AW;refine Av Y ?_ ?_;refine Qk Y (Qw (AV [14,15] κ Y ?_));refine Av Y ?_ ?_;refine Qk Y (Qw (Qo 15 Y (Qk Y (Qw (Qo 16 Y (Qk Y (Qw (Qo 17 Y (Qk Y (Qw (Qo 18 Y (Qk Y (Qw ?_)))))))))))))
     rotate_left
     refine Av Y ?_ ?_;refine Qk Y (Qw (Qo 14 Y (Qk Y (Qw (Qo 16 Y (Qk Y (Qw (Qo 17 Y (Qk Y (Qw (Qo 18 Y (Qk Y (Qw ?_)))))))))))))
     rotate_left
     exact AW;exact AW;refine Av Y ?_ ?_;refine Qk Y (Qw (AV [13,19] κ Y ?_));refine Av Y ?_ ?_;refine Qk Y (Qw (AV [14,19] κ Y ?_));refine Av Y ?_ ?_;refine Qk Y (Qw (AV [16,19] κ Y ?_));refine Av Y ?_ ?_;refine Qk Y (Qw (AV [17,19] κ Y ?_));refine Av Y ?_ ?_;refine Qk Y (Qw (AV [18,19] κ Y ?_));refine Av Y ?_ ?_;refine Qk Y (Qw (Qo 19 Y (Qk Y (Qw ?_))))
     rotate_left
     refine Av Y ?_ ?_;refine Qk Y (Qw (Qo 18 Y (Qk Y (Qw ?_))))
     rotate_left
     exact AW;refine Av Y ?_ ?_;refine Qk Y (Qw (Qo 17 Y (Qk Y (Qw (Qo 18 Y (Qk Y (Qw ?_)))))))
     rotate_left
     exact AW;refine Av Y ?_ ?_;refine Qk Y (Qw (Qo 16 Y (Qk Y (Qw (Qo 17 Y (Qk Y (Qw (Qo 18 Y (Qk Y (Qw ?_))))))))))
     rotate_left
     exact AW;refine Av Y ?_ ?_;refine Qk Y (Qw (Qo 14 Y (Qk Y (Qw (Qo 16 Y (Qk Y (Qw (Qo 17 Y (Qk Y (Qw (Qo 18 Y (Qk Y (Qw ?_)))))))))))))
     rotate_left
     exact AW;refine Av Y ?_ ?_;refine Qk Y (Qw (Qo 13 Y (Qk Y (Qw (Qo 14 Y (Qk Y (Qw (Qo 16 Y (Qk Y (Qw (Qo 17 Y (Qk Y (Qw (Qo 18 Y (Qk Y (Qw ?_))))))))))))))))
     rotate_left
     exact AW;refine Av Y ?_ ?_;refine Qk Y (Qw (AV [13,15] κ Y ?_));refine Av Y ?_ ?_;refine Qk Y (Qw (AV [14,15] κ Y ?_));refine Av Y ?_ ?_;refine Qk Y (Qw (Qo 15 Y (Qk Y (Qw (Qo 16 Y (Qk Y (Qw (Qo 17 Y (Qk Y (Qw (Qo 18 Y (Qk Y (Qw ?_)))))))))))))
     rotate_left
     refine Av Y ?_ ?_;refine Qk Y (Qw (Qo 14 Y (Qk Y (Qw (Qo 16 Y (Qk Y (Qw (Qo 17 Y (Qk Y (Qw (Qo 18 Y (Qk Y (Qw ?_)))))))))))))
     rotate_left
     exact AW;refine Av Y ?_ ?_;refine Qk Y (Qw (Qo 13 Y (Qk Y (Qw (Qo 14 Y (Qk Y (Qw (Qo 16 Y (Qk Y (Qw (Qo 17 Y (Qk Y (Qw (Qo 18 Y (Qk Y (Qw ?_))))))))))))))))
     rotate_left
     exact AW;exact AW
     all_goals
      refine Qo 20 Y (Qk Y (Qw (Qo 21 Y (Qm Y (Qw (Qe ?_))))));exact AH _ ⟨by rw[b7 hid,Bool.false_and],rfl,rfl⟩ Qs
   ·obtain⟨rfl,rfl,rfl⟩:=hI;obtain⟨u,hu⟩:∃u,(decide (x.c.id=t.1)&&decide (x.c.dim=d))=u:=⟨_,Y⟩
    rw[hu]at etk ⊢;cases u
    ·refine AN Y (Ah (Ai (Ab (Ad (Qm Y (Qx (oA Y) Y (Qm Y (Am ?_))))))));exact Ap (n-(j+1)) _ ω ⟨j+1,Y,by rw[etk,Bool.or_false],rfl,rfl,ω⟩ Qs
    ·refine AX Y (Ad (Qm Y (Am (Ai (Ab (Ad (Qm Y (Qx (oA Y) Y (Qm Y (Am ?_))))))))));exact Ap (n-(j+1)) _ ω ⟨j+1,Y,by rw[etk,Bool.or_true],rfl,rfl,ω⟩ Qs
  ·obtain rfl:j=n:=ω
   rw[show o.take j=o from take_of_length_le ω];obtain⟨u,hu⟩:∃u,IY o d t.1=u:=⟨_,Y⟩
   rw[hu];cases u
   ·refine AA (Aa (Aa (Ag (Ab (As (Qm Y (Qm Y (An (AX Y (As (Qm Y (An (Aj (Ak (Ae (Ae (Ak (Ae ?_))))))))))))))))))
    have hret:false=E0 o d a:=by rw[<-Pt CL];have:(lc.any λp=>!IY o d p.1)=true:=List.any_eq_true.2 ⟨t,ht ▸ ap hkl,by rw[hu];rfl⟩;rw[this];rfl
    exact Al Y Y (ao Value.bool hret)
   ·refine AA (Aa (Aa (Ag (Ab (As (Qm Y (Qm Y (An (AN Y (Ah (Ai (Ab (Ad (Qm Y (Qx (oA Y) Y (Qm Y (Am ?_)))))))))))))))))
    exact Ap (m-(k+1)) _ ω ⟨k+1,Y,Y,Y,Y,ω,λi hi h=>by
     by_cases e:i=k
     ·subst e;rw[ht];exact hu
     ·exact hall i hi ω⟩ Qs
 ·obtain rfl:k=m:=ω
  refine AA (Aa (Aa (Ag (Ab (As (Qm Y (An (Aj ?_))))))))
  have hret:true=E0 o d a:=by
   rw[<-Pt CL]
   have:(lc.any λp=>!IY o d p.1)=false:=by rw[List.any_eq_false];intro p hp;obtain⟨i,hi,rfl⟩:=df.1 hp;rw[hall i hi ω];simp
   rw[this];rfl
  exact Al Y Y (ao Value.bool hret)
end
section
variable {n k b m j:Nat} {all:List (List Int)} {S l t s:List Int} {f:Nat->Int}
abbrev Inc(l:List Int):Prop:=l.Pairwise (· < ·)
theorem Pz{x:Int}(h:t.Sublist (l++[x])):t.Sublist l\/∃t',t=t'++[x]/\t'.Sublist l:=by
 obtain⟨t1,t2,e,h1,h2⟩:=List.sublist_append_iff.1 h
 have h3:t2=[]\/t2=[x]:=by
  cases h2 with
  | cons _ h=>exact .inl (List.sublist_nil.1 h)
  | cons_cons _ h=>exact .inr (by rw[List.sublist_nil.1 h])
 rcases h3 with rfl|rfl
 ·left;rw[e,dx];exact h1
 ·exact .inr ⟨t1,e,h1⟩
theorem Q3(s:List Int)(b:Nat):∀n,n<=s.length->(ES s b n).Sublist (s.take n)
 | 0,_=>by simp[ES]
 | n+1,h=>by
  rw[Iy,am ω];refine(Q3 s b n ω).append ?_;split
  ·simp[List.getD,show n<s.length by omega]
  ·simp
theorem WU{b':Nat}(h:∀k,k<n->b.testBit k=b'.testBit k):ES s b n=ES s b' n:=by unfold ES;congr 1;exact List.filter_congr λk hk=>h k (ct.1 hk)
theorem M3(s:List Int):∀n,n<=s.length->∀t:List Int,t.Sublist (s.take n)->∃b,b<2^n/\t=ES s b n
 | 0,_,t,ht=>⟨0,by simp,by simpa[ES] using ht⟩
 | n+1,h,t,ht=>by
  rw[am ω]at ht;have h2:2^(n+1)=2^n+2^n:=by rw[Nat.pow_succ];omega
  rcases Pz ht with h1|⟨t',rfl,h1⟩
  ·obtain⟨b,hb,e⟩:=M3 s n ω t h1;refine⟨b,ω,?_⟩;rw[Iy,Nat.testBit_lt_two_pow hb,e];simp
  ·obtain⟨b,hb,e⟩:=M3 s n ω t' h1;refine⟨2^n+b,ω,?_⟩;rw[Iy,Nat.testBit_two_pow_add_eq,Nat.testBit_lt_two_pow hb,e];rw[WU (b:=2^n+b) (b':=b) λk hk=>Nat.testBit_two_pow_add_gt hk b];simp[List.getD,show n<s.length by omega]
theorem WH(s:List Int)(n:Nat):ES s 0 n=[]:=by simp[ES]
theorem UK(H:SrtB all):t∈C5 all s (2^s.length-1)<->t∈all\/(t≠[]/\t.Sublist s)\/(t=[]/\∃b,1<=b/\b<=2^s.length-1/\ES s b s.length=[]):=by
 rw[JB H];constructor
 ·rintro(h|⟨b,h1,h2,rfl⟩)
  ·exact .inl h
  ·by_cases h3:ES s b s.length=[]
   ·exact .inr (.inr ⟨h3,b,h1,h2,h3⟩)
   ·refine .inr (.inl ⟨h3,?_⟩);have:=Q3 s b s.length (ak _)
    rwa [fo]at this
 ·rintro(h|⟨h1,h2⟩|⟨rfl,b,h1,h2,h3⟩)
  ·exact .inl h
  ·obtain⟨b,hb,e⟩:=M3 s s.length (ak _) t (by rw[fo];exact h2);refine .inr ⟨b,?_,ω,e⟩;rcases gj b with rfl|h
   ·rw[WH]at e;exact ib e h1
   ·exact h
  ·exact .inr ⟨b,h1,h2,h3.symm⟩
theorem Aco(h1:1<=b)(h2:b<2^s.length):ES s b s.length≠[]:=λh=>by
 have:b=0:=Nat.eq_of_testBit_eq λk=>by
  rw[Nat.zero_testBit];by_cases hk:k<s.length
  ·cases hb:b.testBit k with
   | false=>rfl
   | true=>
    have:s.getD k 0∈ES s b s.length:=by unfold ES;exact aj.2 ⟨k,dm.2 ⟨ct.2 hk,hb⟩,Y⟩
    rw[h]at this;cases this
  ·exact Nat.testBit_lt_two_pow (cj h2 (Nat.pow_le_pow_right δ ω))
 omega
theorem Zp{x:Int}(h:Inc l)(hn:¬NA x l):Inc (K9 x l):=by
 unfold NA at hn;unfold K9
 have h1:∀y∈l.takeWhile (λy=>decide (y<x)),y<x:=λy hy=>by have:=fj.1 (List.all_takeWhile (p:=λy:Int=>decide (y<x)) (l:=l)) y hy;simpa using this
 have h2:∀l:List Int,Inc l->(l.dropWhile λy=>decide (y<x)).head?≠some x->∀y∈l.dropWhile (λy=>decide (y<x)),x<y:=λl=>by
  induction l with
  | nil=>intro _ _ y hy;cases hy
  | cons a l ih=>
   intro hi hx y hy;rw[List.dropWhile_cons]at hy hx;split at hy
   ·rename_i g;rw[af g]at hx;exact ih (b6.1 hi).2 hx y hy
   ·rename_i g;rw[ab g]at hx;have g1:¬a<x:=by simpa using g
    have g2:a≠x:=by simpa using hx
    rcases bi.1 hy with rfl|hy
    ·omega
    ·have:=(b6.1 hi).1 y hy;omega
 have h3:=h2 l h hn;refine fc.2 ⟨h.sublist (List.takeWhile_sublist _),b6.2 ⟨h3,h.sublist (List.dropWhile_sublist _)⟩,λa ha b hb=>?_⟩;have h4:=h1 a ha;rcases bi.1 hb with rfl|hb
 ·exact h4
 ·have:=h3 b hb;omega
theorem MQ:∀(l acc:List Int) (s:List Int),Inc acc->ER acc l=some s->Inc s
 | [],acc,s,h,e=>by have:acc=s:=ax e;rw[<-this];exact h
 | x::l,acc,s,h,e=>by
  unfold ER at e;split at e
  ·exact MQ l acc s h e
  ·rename_i hn;split at e
   ·cases e
   ·refine MQ l _ s ?_ e;exact Zp h hn
structure AllS(all:List (List Int)):Prop where
 srt:SrtB all
 inc:∀s∈all,Inc s
 ne:∀s∈all,s≠[]
 sub:∀s∈all,∀t:List Int,t≠[]->t.Sublist s->t∈all
theorem AllS.faces(A:AllS all)(hs:Inc s):AllS (C5 all s (2^s.length-1)):=by
 have hm:∀t,t∈C5 all s (2^s.length-1)<->t∈all\/(t≠[]/\t.Sublist s):=λt=>by
  rw[UK A.srt];refine⟨λh=>?_,λh=>?_⟩
  ·rcases h with h|h|⟨_,b,h1,h2,h3⟩
   ·exact .inl h
   ·exact .inr h
   ·exact ib h3 (Aco h1 (by have:=Nat.two_pow_pos s.length;omega))
  ·rcases h with h|h
   ·exact .inl h
   ·exact .inr (.inl h)
 refine⟨E9 A.srt s _,λt ht=>?_,λt ht=>?_,λt ht u hu hs=>?_⟩
 ·rcases (hm t).1 ht with h|h
  ·exact A.inc t h
  ·exact hs.sublist h.2
 ·rcases (hm t).1 ht with h|h
  ·exact A.ne t h
  ·exact h.1
 ·rw[hm];rcases (hm t).1 ht with h|h
  ·exact .inl (A.sub t h u hu hs)
  ·exact .inr ⟨hu,hs.trans h.2⟩
theorem NR:∀(ll:List (List Int)) (acc all:List (List Int)),AllS acc->CJ acc ll=some all->AllS all
 | [],acc,all,h,e=>by have:acc=all:=ax e;rw[<-this];exact h
 | l::ll,acc,all,h,e=>by
  rw[Ek]at e;split at e
  ·cases e
  ·refine NR ll _ all ?_ e;cases hs:ER [] l with
   | none=>exact h
   | some s=>exact h.faces (MQ l [] s List.Pairwise.nil hs)
def nI(all:List (List Int))(t:List Int):Int:=((DE all t).1:Int)+1
theorem AllS.nI_at(A:AllS all)(ht:t∈all):∃j,∃hj:j<all.length,all[j]=t/\nI all t=(j:Int)+1:=by obtain⟨j,hj,rfl⟩:=List.getElem_of_mem ht;exact⟨j,hj,Y,by unfold nI;rw[SN A.srt hj]⟩
theorem AllS.nI_inj(A:AllS all){u:List Int}(ht:t∈all)(hu:u∈all)(e:nI all t=nI all u):t=u:=by
 obtain⟨j,hj,rfl,e1⟩:=A.nI_at ht;obtain⟨k,hk,rfl,e2⟩:=A.nI_at hu;have:j=k:=ω
 subst this;rfl
def sk(k i:Nat):Nat:=if i<k then i else i+1
theorem HK(k i:Nat):(i<k/\sk k i=i)\/(k<=i/\sk k i=i+1):=by unfold sk;split<;>omega
theorem OH(k i:Nat):sk k i≠k:=by unfold sk;split<;>omega
theorem AeP{i:Nat}(hi:i<n):sk k i<n+1:=by unfold sk;split<;>omega
theorem GP(l:List Int)(k i:Nat):(l.eraseIdx k)[i]?=l[sk k i]?:=by rw[List.getElem?_eraseIdx];unfold sk;split<;>rfl
def un(j k:Nat):Nat:=if k<j then k else k-1
theorem Md(j k:Nat):(k<j/\un j k=k)\/(j<=k/\un j k=k-1):=by unfold un;split<;>omega
theorem SL(h:j≠k):sk j (un j k)=k:=by have:=Md j k;have:=HK j (un j k);omega
theorem Vr(l:List Int):(l.eraseIdx k).eraseIdx m=(l.eraseIdx (sk k m)).eraseIdx (un (sk k m) k):=by refine List.ext_getElem? λi=>?_;rw[GP,GP,GP,GP];congr 1;have:=HK k m;have:=HK m i;have:=HK k (sk m i);have:=Md (sk k m) k;have:=HK (un (sk k m) k) i;have:=HK (sk k m) (sk (un (sk k m) k) i);omega
theorem AaZ(hn:l.Nodup)(hj:j<l.length):l[j]∈l.eraseIdx k<->j≠k:=by
 rw[List.mem_iff_getElem?];constructor
 ·rintro⟨i,h⟩ e;rw[GP]at h;obtain⟨h1,h2⟩:=bw.1 h;have:=IR hn h1 hj h2;exact OH k i ω
 ·intro h;exact⟨un k j,by rw[GP,SL (fg h),ah hj]⟩
theorem Ly(hn:l.Nodup)(hj:j<l.length):l[j]∈(l.eraseIdx k).eraseIdx m<->j≠k/\j≠sk k m:=by
 rw[List.mem_iff_getElem?];constructor
 ·rintro⟨i,h⟩;rw[GP,GP]at h;obtain⟨h1,h2⟩:=bw.1 h;have:=IR hn h1 hj h2;refine⟨λe=>OH k (sk m i) ω,λe=>?_⟩;have h3:sk k (sk m i)=sk k m:=ω
  have h4:=OH m i;have:=HK k m;have:=HK k (sk m i);omega
 ·rintro⟨h1,h2⟩;have h3:m≠un k j:=λe=>h2 (by rw[e,SL (fg h1)]);exact⟨un m (un k j),by rw[GP,GP,SL h3,SL (fg h1),ah hj]⟩
theorem AeB(hn:l.Nodup){a:Nat}(hl:l.length=n+1)(hk:k<n+1)(hm:m<n)(ha:a<n+1)(hb:b<n):(l.eraseIdx k).eraseIdx m=(l.eraseIdx a).eraseIdx b<->(k=a/\m=b)\/(k=sk a b/\m=un (sk a b) a):=by
 constructor
 ·intro h;have hab:=AeP (k:=a) hb
  have h1:¬(a≠k/\a≠sk k m):=λq=>by have:=(Ly hn (k:=k) (m:=m) (show a<l.length by omega)).2 q;rw[h]at this;exact((Ly hn (show a<l.length by omega)).1 this).1 Y
  have h2:¬(sk a b≠k/\sk a b≠sk k m):=λq=>by have:=(Ly hn (k:=k) (m:=m) (show sk a b<l.length by omega)).2 q;rw[h]at this;exact((Ly hn (show sk a b<l.length by omega)).1 this).2 Y
  have h3:=OH a b;have:=HK k m;have:=HK a b;have:=Md (sk a b) a;omega
 ·rintro(⟨rfl,rfl⟩|⟨rfl,rfl⟩)
  ·rfl
  ·exact(Vr l).symm
def rs(n:Nat)(f:Nat->Int):Int:=((range n).map f).sum
theorem PH(n:Nat)(f:Nat->Int):rs (n+1) f=rs n f+f n:=by unfold rs;rw[List.range_succ,cq,List.sum_append];simp
theorem V1(h:∀i,i<n->f i=0):rs n f=0:=by
 induction n with
 | zero=>rfl
 | succ n ih=>rw[PH,ih λi hi=>h i ω,h n ω];rfl
theorem P0(hk:k<n)(h:∀i,i<n->i≠k->f i=0):rs n f=f k:=by
 induction n with
 | zero=>omega
 | succ n ih=>
  rw[PH];rcases (ω:k=n\/k<n) with rfl|h1
  ·rw[V1 λi hi=>h i ω ω,Int.zero_add]
  ·rw[ih h1 λi hi=>h i ω,h n ω ω,fu]
theorem AdK{k':Nat}(hk:k<n)(hk':k'<n)(hne:k≠k')(h:∀i,i<n->i≠k->i≠k'->f i=0):rs n f=f k+f k':=by
 induction n with
 | zero=>omega
 | succ n ih=>
  rw[PH];rcases (ω:k=n\/(k<n/\k'=n)\/(k<n/\k'<n)) with rfl|⟨h1,rfl⟩|⟨h1,h2⟩
  ·rw[P0 (k:=k') ω λi hi hn=>h i ω ω hn,Int.add_comm]
  ·rw[P0 (k:=k) h1 λi hi hn=>h i ω hn ω]
  ·rw[ih h1 h2 λi hi=>h i ω,h n ω ω ω,fu]
theorem SV{α:Type}(f:α->List Int):∀l:List α,(l.flatMap f).sum=(l.map λa=>(f a).sum).sum
 | []=>rfl
 | a::l=>by rw[List.flatMap_cons,List.sum_append,SV f l,dq,sum_cons]
def sg(k:Nat):Int:=1-2*((k:Int)%2)
theorem UZ(k:Nat):sg (k+1)=- sg k:=by unfold sg;omega
theorem AeJ(k:Nat):sg k=1\/sg k=-1:=by unfold sg;omega
def JC(all:List (List Int))(t:List Int):List (Int×Int):=(range t.length).map λk=>(nI all (t.eraseIdx k),sg k)
def sc(all:List (List Int))(t:List Int):Cl:=⟨nI all t,(t.length:Int)-1,if t.length<=1 then [] else Dp (JC all t)⟩
theorem T6(A:AllS all):(range all.length).map (Ee all)=all.map (sc all):=by
 refine fl σ λj h1 h2=>?_;have hj:j<all.length:=by simpa using h2
 rw[gy,gy,List.getElem_range];have e:all.getD j []=all[j]:=by simp[List.getD,hj]
 unfold Ee sc;rw[e];unfold nI;rw[SN A.srt hj];rfl
def Xn(all:List (List Int))(S:List Int)(n:Nat):Hn:=(range (n+1)).flatMap λk=>(range n).map λm=>(nI all (S.eraseIdx k),nI all ((S.eraseIdx k).eraseIdx m),sg k*sg m)
theorem Sn(all:List (List Int))(S:List Int)(n:Nat)(g:Int×Int×Int->Int):((Xn all S n).map g).sum=rs (n+1) λk=>rs n λm=>g (nI all (S.eraseIdx k),nI all ((S.eraseIdx k).eraseIdx m),sg k*sg m):=by unfold Xn;rw[List.map_flatMap,SV];unfold rs;simp only[gc];rfl
theorem Zj(A:AllS all)(hS:S∈all)(hl:S.length=n+1)(hn:1<=n)(hk:k<n+1):S.eraseIdx k∈all:=by refine A.sub S hS _ (λe=>?_) (List.eraseIdx_sublist _ _);have:=ao List.length e;rw[List.length_eraseIdx,af ω]at this;simp at this;omega
theorem Qz(hl:S.length=n+1)(hk:k<n+1):(S.eraseIdx k).length=n:=by rw[List.length_eraseIdx,af ω];omega
theorem SE(A:AllS all)(hS:S∈all){a:Nat}(hl:S.length=n+1)(hn:2<=n)(ha:a<n+1)(hb:b<n)(w:Nat->Nat->Int):(rs (n+1) λk=>rs n λm=>if nI all ((S.eraseIdx k).eraseIdx m)=nI all ((S.eraseIdx a).eraseIdx b) then w k m else 0)=w a b+w (sk a b) (un (sk a b) a):=by
 have hnd:S.Nodup:=(A.inc S hS).imp λh e=>ω
 have hin:∀k m,k<n+1->m<n->(S.eraseIdx k).eraseIdx m∈all:=λk m hk hm=>by
  obtain⟨n',rfl⟩:∃n',n=n'+1:=⟨n-1,ω⟩
  exact Zj A (Zj A hS hl ω hk) (Qz hl hk) ω hm
 have hiff:∀k m,k<n+1->m<n->(nI all ((S.eraseIdx k).eraseIdx m)=nI all ((S.eraseIdx a).eraseIdx b)<->(k=a/\m=b)\/(k=sk a b/\m=un (sk a b) a)):=λk m hk hm=>by rw[<-AeB hnd hl hk hm ha hb];exact⟨λh=>A.nI_inj (hin k m hk hm) (hin a b ha hb) h,λh=>by rw[h]⟩
 have h1:=OH a b;have h2:=HK a b;have h3:=Md (sk a b) a
 rw[AdK (k:=a) (k':=sk a b) ha ω (fg h1) λk hk q1 q2=>V1 λm hm=>ab λq=>by
  rcases (hiff k m hk hm).1 q with q|q
  ·exact q1 q.1
  ·exact q2 q.1]
 rw[P0 (k:=b) hb λm hm q=>ab λq'=>by
   rcases (hiff a m ha hm).1 q' with q'|q'
   ·exact q q'.2
   ·exact h1 q'.1.symm,af Y,
  P0 (k:=un (sk a b) a) ω λm hm q=>ab λq'=>by
   rcases (hiff (sk a b) m ω hm).1 q' with q'|q'
   ·exact h1 q'.1
   ·exact q q'.2,af ((hiff _ _ ω ω).2 (.inr ⟨Y,Y⟩))]
theorem QO{e:Int×Int×Int}(h:e∈Xn all S n):∃k m,k<n+1/\m<n/\e=(nI all (S.eraseIdx k),nI all ((S.eraseIdx k).eraseIdx m),sg k*sg m):=by obtain⟨k,hk,h1⟩:=List.mem_flatMap.1 h;obtain⟨m,hm,rfl⟩:=aj.1 h1;exact⟨k,m,ct.1 hk,ct.1 hm,Y⟩
theorem SM(hk:k<n+1)(hm:m<n):(nI all (S.eraseIdx k),nI all ((S.eraseIdx k).eraseIdx m),sg k*sg m)∈Xn all S n:=List.mem_flatMap.2 ⟨k,ct.2 hk,aj.2 ⟨m,ct.2 hm,rfl⟩⟩
theorem Wz(A:AllS all)(hS:S∈all)(hl:S.length=n+1)(hn:2<=n):GoodT (Xn all S n) (JC all S) where
 sum:=λe he=>by
  obtain⟨a,b,ha,hb,rfl⟩:=QO he;unfold FD;rw[Sn];refine(SE A hS hl hn ha hb λk m=>sg k*sg m).trans ?_;have h1:=OH a b;have h2:=HK a b;have h3:=Md (sk a b) a;rcases h2 with ⟨h4,h5⟩|⟨h4,h5⟩
  ·rw[h5]at h3 ⊢;obtain⟨c,rfl⟩:∃c,a=c+1:=⟨a-1,ω⟩
   rw[show un b (c+1)=c by omega,UZ,Int.neg_mul,gv (sg b)];omega
  ·rw[h5]at h3 ⊢;rw[show un (b+1) a=a by omega,UZ,Int.neg_mul,gv (sg b)];omega
 two:=λe he=>by obtain⟨a,b,ha,hb,rfl⟩:=QO he;unfold Gy;rw[Sn];exact SE A hS hl hn ha hb λk m=>1
 con:=λa ha b hb=>by
  unfold JC at ha hb;obtain⟨k,hk,rfl⟩:=aj.1 ha;obtain⟨k',hk',rfl⟩:=aj.1 hb;have hk:=ct.1 hk;have hk':=ct.1 hk';show Con _ (nI all (S.eraseIdx k)) (nI all (S.eraseIdx k'));by_cases e:k=k'
  ·subst e;exact .refl _
  ·have h1:=Md k k';have h2:=Md k' k
   have h3:(S.eraseIdx k).eraseIdx (un k k')=(S.eraseIdx k').eraseIdx (un k' k):=by rw[Vr S (k:=k) (m:=un k k'),SL e]
   have m1:=SM (all:=all) (S:=S) (n:=n) (k:=k) (m:=un k k') ω ω;have m2:=SM (all:=all) (S:=S) (n:=n) (k:=k') (m:=un k' k) ω ω;rw[h3]at m1;exact .step (.refl _) m1 m2
theorem AllS.nil:AllS []:=⟨List.Pairwise.nil,nofun,nofun,nofun⟩
theorem Mx(ll:List (List Int)):Rgt (CP ll):=by
 have hbd:=Me ll;unfold CP at *;cases h:CJ [] ll with
 | none=>exact Rgt.nil
 | some all=>
  rw[h]at hbd;have A:=NR ll [] all AllS.nil h;have h9:=FP ll [] all List.Pairwise.nil (λt ht=>nomatch ht) h;show Rgt ((range all.length).map (Ee all));have hbd1:((range all.length).map (Ee all)).length<=4000:=hbd.1;rw[T6 A]at hbd1 ⊢
  have hlen:∀t∈all,1<=t.length:=λt ht=>by
   have:=A.ne t ht;cases t with
   | nil=>exact ib Y this
   | cons a t=>simp
  have hnd:((all.map (sc all)).map Cl.id).Nodup:=by rw[gc];refine d6.2 ((A.srt.imp λ{a b} h e=>?_:all.Pairwise (·≠·)).imp_of_mem λ{a b} ha hb hne e=>hne (A.nI_inj ha hb e));rw[e,Ip]at h;cases h
  have hcel:∀t∈all,Io (all.map (sc all)) (nI all t)=sc all t:=λt ht=>Kt hnd (aj.2 ⟨t,ht,Y⟩);have hsd:∀t∈all,2<=t.length->(sc all t).sd=Dp (JC all t):=λt _ h=>ab ω;have hraw:∀t:List Int,(JC all t).length=t.length:=λt=>by simp[JC]
  have hside:∀t∈all,∀s∈(sc all t).sd,∃k,k<t.length/\2<=t.length/\s=(nI all (t.eraseIdx k),sg k):=λt ht s hs=>by
   by_cases h2:2<=t.length
   ·rw[hsd t ht h2]at hs;have hs:=(Dw _).mem_iff.1 hs;unfold JC at hs;obtain⟨k,hk,rfl⟩:=aj.1 hs;exact⟨k,ct.1 hk,h2,Y⟩
   ·have:(sc all t).sd=[]:=af ω;rw[this]at hs;cases hs
  have hin:∀t∈all,2<=t.length->∀k,k<t.length->t.eraseIdx k∈all:=λt ht h2 k hk=>Zj A ht (n:=t.length-1) ω ω ω;refine⟨hbd1,hnd,λx hx=>?_,λx hx=>?_,λx hx=>?_,λx hx=>?_,λx hx s hs=>?_,λx hx s hs=>?_,λx hx hd=>?_,λx hx hd=>?_⟩<;>obtain⟨t,ht,rfl⟩:=aj.1 hx<;>have hl1:=hlen t ht<;>have hl9:=h9 t ht
  ·show 1<=nI all t;unfold nI;omega
  ·show 0<=(t.length:Int)-1/\(t.length:Int)-1<=8;omega
  ·unfold Ck;show ¬(((t.length:Int)-1=0/\0<(sc all t).sd.length)\/((t.length:Int)-1=1/\(sc all t).sd.length≠2)\/(1<(t.length:Int)-1/\((sc all t).sd.length<2\/64<(sc all t).sd.length)));by_cases h2:2<=t.length
   ·rw[hsd t ht h2,Hy,hraw];omega
   ·have:(sc all t).sd=[]:=af ω;rw[this];simp;omega
  ·by_cases h2:2<=t.length
   ·rw[hsd t ht h2,((Dw (JC all t)).map Prod.fst).nodup_iff];unfold JC;rw[gc];refine d6.2 ((List.nodup_range (n:=t.length)).imp_of_mem λ{a b} ha hb hne e=>hne ?_);have ha:=ct.1 ha;have hb:=ct.1 hb;have e:=A.nI_inj (hin t ht h2 a ha) (hin t ht h2 b hb) e;have hnd:t.Nodup:=(A.inc t ht).imp λh e=>ω
    have h3:t[a] ∉ t.eraseIdx a:=λq=>(AaZ hnd ha).1 q Y;rw[e,AaZ hnd ha]at h3;exact d7.1 h3
   ·have:(sc all t).sd=[]:=af ω;rw[this];simp
  ·obtain⟨k,hk,h2,rfl⟩:=hside t ht s hs;refine⟨_,aj.2 ⟨_,hin t ht h2 k hk,Y⟩,Y,?_⟩;show((t.eraseIdx k).length:Int)-1=(t.length:Int)-1-1;rw[Qz (n:=t.length-1) ω ω];omega
  ·obtain⟨k,hk,h2,rfl⟩:=hside t ht s hs;exact AeJ k
  ·have hd:(t.length:Int)-1=1:=hd;have h2:t.length=2:=ω
   rw[hsd t ht ω,JX ((Dw (JC all t)).map Prod.snd)];unfold JC;rw[h2];rfl
  ·have hd:2<=(t.length:Int)-1:=hd;obtain⟨n,hl⟩:∃n,t.length=n+1:=⟨t.length-1,ω⟩
   have h2:2<=t.length:=ω
   refine(Wz A ht hl ω).perm ?_ (by rw[hsd t ht h2];exact(Dw _).symm);unfold QY;rw[hsd t ht h2]
   have e:Xn all t n=WX (λc=>if c=0 then [] else JC all (all.getD (c-1).toNat [])) (JC all t):=by
    unfold WX JC;rw[List.flatMap_map,hl];refine Ht λk hk=>?_;have hk:=ct.1 hk;obtain⟨j,hj,e1,e2⟩:=A.nI_at (hin t ht h2 k ω);show _=List.map _ (if nI all (t.eraseIdx k)=0 then [] else _);rw[ab ω]
    have e3:all.getD (nI all (t.eraseIdx k)-1).toNat []=t.eraseIdx k:=by rw[e2,show(((j:Int)+1)-1).toNat=j by omega];simp[List.getD,hj,e1]
    rw[e3,gc,Qz hl ω];rfl
   rw[e];refine J5 (Dw _).symm λs hs=>List.Perm.map _ ?_;unfold JC at hs;obtain⟨k,hk,rfl⟩:=aj.1 hs;have hk:=ct.1 hk;obtain⟨j,hj,e1,e2⟩:=A.nI_at (hin t ht h2 k hk);show List.Perm (if nI all (t.eraseIdx k)=0 then [] else _) (Io (all.map (sc all)) (nI all (t.eraseIdx k))).sd;rw[ab ω,hcel _ (hin t ht h2 k hk)]
   have e3:all.getD (nI all (t.eraseIdx k)-1).toNat []=t.eraseIdx k:=by rw[e2,show(((j:Int)+1)-1).toNat=j by omega];simp[List.getD,hj,e1]
   rw[e3,hsd _ (hin t ht h2 k hk) (by rw[Qz hl ω];omega)];exact(Dw _).symm
theorem Aa9(ll:List (List Int)):∀x∈CP ll,x.id<=(CP ll).length:=by
 unfold CP;cases h:CJ [] ll with
 | none=>nofun
 | some all=>
  intro x hx;obtain⟨i,hi,rfl⟩:=aj.1 hx;have hi:=ct.1 hi;show(i:Int)+1<=(((range all.length).map (Ee all)).length:Nat);rw[bf,List.length_range];omega
end
section
open Go.Lin Go.Wd Go.Sm Go.Ch
theorem Oe{l:List Cl}(R:Rgt l):GX l=ordF l:=by have F:=R.ordF;refine T7 _ _ (λ_=>nofun) λi hi e=>?_;have:=cm.1 F.inc i (i+1) ω hi ω;omega
theorem Rgt.cs{l:List Ce}(R:Rgt (l.map Ce.c)):CsOk l:=by have hn:=R.n;rw[bf]at hn;exact⟨ω,λa ha=>by have:=(R.bds (aj.2 ⟨a,ha,Y⟩)).2;omega⟩
theorem XV(o:List Cl)(x:Cl)(d:Int):Ba (o++[x]) d=Ba o d++if x.dim=d then [x.id] else []:=by unfold Ba;rw[List.filter_append,cq];congr 1;by_cases h:x.dim=d<;>simp[h]
theorem Wa(l:List Ce)(v:Value)(h:Hp)(hK:RgC l)(hR:RdC h v l):FnT Tryz.prog 74 #[.agg #[v]] h [] (λr h' ms'=>h.le h'/\ms'=[]/\∃A:List Ce,RdC h' r A/\A.map Ce.c=cn l):=
 FnT.frz (Sw l v h hK.r.cs hR) λr h' ms' ⟨q,m,A,e,O,eA,hs⟩=>⟨m,[],e,λh2 l2 lm=>⟨AD q l2,rfl,A,⟨O.rdh lm,λa ha=>(hs a ha).up l2⟩,by rw[eA,Oe hK.r];rfl⟩⟩
theorem AcU(l:List Ce)(v:Value)(d:Int)(hp:Hp)(hK:RgC l)(hR:RdC hp v l):FnT Tryz.prog 35 #[.agg #[v],.int .i64 d] hp [] (λr h' ms'=>hp.le h'/\∃m,ms'=[m]/\OwnL cI 1 3 m r (Ba (cn l) d)):=by
 have ov:=hR.q.rd.one;have hln:=hK.r.n;rw[bf]at hln;refine Ao func35 ntmps35 Y Y (λw0 hw0=>?_);simp only[AS];refine As (AK [_] Y Y (by rfl) Y Y Y (λg2=>Qm Y (An (Aw 0 Y λh1 l1 hS=>(As (Qm Y (Bw (Qx (oG Y Dz Bj (Seg.any hS)) Y (Qc call74 Y (Wa l v h1 hK (hR.up l1)) (λw h2 ms2 l2 hF=>?_))))))))));obtain⟨l2',rfl,A,hQ,hA⟩:=hF;obtain⟨o,ho⟩:∃o,cn l=o:=⟨_,Y⟩
 rw[ho]at hA ⊢;obtain⟨n,hn⟩:∃n,A.length=n:=⟨_,Y⟩
 have hon:o.length=n:=by rw[<-hA,bf,hn]
 have hnb:n<=4000:=by rw[<-hon,<-ho,KB];omega
 have ow:=hQ.q.rd.one;have rW:Rd h2 [] w 3 n (A.flatMap cC):=by have:=hQ.q.rd;rwa [hn]at this
 refine Qm Y (An (Ac (As (Qm Y (An (Af (B8 ?_)))))));refine AC (λq sl h' ms'=>∃(i:Nat) (v5:Value) (m:Hp),n-i=q/\sl=[(1,.w d),(5,v5),(6,w),(7,.w i)]/\h2=h'/\ms'=[m]/\i<=n/\OwnL cI 1 3 m v5 (Ba (o.take i) d)) (n-0) _ ⟨0,_,Hp.emp,Y,Y,Y,Y,ω,OwnL.nil Bf⟩ Qs ?_;rintro q sl h' ms' ⟨i,v5,m,rfl,rfl,rfl,rfl,hi,hO⟩;have o5:=hO.o1;refine Ac (As (Qm Y (Qm Y (Qx (Aq rW.any Y Cb Y) Y (Qm Y (An ?_))))));refine Ax Y (λhlt=>?_) (λhlt=>?_)
 ·have hin:i<n:=ω
  have hil:i<A.length:=ω
  have hio:i<o.length:=ω
  obtain⟨x,hx⟩:∃x,A[i]=x:=⟨_,Y⟩
  have hox:o[i]=x.c:=by subst hA;rw[gy,hx]
  have etk:Ba (o.take (i+1)) d=Ba (o.take i) d++if x.c.dim=d then [x.c.id] else []:=by rw[am hio,hox,XV]
  have gE:∀ms,Seg h2 ms ((AI w).add (i*3)) (cC x):=λms=>by rw[<-hx];exact(hQ.q.any (ms:=ms)).seg hil
  have e0:∀ms,Cell h2 ms (((AI w).add (i*3)).add 0) (.w x.c.id):=λms=>gE ms 0 _ Y;have e1:∀ms,Cell h2 ms (((AI w).add (i*3)).add 1) (.w x.c.dim):=λms=>gE ms 1 _ Y;have hfl:(Ba (o.take i) d).length<=4000:=by have:=Ia (o.take i) d;rw[bh]at this;omega
  refine Ah (Ab (Ac (Af (As (Qm Y (Qm Y (Qx (BR (i) rW.any Y Cb A5 Y Y) Y (Qf B7 Y (Ql Y U3 (e1 _) (Qm Y (Qm Y (An ?_))))))))))));refine Ax Y (λhd=>?_) (λhd=>?_)
  ·rw[af hd]at etk;refine Ad (Qm Y (Qm Y (Qm Y (Qx (BR (i) rW.any Y Cb A5 Y Y) Y (Qf Cm Y (Ql Y U3 (e0 _) (AB [_] Y A9 Bp Y (by rfl) Y Y ω Y Y Y (λg29=>AL 1 hO (RdL.one Bf (x:=x.c.id) Mh Y) Y A9 Bp Y ω Y Y Y Cq (by(try simp only[ae]);omega) (by(try simp only[ae]);omega) rfl rfl rfl (λv9 m9 hO9=>?_)))))))));rw[<-etk]at hO9;have o9:=hO9.o1;refine Qm Y (Am (Ai (Ab (Ad (Qm Y (Qx (oA Y) Y (Qm Y (Am (AR ?_)))))))));exact Ap (n-(i+1)) _ ω ⟨i+1,v9,m9,Y,Y,Y,Y,ω,hO9⟩ Qs
  ·rw[ab hd,dx]at etk;refine Ah (Ai (Ab (Ad (Qm Y (Qx (oA Y) Y (Qm Y (Am ?_)))))));exact Ap (n-(i+1)) _ ω ⟨i+1,v5,m,Y,Y,Y,Y,ω,by rw[etk];exact hO⟩ Qs
 ·obtain rfl:i=n:=ω
  rw[show o.take i=o from take_of_length_le ω]at hO;refine AA (Aa (Aa (Ag (Ab (As (Qm Y (Qm Y (An (Aj ?_)))))))));exact Al Y Y (⟨AD l1 l2',m,Y,hO⟩)
theorem Yy(l:List Ce)(v:Value)(d:Int)(hp:Hp)(hK:RgC l)(hR:RdC hp v l):FnT Tryz.prog 35 #[.agg #[v],.int .i64 d] hp [] (λr h' ms'=>hp.le h'/\ms'=[]/\RdL cI 1 h' [] r (Ba (cn l) d)):=
 FnT.frz (AcU l v d hp hK hR) λr h' ms' ⟨q,m,e,O⟩=>⟨m,[],e,λh2 l2 lm=>⟨AD q l2,rfl,O.rdh lm⟩⟩
theorem UR{l:List Cl}(R:Rgt l):GJ l=(0,0):=by
 have F:=R.ordF;have hc:=Oe R;have hl:=Xf l;unfold GJ;rw[ab (by have:=R.n;omega),hc]
 have hA:(range l.length).findSome? (Jn (ordF l) (ordF l))=none:=Ep _ λb hb=>by
  unfold Jn;have hb2:b<(ordF l).length:=ω
  rw[HU hb2];have hm:=ap hb2;rw[ab,ab (λq=>q (F.fst _ hm))];rintro(h|⟨h1,h2⟩)
  ·have:=F.pos _ hm;omega
  ·rw[HU (show b-1<(ordF l).length by omega)]at h2;have:=cm.1 F.inc (b-1) b ω hb2 ω;omega
 have hB:(range l.length).findSome? (Lg (ordF l))=none:=Ep _ λb hb=>by
  unfold Lg;have hb2:b<(ordF l).length:=ω
  rw[HU hb2];have hm:=ap hb2;split
  ·rfl
  ·rw[ab (λq=>q (F.snd _ hm ω))]
 rw[hA,hB];rfl
theorem RgC.ck{l:List Ce}(K:RgC l):Ae0 l:=⟨K.r.cs,λa ha=>by have:=K.r.dim _ (aj.2 ⟨a,ha,Y⟩);omega⟩
theorem Se(l:List Ce)(v:Value)(h:Hp)(K:RgC l)(hR:RdC h v l)(ms:List Hp):FnV Tryz.prog 68 #[.agg #[v]] h ms (.tuple #[.int .i64 0,.int .i64 0]):=by refine Ea ?_ ms;have:=Uu l v h K.ck hR;rw[UR K.r]at this;exact this
def Lh(o:List Cl):Int:=o.foldl (λm x=>max m x.dim) (-1)
theorem Xy(o:List Cl)(x:Cl):Lh (o++[x])=max (Lh o) x.dim:=by unfold Lh;rw[List.foldl_append];rfl
theorem AcR:∀(o:List Cl),(∀x∈o,x.dim<=1000)->-1<=Lh o/\Lh o<=1000:=λo=>by
 have key:∀(o:List Cl) (m:Int),-1<=m->m<=1000->(∀x∈o,x.dim<=1000)->-1<=o.foldl (λm x=>max m x.dim) m/\o.foldl (λm x=>max m x.dim) m<=1000:=by
  intro o
  induction o with
  | nil=>intro m h1 h2 _;exact⟨h1,h2⟩
  | cons x o ih=>
   intro m h1 h2 h3;rw[List.foldl_cons];have:=h3 x mem_cons_self;exact ih _ (by omega) (by omega) fun y hy=>h3 y (mem_cons_of_mem _ hy)
 exact key o (-1) ω ω
theorem Ael(l:List Ce)(v:Value)(h:Hp)(K:RgC l)(hR:RdC h v l)(ms:List Hp):FnV Tryz.prog 129 #[.agg #[v]] h ms (.int .i64 (Lh (cn l))):=by
 refine Ea ?_ ms;have ov:=hR.q.rd.one;have hln:=K.r.n;rw[bf]at hln;refine Ao func129 ntmps129 Y Y (λw0 hw0=>?_);simp only[AS];refine As (AK [_] Y Y (by rfl) Y Y Y (λg1=>Qm Y (An (Aw 0 Y λh1 l1 hS=>(As (Qm Y (Bw (Qx (oG Y Dz Bj (Seg.any hS)) Y (Qc call74 Y (Wa l v h1 K (hR.up l1)) (λw h2 ms2 l2 hF=>?_))))))))));obtain⟨l2',rfl,A,hQ,hA⟩:=hF;obtain⟨o,ho⟩:∃o,cn l=o:=⟨_,Y⟩
 rw[ho]at hA ⊢;obtain⟨n,hn⟩:∃n,A.length=n:=⟨_,Y⟩
 have hon:o.length=n:=by rw[<-hA,bf,hn]
 have hnb:n<=4000:=by rw[<-hon,<-ho,KB];omega
 have ow:=hQ.q.rd.one;have rW:Rd h2 [] w 3 n (A.flatMap cC):=by have:=hQ.q.rd;rwa [hn]at this
 refine Qm Y (An (Ac (As (Qm Y (An (Af ?_))))));refine AC (λq sl h' ms'=>∃(i:Nat),n-i=q/\sl=[(3,.w (Lh (o.take i))),(4,w),(5,.w i)]/\h2=h'/\ms'=[]/\i<=n) (n-0) _ ⟨0,Y,Y,Y,Y,ω⟩ Qs ?_;rintro q sl h' ms' ⟨i,rfl,rfl,rfl,rfl,hi⟩;refine Ac (As (Qm Y (Qm Y (Qx (Aq rW.any Y Cb Y) Y (Qm Y (An ?_))))));refine Ax Y (λhlt=>?_) (λhlt=>?_)
 ·have hin:i<n:=ω
  have hil:i<A.length:=ω
  have hio:i<o.length:=ω
  obtain⟨x,hx⟩:∃x,A[i]=x:=⟨_,Y⟩
  have hox:o[i]=x.c:=by subst hA;rw[gy,hx]
  have etk:Lh (o.take (i+1))=max (Lh (o.take i)) x.c.dim:=by rw[am hio,hox,Xy]
  have gE:∀ms,Seg h2 ms ((AI w).add (i*3)) (cC x):=λms=>by rw[<-hx];exact(hQ.q.any (ms:=ms)).seg hil
  have e1:∀ms,Cell h2 ms (((AI w).add (i*3)).add 1) (.w x.c.dim):=λms=>gE ms 1 _ Y;refine Ah (Ab (Ac (Af (Ad (Qm Y (Qm Y (Qm Y (Qx (BR (i) rW.any Y Cb A5 Y Y) Y (Qf B7 Y (Ql Y U3 (e1 _) (Qx (PN Y Y Y) Y (Qm Y (Am (Ai (Ab (Ad (Qm Y (Qx (oA Y) Y (Qm Y (Am ?_))))))))))))))))))));exact Ap (n-(i+1)) _ ω ⟨i+1,Y,by rw[etk],rfl,rfl,ω⟩ Qs
 ·obtain rfl:i=n:=ω
  rw[show o.take i=o from take_of_length_le ω];refine AA (Aa (Aa (Ag (Ab (As (Qm Y (Qm Y (An (Aj ?_)))))))));exact Al Y Y (Y)
theorem YW(l:List Ce)(v:Value)(h:Hp)(Q:QsOk v h l)(ms:List Hp):FnV Tryz.prog 69 #[.agg #[v]] h ms (.bool true):=by
 refine Ea ?_ ms;have ov:=Q.X.rd.q.rd.one;refine Ao func69 ntmps69 Y Y (λw0 hw0=>?_);simp only[AS];refine As (AK [_] Y Y (by rfl) Y Y Y (λg1=>Qm Y (An (Aw 0 Y λh1 l1 hS=>?_))));have Q1:=Q.up l1;have sg:∀h',h1.le h'->∀ms,Seg h' ms (⟨g1,0,none⟩:Addr) [v]:=λh' q ms=>(hS.le q).any;refine As (Qx (oG Y Dz Bj (sg _ (BD) _)) Y (Qx (Au Y call68 Y (Se l v h1 Q1.K Q1.X.rd _)) Y (Qm Y (Qm Y (Qm Y (Qm Y (Qm Y (An (Ac (As (Qm Y (Qm Y (An (Ax Y (λhc=>ib hc σ) (λhc=>?_)))))))))))))));have hD:=AcR (cn l) Q.dims;obtain⟨D,hDe⟩:∃D:Nat,Lh (cn l)+1=D:=⟨(Lh (cn l)+1).toNat,ω⟩
 have hD2:Lh (cn l)=(D:Int)-1:=ω
 refine Ah (Ab (Ac (As (Qm Y (An (Af ?_))))));refine AC (λq sl h' ms'=>∃(i:Nat),D-i=q/\sl=[(1,.pt g1),(5,.w i)]/\h1.le h'/\ms'=[]/\i<=D) (D-0) _ ⟨0,Y,Y,BD,Y,ω⟩ Qs ?_;rintro q sl h' ms' ⟨i,rfl,rfl,lh,rfl,hi⟩;have hdim:=Ael l v h' Q.K (Q1.X.rd.up lh);rw[hD2]at hdim;refine Ac (As (Qm Y (Qx (oG Y Dz Bj (sg _ lh _)) Y (Qx (Au Y call129 Y (hdim _)) Y (Qm Y (An ?_))))));refine Ax Y (λhlt=>?_) (λhlt=>?_)
 ·refine Ah (Ab (Ac (Af (As (Qx (oG Y Dz Bj (sg _ lh _)) Y (Qm Y (Qc call35 Y (Yy l v i h' Q.K (Q1.X.rd.up lh)) (λw h2 ms2 l2 hF=>?_))))))));obtain⟨l2',rfl,hI⟩:=hF;have hm:=Q.many i;have hm:(Ba (cn l) i).length<=100:=hm;have ow:=hI.rd.one;refine Qx (Aq hI.rd.any Y A9 Y) Y (Qm Y (An (Ax Y (λhc=>ib hc ω) (λhc=>Ah (Ai (Ab (Ad (Qm Y (Qx (oA Y) Y (Qm Y (Am ?_)))))))))));exact Ap (D-(i+1)) _ ω ⟨i+1,Y,Y,AD lh l2',Y,ω⟩ Qs
 ·refine AA (Aa (Aa (Ag (Ab (As (Qm Y (An (Aj ?_))))))));exact Al Y Y (Y)
noncomputable def wrF(o:List Cl)(d:Int)(x y:List Tm):Int:=if E0 o d x&&E0 o d y then(if bz o x&&bz o y then 0 else 40) else 21
theorem Q9(v vx vy:Value)(d:Int)(x y:List Tm)(l:List Ce)(h:Hp)(Q:QsOk v h l)(X:ChR vx h x)(Y:ChR vy h y)(bx:Bk (DI (A4 (l.map Ce.c)) x)<2^2000000)(by_:Bk (DI (A4 (l.map Ce.c)) y)<2^2000000)(hT:(A4 (l.map Ce.c)).length<100000)(ms:List Hp) :
  FnV Tryz.prog 24 #[.agg #[v],.w d,vx,vy] h ms (.w (wrF (l.map Ce.c) d x y)):=by
 refine Ea ?_ ms;have ov:=Q.X.rd.q.rd.one;obtain⟨xa,xc,rfl,_⟩:=X.rd.rd.ex;obtain⟨ya,yc,rfl,_⟩:=Y.rd.rd.ex;refine Ao func24 ntmps24 rfl rfl (fun w0 hw0=>?_);simp only[AS];refine As (AK [_] rfl rfl (by rfl) rfl rfl rfl (fun g4=>Qm rfl (An (Aw 0 rfl fun h1 l1 hS=>?_))));have Q1:=Q.up l1;have X1:=X.up l1;have Y1:=Y.up l1;have sg:∀h',h1.le h'->∀ms,Seg h' ms (⟨g4,0,none⟩:Addr) [v]:=fun h' q ms=>(hS.le q).any;refine As (Qx (oG rfl Dz Bj (sg _ (BD) _)) rfl (Qx (Au rfl call68 rfl (Se l v h1 Q1.K Q1.X.rd _)) rfl (Qm rfl (Qm rfl (Qm rfl (Qm rfl (Qm rfl (An (Ac (As (Qm rfl (Qm rfl (An (Ax rfl (fun hc=>ib hc σ) (fun hc=>?_)))))))))))))));have hinx:=VM v (.slice xa x.length xc) l d x h1 Q1.X X1;have hiny:=VM v (.slice ya y.length yc) l d y h1 Q1.X Y1;unfold wrF;obtain⟨ix,hix⟩:∃ix,E0 (l.map Ce.c) d x=ix:=⟨_,rfl⟩
 obtain⟨iy,hiy⟩:∃iy,E0 (l.map Ce.c) d y=iy:=⟨_,rfl⟩
 rw[hix]at hinx ⊢;rw[hiy]at hiny ⊢;refine Ah (Ab (As (Qx (oG rfl Dz Bj (sg _ (BD) _)) rfl (Qx (Au rfl call69 rfl (YW l v h1 Q1 _)) rfl (Qm rfl (An (Ac (As (Qm rfl (Qm rfl (An (AN rfl (Ah (Ab ?_))))))))))))));cases ix
 ·refine Ac (Ad (Qx (oG rfl Dz Bj (sg _ (BD) _)) rfl (Qm rfl (Qm rfl (Qx (Au rfl call53 rfl (hinx _)) rfl (Qm rfl (An ?_)))))));cases iy
  ·refine Ac (Ad (Qx (oG rfl Dz Bj (sg _ (BD) _)) rfl (Qm rfl (Qm rfl (Qx (Au rfl call53 rfl (hiny _)) rfl (Qm rfl (An (Ac (As (Qm rfl (Qm rfl (Qm rfl (Qk rfl (Qk rfl (Qm rfl (An (AX rfl (As (Qm rfl (An (Aj (Ae ?_))))))))))))))))))))));exact Al rfl rfl (rfl)
  ·refine Ac (Ad (Qx (oG rfl Dz Bj (sg _ (BD) _)) rfl (Qm rfl (Qm rfl (Qx (Au rfl call53 rfl (hiny _)) rfl (Qm rfl (An (Ac (As (Qm rfl (Qm rfl (Qm rfl (Qk rfl (Qk rfl (Qm rfl (An (AX rfl (As (Qm rfl (An (Aj (Ae ?_))))))))))))))))))))));exact Al rfl rfl (rfl)
 ·refine Ac (Ad (Qx (oG rfl Dz Bj (sg _ (BD) _)) rfl (Qm rfl (Qm rfl (Qx (Au rfl call53 rfl (hinx _)) rfl (Qm rfl (An ?_)))))));cases iy
  ·refine Ac (Ad (Qx (oG rfl Dz Bj (sg _ (BD) _)) rfl (Qm rfl (Qm rfl (Qx (Au rfl call53 rfl (hiny _)) rfl (Qm rfl (An (Ac (As (Qm rfl (Qm rfl (Qm rfl (Qg (Ar rfl rfl) rfl (Qg (DQ rfl rfl) rfl (Qm rfl (An (AX rfl (As (Qm rfl (An (Aj (Ae ?_))))))))))))))))))))));exact Al rfl rfl (rfl)
  ·refine Ac (Ad (Qx (oG rfl Dz Bj (sg _ (BD) _)) rfl (Qm rfl (Qm rfl (Qx (Au rfl call53 rfl (hiny _)) rfl (Qm rfl (An (Ac (As (Qm rfl (Qm rfl (Qm rfl (Qg (Ar rfl rfl) rfl (Qg (DQ rfl rfl) rfl (Qm rfl (An (AN rfl (Ah (Ab (Ac (As (Qx (oG rfl Dz Bj (sg _ (BD) _)) rfl (Qm rfl (Qc call29 rfl (PK v _ l x h1 Q1.X X1 bx hT) (fun wb h2 ms2 l2 hF=>?_)))))))))))))))))))))))));obtain⟨l2',rfl,lx,CX,CRx,_,hlx⟩:=hF;have owb:=CRx.rd.rd.one;have hzx:=O9 CX;obtain⟨zx,hzxe⟩:∃zx,bz (l.map Ce.c) x=zx:=⟨_,rfl⟩
   rw[hzxe]at hzx ⊢;cases zx
   ·have hne:lx.length≠0:=fun e=>by have:=hzx.2 e;cases this
    refine Qx (Aq CRx.rd.rd.any rfl CV rfl) rfl (Qx (BE (Cs rfl rfl rfl) (ao Value.bool (bm ω))) rfl (Qm rfl (Qk rfl (Qk rfl (Qk rfl (Qk rfl (Qk rfl (Qm rfl (An (AX rfl (As (Qm rfl (An (Aj (Ae ?_)))))))))))))));exact Al rfl rfl (rfl)
   ·have he:lx.length=0:=hzx.1 rfl;refine Qx (Aq CRx.rd.rd.any rfl CV rfl) rfl (Qx (BE (Cs rfl rfl rfl) (ao Value.bool (b7 ω))) rfl (Qm rfl (Qg (oG rfl Dz Bj (sg _ l2' _)) rfl (Qg (Ar rfl rfl) rfl (Bh rfl rfl rfl rfl (Qc call29 rfl (PK v _ l y h2 (Q1.X.up l2') (Y1.up l2') by_ hT) (fun wc h3 ms3 l3 hF=>?_)))))));obtain⟨l3',rfl,ly,CY,CRy,_,hly⟩:=hF;have owc:=CRy.rd.rd.one;have hzy:=O9 CY;obtain⟨zy,hzye⟩:∃zy,bz (l.map Ce.c) y=zy:=⟨_,rfl⟩
    rw[hzye]at hzy ⊢;cases zy
    ·have hne:ly.length≠0:=fun e=>by have:=hzy.2 e;cases this
     refine Qg (Aq CRy.rd.rd.any rfl CV rfl) rfl (Qg (BE (Cs rfl rfl rfl) (ao Value.bool (bm ω))) rfl (Qm rfl (An (AX rfl (As (Qm rfl (An (Aj (Ae ?_)))))))));exact Al rfl rfl (rfl)
    ·have he2:ly.length=0:=hzy.1 rfl;refine Qg (Aq CRy.rd.rd.any rfl CV rfl) rfl (Qg (BE (Cs rfl rfl rfl) (ao Value.bool (b7 ω))) rfl (Qm rfl (An (AN rfl (Ah (Ab (As (Qm rfl (An (Aj ?_))))))))));exact Al rfl rfl (rfl)
theorem RN(v vx vy vch vco:Value)(d m:Int)(hd:0<=d/\d<=900)(x y ch co:List Tm)(l:List Ce)(h:Hp)(Q:QsOk v h l)(X:ChR vx h x)(Y:ChR vy h y)(CH:ChR vch h ch)(C:ChR vco h co)(hx:E0 (l.map Ce.c) d x=true)(hy:E0 (l.map Ce.c) d y=true)(bx:Bk (DI (A4 (l.map Ce.c)) x)<2^2000000)(by_:Bk (DI (A4 (l.map Ce.c)) y)<2^2000000)(zx:bz (l.map Ce.c) x=true)(zy:bz (l.map Ce.c) y=true)(hn:x.length+y.length<=100000)(ha:Bk x+Bk y<2^2000000)(bc:Bk (DI (A4 (l.map Ce.c)) ch)<2^2000000)(hT:(A4 (l.map Ce.c)).length<100000)(hm:Sz m)(ms:List Hp) :
  FnV Tryz.prog 18 #[.agg #[v],.w d,vx,vy,TH true vch vco m] h ms (.bool ((E0 (l.map Ce.c) (d+1) ch&&Ri (l.map Ce.c) x y ch)&&(decide (co.length=0)&&decide (m=0)))):=by
 refine Ea ?_ ms;have ov:=Q.X.rd.q.rd.one;have osm:(sv (A8 m.natAbs)).oneCell'=true:=rfl;obtain⟨xa,xc,rfl,_⟩:=X.rd.rd.ex;obtain⟨ya,yc,rfl,_⟩:=Y.rd.rd.ex;obtain⟨ha_,hc2,rfl,_⟩:=CH.rd.rd.ex;obtain⟨ca,cc,rfl,_⟩:=C.rd.rd.ex;unfold TH;refine Ao func18 ntmps18 rfl rfl (fun w0 hw0=>?_);simp only[AS];refine As (AK [_] rfl rfl (by rfl) rfl rfl rfl (fun g5=>AK [_,_,_,_,_] rfl rfl (by rfl) rfl rfl rfl (fun g9=>Qm rfl (An (Aw 0 rfl fun h1 l1 hS9=>(Aw 0 rfl fun h2 l2 hS5=>?_))))));have l02:=AD l1 l2;have s5:∀h',h2.le h'->∀ms,Seg h' ms (⟨g5,0,none⟩:Addr) [v]:=fun h' q ms=>(hS5.le q).any;have d0:∀h',h2.le h'->∀ms,Cell h' ms ((⟨g9,0,none⟩:Addr).add 0) (.bool true):=fun h' q ms=>(((hS9.le l2) 0 _ rfl).any).le q;have d1:∀h',h2.le h'->∀ms,Cell h' ms ((⟨g9,0,none⟩:Addr).add 1) (.slice ha_ ch.length hc2):=fun h' q ms=>(((hS9.le l2) 1 _ rfl).any).le q;have d2:∀h',h2.le h'->∀ms,Cell h' ms ((⟨g9,0,none⟩:Addr).add 2) (.slice ca co.length cc):=fun h' q ms=>(((hS9.le l2) 2 _ rfl).any).le q
 have s9:∀h',h2.le h'->∀ms,Seg h' ms ((⟨g9,0,none⟩:Addr).add 3) (Bl m):=fun h' q ms i u hu=>by
  have:=(((hS9.le l2).le q) (3+i) u (by rw[Nat.add_comm];exact hu)).any (ms:=ms)
  rwa [BK]
 have Q2:=Q.up l02;have X2:=X.up l02;have Y2:=Y.up l02;have CH2:=CH.up l02;have hw:=Q9 v _ _ d x y l h2 Q2 X2 Y2 bx by_ hT;have hw0:wrF (l.map Ce.c) d x y=0:=by unfold wrF;rw[hx,hy,zx,zy];rfl
 rw[hw0]at hw;refine As (Qx (oG rfl Dz Bj (s5 _ (BD) _)) rfl (Qm rfl (Qm rfl (Qm rfl (Qx (Au rfl call24 rfl (hw _)) rfl (Qm rfl (An (Ac (As (Qm rfl (Qm rfl (An (Ax rfl (fun hc=>ib hc σ) (fun hc=>Ah (Ab (As (Qm rfl (Qm rfl (Qc call50 rfl (VS _ _ x y h2 X2 Y2 hn ha) (fun wd h3 ms3 l3 hF=>?_))))))))))))))))))));obtain⟨l3',rfl,dl,CD,CRd,hda,hdn⟩:=hF;obtain⟨da,dc,rfl,_⟩:=CRd.rd.rd.ex;refine Qm rfl (An (Ac (As (Qf Ig rfl (Ql rfl U4 (d0 _ l3' _) (An ?_))))));have hin:=VM v (.slice ha_ ch.length hc2) l (d+1) ch h3 (Q2.X.up l3') (CH2.up l3');obtain⟨b1,hb1⟩:∃b,E0 (l.map Ce.c) (d+1) ch=b:=⟨_,rfl⟩
 rw[hb1]at hin ⊢;cases b1
 ·refine AX rfl (As (Qx (oG rfl Dz Bj (s5 _ l3' _)) rfl (Qm rfl (Qx (oA rfl) rfl (Qf GS rfl (Ql rfl CV (d1 _ l3' _) (Qx (Au rfl call53 rfl (hin _)) rfl (Qm rfl (Bw (Qx (oG rfl Dz Bj (s5 _ l3' _)) rfl (Qf GS rfl (Ql rfl CV (d1 _ l3' _) (Qc call29 rfl (PK v _ l ch h3 (Q2.X.up l3') (CH2.up l3') bc hT) (fun wb h4 ms4 l4 hF=>?_))))))))))))));obtain⟨l4',rfl,lb,CB,CRb,_,hlb⟩:=hF;obtain⟨ba,bcc,rfl,_⟩:=CRb.rd.rd.ex;have l24:=AD l3' l4';have heq:=N0 _ _ lb dl h4 CRb (CRd.up l4');rw[Pk CB CD]at heq;refine Qm rfl (Qx (Au rfl call54 rfl (heq _)) rfl (Qm rfl (Bw (Qm rfl (Qm rfl (Qk rfl (Qm rfl (Qm rfl (Qk rfl (Qk rfl (Qk rfl (Qk rfl (Qm rfl (Qm rfl (Qk rfl (Qk rfl (Qk rfl (Qk rfl (Qm rfl (Qm rfl (An (Aj (Ae ?_)))))))))))))))))))))));exact Al rfl rfl (rfl)
 ·refine AX rfl (As (Qx (oG rfl Dz Bj (s5 _ l3' _)) rfl (Qm rfl (Qx (oA rfl) rfl (Qf GS rfl (Ql rfl CV (d1 _ l3' _) (Qx (Au rfl call53 rfl (hin _)) rfl (Qm rfl (Bw (Qx (oG rfl Dz Bj (s5 _ l3' _)) rfl (Qf GS rfl (Ql rfl CV (d1 _ l3' _) (Qc call29 rfl (PK v _ l ch h3 (Q2.X.up l3') (CH2.up l3') bc hT) (fun wb h4 ms4 l4 hF=>?_))))))))))))));obtain⟨l4',rfl,lb,CB,CRb,_,hlb⟩:=hF;obtain⟨ba,bcc,rfl,_⟩:=CRb.rd.rd.ex;have l24:=AD l3' l4';have heq:=N0 _ _ lb dl h4 CRb (CRd.up l4');rw[Pk CB CD]at heq;obtain⟨b2,hb2⟩:∃b,Ri (l.map Ce.c) x y ch=b:=⟨_,rfl⟩
  rw[hb2]at heq ⊢;cases b2
  ·refine Qm rfl (Qx (Au rfl call54 rfl (heq _)) rfl (Qm rfl (Bw (Qm rfl (Qm rfl (Qg (Ar rfl rfl) rfl (Qm rfl (Qm rfl (Qk rfl (Qk rfl (Qk rfl (Qk rfl (Qm rfl (Qm rfl (Qk rfl (Qk rfl (Qk rfl (Qk rfl (Qm rfl (Qm rfl (An (Aj (Ae ?_)))))))))))))))))))))));exact Al rfl rfl (rfl)
  ·by_cases hco:co.length=0
   ·refine Qm rfl (Qx (Au rfl call54 rfl (heq _)) rfl (Qm rfl (Bw (Qm rfl (Qm rfl (Qg (Ar rfl rfl) rfl (Qm rfl (Qm rfl (Qg (oF GY rfl) rfl (Qg (oL rfl CV (d2 _ l24 _)) rfl (Qg (D3 (ty:=30) rfl CV rfl) rfl (Qg (BE (Ca rfl rfl rfl) (ao Value.bool (bm ω))) rfl (Qm rfl (Qm rfl (Qg (oF Is rfl) rfl (Qg (oG rfl BC Ay (s9 _ l24 _)) rfl (Qg (Au rfl call55 rfl (FH m hm _ _)) rfl (Qg (Ca rfl rfl rfl) rfl (Qm rfl (Qm rfl (An (Aj (Ae ?_)))))))))))))))))))))));exact Al rfl rfl (by rw[bm hco];exact ao Value.bool (by simp only[Bool.true_and];exact ej.2 Int.sign_eq_zero_iff_zero))
   ·refine Qm rfl (Qx (Au rfl call54 rfl (heq _)) rfl (Qm rfl (Bw (Qm rfl (Qm rfl (Qg (Ar rfl rfl) rfl (Qm rfl (Qm rfl (Qg (oF GY rfl) rfl (Qg (oL rfl CV (d2 _ l24 _)) rfl (Qg (D3 (ty:=30) rfl CV rfl) rfl (Qg (BE (Ca rfl rfl rfl) (ao Value.bool (b7 ω))) rfl (Qm rfl (Qm rfl (Qk rfl (Qk rfl (Qk rfl (Qk rfl (Qm rfl (Qm rfl (An (Aj (Ae ?_)))))))))))))))))))))));exact Al rfl rfl (by rw[b7 hco];rfl)
theorem TP(v vx vy vch vco:Value)(d m:Int)(hd:0<=d/\d<=900)(x y ch co:List Tm)(l:List Ce)(h:Hp)(Q:QsOk v h l)(X:ChR vx h x)(Y:ChR vy h y)(CH:ChR vch h ch)(C:ChR vco h co)(hx:E0 (l.map Ce.c) d x=true)(hy:E0 (l.map Ce.c) d y=true)(bx:Bk (DI (A4 (l.map Ce.c)) x)<2^2000000)(by_:Bk (DI (A4 (l.map Ce.c)) y)<2^2000000)(zx:bz (l.map Ce.c) x=true)(zy:bz (l.map Ce.c) y=true)(hn:x.length+y.length<=100000)(ha:Bk x+Bk y<2^2000000)(hc_:Bk (Gj (A4 (l.map Ce.c)) co)<2^2000000)(hp:Bk co*(Bk x+Bk y)<2^2000000)(hT:(A4 (l.map Ce.c)).length<100000)(hm:Sz m)(ms:List Hp) :
  FnV Tryz.prog 18 #[.agg #[v],.w d,vx,vy,TH false vch vco m] h ms (.bool (decide (ch.length=0)&&(decide (0<=m)&&(E0 (l.map Ce.c) d co&&(PB (l.map Ce.c) m co&&!decide (m∣lin (cf co) x-lin (cf co) y)))))):=by
 refine Ea ?_ ms;have ov:=Q.X.rd.q.rd.one;have osm:(sv (A8 m.natAbs)).oneCell'=true:=rfl;obtain⟨xa,xc,rfl,_⟩:=X.rd.rd.ex;obtain⟨ya,yc,rfl,_⟩:=Y.rd.rd.ex;obtain⟨ha_,hc2,rfl,_⟩:=CH.rd.rd.ex;obtain⟨ca,cc,rfl,_⟩:=C.rd.rd.ex;unfold TH;refine Ao func18 ntmps18 rfl rfl (fun w0 hw0=>?_);simp only[AS];refine As (AK [_] rfl rfl (by rfl) rfl rfl rfl (fun g5=>AK [_,_,_,_,_] rfl rfl (by rfl) rfl rfl rfl (fun g9=>Qm rfl (An (Aw 0 rfl fun h1 l1 hS9=>(Aw 0 rfl fun h2 l2 hS5=>?_))))));have l02:=AD l1 l2;have s5:∀h',h2.le h'->∀ms,Seg h' ms (⟨g5,0,none⟩:Addr) [v]:=fun h' q ms=>(hS5.le q).any;have d0:∀h',h2.le h'->∀ms,Cell h' ms ((⟨g9,0,none⟩:Addr).add 0) (.bool false):=fun h' q ms=>(((hS9.le l2) 0 _ rfl).any).le q;have d1:∀h',h2.le h'->∀ms,Cell h' ms ((⟨g9,0,none⟩:Addr).add 1) (.slice ha_ ch.length hc2):=fun h' q ms=>(((hS9.le l2) 1 _ rfl).any).le q;have d2:∀h',h2.le h'->∀ms,Cell h' ms ((⟨g9,0,none⟩:Addr).add 2) (.slice ca co.length cc):=fun h' q ms=>(((hS9.le l2) 2 _ rfl).any).le q
 have s9:∀h',h2.le h'->∀ms,Seg h' ms ((⟨g9,0,none⟩:Addr).add 3) (Bl m):=fun h' q ms i u hu=>by
  have:=(((hS9.le l2).le q) (3+i) u (by rw[Nat.add_comm];exact hu)).any (ms:=ms)
  rwa [BK]
 have Q2:=Q.up l02;have X2:=X.up l02;have Y2:=Y.up l02;have CO2:=C.up l02;have hw:=Q9 v _ _ d x y l h2 Q2 X2 Y2 bx by_ hT;have hw0:wrF (l.map Ce.c) d x y=0:=by unfold wrF;rw[hx,hy,zx,zy];rfl
 rw[hw0]at hw;refine As (Qx (oG rfl Dz Bj (s5 _ (BD) _)) rfl (Qm rfl (Qm rfl (Qm rfl (Qx (Au rfl call24 rfl (hw _)) rfl (Qm rfl (An (Ac (As (Qm rfl (Qm rfl (An (Ax rfl (fun hc=>ib hc σ) (fun hc=>Ah (Ab (As (Qm rfl (Qm rfl (Qc call50 rfl (VS _ _ x y h2 X2 Y2 hn ha) (fun wd h3 ms3 l3 hF=>?_))))))))))))))))))));obtain⟨l3',rfl,dl,CD,CRd,hda,hdn⟩:=hF;obtain⟨da,dc,rfl,_⟩:=CRd.rd.rd.ex;refine Qm rfl (An (Ac (As (Qf Ig rfl (Ql rfl U4 (d0 _ l3' _) (An ?_))))));have hin:=VM v (.slice ca co.length cc) l d co h3 (Q2.X.up l3') (CO2.up l3');obtain⟨b1,hb1⟩:∃b,E0 (l.map Ce.c) d co=b:=⟨_,rfl⟩
 rw[hb1]at hin ⊢;cases b1
 ·refine AN rfl (Ah (Ab (As (Qx (oG rfl Dz Bj (s5 _ l3' _)) rfl (Qm rfl (Qf GY rfl (Ql rfl CV (d2 _ l3' _) (Qx (Au rfl call53 rfl (hin _)) rfl (Qm rfl (An (Ac (As (Qm rfl (Qm rfl (Qm rfl (Qk rfl (Qk rfl (Qk rfl (Qk rfl (Qm rfl (Qm rfl (Qk rfl (Qk rfl (Qk rfl (Qk rfl (Qm rfl (An (AX rfl (As (Qm rfl (An (Aj (Ae ?_)))))))))))))))))))))))))))))))));exact Al rfl rfl σ
 ·by_cases hch:ch.length=0
  rotate_left
  ·refine AN rfl (Ah (Ab (As (Qx (oG rfl Dz Bj (s5 _ l3' _)) rfl (Qm rfl (Qf GY rfl (Ql rfl CV (d2 _ l3' _) (Qx (Au rfl call53 rfl (hin _)) rfl (Qm rfl (An (Ac (As (Qm rfl (Qm rfl (Qm rfl (Qg (oF GS rfl) rfl (Qg (oL rfl CV (d1 _ l3' _)) rfl (Qg (D3 (ty:=30) rfl CV rfl) rfl (Qg (BE (Cs rfl rfl rfl) (ao Value.bool (bm ω))) rfl (Qm rfl (Qm rfl (Qk rfl (Qk rfl (Qk rfl (Qk rfl (Qm rfl (An (AX rfl (As (Qm rfl (An (Aj (Ae ?_)))))))))))))))))))))))))))))))));exact Al rfl rfl (by rw[b7 hch];rfl)
  ·rw[bm hch];by_cases hm0:m<0
   ·have hsg:m.sign<0:=by rw[Int.sign_eq_neg_one_of_neg hm0];decide
    refine AN rfl (Ah (Ab (As (Qx (oG rfl Dz Bj (s5 _ l3' _)) rfl (Qm rfl (Qf GY rfl (Ql rfl CV (d2 _ l3' _) (Qx (Au rfl call53 rfl (hin _)) rfl (Qm rfl (An (Ac (As (Qm rfl (Qm rfl (Qm rfl (Qg (oF GS rfl) rfl (Qg (oL rfl CV (d1 _ l3' _)) rfl (Qg (D3 (ty:=30) rfl CV rfl) rfl (Qg (BE (Cs rfl rfl rfl) (ao Value.bool (b7 ω))) rfl (Qm rfl (Qm rfl (Qg (oF Is rfl) rfl (Qg (oG rfl BC Ay (s9 _ l3' _)) rfl (Qg (Au rfl call55 rfl (FH m hm _ _)) rfl (Qg (BE (DB rfl rfl rfl) (ao Value.bool (bm hsg))) rfl (Qm rfl (An (AX rfl (As (Qm rfl (An (Aj (Ae ?_)))))))))))))))))))))))))))))))));exact Al rfl rfl (by rw[b7 (show ¬0<=m by omega)];rfl)
   ·have hsg:¬m.sign<0:=by
     rcases Int.lt_trichotomy m 0 with q|q|q
     ·omega
     ·rw[q];decide
     ·rw[Int.sign_eq_one_of_pos q];decide
    rw[bm (show 0<=m by omega)];refine AN rfl (Ah (Ab (As (Qx (oG rfl Dz Bj (s5 _ l3' _)) rfl (Qm rfl (Qf GY rfl (Ql rfl CV (d2 _ l3' _) (Qx (Au rfl call53 rfl (hin _)) rfl (Qm rfl (An (Ac (As (Qm rfl (Qm rfl (Qm rfl (Qg (oF GS rfl) rfl (Qg (oL rfl CV (d1 _ l3' _)) rfl (Qg (D3 (ty:=30) rfl CV rfl) rfl (Qg (BE (Cs rfl rfl rfl) (ao Value.bool (b7 ω))) rfl (Qm rfl (Qm rfl (Qg (oF Is rfl) rfl (Qg (oG rfl BC Ay (s9 _ l3' _)) rfl (Qg (Au rfl call55 rfl (FH m hm _ _)) rfl (Qg (BE (DB rfl rfl rfl) (ao Value.bool (b7 hsg))) rfl (Qm rfl (An (AN rfl (Ah (Ab (As (Qx (oG rfl Dz Bj (s5 _ l3' _)) rfl (Qf GY rfl (Ql rfl CV (d2 _ l3' _) (Qc call56 rfl (Adn v _ l co h3 (Q2.X.up l3') (CO2.up l3') hc_ hT) (fun wz h4 ms4 l4 hF=>?_))))))))))))))))))))))))))))))))))));obtain⟨l4',rfl,lz,CZ,CRz,_,hlz⟩:=hF;have l24:=AD l3' l4';have owz:=CRz.rd.rd.one;have hclo:=VC (m:=m) CZ;obtain⟨p,hp_⟩:∃p,lz.length=p:=⟨_,rfl⟩
    have hpb:p<=100000:=hp_ ▸ CRz.len;have rZ:Rd h4 [] wz 3 p (lz.flatMap DK):=by have:=CRz.rd.rd;rwa [hp_]at this
    refine Qm rfl (An (Ac (As (Qm rfl (An (Af ?_))))));refine AC (fun q sl h' ms'=>∃(k:Nat),p-k=q/\sl=[(9,.pt g9),(12,.slice da dl.length dc),(16,wz),(17,.w (k:Int))]/\h4=h'/\ms'=[]/\k<=p/\(∀j (hj:j<lz.length),j<k->m∣lz[j].2)) (p-0) _ ⟨0,rfl,rfl,rfl,rfl,ω,fun j _ h=>ω⟩ Qs ?_;rintro q sl h' ms' ⟨k,rfl,rfl,rfl,rfl,hk,hall⟩;refine Ac (As (Qm rfl (Qm rfl (Qx (Aq rZ.any rfl CV rfl) rfl (Qm rfl (An ?_))))));refine Ax rfl (fun hlt=>?_) (fun hlt=>?_)
    ·have hkp:k<p:=ω
     have hkl:k<lz.length:=ω
     obtain⟨t,ht⟩:∃t,lz[k]=t:=⟨_,rfl⟩
     have htm:t∈lz:=ht ▸ ap hkl;have ost:(sv (A8 t.2.natAbs)).oneCell'=true:=rfl;have gT:∀ms,Seg h4 ms ((AI wz).add (k*3)) (DK t):=fun ms=>by rw[<-ht];exact(CRz.rd.any (ms:=ms)).seg hkl
     have hdv:=YB m t.2 hm (CRz.sz htm) h4;by_cases hdt:m∣t.2
     all_goals first|rw[bm hdt]at hdv|rw[b7 hdt]at hdv
     ·refine Ah (Ab (Ac (Af (Ac (AU (n:=9) (bs:=[ic,ic,ic,ic,ic,ic,ic,ic,ie]) [ic,ic,ic,ic,ic,ic,ic,ic] CK κ κ rfl rfl (QF Is rfl (Qp rfl (oG rfl BC Ay (s9 _ l24 _)) (Qq rfl (Qq rfl (Qp rfl (BR (k) rZ.any rfl CV Cx rfl rfl) (QF GR rfl (Qp rfl (oG rfl BC Ay (FY (gT _))) (Qp rfl (Au rfl call57 rfl (hdv _)) ?_)))))))))))));unfold Do;simp only[bj,aw];refine Qo 8 rfl (Qm rfl (Qw (Qe (Ab (As (Qm rfl (Qm rfl (An (AN rfl (Ah (Ai (Ab (Ad (Qm rfl (Qx (oA rfl) rfl (Qm rfl (Am ?_)))))))))))))))))
      exact Ap (p-(k+1)) _ ω ⟨k+1,rfl,rfl,rfl,rfl,ω,fun j hj h=>by
       by_cases e:j=k
       ·subst e;rw[ht];exact hdt
       ·exact hall j hj ω⟩ Qs
     ·refine Ah (Ab (Ac (Af (Ac (AU (n:=9) (bs:=[ic,ic,ic,ic,ic,ic,ic,ic,ie]) [ic,ic,ic,ic,ic,ic,ic,ic] CK κ κ rfl rfl (QF Is rfl (Qp rfl (oG rfl BC Ay (s9 _ l24 _)) (Qq rfl (Qq rfl (Qp rfl (BR (k) rZ.any rfl CV Cx rfl rfl) (QF GR rfl (Qp rfl (oG rfl BC Ay (FY (gT _))) (Qp rfl (Au rfl call57 rfl (hdv _)) ?_)))))))))))));unfold Do;simp only[bj,aw];refine Qo 8 rfl (Qm rfl (Qw (Qe (Ab (As (Qm rfl (Qm rfl (An (AX rfl (As (Qm rfl (An (Aj (Ak (Ae (Ae (Ak (Ae ?_))))))))))))))))))
      have hcl:PB (l.map Ce.c) m co=false:=by rw[<-hclo];have:(lz.any fun p=>!decide (m∣p.2))=true:=List.any_eq_true.2 ⟨t,htm,by rw[b7 hdt];rfl⟩;rw[this];rfl
      exact Al rfl rfl (by rw[hcl];rfl)
    ·obtain rfl:k=p:=ω
     have hcl:PB (l.map Ce.c) m co=true:=by
      rw[<-hclo]
      have:(lz.any fun p=>!decide (m∣p.2))=false:=by rw[List.any_eq_false];intro u hu;obtain⟨j,hj,rfl⟩:=df.1 hu;rw[bm (hall j hj ω)];simp
      rw[this];rfl
     rw[hcl];have hpl:Bk co*Bk dl<2^2000000:=Nat.lt_of_le_of_lt (Nat.mul_le_mul_left _ hda) hp;have hpair:=Aa4 _ _ co dl h4 (CO2.up l24) (CRd.up l4') hpl;rw[Pp CD]at hpair
     have hps:Sz (lin (cf co) x-lin (cf co) y):=by rw[<-Pp CD];exact La (bp (LN (C4 co) dl) (ak _)) hpl δ
     obtain⟨pr,hpr⟩:∃pr,lin (cf co) x-lin (cf co) y=pr:=⟨_,rfl⟩
     rw[hpr]at hpair hps ⊢;have osp:(sv (A8 pr.natAbs)).oneCell'=true:=rfl;refine AA (Aa (Aa (Ag (Ab (Ac (AU (n:=9) (bs:=[ic,ic,ic,ic,ic,ic,ic,ic,ie]) [ic,ic,ic,ic,ic,ic,ic,ic] CK κ κ rfl rfl (QF Is rfl (Qp rfl (oG rfl BC Ay (s9 _ l24 _)) (QF GY rfl (QL rfl CV (d2 _ l24 _) (Qq rfl (Qp rfl (Au rfl call58 rfl (hpair _)) (Qp rfl (Au rfl call57 rfl (YB m pr hm hps _ _)) (Qq rfl ?_))))))))))))));unfold Do;simp only[bj,aw];refine Qo 8 rfl (Qm rfl (Qw (Qe (Ab (Aj ?_)))));exact Al rfl rfl (rfl)
end
section
open Go.Lin Go.Wd Go.Sm Go.Ch
variable {α:Type} {ch:List Tm}
theorem G3{g:α->Int}:∀{l:List α},(∀x∈l,g x=0)->(l.map g).sum=0
 | [],_=>rfl
 | x::l,h=>by rw[dq,sum_cons,h x aq,G3 λy hy=>h y (be _ hy)];rfl
theorem Oa(g:α->Int){l r:List α}(h:l.Perm r):(l.map g).sum=(r.map g).sum:=by
 induction h with
 | nil=>rfl
 | cons x _ ih=>rw[dq,dq,sum_cons,sum_cons,ih]
 | swap x y l=>simp only[dq,sum_cons];omega
 | trans _ _ h1 h2=>exact h1.trans h2
theorem Nh{g:α->Int}{P:α->Bool}:∀{l:List α},(∀x∈l,P x=false->g x=0)->((l.filter P).map g).sum=(l.map g).sum
 | [],_=>rfl
 | x::l,h=>by
  have ih:=Nh (l:=l) λy hy=>h y (be _ hy);cases e:P x with
  | true=>rw[List.filter_cons_of_pos e,dq,sum_cons,dq,sum_cons,ih]
  | false=>rw[List.filter_cons_of_neg (by rw[e];simp),ih,dq,sum_cons,h x aq e];omega
theorem TS{o:List Cl}(R:Rgt o):((ordF o).map Cl.id).Nodup:=by have h:=R.ordF.inc;rw[List.nodup_iff_pairwise_ne,pairwise_map];exact h.imp λq=>ω
theorem mem_ord{o:List Cl}{x:Cl}:x∈ordF o<->∃y∈o,x=y.can:=by rw[(D1 o.length o (ak _)).mem_iff,mem_map];exact⟨λ⟨y,h,e⟩=>⟨y,h,e.symm⟩,λ⟨y,h,e⟩=>⟨y,h,e.symm⟩⟩
theorem has_iff{o:List Cl}{d c:Int}:IY o d c=true<->∃x∈o,x.id=c/\x.dim=d:=by unfold IY;rw[List.any_eq_true];simp
theorem mem_ids{o:List Cl}{d c:Int}:c∈Ba (ordF o) d<->∃x∈o,x.id=c/\x.dim=d:=by
 unfold Ba;rw[mem_map];constructor
 ·rintro⟨x,hx,rfl⟩;obtain⟨h1,h2⟩:=dm.1 hx;obtain⟨y,hy,rfl⟩:=mem_ord.1 h1;exact⟨y,hy,Y,du h2⟩
 ·rintro⟨y,hy,rfl,rfl⟩;exact⟨y.can,dm.2 ⟨mem_ord.2 ⟨y,hy,Y⟩,by simp[Cl.can]⟩,rfl⟩
theorem Pr{o:List Cl}(R:Rgt o)(d:Int):(Ba (ordF o) d).Nodup:=by have h:=RJ R.ordF d;rw[List.nodup_iff_pairwise_ne];exact h.imp λq=>ω
theorem OA{o:List Cl}(R:Rgt o){x y:Cl}(hx:x∈o)(hy:y∈o)(e:x.id=y.id):x=y:=by have h1:=EX R.nd hx;have h2:=EX R.nd hy;rw[e,h2]at h1;exact(ax h1).symm
theorem Kl(x:Cl)(c:Int):sgn x.can.sd c=sgn x.sd c:=Oa _ (Dw x.sd)
theorem AeE{o:List Cl}(R:Rgt o)(g:Cl->Int)(d:Int)(hg:∀x∈o,g x.can=g x)(h:∀x∈o,x.dim≠d->g x=0):(o.map g).sum=sm (Ba (ordF o) d).length λj=>g (Io (ordF o) ((Ba (ordF o) d).getD j 0)):=by
 have e1:(o.map g).sum=((ordF o).map g).sum:=by rw[Oa g (D1 o.length o (ak _)),gc];congr 1;exact map_congr_left λx hx=>(hg x hx).symm
 rw[e1,<-Nh (P:=λc=>decide (c.dim=d)) λx hx hP=>by
  obtain⟨y,hy,rfl⟩:=mem_ord.1 hx;rw[hg y hy]
  exact h y hy (of_decide_eq_false hP)]
 rw[<-Ub (λc=>g (Io (ordF o) c))];unfold Ba;rw[gc];congr 1;refine map_congr_left λx hx=>?_;have:=EX (TS R) (dm.1 hx).1;show g x=g (Io (ordF o) x.id);unfold Io;rw[this];rfl
theorem YS(p:Int×(Int×Int))(S:List (Int×(Int×Int)))(a:List Tm):DI (p::S) a=(if cf a p.1≠0 then [((p.2.1,cf a p.1*p.2.2):Tm)] else [])++DI S a:=by unfold DI;by_cases h:cf a p.1=0<;>simp[h]
theorem Y5(p:Int×(Int×Int))(S:List (Int×(Int×Int)))(a:List Tm):Gj (p::S) a=(if cf a p.2.1≠0 then [((p.1,cf a p.2.1*p.2.2):Tm)] else [])++Gj S a:=by unfold Gj;by_cases h:cf a p.2.1=0<;>simp[h]
theorem YT{g:Int->Int}(c n:Int)(P:Prop)[Decidable P](h:¬P->n=0):lin g (if P then [((c,n):Tm)] else [])=g c*n:=by
 split
 ·show g c*n+0=_;omega
 ·rename_i q;rw[h q];show(0:Int)=_;simp
theorem YL(o:List Cl)(g:Int->Int)(ch:List Tm):lin g (DI (A4 o) ch)=(o.map λx=>cf ch x.id*lin g x.sd).sum:=by
 induction o with
 | nil=>rfl
 | cons x o ih=>
  have e:A4 (x::o)=(x.sd.map λs=>(x.id,s))++A4 o:=rfl;rw[e,No,Fe,ih,dq,sum_cons];congr 1;generalize x.sd=sd
  induction sd with
  | nil=>show(0:Int)=_*0;simp
  | cons s sd ih2=>
   rw[map_cons,YS,Fe,ih2,YT _ _ _ (fun q=>by have q:cf ch x.id=0:=(by simpa using q);show cf ch x.id*s.2=0;rw[q];simp),DT,Int.mul_add]
   show g s.1*(cf ch x.id*s.2)+_=_;rw[Int.mul_left_comm]
theorem Uc(L:List Tm)(c:Int):cf L c=lin (λa=>if a=c then 1 else 0) L:=by unfold cf lin;congr 1;refine map_congr_left λp _=>?_;show(if p.1=c then p.2 else 0)=(if p.1=c then 1 else 0)*p.2;split<;>simp
theorem L2(o:List Cl)(ch:List Tm)(c:Int):cf (DI (A4 o) ch) c=(o.map λx=>cf ch x.id*sgn x.sd c).sum:=by rw[Uc,YL];congr 1;exact map_congr_left λx _=>by rw[<-Uc];rfl
theorem Adh(o:List Cl)(co:List Tm)(c:Int):cf (Gj (A4 o) co) c=(o.map λx=>if x.id=c then lin (cf co) x.sd else 0).sum:=by
 induction o with
 | nil=>rfl
 | cons x o ih=>
  have e:A4 (x::o)=(x.sd.map λs=>(x.id,s))++A4 o:=rfl;rw[e,M8,Eo,ih,dq,sum_cons];congr 1;generalize x.sd=sd
  induction sd with
  | nil=>show(0:Int)=if _ then 0 else 0;simp
  | cons s sd ih2=>
   rw[map_cons,Y5,Eo,ih2,Uc,YT _ _ _ (fun q=>by have q:cf co s.1=0:=(by simpa using q);show cf co s.1*s.2=0;rw[q];simp),DT]
   show(if x.id=c then 1 else 0)*(cf co s.1*s.2)+_=_;split<;>simp
theorem MK{o:List Cl}(R:Rgt o)(co:List Tm){x:Cl}(hx:x∈o):cf (Gj (A4 o) co) x.id=lin (cf co) x.sd:=by
 rw[Adh]
 have key:∀l:List Cl,l.Nodup->x∈l->(∀y∈l,y.id=x.id->y=x)->(l.map λy=>if y.id=x.id then lin (cf co) y.sd else 0).sum=lin (cf co) x.sd:=by
  intro l
  induction l with
  | nil=>intro _ h;cases h
  | cons y l ih=>
   intro hn h hu;obtain⟨h1,h2⟩:=fe.1 hn;rw[dq,sum_cons];by_cases e:y=x
   ·subst e;rw[af rfl,G3 λz hz=>ab λq=>h1 (by rw[<-hu z (be _ hz) q];exact hz)];omega
   ·rw[ab (λq=>e (hu y aq q)),ih h2 ((bi.1 h).resolve_left (fg e)) λz hz=>hu z (be _ hz)];omega
 refine key o ?_ hx λy hy q=>OA R hy hx q;have:=R.nd;rw[List.nodup_iff_pairwise_ne,pairwise_map]at this;rw[List.nodup_iff_pairwise_ne];exact this.imp λq e=>q (by rw[e])
theorem QW{o:List Cl}(co:List Tm){c:Int}(h:∀x∈o,x.id≠c):cf (Gj (A4 o) co) c=0:=by rw[Adh];exact G3 λx hx=>ab (h x hx)
theorem Ad5{o:List Cl}(R:Rgt o){d:Int}(hch:∀c,cf ch c≠0->IY o (d+1) c=true)(c:Int):cf (DI (A4 o) ch) c=sm (Ba (ordF o) (d+1)).length λj=>sgn (Io (ordF o) ((Ba (ordF o) (d+1)).getD j 0)).sd c*cf ch ((Ba (ordF o) (d+1)).getD j 0):=by
 rw[L2,AeE R _ (d+1) (fun x _=>by rw[Kl];rfl) fun x hx hd=>by
  have:cf ch x.id=0:=ay λq=>by obtain⟨y,hy,e1,e2⟩:=has_iff.1 (hch _ q);rw[OA R hy hx e1]at e2;exact hd e2
  rw[this,Int.zero_mul]]
 refine Be λj hj=>?_
 have hm:(Ba (ordF o) (d+1)).getD j 0∈Ba (ordF o) (d+1):=by rw[show(Ba (ordF o) (d+1)).getD j 0=(Ba (ordF o) (d+1))[j] by simp[List.getD,hj]];exact ap hj
 unfold Ba at hm;obtain⟨x,hx,e⟩:=aj.1 hm;have:=EX (TS R) (dm.1 hx).1;rw[e]at this;have e2:Io (ordF o) ((Ba (ordF o) (d+1)).getD j 0)=x:=by unfold Io;rw[show ZV (ordF o) ((Ba (ordF o) (d+1)).getD j 0)=some x from this];rfl
 rw[e2,gv];congr 2
theorem OZ{o:List Cl}(R:Rgt o){d:Int}{j:Nat}(hj:j<(Ba (ordF o) d).length):∃x∈o,x.dim=d/\Io (ordF o) ((Ba (ordF o) d).getD j 0)=x.can/\(Ba (ordF o) d).getD j 0=x.id:=by
 have hm:(Ba (ordF o) d).getD j 0∈Ba (ordF o) d:=by rw[show(Ba (ordF o) d).getD j 0=(Ba (ordF o) d)[j] by simp[List.getD,hj]];exact ap hj
 unfold Ba at hm;obtain⟨x,hx,e⟩:=aj.1 hm;obtain⟨h1,h2⟩:=dm.1 hx;have:=EX (TS R) h1;rw[e]at this;have e2:Io (ordF o) ((Ba (ordF o) d).getD j 0)=x:=by unfold Io;rw[show ZV (ordF o) ((Ba (ordF o) d).getD j 0)=some x from this];rfl
 obtain⟨y,hy,rfl⟩:=mem_ord.1 h1;exact⟨y,hy,du h2,e2,e.symm⟩
theorem ON{r c:Nat}{M:List (List Int)}(S:Shape r c M){k:Nat}(hk:k<r):We c M.flatten k=if k<c then AO M k k else 0:=by
 unfold We;split
 ·rename_i hkc
  have hlt:k*c+k<r*c:=by have:(k+1)*c<=r*c:=dw _ hk;rw[db,fk]at this;omega
  rw[S.flat];unfold List.getD;rw[mat_at? hlt];show AO M ((k*c+k)/c) ((k*c+k)%c)=_;rw[dr k c,Nat.mul_add_div ω,fh hkc,Nat.mul_add_mod,cw hkc,Nat.add_zero]
 ·rfl
section
variable {o:List Cl} {d:Int} {ids0 ids1:List Int} {r c:Nat} {f:Nat->Nat->Int} {S:FS} {x y:List Tm} {D C:Nat->Int}
theorem ZE(R:Rgt o)(hi0:Ba (ordF o) d=ids0)(hi1:Ba (ordF o) (d+1)=ids1)(hr:ids0.length=r)(hc:ids1.length=c)(hF:HR (ordF o) (d+1)=f)(G:Gf r c f S)(hx:E0 o d x=true)(hy:E0 o d y=true)(hDe:We c S.d.flatten=D)(hCe:ubF S r (λi=>cf x (ids0.getD i 0)-cf y (ids0.getD i 0))=C)(hall:∀j,j<r->D j∣C j)(hch:CanL ch (cf (ids1.zip (Dt c λi=>sm c λq=>AO S.v i q*Fo r D C q)))):E0 o (d+1) ch=true/\Ri o x y ch=true:=by
 have hn1:ids1.Nodup:=hi1 ▸ Pr R (d+1);have hX:∀j,j<c->cf ch (ids1.getD j 0)=sm c λq=>AO S.v j q*Fo r D C q:=λj hj=>by rw[hch.cf_eq,Vz hn1 _ hc hj]
 have hsup:∀a,cf ch a≠0->IY o (d+1) a=true:=λa ha=>by rw[hch.cf_eq]at ha;have:a∈ids1:=ay λq=>ha (VQ q);rw[<-hi1,mem_ids]at this;exact has_iff.2 this
 have hD:∀k,k<r->D k=if k<c then AO S.d k k else 0:=λk hk=>by rw[<-hDe];exact ON G.shp.sd hk
 refine⟨(Hz _ _ _).2 hsup,(GD _ _ _ _).2 λa=>?_⟩;rw[Ad5 R hsup,hi1,hc];by_cases ha:a∈ids0
 ·obtain⟨i,hi,rfl⟩:=YU ha;have hir:i<r:=ω
  rw[<-AaI G (b:=λi=>cf x (ids0.getD i 0)-cf y (ids0.getD i 0)) (y:=Fo r D C) (λk hk=>?_) i hir]
  ·refine Be λj hj=>?_;rw[hX j hj,<-hF];unfold HR;rw[hi1,show d+1-1=d by omega,hi0]
  ·have h2:sm r (λq=>AO S.u k q*(cf x (ids0.getD q 0)-cf y (ids0.getD q 0)))=C k:=by rw[<-hCe];rfl
   rw[h2];have hk2:=hD k hk;unfold Fo;by_cases hkc:k<c
   ·rw[af hkc]at hk2 ⊢;rw[<-hk2];by_cases h0:D k=0
    ·rw[h0,Int.zero_mul];have:=hall k hk;rw[h0,Int.zero_dvd]at this;exact this.symm
    ·rw[af ⟨hk,h0⟩];exact Int.mul_ediv_cancel' (hall k hk)
   ·rw[ab hkc]at hk2 ⊢;have:=hall k hk;rw[hk2,Int.zero_dvd]at this;exact this.symm
 ·have h1:IY o d a=false:=by rw[<-hi0,mem_ids]at ha;exact Bool.eq_false_iff.2 λq=>ha (has_iff.1 q)
  have hx0:cf x a=0:=ay λq=>by rw[(Hz _ _ _).1 hx a q]at h1;cases h1
  have hy0:cf y a=0:=ay λq=>by rw[(Hz _ _ _).1 hy a q]at h1;cases h1
  rw[hx0,hy0];show _=(0:Int);refine Km λj hj=>?_;obtain⟨z,hz,e1,e2,_⟩:=OZ R (d:=d+1) (j:=j) (by rw[hi1,hc];exact hj);rw[hi1]at e2
  have h0:sgn z.sd a=0:=SU λs hs e=>by obtain⟨w,hw,e3,e4⟩:=R.sid z hz s hs;have:IY o d a=true:=has_iff.2 ⟨w,hw,e3.trans e,ω⟩;rw[this]at h1;cases h1
  rw[e2,Kl,h0,Int.zero_mul]
theorem AbT(R:Rgt o)(hi0:Ba (ordF o) d=ids0)(hi1:Ba (ordF o) (d+1)=ids1)(hr:ids0.length=r)(hc:ids1.length=c)(hF:HR (ordF o) (d+1)=f)(G:Gf r c f S)(hx:E0 o d x=true)(hy:E0 o d y=true)(hDe:We c S.d.flatten=D)(hCe:ubF S r (λi=>cf x (ids0.getD i 0)-cf y (ids0.getD i 0))=C){k:Nat}(hk:k<r)(hnd:¬D k∣C k){co:List Tm}(hco:CanL co (cf (ids0.zip (Dt r (AO S.u k))))):0<=D k/\(D k).natAbs<2147483648/\E0 o d co=true/\PB o (D k) co=true/\¬D k∣lin (cf co) x-lin (cf co) y:=by
 have hn0:ids0.Nodup:=hi0 ▸ Pr R d;have hU:∀j,j<r->cf co (ids0.getD j 0)=AO S.u k j:=λj hj=>by rw[hco.cf_eq,Vz hn0 _ hr hj]
 have hin:∀a,cf co a≠0->a∈ids0:=λa ha=>by rw[hco.cf_eq]at ha;exact ay λq=>ha (VQ q)
 have hsup:∀a,cf co a≠0->IY o d a=true:=λa ha=>by have:=hin a ha;rw[<-hi0,mem_ids]at this;exact has_iff.2 this
 have hD:D k=if k<c then AO S.d k k else 0:=by rw[<-hDe];exact ON G.shp.sd hk
 have hlin:∀L:List Tm,lin (cf co) L=sm r λi=>AO S.u k i*cf L (ids0.getD i 0):=λL=>by rw[Pu hn0 λp _ q=>hin _ q,hr];exact Be λi hi=>by rw[hU i hi]
 refine⟨?_,?_,(Hz _ _ _).2 hsup,(Kq _ _ _).2 λa=>?_,?_⟩
 ·rw[hD];split
  ·rename_i h;exact(G.p k hk h).1
  ·exact Int.le_refl _
 ·rw[hD];split
  ·rename_i h;exact(G.p k hk h).2
  ·decide
 ·by_cases ha:∃z∈o,z.id=a
  ·obtain⟨z,hz,rfl⟩:=ha;rw[MK R co hz];by_cases hd:z.dim=d+1
   ·have hm:z.id∈ids1:=by rw[<-hi1];exact mem_ids.2 ⟨z,hz,Y,hd⟩
    obtain⟨j,hj,e⟩:=YU hm;obtain⟨w,hw,e1,e2,e3⟩:=OZ R (d:=d+1) (j:=j) (by rw[hi1];exact hj);rw[hi1]at e2 e3;obtain rfl:w=z:=OA R hw hz (e3.symm.trans e);have:=XP G k j hk ω;rw[<-hD]at this;rw[hlin];refine(ao (λq=>D k∣q) (Be λi hi=>?_)).mp this;congr 1;rw[<-hF];unfold HR;rw[hi1,show d+1-1=d by omega,hi0,e2,Kl];rfl
   ·rw[MH λs hs=>ay λq=>by
     obtain⟨w,hw,e3,e4⟩:=R.sid z hz s hs;obtain⟨w2,hw2,e5,e6⟩:=has_iff.1 (hsup _ q);obtain rfl:w=w2:=OA R hw hw2 (e3.trans e5.symm)
     omega]
    exact Int.dvd_zero _
  ·rw[QW co λz hz e=>ha ⟨z,hz,e⟩];exact Int.dvd_zero _
 ·have e:lin (cf co) x-lin (cf co) y=C k:=by rw[hlin,hlin,<-Aat,<-hCe];exact Be λi _=>by rw[Int.mul_sub]
  rw[e];exact hnd
theorem UT(R:Rgt o){m:Int}{co:List Tm}(hb:Ri o x y ch=true)(hcl:PB o m co=true):m∣lin (cf co) x-lin (cf co) y:=by
 rw[GD]at hb;rw[Kq]at hcl
 have e:lin (cf co) (DI (A4 o) ch)=lin (cf co) x-lin (cf co) y:=by
  have h1:lin (cf co) (DI (A4 o) ch)=lin (cf co) (x++y.map λp=>((p.1,-p.2):Tm)):=Wv _ λa=>by
   rw[hb,Eo]
   have:cf (y.map λp=>((p.1,-p.2):Tm)) a=-(cf y a):=by
    clear hb
    induction y with
    | nil=>rfl
    | cons p y ih=>rw[dq,B6,B6,ih];show(if p.1=a then -p.2 else 0)+_=_;split<;>omega
   rw[this];omega
  rw[h1,Fe]
  have:lin (cf co) (y.map λp=>((p.1,-p.2):Tm))=-(lin (cf co) y):=by
   clear h1 hb
   induction y with
   | nil=>rfl
   | cons p y ih=>rw[dq,DT,DT,ih];show cf co p.1*-p.2+_=_;rw[Int.mul_neg];omega
  rw[this];omega
 rw[<-e,YL]
 have key:∀l:List Cl,(∀z∈l,m∣lin (cf co) z.sd)->m∣(l.map λz=>cf ch z.id*lin (cf co) z.sd).sum:=by
  intro l
  induction l with
  | nil=>intro _;exact Int.dvd_zero _
  | cons z l ih=>
   intro h;rw[dq,sum_cons];exact Int.dvd_add (Int.dvd_trans (h z aq) (Int.dvd_mul_left _ _)) (ih λw hw=>h w (be _ hw))
 exact key o λz hz=>by rw[<-MK R co hz];exact hcl _
end
end
section
open Go.Lin Go.Wd Go.Sm Go.Ch
theorem Vb(r c:Nat)(f:Nat->Nat->Int):(S6 r c f).S.Shp r c:=⟨Dd _ _ _,Dd _ _ _,Dd _ _ _,Dd _ _ _,Dd _ _ _⟩
theorem Zy{n a:Nat}(ha:a<n)(g:Nat->Int):sm n (fun q=>(if a<n/\q<n then IS a q else 0)*g q)=g a:=by rw[Jv n a _ ha fun q hq hne=>by rw[if_pos ⟨ha,hq⟩];unfold IS;rw[if_neg (Ne.symm hne),Int.zero_mul],if_pos ⟨ha,ha⟩];unfold IS;rw[if_pos rfl,Int.one_mul]
theorem Ac1{n a:Nat}(ha:a<n)(g:Nat->Int):sm n (λq=>g q*(if q<n/\a<n then IS q a else 0))=g a:=by rw[Jv n a _ ha λq hq hne=>by rw[af ⟨hq,ha⟩];unfold IS;rw[ab hne,Int.mul_zero],af ⟨ha,ha⟩];unfold IS;rw[af rfl,Int.mul_one]
theorem Aef(r c:Nat)(f:Nat->Nat->Int):Gd r c f 0 (S6 r c f).S:=by
 refine⟨⟨λa j ha hj=>?_,λa j ha hj=>?_,λa b ha hb=>?_⟩,Vb r c f,λa b _ _ _ h=>ω,λa h=>ω⟩
 ·show sm r (λq=>AO (BI r r IS) a q*f q j)=sm c (λq=>AO (BI r c f) a q*AO (BI c c IS) q j);simp only[Hf];rw[Zy ha λq=>f q j,Ac1 hj λq=>if a<r/\q<c then f a q else 0,af ⟨ha,hj⟩]
 ·show sm c (λq=>f a q*AO (BI c c IS) q j)=sm r (λq=>AO (BI r r IS) a q*AO (BI r c f) q j);simp only[Hf];rw[Ac1 hj λq=>f a q,Zy ha λq=>if q<r/\j<c then f q j else 0,af ⟨ha,hj⟩]
 ·show sm r (λq=>AO (BI r r IS) a q*AO (BI r r IS) q b)=_;simp only[Hf];rw[Zy ha λq=>if q<r/\b<r then IS q b else 0,af ⟨ha,hb⟩];rfl
theorem Abu{r c:Nat}{f:Nat->Nat->Int}{s':St}(h:EO r c (min r c) 0 (S6 r c f)=some s'):Gf r c f s'.S:=Tz (Aef r c f) ω h
section
variable {o:List Cl} {r c:Nat} {ids0 ids1:List Int} {f:Nat->Nat->Int}
theorem JU(R:Rgt o){x:Cl}(hx:x∈o)(hd:x.dim=1):∃s t:Int×Int,x.sd=[s,t]/\s.1≠t.1/\s.2+t.2=0/\(s.2=1\/s.2=-1):=by
 have h1:=R.num x hx;have h2:=R.sds x hx;have h3:=R.one x hx hd;have h4:=R.sgn x hx;unfold Ck at h1;obtain⟨sd,hsd⟩:∃sd,x.sd=sd:=⟨_,Y⟩
 rw[hsd]at h1 h2 h3 h4 ⊢;have hl:sd.length=2:=ω
 match sd,hl with
 | [s,t],_=>
  refine⟨s,t,Y,?_,?_,h4 s aq⟩
  ·simp at h2;exact h2
  ·simpa using h3
theorem Aa6(R:Rgt o)(hi0:Ba (ordF o) 0=ids0)(hr:ids0.length=r)(x:Cl)(hx:x∈o)(hd:x.dim=1):Zc r 0 λi=>sgn x.sd (ids0.getD i 0):=by
 have hn0:ids0.Nodup:=hi0 ▸ Pr R 0;obtain⟨s,t,e,h1,h2,h3⟩:=JU R hx hd
 have hin:∀q∈x.sd,q.1∈ids0:=λq hq=>by obtain⟨w,hw,e1,e2⟩:=R.sid x hx q hq;rw[<-hi0];exact mem_ids.2 ⟨w,hw,e1,ω⟩
 constructor
 ·have h:=Pu (g:=λ_=>1) (L:=x.sd) hn0 λp hp _=>hin p hp;rw[hr]at h;rw[Be (g:=λi=>(1:Int)*cf x.sd (ids0.getD i 0)) λi _=>by rw[af (Nat.zero_le _),fy];rfl];refine h.symm.trans ?_;rw[e];show 1*s.2+(1*t.2+0)=0;omega
 ·have h:=Pu (g:=λ_=>1) (L:=[((s.1,1):Tm),(t.1,1)]) hn0 λp hp _=>by
   rcases bi.1 hp with rfl|hp
   ·exact hin s (by rw[e];exact aq)
   ·rw[bg.1 hp];exact hin t (by rw[e];exact be _ aq)
  rw[hr]at h;have h5:sm r (λi=>(1:Int)*cf [((s.1,1):Tm),(t.1,1)] (ids0.getD i 0))=2:=h.symm;rw[<-h5];refine AcX λi _=>?_;rw[af (Nat.zero_le _),fy,e];show((cf [s,t] (ids0.getD i 0)).natAbs:Int)<=_;rw[B6,B6,FW,B6,B6,FW];show _<=(if s.1=_ then(1:Int) else 0)+((if t.1=_ then(1:Int) else 0)+0);split<;>split<;>omega
theorem Uq(R:Rgt o)(hi0:Ba (ordF o) 0=ids0)(hi1:Ba (ordF o) 1=ids1)(hr:ids0.length=r)(hc:ids1.length=c)(hF:HR (ordF o) 1=f)(hn:r+c<=180):∃s',EO r c (min r c) 0 (S6 r c f)=some s':=by
 refine Rt ⟨Vb r c f,λ_=>1,λ_=>.inl Y,λj _ hj=>?_⟩ ?_
 ·obtain⟨x,hx,e1,e2,e3⟩:=OZ R (d:=1) (j:=j) (by rw[hi1,hc];exact hj);rw[hi1]at e2;refine Hg (Aa6 R hi0 hr x hx e1) λi _ hi=>?_;show 1*AO (BI r c f) i j=_;rw[Hf,af ⟨hi,hj⟩,fy,<-hF];unfold HR;rw[hi1,show(1:Int)-1=0 from Y,hi0,e2,Kl]
 ·show 0+min r c*(r+c+2)<=20000;have h1:min r c<=90:=ω
  have h2:=ff h1 (show r+c+2<=182 by omega);omega
end
end
section
open Go.Lin Go.Wd Go.Sm Go.Ch
variable {T:List (Int×Bool)} {E:List (Int×Int)}
theorem Gk(T:List (Int×Bool))(c a:Int)(b:Bool):DC (Cj T c b) a=if a=c then b else DC T a:=by unfold DC;rw[Fc];split<;>rfl
def Ui(T:List (Int×Bool))(p:Int×Int):List (Int×Bool):=if DC T p.1||DC T p.2 then Cj (Cj T p.1 true) p.2 true else T
theorem L3(p:Int×Int){c:Int}(h:DC T c=true):DC (Ui T p) c=true:=by
 unfold Ui;split
 ·rw[Gk,Gk];split
  ·rfl
  ·split
   ·rfl
   ·exact h
 ·exact h
def K0(E:List (Int×Int))(T:List (Int×Bool)):List (Int×Bool):=E.foldl Ui T
theorem HV{c:Int}:∀(E:List (Int×Int)) {T:List (Int×Bool)},DC T c=true->DC (K0 E T) c=true
 | [],T,h=>h
 | p::E,T,h=>HV E (L3 p h)
def KO(E:List (Int×Int)):Nat->List (Int×Bool)->List (Int×Bool)
 | 0,T=>T
 | k+1,T=>K0 E (KO E k T)
def ReC(E:List (Int×Int))(T:List (Int×Bool)):Prop:=∀p∈E,DC T p.1=DC T p.2
theorem Y8{p:Int×Int}(h:DC T p.1=DC T p.2)(c:Int):DC (Ui T p) c=DC T c:=by
 unfold Ui;split
 ·rename_i q;rw[<-h,Bool.or_self]at q;rw[Gk,Gk];split
  ·rename_i e;rw[e,<-h,q]
  ·split
   ·rename_i e;rw[e,q]
   ·rfl
 ·rfl
theorem Ir:∀(E:List (Int×Int)) {T:List (Int×Bool)},ReC E T->∀c,DC (K0 E T) c=DC T c
 | [],T,h,c=>rfl
 | p::E,T,h,c=>by have h1:=Y8 (h p aq);show DC (K0 E (Ui T p)) c=_;rw[Ir E (λq hq=>by rw[h1,h1];exact h q (be _ hq)),h1]
theorem Vi{P:Int->Prop}:∀(E:List (Int×Int)),(∀p∈E,P p.1<->P p.2)->∀{T:List (Int×Bool)},(∀c,DC T c=true->P c)->∀c,DC (K0 E T) c=true->P c
 | [],_,T,h=>h
 | p::E,hE,T,h=>Vi E (λq hq=>hE q (be _ hq)) (T:=Ui T p) λc hc=>by
  have hp:=hE p aq;unfold Ui at hc;split at hc
  ·rename_i q
   have h1:P p.1:=by
    rcases Bool.or_eq_true _ _ |>.mp q with q|q
    ·exact h _ q
    ·exact hp.2 (h _ q)
   rw[Gk,Gk]at hc;by_cases e:c=p.2
   ·rw[e];exact hp.1 h1
   ·rw[ab e]at hc;by_cases e2:c=p.1
    ·rw[e2];exact h1
    ·rw[ab e2]at hc;exact h c hc
  ·exact h c hc
theorem Vx{P:Int->Prop}(hE:∀p∈E,P p.1<->P p.2)(h:∀c,DC T c=true->P c):∀k c,DC (KO E k T) c=true->P c
 | 0=>h
 | k+1=>Vi E hE (Vx hE h k)
theorem Vn:∀(E:List (Int×Int)) {T:List (Int×Bool)} {p:Int×Int},p∈E->(DC T p.1=true\/DC T p.2=true)->DC (K0 E T) p.1=true/\DC (K0 E T) p.2=true
 | q::E,T,p,hp,h=>by
  show DC (K0 E (Ui T q)) p.1=true/\DC (K0 E (Ui T q)) p.2=true;rcases bi.1 hp with rfl|hp
  ·have h1:(DC T p.1||DC T p.2)=true:=by rcases h with h|h<;>rw[h]<;>simp
   refine⟨HV E ?_,HV E ?_⟩
   ·unfold Ui;rw[af h1,Gk,Gk];split
    ·rfl
    ·rw[af rfl]
   ·unfold Ui;rw[af h1,Gk,af rfl]
  ·exact Vn E hp (h.imp (L3 q) (L3 q))
theorem Kw{P Q:Int->Bool}:∀{l:List Int},(∀c∈l,P c=true->Q c=true)->∀{a:Int},a∈l->P a=false->Q a=true->l.countP P+1<=l.countP Q
 | c::l,h,a,ha,h1,h2=>by
  have hle:∀(r:List Int),(∀c∈r,P c=true->Q c=true)->r.countP P<=r.countP Q:=λr hr=>List.countP_mono_left hr;rcases bi.1 ha with rfl|ha
  ·rw[List.countP_cons_of_neg (by rw[h1];simp),List.countP_cons_of_pos h2];have:=hle l λc hc=>h c (be _ hc);omega
  ·have ih:=Kw (l:=l) (λc hc=>h c (be _ hc)) ha h1 h2;cases e:P c with
   | true=>rw[List.countP_cons_of_pos e,List.countP_cons_of_pos (h c aq e)];omega
   | false=>
    rw[List.countP_cons_of_neg (by rw[e];simp)];cases e2:Q c with
    | true=>rw[List.countP_cons_of_pos e2];omega
    | false=>rw[List.countP_cons_of_neg (by rw[e2];simp)];exact ih
theorem SS{V:List Int}(hE:∀p∈E,p.1∈V/\p.2∈V){a:Int}(ha:a∈V)(h0:DC T a=true):∀k,ReC E (KO E k T)\/k+1<=V.countP (DC (KO E k T))
 | 0=>.inr (List.countP_pos_iff.2 ⟨a,ha,h0⟩)
 | k+1=>by
  rcases SS hE ha h0 k with h|h
  ·left
   intro p hp;show DC (K0 E _) _=DC (K0 E _) _;rw[Ir E h,Ir E h];exact h p hp
  ·by_cases q:ReC E (KO E k T)
   ·left
    intro p hp;show DC (K0 E _) _=DC (K0 E _) _;rw[Ir E q,Ir E q];exact q p hp
   ·right
    obtain⟨p,hp,hne⟩:∃p∈E,DC (KO E k T) p.1≠DC (KO E k T) p.2:=ay λw=>q λp hp=>ay λw2=>w ⟨p,hp,w2⟩
    have hor:DC (KO E k T) p.1=true\/DC (KO E k T) p.2=true:=by revert hne;cases DC (KO E k T) p.1<;>cases DC (KO E k T) p.2<;>simp
    obtain⟨w1,w2⟩:=Vn E hp hor;have hm:∀c∈V,DC (KO E k T) c=true->DC (KO E (k+1) T) c=true:=λc _ hc=>HV E hc;cases e1:DC (KO E k T) p.1 with
    | false=>exact bp (Nat.succ_le_succ h) (Kw hm (hE p hp).1 e1 w1)
    | true=>
     have e2:DC (KO E k T) p.2=false:=by rw[e1]at hne;revert hne;cases DC (KO E k T) p.2<;>simp
     exact bp (Nat.succ_le_succ h) (Kw hm (hE p hp).2 e2 w2)
theorem TK{V:List Int}(hE:∀p∈E,p.1∈V/\p.2∈V){a:Int}(ha:a∈V)(h0:DC T a=true){k:Nat}(hk:V.length<=k):ReC E (KO E k T):=by
 rcases SS hE ha h0 k with h|h
 ·exact h
 ·have:=List.countP_le_length (p:=DC (KO E k T)) (l:=V);omega
end
section
open Go.Lin Go.Wd Go.Sm Go.Ch
variable {x:Cl}
def Li(o:List Cl):List (Int×Int):=o.flatMap λx=>if x.dim=1 then [((x.sd.getD 0 default).1,(x.sd.getD 1 default).1)] else []
theorem Ad8{o:List Cl}(R:Rgt o)(g:Cl->Int)(hx:x∈o)(k:Int):(o.map λy=>(if x.id=y.id then k else 0)*g y).sum=k*g x:=by
 have key:∀l:List Cl,l.Nodup->x∈l->(∀y∈l,y.id=x.id->y=x)->(l.map λy=>(if x.id=y.id then k else 0)*g y).sum=k*g x:=by
  intro l
  induction l with
  | nil=>intro _ h;cases h
  | cons y l ih=>
   intro hn h hu;obtain⟨h1,h2⟩:=fe.1 hn;rw[dq,sum_cons];by_cases e:y=x
   ·subst e;rw[if_pos rfl,G3 fun z hz=>by rw[if_neg fun q=>h1 (by rw[<-hu z (mem_cons_of_mem _ hz) q.symm];exact hz),Int.zero_mul]];omega
   ·rw[if_neg (fun q=>e (hu y mem_cons_self q.symm)),Int.zero_mul,ih h2 ((List.mem_cons.1 h).resolve_left (Ne.symm e)) fun z hz=>hu z (mem_cons_of_mem _ hz)];omega
 refine key o ?_ hx λy hy q=>OA R hy hx q;have:=R.nd;rw[List.nodup_iff_pairwise_ne,pairwise_map]at this;rw[List.nodup_iff_pairwise_ne];exact this.imp λq e=>q (by rw[e])
theorem NV{o:List Cl}(R:Rgt o)(hx:x∈o)(k c:Int):cf (DI (A4 o) [(x.id,k)]) c=k*sgn x.sd c:=by rw[L2,<-Ad8 R (λy=>sgn y.sd c) hx k];congr 1;refine map_congr_left λy _=>?_;rw[B6,FW,fu]
theorem Ve{α:Type}(f g:α->Int):∀l:List α,(l.map λx=>f x+g x).sum=(l.map f).sum+(l.map g).sum
 | []=>rfl
 | x::l=>by have ih:=Ve f g l;rw[dq,sum_cons,ih,dq,sum_cons,dq,sum_cons];omega
theorem N3(o:List Cl)(A B:List Tm)(c:Int):cf (DI (A4 o) (A++B)) c=cf (DI (A4 o) A) c+cf (DI (A4 o) B) c:=by rw[L2,L2,L2,<-Ve];congr 1;exact map_congr_left λx _=>by rw[Eo,Int.add_mul]
section
variable {o:List Cl} {a b:Int}
theorem Aai(R:Rgt o){p:Int×Int}(hp:p∈Li o):∃x∈o,∃e:Int,x.dim=1/\x.sd=[(p.1,e),(p.2,-e)]/\(e=1\/e=-1):=by
 unfold Li at hp;obtain⟨x,hx,h⟩:=List.mem_flatMap.1 hp;split at h
 ·rename_i hd;obtain⟨s,t,e,h1,h2,h3⟩:=JU R hx hd;rw[bg.1 h];refine⟨x,hx,s.2,hd,?_,h3⟩;rw[e];show [s,t]=[(s.1,s.2),(t.1,-s.2)];rw[show -s.2=t.2 by omega]
 ·cases h
theorem Aff(R:Rgt o)(hx:x∈o)(hd:x.dim=1):∃p∈Li o,∃e:Int,x.sd=[(p.1,e),(p.2,-e)]:=by
 obtain⟨s,t,e,h1,h2,h3⟩:=JU R hx hd;refine⟨(s.1,t.1),List.mem_flatMap.2 ⟨x,hx,?_⟩,s.2,?_⟩
 ·rw[af hd,e];exact bg.2 Y
 ·rw[e];show [s,t]=[(s.1,s.2),(t.1,-s.2)];rw[show -s.2=t.2 by omega]
def PQ(o:List Cl)(a v:Int):Prop:=∃ch:List Tm,∀c,cf (DI (A4 o) ch) c=cf [((a,1):Tm)] c-cf [((v,1):Tm)] c
theorem Yb(o:List Cl)(a:Int):PQ o a a:=⟨[],λc=>by
 rw[L2,G3 fun x _=>by rw[FW,Int.zero_mul]]
 omega⟩
theorem W4(R:Rgt o){p:Int×Int}(hp:p∈Li o):PQ o a p.1<->PQ o a p.2:=by
 obtain⟨x,hx,e,hd,hs,he⟩:=Aai R hp
 have hsg:∀c k,cf (DI (A4 o) [(x.id,k)]) c=k*((if p.1=c then e else 0)+((if p.2=c then -e else 0)+0)):=λc k=>by rw[NV R hx,hs];rfl
 have he2:∀c,e*((if p.1=c then e else 0)+((if p.2=c then -e else 0)+0))=(if p.1=c then 1 else 0)-(if p.2=c then 1 else 0):=λc=>by rcases he with rfl|rfl<;>split<;>split<;>rfl
 have he3:∀c,-e*((if p.1=c then e else 0)+((if p.2=c then -e else 0)+0))=(if p.2=c then 1 else 0)-(if p.1=c then 1 else 0):=λc=>by rcases he with rfl|rfl<;>split<;>split<;>rfl
 constructor
 ·rintro⟨ch,h⟩;refine⟨ch++[(x.id,e)],λc=>?_⟩;rw[N3,h,hsg,he2];show _-((if p.1=c then(1:Int) else 0)+0)+_=_-((if p.2=c then(1:Int) else 0)+0);omega
 ·rintro⟨ch,h⟩;refine⟨ch++[(x.id,-e)],λc=>?_⟩;rw[N3,h,hsg,he3];show _-((if p.2=c then(1:Int) else 0)+0)+_=_-((if p.1=c then(1:Int) else 0)+0);omega
theorem parts_yes(R:Rgt o)(k:Nat)(h:DC (KO (Li o) k [(a,true)]) b=true):∃ch,Ri o [(a,1)] [(b,1)] ch=true:=by
 have hT:∀c,DC [(a,true)] c=true->PQ o a c:=λc hc=>by
  have:DC [(a,true)] c=if c=a then true else false:=Gk [] a c true
  rw[this]at hc;split at hc
  ·rename_i e;rw[e];exact Yb o a
  ·cases hc
 obtain⟨ch,hch⟩:=Vx (E:=Li o) (λp hp=>W4 R hp) hT k b h;exact⟨ch,(GD _ _ _ _).2 hch⟩
theorem parts_no(R:Rgt o)(ha:a∈Ba (ordF o) 0)(hb:b∈Ba (ordF o) 0)(h:DC (KO (Li o) o.length [(a,true)]) b=false):∃co,PB o 0 co=true/\¬(0:Int)∣lin (cf co) [((a,1):Tm)]-lin (cf co) [((b,1):Tm)]:=by
 obtain⟨T,hT⟩:∃T,KO (Li o) o.length [(a,true)]=T:=⟨_,Y⟩
 rw[hT]at h;obtain⟨V,hV⟩:∃V,Ba (ordF o) 0=V:=⟨_,Y⟩
 rw[hV]at ha hb;have hnV:V.Nodup:=hV ▸ Pr R 0
 have hEV:∀p∈Li o,p.1∈V/\p.2∈V:=λp hp=>by
  obtain⟨x,hx,e,hd,hs,_⟩:=Aai R hp
  have g:∀s∈x.sd,s.1∈V:=λs hq=>by obtain⟨w,hw,e1,e2⟩:=R.sid x hx s hq;rw[<-hV];exact mem_ids.2 ⟨w,hw,e1,ω⟩
  rw[hs]at g;exact⟨g (p.1,e) aq,g (p.2,-e) (be _ aq)⟩
 have h0:DC [(a,true)] a=true:=by
  have:DC [(a,true)] a=if a=a then true else false:=Gk [] a a true
  rw[this,af rfl]
 have hle:V.length<=o.length:=by have:=Ia (ordF o) 0;rw[hV,Gs]at this;exact this
 have hcl:ReC (Li o) T:=hT ▸ TK hEV ha h0 hle
 have haT:DC T a=true:=by
  rw[<-hT]
  have:∀k,DC (KO (Li o) k [(a,true)]) a=true:=λk=>by
   induction k with
   | zero=>exact h0
   | succ k ih=>exact HV _ ih
  exact this _
 obtain⟨co,hco⟩:∃co:List Tm,co=(V.filter λc=>DC T c).map λc=>(c,1):=⟨_,Y⟩
 have hcf:∀c,cf co c=if c∈V/\DC T c=true then 1 else 0:=λc=>by
  rw[hco]
  have key:∀l:List Int,l.Nodup->cf (l.map λc=>((c,1):Tm)) c=if c∈l then 1 else 0:=by
   intro l
   induction l with
   | nil=>intro _;rfl
   | cons z l ih=>
    intro hn;obtain⟨h1,h2⟩:=fe.1 hn;rw[dq,B6,ih h2];show(if z=c then(1:Int) else 0)+_=_;by_cases e:z=c
    ·subst e;rw[af rfl,ab h1,af aq];rfl
    ·rw[ab e,Int.zero_add];have:c∈z::l<->c∈l:=by rw[bi];exact⟨λq=>q.resolve_left (fg e),.inr⟩
     by_cases q:c∈l
     ·rw[af q,af (this.2 q)]
     ·rw[ab q,ab (λw=>q (this.1 w))]
  rw[key _ (hnV.sublist List.filter_sublist)];have:c∈V.filter (λc=>DC T c)<->c∈V/\DC T c=true:=dm;by_cases q:c∈V/\DC T c=true
  ·rw[af q,af (this.2 q)]
  ·rw[ab q,ab λw=>q (this.1 w)]
 have hl:∀x∈o,lin (cf co) x.sd=0:=λx hx=>by
  have hdm:=R.dim x hx;by_cases hd:x.dim=1
  ·obtain⟨p,hp,e,hs⟩:=Aff R hx hd;have h1:=hcl p hp;have h2:=hEV p hp;rw[hs,DT,DT,Vg,hcf,hcf];show(if p.1∈V/\DC T p.1=true then(1:Int) else 0)*e+((if p.2∈V/\DC T p.2=true then(1:Int) else 0)*-e+0)=0;rw[h1];by_cases q:DC T p.2=true
   ·rw[af ⟨h2.1,q⟩,af ⟨h2.2,q⟩];omega
   ·rw[ab (λw=>q w.2),ab (λw=>q w.2)];omega
  ·refine MH λs hs=>?_;rw[hcf,ab];rintro⟨q,_⟩;rw[<-hV]at q;obtain⟨w,hw,e1,e2⟩:=mem_ids.1 q;obtain⟨w2,hw2,e3,e4⟩:=R.sid x hx s hs;obtain rfl:=OA R hw hw2 (e1.trans e3.symm);omega
 refine⟨co,(Kq _ _ _).2 λc=>?_,?_⟩
 ·by_cases q:∃x∈o,x.id=c
  ·obtain⟨x,hx,rfl⟩:=q;rw[MK R co hx,hl x hx];exact Int.dvd_refl _
  ·rw[QW co λx hx e=>q ⟨x,hx,e⟩];exact Int.dvd_refl _
 ·show ¬(0:Int)∣(cf co a*1+0)-(cf co b*1+0);rw[hcf,hcf,af ⟨ha,haT⟩,ab (λw=>by rw[h]at w;exact ib w.2 σ)];decide
end
end
section
open Go.Lin Go.Wd Go.Sm Go.Ch
theorem Zm{S:List (Int×(Int×Int))}{a:List Tm}(h:∀p∈S,p.2.2.natAbs<=1):Bk (DI S a)<=S.length*Bk a:=by
 rw[<-(AaN S a).2]
 induction S with
 | nil=>exact Nat.zero_le _
 | cons p S ih=>
  have ih:=ih fun q hq=>h q (mem_cons_of_mem _ hq);have h1:=h p mem_cons_self;have e:Bk (LA (p::S) a)=(cf a p.1*p.2.2).natAbs+Bk (LA S a):=rfl;rw[e,length_cons,Nat.add_mul,Nat.one_mul,Int.natAbs_mul];have h2:(cf a p.1).natAbs*p.2.2.natAbs<=Bk a*1:=Nat.mul_le_mul (C4 _ _) h1;omega
theorem AdO{S:List (Int×(Int×Int))}{a:List Tm}(h:∀p∈S,p.2.2.natAbs<=1):Bk (Gj S a)<=S.length*Bk a:=by
 rw[<-(AaK S a).2]
 induction S with
 | nil=>exact Nat.zero_le _
 | cons p S ih=>
  have ih:=ih fun q hq=>h q (mem_cons_of_mem _ hq);have h1:=h p mem_cons_self;have e:Bk (LD (p::S) a)=(cf a p.2.1*p.2.2).natAbs+Bk (LD S a):=rfl;rw[e,length_cons,Nat.add_mul,Nat.one_mul,Int.natAbs_mul];have h2:(cf a p.2.1).natAbs*p.2.2.natAbs<=Bk a*1:=Nat.mul_le_mul (C4 _ _) h1;omega
theorem Vs{l:List Cl}(R:Rgt l):∀p∈A4 l,p.2.2.natAbs<=1:=λp hp=>by obtain⟨x,hx,h2⟩:=List.mem_flatMap.1 hp;obtain⟨s,hs,rfl⟩:=aj.1 h2;rcases R.sgn x hx s hs with e|e<;>rw[show((x.id,s):Int×(Int×Int)).2.2=s.2 from Y,e]<;>decide
theorem Gb{a b A B N:Nat}(h1:a<2^A)(h2:b<2^B)(h3:A+B<=N):a*b<2^N:=by have:=Nat.mul_lt_mul'' h1 h2;rw[<-Nat.pow_add]at this;exact cj this (Nat.pow_le_pow_right δ h3)
theorem QZ{B:Nat}{ids:List Int}{n:Nat}{g:Nat->Int}(h:∀i,i<n->Bq B (g i))(hn:n<=200):Bk (ids.zip (Dt n g))<2^(8+B):=by
 have h1:=Qv (B:=B) (ids:=ids) (xs:=Dt n g) λx hx=>by obtain⟨i,hi,rfl⟩:=aj.1 hx;exact h i (ct.1 hi)
 rw[B5]at h1;refine Nat.lt_of_le_of_lt h1 ?_;rw[Nat.pow_add];exact Nat.mul_lt_mul_of_pos_right ω (Nat.pow_pos δ)
theorem Adz{r c:Nat}{S:FS}(O:S.Ok r c 660033){D C b:Nat->Int}(hCe:ubF S r b=C)(hb:∀i,i<r->Bq 100 (b i))(hr:r<=200)(hc:c<=200)(i:Nat):Bq 1320600 (sm c λq=>AO S.v i q*Fo r D C q):=by
 have hCk:∀k,k<r->Bq 660333 (C k):=λk hk=>by rw[<-hCe];exact(JO r λq hq=>((O.bu k q).mul (hb q hq)).mono (show 660033+100<=660133 by decide)).mono ω
 have bY:=QH (D:=D) hCk;exact(JO c λq _=>((O.bv i q).mul (bY q)).mono (show 660033+(660333+1)<=1320400 by decide)).mono ω
def anZ:Value:=.agg #[.bool false,.slice none 0 0,.slice none 0 0,.bool false,sv []]
theorem NC(v vx vy:Value)(d:Int)(hd:0<=d/\d<=900)(x y:List Tm)(l:List Ce)(h:Hp)(Q:QsOk v h l)(X:ChR vx h x)(Y:ChR vy h y)(hx:E0 (l.map Ce.c) d x=true)(hy:E0 (l.map Ce.c) d y=true)(bx:Bk (DI (A4 (l.map Ce.c)) x)<2^2000000)(by_:Bk (DI (A4 (l.map Ce.c)) y)<2^2000000)(zxy:(bz (l.map Ce.c) x&&bz (l.map Ce.c) y)=false) :
  FnT Tryz.prog 16 #[.agg #[v],.w d,vx,vy] h [] (fun w h' ms'=>h.le h'/\ms'=[]/\w=.tuple #[anZ,.w 40]):=by
 have ov:=Q.X.rd.q.rd.one;obtain⟨xa,xc,rfl,_⟩:=X.rd.rd.ex;obtain⟨ya,yc,rfl,_⟩:=Y.rd.rd.ex;refine Ao func16 ntmps16 rfl rfl (fun w0 hw0=>?_);simp only[AS];refine As (AK [_] rfl rfl (by rfl) rfl rfl rfl (fun g4=>BY [.bool false,.nl,.nl,.bool false,.es] rfl FE rfl rfl (fun g8=>Qm rfl (Bw (Qx (oG rfl Dz Bj (Seg.blk 1 rfl)) rfl (Qm rfl (Qm rfl (Qm rfl (Qx (AP AbD [.nl,.w 0,.nl,.nl] [(0,_),(1,_),(2,_),(3,_)] [_,_,_,_] rfl FI rfl rfl Qt rfl) rfl (BY [.nl,.w 0,.nl,.nl] rfl FI rfl rfl (fun g10=>?_)))))))))));refine Sa 0 [_,_,_,_] FI rfl (by simp[ov,Cn]) ?_;refine An (Aw 0 rfl fun h1 l1 hS10=>(Aw 1 rfl fun h2 l2 hS4=>?_));have l02:=AD l1 l2;have s4:∀h',h2.le h'->∀ms,Seg h' ms (⟨g4,0,none⟩:Addr) [v]:=fun h' q ms=>(hS4.le q).any;have s10:∀h',h2.le h'->∀ms,Seg h' ms (⟨g10,0,none⟩:Addr) [v,.w d,.slice xa x.length xc,.slice ya y.length yc]:=fun h' q ms=>((hS10.le l2).le q).any;have Q2:=Q.up l02;have hwr:=IW v (.slice xa x.length xc) (.slice ya y.length yc) d x y l h2 Q2 (X.up l02) (Y.up l02) hx hy bx by_;rw[zxy]at hwr;unfold qV at hwr;refine Ac (As (Qx (oG rfl Yf FI (s10 _ (BD) _)) rfl (Qx (Au rfl call42 rfl (hwr _)) rfl (Qm rfl (Bw (Qm rfl (Qm rfl (An ?_))))))));refine Ax rfl (fun hc=>?_) (fun hc=>ib σ hc);refine As (Qx (AP Abc [.bool false,.nl,.nl,.bool false,.es] [] [_,_,_,_,_] rfl FE rfl rfl Qt rfl) rfl (Qm rfl ?_));refine Sa 0 [_,_,_,_,_] FE rfl (by simp[Value.oneCell']) ?_;refine Qm rfl (An (Aj (Ae ?_)));exact H7 (vs:=[_,_,_,_,_]) 0 rfl rfl rfl U35 rfl FE rfl rfl (⟨l02,rfl,rfl⟩)
end
end Go.Proofs.Q