/- A part of the proof. -/
import Derived.Test.YtmgaeedkcecckaaGreatDoorRE
import Derived.Sort.OwnSortedInts
set_option linter.unusedSimpArgs false
set_option linter.unusedVariables false
set_option linter.unusedSectionVars false
set_option maxRecDepth 100000
set_option maxHeartbeats 4000000

open List (length_singleton replicate range length_append nil_append cons_append append_nil)
namespace Go.Proofs.Q
open Go.Proofs.Tryz
open Go.Eng Go.RowKit
section
open Go.Lin Go.Wd
def IR(a b:Nat):Int:=if a=b then 1 else 0
theorem AbY(n:Nat)(hn:n<=200)(h:Hp):FnT Tryz.prog 180 #[.int .i64 n] h [] (λv h' ms'=>h.le h'/\Qd v ms' n n (DW n n IR)):=by
 have hnn:n*n<=40000:=ep hn hn;refine Ap func180 ntmps180 Y Y<|λw0 hw0=>?_;simp only[AR];refine Ar<|BS [.w 0,.w 0,.nl] Y BL Y Y<|λg2=>Bp<|Qm Y<|Qm Y<|Qc call89 Y (J7 n n hn hn h)<|λz h2 ms2 l2 hF=>?_;obtain⟨rfl,ev,m,rfl,rfl,hO⟩:=hF;have oe:=hO.o1;refine BS [.w 0,.w 0,.nl] Y BL Y Y<|λg3=>?_;refine Sa 0 [_,_,_] BL Y (by simp[oe]) ?_;refine Am<|AF λh3 l3 hS3=>?_;have e3:∀ms,Cell h3 ms ((⟨g3,0,none⟩:Addr).add 2) ev:=λms=>(hS3 2 _ Y).any;have e30:∀ms,Cell h3 ms ((⟨g3,0,none⟩:Addr).add 0) (.w n):=λms=>(hS3 0 _ Y).any;have gS3:∀ms,Seg h3 ms (⟨g3,0,none⟩:Addr) [.w n,.w n,ev]:=λms=>hS3.any;refine Ac<|Ar<|Qf EH Y<|Ql Y U3 (e30 _)<|Qm Y<|Am<|Ag ?_
 refine AB (λq sl h' ms'=>∃(k:Nat) (mo:Hp),n-k=q/\sl=[(0,.w n),(2,.pt g2),(3,.pt g3),(9,.w n),(10,.w k)]/\h3=h'/\ms'=[mo,BI g2 91 [.w 0,.w 0,.nl]]/\k<=n/\OwnL Bi 2 33 mo ev (DW n n λa b=>if a<k then IR a b else 0)) (n-0) _ ⟨0,m,Y,Y,Y,Y,ω,by
  have:DW n n (λa b=>if a<0 then IR a b else 0)=replicate (n*n) 0:=by rw[PL];exact CT λa _ b _=>ae ω
  rw[this];exact hO⟩ Qs ?_
 rintro q sl h' ms' ⟨k,mo,rfl,rfl,rfl,rfl,hk,hO⟩;refine Ar<|Qm Y<|Am<|Ac ?_;refine Aw Y (λhlt=>?_)<|λhlt=>?_
 ·have hkn:k<n:=ω
  have hix:k*n+k<n*n:=LS hkn hkn;have hcast:(k:Int)*n=((k*n:Nat):Int):=(fv k n).symm;have reo:Rd h3 [mo] ev 2 (n*n) ((DW n n λa b=>if a<k then IR a b else 0).flatMap Bi):=by have:=(hO.rd (h:=h3) (ms:=[mo]) Mh).rd;rwa [Ca]at this
  have os1:(sv (A7 (1:Int).natAbs)).oneCell'=true:=rfl;refine Ah<|Ab<|Ac<|Ag<|Ar<|Qm Y<|Qm Y<|Am<|AS (n:=10) (bs:=[ig,ig,ig,ig,ig,ig,ig,ig,ig,ii]) [ig,ig,ig,ig,ig,ig,ig,ig,ig] CC κ κ Y Y<|QF Gb Y<|QL Y CE (e3 _)<|Qq Y<|Qq Y<|Qp Y (oM Y)<|Qq Y<|Qp Y (oA Y)<|Qp Y (As Y call95 Y<|GU 1 δ _ _)<|Qp Y (Ba (k*n+k) reo Y CE Az Y Y ω ω) ?_;unfold Dd;simp only[bh,ap];refine Qo 9 Y ?_;refine EF 0 (k*n+k) (1:Int) hO Y Az Y Y Y (ES _) Y (by rw[Ca];exact hix) Y Y<|λmo' hO'=>?_;refine Qw<|Qe ?_;rw[PS _ hkn]at hO'
  have hL:DW n n (OS (λa b=>if a<k then IR a b else 0) k k 1)=DW n n λa b=>if a<k+1 then IR a b else 0:=CT λa _ b _=>by
   show(if a=k/\b=k then(1:Int) else if a<k then(if a=b then 1 else 0) else 0)=if a<k+1 then(if a=b then 1 else 0) else 0
   (repeat' split)<;>first|rfl|omega
  rw[hL]at hO';refine Ai<|Ab<|Ad<|Qx (oA Y) Y<|Qm Y<|An ?_;exact Ao (n-(k+1)) _ ω ⟨k+1,mo',Y,Y,Y,Y,ω,hO'⟩ Qs
 ·have hkn:k=n:=ω
  subst hkn;have hL:(DW k k λa b=>if a<k then IR a b else 0)=DW k k IR:=CT λa ha b _=>ah ha;rw[hL]at hO;refine Ax<|Aa<|Aa<|Af<|Ab<|Ar<|Qx (oG Y HR BL<|gS3 _) Y ?_;refine Sa 1 [_,_,_] BL Y (by simp[oe]) ?_;refine Am<|Aj ?_;exact Bx (vs:=[_,_,_]) 1 Y Y HR Y BL Y Y (⟨l3,ev,mo,Y,Y,hO⟩)
def AbJ(c:Nat)(ev:Value)(k:Nat):List Value:=[.int .i64 k,CP 2 ev (k*c) ((k+1)*c)]
theorem NW(g r c:Nat)(ev:Value)(f:Nat->Nat->Int)(hr:r<=200)(hc:c<=200)(h:Hp)(hG:Seg h [] ⟨g,0,none⟩ [.int .i64 r,.int .i64 c,ev])(hR:RdL Bi 2 h [] ev (DW r c f)):Itr Tryz.prog 234 [.pointer (some ⟨g,0,none⟩)] h r (AbJ c ev):=by
 intro lp X h1 ms hl hY h0;show FnT _ _ #[.func (.yield lp) #[] #[],.pt g] _ _ _;have hG:=hG.le hl;have hR:=hR.up hl
 have rR:∀h',h1.le h'->Rd h' [] ev 2 (r*c) ((DW r c f).flatMap Bi):=λh' l=>by
  have:=(hR.up l).rd
  rwa [Ca]at this
 have e0:∀h',h1.le h'->∀ms,Cell h' ms ((⟨g,0,none⟩:Addr).add 0) (.w r):=λh' l ms=>((hG 0 _ Y).any).le l;have e1:∀h',h1.le h'->∀ms,Cell h' ms ((⟨g,0,none⟩:Addr).add 1) (.w c):=λh' l ms=>((hG 1 _ Y).any).le l;have e2:∀h',h1.le h'->∀ms,Cell h' ms ((⟨g,0,none⟩:Addr).add 2) ev:=λh' l ms=>((hG 2 _ Y).any).le l;refine Ap func234 ntmps234 Y Y<|λw0 hw0=>?_;simp only[AR];refine Ac<|Bw<|BR (oF EH Y) Y Y Y<|BR (oL Y U3<|e0 _ (BE) _) Y Y Y<|BR (Au Y Y) Y Y Y<|CJ<|Ab<|Ag ?_
 refine AB (λq s hh ms'=>∃(k:Nat),q=r-k/\s=[(0,.func (.yield lp) #[] #[]),(1,.pt g),(5,.w r),(6,.w k)]/\h1.le hh/\k<=r/\X k hh ms')
  (r-0) _ ⟨0,rfl,rfl,BE,ω,h0⟩ Qs ?_
 rintro q s hh ms' ⟨k,rfl,rfl,lh,hk,hX⟩;refine Ac<|Bw<|BR (Dy Y Y Y) Y Y Y<|CJ<|Ab<|Ac ?_;refine Aw Y (λhlt=>?_)<|λhlt=>?_
 ·have hkr:k<r:=ω
  have d1:(k+1)*c=k*c+c:=by rw[cw,fp]
  have c1:(k+1)*c<=r*c:=du c hkr;have c2:r*c<=200*200:=ep hr hc;have d3:((k:Int)+1)*c=k*c+c:=by rw[Int.add_mul,gy]
  have hYk:=hY k hh ms' hkr lh hX;unfold AbJ at hYk;refine Ah<|Ab<|Ac<|Ag<|Ac<|Bw<|BR (Au Y Y) Y Y Y<|BR (II Y Y) Y Y Y<|CJ<|Ab<|Ac<|Bw<|BR (Au Y Y) Y Y Y<|BR (Au Y Y) Y Y Y<|BR (oF Gb Y) Y Y Y<|BR (oL Y CE<|e2 _ lh _) Y Y Y<|BR (Au Y Y) Y Y Y<|BR (oF Do Y) Y Y Y<|BR (oL Y U3<|e1 _ lh _) Y Y Y<|BR (oM Y) Y Y Y<|BR (Au Y Y) Y Y Y<|BR (oA Y) Y Y Y<|BR (oF Do Y) Y Y Y<|BR (oL Y U3<|e1 _ lh _) Y Y Y<|BR (oM Y) Y Y Y<|BR (Hm (k*c) ((k+1)*c) (rR _ lh).any Y CE Az Y Y Y ω ω ω ω) Y Y Y<|Ka Y Y Y (hYk) Y Y Y<|λr' h2 ms2 l2 hr'=>?_;obtain⟨rfl,hX2⟩:=hr';refine BR (Dn Y Y) Y Y Y<|CJ<|Ab<|AL Y<|Ah<|Ai<|Ab<|Bw<|BR (oA Y) Y Y Y<|BR (Au Y Y) Y Y Y<|CJ ?_;exact Ao (r-(k+1)) _ ω ⟨k+1,Y,Y,AD lh l2,ω,hX2⟩ Qs
 ·obtain rfl:k=r:=ω
  refine Ax<|Aa<|Aa<|Af ?_;exact Cv Y<|hX
theorem VO(r c:Nat)(ev:Value)(n:Nat)(cs:List Value)(h:Hp)(hR:Rd h [] ev 2 n cs):FnT Tryz.prog 194 #[.agg #[.int .i64 r,.int .i64 c,ev]] h [] (λw h' ms'=>h=h'/\∃g,w=.func (.func 234) #[] #[.pointer (some ⟨g,0,none⟩)]/\ms'=[BI g 91 [.int .i64 r,.int .i64 c,ev]]):=by have o1:=hR.one;refine Ap func194 ntmps194 Y Y<|λw0 hw0=>?_;simp only[AR];refine Ar<|AK [_,_,_] Y Y (by rfl) Y Y Y<|λg1=>Qm Y<|Bp<|Qx (Bz Y Y Y) Y<|Qm Y<|Am<|Aj ?_;exact Al Y Y (⟨Y,_,Y,Y⟩)
theorem AaS(va vb:Value)(r k c:Nat)(f g:Nat->Nat->Int)(h:Hp)(A:MW va h r k (DW r k f))(B:MW vb h k c (DW k c g))
  (hS:∀i j t,i<r->j<c->t<=k->Sz (sm t λq=>f i q*g q j)) (hF:∀i t,i<r->t<k->Sz (f i t)) (hG:∀t j,t<k->j<c->Sz (g t j)) (hP:∀i t j,i<r->t<k->j<c->Sz (f i t*g t j)) :
  FnT Tryz.prog 155 #[va,vb] h [] (λw h' ms'=>h.le h'/\∃v,w=.tuple #[v,.bool true]/\Qd v ms' r c (DW r c λa b=>sm k λq=>f a q*g q b)):=by
 have rl:=A.hr;have kl:=A.hc;have cl:=B.hc;have hrc:r*c<=200*200:=ep rl cl;obtain⟨ea,rfl,RA⟩:=A.ex;obtain⟨eb,rfl,RB⟩:=B.ex;have oa:=RA.rd.one;have ob:=RB.rd.one;refine E7 func155 ntmps155 Y Y<|λw0 hw0=>?_;simp only[AR];refine Ar<|AK [_,_,_] Y Y (by rfl) Y Y Y<|λg2=>AK [_,_,_] Y Y (by rfl) Y Y Y<|λg3=>BS [.w 0,.w 0,.nl] Y BL Y Y<|λg4=>Qm Y<|Am<|Av 1 Y λh1 l1 hS3=>Av 1 Y λh2 l2 hS2=>?_;have hS3:=hS3.le l2;have l12:=AD l1 l2;have A2:=A.up l12;have B2:=B.up l12;have RA2:=RA.up l12;have RB2:=RB.up l12;have sg2:∀ms,Seg h2 ms (⟨g2,0,none⟩:Addr) [.w r,.w k,ea]:=λms=>hS2.any;have sg3:∀ms,Seg h2 ms (⟨g3,0,none⟩:Addr) [.w k,.w c,eb]:=λms=>hS3.any;have c21:∀h',h2.le h'->∀ms,Cell h' ms ((⟨g2,0,none⟩:Addr).add 1) (.w k):=λh' l ms=>((hS2 1 _ Y).any).le l;have c20:∀h',h2.le h'->∀ms,Cell h' ms ((⟨g2,0,none⟩:Addr).add 0) (.w r):=λh' l ms=>((hS2 0 _ Y).any).le l;have c30:∀h',h2.le h'->∀ms,Cell h' ms ((⟨g3,0,none⟩:Addr).add 0) (.w k):=λh' l ms=>((hS3 0 _ Y).any).le l;have c31:∀h',h2.le h'->∀ms,Cell h' ms ((⟨g3,0,none⟩:Addr).add 1) (.w c):=λh' l ms=>((hS3 1 _ Y).any).le l;have sg3':∀h',h2.le h'->∀ms,Seg h' ms (⟨g3,0,none⟩:Addr) [.w k,.w c,eb]:=λh' l ms=>(hS3.le l).any;refine Ac<|Ar<|Qx (oG Y HR BL<|sg2 _) Y<|Qx (As Y call146 Y<|Ib _ r k _ h2 A2 _) Y<|Qm Y<|Qm Y<|Qg (oG Y HR BL<|sg3 _) Y<|Qg (As Y call146 Y<|Ib _ k c _ h2 B2 _) Y<|Qg (Dn Y Y) Y<|Qm Y<|Qm Y<|Qg (oF Do Y) Y<|Qg (oL Y U3<|c21 _ (BE) _) Y<|Qg (oF EH Y) Y<|Qg (oL Y U3<|c30 _ (BE) _) Y<|Qg (EO Y Y Y) Y<|Qm Y<|Am<|Aw Y (λhc=>ie hc ((λq=>q Y)))<|λhc=>Ah<|Ab<|Ar<|Qf EH Y<|Ql Y U3 (c20 _ (BE) _)<|Qf Do Y<|Ql Y U3 (c31 _ (BE) _)<|Qc call89 Y (J7 r c rl cl h2)<|λz h3 ms3 l3 hF=>?_;obtain⟨rfl,ew,m,rfl,rfl,hO⟩:=hF;have ow:=hO.o1;refine BS [.w 0,.w 0,.nl] Y BL Y Y<|λg6=>?_;refine Sa 0 [_,_,_] BL Y (by simp[oa,ob,ow]) ?_;refine Am<|AF λh3 l3 hS6=>?_;have c62:∀h',h3.le h'->∀ms,Cell h' ms ((⟨g6,0,none⟩:Addr).add 2) ew:=λh' l ms=>((hS6 2 _ Y).any).le l;have sg6:∀h',h3.le h'->∀ms,Seg h' ms (⟨g6,0,none⟩:Addr) [.w r,.w c,ew]:=λh' l ms=>(hS6.le l).any;refine Ac<|Ar<|Qx (oG Y HR BL ((sg2 []).le l3 |>.any)) Y<|Qc call194 Y (VO r k ea _ _ h3 (RA2.up l3).rd)<|λzi h4 ms4 l4 hF=>?_;obtain⟨rfl,ga,rfl,rfl⟩:=hF;refine Am<|Ag<|AF λh4 l4 hGa=>?_;have hI:=NW ga r k ea f rl kl h4 hGa ((RA2.up l3).up l4);have l24:=AD l3 l4;refine FG (λi hh ms=>∃mo,ms=[mo,BI g4 91 [.w 0,.w 0,.nl]]/\OwnL Bi 2 33 mo ew (DW r c (JA k f g i 0 0))) (λi s1 hh ms=>∃g8 mo,s1=[(2,.pt g2),(3,.pt g3),(6,.pt g6),(7,.w i),(8,.pt g8)]/\ms=[BI g8 89 [CP 2 ea (i*k) ((i+1)*k)],mo,BI g4 91 [.w 0,.w 0,.nl]]/\OwnL Bi 2 33 mo ew (DW r c (JA k f g i 0 0))) Y call234 hI (λk=>rfl) Y ?_ ?_ ?_ ?_
 ·exact⟨m,Y,by rw[CT (g:=λ_ _=>0) (λa _ b _=>X9 k f g a b),<-PL];exact hO⟩
 ·rintro w1 i hh ms1 hir lh ⟨mo,rfl,hO⟩;rw[show AbJ k ea i=[.w i,CP 2 ea (i*k) ((i+1)*k)] from Y];have RAi:=(((RA2.up l3).up l4).up lh).rowF hir;have oai:=RAi.rd.one;refine Df<|Be κ<|Qm Y<|An<|B5<|Be κ<|BS [.nl] Y Ea Y Y<|λg8=>Bh 0 0 Y Ea Y Y (by assumption) Y Y δ Y Y<|An ?_;exact AI _ ⟨g8,mo,Y,Y,hO⟩ Qs
 ·rintro w1 i s1 hh ms1 hir lh ⟨g8,mo,rfl,rfl,hO⟩;refine JD λh5 l5 lg8 _ _=>?_;have hG8:=Seg.ofLe lg8;have l25:=AD l24 (AD lh l5);have l35:=AD l4 (AD lh l5);have d1:(i+1)*c=i*c+c:=by rw[cw,fp]
  have c1:(i+1)*c<=r*c:=du c hir;have d3:((i:Int)+1)*c=i*c+c:=by rw[Int.add_mul,gy]
  have row:=(hO.rd (h:=h5) (ms:=[mo]) Mh).rd;have elp:=Ca r c (JA k f g i 0 0);have RBh:=RB2.up l25;have orow:=((hO.rd (h:=h5) (ms:=[mo]) Mh).rowF hir).rd.one;refine Eh<|Df<|Be κ<|Qf Gb Y<|Ql Y CE (c62 _ l35 _)<|Qm Y<|Qf Do Y<|Ql Y U3 (c31 _ l25 _)<|Qx (oM Y) Y<|Qm Y<|Qx (oA Y) Y<|Qf Do Y<|Ql Y U3 (c31 _ l25 _)<|Qx (oM Y) Y<|Qx (OD (i*c) ((i+1)*c) row Y CE Az Y Y Y ω ω ω ω) Y<|BS [.nl] Y Ea Y Y<|λg9=>Bh 0 0 Y Ea Y Y (by assumption) Y Y δ Y Y<|An<|B5<|JD λh6 l6 lg9 _ _=>?_;have hG9:=Seg.ofLe lg9;have l26:=AD l25 l6;refine Df<|Be κ<|Qx (oG Y HR BL<|sg3' _ l26 _) Y<|Qc call194 Y (VO k c eb _ _ h6 (RBh.up l6).rd)<|λzj h7 ms7 l7 hF=>?_;obtain⟨rfl,gb,rfl,rfl⟩:=hF;refine An<|B5<|Eh<|JD λh7 l7 lgb _ _=>?_;have l27:=AD l26 l7;have hI2:=NW gb k c eb g kl cl h7 (Seg.ofLe lgb) (RB2.up l27);have RAi:=(RA2.up l27).rowF hir;have G8:∀h',h7.le h'->∀ms,Cell h' ms (⟨g8,0,none⟩:Addr) (CP 2 ea (i*k) ((i+1)*k)):=λh' l ms=>((hG8.le (AD l6 (AD l7 l))).at0 Y).any;have G9:∀h',h7.le h'->∀ms,Cell h' ms (⟨g9,0,none⟩:Addr) (CP 2 ew (i*c) ((i+1)*c)):=λh' l ms=>((hG9.le (AD l7 l)).at0 Y).any;refine Px (λt hh ms=>∃mo,ms=[mo,BI g4 91 [.w 0,.w 0,.nl]]/\OwnL Bi 2 33 mo ew (DW r c (JA k f g i t 0))) (λt s1 hh ms=>∃mo,s1=[(8,.pt g8),(9,.pt g9),(10,.w t),(11,CP 2 eb (t*c) ((t+1)*c))]/\ms=[mo,BI g4 91 [.w 0,.w 0,.nl]]/\OwnL Bi 2 33 mo ew (DW r c (JA k f g i t 0))) Y call234 hI2 (λk=>rfl) Y ?_ ?_ ?_ ?_
  ·exact⟨mo,Y,hO⟩
  ·rintro w2 t hh2 ms2 htk lh2 ⟨mo,rfl,hO⟩;rw[show AbJ c eb t=[.w t,CP 2 eb (t*c) ((t+1)*c)] from Y];refine Df<|Be κ<|Qm Y<|An<|B5<|Be κ<|Qm Y<|An ?_;exact AI _ ⟨mo,Y,Y,hO⟩ Qs
  ·rintro w2 t s2 hh2 ms2 htk lh2 ⟨mo,rfl,rfl,hO⟩;have RAh:=RAi.up lh2;have RBt:=((RB2.up l27).up lh2).rowF htk;have rA:=RAh.rd;have rB:=RBt.rd;have ek:=B7 k (f i);have ec:=B7 c (g t);have obt:=RBt.rd.one;have sA:∀ms,Seg hh2 ms ((AH (CP 2 ea (i*k) ((i+1)*k))).add (t*2)) (Bi (f i t)):=λms=>RAh.any.evF htk;have ost:(sv (A7 (f i t).natAbs)).oneCell'=true:=rfl;refine Eh<|Df<|Df<|Be κ<|Ql Y CE (G8 _ lh2 _)<|Qm Y<|Qx (BC (t) rA.any Y CE Az Y Y) Y<|Qx (oG Y By Az<|sA _) Y<|Qx (As Y call195 Y<|UK _ _ _) Y<|An<|B5 ?_;refine Ly Y (λhz=>?_)<|λhz=>?_
   ·refine Vy<|Aa<|Af ?_;exact AI [] ⟨mo,Y,by rw[<-CT λa _ b _=>Yv k f g i t a b hz];exact hO⟩ ej
   ·refine Ho<|B5<|Df<|Be κ<|Qm Y<|Qx (Aq rB.any Y CE Y) Y<|Qm Y<|An<|B5<|Eh ?_
    refine AbH (λq s hh ms'=>∃(j:Nat) (mo:Hp),q=c-j/\s=[(8,.pt g8),(9,.pt g9),(10,.w t),(60,CP 2 eb (t*c) ((t+1)*c)),(61,.w ((Dr c (g t)).length:Nat)),(62,.w j)]/\hh2.le hh/\ms'=[mo,BI g4 91 [.w 0,.w 0,.nl]]/\j<=c/\OwnL Bi 2 33 mo ew (DW r c (JA k f g i t j)))
     (c-0) _ ⟨0,mo,rfl,rfl,BE,rfl,ω,hO⟩ Qs ?_
    rintro q s hh3 ms' ⟨j,mo,rfl,rfl,lh3,rfl,hj,hO⟩;have RBt3:=RBt.up lh3;refine Df<|Be κ<|Qm Y<|An<|B5<|Df ?_;refine Ly Y (λhlt=>?_)<|λhlt=>?_
    ·have hjc:j<c:=ω
     have sB:∀ms,Seg hh3 ms ((AH (CP 2 eb (t*c) ((t+1)*c))).add (j*2)) (Bi (g t j)):=λms=>RBt3.any.evF hjc;have osg:(sv (A7 (g t j).natAbs)).oneCell'=true:=rfl;refine Ho<|B5<|Df<|Eh<|Df<|Be κ<|Qm Y<|Qx (BC (j) RBt3.rd.any Y CE Az Y Y) Y<|Qx (oG Y By Az<|sB _) Y<|BS [.bool false,.es] Y Az Y Y<|λg13=>Qm Y ?_;refine Sa 0 [_,_] Az Y (by simp[obt,ost,osg]) ?_;refine An<|B5<|JD λh8 l8 lg13 _ _=>?_;have hG13:=Seg.ofLe lg13;have l38:=AD lh3 l8;refine Df<|Be κ<|Qx (oG Y By Az ((hG13.any:Seg _ _ _ (Bi (g t j))))) Y<|Qx (As Y call195 Y<|UK _ _ _) Y<|Qx (Dk (Dn Y Y)<|aw Value.bool decide_not.symm) Y<|An<|B5 ?_;refine Ly Y (λhy=>?_)<|λhy=>?_
     ·have hix:=LS hir hjc;have elq:=Ca r c (JA k f g i t j)
      have sO:∀h ms,mo∈ms->Seg h ms ((AH ew).add ((i*c+j)*2)) (Bi (sm t λq=>f i q*g q j)):=λh ms hm=>by
       have:=(hO.rd (h:=h) (ms:=ms) hm).entF hir hjc
       rwa [TX]at this
      have eva:=Aau (hO.rd (h:=h8) (ms:=[mo]) Mh) hir hjc;have rowO:=((hO.rd (h:=h8) (ms:=[mo]) Mh).rowF hir).rd;have evl:=B7 c (JA k f g i t j i);have sA8:∀ms,Seg h8 ms ((AH (CP 2 ea (i*k) ((i+1)*k))).add (t*2)) (Bi (f i t)):=λms=>((RAh.up l38).any (ms:=ms)).evF htk;have osm:(sv (A7 (sm t λq=>f i q*g q j).natAbs)).oneCell'=true:=rfl;have osr:(sv (A7 (sm (t+1) λq=>f i q*g q j).natAbs)).oneCell'=true:=rfl;obtain⟨S,hSm⟩:∃S,(sm t λq=>f i q*g q j)=S:=⟨_,Y⟩
      have hSz:Sz S:=by rw[<-hSm];exact hS i j t hir hjc ω
      rw[hSm]at sO;have osS:(sv (A7 S.natAbs)).oneCell'=true:=rfl;have osP:(sv (A7 (S+f i t*g t j).natAbs)).oneCell'=true:=rfl;refine JS (n:=15) (bs:=[ig,ig,ig,ig,ig,ii,ig,ig,ig,ig,ig,ig,ii,ig,ii]) [ig,ig,ig,ig,ig,ii,ig,ig,ig,ig,ig,ig,ii,ig] CC κ κ Y Y κ<|QL Y CE (G9 _ (AD lh2 l38) _)<|Qq Y<|QL Y CE (G9 _ (AD lh2 l38) _)<|Qq Y<|Qp Y (Ba (j) rowO Y CE Az Y Y ω ω)<|QL Y CE (G8 _ (AD lh2 l38) _)<|Qq Y<|Qp Y (AM (t) (RAh.up l38).rd.any Y CE Az Y Y ω ω)<|Qp Y (oG Y By Az<|sA8 _)<|Qp Y (oG Y By Az ((hG13.any:Seg _ _ _ (Bi (g t j)))))<|Qp Y (As Y call141 Y<|JN _ _ (hF i t hir htk) (hG t j htk hjc) _ _)<|Qp Y (Ba (j) rowO Y CE Az Y Y ω ω) ?_;unfold Dd;simp only[bh,ap];refine Qo 5 Y ?_;refine Qx (oG Y By Az (by(rw[eva];exact sO _ _ Mh))) Y ?_;refine Qw<|Qo 12 Y<|Qx (As Y call156 Y<|N1 _ _ hSz (hP i t j hir htk hjc) _ _) Y<|Qw<|Qo 14 Y ?_;refine EF 0 (i*c+j) (S+f i t*g t j) hO Y Az (by rw[eva];rfl) rfl rfl (ES _) rfl ω rfl rfl<|λmo' hO'=>?_;refine Qw<|Qe ?_;rw[PS _ hjc,CT λa _ b _=>RN k f g i t j a b _ (by rw[TX,hSm])]at hO';refine Ai<|B5<|Be κ<|Qx (oA Y) Y<|Qm Y<|An ?_;exact Ao (c-(j+1)) _ ω ⟨j+1,mo',Y,Y,l38,Y,ω,hO'⟩ Qs
     ·have hy0:g t j=0:=by simpa using hy
      refine Ho<|Ai<|B5<|Be κ<|Qx (oA Y) Y<|Qm Y<|An ?_;exact Ao (c-(j+1)) _ ω ⟨j+1,mo,Y,Y,l38,Y,ω,by rw[<-CT λa _ b _=>AaG k f g i t j a b (by rw[hy0,gu])];exact hO⟩ Qs
    ·have hjc:j=c:=ω
     subst hjc;refine Vy<|Aa<|Aa<|Af<|Ai ?_;exact AI [] ⟨mo,Y,by rw[<-CT λa _ b hb=>Aal k f g i t j a b hb];exact hO⟩ ej
  ·rintro h8 ms8 l8 ⟨mo,rfl,hO⟩;refine Ai<|Ai ?_;exact AI [] ⟨mo,Y,by rw[<-CT λa _ b _=>Acj k f g i a b];exact hO⟩ ej
 ·rintro D hh ms1 lh ⟨mo,rfl,hO⟩;refine Ai<|Ab<|Ar<|Qx (oG Y HR BL<|sg6 _ (AD l4 lh) _) Y ?_;refine Sa 1 [_,_,_] BL Y (by simp[oa,ob,ow]) ?_;refine Qm Y<|Am<|Aj<|FI 2 (.inr Y) Y ?_;exact Ig (vs:=[_,_,_]) 1 Y Y Y HR Y BL Y Y (⟨AD l12 (AD l24 lh),_,Y,ew,mo,Y,Y,by rw[<-CT λa ha b _=>AcM k f g r a b ha];exact hO⟩)
theorem VG(k:Nat)(x:Nat->Int):DW k 1 (λq _=>x q)=Dr k x:=by unfold DW Dr;rw[gx];exact gc λi _=>by rw[Nat.div_one]
theorem NF(va xv:Value)(r k:Nat)(f:Nat->Nat->Int)(x:Nat->Int)(h:Hp)(A:MW va h r k (DW r k f))(X:RdL Bi 2 h [] xv (Dr k x))
  (hS:∀i t,i<r->t<=k->Sz (sm t λq=>f i q*x q)) (hF:∀i t,i<r->t<k->Sz (f i t)) (hG:∀t,t<k->Sz (x t)) (hP:∀i t,i<r->t<k->Sz (f i t*x t)) :
  FnT Tryz.prog 101 #[va,xv] h [] (λw h' ms'=>h.le h'/\∃v m,w=.tuple #[v,.bool true]/\ms'=[m]/\OwnL Bi 2 33 m v (Dr r λi=>sm k λq=>f i q*x q)):=by
 have rl:=A.hr;have kl:=A.hc;have A0:=A;obtain⟨ea,rfl,RA⟩:=A.ex;have oa:=RA.rd.one;have ox:=X.rd.one;have rX:Rd h [] xv 2 k ((Dr k x).flatMap Bi):=by have:=X.rd;rwa [B7]at this
 obtain⟨xa,xc,rfl,_⟩:=rX.ex;refine Ap func101 ntmps101 Y Y<|λw0 hw0=>?_;simp only[AR];refine Ar<|AK [_,_,_] Y Y (by rfl) Y Y Y<|λg2=>Qm Y<|Qm Y<|Am<|Av 0 Y λh1 l1 hS2=>?_;have sg2:∀ms,Seg h1 ms (⟨g2,0,none⟩:Addr) [.w r,.w k,ea]:=λms=>hS2.any;have B:MW (.agg #[.w k,(.w ((1:Nat):Int)),.slice xa k xc]) h1 k 1 (DW k 1 λq _=>x q):=⟨kl,by decide,Ca _ _ _,_,Y,by rw[VG];exact X.up l1⟩
 refine Ar<|Qx (oG Y HR BL<|sg2 _) Y<|Qm Y<|Qx (D6 (ty:=89) Y CE Y) Y<|Qm Y<|Qx (AN Aed [.w 0,.w 0,.nl] [(0,_),(1,_),(2,_)] [_,_,_] Y BL Y Y Qt Y) Y<|Qc call155 Y (AaS _ _ r k 1 f (λq _=>x q) h1 (A0.up l1) B (λi j t hi _ ht=>hS i t hi ht) hF (λt j ht _=>hG t ht)<|λi t j hi ht _=>hP i t hi ht)<|λz h2 ms2 l2 hF=>?_;obtain⟨l2',v,rfl,ev,m,rfl,rfl,hO⟩:=hF;rw[VG]at hO;have oe:=hO.o1;refine Qm Y<|Qm Y<|Qm Y<|BS [.w 0,.w 0,.nl] Y BL Y Y<|λg6=>?_;refine Sa 0 [_,_,_] BL Y (by simp[oa,ox,oe]) ?_;refine Qm Y<|Bp<|Qf Gb Y<|Ql Y CE (Cell.blk 0 Y Y)<|Qm Y<|Qm Y<|Qm Y<|Am<|Aj<|AQ ?_;exact Ck Y Y Y (⟨AD l1 l2',ev,m,Y,Y,hO⟩)
variable {M:List (List Int)}
theorem ND(l:List Int)(v:Value)(h:Hp)(hR:RdL Bi 2 h [] v l)(hl:l.length<=1000000):FnT Tryz.prog 104 #[v] h [] (λx h' ms'=>h=h'/\∃m,ms'=[m]/\OwnL Bi 2 33 m x l):=by
 refine Ap func104 ntmps104 Y Y<|λw0 hw0=>?_;simp only[AR];refine Ar<|Qm Y<|Am<|Ac<|Ar<|Qm Y<|Qx (Lw hR.rd.any Y CE Y Y) Y<|Am ?_;refine BW Y (λhn=>?_)<|λhn=>?_
 ·have h0:=KA hR.rd hn;obtain rfl:l=[]:=de h0;refine Ar<|Qm Y<|Am<|Aj<|Ae<|OV ?_;exact Al Y Y (⟨Y,_,Y,OwnL.nil Fa⟩)
 ·refine Ah<|Ab<|Ar ?_;refine AO [] [] [] rfl CE Az rfl ω κ (by repeat (first|exact ej|refine⟨⟨by first|rfl|exact(hR.rd.any).cells|exact Rd.cells ‹_›|exact(RdL.rd ‹_›).cells,rfl,rfl⟩,?_⟩)) rfl rfl rfl rfl<|λg5=>?_;refine Qm rfl ?_;have hO:OwnL Bi 2 33 (BI g5 33 []) (.slice (some ⟨g5,0,none⟩) 0 0) []:=OwnL.blk (l:=([]:List Int)) 0 Fa rfl ω;refine AJ 0 hO hR.any rfl CE Az rfl ω rfl rfl rfl ES (by simp;omega) (by simp;omega) rfl rfl rfl<|λv' m' hO'=>?_;refine Qm rfl<|Am<|Aj ?_;exact Al rfl rfl (⟨rfl,m',rfl,hO'⟩)
theorem Zz(n:Nat)(hn:n<=1000000)(h:Hp):FnT Tryz.prog 251 #[.slice none 0 0,.int .i64 n] h [] (λx h' ms'=>h=h'/\∃m,ms'=[m]/\OwnL Bi 2 33 m x []):=by
 have hNil:RdL Bi 2 h [] (.nl) []:=⟨⟨⟨none,0,Y,am _,by decide,Y,λh=>ie h δ⟩⟩,Fa⟩
 refine Ap func251 ntmps251 Y Y<|λw0 hw0=>?_;simp only[AR];refine Ar<|Qm Y<|Am<|Ac<|Ar<|Qm Y<|Qm Y<|Am ?_;refine Aw Y (λh1=>?_)<|λh1=>?_
 ·exact ie h1 ω
 ·refine Ah<|Ab<|Ac<|Ar<|Qm Y<|Qm Y<|Qx (Ym Y CE Y) Y<|Qm Y<|Qx (D6 (ty:=89) Y CE Y) Y<|Qx (oS Y) Y<|Qx (oS Y) Y<|Qm Y<|Bp<|Qm Y<|Qm Y<|Am ?_;refine Aw Y (λh2=>?_)<|λh2=>?_
  ·refine BV ?_;have hO:OwnL Bi 2 33 Hp.emp (.nl) []:=OwnL.nil Fa;have e13:((0:Nat):Int)-((0:Nat):Int)=0:=rfl;refine Ad<|Qm Y<|Qm Y<|Qx (Ym Y CE Y) Y<|Qx (DL _ hNil.rd.any Y CE Az Y Y Y ω) Y<|Qm Y ?_;refine Rg 0 (0:Int) hO Y CE U3 Az Y δ (ES _) Y (by show some (Value.w ((n:Int)-(((0:Nat):Int)-((0:Nat):Int))))=_;rw[e13,Int.sub_zero]) rfl (by simp;omega) (by simp;omega) rfl rfl rfl<|λv22 m22 hO22=>?_;have hP:=OwnL.pre hO22 (n:=0) (Nat.zero_le _);refine Qm Y<|Qx (D6 (ty:=89) Y CE Y) Y<|Qx (DL 0 (hO22.rd (h:=h) (ms:=[m22]) Mh).rd Y CE Az Y Y Y ω) Y<|Qm Y<|Bp<|Qm Y<|Qm Y<|Am<|Aj ?_;exact Al Y Y (⟨Y,_,Y,hP⟩)
  ·refine Ah<|Ab<|Ar<|Qm Y<|Qm Y<|Am<|Aj<|OV ?_;exact Al Y Y (⟨Y,_,Y,OwnL.nil Fa⟩)
structure GrR(hv:Value)(h:Hp)(vs:List Value)(M:List (List Int)):Prop where
 hd:RdL cU 1 h [] hv vs
 len:vs.length=M.length
 row:∀i (h1:i<vs.length) (h2:i<M.length),RdL Bi 2 h [] vs[i] M[i]
theorem R6{c:Nat}(h:∀l∈M,l.length=c):M.flatten.length=M.length*c:=by
 induction M with
 | nil=>simp
 | cons l M ih=>rw[List.flatten_cons,af,ih λx hx=>h x (List.mem_cons_of_mem _ hx),h l (List.mem_cons_self),List.length_cons,cw];omega
theorem GL{k:Nat}(h:k<M.length):(M.take (k+1)).flatten=(M.take k).flatten++M[k]:=by rw[ak h,List.flatten_append];simp
theorem Mf(k:Nat):(M.take k).flatten.length<=M.flatten.length:=by
 conv=>rhs;rw[<-dp k M,List.flatten_append,af]
 omega
theorem Uq(hv:Value)(vs:List Value)(M:List (List Int))(h:Hp)(G:GrR hv h vs M)(hn:M.length<=1000)(ht:M.flatten.length<=1000000):FnT Tryz.prog 232 #[hv] h [] (λx h' ms'=>h=h'/\∃m,ms'=[m]/\OwnL Bi 2 33 m x M.flatten):=by
 obtain⟨n,hn'⟩:∃n,M.length=n:=⟨_,Y⟩
 have hvn:vs.length=n:=by rw[G.len,hn']
 have rH:Rd h [] hv 1 n (vs.flatMap cU):=by have:=G.hd.rd;rwa [hvn]at this
 have oh:=rH.one;refine Ap func232 ntmps232 Y Y<|λw0 hw0=>?_;simp only[AR];refine Ar<|Qm Y<|Bp<|Qm Y<|Am<|Ac<|Ar<|Qm Y<|Qx (Aq rH.any Y AbP Y) Y<|Qm Y<|Am<|Ag ?_;refine AB (λq s h' ms'=>∃(k:Nat),q=n-k/\s=[(0,hv),(3,.w ((M.take k).flatten.length:Nat)),(9,hv),(10,.w (n:Int)),(11,.w k)]/\h=h'/\ms'=[]/\k<=n) (n-0) _ ⟨0,Y,Y,Y,Y,ω⟩ Qs ?_;rintro q s h' ms' ⟨k,rfl,rfl,rfl,rfl,hk⟩;refine Ar<|Qm Y<|Am<|Ac ?_;refine Aw Y (λhlt=>?_)<|λhlt=>?_
 ·have hkn:k<n:=ω
  have hkv:k<vs.length:=ω
  have hkM:k<M.length:=ω
  have cV:∀ms,Cell h ms ((AH hv).add (k*1)) vs[k]:=λms=>(G.hd.any (ms:=ms)).cell0 hkv Y;have rK:=(G.row k hkv hkM).rd;have oK:=rK.one;have hst:=aw List.length (GL hkM);rw[af]at hst;have hle:=Mf (M:=M) (k+1);refine Ah<|Ab<|Ac<|Ag<|Ar<|Qx (BC (k) rH.any Y AbP Ea Y Y) Y<|Ql Y CE (cV _)<|Qm Y<|Bp<|Qm Y<|Qm Y<|Qx (Aq rK.any Y CE Y) Y<|Qx (oA Y) Y<|Qm Y<|Bp<|Qm Y<|Qm Y<|Am<|Aw Y (λhc=>ie hc<|ω)<|λhc=>Ah<|Ai<|Ab<|Ad<|Qx (oA Y) Y<|Qm Y<|An ?_;exact Ao (n-(k+1)) [(0,hv),(3,.w (((M.take k).flatten.length:Nat)+(M[k].length:Nat))),(9,hv),(10,.w (n:Int)),(11,.w ((k:Int)+1))] ω ⟨k+1,Y,by rw[hst];rfl,rfl,rfl,ω⟩ Qs
 ·obtain rfl:k=n:=ω
  have hall:M.take k=M:=fy ω;rw[hall];refine Ax<|Aa<|Aa<|Af<|Ab<|Ar<|Qm Y<|Qc call251 Y (Zz M.flatten.length ht h)<|λz h2 ms2 l2 hF=>?_;obtain⟨rfl,m,rfl,hO⟩:=hF;have oz:=hO.o1;refine Qm Y<|Am<|Ac<|Ar<|Qm Y<|Qx (Aq rH.any Y AbP Y) Y<|Qm Y<|Am<|Ag ?_;refine AB (λq s h' ms'=>∃(j:Nat) (v:Value) (mo:Hp),q=k-j/\s=[(6,v),(25,hv),(26,.w (k:Int)),(27,.w j)]/\h=h'/\ms'=[mo]/\j<=k/\OwnL Bi 2 33 mo v (M.take j).flatten) (k-0) _ ⟨0,z,m,Y,Y,Y,Y,ω,hO⟩ Qs ?_;rintro q s h' ms' ⟨j,v,mo,rfl,rfl,rfl,rfl,hj,hO⟩;refine Ar<|Qm Y<|Am<|Ac ?_;refine Aw Y (λhlt2=>?_)<|λhlt2=>?_
  ·have hkv:j<vs.length:=ω
   have hkM:j<M.length:=ω
   have cV:∀ms,Cell h ms ((AH hv).add (j*1)) vs[j]:=λms=>(G.hd.any (ms:=ms)).cell0 hkv Y;have rK:=(G.row j hkv hkM)
   have oK:=rK.rd.one;have hst:=GL hkM;have hle:=Mf (M:=M) (j+1);have hst':=aw List.length hst;rw[af]at hst';have hb:(M.take j).flatten.length+M[j].length<=1000000:=by rw[<-hst'];exact bl hle ht
   clear hst' hle;generalize hLL:(M.take j).flatten=LL at *;refine Ah<|Ab<|Ac<|Ag<|Ar<|Qx (BC (j) rH.any Y AbP Ea Y Y) Y<|Ql Y CE (cV _)<|Qm Y<|GX<|Qm Y<|Qm Y<|AJ 0 hO rK.any Y CE Az Y ω Y Y Y ES ω ω Y Y Y<|λv' m' hO'=>?_;rw[<-hst]at hO';refine Qm Y<|An<|Ai<|Ab<|Ad<|Qx (oA Y) Y<|Qm Y<|An ?_;exact Ao (k-(j+1)) _ ω ⟨j+1,v',m',Y,Y,Y,Y,ω,hO'⟩ Qs
  ·obtain rfl:j=k:=ω
   rw[hall]at hO;refine Ax<|Aa<|Aa<|Af<|Ab<|Ar<|Qm Y<|Qm Y<|Am<|Aj ?_;exact Al Y Y (⟨Y,mo,Y,hO⟩)
end
section
open Go.Lin Go.Wd
theorem OwnL.repU{g:Nat}{el:TypeId}(n:Nat)(u:Value)(hn:n<=9223372036854775807):OwnL cU 1 el (BI g el (replicate n u)) (.slice (some ⟨g,0,none⟩) n n) (replicate n u):=by
 have e:replicate n u=(replicate n u).flatMap cU:=by
  clear hn
  induction n with
  | zero=>rfl
  | succ n ih=>rw[List.replicate_succ,List.flatMap_cons,<-ih];rfl
 conv=>arg 4;rw[e]
 exact OwnL.blk n GO σ hn
theorem YY{α:Type}(d:List α)(k:Nat)(x u:α):(d++replicate (k+1) u).set d.length x=(d++[x])++replicate k u:=by rw[List.set_append_right _ _ (am _),Nat.sub_self,List.replicate_succ,List.set_cons_zero,cz];rfl
theorem AcI(va:Value)(r c:Nat)(f:Nat->Nat->Int)(h:Hp)(A:MW va h r c (DW r c f)) :
  FnT Tryz.prog 181 #[va] h [] (λhv h' ms'=>h.le h'/\∃mr mh vs,ms'=[mh,mr]/\OwnL cU 1 89 mh hv vs/\VsO Bi 2 33 mr vs (BK r c f)):=by
 have hr:=A.hr;have hc:=A.hc;obtain⟨ea,rfl,RA⟩:=A.ex;have oa:=RA.rd.one;have hrc:r*c<=200*200:=ep hr hc;have elp:=Ca r c f;refine Ap func181 ntmps181 Y Y<|λw0 hw0=>?_;simp only[AR];refine Ar<|AK [_,_,_] Y Y (by rfl) Y Y Y<|λg1=>Qm Y<|Am<|Av 0 Y λh1 l1 hS1=>?_;have RA1:=RA.up l1;have c0:∀ms,Cell h1 ms ((⟨g1,0,none⟩:Addr).add 0) (.w r):=λms=>(hS1 0 _ Y).any;have c1:∀ms,Cell h1 ms ((⟨g1,0,none⟩:Addr).add 1) (.w c):=λms=>(hS1 1 _ Y).any;have c2:∀ms,Cell h1 ms ((⟨g1,0,none⟩:Addr).add 2) ea:=λms=>(hS1 2 _ Y).any;refine Ar<|Qf EH Y<|Ql Y U3 (c0 _)<|Fb (n:=r) Y CG Ea Y Y Y (by rfl) (by rfl) ω ω Y Y Y<|λg7=>Qm Y<|Am<|Ac<|Ar<|Qm Y<|Qx (D6 (ty:=220) Y CG Y) Y<|Qm Y<|Am<|Ag<|BV ?_
 refine AB (λq sl h' ms'=>∃(k:Nat) (mr mh:Hp) (vs:List Value),q=r-k/\sl=[(1,.pt g1),(3,.slice (some ⟨g7,0,none⟩) r r),(9,.w r),(10,.w k)]/\h1=h'/\ms'=[mr,mh]/\k<=r/\vs.length=k/\OwnL cU 1 89 mh (.slice (some ⟨g7,0,none⟩) r r) (vs++replicate (r-k) (.nl))/\VsO Bi 2 33 mr vs ((BK r c f).take k))
  (r-0) _ ⟨0,Hp.emp,_,[],rfl,rfl,rfl,rfl,ω,rfl,OwnL.repU r _ ω,rfl⟩ Qs ?_
 rintro q sl h' ms' ⟨k,mr,mh,vs,rfl,rfl,rfl,rfl,hk,hvk,hO,hV⟩;refine Ar<|Qm Y<|Am<|Ac ?_;refine Aw Y (λhlt=>?_)<|λhlt=>?_
 ·have hkr:k<r:=ω
  have d1:(k+1)*c=k*c+c:=by rw[cw,fp]
  have d2:(k+1)*c<=r*c:=du c hkr;have d3:((k:Int)+1)*c=k*c+c:=by rw[Int.add_mul,gy]
  have d4:(k:Int)*c=((k*c:Nat):Int):=(fv k c).symm;have hrow:=RA1.rowF hkr;have hvl:=B7 c (f k);refine Ah<|Ab<|Ac<|Ag<|Ar<|Qm Y<|Qm Y<|GX<|Qm Y<|Qm Y<|Qf Gb Y<|Ql Y CE (c2 _)<|Qm Y<|Qf Do Y<|Ql Y U3 (c1 _)<|Qx (oM Y) Y<|Qm Y<|Qx (oA Y) Y<|Qf Do Y<|Ql Y U3 (c1 _)<|Qx (oM Y) Y<|Qx (Hm (k*c) ((k+1)*c) RA1.rd.any Y CE Az Y Y Y ω ω ω ω) Y<|Qc call104 Y (ND (Dr c<|f k) _ h1 hrow ω)<|λu h2 ms2 l2 hF=>?_;obtain⟨rfl,mN,rfl,hN⟩:=hF;have ou:=hN.o1;have ouc:u.cells=(cU u).toArray:=(hN.rd (h:=h1) (ms:=[mN]) Mh).rd.cells;have hlen:(vs++replicate (r-k) (Value.nl)).length=r:=by rw[af,List.length_replicate];omega
  have rH:=(hO.rd (h:=h1) (ms:=[mN,mr,mh]) (.tail _ (.tail _ (.head _)))).rd
  have hset:(vs++replicate (r-k) (Value.nl)).set k u=(vs++[u])++replicate (r-(k+1)) (Value.nl):=by rw[<-hvk,show r-vs.length=(r-(vs.length+1))+1 by omega,YY]
  refine Qx (Cf (k) Y CG Ea Y Y ω ω) Y ?_;refine EF 2 k u hO Y Ea Y Y ouc (λc hc=>by rw[bm.1 hc];exact ou) Y ω Y Y<|λmh' hO'=>?_;rw[hset]at hO';refine An<|Ai<|Ab<|Ad<|Qx (oA Y) Y<|Qm Y<|An<|Hc λhap=>?_;have hap:[mN,mr,mh'].Pairwise Hp.disj:=hap;simp only[b7,bg,List.not_mem_nil,gv,forall_eq_or_imp,forall_eq]at hap;have hV':=VsO.snoc hN hV (Hp.disj_symm hap.1.1);have hrk:k<(BK r c f).length:=by rw[Dq];exact hkr
  have htk:(BK r c f).take k++[Dr c (f k)]=(BK r c f).take (k+1):=by rw[ak hrk];congr 2;simp[BK]
  rw[htk]at hV';refine Es 1 Y<|IJ ?_;exact Ao (r-(k+1)) _ ω ⟨k+1,_,mh',vs++[u],Y,Y,Y,Y,ω,by rw[af,hvk];rfl,hO',hV'⟩ Qs
 ·obtain rfl:k=r:=ω
  rw[Nat.sub_self,List.replicate_zero,append_nil]at hO;rw[List.take_of_length_le (by rw[Dq];omega)]at hV;refine Ax (Aa (Aa (Af (Ab (Ar (Qm rfl (Qm rfl (Am (Aj (Es 1 rfl ?_))))))))));exact Al rfl rfl (⟨l1,mr,mh,vs,rfl,hO,hV⟩)
theorem Ms(va:Value)(r c:Nat)(f:Nat->Nat->Int)(h:Hp)(A:MW va h r c (DW r c f)) :
  FnT Tryz.prog 181 #[va] h [] (λhv h' ms'=>h.le h'/\∃mr vs,ms'=[mr]/\RdL cU 1 h' [] hv vs/\vs.length=r/\VsO Bi 2 33 mr vs (BK r c f)):=
 FnT.frz (AcI va r c f h A) λhv h' ms' ⟨l,mr,mh,vs,e,O,V⟩=>⟨mh,[mr],e,λh2 l2 lm=>⟨AD l l2,mr,vs,rfl,O.rdh lm,by rw[V.len,Dq],V⟩⟩
theorem Y5(hv:Value)(vs:List Value)(M:List (List Int))(c:Nat)(h:Hp)(G:GrR hv h vs M)(hn:M.length<=1000)(ht:M.flatten.length<=1000000) :
  FnT Tryz.prog 187 #[hv,.w c] h [] (λw h' ms'=>h=h'/\∃ev m,ms'=[m]/\w=.agg #[.w M.length,.w c,ev]/\OwnL Bi 2 33 m ev M.flatten):=by
 have rH:Rd h [] hv 1 M.length (vs.flatMap cU):=by have:=G.hd.rd;rwa [G.len]at this
 have oh:=rH.one;refine Ap func187 ntmps187 Y Y<|λw0 hw0=>?_;simp only[AR];refine Ar<|BS [.w 0,.w 0,.nl] Y BL Y Y<|λg4=>Bp<|Qm Y<|Qx (Aq rH.any Y CG Y) Y<|Qm Y<|Qm Y<|Qc call232 Y (Uq hv vs M h G hn ht)<|λz h2 ms2 l2 hF=>?_;obtain⟨rfl,m,rfl,hO⟩:=hF;have oz:=hO.o1;obtain⟨za,zc,rfl,_⟩:=(hO.rd (h:=h) (ms:=[m]) Mh).rd.ex;refine Qx (AN Aed [.w 0,.w 0,.nl] [(0,_),(1,_),(2,_)] [_,_,_] Y BL Y Y Qt Y) Y ?_;refine Sa 1 [_,_,_] BL Y (by simp[Value.oneCell']) ?_;refine Am<|Aj ?_;exact Bx (vs:=[_,_,_]) 1 Y Y HR Y BL Y Y (⟨Y,_,m,Y,Y,hO⟩)
theorem JB(hv:Value)(vs:List Value)(M:List (List Int))(c:Nat)(h:Hp)(G:GrR hv h vs M)(hn:M.length<=1000)(ht:M.flatten.length<=1000000) :
  FnT Tryz.prog 187 #[hv,.w c] h [] (λw h' ms'=>h.le h'/\ms'=[]/\∃ev,w=.agg #[.w M.length,.w c,ev]/\RdL Bi 2 h' [] ev M.flatten):=
 FnT.frz (Y5 hv vs M c h G hn ht) λw h' ms' ⟨l,ev,m,e,e2,O⟩=>⟨m,[],e,λh2 l2 lm=>⟨by rw[l];exact l2,Y,ev,e2,O.rdh lm⟩⟩
theorem Ep(n:Nat)(hn:n<=200)(h:Hp):FnT Tryz.prog 180 #[.int .i64 n] h [] (λv h' ms'=>h.le h'/\ms'=[]/\MW v h' n n (DW n n IR)):=
 FnT.frz (AbY n hn h) λv h' ms' ⟨l,ev,m,e,e2,O⟩=>⟨m,[],e,λh2 l2 lm=>⟨AD l l2,rfl,hn,hn,Ca _ _ _,ev,e2,O.rdh lm⟩⟩
open Go.Sm
set_option exponentiation.threshold 4000000 in
theorem Sz.of{B:Nat}{n:Int}(h:Bq B n)(hB:B<=3000000):Sz n:=by unfold Sz;rw[EV,BQ δ];refine b6 h ?_;rw[show(256:Nat)=2^8 from Y,<-Nat.pow_mul];exact Nat.pow_le_pow_right δ ω
theorem FD{h:Hp}{ms:List Hp}{p:Addr}{vs us:List Value}(S:Seg h ms p vs)(k:Nat)(hu:∀j v,us[j]?=some v->vs[k+j]?=some v):Seg h ms (p.add k) us:=λj v e=>by rw[BF];exact S (k+j) v<|hu j v e
def cT(t:Tn):List Value:=Bi t.a++Bi t.b++Bi t.c++Bi t.d
def TV(t:Tn):Value:=.agg (cT t).toArray
theorem PW(t:Tn)(x y:Int)(B:Nat)(ht:BqT t)(hx:Bq B x)(hy:Bq B y)(hB:B<=1000000)(h:Hp)(ms:List Hp):FnV Tryz.prog 250 #[TV t,WD x,WD y] h ms (.tuple #[WD (t.a*x+t.b*y),WD (t.c*x+t.d*y)]):=by
 refine DY ?_ ms;obtain⟨a,b,c,d⟩:=t;obtain⟨ha,hb,hc,hd⟩:=ht;have zA:=Sz.of ha δ;have Sb:=Sz.of hb δ;have Sc:=Sz.of hc δ;have Sd:=Sz.of hd δ;have Sx:=Sz.of hx ω;have Sy:=Sz.of hy ω;have Max:=Sz.of (ha.mul hx) ω;have Mby:=Sz.of (hb.mul hy) ω;have Mcx:=Sz.of (hc.mul hx) ω;have Mdy:=Sz.of (hd.mul hy) ω;have os:∀n:Int,(sv (A7 n.natAbs)).oneCell'=true:=λ_=>rfl;have o1:=os a;have o2:=os b;have o3:=os c;have o4:=os d;have o5:=os x;have o6:=os y;have o7:=os (a*x+b*y);have o8:=os (c*x+d*y)
 dsimp only at ha hb hc hd Max Mby Mcx Mdy zA Sb Sc Sd ⊢
 show FnT _ _ #[.agg #[.bool (decide (a<0)),sv (A7 a.natAbs),.bool (decide (b<0)),sv (A7 b.natAbs),.bool (decide (c<0)),sv (A7 c.natAbs),.bool (decide (d<0)),sv (A7 d.natAbs)],WD x,WD y] _ _ _;refine Ap func250 ntmps250 rfl rfl (fun w0 hw0=>?_);simp only[AR];refine Ar (AK [_,_,_,_,_,_,_,_] rfl rfl (by rfl) rfl rfl rfl (fun g3=>AK [_,_] rfl rfl (by rfl) rfl rfl rfl (fun g4=>AK [_,_] rfl rfl (by rfl) rfl rfl rfl (fun g5=>BS [.bool false,.string ByteArray.empty] rfl Az rfl rfl (fun g6=>BS [.bool false,.string ByteArray.empty] rfl Az rfl rfl (fun g7=>Am (Av 2 rfl fun h1 l1 hS5=>(Av 2 rfl fun h2 l2 hS4=>(Av 2 rfl fun h3 l3 hS3=>?_)))))))));have S4:=hS4.le l3;have S5:=hS5.le (AD l2 l3);have S3:=hS3;have sa:∀ms,Seg h3 ms ((⟨g3,0,none⟩:Addr).add 0) (Bi a):=fun ms=>FD (Seg.any S3) 0 (fun j v e=>by match j,e with|0,e=>exact e|1,e=>exact e);have sb:∀ms,Seg h3 ms ((⟨g3,0,none⟩:Addr).add 2) (Bi b):=fun ms=>FD (Seg.any S3) 2 (fun j v e=>by match j,e with|0,e=>exact e|1,e=>exact e);have sc:∀ms,Seg h3 ms ((⟨g3,0,none⟩:Addr).add 4) (Bi c):=fun ms=>FD (Seg.any S3) 4 (fun j v e=>by match j,e with|0,e=>exact e|1,e=>exact e);have sd:∀ms,Seg h3 ms ((⟨g3,0,none⟩:Addr).add 6) (Bi d):=fun ms=>FD (Seg.any S3) 6 (fun j v e=>by match j,e with|0,e=>exact e|1,e=>exact e);have sx:∀ms,Seg h3 ms (⟨g4,0,none⟩:Addr) (Bi x):=fun ms=>S4.any;have sy:∀ms,Seg h3 ms (⟨g5,0,none⟩:Addr) (Bi y):=fun ms=>S5.any;refine Ac (AS (n:=20) (bs:=[true,true,true,true,true,true,true,true,true,true,true,true,true,true,true,true,true,true,false,false]) [true,true,true,true,true,true,true,true,true,true,true,true,true,true,true,true,true,true] CC (by kernel_rfl) (by kernel_rfl) rfl rfl (QF Ll rfl (Qp rfl (oG rfl By Az (sa _)) (Qp rfl (oG rfl By Az (sx _)) (Qp rfl (As rfl call141 rfl (JN _ _ (by assumption) (by assumption) _ _)) (QF Lp rfl (Qp rfl (oG rfl By Az (sb _)) (Qp rfl (oG rfl By Az (sy _)) (Qp rfl (As rfl call141 rfl (JN _ _ (by assumption) (by assumption) _ _)) (Qp rfl (As rfl call156 rfl (N1 _ _ (by assumption) (by assumption) _ _)) (QF K5 rfl (Qp rfl (oG rfl By Az (sc _)) (Qp rfl (oG rfl By Az (sx _)) (Qp rfl (As rfl call141 rfl (JN _ _ (by assumption) (by assumption) _ _)) (QF La rfl (Qp rfl (oG rfl By Az (sd _)) (Qp rfl (oG rfl By Az (sy _)) (Qp rfl (As rfl call141 rfl (JN _ _ (by assumption) (by assumption) _ _)) (Qp rfl (As rfl call156 rfl (N1 _ _ (by assumption) (by assumption) _ _)) ?_)))))))))))))))))));unfold Dd;simp only[cons_append,nil_append];refine Qo 18 rfl ?_;refine Sa 1 [_,_] Az rfl (by simp[o1,o2,o3,o4,o5,o6,o7,o8]) ?_;refine Qw (Qo 19 rfl ?_);refine Sa 0 [_,_] Az rfl (by simp[o1,o2,o3,o4,o5,o6,o7,o8]) ?_;refine Qw (Qe (Ab (Aj (Es 1 rfl ?_))));exact Y6 (vs:=[_,_]) (vs2:=[_,_]) rfl rfl rfl By rfl Az rfl rfl rfl
variable {h m:Hp} {vs:List Value} {n c i:Nat} {ms:List Hp} {el:TypeId} {M:List (List Int)}
theorem DF{e:Entry}{Q:Exit->Act->World->Prop}{ops:Array Oper}{rest:List Oper}{o:Oper}{s:AE}{t:TypeId}{x y:Operand}{z:Value}{bytes:Nat}(i j:Nat)(a:Int)(S:Shape n c M)(C:VsO Bi 2 el m vs M)(hi:i<n)(hj:j<c)(v:Value)(hv:vs[i]?=some v)(ho:o.op=.store t x y)(hs:Elem e.P t 2 z bytes)(hx:ev s x=some (.pointer (some ((AH v).add (j*2)))))(hy:ev s y=some (WD a))
  (hd:o.dst=none) (hg:o.guard=none)
  (K:∀m',VsO Bi 2 el m' vs (FT M i j a)->WL e ops Q rest s h (m'::ms)):WL e ops Q (o::rest) s h (m::ms):=by
 have hiM:i<M.length:=by rw[S.len];exact hi
 have hiv:i<vs.length:=by rw[C.len];exact hiM
 have e1:vs[i]=v:=by rw[aj hiv]at hv;exact bf hv
 have hr:=S.row i hi;have e2:M.getD i []=M[i]:=by simp[List.getD,hiM]
 rw[e2]at hr;refine Ty i j a C hiv hiM (by rw[hr];exact hj) ho hs (by rw[e1];exact hx) hy Y (ES _) hd hg λm' C'=>K m' ?_;unfold FT;rw[e2];exact C'
theorem GB{j:Nat}(S:Shape n c M)(C:VsO Bi 2 el m vs M)(hm:m∈ms)(hi:i<n)(hj:j<c){v:Value}(hv:vs[i]?=some v):Seg h ms ((AH v).add (j*2)) (Bi (AV M i j)):=by
 have hiM:i<M.length:=by rw[S.len];exact hi
 have hiv:i<vs.length:=by rw[C.len];exact hiM
 have e1:vs[i]=v:=by rw[aj hiv]at hv;exact bf hv
 have hr:=S.row i hi;have e2:M.getD i []=M[i]:=by simp[List.getD,hiM]
 rw[e2]at hr;have R:=C.rd (h:=h) hm hiv hiM;rw[e1]at R;have hj2:j<M[i].length:=by rw[hr];exact hj
 have:=R.seg hj2;unfold AV;rw[e2];simpa[List.getD,hj2] using this
theorem Fe(S:Shape n c M)(C:VsO Bi 2 el m vs M)(hm:m∈ms)(hi:i<n){v:Value}(hv:vs[i]?=some v):∃cs,Rd h ms v 2 c cs:=by
 have hiM:i<M.length:=by rw[S.len];exact hi
 have hiv:i<vs.length:=by rw[C.len];exact hiM
 have e1:vs[i]=v:=by rw[aj hiv]at hv;exact bf hv
 have hr:=S.row i hi;have e2:M.getD i []=M[i]:=by simp[List.getD,hiM]
 rw[e2]at hr;have R:=(C.rd (h:=h) hm hiv hiM).rd;rw[e1,hr]at R;exact⟨_,R⟩
theorem G6{hv:Value}(H:RdL cU 1 h [] hv vs)(hl:vs.length=n)(hi:i<n):∃v,vs[i]?=some v/\∀ms,Cell h ms ((AH hv).add (i*1)) v:=by
 have hiv:i<vs.length:=ω
 exact⟨vs[i],aj hiv,λms=>(H.any (ms:=ms)).cell0 hiv Y⟩
theorem Yw(t:Tn)(ht:BqT t)(h:Hp)(ms:List Hp):FnV Tryz.prog 229 #[TV t] h ms (TV ⟨t.d,-t.b,-t.c,t.a⟩):=by
 refine DY ?_ ms;obtain⟨a,b,c,d⟩:=t;obtain⟨ha,hb,hc,hd⟩:=ht;have Sb:=Sz.of hb δ;have Sc:=Sz.of hc δ;have os:∀n:Int,(sv (A7 n.natAbs)).oneCell'=true:=λ_=>rfl;have o1:=os a;have o2:=os (-b);have o3:=os (-c);have o4:=os d;have o5:=os b;have o6:=os c
 dsimp only at ha hb hc hd Sb Sc ⊢
 show FnT _ _ #[.agg #[.bool (decide (a<0)),sv (A7 a.natAbs),.bool (decide (b<0)),sv (A7 b.natAbs),.bool (decide (c<0)),sv (A7 c.natAbs),.bool (decide (d<0)),sv (A7 d.natAbs)]] _ _ _;refine Ap func229 ntmps229 Y Y<|λw0 hw0=>?_;simp only[AR];refine Ar<|AK [_,_,_,_,_,_,_,_] Y Y (by rfl) Y Y Y<|λg1=>BS [.bool false,.es,.bool false,.es,.bool false,.es,.bool false,.es] Y DK Y Y<|λg2=>Am<|Av 1 Y λh1 l1 hS1=>?_;have sa:∀ms,Seg h1 ms ((⟨g1,0,none⟩:Addr).add 0) (Bi a):=λms=>FD (Seg.any hS1) 0 (λj v e=>by match j,e with|0,e=>exact e|1,e=>exact e);have sb:∀ms,Seg h1 ms ((⟨g1,0,none⟩:Addr).add 2) (Bi b):=λms=>FD (Seg.any hS1) 2 (λj v e=>by match j,e with|0,e=>exact e|1,e=>exact e);have sc:∀ms,Seg h1 ms ((⟨g1,0,none⟩:Addr).add 4) (Bi c):=λms=>FD (Seg.any hS1) 4 (λj v e=>by match j,e with|0,e=>exact e|1,e=>exact e);have sd:∀ms,Seg h1 ms ((⟨g1,0,none⟩:Addr).add 6) (Bi d):=λms=>FD (Seg.any hS1) 6 (λj v e=>by match j,e with|0,e=>exact e|1,e=>exact e);refine Ac<|AS (n:=12) (bs:=[ig,ig,ig,ig,ig,ig,ig,ig,ig,ig,ig,ii]) [ig,ig,ig,ig,ig,ig,ig,ig,ig,ig,ig] CC κ κ Y Y<|QF La Y<|Qp Y (oG Y By Az<|sd _)<|QF Lp Y<|Qp Y (oG Y By Az<|sb _)<|Qp Y (As Y call231 Y<|LX _ (by assumption) _ _)<|QF K5 Y<|Qp Y (oG Y By Az<|sc _)<|Qp Y (As Y call231 Y<|LX _ (by assumption) _ _)<|QF Ll Y<|Qp Y (oG Y By Az<|sa _)<|Qp Y (AN Nw [.bool false,.es,.bool false,.es,.bool false,.es,.bool false,.es] [(0,_),(2,_),(4,_),(6,_)] [_,_,_,_,_,_,_,_] Y DK Y Y Qt Y) ?_;unfold Dd;simp only[bh,ap];refine Qo 11 Y ?_;refine Sa 0 [_,_,_,_,_,_,_,_] DK Y (by simp[o1,o2,o3,o4,o5,o6]) ?_;refine Qw<|Qe<|Ab<|Aj ?_;exact Bx (vs:=[_,_,_,_,_,_,_,_]) 0 Y Y KP Y DK Y Y<|Y
theorem LH(hv:Value)(vs:List Value)(M:List (List Int))(n c i k B:Nat)(t:Tn)(h m:Hp)(H:RdL cU 1 h [] hv vs)(hl:vs.length=n)(hn:n<=1000)(hc:c<=1000)(S:Shape n c M)(hB:BqM B M)(ht:BqT t)(hB2:B<=900000)(hi:i<n)(hk:k<n)(hik:i≠k)(V:VsO Bi 2 33 m vs M) :
  FnT Tryz.prog 228 #[hv,.w i,.w k,TV t] h [m] (λ_ h' ms'=>h.le h'/\∃m',ms'=[m']/\VsO Bi 2 33 m' vs (Ft i k t M c)):=by
 obtain⟨a,b,cc,d⟩:=t;have os:∀n:Int,(sv (A7 n.natAbs)).oneCell'=true:=λ_=>rfl;have o1:=os a;have o2:=os b;have o3:=os cc;have o4:=os d;show FnT _ _ #[hv,.w i,.w k,.agg #[.bool (decide (a<0)),sv (A7 a.natAbs),.bool (decide (b<0)),sv (A7 b.natAbs),.bool (decide (cc<0)),sv (A7 cc.natAbs),.bool (decide (d<0)),sv (A7 d.natAbs)]] _ _ _;have rH:Rd h [] hv 1 n (vs.flatMap cU):=by have:=H.rd;rwa [hl]at this
 have oh:=rH.one;refine Ap func228 ntmps228 Y Y<|λw0 hw0=>?_;simp only[AR];refine Ar<|AK [_,_,_,_,_,_,_,_] Y Y (by rfl) Y Y Y<|λg7=>Am<|Av 0 Y λh1 l1 hS7=>?_;have sT:∀ms,Seg h1 ms (⟨g7,0,none⟩:Addr) (cT ⟨a,b,cc,d⟩):=λms=>hS7.any;have H1:=H.up l1;have rH1:=rH.le l1;obtain⟨vi,evi,cvi⟩:=G6 H1 hl hi;obtain⟨vk,evk,cvk⟩:=G6 H1 hl hk;obtain⟨_,rI⟩:=Fe (h:=h1) (ms:=[m]) S V Mh hi evi;have oi:=rI.one;refine Ar<|Qm Y<|Qm Y<|Qx (BC (i) rH1.any Y CG Ea Y Y) Y<|Ql Y CE (cvi _)<|Qx (Aq rI Y CE Y) Y<|Qm Y<|Am<|Ag ?_;refine AB (λq sl h' ms'=>∃(j:Nat) (mo:Hp),c-j=q/\sl=[(0,hv),(1,.w i),(2,.w k),(7,.pt g7),(13,.w c),(14,.w j)]/\h1=h'/\ms'=[mo]/\j<=c/\VsO Bi 2 33 mo vs (Ft i k ⟨a,b,cc,d⟩ M j)) (c-0) _ ⟨0,m,Y,Y,Y,Y,ω,V⟩ Qs ?_;rintro q sl h' ms' ⟨j,mo,rfl,rfl,rfl,rfl,hj,hV⟩;refine Ar<|Qm Y<|Am<|Ac ?_;refine Aw Y (λhlt=>?_)<|λhlt=>?_
 ·have hjc:j<c:=ω
  have Sj:=S.rows i k ⟨a,b,cc,d⟩ j;obtain⟨_,rI⟩:=Fe (h:=h1) (ms:=[mo]) Sj hV Mh hi evi;obtain⟨_,rK⟩:=Fe (h:=h1) (ms:=[mo]) Sj hV Mh hk evk;have ok:=rK.one;have eI:AV (Ft i k ⟨a,b,cc,d⟩ M j) i j=AV M i j:=by rw[F4 S _ hi hk hik j ω,ae ω]
  have eK:AV (Ft i k ⟨a,b,cc,d⟩ M j) k j=AV M k j:=by rw[F4 S _ hi hk hik j ω,ae ω]
  have sI:∀h ms,mo∈ms->Seg h ms ((AH vi).add (j*2)) (Bi (AV M i j)):=λh ms hm=>by
   have:=GB (h:=h) Sj hV hm hi hjc evi
   rwa [eI]at this
  have sK:∀h ms,mo∈ms->Seg h ms ((AH vk).add (j*2)) (Bi (AV M k j)):=λh ms hm=>by
   have:=GB (h:=h) Sj hV hm hk hjc evk
   rwa [eK]at this
  have hst:Ft i k ⟨a,b,cc,d⟩ M (j+1)=FT (FT (Ft i k ⟨a,b,cc,d⟩ M j) i j (a*AV M i j+b*AV M k j)) k j (cc*AV M i j+d*AV M k j):=by show It _ _ _ _ _=_;unfold It;rw[eI,eK]
  have hbI:=hB i j;have hbK:=hB k j;generalize AV M i j=x at *;generalize AV M k j=y at *;have ox_:=os x;have oy_:=os y;have op1:=os (a*x+b*y);have op2:=os (cc*x+d*y);refine Ah<|Ab ?_;refine Bv (λsl h' ms'=>∃mo',sl=[(0,hv),(1,.w i),(2,.w k),(7,.pt g7),(13,.w c),(14,.w j)]/\h1=h'/\ms'=[mo']/\VsO Bi 2 33 mo' vs (Ft i k ⟨a,b,cc,d⟩ M (j+1))) ?_<|λs h ms hI=>?_
  ·refine Ag<|Ar<|Qm Y<|Qm Y<|Am<|AS (n:=33) (bs:=[ig,ig,ig,ig,ig,ig,ig,ig,ig,ig,ig,ig,ig,ig,ig,ig,ig,ii,ig,ig,ig,ig,ig,ig,ii,ii,ii,ii,ii,ig,ii,ig,ii]) [ig,ig,ig,ig,ig,ig,ig,ig,ig,ig,ig,ig,ig,ig,ig,ig,ig,ii,ig,ig,ig,ig,ig,ig,ii,ii,ii,ii,ii,ig,ii,ig] CC κ κ Y Y<|Qq Y<|Qq Y<|Qp Y (BC (i) rH1.any Y CG Ea Y Y)<|QL Y CE (cvi _)<|Qq Y<|Qq Y<|Qq Y<|Qp Y (BC (k) rH1.any Y CG Ea Y Y)<|QL Y CE (cvk _)<|Qq Y<|Qp Y (oG Y KP DK<|sT _)<|Qq Y<|Qq Y<|Qp Y (BC (i) rH1.any Y CG Ea Y Y)<|QL Y CE (cvi _)<|Qq Y<|Qp Y (Ba (j) rI Y CE Az Y Y ω ω)<|Qq Y<|Qq Y<|Qp Y (BC (k) rH1.any Y CG Ea Y Y)<|QL Y CE (cvk _)<|Qq Y<|Qp Y (Ba (j) rK Y CE Az Y Y ω ω)<|Qp Y (Ba (j) rI Y CE Az Y Y ω ω)<|Qp Y (Ba (j) rK Y CE Az Y Y ω ω) ?_;unfold Dd;simp only[bh,ap];refine A4 [17,24] κ Y ?_;refine AA Y ?_ ?_
   ·refine Qx (oG Y By Az<|sI _ _ Mh) Y<|Qw<|Qo 24 Y<|Qx (oG Y By Az<|sK _ _ Mh) Y<|Qw<|Qo 25 Y<|Qx (As Y call250 Y<|PW ⟨a,b,cc,d⟩ x y B ht hbI hbK ω _ _) Y<|Qw<|Bb 26 17 κ Y (BE) Y (Au Y Y)<|Bb 27 44 κ Y (BE) Y (BM Y Y Y)<|Bb 28 45 κ Y (BE) Y (BM Y Y Y)<|Qo 30 Y<|DF i j (a*x+b*y) Sj hV hi hjc vi evi Y Az Y Y Y Y<|λm1 hV1=>Qw<|Qo 32 Y<|DF k j (cc*x+d*y) (Sj.set _ _ _) hV1 hk hjc vk evk Y Az Y Y Y Y<|λm2 hV2=>Qw<|Qe ?_;exact Ai<|AI _ ⟨m2,Y,Y,Y,by rw[hst];exact hV2⟩ Qs
   refine AA Y ?_ ?_
   ·refine Qx (oG Y By Az<|sK _ _ Mh) Y<|Qw<|Qo 17 Y<|Qx (oG Y By Az<|sI _ _ Mh) Y<|Qw<|Qo 25 Y<|Qx (As Y call250 Y<|PW ⟨a,b,cc,d⟩ x y B ht hbI hbK ω _ _) Y<|Qw<|Bb 26 17 κ Y (BE) Y (Au Y Y)<|Bb 27 44 κ Y (BE) Y (BM Y Y Y)<|Bb 28 45 κ Y (BE) Y (BM Y Y Y)<|Qo 30 Y<|DF i j (a*x+b*y) Sj hV hi hjc vi evi Y Az Y Y Y Y<|λm1 hV1=>Qw<|Qo 32 Y<|DF k j (cc*x+d*y) (Sj.set _ _ _) hV1 hk hjc vk evk Y Az Y Y Y Y<|λm2 hV2=>Qw<|Qe ?_;exact Ai<|AI _ ⟨m2,Y,Y,Y,by rw[hst];exact hV2⟩ Qs
   exact A5
  ·obtain⟨mo',rfl,rfl,rfl,hV'⟩:=hI;refine Ad<|Qx (oA Y) Y<|Qm Y<|An ?_;exact Ao (c-(j+1)) _ ω ⟨j+1,mo',Y,Y,Y,Y,ω,hV'⟩ Qs
 ·obtain rfl:j=c:=ω
  refine Ax<|Aa<|Aa<|Af ?_;exact Cv Y (⟨l1,mo,Y,hV⟩)
end
section
open Go.Lin Go.Wd Go.Sm
theorem MN(hv:Value)(vs:List Value)(M:List (List Int))(n c i k B:Nat)(t:Tn)(h m:Hp)(H:RdL cU 1 h [] hv vs)(hl:vs.length=n)(hn:n<=1000)(hc:c<=1000)(S:Shape n c M)(hB:BqM B M)(ht:BqT t)(hB2:B<=900000)(hi:i<c)(hk:k<c)(hik:i≠k)(V:VsO Bi 2 33 m vs M) :
  FnT Tryz.prog 230 #[hv,.w i,.w k,TV t] h [m] (λ_ h' ms'=>h.le h'/\∃m',ms'=[m']/\VsO Bi 2 33 m' vs (Fm i k t M n)):=by
 obtain⟨a,b,cc,d⟩:=t;have os:∀n:Int,(sv (A7 n.natAbs)).oneCell'=true:=λ_=>rfl;have o1:=os a;have o2:=os b;have o3:=os cc;have o4:=os d;show FnT _ _ #[hv,.w i,.w k,.agg #[.bool (decide (a<0)),sv (A7 a.natAbs),.bool (decide (b<0)),sv (A7 b.natAbs),.bool (decide (cc<0)),sv (A7 cc.natAbs),.bool (decide (d<0)),sv (A7 d.natAbs)]] _ _ _;have rH:Rd h [] hv 1 n (vs.flatMap cU):=by have:=H.rd;rwa [hl]at this
 have oh:=rH.one;refine Ap func230 ntmps230 Y Y<|λw0 hw0=>?_;simp only[AR];refine Ar<|AK [_,_,_,_,_,_,_,_] Y Y (by rfl) Y Y Y<|λg7=>Am<|Av 0 Y λh1 l1 hS7=>?_;have sT:∀ms,Seg h1 ms (⟨g7,0,none⟩:Addr) (cT ⟨a,b,cc,d⟩):=λms=>hS7.any;have H1:=H.up l1;have rH1:=rH.le l1;refine Ar<|Qm Y<|Qx (Aq rH1.any Y CG Y) Y<|Qm Y<|Am<|Ag ?_;refine AB (λq sl h' ms'=>∃(j:Nat) (mo:Hp),n-j=q/\sl=[(0,hv),(1,.w i),(2,.w k),(7,.pt g7),(10,.w n),(11,.w j)]/\h1=h'/\ms'=[mo]/\j<=n/\VsO Bi 2 33 mo vs (Fm i k ⟨a,b,cc,d⟩ M j)) (n-0) _ ⟨0,m,Y,Y,Y,Y,ω,V⟩ Qs ?_;rintro q sl h' ms' ⟨j,mo,rfl,rfl,rfl,rfl,hj,hV⟩;refine Ar<|Qm Y<|Am<|Ac ?_;refine Aw Y (λhlt=>?_)<|λhlt=>?_
 ·have hjc:j<n:=ω
  have Sj:=S.cols i k ⟨a,b,cc,d⟩ j;obtain⟨vj,evj,cvj⟩:=G6 H1 hl hjc;obtain⟨_,rI⟩:=Fe (h:=h1) (ms:=[mo]) Sj hV Mh hjc evj;have ok:=rI.one;have eI:AV (Fm i k ⟨a,b,cc,d⟩ M j) j i=AV M j i:=by rw[Gw S _ hi hk hik j ω,ae ω]
  have eK:AV (Fm i k ⟨a,b,cc,d⟩ M j) j k=AV M j k:=by rw[Gw S _ hi hk hik j ω,ae ω]
  have sI:∀h ms,mo∈ms->Seg h ms ((AH vj).add (i*2)) (Bi (AV M j i)):=λh ms hm=>by
   have:=GB (h:=h) Sj hV hm hjc hi evj
   rwa [eI]at this
  have sK:∀h ms,mo∈ms->Seg h ms ((AH vj).add (k*2)) (Bi (AV M j k)):=λh ms hm=>by
   have:=GB (h:=h) Sj hV hm hjc hk evj
   rwa [eK]at this
  have hst:Fm i k ⟨a,b,cc,d⟩ M (j+1)=FT (FT (Fm i k ⟨a,b,cc,d⟩ M j) j i (a*AV M j i+b*AV M j k)) j k (cc*AV M j i+d*AV M j k):=by show IS _ _ _ _ _=_;unfold IS;rw[eI,eK]
  have hbI:=hB j i;have hbK:=hB j k;generalize AV M j i=x at *;generalize AV M j k=y at *;have ox_:=os x;have oy_:=os y;have op1:=os (a*x+b*y);have op2:=os (cc*x+d*y);refine Ah<|Ab ?_;refine Bv (λsl h' ms'=>∃mo',sl=[(0,hv),(1,.w i),(2,.w k),(7,.pt g7),(10,.w n),(11,.w j)]/\h1=h'/\ms'=[mo']/\VsO Bi 2 33 mo' vs (Fm i k ⟨a,b,cc,d⟩ M (j+1))) ?_<|λs h ms hI=>?_
  ·refine Ag<|Ar<|Qm Y<|Qm Y<|Am<|AS (n:=33) (bs:=[ig,ig,ig,ig,ig,ig,ig,ig,ig,ig,ig,ig,ig,ig,ig,ig,ig,ii,ig,ig,ig,ig,ig,ig,ii,ii,ii,ii,ii,ig,ii,ig,ii]) [ig,ig,ig,ig,ig,ig,ig,ig,ig,ig,ig,ig,ig,ig,ig,ig,ig,ii,ig,ig,ig,ig,ig,ig,ii,ii,ii,ii,ii,ig,ii,ig] CC κ κ Y Y<|Qq Y<|Qq Y<|Qp Y (BC (j) rH1.any Y CG Ea Y Y)<|QL Y CE (cvj _)<|Qq Y<|Qq Y<|Qq Y<|Qp Y (BC (j) rH1.any Y CG Ea Y Y)<|QL Y CE (cvj _)<|Qq Y<|Qp Y (oG Y KP DK<|sT _)<|Qq Y<|Qq Y<|Qp Y (BC (j) rH1.any Y CG Ea Y Y)<|QL Y CE (cvj _)<|Qq Y<|Qp Y (Ba (i) rI Y CE Az Y Y ω ω)<|Qq Y<|Qq Y<|Qp Y (BC (j) rH1.any Y CG Ea Y Y)<|QL Y CE (cvj _)<|Qq Y<|Qp Y (Ba (k) rI Y CE Az Y Y ω ω)<|Qp Y (Ba (i) rI Y CE Az Y Y ω ω)<|Qp Y (Ba (k) rI Y CE Az Y Y ω ω) ?_;unfold Dd;simp only[bh,ap];refine A4 [17,24] κ Y ?_;refine AA Y ?_ ?_
   ·refine Qx (oG Y By Az<|sI _ _ Mh) Y<|Qw<|Qo 24 Y<|Qx (oG Y By Az<|sK _ _ Mh) Y<|Qw<|Qo 25 Y<|Qx (As Y call250 Y<|PW ⟨a,b,cc,d⟩ x y B ht hbI hbK ω _ _) Y<|Qw<|Bb 26 14 κ Y (BE) Y (Au Y Y)<|Bb 27 41 κ Y (BE) Y (BM Y Y Y)<|Bb 28 42 κ Y (BE) Y (BM Y Y Y)<|Qo 30 Y<|DF j i (a*x+b*y) Sj hV hjc hi vj evj Y Az Y Y Y Y<|λm1 hV1=>Qw<|Qo 32 Y<|DF j k (cc*x+d*y) (Sj.set _ _ _) hV1 hjc hk vj evj Y Az Y Y Y Y<|λm2 hV2=>Qw<|Qe ?_;exact Ai<|AI _ ⟨m2,Y,Y,Y,by rw[hst];exact hV2⟩ Qs
   refine AA Y ?_ ?_
   ·refine Qx (oG Y By Az<|sK _ _ Mh) Y<|Qw<|Qo 17 Y<|Qx (oG Y By Az<|sI _ _ Mh) Y<|Qw<|Qo 25 Y<|Qx (As Y call250 Y<|PW ⟨a,b,cc,d⟩ x y B ht hbI hbK ω _ _) Y<|Qw<|Bb 26 14 κ Y (BE) Y (Au Y Y)<|Bb 27 41 κ Y (BE) Y (BM Y Y Y)<|Bb 28 42 κ Y (BE) Y (BM Y Y Y)<|Qo 30 Y<|DF j i (a*x+b*y) Sj hV hjc hi vj evj Y Az Y Y Y Y<|λm1 hV1=>Qw<|Qo 32 Y<|DF j k (cc*x+d*y) (Sj.set _ _ _) hV1 hjc hk vj evj Y Az Y Y Y Y<|λm2 hV2=>Qw<|Qe ?_;exact Ai<|AI _ ⟨m2,Y,Y,Y,by rw[hst];exact hV2⟩ Qs
   exact A5
  ·obtain⟨mo',rfl,rfl,rfl,hV'⟩:=hI;refine Ad<|Qx (oA Y) Y<|Qm Y<|An ?_;exact Ao (n-(j+1)) _ ω ⟨j+1,mo',Y,Y,Y,Y,ω,hV'⟩ Qs
 ·obtain rfl:j=n:=ω
  refine Ax<|Aa<|Aa<|Af ?_;exact Cv Y (⟨l1,mo,Y,hV⟩)
structure Wk where
 (g n m:Nat)
 (hu hui hd hv hvi:Value)
 (vu vui vd vv vvi:List Value)
structure Wk.In(k:Wk)(h:Hp):Prop where
 seg:Seg h [] ⟨k.g,0,none⟩ [k.hu,k.hui,k.hd,k.hv,k.hvi,.w k.n,.w k.m]
 hn:k.n<=200
 hm:k.m<=200
 ru:RdL cU 1 h [] k.hu k.vu
 rui:RdL cU 1 h [] k.hui k.vui
 rd:RdL cU 1 h [] k.hd k.vd
 rv:RdL cU 1 h [] k.hv k.vv
 rvi:RdL cU 1 h [] k.hvi k.vvi
 lu:k.vu.length=k.n
 lui:k.vui.length=k.n
 ld:k.vd.length=k.n
 lv:k.vv.length=k.m
 lvi:k.vvi.length=k.m
theorem Wk.In.le{k:Wk}{h h':Hp}(I:k.In h)(l:h.le h'):k.In h':=
 ⟨I.seg.le l,I.hn,I.hm,I.ru.up l,I.rui.up l,I.rd.up l,I.rv.up l,I.rvi.up l,I.lu,I.lui,I.ld,I.lv,I.lvi⟩
def FsO(k:Wk)(S:FS)(ms:List Hp):Prop:=∃mu mui md mv mvi,ms=[mu,mui,md,mv,mvi]/\VsO Bi 2 33 mu k.vu S.u/\VsO Bi 2 33 mui k.vui S.ui/\VsO Bi 2 33 md k.vd S.d/\VsO Bi 2 33 mv k.vv S.v/\VsO Bi 2 33 mvi k.vvi S.vi
theorem Q7(k:Wk)(S:FS)(i j B:Nat)(t:Tn)(h:Hp)(ms:List Hp)(I:k.In h)(hO:S.Ok k.n k.m B)(ht:BqT t)(hB:B<=800000)(hi:i<k.n)(hj:j<k.n)(hij:i≠j)(F:FsO k S ms) :
  FnT Tryz.prog 185 #[.pointer (some ⟨k.g,0,none⟩),.w i,.w j,TV t] h ms (λ_ h' ms'=>h.le h'/\FsO k (S.rop k.n k.m i j t) ms'):=by
 obtain⟨mu,mui,md,mv,mvi,rfl,Vu,Vui,Vd,Vv,Vvi⟩:=F;have hn:=I.hn;have hm:=I.hm;have htb:=ht.back;have htk:=ht.bk;have hback:=λh ms=>Yw t ht h ms;obtain⟨a,b,c,d⟩:=t;have os:∀n:Int,(sv (A7 n.natAbs)).oneCell'=true:=λ_=>rfl;have o1:=os a;have o2:=os b;have o3:=os c;have o4:=os d;have o5:=os (-b);have o6:=os (-c);show FnT _ _ #[.pointer (some ⟨k.g,0,none⟩),.w i,.w j,.agg #[.bool (decide (a<0)),sv (A7 a.natAbs),.bool (decide (b<0)),sv (A7 b.natAbs),.bool (decide (c<0)),sv (A7 c.natAbs),.bool (decide (d<0)),sv (A7 d.natAbs)]] _ _ _;refine Ap func185 ntmps185 Y Y<|λw0 hw0=>?_;simp only[AR];refine Ar<|AK [_,_,_,_,_,_,_,_] Y Y (by rfl) Y Y Y<|λg7=>Am<|Av 0 Y λh1 l1 hS7=>?_;have I1:=I.le l1;have sT:∀h',h1.le h'->∀ms,Seg h' ms (⟨g7,0,none⟩:Addr) (cT ⟨a,b,c,d⟩):=λh' l ms=>Seg.any (hS7.le l);have cd_:∀h',h1.le h'->∀ms,Cell h' ms ((⟨k.g,0,none⟩:Addr).add 2) k.hd:=λh' l ms=>((I1.seg 2 _ Y).any).le l;have cu_:∀h',h1.le h'->∀ms,Cell h' ms ((⟨k.g,0,none⟩:Addr).add 0) k.hu:=λh' l ms=>((I1.seg 0 _ Y).any).le l;have cui_:∀h',h1.le h'->∀ms,Cell h' ms ((⟨k.g,0,none⟩:Addr).add 1) k.hui:=λh' l ms=>((I1.seg 1 _ Y).any).le l;have od:=I1.rd.rd.one;have ou:=I1.ru.rd.one;have oui:=I1.rui.rd.one;refine EG 2 Y<|Ac<|AS (n:=9) (bs:=[ig,ig,ig,ig,ig,ig,ig,ig,ii]) [ig,ig,ig,ig,ig,ig,ig,ig] CC κ κ Y Y<|Qq Y<|Qq Y<|QF B9 Y<|QF D8 Y<|QL Y CG (cd_ _ (BE) _)<|Qq Y<|Qq Y<|Qp Y (oG Y KP DK<|sT _ (BE) _) ?_;unfold Dd;simp only[bh,ap];refine Qo 8 Y<|AC (pre:=[md]) Y call228 Y (LH k.hd k.vd S.d k.n k.m i j B ⟨a,b,c,d⟩ h1 md I1.rd I1.ld ω ω hO.sd hO.bd ht ω hi hj hij Vd) Y Y Y Y<|λz h2 ms2 l2 hF=>?_;obtain⟨l2',md',rfl,Vd'⟩:=hF;refine Qa<|Qe<|Ab<|EG 1 Y<|Ac<|AS (n:=9) (bs:=[ig,ig,ig,ig,ig,ig,ig,ig,ii]) [ig,ig,ig,ig,ig,ig,ig,ig] CC κ κ Y Y<|Qq Y<|Qq Y<|QF B9 Y<|QF Kf Y<|QL Y CG (cu_ _ l2' _)<|Qq Y<|Qq Y<|Qp Y (oG Y KP DK<|sT _ l2' _) ?_;unfold Dd;simp only[bh,ap];refine Qo 8 Y<|AC (pre:=[mu]) Y call228 Y (LH k.hu k.vu S.u k.n k.n i j B ⟨a,b,c,d⟩ h2 mu (I1.ru.up l2') I1.lu ω ω hO.su hO.bu ht ω hi hj hij Vu) Y Y Y Y<|λz h3 ms3 l3 hF=>?_;obtain⟨l3',mu',rfl,Vu'⟩:=hF;refine Qa<|Qe ?_;have l13:=AD l2' l3';refine Ab<|Ar<|Qx (oG Y KP DK<|sT _ l13 _) Y<|Qx (As Y call229 Y<|hback _ _) Y<|BS [.bool false,.es,.bool false,.es,.bool false,.es,.bool false,.es] Y DK Y Y<|λg8=>?_;refine Sa 0 [_,_,_,_,_,_,_,_] DK Y (by simp[o1,o2,o3,o4,o5,o6,od,ou,oui]) ?_;refine Am<|AF λh4 l4 hS8=>?_;have l14:=AD l13 l4;have w0:∀ms,Seg h4 ms ((⟨g8,0,none⟩:Addr).add 0) (Bi d):=λms=>FD (Seg.any hS8) 0 (λj v e=>by match j,e with|0,e=>exact e|1,e=>exact e);have w1:∀ms,Seg h4 ms ((⟨g8,0,none⟩:Addr).add 2) (Bi (-b)):=λms=>FD (Seg.any hS8) 2 (λj v e=>by match j,e with|0,e=>exact e|1,e=>exact e);have w2:∀ms,Seg h4 ms ((⟨g8,0,none⟩:Addr).add 4) (Bi (-c)):=λms=>FD (Seg.any hS8) 4 (λj v e=>by match j,e with|0,e=>exact e|1,e=>exact e);have w3:∀ms,Seg h4 ms ((⟨g8,0,none⟩:Addr).add 6) (Bi a):=λms=>FD (Seg.any hS8) 6 (λj v e=>by match j,e with|0,e=>exact e|1,e=>exact e);refine EG 2 Y<|AS (n:=17) (bs:=[ig,ig,ig,ig,ig,ig,ig,ig,ig,ig,ig,ig,ig,ig,ig,ig,ii]) [ig,ig,ig,ig,ig,ig,ig,ig,ig,ig,ig,ig,ig,ig,ig,ig] CC κ κ Y Y<|Qq Y<|Qq Y<|QF B9 Y<|QF Li Y<|QL Y CG (cui_ _ l14 _)<|Qq Y<|Qq Y<|QF Ll Y<|Qp Y (oG Y By Az<|w0 _)<|QF K5 Y<|Qp Y (oG Y By Az<|w2 _)<|QF Lp Y<|Qp Y (oG Y By Az<|w1 _)<|QF La Y<|Qp Y (oG Y By Az<|w3 _)<|Qp Y (AN Nw [.bool false,.es,.bool false,.es,.bool false,.es,.bool false,.es] [(0,_),(2,_),(4,_),(6,_)] [_,_,_,_,_,_,_,_] Y DK Y Y Qt Y) ?_;unfold Dd;simp only[bh,ap];refine Qo 16 Y<|AC (pre:=[mui]) Y call230 Y (MN k.hui k.vui S.ui k.n k.n i j B ⟨d,-c,-b,a⟩ h4 mui (I1.rui.up l14) I1.lui ω ω hO.sui hO.bui htk ω hi hj hij Vui) Y Y Y Y<|λz h5 ms5 l5 hF=>?_;obtain⟨l5',mui',rfl,Vui'⟩:=hF;refine Qa<|Qe<|Es 1 Y ?_;exact Cv Y (⟨AD l1<|AD l14 l5',mu',mui',md',mv,mvi,Y,Vu',Vui',Vd',Vv,Vvi⟩)
theorem ME(k:Wk)(S:FS)(i j B:Nat)(t:Tn)(h:Hp)(ms:List Hp)(I:k.In h)(hO:S.Ok k.n k.m B)(ht:BqT t)(hB:B<=800000)(hi:i<k.m)(hj:j<k.m)(hij:i≠j)(F:FsO k S ms) :
  FnT Tryz.prog 226 #[.pointer (some ⟨k.g,0,none⟩),.w i,.w j,TV t] h ms (λ_ h' ms'=>h.le h'/\FsO k (S.cop k.n k.m i j t) ms'):=by
 obtain⟨mu,mui,md,mv,mvi,rfl,Vu,Vui,Vd,Vv,Vvi⟩:=F;have hn:=I.hn;have hm:=I.hm;have htb:=ht.back;have htk:=ht.bk;have hback:=λh ms=>Yw t ht h ms;obtain⟨a,b,c,d⟩:=t;have os:∀n:Int,(sv (A7 n.natAbs)).oneCell'=true:=λ_=>rfl;have o1:=os a;have o2:=os b;have o3:=os c;have o4:=os d;have o5:=os (-b);have o6:=os (-c);show FnT _ _ #[.pointer (some ⟨k.g,0,none⟩),.w i,.w j,.agg #[.bool (decide (a<0)),sv (A7 a.natAbs),.bool (decide (b<0)),sv (A7 b.natAbs),.bool (decide (c<0)),sv (A7 c.natAbs),.bool (decide (d<0)),sv (A7 d.natAbs)]] _ _ _;refine Ap func226 ntmps226 Y Y<|λw0 hw0=>?_;simp only[AR];refine Ar<|AK [_,_,_,_,_,_,_,_] Y Y (by rfl) Y Y Y<|λg7=>Am<|Av 0 Y λh1 l1 hS7=>?_;have I1:=I.le l1;have sT:∀h',h1.le h'->∀ms,Seg h' ms (⟨g7,0,none⟩:Addr) (cT ⟨a,b,c,d⟩):=λh' l ms=>Seg.any (hS7.le l);have cd_:∀h',h1.le h'->∀ms,Cell h' ms ((⟨k.g,0,none⟩:Addr).add 2) k.hd:=λh' l ms=>((I1.seg 2 _ Y).any).le l;have cu_:∀h',h1.le h'->∀ms,Cell h' ms ((⟨k.g,0,none⟩:Addr).add 3) k.hv:=λh' l ms=>((I1.seg 3 _ Y).any).le l;have cui_:∀h',h1.le h'->∀ms,Cell h' ms ((⟨k.g,0,none⟩:Addr).add 4) k.hvi:=λh' l ms=>((I1.seg 4 _ Y).any).le l;have od:=I1.rd.rd.one;have ou:=I1.rv.rd.one;have oui:=I1.rvi.rd.one;refine EG 2 Y<|Ac<|AS (n:=9) (bs:=[ig,ig,ig,ig,ig,ig,ig,ig,ii]) [ig,ig,ig,ig,ig,ig,ig,ig] CC κ κ Y Y<|Qq Y<|Qq Y<|QF B9 Y<|QF D8 Y<|QL Y CG (cd_ _ (BE) _)<|Qq Y<|Qq Y<|Qp Y (oG Y KP DK<|sT _ (BE) _) ?_;unfold Dd;simp only[bh,ap];refine Qo 8 Y<|AC (pre:=[md]) Y call230 Y (MN k.hd k.vd S.d k.n k.m i j B ⟨a,b,c,d⟩ h1 md I1.rd I1.ld ω ω hO.sd hO.bd ht ω hi hj hij Vd) Y Y Y Y<|λz h2 ms2 l2 hF=>?_;obtain⟨l2',md',rfl,Vd'⟩:=hF;refine Qa<|Qe<|Ab<|EG 3 Y<|Ac<|AS (n:=9) (bs:=[ig,ig,ig,ig,ig,ig,ig,ig,ii]) [ig,ig,ig,ig,ig,ig,ig,ig] CC κ κ Y Y<|Qq Y<|Qq Y<|QF B9 Y<|QF Vz Y<|QL Y CG (cu_ _ l2' _)<|Qq Y<|Qq Y<|Qp Y (oG Y KP DK<|sT _ l2' _) ?_;unfold Dd;simp only[bh,ap];refine Qo 8 Y<|AC (pre:=[mv]) Y call230 Y (MN k.hv k.vv S.v k.m k.m i j B ⟨a,b,c,d⟩ h2 mv (I1.rv.up l2') I1.lv ω ω hO.sv hO.bv ht ω hi hj hij Vv) Y Y Y Y<|λz h3 ms3 l3 hF=>?_;obtain⟨l3',mv',rfl,Vv'⟩:=hF;refine Qa<|Qe ?_;have l13:=AD l2' l3';refine Ab<|Ar<|Qx (oG Y KP DK<|sT _ l13 _) Y<|Qx (As Y call229 Y<|hback _ _) Y<|BS [.bool false,.es,.bool false,.es,.bool false,.es,.bool false,.es] Y DK Y Y<|λg8=>?_;refine Sa 0 [_,_,_,_,_,_,_,_] DK Y (by simp[o1,o2,o3,o4,o5,o6,od,ou,oui]) ?_;refine Am<|AF λh4 l4 hS8=>?_;have l14:=AD l13 l4;have w0:∀ms,Seg h4 ms ((⟨g8,0,none⟩:Addr).add 0) (Bi d):=λms=>FD (Seg.any hS8) 0 (λj v e=>by match j,e with|0,e=>exact e|1,e=>exact e);have w1:∀ms,Seg h4 ms ((⟨g8,0,none⟩:Addr).add 2) (Bi (-b)):=λms=>FD (Seg.any hS8) 2 (λj v e=>by match j,e with|0,e=>exact e|1,e=>exact e);have w2:∀ms,Seg h4 ms ((⟨g8,0,none⟩:Addr).add 4) (Bi (-c)):=λms=>FD (Seg.any hS8) 4 (λj v e=>by match j,e with|0,e=>exact e|1,e=>exact e);have w3:∀ms,Seg h4 ms ((⟨g8,0,none⟩:Addr).add 6) (Bi a):=λms=>FD (Seg.any hS8) 6 (λj v e=>by match j,e with|0,e=>exact e|1,e=>exact e);refine EG 4 Y<|AS (n:=17) (bs:=[ig,ig,ig,ig,ig,ig,ig,ig,ig,ig,ig,ig,ig,ig,ig,ig,ii]) [ig,ig,ig,ig,ig,ig,ig,ig,ig,ig,ig,ig,ig,ig,ig,ig] CC κ κ Y Y<|Qq Y<|Qq Y<|QF B9 Y<|QF VZ Y<|QL Y CG (cui_ _ l14 _)<|Qq Y<|Qq Y<|QF Ll Y<|Qp Y (oG Y By Az<|w0 _)<|QF K5 Y<|Qp Y (oG Y By Az<|w2 _)<|QF Lp Y<|Qp Y (oG Y By Az<|w1 _)<|QF La Y<|Qp Y (oG Y By Az<|w3 _)<|Qp Y (AN Nw [.bool false,.es,.bool false,.es,.bool false,.es,.bool false,.es] [(0,_),(2,_),(4,_),(6,_)] [_,_,_,_,_,_,_,_] Y DK Y Y Qt Y) ?_;unfold Dd;simp only[bh,ap];refine Qo 16 Y<|AC (pre:=[mvi]) Y call228 Y (LH k.hvi k.vvi S.vi k.m k.m i j B ⟨d,-c,-b,a⟩ h4 mvi (I1.rvi.up l14) I1.lvi ω ω hO.svi hO.bvi htk ω hi hj hij Vvi) Y Y Y Y<|λz h5 ms5 l5 hF=>?_;obtain⟨l5',mvi',rfl,Vvi'⟩:=hF;refine Qa<|Qe<|Es 1 Y<|Es 2 Y<|Es 4 Y<|Es 4 Y ?_;exact Cv Y (⟨AD l1<|AD l14 l5',mu,mui,md',mv',mvi',Y,Vu,Vui,Vd',Vv',Vvi'⟩)
variable {x:Int}
theorem LR(h:¬wrd x=false):x.natAbs<2147483648:=by
 unfold wrd at h;cases hb:Nat.blt x.natAbs 2147483648 with
 | true=>rwa [Nat.blt_eq]at hb
 | false=>exact ie hb h
theorem GI(h:x.natAbs<2147483648):Sz x:=Sz.of (B:=31) h δ
theorem OG{y:Int}(hy:y.natAbs<2147483648):(y/x).natAbs<4294967296:=by
 have h1:(y/x).natAbs<=y.natAbs+1:=by
  by_cases hx:x=0
  ·subst hx;rw[Int.ediv_zero];simp
  ·obtain⟨h1,_⟩:=J6 (a:=y) (b:=x) (m:=y.natAbs) (k:=x.natAbs) hx Y Y;have h2:=Nat.div_le_self y.natAbs x.natAbs;rw[h1];split<;>omega
 omega
theorem bq_one:Bq 32 1:=show(1:Int).natAbs<2^32 by decide
theorem HZ{a b:Int}(hb:b≠0):(a%b).natAbs<=b.natAbs:=by obtain⟨_,_,h3,_⟩:=J6 (a:=a) (b:=b) (m:=a.natAbs) (k:=b.natAbs) hb Y Y;have:=Nat.mod_lt a.natAbs (show 0<b.natAbs by omega);rw[h3];split<;>omega
theorem Xs(k:Wk)(s s':St)(i j:Nat)(x y:Int)(r:Bool)(h:Hp)(ms:List Hp)(I:k.In h)(hO:s.S.Ok k.n k.m (33*s.b+33))(hc:UP (λT=>s.row k.n k.m i j T) x y s=some (s',r))(hi:i<k.n)(hj:j<k.n)(hij:i≠j)(F:FsO k s.S ms) :
  s'.S.Ok k.n k.m (33*s'.b+33)/\FnT Tryz.prog 227 #[WD x,WD y,.w i,.w j,.func (.func 185) #[.pointer (some ⟨k.g,0,none⟩)] #[]] h ms (λv h' ms'=>h.le h'/\v=.bool r/\FsO k s'.S ms'):=by
 have hn:=I.hn;have hm:=I.hm;have os:∀n:Int,(sv (A7 n.natAbs)).oneCell'=true:=λ_=>rfl;have ox_:=os x;have oy_:=os y;unfold UP at hc
 have hyz:y.natAbs<2147483648\/y=0:=by
  by_cases h0:y=0
  ·exact .inr h0
  ·rw[ae h0]at hc;split at hc
   ·cases hc
   ·rename_i h1;exact .inl<|LR λq=>h1<|.inr<|.inr q
 have hy31:y.natAbs<2147483648:=by rcases hyz with h|h;exact h;subst h;decide
 have Sy:=GI hy31;obtain⟨mu,mui,md,mv,mvi,rfl,Vu,Vui,Vd,Vv,Vvi⟩:=F;have F:FsO k s.S [mu,mui,md,mv,mvi]:=⟨mu,mui,md,mv,mvi,Y,Vu,Vui,Vd,Vv,Vvi⟩
 have fin:∀(T:Tn),BqT T->s.row k.n k.m i j T=some s'->s.b<20000/\s'.S=s.S.rop k.n k.m i j T/\s'.S.Ok k.n k.m (33*s'.b+33):=λT hT e=>by
  unfold St.row at e;split at e
  ·rename_i hb;rw[Nat.blt_eq]at hb;have e:=bf e;subst e;exact⟨hb,Y,by have:=hO.rop hT hi hj hij;rw[show 33*(s.b+1)+33=33*s.b+33+33 by omega];exact this⟩
  ·cases e
 by_cases h0:y=0
 ·rw[ah h0]at hc;obtain⟨rfl,rfl⟩:s=s'/\false=r:=by simpa using hc
  refine⟨hO,?_⟩;subst h0;refine Ap func227 ntmps227 Y Y<|λw0 hw0=>?_;simp only[AR];refine Ar<|AK [_,_] Y Y (by rfl) Y Y Y<|λg5=>AK [_,_] Y Y (by rfl) Y Y Y<|λg6=>Qm Y<|Am<|Av 0 Y λh1 l1 hS6=>?_;have s6:∀ms,Seg h1 ms (⟨g6,0,none⟩:Addr) (Bi 0):=λms=>Seg.any hS6;refine Ac<|Ar<|Qx (oG Y By Az<|s6 _) Y<|Qx (As Y call60 Y<|Et 0 Sy _ _) Y<|Qm Y<|Am ?_;refine Aw Y (λhc=>?_)<|λhc=>ie (Y) hc;refine Ar<|Qm Y<|Am<|Aj<|Ae<|AQ ?_;exact Al Y Y (⟨l1,Y,F⟩)
 ·rw[ae h0]at hc;by_cases h1:x=0\/wrd x=false\/wrd y=false
  ·rw[ah h1]at hc;cases hc
  ·rw[ae h1]at hc;have hx0:x≠0:=λq=>h1 (.inl q);have hx31:=LR λq=>h1 (.inr (.inl q));have Sx:=GI hx31;have hyx:y.sign≠0:=λq=>h0 (Int.sign_eq_zero_iff_zero.1 q);have hq31:=OG (x:=x) hy31;have Sq:Sz (y/x):=Sz.of (B:=32) hq31 δ;have hr0:=Int.emod_nonneg y hx0
   have hr1:(y%x).natAbs<2147483648:=by have:=HZ (a:=y) hx0;omega
   have Sr:=GI hr1;have o1:(sv (A7 1)).oneCell'=true:=rfl;have oq:=os (y/x);have or_:=os (y%x);have onq:=os (-(y/x));by_cases hd2:y%x=0
   ·rw[ah hd2]at hc;obtain⟨s2,e2,e3⟩:=Option.map_eq_some_iff.1 hc;obtain⟨rfl,rfl⟩:s2=s'/\false=r:=by simpa using e3
    have hT:BqT ⟨1,0,-(y/x),1⟩:=⟨bq_one,Bq.zero _,Bq.neg hq31,bq_one⟩
    obtain⟨hb,hS,hOk⟩:=fin _ hT e2;refine⟨hOk,?_⟩;refine Ap func227 ntmps227 rfl rfl (fun w0 hw0=>?_);simp only[AR];refine Ar (AK [_,_] rfl rfl (by rfl) rfl rfl rfl (fun g5=>AK [_,_] rfl rfl (by rfl) rfl rfl rfl (fun g6=>Qm rfl (Am (Av 0 rfl fun h1 l1 hS6=>(Av 0 rfl fun h2 l2 hS5=>?_))))));have hS6:=hS6.le l2;have l12:=AD l1 l2;have s5:∀h',h2.le h'->∀ms,Seg h' ms (⟨g5,0,none⟩:Addr) (Bi x):=fun h' l ms=>Seg.any (hS5.le l);have s6:∀h',h2.le h'->∀ms,Seg h' ms (⟨g6,0,none⟩:Addr) (Bi y):=fun h' l ms=>Seg.any (hS6.le l);refine Ac (Ar (Qx (oG rfl By Az (s6 _ (BE) _)) rfl (Qx (As rfl call60 rfl (Et y Sy _ _)) rfl (Qm rfl (Am (Aw rfl (fun hc=>absurd hc (hyx)) (fun hc=>Ah (Ab (Ar (Qx (As rfl call95 rfl (GU 1 (by decide) _ _)) rfl (BS [.bool false,.string ByteArray.empty] rfl Az rfl rfl (fun g11=>?_))))))))))));refine Sa 0 [_,_] Az rfl (by simp[ox_,oy_,o1,oq,or_,onq]) ?_;refine Am (Av 0 rfl fun h3 l3 hS11=>?_);have l23:=l3;have s11:∀h',h3.le h'->∀ms,Seg h' ms (⟨g11,0,none⟩:Addr) (Bi 1):=fun h' l ms=>Seg.any (hS11.le l);refine Ac (Ar (Qx (oG rfl By Az (s6 _ l3 _)) rfl (Qx (oG rfl By Az (s5 _ l3 _)) rfl (Qx (As rfl call100 rfl (Np y x Sy hx0 (by omega) _ _)) rfl (Qm rfl (Qm rfl (Qm rfl (Qm rfl (BS [.bool false,.string ByteArray.empty] rfl Az rfl rfl (fun g12=>BS [.bool false,.string ByteArray.empty] rfl Az rfl rfl (fun g13=>?_)))))))))));refine Sa 1 [_,_] Az rfl (by simp[ox_,oy_,o1,oq,or_,onq]) ?_;refine Sa 0 [_,_] Az rfl (by simp[ox_,oy_,o1,oq,or_,onq]) ?_;refine Qm rfl (Am (Av 0 rfl fun h4 l4 hS13=>(Av 0 rfl fun h5 l5 hS12=>?_)));have l35:=AD l4 l5;have l25:=AD l3 l35;have s12:∀ms,Seg h5 ms (⟨g12,0,none⟩:Addr) (Bi (y/x)):=fun ms=>Seg.any hS12;have s13:∀ms,Seg h5 ms (⟨g13,0,none⟩:Addr) (Bi (y%x)):=fun ms=>Seg.any (hS13.le l5);have hrz:(y%x).sign=0:=Int.sign_eq_zero_iff_zero.2 hd2;refine Ar (Qm rfl (Qm rfl (Qg (oG rfl By Az (s13 _)) rfl (Qg (As rfl call60 rfl (Et (y%x) Sr _ _)) rfl (Qg (Cq rfl rfl rfl) rfl (Qm rfl (Am ?_)))))));refine Aw rfl (fun hc=>?_) (fun hc=>absurd (hrz) hc);have I5:=(I.le l12).le l25;refine Ac (AS (n:=10) (bs:=[true,true,true,true,true,true,true,true,true,false]) [true,true,true,true,true,true,true,true,true] CC (by kernel_rfl) (by kernel_rfl) rfl rfl (Qq rfl (Qq rfl (Qq rfl (Qp rfl (oG rfl By Az (s11 _ l35 _)) (Qp rfl (AN Jp [.bool false,.string ByteArray.empty] [] [_,_] rfl Az rfl rfl Qt rfl) (Qp rfl (oG rfl By Az (s12 _)) (Qp rfl (As rfl call231 rfl (LX (y/x) Sq _ _)) (Qp rfl (oG rfl By Az (s11 _ l35 _)) (Qp rfl (AN Nw [.bool false,.string ByteArray.empty,.bool false,.string ByteArray.empty,.bool false,.string ByteArray.empty,.bool false,.string ByteArray.empty] [(0,_),(2,_),(4,_),(6,_)] [_,_,_,_,_,_,_,_] rfl DK rfl rfl Qt rfl) ?_))))))))));unfold Dd;simp only[cons_append,nil_append];refine Qo 9 rfl (E5 (pre:=[mu,mui,md,mv,mvi]) rfl rfl call185 rfl (Q7 k s.S i j (33*s.b+33) ⟨1,0,-(y/x),1⟩ h5 _ I5 hO hT (by omega) hi hj hij F) rfl rfl rfl rfl (fun z h6 ms6 l6 hF=>?_));obtain⟨l6',hF6⟩:=hF;refine Qa (Qe (Ab (Ar (Qm rfl (Am (Aj (Ae ?_)))))));exact Al rfl rfl (⟨AD l12 (AD l25 l6'),rfl,by rw[append_nil,hS];exact hF6⟩)
   ·rw[ae hd2]at hc;cases hc
end
section
open Go.Lin Go.Wd Go.Sm
theorem Xl(k:Wk)(s s':St)(i j:Nat)(x y:Int)(r:Bool)(h:Hp)(ms:List Hp)(I:k.In h)(hO:s.S.Ok k.n k.m (33*s.b+33))(hc:UP (λT=>s.col k.n k.m i j T) x y s=some (s',r))(hi:i<k.m)(hj:j<k.m)(hij:i≠j)(F:FsO k s.S ms) :
  s'.S.Ok k.n k.m (33*s'.b+33)/\FnT Tryz.prog 227 #[WD x,WD y,.w i,.w j,.func (.func 226) #[.pointer (some ⟨k.g,0,none⟩)] #[]] h ms (λv h' ms'=>h.le h'/\v=.bool r/\FsO k s'.S ms'):=by
 have hn:=I.hn;have hm:=I.hm;have os:∀n:Int,(sv (A7 n.natAbs)).oneCell'=true:=λ_=>rfl;have ox_:=os x;have oy_:=os y;unfold UP at hc
 have hyz:y.natAbs<2147483648\/y=0:=by
  by_cases h0:y=0
  ·exact .inr h0
  ·rw[ae h0]at hc;split at hc
   ·cases hc
   ·rename_i h1;exact .inl<|LR λq=>h1<|.inr<|.inr q
 have hy31:y.natAbs<2147483648:=by rcases hyz with h|h;exact h;subst h;decide
 have Sy:=GI hy31;obtain⟨mu,mui,md,mv,mvi,rfl,Vu,Vui,Vd,Vv,Vvi⟩:=F;have F:FsO k s.S [mu,mui,md,mv,mvi]:=⟨mu,mui,md,mv,mvi,Y,Vu,Vui,Vd,Vv,Vvi⟩
 have fin:∀(T:Tn),BqT T->s.col k.n k.m i j T=some s'->s.b<20000/\s'.S=s.S.cop k.n k.m i j T/\s'.S.Ok k.n k.m (33*s'.b+33):=λT hT e=>by
  unfold St.col at e;split at e
  ·rename_i hb;rw[Nat.blt_eq]at hb;have e:=bf e;subst e;exact⟨hb,Y,by have:=hO.cop hT hi hj hij;rw[show 33*(s.b+1)+33=33*s.b+33+33 by omega];exact this⟩
  ·cases e
 by_cases h0:y=0
 ·rw[ah h0]at hc;obtain⟨rfl,rfl⟩:s=s'/\false=r:=by simpa using hc
  refine⟨hO,?_⟩;subst h0;refine Ap func227 ntmps227 Y Y<|λw0 hw0=>?_;simp only[AR];refine Ar<|AK [_,_] Y Y (by rfl) Y Y Y<|λg5=>AK [_,_] Y Y (by rfl) Y Y Y<|λg6=>Qm Y<|Am<|Av 0 Y λh1 l1 hS6=>?_;have s6:∀ms,Seg h1 ms (⟨g6,0,none⟩:Addr) (Bi 0):=λms=>Seg.any hS6;refine Ac<|Ar<|Qx (oG Y By Az<|s6 _) Y<|Qx (As Y call60 Y<|Et 0 Sy _ _) Y<|Qm Y<|Am ?_;refine Aw Y (λhc=>?_)<|λhc=>ie (Y) hc;refine Ar<|Qm Y<|Am<|Aj<|Ae<|AQ ?_;exact Al Y Y (⟨l1,Y,F⟩)
 ·rw[ae h0]at hc;by_cases h1:x=0\/wrd x=false\/wrd y=false
  ·rw[ah h1]at hc;cases hc
  ·rw[ae h1]at hc;have hx0:x≠0:=λq=>h1 (.inl q);have hx31:=LR λq=>h1 (.inr (.inl q));have Sx:=GI hx31;have hyx:y.sign≠0:=λq=>h0 (Int.sign_eq_zero_iff_zero.1 q);have hq31:=OG (x:=x) hy31;have Sq:Sz (y/x):=Sz.of (B:=32) hq31 δ;have hr0:=Int.emod_nonneg y hx0
   have hr1:(y%x).natAbs<2147483648:=by have:=HZ (a:=y) hx0;omega
   have Sr:=GI hr1;have o1:(sv (A7 1)).oneCell'=true:=rfl;have oq:=os (y/x);have or_:=os (y%x);have onq:=os (-(y/x));by_cases hd2:y%x=0
   ·rw[ah hd2]at hc;obtain⟨s2,e2,e3⟩:=Option.map_eq_some_iff.1 hc;obtain⟨rfl,rfl⟩:s2=s'/\false=r:=by simpa using e3
    have hT:BqT ⟨1,0,-(y/x),1⟩:=⟨bq_one,Bq.zero _,Bq.neg hq31,bq_one⟩
    obtain⟨hb,hS,hOk⟩:=fin _ hT e2;refine⟨hOk,?_⟩;refine Ap func227 ntmps227 rfl rfl (fun w0 hw0=>?_);simp only[AR];refine Ar (AK [_,_] rfl rfl (by rfl) rfl rfl rfl (fun g5=>AK [_,_] rfl rfl (by rfl) rfl rfl rfl (fun g6=>Qm rfl (Am (Av 0 rfl fun h1 l1 hS6=>(Av 0 rfl fun h2 l2 hS5=>?_))))));have hS6:=hS6.le l2;have l12:=AD l1 l2;have s5:∀h',h2.le h'->∀ms,Seg h' ms (⟨g5,0,none⟩:Addr) (Bi x):=fun h' l ms=>Seg.any (hS5.le l);have s6:∀h',h2.le h'->∀ms,Seg h' ms (⟨g6,0,none⟩:Addr) (Bi y):=fun h' l ms=>Seg.any (hS6.le l);refine Ac (Ar (Qx (oG rfl By Az (s6 _ (BE) _)) rfl (Qx (As rfl call60 rfl (Et y Sy _ _)) rfl (Qm rfl (Am (Aw rfl (fun hc=>absurd hc (hyx)) (fun hc=>Ah (Ab (Ar (Qx (As rfl call95 rfl (GU 1 (by decide) _ _)) rfl (BS [.bool false,.string ByteArray.empty] rfl Az rfl rfl (fun g11=>?_))))))))))));refine Sa 0 [_,_] Az rfl (by simp[ox_,oy_,o1,oq,or_,onq]) ?_;refine Am (Av 0 rfl fun h3 l3 hS11=>?_);have l23:=l3;have s11:∀h',h3.le h'->∀ms,Seg h' ms (⟨g11,0,none⟩:Addr) (Bi 1):=fun h' l ms=>Seg.any (hS11.le l);refine Ac (Ar (Qx (oG rfl By Az (s6 _ l3 _)) rfl (Qx (oG rfl By Az (s5 _ l3 _)) rfl (Qx (As rfl call100 rfl (Np y x Sy hx0 (by omega) _ _)) rfl (Qm rfl (Qm rfl (Qm rfl (Qm rfl (BS [.bool false,.string ByteArray.empty] rfl Az rfl rfl (fun g12=>BS [.bool false,.string ByteArray.empty] rfl Az rfl rfl (fun g13=>?_)))))))))));refine Sa 1 [_,_] Az rfl (by simp[ox_,oy_,o1,oq,or_,onq]) ?_;refine Sa 0 [_,_] Az rfl (by simp[ox_,oy_,o1,oq,or_,onq]) ?_;refine Qm rfl (Am (Av 0 rfl fun h4 l4 hS13=>(Av 0 rfl fun h5 l5 hS12=>?_)));have l35:=AD l4 l5;have l25:=AD l3 l35;have s12:∀ms,Seg h5 ms (⟨g12,0,none⟩:Addr) (Bi (y/x)):=fun ms=>Seg.any hS12;have s13:∀ms,Seg h5 ms (⟨g13,0,none⟩:Addr) (Bi (y%x)):=fun ms=>Seg.any (hS13.le l5);have hrz:(y%x).sign=0:=Int.sign_eq_zero_iff_zero.2 hd2;refine Ar (Qm rfl (Qm rfl (Qg (oG rfl By Az (s13 _)) rfl (Qg (As rfl call60 rfl (Et (y%x) Sr _ _)) rfl (Qg (Cq rfl rfl rfl) rfl (Qm rfl (Am ?_)))))));refine Aw rfl (fun hc=>?_) (fun hc=>absurd (hrz) hc);have I5:=(I.le l12).le l25;refine Ac (AS (n:=10) (bs:=[true,true,true,true,true,true,true,true,true,false]) [true,true,true,true,true,true,true,true,true] CC (by kernel_rfl) (by kernel_rfl) rfl rfl (Qq rfl (Qq rfl (Qq rfl (Qp rfl (oG rfl By Az (s11 _ l35 _)) (Qp rfl (AN Jp [.bool false,.string ByteArray.empty] [] [_,_] rfl Az rfl rfl Qt rfl) (Qp rfl (oG rfl By Az (s12 _)) (Qp rfl (As rfl call231 rfl (LX (y/x) Sq _ _)) (Qp rfl (oG rfl By Az (s11 _ l35 _)) (Qp rfl (AN Nw [.bool false,.string ByteArray.empty,.bool false,.string ByteArray.empty,.bool false,.string ByteArray.empty,.bool false,.string ByteArray.empty] [(0,_),(2,_),(4,_),(6,_)] [_,_,_,_,_,_,_,_] rfl DK rfl rfl Qt rfl) ?_))))))))));unfold Dd;simp only[cons_append,nil_append];refine Qo 9 rfl (E5 (pre:=[mu,mui,md,mv,mvi]) rfl rfl call226 rfl (ME k s.S i j (33*s.b+33) ⟨1,0,-(y/x),1⟩ h5 _ I5 hO hT (by omega) hi hj hij F) rfl rfl rfl rfl (fun z h6 ms6 l6 hF=>?_));obtain⟨l6',hF6⟩:=hF;refine Qa (Qe (Ab (Ar (Qm rfl (Am (Aj (Ae ?_)))))));exact Al rfl rfl (⟨AD l12 (AD l25 l6'),rfl,by rw[append_nil,hS];exact hF6⟩)
   ·rw[ae hd2]at hc;cases hc
theorem FsO.el{k:Wk}{S:FS}{ms:List Hp}{h:Hp}{B:Nat}(F:FsO k S ms)(O:S.Ok k.n k.m B){i j:Nat}(hi:i<k.n)(hj:j<k.m){v:Value}(hv:k.vd[i]?=some v):Seg h ms ((AH v).add (j*2)) (Bi (AV S.d i j)):=by obtain⟨mu,mui,md,mv,mvi,rfl,Vu,Vui,Vd,Vv,Vvi⟩:=F;exact GB O.sd Vd (.tail _<|.tail _<|.head _) hi hj hv
theorem FsO.rw_{k:Wk}{S:FS}{ms:List Hp}{h:Hp}{B:Nat}(F:FsO k S ms)(O:S.Ok k.n k.m B){i:Nat}(hi:i<k.n){v:Value}(hv:k.vd[i]?=some v):∃cs,Rd h ms v 2 k.m cs:=by obtain⟨mu,mui,md,mv,mvi,rfl,Vu,Vui,Vd,Vv,Vvi⟩:=F;exact Fe O.sd Vd (.tail _<|.tail _<|.head _) hi hv
abbrev OkS(k:Wk)(s:St):Prop:=s.S.Ok k.n k.m (33*s.b+33)
theorem YT(k:Wk)(s s':St)(t f:Nat)(h:Hp)(ms:List Hp)(I:k.In h)(hO:OkS k s)(hc:Er k.n k.m t f s=some s')(ht:t<k.n)(ht2:t<k.m)(F:FsO k s.S ms) :
  FnT Tryz.prog 183 #[.pointer (some ⟨k.g,0,none⟩),.w t] h ms (λ_ h' ms'=>h.le h'/\OkS k s'/\FsO k s'.S ms'):=by
 have hn:=I.hn;have hm:=I.hm;have cn_:∀h',h.le h'->∀ms,Cell h' ms ((⟨k.g,0,none⟩:Addr).add 5) (.w k.n):=λh' l ms=>((I.seg 5 _ Y).any).le l;have cm_:∀h',h.le h'->∀ms,Cell h' ms ((⟨k.g,0,none⟩:Addr).add 6) (.w k.m):=λh' l ms=>((I.seg 6 _ Y).any).le l;have cd_:∀h',h.le h'->∀ms,Cell h' ms ((⟨k.g,0,none⟩:Addr).add 2) k.hd:=λh' l ms=>((I.seg 2 _ Y).any).le l;have od:=I.rd.rd.one;have rD:∀h',h.le h'->Rd h' [] k.hd 1 k.n (k.vd.flatMap cU):=λh' l=>by have:=(I.rd.up l).rd;rwa [I.ld]at this
 obtain⟨vt,evt,_⟩:=G6 I.rd I.ld ht
 have cvt:∀h',h.le h'->∀ms,Cell h' ms ((AH k.hd).add (t*1)) vt:=λh' l ms=>by obtain⟨v,e,c⟩:=G6 (I.rd.up l) I.ld ht;rw[evt]at e;obtain rfl:=bf e;exact c ms
 refine Ap func183 ntmps183 Y Y<|λw0 hw0=>?_;simp only[AR];refine Ar<|Qm Y<|Am<|Ag<|AB (λq sl h' ms'=>∃(c:Bool) (sc:St) (g:Nat),sl=[(0,.pointer (some ⟨k.g,0,none⟩)),(1,.w t),(4,.bool c)]/\h.le h'/\OkS k sc/\FsO k sc.S ms'/\((c=true/\q=g+1/\Er k.n k.m t g sc=some s')\/(c=false/\q=0/\sc=s'))) (f+1) _ ⟨true,s,f,Y,BE,hO,F,.inl ⟨Y,Y,hc⟩⟩ Qs ?_;rintro q sl h' ms' ⟨c,sc,g,rfl,lh,hO,F,hcase⟩;refine Ac<|Ar<|Qm Y<|Am ?_;refine BW Y (λhcc=>?_)<|λhcc=>?_
 ·obtain⟨rfl,hg⟩:q=g+1/\Er k.n k.m t g sc=some s':=by
   rcases hcase with h|h
   ·exact h.2
   ·rw[h.1]at hcc;cases hcc
  obtain⟨g,rfl⟩:∃g',g=g'+1:=by
   cases g with
   | zero=>cases hg
   | succ g=>exact⟨g,Y⟩
  obtain⟨s1,e1⟩:∃s1,GJ k.n k.m t (k.n-(t+1)) (t+1) sc=some s1:=by
   unfold Er pass at hg;cases hq:GJ k.n k.m t (k.n-(t+1)) (t+1) sc with
   | none=>rw[hq]at hg;cases hg
   | some s1=>exact⟨s1,Y⟩
  obtain⟨s2,c2,e2⟩:∃s2 c2,F9 k.n k.m t (k.m-(t+1)) (t+1) false s1=some (s2,c2):=by
   unfold Er pass at hg;rw[e1]at hg;simp only at hg;cases hq:F9 k.n k.m t (k.m-(t+1)) (t+1) false s1 with
   | none=>rw[hq]at hg;cases hg
   | some p=>exact⟨p.1,p.2,Y⟩
  have hg2:(c2=true/\Er k.n k.m t g s2=some s')\/(c2=false/\s2=s'):=by
   unfold Er pass at hg;rw[e1]at hg;simp only at hg;rw[e2]at hg;cases c2 with
   | true=>exact .inl ⟨Y,hg⟩
   | false=>exact .inr ⟨Y,bf hg⟩
  refine Ah<|Ab<|Ag<|Ar<|Qm Y<|Am<|Ac<|Ar<|Qm Y<|Qx (oA Y) Y<|Qm Y<|Am<|Ag ?_;refine AB (λq sl h' ms'=>∃(i:Nat) (si:St),k.n-i=q/\sl=[(0,.pointer (some ⟨k.g,0,none⟩)),(1,.w t),(4,.bool false),(5,.w i)]/\h.le h'/\t<i/\i<=k.n/\OkS k si/\FsO k si.S ms'/\GJ k.n k.m t (k.n-i) i si=some s1) (k.n-(t+1)) _ ⟨t+1,sc,Y,Y,lh,ω,ω,hO,F,e1⟩ Qs ?_;rintro q sl h' ms' ⟨i,si,rfl,rfl,lh,hti,hin,hO,F,hr⟩;refine Ac<|Ar<|Qm Y<|Qm Y<|Qm Y<|Qf IU Y<|Qx (FX 0 Y Th Bk Y Y Y ω) Y<|Ql Y U3 (cn_ _ lh _)<|Qm Y<|Am ?_;refine Aw Y (λhlt=>?_)<|λhlt=>?_
  ·have hi:i<k.n:=ω
   obtain⟨sn,cn,en,en2⟩:∃sn cn,UP (λT=>si.row k.n k.m t i T) (AV si.S.d t t) (AV si.S.d i t) si=some (sn,cn)/\GJ k.n k.m t (k.n-(i+1)) (i+1) sn=some s1:=by
    rw[show k.n-i=(k.n-(i+1))+1 by omega]at hr;unfold GJ at hr;cases hq:UP (λT=>si.row k.n k.m t i T) (AV si.S.d t t) (AV si.S.d i t) si with
    | none=>rw[hq]at hr;cases hr
    | some p=>rw[hq]at hr;exact⟨p.1,p.2,Y,hr⟩
   obtain⟨hOn,hFn⟩:=Xs k si sn t i _ _ cn h' _ (I.le lh) hO en ht hi ω F;obtain⟨mu,mui,md,mv,mvi,hms,hVs⟩:=F;have F:FsO k si.S ms':=⟨mu,mui,md,mv,mvi,hms,hVs⟩
   subst hms;obtain⟨_,rT⟩:=F.rw_ (h:=h') hO ht evt;have oT:=rT.one;have sTT:=F.el (h:=h') hO ht ht2 evt;obtain⟨vi,evi,cvi0⟩:=G6 (I.rd.up lh) I.ld hi;obtain⟨_,rI⟩:=F.rw_ (h:=h') hO hi evi;have oI:=rI.one;have sIT:=F.el (h:=h') hO hi ht2 evi;generalize AV si.S.d t t=x at *;generalize AV si.S.d i t=y at *;have ox_:(sv (A7 x.natAbs)).oneCell'=true:=rfl;have oy_:(sv (A7 y.natAbs)).oneCell'=true:=rfl;refine Ah<|Ab ?_;refine Bv (λsl h' ms'=>∃sn,sl=[(0,.pointer (some ⟨k.g,0,none⟩)),(1,.w t),(4,.bool false),(5,.w i)]/\h.le h'/\OkS k sn/\FsO k sn.S ms'/\GJ k.n k.m t (k.n-(i+1)) (i+1) sn=some s1) ?_<|λs h ms hI=>?_
   ·refine Ag<|AS (n:=27) (bs:=[ig,ig,ig,ig,ig,ig,ig,ig,ig,ig,ii,ig,ig,ig,ig,ig,ig,ig,ig,ig,ig,ii,ig,ig,ig,ig,ii]) [ig,ig,ig,ig,ig,ig,ig,ig,ig,ig,ii,ig,ig,ig,ig,ig,ig,ig,ig,ig,ig,ii,ig,ig,ig,ig] CC κ κ Y Y<|Qq Y<|Qq Y<|QF B9 Y<|QF D8 Y<|QL Y CG (cd_ _ lh _)<|Qq Y<|Qp Y (AM (t) (rD _ lh).any Y CG Ea Y Y ω ω)<|QL Y CE (cvt _ lh _)<|Qq Y<|Qp Y (Ba (t) rT Y CE Az Y Y ω ω)<|Qq Y<|Qq Y<|QF B9 Y<|QF D8 Y<|QL Y CG (cd_ _ lh _)<|Qq Y<|Qp Y (AM (i) (rD _ lh).any Y CG Ea Y Y ω ω)<|QL Y CE (cvi0 _)<|Qq Y<|Qp Y (Ba (t) rI Y CE Az Y Y ω ω)<|Qq Y<|Qq Y<|Qq Y<|Qp Y (Bz Y Y Y) ?_;unfold Dd;simp only[bh,ap];refine A4 [10,21] κ Y ?_;refine AA Y ?_ ?_;refine Qx (oG Y By Az<|sTT) Y<|Qw<|Qo 21 Y<|Qx (oG Y By Az<|sIT) Y<|Qw ?_
    rotate_left
    refine AA Y ?_ ?_;refine Qx (oG Y By Az<|sIT) Y<|Qw<|Qo 10 Y<|Qx (oG Y By Az<|sTT) Y<|Qw ?_
    rotate_left
    exact A5
    all_goals
     refine Qo 26 rfl (AC (pre:=[mu,mui,md,mv,mvi]) rfl call227 rfl (hFn) rfl rfl rfl rfl (fun z h2 ms2 l2 hF=>?_));obtain⟨l2',rfl,hF2⟩:=hF;refine Qa (Qe ?_);exact Ai (AI _ ⟨sn,rfl,AD lh l2',hOn,by rw[append_nil];exact hF2,en2⟩ Qs)
   ·obtain⟨sn,rfl,ln,hOn,hFn,en2⟩:=hI;refine Ad<|Qm Y<|Qx (oA Y) Y<|Qm Y<|An ?_;exact Ao (k.n-(i+1)) _ ω ⟨i+1,sn,Y,Y,ln,ω,ω,hOn,hFn,en2⟩ Qs
  ·obtain rfl:i=k.n:=ω
   rw[Nat.sub_self]at hr;obtain rfl:=bf hr;refine Ax<|Aa<|Aa<|Af<|Ab<|Ar<|Qm Y<|Qx (oA Y) Y<|Qm Y<|Am<|Ag ?_;refine AB (λq sl h' ms'=>∃(j:Nat) (c:Bool) (sj:St),k.m-j=q/\sl=[(0,.pointer (some ⟨k.g,0,none⟩)),(1,.w t),(4,.bool c),(6,.w j)]/\h.le h'/\t<j/\j<=k.m/\OkS k sj/\FsO k sj.S ms'/\F9 k.n k.m t (k.m-j) j c sj=some (s2,c2)) (k.m-(t+1)) _ ⟨t+1,false,si,Y,Y,lh,ω,ω,hO,F,e2⟩ Qs ?_;rintro q sl h' ms' ⟨j,c,sj,rfl,rfl,lh,htj,hjm,hO,F,hr⟩;refine Ac<|Ar<|Qm Y<|Qm Y<|Qm Y<|Qf IU Y<|Qx (FX 1 Y Th Bk Y Y Y ω) Y<|Ql Y U3 (cm_ _ lh _)<|Qm Y<|Am ?_;refine Aw Y (λhlt=>?_)<|λhlt=>?_
   ·have hj:j<k.m:=ω
    obtain⟨sn,cn,en,en2⟩:∃sn cn,UP (λT=>sj.col k.n k.m t j T) (AV sj.S.d t t) (AV sj.S.d t j) sj=some (sn,cn)/\F9 k.n k.m t (k.m-(j+1)) (j+1) (c||cn) sn=some (s2,c2):=by
     rw[show k.m-j=(k.m-(j+1))+1 by omega]at hr;unfold F9 at hr;cases hq:UP (λT=>sj.col k.n k.m t j T) (AV sj.S.d t t) (AV sj.S.d t j) sj with
     | none=>rw[hq]at hr;cases hr
     | some p=>rw[hq]at hr;exact⟨p.1,p.2,Y,hr⟩
    obtain⟨hOn,hFn⟩:=Xl k sj sn t j _ _ cn h' _ (I.le lh) hO en ht2 hj ω F;obtain⟨mu,mui,md,mv,mvi,hms,hVs⟩:=F;have F:FsO k sj.S ms':=⟨mu,mui,md,mv,mvi,hms,hVs⟩
    subst hms;obtain⟨_,rT⟩:=F.rw_ (h:=h') hO ht evt;have oT:=rT.one;have sTT:=F.el (h:=h') hO ht ht2 evt;have sIT:=F.el (h:=h') hO ht hj evt;generalize AV sj.S.d t t=x at *;generalize AV sj.S.d t j=y at *;have ox_:(sv (A7 x.natAbs)).oneCell'=true:=rfl;have oy_:(sv (A7 y.natAbs)).oneCell'=true:=rfl;refine Ah<|Ab ?_;refine Bv (λsl h' ms'=>∃sn c',sl=[(0,.pointer (some ⟨k.g,0,none⟩)),(1,.w t),(4,.bool c'),(6,.w j)]/\h.le h'/\OkS k sn/\FsO k sn.S ms'/\F9 k.n k.m t (k.m-(j+1)) (j+1) c' sn=some (s2,c2)) ?_<|λs h ms hI=>?_
    ·refine Ag ?_;refine Bv (λsl h' ms'=>sl=[(0,.pointer (some ⟨k.g,0,none⟩)),(1,.w t),(4,.bool c),(6,.w j),(83,.bool cn)]/\h.le h'/\OkS k sn/\FsO k sn.S ms') ?_<|λs h ms hI=>?_
     ·refine AS (n:=27) (bs:=[ig,ig,ig,ig,ig,ig,ig,ig,ig,ig,ii,ig,ig,ig,ig,ig,ig,ig,ig,ig,ig,ii,ig,ig,ig,ig,ii]) [ig,ig,ig,ig,ig,ig,ig,ig,ig,ig,ii,ig,ig,ig,ig,ig,ig,ig,ig,ig,ig,ii,ig,ig,ig,ig] CC κ κ Y Y<|Qq Y<|Qq Y<|QF B9 Y<|QF D8 Y<|QL Y CG (cd_ _ lh _)<|Qq Y<|Qp Y (AM (t) (rD _ lh).any Y CG Ea Y Y ω ω)<|QL Y CE (cvt _ lh _)<|Qq Y<|Qp Y (Ba (t) rT Y CE Az Y Y ω ω)<|Qq Y<|Qq Y<|QF B9 Y<|QF D8 Y<|QL Y CG (cd_ _ lh _)<|Qq Y<|Qp Y (AM (t) (rD _ lh).any Y CG Ea Y Y ω ω)<|QL Y CE (cvt _ lh _)<|Qq Y<|Qp Y (Ba (j) rT Y CE Az Y Y ω ω)<|Qq Y<|Qq Y<|Qq Y<|Qp Y (Bz Y Y Y) ?_;unfold Dd;simp only[bh,ap];refine A4 [10,21] κ Y ?_;refine AA Y ?_ ?_;refine Qx (oG Y By Az<|sTT) Y<|Qw<|Qo 21 Y<|Qx (oG Y By Az<|sIT) Y<|Qw ?_
      rotate_left
      refine AA Y ?_ ?_;refine Qx (oG Y By Az<|sIT) Y<|Qw<|Qo 10 Y<|Qx (oG Y By Az<|sTT) Y<|Qw ?_
      rotate_left
      exact A5
      all_goals
       refine Qo 26 rfl (AC (pre:=[mu,mui,md,mv,mvi]) rfl call227 rfl (hFn) rfl rfl rfl rfl (fun z h2 ms2 l2 hF=>?_));obtain⟨l2',rfl,hF2⟩:=hF;refine Qa (Qe ?_);exact AI _ ⟨rfl,AD lh l2',hOn,by rw[append_nil];exact hF2⟩ Qs
     ·obtain⟨rfl,ln,hOn,hFn2⟩:=hI;refine BW Y (λhcn=>?_)<|λhcn=>?_
      ·rw[hcn,Bool.or_true]at en2;refine Ad<|Qm Y<|An<|Ai ?_;exact AI _ ⟨sn,true,Y,ln,hOn,hFn2,en2⟩ Qs
      ·rw[hcn,Bool.or_false]at en2;refine Ah<|Ai ?_;exact AI _ ⟨sn,c,Y,ln,hOn,hFn2,en2⟩ Qs
    ·obtain⟨sn,c',rfl,ln,hOn,hFn,en2⟩:=hI;refine Ad<|Qm Y<|Qx (oA Y) Y<|Qm Y<|An ?_;exact Ao (k.m-(j+1)) _ ω ⟨j+1,c',sn,Y,Y,ln,ω,ω,hOn,hFn,en2⟩ Qs
   ·obtain rfl:j=k.m:=ω
    rw[Nat.sub_self]at hr;obtain⟨rfl,rfl⟩:sj=s2/\c=c2:=by simpa[F9] using hr
    refine Ax<|Aa<|Aa<|Af<|Ai ?_;rcases hg2 with ⟨rfl,hg2⟩|⟨rfl,rfl⟩
    ·exact Ao (g+1) _ ω ⟨true,sj,g,Y,lh,hO,F,.inl ⟨Y,Y,hg2⟩⟩ Qs
    ·exact Ao 0 _ ω ⟨false,sj,0,Y,lh,hO,F,.inr ⟨Y,Y,Y⟩⟩ Qs
 ·have e3:sc=s':=by
   rcases hcase with h|h
   ·rw[h.1]at hcc;cases hcc
   ·exact h.2.2
  subst e3;refine Ax<|Aa<|Aa<|Af ?_;exact Cv Y (⟨lh,hO,F⟩)
theorem IT:BqT swp:=⟨Bq.zero _,bq_one,bq_one.neg,Bq.zero _⟩
theorem OkS.row{k:Wk}{s s':St}{i j:Nat}{T:Tn}(hO:OkS k s)(hT:BqT T)(hi:i<k.n)(hj:j<k.n)(hij:i≠j)(e:s.row k.n k.m i j T=some s'):s.b<20000/\s'.S=s.S.rop k.n k.m i j T/\OkS k s':=by
 unfold St.row at e;split at e
 ·rename_i hb;rw[Nat.blt_eq]at hb;have e:=bf e;subst e;exact⟨hb,Y,by have:=FS.Ok.rop hO hT hi hj hij;show FS.Ok _ _ (33*(s.b+1)+33) _;rw[show 33*(s.b+1)+33=33*s.b+33+33 by omega];exact this⟩
 ·cases e
theorem OkS.col{k:Wk}{s s':St}{i j:Nat}{T:Tn}(hO:OkS k s)(hT:BqT T)(hi:i<k.m)(hj:j<k.m)(hij:i≠j)(e:s.col k.n k.m i j T=some s'):s.b<20000/\s'.S=s.S.cop k.n k.m i j T/\OkS k s':=by
 unfold St.col at e;split at e
 ·rename_i hb;rw[Nat.blt_eq]at hb;have e:=bf e;subst e;exact⟨hb,Y,by have:=FS.Ok.cop hO hT hi hj hij;show FS.Ok _ _ (33*(s.b+1)+33) _;rw[show 33*(s.b+1)+33=33*s.b+33+33 by omega];exact this⟩
 ·cases e
theorem YW(k:Wk)(s s':St)(t:Nat)(r:Bool)(h:Hp)(ms:List Hp)(I:k.In h)(hO:OkS k s)(hb:s.b<=20000)(hc:Fy k.n k.m t s=some (s',r))(ht:t<k.n)(ht2:t<k.m)(F:FsO k s.S ms) :
  FnT Tryz.prog 182 #[.pointer (some ⟨k.g,0,none⟩),.w t] h ms (λv h' ms'=>h.le h'/\v=.bool r/\OkS k s'/\FsO k s'.S ms'):=by
 have hn:=I.hn;have hm:=I.hm;obtain⟨res,hres⟩:∃res,KB s.S.d k.n t (k.m-t) t=res:=⟨_,Y⟩
 have o1:(sv (A7 1)).oneCell'=true:=rfl;obtain⟨mu,mui,md,mv,mvi,hms,hVs⟩:=F;have F:FsO k s.S ms:=⟨mu,mui,md,mv,mvi,hms,hVs⟩
 subst hms;refine Ap func182 ntmps182 Y Y<|λw0 hw0=>?_;simp only[AR];refine Ar<|Qm Y<|Bp<|Qx (As Y call95 Y<|GU 1 δ _ _) Y<|Qx (As Y call95 Y<|GU (-1) δ _ _) Y<|BS [.bool false,.es] Y Az Y Y<|λg5=>BS [.bool false,.es] Y Az Y Y<|λg6=>Sa 1 [_,_] Az Y (by simp[Value.oneCell',o1,sv])<|Sa 0 [_,_] Az rfl (by simp[Value.oneCell',o1,sv])<|Bp<|Qx (AN Jp [.bool false,.es] [] [_,_] rfl Az rfl rfl Qt rfl) rfl<|Qx (oG rfl By Az<|Seg.blk 1 rfl) rfl<|Qx (oG rfl By Az<|Seg.blk 0 rfl) rfl<|Qx (AN Jp [.bool false,.es] [] [_,_] rfl Az rfl rfl Qt rfl) rfl<|Qx (AN Nw [.bool false,.es,.bool false,.es,.bool false,.es,.bool false,.es] [(0,_),(2,_),(4,_),(6,_)] [_,_,_,_,_,_,_,_] rfl DK rfl rfl Qt rfl) rfl<|BS [.bool false,.es,.bool false,.es,.bool false,.es,.bool false,.es] rfl DK rfl rfl<|λg7=>Sa 0 [_,_,_,_,_,_,_,_] DK rfl (by simp[Value.oneCell',o1,sv])<|Am<|AF λh1 l1 hS7=>JY<|JY ?_;have s7:∀h',h1.le h'->∀ms,Seg h' ms (⟨g7,0,none⟩:Addr) (cT swp):=λh' l ms=>Seg.any (hS7.le l);have I1:=I.le l1;have cn_:∀ms,Cell h1 ms ((⟨k.g,0,none⟩:Addr).add 5) (.w k.n):=λms=>(I1.seg 5 _ Y).any;have cm_:∀ms,Cell h1 ms ((⟨k.g,0,none⟩:Addr).add 6) (.w k.m):=λms=>(I1.seg 6 _ Y).any;have cd_:∀ms,Cell h1 ms ((⟨k.g,0,none⟩:Addr).add 2) k.hd:=λms=>(I1.seg 2 _ Y).any;have od:=I1.rd.rd.one;have rD:Rd h1 [] k.hd 1 k.n (k.vd.flatMap cU):=by have:=I1.rd.rd;rwa [I1.ld]at this
 refine Ac<|Ar<|Qm Y<|Qm Y<|Am<|Ag ?_;refine AB (λq sl h' ms'=>∃(j:Nat),k.m-j=q/\sl=[(0,.pointer (some ⟨k.g,0,none⟩)),(1,.w t),(7,.pt g7),(8,.w j)]/\h1=h'/\ms'=[mu,mui,md,mv,mvi]/\t<=j/\j<=k.m/\KB s.S.d k.n t (k.m-j) j=res) (k.m-t) _ ⟨t,Y,Y,Y,Y,ω,ω,hres⟩ Qs ?_;rintro q sl h' ms' ⟨j,rfl,rfl,rfl,rfl,htj,hjm,hfj⟩;refine Ac<|Ar<|Qm Y<|Qm Y<|Qm Y<|Qf IU Y<|Qx (FX 1 Y Th Bk Y Y Y ω) Y<|Ql Y U3 (cm_ _)<|Qm Y<|Am ?_;refine Aw Y (λhlt=>?_)<|λhlt=>?_
 ·have hj:j<k.m:=ω
  obtain⟨ri,hri⟩:∃ri,OM s.S.d k.n j (k.n-t) t=ri:=⟨_,Y⟩
  rw[show k.m-j=(k.m-(j+1))+1 by omega]at hfj;unfold KB at hfj;rw[hri]at hfj;refine Ah<|Ab<|Ac<|Ag<|Ar<|Qm Y<|Qm Y<|Am<|Ag ?_;refine AB (λq sl h' ms'=>∃(i:Nat),k.n-i=q/\sl=[(0,.pointer (some ⟨k.g,0,none⟩)),(1,.w t),(7,.pt g7),(8,.w j),(9,.w i)]/\h1=h'/\ms'=[mu,mui,md,mv,mvi]/\t<=i/\i<=k.n/\OM s.S.d k.n j (k.n-i) i=ri) (k.n-t) _ ⟨t,Y,Y,Y,Y,ω,ω,hri⟩ Qs ?_;rintro q sl h' ms' ⟨i,rfl,rfl,rfl,rfl,hti,hin,hfi⟩;refine Ac<|Ar<|Qm Y<|Qm Y<|Qm Y<|Qf IU Y<|Qx (FX 0 Y Th Bk Y Y Y ω) Y<|Ql Y U3 (cn_ _)<|Qm Y<|Am ?_;refine Aw Y (λhlt2=>?_)<|λhlt2=>?_
  ·have hi:i<k.n:=ω
   rw[show k.n-i=(k.n-(i+1))+1 by omega]at hfi;unfold OM at hfi;obtain⟨vi,evi,cvi0⟩:=G6 I1.rd I1.ld hi;obtain⟨_,rI⟩:=F.rw_ (h:=h1) hO hi evi;have oI:=rI.one;have sIJ:=F.el (h:=h1) hO hi hj evi;have hsz:=Sz.of (hO.bd i j) ω;generalize AV s.S.d i j=x at *;have ox_:(sv (A7 x.natAbs)).oneCell'=true:=rfl;refine Ah<|Ab<|Ac<|Ag<|Ac<|Ar<|Qm Y<|Qm Y<|Qf B9 Y<|Qf D8 Y<|Ql Y CG (cd_ _)<|Qm Y<|Qx (BC (i) rD.any Y CG Ea Y Y) Y<|Ql Y CE (cvi0 _)<|Qm Y<|Qx (Ba (j) rI Y CE Az Y Y ω ω) Y<|Qx (oG Y By Az<|sIJ) Y<|Qx (As Y call60 Y<|Et x hsz _ _) Y<|Qm Y<|Am ?_;refine Aw Y (λhz=>?_)<|λhz=>?_
   ·have hx0:x=0:=Int.sign_eq_zero_iff_zero.1 hz;rw[ae (by simp[hx0])]at hfi;refine Ax<|Aa<|Af<|Ab<|Ad<|Qm Y<|Qx (oA Y) Y<|Qm Y<|An ?_;exact Ao (k.n-(i+1)) _ ω ⟨i+1,Y,Y,Y,Y,ω,ω,hfi⟩ Qs
   ·have hx0:x≠0:=λq=>hz (Int.sign_eq_zero_iff_zero.2 q);rw[ah hx0]at hfi;subst hfi;simp only at hfj;subst hfj;unfold Fy at hc;rw[hres]at hc;simp only at hc
    obtain⟨s1,e1,e2⟩:∃s1,(if i=t then some s else s.row k.n k.m t i swp)=some s1/\(match (if j=t then some s1 else s1.col k.n k.m t j swp) with|none=>none|some s2=>some (s2,true))=some (s',r):=by
     cases hq:(if i=t then some s else s.row k.n k.m t i swp) with
     | none=>rw[hq]at hc;cases hc
     | some s1=>rw[hq]at hc;exact⟨s1,Y,hc⟩
    obtain⟨s2,e3,e4⟩:∃s2,(if j=t then some s1 else s1.col k.n k.m t j swp)=some s2/\some (s2,true)=some (s',r):=by
     cases hq:(if j=t then some s1 else s1.col k.n k.m t j swp) with
     | none=>rw[hq]at e2;cases e2
     | some s2=>rw[hq]at e2;exact⟨s2,Y,e2⟩
    obtain⟨rfl,rfl⟩:s2=s'/\true=r:=by simpa using e4
    refine Ah<|Ab<|Ac<|Ar<|Qm Y<|Qm Y<|Qm Y<|Am ?_;refine Aw Y (λhne=>?_)<|λhne=>?_
    ·have hne':¬i=t:=ω
     rw[ae hne']at e1;obtain⟨hb1,hS1,hO1⟩:=hO.row IT ht hi ω e1;refine Ad<|Qm Y<|Qm Y<|Qm Y<|Qx (oG Y KP DK<|s7 _ (BE) _) Y<|AC (pre:=[mu,mui,md,mv,mvi]) Y call185 Y (Q7 k s.S t i _ swp h1 _ I1 hO IT ω ht hi ω F) Y Y Y Y<|λz h2 ms2 l2 hF=>?_;obtain⟨l2',F2⟩:=hF;rw[<-hS1]at F2;refine Am<|Ac<|Ar<|Qm Y<|Qm Y<|Qm Y<|Am ?_;refine Aw Y (λhne2=>?_)<|λhne2=>?_
     ·have hne2':¬j=t:=ω
      rw[ae hne2']at e3;obtain⟨hb2,hS2,hO2⟩:=OkS.col hO1 IT ht2 hj ω e3;refine Ad<|Qm Y<|Qm Y<|Qm Y<|Qx (oG Y KP DK<|s7 _ l2' _) Y<|AC (pre:=ms2) Y call226 Y (ME k s1.S t j _ swp h2 _ (I1.le l2') hO1 IT ω ht2 hj ω F2) Y Y Y Y<|λz h3 ms3 l3 hF=>?_;obtain⟨l3',F3⟩:=hF;rw[<-hS2]at F3;refine Bp<|Qm Y<|Am<|Aj<|Ak<|Ae<|Ae<|Ak<|Ak<|Ae<|Ae<|Ak<|Ae ?_;exact Al Y Y (⟨AD l1<|AD l2' l3',Y,hO2,by simpa using F3⟩)
     ·have hne2':j=t:=ω
      rw[ah hne2']at e3;obtain rfl:=bf e3;refine Ah<|Ab<|Ar<|Qm Y<|Am<|Aj<|Ak<|Ae<|Ae<|Ak<|Ak<|Ae<|Ae<|Ak<|Ae ?_;exact Al Y Y (⟨AD l1 l2',Y,hO1,by simpa using F2⟩)
    ·have hne':i=t:=ω
     rw[ah hne']at e1;obtain rfl:=bf e1;refine Ah<|Ab<|Ac<|Ar<|Qm Y<|Qm Y<|Qm Y<|Am ?_;refine Aw Y (λhne2=>?_)<|λhne2=>?_
     ·have hne2':¬j=t:=ω
      rw[ae hne2']at e3;obtain⟨hb2,hS2,hO2⟩:=OkS.col hO IT ht2 hj ω e3;refine Ad<|Qm Y<|Qm Y<|Qm Y<|Qx (oG Y KP DK<|s7 _ (BE) _) Y<|AC (pre:=[mu,mui,md,mv,mvi]) Y call226 Y (ME k s.S t j _ swp h1 _ I1 hO IT ω ht2 hj ω F) Y Y Y Y<|λz h3 ms3 l3 hF=>?_;obtain⟨l3',F3⟩:=hF;rw[<-hS2]at F3;refine Bp<|Qm Y<|Am<|Aj<|Ak<|Ae<|Ae<|Ak<|Ak<|Ae<|Ae<|Ak<|Ae ?_;exact Al Y Y (⟨AD l1 l3',Y,hO2,by simpa using F3⟩)
     ·have hne2':j=t:=ω
      rw[ah hne2']at e3;obtain rfl:=bf e3;refine Ah<|Ab<|Ar<|Qm Y<|Am<|Aj<|Ak<|Ae<|Ae<|Ak<|Ak<|Ae<|Ae<|Ak<|Ae ?_;exact Al Y Y (⟨l1,Y,hO,by simpa using F⟩)
  ·obtain rfl:i=k.n:=ω
   rw[Nat.sub_self]at hfi;subst hfi;replace hfj:KB s.S.d k.n t (k.m-(j+1)) (j+1)=res:=hfj;refine Ax<|Aa<|Aa<|Af<|Ai<|Ab<|Ad<|Qm Y<|Qx (oA Y) Y<|Qm Y<|An ?_;exact Ao (k.m-(j+1)) _ ω ⟨j+1,Y,Y,Y,Y,ω,ω,hfj⟩ Qs
 ·obtain rfl:j=k.m:=ω
  rw[Nat.sub_self]at hfj;subst hfj;unfold Fy at hc;rw[hres]at hc;obtain⟨rfl,rfl⟩:s=s'/\false=r:=by simpa[KB] using hc
  refine Ax<|Aa<|Aa<|Af<|Ab<|Ar<|Qm Y<|Am<|Aj ?_;exact Al Y Y (⟨l1,Y,hO,F⟩)
theorem FsO.elF{k:Wk}{S:FS}{ms:List Hp}{h:Hp}{B:Nat}(F:FsO k S ms)(hm:∀m∈ms,m.le h)(O:S.Ok k.n k.m B){i j:Nat}(hi:i<k.n)(hj:j<k.m){v:Value}(hv:k.vd[i]?=some v):Rd h [] v 2 k.m ((S.d.getD i []).flatMap Bi)/\Seg h [] ((AH v).add (j*2)) (Bi (AV S.d i j)):=by
 obtain⟨mu,mui,md,mv,mvi,rfl,Vu,Vui,Vd,Vv,Vvi⟩:=F;have hiM:i<S.d.length:=by rw[O.sd.len];exact hi
 have hiv:i<k.vd.length:=by rw[Vd.len];exact hiM
 have e1:k.vd[i]=v:=by rw[aj hiv]at hv;exact bf hv
 have hr:=O.sd.row i hi;have e2:S.d.getD i []=S.d[i]:=by simp[List.getD,hiM]
 have R:=Vd.rdh (hm md (.tail _ (.tail _ (.head _)))) hiv hiM;rw[e1,<-e2]at R;have hj2:j<(S.d.getD i []).length:=by rw[hr];exact hj
 refine⟨by have:=R.rd;rwa [hr]at this,?_⟩;have:=R.seg hj2;unfold AV;rw[show(S.d.getD i []).getD j 0=(S.d.getD i [])[j] from by rw[gn,aj hj2];rfl];exact this
theorem Ub(k:Wk)(s:St)(t:Nat)(h:Hp)(ms:List Hp)(I0:k.In h)(hO:OkS k s)(hb:s.b<=20000)(hp0:AV s.S.d t t≠0)(hp1:(AV s.S.d t t).natAbs<2147483648)(hd:Sl s.S.d k.m t (AV s.S.d t t) (k.n-(t+1)) (t+1)=true)(ht:t<k.n)(ht2:t<k.m)(F:FsO k s.S ms) :
  FnT Tryz.prog 184 #[.pointer (some ⟨k.g,0,none⟩),.w t] h ms (λv h' ms'=>h=h'/\∃ms0,ms'=ms0++ms/\v=.tuple #[.w 0,.bool false]):=by
 refine Yi (pre:=[]) (post:=λv _=>v=.tuple #[.w 0,.bool false]) λh1 l1 hfr=>?_;have I:=I0.le l1;have hn:=I.hn;have hm:=I.hm;have cn_:∀ms,Cell h1 ms ((⟨k.g,0,none⟩:Addr).add 5) (.w k.n):=λms=>(I.seg 5 _ Y).any;have cm_:∀ms,Cell h1 ms ((⟨k.g,0,none⟩:Addr).add 6) (.w k.m):=λms=>(I.seg 6 _ Y).any;have cd_:∀ms,Cell h1 ms ((⟨k.g,0,none⟩:Addr).add 2) k.hd:=λms=>(I.seg 2 _ Y).any;have od:=I.rd.rd.one;have rD:Rd h1 [] k.hd 1 k.n (k.vd.flatMap cU):=by have:=I.rd.rd;rwa [I.ld]at this
 obtain⟨vt,evt,cvt⟩:=G6 I.rd I.ld ht;obtain⟨rT,sT⟩:=F.elF hfr hO ht ht2 evt;have oT:=rT.one;have Sp:=GI hp1;generalize hpe:AV s.S.d t t=p at *;have op_:(sv (A7 p.natAbs)).oneCell'=true:=rfl;refine Ap func184 ntmps184 Y Y<|λw0 hw0=>?_;simp only[AR];refine Ar<|Qm Y<|Qm Y<|Am<|Ac<|Ar<|Qm Y<|Qx (oA Y) Y<|Qm Y<|Am<|Ag ?_;refine AB (λq sl h' ms'=>∃(i:Nat),k.n-i=q/\sl=[(0,.pointer (some ⟨k.g,0,none⟩)),(1,.w t),(6,.w i)]/\h1=h'/\t<i/\i<=k.n/\Sl s.S.d k.m t p (k.n-i) i=true) (k.n-(t+1)) _ ⟨t+1,Y,Y,Y,ω,ω,hd⟩ Qs ?_;rintro q sl h' ms' ⟨i,rfl,rfl,rfl,hti,hin,hdi⟩;refine Ac<|Ar<|Qm Y<|Qm Y<|Qm Y<|Qf IU Y<|Qx (FX 0 Y Th Bk Y Y Y ω) Y<|Ql Y U3 (cn_ _)<|Qm Y<|Am ?_;refine Aw Y (λhlt=>?_)<|λhlt=>?_
 ·have hi:i<k.n:=ω
  obtain⟨vi,evi,cvi⟩:=G6 I.rd I.ld hi;rw[show k.n-i=(k.n-(i+1))+1 by omega]at hdi;unfold Sl at hdi;rw[dt]at hdi;refine Ah<|Ab<|Ac<|Ag<|Ar<|Qm Y<|Qx (oA Y) Y<|Qm Y<|Am<|Ag ?_;refine AB (λq sl h' ms'=>∃(j:Nat),k.m-j=q/\sl=[(0,.pointer (some ⟨k.g,0,none⟩)),(1,.w t),(6,.w i),(7,.w j)]/\h1=h'/\t<j/\j<=k.m/\Ab0 s.S.d t i p (k.m-j) j=true) (k.m-(t+1)) _ ⟨t+1,Y,Y,Y,ω,ω,hdi.1⟩ Qs ?_;rintro q sl h' ms' ⟨j,rfl,rfl,rfl,htj,hjm,hdj⟩;refine Ac<|Ar<|Qm Y<|Qm Y<|Qm Y<|Qf IU Y<|Qx (FX 1 Y Th Bk Y Y Y ω) Y<|Ql Y U3 (cm_ _)<|Qm Y<|Am ?_;refine Aw Y (λhlt2=>?_)<|λhlt2=>?_
  ·have hj:j<k.m:=ω
   rw[show k.m-j=(k.m-(j+1))+1 by omega]at hdj;unfold Ab0 at hdj;rw[dt,decide_eq_true_eq]at hdj;obtain⟨hz,hdj⟩:=hdj;obtain⟨rI,sIJ⟩:=F.elF hfr hO hi hj evi;have oI:=rI.one;have Sx:=Sz.of (hO.bd i j) ω;generalize AV s.S.d i j=x at *;have ox_:(sv (A7 x.natAbs)).oneCell'=true:=rfl;have oq_:(sv (A7 (x/p).natAbs)).oneCell'=true:=rfl;have or_:(sv (A7 (x%p).natAbs)).oneCell'=true:=rfl;have or0:(sv (A7 (0:Int).natAbs)).oneCell'=true:=rfl;refine Ah<|Ab<|Ac<|Ag ?_;refine Bv (λsl h' ms'=>∃g9 ms2,sl=[(0,.pointer (some ⟨k.g,0,none⟩)),(1,.w t),(6,.w i),(7,.w j),(9,.pt g9)]/\h1=h'/\ms'=BI g9 33 (Bi (x%p))::ms2) ?_<|λs h ms hI=>?_
   ·refine AS (n:=32) (bs:=[ig,ig,ig,ig,ig,ig,ig,ig,ig,ig,ig,ig,ig,ig,ig,ig,ig,ig,ig,ig,ig,ig,ig,ig,ig,ig,ig,ii,ii,ii,ii,ii]) [ig,ig,ig,ig,ig,ig,ig,ig,ig,ig,ig,ig,ig,ig,ig,ig,ig,ig,ig,ig,ig,ig,ig,ig,ig,ig,ig] CC κ κ Y Y<|Qq Y<|Qq Y<|QF B9 Y<|QF D8 Y<|QL Y CG (cd_ _)<|Qq Y<|Qp Y (BC (i) rD.any Y CG Ea Y Y)<|QL Y CE (cvi _)<|Qq Y<|Qp Y (BC (j) rI.any Y CE Az Y Y)<|Qp Y (oG Y By Az<|sIJ.any)<|Qq Y<|Qq Y<|QF B9 Y<|QF D8 Y<|QL Y CG (cd_ _)<|Qq Y<|Qp Y (BC (t) rD.any Y CG Ea Y Y)<|QL Y CE (cvt _)<|Qq Y<|Qp Y (BC (t) rT.any Y CE Az Y Y)<|Qp Y (oG Y By Az<|sT.any)<|Qp Y (As Y call100 Y<|Np x p Sx hp0 ω _ _)<|Qq Y<|Qq Y<|Qq Y<|Qq Y ?_;unfold Dd;simp only[bh,ap];refine A4 [27,28] κ Y ?_;refine AA Y ?_ ?_
    ·refine BS [.bool false,.es] Y Az Y Y<|λg8=>Qw<|Qo 28 Y<|BS [.bool false,.es] Y Az Y Y<|λg9=>Qw<|Qo 29 Y ?_;refine Sa 1 [_,_] Az Y (by simp[od,oT,oI,op_,ox_,oq_,or_]) ?_;refine Qw<|Qo 30 Y ?_;refine Sa 0 [_,_] Az Y (by simp[od,oT,oI,op_,ox_,oq_,or_]) ?_;refine Qw<|Qo 31 Y<|Qm Y<|Qw<|Qe ?_;exact AI _ ⟨g9,_,Y,Y,Y⟩ Qs
    refine AA Y ?_ ?_
    ·refine BS [.bool false,.es] Y Az Y Y<|λg9=>Qw<|Qo 27 Y<|BS [.bool false,.es] Y Az Y Y<|λg8=>Qw<|Qo 29 Y ?_;refine Sa 0 [_,_] Az Y (by simp[od,oT,oI,op_,ox_,oq_,or_]) ?_;refine Qw<|Qo 30 Y ?_;refine Sa 1 [_,_] Az Y (by simp[od,oT,oI,op_,ox_,oq_,or_]) ?_;refine Qw<|Qo 31 Y<|Qm Y<|Qw<|Qe ?_
     (refine Vg ?_;exact AI _ ⟨g9,_,Y,Y,Y⟩ Qs)
    exact A5
   ·obtain⟨g9,ms2,rfl,rfl,rfl⟩:=hI;rw[hz];have s9:∀ms,Seg h1 (BI g9 33 (Bi 0)::ms) (⟨g9,0,none⟩:Addr) (Bi 0):=λms=>Seg.blk 0 Y;refine Ar<|Qx (oG Y By Az<|s9 _) Y<|Qx (As Y call60 Y<|Et 0 (Sz.of (B:=0) (Bq.zero 0) δ) _ _) Y<|Qm Y<|Am<|Aw Y (λhc=>ie hc ((λq=>q Y)))<|λhc=>Ah<|Ai<|Ab<|Ad<|Qm Y<|Qx (oA Y) Y<|Qm Y<|An ?_;exact Ao (k.m-(j+1)) _ ω ⟨j+1,Y,Y,Y,ω,ω,hdj⟩ Qs
  ·have hjm':j=k.m:=ω
   refine Ax<|Aa<|Aa<|Af<|Ai<|Ab<|Ad<|Qm Y<|Qx (oA Y) Y<|Qm Y<|An ?_;exact Ao (k.n-(i+1)) _ ω ⟨i+1,Y,Y,Y,ω,ω,hdi.2⟩ Qs
 ·refine Ax<|Aa<|Aa<|Af<|Ab<|Ar<|Qm Y<|Qm Y<|Am<|Aj ?_;exact Ck Y Y Y<|Y
theorem WV(k:Wk)(S:FS)(t B:Nat)(h:Hp)(ms:List Hp)(I:k.In h)(hO:S.Ok k.n k.m B)(hB:B<=1000000)(ht:t<k.n)(F:FsO k S ms) :
  FnT Tryz.prog 186 #[.pointer (some ⟨k.g,0,none⟩),.w t] h ms (λ_ h' ms'=>h=h'/\FsO k (S.neg k.n k.m t) ms'):=by
 have hn:=I.hn;have hm:=I.hm;obtain⟨mu,mui,md,mv,mvi,rfl,Vu,Vui,Vd,Vv,Vvi⟩:=F;have cd_:∀ms,Cell h ms ((⟨k.g,0,none⟩:Addr).add 2) k.hd:=λms=>(I.seg 2 _ Y).any;have cu_:∀ms,Cell h ms ((⟨k.g,0,none⟩:Addr).add 0) k.hu:=λms=>(I.seg 0 _ Y).any;have cui_:∀ms,Cell h ms ((⟨k.g,0,none⟩:Addr).add 1) k.hui:=λms=>(I.seg 1 _ Y).any;have od:=I.rd.rd.one;have ou:=I.ru.rd.one;have oui:=I.rui.rd.one;have rD:Rd h [] k.hd 1 k.n (k.vd.flatMap cU):=by have:=I.rd.rd;rwa [I.ld]at this
 have rU:Rd h [] k.hu 1 k.n (k.vu.flatMap cU):=by have:=I.ru.rd;rwa [I.lu]at this
 have rUI:Rd h [] k.hui 1 k.n (k.vui.flatMap cU):=by have:=I.rui.rd;rwa [I.lui]at this
 obtain⟨vt,evt,cvt⟩:=G6 I.rd I.ld ht;obtain⟨vut,evut,cvut⟩:=G6 I.ru I.lu ht;obtain⟨_,rT0⟩:=Fe (h:=h) (ms:=[mu,mui,md,mv,mvi]) hO.sd Vd (.tail _ (.tail _ (.head _))) ht evt;have oT:=rT0.one;refine Ap func186 ntmps186 Y Y<|λw0 hw0=>?_;simp only[AR];refine Ac<|Ar<|Qm Y<|Qm Y<|Qf B9 Y<|Qf D8 Y<|Ql Y CG (cd_ _)<|Qm Y<|Qx (AM _ rD.any Y CG Ea Y Y Y ω) Y<|Ql Y CE (cvt _)<|Qx (Aq rT0 Y CE Y) Y<|Qm Y<|Am<|Ag ?_;refine AB (λq sl h' ms'=>∃(j:Nat) (m1:Hp),k.m-j=q/\sl=[(0,.pointer (some ⟨k.g,0,none⟩)),(1,.w t),(14,.w k.m),(15,.w j)]/\h=h'/\ms'=[mu,mui,m1,mv,mvi]/\j<=k.m/\VsO Bi 2 33 m1 k.vd (negRow t S.d j)) (k.m-0) _ ⟨0,md,Y,Y,Y,Y,ω,Vd⟩ Qs ?_;rintro q sl h' ms' ⟨j,m1,rfl,rfl,rfl,rfl,hj,Vd⟩;refine Ar<|Qm Y<|Am<|Ac ?_;refine Aw Y (λhlt=>?_)<|λhlt=>?_
 ·have hjm:j<k.m:=ω
  have Sj:=hO.sd.negRow t j;obtain⟨_,rT⟩:=Fe (h:=h) (ms:=[m1,mu,mui,mv,mvi]) Sj Vd (.head _) ht evt;have eT:AV (negRow t S.d j) t j=AV S.d t j:=by rw[E8 hO.sd ht j ω,ae ω]
  have sT:=GB (h:=h) (ms:=[m1,mu,mui,mv,mvi]) Sj Vd (.head _) ht hjm evt;have Sx:=Sz.of (hO.bd t j) ω;have hst:negRow t S.d (j+1)=FT (negRow t S.d j) t j (-(AV S.d t j)):=by show FT _ _ _ _=_;rw[eT]
  rw[eT]at sT;generalize AV S.d t j=x at *;have ox_:(sv (A7 x.natAbs)).oneCell'=true:=rfl;have on_:(sv (A7 (-x).natAbs)).oneCell'=true:=rfl;refine Ah<|Ab<|Ac<|Ag<|Ar<|Qm Y<|Qm Y<|Am<|EG 2 Y<|AS (n:=23) (bs:=[ig,ig,ig,ig,ig,ig,ig,ig,ig,ig,ig,ig,ig,ig,ig,ig,ig,ig,ig,ii,ii,ig,ii]) [ig,ig,ig,ig,ig,ig,ig,ig,ig,ig,ig,ig,ig,ig,ig,ig,ig,ig,ig,ii,ii,ig] CC κ κ Y Y<|Qq Y<|Qq Y<|QF B9 Y<|QF D8 Y<|QL Y CG (cd_ _)<|Qq Y<|Qp Y (BC (t) rD.any Y CG Ea Y Y)<|QL Y CE (cvt _)<|Qq Y<|Qq Y<|Qq Y<|QF B9 Y<|QF D8 Y<|QL Y CG (cd_ _)<|Qq Y<|Qp Y (BC (t) rD.any Y CG Ea Y Y)<|QL Y CE (cvt _)<|Qq Y<|Qp Y (Ba (j) rT Y CE Az Y Y ω ω)<|Qp Y (Ba (j) rT Y CE Az Y Y ω ω) ?_;unfold Dd;simp only[bh,ap];refine Qo 19 Y<|Qx (oG Y By Az<|sT) Y<|Qw<|Qo 20 Y<|Qx (As Y call231 Y<|LX x Sx _ _) Y<|Qw<|Qo 22 Y<|DF t j (-x) Sj Vd ht hjm vt evt Y Az Y Y Y Y<|λm2 Vd2=>Qw<|Qe<|Ai<|Ab<|Ad<|Qx (oA Y) Y<|Qm Y<|An<|Es 2 Y<|Es 2 Y ?_;exact Ao (k.m-(j+1)) _ ω ⟨j+1,m2,Y,Y,Y,Y,ω,by rw[hst];exact Vd2⟩ Qs
 ·obtain rfl:j=k.m:=ω
  obtain⟨_,rU0⟩:=Fe (h:=h) (ms:=[mu,mui,m1,mv,mvi]) hO.su Vu (.head _) ht evut;have oUT:=rU0.one;refine Ax<|Aa<|Aa<|Af<|Ab<|Ar<|Qm Y<|Qm Y<|Qf B9 Y<|Qf Kf Y<|Ql Y CG (cu_ _)<|Qm Y<|Qx (BC (t) rU.any Y CG Ea Y Y) Y<|Ql Y CE (cvut _)<|Qx (Aq rU0 Y CE Y) Y<|Qm Y<|Am<|Ag ?_;refine AB (λq sl h' ms'=>∃(j:Nat) (a1 a2:Hp),k.n-j=q/\sl=[(0,.pointer (some ⟨k.g,0,none⟩)),(1,.w t),(49,.w k.n),(50,.w j)]/\h=h'/\ms'=[a1,a2,m1,mv,mvi]/\j<=k.n/\VsO Bi 2 33 a1 k.vu (negRow t S.u j)/\VsO Bi 2 33 a2 k.vui (negCol t S.ui j)) (k.n-0) _ ⟨0,mu,mui,Y,Y,Y,Y,ω,Vu,Vui⟩ Qs ?_;rintro q sl h' ms' ⟨j,a1,a2,rfl,rfl,rfl,rfl,hj,Vu,Vui⟩;refine Ar<|Qm Y<|Am<|Ac ?_;refine Aw Y (λhlt=>?_)<|λhlt=>?_
  ·have hjn:j<k.n:=ω
   have Sj:=hO.su.negRow t j;have Tj:=hO.sui.negCol t j;obtain⟨_,rT⟩:=Fe (h:=h) (ms:=[a1,a2,m1,mv,mvi]) Sj Vu (.head _) ht evut;have eT:AV (negRow t S.u j) t j=AV S.u t j:=by rw[E8 hO.su ht j ω,ae ω]
   have sT:=GB (h:=h) (ms:=[a1,a2,m1,mv,mvi]) Sj Vu (.head _) ht hjn evut;have Sx:=Sz.of (hO.bu t j) ω;have hst:negRow t S.u (j+1)=FT (negRow t S.u j) t j (-(AV S.u t j)):=by show FT _ _ _ _=_;rw[eT]
   rw[eT]at sT;obtain⟨vj,evj,cvj⟩:=G6 I.rui I.lui hjn;have eU:AV (negCol t S.ui j) j t=AV S.ui j t:=by rw[Hk hO.sui ht j ω,ae ω]
   have sU0:∀a1',Seg h [a2,a1',m1,mv,mvi] ((AH vj).add (t*2)) (Bi (AV (negCol t S.ui j) j t)):=λa1'=>GB (h:=h) Tj Vui (.head _) hjn ht evj;have rJ0:∀a1',∃cs,Rd h [a2,a1',m1,mv,mvi] vj 2 k.n cs:=λa1'=>Fe (h:=h) Tj Vui (.head _) hjn evj;have Sy:=Sz.of (hO.bui j t) ω;have hsu:negCol t S.ui (j+1)=FT (negCol t S.ui j) j t (-(AV S.ui j t)):=by show FT _ _ _ _=_;rw[eU]
   rw[eU]at sU0;generalize AV S.u t j=x at *;generalize AV S.ui j t=y at *;have ox_:(sv (A7 x.natAbs)).oneCell'=true:=rfl;have on_:(sv (A7 (-x).natAbs)).oneCell'=true:=rfl;have oy_:(sv (A7 y.natAbs)).oneCell'=true:=rfl;have om_:(sv (A7 (-y).natAbs)).oneCell'=true:=rfl;refine Ah<|Ab<|Ac<|Ag<|Ar<|Qm Y<|Qm Y<|Am<|Ac<|AS (n:=23) (bs:=[ig,ig,ig,ig,ig,ig,ig,ig,ig,ig,ig,ig,ig,ig,ig,ig,ig,ig,ig,ii,ii,ig,ii]) [ig,ig,ig,ig,ig,ig,ig,ig,ig,ig,ig,ig,ig,ig,ig,ig,ig,ig,ig,ii,ii,ig] CC κ κ Y Y<|Qq Y<|Qq Y<|QF B9 Y<|QF Kf Y<|QL Y CG (cu_ _)<|Qq Y<|Qp Y (BC (t) rU.any Y CG Ea Y Y)<|QL Y CE (cvut _)<|Qq Y<|Qq Y<|Qq Y<|QF B9 Y<|QF Kf Y<|QL Y CG (cu_ _)<|Qq Y<|Qp Y (BC (t) rU.any Y CG Ea Y Y)<|QL Y CE (cvut _)<|Qq Y<|Qp Y (Ba (j) rT Y CE Az Y Y ω ω)<|Qp Y (Ba (j) rT Y CE Az Y Y ω ω) ?_;unfold Dd;simp only[bh,ap];refine Qo 19 Y<|Qx (oG Y By Az<|sT) Y<|Qw<|Qo 20 Y<|Qx (As Y call231 Y<|LX x Sx _ _) Y<|Qw<|Qo 22 Y<|DF t j (-x) Sj Vu ht hjn vut evut Y Az Y Y Y Y<|λb1 Vu2=>Qw<|Qe<|Ab<|EG 1 Y ?_;obtain⟨_,rJ⟩:=rJ0 b1;have sU:=sU0 b1;have oJ:=rJ.one;refine AS (n:=23) (bs:=[ig,ig,ig,ig,ig,ig,ig,ig,ig,ig,ig,ig,ig,ig,ig,ig,ig,ig,ig,ii,ii,ig,ii]) [ig,ig,ig,ig,ig,ig,ig,ig,ig,ig,ig,ig,ig,ig,ig,ig,ig,ig,ig,ii,ii,ig] CC κ κ Y Y<|Qq Y<|Qq Y<|QF B9 Y<|QF Li Y<|QL Y CG (cui_ _)<|Qq Y<|Qp Y (BC (j) rUI.any Y CG Ea Y Y)<|QL Y CE (cvj _)<|Qq Y<|Qq Y<|Qq Y<|QF B9 Y<|QF Li Y<|QL Y CG (cui_ _)<|Qq Y<|Qp Y (BC (j) rUI.any Y CG Ea Y Y)<|QL Y CE (cvj _)<|Qq Y<|Qp Y (Ba (t) rJ Y CE Az Y Y ω ω)<|Qp Y (Ba (t) rJ Y CE Az Y Y ω ω) ?_;unfold Dd;simp only[bh,ap];refine Qo 19 Y<|Qx (oG Y By Az<|sU) Y<|Qw<|Qo 20 Y<|Qx (As Y call231 Y<|LX y Sy _ _) Y<|Qw<|Qo 22 Y<|DF j t (-y) Tj Vui hjn ht vj evj Y Az Y Y Y Y<|λb2 Vui2=>Qw<|Qe<|Ai<|Ab<|Ad<|Qx (oA Y) Y<|Qm Y<|An<|Es 1 Y ?_;exact Ao (k.n-(j+1)) _ ω ⟨j+1,b1,b2,Y,Y,Y,Y,ω,by rw[hst];exact Vu2,by rw[hsu];exact Vui2⟩ Qs
  ·obtain rfl:j=k.n:=ω
   refine Ax<|Aa<|Aa<|Af ?_;exact Cv Y (⟨Y,a1,a2,m1,mv,mvi,Y,Vu,Vui,Vd,Vv,Vvi⟩)
theorem Db(r c:Nat)(f:Nat->Nat->Int):Shape r c (BK r c f):=⟨Dq r c f,λi hi=>by
 have hi2:i<(BK r c f).length:=by rw[Dq];exact hi
 rw[show(BK r c f).getD i []=(BK r c f)[i] by simp[List.getD,hi2]]
 simp[BK,B7]⟩
theorem IC(r c:Nat)(f:Nat->Nat->Int)(i j:Nat):AV (BK r c f) i j=if i<r/\j<c then f i j else 0:=by
 unfold AV BK;by_cases hi:i<r
 ·have e:((range r).map λi=>Dr c (f i)).getD i []=Dr c (f i):=by simp[List.getD,hi]
  rw[e];by_cases hj:j<c
  ·rw[ah ⟨hi,hj⟩];simp[List.getD,Dr,hj]
  ·rw[ae (by simp[hj])];simp[List.getD,Dr,hj]
 ·rw[ae (by simp[hi])];have e:((range r).map λi=>Dr c (f i)).getD i []=[]:=by simp[List.getD,hi]
  rw[e];rfl
theorem Il{r c:Nat}{f:Nat->Nat->Int}(h:∀i j,i<r->j<c->Bq 33 (f i j)):BqM 33 (BK r c f):=λi j=>by
 rw[IC];split
 ·rename_i q;exact h i j q.1 q.2
 ·exact Bq.zero _
theorem PD(i j:Nat):Bq 33 (IR i j):=by
 unfold IR;split
 ·exact bq_one.mono δ
 ·exact Bq.zero _
def Uc(r c:Nat)(f:Nat->Nat->Int):St:=⟨⟨BK r r IR,BK r r IR,BK r c f,BK c c IR,BK c c IR⟩,0⟩
theorem Aei{r c:Nat}{f:Nat->Nat->Int}(h:∀i j,i<r->j<c->Bq 33 (f i j)):(Uc r c f).S.Ok r c (33*(Uc r c f).b+33):=
 ⟨Db _ _ _,Db _ _ _,Db _ _ _,Db _ _ _,Db _ _ _,Il λ_ _ _ _=>PD _ _,Il λ_ _ _ _=>PD _ _,Il h,Il λ_ _ _ _=>PD _ _,Il λ_ _ _ _=>PD _ _⟩
def SmR(v:Value)(h:Hp)(r c:Nat)(S:FS):Prop:=∃eu eui ed ev evi,v=.agg #[.int .i64 r,.int .i64 r,eu,.int .i64 r,.int .i64 r,eui,.int .i64 r,.int .i64 c,ed,.int .i64 c,.int .i64 c,ev,.int .i64 c,.int .i64 c,evi]/\RdL Bi 2 h [] eu S.u.flatten/\RdL Bi 2 h [] eui S.ui.flatten/\RdL Bi 2 h [] ed S.d.flatten/\RdL Bi 2 h [] ev S.v.flatten/\RdL Bi 2 h [] evi S.vi.flatten
theorem Xi(va:Value)(r c:Nat)(f:Nat->Nat->Int)(s':St)(h:Hp)(A:MW va h r c (DW r c f))(hf:∀i j,i<r->j<c->Bq 33 (f i j))(hc:Fg r c (min r c) 0 (Uc r c f)=some s') :
  FnT Tryz.prog 147 #[va] h [] (λv h' ms'=>h.le h'/\ms'=[]/\s'.S.Ok r c (33*s'.b+33)/\s'.b<=20000/\SmR v h' r c s'.S):=by
 have hr:=A.hr;have hcc:=A.hc;have A0:=A;obtain⟨ea,rfl,RA⟩:=A.ex;have oa:=RA.rd.one;refine Ap func147 ntmps147 Y Y<|λw0 hw0=>?_;simp only[AR];refine Ar<|AK [_,_,_] Y Y (by rfl) Y Y Y<|λg1=>BS [.w 0,.w 0,.nl,.w 0,.w 0,.nl,.w 0,.w 0,.nl,.w 0,.w 0,.nl,.w 0,.w 0,.nl] Y L9 Y Y<|λg2=>Am<|Av 1 Y λh1 l1 hS1=>?_;have l01:=l1;have A1:=A0.up l1;have sg1:∀h',h1.le h'->∀ms,Seg h' ms (⟨g1,0,none⟩:Addr) [.w r,.w c,ea]:=λh' l ms=>Seg.any (hS1.le l);have c10:∀h',h1.le h'->∀ms,Cell h' ms ((⟨g1,0,none⟩:Addr).add 0) (.w r):=λh' l ms=>((hS1 0 _ Y).any).le l;have c11:∀h',h1.le h'->∀ms,Cell h' ms ((⟨g1,0,none⟩:Addr).add 1) (.w c):=λh' l ms=>((hS1 1 _ Y).any).le l;refine Ac<|Ar<|Qx (oG Y HR BL<|sg1 _ (BE) _) Y<|Qx (As Y call146 Y<|Ib _ r c _ h1 A1 _) Y<|Qm Y<|Am<|AL Y<|Ah<|Ab ?_;refine Bv (λsl h' ms'=>∃g3 g4 e3 e4,sl=[(1,.pt g1),(2,.pt g2),(3,.pt g3),(4,.pt g4)]/\h1.le h'/\ms'=[BI g4 91 [.w c,.w c,e4],BI g3 91 [.w r,.w r,e3],BI g2 144 [.w 0,.w 0,.nl,.w 0,.w 0,.nl,.w 0,.w 0,.nl,.w 0,.w 0,.nl,.w 0,.w 0,.nl]]/\MW (.agg #[.w r,.w r,e3]) h' r r (DW r r IR)/\MW (.agg #[.w c,.w c,e4]) h' c c (DW c c IR)) ?_<|λs h ms hI=>?_
 ·refine AS (n:=10) (bs:=[ig,ig,ii,ig,ig,ii,ii,ii,ii,ii]) [ig,ig,ii,ig,ig] CC κ κ Y Y<|QF EH Y<|QL Y U3 (c10 _ (BE) _)<|QF Do Y<|QL Y U3 (c11 _ (BE) _) ?_;unfold Dd;simp only[bh,ap];refine A4 [2,6,7] κ Y ?_;refine AA Y ?_ ?_;refine AC (pre:=[]) Y call180 Y (Ep r hr h1) Y Y Y Y<|λz2 k2 ms2 l2 hF=>?_;obtain⟨l2',rfl,hM3⟩:=hF;obtain⟨e3,rfl,R3⟩:=hM3.ex;have o3:=R3.rd.one;refine Qa<|A4 [5,6,7] κ Y ?_;refine AA Y ?_ ?_;refine AC (pre:=[]) Y call180 Y (Ep c hcc k2) Y Y Y Y<|λz5 k5 ms5 l5 hF=>?_;obtain⟨l5',rfl,hM4⟩:=hF;obtain⟨e4,rfl,R4⟩:=hM4.ex;have o4:=R4.rd.one;have l15:=AD l2' l5';refine Qa<|A4 [6,7] κ Y ?_;refine AA Y ?_ ?_;refine BS [.w 0,.w 0,.nl] Y BL Y Y<|λg3=>Qa<|Qo 7 Y<|BS [.w 0,.w 0,.nl] Y BL Y Y<|λg4=>Qa ?_
  rotate_left
  refine AA Y ?_ ?_;refine BS [.w 0,.w 0,.nl] Y BL Y Y<|λg4=>Qa<|Qo 6 Y<|BS [.w 0,.w 0,.nl] Y BL Y Y<|λg3=>Qa ?_
  rotate_left
  exact A5;refine AA Y ?_ ?_;refine BS [.w 0,.w 0,.nl] Y BL Y Y<|λg3=>Qa<|A4 [5,7] κ Y ?_;refine AA Y ?_ ?_;refine AC (pre:=[]) Y call180 Y (Ep c hcc k2) Y Y Y Y<|λz5 k5 ms5 l5 hF=>?_;obtain⟨l5',rfl,hM4⟩:=hF;obtain⟨e4,rfl,R4⟩:=hM4.ex;have o4:=R4.rd.one;have l15:=AD l2' l5';refine Qa<|Qo 7 Y<|BS [.w 0,.w 0,.nl] Y BL Y Y<|λg4=>Qa ?_
  rotate_left
  refine AA Y ?_ ?_;refine BS [.w 0,.w 0,.nl] Y BL Y Y<|λg4=>Qa<|Qo 5 Y<|AC (pre:=[]) Y call180 Y (Ep c hcc k2) Y Y Y Y<|λz5 k5 ms5 l5 hF=>?_;obtain⟨l5',rfl,hM4⟩:=hF;obtain⟨e4,rfl,R4⟩:=hM4.ex;have o4:=R4.rd.one;have l15:=AD l2' l5';refine Qa ?_
  rotate_left
  exact A5;refine AA Y ?_ ?_;refine BS [.w 0,.w 0,.nl] Y BL Y Y<|λg4=>Qa<|A4 [5,6] κ Y ?_;refine AA Y ?_ ?_;refine AC (pre:=[]) Y call180 Y (Ep c hcc k2) Y Y Y Y<|λz5 k5 ms5 l5 hF=>?_;obtain⟨l5',rfl,hM4⟩:=hF;obtain⟨e4,rfl,R4⟩:=hM4.ex;have o4:=R4.rd.one;have l15:=AD l2' l5';refine Qa<|Qo 6 Y<|BS [.w 0,.w 0,.nl] Y BL Y Y<|λg3=>Qa ?_
  rotate_left
  refine AA Y ?_ ?_;refine BS [.w 0,.w 0,.nl] Y BL Y Y<|λg3=>Qa<|Qo 5 Y<|AC (pre:=[]) Y call180 Y (Ep c hcc k2) Y Y Y Y<|λz5 k5 ms5 l5 hF=>?_;obtain⟨l5',rfl,hM4⟩:=hF;obtain⟨e4,rfl,R4⟩:=hM4.ex;have o4:=R4.rd.one;have l15:=AD l2' l5';refine Qa ?_
  rotate_left
  exact A5;exact A5;refine AA Y ?_ ?_;refine BS [.w 0,.w 0,.nl] Y BL Y Y<|λg3=>Qw<|A4 [2,7] κ Y ?_;refine AA Y ?_ ?_;refine AC (pre:=[]) Y call180 Y (Ep r hr h1) Y Y Y Y<|λz2 k2 ms2 l2 hF=>?_;obtain⟨l2',rfl,hM3⟩:=hF;obtain⟨e3,rfl,R3⟩:=hM3.ex;have o3:=R3.rd.one;refine Qa<|A4 [5,7] κ Y ?_;refine AA Y ?_ ?_;refine AC (pre:=[]) Y call180 Y (Ep c hcc k2) Y Y Y Y<|λz5 k5 ms5 l5 hF=>?_;obtain⟨l5',rfl,hM4⟩:=hF;obtain⟨e4,rfl,R4⟩:=hM4.ex;have o4:=R4.rd.one;have l15:=AD l2' l5';refine Qa<|Qo 7 Y<|BS [.w 0,.w 0,.nl] Y BL Y Y<|λg4=>Qa ?_
  rotate_left
  refine AA Y ?_ ?_;refine BS [.w 0,.w 0,.nl] Y BL Y Y<|λg4=>Qa<|Qo 5 Y<|AC (pre:=[]) Y call180 Y (Ep c hcc k2) Y Y Y Y<|λz5 k5 ms5 l5 hF=>?_;obtain⟨l5',rfl,hM4⟩:=hF;obtain⟨e4,rfl,R4⟩:=hM4.ex;have o4:=R4.rd.one;have l15:=AD l2' l5';refine Qa ?_
  rotate_left
  exact A5;refine AA Y ?_ ?_;refine BS [.w 0,.w 0,.nl] Y BL Y Y<|λg4=>Qw<|Qo 2 Y<|AC (pre:=[]) Y call180 Y (Ep r hr h1) Y Y Y Y<|λz2 k2 ms2 l2 hF=>?_;obtain⟨l2',rfl,hM3⟩:=hF;obtain⟨e3,rfl,R3⟩:=hM3.ex;have o3:=R3.rd.one;refine Qa<|Qo 5 Y<|AC (pre:=[]) Y call180 Y (Ep c hcc k2) Y Y Y Y<|λz5 k5 ms5 l5 hF=>?_;obtain⟨l5',rfl,hM4⟩:=hF;obtain⟨e4,rfl,R4⟩:=hM4.ex;have o4:=R4.rd.one;have l15:=AD l2' l5';refine Qa ?_
  rotate_left
  exact A5;refine AA Y ?_ ?_;refine BS [.w 0,.w 0,.nl] Y BL Y Y<|λg4=>Qw<|A4 [2,6] κ Y ?_;refine AA Y ?_ ?_;refine AC (pre:=[]) Y call180 Y (Ep r hr h1) Y Y Y Y<|λz2 k2 ms2 l2 hF=>?_;obtain⟨l2',rfl,hM3⟩:=hF;obtain⟨e3,rfl,R3⟩:=hM3.ex;have o3:=R3.rd.one;refine Qa<|A4 [5,6] κ Y ?_;refine AA Y ?_ ?_;refine AC (pre:=[]) Y call180 Y (Ep c hcc k2) Y Y Y Y<|λz5 k5 ms5 l5 hF=>?_;obtain⟨l5',rfl,hM4⟩:=hF;obtain⟨e4,rfl,R4⟩:=hM4.ex;have o4:=R4.rd.one;have l15:=AD l2' l5';refine Qa<|Qo 6 Y<|BS [.w 0,.w 0,.nl] Y BL Y Y<|λg3=>Qa ?_
  rotate_left
  refine AA Y ?_ ?_;refine BS [.w 0,.w 0,.nl] Y BL Y Y<|λg3=>Qa<|Qo 5 Y<|AC (pre:=[]) Y call180 Y (Ep c hcc k2) Y Y Y Y<|λz5 k5 ms5 l5 hF=>?_;obtain⟨l5',rfl,hM4⟩:=hF;obtain⟨e4,rfl,R4⟩:=hM4.ex;have o4:=R4.rd.one;have l15:=AD l2' l5';refine Qa ?_
  rotate_left
  exact A5;refine AA Y ?_ ?_;refine BS [.w 0,.w 0,.nl] Y BL Y Y<|λg3=>Qw<|Qo 2 Y<|AC (pre:=[]) Y call180 Y (Ep r hr h1) Y Y Y Y<|λz2 k2 ms2 l2 hF=>?_;obtain⟨l2',rfl,hM3⟩:=hF;obtain⟨e3,rfl,R3⟩:=hM3.ex;have o3:=R3.rd.one;refine Qa<|Qo 5 Y<|AC (pre:=[]) Y call180 Y (Ep c hcc k2) Y Y Y Y<|λz5 k5 ms5 l5 hF=>?_;obtain⟨l5',rfl,hM4⟩:=hF;obtain⟨e4,rfl,R4⟩:=hM4.ex;have o4:=R4.rd.one;have l15:=AD l2' l5';refine Qa ?_
  rotate_left
  exact A5;exact A5
  all_goals
   refine Qo 8 Y ?_
   first|refine Sa 0 [_,_,_] BL Y (by simp[oa,o3,o4]) ?_|refine Sa 1 [_,_,_] BL Y (by simp[oa,o3,o4]) ?_
   refine Qa<|Qo 9 Y ?_
   first|refine Sa 0 [_,_,_] BL Y (by simp[oa,o3,o4]) ?_|refine Sa 1 [_,_,_] BL Y (by simp[oa,o3,o4]) ?_
   refine Qa<|Qe ?_
   first|exact AI _ ⟨g3,g4,e3,e4,Y,l15,Y,hM3.up l5',hM4⟩ Qs|(refine Vg ?_;exact AI _ ⟨g3,g4,e3,e4,Y,l15,Y,hM3.up l5',hM4⟩ Qs)
 ·obtain⟨g3,g4,e3,e4,rfl,l12,rfl,hM3,hM4⟩:=hI;have A2:=A1.up l12;refine Av 0 Y λh3 l3 hS4=>Av 0 Y λh4 l4 hS3=>?_
  have l24:=AD l3 l4;have l14:=AD l12 l24;have o3:=(hM3.ex.choose_spec.2).rd.one;have sg3:∀h',h4.le h'->∀ms,Seg h' ms (⟨g3,0,none⟩:Addr) [.w r,.w r,e3]:=λh' l ms=>Seg.any (hS3.le l);have sg4:∀h',h4.le h'->∀ms,Seg h' ms (⟨g4,0,none⟩:Addr) [.w c,.w c,e4]:=λh' l ms=>Seg.any (hS4.le (AD l4 l));have B3:=hM3.up l24;have B4:=hM4.up l24;have BA:=A2.up l24;refine Ac<|AS (n:=19) (bs:=[ig,ii,ig,ii,ig,ii,ig,ii,ig,ii,ii,ig,ig,ig,ig,ig,ii,ii,ii]) [ig,ii,ig,ii,ig,ii,ig,ii,ig,ii,ii,ig,ig,ig,ig,ig] CC κ κ Y Y<|Qp Y (oG Y HR BL<|sg3 _ (BE) _)<|Qp Y (oG Y HR BL<|sg3 _ (BE) _)<|Qp Y (oG Y HR BL<|sg1 _ l14 _)<|Qp Y (oG Y HR BL<|sg4 _ (BE) _)<|Qp Y (oG Y HR BL<|sg4 _ (BE) _)<|QF EH Y<|QL Y U3 (c10 _ l14 _)<|QF Do Y<|QL Y U3 (c11 _ l14 _)<|Qp Y (Wq [.w 0,.w 0] [(0,[_]),(1,[_])] [_,_] Y Th AeG Y Bk Y Qt Y) ?_;unfold Dd;simp only[bh,ap];refine Qo 1 Y<|AC (pre:=[]) Y call181 Y (Ms _ r r IR h4 B3) Y Y Y Y<|λhu k1 ms1 l1 hF=>?_;obtain⟨j1,mu,vu,rfl,Ru,Lu,Vu⟩:=hF;have ou:=Ru.rd.one;refine Qa<|Qo 3 Y<|AC (pre:=[]) Y call181 Y (Ms _ r r IR k1<|B3.up j1) Y Y Y Y<|λhui k2 ms2 l2 hF=>?_;obtain⟨j2,mui,vui,rfl,Rui,Lui,Vui⟩:=hF;have oui:=Rui.rd.one;have j12:=AD j1 j2;refine Qa<|Qo 5 Y<|AC (pre:=[]) Y call181 Y (Ms _ r c f k2<|BA.up j12) Y Y Y Y<|λhd k3 ms3 l3 hF=>?_;obtain⟨j3,md,vd,rfl,Rd_,Ld,Vd⟩:=hF;have od:=Rd_.rd.one;have j13:=AD j12 j3;refine Qa<|Qo 7 Y<|AC (pre:=[]) Y call181 Y (Ms _ c c IR k3<|B4.up j13) Y Y Y Y<|λhv k4 ms4 l4 hF=>?_;obtain⟨j4,mv,vv,rfl,Rv,Lv,Vv⟩:=hF;have ov:=Rv.rd.one;have j14:=AD j13 j4;refine Qa<|Qo 9 Y<|AC (pre:=[]) Y call181 Y (Ms _ c c IR k4<|B4.up j14) Y Y Y Y<|λhvi k5 ms5 l5 hF=>?_;obtain⟨j5,mvi,vvi,rfl,Rvi,Lvi,Vvi⟩:=hF;have ovi:=Rvi.rd.one;have j15:=AD j14 j5;obtain⟨au,cu,rfl,_⟩:=Ru.rd.ex;obtain⟨aui,cui,rfl,_⟩:=Rui.rd.ex;obtain⟨ad,cd,rfl,_⟩:=Rd_.rd.ex;obtain⟨av,cv,rfl,_⟩:=Rv.rd.ex;obtain⟨avi,cvi,rfl,_⟩:=Rvi.rd.ex;refine Qa<|Bb 10 30 κ Y (by assumption) Y (AN AeA [.nl,.nl,.nl,.nl,.nl] [(0,_),(1,_),(2,_),(3,_),(4,_)] [_,_,_,_,_] Y AeC Y Y Qt Y)<|Bb 16 36 κ Y (by assumption) Y (AN Ae9 [.nl,.nl,.nl,.nl,.nl,.w 0,.w 0] [(0,_),(5,_)] [_,_,_,_,_,_,_] Y AeU Y Y Qt Y)<|Qo 17 Y<|AK [_,_,_,_,_,_,_] Y Y (by rfl) Y Y Y<|λg37=>Qa<|Qo 18 Y<|Qm Y<|Qa<|Qe<|Av 0 Y λh5 l5 hS37=>?_;have l45:=AD j15 l5;obtain⟨k,hk⟩:∃k:Wk,k=⟨g37,r,c,.slice au vu.length cu,.slice aui vui.length cui,.slice ad vd.length cd,.slice av vv.length cv,.slice avi vvi.length cvi,vu,vui,vd,vv,vvi⟩:=⟨_,Y⟩
  have I5:k.In h5:=by rw[hk];exact⟨hS37,hr,hcc,(Ru.up (AD j2 (AD j3 (AD j4 j5)))).up l5,(Rui.up (AD j3 (AD j4 j5))).up l5,(Rd_.up (AD j4 j5)).up l5,(Rv.up j5).up l5,Rvi.up l5,Lu,Lui,Ld,Lv,Lvi⟩
  have F0:FsO k (Uc r c f).S [mu,mui,md,mv,mvi]:=by rw[hk];exact⟨mu,mui,md,mv,mvi,Y,Vu,Vui,Vd,Vv,Vvi⟩
  have ekn:k.n=r:=by rw[hk]
  have ekm:k.m=c:=by rw[hk]
  have ekg:k.g=g37:=by rw[hk]
  have O0:OkS k (Uc r c f):=by show FS.Ok _ _ _ _;rw[ekn,ekm];exact Aei hf
  refine EG 1 Y<|EG 2 Y<|EG 3 Y<|EG 4 Y ?_;have os1:(sv (A7 1)).oneCell'=true:=rfl;refine Ab<|Ar<|Qx (As Y call95 Y<|GU 1 δ _ _) Y<|BS [.bool false,.es] Y Az Y Y<|λg6=>?_;refine Sa 0 [_,_] Az Y (by simp[os1]) ?_;refine Am<|JY ?_;have l15:h1.le h5:=AD l14 l45;refine Bv (λsl h' ms'=>∃mx,sl=[(1,.pt g1),(2,.pt g2),(5,.pt g37)]/\h5.le h'/\ms'=mx++[BI g2 144 [.w 0,.w 0,.nl,.w 0,.w 0,.nl,.w 0,.w 0,.nl,.w 0,.w 0,.nl,.w 0,.w 0,.nl]]/\OkS k s'/\s'.b<=20000/\FsO k s'.S mx) ?_<|λs h ms hI=>?_
  ·refine Ac<|Ad<|Qm Y<|Am<|Ag ?_;refine AB (λq sl h' ms'=>∃(t:Nat) (s:St) (mx:List Hp),min r c-t=q/\sl=[(1,.pt g1),(2,.pt g2),(5,.pt g37),(7,.w t)]/\h5.le h'/\ms'=mx++[BI g2 144 [.w 0,.w 0,.nl,.w 0,.w 0,.nl,.w 0,.w 0,.nl,.w 0,.w 0,.nl,.w 0,.w 0,.nl]]/\t<=min r c/\OkS k s/\s.b<=20000/\FsO k s.S mx/\Fg r c (min r c-t) t s=some s') (min r c) _ ⟨0,Uc r c f,_,Y,Y,BE,Y,ω,O0,by show(0:Nat)<=_;omega,F0,hc⟩ Qs ?_;rintro q sl h' ms' ⟨t,s,mx,rfl,rfl,lh,rfl,htm,hO,hb,F,hfp⟩;have I:=I5.le lh;have l1h:=AD l15 lh;obtain⟨mu,mui,md,mv,mvi,hms,hVs⟩:=F;have F:FsO k s.S mx:=⟨mu,mui,md,mv,mvi,hms,hVs⟩
   subst hms;refine Ac<|Ar<|Qm Y<|Qf EH Y<|Ql Y U3 (c10 _ l1h _)<|Qf Do Y<|Ql Y U3 (c11 _ l1h _)<|Qx (Um Y Y Y) Y<|Qm Y<|Qm Y ?_;refine AU (t:=46) Y (λhlt=>?_)<|λhlt=>?_
   ·have htr:t<k.n:=ω
    have htc:t<k.m:=ω
    obtain⟨s1,r1,e1⟩:∃s1 r1,Fy r c t s=some (s1,r1):=by
     rw[show min r c-t=(min r c-(t+1))+1 by omega]at hfp;unfold Fg at hfp;rw[ah ω]at hfp;cases hq:Fy r c t s with
     | none=>rw[hq]at hfp;cases hfp
     | some p=>exact⟨p.1,p.2,Y⟩
    have e1k:Fy k.n k.m t s=some (s1,r1):=by rw[ekn,ekm];exact e1
    have hb1:=Yq hb e1k;refine Qg (Au Y Y) Y<|Qg (Au Y Y) Y<|DS Y Y Y Y ?_;refine AC (pre:=[mu,mui,md,mv,mvi]) Y call182 Y ((by have:=YW k s s1 t r1 h' _ I hO hb e1k htr htc F;rw[ekg]at this;exact this)) Y Y Y Y<|λz2 k2 ms2 l2 hF=>?_;obtain⟨l2',rfl,hO1,F1⟩:=hF;refine Qm Y<|Am ?_;refine BW Y (λhr1=>?_)<|λhr1=>?_
    ·subst hr1
     obtain⟨s2,e2,e3⟩:∃s2,Lz r c t s1=some s2/\Fg r c (min r c-(t+1)) (t+1) s2=some s':=by
      rw[show min r c-t=(min r c-(t+1))+1 by omega]at hfp;unfold Fg at hfp;rw[ah ω,e1]at hfp;simp only at hfp;cases hq:Lz r c t s1 with
      | none=>rw[hq]at hfp;cases hfp
      | some s2=>rw[hq]at hfp;exact⟨s2,Y,hfp⟩
     obtain⟨sx,e4,hp0,hp1,hdv,e5⟩:∃sx,Er r c t 10 s1=some sx/\AV sx.S.d t t≠0/\(AV sx.S.d t t).natAbs<2147483648/\Sl sx.S.d c t (AV sx.S.d t t) (r-(t+1)) (t+1)=true/\(if AV sx.S.d t t<0 then some ⟨sx.S.neg r c t,sx.b⟩ else some sx)=some s2:=by
      unfold Lz at e2;cases hq:Er r c t 10 s1 with
      | none=>rw[hq]at e2;cases e2
      | some sx=>
       rw[hq]at e2;simp only at e2;by_cases h1:AV sx.S.d t t=0\/wrd (AV sx.S.d t t)=false
       ·rw[ah h1]at e2;cases e2
       ·rw[ae h1]at e2;by_cases h2:Sl sx.S.d c t (AV sx.S.d t t) (r-(t+1)) (t+1)=true
        ·rw[ah h2]at e2;exact⟨sx,Y,λq=>h1 (.inl q),LR λq=>h1 (.inr q),h2,e2⟩
        ·rw[ae h2]at e2;cases e2
     have e4k:Er k.n k.m t 10 s1=some sx:=by rw[ekn,ekm];exact e4
     have hdvk:Sl sx.S.d k.m t (AV sx.S.d t t) (k.n-(t+1)) (t+1)=true:=by rw[ekn,ekm];exact hdv
     have hbx:=SY hb1 e4k;have l1k:=AD l1h l2';have I2:=I.le l2';refine Ah<|Ab<|Ac<|Ag<|Ac<|Ag<|AB (λq sl hh ms'=>sl=[(1,.pt g1),(2,.pt g2),(5,.pt g37),(7,.w t)]/\k2=hh/\ms'=ms2++[BI g2 144 [.w 0,.w 0,.nl,.w 0,.w 0,.nl,.w 0,.w 0,.nl,.w 0,.w 0,.nl,.w 0,.w 0,.nl]]) 0 _ ⟨Y,Y,Y⟩ Qs ?_;rintro q sl hh ms' ⟨rfl,rfl,rfl⟩;refine Ag<|Ar<|Qm Y<|Qm Y ?_;refine AC (pre:=ms2) Y call183 Y ((by have:=YT k s1 sx t 10 k2 _ I2 hO1 e4k htr htc F1;rw[ekg]at this;exact this)) Y Y Y Y<|λz3 k3 ms3 l3 hF=>?_;obtain⟨l3',hOx,Fx⟩:=hF;refine Bp<|Qm Y<|Qm Y ?_;refine AC (pre:=ms3) Y call184 Y ((by have:=Ub k sx t k3 _ (I2.le l3') hOx hbx hp0 hp1 hdvk htr htc Fx;rw[ekg]at this;exact this)) Y Y Y Y<|λz4 k4 ms4 l4 hF=>?_;obtain⟨rfl,m0,rfl,rfl⟩:=hF;rw[cz];refine Hs ?_ m0;refine Qm Y<|Qm Y<|Qm Y<|Qm Y<|Qm Y<|Am<|Ac<|Ar<|Qm Y<|Qm Y<|Am ?_;refine BW Y (λhq=>?_)<|λhq=>?_
     ·have l35:=AD lh (AD l2' l3');have I3:=I2.le l3';have cd_:∀ms,Cell k3 ms ((⟨g37,0,none⟩:Addr).add 2) k.hd:=λms=>by have:=((I3.seg 2 _ Y).any (ms:=ms));rw[ekg]at this;exact this
      have rD:Rd k3 [] k.hd 1 k.n (k.vd.flatMap cU):=by have:=I3.rd.rd;rwa [I3.ld]at this
      obtain⟨vt,evt,cvt⟩:=G6 I3.rd I3.ld htr;have od:=rD.one;obtain⟨_,rT0⟩:=Fx.rw_ (h:=k3) hOx htr evt;have rT:Rd k3 (ms3++[BI g2 144 [.w 0,.w 0,.nl,.w 0,.w 0,.nl,.w 0,.w 0,.nl,.w 0,.w 0,.nl,.w 0,.w 0,.nl]]) vt 2 k.m _:=rT0.sub (λm hm=>List.mem_append_left _ hm);have oT:=rT0.one;have sTT:=(Fx.el (h:=k3) hOx htr htc evt).sub (ms':=ms3++[BI g2 144 [.w 0,.w 0,.nl,.w 0,.w 0,.nl,.w 0,.w 0,.nl,.w 0,.w 0,.nl,.w 0,.w 0,.nl]]) (λm hm=>List.mem_append_left _ hm);have Sp:=GI hp1;have ox_:(sv (A7 (AV sx.S.d t t).natAbs)).oneCell'=true:=rfl;refine Ax<|Aa<|Ou Y<|Aa<|Af<|Ab<|Ar<|Qm Y<|Qm Y<|Qf B9 Y<|Qf D8 Y<|Ql Y CG (cd_ _)<|Qm Y<|Qx (BC (t) rD.any Y CG Ea Y Y) Y<|Ql Y CE (cvt _)<|Qm Y<|Qx (Ba (t) rT Y CE Az Y Y ω ω) Y<|Qx (oG Y By Az<|sTT) Y<|Qx (As Y call60 Y<|Et _ Sp _ _) Y<|Qm Y<|Am ?_;refine Aw Y (λhneg=>?_)<|λhneg=>?_
      ·have hng:AV sx.S.d t t<0:=by
        rcases Int.lt_trichotomy (AV sx.S.d t t) 0 with h|h|h
        ·exact h
        ·rw[h]at hneg;exact ie hneg δ
        ·rw[Int.sign_eq_one_of_pos h]at hneg;exact ie hneg δ
       rw[ah hng]at e5;have e5:=bf e5;subst e5;refine Ad<|Qm Y<|Qm Y ?_;refine AC (pre:=ms3) Y call186 Y ((by have:=WV k sx.S t _ k3 _ I3 hOx ω htr Fx;rw[ekg]at this;exact this)) Y Y Y Y<|λz5 k5 ms5 l5 hF=>?_;obtain⟨rfl,Fn⟩:=hF;rw[ekn,ekm]at Fn;have On:OkS k ⟨sx.S.neg r c t,sx.b⟩:=by have:=FS.Ok.neg hOx htr;rw[ekn,ekm]at this;show FS.Ok _ _ _ _;rw[ekn,ekm];exact this
       refine An<|Ai<|Ab<|Ad<|Qm Y<|Qx (oA Y) Y<|Qm Y<|An ?_;exact Ao (min r c-(t+1)) _ ω ⟨t+1,_,ms5,Y,Y,l35,Y,ω,On,hbx,Fn,e3⟩ Qs
      ·have hng:¬AV sx.S.d t t<0:=λh=>hneg (by rw[Int.sign_eq_neg_one_of_neg h];decide);rw[ae hng]at e5;have e5:=bf e5;subst e5;refine Ah<|Ai<|Ab<|Ad<|Qm Y<|Qx (oA Y) Y<|Qm Y<|An ?_;exact Ao (min r c-(t+1)) _ ω ⟨t+1,_,ms3,Y,Y,l35,Y,ω,hOx,hbx,Fx,e3⟩ Qs
     ·exact ie hq δ
    ·subst hr1
     have e2:s1=s':=by rw[show min r c-t=(min r c-(t+1))+1 by omega]at hfp;unfold Fg at hfp;rw[ah ω,e1]at hfp;exact bf hfp
     subst e2;refine Ax<|Aa<|Aa<|Af ?_;exact AI _ ⟨ms2,Y,AD lh l2',Y,hO1,hb1,F1⟩ Qs
   ·have e2:s=s':=by
     cases hq:min r c-t with
     | zero=>rw[hq]at hfp;exact bf hfp
     | succ q=>
      rw[hq]at hfp;unfold Fg at hfp;rw[ae ω]at hfp;exact bf hfp
    subst e2;refine Qk Y<|Qk Y<|Qk Y<|Qm Y<|Am<|AL Y<|Ax<|Aa<|Aa<|Af ?_;exact AI _ ⟨_,Y,lh,Y,hO,hb,F⟩ Qs
  ·obtain⟨mx,rfl,lh,rfl,hO,hb,F⟩:=hI;obtain⟨mu,mui,md,mv,mvi,rfl,Vu,Vui,Vd,Vv,Vvi⟩:=F;have I:=I5.le lh;have hOrc:s'.S.Ok r c (33*s'.b+33):=by have:FS.Ok _ _ _ _:=hO;rw[ekn,ekm]at this;exact this
   refine MP λh6 l6 mu6=>MP λh7 l7 mui7=>MP λh8 l8 md8=>MP λh9 l9 mv9=>MP λh10 l10 mvi10=>?_
   have q89:=AD l8 (AD l9 l10);have q9:=AD l9 l10;have q7:=AD l7 q89;have q6:=AD l6 q7;have I10:=I.le q6;have l110:=AD l15 (AD lh q6);have gen:∀{hv:Value} {vs:List Value} {M:List (List Int)} {m:Hp},RdL cU 1 h10 [] hv vs->VsO Bi 2 33 m vs M->m.le h10->GrR hv h10 vs M:=λR V lm=>⟨R,V.len,λi h1 h2=>V.rdh lm h1 h2⟩
   have Gu:=gen I10.ru Vu (AD mu6 q7);have Gui:=gen I10.rui Vui (AD mui7 q89);have Gd:=gen I10.rd Vd (AD md8 q9);have Gv:=gen I10.rv Vv (AD mv9 l10);have Gvi:=gen I10.rvi Vvi mvi10
   have shl:∀{n c:Nat} {M:List (List Int)},Shape n c M->n<=200->c<=200->M.length<=1000/\M.flatten.length<=1000000:=λ{n c M} S hn hc=>by
    have h1:=S.len
    have h2:M.flatten.length=M.length*c:=R6 λl hl=>by obtain⟨i,hi,rfl⟩:=List.getElem_of_mem hl;have:=S.row i (by rw[<-S.len];exact hi);simpa[List.getD,hi] using this
    have h3:M.length*c<=200*200:=ep ω hc;omega
   have Su:=shl hOrc.su hr hr;have Sui:=shl hOrc.sui hr hr;have Sd_:=shl hOrc.sd hr hcc;have Sv:=shl hOrc.sv hcc hcc;have Svi:=shl hOrc.svi hcc hcc;have eu:=hOrc.su.len;have eui:=hOrc.sui.len;have ed:=hOrc.sd.len;have ev_:=hOrc.sv.len;have evi:=hOrc.svi.len;have f0:∀ms,Cell h10 ms ((⟨g37,0,none⟩:Addr).add 0) k.hu:=λms=>by have:=((I10.seg 0 _ Y).any (ms:=ms));rw[ekg]at this;exact this
   have f1:∀ms,Cell h10 ms ((⟨g37,0,none⟩:Addr).add 1) k.hui:=λms=>by have:=((I10.seg 1 _ Y).any (ms:=ms));rw[ekg]at this;exact this
   have f2:∀ms,Cell h10 ms ((⟨g37,0,none⟩:Addr).add 2) k.hd:=λms=>by have:=((I10.seg 2 _ Y).any (ms:=ms));rw[ekg]at this;exact this
   have f3:∀ms,Cell h10 ms ((⟨g37,0,none⟩:Addr).add 3) k.hv:=λms=>by have:=((I10.seg 3 _ Y).any (ms:=ms));rw[ekg]at this;exact this
   have f4:∀ms,Cell h10 ms ((⟨g37,0,none⟩:Addr).add 4) k.hvi:=λms=>by have:=((I10.seg 4 _ Y).any (ms:=ms));rw[ekg]at this;exact this
   have w0:=I10.ru.rd.one;have w1:=I10.rui.rd.one;have w2:=I10.rd.rd.one;have w3:=I10.rv.rd.one;have w4:=I10.rvi.rd.one;refine Ac<|AS (n:=42) (bs:=[ig,ig,ig,ig,ig,ig,ig,ii,ig,ig,ig,ig,ig,ig,ig,ii,ig,ig,ig,ig,ig,ig,ig,ii,ig,ig,ig,ig,ig,ig,ig,ii,ig,ig,ig,ig,ig,ig,ig,ii,ii,ii]) [ig,ig,ig,ig,ig,ig,ig,ii,ig,ig,ig,ig,ig,ig,ig,ii,ig,ig,ig,ig,ig,ig,ig,ii,ig,ig,ig,ig,ig,ig,ig,ii,ig,ig,ig,ig,ig,ig,ig] CC κ κ rfl rfl<|Qq rfl<|Qq rfl<|QF B9 rfl<|QF Kf rfl<|QL rfl CG (f0 _)<|QF EH rfl<|QL rfl U3 (c10 _ l110 _)<|Qq rfl<|Qq rfl<|QF B9 rfl<|QF Li rfl<|QL rfl CG (f1 _)<|QF EH rfl<|QL rfl U3 (c10 _ l110 _)<|Qq rfl<|Qq rfl<|QF B9 rfl<|QF D8 rfl<|QL rfl CG (f2 _)<|QF Do rfl<|QL rfl U3 (c11 _ l110 _)<|Qq rfl<|Qq rfl<|QF B9 rfl<|QF Vz rfl<|QL rfl CG (f3 _)<|QF Do rfl<|QL rfl U3 (c11 _ l110 _)<|Qq rfl<|Qq rfl<|QF B9 rfl<|QF VZ rfl<|QL rfl CG (f4 _)<|QF Do rfl<|QL rfl U3 (c11 _ l110 _) ?_;unfold Dd;simp only[bh,ap];refine Qo 7 rfl<|AC (pre:=[]) rfl call187 rfl (JB _ _ s'.S.u r h10 Gu Su.1 Su.2) rfl rfl rfl rfl<|λzu k1 ms1 l1 hF=>?_;obtain⟨j1,rfl,xu,rfl,Xu⟩:=hF;have ou:=Xu.rd.one;refine Qa<|Qo 15 rfl<|AC (pre:=[]) rfl call187 rfl (JB _ _ s'.S.ui r k1 ⟨Gui.hd.up j1,Gui.len,λi h1 h2=>(Gui.row i h1 h2).up j1⟩ Sui.1 Sui.2) rfl rfl rfl rfl<|λzui k2 ms2 l2 hF=>?_;obtain⟨j2,rfl,xui,rfl,Xui⟩:=hF;have oui:=Xui.rd.one;have j12:=AD j1 j2;refine Qa<|Qo 23 rfl<|AC (pre:=[]) rfl call187 rfl (JB _ _ s'.S.d c k2 ⟨Gd.hd.up j12,Gd.len,λi h1 h2=>(Gd.row i h1 h2).up j12⟩ Sd_.1 Sd_.2) rfl rfl rfl rfl<|λzd k3 ms3 l3 hF=>?_;obtain⟨j3,rfl,xd,rfl,Xd⟩:=hF;have od:=Xd.rd.one;have j13:=AD j12 j3;refine Qa<|Qo 31 rfl<|AC (pre:=[]) rfl call187 rfl (JB _ _ s'.S.v c k3 ⟨Gv.hd.up j13,Gv.len,λi h1 h2=>(Gv.row i h1 h2).up j13⟩ Sv.1 Sv.2) rfl rfl rfl rfl<|λzv k4 ms4 l4 hF=>?_;obtain⟨j4,rfl,xv,rfl,Xv⟩:=hF;have ov:=Xv.rd.one;have j14:=AD j13 j4;refine Qa<|Qo 39 rfl<|AC (pre:=[]) rfl call187 rfl (JB _ _ s'.S.vi c k4 ⟨Gvi.hd.up j14,Gvi.len,λi h1 h2=>(Gvi.row i h1 h2).up j14⟩ Svi.1 Svi.2) rfl rfl rfl rfl<|λzvi k5 ms5 l5 hF=>?_;obtain⟨j5,rfl,xvi,rfl,Xvi⟩:=hF;have ovi:=Xvi.rd.one;have j15:=AD j14 j5;obtain⟨a1,b1,rfl,_⟩:=Xu.rd.ex;obtain⟨a2,b2,rfl,_⟩:=Xui.rd.ex;obtain⟨a3,b3,rfl,_⟩:=Xd.rd.ex;obtain⟨a4,b4,rfl,_⟩:=Xv.rd.ex;obtain⟨a5,b5,rfl,_⟩:=Xvi.rd.ex;refine Qa ?_;refine Bb 40 129 κ rfl (by assumption) rfl (AN Afe [.w 0,.w 0,.nl,.w 0,.w 0,.nl,.w 0,.w 0,.nl,.w 0,.w 0,.nl,.w 0,.w 0,.nl] [(0,_),(3,_),(6,_),(9,_),(12,_)] [_,_,_,_,_,_,_,_,_,_,_,_,_,_,_] rfl L9 rfl rfl (by repeat (first|exact ej|refine⟨⟨rfl,rfl,rfl⟩,?_⟩|refine⟨⟨(rT).cells,rfl,rfl⟩,?_⟩)) rfl) ?_;refine Qo 41 rfl ?_;refine Sa 0 [_,_,_,_,_,_,_,_,_,_,_,_,_,_,_] L9 rfl (by simp[Value.oneCell']) ?_;refine Qa<|Qe ?_;rw[eu,eui,ed,ev_,evi];refine Ab<|Aj ?_;exact Bx (vs:=[_,_,_,_,_,_,_,_,_,_,_,_,_,_,_]) 0 rfl rfl AeN rfl L9 rfl rfl (⟨AD l01<|AD l110 j15,rfl,hOrc,hb,_,_,_,_,_,rfl,Xu.up<|AD j2<|AD j3<|AD j4 j5,Xui.up<|AD j3<|AD j4 j5,Xd.up<|AD j4 j5,Xv.up j5,Xvi⟩)
theorem ItrS.itr{P:Program}{gf:FuncId}{lb:List Value}{h:Hp}{N:Nat}{enc:Nat->List Value}(I:ItrS P gf lb h N enc):Itr P gf lb h N enc:=λlp X h1 ms hl hY h0=>
 (I lp X (λ_ _ _=>False) h1 ms hl (λk h2 ms2 hk l2 hX w hw=>by
  obtain⟨fn,tmps,asg,b,e1,e2⟩:=hY k h2 ms2 hk l2 hX w hw
  exact⟨fn,tmps,asg,b,e1,e2.mono λx w' ⟨r,h',ms',a,c,d⟩=>⟨r,h',ms',a,c,.inl d⟩⟩) h0).mono λ_ _ _ q=>q.resolve_right λ⟨_,_,f⟩=>f
theorem KW(n:Int)(hn:Sz n)(h:Hp)(ms:List Hp):FnV Tryz.prog 99 #[WD n] h ms (.bool (decide (n=0))):=by refine DY ?_ ms;have osn:(sv (A7 n.natAbs)).oneCell'=true:=rfl;refine Ap func99 ntmps99 Y Y<|λw0 hw0=>?_;simp only[AR];refine Ar<|AK [_,_] Y Y (by rfl) Y Y Y<|λg1=>Qm Y<|Bp<|Qx (oG Y By Az<|Seg.blk 0 Y) Y<|Qx (As Y call60 Y<|Et n hn _ _) Y<|Qm Y<|Qm Y<|Am<|Aj ?_;exact Al Y Y<|aw Value.bool<|fa.2 Int.sign_eq_zero_iff_zero
theorem Wa(m a:Int)(hm:m.natAbs<4294967296)(ha:Sz a)(h:Hp)(ms:List Hp):FnV Tryz.prog 149 #[WD m,WD a] h ms (.bool (decide (m∣a))):=by
 refine DY ?_ ms;have osm:(sv (A7 m.natAbs)).oneCell'=true:=rfl;have osa:(sv (A7 a.natAbs)).oneCell'=true:=rfl;have osq:(sv (A7 (a/m).natAbs)).oneCell'=true:=rfl;have osr:(sv (A7 (a%m).natAbs)).oneCell'=true:=rfl;have Sm_:Sz m:=Sz.of (B:=32) hm δ;refine Ap func149 ntmps149 Y Y<|λw0 hw0=>?_;simp only[AR];refine Ar<|AK [_,_] Y Y (by rfl) Y Y Y<|λg2=>AK [_,_] Y Y (by rfl) Y Y Y<|λg3=>Qm Y<|Am<|Ac<|Ar<|Qx (oG Y By Az<|Seg.blk 1 Y) Y<|Qx (As Y call99 Y<|KW m Sm_ _ _) Y<|Am ?_;refine Aw Y (λh0=>?_)<|λh0=>?_
 ·subst h0;refine Ar<|Qx (oG Y By Az<|Seg.blk 0 Y) Y<|Qx (As Y call99 Y<|KW a ha _ _) Y<|Qm Y<|Am<|Aj<|Ae ?_;exact Al Y Y<|aw Value.bool<|fa.2 Int.zero_dvd.symm
 ·have Sr:Sz (a%m):=Sz.of (B:=32) (Nat.lt_of_le_of_lt (HZ h0) hm) δ;refine Ah<|Ab<|Ar<|Qx (oG Y By Az<|Seg.blk 0 Y) Y<|Qx (oG Y By Az<|Seg.blk 1 Y) Y<|Qx (As Y call100 Y<|Np a m ha h0 hm _ _) Y<|Qm Y<|Qm Y<|Qm Y<|Qm Y<|BS [.bool false,.es] Y Az Y Y<|λg5=>BS [.bool false,.es] Y Az Y Y<|λg6=>?_;refine Sa 1 [_,_] Az Y (by simp[osm,osa,osq,osr]) ?_;refine Sa 0 [_,_] Az Y (by simp[osm,osa,osq,osr]) ?_;refine Qm Y<|Bp<|Qx (oG Y By Az<|Seg.blk 0 Y) Y<|Qx (As Y call99 Y<|KW (a%m) Sr _ _) Y<|Qm Y<|Am<|Aj ?_;exact Al Y Y<|aw Value.bool<|fa.2 Int.dvd_iff_emod_eq_zero.symm
theorem Ab6(l:List Int)(v:Value)(h:Hp)(R:RdL Bi 2 h [] v l)(hl:l.length<=100000)(hs:∀x∈l,Sz x):FnT Tryz.prog 148 #[v] h [] (λr h' ms'=>h.le h'/\ms'=[]/\RdL Bi 2 h' [] r l):=by
 refine FnT.frz (post:=λr h' ms'=>h.le h'/\∃m,ms'=[m]/\OwnL Bi 2 33 m r l) ?_ λr h' ms' ⟨e,m,e2,O⟩=>⟨m,[],e2,λh2 l2 lm=>⟨AD e l2,Y,O.rdh lm⟩⟩
 obtain⟨n,hn⟩:∃n,l.length=n:=⟨_,Y⟩
 have ov:=R.rd.one;have rR:Rd h [] v 2 n (l.flatMap Bi):=by have:=R.rd;rwa [hn]at this
 refine Ap func148 ntmps148 Y Y<|λw0 hw0=>?_;simp only[AR];refine Ar<|Qm Y<|Bp<|Qm Y<|Qx (Aq rR.any Y CE Y) Y<|Ha Fa ω (0:Int) (n:=n) Y CE Az Y Y Y ω ω ω ω Y Y Y<|λg8 ev m hev hO=>?_;have oe:=hO.o1;refine Qm Y<|Am<|Ac<|Ar<|Qm Y<|Qx (Aq rR.any Y CE Y) Y<|Qm Y<|Am<|Ag ?_;refine AB (λq sl h' ms'=>∃(k:Nat) (mo:Hp),n-k=q/\sl=[(0,v),(3,ev),(9,v),(10,.w n),(11,.w k)]/\h.le h'/\ms'=[mo]/\k<=n/\OwnL Bi 2 33 mo ev (l.take k++replicate (n-k) 0)) (n-0) _ ⟨0,m,Y,Y,BE,Y,ω,by rw[List.take_zero,ap];exact hO⟩ Qs ?_;rintro q sl h' ms' ⟨k,mo,rfl,rfl,lh,rfl,hk,hO⟩;refine Ar<|Qm Y<|Am<|Ac ?_;refine Aw Y (λhlt=>?_)<|λhlt=>?_
 ·have hkn:k<n:=ω
  have hkl:k<l.length:=ω
  obtain⟨x,hx⟩:∃x,l[k]=x:=⟨_,Y⟩
  have sx:Sz x:=hx ▸ hs _ (List.getElem_mem hkl);have osx:(sv (A7 x.natAbs)).oneCell'=true:=rfl;have rh':RdL Bi 2 h' [] v l:=R.up lh;have gE:∀ms,Seg h' ms ((AH v).add (k*2)) (Bi x):=λms=>by rw[<-hx];exact(rh'.any (ms:=ms)).seg hkl
  have rV:Rd h' [mo] v 2 n (l.flatMap Bi):=by have:=rh'.rd.any (ms:=[mo]);rwa [hn]at this
  refine Ah<|Ab<|Ac<|Ag<|Ar<|Qm Y<|Qx (BC (k) rV Y CE Az Y Y) Y<|Qx (oG Y By Az<|gE _) Y<|BS [.bool false,.es] Y Az Y Y<|λg5=>Qm Y ?_;refine Sa 0 [_,_] Az Y (by simp[ov,oe,osx]) ?_;refine Am<|AF λh5 l5 hS5=>?_;have lh5:=AD lh l5;have hln:(l.take k++replicate (n-k) 0).length=n:=by rw[af,List.length_take,List.length_replicate];omega
  have gS5:∀ms,Seg h5 ms (⟨g5,0,none⟩:Addr) (Bi x):=λms=>hS5.any;have reo:Rd h5 [mo] ev 2 n ((l.take k++replicate (n-k) 0).flatMap Bi):=by have:=(hO.rd (h:=h5) (ms:=[mo]) Mh).rd;rwa [hln]at this
  refine Ad<|Qm Y<|Qm Y<|Qx (oG Y By Az<|gS5 _) Y<|Qx (AN Jp [.bool false,.es] [] [_,_] Y Az Y Y Qt Y) Y ?_;refine Qx (As Y call156 Y<|N1 x 0 sx (by unfold Sz;decide) _ _) Y ?_;refine Qx (BC (k) reo Y CE Az Y Y) Y<|EF 0 k (x+0) hO Y Az Y Y Y (ES _) Y ω Y Y<|λmo' hO'=>?_;have hset:=Ov (l:=l) (k:=k) (n:=n) hkn hn;rw[hx]at hset;rw[fz,hset]at hO';refine An<|Ai<|Ab<|Ad<|Qx (oA Y) Y<|Qm Y<|An ?_;exact Ao (n-(k+1)) _ ω ⟨k+1,mo',Y,Y,lh5,Y,ω,hO'⟩ Qs
 ·obtain rfl:k=n:=ω
  rw[Nat.sub_self,List.replicate_zero,append_nil,List.take_of_length_le (by omega)]at hO;refine Ax (Aa (Aa (Af (Ab (Ar (Qm rfl (Qm rfl (Am (Aj ?_)))))))));exact Al rfl rfl (⟨lh,mo,rfl,hO⟩)
def Vt(c:Nat)(L:List Int)(k:Nat):Int:=if k<c then L.getD (k*c+k) 0 else 0
def AcG(c:Nat)(L:List Int)(k:Nat):List Value:=[.int .i64 k,WD (Vt c L k)]
theorem N8(g:Nat)(dv:Value)(r c:Nat)(L:List Int)(h:Hp)(M:MW dv h r c L)(hG:∀ev,dv=.agg #[.int .i64 r,.int .i64 c,ev]->Seg h [] ⟨g,0,none⟩ [.int .i64 r,.int .i64 c,ev]):ItrS Tryz.prog 150 [.pointer (some ⟨g,0,none⟩)] h r (AcG c L):=by
 intro lp X Y h1 ms hl hY h0;show FnT _ _ #[.func (.yield lp) #[] #[],.pt g] _ _ _;have hr:=M.hr;have hc:=M.hc;have M:=M.up hl;obtain⟨ev,rfl,R⟩:=M.ex;have hG:=(hG ev rfl).le hl;have oe:=R.rd.one;have e0:∀h',h1.le h'->∀ms,Cell h' ms ((⟨g,0,none⟩:Addr).add 0) (.w r):=fun h' l ms=>((hG 0 _ rfl).any).le l;have e1:∀h',h1.le h'->∀ms,Cell h' ms ((⟨g,0,none⟩:Addr).add 1) (.w c):=fun h' l ms=>((hG 1 _ rfl).any).le l;have e2:∀h',h1.le h'->∀ms,Seg h' ms (⟨g,0,none⟩:Addr) [.w r,.w c,ev]:=fun h' l ms=>hG.any.le l;refine Ap func150 ntmps150 rfl rfl<|fun w0 hw0=>?_;simp only[AR];refine Ac<|Bw<|BR (oF EH rfl) rfl rfl rfl<|BR (oL rfl U3<|e0 _ (BE) _) rfl rfl rfl<|BR (Au rfl rfl) rfl rfl rfl<|CJ<|Ab<|Ag ?_
 refine AB (fun q s hh ms'=>∃(k:Nat),q=r-k/\s=[(0,.func (.yield lp) #[] #[]),(1,.pt g),(6,.w r),(7,.w k)]/\h1.le hh/\k<=r/\X k hh ms')
  (r-0) _ ⟨0,rfl,rfl,BE,ω,h0⟩ Qs ?_
 rintro q s hh ms' ⟨k,rfl,rfl,lh,hk,hX⟩;refine Ac<|Bw<|BR (Dy rfl rfl rfl) rfl rfl rfl<|CJ<|Ab<|Ac ?_;refine Aw rfl (fun hlt=>?_)<|fun hlt=>?_
 ·have hkr:k<r:=ω
  have hYk:=hY k hh ms' hkr lh hX;unfold AcG Vt at hYk;refine Ah<|Ab<|Ac<|Ag<|Ar<|Qm rfl<|Qm rfl<|Bp<|Qx (AN Jp [.bool false,.es] [] [_,_] rfl Az rfl rfl Qt rfl) rfl<|BS [.bool false,.es] rfl Az rfl rfl<|fun g4=>?_;refine Sa 0 [_,_] Az rfl (by simp[Value.oneCell']) ?_;refine Am<|Ac<|Ar<|Qm rfl<|Qf Do rfl<|Ql rfl U3 (e1 _ lh _)<|Qm rfl<|Am ?_;refine Aw rfl (fun hlc=>?_)<|fun hlc=>?_
  ·have hkc:k<c:=ω
   rw[ah hkc]at hYk;have osx:(sv (A7 (L.getD (k*c+k) 0).natAbs)).oneCell'=true:=rfl;refine Ad<|Qx (oG rfl HR BL<|e2 _ lh _) rfl<|Qm rfl<|Qm rfl<|Qx (As rfl call151 rfl<|AeB _ r c k k L hh (M.up lh) hkr hkc _) rfl ?_;refine Sa 0 [_,_] Az rfl (by simp[oe,B8,osx]) ?_;refine Am<|Ac<|Bw<|BR (Au rfl rfl) rfl rfl rfl<|BR (Au rfl rfl) rfl rfl rfl<|BR (oG rfl By Az<|Seg.blk 0 rfl) rfl rfl rfl<|Pk<|Ka rfl rfl rfl (hYk) rfl rfl rfl<|fun r' h2 ms2 l2 hr'=>?_;rcases hr' with ⟨rfl,hX2⟩|⟨rfl,hX2⟩
   ·refine BR (Dn rfl rfl) rfl rfl rfl<|CJ<|Ab<|AL rfl<|Ah<|Ai<|Ab<|Bw<|BR (oA rfl) rfl rfl rfl<|BR (Au rfl rfl) rfl rfl rfl<|CJ ?_;exact Ao (r-(k+1)) _ ω ⟨k+1,rfl,rfl,AD lh l2,ω,hX2⟩ Qs
   ·refine BR (Dn rfl rfl) rfl rfl rfl<|CJ<|Ab<|AX rfl<|Aj<|Ak<|Ae<|Ae<|Ak ?_;exact JJ rfl<|.inr ⟨k,ω,hX2⟩
  ·have hkc:¬k<c:=ω
   rw[ae hkc]at hYk;have osx:(sv (A7 (0:Int).natAbs)).oneCell'=true:=rfl;refine Ah<|Ab<|Ac<|Bw<|BR (Au rfl rfl) rfl rfl rfl<|BR (Au rfl rfl) rfl rfl rfl<|BR (oG rfl By Az<|Seg.blk 0 rfl) rfl rfl rfl<|Pk<|Ka rfl rfl rfl (hYk) rfl rfl rfl<|fun r' h2 ms2 l2 hr'=>?_;rcases hr' with ⟨rfl,hX2⟩|⟨rfl,hX2⟩
   ·refine BR (Dn rfl rfl) rfl rfl rfl<|CJ<|Ab<|AL rfl<|Ah<|Ai<|Ab<|Bw<|BR (oA rfl) rfl rfl rfl<|BR (Au rfl rfl) rfl rfl rfl<|CJ ?_;exact Ao (r-(k+1)) _ ω ⟨k+1,rfl,rfl,AD lh l2,ω,hX2⟩ Qs
   ·refine BR (Dn rfl rfl) rfl rfl rfl<|CJ<|Ab<|AX rfl<|Aj<|Ak<|Ae<|Ae<|Ak ?_;exact JJ rfl<|.inr ⟨k,ω,hX2⟩
 ·obtain rfl:k=r:=ω
  refine Ax<|Aa<|Aa<|Af ?_;exact Cv rfl<|.inl hX
theorem UE(dv:Value)(r c:Nat)(L:List Int)(h:Hp)(M:MW dv h r c L):FnT Tryz.prog 98 #[dv] h [] (λw h' ms'=>h=h'/\∃g ev,dv=.agg #[.int .i64 r,.int .i64 c,ev]/\w=.func (.func 150) #[] #[.pointer (some ⟨g,0,none⟩)]/\ms'=[BI g 91 [.int .i64 r,.int .i64 c,ev]]):=by obtain⟨ev,rfl,R⟩:=M.ex;have o1:=R.rd.one;refine Ap func98 ntmps98 Y Y<|λw0 hw0=>?_;simp only[AR];refine Ar<|AK [_,_,_] Y Y (by rfl) Y Y Y<|λg1=>Qm Y<|Bp<|Qx (Bz Y Y Y) Y<|Qm Y<|Am<|Aj ?_;exact Al Y Y (⟨Y,_,ev,Y,Y,Y⟩)
def ubF(S:FS)(r:Nat)(b:Nat->Int)(i:Nat):Int:=sm r λq=>AV S.u i q*b q
def EqR(v:Value)(h:Hp)(r c:Nat)(S:FS)(cl:List Int):Prop:=∃eu eui ed ev evi ec,v=.agg #[.int .i64 r,.int .i64 r,eu,.int .i64 r,.int .i64 r,eui,.int .i64 r,.int .i64 c,ed,.int .i64 c,.int .i64 c,ev,.int .i64 c,.int .i64 c,evi,ec]/\RdL Bi 2 h [] eu S.u.flatten/\RdL Bi 2 h [] eui S.ui.flatten/\RdL Bi 2 h [] ed S.d.flatten/\RdL Bi 2 h [] ev S.v.flatten/\RdL Bi 2 h [] evi S.vi.flatten/\RdL Bi 2 h [] ec cl
theorem VR(va bv:Value)(r c:Nat)(f:Nat->Nat->Int)(b:Nat->Int)(s':St)(h:Hp)(A:MW va h r c (DW r c f))(hf:∀i j,i<r->j<c->Bq 33 (f i j))(hfp:Fg r c (min r c) 0 (Uc r c f)=some s')(B:RdL Bi 2 h [] bv (Dr r b))(hb:∀i,i<r->Bq 100 (b i)) :
  FnT Tryz.prog 96 #[va,bv] h [] (λw h' ms'=>h.le h'/\ms'=[]/\s'.S.Ok r c 660033/\∃v,w=.tuple #[v,.bool true]/\EqR v h' r c s'.S (Dr r (ubF s'.S r b))):=by
 refine FnT.frz (post:=λw h' ms'=>h.le h'/\s'.S.Ok r c 660033/\∃g eu eui ed ev evi ec m,w=.tuple #[.agg #[.w r,.w r,eu,.w r,.w r,eui,.w r,.w c,ed,.w c,.w c,ev,.w c,.w c,evi,ec],.bool true]/\ms'=[m]/\RdL Bi 2 h' [] eu s'.S.u.flatten/\RdL Bi 2 h' [] eui s'.S.ui.flatten/\RdL Bi 2 h' [] ed s'.S.d.flatten/\RdL Bi 2 h' [] ev s'.S.v.flatten/\RdL Bi 2 h' [] evi s'.S.vi.flatten/\OwnL Bi 2 33 m ec (Dr r (ubF s'.S r b))/\g=0) ?_ λw h' ms' q=>?_
 ·have hr:=A.hr;have hcc:=A.hc;have A0:=A;obtain⟨ea,rfl,RA⟩:=A.ex;have oa:=RA.rd.one;have ob:=B.rd.one
  have hsb:∀x∈Dr r b,Sz x:=λx hx=>by obtain⟨i,hi,rfl⟩:=ag.1 hx;exact Sz.of (hb i<|cm.1 hi) δ
  have rB:∀h',h.le h'->Rd h' [] bv 2 r ((Dr r b).flatMap Bi):=λh' l=>by have:=(B.up l).rd;rwa [B7]at this
  refine Ap func96 ntmps96 Y Y<|λw0 hw0=>?_;simp only[AR];refine Ar<|AK [_,_,_] Y Y (by rfl) Y Y Y<|λg2=>BS [.w 0,.w 0,.nl,.w 0,.w 0,.nl,.w 0,.w 0,.nl,.w 0,.w 0,.nl,.w 0,.w 0,.nl,.nl] Y I8 Y Y<|λg4=>Qm Y<|Am<|Av 1 Y λh1 l1 hS1=>?_;have A1:=A0.up l1;have sg1:∀h',h1.le h'->∀ms,Seg h' ms (⟨g2,0,none⟩:Addr) [.w r,.w c,ea]:=λh' l ms=>Seg.any (hS1.le l);have c10:∀h',h1.le h'->∀ms,Cell h' ms ((⟨g2,0,none⟩:Addr).add 0) (.w r):=λh' l ms=>((hS1 0 _ Y).any).le l;refine Ac<|Ar<|Qx (oG Y HR BL<|sg1 _ (BE) _) Y<|Qx (As Y call146 Y<|Ib _ r c _ h1 A1 _) Y<|Qm Y<|Qm Y<|Qg (Au Y Y) Y<|Qg (Aq (rB _ l1).any Y CE Y) Y<|Qg (oF EH Y) Y<|Qg (oL Y U3<|c10 _ (BE) _) Y<|Qg (EO Y Y Y) Y<|Qm Y<|Am<|Aw Y (λhc=>ie hc σ)<|λhc=>Ah<|Ab<|Ar<|Qx (oG rfl HR BL<|sg1 _ (BE) _) rfl<|Qc call147 rfl (Xi _ r c f s' h1 A1 hf hfp)<|λv h2 ms2 l2 hF=>?_;obtain⟨l2',rfl,O0,hb2,eu,eui,ed,ev,evi,rfl,Ru,Rui,Rd_,Rv,Rvi⟩:=hF;have O:s'.S.Ok r c 660033:=O0.mono ω;have ou:=Ru.rd.one;have oui:=Rui.rd.one;have od:=Rd_.rd.one;have ov:=Rv.rd.one;have ovi:=Rvi.rd.one;refine BS [.w 0,.w 0,.nl,.w 0,.w 0,.nl,.w 0,.w 0,.nl,.w 0,.w 0,.nl,.w 0,.w 0,.nl] Y L9 Y Y<|λg6=>?_;refine Sa 0 [_,_,_,_,_,_,_,_,_,_,_,_,_,_,_] L9 Y (by simp[oa,ob,ou,oui,od,ov,ovi]) ?_;refine Am<|Av 0 Y λh3 l3 hS6=>?_;have l13:=AD l2' l3;have l03:=AD l1 l13;obtain⟨au,cu,rfl,_⟩:=Ru.rd.ex;have ex6:(.slice au s'.S.u.flatten.length cu:Value)=.slice au (r*r) cu:=by rw[O.mu,Ca]
  have sgu:∀h',h3.le h'->∀ms,Seg h' ms (⟨g6,0,none⟩:Addr) [.w r,.w r,.slice au s'.S.u.flatten.length cu]:=λh' l ms=>λi v hv=>((hS6.le l) i v (by rcases i with _|_|_|i<;>simp_all)).any;have sg6:∀h',h3.le h'->∀ms,Seg h' ms (⟨g6,0,none⟩:Addr) [.w r,.w r,.slice au s'.S.u.flatten.length cu,.w r,.w r,eui,.w r,.w c,ed,.w c,.w c,ev,.w c,.w c,evi]:=λh' l ms=>Seg.any (hS6.le l);have MU:MW (.agg #[.w r,.w r,.slice au s'.S.u.flatten.length cu]) h3 r r (DW r r (AV s'.S.u)):=⟨hr,hr,Ca _ _ _,_,Y,by rw[<-O.mu];exact Ru.up l3⟩
  have bU:∀i t,i<r->t<r->Bq 660133 (AV s'.S.u i t*b t):=λi t _ ht=>((O.bu i t).mul (hb t ht)).mono δ;refine Ac<|AS (n:=10) (bs:=[ig,ig,ig,ii,ii,ii,ii,ii,ii,ii]) [ig,ig,ig] CC κ κ Y Y<|QF V4 Y<|Qp Y (oG Y HR BL<|sgu _ (BE) _)<|Qq Y ?_;unfold Dd;simp only[bh,ap];refine Qo 3 Y ?_;refine AC (pre:=[]) Y call148 Y (Ab6 (Dr r b) bv h3 (B.up l03) (by rw[B7];omega) hsb) rfl rfl rfl rfl<|λp k1 ms1 l1 hF=>?_;obtain⟨j1,rfl,Rp⟩:=hF;have op:=Rp.rd.one;refine Qa<|Qo 4 Y ?_;refine AC (pre:=[]) Y call101 Y (NF _ p r r (AV s'.S.u) b k1 (MU.up j1) Rp (λi t hi ht=>Sz.of ((Kb t λq hq=>bU i q hi ω).mono (show 660133+t<=670066 by omega)) δ) (λi t _ _=>Sz.of (O.bu i t) δ) (λt ht=>Sz.of (hb t ht) δ)<|λi t hi ht=>Sz.of (bU i t hi ht) δ) Y Y Y Y<|λz k2 ms2 l2 hF=>?_;obtain⟨j2,ec,m,rfl,rfl,Oc⟩:=hF;obtain⟨ac,cc,rfl,_⟩:=(Oc.rd (h:=k2) (ms:=[m]) Mh).rd.ex;have oc:=Oc.o1;have j12:=AD j1 j2;refine Qa<|Bb 5 22 κ Y (by assumption) Y (Au Y Y)<|Bb 6 28 κ Y (by assumption) Y (BM Y Y Y)<|Bb 7 29 κ Y (by assumption) Y (BM Y Y Y)<|Qo 8 Y<|Qm Y<|Qa<|Qo 9 Y<|Qm Y<|Qa<|Qe ?_;have l3':=AD l3 j12;refine Ab<|Ar<|Qx (oG Y AeN L9<|sg6 _ j12 _) Y<|Qm Y<|Qx (AN AeY [.w 0,.w 0,.nl,.w 0,.w 0,.nl,.w 0,.w 0,.nl,.w 0,.w 0,.nl,.w 0,.w 0,.nl,.nl] [(0,_),(15,_)] [_,_,_,_,_,_,_,_,_,_,_,_,_,_,_,_] Y I8 Y Y Qt Y) Y<|Qm Y ?_;refine Sa 1 [_,_,_,_,_,_,_,_,_,_,_,_,_,_,_,_] I8 Y (by simp[oa,ob,ou,oui,od,ov,ovi,oc]) ?_;refine Qm Y<|Am<|Aj ?_;exact Ig (vs:=[_,_,_,_,_,_,_,_,_,_,_,_,_,_,_,_]) 1 Y Y Y Adj Y I8 Y Y (⟨AD l03 j12,O,0,_,eui,ed,ev,evi,_,m,Y,Y,Ru.up l3',Rui.up l3',Rd_.up l3',Rv.up l3',Rvi.up l3',Oc,Y⟩)
 ·obtain⟨l,O,g,eu,eui,ed,ev,evi,ec,m,rfl,rfl,Ru,Rui,Rd_,Rv,Rvi,Oc,_⟩:=q;exact⟨m,[],Y,λh2 l2 lm=>⟨AD l l2,Y,O,_,Y,eu,eui,ed,ev,evi,ec,Y,Ru.up l2,Rui.up l2,Rd_.up l2,Rv.up l2,Rvi.up l2,Oc.rdh lm⟩⟩
def Ad1(r:Nat)(D C:Nat->Int)(v:Value):Prop:=(∃k,k<r/\v=.tuple #[.int .i64 k,WD (D k),.bool true]/\¬D k∣C k/\∀j,j<k->D j∣C j)\/(v=.tuple #[.int .i64 0,WD 0,.bool false]/\∀j,j<r->D j∣C j)
theorem Sg(qv:Value)(r c:Nat)(S:FS)(C:Nat->Int)(h:Hp)(hr:r<=200)(hc:c<=200)(O:S.Ok r c 660033)(E:EqR qv h r c S (Dr r C))(hD:∀k,k<r->(Vt c S.d.flatten k).natAbs<4294967296)(hC:∀k,k<r->Sz (C k)) :
  FnT Tryz.prog 97 #[qv] h [] (λw h' ms'=>h.le h'/\ms'=[]/\Ad1 r (Vt c S.d.flatten) C w):=by
 obtain⟨eu,eui,ed,ev,evi,ec,rfl,Ru,Rui,Rd_,Rv,Rvi,Rc⟩:=E;have ou:=Ru.rd.one;have oui:=Rui.rd.one;have od:=Rd_.rd.one;have ov:=Rv.rd.one;have ovi:=Rvi.rd.one;have oc:=Rc.rd.one;have hL:S.d.flatten.length=r*c:=by rw[O.md,Ca]
 refine E7 func97 ntmps97 Y Y<|λw0 hw0=>?_;simp only[AR];refine Ar<|AK [_,_,_,_,_,_,_,_,_,_,_,_,_,_,_,_] Y Y (by rfl) Y Y Y<|λg1=>BS [.w 0] Y Bk Y Y<|λg2=>BS [.bool false,.es] Y Az Y Y<|λg3=>BS [.bool false] Y el4 Y Y<|λg4=>Am<|Av 3 Y λh1 l1 hS1=>?_;have M1:MW (.agg #[.w r,.w c,ed]) h1 r c S.d.flatten:=⟨hr,hc,hL,ed,Y,Rd_.up l1⟩
 have sg1:∀h',h1.le h'->∀ms,Seg h' ms ((⟨g1,0,none⟩:Addr).add 6) [.w r,.w c,ed]:=λh' l ms i v hv=>by
  have:=((hS1.le l) (6+i) v (by rcases i with _|_|_|i<;>simp_all)).any (ms:=ms)
  rwa [BF]
 have c15:∀h',h1.le h'->∀ms,Cell h' ms ((⟨g1,0,none⟩:Addr).add 15) ec:=λh' l ms=>((hS1 15 _ Y).any).le l;refine Ac<|Ar<|Qf K8 Y<|Qf Uw Y<|Qx (oG Y HR BL<|sg1 _ (BE) _) Y<|Qc call98 Y (UE _ r c S.d.flatten h1 M1)<|λvf h10 ms10 l10 hF=>?_;obtain⟨rfl,gb,ed',e1,rfl,rfl⟩:=hF;obtain rfl:ed=ed':=by simpa using e1
 refine Am<|Ag<|AF λh2 l2 hGb=>?_;have l12:=l2
 have hI:=N8 gb _ r c S.d.flatten h2 (M1.up l2) (λev' e=>by
  obtain rfl:ed=ev':=by simpa using e
  exact hGb)
 obtain⟨D,hDe⟩:∃D:Nat->Int,D=Vt c S.d.flatten:=⟨_,Y⟩
 rw[<-hDe]at hD;have hDk:∀k,AcG c S.d.flatten k=[.w k,WD (D k)]:=λk=>by rw[hDe];rfl
 rw[<-hDe];refine Jb (λk hh ms=>ms=[BI g4 4 [.bool false],BI g3 33 (Bi 0),BI g2 3 [.w 0]]/\∀j,j<k->D j∣C j) (λk hh ms=>ms=[BI g4 4 [.bool true],BI g3 33 (Bi (D k)),BI g2 3 [.w k]]/\¬D k∣C k/\∀j,j<k->D j∣C j) (λk s1 hh ms=>∃g6,s1=[(1,.pt g1),(2,.pt g2),(3,.pt g3),(4,.pt g4),(5,.w k),(6,.pt g6)]/\ms=[BI g4 4 [.bool false],BI g3 33 (Bi 0),BI g2 3 [.w 0]]/\Seg hh [] (⟨g6,0,none⟩:Addr) (Bi (D k))/\∀j,j<k->D j∣C j) Y call150 hI (λk=>rfl) Y ?_ ?_ ?_ ?_ ?_
 ·exact⟨Y,λj h=>ω⟩
 ·rintro w1 k hh ms1 hk lh ⟨rfl,hz⟩;rw[hDk];have osx:(sv (A7 (D k).natAbs)).oneCell'=true:=rfl;refine Df<|Be κ<|Qm Y<|An<|B5<|Be κ<|BS [.bool false,.es] Y Az Y Y<|λg6=>?_;refine Sa 0 [_,_] Az Y (by simp[ou,oui,od,ov,ovi,oc,B8,osx]) ?_;refine An<|Hz λh6 l6 hS6=>?_;exact AI _ ⟨_,Y,Y,hS6,hz⟩ Qs
 ·rintro w1 k s1 hh ms1 hk lh ⟨g6,rfl,rfl,hS6,hz⟩;have lh1:=AD l12 lh;have osx:(sv (A7 (D k).natAbs)).oneCell'=true:=rfl;have hkl:k<(Dr r C).length:=by rw[B7];exact hk
  have rC:Rd hh [] ec 2 r ((Dr r C).flatMap Bi):=by have:=((Rc.up l1).up lh1).rd;rwa [B7]at this
  have gE:∀ms,Seg hh ms ((AH ec).add (k*2)) (Bi (C k)):=λms=>by
   have:=((((Rc.up l1).up lh1).any (ms:=ms)).seg hkl)
   rwa [show(Dr r C)[k]=C k by simp[Dr]]at this
  refine Eh<|Df<|AbB 6 CC κ Y κ<|BD (oG Y By Az<|hS6.any) Y Y<|Wf VB Y<|Wl Y CE (c15 _ lh1 _)<|Wm Y<|BD (BC (k) rC.any Y CE Az Y Y) Y Y<|BD (oG Y By Az<|gE _) Y Y<|Bu<|Qx (As Y call149 Y<|Wa (D k) (C k) (hD k hk) (hC k hk) _ _) Y<|Qx (Dk (Dn Y Y)<|aw Value.bool decide_not.symm) Y<|An<|B5 ?_;refine Ly Y (λhne=>?_)<|λhne=>?_
  ·refine Df<|JS (n:=5) (bs:=[ig,ig,ii,ii,ii]) [true,true] CC κ κ Y Y κ<|Qq Y<|Qp Y (oG Y By Az<|hS6.any) ?_;unfold Dd;simp only[bh,ap];refine Qo 2 Y<|Bh 2 0 Y Bk Y Y (by rfl) Y Y δ Y Y<|Qw<|Qo 3 Y ?_;refine Sa 1 [_,_] Az Y (by simp[ou,oui,od,ov,ovi,oc,B8,osx]) ?_;refine Qw<|Qo 4 Y<|Bh 0 0 Y el4 Y Y (by rfl) Y Y δ Y Y<|Qw<|Qe<|B5<|Aea<|Ak ?_;refine Aa4 [] ⟨Y,hne,hz⟩ ej
  ·refine Ho<|Ai ?_;refine AI [] ⟨Y,λj hj=>?_⟩ ej;rcases (ω:j<k\/j=k) with h1|rfl
   ·exact hz j h1
   ·exact ef.1 hne
 ·rintro D' hh ms1 lh ⟨rfl,hz⟩;refine Ai<|Ab<|Ar<|Qx (AN Jp [.bool false,.es] [] [_,_] Y Az Y Y Qt Y) Y<|Bh 2 0 Y Bk Y Y (by rfl) Y Y δ Y Y ?_;refine Sa 1 [_,_] Az Y (by simp[Value.oneCell']) ?_;refine Bh 0 0 Y el4 Y Y (by rfl) Y Y δ Y Y<|Am<|Aj<|FI 3 (.inr Y) Y ?_;exact Nz Y Y Y Y U3 Y By Y Az Y U4 Y ⟨AD (AD l1 l12) lh,Y,.inr ⟨Y,hz⟩⟩
 ·rintro D' k hh ms1 hk lh ⟨rfl,hn,hz⟩;refine FI 3 (.inr Y) Y ?_;exact Nz Y Y Y Y U3 Y By Y Az Y U4 Y ⟨AD (AD l1 l12) lh,Y,.inl ⟨k,hk,Y,hn,hz⟩⟩
variable {D C:Nat->Int}
def Ff(r:Nat)(D C:Nat->Int)(q:Nat):Int:=if q<r/\D q≠0 then C q/D q else 0
theorem L6(a b:Int):(a/b).natAbs<=a.natAbs+1:=by
 first
 | exact bl (Int.natAbs_ediv_le_natAbs a b)<|Nat.le_succ _
 | exact bl (Int.natAbs_div_le_natAbs a b)<|Nat.le_succ _
theorem Ow{r B:Nat}(hC:∀k,k<r->Bq B (C k))(q:Nat):Bq (B+1) (Ff r D C q):=by
 unfold Ff;split
 ·rename_i h;have h1:=hC q h.1;have h2:=L6 (C q) (D q);unfold Bq at h1 ⊢;rw[Nat.pow_succ];have:0<2^B:=Nat.pow_pos δ;omega
 ·exact Bq.zero _
theorem AaQ{c k:Nat}(h:D k≠0)(hk:k<c):(Dr c (Ff k D C)).set k (C k/D k)=Dr c (Ff (k+1) D C):=by
 refine List.ext_getElem? λq=>?_;rw[List.getElem?_set];by_cases hq:q<c
 ·by_cases e:k=q
  ·subst e;rw[ah rfl,ah (by rw[B7];exact hk)];simp[Dr,Ff,h,hk]
  ·rw[ae e];simp only[Dr,fk,List.getElem?_range hq,Option.map_some,Ff];congr 1;by_cases h2:q<k
   ·simp[h2,show q<k+1 by omega]
   ·simp[h2,show ¬q<k+1 by omega]
 ·rw[ae ω];simp[Dr,eq,hq]
theorem WQ{k:Nat}(h:D k=0):Ff (k+1) D C=Ff k D C:=by
 funext q;unfold Ff;by_cases e:q=k
 ·subst e;simp[h]
 ·by_cases h2:q<k
  ·simp[h2,show q<k+1 by omega]
  ·simp[h2,show ¬q<k+1 by omega]
def Afz(r c:Nat)(D C:Nat->Int)(V:Nat->Nat->Int)(h':Hp)(w:Value):Prop:=((∃k,k<r/\¬D k∣C k)/\w=.tuple #[.slice none 0 0,.bool false])\/((∀j,j<r->D j∣C j)/\∃v,w=.tuple #[v,.bool true]/\RdL Bi 2 h' [] v (Dr c λi=>sm c λq=>V i q*Ff r D C q))
theorem ZD(va bv:Value)(r c:Nat)(f:Nat->Nat->Int)(b:Nat->Int)(s':St)(D C:Nat->Int)(h:Hp)(A:MW va h r c (DW r c f))(hf:∀i j,i<r->j<c->Bq 33 (f i j))(hfp:Fg r c (min r c) 0 (Uc r c f)=some s')(B:RdL Bi 2 h [] bv (Dr r b))(hb:∀i,i<r->Bq 100 (b i))(hDe:Vt c s'.S.d.flatten=D)(hCe:ubF s'.S r b=C)(hD:∀k,k<r->(D k).natAbs<4294967296) :
  FnT Tryz.prog 46 #[va,bv] h [] (λw h' ms'=>h.le h'/\ms'=[]/\s'.S.Ok r c 660033/\Afz r c D C (AV s'.S.v) h' w):=by
 have hr:=A.hr;have hcc:=A.hc;have A0:=A;obtain⟨ea,rfl,RA⟩:=A.ex;have oa:=RA.rd.one;have ob:=B.rd.one;refine E7 func46 ntmps46 Y Y<|λw0 hw0=>?_;simp only[AR];refine Ar<|AK [_,_,_] Y Y (by rfl) Y Y Y<|λg2=>Qm Y<|Qm Y<|Am<|Av 0 Y λh1 l1 hS1=>?_;have sg1:∀h',h1.le h'->∀ms,Seg h' ms (⟨g2,0,none⟩:Addr) [.w r,.w c,ea]:=λh' l ms=>Seg.any (hS1.le l);have c11:∀h',h1.le h'->∀ms,Cell h' ms ((⟨g2,0,none⟩:Addr).add 1) (.w c):=λh' l ms=>((hS1 1 _ Y).any).le l;refine Ar<|Qx (oG Y HR BL<|sg1 _ (BE) _) Y<|Qm Y<|Qc call96 Y (VR _ bv r c f b s' h1 (A0.up l1) hf hfp (B.up l1) hb)<|λw0 h2 ms2 l2 hF=>?_;obtain⟨l2',rfl,O,qv,rfl,hE⟩:=hF;rw[hCe]at hE;have hE0:=hE;obtain⟨eu,eui,ed,ev,evi,ec,rfl,Ru,Rui,Rd_,Rv,Rvi,Rc⟩:=hE;have ou:=Ru.rd.one;have oui:=Rui.rd.one;have od:=Rd_.rd.one;have ov:=Rv.rd.one;have ovi:=Rvi.rd.one;have oc:=Rc.rd.one;refine Qm Y<|Qm Y<|Qm Y<|BS [.w 0,.w 0,.nl,.w 0,.w 0,.nl,.w 0,.w 0,.nl,.w 0,.w 0,.nl,.w 0,.w 0,.nl,.nl] Y I8 Y Y<|λg6=>?_;refine Sa 0 [_,_,_,_,_,_,_,_,_,_,_,_,_,_,_,_] I8 Y (by simp[oa,ob,ou,oui,od,ov,ovi,oc,B8]) ?_;refine Qm Y<|Am<|Av 0 Y λh3 l3 hS6=>?_;have l13:=AD l2' l3;have l03:=AD l1 l13;refine Ac<|Ar<|Qm Y<|Qm Y<|Am<|AL Y<|Ah<|Ab ?_;have sg6:∀h',h3.le h'->∀ms,Seg h' ms (⟨g6,0,none⟩:Addr) [.w r,.w r,eu,.w r,.w r,eui,.w r,.w c,ed,.w c,.w c,ev,.w c,.w c,evi,ec]:=λh' l ms=>Seg.any (hS6.le l)
 have hCk:∀k,k<r->Bq 660333 (C k):=λk hk=>by rw[<-hCe];exact(Kb r λq hq=>((O.bu k q).mul (hb q hq)).mono (show 660033+100<=660133 by decide)).mono ω
 refine Ac<|Ar<|Qx (oG Y Adj I8<|sg6 _ (BE) _) Y ?_;refine Qc call97 Y (Sg _ r c s'.S C h3 hr hcc O ⟨_,_,_,_,_,_,Y,Ru.up l3,Rui.up l3,Rd_.up l3,Rv.up l3,Rvi.up l3,Rc.up l3⟩ (by rw[hDe];exact hD)<|λk hk=>Sz.of (hCk k hk) δ)<|λw0 h4 ms4 l4 hF=>?_;obtain⟨l4',rfl,hW⟩:=hF;rw[hDe]at hW;rcases hW with ⟨k,hk,rfl,hn,hz⟩|⟨rfl,hz⟩
 ·have osx:(sv (A7 (D k).natAbs)).oneCell'=true:=rfl;refine Qm Y<|Qm Y<|Qm Y<|Qm Y<|BS [.bool false,.es] Y Az Y Y<|λg9=>Qm Y ?_;refine Sa 0 [_,_] Az Y (by simp[oa,ob,ou,oui,od,ov,ovi,oc,B8,osx]) ?_;refine Qm Y<|Am<|Av 0 Y λh5 l5 hS9=>Ar<|Qm Y<|Am<|AX Y<|Ar<|Qm Y<|Qm Y<|Am<|Aj<|Ae ?_;have l05:=AD l03 (AD l4' l5);refine WC (.inr Y) ?_;exact Ck Y Y Y (⟨l05,Y,O,.inl ⟨⟨k,hk,hn⟩,Y⟩⟩)
 ·have osx:(sv (A7 (0:Int).natAbs)).oneCell'=true:=rfl;refine Qm Y<|Qm Y<|Qm Y<|Qm Y<|BS [.bool false,.es] Y Az Y Y<|λg9=>Qm Y ?_;refine Sa 0 [_,_] Az Y (by simp[oa,ob,ou,oui,od,ov,ovi,oc,B8,osx]) ?_;refine Qm Y<|Am<|Av 0 Y λh5 l5 hS9=>?_;have l35:=AD l4' l5;have l15:=AD l13 l35;refine Ar<|Qm Y<|Am<|AL Y<|Ah<|Ab<|Ar<|Qf Do Y<|Ql Y U3 (c11 _ l15 _)<|Ha Fa ω (0:Int) (n:=c) Y CE Az Y Y Y ω ω ω ω Y Y Y<|λg31 ey m hev hO=>?_;have oe:=hO.o1;refine BS [.nl] Y Ea Y Y<|λg11=>Bh 0 0 Y Ea Y Y (by assumption) Y Y δ Y Y<|Am<|Av 0 Y λh6 l6 hS11=>?_;have hL:s'.S.d.flatten.length=r*c:=by rw[O.md,Ca]
  have l36:=AD l35 l6;have M1:MW (.agg #[.w r,.w c,ed]) h6 r c s'.S.d.flatten:=⟨hr,hcc,hL,ed,Y,(Rd_.up l3).up l36⟩
  have sgd:∀h',h6.le h'->∀ms,Seg h' ms ((⟨g6,0,none⟩:Addr).add 6) [.w r,.w c,ed]:=λh' l ms i v hv=>by
   have:=((hS6.le (AD l36 l)) (6+i) v (by rcases i with _|_|_|i<;>simp_all)).any (ms:=ms)
   rwa [BF]
  have sgv:∀h',h6.le h'->∀ms,Seg h' ms ((⟨g6,0,none⟩:Addr).add 9) [.w c,.w c,ev]:=λh' l ms i v hv=>by
   have:=((hS6.le (AD l36 l)) (9+i) v (by rcases i with _|_|_|i<;>simp_all)).any (ms:=ms)
   rwa [BF]
  have c15:∀h',h6.le h'->∀ms,Cell h' ms ((⟨g6,0,none⟩:Addr).add 15) ec:=λh' l ms=>((hS6 15 _ Y).any).le (AD l36 l);have cy:∀h',h6.le h'->∀ms,Cell h' ms (⟨g11,0,none⟩:Addr) ey:=λh' l ms=>((hS11.at0 Y).any).le l;refine Ac<|Ar<|Qf K8 Y<|Qf Uw Y<|Qx (oG Y HR BL<|sgd _ (BE) _) Y<|Qc call98 Y (UE _ r c s'.S.d.flatten h6 M1)<|λvf h10 ms10 l10 hF=>?_;obtain⟨rfl,gb,ed',e1,rfl,rfl⟩:=hF;obtain rfl:ed=ed':=by simpa using e1
  refine Am<|Ag<|AF λh7 l7 hGb=>?_
  have hI:=N8 gb _ r c s'.S.d.flatten h7 (M1.up l7) (λev' e=>by
   obtain rfl:ed=ev':=by simpa using e
   exact hGb)
  have hDk:∀k,AcG c s'.S.d.flatten k=[.w k,WD (D k)]:=λk=>by rw[<-hDe];rfl
  have hDc:∀k,D k≠0->k<c:=λk hk=>by
   by_cases h:k<c
   ·exact h
   ·exact ie (by rw[<-hDe];unfold Vt;rw[ae h]) hk
  refine FG (λk hh ms=>∃mo,ms=[mo]/\OwnL Bi 2 33 mo ey (Dr c (Ff k D C))) (λk s1 hh ms=>∃g13 mo,s1=[(6,.pt g6),(11,.pt g11),(12,.w k),(13,.pt g13)]/\ms=[mo]/\OwnL Bi 2 33 mo ey (Dr c (Ff k D C))/\Seg hh [] (⟨g13,0,none⟩:Addr) (Bi (D k))) Y call150 (ItrS.itr hI) (λk=>rfl) Y ?_ ?_ ?_ ?_
  ·exact⟨m,Y,by rw[show Dr c (Ff 0 D C)=replicate c 0 from by rw[show Ff 0 D C=λ_=>0 from by funext q;simp[Ff]];show(range c).map (λ_=>(0:Int))=_;simp[List.map_const']];exact hO⟩
  ·rintro w1 k hh ms1 hk lh ⟨mo,rfl,hO⟩;rw[hDk];have osx:(sv (A7 (D k).natAbs)).oneCell'=true:=rfl;refine Df<|Be κ<|Qm Y<|An<|B5<|Be κ<|BS [.bool false,.es] Y Az Y Y<|λg13=>?_;refine Sa 0 [_,_] Az Y (by simp[oa,ob,ou,oui,od,ov,ovi,oc,B8,osx,oe]) ?_;refine An<|Hz λh8 l8 hS13=>?_;exact AI _ ⟨_,mo,Y,Y,hO,hS13⟩ Qs
  ·rintro w1 k s1 hh ms1 hk lh ⟨g13,mo,rfl,rfl,hO,hS13⟩;have lhh:=AD l7 lh;have osx:(sv (A7 (D k).natAbs)).oneCell'=true:=rfl;refine Eh<|Df<|Be κ<|Qx (oG Y By Az<|hS13.any) Y<|Qx (As Y call99 Y<|KW (D k) (Sz.of (B:=32) (hD k hk) δ) _ _) Y<|Qx (Dk (Dn Y Y)<|aw Value.bool decide_not.symm) Y<|An<|B5 ?_;refine Ly Y (λhne=>?_)<|λhne=>?_
   ·have hkc:=hDc k hne;have hkl:k<(Dr r C).length:=by rw[B7];exact hk
    have lc:=AD l36 lhh
    have rC:Rd hh [] ec 2 r ((Dr r C).flatMap Bi):=by have:=((Rc.up l3).up lc).rd;rwa [B7]at this
    have gE:∀ms,Seg hh ms ((AH ec).add (k*2)) (Bi (C k)):=λms=>by
     have:=((((Rc.up l3).up lc).any (ms:=ms)).seg hkl)
     rwa [show(Dr r C)[k]=C k by simp[Dr]]at this
    have hln:(Dr c (Ff k D C)).length=c:=B7 _ _;have rY:Rd hh [mo] ey 2 c ((Dr c (Ff k D C)).flatMap Bi):=by have:=(hO.rd (h:=hh) (ms:=[mo]) Mh).rd;rwa [hln]at this
    have osq:(sv (A7 (C k/D k).natAbs)).oneCell'=true:=rfl;have osr:(sv (A7 (C k%D k).natAbs)).oneCell'=true:=rfl;refine JS (n:=15) (bs:=[ig,ig,ig,ig,ig,ig,ig,ig,ig,ig,ig,ig,ig,ig,ii]) [ig,ig,ig,ig,ig,ig,ig,ig,ig,ig,ig,ig,ig,ig] CC κ κ Y Y κ<|QL Y CE (cy _ lhh _)<|Qq Y<|QF VB Y<|QL Y CE (c15 _ lhh _)<|Qq Y<|Qp Y (BC (k) rC.any Y CE Az Y Y)<|Qp Y (oG Y By Az<|gE _)<|Qp Y (oG Y By Az<|hS13.any)<|Qp Y (As Y call100 Y<|Np (C k) (D k) (Sz.of (hCk k hk) δ) hne (hD k hk) _ _)<|Qq Y<|Qq Y<|Qq Y<|Qq Y<|Qp Y (Ba (k) rY Y CE Az Y Y ω ω) ?_;unfold Dd;simp only[bh,ap];refine Qo 14 Y<|EF 0 k (C k/D k) hO Y Az Y Y Y (ES _) Y ω Y Y<|λmo' hO'=>Qw<|Qe ?_;rw[AaQ hne hkc]at hO';refine Ai ?_;exact AI [] ⟨mo',Y,hO'⟩ ej
   ·refine Ho<|Ai ?_;exact AI [] ⟨mo,Y,by rw[WQ (ef.1 hne)];exact hO⟩ ej
  ·rintro D' hh ms1 lh ⟨mo,rfl,hO⟩;have lhh:=AD l7 lh;have lc:=AD l36 lhh;refine Dg hO λh8 l8 hR8=>?_;have lh8:=AD lhh l8;have MV:MW (.agg #[.w c,.w c,ev]) h8 c c (DW c c (AV s'.S.v)):=⟨hcc,hcc,Ca _ _ _,ev,Y,by rw[<-O.mv];exact(Rv.up l3).up (AD l36 lh8)⟩
   have bY:=Ow (D:=D) hCk;have bV:∀i t,Bq 1320400 (AV s'.S.v i t*Ff r D C t):=λi t=>((O.bv i t).mul (bY t)).mono δ;refine Ai<|Ab<|Ar<|Qf K8 Y<|Qf AbD Y<|Qx (oG Y HR BL<|sgv _ lh8 _) Y<|Ql Y CE (cy _ lh8 _) ?_;refine Qc call101 Y (NF _ ey c c (AV s'.S.v) (Ff r D C) h8 MV hR8 (λi t hi ht=>Sz.of ((Kb t λq hq=>bV i q).mono (show 1320400+t<=1330400 by omega)) δ) (λi t _ _=>Sz.of (O.bv i t) δ) (λt _=>Sz.of (bY t) δ)<|λi t _ _=>Sz.of (bV i t) δ)<|λw9 h9 ms9 l9 hF=>?_;obtain⟨l9',vz,mz,rfl,rfl,Oz⟩:=hF;refine Qm Y<|Qm Y<|Qm Y<|Qm Y<|Am<|Aj<|FI 1 (.inr Y) Y<|Dg Oz λhA lA hRA=>?_;exact Ck Y Y Y (⟨AD l03<|AD l36<|AD lh8<|AD l9' lA,Y,O,.inr ⟨hz,vz,Y,hRA⟩⟩)
end
section
open Go.Lin Go.Wd Go.Sm
theorem Zy(l:List Int)(v:Value)(h:Hp)(hR:RdL Bi 2 h [] v l)(hl:l.length<=1000000):FnT Tryz.prog 104 #[v] h [] (λx h' ms'=>h.le h'/\ms'=[]/\RdL Bi 2 h' [] x l):=
 FnT.frz (ND l v h hR hl) λv h' ms' ⟨e,m,e2,q⟩=>⟨m,[],e2,λh2 l2 lm=>⟨by rw[e];exact l2,Y,q.rdh lm⟩⟩
def Afj(r:Nat)(D C:Nat->Int)(U:Nat->Nat->Int)(h':Hp)(w:Value):Prop:=(∃k,k<r/\¬D k∣C k/\(∀j,j<k->D j∣C j)/\∃v,w=.tuple #[v,WD (D k),.bool true]/\RdL Bi 2 h' [] v (Dr r (U k)))\/((∀j,j<r->D j∣C j)/\w=.tuple #[.slice none 0 0,WD 0,.bool false])
theorem Wj(va bv:Value)(r c:Nat)(f:Nat->Nat->Int)(b:Nat->Int)(s':St)(D C:Nat->Int)(h:Hp)(A:MW va h r c (DW r c f))(hf:∀i j,i<r->j<c->Bq 33 (f i j))(hfp:Fg r c (min r c) 0 (Uc r c f)=some s')(B:RdL Bi 2 h [] bv (Dr r b))(hb:∀i,i<r->Bq 100 (b i))(hDe:Vt c s'.S.d.flatten=D)(hCe:ubF s'.S r b=C)(hD:∀k,k<r->(D k).natAbs<4294967296) :
  FnT Tryz.prog 48 #[va,bv] h [] (λw h' ms'=>h.le h'/\ms'=[]/\s'.S.Ok r c 660033/\Afj r D C (AV s'.S.u) h' w):=by
 have hr:=A.hr;have hcc:=A.hc;have A0:=A;obtain⟨ea,rfl,RA⟩:=A.ex;have oa:=RA.rd.one;have ob:=B.rd.one;refine Ap func48 ntmps48 Y Y<|λw0 hw0=>?_;simp only[AR];refine Ar<|AK [_,_,_] Y Y (by rfl) Y Y Y<|λg2=>Qm Y<|BS [.bool false,.es] Y Az Y Y<|λg5=>Qm Y<|Am<|Av 1 Y λh1 l1 hS1=>?_;have sg1:∀h',h1.le h'->∀ms,Seg h' ms (⟨g2,0,none⟩:Addr) [.w r,.w c,ea]:=λh' l ms=>Seg.any (hS1.le l);have c11:∀h',h1.le h'->∀ms,Cell h' ms ((⟨g2,0,none⟩:Addr).add 1) (.w c):=λh' l ms=>((hS1 1 _ Y).any).le l;refine Ar<|Qx (oG Y HR BL<|sg1 _ (BE) _) Y<|Qm Y<|Qc call96 Y (VR _ bv r c f b s' h1 (A0.up l1) hf hfp (B.up l1) hb)<|λw0 h2 ms2 l2 hF=>?_;obtain⟨l2',rfl,O,qv,rfl,hE⟩:=hF;rw[hCe]at hE;have hE0:=hE;obtain⟨eu,eui,ed,ev,evi,ec,rfl,Ru,Rui,Rd_,Rv,Rvi,Rc⟩:=hE;have ou:=Ru.rd.one;have oui:=Rui.rd.one;have od:=Rd_.rd.one;have ov:=Rv.rd.one;have ovi:=Rvi.rd.one;have oc:=Rc.rd.one;refine Qm Y<|Qm Y<|Qm Y<|BS [.w 0,.w 0,.nl,.w 0,.w 0,.nl,.w 0,.w 0,.nl,.w 0,.w 0,.nl,.w 0,.w 0,.nl,.nl] Y I8 Y Y<|λg7=>?_;refine Sa 0 [_,_,_,_,_,_,_,_,_,_,_,_,_,_,_,_] I8 Y (by simp[oa,ob,ou,oui,od,ov,ovi,oc,B8]) ?_;refine Qm Y<|Am<|Av 0 Y λh3 l3 hS7=>?_;have l13:=AD l2' l3;have l03:=AD l1 l13;refine Ac<|Ar<|Qm Y<|Qm Y<|Am<|AL Y<|Ah<|Ab ?_;have sg6:∀h',h3.le h'->∀ms,Seg h' ms (⟨g7,0,none⟩:Addr) [.w r,.w r,eu,.w r,.w r,eui,.w r,.w c,ed,.w c,.w c,ev,.w c,.w c,evi,ec]:=λh' l ms=>Seg.any (hS7.le l)
 have hCk:∀k,k<r->Bq 660333 (C k):=λk hk=>by rw[<-hCe];exact(Kb r λq hq=>((O.bu k q).mul (hb q hq)).mono (show 660033+100<=660133 by decide)).mono ω
 refine Ar<|Qx (oG Y Adj I8<|sg6 _ (BE) _) Y ?_;refine Qc call97 Y (Sg _ r c s'.S C h3 hr hcc O ⟨_,_,_,_,_,_,Y,Ru.up l3,Rui.up l3,Rd_.up l3,Rv.up l3,Rvi.up l3,Rc.up l3⟩ (by rw[hDe];exact hD)<|λk hk=>Sz.of (hCk k hk) δ)<|λw0 h4 ms4 l4 hF=>?_;obtain⟨l4',rfl,hW⟩:=hF;rw[hDe]at hW;rcases hW with ⟨k,hk,rfl,hn,hz⟩|⟨rfl,hz⟩
 ·have osx:(sv (A7 (D k).natAbs)).oneCell'=true:=rfl;refine Qm Y<|Qm Y<|Qm Y<|Qm Y<|BS [.bool false,.es] Y Az Y Y<|λg10=>Qm Y ?_;refine Sa 0 [_,_] Az Y (by simp[oa,ob,ou,oui,od,ov,ovi,oc,B8,osx]) ?_;refine Qm Y<|Am<|Av 0 Y λh5 l5 hS9=>Ac<|Ar<|Qm Y<|Qm Y<|Am<|AL Y<|Ah<|Ab ?_;have l35:=AD l4' l5;obtain⟨au,cu,rfl,_⟩:=Ru.rd.ex;have sgu:∀h',h5.le h'->∀ms,Seg h' ms (⟨g7,0,none⟩:Addr) [.w r,.w r,.slice au s'.S.u.flatten.length cu]:=λh' l ms=>λi v hv=>((hS7.le (AD l35 l)) i v (by rcases i with _|_|_|i<;>simp_all)).any;refine Ar<|Qf K8 Y<|Qf V4 Y<|Qx (oG Y HR BL<|sgu _ (BE) _) Y<|BS [.w 0,.w 0,.nl] Y BL Y Y<|λg12=>?_;refine Sa 0 [_,_,_] BL Y (by simp[Value.oneCell']) ?_;refine Am<|Av 0 Y λh6 l6 hS12=>?_;have l36:=AD l35 l6;have hrk:(k+1)*r<=r*r:=du r hk;have d1:(k+1)*r=k*r+r:=by rw[cw,fp]
  have c2:r*r<=200*200:=ep hr hr;have d3:((k:Int)+1)*r=k*r+r:=by rw[Int.add_mul,gy]
  have d4:(k:Int)*r=((k*r:Nat):Int):=(fv k r).symm;have RU6:RdL Bi 2 h6 [] (.slice au s'.S.u.flatten.length cu) (DW r r (AV s'.S.u)):=by rw[<-O.mu];exact(Ru.up l3).up l36
  have hlu:s'.S.u.flatten.length=r*r:=by rw[O.mu,Ca]
  have hrow:=RU6.rowF hk;have rU:Rd h6 [] (.slice au s'.S.u.flatten.length cu) 2 (r*r) ((DW r r (AV s'.S.u)).flatMap Bi):=by have:=RU6.rd;rwa [Ca]at this
  have s12:∀h',h6.le h'->∀ms i v,[.w r,.w r,.slice au s'.S.u.flatten.length cu][i]?=some v->Cell h' ms ((⟨g12,0,none⟩:Addr).add i) v:=λh' l ms i v e=>((hS12 i v e).any).le l;have gD:∀h',h6.le h'->∀ms,Seg h' ms (⟨g10,0,none⟩:Addr) (Bi (D k)):=λh' l ms=>(Seg.any (hS9.le l6)).le l;refine Ac<|AS (n:=17) (bs:=[ig,ig,ig,ig,ig,ig,ig,ig,ig,ig,ig,ig,ii,ig,ii,ii,ii]) [ig,ig,ig,ig,ig,ig,ig,ig,ig,ig,ig,ig,ii,ig] CC κ κ Y Y<|QF Gb Y<|QL Y CE (s12 _ (BE) _ _ _ Y)<|Qq Y<|QF Do Y<|QL Y U3 (s12 _ (BE) _ _ _ Y)<|Qp Y (oM Y)<|Qq Y<|Qp Y (oA Y)<|QF Do Y<|QL Y U3 (s12 _ (BE) _ _ _ Y)<|Qp Y (oM Y)<|Qp Y (Hm (k*r) ((k+1)*r) rU.any Y CE Az Y Y Y ω ω ω ω)<|Qp Y (oG Y By Az<|gD _ (BE) _) ?_;unfold Dd;simp only[bh,ap];refine Qo 12 Y ?_;refine AC (pre:=[]) Y call104 Y (Zy (Dr r<|AV s'.S.u k) _ h6 hrow (by rw[B7];omega)) rfl rfl rfl rfl<|λy h8 ms8 l8 hF=>?_;obtain⟨l68,rfl,hY⟩:=hF;have oy:=hY.rd.one;refine Qa<|Qo 14 Y<|Qm Y<|Qa<|Qo 15 Y ?_;refine Sa 0 [_,_] Az Y (by simp[oa,ob,ou,oui,od,ov,ovi,oc,B8,osx,oy]) ?_;refine Qa<|Qo 16 Y<|Qm Y<|Qa<|Qe<|Ab<|Aj ?_;exact Nu 0 Y Y Y Y By Y Az Y Y ⟨AD l03<|AD l36 l68,Y,O,.inl ⟨k,hk,hn,hz,y,Y,hY⟩⟩
 ·have osx:(sv (A7 (0:Int).natAbs)).oneCell'=true:=rfl;refine Qm Y<|Qm Y<|Qm Y<|Qm Y<|BS [.bool false,.es] Y Az Y Y<|λg10=>Qm Y ?_;refine Sa 0 [_,_] Az Y (by simp[oa,ob,ou,oui,od,ov,ovi,oc,B8,osx]) ?_;refine Qm Y<|Am<|Av 0 Y λh5 l5 hS9=>Ac<|Ar<|Qm Y<|Qm Y<|Am<|AX Y<|Ar<|Qx (AN Jp [.bool false,.es] [] [_,_] Y Az Y Y Qt Y) Y<|Qm Y ?_;refine Sa 0 [_,_] Az Y (by simp[Value.oneCell']) ?_;refine Qm Y<|Am<|Aj<|Ae ?_;have l05:=AD l03 (AD l4' l5);exact Nu 0 Y Y Y Y By Y Az Y Y ⟨l05,Y,O,.inr ⟨hz,Y⟩⟩
end
section
open Go.Sort
def Ip(l:List Int):List Int:=l.mergeSort λx y=>decide (x<=y)
theorem Jt(l:List Int):(Ip l).Perm l:=List.mergeSort_perm l _
theorem Pp(l:List Int):(Ip l).Pairwise (·<=·):=by have:=List.pairwise_mergeSort (le:=λx y:Int=>decide (x<=y)) (λa b c=>by simp;omega) (λa b=>by simp;omega) l;exact this.imp λh=>by simpa using h
theorem Gs(l:List Int):l.flatMap cI=l.map (Value.int .i64):=by
 induction l with
 | nil=>rfl
 | cons a l ih=>rw[List.flatMap_cons,List.map_cons,ih];rfl
theorem Ach(l:List Int)(v:Value)(m:Hp)(hO:OwnL cI 1 3 m v l)(hl:l.length<=2305843009213693951)(h:Hp) :
  FnT Tryz.prog 197 #[v] h [m] (λ_ h' ms'=>h=h'/\∃m',ms'=[m']/\OwnL cI 1 3 m' v (Ip l)):=by
 intro w hw;obtain⟨⟨e0,hown⟩,hF⟩:=hO;rcases hown with ⟨rfl,e1,rfl⟩|⟨g,cap,spare,rfl,rfl,e1,e2,e3⟩
 ·obtain rfl:l=[]:=fm.1 e1;refine(Any.slices_Sort_int_none Tryz.lays189 none 0 w).mono λx w' ⟨hx,hw'⟩=>?_;subst hw';exact⟨_,h,[Hp.emp],hx,Ends.refl hw,Y,_,Y,by rw[(Jt []).eq_nil];exact OwnL.nil A8⟩
 ·have hcs:l.flatMap cI=l.map (Value.int .i64):=Gs l;have hgw:w.heap[g]?=some (.cells (l.flatMap cI++spare).toArray 3 (0,0)):=hw.own _ (bm.2 Y) g _ (Hp.one_self _ _);have hH:Holds (Value.int .i64) w g 0 l.toArray:=holds_of_blockI hgw (by rw[hcs];simp);have hlt:=(cj.1 hgw).1;refine(Tryz.slices_Sort_int g 0 cap l w hH hlt ω).mono λx w' ⟨hx,q,os,hw'⟩=>?_;have htl:(Ip l).length=l.length:=(Jt l).length_eq;change w'=grow (putRow (Value.int .i64) (Sort.ahead w q) g 0 (Ip l).toArray) os at hw';have hb:=heap_sortedI (n:=q) (os:=os) (Ip l).toArray hgw;have hgr:=grownBy_sortedI (w:=w) (g:=g) (n:=q) (os:=os) (Ip l).toArray;have hdr:w.drawn<=w'.drawn:=by rw[hw'];exact Nat.le_add_right _ _
  rw[<-hw']at hb hgr
  have hpc:putCells (Value.int .i64) 0 (Ip l).toArray (l.flatMap cI++spare).toArray=((Ip l).flatMap cI++spare).toArray:=by
   apply gq;intro t;unfold putCells;rw[Array.getElem?_mapIdx,gr,gr,Gs,Gs];rcases f6 t l.length with h|h
   ·rw[d5 (by simpa using h),d5 (by simpa[htl] using h)];have h2:t<(Ip l).length:=ω
    simp[h,h2]
   ·rw[List.getElem?_append_right (by simpa using h),List.getElem?_append_right (by simpa[htl] using h)];simp only[List.length_map,htl,List.size_toArray];cases spare[t-l.length]? with
    | none=>rfl
    | some u=>
     simp only[Option.map_some];rw[if_neg (by omega)]
  rw[hpc]at hb;have hE:=Ends.put (l':=(Ip l).flatMap cI++spare) (i:=0) (Ends.refl hw) Y hgr.os ⟨hgr.tape,hdr⟩ hgr.output hgr.size (by simpa using hb) (λk hk hne=>hgr.block k hk (λe=>hne (by simpa using e)));refine⟨_,h,_,hx,hE,Y,_,Y,⟨?_,.inr ⟨g,cap,spare,?_,Y,?_,?_,e3⟩⟩,hF⟩
  ·rw[Gs];simp
  ·rw[htl]
  ·rw[af,BY A8,htl,<-BY A8 l,<-af];exact e1
  ·rw[htl];exact e2
open Go.Lin Go.Wd
def Jk(T:List (Int×Int))(j:Nat):Int:=(T.getD j (0,0)).1
theorem Vm{T:List (Int×Int)}{j:Nat}(hj:j<T.length):T[j].1=Jk T j:=by unfold Jk;simp[List.getD,hj]
theorem ZX(T:List (Int×Int)):(range T.length).map (Jk T)=T.map Prod.fst:=by
 refine fw σ λi h1 h2=>?_;have hi:i<T.length:=by simpa using h1
 simp[<-Vm hi]
def AcW(T:List (Int×Int))(vis:List Nat)(vs:List Value)(vis':List Nat):Prop:=∃(j:Nat) (hj:j<T.length),j ∉ vis/\vs=[kN (Jk T j)]/\vis'=vis++[j]
theorem Xk(g1 gT:Nat)(m:Hp)(T:List (Int×Int))(bs:List Nat)(h:Hp)(hG:Seg h [] ⟨g1,0,none⟩ [.map (some gT)])(O:CF kN WD gT Cd m T bs)(hm:m.le h) :
  AeI Tryz.prog 198 [.pt g1] h (AcW T) [] (λvis=>vis.Perm (range T.length)):=by
 intro lp X h1 ms hl hY h0;show FnT _ _ #[.func (.yield lp) #[] #[],.pt g1] _ _ _;have hG:=hG.le hl;have hm:=AD hm hl;refine Ap func198 ntmps198 Y Y<|λw0 hw0=>?_;simp only[AR];refine Ar<|Ql Y HQ ((hG.at0 Y).any)<|IH O hm Y HQ Y Y Y Y<|λgi mi I0=>Am<|Ag ?_
 refine AB (λq s hh ms'=>∃(vis:List Nat) (mi:Hp) (ms0:List Hp),q=T.length-vis.length/\s=[(0,.func (.yield lp) #[] #[]),(5,.pt gi)]/\h1.le hh/\ms'=mi::ms0/\En gi gT m mi bs vis/\X vis hh ms0)
  (T.length-0) _ ⟨[],mi,ms,rfl,rfl,BE,rfl,I0,h0⟩ Qs ?_
 rintro q s hh ms' ⟨vis,mi,ms0,rfl,rfl,lh,rfl,I,hX⟩;have hm:=AD hm lh;refine Ar ?_;refine J1 0 O I hm Y Y Y Y Y Y (λhall=>?_)<|λj hj mi' hjv I'=>?_
 ·refine Qm Y<|Am<|Ac<|AL Y<|Ax<|Aa<|Aa<|Af<|AQ ?_;exact Cv Y (⟨vis,(List.perm_ext_iff_of_nodup I.nodup List.nodup_range).2 λj=>⟨λhj=>cm.2 (by have:=I.lt j hj;rw[O.len]at this;exact this),λhj=>hall j<|cm.1 hj⟩,hX⟩)
 ·refine Qm Y<|Am<|Ac ?_
  have hlen:(vis++[j]).length<=T.length:=by have:=I'.nodup.length_le_of_subset (l₂:=range T.length) λx hx=>cm.2 (by have:=I'.lt x hx;rw[O.len]at this;exact this);simpa using this
  rw[af,ab]at hlen;refine AX Y<|Ah<|Ab<|Ag<|Ar<|Qx (Iz O I' hm Mh hj Y Y) Y<|Qm Y<|Qm Y<|Am ?_;rw[Vm hj];refine Ac<|Bw<|BR (Au Y Y) Y Y Y<|BR (Au Y Y) Y Y Y<|NR (pre:=ms0) (fr:=[mi']) (List.perm_append_comm (l₁:=[mi'])) Y Y Y (hY vis [kN (Jk T j)] (vis++[j]) hh ms0 ⟨j,hj,hjv,Y,Y⟩ lh hX) Y Y Y<|λr h2 ms2 l2 hr=>?_;obtain⟨rfl,hX2⟩:=hr;refine BR (Dn Y Y) Y Y Y<|CJ<|Ab<|AL Y<|Ah<|Ai<|Iv (List.perm_append_comm (l₂:=[mi'])) ?_;exact Ao (T.length-(vis++[j]).length) _ (by rw[af,ab];omega) ⟨vis++[j],mi',ms2,rfl,rfl,AD lh l2,rfl,I',hX2⟩ Qs
theorem Acg(v:Option Nat)(h:Hp):FnT Tryz.prog 158 #[.map v] h [] (λr h' ms'=>h=h'/\∃g,r=.func (.func 198) #[] #[.pointer (some ⟨g,0,none⟩)]/\ms'=[BI g 141 [.map v]]):=by refine Ap func158 ntmps158 Y Y<|λw0 hw0=>?_;simp only[AR];refine Ar<|AK [_] Y Y (by rfl) Y Y Y<|λg1=>Qm Y<|Bp<|Qx (Bz Y Y Y) Y<|Qm Y<|Am<|Aj ?_;exact Al Y Y (⟨Y,_,Y,Y⟩)
theorem Nh(g1 gT:Nat)(m:Hp)(T:List (Int×Int))(bs:List Nat)(h:Hp)(hG:Seg h [] ⟨g1,0,none⟩ [.map (some gT)])(O:CF kN WD gT Cd m T bs)(hm:m.le h)(hT:T.length<=1000000) :
  FnT Tryz.prog 235 #[.nl,.func (.func 198) #[] #[.pt g1]] h [] (λr h' ms'=>h.le h'/\∃(vis:List Nat) (mo:Hp),ms'=[mo]/\vis.Perm (range T.length)/\OwnL cI 1 3 mo r (vis.map (Jk T))):=by
 have hI:=Xk g1 gT m T bs h hG O hm;refine E7 func235 ntmps235 Y Y<|λw0 hw0=>?_;simp only[AR];refine Ar<|AK [_] Y Y (by rfl) Y Y Y<|λg2=>Qm Y<|Am<|Ac<|Ar<|Qm Y<|Am<|Ag<|BV<|AcA ?_;refine Nd (R:=AcW T) (λ(vis:List Nat) hh ms=>vis.Nodup/\(∀x∈vis,x<T.length)/\∃v mo,ms=[BI g2 22 [v],mo]/\OwnL cI 1 3 mo v (vis.map (Jk T))) (λ(vis:List Nat) vs vis' s1 hh ms=>vis.Nodup/\(∀x∈vis,x<T.length)/\∃v mo j,j<T.length/\j ∉ vis/\vis'=vis++[j]/\s1=[(2,.pt g2),(5,.w (Jk T j))]/\ms=[BI g2 22 [v],mo]/\OwnL cI 1 3 mo v (vis.map (Jk T))) Y call198 hI ?_ Y ?_ ?_ ?_ ?_
 ·rintro k vs k' ⟨j,hj,_,rfl,_⟩;rfl
 ·exact⟨List.Pairwise.nil,by simp,_,_,rfl,OwnL.nil A8⟩
 ·rintro w1 vis vs vis' hh ms1 ⟨j,hj,hjv,rfl,rfl⟩ lh ⟨hn,hlt,v,mo,rfl,hO⟩;rw[show kN (Jk T j)=.w (Jk T j) from Y];refine Be κ<|Qm Y<|An ?_;exact AI _ ⟨hn,hlt,v,mo,j,hj,hjv,Y,Y,Y,hO⟩ Qs
 ·rintro w1 vis vs vis' s1 hh ms1 hR lh ⟨hn,hlt,v,mo,j,hj,hjv,rfl,rfl,rfl,hO⟩;have hn':(vis++[j]).Nodup:=ib.2 ⟨hn,by simp,λa ha b hb e=>by simp at hb;subst hb;subst e;exact hjv ha⟩
  have hlt':∀x∈vis++[j],x<T.length:=λx hx=>by
   rcases bj.1 hx with h1|h1
   ·exact hlt x h1
   ·simp at h1;omega
  have hlen:(vis.map (Jk T)).length<=1000000:=by have:=hn.length_le_of_subset (l₂:=range T.length) λx hx=>cm.2 (hlt x hx);simp at this ⊢;omega
  have ov:=hO.o1;refine Eh<|Be κ<|Ql Y AZ (Cell.blk0 0 Y Y)<|Qm Y<|Ay [_] Y AZ Bk Y (by rfl) Y Y ω Y Y Y<|λg10=>AJ 2 hO (RdL.one A8 (x:=Jk T j) Mh Y) Y AZ Bk Y ω Y Y Y BT (by simp only[ab];omega) (by simp only[ab];omega) rfl rfl rfl<|λv2 mo2 hO2=>?_;have ov2:=hO2.o1;refine Bh 1 0 Y FA Y Y (by assumption) Y Y (by(simp;done)) rfl rfl ?_;refine An<|Ai<|AQ ?_;refine AI [] ⟨hn',hlt',v2,mo2,Y,?_⟩ ej;rw[List.map_append];exact hO2
 ·intro D vis hh ms1 hfin lh ⟨hn,hlt,v,mo,e,hO⟩;subst e;have ov:=hO.o1;refine Ai<|Ab<|Ar<|Ql Y AZ (Cell.blk0 0 Y Y)<|Qm Y<|Am<|Aj<|AQ<|FI 1 (.inr Y) Y ?_;exact Al Y Y (⟨lh,vis,mo,Y,hfin,hO⟩)
theorem Q6(g1 gT:Nat)(m:Hp)(T:List (Int×Int))(bs:List Nat)(h:Hp)(hG:Seg h [] ⟨g1,0,none⟩ [.map (some gT)])(O:CF kN WD gT Cd m T bs)(hm:m.le h)(hT:T.length<=1000000) :
  FnT Tryz.prog 196 #[.func (.func 198) #[] #[.pt g1]] h [] (λr h' ms'=>h.le h'/\∃(vis:List Nat) (mo:Hp),ms'=[mo]/\vis.Perm (range T.length)/\OwnL cI 1 3 mo r (vis.map (Jk T))):=by
 refine Ap func196 ntmps196 Y Y<|λw0 hw0=>?_;simp only[AR];refine Ar<|Qm Y<|Bp<|Qm Y<|Qc call235 Y (Nh g1 gT m T bs h hG O hm hT)<|λx h2 ms2 l2 hF=>?_;obtain⟨l2',vis,mo,rfl,hp,hO⟩:=hF;have ov:=hO.o1;refine Qm Y<|Am<|Aj ?_;exact Al Y Y (⟨l2,vis,mo,Y,hp,hO⟩)
theorem Ti(g1 gT:Nat)(m:Hp)(T:List (Int×Int))(bs:List Nat)(h:Hp)(hG:Seg h [] ⟨g1,0,none⟩ [.map (some gT)])(O:CF kN WD gT Cd m T bs)(hm:m.le h)(hT:T.length<=1000000) :
  FnT Tryz.prog 157 #[.func (.func 198) #[] #[.pt g1]] h [] (λr h' ms'=>h.le h'/\∃(ks:List Int) (mo:Hp),ms'=[mo]/\OwnL cI 1 3 mo r ks/\ks.Perm (T.map Prod.fst)/\ks.Pairwise (·<=·)):=by
 refine Ap func157 ntmps157 Y Y<|λw0 hw0=>?_;simp only[AR];refine Ar<|Qm Y<|Bp<|Qm Y<|Qc call196 Y (Q6 g1 gT m T bs h hG O hm hT)<|λx h2 ms2 l2 hF=>?_;obtain⟨l2',vis,mo,rfl,hp,hO⟩:=hF;have hlen:(vis.map (Jk T)).length<=1000000:=by rw[List.length_map,hp.length_eq,List.length_range];exact hT
 refine Qm Y<|Bp<|Qm Y<|AC (pre:=[mo]) Y call197 Y (Ach _ x mo hO ω h2) Y Y Y Y<|λy h3 ms3 l3 hF=>?_;obtain⟨rfl,mo2,rfl,hO2⟩:=hF;have ov:=hO2.o1;refine Bp<|Qm Y<|Qm Y<|Am<|Aj ?_;exact Al Y Y (⟨l2,_,mo2,Y,hO2,(Jt _).trans (by show List.Perm _ (T.map Prod.fst);rw[<-ZX];exact hp.map _),Pp _⟩)
end
end Go.Proofs.Q