/- A part of the proof. -/
import Derived.Test.YtmgaeedkcecckaaGreatDoorPE
import Derived.Sort.OwnSortedInts
set_option linter.unusedSimpArgs false
set_option linter.unusedVariables false
set_option linter.unusedSectionVars false
set_option maxRecDepth 100000
set_option maxHeartbeats 4000000

open List (length_singleton replicate range length_append nil_append cons_append append_nil)
namespace Go.Proofs.Q
open Go.Proofs.Tryz
open Go.Eng Go.RowKit
section
open Go.Lin Go.Wd
def IS(a b:Nat):Int:=if a=b then 1 else 0
theorem Acm(n:Nat)(hn:n<=200)(h:Hp):FnT Tryz.prog 180 #[.int .i64 n] h [] (λv h' ms'=>h.le h'/\Rm v ms' n n (DV n n IS)):=by
 have hnn:n*n<=40000:=ff hn hn;refine Ao func180 ntmps180 Y Y (λw0 hw0=>?_);simp only[AS];refine As (BY [.w 0,.w 0,.nl] Y BM Y Y (λg2=>Bw (Qm Y (Qm Y (Qc call89 Y (J0 n n hn hn h) (λz h2 ms2 l2 hF=>?_))))));obtain⟨rfl,ev,m,rfl,rfl,hO⟩:=hF;have oe:=hO.o1;refine BY [.w 0,.w 0,.nl] Y BM Y Y (λg3=>?_);refine Sa 0 [_,_,_] BM Y (by simp[oe]) ?_;refine An (AF λh3 l3 hS3=>?_);have e3:∀ms,Cell h3 ms ((⟨g3,0,none⟩:Addr).add 2) ev:=λms=>(hS3 2 _ Y).any;have e30:∀ms,Cell h3 ms ((⟨g3,0,none⟩:Addr).add 0) (.w n):=λms=>(hS3 0 _ Y).any;have gS3:∀ms,Seg h3 ms (⟨g3,0,none⟩:Addr) [.w n,.w n,ev]:=λms=>hS3.any;refine Ac (As (Qf EH Y (Ql Y U3 (e30 _) (Qm Y (An (Af ?_))))))
 refine AC (λq sl h' ms'=>∃(k:Nat) (mo:Hp),n-k=q/\sl=[(0,.w n),(2,.pt g2),(3,.pt g3),(9,.w n),(10,.w k)]/\h3=h'/\ms'=[mo,BL g2 91 [.w 0,.w 0,.nl]]/\k<=n/\OwnL Bl 2 33 mo ev (DV n n λa b=>if a<k then IS a b else 0)) (n-0) _ ⟨0,m,Y,Y,Y,Y,ω,by
  have:DV n n (λa b=>if a<0 then IS a b else 0)=replicate (n*n) 0:=by rw[Pn];exact C3 λa _ b _=>ab ω
  rw[this];exact hO⟩ Qs ?_
 rintro q sl h' ms' ⟨k,mo,rfl,rfl,rfl,rfl,hk,hO⟩;refine As (Qm Y (An (Ac ?_)));refine Ax Y (λhlt=>?_) (λhlt=>?_)
 ·have hkn:k<n:=ω
  have hix:k*n+k<n*n:=Nq hkn hkn;have hcast:(k:Int)*n=((k*n:Nat):Int):=(fq k n).symm;have reo:Rd h3 [mo] ev 2 (n*n) ((DV n n λa b=>if a<k then IS a b else 0).flatMap Bl):=by have:=(hO.rd (h:=h3) (ms:=[mo]) Mh).rd;rwa [Ci]at this
  have os1:(sv (A8 (1:Int).natAbs)).oneCell'=true:=rfl;refine Ah (Ab (Ac (Af (As (Qm Y (Qm Y (An (AU (n:=10) (bs:=[ic,ic,ic,ic,ic,ic,ic,ic,ic,ie]) [ic,ic,ic,ic,ic,ic,ic,ic,ic] CK κ κ Y Y (QF F8 Y (QL Y CG (e3 _) (Qq Y (Qq Y (Qp Y (oM Y) (Qq Y (Qp Y (oA Y) (Qp Y (Au Y call95 Y (GL 1 δ _ _)) (Qp Y (Bc (k*n+k) reo Y CG Ay Y Y ω ω) ?_)))))))))))))))));unfold Do;simp only[bj,aw];refine Qo 9 Y ?_;refine EG 0 (k*n+k) (1:Int) hO Y Ay Y Y Y (EY _) Y (by rw[Ci];exact hix) Y Y (λmo' hO'=>?_);refine Qw (Qe ?_);rw[OQ _ hkn]at hO'
  have hL:DV n n (Pd (λa b=>if a<k then IS a b else 0) k k 1)=DV n n λa b=>if a<k+1 then IS a b else 0:=C3 λa _ b _=>by
   show(if a=k/\b=k then(1:Int) else if a<k then(if a=b then 1 else 0) else 0)=if a<k+1 then(if a=b then 1 else 0) else 0
   (repeat' split)<;>first|rfl|omega
  rw[hL]at hO';refine Ai (Ab (Ad (Qx (oA Y) Y (Qm Y (Am ?_)))));exact Ap (n-(k+1)) _ ω ⟨k+1,mo',Y,Y,Y,Y,ω,hO'⟩ Qs
 ·have hkn:k=n:=ω
  subst hkn;have hL:(DV k k λa b=>if a<k then IS a b else 0)=DV k k IS:=C3 λa ha b _=>af ha;rw[hL]at hO;refine AA (Aa (Aa (Ag (Ab (As (Qx (oG Y HQ BM (gS3 _)) Y ?_))))));refine Sa 1 [_,_,_] BM Y (by simp[oe]) ?_;refine An (Aj ?_);exact Bx (vs:=[_,_,_]) 1 Y Y HQ Y BM Y Y (⟨l3,ev,mo,Y,Y,hO⟩)
def Abp(c:Nat)(ev:Value)(k:Nat):List Value:=[.int .i64 k,Dg 2 ev (k*c) ((k+1)*c)]
theorem N7(g r c:Nat)(ev:Value)(f:Nat->Nat->Int)(hr:r<=200)(hc:c<=200)(h:Hp)(hG:Seg h [] ⟨g,0,none⟩ [.int .i64 r,.int .i64 c,ev])(hR:RdL Bl 2 h [] ev (DV r c f)):Itr Tryz.prog 234 [.pointer (some ⟨g,0,none⟩)] h r (Abp c ev):=by
 intro lp X h1 ms hl hY h0;show FnT _ _ #[.func (.yield lp) #[] #[],.pt g] _ _ _;have hG:=hG.le hl;have hR:=hR.up hl
 have rR:∀h',h1.le h'->Rd h' [] ev 2 (r*c) ((DV r c f).flatMap Bl):=λh' l=>by
  have:=(hR.up l).rd
  rwa [Ci]at this
 have e0:∀h',h1.le h'->∀ms,Cell h' ms ((⟨g,0,none⟩:Addr).add 0) (.w r):=λh' l ms=>((hG 0 _ Y).any).le l;have e1:∀h',h1.le h'->∀ms,Cell h' ms ((⟨g,0,none⟩:Addr).add 1) (.w c):=λh' l ms=>((hG 1 _ Y).any).le l;have e2:∀h',h1.le h'->∀ms,Cell h' ms ((⟨g,0,none⟩:Addr).add 2) ev:=λh' l ms=>((hG 2 _ Y).any).le l;refine Ao func234 ntmps234 Y Y (λw0 hw0=>?_);simp only[AS];refine Ac (By (BW (oF EH Y) Y Y Y (BW (oL Y U3 (e0 _ (BD) _)) Y Y Y (BW (Ar Y Y) Y Y Y (CS (Ab (Af ?_)))))))
 refine AC (λq s hh ms'=>∃(k:Nat),q=r-k/\s=[(0,.func (.yield lp) #[] #[]),(1,.pt g),(5,.w r),(6,.w k)]/\h1.le hh/\k<=r/\X k hh ms')
  (r-0) _ ⟨0,rfl,rfl,BD,ω,h0⟩ Qs ?_
 rintro q s hh ms' ⟨k,rfl,rfl,lh,hk,hX⟩;refine Ac (By (BW (DB Y Y Y) Y Y Y (CS (Ab (Ac ?_)))));refine Ax Y (λhlt=>?_) (λhlt=>?_)
 ·have hkr:k<r:=ω
  have d1:(k+1)*c=k*c+c:=by rw[db,fk]
  have c1:(k+1)*c<=r*c:=dw c hkr;have c2:r*c<=200*200:=ff hr hc;have d3:((k:Int)+1)*c=k*c+c:=by rw[Int.add_mul,fy]
  have hYk:=hY k hh ms' hkr lh hX;unfold Abp at hYk;refine Ah (Ab (Ac (Af (Ac (By (BW (Ar Y Y) Y Y Y (BW (ID Y Y) Y Y Y (CS (Ab (Ac (By (BW (Ar Y Y) Y Y Y (BW (Ar Y Y) Y Y Y (BW (oF F8 Y) Y Y Y (BW (oL Y CG (e2 _ lh _)) Y Y Y (BW (Ar Y Y) Y Y Y (BW (oF Dq Y) Y Y Y (BW (oL Y U3 (e1 _ lh _)) Y Y Y (BW (oM Y) Y Y Y (BW (Ar Y Y) Y Y Y (BW (oA Y) Y Y Y (BW (oF Dq Y) Y Y Y (BW (oL Y U3 (e1 _ lh _)) Y Y Y (BW (oM Y) Y Y Y (BW (Ho (k*c) ((k+1)*c) (rR _ lh).any Y CG Ay Y Y Y ω ω ω ω) Y Y Y (Ko Y Y Y (hYk) Y Y Y (λr' h2 ms2 l2 hr'=>?_)))))))))))))))))))))))))));obtain⟨rfl,hX2⟩:=hr';refine BW (DQ Y Y) Y Y Y (CS (Ab (AN Y (Ah (Ai (Ab (By (BW (oA Y) Y Y Y (BW (Ar Y Y) Y Y Y (CS ?_))))))))));exact Ap (r-(k+1)) _ ω ⟨k+1,Y,Y,AD lh l2,ω,hX2⟩ Qs
 ·obtain rfl:k=r:=ω
  refine AA (Aa (Aa (Ag ?_)));exact CA Y (hX)
theorem UW(r c:Nat)(ev:Value)(n:Nat)(cs:List Value)(h:Hp)(hR:Rd h [] ev 2 n cs):FnT Tryz.prog 194 #[.agg #[.int .i64 r,.int .i64 c,ev]] h [] (λw h' ms'=>h=h'/\∃g,w=.func (.func 234) #[] #[.pointer (some ⟨g,0,none⟩)]/\ms'=[BL g 91 [.int .i64 r,.int .i64 c,ev]]):=by have o1:=hR.one;refine Ao func194 ntmps194 Y Y (λw0 hw0=>?_);simp only[AS];refine As (AK [_,_,_] Y Y (by rfl) Y Y Y (λg1=>Qm Y (Bw (Qx (BG Y Y Y) Y (Qm Y (An (Aj ?_)))))));exact Al Y Y (⟨Y,_,Y,Y⟩)
theorem AcS(va vb:Value)(r k c:Nat)(f g:Nat->Nat->Int)(h:Hp)(A:MW va h r k (DV r k f))(B:MW vb h k c (DV k c g))
  (hS:∀i j t,i<r->j<c->t<=k->Sz (sm t λq=>f i q*g q j)) (hF:∀i t,i<r->t<k->Sz (f i t)) (hG:∀t j,t<k->j<c->Sz (g t j)) (hP:∀i t j,i<r->t<k->j<c->Sz (f i t*g t j)) :
  FnT Tryz.prog 155 #[va,vb] h [] (λw h' ms'=>h.le h'/\∃v,w=.tuple #[v,.bool true]/\Rm v ms' r c (DV r c λa b=>sm k λq=>f a q*g q b)):=by
 have rl:=A.hr;have kl:=A.hc;have cl:=B.hc;have hrc:r*c<=200*200:=ff rl cl;obtain⟨ea,rfl,RA⟩:=A.ex;obtain⟨eb,rfl,RB⟩:=B.ex;have oa:=RA.rd.one;have ob:=RB.rd.one;refine E7 func155 ntmps155 Y Y (λw0 hw0=>?_);simp only[AS];refine As (AK [_,_,_] Y Y (by rfl) Y Y Y (λg2=>AK [_,_,_] Y Y (by rfl) Y Y Y (λg3=>BY [.w 0,.w 0,.nl] Y BM Y Y (λg4=>Qm Y (An (Aw 1 Y λh1 l1 hS3=>(Aw 1 Y λh2 l2 hS2=>?_)))))));have hS3:=hS3.le l2;have l12:=AD l1 l2;have A2:=A.up l12;have B2:=B.up l12;have RA2:=RA.up l12;have RB2:=RB.up l12;have sg2:∀ms,Seg h2 ms (⟨g2,0,none⟩:Addr) [.w r,.w k,ea]:=λms=>hS2.any;have sg3:∀ms,Seg h2 ms (⟨g3,0,none⟩:Addr) [.w k,.w c,eb]:=λms=>hS3.any;have c21:∀h',h2.le h'->∀ms,Cell h' ms ((⟨g2,0,none⟩:Addr).add 1) (.w k):=λh' l ms=>((hS2 1 _ Y).any).le l;have c20:∀h',h2.le h'->∀ms,Cell h' ms ((⟨g2,0,none⟩:Addr).add 0) (.w r):=λh' l ms=>((hS2 0 _ Y).any).le l;have c30:∀h',h2.le h'->∀ms,Cell h' ms ((⟨g3,0,none⟩:Addr).add 0) (.w k):=λh' l ms=>((hS3 0 _ Y).any).le l;have c31:∀h',h2.le h'->∀ms,Cell h' ms ((⟨g3,0,none⟩:Addr).add 1) (.w c):=λh' l ms=>((hS3 1 _ Y).any).le l;have sg3':∀h',h2.le h'->∀ms,Seg h' ms (⟨g3,0,none⟩:Addr) [.w k,.w c,eb]:=λh' l ms=>(hS3.le l).any;refine Ac (As (Qx (oG Y HQ BM (sg2 _)) Y (Qx (Au Y call146 Y (Iq _ r k _ h2 A2 _)) Y (Qm Y (Qm Y (Qg (oG Y HQ BM (sg3 _)) Y (Qg (Au Y call146 Y (Iq _ k c _ h2 B2 _)) Y (Qg (DQ Y Y) Y (Qm Y (Qm Y (Qg (oF Dq Y) Y (Qg (oL Y U3 (c21 _ (BD) _)) Y (Qg (oF EH Y) Y (Qg (oL Y U3 (c30 _ (BD) _)) Y (Qg (FC Y Y Y) Y (Qm Y (An (Ax Y (λhc=>ib hc ((λq=>q Y))) (λhc=>Ah (Ab (As (Qf EH Y (Ql Y U3 (c20 _ (BD) _) (Qf Dq Y (Ql Y U3 (c31 _ (BD) _) (Qc call89 Y (J0 r c rl cl h2) (λz h3 ms3 l3 hF=>?_)))))))))))))))))))))))))));obtain⟨rfl,ew,m,rfl,rfl,hO⟩:=hF;have ow:=hO.o1;refine BY [.w 0,.w 0,.nl] Y BM Y Y (λg6=>?_);refine Sa 0 [_,_,_] BM Y (by simp[oa,ob,ow]) ?_;refine An (AF λh3 l3 hS6=>?_);have c62:∀h',h3.le h'->∀ms,Cell h' ms ((⟨g6,0,none⟩:Addr).add 2) ew:=λh' l ms=>((hS6 2 _ Y).any).le l;have sg6:∀h',h3.le h'->∀ms,Seg h' ms (⟨g6,0,none⟩:Addr) [.w r,.w c,ew]:=λh' l ms=>(hS6.le l).any;refine Ac (As (Qx (oG Y HQ BM ((sg2 []).le l3 |>.any)) Y (Qc call194 Y (UW r k ea _ _ h3 (RA2.up l3).rd) (λzi h4 ms4 l4 hF=>?_))));obtain⟨rfl,ga,rfl,rfl⟩:=hF;refine An (Af (AF λh4 l4 hGa=>?_));have hI:=N7 ga r k ea f rl kl h4 hGa ((RA2.up l3).up l4);have l24:=AD l3 l4;refine FL (λi hh ms=>∃mo,ms=[mo,BL g4 91 [.w 0,.w 0,.nl]]/\OwnL Bl 2 33 mo ew (DV r c (JH k f g i 0 0))) (λi s1 hh ms=>∃g8 mo,s1=[(2,.pt g2),(3,.pt g3),(6,.pt g6),(7,.w i),(8,.pt g8)]/\ms=[BL g8 89 [Dg 2 ea (i*k) ((i+1)*k)],mo,BL g4 91 [.w 0,.w 0,.nl]]/\OwnL Bl 2 33 mo ew (DV r c (JH k f g i 0 0))) Y call234 hI (λk=>rfl) Y ?_ ?_ ?_ ?_
 ·exact⟨m,Y,by rw[C3 (g:=λ_ _=>0) (λa _ b _=>Z8 k f g a b),<-Pn];exact hO⟩
 ·rintro w1 i hh ms1 hir lh ⟨mo,rfl,hO⟩;rw[show Abp k ea i=[.w i,Dg 2 ea (i*k) ((i+1)*k)] from Y];have RAi:=(((RA2.up l3).up l4).up lh).rowF hir;have oai:=RAi.rd.one;refine Dm (Bg κ (Qm Y (Am (B0 (Bg κ (BY [.nl] Y Ec Y Y (λg8=>Bi 0 0 Y Ec Y Y (by assumption) Y Y δ Y Y (Am ?_))))))));exact AH _ ⟨g8,mo,Y,Y,hO⟩ Qs
 ·rintro w1 i s1 hh ms1 hir lh ⟨g8,mo,rfl,rfl,hO⟩;refine J4 λh5 l5 lg8 _ _=>?_;have hG8:=Seg.ofLe lg8;have l25:=AD l24 (AD lh l5);have l35:=AD l4 (AD lh l5);have d1:(i+1)*c=i*c+c:=by rw[db,fk]
  have c1:(i+1)*c<=r*c:=dw c hir;have d3:((i:Int)+1)*c=i*c+c:=by rw[Int.add_mul,fy]
  have row:=(hO.rd (h:=h5) (ms:=[mo]) Mh).rd;have elp:=Ci r c (JH k f g i 0 0);have RBh:=RB2.up l25;have orow:=((hO.rd (h:=h5) (ms:=[mo]) Mh).rowF hir).rd.one;refine Ef (Dm (Bg κ (Qf F8 Y (Ql Y CG (c62 _ l35 _) (Qm Y (Qf Dq Y (Ql Y U3 (c31 _ l25 _) (Qx (oM Y) Y (Qm Y (Qx (oA Y) Y (Qf Dq Y (Ql Y U3 (c31 _ l25 _) (Qx (oM Y) Y (Qx (OO (i*c) ((i+1)*c) row Y CG Ay Y Y Y ω ω ω ω) Y (BY [.nl] Y Ec Y Y (λg9=>Bi 0 0 Y Ec Y Y (by assumption) Y Y δ Y Y (Am (B0 (J4 λh6 l6 lg9 _ _=>?_)))))))))))))))))));have hG9:=Seg.ofLe lg9;have l26:=AD l25 l6;refine Dm (Bg κ (Qx (oG Y HQ BM (sg3' _ l26 _)) Y (Qc call194 Y (UW k c eb _ _ h6 (RBh.up l6).rd) (λzj h7 ms7 l7 hF=>?_))));obtain⟨rfl,gb,rfl,rfl⟩:=hF;refine Am (B0 (Ef (J4 λh7 l7 lgb _ _=>?_)));have l27:=AD l26 l7;have hI2:=N7 gb k c eb g kl cl h7 (Seg.ofLe lgb) (RB2.up l27);have RAi:=(RA2.up l27).rowF hir;have G8:∀h',h7.le h'->∀ms,Cell h' ms (⟨g8,0,none⟩:Addr) (Dg 2 ea (i*k) ((i+1)*k)):=λh' l ms=>((hG8.le (AD l6 (AD l7 l))).at0 Y).any;have G9:∀h',h7.le h'->∀ms,Cell h' ms (⟨g9,0,none⟩:Addr) (Dg 2 ew (i*c) ((i+1)*c)):=λh' l ms=>((hG9.le (AD l7 l)).at0 Y).any;refine PY (λt hh ms=>∃mo,ms=[mo,BL g4 91 [.w 0,.w 0,.nl]]/\OwnL Bl 2 33 mo ew (DV r c (JH k f g i t 0))) (λt s1 hh ms=>∃mo,s1=[(8,.pt g8),(9,.pt g9),(10,.w t),(11,Dg 2 eb (t*c) ((t+1)*c))]/\ms=[mo,BL g4 91 [.w 0,.w 0,.nl]]/\OwnL Bl 2 33 mo ew (DV r c (JH k f g i t 0))) Y call234 hI2 (λk=>rfl) Y ?_ ?_ ?_ ?_
  ·exact⟨mo,Y,hO⟩
  ·rintro w2 t hh2 ms2 htk lh2 ⟨mo,rfl,hO⟩;rw[show Abp c eb t=[.w t,Dg 2 eb (t*c) ((t+1)*c)] from Y];refine Dm (Bg κ (Qm Y (Am (B0 (Bg κ (Qm Y (Am ?_)))))));exact AH _ ⟨mo,Y,Y,hO⟩ Qs
  ·rintro w2 t s2 hh2 ms2 htk lh2 ⟨mo,rfl,rfl,hO⟩;have RAh:=RAi.up lh2;have RBt:=((RB2.up l27).up lh2).rowF htk;have rA:=RAh.rd;have rB:=RBt.rd;have ek:=B5 k (f i);have ec:=B5 c (g t);have obt:=RBt.rd.one;have sA:∀ms,Seg hh2 ms ((AI (Dg 2 ea (i*k) ((i+1)*k))).add (t*2)) (Bl (f i t)):=λms=>RAh.any.evF htk;have ost:(sv (A8 (f i t).natAbs)).oneCell'=true:=rfl;refine Ef (Dm (Dm (Bg κ (Ql Y CG (G8 _ lh2 _) (Qm Y (Qx (BR (t) rA.any Y CG Ay Y Y) Y (Qx (oG Y BC Ay (sA _)) Y (Qx (Au Y call195 Y (VK _ _ _)) Y (Am (B0 ?_))))))))));refine Mw Y (λhz=>?_) (λhz=>?_)
   ·refine VB (Aa (Ag ?_));exact AH [] ⟨mo,Y,by rw[<-C3 λa _ b _=>YG k f g i t a b hz];exact hO⟩ eo
   ·refine Hr (B0 (Dm (Bg κ (Qm Y (Qx (Aq rB.any Y CG Y) Y (Qm Y (Am (B0 (Ef ?_)))))))))
    refine AcA (λq s hh ms'=>∃(j:Nat) (mo:Hp),q=c-j/\s=[(8,.pt g8),(9,.pt g9),(10,.w t),(60,Dg 2 eb (t*c) ((t+1)*c)),(61,.w ((Dt c (g t)).length:Nat)),(62,.w j)]/\hh2.le hh/\ms'=[mo,BL g4 91 [.w 0,.w 0,.nl]]/\j<=c/\OwnL Bl 2 33 mo ew (DV r c (JH k f g i t j)))
     (c-0) _ ⟨0,mo,rfl,rfl,BD,rfl,ω,hO⟩ Qs ?_
    rintro q s hh3 ms' ⟨j,mo,rfl,rfl,lh3,rfl,hj,hO⟩;have RBt3:=RBt.up lh3;refine Dm (Bg κ (Qm Y (Am (B0 (Dm ?_)))));refine Mw Y (λhlt=>?_) (λhlt=>?_)
    ·have hjc:j<c:=ω
     have sB:∀ms,Seg hh3 ms ((AI (Dg 2 eb (t*c) ((t+1)*c))).add (j*2)) (Bl (g t j)):=λms=>RBt3.any.evF hjc;have osg:(sv (A8 (g t j).natAbs)).oneCell'=true:=rfl;refine Hr (B0 (Dm (Ef (Dm (Bg κ (Qm Y (Qx (BR (j) RBt3.rd.any Y CG Ay Y Y) Y (Qx (oG Y BC Ay (sB _)) Y (BY [.bool false,.es] Y Ay Y Y (λg13=>Qm Y ?_))))))))));refine Sa 0 [_,_] Ay Y (by simp[obt,ost,osg]) ?_;refine Am (B0 (J4 λh8 l8 lg13 _ _=>?_));have hG13:=Seg.ofLe lg13;have l38:=AD lh3 l8;refine Dm (Bg κ (Qx (oG Y BC Ay ((hG13.any:Seg _ _ _ (Bl (g t j))))) Y (Qx (Au Y call195 Y (VK _ _ _)) Y (Qx (Dx (DQ Y Y) (ao Value.bool decide_not.symm)) Y (Am (B0 ?_))))));refine Mw Y (λhy=>?_) (λhy=>?_)
     ·have hix:=Nq hir hjc;have elq:=Ci r c (JH k f g i t j)
      have sO:∀h ms,mo∈ms->Seg h ms ((AI ew).add ((i*c+j)*2)) (Bl (sm t λq=>f i q*g q j)):=λh ms hm=>by
       have:=(hO.rd (h:=h) (ms:=ms) hm).entF hir hjc
       rwa [UD]at this
      have eva:=Aaa (hO.rd (h:=h8) (ms:=[mo]) Mh) hir hjc;have rowO:=((hO.rd (h:=h8) (ms:=[mo]) Mh).rowF hir).rd;have evl:=B5 c (JH k f g i t j i);have sA8:∀ms,Seg h8 ms ((AI (Dg 2 ea (i*k) ((i+1)*k))).add (t*2)) (Bl (f i t)):=λms=>((RAh.up l38).any (ms:=ms)).evF htk;have osm:(sv (A8 (sm t λq=>f i q*g q j).natAbs)).oneCell'=true:=rfl;have osr:(sv (A8 (sm (t+1) λq=>f i q*g q j).natAbs)).oneCell'=true:=rfl;obtain⟨S,hSm⟩:∃S,(sm t λq=>f i q*g q j)=S:=⟨_,Y⟩
      have hSz:Sz S:=by rw[<-hSm];exact hS i j t hir hjc ω
      rw[hSm]at sO;have osS:(sv (A8 S.natAbs)).oneCell'=true:=rfl;have osP:(sv (A8 (S+f i t*g t j).natAbs)).oneCell'=true:=rfl;refine JW (n:=15) (bs:=[ic,ic,ic,ic,ic,ie,ic,ic,ic,ic,ic,ic,ie,ic,ie]) [ic,ic,ic,ic,ic,ie,ic,ic,ic,ic,ic,ic,ie,ic] CK κ κ Y Y κ (QL Y CG (G9 _ (AD lh2 l38) _) (Qq Y (QL Y CG (G9 _ (AD lh2 l38) _) (Qq Y (Qp Y (Bc (j) rowO Y CG Ay Y Y ω ω) (QL Y CG (G8 _ (AD lh2 l38) _) (Qq Y (Qp Y (AM (t) (RAh.up l38).rd.any Y CG Ay Y Y ω ω) (Qp Y (oG Y BC Ay (sA8 _)) (Qp Y (oG Y BC Ay ((hG13.any:Seg _ _ _ (Bl (g t j))))) (Qp Y (Au Y call141 Y (JN _ _ (hF i t hir htk) (hG t j htk hjc) _ _)) (Qp Y (Bc (j) rowO Y CG Ay Y Y ω ω) ?_))))))))))));unfold Do;simp only[bj,aw];refine Qo 5 Y ?_;refine Qx (oG Y BC Ay (by(rw[eva];exact sO _ _ Mh))) Y ?_;refine Qw (Qo 12 Y (Qx (Au Y call156 Y (N6 _ _ hSz (hP i t j hir htk hjc) _ _)) Y (Qw (Qo 14 Y ?_))));refine EG 0 (i*c+j) (S+f i t*g t j) hO Y Ay (by rw[eva];rfl) rfl rfl (EY _) rfl ω rfl rfl (λmo' hO'=>?_);refine Qw (Qe ?_);rw[OQ _ hjc,C3 λa _ b _=>Td k f g i t j a b _ (by rw[UD,hSm])]at hO';refine Ai (B0 (Bg κ (Qx (oA Y) Y (Qm Y (Am ?_)))));exact Ap (c-(j+1)) _ ω ⟨j+1,mo',Y,Y,l38,Y,ω,hO'⟩ Qs
     ·have hy0:g t j=0:=by simpa using hy
      refine Hr (Ai (B0 (Bg κ (Qx (oA Y) Y (Qm Y (Am ?_))))));exact Ap (c-(j+1)) _ ω ⟨j+1,mo,Y,Y,l38,Y,ω,by rw[<-C3 λa _ b _=>AaT k f g i t j a b (by rw[hy0,Int.mul_zero])];exact hO⟩ Qs
    ·have hjc:j=c:=ω
     subst hjc;refine VB (Aa (Aa (Ag (Ai ?_))));exact AH [] ⟨mo,Y,by rw[<-C3 λa _ b hb=>Yq k f g i t j a b hb];exact hO⟩ eo
  ·rintro h8 ms8 l8 ⟨mo,rfl,hO⟩;refine Ai (Ai ?_);exact AH [] ⟨mo,Y,by rw[<-C3 λa _ b _=>Acl k f g i a b];exact hO⟩ eo
 ·rintro D hh ms1 lh ⟨mo,rfl,hO⟩;refine Ai (Ab (As (Qx (oG Y HQ BM (sg6 _ (AD l4 lh) _)) Y ?_)));refine Sa 1 [_,_,_] BM Y (by simp[oa,ob,ow]) ?_;refine Qm Y (An (Aj (FQ 2 (.inr Y) Y ?_)));exact H7 (vs:=[_,_,_]) 1 Y Y Y HQ Y BM Y Y (⟨AD l12 (AD l24 lh),_,Y,ew,mo,Y,Y,by rw[<-C3 λa ha b _=>AcL k f g r a b ha];exact hO⟩)
theorem Vj(k:Nat)(x:Nat->Int):DV k 1 (λq _=>x q)=Dt k x:=by unfold DV Dt;rw[gw];exact gh λi _=>by rw[Nat.div_one]
theorem N2(va xv:Value)(r k:Nat)(f:Nat->Nat->Int)(x:Nat->Int)(h:Hp)(A:MW va h r k (DV r k f))(X:RdL Bl 2 h [] xv (Dt k x))
  (hS:∀i t,i<r->t<=k->Sz (sm t λq=>f i q*x q)) (hF:∀i t,i<r->t<k->Sz (f i t)) (hG:∀t,t<k->Sz (x t)) (hP:∀i t,i<r->t<k->Sz (f i t*x t)) :
  FnT Tryz.prog 101 #[va,xv] h [] (λw h' ms'=>h.le h'/\∃v m,w=.tuple #[v,.bool true]/\ms'=[m]/\OwnL Bl 2 33 m v (Dt r λi=>sm k λq=>f i q*x q)):=by
 have rl:=A.hr;have kl:=A.hc;have A0:=A;obtain⟨ea,rfl,RA⟩:=A.ex;have oa:=RA.rd.one;have ox:=X.rd.one;have rX:Rd h [] xv 2 k ((Dt k x).flatMap Bl):=by have:=X.rd;rwa [B5]at this
 obtain⟨xa,xc,rfl,_⟩:=rX.ex;refine Ao func101 ntmps101 Y Y (λw0 hw0=>?_);simp only[AS];refine As (AK [_,_,_] Y Y (by rfl) Y Y Y (λg2=>Qm Y (Qm Y (An (Aw 0 Y λh1 l1 hS2=>?_)))));have sg2:∀ms,Seg h1 ms (⟨g2,0,none⟩:Addr) [.w r,.w k,ea]:=λms=>hS2.any;have B:MW (.agg #[.w k,(.w ((1:Nat):Int)),.slice xa k xc]) h1 k 1 (DV k 1 λq _=>x q):=⟨kl,by decide,Ci _ _ _,_,Y,by rw[Vj];exact X.up l1⟩
 refine As (Qx (oG Y HQ BM (sg2 _)) Y (Qm Y (Qx (D3 (ty:=89) Y CG Y) Y (Qm Y (Qx (AP Ad9 [.w 0,.w 0,.nl] [(0,_),(1,_),(2,_)] [_,_,_] Y BM Y Y Qt Y) Y (Qc call155 Y (AcS _ _ r k 1 f (λq _=>x q) h1 (A0.up l1) B (λi j t hi _ ht=>hS i t hi ht) hF (λt j ht _=>hG t ht) (λi t j hi ht _=>hP i t hi ht)) (λz h2 ms2 l2 hF=>?_)))))));obtain⟨l2',v,rfl,ev,m,rfl,rfl,hO⟩:=hF;rw[Vj]at hO;have oe:=hO.o1;refine Qm Y (Qm Y (Qm Y (BY [.w 0,.w 0,.nl] Y BM Y Y (λg6=>?_))));refine Sa 0 [_,_,_] BM Y (by simp[oa,ox,oe]) ?_;refine Qm Y (Bw (Qf F8 Y (Ql Y CG (Cell.blk 0 Y Y) (Qm Y (Qm Y (Qm Y (An (Aj (AR ?_)))))))));exact Co Y Y Y (⟨AD l1 l2',ev,m,Y,Y,hO⟩)
variable {M:List (List Int)}
theorem NI(l:List Int)(v:Value)(h:Hp)(hR:RdL Bl 2 h [] v l)(hl:l.length<=1000000):FnT Tryz.prog 104 #[v] h [] (λx h' ms'=>h=h'/\∃m,ms'=[m]/\OwnL Bl 2 33 m x l):=by
 refine Ao func104 ntmps104 Y Y (λw0 hw0=>?_);simp only[AS];refine As (Qm Y (An (Ac (As (Qm Y (Qx (MY hR.rd.any Y CG Y Y) Y (An ?_)))))));refine Ct Y (λhn=>?_) (λhn=>?_)
 ·have h0:=KN hR.rd hn;obtain rfl:l=[]:=dh h0;refine As (Qm Y (An (Aj (Ae (Pv ?_)))));exact Al Y Y (⟨Y,_,Y,OwnL.nil Fh⟩)
 ·refine Ah (Ab (As ?_));refine AJ [] [] [] rfl CG Ay rfl ω κ (by repeat (first|exact eo|refine⟨⟨by first|rfl|exact(hR.rd.any).cells|exact Rd.cells ‹_›|exact(RdL.rd ‹_›).cells,rfl,rfl⟩,?_⟩)) rfl rfl rfl rfl (λg5=>?_);refine Qm rfl ?_;have hO:OwnL Bl 2 33 (BL g5 33 []) (.slice (some ⟨g5,0,none⟩) 0 0) []:=OwnL.blk (l:=([]:List Int)) 0 Fh rfl ω;refine AL 0 hO hR.any rfl CG Ay rfl ω rfl rfl rfl EY (by simp;omega) (by simp;omega) rfl rfl rfl (λv' m' hO'=>?_);refine Qm rfl (An (Aj ?_));exact Al rfl rfl (⟨rfl,m',rfl,hO'⟩)
theorem ZF(n:Nat)(hn:n<=1000000)(h:Hp):FnT Tryz.prog 251 #[.slice none 0 0,.int .i64 n] h [] (λx h' ms'=>h=h'/\∃m,ms'=[m]/\OwnL Bl 2 33 m x []):=by
 have hNil:RdL Bl 2 h [] (.nl) []:=⟨⟨⟨none,0,Y,ak _,by decide,Y,λh=>ib h δ⟩⟩,Fh⟩
 refine Ao func251 ntmps251 Y Y (λw0 hw0=>?_);simp only[AS];refine As (Qm Y (An (Ac (As (Qm Y (Qm Y (An ?_)))))));refine Ax Y (λh1=>?_) (λh1=>?_)
 ·exact ib h1 ω
 ·refine Ah (Ab (Ac (As (Qm Y (Qm Y (Qx (Z7 Y CG Y) Y (Qm Y (Qx (D3 (ty:=89) Y CG Y) Y (Qx (oS Y) Y (Qx (oS Y) Y (Qm Y (Bw (Qm Y (Qm Y (An ?_)))))))))))))));refine Ax Y (λh2=>?_) (λh2=>?_)
  ·refine B8 ?_;have hO:OwnL Bl 2 33 Hp.emp (.nl) []:=OwnL.nil Fh;have e13:((0:Nat):Int)-((0:Nat):Int)=0:=rfl;refine Ad (Qm Y (Qm Y (Qx (Z7 Y CG Y) Y (Qx (Eg _ hNil.rd.any Y CG Ay Y Y Y ω) Y (Qm Y ?_)))));refine Rg 0 (0:Int) hO Y CG U3 Ay Y δ (EY _) Y (by show some (Value.w ((n:Int)-(((0:Nat):Int)-((0:Nat):Int))))=_;rw[e13,Int.sub_zero]) rfl (by simp;omega) (by simp;omega) rfl rfl rfl (λv22 m22 hO22=>?_);have hP:=OwnL.pre hO22 (n:=0) (Nat.zero_le _);refine Qm Y (Qx (D3 (ty:=89) Y CG Y) Y (Qx (Eg 0 (hO22.rd (h:=h) (ms:=[m22]) Mh).rd Y CG Ay Y Y Y ω) Y (Qm Y (Bw (Qm Y (Qm Y (An (Aj ?_))))))));exact Al Y Y (⟨Y,_,Y,hP⟩)
  ·refine Ah (Ab (As (Qm Y (Qm Y (An (Aj (Pv ?_)))))));exact Al Y Y (⟨Y,_,Y,OwnL.nil Fh⟩)
structure GrR(hv:Value)(h:Hp)(vs:List Value)(M:List (List Int)):Prop where
 hd:RdL cU 1 h [] hv vs
 len:vs.length=M.length
 row:∀i (h1:i<vs.length) (h2:i<M.length),RdL Bl 2 h [] vs[i] M[i]
theorem SI{c:Nat}(h:∀l∈M,l.length=c):M.flatten.length=M.length*c:=by
 induction M with
 | nil=>simp
 | cons l M ih=>rw[List.flatten_cons,ag,ih λx hx=>h x (List.mem_cons_of_mem _ hx),h l (List.mem_cons_self),List.length_cons,db];omega
theorem GI{k:Nat}(h:k<M.length):(M.take (k+1)).flatten=(M.take k).flatten++M[k]:=by rw[am h,List.flatten_append];simp
theorem Nm(k:Nat):(M.take k).flatten.length<=M.flatten.length:=by
 conv=>rhs;rw[<-dp k M,List.flatten_append,ag]
 omega
theorem Um(hv:Value)(vs:List Value)(M:List (List Int))(h:Hp)(G:GrR hv h vs M)(hn:M.length<=1000)(ht:M.flatten.length<=1000000):FnT Tryz.prog 232 #[hv] h [] (λx h' ms'=>h=h'/\∃m,ms'=[m]/\OwnL Bl 2 33 m x M.flatten):=by
 obtain⟨n,hn'⟩:∃n,M.length=n:=⟨_,Y⟩
 have hvn:vs.length=n:=by rw[G.len,hn']
 have rH:Rd h [] hv 1 n (vs.flatMap cU):=by have:=G.hd.rd;rwa [hvn]at this
 have oh:=rH.one;refine Ao func232 ntmps232 Y Y (λw0 hw0=>?_);simp only[AS];refine As (Qm Y (Bw (Qm Y (An (Ac (As (Qm Y (Qx (Aq rH.any Y Acg Y) Y (Qm Y (An (Af ?_)))))))))));refine AC (λq s h' ms'=>∃(k:Nat),q=n-k/\s=[(0,hv),(3,.w ((M.take k).flatten.length:Nat)),(9,hv),(10,.w (n:Int)),(11,.w k)]/\h=h'/\ms'=[]/\k<=n) (n-0) _ ⟨0,Y,Y,Y,Y,ω⟩ Qs ?_;rintro q s h' ms' ⟨k,rfl,rfl,rfl,rfl,hk⟩;refine As (Qm Y (An (Ac ?_)));refine Ax Y (λhlt=>?_) (λhlt=>?_)
 ·have hkn:k<n:=ω
  have hkv:k<vs.length:=ω
  have hkM:k<M.length:=ω
  have cV:∀ms,Cell h ms ((AI hv).add (k*1)) vs[k]:=λms=>(G.hd.any (ms:=ms)).cell0 hkv Y;have rK:=(G.row k hkv hkM).rd;have oK:=rK.one;have hst:=ao List.length (GI hkM);rw[ag]at hst;have hle:=Nm (M:=M) (k+1);refine Ah (Ab (Ac (Af (As (Qx (BR (k) rH.any Y Acg Ec Y Y) Y (Ql Y CG (cV _) (Qm Y (Bw (Qm Y (Qm Y (Qx (Aq rK.any Y CG Y) Y (Qx (oA Y) Y (Qm Y (Bw (Qm Y (Qm Y (An (Ax Y (λhc=>ib hc (ω)) (λhc=>Ah (Ai (Ab (Ad (Qx (oA Y) Y (Qm Y (Am ?_)))))))))))))))))))))))));exact Ap (n-(k+1)) [(0,hv),(3,.w (((M.take k).flatten.length:Nat)+(M[k].length:Nat))),(9,hv),(10,.w (n:Int)),(11,.w ((k:Int)+1))] ω ⟨k+1,Y,by rw[hst];rfl,rfl,rfl,ω⟩ Qs
 ·obtain rfl:k=n:=ω
  have hall:M.take k=M:=f5 ω;rw[hall];refine AA (Aa (Aa (Ag (Ab (As (Qm Y (Qc call251 Y (ZF M.flatten.length ht h) (λz h2 ms2 l2 hF=>?_))))))));obtain⟨rfl,m,rfl,hO⟩:=hF;have oz:=hO.o1;refine Qm Y (An (Ac (As (Qm Y (Qx (Aq rH.any Y Acg Y) Y (Qm Y (An (Af ?_))))))));refine AC (λq s h' ms'=>∃(j:Nat) (v:Value) (mo:Hp),q=k-j/\s=[(6,v),(25,hv),(26,.w (k:Int)),(27,.w j)]/\h=h'/\ms'=[mo]/\j<=k/\OwnL Bl 2 33 mo v (M.take j).flatten) (k-0) _ ⟨0,z,m,Y,Y,Y,Y,ω,hO⟩ Qs ?_;rintro q s h' ms' ⟨j,v,mo,rfl,rfl,rfl,rfl,hj,hO⟩;refine As (Qm Y (An (Ac ?_)));refine Ax Y (λhlt2=>?_) (λhlt2=>?_)
  ·have hkv:j<vs.length:=ω
   have hkM:j<M.length:=ω
   have cV:∀ms,Cell h ms ((AI hv).add (j*1)) vs[j]:=λms=>(G.hd.any (ms:=ms)).cell0 hkv Y;have rK:=(G.row j hkv hkM)
   have oK:=rK.rd.one;have hst:=GI hkM;have hle:=Nm (M:=M) (j+1);have hst':=ao List.length hst;rw[ag]at hst';have hb:(M.take j).flatten.length+M[j].length<=1000000:=by rw[<-hst'];exact bp hle ht
   clear hst' hle;generalize hLL:(M.take j).flatten=LL at *;refine Ah (Ab (Ac (Af (As (Qx (BR (j) rH.any Y Acg Ec Y Y) Y (Ql Y CG (cV _) (Qm Y (GM (Qm Y (Qm Y (AL 0 hO rK.any Y CG Ay Y ω Y Y Y EY ω ω Y Y Y (λv' m' hO'=>?_))))))))))));rw[<-hst]at hO';refine Qm Y (Am (Ai (Ab (Ad (Qx (oA Y) Y (Qm Y (Am ?_)))))));exact Ap (k-(j+1)) _ ω ⟨j+1,v',m',Y,Y,Y,Y,ω,hO'⟩ Qs
  ·obtain rfl:j=k:=ω
   rw[hall]at hO;refine AA (Aa (Aa (Ag (Ab (As (Qm Y (Qm Y (An (Aj ?_)))))))));exact Al Y Y (⟨Y,mo,Y,hO⟩)
end
section
open Go.Lin Go.Wd
theorem OwnL.repU{g:Nat}{el:TypeId}(n:Nat)(u:Value)(hn:n<=9223372036854775807):OwnL cU 1 el (BL g el (replicate n u)) (.slice (some ⟨g,0,none⟩) n n) (replicate n u):=by
 have e:replicate n u=(replicate n u).flatMap cU:=by
  clear hn
  induction n with
  | zero=>rfl
  | succ n ih=>rw[List.replicate_succ,List.flatMap_cons,<-ih];rfl
 conv=>arg 4;rw[e]
 exact OwnL.blk n GO σ hn
theorem Aaj{α:Type}(d:List α)(k:Nat)(x u:α):(d++replicate (k+1) u).set d.length x=(d++[x])++replicate k u:=by rw[List.set_append_right _ _ (ak _),Nat.sub_self,List.replicate_succ,List.set_cons_zero,di];rfl
theorem AcB(va:Value)(r c:Nat)(f:Nat->Nat->Int)(h:Hp)(A:MW va h r c (DV r c f)) :
  FnT Tryz.prog 181 #[va] h [] (λhv h' ms'=>h.le h'/\∃mr mh vs,ms'=[mh,mr]/\OwnL cU 1 89 mh hv vs/\VsO Bl 2 33 mr vs (BI r c f)):=by
 have hr:=A.hr;have hc:=A.hc;obtain⟨ea,rfl,RA⟩:=A.ex;have oa:=RA.rd.one;have hrc:r*c<=200*200:=ff hr hc;have elp:=Ci r c f;refine Ao func181 ntmps181 Y Y (λw0 hw0=>?_);simp only[AS];refine As (AK [_,_,_] Y Y (by rfl) Y Y Y (λg1=>Qm Y (An (Aw 0 Y λh1 l1 hS1=>?_))));have RA1:=RA.up l1;have c0:∀ms,Cell h1 ms ((⟨g1,0,none⟩:Addr).add 0) (.w r):=λms=>(hS1 0 _ Y).any;have c1:∀ms,Cell h1 ms ((⟨g1,0,none⟩:Addr).add 1) (.w c):=λms=>(hS1 1 _ Y).any;have c2:∀ms,Cell h1 ms ((⟨g1,0,none⟩:Addr).add 2) ea:=λms=>(hS1 2 _ Y).any;refine As (Qf EH Y (Ql Y U3 (c0 _) (FO (n:=r) Y CI Ec Y Y Y (by rfl) (by rfl) ω ω Y Y Y (λg7=>Qm Y (An (Ac (As (Qm Y (Qx (D3 (ty:=220) Y CI Y) Y (Qm Y (An (Af (B8 ?_)))))))))))))
 refine AC (λq sl h' ms'=>∃(k:Nat) (mr mh:Hp) (vs:List Value),q=r-k/\sl=[(1,.pt g1),(3,.slice (some ⟨g7,0,none⟩) r r),(9,.w r),(10,.w k)]/\h1=h'/\ms'=[mr,mh]/\k<=r/\vs.length=k/\OwnL cU 1 89 mh (.slice (some ⟨g7,0,none⟩) r r) (vs++replicate (r-k) (.nl))/\VsO Bl 2 33 mr vs ((BI r c f).take k))
  (r-0) _ ⟨0,Hp.emp,_,[],rfl,rfl,rfl,rfl,ω,rfl,OwnL.repU r _ ω,rfl⟩ Qs ?_
 rintro q sl h' ms' ⟨k,mr,mh,vs,rfl,rfl,rfl,rfl,hk,hvk,hO,hV⟩;refine As (Qm Y (An (Ac ?_)));refine Ax Y (λhlt=>?_) (λhlt=>?_)
 ·have hkr:k<r:=ω
  have d1:(k+1)*c=k*c+c:=by rw[db,fk]
  have d2:(k+1)*c<=r*c:=dw c hkr;have d3:((k:Int)+1)*c=k*c+c:=by rw[Int.add_mul,fy]
  have d4:(k:Int)*c=((k*c:Nat):Int):=(fq k c).symm;have hrow:=RA1.rowF hkr;have hvl:=B5 c (f k);refine Ah (Ab (Ac (Af (As (Qm Y (Qm Y (GM (Qm Y (Qm Y (Qf F8 Y (Ql Y CG (c2 _) (Qm Y (Qf Dq Y (Ql Y U3 (c1 _) (Qx (oM Y) Y (Qm Y (Qx (oA Y) Y (Qf Dq Y (Ql Y U3 (c1 _) (Qx (oM Y) Y (Qx (Ho (k*c) ((k+1)*c) RA1.rd.any Y CG Ay Y Y Y ω ω ω ω) Y (Qc call104 Y (NI (Dt c (f k)) _ h1 hrow ω) (λu h2 ms2 l2 hF=>?_)))))))))))))))))))))));obtain⟨rfl,mN,rfl,hN⟩:=hF;have ou:=hN.o1;have ouc:u.cells=(cU u).toArray:=(hN.rd (h:=h1) (ms:=[mN]) Mh).rd.cells;have hlen:(vs++replicate (r-k) (Value.nl)).length=r:=by rw[ag,List.length_replicate];omega
  have rH:=(hO.rd (h:=h1) (ms:=[mN,mr,mh]) (.tail _ (.tail _ (.head _)))).rd
  have hset:(vs++replicate (r-k) (Value.nl)).set k u=(vs++[u])++replicate (r-(k+1)) (Value.nl):=by rw[<-hvk,show r-vs.length=(r-(vs.length+1))+1 by omega,Aaj]
  refine Qx (Cw (k) Y CI Ec Y Y ω ω) Y ?_;refine EG 2 k u hO Y Ec Y Y ouc (λc hc=>by rw[bg.1 hc];exact ou) Y ω Y Y (λmh' hO'=>?_);rw[hset]at hO';refine Am (Ai (Ab (Ad (Qx (oA Y) Y (Qm Y (Am (G7 λhap=>?_)))))));have hap:[mN,mr,mh'].Pairwise Hp.disj:=hap;simp only[b6,bi,List.not_mem_nil,gu,forall_eq_or_imp,forall_eq]at hap;have hV':=VsO.snoc hN hV (Hp.disj_symm hap.1.1);have hrk:k<(BI r c f).length:=by rw[Dr];exact hkr
  have htk:(BI r c f).take k++[Dt c (f k)]=(BI r c f).take (k+1):=by rw[am hrk];congr 2;simp[BI]
  rw[htk]at hV';refine Ev 1 Y (IG ?_);exact Ap (r-(k+1)) _ ω ⟨k+1,_,mh',vs++[u],Y,Y,Y,Y,ω,by rw[ag,hvk];rfl,hO',hV'⟩ Qs
 ·obtain rfl:k=r:=ω
  rw[Nat.sub_self,List.replicate_zero,dx]at hO;rw[f5 (by rw[Dr];omega)]at hV;refine AA (Aa (Aa (Ag (Ab (As (Qm Y (Qm Y (An (Aj (Ev 1 Y ?_))))))))));exact Al Y Y (⟨l1,mr,mh,vs,Y,hO,hV⟩)
theorem LX(va:Value)(r c:Nat)(f:Nat->Nat->Int)(h:Hp)(A:MW va h r c (DV r c f)) :
  FnT Tryz.prog 181 #[va] h [] (λhv h' ms'=>h.le h'/\∃mr vs,ms'=[mr]/\RdL cU 1 h' [] hv vs/\vs.length=r/\VsO Bl 2 33 mr vs (BI r c f)):=
 FnT.frz (AcB va r c f h A) λhv h' ms' ⟨l,mr,mh,vs,e,O,V⟩=>⟨mh,[mr],e,λh2 l2 lm=>⟨AD l l2,mr,vs,rfl,O.rdh lm,by rw[V.len,Dr],V⟩⟩
theorem AaC(hv:Value)(vs:List Value)(M:List (List Int))(c:Nat)(h:Hp)(G:GrR hv h vs M)(hn:M.length<=1000)(ht:M.flatten.length<=1000000) :
  FnT Tryz.prog 187 #[hv,.w c] h [] (λw h' ms'=>h=h'/\∃ev m,ms'=[m]/\w=.agg #[.w M.length,.w c,ev]/\OwnL Bl 2 33 m ev M.flatten):=by
 have rH:Rd h [] hv 1 M.length (vs.flatMap cU):=by have:=G.hd.rd;rwa [G.len]at this
 have oh:=rH.one;refine Ao func187 ntmps187 Y Y (λw0 hw0=>?_);simp only[AS];refine As (BY [.w 0,.w 0,.nl] Y BM Y Y (λg4=>Bw (Qm Y (Qx (Aq rH.any Y CI Y) Y (Qm Y (Qm Y (Qc call232 Y (Um hv vs M h G hn ht) (λz h2 ms2 l2 hF=>?_))))))));obtain⟨rfl,m,rfl,hO⟩:=hF;have oz:=hO.o1;obtain⟨za,zc,rfl,_⟩:=(hO.rd (h:=h) (ms:=[m]) Mh).rd.ex;refine Qx (AP Ad9 [.w 0,.w 0,.nl] [(0,_),(1,_),(2,_)] [_,_,_] Y BM Y Y Qt Y) Y ?_;refine Sa 1 [_,_,_] BM Y (by simp[Value.oneCell']) ?_;refine An (Aj ?_);exact Bx (vs:=[_,_,_]) 1 Y Y HQ Y BM Y Y (⟨Y,_,m,Y,Y,hO⟩)
theorem J8(hv:Value)(vs:List Value)(M:List (List Int))(c:Nat)(h:Hp)(G:GrR hv h vs M)(hn:M.length<=1000)(ht:M.flatten.length<=1000000) :
  FnT Tryz.prog 187 #[hv,.w c] h [] (λw h' ms'=>h.le h'/\ms'=[]/\∃ev,w=.agg #[.w M.length,.w c,ev]/\RdL Bl 2 h' [] ev M.flatten):=
 FnT.frz (AaC hv vs M c h G hn ht) λw h' ms' ⟨l,ev,m,e,e2,O⟩=>⟨m,[],e,λh2 l2 lm=>⟨by rw[l];exact l2,Y,ev,e2,O.rdh lm⟩⟩
theorem Ew(n:Nat)(hn:n<=200)(h:Hp):FnT Tryz.prog 180 #[.int .i64 n] h [] (λv h' ms'=>h.le h'/\ms'=[]/\MW v h' n n (DV n n IS)):=
 FnT.frz (Acm n hn h) λv h' ms' ⟨l,ev,m,e,e2,O⟩=>⟨m,[],e,λh2 l2 lm=>⟨AD l l2,rfl,hn,hn,Ci _ _ _,ev,e2,O.rdh lm⟩⟩
open Go.Sm
set_option exponentiation.threshold 4000000 in
theorem Sz.of{B:Nat}{n:Int}(h:Bq B n)(hB:B<=3000000):Sz n:=by unfold Sz;rw[EV,BV δ];refine cj h ?_;rw[show(256:Nat)=2^8 from Y,<-Nat.pow_mul];exact Nat.pow_le_pow_right δ ω
theorem FF{h:Hp}{ms:List Hp}{p:Addr}{vs us:List Value}(S:Seg h ms p vs)(k:Nat)(hu:∀j v,us[j]?=some v->vs[k+j]?=some v):Seg h ms (p.add k) us:=λj v e=>by rw[BK];exact S (k+j) v (hu j v e)
def cT(t:Tn):List Value:=Bl t.a++Bl t.b++Bl t.c++Bl t.d
def TV(t:Tn):Value:=.agg (cT t).toArray
theorem OS(t:Tn)(x y:Int)(B:Nat)(ht:BqT t)(hx:Bq B x)(hy:Bq B y)(hB:B<=1000000)(h:Hp)(ms:List Hp):FnV Tryz.prog 250 #[TV t,WD x,WD y] h ms (.tuple #[WD (t.a*x+t.b*y),WD (t.c*x+t.d*y)]):=by
 refine Ea ?_ ms;obtain⟨a,b,c,d⟩:=t;obtain⟨ha,hb,hc,hd⟩:=ht;have S1a:=Sz.of ha δ;have Sb:=Sz.of hb δ;have Sc:=Sz.of hc δ;have Sd:=Sz.of hd δ;have Sx:=Sz.of hx ω;have Sy:=Sz.of hy ω;have Max:=Sz.of (ha.mul hx) ω;have Mby:=Sz.of (hb.mul hy) ω;have Mcx:=Sz.of (hc.mul hx) ω;have Mdy:=Sz.of (hd.mul hy) ω;have os:∀n:Int,(sv (A8 n.natAbs)).oneCell'=true:=λ_=>rfl;have o1:=os a;have o2:=os b;have o3:=os c;have o4:=os d;have o5:=os x;have o6:=os y;have o7:=os (a*x+b*y);have o8:=os (c*x+d*y)
 dsimp only at ha hb hc hd Max Mby Mcx Mdy S1a Sb Sc Sd ⊢
 show FnT _ _ #[.agg #[.bool (decide (a<0)),sv (A8 a.natAbs),.bool (decide (b<0)),sv (A8 b.natAbs),.bool (decide (c<0)),sv (A8 c.natAbs),.bool (decide (d<0)),sv (A8 d.natAbs)],WD x,WD y] _ _ _;refine Ao func250 ntmps250 rfl rfl (fun w0 hw0=>?_);simp only[AS];refine As (AK [_,_,_,_,_,_,_,_] rfl rfl (by rfl) rfl rfl rfl (fun g3=>AK [_,_] rfl rfl (by rfl) rfl rfl rfl (fun g4=>AK [_,_] rfl rfl (by rfl) rfl rfl rfl (fun g5=>BY [.bool false,.string ByteArray.empty] rfl Ay rfl rfl (fun g6=>BY [.bool false,.string ByteArray.empty] rfl Ay rfl rfl (fun g7=>An (Aw 2 rfl fun h1 l1 hS5=>(Aw 2 rfl fun h2 l2 hS4=>(Aw 2 rfl fun h3 l3 hS3=>?_)))))))));have S4:=hS4.le l3;have S5:=hS5.le (AD l2 l3);have S3:=hS3;have sa:∀ms,Seg h3 ms ((⟨g3,0,none⟩:Addr).add 0) (Bl a):=fun ms=>FF (Seg.any S3) 0 (fun j v e=>by match j,e with|0,e=>exact e|1,e=>exact e);have sb:∀ms,Seg h3 ms ((⟨g3,0,none⟩:Addr).add 2) (Bl b):=fun ms=>FF (Seg.any S3) 2 (fun j v e=>by match j,e with|0,e=>exact e|1,e=>exact e);have sc:∀ms,Seg h3 ms ((⟨g3,0,none⟩:Addr).add 4) (Bl c):=fun ms=>FF (Seg.any S3) 4 (fun j v e=>by match j,e with|0,e=>exact e|1,e=>exact e);have sd:∀ms,Seg h3 ms ((⟨g3,0,none⟩:Addr).add 6) (Bl d):=fun ms=>FF (Seg.any S3) 6 (fun j v e=>by match j,e with|0,e=>exact e|1,e=>exact e);have sx:∀ms,Seg h3 ms (⟨g4,0,none⟩:Addr) (Bl x):=fun ms=>S4.any;have sy:∀ms,Seg h3 ms (⟨g5,0,none⟩:Addr) (Bl y):=fun ms=>S5.any;refine Ac (AU (n:=20) (bs:=[true,true,true,true,true,true,true,true,true,true,true,true,true,true,true,true,true,true,false,false]) [true,true,true,true,true,true,true,true,true,true,true,true,true,true,true,true,true,true] CK (by kernel_rfl) (by kernel_rfl) rfl rfl (QF Lj rfl (Qp rfl (oG rfl BC Ay (sa _)) (Qp rfl (oG rfl BC Ay (sx _)) (Qp rfl (Au rfl call141 rfl (JN _ _ (by assumption) (by assumption) _ _)) (QF Lq rfl (Qp rfl (oG rfl BC Ay (sb _)) (Qp rfl (oG rfl BC Ay (sy _)) (Qp rfl (Au rfl call141 rfl (JN _ _ (by assumption) (by assumption) _ _)) (Qp rfl (Au rfl call156 rfl (N6 _ _ (by assumption) (by assumption) _ _)) (QF LF rfl (Qp rfl (oG rfl BC Ay (sc _)) (Qp rfl (oG rfl BC Ay (sx _)) (Qp rfl (Au rfl call141 rfl (JN _ _ (by assumption) (by assumption) _ _)) (QF Lw rfl (Qp rfl (oG rfl BC Ay (sd _)) (Qp rfl (oG rfl BC Ay (sy _)) (Qp rfl (Au rfl call141 rfl (JN _ _ (by assumption) (by assumption) _ _)) (Qp rfl (Au rfl call156 rfl (N6 _ _ (by assumption) (by assumption) _ _)) ?_)))))))))))))))))));unfold Do;simp only[cons_append,nil_append];refine Qo 18 rfl ?_;refine Sa 1 [_,_] Ay rfl (by simp[o1,o2,o3,o4,o5,o6,o7,o8]) ?_;refine Qw (Qo 19 rfl ?_);refine Sa 0 [_,_] Ay rfl (by simp[o1,o2,o3,o4,o5,o6,o7,o8]) ?_;refine Qw (Qe (Ab (Aj (Ev 1 rfl ?_))));exact ZP (vs:=[_,_]) (vs2:=[_,_]) rfl rfl rfl BC rfl Ay rfl rfl rfl
variable {h m:Hp} {vs:List Value} {n c i:Nat} {ms:List Hp} {el:TypeId} {M:List (List Int)}
theorem DF{e:Entry}{Q:Exit->Act->World->Prop}{ops:Array Oper}{rest:List Oper}{o:Oper}{s:AE}{t:TypeId}{x y:Operand}{z:Value}{bytes:Nat}(i j:Nat)(a:Int)(S:Shape n c M)(C:VsO Bl 2 el m vs M)(hi:i<n)(hj:j<c)(v:Value)(hv:vs[i]?=some v)(ho:o.op=.store t x y)(hs:Elem e.P t 2 z bytes)(hx:ev s x=some (.pointer (some ((AI v).add (j*2)))))(hy:ev s y=some (WD a))
  (hd:o.dst=none) (hg:o.guard=none)
  (K:∀m',VsO Bl 2 el m' vs (FN M i j a)->WL e ops Q rest s h (m'::ms)):WL e ops Q (o::rest) s h (m::ms):=by
 have hiM:i<M.length:=by rw[S.len];exact hi
 have hiv:i<vs.length:=by rw[C.len];exact hiM
 have e1:vs[i]=v:=by rw[ah hiv]at hv;exact ax hv
 have hr:=S.row i hi;have e2:M.getD i []=M[i]:=by simp[List.getD,hiM]
 rw[e2]at hr;refine UG i j a C hiv hiM (by rw[hr];exact hj) ho hs (by rw[e1];exact hx) hy Y (EY _) hd hg λm' C'=>K m' ?_;unfold FN;rw[e2];exact C'
theorem GF{j:Nat}(S:Shape n c M)(C:VsO Bl 2 el m vs M)(hm:m∈ms)(hi:i<n)(hj:j<c){v:Value}(hv:vs[i]?=some v):Seg h ms ((AI v).add (j*2)) (Bl (AO M i j)):=by
 have hiM:i<M.length:=by rw[S.len];exact hi
 have hiv:i<vs.length:=by rw[C.len];exact hiM
 have e1:vs[i]=v:=by rw[ah hiv]at hv;exact ax hv
 have hr:=S.row i hi;have e2:M.getD i []=M[i]:=by simp[List.getD,hiM]
 rw[e2]at hr;have R:=C.rd (h:=h) hm hiv hiM;rw[e1]at R;have hj2:j<M[i].length:=by rw[hr];exact hj
 have:=R.seg hj2;unfold AO;rw[e2];simpa[List.getD,hj2] using this
theorem Fi(S:Shape n c M)(C:VsO Bl 2 el m vs M)(hm:m∈ms)(hi:i<n){v:Value}(hv:vs[i]?=some v):∃cs,Rd h ms v 2 c cs:=by
 have hiM:i<M.length:=by rw[S.len];exact hi
 have hiv:i<vs.length:=by rw[C.len];exact hiM
 have e1:vs[i]=v:=by rw[ah hiv]at hv;exact ax hv
 have hr:=S.row i hi;have e2:M.getD i []=M[i]:=by simp[List.getD,hiM]
 rw[e2]at hr;have R:=(C.rd (h:=h) hm hiv hiM).rd;rw[e1,hr]at R;exact⟨_,R⟩
theorem He{hv:Value}(H:RdL cU 1 h [] hv vs)(hl:vs.length=n)(hi:i<n):∃v,vs[i]?=some v/\∀ms,Cell h ms ((AI hv).add (i*1)) v:=by
 have hiv:i<vs.length:=ω
 exact⟨vs[i],ah hiv,λms=>(H.any (ms:=ms)).cell0 hiv Y⟩
theorem ZQ(t:Tn)(ht:BqT t)(h:Hp)(ms:List Hp):FnV Tryz.prog 229 #[TV t] h ms (TV ⟨t.d,-t.b,-t.c,t.a⟩):=by
 refine Ea ?_ ms;obtain⟨a,b,c,d⟩:=t;obtain⟨ha,hb,hc,hd⟩:=ht;have Sb:=Sz.of hb δ;have Sc:=Sz.of hc δ;have os:∀n:Int,(sv (A8 n.natAbs)).oneCell'=true:=λ_=>rfl;have o1:=os a;have o2:=os (-b);have o3:=os (-c);have o4:=os d;have o5:=os b;have o6:=os c
 dsimp only at ha hb hc hd Sb Sc ⊢
 show FnT _ _ #[.agg #[.bool (decide (a<0)),sv (A8 a.natAbs),.bool (decide (b<0)),sv (A8 b.natAbs),.bool (decide (c<0)),sv (A8 c.natAbs),.bool (decide (d<0)),sv (A8 d.natAbs)]] _ _ _;refine Ao func229 ntmps229 Y Y (λw0 hw0=>?_);simp only[AS];refine As (AK [_,_,_,_,_,_,_,_] Y Y (by rfl) Y Y Y (λg1=>BY [.bool false,.es,.bool false,.es,.bool false,.es,.bool false,.es] Y DH Y Y (λg2=>An (Aw 1 Y λh1 l1 hS1=>?_))));have sa:∀ms,Seg h1 ms ((⟨g1,0,none⟩:Addr).add 0) (Bl a):=λms=>FF (Seg.any hS1) 0 (λj v e=>by match j,e with|0,e=>exact e|1,e=>exact e);have sb:∀ms,Seg h1 ms ((⟨g1,0,none⟩:Addr).add 2) (Bl b):=λms=>FF (Seg.any hS1) 2 (λj v e=>by match j,e with|0,e=>exact e|1,e=>exact e);have sc:∀ms,Seg h1 ms ((⟨g1,0,none⟩:Addr).add 4) (Bl c):=λms=>FF (Seg.any hS1) 4 (λj v e=>by match j,e with|0,e=>exact e|1,e=>exact e);have sd:∀ms,Seg h1 ms ((⟨g1,0,none⟩:Addr).add 6) (Bl d):=λms=>FF (Seg.any hS1) 6 (λj v e=>by match j,e with|0,e=>exact e|1,e=>exact e);refine Ac (AU (n:=12) (bs:=[ic,ic,ic,ic,ic,ic,ic,ic,ic,ic,ic,ie]) [ic,ic,ic,ic,ic,ic,ic,ic,ic,ic,ic] CK κ κ Y Y (QF Lw Y (Qp Y (oG Y BC Ay (sd _)) (QF Lq Y (Qp Y (oG Y BC Ay (sb _)) (Qp Y (Au Y call231 Y (Mn _ (by assumption) _ _)) (QF LF Y (Qp Y (oG Y BC Ay (sc _)) (Qp Y (Au Y call231 Y (Mn _ (by assumption) _ _)) (QF Lj Y (Qp Y (oG Y BC Ay (sa _)) (Qp Y (AP OJ [.bool false,.es,.bool false,.es,.bool false,.es,.bool false,.es] [(0,_),(2,_),(4,_),(6,_)] [_,_,_,_,_,_,_,_] Y DH Y Y Qt Y) ?_))))))))))));unfold Do;simp only[bj,aw];refine Qo 11 Y ?_;refine Sa 0 [_,_,_,_,_,_,_,_] DH Y (by simp[o1,o2,o3,o4,o5,o6]) ?_;refine Qw (Qe (Ab (Aj ?_)));exact Bx (vs:=[_,_,_,_,_,_,_,_]) 0 Y Y Lf Y DH Y Y (Y)
theorem Mj(hv:Value)(vs:List Value)(M:List (List Int))(n c i k B:Nat)(t:Tn)(h m:Hp)(H:RdL cU 1 h [] hv vs)(hl:vs.length=n)(hn:n<=1000)(hc:c<=1000)(S:Shape n c M)(hB:BqM B M)(ht:BqT t)(hB2:B<=900000)(hi:i<n)(hk:k<n)(hik:i≠k)(V:VsO Bl 2 33 m vs M) :
  FnT Tryz.prog 228 #[hv,.w i,.w k,TV t] h [m] (λ_ h' ms'=>h.le h'/\∃m',ms'=[m']/\VsO Bl 2 33 m' vs (Fv i k t M c)):=by
 obtain⟨a,b,cc,d⟩:=t;have os:∀n:Int,(sv (A8 n.natAbs)).oneCell'=true:=λ_=>rfl;have o1:=os a;have o2:=os b;have o3:=os cc;have o4:=os d;show FnT _ _ #[hv,.w i,.w k,.agg #[.bool (decide (a<0)),sv (A8 a.natAbs),.bool (decide (b<0)),sv (A8 b.natAbs),.bool (decide (cc<0)),sv (A8 cc.natAbs),.bool (decide (d<0)),sv (A8 d.natAbs)]] _ _ _;have rH:Rd h [] hv 1 n (vs.flatMap cU):=by have:=H.rd;rwa [hl]at this
 have oh:=rH.one;refine Ao func228 ntmps228 Y Y (λw0 hw0=>?_);simp only[AS];refine As (AK [_,_,_,_,_,_,_,_] Y Y (by rfl) Y Y Y (λg7=>An (Aw 0 Y λh1 l1 hS7=>?_)));have sT:∀ms,Seg h1 ms (⟨g7,0,none⟩:Addr) (cT ⟨a,b,cc,d⟩):=λms=>hS7.any;have H1:=H.up l1;have rH1:=rH.le l1;obtain⟨vi,evi,cvi⟩:=He H1 hl hi;obtain⟨vk,evk,cvk⟩:=He H1 hl hk;obtain⟨_,rI⟩:=Fi (h:=h1) (ms:=[m]) S V Mh hi evi;have oi:=rI.one;refine As (Qm Y (Qm Y (Qx (BR (i) rH1.any Y CI Ec Y Y) Y (Ql Y CG (cvi _) (Qx (Aq rI Y CG Y) Y (Qm Y (An (Af ?_))))))));refine AC (λq sl h' ms'=>∃(j:Nat) (mo:Hp),c-j=q/\sl=[(0,hv),(1,.w i),(2,.w k),(7,.pt g7),(13,.w c),(14,.w j)]/\h1=h'/\ms'=[mo]/\j<=c/\VsO Bl 2 33 mo vs (Fv i k ⟨a,b,cc,d⟩ M j)) (c-0) _ ⟨0,m,Y,Y,Y,Y,ω,V⟩ Qs ?_;rintro q sl h' ms' ⟨j,mo,rfl,rfl,rfl,rfl,hj,hV⟩;refine As (Qm Y (An (Ac ?_)));refine Ax Y (λhlt=>?_) (λhlt=>?_)
 ·have hjc:j<c:=ω
  have Sj:=S.rows i k ⟨a,b,cc,d⟩ j;obtain⟨_,rI⟩:=Fi (h:=h1) (ms:=[mo]) Sj hV Mh hi evi;obtain⟨_,rK⟩:=Fi (h:=h1) (ms:=[mo]) Sj hV Mh hk evk;have ok:=rK.one;have eI:AO (Fv i k ⟨a,b,cc,d⟩ M j) i j=AO M i j:=by rw[Gp S _ hi hk hik j ω,ab ω]
  have eK:AO (Fv i k ⟨a,b,cc,d⟩ M j) k j=AO M k j:=by rw[Gp S _ hi hk hik j ω,ab ω]
  have sI:∀h ms,mo∈ms->Seg h ms ((AI vi).add (j*2)) (Bl (AO M i j)):=λh ms hm=>by
   have:=GF (h:=h) Sj hV hm hi hjc evi
   rwa [eI]at this
  have sK:∀h ms,mo∈ms->Seg h ms ((AI vk).add (j*2)) (Bl (AO M k j)):=λh ms hm=>by
   have:=GF (h:=h) Sj hV hm hk hjc evk
   rwa [eK]at this
  have hst:Fv i k ⟨a,b,cc,d⟩ M (j+1)=FN (FN (Fv i k ⟨a,b,cc,d⟩ M j) i j (a*AO M i j+b*AO M k j)) k j (cc*AO M i j+d*AO M k j):=by show Iu _ _ _ _ _=_;unfold Iu;rw[eI,eK]
  have hbI:=hB i j;have hbK:=hB k j;generalize AO M i j=x at *;generalize AO M k j=y at *;have ox_:=os x;have oy_:=os y;have op1:=os (a*x+b*y);have op2:=os (cc*x+d*y);refine Ah (Ab ?_);refine Bt (λsl h' ms'=>∃mo',sl=[(0,hv),(1,.w i),(2,.w k),(7,.pt g7),(13,.w c),(14,.w j)]/\h1=h'/\ms'=[mo']/\VsO Bl 2 33 mo' vs (Fv i k ⟨a,b,cc,d⟩ M (j+1))) ?_ (λs h ms hI=>?_)
  ·refine Af (As (Qm Y (Qm Y (An (AU (n:=33) (bs:=[ic,ic,ic,ic,ic,ic,ic,ic,ic,ic,ic,ic,ic,ic,ic,ic,ic,ie,ic,ic,ic,ic,ic,ic,ie,ie,ie,ie,ie,ic,ie,ic,ie]) [ic,ic,ic,ic,ic,ic,ic,ic,ic,ic,ic,ic,ic,ic,ic,ic,ic,ie,ic,ic,ic,ic,ic,ic,ie,ie,ie,ie,ie,ic,ie,ic] CK κ κ Y Y (Qq Y (Qq Y (Qp Y (BR (i) rH1.any Y CI Ec Y Y) (QL Y CG (cvi _) (Qq Y (Qq Y (Qq Y (Qp Y (BR (k) rH1.any Y CI Ec Y Y) (QL Y CG (cvk _) (Qq Y (Qp Y (oG Y Lf DH (sT _)) (Qq Y (Qq Y (Qp Y (BR (i) rH1.any Y CI Ec Y Y) (QL Y CG (cvi _) (Qq Y (Qp Y (Bc (j) rI Y CG Ay Y Y ω ω) (Qq Y (Qq Y (Qp Y (BR (k) rH1.any Y CI Ec Y Y) (QL Y CG (cvk _) (Qq Y (Qp Y (Bc (j) rK Y CG Ay Y Y ω ω) (Qp Y (Bc (j) rI Y CG Ay Y Y ω ω) (Qp Y (Bc (j) rK Y CG Ay Y Y ω ω) ?_))))))))))))))))))))))))))))));unfold Do;simp only[bj,aw];refine AV [17,24] κ Y ?_;refine Av Y ?_ ?_
   ·refine Qx (oG Y BC Ay (sI _ _ Mh)) Y (Qw (Qo 24 Y (Qx (oG Y BC Ay (sK _ _ Mh)) Y (Qw (Qo 25 Y (Qx (Au Y call250 Y (OS ⟨a,b,cc,d⟩ x y B ht hbI hbK ω _ _)) Y (Qw (Bd 26 17 κ Y (BD) Y (Ar Y Y) (Bd 27 44 κ Y (BD) Y (Bz Y Y Y) (Bd 28 45 κ Y (BD) Y (Bz Y Y Y) (Qo 30 Y (DF i j (a*x+b*y) Sj hV hi hjc vi evi Y Ay Y Y Y Y (λm1 hV1=>Qw (Qo 32 Y (DF k j (cc*x+d*y) (Sj.set _ _ _) hV1 hk hjc vk evk Y Ay Y Y Y Y (λm2 hV2=>Qw (Qe ?_)))))))))))))))));exact Ai (AH _ ⟨m2,Y,Y,Y,by rw[hst];exact hV2⟩ Qs)
   refine Av Y ?_ ?_
   ·refine Qx (oG Y BC Ay (sK _ _ Mh)) Y (Qw (Qo 17 Y (Qx (oG Y BC Ay (sI _ _ Mh)) Y (Qw (Qo 25 Y (Qx (Au Y call250 Y (OS ⟨a,b,cc,d⟩ x y B ht hbI hbK ω _ _)) Y (Qw (Bd 26 17 κ Y (BD) Y (Ar Y Y) (Bd 27 44 κ Y (BD) Y (Bz Y Y Y) (Bd 28 45 κ Y (BD) Y (Bz Y Y Y) (Qo 30 Y (DF i j (a*x+b*y) Sj hV hi hjc vi evi Y Ay Y Y Y Y (λm1 hV1=>Qw (Qo 32 Y (DF k j (cc*x+d*y) (Sj.set _ _ _) hV1 hk hjc vk evk Y Ay Y Y Y Y (λm2 hV2=>Qw (Qe ?_)))))))))))))))));exact Ai (AH _ ⟨m2,Y,Y,Y,by rw[hst];exact hV2⟩ Qs)
   exact AW
  ·obtain⟨mo',rfl,rfl,rfl,hV'⟩:=hI;refine Ad (Qx (oA Y) Y (Qm Y (Am ?_)));exact Ap (c-(j+1)) _ ω ⟨j+1,mo',Y,Y,Y,Y,ω,hV'⟩ Qs
 ·obtain rfl:j=c:=ω
  refine AA (Aa (Aa (Ag ?_)));exact CA Y (⟨l1,mo,Y,hV⟩)
end
section
open Go.Lin Go.Wd Go.Sm
theorem L9(hv:Value)(vs:List Value)(M:List (List Int))(n c i k B:Nat)(t:Tn)(h m:Hp)(H:RdL cU 1 h [] hv vs)(hl:vs.length=n)(hn:n<=1000)(hc:c<=1000)(S:Shape n c M)(hB:BqM B M)(ht:BqT t)(hB2:B<=900000)(hi:i<c)(hk:k<c)(hik:i≠k)(V:VsO Bl 2 33 m vs M) :
  FnT Tryz.prog 230 #[hv,.w i,.w k,TV t] h [m] (λ_ h' ms'=>h.le h'/\∃m',ms'=[m']/\VsO Bl 2 33 m' vs (Ft i k t M n)):=by
 obtain⟨a,b,cc,d⟩:=t;have os:∀n:Int,(sv (A8 n.natAbs)).oneCell'=true:=λ_=>rfl;have o1:=os a;have o2:=os b;have o3:=os cc;have o4:=os d;show FnT _ _ #[hv,.w i,.w k,.agg #[.bool (decide (a<0)),sv (A8 a.natAbs),.bool (decide (b<0)),sv (A8 b.natAbs),.bool (decide (cc<0)),sv (A8 cc.natAbs),.bool (decide (d<0)),sv (A8 d.natAbs)]] _ _ _;have rH:Rd h [] hv 1 n (vs.flatMap cU):=by have:=H.rd;rwa [hl]at this
 have oh:=rH.one;refine Ao func230 ntmps230 Y Y (λw0 hw0=>?_);simp only[AS];refine As (AK [_,_,_,_,_,_,_,_] Y Y (by rfl) Y Y Y (λg7=>An (Aw 0 Y λh1 l1 hS7=>?_)));have sT:∀ms,Seg h1 ms (⟨g7,0,none⟩:Addr) (cT ⟨a,b,cc,d⟩):=λms=>hS7.any;have H1:=H.up l1;have rH1:=rH.le l1;refine As (Qm Y (Qx (Aq rH1.any Y CI Y) Y (Qm Y (An (Af ?_)))));refine AC (λq sl h' ms'=>∃(j:Nat) (mo:Hp),n-j=q/\sl=[(0,hv),(1,.w i),(2,.w k),(7,.pt g7),(10,.w n),(11,.w j)]/\h1=h'/\ms'=[mo]/\j<=n/\VsO Bl 2 33 mo vs (Ft i k ⟨a,b,cc,d⟩ M j)) (n-0) _ ⟨0,m,Y,Y,Y,Y,ω,V⟩ Qs ?_;rintro q sl h' ms' ⟨j,mo,rfl,rfl,rfl,rfl,hj,hV⟩;refine As (Qm Y (An (Ac ?_)));refine Ax Y (λhlt=>?_) (λhlt=>?_)
 ·have hjc:j<n:=ω
  have Sj:=S.cols i k ⟨a,b,cc,d⟩ j;obtain⟨vj,evj,cvj⟩:=He H1 hl hjc;obtain⟨_,rI⟩:=Fi (h:=h1) (ms:=[mo]) Sj hV Mh hjc evj;have ok:=rI.one;have eI:AO (Ft i k ⟨a,b,cc,d⟩ M j) j i=AO M j i:=by rw[F7 S _ hi hk hik j ω,ab ω]
  have eK:AO (Ft i k ⟨a,b,cc,d⟩ M j) j k=AO M j k:=by rw[F7 S _ hi hk hik j ω,ab ω]
  have sI:∀h ms,mo∈ms->Seg h ms ((AI vj).add (i*2)) (Bl (AO M j i)):=λh ms hm=>by
   have:=GF (h:=h) Sj hV hm hjc hi evj
   rwa [eI]at this
  have sK:∀h ms,mo∈ms->Seg h ms ((AI vj).add (k*2)) (Bl (AO M j k)):=λh ms hm=>by
   have:=GF (h:=h) Sj hV hm hjc hk evj
   rwa [eK]at this
  have hst:Ft i k ⟨a,b,cc,d⟩ M (j+1)=FN (FN (Ft i k ⟨a,b,cc,d⟩ M j) j i (a*AO M j i+b*AO M j k)) j k (cc*AO M j i+d*AO M j k):=by show I7 _ _ _ _ _=_;unfold I7;rw[eI,eK]
  have hbI:=hB j i;have hbK:=hB j k;generalize AO M j i=x at *;generalize AO M j k=y at *;have ox_:=os x;have oy_:=os y;have op1:=os (a*x+b*y);have op2:=os (cc*x+d*y);refine Ah (Ab ?_);refine Bt (λsl h' ms'=>∃mo',sl=[(0,hv),(1,.w i),(2,.w k),(7,.pt g7),(10,.w n),(11,.w j)]/\h1=h'/\ms'=[mo']/\VsO Bl 2 33 mo' vs (Ft i k ⟨a,b,cc,d⟩ M (j+1))) ?_ (λs h ms hI=>?_)
  ·refine Af (As (Qm Y (Qm Y (An (AU (n:=33) (bs:=[ic,ic,ic,ic,ic,ic,ic,ic,ic,ic,ic,ic,ic,ic,ic,ic,ic,ie,ic,ic,ic,ic,ic,ic,ie,ie,ie,ie,ie,ic,ie,ic,ie]) [ic,ic,ic,ic,ic,ic,ic,ic,ic,ic,ic,ic,ic,ic,ic,ic,ic,ie,ic,ic,ic,ic,ic,ic,ie,ie,ie,ie,ie,ic,ie,ic] CK κ κ Y Y (Qq Y (Qq Y (Qp Y (BR (j) rH1.any Y CI Ec Y Y) (QL Y CG (cvj _) (Qq Y (Qq Y (Qq Y (Qp Y (BR (j) rH1.any Y CI Ec Y Y) (QL Y CG (cvj _) (Qq Y (Qp Y (oG Y Lf DH (sT _)) (Qq Y (Qq Y (Qp Y (BR (j) rH1.any Y CI Ec Y Y) (QL Y CG (cvj _) (Qq Y (Qp Y (Bc (i) rI Y CG Ay Y Y ω ω) (Qq Y (Qq Y (Qp Y (BR (j) rH1.any Y CI Ec Y Y) (QL Y CG (cvj _) (Qq Y (Qp Y (Bc (k) rI Y CG Ay Y Y ω ω) (Qp Y (Bc (i) rI Y CG Ay Y Y ω ω) (Qp Y (Bc (k) rI Y CG Ay Y Y ω ω) ?_))))))))))))))))))))))))))))));unfold Do;simp only[bj,aw];refine AV [17,24] κ Y ?_;refine Av Y ?_ ?_
   ·refine Qx (oG Y BC Ay (sI _ _ Mh)) Y (Qw (Qo 24 Y (Qx (oG Y BC Ay (sK _ _ Mh)) Y (Qw (Qo 25 Y (Qx (Au Y call250 Y (OS ⟨a,b,cc,d⟩ x y B ht hbI hbK ω _ _)) Y (Qw (Bd 26 14 κ Y (BD) Y (Ar Y Y) (Bd 27 41 κ Y (BD) Y (Bz Y Y Y) (Bd 28 42 κ Y (BD) Y (Bz Y Y Y) (Qo 30 Y (DF j i (a*x+b*y) Sj hV hjc hi vj evj Y Ay Y Y Y Y (λm1 hV1=>Qw (Qo 32 Y (DF j k (cc*x+d*y) (Sj.set _ _ _) hV1 hjc hk vj evj Y Ay Y Y Y Y (λm2 hV2=>Qw (Qe ?_)))))))))))))))));exact Ai (AH _ ⟨m2,Y,Y,Y,by rw[hst];exact hV2⟩ Qs)
   refine Av Y ?_ ?_
   ·refine Qx (oG Y BC Ay (sK _ _ Mh)) Y (Qw (Qo 17 Y (Qx (oG Y BC Ay (sI _ _ Mh)) Y (Qw (Qo 25 Y (Qx (Au Y call250 Y (OS ⟨a,b,cc,d⟩ x y B ht hbI hbK ω _ _)) Y (Qw (Bd 26 14 κ Y (BD) Y (Ar Y Y) (Bd 27 41 κ Y (BD) Y (Bz Y Y Y) (Bd 28 42 κ Y (BD) Y (Bz Y Y Y) (Qo 30 Y (DF j i (a*x+b*y) Sj hV hjc hi vj evj Y Ay Y Y Y Y (λm1 hV1=>Qw (Qo 32 Y (DF j k (cc*x+d*y) (Sj.set _ _ _) hV1 hjc hk vj evj Y Ay Y Y Y Y (λm2 hV2=>Qw (Qe ?_)))))))))))))))));exact Ai (AH _ ⟨m2,Y,Y,Y,by rw[hst];exact hV2⟩ Qs)
   exact AW
  ·obtain⟨mo',rfl,rfl,rfl,hV'⟩:=hI;refine Ad (Qx (oA Y) Y (Qm Y (Am ?_)));exact Ap (n-(j+1)) _ ω ⟨j+1,mo',Y,Y,Y,Y,ω,hV'⟩ Qs
 ·obtain rfl:j=n:=ω
  refine AA (Aa (Aa (Ag ?_)));exact CA Y (⟨l1,mo,Y,hV⟩)
structure Wk where
 (g n m:Nat)
 (hu hui hd hv hvi:Value)
 (vu vui vd vv vvi:List Value)
structure Wk.In(k:Wk)(h:Hp):Prop where
 seg:Seg h [] ⟨k.g,0,none⟩ [k.hu,k.hui,k.hd,k.hv,k.hvi,.w k.n,.w k.m]
 hn:k.n<=200
 hm:k.m<=200
 ru:RdL cU 1 h [] k.hu k.vu
 rui:RdL cU 1 h [] k.hui k.vui
 rd:RdL cU 1 h [] k.hd k.vd
 rv:RdL cU 1 h [] k.hv k.vv
 rvi:RdL cU 1 h [] k.hvi k.vvi
 lu:k.vu.length=k.n
 lui:k.vui.length=k.n
 ld:k.vd.length=k.n
 lv:k.vv.length=k.m
 lvi:k.vvi.length=k.m
theorem Wk.In.le{k:Wk}{h h':Hp}(I:k.In h)(l:h.le h'):k.In h':=
 ⟨I.seg.le l,I.hn,I.hm,I.ru.up l,I.rui.up l,I.rd.up l,I.rv.up l,I.rvi.up l,I.lu,I.lui,I.ld,I.lv,I.lvi⟩
def FsO(k:Wk)(S:FS)(ms:List Hp):Prop:=∃mu mui md mv mvi,ms=[mu,mui,md,mv,mvi]/\VsO Bl 2 33 mu k.vu S.u/\VsO Bl 2 33 mui k.vui S.ui/\VsO Bl 2 33 md k.vd S.d/\VsO Bl 2 33 mv k.vv S.v/\VsO Bl 2 33 mvi k.vvi S.vi
theorem QT(k:Wk)(S:FS)(i j B:Nat)(t:Tn)(h:Hp)(ms:List Hp)(I:k.In h)(hO:S.Ok k.n k.m B)(ht:BqT t)(hB:B<=800000)(hi:i<k.n)(hj:j<k.n)(hij:i≠j)(F:FsO k S ms) :
  FnT Tryz.prog 185 #[.pointer (some ⟨k.g,0,none⟩),.w i,.w j,TV t] h ms (λ_ h' ms'=>h.le h'/\FsO k (S.rop k.n k.m i j t) ms'):=by
 obtain⟨mu,mui,md,mv,mvi,rfl,Vu,Vui,Vd,Vv,Vvi⟩:=F;have hn:=I.hn;have hm:=I.hm;have htb:=ht.back;have htk:=ht.bk;have hback:=λh ms=>ZQ t ht h ms;obtain⟨a,b,c,d⟩:=t;have os:∀n:Int,(sv (A8 n.natAbs)).oneCell'=true:=λ_=>rfl;have o1:=os a;have o2:=os b;have o3:=os c;have o4:=os d;have o5:=os (-b);have o6:=os (-c);show FnT _ _ #[.pointer (some ⟨k.g,0,none⟩),.w i,.w j,.agg #[.bool (decide (a<0)),sv (A8 a.natAbs),.bool (decide (b<0)),sv (A8 b.natAbs),.bool (decide (c<0)),sv (A8 c.natAbs),.bool (decide (d<0)),sv (A8 d.natAbs)]] _ _ _;refine Ao func185 ntmps185 Y Y (λw0 hw0=>?_);simp only[AS];refine As (AK [_,_,_,_,_,_,_,_] Y Y (by rfl) Y Y Y (λg7=>An (Aw 0 Y λh1 l1 hS7=>?_)));have I1:=I.le l1;have sT:∀h',h1.le h'->∀ms,Seg h' ms (⟨g7,0,none⟩:Addr) (cT ⟨a,b,c,d⟩):=λh' l ms=>Seg.any (hS7.le l);have cd_:∀h',h1.le h'->∀ms,Cell h' ms ((⟨k.g,0,none⟩:Addr).add 2) k.hd:=λh' l ms=>((I1.seg 2 _ Y).any).le l;have cu_:∀h',h1.le h'->∀ms,Cell h' ms ((⟨k.g,0,none⟩:Addr).add 0) k.hu:=λh' l ms=>((I1.seg 0 _ Y).any).le l;have cui_:∀h',h1.le h'->∀ms,Cell h' ms ((⟨k.g,0,none⟩:Addr).add 1) k.hui:=λh' l ms=>((I1.seg 1 _ Y).any).le l;have od:=I1.rd.rd.one;have ou:=I1.ru.rd.one;have oui:=I1.rui.rd.one;refine EI 2 Y (Ac (AU (n:=9) (bs:=[ic,ic,ic,ic,ic,ic,ic,ic,ie]) [ic,ic,ic,ic,ic,ic,ic,ic] CK κ κ Y Y (Qq Y (Qq Y (QF Cf Y (QF D9 Y (QL Y CI (cd_ _ (BD) _) (Qq Y (Qq Y (Qp Y (oG Y Lf DH (sT _ (BD) _)) ?_))))))))));unfold Do;simp only[bj,aw];refine Qo 8 Y (Az (pre:=[md]) Y call228 Y (Mj k.hd k.vd S.d k.n k.m i j B ⟨a,b,c,d⟩ h1 md I1.rd I1.ld ω ω hO.sd hO.bd ht ω hi hj hij Vd) Y Y Y Y (λz h2 ms2 l2 hF=>?_));obtain⟨l2',md',rfl,Vd'⟩:=hF;refine Qa (Qe (Ab (EI 1 Y (Ac (AU (n:=9) (bs:=[ic,ic,ic,ic,ic,ic,ic,ic,ie]) [ic,ic,ic,ic,ic,ic,ic,ic] CK κ κ Y Y (Qq Y (Qq Y (QF Cf Y (QF JT Y (QL Y CI (cu_ _ l2' _) (Qq Y (Qq Y (Qp Y (oG Y Lf DH (sT _ l2' _)) ?_)))))))))))));unfold Do;simp only[bj,aw];refine Qo 8 Y (Az (pre:=[mu]) Y call228 Y (Mj k.hu k.vu S.u k.n k.n i j B ⟨a,b,c,d⟩ h2 mu (I1.ru.up l2') I1.lu ω ω hO.su hO.bu ht ω hi hj hij Vu) Y Y Y Y (λz h3 ms3 l3 hF=>?_));obtain⟨l3',mu',rfl,Vu'⟩:=hF;refine Qa (Qe ?_);have l13:=AD l2' l3';refine Ab (As (Qx (oG Y Lf DH (sT _ l13 _)) Y (Qx (Au Y call229 Y (hback _ _)) Y (BY [.bool false,.es,.bool false,.es,.bool false,.es,.bool false,.es] Y DH Y Y (λg8=>?_)))));refine Sa 0 [_,_,_,_,_,_,_,_] DH Y (by simp[o1,o2,o3,o4,o5,o6,od,ou,oui]) ?_;refine An (AF λh4 l4 hS8=>?_);have l14:=AD l13 l4;have w0:∀ms,Seg h4 ms ((⟨g8,0,none⟩:Addr).add 0) (Bl d):=λms=>FF (Seg.any hS8) 0 (λj v e=>by match j,e with|0,e=>exact e|1,e=>exact e);have w1:∀ms,Seg h4 ms ((⟨g8,0,none⟩:Addr).add 2) (Bl (-b)):=λms=>FF (Seg.any hS8) 2 (λj v e=>by match j,e with|0,e=>exact e|1,e=>exact e);have w2:∀ms,Seg h4 ms ((⟨g8,0,none⟩:Addr).add 4) (Bl (-c)):=λms=>FF (Seg.any hS8) 4 (λj v e=>by match j,e with|0,e=>exact e|1,e=>exact e);have w3:∀ms,Seg h4 ms ((⟨g8,0,none⟩:Addr).add 6) (Bl a):=λms=>FF (Seg.any hS8) 6 (λj v e=>by match j,e with|0,e=>exact e|1,e=>exact e);refine EI 2 Y (AU (n:=17) (bs:=[ic,ic,ic,ic,ic,ic,ic,ic,ic,ic,ic,ic,ic,ic,ic,ic,ie]) [ic,ic,ic,ic,ic,ic,ic,ic,ic,ic,ic,ic,ic,ic,ic,ic] CK κ κ Y Y (Qq Y (Qq Y (QF Cf Y (QF Lr Y (QL Y CI (cui_ _ l14 _) (Qq Y (Qq Y (QF Lj Y (Qp Y (oG Y BC Ay (w0 _)) (QF LF Y (Qp Y (oG Y BC Ay (w2 _)) (QF Lq Y (Qp Y (oG Y BC Ay (w1 _)) (QF Lw Y (Qp Y (oG Y BC Ay (w3 _)) (Qp Y (AP OJ [.bool false,.es,.bool false,.es,.bool false,.es,.bool false,.es] [(0,_),(2,_),(4,_),(6,_)] [_,_,_,_,_,_,_,_] Y DH Y Y Qt Y) ?_)))))))))))))))));unfold Do;simp only[bj,aw];refine Qo 16 Y (Az (pre:=[mui]) Y call230 Y (L9 k.hui k.vui S.ui k.n k.n i j B ⟨d,-c,-b,a⟩ h4 mui (I1.rui.up l14) I1.lui ω ω hO.sui hO.bui htk ω hi hj hij Vui) Y Y Y Y (λz h5 ms5 l5 hF=>?_));obtain⟨l5',mui',rfl,Vui'⟩:=hF;refine Qa (Qe (Ev 1 Y ?_));exact CA Y (⟨AD l1 (AD l14 l5'),mu',mui',md',mv,mvi,Y,Vu',Vui',Vd',Vv,Vvi⟩)
theorem LY(k:Wk)(S:FS)(i j B:Nat)(t:Tn)(h:Hp)(ms:List Hp)(I:k.In h)(hO:S.Ok k.n k.m B)(ht:BqT t)(hB:B<=800000)(hi:i<k.m)(hj:j<k.m)(hij:i≠j)(F:FsO k S ms) :
  FnT Tryz.prog 226 #[.pointer (some ⟨k.g,0,none⟩),.w i,.w j,TV t] h ms (λ_ h' ms'=>h.le h'/\FsO k (S.cop k.n k.m i j t) ms'):=by
 obtain⟨mu,mui,md,mv,mvi,rfl,Vu,Vui,Vd,Vv,Vvi⟩:=F;have hn:=I.hn;have hm:=I.hm;have htb:=ht.back;have htk:=ht.bk;have hback:=λh ms=>ZQ t ht h ms;obtain⟨a,b,c,d⟩:=t;have os:∀n:Int,(sv (A8 n.natAbs)).oneCell'=true:=λ_=>rfl;have o1:=os a;have o2:=os b;have o3:=os c;have o4:=os d;have o5:=os (-b);have o6:=os (-c);show FnT _ _ #[.pointer (some ⟨k.g,0,none⟩),.w i,.w j,.agg #[.bool (decide (a<0)),sv (A8 a.natAbs),.bool (decide (b<0)),sv (A8 b.natAbs),.bool (decide (c<0)),sv (A8 c.natAbs),.bool (decide (d<0)),sv (A8 d.natAbs)]] _ _ _;refine Ao func226 ntmps226 Y Y (λw0 hw0=>?_);simp only[AS];refine As (AK [_,_,_,_,_,_,_,_] Y Y (by rfl) Y Y Y (λg7=>An (Aw 0 Y λh1 l1 hS7=>?_)));have I1:=I.le l1;have sT:∀h',h1.le h'->∀ms,Seg h' ms (⟨g7,0,none⟩:Addr) (cT ⟨a,b,c,d⟩):=λh' l ms=>Seg.any (hS7.le l);have cd_:∀h',h1.le h'->∀ms,Cell h' ms ((⟨k.g,0,none⟩:Addr).add 2) k.hd:=λh' l ms=>((I1.seg 2 _ Y).any).le l;have cu_:∀h',h1.le h'->∀ms,Cell h' ms ((⟨k.g,0,none⟩:Addr).add 3) k.hv:=λh' l ms=>((I1.seg 3 _ Y).any).le l;have cui_:∀h',h1.le h'->∀ms,Cell h' ms ((⟨k.g,0,none⟩:Addr).add 4) k.hvi:=λh' l ms=>((I1.seg 4 _ Y).any).le l;have od:=I1.rd.rd.one;have ou:=I1.rv.rd.one;have oui:=I1.rvi.rd.one;refine EI 2 Y (Ac (AU (n:=9) (bs:=[ic,ic,ic,ic,ic,ic,ic,ic,ie]) [ic,ic,ic,ic,ic,ic,ic,ic] CK κ κ Y Y (Qq Y (Qq Y (QF Cf Y (QF D9 Y (QL Y CI (cd_ _ (BD) _) (Qq Y (Qq Y (Qp Y (oG Y Lf DH (sT _ (BD) _)) ?_))))))))));unfold Do;simp only[bj,aw];refine Qo 8 Y (Az (pre:=[md]) Y call230 Y (L9 k.hd k.vd S.d k.n k.m i j B ⟨a,b,c,d⟩ h1 md I1.rd I1.ld ω ω hO.sd hO.bd ht ω hi hj hij Vd) Y Y Y Y (λz h2 ms2 l2 hF=>?_));obtain⟨l2',md',rfl,Vd'⟩:=hF;refine Qa (Qe (Ab (EI 3 Y (Ac (AU (n:=9) (bs:=[ic,ic,ic,ic,ic,ic,ic,ic,ie]) [ic,ic,ic,ic,ic,ic,ic,ic] CK κ κ Y Y (Qq Y (Qq Y (QF Cf Y (QF VV Y (QL Y CI (cu_ _ l2' _) (Qq Y (Qq Y (Qp Y (oG Y Lf DH (sT _ l2' _)) ?_)))))))))))));unfold Do;simp only[bj,aw];refine Qo 8 Y (Az (pre:=[mv]) Y call230 Y (L9 k.hv k.vv S.v k.m k.m i j B ⟨a,b,c,d⟩ h2 mv (I1.rv.up l2') I1.lv ω ω hO.sv hO.bv ht ω hi hj hij Vv) Y Y Y Y (λz h3 ms3 l3 hF=>?_));obtain⟨l3',mv',rfl,Vv'⟩:=hF;refine Qa (Qe ?_);have l13:=AD l2' l3';refine Ab (As (Qx (oG Y Lf DH (sT _ l13 _)) Y (Qx (Au Y call229 Y (hback _ _)) Y (BY [.bool false,.es,.bool false,.es,.bool false,.es,.bool false,.es] Y DH Y Y (λg8=>?_)))));refine Sa 0 [_,_,_,_,_,_,_,_] DH Y (by simp[o1,o2,o3,o4,o5,o6,od,ou,oui]) ?_;refine An (AF λh4 l4 hS8=>?_);have l14:=AD l13 l4;have w0:∀ms,Seg h4 ms ((⟨g8,0,none⟩:Addr).add 0) (Bl d):=λms=>FF (Seg.any hS8) 0 (λj v e=>by match j,e with|0,e=>exact e|1,e=>exact e);have w1:∀ms,Seg h4 ms ((⟨g8,0,none⟩:Addr).add 2) (Bl (-b)):=λms=>FF (Seg.any hS8) 2 (λj v e=>by match j,e with|0,e=>exact e|1,e=>exact e);have w2:∀ms,Seg h4 ms ((⟨g8,0,none⟩:Addr).add 4) (Bl (-c)):=λms=>FF (Seg.any hS8) 4 (λj v e=>by match j,e with|0,e=>exact e|1,e=>exact e);have w3:∀ms,Seg h4 ms ((⟨g8,0,none⟩:Addr).add 6) (Bl a):=λms=>FF (Seg.any hS8) 6 (λj v e=>by match j,e with|0,e=>exact e|1,e=>exact e);refine EI 4 Y (AU (n:=17) (bs:=[ic,ic,ic,ic,ic,ic,ic,ic,ic,ic,ic,ic,ic,ic,ic,ic,ie]) [ic,ic,ic,ic,ic,ic,ic,ic,ic,ic,ic,ic,ic,ic,ic,ic] CK κ κ Y Y (Qq Y (Qq Y (QF Cf Y (QF U0 Y (QL Y CI (cui_ _ l14 _) (Qq Y (Qq Y (QF Lj Y (Qp Y (oG Y BC Ay (w0 _)) (QF LF Y (Qp Y (oG Y BC Ay (w2 _)) (QF Lq Y (Qp Y (oG Y BC Ay (w1 _)) (QF Lw Y (Qp Y (oG Y BC Ay (w3 _)) (Qp Y (AP OJ [.bool false,.es,.bool false,.es,.bool false,.es,.bool false,.es] [(0,_),(2,_),(4,_),(6,_)] [_,_,_,_,_,_,_,_] Y DH Y Y Qt Y) ?_)))))))))))))))));unfold Do;simp only[bj,aw];refine Qo 16 Y (Az (pre:=[mvi]) Y call228 Y (Mj k.hvi k.vvi S.vi k.m k.m i j B ⟨d,-c,-b,a⟩ h4 mvi (I1.rvi.up l14) I1.lvi ω ω hO.svi hO.bvi htk ω hi hj hij Vvi) Y Y Y Y (λz h5 ms5 l5 hF=>?_));obtain⟨l5',mvi',rfl,Vvi'⟩:=hF;refine Qa (Qe (Ev 1 Y (Ev 2 Y (Ev 4 Y (Ev 4 Y ?_)))));exact CA Y (⟨AD l1 (AD l14 l5'),mu,mui,md',mv',mvi',Y,Vu,Vui,Vd',Vv',Vvi'⟩)
variable {x:Int}
theorem LW(h:¬WV x=false):x.natAbs<2147483648:=by
 unfold WV at h;cases hb:Nat.blt x.natAbs 2147483648 with
 | true=>rwa [Nat.blt_eq]at hb
 | false=>exact ib hb h
theorem GB(h:x.natAbs<2147483648):Sz x:=Sz.of (B:=31) h δ
theorem Qh{y:Int}(hy:y.natAbs<2147483648):(y/x).natAbs<4294967296:=by
 have h1:(y/x).natAbs<=y.natAbs+1:=by
  by_cases hx:x=0
  ·subst hx;rw[Int.ediv_zero];simp
  ·obtain⟨h1,_⟩:=JM (a:=y) (b:=x) (m:=y.natAbs) (k:=x.natAbs) hx Y Y;have h2:=Nat.div_le_self y.natAbs x.natAbs;rw[h1];split<;>omega
 omega
theorem bq_one:Bq 32 1:=show(1:Int).natAbs<2^32 by decide
theorem Ik{a b:Int}(hb:b≠0):(a%b).natAbs<=b.natAbs:=by obtain⟨_,_,h3,_⟩:=JM (a:=a) (b:=b) (m:=a.natAbs) (k:=b.natAbs) hb Y Y;have:=Nat.mod_lt a.natAbs (show 0<b.natAbs by omega);rw[h3];split<;>omega
theorem Wy(k:Wk)(s s':St)(i j:Nat)(x y:Int)(r:Bool)(h:Hp)(ms:List Hp)(I:k.In h)(hO:s.S.Ok k.n k.m (33*s.b+33))(hc:QM (λT=>s.row k.n k.m i j T) x y s=some (s',r))(hi:i<k.n)(hj:j<k.n)(hij:i≠j)(F:FsO k s.S ms) :
  s'.S.Ok k.n k.m (33*s'.b+33)/\FnT Tryz.prog 227 #[WD x,WD y,.w i,.w j,.func (.func 185) #[.pointer (some ⟨k.g,0,none⟩)] #[]] h ms (λv h' ms'=>h.le h'/\v=.bool r/\FsO k s'.S ms'):=by
 have hn:=I.hn;have hm:=I.hm;have os:∀n:Int,(sv (A8 n.natAbs)).oneCell'=true:=λ_=>rfl;have ox_:=os x;have oy_:=os y;unfold QM at hc
 have hyz:y.natAbs<2147483648\/y=0:=by
  by_cases h0:y=0
  ·exact .inr h0
  ·rw[ab h0]at hc;split at hc
   ·cases hc
   ·rename_i h1;exact .inl (LW λq=>h1 (.inr (.inr q)))
 have hy31:y.natAbs<2147483648:=by rcases hyz with h|h;exact h;subst h;decide
 have Sy:=GB hy31;obtain⟨mu,mui,md,mv,mvi,rfl,Vu,Vui,Vd,Vv,Vvi⟩:=F;have F:FsO k s.S [mu,mui,md,mv,mvi]:=⟨mu,mui,md,mv,mvi,Y,Vu,Vui,Vd,Vv,Vvi⟩
 have fin:∀(T:Tn),BqT T->s.row k.n k.m i j T=some s'->s.b<20000/\s'.S=s.S.rop k.n k.m i j T/\s'.S.Ok k.n k.m (33*s'.b+33):=λT hT e=>by
  unfold St.row at e;split at e
  ·rename_i hb;rw[Nat.blt_eq]at hb;have e:=ax e;subst e;exact⟨hb,Y,by have:=hO.rop hT hi hj hij;rw[show 33*(s.b+1)+33=33*s.b+33+33 by omega];exact this⟩
  ·cases e
 by_cases h0:y=0
 ·rw[af h0]at hc;obtain⟨rfl,rfl⟩:s=s'/\false=r:=by simpa using hc
  refine⟨hO,?_⟩;subst h0;refine Ao func227 ntmps227 Y Y (λw0 hw0=>?_);simp only[AS];refine As (AK [_,_] Y Y (by rfl) Y Y Y (λg5=>AK [_,_] Y Y (by rfl) Y Y Y (λg6=>Qm Y (An (Aw 0 Y λh1 l1 hS6=>?_)))));have s6:∀ms,Seg h1 ms (⟨g6,0,none⟩:Addr) (Bl 0):=λms=>Seg.any hS6;refine Ac (As (Qx (oG Y BC Ay (s6 _)) Y (Qx (Au Y call60 Y (Ey 0 Sy _ _)) Y (Qm Y (An ?_)))));refine Ax Y (λhc=>?_) (λhc=>ib (Y) hc);refine As (Qm Y (An (Aj (Ae (AR ?_)))));exact Al Y Y (⟨l1,Y,F⟩)
 ·rw[ab h0]at hc;by_cases h1:x=0\/WV x=false\/WV y=false
  ·rw[af h1]at hc;cases hc
  ·rw[ab h1]at hc;have hx0:x≠0:=λq=>h1 (.inl q);have hx31:=LW λq=>h1 (.inr (.inl q));have Sx:=GB hx31;have hyx:y.sign≠0:=λq=>h0 (Int.sign_eq_zero_iff_zero.1 q);have hq31:=Qh (x:=x) hy31;have Sq:Sz (y/x):=Sz.of (B:=32) hq31 δ;have hr0:=Int.emod_nonneg y hx0
   have hr1:(y%x).natAbs<2147483648:=by have:=Ik (a:=y) hx0;omega
   have Sr:=GB hr1;have o1:(sv (A8 1)).oneCell'=true:=rfl;have oq:=os (y/x);have or_:=os (y%x);have onq:=os (-(y/x));by_cases hd2:y%x=0
   ·rw[af hd2]at hc;obtain⟨s2,e2,e3⟩:=Option.map_eq_some_iff.1 hc;obtain⟨rfl,rfl⟩:s2=s'/\false=r:=by simpa using e3
    have hT:BqT ⟨1,0,-(y/x),1⟩:=⟨bq_one,Bq.zero _,Bq.neg hq31,bq_one⟩
    obtain⟨hb,hS,hOk⟩:=fin _ hT e2;refine⟨hOk,?_⟩;refine Ao func227 ntmps227 Y Y (λw0 hw0=>?_);simp only[AS];refine As (AK [_,_] Y Y (by rfl) Y Y Y (λg5=>AK [_,_] Y Y (by rfl) Y Y Y (λg6=>Qm Y (An (Aw 0 Y λh1 l1 hS6=>(Aw 0 Y λh2 l2 hS5=>?_))))));have hS6:=hS6.le l2;have l12:=AD l1 l2;have s5:∀h',h2.le h'->∀ms,Seg h' ms (⟨g5,0,none⟩:Addr) (Bl x):=λh' l ms=>Seg.any (hS5.le l);have s6:∀h',h2.le h'->∀ms,Seg h' ms (⟨g6,0,none⟩:Addr) (Bl y):=λh' l ms=>Seg.any (hS6.le l);refine Ac (As (Qx (oG Y BC Ay (s6 _ (BD) _)) Y (Qx (Au Y call60 Y (Ey y Sy _ _)) Y (Qm Y (An (Ax Y (λhc=>ib hc (hyx)) (λhc=>Ah (Ab (As (Qx (Au Y call95 Y (GL 1 δ _ _)) Y (BY [.bool false,.es] Y Ay Y Y (λg11=>?_))))))))))));refine Sa 0 [_,_] Ay Y (by simp[ox_,oy_,o1,oq,or_,onq]) ?_;refine An (Aw 0 Y λh3 l3 hS11=>?_);have l23:=l3;have s11:∀h',h3.le h'->∀ms,Seg h' ms (⟨g11,0,none⟩:Addr) (Bl 1):=λh' l ms=>Seg.any (hS11.le l);refine Ac (As (Qx (oG Y BC Ay (s6 _ l3 _)) Y (Qx (oG Y BC Ay (s5 _ l3 _)) Y (Qx (Au Y call100 Y (Oi y x Sy hx0 ω _ _)) Y (Qm Y (Qm Y (Qm Y (Qm Y (BY [.bool false,.es] Y Ay Y Y (λg12=>BY [.bool false,.es] Y Ay Y Y (λg13=>?_)))))))))));refine Sa 1 [_,_] Ay Y (by simp[ox_,oy_,o1,oq,or_,onq]) ?_;refine Sa 0 [_,_] Ay Y (by simp[ox_,oy_,o1,oq,or_,onq]) ?_;refine Qm Y (An (Aw 0 Y λh4 l4 hS13=>(Aw 0 Y λh5 l5 hS12=>?_)));have l35:=AD l4 l5;have l25:=AD l3 l35;have s12:∀ms,Seg h5 ms (⟨g12,0,none⟩:Addr) (Bl (y/x)):=λms=>Seg.any hS12;have s13:∀ms,Seg h5 ms (⟨g13,0,none⟩:Addr) (Bl (y%x)):=λms=>Seg.any (hS13.le l5);have hrz:(y%x).sign=0:=Int.sign_eq_zero_iff_zero.2 hd2;refine As (Qm Y (Qm Y (Qg (oG Y BC Ay (s13 _)) Y (Qg (Au Y call60 Y (Ey (y%x) Sr _ _)) Y (Qg (Ca Y Y Y) Y (Qm Y (An ?_)))))));refine Ax Y (λhc=>?_) (λhc=>ib (hrz) hc);have I5:=(I.le l12).le l25;refine Ac (AU (n:=10) (bs:=[ic,ic,ic,ic,ic,ic,ic,ic,ic,ie]) [ic,ic,ic,ic,ic,ic,ic,ic,ic] CK κ κ Y Y (Qq Y (Qq Y (Qq Y (Qp Y (oG Y BC Ay (s11 _ l35 _)) (Qp Y (AP Jx [.bool false,.es] [] [_,_] Y Ay Y Y Qt Y) (Qp Y (oG Y BC Ay (s12 _)) (Qp Y (Au Y call231 Y (Mn (y/x) Sq _ _)) (Qp Y (oG Y BC Ay (s11 _ l35 _)) (Qp Y (AP OJ [.bool false,.es,.bool false,.es,.bool false,.es,.bool false,.es] [(0,_),(2,_),(4,_),(6,_)] [_,_,_,_,_,_,_,_] Y DH Y Y Qt Y) ?_))))))))));unfold Do;simp only[bj,aw];refine Qo 9 Y (E6 (pre:=[mu,mui,md,mv,mvi]) Y Y call185 Y (QT k s.S i j (33*s.b+33) ⟨1,0,-(y/x),1⟩ h5 _ I5 hO hT ω hi hj hij F) Y Y Y Y (λz h6 ms6 l6 hF=>?_));obtain⟨l6',hF6⟩:=hF;refine Qa (Qe (Ab (As (Qm Y (An (Aj (Ae ?_)))))));exact Al Y Y (⟨AD l12 (AD l25 l6'),Y,by rw[dx,hS];exact hF6⟩)
   ·rw[ab hd2]at hc;cases hc
end
section
open Go.Lin Go.Wd Go.Sm
theorem W2(k:Wk)(s s':St)(i j:Nat)(x y:Int)(r:Bool)(h:Hp)(ms:List Hp)(I:k.In h)(hO:s.S.Ok k.n k.m (33*s.b+33))(hc:QM (λT=>s.col k.n k.m i j T) x y s=some (s',r))(hi:i<k.m)(hj:j<k.m)(hij:i≠j)(F:FsO k s.S ms) :
  s'.S.Ok k.n k.m (33*s'.b+33)/\FnT Tryz.prog 227 #[WD x,WD y,.w i,.w j,.func (.func 226) #[.pointer (some ⟨k.g,0,none⟩)] #[]] h ms (λv h' ms'=>h.le h'/\v=.bool r/\FsO k s'.S ms'):=by
 have hn:=I.hn;have hm:=I.hm;have os:∀n:Int,(sv (A8 n.natAbs)).oneCell'=true:=λ_=>rfl;have ox_:=os x;have oy_:=os y;unfold QM at hc
 have hyz:y.natAbs<2147483648\/y=0:=by
  by_cases h0:y=0
  ·exact .inr h0
  ·rw[ab h0]at hc;split at hc
   ·cases hc
   ·rename_i h1;exact .inl (LW λq=>h1 (.inr (.inr q)))
 have hy31:y.natAbs<2147483648:=by rcases hyz with h|h;exact h;subst h;decide
 have Sy:=GB hy31;obtain⟨mu,mui,md,mv,mvi,rfl,Vu,Vui,Vd,Vv,Vvi⟩:=F;have F:FsO k s.S [mu,mui,md,mv,mvi]:=⟨mu,mui,md,mv,mvi,Y,Vu,Vui,Vd,Vv,Vvi⟩
 have fin:∀(T:Tn),BqT T->s.col k.n k.m i j T=some s'->s.b<20000/\s'.S=s.S.cop k.n k.m i j T/\s'.S.Ok k.n k.m (33*s'.b+33):=λT hT e=>by
  unfold St.col at e;split at e
  ·rename_i hb;rw[Nat.blt_eq]at hb;have e:=ax e;subst e;exact⟨hb,Y,by have:=hO.cop hT hi hj hij;rw[show 33*(s.b+1)+33=33*s.b+33+33 by omega];exact this⟩
  ·cases e
 by_cases h0:y=0
 ·rw[af h0]at hc;obtain⟨rfl,rfl⟩:s=s'/\false=r:=by simpa using hc
  refine⟨hO,?_⟩;subst h0;refine Ao func227 ntmps227 Y Y (λw0 hw0=>?_);simp only[AS];refine As (AK [_,_] Y Y (by rfl) Y Y Y (λg5=>AK [_,_] Y Y (by rfl) Y Y Y (λg6=>Qm Y (An (Aw 0 Y λh1 l1 hS6=>?_)))));have s6:∀ms,Seg h1 ms (⟨g6,0,none⟩:Addr) (Bl 0):=λms=>Seg.any hS6;refine Ac (As (Qx (oG Y BC Ay (s6 _)) Y (Qx (Au Y call60 Y (Ey 0 Sy _ _)) Y (Qm Y (An ?_)))));refine Ax Y (λhc=>?_) (λhc=>ib (Y) hc);refine As (Qm Y (An (Aj (Ae (AR ?_)))));exact Al Y Y (⟨l1,Y,F⟩)
 ·rw[ab h0]at hc;by_cases h1:x=0\/WV x=false\/WV y=false
  ·rw[af h1]at hc;cases hc
  ·rw[ab h1]at hc;have hx0:x≠0:=λq=>h1 (.inl q);have hx31:=LW λq=>h1 (.inr (.inl q));have Sx:=GB hx31;have hyx:y.sign≠0:=λq=>h0 (Int.sign_eq_zero_iff_zero.1 q);have hq31:=Qh (x:=x) hy31;have Sq:Sz (y/x):=Sz.of (B:=32) hq31 δ;have hr0:=Int.emod_nonneg y hx0
   have hr1:(y%x).natAbs<2147483648:=by have:=Ik (a:=y) hx0;omega
   have Sr:=GB hr1;have o1:(sv (A8 1)).oneCell'=true:=rfl;have oq:=os (y/x);have or_:=os (y%x);have onq:=os (-(y/x));by_cases hd2:y%x=0
   ·rw[af hd2]at hc;obtain⟨s2,e2,e3⟩:=Option.map_eq_some_iff.1 hc;obtain⟨rfl,rfl⟩:s2=s'/\false=r:=by simpa using e3
    have hT:BqT ⟨1,0,-(y/x),1⟩:=⟨bq_one,Bq.zero _,Bq.neg hq31,bq_one⟩
    obtain⟨hb,hS,hOk⟩:=fin _ hT e2;refine⟨hOk,?_⟩;refine Ao func227 ntmps227 Y Y (λw0 hw0=>?_);simp only[AS];refine As (AK [_,_] Y Y (by rfl) Y Y Y (λg5=>AK [_,_] Y Y (by rfl) Y Y Y (λg6=>Qm Y (An (Aw 0 Y λh1 l1 hS6=>(Aw 0 Y λh2 l2 hS5=>?_))))));have hS6:=hS6.le l2;have l12:=AD l1 l2;have s5:∀h',h2.le h'->∀ms,Seg h' ms (⟨g5,0,none⟩:Addr) (Bl x):=λh' l ms=>Seg.any (hS5.le l);have s6:∀h',h2.le h'->∀ms,Seg h' ms (⟨g6,0,none⟩:Addr) (Bl y):=λh' l ms=>Seg.any (hS6.le l);refine Ac (As (Qx (oG Y BC Ay (s6 _ (BD) _)) Y (Qx (Au Y call60 Y (Ey y Sy _ _)) Y (Qm Y (An (Ax Y (λhc=>ib hc (hyx)) (λhc=>Ah (Ab (As (Qx (Au Y call95 Y (GL 1 δ _ _)) Y (BY [.bool false,.es] Y Ay Y Y (λg11=>?_))))))))))));refine Sa 0 [_,_] Ay Y (by simp[ox_,oy_,o1,oq,or_,onq]) ?_;refine An (Aw 0 Y λh3 l3 hS11=>?_);have l23:=l3;have s11:∀h',h3.le h'->∀ms,Seg h' ms (⟨g11,0,none⟩:Addr) (Bl 1):=λh' l ms=>Seg.any (hS11.le l);refine Ac (As (Qx (oG Y BC Ay (s6 _ l3 _)) Y (Qx (oG Y BC Ay (s5 _ l3 _)) Y (Qx (Au Y call100 Y (Oi y x Sy hx0 ω _ _)) Y (Qm Y (Qm Y (Qm Y (Qm Y (BY [.bool false,.es] Y Ay Y Y (λg12=>BY [.bool false,.es] Y Ay Y Y (λg13=>?_)))))))))));refine Sa 1 [_,_] Ay Y (by simp[ox_,oy_,o1,oq,or_,onq]) ?_;refine Sa 0 [_,_] Ay Y (by simp[ox_,oy_,o1,oq,or_,onq]) ?_;refine Qm Y (An (Aw 0 Y λh4 l4 hS13=>(Aw 0 Y λh5 l5 hS12=>?_)));have l35:=AD l4 l5;have l25:=AD l3 l35;have s12:∀ms,Seg h5 ms (⟨g12,0,none⟩:Addr) (Bl (y/x)):=λms=>Seg.any hS12;have s13:∀ms,Seg h5 ms (⟨g13,0,none⟩:Addr) (Bl (y%x)):=λms=>Seg.any (hS13.le l5);have hrz:(y%x).sign=0:=Int.sign_eq_zero_iff_zero.2 hd2;refine As (Qm Y (Qm Y (Qg (oG Y BC Ay (s13 _)) Y (Qg (Au Y call60 Y (Ey (y%x) Sr _ _)) Y (Qg (Ca Y Y Y) Y (Qm Y (An ?_)))))));refine Ax Y (λhc=>?_) (λhc=>ib (hrz) hc);have I5:=(I.le l12).le l25;refine Ac (AU (n:=10) (bs:=[ic,ic,ic,ic,ic,ic,ic,ic,ic,ie]) [ic,ic,ic,ic,ic,ic,ic,ic,ic] CK κ κ Y Y (Qq Y (Qq Y (Qq Y (Qp Y (oG Y BC Ay (s11 _ l35 _)) (Qp Y (AP Jx [.bool false,.es] [] [_,_] Y Ay Y Y Qt Y) (Qp Y (oG Y BC Ay (s12 _)) (Qp Y (Au Y call231 Y (Mn (y/x) Sq _ _)) (Qp Y (oG Y BC Ay (s11 _ l35 _)) (Qp Y (AP OJ [.bool false,.es,.bool false,.es,.bool false,.es,.bool false,.es] [(0,_),(2,_),(4,_),(6,_)] [_,_,_,_,_,_,_,_] Y DH Y Y Qt Y) ?_))))))))));unfold Do;simp only[bj,aw];refine Qo 9 Y (E6 (pre:=[mu,mui,md,mv,mvi]) Y Y call226 Y (LY k s.S i j (33*s.b+33) ⟨1,0,-(y/x),1⟩ h5 _ I5 hO hT ω hi hj hij F) Y Y Y Y (λz h6 ms6 l6 hF=>?_));obtain⟨l6',hF6⟩:=hF;refine Qa (Qe (Ab (As (Qm Y (An (Aj (Ae ?_)))))));exact Al Y Y (⟨AD l12 (AD l25 l6'),Y,by rw[dx,hS];exact hF6⟩)
   ·rw[ab hd2]at hc;cases hc
theorem FsO.el{k:Wk}{S:FS}{ms:List Hp}{h:Hp}{B:Nat}(F:FsO k S ms)(O:S.Ok k.n k.m B){i j:Nat}(hi:i<k.n)(hj:j<k.m){v:Value}(hv:k.vd[i]?=some v):Seg h ms ((AI v).add (j*2)) (Bl (AO S.d i j)):=by obtain⟨mu,mui,md,mv,mvi,rfl,Vu,Vui,Vd,Vv,Vvi⟩:=F;exact GF O.sd Vd (.tail _ (.tail _ (.head _))) hi hj hv
theorem FsO.rw_{k:Wk}{S:FS}{ms:List Hp}{h:Hp}{B:Nat}(F:FsO k S ms)(O:S.Ok k.n k.m B){i:Nat}(hi:i<k.n){v:Value}(hv:k.vd[i]?=some v):∃cs,Rd h ms v 2 k.m cs:=by obtain⟨mu,mui,md,mv,mvi,rfl,Vu,Vui,Vd,Vv,Vvi⟩:=F;exact Fi O.sd Vd (.tail _ (.tail _ (.head _))) hi hv
abbrev OkS(k:Wk)(s:St):Prop:=s.S.Ok k.n k.m (33*s.b+33)
theorem YI(k:Wk)(s s':St)(t f:Nat)(h:Hp)(ms:List Hp)(I:k.In h)(hO:OkS k s)(hc:D4 k.n k.m t f s=some s')(ht:t<k.n)(ht2:t<k.m)(F:FsO k s.S ms) :
  FnT Tryz.prog 183 #[.pointer (some ⟨k.g,0,none⟩),.w t] h ms (λ_ h' ms'=>h.le h'/\OkS k s'/\FsO k s'.S ms'):=by
 have hn:=I.hn;have hm:=I.hm;have cn_:∀h',h.le h'->∀ms,Cell h' ms ((⟨k.g,0,none⟩:Addr).add 5) (.w k.n):=λh' l ms=>((I.seg 5 _ Y).any).le l;have cm_:∀h',h.le h'->∀ms,Cell h' ms ((⟨k.g,0,none⟩:Addr).add 6) (.w k.m):=λh' l ms=>((I.seg 6 _ Y).any).le l;have cd_:∀h',h.le h'->∀ms,Cell h' ms ((⟨k.g,0,none⟩:Addr).add 2) k.hd:=λh' l ms=>((I.seg 2 _ Y).any).le l;have od:=I.rd.rd.one;have rD:∀h',h.le h'->Rd h' [] k.hd 1 k.n (k.vd.flatMap cU):=λh' l=>by have:=(I.rd.up l).rd;rwa [I.ld]at this
 obtain⟨vt,evt,_⟩:=He I.rd I.ld ht
 have cvt:∀h',h.le h'->∀ms,Cell h' ms ((AI k.hd).add (t*1)) vt:=λh' l ms=>by obtain⟨v,e,c⟩:=He (I.rd.up l) I.ld ht;rw[evt]at e;obtain rfl:=ax e;exact c ms
 refine Ao func183 ntmps183 Y Y (λw0 hw0=>?_);simp only[AS];refine As (Qm Y (An (Af (AC (λq sl h' ms'=>∃(c:Bool) (sc:St) (g:Nat),sl=[(0,.pointer (some ⟨k.g,0,none⟩)),(1,.w t),(4,.bool c)]/\h.le h'/\OkS k sc/\FsO k sc.S ms'/\((c=true/\q=g+1/\D4 k.n k.m t g sc=some s')\/(c=false/\q=0/\sc=s'))) (f+1) _ ⟨true,s,f,Y,BD,hO,F,.inl ⟨Y,Y,hc⟩⟩ Qs ?_))));rintro q sl h' ms' ⟨c,sc,g,rfl,lh,hO,F,hcase⟩;refine Ac (As (Qm Y (An ?_)));refine Ct Y (λhcc=>?_) (λhcc=>?_)
 ·obtain⟨rfl,hg⟩:q=g+1/\D4 k.n k.m t g sc=some s':=by
   rcases hcase with h|h
   ·exact h.2
   ·rw[h.1]at hcc;cases hcc
  obtain⟨g,rfl⟩:∃g',g=g'+1:=by
   cases g with
   | zero=>cases hg
   | succ g=>exact⟨g,Y⟩
  obtain⟨s1,e1⟩:∃s1,EB k.n k.m t (k.n-(t+1)) (t+1) sc=some s1:=by
   unfold D4 pass at hg;cases hq:EB k.n k.m t (k.n-(t+1)) (t+1) sc with
   | none=>rw[hq]at hg;cases hg
   | some s1=>exact⟨s1,Y⟩
  obtain⟨s2,c2,e2⟩:∃s2 c2,Er k.n k.m t (k.m-(t+1)) (t+1) false s1=some (s2,c2):=by
   unfold D4 pass at hg;rw[e1]at hg;simp only at hg;cases hq:Er k.n k.m t (k.m-(t+1)) (t+1) false s1 with
   | none=>rw[hq]at hg;cases hg
   | some p=>exact⟨p.1,p.2,Y⟩
  have hg2:(c2=true/\D4 k.n k.m t g s2=some s')\/(c2=false/\s2=s'):=by
   unfold D4 pass at hg;rw[e1]at hg;simp only at hg;rw[e2]at hg;cases c2 with
   | true=>exact .inl ⟨Y,hg⟩
   | false=>exact .inr ⟨Y,ax hg⟩
  refine Ah (Ab (Af (As (Qm Y (An (Ac (As (Qm Y (Qx (oA Y) Y (Qm Y (An (Af ?_))))))))))));refine AC (λq sl h' ms'=>∃(i:Nat) (si:St),k.n-i=q/\sl=[(0,.pointer (some ⟨k.g,0,none⟩)),(1,.w t),(4,.bool false),(5,.w i)]/\h.le h'/\t<i/\i<=k.n/\OkS k si/\FsO k si.S ms'/\EB k.n k.m t (k.n-i) i si=some s1) (k.n-(t+1)) _ ⟨t+1,sc,Y,Y,lh,ω,ω,hO,F,e1⟩ Qs ?_;rintro q sl h' ms' ⟨i,si,rfl,rfl,lh,hti,hin,hO,F,hr⟩;refine Ac (As (Qm Y (Qm Y (Qm Y (Qf IC Y (Qx (FV 0 Y UI Bp Y Y Y ω) Y (Ql Y U3 (cn_ _ lh _) (Qm Y (An ?_)))))))));refine Ax Y (λhlt=>?_) (λhlt=>?_)
  ·have hi:i<k.n:=ω
   obtain⟨sn,cn,en,en2⟩:∃sn cn,QM (λT=>si.row k.n k.m t i T) (AO si.S.d t t) (AO si.S.d i t) si=some (sn,cn)/\EB k.n k.m t (k.n-(i+1)) (i+1) sn=some s1:=by
    rw[show k.n-i=(k.n-(i+1))+1 by omega]at hr;unfold EB at hr;cases hq:QM (λT=>si.row k.n k.m t i T) (AO si.S.d t t) (AO si.S.d i t) si with
    | none=>rw[hq]at hr;cases hr
    | some p=>rw[hq]at hr;exact⟨p.1,p.2,Y,hr⟩
   obtain⟨hOn,hFn⟩:=Wy k si sn t i _ _ cn h' _ (I.le lh) hO en ht hi ω F;obtain⟨mu,mui,md,mv,mvi,hms,hVs⟩:=F;have F:FsO k si.S ms':=⟨mu,mui,md,mv,mvi,hms,hVs⟩
   subst hms;obtain⟨_,rT⟩:=F.rw_ (h:=h') hO ht evt;have oT:=rT.one;have sTT:=F.el (h:=h') hO ht ht2 evt;obtain⟨vi,evi,cvi0⟩:=He (I.rd.up lh) I.ld hi;obtain⟨_,rI⟩:=F.rw_ (h:=h') hO hi evi;have oI:=rI.one;have sIT:=F.el (h:=h') hO hi ht2 evi;generalize AO si.S.d t t=x at *;generalize AO si.S.d i t=y at *;have ox_:(sv (A8 x.natAbs)).oneCell'=true:=rfl;have oy_:(sv (A8 y.natAbs)).oneCell'=true:=rfl;refine Ah (Ab ?_);refine Bt (λsl h' ms'=>∃sn,sl=[(0,.pointer (some ⟨k.g,0,none⟩)),(1,.w t),(4,.bool false),(5,.w i)]/\h.le h'/\OkS k sn/\FsO k sn.S ms'/\EB k.n k.m t (k.n-(i+1)) (i+1) sn=some s1) ?_ (λs h ms hI=>?_)
   ·refine Af (AU (n:=27) (bs:=[ic,ic,ic,ic,ic,ic,ic,ic,ic,ic,ie,ic,ic,ic,ic,ic,ic,ic,ic,ic,ic,ie,ic,ic,ic,ic,ie]) [ic,ic,ic,ic,ic,ic,ic,ic,ic,ic,ie,ic,ic,ic,ic,ic,ic,ic,ic,ic,ic,ie,ic,ic,ic,ic] CK κ κ Y Y (Qq Y (Qq Y (QF Cf Y (QF D9 Y (QL Y CI (cd_ _ lh _) (Qq Y (Qp Y (AM (t) (rD _ lh).any Y CI Ec Y Y ω ω) (QL Y CG (cvt _ lh _) (Qq Y (Qp Y (Bc (t) rT Y CG Ay Y Y ω ω) (Qq Y (Qq Y (QF Cf Y (QF D9 Y (QL Y CI (cd_ _ lh _) (Qq Y (Qp Y (AM (i) (rD _ lh).any Y CI Ec Y Y ω ω) (QL Y CG (cvi0 _) (Qq Y (Qp Y (Bc (t) rI Y CG Ay Y Y ω ω) (Qq Y (Qq Y (Qq Y (Qp Y (BG Y Y Y) ?_)))))))))))))))))))))))));unfold Do;simp only[bj,aw];refine AV [10,21] κ Y ?_;refine Av Y ?_ ?_;refine Qx (oG Y BC Ay (sTT)) Y (Qw (Qo 21 Y (Qx (oG Y BC Ay (sIT)) Y (Qw ?_))))
    rotate_left
    refine Av Y ?_ ?_;refine Qx (oG Y BC Ay (sIT)) Y (Qw (Qo 10 Y (Qx (oG Y BC Ay (sTT)) Y (Qw ?_))))
    rotate_left
    exact AW
    all_goals
     refine Qo 26 Y (Az (pre:=[mu,mui,md,mv,mvi]) Y call227 Y (hFn) Y Y Y Y (λz h2 ms2 l2 hF=>?_));obtain⟨l2',rfl,hF2⟩:=hF;refine Qa (Qe ?_);exact Ai (AH _ ⟨sn,Y,AD lh l2',hOn,by rw[dx];exact hF2,en2⟩ Qs)
   ·obtain⟨sn,rfl,ln,hOn,hFn,en2⟩:=hI;refine Ad (Qm Y (Qx (oA Y) Y (Qm Y (Am ?_))));exact Ap (k.n-(i+1)) _ ω ⟨i+1,sn,Y,Y,ln,ω,ω,hOn,hFn,en2⟩ Qs
  ·obtain rfl:i=k.n:=ω
   rw[Nat.sub_self]at hr;obtain rfl:=ax hr;refine AA (Aa (Aa (Ag (Ab (As (Qm Y (Qx (oA Y) Y (Qm Y (An (Af ?_))))))))));refine AC (λq sl h' ms'=>∃(j:Nat) (c:Bool) (sj:St),k.m-j=q/\sl=[(0,.pointer (some ⟨k.g,0,none⟩)),(1,.w t),(4,.bool c),(6,.w j)]/\h.le h'/\t<j/\j<=k.m/\OkS k sj/\FsO k sj.S ms'/\Er k.n k.m t (k.m-j) j c sj=some (s2,c2)) (k.m-(t+1)) _ ⟨t+1,false,si,Y,Y,lh,ω,ω,hO,F,e2⟩ Qs ?_;rintro q sl h' ms' ⟨j,c,sj,rfl,rfl,lh,htj,hjm,hO,F,hr⟩;refine Ac (As (Qm Y (Qm Y (Qm Y (Qf IC Y (Qx (FV 1 Y UI Bp Y Y Y ω) Y (Ql Y U3 (cm_ _ lh _) (Qm Y (An ?_)))))))));refine Ax Y (λhlt=>?_) (λhlt=>?_)
   ·have hj:j<k.m:=ω
    obtain⟨sn,cn,en,en2⟩:∃sn cn,QM (λT=>sj.col k.n k.m t j T) (AO sj.S.d t t) (AO sj.S.d t j) sj=some (sn,cn)/\Er k.n k.m t (k.m-(j+1)) (j+1) (c||cn) sn=some (s2,c2):=by
     rw[show k.m-j=(k.m-(j+1))+1 by omega]at hr;unfold Er at hr;cases hq:QM (λT=>sj.col k.n k.m t j T) (AO sj.S.d t t) (AO sj.S.d t j) sj with
     | none=>rw[hq]at hr;cases hr
     | some p=>rw[hq]at hr;exact⟨p.1,p.2,Y,hr⟩
    obtain⟨hOn,hFn⟩:=W2 k sj sn t j _ _ cn h' _ (I.le lh) hO en ht2 hj ω F;obtain⟨mu,mui,md,mv,mvi,hms,hVs⟩:=F;have F:FsO k sj.S ms':=⟨mu,mui,md,mv,mvi,hms,hVs⟩
    subst hms;obtain⟨_,rT⟩:=F.rw_ (h:=h') hO ht evt;have oT:=rT.one;have sTT:=F.el (h:=h') hO ht ht2 evt;have sIT:=F.el (h:=h') hO ht hj evt;generalize AO sj.S.d t t=x at *;generalize AO sj.S.d t j=y at *;have ox_:(sv (A8 x.natAbs)).oneCell'=true:=rfl;have oy_:(sv (A8 y.natAbs)).oneCell'=true:=rfl;refine Ah (Ab ?_);refine Bt (λsl h' ms'=>∃sn c',sl=[(0,.pointer (some ⟨k.g,0,none⟩)),(1,.w t),(4,.bool c'),(6,.w j)]/\h.le h'/\OkS k sn/\FsO k sn.S ms'/\Er k.n k.m t (k.m-(j+1)) (j+1) c' sn=some (s2,c2)) ?_ (λs h ms hI=>?_)
    ·refine Af ?_;refine Bt (λsl h' ms'=>sl=[(0,.pointer (some ⟨k.g,0,none⟩)),(1,.w t),(4,.bool c),(6,.w j),(83,.bool cn)]/\h.le h'/\OkS k sn/\FsO k sn.S ms') ?_ (λs h ms hI=>?_)
     ·refine AU (n:=27) (bs:=[ic,ic,ic,ic,ic,ic,ic,ic,ic,ic,ie,ic,ic,ic,ic,ic,ic,ic,ic,ic,ic,ie,ic,ic,ic,ic,ie]) [ic,ic,ic,ic,ic,ic,ic,ic,ic,ic,ie,ic,ic,ic,ic,ic,ic,ic,ic,ic,ic,ie,ic,ic,ic,ic] CK κ κ Y Y (Qq Y (Qq Y (QF Cf Y (QF D9 Y (QL Y CI (cd_ _ lh _) (Qq Y (Qp Y (AM (t) (rD _ lh).any Y CI Ec Y Y ω ω) (QL Y CG (cvt _ lh _) (Qq Y (Qp Y (Bc (t) rT Y CG Ay Y Y ω ω) (Qq Y (Qq Y (QF Cf Y (QF D9 Y (QL Y CI (cd_ _ lh _) (Qq Y (Qp Y (AM (t) (rD _ lh).any Y CI Ec Y Y ω ω) (QL Y CG (cvt _ lh _) (Qq Y (Qp Y (Bc (j) rT Y CG Ay Y Y ω ω) (Qq Y (Qq Y (Qq Y (Qp Y (BG Y Y Y) ?_))))))))))))))))))))))));unfold Do;simp only[bj,aw];refine AV [10,21] κ Y ?_;refine Av Y ?_ ?_;refine Qx (oG Y BC Ay (sTT)) Y (Qw (Qo 21 Y (Qx (oG Y BC Ay (sIT)) Y (Qw ?_))))
      rotate_left
      refine Av Y ?_ ?_;refine Qx (oG Y BC Ay (sIT)) Y (Qw (Qo 10 Y (Qx (oG Y BC Ay (sTT)) Y (Qw ?_))))
      rotate_left
      exact AW
      all_goals
       refine Qo 26 Y (Az (pre:=[mu,mui,md,mv,mvi]) Y call227 Y (hFn) Y Y Y Y (λz h2 ms2 l2 hF=>?_));obtain⟨l2',rfl,hF2⟩:=hF;refine Qa (Qe ?_);exact AH _ ⟨Y,AD lh l2',hOn,by rw[dx];exact hF2⟩ Qs
     ·obtain⟨rfl,ln,hOn,hFn2⟩:=hI;refine Ct Y (λhcn=>?_) (λhcn=>?_)
      ·rw[hcn,Bool.or_true]at en2;refine Ad (Qm Y (Am (Ai ?_)));exact AH _ ⟨sn,true,Y,ln,hOn,hFn2,en2⟩ Qs
      ·rw[hcn,Bool.or_false]at en2;refine Ah (Ai ?_);exact AH _ ⟨sn,c,Y,ln,hOn,hFn2,en2⟩ Qs
    ·obtain⟨sn,c',rfl,ln,hOn,hFn,en2⟩:=hI;refine Ad (Qm Y (Qx (oA Y) Y (Qm Y (Am ?_))));exact Ap (k.m-(j+1)) _ ω ⟨j+1,c',sn,Y,Y,ln,ω,ω,hOn,hFn,en2⟩ Qs
   ·obtain rfl:j=k.m:=ω
    rw[Nat.sub_self]at hr;obtain⟨rfl,rfl⟩:sj=s2/\c=c2:=by simpa[Er] using hr
    refine AA (Aa (Aa (Ag (Ai ?_))));rcases hg2 with ⟨rfl,hg2⟩|⟨rfl,rfl⟩
    ·exact Ap (g+1) _ ω ⟨true,sj,g,Y,lh,hO,F,.inl ⟨Y,Y,hg2⟩⟩ Qs
    ·exact Ap 0 _ ω ⟨false,sj,0,Y,lh,hO,F,.inr ⟨Y,Y,Y⟩⟩ Qs
 ·have e3:sc=s':=by
   rcases hcase with h|h
   ·rw[h.1]at hcc;cases hcc
   ·exact h.2.2
  subst e3;refine AA (Aa (Aa (Ag ?_)));exact CA Y (⟨lh,hO,F⟩)
theorem Iw:BqT swp:=⟨Bq.zero _,bq_one,bq_one.neg,Bq.zero _⟩
theorem OkS.row{k:Wk}{s s':St}{i j:Nat}{T:Tn}(hO:OkS k s)(hT:BqT T)(hi:i<k.n)(hj:j<k.n)(hij:i≠j)(e:s.row k.n k.m i j T=some s'):s.b<20000/\s'.S=s.S.rop k.n k.m i j T/\OkS k s':=by
 unfold St.row at e;split at e
 ·rename_i hb;rw[Nat.blt_eq]at hb;have e:=ax e;subst e;exact⟨hb,Y,by have:=FS.Ok.rop hO hT hi hj hij;show FS.Ok _ _ (33*(s.b+1)+33) _;rw[show 33*(s.b+1)+33=33*s.b+33+33 by omega];exact this⟩
 ·cases e
theorem OkS.col{k:Wk}{s s':St}{i j:Nat}{T:Tn}(hO:OkS k s)(hT:BqT T)(hi:i<k.m)(hj:j<k.m)(hij:i≠j)(e:s.col k.n k.m i j T=some s'):s.b<20000/\s'.S=s.S.cop k.n k.m i j T/\OkS k s':=by
 unfold St.col at e;split at e
 ·rename_i hb;rw[Nat.blt_eq]at hb;have e:=ax e;subst e;exact⟨hb,Y,by have:=FS.Ok.cop hO hT hi hj hij;show FS.Ok _ _ (33*(s.b+1)+33) _;rw[show 33*(s.b+1)+33=33*s.b+33+33 by omega];exact this⟩
 ·cases e
theorem Z0(k:Wk)(s s':St)(t:Nat)(r:Bool)(h:Hp)(ms:List Hp)(I:k.In h)(hO:OkS k s)(hb:s.b<=20000)(hc:EU k.n k.m t s=some (s',r))(ht:t<k.n)(ht2:t<k.m)(F:FsO k s.S ms) :
  FnT Tryz.prog 182 #[.pointer (some ⟨k.g,0,none⟩),.w t] h ms (λv h' ms'=>h.le h'/\v=.bool r/\OkS k s'/\FsO k s'.S ms'):=by
 have hn:=I.hn;have hm:=I.hm;obtain⟨res,hres⟩:∃res,Kg s.S.d k.n t (k.m-t) t=res:=⟨_,Y⟩
 have o1:(sv (A8 1)).oneCell'=true:=rfl;obtain⟨mu,mui,md,mv,mvi,hms,hVs⟩:=F;have F:FsO k s.S ms:=⟨mu,mui,md,mv,mvi,hms,hVs⟩
 subst hms;refine Ao func182 ntmps182 Y Y (λw0 hw0=>?_);simp only[AS];refine As (Qm Y (Bw (Qx (Au Y call95 Y (GL 1 δ _ _)) Y (Qx (Au Y call95 Y (GL (-1) δ _ _)) Y (BY [.bool false,.es] Y Ay Y Y (λg5=>BY [.bool false,.es] Y Ay Y Y (λg6=>Sa 1 [_,_] Ay Y (by simp[Value.oneCell',o1,sv]) (Sa 0 [_,_] Ay rfl (by simp[Value.oneCell',o1,sv]) (Bw (Qx (AP Jx [.bool false,.es] [] [_,_] rfl Ay rfl rfl Qt rfl) rfl (Qx (oG rfl BC Ay (Seg.blk 1 rfl)) rfl (Qx (oG rfl BC Ay (Seg.blk 0 rfl)) rfl (Qx (AP Jx [.bool false,.es] [] [_,_] rfl Ay rfl rfl Qt rfl) rfl (Qx (AP OJ [.bool false,.es,.bool false,.es,.bool false,.es,.bool false,.es] [(0,_),(2,_),(4,_),(6,_)] [_,_,_,_,_,_,_,_] rfl DH rfl rfl Qt rfl) rfl (BY [.bool false,.es,.bool false,.es,.bool false,.es,.bool false,.es] rfl DH rfl rfl (λg7=>Sa 0 [_,_,_,_,_,_,_,_] DH rfl (by simp[Value.oneCell',o1,sv]) (An (AF λh1 l1 hS7=>(JV (JV ?_))))))))))))))))))));have s7:∀h',h1.le h'->∀ms,Seg h' ms (⟨g7,0,none⟩:Addr) (cT swp):=λh' l ms=>Seg.any (hS7.le l);have I1:=I.le l1;have cn_:∀ms,Cell h1 ms ((⟨k.g,0,none⟩:Addr).add 5) (.w k.n):=λms=>(I1.seg 5 _ Y).any;have cm_:∀ms,Cell h1 ms ((⟨k.g,0,none⟩:Addr).add 6) (.w k.m):=λms=>(I1.seg 6 _ Y).any;have cd_:∀ms,Cell h1 ms ((⟨k.g,0,none⟩:Addr).add 2) k.hd:=λms=>(I1.seg 2 _ Y).any;have od:=I1.rd.rd.one;have rD:Rd h1 [] k.hd 1 k.n (k.vd.flatMap cU):=by have:=I1.rd.rd;rwa [I1.ld]at this
 refine Ac (As (Qm Y (Qm Y (An (Af ?_)))));refine AC (λq sl h' ms'=>∃(j:Nat),k.m-j=q/\sl=[(0,.pointer (some ⟨k.g,0,none⟩)),(1,.w t),(7,.pt g7),(8,.w j)]/\h1=h'/\ms'=[mu,mui,md,mv,mvi]/\t<=j/\j<=k.m/\Kg s.S.d k.n t (k.m-j) j=res) (k.m-t) _ ⟨t,Y,Y,Y,Y,ω,ω,hres⟩ Qs ?_;rintro q sl h' ms' ⟨j,rfl,rfl,rfl,rfl,htj,hjm,hfj⟩;refine Ac (As (Qm Y (Qm Y (Qm Y (Qf IC Y (Qx (FV 1 Y UI Bp Y Y Y ω) Y (Ql Y U3 (cm_ _) (Qm Y (An ?_)))))))));refine Ax Y (λhlt=>?_) (λhlt=>?_)
 ·have hj:j<k.m:=ω
  obtain⟨ri,hri⟩:∃ri,Qi s.S.d k.n j (k.n-t) t=ri:=⟨_,Y⟩
  rw[show k.m-j=(k.m-(j+1))+1 by omega]at hfj;unfold Kg at hfj;rw[hri]at hfj;refine Ah (Ab (Ac (Af (As (Qm Y (Qm Y (An (Af ?_))))))));refine AC (λq sl h' ms'=>∃(i:Nat),k.n-i=q/\sl=[(0,.pointer (some ⟨k.g,0,none⟩)),(1,.w t),(7,.pt g7),(8,.w j),(9,.w i)]/\h1=h'/\ms'=[mu,mui,md,mv,mvi]/\t<=i/\i<=k.n/\Qi s.S.d k.n j (k.n-i) i=ri) (k.n-t) _ ⟨t,Y,Y,Y,Y,ω,ω,hri⟩ Qs ?_;rintro q sl h' ms' ⟨i,rfl,rfl,rfl,rfl,hti,hin,hfi⟩;refine Ac (As (Qm Y (Qm Y (Qm Y (Qf IC Y (Qx (FV 0 Y UI Bp Y Y Y ω) Y (Ql Y U3 (cn_ _) (Qm Y (An ?_)))))))));refine Ax Y (λhlt2=>?_) (λhlt2=>?_)
  ·have hi:i<k.n:=ω
   rw[show k.n-i=(k.n-(i+1))+1 by omega]at hfi;unfold Qi at hfi;obtain⟨vi,evi,cvi0⟩:=He I1.rd I1.ld hi;obtain⟨_,rI⟩:=F.rw_ (h:=h1) hO hi evi;have oI:=rI.one;have sIJ:=F.el (h:=h1) hO hi hj evi;have hsz:=Sz.of (hO.bd i j) ω;generalize AO s.S.d i j=x at *;have ox_:(sv (A8 x.natAbs)).oneCell'=true:=rfl;refine Ah (Ab (Ac (Af (Ac (As (Qm Y (Qm Y (Qf Cf Y (Qf D9 Y (Ql Y CI (cd_ _) (Qm Y (Qx (BR (i) rD.any Y CI Ec Y Y) Y (Ql Y CG (cvi0 _) (Qm Y (Qx (Bc (j) rI Y CG Ay Y Y ω ω) Y (Qx (oG Y BC Ay (sIJ)) Y (Qx (Au Y call60 Y (Ey x hsz _ _)) Y (Qm Y (An ?_)))))))))))))))))));refine Ax Y (λhz=>?_) (λhz=>?_)
   ·have hx0:x=0:=Int.sign_eq_zero_iff_zero.1 hz;rw[ab (by simp[hx0])]at hfi;refine AA (Aa (Ag (Ab (Ad (Qm Y (Qx (oA Y) Y (Qm Y (Am ?_))))))));exact Ap (k.n-(i+1)) _ ω ⟨i+1,Y,Y,Y,Y,ω,ω,hfi⟩ Qs
   ·have hx0:x≠0:=λq=>hz (Int.sign_eq_zero_iff_zero.2 q);rw[af hx0]at hfi;subst hfi;simp only at hfj;subst hfj;unfold EU at hc;rw[hres]at hc;simp only at hc
    obtain⟨s1,e1,e2⟩:∃s1,(if i=t then some s else s.row k.n k.m t i swp)=some s1/\(match (if j=t then some s1 else s1.col k.n k.m t j swp) with|none=>none|some s2=>some (s2,true))=some (s',r):=by
     cases hq:(if i=t then some s else s.row k.n k.m t i swp) with
     | none=>rw[hq]at hc;cases hc
     | some s1=>rw[hq]at hc;exact⟨s1,Y,hc⟩
    obtain⟨s2,e3,e4⟩:∃s2,(if j=t then some s1 else s1.col k.n k.m t j swp)=some s2/\some (s2,true)=some (s',r):=by
     cases hq:(if j=t then some s1 else s1.col k.n k.m t j swp) with
     | none=>rw[hq]at e2;cases e2
     | some s2=>rw[hq]at e2;exact⟨s2,Y,e2⟩
    obtain⟨rfl,rfl⟩:s2=s'/\true=r:=by simpa using e4
    refine Ah (Ab (Ac (As (Qm Y (Qm Y (Qm Y (An ?_)))))));refine Ax Y (λhne=>?_) (λhne=>?_)
    ·have hne':¬i=t:=ω
     rw[ab hne']at e1;obtain⟨hb1,hS1,hO1⟩:=hO.row Iw ht hi ω e1;refine Ad (Qm Y (Qm Y (Qm Y (Qx (oG Y Lf DH (s7 _ (BD) _)) Y (Az (pre:=[mu,mui,md,mv,mvi]) Y call185 Y (QT k s.S t i _ swp h1 _ I1 hO Iw ω ht hi ω F) Y Y Y Y (λz h2 ms2 l2 hF=>?_))))));obtain⟨l2',F2⟩:=hF;rw[<-hS1]at F2;refine An (Ac (As (Qm Y (Qm Y (Qm Y (An ?_))))));refine Ax Y (λhne2=>?_) (λhne2=>?_)
     ·have hne2':¬j=t:=ω
      rw[ab hne2']at e3;obtain⟨hb2,hS2,hO2⟩:=OkS.col hO1 Iw ht2 hj ω e3;refine Ad (Qm Y (Qm Y (Qm Y (Qx (oG Y Lf DH (s7 _ l2' _)) Y (Az (pre:=ms2) Y call226 Y (LY k s1.S t j _ swp h2 _ (I1.le l2') hO1 Iw ω ht2 hj ω F2) Y Y Y Y (λz h3 ms3 l3 hF=>?_))))));obtain⟨l3',F3⟩:=hF;rw[<-hS2]at F3;refine Bw (Qm Y (An (Aj (Ak (Ae (Ae (Ak (Ak (Ae (Ae (Ak (Ae ?_))))))))))));exact Al Y Y (⟨AD l1 (AD l2' l3'),Y,hO2,by simpa using F3⟩)
     ·have hne2':j=t:=ω
      rw[af hne2']at e3;obtain rfl:=ax e3;refine Ah (Ab (As (Qm Y (An (Aj (Ak (Ae (Ae (Ak (Ak (Ae (Ae (Ak (Ae ?_))))))))))))));exact Al Y Y (⟨AD l1 l2',Y,hO1,by simpa using F2⟩)
    ·have hne':i=t:=ω
     rw[af hne']at e1;obtain rfl:=ax e1;refine Ah (Ab (Ac (As (Qm Y (Qm Y (Qm Y (An ?_)))))));refine Ax Y (λhne2=>?_) (λhne2=>?_)
     ·have hne2':¬j=t:=ω
      rw[ab hne2']at e3;obtain⟨hb2,hS2,hO2⟩:=OkS.col hO Iw ht2 hj ω e3;refine Ad (Qm Y (Qm Y (Qm Y (Qx (oG Y Lf DH (s7 _ (BD) _)) Y (Az (pre:=[mu,mui,md,mv,mvi]) Y call226 Y (LY k s.S t j _ swp h1 _ I1 hO Iw ω ht2 hj ω F) Y Y Y Y (λz h3 ms3 l3 hF=>?_))))));obtain⟨l3',F3⟩:=hF;rw[<-hS2]at F3;refine Bw (Qm Y (An (Aj (Ak (Ae (Ae (Ak (Ak (Ae (Ae (Ak (Ae ?_))))))))))));exact Al Y Y (⟨AD l1 l3',Y,hO2,by simpa using F3⟩)
     ·have hne2':j=t:=ω
      rw[af hne2']at e3;obtain rfl:=ax e3;refine Ah (Ab (As (Qm Y (An (Aj (Ak (Ae (Ae (Ak (Ak (Ae (Ae (Ak (Ae ?_))))))))))))));exact Al Y Y (⟨l1,Y,hO,by simpa using F⟩)
  ·obtain rfl:i=k.n:=ω
   rw[Nat.sub_self]at hfi;subst hfi;replace hfj:Kg s.S.d k.n t (k.m-(j+1)) (j+1)=res:=hfj;refine AA (Aa (Aa (Ag (Ai (Ab (Ad (Qm Y (Qx (oA Y) Y (Qm Y (Am ?_))))))))));exact Ap (k.m-(j+1)) _ ω ⟨j+1,Y,Y,Y,Y,ω,ω,hfj⟩ Qs
 ·obtain rfl:j=k.m:=ω
  rw[Nat.sub_self]at hfj;subst hfj;unfold EU at hc;rw[hres]at hc;obtain⟨rfl,rfl⟩:s=s'/\false=r:=by simpa[Kg] using hc
  refine AA (Aa (Aa (Ag (Ab (As (Qm Y (An (Aj ?_))))))));exact Al Y Y (⟨l1,Y,hO,F⟩)
theorem FsO.elF{k:Wk}{S:FS}{ms:List Hp}{h:Hp}{B:Nat}(F:FsO k S ms)(hm:∀m∈ms,m.le h)(O:S.Ok k.n k.m B){i j:Nat}(hi:i<k.n)(hj:j<k.m){v:Value}(hv:k.vd[i]?=some v):Rd h [] v 2 k.m ((S.d.getD i []).flatMap Bl)/\Seg h [] ((AI v).add (j*2)) (Bl (AO S.d i j)):=by
 obtain⟨mu,mui,md,mv,mvi,rfl,Vu,Vui,Vd,Vv,Vvi⟩:=F;have hiM:i<S.d.length:=by rw[O.sd.len];exact hi
 have hiv:i<k.vd.length:=by rw[Vd.len];exact hiM
 have e1:k.vd[i]=v:=by rw[ah hiv]at hv;exact ax hv
 have hr:=O.sd.row i hi;have e2:S.d.getD i []=S.d[i]:=by simp[List.getD,hiM]
 have R:=Vd.rdh (hm md (.tail _ (.tail _ (.head _)))) hiv hiM;rw[e1,<-e2]at R;have hj2:j<(S.d.getD i []).length:=by rw[hr];exact hj
 refine⟨by have:=R.rd;rwa [hr]at this,?_⟩;have:=R.seg hj2;unfold AO;rw[show(S.d.getD i []).getD j 0=(S.d.getD i [])[j] from by rw[gk,ah hj2];rfl];exact this
theorem Ug(k:Wk)(s:St)(t:Nat)(h:Hp)(ms:List Hp)(I0:k.In h)(hO:OkS k s)(hb:s.b<=20000)(hp0:AO s.S.d t t≠0)(hp1:(AO s.S.d t t).natAbs<2147483648)(hd:Nw s.S.d k.m t (AO s.S.d t t) (k.n-(t+1)) (t+1)=true)(ht:t<k.n)(ht2:t<k.m)(F:FsO k s.S ms) :
  FnT Tryz.prog 184 #[.pointer (some ⟨k.g,0,none⟩),.w t] h ms (λv h' ms'=>h=h'/\∃ms0,ms'=ms0++ms/\v=.tuple #[.w 0,.bool false]):=by
 refine Yk (pre:=[]) (post:=λv _=>v=.tuple #[.w 0,.bool false]) λh1 l1 hfr=>?_;have I:=I0.le l1;have hn:=I.hn;have hm:=I.hm;have cn_:∀ms,Cell h1 ms ((⟨k.g,0,none⟩:Addr).add 5) (.w k.n):=λms=>(I.seg 5 _ Y).any;have cm_:∀ms,Cell h1 ms ((⟨k.g,0,none⟩:Addr).add 6) (.w k.m):=λms=>(I.seg 6 _ Y).any;have cd_:∀ms,Cell h1 ms ((⟨k.g,0,none⟩:Addr).add 2) k.hd:=λms=>(I.seg 2 _ Y).any;have od:=I.rd.rd.one;have rD:Rd h1 [] k.hd 1 k.n (k.vd.flatMap cU):=by have:=I.rd.rd;rwa [I.ld]at this
 obtain⟨vt,evt,cvt⟩:=He I.rd I.ld ht;obtain⟨rT,sT⟩:=F.elF hfr hO ht ht2 evt;have oT:=rT.one;have Sp:=GB hp1;generalize hpe:AO s.S.d t t=p at *;have op_:(sv (A8 p.natAbs)).oneCell'=true:=rfl;refine Ao func184 ntmps184 Y Y (λw0 hw0=>?_);simp only[AS];refine As (Qm Y (Qm Y (An (Ac (As (Qm Y (Qx (oA Y) Y (Qm Y (An (Af ?_))))))))));refine AC (λq sl h' ms'=>∃(i:Nat),k.n-i=q/\sl=[(0,.pointer (some ⟨k.g,0,none⟩)),(1,.w t),(6,.w i)]/\h1=h'/\t<i/\i<=k.n/\Nw s.S.d k.m t p (k.n-i) i=true) (k.n-(t+1)) _ ⟨t+1,Y,Y,Y,ω,ω,hd⟩ Qs ?_;rintro q sl h' ms' ⟨i,rfl,rfl,rfl,hti,hin,hdi⟩;refine Ac (As (Qm Y (Qm Y (Qm Y (Qf IC Y (Qx (FV 0 Y UI Bp Y Y Y ω) Y (Ql Y U3 (cn_ _) (Qm Y (An ?_)))))))));refine Ax Y (λhlt=>?_) (λhlt=>?_)
 ·have hi:i<k.n:=ω
  obtain⟨vi,evi,cvi⟩:=He I.rd I.ld hi;rw[show k.n-i=(k.n-(i+1))+1 by omega]at hdi;unfold Nw at hdi;rw[dt]at hdi;refine Ah (Ab (Ac (Af (As (Qm Y (Qx (oA Y) Y (Qm Y (An (Af ?_)))))))));refine AC (λq sl h' ms'=>∃(j:Nat),k.m-j=q/\sl=[(0,.pointer (some ⟨k.g,0,none⟩)),(1,.w t),(6,.w i),(7,.w j)]/\h1=h'/\t<j/\j<=k.m/\XL s.S.d t i p (k.m-j) j=true) (k.m-(t+1)) _ ⟨t+1,Y,Y,Y,ω,ω,hdi.1⟩ Qs ?_;rintro q sl h' ms' ⟨j,rfl,rfl,rfl,htj,hjm,hdj⟩;refine Ac (As (Qm Y (Qm Y (Qm Y (Qf IC Y (Qx (FV 1 Y UI Bp Y Y Y ω) Y (Ql Y U3 (cm_ _) (Qm Y (An ?_)))))))));refine Ax Y (λhlt2=>?_) (λhlt2=>?_)
  ·have hj:j<k.m:=ω
   rw[show k.m-j=(k.m-(j+1))+1 by omega]at hdj;unfold XL at hdj;rw[dt,decide_eq_true_eq]at hdj;obtain⟨hz,hdj⟩:=hdj;obtain⟨rI,sIJ⟩:=F.elF hfr hO hi hj evi;have oI:=rI.one;have Sx:=Sz.of (hO.bd i j) ω;generalize AO s.S.d i j=x at *;have ox_:(sv (A8 x.natAbs)).oneCell'=true:=rfl;have oq_:(sv (A8 (x/p).natAbs)).oneCell'=true:=rfl;have or_:(sv (A8 (x%p).natAbs)).oneCell'=true:=rfl;have or0:(sv (A8 (0:Int).natAbs)).oneCell'=true:=rfl;refine Ah (Ab (Ac (Af ?_)));refine Bt (λsl h' ms'=>∃g9 ms2,sl=[(0,.pointer (some ⟨k.g,0,none⟩)),(1,.w t),(6,.w i),(7,.w j),(9,.pt g9)]/\h1=h'/\ms'=BL g9 33 (Bl (x%p))::ms2) ?_ (λs h ms hI=>?_)
   ·refine AU (n:=32) (bs:=[ic,ic,ic,ic,ic,ic,ic,ic,ic,ic,ic,ic,ic,ic,ic,ic,ic,ic,ic,ic,ic,ic,ic,ic,ic,ic,ic,ie,ie,ie,ie,ie]) [ic,ic,ic,ic,ic,ic,ic,ic,ic,ic,ic,ic,ic,ic,ic,ic,ic,ic,ic,ic,ic,ic,ic,ic,ic,ic,ic] CK κ κ Y Y (Qq Y (Qq Y (QF Cf Y (QF D9 Y (QL Y CI (cd_ _) (Qq Y (Qp Y (BR (i) rD.any Y CI Ec Y Y) (QL Y CG (cvi _) (Qq Y (Qp Y (BR (j) rI.any Y CG Ay Y Y) (Qp Y (oG Y BC Ay (sIJ.any)) (Qq Y (Qq Y (QF Cf Y (QF D9 Y (QL Y CI (cd_ _) (Qq Y (Qp Y (BR (t) rD.any Y CI Ec Y Y) (QL Y CG (cvt _) (Qq Y (Qp Y (BR (t) rT.any Y CG Ay Y Y) (Qp Y (oG Y BC Ay (sT.any)) (Qp Y (Au Y call100 Y (Oi x p Sx hp0 ω _ _)) (Qq Y (Qq Y (Qq Y (Qq Y ?_)))))))))))))))))))))))))));unfold Do;simp only[bj,aw];refine AV [27,28] κ Y ?_;refine Av Y ?_ ?_
    ·refine BY [.bool false,.es] Y Ay Y Y (λg8=>Qw (Qo 28 Y (BY [.bool false,.es] Y Ay Y Y (λg9=>Qw (Qo 29 Y ?_)))));refine Sa 1 [_,_] Ay Y (by simp[od,oT,oI,op_,ox_,oq_,or_]) ?_;refine Qw (Qo 30 Y ?_);refine Sa 0 [_,_] Ay Y (by simp[od,oT,oI,op_,ox_,oq_,or_]) ?_;refine Qw (Qo 31 Y (Qm Y (Qw (Qe ?_))));exact AH _ ⟨g9,_,Y,Y,Y⟩ Qs
    refine Av Y ?_ ?_
    ·refine BY [.bool false,.es] Y Ay Y Y (λg9=>Qw (Qo 27 Y (BY [.bool false,.es] Y Ay Y Y (λg8=>Qw (Qo 29 Y ?_)))));refine Sa 0 [_,_] Ay Y (by simp[od,oT,oI,op_,ox_,oq_,or_]) ?_;refine Qw (Qo 30 Y ?_);refine Sa 1 [_,_] Ay Y (by simp[od,oT,oI,op_,ox_,oq_,or_]) ?_;refine Qw (Qo 31 Y (Qm Y (Qw (Qe ?_))))
     (refine V3 ?_;exact AH _ ⟨g9,_,Y,Y,Y⟩ Qs)
    exact AW
   ·obtain⟨g9,ms2,rfl,rfl,rfl⟩:=hI;rw[hz];have s9:∀ms,Seg h1 (BL g9 33 (Bl 0)::ms) (⟨g9,0,none⟩:Addr) (Bl 0):=λms=>Seg.blk 0 Y;refine As (Qx (oG Y BC Ay (s9 _)) Y (Qx (Au Y call60 Y (Ey 0 (Sz.of (B:=0) (Bq.zero 0) δ) _ _)) Y (Qm Y (An (Ax Y (λhc=>ib hc ((λq=>q Y))) (λhc=>Ah (Ai (Ab (Ad (Qm Y (Qx (oA Y) Y (Qm Y (Am ?_)))))))))))));exact Ap (k.m-(j+1)) _ ω ⟨j+1,Y,Y,Y,ω,ω,hdj⟩ Qs
  ·have hjm':j=k.m:=ω
   refine AA (Aa (Aa (Ag (Ai (Ab (Ad (Qm Y (Qx (oA Y) Y (Qm Y (Am ?_))))))))));exact Ap (k.n-(i+1)) _ ω ⟨i+1,Y,Y,Y,ω,ω,hdi.2⟩ Qs
 ·refine AA (Aa (Aa (Ag (Ab (As (Qm Y (Qm Y (An (Aj ?_)))))))));exact Co Y Y Y (Y)
theorem XU(k:Wk)(S:FS)(t B:Nat)(h:Hp)(ms:List Hp)(I:k.In h)(hO:S.Ok k.n k.m B)(hB:B<=1000000)(ht:t<k.n)(F:FsO k S ms) :
  FnT Tryz.prog 186 #[.pointer (some ⟨k.g,0,none⟩),.w t] h ms (λ_ h' ms'=>h=h'/\FsO k (S.neg k.n k.m t) ms'):=by
 have hn:=I.hn;have hm:=I.hm;obtain⟨mu,mui,md,mv,mvi,rfl,Vu,Vui,Vd,Vv,Vvi⟩:=F;have cd_:∀ms,Cell h ms ((⟨k.g,0,none⟩:Addr).add 2) k.hd:=λms=>(I.seg 2 _ Y).any;have cu_:∀ms,Cell h ms ((⟨k.g,0,none⟩:Addr).add 0) k.hu:=λms=>(I.seg 0 _ Y).any;have cui_:∀ms,Cell h ms ((⟨k.g,0,none⟩:Addr).add 1) k.hui:=λms=>(I.seg 1 _ Y).any;have od:=I.rd.rd.one;have ou:=I.ru.rd.one;have oui:=I.rui.rd.one;have rD:Rd h [] k.hd 1 k.n (k.vd.flatMap cU):=by have:=I.rd.rd;rwa [I.ld]at this
 have rU:Rd h [] k.hu 1 k.n (k.vu.flatMap cU):=by have:=I.ru.rd;rwa [I.lu]at this
 have rUI:Rd h [] k.hui 1 k.n (k.vui.flatMap cU):=by have:=I.rui.rd;rwa [I.lui]at this
 obtain⟨vt,evt,cvt⟩:=He I.rd I.ld ht;obtain⟨vut,evut,cvut⟩:=He I.ru I.lu ht;obtain⟨_,rT0⟩:=Fi (h:=h) (ms:=[mu,mui,md,mv,mvi]) hO.sd Vd (.tail _ (.tail _ (.head _))) ht evt;have oT:=rT0.one;refine Ao func186 ntmps186 Y Y (λw0 hw0=>?_);simp only[AS];refine Ac (As (Qm Y (Qm Y (Qf Cf Y (Qf D9 Y (Ql Y CI (cd_ _) (Qm Y (Qx (AM _ rD.any Y CI Ec Y Y Y ω) Y (Ql Y CG (cvt _) (Qx (Aq rT0 Y CG Y) Y (Qm Y (An (Af ?_)))))))))))));refine AC (λq sl h' ms'=>∃(j:Nat) (m1:Hp),k.m-j=q/\sl=[(0,.pointer (some ⟨k.g,0,none⟩)),(1,.w t),(14,.w k.m),(15,.w j)]/\h=h'/\ms'=[mu,mui,m1,mv,mvi]/\j<=k.m/\VsO Bl 2 33 m1 k.vd (negRow t S.d j)) (k.m-0) _ ⟨0,md,Y,Y,Y,Y,ω,Vd⟩ Qs ?_;rintro q sl h' ms' ⟨j,m1,rfl,rfl,rfl,rfl,hj,Vd⟩;refine As (Qm Y (An (Ac ?_)));refine Ax Y (λhlt=>?_) (λhlt=>?_)
 ·have hjm:j<k.m:=ω
  have Sj:=hO.sd.negRow t j;obtain⟨_,rT⟩:=Fi (h:=h) (ms:=[m1,mu,mui,mv,mvi]) Sj Vd (.head _) ht evt;have eT:AO (negRow t S.d j) t j=AO S.d t j:=by rw[Ff hO.sd ht j ω,ab ω]
  have sT:=GF (h:=h) (ms:=[m1,mu,mui,mv,mvi]) Sj Vd (.head _) ht hjm evt;have Sx:=Sz.of (hO.bd t j) ω;have hst:negRow t S.d (j+1)=FN (negRow t S.d j) t j (-(AO S.d t j)):=by show FN _ _ _ _=_;rw[eT]
  rw[eT]at sT;generalize AO S.d t j=x at *;have ox_:(sv (A8 x.natAbs)).oneCell'=true:=rfl;have on_:(sv (A8 (-x).natAbs)).oneCell'=true:=rfl;refine Ah (Ab (Ac (Af (As (Qm Y (Qm Y (An (EI 2 Y (AU (n:=23) (bs:=[ic,ic,ic,ic,ic,ic,ic,ic,ic,ic,ic,ic,ic,ic,ic,ic,ic,ic,ic,ie,ie,ic,ie]) [ic,ic,ic,ic,ic,ic,ic,ic,ic,ic,ic,ic,ic,ic,ic,ic,ic,ic,ic,ie,ie,ic] CK κ κ Y Y (Qq Y (Qq Y (QF Cf Y (QF D9 Y (QL Y CI (cd_ _) (Qq Y (Qp Y (BR (t) rD.any Y CI Ec Y Y) (QL Y CG (cvt _) (Qq Y (Qq Y (Qq Y (QF Cf Y (QF D9 Y (QL Y CI (cd_ _) (Qq Y (Qp Y (BR (t) rD.any Y CI Ec Y Y) (QL Y CG (cvt _) (Qq Y (Qp Y (Bc (j) rT Y CG Ay Y Y ω ω) (Qp Y (Bc (j) rT Y CG Ay Y Y ω ω) ?_)))))))))))))))))))))))))))));unfold Do;simp only[bj,aw];refine Qo 19 Y (Qx (oG Y BC Ay (sT)) Y (Qw (Qo 20 Y (Qx (Au Y call231 Y (Mn x Sx _ _)) Y (Qw (Qo 22 Y (DF t j (-x) Sj Vd ht hjm vt evt Y Ay Y Y Y Y (λm2 Vd2=>Qw (Qe (Ai (Ab (Ad (Qx (oA Y) Y (Qm Y (Am (Ev 2 Y (Ev 2 Y ?_)))))))))))))))));exact Ap (k.m-(j+1)) _ ω ⟨j+1,m2,Y,Y,Y,Y,ω,by rw[hst];exact Vd2⟩ Qs
 ·obtain rfl:j=k.m:=ω
  obtain⟨_,rU0⟩:=Fi (h:=h) (ms:=[mu,mui,m1,mv,mvi]) hO.su Vu (.head _) ht evut;have oUT:=rU0.one;refine AA (Aa (Aa (Ag (Ab (As (Qm Y (Qm Y (Qf Cf Y (Qf JT Y (Ql Y CI (cu_ _) (Qm Y (Qx (BR (t) rU.any Y CI Ec Y Y) Y (Ql Y CG (cvut _) (Qx (Aq rU0 Y CG Y) Y (Qm Y (An (Af ?_)))))))))))))))));refine AC (λq sl h' ms'=>∃(j:Nat) (a1 a2:Hp),k.n-j=q/\sl=[(0,.pointer (some ⟨k.g,0,none⟩)),(1,.w t),(49,.w k.n),(50,.w j)]/\h=h'/\ms'=[a1,a2,m1,mv,mvi]/\j<=k.n/\VsO Bl 2 33 a1 k.vu (negRow t S.u j)/\VsO Bl 2 33 a2 k.vui (negCol t S.ui j)) (k.n-0) _ ⟨0,mu,mui,Y,Y,Y,Y,ω,Vu,Vui⟩ Qs ?_;rintro q sl h' ms' ⟨j,a1,a2,rfl,rfl,rfl,rfl,hj,Vu,Vui⟩;refine As (Qm Y (An (Ac ?_)));refine Ax Y (λhlt=>?_) (λhlt=>?_)
  ·have hjn:j<k.n:=ω
   have Sj:=hO.su.negRow t j;have Tj:=hO.sui.negCol t j;obtain⟨_,rT⟩:=Fi (h:=h) (ms:=[a1,a2,m1,mv,mvi]) Sj Vu (.head _) ht evut;have eT:AO (negRow t S.u j) t j=AO S.u t j:=by rw[Ff hO.su ht j ω,ab ω]
   have sT:=GF (h:=h) (ms:=[a1,a2,m1,mv,mvi]) Sj Vu (.head _) ht hjn evut;have Sx:=Sz.of (hO.bu t j) ω;have hst:negRow t S.u (j+1)=FN (negRow t S.u j) t j (-(AO S.u t j)):=by show FN _ _ _ _=_;rw[eT]
   rw[eT]at sT;obtain⟨vj,evj,cvj⟩:=He I.rui I.lui hjn;have eU:AO (negCol t S.ui j) j t=AO S.ui j t:=by rw[Hw hO.sui ht j ω,ab ω]
   have sU0:∀a1',Seg h [a2,a1',m1,mv,mvi] ((AI vj).add (t*2)) (Bl (AO (negCol t S.ui j) j t)):=λa1'=>GF (h:=h) Tj Vui (.head _) hjn ht evj;have rJ0:∀a1',∃cs,Rd h [a2,a1',m1,mv,mvi] vj 2 k.n cs:=λa1'=>Fi (h:=h) Tj Vui (.head _) hjn evj;have Sy:=Sz.of (hO.bui j t) ω;have hsu:negCol t S.ui (j+1)=FN (negCol t S.ui j) j t (-(AO S.ui j t)):=by show FN _ _ _ _=_;rw[eU]
   rw[eU]at sU0;generalize AO S.u t j=x at *;generalize AO S.ui j t=y at *;have ox_:(sv (A8 x.natAbs)).oneCell'=true:=rfl;have on_:(sv (A8 (-x).natAbs)).oneCell'=true:=rfl;have oy_:(sv (A8 y.natAbs)).oneCell'=true:=rfl;have om_:(sv (A8 (-y).natAbs)).oneCell'=true:=rfl;refine Ah (Ab (Ac (Af (As (Qm Y (Qm Y (An (Ac (AU (n:=23) (bs:=[ic,ic,ic,ic,ic,ic,ic,ic,ic,ic,ic,ic,ic,ic,ic,ic,ic,ic,ic,ie,ie,ic,ie]) [ic,ic,ic,ic,ic,ic,ic,ic,ic,ic,ic,ic,ic,ic,ic,ic,ic,ic,ic,ie,ie,ic] CK κ κ Y Y (Qq Y (Qq Y (QF Cf Y (QF JT Y (QL Y CI (cu_ _) (Qq Y (Qp Y (BR (t) rU.any Y CI Ec Y Y) (QL Y CG (cvut _) (Qq Y (Qq Y (Qq Y (QF Cf Y (QF JT Y (QL Y CI (cu_ _) (Qq Y (Qp Y (BR (t) rU.any Y CI Ec Y Y) (QL Y CG (cvut _) (Qq Y (Qp Y (Bc (j) rT Y CG Ay Y Y ω ω) (Qp Y (Bc (j) rT Y CG Ay Y Y ω ω) ?_)))))))))))))))))))))))))))));unfold Do;simp only[bj,aw];refine Qo 19 Y (Qx (oG Y BC Ay (sT)) Y (Qw (Qo 20 Y (Qx (Au Y call231 Y (Mn x Sx _ _)) Y (Qw (Qo 22 Y (DF t j (-x) Sj Vu ht hjn vut evut Y Ay Y Y Y Y (λb1 Vu2=>Qw (Qe (Ab (EI 1 Y ?_)))))))))));obtain⟨_,rJ⟩:=rJ0 b1;have sU:=sU0 b1;have oJ:=rJ.one;refine AU (n:=23) (bs:=[ic,ic,ic,ic,ic,ic,ic,ic,ic,ic,ic,ic,ic,ic,ic,ic,ic,ic,ic,ie,ie,ic,ie]) [ic,ic,ic,ic,ic,ic,ic,ic,ic,ic,ic,ic,ic,ic,ic,ic,ic,ic,ic,ie,ie,ic] CK κ κ Y Y (Qq Y (Qq Y (QF Cf Y (QF Lr Y (QL Y CI (cui_ _) (Qq Y (Qp Y (BR (j) rUI.any Y CI Ec Y Y) (QL Y CG (cvj _) (Qq Y (Qq Y (Qq Y (QF Cf Y (QF Lr Y (QL Y CI (cui_ _) (Qq Y (Qp Y (BR (j) rUI.any Y CI Ec Y Y) (QL Y CG (cvj _) (Qq Y (Qp Y (Bc (t) rJ Y CG Ay Y Y ω ω) (Qp Y (Bc (t) rJ Y CG Ay Y Y ω ω) ?_))))))))))))))))))));unfold Do;simp only[bj,aw];refine Qo 19 Y (Qx (oG Y BC Ay (sU)) Y (Qw (Qo 20 Y (Qx (Au Y call231 Y (Mn y Sy _ _)) Y (Qw (Qo 22 Y (DF j t (-y) Tj Vui hjn ht vj evj Y Ay Y Y Y Y (λb2 Vui2=>Qw (Qe (Ai (Ab (Ad (Qx (oA Y) Y (Qm Y (Am (Ev 1 Y ?_))))))))))))))));exact Ap (k.n-(j+1)) _ ω ⟨j+1,b1,b2,Y,Y,Y,Y,ω,by rw[hst];exact Vu2,by rw[hsu];exact Vui2⟩ Qs
  ·obtain rfl:j=k.n:=ω
   refine AA (Aa (Aa (Ag ?_)));exact CA Y (⟨Y,a1,a2,m1,mv,mvi,Y,Vu,Vui,Vd,Vv,Vvi⟩)
theorem Dd(r c:Nat)(f:Nat->Nat->Int):Shape r c (BI r c f):=⟨Dr r c f,λi hi=>by
 have hi2:i<(BI r c f).length:=by rw[Dr];exact hi
 rw[show(BI r c f).getD i []=(BI r c f)[i] by simp[List.getD,hi2]]
 simp[BI,B5]⟩
theorem Hf(r c:Nat)(f:Nat->Nat->Int)(i j:Nat):AO (BI r c f) i j=if i<r/\j<c then f i j else 0:=by
 unfold AO BI;by_cases hi:i<r
 ·have e:((range r).map λi=>Dt c (f i)).getD i []=Dt c (f i):=by simp[List.getD,hi]
  rw[e];by_cases hj:j<c
  ·rw[af ⟨hi,hj⟩];simp[List.getD,Dt,hj]
  ·rw[ab (by simp[hj])];simp[List.getD,Dt,hj]
 ·rw[ab (by simp[hi])];have e:((range r).map λi=>Dt c (f i)).getD i []=[]:=by simp[List.getD,hi]
  rw[e];rfl
theorem Ih{r c:Nat}{f:Nat->Nat->Int}(h:∀i j,i<r->j<c->Bq 33 (f i j)):BqM 33 (BI r c f):=λi j=>by
 rw[Hf];split
 ·rename_i q;exact h i j q.1 q.2
 ·exact Bq.zero _
theorem Pf(i j:Nat):Bq 33 (IS i j):=by
 unfold IS;split
 ·exact bq_one.mono δ
 ·exact Bq.zero _
def S6(r c:Nat)(f:Nat->Nat->Int):St:=⟨⟨BI r r IS,BI r r IS,BI r c f,BI c c IS,BI c c IS⟩,0⟩
theorem Adr{r c:Nat}{f:Nat->Nat->Int}(h:∀i j,i<r->j<c->Bq 33 (f i j)):(S6 r c f).S.Ok r c (33*(S6 r c f).b+33):=
 ⟨Dd _ _ _,Dd _ _ _,Dd _ _ _,Dd _ _ _,Dd _ _ _,Ih λ_ _ _ _=>Pf _ _,Ih λ_ _ _ _=>Pf _ _,Ih h,Ih λ_ _ _ _=>Pf _ _,Ih λ_ _ _ _=>Pf _ _⟩
def SmR(v:Value)(h:Hp)(r c:Nat)(S:FS):Prop:=∃eu eui ed ev evi,v=.agg #[.int .i64 r,.int .i64 r,eu,.int .i64 r,.int .i64 r,eui,.int .i64 r,.int .i64 c,ed,.int .i64 c,.int .i64 c,ev,.int .i64 c,.int .i64 c,evi]/\RdL Bl 2 h [] eu S.u.flatten/\RdL Bl 2 h [] eui S.ui.flatten/\RdL Bl 2 h [] ed S.d.flatten/\RdL Bl 2 h [] ev S.v.flatten/\RdL Bl 2 h [] evi S.vi.flatten
theorem WC(va:Value)(r c:Nat)(f:Nat->Nat->Int)(s':St)(h:Hp)(A:MW va h r c (DV r c f))(hf:∀i j,i<r->j<c->Bq 33 (f i j))(hc:EO r c (min r c) 0 (S6 r c f)=some s') :
  FnT Tryz.prog 147 #[va] h [] (λv h' ms'=>h.le h'/\ms'=[]/\s'.S.Ok r c (33*s'.b+33)/\s'.b<=20000/\SmR v h' r c s'.S):=by
 have hr:=A.hr;have hcc:=A.hc;have A0:=A;obtain⟨ea,rfl,RA⟩:=A.ex;have oa:=RA.rd.one;refine Ao func147 ntmps147 Y Y (λw0 hw0=>?_);simp only[AS];refine As (AK [_,_,_] Y Y (by rfl) Y Y Y (λg1=>BY [.w 0,.w 0,.nl,.w 0,.w 0,.nl,.w 0,.w 0,.nl,.w 0,.w 0,.nl,.w 0,.w 0,.nl] Y MJ Y Y (λg2=>An (Aw 1 Y λh1 l1 hS1=>?_))));have l01:=l1;have A1:=A0.up l1;have sg1:∀h',h1.le h'->∀ms,Seg h' ms (⟨g1,0,none⟩:Addr) [.w r,.w c,ea]:=λh' l ms=>Seg.any (hS1.le l);have c10:∀h',h1.le h'->∀ms,Cell h' ms ((⟨g1,0,none⟩:Addr).add 0) (.w r):=λh' l ms=>((hS1 0 _ Y).any).le l;have c11:∀h',h1.le h'->∀ms,Cell h' ms ((⟨g1,0,none⟩:Addr).add 1) (.w c):=λh' l ms=>((hS1 1 _ Y).any).le l;refine Ac (As (Qx (oG Y HQ BM (sg1 _ (BD) _)) Y (Qx (Au Y call146 Y (Iq _ r c _ h1 A1 _)) Y (Qm Y (An (AN Y (Ah (Ab ?_))))))));refine Bt (λsl h' ms'=>∃g3 g4 e3 e4,sl=[(1,.pt g1),(2,.pt g2),(3,.pt g3),(4,.pt g4)]/\h1.le h'/\ms'=[BL g4 91 [.w c,.w c,e4],BL g3 91 [.w r,.w r,e3],BL g2 144 [.w 0,.w 0,.nl,.w 0,.w 0,.nl,.w 0,.w 0,.nl,.w 0,.w 0,.nl,.w 0,.w 0,.nl]]/\MW (.agg #[.w r,.w r,e3]) h' r r (DV r r IS)/\MW (.agg #[.w c,.w c,e4]) h' c c (DV c c IS)) ?_ (λs h ms hI=>?_)
 ·refine AU (n:=10) (bs:=[ic,ic,ie,ic,ic,ie,ie,ie,ie,ie]) [ic,ic,ie,ic,ic] CK κ κ Y Y (QF EH Y (QL Y U3 (c10 _ (BD) _) (QF Dq Y (QL Y U3 (c11 _ (BD) _) ?_))));unfold Do;simp only[bj,aw];refine AV [2,6,7] κ Y ?_;refine Av Y ?_ ?_;refine Az (pre:=[]) Y call180 Y (Ew r hr h1) Y Y Y Y (λz2 k2 ms2 l2 hF=>?_);obtain⟨l2',rfl,hM3⟩:=hF;obtain⟨e3,rfl,R3⟩:=hM3.ex;have o3:=R3.rd.one;refine Qa (AV [5,6,7] κ Y ?_);refine Av Y ?_ ?_;refine Az (pre:=[]) Y call180 Y (Ew c hcc k2) Y Y Y Y (λz5 k5 ms5 l5 hF=>?_);obtain⟨l5',rfl,hM4⟩:=hF;obtain⟨e4,rfl,R4⟩:=hM4.ex;have o4:=R4.rd.one;have l15:=AD l2' l5';refine Qa (AV [6,7] κ Y ?_);refine Av Y ?_ ?_;refine BY [.w 0,.w 0,.nl] Y BM Y Y (λg3=>Qa (Qo 7 Y (BY [.w 0,.w 0,.nl] Y BM Y Y (λg4=>Qa ?_))))
  rotate_left
  refine Av Y ?_ ?_;refine BY [.w 0,.w 0,.nl] Y BM Y Y (λg4=>Qa (Qo 6 Y (BY [.w 0,.w 0,.nl] Y BM Y Y (λg3=>Qa ?_))))
  rotate_left
  exact AW;refine Av Y ?_ ?_;refine BY [.w 0,.w 0,.nl] Y BM Y Y (λg3=>Qa (AV [5,7] κ Y ?_));refine Av Y ?_ ?_;refine Az (pre:=[]) Y call180 Y (Ew c hcc k2) Y Y Y Y (λz5 k5 ms5 l5 hF=>?_);obtain⟨l5',rfl,hM4⟩:=hF;obtain⟨e4,rfl,R4⟩:=hM4.ex;have o4:=R4.rd.one;have l15:=AD l2' l5';refine Qa (Qo 7 Y (BY [.w 0,.w 0,.nl] Y BM Y Y (λg4=>Qa ?_)))
  rotate_left
  refine Av Y ?_ ?_;refine BY [.w 0,.w 0,.nl] Y BM Y Y (λg4=>Qa (Qo 5 Y (Az (pre:=[]) Y call180 Y (Ew c hcc k2) Y Y Y Y (λz5 k5 ms5 l5 hF=>?_))));obtain⟨l5',rfl,hM4⟩:=hF;obtain⟨e4,rfl,R4⟩:=hM4.ex;have o4:=R4.rd.one;have l15:=AD l2' l5';refine Qa ?_
  rotate_left
  exact AW;refine Av Y ?_ ?_;refine BY [.w 0,.w 0,.nl] Y BM Y Y (λg4=>Qa (AV [5,6] κ Y ?_));refine Av Y ?_ ?_;refine Az (pre:=[]) Y call180 Y (Ew c hcc k2) Y Y Y Y (λz5 k5 ms5 l5 hF=>?_);obtain⟨l5',rfl,hM4⟩:=hF;obtain⟨e4,rfl,R4⟩:=hM4.ex;have o4:=R4.rd.one;have l15:=AD l2' l5';refine Qa (Qo 6 Y (BY [.w 0,.w 0,.nl] Y BM Y Y (λg3=>Qa ?_)))
  rotate_left
  refine Av Y ?_ ?_;refine BY [.w 0,.w 0,.nl] Y BM Y Y (λg3=>Qa (Qo 5 Y (Az (pre:=[]) Y call180 Y (Ew c hcc k2) Y Y Y Y (λz5 k5 ms5 l5 hF=>?_))));obtain⟨l5',rfl,hM4⟩:=hF;obtain⟨e4,rfl,R4⟩:=hM4.ex;have o4:=R4.rd.one;have l15:=AD l2' l5';refine Qa ?_
  rotate_left
  exact AW;exact AW;refine Av Y ?_ ?_;refine BY [.w 0,.w 0,.nl] Y BM Y Y (λg3=>Qw (AV [2,7] κ Y ?_));refine Av Y ?_ ?_;refine Az (pre:=[]) Y call180 Y (Ew r hr h1) Y Y Y Y (λz2 k2 ms2 l2 hF=>?_);obtain⟨l2',rfl,hM3⟩:=hF;obtain⟨e3,rfl,R3⟩:=hM3.ex;have o3:=R3.rd.one;refine Qa (AV [5,7] κ Y ?_);refine Av Y ?_ ?_;refine Az (pre:=[]) Y call180 Y (Ew c hcc k2) Y Y Y Y (λz5 k5 ms5 l5 hF=>?_);obtain⟨l5',rfl,hM4⟩:=hF;obtain⟨e4,rfl,R4⟩:=hM4.ex;have o4:=R4.rd.one;have l15:=AD l2' l5';refine Qa (Qo 7 Y (BY [.w 0,.w 0,.nl] Y BM Y Y (λg4=>Qa ?_)))
  rotate_left
  refine Av Y ?_ ?_;refine BY [.w 0,.w 0,.nl] Y BM Y Y (λg4=>Qa (Qo 5 Y (Az (pre:=[]) Y call180 Y (Ew c hcc k2) Y Y Y Y (λz5 k5 ms5 l5 hF=>?_))));obtain⟨l5',rfl,hM4⟩:=hF;obtain⟨e4,rfl,R4⟩:=hM4.ex;have o4:=R4.rd.one;have l15:=AD l2' l5';refine Qa ?_
  rotate_left
  exact AW;refine Av Y ?_ ?_;refine BY [.w 0,.w 0,.nl] Y BM Y Y (λg4=>Qw (Qo 2 Y (Az (pre:=[]) Y call180 Y (Ew r hr h1) Y Y Y Y (λz2 k2 ms2 l2 hF=>?_))));obtain⟨l2',rfl,hM3⟩:=hF;obtain⟨e3,rfl,R3⟩:=hM3.ex;have o3:=R3.rd.one;refine Qa (Qo 5 Y (Az (pre:=[]) Y call180 Y (Ew c hcc k2) Y Y Y Y (λz5 k5 ms5 l5 hF=>?_)));obtain⟨l5',rfl,hM4⟩:=hF;obtain⟨e4,rfl,R4⟩:=hM4.ex;have o4:=R4.rd.one;have l15:=AD l2' l5';refine Qa ?_
  rotate_left
  exact AW;refine Av Y ?_ ?_;refine BY [.w 0,.w 0,.nl] Y BM Y Y (λg4=>Qw (AV [2,6] κ Y ?_));refine Av Y ?_ ?_;refine Az (pre:=[]) Y call180 Y (Ew r hr h1) Y Y Y Y (λz2 k2 ms2 l2 hF=>?_);obtain⟨l2',rfl,hM3⟩:=hF;obtain⟨e3,rfl,R3⟩:=hM3.ex;have o3:=R3.rd.one;refine Qa (AV [5,6] κ Y ?_);refine Av Y ?_ ?_;refine Az (pre:=[]) Y call180 Y (Ew c hcc k2) Y Y Y Y (λz5 k5 ms5 l5 hF=>?_);obtain⟨l5',rfl,hM4⟩:=hF;obtain⟨e4,rfl,R4⟩:=hM4.ex;have o4:=R4.rd.one;have l15:=AD l2' l5';refine Qa (Qo 6 Y (BY [.w 0,.w 0,.nl] Y BM Y Y (λg3=>Qa ?_)))
  rotate_left
  refine Av Y ?_ ?_;refine BY [.w 0,.w 0,.nl] Y BM Y Y (λg3=>Qa (Qo 5 Y (Az (pre:=[]) Y call180 Y (Ew c hcc k2) Y Y Y Y (λz5 k5 ms5 l5 hF=>?_))));obtain⟨l5',rfl,hM4⟩:=hF;obtain⟨e4,rfl,R4⟩:=hM4.ex;have o4:=R4.rd.one;have l15:=AD l2' l5';refine Qa ?_
  rotate_left
  exact AW;refine Av Y ?_ ?_;refine BY [.w 0,.w 0,.nl] Y BM Y Y (λg3=>Qw (Qo 2 Y (Az (pre:=[]) Y call180 Y (Ew r hr h1) Y Y Y Y (λz2 k2 ms2 l2 hF=>?_))));obtain⟨l2',rfl,hM3⟩:=hF;obtain⟨e3,rfl,R3⟩:=hM3.ex;have o3:=R3.rd.one;refine Qa (Qo 5 Y (Az (pre:=[]) Y call180 Y (Ew c hcc k2) Y Y Y Y (λz5 k5 ms5 l5 hF=>?_)));obtain⟨l5',rfl,hM4⟩:=hF;obtain⟨e4,rfl,R4⟩:=hM4.ex;have o4:=R4.rd.one;have l15:=AD l2' l5';refine Qa ?_
  rotate_left
  exact AW;exact AW
  all_goals
   refine Qo 8 Y ?_
   first|refine Sa 0 [_,_,_] BM Y (by simp[oa,o3,o4]) ?_|refine Sa 1 [_,_,_] BM Y (by simp[oa,o3,o4]) ?_
   refine Qa (Qo 9 Y ?_)
   first|refine Sa 0 [_,_,_] BM Y (by simp[oa,o3,o4]) ?_|refine Sa 1 [_,_,_] BM Y (by simp[oa,o3,o4]) ?_
   refine Qa (Qe ?_)
   first|exact AH _ ⟨g3,g4,e3,e4,Y,l15,Y,hM3.up l5',hM4⟩ Qs|(refine V3 ?_;exact AH _ ⟨g3,g4,e3,e4,Y,l15,Y,hM3.up l5',hM4⟩ Qs)
 ·obtain⟨g3,g4,e3,e4,rfl,l12,rfl,hM3,hM4⟩:=hI;have A2:=A1.up l12;refine Aw 0 Y λh3 l3 hS4=>(Aw 0 Y λh4 l4 hS3=>?_)
  have l24:=AD l3 l4;have l14:=AD l12 l24;have o3:=(hM3.ex.choose_spec.2).rd.one;have sg3:∀h',h4.le h'->∀ms,Seg h' ms (⟨g3,0,none⟩:Addr) [.w r,.w r,e3]:=λh' l ms=>Seg.any (hS3.le l);have sg4:∀h',h4.le h'->∀ms,Seg h' ms (⟨g4,0,none⟩:Addr) [.w c,.w c,e4]:=λh' l ms=>Seg.any (hS4.le (AD l4 l));have B3:=hM3.up l24;have B4:=hM4.up l24;have BA:=A2.up l24;refine Ac (AU (n:=19) (bs:=[ic,ie,ic,ie,ic,ie,ic,ie,ic,ie,ie,ic,ic,ic,ic,ic,ie,ie,ie]) [ic,ie,ic,ie,ic,ie,ic,ie,ic,ie,ie,ic,ic,ic,ic,ic] CK κ κ Y Y (Qp Y (oG Y HQ BM (sg3 _ (BD) _)) (Qp Y (oG Y HQ BM (sg3 _ (BD) _)) (Qp Y (oG Y HQ BM (sg1 _ l14 _)) (Qp Y (oG Y HQ BM (sg4 _ (BD) _)) (Qp Y (oG Y HQ BM (sg4 _ (BD) _)) (QF EH Y (QL Y U3 (c10 _ l14 _) (QF Dq Y (QL Y U3 (c11 _ l14 _) (Qp Y (Xi [.w 0,.w 0] [(0,[_]),(1,[_])] [_,_] Y UI Aex Y Bp Y Qt Y) ?_)))))))))));unfold Do;simp only[bj,aw];refine Qo 1 Y (Az (pre:=[]) Y call181 Y (LX _ r r IS h4 B3) Y Y Y Y (λhu k1 ms1 l1 hF=>?_));obtain⟨j1,mu,vu,rfl,Ru,Lu,Vu⟩:=hF;have ou:=Ru.rd.one;refine Qa (Qo 3 Y (Az (pre:=[]) Y call181 Y (LX _ r r IS k1 (B3.up j1)) Y Y Y Y (λhui k2 ms2 l2 hF=>?_)));obtain⟨j2,mui,vui,rfl,Rui,Lui,Vui⟩:=hF;have oui:=Rui.rd.one;have j12:=AD j1 j2;refine Qa (Qo 5 Y (Az (pre:=[]) Y call181 Y (LX _ r c f k2 (BA.up j12)) Y Y Y Y (λhd k3 ms3 l3 hF=>?_)));obtain⟨j3,md,vd,rfl,Rd_,Ld,Vd⟩:=hF;have od:=Rd_.rd.one;have j13:=AD j12 j3;refine Qa (Qo 7 Y (Az (pre:=[]) Y call181 Y (LX _ c c IS k3 (B4.up j13)) Y Y Y Y (λhv k4 ms4 l4 hF=>?_)));obtain⟨j4,mv,vv,rfl,Rv,Lv,Vv⟩:=hF;have ov:=Rv.rd.one;have j14:=AD j13 j4;refine Qa (Qo 9 Y (Az (pre:=[]) Y call181 Y (LX _ c c IS k4 (B4.up j14)) Y Y Y Y (λhvi k5 ms5 l5 hF=>?_)));obtain⟨j5,mvi,vvi,rfl,Rvi,Lvi,Vvi⟩:=hF;have ovi:=Rvi.rd.one;have j15:=AD j14 j5;obtain⟨au,cu,rfl,_⟩:=Ru.rd.ex;obtain⟨aui,cui,rfl,_⟩:=Rui.rd.ex;obtain⟨ad,cd,rfl,_⟩:=Rd_.rd.ex;obtain⟨av,cv,rfl,_⟩:=Rv.rd.ex;obtain⟨avi,cvi,rfl,_⟩:=Rvi.rd.ex;refine Qa (Bd 10 30 κ Y (by assumption) Y (AP AeH [.nl,.nl,.nl,.nl,.nl] [(0,_),(1,_),(2,_),(3,_),(4,_)] [_,_,_,_,_] Y Afc Y Y Qt Y) (Bd 16 36 κ Y (by assumption) Y (AP Afe [.nl,.nl,.nl,.nl,.nl,.w 0,.w 0] [(0,_),(5,_)] [_,_,_,_,_,_,_] Y AeC Y Y Qt Y) (Qo 17 Y (AK [_,_,_,_,_,_,_] Y Y (by rfl) Y Y Y (λg37=>Qa (Qo 18 Y (Qm Y (Qa (Qe (Aw 0 Y λh5 l5 hS37=>?_))))))))));have l45:=AD j15 l5;obtain⟨k,hk⟩:∃k:Wk,k=⟨g37,r,c,.slice au vu.length cu,.slice aui vui.length cui,.slice ad vd.length cd,.slice av vv.length cv,.slice avi vvi.length cvi,vu,vui,vd,vv,vvi⟩:=⟨_,Y⟩
  have I5:k.In h5:=by rw[hk];exact⟨hS37,hr,hcc,(Ru.up (AD j2 (AD j3 (AD j4 j5)))).up l5,(Rui.up (AD j3 (AD j4 j5))).up l5,(Rd_.up (AD j4 j5)).up l5,(Rv.up j5).up l5,Rvi.up l5,Lu,Lui,Ld,Lv,Lvi⟩
  have F0:FsO k (S6 r c f).S [mu,mui,md,mv,mvi]:=by rw[hk];exact⟨mu,mui,md,mv,mvi,Y,Vu,Vui,Vd,Vv,Vvi⟩
  have ekn:k.n=r:=by rw[hk]
  have ekm:k.m=c:=by rw[hk]
  have ekg:k.g=g37:=by rw[hk]
  have O0:OkS k (S6 r c f):=by show FS.Ok _ _ _ _;rw[ekn,ekm];exact Adr hf
  refine EI 1 Y (EI 2 Y (EI 3 Y (EI 4 Y ?_)));have os1:(sv (A8 1)).oneCell'=true:=rfl;refine Ab (As (Qx (Au Y call95 Y (GL 1 δ _ _)) Y (BY [.bool false,.es] Y Ay Y Y (λg6=>?_))));refine Sa 0 [_,_] Ay Y (by simp[os1]) ?_;refine An (JV ?_);have l15:h1.le h5:=AD l14 l45;refine Bt (λsl h' ms'=>∃mx,sl=[(1,.pt g1),(2,.pt g2),(5,.pt g37)]/\h5.le h'/\ms'=mx++[BL g2 144 [.w 0,.w 0,.nl,.w 0,.w 0,.nl,.w 0,.w 0,.nl,.w 0,.w 0,.nl,.w 0,.w 0,.nl]]/\OkS k s'/\s'.b<=20000/\FsO k s'.S mx) ?_ (λs h ms hI=>?_)
  ·refine Ac (Ad (Qm Y (An (Af ?_))));refine AC (λq sl h' ms'=>∃(t:Nat) (s:St) (mx:List Hp),min r c-t=q/\sl=[(1,.pt g1),(2,.pt g2),(5,.pt g37),(7,.w t)]/\h5.le h'/\ms'=mx++[BL g2 144 [.w 0,.w 0,.nl,.w 0,.w 0,.nl,.w 0,.w 0,.nl,.w 0,.w 0,.nl,.w 0,.w 0,.nl]]/\t<=min r c/\OkS k s/\s.b<=20000/\FsO k s.S mx/\EO r c (min r c-t) t s=some s') (min r c) _ ⟨0,S6 r c f,_,Y,Y,BD,Y,ω,O0,by show(0:Nat)<=_;omega,F0,hc⟩ Qs ?_;rintro q sl h' ms' ⟨t,s,mx,rfl,rfl,lh,rfl,htm,hO,hb,F,hfp⟩;have I:=I5.le lh;have l1h:=AD l15 lh;obtain⟨mu,mui,md,mv,mvi,hms,hVs⟩:=F;have F:FsO k s.S mx:=⟨mu,mui,md,mv,mvi,hms,hVs⟩
   subst hms;refine Ac (As (Qm Y (Qf EH Y (Ql Y U3 (c10 _ l1h _) (Qf Dq Y (Ql Y U3 (c11 _ l1h _) (Qx (Ur Y Y Y) Y (Qm Y (Qm Y ?_)))))))));refine AY (t:=46) Y (λhlt=>?_) (λhlt=>?_)
   ·have htr:t<k.n:=ω
    have htc:t<k.m:=ω
    obtain⟨s1,r1,e1⟩:∃s1 r1,EU r c t s=some (s1,r1):=by
     rw[show min r c-t=(min r c-(t+1))+1 by omega]at hfp;unfold EO at hfp;rw[af ω]at hfp;cases hq:EU r c t s with
     | none=>rw[hq]at hfp;cases hfp
     | some p=>exact⟨p.1,p.2,Y⟩
    have e1k:EU k.n k.m t s=some (s1,r1):=by rw[ekn,ekm];exact e1
    have hb1:=ZI hb e1k;refine Qg (Ar Y Y) Y (Qg (Ar Y Y) Y (Bh Y Y Y Y ?_));refine Az (pre:=[mu,mui,md,mv,mvi]) Y call182 Y ((by have:=Z0 k s s1 t r1 h' _ I hO hb e1k htr htc F;rw[ekg]at this;exact this)) Y Y Y Y (λz2 k2 ms2 l2 hF=>?_);obtain⟨l2',rfl,hO1,F1⟩:=hF;refine Qm Y (An ?_);refine Ct Y (λhr1=>?_) (λhr1=>?_)
    ·subst hr1
     obtain⟨s2,e2,e3⟩:∃s2,Ki r c t s1=some s2/\EO r c (min r c-(t+1)) (t+1) s2=some s':=by
      rw[show min r c-t=(min r c-(t+1))+1 by omega]at hfp;unfold EO at hfp;rw[af ω,e1]at hfp;simp only at hfp;cases hq:Ki r c t s1 with
      | none=>rw[hq]at hfp;cases hfp
      | some s2=>rw[hq]at hfp;exact⟨s2,Y,hfp⟩
     obtain⟨sx,e4,hp0,hp1,hdv,e5⟩:∃sx,D4 r c t 10 s1=some sx/\AO sx.S.d t t≠0/\(AO sx.S.d t t).natAbs<2147483648/\Nw sx.S.d c t (AO sx.S.d t t) (r-(t+1)) (t+1)=true/\(if AO sx.S.d t t<0 then some ⟨sx.S.neg r c t,sx.b⟩ else some sx)=some s2:=by
      unfold Ki at e2;cases hq:D4 r c t 10 s1 with
      | none=>rw[hq]at e2;cases e2
      | some sx=>
       rw[hq]at e2;simp only at e2;by_cases h1:AO sx.S.d t t=0\/WV (AO sx.S.d t t)=false
       ·rw[af h1]at e2;cases e2
       ·rw[ab h1]at e2;by_cases h2:Nw sx.S.d c t (AO sx.S.d t t) (r-(t+1)) (t+1)=true
        ·rw[af h2]at e2;exact⟨sx,Y,λq=>h1 (.inl q),LW λq=>h1 (.inr q),h2,e2⟩
        ·rw[ab h2]at e2;cases e2
     have e4k:D4 k.n k.m t 10 s1=some sx:=by rw[ekn,ekm];exact e4
     have hdvk:Nw sx.S.d k.m t (AO sx.S.d t t) (k.n-(t+1)) (t+1)=true:=by rw[ekn,ekm];exact hdv
     have hbx:=Rq hb1 e4k;have l1k:=AD l1h l2';have I2:=I.le l2';refine Ah (Ab (Ac (Af (Ac (Af (AC (λq sl hh ms'=>sl=[(1,.pt g1),(2,.pt g2),(5,.pt g37),(7,.w t)]/\k2=hh/\ms'=ms2++[BL g2 144 [.w 0,.w 0,.nl,.w 0,.w 0,.nl,.w 0,.w 0,.nl,.w 0,.w 0,.nl,.w 0,.w 0,.nl]]) 0 _ ⟨Y,Y,Y⟩ Qs ?_))))));rintro q sl hh ms' ⟨rfl,rfl,rfl⟩;refine Af (As (Qm Y (Qm Y ?_)));refine Az (pre:=ms2) Y call183 Y ((by have:=YI k s1 sx t 10 k2 _ I2 hO1 e4k htr htc F1;rw[ekg]at this;exact this)) Y Y Y Y (λz3 k3 ms3 l3 hF=>?_);obtain⟨l3',hOx,Fx⟩:=hF;refine Bw (Qm Y (Qm Y ?_));refine Az (pre:=ms3) Y call184 Y ((by have:=Ug k sx t k3 _ (I2.le l3') hOx hbx hp0 hp1 hdvk htr htc Fx;rw[ekg]at this;exact this)) Y Y Y Y (λz4 k4 ms4 l4 hF=>?_);obtain⟨rfl,m0,rfl,rfl⟩:=hF;rw[di];refine Hv ?_ m0;refine Qm Y (Qm Y (Qm Y (Qm Y (Qm Y (An (Ac (As (Qm Y (Qm Y (An ?_))))))))));refine Ct Y (λhq=>?_) (λhq=>?_)
     ·have l35:=AD lh (AD l2' l3');have I3:=I2.le l3';have cd_:∀ms,Cell k3 ms ((⟨g37,0,none⟩:Addr).add 2) k.hd:=λms=>by have:=((I3.seg 2 _ Y).any (ms:=ms));rw[ekg]at this;exact this
      have rD:Rd k3 [] k.hd 1 k.n (k.vd.flatMap cU):=by have:=I3.rd.rd;rwa [I3.ld]at this
      obtain⟨vt,evt,cvt⟩:=He I3.rd I3.ld htr;have od:=rD.one;obtain⟨_,rT0⟩:=Fx.rw_ (h:=k3) hOx htr evt;have rT:Rd k3 (ms3++[BL g2 144 [.w 0,.w 0,.nl,.w 0,.w 0,.nl,.w 0,.w 0,.nl,.w 0,.w 0,.nl,.w 0,.w 0,.nl]]) vt 2 k.m _:=rT0.sub (λm hm=>List.mem_append_left _ hm);have oT:=rT0.one;have sTT:=(Fx.el (h:=k3) hOx htr htc evt).sub (ms':=ms3++[BL g2 144 [.w 0,.w 0,.nl,.w 0,.w 0,.nl,.w 0,.w 0,.nl,.w 0,.w 0,.nl,.w 0,.w 0,.nl]]) (λm hm=>List.mem_append_left _ hm);have Sp:=GB hp1;have ox_:(sv (A8 (AO sx.S.d t t).natAbs)).oneCell'=true:=rfl;refine AA (Aa (OP Y (Aa (Ag (Ab (As (Qm Y (Qm Y (Qf Cf Y (Qf D9 Y (Ql Y CI (cd_ _) (Qm Y (Qx (BR (t) rD.any Y CI Ec Y Y) Y (Ql Y CG (cvt _) (Qm Y (Qx (Bc (t) rT Y CG Ay Y Y ω ω) Y (Qx (oG Y BC Ay (sTT)) Y (Qx (Au Y call60 Y (Ey _ Sp _ _)) Y (Qm Y (An ?_))))))))))))))))))));refine Ax Y (λhneg=>?_) (λhneg=>?_)
      ·have hng:AO sx.S.d t t<0:=by
        rcases Int.lt_trichotomy (AO sx.S.d t t) 0 with h|h|h
        ·exact h
        ·rw[h]at hneg;exact ib hneg δ
        ·rw[Int.sign_eq_one_of_pos h]at hneg;exact ib hneg δ
       rw[af hng]at e5;have e5:=ax e5;subst e5;refine Ad (Qm Y (Qm Y ?_));refine Az (pre:=ms3) Y call186 Y ((by have:=XU k sx.S t _ k3 _ I3 hOx ω htr Fx;rw[ekg]at this;exact this)) Y Y Y Y (λz5 k5 ms5 l5 hF=>?_);obtain⟨rfl,Fn⟩:=hF;rw[ekn,ekm]at Fn;have On:OkS k ⟨sx.S.neg r c t,sx.b⟩:=by have:=FS.Ok.neg hOx htr;rw[ekn,ekm]at this;show FS.Ok _ _ _ _;rw[ekn,ekm];exact this
       refine Am (Ai (Ab (Ad (Qm Y (Qx (oA Y) Y (Qm Y (Am ?_)))))));exact Ap (min r c-(t+1)) _ ω ⟨t+1,_,ms5,Y,Y,l35,Y,ω,On,hbx,Fn,e3⟩ Qs
      ·have hng:¬AO sx.S.d t t<0:=λh=>hneg (by rw[Int.sign_eq_neg_one_of_neg h];decide);rw[ab hng]at e5;have e5:=ax e5;subst e5;refine Ah (Ai (Ab (Ad (Qm Y (Qx (oA Y) Y (Qm Y (Am ?_)))))));exact Ap (min r c-(t+1)) _ ω ⟨t+1,_,ms3,Y,Y,l35,Y,ω,hOx,hbx,Fx,e3⟩ Qs
     ·exact ib hq δ
    ·subst hr1
     have e2:s1=s':=by rw[show min r c-t=(min r c-(t+1))+1 by omega]at hfp;unfold EO at hfp;rw[af ω,e1]at hfp;exact ax hfp
     subst e2;refine AA (Aa (Aa (Ag ?_)));exact AH _ ⟨ms2,Y,AD lh l2',Y,hO1,hb1,F1⟩ Qs
   ·have e2:s=s':=by
     cases hq:min r c-t with
     | zero=>rw[hq]at hfp;exact ax hfp
     | succ q=>
      rw[hq]at hfp;unfold EO at hfp;rw[ab ω]at hfp;exact ax hfp
    subst e2;refine Qk Y (Qk Y (Qk Y (Qm Y (An (AN Y (AA (Aa (Aa (Ag ?_)))))))));exact AH _ ⟨_,Y,lh,Y,hO,hb,F⟩ Qs
  ·obtain⟨mx,rfl,lh,rfl,hO,hb,F⟩:=hI;obtain⟨mu,mui,md,mv,mvi,rfl,Vu,Vui,Vd,Vv,Vvi⟩:=F;have I:=I5.le lh;have hOrc:s'.S.Ok r c (33*s'.b+33):=by have:FS.Ok _ _ _ _:=hO;rw[ekn,ekm]at this;exact this
   refine Ms λh6 l6 mu6=>(Ms λh7 l7 mui7=>(Ms λh8 l8 md8=>(Ms λh9 l9 mv9=>(Ms λh10 l10 mvi10=>?_))))
   have q89:=AD l8 (AD l9 l10);have q9:=AD l9 l10;have q7:=AD l7 q89;have q6:=AD l6 q7;have I10:=I.le q6;have l110:=AD l15 (AD lh q6);have gen:∀{hv:Value} {vs:List Value} {M:List (List Int)} {m:Hp},RdL cU 1 h10 [] hv vs->VsO Bl 2 33 m vs M->m.le h10->GrR hv h10 vs M:=λR V lm=>⟨R,V.len,λi h1 h2=>V.rdh lm h1 h2⟩
   have Gu:=gen I10.ru Vu (AD mu6 q7);have Gui:=gen I10.rui Vui (AD mui7 q89);have Gd:=gen I10.rd Vd (AD md8 q9);have Gv:=gen I10.rv Vv (AD mv9 l10);have Gvi:=gen I10.rvi Vvi mvi10
   have shl:∀{n c:Nat} {M:List (List Int)},Shape n c M->n<=200->c<=200->M.length<=1000/\M.flatten.length<=1000000:=λ{n c M} S hn hc=>by
    have h1:=S.len
    have h2:M.flatten.length=M.length*c:=SI λl hl=>by obtain⟨i,hi,rfl⟩:=List.getElem_of_mem hl;have:=S.row i (by rw[<-S.len];exact hi);simpa[List.getD,hi] using this
    have h3:M.length*c<=200*200:=ff ω hc;omega
   have Su:=shl hOrc.su hr hr;have Sui:=shl hOrc.sui hr hr;have Sd:=shl hOrc.sd hr hcc;have Sv:=shl hOrc.sv hcc hcc;have Svi:=shl hOrc.svi hcc hcc;have eu:=hOrc.su.len;have eui:=hOrc.sui.len;have ed:=hOrc.sd.len;have ev_:=hOrc.sv.len;have evi:=hOrc.svi.len;have f0:∀ms,Cell h10 ms ((⟨g37,0,none⟩:Addr).add 0) k.hu:=λms=>by have:=((I10.seg 0 _ Y).any (ms:=ms));rw[ekg]at this;exact this
   have f1:∀ms,Cell h10 ms ((⟨g37,0,none⟩:Addr).add 1) k.hui:=λms=>by have:=((I10.seg 1 _ Y).any (ms:=ms));rw[ekg]at this;exact this
   have f2:∀ms,Cell h10 ms ((⟨g37,0,none⟩:Addr).add 2) k.hd:=λms=>by have:=((I10.seg 2 _ Y).any (ms:=ms));rw[ekg]at this;exact this
   have f3:∀ms,Cell h10 ms ((⟨g37,0,none⟩:Addr).add 3) k.hv:=λms=>by have:=((I10.seg 3 _ Y).any (ms:=ms));rw[ekg]at this;exact this
   have f4:∀ms,Cell h10 ms ((⟨g37,0,none⟩:Addr).add 4) k.hvi:=λms=>by have:=((I10.seg 4 _ Y).any (ms:=ms));rw[ekg]at this;exact this
   have w0:=I10.ru.rd.one;have w1:=I10.rui.rd.one;have w2:=I10.rd.rd.one;have w3:=I10.rv.rd.one;have w4:=I10.rvi.rd.one;refine Ac (AU (n:=42) (bs:=[ic,ic,ic,ic,ic,ic,ic,ie,ic,ic,ic,ic,ic,ic,ic,ie,ic,ic,ic,ic,ic,ic,ic,ie,ic,ic,ic,ic,ic,ic,ic,ie,ic,ic,ic,ic,ic,ic,ic,ie,ie,ie]) [ic,ic,ic,ic,ic,ic,ic,ie,ic,ic,ic,ic,ic,ic,ic,ie,ic,ic,ic,ic,ic,ic,ic,ie,ic,ic,ic,ic,ic,ic,ic,ie,ic,ic,ic,ic,ic,ic,ic] CK κ κ rfl rfl (Qq rfl (Qq rfl (QF Cf rfl (QF JT rfl (QL rfl CI (f0 _) (QF EH rfl (QL rfl U3 (c10 _ l110 _) (Qq rfl (Qq rfl (QF Cf rfl (QF Lr rfl (QL rfl CI (f1 _) (QF EH rfl (QL rfl U3 (c10 _ l110 _) (Qq rfl (Qq rfl (QF Cf rfl (QF D9 rfl (QL rfl CI (f2 _) (QF Dq rfl (QL rfl U3 (c11 _ l110 _) (Qq rfl (Qq rfl (QF Cf rfl (QF VV rfl (QL rfl CI (f3 _) (QF Dq rfl (QL rfl U3 (c11 _ l110 _) (Qq rfl (Qq rfl (QF Cf rfl (QF U0 rfl (QL rfl CI (f4 _) (QF Dq rfl (QL rfl U3 (c11 _ l110 _) ?_))))))))))))))))))))))))))))))))))));unfold Do;simp only[bj,aw];refine Qo 7 rfl (Az (pre:=[]) rfl call187 rfl (J8 _ _ s'.S.u r h10 Gu Su.1 Su.2) rfl rfl rfl rfl (λzu k1 ms1 l1 hF=>?_));obtain⟨j1,rfl,xu,rfl,Xu⟩:=hF;have ou:=Xu.rd.one;refine Qa (Qo 15 rfl (Az (pre:=[]) rfl call187 rfl (J8 _ _ s'.S.ui r k1 ⟨Gui.hd.up j1,Gui.len,λi h1 h2=>(Gui.row i h1 h2).up j1⟩ Sui.1 Sui.2) rfl rfl rfl rfl (λzui k2 ms2 l2 hF=>?_)));obtain⟨j2,rfl,xui,rfl,Xui⟩:=hF;have oui:=Xui.rd.one;have j12:=AD j1 j2;refine Qa (Qo 23 rfl (Az (pre:=[]) rfl call187 rfl (J8 _ _ s'.S.d c k2 ⟨Gd.hd.up j12,Gd.len,λi h1 h2=>(Gd.row i h1 h2).up j12⟩ Sd.1 Sd.2) rfl rfl rfl rfl (λzd k3 ms3 l3 hF=>?_)));obtain⟨j3,rfl,xd,rfl,Xd⟩:=hF;have od:=Xd.rd.one;have j13:=AD j12 j3;refine Qa (Qo 31 rfl (Az (pre:=[]) rfl call187 rfl (J8 _ _ s'.S.v c k3 ⟨Gv.hd.up j13,Gv.len,λi h1 h2=>(Gv.row i h1 h2).up j13⟩ Sv.1 Sv.2) rfl rfl rfl rfl (λzv k4 ms4 l4 hF=>?_)));obtain⟨j4,rfl,xv,rfl,Xv⟩:=hF;have ov:=Xv.rd.one;have j14:=AD j13 j4;refine Qa (Qo 39 rfl (Az (pre:=[]) rfl call187 rfl (J8 _ _ s'.S.vi c k4 ⟨Gvi.hd.up j14,Gvi.len,λi h1 h2=>(Gvi.row i h1 h2).up j14⟩ Svi.1 Svi.2) rfl rfl rfl rfl (λzvi k5 ms5 l5 hF=>?_)));obtain⟨j5,rfl,xvi,rfl,Xvi⟩:=hF;have ovi:=Xvi.rd.one;have j15:=AD j14 j5;obtain⟨a1,b1,rfl,_⟩:=Xu.rd.ex;obtain⟨a2,b2,rfl,_⟩:=Xui.rd.ex;obtain⟨a3,b3,rfl,_⟩:=Xd.rd.ex;obtain⟨a4,b4,rfl,_⟩:=Xv.rd.ex;obtain⟨a5,b5,rfl,_⟩:=Xvi.rd.ex;refine Qa ?_;refine Bd 40 129 κ rfl (by assumption) rfl (AP AeI [.w 0,.w 0,.nl,.w 0,.w 0,.nl,.w 0,.w 0,.nl,.w 0,.w 0,.nl,.w 0,.w 0,.nl] [(0,_),(3,_),(6,_),(9,_),(12,_)] [_,_,_,_,_,_,_,_,_,_,_,_,_,_,_] rfl MJ rfl rfl (by repeat (first|exact eo|refine⟨⟨rfl,rfl,rfl⟩,?_⟩|refine⟨⟨(rT).cells,rfl,rfl⟩,?_⟩)) rfl) ?_;refine Qo 41 rfl ?_;refine Sa 0 [_,_,_,_,_,_,_,_,_,_,_,_,_,_,_] MJ rfl (by simp[Value.oneCell']) ?_;refine Qa (Qe ?_);rw[eu,eui,ed,ev_,evi];refine Ab (Aj ?_);exact Bx (vs:=[_,_,_,_,_,_,_,_,_,_,_,_,_,_,_]) 0 rfl rfl AeQ rfl MJ rfl rfl (⟨AD l01 (AD l110 j15),rfl,hOrc,hb,_,_,_,_,_,rfl,Xu.up (AD j2 (AD j3 (AD j4 j5))),Xui.up (AD j3 (AD j4 j5)),Xd.up (AD j4 j5),Xv.up j5,Xvi⟩)
theorem ItrS.itr{P:Program}{gf:FuncId}{lb:List Value}{h:Hp}{N:Nat}{enc:Nat->List Value}(I:ItrS P gf lb h N enc):Itr P gf lb h N enc:=λlp X h1 ms hl hY h0=>
 (I lp X (λ_ _ _=>False) h1 ms hl (λk h2 ms2 hk l2 hX w hw=>by
  obtain⟨fn,tmps,asg,b,e1,e2⟩:=hY k h2 ms2 hk l2 hX w hw
  exact⟨fn,tmps,asg,b,e1,e2.mono λx w' ⟨r,h',ms',a,c,d⟩=>⟨r,h',ms',a,c,.inl d⟩⟩) h0).mono λ_ _ _ q=>q.resolve_right λ⟨_,_,f⟩=>f
theorem LJ(n:Int)(hn:Sz n)(h:Hp)(ms:List Hp):FnV Tryz.prog 99 #[WD n] h ms (.bool (decide (n=0))):=by refine Ea ?_ ms;have osn:(sv (A8 n.natAbs)).oneCell'=true:=rfl;refine Ao func99 ntmps99 Y Y (λw0 hw0=>?_);simp only[AS];refine As (AK [_,_] Y Y (by rfl) Y Y Y (λg1=>Qm Y (Bw (Qx (oG Y BC Ay (Seg.blk 0 Y)) Y (Qx (Au Y call60 Y (Ey n hn _ _)) Y (Qm Y (Qm Y (An (Aj ?_)))))))));exact Al Y Y (ao Value.bool (ej.2 Int.sign_eq_zero_iff_zero))
theorem Xm(m a:Int)(hm:m.natAbs<4294967296)(ha:Sz a)(h:Hp)(ms:List Hp):FnV Tryz.prog 149 #[WD m,WD a] h ms (.bool (decide (m∣a))):=by
 refine Ea ?_ ms;have osm:(sv (A8 m.natAbs)).oneCell'=true:=rfl;have osa:(sv (A8 a.natAbs)).oneCell'=true:=rfl;have osq:(sv (A8 (a/m).natAbs)).oneCell'=true:=rfl;have osr:(sv (A8 (a%m).natAbs)).oneCell'=true:=rfl;have Sm_:Sz m:=Sz.of (B:=32) hm δ;refine Ao func149 ntmps149 Y Y (λw0 hw0=>?_);simp only[AS];refine As (AK [_,_] Y Y (by rfl) Y Y Y (λg2=>AK [_,_] Y Y (by rfl) Y Y Y (λg3=>Qm Y (An (Ac (As (Qx (oG Y BC Ay (Seg.blk 1 Y)) Y (Qx (Au Y call99 Y (LJ m Sm_ _ _)) Y (An ?_)))))))));refine Ax Y (λh0=>?_) (λh0=>?_)
 ·subst h0;refine As (Qx (oG Y BC Ay (Seg.blk 0 Y)) Y (Qx (Au Y call99 Y (LJ a ha _ _)) Y (Qm Y (An (Aj (Ae ?_))))));exact Al Y Y (ao Value.bool (ej.2 Int.zero_dvd.symm))
 ·have Sr:Sz (a%m):=Sz.of (B:=32) (Nat.lt_of_le_of_lt (Ik h0) hm) δ;refine Ah (Ab (As (Qx (oG Y BC Ay (Seg.blk 0 Y)) Y (Qx (oG Y BC Ay (Seg.blk 1 Y)) Y (Qx (Au Y call100 Y (Oi a m ha h0 hm _ _)) Y (Qm Y (Qm Y (Qm Y (Qm Y (BY [.bool false,.es] Y Ay Y Y (λg5=>BY [.bool false,.es] Y Ay Y Y (λg6=>?_))))))))))));refine Sa 1 [_,_] Ay Y (by simp[osm,osa,osq,osr]) ?_;refine Sa 0 [_,_] Ay Y (by simp[osm,osa,osq,osr]) ?_;refine Qm Y (Bw (Qx (oG Y BC Ay (Seg.blk 0 Y)) Y (Qx (Au Y call99 Y (LJ (a%m) Sr _ _)) Y (Qm Y (An (Aj ?_))))));exact Al Y Y (ao Value.bool (ej.2 Int.dvd_iff_emod_eq_zero.symm))
theorem Acr(l:List Int)(v:Value)(h:Hp)(R:RdL Bl 2 h [] v l)(hl:l.length<=100000)(hs:∀x∈l,Sz x):FnT Tryz.prog 148 #[v] h [] (λr h' ms'=>h.le h'/\ms'=[]/\RdL Bl 2 h' [] r l):=by
 refine FnT.frz (post:=λr h' ms'=>h.le h'/\∃m,ms'=[m]/\OwnL Bl 2 33 m r l) ?_ λr h' ms' ⟨e,m,e2,O⟩=>⟨m,[],e2,λh2 l2 lm=>⟨AD e l2,Y,O.rdh lm⟩⟩
 obtain⟨n,hn⟩:∃n,l.length=n:=⟨_,Y⟩
 have ov:=R.rd.one;have rR:Rd h [] v 2 n (l.flatMap Bl):=by have:=R.rd;rwa [hn]at this
 refine Ao func148 ntmps148 Y Y (λw0 hw0=>?_);simp only[AS];refine As (Qm Y (Bw (Qm Y (Qx (Aq rR.any Y CG Y) Y (G6 Fh ω (0:Int) (n:=n) Y CG Ay Y Y Y ω ω ω ω Y Y Y (λg8 ev m hev hO=>?_))))));have oe:=hO.o1;refine Qm Y (An (Ac (As (Qm Y (Qx (Aq rR.any Y CG Y) Y (Qm Y (An (Af ?_))))))));refine AC (λq sl h' ms'=>∃(k:Nat) (mo:Hp),n-k=q/\sl=[(0,v),(3,ev),(9,v),(10,.w n),(11,.w k)]/\h.le h'/\ms'=[mo]/\k<=n/\OwnL Bl 2 33 mo ev (l.take k++replicate (n-k) 0)) (n-0) _ ⟨0,m,Y,Y,BD,Y,ω,by rw[List.take_zero,aw];exact hO⟩ Qs ?_;rintro q sl h' ms' ⟨k,mo,rfl,rfl,lh,rfl,hk,hO⟩;refine As (Qm Y (An (Ac ?_)));refine Ax Y (λhlt=>?_) (λhlt=>?_)
 ·have hkn:k<n:=ω
  have hkl:k<l.length:=ω
  obtain⟨x,hx⟩:∃x,l[k]=x:=⟨_,Y⟩
  have sx:Sz x:=hx ▸ hs _ (List.getElem_mem hkl);have osx:(sv (A8 x.natAbs)).oneCell'=true:=rfl;have rh':RdL Bl 2 h' [] v l:=R.up lh;have gE:∀ms,Seg h' ms ((AI v).add (k*2)) (Bl x):=λms=>by rw[<-hx];exact(rh'.any (ms:=ms)).seg hkl
  have rV:Rd h' [mo] v 2 n (l.flatMap Bl):=by have:=rh'.rd.any (ms:=[mo]);rwa [hn]at this
  refine Ah (Ab (Ac (Af (As (Qm Y (Qx (BR (k) rV Y CG Ay Y Y) Y (Qx (oG Y BC Ay (gE _)) Y (BY [.bool false,.es] Y Ay Y Y (λg5=>Qm Y ?_)))))))));refine Sa 0 [_,_] Ay Y (by simp[ov,oe,osx]) ?_;refine An (AF λh5 l5 hS5=>?_);have lh5:=AD lh l5;have hln:(l.take k++replicate (n-k) 0).length=n:=by rw[ag,List.length_take,List.length_replicate];omega
  have gS5:∀ms,Seg h5 ms (⟨g5,0,none⟩:Addr) (Bl x):=λms=>hS5.any;have reo:Rd h5 [mo] ev 2 n ((l.take k++replicate (n-k) 0).flatMap Bl):=by have:=(hO.rd (h:=h5) (ms:=[mo]) Mh).rd;rwa [hln]at this
  refine Ad (Qm Y (Qm Y (Qx (oG Y BC Ay (gS5 _)) Y (Qx (AP Jx [.bool false,.es] [] [_,_] Y Ay Y Y Qt Y) Y ?_))));refine Qx (Au Y call156 Y (N6 x 0 sx (by unfold Sz;decide) _ _)) Y ?_;refine Qx (BR (k) reo Y CG Ay Y Y) Y (EG 0 k (x+0) hO Y Ay Y Y Y (EY _) Y ω Y Y (λmo' hO'=>?_));have hset:=PG (l:=l) (k:=k) (n:=n) hkn hn;rw[hx]at hset;rw[fu,hset]at hO';refine Am (Ai (Ab (Ad (Qx (oA Y) Y (Qm Y (Am ?_))))));exact Ap (n-(k+1)) _ ω ⟨k+1,mo',Y,Y,lh5,Y,ω,hO'⟩ Qs
 ·obtain rfl:k=n:=ω
  rw[Nat.sub_self,List.replicate_zero,dx,f5 ω]at hO;refine AA (Aa (Aa (Ag (Ab (As (Qm Y (Qm Y (An (Aj ?_)))))))));exact Al Y Y (⟨lh,mo,Y,hO⟩)
def We(c:Nat)(L:List Int)(k:Nat):Int:=if k<c then L.getD (k*c+k) 0 else 0
def AbN(c:Nat)(L:List Int)(k:Nat):List Value:=[.int .i64 k,WD (We c L k)]
theorem Ou(g:Nat)(dv:Value)(r c:Nat)(L:List Int)(h:Hp)(M:MW dv h r c L)(hG:∀ev,dv=.agg #[.int .i64 r,.int .i64 c,ev]->Seg h [] ⟨g,0,none⟩ [.int .i64 r,.int .i64 c,ev]):ItrS Tryz.prog 150 [.pointer (some ⟨g,0,none⟩)] h r (AbN c L):=by
 intro lp X Y h1 ms hl hY h0;show FnT _ _ #[.func (.yield lp) #[] #[],.pt g] _ _ _;have hr:=M.hr;have hc:=M.hc;have M:=M.up hl;obtain⟨ev,rfl,R⟩:=M.ex;have hG:=(hG ev rfl).le hl;have oe:=R.rd.one;have e0:∀h',h1.le h'->∀ms,Cell h' ms ((⟨g,0,none⟩:Addr).add 0) (.w r):=fun h' l ms=>((hG 0 _ rfl).any).le l;have e1:∀h',h1.le h'->∀ms,Cell h' ms ((⟨g,0,none⟩:Addr).add 1) (.w c):=fun h' l ms=>((hG 1 _ rfl).any).le l;have e2:∀h',h1.le h'->∀ms,Seg h' ms (⟨g,0,none⟩:Addr) [.w r,.w c,ev]:=fun h' l ms=>hG.any.le l;refine Ao func150 ntmps150 rfl rfl (fun w0 hw0=>?_);simp only[AS];refine Ac (By (BW (oF EH rfl) rfl rfl rfl (BW (oL rfl U3 (e0 _ (BD) _)) rfl rfl rfl (BW (Ar rfl rfl) rfl rfl rfl (CS (Ab (Af ?_)))))))
 refine AC (fun q s hh ms'=>∃(k:Nat),q=r-k/\s=[(0,.func (.yield lp) #[] #[]),(1,.pt g),(6,.w r),(7,.w k)]/\h1.le hh/\k<=r/\X k hh ms')
  (r-0) _ ⟨0,rfl,rfl,BD,ω,h0⟩ Qs ?_
 rintro q s hh ms' ⟨k,rfl,rfl,lh,hk,hX⟩;refine Ac (By (BW (DB rfl rfl rfl) rfl rfl rfl (CS (Ab (Ac ?_)))));refine Ax rfl (fun hlt=>?_) (fun hlt=>?_)
 ·have hkr:k<r:=ω
  have hYk:=hY k hh ms' hkr lh hX;unfold AbN We at hYk;refine Ah (Ab (Ac (Af (As (Qm rfl (Qm rfl (Bw (Qx (AP Jx [.bool false,.es] [] [_,_] rfl Ay rfl rfl Qt rfl) rfl (BY [.bool false,.es] rfl Ay rfl rfl (fun g4=>?_))))))))));refine Sa 0 [_,_] Ay rfl (by simp[Value.oneCell']) ?_;refine An (Ac (As (Qm rfl (Qf Dq rfl (Ql rfl U3 (e1 _ lh _) (Qm rfl (An ?_)))))));refine Ax rfl (fun hlc=>?_) (fun hlc=>?_)
  ·have hkc:k<c:=ω
   rw[af hkc]at hYk;have osx:(sv (A8 (L.getD (k*c+k) 0).natAbs)).oneCell'=true:=rfl;refine Ad (Qx (oG rfl HQ BM (e2 _ lh _)) rfl (Qm rfl (Qm rfl (Qx (Au rfl call151 rfl (Afg _ r c k k L hh (M.up lh) hkr hkc _)) rfl ?_))));refine Sa 0 [_,_] Ay rfl (by simp[oe,Cn,osx]) ?_;refine An (Ac (By (BW (Ar rfl rfl) rfl rfl rfl (BW (Ar rfl rfl) rfl rfl rfl (BW (oG rfl BC Ay (Seg.blk 0 rfl)) rfl rfl rfl (Pg (Ko rfl rfl rfl (hYk) rfl rfl rfl (fun r' h2 ms2 l2 hr'=>?_))))))));rcases hr' with ⟨rfl,hX2⟩|⟨rfl,hX2⟩
   ·refine BW (DQ rfl rfl) rfl rfl rfl (CS (Ab (AN rfl (Ah (Ai (Ab (By (BW (oA rfl) rfl rfl rfl (BW (Ar rfl rfl) rfl rfl rfl (CS ?_))))))))));exact Ap (r-(k+1)) _ ω ⟨k+1,rfl,rfl,AD lh l2,ω,hX2⟩ Qs
   ·refine BW (DQ rfl rfl) rfl rfl rfl (CS (Ab (AX rfl (Aj (Ak (Ae (Ae (Ak ?_))))))));exact JZ rfl (.inr ⟨k,ω,hX2⟩)
  ·have hkc:¬k<c:=ω
   rw[ab hkc]at hYk;have osx:(sv (A8 (0:Int).natAbs)).oneCell'=true:=rfl;refine Ah (Ab (Ac (By (BW (Ar rfl rfl) rfl rfl rfl (BW (Ar rfl rfl) rfl rfl rfl (BW (oG rfl BC Ay (Seg.blk 0 rfl)) rfl rfl rfl (Pg (Ko rfl rfl rfl (hYk) rfl rfl rfl (fun r' h2 ms2 l2 hr'=>?_)))))))));rcases hr' with ⟨rfl,hX2⟩|⟨rfl,hX2⟩
   ·refine BW (DQ rfl rfl) rfl rfl rfl (CS (Ab (AN rfl (Ah (Ai (Ab (By (BW (oA rfl) rfl rfl rfl (BW (Ar rfl rfl) rfl rfl rfl (CS ?_))))))))));exact Ap (r-(k+1)) _ ω ⟨k+1,rfl,rfl,AD lh l2,ω,hX2⟩ Qs
   ·refine BW (DQ rfl rfl) rfl rfl rfl (CS (Ab (AX rfl (Aj (Ak (Ae (Ae (Ak ?_))))))));exact JZ rfl (.inr ⟨k,ω,hX2⟩)
 ·obtain rfl:k=r:=ω
  refine AA (Aa (Aa (Ag ?_)));exact CA rfl (.inl hX)
theorem Wi(dv:Value)(r c:Nat)(L:List Int)(h:Hp)(M:MW dv h r c L):FnT Tryz.prog 98 #[dv] h [] (λw h' ms'=>h=h'/\∃g ev,dv=.agg #[.int .i64 r,.int .i64 c,ev]/\w=.func (.func 150) #[] #[.pointer (some ⟨g,0,none⟩)]/\ms'=[BL g 91 [.int .i64 r,.int .i64 c,ev]]):=by obtain⟨ev,rfl,R⟩:=M.ex;have o1:=R.rd.one;refine Ao func98 ntmps98 Y Y (λw0 hw0=>?_);simp only[AS];refine As (AK [_,_,_] Y Y (by rfl) Y Y Y (λg1=>Qm Y (Bw (Qx (BG Y Y Y) Y (Qm Y (An (Aj ?_)))))));exact Al Y Y (⟨Y,_,ev,Y,Y,Y⟩)
def ubF(S:FS)(r:Nat)(b:Nat->Int)(i:Nat):Int:=sm r λq=>AO S.u i q*b q
def EqR(v:Value)(h:Hp)(r c:Nat)(S:FS)(cl:List Int):Prop:=∃eu eui ed ev evi ec,v=.agg #[.int .i64 r,.int .i64 r,eu,.int .i64 r,.int .i64 r,eui,.int .i64 r,.int .i64 c,ed,.int .i64 c,.int .i64 c,ev,.int .i64 c,.int .i64 c,evi,ec]/\RdL Bl 2 h [] eu S.u.flatten/\RdL Bl 2 h [] eui S.ui.flatten/\RdL Bl 2 h [] ed S.d.flatten/\RdL Bl 2 h [] ev S.v.flatten/\RdL Bl 2 h [] evi S.vi.flatten/\RdL Bl 2 h [] ec cl
theorem VF(va bv:Value)(r c:Nat)(f:Nat->Nat->Int)(b:Nat->Int)(s':St)(h:Hp)(A:MW va h r c (DV r c f))(hf:∀i j,i<r->j<c->Bq 33 (f i j))(hfp:EO r c (min r c) 0 (S6 r c f)=some s')(B:RdL Bl 2 h [] bv (Dt r b))(hb:∀i,i<r->Bq 100 (b i)) :
  FnT Tryz.prog 96 #[va,bv] h [] (λw h' ms'=>h.le h'/\ms'=[]/\s'.S.Ok r c 660033/\∃v,w=.tuple #[v,.bool true]/\EqR v h' r c s'.S (Dt r (ubF s'.S r b))):=by
 refine FnT.frz (post:=λw h' ms'=>h.le h'/\s'.S.Ok r c 660033/\∃g eu eui ed ev evi ec m,w=.tuple #[.agg #[.w r,.w r,eu,.w r,.w r,eui,.w r,.w c,ed,.w c,.w c,ev,.w c,.w c,evi,ec],.bool true]/\ms'=[m]/\RdL Bl 2 h' [] eu s'.S.u.flatten/\RdL Bl 2 h' [] eui s'.S.ui.flatten/\RdL Bl 2 h' [] ed s'.S.d.flatten/\RdL Bl 2 h' [] ev s'.S.v.flatten/\RdL Bl 2 h' [] evi s'.S.vi.flatten/\OwnL Bl 2 33 m ec (Dt r (ubF s'.S r b))/\g=0) ?_ λw h' ms' q=>?_
 ·have hr:=A.hr;have hcc:=A.hc;have A0:=A;obtain⟨ea,rfl,RA⟩:=A.ex;have oa:=RA.rd.one;have ob:=B.rd.one
  have hsb:∀x∈Dt r b,Sz x:=λx hx=>by obtain⟨i,hi,rfl⟩:=aj.1 hx;exact Sz.of (hb i (ct.1 hi)) δ
  have rB:∀h',h.le h'->Rd h' [] bv 2 r ((Dt r b).flatMap Bl):=λh' l=>by have:=(B.up l).rd;rwa [B5]at this
  refine Ao func96 ntmps96 Y Y (λw0 hw0=>?_);simp only[AS];refine As (AK [_,_,_] Y Y (by rfl) Y Y Y (λg2=>BY [.w 0,.w 0,.nl,.w 0,.w 0,.nl,.w 0,.w 0,.nl,.w 0,.w 0,.nl,.w 0,.w 0,.nl,.nl] Y Jh Y Y (λg4=>Qm Y (An (Aw 1 Y λh1 l1 hS1=>?_)))));have A1:=A0.up l1;have sg1:∀h',h1.le h'->∀ms,Seg h' ms (⟨g2,0,none⟩:Addr) [.w r,.w c,ea]:=λh' l ms=>Seg.any (hS1.le l);have c10:∀h',h1.le h'->∀ms,Cell h' ms ((⟨g2,0,none⟩:Addr).add 0) (.w r):=λh' l ms=>((hS1 0 _ Y).any).le l;refine Ac (As (Qx (oG Y HQ BM (sg1 _ (BD) _)) Y (Qx (Au Y call146 Y (Iq _ r c _ h1 A1 _)) Y (Qm Y (Qm Y (Qg (Ar Y Y) Y (Qg (Aq (rB _ l1).any Y CG Y) Y (Qg (oF EH Y) Y (Qg (oL Y U3 (c10 _ (BD) _)) Y (Qg (FC Y Y Y) Y (Qm Y (An (Ax Y (λhc=>ib hc σ) (λhc=>Ah (Ab (As (Qx (oG rfl HQ BM (sg1 _ (BD) _)) rfl (Qc call147 rfl (WC _ r c f s' h1 A1 hf hfp) (λv h2 ms2 l2 hF=>?_)))))))))))))))))));obtain⟨l2',rfl,O0,hb2,eu,eui,ed,ev,evi,rfl,Ru,Rui,Rd_,Rv,Rvi⟩:=hF;have O:s'.S.Ok r c 660033:=O0.mono ω;have ou:=Ru.rd.one;have oui:=Rui.rd.one;have od:=Rd_.rd.one;have ov:=Rv.rd.one;have ovi:=Rvi.rd.one;refine BY [.w 0,.w 0,.nl,.w 0,.w 0,.nl,.w 0,.w 0,.nl,.w 0,.w 0,.nl,.w 0,.w 0,.nl] Y MJ Y Y (λg6=>?_);refine Sa 0 [_,_,_,_,_,_,_,_,_,_,_,_,_,_,_] MJ Y (by simp[oa,ob,ou,oui,od,ov,ovi]) ?_;refine An (Aw 0 Y λh3 l3 hS6=>?_);have l13:=AD l2' l3;have l03:=AD l1 l13;obtain⟨au,cu,rfl,_⟩:=Ru.rd.ex;have ex6:(.slice au s'.S.u.flatten.length cu:Value)=.slice au (r*r) cu:=by rw[O.mu,Ci]
  have sgu:∀h',h3.le h'->∀ms,Seg h' ms (⟨g6,0,none⟩:Addr) [.w r,.w r,.slice au s'.S.u.flatten.length cu]:=λh' l ms=>λi v hv=>((hS6.le l) i v (by rcases i with _|_|_|i<;>simp_all)).any;have sg6:∀h',h3.le h'->∀ms,Seg h' ms (⟨g6,0,none⟩:Addr) [.w r,.w r,.slice au s'.S.u.flatten.length cu,.w r,.w r,eui,.w r,.w c,ed,.w c,.w c,ev,.w c,.w c,evi]:=λh' l ms=>Seg.any (hS6.le l);have MU:MW (.agg #[.w r,.w r,.slice au s'.S.u.flatten.length cu]) h3 r r (DV r r (AO s'.S.u)):=⟨hr,hr,Ci _ _ _,_,Y,by rw[<-O.mu];exact Ru.up l3⟩
  have bU:∀i t,i<r->t<r->Bq 660133 (AO s'.S.u i t*b t):=λi t _ ht=>((O.bu i t).mul (hb t ht)).mono δ;refine Ac (AU (n:=10) (bs:=[ic,ic,ic,ie,ie,ie,ie,ie,ie,ie]) [ic,ic,ic] CK κ κ Y Y (QF Wt Y (Qp Y (oG Y HQ BM (sgu _ (BD) _)) (Qq Y ?_))));unfold Do;simp only[bj,aw];refine Qo 3 Y ?_;refine Az (pre:=[]) Y call148 Y (Acr (Dt r b) bv h3 (B.up l03) (by rw[B5];omega) hsb) rfl rfl rfl rfl (λp k1 ms1 l1 hF=>?_);obtain⟨j1,rfl,Rp⟩:=hF;have op:=Rp.rd.one;refine Qa (Qo 4 Y ?_);refine Az (pre:=[]) Y call101 Y (N2 _ p r r (AO s'.S.u) b k1 (MU.up j1) Rp (λi t hi ht=>Sz.of ((JO t λq hq=>bU i q hi ω).mono (show 660133+t<=670066 by omega)) δ) (λi t _ _=>Sz.of (O.bu i t) δ) (λt ht=>Sz.of (hb t ht) δ) (λi t hi ht=>Sz.of (bU i t hi ht) δ)) Y Y Y Y (λz k2 ms2 l2 hF=>?_);obtain⟨j2,ec,m,rfl,rfl,Oc⟩:=hF;obtain⟨ac,cc,rfl,_⟩:=(Oc.rd (h:=k2) (ms:=[m]) Mh).rd.ex;have oc:=Oc.o1;have j12:=AD j1 j2;refine Qa (Bd 5 22 κ Y (by assumption) Y (Ar Y Y) (Bd 6 28 κ Y (by assumption) Y (Bz Y Y Y) (Bd 7 29 κ Y (by assumption) Y (Bz Y Y Y) (Qo 8 Y (Qm Y (Qa (Qo 9 Y (Qm Y (Qa (Qe ?_))))))))));have l3':=AD l3 j12;refine Ab (As (Qx (oG Y AeQ MJ (sg6 _ j12 _)) Y (Qm Y (Qx (AP AeT [.w 0,.w 0,.nl,.w 0,.w 0,.nl,.w 0,.w 0,.nl,.w 0,.w 0,.nl,.w 0,.w 0,.nl,.nl] [(0,_),(15,_)] [_,_,_,_,_,_,_,_,_,_,_,_,_,_,_,_] Y Jh Y Y Qt Y) Y (Qm Y ?_)))));refine Sa 1 [_,_,_,_,_,_,_,_,_,_,_,_,_,_,_,_] Jh Y (by simp[oa,ob,ou,oui,od,ov,ovi,oc]) ?_;refine Qm Y (An (Aj ?_));exact H7 (vs:=[_,_,_,_,_,_,_,_,_,_,_,_,_,_,_,_]) 1 Y Y Y Aen Y Jh Y Y (⟨AD l03 j12,O,0,_,eui,ed,ev,evi,_,m,Y,Y,Ru.up l3',Rui.up l3',Rd_.up l3',Rv.up l3',Rvi.up l3',Oc,Y⟩)
 ·obtain⟨l,O,g,eu,eui,ed,ev,evi,ec,m,rfl,rfl,Ru,Rui,Rd_,Rv,Rvi,Oc,_⟩:=q;exact⟨m,[],Y,λh2 l2 lm=>⟨AD l l2,Y,O,_,Y,eu,eui,ed,ev,evi,ec,Y,Ru.up l2,Rui.up l2,Rd_.up l2,Rv.up l2,Rvi.up l2,Oc.rdh lm⟩⟩
def Adt(r:Nat)(D C:Nat->Int)(v:Value):Prop:=(∃k,k<r/\v=.tuple #[.int .i64 k,WD (D k),.bool true]/\¬D k∣C k/\∀j,j<k->D j∣C j)\/(v=.tuple #[.int .i64 0,WD 0,.bool false]/\∀j,j<r->D j∣C j)
theorem Q4(qv:Value)(r c:Nat)(S:FS)(C:Nat->Int)(h:Hp)(hr:r<=200)(hc:c<=200)(O:S.Ok r c 660033)(E:EqR qv h r c S (Dt r C))(hD:∀k,k<r->(We c S.d.flatten k).natAbs<4294967296)(hC:∀k,k<r->Sz (C k)) :
  FnT Tryz.prog 97 #[qv] h [] (λw h' ms'=>h.le h'/\ms'=[]/\Adt r (We c S.d.flatten) C w):=by
 obtain⟨eu,eui,ed,ev,evi,ec,rfl,Ru,Rui,Rd_,Rv,Rvi,Rc⟩:=E;have ou:=Ru.rd.one;have oui:=Rui.rd.one;have od:=Rd_.rd.one;have ov:=Rv.rd.one;have ovi:=Rvi.rd.one;have oc:=Rc.rd.one;have hL:S.d.flatten.length=r*c:=by rw[O.md,Ci]
 refine E7 func97 ntmps97 Y Y (λw0 hw0=>?_);simp only[AS];refine As (AK [_,_,_,_,_,_,_,_,_,_,_,_,_,_,_,_] Y Y (by rfl) Y Y Y (λg1=>BY [.w 0] Y Bp Y Y (λg2=>BY [.bool false,.es] Y Ay Y Y (λg3=>BY [.bool false] Y el4 Y Y (λg4=>An (Aw 3 Y λh1 l1 hS1=>?_))))));have M1:MW (.agg #[.w r,.w c,ed]) h1 r c S.d.flatten:=⟨hr,hc,hL,ed,Y,Rd_.up l1⟩
 have sg1:∀h',h1.le h'->∀ms,Seg h' ms ((⟨g1,0,none⟩:Addr).add 6) [.w r,.w c,ed]:=λh' l ms i v hv=>by
  have:=((hS1.le l) (6+i) v (by rcases i with _|_|_|i<;>simp_all)).any (ms:=ms)
  rwa [BK]
 have c15:∀h',h1.le h'->∀ms,Cell h' ms ((⟨g1,0,none⟩:Addr).add 15) ec:=λh' l ms=>((hS1 15 _ Y).any).le l;refine Ac (As (Qf Lp Y (Qf Ws Y (Qx (oG Y HQ BM (sg1 _ (BD) _)) Y (Qc call98 Y (Wi _ r c S.d.flatten h1 M1) (λvf h10 ms10 l10 hF=>?_))))));obtain⟨rfl,gb,ed',e1,rfl,rfl⟩:=hF;obtain rfl:ed=ed':=by simpa using e1
 refine An (Af (AF λh2 l2 hGb=>?_));have l12:=l2
 have hI:=Ou gb _ r c S.d.flatten h2 (M1.up l2) (λev' e=>by
  obtain rfl:ed=ev':=by simpa using e
  exact hGb)
 obtain⟨D,hDe⟩:∃D:Nat->Int,D=We c S.d.flatten:=⟨_,Y⟩
 rw[<-hDe]at hD;have hDk:∀k,AbN c S.d.flatten k=[.w k,WD (D k)]:=λk=>by rw[hDe];rfl
 rw[<-hDe];refine Jd (λk hh ms=>ms=[BL g4 4 [.bool false],BL g3 33 (Bl 0),BL g2 3 [.w 0]]/\∀j,j<k->D j∣C j) (λk hh ms=>ms=[BL g4 4 [.bool true],BL g3 33 (Bl (D k)),BL g2 3 [.w k]]/\¬D k∣C k/\∀j,j<k->D j∣C j) (λk s1 hh ms=>∃g6,s1=[(1,.pt g1),(2,.pt g2),(3,.pt g3),(4,.pt g4),(5,.w k),(6,.pt g6)]/\ms=[BL g4 4 [.bool false],BL g3 33 (Bl 0),BL g2 3 [.w 0]]/\Seg hh [] (⟨g6,0,none⟩:Addr) (Bl (D k))/\∀j,j<k->D j∣C j) Y call150 hI (λk=>rfl) Y ?_ ?_ ?_ ?_ ?_
 ·exact⟨Y,λj h=>ω⟩
 ·rintro w1 k hh ms1 hk lh ⟨rfl,hz⟩;rw[hDk];have osx:(sv (A8 (D k).natAbs)).oneCell'=true:=rfl;refine Dm (Bg κ (Qm Y (Am (B0 (Bg κ (BY [.bool false,.es] Y Ay Y Y (λg6=>?_)))))));refine Sa 0 [_,_] Ay Y (by simp[ou,oui,od,ov,ovi,oc,Cn,osx]) ?_;refine Am (Hs λh6 l6 hS6=>?_);exact AH _ ⟨_,Y,Y,hS6,hz⟩ Qs
 ·rintro w1 k s1 hh ms1 hk lh ⟨g6,rfl,rfl,hS6,hz⟩;have lh1:=AD l12 lh;have osx:(sv (A8 (D k).natAbs)).oneCell'=true:=rfl;have hkl:k<(Dt r C).length:=by rw[B5];exact hk
  have rC:Rd hh [] ec 2 r ((Dt r C).flatMap Bl):=by have:=((Rc.up l1).up lh1).rd;rwa [B5]at this
  have gE:∀ms,Seg hh ms ((AI ec).add (k*2)) (Bl (C k)):=λms=>by
   have:=((((Rc.up l1).up lh1).any (ms:=ms)).seg hkl)
   rwa [show(Dt r C)[k]=C k by simp[Dt]]at this
  refine Ef (Dm (Ach 6 CK κ Y κ (BQ (oG Y BC Ay (hS6.any)) Y Y (Wf V2 Y (Wl Y CG (c15 _ lh1 _) (Wm Y (BQ (BR (k) rC.any Y CG Ay Y Y) Y Y (BQ (oG Y BC Ay (gE _)) Y Y (BB (Qx (Au Y call149 Y (Xm (D k) (C k) (hD k hk) (hC k hk) _ _)) Y (Qx (Dx (DQ Y Y) (ao Value.bool decide_not.symm)) Y (Am (B0 ?_)))))))))))));refine Mw Y (λhne=>?_) (λhne=>?_)
  ·refine Dm (JW (n:=5) (bs:=[ic,ic,ie,ie,ie]) [true,true] CK κ κ Y Y κ (Qq Y (Qp Y (oG Y BC Ay (hS6.any)) ?_)));unfold Do;simp only[bj,aw];refine Qo 2 Y (Bi 2 0 Y Bp Y Y (by rfl) Y Y δ Y Y (Qw (Qo 3 Y ?_)));refine Sa 1 [_,_] Ay Y (by simp[ou,oui,od,ov,ovi,oc,Cn,osx]) ?_;refine Qw (Qo 4 Y (Bi 0 0 Y el4 Y Y (by rfl) Y Y δ Y Y (Qw (Qe (B0 (Aee (Ak ?_)))))));refine Abn [] ⟨Y,hne,hz⟩ eo
  ·refine Hr (Ai ?_);refine AH [] ⟨Y,λj hj=>?_⟩ eo;rcases (ω:j<k\/j=k) with h1|rfl
   ·exact hz j h1
   ·exact d7.1 hne
 ·rintro D' hh ms1 lh ⟨rfl,hz⟩;refine Ai (Ab (As (Qx (AP Jx [.bool false,.es] [] [_,_] Y Ay Y Y Qt Y) Y (Bi 2 0 Y Bp Y Y (by rfl) Y Y δ Y Y ?_))));refine Sa 1 [_,_] Ay Y (by simp[Value.oneCell']) ?_;refine Bi 0 0 Y el4 Y Y (by rfl) Y Y δ Y Y (An (Aj (FQ 3 (.inr Y) Y ?_)));exact NM Y Y Y Y U3 Y BC Y Ay Y U4 Y ⟨AD (AD l1 l12) lh,Y,.inr ⟨Y,hz⟩⟩
 ·rintro D' k hh ms1 hk lh ⟨rfl,hn,hz⟩;refine FQ 3 (.inr Y) Y ?_;exact NM Y Y Y Y U3 Y BC Y Ay Y U4 Y ⟨AD (AD l1 l12) lh,Y,.inl ⟨k,hk,Y,hn,hz⟩⟩
variable {D C:Nat->Int}
def Fo(r:Nat)(D C:Nat->Int)(q:Nat):Int:=if q<r/\D q≠0 then C q/D q else 0
theorem L4(a b:Int):(a/b).natAbs<=a.natAbs+1:=by
 first
 | exact bp (Int.natAbs_ediv_le_natAbs a b) (Nat.le_succ _)
 | exact bp (Int.natAbs_div_le_natAbs a b) (Nat.le_succ _)
theorem QH{r B:Nat}(hC:∀k,k<r->Bq B (C k))(q:Nat):Bq (B+1) (Fo r D C q):=by
 unfold Fo;split
 ·rename_i h;have h1:=hC q h.1;have h2:=L4 (C q) (D q);unfold Bq at h1 ⊢;rw[Nat.pow_succ];have:0<2^B:=Nat.pow_pos δ;omega
 ·exact Bq.zero _
theorem Yi{c k:Nat}(h:D k≠0)(hk:k<c):(Dt c (Fo k D C)).set k (C k/D k)=Dt c (Fo (k+1) D C):=by
 refine List.ext_getElem? λq=>?_;rw[List.getElem?_set];by_cases hq:q<c
 ·by_cases e:k=q
  ·subst e;rw[af rfl,af (by rw[B5];exact hk)];simp[Dt,Fo,h,hk]
  ·rw[ab e];simp only[Dt,ep,List.getElem?_range hq,Option.map_some,Fo];congr 1;by_cases h2:q<k
   ·simp[h2,show q<k+1 by omega]
   ·simp[h2,show ¬q<k+1 by omega]
 ·rw[ab ω];simp[Dt,ei,hq]
theorem Xo{k:Nat}(h:D k=0):Fo (k+1) D C=Fo k D C:=by
 funext q;unfold Fo;by_cases e:q=k
 ·subst e;simp[h]
 ·by_cases h2:q<k
  ·simp[h2,show q<k+1 by omega]
  ·simp[h2,show ¬q<k+1 by omega]
def Afq(r c:Nat)(D C:Nat->Int)(V:Nat->Nat->Int)(h':Hp)(w:Value):Prop:=((∃k,k<r/\¬D k∣C k)/\w=.tuple #[.slice none 0 0,.bool false])\/((∀j,j<r->D j∣C j)/\∃v,w=.tuple #[v,.bool true]/\RdL Bl 2 h' [] v (Dt c λi=>sm c λq=>V i q*Fo r D C q))
theorem Yj(va bv:Value)(r c:Nat)(f:Nat->Nat->Int)(b:Nat->Int)(s':St)(D C:Nat->Int)(h:Hp)(A:MW va h r c (DV r c f))(hf:∀i j,i<r->j<c->Bq 33 (f i j))(hfp:EO r c (min r c) 0 (S6 r c f)=some s')(B:RdL Bl 2 h [] bv (Dt r b))(hb:∀i,i<r->Bq 100 (b i))(hDe:We c s'.S.d.flatten=D)(hCe:ubF s'.S r b=C)(hD:∀k,k<r->(D k).natAbs<4294967296) :
  FnT Tryz.prog 46 #[va,bv] h [] (λw h' ms'=>h.le h'/\ms'=[]/\s'.S.Ok r c 660033/\Afq r c D C (AO s'.S.v) h' w):=by
 have hr:=A.hr;have hcc:=A.hc;have A0:=A;obtain⟨ea,rfl,RA⟩:=A.ex;have oa:=RA.rd.one;have ob:=B.rd.one;refine E7 func46 ntmps46 Y Y (λw0 hw0=>?_);simp only[AS];refine As (AK [_,_,_] Y Y (by rfl) Y Y Y (λg2=>Qm Y (Qm Y (An (Aw 0 Y λh1 l1 hS1=>?_)))));have sg1:∀h',h1.le h'->∀ms,Seg h' ms (⟨g2,0,none⟩:Addr) [.w r,.w c,ea]:=λh' l ms=>Seg.any (hS1.le l);have c11:∀h',h1.le h'->∀ms,Cell h' ms ((⟨g2,0,none⟩:Addr).add 1) (.w c):=λh' l ms=>((hS1 1 _ Y).any).le l;refine As (Qx (oG Y HQ BM (sg1 _ (BD) _)) Y (Qm Y (Qc call96 Y (VF _ bv r c f b s' h1 (A0.up l1) hf hfp (B.up l1) hb) (λw0 h2 ms2 l2 hF=>?_))));obtain⟨l2',rfl,O,qv,rfl,hE⟩:=hF;rw[hCe]at hE;have hE0:=hE;obtain⟨eu,eui,ed,ev,evi,ec,rfl,Ru,Rui,Rd_,Rv,Rvi,Rc⟩:=hE;have ou:=Ru.rd.one;have oui:=Rui.rd.one;have od:=Rd_.rd.one;have ov:=Rv.rd.one;have ovi:=Rvi.rd.one;have oc:=Rc.rd.one;refine Qm Y (Qm Y (Qm Y (BY [.w 0,.w 0,.nl,.w 0,.w 0,.nl,.w 0,.w 0,.nl,.w 0,.w 0,.nl,.w 0,.w 0,.nl,.nl] Y Jh Y Y (λg6=>?_))));refine Sa 0 [_,_,_,_,_,_,_,_,_,_,_,_,_,_,_,_] Jh Y (by simp[oa,ob,ou,oui,od,ov,ovi,oc,Cn]) ?_;refine Qm Y (An (Aw 0 Y λh3 l3 hS6=>?_));have l13:=AD l2' l3;have l03:=AD l1 l13;refine Ac (As (Qm Y (Qm Y (An (AN Y (Ah (Ab ?_)))))));have sg6:∀h',h3.le h'->∀ms,Seg h' ms (⟨g6,0,none⟩:Addr) [.w r,.w r,eu,.w r,.w r,eui,.w r,.w c,ed,.w c,.w c,ev,.w c,.w c,evi,ec]:=λh' l ms=>Seg.any (hS6.le l)
 have hCk:∀k,k<r->Bq 660333 (C k):=λk hk=>by rw[<-hCe];exact(JO r λq hq=>((O.bu k q).mul (hb q hq)).mono (show 660033+100<=660133 by decide)).mono ω
 refine Ac (As (Qx (oG Y Aen Jh (sg6 _ (BD) _)) Y ?_));refine Qc call97 Y (Q4 _ r c s'.S C h3 hr hcc O ⟨_,_,_,_,_,_,Y,Ru.up l3,Rui.up l3,Rd_.up l3,Rv.up l3,Rvi.up l3,Rc.up l3⟩ (by rw[hDe];exact hD) (λk hk=>Sz.of (hCk k hk) δ)) (λw0 h4 ms4 l4 hF=>?_);obtain⟨l4',rfl,hW⟩:=hF;rw[hDe]at hW;rcases hW with ⟨k,hk,rfl,hn,hz⟩|⟨rfl,hz⟩
 ·have osx:(sv (A8 (D k).natAbs)).oneCell'=true:=rfl;refine Qm Y (Qm Y (Qm Y (Qm Y (BY [.bool false,.es] Y Ay Y Y (λg9=>Qm Y ?_)))));refine Sa 0 [_,_] Ay Y (by simp[oa,ob,ou,oui,od,ov,ovi,oc,Cn,osx]) ?_;refine Qm Y (An (Aw 0 Y λh5 l5 hS9=>(As (Qm Y (An (AX Y (As (Qm Y (Qm Y (An (Aj (Ae ?_))))))))))));have l05:=AD l03 (AD l4' l5);refine X0 (.inr Y) ?_;exact Co Y Y Y (⟨l05,Y,O,.inl ⟨⟨k,hk,hn⟩,Y⟩⟩)
 ·have osx:(sv (A8 (0:Int).natAbs)).oneCell'=true:=rfl;refine Qm Y (Qm Y (Qm Y (Qm Y (BY [.bool false,.es] Y Ay Y Y (λg9=>Qm Y ?_)))));refine Sa 0 [_,_] Ay Y (by simp[oa,ob,ou,oui,od,ov,ovi,oc,Cn,osx]) ?_;refine Qm Y (An (Aw 0 Y λh5 l5 hS9=>?_));have l35:=AD l4' l5;have l15:=AD l13 l35;refine As (Qm Y (An (AN Y (Ah (Ab (As (Qf Dq Y (Ql Y U3 (c11 _ l15 _) (G6 Fh ω (0:Int) (n:=c) Y CG Ay Y Y Y ω ω ω ω Y Y Y (λg31 ey m hev hO=>?_))))))))));have oe:=hO.o1;refine BY [.nl] Y Ec Y Y (λg11=>Bi 0 0 Y Ec Y Y (by assumption) Y Y δ Y Y (An (Aw 0 Y λh6 l6 hS11=>?_)));have hL:s'.S.d.flatten.length=r*c:=by rw[O.md,Ci]
  have l36:=AD l35 l6;have M1:MW (.agg #[.w r,.w c,ed]) h6 r c s'.S.d.flatten:=⟨hr,hcc,hL,ed,Y,(Rd_.up l3).up l36⟩
  have sgd:∀h',h6.le h'->∀ms,Seg h' ms ((⟨g6,0,none⟩:Addr).add 6) [.w r,.w c,ed]:=λh' l ms i v hv=>by
   have:=((hS6.le (AD l36 l)) (6+i) v (by rcases i with _|_|_|i<;>simp_all)).any (ms:=ms)
   rwa [BK]
  have sgv:∀h',h6.le h'->∀ms,Seg h' ms ((⟨g6,0,none⟩:Addr).add 9) [.w c,.w c,ev]:=λh' l ms i v hv=>by
   have:=((hS6.le (AD l36 l)) (9+i) v (by rcases i with _|_|_|i<;>simp_all)).any (ms:=ms)
   rwa [BK]
  have c15:∀h',h6.le h'->∀ms,Cell h' ms ((⟨g6,0,none⟩:Addr).add 15) ec:=λh' l ms=>((hS6 15 _ Y).any).le (AD l36 l);have cy:∀h',h6.le h'->∀ms,Cell h' ms (⟨g11,0,none⟩:Addr) ey:=λh' l ms=>((hS11.at0 Y).any).le l;refine Ac (As (Qf Lp Y (Qf Ws Y (Qx (oG Y HQ BM (sgd _ (BD) _)) Y (Qc call98 Y (Wi _ r c s'.S.d.flatten h6 M1) (λvf h10 ms10 l10 hF=>?_))))));obtain⟨rfl,gb,ed',e1,rfl,rfl⟩:=hF;obtain rfl:ed=ed':=by simpa using e1
  refine An (Af (AF λh7 l7 hGb=>?_))
  have hI:=Ou gb _ r c s'.S.d.flatten h7 (M1.up l7) (λev' e=>by
   obtain rfl:ed=ev':=by simpa using e
   exact hGb)
  have hDk:∀k,AbN c s'.S.d.flatten k=[.w k,WD (D k)]:=λk=>by rw[<-hDe];rfl
  have hDc:∀k,D k≠0->k<c:=λk hk=>by
   by_cases h:k<c
   ·exact h
   ·exact ib (by rw[<-hDe];unfold We;rw[ab h]) hk
  refine FL (λk hh ms=>∃mo,ms=[mo]/\OwnL Bl 2 33 mo ey (Dt c (Fo k D C))) (λk s1 hh ms=>∃g13 mo,s1=[(6,.pt g6),(11,.pt g11),(12,.w k),(13,.pt g13)]/\ms=[mo]/\OwnL Bl 2 33 mo ey (Dt c (Fo k D C))/\Seg hh [] (⟨g13,0,none⟩:Addr) (Bl (D k))) Y call150 (ItrS.itr hI) (λk=>rfl) Y ?_ ?_ ?_ ?_
  ·exact⟨m,Y,by rw[show Dt c (Fo 0 D C)=replicate c 0 from by rw[show Fo 0 D C=λ_=>0 from by funext q;simp[Fo]];show(range c).map (λ_=>(0:Int))=_;simp[List.map_const']];exact hO⟩
  ·rintro w1 k hh ms1 hk lh ⟨mo,rfl,hO⟩;rw[hDk];have osx:(sv (A8 (D k).natAbs)).oneCell'=true:=rfl;refine Dm (Bg κ (Qm Y (Am (B0 (Bg κ (BY [.bool false,.es] Y Ay Y Y (λg13=>?_)))))));refine Sa 0 [_,_] Ay Y (by simp[oa,ob,ou,oui,od,ov,ovi,oc,Cn,osx,oe]) ?_;refine Am (Hs λh8 l8 hS13=>?_);exact AH _ ⟨_,mo,Y,Y,hO,hS13⟩ Qs
  ·rintro w1 k s1 hh ms1 hk lh ⟨g13,mo,rfl,rfl,hO,hS13⟩;have lhh:=AD l7 lh;have osx:(sv (A8 (D k).natAbs)).oneCell'=true:=rfl;refine Ef (Dm (Bg κ (Qx (oG Y BC Ay (hS13.any)) Y (Qx (Au Y call99 Y (LJ (D k) (Sz.of (B:=32) (hD k hk) δ) _ _)) Y (Qx (Dx (DQ Y Y) (ao Value.bool decide_not.symm)) Y (Am (B0 ?_)))))));refine Mw Y (λhne=>?_) (λhne=>?_)
   ·have hkc:=hDc k hne;have hkl:k<(Dt r C).length:=by rw[B5];exact hk
    have lc:=AD l36 lhh
    have rC:Rd hh [] ec 2 r ((Dt r C).flatMap Bl):=by have:=((Rc.up l3).up lc).rd;rwa [B5]at this
    have gE:∀ms,Seg hh ms ((AI ec).add (k*2)) (Bl (C k)):=λms=>by
     have:=((((Rc.up l3).up lc).any (ms:=ms)).seg hkl)
     rwa [show(Dt r C)[k]=C k by simp[Dt]]at this
    have hln:(Dt c (Fo k D C)).length=c:=B5 _ _;have rY:Rd hh [mo] ey 2 c ((Dt c (Fo k D C)).flatMap Bl):=by have:=(hO.rd (h:=hh) (ms:=[mo]) Mh).rd;rwa [hln]at this
    have osq:(sv (A8 (C k/D k).natAbs)).oneCell'=true:=rfl;have osr:(sv (A8 (C k%D k).natAbs)).oneCell'=true:=rfl;refine JW (n:=15) (bs:=[ic,ic,ic,ic,ic,ic,ic,ic,ic,ic,ic,ic,ic,ic,ie]) [ic,ic,ic,ic,ic,ic,ic,ic,ic,ic,ic,ic,ic,ic] CK κ κ Y Y κ (QL Y CG (cy _ lhh _) (Qq Y (QF V2 Y (QL Y CG (c15 _ lhh _) (Qq Y (Qp Y (BR (k) rC.any Y CG Ay Y Y) (Qp Y (oG Y BC Ay (gE _)) (Qp Y (oG Y BC Ay (hS13.any)) (Qp Y (Au Y call100 Y (Oi (C k) (D k) (Sz.of (hCk k hk) δ) hne (hD k hk) _ _)) (Qq Y (Qq Y (Qq Y (Qq Y (Qp Y (Bc (k) rY Y CG Ay Y Y ω ω) ?_))))))))))))));unfold Do;simp only[bj,aw];refine Qo 14 Y (EG 0 k (C k/D k) hO Y Ay Y Y Y (EY _) Y ω Y Y (λmo' hO'=>Qw (Qe ?_)));rw[Yi hne hkc]at hO';refine Ai ?_;exact AH [] ⟨mo',Y,hO'⟩ eo
   ·refine Hr (Ai ?_);exact AH [] ⟨mo,Y,by rw[Xo (d7.1 hne)];exact hO⟩ eo
  ·rintro D' hh ms1 lh ⟨mo,rfl,hO⟩;have lhh:=AD l7 lh;have lc:=AD l36 lhh;refine Dk hO λh8 l8 hR8=>?_;have lh8:=AD lhh l8;have MV:MW (.agg #[.w c,.w c,ev]) h8 c c (DV c c (AO s'.S.v)):=⟨hcc,hcc,Ci _ _ _,ev,Y,by rw[<-O.mv];exact(Rv.up l3).up (AD l36 lh8)⟩
   have bY:=QH (D:=D) hCk;have bV:∀i t,Bq 1320400 (AO s'.S.v i t*Fo r D C t):=λi t=>((O.bv i t).mul (bY t)).mono δ;refine Ai (Ab (As (Qf Lp Y (Qf Acs Y (Qx (oG Y HQ BM (sgv _ lh8 _)) Y (Ql Y CG (cy _ lh8 _) ?_))))));refine Qc call101 Y (N2 _ ey c c (AO s'.S.v) (Fo r D C) h8 MV hR8 (λi t hi ht=>Sz.of ((JO t λq hq=>bV i q).mono (show 1320400+t<=1330400 by omega)) δ) (λi t _ _=>Sz.of (O.bv i t) δ) (λt _=>Sz.of (bY t) δ) (λi t _ _=>Sz.of (bV i t) δ)) (λw9 h9 ms9 l9 hF=>?_);obtain⟨l9',vz,mz,rfl,rfl,Oz⟩:=hF;refine Qm Y (Qm Y (Qm Y (Qm Y (An (Aj (FQ 1 (.inr Y) Y (Dk Oz λhA lA hRA=>?_)))))));exact Co Y Y Y (⟨AD l03 (AD l36 (AD lh8 (AD l9' lA))),Y,O,.inr ⟨hz,vz,Y,hRA⟩⟩)
end
section
open Go.Lin Go.Wd Go.Sm
theorem AaM(l:List Int)(v:Value)(h:Hp)(hR:RdL Bl 2 h [] v l)(hl:l.length<=1000000):FnT Tryz.prog 104 #[v] h [] (λx h' ms'=>h.le h'/\ms'=[]/\RdL Bl 2 h' [] x l):=
 FnT.frz (NI l v h hR hl) λv h' ms' ⟨e,m,e2,q⟩=>⟨m,[],e2,λh2 l2 lm=>⟨by rw[e];exact l2,Y,q.rdh lm⟩⟩
def Afs(r:Nat)(D C:Nat->Int)(U:Nat->Nat->Int)(h':Hp)(w:Value):Prop:=(∃k,k<r/\¬D k∣C k/\(∀j,j<k->D j∣C j)/\∃v,w=.tuple #[v,WD (D k),.bool true]/\RdL Bl 2 h' [] v (Dt r (U k)))\/((∀j,j<r->D j∣C j)/\w=.tuple #[.slice none 0 0,WD 0,.bool false])
theorem XB(va bv:Value)(r c:Nat)(f:Nat->Nat->Int)(b:Nat->Int)(s':St)(D C:Nat->Int)(h:Hp)(A:MW va h r c (DV r c f))(hf:∀i j,i<r->j<c->Bq 33 (f i j))(hfp:EO r c (min r c) 0 (S6 r c f)=some s')(B:RdL Bl 2 h [] bv (Dt r b))(hb:∀i,i<r->Bq 100 (b i))(hDe:We c s'.S.d.flatten=D)(hCe:ubF s'.S r b=C)(hD:∀k,k<r->(D k).natAbs<4294967296) :
  FnT Tryz.prog 48 #[va,bv] h [] (λw h' ms'=>h.le h'/\ms'=[]/\s'.S.Ok r c 660033/\Afs r D C (AO s'.S.u) h' w):=by
 have hr:=A.hr;have hcc:=A.hc;have A0:=A;obtain⟨ea,rfl,RA⟩:=A.ex;have oa:=RA.rd.one;have ob:=B.rd.one;refine Ao func48 ntmps48 Y Y (λw0 hw0=>?_);simp only[AS];refine As (AK [_,_,_] Y Y (by rfl) Y Y Y (λg2=>Qm Y (BY [.bool false,.es] Y Ay Y Y (λg5=>Qm Y (An (Aw 1 Y λh1 l1 hS1=>?_))))));have sg1:∀h',h1.le h'->∀ms,Seg h' ms (⟨g2,0,none⟩:Addr) [.w r,.w c,ea]:=λh' l ms=>Seg.any (hS1.le l);have c11:∀h',h1.le h'->∀ms,Cell h' ms ((⟨g2,0,none⟩:Addr).add 1) (.w c):=λh' l ms=>((hS1 1 _ Y).any).le l;refine As (Qx (oG Y HQ BM (sg1 _ (BD) _)) Y (Qm Y (Qc call96 Y (VF _ bv r c f b s' h1 (A0.up l1) hf hfp (B.up l1) hb) (λw0 h2 ms2 l2 hF=>?_))));obtain⟨l2',rfl,O,qv,rfl,hE⟩:=hF;rw[hCe]at hE;have hE0:=hE;obtain⟨eu,eui,ed,ev,evi,ec,rfl,Ru,Rui,Rd_,Rv,Rvi,Rc⟩:=hE;have ou:=Ru.rd.one;have oui:=Rui.rd.one;have od:=Rd_.rd.one;have ov:=Rv.rd.one;have ovi:=Rvi.rd.one;have oc:=Rc.rd.one;refine Qm Y (Qm Y (Qm Y (BY [.w 0,.w 0,.nl,.w 0,.w 0,.nl,.w 0,.w 0,.nl,.w 0,.w 0,.nl,.w 0,.w 0,.nl,.nl] Y Jh Y Y (λg7=>?_))));refine Sa 0 [_,_,_,_,_,_,_,_,_,_,_,_,_,_,_,_] Jh Y (by simp[oa,ob,ou,oui,od,ov,ovi,oc,Cn]) ?_;refine Qm Y (An (Aw 0 Y λh3 l3 hS7=>?_));have l13:=AD l2' l3;have l03:=AD l1 l13;refine Ac (As (Qm Y (Qm Y (An (AN Y (Ah (Ab ?_)))))));have sg6:∀h',h3.le h'->∀ms,Seg h' ms (⟨g7,0,none⟩:Addr) [.w r,.w r,eu,.w r,.w r,eui,.w r,.w c,ed,.w c,.w c,ev,.w c,.w c,evi,ec]:=λh' l ms=>Seg.any (hS7.le l)
 have hCk:∀k,k<r->Bq 660333 (C k):=λk hk=>by rw[<-hCe];exact(JO r λq hq=>((O.bu k q).mul (hb q hq)).mono (show 660033+100<=660133 by decide)).mono ω
 refine As (Qx (oG Y Aen Jh (sg6 _ (BD) _)) Y ?_);refine Qc call97 Y (Q4 _ r c s'.S C h3 hr hcc O ⟨_,_,_,_,_,_,Y,Ru.up l3,Rui.up l3,Rd_.up l3,Rv.up l3,Rvi.up l3,Rc.up l3⟩ (by rw[hDe];exact hD) (λk hk=>Sz.of (hCk k hk) δ)) (λw0 h4 ms4 l4 hF=>?_);obtain⟨l4',rfl,hW⟩:=hF;rw[hDe]at hW;rcases hW with ⟨k,hk,rfl,hn,hz⟩|⟨rfl,hz⟩
 ·have osx:(sv (A8 (D k).natAbs)).oneCell'=true:=rfl;refine Qm Y (Qm Y (Qm Y (Qm Y (BY [.bool false,.es] Y Ay Y Y (λg10=>Qm Y ?_)))));refine Sa 0 [_,_] Ay Y (by simp[oa,ob,ou,oui,od,ov,ovi,oc,Cn,osx]) ?_;refine Qm Y (An (Aw 0 Y λh5 l5 hS9=>(Ac (As (Qm Y (Qm Y (An (AN Y (Ah (Ab ?_))))))))));have l35:=AD l4' l5;obtain⟨au,cu,rfl,_⟩:=Ru.rd.ex;have sgu:∀h',h5.le h'->∀ms,Seg h' ms (⟨g7,0,none⟩:Addr) [.w r,.w r,.slice au s'.S.u.flatten.length cu]:=λh' l ms=>λi v hv=>((hS7.le (AD l35 l)) i v (by rcases i with _|_|_|i<;>simp_all)).any;refine As (Qf Lp Y (Qf Wt Y (Qx (oG Y HQ BM (sgu _ (BD) _)) Y (BY [.w 0,.w 0,.nl] Y BM Y Y (λg12=>?_)))));refine Sa 0 [_,_,_] BM Y (by simp[Value.oneCell']) ?_;refine An (Aw 0 Y λh6 l6 hS12=>?_);have l36:=AD l35 l6;have hrk:(k+1)*r<=r*r:=dw r hk;have d1:(k+1)*r=k*r+r:=by rw[db,fk]
  have c2:r*r<=200*200:=ff hr hr;have d3:((k:Int)+1)*r=k*r+r:=by rw[Int.add_mul,fy]
  have d4:(k:Int)*r=((k*r:Nat):Int):=(fq k r).symm;have RU6:RdL Bl 2 h6 [] (.slice au s'.S.u.flatten.length cu) (DV r r (AO s'.S.u)):=by rw[<-O.mu];exact(Ru.up l3).up l36
  have hlu:s'.S.u.flatten.length=r*r:=by rw[O.mu,Ci]
  have hrow:=RU6.rowF hk;have rU:Rd h6 [] (.slice au s'.S.u.flatten.length cu) 2 (r*r) ((DV r r (AO s'.S.u)).flatMap Bl):=by have:=RU6.rd;rwa [Ci]at this
  have s12:∀h',h6.le h'->∀ms i v,[.w r,.w r,.slice au s'.S.u.flatten.length cu][i]?=some v->Cell h' ms ((⟨g12,0,none⟩:Addr).add i) v:=λh' l ms i v e=>((hS12 i v e).any).le l;have gD:∀h',h6.le h'->∀ms,Seg h' ms (⟨g10,0,none⟩:Addr) (Bl (D k)):=λh' l ms=>(Seg.any (hS9.le l6)).le l;refine Ac (AU (n:=17) (bs:=[ic,ic,ic,ic,ic,ic,ic,ic,ic,ic,ic,ic,ie,ic,ie,ie,ie]) [ic,ic,ic,ic,ic,ic,ic,ic,ic,ic,ic,ic,ie,ic] CK κ κ Y Y (QF F8 Y (QL Y CG (s12 _ (BD) _ _ _ Y) (Qq Y (QF Dq Y (QL Y U3 (s12 _ (BD) _ _ _ Y) (Qp Y (oM Y) (Qq Y (Qp Y (oA Y) (QF Dq Y (QL Y U3 (s12 _ (BD) _ _ _ Y) (Qp Y (oM Y) (Qp Y (Ho (k*r) ((k+1)*r) rU.any Y CG Ay Y Y Y ω ω ω ω) (Qp Y (oG Y BC Ay (gD _ (BD) _)) ?_))))))))))))));unfold Do;simp only[bj,aw];refine Qo 12 Y ?_;refine Az (pre:=[]) Y call104 Y (AaM (Dt r (AO s'.S.u k)) _ h6 hrow (by rw[B5];omega)) rfl rfl rfl rfl (λy h8 ms8 l8 hF=>?_);obtain⟨l68,rfl,hY⟩:=hF;have oy:=hY.rd.one;refine Qa (Qo 14 Y (Qm Y (Qa (Qo 15 Y ?_))));refine Sa 0 [_,_] Ay Y (by simp[oa,ob,ou,oui,od,ov,ovi,oc,Cn,osx,oy]) ?_;refine Qa (Qo 16 Y (Qm Y (Qa (Qe (Ab (Aj ?_))))));exact N9 0 Y Y Y Y BC Y Ay Y Y ⟨AD l03 (AD l36 l68),Y,O,.inl ⟨k,hk,hn,hz,y,Y,hY⟩⟩
 ·have osx:(sv (A8 (0:Int).natAbs)).oneCell'=true:=rfl;refine Qm Y (Qm Y (Qm Y (Qm Y (BY [.bool false,.es] Y Ay Y Y (λg10=>Qm Y ?_)))));refine Sa 0 [_,_] Ay Y (by simp[oa,ob,ou,oui,od,ov,ovi,oc,Cn,osx]) ?_;refine Qm Y (An (Aw 0 Y λh5 l5 hS9=>(Ac (As (Qm Y (Qm Y (An (AX Y (As (Qx (AP Jx [.bool false,.es] [] [_,_] Y Ay Y Y Qt Y) Y (Qm Y ?_)))))))))));refine Sa 0 [_,_] Ay Y (by simp[Value.oneCell']) ?_;refine Qm Y (An (Aj (Ae ?_)));have l05:=AD l03 (AD l4' l5);exact N9 0 Y Y Y Y BC Y Ay Y Y ⟨l05,Y,O,.inr ⟨hz,Y⟩⟩
end
section
open Go.Sort
def Ij(l:List Int):List Int:=l.mergeSort λx y=>decide (x<=y)
theorem Ju(l:List Int):(Ij l).Perm l:=List.mergeSort_perm l _
theorem Ps(l:List Int):(Ij l).Pairwise (·<=·):=by have:=List.pairwise_mergeSort (le:=λx y:Int=>decide (x<=y)) (λa b c=>by simp;omega) (λa b=>by simp;omega) l;exact this.imp λh=>by simpa using h
theorem Ga(l:List Int):l.flatMap cI=l.map (Value.int .i64):=by
 induction l with
 | nil=>rfl
 | cons a l ih=>rw[List.flatMap_cons,List.map_cons,ih];rfl
theorem Aa1(l:List Int)(v:Value)(m:Hp)(hO:OwnL cI 1 3 m v l)(hl:l.length<=2305843009213693951)(h:Hp) :
  FnT Tryz.prog 197 #[v] h [m] (λ_ h' ms'=>h=h'/\∃m',ms'=[m']/\OwnL cI 1 3 m' v (Ij l)):=by
 intro w hw;obtain⟨⟨e0,hown⟩,hF⟩:=hO;rcases hown with ⟨rfl,e1,rfl⟩|⟨g,cap,spare,rfl,rfl,e1,e2,e3⟩
 ·obtain rfl:l=[]:=fv.1 e1;refine(Any.slices_Sort_int_none Tryz.lays189 none 0 w).mono λx w' ⟨hx,hw'⟩=>?_;subst hw';exact⟨_,h,[Hp.emp],hx,Ends.refl hw,Y,_,Y,by rw[(Ju []).eq_nil];exact OwnL.nil Bf⟩
 ·have hcs:l.flatMap cI=l.map (Value.int .i64):=Ga l;have hgw:w.heap[g]?=some (.cells (l.flatMap cI++spare).toArray 3 (0,0)):=hw.own _ (bg.2 Y) g _ (Hp.one_self _ _);have hH:Holds (Value.int .i64) w g 0 l.toArray:=holds_of_blockI hgw (by rw[hcs];simp);have hlt:=(br.1 hgw).1;refine(Tryz.slices_Sort_int g 0 cap l w hH hlt ω).mono λx w' ⟨hx,q,os,hw'⟩=>?_;have htl:(Ij l).length=l.length:=(Ju l).length_eq;change w'=grow (putRow (Value.int .i64) (Sort.ahead w q) g 0 (Ij l).toArray) os at hw';have hb:=heap_sortedI (n:=q) (os:=os) (Ij l).toArray hgw;have hgr:=grownBy_sortedI (w:=w) (g:=g) (n:=q) (os:=os) (Ij l).toArray;have hdr:w.drawn<=w'.drawn:=by rw[hw'];exact Nat.le_add_right _ _
  rw[<-hw']at hb hgr
  have hpc:putCells (Value.int .i64) 0 (Ij l).toArray (l.flatMap cI++spare).toArray=((Ij l).flatMap cI++spare).toArray:=by
   apply ge;intro t;unfold putCells;rw[Array.getElem?_mapIdx,gl,gl,Ga,Ga];rcases fz t l.length with h|h
   ·rw[dz (by simpa using h),dz (by simpa[htl] using h)];have h2:t<(Ij l).length:=ω
    simp[h,h2]
   ·rw[List.getElem?_append_right (by simpa using h),List.getElem?_append_right (by simpa[htl] using h)];simp only[List.length_map,htl,List.size_toArray];cases spare[t-l.length]? with
    | none=>rfl
    | some u=>
     simp only[Option.map_some];rw[if_neg (by omega)]
  rw[hpc]at hb;have hE:=Ends.put (l':=(Ij l).flatMap cI++spare) (i:=0) (Ends.refl hw) Y hgr.os ⟨hgr.tape,hdr⟩ hgr.output hgr.size (by simpa using hb) (λk hk hne=>hgr.block k hk (λe=>hne (by simpa using e)));refine⟨_,h,_,hx,hE,Y,_,Y,⟨?_,.inr ⟨g,cap,spare,?_,Y,?_,?_,e3⟩⟩,hF⟩
  ·rw[Ga];simp
  ·rw[htl]
  ·rw[ag,BZ Bf,htl,<-BZ Bf l,<-ag];exact e1
  ·rw[htl];exact e2
open Go.Lin Go.Wd
def Jy(T:List (Int×Int))(j:Nat):Int:=(T.getD j (0,0)).1
theorem V5{T:List (Int×Int)}{j:Nat}(hj:j<T.length):T[j].1=Jy T j:=by unfold Jy;simp[List.getD,hj]
theorem ZX(T:List (Int×Int)):(range T.length).map (Jy T)=T.map Prod.fst:=by
 refine fl σ λi h1 h2=>?_;have hi:i<T.length:=by simpa using h1
 simp[<-V5 hi]
def AcY(T:List (Int×Int))(vis:List Nat)(vs:List Value)(vis':List Nat):Prop:=∃(j:Nat) (hj:j<T.length),j ∉ vis/\vs=[kN (Jy T j)]/\vis'=vis++[j]
theorem Wu(g1 gT:Nat)(m:Hp)(T:List (Int×Int))(bs:List Nat)(h:Hp)(hG:Seg h [] ⟨g1,0,none⟩ [.map (some gT)])(O:Cd kN WD gT Cc m T bs)(hm:m.le h) :
  Ae2 Tryz.prog 198 [.pt g1] h (AcY T) [] (λvis=>vis.Perm (range T.length)):=by
 intro lp X h1 ms hl hY h0;show FnT _ _ #[.func (.yield lp) #[] #[],.pt g1] _ _ _;have hG:=hG.le hl;have hm:=AD hm hl;refine Ao func198 ntmps198 Y Y (λw0 hw0=>?_);simp only[AS];refine As (Ql Y HN ((hG.at0 Y).any) (IZ O hm Y HN Y Y Y Y (λgi mi I0=>An (Af ?_))))
 refine AC (λq s hh ms'=>∃(vis:List Nat) (mi:Hp) (ms0:List Hp),q=T.length-vis.length/\s=[(0,.func (.yield lp) #[] #[]),(5,.pt gi)]/\h1.le hh/\ms'=mi::ms0/\Et gi gT m mi bs vis/\X vis hh ms0)
  (T.length-0) _ ⟨[],mi,ms,rfl,rfl,BD,rfl,I0,h0⟩ Qs ?_
 rintro q s hh ms' ⟨vis,mi,ms0,rfl,rfl,lh,rfl,I,hX⟩;have hm:=AD hm lh;refine As ?_;refine Ka 0 O I hm Y Y Y Y Y Y (λhall=>?_) (λj hj mi' hjv I'=>?_)
 ·refine Qm Y (An (Ac (AN Y (AA (Aa (Aa (Ag (AR ?_))))))));exact CA Y (⟨vis,(List.perm_ext_iff_of_nodup I.nodup List.nodup_range).2 λj=>⟨λhj=>ct.2 (by have:=I.lt j hj;rw[O.len]at this;exact this),λhj=>hall j (ct.1 hj)⟩,hX⟩)
 ·refine Qm Y (An (Ac ?_))
  have hlen:(vis++[j]).length<=T.length:=by have:=I'.nodup.length_le_of_subset (l₂:=range T.length) λx hx=>ct.2 (by have:=I'.lt x hx;rw[O.len]at this;exact this);simpa using this
  rw[ag,ae]at hlen;refine AX Y (Ah (Ab (Af (As (Qx (IA O I' hm Mh hj Y Y) Y (Qm Y (Qm Y (An ?_))))))));rw[V5 hj];refine Ac (By (BW (Ar Y Y) Y Y Y (BW (Ar Y Y) Y Y Y (Oj (pre:=ms0) (fr:=[mi']) (List.perm_append_comm (l₁:=[mi'])) Y Y Y (hY vis [kN (Jy T j)] (vis++[j]) hh ms0 ⟨j,hj,hjv,Y,Y⟩ lh hX) Y Y Y (λr h2 ms2 l2 hr=>?_)))));obtain⟨rfl,hX2⟩:=hr;refine BW (DQ Y Y) Y Y Y (CS (Ab (AN Y (Ah (Ai (II (List.perm_append_comm (l₂:=[mi'])) ?_))))));exact Ap (T.length-(vis++[j]).length) _ (by rw[ag,ae];omega) ⟨vis++[j],mi',ms2,rfl,rfl,AD lh l2,rfl,I',hX2⟩ Qs
theorem Abh(v:Option Nat)(h:Hp):FnT Tryz.prog 158 #[.map v] h [] (λr h' ms'=>h=h'/\∃g,r=.func (.func 198) #[] #[.pointer (some ⟨g,0,none⟩)]/\ms'=[BL g 141 [.map v]]):=by refine Ao func158 ntmps158 Y Y (λw0 hw0=>?_);simp only[AS];refine As (AK [_] Y Y (by rfl) Y Y Y (λg1=>Qm Y (Bw (Qx (BG Y Y Y) Y (Qm Y (An (Aj ?_)))))));exact Al Y Y (⟨Y,_,Y,Y⟩)
theorem NF(g1 gT:Nat)(m:Hp)(T:List (Int×Int))(bs:List Nat)(h:Hp)(hG:Seg h [] ⟨g1,0,none⟩ [.map (some gT)])(O:Cd kN WD gT Cc m T bs)(hm:m.le h)(hT:T.length<=1000000) :
  FnT Tryz.prog 235 #[.nl,.func (.func 198) #[] #[.pt g1]] h [] (λr h' ms'=>h.le h'/\∃(vis:List Nat) (mo:Hp),ms'=[mo]/\vis.Perm (range T.length)/\OwnL cI 1 3 mo r (vis.map (Jy T))):=by
 have hI:=Wu g1 gT m T bs h hG O hm;refine E7 func235 ntmps235 Y Y (λw0 hw0=>?_);simp only[AS];refine As (AK [_] Y Y (by rfl) Y Y Y (λg2=>Qm Y (An (Ac (As (Qm Y (An (Af (B8 (Acw ?_))))))))));refine NH (R:=AcY T) (λ(vis:List Nat) hh ms=>vis.Nodup/\(∀x∈vis,x<T.length)/\∃v mo,ms=[BL g2 22 [v],mo]/\OwnL cI 1 3 mo v (vis.map (Jy T))) (λ(vis:List Nat) vs vis' s1 hh ms=>vis.Nodup/\(∀x∈vis,x<T.length)/\∃v mo j,j<T.length/\j ∉ vis/\vis'=vis++[j]/\s1=[(2,.pt g2),(5,.w (Jy T j))]/\ms=[BL g2 22 [v],mo]/\OwnL cI 1 3 mo v (vis.map (Jy T))) Y call198 hI ?_ Y ?_ ?_ ?_ ?_
 ·rintro k vs k' ⟨j,hj,_,rfl,_⟩;rfl
 ·exact⟨List.Pairwise.nil,by simp,_,_,rfl,OwnL.nil Bf⟩
 ·rintro w1 vis vs vis' hh ms1 ⟨j,hj,hjv,rfl,rfl⟩ lh ⟨hn,hlt,v,mo,rfl,hO⟩;rw[show kN (Jy T j)=.w (Jy T j) from Y];refine Bg κ (Qm Y (Am ?_));exact AH _ ⟨hn,hlt,v,mo,j,hj,hjv,Y,Y,Y,hO⟩ Qs
 ·rintro w1 vis vs vis' s1 hh ms1 hR lh ⟨hn,hlt,v,mo,j,hj,hjv,rfl,rfl,rfl,hO⟩;have hn':(vis++[j]).Nodup:=gz.2 ⟨hn,by simp,λa ha b hb e=>by simp at hb;subst hb;subst e;exact hjv ha⟩
  have hlt':∀x∈vis++[j],x<T.length:=λx hx=>by
   rcases bl.1 hx with h1|h1
   ·exact hlt x h1
   ·simp at h1;omega
  have hlen:(vis.map (Jy T)).length<=1000000:=by have:=hn.length_le_of_subset (l₂:=range T.length) λx hx=>ct.2 (hlt x hx);simp at this ⊢;omega
  have ov:=hO.o1;refine Ef (Bg κ (Ql Y A9 (Cell.blk0 0 Y Y) (Qm Y (AB [_] Y A9 Bp Y (by rfl) Y Y ω Y Y Y (λg10=>AL 2 hO (RdL.one Bf (x:=Jy T j) Mh Y) Y A9 Bp Y ω Y Y Y Cq (by simp only[ae];omega) (by simp only[ae];omega) rfl rfl rfl (λv2 mo2 hO2=>?_))))));have ov2:=hO2.o1;refine Bi 1 0 Y FA Y Y (by assumption) Y Y (by(simp;done)) rfl rfl ?_;refine Am (Ai (AR ?_));refine AH [] ⟨hn',hlt',v2,mo2,Y,?_⟩ eo;rw[List.map_append];exact hO2
 ·intro D vis hh ms1 hfin lh ⟨hn,hlt,v,mo,e,hO⟩;subst e;have ov:=hO.o1;refine Ai (Ab (As (Ql Y A9 (Cell.blk0 0 Y Y) (Qm Y (An (Aj (AR (FQ 1 (.inr Y) Y ?_))))))));exact Al Y Y (⟨lh,vis,mo,Y,hfin,hO⟩)
theorem SA(g1 gT:Nat)(m:Hp)(T:List (Int×Int))(bs:List Nat)(h:Hp)(hG:Seg h [] ⟨g1,0,none⟩ [.map (some gT)])(O:Cd kN WD gT Cc m T bs)(hm:m.le h)(hT:T.length<=1000000) :
  FnT Tryz.prog 196 #[.func (.func 198) #[] #[.pt g1]] h [] (λr h' ms'=>h.le h'/\∃(vis:List Nat) (mo:Hp),ms'=[mo]/\vis.Perm (range T.length)/\OwnL cI 1 3 mo r (vis.map (Jy T))):=by
 refine Ao func196 ntmps196 Y Y (λw0 hw0=>?_);simp only[AS];refine As (Qm Y (Bw (Qm Y (Qc call235 Y (NF g1 gT m T bs h hG O hm hT) (λx h2 ms2 l2 hF=>?_)))));obtain⟨l2',vis,mo,rfl,hp,hO⟩:=hF;have ov:=hO.o1;refine Qm Y (An (Aj ?_));exact Al Y Y (⟨l2,vis,mo,Y,hp,hO⟩)
theorem Ua(g1 gT:Nat)(m:Hp)(T:List (Int×Int))(bs:List Nat)(h:Hp)(hG:Seg h [] ⟨g1,0,none⟩ [.map (some gT)])(O:Cd kN WD gT Cc m T bs)(hm:m.le h)(hT:T.length<=1000000) :
  FnT Tryz.prog 157 #[.func (.func 198) #[] #[.pt g1]] h [] (λr h' ms'=>h.le h'/\∃(ks:List Int) (mo:Hp),ms'=[mo]/\OwnL cI 1 3 mo r ks/\ks.Perm (T.map Prod.fst)/\ks.Pairwise (·<=·)):=by
 refine Ao func157 ntmps157 Y Y (λw0 hw0=>?_);simp only[AS];refine As (Qm Y (Bw (Qm Y (Qc call196 Y (SA g1 gT m T bs h hG O hm hT) (λx h2 ms2 l2 hF=>?_)))));obtain⟨l2',vis,mo,rfl,hp,hO⟩:=hF;have hlen:(vis.map (Jy T)).length<=1000000:=by rw[List.length_map,hp.length_eq,List.length_range];exact hT
 refine Qm Y (Bw (Qm Y (Az (pre:=[mo]) Y call197 Y (Aa1 _ x mo hO ω h2) Y Y Y Y (λy h3 ms3 l3 hF=>?_))));obtain⟨rfl,mo2,rfl,hO2⟩:=hF;have ov:=hO2.o1;refine Bw (Qm Y (Qm Y (An (Aj ?_))));exact Al Y Y (⟨l2,_,mo2,Y,hO2,(Ju _).trans (by show List.Perm _ (T.map Prod.fst);rw[<-ZX];exact hp.map _),Ps _⟩)
end
end Go.Proofs.Q