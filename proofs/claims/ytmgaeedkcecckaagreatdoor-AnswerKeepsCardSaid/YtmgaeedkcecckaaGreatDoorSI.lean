/- A part of the proof. -/
import Derived.Test.YtmgaeedkcecckaaGreatDoorSH
import Derived.Test.YtmgaeedkcecckaaGreatDoorRows
import Derived.Test.YtmgaeedkcecckaaGreatDoorChecked
import Derived.WalkKit
import Derived.ProofKit
import Derived.ChangeOld
import Derived.LaidMore
import Derived.Lay
import Derived.SevenTiedAt
import Derived.Stop.Joined
import Derived.Test.YtmgaeedkcecckaaGreatDoorCards
import Derived.Test.YtmgaeedkcecckaaGreatDoorTie
set_option linter.unusedSimpArgs false
set_option linter.unusedVariables false
set_option linter.unusedSectionVars false
set_option maxRecDepth 100000
set_option maxHeartbeats 4000000
open List (mem_map length_map length_singleton getElem_mem replicate range length_append nil_append length_take mem_cons cons_append map_append mem_cons_self mem_cons_of_mem take_succ_eq_append_getElem map_map map_cons getElem_of_mem take_length pairwise_map append_assoc getElem_map length_cons length_range range_succ map_congr_left sum_cons take_of_length_le)
namespace Go.Proofs.Q
open Go.Proofs.Tryz
open Go.Eng Go.RowKit
section
open Go.Lin Go.Wd Go.Sm Go.Ch
def MI(S:List (Int×(Int×Int)))(a:List Tm):List Tm:=S.map λp=>(p.2.1,cf a p.1*p.2.2)
theorem AcD(S:List (Int×(Int×Int)))(a:List Tm)(p:Int×(Int×Int)):MI (S++[p]) a=MI S a++[(p.2.1,cf a p.1*p.2.2)]:=by unfold MI;rw[cz];rfl
theorem Acu(S:List (Int×(Int×Int)))(a:List Tm):(∀c,cf (MI S a) c=cf (DV S a) c)/\Bi (MI S a)=Bi (DV S a):=by
 induction S with
 | nil=>exact⟨λc=>rfl,Y⟩
 | cons p S ih=>
  have e:DV (p::S) a=(if cf a p.1≠0 then [((p.2.1,cf a p.1*p.2.2):Tm)] else [])++DV S a:=by unfold DV;by_cases h:cf a p.1=0<;>simp[h]
  rw[e];show(∀c,cf ((p.2.1,cf a p.1*p.2.2)::MI S a) c=_)/\Bi ((p.2.1,cf a p.1*p.2.2)::MI S a)=_;by_cases h:cf a p.1=0
  .rw[af (λq=>q h),aw];refine⟨λc=>?_,?_⟩
   .rw[CN,ih.1,h];simp
   .rw[DD,ih.2,h];simp
  .rw[ah h];refine⟨λc=>?_,?_⟩
   .rw[jo,CN,CN,ih.1]
   .rw[jo,DD,DD,ih.2]
theorem AaA(S:List (Int×(Int×Int)))(T:List (Int×(Int×Int)))(a:List Tm):Bi (MI S a)<=Bi (MI (S++T) a):=by unfold MI;rw[cz,Bp];omega
theorem OB(v va:Value)(l:List Ce)(a:List Tm)(h:Hp)(X:CxS v h l)(A:ChR va h a)(hB:Bi (DV (A8 (l.map Ce.c)) a)<2^2000000)(hT:(A8 (l.map Ce.c)).length<100000) :
  FnT prog 29 #[.agg #[v],va] h [] (λr e f=>h.le e/\f=[]/\CanV (cf (DV (A8 (l.map Ce.c)) a)) (Bi (DV (A8 (l.map Ce.c)) a)) (A8 (l.map Ce.c)).length r e):=by
 have ov:=X.rd.q.rd.one;obtain⟨aa,ac,rfl,_⟩:=A.rd.rd.ex;obtain⟨o,ho⟩:∃o,l.map Ce.c=o:=⟨_,Y⟩
 rw[ho]at hB hT ⊢;obtain⟨hcfA,hablA⟩:=Acu (A8 o) a;obtain⟨n,K⟩:∃n,l.length=n:=⟨_,Y⟩
 have hon:o.length=n:=by rw[<-ho,bb,K]
 have hnb:n<=1000:=K ▸ X.len;have rV:∀e,h.le e->Rd e [] v 3 n (l.flatMap cC):=λe q=>by have:=(X.rd.q.up q).rd;rwa [K]at this
 refine Au func29 ntmps29 Y Y<|λ_ _=>U<|AK [_] Y Y ξ Y Y Y<|λg2=>J Y<|AH λh1 l1 hS2=>?_;have Q:∀e,h1.le e->∀b,Cell e b ((⟨g2,0,none⟩:Addr).add 0) v:=λe q b=>((hS2 0 _ Y).any).le q;refine U<|J Y<|Ac<|U<|J Y<|Ag<|AC (λq sl e f=>∃(i:Nat) (w:Value),n-i=q/\sl=[(1,.slice aa a.length ac),(2,.pt g2),(5,w),(6,.w (i:Int))]/\h1.le e/\f=[]/\i<=n/\CanV (cf (MI (A8 (o.take i)) a)) (Bi (MI (A8 (o.take i)) a)) (A8 (o.take i)).length w e) (n-0) _ ⟨0,_,Y,Y,Bk,Y,Z,[],IZ,El _,fm _,fm _⟩ Qs ?_;rintro q sl e f ⟨i,w,rfl,rfl,lh,rfl,hi,u⟩;have g:=N l1 lh;refine Ac<|U<|G Y<|Qf Cy Y<|Ql Y B8 (Q _ lh _)<|E (Aw (rV _ g).any Y B8 Y) Y<|J Y<|Ay Y (λhlt=>?_)<|λhlt=>?_
 .have hin:i<n:=Z
  have hil:i<l.length:=Z
  have hio:i<o.length:=Z
  obtain⟨x,hx⟩:∃x,l[i]=x:=⟨_,Y⟩
  have hox:o[i]=x.c:=by subst ho;rw[fd,hx]
  have L:x∈l:=hx ▸ aq hil;have Rs:=X.rd.s x L;have ox:=Rs.rd.one;obtain⟨p,hp⟩:∃p,x.c.sd.length=p:=⟨_,Y⟩
  have hpn:p<=1000:=hp ▸ X.sdn x L;have gE:∀c,h.le c->∀b,Seg c b ((AJ v).add (i*3)) (cC x):=λc q b=>by rw[<-hx];exact((X.rd.q.up q).any (ms:=b)).seg hil
  have e0:∀b,Cell e b (((AJ v).add (i*3)).add 0) (.w x.c.id):=λb=>gE _ g b 0 _ Y;obtain⟨k,t⟩:∃k,cf a x.c.id=k:=⟨_,Y⟩
  have osn:=AA (Ba k.natAbs);have hns:Sz k:=by rw[<-t];exact Mo (Dc _ _) A.abs H
  have m:=W2 _ a x.c.id e (A.up g);rw[t]at m;refine I<|Ac<|Ag<|U<|G Y<|Qf Cy Y<|Ql Y B8 (Q _ lh _)<|G Y<|E (AR (i) (rV _ g).any Y B8 A9 Y Y Z Z) Y<|Qf B7 Y<|Ql Y U3 (e0 _)<|E (As Y call71 Y<|m _) Y<|BJ [.bool false,.es] Y Av Y Y<|λg7=>?_;refine Sa 0 [_,_] Av Y (by simp[ov,ox,osn]) ?_;refine Ao<|AH λh3 l3 hS7=>?_;have l03:=N g l3;have lh3:=N lh l3;have g7_:∀c,h3.le c->∀b,Seg c b (⟨g7,0,none⟩:Addr) (Bg k):=λc q b=>(hS7.le q).any;have rS:∀c,h.le c->Rd c [] x.v 2 p (x.c.sd.flatMap cD):=λc q=>by have:=(Rs.up q).rd;rwa [hp]at this
  obtain⟨P,hP⟩:∃P:Nat->List (Int×(Int×Int)),P=λj=>A8 (o.take i)++(x.c.sd.take j).map λs=>(x.c.id,s):=⟨_,Y⟩
  have hP0:P 0=A8 (o.take i):=by rw[hP];simp
  have S:P p=A8 (o.take (i+1)):=by rw[hP];show _++(x.c.sd.take p).map _=_;rw[show x.c.sd.take p=x.c.sd from bm Z,ap hio,hox,LF]
  rw[<-hP0]at u;have hpre:∃T,A8 o=P p++T:=⟨A8 (o.drop (i+1)),by rw[S];unfold A8;rw[<-fe,List.take_append_drop]⟩
  refine U<|J Y<|Ag<|AC (λq sl c f=>∃(j:Nat) (w:Value),p-j=q/\sl=[(1,.slice aa a.length ac),(2,.pt g2),(5,w),(6,.w (i:Int)),(7,.pt g7),(8,.w (j:Int))]/\h3.le c/\f=[]/\j<=p/\CanV (cf (MI (P j) a)) (Bi (MI (P j) a)) (P j).length w c) (p-0) _ ⟨0,_,Y,Y,Bk,Y,Z,u.up l3⟩ Qs ?_;rintro q sl c f ⟨j,w,rfl,rfl,l2,rfl,hj,u⟩;have d:=N l03 l2;have O:=N lh3 l2;have ow:w.oneCell'=true:=by obtain⟨_,_,q,_⟩:=u;exact q.rd.rd.one
  have e2:∀b,Cell c b (((AJ v).add (i*3)).add 2) x.v:=λb=>gE _ d b 2 _ Y;refine Ac<|U<|G Y<|Qf Cy Y<|Ql Y B8 (Q _ O _)<|G Y<|E (AR (i) (rV _ d).any Y B8 A9 Y Y Z Z) Y<|Qf BZ Y<|Ql Y Di (e2 _)<|E (Aw (rS _ d).any Y Di Y) Y<|J Y<|Ay Y (λhjp=>?_)<|λhjp=>?_
  .have hjp':j<p:=Z
   have B:j<x.c.sd.length:=Z
   obtain⟨y,hy⟩:∃y,x.c.sd[j]=y:=⟨_,Y⟩
   have hym:y∈x.c.sd:=hy ▸ aq B;have M:=X.sds x L y hym;have gS:∀b,Seg c b ((AJ x.v).add (j*2)) (cD y):=λb=>by rw[<-hy];exact((Rs.up d).any (ms:=b)).seg B
   have f0:∀b,Cell c b (((AJ x.v).add (j*2)).add 0) (.w y.1):=λb=>gS b 0 _ Y;have f1:∀b,Cell c b (((AJ x.v).add (j*2)).add 1) (.w y.2):=λb=>gS b 1 _ Y;have R:P (j+1)=P j++[(x.c.id,y)]:=by rw[hP];show _++_=_++_++_;rw[ap B,hy,cz,du];rfl
   have eB:MI (P (j+1)) a=MI (P j) a++[(y.1,k*y.2)]:=by rw[R,AcD,t]
   obtain⟨T,hT2⟩:=hpre;have hsub:∃T2,A8 o=P (j+1)++T2:=⟨(x.c.sd.drop (j+1)).map (λs=>(x.c.id,s))++T,by rw[hT2,hP];show _++_++T=_++_++(_++T);rw[show x.c.sd.take p=x.c.sd from bm Z,du,du,<-du (List.map _ _),<-cz,List.take_append_drop]⟩
   obtain⟨T2,hT3⟩:=hsub;have hle:Bi (MI (P (j+1)) a)<=Bi (MI (A8 o) a):=by rw[hT3];exact AaA _ _ _
   have hlen:(P (j+1)).length<=(A8 o).length:=by rw[hT3,ag];omega
   have hlen1:(P (j+1)).length=(P j).length+1:=by rw[R,ag];rfl
   have hbt:Bi (MI (P (j+1)) a)=Bi (MI (P j) a)+(k*y.2).natAbs:=by rw[eB,Bp];rfl
   obtain⟨l',CL,CR,ha',hb'⟩:=u;have osy:=AA (Ba y.2.natAbs);have osm:=AA (Ba (k*y.2).natAbs);refine I<|Ac<|Ag<|AS (n:=26) (bs:=[W,W,W,W,W,W,W,W,W,W,W,W,W,W,W,W,W,W,W,W,W,W,W,W,lw,lw]) [W,W,W,W,W,W,W,W,W,W,W,W,W,W,W,W,W,W,W,W,W,W,W,W] Cx V V Y Y<|Qq Y<|QF Cy Y<|QL Y B8 (Q _ O _)<|Qq Y<|Qp Y (AR (i) (rV _ d).any Y B8 A9 Y Y Z Z)<|QF BZ Y<|QL Y Di (e2 _)<|Qq Y<|Qp Y (AR (j) (rS _ d).any Y Di B5 Y Y Z Z)<|QF Dv Y<|QL Y U3 (f0 _)<|Qp Y (oG Y Bn Av<|g7_ _ l2 _)<|QF Cy Y<|QL Y B8 (Q _ O _)<|Qq Y<|Qp Y (AR (i) (rV _ d).any Y B8 A9 Y Y Z Z)<|QF BZ Y<|QL Y Di (e2 _)<|Qq Y<|Qp Y (AR (j) (rS _ d).any Y Di B5 Y Y Z Z)<|QF Ep Y<|QL Y U3 (f1 _)<|Qp Y (As Y call25 Y<|H3 y.2 M.2 _ _)<|Qp Y (As Y call26 Y<|Ri k y.2 hns (PH M.2) _ _)<|Qo 24 Y<|AE (pre:=[]) Y call62 Y (TH w l' _ y.1 (k*y.2) c CR CL M.1 Z Z) Y Y Y Y<|λw2 h4 ms4 l4 hF=>?_;obtain⟨l4',rfl,z⟩:=hF;have ow2:w2.oneCell'=true:=by obtain⟨_,_,q,_⟩:=z;exact q.rd.rd.one
   refine Qa<|Qo 25 Y<|G Y<|Qa<|Qe ?_;have eup:upd (cf (MI (P j) a)) y.1 (k*y.2)=cf (MI (P (j+1)) a):=by rw[eB];exact N6 _ (y.1,k*y.2)
   rw[eup]at z;obtain⟨l5,CL5,CR5,ha5,hb5⟩:=z;refine D2<|Ad<|G Y<|E (oA Y) Y<|G Y<|Am<|Aq (p-(j+1)) _ Z ⟨j+1,w2,Y,Y,N l2 l4',Y,Z,l5,CL5,CR5,Z,Z⟩ Qs
  .obtain rfl:j=p:=Z
   rw[S]at u;refine C<|D2<|Ad<|G Y<|E (oA Y) Y<|G Y<|Am<|Aq (n-(i+1)) _ Z ⟨i+1,w,Y,Y,N lh3 l2,Y,Z,u⟩ Qs
 .obtain rfl:i=n:=Z
  rw[show o.take i=o from bm Z]at u;obtain⟨l',CL,CR,ha',hb'⟩:=u;have ow:=CR.rd.rd.one;refine C<|Ab<|U<|G Y<|J Y<|Aj<|Ar Y Y (⟨g,Y,l',CL.congr hcfA,CR,Z,hb'⟩)
theorem Aed(a b:List Tm)(m n:Value)(h:Hp)(f:RdL D6 3 h [] m a)(g:RdL D6 3 h [] n b)(d:List Hp):FnV prog 20 #[m,n] h d (.bool (decide (a=b))):=by
 refine D9 ?_ d;have A:=f.len_le;have B:=g.len_le;have K:=f.rd.one;have L:=g.rd.one;refine Au func20 ntmps20 Y Y<|λ_ _=>U<|J Y<|X<|U<|G Y<|E (Aw f.rd.any Y Ct Y) Y<|G Y<|E (Aw g.rd.any Y Ct Y) Y<|J Y<|Ay Y (λc=>?_)<|λc=>?_
 .refine X<|Ad<|J Y<|Aj<|Ae ?_;exact Ar Y Y (by rw[dx];intro e;rw[e]at c;exact c Y)
 .have x:a.length=b.length:=Z
  refine I<|X<|U<|J Y<|Ag ?_
  refine AC (λq s t l=>∃(k:Nat),q=a.length-k/\s=[(0,m),(1,n),(5,.w k)]/\h=t/\l=[]/\k<=a.length/\a.take k=b.take k)
   (a.length-0) _ ⟨0,rfl,rfl,rfl,rfl,Z,rfl⟩ Qs ?_
  rintro q s t l ⟨k,rfl,rfl,rfl,rfl,z,p⟩;refine X<|U<|D Y Y<|E (Aw f.rd.any Y Ct Y) Y<|J Y<|Ay Y (λr=>?_)<|λr=>?_
  .have i:k<a.length:=Z
   have j:k<b.length:=Z
   have u:∀d,Seg h d ((AJ m).add (k*3)) (D6 a[k]):=λd=>(f.any (ms:=d)).seg i;have v:∀d,Seg h d ((AJ n).add (k*3)) (D6 b[k]):=λd=>(g.any (ms:=d)).seg j;refine I<|X<|Ag<|X<|BK 8 Cx V Y<|Wm Y<|Wm Y<|BS (BP (k) f.rd.any Y Ct Cv Y Y) Y Y<|BS (oG Y U79 Cv<|u _) Y Y<|Wm Y<|Wm Y<|BS (BP (k) g.rd.any Y Ct Cv Y Y) Y Y<|BS (oG Y U79 Cv<|v _) Y Y<|BB<|E (Adx a[k] b[k] Y Y Y) Y<|Ao<|Ay Y (λc=>?_)<|λc=>?_
   .refine X<|Ad<|J Y<|Aj<|An<|Ae<|Ae<|An<|Ae ?_;exact Ar Y Y (by rw[dx];rintro rfl;exact c Y)
   .refine Ah<|D2<|Ad<|G Y<|E (oA Y) Y<|G Y<|Am<|Aq (a.length-(k+1)) _ Z ⟨k+1,Y,Y,Y,Y,Z,?_⟩ Qs;rw[j9,j9,p,aj i,aj j,Decidable.not_not.1 c]
  .obtain rfl:k=a.length:=Z
   refine C<|Ab<|U<|J Y<|Aj ?_;exact Ar Y Y (by rw[fz,x,fz]at p;rw[bp p])
theorem PM(p s:Value)(a b:List Tm)(h:Hp)(A:ChR p h a)(B:ChR s h b)(n:List Hp):FnV prog 54 #[p,s] h n (.bool (eqC a b)):=by
 refine D9 ?_ n;obtain⟨M,O,rfl,_⟩:=A.rd.rd.ex;obtain⟨P,Q,rfl,_⟩:=B.rd.rd.ex;refine Au func54 ntmps54 Y Y<|λ_ _=>U<|G Y<|BF<|G Y<|Qc call21 Y (IF _ a h A)<|λx u K R g=>?_;obtain⟨i,rfl,l,k,m,_,_⟩:=g;refine G Y<|Qc call21 Y (IF _ b u<|B.up i)<|λy v L S g=>?_;obtain⟨j,rfl,r,d,f,_,_⟩:=g;have T:=m.rd.rd.one;have oy:=f.rd.rd.one;refine E (As Y call20 Y<|Aed l r x y v (m.rd.up j) f.rd _) Y<|J Y<|Aj ?_;have e:l=r<->∀c,cf a c=cf b c:=⟨λe c=>by rw[<-k.cf_eq,<-d.cf_eq,e],λe=>k.ext d e⟩
 have t:decide (l=r)=eqC a b:=by rw[ki,Q6,gk];exact e
 exact Ar Y Y<|bh Value.bool t
theorem Aes(s m:Value)(a l:List Tm)(h:Hp)(A:ChR s h a)(B:ChR m h l)(e:Bi a*Bi l<2^2000000)(d:List Hp):FnV prog 58 #[s,m] h d (WD (lin (cf a) l)):=by
 refine D9 ?_ d;obtain⟨n,hn⟩:∃n,l.length=n:=⟨_,Y⟩
 have hnb:n<=100000:=hn ▸ B.len;have r:Rd h [] m 3 n (l.flatMap D6):=by have:=B.rd.rd;rwa [hn]at this
 have oa:=A.rd.rd.one;have ov:=r.one;have K:∀k,Sz (lin (cf a) (l.take k)):=λk=>Mo (bl (MM (Dc a) _) (i6 _ (Gw l k))) e H;refine Au func58 ntmps58 Y Y<|λ_ _=>U<|BJ [.bool false,.es] Y Av Y Y<|λT=>BF<|BJ [.bool false,.es] Y Av Y Y<|λg5=>Ao<|X<|U<|J Y<|Ag<|AC (λq sl h' i=>∃(k:Nat),n-k=q/\sl=[(0,s),(1,m),(4,.pt T),(5,.pt g5),(6,.w (k:Int))]/\h=h'/\i=[BE g5 33 (Bg (lin (cf a) (l.take k))),BE T 33 (Bg 0)]/\k<=n) (n-0) _ ⟨0,Y,Y,Y,Y,Z⟩ Qs ?_;rintro q sl h' i ⟨k,rfl,rfl,rfl,rfl,hk⟩;obtain⟨y,g⟩:∃y,lin (cf a) (l.take k)=y:=⟨_,Y⟩
 have O:Sz y:=g ▸ K k;have j:=AA (Ba y.natAbs);rw[g];refine X<|U<|D Y Y<|E (Aw r.any Y Ct Y) Y<|J Y<|Ay Y (λv=>?_)<|λv=>?_
 .have hkn:k<n:=Z
  have c:k<l.length:=Z
  obtain⟨t,L⟩:∃t,l[k]=t:=⟨_,Y⟩
  have f:t∈l:=L ▸ aq c;have gE:∀d,Seg h d ((AJ m).add (k*3)) (D6 t):=λd=>by rw[<-L];exact(B.rd.any (ms:=d)).seg c
  obtain⟨x,p⟩:∃x,cf a t.1=x:=⟨_,Y⟩
  have M:Sz x:=by rw[<-p];exact Mo (Dc _ _) A.abs H
  have u:lin (cf a) (l.take (k+1))=y+x*t.2:=by rw[ap c,L,D1,g];show _+(cf a t.1*t.2+0)=_;rw[p];omega
  have z:Sz (x*t.2):=Mo (n:=Bi a*Bi l) (by rw[jv,<-p];exact fx (Dc a _)<|HU f) e H;have b:=W2 s a t.1 h A;rw[p]at b;have S:=AA (Ba x.natAbs);have R:=AA (Ba t.2.natAbs);have P:=AA (Ba (x*t.2).natAbs);have Q:=AA (Ba (y+x*t.2).natAbs);refine I<|X<|Ag<|AS (n:=16) (bs:=[lw,W,W,W,W,W,W,W,W,W,W,W,W,W,lw,lw]) [lw,W,W,W,W,W,W,W,W,W,W,W,W,W] Cx V V Y Y<|Qq Y<|Qq Y<|Qq Y<|Qp Y (BP (k) r.any Y Ct Cv Y Y)<|QF Gr Y<|QL Y U3 (Gn<|gE _)<|Qp Y (As Y call71 Y<|b _)<|Qq Y<|Qq Y<|Qp Y (BP (k) r.any Y Ct Cv Y Y)<|QF Ic Y<|Qp Y (oG Y Bn Av<|HE<|gE _)<|Qp Y (As Y call26 Y<|Ri x t.2 M (B.sz f) _ _)<|Qo 0 Y<|E (oG Y Bn Av<|Seg.blk 0 Y) Y<|Qw<|Qo 14 Y<|E (As Y call22 Y<|Ln y (x*t.2) O z _ _) Y<|Qw<|Qo 15 Y ?_;refine Sa 0 [_,_] Av Y (by simp[oa,ov,j,S,R,P,Q]) ?_;refine Qw<|Qe<|D2<|Ad<|G Y<|E (oA Y) Y<|G Y<|Am ?_;exact Aq (n-(k+1)) _ Z ⟨k+1,Y,Y,Y,by rw[u];rfl,Z⟩ Qs
 .obtain rfl:k=n:=Z
  rw[show l.take k=l from bm Z]at g;refine C<|Ab<|U<|E (oG Y Bn Av<|Seg.blk 0 Y) Y ?_;refine Sa 1 [_,_] Av Y (by simp[oa,ov,AA,j]) ?_;refine Ao<|Aj<|AU ?_;exact BC (vs:=[_,_]) 0 Y Y Bn Y Av Y Y ((by rw[g];rfl))
def MT(S:List (Int×(Int×Int)))(a:List Tm):List Tm:=S.map λp=>(p.1,cf a p.2.1*p.2.2)
theorem AaL(S:List (Int×(Int×Int)))(a:List Tm)(p:Int×(Int×Int)):MT (S++[p]) a=MT S a++[(p.1,cf a p.2.1*p.2.2)]:=by unfold MT;rw[cz];rfl
theorem Ac9(S:List (Int×(Int×Int)))(a:List Tm):(∀c,cf (MT S a) c=cf (GN S a) c)/\Bi (MT S a)=Bi (GN S a):=by
 induction S with
 | nil=>exact⟨λc=>rfl,Y⟩
 | cons p S ih=>
  have e:GN (p::S) a=(if cf a p.2.1≠0 then [((p.1,cf a p.2.1*p.2.2):Tm)] else [])++GN S a:=by unfold GN;by_cases h:cf a p.2.1=0<;>simp[h]
  rw[e];show(∀c,cf ((p.1,cf a p.2.1*p.2.2)::MT S a) c=_)/\Bi ((p.1,cf a p.2.1*p.2.2)::MT S a)=_;by_cases h:cf a p.2.1=0
  .rw[af (λq=>q h),aw];refine⟨λc=>?_,?_⟩
   .rw[CN,ih.1,h];simp
   .rw[DD,ih.2,h];simp
  .rw[ah h];refine⟨λc=>?_,?_⟩
   .rw[jo,CN,CN,ih.1]
   .rw[jo,DD,DD,ih.2]
theorem Ac8(S:List (Int×(Int×Int)))(T:List (Int×(Int×Int)))(a:List Tm):Bi (MT S a)<=Bi (MT (S++T) a):=by unfold MT;rw[cz,Bp];omega
theorem Agc(v va:Value)(l:List Ce)(a:List Tm)(h:Hp)(X:CxS v h l)(A:ChR va h a)(hB:Bi (GN (A8 (l.map Ce.c)) a)<2^2000000)(hT:(A8 (l.map Ce.c)).length<100000) :
  FnT prog 56 #[.agg #[v],va] h [] (λr f g=>h.le f/\g=[]/\CanV (cf (GN (A8 (l.map Ce.c)) a)) (Bi (GN (A8 (l.map Ce.c)) a)) (A8 (l.map Ce.c)).length r f):=by
 have ov:=X.rd.q.rd.one;obtain⟨aa,ac,rfl,_⟩:=A.rd.rd.ex;obtain⟨o,ho⟩:∃o,l.map Ce.c=o:=⟨_,Y⟩
 rw[ho]at hB hT ⊢;obtain⟨hcfA,hablA⟩:=Ac9 (A8 o) a;obtain⟨n,L⟩:∃n,l.length=n:=⟨_,Y⟩
 have hon:o.length=n:=by rw[<-ho,bb,L]
 have hnb:n<=1000:=L ▸ X.len;have rV:∀f,h.le f->Rd f [] v 3 n (l.flatMap cC):=λf q=>by have:=(X.rd.q.up q).rd;rwa [L]at this
 refine Au func56 ntmps56 Y Y<|λ_ _=>U<|AK [_] Y Y ξ Y Y Y<|λg2=>J Y<|AH λh1 l1 hS2=>?_;have S:∀f,h1.le f->∀b,Cell f b ((⟨g2,0,none⟩:Addr).add 0) v:=λf q b=>((hS2 0 _ Y).any).le q;refine U<|J Y<|Ac<|U<|J Y<|Ag<|AC (λq sl f g=>∃(i:Nat) (w:Value),n-i=q/\sl=[(1,.slice aa a.length ac),(2,.pt g2),(5,w),(6,.w (i:Int))]/\h1.le f/\g=[]/\i<=n/\CanV (cf (MT (A8 (o.take i)) a)) (Bi (MT (A8 (o.take i)) a)) (A8 (o.take i)).length w f) (n-0) _ ⟨0,_,Y,Y,Bk,Y,Z,[],IZ,El _,fm _,fm _⟩ Qs ?_;rintro q sl f g ⟨i,w,rfl,rfl,lh,rfl,hi,u⟩;have O:=N l1 lh;refine Ac<|U<|G Y<|Qf Cy Y<|Ql Y B8 (S _ lh _)<|E (Aw (rV _ O).any Y B8 Y) Y<|J Y<|Ay Y (λhlt=>?_)<|λhlt=>?_
 .have hin:i<n:=Z
  have hil:i<l.length:=Z
  have hio:i<o.length:=Z
  obtain⟨x,hx⟩:∃x,l[i]=x:=⟨_,Y⟩
  have hox:o[i]=x.c:=by subst ho;rw[fd,hx]
  have z:x∈l:=hx ▸ aq hil;have Rs:=X.rd.s x z;have ox:=Rs.rd.one;obtain⟨p,hp⟩:∃p,x.c.sd.length=p:=⟨_,Y⟩
  have hpn:p<=1000:=hp ▸ X.sdn x z;have gE:∀e,h.le e->∀b,Seg e b ((AJ v).add (i*3)) (cC x):=λe q b=>by rw[<-hx];exact((X.rd.q.up q).any (ms:=b)).seg hil
  have rS:∀e,h.le e->Rd e [] x.v 2 p (x.c.sd.flatMap cD):=λe q=>by have:=(Rs.up q).rd;rwa [hp]at this
  obtain⟨P,hP⟩:∃P:Nat->List (Int×(Int×Int)),P=λj=>A8 (o.take i)++(x.c.sd.take j).map λs=>(x.c.id,s):=⟨_,Y⟩
  have hP0:P 0=A8 (o.take i):=by rw[hP];simp
  have hPp:P p=A8 (o.take (i+1)):=by rw[hP];show _++(x.c.sd.take p).map _=_;rw[show x.c.sd.take p=x.c.sd from bm Z,ap hio,hox,LF]
  rw[<-hP0]at u;have hpre:∃T,A8 o=P p++T:=⟨A8 (o.drop (i+1)),by rw[hPp];unfold A8;rw[<-fe,List.take_append_drop]⟩
  refine I<|Ac<|Ag<|U<|J Y<|Ag<|AC (λq sl e g=>∃(j:Nat) (w:Value),p-j=q/\sl=[(1,.slice aa a.length ac),(2,.pt g2),(5,w),(6,.w (i:Int)),(7,.w (j:Int))]/\f.le e/\g=[]/\j<=p/\CanV (cf (MT (P j) a)) (Bi (MT (P j) a)) (P j).length w e) (p-0) _ ⟨0,_,Y,Y,Bk,Y,Z,u⟩ Qs ?_;rintro q sl e g ⟨j,w,rfl,rfl,l2,rfl,hj,u⟩;have d:=N O l2;have R:=N lh l2;have ow:w.oneCell'=true:=by obtain⟨_,_,q,_⟩:=u;exact q.rd.rd.one
  have e2:∀c,e.le c->∀b,Cell c b (((AJ v).add (i*3)).add 2) x.v:=λc q b=>gE _ (N d q) b 2 _ Y;refine Ac<|U<|G Y<|Qf Cy Y<|Ql Y B8 (S _ R _)<|G Y<|E (AR (i) (rV _ d).any Y B8 A9 Y Y Z Z) Y<|Qf BZ Y<|Ql Y Di (e2 _ (Bk) _)<|E (Aw (rS _ d).any Y Di Y) Y<|J Y<|Ay Y (λhjp=>?_)<|λhjp=>?_
  .have hjp':j<p:=Z
   have K:j<x.c.sd.length:=Z
   obtain⟨y,hy⟩:∃y,x.c.sd[j]=y:=⟨_,Y⟩
   have hym:y∈x.c.sd:=hy ▸ aq K;have hyI:=X.sds x z y hym;have gS:∀c,e.le c->∀b,Seg c b ((AJ x.v).add (j*2)) (cD y):=λc q b=>by rw[<-hy];exact((Rs.up (N d q)).any (ms:=b)).seg K
   have e0:∀c,e.le c->∀b,Cell c b (((AJ v).add (i*3)).add 0) (.w x.c.id):=λc q b=>gE _ (N d q) b 0 _ Y;have f0:∀c,e.le c->∀b,Cell c b (((AJ x.v).add (j*2)).add 0) (.w y.1):=λc q b=>gS c q b 0 _ Y;have f1:∀c,e.le c->∀b,Cell c b (((AJ x.v).add (j*2)).add 1) (.w y.2):=λc q b=>gS c q b 1 _ Y;obtain⟨k,t⟩:∃k,cf a y.1=k:=⟨_,Y⟩
   have osn:=AA (Ba k.natAbs);have hns:Sz k:=by rw[<-t];exact Mo (Dc _ _) A.abs H
   have m:=W2 _ a y.1 e (A.up d);rw[t]at m;have ePs:P (j+1)=P j++[(x.c.id,y)]:=by rw[hP];show _++_=_++_++_;rw[ap K,hy,cz,du];rfl
   have eB:MT (P (j+1)) a=MT (P j) a++[(x.c.id,k*y.2)]:=by rw[ePs,AaL,t]
   obtain⟨T,hT2⟩:=hpre;have hsub:∃T2,A8 o=P (j+1)++T2:=⟨(x.c.sd.drop (j+1)).map (λs=>(x.c.id,s))++T,by rw[hT2,hP];show _++_++T=_++_++(_++T);rw[show x.c.sd.take p=x.c.sd from bm Z,du,du,<-du (List.map _ _),<-cz,List.take_append_drop]⟩
   obtain⟨T2,hT3⟩:=hsub;have hle:Bi (MT (P (j+1)) a)<=Bi (MT (A8 o) a):=by rw[hT3];exact Ac8 _ _ _
   have hlen:(P (j+1)).length<=(A8 o).length:=by rw[hT3,ag];omega
   have hlen1:(P (j+1)).length=(P j).length+1:=by rw[ePs,ag];rfl
   have hbt:Bi (MT (P (j+1)) a)=Bi (MT (P j) a)+(k*y.2).natAbs:=by rw[eB,Bp];rfl
   have hxI:=X.ids x z;refine I<|Ac<|Ag<|U<|G Y<|Qf Cy Y<|Ql Y B8 (S _ R _)<|G Y<|E (AR (i) (rV _ d).any Y B8 A9 Y Y Z Z) Y<|Qf BZ Y<|Ql Y Di (e2 _ (Bk) _)<|G Y<|E (AR (j) (rS _ d).any Y Di B5 Y Y Z Z) Y<|Qf Dv Y<|Ql Y U3 (f0 _ (Bk) _)<|E (As Y call71 Y<|m _) Y<|BJ [.bool false,.es] Y Av Y Y<|λg8=>?_;refine Sa 0 [_,_] Av Y (by simp[ov,ox,osn,ow]) ?_;refine Ao<|AH λc Q hS8=>?_;have M:=N d Q;have lh3:=N R Q;have g8_:∀b,Seg c b (⟨g8,0,none⟩:Addr) (Bg k):=λb=>hS8.any;have hC3:=u.up Q;obtain⟨l',CL,CR,ha',hb'⟩:=hC3;have osy:=AA (Ba y.2.natAbs);have osm:=AA (Ba (k*y.2).natAbs);refine AS (n:=22) (bs:=[W,W,W,W,W,W,W,W,W,W,W,W,W,W,W,W,W,W,W,W,lw,lw]) [W,W,W,W,W,W,W,W,W,W,W,W,W,W,W,W,W,W,W,W] Cx V V Y Y<|Qq Y<|QF Cy Y<|QL Y B8 (S _ lh3 _)<|Qq Y<|Qp Y (AR (i) (rV _ M).any Y B8 A9 Y Y Z Z)<|QF B7 Y<|QL Y U3 (e0 _ Q _)<|Qp Y (oG Y Bn Av<|g8_ _)<|QF Cy Y<|QL Y B8 (S _ lh3 _)<|Qq Y<|Qp Y (AR (i) (rV _ M).any Y B8 A9 Y Y Z Z)<|QF BZ Y<|QL Y Di (e2 _ Q _)<|Qq Y<|Qp Y (AR (j) (rS _ M).any Y Di B5 Y Y Z Z)<|QF Ep Y<|QL Y U3 (f1 _ Q _)<|Qp Y (As Y call25 Y<|H3 y.2 hyI.2 _ _)<|Qp Y (As Y call26 Y<|Ri k y.2 hns (PH hyI.2) _ _)<|Qo 20 Y<|AE (pre:=[]) Y call62 Y (TH w l' _ x.c.id (k*y.2) c CR CL hxI Z Z) Y Y Y Y<|λw2 h4 ms4 l4 hF=>?_;obtain⟨l4',rfl,B⟩:=hF;have ow2:w2.oneCell'=true:=by obtain⟨_,_,q,_⟩:=B;exact q.rd.rd.one
   refine Qa<|Qo 21 Y<|G Y<|Qa<|Qe ?_;have eup:upd (cf (MT (P j) a)) x.c.id (k*y.2)=cf (MT (P (j+1)) a):=by rw[eB];exact N6 _ (x.c.id,k*y.2)
   rw[eup]at B;obtain⟨l5,CL5,CR5,ha5,hb5⟩:=B;refine D2<|Ad<|G Y<|E (oA Y) Y<|G Y<|Am<|Aq (p-(j+1)) _ Z ⟨j+1,w2,Y,Y,N l2<|N Q l4',Y,Z,l5,CL5,CR5,Z,Z⟩ Qs
  .obtain rfl:j=p:=Z
   rw[hPp]at u;refine C<|D2<|Ad<|G Y<|E (oA Y) Y<|G Y<|Am<|Aq (n-(i+1)) _ Z ⟨i+1,w,Y,Y,N lh l2,Y,Z,u⟩ Qs
 .obtain rfl:i=n:=Z
  rw[show o.take i=o from bm Z]at u;obtain⟨l',CL,CR,ha',hb'⟩:=u;have ow:=CR.rd.rd.one;refine C<|Ab<|U<|G Y<|J Y<|Aj<|Ar Y Y (⟨O,Y,l',CL.congr hcfA,CR,Z,hb'⟩)
theorem CP{P:Program}{o:Oper}{s:AG}{h:Hp}{a:List Hp}{v w:Value}(b:OX P o s h a v)(e:v=w):OX P o s h a w:=e ▸ b
theorem AaE(o:List Cl)(x:Cl)(d c:Int):Ix (o++[x]) d c=(Ix o d c||(decide (x.id=c)&&decide (x.dim=d))):=by unfold Ix;rw[List.any_append];simp
theorem YD(v va:Value)(l:List Ce)(d:Int)(a:List Tm)(h:Hp)(X:CxS v h l)(A:ChR va h a)(b:List Hp):FnV prog 53 #[.agg #[v],.int .i64 d,va] h b (.bool (EL (l.map Ce.c) d a)):=by
 refine D9 ?_ b;have ov:=X.rd.q.rd.one;obtain⟨aa,ac,rfl,_⟩:=A.rd.rd.ex;obtain⟨o,ho⟩:∃o,l.map Ce.c=o:=⟨_,Y⟩
 rw[ho];obtain⟨n,O⟩:∃n,l.length=n:=⟨_,Y⟩
 have hon:o.length=n:=by rw[<-ho,bb,O]
 have hnb:n<=1000:=O ▸ X.len;have rV:∀f,h.le f->Rd f [] v 3 n (l.flatMap cC):=λf q=>by have:=(X.rd.q.up q).rd;rwa [O]at this
 refine Au func53 ntmps53 Y Y<|λ_ _=>U<|AK [_] Y Y ξ Y Y Y<|λg3=>J Y<|AH λh1 l1 hS3=>?_;have c0:=qD 0 hS3 Y;refine U<|G Y<|Qc call21 Y (IF _ a h1<|A.up l1)<|λw z ms2 l2 hF=>?_;obtain⟨y,rfl,L,CL,T,hab,hln⟩:=hF;have r:=N l1 y;have ow:=T.rd.rd.one;obtain⟨m,hm⟩:∃m,L.length=m:=⟨_,Y⟩
 have hmb:m<=100000:=hm ▸ T.len;have rW:∀b,Rd z b w 3 m (L.flatMap D6):=λb=>by have:=T.rd.rd.any (ms:=b);rwa [hm]at this
 refine J Y<|Ac<|U<|J Y<|Ag<|AC (λq P f c=>∃(k:Nat),m-k=q/\P=[(1,.w d),(3,.pt g3),(7,w),(8,.w (k:Int))]/\z=f/\c=[]/\k<=m/\(∀j (hj:j<L.length),j<k->Ix o d L[j].1=true)) (m-0) _ ⟨0,Y,Y,Y,Y,Z,λj _ h=>Z⟩ Qs ?_;rintro q P f c ⟨k,rfl,rfl,rfl,rfl,hk,K⟩;refine Ac<|U<|D Y Y<|E (Aw (rW _) Y Ct Y) Y<|J Y<|Ay Y (λhlt=>?_)<|λhlt=>?_
 .have hkm:k<m:=Z
  have Q:k<L.length:=Z
  obtain⟨t,ht⟩:∃t,L[k]=t:=⟨_,Y⟩
  have gT:∀b,Seg z b ((AJ w).add (k*3)) (D6 t):=λb=>by rw[<-ht];exact(T.rd.any (ms:=b)).seg Q
  have S:∀b,Cell z b (((AJ w).add (k*3)).add 0) (.w t.1):=λb=>Gn (gT b);refine I<|Ac<|Ag<|U<|J Y<|Ac<|U<|J Y<|Ag<|AC (λq P f c=>∃(j:Nat),n-j=q/\P=[(1,.w d),(3,.pt g3),(7,w),(8,.w (k:Int)),(9,.bool (Ix (o.take j) d t.1)),(10,.w (j:Int))]/\z=f/\c=[]/\j<=n) (n-0) _ ⟨0,Y,Y,Y,Y,Z⟩ Qs ?_;rintro q P f c ⟨j,rfl,rfl,rfl,rfl,hj⟩;refine Ac<|U<|G Y<|Qf Cy Y<|Ql Y B8 (c0 _ y _)<|E (Aw (rV _ r).any Y B8 Y) Y<|J Y<|Ay Y (λhjn=>?_)<|λhjn=>?_
  .have hjn':j<n:=Z
   have hjl:j<l.length:=Z
   have hjo:j<o.length:=Z
   obtain⟨x,hx⟩:∃x,l[j]=x:=⟨_,Y⟩
   have hox:o[j]=x.c:=by subst ho;rw[fd,hx]
   have gE:∀b,Seg z b ((AJ v).add (j*3)) (cC x):=λb=>by rw[<-hx];exact((X.rd.q.up r).any (ms:=b)).seg hjl
   have e0:∀b,Cell z b (((AJ v).add (j*3)).add 0) (.w x.c.id):=λb=>gE b 0 _ Y;have e1:∀b,Cell z b (((AJ v).add (j*3)).add 1) (.w x.c.dim):=λb=>gE b 1 _ Y;have M:Ix (o.take (j+1)) d t.1=(Ix (o.take j) d t.1||(decide (x.c.id=t.1)&&decide (x.c.dim=d))):=by rw[ap hjo,hox,AaE]
   refine I<|Ac<|Ag<|Bu (λP f c=>P=[(1,.w d),(3,.pt g3),(7,w),(8,.w (k:Int)),(9,.bool (Ix (o.take j) d t.1)),(10,.w (j:Int)),(47,.bool (decide (x.c.id=t.1)&&decide (x.c.dim=d)))]/\z=f/\c=[]) ?_<|λs h b hI=>?_
   .by_cases B:x.c.id=t.1
    .refine AS (n:=22) (bs:=[W,W,W,W,W,W,W,W,W,W,W,W,lw,lw,lw,lw,lw,lw,lw,lw,lw,lw]) [W,W,W,W,W,W,W,W,W,W,W,W] Cx V V Y Y<|QF Cy Y<|QL Y B8 (c0 _ y _)<|Qq Y<|Qp Y (AR (j) (rV _ r).any Y B8 A9 Y Y Z Z)<|QF B7 Y<|QL Y U3 (e0 _)<|Qq Y<|Qq Y<|Qp Y (AR (k) (rW _) Y Ct Cv Y Y Z Z)<|QF Gr Y<|QL Y U3 (S _)<|Qp Y (CP (Cq Y Y Y)<|bh Value.bool<|bp B)<|Qo 12 Y<|G Y<|Qw<|Bc 13 39 V Y Y Y Y Y (Bk) Y (oF Cy Y)<|Bc 14 40 V Y Y Y Y Y (Bk) Y (oL Y B8<|c0 _ y _)<|Bc 15 41 V Y Y Y Y Y (Bk) Y (Ap Y Y)<|Bc 16 42 V Y Y Y Y Y (Bk) Y (AR (j) (rV _ r).any Y B8 A9 Y Y Z Z)<|Bc 17 43 V Y Y Y Y Y (Bk) Y (oF Co Y)<|Bc 18 44 V Y Y Y Y Y (Bk) Y (oL Y U3<|e1 _)<|Bc 19 45 V Y Y Y Y Y (Bk) Y (Ap Y Y)<|Bc 20 46 V Y Y Y Y Y (Bk) Y (Cq Y Y Y)<|Qo 21 Y<|G Y<|Qw<|Qe ?_;exact AI _ ⟨by rw[bp B,Bool.true_and],rfl,rfl⟩ Qs
    .refine AS (n:=22) (bs:=[W,W,W,W,W,W,W,W,W,W,W,W,lw,lw,lw,lw,lw,lw,lw,lw,lw,lw]) [W,W,W,W,W,W,W,W,W,W,W,W] Cx V V Y Y<|QF Cy Y<|QL Y B8 (c0 _ y _)<|Qq Y<|Qp Y (AR (j) (rV _ r).any Y B8 A9 Y Y Z Z)<|QF B7 Y<|QL Y U3 (e0 _)<|Qq Y<|Qq Y<|Qp Y (AR (k) (rW _) Y Ct Cv Y Y Z Z)<|QF Gr Y<|QL Y U3 (S _)<|Qp Y (CP (Cq Y Y Y)<|bh Value.bool<|dx B)<|Qo 12 Y<|G Y<|Qw<|AO [13,15,19] V Y<|Al Y ?_ ?_;refine Qk Y<|Qw<|AO [14,15,19] V Y<|Al Y ?_ ?_;refine Qk Y<|Qw<|AO [15,19] V Y<|Al Y ?_ ?_;refine Qk Y<|Qw<|AO [16,19] V Y<|Al Y ?_ ?_;refine Qk Y<|Qw<|AO [17,19] V Y<|Al Y ?_ ?_;refine Qk Y<|Qw<|AO [18,19] V Y<|Al Y ?_ ?_;refine Qk Y<|Qw<|Qo 19 Y<|Qk Y<|Qw ?_
     rotate_left
     refine Al Y ?_ ?_;refine Qk Y<|Qw<|Qo 18 Y<|Qk Y<|Qw ?_
     rotate_left
     exact AN;refine Al Y ?_ ?_;refine Qk Y<|Qw<|Qo 17 Y<|Qk Y<|Qw<|Qo 18 Y<|Qk Y<|Qw ?_
     rotate_left
     exact AN;refine Al Y ?_ ?_;refine Qk Y<|Qw<|Qo 16 Y<|Qk Y<|Qw<|Qo 17 Y<|Qk Y<|Qw<|Qo 18 Y<|Qk Y<|Qw ?_
     rotate_left
     exact AN;refine Al Y ?_ ?_;refine Qk Y<|Qw<|Qo 15 Y<|Qk Y<|Qw<|Qo 16 Y<|Qk Y<|Qw<|Qo 17 Y<|Qk Y<|Qw<|Qo 18 Y<|Qk Y<|Qw ?_
     rotate_left
     exact AN;refine Al Y ?_ ?_;refine Qk Y<|Qw<|AO [14,19] V Y<|Al Y ?_ ?_;refine Qk Y<|Qw<|AO [16,19] V Y<|Al Y ?_ ?_;refine Qk Y<|Qw<|AO [17,19] V Y<|Al Y ?_ ?_;refine Qk Y<|Qw<|AO [18,19] V Y<|Al Y ?_ ?_;refine Qk Y<|Qw<|Qo 19 Y<|Qk Y<|Qw ?_
     rotate_left
     refine Al Y ?_ ?_;refine Qk Y<|Qw<|Qo 18 Y<|Qk Y<|Qw ?_
     rotate_left
     exact AN;refine Al Y ?_ ?_;refine Qk Y<|Qw<|Qo 17 Y<|Qk Y<|Qw<|Qo 18 Y<|Qk Y<|Qw ?_
     rotate_left
     exact AN;refine Al Y ?_ ?_;refine Qk Y<|Qw<|Qo 16 Y<|Qk Y<|Qw<|Qo 17 Y<|Qk Y<|Qw<|Qo 18 Y<|Qk Y<|Qw ?_
     rotate_left
     exact AN;refine Al Y ?_ ?_;refine Qk Y<|Qw<|Qo 14 Y<|Qk Y<|Qw<|Qo 16 Y<|Qk Y<|Qw<|Qo 17 Y<|Qk Y<|Qw<|Qo 18 Y<|Qk Y<|Qw ?_
     rotate_left
     exact AN;refine Al Y ?_ ?_;refine Qk Y<|Qw<|AO [14,15] V Y<|Al Y ?_ ?_;refine Qk Y<|Qw<|Qo 15 Y<|Qk Y<|Qw<|Qo 16 Y<|Qk Y<|Qw<|Qo 17 Y<|Qk Y<|Qw<|Qo 18 Y<|Qk Y<|Qw ?_
     rotate_left
     refine Al Y ?_ ?_;refine Qk Y<|Qw<|Qo 14 Y<|Qk Y<|Qw<|Qo 16 Y<|Qk Y<|Qw<|Qo 17 Y<|Qk Y<|Qw<|Qo 18 Y<|Qk Y<|Qw ?_
     rotate_left
     exact AN;exact AN;refine Al Y ?_ ?_;refine Qk Y<|Qw<|AO [13,19] V Y<|Al Y ?_ ?_;refine Qk Y<|Qw<|AO [14,19] V Y<|Al Y ?_ ?_;refine Qk Y<|Qw<|AO [16,19] V Y<|Al Y ?_ ?_;refine Qk Y<|Qw<|AO [17,19] V Y<|Al Y ?_ ?_;refine Qk Y<|Qw<|AO [18,19] V Y<|Al Y ?_ ?_;refine Qk Y<|Qw<|Qo 19 Y<|Qk Y<|Qw ?_
     rotate_left
     refine Al Y ?_ ?_;refine Qk Y<|Qw<|Qo 18 Y<|Qk Y<|Qw ?_
     rotate_left
     exact AN;refine Al Y ?_ ?_;refine Qk Y<|Qw<|Qo 17 Y<|Qk Y<|Qw<|Qo 18 Y<|Qk Y<|Qw ?_
     rotate_left
     exact AN;refine Al Y ?_ ?_;refine Qk Y<|Qw<|Qo 16 Y<|Qk Y<|Qw<|Qo 17 Y<|Qk Y<|Qw<|Qo 18 Y<|Qk Y<|Qw ?_
     rotate_left
     exact AN;refine Al Y ?_ ?_;refine Qk Y<|Qw<|Qo 14 Y<|Qk Y<|Qw<|Qo 16 Y<|Qk Y<|Qw<|Qo 17 Y<|Qk Y<|Qw<|Qo 18 Y<|Qk Y<|Qw ?_
     rotate_left
     exact AN;refine Al Y ?_ ?_;refine Qk Y<|Qw<|Qo 13 Y<|Qk Y<|Qw<|Qo 14 Y<|Qk Y<|Qw<|Qo 16 Y<|Qk Y<|Qw<|Qo 17 Y<|Qk Y<|Qw<|Qo 18 Y<|Qk Y<|Qw ?_
     rotate_left
     exact AN;refine Al Y ?_ ?_;refine Qk Y<|Qw<|AO [13,15] V Y<|Al Y ?_ ?_;refine Qk Y<|Qw<|AO [14,15] V Y<|Al Y ?_ ?_;refine Qk Y<|Qw<|Qo 15 Y<|Qk Y<|Qw<|Qo 16 Y<|Qk Y<|Qw<|Qo 17 Y<|Qk Y<|Qw<|Qo 18 Y<|Qk Y<|Qw ?_
     rotate_left
     refine Al Y ?_ ?_;refine Qk Y<|Qw<|Qo 14 Y<|Qk Y<|Qw<|Qo 16 Y<|Qk Y<|Qw<|Qo 17 Y<|Qk Y<|Qw<|Qo 18 Y<|Qk Y<|Qw ?_
     rotate_left
     exact AN;refine Al Y ?_ ?_;refine Qk Y<|Qw<|Qo 13 Y<|Qk Y<|Qw<|Qo 14 Y<|Qk Y<|Qw<|Qo 16 Y<|Qk Y<|Qw<|Qo 17 Y<|Qk Y<|Qw<|Qo 18 Y<|Qk Y<|Qw ?_
     rotate_left
     exact AN;exact AN
     all_goals
      refine Qo 20 Y<|Qk Y<|Qw<|Qo 21 Y<|G Y<|Qw<|Qe ?_;exact AI _ ⟨by rw[dx B,Bool.false_and],rfl,rfl⟩ Qs
   .obtain⟨rfl,rfl,rfl⟩:=hI;obtain⟨u,R⟩:∃u,(decide (x.c.id=t.1)&&decide (x.c.dim=d))=u:=⟨_,Y⟩
    rw[R]at M ⊢;cases u
    .refine AM Y<|Ah<|D2<|Ad<|G Y<|E (oA Y) Y<|G Y<|Am ?_;exact Aq (n-(j+1)) _ Z ⟨j+1,Y,by rw[M,Bool.or_false],rfl,rfl,Z⟩ Qs
    .refine A4 Y<|Ad<|G Y<|Am<|D2<|Ad<|G Y<|E (oA Y) Y<|G Y<|Am ?_;exact Aq (n-(j+1)) _ Z ⟨j+1,Y,by rw[M,Bool.or_true],rfl,rfl,Z⟩ Qs
  .obtain rfl:j=n:=Z
   rw[show o.take j=o from bm Z];obtain⟨u,R⟩:∃u,Ix o d t.1=u:=⟨_,Y⟩
   rw[R];cases u
   .refine C<|Ab<|U<|G Y<|J Y<|A4 Y<|U<|J Y<|Aj<|An<|Ae<|Ae<|An<|Ae ?_
    have g:false=EL o d a:=by rw[<-Sn CL];have:(L.any λp=>!Ix o d p.1)=true:=List.any_eq_true.2 ⟨t,ht ▸ aq Q,by rw[R];rfl⟩;rw[this];rfl
    exact Ar Y Y<|bh Value.bool g
   .refine C<|Ab<|U<|G Y<|J Y<|AM Y<|Ah<|D2<|Ad<|G Y<|E (oA Y) Y<|G Y<|Am ?_
    exact Aq (m-(k+1)) _ Z ⟨k+1,Y,Y,Y,Y,Z,λi hi h=>by
     by_cases e:i=k
     .subst e;rw[ht];exact R
     .exact K i hi Z⟩ Qs
 .obtain rfl:k=m:=Z
  refine C<|Ab<|U<|J Y<|Aj ?_
  have g:true=EL o d a:=by
   rw[<-Sn CL]
   have:(L.any λp=>!Ix o d p.1)=false:=by rw[kz];intro p hp;obtain⟨i,hi,rfl⟩:=ef.1 hp;rw[K i hi Z];simp
   rw[this];rfl
  exact Ar Y Y<|bh Value.bool g
end
section
variable {n k b m j:Nat} {all:List (List Int)} {S l t s:List Int} {f:Nat->Int}
abbrev VR(l:List Int):Prop:=l.Pairwise (· < ·)
theorem Rx{x:Int}(h:t.Sublist (l++[x])):t.Sublist l\/∃c,t=c++[x]/\c.Sublist l:=by
 obtain⟨p,d,e,a,g⟩:=List.sublist_append_iff.1 h
 have i:d=[]\/d=[x]:=by
  cases g with
  | cons _ h=>exact .inl<|List.sublist_nil.1 h
  | cons_cons _ h=>exact .inr (by rw[List.sublist_nil.1 h])
 rcases i with rfl|rfl
 .left;rw[e,List.append_nil];exact a
 .exact .inr ⟨p,e,a⟩
theorem Tp(s:List Int)(b:Nat):∀n,n<=s.length->(E4 s b n).Sublist (s.take n)
 | 0,_=>by simp[E4]
 | n+1,h=>by
  rw[JA,ap Z];refine(Tp s b n Z).append ?_;split
  .simp[List.getD,show n<s.length by omega]
  .simp
theorem Z8{b':Nat}(h:∀k,k<n->b.testBit k=b'.testBit k):E4 s b n=E4 s b' n:=by unfold E4;congr 1;exact List.filter_congr λk a=>h k<|b6.1 a
theorem N4(s:List Int):∀n,n<=s.length->∀t:List Int,t.Sublist (s.take n)->∃b,b<2^n/\t=E4 s b n
 | 0,_,t,ht=>⟨0,by simp,by simpa[E4] using ht⟩
 | n+1,h,t,ht=>by
  rw[ap Z]at ht;have i:2^(n+1)=2^n+2^n:=by rw[Nat.pow_succ];omega
  rcases Rx ht with a|⟨g,rfl,a⟩
  .obtain⟨b,c,e⟩:=N4 s n Z t a;refine⟨b,Z,?_⟩;rw[JA,Nat.testBit_lt_two_pow c,e];simp
  .obtain⟨b,c,e⟩:=N4 s n Z g a;refine⟨2^n+b,Z,?_⟩;rw[JA,Nat.testBit_two_pow_add_eq,Nat.testBit_lt_two_pow c,e];rw[Z8 (b:=2^n+b) (b':=b) λk d=>Nat.testBit_two_pow_add_gt d b];simp[List.getD,show n<s.length by omega]
theorem ZR(s:List Int)(n:Nat):E4 s 0 n=[]:=by simp[E4]
theorem N8(d:SrtB all):t∈C3 all s (2^s.length-1)<->t∈all\/(t≠[]/\t.Sublist s)\/(t=[]/\∃b,1<=b/\b<=2^s.length-1/\E4 s b s.length=[]):=by
 rw[Kk d];constructor
 .rintro(h|⟨b,h1,h2,rfl⟩)
  .exact .inl h
  .by_cases a:E4 s b s.length=[]
   .exact .inr<|.inr ⟨a,b,h1,h2,a⟩
   .refine .inr<|.inl ⟨a,?_⟩;have:=Tp s b s.length (ak _)
    rwa [fz]at this
 .rintro(h|⟨h1,h2⟩|⟨rfl,b,h1,h2,a⟩)
  .exact .inl h
  .obtain⟨b,c,e⟩:=N4 s s.length (ak _) t (by rw[fz];exact h2);refine .inr ⟨b,?_,Z,e⟩;rcases ja b with rfl|h
   .rw[ZR]at e;exact lj e h1
   .exact h
  .exact .inr ⟨b,h1,h2,a.symm⟩
theorem AdW(d:1<=b)(a:b<2^s.length):E4 s b s.length≠[]:=λh=>by
 have:b=0:=Nat.eq_of_testBit_eq λk=>by
  rw[Nat.zero_testBit];by_cases c:k<s.length
  .cases hb:b.testBit k with
   | false=>rfl
   | true=>
    have:s.getD k 0∈E4 s b s.length:=by unfold E4;exact ai.2 ⟨k,dp.2 ⟨b6.2 c,hb⟩,Y⟩
    rw[h]at this;cases this
  .exact Nat.testBit_lt_two_pow<|b7 a<|dn H Z
 omega
theorem Ac2{x:Int}(h:VR l)(r:¬N0 x l):VR (Kh x l):=by
 unfold N0 at r;unfold Kh
 have u:∀y∈l.takeWhile (λy=>decide (y<x)),y<x:=λy c=>by have:=dy.1 (List.all_takeWhile (p:=λy:Int=>decide (y<x)) (l:=l)) y c;simpa using this
 have v:∀l:List Int,VR l->(l.dropWhile λy=>decide (y<x)).head?≠some x->∀y∈l.dropWhile (λy=>decide (y<x)),x<y:=λl=>by
  induction l with
  | nil=>intro _ _ y c;cases c
  | cons a l ih=>
   intro p d y c;rw[List.dropWhile_cons]at c d;split at c
   .rename_i g;rw[ah g]at d;exact ih (cg.1 p).2 d y c
   .rename_i g;rw[af g]at d;have B:¬a<x:=by simpa using g
    have K:a≠x:=by simpa using d
    rcases be.1 c with rfl|c
    .omega
    .have:=(cg.1 p).1 y c;omega
 have i:=v l h r;refine f9.2 ⟨h.sublist<|ku _,cg.2 ⟨i,h.sublist<|List.dropWhile_sublist _⟩,λa A b e=>?_⟩;have z:=u a A;rcases be.1 e with rfl|e
 .exact z
 .have:=i b e;omega
theorem KH:∀(l a:List Int) (s:List Int),VR a->Ew a l=some s->VR s
 | [],a,s,h,e=>by have:a=s:=ay e;rw[<-this];exact h
 | x::l,a,s,h,e=>by
  unfold Ew at e;split at e
  .exact KH l a s h e
  .rename_i c;split at e
   .cases e
   .refine KH l _ s ?_ e;exact Ac2 h c
structure AllS(all:List (List Int)):Prop where
 srt:SrtB all
 inc:∀s∈all,VR s
 ne:∀s∈all,s≠[]
 sub:∀s∈all,∀t:List Int,t≠[]->t.Sublist s->t∈all
theorem AllS.faces(A:AllS all)(d:VR s):AllS (C3 all s (2^s.length-1)):=by
 have c:∀t,t∈C3 all s (2^s.length-1)<->t∈all\/(t≠[]/\t.Sublist s):=λt=>by
  rw[N8 A.srt];refine⟨λh=>?_,λh=>?_⟩
  .rcases h with h|h|⟨_,b,g,p,i⟩
   .exact .inl h
   .exact .inr h
   .exact lj i<|AdW g (by have:=Nat.two_pow_pos s.length;omega)
  .rcases h with h|h
   .exact .inl h
   .exact .inr<|.inl h
 refine⟨Fk A.srt s _,λt a=>?_,λt a=>?_,λt a u e d=>?_⟩
 .rcases (c t).1 a with h|h
  .exact A.inc t h
  .exact d.sublist h.2
 .rcases (c t).1 a with h|h
  .exact A.ne t h
  .exact h.1
 .rw[c];rcases (c t).1 a with h|h
  .exact .inl<|A.sub t h u e d
  .exact .inr ⟨e,d.trans h.2⟩
theorem Hv:∀(c:List (List Int)) (a all:List (List Int)),AllS a->Cd a c=some all->AllS all
 | [],a,all,h,e=>by have:a=all:=ay e;rw[<-this];exact h
 | l::c,a,all,h,e=>by
  rw[DF]at e;split at e
  .cases e
  .refine Hv c _ all ?_ e;cases hs:Ew [] l with
   | none=>exact h
   | some s=>exact h.faces<|KH l [] s List.Pairwise.nil hs
def nI(all:List (List Int))(t:List Int):Int:=((DS all t).1:Int)+1
theorem AllS.nI_at(A:AllS all)(c:t∈all):∃j,∃a:j<all.length,all[j]=t/\nI all t=(j:Int)+1:=by obtain⟨j,a,rfl⟩:=ee c;exact⟨j,a,Y,by unfold nI;rw[TB A.srt a]⟩
theorem AllS.nI_inj(A:AllS all){u:List Int}(a:t∈all)(c:u∈all)(e:nI all t=nI all u):t=u:=by
 obtain⟨j,h,rfl,d⟩:=A.nI_at a;obtain⟨k,i,rfl,g⟩:=A.nI_at c;have:j=k:=Z
 subst this;rfl
def sk(k i:Nat):Nat:=if i<k then i else i+1
theorem Il(k i:Nat):(i<k/\sk k i=i)\/(k<=i/\sk k i=i+1):=by unfold sk;split<;>omega
theorem Qr(k i:Nat):sk k i≠k:=by unfold sk;split<;>omega
theorem Aio{i:Nat}(a:i<n):sk k i<n+1:=by unfold sk;split<;>omega
theorem Hg(l:List Int)(k i:Nat):(l.eraseIdx k)[i]?=l[sk k i]?:=by rw[List.getElem?_eraseIdx];unfold sk;split<;>rfl
def un(j k:Nat):Nat:=if k<j then k else k-1
theorem OV(j k:Nat):(k<j/\un j k=k)\/(j<=k/\un j k=k-1):=by unfold un;split<;>omega
theorem UH(h:j≠k):sk j (un j k)=k:=by have:=OV j k;have:=Il j (un j k);omega
theorem Yc(l:List Int):(l.eraseIdx k).eraseIdx m=(l.eraseIdx (sk k m)).eraseIdx (un (sk k m) k):=by refine ic λi=>?_;rw[Hg,Hg,Hg,Hg];congr 1;have:=Il k m;have:=Il m i;have:=Il k (sk m i);have:=OV (sk k m) k;have:=Il (un (sk k m) k) i;have:=Il (sk k m) (sk (un (sk k m) k) i);omega
theorem Adp(g:l.Nodup)(a:j<l.length):l[j]∈l.eraseIdx k<->j≠k:=by
 rw[List.mem_iff_getElem?];constructor
 .rintro⟨i,h⟩ e;rw[Hg]at h;obtain⟨c,d⟩:=bq.1 h;have:=JB g c a d;exact Qr k i Z
 .intro h;exact⟨un k j,by rw[Hg,UH (gx h),aj a]⟩
theorem Mw(p:l.Nodup)(g:j<l.length):l[j]∈(l.eraseIdx k).eraseIdx m<->j≠k/\j≠sk k m:=by
 rw[List.mem_iff_getElem?];constructor
 .rintro⟨i,h⟩;rw[Hg,Hg]at h;obtain⟨a,c⟩:=bq.1 h;have:=JB p a g c;refine⟨λe=>Qr k (sk m i) Z,λe=>?_⟩;have d:sk k (sk m i)=sk k m:=Z
  have r:=Qr m i;have:=Il k m;have:=Il k (sk m i);omega
 .rintro⟨a,c⟩;have d:m≠un k j:=λe=>c (by rw[e,UH (gx a)]);exact⟨un m (un k j),by rw[Hg,Hg,UH d,UH (gx a),aj g]⟩
theorem AhB(c:l.Nodup){a:Nat}(v:l.length=n+1)(u:k<n+1)(x:m<n)(r:a<n+1)(e:b<n):(l.eraseIdx k).eraseIdx m=(l.eraseIdx a).eraseIdx b<->(k=a/\m=b)\/(k=sk a b/\m=un (sk a b) a):=by
 constructor
 .intro h;have d:=Aio (k:=a) e
  have g:¬(a≠k/\a≠sk k m):=λq=>by have:=(Mw c (k:=k) (m:=m) (show a<l.length by omega)).2 q;rw[h]at this;exact((Mw c (show a<l.length by omega)).1 this).1 Y
  have i:¬(sk a b≠k/\sk a b≠sk k m):=λq=>by have:=(Mw c (k:=k) (m:=m) (show sk a b<l.length by omega)).2 q;rw[h]at this;exact((Mw c (show sk a b<l.length by omega)).1 this).2 Y
  have p:=Qr a b;have:=Il k m;have:=Il a b;have:=OV (sk a b) a;omega
 .rintro(⟨rfl,rfl⟩|⟨rfl,rfl⟩)
  .rfl
  .exact(Yc l).symm
def rs(n:Nat)(f:Nat->Int):Int:=((range n).map f).sum
theorem Tb(n:Nat)(f:Nat->Int):rs (n+1) f=rs n f+f n:=by unfold rs;rw[kp,cz,List.sum_append];simp
theorem Yv(h:∀i,i<n->f i=0):rs n f=0:=by
 induction n with
 | zero=>rfl
 | succ n ih=>rw[Tb,ih λi a=>h i Z,h n Z];rfl
theorem SS(d:k<n)(h:∀i,i<n->i≠k->f i=0):rs n f=f k:=by
 induction n with
 | zero=>omega
 | succ n ih=>
  rw[Tb];rcases (Z:k=n\/k<n) with rfl|a
  .rw[Yv λi c=>h i Z Z,Int.zero_add]
  .rw[ih a λi c=>h i Z,h n Z Z,il]
theorem Ahd{k':Nat}(r:k<n)(g:k'<n)(p:k≠k')(h:∀i,i<n->i≠k->i≠k'->f i=0):rs n f=f k+f k':=by
 induction n with
 | zero=>omega
 | succ n ih=>
  rw[Tb];rcases (Z:k=n\/(k<n/\k'=n)\/(k<n/\k'<n)) with rfl|⟨a,rfl⟩|⟨a,e⟩
  .rw[SS (k:=k') Z λi d c=>h i Z Z c,Int.add_comm]
  .rw[SS (k:=k) a λi d c=>h i Z c Z]
  .rw[ih a e λi d=>h i Z,h n Z Z Z,il]
theorem T5{α:Type}(f:α->List Int):∀l:List α,(l.flatMap f).sum=(l.map λa=>(f a).sum).sum
 | []=>rfl
 | a::l=>by rw[eo,List.sum_append,T5 f l,dh,fa]
def sg(k:Nat):Int:=1-2*((k:Int)%2)
theorem Yw(k:Nat):sg (k+1)=- sg k:=by unfold sg;omega
theorem AhQ(k:Nat):sg k=1\/sg k=-1:=by unfold sg;omega
def Ht(all:List (List Int))(t:List Int):List (Int×Int):=(range t.length).map λk=>(nI all (t.eraseIdx k),sg k)
def sc(all:List (List Int))(t:List Int):Cl:=⟨nI all t,(t.length:Int)-1,if t.length<=1 then [] else CS (Ht all t)⟩
theorem HQ(A:AllS all):(range all.length).map (Ev all)=all.map (sc all):=by
 refine gg σ λj d c=>?_;have a:j<all.length:=by simpa using c
 rw[fd,fd,List.getElem_range];have e:all.getD j []=all[j]:=by simp[List.getD,a]
 unfold Ev sc;rw[e];unfold nI;rw[TB A.srt a];rfl
def Z2(all:List (List Int))(S:List Int)(n:Nat):HR:=(range (n+1)).flatMap λk=>(range n).map λm=>(nI all (S.eraseIdx k),nI all ((S.eraseIdx k).eraseIdx m),sg k*sg m)
theorem Vh(all:List (List Int))(S:List Int)(n:Nat)(g:Int×Int×Int->Int):((Z2 all S n).map g).sum=rs (n+1) λk=>rs n λm=>g (nI all (S.eraseIdx k),nI all ((S.eraseIdx k).eraseIdx m),sg k*sg m):=by unfold Z2;rw[List.map_flatMap,T5];unfold rs;simp only[jb];rfl
theorem Aa3(A:AllS all)(a:S∈all)(d:S.length=n+1)(g:1<=n)(c:k<n+1):S.eraseIdx k∈all:=by refine A.sub S a _ (λe=>?_)<|List.eraseIdx_sublist _ _;have:=bh List.length e;rw[List.length_eraseIdx,ah Z]at this;simp at this;omega
theorem S8(c:S.length=n+1)(a:k<n+1):(S.eraseIdx k).length=n:=by rw[List.length_eraseIdx,ah Z];omega
theorem UW(A:AllS all)(z:S∈all){a:Nat}(x:S.length=n+1)(P:2<=n)(r:a<n+1)(v:b<n)(w:Nat->Nat->Int):(rs (n+1) λk=>rs n λm=>if nI all ((S.eraseIdx k).eraseIdx m)=nI all ((S.eraseIdx a).eraseIdx b) then w k m else 0)=w a b+w (sk a b) (un (sk a b) a):=by
 have y:S.Nodup:=(A.inc S z).imp λh e=>Z
 have p:∀k m,k<n+1->m<n->(S.eraseIdx k).eraseIdx m∈all:=λk m i g=>by
  obtain⟨B,rfl⟩:∃B,n=B+1:=⟨n-1,Z⟩
  exact Aa3 A (Aa3 A z x Z i) (S8 x i) Z g
 have c:∀k m,k<n+1->m<n->(nI all ((S.eraseIdx k).eraseIdx m)=nI all ((S.eraseIdx a).eraseIdx b)<->(k=a/\m=b)\/(k=sk a b/\m=un (sk a b) a)):=λk m i g=>by rw[<-AhB y x i g r v];exact⟨λh=>A.nI_inj (p k m i g) (p a b r v) h,λh=>by rw[h]⟩
 have u:=Qr a b;have M:=Il a b;have O:=OV (sk a b) a
 rw[Ahd (k:=a) (k':=sk a b) r Z (gx u) λk i K L=>Yv λm g=>af λq=>by
  rcases (c k m i g).1 q with q|q
  .exact K q.1
  .exact L q.1]
 rw[SS (k:=b) v λm g q=>af λd=>by
   rcases (c a m r g).1 d with d|d
   .exact q d.2
   .exact u d.1.symm,ah Y,
  SS (k:=un (sk a b) a) Z λm g q=>af λd=>by
   rcases (c (sk a b) m Z g).1 d with d|d
   .exact u d.1
   .exact q d.2,ah ((c _ _ Z Z).2 (.inr ⟨Y,Y⟩))]
theorem Tw{e:Int×Int×Int}(h:e∈Z2 all S n):∃k m,k<n+1/\m<n/\e=(nI all (S.eraseIdx k),nI all ((S.eraseIdx k).eraseIdx m),sg k*sg m):=by obtain⟨k,c,a⟩:=iv.1 h;obtain⟨m,d,rfl⟩:=ai.1 a;exact⟨k,m,b6.1 c,b6.1 d,Y⟩
theorem Vq(a:k<n+1)(c:m<n):(nI all (S.eraseIdx k),nI all ((S.eraseIdx k).eraseIdx m),sg k*sg m)∈Z2 all S n:=iv.2 ⟨k,b6.2 a,ai.2 ⟨m,b6.2 c,rfl⟩⟩
theorem Aar(A:AllS all)(x:S∈all)(z:S.length=n+1)(B:2<=n):GoodT (Z2 all S n) (Ht all S) where
 sum:=λe u=>by
  obtain⟨a,b,g,h,rfl⟩:=Tw u;unfold Fi;rw[Vh];refine(UW A x z B g h λk m=>sg k*sg m).trans ?_;have L:=Qr a b;have v:=Il a b;have p:=OV (sk a b) a;rcases v with ⟨M,r⟩|⟨M,r⟩
  .rw[r]at p ⊢;obtain⟨c,rfl⟩:∃c,a=c+1:=⟨a-1,Z⟩
   rw[show un b (c+1)=c by omega,Yw,i7,e9 (sg b)];omega
  .rw[r]at p ⊢;rw[show un (b+1) a=a by omega,Yw,i7,e9 (sg b)];omega
 two:=λe u=>by obtain⟨a,b,g,h,rfl⟩:=Tw u;unfold GQ;rw[Vh];exact UW A x z B g h λk m=>1
 con:=λa g b h=>by
  unfold Ht at g h;obtain⟨k,y,rfl⟩:=ai.1 g;obtain⟨d,i,rfl⟩:=ai.1 h;have y:=b6.1 y;have i:=b6.1 i;show Con _ (nI all (S.eraseIdx k)) (nI all (S.eraseIdx d));by_cases e:k=d
  .subst e;exact .refl _
  .have L:=OV k d;have v:=OV d k
   have p:(S.eraseIdx k).eraseIdx (un k d)=(S.eraseIdx d).eraseIdx (un d k):=by rw[Yc S (k:=k) (m:=un k d),UH e]
   have K:=Vq (all:=all) (S:=S) (n:=n) (k:=k) (m:=un k d) Z Z;have O:=Vq (all:=all) (S:=S) (n:=n) (k:=d) (m:=un d k) Z Z;rw[p]at K;exact .step (.refl _) K O
theorem AllS.nil:AllS []:=⟨List.Pairwise.nil,nofun,nofun,nofun⟩
theorem OE(ll:List (List Int)):Rgt (BU ll):=by
 have O:=M9 ll;unfold BU at *;cases h:Cd [] ll with
 | none=>exact Rgt.nil
 | some all=>
  rw[h]at O;have A:=Hv ll [] all AllS.nil h;have h9:=Gh ll [] all List.Pairwise.nil (λt d=>nomatch d) h;show Rgt ((range all.length).map (Ev all));have z:((range all.length).map (Ev all)).length<=4000:=O.1;rw[HQ A]at z ⊢
  have R:∀t∈all,1<=t.length:=λt d=>by
   have:=A.ne t d;cases t with
   | nil=>exact lj Y this
   | cons a t=>simp
  have v:((all.map (sc all)).map Cl.id).Nodup:=by rw[jb];refine fo.2 ((A.srt.imp λ{a b} h e=>?_:all.Pairwise (·≠·)).imp_of_mem λ{a b} K M L e=>L<|A.nI_inj K M e);rw[e,IB]at h;cases h
  have P:∀t∈all,Hz (all.map (sc all)) (nI all t)=sc all t:=λt d=>EV v (ai.2 ⟨t,d,Y⟩);have p:∀t∈all,2<=t.length->(sc all t).sd=CS (Ht all t):=λt _ h=>af Z;have T:∀t:List Int,(Ht all t).length=t.length:=λt=>by simp[Ht]
  have y:∀t∈all,∀s∈(sc all t).sd,∃k,k<t.length/\2<=t.length/\s=(nI all (t.eraseIdx k),sg k):=λt d s u=>by
   by_cases g:2<=t.length
   .rw[p t d g]at u;have u:=(Dl _).mem_iff.1 u;unfold Ht at u;obtain⟨k,r,rfl⟩:=ai.1 u;exact⟨k,b6.1 r,g,Y⟩
   .have:(sc all t).sd=[]:=ah Z;rw[this]at u;cases u
  have i:∀t∈all,2<=t.length->∀k,k<t.length->t.eraseIdx k∈all:=λt d g k r=>Aa3 A d (n:=t.length-1) Z Z Z;refine⟨z,v,λx B=>?_,λx B=>?_,λx B=>?_,λx B=>?_,λx B s u=>?_,λx B s u=>?_,λx B Q=>?_,λx B Q=>?_⟩<;>obtain⟨t,d,rfl⟩:=ai.1 B<;>have hl1:=R t d<;>have hl9:=h9 t d
  .show 1<=nI all t;unfold nI;omega
  .show 0<=(t.length:Int)-1/\(t.length:Int)-1<=8;omega
  .unfold Ck;show ¬(((t.length:Int)-1=0/\0<(sc all t).sd.length)\/((t.length:Int)-1=1/\(sc all t).sd.length≠2)\/(1<(t.length:Int)-1/\((sc all t).sd.length<2\/64<(sc all t).sd.length)));by_cases g:2<=t.length
   .rw[p t d g,H8,T];omega
   .have:(sc all t).sd=[]:=ah Z;rw[this];simp;omega
  .by_cases g:2<=t.length
   .rw[p t d g,((Dl (Ht all t)).map Prod.fst).nodup_iff];unfold Ht;rw[jb];refine fo.2 ((List.nodup_range (n:=t.length)).imp_of_mem λ{a b} K M L e=>L ?_);have K:=b6.1 K;have M:=b6.1 M;have e:=A.nI_inj (i t d g a K) (i t d g b M) e;have v:t.Nodup:=(A.inc t d).imp λh e=>Z
    have h3:t[a] ∉ t.eraseIdx a:=λq=>(Adp v K).1 q Y;rw[e,Adp v K]at h3;exact fp.1 h3
   .have:(sc all t).sd=[]:=ah Z;rw[this];simp
  .obtain⟨k,r,g,rfl⟩:=y t d s u;refine⟨_,ai.2 ⟨_,i t d g k r,Y⟩,Y,?_⟩;show((t.eraseIdx k).length:Int)-1=(t.length:Int)-1-1;rw[S8 (n:=t.length-1) Z Z];omega
  .obtain⟨k,r,g,rfl⟩:=y t d s u;exact AhQ k
  .have Q:(t.length:Int)-1=1:=Q;have g:t.length=2:=Z
   rw[p t d Z,Ku ((Dl (Ht all t)).map Prod.snd)];unfold Ht;rw[g];rfl
  .have Q:2<=(t.length:Int)-1:=Q;obtain⟨n,hl⟩:∃n,t.length=n+1:=⟨t.length-1,Z⟩
   have g:2<=t.length:=Z
   refine(Aar A d hl Z).perm ?_ (by rw[p t d g];exact(Dl _).symm);unfold Mm;rw[p t d g]
   have e:Z2 all t n=Va (λc=>if c=0 then [] else Ht all (all.getD (c-1).toNat [])) (Ht all t):=by
    unfold Va Ht;rw[List.flatMap_map,hl];refine If λk r=>?_;have r:=b6.1 r;obtain⟨j,hj,e1,e2⟩:=A.nI_at (i t d g k Z);show _=List.map _ (if nI all (t.eraseIdx k)=0 then [] else _);rw[af Z]
    have e3:all.getD (nI all (t.eraseIdx k)-1).toNat []=t.eraseIdx k:=by rw[e2,show(((j:Int)+1)-1).toNat=j by omega];simp[List.getD,hj,e1]
    rw[e3,jb,S8 hl Z];rfl
   rw[e];refine KW (Dl _).symm λs u=>List.Perm.map _ ?_;unfold Ht at u;obtain⟨k,r,rfl⟩:=ai.1 u;have r:=b6.1 r;obtain⟨j,hj,e1,e2⟩:=A.nI_at (i t d g k r);show List.Perm (if nI all (t.eraseIdx k)=0 then [] else _) (Hz (all.map (sc all)) (nI all (t.eraseIdx k))).sd;rw[af Z,P _ (i t d g k r)]
   have e3:all.getD (nI all (t.eraseIdx k)-1).toNat []=t.eraseIdx k:=by rw[e2,show(((j:Int)+1)-1).toNat=j by omega];simp[List.getD,hj,e1]
   rw[e3,p _ (i t d g k r) (by rw[S8 hl Z];omega)];exact(Dl _).symm
theorem AfE(a:List (List Int)):∀x∈BU a,x.id<=(BU a).length:=by
 unfold BU;cases h:Cd [] a with
 | none=>nofun
 | some all=>
  intro x d;obtain⟨i,c,rfl⟩:=ai.1 d;have c:=b6.1 c;show(i:Int)+1<=(((range all.length).map (Ev all)).length:Nat);rw[bb,ik];omega
end
section
open Go.Lin Go.Wd Go.Sm Go.Ch
theorem LW{l:List Cl}(R:Rgt l):Hk l=ordF l:=by have F:=R.ordF;refine VV _ _ (λ_=>nofun) λi a e=>?_;have:=bw.1 F.inc i (i+1) Z a Z;omega
theorem Rgt.cs{l:List Ce}(R:Rgt (l.map Ce.c)):CsOk l:=by have c:=R.n;rw[bb]at c;exact⟨Z,λa b=>by have:=(R.bds (ai.2 ⟨a,b,Y⟩)).2;omega⟩
theorem Zw(o:List Cl)(x:Cl)(d:Int):AZ (o++[x]) d=AZ o d++if x.dim=d then [x.id] else []:=by unfold AZ;rw[jm,cz];congr 1;by_cases h:x.dim=d<;>simp[h]
theorem X3(l:List Ce)(v:Value)(h:Hp)(d:RgC l)(i:RdC h v l):FnT prog 74 #[.agg #[v]] h [] (λr c b=>h.le c/\b=[]/\∃A:List Ce,RdC c r A/\A.map Ce.c=cn l):=
 FnT.frz (NN l v h d.r.cs i) λr c b ⟨q,m,A,e,O,g,k⟩=>⟨m,[],e,λp f n=>⟨N q f,rfl,A,⟨O.rdh n,λa j=>(k a j).up f⟩,by rw[g,LW d.r];rfl⟩⟩
theorem Aee(l:List Ce)(v:Value)(d:Int)(L:Hp)(Q:RgC l)(R:RdC L v l):FnT prog 35 #[.agg #[v],.int .i64 d] L [] (λr h c=>L.le h/\∃m,c=[m]/\OwnL cI 1 3 m r (AZ (cn l) d)):=by
 have ov:=R.q.rd.one;have y:=Q.r.n;rw[bb]at y;refine Au func35 ntmps35 Y Y<|λ_ _=>U<|AK [_] Y Y ξ Y Y Y<|λg2=>J Y<|Ak 0 Y λh1 l1 hS=>U<|G Y<|BF<|E (oG Y CV Bd<|Seg.any hS) Y<|Qc call74 Y (X3 l v h1 Q<|R.up l1)<|λw f ms2 l2 hF=>?_;obtain⟨M,rfl,A,p,k⟩:=hF;obtain⟨o,T⟩:∃o,cn l=o:=⟨_,Y⟩
 rw[T]at k ⊢;obtain⟨n,S⟩:∃n,A.length=n:=⟨_,Y⟩
 have B:o.length=n:=by rw[<-k,bb,S]
 have hnb:n<=4000:=by rw[<-B,<-T,Kl];omega
 have ow:=p.q.rd.one;have O:Rd f [] w 3 n (A.flatMap cC):=by have:=p.q.rd;rwa [S]at this
 refine J Y<|X<|U<|J Y<|Ag<|BW<|AC (λq sl h c=>∃(i:Nat) (j:Value) (m:Hp),n-i=q/\sl=[(1,.w d),(5,j),(6,w),(7,.w i)]/\f=h/\c=[m]/\i<=n/\OwnL cI 1 3 m j (AZ (o.take i) d)) (n-0) _ ⟨0,_,Hp.emp,Y,Y,Y,Y,Z,OwnL.nil Bf⟩ Qs ?_;rintro q sl h c ⟨i,j,m,rfl,rfl,rfl,rfl,hi,g⟩;have o5:=g.o1;refine X<|U<|D Y Y<|E (Aw O.any Y B8 Y) Y<|J Y<|Ay Y (λz=>?_)<|λz=>?_
 .have hin:i<n:=Z
  have t:i<A.length:=Z
  have u:i<o.length:=Z
  obtain⟨x,hx⟩:∃x,A[i]=x:=⟨_,Y⟩
  have K:o[i]=x.c:=by subst k;rw[fd,hx]
  have b:AZ (o.take (i+1)) d=AZ (o.take i) d++if x.c.dim=d then [x.c.id] else []:=by rw[ap u,K,Zw]
  have P:∀a,Seg f a ((AJ w).add (i*3)) (cC x):=λa=>by rw[<-hx];exact(p.q.any (ms:=a)).seg t
  have e0:∀a,Cell f a (((AJ w).add (i*3)).add 0) (.w x.c.id):=λa=>P a 0 _ Y;have e1:∀a,Cell f a (((AJ w).add (i*3)).add 1) (.w x.c.dim):=λa=>P a 1 _ Y;have hfl:(AZ (o.take i) d).length<=4000:=by have:=GI (o.take i) d;rw[bf]at this;omega
  refine I<|X<|Ag<|U<|D Y Y<|E (BP (i) O.any Y B8 A9 Y Y) Y<|Qf Co Y<|Ql Y U3 (e1 _)<|G Y<|J Y<|Ay Y (λs=>?_)<|λs=>?_
  .rw[ah s]at b;refine Ad<|D Y Y<|G Y<|E (BP (i) O.any Y B8 A9 Y Y) Y<|Qf B7 Y<|Ql Y U3 (e0 _)<|AB [_] Y Bb By Y ξ Y Y Z Y Y Y<|λg29=>AL 1 g (RdL.one Bf (x:=x.c.id) Mh Y) Y Bb By Y Z Y Y Y BY (by(try simp only[ae]);omega) (by(try simp only[ae]);omega) rfl rfl rfl<|λv9 m9 e=>?_;rw[<-b]at e;have o9:=e.o1;refine G Y<|Am<|D2<|Ad<|G Y<|E (oA Y) Y<|G Y<|Am<|AU<|Aq (n-(i+1)) _ Z ⟨i+1,v9,m9,Y,Y,Y,Y,Z,e⟩ Qs
  ·rw[if_neg s,List.append_nil]at b;refine Ah<|D2<|Ad<|G Y<|E (oA Y) Y<|G Y<|Am ?_;exact Aq (n-(i+1)) _ Z ⟨i+1,j,m,Y,Y,Y,Y,Z,by rw[b];exact g⟩ Qs
 .obtain rfl:i=n:=Z
  rw[show o.take i=o from bm Z]at g;refine C<|Ab<|U<|G Y<|J Y<|Aj<|Ar Y Y (⟨N l1 M,m,Y,g⟩)
theorem RE(l:List Ce)(v:Value)(d:Int)(b:Hp)(f:RgC l)(g:RdC b v l):FnT prog 35 #[.agg #[v],.int .i64 d] b [] (λr c a=>b.le c/\a=[]/\RdL cI 1 c [] r (AZ (cn l) d)):=
 FnT.frz (Aee l v d b f g) λr c a ⟨q,m,e,O⟩=>⟨m,[],e,λj h i=>⟨N q h,rfl,O.rdh i⟩⟩
theorem VL{l:List Cl}(R:Rgt l):Hj l=(0,0):=by
 have F:=R.ordF;have g:=LW R;have i:=Aav l;unfold Hj;rw[af (by have:=R.n;omega),g]
 have d:(range l.length).findSome? (Hs (ordF l) (ordF l))=none:=EA _ λb f=>by
  unfold Hs;have a:b<(ordF l).length:=Z
  rw[II a];have c:=aq a;rw[af,af (λq=>q (F.fst _ c))];rintro(h|⟨h1,h2⟩)
  .have:=F.pos _ c;omega
  .rw[II (show b-1<(ordF l).length by omega)]at h2;have:=bw.1 F.inc (b-1) b Z a Z;omega
 have e:(range l.length).findSome? (Ml (ordF l))=none:=EA _ λb f=>by
  unfold Ml;have a:b<(ordF l).length:=Z
  rw[II a];have c:=aq a;split
  .rfl
  .rw[af (λq=>q (F.snd _ c Z))]
 rw[d,e];rfl
theorem RgC.ck{l:List Ce}(K:RgC l):Aia l:=⟨K.r.cs,λa b=>by have:=K.r.dim _ (ai.2 ⟨a,b,Y⟩);omega⟩
theorem Uh(l:List Ce)(v:Value)(h:Hp)(K:RgC l)(b:RdC h v l)(a:List Hp):FnV prog 68 #[.agg #[v]] h a (.tuple #[.int .i64 0,.int .i64 0]):=by refine D9 ?_ a;have:=WM l v h K.ck b;rw[VL K.r]at this;exact this
def Mn(o:List Cl):Int:=o.foldl (λm x=>max m x.dim) (-1)
theorem ZB(o:List Cl)(x:Cl):Mn (o++[x])=max (Mn o) x.dim:=by unfold Mn;rw[List.foldl_append];rfl
theorem Afi:∀(o:List Cl),(∀x∈o,x.dim<=1000)->-1<=Mn o/\Mn o<=1000:=λo=>by
 have a:∀(o:List Cl) (m:Int),-1<=m->m<=1000->(∀x∈o,x.dim<=1000)->-1<=o.foldl (λm x=>max m x.dim) m/\o.foldl (λm x=>max m x.dim) m<=1000:=by
  intro o
  induction o with
  | nil=>intro m b c _;exact⟨b,c⟩
  | cons x o ih=>
   intro m b c d;rw[it];have:=d x ao;exact ih _ Z Z λy e=>d y<|am _ e
 exact a o (-1) Z Z
theorem AgO(l:List Ce)(v:Value)(h:Hp)(K:RgC l)(t:RdC h v l)(a:List Hp):FnV prog 129 #[.agg #[v]] h a (.int .i64 (Mn (cn l))):=by
 refine D9 ?_ a;have ov:=t.q.rd.one;have k:=K.r.n;rw[bb]at k;refine Au func129 ntmps129 Y Y<|λ_ _=>U<|AK [_] Y Y ξ Y Y Y<|λg1=>J Y<|Ak 0 Y λP l1 R=>U<|G Y<|BF<|E (oG Y CV Bd<|Seg.any R) Y<|Qc call74 Y (X3 l v P K<|t.up l1)<|λw c ms2 l2 Q=>?_;obtain⟨l2',rfl,A,f,e⟩:=Q;obtain⟨o,y⟩:∃o,cn l=o:=⟨_,Y⟩
 rw[y]at e ⊢;obtain⟨n,u⟩:∃n,A.length=n:=⟨_,Y⟩
 have p:o.length=n:=by rw[<-e,bb,u]
 have T:n<=4000:=by rw[<-p,<-y,Kl];omega
 have ow:=f.q.rd.one;have B:Rd c [] w 3 n (A.flatMap cC):=by have:=f.q.rd;rwa [u]at this
 refine J Y<|X<|U<|J Y<|Ag<|AC (λq L s b=>∃(i:Nat),n-i=q/\L=[(3,.w (Mn (o.take i))),(4,w),(5,.w i)]/\c=s/\b=[]/\i<=n) (n-0) _ ⟨0,Y,Y,Y,Y,Z⟩ Qs ?_;rintro q L s b ⟨i,rfl,rfl,rfl,rfl,hi⟩;refine X<|U<|D Y Y<|E (Aw B.any Y B8 Y) Y<|J Y<|Ay Y (λm=>?_)<|λm=>?_
 .have S:i<n:=Z
  have g:i<A.length:=Z
  have j:i<o.length:=Z
  obtain⟨x,z⟩:∃x,A[i]=x:=⟨_,Y⟩
  have r:o[i]=x.c:=by subst e;rw[fd,z]
  have d:Mn (o.take (i+1))=max (Mn (o.take i)) x.c.dim:=by rw[ap j,r,ZB]
  have O:∀a,Seg c a ((AJ w).add (i*3)) (cC x):=λa=>by rw[<-z];exact(f.q.any (ms:=a)).seg g
  have M:∀a,Cell c a (((AJ w).add (i*3)).add 1) (.w x.c.dim):=λa=>O a 1 _ Y;refine I<|X<|Ag<|Ad<|D Y Y<|G Y<|E (BP (i) B.any Y B8 A9 Y Y) Y<|Qf Co Y<|Ql Y U3 (M _)<|E (RO Y Y Y) Y<|G Y<|Am<|D2<|Ad<|G Y<|E (oA Y) Y<|G Y<|Am ?_;exact Aq (n-(i+1)) _ Z ⟨i+1,Y,by rw[d],rfl,rfl,Z⟩ Qs
 .obtain rfl:i=n:=Z
  rw[show o.take i=o from bm Z];refine C<|Ab<|U<|G Y<|J Y<|Aj<|Ar Y Y<|Y
theorem Ade(l:List Ce)(v:Value)(h:Hp)(Q:QsOk v h l)(r:List Hp):FnV prog 69 #[.agg #[v]] h r (.bool true):=by
 refine D9 ?_ r;have P:=Q.X.rd.q.rd.one;refine Au func69 ntmps69 Y Y<|λ_ _=>U<|AK [_] Y Y ξ Y Y Y<|λt=>J Y<|Ak 0 Y λm A y=>?_;have e:=Q.up A;have sg:=qT y;refine U<|E (oG Y CV Bd<|sg _ (Bk) _) Y<|E (As Y call68 Y<|Uh l v m e.K e.X.rd _) Y<|AT Y Y<|AT Y Y<|J Y<|X<|U<|G Y<|J Y<|Ay Y (λb=>lj b σ)<|λb=>?_;have L:=Afi (cn l) Q.dims;obtain⟨D,u⟩:∃D:Nat,Mn (cn l)+1=D:=⟨(Mn (cn l)+1).toNat,Z⟩
 have g:Mn (cn l)=(D:Int)-1:=Z
 refine I<|X<|U<|J Y<|Ag<|AC (λq s f d=>∃(i:Nat),D-i=q/\s=[(1,.pt t),(5,.w i)]/\m.le f/\d=[]/\i<=D) (D-0) _ ⟨0,Y,Y,Bk,Y,Z⟩ Qs ?_;rintro q s f d ⟨i,rfl,rfl,c,rfl,M⟩;have a:=AgO l v f Q.K (e.X.rd.up c);rw[g]at a;refine X<|U<|G Y<|E (oG Y CV Bd<|sg _ c _) Y<|E (As Y call129 Y<|a _) Y<|J Y<|Ay Y (λj=>?_)<|λj=>?_
 .refine I<|X<|Ag<|U<|E (oG Y CV Bd<|sg _ c _) Y<|G Y<|Qc call35 Y (RE l v i f Q.K<|e.X.rd.up c)<|λw K B O x=>?_;obtain⟨k,rfl,n⟩:=x;have p:=Q.many i;have p:(AZ (cn l) i).length<=100:=p;have R:=n.rd.one;refine E (Aw n.rd.any Y Bb Y) Y<|J Y<|Ay Y (λb=>lj b Z)<|λb=>Ah<|D2<|Ad<|G Y<|E (oA Y) Y<|G Y<|Am<|Aq (D-(i+1)) _ Z ⟨i+1,Y,Y,N c k,Y,Z⟩ Qs
 .refine C<|Ab<|U<|J Y<|Aj<|Ar Y Y<|Y
noncomputable def wrF(o:List Cl)(d:Int)(x y:List Tm):Int:=if EL o d x&&EL o d y then(if bz o x&&bz o y then 0 else 40) else 21
theorem UD(v vx vy:Value)(d:Int)(x y:List Tm)(l:List Ce)(h:Hp)(Q:QsOk v h l)(X:ChR vx h x)(Y:ChR vy h y)(bx:Bi (DV (A8 (l.map Ce.c)) x)<2^2000000)(by_:Bi (DV (A8 (l.map Ce.c)) y)<2^2000000)(P:(A8 (l.map Ce.c)).length<100000)(ms:List Hp) :
  FnV prog 24 #[.agg #[v],.w d,vx,vy] h ms (.w (wrF (l.map Ce.c) d x y)):=by
 refine D9 ?_ ms;have ov:=Q.X.rd.q.rd.one;obtain⟨xa,xc,rfl,_⟩:=X.rd.rd.ex;obtain⟨ya,yc,rfl,_⟩:=Y.rd.rd.ex;refine Au func24 ntmps24 rfl rfl<|fun w0 hw0=>?_;simp only[AW];refine U<|AK [_] rfl rfl ξ rfl rfl rfl<|fun g4=>G rfl (Ao (Ak 0 rfl fun m B hS=>?_));have g:=Q.up B;have M:=X.up B;have O:=Y.up B;have sg:=qT hS;refine U<|E (oG rfl CV Bd<|sg _ (Bk) _) rfl<|E (As rfl call68 rfl<|Uh l v m g.K g.X.rd _) rfl<|G rfl<|G rfl<|G rfl<|G rfl<|G rfl<|Ao<|Ac<|U<|G rfl<|G rfl<|Ao<|Ay rfl (fun R=>lj R σ)<|fun R=>?_;have b:=YD v (.slice xa x.length xc) l d x m g.X M;have a:=YD v (.slice ya y.length yc) l d y m g.X O;unfold wrF;obtain⟨A,t⟩:∃A,EL (l.map Ce.c) d x=A:=⟨_,rfl⟩
 obtain⟨r,u⟩:∃r,EL (l.map Ce.c) d y=r:=⟨_,rfl⟩
 rw[t]at b ⊢;rw[u]at a ⊢;refine I<|U<|E (oG rfl CV Bd<|sg _ (Bk) _) rfl<|E (As rfl call69 rfl<|Ade l v m g _) rfl<|G rfl<|Ao<|Ac<|U<|G rfl<|G rfl<|Ao<|AM rfl<|I ?_;cases A
 .refine Ac<|Ad<|E (oG rfl CV Bd<|sg _ (Bk) _) rfl<|G rfl<|G rfl<|E (As rfl call53 rfl<|b _) rfl<|G rfl<|Ao ?_;cases r
  .refine Ac<|Ad<|E (oG rfl CV Bd<|sg _ (Bk) _) rfl<|G rfl<|G rfl<|E (As rfl call53 rfl<|a _) rfl<|G rfl<|Ao<|Ac<|U<|G rfl<|G rfl<|G rfl<|Qk rfl<|Qk rfl<|G rfl<|Ao<|A4 rfl<|U<|G rfl<|Ao<|Aj<|Ae<|Ar rfl rfl<|rfl
  .refine Ac<|Ad<|E (oG rfl CV Bd<|sg _ (Bk) _) rfl<|G rfl<|G rfl<|E (As rfl call53 rfl<|a _) rfl<|G rfl<|Ao<|Ac<|U<|G rfl<|G rfl<|G rfl<|Qk rfl<|Qk rfl<|G rfl<|Ao<|A4 rfl<|U<|G rfl<|Ao<|Aj<|Ae<|Ar rfl rfl<|rfl
 .refine Ac<|Ad<|E (oG rfl CV Bd<|sg _ (Bk) _) rfl<|G rfl<|G rfl<|E (As rfl call53 rfl<|b _) rfl<|G rfl<|Ao ?_;cases r
  .refine Ac<|Ad<|E (oG rfl CV Bd<|sg _ (Bk) _) rfl<|G rfl<|G rfl<|E (As rfl call53 rfl<|a _) rfl<|G rfl<|Ao<|Ac<|U<|G rfl<|G rfl<|G rfl<|Qg (Ap rfl rfl) rfl<|Qg (Dg rfl rfl) rfl<|G rfl<|Ao<|A4 rfl<|U<|G rfl<|Ao<|Aj<|Ae<|Ar rfl rfl<|rfl
  .refine Ac<|Ad<|E (oG rfl CV Bd<|sg _ (Bk) _) rfl<|G rfl<|G rfl<|E (As rfl call53 rfl<|a _) rfl<|G rfl<|Ao<|Ac<|U<|G rfl<|G rfl<|G rfl<|Qg (Ap rfl rfl) rfl<|Qg (Dg rfl rfl) rfl<|G rfl<|Ao<|AM rfl<|I<|Ac<|U<|E (oG rfl CV Bd<|sg _ (Bk) _) rfl<|G rfl<|Qc call29 rfl (OB v _ l x m g.X M bx P)<|fun wb h2 ms2 l2 s=>?_;obtain⟨k,rfl,S,CX,c,_,hlx⟩:=s;have owb:=c.rd.rd.one;have i:=RY CX;obtain⟨K,n⟩:∃K,bz (l.map Ce.c) x=K:=⟨_,rfl⟩
   rw[n]at i ⊢;cases K
   .have z:S.length≠0:=fun e=>by have:=i.2 e;cases this
    refine E (Aw c.rd.rd.any rfl Ct rfl) rfl<|E (CP (CE rfl rfl rfl)<|bh Value.bool<|bp Z) rfl<|G rfl<|Qk rfl<|Qk rfl<|Qk rfl<|Qk rfl<|Qk rfl<|G rfl<|Ao<|A4 rfl<|U<|G rfl<|Ao<|Aj<|Ae<|Ar rfl rfl<|rfl
   .have he:S.length=0:=i.1 rfl;refine E (Aw c.rd.rd.any rfl Ct rfl) rfl<|E (CP (CE rfl rfl rfl)<|bh Value.bool<|dx Z) rfl<|G rfl<|Qg (oG rfl CV Bd<|sg _ k _) rfl<|Qg (Ap rfl rfl) rfl<|Dz rfl rfl rfl rfl<|Qc call29 rfl (OB v _ l y h2 (g.X.up k) (O.up k) by_ P)<|fun wc h3 ms3 l3 s=>?_;obtain⟨l3',rfl,T,CY,f,_,hly⟩:=s;have owc:=f.rd.rd.one;have j:=RY CY;obtain⟨L,p⟩:∃L,bz (l.map Ce.c) y=L:=⟨_,rfl⟩
    rw[p]at j ⊢;cases L
    .have z:T.length≠0:=fun e=>by have:=j.2 e;cases this
     refine Qg (Aw f.rd.rd.any rfl Ct rfl) rfl<|Qg (CP (CE rfl rfl rfl)<|bh Value.bool<|bp Z) rfl<|G rfl<|Ao<|A4 rfl<|U<|G rfl<|Ao<|Aj<|Ae<|Ar rfl rfl<|rfl
    .have he2:T.length=0:=j.1 rfl;refine Qg (Aw f.rd.rd.any rfl Ct rfl) rfl<|Qg (CP (CE rfl rfl rfl)<|bh Value.bool<|dx Z) rfl<|G rfl<|Ao<|AM rfl<|I<|U<|G rfl<|Ao<|Aj<|Ar rfl rfl<|rfl
theorem Ve(v vx vy R:Value)(d m:Int)(hd:0<=d/\d<=900)(x y g:List Tm)(l:List Ce)(h:Hp)(Q:QsOk v h l)(X:ChR vx h x)(Y:ChR vy h y)(CH:ChR R h g)(hx:EL (l.map Ce.c) d x=true)(hy:EL (l.map Ce.c) d y=true)(bx:Bi (DV (A8 (l.map Ce.c)) x)<2^2000000)(by_:Bi (DV (A8 (l.map Ce.c)) y)<2^2000000)(zx:bz (l.map Ce.c) x=true)(zy:bz (l.map Ce.c) y=true)(hn:x.length+y.length<=100000)(ha:Bi x+Bi y<2^2000000)(bc:Bi (DV (A8 (l.map Ce.c)) g)<2^2000000)(hT:(A8 (l.map Ce.c)).length<100000)(K:m=0)(B:EL (l.map Ce.c) (d+1) g=true)(s:PR (l.map Ce.c) x y g=true)(c:List Hp) :
  FnV prog 18 #[.agg #[v],.w d,vx,vy,VH true R (.nl) m] h c (.bool true):=by
 refine D9 ?_ c;have ov:=Q.X.rd.q.rd.one;have osm:=AA (Ba m.natAbs);obtain⟨xa,xc,rfl,_⟩:=X.rd.rd.ex;obtain⟨ya,yc,rfl,_⟩:=Y.rd.rd.ex;obtain⟨r,t,rfl,_⟩:=CH.rd.rd.ex;have hm:Sz m:=by subst K;unfold Sz;decide
 unfold VH;refine Au func18 ntmps18 rfl rfl<|fun w0 L=>?_;simp only[AW];refine U<|AK [_] rfl rfl ξ rfl rfl rfl<|fun g5=>AK [_,_,_,_,_] rfl rfl ξ rfl rfl rfl (fun S=>G rfl (Ao (Ak 0 rfl fun h1 l1 e=>(Ak 0 rfl fun j M hS5=>?_))));have f:=N l1 M;have s5:=qT hS5;have d0:∀b,j.le b->∀c,Cell b c ((⟨S,0,none⟩:Addr).add 0) (.bool true):=fun b q c=>(((e.le M) 0 _ rfl).any).le q;have d1:∀b,j.le b->∀c,Cell b c ((⟨S,0,none⟩:Addr).add 1) (.slice r g.length t):=fun b q c=>(((e.le M) 1 _ rfl).any).le q;have d2:∀b,j.le b->∀c,Cell b c ((⟨S,0,none⟩:Addr).add 2) (.nl):=fun b q c=>(((e.le M) 2 _ rfl).any).le q
 have s9:∀b,j.le b->∀c,Seg b c ((⟨S,0,none⟩:Addr).add 3) (Bg m):=fun b q c i u hu=>by
  have:=(((e.le M).le q) (3+i) u (by rw[ij];exact hu)).any (ms:=c)
  rwa [BD]
 have T:=Q.up f;have X2:=X.up f;have Y2:=Y.up f;have k:=CH.up f;have hw:=UD v _ _ d x y l j T X2 Y2 bx by_ hT;have L:wrF (l.map Ce.c) d x y=0:=by unfold wrF;rw[hx,hy,zx,zy];rfl
 rw[L]at hw;refine U<|E (oG rfl CV Bd<|s5 _ (Bk) _) rfl<|G rfl<|G rfl<|G rfl<|E (As rfl call24 rfl<|hw _) rfl<|G rfl<|Ao<|Ac<|U<|G rfl<|G rfl<|Ao<|Ay rfl (fun hc=>lj hc σ)<|fun hc=>Ah (Ab (U (G rfl (G rfl (Qc call50 rfl (Xi _ _ x y j X2 Y2 hn ha) (fun wd h3 ms3 l3 hF=>?_))))));obtain⟨a,rfl,dl,CD,p,hda,hdn⟩:=hF;obtain⟨da,dc,rfl,_⟩:=p.rd.rd.ex;refine G rfl<|Ao<|Ac<|U<|Qf Kc rfl<|Ql rfl U4 (d0 _ a _)<|Ao ?_;have A:=YD v (.slice r g.length t) l (d+1) g h3 (T.X.up a) (k.up a);rw[B]at A;refine A4 rfl<|U<|E (oG rfl CV Bd<|s5 _ a _) rfl<|G rfl<|E (oA rfl) rfl<|Qf Jb rfl<|Ql rfl Ct (d1 _ a _)<|E (As rfl call53 rfl<|A _) rfl<|G rfl<|BF<|E (oG rfl CV Bd<|s5 _ a _) rfl<|Qf Jb rfl<|Ql rfl Ct (d1 _ a _)<|Qc call29 rfl (OB v _ l g h3 (T.X.up a) (k.up a) bc hT)<|fun wb h4 ms4 l4 hF=>?_;obtain⟨P,rfl,lb,CB,n,_,hlb⟩:=hF;obtain⟨ba,bcc,rfl,_⟩:=n.rd.rd.ex;have O:=N a P;have z:=PM _ _ lb dl h4 n (p.up P);rw[Rg CB CD,s]at z;refine G rfl<|E (As rfl call54 rfl<|z _) rfl<|G rfl<|BF<|G rfl<|G rfl<|Qg (Ap rfl rfl) rfl<|G rfl<|G rfl<|Qg (oF Ke rfl) rfl<|Qg (oL rfl Ct<|d2 _ O _) rfl<|Qg (EJ (ty:=30) rfl Ct rfl) rfl<|Qg (CP (Cq rfl rfl rfl)<|bh Value.bool<|bp Z) rfl<|G rfl<|G rfl<|Qg (oF LC rfl) rfl<|Qg (oG rfl Bn Av<|s9 _ O _) rfl<|Qg (As rfl call55 rfl<|H7 m hm _ _) rfl<|Qg (Cq rfl rfl rfl) rfl<|G rfl<|G rfl<|Ao<|Aj<|Ae ?_;exact Ar rfl rfl (by subst K;rfl)
theorem Wx(v vx vy vco:Value)(d m:Int)(hd:0<=d/\d<=900)(x y c:List Tm)(l:List Ce)(h:Hp)(Q:QsOk v h l)(X:ChR vx h x)(Y:ChR vy h y)(C:ChR vco h c)(hx:EL (l.map Ce.c) d x=true)(hy:EL (l.map Ce.c) d y=true)(bx:Bi (DV (A8 (l.map Ce.c)) x)<2^2000000)(by_:Bi (DV (A8 (l.map Ce.c)) y)<2^2000000)(zx:bz (l.map Ce.c) x=true)(zy:bz (l.map Ce.c) y=true)(hn:x.length+y.length<=100000)(ha:Bi x+Bi y<2^2000000)(hc_:Bi (GN (A8 (l.map Ce.c)) c)<2^2000000)(hp:Bi c*(Bi x+Bi y)<2^2000000)(hT:(A8 (l.map Ce.c)).length<100000)(n:m=0)(S:EL (l.map Ce.c) d c=true)(hcl:Ut (l.map Ce.c) m c=true)(hnd:¬m∣lin (cf c) x-lin (cf c) y)(b:List Hp) :
  FnV prog 18 #[.agg #[v],.w d,vx,vy,VH false (.nl) vco m] h b (.bool true):=by
 refine D9 ?_ b;have ov:=Q.X.rd.q.rd.one;have osm:=AA (Ba m.natAbs);obtain⟨xa,xc,rfl,_⟩:=X.rd.rd.ex;obtain⟨ya,yc,rfl,_⟩:=Y.rd.rd.ex;have hm:Sz m:=by subst n;unfold Sz;decide
 obtain⟨ca,cc,rfl,_⟩:=C.rd.rd.ex;unfold VH;refine Au func18 ntmps18 rfl rfl<|fun w0 hw0=>?_;simp only[AW];refine U<|AK [_] rfl rfl ξ rfl rfl rfl<|fun g5=>AK [_,_,_,_,_] rfl rfl ξ rfl rfl rfl (fun M=>G rfl (Ao (Ak 0 rfl fun h1 l1 j=>(Ak 0 rfl fun B l2 hS5=>?_))));have r:=N l1 l2;have s5:=qT hS5;have d0:∀e,B.le e->∀b,Cell e b ((⟨M,0,none⟩:Addr).add 0) (.bool false):=fun e q b=>(((j.le l2) 0 _ rfl).any).le q;have d1:∀e,B.le e->∀b,Cell e b ((⟨M,0,none⟩:Addr).add 1) (.nl):=fun e q b=>(((j.le l2) 1 _ rfl).any).le q;have d2:∀e,B.le e->∀b,Cell e b ((⟨M,0,none⟩:Addr).add 2) (.slice ca c.length cc):=fun e q b=>(((j.le l2) 2 _ rfl).any).le q
 have s9:∀e,B.le e->∀b,Seg e b ((⟨M,0,none⟩:Addr).add 3) (Bg m):=fun e q b i u hu=>by
  have:=(((j.le l2).le q) (3+i) u (by rw[ij];exact hu)).any (ms:=b)
  rwa [BD]
 have Q2:=Q.up r;have X2:=X.up r;have Y2:=Y.up r;have A:=C.up r;have hw:=UD v _ _ d x y l B Q2 X2 Y2 bx by_ hT;have hw0:wrF (l.map Ce.c) d x y=0:=by unfold wrF;rw[hx,hy,zx,zy];rfl
 rw[hw0]at hw;refine U<|E (oG rfl CV Bd<|s5 _ (Bk) _) rfl<|G rfl<|G rfl<|G rfl<|E (As rfl call24 rfl<|hw _) rfl<|G rfl<|Ao<|Ac<|U<|G rfl<|G rfl<|Ao<|Ay rfl (fun hc=>lj hc σ)<|fun hc=>Ah (Ab (U (G rfl (G rfl (Qc call50 rfl (Xi _ _ x y B X2 Y2 hn ha) (fun wd h3 ms3 l3 hF=>?_))))));obtain⟨a,rfl,dl,CD,L,hda,hdn⟩:=hF;obtain⟨da,dc,rfl,_⟩:=L.rd.rd.ex;refine G rfl<|Ao<|Ac<|U<|Qf Kc rfl<|Ql rfl U4 (d0 _ a _)<|Ao ?_;have R:=YD v (.slice ca c.length cc) l d c h3 (Q2.X.up a) (A.up a);rw[S]at R;have hsg:¬m.sign<0:=by rw[n];decide
 refine AM rfl<|I<|U<|E (oG rfl CV Bd<|s5 _ a _) rfl<|G rfl<|Qf Ke rfl<|Ql rfl Ct (d2 _ a _)<|E (As rfl call53 rfl<|R _) rfl<|G rfl<|Ao<|Ac<|U<|G rfl<|G rfl<|G rfl<|Qg (oF Jb rfl) rfl<|Qg (oL rfl Ct<|d1 _ a _) rfl<|Qg (EJ (ty:=30) rfl Ct rfl) rfl<|Qg (CP (CE rfl rfl rfl)<|bh Value.bool<|dx Z) rfl<|G rfl<|G rfl<|Qg (oF LC rfl) rfl<|Qg (oG rfl Bn Av<|s9 _ a _) rfl<|Qg (As rfl call55 rfl<|H7 m hm _ _) rfl<|Qg (CP (Dw rfl rfl rfl)<|bh Value.bool<|dx hsg) rfl<|G rfl<|Ao<|AM rfl<|I<|U<|E (oG rfl CV Bd<|s5 _ a _) rfl<|Qf Ke rfl<|Ql rfl Ct (d2 _ a _)<|Qc call56 rfl (Agc v _ l c h3 (Q2.X.up a) (A.up a) hc_ hT)<|fun wz O ms4 l4 hF=>?_;obtain⟨l4',rfl,K,CZ,g,_,hlz⟩:=hF;have s:=N a l4';have owz:=g.rd.rd.one;have z:=YG (m:=m) CZ;obtain⟨p,hp_⟩:∃p,K.length=p:=⟨_,rfl⟩
 have hpb:p<=100000:=hp_ ▸ g.len;have rZ:Rd O [] wz 3 p (K.flatMap D6):=by have:=g.rd.rd;rwa [hp_]at this
 refine G rfl<|Ao<|Ac<|U<|G rfl<|Ao<|Ag ?_;refine AC (fun q sl e ms'=>∃(k:Nat),p-k=q/\sl=[(9,.pt M),(12,.slice da dl.length dc),(16,wz),(17,.w (k:Int))]/\O=e/\ms'=[]/\k<=p) (p-0) _ ⟨0,rfl,rfl,rfl,rfl,Z⟩ Qs ?_;rintro q sl e ms' ⟨k,rfl,rfl,rfl,rfl,hk⟩;refine Ac<|U<|G rfl<|G rfl<|E (Aw rZ.any rfl Ct rfl) rfl<|G rfl<|Ao ?_;refine Ay rfl (fun hlt=>?_)<|fun hlt=>?_
 .have hkp:k<p:=Z
  have T:k<K.length:=Z
  obtain⟨t,ht⟩:∃t,K[k]=t:=⟨_,rfl⟩
  have htm:t∈K:=ht ▸ aq T;have ost:=AA (Ba t.2.natAbs);have gT:∀b,Seg O b ((AJ wz).add (k*3)) (D6 t):=fun b=>by rw[<-ht];exact(g.rd.any (ms:=b)).seg T
  have P:=AbH m t.2 n (g.sz htm) O
  have hdt:m∣t.2:=by
   rw[hcl]at z;have h5:(K.any fun p=>!decide (m∣p.2))=false:=by simpa using z
   have h6:=kz.1 h5 t htm;simpa using h6
  rw[bp hdt]at P;refine I<|Ac<|Ag<|Ac<|AS (n:=9) (bs:=[W,W,W,W,W,W,W,W,lw]) [W,W,W,W,W,W,W,W] Cx V V rfl rfl<|QF LC rfl<|Qp rfl (oG rfl Bn Av<|s9 _ s _)<|Qq rfl<|Qq rfl<|Qp rfl (BP (k) rZ.any rfl Ct Cv rfl rfl)<|QF Ic rfl<|Qp rfl (oG rfl Bn Av<|HE<|gT _)<|Qp rfl (As rfl call57 rfl<|P _)<|Qo 8 rfl<|G rfl<|Qw<|Qe<|Ab<|U<|G rfl<|G rfl<|Ao<|AM rfl<|Ah<|D2<|Ad<|G rfl<|E (oA rfl) rfl<|G rfl<|Am<|Aq (p-(k+1)) _ Z ⟨k+1,rfl,rfl,rfl,rfl,Z⟩ Qs
 .obtain rfl:k=p:=Z
  have hpl:Bi c*Bi dl<2^2000000:=dr (i6 _ hda) hp;have f:=Aes _ _ c dl O (A.up s) (L.up l4') hpl;rw[SC CD]at f
  have hps:Sz (lin (cf c) x-lin (cf c) y):=by rw[<-SC CD];exact Mo (bl (MM (Dc c) dl)<|ak _) hpl H
  obtain⟨pr,hpr⟩:∃pr,lin (cf c) x-lin (cf c) y=pr:=⟨_,rfl⟩
  rw[hpr]at f hps hnd;have rdF:=fun h b=>AbH m pr n hps h b;rw[dx hnd]at rdF;have osp:=AA (Ba pr.natAbs);refine Br<|Ab<|Ac<|AS (n:=9) (bs:=[W,W,W,W,W,W,W,W,lw]) [W,W,W,W,W,W,W,W] Cx V V rfl rfl<|QF LC rfl<|Qp rfl (oG rfl Bn Av<|s9 _ s _)<|QF Ke rfl<|QL rfl Ct (d2 _ s _)<|Qq rfl<|Qp rfl (As rfl call58 rfl<|f _)<|Qp rfl (As rfl call57 rfl<|rdF _ _)<|Qq rfl<|Qo 8 rfl<|G rfl<|Qw<|Qe<|Ab<|Aj<|Ar rfl rfl<|rfl
end
section
open Go.Lin Go.Wd Go.Sm Go.Ch
variable {α:Type} {ch:List Tm}
theorem Hx{g:α->Int}:∀{l:List α},(∀x∈l,g x=0)->(l.map g).sum=0
 | [],_=>rfl
 | x::l,h=>by rw[dh,fa,h x ao,Hx λy a=>h y (am _ a)];rfl
theorem LH(g:α->Int){l r:List α}(h:l.Perm r):(l.map g).sum=(r.map g).sum:=by
 induction h with
 | nil=>rfl
 | cons x _ ih=>rw[dh,dh,fa,fa,ih]
 | swap x y l=>simp only[dh,fa];omega
 | trans _ _ h1 h2=>exact h1.trans h2
theorem Nr{g:α->Int}{P:α->Bool}:∀{l:List α},(∀x∈l,P x=false->g x=0)->((l.filter P).map g).sum=(l.map g).sum
 | [],_=>rfl
 | x::l,h=>by
  have a:=Nr (l:=l) λy b=>h y (am _ b);cases e:P x with
  | true=>rw[jt e,dh,fa,dh,fa,a]
  | false=>rw[ju (by rw[e];simp),a,dh,fa,h x ao e];omega
theorem VN{o:List Cl}(R:Rgt o):((ordF o).map Cl.id).Nodup:=by have h:=R.ordF.inc;rw[List.nodup_iff_pairwise_ne,pairwise_map];exact h.imp λq=>Z
theorem mem_ord{o:List Cl}{x:Cl}:x∈ordF o<->∃y∈o,x=y.can:=by rw[(Ed o.length o (ak _)).mem_iff,mem_map];exact⟨λ⟨y,h,e⟩=>⟨y,h,e.symm⟩,λ⟨y,h,e⟩=>⟨y,h,e.symm⟩⟩
theorem has_iff{o:List Cl}{d c:Int}:Ix o d c=true<->∃x∈o,x.id=c/\x.dim=d:=by unfold Ix;rw[List.any_eq_true];simp
theorem mem_ids{o:List Cl}{d c:Int}:c∈AZ (ordF o) d<->∃x∈o,x.id=c/\x.dim=d:=by
 unfold AZ;rw[mem_map];constructor
 .rintro⟨x,f,rfl⟩;obtain⟨b,e⟩:=dp.1 f;obtain⟨y,a,rfl⟩:=mem_ord.1 b;exact⟨y,a,Y,dd e⟩
 .rintro⟨y,a,rfl,rfl⟩;exact⟨y.can,dp.2 ⟨mem_ord.2 ⟨y,a,Y⟩,by simp[Cl.can]⟩,rfl⟩
theorem AbB{o:List Cl}(R:Rgt o)(d:Int):(AZ (ordF o) d).Nodup:=by have h:=Uj R.ordF d;rw[List.nodup_iff_pairwise_ne];exact h.imp λq=>Z
theorem Ul{o:List Cl}(R:Rgt o){x y:Cl}(c:x∈o)(d:y∈o)(e:x.id=y.id):x=y:=by have a:=Fe R.nd c;have b:=Fe R.nd d;rw[e,b]at a;exact(ay a).symm
theorem MJ(x:Cl)(c:Int):sgn x.can.sd c=sgn x.sd c:=LH _ (Dl x.sd)
theorem AhT{o:List Cl}(R:Rgt o)(g:Cl->Int)(d:Int)(b:∀x∈o,g x.can=g x)(h:∀x∈o,x.dim≠d->g x=0):(o.map g).sum=sm (AZ (ordF o) d).length λj=>g (Hz (ordF o) ((AZ (ordF o) d).getD j 0)):=by
 have f:(o.map g).sum=((ordF o).map g).sum:=by rw[LH g (Ed o.length o (ak _)),jb];congr 1;exact fg λx a=>(b x a).symm
 rw[f,<-Nr (P:=λc=>decide (c.dim=d)) λx a i=>by
  obtain⟨y,e,rfl⟩:=mem_ord.1 a;rw[b y e]
  exact h y e<|of_decide_eq_false i]
 rw[<-Sd (λc=>g (Hz (ordF o) c))];unfold AZ;rw[jb];congr 1;refine fg λx a=>?_;have:=Fe (VN R) (dp.1 a).1;show g x=g (Hz (ordF o) x.id);unfold Hz;rw[this];rfl
theorem Acx(p:Int×(Int×Int))(S:List (Int×(Int×Int)))(a:List Tm):DV (p::S) a=(if cf a p.1≠0 then [((p.2.1,cf a p.1*p.2.2):Tm)] else [])++DV S a:=by unfold DV;by_cases h:cf a p.1=0<;>simp[h]
theorem Aa9(p:Int×(Int×Int))(S:List (Int×(Int×Int)))(a:List Tm):GN (p::S) a=(if cf a p.2.1≠0 then [((p.1,cf a p.2.1*p.2.2):Tm)] else [])++GN S a:=by unfold GN;by_cases h:cf a p.2.1=0<;>simp[h]
theorem AbY{g:Int->Int}(c n:Int)(P:Prop)[Decidable P](h:¬P->n=0):lin g (if P then [((c,n):Tm)] else [])=g c*n:=by
 split
 .show g c*n+0=_;omega
 .rename_i q;rw[h q];show(0:Int)=_;simp
theorem Wu(o:List Cl)(g:Int->Int)(ch:List Tm):lin g (DV (A8 o) ch)=(o.map λx=>cf ch x.id*lin g x.sd).sum:=by
 induction o with
 | nil=>rfl
 | cons x o ih=>
  have e:A8 (x::o)=(x.sd.map λs=>(x.id,s))++A8 o:=rfl;rw[e,NG,D1,ih,dh,fa];congr 1;generalize x.sd=a
  induction a with
  | nil=>show(0:Int)=_*0;simp
  | cons s a ih2=>
   rw[dh,Acx,D1,ih2,AbY _ _ _ (λq=>by have q:cf ch x.id=0:=(by simpa using q);show cf ch x.id*s.2=0;rw[q];simp),EP,jj];show g s.1*(cf ch x.id*s.2)+_=_;rw[li]
theorem M4(L:List Tm)(c:Int):cf L c=lin (λa=>if a=c then 1 else 0) L:=by unfold cf lin;congr 1;refine fg λp _=>?_;show(if p.1=c then p.2 else 0)=(if p.1=c then 1 else 0)*p.2;split<;>simp
theorem Xg(o:List Cl)(ch:List Tm)(c:Int):cf (DV (A8 o) ch) c=(o.map λx=>cf ch x.id*sgn x.sd c).sum:=by rw[M4,Wu];congr 1;exact fg λx _=>by rw[<-M4];rfl
theorem AfY(o:List Cl)(a:List Tm)(c:Int):cf (GN (A8 o) a) c=(o.map λx=>if x.id=c then lin (cf a) x.sd else 0).sum:=by
 induction o with
 | nil=>rfl
 | cons x o ih=>
  have e:A8 (x::o)=(x.sd.map λs=>(x.id,s))++A8 o:=rfl;rw[e,Oj,DQ,ih,dh,fa];congr 1;generalize x.sd=b
  induction b with
  | nil=>show(0:Int)=if _ then 0 else 0;simp
  | cons s b ih2=>
   rw[dh,Aa9,DQ,ih2,M4,AbY _ _ _ (λq=>by have q:cf a s.1=0:=(by simpa using q);show cf a s.1*s.2=0;rw[q];simp),EP];show(if x.id=c then 1 else 0)*(cf a s.1*s.2)+_=_;split<;>simp
theorem UC{o:List Cl}(R:Rgt o)(a:List Tm){x:Cl}(f:x∈o):cf (GN (A8 o) a) x.id=lin (cf a) x.sd:=by
 rw[AfY]
 have d:∀l:List Cl,l.Nodup->x∈l->(∀y∈l,y.id=x.id->y=x)->(l.map λy=>if y.id=x.id then lin (cf a) y.sd else 0).sum=lin (cf a) x.sd:=by
  intro l
  induction l with
  | nil=>intro _ h;cases h
  | cons y l ih=>
   intro j h c;obtain⟨g,i⟩:=gt.1 j;rw[dh,fa];by_cases e:y=x
   .subst e;rw[ah rfl,Hx λz b=>af λq=>g (by rw[<-c z (am _ b) q];exact b)];omega
   .rw[af (λq=>e (c y ao q)),ih i ((be.1 h).resolve_left (gx e)) λz b=>c z (am _ b)];omega
 refine d o ?_ f λy k q=>Ul R k f q;have:=R.nd;rw[List.nodup_iff_pairwise_ne,pairwise_map]at this;rw[List.nodup_iff_pairwise_ne];exact this.imp λq e=>q (by rw[e])
theorem AdA{o:List Cl}(a:List Tm){c:Int}(h:∀x∈o,x.id≠c):cf (GN (A8 o) a) c=0:=by rw[AfY];exact Hx λx b=>af<|h x b
theorem Agu{o:List Cl}(R:Rgt o){d:Int}(b:∀c,cf ch c≠0->Ix o (d+1) c=true)(c:Int):cf (DV (A8 o) ch) c=sm (AZ (ordF o) (d+1)).length λj=>sgn (Hz (ordF o) ((AZ (ordF o) (d+1)).getD j 0)).sd c*cf ch ((AZ (ordF o) (d+1)).getD j 0):=by
 rw[Xg,AhT R _ (d+1) (λx _=>by rw[MJ];rfl) λx f k=>by
  have:cf ch x.id=0:=ax λq=>by obtain⟨y,l,i,a⟩:=has_iff.1 (b _ q);rw[Ul R l f i]at a;exact k a
  rw[this,iu]]
 refine Bt λj g=>?_
 have h:(AZ (ordF o) (d+1)).getD j 0∈AZ (ordF o) (d+1):=by rw[show(AZ (ordF o) (d+1)).getD j 0=(AZ (ordF o) (d+1))[j] by simp[List.getD,g]];exact aq g
 unfold AZ at h;obtain⟨x,f,e⟩:=ai.1 h;have:=Fe (VN R) (dp.1 f).1;rw[e]at this;have a:Hz (ordF o) ((AZ (ordF o) (d+1)).getD j 0)=x:=by unfold Hz;rw[show NT (ordF o) ((AZ (ordF o) (d+1)).getD j 0)=some x from this];rfl
 rw[a,e9];congr 2
theorem VQ{o:List Cl}(R:Rgt o){d:Int}{j:Nat}(b:j<(AZ (ordF o) d).length):∃x∈o,x.dim=d/\Hz (ordF o) ((AZ (ordF o) d).getD j 0)=x.can/\(AZ (ordF o) d).getD j 0=x.id:=by
 have c:(AZ (ordF o) d).getD j 0∈AZ (ordF o) d:=by rw[show(AZ (ordF o) d).getD j 0=(AZ (ordF o) d)[j] by simp[List.getD,b]];exact aq b
 unfold AZ at c;obtain⟨x,h,e⟩:=ai.1 c;obtain⟨a,g⟩:=dp.1 h;have:=Fe (VN R) a;rw[e]at this;have f:Hz (ordF o) ((AZ (ordF o) d).getD j 0)=x:=by unfold Hz;rw[show NT (ordF o) ((AZ (ordF o) d).getD j 0)=some x from this];rfl
 obtain⟨y,i,rfl⟩:=mem_ord.1 a;exact⟨y,i,dd g,f,e.symm⟩
theorem Rr{r c:Nat}{M:List (List Int)}(S:Shape r c M){k:Nat}(d:k<r):SZ c M.flatten k=if k<c then AP M k k else 0:=by
 unfold SZ;split
 .rename_i a
  have b:k*c+k<r*c:=by have:(k+1)*c<=r*c:=eh _ d;rw[dq,gn]at this;omega
  rw[S.flat];unfold List.getD;rw[mat_at? b];show AP M ((k*c+k)/c) ((k*c+k)%c)=_;rw[ei k c,Nat.mul_add_div Z,gc a,Nat.mul_add_mod,dv a,gz]
 .rfl
section
variable {o:List Cl} {d:Int} {ids0 ids1:List Int} {r c:Nat} {f:Nat->Nat->Int} {S:FS} {x y:List Tm} {D C:Nat->Int}
theorem AbP(R:Rgt o)(v:AZ (ordF o) d=ids0)(b:AZ (ordF o) (d+1)=ids1)(hr:ids0.length=r)(M:ids1.length=c)(hF:HN (ordF o) (d+1)=f)(G:Gf r c f S)(hx:EL o d x=true)(hy:EL o d y=true)(L:SZ c S.d.flatten=D)(K:ubF S r (λi=>cf x (ids0.getD i 0)-cf y (ids0.getD i 0))=C)(g:∀j,j<r->D j∣C j)(u:CanL ch (cf (ids1.zip (DC c λi=>sm c λq=>AP S.v i q*FK r D C q)))):EL o (d+1) ch=true/\PR o x y ch=true:=by
 have P:ids1.Nodup:=b ▸ AbB R (d+1);have hX:∀j,j<c->cf ch (ids1.getD j 0)=sm c λq=>AP S.v j q*FK r D C q:=λj A=>by rw[u.cf_eq,Xs P _ M A]
 have l:∀a,cf ch a≠0->Ix o (d+1) a=true:=λa p=>by rw[u.cf_eq]at p;have:a∈ids1:=ax λq=>p (XC q);rw[<-b,mem_ids]at this;exact has_iff.2 this
 have hD:∀k,k<r->D k=if k<c then AP S.d k k else 0:=λk m=>by rw[<-L];exact Rr G.shp.sd m
 refine⟨(Du _ _ _).2 l,(E9 _ _ _ _).2 λa=>?_⟩;rw[Agu R l,b,M];by_cases p:a∈ids0
 .obtain⟨i,hi,rfl⟩:=AaW p;have O:i<r:=Z
  rw[<-Aci G (b:=λi=>cf x (ids0.getD i 0)-cf y (ids0.getD i 0)) (y:=FK r D C) (λk m=>?_) i O]
  .refine Bt λj A=>?_;rw[hX j A,<-hF];unfold HN;rw[b,show d+1-1=d by omega,v]
  .have h2:sm r (λq=>AP S.u k q*(cf x (ids0.getD q 0)-cf y (ids0.getD q 0)))=C k:=by rw[<-K];rfl
   rw[h2];have h:=hD k m;unfold FK;by_cases B:k<c
   .rw[ah B]at h ⊢;rw[<-h];by_cases t:D k=0
    .rw[t,iu];have:=g k m;rw[t,Int.zero_dvd]at this;exact this.symm
    .rw[ah ⟨m,t⟩];exact Int.mul_ediv_cancel'<|g k m
   .rw[af B]at h ⊢;have:=g k m;rw[h,Int.zero_dvd]at this;exact this.symm
 .have n:Ix o d a=false:=by rw[<-v,mem_ids]at p;exact Bool.eq_false_iff.2 λq=>p<|has_iff.1 q
  have Q:cf x a=0:=ax λq=>by rw[(Du _ _ _).1 hx a q]at n;cases n
  have T:cf y a=0:=ax λq=>by rw[(Du _ _ _).1 hy a q]at n;cases n
  rw[Q,T];show _=(0:Int);refine Oh λj A=>?_;obtain⟨z,hz,e1,e2,_⟩:=VQ R (d:=d+1) (j:=j) (by rw[b,M];exact A);rw[b]at e2
  have t:sgn z.sd a=0:=OQ λs hs e=>by obtain⟨w,hw,e3,e4⟩:=R.sid z hz s hs;have:Ix o d a=true:=has_iff.2 ⟨w,hw,e3.trans e,Z⟩;rw[this]at n;cases n
  rw[e2,MJ,t,iu]
theorem Ad4(R:Rgt o)(t:AZ (ordF o) d=ids0)(l:AZ (ordF o) (d+1)=ids1)(hr:ids0.length=r)(hc:ids1.length=c)(hF:HN (ordF o) (d+1)=f)(G:Gf r c f S)(hx:EL o d x=true)(hy:EL o d y=true)(Q:SZ c S.d.flatten=D)(O:ubF S r (λi=>cf x (ids0.getD i 0)-cf y (ids0.getD i 0))=C){k:Nat}(M:k<r)(hnd:¬D k∣C k){b:List Tm}(v:CanL b (cf (ids0.zip (DC r (AP S.u k))))):0<=D k/\(D k).natAbs<2147483648/\EL o d b=true/\Ut o (D k) b=true/\¬D k∣lin (cf b) x-lin (cf b) y:=by
 have B:ids0.Nodup:=t ▸ AbB R d;have hU:∀j,j<r->cf b (ids0.getD j 0)=AP S.u k j:=λj T=>by rw[v.cf_eq,Xs B _ hr T]
 have A:∀a,cf b a≠0->a∈ids0:=λa n=>by rw[v.cf_eq]at n;exact ax λq=>n<|XC q
 have m:∀a,cf b a≠0->Ix o d a=true:=λa n=>by have:=A a n;rw[<-t,mem_ids]at this;exact has_iff.2 this
 have P:D k=if k<c then AP S.d k k else 0:=by rw[<-Q];exact Rr G.shp.sd M
 have g:∀L:List Tm,lin (cf b) L=sm r λi=>AP S.u k i*cf L (ids0.getD i 0):=λL=>by rw[ME B λp _ q=>A _ q,hr];exact Bt λi hi=>by rw[hU i hi]
 refine⟨?_,?_,(Du _ _ _).2 m,(Mu _ _ _).2 λa=>?_,?_⟩
 .rw[P];split
  .rename_i h;exact(G.p k M h).1
  .exact Int.le_refl _
 .rw[P];split
  .rename_i h;exact(G.p k M h).2
  .decide
 .by_cases n:∃z∈o,z.id=a
  .obtain⟨z,u,rfl⟩:=n;rw[UC R b u];by_cases hd:z.dim=d+1
   .have hm:z.id∈ids1:=by rw[<-l];exact mem_ids.2 ⟨z,u,Y,hd⟩
    obtain⟨j,T,e⟩:=AaW hm;obtain⟨w,hw,e1,e2,K⟩:=VQ R (d:=d+1) (j:=j) (by rw[l];exact T);rw[l]at e2 K;obtain rfl:w=z:=Ul R hw u (K.symm.trans e);have:=Aac G k j M Z;rw[<-P]at this;rw[g];refine(bh (λq=>D k∣q) (Bt λi hi=>?_)).mp this;congr 1;rw[<-hF];unfold HN;rw[l,show d+1-1=d by omega,t,e2,MJ];rfl
   .rw[UJ λs hs=>ax λq=>by
     obtain⟨w,hw,K,e4⟩:=R.sid z u s hs;obtain⟨w2,hw2,e5,e6⟩:=has_iff.1 (m _ q);obtain rfl:w=w2:=Ul R hw hw2 (K.trans e5.symm)
     omega]
    exact Int.dvd_zero _
  .rw[AdA b λz u e=>n ⟨z,u,e⟩];exact Int.dvd_zero _
 .have e:lin (cf b) x-lin (cf b) y=C k:=by rw[g,g,<-Acn,<-O];exact Bt λi _=>by rw[Int.mul_sub]
  rw[e];exact hnd
theorem AeP(R:Rgt o){m:Int}{b:List Tm}(i:PR o x y ch=true)(g:Ut o m b=true):m∣lin (cf b) x-lin (cf b) y:=by
 rw[E9]at i;rw[Mu]at g
 have e:lin (cf b) (DV (A8 o) ch)=lin (cf b) x-lin (cf b) y:=by
  have k:lin (cf b) (DV (A8 o) ch)=lin (cf b) (x++y.map λp=>((p.1,-p.2):Tm)):=Ju _ λa=>by
   rw[i,DQ]
   have:cf (y.map λp=>((p.1,-p.2):Tm)) a=-(cf y a):=by
    clear i
    induction y with
    | nil=>rfl
    | cons p y ih=>rw[dh,CN,CN,ih];show(if p.1=a then -p.2 else 0)+_=_;split<;>omega
   rw[this];omega
  rw[k,D1]
  have:lin (cf b) (y.map λp=>((p.1,-p.2):Tm))=-(lin (cf b) y):=by
   clear k i
   induction y with
   | nil=>rfl
   | cons p y ih=>rw[dh,EP,EP,ih];show cf b p.1*-p.2+_=_;rw[Int.mul_neg];omega
  rw[this];omega
 rw[<-e,Wu]
 have j:∀l:List Cl,(∀z∈l,m∣lin (cf b) z.sd)->m∣(l.map λz=>cf ch z.id*lin (cf b) z.sd).sum:=by
  intro l
  induction l with
  | nil=>intro _;exact Int.dvd_zero _
  | cons z l ih=>
   intro h;rw[dh,fa];exact Int.dvd_add (Int.dvd_trans (h z ao)<|Int.dvd_mul_left _ _)<|ih λw n=>h w<|am _ n
 exact j o λz s=>by rw[<-UC R b s];exact g _
end
end
section
open Go.Lin Go.Wd Go.Sm Go.Ch
theorem MZ(r c:Nat)(f:Nat->Nat->Int):(QD r c f).S.Shp r c:=⟨Dk _ _ _,Dk _ _ _,Dk _ _ _,Dk _ _ _,Dk _ _ _⟩
theorem Abo{n a:Nat}(b:a<n)(g:Nat->Int):sm n (λq=>(if a<n/\q<n then JF a q else 0)*g q)=g a:=by rw[Lo n a _ b λq d c=>by rw[ah ⟨b,d⟩];unfold JF;rw[af (gx c),iu],ah ⟨b,b⟩];unfold JF;rw[ah rfl,jh]
theorem AfT{n a:Nat}(b:a<n)(g:Nat->Int):sm n (λq=>g q*(if q<n/\a<n then JF q a else 0))=g a:=by rw[Lo n a _ b λq d c=>by rw[ah ⟨d,b⟩];unfold JF;rw[af c,j6],ah ⟨b,b⟩];unfold JF;rw[ah rfl,Int.mul_one]
theorem AgQ(r c:Nat)(f:Nat->Nat->Int):Gd r c f 0 (QD r c f).S:=by
 refine⟨⟨λa j d e=>?_,λa j d e=>?_,λa b d g=>?_⟩,MZ r c f,λa b _ _ _ h=>Z,λa h=>Z⟩
 .show sm r (λq=>AP (BN r r JF) a q*f q j)=sm c (λq=>AP (BN r c f) a q*AP (BN c c JF) q j);simp only[HA];rw[Abo d λq=>f q j,AfT e λq=>if a<r/\q<c then f a q else 0,ah ⟨d,e⟩]
 .show sm c (λq=>f a q*AP (BN c c JF) q j)=sm r (λq=>AP (BN r r JF) a q*AP (BN r c f) q j);simp only[HA];rw[AfT e λq=>f a q,Abo d λq=>if q<r/\j<c then f q j else 0,ah ⟨d,e⟩]
 .show sm r (λq=>AP (BN r r JF) a q*AP (BN r r JF) q b)=_;simp only[HA];rw[Abo d λq=>if q<r/\b<r then JF q b else 0,ah ⟨d,g⟩];rfl
theorem Ae0{r c:Nat}{f:Nat->Nat->Int}{a:St}(h:D8 r c (min r c) 0 (QD r c f)=some a):Gf r c f a.S:=Ud (AgQ r c f) Z h
theorem WH{S:List (Int×(Int×Int))}{a:List Tm}(h:∀p∈S,p.2.2.natAbs<=1):Bi (DV S a)<=S.length*Bi a:=by
 rw[<-(Acu S a).2]
 induction S with
 | nil=>exact fm _
 | cons p S b=>
  have b:=b λq d=>h q (am _ d);have c:=h p ao;have e:Bi (MI (p::S) a)=(cf a p.1*p.2.2).natAbs+Bi (MI S a):=rfl;rw[e,de,dq,gn,jv];have f:(cf a p.1).natAbs*p.2.2.natAbs<=Bi a*1:=fx (Dc _ _) c;omega
theorem AgY{S:List (Int×(Int×Int))}{a:List Tm}(h:∀p∈S,p.2.2.natAbs<=1):Bi (GN S a)<=S.length*Bi a:=by
 rw[<-(Ac9 S a).2]
 induction S with
 | nil=>exact fm _
 | cons p S b=>
  have b:=b λq d=>h q (am _ d);have c:=h p ao;have e:Bi (MT (p::S) a)=(cf a p.2.1*p.2.2).natAbs+Bi (MT S a):=rfl;rw[e,de,dq,gn,jv];have f:(cf a p.2.1).natAbs*p.2.2.natAbs<=Bi a*1:=fx (Dc _ _) c;omega
theorem RV{l:List Cl}(R:Rgt l):∀p∈A8 l,p.2.2.natAbs<=1:=λp b=>by obtain⟨x,d,a⟩:=iv.1 b;obtain⟨s,c,rfl⟩:=ai.1 a;rcases R.sgn x d s c with e|e<;>rw[show((x.id,s):Int×(Int×Int)).2.2=s.2 from Y,e]<;>decide
theorem Gp{a b A B N:Nat}(c:a<2^A)(d:b<2^B)(e:A+B<=N):a*b<2^N:=by have:=Nat.mul_lt_mul'' c d;rw[<-jx]at this;exact b7 this<|dn H e
theorem Uv{B:Nat}{ids:List Int}{n:Nat}{g:Nat->Int}(h:∀i,i<n->Bq B (g i))(d:n<=200):Bi (ids.zip (DC n g))<2^(8+B):=by
 have a:=Rn (B:=B) (ids:=ids) (xs:=DC n g) λx c=>by obtain⟨i,b,rfl⟩:=ai.1 c;exact h i<|b6.1 b
 rw[Cc]at a;refine dr a ?_;rw[jx];exact Nat.mul_lt_mul_of_pos_right Z<|jc H
theorem Agz{r c:Nat}{S:FS}(O:S.Ok r c 660033){D C b:Nat->Int}(a:ubF S r b=C)(f:∀i,i<r->Bq 100 (b i))(l:r<=200)(h:c<=200)(i:Nat):Bq 1320600 (sm c λq=>AP S.v i q*FK r D C q):=by
 have d:∀k,k<r->Bq 660333 (C k):=λk j=>by rw[<-a];exact(Kz r λq g=>((O.bu k q).mul (f q g)).mono (show 660033+100<=660133 by decide)).mono Z
 have e:=Sg (D:=D) d;exact(Kz c λq _=>((O.bv i q).mul (e q)).mono (show 660033+(660333+1)<=1320400 by decide)).mono Z
def anZ:Value:=.agg #[.bool false,.slice none 0 0,.slice none 0 0,.bool false,sv []]
theorem O4(v s t:Value)(d:Int)(hd:0<=d/\d<=900)(x y:List Tm)(l:List Ce)(h:Hp)(Q:QsOk v h l)(X:ChR s h x)(Y:ChR t h y)(M:EL (l.map Ce.c) d x=true)(O:EL (l.map Ce.c) d y=true)(bx:Bi (DV (A8 (l.map Ce.c)) x)<2^2000000)(by_:Bi (DV (A8 (l.map Ce.c)) y)<2^2000000)(k:(bz (l.map Ce.c) x&&bz (l.map Ce.c) y)=false) :
  FnT prog 16 #[.agg #[v],.w d,s,t] h [] (fun w c i=>h.le c/\i=[]/\w=.tuple #[anZ,.w 40]):=by
 have R:=Q.X.rd.q.rd.one;obtain⟨u,z,rfl,_⟩:=X.rd.rd.ex;obtain⟨A,B,rfl,_⟩:=Y.rd.rd.ex;refine Au func16 ntmps16 rfl rfl<|fun w0 L=>?_;simp only[AW];refine U<|AK [_] rfl rfl ξ rfl rfl rfl<|fun S=>BJ [.bool false,.nl,.nl,.bool false,.es] rfl GH rfl rfl (fun T=>G rfl (BF (E (oG rfl CV Bd (Seg.blk 1 rfl)) rfl (G rfl (G rfl (G rfl (E (AQ Aen [.nl,.w 0,.nl,.nl] [(0,_),(1,_),(2,_),(3,_)] [_,_,_,_] rfl F7 rfl rfl Qt rfl) rfl (BJ [.nl,.w 0,.nl,.nl] rfl F7 rfl rfl (fun f=>?_)))))))));refine Sa 0 [_,_,_,_] F7 rfl (by simp[R,AA]) ?_;refine Ao<|Ak 0 rfl fun h1 P e=>(Ak 1 rfl fun m p g=>?_);have a:=N P p;have s4:=qT g;have j:∀c,m.le c->∀r,Seg c r (⟨f,0,none⟩:Addr) [v,.w d,.slice u x.length z,.slice A y.length B]:=fun c q r=>((e.le p).le q).any;have K:=Q.up a;have b:=Jv v (.slice u x.length z) (.slice A y.length B) d x y l m K (X.up a) (Y.up a) M O bx by_;rw[k]at b;unfold qV at b;refine Ac<|U<|E (oG rfl U87 F7<|j _ (Bk) _) rfl<|E (As rfl call42 rfl<|b _) rfl<|G rfl<|BF<|G rfl<|G rfl<|Ao ?_;refine Ay rfl (fun n=>?_)<|fun n=>lj σ n;refine U<|E (AQ Afw [.bool false,.nl,.nl,.bool false,.es] [] [_,_,_,_,_] rfl GH rfl rfl Qt rfl) rfl<|G rfl ?_;refine Sa 0 [_,_,_,_,_] GH rfl (by simp[Value.oneCell']) ?_;refine G rfl<|Ao<|Aj<|Ae<|Ja (vs:=[_,_,_,_,_]) 0 rfl rfl rfl U35 rfl GH rfl rfl (⟨a,rfl,rfl⟩)
variable {h:Hp} {l:List Ce} {v vx vy:Value} {d:Int} {x y:List Tm} {s':St}
structure Tq(v vx vy:Value)(h:Hp)(d:Int)(l:List Ce)(x y:List Tm):Prop where
 Q:QsOk v h l
 X:ChR vx h x
 Y:ChR vy h y
 hd:0<=d/\d<=900
 hl:l.length<=200
 hx:EL (l.map Ce.c) d x=true
 hy:EL (l.map Ce.c) d y=true
 zx:bz (l.map Ce.c) x=true
 zy:bz (l.map Ce.c) y=true
 hn:x.length+y.length<=100000
 ha:Bi x+Bi y<2^99
 hT:(A8 (l.map Ce.c)).length<100000
theorem Tq.up{a:Hp}(T:Tq v vx vy h d l x y)(q:h.le a):Tq v vx vy a d l x y:=⟨T.Q.up q,T.X.up q,T.Y.up q,T.hd,T.hl,T.hx,T.hy,T.zx,T.zy,T.hn,T.ha,T.hT⟩
set_option exponentiation.threshold 4000000 in
theorem Tq.bch(T:Tq v vx vy h d l x y){ch:List Tm}{B:Nat}(e:Bi ch<2^B)(c:17+B<=2000000):Bi (DV (A8 (l.map Ce.c)) ch)<2^2000000/\Bi (GN (A8 (l.map Ce.c)) ch)<2^2000000:=by have a:(A8 (l.map Ce.c)).length<2^17:=b7 T.hT H;have b:=RV T.Q.K.r;exact⟨dr (WH b) (Gp a e c),dr (AgY b) (Gp a e c)⟩
theorem Tq.bx(T:Tq v vx vy h d l x y):Bi (DV (A8 (l.map Ce.c)) x)<2^2000000:=(T.bch (B:=99) (dr (i9 _ _) T.ha) H).1
theorem Tq.by_(T:Tq v vx vy h d l x y):Bi (DV (A8 (l.map Ce.c)) y)<2^2000000:=(T.bch (B:=99) (dr (Nat.le_add_left _ _) T.ha) H).1
set_option exponentiation.threshold 4000000 in
theorem Tq.ha2(T:Tq v vx vy h d l x y):Bi x+Bi y<2^2000000:=b7 T.ha (dn H H)
structure Fq(l:List Ce)(d:Int)(s':St):Prop where
 hfp:D8 (AZ (cn l) d).length (AZ (cn l) (d+1)).length (min (AZ (cn l) d).length (AZ (cn l) (d+1)).length) 0 (QD (AZ (cn l) d).length (AZ (cn l) (d+1)).length (HN (cn l) (d+1)))=some s'
theorem Ah1(Q:QsOk v h l)(d:Int):∀i j,j<(AZ (cn l) d).length->Bq 33 (HN (cn l) d i j):=λi j c=>by obtain⟨x,a,g,b,k⟩:=VQ Q.K.r (d:=d) (j:=j) c;unfold HN;rw[show Hz (cn l) ((AZ (cn l) d).getD j 0)=x.can from b,MJ];obtain⟨z,f,rfl⟩:=ai.1 a;have m:=RC z.c.sd ((AZ (cn l) (d-1)).getD i 0) λs e=>Q.K.r.sgn _ a s e;have n:=Q.X.sdn z f;show Int.natAbs _<2^33;omega
def ChO(vc:Value)(m:Hp)(ch:List Tm):Prop:=OwnL D6 3 79 m vc ch/\ch.length<=100000/\(∀p∈ch,Cb p.1)/\Bi ch<2^2000000
theorem ChO.of{z a:List Tm}{b:Value}{m:Hp}(O:OwnL D6 3 79 m b a)(C:CanL a (cf z))(j:a.length<=z.length)(k:z.length<=1000)(c:∀p∈z,Cb p.1)(f:Bi z<2^2000000):ChO b m a:=
 ⟨O,Z,λp g=>by
  obtain⟨q,i,e⟩:=ai.1 (C.ids g)
  exact e ▸ c q i,dr C.abl_le f⟩
theorem ChO.frz{b:Value}{m:Hp}{a:List Tm}(q:ChO b m a)(c:m.le h):ChR b h a:=⟨q.1.rdh c,q.2.1,q.2.2.1,q.2.2.2⟩
set_option exponentiation.threshold 4000000 in
theorem Z0(T:Tq v vx vy h d l x y)(F:Fq l d s'):FnT prog 16 #[.agg #[v],.int .i64 d,vx,vy] h [] (λw M z=>h.le M/\∃u,z=[u] ∧
  ((∃f b,w=.tuple #[VH true b (.nl) 0,.w 0]/\CanL f (cf f)/\ChO b u f/\Bi f<2^1320700/\EL (l.map Ce.c) (d+1) f=true/\PR (l.map Ce.c) x y f=true) ∨
  (∃a b m,w=.tuple #[VH false (.nl) b m,.w 0]/\CanL a (cf a)/\ChO b u a/\Bi a<2^660100/\0<=m/\m<2147483648/\EL (l.map Ce.c) d a=true/\Ut (l.map Ce.c) m a=true/\(¬m∣lin (cf a) x-lin (cf a) y)/\∃k,k<(AZ (cn l) d).length/\m=SZ (AZ (cn l) (d+1)).length s'.S.d.flatten k))):=by
 have hm0:(AZ (cn l) d).length<=100:=T.Q.many d;have hm1:(AZ (cn l) (d+1)).length<=100:=T.Q.many (d+1);have G:=Ae0 F.hfp;have R:=T.Q.K.r
 have hD:∀k,k<(AZ (cn l) d).length->(SZ (AZ (cn l) (d+1)).length s'.S.d.flatten k).natAbs<4294967296:=λk s=>by
  rw[Rr G.shp.sd s];split
  .rename_i g;have:=(G.p k s g).2;omega
  .decide
 have B:∀i,i<(AZ (cn l) d).length->Bq 100 (cf x ((AZ (cn l) d).getD i 0)-cf y ((AZ (cn l) d).getD i 0)):=λi _=>by have n:=Dc x ((AZ (cn l) d).getD i 0);have g:=Dc y ((AZ (cn l) d).getD i 0);have P:=T.ha;show(cf x _-cf y _).natAbs<2^100;have:(2:Nat)^99<=2^100:=dn H H;omega
 refine(C9 v vx vy d T.hd x y l h T.Q T.hl T.X T.Y T.hx T.hy T.bx T.by_ T.zx T.zy T.hn T.ha _ _ _ _ Y Y Y Y _ Y (λi j _ hj=>Ah1 T.Q (d+1) i j hj) s' F.hfp _ _ Y Y hD).mono λw M z ⟨q,u,e,O,A⟩=>⟨q,u,e,?_⟩
 rcases A with ⟨r,b,rfl,f,OC,C,t,S,z2,z3⟩|⟨k,s,K,_,b,rfl,a,OC,C,t,S,z2,z3⟩
 all_goals
  have p:=C.abl_le;have L:=ChO.of OC C t S z2 z3
 .left
  obtain⟨n,g⟩:=AbP R Y Y Y Y Y G T.hx T.hy Y Y r C;refine⟨f,b,Y,C.congr λc=>(C.cf_eq c).symm,L,dr p (b7 (Uv (λi _=>Agz O Y B Z Z i) Z) (dn H H)),n,g⟩
 .right
  obtain⟨n,g,P,h4,h5⟩:=Ad4 R Y Y Y Y Y G T.hx T.hy Y Y s K C;refine⟨a,b,_,Y,C.congr λc=>(C.cf_eq c).symm,L,dr p (b7 (Uv (λi _=>O.bu k i) Z) (dn H H)),n,(by have Q:=Int.ofNat_lt.2 g;rw[Int.natAbs_of_nonneg n]at Q;exact Q),P,h4,h5,k,s,Y⟩
theorem YH(T:Tq v vx vy h d l x y)(F:Fq l d s'):FnT prog 16 #[.agg #[v],.int .i64 d,vx,vy] h [] (λw g f=>h.le g/\f=[] ∧
  ((∃c b,w=.tuple #[VH true b (.nl) 0,.w 0]/\CanL c (cf c)/\ChR b g c/\Bi c<2^1320700/\EL (l.map Ce.c) (d+1) c=true/\PR (l.map Ce.c) x y c=true) ∨
  (∃a b m,w=.tuple #[VH false (.nl) b m,.w 0]/\CanL a (cf a)/\ChR b g a/\Bi a<2^660100/\0<=m/\m<2147483648/\EL (l.map Ce.c) d a=true/\Ut (l.map Ce.c) m a=true/\(¬m∣lin (cf a) x-lin (cf a) y)/\∃k,k<(AZ (cn l) d).length/\m=SZ (AZ (cn l) (d+1)).length s'.S.d.flatten k))):=
 FnT.frz (Z0 T F) λw g f ⟨q,t,e,A⟩=>⟨t,[],e,λu s r=>⟨N q s,rfl,by
  rcases A with ⟨c,b,i,j,n,p⟩|⟨a,b,m,i,j,n,p⟩
  .exact .inl ⟨c,b,i,j,n.frz r,p⟩
  .exact .inr ⟨a,b,m,i,j,n.frz r,p⟩⟩⟩
structure AnQ(l:List Ce)(d:Int)(x y:List Tm)(sm:Bool):Prop where
 yes:sm=true->∃ch,PR (l.map Ce.c) x y ch=true
 no:sm=false->∃(m:Int) (co:List Tm),Ut (l.map Ce.c) m co=true/\¬m∣lin (cf co) x-lin (cf co) y
theorem AnQ.iff{sm:Bool}(A:AnQ l d x y sm)(R:Rgt (l.map Ce.c)):sm=true<->∃a,PR (l.map Ce.c) x y a=true:=
 ⟨A.yes,λ⟨a,hb⟩=>by
  cases sm with
  | true=>rfl
  | false=>
   obtain⟨m,e,b,c⟩:=A.no Y
   exact lj (AeP R hb b) c⟩
set_option exponentiation.threshold 4000000 in
theorem Aho(T:Tq v vx vy h d l x y)(F:Fq l d s')(hz:∀k,k<(AZ (cn l) d).length->(SZ (AZ (cn l) (d+1)).length s'.S.d.flatten k).natAbs<=1):FnT prog 16 #[.agg #[v],.int .i64 d,vx,vy] h [] (λw u P=>h.le u/\P=[] ∧
  ∃sm Q n1 S R n2 c2,w=.tuple #[VH sm (.slice Q n1 S) (.slice R n2 c2) 0,.w 0]/\AnQ l d x y sm ∧
   (∀M,u.le M->∀s,FnV prog 19 #[.agg #[v],.w d,vx,vy,VH sm (.slice Q n1 S) (.slice R n2 c2) 0] M s (.bool true)) ∧
   ∀M,u.le M->∀s,FnV prog 18 #[.agg #[v],.w d,vx,vy,VH sm (.slice Q n1 S) (.slice R n2 c2) 0] M s (.bool true)):=by
 refine(YH T F).mono λw u P ⟨q,e,A⟩=>⟨q,e,?_⟩
 rcases A with ⟨L,vc,rfl,hcc,n,i,g,p⟩|⟨t,vc,m,rfl,hcc,n,i,hm0,hm1,g,r,j,k,hk,hmk⟩
 .obtain⟨B,K,rfl,_⟩:=n.rd.rd.ex;have z:=λc (a:u.le c)=>((T.up (N q a)).bch i H).1;refine⟨true,_,_,_,_,_,_,Y,⟨λ_=>⟨L,p⟩,nofun⟩,λc a s=>?_,λc a s=>?_⟩
  .have b:=T.up (N q a);have f:=V8 v _ _ (.slice B L.length K) (.nl) d 0 T.hd x y L [] l c b.Q b.X b.Y (n.up a) (El _) T.hx T.hy T.bx T.by_ T.zx T.zy T.hn T.ha2 (z c a) (by unfold Sz;decide);rw[g,p]at f;exact f _
  .have b:=T.up (N q a);exact Ve v _ _ (.slice B L.length K) d 0 T.hd x y L l c b.Q b.X b.Y (n.up a) T.hx T.hy T.bx T.by_ T.zx T.zy T.hn T.ha2 (z c a) T.hT Y g p _
 .obtain⟨B,K,rfl,_⟩:=n.rd.rd.ex
  have hme:m=0:=by
   have h7:=hz k hk;rw[<-hmk]at h7;rcases (Z:m=0\/m=1) with e|e
   .exact e
   .exact lj (e ▸ Int.one_dvd _) j
  subst hme;have z:=λc (a:u.le c)=>((T.up (N q a)).bch i H).2;have O:Bi t*(Bi x+Bi y)<2^2000000:=Gp i T.ha H;refine⟨false,_,_,_,_,_,_,Y,⟨nofun,λ_=>⟨0,t,r,j⟩⟩,λc a s=>?_,λc a s=>?_⟩
  .have b:=T.up (N q a);have f:=Ps v _ _ (.nl) (.slice B t.length K) d 0 x y [] t l c b.Q b.X b.Y (El _) (n.up a) T.hx T.hy T.bx T.by_ T.zx T.zy T.hn T.ha2 (z c a) O H;rw[g,r,bp hm0,dx j]at f;exact f _
  .have b:=T.up (N q a);exact Wx v _ _ (.slice B t.length K) d 0 T.hd x y t l c b.Q b.X b.Y (n.up a) T.hx T.hy T.bx T.by_ T.zx T.zy T.hn T.ha2 (z c a) O T.hT Y g r j _
end
section
open Go.Lin Go.Wd Go.Sm Go.Ch
theorem SN{v M O:Value}{h:Hp}{d:Int}{l:List Ce}{x y:List Tm}{K:St}(T:Tq v M O h d l x y)(F:Fq l d K)(hz:∀k,k<(AZ (cn l) d).length->(SZ (AZ (cn l) (d+1)).length K.S.d.flatten k).natAbs<=1)(a sm:Bool)(p:sm=true<->∃P,PR (l.map Ce.c) x y P=true)(B:List Hp) :
  FnV prog 36 #[.agg #[v],.w d,M,O,.bool a] h B (.bool (decide (sm=a))):=by
 refine D9 ?_ B;have ov:=T.Q.X.rd.q.rd.one;have R:=T.Q.K.r;obtain⟨xa,xc,rfl,_⟩:=T.X.rd.rd.ex;obtain⟨ya,yc,rfl,_⟩:=T.Y.rd.rd.ex;refine Au func36 ntmps36 Y Y<|λ_ _=>U<|AK [_] Y Y ξ Y Y Y<|λg5=>J Y<|Ak 0 Y λh1 l1 n=>?_;have t:=qT n;refine U<|E (oG Y CV Bd<|t _ (Bk) _) Y<|D Y Y<|G Y<|Qc call16 Y (Aho (T.up l1) F hz)<|λw h2 ms2 l2 S=>?_;obtain⟨r,rfl,L,a1,n1,c1,a2,n2,c2,rfl,A,j,m⟩:=S;obtain rfl:L=sm:=ki.2 ((A.iff R).trans p.symm);refine D Y Y<|G Y<|BJ [.bool false,.nl,.nl,.bool false,.es] Y GH Y Y<|λQ=>?_;refine Sa 0 [_,_,_,_,_] GH Y (by simp[ov,AA]) ?_;refine J Y<|Ak 0 Y λz s b=>?_;have f:=N r s;have c:=j z s;have e:=m z s;unfold VH at c e;have osm:=AA (Ba (0:Int).natAbs);have g:=qS b;have u:=qC 0 b Y;by_cases i:L=a
 .rw[bp i];refine U<|G Y<|E (CP (Cq Y Y Y)<|bh Value.bool<|bp Y) Y<|G Y<|Qg (oF Kc Y) Y<|Qg (oL Y U4<|u _) Y<|Qg (Ap Y Y) Y<|Qg (CP (Nt Y U4 Y Y)<|bh Value.bool<|bp i) Y<|D Y Y<|Qg (oG Y CV Bd<|t _ f _) Y<|Qg (Ap Y Y) Y<|Qg (Ap Y Y) Y<|Qg (Ap Y Y) Y<|Qg (oG Y U35 GH<|g _) Y<|Qg (As Y call18 Y<|e _) Y<|D Y Y<|Qg (oG Y CV Bd<|t _ f _) Y<|Qg (Ap Y Y) Y<|Qg (Ap Y Y) Y<|Qg (Ap Y Y) Y<|Qg (oG Y U35 GH<|g _) Y<|Qg (As Y call19 Y<|c _) Y<|G Y<|J Y<|Aj<|Ar Y Y<|Y
 .rw[dx i];refine U<|G Y<|E (CP (Cq Y Y Y)<|bh Value.bool<|bp Y) Y<|G Y<|Qg (oF Kc Y) Y<|Qg (oL Y U4<|u _) Y<|Qg (Ap Y Y) Y<|Qg (CP (Nt Y U4 Y Y)<|bh Value.bool<|dx i) Y<|D Y Y<|DM Y Y<|DM Y Y<|DM Y Y<|D Y Y<|DM Y Y<|DM Y Y<|DM Y Y<|G Y<|J Y<|Aj<|Ar Y Y<|Y
def O9(l:List Int)(n:Nat):List Tm:=(range n).map λj=>(l.getD (2*j) 0,l.getD (2*j+1) 0)
theorem Zl(l:List Int)(n:Nat):O9 l (n+1)=O9 l n++[(l.getD (2*n) 0,l.getD (2*n+1) 0)]:=by unfold O9;rw[kp,cz];rfl
theorem Ach(l:List Int)(n:Nat):(O9 l n).length=n:=by simp[O9]
theorem VK(v:Value)(l:List Int)(n:Nat)(Q:l.length=2*n)(hn:n<=1000)(M:∀x∈l,Cb x)(h:Hp)(R:RdL cI 1 h [] v l):FnT prog 37 #[v] h [] (λr f c=>h.le f/\c=[]/\RdL D6 3 f [] r (O9 l n)):=by
 have ov:=R.rd.one;have u:Rd h [] v 1 (2*n) (l.flatMap cI):=by have:=R.rd;rwa [Q]at this
 refine Au func37 ntmps37 Y Y<|λ_ _=>U<|G Y<|BF<|J Y<|X<|U<|J Y<|Ag<|BW<|AC (λq A f c=>∃(j:Nat) (w:Value) (m:Hp),n-j=q/\A=[(0,v),(3,w),(4,.w ((2*j+1:Nat):Int))]/\h=f/\c=[m]/\j<=n/\OwnL D6 3 79 m w (O9 l j)) (n-0) _ ⟨0,_,Hp.emp,Y,Y,Y,Y,Z,OwnL.nil EX⟩ Qs ?_;rintro q A f c ⟨j,w,m,rfl,rfl,rfl,rfl,hj,k⟩;have ow:=k.o1;refine X<|U<|D Y Y<|E (Aw u.any Y Bb Y) Y<|J Y<|Ay Y (λt=>?_)<|λt=>?_
 .have P:j<n:=Z
  have y:2*j<l.length:=Z
  have i:2*j+1<l.length:=Z
  obtain⟨a,z⟩:∃a,l[2*j]=a:=⟨_,Y⟩
  obtain⟨b,p⟩:∃b,l[2*j+1]=b:=⟨_,Y⟩
  have s:Cb b:=M b (p ▸ aq i);have B:∀e,Cell h e ((AJ v).add (2*j*1)) (.w a):=λe=>(R.any (ms:=e)).cell0 y (by rw[z];rfl);have K:∀e,Cell h e ((AJ v).add ((2*j+1)*1)) (.w b):=λe=>(R.any (ms:=e)).cell0 i (by rw[p];rfl);have g:O9 l (j+1)=O9 l j++[(a,b)]:=by rw[Zl,show l.getD (2*j) 0=a by simp[List.getD,y,z],show l.getD (2*j+1) 0=b by simp[List.getD,i,p]]
  have S:=Ach l j;have osb:=AA (Ba b.natAbs);refine I<|X<|Ag<|AS (n:=15) (bs:=[W,W,W,W,W,W,W,W,W,W,W,W,lw,lw,lw]) [W,W,W,W,W,W,W,W,W,W,W,W] Cx V V Y Y<|Qq Y<|Qq Y<|Qq Y<|Qp Y (oS Y)<|Qp Y (BP (2*j) u.any Y Bb By Y Y)<|QL Y U3 (B _)<|Qq Y<|Qq Y<|Qp Y (BP (2*j+1) u.any Y Bb By Y Y)<|QL Y U3 (K _)<|Qp Y (As Y call25 Y<|H3 b s _ _)<|Qp Y (AQ ZI [.w 0,.bool false,.es] [(0,_),(1,_)] [_,_,_] Y Cv Y Y Qt Y)<|Qo 12 Y<|AB [_,_,_] Y Ct Cv Y ξ Y Y Z Y Y Y<|λL=>Qw<|Qo 13 Y<|AL 1 k (RdL.one EX (x:=((a,b):Tm)) Mh Y) Y Ct Cv Y Z Y Y Y D3 (by(try simp only[ae]);omega) (by(try simp only[ae]);omega) rfl rfl rfl<|λv9 m9 d=>?_;have o9:=d.o1;refine Qw<|Qo 14 Y<|G Y<|Qw<|Qe ?_;rw[<-g]at d;refine D2<|Ad<|G Y<|E (oA Y) Y<|G Y<|Am<|AU<|Aq (n-(j+1)) _ Z ⟨j+1,v9,m9,Y,Y,Y,Y,Z,d⟩ Qs
 .obtain rfl:j=n:=Z
  refine CQ k λh2 l2 O=>C<|Ab<|U<|G Y<|J Y<|Aj ?_
  exact Ar Y Y (⟨l2,Y,O⟩)
def ceR(h:Hp)(r:Value)(c:Cl):Prop:=∃v,r=.agg (cC ⟨c,v⟩).toArray/\RdL cD 2 h [] v c.sd
theorem NI(i a b:Int)(h:Hp):FnT prog 77 #[.int .i64 i,.int .i64 a,.int .i64 b] h [] (λr e d=>h.le e/\d=[]/\ceR e r ⟨i,1,[(a,-1),(b,1)]⟩):=by refine Au func77 ntmps77 Y Y<|λ_ _=>U<|BJ [.int .i64 0,.int .i64 0,.slice none 0 0] Y A9 Y Y<|λm=>BF<|D Y Y<|E (AQ Za [.int .i64 0,.int .i64 0] [(0,_),(1,_)] [_,_] Y B5 Y Y Qt Y) Y<|G Y<|E (AQ Za [.int .i64 0,.int .i64 0] [(0,_),(1,_)] [_,_] Y B5 Y Y Qt Y) Y<|AX [(0,_),(2,_)] [.int .i64 0,.int .i64 0,.int .i64 0,.int .i64 0] [_,_,_,_] Y Di B5 Y Z V Qt Y Y Y Y<|λc=>Bm λg l j=>?_;have f:RdL cD 2 g [] (.slice (some ⟨c,0,none⟩) 2 2) [(a,-1),(b,1)]:=RdL.built j Y Y GJ H;have o:=f.rd.one;refine E (AQ R7 [.int .i64 0,.int .i64 0,.slice none 0 0] [(0,_),(1,_),(2,_)] [_,_,_] Y A9 Y Y Qt Y) Y ?_;refine Sa 0 [_,_,_] A9 Y (by simp[Value.oneCell']) ?_;refine Ao<|Aj<|BC (vs:=[_,_,_]) 0 Y Y Kr Y A9 Y Y (⟨l,Y,_,Y,f⟩)
def Iu(f:Bool):List Cl:=[⟨1,0,[]⟩,⟨2,0,[]⟩,⟨3,0,[]⟩,⟨4,1,[(1,-1),(2,1)]⟩,⟨5,1,[(1,-1),(3,1)]⟩,⟨6,1,[(2,-1),(3,1)]⟩]++if f then [⟨7,2,[(4,1),(5,-1),(6,1)]⟩] else []
theorem Mr(h:Hp):RdL cD 2 h [] (.slice none 0 0) []:=⟨Rd.nil _ _ _,GJ⟩
theorem P9(f:Bool)(h:Hp):FnT prog 39 #[.bool f] h [] (λr j O=>h.le j/\O=[]/\∃v A,r=.agg #[v]/\RdC j v A/\A.map Ce.c=Iu f):=by
 refine Au func39 ntmps39 Y Y<|λ_ _=>U<|BJ [.nl] Y Bd Y Y<|λg2=>BF<|G Y<|BF<|E (AQ R7 [.w 0,.w 0,.nl] [(0,_)] [_,_,_] Y A9 Y Y Qt Y) Y<|E (AQ R7 [.w 0,.w 0,.nl] [(0,_)] [_,_,_] Y A9 Y Y Qt Y) Y<|E (AQ R7 [.w 0,.w 0,.nl] [(0,_)] [_,_,_] Y A9 Y Y Qt Y) Y<|G Y<|EC (pre:=[]) Y Y call77 Y (NI 4 1 2 h) Y Y Y Y<|λc1 h1 ms1 l1 m=>?_;obtain⟨L,rfl,T,rfl,P⟩:=m;refine G Y<|EC (pre:=[]) Y Y call77 Y (NI 5 1 3 h1) Y Y Y Y<|λc2 h2 ms2 l2 m=>?_;obtain⟨z,rfl,v2,rfl,Q⟩:=m;refine G Y<|EC (pre:=[]) Y Y call77 Y (NI 6 2 3 h2) Y Y Y Y<|λc3 h3 ms3 l3 m=>?_;obtain⟨i,rfl,v3,rfl,R⟩:=m;have o1:=P.rd.one;have o2:=Q.rd.one;have o3:=R.rd.one;refine AX [(0,_),(3,_),(6,_),(9,_),(12,_),(15,_)] [.w 0,.w 0,.nl,.w 0,.w 0,.nl,.w 0,.w 0,.nl,.w 0,.w 0,.nl,.w 0,.w 0,.nl,.w 0,.w 0,.nl] [_,_,_,_,_,_,_,_,_,_,_,_,_,_,_,_,_,_] Y B8 A9 Y Z V Qt Y Y Y Y<|λd=>E (AQ AeM [.nl] [(0,_)] [_] Y Bd Y Y Qt Y) Y<|BJ [.nl] Y Bd Y Y<|λg4=>?_;refine Sa 0 [_] Bd Y (by simp[Value.oneCell']) ?_;refine Ao<|X<|U<|J Y ?_;obtain⟨c,b⟩:∃c:List Ce,c=[⟨⟨1,0,[]⟩,.nl⟩,⟨⟨2,0,[]⟩,.nl⟩,⟨⟨3,0,[]⟩,.nl⟩,⟨⟨4,1,[(1,-1),(2,1)]⟩,T⟩,⟨⟨5,1,[(1,-1),(3,1)]⟩,v2⟩,⟨⟨6,1,[(2,-1),(3,1)]⟩,v3⟩]:=⟨_,Y⟩
 have S:OwnL cC 3 50 (BE d 50 (c.flatMap cC)) (.slice (some ⟨d,0,none⟩) 6 6) c:=OwnL.blk (g:=d) (el:=50) (F:=cC) (l:=c) 6 D7 (by rw[b];rfl) H
 have l:∀j,h3.le j->∀a∈c,RdL cD 2 j [] a.v a.c.sd:=λj q a t=>by
  rw[b]at t;simp only[be,ia,j7]at t;rcases t with rfl|rfl|rfl|rfl|rfl|rfl
  .exact Mr _
  .exact Mr _
  .exact Mr _
  .exact P.up<|N z<|N i q
  .exact Q.up<|N i q
  .exact R.up q
 have x:=N L (N z i);have u:c.flatMap cC=[.w 1,.w 0,.nl,.w 2,.w 0,.nl,.w 3,.w 0,.nl,.w 4,.w 1,T,.w 5,.w 1,v2,.w 6,.w 1,v3]:=by rw[b];rfl
 rw[u]at S;cases f
 .refine AM Y<|I<|U<|E (oG Y CV Bd<|Seg.blk 0 Y) Y ?_;refine Sa 2 [_] Bd Y (by simp[Value.oneCell']) ?_;refine Ao<|Aj<|IE 1 Y λk B p=>?_;have K:RdL cC 3 k [] (.slice (some ⟨d,0,none⟩) 6 6) c:=RdL.built p (by rw[u]) (by rw[b];rfl) D7 H;refine AU ?_;exact BC (vs:=[_]) 0 Y Y CV Y Bd Y Y (⟨N x B,Y,_,c,Y,⟨K,l k B⟩,by rw[b];rfl⟩)
 .refine A4 Y<|Ad<|Qf Cy Y<|Ql Y B8 (Cell.blk 0 Y Y)<|E (AQ Za [.w 0,.w 0] [(0,_),(1,_)] [_,_] Y B5 Y Y Qt Y) Y<|E (AQ Za [.w 0,.w 0] [(0,_),(1,_)] [_,_] Y B5 Y Y Qt Y) Y<|E (AQ Za [.w 0,.w 0] [(0,_),(1,_)] [_,_] Y B5 Y Y Qt Y) Y<|AX [(0,_),(2,_),(4,_)] [.w 0,.w 0,.w 0,.w 0,.w 0,.w 0] [_,_,_,_,_,_] Y Di B5 Y Z V Qt Y Y Y Y<|λg=>Bm λk B s=>?_;have e:RdL cD 2 k [] (.slice (some ⟨g,0,none⟩) 3 3) [(4,1),(5,-1),(6,1)]:=RdL.built s Y Y GJ H;refine E (AQ R7 [.w 0,.w 0,.nl] [(0,_),(1,_),(2,_)] [_,_,_] Y A9 Y Y Qt Y) Y<|AB [_,_,_] Y B8 A9 Y ξ Y Y Z Y Y Y<|λg24=>?_;have h6:c.length=6:=by rw[b];rfl
  refine Cz 2 S (RdL.one D7 (x:=(⟨⟨7,2,[(4,1),(5,-1),(6,1)]⟩,.slice (some ⟨g,0,none⟩) 3 3⟩:Ce)) Mh Y) Y B8 A9 Y Z Y Y Y (Hd (l:=[⟨⟨7,2,[(4,1),(5,-1),(6,1)]⟩,.slice (some ⟨g,0,none⟩) 3 3⟩]) (h:=k) λy hy=>by rw[bj.1 hy];exact e) (by(try simp only[ae]);omega) (by(try simp only[ae]);omega) rfl rfl rfl<|λv9 m9 n=>?_;have o9:=n.o1;refine Qf Cy Y ?_;refine Bl 1 _ Y AeT Y Y (by assumption) Y Y (by(simp;done)) rfl rfl ?_;refine BF<|E (oG Y CV Bd<|Seg.blk 1 Y) Y ?_;refine Sa 3 [_] Bd Y (by simp[o1,o2,o3,o9]) ?_;refine Ao<|Aj<|Eo 2 Y<|Dr n λh5 M K=>AU<|AU ?_;exact BC (vs:=[_]) 0 Y Y CV Y Bd Y Y (⟨N x (N B M),Y,_,_,Y,⟨K,λa t=>(bi.1 t).elim (λq=>l _ (N B M) a q) (λq=>by rw[bj.1 q];exact e.up M)⟩,by rw[b];rfl⟩)
end
section
open Go.Lin Go.Wd Go.Sm Go.Ch
variable {l:List Ce} {o:List Cl} {v:Value} {h:Hp}
theorem Ur(c:List (List Int)):(BU c).Pairwise λa b=>a.id<=b.id:=by
 unfold BU;cases Cd [] c with
 | none=>exact .nil
 | some all=>exact fo.2 (List.pairwise_lt_range.imp λ{a b} h=>by show(a:Int)+1<=b+1;omega)
theorem YS(c:List (List Int)):∀x∈BU c,x.sd.Pairwise λa b=>a.1<=b.1:=by
 unfold BU;cases Cd [] c with
 | none=>nofun
 | some all=>
  intro x d;obtain⟨i,_,rfl⟩:=ai.1 d;show(if _ then [] else CS _).Pairwise _;split
  .exact .nil
  .exact Kg _
theorem Aak{b:List (List Int)}(e:l.map Ce.c=BU b):OrdC l:=by
 have d:∀a∈l,a.c∈BU b:=λa c=>e ▸ ai.2 ⟨a,c,Y⟩;have f:=(M9 b).1;rw[<-e,bb]at f;refine⟨Z,λa c=>?_,?_,λa c=>YS b _ (d a c)⟩
 .have:=((M9 b).2 _ (d a c)).2;omega
 .have:=Ur b;rw[<-e]at this;exact(pairwise_map (f:=Ce.c)).1 this
theorem QsOk.of{t:List (List Int)}(u:RdC h v l)(e:l.map Ce.c=BU t)(M:l.length<=200)(B:∀n:Int,(AZ (cn l) n).length<=100):QsOk v h l:=by
 have R:Rgt (l.map Ce.c):=e ▸ OE _
 have d:∀x∈l,x.c.id<=1000000:=λx a=>by have j:=AfE t x.c (e ▸ ai.2 ⟨x,a,Y⟩);have m:=bh List.length e;rw[bb]at m;omega
 have g:∀x∈l,x.c.sd.length<=64:=λx a=>by have f:=R.num _ (ai.2 ⟨x,a,Y⟩);have j:=R.dim _ (ai.2 ⟨x,a,Y⟩);unfold Ck at f;omega
 have b:∀x∈l,1<=x.c.id:=λx a=>R.pos _ (ai.2 ⟨x,a,Y⟩);refine⟨⟨R,d,Aak e⟩,⟨u,Z,λx a=>by have:=g x a;omega,?_,λx a=>?_,λx a s p=>?_⟩,B,λc A=>?_⟩
 .have k:∀l:List Ce,(∀x∈l,x.c.sd.length<=64)->(A8 (l.map Ce.c)).length<=64*l.length:=by
   intro l
   induction l with
   | nil=>intro _;exact fm _
   | cons x l ih=>
    intro h;have f:=h x ao;have j:=ih λy i=>h y (am _ i);have e:A8 ((x::l).map Ce.c)=(x.c.sd.map λs=>(x.c.id,s))++A8 (l.map Ce.c):=rfl;rw[e,ag,bb,de];omega
  have:=k l g;omega
 .have f:=d x a;have j:=b x a;unfold Cb;omega
 .obtain⟨y,i,K,L⟩:=R.sid _ (ai.2 ⟨x,a,Y⟩) s p;obtain⟨z,r,rfl⟩:=ai.1 i;have f:=d z r;have j:=b z r;have m:=R.sgn _ (ai.2 ⟨x,a,Y⟩) s p;unfold Cb;omega
 .obtain⟨y,i,e⟩:=mem_ord.1 A;have f:=R.dim y i;rw[e];show y.dim<=1000;omega
theorem RG(Q:QsOk v h l)(i:l.length<=200):(A8 (l.map Ce.c)).length<100000:=by
 have a:∀x∈l,x.c.sd.length<=64:=λx d=>by have c:=Q.K.r.num _ (ai.2 ⟨x,d,Y⟩);have f:=Q.K.r.dim _ (ai.2 ⟨x,d,Y⟩);unfold Ck at c;omega
 have b:∀l:List Ce,(∀x∈l,x.c.sd.length<=64)->(A8 (l.map Ce.c)).length<=64*l.length:=by
  intro l
  induction l with
  | nil=>intro _;exact fm _
  | cons x l ih=>
   intro h;have c:=h x ao;have f:=ih λy g=>h y (am _ g);have e:A8 ((x::l).map Ce.c)=(x.c.sd.map λs=>(x.c.id,s))++A8 (l.map Ce.c):=rfl;rw[e,ag,bb,de];omega
 have:=b l a;omega
def Acr:List Cl:=[⟨1,0,[]⟩,⟨2,0,[]⟩]
theorem Adh:Iu false=BU [[0,1],[0,2],[1,2]]:=by kernel_rfl
theorem Ab1:Iu true=BU [[0,1,2]]:=by kernel_rfl
theorem Aa0:Acr=BU [[0],[1]]:=by kernel_rfl
def Smp(o:List Cl):Prop:=∃ll,o=BU ll
theorem Smp.ord(S:Smp o):ordF o=o:=by obtain⟨a,rfl⟩:=S;exact(CanO.ord ⟨gv _,Ur a,_,gv _,Y,λi h b=>⟨Y,Y,gv _,YS a _ (aq h)⟩⟩ (OE a)).symm
theorem IP:∀f,Smp (Iu f)
 | false=>⟨_,Adh⟩
 | true=>⟨_,Ab1⟩
theorem Acl:Smp Acr:=⟨_,Aa0⟩
theorem AgN(n:Int):(AZ (cn l) n).length<=l.length:=by have:=GI (cn l) n;rwa [Kl]at this
theorem XB(b:RdC h v l)(e:l.map Ce.c=o)(S:Smp o)(a:o.length<=100):QsOk v h l:=by subst e;rw[bb]at a;obtain⟨c,e⟩:=S;exact QsOk.of b e Z λn=>bl (AgN n) a
theorem AfS{x L:List Tm}(e:DV (A8 o) x=L)(h:∀c,cf L c=0):bz o x=true:=(Ij _ _).2 (e ▸ h)
theorem M6{d:Int}{x:List Tm}(h:∀p∈x,Ix o d p.1=true):EL o d x=true:=(Du _ _ _).2 λc a=>ax λq=>a (E5 λp b e=>q (e ▸ h p b))
def rnd:List Tm:=[(4,1),(5,-1),(6,1)]
theorem AgI:PR (Iu false) [(1,1)] [(3,1)] [(5,-1)]=true:=by
 rw[E9];intro c;have e:DV (A8 (Iu false)) [(5,-1)]=[(1,1),(3,-1)]:=by decide
 rw[e];show(if(1:Int)=c then(1:Int) else 0)+((if(3:Int)=c then(-1:Int) else 0)+0)=((if(1:Int)=c then(1:Int) else 0)+0)-((if(3:Int)=c then(1:Int) else 0)+0);split<;>split<;>omega
theorem AgR:¬∃a,PR (Iu false) rnd [] a=true:=by
 rintro⟨a,h⟩;have:=(E9 _ _ _ _).1 h 4
 rw[Xg,Hx λx c=>by
  have b:sgn x.sd 4=0:=by revert x;decide
  rw[b,j6]]at this
 revert this;decide
theorem AhJ:PR (Iu true) rnd [] [(7,1)]=true:=by
 rw[E9];intro c;have e:DV (A8 (Iu true)) [(7,1)]=rnd:=by decide
 rw[e,Ka];omega
theorem Aim:¬∃a,PR Acr [(1,1)] [(2,1)] a=true:=by rintro⟨a,h⟩;have:=(E9 _ _ _ _).1 h 1;have e:DV (A8 Acr) a=[]:=rfl;rw[e]at this;revert this;decide
theorem Wb(f:Bool):bz (Iu f) rnd=true:=by
 have e:DV (A8 (Iu f)) rnd=[(1,-1),(2,1),(1,1),(3,-1),(2,-1),(3,1)]:=by cases f<;>decide
 refine AfS e λc=>?_;show(if(1:Int)=c then(-1:Int) else 0)+((if(2:Int)=c then(1:Int) else 0)+((if(1:Int)=c then(1:Int) else 0)+((if(3:Int)=c then(-1:Int) else 0)+((if(2:Int)=c then(-1:Int) else 0)+((if(3:Int)=c then(1:Int) else 0)+0)))))=0;by_cases a:(1:Int)=c<;>by_cases b:(2:Int)=c<;>by_cases d:(3:Int)=c<;>simp[a,b,d]<;>omega
theorem AdI:bz (Iu false) [(4,1),(6,1)]=false:=by rw[Bool.eq_false_iff];intro h;have:=(Ij _ _).1 h 1;revert this;decide
end
section
open Go.Lin Go.Wd Go.Sm Go.Ch
variable {l:List Ce} {v vx vy:Value} {h:Hp}
def fZ(r c:Nat)(x:Option St):Bool:=match x with
 | none=>false
 | some s=>(range r).all λk=>(SZ c s.S.d.flatten k).natAbs<=1
theorem XP{o:List Cl}{d:Int}(e:l.map Ce.c=o)(S:Smp o)(h:fZ (AZ o d).length (AZ o (d+1)).length (D8 (AZ o d).length (AZ o (d+1)).length (min (AZ o d).length (AZ o (d+1)).length) 0 (QD (AZ o d).length (AZ o (d+1)).length (HN o (d+1))))=true):∃a,Fq l d a/\∀k,k<(AZ (cn l) d).length->(SZ (AZ (cn l) (d+1)).length a.S.d.flatten k).natAbs<=1:=by
 have b:cn l=o:=by unfold cn;rw[e,S.ord]
 cases hs:D8 (AZ o d).length (AZ o (d+1)).length (min (AZ o d).length (AZ o (d+1)).length) 0 (QD (AZ o d).length (AZ o (d+1)).length (HN o (d+1))) with
 | none=>rw[hs]at h;cases h
 | some a=>
  rw[hs]at h;refine⟨a,⟨?_⟩,?_⟩<;>rw[b]
  .exact hs
  .intro k c;exact dd<|dy.1 h k<|b6.2 c
set_option exponentiation.threshold 4000000 in
theorem SX{l:List Tm}(R:RdL D6 3 h [] v l)(c:l.length<=1000)(a:∀p∈l,Cb p.1)(b:Bi l<2^90):ChR v h l:=⟨R,Z,a,b7 b (dn H H)⟩
theorem AeD{n:Nat}(h:n<100000):n<2^90:=b7 h H
theorem Ah6{a b:Nat}(c:a<100000)(d:b<100000):a+b<2^99:=b7 (show a+b<200000 by omega) H
theorem Vj{o:List Cl}{d:Int}{x y:List Tm}(k:RdC h v l)(e:l.map Ce.c=o)(R:Smp o)(c:o.length<=100)(m:0<=d/\d<=900)(X:RdL D6 3 h [] vx x)(z:RdL D6 3 h [] vy y)(f:x.length<=1000)(g:∀p∈x,Cb p.1)(a:Bi x<100000)(i:y.length<=1000)(j:∀p∈y,Cb p.1)(b:Bi y<100000)(n:∀p∈x,Ix o d p.1=true)(r:∀p∈y,Ix o d p.1=true)(s:bz o x=true)(t:bz o y=true):Tq v vx vy h d l x y:=by
 have Q:=XB k e R c;have u:l.length<=100:=by rw[<-bb (f:=Ce.c),e];exact c
 exact⟨Q,SX X f g (AeD a),SX z i j (AeD b),m,Z,e ▸ M6 n,e ▸ M6 r,e ▸ s,e ▸ t,Z,Ah6 a b,RG Q Z⟩
theorem V5(o:List Cl)(x:List Tm)(h:DV (A8 o) x=[]):bz o x=true:=AfS h λc=>rfl
theorem Aie(b:RdC h v l)(e:l.map Ce.c=Iu false)(X:RdL D6 3 h [] vx [(1,1)])(f:RdL D6 3 h [] vy [(3,1)])(a:List Hp):FnV prog 36 #[.agg #[v],.int .i64 0,vx,vy,.bool true] h a (.bool true):=by obtain⟨d,F,c⟩:=XP (d:=0) e (IP false) V;exact SN (Vj b e (IP false) H H X f H H H H H H H H (V5 _ _ H)<|V5 _ _ H) F c true true ⟨λ_=>⟨_,e ▸ AgI⟩,λ_=>rfl⟩ a
theorem AhG(b:RdC h v l)(e:l.map Ce.c=Iu false)(X:RdL D6 3 h [] vx rnd)(a:List Hp):FnV prog 36 #[.agg #[v],.int .i64 1,vx,.slice none 0 0,.bool false] h a (.bool true):=by obtain⟨d,F,c⟩:=XP (d:=1) e (IP false) V;exact SN (Vj b e (IP false) H H X (El h).rd H H H H H H H H (Wb _)<|V5 _ _ H) F c false false ⟨nofun,λq=>lj (e ▸ q) AgR⟩ a
theorem Ahx(b:RdC h v l)(e:l.map Ce.c=Iu true)(X:RdL D6 3 h [] vx rnd)(a:List Hp):FnV prog 36 #[.agg #[v],.int .i64 1,vx,.slice none 0 0,.bool true] h a (.bool true):=by obtain⟨d,F,c⟩:=XP (d:=1) e (IP true) V;exact SN (Vj b e (IP true) H H X (El h).rd H H H H H H H H (Wb _)<|V5 _ _ H) F c true true ⟨λ_=>⟨_,e ▸ AhJ⟩,λ_=>rfl⟩ a
theorem Aih(b:RdC h v l)(e:l.map Ce.c=Acr)(X:RdL D6 3 h [] vx [(1,1)])(f:RdL D6 3 h [] vy [(2,1)])(a:List Hp):FnV prog 36 #[.agg #[v],.int .i64 0,vx,vy,.bool false] h a (.bool true):=by obtain⟨d,F,c⟩:=XP (d:=0) e Acl V;exact SN (Vj b e Acl H H X f H H H H H H H H (V5 _ _ H)<|V5 _ _ H) F c false false ⟨nofun,λq=>lj (e ▸ q) Aim⟩ a
set_option exponentiation.threshold 4000000 in
theorem XM(g:RdC h v l)(e:l.map Ce.c=Iu false)(X:RdL D6 3 h [] vx [(4,1),(6,1)]):FnT prog 16 #[.agg #[v],.int .i64 1,vx,.slice none 0 0] h [] (λw c a=>h.le c/\a=[]/\w=.tuple #[anZ,.int .i64 40]):=by have Q:=XB g e (IP false) H;have d:=RG Q (show l.length<=200 by rw[<-bb (f:=Ce.c),e];decide);have b:∀L:List Tm,Bi L<2^17->Bi (DV (A8 (l.map Ce.c)) L)<2^2000000:=λL f=>dr (WH (RV Q.K.r)) (Gp (A:=17) (B:=17) (b7 d H) f H);exact O4 v _ _ 1 H [(4,1),(6,1)] [] l h Q (SX X H H<|AeD H) (El h) (e ▸ M6 H) (e ▸ M6 H) (b _ H) (b _ H) (by rw[e,AdI];rfl)
set_option exponentiation.threshold 4000000 in
theorem Aiw{d:Value}(m:RdC h v l)(e:l.map Ce.c=Iu false)(X:RdL D6 3 h [] vx rnd)(C:RdL D6 3 h [] d [(4,1)])(f:List Hp):FnV prog 19 #[.agg #[v],.int .i64 1,vx,.slice none 0 0,VH false (.slice none 0 0) d 0] h f (.bool true):=by
 have T:=Vj (y:=[]) m e (IP false) H (show(0:Int)<=1/\(1:Int)<=900 by decide) X (El h).rd H H H H H H H H (Wb _) (V5 _ _ H);have g:=T.bch (ch:=[(4,1)]) (B:=17) H H;have b:Bi [((4,1):Tm)]*(Bi rnd+Bi ([]:List Tm))<2^2000000:=Gp (A:=17) (B:=17) H H H;have a:=Ps v vx (.nl) (.nl) d 1 0 rnd [] [] [(4,1)] l h T.Q T.X T.Y (El _) (SX C H H (AeD H)) T.hx T.hy T.bx T.by_ T.zx T.zy T.hn T.ha2 g.2 b H f;have j:EL (l.map Ce.c) 1 [(4,1)]=true:=e ▸ M6 H
 have k:Ut (l.map Ce.c) 0 [(4,1)]=true:=by
  rw[Mu,e];intro c;have i:GN (A8 (Iu false)) [(4,1)]=[]:=by decide
  rw[i];exact Int.dvd_refl _
 rw[j,k,dx (show ¬(0:Int)∣lin (cf [((4,1):Tm)]) rnd-lin (cf [((4,1):Tm)]) [] by decide)]at a;exact a
end
section
open Go.Lin Go.Wd Go.Sm Go.Ch
theorem AbE{l:List Int}(h:∀x∈l,-1000<=x/\x<=1000):∀x∈l,Cb x:=λx a=>by have:=h x a;unfold Cb;omega
theorem Do{g n:Nat}{l:List Int}{cs:List Value}{h:Hp}(e:Seg h [] (⟨g,0,none⟩:Addr) cs)(f:cs=l.flatMap cI)(c:l.length=2*n)(i:n<=1000)(d:∀x∈l,-1000<=x/\x<=1000):FnT prog 37 #[.slice (some ⟨g,0,none⟩) (2*n) (2*n)] h [] (λr b a=>h.le b/\a=[]/\RdL D6 3 b [] r (O9 l n)):=
 VK _ l n c i (AbE d) h (RdL.built e f c Bf Z)
theorem AaC(h:Hp)(r:List Hp):FnV prog 12 #[] h r (.bool true):=by
 refine D9 ?_ r;refine Au func12 ntmps12 Y Y<|λ_ _=>U<|G Y<|BF<|Qc call39 Y (P9 false h)<|λr1 h1 ms1 l1 e=>?_;obtain⟨l1',rfl,v1,A1,rfl,v,K⟩:=e;refine Qc call39 Y (P9 true h1)<|λr2 h2 ms2 l2 e=>?_;obtain⟨l2',rfl,v2,A2,rfl,R2,E2⟩:=e;have o1:=v.q.rd.one;have o2:=R2.q.rd.one;refine BJ [.nl] Y Bd Y Y<|λg1=>BJ [.nl] Y Bd Y Y<|λg2=>?_;refine Sa 1 [_] Bd Y (by simp[o1,o2]) ?_;refine Sa 0 [_] Bd Y (by simp[o1,o2]) ?_;refine Ao<|Ak 0 Y λh3 l3 hS2=>Ak 0 Y λh4 l4 hS1=>U<|AX [(0,_),(1,_),(2,_),(3,_),(4,_),(5,_)] [.w 0,.w 0,.w 0,.w 0,.w 0,.w 0] [_,_,_,_,_,_] Y Bb By Y Z V Qt Y Y Y Y<|λg9=>Bm λh5 l5 hS9=>Qc call37 Y (Do (n:=3) (l:=[4,1,5,-1,6,1]) hS9 Y Y H H)<|λr3 h6 ms6 l6 e=>?_;obtain⟨l6',rfl,B⟩:=e;have B:RdL D6 3 h6 [] r3 rnd:=B;have o3:=B.rd.one;refine G Y<|BF<|E (AQ R7 [.w 0,.w 0,.nl] [(0,_)] [_,_,_] Y A9 Y Y Qt Y) Y<|E (AQ R7 [.w 0,.w 0,.nl] [(0,_)] [_,_,_] Y A9 Y Y Qt Y) Y<|AX [(0,_),(3,_)] [.w 0,.w 0,.nl,.w 0,.w 0,.nl] [_,_,_,_,_,_] Y B8 A9 Y Z V Qt Y Y Y Y<|λR=>E (AQ AeM [.nl] [(0,_)] [_] Y Bd Y Y Qt Y) Y<|BJ [.nl] Y Bd Y Y<|λg4=>?_;refine Sa 0 [_] Bd Y (by simp[Value.oneCell']) ?_;refine Ao<|Ak 0 Y λh7 l7 hS4=>Ak 0 Y λh8 l8 hS13=>?_;have l68:=N l7 l8;have l58:=N l6' l68;have l48:=N l5 l58;have l38:=N l4 l48;have l28:=N l3 l38;have l18:=N l2' l28;have l08:=N l1' l18;have v:=v.up l18;have R2:=R2.up l28;have B:=B.up l68
 have R4:RdC h8 (.slice (some ⟨R,0,none⟩) 2 2) [⟨⟨1,0,[]⟩,.nl⟩,⟨⟨2,0,[]⟩,.nl⟩]:=⟨RdL.built hS13 Y Y D7 H,λa ha=>by
  simp only[be,ia,j7]at ha
  rcases ha with rfl|rfl<;>exact Mr _⟩
 have G1:∀p,h8.le p->∀r,Seg p r (⟨g1,0,none⟩:Addr) [v1]:=λp q r=>(((hS1.le l48).le q)).any;have G2:∀p,h8.le p->∀r,Seg p r (⟨g2,0,none⟩:Addr) [v2]:=λp q r=>(((hS2.le l38).le q)).any;have G4:∀p,h8.le p->∀r,Seg p r (⟨g4,0,none⟩:Addr) [.slice (some ⟨R,0,none⟩) 2 2]:=λp q r=>(((hS4.le l8).le q)).any;refine Bu (λsl p ms'=>sl=[(1,.pt g1),(2,.pt g2),(3,r3),(4,.pt g4),(6,.w 40)]/\h8.le p/\ms'=[]) ?_<|λs h r hI=>?_
 .refine AS (n:=10) (bs:=[W,lw,lw,lw,lw,lw,lw,lw,lw,lw]) [true] Cx V V Y Y<|Qp Y (oG Y CV Bd<|G1 _ (Bk) _)<|AO [1,7] V Y<|Al Y ?_ ?_;refine AX [(0,_),(1,_),(2,_),(3,_)] [.w 0,.w 0,.w 0,.w 0] [_,_,_,_] Y Bb By Y Z V Qt Y Y Y Y<|λg17=>Bm λh9 l9 m=>Qa<|AO [2,7] V Y<|Al Y ?_ ?_;refine AE (pre:=[]) Y call37 Y (Do (n:=2) (l:=[4,1,6,1]) m Y Y H H) Y Y Y Y<|λr5 O msA k e=>?_;obtain⟨u,rfl,P⟩:=e;have f:=N l9 u;refine Qa<|AO [3,7] V Y<|Al Y ?_ ?_;refine AE (pre:=[]) Y call16 Y (XM (v.up f) K P) Y Y Y Y<|λw0 x i y e=>?_;obtain⟨b,rfl,rfl⟩:=e;have A:=N f b;unfold anZ;refine Qa<|A7 4 15 V Y (by assumption) Y (Ap Y Y)<|A7 5 20 V Y (by assumption) Y (Bo Y Y Y)<|A7 6 21 V Y (by assumption) Y (Bo Y Y Y)<|Qo 7 Y<|BJ [.bool false,.nl,.nl,.bool false,.es] Y GH Y Y<|λg5=>Qa ?_
  rotate_left
  refine Al Y ?_ ?_;refine BJ [.bool false,.nl,.nl,.bool false,.es] Y GH Y Y<|λg5=>Qa<|Qo 3 Y<|AE (pre:=[]) Y call16 Y (XM (v.up f) K P) Y Y Y Y<|λw0 x i y e=>?_;obtain⟨b,rfl,rfl⟩:=e;have A:=N f b;unfold anZ;refine Qa<|A7 4 15 V Y (by assumption) Y (Ap Y Y)<|A7 5 20 V Y (by assumption) Y (Bo Y Y Y)<|A7 6 21 V Y (by assumption) Y (Bo Y Y Y) ?_
  rotate_left
  exact AN;refine Al Y ?_ ?_;refine BJ [.bool false,.nl,.nl,.bool false,.es] Y GH Y Y<|λg5=>Qa<|Qo 2 Y<|AE (pre:=[]) Y call37 Y (Do (n:=2) (l:=[4,1,6,1]) m Y Y H H) Y Y Y Y<|λr5 O msA k e=>?_;obtain⟨u,rfl,P⟩:=e;have f:=N l9 u;refine Qa<|Qo 3 Y<|AE (pre:=[]) Y call16 Y (XM (v.up f) K P) Y Y Y Y<|λw0 x i y e=>?_;obtain⟨b,rfl,rfl⟩:=e;have A:=N f b;unfold anZ;refine Qa<|A7 4 15 V Y (by assumption) Y (Ap Y Y)<|A7 5 20 V Y (by assumption) Y (Bo Y Y Y)<|A7 6 21 V Y (by assumption) Y (Bo Y Y Y) ?_
  rotate_left
  exact AN;refine Al Y ?_ ?_;refine BJ [.bool false,.nl,.nl,.bool false,.es] Y GH Y Y<|λg5=>Qw<|Qo 1 Y<|AX [(0,_),(1,_),(2,_),(3,_)] [.w 0,.w 0,.w 0,.w 0] [_,_,_,_] Y Bb By Y Z V Qt Y Y Y Y<|λg17=>Bm λh9 l9 m=>Qa<|Qo 2 Y<|AE (pre:=[]) Y call37 Y (Do (n:=2) (l:=[4,1,6,1]) m Y Y H H) Y Y Y Y<|λr5 O msA k e=>?_;obtain⟨u,rfl,P⟩:=e;have f:=N l9 u;refine Qa<|Qo 3 Y<|AE (pre:=[]) Y call16 Y (XM (v.up f) K P) Y Y Y Y<|λw0 x i y e=>?_;obtain⟨b,rfl,rfl⟩:=e;have A:=N f b;unfold anZ;refine Qa<|A7 4 15 V Y (by assumption) Y (Ap Y Y)<|A7 5 20 V Y (by assumption) Y (Bo Y Y Y)<|A7 6 21 V Y (by assumption) Y (Bo Y Y Y) ?_
  rotate_left
  exact AN
  all_goals
   refine Qo 8 Y ?_;refine Sa 0 [_,_,_,_,_] GH Y (by simp[o1,o2,o3,AA]) ?_;refine Qa<|Qo 9 Y<|G Y<|Qa<|Qe<|AU<|AI _ ⟨Y,A,Y⟩ Qs
 .obtain⟨rfl,c,rfl⟩:=hI;have d:=Hp.le_refl h;have t:=c;refine X<|AS (n:=37) (bs:=[W,lw,lw,lw,lw,lw,lw,lw,lw,lw,lw,lw,lw,lw,lw,lw,lw,lw,lw,lw,lw,lw,lw,lw,lw,lw,lw,lw,lw,lw,lw,lw,lw,lw,lw,lw,lw]) [true] Cx V V Y Y<|Qp Y (oG Y CV Bd<|G1 _ t _)<|AO [1,3] V Y<|Al Y ?_ ?_;refine AX [(0,_),(1,_)] [.w 0,.w 0] [_,_] Y Bb By Y Z V Qt Y Y Y Y<|λg23=>Bm λO k Q=>?_;have c:=N c k;have d:=N d k;refine Qa<|AO [2,3] V Y<|Al Y ?_ ?_;refine AE (pre:=[]) Y call37 Y (Do (n:=1) (l:=[1,1]) Q Y Y H H) Y Y Y Y<|λp1 x i y e=>?_;obtain⟨b,rfl,L⟩:=e;have c:=N c b;have d:=N d b;refine Qa<|Qo 3 Y<|AX [(0,_),(1,_)] [.w 0,.w 0] [_,_] Y Bb By Y Z V Qt Y Y Y Y<|λS=>Bm λhC g z=>?_;have c:=N c g;have d:=N d g;have L:=L.up g;refine Qa ?_
  rotate_left
  refine Al Y ?_ ?_;refine AX [(0,_),(1,_)] [.w 0,.w 0] [_,_] Y Bb By Y Z V Qt Y Y Y Y<|λS=>Bm λhC g z=>?_;have c:=N c g;have d:=N d g;have Q:=Q.le g;refine Qa<|Qo 2 Y<|AE (pre:=[]) Y call37 Y (Do (n:=1) (l:=[1,1]) Q Y Y H H) Y Y Y Y<|λp1 x i y e=>?_;obtain⟨b,rfl,L⟩:=e;have c:=N c b;have d:=N d b;have z:=z.le b;refine Qa ?_
  rotate_left
  exact AN;refine Al Y ?_ ?_;refine AX [(0,_),(1,_)] [.w 0,.w 0] [_,_] Y Bb By Y Z V Qt Y Y Y Y<|λS=>Bm λhC g z=>?_;have c:=N c g;have d:=N d g;refine Qa<|Qo 1 Y<|AX [(0,_),(1,_)] [.w 0,.w 0] [_,_] Y Bb By Y Z V Qt Y Y Y Y<|λg23=>Bm λO k Q=>?_;have c:=N c k;have d:=N d k;have z:=z.le k;refine Qa<|Qo 2 Y<|AE (pre:=[]) Y call37 Y (Do (n:=1) (l:=[1,1]) Q Y Y H H) Y Y Y Y<|λp1 x i y e=>?_;obtain⟨b,rfl,L⟩:=e;have c:=N c b;have d:=N d b;have z:=z.le b;refine Qa ?_
  rotate_left
  exact AN
  all_goals
   refine Qo 4 Y<|AE (pre:=[]) Y call37 Y (Do (n:=1) (l:=[3,1]) z Y Y H H) Y Y Y Y<|λp2 hD msD lD e=>?_;obtain⟨l,rfl,P2⟩:=e;have c:=N c l;have d:=N d l;have L:=L.up l;refine Qa<|Qo 5 Y<|E (As Y call36 Y<|Aie (v.up c) K L P2 _) Y<|Qa<|A7 6 28 V Y (by assumption) Y (Ap Y Y)<|Bc 7 29 V Y Y Y Y Y (by assumption) Y (oG Y CV Bd<|G1 _ t _)<|Bc 8 30 V Y Y Y Y Y (by assumption) Y (Ap Y Y)<|Qo 9 Y<|Qg (As Y call36 Y<|AhG (v.up c) K (B.up c) _) Y<|Qa<|Qo 10 Y<|G Y<|Qa<|A7 11 33 V Y (by assumption) Y (Ap Y Y)<|Bc 12 34 V Y Y Y Y Y (by assumption) Y (oG Y CV Bd<|G2 _ t _)<|Bc 13 35 V Y Y Y Y Y (by assumption) Y (Ap Y Y)<|Qo 14 Y<|Qg (As Y call36 Y<|Ahx (R2.up c) E2 (B.up c) _) Y<|Qa<|Qo 15 Y<|G Y<|Qa<|A7 16 38 V Y (by assumption) Y (Ap Y Y)<|Bc 17 39 V Y Y Y Y Y (by assumption) Y (Ap Y Y)<|Bc 18 40 V Y Y Y Y Y (by assumption) Y (CP (Cq Y Y Y)<|bh Value.bool<|bp Y)<|Qo 19 Y<|G Y<|Qa<|A7 20 42 V Y (by assumption) Y (Ap Y Y)<|Bc 21 43 V Y Y Y Y Y (by assumption) Y (oG Y CV Bd<|G4 _ t _)<|AO [22,24] V Y ?_;refine Al Y ?_ ?_;refine Dz Y Y Y Y<|AX [(0,_),(1,_)] [.w 0,.w 0] [_,_] Y Bb By Y Z V Qt Y Y Y Y<|λg44=>Bm λO k n=>?_;have c:=N c k;have d:=N d k;refine Qa<|AO [23,24] V Y<|Al Y ?_ ?_;refine Dz Y Y Y Y<|AE (pre:=[]) Y call37 Y (Do (n:=1) (l:=[1,1]) n Y Y H H) Y Y Y Y<|λp1 x i y e=>?_;obtain⟨b,rfl,M⟩:=e;have c:=N c b;have d:=N d b;refine Qa<|Qo 24 Y<|Dz Y Y Y Y<|AX [(0,_),(1,_)] [.w 0,.w 0] [_,_] Y Bb By Y Z V Qt Y Y Y Y<|λT=>Bm λhC g j=>?_;have c:=N c g;have d:=N d g;have M:=M.up g;refine Qa ?_
   rotate_left
   refine Al Y ?_ ?_;refine Dz Y Y Y Y<|AX [(0,_),(1,_)] [.w 0,.w 0] [_,_] Y Bb By Y Z V Qt Y Y Y Y<|λT=>Bm λhC g j=>?_;have c:=N c g;have d:=N d g;have n:=n.le g;refine Qa<|Qo 23 Y<|Dz Y Y Y Y<|AE (pre:=[]) Y call37 Y (Do (n:=1) (l:=[1,1]) n Y Y H H) Y Y Y Y<|λp1 x i y e=>?_;obtain⟨b,rfl,M⟩:=e;have c:=N c b;have d:=N d b;have j:=j.le b;refine Qa ?_
   rotate_left
   exact AN;refine Al Y ?_ ?_;refine Dz Y Y Y Y<|AX [(0,_),(1,_)] [.w 0,.w 0] [_,_] Y Bb By Y Z V Qt Y Y Y Y<|λT=>Bm λhC g j=>?_;have c:=N c g;have d:=N d g;refine Qa<|Qo 22 Y<|Dz Y Y Y Y<|AX [(0,_),(1,_)] [.w 0,.w 0] [_,_] Y Bb By Y Z V Qt Y Y Y Y<|λg44=>Bm λO k n=>?_;have c:=N c k;have d:=N d k;have j:=j.le k;refine Qa<|Qo 23 Y<|Dz Y Y Y Y<|AE (pre:=[]) Y call37 Y (Do (n:=1) (l:=[1,1]) n Y Y H H) Y Y Y Y<|λp1 x i y e=>?_;obtain⟨b,rfl,M⟩:=e;have c:=N c b;have d:=N d b;have j:=j.le b;refine Qa ?_
   rotate_left
   exact AN
   all_goals
    refine Qo 25 Y<|Dz Y Y Y Y<|AE (pre:=[]) Y call37 Y (Do (n:=1) (l:=[2,1]) j Y Y H H) Y Y Y Y<|λp2 hD msD lD e=>?_;obtain⟨l,rfl,P4⟩:=e;have c:=N c l;have d:=N d l;have M:=M.up l;refine Qa<|Qo 26 Y<|Qg (As Y call36 Y<|Aih (R4.up c) Y M P4 _) Y<|Qa<|Qo 27 Y<|G Y<|Qa<|A7 28 50 V Y (by assumption) Y (Ap Y Y)<|Bc 29 51 V Y Y Y Y Y (by assumption) Y (oG Y CV Bd<|G1 _ t _)<|Bc 30 52 V Y Y Y Y Y (by assumption) Y (Ap Y Y)<|Qo 31 Y<|Dz Y Y Y Y<|AX [(0,_),(1,_)] [.w 0,.w 0] [_,_] Y Bb By Y Z V Qt Y Y Y Y<|λg53=>Bm λO k S31=>?_;have c:=N c k;have d:=N d k;refine Qa<|Qo 32 Y<|Dz Y Y Y Y<|AE (pre:=[]) Y call37 Y (Do (n:=1) (l:=[4,1]) S31 Y Y H H) Y Y Y Y<|λp5 x i y e=>?_;obtain⟨b,rfl,P5⟩:=e;obtain⟨pa,pc,rfl,_⟩:=P5.rd.ex;have c:=N c b;have d:=N d b;refine Qa<|Bc 33 55 V Y Y Y Y Y (by assumption) Y (AQ Afw [.bool false,.nl,.nl,.bool false,.es] [(2,_)] [_,_,_,_,_] Y GH Y Y Qt Y)<|Qo 34 Y<|Qg (As Y call19 Y<|Aiw (v.up c) K (B.up c) P5 _) Y<|Qa<|Qo 35 Y<|G Y<|Qa<|Qo 36 Y<|G Y<|Qa<|Qe<|Ab<|Aj ?_;exact Ar Y Y Y
theorem Hm:∀(l a s:List Int),Ew a l=some s->s.length<=a.length+l.length
 | [],a,s,e=>by have:a=s:=ay e;rw[<-this];exact i9 _ _
 | x::l,a,s,e=>by
  unfold Ew at e;split at e
  .have:=Hm l a s e;rw[de];omega
  .split at e
   .cases e
   .have:=Hm l _ s e;rw[Vk]at this;rw[de];omega
theorem OC:∀(b a all:List (List Int)),(∀l∈b,l.length<=4)->Cd a b=some all->all.length<=a.length+15*b.length
 | [],a,all,h,e=>by have:a=all:=ay e;rw[<-this];exact i9 _ _
 | l::b,a,all,h,e=>by
  rw[DF]at e;split at e
  .cases e
  .have f:=OC b _ all (λx d=>h x (am _ d)) e
   have g:(Wv a (Ew [] l)).length<=a.length+15:=by
    cases hs:Ew [] l with
    | none=>exact i9 _ _
    | some s=>
     have c:=Hm l [] s hs;have i:=h l Mh;have j:=HZ a s (2^s.length-1);have k:2^s.length<=16:=dn (n:=2) (i:=s.length) (j:=4) H (by simp at c;omega);show(C3 a s (2^s.length-1)).length<=_;omega
   rw[de];omega
theorem Ac5{a:List (List Int)}(h:∀l∈a,l.length<=4):(BU a).length<=15*a.length:=by
 unfold BU;cases e:Cd [] a with
 | none=>simp
 | some all=>have:=OC a [] all h e;simpa using this
theorem Abe{all:List (List Int)}{s t:List Int}(h:t∈Ir all s):t=s\/t∈all:=by
 unfold Ir at h;split at h
 .exact .inr h
 .rcases bi.1 h with h|h
  .exact .inr<|ge h
  .rcases be.1 h with h|h
   .exact .inl h
   .exact .inr<|jd h
theorem Qy{all:List (List Int)}{s:List Int}(h:∀t∈all,t.length<=4)(c:s.length<=4):∀b,∀t∈C3 all s b,t.length<=4
 | 0,t,a=>h t a
 | b+1,t,a=>by
  rcases Abe a with rfl|a
  .unfold E4;rw[bb];exact bl (fj _ _) (by rw[ik];exact c)
  .exact Qy h c b t a
theorem Oe:∀(b a all:List (List Int)),(∀l∈b,l.length<=4)->(∀l∈a,l.length<=4)->Cd a b=some all->∀l∈all,l.length<=4
 | [],a,all,h,ha,e=>by have:a=all:=ay e;rw[<-this];exact ha
 | l::b,a,all,h,ha,e=>by
  rw[DF]at e;split at e
  .cases e
  .refine Oe b _ all (λx c=>h x<|am _ c) ?_ e;cases hs:Ew [] l with
   | none=>exact ha
   | some s=>exact Qy ha (by have:=Hm l [] s hs;have:=h l Mh;simp at *;omega) _
def UQ(x:Int):Nat->List Int
 | 0=>[]
 | j+1=>if(UQ x j).length<4/\Aht (x.fdiv (2^j)) 1=1 then UQ x j++[(j:Int)] else UQ x j
theorem Uy{x:Int}{j:Nat}(h:¬(UQ x j).length<4):∀k,UQ x (j+k)=UQ x j
 | 0=>rfl
 | k+1=>by show(if(UQ x (j+k)).length<4/\_ then _ else UQ x (j+k))=_;have a:=Uy h k;rw[af (λq=>h (by rw[<-a];exact q.1)),a]
def W5(l:List Int):List (List Int):=(l.take 12).map λx=>UQ x 6
theorem ML(x:Int):∀j,(UQ x j).length<=4
 | 0=>fm _
 | j+1=>by
  unfold UQ;split
  .rename_i h;rw[ag,ae];omega
  .exact ML x j
theorem UF(l:List Int):(W5 l).length<=12:=by unfold W5;rw[bb,bf];omega
theorem W3(l:List Int):∀s∈W5 l,s.length<=4:=λs a=>by obtain⟨x,_,rfl⟩:=ai.1 a;exact ML x 6
def pcB(b n:Nat):Nat:=((range n).filter λk=>b.testBit k).length
theorem Zg(s:List Int)(b n:Nat):(E4 s b n).length=pcB b n:=by unfold E4 pcB;rw[bb]
theorem Adj(k:Nat)(all:List (List Int))(s:List Int):(Ir all s).countP (λt=>decide (t.length=k))<=all.countP (λt=>decide (t.length=k))+if s.length=k then 1 else 0:=by
 unfold Ir;split
 .exact i9 _ _
 .rw[List.countP_append,kd];have a:all.countP (fun t=>decide (t.length=k))=(all.take (EI all s)).countP (fun t=>decide (t.length=k))+(all.drop (EI all s)).countP (fun t=>decide (t.length=k)):=by rw[<-List.countP_append,List.take_append_drop]
  simp only[io];omega
theorem Od(k:Nat)(all:List (List Int))(s:List Int):∀b,(C3 all s b).countP (λt=>decide (t.length=k))<=all.countP (λt=>decide (t.length=k))+(range b).countP λc=>decide (pcB (c+1) s.length=k)
 | 0=>i9 _ _
 | b+1=>by have a:=Od k all s b;have h:=Adj k (C3 all s b) (E4 s (b+1) s.length);rw[Zg]at h;show(Ir (C3 all s b) (E4 s (b+1) s.length)).countP _<=_;rw[kp,List.countP_append,kd,List.countP_nil];simp only[io];omega
theorem Agl:∀n,n<=4->∀k,((range (2^n-1)).countP λc=>decide (pcB (c+1) n=k))<=6:=λn e k=>by
 by_cases d:k<=4
 .have a:∀n:Fin 5,∀k:Fin 5,((range (2^n.val-1)).countP λc=>decide (pcB (c+1) n.val=k.val))<=6:=by decide
  exact a ⟨n,Z⟩ ⟨k,Z⟩
 .have b:((range (2^n-1)).countP λc=>decide (pcB (c+1) n=k))=0:=by
   rw[List.countP_eq_zero];intro c _;have:pcB (c+1) n<=n:=by unfold pcB;exact bl (fj _ _) (by rw[ik];exact ak _)
   simp only[io];omega
  omega
theorem L3(k:Nat):∀(b a all:List (List Int)),(∀l∈b,l.length<=4)->Cd a b=some all->all.countP (λt=>decide (t.length=k))<=a.countP (λt=>decide (t.length=k))+6*b.length
 | [],a,all,h,e=>by have:a=all:=ay e;rw[<-this];exact i9 _ _
 | l::b,a,all,h,e=>by
  rw[DF]at e;split at e
  .cases e
  .have f:=L3 k b _ all (λx d=>h x (am _ d)) e
   have g:(Wv a (Ew [] l)).countP (λt=>decide (t.length=k))<=a.countP (λt=>decide (t.length=k))+6:=by
    cases hs:Ew [] l with
    | none=>exact i9 _ _
    | some s=>
     have c:=Hm l [] s hs;have i:=h l Mh;have j:=Od k a s (2^s.length-1);have m:=Agl s.length (by simp at c;omega) k;show(C3 a s (2^s.length-1)).countP _<=_;omega
   rw[de];omega
theorem ZZ{a:List (List Int)}(h:∀l∈a,l.length<=4)(n:Int):(AZ (ordF (BU a)) n).length<=6*a.length:=by
 have f:(AZ (ordF (BU a)) n).length=(BU a).countP λc=>decide (c.dim=n):=by unfold AZ;rw[bb,<-List.countP_eq_length_filter,(Ed (BU a).length (BU a) (ak _)).countP_eq,List.countP_map];rfl
 rw[f];unfold BU;cases e:Cd [] a with
 | none=>exact fm _
 | some all=>
  have b:=L3 (n+1).toNat a [] all h e;rw[List.countP_nil,ig]at b;refine bl ?_ b;show((range all.length).map (Ev all)).countP (λc=>decide (c.dim=n))<=_;rw[List.countP_map]
  have g:all.countP (λt=>decide (t.length=(n+1).toNat))=(range all.length).countP ((λt=>decide (t.length=(n+1).toNat))∘λi=>all.getD i []):=by rw[<-List.countP_map];congr 1;refine gg σ λi b j=>?_;simp[List.getD,b]
  rw[g];refine List.countP_mono_left λi k d=>?_;have d:((all.getD i []).length:Int)-1=n:=dd d;show decide ((all.getD i []).length=(n+1).toNat)=true;exact bp Z
theorem Ae4{v:Value}{h:Hp}{l:List Ce}{L:List Int}(d:RdC h v l)(e:l.map Ce.c=BU (W5 L)):QsOk v h l/\l.length<=180:=by
 have b:l.length<=180:=by have a:=Ac5 (W3 L);have c:=UF L;rw[<-e,bb]at a;omega
 refine⟨QsOk.of d e Z λn=>?_,b⟩;have a:=ZZ (W3 L) n;have c:=UF L;unfold cn;rw[e];omega
theorem Rh(l:List Int)(v:Value)(hp:Hp)(T:RdL cI 1 hp [] v l):FnT prog 13 #[v] hp [] (λr y b=>hp.le y/\Aiu y r b (λo=>o=BU (W5 l))):=by
 have ov:=T.rd.one;refine Au func13 ntmps13 Y Y<|λ_ _=>U<|BJ [.nl] Y Bd Y Y<|λS=>BF<|J Y<|X<|U<|J Y<|Ag<|BW ?_
 refine AC (λq Q y b=>∃(i:Nat) (R:Value) (m3:Hp) (es:List Value) (M:List (List Int)),q=12-i/\Q=[(0,v),(2,.pt S),(3,R),(4,.w i)]/\hp.le y/\b=[m3,BE S 27 [.nl]]/\i<=12/\i<=l.length/\OwnL cW 1 22 m3 R es/\RdEs y es M/\M=(l.take i).map λx=>UQ x 6)
  (12-0) _ ⟨0,_,Hp.emp,[],[],rfl,rfl,Bk,rfl,Z,Z,OwnL.nil OD,RdEs.nil _,rfl⟩ Qs ?_
 rintro q Q y b ⟨i,R,m3,es,M,rfl,rfl,lh,rfl,hi,hil,hO,K,n⟩;have h4:∀s∈M,s.length<=4:=λs z=>by rw[n]at z;obtain⟨x,_,rfl⟩:=ai.1 z;exact ML x 6
 have hlen:M.length=i:=by rw[n,bb,bf];omega
 have T:=T.up lh;have hel:=K.1;have ov3:=hO.o1;refine X<|U<|D Y Y<|E (Aw T.rd.any Y Bb Y) Y<|D Y Y<|AY (t:=11) Y (λh1=>?_)<|λh1=>?_
 .refine Qg (Ap Y Y) Y<|Qg (Dw Y Y Y) Y<|J Y<|Ay Y (λh2=>?_)<|λh2=>?_
  .have hin:i<l.length:=Z
   obtain⟨x,hx⟩:∃x,l[i]=x:=⟨_,Y⟩
   have cx:∀ms,Cell y ms ((AJ v).add (i*1)) (.w x):=λms=>by rw[<-hx];exact(T.any (ms:=ms)).cell0 hin Y
   refine I<|X<|Ag<|U<|J Y<|BW<|Bu (λQ B b=>∃(t:Value) (p:Hp) (s:List Int),Q=[(0,v),(2,.pt S),(3,R),(4,.w i),(5,t)]/\y=B/\b=[p,m3,BE S 27 [.nl]]/\OwnL cI 1 3 p t s/\s=UQ x 6) ?_<|λs h ms hI=>?_
   .refine X<|Ad<|J Y<|Ag ?_
    refine AC (λq Q B b=>∃(j:Nat) (t:Value) (p:Hp) (s:List Int),q=6-j/\Q=[(0,v),(2,.pt S),(3,R),(4,.w i),(5,t),(6,.w j)]/\y=B/\b=[p,m3,BE S 27 [.nl]]/\j<=6/\OwnL cI 1 3 p t s/\s=UQ x j)
     (6-0) _ ⟨0,_,Hp.emp,[],rfl,rfl,rfl,rfl,Z,OwnL.nil Bf,rfl⟩ Qs ?_
    rintro q Q B b ⟨j,t,p,s,rfl,rfl,rfl,rfl,hj,c,a⟩;have hs4:s.length<=4:=a ▸ ML x j;have ov5:=c.o1;refine X<|U<|D Y Y<|G Y<|AY (t:=19) Y (λhj1=>?_)<|λhj1=>?_
    .refine Qg (Ap Y Y) Y<|Qg (Ky (c.rd (h:=y) (ms:=[p]) Mh).rd Y Bb Y) Y<|Qg (Dw Y Y Y) Y<|J Y<|Ay Y (λhj2=>?_)<|λhj2=>?_
     .refine I<|X<|Ag<|U<|D Y Y<|E (BP (i) T.rd.any Y Bb By Y Y) Y<|Ql Y U3 (cx _)<|G Y<|E (X4 (n:=j) Y Y Y Z) Y<|E (YT Y Y Y) Y<|J Y<|Ay Y (λg=>?_)<|λg=>?_
      .refine Ad<|D Y Y<|AB [_] Y Bb By Y ξ Y Y Z Y Y Y<|λg36=>AL 1 c (RdL.one Bf (x:=(j:Int)) Mh Y) Y Bb By Y Z Y Y Y BY (by(try simp only[ae]);omega) (by(try simp only[ae]);omega) rfl rfl rfl<|λv9 m9 d=>?_;have ov9:=d.o1;refine G Y<|Am<|D2<|Ad<|G Y<|E (oA Y) Y<|G Y<|Am<|AU ?_;exact Aq (6-(j+1)) _ Z ⟨j+1,v9,m9,_,Y,Y,Y,Y,Z,d,by rw[a];exact(ah ⟨by rw[<-a];omega,g⟩).symm⟩ Qs
      .refine Ah<|D2<|Ad<|G Y<|E (oA Y) Y<|G Y<|Am ?_;exact Aq (6-(j+1)) _ Z ⟨j+1,t,p,s,Y,Y,Y,Y,Z,c,by rw[a];exact(af (λq=>g q.2)).symm⟩ Qs
     .refine C ?_;exact AI _ ⟨t,p,s,Y,Y,Y,c,by rw[a];have:=Uy (x:=x) (j:=j) (by rw[<-a];omega) (6-j);rw[show j+(6-j)=6 by omega]at this;exact this.symm⟩ Qs
    .refine DM Y Y<|Qk Y<|J Y<|AM Y<|C ?_;exact AI _ ⟨t,p,s,Y,Y,Y,c,by rw[a];exact bh (UQ x) Z⟩ Qs
   .obtain⟨t,p,s,rfl,rfl,rfl,c,a⟩:=hI;refine CT λh6 L k6=>?_;have hS:=c.rdh (ms:=[]) k6;have oS_:=hS.rd.one;refine Ad<|D Y Y<|AB [_] Y Ks Fv Y ((RdL.rd ‹_›).cells) Y Y Z Y Y Y<|λg40=>?_;refine Cz 1 hO (RdL.one OD (x:=t) Mh Y) Y Ks Fv Y Z Y Y Y (RR λu hu=>by rw[bj.1 hu];exact oS_) (by(try simp only[ae]);omega) (by(try simp only[ae]);omega) rfl rfl rfl<|λv9 m9 d=>?_;have ov9:=d.o1;refine G Y<|Am<|D2<|Ad<|G Y<|E (oA Y) Y<|G Y<|Am<|AU ?_;exact Aq (12-(i+1)) _ Z ⟨i+1,v9,m9,_,M++[s],Y,Y,N lh L,Y,Z,Z,d,(K.up L).snoc hS,by rw[n,a,ap hin,cz,hx];rfl⟩ Qs
  .have k:l.take i=l.take 12:=by rcases (Z:i=12\/(l.length<=i/\l.length<=12)) with e|⟨e1,e2⟩;rw[e];rw[bm e1,bm e2]
   refine CT λh6 L k6=>?_;have hV:=hO.rdh (ms:=[]) k6;have K:=K.up L;refine C<|Ab<|U<|G Y ?_;refine Qc call40 Y (JU M es R h6 Z (λs z=>by have:=h4 s z;omega) hV K)<|λrC h7 ms7 l7 hF=>?_;obtain⟨O,m,A,vA,rfl,rfl,f,hA,z⟩:=hF;have P:=f.o1;refine Sa 1 [_] Bd Y (by simp[ov,ov3,P]) ?_;refine Ao<|Aj<|BC (vs:=[_]) 1 Y Y CV Y Bd Y Y (⟨N lh<|N L O,m,A,_,Y,Y,f,hA.trans<|bh BU (by rw[n,k];rfl),z⟩)
 .refine DM Y Y<|J Y<|AM Y<|C<|Ab ?_;have k:l.take i=l.take 12:=by rcases (Z:i=12\/(l.length<=i/\l.length<=12)) with e|⟨e1,e2⟩;rw[e];rw[bm e1,bm e2]
  refine CT λh6 L k6=>?_;have hV:=hO.rdh (ms:=[]) k6;have K:=K.up L;refine U<|G Y ?_;refine Qc call40 Y (JU M es R h6 Z (λs z=>by have:=h4 s z;omega) hV K)<|λrC h7 ms7 l7 hF=>?_;obtain⟨O,m,A,vA,rfl,rfl,f,hA,z⟩:=hF;have P:=f.o1;refine Sa 1 [_] Bd Y (by simp[ov,ov3,P]) ?_;refine Ao<|Aj<|BC (vs:=[_]) 1 Y Y CV Y Bd Y Y (⟨N lh<|N L O,m,A,_,Y,Y,f,hA.trans<|bh BU (by rw[n,k];rfl),z⟩)
theorem Ti(l:List Int)(v:Value)(c:Hp)(i:RdL cI 1 c [] v l):FnT prog 13 #[v] c [] (λr d b=>c.le d/\b=[]/\∃v A,r=.agg #[v]/\RdC d v A/\A.map Ce.c=BU (W5 l)):=
 FnT.frz (Rh l v c i) λr d b ⟨q,m,A,v,e,h,O,g,k⟩=>⟨m,[],e,λp f n=>⟨N q f,rfl,v,A,h,⟨O.rdh n,λa j=>(k a j).up f⟩,g⟩⟩
end
section
open Go.Eng Go.ChangeShapes Go.WideShapes Go.ChangeAt Go.RowKit Go.Deep
theorem own:ownKnob prog.godebug=none:=by kernel_rfl
theorem AgH{w a:World}(E:Ext w a):Below w.heap.size w a:=⟨E.os,E.tape.tape,E.output,E.size,E.block⟩
theorem Yd:laidOutB prog=true:=by kernel_rfl
section
variable {H:Type} {enc:TypeId×Value->H} {w:World} {base:Nat} {spare:Nat->Bool} {held:Bool}
theorem Y5(n:Nat)(cs:List Value)(y:DataW H×List MemPlace)(h:DataW.trod enc prog w base spare held n 3 cs=some y):∃a,cs=cI a/\Cb a:=by obtain⟨b,c,_,d⟩:=DataW.trod_int U3 h;exact⟨b,c,bounds_i64 d⟩
theorem Xw{v:Value}{fuel:Nat}{x:DataW H×List MemPlace}(h:DataW.trod enc prog w base spare held fuel 22 [v]=some x):∃l,RdL cI 1 (whole w) [] v l/\∀a∈l,Cb a:=
 Aa1 Bb V Bf δ Y5 h
end
end
end Go.Proofs.Q
namespace Go.Proofs.YtmgaeedkcecckaaGreatDoor
open Go Go.ChangeShapes Go.WideShapes Go.ChangeAt Go.RowKit Go.Proofs.Q
theorem AiN:(Rows.answerKeepsRow.inPlace==Tryz.prog.inPlace 11)=true:=by kernel_rfl
theorem AiR:(Rows.answerKeepsRow.unfollowed==Tryz.prog.unfollowed 11)=true:=by kernel_rfl
theorem AiT:(Rows.answerKeepsRow.recurses==Tryz.prog.recurses 11)=true:=by kernel_rfl
theorem AiO:(Rows.answerKeepsRow.named==Tryz.prog.varsNamed 11)=true:=by kernel_rfl
theorem AiQ:false=Tryz.prog.looks []:=by kernel_rfl
theorem keeps_g2:Tryz.prog.funcNamed "cocycle/cocyclelaw10.AnswerKeeps" = some 11:=by kernel_rfl
theorem AiS:false=Rows.answerKeepsRow.goesBy Tryz.prog:=by kernel_rfl
end Go.Proofs.YtmgaeedkcecckaaGreatDoor
namespace Go.Proofs.Q
open Go.Proofs.Tryz
open Go.Eng Go.RowKit
section
open Go.Lin Go.Wd Go.Sm Go.Ch Go.Pk
variable {t:List Int} {rs:List Nat}
theorem Nl:∀(l a s:List Int),Ew a l=some s->∀v∈s,v∈a\/v∈l
 | [],a,s,h,v,hv=>by obtain rfl:a=s:=ay h;exact .inl hv
 | x::l,a,s,h,v,hv=>by
  have h:(if N0 x a then Ew a l else if x<0\/9<(Kh x a).length then none else Ew (Kh x a) l)=some s:=h;split at h
  .exact(Nl l a s h v hv).imp id λq=>am _ q
  .split at h
   .cases h
   .rcases Nl l _ s h v hv with q|q
    .unfold Kh at q;rcases bi.1 q with q|q
     .exact .inl ((ku _).subset q)
     .rcases be.1 q with rfl|q
      .exact .inr ao
      .exact .inl ((List.dropWhile_sublist _).subset q)
    .exact .inr<|am _ q
theorem GX:∀(b a all:List (List Int)),AllS a->Cd a b=some all->∀t∈all,t∈a\/∃l∈b,∀v∈t,v∈l
 | [],a,all,h,e,t,ht=>by obtain rfl:a=all:=ay e;exact .inl ht
 | l::b,a,all,h,e,t,ht=>by
  rw[DF]at e;split at e
  .cases e
  .cases hs:Ew [] l with
   | none=>
    rw[hs]at e;exact(GX b a all h e t ht).imp id λ⟨g,d,f⟩=>⟨g,am _ d,f⟩
   | some s=>
    rw[hs]at e;rcases GX b _ all (h.faces (KH l [] s List.Pairwise.nil hs)) e t ht with q|⟨g,d,f⟩
    .rcases (N8 h.srt).1 q with q|⟨_,q⟩|⟨q,_⟩
     .exact .inl q
     .exact .inr ⟨l,ao,λv c=>(Nl l [] s hs v<|q.subset c).resolve_left σ⟩
     .exact .inr ⟨l,ao,λv c=>by rw[q]at c;cases c⟩
    .exact .inr ⟨g,am _ d,f⟩
def els:List (List Int):=[[0,1],[0,2],[0,3],[0,4],[0,5],[1,2],[1,3],[1,4],[1,5],[2,3],[2,4],[2,5],[3,4],[3,5],[4,5]]
def tls:List (List Int):=[[0,1,2],[0,1,3],[0,1,4],[0,1,5],[0,2,3],[0,2,4],[0,2,5],[0,3,4],[0,3,5],[0,4,5],[1,2,3],[1,2,4],[1,2,5],[1,3,4],[1,3,5],[1,4,5],[2,3,4],[2,3,5],[2,4,5],[3,4,5]]
theorem Ad3:∀u v:Fin 6,u<v->[(u.val:Int),(v.val:Int)]∈els:=by decide
theorem Aec:∀u v w:Fin 6,u<v->v<w->[(u.val:Int),(v.val:Int),(w.val:Int)]∈tls:=by decide
theorem Af7:∀a∈els,∀b∈els,Gm a b=true->els.idxOf a<els.idxOf b:=by decide
theorem Ahn:∀a∈tls,∀b∈tls,Gm a b=true->tls.idxOf a<tls.idxOf b:=by decide
theorem Xe(c:VR t)(h:∀v∈t,0<=v/\v<6)(d:t.length=2):t∈els:=by
 match t,d with
 | [u,v],_=>
  have a:=h u σ;have b:=h v σ;have e:u<v:=by have:=c;unfold VR at this;simpa using this
  have:=Ad3 ⟨u.toNat,Z⟩ ⟨v.toNat,Z⟩ (by show u.toNat<v.toNat;omega);simpa[fq a.1,fq b.1] using this
theorem YI(d:VR t)(h:∀v∈t,0<=v/\v<6)(e:t.length=3):t∈tls:=by
 match t,e with
 | [u,v,w],_=>
  have a:=h u σ;have b:=h v σ;have c:=h w σ;have f:(u<v/\u<w)/\v<w:=by have:=d;unfold VR at this;simpa using this
  have:=Aec ⟨u.toNat,Z⟩ ⟨v.toNat,Z⟩ ⟨w.toNat,Z⟩ (by show u.toNat<v.toNat;omega) (by show v.toNat<w.toNat;omega);simpa[fq a.1,fq b.1,fq c.1] using this
theorem QX(e:rs.Nodup):∀n,ED (λr=>decide (r∈rs)) n=rs.countP λr=>decide (r<n)
 | 0=>by show 0=_;exact(List.countP_eq_zero.2 λa _=>by simp).symm
 | n+1=>by
  show ED _ n+(if decide (n∈rs) then 1 else 0)=_;rw[QX e n]
  have b:∀l:List Nat,(l.countP λr=>decide (r<n+1))=(l.countP λr=>decide (r<n))+l.count n:=by
   intro l
   induction l with
   | nil=>rfl
   | cons x l ih=>
    rw[kd,kd,List.count_cons,ih];by_cases c:x<n
    .have:¬x=n:=Z
     simp[c,this,show x<n+1 by omega];omega
    .by_cases d:x=n
     .subst d;simp;omega
     .simp[c,d,show ¬x<n+1 by omega]
  rw[b,e.count];simp
theorem AgK(c:rs.Pairwise (· < ·)){a:Nat}(f:a<rs.length):ED (λr=>decide (r∈rs)) rs[a]=a:=by
 rw[QX (c.imp λh=>Nat.ne_of_lt h)];have e:(rs.countP fun r=>decide (r<rs[a]))=((rs.take a).countP fun r=>decide (r<rs[a]))+(rs.drop a).countP fun r=>decide (r<rs[a]):=by rw[<-List.countP_append,List.take_append_drop]
 have g:((rs.take a).countP λr=>decide (r<rs[a]))=a:=by rw[List.countP_eq_length.2 λx d=>?_,bf,gr Z];obtain⟨i,b,rfl⟩:=ee d;rw[bf]at b;rw[ka];exact bp<|bw.1 c i a Z f Z
 have j:((rs.drop a).countP λr=>decide (r<rs[a]))=0:=by
  refine List.countP_eq_zero.2 λx d=>?_;obtain⟨i,b,rfl⟩:=ee d;rw[br]at b;rw[kx];simp only[io];by_cases q:i=0
  .subst q;simp
  .have:=bw.1 c a (a+i) f Z Z;omega
 rw[e,g,j,gz]
theorem AeQ(a:rs.Pairwise (· < ·)){N:Nat}(h:∀r∈rs,r<N):ED (λr=>decide (r∈rs)) N=rs.length:=by rw[QX (a.imp λh=>Nat.ne_of_lt h)];exact List.countP_eq_length.2 λx b=>bp<|h x b
def spp(t:List Int):List (Nat×Bool):=[(els.idxOf (t.eraseIdx 2),true),(els.idxOf (t.eraseIdx 1),false),(els.idxOf (t.eraseIdx 0),true)]
theorem AdP:∀t∈tls,(cols (US 0 0)).filter (λc=>decide (tls.idxOf t=c.1))=[(tls.idxOf t,spp t)]:=by decide +kernel
theorem PN(F:Nat->Bool)(a j:Nat):∀P:List LQ,VA F P a j=((P.filter λc=>decide (j=c.1)).map λc=>cV F c.2 a).sum
 | []=>rfl
 | c::P=>by
  have b:=PN F a j P;unfold VA at b ⊢;rw[dh,fa,b];by_cases q:j=c.1
  .rw[ah q,jt (by simpa using q),dh,fa]
  .rw[af q,ju (by simpa using q)];omega
theorem AhI(F:Nat->Bool)(a:Nat)(b:t∈tls)(g f:Nat):VA F (cols (US g f)) a (tls.idxOf t)=cV F (spp t) a:=by rw[show cols (US g f)=cols (US 0 0) from Y,PN,AdP t b];simp
section
variable {all:List (List Int)} (A:AllS all) (B:∀t∈all,∀v∈t,0<=v/\v<6)
def Jd(all:List (List Int))(k:Nat):List (List Int):=all.filter λt=>decide (t.length=k)
theorem MP(all:List (List Int))(d:Nat):AZ (all.map (sc all)) d=(Jd all (d+1)).map (nI all):=by
 unfold AZ Jd;rw[List.filter_map,jb]
 have:((λc:Cl=>decide (c.dim=(d:Int)))∘sc all)=λt=>decide (t.length=d+1):=by funext t;show decide ((t.length:Int)-1=(d:Int))=_;exact fy.2 Z
 rw[this];rfl
include A B in
theorem YK(k:Nat)(L:List (List Int))(m:∀t,VR t->(∀v∈t,0<=v/\v<6)->t.length=k->t∈L)(f:∀a∈L,∀b∈L,Gm a b=true->L.idxOf a<L.idxOf b):(∀t∈Jd all k,t∈L)/\((Jd all k).map λt=>L.idxOf t).Pairwise (· < ·):=by
 have d:∀t∈Jd all k,t∈all/\t.length=k:=λt e=>by obtain⟨j,l⟩:=dp.1 e;exact⟨j,dd l⟩
 have c:∀t∈Jd all k,t∈L:=λt e=>m t (A.inc t (d t e).1) (B t (d t e).1) (d t e).2;refine⟨c,?_⟩;rw[pairwise_map];have n:(Jd all k).Pairwise λa b=>DP a b=true:=List.Pairwise.sublist List.filter_sublist A.srt;refine n.imp_of_mem λ{a b} g i h=>f a (c a g) b (c b i) ?_;unfold DP at h
 rwa [af (by rw[(d a g).2,(d b i).2];simp)]at h
include A B in
theorem Acz(hR:Rgt (all.map (sc all))):∃s',D8 (Jd all 2).length (Jd all 3).length (min (Jd all 2).length (Jd all 3).length) 0 (QD (Jd all 2).length (Jd all 3).length (HN (all.map (sc all)) 2))=some s':=by
 obtain⟨e1,Q⟩:=YK A B 2 els (λt=>Xe) Af7;obtain⟨t1,t2⟩:=YK A B 3 tls (λt=>YI) Ahn;obtain⟨rs,l⟩:∃rs,((Jd all 2).map λt=>els.idxOf t)=rs:=⟨_,Y⟩
 rw[l]at Q;have p:(Jd all 2).length=rs.length:=by rw[<-l,bb]
 have T:∀r∈rs,r<15:=λr hr=>by rw[<-l]at hr;obtain⟨t,ht,rfl⟩:=ai.1 hr;exact List.idxOf_lt_length_of_mem<|e1 t ht
 have M:ED (λr=>decide (r∈rs)) (14+1)=rs.length:=AeQ Q T;obtain⟨cs,u⟩:∃cs:Nat->Nat,∀j (P:j<(Jd all 3).length),cs j=tls.idxOf ((Jd all 3)[j]):=⟨λj=>tls.idxOf ((Jd all 3).getD j []),λj P=>by simp[List.getD,P]⟩
 have d:∀i j,i<j->j<(Jd all 3).length->cs i<cs j:=λi j h1 h2=>by rw[u i Z,u j h2];have:=bw.1 t2 i j (by simp;omega) (by simp;omega) h1;simpa using this
 have m:∀j,j<(Jd all 3).length->cs j<20:=λj P=>by rw[u j P];exact List.idxOf_lt_length_of_mem<|t1 _<|aq P
 -- the elements
 have O:∀g f a b,a<(Jd all 2).length->b<(Jd all 3).length->AP (QD (Jd all 2).length (Jd all 3).length (HN (all.map (sc all)) 2)).S.d a b=VA (λr=>decide (r∈rs)) (cols (US g f)) a (cs b):=λg f a b ha S=>by
  show AP (BN _ _ (HN (all.map (sc all)) 2)) a b=_;rw[HA,ah ⟨ha,S⟩,u b S,AhI _ _ (t1 _ (aq S))];have R:=aq ha;have htb:=aq S;obtain⟨c,y⟩:∃e,(Jd all 2)[a]=e:=⟨_,Y⟩
  obtain⟨t,hT⟩:∃t,(Jd all 3)[b]=t:=⟨_,Y⟩
  rw[y]at R;rw[hT]at htb ⊢;obtain⟨tA,tl⟩:=dp.1 htb;have tl:=dd tl
  have s:∀e,e∈Jd all 2->((a=ED (λr=>decide (r∈rs)) (els.idxOf e))<->c=e):=λe he=>by
   obtain⟨j,P,rfl⟩:=ee he;have z:j<rs.length:=Z
   have e5:els.idxOf (Jd all 2)[j]=rs[j]:=by simp[<-l]
   rw[e5,AgK Q z,<-y];refine⟨λq=>by subst q;rfl,λq=>?_⟩;have e6:rs[a]'Z=rs[j]:=by rw[<-e5,<-q];simp[<-l]
   rcases iz a j with q|q|q
   .have:=bw.1 Q a j Z z q;omega
   .exact q
   .have:=bw.1 Q j a z Z q;omega
  have n:∀k,k<3->t.eraseIdx k∈Jd all 2:=λk hk=>by
   have K:(t.eraseIdx k).length=2:=by rw[List.length_eraseIdx,ah Z];omega
   exact dp.2 ⟨A.sub t tA _ (λq=>by rw[q]at K;cases K)<|List.eraseIdx_sublist ..,bp K⟩
  have L:∀k,k<3->((nI all (t.eraseIdx k)=nI all c)<->c=t.eraseIdx k):=λk hk=>⟨λq=>(A.nI_inj (dp.1 (n k hk)).1 (dp.1 R).1 q).symm,λq=>by rw[q]⟩
  have hF:∀k,k<3->decide (els.idxOf (t.eraseIdx k)∈rs)=true:=λk hk=>bp (by rw[<-l];exact ai.2 ⟨_,n k hk,Y⟩)
  -- the boundary
  have hb1:HN (all.map (sc all)) 2 a b=(if c=t.eraseIdx 0 then 1 else 0)+((if c=t.eraseIdx 1 then -1 else 0)+((if c=t.eraseIdx 2 then 1 else 0)+0)):=by
   unfold HN;rw[show AZ (all.map (sc all)) 2=(Jd all 3).map (nI all) from MP all 2,show AZ (all.map (sc all)) (2-1)=(Jd all 2).map (nI all) from MP all 1];have g1:((Jd all 3).map (nI all)).getD b 0=nI all t:=by simp[List.getD,S,hT]
   have g2:((Jd all 2).map (nI all)).getD a 0=nI all c:=by simp[List.getD,ha,y]
   rw[g1,g2,show Hz (all.map (sc all)) (nI all t)=sc all t from EV hR.nd (y:=sc all t) (ai.2 ⟨t,tA,Y⟩)]
   have g3:(sc all t).sd=CS (Ht all t):=by show(if t.length<=1 then [] else CS (Ht all t))=_;rw[af Z]
   rw[g3];have g4:sgn (CS (Ht all t)) (nI all c)=sgn (Ht all t) (nI all c):=LH _ (Dl _);rw[g4];unfold Ht;rw[tl];show(if nI all (t.eraseIdx 0)=nI all c then sg 0 else 0)+((if nI all (t.eraseIdx 1)=nI all c then sg 1 else 0)+((if nI all (t.eraseIdx 2)=nI all c then sg 2 else 0)+0))=_;simp only[L 0 Z,L 1 Z,L 2 Z];rfl
  have hb2:cV (λr=>decide (r∈rs)) (spp t) a=(if c=t.eraseIdx 2 then 1 else 0)+((if c=t.eraseIdx 1 then -1 else 0)+((if c=t.eraseIdx 0 then 1 else 0)+0)):=by
   unfold cV spp
   have:([(els.idxOf (t.eraseIdx 2),true),(els.idxOf (t.eraseIdx 1),false),(els.idxOf (t.eraseIdx 0),true)]:List (Nat×Bool)).all (λx=>decide (x.1∈rs))=true:=by simp only[List.all_cons,List.all_nil,hF 0 Z,hF 1 Z,hF 2 Z];rfl
   rw[ah this];show(if a=ED _ (els.idxOf (t.eraseIdx 2)) then KV true else 0)+((if a=ED _ (els.idxOf (t.eraseIdx 1)) then KV false else 0)+((if a=ED _ (els.idxOf (t.eraseIdx 0)) then KV true else 0)+0))=_;simp only[s _ (n 0 Z),s _ (n 1 Z),s _ (n 2 Z)];rfl
  rw[hb1,hb2];omega
 have hA:∀F:Nat->Bool,Agr F 0 (US 0 2)\/Agr F 0 (US 1 1)\/Agr F 0 (US 2 1):=λF=>by
  have hz:∀i,((0:Nat)=1->F i=true)/\((0:Nat)=2->F i=false):=λi=>⟨λq=>Z,λq=>Z⟩
  cases h14:F 14 with
  | false=>exact .inl (by simp[US,Agr,h14])
  | true=>
   cases h13:F 13 with
   | true=>exact .inr<|.inl (by simp[US,Agr,h14,h13])
   | false=>exact .inr<|.inr (by simp[US,Agr,h14,h13])
 rcases hA λr=>decide (r∈rs) with h|h|h
 .exact Sf (N:=14) (NC:=20) H H rd2_ok.1 Abg _ h (by rw[M,p]) d m _ rfl (MZ _ _ _)<|O _ _
 .exact Sf (N:=14) (NC:=20) H H rd2_ok.2.1 Ab9 _ h (by rw[M,p]) d m _ rfl (MZ _ _ _)<|O _ _
 .exact Sf (N:=14) (NC:=20) H H rd2_ok.2.2 AcZ _ h (by rw[M,p]) d m _ rfl (MZ _ _ _)<|O _ _
end
theorem AaV{a:List (List Int)}(b:∀l∈a,∀v∈l,0<=v/\v<6):∃m,D8 (AZ (BU a) 1).length (AZ (BU a) 2).length (min (AZ (BU a) 1).length (AZ (BU a) 2).length) 0 (QD (AZ (BU a) 1).length (AZ (BU a) 2).length (HN (BU a) 2))=some m:=by
 have c:=OE a;cases h:Cd [] a with
 | none=>
  have e:BU a=[]:=by unfold BU;rw[h]
  rw[e];exact⟨_,Y⟩
 | some all=>
  have A:=Hv a [] all AllS.nil h;have e:BU a=all.map (sc all):=by unfold BU;rw[h];exact HQ A
  have B:∀t∈all,∀v∈t,0<=v/\v<6:=λt j v k=>by
   rcases GX a [] all AllS.nil h t j with q|⟨l,g,i⟩
   .cases q
   .exact b l g v<|i v k
  rw[e]at c ⊢;have d:AZ (all.map (sc all)) 1=(Jd all 2).map (nI all):=MP all 1;have f:AZ (all.map (sc all)) 2=(Jd all 3).map (nI all):=MP all 2;rw[d,f,bb,bb];exact Acz A B c
end
section
variable {M:List Bool} {o:List Cl} {c0 x:Int} {Q:List Int} {k:Nat}
def sdI(o:List Cl)(c:Int):List Int:=(Hz o c).sd.map Prod.fst
theorem AfH(g n:Nat)(a:n<=9223372036854775807):OwnL cB 1 4 (BE g 4 (replicate n (Value.bool false))) (.slice (some ⟨g,0,none⟩) n n) (replicate n false):=
 ⟨⟨by rw[<-VT];simp,.inr ⟨g,n,[],by simp,by rw[<-VT];simp,by rw[<-VT];simp,by simp,a⟩⟩,Ag9⟩
def MkC(o:List Cl)(M:List Bool)(x:Int):Prop:=∃k,k<o.length/\(o.getD k default).id=x/\M.getD k false=true
structure ReI(o:List Cl)(c0:Int)(M:List Bool)(Q:List Int):Prop where
 len:M.length=o.length
 rM:∀x,MkC o M x->Rch (sdI o) c0 x
 rQ:∀x∈Q,Rch (sdI o) c0 x
 st:c0∈Q\/MkC o M c0
 cl:∀x,MkC o M x->∀s∈sdI o x,s∈Q\/MkC o M s
theorem ReI.start(o:List Cl)(c0:Int):ReI o c0 (replicate o.length false) [c0]:=by
 have a:∀x,¬MkC o (replicate o.length false) x:=λx ⟨k,b,_,h⟩=>by simp[List.getD,b]at h
 exact⟨by simp,λx h=>lj h (a x),λx h=>by rw[bj.1 h];exact .refl _,.inl (bj.2 Y),λx h=>lj h (a x)⟩
theorem ReI.mem(R:Rgt o)(b:c0∈o.map Cl.id)(I:ReI o c0 M Q)(h:Rch (sdI o) c0 x):∃y∈o,y.id=x:=by
 have:x∈o.map Cl.id:=by
  induction h with
  | refl=>exact b
  | step h hk ih=>
   obtain⟨z,a,rfl⟩:=ai.1 ih;unfold sdI at hk;rw[EV R.nd a]at hk;obtain⟨s,c,rfl⟩:=ai.1 hk;obtain⟨w,d,e,_⟩:=R.sid z a s c;exact ai.2 ⟨w,d,e⟩
 obtain⟨y,f,e⟩:=ai.1 this;exact⟨y,f,e⟩
theorem ReI.skip(I:ReI o c0 M (x::Q))(b:MkC o M x):ReI o c0 M Q:=by
 refine⟨I.len,I.rM,λy a=>I.rQ y (am _ a),?_,λy a s c=>?_⟩
 .rcases I.st with h|h
  .rcases be.1 h with rfl|h
   .exact .inr b
   .exact .inl h
  .exact .inr h
 .rcases I.cl y a s c with h|h
  .rcases be.1 h with rfl|h
   .exact .inr b
   .exact .inl h
  .exact .inr h
theorem MkC.set(d:k<M.length):MkC o (M.set k true) x<->MkC o M x\/(k<o.length/\(o.getD k default).id=x):=by
 constructor
 .rintro⟨q,a,b,c⟩;by_cases e:k=q
  .subst e;exact .inr ⟨a,b⟩
  .refine .inl ⟨q,a,b,?_⟩
   rwa [show(M.set k true).getD q false=M.getD q false by simp[List.getD,List.getElem?_set_ne e]]at c
 .rintro(⟨q,a,b,c⟩|⟨a,b⟩)
  .refine⟨q,a,b,?_⟩;by_cases e:k=q
   .subst e;simp[List.getD,d]
   .rw[show(M.set k true).getD q false=M.getD q false by simp[List.getD,List.getElem?_set_ne e]];exact c
  .exact⟨k,a,b,by simp[List.getD,d]⟩
theorem ReI.mark(R:Rgt o)(I:ReI o c0 M (x::Q))(g:k<o.length)(e:(o.getD k default).id=x):ReI o c0 (M.set k true) (Q++(o.getD k default).sd.map Prod.fst):=by
 have a:k<M.length:=by rw[I.len];exact g
 have i:sdI o x=(o.getD k default).sd.map Prod.fst:=by unfold sdI;rw[<-e,EV R.nd (Zn g)]
 have d:=I.rQ x Mh;refine⟨by rw[fh];exact I.len,λy f=>?_,λy f=>?_,?_,λy f s b=>?_⟩
 .rcases (MkC.set a).1 f with h|⟨_,h⟩
  .exact I.rM y h
  .rw[<-h,e];exact d
 .rcases bi.1 f with h|h
  .exact I.rQ y<|am _ h
  .exact .step d (by rw[i];exact h)
 .rcases I.st with h|h
  .rcases be.1 h with rfl|h
   .exact .inr ((MkC.set a).2<|.inr ⟨g,e⟩)
   .exact .inl<|bi.2<|.inl h
  .exact .inr ((MkC.set a).2<|.inl h)
 .rcases (MkC.set a).1 f with h|⟨_,h⟩
  .rcases I.cl y h s b with c|c
   .rcases be.1 c with rfl|c
    .exact .inr ((MkC.set a).2<|.inr ⟨g,e⟩)
    .exact .inl<|bi.2<|.inl c
   .exact .inr ((MkC.set a).2<|.inl c)
  .rw[<-h,e,i]at b;exact .inl<|bi.2<|.inr b
theorem ReI.all(R:Rgt o)(I:ReI o c0 M [])(b:k<o.length):M.getD k false=true<->Rch (sdI o) c0 (o.getD k default).id:=by
 have a:∀x,Rch (sdI o) c0 x->MkC o M x:=λx h=>by
  induction h with
  | refl=>exact I.st.resolve_left nofun
  | step h hk' ih=>exact(I.cl _ ih _ hk').resolve_left nofun
 constructor
 .intro h;exact I.rM _ ⟨k,b,Y,h⟩
 .intro h;obtain⟨q,c,d,e⟩:=a _ h;have:=Ag5 R.nd c b d;subst this;exact e
def rtM(M:List Bool)(Q:List Int):Nat:=M.count false*70+Q.length
theorem AbM(a:k<M.length)(h:M.getD k false=false){S:List Int}(e:S.length<=64):rtM (M.set k true) (Q++S)<rtM M (x::Q):=by
 have f:(M.set k true).count false+1=M.count false:=by
  have c:M[k]=false:=by simpa[List.getD,a] using h
  have b:=List.count_set (a:=true) (b:=false) (l:=M) (i:=k) a;rw[c]at b;have d:0<M.count false:=List.count_pos_iff.2 (by rw[<-c];exact aq a);simp at b;omega
 unfold rtM;rw[ag,de];omega
theorem AcM(M:List Bool)(x:Int)(Q:List Int):rtM M Q<rtM M (x::Q):=by unfold rtM;rw[de];omega
def KE(o:List Cl)(M:List Bool)(n:Nat):List Int:=((range n).filter λk=>M.getD k false).map λk=>(o.getD k default).id
theorem Adk(R:Rgt o)(d:c0∈o.map Cl.id)(I:ReI o c0 M [])(x:Int):x∈KE o M o.length<->Rch (sdI o) c0 x:=by
 unfold KE;rw[mem_map];constructor
 .rintro⟨k,a,rfl⟩;obtain⟨b,c⟩:=dp.1 a;exact(I.all R (b6.1 b)).1 c
 .intro h;obtain⟨y,f,rfl⟩:=I.mem R d h;obtain⟨k,a,rfl⟩:=ee f;have e:(o.getD k default).id=o[k].id:=by simp[List.getD,a]
  refine⟨k,dp.2 ⟨b6.2 a,?_⟩,e⟩;exact(I.all R a).2 (by rw[e];exact h)
theorem Aan(o:List Cl)(M:List Bool)(n:Nat):KE o M (n+1)=KE o M n++if M.getD n false then [(o.getD n default).id] else []:=by
 unfold KE;rw[kp,jm,cz];congr 1;cases h:M.getD n false
 .rw[List.filter_cons,h];simp
 .rw[List.filter_cons,h];simp
end
theorem Wq(A:List Ce)(v vq:Value)(O:Int)(c:Hp)(F:RgtF (A.map Ce.c))(hc:O∈(A.map Ce.c).map Cl.id)(R:RdL cC 3 c [] v A)(hAs:∀a∈A,RdL cD 2 c [] a.v a.c.sd)(hq:RdL cI 1 c [] vq [O]):FnT prog 167 #[v,vq] c [] (λr P e=>c.le P/\∃m M,e=[m]/\OwnL cB 1 4 m r M/\ReI (A.map Ce.c) O M []):=by
 have o1:=R.rd.one;have o2:=hq.rd.one;have G:=F.rgt;obtain⟨o,ho⟩:∃o,A.map Ce.c=o:=⟨_,Y⟩
 rw[ho]at F G hc;rw[ho];have hAl:A.length=o.length:=by rw[<-ho,bb]
 have hol:o.length<=4000:=G.n;have hge:∀i (hi:i<A.length),o[i]'Z=A[i].c:=λi hi=>by subst ho;simp
 refine Au func167 ntmps167 rfl rfl<|λ_ _=>U<|Qm rfl<|BF<|Qm rfl<|E (Aw R.rd.any rfl B8 rfl) rfl<|FE (n:=_) rfl Ad8 el4 rfl rfl rfl ξ ξ Z Z rfl rfl rfl<|λl=>Qm rfl<|Ao ?_;have hM0:=AfH l A.length Z;refine U ?_;refine AX [] [] [] rfl Bb By rfl Z V (by repeat (first|exact fu|refine⟨⟨by first|rfl|exact(R.rd.any).cells|exact Rd.cells ‹_›|exact(RdL.rd ‹_›).cells,rfl,rfl⟩,?_⟩)) rfl rfl rfl rfl<|λg12=>?_;refine Qm rfl ?_;refine Oa 0 (Gs g12 Bf).q hq.any rfl Bb By rfl Z rfl rfl rfl (λa _=>BY a) (by(simp;done)) (by(simp;done)) rfl rfl rfl<|λt d b=>?_;have hI0:=ReI.start o O;have hr0:rtM (replicate o.length false) [O]<=300000:=by unfold rtM;rw[List.count_replicate_self];simp;omega
 refine J Y<|X<|Ag ?_
 refine AC (λq sl P e=>∃(M:List Bool) (Q:List Int) (f d:Hp) (t:Value),q=rtM M Q/\sl=[(0,v),(4,.nl),(5,.slice (some ⟨l,0,none⟩) A.length A.length),(6,t)]/\c=P/\e=[d,f]/\rtM M Q<=300000/\ReI o O M Q/\OwnL cB 1 4 f (.slice (some ⟨l,0,none⟩) A.length A.length) M/\OwnQ cI 1 3 d t Q)
  _ _ ⟨replicate o.length false,[O],_,_,_,rfl,rfl,rfl,rfl,hr0,hI0,by rw[<-hAl];exact hM0,b⟩ Qs ?_
 rintro q sl P e ⟨M,Q,f,d,t,rfl,rfl,rfl,rfl,hr,hI,u,b⟩;have ov6:=b.o1;refine X<|U<|Qm Y<|E (Aw (b.rd (h:=c) (ms:=[d,f]) Mh).rd Y Bb Y) Y<|J Y<|Ay Y (λK=>?_)<|λK=>?_
 .obtain⟨x,Q,rfl⟩:∃x Q',Q=x::Q':=by
   cases Q with
   | nil=>simp at K
   | cons x Q'=>exact⟨x,Q',Y⟩
  have cq:Cell c [d,f] ((AJ t).add (0*1)) (.w x):=(b.rd (h:=c) (ms:=[d,f]) Mh).cell0 (j:=0) σ rfl;obtain⟨y,hy,ey⟩:=hI.mem G hc (hI.rQ x Mh);obtain⟨hat,S⟩:=QY F.inc hy;rw[ey]at hat S;obtain⟨k,hk⟩:∃k:Nat,MR o x=k:=⟨_,(fq hat).symm⟩
  rw[hk,Int.toNat_natCast]at S;have p:k<o.length:=by have:=Re o x;omega
  have B:k<A.length:=Z
  have n:k<M.length:=by rw[hI.len];exact p
  have L:(o.getD k default).id=x:=by rw[S,ey]
  refine I<|Ag<|U<|D Y Y<|E (AR 0 (b.rd (h:=c) (ms:=[d,f]) Mh).rd Y Bb By Y Y Y Z) Y<|Ql Y U3 (cq) ?_;refine E (As Y call109 Y ((by have:=Ahf A v x c Z (by rw[ho];exact F.inc.imp λh=>Int.le_of_lt h) R [d,f];rwa [ho,hk]at this))) rfl ?_;refine Qm Y<|BF<|Qm Y<|E (Dm 1 (b.rd (h:=c) (ms:=[d,f]) Mh).rd Y Bb By Y Y Y σ) rfl<|Qm rfl<|Ao ?_;have b:=b.tail;obtain⟨w6,hw6⟩:∃w,C6 1 t 1 (Q.length+1)=w:=⟨_,Y⟩
  simp only[de,hw6]at b ⊢;have ov6:=b.o1;have cb:∀g,f∈g->Cell c g ((AJ (.slice (some ⟨l,0,none⟩) A.length A.length)).add (k*1)) (.bool M[k]):=λg hm=>(u.rd hm).cell0 n Y;refine X<|U<|D Y Y<|Qm Y<|AY (t:=27) Y (λhs=>?_)<|λhs=>?_
  .omega
  .refine Qg (Ap Y Y) Y<|Qg (Ap Y Y) Y<|Qg (Cm (k) Y Ad8 el4 Y Y Z Z) Y<|Qg (oL Y U4<|cb _<|.tail _<|.head _) Y<|J Y<|B1 Y (λhb=>?_)<|λhb=>?_
   .have hmk:MkC o M x:=⟨k,p,L,by rw[show M.getD k false=M[k] by simp[List.getD,n]];exact hb⟩
    have T:=AcM M x Q;refine Az<|Aa<|Af<|Aq (rtM M Q) _ T ⟨M,Q,f,d,w6,Y,Y,Y,Y,Z,hI.skip hmk,u,b⟩ Qs
   .have hmf:M.getD k false=false:=by rw[show M.getD k false=M[k] by simp[List.getD,n]];exact hb
    obtain⟨z,hz⟩:∃z,A[k]=z:=⟨_,Y⟩
    have hzo:o.getD k default=z.c:=by rw[show o.getD k default=o[k] by simp[List.getD,p],hge k B,hz]
    have hI':=hI.mark G p L;rw[hzo]at hI';have hX:=hAs z (by rw[<-hz];exact aq B);have hzl:z.c.sd.length<=64:=by have:=(F.bds (aq p)).2.1;rwa [hge k B,hz]at this
    have T:=AbM (x:=x) (Q:=Q) (S:=z.c.sd.map Prod.fst) n hmf (by rw[bb];omega);have hQl:Q.length<=300000:=by unfold rtM at hr;rw[de]at hr;omega
    have cx:∀g,Cell c g (((AJ v).add (k*3)).add 2) z.v:=λg=>by rw[<-hz];exact(R.any (ms:=g)).cell (j:=k) B (f:=2) Y
    refine I<|U<|D Y Y<|E (Cm (k) Y Ad8 el4 Y Y Z Z) Y<|Db (F:=cB) (f:=λx=>.bool x) (a:=true) 1 k (λ_=>rfl) u Y el4 Y Y Y Y n Y Y<|λm7 hO7=>BF<|J Y<|Ag ?_
    refine AC (λq sl P e=>∃(j:Nat) (d:Hp) (t:Value),q=z.c.sd.length-j/\sl=[(0,v),(4,.nl),(5,.slice (some ⟨l,0,none⟩) A.length A.length),(6,t),(7,.w k),(8,.w j)]/\c=P/\e=[d,m7]/\j<=z.c.sd.length/\OwnQ cI 1 3 d t (Q++(z.c.sd.take j).map Prod.fst))
     (z.c.sd.length-0) _ ⟨0,d,w6,rfl,rfl,rfl,rfl,Z,by simpa using b⟩ Qs ?_
    rintro q sl P e ⟨j,d,t,rfl,rfl,rfl,rfl,hj,b⟩;have ov6:=b.o1;have K:(Q++(z.c.sd.take j).map Prod.fst).length<=400000:=by rw[ag,bb,bf];omega
    refine X<|U<|D Y Y<|Qm Y<|E (AR _ R.rd.any Y B8 A9 Y Y Y Z) Y<|Qf BZ Y<|Ql Y Di (cx _)<|E (Aw hX.rd.any Y Di Y) Y<|J Y<|Ay Y (λhjl=>?_)<|λhjl=>?_
    .have hjn:j<z.c.sd.length:=Z
     obtain⟨s,hs⟩:∃s,z.c.sd[j]=s:=⟨_,Y⟩
     have cs:∀g,Cell c g (((AJ z.v).add (j*2)).add 0) (.w s.1):=λg=>by
      have:Seg c g ((AJ z.v).add (j*2)) (cD s):=by rw[<-hs];exact(hX.any (ms:=g)).seg hjn
      exact this 0 _ Y
     refine I<|X<|Ag<|Ad<|D Y Y<|Qm Y<|E (BP (k) R.rd.any Y B8 A9 Y Y) Y<|Qf BZ Y<|Ql Y Di (cx _)<|Qm Y<|E (BP (j) hX.rd.any Y Di B5 Y Y) Y<|Qf Dv Y<|Ql Y U3 (cs _)<|AB [_] Y Bb By Y ξ Y Y Z Y Y Y<|λg56=>Oa 1 b (RdL.one Bf (x:=s.1) Mh Y) Y Bb By Y Z Y Y Y (λa _=>BY a) (by(try simp only[ae]);omega) (by(try simp only[ae]);omega) rfl rfl rfl<|λv9 m9 hO9=>?_;have ov9:=hO9.o1;refine Qm Y<|Am<|D2<|Ad<|Qm Y<|E (oA Y) Y<|Qm Y<|Am<|AU ?_;exact Aq (z.c.sd.length-(j+1)) _ Z ⟨j+1,m9,v9,Y,Y,Y,Y,Z,by rw[ap hjn,cz,<-du,hs];exact hO9⟩ Qs
    .obtain rfl:j=z.c.sd.length:=Z
     rw[fz]at b;refine C<|Ai<|Aq (rtM (M.set k true)<|Q++z.c.sd.map Prod.fst) _ T ⟨M.set k true,Q++z.c.sd.map Prod.fst,m7,d,t,Y,Y,Y,Y,Z,hI',hO7,b⟩ Qs
 .obtain rfl:Q=[]:=by
   cases Q with
   | nil=>rfl
   | cons x Q'=>simp at K
  refine C<|Ab<|U<|Qm Y<|J Y<|Aj<|AU<|Ar Y Y (⟨Bk,f,M,Y,u,hI⟩)
end Go.Proofs.Q