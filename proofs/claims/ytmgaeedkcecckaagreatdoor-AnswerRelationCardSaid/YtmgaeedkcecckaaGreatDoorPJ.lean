/- A part of the proof. -/
import Derived.Test.YtmgaeedkcecckaaGreatDoorPI
set_option linter.unusedSimpArgs false
set_option linter.unusedVariables false
set_option linter.unusedSectionVars false
set_option maxRecDepth 100000
set_option maxHeartbeats 4000000

open List (length_map length_singleton getElem_mem length_append nil_append length_take cons_append mem_cons_self length_nil length_drop take_length length_cons)
namespace Go.Proofs.Q
open Go.Proofs.Tryz
open Go.Eng Go.RowKit
section
theorem Wq(A:List Ce)(v vq:Value)(O:Int)(c:Hp)(F:RgtF (A.map Ce.c))(hc:O∈(A.map Ce.c).map Cl.id)(R:aB cC 3 c [] v A)(hAs:∀a∈A,aB cD 2 c [] a.v a.c.sd)(hq:aB cI 1 c [] vq [O]):aC prog 167 #[v,vq] c [] (λr P e=>c.le P/\∃m M,e=[m]/\OwnL cB 1 4 m r M/\aS (A.map Ce.c) O M []):=by
 have o1:=R.rd.one;have o2:=hq.rd.one;have G:=F.rgt;obtain⟨o,ho⟩:∃o,A.map Ce.c=o:=⟨_,Y⟩
 rw[ho]at F G hc;rw[ho];have hAl:A.length=o.length:=by rw[<-ho,bb]
 have hol:o.length<=4000:=G.n;have hge:∀i (hi:i<A.length),o[i]'Z=A[i].c:=λi hi=>by subst ho;simp
 refine Au func167 ntmps167 rfl rfl<|λ_ _=>U<|Qm rfl<|BF<|Qm rfl<|E (Aw R.rd.any rfl B8 rfl) rfl<|FE (n:=_) rfl dK el4 rfl rfl rfl ξ ξ Z Z rfl rfl rfl<|λl=>Qm rfl<|Ao ?_;have hM0:=vO l A.length Z;refine U ?_;refine AX [] [] [] rfl Bb By rfl Z V (by repeat (first|exact fu|refine⟨⟨by first|rfl|exact(R.rd.any).cells|exact Rd.cells ‹_›|exact(aB.rd ‹_›).cells,rfl,rfl⟩,?_⟩)) rfl rfl rfl rfl<|λg12=>?_;refine Qm rfl ?_;refine Oa 0 (Gs g12 Bf).q hq.any rfl Bb By rfl Z rfl rfl rfl (λa _=>BY a) (by(simp;done)) (by(simp;done)) rfl rfl rfl<|λt d b=>?_;have hI0:=aS.start o O;have hr0:rtM (List.replicate o.length false) [O]<=300000:=by unfold rtM;rw[List.count_replicate_self];simp;omega
 refine J Y<|X<|Ag ?_
 refine AC (λq sl P e=>∃(M:List Bool) (Q:List Int) (f d:Hp) (t:Value),q=rtM M Q/\sl=[(0,v),(4,.nl),(5,.slice (some ⟨l,0,none⟩) A.length A.length),(6,t)]/\c=P/\e=[d,f]/\rtM M Q<=300000/\aS o O M Q/\OwnL cB 1 4 f (.slice (some ⟨l,0,none⟩) A.length A.length) M/\OwnQ cI 1 3 d t Q)
  _ _ ⟨List.replicate o.length false,[O],_,_,_,rfl,rfl,rfl,rfl,hr0,hI0,by rw[<-hAl];exact hM0,b⟩ Qs ?_
 rintro q sl P e ⟨M,Q,f,d,t,rfl,rfl,rfl,rfl,hr,hI,u,b⟩;have ov6:=b.o1;refine X<|U<|Qm Y<|E (Aw (b.rd (h:=c) (ms:=[d,f]) Mh).rd Y Bb Y) Y<|J Y<|Ay Y (λK=>?_)<|λK=>?_
 .obtain⟨x,Q,rfl⟩:∃x Q',Q=x::Q':=by
   cases Q with
   | nil=>simp at K
   | cons x Q'=>exact⟨x,Q',Y⟩
  have cq:Cell c [d,f] ((AJ t).add (0*1)) (.w x):=(b.rd (h:=c) (ms:=[d,f]) Mh).cell0 (j:=0) σ rfl;obtain⟨y,hy,ey⟩:=hI.mem G hc (hI.rQ x Mh);obtain⟨hat,S⟩:=QY F.inc hy;rw[ey]at hat S;obtain⟨k,hk⟩:∃k:Nat,MR o x=k:=⟨_,(fq hat).symm⟩
  rw[hk,Int.toNat_natCast]at S;have p:k<o.length:=by have:=Re o x;omega
  have B:k<A.length:=Z
  have n:k<M.length:=by rw[hI.len];exact p
  have L:(o.getD k default).id=x:=by rw[S,ey]
  refine I<|Ag<|U<|D Y Y<|E (AR 0 (b.rd (h:=c) (ms:=[d,f]) Mh).rd Y Bb By Y Y Y Z) Y<|Ql Y U3 (cq) ?_;refine E (As Y call109 Y ((by have:=eQ A v x c Z (by rw[ho];exact F.inc.imp λh=>Int.le_of_lt h) R [d,f];rwa [ho,hk]at this))) rfl ?_;refine Qm Y<|BF<|Qm Y<|E (Dm 1 (b.rd (h:=c) (ms:=[d,f]) Mh).rd Y Bb By Y Y Y σ) rfl<|Qm rfl<|Ao ?_;have b:=b.tail;obtain⟨w6,hw6⟩:∃w,C6 1 t 1 (Q.length+1)=w:=⟨_,Y⟩
  simp only[de,hw6]at b ⊢;have ov6:=b.o1;have cb:∀g,f∈g->Cell c g ((AJ (.slice (some ⟨l,0,none⟩) A.length A.length)).add (k*1)) (.bool M[k]):=λg hm=>(u.rd hm).cell0 n Y;refine X<|U<|D Y Y<|Qm Y<|AY (t:=27) Y (λhs=>?_)<|λhs=>?_
  .omega
  .refine Qg (Ap Y Y) Y<|Qg (Ap Y Y) Y<|Qg (Cm (k) Y dK el4 Y Y Z Z) Y<|Qg (oL Y U4<|cb _<|.tail _<|.head _) Y<|J Y<|B1 Y (λhb=>?_)<|λhb=>?_
   .have hmk:aX o M x:=⟨k,p,L,by rw[show M.getD k false=M[k] by simp[List.getD,n]];exact hb⟩
    have T:=vQ M x Q;refine Az<|Aa<|Af<|Aq (rtM M Q) _ T ⟨M,Q,f,d,w6,Y,Y,Y,Y,Z,hI.skip hmk,u,b⟩ Qs
   .have hmf:M.getD k false=false:=by rw[show M.getD k false=M[k] by simp[List.getD,n]];exact hb
    obtain⟨z,hz⟩:∃z,A[k]=z:=⟨_,Y⟩
    have hzo:o.getD k default=z.c:=by rw[show o.getD k default=o[k] by simp[List.getD,p],hge k B,hz]
    have hI':=hI.mark G p L;rw[hzo]at hI';have hX:=hAs z (by rw[<-hz];exact aq B);have hzl:z.c.sd.length<=64:=by have:=(F.bds (aq p)).2.1;rwa [hge k B,hz]at this
    have T:=vP (x:=x) (Q:=Q) (S:=z.c.sd.map Prod.fst) n hmf (by rw[bb];omega);have hQl:Q.length<=300000:=by unfold rtM at hr;rw[de]at hr;omega
    have cx:∀g,Cell c g (((AJ v).add (k*3)).add 2) z.v:=λg=>by rw[<-hz];exact(R.any (ms:=g)).cell (j:=k) B (f:=2) Y
    refine I<|U<|D Y Y<|E (Cm (k) Y dK el4 Y Y Z Z) Y<|Db (F:=cB) (f:=λx=>.bool x) (a:=true) 1 k (λ_=>rfl) u Y el4 Y Y Y Y n Y Y<|λm7 hO7=>BF<|J Y<|Ag ?_
    refine AC (λq sl P e=>∃(j:Nat) (d:Hp) (t:Value),q=z.c.sd.length-j/\sl=[(0,v),(4,.nl),(5,.slice (some ⟨l,0,none⟩) A.length A.length),(6,t),(7,.w k),(8,.w j)]/\c=P/\e=[d,m7]/\j<=z.c.sd.length/\OwnQ cI 1 3 d t (Q++(z.c.sd.take j).map Prod.fst))
     (z.c.sd.length-0) _ ⟨0,d,w6,rfl,rfl,rfl,rfl,Z,by simpa using b⟩ Qs ?_
    rintro q sl P e ⟨j,d,t,rfl,rfl,rfl,rfl,hj,b⟩;have ov6:=b.o1;have K:(Q++(z.c.sd.take j).map Prod.fst).length<=400000:=by rw[ag,bb,bf];omega
    refine X<|U<|D Y Y<|Qm Y<|E (AR _ R.rd.any Y B8 A9 Y Y Y Z) Y<|Qf BZ Y<|Ql Y Di (cx _)<|E (Aw hX.rd.any Y Di Y) Y<|J Y<|Ay Y (λhjl=>?_)<|λhjl=>?_
    .have hjn:j<z.c.sd.length:=Z
     obtain⟨s,hs⟩:∃s,z.c.sd[j]=s:=⟨_,Y⟩
     have cs:∀g,Cell c g (((AJ z.v).add (j*2)).add 0) (.w s.1):=λg=>by
      have:aA c g ((AJ z.v).add (j*2)) (cD s):=by rw[<-hs];exact(hX.any (ms:=g)).seg hjn
      exact this 0 _ Y
     refine I<|X<|Ag<|Ad<|D Y Y<|Qm Y<|E (BP (k) R.rd.any Y B8 A9 Y Y) Y<|Qf BZ Y<|Ql Y Di (cx _)<|Qm Y<|E (BP (j) hX.rd.any Y Di B5 Y Y) Y<|Qf Dv Y<|Ql Y U3 (cs _)<|AB [_] Y Bb By Y ξ Y Y Z Y Y Y<|λg56=>Oa 1 b (aB.one Bf (x:=s.1) Mh Y) Y Bb By Y Z Y Y Y (λa _=>BY a) (by(try simp only[ae]);omega) (by(try simp only[ae]);omega) rfl rfl rfl<|λv9 m9 hO9=>?_;have ov9:=hO9.o1;refine Qm Y<|Am<|D2<|Ad<|Qm Y<|E (oA Y) Y<|Qm Y<|Am<|AU ?_;exact Aq (z.c.sd.length-(j+1)) _ Z ⟨j+1,m9,v9,Y,Y,Y,Y,Z,by rw[ap hjn,cz,<-du,hs];exact hO9⟩ Qs
    .obtain rfl:j=z.c.sd.length:=Z
     rw[fz]at b;refine C<|Ai<|Aq (rtM (M.set k true)<|Q++z.c.sd.map Prod.fst) _ T ⟨M.set k true,Q++z.c.sd.map Prod.fst,m7,d,t,Y,Y,Y,Y,Z,hI',hO7,b⟩ Qs
 .obtain rfl:Q=[]:=by
   cases Q with
   | nil=>rfl
   | cons x Q'=>simp at K
  refine C<|Ab<|U<|Qm Y<|J Y<|Aj<|AU<|Ar Y Y (⟨Bk,f,M,Y,u,hI⟩)
theorem TP(l:List Ce)(v vq:Value)(z:Int)(P:Hp)(K:aL l)(L:aG P v l)(Q:aB cI 1 P [] vq [z])(hc:z∈(cn l).map Cl.id):aC prog 132 #[.agg #[v],vq] P [] (λr B c=>P.le B/\∃m M,c=[m]/\OwnL cI 1 3 m r (KE (cn l) M (cn l).length)/\aS (cn l) z M []):=by
 have o1:=L.q.rd.one;have o2:=Q.rd.one;have hln:=K.r.n;rw[bb]at hln;refine Au func132 ntmps132 Y Y<|λ_ _=>U<|AK [_] Y Y ξ Y Y Y<|λg2=>J Y<|Ak 0 Y λh1 l1 hS=>?_;have L:=L.up l1;have Q:=Q.up l1;refine U<|E (oG Y CV Bd<|aA.any hS) Y<|Qc call74 Y (NN l v h1 K.r.cs L)<|λrC h2 ms2 l2 T=>?_;obtain⟨l2',mC,A,rfl,h,d,f⟩:=T;rw[LW K.r]at d;obtain⟨o,O⟩:∃o,cn l=o:=⟨_,Y⟩
 have d:A.map Ce.c=o:=by rw[d,<-O];rfl
 have F:RgtF o:=by rw[<-O];exact K.F
 have G:=F.rgt;rw[O]at hc;rw[O];have S:A.length=o.length:=by rw[<-d,bb]
 have hol:o.length<=4000:=G.n;have oC:=h.o1;refine J Y<|CQ h λh3 l3 e=>?_;have f:∀a∈A,aB cD 2 h3 [] a.v a.c.sd:=λa ha=>(f a ha).up l3;have t:=N l2' l3;have hge:∀i (hi:i<A.length),o[i]'Z=A[i].c:=λi hi=>by subst d;simp
 refine U<|D Y Y ?_;refine Qc call167 Y (Wq A rC vq z h3 (by rw[d];exact F) (by rw[d];exact hc) e f<|Q.up t)<|λrM h4 ms4 l4 T=>?_;obtain⟨u,mM,M,rfl,j,hI⟩:=T;rw[d]at hI;have oM_:=j.o1;have e:=e.up u;refine J Y<|CQ j λh5 l5 hB=>?_;have e:=e.up l5;refine U<|J Y<|X<|U<|J Y<|Ag<|BW ?_
 refine AC (λq sl B c=>∃(i:Nat) (R:Value) (m:Hp),q=A.length-i/\sl=[(4,.nl),(5,rC),(6,rM),(7,R),(8,.w i)]/\h5=B/\c=[m]/\i<=A.length/\OwnL cI 1 3 m R (KE o M i))
  (A.length-0) _ ⟨0,_,Hp.emp,rfl,rfl,rfl,rfl,Z,OwnL.nil Bf⟩ Qs ?_
 rintro q sl B c ⟨i,R,m7,rfl,rfl,rfl,rfl,hi,b⟩;have ov7:=b.o1;refine X<|U<|D Y Y<|E (Aw e.rd.any Y B8 Y) Y<|J Y<|Ay Y (λhlt=>?_)<|λhlt=>?_
 .have n:i<A.length:=Z
  have p:i<o.length:=Z
  have k:i<M.length:=by rw[hI.len];exact p
  obtain⟨x,hx⟩:∃x,A[i]=x:=⟨_,Y⟩
  have hxo:o.getD i default=x.c:=by rw[show o.getD i default=o[i] by simp[List.getD,p],hge i n,hx]
  have cb:=λy=>(hB.any (ms:=y)).cell0 k Y;have cx:∀y,Cell h5 y (((AJ rC).add (i*3)).add 0) (.w x.c.id):=λy=>by rw[<-hx];exact(e.any (ms:=y)).cell (j:=i) n (f:=0) Y
  have s:=vT o M i;rw[hxo,show M.getD i false=M[i] by simp[List.getD,k]]at s
  have hfl:(KE o M i).length<=4000:=by unfold KE;rw[bb];exact bl (fj _ _) (by rw[ik];omega)
  refine I<|X<|Ag<|U<|D Y Y<|E (BP (i) hB.rd.any Y dK el4 Y Y) Y<|Ql Y U4 (cb _)<|Ao<|B1 Y (λhb=>?_)<|λhb=>?_
  .rw[hb,ah rfl]at s;refine Ad<|D Y Y<|Qm Y<|E (BP (i) e.rd.any Y B8 A9 Y Y) Y<|Qf B7 Y<|Ql Y U3 (cx _)<|AB [_] Y Bb By Y ξ Y Y Z Y Y Y<|λg30=>AL 1 b (aB.one Bf (x:=x.c.id) Mh Y) Y Bb By Y Z Y Y Y BY (by(try simp only[ae]);omega) (by(try simp only[ae]);omega) rfl rfl rfl<|λv9 m9 g=>?_;rw[<-s]at g;have ov9:=g.o1;refine Qm Y<|Am<|D2<|Ad<|Qm Y<|E (oA Y) Y<|Qm Y<|Am<|AU<|Aq (A.length-(i+1)) _ Z ⟨i+1,v9,m9,Y,Y,Y,Y,Z,g⟩ Qs
  ·rw[hb,if_neg (by decide),List.append_nil]at s;refine Ah<|D2<|Ad<|Qm Y<|E (oA Y) Y<|Qm Y<|Am ?_;exact Aq (A.length-(i+1)) _ Z ⟨i+1,R,m7,Y,Y,Y,Y,Z,by rw[s];exact b⟩ Qs
 .obtain rfl:i=A.length:=Z
  refine C<|Ab<|U<|Qm Y<|J Y<|Aj ?_;exact Ar Y Y (⟨N l1 (N t (N u l5)),m7,M,Y,by rw[S]at b;exact b,hI⟩)
def vtF(C ids:List Int):List Int:=ids.flatMap λd=>C.filter λc=>decide (c=d)
theorem kA(C:List Int):∀ids:List Int,(vtF C ids).length<=ids.length*C.length
 | []=>fm _
 | d::ids=>by have b:=kA C ids;have a:(C.filter λc=>decide (c=d)).length<=C.length:=fj _ _;show(C.filter _++vtF C ids).length<=_;rw[ag,de,Nat.succ_mul];omega
theorem vU(C ids:List Int){i:Nat}(a:i<ids.length):vtF C (ids.take (i+1))=vtF C (ids.take i)++C.filter λc=>decide (c=ids[i]):=by unfold vtF;rw[ap a,fe];simp
theorem vV(a b:List Int)(p r:Value)(h:Hp)(d:aB cI 1 h [] p a)(g:aB cI 1 h [] r b)(f:List Hp):aD prog 81 #[p,r] h f (.bool (decide (a=b))):=by
 refine D9 ?_ f;have A:=d.len_le;have B:=g.len_le;have K:=d.rd.one;have L:=g.rd.one;refine Au func81 ntmps81 Y Y<|λ_ _=>U<|J Y<|X<|U<|G Y<|E (Aw d.rd.any Y Bb Y) Y<|G Y<|E (Aw g.rd.any Y Bb Y) Y<|J Y<|Ay Y (λc=>?_)<|λc=>?_
 .refine X<|Ad<|J Y<|Aj<|Ae ?_;exact Ar Y Y (by rw[dx];intro e;rw[e]at c;exact c Y)
 .have x:a.length=b.length:=Z
  refine I<|X<|U<|J Y<|Ag ?_
  refine AC (λq s t l=>∃(k:Nat),q=a.length-k/\s=[(0,p),(1,r),(5,.w k)]/\h=t/\l=[]/\k<=a.length/\a.take k=b.take k)
   (a.length-0) _ ⟨0,rfl,rfl,rfl,rfl,Z,rfl⟩ Qs ?_
  rintro q s t l ⟨k,rfl,rfl,rfl,rfl,z,m⟩;refine X<|U<|D Y Y<|E (Aw d.rd.any Y Bb Y) Y<|J Y<|Ay Y (λn=>?_)<|λn=>?_
  .have i:k<a.length:=Z
   have j:k<b.length:=Z
   have u:=λf=>(d.any (ms:=f)).cell0 i Y;have v:=λf=>(g.any (ms:=f)).cell0 j Y;refine I<|X<|Ag<|X<|BK 8 Cx V Y<|Wm Y<|Wm Y<|BS (BP (k) d.rd.any Y Bb By Y Y) Y Y<|Wl Y U3 (u _)<|Wm Y<|Wm Y<|BS (BP (k) g.rd.any Y Bb By Y Y) Y Y<|Wl Y U3 (v _)<|BB<|J Y<|Ay Y (λc=>?_)<|λc=>?_
   .refine X<|Ad<|J Y<|Aj<|An<|Ae<|Ae<|An<|Ae ?_;exact Ar Y Y (by rw[dx];rintro rfl;exact c Y)
   .refine Ah<|D2<|Ad<|G Y<|E (oA Y) Y<|G Y<|Am<|Aq (a.length-(k+1)) _ Z ⟨k+1,Y,Y,Y,Y,Z,?_⟩ Qs;rw[j9,j9,m,aj i,aj j,Decidable.not_not.1 c]
  .obtain rfl:k=a.length:=Z
   refine C<|Ab<|U<|J Y<|Aj ?_;exact Ar Y Y (by rw[fz,x,fz]at m;rw[bp m])
theorem TR(l:List Ce)(v:Value)(x:Int)(T:Hp)(O:aL l)(u:aG T v l)(hc:x∈(cn l).map Cl.id):aC prog 82 #[.agg #[v],.int .i64 x] T [] (λr e a=>T.le e/\∃m M,a=[m]/\OwnL cI 1 3 m r (vtF (KE (cn l) M (cn l).length) (AZ (cn l) 0))/\aS (cn l) x M []):=by
 have o1:=u.q.rd.one;refine Au func82 ntmps82 Y Y<|λ_ _=>U<|AK [_] Y Y ξ Y Y Y<|λg2=>J Y<|Ak 0 Y λh1 l1 hS=>?_;have u:=u.up l1;refine U<|E (oG Y CV Bd<|aA.any hS) Y<|G Y<|AB [_] Y Bb By Y ξ Y Y Z Y Y Y<|λB=>Bm λh2 l2 P=>?_;have hq:aB cI 1 h2 [] (.slice (some ⟨B,0,none⟩) 1 1) [x]:=aB.built P Y Y Bf H;refine Qc call132 Y (TP l v _ x h2 O (u.up l2) hq hc)<|λrC h3 ms3 l3 L=>?_;obtain⟨l3',mC,M,rfl,hO,hI⟩:=L;have oC:=hO.o1;refine J Y<|CQ hO λh4 l4 f=>?_;have k:=N l2 (N l3' l4);have z:(cn l).length<=4000:=O.F.rgt.n
 have p:(KE (cn l) M (cn l).length).length<=4000:=by unfold KE;rw[bb];exact bl (fj _ _) (by rw[ik];exact z)
 have K:(AZ (cn l) 0).length<=4000:=bl (GI _ _) z;obtain⟨C,n⟩:∃C,KE (cn l) M (cn l).length=C:=⟨_,Y⟩
 rw[n]at f p;refine U<|E (oG Y CV Bd<|aA.any<|hS.le k) Y<|Qc call35 Y (RE l v 0 h4 O<|u.up k)<|λrI h5 ms5 l5 L=>?_;obtain⟨A,rfl,g⟩:=L;have f:=f.up A;have oD:=g.rd.one;obtain⟨D,t⟩:∃D,AZ (cn l) 0=D:=⟨_,Y⟩
 rw[t]at g K;have lC:=f.len_le;have lD:=g.len_le;refine G Y<|BF<|J Y<|X<|U<|J Y<|Ag<|BW ?_
 refine AC (λq s e a=>∃(i:Nat) (w:Value) (m:Hp),q=D.length-i/\s=[(5,rC),(6,rI),(7,w),(8,.w i)]/\h5=e/\a=[m]/\i<=D.length/\OwnL cI 1 3 m w (vtF C (D.take i)))
  (D.length-0) _ ⟨0,_,Hp.emp,rfl,rfl,rfl,rfl,Z,OwnL.nil Bf⟩ Qs ?_
 rintro q s e a ⟨i,w,m,rfl,rfl,rfl,rfl,hi,b⟩;refine X<|U<|AT Y Y<|E (Aw g.rd.any Y Bb Y) Y<|J Y<|Ay Y (λS=>?_)<|λS=>?_
 .have y:i<D.length:=Z
  have cd:=λms=>(g.any (ms:=ms)).cell0 y Y;refine I<|X<|Ag<|U<|J Y<|Ag ?_
  refine AC (λq s e a=>∃(j:Nat) (w:Value) (m:Hp),q=C.length-j/\s=[(5,rC),(6,rI),(7,w),(8,.w i),(9,.w j)]/\h5=e/\a=[m]/\j<=C.length/\OwnL cI 1 3 m w (vtF C (D.take i)++(C.take j).filter λc=>decide (c=D[i])))
   (C.length-0) _ ⟨0,w,m,rfl,rfl,rfl,rfl,Z,by simpa using b⟩ Qs ?_
  rintro q s e a ⟨j,w,m,rfl,rfl,rfl,rfl,hj,b⟩;have ow:=b.o1;refine X<|U<|AT Y Y<|E (Aw f.rd.any Y Bb Y) Y<|J Y<|Ay Y (λR=>?_)<|λR=>?_
  .have h:j<C.length:=Z
   have hb1:(vtF C (D.take i)++(C.take j).filter λc=>decide (c=D[i])).length<=16004000:=by have e1:=kA C (D.take i);have e2:(D.take i).length*C.length<=4000*4000:=fx (by rw[bf];omega) p;have e3:((C.take j).filter λc=>decide (c=D[i])).length<=4000:=bl (fj _ _) (by rw[bf];omega);rw[ag];omega
   have cc:=λms=>(f.any (ms:=ms)).cell0 h Y;refine I<|X<|Ag<|X<|BK 8 Cx V Y<|Wm Y<|Wm Y<|BS (BP (j) f.rd.any Y Bb By Y Y) Y Y<|Wl Y U3 (cc _)<|Wm Y<|Wm Y<|BS (BP (i) g.rd.any Y Bb By Y Y) Y Y<|Wl Y U3 (cd _)<|BB<|J Y<|Ay Y (λd=>?_)<|λd=>?_
   .refine Ad<|AT Y Y<|G Y<|E (BP (i) g.rd.any Y Bb By Y Y) Y<|Ql Y U3 (cd _)<|AB [_] Y Bb By Y ξ Y Y Z Y Y Y<|λg42=>AL 1 b (aB.one Bf (x:=D[i]) Mh Y) Y Bb By Y Z Y Y Y BY (by(try simp only[ae]);omega) (by(try simp only[ae]);omega) rfl rfl rfl<|λw2 m2 Q=>G rfl<|Am<|D2<|Ad<|G rfl<|E (oA rfl) rfl<|G rfl<|Am<|AU ?_;exact Aq (C.length-(j+1)) _ Z ⟨j+1,w2,m2,Y,Y,Y,Y,Z,by rw[ap h,jm,jt (by rw[d];exact bp Y),d,<-du];exact Q⟩ Qs
   .refine Ah<|D2<|Ad<|G Y<|E (oA Y) Y<|G Y<|Am ?_;exact Aq (C.length-(j+1)) _ Z ⟨j+1,w,m,Y,Y,Y,Y,Z,by rw[ap h,jm,ju (by rw[io];exact d)];simpa using b⟩ Qs
  .obtain rfl:j=C.length:=Z
   rw[fz,<-vU C D y]at b;refine Br<|D2<|Ad<|G Y<|E (oA Y) Y<|G Y<|Am<|Aq (D.length-(i+1)) _ Z ⟨i+1,w,m,Y,Y,Y,Y,Z,b⟩ Qs
 .obtain rfl:i=D.length:=Z
  rw[fz]at b;refine Br<|Ab<|U<|G Y<|J Y<|Aj ?_;exact Ar Y Y (⟨N l1 (N k A),m,M,Y,by rw[n,t];exact b,hI⟩)
open Go.Lin Go.Wd Go.Sm Go.Ch
theorem vW(x:Int):Cb (IntKind.i64.wrap x):=by simp only[IntKind.wrap,IntKind.bits,IntKind.signed,Cb];simp;omega
def mdV(L:List Int)(k:Nat):Int:=(IntKind.i64.wrap (L.getD (k%L.length) 0+((k/L.length:Nat):Int)))%7-3
theorem kB(L:List Int)(k:Nat):-3<=mdV L k/\mdV L k<=3:=by unfold mdV;omega
def VI(L ids:List Int)(n:Nat):List Tm:=(List.range n).map λk=>(ids.getD k 0,mdV L k)
theorem Vf(L ids:List Int)(n:Nat):VI L ids (n+1)=VI L ids n++[(ids.getD n 0,mdV L n)]:=by unfold VI;rw[List.range_succ,cz];rfl
theorem Sh(L ids:List Int):∀n,Bi (VI L ids n)<=3*n
 | 0=>ak _
 | n+1=>by have a:=Sh L ids n;have h:=kB L n;rw[Vf,Bp];show _+((mdV L n).natAbs+0)<=_;omega
theorem vZ(a b:Int)(c:Cb a)(k:1<=b/\b<=1000000)(h:Hp)(d:List Hp):aD prog 14 #[.int .i64 a,.int .i64 b] h d (.int .i64 (a%b)):=by
 refine D9 ?_ d;have f:=c.1;have ha2:=c.2;have i:a.tmod b<b:=by have:=Int.tmod_lt_of_pos a (show 0<b by omega);omega
 have j:-b<a.tmod b:=by have:=Int.lt_tmod_of_pos a (show 0<b by omega);omega
 have e:(a.tmod b+b)%b=a%b:=by rw[Int.add_emod_right,Int.tmod_def,Int.sub_mul_emod_self_left]
 refine Au func14 ntmps14 Y Y<|λ_ _=>U<|G Y<|BF<|D Y Y<|E (fE Y Y Y Z) Y<|G Y<|E (oA Y) Y<|G Y<|E (Eh Y Y Y Z Z) Y<|J Y<|Aj ?_;exact Ar Y Y (by rw[e])
set_option exponentiation.threshold 4000000 in
theorem wa(l:List Ce)(v O:Value)(d:Int)(L:List Int)(h:Hp)(Q:QsOk v h l)(S:aB cI 1 h [] O L):aC prog 27 #[.agg #[v],.int .i64 d,O] h [] (λr f m=>h.le f/\m=[]/\CanV (cf (VI L (AZ (cn l) d) (if L.length=0 then 0 else(AZ (cn l) d).length))) (3*(AZ (cn l) d).length) (AZ (cn l) d).length r f):=by
 have ov:=Q.X.rd.q.rd.one;have oL_:=S.rd.one;refine Au func27 ntmps27 Y Y<|λ_ _=>U<|AK [_] Y Y ξ Y Y Y<|λg3=>J Y<|Ak 0 Y λh1 l1 hS=>U<|E (oG Y CV Bd<|aA.any hS) Y<|G Y<|Qc call35 Y (RE l v d h1 Q.K<|Q.X.rd.up l1)<|λw h2 ms2 l2 hF=>?_;obtain⟨l2',rfl,P⟩:=hF;have j:=N l1 l2';obtain⟨ids,p⟩:∃ids,AZ (cn l) d=ids:=⟨_,Y⟩
 have hm:(AZ (cn l) d).length<=100:=Q.many d
 have hiI:∀x∈ids,Cb x:=λx t=>by rw[<-p]at t;obtain⟨y,hy,e,_⟩:=mem_ids.1 t;obtain⟨z,hz,rfl⟩:=ai.1 hy;exact e ▸ Q.X.ids z hz
 rw[p]at P hm ⊢;obtain⟨n,hn⟩:∃n,ids.length=n:=⟨_,Y⟩
 rw[hn]at hm ⊢;have ow:=P.rd.one;obtain⟨M,T⟩:∃M,L.length=M:=⟨_,Y⟩
 have hMl:=S.len_le;rw[T]at hMl ⊢;have rI:∀f,h2.le f->∀g,Rd f g w 1 n (ids.flatMap cI):=λf q g=>by have:=((P.up q).rd).any (ms:=g);rwa [hn]at this
 have rL:∀f,h2.le f->∀g,Rd f g O 1 M (L.flatMap cI):=λf q g=>by have:=((S.up (N j q)).rd).any (ms:=g);rwa [T]at this
 refine G Y<|BF<|J Y<|X<|U<|J Y<|Ag<|AC (λq sl f m=>∃(k:Nat) (u:Value),n-k=q/\sl=[(2,O),(7,w),(8,u),(9,.w (k:Int))]/\h2.le f/\m=[]/\k<=n/\(k=0\/0<M)/\CanV (cf (VI L ids k)) (Bi (VI L ids k)) k u f) (n-0) _ ⟨0,_,Y,Y,Bk,Y,Z,.inl Y,[],IZ,El _,fm _,fm _⟩ Qs ?_;rintro q sl f m ⟨k,u,rfl,rfl,i,rfl,hk,hkM,hC⟩;have o8:u.oneCell'=true:=by obtain⟨_,_,q,_⟩:=hC;exact q.rd.rd.one
 have fin:(k=n\/M=0)->CanV (cf (VI L ids (if M=0 then 0 else n))) (3*n) n u f:=λq=>by
  have hk2:k=if M=0 then 0 else n:=by split<;>omega
  obtain⟨x,C,R,a,b⟩:=hC;have:=Sh L ids k;exact⟨x,hk2 ▸ C,R,Z,Z⟩
 refine X<|U<|D Y Y<|E (Aw (rI _ i _) Y Bb Y) Y<|D Y Y<|AY (t:=18) Y (λhs=>?_)<|λhs=>?_
 .refine Qg (Ap Y Y) Y<|Qg (Aw (rL _ i _) Y Bb Y) Y<|Qg (CE Y Y Y) Y<|J Y<|Ay Y (λhMp=>?_)<|λhMp=>?_
  .have hkn:k<n:=Z
   have B:0<M:=Z
   have hkm:k%M<M:=f6 _ B;obtain⟨a,ha⟩:∃a,L[k%M]'Z=a:=⟨_,Y⟩
   obtain⟨c,hc⟩:∃c,ids[k]'Z=c:=⟨_,Y⟩
   have hcI:Cb c:=hiI c (hc ▸ aq _);have ca:∀g,Cell f g ((AJ O).add (k%M*1)) (.w a):=λg=>((S.up (N j i)).any (ms:=g)).cell0 (j:=k%M) Z (by rw[ha];rfl);have cc:∀g,Cell f g ((AJ w).add (k*1)) (.w c):=λg=>((P.up i).any (ms:=g)).cell0 (j:=k) Z (by rw[hc];rfl);have e1:((k:Int)%(M:Int))=((k%M:Nat):Int):=Z
   have e2:((k:Int)/(M:Int))=((k/M:Nat):Int):=Z
   obtain⟨x,t⟩:∃x,mdV L k=x:=⟨_,Y⟩
   have hxb:=kB L k;rw[t]at hxb
   have hxe:IntKind.i64.wrap (a+((k/M:Nat):Int))%7-3=x:=by rw[<-t];unfold mdV;rw[T,show L.getD (k%M) 0=a by simp[List.getD,T,hkm,ha]]
   have A:VI L ids (k+1)=VI L ids k++[(c,x)]:=by rw[Vf,t,show ids.getD k 0=c by simp[List.getD,hn,hkn,hc]]
   have osx:=AA (Ba x.natAbs);refine I<|X<|Ag<|X<|AS (n:=15) (bs:=[W,W,W,W,W,W,W,W,W,W,W,W,W,W,lw]) [W,W,W,W,W,W,W,W,W,W,W,W,W,W] Cx V V Y Y<|Qq Y<|Qq Y<|Qq Y<|Qp Y (Aw (rL _ i _) Y Bb Y)<|Qp Y (DY (Eh Y Y Y Z Z)<|bh (Value.int .i64) e1)<|Qp Y (AR (k%M) (rL _ i _) Y Bb By Y Y Z Z)<|QL Y U3 (ca _)<|Qq Y<|Qq Y<|Qp Y (Aw (rL _ i _) Y Bb Y)<|Qp Y (DY (Ek Y Y Y Z Z)<|bh (Value.int .i64) e2)<|Qp Y (YJ Y Y Y)<|Qp Y (As Y call14 Y<|vZ _ 7 (vW _) H _ _)<|Qp Y (DY (oS Y)<|bh (Value.int .i64) hxe)<|Qo 14 Y<|G Y<|Qw<|Qe ?_;obtain⟨l',CL,CR,ha',hb'⟩:=hC;have hal:=Sh L ids k;have hbt:Bi (VI L ids (k+1))=Bi (VI L ids k)+x.natAbs:=by rw[A,Bp];rfl
   have K:Bi l'+x.natAbs<2^2000000:=b7 (show Bi l'+x.natAbs<2^10 by omega) (dn H H);refine Ab<|AS (n:=9) (bs:=[W,W,W,W,W,W,W,lw,lw]) [W,W,W,W,W,W,W] Cx V V Y Y<|Qq Y<|Qq Y<|Qq Y<|Qp Y (AR (k) (rI _ i _) Y Bb By Y Y Z Z)<|QL Y U3 (cc _)<|Qq Y<|Qp Y (As Y call25 Y<|H3 x (by unfold Cb;omega) _ _) ?_;refine Qo 7 Y<|AE (pre:=[]) Y call62 Y (TH u l' _ c x f CR CL hcI Z K) Y Y Y Y<|λw9 h4 ms4 l4 hF=>?_;obtain⟨l4',rfl,s⟩:=hF;have o9:w9.oneCell'=true:=by obtain⟨_,_,q,_⟩:=s;exact q.rd.rd.one
   refine Qa<|Qo 8 Y<|G Y<|Qa<|Qe ?_;have eup:upd (cf (VI L ids k)) c x=cf (VI L ids (k+1)):=by rw[A];exact N6 _ (c,x)
   rw[eup]at s;obtain⟨l5,CL5,CR5,ha5,hb5⟩:=s;refine D2<|Ad<|G Y<|E (oA Y) Y<|G Y<|Am<|Aq (n-(k+1)) _ Z ⟨k+1,w9,Y,Y,N i l4',Y,Z,.inr B,l5,CL5,CR5,Z,Z⟩ Qs
  .have hf:=fin (.inr Z);refine Br<|Ab<|U<|G Y<|J Y<|Aj<|Ar Y Y (⟨N j i,Y,hf⟩)
 .have hf:=fin (.inl Z);refine DM Y Y<|Qk Y<|J Y<|AM Y<|Br<|Ab<|U<|G Y<|J Y<|Aj<|Ar Y Y (⟨N j i,Y,hf⟩)
def bZ(o:List Cl)(x:Int)(r:List Int):Prop:=∃M,aS o x M []/\r=vtF (KE o M o.length) (AZ o 0)
theorem W0(l:List Ce)(v:Value)(x:Int)(b:Hp)(d:aL l)(f:aG b v l)(g:x∈(cn l).map Cl.id):aC prog 82 #[.agg #[v],.int .i64 x] b [] (λr c a=>b.le c/\a=[]/\∃L,aB cI 1 c [] r L/\bZ (cn l) x L):=
 aC.frz (TR l v x b d f g) λr c a ⟨q,m,M,e,O,I⟩=>⟨m,[],e,λj h i=>⟨N q h,rfl,_,O.rdh i,M,I,rfl⟩⟩
def eY(o:List Cl)(vs:List Int)(k:Nat)(e:Int):Prop:=∃c∈o,c.id=e/\c.dim=(vs.length:Int)-2/\bZ o e (vs.eraseIdx k)
def OutOk(o:List Cl)(vs:List Int)(k:Nat)(out:List Tm):Prop:=out.length=k/\∀j (h:j<out.length),(out[j]:Tm).2=1-2*((j:Int)%2)/\eY o vs j (out[j]:Tm).1
theorem OutOk.snoc{o:List Cl}{c:List Int}{k:Nat}{a:List Tm}(O:OutOk o c k a){e:Int}(h:eY o c k e):OutOk o c (k+1) (a++[(e,1-2*((k:Int)%2))]):=by
 refine⟨by rw[ag,O.1];rfl,λj d=>?_⟩;rw[ag,ae]at d;rcases ii j a.length with b|b
 .rw[kh b];exact O.2 j b
 .obtain rfl:j=a.length:=Z
  rw[List.getElem_concat_length rfl,O.1];exact⟨Y,h⟩
set_option exponentiation.threshold 4000000 in
theorem Z6(l:List Ce)(v vv:Value)(f:List Int)(B:Hp)(hK:aL l)(hcn:cn l=l.map Ce.c)(g:aG B v l)(n:aB cI 1 B [] vv f)(hvl:f.length<=8):aC prog 41 #[.agg #[v],vv] B [] (λr S u=>B.le S/\u=[]/\(r=.slice none 0 0\/∃a,OutOk (cn l) f f.length a/\CanR a r S)):=by
 have o1:=g.q.rd.one;have o2:=n.rd.one;have hln:l.length<=4000:=by have:=hK.r.n;rwa [bb]at this
 refine Au func41 ntmps41 Y Y<|λ_ _=>U<|AK [_] Y Y ξ Y Y Y<|λg2=>J Y<|Ak 0 Y λh1 l1 hS=>?_;have g:=g.up l1;have n:=n.up l1;have Q:=aA.all hS;refine U<|J Y<|X<|U<|J Y<|Ag<|BW ?_
 refine AC (λq s S u=>∃(k:Nat) (w:Value) (m:Hp) (a:List Tm),q=f.length-k/\s=[(1,vv),(2,.pt g2),(4,.nl),(5,w),(6,.w k)]/\h1.le S/\u=[m]/\k<=f.length/\OwnL D6 3 79 m w a/\OutOk (cn l) f k a)
  (f.length-0) _ ⟨0,_,Hp.emp,[],rfl,rfl,Bk,rfl,Z,OwnL.nil EX,rfl,λj h=>lj h (Nat.not_lt_zero _)⟩ Qs ?_
 rintro q s h2 u ⟨k,w,m,a,rfl,rfl,l2,rfl,hk,z,hO⟩;have g:=g.up l2;have n:=n.up l2;have Q:=aA.all (hS.le l2);have ow:=z.o1;refine X<|U<|D Y Y<|E (Aw n.rd.any Y Bb Y) Y<|J Y<|Ay Y (λhlt=>?_)<|λhlt=>?_
 .have hkS:k<f.length:=Z
  refine I<|X<|Ag<|X<|AS (n:=11) (bs:=[lw,W,W,W,lw,W,W,W,W,lw,lw]) [lw,W,W,W,lw,W,W,W,W] Cx V V rfl rfl<|Qq rfl<|Qq rfl<|Qp rfl (DW (k) n.rd.any rfl Bb By rfl rfl Z Z)<|Qq rfl<|Qq rfl<|Qp rfl (oA rfl)<|Qp rfl (Dm (k+1) n.rd.any rfl Bb By rfl rfl Z Z)<|Qo 0 rfl ?_;refine AX [] [] [] rfl Bb By rfl Z V (by repeat (first|exact fu|refine⟨⟨by first|rfl|exact(g.q.rd.any).cells|exact(n.rd.any).cells|exact Rd.cells ‹_›|exact(aB.rd ‹_›).cells,rfl,rfl⟩,?_⟩)) rfl rfl rfl rfl<|λg16=>?_;refine Qw<|Qo 4 rfl<|AL 0 (Gs g16 Bf) (n.any.sub_ (fm _) hk) rfl Bb By rfl Z rfl rfl rfl BY (by(try simp only[ae,fv,ag,bf,br,aw]);omega) (by(try simp only[ae,fv,ag,bf,br,aw]);omega) rfl rfl rfl<|λv6 m6 hO6=>Qw<|Qo 9 rfl<|AL 0 hO6 (n.any.sub_ hkS<|ak _) rfl Bb By rfl Z rfl rfl rfl BY (by(try simp only[ae,fv,ag,bf,br,aw]);omega) (by(try simp only[ae,fv,ag,bf,br,aw]);omega) rfl rfl rfl<|λv7 m7 hO7=>Qw<|Qo 10 rfl<|G rfl<|Qw<|Qe ?_
  have heq:[]++(f.drop 0).take (k-0)++(f.drop (k+1)).take (f.length-(k+1))=f.eraseIdx k:=by rw[js,ix,bm (l:=f.drop (k+1)) (by rw[br];exact ak _),List.eraseIdx_eq_take_drop_succ];rfl
  rw[heq]at hO7;refine Ab<|CQ hO7 λh3 l3 O=>?_;have l23:=N l2 l3;have g:=g.up l3;have n:=n.up l3;have oF_:=O.rd.one;refine U<|J Y<|X<|U<|J Y<|Ag ?_
  refine AC (λq s S u=>∃(i:Nat) (b:Bool) (w:Value) (m:Hp) (d:List Tm),q=l.length-i/\s=[(1,vv),(2,.pt g2),(4,.nl),(5,w),(6,.w k),(7,v7),(8,.bool b),(9,.w i)]/\h3.le S/\u=[m]/\i<=l.length/\OwnL D6 3 79 m w d/\((b=false/\d=a)\/(b=true/\OutOk (cn l) f (k+1) d)))
   (l.length-0) _ ⟨0,false,w,m,a,rfl,rfl,Bk,rfl,Z,z,.inl ⟨rfl,rfl⟩⟩ Qs ?_
  rintro q s h4 u ⟨i,b,w,m,d,rfl,rfl,P,rfl,hi,z,M⟩;have g:=g.up P;have n:=n.up P;have O:=O.up P;have y:=N l23 P;have Q:=aA.all (hS.le y);have ow:=z.o1;have hFl:(f.eraseIdx k).length=f.length-1:=List.length_eraseIdx_of_lt hkS;refine X<|U<|G Y<|Qf Cy Y<|Ql Y B8 (Q _ _ Y _)<|E (Aw g.q.rd.any Y B8 Y) Y<|D Y Y<|AY (t:=31) Y (λq1=>?_)<|λq1=>?_
  .refine Qg (Ap Y Y) Y<|Qg (Dg Y Y) Y<|J Y<|B1 Y (λq2=>?_)<|λq2=>?_
   .have T:b=false:=by simpa using q2
    subst T;have M:d=a:=by rcases M with ⟨_,e⟩|⟨e,_⟩;exact e;cases e
    rw[M]at z;have R:i<l.length:=Z
    obtain⟨x,hx⟩:∃x,l[i]=x:=⟨_,Y⟩
    have hxm:x∈l:=by rw[<-hx];exact aq R
    have hxo:x.c∈cn l:=by rw[hcn];exact ai.2 ⟨x,hxm,Y⟩
    have cdim:∀A,Cell h4 A (((AJ v).add (i*3)).add 1) (.w x.c.dim):=λA=>by rw[<-hx];exact(g.q.any (ms:=A)).cell (j:=i) R (f:=1) Y
    have K:∀A,Cell h4 A (((AJ v).add (i*3)).add 0) (.w x.c.id):=λA=>by rw[<-hx];exact(g.q.any (ms:=A)).cell (j:=i) R (f:=0) Y
    refine I<|X<|Ag<|X<|U<|Qf Cy Y<|Ql Y B8 (Q _ _ Y _)<|G Y<|E (BP (i) g.q.rd.any Y B8 A9 Y Y) Y<|Qf Co Y<|Ql Y U3 (cdim _)<|G Y<|E (Aw O.rd.any Y Bb Y) Y<|E (oS Y) Y<|J Y<|Ay Y (λhd=>?_)<|λhd=>?_
    .refine Az<|Aa<|Af<|Ab<|Ad<|G Y<|E (oA Y) Y<|G Y<|Am<|Aq (l.length-(i+1)) _ Z ⟨i+1,false,w,m,a,Y,Y,P,Y,Z,z,.inl ⟨Y,Y⟩⟩ Qs
    .have hd:x.c.dim=(f.length:Int)-2:=Z
     refine I<|X<|AS (n:=11) (bs:=[W,W,W,W,W,W,W,lw,W,lw,lw]) [W,W,W,W,W,W,W,lw,W] Cx V V Y Y<|Qp Y (oG Y CV Bd<|aA.any<|hS.le y)<|QF Cy Y<|QL Y B8 (Q _ _ Y _)<|Qq Y<|Qp Y (BP (i) g.q.rd.any Y B8 A9 Y Y)<|QF B7 Y<|QL Y U3 (K _)<|Qq Y<|Qo 7 Y<|AE (pre:=[]) Y call82 Y (W0 l v x.c.id h4 hK g<|ai.2 ⟨_,hxo,Y⟩) Y Y Y Y<|λrv h5 ms5 l5 hF5=>?_;obtain⟨t,rfl,L,hL,hVt⟩:=hF5;have oL_:=hL.rd.one;refine Qa<|Qo 9 Y<|E (As Y call81 Y<|vV L _ rv v7 h5 hL (O.up t) _) Y<|Qa<|Qo 10 Y<|G Y<|Qa<|Qe<|Ab<|U<|J Y<|Ay Y (λhs=>?_)<|λhs=>?_
     .have hV2:bZ (cn l) x.c.id (f.eraseIdx k):=by rw[<-hs];exact hVt
      have hFc:eY (cn l) f k x.c.id:=⟨x.c,hxo,Y,hd,hV2⟩
      have g:=g.up t;have n:=n.up t;have O:=O.up t;have l25:=N y t;have Q:=aA.all (hS.le l25);have K:∀A,Cell h5 A (((AJ v).add (i*3)).add 0) (.w x.c.id):=λA=>(K A).le t;have osb:(sv (Ba ((1:Int)-2*((k:Int)%2)).natAbs)).oneCell'=true:=rfl;have hOl:=hO.1;refine AS (n:=16) (bs:=[W,W,W,W,W,W,W,W,W,W,W,W,W,lw,lw,lw]) [W,W,W,W,W,W,W,W,W,W,W,W,W] Cx V V Y Y<|Qq Y<|QF Cy Y<|QL Y B8 (Q _ _ Y _)<|Qq Y<|Qp Y (BP (i) g.q.rd.any Y B8 A9 Y Y)<|QF B7 Y<|QL Y U3 (K _)<|Qq Y<|Qp Y (Eh Y Y Y Z Z)<|Qp Y (oM Y)<|Qp Y (oS Y)<|Qp Y (As Y call25 Y<|H3 (1-2*((k:Int)%2)) (by unfold Cb;omega) _ _) ?_;refine Qp Y (AQ ZI [.w 0,.bool false,.es] [(0,_),(1,_)] [_,_,_] Y Cv Y Y Qt Y)<|Qo 13 Y<|AB [_,_,_] Y Ct Cv Y ξ Y Y Z Y Y Y<|λg71=>Qw<|Qo 14 Y<|AL 1 z (aB.one EX (x:=((x.c.id,1-2*((k:Int)%2)):Tm)) Mh Y) Y Ct Cv Y Z Y Y Y D3 (by(try simp only[ae]);omega) (by(try simp only[ae]);omega) rfl rfl rfl<|λv9 m9 hO9=>?_;have o9:=hO9.o1;refine Qw<|Qo 15 Y<|G Y<|Qw<|Qe<|D2<|Ad<|G Y<|E (oA Y) Y<|G Y<|Am ?_;rw[bp hs];refine AU<|Aq (l.length-(i+1)) _ Z ⟨i+1,true,v9,m9,_,Y,Y,N P t,Y,Z,hO9,.inr ⟨Y,hO.snoc hFc⟩⟩ Qs
     .refine Ah<|D2<|Ad<|G Y<|E (oA Y) Y<|G Y<|Am ?_;rw[dx hs];exact Aq (l.length-(i+1)) _ Z ⟨i+1,false,w,m,a,Y,Y,N P t,Y,Z,z,.inl ⟨Y,Y⟩⟩ Qs
   .have T:b=true:=by simpa using q2
    subst T;have M:OutOk (cn l) f (k+1) d:=by rcases M with ⟨e,_⟩|⟨_,e⟩;cases e;exact e
    refine C<|Ab<|U<|G Y<|J Y<|B1 Y (λq3=>?_)<|λq3=>?_
    .exact lj q3 H
    .refine Ah<|D2<|Ad<|G Y<|E (oA Y) Y<|G Y<|Am<|Aq (f.length-(k+1)) _ Z ⟨k+1,w,m,d,Y,Y,y,Y,Z,z,M⟩ Qs
  .refine DM Y Y<|J Y<|AM Y<|C<|Ab<|U<|G Y<|J Y<|B1 Y (λq3=>?_)<|λq3=>?_
   .refine CT λh6 l6 k6=>U<|J Y<|Aj<|An<|Ae<|Ae<|An<|Ae ?_
    exact Ar Y Y (⟨N l1<|N y l6,Y,.inl Y⟩)
   .have T:b=true:=by simpa using q3
    have M:OutOk (cn l) f (k+1) d:=by rcases M with ⟨e,_⟩|⟨_,e⟩;rw[e]at T;cases T;exact e
    refine Ah<|D2<|Ad<|G Y<|E (oA Y) Y<|G Y<|Am<|Aq (f.length-(k+1)) _ Z ⟨k+1,w,m,d,Y,Y,y,Y,Z,z,M⟩ Qs
 .obtain rfl:k=f.length:=Z
  refine CQ z λh3 l3 hQ=>?_
  have hab:∀l:List Tm,(∀p∈l,p.2.natAbs<=1)->Bi l<=l.length:=by
   intro l
   induction l with
   | nil=>intro _;exact fm _
   | cons p l ih=>
    intro h;have h1:=h p ao;have h2:=ih λq hq=>h q (am _ hq);show p.2.natAbs+Bi l<=l.length+1;omega
  have hcf:∀p∈a,p.2.natAbs<=1/\Cb p.1:=λp B=>by obtain⟨j,hj,rfl⟩:=ee B;obtain⟨e1,c,hc,e2,_⟩:=hO.2 j hj;refine⟨by rw[e1];omega,by rw[<-e2];exact hK.cI hc⟩
  have hol:a.length=f.length:=hO.1;have hCh:aE w h3 a:=⟨hQ,Z,λp B=>(hcf p B).2,dr (hab a λp B=>(hcf p B).1) (b7 (show a.length<2^4 by omega) (dn H H))⟩
  refine C<|Ab<|U<|G Y<|Qc call21 Y (IF w a h3 hCh)<|λr h4 ms4 P O=>?_;obtain⟨l4',rfl,hC⟩:=O;refine J Y<|Aj<|Ar Y Y (⟨N l1<|N l2<|N l3 l4',Y,.inr ⟨a,hO,hC⟩⟩)
end
section
open Go.Lin Go.Wd Go.Sm Go.Ch
variable {o:List Cl}
theorem we(R:aF o){x:Cl}(d:x∈o)(c:Int):(x.sd.map λs=>s.2*sgn (Hz o s.1).sd c).sum=0:=by
 rw[<-OW (λc=>(Hz o c).sd)];show Fi (Mm o x) c=0;have k:=R.dim x d;rcases (Z:2<=x.dim\/x.dim=1\/x.dim=0) with h|h|h
 .by_cases b:∃e∈Mm o x,e.2.1=c
  .obtain⟨e,b,rfl⟩:=b;exact(R.tab x d h).sum e b
  .exact(PV λe f q=>b ⟨e,f,q⟩).1
 .unfold Mm;rw[OW]
  have:∀s∈x.sd,s.2*sgn (Hz o s.1).sd c=0:=λs g=>by obtain⟨y,i,e,j⟩:=R.sid x d s g;rw[<-e,EV R.nd i];have a:=R.num y i;unfold Ck at a;have:y.sd=[]:=gu.1 Z;rw[this,Mx,j6]
  exact UI this
 .have a:=R.num x d;unfold Ck at a;have:x.sd=[]:=gu.1 Z;unfold Mm;rw[this];rfl
def bG(o:List Cl)(c e:Int):Int:=if e∈o.map Cl.id then sgn (Hz o e).sd c else 0
theorem eZ(R:aF o){y:Cl}(a:y∈o)(c:Int):bG o c y.id=sgn y.sd c:=by unfold bG;rw[ah (ai.2 ⟨y,a,rfl⟩),EV R.nd a]
theorem I9(R:aF o)(z:List Tm)(c:Int):cf (DV (A8 o) z) c=lin (bG o c) z:=by rw[Xg,ME R.nd λp _ h=>ax λq=>h (af q),<-Sd (λe=>bG o c e*cf z e),List.map_map];congr 1;refine fg λy a=>?_;show cf z y.id*sgn y.sd c=bG o c y.id*cf z y.id;rw[eZ R a,e9]
theorem wf(R:aF o)(a:List Tm)(c:Int):cf (DV (A8 o) (DV (A8 o) a)) c=0:=by
 rw[I9 R,Wu];refine Hx λx b=>?_
 have h:lin (bG o c) x.sd=0:=by rw[<-we R b c];unfold lin;congr 1;refine fg λs f=>?_;obtain⟨y,d,e,_⟩:=R.sid x b s f;rw[<-e,eZ R d,EV R.nd d,e9]
 rw[h,j6]
theorem wg(R:aF o){x a:List Tm}(h:∀c,cf x c=cf (DV (A8 o) a) c):bz o x=true:=by rw[Ij];intro c;rw[I9 R,<-wf R a c,I9 R (DV (A8 o) a)];rw[ME R.nd λp _ h=>ax λq=>h (af q),ME R.nd λp _ h=>ax λq=>h (af q)];exact Bt λi _=>by rw[h]
end
section
open Go.Lin Go.Wd Go.Sm Go.Ch
variable {o:List Cl}
theorem vtF_mem{C ids:List Int}{x:Int}:x∈vtF C ids<->x∈C/\x∈ids:=by
 unfold vtF;rw[iv];constructor
 .rintro⟨d,c,h⟩;obtain⟨b,a⟩:=dp.1 h;have a:=dd a;subst a;exact⟨b,c⟩
 .rintro⟨b,a⟩;exact⟨x,a,dp.2 ⟨b,bp Y⟩⟩
theorem bZ.mem(R:aF o){e:Int}(c:e∈o.map Cl.id){L:List Int}(d:bZ o e L){x:Int}(a:aV (sdI o) e x)(b:x∈AZ o 0):x∈L:=by obtain⟨M,I,rfl⟩:=d;exact vtF_mem.2 ⟨(vR R c I x).2 a,b⟩
def cF(o:List Cl):Prop:=∀y∈o,y.dim=1->∃a b,y.sd=[(a,-1),(b,1)]/\a<b
theorem Ro(R:aF o)(E:cF o)(m:∀y∈o,y.dim=0->y.id∈AZ o 0){e p q:Int}{y:Cl}(f:y∈o)(A:y.id=e)(x:y.dim=1)(K:bZ o e [p,q])(u:p<q)(c:Int):bG o c e=(if q=c then 1 else 0)-(if p=c then 1 else 0):=by
 obtain⟨a,b,i,r⟩:=E y f x;subst A;have h:y.id∈o.map Cl.id:=ai.2 ⟨y,f,Y⟩
 have g:∀s∈y.sd,s.1∈([p,q]:List Int):=λs d=>by obtain⟨z,v,j,B⟩:=R.sid y f s d;refine K.mem R h (.step (.refl _) ?_)<|j ▸ m z v Z;unfold sdI;rw[EV R.nd f];exact ai.2 ⟨s,d,Y⟩
 have n:=g (a,-1) (by rw[i];exact ao);have t:=g (b,1) (by rw[i];exact am _ ao);simp only[be,ia,j7]at n t;have k:a=p:=Z
 have l:b=q:=Z
 rw[eZ R f,i,k,l];show(if p=c then(-1:Int) else 0)+((if q=c then(1:Int) else 0)+0)=_;split<;>split<;>omega
theorem Wt(R:aF o)(E:cF o)(f:∀y∈o,y.dim=0->y.id∈AZ o 0){p q r:Int}(j:p<q)(k:q<r){a:List Tm}(O:OutOk o [p,q,r] 3 a)(c:Int):lin (bG o c) a=0:=by
 obtain⟨P,H⟩:=O
 match a,P,H with
 | [x,y,z],_,H=>
  obtain⟨v,c0,g,Q,s,l⟩:=H 0 σ;obtain⟨A,c1,h,S,t,m⟩:=H 1 σ;obtain⟨B,c2,i,T,u,n⟩:=H 2 σ;have b:=Ro R E f g Q s l k c;have d:=Ro R E f h S t m Z c;have e:=Ro R E f i T u n j c;show bG o c x.1*x.2+(bG o c y.1*y.2+(bG o c z.1*z.2+0))=0;have K:x.2=1:=v;have L:y.2=-1:=A;have M:z.2=1:=B;have b:bG o c x.1=_:=b;have d:bG o c y.1=_:=d;have e:bG o c z.1=_:=e;rw[K,L,M,b,d,e];split<;>split<;>split<;>omega
theorem WQ{b:List Int}(k:b.length=3){a:List Tm}(O:OutOk o b 3 a):EL o 1 a=true:=by refine(Du _ _ _).2 λc g=>ax λq=>g (E5 λp i e=>q ?_);obtain⟨j,h,rfl⟩:=ee i;obtain⟨_,y,l,d,f,_⟩:=O.2 j h;exact has_iff.2 ⟨y,l,by rw[d,e],by rw[f,k];rfl⟩
end
section
open Go.Lin Go.Wd Go.Sm Go.Ch
variable {o:List Cl} {r:Value} {h:Hp}
def CycX(o:List Cl)(A N:Nat)(r:Value)(h:Hp):Prop:=∃x,CanL x (cf x)/\aE r h x/\Bi x<=A/\x.length<=N/\EL o 1 x=true/\bz o x=true
theorem CycX.up{A N:Nat}{d:Hp}(C:CycX o A N r h)(q:h.le d):CycX o A N r d:=by obtain⟨x,a,b,c⟩:=C;exact⟨x,a,b.up q,c⟩
theorem CycX.le{A N f g:Nat}(C:CycX o A N r h)(i:A<=f)(j:N<=g):CycX o f g r h:=by obtain⟨x,a,b,c,d,e⟩:=C;exact⟨x,a,b,Z,Z,e⟩
theorem wh{d:Int}{a b:List Tm}(h:∀c,cf a c=cf b c)(e:EL o d b=true):EL o d a=true:=(Du _ _ _).2 λc f=>(Du _ _ _).1 e c (by rw[<-h];exact f)
theorem wi(R:aF o){a x m:List Tm}(n:∀c,cf a c=cf m c)(t:∀p∈m,Ix o 2 p.1=true)(g:∀c,cf x c=cf (DV (A8 o) a) c):EL o 1 x=true/\bz o x=true:=by
 refine⟨wh g ((Du _ _ _).2 λc f=>?_),wg R g⟩;rw[Xg]at f;refine ax λq=>f<|Hx λy B=>?_;by_cases b:cf a y.id=0
 .rw[b,iu]
 .by_cases d:sgn y.sd c=0
  .rw[d,j6]
  .exfalso;have l:Ix o 2 y.id=true:=ax λK=>b (by rw[n];exact E5 λp u e=>K<|e ▸ t p u);obtain⟨z,i,j,L⟩:=has_iff.1 l;obtain rfl:=Ul R i B j;obtain⟨s,v,rfl⟩:=rm d;obtain⟨w,A,k,M⟩:=R.sid z i s v;exact q<|has_iff.2 ⟨w,A,k,Z⟩
theorem wj(R:aF o){x k z a:List Tm}(d:EL o 1 x=true/\bz o x=true)(b:∀c,cf k c=cf a c)(i:EL o 1 a=true)(g:∀c,lin (bG o c) a=0)(e:∀c,cf z c=cf (x++k) c):EL o 1 z=true/\bz o z=true:=by
 constructor
 .refine(Du _ _ _).2 λc h=>?_;rw[e,DQ]at h;by_cases f:cf x c=0
  .exact(Du _ _ _).1 i c (by rw[<-b];omega)
  .exact(Du _ _ _).1 d.1 c f
 .rw[Ij];intro c;rw[I9 R,Ju _ e,D1,Ju _ b,g,<-I9 R,(Ij _ _).1 d.2 c];rfl
theorem Y9{D s:List Int}(a:D.Pairwise (· < ·))(c:s.Sublist D)(b:s.length=3):∃p q r,s=[p,q,r]/\p<q/\q<r:=by
 have P:=a.sublist c
 match s,b,P with
 | [p,q,r],_,P=>
  rw[cg,cg]at P;exact⟨p,q,r,Y,P.1 q σ,P.2.1 r σ⟩
theorem wk{l:List Ce}(h:∀x∈l,x.c.sd.length<=20):(A8 (l.map Ce.c)).length<=20*l.length:=by
 induction l with
 | nil=>exact fm _
 | cons x l ih=>
  have b:=h x ao;have c:=ih λy a=>h y (am _ a);have e:A8 ((x::l).map Ce.c)=(x.c.sd.map λs=>(x.c.id,s))++A8 (l.map Ce.c):=rfl;rw[e,ag,bb,de];omega
theorem wl(R:aF o){b:List Cl}(e:b=o)(E:cF b){D t:List Int}(s:AZ b 0=D)(j:∀y∈o,y.dim=0->y.id∈D)(d:D.Pairwise (· < ·))(A:t.Sublist D)(n:t.length=3)(P:r=.slice none 0 0\/∃a,OutOk b t t.length a/\CanR a r h):∃k a,aE r h k/\k.length<=3/\Bi k<=3/\(∀c,cf k c=cf a c)/\EL o 1 a=true/\∀c,lin (bG o c) a=0:=by
 subst e s;rcases P with rfl|⟨a,O,k,C,X,B,L⟩
 .exact⟨[],[],El h,by decide,by decide,λ_=>rfl,(Du _ _ _).2 λc u=>lj Y u,λ_=>rfl⟩
 .obtain⟨p,q,M,rfl,l,m⟩:=Y9 d A n;have v:a.length=3:=O.1
  have K:Bi a<=3:=by
   match a,v,O.2 with
   | [x,y,z],_,H2=>
    have f:x.2=1:=(H2 0 σ).1;have g:y.2=-1:=(H2 1 σ).1;have i:z.2=1:=(H2 2 σ).1;show x.2.natAbs+(y.2.natAbs+(z.2.natAbs+0))<=3;rw[f,g,i];decide
  exact⟨k,a,X,Z,Z,λc=>C.cf_eq c,WQ Y O,Wt R E j l m O⟩
theorem wn{a b c d:Nat}(h:a<=c)(e:b<=d):a*b<=c*d:=fx h e
set_option exponentiation.threshold 4000000 in
theorem wq(l:List Ce)(v vx vr:Value)(xs rs:List Int)(M:Hp)(Q:QsOk v M l)(hcn:cn l=l.map Ce.c)(E:cF (cn l))(hl:l.length<=60)(hX:aB cI 1 M [] vx xs)(L:aB cI 1 M [] vr rs):aC prog 15 #[.agg #[v],.int .i64 1,vx,vr] M [] (λr g e=>M.le g/\e=[]/\CycX (l.map Ce.c) 300000 2000 r g):=by
 have o1:=Q.X.rd.q.rd.one;have o2:=hX.rd.one;have o3:=L.rd.one;have R:aF (l.map Ce.c):=Q.K.r;have hsl:=wk Q.K.o.s;refine Au func15 ntmps15 Y Y<|λ_ _=>U<|AK [_] Y Y ξ Y Y Y<|λg4=>J Y<|Ak 0 Y λh1 O hS=>X<|AS (n:=8) (bs:=[W,W,W,W,W,lw,lw,lw]) [W,W,W,W,W] Cx V V Y Y<|Qp Y (oG Y CV Bd<|aA.any hS)<|Qp Y (oG Y CV Bd<|aA.any hS)<|Qq Y<|Qp Y (oA Y)<|Qq Y<|Qo 5 Y<|AE (pre:=[]) Y call27 Y (wa l v vx 2 xs h1 (Q.up O)<|hX.up O) Y Y Y Y<|λrM h2 ms2 l2 hF2=>?_;obtain⟨l2',rfl,a,hCa,hRa,haa,hna⟩:=hF2;have hid2:(AZ (cn l) 2).length<=60:=bl (GI _ _) (by rw[Kl];exact hl);have hab:Bi (DV (A8 (l.map Ce.c)) a)<=216000:=bl (WH (RV R)) (bl (wn (c:=1200) (d:=180) Z Z) H);refine Qa<|Qo 6 Y<|AE (pre:=[]) Y call29 Y (OB v rM l a h2 (Q.X.up<|N O l2') hRa (dr hab<|b7 (show 216000<2^20 by decide)<|dn H H) Z) Y Y Y Y<|λrB h3 ms3 l3 hF3=>?_;obtain⟨l3',rfl,x0,n,A,hax,hnx⟩:=hF3;have o4:=A.rd.rd.one;have l13:=N l2' l3';refine Qa<|Qo 7 Y<|G Y<|Qa<|Qe ?_
 have hcy0:CycX (l.map Ce.c) 216000 1200 rB h3:=by
  have hm:∀p∈VI xs (AZ (cn l) 2) (if xs.length=0 then 0 else(AZ (cn l) 2).length),Ix (l.map Ce.c) 2 p.1=true:=λp M=>by
   unfold VI at M;obtain⟨k,hk,rfl⟩:=ai.1 M;have hk:=b6.1 hk;have hk2:k<(AZ (cn l) 2).length:=by split at hk<;>omega
   have:(AZ (cn l) 2).getD k 0∈AZ (cn l) 2:=by rw[show(AZ (cn l) 2).getD k 0=(AZ (cn l) 2)[k] by simp[List.getD,hk2]];exact aq hk2
   exact has_iff.2<|mem_ids.1 this
  have hc0:=wi R (a:=a) (x:=x0) (λc=>hCa.cf_eq c) hm λc=>n.cf_eq c;exact⟨x0,n.congr λc=>(n.cf_eq c).symm,A,Z,Z,hc0⟩
 refine Ab<|U<|Qx (oG Y CV Bd<|aA.any<|hS.le l13) Y<|Qc call35 Y (RE l v 0 h3 Q.K ((Q.up O).up l13).X.rd)<|λrD h4 ms4 l4 hF=>?_;obtain⟨l4',rfl,P⟩:=hF;have l14:=N l13 l4';have oD:=P.rd.one;obtain⟨D,f⟩:∃D,AZ (cn l) 0=D:=⟨_,Y⟩
 have hDi:D.Pairwise (· < ·):=by rw[<-f];exact fo.2 ((Q.K.F.inc).filter _)
 have hDn:D.length<=60:=by rw[<-f];exact bl (GI _ _) (by rw[Kl];exact hl)
 rw[f]at P;have L:=L.up (N O l14);have h0:∀y∈l.map Ce.c,y.dim=0->y.id∈D:=λy hy hy0=>by rw[<-f];exact mem_ids.2 ⟨y,hy,Y,hy0⟩
 refine J Y<|X<|U<|J Y<|Ag ?_
 refine AC (λq s g e=>∃(i:Nat) (w:Value),q=3-i/\s=[(1,.w 1),(3,vr),(4,.pt g4),(8,.nl),(9,w),(10,rD),(11,.w i)]/\h4.le g/\e=[]/\i<=3/\CycX (l.map Ce.c) (216000+3*i) (1200+3*i) w g)
  (3-0) _ ⟨0,rB,rfl,rfl,Bk,rfl,Z,hcy0.up l4'⟩ Qs ?_
 rintro q s h5 e ⟨i,w,rfl,rfl,l5,rfl,hi,hC⟩;have l15:=N l14 l5;have P:=P.up l5;have L:=L.up l5;have ow:w.oneCell'=true:=by obtain⟨x,_,h,_⟩:=hC;exact h.rd.rd.one
 refine X<|U<|AT Y Y<|Qx (Aw L.rd.any Y Bb Y) Y<|AT Y Y<|AY (t:=27) Y (λq1=>?_)<|λq1=>?_
 .refine Qg (Ap Y Y) Y<|Qg (Dw Y Y Y) Y<|J Y<|Ay Y (λq2=>?_)<|λq2=>?_
  .have hir:i<rs.length:=Z
   obtain⟨b,hb⟩:∃b,rs[i]=b:=⟨_,Y⟩
   have cb:∀ms,Cell h5 ms ((AJ vr).add (i*1)) (.w b):=λms=>by rw[<-hb];exact(L.any (ms:=ms)).cell0 hir Y
   refine I<|X<|Ag<|U<|J Y<|BW<|Bu (λs g e=>∃(u:Value) (m:Hp) (t:List Int),s=[(1,.w 1),(3,vr),(4,.pt g4),(8,.nl),(9,w),(10,rD),(11,.w i),(12,u)]/\h5=g/\e=[m]/\OwnL cI 1 3 m u t/\t.Sublist D/\t.length<=3) ?_<|λs h ms hI=>?_
   .refine X<|Ad<|J Y<|Ag ?_
    refine AC (λq s g e=>∃(j:Nat) (u:Value) (m:Hp) (t:List Int),q=D.length-j/\s=[(1,.w 1),(3,vr),(4,.pt g4),(8,.nl),(9,w),(10,rD),(11,.w i),(12,u),(13,.w j)]/\h5=g/\e=[m]/\j<=D.length/\OwnL cI 1 3 m u t/\t.Sublist (D.take j)/\t.length<=3)
     (D.length-0) _ ⟨0,_,Hp.emp,[],rfl,rfl,rfl,rfl,Z,OwnL.nil Bf,List.nil_sublist _,by decide⟩ Qs ?_
    rintro q s g e ⟨j,u,m,t,rfl,rfl,rfl,rfl,hj,K,d,B⟩;have ou:=K.o1;refine X<|U<|AT Y Y<|Qx (Aw P.rd.any Y Bb Y) Y<|AT Y Y<|AY (t:=37) Y (λp1=>?_)<|λp1=>?_
    .refine Qg (Ap Y Y) Y<|Qg (Ky (K.rd (h:=h5) (ms:=[m]) Mh).rd Y Bb Y) Y<|Qg (Ap Y Y) Y<|Qg (oA Y) Y<|Qg (Dw Y Y Y) Y<|J Y<|Ay Y (λp2=>?_)<|λp2=>?_
     .have hjl:j<D.length:=Z
      have cd:=λms=>(P.any (ms:=ms)).cell0 hjl Y;have htk:D.take (j+1)=D.take j++[D[j]]:=ap hjl;refine I<|X<|Ag<|U<|AT Y Y<|Qx (BP (i) L.rd.any Y Bb By Y Y) Y<|Ql Y U3 (cb _)<|G Y<|Qx (X4 (n:=j) Y Y Y Z) Y<|Qx (YT Y Y Y) Y<|J Y<|Ay Y (λhbit=>?_)<|λhbit=>?_
      .refine Ad<|AT Y Y<|G Y<|Qx (BP (j) P.rd.any Y Bb By Y Y) Y<|Ql Y U3 (cd _)<|AB [_] Y Bb By Y ξ Y Y Z Y Y Y<|λg59=>AL 1 K (aB.one Bf (x:=D[j]) Mh Y) Y Bb By Y Z Y Y Y BY (by(try simp only[ae]);omega) (by(try simp only[ae]);omega) rfl rfl rfl<|λu2 m2 hT2=>G rfl<|Am<|D2<|Ad<|G rfl<|Qx (oA rfl) rfl<|G rfl<|Am<|AU ?_;exact Aq (D.length-(j+1)) _ Z ⟨j+1,u2,m2,_,Y,Y,Y,Y,Z,hT2,by rw[htk];exact d.append (lg _),by rw[ag,ae];omega⟩ Qs
      .refine Ah<|D2<|Ad<|G Y<|Qx (oA Y) Y<|G Y<|Am ?_;exact Aq (D.length-(j+1)) _ Z ⟨j+1,u,m,t,Y,Y,Y,Y,Z,K,by rw[htk];exact d.trans (List.sublist_append_left _ _),B⟩ Qs
     .refine C<|AI _ ⟨u,m,t,Y,Y,Y,K,d.trans<|List.take_sublist _ _,B⟩ Qs
    .refine DM Y Y<|DM Y Y<|Qk Y<|J Y<|AM Y<|C<|AI _ ⟨u,m,t,Y,Y,Y,K,d.trans<|List.take_sublist _ _,B⟩ Qs
   .obtain⟨u,m,t,rfl,rfl,rfl,K,d,B⟩:=hI;refine CQ K λh6 l6 S=>?_;have ou:=S.rd.one;have l16:=N l15 l6;refine U<|G Y<|Qx (Aw S.rd.any Y Bb Y) Y<|G Y<|Qx (oA Y) Y<|J Y<|Ay Y (λhl3=>?_)<|λhl3=>?_
    .have ht:t.length=3:=Z
     obtain⟨x,n,A,hax,hnx,hix,hbx⟩:=hC;refine Ad<|G Y<|Qx (oG Y CV Bd<|aA.any<|hS.le l16) Y<|G Y<|AE (pre:=[]) Y call41 Y (Z6 l v u t h6 Q.K hcn ((Q.up O).up l16).X.rd S Z) Y Y Y Y<|λrS h7 ms7 l7 hF7=>?_;obtain⟨l7',rfl,hr⟩:=hF7;obtain⟨k,out,hK1,hK2,hK3,hK4,hK5,hK6⟩:=wl R hcn E f h0 hDi d ht hr;have oS_:=hK1.rd.rd.one;refine AE (pre:=[]) Y call28 Y (MC w rS x k h7 (A.up<|N l6 l7') hK1 Z (by rw[Bp];exact b7 (show Bi x+Bi k<2^20 by omega) (dn H H))) Y Y Y Y<|λrA h8 ms8 l8 hF8=>?_;obtain⟨l8',rfl,z,T,hz2,hz3,hz4⟩:=hF8;have oA_:=hz2.rd.rd.one;have hcz:=wj R (z:=z) ⟨hix,hbx⟩ hK4 hK5 hK6 λc=>T.cf_eq c;rw[Bp]at hz3;rw[ag]at hz4;refine G Y<|Am<|D2<|Ad<|G Y<|Qx (oA Y) Y<|G Y<|Am<|Aq (3-(i+1)) _ Z ⟨i+1,rA,Y,Y,N l5<|N l6<|N l7' l8',Y,Z,z,T.congr λc=>(T.cf_eq c).symm,hz2,Z,Z,hcz⟩ Qs
    .refine Ah<|D2<|Ad<|G Y<|Qx (oA Y) Y<|G Y<|Am<|Aq (3-(i+1)) _ Z ⟨i+1,w,Y,Y,N l5 l6,Y,Z,(hC.up l6).le Z Z⟩ Qs
  .refine C<|Ab<|X<|U<|G Y<|J Y<|Ay Y (λhz=>?_)<|λhz=>?_
   .exfalso;omega
   .refine I<|U<|G Y<|J Y<|Aj<|Ar Y Y (⟨N O l15,Y,hC.le Z Z⟩)
 .refine DM Y Y<|J Y<|AM Y<|C<|Ab<|X<|U<|G Y<|J Y<|Ay Y (λhz=>?_)<|λhz=>?_
  .exfalso;omega
  .refine I<|U<|G Y<|J Y<|Aj<|Ar Y Y (⟨N O l15,Y,hC.le Z Z⟩)
end
section
open Go.Lin Go.Wd Go.Sm Go.Ch
theorem Gl(g:Int->Int)(n:Int):∀l:List Tm,lin g (l.map λt=>((t.1,t.2*n):Tm))=lin g l*n
 | []=>by simp[lin]
 | t::l=>by have a:=Gl g n l;show g t.1*(t.2*n)+lin g (l.map λt=>((t.1,t.2*n):Tm))=(g t.1*t.2+lin g l)*n;rw[a,ko,ji]
theorem D5{v f g:Value}{h:Hp}{d:Int}{l:List Ce}{x y:List Tm}{u:St}{sm:Bool}(T:Tq v f g h d l x y)(F:Fq l d u)(c:sm=true<->∃i,PR (l.map Ce.c) x y i=true)(e:List Hp) :
  aD prog 30 #[.agg #[v],.w d,f,g] h e (.bool sm):=by
 refine D9 ?_ e;have t:=T.Q.X.rd.q.rd.one;have R:=T.Q.K.r;obtain⟨xa,xc,rfl,_⟩:=T.X.rd.rd.ex;obtain⟨ya,yc,rfl,_⟩:=T.Y.rd.rd.ex;refine Au func30 ntmps30 Y Y<|λ_ _=>U<|AK [_] Y Y ξ Y Y Y<|λP=>J Y<|Ak 0 Y λS p b=>?_;have z:=qT b;refine U<|E (oG Y CV Bd<|z _ (Bk) _) Y<|D Y Y<|G Y<|Qc call16 Y (uD (T.up p) F)<|λw h2 s l2 k=>?_;obtain⟨r,rfl,B,K,n1,M,L,n2,O,m,rfl,A⟩:=k;obtain rfl:B=sm:=ki.2 ((A.iff R).trans c.symm);refine D Y Y<|G Y<|BJ [.bool false,.nl,.nl,.bool false,.es] Y GH Y Y<|λQ=>?_;refine Sa 0 [_,_,_,_,_] GH Y (by simp[t,AA]) ?_;refine J Y<|Ak 0 Y λh3 l3 a=>?_;have j:=qC 0 a Y;refine U<|G Y<|E (CP (Cq Y Y Y)<|bh Value.bool<|bp Y) Y<|G Y<|Qg (oF Kc Y) Y<|Qg (oL Y U4<|j _) Y<|G Y<|J Y<|Aj<|Ar Y Y<|Y
end
section
open Go.Lin Go.Wd Go.Sm Go.Ch
variable {o:List Cl} {x y z:List Tm} {h h1:Hp} {n:Int} {r r1:Value}
def XT(o:List Cl)(x y:List Tm):Prop:=∃ch,PR o x y ch=true
theorem N9(R:aF o){e g f i:List Tm}(n m:Int)(h:∀c,cf x c-cf y c=n*(cf e c-cf g c)+m*(cf f c-cf i c)):XT o e g->XT o f i->XT o x y:=λ⟨a,ha⟩ ⟨b,hb⟩=>
 ⟨(a.map λt=>((t.1,t.2*n):Tm))++b.map λt=>((t.1,t.2*m):Tm),(E9 _ _ _ _).2 λc=>by
  have h1:=(E9 _ _ _ _).1 ha c;have d:=(E9 _ _ _ _).1 hb c;rw[I9 R]at h1 d ⊢
  rw[D1,Gl,Gl,h1,d,h,e9 n,e9 m]⟩
theorem K9(R:aF o)(x:List Tm):XT o x x:=⟨[],(E9 _ _ _ _).2 λc=>by rw[I9 R,Int.sub_self];rfl⟩
theorem EW(R:aF o)(h:XT o x y):XT o y x:=N9 R (-1) 0 (λc=>Z) h h
theorem Oo(R:aF o)(h:XT o x y)(a:XT o y z):XT o x z:=N9 R 1 1 (λc=>Z) h a
theorem wr(R:aF o){a b:List Tm}(d:∀c,cf a c=n*cf x c)(e:∀c,cf b c=n*cf y c)(h:XT o x y):XT o a b:=N9 R n 0 (λc=>by rw[d,e,Int.mul_sub];omega) h h
theorem wu(R:aF o){d e:List Tm}(a:∀c,cf d c=cf x c+cf z c)(b:∀c,cf e c=cf y c+cf z c):XT o d e<->XT o x y:=
 ⟨λh=>N9 R 1 0 (λc=>by rw[a,b];omega) h h,λh=>N9 R 1 0 (λc=>by rw[a,b];omega) h h⟩
theorem VY(x:Int):∀j,∀v∈UQ x j,0<=v/\v<(j:Int)
 | 0,v,h=>nomatch h
 | j+1,v,h=>by
  unfold UQ at h;split at h
  .rcases bi.1 h with h|h
   .have:=VY x j v h;omega
   .rw[bj.1 h];omega
  .have:=VY x j v h;omega
theorem Yh(L:List Int):∀l∈W5 L,∀v∈l,0<=v/\v<6:=λl a v b=>by obtain⟨x,_,rfl⟩:=ai.1 a;exact VY x 6 v b
def als:List (List Int):=[[0],[1],[2],[3],[4],[5]]++els++tls++els.map λt=>[0,1,2,3,4,5].filter λv=>!t.contains v
theorem ww:∀u:Fin 6,[(u.val:Int)]∈als:=by decide
theorem wA:∀u v w z:Fin 6,u<v->v<w->w<z->[(u.val:Int),(v.val:Int),(w.val:Int),(z.val:Int)]∈als:=by decide +kernel
theorem wB{t:List Int}(a:VR t)(h:∀v∈t,0<=v/\v<6)(f:t≠[])(e:t.length<=4):t∈als:=by
 match t,f,e with
 | [u],_,_=>
  have h1:=h u σ;have:=ww ⟨u.toNat,Z⟩;simpa only [fq h1.1] using this
 | [u,v],_,_=>exact eg _<|eg _<|ej _<|Xe a h Y
 | [u,v,w],_,_=>exact eg _<|ej _<|YI a h Y
 | [u,v,w,z],_,_=>
  have h1:=h u σ;have b:=h v σ;have c:=h w σ;have d:=h z σ;have g:(u<v/\u<w/\u<z)/\(v<w/\v<z)/\w<z:=by have:=a;unfold VR at this;simpa using this
  have:=wA ⟨u.toNat,Z⟩ ⟨v.toNat,Z⟩ ⟨w.toNat,Z⟩ ⟨z.toNat,Z⟩ (by show u.toNat<v.toNat;omega) (by show v.toNat<w.toNat;omega) (by show w.toNat<z.toNat;omega);simpa only [fq h1.1,fq b.1,fq c.1,fq d.1] using this
theorem wC(a:List Int):DP a a≠true:=by
 have:∀a:List Int,Gm a a=false:=λa=>by
  induction a with
  | nil=>rfl
  | cons x a ih=>unfold Gm;rw[ah rfl,ih]
 unfold DP;rw[af (λq=>q rfl),this];nofun
theorem wD{c:List (List Int)}(f:∀l∈c,∀v∈l,0<=v/\v<6)(i:∀l∈c,l.length<=4):(BU c).length<=56:=by
 cases h:Cd [] c with
 | none=>unfold BU;rw[h];exact fm _
 | some all=>
  have A:=Hv c [] all AllS.nil h;have e:BU c=all.map (sc all):=by unfold BU;rw[h];exact HQ A
  rw[e,bb];have j:all.Nodup:=List.Pairwise.imp (S:=λa b=>a≠b) (λ{a b} q (e:a=b)=>wC a (by rw[<-e]at q;exact q)) A.srt;refine j.length_le_of_subset (l₂:=als) λt d=>wB (A.inc t d) ?_ (A.ne t d)<|Oe c [] all i nofun h t d;rcases GX c [] all AllS.nil h t d with q|⟨l,h1,g⟩
  .cases q
  .exact λv k=>f l h1 v<|g v k
theorem wE(b:List (List Int)):cF (BU b):=by
 cases h:Cd [] b with
 | none=>unfold BU;rw[h];nofun
 | some all=>
  have A:=Hv b [] all AllS.nil h;have e:BU b=all.map (sc all):=by unfold BU;rw[h];exact HQ A
  rw[e];intro y p f;obtain⟨t,a,rfl⟩:=ai.1 p;have f:(t.length:Int)-1=1:=f
  match t,a,(Z:t.length=2) with
  | [u,v],a,_=>
   have m:u<v:=by have:=A.inc _ a;unfold VR at this;simpa using this
   have mu:=A.sub _ a [u] σ σ;have mv:=A.sub _ a [v] σ σ;obtain⟨j,g,d,B⟩:=A.nI_at mu;obtain⟨k,l,c,K⟩:=A.nI_at mv
   have i:j<k:=by
    refine ax λq=>?_;rcases (Z:j=k\/k<j) with rfl|s
    .rw[d]at c;have:u=v:=by simpa using c
     omega
    .have:=bw.1 A.srt k j l g s;rw[d,c]at this;unfold DP Gm at this;rw[af (λq=>q rfl),af Z,io]at this;omega
   refine⟨nI all [u],nI all [v],?_,Z⟩;show CS [(nI all [v],1),(nI all [u],-1)]=_;unfold CS;simp only[it,List.foldl_nil];unfold JQ;rw[List.takeWhile_nil,List.dropWhile_nil,aw,List.takeWhile_cons,List.dropWhile_cons,af (by rw[io];show ¬nI all [v]<=nI all [u];omega),af (by rw[io];show ¬nI all [v]<=nI all [u];omega)];rfl
structure bA(o:List Cl)(r:Value)(h:Hp)(x:List Tm):Prop where
 X:aE r h x
 a:Bi x<2^98
 n:x.length<=10000
 i:EL o 1 x=true
 z:bz o x=true
theorem bA.up{a:Hp}(P:bA o r h x)(q:h.le a):bA o r a x:=⟨P.X.up q,P.a,P.n,P.i,P.z⟩
theorem bA.tq{v c d:Value}{l:List Ce}(P:bA (l.map Ce.c) c h x)(a:bA (l.map Ce.c) d h y)(Q:QsOk v h l)(b:l.length<=200):Tq v c d h 1 l x y:=
 ⟨Q,P.X,a.X,by decide,b,P.i,a.i,P.z,a.z,by have:=P.n;have:=a.n;omega,by have:=P.a;have:=a.a;omega,RG Q b⟩
theorem Xk(R:aF o){p:Value}{m:Int}(P:bA o r1 h1 x)(b:bA o p h1 y)(X:aE r h z)(g:∀c,cf z c=n*cf x c+m*cf y c)(a:Bi z<2^98)(l:z.length<=10000):bA o r h z:=by
 refine⟨X,a,l,(Du _ _ _).2 λc j=>?_,(Ij _ _).2 λc=>?_⟩
 .by_cases h1:cf x c=0
  .refine(Du _ _ _).1 b.i c λi=>j ?_;rw[g,h1,i,j6,j6];rfl
  .exact(Du _ _ _).1 P.i c h1
 .have d:=(Ij _ _).1 P.z c;have e:=(Ij _ _).1 b.z c;rw[I9 R]at d e ⊢;rw[Ju (B:=(x.map λt=>((t.1,t.2*n):Tm))++y.map λt=>((t.1,t.2*m):Tm)) _ λc=>?_,D1,Gl,Gl,d,e,iu,iu];rfl;have f:∀(k:Int) (w:List Tm),cf (w.map λt=>((t.1,t.2*k):Tm)) c=k*cf w c:=λk w=>by rw[M4,M4 w,Gl,e9]
  rw[g,DQ,f,f]
theorem CycX.cyp(C:CycX o 300000 2000 r h):∃x,bA o r h x/\Bi x<=300000/\x.length<=2000:=by obtain⟨x,_,X,a,n,i,z⟩:=C;exact⟨x,⟨X,dr a H,Z,i,z⟩,a,n⟩
theorem XW(R:aF o)(f:Cb n)(P:bA o r1 h1 x)(e:Bi x<=300000)(i:x.length<=2000)(C:CanR (KL n x) r h):∃z,bA o r h z/\∀c,cf z c=n*cf x c:=by obtain⟨z,d,X,a,l⟩:=C;have b:∀c,cf z c=n*cf x c:=λc=>(d.cf_eq c).trans (N7 n x c);have g:(KL n x).length=x.length:=bb ..;refine⟨z,Xk R (n:=n) (m:=0) P P X (λc=>by rw[b];omega) ?_ Z,b⟩;rw[K0]at a;exact dr (bl a<|fx (show n.natAbs<=2^63 by unfold Cb at f;omega) e) H
theorem Ys(R:aF o){f:Value}(P:bA o r1 h1 x)(d:bA o f h1 y)(g:Bi x<=300000/\Bi y<=300000)(i:x.length<=2000/\y.length<=2000)(C:CanR (x++y) r h):∃z,bA o r h z/\∀c,cf z c=cf x c+cf y c:=by obtain⟨z,e,X,a,l⟩:=C;have b:∀c,cf z c=cf x c+cf y c:=λc=>(e.cf_eq c).trans (DQ _ _ _);rw[Bp]at a;rw[ag]at l;exact⟨z,Xk R (n:=1) (m:=1) P d X (λc=>by rw[b];omega) Z Z,b⟩
set_option exponentiation.threshold 4000000 in
theorem YO(c:Cb n){a:Nat}(b:a<=300000):n.natAbs*a<2^2000000:=
 dr (fx (show n.natAbs<=2^63 by unfold Cb at c;omega) b) (b7 (show 2^63*300000<2^99 by decide) (dn H H))
set_option exponentiation.threshold 4000000 in
theorem Yl(a:Bi x<=300000)(b:Bi y<=300000):Bi (x++y)<2^2000000:=by
 rw[Bp];have:Bi x+Bi y<2^20:=Z
 exact b7 this<|dn H H
theorem kC(a:Cb n):Sz n:=Sz.of (B:=64) (show n.natAbs<2^64 by unfold Cb at a;omega) H
end
section
open Go.Lin Go.Wd Go.Sm Go.Ch
theorem Te(L:List Int)(V:List Value)(n:Int)(hn:Cb n)(vL vX:Value)(h:Hp)(hL:aB cI 1 h [] vL L)(hVl:V.length=6)(hV:∀w∈V,∃xs,aB cI 1 h [] w xs)(hc:vX.cells=V.toArray):aC prog 7 #[vL,vX,.int .i64 n] h [] (λr _ _=>r=.bool true):=by
 have oL_:=hL.rd.one;have oV:∀u∈V,u.oneCell'=true:=λu hu=>(hV u hu).elim λ_ q=>q.rd.one;refine Au func7 ntmps7 Y Y<|λ_ _=>U<|AK V Y Y hc Y Y Y<|λg4=>J Y<|Ak 0 Y λh0 l0 hS4=>U<|Qx (As Y call12 Y<|uX _ _) Y<|G Y<|BF<|G Y<|Qc call13 Y (Ti L vL h0<|hL.up l0)<|λr1 h1 ms1 l1 hF=>?_;obtain⟨l1',rfl,v,l,rfl,hR,hl⟩:=hF;have ov:=hR.q.rd.one;refine BJ [.nl] Y Bd Y Y<|λg8=>?_;refine Sa 0 [_] Bd Y (by simp[oL_,ov,AA]) ?_;refine Ao<|Ak 0 Y λh2 l2 hS8=>?_;have l12:=N l1' l2;have l02:=N l0 l12;have hR:=hR.up l2;have Q:QsOk v h2 l:=(vh hR hl).1;have hcn:cn l=l.map Ce.c:=bK.ord ⟨_,hl⟩;have hl56:l.length<=56:=by rw[<-bb (f:=Ce.c),hl];exact wD (Yh L)<|W3 L
 have E:cF (cn l):=by rw[hcn,hl];exact wE _
 have hT0:=RG Q (show l.length<=200 by omega)
 have F:∃s',Fq l 1 s':=by obtain⟨s',q⟩:=vN (Yh L);rw[<-hl,<-hcn]at q;exact⟨s',⟨q⟩⟩
 have M:=qT hS8
 have c4:∀j,j<6->∃w xs,(∀i,h2.le i->∀K,Cell i K ((⟨g4,0,none⟩:Addr).add j) w)/\aB cI 1 h2 [] w xs:=λj hj=>by obtain⟨xs,q⟩:=hV V[j] (aq ω);exact⟨V[j],xs,λi q' K=>((hS4.le (N l12 q')).any) j _ (aj ω),q.up l02⟩
 refine U<|BJ [.nl,.nl,.nl] Y pd Y Y<|λg9=>Ao<|X<|U<|J Y<|Ag<|AC (λq sl i T=>∃(k:Nat) (Z:List Value),3-k=q/\sl=[(2,.w n),(4,.pt g4),(7,.bool true),(8,.pt g8),(9,.pt g9),(18,.w k)]/\h2.le i/\T=[BE g9 65 Z]/\k<=3/\Z.length=3/\∀j,j<k->∀w,Z[j]?=some w->CycX (l.map Ce.c) 300000 2000 w i) (3-0) _ ⟨0,_,Y,Y,Bk,Y,ω,Y,λj hj=>lj hj<|Nat.not_lt_zero _⟩ Qs ?_;rintro q sl i T ⟨k,Z,rfl,rfl,lh,rfl,hk,hZl,hZ⟩;refine U<|J Y<|X<|Ay Y (λhlt=>?_)<|λhlt=>?_
 .have hk3:k<3:=ω
  obtain⟨w0,xs0,cw0,hw0⟩:=c4 (k*2+0*1) ω;obtain⟨w1,xs1,cw1,hw1⟩:=c4 (k*2+1*1) ω;have ow0:=hw0.rd.one;have ow1:=hw1.rd.one;refine I<|X<|Ag<|U<|G Y<|J Y<|AS (n:=13) (bs:=[W,W,W,W,W,W,W,W,W,W,lw,W,lw]) [W,W,W,W,W,W,W,W,W,W,lw,W] Cx κ κ Y Y<|Qq Y<|Qp Y (oG Y CV Bd<|M _ lh _)<|Qq Y<|Qp Y (A5 (k) Y dJ iB Y Y ω ω)<|Qp Y (A5 0 Y eN Fv Y Y Y ω) ?_;refine QL Y Bb (by(rw[BD];exact cw0 _ lh _)) ?_;refine Qq Y<|Qp Y (A5 (k) Y dJ iB Y Y ω ω)<|Qp Y (A5 1 Y eN Fv Y Y Y ω) ?_;refine QL Y Bb (by(rw[BD];exact cw1 _ lh _)) ?_;refine Qp Y (A5 (k) Y JN DO Y Y ω ω)<|Qo 10 Y<|AE (pre:=[]) Y call15 Y (wq l v w0 w1 xs0 xs1 i (Q.up lh) hcn E ω (hw0.up lh)<|hw1.up lh) Y Y Y Y<|λrC h4 ms4 l4 hF=>?_;obtain⟨l4',rfl,hC⟩:=hF;have oC:=hC.elim λ_ q=>q.2.1.rd.rd.one;refine Qa<|Qo 12 Y<|Bl 0 (k*1) Y DO Y Y oC Y Y ω Y Y<|Qa<|Qe<|D2<|Ad<|Qx (oA Y) Y<|G Y<|Am ?_
  exact Aq (3-(k+1)) _ ω ⟨k+1,_,Y,Y,N lh l4',Y,ω,by rw[fh];exact hZl,λj hj w hw=>by
   rw[km]at hw;by_cases e:j=k
   .subst e;rw[List.getElem?_set_self ω]at hw;exact ay hw ▸ hC
   .rw[List.getElem?_set_ne ω]at hw
    exact(hZ j ω w hw).up l4'⟩ Qs
 .have hk:k=3:=ω
  subst hk
  obtain⟨w0,w1,w2,rfl⟩:∃a b c,Z=[a,b,c]:=by
   match Z,hZl with
   | [a,b,c],_=>exact⟨a,b,c,Y⟩
  obtain⟨x0,g,a0,n0⟩:=(hZ 0 ω w0 Y).cyp;obtain⟨x1,A,a1,n1⟩:=(hZ 1 ω w1 Y).cyp;obtain⟨x2,P,a2,n2⟩:=(hZ 2 ω w2 Y).cyp;have R:aF (l.map Ce.c):=Q.K.r;obtain⟨s',F⟩:=F;refine C<|Ab<|Ak 0 Y λh5 l5 hS9=>?_;have f:=N lh l5;have S:=Q.up f;have g:=g.up l5;have A:=A.up l5;have P:=P.up l5;have dec:∀x y,∃b:Bool,b=true<->XT (l.map Ce.c) x y:=λx y=>⟨@decide _ (Classical.propDecidable _),@gk _ (Classical.propDecidable _)⟩
  obtain⟨ab,m⟩:=dec x0 x1;obtain⟨bc,hbc⟩:=dec x1 x2;obtain⟨ac,hac⟩:=dec x0 x2;have d9:=qT hS9;have t:∀i,h5.le i->∀K,Cell i K ((⟨g9,0,none⟩:Addr).add (0*1)) w0:=λi q K=>(d9 i q K) 0 _ Y;have e1:∀i,h5.le i->∀K,Cell i K ((⟨g9,0,none⟩:Addr).add (1*1)) w1:=λi q K=>(d9 i q K) 1 _ Y;have e2:∀i,h5.le i->∀K,Cell i K ((⟨g9,0,none⟩:Addr).add (2*1)) w2:=λi q K=>(d9 i q K) 2 _ Y;have p0:=g.X.rd.rd.one;have p1:=A.X.rd.rd.one;have p2:=P.X.rd.rd.one;have d:l.length<=200:=ω
  refine X<|AS (n:=21) (bs:=[W,W,W,W,W,lw,W,W,W,W,W,lw,W,W,W,W,W,lw,lw,lw,lw]) [W,W,W,W,W,lw,W,W,W,W,W,lw,W,W,W,W,W] Cx κ κ Y Y<|Qp Y (oG Y CV Bd<|M _ f _)<|Qp Y (A5 0 Y JN DO Y Y Y ω)<|QL Y Ct (t _ (Bk) _)<|Qp Y (A5 1 Y JN DO Y Y Y ω)<|QL Y Ct (e1 _ (Bk) _)<|Qp Y (oG Y CV Bd<|M _ f _)<|Qp Y (A5 1 Y JN DO Y Y Y ω)<|QL Y Ct (e1 _ (Bk) _)<|Qp Y (A5 2 Y JN DO Y Y Y ω)<|QL Y Ct (e2 _ (Bk) _)<|Qp Y (oG Y CV Bd<|M _ f _)<|Qp Y (A5 0 Y JN DO Y Y Y ω)<|QL Y Ct (t _ (Bk) _)<|Qp Y (A5 2 Y JN DO Y Y Y ω)<|QL Y Ct (e2 _ (Bk) _)<|Qo 5 Y<|Qx (As Y call30 Y<|D5 (g.tq A S d) F m _) Y<|Qw<|Qo 11 Y<|Qx (As Y call30 Y<|D5 (A.tq P S d) F hbc _) Y<|Qw<|Qo 17 Y<|Qx (As Y call30 Y<|D5 (g.tq P S d) F hac _) Y<|Qw<|Qo 18 Y<|G Y<|Qw<|Qo 19 Y<|G Y<|Qw<|Qo 20 Y<|G Y<|Qw<|Qe ?_
  have hlaw:(ab=true/\bc=true/\ac=true)\/(ab=true/\bc=false/\ac=false)\/(ab=false/\bc=true/\ac=false)\/(ab=false/\bc=false/\ac=true)\/(ab=false/\bc=false/\ac=false):=by have t1:ab=true->bc=true->ac=true:=λp q=>hac.2 (Oo R (m.1 p) (hbc.1 q));have t2:ab=true->ac=true->bc=true:=λp q=>hbc.2 (Oo R (EW R (m.1 p)) (hac.1 q));have t3:bc=true->ac=true->ab=true:=λp q=>m.2 (Oo R (hac.1 q) (EW R (hbc.1 p)));cases ab<;>cases bc<;>cases ac<;>simp at t1 t2 t3 ⊢
  refine Ab<|Bu (λs i T=>s=[(2,.w n),(7,.bool true),(8,.pt g8),(9,.pt g9),(11,.bool ab),(88,.bool false)]/\h5.le i/\T=[]) ?_<|λs h K hI=>?_
  .rcases hlaw with ⟨rfl,rfl,rfl⟩|⟨rfl,rfl,rfl⟩|⟨rfl,rfl,rfl⟩|⟨rfl,rfl,rfl⟩|⟨rfl,rfl,rfl⟩
   .refine X<|Ad<|Qx (oG Y CV Bd<|M _ f _) Y<|Qx (A5 0 Y JN DO Y Y Y ω) Y<|Ql Y Ct (t _ (Bk) _)<|Qx (A5 0 Y JN DO Y Y Y ω) Y<|Ql Y Ct (t _ (Bk) _)<|Qx (As Y call30 Y<|D5 (g.tq g S d) F (sm:=true) ⟨λ_=>K9 R x0,λ_=>rfl⟩ _) Y<|D Y Y<|Qg (Ap Y Y) Y<|Qg (oG Y CV Bd<|M _ f _) Y<|Qg (A5 1 Y JN DO Y Y Y ω) Y<|Qg (oL Y Ct<|e1 _ (Bk) _) Y<|Qg (A5 0 Y JN DO Y Y Y ω) Y<|Qg (oL Y Ct<|t _ (Bk) _) Y<|Qg (As Y call30 Y<|D5 (A.tq g S d) F (m.trans ⟨EW R,EW R⟩) _) Y<|Qg (CP (I6 Y U4 Y Y) Y) Y<|D Y Y<|Qg (Ap Y Y) Y<|Qg (Ap Y Y) Y<|Qg (Ap Y Y) Y<|Qg (Cf Y Y Y) Y<|Qg (Ap Y Y) Y<|Qg (Ap Y Y) Y<|Qg (Dg Y Y) Y<|Qg (Cf Y Y Y) Y<|D Y Y<|Qg (Ap Y Y) Y<|Qg (Ap Y Y) Y<|Qg (Ap Y Y) Y<|Qg (Dg Y Y) Y<|Qg (Cf Y Y Y) Y<|Qg (Ap Y Y) Y<|Qk Y<|Qg (Bv Y Y Y) Y<|J Y<|AM Y<|Ah<|AI _ ⟨Y,Bk,Y⟩ Qs
   .refine X<|Ad<|Qx (oG Y CV Bd<|M _ f _) Y<|Qx (A5 0 Y JN DO Y Y Y ω) Y<|Ql Y Ct (t _ (Bk) _)<|Qx (A5 0 Y JN DO Y Y Y ω) Y<|Ql Y Ct (t _ (Bk) _)<|Qx (As Y call30 Y<|D5 (g.tq g S d) F (sm:=true) ⟨λ_=>K9 R x0,λ_=>rfl⟩ _) Y<|D Y Y<|Qg (Ap Y Y) Y<|Qg (oG Y CV Bd<|M _ f _) Y<|Qg (A5 1 Y JN DO Y Y Y ω) Y<|Qg (oL Y Ct<|e1 _ (Bk) _) Y<|Qg (A5 0 Y JN DO Y Y Y ω) Y<|Qg (oL Y Ct<|t _ (Bk) _) Y<|Qg (As Y call30 Y<|D5 (A.tq g S d) F (m.trans ⟨EW R,EW R⟩) _) Y<|Qg (CP (I6 Y U4 Y Y) Y) Y<|D Y Y<|Qg (Ap Y Y) Y<|Qg (Ap Y Y) Y<|Qg (Ap Y Y) Y<|Qg (Cf Y Y Y) Y<|Qg (Ap Y Y) Y<|DM Y Y<|Qg (Bv Y Y Y) Y<|D Y Y<|Qg (Ap Y Y) Y<|Qg (Ap Y Y) Y<|Qg (Ap Y Y) Y<|Qg (Dg Y Y) Y<|Qg (Cf Y Y Y) Y<|Qg (Ap Y Y) Y<|Qg (Ap Y Y) Y<|Qg (Cf Y Y Y) Y<|J Y<|AM Y<|Ah<|AI _ ⟨Y,Bk,Y⟩ Qs
   .refine X<|Ad<|Qx (oG Y CV Bd<|M _ f _) Y<|Qx (A5 0 Y JN DO Y Y Y ω) Y<|Ql Y Ct (t _ (Bk) _)<|Qx (A5 0 Y JN DO Y Y Y ω) Y<|Ql Y Ct (t _ (Bk) _)<|Qx (As Y call30 Y<|D5 (g.tq g S d) F (sm:=true) ⟨λ_=>K9 R x0,λ_=>rfl⟩ _) Y<|D Y Y<|Qg (Ap Y Y) Y<|Qg (oG Y CV Bd<|M _ f _) Y<|Qg (A5 1 Y JN DO Y Y Y ω) Y<|Qg (oL Y Ct<|e1 _ (Bk) _) Y<|Qg (A5 0 Y JN DO Y Y Y ω) Y<|Qg (oL Y Ct<|t _ (Bk) _) Y<|Qg (As Y call30 Y<|D5 (A.tq g S d) F (m.trans ⟨EW R,EW R⟩) _) Y<|Qg (CP (I6 Y U4 Y Y) Y) Y<|D Y Y<|Qg (Ap Y Y) Y<|Qg (Ap Y Y) Y<|Qk Y<|Qg (Bv Y Y Y) Y<|Qg (Ap Y Y) Y<|DM Y Y<|Qg (Bv Y Y Y) Y<|D Y Y<|Qg (Ap Y Y) Y<|Qg (Ap Y Y) Y<|DM Y Y<|Qg (Bv Y Y Y) Y<|Qg (Ap Y Y) Y<|Qk Y<|Qg (Bv Y Y Y) Y<|J Y<|AM Y<|Ah<|AI _ ⟨Y,Bk,Y⟩ Qs
   .refine X<|Ad<|Qx (oG Y CV Bd<|M _ f _) Y<|Qx (A5 0 Y JN DO Y Y Y ω) Y<|Ql Y Ct (t _ (Bk) _)<|Qx (A5 0 Y JN DO Y Y Y ω) Y<|Ql Y Ct (t _ (Bk) _)<|Qx (As Y call30 Y<|D5 (g.tq g S d) F (sm:=true) ⟨λ_=>K9 R x0,λ_=>rfl⟩ _) Y<|D Y Y<|Qg (Ap Y Y) Y<|Qg (oG Y CV Bd<|M _ f _) Y<|Qg (A5 1 Y JN DO Y Y Y ω) Y<|Qg (oL Y Ct<|e1 _ (Bk) _) Y<|Qg (A5 0 Y JN DO Y Y Y ω) Y<|Qg (oL Y Ct<|t _ (Bk) _) Y<|Qg (As Y call30 Y<|D5 (A.tq g S d) F (m.trans ⟨EW R,EW R⟩) _) Y<|Qg (CP (I6 Y U4 Y Y) Y) Y<|D Y Y<|Qg (Ap Y Y) Y<|Qg (Ap Y Y) Y<|Qk Y<|Qg (Bv Y Y Y) Y<|Qg (Ap Y Y) Y<|DM Y Y<|Qg (Bv Y Y Y) Y<|D Y Y<|Qg (Ap Y Y) Y<|Qg (Ap Y Y) Y<|DM Y Y<|Qg (Bv Y Y Y) Y<|Qg (Ap Y Y) Y<|Qk Y<|Qg (Bv Y Y Y) Y<|J Y<|AM Y<|Ah<|AI _ ⟨Y,Bk,Y⟩ Qs
   .refine X<|Ad<|Qx (oG Y CV Bd<|M _ f _) Y<|Qx (A5 0 Y JN DO Y Y Y ω) Y<|Ql Y Ct (t _ (Bk) _)<|Qx (A5 0 Y JN DO Y Y Y ω) Y<|Ql Y Ct (t _ (Bk) _)<|Qx (As Y call30 Y<|D5 (g.tq g S d) F (sm:=true) ⟨λ_=>K9 R x0,λ_=>rfl⟩ _) Y<|D Y Y<|Qg (Ap Y Y) Y<|Qg (oG Y CV Bd<|M _ f _) Y<|Qg (A5 1 Y JN DO Y Y Y ω) Y<|Qg (oL Y Ct<|e1 _ (Bk) _) Y<|Qg (A5 0 Y JN DO Y Y Y ω) Y<|Qg (oL Y Ct<|t _ (Bk) _) Y<|Qg (As Y call30 Y<|D5 (A.tq g S d) F (m.trans ⟨EW R,EW R⟩) _) Y<|Qg (CP (I6 Y U4 Y Y) Y) Y<|D Y Y<|Qg (Ap Y Y) Y<|Qg (Ap Y Y) Y<|Qk Y<|Qg (Bv Y Y Y) Y<|Qg (Ap Y Y) Y<|DM Y Y<|Qg (Bv Y Y Y) Y<|D Y Y<|Qg (Ap Y Y) Y<|Qg (Ap Y Y) Y<|DM Y Y<|Qg (Bv Y Y Y) Y<|Qg (Ap Y Y) Y<|Qk Y<|Qg (Bv Y Y Y) Y<|J Y<|AM Y<|Ah<|AI _ ⟨Y,Bk,Y⟩ Qs
  .obtain⟨rfl,l6,rfl⟩:=hI;have osn:=AA (Ba n.natAbs);refine U<|G Y<|Qx (As Y call25 Y<|H3 n hn _ _) Y<|BJ [.bool false,.es] Y Av Y Y<|λg14=>?_;refine Sa 0 [_,_] Av Y (by simp[oL_,ov,AA,p0,p1,p2,osn]) ?_;refine Ao<|Ak 0 Y λh7 l7 hS14=>?_;have O:=N l6 l7;have l27:=N f O;have s14:=qT hS14;have Q7:=Q.up l27;have g:=g.up O;have A:=A.up O;have P:=P.up O;refine Bu (λs i T=>s=[(7,.bool true),(8,.pt g8),(9,.pt g9),(11,.bool ab),(104,.bool false)]/\h7.le i/\T=[]) ?_<|λs h K hI=>?_
   .cases ab
    .refine X<|BK 11 Cx κ Y<|Wm Y<|Wm Y<|AF Y Y Y Y Y<|AF Y Y Y Y Y<|AF Y Y Y Y Y<|AF Y Y Y Y Y<|AF Y Y Y Y Y<|AF Y Y Y Y Y<|AF Y Y Y Y Y<|AF Y Y Y Y Y<|AF Y Y Y Y Y<|BB<|DM Y Y<|J Y<|AM Y<|Ah<|AI _ ⟨Y,Bk,Y⟩ Qs
    .refine X<|AS (n:=14) (bs:=[W,lw,lw,lw,lw,lw,lw,lw,lw,lw,lw,lw,lw,lw]) [true] Cx κ κ Y Y<|Qq Y<|Qo 1 Y<|G Y<|Qw<|Bc 2 93 κ Y Y Y Y Y (Bk) Y (oG Y CV Bd<|M _ l27 _)<|Bc 3 94 κ Y Y Y Y Y (Bk) Y (oG Y Bn Av<|s14 _ (Bk) _)<|Bc 4 95 κ Y Y Y Y Y (Bk) Y (A5 0 Y JN DO Y Y Y ω)<|Bc 5 96 κ Y Y Y Y Y (Bk) Y (oL Y Ct<|t _ O _)<|Bc 7 98 κ Y Y Y Y Y (Bk) Y (oG Y Bn Av<|s14 _ (Bk) _)<|Bc 8 99 κ Y Y Y Y Y (Bk) Y (A5 1 Y JN DO Y Y Y ω)<|Bc 9 100 κ Y Y Y Y Y (Bk) Y (oL Y Ct<|e1 _ O _)<|Qo 6 Y<|Dz Y Y Y Y<|AE (pre:=[]) Y call31 Y (OK n w0 x0 h7 g.X (kC hn)<|YO hn a0) Y Y Y Y<|λrA h8 ms8 l8 hF8=>?_;obtain⟨z,rfl,C8⟩:=hF8;obtain⟨z0,Z0,hz0⟩:=XW R hn g a0 n0 C8;refine Qa<|Qo 10 Y<|Dz Y Y Y Y<|AE (pre:=[]) Y call31 Y (OK n w1 x1 h8 (A.X.up z) (kC hn)<|YO hn a1) Y Y Y Y<|λrB h9 ms9 l9 hF9=>?_;obtain⟨B,rfl,C9⟩:=hF9;have l79:=N z B;obtain⟨z1,Z1,hz1⟩:=XW R hn A a1 n1 C9;refine Qa<|Qo 11 Y<|Qg (As Y call30 Y<|D5 ((Z0.up B).tq Z1 (Q7.up<|N z B) d) F (sm:=true) ⟨λ_=>wr R hz0 hz1<|m.1 Y,λ_=>rfl⟩ _) Y<|Qa<|Bc 12 103 κ Y Y Y Y Y (by assumption) Y (Dg Y Y)<|Qo 13 Y<|G Y<|Qa<|Qe<|Ab<|AM Y<|Ah ?_;exact AI _ ⟨Y,N z B,Y⟩ Qs
   .obtain⟨rfl,l10,rfl⟩:=hI;have g:=g.up l10;have A:=A.up l10;have P:=P.up l10;have l2a:=N l27 l10;have l5a:=N O l10;have Q10:=Q.up l2a;refine X<|AS (n:=18) (bs:=[W,lw,lw,lw,lw,lw,lw,lw,lw,lw,lw,lw,lw,lw,lw,lw,lw,lw]) [true] Cx κ κ Y Y<|Qq Y<|Qo 1 Y<|G Y<|Qw<|Bc 2 107 κ Y Y Y Y Y (Bk) Y (oG Y CV Bd<|M _ l2a _)<|Bc 3 108 κ Y Y Y Y Y (Bk) Y (A5 0 Y JN DO Y Y Y ω)<|Bc 4 109 κ Y Y Y Y Y (Bk) Y (oL Y Ct<|t _ l5a _)<|Bc 5 110 κ Y Y Y Y Y (Bk) Y (A5 2 Y JN DO Y Y Y ω)<|Bc 6 111 κ Y Y Y Y Y (Bk) Y (oL Y Ct<|e2 _ l5a _)<|Bc 8 113 κ Y Y Y Y Y (Bk) Y (A5 1 Y JN DO Y Y Y ω)<|Bc 9 114 κ Y Y Y Y Y (Bk) Y (oL Y Ct<|e1 _ l5a _)<|Bc 10 115 κ Y Y Y Y Y (Bk) Y (A5 2 Y JN DO Y Y Y ω)<|Bc 11 116 κ Y Y Y Y Y (Bk) Y (oL Y Ct<|e2 _ l5a _)<|Bc 14 119 κ Y Y Y Y Y (Bk) Y (Ap Y Y)<|Qo 7 Y<|Dz Y Y Y Y<|AE (pre:=[]) Y call28 Y (MC w0 w2 x0 x2 _ g.X P.X ω<|Yl a0 a2) Y Y Y Y<|λrA h8 ms8 l8 hF8=>?_;obtain⟨z,rfl,C8⟩:=hF8;obtain⟨z0,Z0,hz0⟩:=Ys R g P ⟨a0,a2⟩ ⟨n0,n2⟩ C8;refine Qa<|Qo 12 Y<|Dz Y Y Y Y<|AE (pre:=[]) Y call28 Y (MC w1 w2 x1 x2 h8 (A.X.up z) (P.X.up z) ω<|Yl a1 a2) Y Y Y Y<|λrB h9 ms9 l9 hF9=>?_;obtain⟨B,rfl,C9⟩:=hF9;have l79:=N z B;obtain⟨z1,Z1,hz1⟩:=Ys R A P ⟨a1,a2⟩ ⟨n1,n2⟩ C9;refine Qa<|Qo 13 Y<|Qg (As Y call30 Y<|D5 ((Z0.up B).tq Z1 (Q10.up<|N z B) d) F (m.trans (wu R hz0 hz1).symm) _) Y<|Qa<|Bc 15 120 κ Y Y Y Y Y (by assumption) Y (CP (Nt Y U4 Y Y)<|bh Value.bool<|bp Y)<|Qo 16 Y<|G Y<|Qa<|Qo 17 Y<|G Y<|Qa<|Qe<|Ab<|Aj ?_;exact Ar Y Y<|Y
end
section
open Go.Eng Go.ChangeShapes Go.WideShapes Go.ChangeAt Go.RowKit Go.Deep
section
variable {H:Type} {enc:TypeId×Value->H} {w:World} {base:Nat} {spare:Nat->Bool} {held:Bool}
theorem VO{p:Prop}{v:Value}{x:DataW H×List MemPlace}(_:p)(h:∃m,DataW.trod enc prog w base spare held m 64 v.cells.toList=some x):∃O:List Value,O.length=6/\(∀u∈O,∃l,aB cI 1 (whole w) [] u l)/\v.cells=O.toArray:=by
 obtain⟨m,h⟩:=h;refine⟨v.cells.toList,?_,?_,by simp⟩
 .obtain⟨_,_,_,_,c,_⟩:=DataW.trod_array dJ h;exact c.trans V
 .generalize v.cells.toList=cs at h;obtain⟨L,B,_,_,c,z,r⟩:=DataW.trod_array dJ h;have n:prog.cellsOf 64=6:=by kernel_rfl
  have j:prog.cellsOf 23=2:=by kernel_rfl
  have g:prog.cellsOf 22=1:=by kernel_rfl
  rw[n]at c;intro u y;obtain⟨i,b,rfl⟩:=ee y;have d:=r (i/2) Z;rw[j,aj Z]at d;obtain⟨M,K,_,_,t,A,s⟩:=DataW.trod_array eN d;have a:=s (i%2) Z;rw[g,aj Z]at a
  have e:(((cs.drop (i/2*2)).take 2).drop (i%2*1)).take 1=[cs[i]]:=by
   refine ic λk=>?_;rw[gl];by_cases f:k<1
   .obtain rfl:k=0:=Z
    rw[ah f,List.getElem?_drop,gl,ah Z,List.getElem?_drop,show i/2*2+(i%2*1+0)=i by omega,aj b];rfl
   .rw[af f,fk (by simp;omega)]
  rw[e]at a;obtain⟨l,R,_⟩:=Xw a;exact⟨l,R⟩
end
end
end Go.Proofs.Q