/- A part of the proof. -/
import Derived.Test.YtmgaeedkcecckaaGreatDoorSI
set_option linter.unusedSimpArgs false
set_option linter.unusedVariables false
set_option linter.unusedSectionVars false
set_option maxRecDepth 100000
set_option maxHeartbeats 4000000
open List (length_map length_singleton getElem_mem length_append nil_append length_take mem_cons cons_append mem_cons_self length_nil length_drop take_length take_of_length_le)
namespace Go.Proofs.Q
open Go.Proofs.Tryz
open Go.Eng Go.RowKit
section
theorem TP(l:List Ce)(v vq:Value)(z:Int)(P:Hp)(K:RgC l)(L:RdC P v l)(Q:RdL cI 1 P [] vq [z])(hc:z∈(cn l).map Cl.id):FnT prog 132 #[.agg #[v],vq] P [] (λr B c=>P.le B/\∃m M,c=[m]/\OwnL cI 1 3 m r (KE (cn l) M (cn l).length)/\ReI (cn l) z M []):=by
 have o1:=L.q.rd.one;have o2:=Q.rd.one;have hln:=K.r.n;rw[bb]at hln;refine Au func132 ntmps132 Y Y<|λ_ _=>U<|AK [_] Y Y ξ Y Y Y<|λg2=>J Y<|Ak 0 Y λh1 l1 hS=>?_;have L:=L.up l1;have Q:=Q.up l1;refine U<|E (oG Y CV Bd<|Seg.any hS) Y<|Qc call74 Y (NN l v h1 K.r.cs L)<|λrC h2 ms2 l2 T=>?_;obtain⟨l2',mC,A,rfl,h,d,f⟩:=T;rw[LW K.r]at d;obtain⟨o,O⟩:∃o,cn l=o:=⟨_,Y⟩
 have d:A.map Ce.c=o:=by rw[d,<-O];rfl
 have F:RgtF o:=by rw[<-O];exact K.F
 have G:=F.rgt;rw[O]at hc;rw[O];have S:A.length=o.length:=by rw[<-d,bb]
 have hol:o.length<=4000:=G.n;have oC:=h.o1;refine J Y<|CQ h λh3 l3 e=>?_;have f:∀a∈A,RdL cD 2 h3 [] a.v a.c.sd:=λa ha=>(f a ha).up l3;have t:=N l2' l3;have hge:∀i (hi:i<A.length),o[i]'Z=A[i].c:=λi hi=>by subst d;simp
 refine U<|D Y Y ?_;refine Qc call167 Y (Wq A rC vq z h3 (by rw[d];exact F) (by rw[d];exact hc) e f<|Q.up t)<|λrM h4 ms4 l4 T=>?_;obtain⟨u,mM,M,rfl,j,hI⟩:=T;rw[d]at hI;have oM_:=j.o1;have e:=e.up u;refine J Y<|CQ j λh5 l5 hB=>?_;have e:=e.up l5;refine U<|J Y<|X<|U<|J Y<|Ag<|BW ?_
 refine AC (λq sl B c=>∃(i:Nat) (R:Value) (m:Hp),q=A.length-i/\sl=[(4,.nl),(5,rC),(6,rM),(7,R),(8,.w i)]/\h5=B/\c=[m]/\i<=A.length/\OwnL cI 1 3 m R (KE o M i))
  (A.length-0) _ ⟨0,_,Hp.emp,rfl,rfl,rfl,rfl,Z,OwnL.nil Bf⟩ Qs ?_
 rintro q sl B c ⟨i,R,m7,rfl,rfl,rfl,rfl,hi,b⟩;have ov7:=b.o1;refine X<|U<|D Y Y<|E (Aw e.rd.any Y B8 Y) Y<|J Y<|Ay Y (λhlt=>?_)<|λhlt=>?_
 .have n:i<A.length:=Z
  have p:i<o.length:=Z
  have k:i<M.length:=by rw[hI.len];exact p
  obtain⟨x,hx⟩:∃x,A[i]=x:=⟨_,Y⟩
  have hxo:o.getD i default=x.c:=by rw[show o.getD i default=o[i] by simp[List.getD,p],hge i n,hx]
  have cb:=λy=>(hB.any (ms:=y)).cell0 k Y;have cx:∀y,Cell h5 y (((AJ rC).add (i*3)).add 0) (.w x.c.id):=λy=>by rw[<-hx];exact(e.any (ms:=y)).cell (j:=i) n (f:=0) Y
  have s:=Aan o M i;rw[hxo,show M.getD i false=M[i] by simp[List.getD,k]]at s
  have hfl:(KE o M i).length<=4000:=by unfold KE;rw[bb];exact bl (fj _ _) (by rw[ik];omega)
  refine I<|X<|Ag<|U<|D Y Y<|E (BP (i) hB.rd.any Y Ad8 el4 Y Y) Y<|Ql Y U4 (cb _)<|Ao<|B1 Y (λhb=>?_)<|λhb=>?_
  .rw[hb,ah rfl]at s;refine Ad<|D Y Y<|Qm Y<|E (BP (i) e.rd.any Y B8 A9 Y Y) Y<|Qf B7 Y<|Ql Y U3 (cx _)<|AB [_] Y Bb By Y ξ Y Y Z Y Y Y<|λg30=>AL 1 b (RdL.one Bf (x:=x.c.id) Mh Y) Y Bb By Y Z Y Y Y BY (by(try simp only[ae]);omega) (by(try simp only[ae]);omega) rfl rfl rfl<|λv9 m9 g=>?_;rw[<-s]at g;have ov9:=g.o1;refine Qm Y<|Am<|D2<|Ad<|Qm Y<|E (oA Y) Y<|Qm Y<|Am<|AU<|Aq (A.length-(i+1)) _ Z ⟨i+1,v9,m9,Y,Y,Y,Y,Z,g⟩ Qs
  ·rw[hb,if_neg (by decide),List.append_nil]at s;refine Ah<|D2<|Ad<|Qm Y<|E (oA Y) Y<|Qm Y<|Am ?_;exact Aq (A.length-(i+1)) _ Z ⟨i+1,R,m7,Y,Y,Y,Y,Z,by rw[s];exact b⟩ Qs
 .obtain rfl:i=A.length:=Z
  refine C<|Ab<|U<|Qm Y<|J Y<|Aj ?_;exact Ar Y Y (⟨N l1 (N t (N u l5)),m7,M,Y,by rw[S]at b;exact b,hI⟩)
def vtF(C ids:List Int):List Int:=ids.flatMap λd=>C.filter λc=>decide (c=d)
theorem Aa2(C:List Int):∀ids:List Int,(vtF C ids).length<=ids.length*C.length
 | []=>fm _
 | d::ids=>by have b:=Aa2 C ids;have a:(C.filter λc=>decide (c=d)).length<=C.length:=fj _ _;show(C.filter _++vtF C ids).length<=_;rw[ag,de,Nat.succ_mul];omega
theorem Aa8(C ids:List Int){i:Nat}(a:i<ids.length):vtF C (ids.take (i+1))=vtF C (ids.take i)++C.filter λc=>decide (c=ids[i]):=by unfold vtF;rw[ap a,fe];simp
theorem Adb(a b:List Int)(p r:Value)(h:Hp)(d:RdL cI 1 h [] p a)(g:RdL cI 1 h [] r b)(f:List Hp):FnV prog 81 #[p,r] h f (.bool (decide (a=b))):=by
 refine D9 ?_ f;have A:=d.len_le;have B:=g.len_le;have K:=d.rd.one;have L:=g.rd.one;refine Au func81 ntmps81 Y Y<|λ_ _=>U<|J Y<|X<|U<|G Y<|E (Aw d.rd.any Y Bb Y) Y<|G Y<|E (Aw g.rd.any Y Bb Y) Y<|J Y<|Ay Y (λc=>?_)<|λc=>?_
 .refine X<|Ad<|J Y<|Aj<|Ae ?_;exact Ar Y Y (by rw[dx];intro e;rw[e]at c;exact c Y)
 .have x:a.length=b.length:=Z
  refine I<|X<|U<|J Y<|Ag ?_
  refine AC (λq s t l=>∃(k:Nat),q=a.length-k/\s=[(0,p),(1,r),(5,.w k)]/\h=t/\l=[]/\k<=a.length/\a.take k=b.take k)
   (a.length-0) _ ⟨0,rfl,rfl,rfl,rfl,Z,rfl⟩ Qs ?_
  rintro q s t l ⟨k,rfl,rfl,rfl,rfl,z,m⟩;refine X<|U<|D Y Y<|E (Aw d.rd.any Y Bb Y) Y<|J Y<|Ay Y (λn=>?_)<|λn=>?_
  .have i:k<a.length:=Z
   have j:k<b.length:=Z
   have u:=λf=>(d.any (ms:=f)).cell0 i Y;have v:=λf=>(g.any (ms:=f)).cell0 j Y;refine I<|X<|Ag<|X<|BK 8 Cx V Y<|Wm Y<|Wm Y<|BS (BP (k) d.rd.any Y Bb By Y Y) Y Y<|Wl Y U3 (u _)<|Wm Y<|Wm Y<|BS (BP (k) g.rd.any Y Bb By Y Y) Y Y<|Wl Y U3 (v _)<|BB<|J Y<|Ay Y (λc=>?_)<|λc=>?_
   .refine X<|Ad<|J Y<|Aj<|An<|Ae<|Ae<|An<|Ae ?_;exact Ar Y Y (by rw[dx];rintro rfl;exact c Y)
   .refine Ah<|D2<|Ad<|G Y<|E (oA Y) Y<|G Y<|Am<|Aq (a.length-(k+1)) _ Z ⟨k+1,Y,Y,Y,Y,Z,?_⟩ Qs;rw[j9,j9,m,aj i,aj j,Decidable.not_not.1 c]
  .obtain rfl:k=a.length:=Z
   refine C<|Ab<|U<|J Y<|Aj ?_;exact Ar Y Y (by rw[fz,x,fz]at m;rw[bp m])
theorem TR(l:List Ce)(v:Value)(x:Int)(T:Hp)(O:RgC l)(u:RdC T v l)(hc:x∈(cn l).map Cl.id):FnT prog 82 #[.agg #[v],.int .i64 x] T [] (λr e a=>T.le e/\∃m M,a=[m]/\OwnL cI 1 3 m r (vtF (KE (cn l) M (cn l).length) (AZ (cn l) 0))/\ReI (cn l) x M []):=by
 have o1:=u.q.rd.one;refine Au func82 ntmps82 Y Y<|λ_ _=>U<|AK [_] Y Y ξ Y Y Y<|λg2=>J Y<|Ak 0 Y λh1 l1 hS=>?_;have u:=u.up l1;refine U<|E (oG Y CV Bd<|Seg.any hS) Y<|G Y<|AB [_] Y Bb By Y ξ Y Y Z Y Y Y<|λB=>Bm λh2 l2 P=>?_;have hq:RdL cI 1 h2 [] (.slice (some ⟨B,0,none⟩) 1 1) [x]:=RdL.built P Y Y Bf H;refine Qc call132 Y (TP l v _ x h2 O (u.up l2) hq hc)<|λrC h3 ms3 l3 L=>?_;obtain⟨l3',mC,M,rfl,hO,hI⟩:=L;have oC:=hO.o1;refine J Y<|CQ hO λh4 l4 f=>?_;have k:=N l2 (N l3' l4);have z:(cn l).length<=4000:=O.F.rgt.n
 have p:(KE (cn l) M (cn l).length).length<=4000:=by unfold KE;rw[bb];exact bl (fj _ _) (by rw[ik];exact z)
 have K:(AZ (cn l) 0).length<=4000:=bl (GI _ _) z;obtain⟨C,n⟩:∃C,KE (cn l) M (cn l).length=C:=⟨_,Y⟩
 rw[n]at f p;refine U<|E (oG Y CV Bd<|Seg.any<|hS.le k) Y<|Qc call35 Y (RE l v 0 h4 O<|u.up k)<|λrI h5 ms5 l5 L=>?_;obtain⟨A,rfl,g⟩:=L;have f:=f.up A;have oD:=g.rd.one;obtain⟨D,t⟩:∃D,AZ (cn l) 0=D:=⟨_,Y⟩
 rw[t]at g K;have lC:=f.len_le;have lD:=g.len_le;refine G Y<|BF<|J Y<|X<|U<|J Y<|Ag<|BW ?_
 refine AC (λq s e a=>∃(i:Nat) (w:Value) (m:Hp),q=D.length-i/\s=[(5,rC),(6,rI),(7,w),(8,.w i)]/\h5=e/\a=[m]/\i<=D.length/\OwnL cI 1 3 m w (vtF C (D.take i)))
  (D.length-0) _ ⟨0,_,Hp.emp,rfl,rfl,rfl,rfl,Z,OwnL.nil Bf⟩ Qs ?_
 rintro q s e a ⟨i,w,m,rfl,rfl,rfl,rfl,hi,b⟩;refine X<|U<|AT Y Y<|E (Aw g.rd.any Y Bb Y) Y<|J Y<|Ay Y (λS=>?_)<|λS=>?_
 .have y:i<D.length:=Z
  have cd:=λms=>(g.any (ms:=ms)).cell0 y Y;refine I<|X<|Ag<|U<|J Y<|Ag ?_
  refine AC (λq s e a=>∃(j:Nat) (w:Value) (m:Hp),q=C.length-j/\s=[(5,rC),(6,rI),(7,w),(8,.w i),(9,.w j)]/\h5=e/\a=[m]/\j<=C.length/\OwnL cI 1 3 m w (vtF C (D.take i)++(C.take j).filter λc=>decide (c=D[i])))
   (C.length-0) _ ⟨0,w,m,rfl,rfl,rfl,rfl,Z,by simpa using b⟩ Qs ?_
  rintro q s e a ⟨j,w,m,rfl,rfl,rfl,rfl,hj,b⟩;have ow:=b.o1;refine X<|U<|AT Y Y<|E (Aw f.rd.any Y Bb Y) Y<|J Y<|Ay Y (λR=>?_)<|λR=>?_
  .have h:j<C.length:=Z
   have hb1:(vtF C (D.take i)++(C.take j).filter λc=>decide (c=D[i])).length<=16004000:=by have e1:=Aa2 C (D.take i);have e2:(D.take i).length*C.length<=4000*4000:=fx (by rw[bf];omega) p;have e3:((C.take j).filter λc=>decide (c=D[i])).length<=4000:=bl (fj _ _) (by rw[bf];omega);rw[ag];omega
   have cc:=λms=>(f.any (ms:=ms)).cell0 h Y;refine I<|X<|Ag<|X<|BK 8 Cx V Y<|Wm Y<|Wm Y<|BS (BP (j) f.rd.any Y Bb By Y Y) Y Y<|Wl Y U3 (cc _)<|Wm Y<|Wm Y<|BS (BP (i) g.rd.any Y Bb By Y Y) Y Y<|Wl Y U3 (cd _)<|BB<|J Y<|Ay Y (λd=>?_)<|λd=>?_
   .refine Ad<|AT Y Y<|G Y<|E (BP (i) g.rd.any Y Bb By Y Y) Y<|Ql Y U3 (cd _)<|AB [_] Y Bb By Y ξ Y Y Z Y Y Y<|λg42=>AL 1 b (RdL.one Bf (x:=D[i]) Mh Y) Y Bb By Y Z Y Y Y BY (by(try simp only[ae]);omega) (by(try simp only[ae]);omega) rfl rfl rfl<|λw2 m2 Q=>G rfl<|Am<|D2<|Ad<|G rfl<|E (oA rfl) rfl<|G rfl<|Am<|AU ?_;exact Aq (C.length-(j+1)) _ Z ⟨j+1,w2,m2,Y,Y,Y,Y,Z,by rw[ap h,jm,jt (by rw[d];exact bp Y),d,<-du];exact Q⟩ Qs
   .refine Ah<|D2<|Ad<|G Y<|E (oA Y) Y<|G Y<|Am ?_;exact Aq (C.length-(j+1)) _ Z ⟨j+1,w,m,Y,Y,Y,Y,Z,by rw[ap h,jm,ju (by rw[io];exact d)];simpa using b⟩ Qs
  .obtain rfl:j=C.length:=Z
   rw[fz,<-Aa8 C D y]at b;refine Br<|D2<|Ad<|G Y<|E (oA Y) Y<|G Y<|Am<|Aq (D.length-(i+1)) _ Z ⟨i+1,w,m,Y,Y,Y,Y,Z,b⟩ Qs
 .obtain rfl:i=D.length:=Z
  rw[fz]at b;refine Br<|Ab<|U<|G Y<|J Y<|Aj ?_;exact Ar Y Y (⟨N l1 (N k A),m,M,Y,by rw[n,t];exact b,hI⟩)
open Go.Lin Go.Wd Go.Sm Go.Ch
theorem Aca(x:Int):Cb (IntKind.i64.wrap x):=by simp only[IntKind.wrap,IntKind.bits,IntKind.signed,Cb];simp;omega
def mdV(L:List Int)(k:Nat):Int:=(IntKind.i64.wrap (L.getD (k%L.length) 0+((k/L.length:Nat):Int)))%7-3
theorem Acm(L:List Int)(k:Nat):-3<=mdV L k/\mdV L k<=3:=by unfold mdV;omega
def VI(L ids:List Int)(n:Nat):List Tm:=(List.range n).map λk=>(ids.getD k 0,mdV L k)
theorem Vf(L ids:List Int)(n:Nat):VI L ids (n+1)=VI L ids n++[(ids.getD n 0,mdV L n)]:=by unfold VI;rw[List.range_succ,cz];rfl
theorem Sh(L ids:List Int):∀n,Bi (VI L ids n)<=3*n
 | 0=>ak _
 | n+1=>by have a:=Sh L ids n;have h:=Acm L n;rw[Vf,Bp];show _+((mdV L n).natAbs+0)<=_;omega
theorem AdS(a b:Int)(c:Cb a)(k:1<=b/\b<=1000000)(h:Hp)(d:List Hp):FnV prog 14 #[.int .i64 a,.int .i64 b] h d (.int .i64 (a%b)):=by
 refine D9 ?_ d;have f:=c.1;have ha2:=c.2;have i:a.tmod b<b:=by have:=Int.tmod_lt_of_pos a (show 0<b by omega);omega
 have j:-b<a.tmod b:=by have:=Int.lt_tmod_of_pos a (show 0<b by omega);omega
 have e:(a.tmod b+b)%b=a%b:=by rw[Int.add_emod_right,Int.tmod_def,Int.sub_mul_emod_self_left]
 refine Au func14 ntmps14 Y Y<|λ_ _=>U<|G Y<|BF<|D Y Y<|E (AbK Y Y Y Z) Y<|G Y<|E (oA Y) Y<|G Y<|E (Eh Y Y Y Z Z) Y<|J Y<|Aj ?_;exact Ar Y Y (by rw[e])
set_option exponentiation.threshold 4000000 in
theorem Age(l:List Ce)(v O:Value)(d:Int)(L:List Int)(h:Hp)(Q:QsOk v h l)(S:RdL cI 1 h [] O L):FnT prog 27 #[.agg #[v],.int .i64 d,O] h [] (λr f m=>h.le f/\m=[]/\CanV (cf (VI L (AZ (cn l) d) (if L.length=0 then 0 else(AZ (cn l) d).length))) (3*(AZ (cn l) d).length) (AZ (cn l) d).length r f):=by
 have ov:=Q.X.rd.q.rd.one;have oL_:=S.rd.one;refine Au func27 ntmps27 Y Y<|λ_ _=>U<|AK [_] Y Y ξ Y Y Y<|λg3=>J Y<|Ak 0 Y λh1 l1 hS=>U<|E (oG Y CV Bd<|Seg.any hS) Y<|G Y<|Qc call35 Y (RE l v d h1 Q.K<|Q.X.rd.up l1)<|λw h2 ms2 l2 hF=>?_;obtain⟨l2',rfl,P⟩:=hF;have j:=N l1 l2';obtain⟨ids,p⟩:∃ids,AZ (cn l) d=ids:=⟨_,Y⟩
 have hm:(AZ (cn l) d).length<=100:=Q.many d
 have hiI:∀x∈ids,Cb x:=λx t=>by rw[<-p]at t;obtain⟨y,hy,e,_⟩:=mem_ids.1 t;obtain⟨z,hz,rfl⟩:=ai.1 hy;exact e ▸ Q.X.ids z hz
 rw[p]at P hm ⊢;obtain⟨n,hn⟩:∃n,ids.length=n:=⟨_,Y⟩
 rw[hn]at hm ⊢;have ow:=P.rd.one;obtain⟨M,T⟩:∃M,L.length=M:=⟨_,Y⟩
 have hMl:=S.len_le;rw[T]at hMl ⊢;have rI:∀f,h2.le f->∀g,Rd f g w 1 n (ids.flatMap cI):=λf q g=>by have:=((P.up q).rd).any (ms:=g);rwa [hn]at this
 have rL:∀f,h2.le f->∀g,Rd f g O 1 M (L.flatMap cI):=λf q g=>by have:=((S.up (N j q)).rd).any (ms:=g);rwa [T]at this
 refine G Y<|BF<|J Y<|X<|U<|J Y<|Ag<|AC (λq sl f m=>∃(k:Nat) (u:Value),n-k=q/\sl=[(2,O),(7,w),(8,u),(9,.w (k:Int))]/\h2.le f/\m=[]/\k<=n/\(k=0\/0<M)/\CanV (cf (VI L ids k)) (Bi (VI L ids k)) k u f) (n-0) _ ⟨0,_,Y,Y,Bk,Y,Z,.inl Y,[],IZ,El _,fm _,fm _⟩ Qs ?_;rintro q sl f m ⟨k,u,rfl,rfl,i,rfl,hk,hkM,hC⟩;have o8:u.oneCell'=true:=by obtain⟨_,_,q,_⟩:=hC;exact q.rd.rd.one
 have fin:(k=n\/M=0)->CanV (cf (VI L ids (if M=0 then 0 else n))) (3*n) n u f:=λq=>by
  have hk2:k=if M=0 then 0 else n:=by split<;>omega
  obtain⟨x,C,R,a,b⟩:=hC;have:=Sh L ids k;exact⟨x,hk2 ▸ C,R,Z,Z⟩
 refine X<|U<|D Y Y<|E (Aw (rI _ i _) Y Bb Y) Y<|D Y Y<|AY (t:=18) Y (λhs=>?_)<|λhs=>?_
 .refine Qg (Ap Y Y) Y<|Qg (Aw (rL _ i _) Y Bb Y) Y<|Qg (CE Y Y Y) Y<|J Y<|Ay Y (λhMp=>?_)<|λhMp=>?_
  .have hkn:k<n:=Z
   have B:0<M:=Z
   have hkm:k%M<M:=f6 _ B;obtain⟨a,ha⟩:∃a,L[k%M]'Z=a:=⟨_,Y⟩
   obtain⟨c,hc⟩:∃c,ids[k]'Z=c:=⟨_,Y⟩
   have hcI:Cb c:=hiI c (hc ▸ aq _);have ca:∀g,Cell f g ((AJ O).add (k%M*1)) (.w a):=λg=>((S.up (N j i)).any (ms:=g)).cell0 (j:=k%M) Z (by rw[ha];rfl);have cc:∀g,Cell f g ((AJ w).add (k*1)) (.w c):=λg=>((P.up i).any (ms:=g)).cell0 (j:=k) Z (by rw[hc];rfl);have e1:((k:Int)%(M:Int))=((k%M:Nat):Int):=Z
   have e2:((k:Int)/(M:Int))=((k/M:Nat):Int):=Z
   obtain⟨x,t⟩:∃x,mdV L k=x:=⟨_,Y⟩
   have hxb:=Acm L k;rw[t]at hxb
   have hxe:IntKind.i64.wrap (a+((k/M:Nat):Int))%7-3=x:=by rw[<-t];unfold mdV;rw[T,show L.getD (k%M) 0=a by simp[List.getD,T,hkm,ha]]
   have A:VI L ids (k+1)=VI L ids k++[(c,x)]:=by rw[Vf,t,show ids.getD k 0=c by simp[List.getD,hn,hkn,hc]]
   have osx:=AA (Ba x.natAbs);refine I<|X<|Ag<|X<|AS (n:=15) (bs:=[W,W,W,W,W,W,W,W,W,W,W,W,W,W,lw]) [W,W,W,W,W,W,W,W,W,W,W,W,W,W] Cx V V Y Y<|Qq Y<|Qq Y<|Qq Y<|Qp Y (Aw (rL _ i _) Y Bb Y)<|Qp Y (DY (Eh Y Y Y Z Z)<|bh (Value.int .i64) e1)<|Qp Y (AR (k%M) (rL _ i _) Y Bb By Y Y Z Z)<|QL Y U3 (ca _)<|Qq Y<|Qq Y<|Qp Y (Aw (rL _ i _) Y Bb Y)<|Qp Y (DY (Ek Y Y Y Z Z)<|bh (Value.int .i64) e2)<|Qp Y (YJ Y Y Y)<|Qp Y (As Y call14 Y<|AdS _ 7 (Aca _) H _ _)<|Qp Y (DY (oS Y)<|bh (Value.int .i64) hxe)<|Qo 14 Y<|G Y<|Qw<|Qe ?_;obtain⟨l',CL,CR,ha',hb'⟩:=hC;have hal:=Sh L ids k;have hbt:Bi (VI L ids (k+1))=Bi (VI L ids k)+x.natAbs:=by rw[A,Bp];rfl
   have K:Bi l'+x.natAbs<2^2000000:=b7 (show Bi l'+x.natAbs<2^10 by omega) (dn H H);refine Ab<|AS (n:=9) (bs:=[W,W,W,W,W,W,W,lw,lw]) [W,W,W,W,W,W,W] Cx V V Y Y<|Qq Y<|Qq Y<|Qq Y<|Qp Y (AR (k) (rI _ i _) Y Bb By Y Y Z Z)<|QL Y U3 (cc _)<|Qq Y<|Qp Y (As Y call25 Y<|H3 x (by unfold Cb;omega) _ _) ?_;refine Qo 7 Y<|AE (pre:=[]) Y call62 Y (TH u l' _ c x f CR CL hcI Z K) Y Y Y Y<|λw9 h4 ms4 l4 hF=>?_;obtain⟨l4',rfl,s⟩:=hF;have o9:w9.oneCell'=true:=by obtain⟨_,_,q,_⟩:=s;exact q.rd.rd.one
   refine Qa<|Qo 8 Y<|G Y<|Qa<|Qe ?_;have eup:upd (cf (VI L ids k)) c x=cf (VI L ids (k+1)):=by rw[A];exact N6 _ (c,x)
   rw[eup]at s;obtain⟨l5,CL5,CR5,ha5,hb5⟩:=s;refine D2<|Ad<|G Y<|E (oA Y) Y<|G Y<|Am<|Aq (n-(k+1)) _ Z ⟨k+1,w9,Y,Y,N i l4',Y,Z,.inr B,l5,CL5,CR5,Z,Z⟩ Qs
  .have hf:=fin (.inr Z);refine Br<|Ab<|U<|G Y<|J Y<|Aj<|Ar Y Y (⟨N j i,Y,hf⟩)
 .have hf:=fin (.inl Z);refine DM Y Y<|Qk Y<|J Y<|AM Y<|Br<|Ab<|U<|G Y<|J Y<|Aj<|Ar Y Y (⟨N j i,Y,hf⟩)
variable {o:List Cl} {vs:List Int} {k:Nat} {out:List Tm} {e:Int}
def VtR(o:List Cl)(x:Int)(r:List Int):Prop:=∃M,ReI o x M []/\r=vtF (KE o M o.length) (AZ o 0)
theorem W0(l:List Ce)(v:Value)(x:Int)(b:Hp)(d:RgC l)(f:RdC b v l)(g:x∈(cn l).map Cl.id):FnT prog 82 #[.agg #[v],.int .i64 x] b [] (λr c a=>b.le c/\a=[]/\∃L,RdL cI 1 c [] r L/\VtR (cn l) x L):=
 FnT.frz (TR l v x b d f g) λr c a ⟨q,m,M,e,O,I⟩=>⟨m,[],e,λj h i=>⟨N q h,rfl,_,O.rdh i,M,I,rfl⟩⟩
def Agy(o:List Cl)(vs:List Int)(k:Nat)(e:Int):Prop:=∃c∈o,c.id=e/\c.dim=(vs.length:Int)-2/\VtR o e (vs.eraseIdx k)
def AiP(o:List Cl)(vs:List Int)(k:Nat)(out:List Tm):Prop:=out.length=k/\∀j (h:j<out.length),(out[j]:Tm).2=1-2*((j:Int)%2)/\Agy o vs j (out[j]:Tm).1
theorem AiW(R:Rgt o){x:Int}{r b:List Int}(h:VtR o x r)(f:VtR o x b):r=b:=by
 obtain⟨M,I,rfl⟩:=h;obtain⟨d,c,rfl⟩:=f
 have e:KE o M o.length=KE o d o.length:=by unfold KE;rw[List.filter_congr λk a=>ki.2 ((I.all R (b6.1 a)).trans (c.all R (b6.1 a)).symm)]
 rw[e]
def FcI(o:List Cl)(vs:List Int)(k i:Nat):Prop:=(o.getD i default).dim=(vs.length:Int)-2/\VtR o (o.getD i default).id (vs.eraseIdx k)
def FcF(o:List Cl)(vs:List Int)(k:Nat)(e:Int):Prop:=∃i,i<o.length/\FcI o vs k i/\(∀j,j<i->¬FcI o vs k j)/\(o.getD i default).id=e
theorem FcF.ok(h:FcF o vs k e):Agy o vs k e:=by obtain⟨i,c,⟨a,b⟩,_,rfl⟩:=h;exact⟨_,Zn c,Y,a,b⟩
theorem FcF.fun{c:Int}(h:FcF o vs k e)(j:FcF o vs k c):e=c:=by
 obtain⟨i,m,a,b,rfl⟩:=h;obtain⟨d,l,f,g,rfl⟩:=j;rcases iz i d with q|q|q
 .exact lj a<|g i q
 .rw[q]
 .exact lj f<|b d q
def OutD(o:List Cl)(vs:List Int)(k:Nat)(out:List Tm):Prop:=out.length=k/\∀j (h:j<out.length),(out[j]:Tm).2=1-2*((j:Int)%2)/\FcF o vs j (out[j]:Tm).1
theorem OutD.ok(O:OutD o vs k out):AiP o vs k out:=⟨O.1,λj h=>⟨(O.2 j h).1,(O.2 j h).2.ok⟩⟩
theorem OutD.fun{c:List Tm}(O:OutD o vs k out)(d:OutD o vs k c):out=c:=by refine gg (O.1.trans d.1.symm) λj h i=>?_;obtain⟨a,b⟩:=O.2 j h;obtain⟨f,g⟩:=d.2 j i;exact Prod.ext (b.fun g)<|a.trans f.symm
theorem OutD.snoc(O:OutD o vs k out)(h:FcF o vs k e):OutD o vs (k+1) (out++[(e,1-2*((k:Int)%2))]):=by
 refine⟨by rw[ag,O.1];rfl,λj b=>?_⟩;rw[ag,ae]at b;rcases ii j out.length with a|a
 .rw[kh a];exact O.2 j a
 .obtain rfl:j=out.length:=Z
  rw[List.getElem_concat_length rfl,O.1];exact⟨Y,h⟩
def NoFc(o:List Cl)(vs:List Int):Prop:=∃k,k<vs.length/\∀i,i<o.length->¬FcI o vs k i
theorem NoFc.not(N:NoFc o vs)(O:OutD o vs vs.length out):False:=by obtain⟨k,c,h⟩:=N;obtain⟨_,i,b,a,_⟩:=O.2 k (by rw[O.1];exact c);exact h i b a
set_option exponentiation.threshold 4000000 in
theorem Z6(l:List Ce)(v vv:Value)(vs:List Int)(M:Hp)(hK:RgC l)(y:cn l=l.map Ce.c)(d:RdC M v l)(f:RdL cI 1 M [] vv vs)(hvl:vs.length<=8):FnT prog 41 #[.agg #[v],vv] M [] (λr h' n=>M.le h'/\n=[]/\((r=.slice none 0 0/\NoFc (cn l) vs)\/∃out,OutD (cn l) vs vs.length out/\CanR out r h')):=by
 have o1:=d.q.rd.one;have o2:=f.rd.one;have Q_R:Rgt (cn l):=by rw[y];exact hK.r
 have hln:l.length<=4000:=by have:=hK.r.n;rwa [bb]at this
 refine Au func41 ntmps41 Y Y<|λ_ _=>U<|AK [_] Y Y ξ Y Y Y<|λg2=>J Y<|Ak 0 Y λh1 l1 hS=>?_;have d:=d.up l1;have f:=f.up l1;have S:=Seg.all hS;refine U<|J Y<|X<|U<|J Y<|Ag<|BW ?_
 refine AC (λq s h' n=>∃(k:Nat) (w:Value) (m:Hp) (out:List Tm),q=vs.length-k/\s=[(1,vv),(2,.pt g2),(4,.nl),(5,w),(6,.w k)]/\h1.le h'/\n=[m]/\k<=vs.length/\OwnL D6 3 79 m w out/\OutD (cn l) vs k out)
  (vs.length-0) _ ⟨0,_,Hp.emp,[],rfl,rfl,Bk,rfl,Z,OwnL.nil EX,rfl,λj h=>lj h (Nat.not_lt_zero _)⟩ Qs ?_
 rintro q s h2 n ⟨k,w,m,out,rfl,rfl,l2,rfl,hk,u,hO⟩;have d:=d.up l2;have f:=f.up l2;have S:=Seg.all (hS.le l2);have ow:=u.o1;refine X<|U<|D Y Y<|E (Aw f.rd.any Y Bb Y) Y<|J Y<|Ay Y (λhlt=>?_)<|λhlt=>?_
 .have T:k<vs.length:=Z
  refine I<|X<|Ag<|X<|AS (n:=11) (bs:=[lw,W,W,W,lw,W,W,W,W,lw,lw]) [lw,W,W,W,lw,W,W,W,W] Cx V V rfl rfl<|Qq rfl<|Qq rfl<|Qp rfl (DW (k) f.rd.any rfl Bb By rfl rfl Z Z)<|Qq rfl<|Qq rfl<|Qp rfl (oA rfl)<|Qp rfl (Dm (k+1) f.rd.any rfl Bb By rfl rfl Z Z)<|Qo 0 rfl ?_;refine AX [] [] [] rfl Bb By rfl Z V (by repeat (first|exact fu|refine⟨⟨by first|rfl|exact(d.q.rd.any).cells|exact(f.rd.any).cells|exact Rd.cells ‹_›|exact(RdL.rd ‹_›).cells,rfl,rfl⟩,?_⟩)) rfl rfl rfl rfl<|λg16=>?_;refine Qw<|Qo 4 rfl<|AL 0 (Gs g16 Bf) (f.any.sub_ (fm _) hk) rfl Bb By rfl Z rfl rfl rfl BY (by(try simp only[ae,fv,ag,bf,br,aw]);omega) (by(try simp only[ae,fv,ag,bf,br,aw]);omega) rfl rfl rfl<|λv6 m6 hO6=>Qw<|Qo 9 rfl<|AL 0 hO6 (f.any.sub_ T<|ak _) rfl Bb By rfl Z rfl rfl rfl BY (by(try simp only[ae,fv,ag,bf,br,aw]);omega) (by(try simp only[ae,fv,ag,bf,br,aw]);omega) rfl rfl rfl<|λv7 m7 hO7=>Qw<|Qo 10 rfl<|G rfl<|Qw<|Qe ?_
  have heq:[]++(vs.drop 0).take (k-0)++(vs.drop (k+1)).take (vs.length-(k+1))=vs.eraseIdx k:=by rw[js,ix,bm (l:=vs.drop (k+1)) (by rw[br];exact ak _),List.eraseIdx_eq_take_drop_succ];rfl
  rw[heq]at hO7;refine Ab<|CQ hO7 λh3 l3 P=>?_;have l23:=N l2 l3;have d:=d.up l3;have f:=f.up l3;have oF_:=P.rd.one;refine U<|J Y<|X<|U<|J Y<|Ag ?_
  refine AC (λq s h' n=>∃(i:Nat) (b:Bool) (w:Value) (m:Hp) (a:List Tm),q=l.length-i/\s=[(1,vv),(2,.pt g2),(4,.nl),(5,w),(6,.w k),(7,v7),(8,.bool b),(9,.w i)]/\h3.le h'/\n=[m]/\i<=l.length/\OwnL D6 3 79 m w a/\((b=false/\a=out/\∀j,j<i->¬FcI (cn l) vs k j)\/(b=true/\OutD (cn l) vs (k+1) a)))
   (l.length-0) _ ⟨0,false,w,m,out,rfl,rfl,Bk,rfl,Z,u,.inl ⟨rfl,rfl,λj h=>lj h (Nat.not_lt_zero _)⟩⟩ Qs ?_
  rintro q s h4 n ⟨i,b,w,m,a,rfl,rfl,R,rfl,hi,u,K⟩;have d:=d.up R;have f:=f.up R;have P:=P.up R;have t:=N l23 R;have S:=Seg.all (hS.le t);have ow:=u.o1;have hFl:(vs.eraseIdx k).length=vs.length-1:=List.length_eraseIdx_of_lt T;refine X<|U<|G Y<|Qf Cy Y<|Ql Y B8 (S _ _ Y _)<|E (Aw d.q.rd.any Y B8 Y) Y<|D Y Y<|AY (t:=31) Y (λq1=>?_)<|λq1=>?_
  .refine Qg (Ap Y Y) Y<|Qg (Dg Y Y) Y<|J Y<|B1 Y (λq2=>?_)<|λq2=>?_
   .have hb:b=false:=by simpa using q2
    subst hb;obtain⟨K,hNo⟩:a=out/\∀j,j<i->¬FcI (cn l) vs k j:=by rcases K with ⟨_,e⟩|⟨e,_⟩;exact e;cases e
    rw[K]at u;have A:i<l.length:=Z
    obtain⟨x,hx⟩:∃x,l[i]=x:=⟨_,Y⟩
    have hxm:x∈l:=by rw[<-hx];exact aq A
    have hxo:x.c∈cn l:=by rw[y];exact ai.2 ⟨x,hxm,Y⟩
    have z:(cn l).getD i default=x.c:=by rw[y,<-hx];simp[List.getD,A]
    have hil':i<(cn l).length:=by rw[y,bb];exact A
    have Q:¬FcI (cn l) vs k i->∀j,j<i+1->¬FcI (cn l) vs k j:=λq j hj=>by
     by_cases e:j=i
     .subst e;exact q
     .exact hNo j Z
    have cdim:∀B,Cell h4 B (((AJ v).add (i*3)).add 1) (.w x.c.dim):=λB=>by rw[<-hx];exact(d.q.any (ms:=B)).cell (j:=i) A (f:=1) Y
    have O:∀B,Cell h4 B (((AJ v).add (i*3)).add 0) (.w x.c.id):=λB=>by rw[<-hx];exact(d.q.any (ms:=B)).cell (j:=i) A (f:=0) Y
    refine I<|X<|Ag<|X<|U<|Qf Cy Y<|Ql Y B8 (S _ _ Y _)<|G Y<|E (BP (i) d.q.rd.any Y B8 A9 Y Y) Y<|Qf Co Y<|Ql Y U3 (cdim _)<|G Y<|E (Aw P.rd.any Y Bb Y) Y<|E (oS Y) Y<|J Y<|Ay Y (λhd=>?_)<|λhd=>?_
    .refine Az<|Aa<|Af<|Ab<|Ad<|G Y<|E (oA Y) Y<|G Y<|Am ?_;exact Aq (l.length-(i+1)) _ Z ⟨i+1,false,w,m,out,Y,Y,R,Y,Z,u,.inl ⟨Y,Y,Q λq=>by have:=q.1;rw[z]at this;omega⟩⟩ Qs
    .have hd:x.c.dim=(vs.length:Int)-2:=Z
     refine I<|X<|AS (n:=11) (bs:=[W,W,W,W,W,W,W,lw,W,lw,lw]) [W,W,W,W,W,W,W,lw,W] Cx V V Y Y<|Qp Y (oG Y CV Bd<|Seg.any<|hS.le t)<|QF Cy Y<|QL Y B8 (S _ _ Y _)<|Qq Y<|Qp Y (BP (i) d.q.rd.any Y B8 A9 Y Y)<|QF B7 Y<|QL Y U3 (O _)<|Qq Y<|Qo 7 Y<|AE (pre:=[]) Y call82 Y (W0 l v x.c.id h4 hK d<|ai.2 ⟨_,hxo,Y⟩) Y Y Y Y<|λrv h5 ms5 l5 hF5=>?_;obtain⟨g,rfl,L,hL,hVt⟩:=hF5;have oL_:=hL.rd.one;refine Qa<|Qo 9 Y<|E (As Y call81 Y<|Adb L _ rv v7 h5 hL (P.up g) _) Y<|Qa<|Qo 10 Y<|G Y<|Qa<|Qe<|Ab<|U<|J Y<|Ay Y (λhs=>?_)<|λhs=>?_
     .have hV2:VtR (cn l) x.c.id (vs.eraseIdx k):=by rw[<-hs];exact hVt
      have hFc:FcF (cn l) vs k x.c.id:=⟨i,hil',⟨by rw[z];exact hd,by rw[z];exact hV2⟩,hNo,by rw[z]⟩
      have d:=d.up g;have f:=f.up g;have P:=P.up g;have l25:=N t g;have S:=Seg.all (hS.le l25);have O:∀B,Cell h5 B (((AJ v).add (i*3)).add 0) (.w x.c.id):=λB=>(O B).le g;have osb:(sv (Ba ((1:Int)-2*((k:Int)%2)).natAbs)).oneCell'=true:=rfl;have hOl:=hO.1;refine AS (n:=16) (bs:=[W,W,W,W,W,W,W,W,W,W,W,W,W,lw,lw,lw]) [W,W,W,W,W,W,W,W,W,W,W,W,W] Cx V V Y Y<|Qq Y<|QF Cy Y<|QL Y B8 (S _ _ Y _)<|Qq Y<|Qp Y (BP (i) d.q.rd.any Y B8 A9 Y Y)<|QF B7 Y<|QL Y U3 (O _)<|Qq Y<|Qp Y (Eh Y Y Y Z Z)<|Qp Y (oM Y)<|Qp Y (oS Y)<|Qp Y (As Y call25 Y<|H3 (1-2*((k:Int)%2)) (by unfold Cb;omega) _ _) ?_;refine Qp Y (AQ ZI [.w 0,.bool false,.es] [(0,_),(1,_)] [_,_,_] Y Cv Y Y Qt Y)<|Qo 13 Y<|AB [_,_,_] Y Ct Cv Y ξ Y Y Z Y Y Y<|λg71=>Qw<|Qo 14 Y<|AL 1 u (RdL.one EX (x:=((x.c.id,1-2*((k:Int)%2)):Tm)) Mh Y) Y Ct Cv Y Z Y Y Y D3 (by(try simp only[ae]);omega) (by(try simp only[ae]);omega) rfl rfl rfl<|λv9 m9 hO9=>?_;have o9:=hO9.o1;refine Qw<|Qo 15 Y<|G Y<|Qw<|Qe<|D2<|Ad<|G Y<|E (oA Y) Y<|G Y<|Am ?_;rw[bp hs];refine AU<|Aq (l.length-(i+1)) _ Z ⟨i+1,true,v9,m9,_,Y,Y,N R g,Y,Z,hO9,.inr ⟨Y,hO.snoc hFc⟩⟩ Qs
     .refine Ah<|D2<|Ad<|G Y<|E (oA Y) Y<|G Y<|Am ?_;rw[dx hs];exact Aq (l.length-(i+1)) _ Z ⟨i+1,false,w,m,out,Y,Y,N R g,Y,Z,u,.inl ⟨Y,Y,Q λq=>hs<|AiW Q_R hVt (by have:=q.2;rwa [z]at this)⟩⟩ Qs
   .have hb:b=true:=by simpa using q2
    subst hb;have K:OutD (cn l) vs (k+1) a:=by rcases K with ⟨e,_⟩|⟨_,e⟩;cases e;exact e
    refine C<|Ab<|U<|G Y<|J Y<|B1 Y (λq3=>?_)<|λq3=>?_
    .exact lj q3 H
    .refine Ah<|D2<|Ad<|G Y<|E (oA Y) Y<|G Y<|Am<|Aq (vs.length-(k+1)) _ Z ⟨k+1,w,m,a,Y,Y,t,Y,Z,u,K⟩ Qs
  .refine DM Y Y<|J Y<|AM Y<|C<|Ab<|U<|G Y<|J Y<|B1 Y (λq3=>?_)<|λq3=>?_
   .refine CT λh6 l6 k6=>U<|J Y<|Aj<|An<|Ae<|Ae<|An<|Ae ?_
    have hNF:NoFc (cn l) vs:=by
     rcases K with ⟨_,_,e⟩|⟨e,_⟩
     .exact⟨k,T,λj hj=>e j (by rw[y,bb]at hj;omega)⟩
     .rw[e]at q3;cases q3
    exact Ar Y Y (⟨N l1<|N t l6,Y,.inl ⟨Y,hNF⟩⟩)
   .have hb:b=true:=by simpa using q3
    have K:OutD (cn l) vs (k+1) a:=by rcases K with ⟨e,_⟩|⟨_,e⟩;rw[e]at hb;cases hb;exact e
    refine Ah<|D2<|Ad<|G Y<|E (oA Y) Y<|G Y<|Am<|Aq (vs.length-(k+1)) _ Z ⟨k+1,w,m,a,Y,Y,t,Y,Z,u,K⟩ Qs
 .obtain rfl:k=vs.length:=Z
  refine CQ u λh3 l3 hQ=>?_
  have hab:∀l:List Tm,(∀p∈l,p.2.natAbs<=1)->Bi l<=l.length:=by
   intro l
   induction l with
   | nil=>intro _;exact fm _
   | cons p l ih=>
    intro h;have h1:=h p ao;have h2:=ih λq hq=>h q (am _ hq);show p.2.natAbs+Bi l<=l.length+1;omega
  have hcf:∀p∈out,p.2.natAbs<=1/\Cb p.1:=λp M=>by obtain⟨j,hj,rfl⟩:=ee M;obtain⟨e1,c,hc,e2,_⟩:=hO.ok.2 j hj;refine⟨by rw[e1];omega,by rw[<-e2];exact hK.cI hc⟩
  have hol:out.length=vs.length:=hO.1;have hCh:ChR w h3 out:=⟨hQ,Z,λp M=>(hcf p M).2,dr (hab out λp M=>(hcf p M).1) (b7 (show out.length<2^4 by omega) (dn H H))⟩
  refine C<|Ab<|U<|G Y<|Qc call21 Y (IF w out h3 hCh)<|λr h4 ms4 R P=>?_;obtain⟨l4',rfl,hC⟩:=P;refine J Y<|Aj<|Ar Y Y (⟨N l1<|N l2<|N l3 l4',Y,.inr ⟨out,hO,hC⟩⟩)
end
section
open Go.Lin Go.Wd Go.Sm Go.Ch
variable {o:List Cl}
theorem AiH(R:Rgt o){x:Cl}(d:x∈o)(c:Int):(x.sd.map λs=>s.2*sgn (Hz o s.1).sd c).sum=0:=by
 rw[<-OW (λc=>(Hz o c).sd)];show Fi (Mm o x) c=0;have k:=R.dim x d;rcases (Z:2<=x.dim\/x.dim=1\/x.dim=0) with h|h|h
 .by_cases b:∃e∈Mm o x,e.2.1=c
  .obtain⟨e,b,rfl⟩:=b;exact(R.tab x d h).sum e b
  .exact(PV λe f q=>b ⟨e,f,q⟩).1
 .unfold Mm;rw[OW]
  have:∀s∈x.sd,s.2*sgn (Hz o s.1).sd c=0:=λs g=>by obtain⟨y,i,e,j⟩:=R.sid x d s g;rw[<-e,EV R.nd i];have a:=R.num y i;unfold Ck at a;have:y.sd=[]:=gu.1 Z;rw[this,Mx,j6]
  exact UI this
 .have a:=R.num x d;unfold Ck at a;have:x.sd=[]:=gu.1 Z;unfold Mm;rw[this];rfl
def bG(o:List Cl)(c e:Int):Int:=if e∈o.map Cl.id then sgn (Hz o e).sd c else 0
theorem Ac0(R:Rgt o){y:Cl}(a:y∈o)(c:Int):bG o c y.id=sgn y.sd c:=by unfold bG;rw[ah (ai.2 ⟨y,a,rfl⟩),EV R.nd a]
theorem I9(R:Rgt o)(z:List Tm)(c:Int):cf (DV (A8 o) z) c=lin (bG o c) z:=by rw[Xg,ME R.nd λp _ h=>ax λq=>h (af q),<-Sd (λe=>bG o c e*cf z e),List.map_map];congr 1;refine fg λy a=>?_;show cf z y.id*sgn y.sd c=bG o c y.id*cf z y.id;rw[Ac0 R a,e9]
theorem AgA(R:Rgt o)(a:List Tm)(c:Int):cf (DV (A8 o) (DV (A8 o) a)) c=0:=by
 rw[I9 R,Wu];refine Hx λx b=>?_
 have h:lin (bG o c) x.sd=0:=by rw[<-AiH R b c];unfold lin;congr 1;refine fg λs f=>?_;obtain⟨y,d,e,_⟩:=R.sid x b s f;rw[<-e,Ac0 R d,EV R.nd d,e9]
 rw[h,j6]
theorem AhP(R:Rgt o){x a:List Tm}(h:∀c,cf x c=cf (DV (A8 o) a) c):bz o x=true:=by rw[Ij];intro c;rw[I9 R,<-AgA R a c,I9 R (DV (A8 o) a)];rw[ME R.nd λp _ h=>ax λq=>h (af q),ME R.nd λp _ h=>ax λq=>h (af q)];exact Bt λi _=>by rw[h]
end
section
open Go.Lin Go.Wd Go.Sm Go.Ch
variable {o:List Cl}
theorem vtF_mem{C ids:List Int}{x:Int}:x∈vtF C ids<->x∈C/\x∈ids:=by
 unfold vtF;rw[iv];constructor
 .rintro⟨d,c,h⟩;obtain⟨b,a⟩:=dp.1 h;have a:=dd a;subst a;exact⟨b,c⟩
 .rintro⟨b,a⟩;exact⟨x,a,dp.2 ⟨b,bp Y⟩⟩
theorem VtR.mem(R:Rgt o){e:Int}(c:e∈o.map Cl.id){L:List Int}(d:VtR o e L){x:Int}(a:Rch (sdI o) e x)(b:x∈AZ o 0):x∈L:=by obtain⟨M,I,rfl⟩:=d;exact vtF_mem.2 ⟨(Adk R c I x).2 a,b⟩
def Edg(o:List Cl):Prop:=∀y∈o,y.dim=1->∃a b,y.sd=[(a,-1),(b,1)]/\a<b
theorem Ro(R:Rgt o)(E:Edg o)(m:∀y∈o,y.dim=0->y.id∈AZ o 0){e p q:Int}{y:Cl}(f:y∈o)(A:y.id=e)(x:y.dim=1)(K:VtR o e [p,q])(u:p<q)(c:Int):bG o c e=(if q=c then 1 else 0)-(if p=c then 1 else 0):=by
 obtain⟨a,b,i,r⟩:=E y f x;subst A;have h:y.id∈o.map Cl.id:=ai.2 ⟨y,f,Y⟩
 have g:∀s∈y.sd,s.1∈([p,q]:List Int):=λs d=>by obtain⟨z,v,j,B⟩:=R.sid y f s d;refine K.mem R h (.step (.refl _) ?_)<|j ▸ m z v Z;unfold sdI;rw[EV R.nd f];exact ai.2 ⟨s,d,Y⟩
 have n:=g (a,-1) (by rw[i];exact ao);have t:=g (b,1) (by rw[i];exact am _ ao);simp only[be,ia,j7]at n t;have k:a=p:=Z
 have l:b=q:=Z
 rw[Ac0 R f,i,k,l];show(if p=c then(-1:Int) else 0)+((if q=c then(1:Int) else 0)+0)=_;split<;>split<;>omega
theorem Wt(R:Rgt o)(E:Edg o)(f:∀y∈o,y.dim=0->y.id∈AZ o 0){p q r:Int}(j:p<q)(k:q<r){a:List Tm}(O:AiP o [p,q,r] 3 a)(c:Int):lin (bG o c) a=0:=by
 obtain⟨P,H⟩:=O
 match a,P,H with
 | [x,y,z],_,H=>
  obtain⟨v,c0,g,Q,s,l⟩:=H 0 σ;obtain⟨A,c1,h,S,t,m⟩:=H 1 σ;obtain⟨B,c2,i,T,u,n⟩:=H 2 σ;have b:=Ro R E f g Q s l k c;have d:=Ro R E f h S t m Z c;have e:=Ro R E f i T u n j c;show bG o c x.1*x.2+(bG o c y.1*y.2+(bG o c z.1*z.2+0))=0;have K:x.2=1:=v;have L:y.2=-1:=A;have M:z.2=1:=B;have b:bG o c x.1=_:=b;have d:bG o c y.1=_:=d;have e:bG o c z.1=_:=e;rw[K,L,M,b,d,e];split<;>split<;>split<;>omega
theorem WQ{b:List Int}(k:b.length=3){a:List Tm}(O:AiP o b 3 a):EL o 1 a=true:=by refine(Du _ _ _).2 λc g=>ax λq=>g (E5 λp i e=>q ?_);obtain⟨j,h,rfl⟩:=ee i;obtain⟨_,y,l,d,f,_⟩:=O.2 j h;exact has_iff.2 ⟨y,l,by rw[d,e],by rw[f,k];rfl⟩
end
section
open Go.Lin Go.Wd Go.Sm Go.Ch
variable {o oc:List Cl} {D t:List Int} {r:Value} {h:Hp}
def Ai5(o:List Cl)(A N:Nat)(r:Value)(h:Hp):Prop:=∃x,CanL x (cf x)/\ChR r h x/\Bi x<=A/\x.length<=N/\EL o 1 x=true/\bz o x=true
theorem AgC{d:Int}{a b:List Tm}(h:∀c,cf a c=cf b c)(e:EL o d b=true):EL o d a=true:=(Du _ _ _).2 λc f=>(Du _ _ _).1 e c (by rw[<-h];exact f)
theorem Aaa(R:Rgt o){a x m:List Tm}(n:∀c,cf a c=cf m c)(t:∀p∈m,Ix o 2 p.1=true)(g:∀c,cf x c=cf (DV (A8 o) a) c):EL o 1 x=true/\bz o x=true:=by
 refine⟨AgC g ((Du _ _ _).2 λc f=>?_),AhP R g⟩;rw[Xg]at f;refine ax λq=>f<|Hx λy B=>?_;by_cases b:cf a y.id=0
 .rw[b,iu]
 .by_cases d:sgn y.sd c=0
  .rw[d,j6]
  .exfalso;have l:Ix o 2 y.id=true:=ax λK=>b (by rw[n];exact E5 λp u e=>K<|e ▸ t p u);obtain⟨z,i,j,L⟩:=has_iff.1 l;obtain rfl:=Ul R i B j;obtain⟨s,v,rfl⟩:=Ahc d;obtain⟨w,A,k,M⟩:=R.sid z i s v;exact q<|has_iff.2 ⟨w,A,k,Z⟩
theorem AeY(R:Rgt o){x k z a:List Tm}(d:EL o 1 x=true/\bz o x=true)(b:∀c,cf k c=cf a c)(i:EL o 1 a=true)(g:∀c,lin (bG o c) a=0)(e:∀c,cf z c=cf (x++k) c):EL o 1 z=true/\bz o z=true:=by
 constructor
 .refine(Du _ _ _).2 λc h=>?_;rw[e,DQ]at h;by_cases f:cf x c=0
  .exact(Du _ _ _).1 i c (by rw[<-b];omega)
  .exact(Du _ _ _).1 d.1 c f
 .rw[Ij];intro c;rw[I9 R,Ju _ e,D1,Ju _ b,g,<-I9 R,(Ij _ _).1 d.2 c];rfl
theorem Y9{s:List Int}(a:D.Pairwise (· < ·))(c:s.Sublist D)(b:s.length=3):∃p q r,s=[p,q,r]/\p<q/\q<r:=by
 have P:=a.sublist c
 match s,b,P with
 | [p,q,r],_,P=>
  rw[cg,cg]at P;exact⟨p,q,r,Y,P.1 q σ,P.2.1 r σ⟩
theorem AeX{l:List Ce}(h:∀x∈l,x.c.sd.length<=20):(A8 (l.map Ce.c)).length<=20*l.length:=by
 induction l with
 | nil=>exact fm _
 | cons x l ih=>
  have b:=h x ao;have c:=ih λy a=>h y (am _ a);have e:A8 ((x::l).map Ce.c)=(x.c.sd.map λs=>(x.c.id,s))++A8 (l.map Ce.c):=rfl;rw[e,ag,bb,de];omega
def CO(b:Int)(D:List Int):Nat->List Int
 | 0=>[]
 | j+1=>if Aht (b.fdiv (2^j)) 1=1 then CO b D j++[D.getD j 0] else CO b D j
theorem Q7(b:Int)(D:List Int)(i:Nat):∀k,CO b D i <+: CO b D (i+k)
 | 0=>List.prefix_refl _
 | k+1=>by
  refine(Q7 b D i k).trans ?_;show _ <+: CO b D (i+k+1);rw[CO];split
  .exact List.prefix_append _ _
  .exact List.prefix_refl _
def IsSel(b:Int)(D t:List Int):Prop:=∃j,j<=D.length/\t=CO b D j/\t.length<=3/\(j=D.length\/t.length=3)
theorem IsSel.le{b:Int}{i j:Nat}(a:i<=j)(d:j<=D.length)(c:(CO b D j).length<=3)(h:i=D.length\/(CO b D i).length=3):CO b D i=CO b D j:=by
 rcases h with h|h
 .rw[show i=j by omega]
 .obtain⟨k,rfl⟩:∃k,j=i+k:=⟨j-i,Z⟩
  exact(Q7 b D i k).eq_of_length_le Z
theorem IsSel.fun{b:Int}{c:List Int}(h:IsSel b D t)(f:IsSel b D c):t=c:=by
 obtain⟨i,k,rfl,g,e⟩:=h;obtain⟨j,l,rfl,a,d⟩:=f;rcases Nat.le_total i j with q|q
 .exact IsSel.le q l a e
 .exact(IsSel.le q k g d).symm
def SphD(oc:List Cl)(t:List Int)(k:List Tm):Prop:=(k=[]/\NoFc oc t)\/∃out,OutD oc t t.length out/\CanL k (cf out)
theorem SphD.fun{k b:List Tm}(h:SphD oc t k)(f:SphD oc t b):k=b:=by
 rcases h with ⟨rfl,N⟩|⟨g,O,C⟩<;>rcases f with ⟨rfl,e⟩|⟨c,a,d⟩
 .rfl
 .exact(N.not a).elim
 .exact(e.not O).elim
 .obtain rfl:=O.fun a;exact C.ext d λ_=>rfl
def CycD(o oc:List Cl)(xs rs:List Int):Nat->List Tm->Prop
 | 0,x=>∃a,CanL a (cf (VI xs (AZ oc 2) (if xs.length=0 then 0 else(AZ oc 2).length)))/\CanL x (cf (DV (A8 o) a))
 | i+1,z=>∃x t,CycD o oc xs rs i x/\IsSel (rs.getD i 0) (AZ oc 0) t/\((t.length=3/\∃k,SphD oc t k/\CanL z (cf (x++k)))\/(t.length≠3/\z=x))
theorem CycD.fun{d rs:List Int}:∀{i:Nat} {x y:List Tm},CycD o oc d rs i x->CycD o oc d rs i y->x=y
 | 0,x,y,⟨a,h1,h2⟩,⟨b,h3,h4⟩=>by obtain rfl:=h1.ext h3 λ_=>rfl;exact h2.ext h4 λ_=>rfl
 | i+1,z,w,⟨x,t,h1,h2,h3⟩,⟨y,u,h4,h5,h6⟩=>by
  obtain rfl:=CycD.fun h1 h4;obtain rfl:=h2.fun h5;rcases h3 with ⟨e,k,K,C⟩|⟨e,rfl⟩<;>rcases h6 with ⟨c,j,g,f⟩|⟨c,rfl⟩
  .obtain rfl:=K.fun g;exact C.ext f λ_=>rfl
  .exact lj e c
  .exact lj c e
  .rfl
def CycP(o:List Cl)(A N:Nat)(P:List Tm->Prop)(r:Value)(h:Hp):Prop:=∃x,CanL x (cf x)/\ChR r h x/\Bi x<=A/\x.length<=N/\EL o 1 x=true/\bz o x=true/\P x
theorem CycP.up{A N:Nat}{P:List Tm->Prop}{d:Hp}(C:CycP o A N P r h)(q:h.le d):CycP o A N P r d:=by obtain⟨x,a,b,c⟩:=C;exact⟨x,a,b.up q,c⟩
theorem CycP.le{A N f g:Nat}{P:List Tm->Prop}(C:CycP o A N P r h)(i:A<=f)(j:N<=g):CycP o f g P r h:=by obtain⟨x,a,b,c,d,e⟩:=C;exact⟨x,a,b,Z,Z,e⟩
theorem AdH(R:Rgt o)(d:oc=o)(E:Edg oc)(n:AZ oc 0=D)(i:∀y∈o,y.dim=0->y.id∈D)(b:D.Pairwise (· < ·))(A:t.Sublist D)(m:t.length=3)(P:(r=.slice none 0 0/\NoFc oc t)\/∃a,OutD oc t t.length a/\CanR a r h):∃k a,SphD oc t k/\ChR r h k/\k.length<=3/\Bi k<=3/\(∀c,cf k c=cf a c)/\EL o 1 a=true/\∀c,lin (bG o c) a=0:=by
 subst d n;rcases P with ⟨rfl,s⟩|⟨a,OD,k,C,X,B,L⟩
 .exact⟨[],[],.inl ⟨Y,s⟩,El h,by decide,by decide,λ_=>rfl,(Du _ _ _).2 λc u=>lj Y u,λ_=>rfl⟩
 .obtain⟨p,q,M,rfl,j,l⟩:=Y9 b A m;have O:=OD.ok;have v:a.length=3:=O.1
  have K:Bi a<=3:=by
   match a,v,O.2 with
   | [x,y,z],_,H2=>
    have e:x.2=1:=(H2 0 σ).1;have f:y.2=-1:=(H2 1 σ).1;have g:z.2=1:=(H2 2 σ).1;show x.2.natAbs+(y.2.natAbs+(z.2.natAbs+0))<=3;rw[e,f,g];decide
  exact⟨k,a,.inr ⟨a,OD,C⟩,X,Z,Z,λc=>C.cf_eq c,WQ Y O,Wt R E i j l O⟩
theorem Aiy{a b c d:Nat}(h:a<=c)(e:b<=d):a*b<=c*d:=fx h e
set_option exponentiation.threshold 4000000 in
theorem Z1(l:List Ce)(v vx vr:Value)(xs rs:List Int)(T:Hp)(Q:QsOk v T l)(hcn:cn l=l.map Ce.c)(E:Edg (cn l))(hl:l.length<=60)(hX:RdL cI 1 T [] vx xs)(S:RdL cI 1 T [] vr rs):FnT prog 15 #[.agg #[v],.int .i64 1,vx,vr] T [] (λr K e=>T.le K/\e=[]/\CycP (l.map Ce.c) 300000 2000 (CycD (l.map Ce.c) (cn l) xs rs (min rs.length 3)) r K):=by
 have o1:=Q.X.rd.q.rd.one;have o2:=hX.rd.one;have o3:=S.rd.one;have R:Rgt (l.map Ce.c):=Q.K.r;have hsl:=AeX Q.K.o.s;refine Au func15 ntmps15 Y Y<|λ_ _=>U<|AK [_] Y Y ξ Y Y Y<|λg4=>J Y<|Ak 0 Y λh1 l1 hS=>X<|AS (n:=8) (bs:=[W,W,W,W,W,lw,lw,lw]) [W,W,W,W,W] Cx V V Y Y<|Qp Y (oG Y CV Bd<|Seg.any hS)<|Qp Y (oG Y CV Bd<|Seg.any hS)<|Qq Y<|Qp Y (oA Y)<|Qq Y<|Qo 5 Y<|AE (pre:=[]) Y call27 Y (Age l v vx 2 xs h1 (Q.up l1)<|hX.up l1) Y Y Y Y<|λrM h2 ms2 l2 hF2=>?_;obtain⟨l2',rfl,a,hCa,hRa,haa,hna⟩:=hF2;have hid2:(AZ (cn l) 2).length<=60:=bl (GI _ _) (by rw[Kl];exact hl);have hab:Bi (DV (A8 (l.map Ce.c)) a)<=216000:=bl (WH (RV R)) (bl (Aiy (c:=1200) (d:=180) Z Z) H);refine Qa<|Qo 6 Y<|AE (pre:=[]) Y call29 Y (OB v rM l a h2 (Q.X.up<|N l1 l2') hRa (dr hab<|b7 (show 216000<2^20 by decide)<|dn H H) Z) Y Y Y Y<|λrB h3 ms3 l3 hF3=>?_;obtain⟨l3',rfl,x0,A,L,hax,hnx⟩:=hF3;have o4:=L.rd.rd.one;have l13:=N l2' l3';refine Qa<|Qo 7 Y<|G Y<|Qa<|Qe ?_
 have hcy0:CycP (l.map Ce.c) 216000 1200 (CycD (l.map Ce.c) (cn l) xs rs 0) rB h3:=by
  have hm:∀p∈VI xs (AZ (cn l) 2) (if xs.length=0 then 0 else(AZ (cn l) 2).length),Ix (l.map Ce.c) 2 p.1=true:=λp T=>by
   unfold VI at T;obtain⟨k,hk,rfl⟩:=ai.1 T;have hk:=b6.1 hk;have hk2:k<(AZ (cn l) 2).length:=by split at hk<;>omega
   have:(AZ (cn l) 2).getD k 0∈AZ (cn l) 2:=by rw[show(AZ (cn l) 2).getD k 0=(AZ (cn l) 2)[k] by simp[List.getD,hk2]];exact aq hk2
   exact has_iff.2<|mem_ids.1 this
  have hc0:=Aaa R (a:=a) (x:=x0) (λc=>hCa.cf_eq c) hm λc=>A.cf_eq c;exact⟨x0,A.congr λc=>(A.cf_eq c).symm,L,Z,Z,hc0.1,hc0.2,a,hCa,A⟩
 refine Ab<|U<|Qx (oG Y CV Bd<|Seg.any<|hS.le l13) Y<|Qc call35 Y (RE l v 0 h3 Q.K ((Q.up l1).up l13).X.rd)<|λrD h4 ms4 l4 hF=>?_;obtain⟨l4',rfl,hD⟩:=hF;have l14:=N l13 l4';have oD:=hD.rd.one;obtain⟨D,g⟩:∃D,AZ (cn l) 0=D:=⟨_,Y⟩
 have hDi:D.Pairwise (· < ·):=by rw[<-g];exact fo.2 ((Q.K.F.inc).filter _)
 have hDn:D.length<=60:=by rw[<-g];exact bl (GI _ _) (by rw[Kl];exact hl)
 rw[g]at hD;have S:=S.up (N l1 l14);have h0:∀y∈l.map Ce.c,y.dim=0->y.id∈D:=λy hy hy0=>by rw[<-g];exact mem_ids.2 ⟨y,hy,Y,hy0⟩
 refine J Y<|X<|U<|J Y<|Ag ?_
 refine AC (λq s K e=>∃(i:Nat) (w:Value),q=3-i/\s=[(1,.w 1),(3,vr),(4,.pt g4),(8,.nl),(9,w),(10,rD),(11,.w i)]/\h4.le K/\e=[]/\i<=3/\i<=rs.length/\CycP (l.map Ce.c) (216000+3*i) (1200+3*i) (CycD (l.map Ce.c) (cn l) xs rs i) w K)
  (3-0) _ ⟨0,rB,rfl,rfl,Bk,rfl,Z,fm _,hcy0.up l4'⟩ Qs ?_
 rintro q s h5 e ⟨i,w,rfl,rfl,l5,rfl,hi,hi2,hC⟩;have l15:=N l14 l5;have hD:=hD.up l5;have S:=S.up l5;have ow:w.oneCell'=true:=by obtain⟨x,_,h,_⟩:=hC;exact h.rd.rd.one
 refine X<|U<|AT Y Y<|Qx (Aw S.rd.any Y Bb Y) Y<|AT Y Y<|AY (t:=27) Y (λq1=>?_)<|λq1=>?_
 .refine Qg (Ap Y Y) Y<|Qg (Dw Y Y Y) Y<|J Y<|Ay Y (λq2=>?_)<|λq2=>?_
  .have hir:i<rs.length:=Z
   obtain⟨b,hb⟩:∃b,rs[i]=b:=⟨_,Y⟩
   have cb:∀ms,Cell h5 ms ((AJ vr).add (i*1)) (.w b):=λms=>by rw[<-hb];exact(S.any (ms:=ms)).cell0 hir Y
   refine I<|X<|Ag<|U<|J Y<|BW<|Bu (λs K e=>∃(u:Value) (m:Hp) (t:List Int),s=[(1,.w 1),(3,vr),(4,.pt g4),(8,.nl),(9,w),(10,rD),(11,.w i),(12,u)]/\h5=K/\e=[m]/\OwnL cI 1 3 m u t/\t.Sublist D/\t.length<=3/\IsSel b D t) ?_<|λs h ms hI=>?_
   .refine X<|Ad<|J Y<|Ag ?_
    refine AC (λq s K e=>∃(j:Nat) (u:Value) (m:Hp) (t:List Int),q=D.length-j/\s=[(1,.w 1),(3,vr),(4,.pt g4),(8,.nl),(9,w),(10,rD),(11,.w i),(12,u),(13,.w j)]/\h5=K/\e=[m]/\j<=D.length/\OwnL cI 1 3 m u t/\t.Sublist (D.take j)/\t.length<=3/\t=CO b D j)
     (D.length-0) _ ⟨0,_,Hp.emp,[],rfl,rfl,rfl,rfl,Z,OwnL.nil Bf,List.nil_sublist _,by decide,rfl⟩ Qs ?_
    rintro q s K e ⟨j,u,m,t,rfl,rfl,rfl,rfl,hj,P,d,n,M⟩;have ou:=P.o1;refine X<|U<|AT Y Y<|Qx (Aw hD.rd.any Y Bb Y) Y<|AT Y Y<|AY (t:=37) Y (λp1=>?_)<|λp1=>?_
    .refine Qg (Ap Y Y) Y<|Qg (Ky (P.rd (h:=h5) (ms:=[m]) Mh).rd Y Bb Y) Y<|Qg (Ap Y Y) Y<|Qg (oA Y) Y<|Qg (Dw Y Y Y) Y<|J Y<|Ay Y (λp2=>?_)<|λp2=>?_
     .have hjl:j<D.length:=Z
      have cd:=λms=>(hD.any (ms:=ms)).cell0 hjl Y;have htk:D.take (j+1)=D.take j++[D[j]]:=ap hjl;refine I<|X<|Ag<|U<|AT Y Y<|Qx (BP (i) S.rd.any Y Bb By Y Y) Y<|Ql Y U3 (cb _)<|G Y<|Qx (X4 (n:=j) Y Y Y Z) Y<|Qx (YT Y Y Y) Y<|J Y<|Ay Y (λB=>?_)<|λB=>?_
      .refine Ad<|AT Y Y<|G Y<|Qx (BP (j) hD.rd.any Y Bb By Y Y) Y<|Ql Y U3 (cd _)<|AB [_] Y Bb By Y ξ Y Y Z Y Y Y<|λg59=>AL 1 P (RdL.one Bf (x:=D[j]) Mh Y) Y Bb By Y Z Y Y Y BY (by(try simp only[ae]);omega) (by(try simp only[ae]);omega) rfl rfl rfl<|λu2 m2 hT2=>G rfl<|Am<|D2<|Ad<|G rfl<|Qx (oA rfl) rfl<|G rfl<|Am<|AU ?_;exact Aq (D.length-(j+1)) _ Z ⟨j+1,u2,m2,_,Y,Y,Y,Y,Z,hT2,by rw[htk];exact d.append (lg _),by rw[ag,ae];omega,by rw[CO,ah B,<-M];simp[List.getD,hjl]⟩ Qs
      .refine Ah<|D2<|Ad<|G Y<|Qx (oA Y) Y<|G Y<|Am ?_;exact Aq (D.length-(j+1)) _ Z ⟨j+1,u,m,t,Y,Y,Y,Y,Z,P,by rw[htk];exact d.trans (List.sublist_append_left _ _),n,by rw[CO,af B];exact M⟩ Qs
     .refine C<|AI _ ⟨u,m,t,Y,Y,Y,P,d.trans<|List.take_sublist _ _,n,j,hj,M,n,.inr Z⟩ Qs
    .refine DM Y Y<|DM Y Y<|Qk Y<|J Y<|AM Y<|C<|AI _ ⟨u,m,t,Y,Y,Y,P,d.trans<|List.take_sublist _ _,n,j,hj,M,n,.inl Z⟩ Qs
   .obtain⟨u,m,t,rfl,rfl,rfl,P,d,n,f⟩:=hI;have f:IsSel (rs.getD i 0) (AZ (cn l) 0) t:=by rw[g,show rs.getD i 0=b by rw[<-hb];simp[List.getD,hir]];exact f
    refine CQ P λh6 l6 hTr=>?_;have ou:=hTr.rd.one;have l16:=N l15 l6;refine U<|G Y<|Qx (Aw hTr.rd.any Y Bb Y) Y<|G Y<|Qx (oA Y) Y<|J Y<|Ay Y (λhl3=>?_)<|λhl3=>?_
    .have ht:t.length=3:=Z
     obtain⟨x,A,L,hax,hnx,hix,hbx,hPx⟩:=hC;refine Ad<|G Y<|Qx (oG Y CV Bd<|Seg.any<|hS.le l16) Y<|G Y<|AE (pre:=[]) Y call41 Y (Z6 l v u t h6 Q.K hcn ((Q.up l1).up l16).X.rd hTr Z) Y Y Y Y<|λrS h7 ms7 l7 hF7=>?_;obtain⟨l7',rfl,hr⟩:=hF7;obtain⟨k,out,hSph,hK1,hK2,hK3,hK4,hK5,hK6⟩:=AdH R hcn E g h0 hDi d ht hr;have oS_:=hK1.rd.rd.one;refine AE (pre:=[]) Y call28 Y (MC w rS x k h7 (L.up<|N l6 l7') hK1 Z (by rw[Bp];exact b7 (show Bi x+Bi k<2^20 by omega) (dn H H))) Y Y Y Y<|λrA h8 ms8 l8 hF8=>?_;obtain⟨l8',rfl,z,O,hz2,hz3,hz4⟩:=hF8;have oA_:=hz2.rd.rd.one;have hcz:=AeY R (z:=z) ⟨hix,hbx⟩ hK4 hK5 hK6 λc=>O.cf_eq c;rw[Bp]at hz3;rw[ag]at hz4;refine G Y<|Am<|D2<|Ad<|G Y<|Qx (oA Y) Y<|G Y<|Am<|Aq (3-(i+1)) _ Z ⟨i+1,rA,Y,Y,N l5<|N l6<|N l7' l8',Y,Z,Z,z,O.congr λc=>(O.cf_eq c).symm,hz2,Z,Z,hcz.1,hcz.2,x,t,hPx,f,.inl ⟨ht,k,hSph,O⟩⟩ Qs
    .refine Ah<|D2<|Ad<|G Y<|Qx (oA Y) Y<|G Y<|Am ?_
     exact Aq (3-(i+1)) _ Z ⟨i+1,w,Y,Y,N l5 l6,Y,Z,Z,by
      obtain⟨x,a1,a2,a3,a4,a5,a6,a7⟩:=hC.up l6
      exact⟨x,a1,a2,Z,Z,a5,a6,x,t,a7,f,.inr ⟨Z,Y⟩⟩⟩ Qs
  .refine C<|Ab<|X<|U<|G Y<|J Y<|Ay Y (λhz=>?_)<|λhz=>?_
   .exfalso;omega
   .refine I<|U<|G Y<|J Y<|Aj ?_;exact Ar Y Y (⟨N l1 l15,Y,by rw[show min rs.length 3=i by omega];exact hC.le Z Z⟩)
 .refine DM Y Y<|J Y<|AM Y<|C<|Ab<|X<|U<|G Y<|J Y<|Ay Y (λhz=>?_)<|λhz=>?_
  .exfalso;omega
  .refine I<|U<|G Y<|J Y<|Aj ?_;exact Ar Y Y (⟨N l1 l15,Y,by rw[show min rs.length 3=i by omega];exact hC.le Z Z⟩)
end
section
open Go.Lin Go.Wd Go.Sm Go.Ch
theorem VY(x:Int):∀j,∀v∈UQ x j,0<=v/\v<(j:Int)
 | 0,v,h=>nomatch h
 | j+1,v,h=>by
  unfold UQ at h;split at h
  .rcases bi.1 h with h|h
   .have:=VY x j v h;omega
   .rw[bj.1 h];omega
  .have:=VY x j v h;omega
theorem Yh(L:List Int):∀l∈W5 L,∀v∈l,0<=v/\v<6:=λl a v b=>by obtain⟨x,_,rfl⟩:=ai.1 a;exact VY x 6 v b
def als:List (List Int):=[[0],[1],[2],[3],[4],[5]]++els++tls++els.map λt=>[0,1,2,3,4,5].filter λv=>!t.contains v
theorem AhV:∀u:Fin 6,[(u.val:Int)]∈als:=by decide
theorem AhD:∀u v w z:Fin 6,u<v->v<w->w<z->[(u.val:Int),(v.val:Int),(w.val:Int),(z.val:Int)]∈als:=by decide +kernel
theorem AeC{t:List Int}(a:VR t)(h:∀v∈t,0<=v/\v<6)(f:t≠[])(e:t.length<=4):t∈als:=by
 match t,f,e with
 | [u],_,_=>
  have h1:=h u σ;have:=AhV ⟨u.toNat,Z⟩;simpa only [fq h1.1] using this
 | [u,v],_,_=>exact eg _<|eg _<|ej _<|Xe a h Y
 | [u,v,w],_,_=>exact eg _<|ej _<|YI a h Y
 | [u,v,w,z],_,_=>
  have h1:=h u σ;have b:=h v σ;have c:=h w σ;have d:=h z σ;have g:(u<v/\u<w/\u<z)/\(v<w/\v<z)/\w<z:=by have:=a;unfold VR at this;simpa using this
  have:=AhD ⟨u.toNat,Z⟩ ⟨v.toNat,Z⟩ ⟨w.toNat,Z⟩ ⟨z.toNat,Z⟩ (by show u.toNat<v.toNat;omega) (by show v.toNat<w.toNat;omega) (by show w.toNat<z.toNat;omega);simpa only [fq h1.1,fq b.1,fq c.1,fq d.1] using this
theorem AeS(a:List Int):DP a a≠true:=by
 have:∀a:List Int,Gm a a=false:=λa=>by
  induction a with
  | nil=>rfl
  | cons x a ih=>unfold Gm;rw[ah rfl,ih]
 unfold DP;rw[af (λq=>q rfl),this];nofun
theorem Aff{c:List (List Int)}(f:∀l∈c,∀v∈l,0<=v/\v<6)(i:∀l∈c,l.length<=4):(BU c).length<=56:=by
 cases h:Cd [] c with
 | none=>unfold BU;rw[h];exact fm _
 | some all=>
  have A:=Hv c [] all AllS.nil h;have e:BU c=all.map (sc all):=by unfold BU;rw[h];exact HQ A
  rw[e,bb];have j:all.Nodup:=List.Pairwise.imp (S:=λa b=>a≠b) (λ{a b} q (e:a=b)=>AeS a (by rw[<-e]at q;exact q)) A.srt;refine j.length_le_of_subset (l₂:=als) λt d=>AeC (A.inc t d) ?_ (A.ne t d)<|Oe c [] all i nofun h t d;rcases GX c [] all AllS.nil h t d with q|⟨l,h1,g⟩
  .cases q
  .exact λv k=>f l h1 v<|g v k
theorem Aey(b:List (List Int)):Edg (BU b):=by
 cases h:Cd [] b with
 | none=>unfold BU;rw[h];nofun
 | some all=>
  have A:=Hv b [] all AllS.nil h;have e:BU b=all.map (sc all):=by unfold BU;rw[h];exact HQ A
  rw[e];intro y p f;obtain⟨t,a,rfl⟩:=ai.1 p;have f:(t.length:Int)-1=1:=f
  match t,a,(Z:t.length=2) with
  | [u,v],a,_=>
   have m:u<v:=by have:=A.inc _ a;unfold VR at this;simpa using this
   have mu:=A.sub _ a [u] σ σ;have mv:=A.sub _ a [v] σ σ;obtain⟨j,g,d,B⟩:=A.nI_at mu;obtain⟨k,l,c,K⟩:=A.nI_at mv
   have i:j<k:=by
    refine ax λq=>?_;rcases (Z:j=k\/k<j) with rfl|s
    .rw[d]at c;have:u=v:=by simpa using c
     omega
    .have:=bw.1 A.srt k j l g s;rw[d,c]at this;unfold DP Gm at this;rw[af (λq=>q rfl),af Z,io]at this;omega
   refine⟨nI all [u],nI all [v],?_,Z⟩;show CS [(nI all [v],1),(nI all [u],-1)]=_;unfold CS;simp only[it,List.foldl_nil];unfold JQ;rw[List.takeWhile_nil,List.dropWhile_nil,aw,List.takeWhile_cons,List.dropWhile_cons,af (by rw[io];show ¬nI all [v]<=nI all [u];omega),af (by rw[io];show ¬nI all [v]<=nI all [u];omega)];rfl
end
section
theorem AiY:(prog.fieldsOf 52).toList.map (λf=>(decide (f.name ≠ "_"),f.type,f.offset))=[(3,0),(3,1)].map (λo=>(true,o.1,o.2)):=by kernel_rfl
theorem Ai3:prog.eqGuardType prog.depth 52=false:=by kernel_rfl
theorem Ai0:prog.underlying 52=some (.struct (prog.fieldsOf 52)):=by kernel_rfl
theorem Ai2:prog.stoodInHeld 52=false:=by kernel_rfl
theorem AiU{o:Oper}{s:AG}{h:Hp}{p:List Hp}{x y:Operand}{u:TypeId}(a b:Int×Int)(c:o.op=.binOp .neq 52 x y u)(m:ev s x=some (.agg (cD a).toArray))(n:ev s y=some (.agg (cD b).toArray)):OX prog o s h p (.bool (decide (a≠b))):=
 Bz λρ w d _=>by
  have k:(Op.equalIn 10000 52 (.agg (cD a).toArray) (.agg (cD b).toArray)).run prog w=.ok (decide (a=b)) w:=by
   have l:=NL (P:=prog) (d:=9998) (cD a).toArray (cD b).toArray w (prog.fieldsOf 52).toList [(3,0,a.1==b.1),(3,1,a.2==b.2)] (by rw[AiY];rfl) λo c=>by
    simp only[be,ia,j7]at c;rcases c with rfl|rfl
    .exact⟨_,_,run_part_plain w pk3 Y,run_part_plain w pk3 Y,run_equalIn_int w _ 3 .i64 .i64 _ _ U3⟩
    .exact⟨_,_,run_part_plain w pk3 Y,run_part_plain w pk3 Y,run_equalIn_int w _ 3 .i64 .i64 _ _ U3⟩
   rw[run_equalIn_agg w 9999 52 _ _ Ai0 Ai2,l];congr 1;obtain⟨f,g⟩:=a;obtain⟨i,j⟩:=b;rw[ki,gk,kg];show((f==i)&&((g==j)&&true))=true<->_;simp only[Bool.and_true,df,beq_iff_eq]
  have e:(!decide (a=b))=decide (a≠b):=by simp
  simp only[execOp,c,d _ _ m,d _ _ n];simp only[ep,run_eqGuard_agg w _ _ _ _ _ _ Ai3,run_neq_struct,k,e,dt,fl]
theorem AiM(x y:Ce)(h:Hp)(g:RdL cD 2 h [] x.v x.c.sd)(r:RdL cD 2 h [] y.v y.c.sd)(c:List Hp):FnV prog 76 #[.agg (cC x).toArray,.agg (cC y).toArray] h c (.bool (decide (x.c=y.c))):=by
 refine D9 ?_ c;have o1:=g.rd.one;have o2:=r.rd.one;have la:=g.len_le;have lb:=r.len_le;have d:∀a b:Cl,a=b<->a.id=b.id/\a.dim=b.dim/\a.sd=b.sd:=λa b=>by cases a;cases b;simp
 show FnT _ _ #[.agg #[.w x.c.id,.w x.c.dim,x.v],.agg #[.w y.c.id,.w y.c.dim,y.v]] _ _ _;refine Au func76 ntmps76 Y Y<|λ_ _=>U<|AK [_,_,_] Y Y ξ Y Y Y<|λv=>AK [_,_,_] Y Y ξ Y Y Y<|λz=>J Y<|AH λh1 l1 j=>AH λf A i=>?_;have t:=N l1 A;have g:=g.up t;have r:=r.up t;have x0:∀c,Cell f c (⟨v,0,none⟩:Addr) (.w x.c.id):=λc=>Seg.all i 0 _ Y c;have x1:∀c,Cell f c (⟨v,1,none⟩:Addr) (.w x.c.dim):=λc=>Seg.all i 1 _ Y c;have P:∀c,Cell f c (⟨v,2,none⟩:Addr) x.v:=λc=>Seg.all i 2 _ Y c;have y0:∀c,Cell f c (⟨z,0,none⟩:Addr) (.w y.c.id):=λc=>(Seg.all j 0 _ Y c).le A;have y1:∀c,Cell f c (⟨z,1,none⟩:Addr) (.w y.c.dim):=λc=>(Seg.all j 1 _ Y c).le A;have R:∀c,Cell f c (⟨z,2,none⟩:Addr) y.v:=λc=>(Seg.all j 2 _ Y c).le A;refine X<|U<|Qf B7 Y<|Ql Y U3 (x0 _)<|Qf B7 Y<|Ql Y U3 (y0 _)<|D Y Y<|AY (t:=11) Y (λB=>?_)<|λB=>?_
 .refine DM Y Y<|DM Y Y<|Qk Y<|D Y Y<|DM Y Y<|DM Y Y<|DM Y Y<|Qk Y<|J Y<|A4 Y<|U<|J Y<|Aj<|Ae ?_;exact Ar Y Y (by rw[dx λe=>B ((d _ _).1 e).1])
 .refine Qg (oF Co Y) Y<|Qg (oL Y U3<|x1 _) Y<|Qg (oF Co Y) Y<|Qg (oL Y U3<|y1 _) Y<|Qg (FV Y Y Y) Y<|D Y Y<|AY (t:=18) Y (λK=>?_)<|λK=>?_
  .refine DM Y Y<|DM Y Y<|DM Y Y<|Qk Y<|J Y<|A4 Y<|U<|J Y<|Aj<|Ae ?_;exact Ar Y Y (by rw[dx λe=>K ((d _ _).1 e).2.1])
  .refine Qg (oF BZ Y) Y<|Qg (oL Y Di<|P _) Y<|Qg (Aw g.rd.any Y Di Y) Y<|Qg (oF BZ Y) Y<|Qg (oL Y Di<|R _) Y<|Qg (Aw r.rd.any Y Di Y) Y<|Qg (FV Y Y Y) Y<|J Y<|Ay Y (λc3=>?_)<|λc3=>?_
   .refine X<|Ad<|J Y<|Aj<|Ae ?_;exact Ar Y Y (by rw[dx λe=>c3 (by rw[((d _ _).1 e).2.2])])
   .have hl:x.c.sd.length=y.c.sd.length:=Z
    refine I<|X<|U<|J Y<|Ag ?_
    refine AC (λq s Q u=>∃(k:Nat),q=x.c.sd.length-k/\s=[(2,.pt v),(3,.pt z),(5,.w k)]/\f=Q/\u=[]/\k<=x.c.sd.length/\x.c.sd.take k=y.c.sd.take k)
     (x.c.sd.length-0) _ ⟨0,rfl,rfl,rfl,rfl,Z,rfl⟩ Qs ?_
    rintro q s Q u ⟨k,rfl,rfl,rfl,rfl,hk,L⟩;refine X<|U<|G Y<|Qf BZ Y<|Ql Y Di (P _)<|E (Aw g.rd.any Y Di Y) Y<|J Y<|Ay Y (λM=>?_)<|λM=>?_
    .have m:k<x.c.sd.length:=Z
     have n:k<y.c.sd.length:=Z
     have S:∀c,Seg f c ((AJ x.v).add (k*2)) (cD x.c.sd[k]):=λc=>(g.any (ms:=c)).seg m;have T:∀c,Seg f c ((AJ y.v).add (k*2)) (cD y.c.sd[k]):=λc=>(r.any (ms:=c)).seg n;refine I<|X<|Ag<|X<|BK 10 Cx V Y<|Wf BZ Y<|Wl Y Di (P _)<|Wm Y<|BS (BP (k) g.rd.any Y Di B5 Y Y) Y Y<|BS (oG Y To B5<|S _) Y Y<|Wf BZ Y<|Wl Y Di (R _)<|Wm Y<|BS (BP (k) r.rd.any Y Di B5 Y Y) Y Y<|BS (oG Y To B5<|T _) Y Y<|BB<|E (AiU x.c.sd[k] y.c.sd[k] Y Y Y) Y<|Ao<|Ay Y (λp=>?_)<|λp=>?_
     .refine X<|Ad<|J Y<|Aj<|An<|Ae<|Ae<|An<|Ae ?_;exact Ar Y Y (by rw[dx];intro e;have e2:=((d _ _).1 e).2.2;have:=bh (λl=>l[k]?) e2;simp only[aj m,aj n,Option.some.injEq]at this;exact p this)
     .refine Ah<|D2<|Ad<|G Y<|E (oA Y) Y<|G Y<|Am<|Aq (x.c.sd.length-(k+1)) _ Z ⟨k+1,Y,Y,Y,Y,Z,?_⟩ Qs;rw[j9,j9,L,aj m,aj n,Decidable.not_not.1 p]
    .have hke:k=x.c.sd.length:=Z
     rw[bm Z,bm Z]at L;have O:x.c=y.c:=(d _ _).2 ⟨Decidable.not_not.1 B,Decidable.not_not.1 K,L⟩;refine C<|Ab<|U<|J Y<|Aj ?_;exact Ar Y Y (by rw[bp O])
theorem AiZ(a b:List Ce)(va vb:Value)(h:Hp)(Q:RgC a)(R:RgC b)(O:RdC h va a)(P:RdC h vb b)(f:List Hp):FnV prog 38 #[.agg #[va],.agg #[vb]] h f (.bool (decide (cn a=cn b))):=by
 refine D9 ?_ f;have oa:=O.q.rd.one;have ob:=P.q.rd.one;refine Au func38 ntmps38 Y Y<|λ_ _=>U<|AK [_] Y Y ξ Y Y Y<|λg2=>AK [_] Y Y ξ Y Y Y<|λg3=>J Y<|AH λh1 l1 j=>AH λh2 l2 hS2=>?_;have y:=N l1 l2;have O:=O.up y;have P:=P.up y;refine U<|E (oG Y CV Bd<|Seg.any hS2) Y<|Qc call75 Y (P0 a va _ Q.r.cs O)<|λrA h4 ms4 l4 hQ=>?_;obtain⟨l4',mA,A,vA,rfl,rfl,S,p,m⟩:=hQ;refine E (HJ Y CV Y B8 Y Y Y) Y<|J Y<|CQ S λh5 l5 c=>?_;have z:=N l4' l5;have j:=j.le (N l2 z);refine U<|E (oG Y CV Bd<|Seg.any j) Y<|Qc call75 Y (P0 b vb _ R.r.cs<|P.up z)<|λrB h6 ms6 l6 hQ=>?_;obtain⟨l6',mB,B,vB,rfl,rfl,T,r,n⟩:=hQ;refine E (HJ Y CV Y B8 Y Y Y) Y<|J Y<|CQ T λM l7 d=>?_;have K:=N l6' l7;have c:=c.up K;have m:=λa ha=>(m a ha).up (N l5 K);have n:=λa ha=>(n a ha).up l7;have oA_:=c.rd.one;have oB:=d.rd.one;have la:=c.len_le;have lb:=d.len_le;change A.map Ce.c=cn a at p;change B.map Ce.c=cn b at r;rw[<-p,<-r];refine X<|U<|G Y<|E (Aw c.rd.any Y B8 Y) Y<|G Y<|E (Aw d.rd.any Y B8 Y) Y<|J Y<|Ay Y (λu=>?_)<|λu=>?_
 .refine X<|Ad<|J Y<|Aj<|Ae ?_;exact Ar Y Y (by rw[dx];intro e;have:=bh List.length e;rw[bb,bb]at this;exact u (by rw[this]))
 .have hl:A.length=B.length:=Z
  refine I<|X<|U<|J Y<|Ag ?_
  refine AC (λq s h' L=>∃(k:Nat),q=A.length-k/\s=[(5,vA),(6,vB),(7,.w k)]/\M=h'/\L=[]/\k<=A.length/\(A.map Ce.c).take k=(B.map Ce.c).take k)
   (A.length-0) _ ⟨0,rfl,rfl,rfl,rfl,Z,rfl⟩ Qs ?_
  rintro q s h' L ⟨k,rfl,rfl,rfl,rfl,hk,he⟩;refine X<|U<|D Y Y<|E (Aw c.rd.any Y B8 Y) Y<|J Y<|Ay Y (λhlt=>?_)<|λhlt=>?_
  .have g:k<A.length:=Z
   have i:k<B.length:=Z
   have v:=m _ (aq g);have x:=n _ (aq i);have oxa:=v.rd.one;have oxb:=x.rd.one;have ca:∀f,Seg M f ((AJ vA).add (k*3)) (cC A[k]):=λf=>(c.any (ms:=f)).seg g;have cb:∀f,Seg M f ((AJ vB).add (k*3)) (cC B[k]):=λf=>(d.any (ms:=f)).seg i;have hsm:=AiM A[k] B[k] M v x;refine I<|X<|Ag<|X<|BK 8 Cx V Y<|Wm Y<|Wm Y<|BS (BP (k) c.rd.any Y B8 A9 Y Y) Y Y<|BS (oG Y Kr A9<|ca _) Y Y<|Wm Y<|Wm Y<|BS (BP (k) d.rd.any Y B8 A9 Y Y) Y Y<|BS (oG Y Kr A9<|cb _) Y Y<|BB<|E (As Y call76 Y<|hsm _) Y<|G Y<|BF<|G Y<|J Y<|B1 Y (λt=>?_)<|λt=>?_
   .have hnc:A[k].c≠B[k].c:=λe=>by rw[bp e]at t;cases t
    refine U<|J Y<|Aj<|An<|Ae<|Ae<|An<|Ae ?_;exact Ar Y Y (by rw[dx];intro e;have:=bh (λl=>l[k]?) e;simp only[gj,aj g,aj i,Option.map_some,Option.some.injEq]at this;exact hnc this)
   .have hcc:A[k].c=B[k].c:=ax λe=>by rw[dx e]at t;cases t
    refine Ah<|D2<|Ad<|G Y<|E (oA Y) Y<|G Y<|Am<|Aq (A.length-(k+1)) _ Z ⟨k+1,Y,Y,Y,Y,Z,?_⟩ Qs;rw[j9,j9,he,gj,gj,aj g,aj i,Option.map_some,Option.map_some,hcc]
  .obtain rfl:k=A.length:=Z
   refine C<|Ab<|U<|J Y<|Aj ?_;exact Ar Y Y (by rw[bm (by rw[bb];omega),bm (by rw[bb];omega)]at he;rw[bp he])
open Go.Lin Go.Wd Go.Sm Go.Ch
set_option exponentiation.threshold 4000000 in
theorem AiX{v S vy:Value}{h:Hp}{d:Int}{l:List Ce}{x y:List Tm}{s':St}(T:Tq v S vy h d l x y)(F:Fq l d s'):FnT prog 16 #[.agg #[v],.int .i64 d,S,vy] h [] (λw h' n=>h.le h'/\∃i sm A B vA vB P Q m,n=[i]/\w=.tuple #[VH sm vA vB m,.int .i64 0]/\((P=i/\Q=Hp.emp)\/(P=Hp.emp/\Q=i))/\ChO vA P A/\ChO vB Q B ∧
  ∀f,h.le f->∀j k,ChR j f A->ChR k f B->∀ms,FnV prog 19 #[.agg #[v],.w d,S,vy,VH sm j k m] f ms (.bool true)):=by
 have N:ChO (.nl) Hp.emp []:=⟨OwnL.nil EX,by decide,nofun,jc H⟩
 refine(Z0 T F).mono λw h' n ⟨q,i,e,A⟩=>⟨q,i,?_⟩
 rcases A with ⟨ch,R,s,u,OC,c,g,t⟩|⟨r,R,m,s,u,OC,c,K,hm1,g,z,L,_⟩
 .refine⟨_,ch,[],R,_,i,Hp.emp,0,e,s,.inl ⟨Y,Y⟩,OC,N,λf O j k p R7=>?_⟩;have a:=T.up O;have b:=V8 v _ _ j k d 0 a.hd x y ch [] l f a.Q a.X a.Y p R7 a.hx a.hy a.bx a.by_ a.zx a.zy a.hn a.ha2 (a.bch c H).1 (by unfold Sz;decide);rw[g,t]at b;exact b
 .refine⟨_,[],r,_,R,Hp.emp,i,m,e,s,.inr ⟨Y,Y⟩,N,OC,λf O j k p R7=>?_⟩;have a:=T.up O;have M:Bi r*(Bi x+Bi y)<2^2000000:=Gp c T.ha H;have b:=Ps v _ _ j k d m x y [] r l f a.Q a.X a.Y p R7 a.hx a.hy a.bx a.by_ a.zx a.zy a.hn a.ha2 (a.bch c H).2 M (show m.natAbs<4294967296 by omega);rw[g,z,bp K,dx L]at b;exact b
theorem AiV(S:List (Int×(Int×Int))):DV S []=[]:=by unfold DV;rw[List.filter_eq_nil_iff.2 λp _=>by show ¬decide ((0:Int)≠0)=true;decide];rfl
theorem AiL(L:List Int)(V:List Value)(vL vX:Value)(h:Hp)(hL:RdL cI 1 h [] vL L)(hVl:V.length=2)(hV:∀w∈V,∃xs,RdL cI 1 h [] w xs)(hc:vX.cells=V.toArray):FnT prog 11 #[vL,vX] h [] (λr _ _=>r=.bool true):=by
 have oL_:=hL.rd.one;have oV:∀u∈V,u.oneCell'=true:=λu hu=>(hV u hu).elim λ_ q=>q.rd.one;refine Au func11 ntmps11 Y Y<|λ_ _=>U<|AK V Y Y hc Y Y Y<|λg3=>J Y<|Ak 0 Y λh0 l0 hS3=>U<|Qx (As Y call12 Y<|AaC _ _) Y<|G Y<|BF<|G Y<|Qc call13 Y (Ti L vL h0<|hL.up l0)<|λr1 h1 ms1 l1 hF=>?_;obtain⟨l1',rfl,v,l,rfl,hR,hl⟩:=hF;have ov:=hR.q.rd.one;refine G Y<|Qc call13 Y (Ti L vL h1<|hL.up<|N l0 l1')<|λr2 h2 ms2 P hF=>?_;obtain⟨l2',rfl,v',l',rfl,hR',hl'⟩:=hF;have ov':=hR'.q.rd.one;refine BJ [.nl] Y Bd Y Y<|λg6=>BJ [.nl] Y Bd Y Y<|λg7=>?_;refine Sa 1 [_] Bd Y (by simp[oL_,ov,ov',AA]) ?_;refine Sa 0 [_] Bd Y (by simp[oL_,ov,ov',AA]) ?_;refine Ao<|Ak 0 Y λh3 l3 hS7=>Ak 0 Y λh4 l4 hS6=>?_;have l34:=N l3 l4;have l14:=N l2' l34;have l04:=N l1' l14;have hR:=hR.up l14;have hR':=hR'.up l34;have Q:QsOk v h4 l:=(Ae4 hR hl).1;have Q':QsOk v' h4 l':=(Ae4 hR' hl').1;have hcn:cn l=l.map Ce.c:=Smp.ord ⟨_,hl⟩;have z:cn l'=l'.map Ce.c:=Smp.ord ⟨_,hl'⟩;have eqc:l'.map Ce.c=l.map Ce.c:=hl'.trans hl.symm;have hl56:l.length<=56:=by rw[<-bb (f:=Ce.c),hl];exact Aff (Yh L)<|W3 L
 have hl56':l'.length<=56:=by rw[<-bb (f:=Ce.c),hl'];exact Aff (Yh L)<|W3 L
 have E:Edg (cn l):=by rw[hcn,hl];exact Aey _
 have E':Edg (cn l'):=by rw[z,hl'];exact Aey _
 have hT0:=RG Q (show l.length<=200 by omega)
 have F:∃s',Fq l 1 s':=by obtain⟨s',q⟩:=AaV (Yh L);rw[<-hl,<-hcn]at q;exact⟨s',⟨q⟩⟩
 obtain⟨s',F⟩:=F
 obtain⟨w0,w1,rfl⟩:∃a b,V=[a,b]:=by
  match V,hVl with
  | [a,b],_=>exact⟨a,b,Y⟩
 obtain⟨xs0,O⟩:=hV w0 σ;obtain⟨xs1,hw1⟩:=hV w1 σ;have O:=O.up (N l0 l04);have hw1:=hw1.up (N l0 l04);have ow0:=O.rd.one;have ow1:=hw1.rd.one;have s6:=qT hS6;have s7:∀e,h4.le e->∀g,Seg e g (⟨g7,0,none⟩:Addr) [v']:=λe q g=>((hS7.le l4).le q).any;have c0:∀e,h4.le e->∀g,Cell e g ((⟨g3,0,none⟩:Addr).add (0*1)) w0:=λe q g=>((hS3.le (N l04 q)) 0 _ Y).any;have c1:∀e,h4.le e->∀g,Cell e g ((⟨g3,0,none⟩:Addr).add (1*1)) w1:=λe q g=>((hS3.le (N l04 q)) 1 _ Y).any;refine X<|AS (n:=14) (bs:=[W,W,W,W,W,lw,W,W,W,W,W,lw,lw,lw]) [W,W,W,W,W,lw,W,W,W,W,W] Cx κ κ Y Y<|Qp Y (oG Y CV Bd<|s6 _ (Bk) _)<|Qp Y (A5 0 Y U23 Fv Y Y Y Z)<|QL Y Bb (c0 _ (Bk) _)<|Qp Y (A5 1 Y U23 Fv Y Y Y Z)<|QL Y Bb (c1 _ (Bk) _)<|Qp Y (oG Y CV Bd<|s7 _ (Bk) _)<|Qp Y (A5 0 Y U23 Fv Y Y Y Z)<|QL Y Bb (c0 _ (Bk) _)<|Qp Y (A5 1 Y U23 Fv Y Y Y Z)<|QL Y Bb (c1 _ (Bk) _)<|Qo 5 Y<|AE (pre:=[]) Y call15 Y (Z1 l v w0 w1 xs0 xs1 h4 Q hcn E Z O hw1) Y Y Y Y<|λrA h5 ms5 l5 hF5=>?_;obtain⟨l5',rfl,x,hCx,hRx,hax,hnx,hix,hbx,hDx⟩:=hF5;have oA_:=hRx.rd.rd.one;refine Qa<|Qo 11 Y<|AE (pre:=[]) Y call15 Y (Z1 l' v' w0 w1 xs0 xs1 h5 (Q'.up l5') z E' Z (O.up l5')<|hw1.up l5') Y Y Y Y<|λrB h6 ms6 l6 hF6=>?_;obtain⟨l6',rfl,y,hCy,hRy,hay,hny,hiy,hby,hDy⟩:=hF6;have oB:=hRy.rd.rd.one;have l46:=N l5' l6';refine Qa<|Qo 12 Y<|G Y<|Qa<|Qo 13 Y<|G Y<|Qa<|Qe ?_;rw[z,eqc]at hDy;rw[hcn]at hDx;obtain rfl:x=y:=hDx.fun hDy;have hRx:=hRx.up l6';have Q6:=Q.up l46;have T:Tq v rA (.nl) h6 1 l x []:=⟨Q6,hRx,El _,by decide,Z,hix,(Du _ _ _).2 λc hc=>lj Y hc,hbx,V5 _ _ (AiV _),by show x.length+0<=_;omega,dr (show Bi x+0<=300000 by omega) H,hT0⟩
 refine Ab<|U<|Qx (oG Y CV Bd<|s6 _ l46 _) Y<|G Y<|AE (pre:=[]) Y call16 Y (AiX T F) Y Y Y Y<|λwc h7 ms7 l7 hF7=>?_;obtain⟨l7',mo,sm,A,B,vA,vB,mA,mB,m,rfl,rfl,hms,OA,OB,hck⟩:=hF7;obtain⟨aa,ac,rfl,_⟩:=(OA.1.rd (h:=h7) (ms:=[mA]) Mh).rd.ex;obtain⟨ba,bc,rfl,_⟩:=(OB.1.rd (h:=h7) (ms:=[mB]) Mh).rd.ex;have osm:=AA (Ba m.natAbs);unfold VH at hck ⊢;refine D Y Y<|G Y<|BJ [.bool false,.nl,.nl,.bool false,.es] Y GH Y Y<|λR=>?_;refine Sa 0 [_,_,_,_,_] GH Y (by simp[oL_,ov,ov',AA,oA_,oB,osm]) ?_;refine J Y<|Ak 0 Y λh8 l8 t=>BW ?_
 refine(show Go.Eng.WS _ _ _ _ _ [mA,mB]->Go.Eng.WS _ _ _ _ _ [Hp.emp,mo] from λk=>by
  rcases hms with ⟨rfl,rfl⟩|⟨rfl,rfl⟩
  .exact Et 1 Y k
  .exact k) ?_
 have d1:=qD 1 t Y;have d2:=qD 2 t Y;have hlA:=OA.2.1;have hlB:=OB.2.1;refine Bu (λs hh j=>∃v3 m3 v7 m7,s=[(5,.bool true),(6,.pt g6),(7,.pt g7),(8,rA),(9,rB),(10,.pt R),(11,.w 0),(12,v3),(13,v7)]/\h8=hh/\j=[m3,m7,mA,mB]/\OwnL D6 3 79 m3 v3 A/\OwnL D6 3 79 m7 v7 B) ?_<|λs h g hI=>?_
 .refine AS (n:=10) (bs:=[lw,W,W,lw,lw,W,W,lw,lw,lw]) [lw,W,W,lw,lw,W,W] Cx κ κ rfl rfl<|QF Jb rfl<|QL rfl Ct (d1 _ (Bk) _)<|QF Ke rfl<|QL rfl Ct (d2 _ (Bk) _)<|AO [0,4] κ rfl<|Al rfl ?_ ?_;refine AX [] [] [] rfl Ct Cv rfl Z κ (by repeat (first|exact fu|refine⟨⟨by first|rfl|exact Rd.cells ‹_›|exact(RdL.rd ‹_›).cells,rfl,rfl⟩,?_⟩)) rfl rfl rfl rfl<|λg39=>?_;refine Qw<|AO [3,4] κ rfl<|Al rfl ?_ ?_;refine AL 0 (Gs g39 EX) (OA.1.rd σ) rfl Ct Cv rfl Z rfl rfl rfl D3 (by(try simp only[fv]);omega) (by(try simp only[fv]);omega) rfl rfl rfl<|λv3 m3 K=>Qw<|Qo 4 rfl ?_;refine AX [] [] [] rfl Ct Cv rfl Z κ (by repeat (first|exact fu|refine⟨⟨by first|rfl|exact Rd.cells ‹_›|exact(RdL.rd ‹_›).cells,rfl,rfl⟩,?_⟩)) rfl rfl rfl rfl<|λS=>?_;refine Qw<|Qo 7 rfl<|AL 0 (Gs S EX) (OB.1.rd σ) rfl Ct Cv rfl Z rfl rfl rfl D3 (by(try simp only[fv]);omega) (by(try simp only[fv]);omega) rfl rfl rfl<|λv7 m7 M=>Qw ?_
  rotate_left
  refine Al rfl ?_ ?_;refine AX [] [] [] rfl Ct Cv rfl Z κ (by repeat (first|exact fu|refine⟨⟨by first|rfl|exact Rd.cells ‹_›|exact(RdL.rd ‹_›).cells,rfl,rfl⟩,?_⟩)) rfl rfl rfl rfl<|λS=>?_;refine Qw<|Qo 3 rfl<|AL 1 (Gs g39 EX) (OA.1.rd σ) rfl Ct Cv rfl Z rfl rfl rfl D3 (by(try simp only[fv]);omega) (by(try simp only[fv]);omega) rfl rfl rfl<|λv3 m3 K=>Qw<|Qo 7 rfl<|AL 0 (Gs S EX) (OB.1.rd σ) rfl Ct Cv rfl Z rfl rfl rfl D3 (by(try simp only[fv]);omega) (by(try simp only[fv]);omega) rfl rfl rfl<|λv7 m7 M=>Qw ?_
  rotate_left
  exact AN;refine Al rfl ?_ ?_;refine AX [] [] [] rfl Ct Cv rfl Z κ (by repeat (first|exact fu|refine⟨⟨by first|rfl|exact Rd.cells ‹_›|exact(RdL.rd ‹_›).cells,rfl,rfl⟩,?_⟩)) rfl rfl rfl rfl<|λS=>?_;refine Qw<|Qo 0 rfl ?_;refine AX [] [] [] rfl Ct Cv rfl Z κ (by repeat (first|exact fu|refine⟨⟨by first|rfl|exact Rd.cells ‹_›|exact(RdL.rd ‹_›).cells,rfl,rfl⟩,?_⟩)) rfl rfl rfl rfl<|λg39=>?_;refine Qw<|Qo 3 rfl<|AL 0 (Gs g39 EX) (OA.1.rd σ) rfl Ct Cv rfl Z rfl rfl rfl D3 (by(try simp only[fv]);omega) (by(try simp only[fv]);omega) rfl rfl rfl<|λv3 m3 K=>Qw<|Qo 7 rfl<|AL 1 (Gs S EX) (OB.1.rd σ) rfl Ct Cv rfl Z rfl rfl rfl D3 (by(try simp only[fv]);omega) (by(try simp only[fv]);omega) rfl rfl rfl<|λv7 m7 M=>Qw ?_
  rotate_left
  exact AN
  all_goals
   refine Qo 8 Y<|G Y<|Qw<|Qo 9 Y<|G Y<|Qw<|Qe ?_
   first|exact AI _ ⟨v3,m3,v7,m7,Y,Y,Y,K,M⟩ Qs|exact Eo 1 Y<|AI _ ⟨v3,m3,v7,m7,Y,Y,Y,K,M⟩ Qs
 .obtain⟨v3,m3,v7,m7,rfl,rfl,rfl,K,M⟩:=hI;refine CQ K λh10 l10 hR3=>CQ M λd l11 hR7=>?_
  have f:=N l10 l11;obtain⟨a3,c3,rfl,_⟩:=hR3.rd.ex;obtain⟨a7,c7,rfl,_⟩:=hR7.rd.ex;have hck:=hck d (N l7' (N l8 f)) _ _ ⟨hR3.up l11,OA.2.1,OA.2.2.1,OA.2.2.2⟩ ⟨hR7,OB.2.1,OB.2.2.1,OB.2.2.2⟩;obtain⟨n,hn⟩:∃n,A.length=n:=⟨_,Y⟩
  obtain⟨p,hp⟩:∃p,B.length=p:=⟨_,Y⟩
  rw[hn]at d1;rw[hp]at d2;refine X<|U<|Qf Jb Y<|Ql Y Ct (d1 _ f _)<|Qx (EJ (ty:=30) Y Ct Y) Y<|J Y<|Ag<|AC (λq sl e j=>∃(k:Nat) (P:List Tm) (m2:Hp),n-k=q/\sl=[(5,.bool true),(6,.pt g6),(7,.pt g7),(8,rA),(9,rB),(10,.pt R),(11,.w 0),(12,.slice a3 A.length c3),(13,.slice a7 B.length c7),(49,.w n),(50,.w k)]/\d=e/\j=[m2,mB]/\k<=n/\OwnL D6 3 79 m2 (.slice aa n ac) P/\P.length=n) (n-0) _ ⟨0,A,mA,Y,Y,Y,Y,Z,hn ▸ OA.1,hn⟩ Qs ?_;rintro q sl e j ⟨k,P,m2,rfl,rfl,rfl,rfl,hk,hO2,hn2⟩;refine U<|J Y<|X<|Ay Y (λhlt=>?_)<|λhlt=>?_
  .have hkn:k<P.length:=Z
   refine I<|X<|Ag<|U<|D Y Y<|HM<|Qf Jb Y<|Ql Y Ct (d1 _ f _)<|G Y<|Qx (AR (k) (hO2.rd (h:=d) (ms:=[m2,mB]) Mh).rd Y Ct Cv Y Y Z Z) Y<|Qf Gr Y ?_;refine RJ 0 k 0 ((0,P[k].2):Tm) [.w 0] hO2 Y By Y Y Y Y (λc hc=>by rw[bj.1 hc];rfl) rfl hkn H rfl rfl rfl<|λm4 hO4=>?_;refine Am<|D2<|Ad<|Qx (oA Y) Y<|G Y<|Am ?_;exact Aq (n-(k+1)) _ Z ⟨k+1,_,m4,Y,Y,Y,Y,Z,hO4,by rw[fh];exact hn2⟩ Qs
  .refine C<|Ab<|X<|U<|Qf Ke Y<|Ql Y Ct (d2 _ f _)<|Qx (EJ (ty:=30) Y Ct Y) Y<|J Y<|Ag<|AC (λq sl e j=>∃(k:Nat) (P:List Tm) (m3:Hp),p-k=q/\sl=[(5,.bool true),(6,.pt g6),(7,.pt g7),(8,rA),(9,rB),(10,.pt R),(11,.w 0),(12,.slice a3 A.length c3),(13,.slice a7 B.length c7),(61,.w p),(62,.w k)]/\d=e/\j=[m2,m3]/\k<=p/\OwnL D6 3 79 m3 (.slice ba p bc) P/\P.length=p) (p-0) _ ⟨0,B,mB,Y,Y,Y,Y,Z,hp ▸ OB.1,hp⟩ Qs ?_;rintro q sl e j ⟨k,P,m4,rfl,rfl,rfl,rfl,hk,hO2,hn2⟩;refine U<|J Y<|X<|Ay Y (λhlt2=>?_)<|λhlt2=>?_
   .have hkn:k<P.length:=Z
    refine I<|X<|Ag<|U<|D Y Y<|HM<|Qf Ke Y<|Ql Y Ct (d2 _ f _)<|G Y<|Qx (AR (k) (hO2.rd (h:=d) (ms:=[m2,m4]) σ).rd rfl Ct Cv rfl rfl Z Z) rfl<|Qf Gr rfl ?_;refine RJ 1 k 0 ((0,P[k].2):Tm) [.w 0] hO2 Y By Y Y Y Y (λc hc=>by rw[bj.1 hc];rfl) rfl hkn H rfl rfl rfl<|λm5 hO5=>?_;refine Am<|D2<|Ad<|Qx (oA Y) Y<|G Y<|Am ?_;exact Aq (p-(k+1)) _ Z ⟨k+1,_,m5,Y,Y,Y,Y,Z,hO5,by rw[fh];exact hn2⟩ Qs
   .have l7b:h7.le d:=N l8 f;have l4b:h4.le d:=N l46 (N l7' l7b);have T11:=T.up (N l7' l7b);have hsm:=Aed x x rA rB d T11.X.rd (hRy.rd.up (N l7' l7b));rw[bp rfl]at hsm;have heq:=AiZ l l' v v' d T11.Q.K (Q'.up l4b).K T11.Q.X.rd (Q'.up l4b).X.rd;rw[bp (show cn l=cn l' by rw[hcn,z,eqc])]at heq;have d0:∀g,Cell d g ((⟨R,0,none⟩:Addr).add 0) (.bool sm):=λg=>((t 0 _ Y).any).le f
    have d3:∀g,Seg d g ((⟨R,0,none⟩:Addr).add 3) (Bg m):=λg i u hu=>by
     have:=((t.le f) (3+i) u (by rw[ij];exact hu)).any (ms:=g)
     rwa [BD]
    refine C<|Ab<|U<|D Y Y<|Qg (Ap Y Y) Y<|Qg (CP (Cq Y Y Y)<|bh Value.bool<|bp Y) Y<|D Y Y<|Qg (Ap Y Y) Y<|Qg (Ap Y Y) Y<|Qg (As Y call20 Y<|hsm _) Y<|D Y Y<|Qg (oG Y CV Bd<|s6 _ l4b _) Y<|Qg (oG Y CV Bd<|s7 _ l4b _) Y<|Qg (As Y call38 Y<|heq _) Y<|D Y Y<|Qg (oG Y CV Bd<|s6 _ l4b _) Y<|Qg (Ap Y Y) Y<|Qg (oF Kc Y) Y<|Qg (oL Y U4<|d0 _) Y<|Qg (Ap Y Y) Y<|Qg (Ap Y Y) Y<|Qg (oF LC Y) Y<|Qg (oG Y Bn Av<|d3 _) Y<|Qg (AQ Afw [.bool false,.nl,.nl,.bool false,.es] [(0,_),(1,_),(2,_),(3,_)] [_,_,_,_,_] Y GH Y Y Qt Y) Y<|Qg (As Y call19 Y<|hck _) Y<|G Y<|J Y<|Aj<|Ar Y Y<|Y
end
section
open Go.Eng Go.ChangeShapes Go.WideShapes Go.ChangeAt Go.RowKit Go.Deep
section
variable {H:Type} {enc:TypeId×Value->H} {w:World} {base:Nat} {spare:Nat->Bool} {held:Bool}
theorem AiK{p:Prop}{v:Value}{x:DataW H×List MemPlace}(_:p)(h:∃m,DataW.trod enc prog w base spare held m 23 v.cells.toList=some x):∃y:List Value,y.length=2/\(∀u∈y,∃l,RdL cI 1 (whole w) [] u l)/\v.cells=y.toArray:=by
 obtain⟨m,h⟩:=h;refine⟨v.cells.toList,?_,?_,by simp⟩
 .obtain⟨_,_,_,_,c,_⟩:=DataW.trod_array U23 h;exact c.trans V
 .generalize v.cells.toList=cs at h;obtain⟨t,s,_,_,c,r,j⟩:=DataW.trod_array U23 h;have g:prog.cellsOf 23=2:=by kernel_rfl
  have f:prog.cellsOf 22=1:=by kernel_rfl
  rw[g]at c;intro u n;obtain⟨i,b,rfl⟩:=ee n;have a:=j i Z;rw[f,aj Z]at a
  have e:(cs.drop (i*1)).take 1=[cs[i]]:=by
   refine ic λk=>?_;rw[gl];by_cases d:k<1
   .obtain rfl:k=0:=Z
    rw[ah d,List.getElem?_drop,show i*1+0=i by omega,aj b];rfl
   .rw[af d,fk (by simp;omega)]
  rw[e]at a;obtain⟨l,R,_⟩:=Xw a;exact⟨l,R⟩
end
end
end Go.Proofs.Q