/- A part of the proof. -/
import Derived.Test.YtodheebhahdepaaGreatDoorRC
set_option linter.unusedSimpArgs false
set_option linter.unusedVariables false
set_option linter.unusedSectionVars false
set_option maxRecDepth 100000
set_option maxHeartbeats 4000000

open List (length_map length_singleton getElem_mem range length_append nil_append length_take mem_cons mem_singleton cons_append map_append mem_append mem_cons_of_mem length_nil length_drop append_nil map_map map_cons length_set getElem_of_mem take_length getElem_map flatMap_cons length_cons mem_append_left mem_append_right range_succ foldl_append drop_zero getElem_append_right sum_cons mem_of_mem_take take_of_length_le)
namespace Go.Proofs.Q
open Go.Proofs.Tryz
open Go.Eng Go.RowKit
section
structure OwS(S:S2)(v5 v6 v7 v8 v9:Value)(m5 m6 m7 m8 m9:Hp):Prop where
 i:OwnL cI 1 3 m5 v5 S.ids
 s:OwnL cI 1 3 m6 v6 S.su
 m:OwnL cI 1 3 m7 v7 S.ma
 p:OwnL cI 1 3 m8 v8 S.pa
 f:OwnL cI 1 3 m9 v9 S.fi
structure Te(l:List Cl)(x:Cl):Prop where
 n:x.sd.length<=64
 sg:∀i,i<x.sd.length->(BD x i).2=1\/(BD x i).2=-1
 at_:∀i,i<x.sd.length->0<=JL l (BD x i).1
 yn:∀i,i<x.sd.length->(FT l x i).sd.length<=64
 ys:∀i,i<x.sd.length->∀r∈(FT l x i).sd,r.2=1\/r.2=-1
theorem Sw{l:List Cl}{x:Cl}(K:Te l x):∀i,i<=x.sd.length->(HA l x i).Ok (64*i) x.sd.length
 | 0,_=>⟨rfl,rfl,rfl,by simp[HA],au _,λy hy=>(by cases hy),λy hy=>(by cases hy),λy hy=>(by cases hy)⟩
 | i+1,hi=>by have h1:=S2.Ok.sides (i:=i) ω (K.sg i ω) (FT l x i).sd _ _ ((Sw K i ω).start (i:=i)) (K.ys i ω);have h2:=K.yn i ω;show(S2.sides _ _ _ _).Ok _ _;exact⟨h1.s,h1.m,h1.f,h1.p,by have:=h1.t;omega,λy hy=>by have:=h1.sb y hy;omega,λy hy=>by have:=h1.mb y hy;omega,h1.fb⟩
theorem AbZ{l:List Ce}{y:Int}{k:Nat}(e:JL (l.map Ce.c) y=k)(v:Value)(h:Hp)(hn:l.length<=100000)(hst:(l.map Ce.c).Pairwise λa b=>a.id<=b.id)(hR:RdL cC 3 h [] v l)(ms:List Hp):FnV Tryz.prog 117 #[v,.int .i64 y] h ms (.int .i64 k):=e ▸ WM l v y h hn hst hR ms
theorem UA(l:List Ce)(x:Ce)(v:Value)(h:Hp)(hn:l.length<=100000)(K:Te (l.map Ce.c) x.c)(hst:(l.map Ce.c).Pairwise λa b=>a.id<=b.id)(hR:RdC h v l)(hX:RdL cD 2 h [] x.v x.c.sd):FnT Tryz.prog 140 #[v,.agg #[.int .i64 x.c.id,.int .i64 x.c.dim,x.v]] h [] (λr _ _=>r=.int .i64 (Eg (l.map Ce.c) x.c)):=by
 have o1:=hR.q.rd.one;have o2:=hX.rd.one;have hxn:=K.n;refine Au func140 ntmps140 rfl rfl (λw0 hw0=>?_);simp only[A6];refine Aq (AP [_,_,_] rfl rfl (by rfl) rfl rfl rfl (λg3=>Qm rfl (Am (Ax λh1 l1 hS=>?_))));have hR:=hR.up l1;have hX:=hX.up l1;have hA:=Seg.all hS;refine Aq (Qm rfl (BM (Qm rfl (BM (Qm rfl (BM (Qf BI rfl (Ql rfl Cf (hA _ _ rfl _) (Qx (As hX.rd.any rfl Cf rfl) rfl (CL (n:=_) rfl AN A0 rfl rfl rfl (by rfl) (by rfl) ω ω rfl rfl rfl (λg23=>Qm rfl (BM ?_))))))))))));refine AB [] [] [] rfl AN A0 rfl ω κ (by repeat (first|exact ff|refine⟨⟨by first|rfl|exact(hX.rd.any).cells|exact(hR.q.rd.any).cells|exact Rd.cells ‹_›|exact(RdL.rd ‹_›).cells,rfl,rfl⟩,?_⟩)) rfl rfl rfl rfl (λg24=>?_);refine Qm rfl (Am (Ac (Aq (Qm rfl (Am (Ag (BT (BT (BT ?_)))))))))
 refine Ay (λq s hh ms'=>∃(i:Nat) (v5 v6 v7 v8 v9:Value) (m5 m6 m7 m8 m9:Hp),q=x.c.sd.length-i/\s=[(0,v),(3,.pt g3),(5,v5),(6,v6),(7,v7),(8,v8),(9,v9),(10,.w i)]/\h1.le hh/\ms'=[m5,m6,m7,m9,m8]/\i<=x.c.sd.length/\OwS (HA (l.map Ce.c) x.c i) v5 v6 v7 v8 v9 m5 m6 m7 m8 m9)
  (x.c.sd.length-0) _ ⟨0,_,_,_,_,_,Hp.emp,Hp.emp,Hp.emp,_,_,rfl,rfl,Da,rfl,ω,⟨OwnL.nil Bi,OwnL.nil Bi,OwnL.nil Bi,OwnL.rep _ 0 ω,DK g24 Bi⟩⟩ Qs ?_
 rintro q s hh ms' ⟨i,v5,v6,v7,v8,v9,m5,m6,m7,m8,m9,rfl,rfl,lh,rfl,hi,W⟩;have hR:=hR.up lh;have hX:=hX.up lh;have hA:=Seg.all (hS.le lh);have KS:=Sw K i hi;refine Ac (Aq (Qm Y (Qf BI Y (Ql Y Cf (hA _ _ Y _) (Qx (As hX.rd.any Y Cf Y) Y (Qm Y (Am ?_)))))));refine Ao Y (λhlt=>?_) (λhlt=>?_)
 ·have hil:i<x.c.sd.length:=CX hlt;obtain⟨k,hk⟩:∃k:Nat,JL (l.map Ce.c) (BD x.c i).1=k:=⟨(JL (l.map Ce.c) (BD x.c i).1).toNat,by have:=K.at_ i hil;omega⟩
  have hkl:k<l.length:=by have:=IG (l.map Ce.c) (BD x.c i).1;rw[hk,af]at this;omega
  have hy:FT (l.map Ce.c) x.c i=l[k].c:=by unfold FT;rw[hk];simp[List.getD,hkl]
  have hsi:=By hil;have hci:∀ms,Cell hh ms ((AG x.v).add (i*2)) (.w x.c.sd[i].1):=λms=>(hX.any (ms:=ms)).cell0 hil Y;have hgk:∀ms,Seg hh ms ((AG v).add (k*3)) (cC l[k]):=λms=>(hR.q.any (ms:=ms)).seg hkl;have hY:=hR.s _ (ae hkl);have oy:=hY.rd.one;have o5:v5.oneCell'=true:=(W.i.rd (h:=hh) (ms:=[m5]) Mh).rd.one;have o6:v6.oneCell'=true:=(W.s.rd (h:=hh) (ms:=[m6]) Mh).rd.one;have o7:v7.oneCell'=true:=(W.m.rd (h:=hh) (ms:=[m7]) Mh).rd.one;have o8:v8.oneCell'=true:=(W.p.rd (h:=hh) (ms:=[m8]) Mh).rd.one;have o9:v9.oneCell'=true:=(W.f.rd (h:=hh) (ms:=[m9]) Mh).rd.one;have hpl:=KS.p;have hk':JL (l.map Ce.c) x.c.sd[i].1=k:=by rw[<-hsi];exact hk
  refine Ah (Ad (Ac (Ag (Aq (Qm Y (Qm Y (Qm Y (Qx (Bk (i) (W.p.rd (h:=hh) (ms:=[m8]) Mh).rd Y AN A0 Y Y ω ω) Y (BQ 4 i W.p Y A0 Y Y Y ω Y Y (λm8 hO8=>?_))))))))));have W1:OwS ((HA (l.map Ce.c) x.c i).start i) v5 v6 v7 v8 v9 m5 m6 m7 m8 m9:=⟨W.i,W.s,W.m,hO8,W.f⟩
  have K1:=KS.start (i:=i);refine BM (Qm Y (Qm Y (Qf BI Y (Ql Y Cf (hA _ _ Y _) (Qm Y (Qx (BN (i) hX.rd.any Y Cf AS Y Y) Y (Qf Cm Y (Ql Y U3 (hci _) (Qx (AH Y call117 Y (AbZ hk' v hh hn hst hR.q _)) Y (Qx (BN (k) hR.q.rd.any Y Bm AI Y Y) Y (Qx (oG Y Ey AI (hgk _)) Y (Cx [.w 0,.w 0,.nl] Y AI Y Y (λg11=>?_)))))))))))));refine Sa 0 [_,_,_] AI Y (by simp[o1,o2,oy,o5,o6,o7,o8,o9]) ?_;refine Am (Ax λh2 l2 hS11=>?_);have hX:=hX.up l2;have hY:=hY.up l2;have hA:=Seg.all ((hS.le lh).le l2);have hA11:=Seg.all hS11;have hyn:l[k].c.sd.length<=64:=by have:=K.yn i hil;rwa [hy]at this
  have hys:∀r∈l[k].c.sd,r.2=1\/r.2=-1:=by have:=K.ys i hil;rwa [hy]at this
  have hsg:=K.sg i hil;have hstep:HA (l.map Ce.c) x.c (i+1)=((HA (l.map Ce.c) x.c i).start i).sides i (BD x.c i).2 l[k].c.sd:=by rw[<-hy];rfl
  obtain⟨S0,hS0⟩:∃S0,(HA (l.map Ce.c) x.c i).start i=S0:=⟨_,Y⟩
  rw[hS0]at W1 K1 hstep;refine Aq (Qm Y (Am (Ag ?_)))
  refine Ay (λq s hh ms'=>∃(j:Nat) (v5 v6 v7 v8 v9:Value) (m5 m6 m7 m8 m9:Hp),q=l[k].c.sd.length-j/\s=[(0,v),(3,.pt g3),(5,v5),(6,v6),(7,v7),(8,v8),(9,v9),(10,.w i),(11,.pt g11),(12,.w j)]/\h2=hh/\ms'=[m5,m6,m7,m9,m8]/\j<=l[k].c.sd.length/\OwS (S0.sides i (BD x.c i).2 (l[k].c.sd.take j)) v5 v6 v7 v8 v9 m5 m6 m7 m8 m9)
   (l[k].c.sd.length-0) _ ⟨0,_,_,_,_,_,_,_,_,_,_,rfl,rfl,rfl,rfl,ω,W1⟩ Qs ?_
  rintro q s hh' ms' ⟨j,v5,v6,v7,v8,v9,m5,m6,m7,m8,m9,rfl,rfl,rfl,rfl,hj,W⟩;have hkj:=S2.Ok.sides (i:=i) hil hsg (l[k].c.sd.take j) S0 _ K1 (λr hr=>hys r (mem_of_mem_take hr));rw[av]at hkj;refine Ac (Aq (Qm Y (Qf BI Y (Ql Y Cf (hA11 _ _ Y _) (Qx (As hY.rd.any Y Cf Y) Y (Qm Y (Am ?_)))))));refine Ao Y (λhlt2=>?_) (λhlt2=>?_)
  ·have hjl:j<l[k].c.sd.length:=CX hlt2;have hnext:S0.sides i (BD x.c i).2 (l[k].c.sd.take (j+1))=(S0.sides i (BD x.c i).2 (l[k].c.sd.take j)).side i (BD x.c i).2 l[k].c.sd[j]:=by rw[ak hjl,S2.sides_snoc]
   obtain⟨S,hSS⟩:∃S,S0.sides i (BD x.c i).2 (l[k].c.sd.take j)=S:=⟨_,Y⟩
   obtain⟨T,hT⟩:∃T,64*i+min j l[k].c.sd.length=T:=⟨_,Y⟩
   rw[hT]at hkj;rw[hSS]at W hkj hnext;have hT2:T<=4200:=ω
   have hil2:=hkj.t;have hc0:∀ms,Cell h2 ms ((AG l[k].v).add (j*2)) (.w l[k].c.sd[j].1):=λms=>(hY.any (ms:=ms)).cell0 hjl Y;have hc1:∀ms,Cell h2 ms (((AG l[k].v).add (j*2)).add 1) (.w l[k].c.sd[j].2):=λms=>(hY.any (ms:=ms)).cell hjl (f:=1) Y;have hcx:∀ms,Cell h2 ms (((AG x.v).add (i*2)).add 1) (.w x.c.sd[i].2):=λms=>(hX.any (ms:=ms)).cell hil (f:=1) Y;have o5:v5.oneCell'=true:=(W.i.rd (h:=h2) (ms:=[m5]) Mh).rd.one;have o6:v6.oneCell'=true:=(W.s.rd (h:=h2) (ms:=[m6]) Mh).rd.one;have o7:v7.oneCell'=true:=(W.m.rd (h:=h2) (ms:=[m7]) Mh).rd.one;have o8:v8.oneCell'=true:=(W.p.rd (h:=h2) (ms:=[m8]) Mh).rd.one;have o9:v9.oneCell'=true:=(W.f.rd (h:=h2) (ms:=[m9]) Mh).rd.one;obtain⟨r,hr⟩:∃r,l[k].c.sd[j]=r:=⟨_,Y⟩
   rw[hr]at hc0 hc1 hnext;refine Ah (Ad ?_);refine Bg (λs h' ms'=>∃(v5 v6 v7 v8 v9:Value) (m5 m6 m7 m8 m9:Hp),s=[(0,v),(3,.pt g3),(5,v5),(6,v6),(7,v7),(8,v8),(9,v9),(10,.w i),(11,.pt g11),(12,.w j)]/\h2=h'/\ms'=[m5,m6,m7,m9,m8]/\OwS (S0.sides i (BD x.c i).2 (l[k].c.sd.take (j+1))) v5 v6 v7 v8 v9 m5 m6 m7 m8 m9) ?_ (λs h ms hI=>?_)
   ·refine Ag (Aq (Qm Y (Am ?_)));refine Bg (λs h' ms'=>s=[(0,v),(3,.pt g3),(5,v5),(6,v6),(7,v7),(8,v8),(9,v9),(10,.w i),(11,.pt g11),(12,.w j),(13,.w (EN S.ids r.1))]/\h2=h'/\ms'=[m5,m6,m7,m9,m8]) ?_ (λs h ms hI=>?_)
    ·have hri:=W.i.rd (h:=h2) (ms:=[m5,m6,m7,m9,m8]) Mh;refine Ag ?_
     refine Ay (λq s h' ms'=>∃(a:Nat),q=S.ids.length-a/\s=[(0,v),(3,.pt g3),(5,v5),(6,v6),(7,v7),(8,v8),(9,v9),(10,.w i),(11,.pt g11),(12,.w j),(13,.w a)]/\h2=h'/\ms'=[m5,m6,m7,m9,m8]/\a<=S.ids.length/\∀b (hb:b<S.ids.length),b<a->S.ids[b]≠r.1)
      (S.ids.length-0) _ ⟨0,rfl,rfl,rfl,rfl,ω,λb hb h=>ω⟩ Qs ?_
     rintro q s h' ms' ⟨a,rfl,rfl,rfl,rfl,ha,hno⟩;refine Ac (Ac (Bc 15 CT κ Y (Wm Y (Wm Y (AM (As hri.rd Y AN Y) Y Y (Wm Y (Wm Y ?_)))))));refine CC (t:=58) Y (λhs1=>?_) (λhs1=>?_)
     ·have hal:a<S.ids.length:=CX hs1;have hca:Cell h2 [m5,m6,m7,m9,m8] ((AG v5).add (a*1)) (.w S.ids[a]):=hri.cell0 hal Y;refine AJ (Ar Y Y) Y Y Y Y (AJ (Ar Y Y) Y Y Y Y (AJ (BN (a) hri.rd Y AN A0 Y Y) Y Y Y Y (AJ (oL Y U3 (hca)) Y Y Y Y (AJ (oF BI Y) Y Y Y Y (AJ (oL Y Cf (hA11 _ _ Y _)) Y Y Y Y (AJ (Ar Y Y) Y Y Y Y (AJ (BN (j) hY.rd.any Y Cf AS Y Y) Y Y Y Y (AJ (oF Cm Y) Y Y Y Y (AJ (oL Y U3 (hc0 _)) Y Y Y Y (A7 (Qg (B8 Y Y Y) Y (Qm Y (Am ?_)))))))))))));refine Ao Y (λhs2=>?_) (λhs2=>?_)
      ·refine Ah (Ad (Ag (Ab (Qm Y (Qx (oA Y) Y (Qm Y (Ak (Ai ?_))))))))
       exact Al (S.ids.length-(a+1)) _ ω ⟨a+1,Y,Y,Y,Y,ω,λb hb h=>by
        rcases (ω:b<a\/b=a) with h1|rfl
        ·exact hno b hb h1
        ·exact hs2⟩ Qs
      ·have hf:EN S.ids r.1=a:=QS ha hno λ_=>bc λq=>hs2 q;refine Av (Aa (Aa (Af ?_)));rw[hf];exact Az _ ⟨Y,Y,Y⟩ Qs
     ·have hf:EN S.ids r.1=a:=QS ha hno λh=>jt h ω;refine AC Y Y Y Y Y (AC Y Y Y Y Y (AC Y Y Y Y Y (AC Y Y Y Y Y (AC Y Y Y Y Y (AC Y Y Y Y Y (AC Y Y Y Y Y (AC Y Y Y Y Y (AC Y Y Y Y Y (AC Y Y Y Y Y (A7 (Qk Y (Qm Y (Am (AQ Y (Av (Aa (Aa (Af ?_))))))))))))))))));rw[hf];exact Az _ ⟨Y,Y,Y⟩ Qs
    ·obtain⟨rfl,rfl,rfl⟩:=hI;refine Bg (λs h' ms'=>∃(v5 v6 v7 v8 v9:Value) (m5 m6 m7 m8 m9:Hp),s=[(0,v),(3,.pt g3),(5,v5),(6,v6),(7,v7),(8,v8),(9,v9),(10,.w i),(11,.pt g11),(12,.w j),(13,.w (EN S.ids r.1))]/\h2=h'/\ms'=[m5,m6,m7,m9,m8]/\OwS (S.add i r.1) v5 v6 v7 v8 v9 m5 m6 m7 m8 m9) ?_ (λs h ms hI=>?_)
     ·refine Ac (Ab (Qm Y (Qm Y (Qx (As (W.i.rd (h:=h2) (ms:=[m5,m6,m7,m9,m8]) Mh).rd Y AN Y) Y (Qm Y (Am ?_))))));refine Ao Y (λhnew=>?_) (λhnew=>?_)
      ·have hadd:S.add i r.1=⟨S.ids++[r.1],S.su++[0],S.ma++[0],S.fi++[(i:Int)],S.pa⟩:=by unfold S2.add;rw[ac ω]
       have e1:=hkj.s;have e2:=hkj.m;have e3:=hkj.f;refine Aq (Qm Y (Qf BI Y (Ql Y Cf (hA11 _ _ Y _) (Qm Y (Qx (BN (j) hY.rd.any Y Cf AS Y Y) Y (Qf Cm Y (Ql Y U3 (hc0 _) (Aw [_] Y AN A0 Y (by rfl) Y Y ω Y Y Y (λg84=>AU 1 W.i (RdL.one Bi (x:=r.1) Mh Y) Y AN A0 Y ω Y Y Y B5 (by(try simp only[ab]);omega) (by(try simp only[ab]);omega) rfl rfl rfl (λw5 n5 hN5=>?_))))))))));have p5:=hN5.o1;refine Qm Y (BM (Qm Y (Aw [_] Y AN A0 Y (by rfl) Y Y ω Y Y Y (λg87=>AU 3 W.s (RdL.one Bi (x:=0) Mh Y) Y AN A0 Y ω Y Y Y B5 (by(try simp only[ab]);omega) (by(try simp only[ab]);omega) rfl rfl rfl (λw6 n6 hN6=>?_)))));have p6:=hN6.o1;refine Qm Y (BM (Qm Y (Aw [_] Y AN A0 Y (by rfl) Y Y ω Y Y Y (λg90=>AU 5 W.m (RdL.one Bi (x:=0) Mh Y) Y AN A0 Y ω Y Y Y B5 (by(try simp only[ab]);omega) (by(try simp only[ab]);omega) rfl rfl rfl (λw7 n7 hN7=>?_)))));have p7:=hN7.o1;refine Qm Y (Gl (Qm Y (Qm Y (Aw [_] Y AN A0 Y (by rfl) Y Y ω Y Y Y (λg94=>AU 7 W.f (RdL.one Bi (x:=(i:Int)) Mh Y) Y AN A0 Y ω Y Y Y B5 (by(try simp only[ab]);omega) (by(try simp only[ab]);omega) rfl rfl rfl (λw9 n9 hN9=>?_))))));have p9:=hN9.o1;refine Qm Y (Ak ?_);refine AX (AX (AX (AX ?_)));exact Az _ ⟨w5,w6,w7,v8,w9,n5,n6,n7,m8,n9,Y,Y,Y,by rw[hadd];exact⟨hN5,hN6,hN7,W.p,hN9⟩⟩ Qs
      ·have hadd:S.add i r.1=S:=by unfold S2.add;rw[aa ω]
       refine Ah ?_;exact Az _ ⟨v5,v6,v7,v8,v9,m5,m6,m7,m8,m9,Y,Y,Y,by rw[hadd];exact W⟩ Qs
     ·obtain⟨v5,v6,v7,v8,v9,m5,m6,m7,m8,m9,rfl,rfl,rfl,W⟩:=hI;have hK2:=hkj.add hil r.1;have hSU:=S2.add_su hkj i r.1;have hrm:r∈l[k].c.sd:=by rw[<-hr];exact ae hjl
      have hw:=Qi hsg (hys r hrm);obtain⟨kf,hkf⟩:∃kf,EN S.ids r.1=kf:=⟨_,Y⟩
      obtain⟨U,hU⟩:∃U,S.add i r.1=U:=⟨_,Y⟩
      have hres:S.side i (BD x.c i).2 r=U.hit i kf ((BD x.c i).2*r.2):=by unfold S2.side;rw[hU,hkf]
      rw[hsi]at hw hres;rw[hU]at W hK2 hSU;rw[hkf]at hK2 ⊢;rw[hsi]at hnext;obtain⟨KU,hkl2⟩:=hK2;have hsl:kf<U.su.length:=by rw[KU.s];exact hkl2
      have hml:kf<U.ma.length:=by rw[KU.m];exact hkl2
      have hfl:kf<U.fi.length:=by rw[KU.f];exact hkl2
      have hsb:=hSU.1 _ (ae hsl);have hmb:=hSU.2 _ (ae hml);have hfb:=KU.fb _ (ae hfl);obtain⟨f,hf⟩:∃f:Nat,U.fi[kf]=f:=⟨U.fi[kf].toNat,ω⟩
      have hfp:f<U.pa.length:=by rw[KU.p];omega
      have hip:i<U.pa.length:=by rw[KU.p];exact hil
      have o5:v5.oneCell'=true:=(W.i.rd (h:=h2) (ms:=[m5]) Mh).rd.one;have o6:v6.oneCell'=true:=(W.s.rd (h:=h2) (ms:=[m6]) Mh).rd.one;have o7:v7.oneCell'=true:=(W.m.rd (h:=h2) (ms:=[m7]) Mh).rd.one;have o8:v8.oneCell'=true:=(W.p.rd (h:=h2) (ms:=[m8]) Mh).rd.one;have o9:v9.oneCell'=true:=(W.f.rd (h:=h2) (ms:=[m9]) Mh).rd.one;have c6:∀ms,m6∈ms->Cell h2 ms ((AG v6).add (kf*1)) (.w U.su[kf]):=λms hm=>(W.s.rd (h:=h2) hm).cell0 hsl Y;have c7:∀ms,m7∈ms->Cell h2 ms ((AG v7).add (kf*1)) (.w U.ma[kf]):=λms hm=>(W.m.rd (h:=h2) hm).cell0 hml Y;have c9:∀ms,m9∈ms->Cell h2 ms ((AG v9).add (kf*1)) (.w f):=λms hm=>by have:=(W.f.rd (h:=h2) hm).cell0 hfl Y;rw[hf]at this;exact this
      have c8f:∀ms,m8∈ms->Cell h2 ms ((AG v8).add (f*1)) (.w U.pa[f]):=λms hm=>(W.p.rd (h:=h2) hm).cell0 hfp Y;have c8i:∀ms,m8∈ms->Cell h2 ms ((AG v8).add (i*1)) (.w U.pa[i]):=λms hm=>(W.p.rd (h:=h2) hm).cell0 hip Y;refine Ac (Eb 19 [true,true] CT κ κ κ (Ew Y Y Y Y (CB Y Y) (Ew Y Y Y Y (CB Y Y) ?_)));refine⟨Y,?_⟩;simp only[E3,zap,bl,ay,List.take_succ_cons,List.take_zero,List.drop_succ_cons,jj,i6,i7];refine Ex Y Y Y (Ex Y Y Y (Wm Y (Wm Y (AM (Bk (kf) (W.s.rd (h:=h2) (ms:=[m6]) Mh).rd Y AN A0 Y Y ω ω) Y Y ?_))));refine Wl Y U3 (c6 _ (by repeat (first|exact Mh|refine List.Mem.tail _ ?_))) ?_;refine Wf BI Y (Wl Y Cf (hA _ _ Y _) (Wm Y (AM (BN (i) hX.rd.any Y Cf AS Y Y) Y Y (Wf Dt Y (Wl Y U3 (hcx _) (Wf BI Y (Wl Y Cf (hA11 _ _ Y _) (Wm Y (AM (BN (j) hY.rd.any Y Cf AS Y Y) Y Y (Wf Dt Y (Wl Y U3 (hc1 _) (AM (oM Y) Y Y (A7 (Qx (oA Y) Y (Qx (Bk (kf) (W.s.rd (h:=h2) (ms:=[m6]) Mh).rd Y AN A0 Y Y ω ω) Y (BQ 1 kf W.s Y A0 Y Y Y hsl Y Y (λn6 hN6=>Ak (Il (Ad (Aq (Qm Y (Qm Y (Qx (Bk (kf) (W.m.rd (h:=h2) (ms:=[m7]) Mh).rd Y AN A0 Y Y ω ω) Y ?_)))))))))))))))))))))));refine Ql Y U3 (c7 _ (by repeat (first|exact Mh|refine List.Mem.tail _ ?_))) ?_;refine Qx (oA Y) Y (Qx (Bk (kf) (W.m.rd (h:=h2) (ms:=[m7]) Mh).rd Y AN A0 Y Y ω ω) Y (BQ 2 kf W.m Y A0 Y Y Y hml Y Y (λn7 hN7=>BM (Qm Y (Qm Y (Qm Y (Qx (Bk (kf) (W.f.rd (h:=h2) (ms:=[m9]) Mh).rd Y AN A0 Y Y ω ω) Y ?_)))))));refine Ql Y U3 (c9 _ (by repeat (first|exact Mh|refine List.Mem.tail _ ?_))) ?_;refine Qx (Bk (f) (W.p.rd (h:=h2) (ms:=[m8]) Mh).rd Y AN A0 Y Y ω ω) Y ?_;refine Ql Y U3 (c8f _ (by repeat (first|exact Mh|refine List.Mem.tail _ ?_))) ?_;refine Qm Y (BM (Qm Y (Qm Y (Qx (Bk (i) (W.p.rd (h:=h2) (ms:=[m8]) Mh).rd Y AN A0 Y Y ω ω) Y ?_))));refine Ql Y U3 (c8i _ (by repeat (first|exact Mh|refine List.Mem.tail _ ?_))) ?_;refine Qm Y (BM (Qm Y (Am (Ag ?_))))
      refine Ay (λq s h' ms'=>∃(a:Nat) (m8:Hp),q=i+1-a/\s=[(0,v),(3,.pt g3),(5,v5),(6,v6),(7,v7),(8,v8),(9,v9),(10,.w i),(11,.pt g11),(12,.w j),(14,.w U.pa[f]),(15,.w U.pa[i]),(16,.w a)]/\h2=h'/\ms'=[m5,n6,n7,m9,m8]/\a<=i+1/\OwnL cI 1 3 m8 v8 (FQ U.pa a U.pa[i] U.pa[f]))
       (i+1-0) _ ⟨0,m8,rfl,rfl,rfl,rfl,ω,by rw[Uo];exact W.p⟩ Qs ?_
      rintro q s h' ms' ⟨a,m8',rfl,rfl,rfl,rfl,ha,hO8⟩;refine Ac (Aq (Qm Y (Qm Y (Qm Y (Am ?_)))));refine Ao Y (λhla=>?_) (λhla=>?_)
      ·have hap:a<U.pa.length:=ω
       have hal:a<(FQ U.pa a U.pa[i] U.pa[f]).length:=by rw[Du];exact hap
       have hga:(FQ U.pa a U.pa[i] U.pa[f])[a]=U.pa[a]:=by rw[Fc hap,aa (λq=>jt q.1 (Nat.lt_irrefl _))]
       have hca:Cell h2 [m5,n6,n7,m9,m8'] ((AG v8).add (a*1)) (.w U.pa[a]):=by have:=(hO8.rd (h:=h2) (ms:=[m5,n6,n7,m9,m8']) (by repeat (first|exact Mh|refine List.Mem.tail _ ?_))).cell0 hal Y;rw[hga]at this;exact this
       refine Ah (Ad (Ac (Ag (Aq (Qm Y (Qm Y (Qx (Bk (a) (hO8.rd (h:=h2) (ms:=[m8']) Mh).rd Y AN A0 Y Y ω ω) Y (Ql Y U3 (hca) (Qm Y (Qm Y (Am ?_)))))))))));refine Ao Y (λhq=>?_) (λhq=>?_)
       ·refine Ab (Qm Y (Qm Y (Qm Y (Qx (Bk (a) (hO8.rd (h:=h2) (ms:=[m8']) Mh).rd Y AN A0 Y Y ω ω) Y (BQ 4 a hO8 Y A0 Y Y Y hal Y Y (λn8 hN8=>?_))))));rw[WQ hap hq]at hN8;refine Ak (Ai (Ad (Ab (Qm Y (Qx (oA Y) Y (Qm Y (Ak ?_)))))));exact Al (i+1-(a+1)) _ ω ⟨a+1,n8,Y,Y,Y,Y,ω,hN8⟩ Qs
       ·rw[ZK hap hq]at hO8;refine Ah (Ai (Ad (Ab (Qm Y (Qx (oA Y) Y (Qm Y (Ak ?_)))))));exact Al (i+1-(a+1)) _ ω ⟨a+1,m8',Y,Y,Y,Y,ω,hO8⟩ Qs
      ·obtain rfl:a=i+1:=ω
       have g6:U.su.getD kf 0=U.su[kf]:=by simp[List.getD,hsl]
       have g7:U.ma.getD kf 0=U.ma[kf]:=by simp[List.getD,hml]
       have g9:(U.fi.getD kf 0).toNat=f:=by rw[show U.fi.getD kf 0=U.fi[kf] by simp[List.getD,hfl],hf];rfl
       have g8:U.pa.getD f 0=U.pa[f]:=by simp[List.getD,hfp]
       have g8':U.pa.getD i 0=U.pa[i]:=by simp[List.getD,hip]
       have hH:U.hit i kf (x.c.sd[i].2*r.2)=⟨U.ids,U.su.set kf (U.su[kf]+x.c.sd[i].2*r.2),U.ma.set kf (U.ma[kf]+1),U.fi,FQ U.pa (i+1) U.pa[i] U.pa[f]⟩:=by unfold S2.hit;rw[g6,g7,g9,g8,g8']
       have hWn:OwS (S0.sides i (BD x.c i).2 (l[k].c.sd.take (j+1))) v5 v6 v7 v8 v9 m5 n6 n7 m8' m9:=by rw[hsi,hnext,hres,hH];exact⟨W.i,hN6,hN7,hO8,W.f⟩
       refine Av (Aa (Aa (Af (Ai ?_))));exact Az _ ⟨v5,v6,v7,v8,v9,m5,n6,n7,m8',m9,Y,Y,Y,hWn⟩ Qs
   ·obtain⟨v5,v6,v7,v8,v9,m5,m6,m7,m8,m9,rfl,rfl,rfl,W⟩:=hI;refine Ab (Qm Y (Qx (oA Y) Y (Qm Y (Ak ?_))));exact Al (l[k].c.sd.length-(j+1)) _ ω ⟨j+1,v5,v6,v7,v8,v9,m5,m6,m7,m8,m9,Y,Y,Y,Y,ω,W⟩ Qs
  ·have hje:j=l[k].c.sd.length:=ω
   rw[hje,ct,<-hstep]at W;refine Av (Aa (Aa (Af (Ai (Ad (Ab (Qm Y (Qx (oA Y) Y (Qm Y (Ak ?_))))))))));exact Al (x.c.sd.length-(i+1)) _ ω ⟨i+1,v5,v6,v7,v8,v9,m5,m6,m7,m8,m9,Y,Y,AE lh l2,Y,ω,W⟩ Qs
 ·obtain rfl:i=x.c.sd.length:=ω
  obtain⟨S,hS⟩:∃S,HA (l.map Ce.c) x.c x.c.sd.length=S:=⟨_,Y⟩
  have hsec:Eg (l.map Ce.c) x.c=(if ¬∀y∈S.su,y=0 then 24 else if ¬∀y∈S.ma,y=2 then 25 else if ¬∀y∈S.pa,y=S.pa.getD 0 0 then 25 else 0):=by unfold Eg;rw[hS]
  rw[hS]at W KS;have r6:=W.s.rd (h:=hh) (ms:=[m5,m6,m7,m9,m8]) (by repeat (first|exact Mh|refine List.Mem.tail _ ?_));have r7:=W.m.rd (h:=hh) (ms:=[m5,m6,m7,m9,m8]) (by repeat (first|exact Mh|refine List.Mem.tail _ ?_));have r8:=W.p.rd (h:=hh) (ms:=[m5,m6,m7,m9,m8]) (by repeat (first|exact Mh|refine List.Mem.tail _ ?_));clear hlt hi hR hX hA;refine Av (Aa (Aa (Af (Ad (Ac (Aq (Qm Y (Am (Ag ?_)))))))))
  refine Ay (λq s h' ms'=>∃(a:Nat),q=S.su.length-a/\s=[(6,v6),(7,v7),(8,v8),(17,.w a)]/\hh=h'/\ms'=[m5,m6,m7,m9,m8]/\a<=S.su.length/\∀b (hb:b<S.su.length),b<a->S.su[b]=0)
   (S.su.length-0) _ ⟨0,rfl,rfl,rfl,rfl,ω,λb hb h=>ω⟩ Qs ?_
  rintro q s h' ms' ⟨a,rfl,rfl,rfl,rfl,ha,hno⟩;have r6l:=r6.len_le;refine Ac (Aq (Qm Y (Qm Y (Qx (As r6.rd Y AN Y) Y (Qm Y (Am ?_))))));refine Ao Y (λhl6=>?_) (λhl6=>?_)
  ·have hal:a<S.su.length:=CX hl6;have hca:=r6.cell0 hal Y;refine Ah (Ad (Ac (Ag (Aq (Qm Y (Qm Y (Qx (BN (a) r6.rd Y AN A0 Y Y) Y (Ql Y U3 (hca) (Qm Y (Am ?_))))))))));refine Ao Y (λhq=>?_) (λhq=>?_)
   ·refine Ac (Ab (Qm Y (Am (An (Aj (Ae (Ae (Aj (Ae ?_)))))))));exact Ap Y Y (by rw[hsec,ac (λq=>hq (q _ (ae hal)))])
   ·have hq:S.su[a]=0:=bc λq=>hq q;refine Ah (Ai (Ad (Ab (Qm Y (Qx (oA Y) Y (Qm Y (Ak ?_)))))))
    exact Al (S.su.length-(a+1)) _ ω ⟨a+1,Y,Y,Y,Y,ω,λb hb h=>by
     rcases (ω:b<a\/b=a) with h1|rfl
     ·exact hno b hb h1
     ·exact hq⟩ Qs
  ·have hall:∀y∈S.su,y=0:=λy hy=>by obtain⟨b,hb,rfl⟩:=dl.1 hy;exact hno b hb ω
   rw[aa (λq=>q hall)]at hsec;clear hno hl6 ha;refine Av (Aa (Aa (Af (Ad (Ac (Aq (Qm Y (Am (Ag ?_)))))))))
   refine Ay (λq s h' ms'=>∃(a:Nat),q=S.ma.length-a/\s=[(7,v7),(8,v8),(18,.w a)]/\hh=h'/\ms'=[m5,m6,m7,m9,m8]/\a<=S.ma.length/\∀b (hb:b<S.ma.length),b<a->S.ma[b]=2)
    (S.ma.length-0) _ ⟨0,rfl,rfl,rfl,rfl,ω,λb hb h=>ω⟩ Qs ?_
   rintro q s h' ms' ⟨a,rfl,rfl,rfl,rfl,ha,hno⟩;have r7l:=r7.len_le;refine Ac (Aq (Qm Y (Qm Y (Qx (As r7.rd Y AN Y) Y (Qm Y (Am ?_))))));refine Ao Y (λhl7=>?_) (λhl7=>?_)
   ·have hal:a<S.ma.length:=CX hl7;have hca:=r7.cell0 hal Y;refine Ah (Ad (Ac (Ag (Aq (Qm Y (Qm Y (Qx (BN (a) r7.rd Y AN A0 Y Y) Y (Ql Y U3 (hca) (Qm Y (Am ?_))))))))));refine Ao Y (λhq=>?_) (λhq=>?_)
    ·refine Ac (Ab (Qm Y (Am (An (Aj (Ae (Ae (Aj (Ae ?_)))))))));exact Ap Y Y (by rw[hsec,ac (λq=>hq (q _ (ae hal)))])
    ·have hq:S.ma[a]=2:=bc λq=>hq q;refine Ah (Ai (Ad (Ab (Qm Y (Qx (oA Y) Y (Qm Y (Ak ?_)))))))
     exact Al (S.ma.length-(a+1)) _ ω ⟨a+1,Y,Y,Y,Y,ω,λb hb h=>by
      rcases (ω:b<a\/b=a) with h1|rfl
      ·exact hno b hb h1
      ·exact hq⟩ Qs
   ·have hall2:∀y∈S.ma,y=2:=λy hy=>by obtain⟨b,hb,rfl⟩:=dl.1 hy;exact hno b hb ω
    rw[aa (λq=>q hall2)]at hsec;clear hno hl7 ha;refine Av (Aa (Aa (Af (Ad (Ac (Aq (Qm Y (Am (Ag ?_)))))))))
    refine Ay (λq s h' ms'=>∃(a:Nat),q=S.pa.length-a/\s=[(8,v8),(19,.w a)]/\hh=h'/\ms'=[m5,m6,m7,m9,m8]/\a<=S.pa.length/\∀b (hb:b<S.pa.length),b<a->S.pa[b]=S.pa.getD 0 0)
     (S.pa.length-0) _ ⟨0,rfl,rfl,rfl,rfl,ω,λb hb h=>ω⟩ Qs ?_
    rintro q s h' ms' ⟨a,rfl,rfl,rfl,rfl,ha,hno⟩;have r8l:=r8.len_le;refine Ac (Aq (Qm Y (Qm Y (Qx (As r8.rd Y AN Y) Y (Qm Y (Am ?_))))));refine Ao Y (λhl8=>?_) (λhl8=>?_)
    ·have hal:a<S.pa.length:=CX hl8;have h0l:0<S.pa.length:=ω
     have g0:S.pa.getD 0 0=S.pa[0]:=by simp[List.getD,h0l]
     have hca:=r8.cell0 hal Y;have hc0:=r8.cell0 h0l Y;refine Ah (Ad (Ac (Ag (Ac (Bc 7 CT κ Y (Wm Y (Wm Y (AM (BN (a) r8.rd Y AN A0 Y Y) Y Y (Wl Y U3 (hca) (Wm Y (AM (BN (0) r8.rd Y AN A0 Y Y) Y Y (Wl Y U3 (hc0) (A7 (Qm Y (Am ?_)))))))))))))));refine Ao Y (λhq=>?_) (λhq=>?_)
     ·refine Ac (Ab (Qm Y (Am (An (Aj (Ae (Ae (Aj (Ae ?_)))))))));exact Ap Y Y (by rw[hsec,ac (λq=>hq (by rw[<-g0];exact q _ (ae hal)))])
     ·have hq:S.pa[a]=S.pa.getD 0 0:=by rw[g0];exact bc λq=>hq q
      refine Ah (Ai (Ad (Ab (Qm Y (Qx (oA Y) Y (Qm Y (Ak ?_)))))))
      exact Al (S.pa.length-(a+1)) _ ω ⟨a+1,Y,Y,Y,Y,ω,λb hb h=>by
       rcases (ω:b<a\/b=a) with h1|rfl
       ·exact hno b hb h1
       ·exact hq⟩ Qs
    ·have hall3:∀y∈S.pa,y=S.pa.getD 0 0:=λy hy=>by obtain⟨b,hb,rfl⟩:=dl.1 hy;exact hno b hb ω
     rw[aa (λq=>q hall3)]at hsec;refine Av (Aa (Aa (Af (Ad (Aq (Qm Y (Am (An ?_))))))));exact Ap Y Y (by rw[hsec])
variable {l:List Cl}
def Iv(o own:List Cl)(i:Nat):Option (Int×Int):=
 if(o.getD i default).id<1\/(0<i/\(o.getD i default).id=(o.getD (i-1) default).id) then some ((o.getD i default).id,20)
 else if CG own (o.getD i default)≠0 then some ((o.getD i default).id,CG own (o.getD i default)) else none
def Ky(o:List Cl)(i:Nat):Option (Int×Int):=
 if(o.getD i default).dim<2 then none
 else if Eg o (o.getD i default)≠0 then some ((o.getD i default).id,Eg o (o.getD i default)) else none
def Gi(l:List Cl):Int×Int:=if 4000<l.length then(0,2) else
 ((range l.length).findSome? (Iv (ordF l) (FU l))).getD (((range l.length).findSome? (Ky (ordF l))).getD (0,0))
theorem CH{β:Type}{e:Nat->Option β}:∀n,(∀b,b<n->e b=none)->(range n).findSome? e=none
 | 0,_=>rfl
 | n+1,h=>by rw[jp,List.findSome?_append,CH n λb hb=>h b ω];simp[h n ω]
theorem DU{β:Type}{e:Nat->Option β}{a:Nat}{x:β}(h:∀b,b<a->e b=none)(hx:e a=some x):∀n,a<n->(range n).findSome? e=some x
 | 0,ha=>ω
 | n+1,ha=>by
  rw[jp,List.findSome?_append];rcases (ω:a<n\/a=n) with h1|rfl
  ·rw[DU h hx n h1];rfl
  ·rw[CH a h];simp[hx]
theorem NP:∀(l:List Cl) (p:Option Int),(uq p l).Sublist l
 | [],_=>List.Sublist.refl _
 | a::l,p=>by
  unfold uq;split
  ·exact(NP l _).cons a
  ·exact(NP l _).cons_cons a
theorem MD(l:List Cl):(FU l).Pairwise λa b=>a.id<=b.id:=(DS l.length l (au _)).sublist (NP _ _)
theorem R6(l:List Cl):(FU l).length<=l.length:=by
 have:=(NP (ordF l) none).length_le
 rwa [Fh]at this
theorem Rh:∀(l:List Cl) (p:Option Int),(∀h:0<l.length,p≠some l[0].id)->(∀i (hi:i+1<l.length),l[i].id≠l[i+1].id)->uq p l=l
 | [],_,_,_=>rfl
 | a::l,p,h0,h=>by
  unfold uq
  rw[aa (show p≠some a.id from h0 σ),Rh l _ (λhl=>by
   have:=h 0 (by simp;omega)
   simpa using this) (λi hi=>by
   have:=h (i+1) (by simp;omega)
   simpa using this)]
theorem Fb{x:Cl}(h:CG l x=0):(0<=x.dim/\x.dim<=8)/\x.sd.length<=64/\(∀i,i<x.sd.length->¬CZ l x i)/\∀i,i<x.sd.length->¬B0 x i:=by
 unfold CG at h;split at h
 ·omega
 ·rename_i h1;split at h
  ·omega
  ·rename_i h2;split at h
   ·omega
   ·rename_i h3;split at h
    ·omega
    ·rename_i h4;refine⟨ω,?_,bk.1 h3,bk.1 h4⟩;unfold Cb at h2;omega
theorem HF{i:Nat}(hi:i<l.length):l.getD i default=l[i]:=by simp[List.getD,hi]
theorem ZZ(h:∀b,b<(ordF l).length->Iv (ordF l) (FU l) b=none){i:Nat}(hi:i<(ordF l).length):Te (ordF l) (ordF l)[i]:=by
 have hn:∀b (hb:b<(ordF l).length),(1<=(ordF l)[b].id/\¬(0<b/\(ordF l)[b].id=((ordF l).getD (b-1) default).id))/\CG (FU l) (ordF l)[b]=0:=λb hb=>by
  have:=h b hb;unfold Iv at this;rw[HF hb]at this;split at this
  ·cases this
  ·rename_i h1;split at this
   ·cases this
   ·rename_i h2;exact⟨⟨ω,λq=>h1 (.inr q)⟩,bk.1 h2⟩
 have heq:FU l=ordF l:=Rh _ _ (λ_=>nofun) λb hb q=>by have h1:=(hn (b+1) hb).1.2;refine h1 ⟨ω,?_⟩;rw[show b+1-1=b by omega,HF (show b<(ordF l).length by omega)];exact q.symm
 rw[heq]at hn;have hx:=Fb (hn i hi).2
 have hsg:∀b (hb:b<(ordF l).length),∀j,j<(ordF l)[b].sd.length->(BD (ordF l)[b] j).2=1\/(BD (ordF l)[b] j).2=-1:=λb hb j hj=>by have:=(Fb (hn b hb).2).2.2.2 j hj;unfold B0 at this;omega
 have hat:∀j,j<(ordF l)[i].sd.length->0<=JL (ordF l) (BD (ordF l)[i] j).1:=λj hj=>by have:=hx.2.2.1 j hj;unfold CZ at this;omega
 have hy:∀j,j<(ordF l)[i].sd.length->∃b,∃hb:b<(ordF l).length,FT (ordF l) (ordF l)[i] j=(ordF l)[b]:=λj hj=>by have h1:=hat j hj;have h2:=IG (ordF l) (BD (ordF l)[i] j).1;exact⟨_,ω,HF ω⟩
 refine⟨hx.2.1,hsg i hi,hat,λj hj=>?_,λj hj r hr=>?_⟩
 ·obtain⟨b,hb,e⟩:=hy j hj;rw[e];exact(Fb (hn b hb).2).2.1
 ·obtain⟨b,hb,e⟩:=hy j hj;rw[e]at hr;obtain⟨k,hk,rfl⟩:=dl.1 hr;have:=hsg b hb k hk
  rwa [By hk]at this
structure Ab7(l:List Ce):Prop extends CsOk l where
 d:∀a∈l,-9223372036854775807<=a.c.dim/\a.c.dim<=9223372036854775807
theorem HH{c:Cl}(h:c∈ordF l):∃a∈l,c=a.can:=by have:=(Dy l.length l (au _)).mem_iff.1 h;obtain⟨a,ha,e⟩:=ad.1 this;exact⟨a,ha,e.symm⟩
theorem Rw(l:List Ce)(v:Value)(h:Hp)(hK:Ab7 l)(hR:RdC h v l):FnT Tryz.prog 69 #[.agg #[v]] h [] (λr _ _=>r=.tuple #[.int .i64 (Gi (l.map Ce.c)).1,.int .i64 (Gi (l.map Ce.c)).2]):=by
 have o1:=hR.q.rd.one;have hn:=hK.n;refine Au func69 ntmps69 Y Y (λw0 hw0=>?_);simp only[A6];refine Aq (AP [_] Y Y (by rfl) Y Y Y (λg1=>Qm Y (Qm Y (Am (Ax λh1 l1 hS=>?_)))));have hR:=hR.up l1;have hA0:=Seg.all hS 0 _ Y;refine Ac (Aq (Qf Cr Y (Ql Y Bm (hA0 _) (Qx (As hR.q.rd.any Y Bm Y) Y (Qm Y (Am ?_))))));refine Ao Y (λhbig=>?_) (λhbig=>?_)
 ·refine Ac (Ab (Qm Y (Qm Y (Am (An (Ae ?_))))));exact BE Y Y Y (by unfold Gi;rw[ac (by rw[af];omega)])
 ·have hck:Gi (l.map Ce.c)=((range l.length).findSome? (Iv (ordF (l.map Ce.c)) (FU (l.map Ce.c)))).getD (((range l.length).findSome? (Ky (ordF (l.map Ce.c)))).getD (0,0)):=by unfold Gi;rw[aa (by rw[af];omega),af]
  refine Ah (Ad (Aq (Qf Cr Y (Ql Y Bm (hA0 _) (Qc call118 Y (LS (l.length+1) l v h1 ω ω hK.s hR) (λro h2 ms2 l2 hF=>?_))))));obtain⟨l2',mo,O,rfl,hOO,hO,hOs⟩:=hF;refine Ba hOO λh3 l3 hRO=>?_;have l13:=AE l2 l3;have hR:=hR.up l13;have hS:=hS.le l13;have oro:=hRO.rd.one;refine Qm Y (BM (Qx (oG Y CS A8 (Seg.any hS)) Y (Qc call49 Y (Fa l v h3 hK.toCsOk hR) (λrw_ h4 ms4 l4 hF=>?_))));obtain⟨l4',mw,W,rfl,hOW,hW,hWs⟩:=hF;refine Ba hOW λh5 l5 hRW=>?_;have l35:=AE l4 l5;have hRC:RdC h5 ro O:=⟨hRO.up l35,λa ha=>(hOs a ha).up (AE l3 l35)⟩
  have orw:=hRW.rd.one;have lO:O.length=l.length:=by have:=aw List.length hO;rwa [af,Fh,af]at this
  have lW:W.length<=100000:=by have:=aw List.length hW;rw[af]at this;have:=R6 (l.map Ce.c);rw[af]at this;omega
  have hOm:∀a∈O,a.c.sd.length<=100000/\-9223372036854775807<=a.c.dim/\a.c.dim<=9223372036854775807:=λa ha=>by
   have h1:a.c∈ordF (l.map Ce.c):=by rw[<-hO];exact List.mem_map_of_mem ha
   obtain⟨c,hc,e⟩:=HH h1;obtain⟨b,hb,rfl⟩:=ad.1 hc;rw[e];exact⟨by show(Cu _).length<=_;rw[GR];exact hK.s b hb,hK.d b hb⟩
  have hWst:(W.map Ce.c).Pairwise λa b=>a.id<=b.id:=by rw[hW];exact MD _
  have hOst:(O.map Ce.c).Pairwise λa b=>a.id<=b.id:=by rw[hO];exact DS _ _ (au _)
  have hget:∀i (hi:i<O.length),(ordF (l.map Ce.c)).getD i default=O[i].c:=λi hi=>by rw[<-hO,HF (by rw[af];exact hi),fm]
  have lord:(ordF (l.map Ce.c)).length=O.length:=by rw[<-hO,af]
  obtain⟨o,ho⟩:∃o,ordF (l.map Ce.c)=o:=⟨_,Y⟩
  obtain⟨w,hw⟩:∃w,FU (l.map Ce.c)=w:=⟨_,Y⟩
  rw[ho,hw,<-lO]at hck;rw[ho]at hget lord
  have hsec:(∀b,b<O.length->Iv o w b=none)->∀i (hi:i<O.length),Te o O[i].c:=λh i hi=>by
   have:=ZZ (l:=l.map Ce.c) (by rw[ho,hw,lord];exact h) (i:=i) (by rw[ho,lord];exact hi);have e:(ordF (l.map Ce.c))[i]'(by rw[ho,lord];exact hi)=O[i].c:=by rw[<-hget i hi];subst ho;exact(HF _).symm
   rwa [e,ho]at this
  rw[hw]at hW;rw[ho]at hO;refine Qm Y (Am (Ac (Aq (Qm Y (Am (Ag ?_))))))
  refine Ay (λq s h' ms'=>∃(i:Nat),q=O.length-i/\s=[(4,ro),(5,rw_),(6,.w i)]/\h5=h'/\ms'=[]/\i<=O.length/\∀b,b<i->Iv o w b=none)
   (O.length-0) _ ⟨0,rfl,rfl,rfl,rfl,ω,λb hb=>ω⟩ Qs ?_
  rintro q s h' ms' ⟨i,rfl,rfl,rfl,rfl,hi,hno⟩;refine Ac (Aq (Qm Y (Qm Y (Qx (As hRC.q.rd.any Y Bm Y) Y (Qm Y (Am ?_))))));refine Ao Y (λhlt=>?_) (λhlt=>?_)
  ·have hil:i<O.length:=CX hlt;have gi:=hget i hil;have hci:∀ms,Cell h5 ms ((AG ro).add (i*3)) (.w O[i].c.id):=λms=>(hRC.q.any (ms:=ms)).cell0 hil Y;have hgi:∀ms,Seg h5 ms ((AG ro).add (i*3)) (cC O[i]):=λms=>(hRC.q.any (ms:=ms)).seg hil;have oiv:=(hRC.s _ (ae hil)).rd.one;have hret:∀p,Iv o w i=some p->Gi (l.map Ce.c)=p:=λp hp=>by rw[hck,DU hno hp _ hil];rfl
   have hround:Iv o w i=none->∀b,b<i+1->Iv o w b=none:=λh b hb=>by
    rcases (ω:b<i\/b=i) with h1|rfl
    ·exact hno b h1
    ·exact h
   obtain⟨hm1,hm2⟩:=hOm _ (ae hil);refine Ah (Ad (Ac (Ag ?_)));refine Bg (λs h' ms'=>s=[(4,ro),(5,rw_),(6,.w i)]/\h5=h'/\ms'=[]/\¬(O[i].c.id<1\/(0<i/\O[i].c.id=(o.getD (i-1) default).id))) ?_ (λs h ms hI=>?_)
   ·refine Ac (Bc 21 CT κ Y (Wm Y (Wm Y (AM (BN (i) hRC.q.rd.any Y Bm AI Y Y) Y Y (Wf Bq Y (Wl Y U3 (hci _) (Wm Y (Wm Y ?_))))))));refine CC (t:=31) Y (λg1=>?_) (λg1=>?_)
    ·refine AC Y Y Y Y Y (AC Y Y Y Y Y (AC Y Y Y Y Y (AY Y Y Y Y (AY Y Y Y Y (AY Y Y Y Y (AY Y Y Y Y (AY Y Y Y Y (AY Y Y Y Y (AY Y Y Y Y (AY Y Y Y Y (AY Y Y Y Y (AY Y Y Y Y (AY Y Y Y Y (A7 (A3 Y Y Y Y Y Y (Qk Y (Qm Y (Am (A5 Y (Aq (Qm Y (Qm Y (Qx (BN (i) hRC.q.rd.any Y Bm AI Y Y) Y (Qf Bq Y (Ql Y U3 (hci _) (Qm Y (Qm Y (Am (An (Ae (Aj (Ae (Ae (Aj (Ae ?_)))))))))))))))))))))))))))))))))));exact BE Y Y Y (by rw[hret (O[i].c.id,20) (by unfold Iv;rw[gi,ac (.inl g1)])])
    ·refine AJ (Ar Y Y) Y Y Y Y (AJ (Ct Y Y Y) Y Y Y Y (AJ (Ar Y Y) Y Y Y Y ?_));refine CC (t:=34) Y (λg2=>?_) (λg2=>?_)
     ·have hip:i-1<O.length:=ω
      have gp:=hget (i-1) hip;have hcp:∀ms,Cell h5 ms ((AG ro).add ((i-1)*3)) (.w O[i-1].c.id):=λms=>(hRC.q.any (ms:=ms)).cell0 hip Y;refine AJ (Ar Y Y) Y Y Y Y (AJ (Ar Y Y) Y Y Y Y (AJ (BN (i) hRC.q.rd.any Y Bm AI Y Y) Y Y Y Y (AJ (oF Bq Y) Y Y Y Y (AJ (oL Y U3 (hci _)) Y Y Y Y (AJ (Ar Y Y) Y Y Y Y (AJ (Ar Y Y) Y Y Y Y (AJ (oS Y) Y Y Y Y (AJ (BN (i-1) hRC.q.rd.any Y Bm AI Y Y) Y Y Y Y (AJ (oF Bq Y) Y Y Y Y (AJ (oL Y U3 (hcp _)) Y Y Y Y (A7 (Qg (CO Y Y Y) Y (Qg (Cp Y Y Y) Y (Qm Y (Am ?_)))))))))))))));refine Ao Y (λg3=>?_) (λg3=>?_)
      ·refine Ac (Ab (Qm Y (Qm Y (Qx (BN (i) hRC.q.rd.any Y Bm AI Y Y) Y (Qf Bq Y (Ql Y U3 (hci _) (Qm Y (Qm Y (Am (An (Ae (Aj (Ae (Ae (Aj (Ae ?_))))))))))))))));exact BE Y Y Y (by rw[hret (O[i].c.id,20) (by unfold Iv;rw[gi,gp,ac (.inr ⟨ω,g3⟩)])])
      ·refine Ah ?_;exact Az _ ⟨Y,Y,Y,λq=>by rcases q with q|⟨_,q⟩;exact g1 q;rw[gp]at q;exact g3 q⟩ Qs
     ·refine AC Y Y Y Y Y (AC Y Y Y Y Y (AC Y Y Y Y Y (AC Y Y Y Y Y (AC Y Y Y Y Y (AC Y Y Y Y Y (AC Y Y Y Y Y (AC Y Y Y Y Y (AC Y Y Y Y Y (AC Y Y Y Y Y (AC Y Y Y Y Y (A7 (Qk Y (Qg (Ch Y Y Y) Y (Qm Y (Am (AQ Y (Ah ?_)))))))))))))))));exact Az _ ⟨Y,Y,Y,λq=>by rcases q with q|⟨q,_⟩;exact g1 q;exact g2 ω⟩ Qs
   ·obtain⟨rfl,rfl,rfl,hok⟩:=hI;have hA1:Iv o w i=if CG w O[i].c≠0 then some (O[i].c.id,CG w O[i].c) else none:=by unfold Iv;rw[gi,aa hok]
    have hfv:=λms=>ZF W O[i] rw_ h5 lW hm1 hm2 hWst hRW (hRC.s _ (ae hil)) ms;rw[hW]at hfv;refine Aq (Qm Y (Qm Y (Qm Y (Qx (BN (i) hRC.q.rd.any Y Bm AI Y Y) Y (Qx (oG Y Ey AI (hgi _)) Y (Qx (AH Y call139 Y (hfv _)) Y (Qm Y (BM (Qm Y (Qm Y (Am ?_)))))))))));refine Ao Y (λg4=>?_) (λg4=>?_)
    ·refine Ac (Ab (Qm Y (Qm Y (Qx (BN (i) hRC.q.rd.any Y Bm AI Y Y) Y (Qf Bq Y (Ql Y U3 (hci _) (Qm Y (Qm Y (Qm Y (Am (An (Aj (Ae (Ae (Aj (Ae ?_))))))))))))))));exact BE Y Y Y (by rw[hret (O[i].c.id,CG w O[i].c) (by rw[hA1,ac g4])])
    ·refine Ah (Ai (Ad (Ab (Qm Y (Qx (oA Y) Y (Qm Y (Ak ?_)))))));exact Al (O.length-(i+1)) _ ω ⟨i+1,Y,Y,Y,Y,ω,hround (by rw[hA1,aa g4])⟩ Qs
  ·obtain rfl:i=O.length:=ω
   have hck2:Gi (l.map Ce.c)=((range O.length).findSome? (Ky o)).getD (0,0):=by rw[hck,CH _ hno];rfl
   have hsecO:=hsec hno;refine Av (Aa (Aa (Af (Ad (Ac (Aq (Qm Y (Am (Ag ?_)))))))))
   refine Ay (λq s h' ms'=>∃(i:Nat),q=O.length-i/\s=[(4,ro),(8,.w i)]/\h5=h'/\ms'=[]/\i<=O.length/\∀b,b<i->Ky o b=none)
    (O.length-0) _ ⟨0,rfl,rfl,rfl,rfl,ω,λb hb=>ω⟩ Qs ?_
   rintro q s h' ms' ⟨i,rfl,rfl,rfl,rfl,hi,hno2⟩;refine Ac (Aq (Qm Y (Qm Y (Qx (As hRC.q.rd.any Y Bm Y) Y (Qm Y (Am ?_))))));refine Ao Y (λhlt2=>?_) (λhlt2=>?_)
   ·have hil:i<O.length:=CX hlt2;have gi:=hget i hil;have hci:∀ms,Cell h5 ms ((AG ro).add (i*3)) (.w O[i].c.id):=λms=>(hRC.q.any (ms:=ms)).cell0 hil Y;have hcd:∀ms,Cell h5 ms (((AG ro).add (i*3)).add 1) (.w O[i].c.dim):=λms=>(hRC.q.any (ms:=ms)).cell hil (f:=1) Y;have hgi:∀ms,Seg h5 ms ((AG ro).add (i*3)) (cC O[i]):=λms=>(hRC.q.any (ms:=ms)).seg hil;have oiv:=(hRC.s _ (ae hil)).rd.one;have hret:∀p,Ky o i=some p->Gi (l.map Ce.c)=p:=λp hp=>by rw[hck2,DU hno2 hp _ hil];rfl
    have hround:Ky o i=none->∀b,b<i+1->Ky o b=none:=λh b hb=>by
     rcases (ω:b<i\/b=i) with h1|rfl
     ·exact hno2 b h1
     ·exact h
    refine Ah (Ad (Ac (Ag (Ac (Aq (Qm Y (Qm Y (Qx (BN (i) hRC.q.rd.any Y Bm AI Y Y) Y (Qf BZ Y (Ql Y U3 (hcd _) (Qm Y (Am ?_))))))))))));refine Ao Y (λg5=>?_) (λg5=>?_)
    ·refine Av (Aa (Af (Ad (Ab (Qm Y (Qx (oA Y) Y (Qm Y (Ak ?_))))))));exact Al (O.length-(i+1)) _ ω ⟨i+1,Y,Y,Y,Y,ω,hround (by unfold Ky;rw[gi,ac g5])⟩ Qs
    ·have hB1:Ky o i=if Eg o O[i].c≠0 then some (O[i].c.id,Eg o O[i].c) else none:=by unfold Ky;rw[gi,aa g5]
     have hsv:=λms=>DW (UA O O[i] ro h5 ω (by rw[hO];exact hsecO i hil) hOst hRC (hRC.s _ (ae hil))) ms;rw[hO]at hsv;refine Ah (Ad (Aq (Qm Y (Qm Y (Qm Y (Qx (BN (i) hRC.q.rd.any Y Bm AI Y Y) Y (Qx (oG Y Ey AI (hgi _)) Y (Qx (AH Y call140 Y (hsv _)) Y (Qm Y (BM (Qm Y (Qm Y (Am ?_)))))))))))));refine Ao Y (λg6=>?_) (λg6=>?_)
     ·refine Ac (Ab (Qm Y (Qm Y (Qx (BN (i) hRC.q.rd.any Y Bm AI Y Y) Y (Qf Bq Y (Ql Y U3 (hci _) (Qm Y (Qm Y (Qm Y (Am (An (Aj (Ae (Ae (Aj (Ae ?_))))))))))))))));exact BE Y Y Y (by rw[hret (O[i].c.id,Eg o O[i].c) (by rw[hB1,ac g6])])
     ·refine Ah (Ai (Ad (Ab (Qm Y (Qx (oA Y) Y (Qm Y (Ak ?_)))))));exact Al (O.length-(i+1)) _ ω ⟨i+1,Y,Y,Y,Y,ω,hround (by rw[hB1,aa g6])⟩ Qs
   ·obtain rfl:i=O.length:=ω
    refine Av (Aa (Aa (Af (Ad (Aq (Qm Y (Qm Y (Am (An ?_)))))))));exact BE Y Y Y (by rw[hck2,CH _ hno2];rfl)
end
def Hm:List Int->List Int->Bool
 | x::a,y::b=>if x=y then Hm a b else decide (x<y)
 | _,_=>false
def DE(a b:List Int):Bool:=if a.length≠b.length then decide (a.length<b.length) else Hm a b
theorem Pc(a b:List Int)(va vb:Value)(h:Hp)(hA:RdL cI 1 h [] va a)(hB:RdL cI 1 h [] vb b)(ms:List Hp):FnV Tryz.prog 208 #[va,vb] h ms (.bool (DE a b)):=by
 refine DW ?_ ms;have o1:=hA.rd.one;have o2:=hB.rd.one;have la:=hA.len_le;have lb:=hB.len_le;refine Au func208 ntmps208 Y Y (λw0 hw0=>?_);simp only[A6];refine Aq (Qm Y (Am (Ac (Aq (Qm Y (Qx (As hA.rd.any Y AN Y) Y (Qm Y (Qx (As hB.rd.any Y AN Y) Y (Qm Y (Am ?_))))))))));refine Ao Y (λh1=>?_) (λh1=>?_)
 ·refine Ac (Ab (Qm Y (Qx (As hA.rd.any Y AN Y) Y (Qm Y (Qx (As hB.rd.any Y AN Y) Y (Qm Y (Qm Y (Am (An (Ae ?_))))))))));exact Ap Y Y (by unfold DE;rw[ac ω];exact aw Value.bool (ft.2 ω))
 ·have hl:a.length=b.length:=ω
  have hbf:DE a b=Hm a b:=by unfold DE;rw[aa (λq=>q hl)]
  refine Ah (Ad (Ac (Aq (Qm Y (Am (Ag ?_))))))
  refine Ay (λq s h' ms'=>∃(i:Nat),q=a.length-i/\s=[(0,va),(1,vb),(5,.w i)]/\h=h'/\ms'=[]/\i<=a.length/\Hm a b=Hm (a.drop i) (b.drop i))
   (a.length-0) _ ⟨0,rfl,rfl,rfl,rfl,ω,rfl⟩ Qs ?_
  rintro q s h' ms' ⟨i,rfl,rfl,rfl,rfl,hi,he⟩;refine Ac (Aq (Qm Y (Qm Y (Qx (As hA.rd.any Y AN Y) Y (Qm Y (Am ?_))))));refine Ao Y (λhlt=>?_) (λhlt=>?_)
  ·have hia:i<a.length:=CX hlt;have hib:i<b.length:=ω
   have hca:Cell h [] ((AG va).add (i*1)) (.w a[i]):=hA.cell0 hia Y;have hcb:Cell h [] ((AG vb).add (i*1)) (.w b[i]):=hB.cell0 hib Y
   have hd:Hm (a.drop i) (b.drop i)=if a[i]=b[i] then Hm (a.drop (i+1)) (b.drop (i+1)) else decide (a[i]<b[i]):=by rw[d9 hia,d9 hib];rfl
   refine Ah (Ad (Ac (Ag (Ac (Bc 8 CT κ Y (Wm Y (Wm Y (AM (BN (i) hA.rd.any Y AN A0 Y Y) Y Y (Wl Y U3 (hca) (Wm Y (Wm Y (AM (BN (i) hB.rd.any Y AN A0 Y Y) Y Y (Wl Y U3 (hcb) (A7 (Qm Y (Am ?_))))))))))))))));refine Ao Y (λh2=>?_) (λh2=>?_)
   ·refine Ac (Bc 8 CT κ Y (Wm Y (Wm Y (AM (BN (i) hA.rd.any Y AN A0 Y Y) Y Y (Wl Y U3 (hca) (Wm Y (Wm Y (AM (BN (i) hB.rd.any Y AN A0 Y Y) Y Y (Wl Y U3 (hcb) (A7 (Qm Y (Qm Y (Am (An (Aj (Ae (Ae (Aj (Ae ?_)))))))))))))))))));exact Ap Y Y (by rw[hbf,he,hd,aa h2])
   ·have h2:a[i]=b[i]:=bc λq=>h2 q;refine Ah (Ai (Ad (Ab (Qm Y (Qx (oA Y) Y (Qm Y (Ak ?_)))))));exact Al (a.length-(i+1)) _ ω ⟨i+1,Y,Y,Y,Y,ω,by rw[he,hd,ac h2]⟩ Qs
  ·obtain rfl:i=a.length:=ω
   refine Av (Aa (Aa (Af (Ad (Aq (Qm Y (Am (An ?_))))))));exact Ap Y Y (by rw[hbf,he,List.drop_length];rfl)
def Kv(x:Int)(l:List Int):List Int:=l.takeWhile (λy=>decide (y<x))++x::l.dropWhile (λy=>decide (y<x))
def MB(x:Int)(l:List Int):Prop:=(l.dropWhile λy=>decide (y<x)).head?=some x
instance (x:Int) (l:List Int):Decidable (MB x l):=by unfold MB;infer_instance
def Ez:List Int->List Int->Option (List Int)
 | acc,[]=>some acc
 | acc,x::l=>if MB x acc then Ez acc l else if x<0\/9<(Kv x acc).length then none else Ez (Kv x acc) l
theorem VA{x:Int}{l:List Int}{k:Nat}(hk:k<=l.length)(h1:∀j (hj:j<l.length),j<k->l[j]<x)(h2:∀hk:k<l.length,¬l[k]<x):Kv x l=l.take k++x::l.drop k/\(MB x l<->∃h:k<l.length,l[k]=x):=by
 obtain⟨e1,e2⟩:=ET (λy:Int=>decide (y<x)) l k hk (λj hj hjk=>ai (h1 j hj hjk)) (λhk=>aj (h2 hk));unfold Kv MB;rw[e1,e2];refine⟨Y,?_⟩;rw[List.head?_drop];by_cases hkl:k<l.length
 ·rw[ah hkl];exact⟨λq=>⟨hkl,di q⟩,λ⟨_,q⟩=>by rw[q]⟩
 ·rw[cu ω];exact⟨λq=>(nomatch q),λ⟨q,_⟩=>jt q hkl⟩
theorem Pu(x:Int)(l:List Int):(Kv x l).length=l.length+1:=by unfold Kv;have:=aw List.length (List.takeWhile_append_dropWhile (p:=λy:Int=>decide (y<x)) (l:=l));rw[ag]at this;rw[ag,ef];omega
def AbX(r:Value)(ms:List Hp):Option (List Int)->Prop
 | some l=>∃v m,ms=[m]/\r=.tuple #[v,.bool true]/\OwnL cI 1 3 m v l
 | none=>r=.tuple #[.nl,.bool false]
theorem AbF(l:List Int)(v:Value)(h:Hp)(hl:l.length<=100000)(hR:RdL cI 1 h [] v l):FnT Tryz.prog 168 #[v] h [] (λr h' ms'=>h=h'/\AbX r ms' (Ez [] l)):=by
 have o1:=hR.rd.one;refine Au func168 ntmps168 Y Y (λw0 hw0=>?_);simp only[A6];refine Aq (Qm Y (Qm Y (BM (Qm Y (Am (Ac (Aq (Qm Y (Am (Ag (BT ?_)))))))))))
 refine Ay (λq s h' ms'=>∃(i:Nat) (vo:Value) (mo:Hp) (acc:List Int),q=l.length-i/\s=[(0,v),(4,vo),(5,.w i)]/\h=h'/\ms'=[mo]/\i<=l.length/\acc.length<=9/\OwnL cI 1 3 mo vo acc/\Ez [] l=Ez acc (l.drop i))
  (l.length-0) _ ⟨0,_,Hp.emp,[],rfl,rfl,rfl,rfl,ω,by simp,OwnL.nil Bi,rfl⟩ Qs ?_
 rintro q s h' ms' ⟨i,vo,mo,acc,rfl,rfl,rfl,rfl,hi,ha9,hO,he⟩;refine Ac (Aq (Qm Y (Qm Y (Qx (As hR.rd.any Y AN Y) Y (Qm Y (Am ?_))))));refine Ao Y (λhlt=>?_) (λhlt=>?_)
 ·have hil:i<l.length:=CX hlt;have hcl:=hO.rd (h:=h) (ms:=[mo]) Mh;have ovo:vo.oneCell'=true:=hcl.rd.one;have hci:∀ms,Cell h ms ((AG v).add (i*1)) (.w l[i]):=λms=>(hR.any (ms:=ms)).cell0 hil Y;have hd:Ez acc (l.drop i)=if MB l[i] acc then Ez acc (l.drop (i+1)) else if l[i]<0\/9<(Kv l[i] acc).length then none else Ez (Kv l[i] acc) (l.drop (i+1)):=by rw[d9 hil];rfl
  rw[hd]at he;refine Ah (Ad (Ac (Ag (Aq (Qm Y (Am ?_))))));refine Bg (λs h' ms'=>∃(k:Nat),s=[(0,v),(4,vo),(5,.w i),(6,.w k)]/\h=h'/\ms'=[mo]/\k<=acc.length/\Kv l[i] acc=acc.take k++l[i]::acc.drop k/\(MB l[i] acc<->∃h:k<acc.length,acc[k]=l[i])) ?_ (λs h ms hI=>?_)
  ·refine Ag ?_
   refine Ay (λq s h' ms'=>∃(k:Nat),q=acc.length-k/\s=[(0,v),(4,vo),(5,.w i),(6,.w k)]/\h=h'/\ms'=[mo]/\k<=acc.length/\∀j (hj:j<acc.length),j<k->acc[j]<l[i])
    (acc.length-0) _ ⟨0,rfl,rfl,rfl,rfl,ω,λj hj h=>ω⟩ Qs ?_
   rintro q s h' ms' ⟨k,rfl,rfl,rfl,rfl,hk,hlo⟩;refine Ac (Ac (Bc 13 CT κ Y (Wm Y (Wm Y (AM (As hcl.rd Y AN Y) Y Y (Wm Y (Wm Y ?_)))))));refine CC (t:=18) Y (λhs1=>?_) (λhs1=>?_)
   ·have hkl:k<acc.length:=CX hs1;have hck:Cell h [mo] ((AG vo).add (k*1)) (.w acc[k]):=hcl.cell0 hkl Y;refine AJ (Ar Y Y) Y Y Y Y (AJ (Ar Y Y) Y Y Y Y (AJ (BN (k) hcl.rd Y AN A0 Y Y) Y Y Y Y (AJ (oL Y U3 (hck)) Y Y Y Y (AJ (Ar Y Y) Y Y Y Y (AJ (Ar Y Y) Y Y Y Y (AJ (BN (i) hR.rd.any Y AN A0 Y Y) Y Y Y Y (AJ (oL Y U3 (hci _)) Y Y Y Y (A7 (Qg (DA Y Y Y) Y (Qm Y (Am ?_)))))))))));refine Ao Y (λhs2=>?_) (λhs2=>?_)
    ·refine Ah (Ad (Ag (Ab (Qm Y (Qx (oA Y) Y (Qm Y (Ak (Ai ?_))))))))
     exact Al (acc.length-(k+1)) _ ω ⟨k+1,Y,Y,Y,Y,ω,λj hj h=>by
      rcases (ω:j<k\/j=k) with h1|rfl
      ·exact hlo j hj h1
      ·exact hs2⟩ Qs
    ·refine Av (Aa (Aa (Af ?_)));exact Az _ ⟨k,Y,Y,Y,hk,VA hk hlo λ_=>hs2⟩ Qs
   ·have hkl:k=acc.length:=ω
    refine AC Y Y Y Y Y (AC Y Y Y Y Y (AC Y Y Y Y Y (AC Y Y Y Y Y (AC Y Y Y Y Y (AC Y Y Y Y Y (AC Y Y Y Y Y (AC Y Y Y Y Y (A7 (Qk Y (Qm Y (Am (AQ Y (Av (Aa (Aa (Af ?_))))))))))))))));exact Az _ ⟨k,Y,Y,Y,hk,VA hk hlo λh=>jt h ω⟩ Qs
  ·obtain⟨k,rfl,rfl,rfl,hk,hins,hhas⟩:=hI;have hil2:=Pu l[i] acc;refine Bg (λs h' ms'=>s=[(0,v),(4,vo),(5,.w i),(6,.w k)]/\h=h'/\ms'=[mo]/\¬MB l[i] acc) ?_ (λs h ms hI=>?_)
   ·refine Ac (Bc 13 CT κ Y (Wm Y (Wm Y (AM (As hcl.rd Y AN Y) Y Y (Wm Y (Wm Y ?_))))));refine CC (t:=35) Y (λg1=>?_) (λg1=>?_)
    ·have hkl:k<acc.length:=CX g1;have hck:Cell h [mo] ((AG vo).add (k*1)) (.w acc[k]):=hcl.cell0 hkl Y;refine AJ (Ar Y Y) Y Y Y Y (AJ (Ar Y Y) Y Y Y Y (AJ (BN (k) hcl.rd Y AN A0 Y Y) Y Y Y Y (AJ (oL Y U3 (hck)) Y Y Y Y (AJ (Ar Y Y) Y Y Y Y (AJ (Ar Y Y) Y Y Y Y (AJ (BN (i) hR.rd.any Y AN A0 Y Y) Y Y Y Y (AJ (oL Y U3 (hci _)) Y Y Y Y (A7 (Qg (CO Y Y Y) Y (Qm Y (Am ?_)))))))))));refine Ao Y (λg2=>?_) (λg2=>?_)
     ·rw[ac (hhas.2 ⟨hkl,g2⟩)]at he;refine Av (Aa (Af (Ad (Ab (Qm Y (Qx (oA Y) Y (Qm Y (Ak ?_))))))));exact Al (l.length-(i+1)) _ ω ⟨i+1,vo,mo,acc,Y,Y,Y,Y,ω,ha9,hO,he⟩ Qs
     ·refine Ah ?_;exact Az _ ⟨Y,Y,Y,λq=>g2 (hhas.1 q).2⟩ Qs
    ·refine AC Y Y Y Y Y (AC Y Y Y Y Y (AC Y Y Y Y Y (AC Y Y Y Y Y (AC Y Y Y Y Y (AC Y Y Y Y Y (AC Y Y Y Y Y (AC Y Y Y Y Y (A7 (Qk Y (Qm Y (Am (AQ Y (Ah ?_)))))))))))));exact Az _ ⟨Y,Y,Y,λq=>jt (hhas.1 q).1 ω⟩ Qs
   ·obtain⟨rfl,rfl,rfl,hnh⟩:=hI;rw[aa hnh]at he;refine Ac (Bc 8 CT κ rfl (Wm rfl (Wm rfl (AM (BN (i) hR.rd.any rfl AN A0 rfl rfl) rfl rfl (Wl rfl U3 (hci _) (Ug (Ft [_] rfl AN A0 rfl (by rfl) rfl rfl ω) rfl rfl (Wm rfl (Wm rfl (AM (C3 (k) hcl.rd rfl AN A0 rfl rfl ω ω) rfl rfl (HZ (λg50=>AU 0 (OwnL.blk (g:=g50) (el:=3) (F:=cI) (l:=[l[i]]) 1 Bi rfl δ) ((hO.rd (h:=h) (List.Mem.tail _ Mh)).sub_ hk (au _)) rfl AN A0 rfl ω rfl rfl rfl B5 (by(try simp only[ab,dv,ag,av,cz,ay]);omega) (by(try simp only[ab,dv,ag,av,cz,ay]);omega) rfl rfl rfl (λv6 m6 hO6=>?_))))))))))));have ov6:=hO6.o1;refine Qm rfl (BM ?_);refine AB [] [] [] rfl AN A0 rfl ω κ (by repeat (first|exact ff|refine⟨⟨by first|rfl|exact(hcl.rd).cells|exact Rd.cells ‹_›|exact(RdL.rd ‹_›).cells,rfl,rfl⟩,?_⟩)) rfl rfl rfl rfl (λg55=>?_);refine Qm rfl (Qm rfl (Qx (Fl (k) hcl.rd rfl AN A0 rfl rfl ω ω) rfl (AU 0 (DK g55 Bi) ((hO.rd (h:=h) (List.Mem.tail _ (List.Mem.tail _ Mh))).sub_ (Nat.zero_le _) hk) rfl AN A0 rfl ω rfl rfl rfl B5 (by(try simp only[ab,dv,ag,av,cz,ay]);omega) (by(try simp only[ab,dv,ag,av,cz,ay]);omega) rfl rfl rfl (λv7 m7 hO7=>Qm rfl (AU 0 hO7 (hO6.rd (h:=h) (List.Mem.tail _ Mh)) rfl AN A0 rfl ω rfl rfl rfl B5 (by(try simp only[ab,dv,ag,av,cz,ay]);omega) (by(try simp only[ab,dv,ag,av,cz,ay]);omega) rfl rfl rfl (λv8 m8 hO8=>?_))))))
    have heq:[]++(acc.drop 0).take (k-0)++([l[i]]++(acc.drop k).take (acc.length-k))=Kv l[i] acc:=by rw[hins,jj,Nat.sub_zero,take_of_length_le (l:=acc.drop k) (by rw[cz];omega)];rfl
    rw[heq]at hO8;have ov8:=hO8.o1;refine Qm Y (Am (Aav (Goes.perm (List.perm_append_comm (l₁:=[m8]) (l₂:=[m6,mo]))) ?_));refine VN (VN ?_);refine Aq (Qm Y (Qm Y (Qx (BN (i) hR.rd.any Y AN A0 Y Y) Y (Ql Y U3 (hci _) (Qm Y (Qm Y ?_))))));refine AL (t:=67) Y (λg3=>?_) (λg3=>?_)
    ·rw[ac (.inl g3)]at he;refine Qk Y (Qk Y (Qk Y (Qm Y (Am (A5 Y (Aq (Qm Y (Qm Y (Am (An (Aj (Ae (Ae (Aj (Ae ?_)))))))))))))));exact BE Y Y Y (⟨Y,by rw[he];rfl⟩)
    ·refine Qg (Ar Y Y) Y (Qg (ED (hO8.rd (h:=h) (ms:=[m8]) Mh).rd Y AN Y) Y (Qg (Ct Y Y Y) Y (Qm Y (Am ?_))));refine Ao Y (λg4=>?_) (λg4=>?_)
     ·rw[ac (.inr ω)]at he;refine Aq (Qm Y (Qm Y (Am (An (Aj (Ae (Ae (Aj (Ae ?_)))))))));exact BE Y Y Y (⟨Y,by rw[he];rfl⟩)
     ·rw[aa ω]at he;refine Ah (Ai (Ad (Ab (Qm Y (Qx (oA Y) Y (Qm Y (Ak ?_)))))));exact Al (l.length-(i+1)) _ ω ⟨i+1,v8,m8,_,Y,Y,Y,Y,ω,ω,hO8,he⟩ Qs
 ·have hie:i=l.length:=ω
  rw[hie,List.drop_length]at he;have he:Ez [] l=some acc:=he;refine Av (Aa (Aa (Af (Ad (Aq (Qm Y (Qm Y (Qm Y (Am (An ?_))))))))));exact BE Y Y Y (⟨Y,by rw[he];exact⟨vo,mo,Y,Y,hO⟩⟩)
def cW(v:Value):List Value:=[v]
theorem D5:∀v,(cW v).length=1:=λ_=>rfl
def RdEs(h:Hp)(es:List Value)(ll:List (List Int)):Prop:=es.length=ll.length/\∀i (h1:i<es.length) (h2:i<ll.length),RdL cI 1 h [] es[i] ll[i]
theorem RdEs.up{h h':Hp}{es:List Value}{ll:List (List Int)}(R:RdEs h es ll)(l:h.le h'):RdEs h' es ll:=⟨R.1,λi h1 h2=>(R.2 i h1 h2).up l⟩
def Ei(ll:List (List Int))(s:List Int):Nat:=(ll.takeWhile λt=>DE t s).length
def Dk(ll:List (List Int))(s:List Int):Nat×Bool:=(Ei ll s,match ll[Ei ll s]? with|some t=>!DE s t|none=>false)
theorem ZC{ll:List (List Int)}{s:List Int}{k:Nat}(hk:k<=ll.length)(h1:∀j (hj:j<ll.length),j<k->DE ll[j] s=true)(h2:∀hk:k<ll.length,DE ll[k] s=false):Ei ll s=k:=by obtain⟨e1,_⟩:=ET (λt=>DE t s) ll k hk h1 h2;unfold Ei;rw[e1,av];omega
theorem Sh(ll:List (List Int))(s:List Int)(es:List Value)(v vs:Value)(h:Hp)(hn:ll.length<=1000000)(hm:∀i j (hi:i<ll.length) (hj:j<ll.length),i<=j->DE ll[j] s=true->DE ll[i] s=true)(hV:RdL cW 1 h [] v es)(hE:RdEs h es ll)(hS:RdL cI 1 h [] vs s)(ms:List Hp):FnV Tryz.prog 169 #[v,vs] h ms (.tuple #[.int .i64 (Dk ll s).1,.bool (Dk ll s).2]):=by
 refine DW ?_ ms;have o1:=hV.rd.one;have o2:=hS.rd.one;have hle:=hE.1;refine Au func169 ntmps169 Y Y (λw0 hw0=>?_);simp only[A6];refine Aq (Qm Y (Qm Y (BM (Qm Y (BM (Qm Y (Qx (As hV.rd.any Y CA Y) Y (Qm Y (Am (Ac (Ag ?_)))))))))))
 refine Ay (λq sl h' ms'=>∃(lo hi:Nat),q=hi-lo/\sl=[(0,v),(1,vs),(6,.w lo),(7,.w hi)]/\h=h'/\ms'=[]/\lo<=hi/\hi<=ll.length/\(∀j (hj:j<ll.length),j<lo->DE ll[j] s=true)/\∀j (hj:j<ll.length),hi<=j->DE ll[j] s=false)
  (ll.length-0) _ ⟨0,ll.length,rfl,by rw[<-hle],rfl,rfl,ω,ω,λj hj h=>ω,λj hj h=>ω⟩ Qs ?_
 rintro q sl h' ms' ⟨lo,hi,rfl,rfl,rfl,rfl,hlh,hhl,hlo,hhi⟩;refine Ac (Aq (Qm Y (Qm Y (Qm Y (Am ?_)))));refine Ao Y (λhlt=>?_) (λhlt=>?_)
 ·obtain⟨m,hmm⟩:∃m,(lo+hi)/2=m:=⟨_,Y⟩
  have hml:m<ll.length:=ω
  have hme:m<es.length:=ω
  have hmt:((lo:Int)+hi)/2=(m:Int):=ω
  have hcm:Cell h [] ((AG v).add (m*1)) es[m]:=hV.cell0 hme Y;have oem:=(hE.2 m hme hml).rd.one;refine Ah (Ad (Ag (Aq (Qm Y (Qm Y (Qx (oA Y) Y (Qx (G7 Y Y Y ω ω) Y (Qm Y (Am ?_)))))))));rw[hmt];refine Aq (Qm Y (Qm Y (Qx (BN (m) hV.rd.any Y CA CI Y Y) Y (Ql Y AN (hcm) (Qm Y (Qx (AH Y call208 Y (Pc ll[m] s _ _ h (hE.2 m hme hml) hS _)) Y (Am ?_)))))));refine BG Y (λhb=>?_) (λhb=>?_)
  ·refine Ab (Qm Y (Qx (oA Y) Y (Qm Y (Ak (Ai ?_)))));exact Al (hi-(m+1)) _ ω ⟨m+1,hi,Y,Y,Y,Y,ω,ω,λj hj h=>hm j m hj hml ω hb,hhi⟩ Qs
  ·refine Ab (Qm Y (Qm Y (Ak (Ai ?_))))
   exact Al (m-lo) _ ω ⟨lo,m,Y,Y,Y,Y,ω,ω,hlo,λj hj h=>by
    cases hq:DE ll[j] s with
    | false=>rfl
    | true=>rw[hm m j hml hj h hq]at hb;cases hb⟩ Qs
 ·obtain rfl:lo=hi:=ω
  have hcnt:Ei ll s=lo:=ZC hhl hlo λhk=>hhi lo hk (au _);have hp1:(Dk ll s).1=lo:=hcnt;refine Av (Aa (Aa (Af (Ad (Aq (Qm Y (Qm Y (Qm Y (Qx (As hV.rd.any Y CA Y) Y (Qm Y (Qm Y ?_)))))))))));refine AL (t:=32) Y (λg1=>?_) (λg1=>?_)
  ·have hll:lo<ll.length:=ω
   have hle2:lo<es.length:=ω
   have hcl:Cell h [] ((AG v).add (lo*1)) es[lo]:=hV.cell0 hle2 Y;have oel:=(hE.2 lo hle2 hll).rd.one;have hp2:(Dk ll s).2=!DE s ll[lo]:=by unfold Dk;rw[hcnt,ah hll]
   refine Qg (Ar Y Y) Y (Qg (Ar Y Y) Y (Qg (Ar Y Y) Y (Qg (BN (lo) hV.rd.any Y CA CI Y Y) Y (Qg (oL Y AN (hcl)) Y (Qg (AH Y call208 Y (Pc s ll[lo] _ _ h hS (hE.2 lo hle2 hll) _)) Y (Qg (DB Y Y) Y (Qm Y (Qm Y (Qm Y (Am (An ?_)))))))))));exact BE Y Y Y (by rw[hp1,hp2])
  ·have hp2:(Dk ll s).2=false:=by unfold Dk;rw[hcnt,cu ω]
   refine Qk Y (Qk Y (Qk Y (Qk Y (Qk Y (Qk Y (Qk Y (Qm Y (Qm Y (Qm Y (Am (An ?_)))))))))));exact BE Y Y Y (by rw[hp1,hp2])
section
variable {all:List (List Int)} {a b:List Int}
theorem PM:∀a:List Int,Hm a a=false
 | []=>rfl
 | x::a=>by unfold Hm;rw[ac rfl];exact PM a
theorem Mc:∀{a b c:List Int},Hm a b=true->Hm b c=true->Hm a c=true
 | x::a,y::b,z::c,h1,h2=>by
  unfold Hm at *;by_cases e1:x=y
  ·subst e1;rw[ac rfl]at h1;by_cases e2:x=z
   ·subst e2;rw[ac rfl]at h2 ⊢;exact Mc h1 h2
   ·rw[aa e2]at h2 ⊢;exact h2
  ·rw[aa e1]at h1;have h1:=bz h1;by_cases e2:y=z
   ·subst e2;rw[aa e1];exact ai h1
   ·rw[aa e2]at h2;have h2:=bz h2;rw[aa ω];exact ai ω
 | [],_,_,h1,_=>by cases h1
 | _::_,[],_,h1,_=>by cases h1
 | _::_,_::_,[],_,h2=>by cases h2
theorem K9:∀{a b:List Int},a.length=b.length->a≠b->Hm a b=true\/Hm b a=true
 | [],[],_,h=>jt rfl h
 | x::a,y::b,hl,h=>by
  unfold Hm;by_cases e:x=y
  ·subst e;rw[ac rfl,ac rfl];exact K9 (by simpa using hl) (λq=>h (by rw[q]))
  ·rw[aa e,aa (λq=>e q.symm)];rcases Int.lt_or_gt_of_ne e with h1|h1
   ·exact .inl (ai h1)
   ·exact .inr (ai h1)
 | [],_::_,hl,_=>by simp at hl
 | _::_,[],hl,_=>by simp at hl
theorem befF_iff:DE a b=true<->a.length<b.length\/(a.length=b.length/\Hm a b=true):=by
 unfold DE;split
 ·rename_i h;rw[decide_eq_true_iff];exact⟨.inl,fun q=>by rcases q with q|⟨q,_⟩;exact q;exact absurd q h⟩
 ·rename_i h;have h:a.length=b.length:=bk.1 h;exact⟨λq=>.inr ⟨h,q⟩,λq=>by rcases q with q|⟨_,q⟩;omega;exact q⟩
theorem Hn(a:List Int):DE a a=false:=by
 cases h:DE a a with
 | false=>rfl
 | true=>
  rcases befF_iff.1 h with q|⟨_,q⟩
  ·omega
  ·rw[PM]at q;cases q
theorem Mj{c:List Int}(h1:DE a b=true)(h2:DE b c=true):DE a c=true:=by
 rw[befF_iff]at *;rcases h1 with h1|⟨h1,h3⟩<;>rcases h2 with h2|⟨h2,h4⟩
 ·exact .inl ω
 ·exact .inl ω
 ·exact .inl ω
 ·exact .inr ⟨ω,Mc h3 h4⟩
theorem LX(h:a≠b):DE a b=true\/DE b a=true:=by
 rw[befF_iff,befF_iff];rcases dy a.length b.length with h1|h1|h1
 ·exact .inl (.inl h1)
 ·rcases K9 h1 h with h2|h2
  ·exact .inl (.inr ⟨h1,h2⟩)
  ·exact .inr (.inr ⟨h1.symm,h2⟩)
 ·exact .inr (.inl h1)
def SrtB(all:List (List Int)):Prop:=all.Pairwise λa b=>DE a b=true
theorem SrtB.mono(H:SrtB all)(s:List Int):∀i j (hi:i<all.length) (hj:j<all.length),i<=j->DE all[j] s=true->DE all[i] s=true:=λi j hi hj hij h=>by
 rcases (ω:i=j\/i<j) with rfl|h1
 ·exact h
 ·exact Mj (ax.1 H i j hi hj h1) h
theorem IY(ll:List (List Int))(s:List Int):Ei ll s<=ll.length:=(List.takeWhile_sublist _).length_le
theorem OO{α:Type}(p:α->Bool):∀l:List α,(∀j (hj:j<l.length),j<(l.takeWhile p).length->p l[j]=true)/\∀h:(l.takeWhile p).length<l.length,p l[(l.takeWhile p).length]=false
 | []=>⟨λj hj=>jt hj σ,λh=>jt h σ⟩
 | a::l=>by
  obtain⟨h1,h2⟩:=OO p l;cases ha:p a with
  | false=>
   have e:(a::l).takeWhile p=[]:=by simp[List.takeWhile,ha]
   refine⟨λj _ h=>?_,λh=>?_⟩
   ·rw[e]at h;simp at h
   ·have:∀k (hk:k<(a::l).length),k=0->p (a::l)[k]=false:=λk hk q=>by subst q;exact ha
    exact this _ h (by rw[e];rfl)
  | true=>
   have e:(a::l).takeWhile p=a::l.takeWhile p:=by simp[List.takeWhile,ha]
   refine⟨λj hj h=>?_,λh=>?_⟩
   ·cases j with
    | zero=>exact ha
    | succ j=>
     rw[e,ef]at h;exact h1 j (by simpa using hj) ω
   ·have:∀k (hk:k<(a::l).length),k=(l.takeWhile p).length+1->p (a::l)[k]=false:=λk hk q=>by subst q;exact h2 (by simpa using hk)
    exact this _ h (by rw[e];rfl)
theorem JF(ll:List (List Int))(s:List Int){j:Nat}(hj:j<ll.length)(h:j<Ei ll s):DE ll[j] s=true:=(OO (λt=>DE t s) ll).1 j hj h
theorem JY{ll:List (List Int)}{s:List Int}(hk:Ei ll s<ll.length):DE ll[Ei ll s] s=false:=(OO (λt=>DE t s) ll).2 hk
theorem M8(H:SrtB all){s:List Int}:(Dk all s).2=true<->s∈all:=by
 have hc:=IY all s;unfold Dk;show(match all[Ei all s]? with|some t=>!DE s t|none=>false)=true<->_;by_cases hk:Ei all s<all.length
 ·rw[ah hk];have h1:=JY hk;show(!DE s all[Ei all s])=true<->_;constructor
  ·intro h;have h2:DE s all[Ei all s]=false:=by simpa using h
   have e:all[Ei all s]=s:=bc λq=>by
    rcases LX q with r|r
    ·rw[h1]at r;cases r
    ·rw[h2]at r;cases r
   rw[<-e];exact ae hk
  ·intro h;obtain⟨j,hj,rfl⟩:=dl.1 h;rcases dy j (Ei all all[j]) with h3|h3|h3
   ·have:=JF all all[j] hj h3;rw[Hn]at this;cases this
   ·have e:all[Ei all all[j]]=all[j]:=by congr 1;omega
    rw[e,Hn];rfl
   ·have h4:=ax.1 H _ j hk hj h3;rw[h1]at h4;cases h4
 ·rw[cu ω];refine⟨λh=>(nomatch h),λh=>?_⟩;obtain⟨j,hj,rfl⟩:=dl.1 h;have:=JF all all[j] hj ω;rw[Hn]at this;cases this
theorem QR(H:SrtB all){j:Nat}(hj:j<all.length):(Dk all all[j]).1=j:=by
 show Ei all all[j]=j;have hc:=IY all all[j];rcases dy j (Ei all all[j]) with h3|h3|h3
 ·have:=JF all all[j] hj h3;rw[Hn]at this;cases this
 ·exact h3.symm
 ·have hk:Ei all all[j]<all.length:=ω
  have h4:=ax.1 H _ j hk hj h3;rw[JY hk]at h4;cases h4
def Iu(all:List (List Int))(s:List Int):List (List Int):=if(Dk all s).2 then all else all.take (Ei all s)++s::all.drop (Ei all s)
theorem Pk(H:SrtB all)(s:List Int):SrtB (Iu all s)/\∀t,t∈Iu all s<->t=s\/t∈all:=by
 unfold Iu;by_cases hp:(Dk all s).2=true
 ·rw[ac hp];have:=(M8 H).1 hp;exact⟨H,λt=>⟨.inr,λh=>by rcases h with rfl|h;exact this;exact h⟩⟩
 ·rw[aa hp];have hn:s ∉ all:=λh=>hp ((M8 H).2 h);refine⟨?_,λt=>?_⟩
  ·have hlow:∀t∈all.take (Ei all s),DE t s=true:=λt ht=>by obtain⟨j,hj,rfl⟩:=dl.1 ht;rw[ji];rw[av]at hj;exact JF all s ω ω
   have hhigh:∀t∈all.drop (Ei all s),DE s t=true:=λt ht=>by
    obtain⟨j,hj,rfl⟩:=dl.1 ht;rw[List.getElem_drop];rw[cz]at hj;have hk:Ei all s<all.length:=ω
    have h1:=JY hk
    have h2:DE s all[Ei all s]=true:=by
     rcases LX (a:=s) (b:=all[Ei all s]) (λq=>hn (by rw[q];exact ae hk)) with r|r
     ·exact r
     ·rw[h1]at r;cases r
    rcases d8 j with rfl|h3
    ·exact h2
    ·exact Mj h2 (ax.1 H _ (Ei all s+j) hk ω ω)
   have hsplit:SrtB (all.take (Ei all s)++all.drop (Ei all s)):=by rw[it];exact H
   obtain⟨p1,p2,p3⟩:=f7.1 hsplit;refine f7.2 ⟨p1,bj.2 ⟨hhigh,p2⟩,λa ha b hb=>?_⟩;rcases aq.1 hb with rfl|hb
   ·exact hlow a ha
   ·exact p3 a ha b hb
  ·rw[mem_append,aq];constructor
   ·rintro(h|h|h)
    ·exact .inr (mem_of_mem_take h)
    ·exact .inl h
    ·exact .inr (jl h)
   ·rintro(h|h)
    ·exact .inr (.inl h)
    ·rw[<-it (Ei all s) all]at h;rcases bf.1 h with h|h
     ·exact .inl h
     ·exact .inr (.inr h)
theorem Wk(all:List (List Int))(s:List Int):(Iu all s).length<=all.length+1:=by
 unfold Iu;split
 ·omega
 ·rw[ag,ef,av,cz];have:=IY all s;omega
def ER(s:List Int)(b n:Nat):List Int:=((range n).filter λk=>b.testBit k).map λk=>s.getD k 0
theorem H4(s:List Int)(b n:Nat):ER s b (n+1)=ER s b n++(if b.testBit n then [s.getD n 0] else []):=by
 unfold ER;rw[jp,List.filter_append,bm];congr 1;by_cases h:b.testBit n=true
 ·rw[ac h];simp[h]
 ·rw[aa h];simp[h]
def Dc(all:List (List Int))(s:List Int):Nat->List (List Int)
 | 0=>all
 | b+1=>Iu (Dc all s b) (ER s (b+1) s.length)
def CW:List (List Int)->List (List Int)->Option (List (List Int))
 | all,[]=>some all
 | all,l::ll=>
  let a2:=match Ez [] l with
   | some s=>Dc all s (2^s.length-1)
   | none=>all
  if 4000<a2.length then none else CW a2 ll
theorem EW(H:SrtB all)(s:List Int):∀b,SrtB (Dc all s b)
 | 0=>H
 | b+1=>(Pk (EW H s b) _).1
theorem Hb(all:List (List Int))(s:List Int):∀b,(Dc all s b).length<=all.length+b
 | 0=>au _
 | b+1=>by have h1:=Hb all s b;have h2:=Wk (Dc all s b) (ER s (b+1) s.length);show(Iu _ _).length<=_;omega
def D7(all:List (List Int))(i:Nat):Cl:=
 ⟨(i:Int)+1,((all.getD i []).length:Int)-1,if(all.getD i []).length<=1 then [] else Cu ((range (all.getD i []).length).map λk=>(((Dk all ((all.getD i []).eraseIdx k)).1:Int)+1,1-2*((k:Int)%2)))⟩
def EO(ll:List (List Int)):List Cl:=match CW [] ll with
 | some all=>(range all.length).map (D7 all)
 | none=>[]
end
section
variable {es:List Value}
theorem RdEs.nil(h:Hp):RdEs h [] []:=⟨rfl,λi h1=>jt h1 σ⟩
theorem GL(H:∀u∈es,u.oneCell'=true):∀a∈es,∀c∈cW a,c.oneCell'=true:=λa ha c hc=>by rw[ao.1 hc];exact H a ha
theorem M9{e:Entry}{Q:Exit->Act->World->Prop}{ops:Array Oper}{r:List Oper}{s:AF}{ms:List Hp}:∀(pre:List Hp) (h:Hp),(∀h',h.le h'->(∀m∈pre,m.le h')->WL e ops Q r s h' ms)->WL e ops Q r s h (pre++ms)
 | [],h,k=>k h (Da) (λm hm=>by cases hm)
 | m::pre,h,k=>AK λh1 l1 k1=>M9 pre h1 λh2 l2 k2=>k h2 (AE l1 l2) λm' hm=>by
  rcases aq.1 hm with rfl|hm
  ·exact AE k1 l2
  ·exact k2 m' hm
def UQ(all:List (List Int)):Option (List Int)->List (List Int)
 | some s=>Dc all s (2^s.length-1)
 | none=>all
theorem DX(all:List (List Int))(l:List Int)(ll:List (List Int)):CW all (l::ll)=if 4000<(UQ all (Ez [] l)).length then none else CW (UQ all (Ez [] l)) ll:=by show(let a2:=match Ez [] l with|some s=>Dc all s (2^s.length-1)|none=>all;if 4000<a2.length then none else CW a2 ll)=_;cases Ez [] l<;>rfl
theorem Ux{r:Value}{ms:List Hp}{o:Option (List Int)}(H:AbX r ms o)(h9:∀s,o=some s->s.length<=9):∃(vs:Value) (s:List Int) (b:Bool),r=.tuple #[vs,.bool b]/\((∀h,(∀m∈ms,m.le h)->RdL cI 1 h [] vs s)/\s.length<=9)/\∀all,UQ all o=if b then Dc all s (2^s.length-1) else all:=by
 cases o with
 | none=>exact⟨_,[],false,H,⟨λh _=>⟨Rd.nil _ _ _,Bi⟩,by simp⟩,λall=>rfl⟩
 | some s=>
  obtain⟨v,m,rfl,e,O⟩:=H;exact⟨v,s,true,e,⟨λh hm=>O.rdh (hm m Mh),h9 s Y⟩,λall=>rfl⟩
theorem I1:∀(l acc:List Int) (s:List Int),acc.length<=9->Ez acc l=some s->s.length<=9
 | [],acc,s,h,e=>by have:acc=s:=di e;rw[<-this];exact h
 | x::l,acc,s,h,e=>by
  unfold Ez at e;split at e
  ·exact I1 l acc s h e
  ·split at e
   ·cases e
   ·exact I1 l _ s ω e
theorem RdEs.ones{h:Hp}{ll:List (List Int)}(H:RdEs h es ll):∀u∈es,u.oneCell'=true:=λu hu=>by obtain⟨i,hi,rfl⟩:=dl.1 hu;exact(H.2 i hi (by have:=H.1;omega)).rd.one
theorem RdEs.ins{h:Hp}{ll:List (List Int)}(H:RdEs h es ll){v:Value}{t:List Int}(hv:RdL cI 1 h [] v t)(k:Nat)(hk:k<=ll.length):RdEs h (es.take k++v::es.drop k) (ll.take k++t::ll.drop k):=by
 have hl:=H.1;refine⟨by simp[hl],λi h1 h2=>?_⟩;rcases dy i k with h3|h3|h3
 ·rw[List.getElem_append_left (by rw[av];omega),List.getElem_append_left (by rw[av];omega),ji,ji];exact H.2 i ω ω
 ·subst h3;rw[getElem_append_right (by rw[av];omega),getElem_append_right (by rw[av];omega)];have e1:i-(es.take i).length=0:=by rw[av];omega
  have e2:i-(ll.take i).length=0:=by rw[av];omega
  simp only[e1,e2,List.getElem_cons_zero];exact hv
 ·rw[ag,ef,av,cz]at h1 h2;rw[getElem_append_right (by rw[av];omega),getElem_append_right (by rw[av];omega)];have e1:i-(es.take k).length=(i-k-1)+1:=by rw[av];omega
  have e2:i-(ll.take k).length=(i-k-1)+1:=by rw[av];omega
  simp only[e1,e2,List.getElem_cons_succ,List.getElem_drop];have e3:k+(i-k-1)=i-1:=ω
  simp only[e3];exact H.2 (i-1) ω ω
theorem ID{all:List (List Int)}(H:SrtB all)(s:List Int):∀n,∀t,t∈Dc all s n<->t∈all\/∃b,1<=b/\b<=n/\t=ER s b s.length
 | 0,t=>⟨.inl,λh=>by rcases h with h|⟨b,h1,h2,_⟩;exact h;omega⟩
 | n+1,t=>by
  show t∈Iu (Dc all s n) (ER s (n+1) s.length)<->_;rw[(Pk (EW H s n) _).2 t,ID H s n t];constructor
  ·rintro(h|h|⟨b,h1,h2,h3⟩)
   ·exact .inr ⟨n+1,ω,ω,h⟩
   ·exact .inl h
   ·exact .inr ⟨b,h1,ω,h3⟩
  ·rintro(h|⟨b,h1,h2,h3⟩)
   ·exact .inr (.inl h)
   ·rcases (ω:b<=n\/b=n+1) with h4|rfl
    ·exact .inr (.inr ⟨b,h1,h4,h3⟩)
    ·exact .inl h3
theorem OV(s:List Int)(b n:Nat):(ER s b n).length<=n:=by unfold ER;rw[af];exact dc (dp _ _) σ
theorem FD:∀(ll acc all:List (List Int)),SrtB acc->(∀t∈acc,t.length<=9)->CW acc ll=some all->∀t∈all,t.length<=9
 | [],acc,all,_,h,e=>by have:acc=all:=di e;rw[<-this];exact h
 | l::ll,acc,all,hS,h,e=>by
  rw[DX]at e;split at e
  ·cases e
  ·refine FD ll _ all ?_ ?_ e
   ·cases Ez [] l with
    | none=>exact hS
    | some s=>exact EW hS s _
   ·cases hs:Ez [] l with
    | none=>exact h
    | some s=>
     intro t ht;rcases (ID hS s _ t).1 ht with h1|⟨b,_,_,rfl⟩
     ·exact h t h1
     ·exact dc (OV _ _ _) (I1 _ _ s σ hs)
def QN(all:List (List Int))(S:List Int)(k:Nat):List (Int×Int):=(range k).map λk=>(((Dk all (S.eraseIdx k)).1:Int)+1,1-2*((k:Int)%2))
theorem UV(all:List (List Int))(S:List Int)(k:Nat):QN all S (k+1)=QN all S k++[(((Dk all (S.eraseIdx k)).1:Int)+1,1-2*((k:Int)%2))]:=by unfold QN;rw[jp,bm];rfl
theorem IQ(all:List (List Int))(S:List Int)(k:Nat):(QN all S k).length=k:=by simp[QN]
theorem Ip(ll:List (List Int))(es0:List Value)(v:Value)(h:Hp)(hn:ll.length<=100000)(hn2:∀l∈ll,l.length<=100000)(hV:RdL cW 1 h [] v es0)(hE:RdEs h es0 ll):FnT Tryz.prog 104 #[v] h [] (λr h' ms'=>h.le h'/\∃m A v',ms'=[m]/\r=.agg #[v']/\OwnL cC 3 52 m v' A/\A.map Ce.c=EO ll/\∀a∈A,RdL cD 2 h' [] a.v a.c.sd):=by
 have o1:=hV.rd.one;have hle:=hE.1;refine Au func104 ntmps104 Y Y (λw0 hw0=>?_);simp only[A6];refine Aq (Cx [.nl] Y A8 Y Y (λg2=>BM (Qm Y (Am (Ac (Aq (Qm Y (Am (Ag (BT ?_))))))))))
 refine Ay (λq s hh ms'=>∃(i:Nat) (v3:Value) (m3:Hp) (es:List Value) (all:List (List Int)),q=ll.length-i/\s=[(0,v),(2,.pt g2),(3,v3),(4,.w i)]/\h.le hh/\ms'=[m3,Bh g2 29 [.nl]]/\i<=ll.length/\OwnL cW 1 22 m3 v3 es/\RdEs hh es all/\SrtB all/\all.length<=4000/\CW [] ll=CW all (ll.drop i))
  (ll.length-0) _ ⟨0,_,Hp.emp,[],[],rfl,rfl,Da,rfl,ω,OwnL.nil D5,RdEs.nil _,List.Pairwise.nil,by simp,rfl⟩ Qs ?_
 rintro q s hh ms' ⟨i,v3,m3,es,all,rfl,rfl,lh,rfl,hi,hO,hEs,hSrt,hal,he⟩;have hV:=hV.up lh;have hE:=hE.up lh;refine Ac (Aq (Qm Y (Qm Y (Qx (As hV.rd.any Y CA Y) Y (Qm Y (Am ?_))))));refine Ao Y (λhlt=>?_) (λhlt=>?_)
 ·have hil:i<ll.length:=ω
  have hie:i<es0.length:=ω
  have hci:∀ms,Cell hh ms ((AG v).add (i*1)) es0[i]:=λms=>(hV.any (ms:=ms)).cell0 hie Y;have oei:=(hE.2 i hie hil).rd.one;have hd:CW all (ll.drop i)=if 4000<(UQ all (Ez [] ll[i])).length then none else CW (UQ all (Ez [] ll[i])) (ll.drop (i+1)):=by rw[d9 hil,DX]
  have ov3:=hO.o1;refine Ah (Ad (Ac (Ag (Aq (Qm Y (Qm Y (Qx (BN (i) hV.rd.any Y CA CI Y Y) Y (Ql Y AN (hci _) (Qc call168 Y (AbF ll[i] es0[i] hh (hn2 _ (ae hil)) (hE.2 i hie hil)) (λrs h2 ms2 l2 hF=>?_))))))))));obtain⟨rfl,hF⟩:=hF;have hsl:∀s,Ez [] ll[i]=some s->s.length<=9:=λs e=>I1 _ _ s σ e;obtain⟨vs,s,b,rfl,hRs,hmt⟩:=Ux hF hsl;refine M9 ms2 hh λh3 l3 k3=>?_;obtain⟨hRs,hs9⟩:=hRs;have hRs:=hRs h3 k3;have hEs:=hEs.up l3;have ovs:=hRs.rd.one;refine Qm Y (Qm Y (Qm Y (Qm Y (Qm Y (Am ?_)))));obtain⟨P,hP⟩:∃P,2^s.length=P:=⟨_,Y⟩
  have hP1:1<=P:=by rw[<-hP];exact Nat.one_le_two_pow
  have hP2:P<=512:=by rw[<-hP];exact Nat.pow_le_pow_right (n:=2) δ hs9
  refine Bg (λsl h' ms'=>∃(v3:Value) (m3:Hp) (es:List Value) (A:List (List Int)),sl=[(0,v),(2,.pt g2),(3,v3),(4,.w i)]/\h3.le h'/\ms'=[m3,Bh g2 29 [.nl]]/\OwnL cW 1 22 m3 v3 es/\RdEs h' es A/\SrtB A/\A.length<=4600/\A=(if b then Dc all s (P-1) else all)) ?_ (λs h ms hI=>?_)
  ·refine Ac (Ab (Qm Y (Am (Ag ?_))))
   refine Ay (λq sl h' ms'=>∃(n:Nat) (v3:Value) (m3:Hp) (es:List Value),q=P-1-n/\sl=[(0,v),(2,.pt g2),(3,v3),(4,.w i),(5,vs),(6,.bool b),(7,.w ((n:Int)+1))]/\h3.le h'/\ms'=[m3,Bh g2 29 [.nl]]/\n<=P-1/\OwnL cW 1 22 m3 v3 es/\RdEs h' es (if b then Dc all s n else all))
    (P-1-0) _ ⟨0,v3,m3,es,rfl,rfl,Da,rfl,ω,hO,by cases b<;>exact hEs⟩ Qs ?_
   rintro q sl h4 ms' ⟨n,v3,m3,es,rfl,rfl,l4,rfl,hnP,hO,hEs⟩;have hRs:=hRs.up l4;refine Ac (Aq (Qm Y (Qm Y ?_)));refine FG (t:=35) Y (λhb=>?_) (λhb=>?_)
   ·refine Qg (Ar Y Y) Y (Qg (Ar Y Y) Y (Qg (As hRs.rd.any Y AN Y) Y (Qg (YO Y Y Y ω) Y (Qg (DA Y Y Y) Y (Qm Y (Am ?_))))));refine Ao Y (λhlt3=>?_) (λhlt3=>?_)
    ·have hnl:n+1<P:=by rw[hP]at hlt3;omega
     subst hb;have hEs:RdEs h4 es (Dc all s n):=hEs;have ov3:=hO.o1;have ovs:=hRs.rd.one;have hfl:=Hb all s n;have hFs:=EW hSrt s n;refine Ah (Ad ?_);refine Bg (λsl h' ms'=>∃(v3:Value) (m3:Hp) (es:List Value),sl=[(0,v),(2,.pt g2),(3,v3),(4,.w i),(5,vs),(6,.bool true),(7,.w ((n:Int)+1))]/\h4.le h'/\ms'=[m3,Bh g2 29 [.nl]]/\OwnL cW 1 22 m3 v3 es/\RdEs h' es (Dc all s (n+1))) ?_ (λs h ms hI=>?_)
     ·refine Ag (Aq (Qm Y (Am (BT ?_))));refine Bg (λsl h' ms'=>∃(v8:Value) (m8:Hp),sl=[(0,v),(2,.pt g2),(3,v3),(4,.w i),(5,vs),(6,.bool true),(7,.w ((n:Int)+1)),(8,v8)]/\h4=h'/\ms'=[m8,m3,Bh g2 29 [.nl]]/\OwnL cI 1 3 m8 v8 (ER s (n+1) s.length)) ?_ (λs h ms hI=>?_)
      ·refine Ac (Ab (Qm Y (Am (Ag ?_))))
       refine Ay (λq sl h' ms'=>∃(a:Nat) (v8:Value) (m8:Hp),q=s.length-a/\sl=[(0,v),(2,.pt g2),(3,v3),(4,.w i),(5,vs),(6,.bool true),(7,.w ((n:Int)+1)),(8,v8),(9,.w a)]/\h4=h'/\ms'=[m8,m3,Bh g2 29 [.nl]]/\a<=s.length/\OwnL cI 1 3 m8 v8 (ER s (n+1) a))
        (s.length-0) _ ⟨0,_,Hp.emp,rfl,rfl,rfl,rfl,ω,OwnL.nil Bi⟩ Qs ?_
       rintro q sl h' ms' ⟨a,v8,m8,rfl,rfl,rfl,rfl,ha,hO8⟩;refine Ac (Aq (Qm Y (Qm Y (Qx (As hRs.rd.any Y AN Y) Y (Qm Y (Am ?_))))));refine Ao Y (λhla=>?_) (λhla=>?_)
       ·have hsa:a<s.length:=ω
        have hbit:(n+1).testBit a=decide ((n+1)/2^a%2=1):=by rw[Nat.testBit_eq_decide_div_mod_eq]
        have hsub:=H4 s (n+1) a;have hca:∀ms,Cell h4 ms ((AG vs).add (a*1)) (.w s[a]):=λms=>(hRs.any (ms:=ms)).cell0 hsa Y;have hga:s.getD a 0=s[a]:=by simp[hsa]
        have ov8:=hO8.o1;have hl8:=OV s (n+1) a;refine Ah (Ad (Ac (Ag (Aq (Qm Y (Qm Y (Qx (NA Y (n:=a) (a:=n+1) Y Y ω) Y ?_)))))));refine Qx (Vo Y Y Y (by have:=Nat.div_le_self (n+1) (2^a);omega)) Y ?_;refine Qm Y (Am ?_);refine Ao Y (λhod=>?_) (λhod=>?_)
        ·rw[hbit,ai ω,ac rfl,hga]at hsub;refine Ab (Qm Y (Qm Y (Qm Y (Qx (BN (a) hRs.rd.any Y AN A0 Y Y) Y (Ql Y U3 (hca _) (Aw [_] Y AN A0 Y (by rfl) Y Y ω Y Y Y (λg60=>AU 1 hO8 (RdL.one Bi (x:=s[a]) Mh Y) Y AN A0 Y ω Y Y Y B5 (by(try simp only[ab]);omega) (by(try simp only[ab]);omega) rfl rfl rfl (λv9 m9 hO9=>?_))))))));rw[<-hsub]at hO9;refine Qm Y (Ak (Ai (Ad (Ab (Qm Y (Qx (oA Y) Y (Qm Y (Ak (AX ?_)))))))));exact Al (s.length-(a+1)) _ ω ⟨a+1,v9,m9,Y,Y,Y,Y,ω,hO9⟩ Qs
        ·rw[hbit,aj ω,aa δ,eo]at hsub;refine Ah (Ai (Ad (Ab (Qm Y (Qx (oA Y) Y (Qm Y (Ak ?_)))))));exact Al (s.length-(a+1)) _ ω ⟨a+1,v8,m8,Y,Y,Y,Y,ω,by rw[hsub];exact hO8⟩ Qs
       ·obtain rfl:a=s.length:=ω
        refine Av (Aa (Aa (Af ?_)));exact Az _ ⟨v8,m8,Y,Y,Y,hO8⟩ Qs
      ·obtain⟨v8,m8,rfl,rfl,rfl,hO8⟩:=hI;obtain⟨t,ht⟩:∃t,ER s (n+1) s.length=t:=⟨_,Y⟩
       obtain⟨A,hA⟩:∃A,Dc all s n=A:=⟨_,Y⟩
       have hfs:Dc all s (n+1)=Iu A t:=by rw[<-ht,<-hA];rfl
       rw[ht]at hO8;rw[hA]at hfl hFs hEs;refine Bx λh5 l5 k5=>?_;have hT:=hO8.rdh (ms:=[]) k5;have ov8:=hT.rd.one;have hEs:=hEs.up l5;have hAe:=hEs.1;have hoe:∀u∈es,u.oneCell'=true:=hEs.ones;refine Aq (Qm Y (Qm Y (Qx (AH Y call169 Y (CF λh' hl hm=>Sh A t es v3 v8 h' ω (hFs.mono t) (hO.rdh (hm _ Mh)) (hEs.up hl) (hT.up hl) [])) Y (Qm Y (Qm Y (Qm Y (Qm Y (Qm Y (Am ?_)))))))));have hcb:=IY A t;obtain⟨k,hk⟩:∃k,Ei A t=k:=⟨_,Y⟩
       have hp1:(Dk A t).1=k:=hk;rw[hp1];rw[hk]at hcb;refine Aq (Qm Y (Qm Y (Am ?_)));refine BG Y (λhth=>?_) (λhth=>?_)
       ·have hth:(Dk A t).2=false:=by simpa using hth
        have hins:Iu A t=A.take k++t::A.drop k:=by unfold Iu;rw[hth,hk];rfl
        have hcl:=hO.rd (h:=h5) (ms:=[m3]) Mh;refine Aq (Qm rfl (Aw [_] rfl CA CI rfl ((RdL.rd ‹_›).cells) rfl rfl ω rfl rfl rfl (λg71=>Qm rfl (Qm rfl (Qx (PN (k) hcl.rd rfl CA CI rfl rfl ω ω) rfl (Bp 0 (OwnL.blk (g:=g71) (el:=22) (F:=cW) (l:=[v8]) 1 D5 rfl δ) ((hO.rd (h:=h5) (List.Mem.tail _ Mh)).sub_ ω (au _)) rfl CA CI rfl ω rfl rfl rfl (GL λu hu=>hoe u (jl (mem_of_mem_take hu))) (by(try simp only[ab,dv,ag,av,cz,ay]);omega) (by(try simp only[ab,dv,ag,av,cz,ay]);omega) rfl rfl rfl (λv6 m6 hO6=>?_)))))));have ov6:=hO6.o1;refine Qm rfl (Gl ?_);refine AB [] [] [] rfl CA CI rfl ω κ (by repeat (first|exact ff|refine⟨⟨by first|rfl|exact(hRs.rd.any).cells|exact(hcl.rd).cells|exact Rd.cells ‹_›|exact(RdL.rd ‹_›).cells,rfl,rfl⟩,?_⟩)) rfl rfl rfl rfl (λg76=>?_);refine Qm rfl (Qm rfl (Qx (Fl (k) hcl.rd rfl CA CI rfl rfl ω ω) rfl (Bp 0 (DK g76 D5) ((hO.rd (h:=h5) (List.Mem.tail _ (List.Mem.tail _ Mh))).sub_ (Nat.zero_le _) ω) rfl CA CI rfl ω rfl rfl rfl (GL λu hu=>hoe u (mem_of_mem_take hu)) (by(try simp only[ab,dv,ag,av,cz,ay]);omega) (by(try simp only[ab,dv,ag,av,cz,ay]);omega) rfl rfl rfl (λv7 m7 hO7=>Qm rfl ?_))))
        have hoe9:∀u∈v8::(es.drop k).take (es.length-k),u.oneCell'=true:=λu hu=>by
         rcases aq.1 hu with rfl|hu
         ·exact ov8
         ·exact hoe u (jl (mem_of_mem_take hu))
        refine Bp 0 hO7 (hO6.rd (h:=h5) (List.Mem.tail _ Mh)) Y CA CI Y ω Y Y Y (GL hoe9) (by(try simp only[ab,dv,ag,av,cz,ay]);omega) (by(try simp only[ab,dv,ag,av,cz,ay]);omega) rfl rfl rfl (λv9 m9 hO9=>?_)
        have heq:[]++(es.drop 0).take (k-0)++([v8]++(es.drop k).take (es.length-k))=es.take k++v8::es.drop k:=by rw[jj,Nat.sub_zero,take_of_length_le (l:=es.drop k) (by rw[cz];omega)];rfl
        rw[heq]at hO9;have ov9:=hO9.o1;refine Qm Y (Ak (Ai (AZ 1 Y (AZ 1 Y ?_))));exact Az _ ⟨v9,m9,_,Y,l5,Y,hO9,by rw[hfs,hins];exact hEs.ins hT k ω⟩ Qs
       ·have hth:(Dk A t).2=true:=by simpa using hth
        have hins:Iu A t=A:=by unfold Iu;rw[hth];rfl
        refine Ah (Ai ?_);exact Az _ ⟨v3,m3,es,Y,l5,Y,hO,by rw[hfs,hins];exact hEs⟩ Qs
     ·obtain⟨v3,m3,es,rfl,l5,rfl,hO,hEs⟩:=hI;refine Ab (Qm Y (Qx (oA Y) Y (Qm Y (Ak ?_))));exact Al (P-1-(n+1)) _ ω ⟨n+1,v3,m3,es,Y,Y,AE l4 l5,Y,ω,hO,hEs⟩ Qs
    ·have hnl:n=P-1:=by rw[hP]at hlt3;omega
     subst hb;have hEs:RdEs h4 es (Dc all s n):=hEs;rw[hnl]at hEs;have hfl:=Hb all s (P-1);refine Av (Aa (Aa (Af ?_)));exact Az _ ⟨v3,m3,es,_,Y,l4,Y,hO,hEs,EW hSrt s _,ω,Y⟩ Qs
   ·subst hb;have hEs:RdEs h4 es all:=hEs;refine Qk Y (Qk Y (Qk Y (Qk Y (Qk Y (Qm Y (Am (AQ Y (Av (Aa (Aa (Af ?_)))))))))));exact Az _ ⟨v3,m3,es,all,Y,l4,Y,hO,hEs,hSrt,ω,Y⟩ Qs
  ·obtain⟨v3,m3,es,A,rfl,l4,rfl,hO,hEs,hSrtA,hAl,hA⟩:=hI;have hAe:=hEs.1;have hmtA:=hmt all;rw[hP,<-hA]at hmtA;rw[hmtA]at hd;have ov3:=hO.o1;refine Aq (Qm Y (Qx (ED (hO.rd (h:=h) (ms:=[m3]) Mh).rd Y CA Y) Y (Qm Y (Am ?_))));refine Ao Y (λhbig=>?_) (λhbig=>?_)
   ·rw[ac ω]at hd;refine BT (Aq ?_);refine Qx (Bb AbH [.nl] [] [_] rfl A8 rfl rfl (by repeat (first|exact ff|refine⟨⟨rfl,rfl,rfl⟩,?_⟩|refine⟨⟨((hO.rd (h:=h) (ms:=[m3]) Mh).rd).cells,rfl,rfl⟩,?_⟩)) rfl) rfl ?_;refine Sa 2 [_] A8 rfl (by simp[Value.oneCell']) ?_;refine Am (An (Aj (Ae (Ae (Aj (Ae (AZ 1 rfl ?_)))))));exact BC (vs:=[_]) 1 rfl rfl CS rfl A8 rfl rfl (⟨AE lh (AE l2 (AE l3 l4)),Hp.emp,[],_,rfl,rfl,OwnL.nil CP,by unfold EO;rw[he,hd];rfl,λa ha=>nomatch ha⟩)
   ·rw[aa ω]at hd;refine Ah (Ai (Ad (Ab (Qm Y (Qx (oA Y) Y (Qm Y (Ak ?_)))))));exact Al (ll.length-(i+1)) _ ω ⟨i+1,v3,m3,es,A,Y,Y,AE lh (AE l2 (AE l3 l4)),Y,ω,hO,hEs,hSrtA,ω,by rw[he,hd]⟩ Qs
 ·obtain rfl:i=ll.length:=ω
  have he:CW [] ll=some all:=by rw[he,List.drop_length];rfl
  have h9:=FD ll [] all List.Pairwise.nil (λt ht=>nomatch ht) he;have hsF:EO ll=(range all.length).map (D7 all):=by unfold EO;rw[he]
  have hAe:=hEs.1;refine Bx λh2 l2 k2=>?_;have hR3:=hO.rdh (ms:=[]) k2;have hEs:=hEs.up l2;have ov3:v3.oneCell'=true:=hR3.rd.one;refine Av (Aa (Aa (Af (Ad (Aq (Cx [.nl] Y A8 Y Y (λg13=>Am (BT (Ac (Aq (Qm Y (Am (Ag ?_)))))))))))))
  refine Ay (λq sl h' ms'=>∃(j:Nat) (vA:Value) (mA:Hp) (A:List Ce),q=all.length-j/\sl=[(0,v),(2,.pt g2),(3,v3),(13,.pt g13),(14,.w j)]/\h2.le h'/\ms'=[mA,Bh g13 29 [vA],Bh g2 29 [.nl]]/\j<=all.length/\OwnL cC 3 52 mA vA A/\A.map Ce.c=(range j).map (D7 all)/\∀a∈A,RdL cD 2 h' [] a.v a.c.sd)
   (all.length-0) _ ⟨0,_,Hp.emp,[],rfl,rfl,Da,rfl,ω,OwnL.nil CP,rfl,λa ha=>nomatch ha⟩ Qs ?_
  rintro q sl h4 ms' ⟨j,vA,mA,A,rfl,rfl,l4,rfl,hj,hOA,hA,hSd⟩;have hR3:=hR3.up l4;have hEs:=hEs.up l4;refine Ac (Aq (Qm Y (Qm Y (Qx (As hR3.rd.any Y CA Y) Y (Qm Y (Am ?_))))));refine Ao Y (λhjl=>?_) (λhjl=>?_)
  ·have hjl:j<all.length:=ω
   have hje:j<es.length:=ω
   obtain⟨S,hS⟩:∃S,all[j]=S:=⟨_,Y⟩
   have hS9:S.length<=9:=by rw[<-hS];exact h9 _ (ae hjl)
   have hRS:RdL cI 1 h4 [] es[j] S:=by rw[<-hS];exact hEs.2 j hje hjl
   have hcj:∀ms,Cell h4 ms ((AG v3).add (j*1)) es[j]:=λms=>(hR3.any (ms:=ms)).cell0 hje Y;have ovS:=hRS.rd.one;have ovA:=hOA.o1;have hgd:all.getD j []=S:=by simp[hjl,hS]
   refine Ah (Ad (Ac (Ag (Aq (Qm rfl (Qx (oA rfl) rfl (Qm rfl (Qm rfl (Qx (BN (j) hR3.rd.any rfl CA CI rfl rfl) rfl (Ql rfl AN (hcj _) (Qx (As hRS.rd.any rfl AN rfl) rfl (Qx (oS rfl) rfl ?_))))))))))));refine Qx (Bb VB [.w 0,.w 0,.nl] [(0,_),(1,_)] [_,_,_] rfl AI rfl rfl (by repeat (first|exact ff|refine⟨⟨rfl,rfl,rfl⟩,?_⟩|refine⟨⟨((hO.rd (h:=h) (ms:=[m3]) Mh).rd).cells,rfl,rfl⟩,?_⟩)) rfl) rfl ?_;refine Cx [.w 0,.w 0,.nl] rfl AI rfl rfl (λg15=>?_);refine Sa 0 [_,_,_] AI rfl (by simp[Value.oneCell']) ?_;refine Am (BT ?_);obtain⟨D,hD⟩:∃D:Int,(S.length:Int)-1=D:=⟨_,rfl⟩
   rw[hD];refine Bg (λsl h' ms'=>∃(vS:Value) (mS:Hp),sl=[(0,v),(2,.pt g2),(3,v3),(13,.pt g13),(14,.w j),(15,.pt g15)]/\h4=h'/\ms'=[mS,Bh g15 52 [.w ((j:Int)+1),.w D,vS],mA,Bh g13 29 [vA],Bh g2 29 [.nl]]/\OwnL cD 2 119 mS vS (if S.length<=1 then [] else QN all S S.length)) ?_ (λs h ms hI=>?_)
   ·refine Ac (Ab (Qm Y (Am (Ag ?_))))
    refine Ay (λq sl h' ms'=>∃(k:Nat) (vS:Value) (mS:Hp),q=S.length-k/\sl=[(0,v),(2,.pt g2),(3,v3),(13,.pt g13),(14,.w j),(15,.pt g15),(16,.w k)]/\h4=h'/\ms'=[mS,Bh g15 52 [.w ((j:Int)+1),.w D,vS],mA,Bh g13 29 [vA],Bh g2 29 [.nl]]/\k<=S.length/\(S.length<=1->k=0)/\OwnL cD 2 119 mS vS (QN all S k))
     (S.length-0) _ ⟨0,_,Hp.emp,rfl,rfl,rfl,rfl,ω,λ_=>rfl,OwnL.nil E2⟩ Qs ?_
    rintro q sl h' ms' ⟨k,vS,mS,rfl,rfl,rfl,rfl,hk,hk0,hOS⟩;refine Ac (Aq (Qm Y (Qm Y (Qm Y (Qx (BN (j) hR3.rd.any Y CA CI Y Y) Y (Ql Y AN (hcj _) (Qx (As hRS.rd.any Y AN Y) Y (Qm Y (Qm Y ?_)))))))));refine AL (t:=109) Y (λhk1=>?_) (λhk1=>?_)
    ·have hkS:k<S.length:=ω
     refine Qg (oF BZ Y) Y (Qg (oL Y U3 (Cell.blk 1 Y Y)) Y (Qg (Ct Y Y Y) Y (Qm Y (Am ?_))));refine Ao Y (λhdp=>?_) (λhdp=>?_)
     ·have hD1:1<=D:=ω
      have ovS2:=hOS.o1;refine Ah (Ad (Ac (Ag (Ac (BK (n:=17) (bs:=[false,true,true,true,true,true,true,false,true,true,true,true,true,true,true,false,false]) [false,true,true,true,true,true,true,false,true,true,true,true,true,true,true] CT κ κ rfl rfl (Qq rfl (Qq rfl (Qp rfl (BN (j) hR3.rd.any rfl CA CI rfl rfl) (QL rfl AN (hcj _) (Qq rfl (Qp rfl (Fk (k) hRS.rd.any rfl AN A0 rfl rfl ω ω) (Qq rfl (Qq rfl (Qp rfl (BN (j) hR3.rd.any rfl CA CI rfl rfl) (QL rfl AN (hcj _) (Qq rfl (Qp rfl (oA rfl) (Qp rfl (C3 (k+1) hRS.rd.any rfl AN A0 rfl rfl ω ω) ?_))))))))))))))))));unfold Fm;simp only[bl,ay];refine Qo 0 rfl ?_;refine AB [] [] [] rfl AN A0 rfl ω κ (by repeat (first|exact ff|refine⟨⟨by first|rfl|exact(hR3.rd.any).cells|exact(hRS.rd.any).cells|exact((hO.rd (h:=h) (ms:=[m3]) Mh).rd).cells|exact Rd.cells ‹_›|exact(RdL.rd ‹_›).cells,rfl,rfl⟩,?_⟩)) rfl rfl rfl rfl (λg116=>?_);refine Qw (Qo 7 rfl (AU 0 (DK g116 Bi) (hRS.any.sub_ (Nat.zero_le _) hk) rfl AN A0 rfl ω rfl rfl rfl B5 (by(try simp only[ab,dv,ag,av,cz,ay]);omega) (by(try simp only[ab,dv,ag,av,cz,ay]);omega) rfl rfl rfl (λv6 m6 hO6=>Qw (Qo 15 rfl (AU 0 hO6 (hRS.any.sub_ hkS (au _)) rfl AN A0 rfl ω rfl rfl rfl B5 (by(try simp only[ab,dv,ag,av,cz,ay]);omega) (by(try simp only[ab,dv,ag,av,cz,ay]);omega) rfl rfl rfl (λv7 m7 hO7=>Qw (Qo 16 rfl (Qm rfl (Qw (Qe ?_))))))))))
      have heq:[]++(S.drop 0).take (k-0)++(S.drop (k+1)).take (S.length-(k+1))=S.eraseIdx k:=by rw[jj,Nat.sub_zero,take_of_length_le (l:=S.drop (k+1)) (by rw[cz];exact au _),List.eraseIdx_eq_take_drop_succ];rfl
      rw[heq]at hO7;refine Ad ?_;have ov7:=hO7.o1;refine Aq (Qm Y (Qm Y (Qx (AH Y call169 Y (CF λh' hl hm=>Sh all (S.eraseIdx k) es v3 v7 h' ω (hSrt.mono _) (hR3.up hl) (hEs.up hl) (hO7.rdh (hm _ Mh)) [])) Y (Qm Y (Qm Y (Qm Y (Qm Y (Qm Y (Am (SU ?_))))))))));obtain⟨n,hn⟩:∃n,(Dk all (S.eraseIdx k)).1=n:=⟨_,Y⟩
      have hnl:n<=all.length:=by rw[<-hn];exact IY _ _
      have hrs:=UV all S k;rw[hn]at hrs ⊢;have hrl:=IQ all S k;refine Ab (Qf BI rfl (Ql rfl Cf (Cell.blk 1 rfl rfl) (Qm rfl (Qx (oA rfl) rfl (Qm rfl (Qx (BH rfl rfl rfl ω ω) rfl (Qx (oM rfl) rfl (Qx (oS rfl) rfl ?_))))))));refine Qx (Bb W2 [.w 0,.w 0] [(0,_),(1,_)] [_,_] rfl AS rfl rfl (by repeat (first|exact ff|refine⟨⟨rfl,rfl,rfl⟩,?_⟩|refine⟨⟨((hO.rd (h:=h) (ms:=[m3]) Mh).rd).cells,rfl,rfl⟩,?_⟩)) rfl) rfl ?_;refine Aw [_,_] rfl Cf AS rfl (by rfl) rfl rfl ω rfl rfl rfl (λg147=>?_);refine AU 1 hOS (RdL.one E2 (x:=((n:Int)+1,1-2*((k:Int)%2))) Mh rfl) rfl Cf AS rfl ω rfl rfl rfl G9 (by rw[IQ];(try simp only[ab]);omega) (by rw[IQ];(try simp only[ab]);omega) rfl rfl rfl (λv9 m9 hO9=>?_);rw[<-hrs]at hO9;have ov9:=hO9.o1;refine Qf BI rfl ?_;refine AO 2 _ rfl Uz rfl rfl (by assumption) rfl rfl (by(simp;done)) rfl rfl ?_;refine Ak (Ai (Ad (Ab (Qm rfl (Qx (oA rfl) rfl (Qm rfl (Ak (AZ 0 rfl ?_))))))));exact Al (S.length-(k+1)) _ ω ⟨k+1,v9,m9,rfl,rfl,rfl,rfl,ω,λq=>ω,hO9⟩ Qs
     ·have hS1:S.length<=1:=ω
      refine Av (Aa (Aa (Af ?_)));exact Az _ ⟨vS,mS,Y,Y,Y,by rw[ac hS1];have:=hk0 hS1;subst this;exact hOS⟩ Qs
    ·have hkS:k=S.length:=ω
     subst hkS;refine Qk Y (Qk Y (Qk Y (Qm Y (Am (AQ Y (Av (Aa (Aa (Af ?_)))))))))
     exact Az _ ⟨vS,mS,Y,Y,Y,by
      split
      ·rename_i h1;have:=hk0 h1;rw[this]at hOS;exact hOS
      ·exact hOS⟩ Qs
   ·obtain⟨vS,mS,rfl,rfl,rfl,hOS⟩:=hI;obtain⟨rw,hrw⟩:∃rw,(if S.length<=1 then [] else QN all S S.length)=rw:=⟨_,rfl⟩
    have hrl:rw.length<=9:=by
     rw[<-hrw];split
     ·simp
     ·rw[IQ];exact hS9
    rw[hrw]at hOS
    have hcell:D7 all j=⟨(j:Int)+1,D,Cu rw⟩:=by unfold D7;rw[hgd,hD,<-hrw];split<;>rfl
    refine Bx λh5 l5 k5=>?_;have hRw:=hOS.rdh (ms:=[]) k5;have ovS2:=hRw.rd.one;refine Aq (Qf BI Y (Ql Y Cf (Cell.blk 0 Y Y) (Qc call170 Y (OW rw vS h5 ω hRw) (λrs h6 ms2 l6 hF=>?_))));obtain⟨rfl,m9,rfl,hO9⟩:=hF;refine AK λh6 l6 k6=>?_;have hR9:=hO9.rdh (ms:=[]) k6;have ov9:=hR9.rd.one;have hAl:A.length=j:=by have:=aw List.length hA;simpa using this
    let ce:Ce:=⟨⟨(j:Int)+1,D,Cu rw⟩,rs⟩
    refine Qf BI Y ?_;refine AO 0 _ Y Uz Y Y (by assumption) Y Y (by(simp;done)) rfl rfl ?_;refine Gl (Qf Cr Y (Ql Y Bm (Cell.blk 2 Y Y) (Qx (oG Y Ey AI (Seg.blk 0 Y)) Y (Aw [_,_,_] Y Bm AI Y (by rfl) Y Y ω Y Y Y (λg157=>?_)))));refine Bp 2 hOA (RdL.one CP (x:=ce) Mh Y) Y Bm AI Y ω Y Y Y (DC (l:=[ce]) (h:=h6) λy hy=>by rw[ao.1 hy];exact hR9) (by(try simp only[ab]);omega) (by(try simp only[ab]);omega) rfl rfl rfl (λvA2 mA2 hOA2=>?_);have ovA2:=hOA2.o1;refine Qf Cr Y ?_;refine AO 3 _ Y Kx Y Y (by assumption) Y Y (by(simp;done)) rfl rfl ?_;refine Ak (Ai (Ad (Ab (Qm Y (Qx (oA Y) Y (Qm Y (Ak (AZ 0 Y (AZ 0 Y ?_)))))))))
    exact Al (all.length-(j+1)) _ ω ⟨j+1,vA2,mA2,A++[ce],Y,Y,AE l4 (AE l5 l6),Y,ω,hOA2,by rw[bm,hA,jp,bm];congr 1;simp[ce,hcell],λa ha=>by
     rcases bf.1 ha with h|h
     ·exact(hSd a h).up (AE l5 l6)
     ·rw[ao.1 h];exact hR9⟩ Qs
  ·obtain rfl:j=all.length:=ω
   have ovA:=hOA.o1;refine Av (Aa (Aa (Af (Ad (Aq (Qx (oG Y CS A8 (Seg.blk 1 Y)) Y ?_))))));refine Sa 2 [_] A8 Y (by simp[o1,ov3,ovA]) ?_;refine Am (An (AZ 1 Y ?_));exact BC (vs:=[_]) 1 Y Y CS Y A8 Y Y (⟨AE lh (AE l2 l4),mA,A,_,Y,Y,hOA,by rw[hA,hsF],hSd⟩)
end
section
theorem RdEs.snoc{h:Hp}{es:List Value}{ll:List (List Int)}(H:RdEs h es ll){v:Value}{t:List Int}(hv:RdL cI 1 h [] v t):RdEs h (es++[v]) (ll++[t]):=by have:=H.ins hv ll.length (au _);rw[take_of_length_le (by rw[H.1];exact au _),ct,List.drop_of_length_le (by rw[H.1];exact au _),List.drop_length]at this;exact this
structure RgtF(o:List Cl):Prop where
 n:o.length<=4000
 inc:o.Pairwise λa b=>a.id<b.id
 pos:∀x∈o,1<=x.id
 can:∀x∈o,∃y:Cl,x=y.can
 fst:∀x∈o,CG o x=0
 snd:∀x∈o,2<=x.dim->Eg o x=0
theorem TG(l:List Cl):(ordF l).length=l.length:=by rw[(Dy l.length l (au _)).length_eq,af]
theorem RgtF.bds{o:List Cl}(R:RgtF o){x:Cl}(hx:x∈o):(0<=x.dim/\x.dim<=8)/\x.sd.length<=64/\∀r∈x.sd,r.2=1\/r.2=-1:=by obtain⟨h1,h2,_,h4⟩:=Fb (R.fst x hx);refine⟨h1,h2,λr hr=>?_⟩;obtain⟨i,hi,rfl⟩:=dl.1 hr;have:=h4 i hi;unfold B0 at this;rw[By hi]at this;omega
variable {a b c:Int} {x:Cl} {l:List Int} {m n:Nat}
abbrev Gy:=List (Int×Int×Int)
def EF(T:Gy)(c:Int):Int:=(T.map λe=>if e.2.1=c then e.2.2 else 0).sum
def FL(T:Gy)(c:Int):Int:=(T.map λe=>if e.2.1=c then(1:Int) else 0).sum
inductive Con (T:Gy):Int->Int->Prop
 | refl (a:Int):Con T a a
 | step {a b d c w w':Int}:Con T a b->(b,c,w)∈T->(d,c,w')∈T->Con T a d
theorem Con.trans{T:Gy}(h:Con T a b)(h':Con T b c):Con T a c:=by
 induction h' with
 | refl=>exact h
 | step _ h1 h2 ih=>exact .step ih h1 h2
theorem Con.symm{T:Gy}(h:Con T a b):Con T b a:=by
 induction h with
 | refl=>exact .refl _
 | step _ h1 h2 ih=>exact(Con.step (.refl _) h2 h1).trans ih
theorem Con.mono{T T':Gy}(hs:∀e∈T,e∈T')(h:Con T a b):Con T' a b:=by
 induction h with
 | refl=>exact .refl _
 | step _ h1 h2 ih=>exact .step ih (hs _ h1) (hs _ h2)
theorem Con.in{T:Gy}(h:Con T a b):a=b\/((∃c w,(a,c,w)∈T)/\∃c w,(b,c,w)∈T):=by
 induction h with
 | refl=>exact .inl Y
 | step _ h1 h2 ih=>
  rcases ih with rfl|ih
  ·exact .inr ⟨⟨_,_,h1⟩,_,_,h2⟩
  ·exact .inr ⟨ih.1,_,_,h2⟩
theorem Con.snoc{T:Gy}{i f w:Int}(hf:f=i/\(∀g w',(g,c,w') ∉ T)\/∃w',(f,c,w')∈T):Con (T++[(i,c,w)]) a b<->Con T a b\/(Con T a i/\Con T f b)\/(Con T a f/\Con T i b):=by
 have hsub:∀e∈T,e∈T++[(i,c,w)]:=λe he=>fe _ he;have hi:(i,c,w)∈T++[(i,c,w)]:=fq _ Mh
 have hfi:Con (T++[(i,c,w)]) i f:=by
  rcases hf with ⟨rfl,_⟩|⟨w',h⟩
  ·exact .refl _
  ·exact .step (.refl _) hi (hsub _ h)
 constructor
 ·intro h
  induction h with
  | refl=>exact .inl (.refl _)
  | @step b d c' w1 w2 _ h1 h2 ih=>
   -- the last step
   have key:∀{b d},(b,c',w1)∈T++[(i,c,w)]->(d,c',w2)∈T++[(i,c,w)]->Con T b d\/(Con T b i/\Con T f d)\/(Con T b f/\Con T i d):=λ{b d} h1 h2=>by
    rcases bf.1 h1 with g1|g1<;>rcases bf.1 h2 with g2|g2
    ·exact .inl (.step (.refl _) g1 g2)
    ·obtain⟨e1,e2,e3⟩:d=i/\c'=c/\w2=w:=by simpa using g2
     rcases hf with ⟨_,hn⟩|⟨w',h⟩
     ·exact jt (e2 ▸ g1) (hn _ _)
     ·rw[e1];exact .inr (.inr ⟨.step (.refl _) (e2 ▸ g1) h,.refl _⟩)
    ·obtain⟨e1,e2,e3⟩:b=i/\c'=c/\w1=w:=by simpa using g1
     rcases hf with ⟨_,hn⟩|⟨w',h⟩
     ·exact jt (e2 ▸ g2) (hn _ _)
     ·rw[e1];exact .inr (.inl ⟨.refl _,.step (.refl _) h (e2 ▸ g2)⟩)
    ·obtain⟨e1,_⟩:b=i/\c'=c/\w1=w:=by simpa using g1
     obtain⟨e2,_⟩:d=i/\c'=c/\w2=w:=by simpa using g2
     rw[e1,e2];exact .inl (.refl _)
   have k:=key h1 h2;rcases ih with ih|⟨i1,i2⟩|⟨i1,i2⟩
   ·rcases k with k|⟨k1,k2⟩|⟨k1,k2⟩
    ·exact .inl (ih.trans k)
    ·exact .inr (.inl ⟨ih.trans k1,k2⟩)
    ·exact .inr (.inr ⟨ih.trans k1,k2⟩)
   ·rcases k with k|⟨k1,k2⟩|⟨k1,k2⟩
    ·exact .inr (.inl ⟨i1,i2.trans k⟩)
    ·exact .inr (.inl ⟨i1,k2⟩)
    ·exact .inl (i1.trans k2)
   ·rcases k with k|⟨k1,k2⟩|⟨k1,k2⟩
    ·exact .inr (.inr ⟨i1,i2.trans k⟩)
    ·exact .inl (i1.trans k2)
    ·exact .inr (.inr ⟨i1,k2⟩)
 ·rintro(h|⟨h1,h2⟩|⟨h1,h2⟩)
  ·exact h.mono hsub
  ·exact(h1.mono hsub).trans (hfi.trans (h2.mono hsub))
  ·exact(h1.mono hsub).trans (hfi.symm.trans (h2.mono hsub))
theorem Np(T:Gy)(e:Int×Int×Int)(c:Int):EF (T++[e]) c=EF T c+if e.2.1=c then e.2.2 else 0:=by simp[EF]
theorem UW(T:Gy)(e:Int×Int×Int)(c:Int):FL (T++[e]) c=FL T c+if e.2.1=c then 1 else 0:=by simp[FL]
theorem MT{T:Gy}(h:∀e∈T,e.2.1≠c):EF T c=0/\FL T c=0:=by
 induction T with
 | nil=>exact⟨Y,Y⟩
 | cons e T ih=>
  obtain⟨h1,h2⟩:=ih λe he=>h e (bh _ he);have h3:=h e Mh;unfold EF at *;unfold FL at *;simp only[fl,sum_cons,aa h3,h1,h2];exact⟨Y,Y⟩
theorem LV{x:Int}:EN (a::l) x=if a=x then 0 else EN l x+1:=by
 unfold EN;rw[List.takeWhile_cons];by_cases e:a=x
 ·simp[e]
 ·simp[e]
theorem UN{x:Int}{k:Nat}(hk:EN l x=k)(h:k<l.length):l[k]=x:=by
 induction l generalizing k with
 | nil=>simp at h
 | cons a l ih=>
  rw[LV]at hk;split at hk
  ·subst hk;assumption
  ·subst hk;rw[List.getElem_cons_succ];exact ih Y (by simpa using h)
theorem Ui{x:Int}(h:EN l x=l.length):x ∉ l:=by
 induction l with
 | nil=>simp
 | cons a l ih=>
  rw[LV]at h;split at h
  ·simp at h
  ·rename_i e;rw[aq];rintro(rfl|h1)
   ·exact e Y
   ·exact ih (by simpa using h) h1
theorem H3{α:Type}{l:List α}(h:l.Nodup){i j:Nat}(hi:i<l.length)(hj:j<l.length)(e:l[i]=l[j]):i=j:=by
 have h1:=ax.1 h;rcases dy i j with h2|h2|h2
 ·exact jt e (h1 i j hi hj h2)
 ·exact h2
 ·exact jt e.symm (h1 j i hj hi h2)
structure S2.Inv(S:S2)(x:Cl)(T:Gy)(m n:Nat):Prop where
 nd:S.ids.Nodup
 mem:∀c,c∈S.ids<->∃a w,(a,c,w)∈T
 ls:S.su.length=S.ids.length
 lm:S.ma.length=S.ids.length
 lf:S.fi.length=S.ids.length
 lp:S.pa.length=n
 su:∀k (hk:k<S.ids.length),S.su.getD k 0=EF T S.ids[k]
 ma:∀k (hk:k<S.ids.length),S.ma.getD k 0=FL T S.ids[k]
 fi:∀k (hk:k<S.ids.length),∃j:Nat,j<m/\S.fi.getD k 0=(j:Int)/\∃w,((BD x j).1,S.ids[k],w)∈T
 pl:∀j,j<m->0<=S.pa.getD j 0/\S.pa.getD j 0<m
 pc:∀j j',j<m->j'<m->(S.pa.getD j 0=S.pa.getD j' 0<->Con T (BD x j).1 (BD x j').1)
 fr:∀e∈T,∃j:Nat,j<m/\e.1=(BD x j).1
theorem IF(l:List Int)(k j:Nat)(y:Int)(hk:k<l.length):(l.set k y).getD j 0=if j=k then y else l.getD j 0:=by
 simp only[ge,List.getElem?_set];by_cases e:k=j
 ·subst e;simp[hk]
 ·simp[e,fw e]
theorem HL(l:List Int)(j:Nat)(y:Int):(l++[y]).getD j 0=if j=l.length then y else l.getD j 0:=by
 simp only[ge];rcases dy j l.length with h|h|h
 ·rw[dw h,aa ω]
 ·subst h;simp
 ·rw[aa ω,cu (by simp;omega),cu ω]
theorem UO(pa:List Int)(m:Nat)(now old:Int)(j:Nat)(hm:m<=pa.length)(hj:j<m):(FQ pa m now old).getD j 0=if pa.getD j 0=now then old else pa.getD j 0:=by
 have h1:j<pa.length:=ω
 have h2:j<(FQ pa m now old).length:=by rw[Du];exact h1
 simp only[ge,ah h1,ah h2,i9];rw[Fc h1];simp[hj]
theorem S2.Inv.start{S:S2}{T:Gy}(I:S.Inv x T m n)(hm:m<n)(hd:∀j,j<m->(BD x j).1≠(BD x m).1):(S.start m).Inv x T (m+1) n:=by
 have hp:=I.lp;have hg:∀j,(S.pa.set m (m:Int)).getD j 0=if j=m then(m:Int) else S.pa.getD j 0:=λj=>IF _ _ _ _ ω
 have hnew:∀j,j<m->¬Con T (BD x j).1 (BD x m).1:=λj hj h=>by
  rcases h.in with h|⟨_,c,w,h⟩
  ·exact hd j hj h
  ·obtain⟨j',hj',e⟩:=I.fr _ h;exact hd j' hj' e.symm
 refine⟨I.nd,I.mem,I.ls,I.lm,I.lf,by show(List.set _ _ _).length=n;rw[e8];exact hp,I.su,I.ma,λk hk=>?_,λj hj=>?_,λj j' hj hj'=>?_,λe he=>?_⟩
 ·obtain⟨j,h1,h2⟩:=I.fi k hk;exact⟨j,ω,h2⟩
 ·show 0<=(S.pa.set m (m:Int)).getD j 0/\(S.pa.set m (m:Int)).getD j 0<((m+1:Nat):Int);rw[hg];split
  ·omega
  ·have:=I.pl j ω;omega
 ·show(S.pa.set m (m:Int)).getD j 0=(S.pa.set m (m:Int)).getD j' 0<->_;rw[hg,hg];by_cases e:j=m<;>by_cases e':j'=m
  ·subst e;subst e';exact⟨λ_=>.refl _,λ_=>rfl⟩
  ·subst e;rw[ac rfl,aa e'];have:=I.pl j' ω;exact⟨λh=>ω,λh=>jt h.symm (hnew j' ω)⟩
  ·subst e';rw[aa e,ac rfl];have:=I.pl j ω;exact⟨λh=>ω,λh=>jt h (hnew j ω)⟩
  ·rw[aa e,aa e'];exact I.pc j j' ω ω
 ·obtain⟨j,h1,h2⟩:=I.fr e he;exact⟨j,ω,h2⟩
theorem S2.Inv.side{S:S2}{T:Gy}(I:S.Inv x T (m+1) n)(hm:m<n)(w:Int)(r:Int×Int):(S.side m w r).Inv x (T++[((BD x m).1,r.1,w*r.2)]) (m+1) n:=by
 have hp:=I.lp
 -- the place of the id,in the state after add
 obtain⟨k,hk⟩:∃k,EN S.ids r.1=k:=⟨_,Y⟩
 obtain⟨U,hU⟩:∃U,S.add m r.1=U:=⟨_,Y⟩
 have A:U.pa=S.pa/\U.ids.Nodup/\(∀c,c∈U.ids<->c=r.1\/∃a w,(a,c,w)∈T)/\U.su.length=U.ids.length/\U.ma.length=U.ids.length/\U.fi.length=U.ids.length/\(∀k (hk:k<U.ids.length),U.su.getD k 0=EF T U.ids[k])/\(∀k (hk:k<U.ids.length),U.ma.getD k 0=FL T U.ids[k])/\(∃hk:k<U.ids.length,U.ids[k]=r.1) ∧
   (∀k' (hk':k'<U.ids.length),k'≠k->∃j:Nat,j<m+1/\U.fi.getD k' 0=(j:Int)/\∃w,((BD x j).1,U.ids[k'],w)∈T) ∧
   ∃f:Nat,f<m+1/\U.fi.getD k 0=(f:Int)/\((BD x f).1=(BD x m).1/\f=m/\(∀g w',(g,r.1,w') ∉ T)\/∃w',((BD x f).1,r.1,w')∈T):=by
  subst hU;unfold S2.add;by_cases h:EN S.ids r.1=S.ids.length
  ·have hn:=Ui h;have hnT:∀g w',(g,r.1,w') ∉ T:=λg w' hg=>hn ((I.mem _).2 ⟨g,w',hg⟩);have h0:EF T r.1=0/\FL T r.1=0:=MT λe he q=>hnT e.1 e.2.2 (by rw[<-q];exact he);rw[ac h];have hkl:k=S.ids.length:=ω
   have hget:∀k' (hk':k'<(S.ids++[r.1]).length),(S.ids++[r.1])[k']=if h:k'<S.ids.length then S.ids[k'] else r.1:=λk' hk'=>by
    by_cases h1:k'<S.ids.length
    ·rw[dif_pos h1,List.getElem_append_left h1]
    ·rw[dif_neg h1,getElem_append_right ω];simp
   refine⟨Y,?_,λc=>?_,by simp[I.ls],by simp[I.lm],by simp[I.lf],λk' hk'=>?_,λk' hk'=>?_,⟨by show k<(S.ids++[r.1]).length;simp;omega,?_⟩,λk' hk' hne=>?_,m,ω,?_,.inl ⟨rfl,rfl,hnT⟩⟩
   ·exact jh.2 ⟨I.nd,by simp,λa ha b hb e=>by rw[ao.1 hb]at e;exact hn (e ▸ ha)⟩
   ·show c∈S.ids++[r.1]<->_;rw[mem_append,mem_singleton,I.mem];exact⟨λh=>h.symm,λh=>h.symm⟩
   ·have hk'':k'<S.ids.length+1:=by have:k'<(S.ids++[r.1]).length:=hk';simpa using this
    show(S.su++[0]).getD k' 0=EF T (S.ids++[r.1])[k'];rw[HL,hget k' hk',I.ls];by_cases h1:k'<S.ids.length
    ·rw[aa ω,dif_pos h1];exact I.su k' h1
    ·rw[ac ω,dif_neg h1,h0.1]
   ·have hk'':k'<S.ids.length+1:=by have:k'<(S.ids++[r.1]).length:=hk';simpa using this
    show(S.ma++[0]).getD k' 0=FL T (S.ids++[r.1])[k'];rw[HL,hget k' hk',I.lm];by_cases h1:k'<S.ids.length
    ·rw[aa ω,dif_pos h1];exact I.ma k' h1
    ·rw[ac ω,dif_neg h1,h0.2]
   ·show(S.ids++[r.1])[k]'_=r.1;rw[hget,dif_neg ω]
   ·have hk'':k'<S.ids.length+1:=by have:k'<(S.ids++[r.1]).length:=hk';simpa using this
    obtain⟨j,h1,h2,h3⟩:=I.fi k' ω;refine⟨j,h1,?_,?_⟩
    ·show(S.fi++[(m:Int)]).getD k' 0=j;rw[HL,I.lf,aa ω];exact h2
    ·show ∃w,(_,(S.ids++[r.1])[k']'hk',w)∈T;rw[hget k' hk',dif_pos (show k'<S.ids.length by omega)];exact h3
   ·show(S.fi++[(m:Int)]).getD k 0=(m:Int);rw[HL,I.lf,ac hkl]
  ·have hle:=PV S.ids r.1;have hkl:k<S.ids.length:=ω
   have hge:S.ids[k]=r.1:=UN hk hkl;have hin:r.1∈S.ids:=by rw[<-hge];exact ae hkl
   rw[aa h];obtain⟨f,f1,f2,f3⟩:=I.fi k hkl;refine⟨Y,I.nd,λc=>?_,I.ls,I.lm,I.lf,I.su,I.ma,⟨hkl,hge⟩,λk' hk' _=>I.fi k' hk',f,f1,f2,.inr (by rw[hge]at f3;exact f3)⟩;rw[I.mem];refine⟨.inr,λh=>?_⟩;rcases h with rfl|h
   ·exact(I.mem _).1 hin
   ·exact h
 obtain⟨a1,a2,a3,a4,a5,a6,a7,a8,⟨a9,a10⟩,a11,f,f1,f2,f3⟩:=A;have hS:S.side m w r=U.hit m k (w*r.2):=by unfold S2.side;rw[hU,hk]
 rw[hS]
 have hcf:∀{a b},Con (T++[((BD x m).1,r.1,w*r.2)]) a b<->_:=λ{a b}=>Con.snoc (a:=a) (b:=b) (T:=T) (i:=(BD x m).1) (f:=(BD x f).1) (c:=r.1) (w:=w*r.2) (by
  rcases f3 with ⟨h1,_,h2⟩|h
  ·exact .inl ⟨h1,h2⟩
  ·exact .inr h)
 have hrel:∀j,j<m+1->(FQ U.pa (m+1) (U.pa.getD m 0) (U.pa.getD (U.fi.getD k 0).toNat 0)).getD j 0=if S.pa.getD j 0=S.pa.getD m 0 then S.pa.getD f 0 else S.pa.getD j 0:=λj hj=>by rw[UO _ _ _ _ _ (by rw[a1];omega) hj,a1,f2,de]
 refine⟨a2,λc=>?_,by show(List.set _ _ _).length=_;rw[e8];exact a4,by show(List.set _ _ _).length=_;rw[e8];exact a5,a6,by show(FQ _ _ _ _).length=n;rw[Du,a1];exact hp,λk' hk0=>?_,λk' hk0=>?_,λk' hk0=>?_,λj hj=>?_,λj j' hj hj'=>?_,λe he=>?_⟩
 ·show c∈U.ids<->_;rw[a3];constructor
  ·rintro(rfl|⟨a,w',h⟩)
   ·exact⟨_,_,fq _ Mh⟩
   ·exact⟨a,w',fe _ h⟩
  ·rintro⟨a,w',h⟩;rcases bf.1 h with h|h
   ·exact .inr ⟨a,w',h⟩
   ·have:=ao.1 h;exact .inl (aw (λe:Int×Int×Int=>e.2.1) this)
 ·have hk':k'<U.ids.length:=hk0;show(U.su.set k (U.su.getD k 0+w*r.2)).getD k' 0=EF _ (U.ids[k']'hk');rw[IF _ _ _ _ ω,Np];by_cases e:k'=k
  ·subst e;rw[ac rfl,a7 k' hk',a10];simp
  ·have:¬r.1=U.ids[k']'hk':=λh=>e (H3 a2 hk' a9 (by rw[a10];exact h.symm));rw[aa e,a7 k' hk',aa this,gl]
 ·have hk':k'<U.ids.length:=hk0;show(U.ma.set k (U.ma.getD k 0+1)).getD k' 0=FL _ (U.ids[k']'hk');rw[IF _ _ _ _ ω,UW];by_cases e:k'=k
  ·subst e;rw[ac rfl,a8 k' hk',a10];simp
  ·have:¬r.1=U.ids[k']'hk':=λh=>e (H3 a2 hk' a9 (by rw[a10];exact h.symm));rw[aa e,a8 k' hk',aa this,gl]
 ·have hk':k'<U.ids.length:=hk0;show ∃j:Nat,j<m+1/\U.fi.getD k' 0=(j:Int)/\∃w',((BD x j).1,U.ids[k']'hk',w')∈_;by_cases e:k'=k
  ·subst e;refine⟨f,f1,f2,?_⟩;rw[a10];rcases f3 with ⟨h1,_,_⟩|⟨w',h⟩
   ·exact⟨w*r.2,by rw[h1];exact fq _ Mh⟩
   ·exact⟨w',fe _ h⟩
  ·obtain⟨j,j1,j2,w',j3⟩:=a11 k' hk' e;exact⟨j,j1,j2,w',fe _ j3⟩
 ·show 0<=(FQ _ _ _ _).getD j 0/\(FQ _ _ _ _).getD j 0<_;rw[hrel j hj];have:=I.pl j hj;have:=I.pl f f1;split<;>omega
 ·show(FQ _ _ _ _).getD j 0=(FQ _ _ _ _).getD j' 0<->_;rw[hrel j hj,hrel j' hj',hcf,<-I.pc j j' hj hj',<-I.pc j m hj ω,<-I.pc f j' f1 hj',<-I.pc j f hj f1,<-I.pc m j' ω hj'];split<;>split<;>omega
 ·rcases bf.1 he with h|h
  ·exact I.fr e h
  ·rw[ao.1 h];exact⟨m,ω,Y⟩
theorem S2.Inv.sides(hm:m<n)(w:Int):∀(l:List (Int×Int)) (S:S2) (T:Gy),S.Inv x T (m+1) n->(S.sides m w l).Inv x (T++l.map λr=>((BD x m).1,r.1,w*r.2)) (m+1) n
 | [],S,T,I=>by rw[List.map_nil,eo];exact I
 | r::l,S,T,I=>by have:=S2.Inv.sides hm w l (S.side m w r) _ (I.side hm w r);rw[bp]at this;exact this
def My(l:List Cl)(x:Cl)(m:Nat):Gy:=(range m).flatMap λi=>(FT l x i).sd.map λr=>((BD x i).1,r.1,(BD x i).2*r.2)
theorem UU(l:List Cl)(x:Cl)(m:Nat):My l x (m+1)=My l x m++(FT l x m).sd.map λr=>((BD x m).1,r.1,(BD x m).2*r.2):=by unfold My;rw[jp,fg];simp
theorem P6{l:List Cl}(hd:∀j m,j<m->m<x.sd.length->(BD x j).1≠(BD x m).1):∀m,m<=x.sd.length->(HA l x m).Inv x (My l x m) m x.sd.length
 | 0,_=>⟨by show List.Nodup [];simp,λc=>⟨λh=>by simp[HA]at h,λ⟨a,w,h⟩=>by simp[My]at h⟩,rfl,rfl,rfl,by simp[HA],λk hk=>jt hk (Nat.not_lt_zero _),λk hk=>jt hk (Nat.not_lt_zero _),λk hk=>jt hk (Nat.not_lt_zero _),λj hj=>ω,λj j' hj=>ω,λe he=>by simp[My]at he⟩
 | m+1,h=>by rw[UU];exact S2.Inv.sides ω _ _ _ _ ((P6 hd m ω).start ω λj hj=>hd j m hj ω)
structure GoodT(T:Gy)(s:List (Int×Int)):Prop where
 sum:∀e∈T,EF T e.2.1=0
 two:∀e∈T,FL T e.2.1=2
 con:∀a∈s,∀b∈s,Con T a.1 b.1
theorem I9{l:List Cl}(hd:∀j m,j<m->m<x.sd.length->(BD x j).1≠(BD x m).1):Eg l x=0<->GoodT (My l x x.sd.length) x.sd:=by
 have I:=P6 (l:=l) hd x.sd.length (au _);obtain⟨S,hS⟩:∃S,HA l x x.sd.length=S:=⟨_,Y⟩
 obtain⟨T,hT⟩:∃T,My l x x.sd.length=T:=⟨_,Y⟩
 rw[hS,hT]at I;rw[hT];have hget:∀{L:List Int} {j:Nat} (hj:j<L.length),L[j]=L.getD j 0:=λ{L j} hj=>by simp[List.getD,hj]
 have h1:(∀y∈S.su,y=0)<->∀e∈T,EF T e.2.1=0:=by
  constructor
  ·intro h e he;obtain⟨k,hk,e1⟩:=df ((I.mem e.2.1).2 ⟨e.1,e.2.2,he⟩);have h2:=I.su k hk;rw[e1]at h2;rw[<-h2,<-hget (by rw[I.ls];exact hk)];exact h _ (ae _)
  ·intro h y hy;obtain⟨k,hk,rfl⟩:=df hy;have hk':k<S.ids.length:=by rw[<-I.ls];exact hk
   rw[hget hk,I.su k hk'];obtain⟨a,w,h2⟩:=(I.mem _).1 (ae hk');exact h _ h2
 have h2:(∀y∈S.ma,y=2)<->∀e∈T,FL T e.2.1=2:=by
  constructor
  ·intro h e he;obtain⟨k,hk,e1⟩:=df ((I.mem e.2.1).2 ⟨e.1,e.2.2,he⟩);have h2:=I.ma k hk;rw[e1]at h2;rw[<-h2,<-hget (by rw[I.lm];exact hk)];exact h _ (ae _)
  ·intro h y hy;obtain⟨k,hk,rfl⟩:=df hy;have hk':k<S.ids.length:=by rw[<-I.lm];exact hk
   rw[hget hk,I.ma k hk'];obtain⟨a,w,h2⟩:=(I.mem _).1 (ae hk');exact h _ h2
 have h3:(∀y∈S.pa,y=S.pa.getD 0 0)<->∀a∈x.sd,∀b∈x.sd,Con T a.1 b.1:=by
  constructor
  ·intro h a ha b hb;obtain⟨j,hj,rfl⟩:=df ha;obtain⟨j',hj',rfl⟩:=df hb;have e1:S.pa.getD j 0=S.pa.getD 0 0:=by rw[<-hget (by rw[I.lp];exact hj)];exact h _ (ae _)
   have e2:S.pa.getD j' 0=S.pa.getD 0 0:=by rw[<-hget (by rw[I.lp];exact hj')];exact h _ (ae _)
   have:=(I.pc j j' hj hj').1 (by rw[e1,e2])
   rwa [By hj,By hj']at this
  ·intro h y hy;obtain⟨j,hj,rfl⟩:=df hy;rw[hget hj];rw[I.lp]at hj;refine(I.pc j 0 hj ω).2 ?_;rw[By hj,By ω];exact h _ (ae _) _ (ae _)
 unfold Eg;rw[hS];constructor
 ·intro h;split at h
  ·exact jt h δ
  ·rename_i g1;split at h
   ·exact jt h δ
   ·rename_i g2;split at h
    ·exact jt h δ
    ·rename_i g3;exact⟨h1.1 (bk.1 g1),h2.1 (bk.1 g2),h3.1 (bk.1 g3)⟩
 ·rintro⟨g1,g2,g3⟩;rw[aa (λq=>q (h1.2 g1)),aa (λq=>q (h2.2 g2)),aa (λq=>q (h3.2 g3))]
end
section
theorem RdC.snoc'{h:Hp}{A:List Ce}(hA:∀a∈A,RdL cD 2 h [] a.v a.c.sd){c:Ce}(hc:RdL cD 2 h [] c.v c.c.sd):∀a∈A++[c],RdL cD 2 h [] a.v a.c.sd:=λa ha=>by
 rcases bf.1 ha with h|h
 ·exact hA a h
 ·rw[ao.1 h];exact hc
theorem Kf:∀(ll acc all:List (List Int)),acc.length<=4000->CW acc ll=some all->all.length<=4000
 | [],acc,all,h,e=>by have:acc=all:=di e;rw[<-this];exact h
 | l::ll,acc,all,h,e=>by
  rw[DX]at e;split at e
  ·cases e
  ·exact Kf ll _ all ω e
theorem WC(ll:List (List Int)):(EO ll).length<=4000/\∀c∈EO ll,(-1<=c.dim/\c.dim<=8)/\c.sd.length<=9:=by
 unfold EO;cases h:CW [] ll with
 | none=>exact⟨by simp,λc hc=>nomatch hc⟩
 | some all=>
  have h9:=FD ll [] all List.Pairwise.nil (λt ht=>nomatch ht) h;refine⟨by simpa using Kf ll [] all σ h,λc hc=>?_⟩;obtain⟨i,hi,rfl⟩:=ad.1 hc;have hil:=bi.1 hi
  have hl:(all.getD i []).length<=9:=by
   have:all.getD i []=all[i]:=by simp[List.getD,hil]
   rw[this];exact h9 _ (ae hil)
  refine⟨?_,?_⟩
  ·show -1<=((all.getD i []).length:Int)-1/\((all.getD i []).length:Int)-1<=8;omega
  ·show(if(all.getD i []).length<=1 then [] else Cu _).length<=9;split
   ·simp
   ·rw[GR,af,List.length_range];exact hl
def Rg(h:Hp)(r:Value)(ms:List Hp)(Q:List Cl->Prop):Prop:=∃m A v',ms=[m]/\r=.agg #[v']/\OwnL cC 3 52 m v' A/\Q (A.map Ce.c)/\∀a∈A,RdL cD 2 h [] a.v a.c.sd
variable {o l:List Cl} {x y:Cl} {α β:Type}
def MR(l:List Cl)(c:Int):Option Cl:=l.find? λy=>decide (y.id=c)
def GJ(l:List Cl)(c:Int):Cl:=(MR l c).getD default
theorem DG(hn:(l.map Cl.id).Nodup)(hy:y∈l):MR l y.id=some y:=by
 unfold MR
 induction l with
 | nil=>cases hy
 | cons a l ih=>
  rw[fl,gw]at hn;rw[List.find?_cons];rcases aq.1 hy with rfl|h
  ·simp
  ·have:¬a.id=y.id:=λe=>hn.1 (ad.2 ⟨y,h,e.symm⟩);simp only[this,decide_false];exact ih hn.2 h
theorem De(hn:(l.map Cl.id).Nodup)(hy:y∈l):GJ l y.id=y:=by unfold GJ;rw[DG hn hy];rfl
def Lq(L:Int->List (Int×Int))(s:List (Int×Int)):Gy:=s.flatMap λa=>(L a.1).map λr=>(a.1,r.1,a.2*r.2)
def F4(l:List Cl)(x:Cl):Gy:=Lq (λc=>(GJ l c).sd) x.sd
structure Rgt(l:List Cl):Prop where
 n:l.length<=4000
 nd:(l.map Cl.id).Nodup
 pos:∀x∈l,1<=x.id
 dim:∀x∈l,0<=x.dim/\x.dim<=8
 num:∀x∈l,¬Cb x
 sds:∀x∈l,(x.sd.map Prod.fst).Nodup
 sid:∀x∈l,∀s∈x.sd,∃y∈l,y.id=s.1/\y.dim=x.dim-1
 sgn:∀x∈l,∀s∈x.sd,s.2=1\/s.2=-1
 one:∀x∈l,x.dim=1->(x.sd.map Prod.snd).sum=0
 tab:∀x∈l,2<=x.dim->GoodT (F4 l x) x.sd
theorem Rgt.nil:Rgt []:=⟨by simp,by simp,nofun,nofun,nofun,nofun,nofun,nofun,nofun,nofun⟩
theorem Jq{l l':List Int}(h:l.Perm l'):l.sum=l'.sum:=by
 induction h with
 | nil=>rfl
 | cons x _ ih=>simp only[sum_cons,ih]
 | swap x y l=>simp only[sum_cons];omega
 | trans _ _ h1 h2=>exact h1.trans h2
theorem GoodT.perm{T T':Gy}{s s':List (Int×Int)}(h:T.Perm T')(hs:s.Perm s')(G:GoodT T s):GoodT T' s' where
 sum:=λe he=>by exact(Jq (h.map _).symm).trans (G.sum e (h.mem_iff.2 he))
 two:=λe he=>by exact(Jq (h.map _).symm).trans (G.two e (h.mem_iff.2 he))
 con:=λa ha b hb=>(G.con a (hs.mem_iff.2 ha) b (hs.mem_iff.2 hb)).mono λe he=>h.mem_iff.1 he
theorem Im{f g:α->List β}:∀{l:List α},(∀a∈l,(f a).Perm (g a))->(l.flatMap f).Perm (l.flatMap g)
 | [],_=>ik _
 | a::l,h=>by rw[fp,fp];exact(h a Mh).append (Im λb hb=>h b (bh _ hb))
theorem El{f g:α->List β}:∀{l:List α},(∀a∈l,f a=g a)->l.flatMap f=l.flatMap g
 | [],_=>rfl
 | a::l,h=>by rw[fp,fp,h a Mh,El λb hb=>h b (bh _ hb)]
theorem I6{f g:α->List β}{l l':List α}(h:l.Perm l')(hf:∀a∈l,(f a).Perm (g a)):(l.flatMap f).Perm (l'.flatMap g):=(Im hf).trans (h.flatMap_right g)
theorem T6(x:Int×Int)(l:List (Int×Int)):(IC x l).Perm (x::l):=by unfold IC;refine List.perm_middle.trans ?_;rw[List.takeWhile_append_dropWhile]
theorem B7(l:List (Int×Int)):(Cu l).Perm l:=by
 have go:∀(l acc:List (Int×Int)),(l.foldl (λacc x=>IC x acc) acc).Perm (acc++l):=λl=>by
  induction l with
  | nil=>intro acc;rw[eo];exact ik _
  | cons x l ih=>
   intro acc;rw[jg];refine(ih _).trans (((T6 x acc).append_right l).trans ?_);exact List.perm_middle.symm
 exact go l []
structure SimC(l l':List Cl):Prop where
 len:l'.length=l.length
 ids:(l'.map Cl.id).Perm (l.map Cl.id)
 mem:∀x'∈l',∃x∈l,x'.id=x.id/\x'.dim=x.dim/\x'.sd.Perm x.sd
theorem SimC.to{l':List Cl}(S:SimC l l')(hn:(l.map Cl.id).Nodup)(hx:x∈l):∃x'∈l',x'.id=x.id/\x'.dim=x.dim/\x'.sd.Perm x.sd:=by
 obtain⟨x',h1,h2⟩:=ad.1 (S.ids.mem_iff.2 (ad.2 ⟨x,hx,Y⟩));obtain⟨y,h3,h4,h5,h6⟩:=S.mem x' h1
 have:y=x:=by have a:=DG hn h3;have b:=DG hn hx;rw[<-h4,h2,b]at a;exact(di a).symm
 subst this;exact⟨x',h1,h4,h5,h6⟩
theorem Rgt.sim{l':List Cl}(R:Rgt l)(S:SimC l l'):Rgt l':=by
 have hn':(l'.map Cl.id).Nodup:=S.ids.nodup_iff.2 R.nd
 have hnum:∀{x x':Cl},x'.dim=x.dim->x'.sd.Perm x.sd->¬Cb x->¬Cb x':=λ{x x'} h1 h2 h h3=>by unfold Cb at *;rw[h1,h2.length_eq]at h3;exact h h3
 refine⟨by rw[S.len];exact R.n,hn',λx' hx'=>?_,λx' hx'=>?_,λx' hx'=>?_,λx' hx'=>?_,λx' hx' s hs=>?_,λx' hx' s hs=>?_,λx' hx' hd=>?_,λx' hx' hd=>?_⟩<;>obtain⟨x,hx,e1,e2,e3⟩:=S.mem x' hx'
 ·rw[e1];exact R.pos x hx
 ·rw[e2];exact R.dim x hx
 ·exact hnum e2 e3 (R.num x hx)
 ·exact(e3.map _).nodup_iff.2 (R.sds x hx)
 ·obtain⟨y,hy,h1,h2⟩:=R.sid x hx s (e3.mem_iff.1 hs);obtain⟨y',hy',h3,h4,_⟩:=S.to R.nd hy;exact⟨y',hy',by rw[h3,h1],by rw[h4,h2,e2]⟩
 ·exact R.sgn x hx s (e3.mem_iff.1 hs)
 ·rw[Jq (e3.map _)];exact R.one x hx (by rw[<-e2];exact hd)
 ·refine(R.tab x hx (by rw[<-e2];exact hd)).perm ?_ e3.symm;unfold F4 Lq;refine I6 e3.symm λs hs=>List.Perm.map _ ?_;obtain⟨y,hy,h1,h2⟩:=R.sid x hx s hs;obtain⟨y',hy',h3,h4,h5⟩:=S.to R.nd hy;show(GJ l s.1).sd.Perm (GJ l' s.1).sd;rw[<-h1,De R.nd hy,<-h3,De hn' hy'];exact h5.symm
theorem T7(l:List Cl):SimC l (ordF l):=by have hp:=Dy l.length l (au _);refine⟨by rw[hp.length_eq,af],(hp.map Cl.id).trans (by rw[fk];exact ik _),λx' hx'=>?_⟩;obtain⟨x,hx,rfl⟩:=HH hx';exact⟨x,hx,Y,Y,B7 _⟩
theorem Oq(h:o.Pairwise λa b=>a.id<b.id):(o.map Cl.id).Nodup:=cm.2 (h.imp λh e=>ω)
theorem H9(hi:o.Pairwise λa b=>a.id<b.id)(hy:y∈o):0<=JL o y.id/\o.getD (JL o y.id).toNat default=y:=by
 obtain⟨k,hk,rfl⟩:=df hy;have hc:LK o o[k].id=k:=QU ω (λj hj hjk=>ax.1 hi j k hj hk hjk) (λ_=>ω)
 have e:JL o o[k].id=(k:Int):=by unfold JL;rw[dif_pos (by rw[hc];exact hk)];simp only[hc,ac]
 rw[e];refine⟨ω,?_⟩;rw[de];simp[List.getD,hk]
theorem Si{c:Int}(h:0<=JL o c):∃y∈o,y.id=c/\o.getD (JL o c).toNat default=y:=by
 unfold JL at *;split at h
 ·rename_i h1;rw[dif_pos h1];split at h
  ·rename_i h2;rw[ac h2,de];exact⟨_,ae h1,h2,by simp[List.getD,h1]⟩
  ·exact jt h δ
 ·exact jt h δ
theorem Sl{l:List (Int×Int)}(h:l.length=2):(l.map Prod.snd).sum=(l.getD 0 (0,0)).2+(l.getD 1 (0,0)).2:=by
 match l,h with
 | [a,b],_=>simp
theorem IV{x:Int×Int}:∀{l:List (Int×Int)},(l.Pairwise λa b=>a.1<=b.1)->∀y∈l.dropWhile (λy=>decide (y.1<=x.1)),x.1<y.1
 | [],_,y,hy=>by cases hy
 | a::l,h,y,hy=>by
  rw[List.dropWhile_cons]at hy;split at hy
  ·exact IV (bj.1 h).2 y hy
  ·rename_i h1;have h1:¬a.1<=x.1:=by simpa using h1
   rcases aq.1 hy with rfl|h2
   ·omega
   ·have:=(bj.1 h).1 y h2;omega
theorem Xu{x:Int×Int}{l:List (Int×Int)}(h:l.Pairwise λa b=>a.1<=b.1):(IC x l).Pairwise λa b=>a.1<=b.1:=by
 unfold IC
 have h1:∀y∈l.takeWhile (λy=>decide (y.1<=x.1)),y.1<=x.1:=λy hy=>by have:=List.all_takeWhile (p:=λy:Int×Int=>decide (y.1<=x.1)) (l:=l);have:=gk.1 this y hy;simpa using this
 have h2:=IV (x:=x) h;refine f7.2 ⟨h.sublist (List.takeWhile_sublist _),bj.2 ⟨λy hy=>by have:=h2 y hy;omega,h.sublist (List.dropWhile_sublist _)⟩,λa ha b hb=>?_⟩;have h3:=h1 a ha;rcases aq.1 hb with rfl|hb
 ·exact h3
 ·have:=h2 b hb;omega
theorem F1(l:List (Int×Int)):(Cu l).Pairwise λa b=>a.1<=b.1:=by
 have go:∀(l acc:List (Int×Int)),(acc.Pairwise λa b=>a.1<=b.1)->(l.foldl (λacc x=>IC x acc) acc).Pairwise λa b=>a.1<=b.1:=λl=>by
  induction l with
  | nil=>intro acc h;exact h
  | cons x l ih=>intro acc h;rw[jg];exact ih _ (Xu h)
 exact go l [] List.Pairwise.nil
theorem Tj(hi:o.Pairwise λa b=>a.id<b.id)(hs:∀s∈x.sd,∃y∈o,y.id=s.1):My o x x.sd.length=F4 o x:=by
 have hx:x.sd=(range x.sd.length).map (BD x):=dq σ λj h1 h2=>by simp[By h1]
 unfold F4 Lq
 conv=>rhs;rw[hx]
 unfold My;rw[List.flatMap_map];refine El λj hj=>?_;have hj:=bi.1 hj;obtain⟨y,hy,e⟩:=hs (BD x j) (by rw[By hj];exact ae hj);have h1:FT o x j=y:=by unfold FT;rw[<-e];exact(H9 hi hy).2
 have h2:GJ o (BD x j).1=y:=by rw[<-e];exact De (Oq hi) hy
 show _=List.map (λr=>((BD x j).1,r.1,(BD x j).2*r.2)) (GJ o (BD x j).1).sd;rw[h1,h2]
theorem SJ(hi:o.Pairwise λa b=>a.id<b.id)(hc:∃y:Cl,x=y.can):(∀i,i<x.sd.length->¬CZ o x i)<->(∀s∈x.sd,∃y∈o,y.id=s.1/\y.dim=x.dim-1)/\(x.sd.map Prod.fst).Nodup:=by
 have hs:x.sd.Pairwise λa b=>a.1<=b.1:=by obtain⟨y,rfl⟩:=hc;exact F1 _
 constructor
 ·intro h;refine⟨λs hs=>?_,?_⟩
  ·obtain⟨i,hi',rfl⟩:=df hs;have h1:=h i hi';unfold CZ at h1;rw[By hi']at h1;have h2:0<=JL o x.sd[i].1:=Int.not_lt.1 λq=>h1 (.inl q);obtain⟨y,hy,e1,e2⟩:=Si h2;rw[e2]at h1;exact⟨y,hy,e1,bc λq=>h1 (.inr (.inl q))⟩
  ·refine cm.2 (ax.2 λi j hi' hj hij e=>?_);have h1:=h (i+1) ω;unfold CZ at h1;rw[By ω,ie,By hi']at h1;refine h1 (.inr (.inr ⟨ω,?_⟩));have a1:=ax.1 hs i (i+1) hi' ω ω;rcases (ω:i+1=j\/i+1<j) with rfl|q
   ·omega
   ·have a2:=ax.1 hs (i+1) j ω hj q;omega
 ·rintro⟨h1,h2⟩ i hi' h3;unfold CZ at h3;rw[By hi']at h3;obtain⟨y,hy,e1,e2⟩:=h1 _ (ae hi');obtain⟨a1,a2⟩:=H9 hi hy;rw[e1]at a1 a2;rcases h3 with h3|h3|⟨h3,h4⟩
  ·omega
  ·rw[a2]at h3;exact h3 e2
  ·rw[By (show i-1<x.sd.length by omega)]at h4;have:=ax.1 (cm.1 h2) (i-1) i ω hi' ω;exact this h4.symm
theorem IS(h:(x.sd.map Prod.fst).Nodup):∀j m,j<m->m<x.sd.length->(BD x j).1≠(BD x m).1:=λj m hjm hm=>by rw[By ω,By hm];exact ax.1 (cm.1 h) j m ω hm hjm
theorem RgtF.rgt(R:RgtF o):Rgt o:=by
 have hf:=λx hx=>Fb (R.fst x hx)
 have hnum:∀x∈o,¬Cb x:=λx hx q=>by have:=R.fst x hx;unfold CG at this;rw[aa (by have:=(hf x hx).1;omega),ac q]at this;exact jt this δ
 have hb:=λx hx=>(SJ R.inc (R.can x hx)).1 (hf x hx).2.2.1;have hsg:∀x∈o,∀s∈x.sd,s.2=1\/s.2=-1:=λx hx=>(R.bds hx).2.2;refine⟨R.n,Oq R.inc,R.pos,λx hx=>(hf x hx).1,hnum,λx hx=>(hb x hx).2,λx hx=>(hb x hx).1,hsg,λx hx hd=>?_,λx hx hd=>?_⟩
 ·have hl:x.sd.length=2:=bc λq=>hnum x hx (.inr (.inl ⟨hd,q⟩));rw[Sl hl];have h1:=hsg x hx _ (ae (show 0<x.sd.length by omega));have h2:=hsg x hx _ (ae (show 1<x.sd.length by omega));have h3:=R.fst x hx;unfold CG at h3;rw[aa (by have:=(hf x hx).1;omega),aa (hnum x hx),aa (λq=>q (hf x hx).2.2.1),aa (λq=>q (hf x hx).2.2.2)]at h3;rw[<-By]at h1 h2;have h4:¬(BD x 0).2=(BD x 1).2:=λq=>by rw[ac ⟨hd,q⟩]at h3;exact jt h3 δ
  show(BD x 0).2+(BD x 1).2=0;omega
 ·have h1:=(I9 (IS (hb x hx).2)).1 (R.snd x hx hd)
  rwa [Tj R.inc λs hs=>by obtain⟨y,hy,e,_⟩:=(hb x hx).1 s hs;exact⟨y,hy,e⟩]at h1
theorem Rgt.ordF(R:Rgt l):RgtF (ordF l):=by
 have R':=R.sim (T7 l);have hle:=DS l.length l (au _);have hinc:(Go.Proofs.Q.ordF l).Pairwise λa b=>a.id<b.id:=(hle.and (cm.1 R'.nd)).imp λh=>ω
 have hcan:∀x∈Go.Proofs.Q.ordF l,∃y:Cl,x=y.can:=λx hx=>by obtain⟨a,_,e⟩:=HH hx;exact⟨a,e⟩
 refine⟨R'.n,hinc,R'.pos,hcan,λx hx=>?_,λx hx hd=>?_⟩
 ·have hb:=(SJ hinc (hcan x hx)).2 ⟨R'.sid x hx,R'.sds x hx⟩
  have hsg:∀i,i<x.sd.length->¬B0 x i:=λi hi q=>by unfold B0 at q;rw[By hi]at q;have:=R'.sgn x hx _ (ae hi);omega
  unfold CG;rw[aa (by have:=R'.dim x hx;omega),aa (R'.num x hx),aa (λq=>q hb),aa (λq=>q hsg)];by_cases hd:x.dim=1
  ·have hl:x.sd.length=2:=bc λq=>R'.num x hx (.inr (.inl ⟨hd,q⟩));have h1:=R'.one x hx hd;rw[Sl hl]at h1;have h2:=R'.sgn x hx _ (ae (show 0<x.sd.length by omega));rw[<-By]at h2;have h3:(BD x 0).2+(BD x 1).2=0:=h1;rw[aa (λq=>by have:=q.2;omega)]
  ·rw[aa (λq=>hd q.1)]
 ·refine(I9 (IS (R'.sds x hx))).2 ?_;rw[Tj hinc λs hs=>by obtain⟨y,hy,e,_⟩:=R'.sid x hx s hs;exact⟨y,hy,e⟩];exact R'.tab x hx hd
end
section
variable {l o:List Cl} {v:Value} {oi:List CeO}
structure CanO(l o:List Cl):Prop where
 ids:(o.map Cl.id).Perm (l.map Cl.id)
 inc:o.Pairwise λa b=>a.id<=b.id
 mem:∃l':List Cl,l'.Perm l/\o.length=l'.length/\∀i (h:i<o.length) (h':i<l'.length),o[i].id=l'[i].id/\o[i].dim=l'[i].dim/\o[i].sd.Perm l'[i].sd/\o[i].sd.Pairwise λa b=>a.1<=b.1
theorem CanO.len(C:CanO l o):o.length=l.length:=by obtain⟨l',h1,h2,_⟩:=C.mem;rw[h2,h1.length_eq]
theorem CanO.sim(C:CanO l o):SimC l o:=by obtain⟨l',h1,h2,h3⟩:=C.mem;refine⟨C.len,C.ids,λx' hx'=>?_⟩;obtain⟨i,hi,rfl⟩:=df hx';obtain⟨a,b,c,_⟩:=h3 i hi ω;exact⟨_,h1.mem_iff.1 (ae ω),a,b,c⟩
theorem DL{α:Type}(k:α->Int):∀{l l':List α},l.Perm l'->(l.Pairwise λa b=>k a<=k b)->(l'.Pairwise λa b=>k a<k b)->l=l'
 | [],l',h,_,_=>(List.nil_perm.1 h).symm
 | a::l,[],h,_,_=>jt h.length_eq σ
 | a::l,b::l',h,h1,h2=>by
  obtain⟨h3,h4⟩:=bj.1 h1;obtain⟨h5,h6⟩:=bj.1 h2;have hb:b∈a::l:=h.mem_iff.2 Mh;have ha:a∈b::l':=h.mem_iff.1 Mh
  have e:a=b:=by
   rcases aq.1 ha with e|ha
   ·exact e
   ·have g1:=h5 a ha;rcases aq.1 hb with e|hb
    ·exact e.symm
    ·have g2:=h3 b hb;omega
  subst e;rw[DL k ((List.perm_cons a).1 h) h4 h6]
theorem RgtF.sinc(R:RgtF o):∀x∈o,x.sd.Pairwise λa b=>a.1<b.1:=λx hx=>by
 obtain⟨y,e⟩:=R.can x hx;have h1:x.sd.Pairwise λa b=>a.1<=b.1:=by rw[e];exact F1 _
 have h2:=cm.1 (R.rgt.sds x hx);exact(h1.and h2).imp λh=>ω
theorem exO:∀{l:List Ce},(∀a∈l,a.v.oneCell'=true)->∃lo:List CeO,lo.map (λe=>(⟨e.c,e.v⟩:Ce))=l
 | [],_=>⟨[],rfl⟩
 | a::l,h=>by obtain⟨lo,e⟩:=exO λb hb=>h b (bh _ hb);exact⟨⟨a.c,a.v,h a Mh⟩::lo,by rw[fl,e]⟩
def LU(e:CeO):Ce:=⟨e.c,e.v⟩
theorem JS(lo:List CeO):(lo.map LU).flatMap cC=lo.flatMap Ii:=by rw[List.flatMap_map];rfl
theorem AaS{lo:List CeO}{h:Hp}{ms:List Hp}(R:RdL cC 3 h ms v (lo.map LU)):RdL Ii 3 h ms v lo:=⟨by have:=R.rd;rwa [JS,af]at this,KR⟩
theorem VW{lo:List CeO}{m:Hp}(O:OwnL Ii 3 52 m v lo):OwnL cC 3 52 m v (lo.map LU):=⟨by have:=O.own;rwa [JS,af],CP⟩
def StpO(o oi:List CeO)(i:Nat):Prop:=oi.length=o.length/\∀j (h:j<oi.length) (h':j<o.length),oi[j].c.id=o[j].c.id/\oi[j].c.dim=o[j].c.dim/\oi[j].c.sd.Perm o[j].c.sd/\(j<i->oi[j].c.sd.Pairwise λa b=>a.1<=b.1)
theorem StpO.start(o:List CeO):StpO o o 0:=⟨rfl,λj h h'=>⟨rfl,rfl,ik _,λq=>jt q ω⟩⟩
theorem StpO.step{o:List CeO}{i:Nat}(S:StpO o oi i)(hi:i<oi.length){s:List (Int×Int)}(hp:s.Perm oi[i].c.sd)(hs:s.Pairwise λa b=>a.1<=b.1){hv:v.oneCell'=true}:StpO o (oi.set i ⟨⟨oi[i].c.id,oi[i].c.dim,s⟩,v,hv⟩) (i+1):=by
 refine⟨by rw[e8];exact S.1,λj h h'=>?_⟩;rw[e8]at h;obtain⟨a,b,c,d⟩:=S.2 j h h';by_cases e:i=j
 ·subst e;simp only[List.getElem_set_self];exact⟨a,b,hp.trans c,λ_=>hs⟩
 ·simp only[List.getElem_set_ne e];exact⟨a,b,c,λq=>d ω⟩
theorem StpO.can{o:List CeO}(S:StpO o oi o.length)(hp:(o.map CeO.c).Perm l)(hi:o.Pairwise λa b=>a.c.id<=b.c.id):CanO l (oi.map CeO.c):=by
 have hl:=S.1
 have hid:(oi.map CeO.c).map Cl.id=(o.map CeO.c).map Cl.id:=dq (by simp[hl]) λi h1 h2=>by simp only[fm];exact(S.2 i (by simpa using h1) (by simpa using h2)).1
 refine⟨by rw[hid];exact hp.map _,?_,o.map CeO.c,hp,by simp[hl],λi h h'=>?_⟩
 ·refine cm.2 ?_;rw[ax]at hi ⊢;intro i j h1 h2 hij;have:=hi i j ω ω hij;have e1:=(S.2 i h1 ω).1;have e2:=(S.2 j h2 ω).1;omega
 ·rw[af]at h h';simp only[fm];obtain⟨a,b,c,d⟩:=S.2 i h h';exact⟨a,b,c,d h'⟩
theorem Wn{i:Nat}{a b:CeO}(h:a∈oi.set i b):a=b\/a∈oi:=(List.mem_or_eq_of_mem_set h).symm
theorem JT(l:List Ce)(v:Value)(hp:Hp)(hn:l.length<=1000000)(hs:∀a∈l,a.c.sd.length<=1000000)(hR:RdC hp v l):FnT Tryz.prog 65 #[.agg #[v]] hp [] (λr h' ms'=>hp.le h'/\∃m A v',ms'=[m]/\r=.agg #[v']/\OwnL cC 3 52 m v' A/\CanO (l.map Ce.c) (A.map Ce.c)/\∀a∈A,RdL cD 2 h' [] a.v a.c.sd):=by
 have o1:=hR.q.rd.one;obtain⟨lo,e⟩:=exO (λa ha=>(hR.s a ha).rd.one);have e:lo.map LU=l:=e;refine Au func65 ntmps65 Y Y (λw0 hw0=>?_);simp only[A6];refine Aq (AP [_] Y Y (by rfl) Y Y Y (λg1=>Cx [.nl] Y A8 Y Y (λg2=>Am (Bj 1 Y λh1 l1 hS=>?_))));have hR:=hR.up l1;have hA:=Seg.all hS;have c0:∀ms,Cell h1 ms (⟨g1,0,none⟩:Addr) v:=λms=>hA 0 _ Y ms;have hRo:RdL Ii 3 h1 [] v lo:=AaS (by rw[e];exact hR.q);have hlo:lo.length=l.length:=by rw[<-e,af]
 refine Aq (Qf Cr Y (Ql Y Bm (c0 _) (Qc call134 Y (Ri lo v h1 hRo ω) (λr h2 ms2 l2 hF=>?_))));obtain⟨l2',m,o,rfl,hO,hP,hI⟩:=hF;have ovr:=hO.o1;have hol:o.length=l.length:=by rw[hP.length_eq,hlo]
 have hRs:∀a∈o,RdL cD 2 h2 [] a.v a.c.sd/\a.c.sd.length<=1000000:=λa ha=>by
  have:LU a∈l:=by rw[<-e];exact ad.2 ⟨a,hP.mem_iff.1 ha,Y⟩
  exact⟨(hR.s _ this).up l2,hs _ this⟩
 refine Qm Y (Am (Ac (Aq (Qm Y (Qx (As (hO.rd Mh).rd Y Bm Y) Y (Qm Y (Am (Ag ?_))))))))
 refine Ay (λq sl h' ms'=>∃(i:Nat) (m:Hp) (oi:List CeO),q=o.length-i/\sl=[(2,.pt g2),(3,r),(9,.w o.length),(10,.w i)]/\h2.le h'/\ms'=[m,Bh g2 29 [.nl]]/\i<=o.length/\OwnL Ii 3 52 m r oi/\StpO o oi i/\∀a∈oi,RdL cD 2 h' [] a.v a.c.sd/\a.c.sd.length<=1000000)
  (o.length-0) _ ⟨0,m,o,rfl,rfl,Da,rfl,ω,hO,StpO.start o,hRs⟩ Qs ?_
 rintro q sl h3 ms' ⟨i,m,oi,rfl,rfl,l3,rfl,hi,hO,hSt,hRs⟩;have ovr:=hO.o1;have hoil:=hSt.1;refine Aq (Qm Y (Am (Ac ?_)));refine Ao Y (λhlt=>?_) (λhlt=>?_)
 ·have hil:i<oi.length:=ω
  obtain⟨hRi,hRn⟩:=hRs _ (ae hil);have c2:∀ms,m∈ms->Cell h3 ms (((AG r).add (i*3)).add 2) oi[i].v:=λms hm=>(hO.rd hm).cell hil (f:=2) Y;have ovi:=hRi.rd.one;refine Ah (Ad (Ac (Ag (Aq (Qm Y (Qm Y (Gl (Qm Y (Qm Y (Qm Y (Qm Y (Qx (AA (i) (hO.rd Mh).rd Y Bm AI Y Y ω ω) Y (Qf BI Y (Ql Y Cf (c2 _ Mh) (Qc call136 Y (RC oi[i].c.sd oi[i].v h3 hRi hRn) (λrS h4 ms4 l4 hF=>?_))))))))))))))));obtain⟨l4',mS,s,rfl,hOS,hPS,hIS⟩:=hF;refine Ba hOS λh5 l5 hRS=>?_;have ovS:=hRS.rd.one;refine Qx (AA (i) (hO.rd Mh).rd Y Bm AI Y Y ω ω) Y (Qf BI Y ?_);refine IM 0 i 2 ⟨⟨oi[i].c.id,oi[i].c.dim,s⟩,rS,ovS⟩ [rS] hO Y Uz Y Y hRS.rd.cells Y (λc hc=>by rw[ao.1 hc];exact ovS) Y hil ω Y Y Y (λm' hO'=>?_);refine Ak (Ai (Ad (Ab (Qx (oA Y) Y (Qm Y (Ak ?_))))))
  exact Al (o.length-(i+1)) _ ω ⟨i+1,m',_,Y,Y,AE l3 (AE l4 l5),Y,ω,hO',hSt.step hil hPS hIS,λa ha=>by
   rcases Wn ha with rfl|ha
   ·exact⟨hRS,by show s.length<=_;rw[hPS.length_eq];exact hRn⟩
   ·exact⟨(hRs a ha).1.up (AE l4 l5),(hRs a ha).2⟩⟩ Qs
 ·obtain rfl:i=o.length:=ω
  have hcan:CanO (l.map Ce.c) (oi.map CeO.c):=hSt.can (by rw[<-e,fk];exact hP.map _) hI;have hOe:=VW hO
  have hfin:∀a∈oi.map LU,RdL cD 2 h3 [] a.v a.c.sd:=λa ha=>by obtain⟨b,hb,rfl⟩:=ad.1 ha;exact(hRs b hb).1
  have hmm:(oi.map LU).map Ce.c=oi.map CeO.c:=by rw[fk];rfl
  obtain⟨ar,cr,rfl,_⟩:=(hO.rd (h:=h3) (ms:=[m]) Mh).rd.ex;refine Av (Aa (Aa (Af (Ad (Aq (Qm Y (Qx (Bb AbH [.nl] [(0,_)] [_] Y A8 Y Y Qt Y) Y ?_)))))));refine Sa 1 [_] A8 Y (by simp[Value.oneCell']) ?_;refine Am (An ?_);exact BC (vs:=[_]) 1 Y Y CS Y A8 Y Y (⟨AE l1 (AE l2 l3),m,oi.map LU,_,Y,Y,hOe,by rw[hmm];exact hcan,hfin⟩)
end
def kN(a:Int):Value:=.int .i64 a
theorem BA:Of Tryz.prog 3 kN BS where
 law:=Maps.int_keyed U3
 inj:=λa b h=>by unfold kN at h;simpa using h
 key:=λb h=>⟨_,Maps.keyOf_int_mk U3 (WalkArith.wf_i64 h)⟩
def vC(a:Ce):Value:=.agg (cC a).toArray
theorem LZ(w:World):(zeroValue 52).run Tryz.prog w=.ok (vC default) w:=by rfl
theorem Gb{a h m:Hp}(hl:a.le h)(hd:h.disj m):a.disj m:=λg=>by
 rcases hd g with e|e
 ·left
  cases ha:a g with
  | none=>rfl
  | some o=>rw[hl g o ha]at e;cases e
 ·exact .inr e
def Q7(U:List Ce)(a:Ce):List Ce:=if a.c.id∈U.map (λb=>b.c.id) then U else U++[a]
def Rc(A:List Ce):List Ce:=A.foldl Q7 []
theorem X0{A:List Ce}{i:Nat}(hi:i<A.length):Rc (A.take (i+1))=Q7 (Rc (A.take i)) A[i]:=by unfold Rc;rw[ak hi,foldl_append];rfl
theorem KC:∀(A U:List Ce),∀a∈A.foldl Q7 U,a∈U\/a∈A
 | [],U,a,h=>.inl h
 | b::A,U,a,h=>by
  rcases KC A (Q7 U b) a h with h|h
  ·unfold Q7 at h;split at h
   ·exact .inl h
   ·rcases bf.1 h with h|h
    ·exact .inl h
    ·rw[ao.1 h];exact .inr Mh
  ·exact .inr (bh _ h)
theorem Sy:∀(A U:List Ce),((U++A).map λa=>a.c.id).Nodup->A.foldl Q7 U=U++A
 | [],U,_=>by simp
 | a::A,U,h=>by
  have e:Q7 U a=U++[a]:=by unfold Q7;rw[aa];intro hm;rw[bm,jh]at h;exact h.2.2 _ hm _ σ rfl
  rw[jg,e,Sy A (U++[a]) (by rwa [bp])];simp
theorem WX{A:List Ce}(h:(A.map λa=>a.c.id).Nodup):Rc A=A:=by have:=Sy A [] (by simpa using h);simpa[Rc] using this
theorem Yd:∀(A U:List Ce),(A.foldl Q7 U).length<=U.length+A.length
 | [],U=>by simp
 | a::A,U=>by
  have h1:=Yd A (Q7 U a);have h2:(Q7 U a).length<=U.length+1:=by unfold Q7;split<;>simp
  rw[jg,ef];omega
def F3(U:List Ce):List (Int×Ce):=U.map λa=>(a.c.id,a)
theorem Pe(U:List Ce):(F3 U).map Prod.fst=U.map λa=>a.c.id:=by unfold F3;rw[fk];rfl
theorem ZS{U:List Ce}{i:Int}{b:Bool}(h:(Bz (F3 U) i).isSome=b):i∈U.map (λa=>a.c.id)<->b=true:=by
 subst h;rw[<-Pe];constructor
 ·intro hm;cases hg:Bz (F3 U) i with
  | some _=>rfl
  | none=>
   exfalso;unfold Bz at hg;rw[Option.map_eq_none_iff,ii]at hg;obtain⟨p,hp,e⟩:=ad.1 hm;have:=hg p hp;simp[e]at this
 ·intro hs;refine bc λhm=>?_;rw[Dl hm]at hs;cases hs
def RdT(h:Hp)(g:Nat)(U:List Ce):Prop:=∃gm m bs vids,Seg h [] ⟨g,0,none⟩ [.map (some gm),vids]/\C4 kN vC gm BS m (F3 U) bs/\m.le h/\RdL cI 1 h [] vids (U.map λa=>a.c.id)/\∀a∈U,RdL cD 2 h [] a.v a.c.sd
theorem RdT.up{h h':Hp}{g:Nat}{U:List Ce}(R:RdT h g U)(l:h.le h'):RdT h' g U:=by obtain⟨gm,m,bs,vids,h1,h2,h3,h4,h5⟩:=R;exact⟨gm,m,bs,vids,h1.le l,h2,AE h3 l,h4.up l,λa ha=>(h5 a ha).up l⟩
structure OfOk(l:List Ce):Prop where
 n:l.length<=1000000
 s:∀a∈l,a.c.sd.length<=1000000
 i:∀a∈l,BS a.c.id
theorem Aap(l:List Ce)(v:Value)(hp:Hp)(hK:OfOk l)(hR:RdC hp v l):FnT Tryz.prog 64 #[.agg #[v]] hp [] (λr h' ms'=>hp.le h'/\ms'=[]/\∃g A,r=.pointer (some ⟨g,0,none⟩)/\CanO (l.map Ce.c) (A.map Ce.c)/\RdT h' g (Rc A)):=by
 have o1:=hR.q.rd.one;refine Au func64 ntmps64 Y Y (λw0 hw0=>?_);simp only[A6];refine Aq (AP [_] Y Y (by rfl) Y Y Y (λg1=>Qm Y (Am (Ax λh1 l1 hS=>?_))));have hR:=hR.up l1;have hA:=Seg.all hS;refine BT (Aq (Dh (K:=kN) (V:=vC) (Ok:=BS) Y Y Y Y (λgm mM hM=>Qx (Bb Acn [.map none,.nl] [(0,_)] [_,_] Y Aco Y Y Qt Y) Y (AP [_,_] Y Y (by rfl) Y Y Y (λg10=>Qm Y (Am (Ac (Aq (Qx (oG Y CS A8 (Seg.any hS)) Y (Qc call65 Y (JT l v h1 hK.n hK.s hR) (λrC h2 ms2 l2 hF=>?_)))))))))));obtain⟨l2',mA,A,vA,rfl,rfl,hOA,hC,hsA⟩:=hF;refine Ba hOA λh3 l3 hQ=>?_;have hsA:=λa ha=>(hsA a ha).up l3;have ovA:=hQ.rd.one;have hAl:A.length=l.length:=by have:=hC.len;rwa [af,af]at this
 have hAn:A.length<=1000000:=by rw[hAl];exact hK.n
 refine Qx (Er Y CS Y Bm Y Y Y) Y (Qx (As hQ.rd.any Y Bm Y) Y (Qm Y (Am (Ag ?_))))
 refine Ay (λq sl h' ms'=>∃(i:Nat) (vI:Value) (mI mM:Hp) (bs:List Nat),q=A.length-i/\sl=[(3,.pt g10),(13,vA),(14,.w A.length),(15,.w i)]/\h3.le h'/\ms'=[Bh g10 115 [.map (some gm),vI],mM,mI]/\i<=A.length/\C4 kN vC gm BS mM (F3 (Rc (A.take i))) bs/\OwnL cI 1 3 mI vI ((Rc (A.take i)).map λa=>a.c.id))
  (A.length-0) _ ⟨0,_,Hp.emp,mM,[],rfl,rfl,Da,rfl,ω,hM,OwnL.nil Bi⟩ Qs ?_
 rintro q sl h4 ms' ⟨i,vI,mI,mM,bs,rfl,rfl,l4,rfl,hi,hM,hOI⟩;have hQ:=hQ.up l4;refine Aq (Qm Y (Am (Ac ?_)));refine Ao Y (λhlt=>?_) (λhlt=>?_)
 ·have hil:i<A.length:=ω
  obtain⟨x,hx⟩:∃x,A[i]=x:=⟨_,Y⟩
  have hxm:x∈A:=by rw[<-hx];exact ae hil
  have hU:=X0 hil;rw[hx]at hU;obtain⟨U,hUe⟩:∃U,Rc (A.take i)=U:=⟨_,Y⟩
  rw[hUe]at hM hOI hU;have oxv:=(hsA x hxm).rd.one;have hsx:∀ms,Seg h4 ms ((AG vA).add (i*3)) (cC x):=λms=>by rw[<-hx];exact(hQ.any (ms:=ms)).seg hil
  have ovI:=hOI.o1;obtain⟨bb,hbb⟩:∃bb,(Bz (F3 U) x.c.id).isSome=bb:=⟨_,Y⟩
  have hin:=ZS hbb;refine Ah (Ad ?_);refine Bg (λsl h' ms'=>∃(vI:Value) (mI mM:Hp) (bs:List Nat),sl=[(3,.pt g10),(13,vA),(14,.w A.length),(15,.w i)]/\h4.le h'/\ms'=[Bh g10 115 [.map (some gm),vI],mM,mI]/\C4 kN vC gm BS mM (F3 (Q7 U x)) bs/\OwnL cI 1 3 mI vI ((Q7 U x).map λa=>a.c.id)) ?_ (λs h ms hI=>?_)
  ·refine Ag (Aq (Qx (BN (i) hQ.rd.any Y Bm AI Y Y) Y (Qx (oG Y Ey AI (hsx _)) Y (Cx [.w 0,.w 0,.nl] Y AI Y Y (λg5=>?_)))));refine Sa 0 [_,_,_] AI Y (by simp[o1,ovA,oxv,ovI]) ?_;refine Am (Ax λh5 l5 hS5=>?_);have e5:=Seg.all hS5;have e50:∀ms,Cell h5 ms (⟨g5,0,none⟩:Addr) (.w x.c.id):=λms=>e5 0 _ Y ms;refine GW λh6 l6 lB dB LB=>(GW λh7 l7 lM dM LM=>?_)
   have e10:=Seg.all (Seg.ofLe (AE lB l7));have e50':∀ms,Cell h7 ms (⟨g5,0,none⟩:Addr) (.w x.c.id):=λms=>(e50 ms).le (AE l6 l7);have e100:∀ms,Cell h7 ms (⟨g10,0,none⟩:Addr) (.map (some gm)):=λms=>e10 0 _ Y ms
   have hid:BS x.c.id:=by obtain⟨y,hy,e,_⟩:=hC.sim.mem x.c (ad.2 ⟨x,hxm,Y⟩);obtain⟨z,hz,rfl⟩:=ad.1 hy;rw[e];exact hK.i z hz
   obtain⟨y,hy⟩:∃y,(Bz (F3 U) x.c.id).getD default=y:=⟨_,Y⟩
   have oyv:y.v.oneCell'=true:=by
    rw[<-hy];cases hg:Bz (F3 U) x.c.id with
    | none=>rfl
    | some z=>
     unfold Bz at hg;obtain⟨p,hp,rfl⟩:=Option.map_eq_some_iff.1 hg;obtain⟨a,ha,rfl⟩:=ad.1 (gn hp);have ha:a∈Rc (A.take i):=by rw[hUe];exact ha
     rcases KC _ _ a ha with h|h
     ·cases h
     ·exact(hsA a (mem_of_mem_take h)).rd.one
   refine Bg (λsl h' ms'=>∃g6:Nat,sl=[(3,.pt g10),(5,.pt g5),(7,.bool bb),(13,vA),(14,.w A.length),(15,.w i)]/\h7=h'/\ms'=[Bh g6 52 (cC y),mI]) ?_ (λs h ms hI=>?_)
   ·refine BK (n:=13) (bs:=[true,true,true,true,true,true,true,true,true,true,false,false,false]) [true,true,true,true,true,true,true,true,true,true] CT κ κ Y Y (Qq Y (Qq Y (QF FC Y (QL Y Hf (e100 _) (QF Bq Y (QL Y U3 (e50' _) (Qp Y (Fz (V:=vC) (z:=(default:Ce)) x.c.id hy hbb BA hM lM Y Hf LZ Y Y hid) (Qq Y (Qq Y (Qq Y ?_))))))))));unfold Fm;simp only[bl,ay];refine Qo 10 Y (Cx [.w 0,.w 0,.nl] Y AI Y Y (λg6=>Qw (Qo 11 Y ?_)));refine Sa 0 [_,_,_] AI Y (by simp[o1,ovA,oxv,ovI,oyv]) ?_;refine Qw (Qo 12 Y (Qm Y (Qw (Qe ?_))));exact Az _ ⟨g6,Y,Y,Y⟩ Qs
   ·obtain⟨g6,rfl,rfl,rfl⟩:=hI;refine SU (Ga LM lM λh8 q8 b8=>?_);have lB8:(Bh g10 115 [.map (some gm),vI]).le h8:=b8 _ (AE lB l7) (Gb lB dM);refine Ga LB lB8 λh9 q9 b9=>?_;have l59:h5.le h9:=b9 _ (b8 _ (AE l6 l7) (Gb l6 dM)) dB;have l39:h3.le h9:=AE l4 (AE l5 l59);have e50:∀ms,Cell h9 ms (⟨g5,0,none⟩:Addr) (.w x.c.id):=λms=>(e50 ms).le l59;have hS9:=hS5.le l59;refine Aq (Qm Y (Qm Y (Am ?_)));refine BG Y (λhn=>?_) (λhn=>?_)
    ·have hbf:bb=false:=by cases bb<;>simp at hn ⊢
     have hni:x.c.id ∉ U.map λa=>a.c.id:=λq=>by rw[hin.1 q]at hbf;cases hbf
     have hUU:Q7 U x=U++[x]:=aa hni
     have hset:Dq (F3 U) x.c.id x=F3 (U++[x]):=by unfold Dq;rw[aa (by rw[Pe];exact hni)];unfold F3;rw[bm];rfl
     have hUl:U.length<=i:=by rw[<-hUe];exact dc (Yd _ []) (by simp;omega)
     rw[hUU];refine Bg (λsl h' ms'=>∃(mM:Hp) (bs:List Nat),sl=[(3,.pt g10),(5,.pt g5),(13,vA),(14,.w A.length),(15,.w i)]/\h9=h'/\ms'=[Bh g10 115 [.map (some gm),vI],mM,mI]/\C4 kN vC gm BS mM (F3 (U++[x])) bs) ?_ (λs h ms hI=>?_)
     ·refine BK (n:=8) (bs:=[true,true,true,false,true,true,true,false]) [true,true,true,false,true,true,true] CT κ κ Y Y (Qq Y (Qq Y (QF FC Y (QF Bq Y (QL Y U3 (e50 _) (Qp Y (oG Y Ey AI (Seg.any hS9)) ?_))))));unfold Fm;simp only[bl,ay];refine Qo 3 Y (Ql Y Hf (Cell.blk 0 Y Y) (Qw (Qo 7 Y (B4 (V:=vC) (z:=undef) 1 x.c.id x BA hM Y Y Hf Y Y Y hid Y Y (λmM' bs' hM'=>Qw (Qe ?_))))));rw[hset]at hM';exact Az _ ⟨mM',bs',Y,Y,Y,hM'⟩ Qs
     ·obtain⟨mM,bs,rfl,rfl,rfl,hM⟩:=hI;refine BK (n:=12) (bs:=[true,true,true,true,false,true,true,false,false,true,true,false]) [true,true,true,true,false,true,true,false,false,true,true] CT κ κ Y Y (Qq Y (Qq Y (Qq Y (QF OF Y (QF Bq Y (QL Y U3 (e50 _) (Qq Y (QF OF Y ?_))))))));unfold Fm;simp only[bl,ay];refine Bf [4,7] κ Y ?_;refine AD Y ?_ ?_
      ·refine Ql Y AN (Cell.blk 0 Y Y) (Qw (Qo 7 Y (Aw [_] Y AN A0 Y (by rfl) Y Y ω Y Y Y (λg45=>Qw (Qo 8 Y (AU 3 hOI (RdL.one Bi (x:=x.c.id) Mh Y) Y AN A0 Y ω Y Y Y B5 (by(try simp only[ab,af]);omega) (by(try simp only[ab,af]);omega) rfl rfl rfl (λvI2 mI2 hOI2=>?_)))))));have ovI2:=hOI2.o1;refine Qw (Qo 11 Y ?_);refine AO 1 _ Y CI Y Y (by assumption) Y Y (by(simp;done)) rfl rfl ?_;refine Qw (Qe ?_);rw[show(U.map λa=>a.c.id)++[x.c.id]=(U++[x]).map λa=>a.c.id by rw[bm];rfl]at hOI2;refine AX (Ai ?_);exact Az _ ⟨vI2,mI2,mM,bs,Y,AE l5 l59,Y,hM,hOI2⟩ Qs
      refine AD Y ?_ ?_
      ·refine Aw [_] Y AN A0 Y (by rfl) Y Y ω Y Y Y (λg45=>Qw (Qo 4 Y (Ql Y AN (Cell.blk 1 Y Y) (Qw (Qo 8 Y (AU 3 hOI (RdL.one Bi (x:=x.c.id) Mh Y) Y AN A0 Y ω Y Y Y B5 (by(try simp only[ab,af]);omega) (by(try simp only[ab,af]);omega) rfl rfl rfl (λvI2 mI2 hOI2=>?_)))))));have ovI2:=hOI2.o1;refine Qw (Qo 11 Y ?_);refine AO 1 _ Y CI Y Y (by assumption) Y Y (by(simp;done)) rfl rfl ?_;refine Qw (Qe ?_);rw[show(U.map λa=>a.c.id)++[x.c.id]=(U++[x]).map λa=>a.c.id by rw[bm];rfl]at hOI2;refine AX (Ai ?_);exact Az _ ⟨vI2,mI2,mM,bs,Y,AE l5 l59,Y,hM,hOI2⟩ Qs
      exact Be
    ·have hbt:bb=true:=by cases bb<;>simp at hn ⊢
     have hUU:Q7 U x=U:=ac (hin.2 hbt);rw[hUU];refine Ah (Ai ?_);exact Az _ ⟨vI,mI,mM,bs,Y,AE l5 l59,Y,hM,hOI⟩ Qs
  ·obtain⟨vI,mI,mM,bs,rfl,k9,rfl,hM,hOI⟩:=hI;refine Ab (Qx (oA Y) Y (Qm Y (Ak ?_)));exact Al (A.length-(i+1)) _ ω ⟨i+1,vI,mI,mM,bs,Y,Y,AE l4 k9,Y,ω,by rw[hU];exact hM,by rw[hU];exact hOI⟩ Qs
 ·obtain rfl:i=A.length:=ω
  rw[ct]at hM hOI;refine Av (Aa (Aa (Af (Ad (Aq (Qm Y (Qm Y (Am (An (IH λh5 l5 k5=>(IH λh6 l6 k6=>(IH λh7 l7 k7=>?_))))))))))))
  have hT:RdT h7 g10 (Rc A):=⟨gm,mM,bs,vI,Seg.ofLe (AE k5 (AE l6 l7)),hM,AE k6 l7,hOI.rdh k7,λa ha=>by
   rcases KC _ _ a ha with h|h
   ·cases h
   ·exact(hsA a h).up (AE l4 (AE l5 (AE l6 l7)))⟩
  exact Ap Y Y (⟨AE l1 (AE l2 (AE l3 (AE l4 (AE l5 (AE l6 l7))))),Y,g10,A,Y,hC,hT⟩)
section
variable {gM:Nat} {mM:Hp}
def MC(v:Value):Value:=v
structure OwnMS(gM:Nat)(mM mB:Hp)(T:List (Int×List Int)):Prop where
 ex:∃(Tv:List (Int×Value)) (bs:List Nat),C4 kN MC gM BS mM Tv bs/\Tv.map Prod.fst=T.map Prod.fst/\Bag T.length (λl m=>∃p,Tv[l]?=some p/\OwnL cI 1 3 m p.2 ((T.map Prod.snd).getD l [])) mB
theorem OwnMS.start(O:C4 kN MC gM BS mM ([]:List (Int×Value)) []):OwnMS gM mM Hp.emp []:=⟨[],[],O,rfl,Bag.zero _⟩
theorem Hx{ν:Type}{T:List (Int×ν)}{a:Int}(h:a∈T.map Prod.fst):∃(l:Nat) (x:ν),T[l]?=some (a,x):=by obtain⟨p,hp,rfl⟩:=ad.1 h;obtain⟨l,hl,e⟩:=df hp;exact⟨l,p.2,by rw[ah hl,e]⟩
theorem M7{ν μ:Type}{T:List (Int×ν)}{T':List (Int×μ)}(h:T'.map Prod.fst=T.map Prod.fst){l:Nat}{a:Int}{x:ν}(e:T[l]?=some (a,x)):∃y,T'[l]?=some (a,y):=by
 have h1:(T'.map Prod.fst)[l]?=(T.map Prod.fst)[l]?:=by rw[h]
 rw[gr,gr,e]at h1;cases h2:T'[l]? with
 | none=>rw[h2]at h1;cases h1
 | some p=>
  rw[h2]at h1;have:p.1=a:=di h1;exact⟨p.2,by rw[<-this]⟩
theorem OwnMS.open{mB:Hp}{T:List (Int×List Int)}(M:OwnMS gM mM mB T)(a:Int):∃(Tv:List (Int×Value)) (bs:List Nat) (v:Value) (m1 m2:Hp),C4 kN MC gM BS mM Tv bs/\(Bz Tv a).getD (.slice none 0 0)=v/\mB=m1.join m2/\m1.disj m2/\OwnL cI 1 3 m1 v ((Bz T a).getD []) ∧
  ∀v' L' m1' mM' bs',m1'.disj m2->OwnL cI 1 3 m1' v' L'->C4 kN MC gM BS mM' (Dq Tv a v') bs'->OwnMS gM mM' (m1'.join m2) (Dq T a L'):=by
 obtain⟨Tv,bs,hO,hK,hB⟩:=M.ex;have hnd:(T.map Prod.fst).Nodup:=by rw[<-hK];exact hO.keys
 have hlen:Tv.length=T.length:=by have:=aw List.length hK;simpa using this
 by_cases ha:a∈T.map Prod.fst
 ·obtain⟨l,L,hl⟩:=Hx ha;obtain⟨v,hv⟩:=M7 hK hl;have hlT:l<T.length:=(bg.1 hl).1;obtain⟨m1,m2,e,hd,⟨p,hp,hO1⟩,hrest,hclose⟩:=hB.open hlT;have hpv:p=(a,v):=by rw[hv]at hp;exact(di hp).symm
  subst hpv;have hL:(T.map Prod.snd).getD l []=L:=by simp[List.getD,hl]
  rw[hL]at hO1;refine⟨Tv,bs,v,m1,m2,hO,by rw[EG hO.keys hv];rfl,e,hd,by rw[EG hnd hl];exact hO1,λv' L' m1' mM' bs' hd' hO' hM'=>?_⟩;rw[IP hO.keys hv]at hM';rw[IP hnd hl];refine⟨_,bs',hM',by rw[List.map_set,List.map_set,hK],?_⟩;rw[e8];have hlv:l<Tv.length:=ω
  refine hclose _ m1' hd' ⟨(a,v'),by rw[List.getElem?_set_self hlv],?_⟩ λk hk hne x hx=>?_
  ·have:((T.set l (a,L')).map Prod.snd).getD l []=L':=by simp[List.getD,hlT]
   rw[this];exact hO'
  ·obtain⟨p,hp,hx⟩:=hx;refine⟨p,by rw[gc (fw hne)];exact hp,?_⟩
   have:((T.set l (a,L')).map Prod.snd).getD k []=(T.map Prod.snd).getD k []:=by rw[List.map_set];simp only[ge];rw[gc (fw hne)]
   rw[this];exact hx
 ·have haV:a ∉ Tv.map Prod.fst:=by rw[hK];exact ha
  refine⟨Tv,bs,.nl,Hp.emp,mB,hO,by rw[Dl haV];rfl,(Hp.emp_join mB).symm,λg=>.inl rfl,by rw[Dl ha];exact OwnL.nil Bi,λv' L' m1' mM' bs' hd' hO' hM'=>?_⟩;have e1:Dq Tv a v'=Tv++[(a,v')]:=aa haV;have e2:Dq T a L'=T++[(a,L')]:=aa ha;rw[e1]at hM';rw[e2,Hp.join_comm hd'];refine⟨_,bs',hM',by rw[bm,bm,hK];rfl,?_⟩;rw[ag];refine Bag.snoc (hB.mono λl hl x hx=>?_) ⟨(a,v'),by rw[<-hlen];simp,?_⟩ (Hp.disj_symm hd')
  ·obtain⟨p,hp,hx⟩:=hx;refine⟨p,by rw[dw ω];exact hp,?_⟩
   have:((T++[(a,L')]).map Prod.snd).getD l []=(T.map Prod.snd).getD l []:=by rw[bm];simp only[ge];rw[dw (by simpa using hl)]
   rw[this];exact hx
  ·have:((T++[(a,L')]).map Prod.snd).getD T.length []=L':=by simp[List.getD]
   rw[this];exact hO'
theorem OwnMS.look{mB h:Hp}{T:List (Int×List Int)}(M:OwnMS gM mM mB T)(hB:mB.le h):∃(Tv:List (Int×Value)) (bs:List Nat),C4 kN MC gM BS mM Tv bs/\Tv.map Prod.fst=T.map Prod.fst/\(∀l (h1:l<Tv.length) (h2:l<T.length),Tv[l].1=T[l].1/\RdL cI 1 h [] Tv[l].2 T[l].2)/\∀a,RdL cI 1 h [] ((Bz Tv a).getD (.slice none 0 0)) ((Bz T a).getD []):=by
 obtain⟨Tv,bs,hO,hK,hG⟩:=M.ex;have hnd:(T.map Prod.fst).Nodup:=by rw[<-hK];exact hO.keys
 have hat:∀l (h1:l<Tv.length) (h2:l<T.length),Tv[l].1=T[l].1/\RdL cI 1 h [] Tv[l].2 T[l].2:=λl h1 h2=>by
  obtain⟨x,hx,p,hp,hO1⟩:=hG.all l h2;rw[ah h1]at hp;have:=di hp;subst this;have h3:(Tv.map Prod.fst)[l]?=(T.map Prod.fst)[l]?:=by rw[hK]
  rw[gr,gr,ah h1,ah h2]at h3;refine⟨di h3,?_⟩;have h4:(T.map Prod.snd).getD l []=T[l].2:=by simp[List.getD,h2]
  rw[h4]at hO1;exact hO1.rdh (AE hx hB)
 refine⟨Tv,bs,hO,hK,hat,λa=>?_⟩;by_cases ha:a∈T.map Prod.fst
 ·obtain⟨l,L,hl⟩:=Hx ha;obtain⟨v,hv⟩:=M7 hK hl;rw[EG hO.keys hv,EG hnd hl];obtain⟨h1,e1⟩:=bg.1 hv;obtain⟨h2,e2⟩:=bg.1 hl;have:=(hat l h1 h2).2;rw[e1,e2]at this;exact this
 ·rw[Dl ha,Dl (by rw[hK];exact ha)];exact⟨Rd.nil _ _ _,Bi⟩
end
def Ie(U:List Cl)(x:Cl)(i:Nat):Prop:=(MR U (BD x i).1).isSome=false\/(GJ U (BD x i).1).dim≠x.dim-1\/(0<i/\(BD x (i-1)).1=(BD x i).1)
instance (U:List Cl) (x:Cl) (i:Nat):Decidable (Ie U x i):=by unfold Ie;infer_instance
def Yj(x:Cl)(i:Nat):Int:=((x.sd.take i).map Prod.snd).sum
theorem VH{x:Cl}{i:Nat}(h:i<x.sd.length):Yj x (i+1)=Yj x i+x.sd[i].2:=by unfold Yj;rw[ak h,bm,List.sum_append];simp
def Ep(U:List Cl)(x:Cl):Int:=
 if x.dim<0\/8<x.dim then 21
 else if Cb x then 22
 else if ¬∀i,i<x.sd.length->¬Ie U x i then 22
 else if ¬∀i,i<x.sd.length->¬B0 x i then 23
 else if x.dim=1/\Yj x x.sd.length≠0 then 23 else 0
theorem SR(U:List Ce)(c:Int):(Bz (F3 U) c).map Ce.c=MR (U.map Ce.c) c:=by unfold Bz F3 MR;rw[List.find?_map,List.find?_map,Option.map_map,Option.map_map];rfl
theorem Jw(U:List Ce)(c:Int):((Bz (F3 U) c).getD default).c=GJ (U.map Ce.c) c:=by unfold GJ;rw[<-SR];cases Bz (F3 U) c<;>rfl
theorem Pt(U:List Ce)(c:Int):(Bz (F3 U) c).isSome=(MR (U.map Ce.c) c).isSome:=by rw[<-SR];cases Bz (F3 U) c<;>rfl
theorem S8{U:List Ce}{c:Int}{y:Ce}(h:Bz (F3 U) c=some y):y∈U:=by unfold Bz at h;obtain⟨p,hp,rfl⟩:=Option.map_eq_some_iff.1 h;obtain⟨a,ha,rfl⟩:=ad.1 (gn hp);exact ha
theorem Rn{h:Hp}{U:List Ce}(hs:∀a∈U,RdL cD 2 h [] a.v a.c.sd)(c:Int):RdL cD 2 h [] ((Bz (F3 U) c).getD default).v ((Bz (F3 U) c).getD default).c.sd:=by
 cases hg:Bz (F3 U) c with
 | none=>exact⟨Rd.nil _ _ _,E2⟩
 | some y=>exact hs y (S8 hg)
theorem Zr(U:List Ce)(x:Ce)(g:Nat)(hp:Hp)(hT:RdT hp g U)(hX:RdL cD 2 hp [] x.v x.c.sd)(hd:BS x.c.dim)(hn:x.c.sd.length<=1000000)(hi:∀s∈x.c.sd,BS s.1/\BS s.2):FnT Tryz.prog 76 #[.pointer (some ⟨g,0,none⟩),.agg (cC x).toArray] hp [] (λr _ _=>r=.int .i64 (Ep (U.map Ce.c) x.c)):=by
 have o2:=hX.rd.one;show FnT _ _ #[.pt g,.agg #[.w x.c.id,.w x.c.dim,x.v]] _ _ _;refine Au func76 ntmps76 Y Y (λw0 hw0=>?_);simp only[A6];refine Aq (AP [_,_,_] Y Y (by rfl) Y Y Y (λg3=>Qm Y (Am (Ax λh1 l1 hS=>?_))));have hT:=hT.up l1;have hX:=hX.up l1;have hA:=Seg.all hS;have a0:∀ms,Cell h1 ms (⟨g3,0,none⟩:Addr) (.w x.c.id):=λms=>hA 0 _ Y ms;have a1:∀ms,Cell h1 ms (⟨g3,1,none⟩:Addr) (.w x.c.dim):=λms=>hA 1 _ Y ms;have a2:∀ms,Cell h1 ms (⟨g3,2,none⟩:Addr) x.v:=λms=>hA 2 _ Y ms;have hd1:=hd.1;have hd2:=hd.2;refine Aq (Qf BI Y (Ql Y Cf (a2 _) (Qx (As hX.rd.any Y Cf Y) Y (Qm Y (Am ?_)))));refine Bg (λsl h' ms'=>sl=[(0,.pt g),(3,.pt g3)]/\h1=h'/\ms'=[]/\(0<=x.c.dim/\x.c.dim<=8)/\¬Cb x.c) ?_ (λs h ms hI=>?_)
 ·refine Ag (Aq (Qf BZ Y (Ql Y U3 (a1 _) (Qm Y (Qm Y ?_)))));refine AL (t:=20) Y (λq1=>?_) (λq1=>?_)
  ·refine Qk Y (Qk Y (Qk Y (Qm Y (Qm Y (Am (A5 Y (Aq (Qm Y (Am (An (Aj (Ae ?_))))))))))));exact Ap Y Y (by unfold Ep;rw[ac (.inl q1)])
  ·refine Qg (oF BZ Y) Y (Qg (oL Y U3 (a1 _)) Y (Qg (Ct Y Y Y) Y (Qm Y (Qm Y (Am ?_)))));refine Ao Y (λq2=>?_) (λq2=>?_)
   ·refine Ac (Ab (Qm Y (Am (An (Aj (Ae ?_))))));exact Ap Y Y (by unfold Ep;rw[ac (.inr q2)])
   ·have hdb:0<=x.c.dim/\x.c.dim<=8:=ω
    have e21:¬(x.c.dim<0\/8<x.c.dim):=ω
    have e22:Cb x.c->Ep (U.map Ce.c) x.c=22:=λh=>by unfold Ep;rw[aa e21,ac h]
    refine Aq (Qf BZ Y (Ql Y U3 (a1 _) (Qm Y (Qm Y ?_))));refine AL (t:=29) Y (λr0=>?_) (λr0=>?_)
    ·refine Qg (Ar Y Y) Y (Qg (Ct Y Y Y) Y (Qm Y (Qm Y ?_)));refine AL (t:=33) Y (λr1=>?_) (λr1=>?_)
     ·refine Qk Y (Qk Y (Qk Y (Qk Y (A3 Y Y Y Y Y Y (A3 Y Y Y Y Y Y (Qk Y (Qm Y (Qm Y (Qk Y (Qk Y (Qk Y (Qk Y (A3 Y Y Y Y Y Y (A3 Y Y Y Y Y Y (A3 Y Y Y Y Y Y (A3 Y Y Y Y Y Y (A3 Y Y Y Y Y Y (A3 Y Y Y Y Y Y (Qk Y (Qm Y (Qm Y (Am (A5 Y (Aq (Qm Y (Am (An (Aj (Ae ?_)))))))))))))))))))))))))))));exact Ap Y Y (by rw[e22 (.inl ⟨r0,ω⟩)])
     ·refine Qg (oF BZ Y) Y (Qg (oL Y U3 (a1 _)) Y (Qg (CO Y Y Y) Y (Qg (Ar Y Y) Y (AL (t:=37) Y (λhs=>jt hs ω) (λhs=>Qk Y (Qk Y (Qg (Ch Y Y Y) Y (Qm Y (Qm Y (Qg (oF BZ Y) Y (Qg (oL Y U3 (a1 _)) Y (Qg (Ct Y Y Y) Y (Qg (Ar Y Y) Y (AL (t:=46) Y (λhs=>jt hs ω) (λhs=>Qk Y (Qk Y (Qk Y (A3 Y Y Y Y Y Y (A3 Y Y Y Y Y Y (Qk Y (Qg (Ch Y Y Y) Y (Qm Y (Qm Y (Am (AQ Y (Ah (Ai ?_)))))))))))))))))))))))))));exact Az _ ⟨Y,Y,Y,hdb,λq=>by unfold Cb at q;omega⟩ Qs
    ·refine Qk Y (Qk Y (Qm Y (Qm Y (Qg (oF BZ Y) Y (Qg (oL Y U3 (a1 _)) Y (Qg (CO Y Y Y) Y (Qg (Ar Y Y) Y ?_)))))));refine AL (t:=37) Y (λr2=>?_) (λr2=>?_)
     ·refine Qg (Ar Y Y) Y (Qg (B8 Y Y Y) Y (Qg (Cp Y Y Y) Y (Qm Y (Qm Y ?_))));refine AL (t:=42) Y (λr3=>?_) (λr3=>?_)
      ·refine Qk Y (Qk Y (Qk Y (Qk Y (A3 Y Y Y Y Y Y (A3 Y Y Y Y Y Y (A3 Y Y Y Y Y Y (A3 Y Y Y Y Y Y (A3 Y Y Y Y Y Y (A3 Y Y Y Y Y Y (Qk Y (Qm Y (Qm Y (Am (A5 Y (Aq (Qm Y (Am (An (Aj (Ae ?_))))))))))))))))))));exact Ap Y Y (by rw[e22 (.inr (.inl ⟨r2,ω⟩))])
      ·refine Qg (oF BZ Y) Y (Qg (oL Y U3 (a1 _)) Y (Qg (Ct Y Y Y) Y (Qg (Ar Y Y) Y (AL (t:=46) Y (λhs=>jt hs ω) (λhs=>Qk Y (Qk Y (Qk Y (A3 Y Y Y Y Y Y (A3 Y Y Y Y Y Y (Qk Y (Qg (Ch Y Y Y) Y (Qm Y (Qm Y (Am (AQ Y (Ah (Ai ?_)))))))))))))))));exact Az _ ⟨Y,Y,Y,hdb,λq=>by unfold Cb at q;omega⟩ Qs
     ·refine Qk Y (Qk Y (Qg (Ch Y Y Y) Y (Qm Y (Qm Y (Qg (oF BZ Y) Y (Qg (oL Y U3 (a1 _)) Y (Qg (Ct Y Y Y) Y (Qg (Ar Y Y) Y ?_))))))));refine AL (t:=46) Y (λhs=>?_) (λhs=>jt ω hs);refine Qg (Ar Y Y) Y (Qg (DA Y Y Y) Y (Qg (Ar Y Y) Y ?_));refine AL (t:=49) Y (λr4=>?_) (λr4=>?_)
      ·refine Qk Y (Qk Y (Qg (Cp Y Y Y) Y (Qg (Cp Y Y Y) Y (Qm Y (Qm Y (Am (A5 Y (Aq (Qm Y (Am (An (Aj (Ae ?_)))))))))))));exact Ap Y Y (by rw[e22 (.inr (.inr ⟨ω,ω⟩))])
      ·refine Qg (Ar Y Y) Y (Qg (Ct Y Y Y) Y (Qg (Ch Y Y Y) Y (Qg (Cp Y Y Y) Y (Qm Y (Qm Y (Am ?_))))));refine Ao Y (λr5=>?_) (λr5=>?_)
       ·refine Ac (Ab (Qm Y (Am (An (Aj (Ae ?_))))));exact Ap Y Y (by rw[e22 (.inr (.inr ⟨ω,ω⟩))])
       ·refine Ah (Ai ?_);exact Az _ ⟨Y,Y,Y,hdb,λq=>by unfold Cb at q;omega⟩ Qs
 ·obtain⟨rfl,rfl,rfl,hdb,hnb⟩:=hI;have e21:¬(x.c.dim<0\/8<x.c.dim):=ω
  have e22:∀i,i<x.c.sd.length->Ie (U.map Ce.c) x.c i->Ep (U.map Ce.c) x.c=22:=λi h q=>by unfold Ep;rw[aa e21,aa hnb,ac λw=>w i h q]
  obtain⟨gm,mM,bs,vids,hSg,hM,lm,hV,hsU⟩:=hT;refine Bg (λsl h' ms'=>sl=[(0,.pt g),(3,.pt g3)]/\h1.le h'/\ms'=[]/\∀i,i<x.c.sd.length->¬Ie (U.map Ce.c) x.c i) ?_ (λs h ms hI=>?_)
  ·refine Ac (Ab (Qf BI Y (Ql Y Cf (a2 _) (Qx (As hX.rd.any Y Cf Y) Y (Qm Y (Am (Ag ?_)))))))
   refine Ay (λq sl h' ms'=>∃(i:Nat),q=x.c.sd.length-i/\sl=[(0,.pt g),(3,.pt g3),(56,x.v),(57,.w x.c.sd.length),(58,.w i)]/\h1.le h'/\ms'=[]/\i<=x.c.sd.length/\∀j,j<i->¬Ie (U.map Ce.c) x.c j)
    (x.c.sd.length-0) _ ⟨0,rfl,rfl,Da,rfl,ω,λj h=>ω⟩ Qs ?_
   rintro q sl h2 ms' ⟨i,rfl,rfl,l2,rfl,hil,hno⟩;have hX:=hX.up l2;refine Aq (Qm Y (Am (Ac ?_)));refine Ao Y (λhlt=>?_) (λhlt=>?_)
   ·have hil:i<x.c.sd.length:=ω
    obtain⟨s,hs⟩:∃s,x.c.sd[i]=s:=⟨_,Y⟩
    have hsA:BD x.c i=s:=by rw[By hil,hs]
    have hsI:=hi s (by rw[<-hs];exact ae hil);have hsx:∀ms,Seg h2 ms ((AG x.v).add (i*2)) (cD s):=λms=>by rw[<-hs];exact(hX.any (ms:=ms)).seg hil
    refine Ah (Ad (Ac (Ag (Aq (Qm Y (Qx (BN (i) hX.rd.any Y Cf AS Y Y) Y (Qx (oG Y Eh AS (hsx _)) Y (Cx [.w 0,.w 0] Y AS Y Y (λg7=>Qm Y ?_)))))))));refine Sa 0 [_,_] AS Y (by simp[Value.oneCell']) ?_;refine Am (Ax λh3 l3 hS7=>?_);have hX:=hX.up l3;have l13:=AE l2 l3;have e7:=Seg.all hS7;have e70:∀ms,Cell h3 ms (⟨g7,0,none⟩:Addr) (.w s.1):=λms=>e7 0 _ Y ms;have eT:∀ms,Cell h3 ms (⟨g,0,none⟩:Addr) (.map (some gm)):=λms=>(Seg.all hSg 0 _ Y ms).le l13;obtain⟨bb,hbb⟩:∃bb,(Bz (F3 U) s.1).isSome=bb:=⟨_,Y⟩
    obtain⟨y,hy⟩:∃y,(Bz (F3 U) s.1).getD default=y:=⟨_,Y⟩
    have hyr:=Rn hsU s.1;rw[hy]at hyr;have oyv:=hyr.rd.one;have hbb':(MR (U.map Ce.c) s.1).isSome=bb:=by rw[<-Pt];exact hbb
    have hyc:GJ (U.map Ce.c) s.1=y.c:=by rw[<-Jw,hy]
    refine Bg (λsl h' ms'=>∃g8:Nat,sl=[(0,.pt g),(3,.pt g3),(6,.w i),(7,.pt g7),(8,.pt g8),(9,.bool bb),(56,x.v),(57,.w x.c.sd.length),(58,.w i)]/\h3=h'/\ms'=[Bh g8 52 (cC y)]) ?_ (λs h ms hI=>?_)
    ·refine BK (n:=13) (bs:=[true,true,true,true,true,true,true,true,true,true,false,false,false]) [true,true,true,true,true,true,true,true,true,true] CT κ κ Y Y (Qq Y (Qq Y (QF FC Y (QL Y Hf (eT _) (QF Cm Y (QL Y U3 (e70 _) (Qp Y (Fz (V:=vC) (z:=(default:Ce)) s.1 hy hbb BA hM (AE lm l13) Y Hf LZ Y Y hsI.1) (Qq Y (Qq Y (Qq Y ?_))))))))));unfold Fm;simp only[bl,ay];refine Qo 10 Y (Cx [.w 0,.w 0,.nl] Y AI Y Y (λg8=>Qw (Qo 11 Y ?_)));refine Sa 0 [_,_,_] AI Y (by simp[o2,oyv]) ?_;refine Qw (Qo 12 Y (Qm Y (Qw (Qe ?_))));exact Az _ ⟨g8,Y,Y,Y⟩ Qs
    ·obtain⟨g8,rfl,rfl,rfl⟩:=hI;refine Ax λh4 l4 hS8=>?_;have hX:=hX.up l4;have e70:∀ms,Cell h4 ms (⟨g7,0,none⟩:Addr) (.w s.1):=λms=>(e70 ms).le l4;have e81:∀ms,Cell h4 ms (⟨g8,1,none⟩:Addr) (.w y.c.dim):=λms=>Seg.all hS8 1 _ Y ms;have l14:=AE l13 l4;have b1:∀ms,Cell h4 ms (⟨g3,1,none⟩:Addr) (.w x.c.dim):=λms=>(a1 ms).le l14;have b2:∀ms,Cell h4 ms (⟨g3,2,none⟩:Addr) x.v:=λms=>(a2 ms).le l14
     have hbad:Ie (U.map Ce.c) x.c i<->bb=false\/y.c.dim≠x.c.dim-1\/(0<i/\(BD x.c (i-1)).1=s.1):=by unfold Ie;rw[hsA,hbb',hyc]
     have hstep:¬Ie (U.map Ce.c) x.c i->∀j,j<i+1->¬Ie (U.map Ce.c) x.c j:=λh j hj=>by
      rcases (ω:j<i\/j=i) with h1|rfl
      ·exact hno j h1
      ·exact h
     refine Ac (Bc 23 CT κ Y (Wm Y (Wm Y (Wm Y ?_))));refine Vb (t:=75) Y (λc1=>?_) (λc1=>?_)
     ·have hbf:bb=false:=by cases bb<;>simp at c1 ⊢
      refine AC Y Y Y Y Y (AC Y Y Y Y Y (AC Y Y Y Y Y (AC Y Y Y Y Y (AC Y Y Y Y Y (AC Y Y Y Y Y (Wm Y (Wm Y (AC Y Y Y Y Y (AC Y Y Y Y Y (AC Y Y Y Y Y (AY Y Y Y Y (AY Y Y Y Y (AY Y Y Y Y (AY Y Y Y Y (AY Y Y Y Y (AY Y Y Y Y (AY Y Y Y Y (AY Y Y Y Y (AY Y Y Y Y (A7 (A3 Y Y Y Y Y Y (Qk Y (Qm Y (Am (A5 Y (Aq (Qm Y (Am (An (Aj (Ae (Ae (Aj (Ae ?_))))))))))))))))))))))))))))))))));exact Ap Y Y (by rw[e22 i hil (hbad.2 (.inl hbf))])
     ·have hbt:bb=true:=by cases bb<;>simp at c1 ⊢
      refine AJ (oF BZ Y) Y Y Y Y (AJ (oL Y U3 (e81 _)) Y Y Y Y (AJ (oF BZ Y) Y Y Y Y (AJ (oL Y U3 (b1 _)) Y Y Y Y (AJ (oS Y) Y Y Y Y (AJ (B8 Y Y Y) Y Y Y Y (Wm Y (Wm Y ?_)))))));refine CC (t:=83) Y (λc2=>?_) (λc2=>?_)
      ·refine AC Y Y Y Y Y (AC Y Y Y Y Y (AC Y Y Y Y Y (AY Y Y Y Y (AY Y Y Y Y (AY Y Y Y Y (AY Y Y Y Y (AY Y Y Y Y (AY Y Y Y Y (AY Y Y Y Y (AY Y Y Y Y (AY Y Y Y Y (A7 (A3 Y Y Y Y Y Y (Qk Y (Qm Y (Am (A5 Y (Aq (Qm Y (Am (An (Aj (Ae (Ae (Aj (Ae ?_))))))))))))))))))))))))));exact Ap Y Y (by rw[e22 i hil (hbad.2 (.inr (.inl c2)))])
      ·refine AJ (Ar Y Y) Y Y Y Y (AJ (Ct Y Y Y) Y Y Y Y (AJ (Ar Y Y) Y Y Y Y ?_));refine CC (t:=86) Y (λc3=>?_) (λc3=>?_)
       ·have hi1:i-1<x.c.sd.length:=ω
        obtain⟨s',hs'⟩:∃s',x.c.sd[i-1]=s':=⟨_,Y⟩
        have hsA':BD x.c (i-1)=s':=by rw[By hi1,hs']
        have r0:∀ms,Cell h4 ms ((AG x.v).add ((i-1)*2)) (.w s'.1):=λms=>by rw[<-hs'];exact(hX.any (ms:=ms)).cell0 hi1 Y
        refine AJ (oF BI Y) Y Y Y Y (AJ (oL Y Cf (b2 _)) Y Y Y Y (AJ (Ar Y Y) Y Y Y Y (AJ (oS Y) Y Y Y Y (AJ (BN (i-1) hX.rd.any Y Cf AS Y Y) Y Y Y Y (AJ (oF Cm Y) Y Y Y Y (AJ (oL Y U3 (r0 _)) Y Y Y Y (AJ (oF Cm Y) Y Y Y Y (AJ (oL Y U3 (e70 _)) Y Y Y Y (A7 (Qg (CO Y Y Y) Y (Qg (Cp Y Y Y) Y (Qm Y (Am ?_)))))))))))));refine Ao Y (λc4=>?_) (λc4=>?_)
        ·refine Ac (Ab (Qm Y (Am (An (Aj (Ae (Ae (Aj (Ae ?_)))))))));exact Ap Y Y (by rw[e22 i hil (hbad.2 (.inr (.inr ⟨ω,by rw[hsA'];exact c4⟩)))])
        ·have hok:¬Ie (U.map Ce.c) x.c i:=λq=>by
          rcases hbad.1 q with q|q|⟨_,q⟩
          ·rw[hbt]at q;cases q
          ·exact c2 q
          ·rw[hsA']at q;exact c4 q
         refine Ah (Ai (Ad (Ab (Qx (oA Y) Y (Qm Y (Ak ?_))))));exact Al (x.c.sd.length-(i+1)) _ ω ⟨i+1,Y,Y,l14,Y,ω,hstep hok⟩ Qs
       ·have hok:¬Ie (U.map Ce.c) x.c i:=λq=>by
         rcases hbad.1 q with q|q|⟨q,_⟩
         ·rw[hbt]at q;cases q
         ·exact c2 q
         ·omega
        refine AC Y Y Y Y Y (AC Y Y Y Y Y (AC Y Y Y Y Y (AC Y Y Y Y Y (AC Y Y Y Y Y (AC Y Y Y Y Y (AC Y Y Y Y Y (AC Y Y Y Y Y (AC Y Y Y Y Y (A7 (Qk Y (Qg (Ch Y Y Y) Y (Qm Y (Am (AQ Y (Ah (Ai (Ad (Ab (Qx (oA Y) Y (Qm Y (Ak ?_)))))))))))))))))))));exact Al (x.c.sd.length-(i+1)) _ ω ⟨i+1,Y,Y,l14,Y,ω,hstep hok⟩ Qs
   ·obtain rfl:i=x.c.sd.length:=ω
    refine Av (Aa (Aa (Af ?_)));exact Az _ ⟨Y,l2,Y,hno⟩ Qs
  ·obtain⟨rfl,l2,rfl,hno⟩:=hI;have hX:=hX.up l2;have hall:¬¬∀i,i<x.c.sd.length->¬Ie (U.map Ce.c) x.c i:=λq=>q hno
   have e23:∀i,i<x.c.sd.length->B0 x.c i->Ep (U.map Ce.c) x.c=23:=λi h q=>by unfold Ep;rw[aa e21,aa hnb,aa hall,ac λw=>w i h q]
   have b1:∀ms,Cell h ms (⟨g3,1,none⟩:Addr) (.w x.c.dim):=λms=>(a1 ms).le l2;have b2:∀ms,Cell h ms (⟨g3,2,none⟩:Addr) x.v:=λms=>(a2 ms).le l2;refine Aq (Qm Y (Am (Ac (Aq (Qf BI Y (Ql Y Cf (b2 _) (Qx (As hX.rd.any Y Cf Y) Y (Qm Y (Am (Ag ?_))))))))))
   refine Ay (λq sl h' ms'=>∃(i:Nat),q=x.c.sd.length-i/\sl=[(3,.pt g3),(10,.w (Yj x.c i)),(101,x.v),(102,.w x.c.sd.length),(103,.w i)]/\h.le h'/\ms'=[]/\i<=x.c.sd.length/\(-(i:Int)<=Yj x.c i/\Yj x.c i<=i)/\∀j,j<i->¬B0 x.c j)
    (x.c.sd.length-0) _ ⟨0,rfl,rfl,Da,rfl,ω,by simp[Yj],λj h=>ω⟩ Qs ?_
   rintro q sl h3 ms' ⟨i,rfl,rfl,l3,rfl,hil,hsb,hns⟩;have hX:=hX.up l3;have b1:∀ms,Cell h3 ms (⟨g3,1,none⟩:Addr) (.w x.c.dim):=λms=>(b1 ms).le l3;refine Aq (Qm Y (Am (Ac ?_)));refine Ao Y (λhlt=>?_) (λhlt=>?_)
   ·have hil:i<x.c.sd.length:=ω
    obtain⟨s,hs⟩:∃s,x.c.sd[i]=s:=⟨_,Y⟩
    have hsA:BD x.c i=s:=by rw[By hil,hs]
    have hsI:=(hi s (by rw[<-hs];exact ae hil)).2;have hsx:∀ms,Seg h3 ms ((AG x.v).add (i*2)) (cD s):=λms=>by rw[<-hs];exact(hX.any (ms:=ms)).seg hil
    have hss:=VH hil;rw[hs]at hss;have hbs:B0 x.c i<->s.2≠1/\s.2≠-1:=by unfold B0;rw[hsA]
    have hstep:¬B0 x.c i->∀j,j<i+1->¬B0 x.c j:=λh j hj=>by
     rcases (ω:j<i\/j=i) with h1|rfl
     ·exact hns j h1
     ·exact h
    refine Ah (Ad (Ac (Ag (Aq (Qx (BN (i) hX.rd.any Y Cf AS Y Y) Y (Qx (oG Y Eh AS (hsx _)) Y (Cx [.w 0,.w 0] Y AS Y Y (λg12=>?_))))))));refine Sa 0 [_,_] AS Y (by simp[Value.oneCell']) ?_;refine Am (Ax λh4 l4 hS12=>?_);have e12:∀ms,Cell h4 ms (⟨g12,1,none⟩:Addr) (.w s.2):=λms=>Seg.all hS12 1 _ Y ms;refine Ac (Aq (Qf Dt Y (Ql Y U3 (e12 _) (Qm Y (Qm Y ?_)))));refine AL (t:=110) Y (λc1=>?_) (λc1=>?_)
    ·refine Qg (oF Dt Y) Y (Qg (oL Y U3 (e12 _)) Y (Qg (B8 Y Y Y) Y (Qm Y (Am ?_))));refine Ao Y (λc2=>?_) (λc2=>?_)
     ·refine Ac (Ab (Qm Y (Am (An (Ae (Aj (Ae (Ae (Aj (Ae ?_))))))))));exact Ap Y Y (by rw[e23 i hil (hbs.2 ⟨c1,c2⟩)])
     ·have hok:¬B0 x.c i:=λq=>c2 (hbs.1 q).2;have h2:s.2=-1:=ω
      refine Ah (Ad (Ab (Qm Y (Qf Dt Y (Ql Y U3 (e12 _) (Qx (oA Y) Y (Qm Y (Ak (Ai (Ad (Ab (Qx (oA Y) Y (Qm Y (Ak ?_))))))))))))));exact Al (x.c.sd.length-(i+1)) _ ω ⟨i+1,Y,by rw[hss],AE l3 l4,rfl,ω,by rw[hss];omega,hstep hok⟩ Qs
    ·have h2:s.2=1:=ω
     have hok:¬B0 x.c i:=λq=>(hbs.1 q).1 h2;refine Qk Y (Qk Y (Qk Y (Qm Y (Am (AQ Y (Ah (Ad (Ab (Qm Y (Qf Dt Y (Ql Y U3 (e12 _) (Qx (oA Y) Y (Qm Y (Ak (Ai (Ad (Ab (Qx (oA Y) Y (Qm Y (Ak ?_))))))))))))))))))));exact Al (x.c.sd.length-(i+1)) _ ω ⟨i+1,Y,by rw[hss],AE l3 l4,rfl,ω,by rw[hss];omega,hstep hok⟩ Qs
   ·obtain rfl:i=x.c.sd.length:=ω
    have hs0:¬¬∀i,i<x.c.sd.length->¬B0 x.c i:=λq=>q hns;refine Av (Aa (Aa (Af (Ad (Ac (Aq (Qf BZ Y (Ql Y U3 (b1 _) (Qm Y (Qm Y ?_))))))))));refine AL (t:=123) Y (λc1=>?_) (λc1=>?_)
    ·refine Qg (Ar Y Y) Y (Qg (B8 Y Y Y) Y (Qm Y (Am ?_)));refine Ao Y (λc2=>?_) (λc2=>?_)
     ·refine Ac (Ab (Qm Y (Am (An (Ae ?_)))));exact Ap Y Y (by unfold Ep;rw[aa e21,aa hnb,aa hall,aa hs0,ac ⟨c1,c2⟩])
     ·refine Ah (Ad (Aq (Qm Y (Am (An ?_)))));exact Ap Y Y (by unfold Ep;rw[aa e21,aa hnb,aa hall,aa hs0,aa λq=>c2 q.2])
    ·refine Qk Y (Qk Y (Qm Y (Am (AQ Y (Ah (Ad (Aq (Qm Y (Am (An ?_))))))))));exact Ap Y Y (by unfold Ep;rw[aa e21,aa hnb,aa hall,aa hs0,aa λq=>c1 q.1])
section
def VI(U:List Cl)(x:Cl)(i:Nat):Gy:=(GJ U (BD x i).1).sd.map λr=>((i:Int),r.1,(BD x i).2*r.2)
def J4(U:List Cl)(x:Cl)(m:Nat):Gy:=(range m).flatMap (VI U x)
theorem QG(U:List Cl)(x:Cl)(m:Nat):J4 U x (m+1)=J4 U x m++VI U x m:=by unfold J4;rw[jp,fg];simp
theorem NI(U:List Cl)(x:Cl)(h:∀i,i<x.sd.length->(GJ U (BD x i).1).sd.length<=64):∀m,m<=x.sd.length->(J4 U x m).length<=64*m
 | 0,_=>by simp[J4]
 | m+1,hm=>by have:=NI U x h m ω;have:=h m ω;rw[QG,ag];unfold VI;rw[af];omega
def Dd(E:Gy):List (Int×Int):=E.foldl (λT e=>Dq T e.2.1 ((Bz T e.2.1).getD 0+e.2.2)) []
def Gf(E:Gy):List (Int×List Int):=E.foldl (λT e=>Dq T e.2.1 ((Bz T e.2.1).getD []++[e.1])) []
theorem G3(E:Gy)(e:Int×Int×Int):Dd (E++[e])=Dq (Dd E) e.2.1 ((Bz (Dd E) e.2.1).getD 0+e.2.2):=by unfold Dd;rw[foldl_append];rfl
theorem Gx(E:Gy)(e:Int×Int×Int):Gf (E++[e])=Dq (Gf E) e.2.1 ((Bz (Gf E) e.2.1).getD []++[e.1]):=by unfold Gf;rw[foldl_append];rfl
theorem DP{α:Type}{P:List α->Prop}(h0:P [])(h1:∀l a,P l->P (l++[a]))(l:List α):P l:=by
 have:∀r:List α,P r.reverse:=λr=>by
  induction r with
  | nil=>exact h0
  | cons a r ih=>rw[List.reverse_cons];exact h1 _ _ ih
 have:=this l.reverse
 rwa [List.reverse_reverse]at this
theorem JW(c:Int):∀E:Gy,(Bz (Dd E) c).getD 0=EF E c:=DP rfl λE e ih=>by
 rw[G3,Di,Np];by_cases h:c=e.2.1
 ·subst h;rw[ac rfl,ac rfl,<-ih];rfl
 ·rw[aa h,aa (λq=>h q.symm),ih,gl]
theorem Fj{ν:Type}(T:List (Int×ν))(a:Int)(x:ν)(c:Int):c∈(Dq T a x).map Prod.fst<->c=a\/c∈T.map Prod.fst:=by
 unfold Dq;split
 ·rename_i h
  have e:(T.map λp=>if p.1=a then(a,x) else p).map Prod.fst=T.map Prod.fst:=by
   rw[fk];refine fc λp _=>?_;show(if p.1=a then(a,x) else p).1=p.1;by_cases q:p.1=a
   ·rw[ac q];exact q.symm
   ·rw[aa q]
  rw[e];exact⟨.inr,λq=>by rcases q with rfl|q;exact h;exact q⟩
 ·rw[bm,mem_append];simp only[fl,List.map_nil,mem_singleton];exact⟨λq=>q.symm,λq=>q.symm⟩
theorem L3(c:Int):∀E:Gy,c∈(Dd E).map Prod.fst<->∃e∈E,e.2.1=c:=DP ⟨λh=>by simp[Dd]at h,λ⟨e,he,_⟩=>by cases he⟩ λE e ih=>by
 rw[G3,Fj,ih];constructor
 ·rintro(rfl|⟨e',he,h⟩)
  ·exact⟨e,fq _ Mh,Y⟩
  ·exact⟨e',fe _ he,h⟩
 ·rintro⟨e',he,h⟩;rcases bf.1 he with he|he
  ·exact .inr ⟨e',he,h⟩
  ·rw[ao.1 he]at h;exact .inl h.symm
theorem TO(c:Int):∀E:Gy,c∈(Gf E).map Prod.fst<->∃e∈E,e.2.1=c:=DP ⟨λh=>by simp[Gf]at h,λ⟨e,he,_⟩=>by cases he⟩ λE e ih=>by
 rw[Gx,Fj,ih];constructor
 ·rintro(rfl|⟨e',he,h⟩)
  ·exact⟨e,fq _ Mh,Y⟩
  ·exact⟨e',fe _ he,h⟩
 ·rintro⟨e',he,h⟩;rcases bf.1 he with he|he
  ·exact .inr ⟨e',he,h⟩
  ·rw[ao.1 he]at h;exact .inl h.symm
theorem P7(c:Int):∀E:Gy,(Bz (Gf E) c).getD []=(E.filter λe=>decide (e.2.1=c)).map λe=>e.1:=DP rfl λE e ih=>by
 rw[Gx,Di,List.filter_append,bm,<-ih];by_cases h:c=e.2.1
 ·subst h;rw[ac rfl];simp
 ·rw[aa h];simp[fw h]
theorem Is(E:Gy)(c:Int):FL E c=((E.filter λe=>decide (e.2.1=c)).length:Int):=by
 induction E with
 | nil=>rfl
 | cons e E ih=>
  unfold FL at *;rw[fl,sum_cons,ih,List.filter_cons];by_cases h:e.2.1=c
  ·simp[h];omega
  ·simp[h]
theorem AaQ(E:Gy)(c:Int)(h:∀e∈E,e.2.2=1\/e.2.2=-1):-(E.length:Int)<=EF E c/\EF E c<=E.length:=by
 induction E with
 | nil=>exact⟨Int.le_refl _,Int.le_refl _⟩
 | cons e E ih=>
  have h1:=ih λe he=>h e (bh _ he);have h2:=h e Mh;unfold EF at *;rw[fl,sum_cons,ef];split<;>omega
theorem SX(E:Gy):((Dd E).map Prod.fst).Nodup:=by refine DP (P:=λE=>((Dd E).map Prod.fst).Nodup) (by simp[Dd]) (λE e ih=>?_) E;rw[G3];exact HT ih _ _
theorem Abn(E:Gy):((Gf E).map Prod.fst).Nodup:=by refine DP (P:=λE=>((Gf E).map Prod.fst).Nodup) (by simp[Gf]) (λE e ih=>?_) E;rw[Gx];exact HT ih _ _
def Fw(T:List (Int×List Int))(a b:Int):List (Int×List Int):=Dq T a ((Bz T a).getD []++[b])
def Fi(P:List (Int×Int)):List (Int×List Int):=P.foldl (λT p=>Fw (Fw T p.1 p.2) p.2 p.1) []
theorem IA(P:List (Int×Int))(p:Int×Int):Fi (P++[p])=Fw (Fw (Fi P) p.1 p.2) p.2 p.1:=by unfold Fi;rw[foldl_append];rfl
theorem MK(T:List (Int×List Int))(a b c k:Int):k∈(Bz (Fw T a b) c).getD []<->k∈(Bz T c).getD []\/(c=a/\k=b):=by
 unfold Fw;rw[Di];by_cases h:c=a
 ·subst h;simp
 ·simp[h]
theorem UD(c k:Int):∀P:List (Int×Int),k∈(Bz (Fi P) c).getD []<->(c,k)∈P\/(k,c)∈P:=DP ⟨λh=>by simp[Fi,Bz]at h,λh=>by simp at h⟩ λP p ih=>by
 rw[IA,MK,MK,ih,mem_append,mem_append,mem_singleton,mem_singleton];constructor
 ·rintro((h|⟨rfl,rfl⟩)|⟨rfl,rfl⟩)
  ·rcases h with h|h
   ·exact .inl (.inl h)
   ·exact .inr (.inl h)
  ·exact .inl (.inr Y)
  ·exact .inr (.inr Y)
 ·rintro((h|rfl)|(h|rfl))
  ·exact .inl (.inl (.inl h))
  ·exact .inl (.inr ⟨Y,Y⟩)
  ·exact .inl (.inl (.inr h))
  ·exact .inr ⟨Y,Y⟩
theorem JR(T:List (Int×List Int))(a b:Int)(B:Nat)(h:∀c,((Bz T c).getD []).length<=B):∀c,((Bz (Fw T a b) c).getD []).length<=B+1:=λc=>by
 unfold Fw;rw[Di];have h1:=h c;by_cases e:c=a
 ·subst e;simp;omega
 ·rw[aa e];omega
theorem M6:∀P:List (Int×Int),∀c,((Bz (Fi P) c).getD []).length<=2*P.length:=DP (λc=>by simp[Fi,Bz]) λP p ih c=>by rw[IA,ag,ab];have:=JR _ p.2 p.1 _ (JR _ p.1 p.2 _ ih) c;omega
inductive Rch (J:Int->List Int):Int->Int->Prop
 | refl (a:Int):Rch J a a
 | step {a b k:Int}:Rch J a b->k∈J b->Rch J a k
theorem Rch.trans{J:Int->List Int}{a b c:Int}(h:Rch J a b)(h':Rch J b c):Rch J a c:=by
 induction h' with
 | refl=>exact h
 | step _ h1 ih=>exact .step ih h1
theorem Yw{E:Gy}(h2:∀e∈E,FL E e.2.1=2){J:Int->List Int}(hJ:∀a k,k∈J a<->∃c p q,(E.filter λe=>decide (e.2.1=c)).map (λe=>e.1)=[p,q]/\((a=p/\k=q)\/(a=q/\k=p)))(a b:Int):Con E a b<->Rch J a b:=by
 have hin:∀{c p:Int} {l},(E.filter λe=>decide (e.2.1=c)).map (λe=>e.1)=l->p∈l->∃w,(p,c,w)∈E:=λ{c p l} e hp=>by rw[<-e]at hp;obtain⟨x,hx,rfl⟩:=ad.1 hp;obtain⟨h3,h4⟩:=br.1 hx;have h4:=bz h4;exact⟨x.2.2,by rw[<-h4];exact h3⟩
 constructor
 ·intro h
  induction h with
  | refl=>exact .refl _
  | @step b d c w w' _ h3 h4 ih=>
   have hc:=h2 _ h3;rw[Is]at hc;obtain⟨L,hL⟩:∃L,(E.filter λe=>decide (e.2.1=c)).map (λe=>e.1)=L:=⟨_,Y⟩
   have hl:L.length=2:=by rw[<-hL,af];have hc:((E.filter λe=>decide (e.2.1=c)).length:Int)=2:=hc;omega
   match L,hl with
   | [p,q],_=>
    have m1:b∈[p,q]:=by rw[<-hL];exact ad.2 ⟨_,br.2 ⟨h3,ai Y⟩,Y⟩
    have m2:d∈[p,q]:=by rw[<-hL];exact ad.2 ⟨_,br.2 ⟨h4,ai Y⟩,Y⟩
    simp only[aq,List.not_mem_nil,jf]at m1 m2;by_cases e:b=d
    ·subst e;exact ih
    ·refine .step ih ((hJ b d).2 ⟨c,p,q,hL,?_⟩);rcases m1 with m1|m1<;>rcases m2 with m2|m2
     ·exact jt (m1.trans m2.symm) e
     ·exact .inl ⟨m1,m2⟩
     ·exact .inr ⟨m1,m2⟩
     ·exact jt (m1.trans m2.symm) e
 ·intro h
  induction h with
  | refl=>exact .refl _
  | @step b k _ h3 ih=>
   obtain⟨c,p,q,hL,h4⟩:=(hJ b k).1 h3;obtain⟨w1,m1⟩:=hin hL Mh;obtain⟨w2,m2⟩:=hin hL (bh _ Mh);rcases h4 with ⟨rfl,rfl⟩|⟨rfl,rfl⟩
   ·exact .step ih m1 m2
   ·exact .step ih m2 m1
noncomputable def XV(E:Gy)(n:Nat):Int:=
 open Classical in
 if ¬∀e∈E,EF E e.2.1=0 then 24
 else if ¬∀e∈E,FL E e.2.1=2 then 25
 else if ¬(0<n/\∀i:Nat,i<n->Con E 0 i) then 25 else 0
variable {T:List (Int×Bool)} {n:Nat}
def vB(b:Bool):Value:=.bool b
theorem Qz(w:World):(zeroValue 4).run Tryz.prog w=.ok (vB false) w:=by rfl
theorem K3(w:World):(zeroValue 22).run Tryz.prog w=.ok (MC (.slice none 0 0)) w:=by rfl
abbrev GH(T:List (Int×Bool)):List Int:=T.map Prod.fst
def NB(T:List (Int×Bool)):Prop:=∀p∈T,p.2=true
theorem Hs(h:NB T)(a:Int):(Bz T a).getD false=decide (a∈GH T):=by
 by_cases ha:a∈GH T
 ·rw[ai ha];cases hg:Bz T a with
  | none=>
   exfalso;unfold Bz at hg;rw[Option.map_eq_none_iff,ii]at hg;obtain⟨p,hp,e⟩:=ad.1 ha;have:=hg p hp;simp[e]at this
  | some b=>
   unfold Bz at hg;obtain⟨p,hp,rfl⟩:=Option.map_eq_some_iff.1 hg;exact h p (gn hp)
 ·rw[aj ha,Dl ha];rfl
theorem L5(h:NB T)(a:Int):NB (Dq T a true):=λp hp=>by
 unfold Dq at hp;split at hp
 ·obtain⟨q,hq,rfl⟩:=ad.1 hp;split
  ·rfl
  ·exact h q hq
 ·rcases bf.1 hp with hp|hp
  ·exact h p hp
  ·rw[ao.1 hp]
def uns(n:Nat)(T:List (Int×Bool)):Nat:=((range n).filter λ(j:Nat)=>decide ((j:Int) ∉ GH T)).length
theorem WU{T':List (Int×Bool)}(h:∀x∈GH T,x∈GH T'):uns n T'<=uns n T:=by refine Go.Kuhn.nodup_le _ _ (jm _ ig) λx hx=>?_;obtain⟨h1,h2⟩:=br.1 hx;exact br.2 ⟨h1,ai λq=>bz h2 (h _ q)⟩
theorem AaL{i:Nat}(hi:i<n)(hn:(i:Int) ∉ GH T)(b:Bool):uns n (Dq T (i:Int) b)+1<=uns n T:=by
 have h1:(i::(range n).filter λ(j:Nat)=>decide ((j:Int) ∉ GH (Dq T (i:Int) b))).Nodup:=by refine gw.2 ⟨λq=>?_,jm _ ig⟩;have:=bz (br.1 q).2;exact this ((Fj T _ _ _).2 (.inl Y))
 have h2:=Go.Kuhn.nodup_le _ ((range n).filter λ(j:Nat)=>decide ((j:Int) ∉ GH T)) h1 λx hx=>by
  rcases aq.1 hx with rfl|hx
  ·exact br.2 ⟨bi.2 hi,ai hn⟩
  ·obtain⟨h3,h4⟩:=br.1 hx;exact br.2 ⟨h3,ai λq=>bz h4 ((Fj T _ _ _).2 (.inr q))⟩
 unfold uns;rw[ef]at h2;exact h2
structure AbV(J:Int->List Int)(n:Nat)(T T':List (Int×Bool))(i:Int):Prop where
 sub:∀x∈GH T,x∈GH T'
 me:i∈GH T'
 new:∀x∈GH T',x ∉ GH T->(Rch J i x/\∀k∈J x,k∈GH T')/\0<=x/\x<n
structure Aca(h:Hp)(gS gJ g16 g13 g17:Nat)(mM mB:Hp)(TJ:List (Int×List Int))(J:Int->List Int)(n:Nat):Prop where
 s:∀ms,Cell h ms (⟨g16,0,none⟩:Addr) (.map (some gS))
 j:∀ms,Cell h ms (⟨g13,0,none⟩:Addr) (.map (some gJ))
 f:∀ms,Cell h ms (⟨g17,0,none⟩:Addr) (.func (.func 142) #[] #[.pt g16,.pt g13,.pt g17])
 m:OwnMS gJ mM mB TJ
 lM:mM.le h
 lB:mB.le h
 e:∀a,J a=(Bz TJ a).getD []
 nb:∀a,∀k∈J a,0<=k/\k<n
 l:∀a,(J a).length<=1000000
 b:n<=1000000
theorem XZ{h:Hp}{gS gJ g16 g13 g17:Nat}{mM mB:Hp}{TJ:List (Int×List Int)}{J:Int->List Int}(V:Aca h gS gJ g16 g13 g17 mM mB TJ J n):∀(F:Nat) (i:Nat) (T:List (Int×Bool)) (bs:List Nat) (mS:Hp),i<n->C4 kN vB gS BS mS T bs->NB T->uns n T<F->FnT Tryz.prog 142 #[.int .i64 i,.pointer (some ⟨g16,0,none⟩),.pointer (some ⟨g13,0,none⟩),.pointer (some ⟨g17,0,none⟩)] h [mS] (λ_ h' ms'=>h=h'/\∃mS' T' bs',ms'=[mS']/\C4 kN vB gS BS mS' T' bs'/\NB T'/\AbV J n T T' i):=by
 intro F
 induction F with
 | zero=>
  intro i T bs mS hi hO hA hF;omega
 | succ F ih=>
  intro i T bs mS hi hO hA hF;have hb:=V.b;have hiI:BS (i:Int):=by unfold BS;omega
  have hs1:=V.s;have hj1:=V.j;have hf1:=V.f;refine Au func142 ntmps142 Y Y (λw0 hw0=>?_);simp only[A6];refine Aq (Ql Y Vl (hs1 _) (Qm Y (Qx (FJ (V:=vB) (z:=false) (i:Int) BA hO σ rfl Vl Qz rfl rfl hiI) rfl ?_)));rw[Hs hA];refine Qm Y (Am ?_);refine BG Y (λhn=>?_) (λhn=>?_)
  ·have hni:(i:Int) ∉ GH T:=λq=>by rw[ai q]at hn;cases hn
   obtain⟨Tv,bsv,hMv,hKv,_,hRv⟩:=V.m.look V.lB;obtain⟨vL,hvL⟩:∃vL,(Bz Tv (i:Int)).getD (.nl)=vL:=⟨_,Y⟩
   have hRL:=hRv (i:Int);rw[hvL,<-V.e]at hRL;have ovL:=hRL.rd.one;have hLl:=V.l (i:Int);have hLn:=V.nb (i:Int);obtain⟨L,hL⟩:∃L,J (i:Int)=L:=⟨_,Y⟩
   rw[hL]at hRL hLl hLn;refine Aq (Ql Y Vl (hs1 _) (Qm Y (B4 (V:=vB) (z:=undef) 0 (i:Int) true BA hO Y Y Vl Y Y Y hiI Y Y (λmS1 F8 hO1=>?_))));have hA1:=L5 hA (i:Int);have hU1:=AaL hi hni true;obtain⟨T1,hT1⟩:∃T1,Dq T (i:Int) true=T1:=⟨_,Y⟩
   have hk1:∀x,x∈GH T1<->x=(i:Int)\/x∈GH T:=λx=>by rw[<-hT1];exact Fj T _ _ x
   rw[hT1]at hO1 hA1 hU1;refine BM (Ql Y G2 (hj1 _) (Qm Y (Qx (LR (V:=MC) (z:=(Value.nl)) (i:Int) BA hMv V.lM Y G2 K3 Y Y hiI) Y ?_)));rw[hvL];refine Qx (As hRL.rd.any Y AN Y) Y (Qm Y (Am (Ag ?_)))
   refine Ay (λq sl h' ms'=>∃(t:Nat) (Tt:List (Int×Bool)) (bt:List Nat) (mt:Hp),q=L.length-t/\sl=[(3,.pt g17),(15,vL),(16,.w L.length),(17,.w t)]/\h=h'/\ms'=[mt]/\t<=L.length/\C4 kN vB gS BS mt Tt bt/\NB Tt/\(∀x∈GH T1,x∈GH Tt)/\(∀x∈GH Tt,x ∉ GH T1->(Rch J i x/\∀k∈J x,k∈GH Tt)/\0<=x/\x<n)/\∀j (hj:j<L.length),j<t->L[j]∈GH Tt)
    (L.length-0) _ ⟨0,T1,F8,mS1,rfl,rfl,rfl,rfl,ω,hO1,hA1,λx hx=>hx,λx h1 h2=>jt h1 h2,λj hj h=>ω⟩ Qs ?_
   rintro q sl h' ms' ⟨t,Tt,bt,mt,rfl,rfl,rfl,rfl,htl,hOt,hAt,hsub,hnew,hdone⟩;refine Aq (Qm Y (Am (Ac ?_)));refine Ao Y (λhlt=>?_) (λhlt=>?_)
   ·have htl:t<L.length:=ω
    obtain⟨k,hk⟩:∃k,L[t]=k:=⟨_,Y⟩
    have hkm:k∈L:=by rw[<-hk];exact ae htl
    obtain⟨hk0,hkn⟩:=hLn k hkm;obtain⟨kn,rfl⟩:=il hk0;have ck:∀ms,Cell h ms ((AG vL).add (t*1)) (.w (kn:Int)):=λms=>by rw[<-hk];exact(hRL.any (ms:=ms)).cell0 htl Y
    refine Ah (Ad (Ac (Ag (Aq (Qx (BN (t) hRL.rd.any Y AN A0 Y Y) Y (Ql Y U3 (ck _) (Qm Y (Gl (Ql Y Ab4 (hf1 _) (Qm Y ?_))))))))));refine H6 (pre:=[mt]) Y Y call142 Y (ih kn Tt bt mt ω hOt hAt (by have:=WU (n:=n) hsub;omega)) Y Y Y Y (λv' h' pre' l' hF=>?_);obtain⟨rfl,m2,T2,b2,rfl,hO2,hA2,R2⟩:=hF;simp only[bl,ay,eo];have hrk:Rch J i (kn:Int):=.step (.refl _) (by rw[hL];exact hkm);refine Ak (Ai (Ad (Ab (Qx (oA Y) Y (Qm Y (Ak ?_))))))
    exact Al (L.length-(t+1)) _ ω ⟨t+1,T2,b2,m2,Y,Y,Y,Y,ω,hO2,hA2,λx hx=>R2.sub x (hsub x hx),λx h1 h2=>by
     by_cases hx:x∈GH Tt
     ·obtain⟨⟨q1,q2⟩,q3⟩:=hnew x hx h2;exact⟨⟨q1,λk hk=>R2.sub k (q2 k hk)⟩,q3⟩
     ·obtain⟨⟨q1,q2⟩,q3⟩:=R2.new x h1 hx;exact⟨⟨hrk.trans q1,q2⟩,q3⟩,λj hj hjt=>by
     rcases (ω:j<t\/j=t) with h1|rfl
     ·exact R2.sub _ (hdone j hj h1)
     ·rw[hk];exact R2.me⟩ Qs
   ·obtain rfl:t=L.length:=ω
    have hV:AbV J n T Tt i:=by
     have hall:∀k∈J (i:Int),k∈GH Tt:=λk hk=>by rw[hL]at hk;obtain⟨j,hj,rfl⟩:=df hk;exact hdone j hj hj
     refine⟨λx hx=>hsub x ((hk1 x).2 (.inr hx)),hsub _ ((hk1 _).2 (.inl Y)),λx h1 h2=>?_⟩;by_cases hx:x=(i:Int)
     ·subst hx;exact⟨⟨.refl _,hall⟩,ω,ω⟩
     ·exact hnew x h1 λq=>by
       rcases (hk1 x).1 q with q|q
       ·exact hx q
       ·exact h2 q
    refine Av (Aa (Aa (Af ?_)));exact Cq Y (⟨Y,mt,Tt,bt,Y,hOt,hAt,hV⟩)
  ·have him:(i:Int)∈GH T:=bc λq=>by rw[aj q]at hn;cases hn
   refine Ah ?_;exact Cq Y (⟨Y,mS,T,bs,Y,hO,hA,λx hx=>hx,him,λx h1 h2=>jt h1 h2⟩)
end
end Go.Proofs.Q