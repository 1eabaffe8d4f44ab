/- A part of the proof. -/
import Derived.Test.YtmgaeedkcecckaaGreatDoorRC
set_option linter.unusedSimpArgs false
set_option linter.unusedVariables false
set_option linter.unusedSectionVars false
set_option maxRecDepth 100000
set_option maxHeartbeats 4000000

open List (length_map length_singleton getElem_mem range length_append nil_append length_take mem_cons mem_singleton cons_append map_append mem_append mem_cons_of_mem length_nil length_drop append_nil map_map map_cons length_set getElem_of_mem take_length append_assoc flatMap_cons length_cons mem_append_left mem_append_right range_succ foldl_append drop_zero getElem_append_right sum_cons mem_of_mem_take take_of_length_le)
namespace Go.Proofs.Q
open Go.Proofs.Tryz
open Go.Eng Go.RowKit
section
structure OwS(S:S2)(v5 v6 v7 v8 v9:Value)(m5 m6 m7 m8 m9:Hp):Prop where
 i:OwnL cI 1 3 m5 v5 S.ids
 s:OwnL cI 1 3 m6 v6 S.su
 m:OwnL cI 1 3 m7 v7 S.ma
 p:OwnL cI 1 3 m8 v8 S.pa
 f:OwnL cI 1 3 m9 v9 S.fi
structure VL(l:List Cl)(x:Cl):Prop where
 n:x.sd.length<=64
 sg:∀i,i<x.sd.length->(Bm x i).2=1\/(Bm x i).2=-1
 at_:∀i,i<x.sd.length->0<=K2 l (Bm x i).1
 yn:∀i,i<x.sd.length->(Gc l x i).sd.length<=64
 ys:∀i,i<x.sd.length->∀r∈(Gc l x i).sd,r.2=1\/r.2=-1
theorem VU{l:List Cl}{x:Cl}(K:VL l x):∀i,i<=x.sd.length->(HT l x i).Ok (64*i) x.sd.length
 | 0,_=>⟨rfl,rfl,rfl,by simp[HT],am _,λy hy=>(by cases hy),λy hy=>(by cases hy),λy hy=>(by cases hy)⟩
 | i+1,hi=>by have h1:=S2.Ok.sides (i:=i) ω (K.sg i ω) (Gc l x i).sd _ _ ((VU K i ω).start (i:=i)) (K.ys i ω);have h2:=K.yn i ω;show(S2.sides _ _ _ _).Ok _ _;exact⟨h1.s,h1.m,h1.f,h1.p,by have:=h1.t;omega,λy hy=>by have:=h1.sb y hy;omega,λy hy=>by have:=h1.mb y hy;omega,h1.fb⟩
theorem Aez{l:List Ce}{y:Int}{k:Nat}(e:K2 (l.map Ce.c) y=k)(v:Value)(h:Hp)(hn:l.length<=100000)(hst:(l.map Ce.c).Pairwise λa b=>a.id<=b.id)(hR:RdL cC 3 h [] v l)(ms:List Hp):FnV Tryz.prog 109 #[v,.int .i64 y] h ms (.int .i64 k):=e ▸ Adz l v y h hn hst hR ms
theorem Xm(l:List Ce)(x:Ce)(v:Value)(h:Hp)(hn:l.length<=100000)(K:VL (l.map Ce.c) x.c)(hst:(l.map Ce.c).Pairwise λa b=>a.id<=b.id)(hR:RdC h v l)(hX:RdL cD 2 h [] x.v x.c.sd):FnT Tryz.prog 128 #[v,.agg #[.int .i64 x.c.id,.int .i64 x.c.dim,x.v]] h [] (λr _ _=>r=.int .i64 (ER (l.map Ce.c) x.c)):=by
 have o1:=hR.q.rd.one;have o2:=hX.rd.one;have hxn:=K.n;refine Ap func128 ntmps128 rfl rfl<|λw0 hw0=>?_;simp only[AR];refine Ar<|AK [_,_,_] rfl rfl (by rfl) rfl rfl rfl<|λg3=>Qm rfl<|Am<|AF λh1 l1 hS=>?_;have hR:=hR.up l1;have hX:=hX.up l1;have hA:=Seg.all hS;refine Ar<|Qm rfl<|Bp<|Qm rfl<|Bp<|Qm rfl<|Bp<|Qf BU rfl<|Ql rfl Da (hA _ _ rfl _)<|Qx (Aq hX.rd.any rfl Da rfl) rfl<|Fb (n:=_) rfl AZ Bk rfl rfl rfl (by rfl) (by rfl) ω ω rfl rfl rfl<|λg23=>Qm rfl<|Bp ?_;refine AO [] [] [] rfl AZ Bk rfl ω κ (by repeat (first|exact ej|refine⟨⟨by first|rfl|exact(hX.rd.any).cells|exact(hR.q.rd.any).cells|exact Rd.cells ‹_›|exact(RdL.rd ‹_›).cells,rfl,rfl⟩,?_⟩)) rfl rfl rfl rfl<|λg24=>?_;refine Qm rfl<|Am<|Ac<|Ar<|Qm rfl<|Am<|Ag<|BV<|BV<|BV ?_
 refine AB (λq s hh ms'=>∃(i:Nat) (v5 v6 v7 v8 v9:Value) (m5 m6 m7 m8 m9:Hp),q=x.c.sd.length-i/\s=[(0,v),(3,.pt g3),(5,v5),(6,v6),(7,v7),(8,v8),(9,v9),(10,.w i)]/\h1.le hh/\ms'=[m5,m6,m7,m9,m8]/\i<=x.c.sd.length/\OwS (HT (l.map Ce.c) x.c i) v5 v6 v7 v8 v9 m5 m6 m7 m8 m9)
  (x.c.sd.length-0) _ ⟨0,_,_,_,_,_,Hp.emp,Hp.emp,Hp.emp,_,_,rfl,rfl,BE,rfl,ω,⟨OwnL.nil A8,OwnL.nil A8,OwnL.nil A8,OwnL.rep _ 0 ω,FZ g24 A8⟩⟩ Qs ?_
 rintro q s hh ms' ⟨i,v5,v6,v7,v8,v9,m5,m6,m7,m8,m9,rfl,rfl,lh,rfl,hi,W⟩;have hR:=hR.up lh;have hX:=hX.up lh;have hA:=Seg.all (hS.le lh);have KS:=VU K i hi;refine Ac<|Ar<|Qm Y<|Qf BU Y<|Ql Y Da (hA _ _ Y _)<|Qx (Aq hX.rd.any Y Da Y) Y<|Qm Y<|Am ?_;refine Aw Y (λhlt=>?_)<|λhlt=>?_
 ·have hil:i<x.c.sd.length:=C7 hlt;obtain⟨k,hk⟩:∃k:Nat,K2 (l.map Ce.c) (Bm x.c i).1=k:=⟨(K2 (l.map Ce.c) (Bm x.c i).1).toNat,by have:=K.at_ i hil;omega⟩
  have hkl:k<l.length:=by have:=OQ (l.map Ce.c) (Bm x.c i).1;rw[hk,be]at this;omega
  have hy:Gc (l.map Ce.c) x.c i=l[k].c:=by unfold Gc;rw[hk];simp[List.getD,hkl]
  have hsi:=Bj hil;have hci:∀ms,Cell hh ms ((AH x.v).add (i*2)) (.w x.c.sd[i].1):=λms=>(hX.any (ms:=ms)).cell0 hil Y;have hgk:∀ms,Seg hh ms ((AH v).add (k*3)) (cC l[k]):=λms=>(hR.q.any (ms:=ms)).seg hkl;have hY:=hR.s _ (ao hkl);have oy:=hY.rd.one;have o5:v5.oneCell'=true:=(W.i.rd (h:=hh) (ms:=[m5]) Mh).rd.one;have o6:v6.oneCell'=true:=(W.s.rd (h:=hh) (ms:=[m6]) Mh).rd.one;have o7:v7.oneCell'=true:=(W.m.rd (h:=hh) (ms:=[m7]) Mh).rd.one;have o8:v8.oneCell'=true:=(W.p.rd (h:=hh) (ms:=[m8]) Mh).rd.one;have o9:v9.oneCell'=true:=(W.f.rd (h:=hh) (ms:=[m9]) Mh).rd.one;have hpl:=KS.p;have hk':K2 (l.map Ce.c) x.c.sd[i].1=k:=by rw[<-hsi];exact hk
  refine Ah<|Ab<|Ac<|Ag<|Ar<|Qm Y<|Qm Y<|Qm Y<|Qx (Ba (i) (W.p.rd (h:=hh) (ms:=[m8]) Mh).rd Y AZ Bk Y Y ω ω) Y<|D3 4 i W.p Y Bk Y Y Y ω Y Y<|λm8 hO8=>?_;have W1:OwS ((HT (l.map Ce.c) x.c i).start i) v5 v6 v7 v8 v9 m5 m6 m7 m8 m9:=⟨W.i,W.s,W.m,hO8,W.f⟩
  have K1:=KS.start (i:=i);refine Bp<|Qm Y<|Qm Y<|Qf BU Y<|Ql Y Da (hA _ _ Y _)<|Qm Y<|Qx (BC (i) hX.rd.any Y Da BX Y Y) Y<|Qf Dl Y<|Ql Y U3 (hci _)<|Qx (As Y call109 Y<|Aez hk' v hh hn hst hR.q _) Y<|Qx (BC (k) hR.q.rd.any Y B0 A3 Y Y) Y<|Qx (oG Y Jz A3<|hgk _) Y<|BS [.w 0,.w 0,.nl] Y A3 Y Y<|λg11=>?_;refine Sa 0 [_,_,_] A3 Y (by simp[o1,o2,oy,o5,o6,o7,o8,o9]) ?_;refine Am<|AF λh2 l2 hS11=>?_;have hX:=hX.up l2;have hY:=hY.up l2;have hA:=Seg.all ((hS.le lh).le l2);have hA11:=Seg.all hS11;have hyn:l[k].c.sd.length<=64:=by have:=K.yn i hil;rwa [hy]at this
  have hys:∀r∈l[k].c.sd,r.2=1\/r.2=-1:=by have:=K.ys i hil;rwa [hy]at this
  have hsg:=K.sg i hil;have hstep:HT (l.map Ce.c) x.c (i+1)=((HT (l.map Ce.c) x.c i).start i).sides i (Bm x.c i).2 l[k].c.sd:=by rw[<-hy];rfl
  obtain⟨S0,hS0⟩:∃S0,(HT (l.map Ce.c) x.c i).start i=S0:=⟨_,Y⟩
  rw[hS0]at W1 K1 hstep;refine Ar<|Qm Y<|Am<|Ag ?_
  refine AB (λq s hh ms'=>∃(j:Nat) (v5 v6 v7 v8 v9:Value) (m5 m6 m7 m8 m9:Hp),q=l[k].c.sd.length-j/\s=[(0,v),(3,.pt g3),(5,v5),(6,v6),(7,v7),(8,v8),(9,v9),(10,.w i),(11,.pt g11),(12,.w j)]/\h2=hh/\ms'=[m5,m6,m7,m9,m8]/\j<=l[k].c.sd.length/\OwS (S0.sides i (Bm x.c i).2 (l[k].c.sd.take j)) v5 v6 v7 v8 v9 m5 m6 m7 m8 m9)
   (l[k].c.sd.length-0) _ ⟨0,_,_,_,_,_,_,_,_,_,_,rfl,rfl,rfl,rfl,ω,W1⟩ Qs ?_
  rintro q s hh' ms' ⟨j,v5,v6,v7,v8,v9,m5,m6,m7,m8,m9,rfl,rfl,rfl,rfl,hj,W⟩;have hkj:=S2.Ok.sides (i:=i) hil hsg (l[k].c.sd.take j) S0 _ K1 (λr hr=>hys r (mem_of_mem_take hr));rw[ay]at hkj;refine Ac<|Ar<|Qm Y<|Qf BU Y<|Ql Y Da (hA11 _ _ Y _)<|Qx (Aq hY.rd.any Y Da Y) Y<|Qm Y<|Am ?_;refine Aw Y (λhlt2=>?_)<|λhlt2=>?_
  ·have hjl:j<l[k].c.sd.length:=C7 hlt2;have hnext:S0.sides i (Bm x.c i).2 (l[k].c.sd.take (j+1))=(S0.sides i (Bm x.c i).2 (l[k].c.sd.take j)).side i (Bm x.c i).2 l[k].c.sd[j]:=by rw[ak hjl,S2.sides_snoc]
   obtain⟨S,hSS⟩:∃S,S0.sides i (Bm x.c i).2 (l[k].c.sd.take j)=S:=⟨_,Y⟩
   obtain⟨T,hT⟩:∃T,64*i+min j l[k].c.sd.length=T:=⟨_,Y⟩
   rw[hT]at hkj;rw[hSS]at W hkj hnext;have hT2:T<=4200:=ω
   have hil2:=hkj.t;have hc0:∀ms,Cell h2 ms ((AH l[k].v).add (j*2)) (.w l[k].c.sd[j].1):=λms=>(hY.any (ms:=ms)).cell0 hjl Y;have hc1:∀ms,Cell h2 ms (((AH l[k].v).add (j*2)).add 1) (.w l[k].c.sd[j].2):=λms=>(hY.any (ms:=ms)).cell hjl (f:=1) Y;have hcx:∀ms,Cell h2 ms (((AH x.v).add (i*2)).add 1) (.w x.c.sd[i].2):=λms=>(hX.any (ms:=ms)).cell hil (f:=1) Y;have o5:v5.oneCell'=true:=(W.i.rd (h:=h2) (ms:=[m5]) Mh).rd.one;have o6:v6.oneCell'=true:=(W.s.rd (h:=h2) (ms:=[m6]) Mh).rd.one;have o7:v7.oneCell'=true:=(W.m.rd (h:=h2) (ms:=[m7]) Mh).rd.one;have o8:v8.oneCell'=true:=(W.p.rd (h:=h2) (ms:=[m8]) Mh).rd.one;have o9:v9.oneCell'=true:=(W.f.rd (h:=h2) (ms:=[m9]) Mh).rd.one;obtain⟨r,hr⟩:∃r,l[k].c.sd[j]=r:=⟨_,Y⟩
   rw[hr]at hc0 hc1 hnext;refine Ah<|Ab ?_;refine Bv (λs h' ms'=>∃(v5 v6 v7 v8 v9:Value) (m5 m6 m7 m8 m9:Hp),s=[(0,v),(3,.pt g3),(5,v5),(6,v6),(7,v7),(8,v8),(9,v9),(10,.w i),(11,.pt g11),(12,.w j)]/\h2=h'/\ms'=[m5,m6,m7,m9,m8]/\OwS (S0.sides i (Bm x.c i).2 (l[k].c.sd.take (j+1))) v5 v6 v7 v8 v9 m5 m6 m7 m8 m9) ?_<|λs h ms hI=>?_
   ·refine Ag<|Ar<|Qm Y<|Am ?_;refine Bv (λs h' ms'=>s=[(0,v),(3,.pt g3),(5,v5),(6,v6),(7,v7),(8,v8),(9,v9),(10,.w i),(11,.pt g11),(12,.w j),(13,.w (EX S.ids r.1))]/\h2=h'/\ms'=[m5,m6,m7,m9,m8]) ?_<|λs h ms hI=>?_
    ·have hri:=W.i.rd (h:=h2) (ms:=[m5,m6,m7,m9,m8]) Mh;refine Ag ?_
     refine AB (λq s h' ms'=>∃(a:Nat),q=S.ids.length-a/\s=[(0,v),(3,.pt g3),(5,v5),(6,v6),(7,v7),(8,v8),(9,v9),(10,.w i),(11,.pt g11),(12,.w j),(13,.w a)]/\h2=h'/\ms'=[m5,m6,m7,m9,m8]/\a<=S.ids.length/\∀b (hb:b<S.ids.length),b<a->S.ids[b]≠r.1)
      (S.ids.length-0) _ ⟨0,rfl,rfl,rfl,rfl,ω,λb hb h=>ω⟩ Qs ?_
     rintro q s h' ms' ⟨a,rfl,rfl,rfl,rfl,ha,hno⟩;refine Ac<|Ac<|BB 15 CC κ Y<|Wm Y<|Wm Y<|BD (Aq hri.rd Y AZ Y) Y Y<|Wm Y<|Wm Y ?_;refine C3 (t:=58) Y (λhs1=>?_)<|λhs1=>?_
     ·have hal:a<S.ids.length:=C7 hs1;have hca:Cell h2 [m5,m6,m7,m9,m8] ((AH v5).add (a*1)) (.w S.ids[a]):=hri.cell0 hal Y;refine AP (Au Y Y) Y Y Y Y<|AP (Au Y Y) Y Y Y Y<|AP (BC (a) hri.rd Y AZ Bk Y Y) Y Y Y Y<|AP (oL Y U3<|hca) Y Y Y Y<|AP (oF BU Y) Y Y Y Y<|AP (oL Y Da<|hA11 _ _ Y _) Y Y Y Y<|AP (Au Y Y) Y Y Y Y<|AP (BC (j) hY.rd.any Y Da BX Y Y) Y Y Y Y<|AP (oF Dl Y) Y Y Y Y<|AP (oL Y U3<|hc0 _) Y Y Y Y<|Bu<|Qg (EO Y Y Y) Y<|Qm Y<|Am ?_;refine Aw Y (λhs2=>?_)<|λhs2=>?_
      ·refine Ah<|Ab<|Ag<|Ad<|Qm Y<|Qx (oA Y) Y<|Qm Y<|An<|Ai ?_
       exact Ao (S.ids.length-(a+1)) _ ω ⟨a+1,Y,Y,Y,Y,ω,λb hb h=>by
        rcases (ω:b<a\/b=a) with h1|rfl
        ·exact hno b hb h1
        ·exact hs2⟩ Qs
      ·have hf:EX S.ids r.1=a:=RE ha hno λ_=>aq λq=>hs2 q;refine Ax<|Aa<|Aa<|Af ?_;rw[hf];exact AI _ ⟨Y,Y,Y⟩ Qs
     ·have hf:EX S.ids r.1=a:=RE ha hno λh=>ie h ω;refine AG Y Y Y Y Y<|AG Y Y Y Y Y<|AG Y Y Y Y Y<|AG Y Y Y Y Y<|AG Y Y Y Y Y<|AG Y Y Y Y Y<|AG Y Y Y Y Y<|AG Y Y Y Y Y<|AG Y Y Y Y Y<|AG Y Y Y Y Y<|Bu<|Qk Y<|Qm Y<|Am<|AL Y<|Ax<|Aa<|Aa<|Af ?_;rw[hf];exact AI _ ⟨Y,Y,Y⟩ Qs
    ·obtain⟨rfl,rfl,rfl⟩:=hI;refine Bv (λs h' ms'=>∃(v5 v6 v7 v8 v9:Value) (m5 m6 m7 m8 m9:Hp),s=[(0,v),(3,.pt g3),(5,v5),(6,v6),(7,v7),(8,v8),(9,v9),(10,.w i),(11,.pt g11),(12,.w j),(13,.w (EX S.ids r.1))]/\h2=h'/\ms'=[m5,m6,m7,m9,m8]/\OwS (S.add i r.1) v5 v6 v7 v8 v9 m5 m6 m7 m8 m9) ?_<|λs h ms hI=>?_
     ·refine Ac<|Ad<|Qm Y<|Qm Y<|Qx (Aq (W.i.rd (h:=h2) (ms:=[m5,m6,m7,m9,m8]) Mh).rd Y AZ Y) Y<|Qm Y<|Am ?_;refine Aw Y (λhnew=>?_)<|λhnew=>?_
      ·have hadd:S.add i r.1=⟨S.ids++[r.1],S.su++[0],S.ma++[0],S.fi++[(i:Int)],S.pa⟩:=by unfold S2.add;rw[ah ω]
       have e1:=hkj.s;have e2:=hkj.m;have e3:=hkj.f;refine Ar<|Qm Y<|Qf BU Y<|Ql Y Da (hA11 _ _ Y _)<|Qm Y<|Qx (BC (j) hY.rd.any Y Da BX Y Y) Y<|Qf Dl Y<|Ql Y U3 (hc0 _)<|Ay [_] Y AZ Bk Y (by rfl) Y Y ω Y Y Y<|λg84=>AJ 1 W.i (RdL.one A8 (x:=r.1) Mh Y) Y AZ Bk Y ω Y Y Y BT (by(try simp only[ab]);omega) (by(try simp only[ab]);omega) rfl rfl rfl<|λw5 n5 hN5=>?_;have p5:=hN5.o1;refine Qm Y<|Bp<|Qm Y<|Ay [_] Y AZ Bk Y (by rfl) Y Y ω Y Y Y<|λg87=>AJ 3 W.s (RdL.one A8 (x:=0) Mh Y) Y AZ Bk Y ω Y Y Y BT (by(try simp only[ab]);omega) (by(try simp only[ab]);omega) rfl rfl rfl<|λw6 n6 hN6=>?_;have p6:=hN6.o1;refine Qm Y<|Bp<|Qm Y<|Ay [_] Y AZ Bk Y (by rfl) Y Y ω Y Y Y<|λg90=>AJ 5 W.m (RdL.one A8 (x:=0) Mh Y) Y AZ Bk Y ω Y Y Y BT (by(try simp only[ab]);omega) (by(try simp only[ab]);omega) rfl rfl rfl<|λw7 n7 hN7=>?_;have p7:=hN7.o1;refine Qm Y<|GX<|Qm Y<|Qm Y<|Ay [_] Y AZ Bk Y (by rfl) Y Y ω Y Y Y<|λg94=>AJ 7 W.f (RdL.one A8 (x:=(i:Int)) Mh Y) Y AZ Bk Y ω Y Y Y BT (by(try simp only[ab]);omega) (by(try simp only[ab]);omega) rfl rfl rfl<|λw9 n9 hN9=>?_;have p9:=hN9.o1;refine Qm Y<|An ?_;refine AQ<|AQ<|AQ<|AQ ?_;exact AI _ ⟨w5,w6,w7,v8,w9,n5,n6,n7,m8,n9,Y,Y,Y,by rw[hadd];exact⟨hN5,hN6,hN7,W.p,hN9⟩⟩ Qs
      ·have hadd:S.add i r.1=S:=by unfold S2.add;rw[ae ω]
       refine Ah ?_;exact AI _ ⟨v5,v6,v7,v8,v9,m5,m6,m7,m8,m9,Y,Y,Y,by rw[hadd];exact W⟩ Qs
     ·obtain⟨v5,v6,v7,v8,v9,m5,m6,m7,m8,m9,rfl,rfl,rfl,W⟩:=hI;have hK2:=hkj.add hil r.1;have hSU:=S2.add_su hkj i r.1;have hrm:r∈l[k].c.sd:=by rw[<-hr];exact ao hjl
      have hw:=Qn hsg (hys r hrm);obtain⟨kf,hkf⟩:∃kf,EX S.ids r.1=kf:=⟨_,Y⟩
      obtain⟨U,hU⟩:∃U,S.add i r.1=U:=⟨_,Y⟩
      have hres:S.side i (Bm x.c i).2 r=U.hit i kf ((Bm x.c i).2*r.2):=by unfold S2.side;rw[hU,hkf]
      rw[hsi]at hw hres;rw[hU]at W hK2 hSU;rw[hkf]at hK2 ⊢;rw[hsi]at hnext;obtain⟨KU,hkl2⟩:=hK2;have hsl:kf<U.su.length:=by rw[KU.s];exact hkl2
      have hml:kf<U.ma.length:=by rw[KU.m];exact hkl2
      have hfl:kf<U.fi.length:=by rw[KU.f];exact hkl2
      have hsb:=hSU.1 _ (ao hsl);have hmb:=hSU.2 _ (ao hml);have hfb:=KU.fb _ (ao hfl);obtain⟨f,hf⟩:∃f:Nat,U.fi[kf]=f:=⟨U.fi[kf].toNat,ω⟩
      have hfp:f<U.pa.length:=by rw[KU.p];omega
      have hip:i<U.pa.length:=by rw[KU.p];exact hil
      have o5:v5.oneCell'=true:=(W.i.rd (h:=h2) (ms:=[m5]) Mh).rd.one;have o6:v6.oneCell'=true:=(W.s.rd (h:=h2) (ms:=[m6]) Mh).rd.one;have o7:v7.oneCell'=true:=(W.m.rd (h:=h2) (ms:=[m7]) Mh).rd.one;have o8:v8.oneCell'=true:=(W.p.rd (h:=h2) (ms:=[m8]) Mh).rd.one;have o9:v9.oneCell'=true:=(W.f.rd (h:=h2) (ms:=[m9]) Mh).rd.one;have c6:∀ms,m6∈ms->Cell h2 ms ((AH v6).add (kf*1)) (.w U.su[kf]):=λms hm=>(W.s.rd (h:=h2) hm).cell0 hsl Y;have c7:∀ms,m7∈ms->Cell h2 ms ((AH v7).add (kf*1)) (.w U.ma[kf]):=λms hm=>(W.m.rd (h:=h2) hm).cell0 hml Y;have c9:∀ms,m9∈ms->Cell h2 ms ((AH v9).add (kf*1)) (.w f):=λms hm=>by have:=(W.f.rd (h:=h2) hm).cell0 hfl Y;rw[hf]at this;exact this
      have c8f:∀ms,m8∈ms->Cell h2 ms ((AH v8).add (f*1)) (.w U.pa[f]):=λms hm=>(W.p.rd (h:=h2) hm).cell0 hfp Y;have c8i:∀ms,m8∈ms->Cell h2 ms ((AH v8).add (i*1)) (.w U.pa[i]):=λms hm=>(W.p.rd (h:=h2) hm).cell0 hip Y;refine Ac<|AS (n:=22) (bs:=[ig,ig,ig,ig,ig,ii,ig,ig,ig,ig,ig,ig,ig,ig,ig,ig,ig,ig,ig,ii,ig,ii]) [ig,ig,ig,ig,ig,ii,ig,ig,ig,ig,ig,ig,ig,ig,ig,ig,ig,ig,ig,ii,ig] CC κ κ Y Y<|Qq Y<|Qq Y<|Qq Y<|Qq Y<|Qp Y (Ba (kf) (W.s.rd (h:=h2) (ms:=[m6]) Mh).rd Y AZ Bk Y Y ω ω)<|QF BU Y<|QL Y Da (hA _ _ Y _)<|Qq Y<|Qp Y (BC (i) hX.rd.any Y Da BX Y Y)<|QF Eg Y<|QL Y U3 (hcx _)<|QF BU Y<|QL Y Da (hA11 _ _ Y _)<|Qq Y<|Qp Y (BC (j) hY.rd.any Y Da BX Y Y)<|QF Eg Y<|QL Y U3 (hc1 _)<|Qp Y (oM Y)<|Qp Y (Ba (kf) (W.s.rd (h:=h2) (ms:=[m6]) Mh).rd Y AZ Bk Y Y ω ω) ?_;unfold Dd;simp only[bh,ap];refine Qo 5 Y ?_;refine Ql Y U3 (c6 _ (by repeat (first|exact Mh|refine List.Mem.tail _ ?_))) ?_;refine Qw<|Bb 19 115 κ Y (BE) Y (oA Y)<|Qo 21 Y<|D3 1 kf W.s Y Bk Y Y Y hsl Y Y<|λn6 hN6=>Qw<|Qe<|Ab<|Ar<|Qm Y<|Qm Y<|Qx (Ba (kf) (W.m.rd (h:=h2) (ms:=[m7]) Mh).rd Y AZ Bk Y Y ω ω) Y ?_;refine Ql Y U3 (c7 _ (by repeat (first|exact Mh|refine List.Mem.tail _ ?_))) ?_;refine Qx (oA Y) Y<|Qx (Ba (kf) (W.m.rd (h:=h2) (ms:=[m7]) Mh).rd Y AZ Bk Y Y ω ω) Y<|D3 2 kf W.m Y Bk Y Y Y hml Y Y<|λn7 hN7=>Bp<|Qm Y<|Qm Y<|Qm Y<|Qx (Ba (kf) (W.f.rd (h:=h2) (ms:=[m9]) Mh).rd Y AZ Bk Y Y ω ω) Y ?_;refine Ql Y U3 (c9 _ (by repeat (first|exact Mh|refine List.Mem.tail _ ?_))) ?_;refine Qx (Ba (f) (W.p.rd (h:=h2) (ms:=[m8]) Mh).rd Y AZ Bk Y Y ω ω) Y ?_;refine Ql Y U3 (c8f _ (by repeat (first|exact Mh|refine List.Mem.tail _ ?_))) ?_;refine Qm Y<|Bp<|Qm Y<|Qm Y<|Qx (Ba (i) (W.p.rd (h:=h2) (ms:=[m8]) Mh).rd Y AZ Bk Y Y ω ω) Y ?_;refine Ql Y U3 (c8i _ (by repeat (first|exact Mh|refine List.Mem.tail _ ?_))) ?_;refine Qm Y<|Bp<|Qm Y<|Am<|Ag ?_
      refine AB (λq s h' ms'=>∃(a:Nat) (m8:Hp),q=i+1-a/\s=[(0,v),(3,.pt g3),(5,v5),(6,v6),(7,v7),(8,v8),(9,v9),(10,.w i),(11,.pt g11),(12,.w j),(14,.w U.pa[f]),(15,.w U.pa[i]),(16,.w a)]/\h2=h'/\ms'=[m5,n6,n7,m9,m8]/\a<=i+1/\OwnL cI 1 3 m8 v8 (Gg U.pa a U.pa[i] U.pa[f]))
       (i+1-0) _ ⟨0,m8,rfl,rfl,rfl,rfl,ω,by rw[Wc];exact W.p⟩ Qs ?_
      rintro q s h' ms' ⟨a,m8',rfl,rfl,rfl,rfl,ha,hO8⟩;refine Ac<|Ar<|Qm Y<|Qm Y<|Qm Y<|Am ?_;refine Aw Y (λhla=>?_)<|λhla=>?_
      ·have hap:a<U.pa.length:=ω
       have hal:a<(Gg U.pa a U.pa[i] U.pa[f]).length:=by rw[DV];exact hap
       have hga:(Gg U.pa a U.pa[i] U.pa[f])[a]=U.pa[a]:=by rw[Fs hap,ae (λq=>ie q.1 (Nat.lt_irrefl _))]
       have hca:Cell h2 [m5,n6,n7,m9,m8'] ((AH v8).add (a*1)) (.w U.pa[a]):=by have:=(hO8.rd (h:=h2) (ms:=[m5,n6,n7,m9,m8']) (by repeat (first|exact Mh|refine List.Mem.tail _ ?_))).cell0 hal Y;rw[hga]at this;exact this
       refine Ah<|Ab<|Ac<|Ag<|Ar<|Qm Y<|Qm Y<|Qx (Ba (a) (hO8.rd (h:=h2) (ms:=[m8']) Mh).rd Y AZ Bk Y Y ω ω) Y<|Ql Y U3 (hca)<|Qm Y<|Qm Y<|Am ?_;refine Aw Y (λhq=>?_)<|λhq=>?_
       ·refine Ad<|Qm Y<|Qm Y<|Qm Y<|Qx (Ba (a) (hO8.rd (h:=h2) (ms:=[m8']) Mh).rd Y AZ Bk Y Y ω ω) Y<|D3 4 a hO8 Y Bk Y Y Y hal Y Y<|λn8 hN8=>?_;rw[Z4 hap hq]at hN8;refine An<|Ai<|Ab<|Ad<|Qm Y<|Qx (oA Y) Y<|Qm Y<|An ?_;exact Ao (i+1-(a+1)) _ ω ⟨a+1,n8,Y,Y,Y,Y,ω,hN8⟩ Qs
       ·rw[Acz hap hq]at hO8;refine Ah<|Ai<|Ab<|Ad<|Qm Y<|Qx (oA Y) Y<|Qm Y<|An ?_;exact Ao (i+1-(a+1)) _ ω ⟨a+1,m8',Y,Y,Y,Y,ω,hO8⟩ Qs
      ·obtain rfl:a=i+1:=ω
       have g6:U.su.getD kf 0=U.su[kf]:=by simp[List.getD,hsl]
       have g7:U.ma.getD kf 0=U.ma[kf]:=by simp[List.getD,hml]
       have g9:(U.fi.getD kf 0).toNat=f:=by rw[show U.fi.getD kf 0=U.fi[kf] by simp[List.getD,hfl],hf];rfl
       have g8:U.pa.getD f 0=U.pa[f]:=by simp[List.getD,hfp]
       have g8':U.pa.getD i 0=U.pa[i]:=by simp[List.getD,hip]
       have hH:U.hit i kf (x.c.sd[i].2*r.2)=⟨U.ids,U.su.set kf (U.su[kf]+x.c.sd[i].2*r.2),U.ma.set kf (U.ma[kf]+1),U.fi,Gg U.pa (i+1) U.pa[i] U.pa[f]⟩:=by unfold S2.hit;rw[g6,g7,g9,g8,g8']
       have hWn:OwS (S0.sides i (Bm x.c i).2 (l[k].c.sd.take (j+1))) v5 v6 v7 v8 v9 m5 n6 n7 m8' m9:=by rw[hsi,hnext,hres,hH];exact⟨W.i,hN6,hN7,hO8,W.f⟩
       refine Ax<|Aa<|Aa<|Af<|Ai ?_;exact AI _ ⟨v5,v6,v7,v8,v9,m5,n6,n7,m8',m9,Y,Y,Y,hWn⟩ Qs
   ·obtain⟨v5,v6,v7,v8,v9,m5,m6,m7,m8,m9,rfl,rfl,rfl,W⟩:=hI;refine Ad<|Qm Y<|Qx (oA Y) Y<|Qm Y<|An ?_;exact Ao (l[k].c.sd.length-(j+1)) _ ω ⟨j+1,v5,v6,v7,v8,v9,m5,m6,m7,m8,m9,Y,Y,Y,Y,ω,W⟩ Qs
  ·have hje:j=l[k].c.sd.length:=ω
   rw[hje,fe,<-hstep]at W;refine Ax<|Aa<|Aa<|Af<|Ai<|Ab<|Ad<|Qm Y<|Qx (oA Y) Y<|Qm Y<|An ?_;exact Ao (x.c.sd.length-(i+1)) _ ω ⟨i+1,v5,v6,v7,v8,v9,m5,m6,m7,m8,m9,Y,Y,AD lh l2,Y,ω,W⟩ Qs
 ·obtain rfl:i=x.c.sd.length:=ω
  obtain⟨S,hS⟩:∃S,HT (l.map Ce.c) x.c x.c.sd.length=S:=⟨_,Y⟩
  have hsec:ER (l.map Ce.c) x.c=(if ¬∀y∈S.su,y=0 then 24 else if ¬∀y∈S.ma,y=2 then 25 else if ¬∀y∈S.pa,y=S.pa.getD 0 0 then 25 else 0):=by unfold ER;rw[hS]
  rw[hS]at W KS;have r6:=W.s.rd (h:=hh) (ms:=[m5,m6,m7,m9,m8]) (by repeat (first|exact Mh|refine List.Mem.tail _ ?_));have r7:=W.m.rd (h:=hh) (ms:=[m5,m6,m7,m9,m8]) (by repeat (first|exact Mh|refine List.Mem.tail _ ?_));have r8:=W.p.rd (h:=hh) (ms:=[m5,m6,m7,m9,m8]) (by repeat (first|exact Mh|refine List.Mem.tail _ ?_));clear hlt hi hR hX hA;refine Ax<|Aa<|Aa<|Af<|Ab<|Ac<|Ar<|Qm Y<|Am<|Ag ?_
  refine AB (λq s h' ms'=>∃(a:Nat),q=S.su.length-a/\s=[(6,v6),(7,v7),(8,v8),(17,.w a)]/\hh=h'/\ms'=[m5,m6,m7,m9,m8]/\a<=S.su.length/\∀b (hb:b<S.su.length),b<a->S.su[b]=0)
   (S.su.length-0) _ ⟨0,rfl,rfl,rfl,rfl,ω,λb hb h=>ω⟩ Qs ?_
  rintro q s h' ms' ⟨a,rfl,rfl,rfl,rfl,ha,hno⟩;have r6l:=r6.len_le;refine Ac<|Ar<|Qm Y<|Qm Y<|Qx (Aq r6.rd Y AZ Y) Y<|Qm Y<|Am ?_;refine Aw Y (λhl6=>?_)<|λhl6=>?_
  ·have hal:a<S.su.length:=C7 hl6;have hca:=r6.cell0 hal Y;refine Ah<|Ab<|Ac<|Ag<|Ar<|Qm Y<|Qm Y<|Qx (BC (a) r6.rd Y AZ Bk Y Y) Y<|Ql Y U3 (hca)<|Qm Y<|Am ?_;refine Aw Y (λhq=>?_)<|λhq=>?_
   ·refine Ac<|Ad<|Qm Y<|Am<|Aj<|Ak<|Ae<|Ae<|Ak<|Ae ?_;exact Al Y Y (by rw[hsec,ah (λq=>hq (q _ (ao hal)))])
   ·have hq:S.su[a]=0:=aq λq=>hq q;refine Ah<|Ai<|Ab<|Ad<|Qm Y<|Qx (oA Y) Y<|Qm Y<|An ?_
    exact Ao (S.su.length-(a+1)) _ ω ⟨a+1,Y,Y,Y,Y,ω,λb hb h=>by
     rcases (ω:b<a\/b=a) with h1|rfl
     ·exact hno b hb h1
     ·exact hq⟩ Qs
  ·have hall:∀y∈S.su,y=0:=λy hy=>by obtain⟨b,hb,rfl⟩:=dm.1 hy;exact hno b hb ω
   rw[ae (λq=>q hall)]at hsec;clear hno hl6 ha;refine Ax<|Aa<|Aa<|Af<|Ab<|Ac<|Ar<|Qm Y<|Am<|Ag ?_
   refine AB (λq s h' ms'=>∃(a:Nat),q=S.ma.length-a/\s=[(7,v7),(8,v8),(18,.w a)]/\hh=h'/\ms'=[m5,m6,m7,m9,m8]/\a<=S.ma.length/\∀b (hb:b<S.ma.length),b<a->S.ma[b]=2)
    (S.ma.length-0) _ ⟨0,rfl,rfl,rfl,rfl,ω,λb hb h=>ω⟩ Qs ?_
   rintro q s h' ms' ⟨a,rfl,rfl,rfl,rfl,ha,hno⟩;have r7l:=r7.len_le;refine Ac<|Ar<|Qm Y<|Qm Y<|Qx (Aq r7.rd Y AZ Y) Y<|Qm Y<|Am ?_;refine Aw Y (λhl7=>?_)<|λhl7=>?_
   ·have hal:a<S.ma.length:=C7 hl7;have hca:=r7.cell0 hal Y;refine Ah<|Ab<|Ac<|Ag<|Ar<|Qm Y<|Qm Y<|Qx (BC (a) r7.rd Y AZ Bk Y Y) Y<|Ql Y U3 (hca)<|Qm Y<|Am ?_;refine Aw Y (λhq=>?_)<|λhq=>?_
    ·refine Ac<|Ad<|Qm Y<|Am<|Aj<|Ak<|Ae<|Ae<|Ak<|Ae ?_;exact Al Y Y (by rw[hsec,ah (λq=>hq (q _ (ao hal)))])
    ·have hq:S.ma[a]=2:=aq λq=>hq q;refine Ah<|Ai<|Ab<|Ad<|Qm Y<|Qx (oA Y) Y<|Qm Y<|An ?_
     exact Ao (S.ma.length-(a+1)) _ ω ⟨a+1,Y,Y,Y,Y,ω,λb hb h=>by
      rcases (ω:b<a\/b=a) with h1|rfl
      ·exact hno b hb h1
      ·exact hq⟩ Qs
   ·have hall2:∀y∈S.ma,y=2:=λy hy=>by obtain⟨b,hb,rfl⟩:=dm.1 hy;exact hno b hb ω
    rw[ae (λq=>q hall2)]at hsec;clear hno hl7 ha;refine Ax<|Aa<|Aa<|Af<|Ab<|Ac<|Ar<|Qm Y<|Am<|Ag ?_
    refine AB (λq s h' ms'=>∃(a:Nat),q=S.pa.length-a/\s=[(8,v8),(19,.w a)]/\hh=h'/\ms'=[m5,m6,m7,m9,m8]/\a<=S.pa.length/\∀b (hb:b<S.pa.length),b<a->S.pa[b]=S.pa.getD 0 0)
     (S.pa.length-0) _ ⟨0,rfl,rfl,rfl,rfl,ω,λb hb h=>ω⟩ Qs ?_
    rintro q s h' ms' ⟨a,rfl,rfl,rfl,rfl,ha,hno⟩;have r8l:=r8.len_le;refine Ac<|Ar<|Qm Y<|Qm Y<|Qx (Aq r8.rd Y AZ Y) Y<|Qm Y<|Am ?_;refine Aw Y (λhl8=>?_)<|λhl8=>?_
    ·have hal:a<S.pa.length:=C7 hl8;have h0l:0<S.pa.length:=ω
     have g0:S.pa.getD 0 0=S.pa[0]:=by simp[List.getD,h0l]
     have hca:=r8.cell0 hal Y;have hc0:=r8.cell0 h0l Y;refine Ah<|Ab<|Ac<|Ag<|Ac<|BB 7 CC κ Y<|Wm Y<|Wm Y<|BD (BC (a) r8.rd Y AZ Bk Y Y) Y Y<|Wl Y U3 (hca)<|Wm Y<|BD (BC (0) r8.rd Y AZ Bk Y Y) Y Y<|Wl Y U3 (hc0)<|Bu<|Qm Y<|Am ?_;refine Aw Y (λhq=>?_)<|λhq=>?_
     ·refine Ac<|Ad<|Qm Y<|Am<|Aj<|Ak<|Ae<|Ae<|Ak<|Ae ?_;exact Al Y Y (by rw[hsec,ah (λq=>hq (by rw[<-g0];exact q _ (ao hal)))])
     ·have hq:S.pa[a]=S.pa.getD 0 0:=by rw[g0];exact aq λq=>hq q
      refine Ah<|Ai<|Ab<|Ad<|Qm Y<|Qx (oA Y) Y<|Qm Y<|An ?_
      exact Ao (S.pa.length-(a+1)) _ ω ⟨a+1,Y,Y,Y,Y,ω,λb hb h=>by
       rcases (ω:b<a\/b=a) with h1|rfl
       ·exact hno b hb h1
       ·exact hq⟩ Qs
    ·have hall3:∀y∈S.pa,y=S.pa.getD 0 0:=λy hy=>by obtain⟨b,hb,rfl⟩:=dm.1 hy;exact hno b hb ω
     rw[ae (λq=>q hall3)]at hsec;refine Ax<|Aa<|Aa<|Af<|Ab<|Ar<|Qm Y<|Am<|Aj ?_;exact Al Y Y (by rw[hsec])
variable {l:List Cl}
def Jl(o own:List Cl)(i:Nat):Option (Int×Int):=
 if(o.getD i default).id<1\/(0<i/\(o.getD i default).id=(o.getD (i-1) default).id) then some ((o.getD i default).id,20)
 else if CM own (o.getD i default)≠0 then some ((o.getD i default).id,CM own (o.getD i default)) else none
def KV(o:List Cl)(i:Nat):Option (Int×Int):=
 if(o.getD i default).dim<2 then none
 else if ER o (o.getD i default)≠0 then some ((o.getD i default).id,ER o (o.getD i default)) else none
def GQ(l:List Cl):Int×Int:=if 4000<l.length then(0,2) else
 ((range l.length).findSome? (Jl (ordF l) (GP l))).getD (((range l.length).findSome? (KV (ordF l))).getD (0,0))
theorem El{β:Type}{e:Nat->Option β}:∀n,(∀b,b<n->e b=none)->(range n).findSome? e=none
 | 0,_=>rfl
 | n+1,h=>by rw[range_succ,List.findSome?_append,El n λb hb=>h b ω];simp[h n ω]
theorem Gk{β:Type}{e:Nat->Option β}{a:Nat}{x:β}(h:∀b,b<a->e b=none)(hx:e a=some x):∀n,a<n->(range n).findSome? e=some x
 | 0,ha=>ω
 | n+1,ha=>by
  rw[range_succ,List.findSome?_append];rcases (ω:a<n\/a=n) with h1|rfl
  ·rw[Gk h hx n h1];rfl
  ·rw[El a h];simp[hx]
theorem Pf:∀(l:List Cl) (p:Option Int),(uq p l).Sublist l
 | [],_=>List.Sublist.refl _
 | a::l,p=>by
  unfold uq;split
  ·exact(Pf l _).cons a
  ·exact(Pf l _).cons_cons a
theorem No(l:List Cl):(GP l).Pairwise λa b=>a.id<=b.id:=(Fj l.length l (am _)).sublist (Pf _ _)
theorem TA(l:List Cl):(GP l).length<=l.length:=by
 have:=(Pf (ordF l) none).length_le
 rwa [He]at this
theorem Uk:∀(l:List Cl) (p:Option Int),(∀h:0<l.length,p≠some l[0].id)->(∀i (hi:i+1<l.length),l[i].id≠l[i+1].id)->uq p l=l
 | [],_,_,_=>rfl
 | a::l,p,h0,h=>by
  unfold uq
  rw[ae (show p≠some a.id from h0 σ),Uk l _ (λhl=>by
   have:=h 0 (by simp;omega)
   simpa using this) (λi hi=>by
   have:=h (i+1) (by simp;omega)
   simpa using this)]
theorem Fp{x:Cl}(h:CM l x=0):(0<=x.dim/\x.dim<=8)/\x.sd.length<=64/\(∀i,i<x.sd.length->¬Dh l x i)/\∀i,i<x.sd.length->¬B1 x i:=by
 unfold CM at h;split at h
 ·omega
 ·rename_i h1;split at h
  ·omega
  ·rename_i h2;split at h
   ·omega
   ·rename_i h3;split at h
    ·omega
    ·rename_i h4;refine⟨ω,?_,ef.1 h3,ef.1 h4⟩;unfold Cb at h2;omega
theorem HU{i:Nat}(hi:i<l.length):l.getD i default=l[i]:=by simp[List.getD,hi]
theorem Acq(h:∀b,b<(ordF l).length->Jl (ordF l) (GP l) b=none){i:Nat}(hi:i<(ordF l).length):VL (ordF l) (ordF l)[i]:=by
 have hn:∀b (hb:b<(ordF l).length),(1<=(ordF l)[b].id/\¬(0<b/\(ordF l)[b].id=((ordF l).getD (b-1) default).id))/\CM (GP l) (ordF l)[b]=0:=λb hb=>by
  have:=h b hb;unfold Jl at this;rw[HU hb]at this;split at this
  ·cases this
  ·rename_i h1;split at this
   ·cases this
   ·rename_i h2;exact⟨⟨ω,λq=>h1 (.inr q)⟩,ef.1 h2⟩
 have heq:GP l=ordF l:=Uk _ _ (λ_=>nofun) λb hb q=>by have h1:=(hn (b+1) hb).1.2;refine h1 ⟨ω,?_⟩;rw[show b+1-1=b by omega,HU (show b<(ordF l).length by omega)];exact q.symm
 rw[heq]at hn;have hx:=Fp (hn i hi).2
 have hsg:∀b (hb:b<(ordF l).length),∀j,j<(ordF l)[b].sd.length->(Bm (ordF l)[b] j).2=1\/(Bm (ordF l)[b] j).2=-1:=λb hb j hj=>by have:=(Fp (hn b hb).2).2.2.2 j hj;unfold B1 at this;omega
 have hat:∀j,j<(ordF l)[i].sd.length->0<=K2 (ordF l) (Bm (ordF l)[i] j).1:=λj hj=>by have:=hx.2.2.1 j hj;unfold Dh at this;omega
 have hy:∀j,j<(ordF l)[i].sd.length->∃b,∃hb:b<(ordF l).length,Gc (ordF l) (ordF l)[i] j=(ordF l)[b]:=λj hj=>by have h1:=hat j hj;have h2:=OQ (ordF l) (Bm (ordF l)[i] j).1;exact⟨_,ω,HU ω⟩
 refine⟨hx.2.1,hsg i hi,hat,λj hj=>?_,λj hj r hr=>?_⟩
 ·obtain⟨b,hb,e⟩:=hy j hj;rw[e];exact(Fp (hn b hb).2).2.1
 ·obtain⟨b,hb,e⟩:=hy j hj;rw[e]at hr;obtain⟨k,hk,rfl⟩:=dm.1 hr;have:=hsg b hb k hk
  rwa [Bj hk]at this
structure AeE(l:List Ce):Prop extends CsOk l where
 d:∀a∈l,-9223372036854775807<=a.c.dim/\a.c.dim<=9223372036854775807
theorem H0{c:Cl}(h:c∈ordF l):∃a∈l,c=a.can:=by have:=(Ek l.length l (am _)).mem_iff.1 h;obtain⟨a,ha,e⟩:=ag.1 this;exact⟨a,ha,e.symm⟩
theorem Ts(l:List Ce)(v:Value)(h:Hp)(hK:AeE l)(hR:RdC h v l):FnT Tryz.prog 68 #[.agg #[v]] h [] (λr _ _=>r=.tuple #[.int .i64 (GQ (l.map Ce.c)).1,.int .i64 (GQ (l.map Ce.c)).2]):=by
 have o1:=hR.q.rd.one;have hn:=hK.n;refine Ap func68 ntmps68 Y Y<|λw0 hw0=>?_;simp only[AR];refine Ar<|AK [_] Y Y (by rfl) Y Y Y<|λg1=>Qm Y<|Qm Y<|Am<|AF λh1 l1 hS=>?_;have hR:=hR.up l1;have hA0:=Seg.all hS 0 _ Y;refine Ac<|Ar<|Qf Ct Y<|Ql Y B0 (hA0 _)<|Qx (Aq hR.q.rd.any Y B0 Y) Y<|Qm Y<|Am ?_;refine Aw Y (λhbig=>?_)<|λhbig=>?_
 ·refine Ac<|Ad<|Qm Y<|Qm Y<|Am<|Aj<|Ae ?_;exact Ck Y Y Y (by unfold GQ;rw[ah (by rw[be];omega)])
 ·have hck:GQ (l.map Ce.c)=((range l.length).findSome? (Jl (ordF (l.map Ce.c)) (GP (l.map Ce.c)))).getD (((range l.length).findSome? (KV (ordF (l.map Ce.c)))).getD (0,0)):=by unfold GQ;rw[ae (by rw[be];omega),be]
  refine Ah<|Ab<|Ar<|Qf Ct Y<|Ql Y B0 (hA0 _)<|Qc call126 Y (MQ (l.length+1) l v h1 ω ω hK.s hR)<|λro h2 ms2 l2 hF=>?_;obtain⟨l2',mo,O,rfl,hOO,hO,hOs⟩:=hF;refine Bt hOO λh3 l3 hRO=>?_;have l13:=AD l2 l3;have hR:=hR.up l13;have hS:=hS.le l13;have oro:=hRO.rd.one;refine Qm Y<|Bp<|Qx (oG Y C9 Bd<|Seg.any hS) Y<|Qc call74 Y (LP l v h3 hK.toCsOk hR)<|λrw_ h4 ms4 l4 hF=>?_;obtain⟨l4',mw,W,rfl,hOW,hW,hWs⟩:=hF;refine Bt hOW λh5 l5 hRW=>?_;have l35:=AD l4 l5;have hRC:RdC h5 ro O:=⟨hRO.up l35,λa ha=>(hOs a ha).up (AD l3 l35)⟩
  have orw:=hRW.rd.one;have lO:O.length=l.length:=by have:=aw List.length hO;rwa [be,He,be]at this
  have lW:W.length<=100000:=by have:=aw List.length hW;rw[be]at this;have:=TA (l.map Ce.c);rw[be]at this;omega
  have hOm:∀a∈O,a.c.sd.length<=100000/\-9223372036854775807<=a.c.dim/\a.c.dim<=9223372036854775807:=λa ha=>by
   have h1:a.c∈ordF (l.map Ce.c):=by rw[<-hO];exact List.mem_map_of_mem ha
   obtain⟨c,hc,e⟩:=H0 h1;obtain⟨b,hb,rfl⟩:=ag.1 hc;rw[e];exact⟨by show(Dm _).length<=_;rw[Hy];exact hK.s b hb,hK.d b hb⟩
  have hWst:(W.map Ce.c).Pairwise λa b=>a.id<=b.id:=by rw[hW];exact No _
  have hOst:(O.map Ce.c).Pairwise λa b=>a.id<=b.id:=by rw[hO];exact Fj _ _<|am _
  have hget:∀i (hi:i<O.length),(ordF (l.map Ce.c)).getD i default=O[i].c:=λi hi=>by rw[<-hO,HU (by rw[be];exact hi),List.getElem_map]
  have lord:(ordF (l.map Ce.c)).length=O.length:=by rw[<-hO,be]
  obtain⟨o,ho⟩:∃o,ordF (l.map Ce.c)=o:=⟨_,Y⟩
  obtain⟨w,hw⟩:∃w,GP (l.map Ce.c)=w:=⟨_,Y⟩
  rw[ho,hw,<-lO]at hck;rw[ho]at hget lord
  have hsec:(∀b,b<O.length->Jl o w b=none)->∀i (hi:i<O.length),VL o O[i].c:=λh i hi=>by
   have:=Acq (l:=l.map Ce.c) (by rw[ho,hw,lord];exact h) (i:=i) (by rw[ho,lord];exact hi);have e:(ordF (l.map Ce.c))[i]'(by rw[ho,lord];exact hi)=O[i].c:=by rw[<-hget i hi];subst ho;exact(HU _).symm
   rwa [e,ho]at this
  rw[hw]at hW;rw[ho]at hO;refine Qm Y<|Am<|Ac<|Ar<|Qm Y<|Am<|Ag ?_
  refine AB (λq s h' ms'=>∃(i:Nat),q=O.length-i/\s=[(4,ro),(5,rw_),(6,.w i)]/\h5=h'/\ms'=[]/\i<=O.length/\∀b,b<i->Jl o w b=none)
   (O.length-0) _ ⟨0,rfl,rfl,rfl,rfl,ω,λb hb=>ω⟩ Qs ?_
  rintro q s h' ms' ⟨i,rfl,rfl,rfl,rfl,hi,hno⟩;refine Ac<|Ar<|Qm Y<|Qm Y<|Qx (Aq hRC.q.rd.any Y B0 Y) Y<|Qm Y<|Am ?_;refine Aw Y (λhlt=>?_)<|λhlt=>?_
  ·have hil:i<O.length:=C7 hlt;have gi:=hget i hil;have hci:∀ms,Cell h5 ms ((AH ro).add (i*3)) (.w O[i].c.id):=λms=>(hRC.q.any (ms:=ms)).cell0 hil Y;have hgi:∀ms,Seg h5 ms ((AH ro).add (i*3)) (cC O[i]):=λms=>(hRC.q.any (ms:=ms)).seg hil;have oiv:=(hRC.s _ (ao hil)).rd.one;have hret:∀p,Jl o w i=some p->GQ (l.map Ce.c)=p:=λp hp=>by rw[hck,Gk hno hp _ hil];rfl
   have hround:Jl o w i=none->∀b,b<i+1->Jl o w b=none:=λh b hb=>by
    rcases (ω:b<i\/b=i) with h1|rfl
    ·exact hno b h1
    ·exact h
   obtain⟨hm1,hm2⟩:=hOm _ (ao hil);refine Ah<|Ab<|Ac<|Ag ?_;refine Bv (λs h' ms'=>s=[(4,ro),(5,rw_),(6,.w i)]/\h5=h'/\ms'=[]/\¬(O[i].c.id<1\/(0<i/\O[i].c.id=(o.getD (i-1) default).id))) ?_<|λs h ms hI=>?_
   ·refine Ac<|BB 21 CC κ Y<|Wm Y<|Wm Y<|BD (BC (i) hRC.q.rd.any Y B0 A3 Y Y) Y Y<|Wf BZ Y<|Wl Y U3 (hci _)<|Wm Y<|Wm Y ?_;refine C3 (t:=31) Y (λg1=>?_)<|λg1=>?_
    ·refine AG Y Y Y Y Y<|AG Y Y Y Y Y<|AG Y Y Y Y Y<|AW Y Y Y Y<|AW Y Y Y Y<|AW Y Y Y Y<|AW Y Y Y Y<|AW Y Y Y Y<|AW Y Y Y Y<|AW Y Y Y Y<|AW Y Y Y Y<|AW Y Y Y Y<|AW Y Y Y Y<|AW Y Y Y Y<|Bu<|Bc Y Y Y Y Y Y<|Qk Y<|Qm Y<|Am<|AX Y<|Ar<|Qm Y<|Qm Y<|Qx (BC (i) hRC.q.rd.any Y B0 A3 Y Y) Y<|Qf BZ Y<|Ql Y U3 (hci _)<|Qm Y<|Qm Y<|Am<|Aj<|Ae<|Ak<|Ae<|Ae<|Ak<|Ae ?_;exact Ck Y Y Y (by rw[hret (O[i].c.id,20) (by unfold Jl;rw[gi,ah (.inl g1)])])
    ·refine AP (Au Y Y) Y Y Y Y<|AP (Ci Y Y Y) Y Y Y Y<|AP (Au Y Y) Y Y Y Y ?_;refine C3 (t:=34) Y (λg2=>?_)<|λg2=>?_
     ·have hip:i-1<O.length:=ω
      have gp:=hget (i-1) hip;have hcp:∀ms,Cell h5 ms ((AH ro).add ((i-1)*3)) (.w O[i-1].c.id):=λms=>(hRC.q.any (ms:=ms)).cell0 hip Y;refine AP (Au Y Y) Y Y Y Y<|AP (Au Y Y) Y Y Y Y<|AP (BC (i) hRC.q.rd.any Y B0 A3 Y Y) Y Y Y Y<|AP (oF BZ Y) Y Y Y Y<|AP (oL Y U3<|hci _) Y Y Y Y<|AP (Au Y Y) Y Y Y Y<|AP (Au Y Y) Y Y Y Y<|AP (oS Y) Y Y Y Y<|AP (BC (i-1) hRC.q.rd.any Y B0 A3 Y Y) Y Y Y Y<|AP (oF BZ Y) Y Y Y Y<|AP (oL Y U3<|hcp _) Y Y Y Y<|Bu<|Qg (Cq Y Y Y) Y<|Qg (CS Y Y Y) Y<|Qm Y<|Am ?_;refine Aw Y (λg3=>?_)<|λg3=>?_
      ·refine Ac<|Ad<|Qm Y<|Qm Y<|Qx (BC (i) hRC.q.rd.any Y B0 A3 Y Y) Y<|Qf BZ Y<|Ql Y U3 (hci _)<|Qm Y<|Qm Y<|Am<|Aj<|Ae<|Ak<|Ae<|Ae<|Ak<|Ae ?_;exact Ck Y Y Y (by rw[hret (O[i].c.id,20) (by unfold Jl;rw[gi,gp,ah (.inr ⟨ω,g3⟩)])])
      ·refine Ah ?_;exact AI _ ⟨Y,Y,Y,λq=>by rcases q with q|⟨_,q⟩;exact g1 q;rw[gp]at q;exact g3 q⟩ Qs
     ·refine AG Y Y Y Y Y<|AG Y Y Y Y Y<|AG Y Y Y Y Y<|AG Y Y Y Y Y<|AG Y Y Y Y Y<|AG Y Y Y Y Y<|AG Y Y Y Y Y<|AG Y Y Y Y Y<|AG Y Y Y Y Y<|AG Y Y Y Y Y<|AG Y Y Y Y Y<|Bu<|Qk Y<|Qg (CA Y Y Y) Y<|Qm Y<|Am<|AL Y<|Ah ?_;exact AI _ ⟨Y,Y,Y,λq=>by rcases q with q|⟨q,_⟩;exact g1 q;exact g2 ω⟩ Qs
   ·obtain⟨rfl,rfl,rfl,hok⟩:=hI;have hA1:Jl o w i=if CM w O[i].c≠0 then some (O[i].c.id,CM w O[i].c) else none:=by unfold Jl;rw[gi,ae hok]
    have hfv:=λms=>Ace W O[i] rw_ h5 lW hm1 hm2 hWst hRW (hRC.s _ (ao hil)) ms;rw[hW]at hfv;refine Ar<|Qm Y<|Qm Y<|Qm Y<|Qx (BC (i) hRC.q.rd.any Y B0 A3 Y Y) Y<|Qx (oG Y Jz A3<|hgi _) Y<|Qx (As Y call127 Y<|hfv _) Y<|Qm Y<|Bp<|Qm Y<|Qm Y<|Am ?_;refine Aw Y (λg4=>?_)<|λg4=>?_
    ·refine Ac<|Ad<|Qm Y<|Qm Y<|Qx (BC (i) hRC.q.rd.any Y B0 A3 Y Y) Y<|Qf BZ Y<|Ql Y U3 (hci _)<|Qm Y<|Qm Y<|Qm Y<|Am<|Aj<|Ak<|Ae<|Ae<|Ak<|Ae ?_;exact Ck Y Y Y (by rw[hret (O[i].c.id,CM w O[i].c) (by rw[hA1,ah g4])])
    ·refine Ah<|Ai<|Ab<|Ad<|Qm Y<|Qx (oA Y) Y<|Qm Y<|An ?_;exact Ao (O.length-(i+1)) _ ω ⟨i+1,Y,Y,Y,Y,ω,hround (by rw[hA1,ae g4])⟩ Qs
  ·obtain rfl:i=O.length:=ω
   have hck2:GQ (l.map Ce.c)=((range O.length).findSome? (KV o)).getD (0,0):=by rw[hck,El _ hno];rfl
   have hsecO:=hsec hno;refine Ax<|Aa<|Aa<|Af<|Ab<|Ac<|Ar<|Qm Y<|Am<|Ag ?_
   refine AB (λq s h' ms'=>∃(i:Nat),q=O.length-i/\s=[(4,ro),(8,.w i)]/\h5=h'/\ms'=[]/\i<=O.length/\∀b,b<i->KV o b=none)
    (O.length-0) _ ⟨0,rfl,rfl,rfl,rfl,ω,λb hb=>ω⟩ Qs ?_
   rintro q s h' ms' ⟨i,rfl,rfl,rfl,rfl,hi,hno2⟩;refine Ac<|Ar<|Qm Y<|Qm Y<|Qx (Aq hRC.q.rd.any Y B0 Y) Y<|Qm Y<|Am ?_;refine Aw Y (λhlt2=>?_)<|λhlt2=>?_
   ·have hil:i<O.length:=C7 hlt2;have gi:=hget i hil;have hci:∀ms,Cell h5 ms ((AH ro).add (i*3)) (.w O[i].c.id):=λms=>(hRC.q.any (ms:=ms)).cell0 hil Y;have hcd:∀ms,Cell h5 ms (((AH ro).add (i*3)).add 1) (.w O[i].c.dim):=λms=>(hRC.q.any (ms:=ms)).cell hil (f:=1) Y;have hgi:∀ms,Seg h5 ms ((AH ro).add (i*3)) (cC O[i]):=λms=>(hRC.q.any (ms:=ms)).seg hil;have oiv:=(hRC.s _ (ao hil)).rd.one;have hret:∀p,KV o i=some p->GQ (l.map Ce.c)=p:=λp hp=>by rw[hck2,Gk hno2 hp _ hil];rfl
    have hround:KV o i=none->∀b,b<i+1->KV o b=none:=λh b hb=>by
     rcases (ω:b<i\/b=i) with h1|rfl
     ·exact hno2 b h1
     ·exact h
    refine Ah<|Ab<|Ac<|Ag<|Ac<|Ar<|Qm Y<|Qm Y<|Qx (BC (i) hRC.q.rd.any Y B0 A3 Y Y) Y<|Qf Cj Y<|Ql Y U3 (hcd _)<|Qm Y<|Am ?_;refine Aw Y (λg5=>?_)<|λg5=>?_
    ·refine Ax<|Aa<|Af<|Ab<|Ad<|Qm Y<|Qx (oA Y) Y<|Qm Y<|An ?_;exact Ao (O.length-(i+1)) _ ω ⟨i+1,Y,Y,Y,Y,ω,hround (by unfold KV;rw[gi,ah g5])⟩ Qs
    ·have hB1:KV o i=if ER o O[i].c≠0 then some (O[i].c.id,ER o O[i].c) else none:=by unfold KV;rw[gi,ae g5]
     have hsv:=λms=>DY (Xm O O[i] ro h5 ω (by rw[hO];exact hsecO i hil) hOst hRC (hRC.s _ (ao hil))) ms;rw[hO]at hsv;refine Ah<|Ab<|Ar<|Qm Y<|Qm Y<|Qm Y<|Qx (BC (i) hRC.q.rd.any Y B0 A3 Y Y) Y<|Qx (oG Y Jz A3<|hgi _) Y<|Qx (As Y call128 Y<|hsv _) Y<|Qm Y<|Bp<|Qm Y<|Qm Y<|Am ?_;refine Aw Y (λg6=>?_)<|λg6=>?_
     ·refine Ac<|Ad<|Qm Y<|Qm Y<|Qx (BC (i) hRC.q.rd.any Y B0 A3 Y Y) Y<|Qf BZ Y<|Ql Y U3 (hci _)<|Qm Y<|Qm Y<|Qm Y<|Am<|Aj<|Ak<|Ae<|Ae<|Ak<|Ae ?_;exact Ck Y Y Y (by rw[hret (O[i].c.id,ER o O[i].c) (by rw[hB1,ah g6])])
     ·refine Ah<|Ai<|Ab<|Ad<|Qm Y<|Qx (oA Y) Y<|Qm Y<|An ?_;exact Ao (O.length-(i+1)) _ ω ⟨i+1,Y,Y,Y,Y,ω,hround (by rw[hB1,ae g6])⟩ Qs
   ·obtain rfl:i=O.length:=ω
    refine Ax<|Aa<|Aa<|Af<|Ab<|Ar<|Qm Y<|Qm Y<|Am<|Aj ?_;exact Ck Y Y Y (by rw[hck2,El _ hno2];rfl)
end
def Ic:List Int->List Int->Bool
 | x::a,y::b=>if x=y then Ic a b else decide (x<y)
 | _,_=>false
def D5(a b:List Int):Bool:=if a.length≠b.length then decide (a.length<b.length) else Ic a b
theorem SX(a b:List Int)(va vb:Value)(h:Hp)(hA:RdL cI 1 h [] va a)(hB:RdL cI 1 h [] vb b)(ms:List Hp):FnV Tryz.prog 131 #[va,vb] h ms (.bool (D5 a b)):=by
 refine DY ?_ ms;have o1:=hA.rd.one;have o2:=hB.rd.one;have la:=hA.len_le;have lb:=hB.len_le;refine Ap func131 ntmps131 Y Y<|λw0 hw0=>?_;simp only[AR];refine Ar<|Qm Y<|Am<|Ac<|Ar<|Qm Y<|Qx (Aq hA.rd.any Y AZ Y) Y<|Qm Y<|Qx (Aq hB.rd.any Y AZ Y) Y<|Qm Y<|Am ?_;refine Aw Y (λh1=>?_)<|λh1=>?_
 ·refine Ac<|Ad<|Qm Y<|Qx (Aq hA.rd.any Y AZ Y) Y<|Qm Y<|Qx (Aq hB.rd.any Y AZ Y) Y<|Qm Y<|Qm Y<|Am<|Aj<|Ae ?_;exact Al Y Y (by unfold D5;rw[ah ω];exact aw Value.bool (fa.2 ω))
 ·have hl:a.length=b.length:=ω
  have hbf:D5 a b=Ic a b:=by unfold D5;rw[ae (λq=>q hl)]
  refine Ah<|Ab<|Ac<|Ar<|Qm Y<|Am<|Ag ?_
  refine AB (λq s h' ms'=>∃(i:Nat),q=a.length-i/\s=[(0,va),(1,vb),(5,.w i)]/\h=h'/\ms'=[]/\i<=a.length/\Ic a b=Ic (a.drop i) (b.drop i))
   (a.length-0) _ ⟨0,rfl,rfl,rfl,rfl,ω,rfl⟩ Qs ?_
  rintro q s h' ms' ⟨i,rfl,rfl,rfl,rfl,hi,he⟩;refine Ac<|Ar<|Qm Y<|Qm Y<|Qx (Aq hA.rd.any Y AZ Y) Y<|Qm Y<|Am ?_;refine Aw Y (λhlt=>?_)<|λhlt=>?_
  ·have hia:i<a.length:=C7 hlt;have hib:i<b.length:=ω
   have hca:Cell h [] ((AH va).add (i*1)) (.w a[i]):=hA.cell0 hia Y;have hcb:Cell h [] ((AH vb).add (i*1)) (.w b[i]):=hB.cell0 hib Y
   have hd:Ic (a.drop i) (b.drop i)=if a[i]=b[i] then Ic (a.drop (i+1)) (b.drop (i+1)) else decide (a[i]<b[i]):=by rw[eo hia,eo hib];rfl
   refine Ah<|Ab<|Ac<|Ag<|Ac<|BB 8 CC κ Y<|Wm Y<|Wm Y<|BD (BC (i) hA.rd.any Y AZ Bk Y Y) Y Y<|Wl Y U3 (hca)<|Wm Y<|Wm Y<|BD (BC (i) hB.rd.any Y AZ Bk Y Y) Y Y<|Wl Y U3 (hcb)<|Bu<|Qm Y<|Am ?_;refine Aw Y (λh2=>?_)<|λh2=>?_
   ·refine Ac<|BB 8 CC κ Y<|Wm Y<|Wm Y<|BD (BC (i) hA.rd.any Y AZ Bk Y Y) Y Y<|Wl Y U3 (hca)<|Wm Y<|Wm Y<|BD (BC (i) hB.rd.any Y AZ Bk Y Y) Y Y<|Wl Y U3 (hcb)<|Bu<|Qm Y<|Qm Y<|Am<|Aj<|Ak<|Ae<|Ae<|Ak<|Ae ?_;exact Al Y Y (by rw[hbf,he,hd,ae h2])
   ·have h2:a[i]=b[i]:=aq λq=>h2 q;refine Ah<|Ai<|Ab<|Ad<|Qm Y<|Qx (oA Y) Y<|Qm Y<|An ?_;exact Ao (a.length-(i+1)) _ ω ⟨i+1,Y,Y,Y,Y,ω,by rw[he,hd,ah h2]⟩ Qs
  ·obtain rfl:i=a.length:=ω
   refine Ax<|Aa<|Aa<|Af<|Ab<|Ar<|Qm Y<|Am<|Aj ?_;exact Al Y Y (by rw[hbf,he,List.drop_length];rfl)
def KQ(x:Int)(l:List Int):List Int:=l.takeWhile (λy=>decide (y<x))++x::l.dropWhile (λy=>decide (y<x))
def Nm(x:Int)(l:List Int):Prop:=(l.dropWhile λy=>decide (y<x)).head?=some x
instance (x:Int) (l:List Int):Decidable (Nm x l):=by unfold Nm;infer_instance
def FQ:List Int->List Int->Option (List Int)
 | acc,[]=>some acc
 | acc,x::l=>if Nm x acc then FQ acc l else if x<0\/9<(KQ x acc).length then none else FQ (KQ x acc) l
theorem Ya{x:Int}{l:List Int}{k:Nat}(hk:k<=l.length)(h1:∀j (hj:j<l.length),j<k->l[j]<x)(h2:∀hk:k<l.length,¬l[k]<x):KQ x l=l.take k++x::l.drop k/\(Nm x l<->∃h:k<l.length,l[k]=x):=by
 obtain⟨e1,e2⟩:=EZ (λy:Int=>decide (y<x)) l k hk (λj hj hjk=>bq (h1 j hj hjk)) (λhk=>cg (h2 hk));unfold KQ Nm;rw[e1,e2];refine⟨Y,?_⟩;rw[List.head?_drop];by_cases hkl:k<l.length
 ·rw[aj hkl];exact⟨λq=>⟨hkl,bf q⟩,λ⟨_,q⟩=>by rw[q]⟩
 ·rw[eq ω];exact⟨λq=>(nomatch q),λ⟨q,_⟩=>ie q hkl⟩
theorem YA(x:Int)(l:List Int):(KQ x l).length=l.length+1:=by unfold KQ;have:=congrArg List.length (List.takeWhile_append_dropWhile (p:=fun y:Int=>decide (y<x)) (l:=l));rw[length_append]at this;rw[length_append,length_cons];omega
def Ae5(r:Value)(ms:List Hp):Option (List Int)->Prop
 | some l=>∃v m,ms=[m]/\r=.tuple #[v,.bool true]/\OwnL cI 1 3 m v l
 | none=>r=.tuple #[.nl,.bool false]
theorem Ad6(l:List Int)(v:Value)(h:Hp)(hl:l.length<=100000)(hR:RdL cI 1 h [] v l):FnT Tryz.prog 78 #[v] h [] (λr h' ms'=>h=h'/\Ae5 r ms' (FQ [] l)):=by
 have o1:=hR.rd.one;refine Ap func78 ntmps78 Y Y<|λw0 hw0=>?_;simp only[AR];refine Ar<|Qm Y<|Qm Y<|Bp<|Qm Y<|Am<|Ac<|Ar<|Qm Y<|Am<|Ag<|BV ?_
 refine AB (λq s h' ms'=>∃(i:Nat) (vo:Value) (mo:Hp) (acc:List Int),q=l.length-i/\s=[(0,v),(4,vo),(5,.w i)]/\h=h'/\ms'=[mo]/\i<=l.length/\acc.length<=9/\OwnL cI 1 3 mo vo acc/\FQ [] l=FQ acc (l.drop i))
  (l.length-0) _ ⟨0,_,Hp.emp,[],rfl,rfl,rfl,rfl,ω,by simp,OwnL.nil A8,rfl⟩ Qs ?_
 rintro q s h' ms' ⟨i,vo,mo,acc,rfl,rfl,rfl,rfl,hi,ha9,hO,he⟩;refine Ac<|Ar<|Qm Y<|Qm Y<|Qx (Aq hR.rd.any Y AZ Y) Y<|Qm Y<|Am ?_;refine Aw Y (λhlt=>?_)<|λhlt=>?_
 ·have hil:i<l.length:=C7 hlt;have hcl:=hO.rd (h:=h) (ms:=[mo]) Mh;have ovo:vo.oneCell'=true:=hcl.rd.one;have hci:∀ms,Cell h ms ((AH v).add (i*1)) (.w l[i]):=λms=>(hR.any (ms:=ms)).cell0 hil Y;have hd:FQ acc (l.drop i)=if Nm l[i] acc then FQ acc (l.drop (i+1)) else if l[i]<0\/9<(KQ l[i] acc).length then none else FQ (KQ l[i] acc) (l.drop (i+1)):=by rw[eo hil];rfl
  rw[hd]at he;refine Ah<|Ab<|Ac<|Ag<|Ar<|Qm Y<|Am ?_;refine Bv (λs h' ms'=>∃(k:Nat),s=[(0,v),(4,vo),(5,.w i),(6,.w k)]/\h=h'/\ms'=[mo]/\k<=acc.length/\KQ l[i] acc=acc.take k++l[i]::acc.drop k/\(Nm l[i] acc<->∃h:k<acc.length,acc[k]=l[i])) ?_<|λs h ms hI=>?_
  ·refine Ag ?_
   refine AB (λq s h' ms'=>∃(k:Nat),q=acc.length-k/\s=[(0,v),(4,vo),(5,.w i),(6,.w k)]/\h=h'/\ms'=[mo]/\k<=acc.length/\∀j (hj:j<acc.length),j<k->acc[j]<l[i])
    (acc.length-0) _ ⟨0,rfl,rfl,rfl,rfl,ω,λj hj h=>ω⟩ Qs ?_
   rintro q s h' ms' ⟨k,rfl,rfl,rfl,rfl,hk,hlo⟩;refine Ac<|Ac<|BB 13 CC κ Y<|Wm Y<|Wm Y<|BD (Aq hcl.rd Y AZ Y) Y Y<|Wm Y<|Wm Y ?_;refine C3 (t:=18) Y (λhs1=>?_)<|λhs1=>?_
   ·have hkl:k<acc.length:=C7 hs1;have hck:Cell h [mo] ((AH vo).add (k*1)) (.w acc[k]):=hcl.cell0 hkl Y;refine AP (Au Y Y) Y Y Y Y<|AP (Au Y Y) Y Y Y Y<|AP (BC (k) hcl.rd Y AZ Bk Y Y) Y Y Y Y<|AP (oL Y U3<|hck) Y Y Y Y<|AP (Au Y Y) Y Y Y Y<|AP (Au Y Y) Y Y Y Y<|AP (BC (i) hR.rd.any Y AZ Bk Y Y) Y Y Y Y<|AP (oL Y U3<|hci _) Y Y Y Y<|Bu<|Qg (Dy Y Y Y) Y<|Qm Y<|Am ?_;refine Aw Y (λhs2=>?_)<|λhs2=>?_
    ·refine Ah<|Ab<|Ag<|Ad<|Qm Y<|Qx (oA Y) Y<|Qm Y<|An<|Ai ?_
     exact Ao (acc.length-(k+1)) _ ω ⟨k+1,Y,Y,Y,Y,ω,λj hj h=>by
      rcases (ω:j<k\/j=k) with h1|rfl
      ·exact hlo j hj h1
      ·exact hs2⟩ Qs
    ·refine Ax<|Aa<|Aa<|Af ?_;exact AI _ ⟨k,Y,Y,Y,hk,Ya hk hlo λ_=>hs2⟩ Qs
   ·have hkl:k=acc.length:=ω
    refine AG Y Y Y Y Y<|AG Y Y Y Y Y<|AG Y Y Y Y Y<|AG Y Y Y Y Y<|AG Y Y Y Y Y<|AG Y Y Y Y Y<|AG Y Y Y Y Y<|AG Y Y Y Y Y<|Bu<|Qk Y<|Qm Y<|Am<|AL Y<|Ax<|Aa<|Aa<|Af ?_;exact AI _ ⟨k,Y,Y,Y,hk,Ya hk hlo λh=>ie h ω⟩ Qs
  ·obtain⟨k,rfl,rfl,rfl,hk,hins,hhas⟩:=hI;have hil2:=YA l[i] acc;refine Bv (λs h' ms'=>s=[(0,v),(4,vo),(5,.w i),(6,.w k)]/\h=h'/\ms'=[mo]/\¬Nm l[i] acc) ?_<|λs h ms hI=>?_
   ·refine Ac<|BB 13 CC κ Y<|Wm Y<|Wm Y<|BD (Aq hcl.rd Y AZ Y) Y Y<|Wm Y<|Wm Y ?_;refine C3 (t:=35) Y (λg1=>?_)<|λg1=>?_
    ·have hkl:k<acc.length:=C7 g1;have hck:Cell h [mo] ((AH vo).add (k*1)) (.w acc[k]):=hcl.cell0 hkl Y;refine AP (Au Y Y) Y Y Y Y<|AP (Au Y Y) Y Y Y Y<|AP (BC (k) hcl.rd Y AZ Bk Y Y) Y Y Y Y<|AP (oL Y U3<|hck) Y Y Y Y<|AP (Au Y Y) Y Y Y Y<|AP (Au Y Y) Y Y Y Y<|AP (BC (i) hR.rd.any Y AZ Bk Y Y) Y Y Y Y<|AP (oL Y U3<|hci _) Y Y Y Y<|Bu<|Qg (Cq Y Y Y) Y<|Qm Y<|Am ?_;refine Aw Y (λg2=>?_)<|λg2=>?_
     ·rw[ah (hhas.2 ⟨hkl,g2⟩)]at he;refine Ax<|Aa<|Af<|Ab<|Ad<|Qm Y<|Qx (oA Y) Y<|Qm Y<|An ?_;exact Ao (l.length-(i+1)) _ ω ⟨i+1,vo,mo,acc,Y,Y,Y,Y,ω,ha9,hO,he⟩ Qs
     ·refine Ah ?_;exact AI _ ⟨Y,Y,Y,λq=>g2 (hhas.1 q).2⟩ Qs
    ·refine AG Y Y Y Y Y<|AG Y Y Y Y Y<|AG Y Y Y Y Y<|AG Y Y Y Y Y<|AG Y Y Y Y Y<|AG Y Y Y Y Y<|AG Y Y Y Y Y<|AG Y Y Y Y Y<|Bu<|Qk Y<|Qm Y<|Am<|AL Y<|Ah ?_;exact AI _ ⟨Y,Y,Y,λq=>ie (hhas.1 q).1 ω⟩ Qs
   ·obtain⟨rfl,rfl,rfl,hnh⟩:=hI;rw[ae hnh]at he;refine Ac<|BB 8 CC κ rfl<|Wm rfl<|Wm rfl<|BD (BC (i) hR.rd.any rfl AZ Bk rfl rfl) rfl rfl<|Wl rfl U3 (hci _)<|Afc (HL [_] rfl AZ Bk rfl (by rfl) rfl rfl ω) rfl rfl<|Wm rfl<|Wm rfl<|BD (C8 (k) hcl.rd rfl AZ Bk rfl rfl ω ω) rfl rfl<|VD<|λg50=>AJ 0 (OwnL.blk (g:=g50) (el:=3) (F:=cI) (l:=[l[i]]) 1 A8 rfl δ) ((hO.rd (h:=h)<|List.Mem.tail _ Mh).sub_ hk<|am _) rfl AZ Bk rfl ω rfl rfl rfl BT (by(try simp only[ab,ee,af,ay,bw,ap]);omega) (by(try simp only[ab,ee,af,ay,bw,ap]);omega) rfl rfl rfl<|λv6 m6 hO6=>?_;have ov6:=hO6.o1;refine Qm rfl<|Bp ?_;refine AO [] [] [] rfl AZ Bk rfl ω κ (by repeat (first|exact ej|refine⟨⟨by first|rfl|exact(hcl.rd).cells|exact Rd.cells ‹_›|exact(RdL.rd ‹_›).cells,rfl,rfl⟩,?_⟩)) rfl rfl rfl rfl<|λg55=>?_;refine Qm rfl<|Qm rfl<|Qx (Io (k) hcl.rd rfl AZ Bk rfl rfl ω ω) rfl<|AJ 0 (FZ g55 A8) ((hO.rd (h:=h)<|List.Mem.tail _<|List.Mem.tail _ Mh).sub_ (Nat.zero_le _) hk) rfl AZ Bk rfl ω rfl rfl rfl BT (by(try simp only[ab,ee,af,ay,bw,ap]);omega) (by(try simp only[ab,ee,af,ay,bw,ap]);omega) rfl rfl rfl<|λv7 m7 hO7=>Qm rfl<|AJ 0 hO7 (hO6.rd (h:=h)<|List.Mem.tail _ Mh) rfl AZ Bk rfl ω rfl rfl rfl BT (by(try simp only[ab,ee,af,ay,bw,ap]);omega) (by(try simp only[ab,ee,af,ay,bw,ap]);omega) rfl rfl rfl<|λv8 m8 hO8=>?_
    have heq:[]++(acc.drop 0).take (k-0)++([l[i]]++(acc.drop k).take (acc.length-k))=KQ l[i] acc:=by rw[hins,drop_zero,Nat.sub_zero,take_of_length_le (l:=acc.drop k) (by rw[bw];omega)];rfl
    rw[heq]at hO8;have ov8:=hO8.o1;refine Qm Y<|Am<|Ac7 (Goes.perm<|List.perm_append_comm (l₁:=[m8]) (l₂:=[m6,mo])) ?_;refine Y3<|Y3 ?_;refine Ar<|Qm Y<|Qm Y<|Qx (BC (i) hR.rd.any Y AZ Bk Y Y) Y<|Ql Y U3 (hci _)<|Qm Y<|Qm Y ?_;refine AU (t:=67) Y (λg3=>?_)<|λg3=>?_
    ·rw[ah (.inl g3)]at he;refine Qk Y<|Qk Y<|Qk Y<|Qm Y<|Am<|AX Y<|Ar<|Qm Y<|Qm Y<|Am<|Aj<|Ak<|Ae<|Ae<|Ak<|Ae ?_;exact Ck Y Y Y (⟨Y,by rw[he];rfl⟩)
    ·refine Qg (Au Y Y) Y<|Qg (Lk (hO8.rd (h:=h) (ms:=[m8]) Mh).rd Y AZ Y) Y<|Qg (Ci Y Y Y) Y<|Qm Y<|Am ?_;refine Aw Y (λg4=>?_)<|λg4=>?_
     ·rw[ah (.inr ω)]at he;refine Ar<|Qm Y<|Qm Y<|Am<|Aj<|Ak<|Ae<|Ae<|Ak<|Ae ?_;exact Ck Y Y Y (⟨Y,by rw[he];rfl⟩)
     ·rw[ae ω]at he;refine Ah<|Ai<|Ab<|Ad<|Qm Y<|Qx (oA Y) Y<|Qm Y<|An ?_;exact Ao (l.length-(i+1)) _ ω ⟨i+1,v8,m8,_,Y,Y,Y,Y,ω,ω,hO8,he⟩ Qs
 ·have hie:i=l.length:=ω
  rw[hie,List.drop_length]at he;have he:FQ [] l=some acc:=he;refine Ax<|Aa<|Aa<|Af<|Ab<|Ar<|Qm Y<|Qm Y<|Qm Y<|Am<|Aj ?_;exact Ck Y Y Y (⟨Y,by rw[he];exact⟨vo,mo,Y,Y,hO⟩⟩)
def cW(v:Value):List Value:=[v]
theorem LQ:∀v,(cW v).length=1:=λ_=>rfl
def RdEs(h:Hp)(es:List Value)(ll:List (List Int)):Prop:=es.length=ll.length/\∀i (h1:i<es.length) (h2:i<ll.length),RdL cI 1 h [] es[i] ll[i]
theorem RdEs.up{h h':Hp}{es:List Value}{ll:List (List Int)}(R:RdEs h es ll)(l:h.le h'):RdEs h' es ll:=⟨R.1,λi h1 h2=>(R.2 i h1 h2).up l⟩
def EJ(ll:List (List Int))(s:List Int):Nat:=(ll.takeWhile λt=>D5 t s).length
def DE(ll:List (List Int))(s:List Int):Nat×Bool:=(EJ ll s,match ll[EJ ll s]? with|some t=>!D5 s t|none=>false)
theorem AbW{ll:List (List Int)}{s:List Int}{k:Nat}(hk:k<=ll.length)(h1:∀j (hj:j<ll.length),j<k->D5 ll[j] s=true)(h2:∀hk:k<ll.length,D5 ll[k] s=false):EJ ll s=k:=by obtain⟨e1,_⟩:=EZ (λt=>D5 t s) ll k hk h1 h2;unfold EJ;rw[e1,ay];omega
theorem UM(ll:List (List Int))(s:List Int)(es:List Value)(v vs:Value)(h:Hp)(hn:ll.length<=1000000)(hm:∀i j (hi:i<ll.length) (hj:j<ll.length),i<=j->D5 ll[j] s=true->D5 ll[i] s=true)(hV:RdL cW 1 h [] v es)(hE:RdEs h es ll)(hS:RdL cI 1 h [] vs s)(ms:List Hp):FnV Tryz.prog 79 #[v,vs] h ms (.tuple #[.int .i64 (DE ll s).1,.bool (DE ll s).2]):=by
 refine DY ?_ ms;have o1:=hV.rd.one;have o2:=hS.rd.one;have hle:=hE.1;refine Ap func79 ntmps79 Y Y<|λw0 hw0=>?_;simp only[AR];refine Ar<|Qm Y<|Qm Y<|Bp<|Qm Y<|Bp<|Qm Y<|Qx (Aq hV.rd.any Y Jx Y) Y<|Qm Y<|Am<|Ac<|Ag ?_
 refine AB (λq sl h' ms'=>∃(lo hi:Nat),q=hi-lo/\sl=[(0,v),(1,vs),(6,.w lo),(7,.w hi)]/\h=h'/\ms'=[]/\lo<=hi/\hi<=ll.length/\(∀j (hj:j<ll.length),j<lo->D5 ll[j] s=true)/\∀j (hj:j<ll.length),hi<=j->D5 ll[j] s=false)
  (ll.length-0) _ ⟨0,ll.length,rfl,by rw[<-hle],rfl,rfl,ω,ω,λj hj h=>ω,λj hj h=>ω⟩ Qs ?_
 rintro q sl h' ms' ⟨lo,hi,rfl,rfl,rfl,rfl,hlh,hhl,hlo,hhi⟩;refine Ac<|Ar<|Qm Y<|Qm Y<|Qm Y<|Am ?_;refine Aw Y (λhlt=>?_)<|λhlt=>?_
 ·obtain⟨m,hmm⟩:∃m,(lo+hi)/2=m:=⟨_,Y⟩
  have hml:m<ll.length:=ω
  have hme:m<es.length:=ω
  have hmt:((lo:Int)+hi)/2=(m:Int):=ω
  have hcm:Cell h [] ((AH v).add (m*1)) es[m]:=hV.cell0 hme Y;have oem:=(hE.2 m hme hml).rd.one;refine Ah<|Ab<|Ag<|Ar<|Qm Y<|Qm Y<|Qx (oA Y) Y<|Qx (DC Y Y Y ω ω) Y<|Qm Y<|Am ?_;rw[hmt];refine Ar<|Qm Y<|Qm Y<|Qx (BC (m) hV.rd.any Y Jx FA Y Y) Y<|Ql Y AZ (hcm)<|Qm Y<|Qx (As Y call131 Y<|SX ll[m] s _ _ h (hE.2 m hme hml) hS _) Y<|Am ?_;refine BW Y (λhb=>?_)<|λhb=>?_
  ·refine Ad<|Qm Y<|Qx (oA Y) Y<|Qm Y<|An<|Ai ?_;exact Ao (hi-(m+1)) _ ω ⟨m+1,hi,Y,Y,Y,Y,ω,ω,λj hj h=>hm j m hj hml ω hb,hhi⟩ Qs
  ·refine Ad<|Qm Y<|Qm Y<|An<|Ai ?_
   exact Ao (m-lo) _ ω ⟨lo,m,Y,Y,Y,Y,ω,ω,hlo,λj hj h=>by
    cases hq:D5 ll[j] s with
    | false=>rfl
    | true=>rw[hm m j hml hj h hq]at hb;cases hb⟩ Qs
 ·obtain rfl:lo=hi:=ω
  have hcnt:EJ ll s=lo:=AbW hhl hlo λhk=>hhi lo hk (am _);have hp1:(DE ll s).1=lo:=hcnt;refine Ax<|Aa<|Aa<|Af<|Ab<|Ar<|Qm Y<|Qm Y<|Qm Y<|Qx (Aq hV.rd.any Y Jx Y) Y<|Qm Y<|Qm Y ?_;refine AU (t:=32) Y (λg1=>?_)<|λg1=>?_
  ·have hll:lo<ll.length:=ω
   have hle2:lo<es.length:=ω
   have hcl:Cell h [] ((AH v).add (lo*1)) es[lo]:=hV.cell0 hle2 Y;have oel:=(hE.2 lo hle2 hll).rd.one;have hp2:(DE ll s).2=!D5 s ll[lo]:=by unfold DE;rw[hcnt,aj hll]
   refine Qg (Au Y Y) Y<|Qg (Au Y Y) Y<|Qg (Au Y Y) Y<|Qg (BC (lo) hV.rd.any Y Jx FA Y Y) Y<|Qg (oL Y AZ<|hcl) Y<|Qg (As Y call131 Y<|SX s ll[lo] _ _ h hS (hE.2 lo hle2 hll) _) Y<|Qg (Dn Y Y) Y<|Qm Y<|Qm Y<|Qm Y<|Am<|Aj ?_;exact Ck Y Y Y (by rw[hp1,hp2])
  ·have hp2:(DE ll s).2=false:=by unfold DE;rw[hcnt,eq ω]
   refine Qk Y<|Qk Y<|Qk Y<|Qk Y<|Qk Y<|Qk Y<|Qk Y<|Qm Y<|Qm Y<|Qm Y<|Am<|Aj ?_;exact Ck Y Y Y (by rw[hp1,hp2])
section
variable {all:List (List Int)} {a b:List Int}
theorem SA:∀a:List Int,Ic a a=false
 | []=>rfl
 | x::a=>by unfold Ic;rw[ah rfl];exact SA a
theorem LY:∀{a b c:List Int},Ic a b=true->Ic b c=true->Ic a c=true
 | x::a,y::b,z::c,h1,h2=>by
  unfold Ic at *;by_cases e1:x=y
  ·subst e1;rw[ah rfl]at h1;by_cases e2:x=z
   ·subst e2;rw[ah rfl]at h2 ⊢;exact LY h1 h2
   ·rw[ae e2]at h2 ⊢;exact h2
  ·rw[ae e1]at h1;have h1:=dq h1;by_cases e2:y=z
   ·subst e2;rw[ae e1];exact bq h1
   ·rw[ae e2]at h2;have h2:=dq h2;rw[ae ω];exact bq ω
 | [],_,_,h1,_=>by cases h1
 | _::_,[],_,h1,_=>by cases h1
 | _::_,_::_,[],_,h2=>by cases h2
theorem MR:∀{a b:List Int},a.length=b.length->a≠b->Ic a b=true\/Ic b a=true
 | [],[],_,h=>ie rfl h
 | x::a,y::b,hl,h=>by
  unfold Ic;by_cases e:x=y
  ·subst e;rw[ah rfl,ah rfl];exact MR (by simpa using hl)<|λq=>h (by rw[q])
  ·rw[ae e,ae (λq=>e q.symm)];rcases Int.lt_or_gt_of_ne e with h1|h1
   ·exact .inl<|bq h1
   ·exact .inr<|bq h1
 | [],_::_,hl,_=>by simp at hl
 | _::_,[],hl,_=>by simp at hl
theorem befF_iff:D5 a b=true<->a.length<b.length\/(a.length=b.length/\Ic a b=true):=by
 unfold D5;split
 ·rename_i h;rw[fq];exact⟨.inl,λq=>by rcases q with q|⟨q,_⟩;exact q;exact ie q h⟩
 ·rename_i h;have h:a.length=b.length:=ef.1 h;exact⟨λq=>.inr ⟨h,q⟩,λq=>by rcases q with q|⟨_,q⟩;omega;exact q⟩
theorem H3(a:List Int):D5 a a=false:=by
 cases h:D5 a a with
 | false=>rfl
 | true=>
  rcases befF_iff.1 h with q|⟨_,q⟩
  ·omega
  ·rw[SA]at q;cases q
theorem Mi{c:List Int}(h1:D5 a b=true)(h2:D5 b c=true):D5 a c=true:=by
 rw[befF_iff]at *;rcases h1 with h1|⟨h1,h3⟩<;>rcases h2 with h2|⟨h2,h4⟩
 ·exact .inl ω
 ·exact .inl ω
 ·exact .inl ω
 ·exact .inr ⟨ω,LY h3 h4⟩
theorem Ml(h:a≠b):D5 a b=true\/D5 b a=true:=by
 rw[befF_iff,befF_iff];rcases gk a.length b.length with h1|h1|h1
 ·exact .inl<|.inl h1
 ·rcases MR h1 h with h2|h2
  ·exact .inl<|.inr ⟨h1,h2⟩
  ·exact .inr<|.inr ⟨h1.symm,h2⟩
 ·exact .inr<|.inl h1
def SrtB(all:List (List Int)):Prop:=all.Pairwise λa b=>D5 a b=true
theorem SrtB.mono(H:SrtB all)(s:List Int):∀i j (hi:i<all.length) (hj:j<all.length),i<=j->D5 all[j] s=true->D5 all[i] s=true:=λi j hi hj hij h=>by
 rcases (ω:i=j\/i<j) with rfl|h1
 ·exact h
 ·exact Mi (ct.1 H i j hi hj h1) h
theorem JW(ll:List (List Int))(s:List Int):EJ ll s<=ll.length:=(List.takeWhile_sublist _).length_le
theorem Oy{α:Type}(p:α->Bool):∀l:List α,(∀j (hj:j<l.length),j<(l.takeWhile p).length->p l[j]=true)/\∀h:(l.takeWhile p).length<l.length,p l[(l.takeWhile p).length]=false
 | []=>⟨λj hj=>ie hj σ,λh=>ie h σ⟩
 | a::l=>by
  obtain⟨h1,h2⟩:=Oy p l;cases ha:p a with
  | false=>
   have e:(a::l).takeWhile p=[]:=by simp[List.takeWhile,ha]
   refine⟨λj _ h=>?_,λh=>?_⟩
   ·rw[e]at h;simp at h
   ·have:∀k (hk:k<(a::l).length),k=0->p (a::l)[k]=false:=λk hk q=>by subst q;exact ha
    exact this _ h (by rw[e];rfl)
  | true=>
   have e:(a::l).takeWhile p=a::l.takeWhile p:=by simp[List.takeWhile,ha]
   refine⟨λj hj h=>?_,λh=>?_⟩
   ·cases j with
    | zero=>exact ha
    | succ j=>
     rw[e,length_cons]at h;exact h1 j (by simpa using hj) (by omega)
   ·have:∀k (hk:k<(a::l).length),k=(l.takeWhile p).length+1->p (a::l)[k]=false:=λk hk q=>by subst q;exact h2 (by simpa using hk)
    exact this _ h (by rw[e];rfl)
theorem Kc(ll:List (List Int))(s:List Int){j:Nat}(hj:j<ll.length)(h:j<EJ ll s):D5 ll[j] s=true:=(Oy (λt=>D5 t s) ll).1 j hj h
theorem Kh{ll:List (List Int)}{s:List Int}(hk:EJ ll s<ll.length):D5 ll[EJ ll s] s=false:=(Oy (λt=>D5 t s) ll).2 hk
theorem NJ(H:SrtB all){s:List Int}:(DE all s).2=true<->s∈all:=by
 have hc:=JW all s;unfold DE;show(match all[EJ all s]? with|some t=>!D5 s t|none=>false)=true<->_;by_cases hk:EJ all s<all.length
 ·rw[aj hk];have h1:=Kh hk;show(!D5 s all[EJ all s])=true<->_;constructor
  ·intro h;have h2:D5 s all[EJ all s]=false:=by simpa using h
   have e:all[EJ all s]=s:=aq λq=>by
    rcases Ml q with r|r
    ·rw[h1]at r;cases r
    ·rw[h2]at r;cases r
   rw[<-e];exact ao hk
  ·intro h;obtain⟨j,hj,rfl⟩:=dm.1 h;rcases gk j (EJ all all[j]) with h3|h3|h3
   ·have:=Kc all all[j] hj h3;rw[H3]at this;cases this
   ·have e:all[EJ all all[j]]=all[j]:=by congr 1;omega
    rw[e,H3];rfl
   ·have h4:=ct.1 H _ j hk hj h3;rw[h1]at h4;cases h4
 ·rw[eq ω];refine⟨λh=>(nomatch h),λh=>?_⟩;obtain⟨j,hj,rfl⟩:=dm.1 h;have:=Kc all all[j] hj ω;rw[H3]at this;cases this
theorem Ry(H:SrtB all){j:Nat}(hj:j<all.length):(DE all all[j]).1=j:=by
 show EJ all all[j]=j;have hc:=JW all all[j];rcases gk j (EJ all all[j]) with h3|h3|h3
 ·have:=Kc all all[j] hj h3;rw[H3]at this;cases this
 ·exact h3.symm
 ·have hk:EJ all all[j]<all.length:=ω
  have h4:=ct.1 H _ j hk hj h3;rw[Kh hk]at h4;cases h4
def Ky(all:List (List Int))(s:List Int):List (List Int):=if(DE all s).2 then all else all.take (EJ all s)++s::all.drop (EJ all s)
theorem QU(H:SrtB all)(s:List Int):SrtB (Ky all s)/\∀t,t∈Ky all s<->t=s\/t∈all:=by
 unfold Ky;by_cases hp:(DE all s).2=true
 ·rw[ah hp];have:=(NJ H).1 hp;exact⟨H,λt=>⟨.inr,λh=>by rcases h with rfl|h;exact this;exact h⟩⟩
 ·rw[ae hp];have hn:s ∉ all:=λh=>hp ((NJ H).2 h);refine⟨?_,λt=>?_⟩
  ·have hlow:∀t∈all.take (EJ all s),D5 t s=true:=λt ht=>by obtain⟨j,hj,rfl⟩:=dm.1 ht;rw[ic];rw[ay]at hj;exact Kc all s ω ω
   have hhigh:∀t∈all.drop (EJ all s),D5 s t=true:=λt ht=>by
    obtain⟨j,hj,rfl⟩:=dm.1 ht;rw[List.getElem_drop];rw[bw]at hj;have hk:EJ all s<all.length:=ω
    have h1:=Kh hk
    have h2:D5 s all[EJ all s]=true:=by
     rcases Ml (a:=s) (b:=all[EJ all s]) (λq=>hn (by rw[q];exact ao hk)) with r|r
     ·exact r
     ·rw[h1]at r;cases r
    rcases f9 j with rfl|h3
    ·exact h2
    ·exact Mi h2<|ct.1 H _ (EJ all s+j) hk ω ω
   have hsplit:SrtB (all.take (EJ all s)++all.drop (EJ all s)):=by rw[dp];exact H
   obtain⟨p1,p2,p3⟩:=fh.1 hsplit;refine fh.2 ⟨p1,b7.2 ⟨hhigh,p2⟩,λa ha b hb=>?_⟩;rcases bg.1 hb with rfl|hb
   ·exact hlow a ha
   ·exact p3 a ha b hb
  ·rw[mem_append,bg];constructor
   ·rintro(h|h|h)
    ·exact .inr<|mem_of_mem_take h
    ·exact .inl h
    ·exact .inr<|gt h
   ·rintro(h|h)
    ·exact .inr<|.inl h
    ·rw[<-dp (EJ all s) all]at h;rcases bj.1 h with h|h
     ·exact .inl h
     ·exact .inr<|.inr h
theorem Yu(all:List (List Int))(s:List Int):(Ky all s).length<=all.length+1:=by
 unfold Ky;split
 ·omega
 ·rw[length_append,length_cons,length_take,length_drop];have:=JW all s;omega
def Fk(s:List Int)(b n:Nat):List Int:=((range n).filter λk=>b.testBit k).map λk=>s.getD k 0
theorem IX(s:List Int)(b n:Nat):Fk s b (n+1)=Fk s b n++(if b.testBit n then [s.getD n 0] else []):=by
 unfold Fk;rw[range_succ,List.filter_append,dd];congr 1;by_cases h:b.testBit n=true
 ·rw[ah h];simp[h]
 ·rw[ae h];simp[h]
def DG(all:List (List Int))(s:List Int):Nat->List (List Int)
 | 0=>all
 | b+1=>Ky (DG all s b) (Fk s (b+1) s.length)
def Di:List (List Int)->List (List Int)->Option (List (List Int))
 | all,[]=>some all
 | all,l::ll=>
  let a2:=match FQ [] l with
   | some s=>DG all s (2^s.length-1)
   | none=>all
  if 4000<a2.length then none else Di a2 ll
theorem E3(H:SrtB all)(s:List Int):∀b,SrtB (DG all s b)
 | 0=>H
 | b+1=>(QU (E3 H s b) _).1
theorem Jn(all:List (List Int))(s:List Int):∀b,(DG all s b).length<=all.length+b
 | 0=>am _
 | b+1=>by have h1:=Jn all s b;have h2:=Yu (DG all s b) (Fk s (b+1) s.length);show(Ky _ _).length<=_;omega
def Eu(all:List (List Int))(i:Nat):Cl:=
 ⟨(i:Int)+1,((all.getD i []).length:Int)-1,if(all.getD i []).length<=1 then [] else Dm ((range (all.getD i []).length).map λk=>(((DE all ((all.getD i []).eraseIdx k)).1:Int)+1,1-2*((k:Int)%2)))⟩
def DI(ll:List (List Int)):List Cl:=match Di [] ll with
 | some all=>(range all.length).map (Eu all)
 | none=>[]
end
section
variable {es:List Value}
theorem RdEs.nil(h:Hp):RdEs h [] []:=⟨rfl,λi h1=>ie h1 σ⟩
theorem O8(H:∀u∈es,u.oneCell'=true):∀a∈es,∀c∈cW a,c.oneCell'=true:=λa ha c hc=>by rw[bm.1 hc];exact H a ha
theorem Ob{e:Entry}{Q:Exit->Act->World->Prop}{ops:Array Oper}{r:List Oper}{s:AE}{ms:List Hp}:∀(pre:List Hp) (h:Hp),(∀h',h.le h'->(∀m∈pre,m.le h')->WL e ops Q r s h' ms)->WL e ops Q r s h (pre++ms)
 | [],h,k=>k h (BE) (λm hm=>by cases hm)
 | m::pre,h,k=>Cr λh1 l1 k1=>Ob pre h1 λh2 l2 k2=>k h2 (AD l1 l2) λm' hm=>by
  rcases bg.1 hm with rfl|hm
  ·exact AD k1 l2
  ·exact k2 m' hm
def Aaq(all:List (List Int)):Option (List Int)->List (List Int)
 | some s=>DG all s (2^s.length-1)
 | none=>all
theorem FO(all:List (List Int))(l:List Int)(ll:List (List Int)):Di all (l::ll)=if 4000<(Aaq all (FQ [] l)).length then none else Di (Aaq all (FQ [] l)) ll:=by show(let a2:=match FQ [] l with|some s=>DG all s (2^s.length-1)|none=>all;if 4000<a2.length then none else Di a2 ll)=_;cases FQ [] l<;>rfl
theorem V9{r:Value}{ms:List Hp}{o:Option (List Int)}(H:Ae5 r ms o)(h9:∀s,o=some s->s.length<=9):∃(vs:Value) (s:List Int) (b:Bool),r=.tuple #[vs,.bool b]/\((∀h,(∀m∈ms,m.le h)->RdL cI 1 h [] vs s)/\s.length<=9)/\∀all,Aaq all o=if b then DG all s (2^s.length-1) else all:=by
 cases o with
 | none=>exact⟨_,[],false,H,⟨λh _=>⟨Rd.nil _ _ _,A8⟩,by simp⟩,λall=>rfl⟩
 | some s=>
  obtain⟨v,m,rfl,e,O⟩:=H;exact⟨v,s,true,e,⟨λh hm=>O.rdh (hm m Mh),h9 s Y⟩,λall=>rfl⟩
theorem JG:∀(l acc:List Int) (s:List Int),acc.length<=9->FQ acc l=some s->s.length<=9
 | [],acc,s,h,e=>by have:acc=s:=bf e;rw[<-this];exact h
 | x::l,acc,s,h,e=>by
  unfold FQ at e;split at e
  ·exact JG l acc s h e
  ·split at e
   ·cases e
   ·exact JG l _ s ω e
theorem RdEs.ones{h:Hp}{ll:List (List Int)}(H:RdEs h es ll):∀u∈es,u.oneCell'=true:=λu hu=>by obtain⟨i,hi,rfl⟩:=dm.1 hu;exact(H.2 i hi (by have:=H.1;omega)).rd.one
theorem RdEs.ins{h:Hp}{ll:List (List Int)}(H:RdEs h es ll){v:Value}{t:List Int}(hv:RdL cI 1 h [] v t)(k:Nat)(hk:k<=ll.length):RdEs h (es.take k++v::es.drop k) (ll.take k++t::ll.drop k):=by
 have hl:=H.1;refine⟨by simp[hl],λi h1 h2=>?_⟩;rcases gk i k with h3|h3|h3
 ·rw[List.getElem_append_left (by rw[ay];omega),List.getElem_append_left (by rw[ay];omega),ic,ic];exact H.2 i ω ω
 ·subst h3;rw[getElem_append_right (by rw[ay];omega),getElem_append_right (by rw[ay];omega)];have e1:i-(es.take i).length=0:=by rw[ay];omega
  have e2:i-(ll.take i).length=0:=by rw[ay];omega
  simp only[e1,e2,List.getElem_cons_zero];exact hv
 ·rw[length_append,length_cons,length_take,length_drop]at h1 h2;rw[getElem_append_right (by rw[length_take];omega),getElem_append_right (by rw[length_take];omega)];have e1:i-(es.take k).length=(i-k-1)+1:=by rw[length_take];omega
  have e2:i-(ll.take k).length=(i-k-1)+1:=by rw[ay];omega
  simp only[e1,e2,List.getElem_cons_succ,List.getElem_drop];have e3:k+(i-k-1)=i-1:=ω
  simp only[e3];exact H.2 (i-1) ω ω
theorem Jf{all:List (List Int)}(H:SrtB all)(s:List Int):∀n,∀t,t∈DG all s n<->t∈all\/∃b,1<=b/\b<=n/\t=Fk s b s.length
 | 0,t=>⟨.inl,λh=>by rcases h with h|⟨b,h1,h2,_⟩;exact h;omega⟩
 | n+1,t=>by
  show t∈Ky (DG all s n) (Fk s (n+1) s.length)<->_;rw[(QU (E3 H s n) _).2 t,Jf H s n t];constructor
  ·rintro(h|h|⟨b,h1,h2,h3⟩)
   ·exact .inr ⟨n+1,ω,ω,h⟩
   ·exact .inl h
   ·exact .inr ⟨b,h1,ω,h3⟩
  ·rintro(h|⟨b,h1,h2,h3⟩)
   ·exact .inr<|.inl h
   ·rcases (ω:b<=n\/b=n+1) with h4|rfl
    ·exact .inr<|.inr ⟨b,h1,h4,h3⟩
    ·exact .inl h3
theorem SI(s:List Int)(b n:Nat):(Fk s b n).length<=n:=by unfold Fk;rw[be];exact bl (fd _ _) σ
theorem FM:∀(ll acc all:List (List Int)),SrtB acc->(∀t∈acc,t.length<=9)->Di acc ll=some all->∀t∈all,t.length<=9
 | [],acc,all,_,h,e=>by have:acc=all:=bf e;rw[<-this];exact h
 | l::ll,acc,all,hS,h,e=>by
  rw[FO]at e;split at e
  ·cases e
  ·refine FM ll _ all ?_ ?_ e
   ·cases FQ [] l with
    | none=>exact hS
    | some s=>exact E3 hS s _
   ·cases hs:FQ [] l with
    | none=>exact h
    | some s=>
     intro t ht;rcases (Jf hS s _ t).1 ht with h1|⟨b,_,_,rfl⟩
     ·exact h t h1
     ·exact bl (SI _ _ _)<|JG _ _ s σ hs
def SO(all:List (List Int))(S:List Int)(k:Nat):List (Int×Int):=(range k).map λk=>(((DE all (S.eraseIdx k)).1:Int)+1,1-2*((k:Int)%2))
theorem Xq(all:List (List Int))(S:List Int)(k:Nat):SO all S (k+1)=SO all S k++[(((DE all (S.eraseIdx k)).1:Int)+1,1-2*((k:Int)%2))]:=by unfold SO;rw[range_succ,dd];rfl
theorem J2(all:List (List Int))(S:List Int)(k:Nat):(SO all S k).length=k:=by simp[SO]
theorem Nl(ll:List (List Int))(es0:List Value)(v:Value)(h:Hp)(hn:ll.length<=100000)(hn2:∀l∈ll,l.length<=100000)(hV:RdL cW 1 h [] v es0)(hE:RdEs h es0 ll):FnT Tryz.prog 40 #[v] h [] (λr h' ms'=>h.le h'/\∃m A v',ms'=[m]/\r=.agg #[v']/\OwnL cC 3 50 m v' A/\A.map Ce.c=DI ll/\∀a∈A,RdL cD 2 h' [] a.v a.c.sd):=by
 have o1:=hV.rd.one;have hle:=hE.1;refine Ap func40 ntmps40 Y Y<|λw0 hw0=>?_;simp only[AR];refine Ar<|BS [.nl] Y Bd Y Y<|λg2=>Bp<|Qm Y<|Am<|Ac<|Ar<|Qm Y<|Am<|Ag<|BV ?_
 refine AB (λq s hh ms'=>∃(i:Nat) (v3:Value) (m3:Hp) (es:List Value) (all:List (List Int)),q=ll.length-i/\s=[(0,v),(2,.pt g2),(3,v3),(4,.w i)]/\h.le hh/\ms'=[m3,BI g2 27 [.nl]]/\i<=ll.length/\OwnL cW 1 22 m3 v3 es/\RdEs hh es all/\SrtB all/\all.length<=4000/\Di [] ll=Di all (ll.drop i))
  (ll.length-0) _ ⟨0,_,Hp.emp,[],[],rfl,rfl,BE,rfl,ω,OwnL.nil LQ,RdEs.nil _,List.Pairwise.nil,by simp,rfl⟩ Qs ?_
 rintro q s hh ms' ⟨i,v3,m3,es,all,rfl,rfl,lh,rfl,hi,hO,hEs,hSrt,hal,he⟩;have hV:=hV.up lh;have hE:=hE.up lh;refine Ac<|Ar<|Qm Y<|Qm Y<|Qx (Aq hV.rd.any Y Jx Y) Y<|Qm Y<|Am ?_;refine Aw Y (λhlt=>?_)<|λhlt=>?_
 ·have hil:i<ll.length:=ω
  have hie:i<es0.length:=ω
  have hci:∀ms,Cell hh ms ((AH v).add (i*1)) es0[i]:=λms=>(hV.any (ms:=ms)).cell0 hie Y;have oei:=(hE.2 i hie hil).rd.one;have hd:Di all (ll.drop i)=if 4000<(Aaq all (FQ [] ll[i])).length then none else Di (Aaq all (FQ [] ll[i])) (ll.drop (i+1)):=by rw[eo hil,FO]
  have ov3:=hO.o1;refine Ah<|Ab<|Ac<|Ag<|Ar<|Qm Y<|Qm Y<|Qx (BC (i) hV.rd.any Y Jx FA Y Y) Y<|Ql Y AZ (hci _)<|Qc call78 Y (Ad6 ll[i] es0[i] hh (hn2 _<|ao hil)<|hE.2 i hie hil)<|λrs h2 ms2 l2 hF=>?_;obtain⟨rfl,hF⟩:=hF;have hsl:∀s,FQ [] ll[i]=some s->s.length<=9:=λs e=>JG _ _ s σ e;obtain⟨vs,s,b,rfl,hRs,hmt⟩:=V9 hF hsl;refine Ob ms2 hh λh3 l3 k3=>?_;obtain⟨hRs,hs9⟩:=hRs;have hRs:=hRs h3 k3;have hEs:=hEs.up l3;have ovs:=hRs.rd.one;refine Qm Y<|Qm Y<|Qm Y<|Qm Y<|Qm Y<|Am ?_;obtain⟨P,hP⟩:∃P,2^s.length=P:=⟨_,Y⟩
  have hP1:1<=P:=by rw[<-hP];exact Nat.one_le_two_pow
  have hP2:P<=512:=by rw[<-hP];exact Nat.pow_le_pow_right (n:=2) δ hs9
  refine Bv (λsl h' ms'=>∃(v3:Value) (m3:Hp) (es:List Value) (A:List (List Int)),sl=[(0,v),(2,.pt g2),(3,v3),(4,.w i)]/\h3.le h'/\ms'=[m3,BI g2 27 [.nl]]/\OwnL cW 1 22 m3 v3 es/\RdEs h' es A/\SrtB A/\A.length<=4600/\A=(if b then DG all s (P-1) else all)) ?_<|λs h ms hI=>?_
  ·refine Ac<|Ad<|Qm Y<|Am<|Ag ?_
   refine AB (λq sl h' ms'=>∃(n:Nat) (v3:Value) (m3:Hp) (es:List Value),q=P-1-n/\sl=[(0,v),(2,.pt g2),(3,v3),(4,.w i),(5,vs),(6,.bool b),(7,.w ((n:Int)+1))]/\h3.le h'/\ms'=[m3,BI g2 27 [.nl]]/\n<=P-1/\OwnL cW 1 22 m3 v3 es/\RdEs h' es (if b then DG all s n else all))
    (P-1-0) _ ⟨0,v3,m3,es,rfl,rfl,BE,rfl,ω,hO,by cases b<;>exact hEs⟩ Qs ?_
   rintro q sl h4 ms' ⟨n,v3,m3,es,rfl,rfl,l4,rfl,hnP,hO,hEs⟩;have hRs:=hRs.up l4;refine Ac<|Ar<|Qm Y<|Qm Y ?_;refine N9 (t:=35) Y (λhb=>?_)<|λhb=>?_
   ·refine Qg (Au Y Y) Y<|Qg (Au Y Y) Y<|Qg (Aq hRs.rd.any Y AZ Y) Y<|Qg (Ab5 Y Y Y ω) Y<|Qg (Dy Y Y Y) Y<|Qm Y<|Am ?_;refine Aw Y (λhlt3=>?_)<|λhlt3=>?_
    ·have hnl:n+1<P:=by rw[hP]at hlt3;omega
     subst hb;have hEs:RdEs h4 es (DG all s n):=hEs;have ov3:=hO.o1;have ovs:=hRs.rd.one;have hfl:=Jn all s n;have hFs:=E3 hSrt s n;refine Ah<|Ab ?_;refine Bv (λsl h' ms'=>∃(v3:Value) (m3:Hp) (es:List Value),sl=[(0,v),(2,.pt g2),(3,v3),(4,.w i),(5,vs),(6,.bool true),(7,.w ((n:Int)+1))]/\h4.le h'/\ms'=[m3,BI g2 27 [.nl]]/\OwnL cW 1 22 m3 v3 es/\RdEs h' es (DG all s (n+1))) ?_<|λs h ms hI=>?_
     ·refine Ag<|Ar<|Qm Y<|Am<|BV ?_;refine Bv (λsl h' ms'=>∃(v8:Value) (m8:Hp),sl=[(0,v),(2,.pt g2),(3,v3),(4,.w i),(5,vs),(6,.bool true),(7,.w ((n:Int)+1)),(8,v8)]/\h4=h'/\ms'=[m8,m3,BI g2 27 [.nl]]/\OwnL cI 1 3 m8 v8 (Fk s (n+1) s.length)) ?_<|λs h ms hI=>?_
      ·refine Ac<|Ad<|Qm Y<|Am<|Ag ?_
       refine AB (λq sl h' ms'=>∃(a:Nat) (v8:Value) (m8:Hp),q=s.length-a/\sl=[(0,v),(2,.pt g2),(3,v3),(4,.w i),(5,vs),(6,.bool true),(7,.w ((n:Int)+1)),(8,v8),(9,.w a)]/\h4=h'/\ms'=[m8,m3,BI g2 27 [.nl]]/\a<=s.length/\OwnL cI 1 3 m8 v8 (Fk s (n+1) a))
        (s.length-0) _ ⟨0,_,Hp.emp,rfl,rfl,rfl,rfl,ω,OwnL.nil A8⟩ Qs ?_
       rintro q sl h' ms' ⟨a,v8,m8,rfl,rfl,rfl,rfl,ha,hO8⟩;refine Ac<|Ar<|Qm Y<|Qm Y<|Qx (Aq hRs.rd.any Y AZ Y) Y<|Qm Y<|Am ?_;refine Aw Y (λhla=>?_)<|λhla=>?_
       ·have hsa:a<s.length:=ω
        have hbit:(n+1).testBit a=decide ((n+1)/2^a%2=1):=by rw[Nat.testBit_eq_decide_div_mod_eq]
        have hsub:=IX s (n+1) a;have hca:∀ms,Cell h4 ms ((AH vs).add (a*1)) (.w s[a]):=λms=>(hRs.any (ms:=ms)).cell0 hsa Y;have hga:s.getD a 0=s[a]:=by simp[hsa]
        have ov8:=hO8.o1;have hl8:=SI s (n+1) a;refine Ah<|Ab<|Ac<|Ag<|Ar<|Qm Y<|Qm Y<|Qx (Abs Y (n:=a) (a:=n+1) Y Y ω) Y ?_;refine Qx (Adn Y Y Y (by have:=Nat.div_le_self (n+1) (2^a);omega)) Y ?_;refine Qm Y<|Am ?_;refine Aw Y (λhod=>?_)<|λhod=>?_
        ·rw[hbit,bq ω,ah rfl,hga]at hsub;refine Ad<|Qm Y<|Qm Y<|Qm Y<|Qx (BC (a) hRs.rd.any Y AZ Bk Y Y) Y<|Ql Y U3 (hca _)<|Ay [_] Y AZ Bk Y (by rfl) Y Y ω Y Y Y<|λg60=>AJ 1 hO8 (RdL.one A8 (x:=s[a]) Mh Y) Y AZ Bk Y ω Y Y Y BT (by(try simp only[ab]);omega) (by(try simp only[ab]);omega) rfl rfl rfl<|λv9 m9 hO9=>?_;rw[<-hsub]at hO9;refine Qm Y<|An<|Ai<|Ab<|Ad<|Qm Y<|Qx (oA Y) Y<|Qm Y<|An<|AQ ?_;exact Ao (s.length-(a+1)) _ ω ⟨a+1,v9,m9,Y,Y,Y,Y,ω,hO9⟩ Qs
        ·rw[hbit,decide_eq_false (by omega),if_neg (by decide),append_nil]at hsub;refine Ah (Ai (Ab (Ad (Qm rfl (Qx (oA rfl) rfl (Qm rfl (An ?_)))))));exact Ao (s.length-(a+1)) _ (by omega) ⟨a+1,v8,m8,rfl,rfl,rfl,rfl,by omega,by rw[hsub];exact hO8⟩ Qs
       ·obtain rfl:a=s.length:=ω
        refine Ax<|Aa<|Aa<|Af ?_;exact AI _ ⟨v8,m8,Y,Y,Y,hO8⟩ Qs
      ·obtain⟨v8,m8,rfl,rfl,rfl,hO8⟩:=hI;obtain⟨t,ht⟩:∃t,Fk s (n+1) s.length=t:=⟨_,Y⟩
       obtain⟨A,hA⟩:∃A,DG all s n=A:=⟨_,Y⟩
       have hfs:DG all s (n+1)=Ky A t:=by rw[<-ht,<-hA];rfl
       rw[ht]at hO8;rw[hA]at hfl hFs hEs;refine DA λh5 l5 k5=>?_;have hT:=hO8.rdh (ms:=[]) k5;have ov8:=hT.rd.one;have hEs:=hEs.up l5;have hAe:=hEs.1;have hoe:∀u∈es,u.oneCell'=true:=hEs.ones;refine Ar<|Qm Y<|Qm Y<|Qx (As Y call79 Y<|Oi λh' hl hm=>UM A t es v3 v8 h' ω (hFs.mono t) (hO.rdh<|hm _ Mh) (hEs.up hl) (hT.up hl) []) Y<|Qm Y<|Qm Y<|Qm Y<|Qm Y<|Qm Y<|Am ?_;have hcb:=JW A t;obtain⟨k,hk⟩:∃k,EJ A t=k:=⟨_,Y⟩
       have hp1:(DE A t).1=k:=hk;rw[hp1];rw[hk]at hcb;refine Ar<|Qm Y<|Qm Y<|Am ?_;refine BW Y (λhth=>?_)<|λhth=>?_
       ·have hth:(DE A t).2=false:=by simpa using hth
        have hins:Ky A t=A.take k++t::A.drop k:=by unfold Ky;rw[hth,hk];rfl
        have hcl:=hO.rd (h:=h5) (ms:=[m3]) Mh;refine Ar<|Qm rfl<|Ay [_] rfl Jx FA rfl ((RdL.rd ‹_›).cells) rfl rfl ω rfl rfl rfl<|λg71=>Qm rfl<|Qm rfl<|Qx (QR (k) hcl.rd rfl Jx FA rfl rfl ω ω) rfl<|Cs 0 (OwnL.blk (g:=g71) (el:=22) (F:=cW) (l:=[v8]) 1 LQ rfl δ) ((hO.rd (h:=h5)<|List.Mem.tail _ Mh).sub_ ω<|am _) rfl Jx FA rfl ω rfl rfl rfl (O8 λu hu=>hoe u<|gt<|mem_of_mem_take hu) (by(try simp only[ab,ee,af,ay,bw,ap]);omega) (by(try simp only[ab,ee,af,ay,bw,ap]);omega) rfl rfl rfl<|λv6 m6 hO6=>?_;have ov6:=hO6.o1;refine Qm rfl<|GX ?_;refine AO [] [] [] rfl Jx FA rfl ω κ (by repeat (first|exact ej|refine⟨⟨by first|rfl|exact(hRs.rd.any).cells|exact(hcl.rd).cells|exact Rd.cells ‹_›|exact(RdL.rd ‹_›).cells,rfl,rfl⟩,?_⟩)) rfl rfl rfl rfl<|λg76=>?_;refine Qm rfl<|Qm rfl<|Qx (Io (k) hcl.rd rfl Jx FA rfl rfl ω ω) rfl<|Cs 0 (FZ g76 LQ) ((hO.rd (h:=h5)<|List.Mem.tail _<|List.Mem.tail _ Mh).sub_ (Nat.zero_le _) ω) rfl Jx FA rfl ω rfl rfl rfl (O8 λu hu=>hoe u<|mem_of_mem_take hu) (by(try simp only[ab,ee,af,ay,bw,ap]);omega) (by(try simp only[ab,ee,af,ay,bw,ap]);omega) rfl rfl rfl<|λv7 m7 hO7=>Qm rfl ?_
        have hoe9:∀u∈v8::(es.drop k).take (es.length-k),u.oneCell'=true:=λu hu=>by
         rcases bg.1 hu with rfl|hu
         ·exact ov8
         ·exact hoe u<|gt<|mem_of_mem_take hu
        refine Cs 0 hO7 (hO6.rd (h:=h5)<|List.Mem.tail _ Mh) Y Jx FA Y ω Y Y Y (O8 hoe9) (by(try simp only[ab,ee,af,ay,bw,ap]);omega) (by(try simp only[ab,ee,af,ay,bw,ap]);omega) rfl rfl rfl<|λv9 m9 hO9=>?_
        have heq:[]++(es.drop 0).take (k-0)++([v8]++(es.drop k).take (es.length-k))=es.take k++v8::es.drop k:=by rw[drop_zero,Nat.sub_zero,take_of_length_le (l:=es.drop k) (by rw[bw];omega)];rfl
        rw[heq]at hO9;have ov9:=hO9.o1;refine Qm Y<|An<|Ai<|D4 1 Y<|D4 1 Y ?_;exact AI _ ⟨v9,m9,_,Y,l5,Y,hO9,by rw[hfs,hins];exact hEs.ins hT k ω⟩ Qs
       ·have hth:(DE A t).2=true:=by simpa using hth
        have hins:Ky A t=A:=by unfold Ky;rw[hth];rfl
        refine Ah<|Ai ?_;exact AI _ ⟨v3,m3,es,Y,l5,Y,hO,by rw[hfs,hins];exact hEs⟩ Qs
     ·obtain⟨v3,m3,es,rfl,l5,rfl,hO,hEs⟩:=hI;refine Ad<|Qm Y<|Qx (oA Y) Y<|Qm Y<|An ?_;exact Ao (P-1-(n+1)) _ ω ⟨n+1,v3,m3,es,Y,Y,AD l4 l5,Y,ω,hO,hEs⟩ Qs
    ·have hnl:n=P-1:=by rw[hP]at hlt3;omega
     subst hb;have hEs:RdEs h4 es (DG all s n):=hEs;rw[hnl]at hEs;have hfl:=Jn all s (P-1);refine Ax<|Aa<|Aa<|Af ?_;exact AI _ ⟨v3,m3,es,_,Y,l4,Y,hO,hEs,E3 hSrt s _,ω,Y⟩ Qs
   ·subst hb;have hEs:RdEs h4 es all:=hEs;refine Qk Y<|Qk Y<|Qk Y<|Qk Y<|Qk Y<|Qm Y<|Am<|AL Y<|Ax<|Aa<|Aa<|Af ?_;exact AI _ ⟨v3,m3,es,all,Y,l4,Y,hO,hEs,hSrt,ω,Y⟩ Qs
  ·obtain⟨v3,m3,es,A,rfl,l4,rfl,hO,hEs,hSrtA,hAl,hA⟩:=hI;have hAe:=hEs.1;have hmtA:=hmt all;rw[hP,<-hA]at hmtA;rw[hmtA]at hd;have ov3:=hO.o1;refine Ar<|Qm Y<|Qx (Lk (hO.rd (h:=h) (ms:=[m3]) Mh).rd Y Jx Y) Y<|Qm Y<|Am ?_;refine Aw Y (λhbig=>?_)<|λhbig=>?_
   ·rw[ah ω]at hd;refine BV<|Ar ?_;refine Qx (AN AbV [.nl] [] [_] rfl Bd rfl rfl (by repeat (first|exact ej|refine⟨⟨rfl,rfl,rfl⟩,?_⟩|refine⟨⟨((hO.rd (h:=h) (ms:=[m3]) Mh).rd).cells,rfl,rfl⟩,?_⟩)) rfl) rfl ?_;refine Sa 2 [_] Bd rfl (by simp[Value.oneCell']) ?_;refine Am<|Aj<|Ak<|Ae<|Ae<|Ak<|Ae<|D4 1 rfl ?_;exact Bx (vs:=[_]) 1 rfl rfl C9 rfl Bd rfl rfl (⟨AD lh (AD l2 (AD l3 l4)),Hp.emp,[],_,rfl,rfl,OwnL.nil DP,by unfold DI;rw[he,hd];rfl,λa ha=>nomatch ha⟩)
   ·rw[ae ω]at hd;refine Ah<|Ai<|Ab<|Ad<|Qm Y<|Qx (oA Y) Y<|Qm Y<|An ?_;exact Ao (ll.length-(i+1)) _ ω ⟨i+1,v3,m3,es,A,Y,Y,AD lh<|AD l2<|AD l3 l4,Y,ω,hO,hEs,hSrtA,ω,by rw[he,hd]⟩ Qs
 ·obtain rfl:i=ll.length:=ω
  have he:Di [] ll=some all:=by rw[he,List.drop_length];rfl
  have h9:=FM ll [] all List.Pairwise.nil (λt ht=>nomatch ht) he;have hsF:DI ll=(range all.length).map (Eu all):=by unfold DI;rw[he]
  have hAe:=hEs.1;refine DA λh2 l2 k2=>?_;have hR3:=hO.rdh (ms:=[]) k2;have hEs:=hEs.up l2;have ov3:v3.oneCell'=true:=hR3.rd.one;refine Ax<|Aa<|Aa<|Af<|Ab<|Ar<|BS [.nl] Y Bd Y Y<|λg13=>Am<|BV<|Ac<|Ar<|Qm Y<|Am<|Ag ?_
  refine AB (λq sl h' ms'=>∃(j:Nat) (vA:Value) (mA:Hp) (A:List Ce),q=all.length-j/\sl=[(0,v),(2,.pt g2),(3,v3),(13,.pt g13),(14,.w j)]/\h2.le h'/\ms'=[mA,BI g13 27 [vA],BI g2 27 [.nl]]/\j<=all.length/\OwnL cC 3 50 mA vA A/\A.map Ce.c=(range j).map (Eu all)/\∀a∈A,RdL cD 2 h' [] a.v a.c.sd)
   (all.length-0) _ ⟨0,_,Hp.emp,[],rfl,rfl,BE,rfl,ω,OwnL.nil DP,rfl,λa ha=>nomatch ha⟩ Qs ?_
  rintro q sl h4 ms' ⟨j,vA,mA,A,rfl,rfl,l4,rfl,hj,hOA,hA,hSd⟩;have hR3:=hR3.up l4;have hEs:=hEs.up l4;refine Ac<|Ar<|Qm Y<|Qm Y<|Qx (Aq hR3.rd.any Y Jx Y) Y<|Qm Y<|Am ?_;refine Aw Y (λhjl=>?_)<|λhjl=>?_
  ·have hjl:j<all.length:=ω
   have hje:j<es.length:=ω
   obtain⟨S,hS⟩:∃S,all[j]=S:=⟨_,Y⟩
   have hS9:S.length<=9:=by rw[<-hS];exact h9 _<|ao hjl
   have hRS:RdL cI 1 h4 [] es[j] S:=by rw[<-hS];exact hEs.2 j hje hjl
   have hcj:∀ms,Cell h4 ms ((AH v3).add (j*1)) es[j]:=λms=>(hR3.any (ms:=ms)).cell0 hje Y;have ovS:=hRS.rd.one;have ovA:=hOA.o1;have hgd:all.getD j []=S:=by simp[hjl,hS]
   refine Ah<|Ab<|Ac<|Ag<|Ar<|Qm rfl<|Qx (oA rfl) rfl<|Qm rfl<|Qm rfl<|Qx (BC (j) hR3.rd.any rfl Jx FA rfl rfl) rfl<|Ql rfl AZ (hcj _)<|Qx (Aq hRS.rd.any rfl AZ rfl) rfl<|Qx (oS rfl) rfl ?_;refine Qx (AN Ox [.w 0,.w 0,.nl] [(0,_),(1,_)] [_,_,_] rfl A3 rfl rfl (by repeat (first|exact ej|refine⟨⟨rfl,rfl,rfl⟩,?_⟩|refine⟨⟨((hO.rd (h:=h) (ms:=[m3]) Mh).rd).cells,rfl,rfl⟩,?_⟩)) rfl) rfl ?_;refine BS [.w 0,.w 0,.nl] rfl A3 rfl rfl<|λg15=>?_;refine Sa 0 [_,_,_] A3 rfl (by simp[Value.oneCell']) ?_;refine Am<|BV ?_;obtain⟨D,hD⟩:∃D:Int,(S.length:Int)-1=D:=⟨_,rfl⟩
   rw[hD];refine Bv (λsl h' ms'=>∃(vS:Value) (mS:Hp),sl=[(0,v),(2,.pt g2),(3,v3),(13,.pt g13),(14,.w j),(15,.pt g15)]/\h4=h'/\ms'=[mS,BI g15 50 [.w ((j:Int)+1),.w D,vS],mA,BI g13 27 [vA],BI g2 27 [.nl]]/\OwnL cD 2 52 mS vS (if S.length<=1 then [] else SO all S S.length)) ?_<|λs h ms hI=>?_
   ·refine Ac<|Ad<|Qm Y<|Am<|Ag ?_
    refine AB (λq sl h' ms'=>∃(k:Nat) (vS:Value) (mS:Hp),q=S.length-k/\sl=[(0,v),(2,.pt g2),(3,v3),(13,.pt g13),(14,.w j),(15,.pt g15),(16,.w k)]/\h4=h'/\ms'=[mS,BI g15 50 [.w ((j:Int)+1),.w D,vS],mA,BI g13 27 [vA],BI g2 27 [.nl]]/\k<=S.length/\(S.length<=1->k=0)/\OwnL cD 2 52 mS vS (SO all S k))
     (S.length-0) _ ⟨0,_,Hp.emp,rfl,rfl,rfl,rfl,ω,λ_=>rfl,OwnL.nil F6⟩ Qs ?_
    rintro q sl h' ms' ⟨k,vS,mS,rfl,rfl,rfl,rfl,hk,hk0,hOS⟩;refine Ac<|Ar<|Qm Y<|Qm Y<|Qm Y<|Qx (BC (j) hR3.rd.any Y Jx FA Y Y) Y<|Ql Y AZ (hcj _)<|Qx (Aq hRS.rd.any Y AZ Y) Y<|Qm Y<|Qm Y ?_;refine AU (t:=109) Y (λhk1=>?_)<|λhk1=>?_
    ·have hkS:k<S.length:=ω
     refine Qg (oF Cj Y) Y<|Qg (oL Y U3<|Cell.blk 1 Y Y) Y<|Qg (Ci Y Y Y) Y<|Qm Y<|Am ?_;refine Aw Y (λhdp=>?_)<|λhdp=>?_
     ·have hD1:1<=D:=ω
      have ovS2:=hOS.o1;refine Ah<|Ab<|Ac<|Ag<|Ac<|AS (n:=17) (bs:=[ii,ig,ig,ig,ig,ig,ig,ii,ig,ig,ig,ig,ig,ig,ig,ii,ii]) [ii,ig,ig,ig,ig,ig,ig,ii,ig,ig,ig,ig,ig,ig,ig] CC κ κ rfl rfl<|Qq rfl<|Qq rfl<|Qp rfl (BC (j) hR3.rd.any rfl Jx FA rfl rfl)<|QL rfl AZ (hcj _)<|Qq rfl<|Qp rfl (DL (k) hRS.rd.any rfl AZ Bk rfl rfl ω ω)<|Qq rfl<|Qq rfl<|Qp rfl (BC (j) hR3.rd.any rfl Jx FA rfl rfl)<|QL rfl AZ (hcj _)<|Qq rfl<|Qp rfl (oA rfl)<|Qp rfl (C8 (k+1) hRS.rd.any rfl AZ Bk rfl rfl ω ω) ?_;unfold Dd;simp only[bh,ap];refine Qo 0 rfl ?_;refine AO [] [] [] rfl AZ Bk rfl ω κ (by repeat (first|exact ej|refine⟨⟨by first|rfl|exact(hR3.rd.any).cells|exact(hRS.rd.any).cells|exact((hO.rd (h:=h) (ms:=[m3]) Mh).rd).cells|exact Rd.cells ‹_›|exact(RdL.rd ‹_›).cells,rfl,rfl⟩,?_⟩)) rfl rfl rfl rfl<|λg116=>?_;refine Qw<|Qo 7 rfl<|AJ 0 (FZ g116 A8) (hRS.any.sub_ (Nat.zero_le _) hk) rfl AZ Bk rfl ω rfl rfl rfl BT (by(try simp only[ab,ee,af,ay,bw,ap]);omega) (by(try simp only[ab,ee,af,ay,bw,ap]);omega) rfl rfl rfl<|λv6 m6 hO6=>Qw<|Qo 15 rfl<|AJ 0 hO6 (hRS.any.sub_ hkS<|am _) rfl AZ Bk rfl ω rfl rfl rfl BT (by(try simp only[ab,ee,af,ay,bw,ap]);omega) (by(try simp only[ab,ee,af,ay,bw,ap]);omega) rfl rfl rfl<|λv7 m7 hO7=>Qw<|Qo 16 rfl<|Qm rfl<|Qw<|Qe ?_
      have heq:[]++(S.drop 0).take (k-0)++(S.drop (k+1)).take (S.length-(k+1))=S.eraseIdx k:=by rw[drop_zero,Nat.sub_zero,take_of_length_le (l:=S.drop (k+1)) (by rw[bw];exact am _),List.eraseIdx_eq_take_drop_succ];rfl
      rw[heq]at hO7;refine Ab ?_;have ov7:=hO7.o1;refine Ar<|Qm Y<|Qm Y<|Qx (As Y call79 Y<|Oi λh' hl hm=>UM all (S.eraseIdx k) es v3 v7 h' ω (hSrt.mono _) (hR3.up hl) (hEs.up hl) (hO7.rdh<|hm _ Mh) []) Y<|Qm Y<|Qm Y<|Qm Y<|Qm Y<|Qm Y<|Am<|JY ?_;obtain⟨n,hn⟩:∃n,(DE all (S.eraseIdx k)).1=n:=⟨_,Y⟩
      have hnl:n<=all.length:=by rw[<-hn];exact JW _ _
      have hrs:=Xq all S k;rw[hn]at hrs ⊢;have hrl:=J2 all S k;refine Ad<|Qf BU rfl<|Ql rfl Da (Cell.blk 1 rfl rfl)<|Qm rfl<|Qx (oA rfl) rfl<|Qm rfl<|Qx (C6 rfl rfl rfl ω ω) rfl<|Qx (oM rfl) rfl<|Qx (oS rfl) rfl ?_;refine Qx (AN Wr [.w 0,.w 0] [(0,_),(1,_)] [_,_] rfl BX rfl rfl (by repeat (first|exact ej|refine⟨⟨rfl,rfl,rfl⟩,?_⟩|refine⟨⟨((hO.rd (h:=h) (ms:=[m3]) Mh).rd).cells,rfl,rfl⟩,?_⟩)) rfl) rfl ?_;refine Ay [_,_] rfl Da BX rfl (by rfl) rfl rfl ω rfl rfl rfl<|λg147=>?_;refine AJ 1 hOS (RdL.one F6 (x:=((n:Int)+1,1-2*((k:Int)%2))) Mh rfl) rfl Da BX rfl ω rfl rfl rfl MB (by rw[J2];(try simp only[ab]);omega) (by rw[J2];(try simp only[ab]);omega) rfl rfl rfl<|λv9 m9 hO9=>?_;rw[<-hrs]at hO9;have ov9:=hO9.o1;refine Qf BU rfl ?_;refine Bh 2 _ rfl Aee rfl rfl (by assumption) rfl rfl (by(simp;done)) rfl rfl ?_;refine An<|Ai<|Ab<|Ad<|Qm rfl<|Qx (oA rfl) rfl<|Qm rfl<|An<|D4 0 rfl ?_;exact Ao (S.length-(k+1)) _ ω ⟨k+1,v9,m9,rfl,rfl,rfl,rfl,ω,λq=>ω,hO9⟩ Qs
     ·have hS1:S.length<=1:=ω
      refine Ax<|Aa<|Aa<|Af ?_;exact AI _ ⟨vS,mS,Y,Y,Y,by rw[ah hS1];have:=hk0 hS1;subst this;exact hOS⟩ Qs
    ·have hkS:k=S.length:=ω
     subst hkS;refine Qk Y<|Qk Y<|Qk Y<|Qm Y<|Am<|AL Y<|Ax<|Aa<|Aa<|Af ?_
     exact AI _ ⟨vS,mS,Y,Y,Y,by
      split
      ·rename_i h1;have:=hk0 h1;rw[this]at hOS;exact hOS
      ·exact hOS⟩ Qs
   ·obtain⟨vS,mS,rfl,rfl,rfl,hOS⟩:=hI;obtain⟨rw,hrw⟩:∃rw,(if S.length<=1 then [] else SO all S S.length)=rw:=⟨_,rfl⟩
    have hrl:rw.length<=9:=by
     rw[<-hrw];split
     ·simp
     ·rw[J2];exact hS9
    rw[hrw]at hOS
    have hcell:Eu all j=⟨(j:Int)+1,D,Dm rw⟩:=by unfold Eu;rw[hgd,hD,<-hrw];split<;>rfl
    refine DA λh5 l5 k5=>?_;have hRw:=hOS.rdh (ms:=[]) k5;have ovS2:=hRw.rd.one;refine Ar<|Qf BU Y<|Ql Y Da (Cell.blk 0 Y Y)<|Qc call80 Y (SP rw vS h5 ω hRw)<|λrs h6 ms2 l6 hF=>?_;obtain⟨rfl,m9,rfl,hO9⟩:=hF;refine Cr λh6 l6 k6=>?_;have hR9:=hO9.rdh (ms:=[]) k6;have ov9:=hR9.rd.one;have hAl:A.length=j:=by have:=aw List.length hA;simpa using this
    let ce:Ce:=⟨⟨(j:Int)+1,D,Dm rw⟩,rs⟩
    refine Qf BU Y ?_;refine Bh 0 _ Y Aee Y Y (by assumption) Y Y (by(simp;done)) rfl rfl ?_;refine GX<|Qf Ct Y<|Ql Y B0 (Cell.blk 2 Y Y)<|Qx (oG Y Jz A3<|Seg.blk 0 Y) Y<|Ay [_,_,_] Y B0 A3 Y (by rfl) Y Y ω Y Y Y<|λg157=>?_;refine Cs 2 hOA (RdL.one DP (x:=ce) Mh Y) Y B0 A3 Y ω Y Y Y (GS (l:=[ce]) (h:=h6) λy hy=>by rw[bm.1 hy];exact hR9) (by(try simp only[ab]);omega) (by(try simp only[ab]);omega) rfl rfl rfl<|λvA2 mA2 hOA2=>?_;have ovA2:=hOA2.o1;refine Qf Ct Y ?_;refine Bh 3 _ Y AcH Y Y (by assumption) Y Y (by(simp;done)) rfl rfl ?_;refine An<|Ai<|Ab<|Ad<|Qm Y<|Qx (oA Y) Y<|Qm Y<|An<|D4 0 Y<|D4 0 Y ?_
    exact Ao (all.length-(j+1)) _ ω ⟨j+1,vA2,mA2,A++[ce],Y,Y,AD l4 (AD l5 l6),Y,ω,hOA2,by rw[dd,hA,range_succ,dd];congr 1;simp[ce,hcell],λa ha=>by
     rcases bj.1 ha with h|h
     ·exact(hSd a h).up (AD l5 l6)
     ·rw[bm.1 h];exact hR9⟩ Qs
  ·obtain rfl:j=all.length:=ω
   have ovA:=hOA.o1;refine Ax<|Aa<|Aa<|Af<|Ab<|Ar<|Qx (oG Y C9 Bd<|Seg.blk 1 Y) Y ?_;refine Sa 2 [_] Bd Y (by simp[o1,ov3,ovA]) ?_;refine Am<|Aj<|D4 1 Y ?_;exact Bx (vs:=[_]) 1 Y Y C9 Y Bd Y Y (⟨AD lh<|AD l2 l4,mA,A,_,Y,Y,hOA,by rw[hA,hsF],hSd⟩)
end
section
theorem RdEs.snoc{h:Hp}{es:List Value}{ll:List (List Int)}(H:RdEs h es ll){v:Value}{t:List Int}(hv:RdL cI 1 h [] v t):RdEs h (es++[v]) (ll++[t]):=by have:=H.ins hv ll.length (am _);rw[take_of_length_le (by rw[H.1];exact am _),fe,List.drop_of_length_le (by rw[H.1];exact am _),List.drop_length]at this;exact this
def JR(n:Nat):List (List Int):=(range n).flatMap λ(i:Nat)=>[[(i:Int),((i:Int)+1)%7,((i:Int)+3)%7],[(i:Int),((i:Int)+2)%7,((i:Int)+3)%7]]
theorem MA(n:Nat):JR (n+1)=JR n++[[(n:Int),((n:Int)+1)%7,((n:Int)+3)%7]]++[[(n:Int),((n:Int)+2)%7,((n:Int)+3)%7]]:=by unfold JR;rw[range_succ,dx,cz];rfl
theorem XL(n:Nat):(JR n).length=2*n:=by
 induction n with
 | zero=>rfl
 | succ n ih=>rw[MA,af,af,ih];simp;omega
structure RgtF(o:List Cl):Prop where
 n:o.length<=4000
 inc:o.Pairwise λa b=>a.id<b.id
 pos:∀x∈o,1<=x.id
 can:∀x∈o,∃y:Cl,x=y.can
 fst:∀x∈o,CM o x=0
 snd:∀x∈o,2<=x.dim->ER o x=0
theorem Ws(l:List Cl):(ordF l).length=l.length:=by rw[(Ek l.length l (am _)).length_eq,be]
theorem RgtF.bds{o:List Cl}(R:RgtF o){x:Cl}(hx:x∈o):(0<=x.dim/\x.dim<=8)/\x.sd.length<=64/\∀r∈x.sd,r.2=1\/r.2=-1:=by obtain⟨h1,h2,_,h4⟩:=Fp (R.fst x hx);refine⟨h1,h2,λr hr=>?_⟩;obtain⟨i,hi,rfl⟩:=dm.1 hr;have:=h4 i hi;unfold B1 at this;rw[Bj hi]at this;omega
variable {a b c:Int} {x:Cl} {l:List Int} {m n:Nat}
abbrev HA:=List (Int×Int×Int)
def EW(T:HA)(c:Int):Int:=(T.map λe=>if e.2.1=c then e.2.2 else 0).sum
def Gz(T:HA)(c:Int):Int:=(T.map λe=>if e.2.1=c then(1:Int) else 0).sum
inductive Con (T:HA):Int->Int->Prop
 | refl (a:Int):Con T a a
 | step {a b d c w w':Int}:Con T a b->(b,c,w)∈T->(d,c,w')∈T->Con T a d
theorem Con.trans{T:HA}(h:Con T a b)(h':Con T b c):Con T a c:=by
 induction h' with
 | refl=>exact h
 | step _ h1 h2 ih=>exact .step ih h1 h2
theorem Con.symm{T:HA}(h:Con T a b):Con T b a:=by
 induction h with
 | refl=>exact .refl _
 | step _ h1 h2 ih=>exact(Con.step (.refl _) h2 h1).trans ih
theorem Con.mono{T T':HA}(hs:∀e∈T,e∈T')(h:Con T a b):Con T' a b:=by
 induction h with
 | refl=>exact .refl _
 | step _ h1 h2 ih=>exact .step ih (hs _ h1)<|hs _ h2
theorem Con.in{T:HA}(h:Con T a b):a=b\/((∃c w,(a,c,w)∈T)/\∃c w,(b,c,w)∈T):=by
 induction h with
 | refl=>exact .inl Y
 | step _ h1 h2 ih=>
  rcases ih with rfl|ih
  ·exact .inr ⟨⟨_,_,h1⟩,_,_,h2⟩
  ·exact .inr ⟨ih.1,_,_,h2⟩
theorem Con.snoc{T:HA}{i f w:Int}(hf:f=i/\(∀g w',(g,c,w') ∉ T)\/∃w',(f,c,w')∈T):Con (T++[(i,c,w)]) a b<->Con T a b\/(Con T a i/\Con T f b)\/(Con T a f/\Con T i b):=by
 have hsub:∀e∈T,e∈T++[(i,c,w)]:=λe he=>eh _ he;have hi:(i,c,w)∈T++[(i,c,w)]:=fg _ Mh
 have hfi:Con (T++[(i,c,w)]) i f:=by
  rcases hf with ⟨rfl,_⟩|⟨w',h⟩
  ·exact .refl _
  ·exact .step (.refl _) hi<|hsub _ h
 constructor
 ·intro h
  induction h with
  | refl=>exact .inl<|.refl _
  | @step b d c' w1 w2 _ h1 h2 ih=>
   -- the last step
   have key:∀{b d},(b,c',w1)∈T++[(i,c,w)]->(d,c',w2)∈T++[(i,c,w)]->Con T b d\/(Con T b i/\Con T f d)\/(Con T b f/\Con T i d):=λ{b d} h1 h2=>by
    rcases bj.1 h1 with g1|g1<;>rcases bj.1 h2 with g2|g2
    ·exact .inl<|.step (.refl _) g1 g2
    ·obtain⟨e1,e2,e3⟩:d=i/\c'=c/\w2=w:=by simpa using g2
     rcases hf with ⟨_,hn⟩|⟨w',h⟩
     ·exact ie (e2 ▸ g1)<|hn _ _
     ·rw[e1];exact .inr<|.inr ⟨.step (.refl _) (e2 ▸ g1) h,.refl _⟩
    ·obtain⟨e1,e2,e3⟩:b=i/\c'=c/\w1=w:=by simpa using g1
     rcases hf with ⟨_,hn⟩|⟨w',h⟩
     ·exact ie (e2 ▸ g2)<|hn _ _
     ·rw[e1];exact .inr<|.inl ⟨.refl _,.step (.refl _) h<|e2 ▸ g2⟩
    ·obtain⟨e1,_⟩:b=i/\c'=c/\w1=w:=by simpa using g1
     obtain⟨e2,_⟩:d=i/\c'=c/\w2=w:=by simpa using g2
     rw[e1,e2];exact .inl<|.refl _
   have k:=key h1 h2;rcases ih with ih|⟨i1,i2⟩|⟨i1,i2⟩
   ·rcases k with k|⟨k1,k2⟩|⟨k1,k2⟩
    ·exact .inl<|ih.trans k
    ·exact .inr<|.inl ⟨ih.trans k1,k2⟩
    ·exact .inr<|.inr ⟨ih.trans k1,k2⟩
   ·rcases k with k|⟨k1,k2⟩|⟨k1,k2⟩
    ·exact .inr<|.inl ⟨i1,i2.trans k⟩
    ·exact .inr<|.inl ⟨i1,k2⟩
    ·exact .inl<|i1.trans k2
   ·rcases k with k|⟨k1,k2⟩|⟨k1,k2⟩
    ·exact .inr<|.inr ⟨i1,i2.trans k⟩
    ·exact .inl<|i1.trans k2
    ·exact .inr<|.inr ⟨i1,k2⟩
 ·rintro(h|⟨h1,h2⟩|⟨h1,h2⟩)
  ·exact h.mono hsub
  ·exact(h1.mono hsub).trans (hfi.trans (h2.mono hsub))
  ·exact(h1.mono hsub).trans (hfi.symm.trans (h2.mono hsub))
theorem NS(T:HA)(e:Int×Int×Int)(c:Int):EW (T++[e]) c=EW T c+if e.2.1=c then e.2.2 else 0:=by simp[EW]
theorem WK(T:HA)(e:Int×Int×Int)(c:Int):Gz (T++[e]) c=Gz T c+if e.2.1=c then 1 else 0:=by simp[Gz]
theorem N4{T:HA}(h:∀e∈T,e.2.1≠c):EW T c=0/\Gz T c=0:=by
 induction T with
 | nil=>exact⟨Y,Y⟩
 | cons e T ih=>
  obtain⟨h1,h2⟩:=ih λe he=>h e (bi _ he);have h3:=h e Mh;unfold EW at *;unfold Gz at *;simp only[dr,sum_cons,ae h3,h1,h2];exact⟨Y,Y⟩
theorem Mv{x:Int}:EX (a::l) x=if a=x then 0 else EX l x+1:=by
 unfold EX;rw[List.takeWhile_cons];by_cases e:a=x
 ·simp[e]
 ·simp[e]
theorem Wp{x:Int}{k:Nat}(hk:EX l x=k)(h:k<l.length):l[k]=x:=by
 induction l generalizing k with
 | nil=>simp at h
 | cons a l ih=>
  rw[Mv]at hk;split at hk
  ·subst hk;assumption
  ·subst hk;rw[List.getElem_cons_succ];exact ih Y (by simpa using h)
theorem W0{x:Int}(h:EX l x=l.length):x ∉ l:=by
 induction l with
 | nil=>simp
 | cons a l ih=>
  rw[Mv]at h;split at h
  ·simp at h
  ·rename_i e;rw[bg];rintro(rfl|h1)
   ·exact e Y
   ·exact ih (by simpa using h) h1
theorem Ix{α:Type}{l:List α}(h:l.Nodup){i j:Nat}(hi:i<l.length)(hj:j<l.length)(e:l[i]=l[j]):i=j:=by
 have h1:=ct.1 h;rcases gk i j with h2|h2|h2
 ·exact ie e<|h1 i j hi hj h2
 ·exact h2
 ·exact ie e.symm<|h1 j i hj hi h2
structure S2.Inv(S:S2)(x:Cl)(T:HA)(m n:Nat):Prop where
 nd:S.ids.Nodup
 mem:∀c,c∈S.ids<->∃a w,(a,c,w)∈T
 ls:S.su.length=S.ids.length
 lm:S.ma.length=S.ids.length
 lf:S.fi.length=S.ids.length
 lp:S.pa.length=n
 su:∀k (hk:k<S.ids.length),S.su.getD k 0=EW T S.ids[k]
 ma:∀k (hk:k<S.ids.length),S.ma.getD k 0=Gz T S.ids[k]
 fi:∀k (hk:k<S.ids.length),∃j:Nat,j<m/\S.fi.getD k 0=(j:Int)/\∃w,((Bm x j).1,S.ids[k],w)∈T
 pl:∀j,j<m->0<=S.pa.getD j 0/\S.pa.getD j 0<m
 pc:∀j j',j<m->j'<m->(S.pa.getD j 0=S.pa.getD j' 0<->Con T (Bm x j).1 (Bm x j').1)
 fr:∀e∈T,∃j:Nat,j<m/\e.1=(Bm x j).1
theorem Jq(l:List Int)(k j:Nat)(y:Int)(hk:k<l.length):(l.set k y).getD j 0=if j=k then y else l.getD j 0:=by
 simp only[gn,List.getElem?_set];by_cases e:k=j
 ·subst e;simp[hk]
 ·simp[e,ft e]
theorem IG(l:List Int)(j:Nat)(y:Int):(l++[y]).getD j 0=if j=l.length then y else l.getD j 0:=by
 simp only[gn];rcases gk j l.length with h|h|h
 ·rw[d5 h,ae ω]
 ·subst h;simp
 ·rw[ae ω,eq (by simp;omega),eq ω]
theorem W6(pa:List Int)(m:Nat)(now old:Int)(j:Nat)(hm:m<=pa.length)(hj:j<m):(Gg pa m now old).getD j 0=if pa.getD j 0=now then old else pa.getD j 0:=by
 have h1:j<pa.length:=ω
 have h2:j<(Gg pa m now old).length:=by rw[DV];exact h1
 simp only[gn,aj h1,aj h2,Option.getD_some];rw[Fs h1];simp[hj]
theorem S2.Inv.start{S:S2}{T:HA}(I:S.Inv x T m n)(hm:m<n)(hd:∀j,j<m->(Bm x j).1≠(Bm x m).1):(S.start m).Inv x T (m+1) n:=by
 have hp:=I.lp;have hg:∀j,(S.pa.set m (m:Int)).getD j 0=if j=m then(m:Int) else S.pa.getD j 0:=λj=>Jq _ _ _ _ ω
 have hnew:∀j,j<m->¬Con T (Bm x j).1 (Bm x m).1:=λj hj h=>by
  rcases h.in with h|⟨_,c,w,h⟩
  ·exact hd j hj h
  ·obtain⟨j',hj',e⟩:=I.fr _ h;exact hd j' hj' e.symm
 refine⟨I.nd,I.mem,I.ls,I.lm,I.lf,by show(List.set _ _ _).length=n;rw[ff];exact hp,I.su,I.ma,λk hk=>?_,λj hj=>?_,λj j' hj hj'=>?_,λe he=>?_⟩
 ·obtain⟨j,h1,h2⟩:=I.fi k hk;exact⟨j,ω,h2⟩
 ·show 0<=(S.pa.set m (m:Int)).getD j 0/\(S.pa.set m (m:Int)).getD j 0<((m+1:Nat):Int);rw[hg];split
  ·omega
  ·have:=I.pl j ω;omega
 ·show(S.pa.set m (m:Int)).getD j 0=(S.pa.set m (m:Int)).getD j' 0<->_;rw[hg,hg];by_cases e:j=m<;>by_cases e':j'=m
  ·subst e;subst e';exact⟨λ_=>.refl _,λ_=>rfl⟩
  ·subst e;rw[ah rfl,ae e'];have:=I.pl j' ω;exact⟨λh=>ω,λh=>ie h.symm (hnew j' ω)⟩
  ·subst e';rw[ae e,ah rfl];have:=I.pl j ω;exact⟨λh=>ω,λh=>ie h (hnew j ω)⟩
  ·rw[ae e,ae e'];exact I.pc j j' ω ω
 ·obtain⟨j,h1,h2⟩:=I.fr e he;exact⟨j,ω,h2⟩
theorem S2.Inv.side{S:S2}{T:HA}(I:S.Inv x T (m+1) n)(hm:m<n)(w:Int)(r:Int×Int):(S.side m w r).Inv x (T++[((Bm x m).1,r.1,w*r.2)]) (m+1) n:=by
 have hp:=I.lp
 -- the place of the id,in the state after add
 obtain⟨k,hk⟩:∃k,EX S.ids r.1=k:=⟨_,Y⟩
 obtain⟨U,hU⟩:∃U,S.add m r.1=U:=⟨_,Y⟩
 have A:U.pa=S.pa/\U.ids.Nodup/\(∀c,c∈U.ids<->c=r.1\/∃a w,(a,c,w)∈T)/\U.su.length=U.ids.length/\U.ma.length=U.ids.length/\U.fi.length=U.ids.length/\(∀k (hk:k<U.ids.length),U.su.getD k 0=EW T U.ids[k])/\(∀k (hk:k<U.ids.length),U.ma.getD k 0=Gz T U.ids[k])/\(∃hk:k<U.ids.length,U.ids[k]=r.1) ∧
   (∀k' (hk':k'<U.ids.length),k'≠k->∃j:Nat,j<m+1/\U.fi.getD k' 0=(j:Int)/\∃w,((Bm x j).1,U.ids[k'],w)∈T) ∧
   ∃f:Nat,f<m+1/\U.fi.getD k 0=(f:Int)/\((Bm x f).1=(Bm x m).1/\f=m/\(∀g w',(g,r.1,w') ∉ T)\/∃w',((Bm x f).1,r.1,w')∈T):=by
  subst hU;unfold S2.add;by_cases h:EX S.ids r.1=S.ids.length
  ·have hn:=W0 h;have hnT:∀g w',(g,r.1,w') ∉ T:=λg w' hg=>hn ((I.mem _).2 ⟨g,w',hg⟩);have h0:EW T r.1=0/\Gz T r.1=0:=N4 λe he q=>hnT e.1 e.2.2 (by rw[<-q];exact he);rw[ah h];have hkl:k=S.ids.length:=ω
   have hget:∀k' (hk':k'<(S.ids++[r.1]).length),(S.ids++[r.1])[k']=if h:k'<S.ids.length then S.ids[k'] else r.1:=λk' hk'=>by
    by_cases h1:k'<S.ids.length
    ·rw[dif_pos h1,List.getElem_append_left h1]
    ·rw[dif_neg h1,getElem_append_right ω];simp
   refine⟨Y,?_,λc=>?_,by simp[I.ls],by simp[I.lm],by simp[I.lf],λk' hk'=>?_,λk' hk'=>?_,⟨by show k<(S.ids++[r.1]).length;simp;omega,?_⟩,λk' hk' hne=>?_,m,ω,?_,.inl ⟨rfl,rfl,hnT⟩⟩
   ·exact ib.2 ⟨I.nd,by simp,λa ha b hb e=>by rw[bm.1 hb]at e;exact hn (e ▸ ha)⟩
   ·show c∈S.ids++[r.1]<->_;rw[mem_append,mem_singleton,I.mem];exact⟨λh=>h.symm,λh=>h.symm⟩
   ·have hk'':k'<S.ids.length+1:=by have:k'<(S.ids++[r.1]).length:=hk';simpa using this
    show(S.su++[0]).getD k' 0=EW T (S.ids++[r.1])[k'];rw[IG,hget k' hk',I.ls];by_cases h1:k'<S.ids.length
    ·rw[ae ω,dif_pos h1];exact I.su k' h1
    ·rw[ah ω,dif_neg h1,h0.1]
   ·have hk'':k'<S.ids.length+1:=by have:k'<(S.ids++[r.1]).length:=hk';simpa using this
    show(S.ma++[0]).getD k' 0=Gz T (S.ids++[r.1])[k'];rw[IG,hget k' hk',I.lm];by_cases h1:k'<S.ids.length
    ·rw[ae ω,dif_pos h1];exact I.ma k' h1
    ·rw[ah ω,dif_neg h1,h0.2]
   ·show(S.ids++[r.1])[k]'_=r.1;rw[hget,dif_neg ω]
   ·have hk'':k'<S.ids.length+1:=by have:k'<(S.ids++[r.1]).length:=hk';simpa using this
    obtain⟨j,h1,h2,h3⟩:=I.fi k' ω;refine⟨j,h1,?_,?_⟩
    ·show(S.fi++[(m:Int)]).getD k' 0=j;rw[IG,I.lf,ae ω];exact h2
    ·show ∃w,(_,(S.ids++[r.1])[k']'hk',w)∈T;rw[hget k' hk',dif_pos (show k'<S.ids.length by omega)];exact h3
   ·show(S.fi++[(m:Int)]).getD k 0=(m:Int);rw[IG,I.lf,ah hkl]
  ·have hle:=Rr S.ids r.1;have hkl:k<S.ids.length:=ω
   have hge:S.ids[k]=r.1:=Wp hk hkl;have hin:r.1∈S.ids:=by rw[<-hge];exact ao hkl
   rw[ae h];obtain⟨f,f1,f2,f3⟩:=I.fi k hkl;refine⟨Y,I.nd,λc=>?_,I.ls,I.lm,I.lf,I.su,I.ma,⟨hkl,hge⟩,λk' hk' _=>I.fi k' hk',f,f1,f2,.inr (by rw[hge]at f3;exact f3)⟩;rw[I.mem];refine⟨.inr,λh=>?_⟩;rcases h with rfl|h
   ·exact(I.mem _).1 hin
   ·exact h
 obtain⟨a1,a2,a3,a4,a5,a6,a7,a8,⟨a9,a10⟩,a11,f,f1,f2,f3⟩:=A;have hS:S.side m w r=U.hit m k (w*r.2):=by unfold S2.side;rw[hU,hk]
 rw[hS]
 have hcf:∀{a b},Con (T++[((Bm x m).1,r.1,w*r.2)]) a b<->_:=λ{a b}=>Con.snoc (a:=a) (b:=b) (T:=T) (i:=(Bm x m).1) (f:=(Bm x f).1) (c:=r.1) (w:=w*r.2) (by
  rcases f3 with ⟨h1,_,h2⟩|h
  ·exact .inl ⟨h1,h2⟩
  ·exact .inr h)
 have hrel:∀j,j<m+1->(Gg U.pa (m+1) (U.pa.getD m 0) (U.pa.getD (U.fi.getD k 0).toNat 0)).getD j 0=if S.pa.getD j 0=S.pa.getD m 0 then S.pa.getD f 0 else S.pa.getD j 0:=λj hj=>by rw[W6 _ _ _ _ _ (by rw[a1];omega) hj,a1,f2,Int.toNat_natCast]
 refine⟨a2,λc=>?_,by show(List.set _ _ _).length=_;rw[ff];exact a4,by show(List.set _ _ _).length=_;rw[ff];exact a5,a6,by show(Gg _ _ _ _).length=n;rw[DV,a1];exact hp,λk' hk0=>?_,λk' hk0=>?_,λk' hk0=>?_,λj hj=>?_,λj j' hj hj'=>?_,λe he=>?_⟩
 ·show c∈U.ids<->_;rw[a3];constructor
  ·rintro(rfl|⟨a,w',h⟩)
   ·exact⟨_,_,fg _ Mh⟩
   ·exact⟨a,w',eh _ h⟩
  ·rintro⟨a,w',h⟩;rcases bj.1 h with h|h
   ·exact .inr ⟨a,w',h⟩
   ·have:=bm.1 h;exact .inl<|aw (λe:Int×Int×Int=>e.2.1) this
 ·have hk':k'<U.ids.length:=hk0;show(U.su.set k (U.su.getD k 0+w*r.2)).getD k' 0=EW _ (U.ids[k']'hk');rw[Jq _ _ _ _ ω,NS];by_cases e:k'=k
  ·subst e;rw[ah rfl,a7 k' hk',a10];simp
  ·have:¬r.1=U.ids[k']'hk':=λh=>e (Ix a2 hk' a9 (by rw[a10];exact h.symm));rw[ae e,a7 k' hk',ae this,fz]
 ·have hk':k'<U.ids.length:=hk0;show(U.ma.set k (U.ma.getD k 0+1)).getD k' 0=Gz _ (U.ids[k']'hk');rw[Jq _ _ _ _ ω,WK];by_cases e:k'=k
  ·subst e;rw[ah rfl,a8 k' hk',a10];simp
  ·have:¬r.1=U.ids[k']'hk':=λh=>e (Ix a2 hk' a9 (by rw[a10];exact h.symm));rw[ae e,a8 k' hk',ae this,fz]
 ·have hk':k'<U.ids.length:=hk0;show ∃j:Nat,j<m+1/\U.fi.getD k' 0=(j:Int)/\∃w',((Bm x j).1,U.ids[k']'hk',w')∈_;by_cases e:k'=k
  ·subst e;refine⟨f,f1,f2,?_⟩;rw[a10];rcases f3 with ⟨h1,_,_⟩|⟨w',h⟩
   ·exact⟨w*r.2,by rw[h1];exact fg _ Mh⟩
   ·exact⟨w',eh _ h⟩
  ·obtain⟨j,j1,j2,w',j3⟩:=a11 k' hk' e;exact⟨j,j1,j2,w',eh _ j3⟩
 ·show 0<=(Gg _ _ _ _).getD j 0/\(Gg _ _ _ _).getD j 0<_;rw[hrel j hj];have:=I.pl j hj;have:=I.pl f f1;split<;>omega
 ·show(Gg _ _ _ _).getD j 0=(Gg _ _ _ _).getD j' 0<->_;rw[hrel j hj,hrel j' hj',hcf,<-I.pc j j' hj hj',<-I.pc j m hj ω,<-I.pc f j' f1 hj',<-I.pc j f hj f1,<-I.pc m j' ω hj'];split<;>split<;>omega
 ·rcases bj.1 he with h|h
  ·exact I.fr e h
  ·rw[bm.1 h];exact⟨m,ω,Y⟩
theorem S2.Inv.sides(hm:m<n)(w:Int):∀(l:List (Int×Int)) (S:S2) (T:HA),S.Inv x T (m+1) n->(S.sides m w l).Inv x (T++l.map λr=>((Bm x m).1,r.1,w*r.2)) (m+1) n
 | [],S,T,I=>by rw[List.map_nil,append_nil];exact I
 | r::l,S,T,I=>by have:=S2.Inv.sides hm w l (S.side m w r) _ (I.side hm w r);rw[cz]at this;exact this
def Nn(l:List Cl)(x:Cl)(m:Nat):HA:=(range m).flatMap λi=>(Gc l x i).sd.map λr=>((Bm x i).1,r.1,(Bm x i).2*r.2)
theorem W7(l:List Cl)(x:Cl)(m:Nat):Nn l x (m+1)=Nn l x m++(Gc l x m).sd.map λr=>((Bm x m).1,r.1,(Bm x m).2*r.2):=by unfold Nn;rw[range_succ,dx];simp
theorem Sk{l:List Cl}(hd:∀j m,j<m->m<x.sd.length->(Bm x j).1≠(Bm x m).1):∀m,m<=x.sd.length->(HT l x m).Inv x (Nn l x m) m x.sd.length
 | 0,_=>⟨by show List.Nodup [];simp,λc=>⟨λh=>by simp[HT]at h,λ⟨a,w,h⟩=>by simp[Nn]at h⟩,rfl,rfl,rfl,by simp[HT],λk hk=>ie hk (Nat.not_lt_zero _),λk hk=>ie hk (Nat.not_lt_zero _),λk hk=>ie hk (Nat.not_lt_zero _),λj hj=>ω,λj j' hj=>ω,λe he=>by simp[Nn]at he⟩
 | m+1,h=>by rw[W7];exact S2.Inv.sides ω _ _ _ _ ((Sk hd m ω).start ω λj hj=>hd j m hj ω)
structure GoodT(T:HA)(s:List (Int×Int)):Prop where
 sum:∀e∈T,EW T e.2.1=0
 two:∀e∈T,Gz T e.2.1=2
 con:∀a∈s,∀b∈s,Con T a.1 b.1
theorem J9{l:List Cl}(hd:∀j m,j<m->m<x.sd.length->(Bm x j).1≠(Bm x m).1):ER l x=0<->GoodT (Nn l x x.sd.length) x.sd:=by
 have I:=Sk (l:=l) hd x.sd.length (am _);obtain⟨S,hS⟩:∃S,HT l x x.sd.length=S:=⟨_,Y⟩
 obtain⟨T,hT⟩:∃T,Nn l x x.sd.length=T:=⟨_,Y⟩
 rw[hS,hT]at I;rw[hT];have hget:∀{L:List Int} {j:Nat} (hj:j<L.length),L[j]=L.getD j 0:=λ{L j} hj=>by simp[List.getD,hj]
 have h1:(∀y∈S.su,y=0)<->∀e∈T,EW T e.2.1=0:=by
  constructor
  ·intro h e he;obtain⟨k,hk,e1⟩:=gh ((I.mem e.2.1).2 ⟨e.1,e.2.2,he⟩);have h2:=I.su k hk;rw[e1]at h2;rw[<-h2,<-hget (by rw[I.ls];exact hk)];exact h _<|ao _
  ·intro h y hy;obtain⟨k,hk,rfl⟩:=gh hy;have hk':k<S.ids.length:=by rw[<-I.ls];exact hk
   rw[hget hk,I.su k hk'];obtain⟨a,w,h2⟩:=(I.mem _).1 (ao hk');exact h _ h2
 have h2:(∀y∈S.ma,y=2)<->∀e∈T,Gz T e.2.1=2:=by
  constructor
  ·intro h e he;obtain⟨k,hk,e1⟩:=gh ((I.mem e.2.1).2 ⟨e.1,e.2.2,he⟩);have h2:=I.ma k hk;rw[e1]at h2;rw[<-h2,<-hget (by rw[I.lm];exact hk)];exact h _<|ao _
  ·intro h y hy;obtain⟨k,hk,rfl⟩:=gh hy;have hk':k<S.ids.length:=by rw[<-I.lm];exact hk
   rw[hget hk,I.ma k hk'];obtain⟨a,w,h2⟩:=(I.mem _).1 (ao hk');exact h _ h2
 have h3:(∀y∈S.pa,y=S.pa.getD 0 0)<->∀a∈x.sd,∀b∈x.sd,Con T a.1 b.1:=by
  constructor
  ·intro h a ha b hb;obtain⟨j,hj,rfl⟩:=gh ha;obtain⟨j',hj',rfl⟩:=gh hb;have e1:S.pa.getD j 0=S.pa.getD 0 0:=by rw[<-hget (by rw[I.lp];exact hj)];exact h _<|ao _
   have e2:S.pa.getD j' 0=S.pa.getD 0 0:=by rw[<-hget (by rw[I.lp];exact hj')];exact h _<|ao _
   have:=(I.pc j j' hj hj').1 (by rw[e1,e2])
   rwa [Bj hj,Bj hj']at this
  ·intro h y hy;obtain⟨j,hj,rfl⟩:=gh hy;rw[hget hj];rw[I.lp]at hj;refine(I.pc j 0 hj ω).2 ?_;rw[Bj hj,Bj ω];exact h _ (ao _) _<|ao _
 unfold ER;rw[hS];constructor
 ·intro h;split at h
  ·exact ie h δ
  ·rename_i g1;split at h
   ·exact ie h δ
   ·rename_i g2;split at h
    ·exact ie h δ
    ·rename_i g3;exact⟨h1.1 (ef.1 g1),h2.1 (ef.1 g2),h3.1 (ef.1 g3)⟩
 ·rintro⟨g1,g2,g3⟩;rw[ae (λq=>q (h1.2 g1)),ae (λq=>q (h2.2 g2)),ae (λq=>q (h3.2 g3))]
end
section
theorem KJ:∀(ll acc all:List (List Int)),acc.length<=4000->Di acc ll=some all->all.length<=4000
 | [],acc,all,h,e=>by have:acc=all:=bf e;rw[<-this];exact h
 | l::ll,acc,all,h,e=>by
  rw[FO]at e;split at e
  ·cases e
  ·exact KJ ll _ all ω e
theorem Mu(ll:List (List Int)):(DI ll).length<=4000/\∀c∈DI ll,(-1<=c.dim/\c.dim<=8)/\c.sd.length<=9:=by
 unfold DI;cases h:Di [] ll with
 | none=>exact⟨by simp,λc hc=>nomatch hc⟩
 | some all=>
  have h9:=FM ll [] all List.Pairwise.nil (λt ht=>nomatch ht) h;refine⟨by simpa using KJ ll [] all σ h,λc hc=>?_⟩;obtain⟨i,hi,rfl⟩:=ag.1 hc;have hil:=cm.1 hi
  have hl:(all.getD i []).length<=9:=by
   have:all.getD i []=all[i]:=by simp[List.getD,hil]
   rw[this];exact h9 _<|ao hil
  refine⟨?_,?_⟩
  ·show -1<=((all.getD i []).length:Int)-1/\((all.getD i []).length:Int)-1<=8;omega
  ·show(if(all.getD i []).length<=1 then [] else Dm _).length<=9;split
   ·simp
   ·rw[Hy,be,List.length_range];exact hl
def Aft(h:Hp)(r:Value)(ms:List Hp)(Q:List Cl->Prop):Prop:=∃m A v',ms=[m]/\r=.agg #[v']/\OwnL cC 3 50 m v' A/\Q (A.map Ce.c)/\∀a∈A,RdL cD 2 h [] a.v a.c.sd
variable {o l:List Cl} {x y:Cl} {α β:Type}
def ZP(l:List Cl)(c:Int):Option Cl:=l.find? λy=>decide (y.id=c)
def GF(l:List Cl)(c:Int):Cl:=(ZP l c).getD default
theorem ET(hn:(l.map Cl.id).Nodup)(hy:y∈l):ZP l y.id=some y:=by
 unfold ZP
 induction l with
 | nil=>cases hy
 | cons a l ih=>
  rw[dr,fl]at hn;rw[List.find?_cons];rcases bg.1 hy with rfl|h
  ·simp
  ·have:¬a.id=y.id:=λe=>hn.1 (ag.2 ⟨y,h,e.symm⟩);simp only[this,decide_false];exact ih hn.2 h
theorem DT(hn:(l.map Cl.id).Nodup)(hy:y∈l):GF l y.id=y:=by unfold GF;rw[ET hn hy];rfl
def QW(L:Int->List (Int×Int))(s:List (Int×Int)):HA:=s.flatMap λa=>(L a.1).map λr=>(a.1,r.1,a.2*r.2)
def KR(l:List Cl)(x:Cl):HA:=QW (λc=>(GF l c).sd) x.sd
structure Rgt(l:List Cl):Prop where
 n:l.length<=4000
 nd:(l.map Cl.id).Nodup
 pos:∀x∈l,1<=x.id
 dim:∀x∈l,0<=x.dim/\x.dim<=8
 num:∀x∈l,¬Cb x
 sds:∀x∈l,(x.sd.map Prod.fst).Nodup
 sid:∀x∈l,∀s∈x.sd,∃y∈l,y.id=s.1/\y.dim=x.dim-1
 sgn:∀x∈l,∀s∈x.sd,s.2=1\/s.2=-1
 one:∀x∈l,x.dim=1->(x.sd.map Prod.snd).sum=0
 tab:∀x∈l,2<=x.dim->GoodT (KR l x) x.sd
theorem Rgt.nil:Rgt []:=⟨by simp,by simp,nofun,nofun,nofun,nofun,nofun,nofun,nofun,nofun⟩
theorem JT{l l':List Int}(h:l.Perm l'):l.sum=l'.sum:=by
 induction h with
 | nil=>rfl
 | cons x _ ih=>simp only[sum_cons,ih]
 | swap x y l=>simp only[sum_cons];omega
 | trans _ _ h1 h2=>exact h1.trans h2
theorem GoodT.perm{T T':HA}{s s':List (Int×Int)}(h:T.Perm T')(hs:s.Perm s')(G:GoodT T s):GoodT T' s' where
 sum:=λe he=>by exact(JT (h.map _).symm).trans (G.sum e (h.mem_iff.2 he))
 two:=λe he=>by exact(JT (h.map _).symm).trans (G.two e (h.mem_iff.2 he))
 con:=λa ha b hb=>(G.con a (hs.mem_iff.2 ha) b (hs.mem_iff.2 hb)).mono λe he=>h.mem_iff.1 he
theorem Jc{f g:α->List β}:∀{l:List α},(∀a∈l,(f a).Perm (g a))->(l.flatMap f).Perm (l.flatMap g)
 | [],_=>fo _
 | a::l,h=>by rw[fc,fc];exact(h a Mh).append (Jc λb hb=>h b (bi _ hb))
theorem Hw{f g:α->List β}:∀{l:List α},(∀a∈l,f a=g a)->l.flatMap f=l.flatMap g
 | [],_=>rfl
 | a::l,h=>by rw[fc,fc,h a Mh,Hw λb hb=>h b (bi _ hb)]
theorem Kd{f g:α->List β}{l l':List α}(h:l.Perm l')(hf:∀a∈l,(f a).Perm (g a)):(l.flatMap f).Perm (l'.flatMap g):=(Jc hf).trans (h.flatMap_right g)
theorem WM(x:Int×Int)(l:List (Int×Int)):(Js x l).Perm (x::l):=by unfold Js;refine List.perm_middle.trans ?_;rw[List.takeWhile_append_dropWhile]
theorem Du(l:List (Int×Int)):(Dm l).Perm l:=by
 have go:∀(l acc:List (Int×Int)),(l.foldl (λacc x=>Js x acc) acc).Perm (acc++l):=λl=>by
  induction l with
  | nil=>intro acc;rw[append_nil];exact List.Perm.refl _
  | cons x l ih=>
   intro acc;rw[ge];refine(ih _).trans (((WM x acc).append_right l).trans ?_);exact List.perm_middle.symm
 exact go l []
structure SimC(l l':List Cl):Prop where
 len:l'.length=l.length
 ids:(l'.map Cl.id).Perm (l.map Cl.id)
 mem:∀x'∈l',∃x∈l,x'.id=x.id/\x'.dim=x.dim/\x'.sd.Perm x.sd
theorem SimC.to{l':List Cl}(S:SimC l l')(hn:(l.map Cl.id).Nodup)(hx:x∈l):∃x'∈l',x'.id=x.id/\x'.dim=x.dim/\x'.sd.Perm x.sd:=by
 obtain⟨x',h1,h2⟩:=ag.1 (S.ids.mem_iff.2 (ag.2 ⟨x,hx,Y⟩));obtain⟨y,h3,h4,h5,h6⟩:=S.mem x' h1
 have:y=x:=by have a:=ET hn h3;have b:=ET hn hx;rw[<-h4,h2,b]at a;exact(bf a).symm
 subst this;exact⟨x',h1,h4,h5,h6⟩
theorem Rgt.sim{l':List Cl}(R:Rgt l)(S:SimC l l'):Rgt l':=by
 have hn':(l'.map Cl.id).Nodup:=S.ids.nodup_iff.2 R.nd
 have hnum:∀{x x':Cl},x'.dim=x.dim->x'.sd.Perm x.sd->¬Cb x->¬Cb x':=λ{x x'} h1 h2 h h3=>by unfold Cb at *;rw[h1,h2.length_eq]at h3;exact h h3
 refine⟨by rw[S.len];exact R.n,hn',λx' hx'=>?_,λx' hx'=>?_,λx' hx'=>?_,λx' hx'=>?_,λx' hx' s hs=>?_,λx' hx' s hs=>?_,λx' hx' hd=>?_,λx' hx' hd=>?_⟩<;>obtain⟨x,hx,e1,e2,e3⟩:=S.mem x' hx'
 ·rw[e1];exact R.pos x hx
 ·rw[e2];exact R.dim x hx
 ·exact hnum e2 e3<|R.num x hx
 ·exact(e3.map _).nodup_iff.2 (R.sds x hx)
 ·obtain⟨y,hy,h1,h2⟩:=R.sid x hx s (e3.mem_iff.1 hs);obtain⟨y',hy',h3,h4,_⟩:=S.to R.nd hy;exact⟨y',hy',by rw[h3,h1],by rw[h4,h2,e2]⟩
 ·exact R.sgn x hx s<|e3.mem_iff.1 hs
 ·rw[JT (e3.map _)];exact R.one x hx (by rw[<-e2];exact hd)
 ·refine(R.tab x hx (by rw[<-e2];exact hd)).perm ?_ e3.symm;unfold KR QW;refine Kd e3.symm λs hs=>List.Perm.map _ ?_;obtain⟨y,hy,h1,h2⟩:=R.sid x hx s hs;obtain⟨y',hy',h3,h4,h5⟩:=S.to R.nd hy;show(GF l s.1).sd.Perm (GF l' s.1).sd;rw[<-h1,DT R.nd hy,<-h3,DT hn' hy'];exact h5.symm
theorem Ww(l:List Cl):SimC l (ordF l):=by have hp:=Ek l.length l (am _);refine⟨by rw[hp.length_eq,be],(hp.map Cl.id).trans (by rw[gg];exact fo _),λx' hx'=>?_⟩;obtain⟨x,hx,rfl⟩:=H0 hx';exact⟨x,hx,Y,Y,Du _⟩
theorem TQ(h:o.Pairwise λa b=>a.id<b.id):(o.map Cl.id).Nodup:=dz.2 (h.imp λh e=>ω)
theorem ON(hi:o.Pairwise λa b=>a.id<b.id)(hy:y∈o):0<=K2 o y.id/\o.getD (K2 o y.id).toNat default=y:=by
 obtain⟨k,hk,rfl⟩:=gh hy;have hc:Mw o o[k].id=k:=Rj ω (λj hj hjk=>ct.1 hi j k hj hk hjk) (λ_=>ω)
 have e:K2 o o[k].id=(k:Int):=by unfold K2;rw[dif_pos (by rw[hc];exact hk)];simp only[hc,ah]
 rw[e];refine⟨ω,?_⟩;rw[Int.toNat_natCast];simp[List.getD,hk]
theorem AbZ{c:Int}(h:0<=K2 o c):∃y∈o,y.id=c/\o.getD (K2 o c).toNat default=y:=by
 unfold K2 at *;split at h
 ·rename_i h1;rw[dif_pos h1];split at h
  ·rename_i h2;rw[ah h2,Int.toNat_natCast];exact⟨_,ao h1,h2,by simp[List.getD,h1]⟩
  ·exact ie h δ
 ·exact ie h δ
theorem U8{l:List (Int×Int)}(h:l.length=2):(l.map Prod.snd).sum=(l.getD 0 (0,0)).2+(l.getD 1 (0,0)).2:=by
 match l,h with
 | [a,b],_=>simp
theorem JL{x:Int×Int}:∀{l:List (Int×Int)},(l.Pairwise λa b=>a.1<=b.1)->∀y∈l.dropWhile (λy=>decide (y.1<=x.1)),x.1<y.1
 | [],_,y,hy=>by cases hy
 | a::l,h,y,hy=>by
  rw[List.dropWhile_cons]at hy;split at hy
  ·exact JL (b7.1 h).2 y hy
  ·rename_i h1;have h1:¬a.1<=x.1:=by simpa using h1
   rcases bg.1 hy with rfl|h2
   ·omega
   ·have:=(b7.1 h).1 y h2;omega
theorem ZS{x:Int×Int}{l:List (Int×Int)}(h:l.Pairwise λa b=>a.1<=b.1):(Js x l).Pairwise λa b=>a.1<=b.1:=by
 unfold Js
 have h1:∀y∈l.takeWhile (λy=>decide (y.1<=x.1)),y.1<=x.1:=λy hy=>by have:=List.all_takeWhile (p:=λy:Int×Int=>decide (y.1<=x.1)) (l:=l);have:=d7.1 this y hy;simpa using this
 have h2:=JL (x:=x) h;refine fh.2 ⟨h.sublist<|List.takeWhile_sublist _,b7.2 ⟨λy hy=>by have:=h2 y hy;omega,h.sublist (List.dropWhile_sublist _)⟩,λa ha b hb=>?_⟩;have h3:=h1 a ha;rcases bg.1 hb with rfl|hb
 ·exact h3
 ·have:=h2 b hb;omega
theorem Jo(l:List (Int×Int)):(Dm l).Pairwise λa b=>a.1<=b.1:=by
 have go:∀(l acc:List (Int×Int)),(acc.Pairwise λa b=>a.1<=b.1)->(l.foldl (λacc x=>Js x acc) acc).Pairwise λa b=>a.1<=b.1:=λl=>by
  induction l with
  | nil=>intro acc h;exact h
  | cons x l ih=>intro acc h;rw[ge];exact ih _<|ZS h
 exact go l [] List.Pairwise.nil
theorem UZ(hi:o.Pairwise λa b=>a.id<b.id)(hs:∀s∈x.sd,∃y∈o,y.id=s.1):Nn o x x.sd.length=KR o x:=by
 have hx:x.sd=(range x.sd.length).map (Bm x):=fw σ λj h1 h2=>by simp[Bj h1]
 unfold KR QW
 conv=>rhs;rw[hx]
 unfold Nn;rw[List.flatMap_map];refine Hw λj hj=>?_;have hj:=cm.1 hj;obtain⟨y,hy,e⟩:=hs (Bm x j) (by rw[Bj hj];exact ao hj);have h1:Gc o x j=y:=by unfold Gc;rw[<-e];exact(ON hi hy).2
 have h2:GF o (Bm x j).1=y:=by rw[<-e];exact DT (TQ hi) hy
 show _=List.map (λr=>((Bm x j).1,r.1,(Bm x j).2*r.2)) (GF o (Bm x j).1).sd;rw[h1,h2]
theorem U1(hi:o.Pairwise λa b=>a.id<b.id)(hc:∃y:Cl,x=y.can):(∀i,i<x.sd.length->¬Dh o x i)<->(∀s∈x.sd,∃y∈o,y.id=s.1/\y.dim=x.dim-1)/\(x.sd.map Prod.fst).Nodup:=by
 have hs:x.sd.Pairwise λa b=>a.1<=b.1:=by obtain⟨y,rfl⟩:=hc;exact Jo _
 constructor
 ·intro h;refine⟨λs hs=>?_,?_⟩
  ·obtain⟨i,hi',rfl⟩:=gh hs;have h1:=h i hi';unfold Dh at h1;rw[Bj hi']at h1;have h2:0<=K2 o x.sd[i].1:=Int.not_lt.1 λq=>h1 (.inl q);obtain⟨y,hy,e1,e2⟩:=AbZ h2;rw[e2]at h1;exact⟨y,hy,e1,aq λq=>h1 (.inr (.inl q))⟩
  ·refine dz.2<|ct.2 λi j hi' hj hij e=>?_;have h1:=h (i+1) ω;unfold Dh at h1;rw[Bj ω,Nat.add_sub_cancel,Bj hi']at h1;refine h1<|.inr<|.inr ⟨ω,?_⟩;have a1:=ct.1 hs i (i+1) hi' ω ω;rcases (ω:i+1=j\/i+1<j) with rfl|q
   ·omega
   ·have a2:=ct.1 hs (i+1) j ω hj q;omega
 ·rintro⟨h1,h2⟩ i hi' h3;unfold Dh at h3;rw[Bj hi']at h3;obtain⟨y,hy,e1,e2⟩:=h1 _ (ao hi');obtain⟨a1,a2⟩:=ON hi hy;rw[e1]at a1 a2;rcases h3 with h3|h3|⟨h3,h4⟩
  ·omega
  ·rw[a2]at h3;exact h3 e2
  ·rw[Bj (show i-1<x.sd.length by omega)]at h4;have:=ct.1 (dz.1 h2) (i-1) i ω hi' ω;exact this h4.symm
theorem J0(h:(x.sd.map Prod.fst).Nodup):∀j m,j<m->m<x.sd.length->(Bm x j).1≠(Bm x m).1:=λj m hjm hm=>by rw[Bj ω,Bj hm];exact ct.1 (dz.1 h) j m ω hm hjm
theorem RgtF.rgt(R:RgtF o):Rgt o:=by
 have hf:=λx hx=>Fp (R.fst x hx)
 have hnum:∀x∈o,¬Cb x:=λx hx q=>by have:=R.fst x hx;unfold CM at this;rw[ae (by have:=(hf x hx).1;omega),ah q]at this;exact ie this δ
 have hb:=λx hx=>(U1 R.inc (R.can x hx)).1 (hf x hx).2.2.1;have hsg:∀x∈o,∀s∈x.sd,s.2=1\/s.2=-1:=λx hx=>(R.bds hx).2.2;refine⟨R.n,TQ R.inc,R.pos,λx hx=>(hf x hx).1,hnum,λx hx=>(hb x hx).2,λx hx=>(hb x hx).1,hsg,λx hx hd=>?_,λx hx hd=>?_⟩
 ·have hl:x.sd.length=2:=aq λq=>hnum x hx (.inr (.inl ⟨hd,q⟩));rw[U8 hl];have h1:=hsg x hx _ (ao (show 0<x.sd.length by omega));have h2:=hsg x hx _ (ao (show 1<x.sd.length by omega));have h3:=R.fst x hx;unfold CM at h3;rw[ae (by have:=(hf x hx).1;omega),ae (hnum x hx),ae (λq=>q (hf x hx).2.2.1),ae (λq=>q (hf x hx).2.2.2)]at h3;rw[<-Bj]at h1 h2;have h4:¬(Bm x 0).2=(Bm x 1).2:=λq=>by rw[ah ⟨hd,q⟩]at h3;exact ie h3 δ
  show(Bm x 0).2+(Bm x 1).2=0;omega
 ·have h1:=(J9 (J0 (hb x hx).2)).1 (R.snd x hx hd)
  rwa [UZ R.inc λs hs=>by obtain⟨y,hy,e,_⟩:=(hb x hx).1 s hs;exact⟨y,hy,e⟩]at h1
theorem Rgt.ordF(R:Rgt l):RgtF (ordF l):=by
 have R':=R.sim (Ww l);have hle:=Fj l.length l (am _);have hinc:(Go.Proofs.Q.ordF l).Pairwise λa b=>a.id<b.id:=(hle.and (dz.1 R'.nd)).imp λh=>ω
 have hcan:∀x∈Go.Proofs.Q.ordF l,∃y:Cl,x=y.can:=λx hx=>by obtain⟨a,_,e⟩:=H0 hx;exact⟨a,e⟩
 refine⟨R'.n,hinc,R'.pos,hcan,λx hx=>?_,λx hx hd=>?_⟩
 ·have hb:=(U1 hinc (hcan x hx)).2 ⟨R'.sid x hx,R'.sds x hx⟩
  have hsg:∀i,i<x.sd.length->¬B1 x i:=λi hi q=>by unfold B1 at q;rw[Bj hi]at q;have:=R'.sgn x hx _ (ao hi);omega
  unfold CM;rw[ae (by have:=R'.dim x hx;omega),ae (R'.num x hx),ae (λq=>q hb),ae (λq=>q hsg)];by_cases hd:x.dim=1
  ·have hl:x.sd.length=2:=aq λq=>R'.num x hx (.inr (.inl ⟨hd,q⟩));have h1:=R'.one x hx hd;rw[U8 hl]at h1;have h2:=R'.sgn x hx _ (ao (show 0<x.sd.length by omega));rw[<-Bj]at h2;have h3:(Bm x 0).2+(Bm x 1).2=0:=h1;rw[ae (λq=>by have:=q.2;omega)]
  ·rw[ae (λq=>hd q.1)]
 ·refine(J9 (J0 (R'.sds x hx))).2 ?_;rw[UZ hinc λs hs=>by obtain⟨y,hy,e,_⟩:=R'.sid x hx s hs;exact⟨y,hy,e⟩];exact R'.tab x hx hd
end
section
variable {o:List Cl}
structure CanO(l o:List Cl):Prop where
 ids:(o.map Cl.id).Perm (l.map Cl.id)
 inc:o.Pairwise λa b=>a.id<=b.id
 mem:∃l':List Cl,l'.Perm l/\o.length=l'.length/\∀i (h:i<o.length) (h':i<l'.length),o[i].id=l'[i].id/\o[i].dim=l'[i].dim/\o[i].sd.Perm l'[i].sd/\o[i].sd.Pairwise λa b=>a.1<=b.1
theorem CanO.len{l:List Cl}(C:CanO l o):o.length=l.length:=by obtain⟨l',h1,h2,_⟩:=C.mem;rw[h2,h1.length_eq]
theorem CanO.sim{l:List Cl}(C:CanO l o):SimC l o:=by obtain⟨l',h1,h2,h3⟩:=C.mem;refine⟨C.len,C.ids,λx' hx'=>?_⟩;obtain⟨i,hi,rfl⟩:=gh hx';obtain⟨a,b,c,_⟩:=h3 i hi ω;exact⟨_,h1.mem_iff.1 (ao ω),a,b,c⟩
theorem Ir{α:Type}(k:α->Int):∀{l l':List α},l.Perm l'->(l.Pairwise λa b=>k a<=k b)->(l'.Pairwise λa b=>k a<k b)->l=l'
 | [],l',h,_,_=>(List.nil_perm.1 h).symm
 | a::l,[],h,_,_=>ie h.length_eq σ
 | a::l,b::l',h,h1,h2=>by
  obtain⟨h3,h4⟩:=b7.1 h1;obtain⟨h5,h6⟩:=b7.1 h2;have hb:b∈a::l:=h.mem_iff.2 Mh;have ha:a∈b::l':=h.mem_iff.1 Mh
  have e:a=b:=by
   rcases bg.1 ha with e|ha
   ·exact e
   ·have g1:=h5 a ha;rcases bg.1 hb with e|hb
    ·exact e.symm
    ·have g2:=h3 b hb;omega
  subst e;rw[Ir k ((List.perm_cons a).1 h) h4 h6]
theorem RgtF.sinc(R:RgtF o):∀x∈o,x.sd.Pairwise λa b=>a.1<b.1:=λx hx=>by
 obtain⟨y,e⟩:=R.can x hx;have h1:x.sd.Pairwise λa b=>a.1<=b.1:=by rw[e];exact Jo _
 have h2:=dz.1 (R.rgt.sds x hx);exact(h1.and h2).imp λh=>ω
theorem exO:∀{l:List Ce},(∀a∈l,a.v.oneCell'=true)->∃lo:List CeO,lo.map (λe=>(⟨e.c,e.v⟩:Ce))=l
 | [],_=>⟨[],rfl⟩
 | a::l,h=>by obtain⟨lo,e⟩:=exO λb hb=>h b (bi _ hb);exact⟨⟨a.c,a.v,h a Mh⟩::lo,by rw[dr,e]⟩
def PK(e:CeO):Ce:=⟨e.c,e.v⟩
theorem N5(lo:List CeO):(lo.map PK).flatMap cC=lo.flatMap TP:=by rw[List.flatMap_map];rfl
theorem Adq{lo:List CeO}{h:Hp}{ms:List Hp}{v:Value}(R:RdL cC 3 h ms v (lo.map PK)):RdL TP 3 h ms v lo:=⟨by have:=R.rd;rwa [N5,be]at this,PV⟩
theorem Adk{lo:List CeO}{m:Hp}{v:Value}(O:OwnL TP 3 50 m v lo):OwnL cC 3 50 m v (lo.map PK):=⟨by have:=O.own;rwa [N5,be],DP⟩
structure OrdC(l:List Ce):Prop where
 n:l.length<=1000000
 s:∀a∈l,a.c.sd.length<=20
 oi:l.Pairwise λa b=>a.c.id<=b.c.id
 od:∀a∈l,a.c.sd.Pairwise λa b=>a.1<=b.1
theorem OrdC.can{l:List Ce}(O:OrdC l):CanO (l.map Ce.c) (l.map Ce.c):=⟨fo _,dz.2 O.oi,_,fo _,rfl,λi h h'=>⟨rfl,rfl,fo _,by
 obtain⟨a,ha,e⟩:=ag.1 (ao h)
 rw[<-e];exact O.od a ha⟩⟩
theorem Aax{oi:List CeO}{i:Nat}{a b:CeO}(h:a∈oi.set i b):a=b\/a∈oi:=(List.mem_or_eq_of_mem_set h).symm
theorem Ny(l:List Ce)(v:Value)(hp:Hp)(K:OrdC l)(hR:RdC hp v l):FnT Tryz.prog 133 #[.agg #[v]] hp [] (λr h' ms'=>hp.le h'/\∃m A v',ms'=[m]/\r=.agg #[v']/\OwnL cC 3 50 m v' A/\CanO (l.map Ce.c) (A.map Ce.c)/\∀a∈A,RdL cD 2 h' [] a.v a.c.sd):=by
 have o1:=hR.q.rd.one;obtain⟨lo,e⟩:=exO (λa ha=>(hR.s a ha).rd.one);have e:lo.map PK=l:=e;refine Ap func133 ntmps133 Y Y<|λw0 hw0=>?_;simp only[AR];refine Ar<|AK [_] Y Y (by rfl) Y Y Y<|λg1=>BS [.nl] Y Bd Y Y<|λg2=>Am<|Av 1 Y λh1 l1 hS=>?_;have hR:=hR.up l1;have hA:=Seg.all hS;have c0:∀ms,Cell h1 ms (⟨g1,0,none⟩:Addr) v:=λms=>hA 0 _ Y ms;have hRo:RdL TP 3 h1 [] v lo:=Adq (by rw[e];exact hR.q);have hlo:lo.length=l.length:=by rw[<-e,be]
 refine Ar<|Qf Ct Y<|Ql Y B0 (c0 _) ?_
 have hS:IncC lo:=by have:=K.oi;rw[<-e]at this;exact(dz (f:=PK)).1 this
 have hn:=K.n;refine Qc call168 Y (Ul lo v h1 hRo ω hS)<|λr h2 ms2 l2 hF=>?_;obtain⟨l2',m,rfl,hO⟩:=hF;have ovr:=hO.o1
 have hRs:∀a∈lo,RdL cD 2 h2 [] a.v a.c.sd/\a.c.sd.length<=20/\IncD a.c.sd:=λa ha=>by
  have:PK a∈l:=by rw[<-e];exact ag.2 ⟨a,ha,Y⟩
  exact⟨(hR.s _ this).up l2,K.s _ this,K.od _ this⟩
 refine Qm Y<|Am<|Ac<|Ar<|Qm Y<|Qx (Aq (hO.rd Mh).rd Y B0 Y) Y<|Qm Y<|Am<|Ag ?_
 refine AB (λq sl h' ms'=>∃(i:Nat) (m:Hp) (oi:List CeO),q=lo.length-i/\sl=[(2,.pt g2),(3,r),(9,.w lo.length),(10,.w i)]/\h2.le h'/\ms'=[m,BI g2 27 [.nl]]/\i<=lo.length/\OLC m r oi/\oi.map CeO.c=lo.map CeO.c/\∀a∈oi,RdL cD 2 h' [] a.v a.c.sd/\a.c.sd.length<=20/\IncD a.c.sd)
  (lo.length-0) _ ⟨0,m,lo,rfl,rfl,BE,rfl,ω,hO,rfl,hRs⟩ Qs ?_
 rintro q sl h3 ms' ⟨i,m,oi,rfl,rfl,l3,rfl,hi,hO,hE,hRs⟩;have ovr:=hO.o1;have hoil:oi.length=lo.length:=by simpa using aw List.length hE
 refine Ar<|Qm Y<|Am<|Ac ?_;refine Aw Y (λhlt=>?_)<|λhlt=>?_
 ·have hil:i<oi.length:=ω
  obtain⟨hRi,hRn,hRd⟩:=hRs _ (ao hil);have c2:∀ms,m∈ms->Cell h3 ms (((AH r).add (i*3)).add 2) oi[i].v:=λms hm=>(hO.rd hm).cell hil (f:=2) Y;have ovi:=hRi.rd.one;refine Ah<|Ab<|Ac<|Ag<|Ar<|Qm Y<|Qm Y<|GX<|Qm Y<|Qm Y<|Qm Y<|Qm Y<|Qx (AM (i) (hO.rd Mh).rd Y B0 A3 Y Y ω ω) Y<|Qf BU Y<|Ql Y Da (c2 _ Mh)<|Qc call170 Y (TI oi[i].c.sd oi[i].v h3 hRi hRn hRd)<|λrS h4 ms4 l4 hF=>?_;obtain⟨l4',mS,rfl,hOS⟩:=hF;refine Bt hOS λh5 l5 hRS=>?_;have ovS:=hRS.rd.one;refine Qx (AM (i) (hO.rd Mh).rd Y B0 A3 Y Y ω ω) Y<|Qf BU Y ?_;refine OH 0 i 2 ⟨oi[i].c,rS,ovS⟩ [rS] hO Y Aee Y Y hRS.rd.cells Y (λc hc=>by rw[bm.1 hc];exact ovS) Y hil ω Y Y Y<|λm' hO'=>?_;refine An<|Ai<|Ab<|Ad<|Qx (oA Y) Y<|Qm Y<|An ?_
  exact Ao (lo.length-(i+1)) _ ω ⟨i+1,m',_,Y,Y,AD l3 (AD l4 l5),Y,ω,hO',by
   rw[<-hE,List.map_set]
   exact fw σ λj h1 h2=>by
    simp only[List.getElem_set,List.getElem_map];split
    ·rename_i e;subst e;rfl
    ·rfl,λa ha=>by
   rcases Aax ha with rfl|ha
   ·exact⟨hRS,hRn,hRd⟩
   ·exact⟨(hRs a ha).1.up (AD l4 l5),(hRs a ha).2⟩⟩ Qs
 ·have hOe:=Adk hO
  have hfin:∀a∈oi.map PK,RdL cD 2 h3 [] a.v a.c.sd:=λa ha=>by obtain⟨b,hb,rfl⟩:=ag.1 ha;exact(hRs b hb).1
  have hmm:(oi.map PK).map Ce.c=l.map Ce.c:=by rw[<-e,gg,gg];exact hE
  obtain⟨ar,cr,rfl,_⟩:=(hO.rd (h:=h3) (ms:=[m]) Mh).rd.ex;refine Ax<|Aa<|Aa<|Af<|Ab<|Ar<|Qm Y<|Qx (AN AbV [.nl] [(0,_)] [_] Y Bd Y Y Qt Y) Y ?_;refine Sa 1 [_] Bd Y (by simp[Value.oneCell']) ?_;refine Am<|Aj ?_;exact Bx (vs:=[_]) 1 Y Y C9 Y Bd Y Y (⟨AD l1 (AD l2 l3),m,oi.map PK,_,Y,Y,hOe,by rw[hmm];exact K.can,hfin⟩)
end
def kN(a:Int):Value:=.int .i64 a
theorem BH:Nj Tryz.prog 3 kN Cd where
 law:=Maps.int_keyed U3
 inj:=λa b h=>by unfold kN at h;simpa using h
 key:=λb h=>⟨_,Maps.keyOf_int_mk U3 (WalkArith.wf_i64 h)⟩
def vC(a:Ce):Value:=.agg (cC a).toArray
theorem Oj(w:World):(zeroValue 50).run Tryz.prog w=.ok (vC default) w:=by rfl
theorem VV{a h m:Hp}(hl:a.le h)(hd:h.disj m):a.disj m:=λg=>by
 rcases hd g with e|e
 ·left
  cases ha:a g with
  | none=>rfl
  | some o=>rw[hl g o ha]at e;cases e
 ·exact .inr e
def S9(U:List Ce)(a:Ce):List Ce:=if a.c.id∈U.map (λb=>b.c.id) then U else U++[a]
def TC(A:List Ce):List Ce:=A.foldl S9 []
theorem AaA{A:List Ce}{i:Nat}(hi:i<A.length):TC (A.take (i+1))=S9 (TC (A.take i)) A[i]:=by unfold TC;rw[ak hi,foldl_append];rfl
theorem Lo:∀(A U:List Ce),∀a∈A.foldl S9 U,a∈U\/a∈A
 | [],U,a,h=>.inl h
 | b::A,U,a,h=>by
  rcases Lo A (S9 U b) a h with h|h
  ·unfold S9 at h;split at h
   ·exact .inl h
   ·rcases bj.1 h with h|h
    ·exact .inl h
    ·rw[bm.1 h];exact .inr Mh
  ·exact .inr<|bi _ h
theorem UV:∀(A U:List Ce),((U++A).map λa=>a.c.id).Nodup->A.foldl S9 U=U++A
 | [],U,_=>by simp
 | a::A,U,h=>by
  have e:S9 U a=U++[a]:=by unfold S9;rw[ae];intro hm;rw[dd,ib]at h;exact h.2.2 _ hm _ σ rfl
  rw[ge,e,UV A (U++[a]) (by rwa [cz])];simp
theorem ZW{A:List Ce}(h:(A.map λa=>a.c.id).Nodup):TC A=A:=by have:=UV A [] (by simpa using h);simpa[TC] using this
theorem Z3:∀(A U:List Ce),(A.foldl S9 U).length<=U.length+A.length
 | [],U=>by simp
 | a::A,U=>by
  have h1:=Z3 A (S9 U a);have h2:(S9 U a).length<=U.length+1:=by unfold S9;split<;>simp
  rw[List.foldl_cons,length_cons];omega
def GM(U:List Ce):List (Int×Ce):=U.map λa=>(a.c.id,a)
theorem Q4(U:List Ce):(GM U).map Prod.fst=U.map λa=>a.c.id:=by unfold GM;rw[gg];rfl
theorem Abj{U:List Ce}{i:Int}{b:Bool}(h:(BJ (GM U) i).isSome=b):i∈U.map (λa=>a.c.id)<->b=true:=by
 subst h;rw[<-Q4];constructor
 ·intro hm;cases hg:BJ (GM U) i with
  | some _=>rfl
  | none=>
   exfalso;unfold BJ at hg;rw[Option.map_eq_none_iff,List.find?_eq_none]at hg;obtain⟨p,hp,e⟩:=ag.1 hm;have:=hg p hp;simp[e]at this
 ·intro hs;refine aq λhm=>?_;rw[DZ hm]at hs;cases hs
def RdT(h:Hp)(g:Nat)(U:List Ce):Prop:=∃gm m bs vids,Seg h [] ⟨g,0,none⟩ [.map (some gm),vids]/\CF kN vC gm Cd m (GM U) bs/\m.le h/\RdL cI 1 h [] vids (U.map λa=>a.c.id)/\∀a∈U,RdL cD 2 h [] a.v a.c.sd
theorem RdT.up{h h':Hp}{g:Nat}{U:List Ce}(R:RdT h g U)(l:h.le h'):RdT h' g U:=by obtain⟨gm,m,bs,vids,h1,h2,h3,h4,h5⟩:=R;exact⟨gm,m,bs,vids,h1.le l,h2,AD h3 l,h4.up l,λa ha=>(h5 a ha).up l⟩
structure OfOk(l:List Ce):Prop extends OrdC l where
 i:∀a∈l,Cd a.c.id
theorem Ac3(l:List Ce)(v:Value)(hp:Hp)(hK:OfOk l)(hR:RdC hp v l):FnT Tryz.prog 88 #[.agg #[v]] hp [] (λr h' ms'=>hp.le h'/\ms'=[]/\∃g A,r=.pointer (some ⟨g,0,none⟩)/\CanO (l.map Ce.c) (A.map Ce.c)/\RdT h' g (TC A)):=by
 have o1:=hR.q.rd.one;refine Ap func88 ntmps88 Y Y<|λw0 hw0=>?_;simp only[AR];refine Ar<|AK [_] Y Y (by rfl) Y Y Y<|λg1=>Qm Y<|Am<|AF λh1 l1 hS=>?_;have hR:=hR.up l1;have hA:=Seg.all hS;refine BV<|Ar<|Dx (K:=kN) (V:=vC) (Ok:=Cd) Y Y Y Y<|λgm mM hM=>Qx (AN Ae0 [.map none,.nl] [(0,_)] [_,_] Y AeK Y Y Qt Y) Y<|AK [_,_] Y Y (by rfl) Y Y Y<|λg10=>Qm Y<|Am<|Ac<|Ar<|Qx (oG Y C9 Bd<|Seg.any hS) Y<|Qc call133 Y (Ny l v h1 hK.toOrdC hR)<|λrC h2 ms2 l2 hF=>?_;obtain⟨l2',mA,A,vA,rfl,rfl,hOA,hC,hsA⟩:=hF;refine Bt hOA λh3 l3 hQ=>?_;have hsA:=λa ha=>(hsA a ha).up l3;have ovA:=hQ.rd.one;have hAl:A.length=l.length:=by have:=hC.len;rwa [be,be]at this
 have hAn:A.length<=1000000:=by rw[hAl];exact hK.n
 refine Qx (Hg Y C9 Y B0 Y Y Y) Y<|Qx (Aq hQ.rd.any Y B0 Y) Y<|Qm Y<|Am<|Ag ?_
 refine AB (λq sl h' ms'=>∃(i:Nat) (vI:Value) (mI mM:Hp) (bs:List Nat),q=A.length-i/\sl=[(3,.pt g10),(13,vA),(14,.w A.length),(15,.w i)]/\h3.le h'/\ms'=[BI g10 137 [.map (some gm),vI],mM,mI]/\i<=A.length/\CF kN vC gm Cd mM (GM (TC (A.take i))) bs/\OwnL cI 1 3 mI vI ((TC (A.take i)).map λa=>a.c.id))
  (A.length-0) _ ⟨0,_,Hp.emp,mM,[],rfl,rfl,BE,rfl,ω,hM,OwnL.nil A8⟩ Qs ?_
 rintro q sl h4 ms' ⟨i,vI,mI,mM,bs,rfl,rfl,l4,rfl,hi,hM,hOI⟩;have hQ:=hQ.up l4;refine Ar<|Qm Y<|Am<|Ac ?_;refine Aw Y (λhlt=>?_)<|λhlt=>?_
 ·have hil:i<A.length:=ω
  obtain⟨x,hx⟩:∃x,A[i]=x:=⟨_,Y⟩
  have hxm:x∈A:=by rw[<-hx];exact ao hil
  have hU:=AaA hil;rw[hx]at hU;obtain⟨U,hUe⟩:∃U,TC (A.take i)=U:=⟨_,Y⟩
  rw[hUe]at hM hOI hU;have oxv:=(hsA x hxm).rd.one;have hsx:∀ms,Seg h4 ms ((AH vA).add (i*3)) (cC x):=λms=>by rw[<-hx];exact(hQ.any (ms:=ms)).seg hil
  have ovI:=hOI.o1;obtain⟨bb,hbb⟩:∃bb,(BJ (GM U) x.c.id).isSome=bb:=⟨_,Y⟩
  have hin:=Abj hbb;refine Ah<|Ab ?_;refine Bv (λsl h' ms'=>∃(vI:Value) (mI mM:Hp) (bs:List Nat),sl=[(3,.pt g10),(13,vA),(14,.w A.length),(15,.w i)]/\h4.le h'/\ms'=[BI g10 137 [.map (some gm),vI],mM,mI]/\CF kN vC gm Cd mM (GM (S9 U x)) bs/\OwnL cI 1 3 mI vI ((S9 U x).map λa=>a.c.id)) ?_<|λs h ms hI=>?_
  ·refine Ag<|Ar<|Qx (BC (i) hQ.rd.any Y B0 A3 Y Y) Y<|Qx (oG Y Jz A3<|hsx _) Y<|BS [.w 0,.w 0,.nl] Y A3 Y Y<|λg5=>?_;refine Sa 0 [_,_,_] A3 Y (by simp[o1,ovA,oxv,ovI]) ?_;refine Am<|AF λh5 l5 hS5=>?_;have e5:=Seg.all hS5;have e50:∀ms,Cell h5 ms (⟨g5,0,none⟩:Addr) (.w x.c.id):=λms=>e5 0 _ Y ms;refine Vl λh6 l6 lB dB LB=>Vl λh7 l7 lM dM LM=>?_
   have e10:=Seg.all (Seg.ofLe (AD lB l7));have e50':∀ms,Cell h7 ms (⟨g5,0,none⟩:Addr) (.w x.c.id):=λms=>(e50 ms).le (AD l6 l7);have e100:∀ms,Cell h7 ms (⟨g10,0,none⟩:Addr) (.map (some gm)):=λms=>e10 0 _ Y ms
   have hid:Cd x.c.id:=by obtain⟨y,hy,e,_⟩:=hC.sim.mem x.c (ag.2 ⟨x,hxm,Y⟩);obtain⟨z,hz,rfl⟩:=ag.1 hy;rw[e];exact hK.i z hz
   obtain⟨y,hy⟩:∃y,(BJ (GM U) x.c.id).getD default=y:=⟨_,Y⟩
   have oyv:y.v.oneCell'=true:=by
    rw[<-hy];cases hg:BJ (GM U) x.c.id with
    | none=>rfl
    | some z=>
     unfold BJ at hg;obtain⟨p,hp,rfl⟩:=Option.map_eq_some_iff.1 hg;obtain⟨a,ha,rfl⟩:=ag.1 (List.mem_of_find?_eq_some hp);have ha:a∈TC (A.take i):=by rw[hUe];exact ha
     rcases Lo _ _ a ha with h|h
     ·cases h
     ·exact(hsA a (mem_of_mem_take h)).rd.one
   refine Bv (λsl h' ms'=>∃g6:Nat,sl=[(3,.pt g10),(5,.pt g5),(7,.bool bb),(13,vA),(14,.w A.length),(15,.w i)]/\h7=h'/\ms'=[BI g6 50 (cC y),mI]) ?_<|λs h ms hI=>?_
   ·refine AS (n:=13) (bs:=[ig,ig,ig,ig,ig,ig,ig,ig,ig,ig,ii,ii,ii]) [ig,ig,ig,ig,ig,ig,ig,ig,ig,ig] CC κ κ Y Y<|Qq Y<|Qq Y<|QF GH Y<|QL Y I6 (e100 _)<|QF BZ Y<|QL Y U3 (e50' _)<|Qp Y (J5 (V:=vC) (z:=(default:Ce)) x.c.id hy hbb BH hM lM Y I6 Oj Y Y hid)<|Qq Y<|Qq Y<|Qq Y ?_;unfold Dd;simp only[bh,ap];refine Qo 10 Y<|BS [.w 0,.w 0,.nl] Y A3 Y Y<|λg6=>Qw<|Qo 11 Y ?_;refine Sa 0 [_,_,_] A3 Y (by simp[o1,ovA,oxv,ovI,oyv]) ?_;refine Qw<|Qo 12 Y<|Qm Y<|Qw<|Qe ?_;exact AI _ ⟨g6,Y,Y,Y⟩ Qs
   ·obtain⟨g6,rfl,rfl,rfl⟩:=hI;refine JY<|VH LM lM λh8 q8 b8=>?_;have lB8:(BI g10 137 [.map (some gm),vI]).le h8:=b8 _ (AD lB l7) (VV lB dM);refine VH LB lB8 λh9 q9 b9=>?_;have l59:h5.le h9:=b9 _ (b8 _ (AD l6 l7) (VV l6 dM)) dB;have l39:h3.le h9:=AD l4 (AD l5 l59);have e50:∀ms,Cell h9 ms (⟨g5,0,none⟩:Addr) (.w x.c.id):=λms=>(e50 ms).le l59;have hS9:=hS5.le l59;refine Ar<|Qm Y<|Qm Y<|Am ?_;refine BW Y (λhn=>?_)<|λhn=>?_
    ·have hbf:bb=false:=by cases bb<;>simp at hn ⊢
     have hni:x.c.id ∉ U.map λa=>a.c.id:=λq=>by rw[hin.1 q]at hbf;cases hbf
     have hUU:S9 U x=U++[x]:=ae hni
     have hset:Dw (GM U) x.c.id x=GM (U++[x]):=by unfold Dw;rw[ae (by rw[Q4];exact hni)];unfold GM;rw[dd];rfl
     have hUl:U.length<=i:=by rw[<-hUe];exact bl (Z3 _ []) (by simp;omega)
     rw[hUU];refine Bv (λsl h' ms'=>∃(mM:Hp) (bs:List Nat),sl=[(3,.pt g10),(5,.pt g5),(13,vA),(14,.w A.length),(15,.w i)]/\h9=h'/\ms'=[BI g10 137 [.map (some gm),vI],mM,mI]/\CF kN vC gm Cd mM (GM (U++[x])) bs) ?_<|λs h ms hI=>?_
     ·refine AS (n:=8) (bs:=[ig,ig,ig,ii,ig,ig,ig,ii]) [ig,ig,ig,ii,ig,ig,ig] CC κ κ Y Y<|Qq Y<|Qq Y<|QF GH Y<|QF BZ Y<|QL Y U3 (e50 _)<|Qp Y (oG Y Jz A3<|Seg.any hS9) ?_;unfold Dd;simp only[bh,ap];refine Qo 3 Y<|Ql Y I6 (Cell.blk 0 Y Y)<|Qw<|Qo 7 Y<|C5 (V:=vC) (z:=undef) 1 x.c.id x BH hM Y Y I6 Y Y Y hid Y Y<|λmM' bs' hM'=>Qw<|Qe ?_;rw[hset]at hM';exact AI _ ⟨mM',bs',Y,Y,Y,hM'⟩ Qs
     ·obtain⟨mM,bs,rfl,rfl,rfl,hM⟩:=hI;refine AS (n:=12) (bs:=[ig,ig,ig,ig,ii,ig,ig,ii,ii,ig,ig,ii]) [ig,ig,ig,ig,ii,ig,ig,ii,ii,ig,ig] CC κ κ Y Y<|Qq Y<|Qq Y<|Qq Y<|QF Ot Y<|QF BZ Y<|QL Y U3 (e50 _)<|Qq Y<|QF Ot Y ?_;unfold Dd;simp only[bh,ap];refine A4 [4,7] κ Y ?_;refine AA Y ?_ ?_
      ·refine Ql Y AZ (Cell.blk 0 Y Y)<|Qw<|Qo 7 Y<|Ay [_] Y AZ Bk Y (by rfl) Y Y ω Y Y Y<|λg45=>Qw<|Qo 8 Y<|AJ 3 hOI (RdL.one A8 (x:=x.c.id) Mh Y) Y AZ Bk Y ω Y Y Y BT (by(try simp only[ab,be]);omega) (by(try simp only[ab,be]);omega) rfl rfl rfl<|λvI2 mI2 hOI2=>?_;have ovI2:=hOI2.o1;refine Qw<|Qo 11 Y ?_;refine Bh 1 _ Y FA Y Y (by assumption) Y Y (by(simp;done)) rfl rfl ?_;refine Qw<|Qe ?_;rw[show(U.map λa=>a.c.id)++[x.c.id]=(U++[x]).map λa=>a.c.id by rw[dd];rfl]at hOI2;refine AQ<|Ai ?_;exact AI _ ⟨vI2,mI2,mM,bs,Y,AD l5 l59,Y,hM,hOI2⟩ Qs
      refine AA Y ?_ ?_
      ·refine Ay [_] Y AZ Bk Y (by rfl) Y Y ω Y Y Y<|λg45=>Qw<|Qo 4 Y<|Ql Y AZ (Cell.blk 1 Y Y)<|Qw<|Qo 8 Y<|AJ 3 hOI (RdL.one A8 (x:=x.c.id) Mh Y) Y AZ Bk Y ω Y Y Y BT (by(try simp only[ab,be]);omega) (by(try simp only[ab,be]);omega) rfl rfl rfl<|λvI2 mI2 hOI2=>?_;have ovI2:=hOI2.o1;refine Qw<|Qo 11 Y ?_;refine Bh 1 _ Y FA Y Y (by assumption) Y Y (by(simp;done)) rfl rfl ?_;refine Qw<|Qe ?_;rw[show(U.map λa=>a.c.id)++[x.c.id]=(U++[x]).map λa=>a.c.id by rw[dd];rfl]at hOI2;refine AQ<|Ai ?_;exact AI _ ⟨vI2,mI2,mM,bs,Y,AD l5 l59,Y,hM,hOI2⟩ Qs
      exact A5
    ·have hbt:bb=true:=by cases bb<;>simp at hn ⊢
     have hUU:S9 U x=U:=ah (hin.2 hbt);rw[hUU];refine Ah<|Ai ?_;exact AI _ ⟨vI,mI,mM,bs,Y,AD l5 l59,Y,hM,hOI⟩ Qs
  ·obtain⟨vI,mI,mM,bs,rfl,k9,rfl,hM,hOI⟩:=hI;refine Ad<|Qx (oA Y) Y<|Qm Y<|An ?_;exact Ao (A.length-(i+1)) _ ω ⟨i+1,vI,mI,mM,bs,Y,Y,AD l4 k9,Y,ω,by rw[hU];exact hM,by rw[hU];exact hOI⟩ Qs
 ·obtain rfl:i=A.length:=ω
  rw[fe]at hM hOI;refine Ax<|Aa<|Aa<|Af<|Ab<|Ar<|Qm Y<|Qm Y<|Am<|Aj<|Ju λh5 l5 k5=>Ju λh6 l6 k6=>Ju λh7 l7 k7=>?_
  have hT:RdT h7 g10 (TC A):=⟨gm,mM,bs,vI,Seg.ofLe (AD k5 (AD l6 l7)),hM,AD k6 l7,hOI.rdh k7,λa ha=>by
   rcases Lo _ _ a ha with h|h
   ·cases h
   ·exact(hsA a h).up (AD l4 (AD l5 (AD l6 l7)))⟩
  exact Al Y Y (⟨AD l1<|AD l2<|AD l3<|AD l4<|AD l5<|AD l6 l7,Y,g10,A,Y,hC,hT⟩)
section
variable {gM:Nat} {mM:Hp}
def P6(v:Value):Value:=v
structure OwnMS(gM:Nat)(mM mB:Hp)(T:List (Int×List Int)):Prop where
 ex:∃(Tv:List (Int×Value)) (bs:List Nat),CF kN P6 gM Cd mM Tv bs/\Tv.map Prod.fst=T.map Prod.fst/\Bag T.length (λl m=>∃p,Tv[l]?=some p/\OwnL cI 1 3 m p.2 ((T.map Prod.snd).getD l [])) mB
theorem OwnMS.start(O:CF kN P6 gM Cd mM ([]:List (Int×Value)) []):OwnMS gM mM Hp.emp []:=⟨[],[],O,rfl,Bag.zero _⟩
theorem H8{ν:Type}{T:List (Int×ν)}{a:Int}(h:a∈T.map Prod.fst):∃(l:Nat) (x:ν),T[l]?=some (a,x):=by obtain⟨p,hp,rfl⟩:=ag.1 h;obtain⟨l,hl,e⟩:=gh hp;exact⟨l,p.2,by rw[aj hl,e]⟩
theorem NU{ν μ:Type}{T:List (Int×ν)}{T':List (Int×μ)}(h:T'.map Prod.fst=T.map Prod.fst){l:Nat}{a:Int}{x:ν}(e:T[l]?=some (a,x)):∃y,T'[l]?=some (a,y):=by
 have h1:(T'.map Prod.fst)[l]?=(T.map Prod.fst)[l]?:=by rw[h]
 rw[fk,fk,e]at h1;cases h2:T'[l]? with
 | none=>rw[h2]at h1;cases h1
 | some p=>
  rw[h2]at h1;have:p.1=a:=bf h1;exact⟨p.2,by rw[<-this]⟩
theorem OwnMS.open{mB:Hp}{T:List (Int×List Int)}(M:OwnMS gM mM mB T)(a:Int):∃(Tv:List (Int×Value)) (bs:List Nat) (v:Value) (m1 m2:Hp),CF kN P6 gM Cd mM Tv bs/\(BJ Tv a).getD (.slice none 0 0)=v/\mB=m1.join m2/\m1.disj m2/\OwnL cI 1 3 m1 v ((BJ T a).getD []) ∧
  ∀v' L' m1' mM' bs',m1'.disj m2->OwnL cI 1 3 m1' v' L'->CF kN P6 gM Cd mM' (Dw Tv a v') bs'->OwnMS gM mM' (m1'.join m2) (Dw T a L'):=by
 obtain⟨Tv,bs,hO,hK,hB⟩:=M.ex;have hnd:(T.map Prod.fst).Nodup:=by rw[<-hK];exact hO.keys
 have hlen:Tv.length=T.length:=by have:=aw List.length hK;simpa using this
 by_cases ha:a∈T.map Prod.fst
 ·obtain⟨l,L,hl⟩:=H8 ha;obtain⟨v,hv⟩:=NU hK hl;have hlT:l<T.length:=(br.1 hl).1;obtain⟨m1,m2,e,hd,⟨p,hp,hO1⟩,hrest,hclose⟩:=hB.open hlT;have hpv:p=(a,v):=by rw[hv]at hp;exact(bf hp).symm
  subst hpv;have hL:(T.map Prod.snd).getD l []=L:=by simp[List.getD,hl]
  rw[hL]at hO1;refine⟨Tv,bs,v,m1,m2,hO,by rw[ED hO.keys hv];rfl,e,hd,by rw[ED hnd hl];exact hO1,λv' L' m1' mM' bs' hd' hO' hM'=>?_⟩;rw[FH hO.keys hv]at hM';rw[FH hnd hl];refine⟨_,bs',hM',by rw[List.map_set,List.map_set,hK],?_⟩;rw[ff];have hlv:l<Tv.length:=ω
  refine hclose _ m1' hd' ⟨(a,v'),by rw[List.getElem?_set_self hlv],?_⟩ λk hk hne x hx=>?_
  ·have:((T.set l (a,L')).map Prod.snd).getD l []=L':=by simp[List.getD,hlT]
   rw[this];exact hO'
  ·obtain⟨p,hp,hx⟩:=hx;refine⟨p,by rw[List.getElem?_set_ne (ft hne)];exact hp,?_⟩
   have:((T.set l (a,L')).map Prod.snd).getD k []=(T.map Prod.snd).getD k []:=by rw[List.map_set];simp only[gn];rw[List.getElem?_set_ne (ft hne)]
   rw[this];exact hx
 ·have haV:a ∉ Tv.map Prod.fst:=by rw[hK];exact ha
  refine⟨Tv,bs,.nl,Hp.emp,mB,hO,by rw[DZ haV];rfl,(Hp.emp_join mB).symm,λg=>.inl rfl,by rw[DZ ha];exact OwnL.nil A8,λv' L' m1' mM' bs' hd' hO' hM'=>?_⟩;have e1:Dw Tv a v'=Tv++[(a,v')]:=ae haV;have e2:Dw T a L'=T++[(a,L')]:=ae ha;rw[e1]at hM';rw[e2,Hp.join_comm hd'];refine⟨_,bs',hM',by rw[dd,dd,hK];rfl,?_⟩;rw[af];refine Bag.snoc (hB.mono λl hl x hx=>?_) ⟨(a,v'),by rw[<-hlen];simp,?_⟩<|Hp.disj_symm hd'
  ·obtain⟨p,hp,hx⟩:=hx;refine⟨p,by rw[d5 ω];exact hp,?_⟩
   have:((T++[(a,L')]).map Prod.snd).getD l []=(T.map Prod.snd).getD l []:=by rw[dd];simp only[gn];rw[d5 (by simpa using hl)]
   rw[this];exact hx
  ·have:((T++[(a,L')]).map Prod.snd).getD T.length []=L':=by simp[List.getD]
   rw[this];exact hO'
theorem OwnMS.look{mB h:Hp}{T:List (Int×List Int)}(M:OwnMS gM mM mB T)(hB:mB.le h):∃(Tv:List (Int×Value)) (bs:List Nat),CF kN P6 gM Cd mM Tv bs/\Tv.map Prod.fst=T.map Prod.fst/\(∀l (h1:l<Tv.length) (h2:l<T.length),Tv[l].1=T[l].1/\RdL cI 1 h [] Tv[l].2 T[l].2)/\∀a,RdL cI 1 h [] ((BJ Tv a).getD (.slice none 0 0)) ((BJ T a).getD []):=by
 obtain⟨Tv,bs,hO,hK,hG⟩:=M.ex;have hnd:(T.map Prod.fst).Nodup:=by rw[<-hK];exact hO.keys
 have hat:∀l (h1:l<Tv.length) (h2:l<T.length),Tv[l].1=T[l].1/\RdL cI 1 h [] Tv[l].2 T[l].2:=λl h1 h2=>by
  obtain⟨x,hx,p,hp,hO1⟩:=hG.all l h2;rw[aj h1]at hp;have:=bf hp;subst this;have h3:(Tv.map Prod.fst)[l]?=(T.map Prod.fst)[l]?:=by rw[hK]
  rw[fk,fk,aj h1,aj h2]at h3;refine⟨bf h3,?_⟩;have h4:(T.map Prod.snd).getD l []=T[l].2:=by simp[List.getD,h2]
  rw[h4]at hO1;exact hO1.rdh<|AD hx hB
 refine⟨Tv,bs,hO,hK,hat,λa=>?_⟩;by_cases ha:a∈T.map Prod.fst
 ·obtain⟨l,L,hl⟩:=H8 ha;obtain⟨v,hv⟩:=NU hK hl;rw[ED hO.keys hv,ED hnd hl];obtain⟨h1,e1⟩:=br.1 hv;obtain⟨h2,e2⟩:=br.1 hl;have:=(hat l h1 h2).2;rw[e1,e2]at this;exact this
 ·rw[DZ ha,DZ (by rw[hK];exact ha)];exact⟨Rd.nil _ _ _,A8⟩
end
def IY(U:List Cl)(x:Cl)(i:Nat):Prop:=(ZP U (Bm x i).1).isSome=false\/(GF U (Bm x i).1).dim≠x.dim-1\/(0<i/\(Bm x (i-1)).1=(Bm x i).1)
instance (U:List Cl) (x:Cl) (i:Nat):Decidable (IY U x i):=by unfold IY;infer_instance
def sgs(x:Cl)(i:Nat):Int:=((x.sd.take i).map Prod.snd).sum
theorem AaO{x:Cl}{i:Nat}(h:i<x.sd.length):sgs x (i+1)=sgs x i+x.sd[i].2:=by unfold sgs;rw[ak h,dd,List.sum_append];simp
def EL(U:List Cl)(x:Cl):Int:=
 if x.dim<0\/8<x.dim then 21
 else if Cb x then 22
 else if ¬∀i,i<x.sd.length->¬IY U x i then 22
 else if ¬∀i,i<x.sd.length->¬B1 x i then 23
 else if x.dim=1/\sgs x x.sd.length≠0 then 23 else 0
theorem VM(U:List Ce)(c:Int):(BJ (GM U) c).map Ce.c=ZP (U.map Ce.c) c:=by unfold BJ GM ZP;rw[List.find?_map,List.find?_map,Option.map_map,Option.map_map];rfl
theorem K7(U:List Ce)(c:Int):((BJ (GM U) c).getD default).c=GF (U.map Ce.c) c:=by unfold GF;rw[<-VM];cases BJ (GM U) c<;>rfl
theorem Yc(U:List Ce)(c:Int):(BJ (GM U) c).isSome=(ZP (U.map Ce.c) c).isSome:=by rw[<-VM];cases BJ (GM U) c<;>rfl
theorem UF{U:List Ce}{c:Int}{y:Ce}(h:BJ (GM U) c=some y):y∈U:=by unfold BJ at h;obtain⟨p,hp,rfl⟩:=Option.map_eq_some_iff.1 h;obtain⟨a,ha,rfl⟩:=ag.1 (List.mem_of_find?_eq_some hp);exact ha
theorem YV{h:Hp}{U:List Ce}(hs:∀a∈U,RdL cD 2 h [] a.v a.c.sd)(c:Int):RdL cD 2 h [] ((BJ (GM U) c).getD default).v ((BJ (GM U) c).getD default).c.sd:=by
 cases hg:BJ (GM U) c with
 | none=>exact⟨Rd.nil _ _ _,F6⟩
 | some y=>exact hs y<|UF hg
theorem Ab1(U:List Ce)(x:Ce)(g:Nat)(hp:Hp)(hT:RdT hp g U)(hX:RdL cD 2 hp [] x.v x.c.sd)(hd:Cd x.c.dim)(hn:x.c.sd.length<=1000000)(hi:∀s∈x.c.sd,Cd s.1/\Cd s.2):FnT Tryz.prog 134 #[.pointer (some ⟨g,0,none⟩),.agg (cC x).toArray] hp [] (λr _ _=>r=.int .i64 (EL (U.map Ce.c) x.c)):=by
 have o2:=hX.rd.one;show FnT _ _ #[.pt g,.agg #[.w x.c.id,.w x.c.dim,x.v]] _ _ _;refine Ap func134 ntmps134 Y Y<|λw0 hw0=>?_;simp only[AR];refine Ar<|AK [_,_,_] Y Y (by rfl) Y Y Y<|λg3=>Qm Y<|Am<|AF λh1 l1 hS=>?_;have hT:=hT.up l1;have hX:=hX.up l1;have hA:=Seg.all hS;have a0:∀ms,Cell h1 ms (⟨g3,0,none⟩:Addr) (.w x.c.id):=λms=>hA 0 _ Y ms;have a1:∀ms,Cell h1 ms (⟨g3,1,none⟩:Addr) (.w x.c.dim):=λms=>hA 1 _ Y ms;have a2:∀ms,Cell h1 ms (⟨g3,2,none⟩:Addr) x.v:=λms=>hA 2 _ Y ms;have hd1:=hd.1;have hd2:=hd.2;refine Ar<|Qf BU Y<|Ql Y Da (a2 _)<|Qx (Aq hX.rd.any Y Da Y) Y<|Qm Y<|Am ?_;refine Bv (λsl h' ms'=>sl=[(0,.pt g),(3,.pt g3)]/\h1=h'/\ms'=[]/\(0<=x.c.dim/\x.c.dim<=8)/\¬Cb x.c) ?_<|λs h ms hI=>?_
 ·refine Ag<|Ar<|Qf Cj Y<|Ql Y U3 (a1 _)<|Qm Y<|Qm Y ?_;refine AU (t:=20) Y (λq1=>?_)<|λq1=>?_
  ·refine Qk Y<|Qk Y<|Qk Y<|Qm Y<|Qm Y<|Am<|AX Y<|Ar<|Qm Y<|Am<|Aj<|Ak<|Ae ?_;exact Al Y Y (by unfold EL;rw[ah (.inl q1)])
  ·refine Qg (oF Cj Y) Y<|Qg (oL Y U3<|a1 _) Y<|Qg (Ci Y Y Y) Y<|Qm Y<|Qm Y<|Am ?_;refine Aw Y (λq2=>?_)<|λq2=>?_
   ·refine Ac<|Ad<|Qm Y<|Am<|Aj<|Ak<|Ae ?_;exact Al Y Y (by unfold EL;rw[ah (.inr q2)])
   ·have hdb:0<=x.c.dim/\x.c.dim<=8:=ω
    have e21:¬(x.c.dim<0\/8<x.c.dim):=ω
    have e22:Cb x.c->EL (U.map Ce.c) x.c=22:=λh=>by unfold EL;rw[ae e21,ah h]
    refine Ar<|Qf Cj Y<|Ql Y U3 (a1 _)<|Qm Y<|Qm Y ?_;refine AU (t:=29) Y (λr0=>?_)<|λr0=>?_
    ·refine Qg (Au Y Y) Y<|Qg (Ci Y Y Y) Y<|Qm Y<|Qm Y ?_;refine AU (t:=33) Y (λr1=>?_)<|λr1=>?_
     ·refine Qk Y<|Qk Y<|Qk Y<|Qk Y<|Bc Y Y Y Y Y Y<|Bc Y Y Y Y Y Y<|Qk Y<|Qm Y<|Qm Y<|Qk Y<|Qk Y<|Qk Y<|Qk Y<|Bc Y Y Y Y Y Y<|Bc Y Y Y Y Y Y<|Bc Y Y Y Y Y Y<|Bc Y Y Y Y Y Y<|Bc Y Y Y Y Y Y<|Bc Y Y Y Y Y Y<|Qk Y<|Qm Y<|Qm Y<|Am<|AX Y<|Ar<|Qm Y<|Am<|Aj<|Ak<|Ae ?_;exact Al Y Y (by rw[e22 (.inl ⟨r0,ω⟩)])
     ·refine Qg (oF Cj Y) Y<|Qg (oL Y U3<|a1 _) Y<|Qg (Cq Y Y Y) Y<|Qg (Au Y Y) Y<|AU (t:=37) Y (λhs=>ie hs ω)<|λhs=>Qk Y<|Qk Y<|Qg (CA Y Y Y) Y<|Qm Y<|Qm Y<|Qg (oF Cj Y) Y<|Qg (oL Y U3<|a1 _) Y<|Qg (Ci Y Y Y) Y<|Qg (Au Y Y) Y<|AU (t:=46) Y (λhs=>ie hs ω)<|λhs=>Qk Y<|Qk Y<|Qk Y<|Bc Y Y Y Y Y Y<|Bc Y Y Y Y Y Y<|Qk Y<|Qg (CA Y Y Y) Y<|Qm Y<|Qm Y<|Am<|AL Y<|Ah<|Ai ?_;exact AI _ ⟨Y,Y,Y,hdb,λq=>by unfold Cb at q;omega⟩ Qs
    ·refine Qk Y<|Qk Y<|Qm Y<|Qm Y<|Qg (oF Cj Y) Y<|Qg (oL Y U3<|a1 _) Y<|Qg (Cq Y Y Y) Y<|Qg (Au Y Y) Y ?_;refine AU (t:=37) Y (λr2=>?_)<|λr2=>?_
     ·refine Qg (Au Y Y) Y<|Qg (EO Y Y Y) Y<|Qg (CS Y Y Y) Y<|Qm Y<|Qm Y ?_;refine AU (t:=42) Y (λr3=>?_)<|λr3=>?_
      ·refine Qk Y<|Qk Y<|Qk Y<|Qk Y<|Bc Y Y Y Y Y Y<|Bc Y Y Y Y Y Y<|Bc Y Y Y Y Y Y<|Bc Y Y Y Y Y Y<|Bc Y Y Y Y Y Y<|Bc Y Y Y Y Y Y<|Qk Y<|Qm Y<|Qm Y<|Am<|AX Y<|Ar<|Qm Y<|Am<|Aj<|Ak<|Ae ?_;exact Al Y Y (by rw[e22 (.inr (.inl ⟨r2,ω⟩))])
      ·refine Qg (oF Cj Y) Y<|Qg (oL Y U3<|a1 _) Y<|Qg (Ci Y Y Y) Y<|Qg (Au Y Y) Y<|AU (t:=46) Y (λhs=>ie hs ω)<|λhs=>Qk Y<|Qk Y<|Qk Y<|Bc Y Y Y Y Y Y<|Bc Y Y Y Y Y Y<|Qk Y<|Qg (CA Y Y Y) Y<|Qm Y<|Qm Y<|Am<|AL Y<|Ah<|Ai ?_;exact AI _ ⟨Y,Y,Y,hdb,λq=>by unfold Cb at q;omega⟩ Qs
     ·refine Qk Y<|Qk Y<|Qg (CA Y Y Y) Y<|Qm Y<|Qm Y<|Qg (oF Cj Y) Y<|Qg (oL Y U3<|a1 _) Y<|Qg (Ci Y Y Y) Y<|Qg (Au Y Y) Y ?_;refine AU (t:=46) Y (λhs=>?_)<|λhs=>ie ω hs;refine Qg (Au Y Y) Y<|Qg (Dy Y Y Y) Y<|Qg (Au Y Y) Y ?_;refine AU (t:=49) Y (λr4=>?_)<|λr4=>?_
      ·refine Qk Y<|Qk Y<|Qg (CS Y Y Y) Y<|Qg (CS Y Y Y) Y<|Qm Y<|Qm Y<|Am<|AX Y<|Ar<|Qm Y<|Am<|Aj<|Ak<|Ae ?_;exact Al Y Y (by rw[e22 (.inr (.inr ⟨ω,ω⟩))])
      ·refine Qg (Au Y Y) Y<|Qg (Ci Y Y Y) Y<|Qg (CA Y Y Y) Y<|Qg (CS Y Y Y) Y<|Qm Y<|Qm Y<|Am ?_;refine Aw Y (λr5=>?_)<|λr5=>?_
       ·refine Ac<|Ad<|Qm Y<|Am<|Aj<|Ak<|Ae ?_;exact Al Y Y (by rw[e22 (.inr (.inr ⟨ω,ω⟩))])
       ·refine Ah<|Ai ?_;exact AI _ ⟨Y,Y,Y,hdb,λq=>by unfold Cb at q;omega⟩ Qs
 ·obtain⟨rfl,rfl,rfl,hdb,hnb⟩:=hI;have e21:¬(x.c.dim<0\/8<x.c.dim):=ω
  have e22:∀i,i<x.c.sd.length->IY (U.map Ce.c) x.c i->EL (U.map Ce.c) x.c=22:=λi h q=>by unfold EL;rw[ae e21,ae hnb,ah λw=>w i h q]
  obtain⟨gm,mM,bs,vids,hSg,hM,lm,hV,hsU⟩:=hT;refine Bv (λsl h' ms'=>sl=[(0,.pt g),(3,.pt g3)]/\h1.le h'/\ms'=[]/\∀i,i<x.c.sd.length->¬IY (U.map Ce.c) x.c i) ?_<|λs h ms hI=>?_
  ·refine Ac<|Ad<|Qf BU Y<|Ql Y Da (a2 _)<|Qx (Aq hX.rd.any Y Da Y) Y<|Qm Y<|Am<|Ag ?_
   refine AB (λq sl h' ms'=>∃(i:Nat),q=x.c.sd.length-i/\sl=[(0,.pt g),(3,.pt g3),(56,x.v),(57,.w x.c.sd.length),(58,.w i)]/\h1.le h'/\ms'=[]/\i<=x.c.sd.length/\∀j,j<i->¬IY (U.map Ce.c) x.c j)
    (x.c.sd.length-0) _ ⟨0,rfl,rfl,BE,rfl,ω,λj h=>ω⟩ Qs ?_
   rintro q sl h2 ms' ⟨i,rfl,rfl,l2,rfl,hil,hno⟩;have hX:=hX.up l2;refine Ar<|Qm Y<|Am<|Ac ?_;refine Aw Y (λhlt=>?_)<|λhlt=>?_
   ·have hil:i<x.c.sd.length:=ω
    obtain⟨s,hs⟩:∃s,x.c.sd[i]=s:=⟨_,Y⟩
    have hsA:Bm x.c i=s:=by rw[Bj hil,hs]
    have hsI:=hi s (by rw[<-hs];exact ao hil);have hsx:∀ms,Seg h2 ms ((AH x.v).add (i*2)) (cD s):=λms=>by rw[<-hs];exact(hX.any (ms:=ms)).seg hil
    refine Ah<|Ab<|Ac<|Ag<|Ar<|Qm Y<|Qx (BC (i) hX.rd.any Y Da BX Y Y) Y<|Qx (oG Y XM BX<|hsx _) Y<|BS [.w 0,.w 0] Y BX Y Y<|λg7=>Qm Y ?_;refine Sa 0 [_,_] BX Y (by simp[Value.oneCell']) ?_;refine Am<|AF λh3 l3 hS7=>?_;have hX:=hX.up l3;have l13:=AD l2 l3;have e7:=Seg.all hS7;have e70:∀ms,Cell h3 ms (⟨g7,0,none⟩:Addr) (.w s.1):=λms=>e7 0 _ Y ms;have eT:∀ms,Cell h3 ms (⟨g,0,none⟩:Addr) (.map (some gm)):=λms=>(Seg.all hSg 0 _ Y ms).le l13;obtain⟨bb,hbb⟩:∃bb,(BJ (GM U) s.1).isSome=bb:=⟨_,Y⟩
    obtain⟨y,hy⟩:∃y,(BJ (GM U) s.1).getD default=y:=⟨_,Y⟩
    have hyr:=YV hsU s.1;rw[hy]at hyr;have oyv:=hyr.rd.one;have hbb':(ZP (U.map Ce.c) s.1).isSome=bb:=by rw[<-Yc];exact hbb
    have hyc:GF (U.map Ce.c) s.1=y.c:=by rw[<-K7,hy]
    refine Bv (λsl h' ms'=>∃g8:Nat,sl=[(0,.pt g),(3,.pt g3),(6,.w i),(7,.pt g7),(8,.pt g8),(9,.bool bb),(56,x.v),(57,.w x.c.sd.length),(58,.w i)]/\h3=h'/\ms'=[BI g8 50 (cC y)]) ?_<|λs h ms hI=>?_
    ·refine AS (n:=13) (bs:=[ig,ig,ig,ig,ig,ig,ig,ig,ig,ig,ii,ii,ii]) [ig,ig,ig,ig,ig,ig,ig,ig,ig,ig] CC κ κ Y Y<|Qq Y<|Qq Y<|QF GH Y<|QL Y I6 (eT _)<|QF Dl Y<|QL Y U3 (e70 _)<|Qp Y (J5 (V:=vC) (z:=(default:Ce)) s.1 hy hbb BH hM (AD lm l13) Y I6 Oj Y Y hsI.1)<|Qq Y<|Qq Y<|Qq Y ?_;unfold Dd;simp only[bh,ap];refine Qo 10 Y<|BS [.w 0,.w 0,.nl] Y A3 Y Y<|λg8=>Qw<|Qo 11 Y ?_;refine Sa 0 [_,_,_] A3 Y (by simp[o2,oyv]) ?_;refine Qw<|Qo 12 Y<|Qm Y<|Qw<|Qe ?_;exact AI _ ⟨g8,Y,Y,Y⟩ Qs
    ·obtain⟨g8,rfl,rfl,rfl⟩:=hI;refine AF λh4 l4 hS8=>?_;have hX:=hX.up l4;have e70:∀ms,Cell h4 ms (⟨g7,0,none⟩:Addr) (.w s.1):=λms=>(e70 ms).le l4;have e81:∀ms,Cell h4 ms (⟨g8,1,none⟩:Addr) (.w y.c.dim):=λms=>Seg.all hS8 1 _ Y ms;have l14:=AD l13 l4;have b1:∀ms,Cell h4 ms (⟨g3,1,none⟩:Addr) (.w x.c.dim):=λms=>(a1 ms).le l14;have b2:∀ms,Cell h4 ms (⟨g3,2,none⟩:Addr) x.v:=λms=>(a2 ms).le l14
     have hbad:IY (U.map Ce.c) x.c i<->bb=false\/y.c.dim≠x.c.dim-1\/(0<i/\(Bm x.c (i-1)).1=s.1):=by unfold IY;rw[hsA,hbb',hyc]
     have hstep:¬IY (U.map Ce.c) x.c i->∀j,j<i+1->¬IY (U.map Ce.c) x.c j:=λh j hj=>by
      rcases (ω:j<i\/j=i) with h1|rfl
      ·exact hno j h1
      ·exact h
     refine Ac<|BB 23 CC κ Y<|Wm Y<|Wm Y<|Wm Y ?_;refine Xo (t:=75) Y (λc1=>?_)<|λc1=>?_
     ·have hbf:bb=false:=by cases bb<;>simp at c1 ⊢
      refine AG Y Y Y Y Y<|AG Y Y Y Y Y<|AG Y Y Y Y Y<|AG Y Y Y Y Y<|AG Y Y Y Y Y<|AG Y Y Y Y Y<|Wm Y<|Wm Y<|AG Y Y Y Y Y<|AG Y Y Y Y Y<|AG Y Y Y Y Y<|AW Y Y Y Y<|AW Y Y Y Y<|AW Y Y Y Y<|AW Y Y Y Y<|AW Y Y Y Y<|AW Y Y Y Y<|AW Y Y Y Y<|AW Y Y Y Y<|AW Y Y Y Y<|Bu<|Bc Y Y Y Y Y Y<|Qk Y<|Qm Y<|Am<|AX Y<|Ar<|Qm Y<|Am<|Aj<|Ak<|Ae<|Ae<|Ak<|Ae ?_;exact Al Y Y (by rw[e22 i hil (hbad.2 (.inl hbf))])
     ·have hbt:bb=true:=by cases bb<;>simp at c1 ⊢
      refine AP (oF Cj Y) Y Y Y Y<|AP (oL Y U3<|e81 _) Y Y Y Y<|AP (oF Cj Y) Y Y Y Y<|AP (oL Y U3<|b1 _) Y Y Y Y<|AP (oS Y) Y Y Y Y<|AP (EO Y Y Y) Y Y Y Y<|Wm Y<|Wm Y ?_;refine C3 (t:=83) Y (λc2=>?_)<|λc2=>?_
      ·refine AG Y Y Y Y Y<|AG Y Y Y Y Y<|AG Y Y Y Y Y<|AW Y Y Y Y<|AW Y Y Y Y<|AW Y Y Y Y<|AW Y Y Y Y<|AW Y Y Y Y<|AW Y Y Y Y<|AW Y Y Y Y<|AW Y Y Y Y<|AW Y Y Y Y<|Bu<|Bc Y Y Y Y Y Y<|Qk Y<|Qm Y<|Am<|AX Y<|Ar<|Qm Y<|Am<|Aj<|Ak<|Ae<|Ae<|Ak<|Ae ?_;exact Al Y Y (by rw[e22 i hil (hbad.2 (.inr (.inl c2)))])
      ·refine AP (Au Y Y) Y Y Y Y<|AP (Ci Y Y Y) Y Y Y Y<|AP (Au Y Y) Y Y Y Y ?_;refine C3 (t:=86) Y (λc3=>?_)<|λc3=>?_
       ·have hi1:i-1<x.c.sd.length:=ω
        obtain⟨s',hs'⟩:∃s',x.c.sd[i-1]=s':=⟨_,Y⟩
        have hsA':Bm x.c (i-1)=s':=by rw[Bj hi1,hs']
        have r0:∀ms,Cell h4 ms ((AH x.v).add ((i-1)*2)) (.w s'.1):=λms=>by rw[<-hs'];exact(hX.any (ms:=ms)).cell0 hi1 Y
        refine AP (oF BU Y) Y Y Y Y<|AP (oL Y Da<|b2 _) Y Y Y Y<|AP (Au Y Y) Y Y Y Y<|AP (oS Y) Y Y Y Y<|AP (BC (i-1) hX.rd.any Y Da BX Y Y) Y Y Y Y<|AP (oF Dl Y) Y Y Y Y<|AP (oL Y U3<|r0 _) Y Y Y Y<|AP (oF Dl Y) Y Y Y Y<|AP (oL Y U3<|e70 _) Y Y Y Y<|Bu<|Qg (Cq Y Y Y) Y<|Qg (CS Y Y Y) Y<|Qm Y<|Am ?_;refine Aw Y (λc4=>?_)<|λc4=>?_
        ·refine Ac<|Ad<|Qm Y<|Am<|Aj<|Ak<|Ae<|Ae<|Ak<|Ae ?_;exact Al Y Y (by rw[e22 i hil (hbad.2 (.inr (.inr ⟨ω,by rw[hsA'];exact c4⟩)))])
        ·have hok:¬IY (U.map Ce.c) x.c i:=λq=>by
          rcases hbad.1 q with q|q|⟨_,q⟩
          ·rw[hbt]at q;cases q
          ·exact c2 q
          ·rw[hsA']at q;exact c4 q
         refine Ah<|Ai<|Ab<|Ad<|Qx (oA Y) Y<|Qm Y<|An ?_;exact Ao (x.c.sd.length-(i+1)) _ ω ⟨i+1,Y,Y,l14,Y,ω,hstep hok⟩ Qs
       ·have hok:¬IY (U.map Ce.c) x.c i:=λq=>by
         rcases hbad.1 q with q|q|⟨q,_⟩
         ·rw[hbt]at q;cases q
         ·exact c2 q
         ·omega
        refine AG Y Y Y Y Y<|AG Y Y Y Y Y<|AG Y Y Y Y Y<|AG Y Y Y Y Y<|AG Y Y Y Y Y<|AG Y Y Y Y Y<|AG Y Y Y Y Y<|AG Y Y Y Y Y<|AG Y Y Y Y Y<|Bu<|Qk Y<|Qg (CA Y Y Y) Y<|Qm Y<|Am<|AL Y<|Ah<|Ai<|Ab<|Ad<|Qx (oA Y) Y<|Qm Y<|An ?_;exact Ao (x.c.sd.length-(i+1)) _ ω ⟨i+1,Y,Y,l14,Y,ω,hstep hok⟩ Qs
   ·obtain rfl:i=x.c.sd.length:=ω
    refine Ax<|Aa<|Aa<|Af ?_;exact AI _ ⟨Y,l2,Y,hno⟩ Qs
  ·obtain⟨rfl,l2,rfl,hno⟩:=hI;have hX:=hX.up l2;have hall:¬¬∀i,i<x.c.sd.length->¬IY (U.map Ce.c) x.c i:=λq=>q hno
   have e23:∀i,i<x.c.sd.length->B1 x.c i->EL (U.map Ce.c) x.c=23:=λi h q=>by unfold EL;rw[ae e21,ae hnb,ae hall,ah λw=>w i h q]
   have b1:∀ms,Cell h ms (⟨g3,1,none⟩:Addr) (.w x.c.dim):=λms=>(a1 ms).le l2;have b2:∀ms,Cell h ms (⟨g3,2,none⟩:Addr) x.v:=λms=>(a2 ms).le l2;refine Ar<|Qm Y<|Am<|Ac<|Ar<|Qf BU Y<|Ql Y Da (b2 _)<|Qx (Aq hX.rd.any Y Da Y) Y<|Qm Y<|Am<|Ag ?_
   refine AB (λq sl h' ms'=>∃(i:Nat),q=x.c.sd.length-i/\sl=[(3,.pt g3),(10,.w (sgs x.c i)),(101,x.v),(102,.w x.c.sd.length),(103,.w i)]/\h.le h'/\ms'=[]/\i<=x.c.sd.length/\(-(i:Int)<=sgs x.c i/\sgs x.c i<=i)/\∀j,j<i->¬B1 x.c j)
    (x.c.sd.length-0) _ ⟨0,rfl,rfl,BE,rfl,ω,by simp[sgs],λj h=>ω⟩ Qs ?_
   rintro q sl h3 ms' ⟨i,rfl,rfl,l3,rfl,hil,hsb,hns⟩;have hX:=hX.up l3;have b1:∀ms,Cell h3 ms (⟨g3,1,none⟩:Addr) (.w x.c.dim):=λms=>(b1 ms).le l3;refine Ar<|Qm Y<|Am<|Ac ?_;refine Aw Y (λhlt=>?_)<|λhlt=>?_
   ·have hil:i<x.c.sd.length:=ω
    obtain⟨s,hs⟩:∃s,x.c.sd[i]=s:=⟨_,Y⟩
    have hsA:Bm x.c i=s:=by rw[Bj hil,hs]
    have hsI:=(hi s (by rw[<-hs];exact ao hil)).2;have hsx:∀ms,Seg h3 ms ((AH x.v).add (i*2)) (cD s):=λms=>by rw[<-hs];exact(hX.any (ms:=ms)).seg hil
    have hss:=AaO hil;rw[hs]at hss;have hbs:B1 x.c i<->s.2≠1/\s.2≠-1:=by unfold B1;rw[hsA]
    have hstep:¬B1 x.c i->∀j,j<i+1->¬B1 x.c j:=λh j hj=>by
     rcases (ω:j<i\/j=i) with h1|rfl
     ·exact hns j h1
     ·exact h
    refine Ah<|Ab<|Ac<|Ag<|Ar<|Qx (BC (i) hX.rd.any Y Da BX Y Y) Y<|Qx (oG Y XM BX<|hsx _) Y<|BS [.w 0,.w 0] Y BX Y Y<|λg12=>?_;refine Sa 0 [_,_] BX Y (by simp[Value.oneCell']) ?_;refine Am<|AF λh4 l4 hS12=>?_;have e12:∀ms,Cell h4 ms (⟨g12,1,none⟩:Addr) (.w s.2):=λms=>Seg.all hS12 1 _ Y ms;refine Ac<|Ar<|Qf Eg Y<|Ql Y U3 (e12 _)<|Qm Y<|Qm Y ?_;refine AU (t:=110) Y (λc1=>?_)<|λc1=>?_
    ·refine Qg (oF Eg Y) Y<|Qg (oL Y U3<|e12 _) Y<|Qg (EO Y Y Y) Y<|Qm Y<|Am ?_;refine Aw Y (λc2=>?_)<|λc2=>?_
     ·refine Ac<|Ad<|Qm Y<|Am<|Aj<|Ae<|Ak<|Ae<|Ae<|Ak<|Ae ?_;exact Al Y Y (by rw[e23 i hil (hbs.2 ⟨c1,c2⟩)])
     ·have hok:¬B1 x.c i:=λq=>c2 (hbs.1 q).2;have h2:s.2=-1:=ω
      refine Ah<|Ab<|Ad<|Qm Y<|Qf Eg Y<|Ql Y U3 (e12 _)<|Qx (oA Y) Y<|Qm Y<|An<|Ai<|Ab<|Ad<|Qx (oA Y) Y<|Qm Y<|An ?_;exact Ao (x.c.sd.length-(i+1)) _ ω ⟨i+1,Y,by rw[hss],AD l3 l4,rfl,ω,by rw[hss];omega,hstep hok⟩ Qs
    ·have h2:s.2=1:=ω
     have hok:¬B1 x.c i:=λq=>(hbs.1 q).1 h2;refine Qk Y<|Qk Y<|Qk Y<|Qm Y<|Am<|AL Y<|Ah<|Ab<|Ad<|Qm Y<|Qf Eg Y<|Ql Y U3 (e12 _)<|Qx (oA Y) Y<|Qm Y<|An<|Ai<|Ab<|Ad<|Qx (oA Y) Y<|Qm Y<|An ?_;exact Ao (x.c.sd.length-(i+1)) _ ω ⟨i+1,Y,by rw[hss],AD l3 l4,rfl,ω,by rw[hss];omega,hstep hok⟩ Qs
   ·obtain rfl:i=x.c.sd.length:=ω
    have hs0:¬¬∀i,i<x.c.sd.length->¬B1 x.c i:=λq=>q hns;refine Ax<|Aa<|Aa<|Af<|Ab<|Ac<|Ar<|Qf Cj Y<|Ql Y U3 (b1 _)<|Qm Y<|Qm Y ?_;refine AU (t:=123) Y (λc1=>?_)<|λc1=>?_
    ·refine Qg (Au Y Y) Y<|Qg (EO Y Y Y) Y<|Qm Y<|Am ?_;refine Aw Y (λc2=>?_)<|λc2=>?_
     ·refine Ac<|Ad<|Qm Y<|Am<|Aj<|Ae ?_;exact Al Y Y (by unfold EL;rw[ae e21,ae hnb,ae hall,ae hs0,ah ⟨c1,c2⟩])
     ·refine Ah<|Ab<|Ar<|Qm Y<|Am<|Aj ?_;exact Al Y Y (by unfold EL;rw[ae e21,ae hnb,ae hall,ae hs0,ae λq=>c2 q.2])
    ·refine Qk Y<|Qk Y<|Qm Y<|Am<|AL Y<|Ah<|Ab<|Ar<|Qm Y<|Am<|Aj ?_;exact Al Y Y (by unfold EL;rw[ae e21,ae hnb,ae hall,ae hs0,ae λq=>c1 q.1])
section
def Ze(U:List Cl)(x:Cl)(i:Nat):HA:=(GF U (Bm x i).1).sd.map λr=>((i:Int),r.1,(Bm x i).2*r.2)
def Kr(U:List Cl)(x:Cl)(m:Nat):HA:=(range m).flatMap (Ze U x)
theorem QO(U:List Cl)(x:Cl)(m:Nat):Kr U x (m+1)=Kr U x m++Ze U x m:=by unfold Kr;rw[range_succ,dx];simp
theorem Pv(U:List Cl)(x:Cl)(h:∀i,i<x.sd.length->(GF U (Bm x i).1).sd.length<=64):∀m,m<=x.sd.length->(Kr U x m).length<=64*m
 | 0,_=>by simp[Kr]
 | m+1,hm=>by have:=Pv U x h m ω;have:=h m ω;rw[QO,af];unfold Ze;rw[be];omega
def Dt(E:HA):List (Int×Int):=E.foldl (λT e=>Dw T e.2.1 ((BJ T e.2.1).getD 0+e.2.2)) []
def G5(E:HA):List (Int×List Int):=E.foldl (λT e=>Dw T e.2.1 ((BJ T e.2.1).getD []++[e.1])) []
theorem Hx(E:HA)(e:Int×Int×Int):Dt (E++[e])=Dw (Dt E) e.2.1 ((BJ (Dt E) e.2.1).getD 0+e.2.2):=by unfold Dt;rw[foldl_append];rfl
theorem Hh(E:HA)(e:Int×Int×Int):G5 (E++[e])=Dw (G5 E) e.2.1 ((BJ (G5 E) e.2.1).getD []++[e.1]):=by unfold G5;rw[foldl_append];rfl
theorem EU{α:Type}{P:List α->Prop}(h0:P [])(h1:∀l a,P l->P (l++[a]))(l:List α):P l:=by
 have:∀r:List α,P r.reverse:=λr=>by
  induction r with
  | nil=>exact h0
  | cons a r ih=>rw[List.reverse_cons];exact h1 _ _ ih
 have:=this l.reverse
 rwa [List.reverse_reverse]at this
theorem Ks(c:Int):∀E:HA,(BJ (Dt E) c).getD 0=EW E c:=EU rfl λE e ih=>by
 rw[Hx,FW,NS];by_cases h:c=e.2.1
 ·subst h;rw[ah rfl,ah rfl,<-ih];rfl
 ·rw[ae h,ae (λq=>h q.symm),ih,fz]
theorem Ij{ν:Type}(T:List (Int×ν))(a:Int)(x:ν)(c:Int):c∈(Dw T a x).map Prod.fst<->c=a\/c∈T.map Prod.fst:=by
 unfold Dw;split
 ·rename_i h
  have e:(T.map λp=>if p.1=a then(a,x) else p).map Prod.fst=T.map Prod.fst:=by
   rw[gg];refine gc λp _=>?_;show(if p.1=a then(a,x) else p).1=p.1;by_cases q:p.1=a
   ·rw[ah q];exact q.symm
   ·rw[ae q]
  rw[e];exact⟨.inr,λq=>by rcases q with rfl|q;exact h;exact q⟩
 ·rw[dd,mem_append];simp only[dr,List.map_nil,mem_singleton];exact⟨λq=>q.symm,λq=>q.symm⟩
theorem Mp(c:Int):∀E:HA,c∈(Dt E).map Prod.fst<->∃e∈E,e.2.1=c:=EU ⟨λh=>by simp[Dt]at h,λ⟨e,he,_⟩=>by cases he⟩ λE e ih=>by
 rw[Hx,Ij,ih];constructor
 ·rintro(rfl|⟨e',he,h⟩)
  ·exact⟨e,fg _ Mh,Y⟩
  ·exact⟨e',eh _ he,h⟩
 ·rintro⟨e',he,h⟩;rcases bj.1 he with he|he
  ·exact .inr ⟨e',he,h⟩
  ·rw[bm.1 he]at h;exact .inl h.symm
theorem Wy(c:Int):∀E:HA,c∈(G5 E).map Prod.fst<->∃e∈E,e.2.1=c:=EU ⟨λh=>by simp[G5]at h,λ⟨e,he,_⟩=>by cases he⟩ λE e ih=>by
 rw[Hh,Ij,ih];constructor
 ·rintro(rfl|⟨e',he,h⟩)
  ·exact⟨e,fg _ Mh,Y⟩
  ·exact⟨e',eh _ he,h⟩
 ·rintro⟨e',he,h⟩;rcases bj.1 he with he|he
  ·exact .inr ⟨e',he,h⟩
  ·rw[bm.1 he]at h;exact .inl h.symm
theorem Rh(c:Int):∀E:HA,(BJ (G5 E) c).getD []=(E.filter λe=>decide (e.2.1=c)).map λe=>e.1:=EU rfl λE e ih=>by
 rw[Hh,FW,List.filter_append,dd,<-ih];by_cases h:c=e.2.1
 ·subst h;rw[ah rfl];simp
 ·rw[ae h];simp[ft h]
theorem Jj(E:HA)(c:Int):Gz E c=((E.filter λe=>decide (e.2.1=c)).length:Int):=by
 induction E with
 | nil=>rfl
 | cons e E ih=>
  unfold Gz at *;rw[dr,sum_cons,ih,List.filter_cons];by_cases h:e.2.1=c
  ·simp[h];omega
  ·simp[h]
theorem AdX(E:HA)(c:Int)(h:∀e∈E,e.2.2=1\/e.2.2=-1):-(E.length:Int)<=EW E c/\EW E c<=E.length:=by
 induction E with
 | nil=>exact⟨Int.le_refl _,Int.le_refl _⟩
 | cons e E ih=>
  have h1:=ih fun e he=>h e (mem_cons_of_mem _ he);have h2:=h e Mh;unfold EW at *;rw[map_cons,sum_cons,length_cons];split<;>omega
theorem VY(E:HA):((Dt E).map Prod.fst).Nodup:=by refine EU (P:=λE=>((Dt E).map Prod.fst).Nodup) (by simp[Dt]) (λE e ih=>?_) E;rw[Hx];exact FV ih _ _
theorem AdJ(E:HA):((G5 E).map Prod.fst).Nodup:=by refine EU (P:=λE=>((G5 E).map Prod.fst).Nodup) (by simp[G5]) (λE e ih=>?_) E;rw[Hh];exact FV ih _ _
def FE(T:List (Int×List Int))(a b:Int):List (Int×List Int):=Dw T a ((BJ T a).getD []++[b])
def Fo(P:List (Int×Int)):List (Int×List Int):=P.foldl (λT p=>FE (FE T p.1 p.2) p.2 p.1) []
theorem Jh(P:List (Int×Int))(p:Int×Int):Fo (P++[p])=FE (FE (Fo P) p.1 p.2) p.2 p.1:=by unfold Fo;rw[foldl_append];rfl
theorem NL(T:List (Int×List Int))(a b c k:Int):k∈(BJ (FE T a b) c).getD []<->k∈(BJ T c).getD []\/(c=a/\k=b):=by
 unfold FE;rw[FW];by_cases h:c=a
 ·subst h;simp
 ·simp[h]
theorem WZ(c k:Int):∀P:List (Int×Int),k∈(BJ (Fo P) c).getD []<->(c,k)∈P\/(k,c)∈P:=EU ⟨λh=>by simp[Fo,BJ]at h,λh=>by simp at h⟩ λP p ih=>by
 rw[Jh,NL,NL,ih,mem_append,mem_append,mem_singleton,mem_singleton];constructor
 ·rintro((h|⟨rfl,rfl⟩)|⟨rfl,rfl⟩)
  ·rcases h with h|h
   ·exact .inl<|.inl h
   ·exact .inr<|.inl h
  ·exact .inl<|.inr Y
  ·exact .inr<|.inr Y
 ·rintro((h|rfl)|(h|rfl))
  ·exact .inl<|.inl<|.inl h
  ·exact .inl<|.inr ⟨Y,Y⟩
  ·exact .inl<|.inl<|.inr h
  ·exact .inr ⟨Y,Y⟩
theorem Kk(T:List (Int×List Int))(a b:Int)(B:Nat)(h:∀c,((BJ T c).getD []).length<=B):∀c,((BJ (FE T a b) c).getD []).length<=B+1:=λc=>by
 unfold FE;rw[FW];have h1:=h c;by_cases e:c=a
 ·subst e;simp;omega
 ·rw[ae e];omega
theorem Oh:∀P:List (Int×Int),∀c,((BJ (Fo P) c).getD []).length<=2*P.length:=EU (λc=>by simp[Fo,BJ]) λP p ih c=>by rw[Jh,af,ab];have:=Kk _ p.2 p.1 _ (Kk _ p.1 p.2 _ ih) c;omega
inductive Rch (J:Int->List Int):Int->Int->Prop
 | refl (a:Int):Rch J a a
 | step {a b k:Int}:Rch J a b->k∈J b->Rch J a k
theorem Rch.trans{J:Int->List Int}{a b c:Int}(h:Rch J a b)(h':Rch J b c):Rch J a c:=by
 induction h' with
 | refl=>exact h
 | step _ h1 ih=>exact .step ih h1
theorem Acl{E:HA}(h2:∀e∈E,Gz E e.2.1=2){J:Int->List Int}(hJ:∀a k,k∈J a<->∃c p q,(E.filter λe=>decide (e.2.1=c)).map (λe=>e.1)=[p,q]/\((a=p/\k=q)\/(a=q/\k=p)))(a b:Int):Con E a b<->Rch J a b:=by
 have hin:∀{c p:Int} {l},(E.filter λe=>decide (e.2.1=c)).map (λe=>e.1)=l->p∈l->∃w,(p,c,w)∈E:=λ{c p l} e hp=>by rw[<-e]at hp;obtain⟨x,hx,rfl⟩:=ag.1 hp;obtain⟨h3,h4⟩:=dh.1 hx;have h4:=dq h4;exact⟨x.2.2,by rw[<-h4];exact h3⟩
 constructor
 ·intro h
  induction h with
  | refl=>exact .refl _
  | @step b d c w w' _ h3 h4 ih=>
   have hc:=h2 _ h3;rw[Jj]at hc;obtain⟨L,hL⟩:∃L,(E.filter λe=>decide (e.2.1=c)).map (λe=>e.1)=L:=⟨_,Y⟩
   have hl:L.length=2:=by rw[<-hL,be];have hc:((E.filter λe=>decide (e.2.1=c)).length:Int)=2:=hc;omega
   match L,hl with
   | [p,q],_=>
    have m1:b∈[p,q]:=by rw[<-hL];exact ag.2 ⟨_,dh.2 ⟨h3,bq Y⟩,Y⟩
    have m2:d∈[p,q]:=by rw[<-hL];exact ag.2 ⟨_,dh.2 ⟨h4,bq Y⟩,Y⟩
    simp only[bg,List.not_mem_nil,gv]at m1 m2;by_cases e:b=d
    ·subst e;exact ih
    ·refine .step ih ((hJ b d).2 ⟨c,p,q,hL,?_⟩);rcases m1 with m1|m1<;>rcases m2 with m2|m2
     ·exact ie (m1.trans m2.symm) e
     ·exact .inl ⟨m1,m2⟩
     ·exact .inr ⟨m1,m2⟩
     ·exact ie (m1.trans m2.symm) e
 ·intro h
  induction h with
  | refl=>exact .refl _
  | @step b k _ h3 ih=>
   obtain⟨c,p,q,hL,h4⟩:=(hJ b k).1 h3;obtain⟨w1,m1⟩:=hin hL Mh;obtain⟨w2,m2⟩:=hin hL (bi _ Mh);rcases h4 with ⟨rfl,rfl⟩|⟨rfl,rfl⟩
   ·exact .step ih m1 m2
   ·exact .step ih m2 m1
noncomputable def YI(E:HA)(n:Nat):Int:=
 open Classical in
 if ¬∀e∈E,EW E e.2.1=0 then 24
 else if ¬∀e∈E,Gz E e.2.1=2 then 25
 else if ¬(0<n/\∀i:Nat,i<n->Con E 0 i) then 25 else 0
variable {T:List (Int×Bool)} {n:Nat}
def vB(b:Bool):Value:=.bool b
theorem UT(w:World):(zeroValue 4).run Tryz.prog w=.ok (vB false) w:=by rfl
theorem LO(w:World):(zeroValue 22).run Tryz.prog w=.ok (P6 (.slice none 0 0)) w:=by rfl
abbrev Jy(T:List (Int×Bool)):List Int:=T.map Prod.fst
def XC(T:List (Int×Bool)):Prop:=∀p∈T,p.2=true
theorem Z9(h:XC T)(a:Int):(BJ T a).getD false=decide (a∈Jy T):=by
 by_cases ha:a∈Jy T
 ·rw[bq ha];cases hg:BJ T a with
  | none=>
   exfalso;unfold BJ at hg;rw[Option.map_eq_none_iff,List.find?_eq_none]at hg;obtain⟨p,hp,e⟩:=ag.1 ha;have:=hg p hp;simp[e]at this
  | some b=>
   unfold BJ at hg;obtain⟨p,hp,rfl⟩:=Option.map_eq_some_iff.1 hg;exact h p<|List.mem_of_find?_eq_some hp
 ·rw[cg ha,DZ ha];rfl
theorem XW(h:XC T)(a:Int):XC (Dw T a true):=λp hp=>by
 unfold Dw at hp;split at hp
 ·obtain⟨q,hq,rfl⟩:=ag.1 hp;split
  ·rfl
  ·exact h q hq
 ·rcases bj.1 hp with hp|hp
  ·exact h p hp
  ·rw[bm.1 hp]
def uns(n:Nat)(T:List (Int×Bool)):Nat:=((range n).filter λ(j:Nat)=>decide ((j:Int) ∉ Jy T)).length
theorem Yp{T':List (Int×Bool)}(h:∀x∈Jy T,x∈Jy T'):uns n T'<=uns n T:=by refine Go.Kuhn.nodup_le _ _ (List.Pairwise.filter _ List.nodup_range) λx hx=>?_;obtain⟨h1,h2⟩:=dh.1 hx;exact dh.2 ⟨h1,bq λq=>dq h2<|h _ q⟩
theorem Aen{i:Nat}(hi:i<n)(hn:(i:Int) ∉ Jy T)(b:Bool):uns n (Dw T (i:Int) b)+1<=uns n T:=by
 have h1:(i::(range n).filter λ(j:Nat)=>decide ((j:Int) ∉ Jy (Dw T (i:Int) b))).Nodup:=by refine fl.2 ⟨λq=>?_,List.Pairwise.filter _ List.nodup_range⟩;have:=dq (dh.1 q).2;exact this ((Ij T _ _ _).2<|.inl Y)
 have h2:=Go.Kuhn.nodup_le _ ((range n).filter λ(j:Nat)=>decide ((j:Int) ∉ Jy T)) h1 λx hx=>by
  rcases bg.1 hx with rfl|hx
  ·exact dh.2 ⟨cm.2 hi,bq hn⟩
  ·obtain⟨h3,h4⟩:=dh.1 hx;exact dh.2 ⟨h3,bq λq=>dq h4 ((Ij T _ _ _).2<|.inr q)⟩
 unfold uns;rw[length_cons]at h2;exact h2
structure Ae4(J:Int->List Int)(n:Nat)(T T':List (Int×Bool))(i:Int):Prop where
 sub:∀x∈Jy T,x∈Jy T'
 me:i∈Jy T'
 new:∀x∈Jy T',x ∉ Jy T->(Rch J i x/\∀k∈J x,k∈Jy T')/\0<=x/\x<n
structure AeD(h:Hp)(gS gJ g16 g13 g17:Nat)(mM mB:Hp)(TJ:List (Int×List Int))(J:Int->List Int)(n:Nat):Prop where
 s:∀ms,Cell h ms (⟨g16,0,none⟩:Addr) (.map (some gS))
 j:∀ms,Cell h ms (⟨g13,0,none⟩:Addr) (.map (some gJ))
 f:∀ms,Cell h ms (⟨g17,0,none⟩:Addr) (.func (.func 172) #[] #[.pt g16,.pt g13,.pt g17])
 m:OwnMS gJ mM mB TJ
 lM:mM.le h
 lB:mB.le h
 e:∀a,J a=(BJ TJ a).getD []
 nb:∀a,∀k∈J a,0<=k/\k<n
 l:∀a,(J a).length<=1000000
 b:n<=1000000
theorem Zh{h:Hp}{gS gJ g16 g13 g17:Nat}{mM mB:Hp}{TJ:List (Int×List Int)}{J:Int->List Int}(V:AeD h gS gJ g16 g13 g17 mM mB TJ J n):∀(F:Nat) (i:Nat) (T:List (Int×Bool)) (bs:List Nat) (mS:Hp),i<n->CF kN vB gS Cd mS T bs->XC T->uns n T<F->FnT Tryz.prog 172 #[.int .i64 i,.pointer (some ⟨g16,0,none⟩),.pointer (some ⟨g13,0,none⟩),.pointer (some ⟨g17,0,none⟩)] h [mS] (λ_ h' ms'=>h=h'/\∃mS' T' bs',ms'=[mS']/\CF kN vB gS Cd mS' T' bs'/\XC T'/\Ae4 J n T T' i):=by
 intro F
 induction F with
 | zero=>
  intro i T bs mS hi hO hA hF;omega
 | succ F ih=>
  intro i T bs mS hi hO hA hF;have hb:=V.b;have hiI:Cd (i:Int):=by unfold Cd;omega
  have hs1:=V.s;have hj1:=V.j;have hf1:=V.f;refine Ap func172 ntmps172 Y Y<|λw0 hw0=>?_;simp only[AR];refine Ar<|Ql Y Ta (hs1 _)<|Qm Y<|Qx (Kt (V:=vB) (z:=false) (i:Int) BH hO σ rfl Ta UT rfl rfl hiI) rfl ?_;rw[Z9 hA];refine Qm Y<|Am ?_;refine BW Y (λhn=>?_)<|λhn=>?_
  ·have hni:(i:Int) ∉ Jy T:=λq=>by rw[bq q]at hn;cases hn
   obtain⟨Tv,bsv,hMv,hKv,_,hRv⟩:=V.m.look V.lB;obtain⟨vL,hvL⟩:∃vL,(BJ Tv (i:Int)).getD (.nl)=vL:=⟨_,Y⟩
   have hRL:=hRv (i:Int);rw[hvL,<-V.e]at hRL;have ovL:=hRL.rd.one;have hLl:=V.l (i:Int);have hLn:=V.nb (i:Int);obtain⟨L,hL⟩:∃L,J (i:Int)=L:=⟨_,Y⟩
   rw[hL]at hRL hLl hLn;refine Ar<|Ql Y Ta (hs1 _)<|Qm Y<|C5 (V:=vB) (z:=undef) 0 (i:Int) true BH hO Y Y Ta Y Y Y hiI Y Y<|λmS1 bs1 hO1=>?_;have hA1:=XW hA (i:Int);have hU1:=Aen hi hni true;obtain⟨T1,hT1⟩:∃T1,Dw T (i:Int) true=T1:=⟨_,Y⟩
   have hk1:∀x,x∈Jy T1<->x=(i:Int)\/x∈Jy T:=λx=>by rw[<-hT1];exact Ij T _ _ x
   rw[hT1]at hO1 hA1 hU1;refine Bp<|Ql Y I4 (hj1 _)<|Qm Y<|Qx (Gh (V:=P6) (z:=(Value.nl)) (i:Int) BH hMv V.lM Y I4 LO Y Y hiI) Y ?_;rw[hvL];refine Qx (Aq hRL.rd.any Y AZ Y) Y<|Qm Y<|Am<|Ag ?_
   refine AB (λq sl h' ms'=>∃(t:Nat) (Tt:List (Int×Bool)) (bt:List Nat) (mt:Hp),q=L.length-t/\sl=[(3,.pt g17),(15,vL),(16,.w L.length),(17,.w t)]/\h=h'/\ms'=[mt]/\t<=L.length/\CF kN vB gS Cd mt Tt bt/\XC Tt/\(∀x∈Jy T1,x∈Jy Tt)/\(∀x∈Jy Tt,x ∉ Jy T1->(Rch J i x/\∀k∈J x,k∈Jy Tt)/\0<=x/\x<n)/\∀j (hj:j<L.length),j<t->L[j]∈Jy Tt)
    (L.length-0) _ ⟨0,T1,bs1,mS1,rfl,rfl,rfl,rfl,ω,hO1,hA1,λx hx=>hx,λx h1 h2=>ie h1 h2,λj hj h=>ω⟩ Qs ?_
   rintro q sl h' ms' ⟨t,Tt,bt,mt,rfl,rfl,rfl,rfl,htl,hOt,hAt,hsub,hnew,hdone⟩;refine Ar<|Qm Y<|Am<|Ac ?_;refine Aw Y (λhlt=>?_)<|λhlt=>?_
   ·have htl:t<L.length:=ω
    obtain⟨k,hk⟩:∃k,L[t]=k:=⟨_,Y⟩
    have hkm:k∈L:=by rw[<-hk];exact ao htl
    obtain⟨hk0,hkn⟩:=hLn k hkm;obtain⟨kn,rfl⟩:=Int.eq_ofNat_of_zero_le hk0;have ck:∀ms,Cell h ms ((AH vL).add (t*1)) (.w (kn:Int)):=λms=>by rw[<-hk];exact(hRL.any (ms:=ms)).cell0 htl Y
    refine Ah (Ab (Ac (Ag (Ar (Qx (BC (t) hRL.rd.any rfl AZ Bk rfl rfl) rfl (Ql rfl U3 (ck _) (Qm rfl (GX (Ql rfl AeR (hf1 _) (Qm rfl ?_))))))))));refine E5 (pre:=[mt]) rfl rfl call172 rfl (ih kn Tt bt mt (by omega) hOt hAt (by have:=Yp (n:=n) hsub;omega)) rfl rfl rfl rfl (fun v' h' pre' l' hF=>?_);obtain⟨rfl,m2,T2,b2,rfl,hO2,hA2,R2⟩:=hF;simp only[cons_append,nil_append,append_nil];have hrk:Rch J i (kn:Int):=.step (.refl _) (by rw[hL];exact hkm);refine An (Ai (Ab (Ad (Qx (oA rfl) rfl (Qm rfl (An ?_))))))
    exact Ao (L.length-(t+1)) _ ω ⟨t+1,T2,b2,m2,Y,Y,Y,Y,ω,hO2,hA2,λx hx=>R2.sub x (hsub x hx),λx h1 h2=>by
     by_cases hx:x∈Jy Tt
     ·obtain⟨⟨q1,q2⟩,q3⟩:=hnew x hx h2;exact⟨⟨q1,λk hk=>R2.sub k (q2 k hk)⟩,q3⟩
     ·obtain⟨⟨q1,q2⟩,q3⟩:=R2.new x h1 hx;exact⟨⟨hrk.trans q1,q2⟩,q3⟩,λj hj hjt=>by
     rcases (ω:j<t\/j=t) with h1|rfl
     ·exact R2.sub _<|hdone j hj h1
     ·rw[hk];exact R2.me⟩ Qs
   ·obtain rfl:t=L.length:=ω
    have hV:Ae4 J n T Tt i:=by
     have hall:∀k∈J (i:Int),k∈Jy Tt:=λk hk=>by rw[hL]at hk;obtain⟨j,hj,rfl⟩:=gh hk;exact hdone j hj hj
     refine⟨λx hx=>hsub x ((hk1 x).2 (.inr hx)),hsub _ ((hk1 _).2 (.inl Y)),λx h1 h2=>?_⟩;by_cases hx:x=(i:Int)
     ·subst hx;exact⟨⟨.refl _,hall⟩,ω,ω⟩
     ·exact hnew x h1 λq=>by
       rcases (hk1 x).1 q with q|q
       ·exact hx q
       ·exact h2 q
    refine Ax<|Aa<|Aa<|Af ?_;exact Cv Y (⟨Y,mt,Tt,bt,Y,hOt,hAt,hV⟩)
  ·have him:(i:Int)∈Jy T:=aq λq=>by rw[cg q]at hn;cases hn
   refine Ah ?_;exact Cv Y (⟨Y,mS,T,bs,Y,hO,hA,λx hx=>hx,him,λx h1 h2=>ie h1 h2⟩)
end
end Go.Proofs.Q