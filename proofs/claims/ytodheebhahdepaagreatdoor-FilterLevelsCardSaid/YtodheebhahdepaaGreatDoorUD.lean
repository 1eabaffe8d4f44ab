/- A part of the proof. -/
import Derived.Test.YtodheebhahdepaaGreatDoorUC
set_option linter.unusedSimpArgs false
set_option linter.unusedVariables false
set_option linter.unusedSectionVars false
set_option maxRecDepth 100000
set_option maxHeartbeats 4000000

open List (length_map length_singleton getElem_mem range length_append nil_append length_take mem_cons mem_singleton cons_append map_append mem_append mem_cons_of_mem length_nil length_drop append_nil map_map map_cons length_set getElem_of_mem take_length getElem_map flatMap_cons length_cons mem_append_left mem_append_right range_succ foldl_append drop_zero getElem_append_right sum_cons mem_of_mem_take take_of_length_le)
namespace Go.Proofs.Q
open Go.Proofs.Tryz
open Go.Eng Go.RowKit
structure OwS(S:S2)(v5 v6 v7 v8 v9:Value)(m5 m6 m7 m8 m9:Hp):Prop where
 i:OwnL cI 1 3 m5 v5 S.ids
 s:OwnL cI 1 3 m6 v6 S.su
 m:OwnL cI 1 3 m7 v7 S.ma
 p:OwnL cI 1 3 m8 v8 S.pa
 f:OwnL cI 1 3 m9 v9 S.fi
structure Rn(l:List Cl)(x:Cl):Prop where
 n:x.sd.length<=64
 sg:∀i,i<x.sd.length->(Bv x i).2=1\/(Bv x i).2=-1
 at_:∀i,i<x.sd.length->0<=I1 l (Bv x i).1
 yn:∀i,i<x.sd.length->(Fk l x i).sd.length<=64
 ys:∀i,i<x.sd.length->∀r∈(Fk l x i).sd,r.2=1\/r.2=-1
theorem QY{l:List Cl}{x:Cl}(K:Rn l x):∀i,i<=x.sd.length->(G1 l x i).Ok (64*i) x.sd.length
 | 0,_=>⟨rfl,rfl,rfl,by simp[G1],Nat.le_refl _,λy hy=>(by cases hy),λy hy=>(by cases hy),λy hy=>(by cases hy)⟩
 | i+1,hi=>by have h1:=S2.Ok.sides (i:=i) (by omega) (K.sg i (by omega)) (Fk l x i).sd _ _ ((QY K i (by omega)).start (i:=i)) (K.ys i (by omega));have h2:=K.yn i (by omega);show(S2.sides _ _ _ _).Ok _ _;exact⟨h1.s,h1.m,h1.f,h1.p,by have:=h1.t;omega,λy hy=>by have:=h1.sb y hy;omega,λy hy=>by have:=h1.mb y hy;omega,h1.fb⟩
theorem AaC{l:List Ce}{y:Int}{k:Nat}(e:I1 (l.map Ce.c) y=k)(v:Value)(h:Hp)(hn:l.length<=100000)(hst:(l.map Ce.c).Pairwise λa b=>a.id<=b.id)(hR:RdL cC 3 h [] v l)(ms:List Hp):FnV Tryz.prog 117 #[v,.int .i64 y] h ms (.int .i64 k):=e ▸ VC l v y h hn hst hR ms
theorem Sl(l:List Ce)(x:Ce)(v:Value)(h:Hp)(hn:l.length<=100000)(K:Rn (l.map Ce.c) x.c)(hst:(l.map Ce.c).Pairwise λa b=>a.id<=b.id)(hR:RdC h v l)(hX:RdL cD 2 h [] x.v x.c.sd):FnT Tryz.prog 140 #[v,.agg #[.int .i64 x.c.id,.int .i64 x.c.dim,x.v]] h [] (λr _ _=>r=.int .i64 (DP (l.map Ce.c) x.c)):=by
 have o1:=hR.q.rd.one;have o2:=hX.rd.one;have hxn:=K.n;refine Av func140 ntmps140 rfl rfl (λw0 hw0=>?_);simp only[A3];refine Aw (AY [_,_,_] rfl rfl (by rfl) rfl rfl rfl (λg3=>Qm rfl (Ap (AB λh1 l1 hS=>?_))));have hR:=hR.up l1;have hX:=hX.up l1;have hA:=Seg.all hS;refine Aw (Qm rfl (BN (Qm rfl (BN (Qm rfl (BN (Qf Bs rfl (Ql rfl BQ (hA _ _ rfl _) (Qx (As hX.rd.any rfl BQ rfl) rfl (CQ (n:=_) rfl A0 Ba rfl rfl rfl (by rfl) (by rfl) (by omega) (by omega) rfl rfl rfl (λg23=>Qm rfl (BN ?_))))))))))));refine AA [] [] [] rfl A0 Ba rfl (by omega) (by kernel_rfl) (by repeat (first|exact trivial|refine⟨⟨by first|rfl|exact(hX.rd.any).cells|exact(hR.q.rd.any).cells|exact Rd.cells ‹_›|exact(RdL.rd ‹_›).cells,rfl,rfl⟩,?_⟩)) rfl rfl rfl rfl (λg24=>?_);refine Qm rfl (Ap (Ac (Aw (Qm rfl (Ap (Ah (BO (BO (BO ?_)))))))))
 refine AD (λq s hh ms'=>∃(i:Nat) (v5 v6 v7 v8 v9:Value) (m5 m6 m7 m8 m9:Hp),q=x.c.sd.length-i/\s=[(0,v),(3,.pointer (some ⟨g3,0,none⟩)),(5,v5),(6,v6),(7,v7),(8,v8),(9,v9),(10,.int .i64 i)]/\h1.le hh/\ms'=[m5,m6,m7,m9,m8]/\i<=x.c.sd.length/\OwS (G1 (l.map Ce.c) x.c i) v5 v6 v7 v8 v9 m5 m6 m7 m8 m9)
  (x.c.sd.length-0) _ ⟨0,_,_,_,_,_,Hp.emp,Hp.emp,Hp.emp,_,_,rfl,rfl,B8,rfl,by omega,⟨OwnL.nil Bl,OwnL.nil Bl,OwnL.nil Bl,OwnL.rep _ 0 (by omega),Fg g24 Bl⟩⟩ Qs ?_
 rintro q s hh ms' ⟨i,v5,v6,v7,v8,v9,m5,m6,m7,m8,m9,rfl,rfl,lh,rfl,hi,W⟩;have hR:=hR.up lh;have hX:=hX.up lh;have hA:=Seg.all (hS.le lh);have KS:=QY K i hi;refine Ac (Aw (Qm Y (Qf Bs Y (Ql Y BQ (hA _ _ Y _) (Qx (As hX.rd.any Y BQ Y) Y (Qm Y (Ap ?_)))))));refine Ax Y (λhlt=>?_) (λhlt=>?_)
 ·have hil:i<x.c.sd.length:=CE hlt;obtain⟨k,hk⟩:∃k:Nat,I1 (l.map Ce.c) (Bv x.c i).1=k:=⟨(I1 (l.map Ce.c) (Bv x.c i).1).toNat,by have:=K.at_ i hil;omega⟩
  have hkl:k<l.length:=by have:=HP (l.map Ce.c) (Bv x.c i).1;rw[hk,length_map]at this;omega
  have hy:Fk (l.map Ce.c) x.c i=l[k].c:=by unfold Fk;rw[hk];simp[List.getD,hkl]
  have hsi:=Bp hil;have hci:∀ms,Cell hh ms ((AJ x.v).add (i*2)) (.int .i64 x.c.sd[i].1):=λms=>(hX.any (ms:=ms)).cell0 hil Y;have hgk:∀ms,Seg hh ms ((AJ v).add (k*3)) (cC l[k]):=λms=>(hR.q.any (ms:=ms)).seg hkl;have hY:=hR.s _ (getElem_mem hkl);have oy:=hY.rd.one;have o5:v5.oneCell'=true:=(W.i.rd (h:=hh) (ms:=[m5]) Mh).rd.one;have o6:v6.oneCell'=true:=(W.s.rd (h:=hh) (ms:=[m6]) Mh).rd.one;have o7:v7.oneCell'=true:=(W.m.rd (h:=hh) (ms:=[m7]) Mh).rd.one;have o8:v8.oneCell'=true:=(W.p.rd (h:=hh) (ms:=[m8]) Mh).rd.one;have o9:v9.oneCell'=true:=(W.f.rd (h:=hh) (ms:=[m9]) Mh).rd.one;have hpl:=KS.p;have hk':I1 (l.map Ce.c) x.c.sd[i].1=k:=by rw[<-hsi];exact hk
  refine Aj (Ab (Ac (Ah (Aw (Qm Y (Qm Y (Qm Y (Qx (BL (i) (W.p.rd (h:=hh) (ms:=[m8]) Mh).rd Y A0 Ba Y Y (by omega) (by omega)) Y (De 4 i W.p Y Ba Y Y Y (by omega) Y Y (λm8 hO8=>?_))))))))));have W1:OwS ((G1 (l.map Ce.c) x.c i).start i) v5 v6 v7 v8 v9 m5 m6 m7 m8 m9:=⟨W.i,W.s,W.m,hO8,W.f⟩
  have K1:=KS.start (i:=i);refine BN (Qm Y (Qm Y (Qf Bs Y (Ql Y BQ (hA _ _ Y _) (Qm Y (Qx (BH (i) hX.rd.any Y BQ AQ Y Y) Y (Qf B6 Y (Ql Y U3 (hci _) (Qx (AR Y call117 Y (AaC hk' v hh hn hst hR.q _)) Y (Qx (BH (k) hR.q.rd.any Y A9 AL Y Y) Y (Qx (oG Y D1 AL (hgk _)) Y (By [.int .i64 0,.int .i64 0,.slice none 0 0] Y AL Y Y (λg11=>?_)))))))))))));refine Sa 0 [_,_,_] AL Y (by simp[o1,o2,oy,o5,o6,o7,o8,o9]) ?_;refine Ap (AB λh2 l2 hS11=>?_);have hX:=hX.up l2;have hY:=hY.up l2;have hA:=Seg.all ((hS.le lh).le l2);have hA11:=Seg.all hS11;have hyn:l[k].c.sd.length<=64:=by have:=K.yn i hil;rwa [hy]at this
  have hys:∀r∈l[k].c.sd,r.2=1\/r.2=-1:=by have:=K.ys i hil;rwa [hy]at this
  have hsg:=K.sg i hil;have hstep:G1 (l.map Ce.c) x.c (i+1)=((G1 (l.map Ce.c) x.c i).start i).sides i (Bv x.c i).2 l[k].c.sd:=by rw[<-hy];rfl
  obtain⟨S0,hS0⟩:∃S0,(G1 (l.map Ce.c) x.c i).start i=S0:=⟨_,Y⟩
  rw[hS0]at W1 K1 hstep;refine Aw (Qm Y (Ap (Ah ?_)))
  refine AD (λq s hh ms'=>∃(j:Nat) (v5 v6 v7 v8 v9:Value) (m5 m6 m7 m8 m9:Hp),q=l[k].c.sd.length-j/\s=[(0,v),(3,.pointer (some ⟨g3,0,none⟩)),(5,v5),(6,v6),(7,v7),(8,v8),(9,v9),(10,.int .i64 i),(11,.pointer (some ⟨g11,0,none⟩)),(12,.int .i64 j)]/\h2=hh/\ms'=[m5,m6,m7,m9,m8]/\j<=l[k].c.sd.length/\OwS (S0.sides i (Bv x.c i).2 (l[k].c.sd.take j)) v5 v6 v7 v8 v9 m5 m6 m7 m8 m9)
   (l[k].c.sd.length-0) _ ⟨0,_,_,_,_,_,_,_,_,_,_,rfl,rfl,rfl,rfl,by omega,W1⟩ Qs ?_
  rintro q s hh' ms' ⟨j,v5,v6,v7,v8,v9,m5,m6,m7,m8,m9,rfl,rfl,rfl,rfl,hj,W⟩;have hkj:=S2.Ok.sides (i:=i) hil hsg (l[k].c.sd.take j) S0 _ K1 (λr hr=>hys r (mem_of_mem_take hr));rw[length_take]at hkj;refine Ac (Aw (Qm Y (Qf Bs Y (Ql Y BQ (hA11 _ _ Y _) (Qx (As hY.rd.any Y BQ Y) Y (Qm Y (Ap ?_)))))));refine Ax Y (λhlt2=>?_) (λhlt2=>?_)
  ·have hjl:j<l[k].c.sd.length:=CE hlt2;have hnext:S0.sides i (Bv x.c i).2 (l[k].c.sd.take (j+1))=(S0.sides i (Bv x.c i).2 (l[k].c.sd.take j)).side i (Bv x.c i).2 l[k].c.sd[j]:=by rw[List.take_succ_eq_append_getElem hjl,S2.sides_snoc]
   obtain⟨S,hSS⟩:∃S,S0.sides i (Bv x.c i).2 (l[k].c.sd.take j)=S:=⟨_,Y⟩
   obtain⟨T,hT⟩:∃T,64*i+min j l[k].c.sd.length=T:=⟨_,Y⟩
   rw[hT]at hkj;rw[hSS]at W hkj hnext;have hT2:T<=4200:=by omega
   have hil2:=hkj.t;have hc0:∀ms,Cell h2 ms ((AJ l[k].v).add (j*2)) (.int .i64 l[k].c.sd[j].1):=λms=>(hY.any (ms:=ms)).cell0 hjl Y;have hc1:∀ms,Cell h2 ms (((AJ l[k].v).add (j*2)).add 1) (.int .i64 l[k].c.sd[j].2):=λms=>(hY.any (ms:=ms)).cell hjl (f:=1) Y;have hcx:∀ms,Cell h2 ms (((AJ x.v).add (i*2)).add 1) (.int .i64 x.c.sd[i].2):=λms=>(hX.any (ms:=ms)).cell hil (f:=1) Y;have o5:v5.oneCell'=true:=(W.i.rd (h:=h2) (ms:=[m5]) Mh).rd.one;have o6:v6.oneCell'=true:=(W.s.rd (h:=h2) (ms:=[m6]) Mh).rd.one;have o7:v7.oneCell'=true:=(W.m.rd (h:=h2) (ms:=[m7]) Mh).rd.one;have o8:v8.oneCell'=true:=(W.p.rd (h:=h2) (ms:=[m8]) Mh).rd.one;have o9:v9.oneCell'=true:=(W.f.rd (h:=h2) (ms:=[m9]) Mh).rd.one;obtain⟨r,hr⟩:∃r,l[k].c.sd[j]=r:=⟨_,Y⟩
   rw[hr]at hc0 hc1 hnext;refine Aj (Ab ?_);refine A8 (λs h' ms'=>∃(v5 v6 v7 v8 v9:Value) (m5 m6 m7 m8 m9:Hp),s=[(0,v),(3,.pointer (some ⟨g3,0,none⟩)),(5,v5),(6,v6),(7,v7),(8,v8),(9,v9),(10,.int .i64 i),(11,.pointer (some ⟨g11,0,none⟩)),(12,.int .i64 j)]/\h2=h'/\ms'=[m5,m6,m7,m9,m8]/\OwS (S0.sides i (Bv x.c i).2 (l[k].c.sd.take (j+1))) v5 v6 v7 v8 v9 m5 m6 m7 m8 m9) ?_ (λs h ms hI=>?_)
   ·refine Ah (Aw (Qm Y (Ap ?_)));refine A8 (λs h' ms'=>s=[(0,v),(3,.pointer (some ⟨g3,0,none⟩)),(5,v5),(6,v6),(7,v7),(8,v8),(9,v9),(10,.int .i64 i),(11,.pointer (some ⟨g11,0,none⟩)),(12,.int .i64 j),(13,.int .i64 (Eh S.ids r.1))]/\h2=h'/\ms'=[m5,m6,m7,m9,m8]) ?_ (λs h ms hI=>?_)
    ·have hri:=W.i.rd (h:=h2) (ms:=[m5,m6,m7,m9,m8]) Mh;refine Ah ?_
     refine AD (λq s h' ms'=>∃(a:Nat),q=S.ids.length-a/\s=[(0,v),(3,.pointer (some ⟨g3,0,none⟩)),(5,v5),(6,v6),(7,v7),(8,v8),(9,v9),(10,.int .i64 i),(11,.pointer (some ⟨g11,0,none⟩)),(12,.int .i64 j),(13,.int .i64 a)]/\h2=h'/\ms'=[m5,m6,m7,m9,m8]/\a<=S.ids.length/\∀b (hb:b<S.ids.length),b<a->S.ids[b]≠r.1)
      (S.ids.length-0) _ ⟨0,rfl,rfl,rfl,rfl,by omega,λb hb h=>by omega⟩ Qs ?_
     rintro q s h' ms' ⟨a,rfl,rfl,rfl,rfl,ha,hno⟩;refine Ac (Ac (Bc 15 CZ (by kernel_rfl) Y (Wm Y (Wm Y (AW (As hri.rd Y A0 Y) Y Y (Wm Y (Wm Y ?_)))))));refine CB (t:=58) Y (λhs1=>?_) (λhs1=>?_)
     ·have hal:a<S.ids.length:=CE hs1;have hca:Cell h2 [m5,m6,m7,m9,m8] ((AJ v5).add (a*1)) (.int .i64 S.ids[a]):=hri.cell0 hal Y;refine AP (AC Y Y) Y Y Y Y (AP (AC Y Y) Y Y Y Y (AP (BH (a) hri.rd Y A0 Ba Y Y) Y Y Y Y (AP (oL Y U3 (hca)) Y Y Y Y (AP (oF Bs Y) Y Y Y Y (AP (oL Y BQ (hA11 _ _ Y _)) Y Y Y Y (AP (AC Y Y) Y Y Y Y (AP (BH (j) hY.rd.any Y BQ AQ Y Y) Y Y Y Y (AP (oF B6 Y) Y Y Y Y (AP (oL Y U3 (hc0 _)) Y Y Y Y (A4 (Qg (Ep Y Y Y) Y (Qm Y (Ap ?_)))))))))))));refine Ax Y (λhs2=>?_) (λhs2=>?_)
      ·refine Aj (Ab (Ah (Ad (Qm Y (Qx (oA Y) Y (Qm Y (An (Ak ?_))))))))
       exact Am (S.ids.length-(a+1)) _ (by omega) ⟨a+1,Y,Y,Y,Y,by omega,λb hb h=>by
        rcases (by omega:b<a\/b=a) with h1|rfl
        ·exact hno b hb h1
        ·exact hs2⟩ Qs
      ·have hf:Eh S.ids r.1=a:=Pb ha hno λ_=>Classical.byContradiction λq=>hs2 q;refine Ay (Aa (Aa (Ag ?_)));rw[hf];exact Ao _ ⟨Y,Y,Y⟩ Qs
     ·have hf:Eh S.ids r.1=a:=Pb ha hno λh=>absurd h (by omega);refine AE Y Y Y Y Y (AE Y Y Y Y Y (AE Y Y Y Y Y (AE Y Y Y Y Y (AE Y Y Y Y Y (AE Y Y Y Y Y (AE Y Y Y Y Y (AE Y Y Y Y Y (AE Y Y Y Y Y (AE Y Y Y Y Y (A4 (Qk Y (Qm Y (Ap (AV Y (Ay (Aa (Aa (Ag ?_))))))))))))))))));rw[hf];exact Ao _ ⟨Y,Y,Y⟩ Qs
    ·obtain⟨rfl,rfl,rfl⟩:=hI;refine A8 (λs h' ms'=>∃(v5 v6 v7 v8 v9:Value) (m5 m6 m7 m8 m9:Hp),s=[(0,v),(3,.pointer (some ⟨g3,0,none⟩)),(5,v5),(6,v6),(7,v7),(8,v8),(9,v9),(10,.int .i64 i),(11,.pointer (some ⟨g11,0,none⟩)),(12,.int .i64 j),(13,.int .i64 (Eh S.ids r.1))]/\h2=h'/\ms'=[m5,m6,m7,m9,m8]/\OwS (S.add i r.1) v5 v6 v7 v8 v9 m5 m6 m7 m8 m9) ?_ (λs h ms hI=>?_)
     ·refine Ac (Ad (Qm Y (Qm Y (Qx (As (W.i.rd (h:=h2) (ms:=[m5,m6,m7,m9,m8]) Mh).rd Y A0 Y) Y (Qm Y (Ap ?_))))));refine Ax Y (λhnew=>?_) (λhnew=>?_)
      ·have hadd:S.add i r.1=⟨S.ids++[r.1],S.su++[0],S.ma++[0],S.fi++[(i:Int)],S.pa⟩:=by unfold S2.add;rw[if_pos (by omega)]
       have e1:=hkj.s;have e2:=hkj.m;have e3:=hkj.f;refine Aw (Qm Y (Qf Bs Y (Ql Y BQ (hA11 _ _ Y _) (Qm Y (Qx (BH (j) hY.rd.any Y BQ AQ Y Y) Y (Qf B6 Y (Ql Y U3 (hc0 _) (Ar [_] Y A0 Ba Y (by rfl) Y Y (by omega) Y Y Y (λg84=>AZ 1 W.i (RdL.one Bl (x:=r.1) Mh Y) Y A0 Ba Y (by omega) Y Y Y Ck (by(try simp only[length_singleton]);omega) (by(try simp only[length_singleton]);omega) rfl rfl rfl (λw5 n5 hN5=>?_))))))))));have p5:=hN5.o1;refine Qm Y (BN (Qm Y (Ar [_] Y A0 Ba Y (by rfl) Y Y (by omega) Y Y Y (λg87=>AZ 3 W.s (RdL.one Bl (x:=0) Mh Y) Y A0 Ba Y (by omega) Y Y Y Ck (by(try simp only[length_singleton]);omega) (by(try simp only[length_singleton]);omega) rfl rfl rfl (λw6 n6 hN6=>?_)))));have p6:=hN6.o1;refine Qm Y (BN (Qm Y (Ar [_] Y A0 Ba Y (by rfl) Y Y (by omega) Y Y Y (λg90=>AZ 5 W.m (RdL.one Bl (x:=0) Mh Y) Y A0 Ba Y (by omega) Y Y Y Ck (by(try simp only[length_singleton]);omega) (by(try simp only[length_singleton]);omega) rfl rfl rfl (λw7 n7 hN7=>?_)))));have p7:=hN7.o1;refine Qm Y (GH (Qm Y (Qm Y (Ar [_] Y A0 Ba Y (by rfl) Y Y (by omega) Y Y Y (λg94=>AZ 7 W.f (RdL.one Bl (x:=(i:Int)) Mh Y) Y A0 Ba Y (by omega) Y Y Y Ck (by(try simp only[length_singleton]);omega) (by(try simp only[length_singleton]);omega) rfl rfl rfl (λw9 n9 hN9=>?_))))));have p9:=hN9.o1;refine Qm Y (An ?_);refine AS (AS (AS (AS ?_)));exact Ao _ ⟨w5,w6,w7,v8,w9,n5,n6,n7,m8,n9,Y,Y,Y,by rw[hadd];exact⟨hN5,hN6,hN7,W.p,hN9⟩⟩ Qs
      ·have hadd:S.add i r.1=S:=by unfold S2.add;rw[if_neg (by omega)]
       refine Aj ?_;exact Ao _ ⟨v5,v6,v7,v8,v9,m5,m6,m7,m8,m9,Y,Y,Y,by rw[hadd];exact W⟩ Qs
     ·obtain⟨v5,v6,v7,v8,v9,m5,m6,m7,m8,m9,rfl,rfl,rfl,W⟩:=hI;have hK2:=hkj.add hil r.1;have hSU:=S2.add_su hkj i r.1;have hrm:r∈l[k].c.sd:=by rw[<-hr];exact getElem_mem hjl
      have hw:=OE hsg (hys r hrm);obtain⟨kf,hkf⟩:∃kf,Eh S.ids r.1=kf:=⟨_,Y⟩
      obtain⟨U,hU⟩:∃U,S.add i r.1=U:=⟨_,Y⟩
      have hres:S.side i (Bv x.c i).2 r=U.hit i kf ((Bv x.c i).2*r.2):=by unfold S2.side;rw[hU,hkf]
      rw[hsi]at hw hres;rw[hU]at W hK2 hSU;rw[hkf]at hK2 ⊢;rw[hsi]at hnext;obtain⟨KU,hkl2⟩:=hK2;have hsl:kf<U.su.length:=by rw[KU.s];exact hkl2
      have hml:kf<U.ma.length:=by rw[KU.m];exact hkl2
      have hfl:kf<U.fi.length:=by rw[KU.f];exact hkl2
      have hsb:=hSU.1 _ (getElem_mem hsl);have hmb:=hSU.2 _ (getElem_mem hml);have hfb:=KU.fb _ (getElem_mem hfl);obtain⟨f,hf⟩:∃f:Nat,U.fi[kf]=f:=⟨U.fi[kf].toNat,by omega⟩
      have hfp:f<U.pa.length:=by rw[KU.p];omega
      have hip:i<U.pa.length:=by rw[KU.p];exact hil
      have o5:v5.oneCell'=true:=(W.i.rd (h:=h2) (ms:=[m5]) Mh).rd.one;have o6:v6.oneCell'=true:=(W.s.rd (h:=h2) (ms:=[m6]) Mh).rd.one;have o7:v7.oneCell'=true:=(W.m.rd (h:=h2) (ms:=[m7]) Mh).rd.one;have o8:v8.oneCell'=true:=(W.p.rd (h:=h2) (ms:=[m8]) Mh).rd.one;have o9:v9.oneCell'=true:=(W.f.rd (h:=h2) (ms:=[m9]) Mh).rd.one;have c6:∀ms,m6∈ms->Cell h2 ms ((AJ v6).add (kf*1)) (.int .i64 U.su[kf]):=λms hm=>(W.s.rd (h:=h2) hm).cell0 hsl Y;have c7:∀ms,m7∈ms->Cell h2 ms ((AJ v7).add (kf*1)) (.int .i64 U.ma[kf]):=λms hm=>(W.m.rd (h:=h2) hm).cell0 hml Y;have c9:∀ms,m9∈ms->Cell h2 ms ((AJ v9).add (kf*1)) (.int .i64 f):=λms hm=>by have:=(W.f.rd (h:=h2) hm).cell0 hfl Y;rw[hf]at this;exact this
      have c8f:∀ms,m8∈ms->Cell h2 ms ((AJ v8).add (f*1)) (.int .i64 U.pa[f]):=λms hm=>(W.p.rd (h:=h2) hm).cell0 hfp Y;have c8i:∀ms,m8∈ms->Cell h2 ms ((AJ v8).add (i*1)) (.int .i64 U.pa[i]):=λms hm=>(W.p.rd (h:=h2) hm).cell0 hip Y;refine Ac (DN 19 [true,true] CZ (by kernel_rfl) (by kernel_rfl) (by kernel_rfl) (D4 Y Y Y Y (Cm Y Y) (D4 Y Y Y Y (Cm Y Y) ?_)));refine⟨Y,?_⟩;simp only[Ej,zap,cons_append,nil_append,List.take_succ_cons,List.take_zero,List.drop_succ_cons,drop_zero,List.take_nil,List.drop_nil];refine D3 Y Y Y (D3 Y Y Y (Wm Y (Wm Y (AW (BL (kf) (W.s.rd (h:=h2) (ms:=[m6]) Mh).rd Y A0 Ba Y Y (by omega) (by omega)) Y Y ?_))));refine Wl Y U3 (c6 _ (by repeat (first|exact Mh|refine List.Mem.tail _ ?_))) ?_;refine Wf Bs Y (Wl Y BQ (hA _ _ Y _) (Wm Y (AW (BH (i) hX.rd.any Y BQ AQ Y Y) Y Y (Wf Di Y (Wl Y U3 (hcx _) (Wf Bs Y (Wl Y BQ (hA11 _ _ Y _) (Wm Y (AW (BH (j) hY.rd.any Y BQ AQ Y Y) Y Y (Wf Di Y (Wl Y U3 (hc1 _) (AW (oM Y) Y Y (A4 (Qx (oA Y) Y (Qx (BL (kf) (W.s.rd (h:=h2) (ms:=[m6]) Mh).rd Y A0 Ba Y Y (by omega) (by omega)) Y (De 1 kf W.s Y Ba Y Y Y hsl Y Y (λn6 hN6=>An (HG (Ab (Aw (Qm Y (Qm Y (Qx (BL (kf) (W.m.rd (h:=h2) (ms:=[m7]) Mh).rd Y A0 Ba Y Y (by omega) (by omega)) Y ?_)))))))))))))))))))))));refine Ql Y U3 (c7 _ (by repeat (first|exact Mh|refine List.Mem.tail _ ?_))) ?_;refine Qx (oA Y) Y (Qx (BL (kf) (W.m.rd (h:=h2) (ms:=[m7]) Mh).rd Y A0 Ba Y Y (by omega) (by omega)) Y (De 2 kf W.m Y Ba Y Y Y hml Y Y (λn7 hN7=>BN (Qm Y (Qm Y (Qm Y (Qx (BL (kf) (W.f.rd (h:=h2) (ms:=[m9]) Mh).rd Y A0 Ba Y Y (by omega) (by omega)) Y ?_)))))));refine Ql Y U3 (c9 _ (by repeat (first|exact Mh|refine List.Mem.tail _ ?_))) ?_;refine Qx (BL (f) (W.p.rd (h:=h2) (ms:=[m8]) Mh).rd Y A0 Ba Y Y (by omega) (by omega)) Y ?_;refine Ql Y U3 (c8f _ (by repeat (first|exact Mh|refine List.Mem.tail _ ?_))) ?_;refine Qm Y (BN (Qm Y (Qm Y (Qx (BL (i) (W.p.rd (h:=h2) (ms:=[m8]) Mh).rd Y A0 Ba Y Y (by omega) (by omega)) Y ?_))));refine Ql Y U3 (c8i _ (by repeat (first|exact Mh|refine List.Mem.tail _ ?_))) ?_;refine Qm Y (BN (Qm Y (Ap (Ah ?_))))
      refine AD (λq s h' ms'=>∃(a:Nat) (m8:Hp),q=i+1-a/\s=[(0,v),(3,.pointer (some ⟨g3,0,none⟩)),(5,v5),(6,v6),(7,v7),(8,v8),(9,v9),(10,.int .i64 i),(11,.pointer (some ⟨g11,0,none⟩)),(12,.int .i64 j),(14,.int .i64 U.pa[f]),(15,.int .i64 U.pa[i]),(16,.int .i64 a)]/\h2=h'/\ms'=[m5,n6,n7,m9,m8]/\a<=i+1/\OwnL cI 1 3 m8 v8 (Fe U.pa a U.pa[i] U.pa[f]))
       (i+1-0) _ ⟨0,m8,rfl,rfl,rfl,rfl,by omega,by rw[Ts];exact W.p⟩ Qs ?_
      rintro q s h' ms' ⟨a,m8',rfl,rfl,rfl,rfl,ha,hO8⟩;refine Ac (Aw (Qm Y (Qm Y (Qm Y (Ap ?_)))));refine Ax Y (λhla=>?_) (λhla=>?_)
      ·have hap:a<U.pa.length:=by omega
       have hal:a<(Fe U.pa a U.pa[i] U.pa[f]).length:=by rw[Db];exact hap
       have hga:(Fe U.pa a U.pa[i] U.pa[f])[a]=U.pa[a]:=by rw[EO hap,if_neg (λq=>absurd q.1 (Nat.lt_irrefl _))]
       have hca:Cell h2 [m5,n6,n7,m9,m8'] ((AJ v8).add (a*1)) (.int .i64 U.pa[a]):=by have:=(hO8.rd (h:=h2) (ms:=[m5,n6,n7,m9,m8']) (by repeat (first|exact Mh|refine List.Mem.tail _ ?_))).cell0 hal Y;rw[hga]at this;exact this
       refine Aj (Ab (Ac (Ah (Aw (Qm Y (Qm Y (Qx (BL (a) (hO8.rd (h:=h2) (ms:=[m8']) Mh).rd Y A0 Ba Y Y (by omega) (by omega)) Y (Ql Y U3 (hca) (Qm Y (Qm Y (Ap ?_)))))))))));refine Ax Y (λhq=>?_) (λhq=>?_)
       ·refine Ad (Qm Y (Qm Y (Qm Y (Qx (BL (a) (hO8.rd (h:=h2) (ms:=[m8']) Mh).rd Y A0 Ba Y Y (by omega) (by omega)) Y (De 4 a hO8 Y Ba Y Y Y hal Y Y (λn8 hN8=>?_))))));rw[VW hap hq]at hN8;refine An (Ak (Ab (Ad (Qm Y (Qx (oA Y) Y (Qm Y (An ?_)))))));exact Am (i+1-(a+1)) _ (by omega) ⟨a+1,n8,Y,Y,Y,Y,by omega,hN8⟩ Qs
       ·rw[YH hap hq]at hO8;refine Aj (Ak (Ab (Ad (Qm Y (Qx (oA Y) Y (Qm Y (An ?_)))))));exact Am (i+1-(a+1)) _ (by omega) ⟨a+1,m8',Y,Y,Y,Y,by omega,hO8⟩ Qs
      ·obtain rfl:a=i+1:=by omega
       have g6:U.su.getD kf 0=U.su[kf]:=by simp[List.getD,hsl]
       have g7:U.ma.getD kf 0=U.ma[kf]:=by simp[List.getD,hml]
       have g9:(U.fi.getD kf 0).toNat=f:=by rw[show U.fi.getD kf 0=U.fi[kf] by simp[List.getD,hfl],hf];rfl
       have g8:U.pa.getD f 0=U.pa[f]:=by simp[List.getD,hfp]
       have g8':U.pa.getD i 0=U.pa[i]:=by simp[List.getD,hip]
       have hH:U.hit i kf (x.c.sd[i].2*r.2)=⟨U.ids,U.su.set kf (U.su[kf]+x.c.sd[i].2*r.2),U.ma.set kf (U.ma[kf]+1),U.fi,Fe U.pa (i+1) U.pa[i] U.pa[f]⟩:=by unfold S2.hit;rw[g6,g7,g9,g8,g8']
       have hWn:OwS (S0.sides i (Bv x.c i).2 (l[k].c.sd.take (j+1))) v5 v6 v7 v8 v9 m5 n6 n7 m8' m9:=by rw[hsi,hnext,hres,hH];exact⟨W.i,hN6,hN7,hO8,W.f⟩
       refine Ay (Aa (Aa (Ag (Ak ?_))));exact Ao _ ⟨v5,v6,v7,v8,v9,m5,n6,n7,m8',m9,Y,Y,Y,hWn⟩ Qs
   ·obtain⟨v5,v6,v7,v8,v9,m5,m6,m7,m8,m9,rfl,rfl,rfl,W⟩:=hI;refine Ad (Qm Y (Qx (oA Y) Y (Qm Y (An ?_))));exact Am (l[k].c.sd.length-(j+1)) _ (by omega) ⟨j+1,v5,v6,v7,v8,v9,m5,m6,m7,m8,m9,Y,Y,Y,Y,by omega,W⟩ Qs
  ·have hje:j=l[k].c.sd.length:=by omega
   rw[hje,take_length,<-hstep]at W;refine Ay (Aa (Aa (Ag (Ak (Ab (Ad (Qm Y (Qx (oA Y) Y (Qm Y (An ?_))))))))));exact Am (x.c.sd.length-(i+1)) _ (by omega) ⟨i+1,v5,v6,v7,v8,v9,m5,m6,m7,m8,m9,Y,Y,AI lh l2,Y,by omega,W⟩ Qs
 ·obtain rfl:i=x.c.sd.length:=by omega
  obtain⟨S,hS⟩:∃S,G1 (l.map Ce.c) x.c x.c.sd.length=S:=⟨_,Y⟩
  have hsec:DP (l.map Ce.c) x.c=(if ¬∀y∈S.su,y=0 then 24 else if ¬∀y∈S.ma,y=2 then 25 else if ¬∀y∈S.pa,y=S.pa.getD 0 0 then 25 else 0):=by unfold DP;rw[hS]
  rw[hS]at W KS;have r6:=W.s.rd (h:=hh) (ms:=[m5,m6,m7,m9,m8]) (by repeat (first|exact Mh|refine List.Mem.tail _ ?_));have r7:=W.m.rd (h:=hh) (ms:=[m5,m6,m7,m9,m8]) (by repeat (first|exact Mh|refine List.Mem.tail _ ?_));have r8:=W.p.rd (h:=hh) (ms:=[m5,m6,m7,m9,m8]) (by repeat (first|exact Mh|refine List.Mem.tail _ ?_));clear hlt hi hR hX hA;refine Ay (Aa (Aa (Ag (Ab (Ac (Aw (Qm Y (Ap (Ah ?_)))))))))
  refine AD (λq s h' ms'=>∃(a:Nat),q=S.su.length-a/\s=[(6,v6),(7,v7),(8,v8),(17,.int .i64 a)]/\hh=h'/\ms'=[m5,m6,m7,m9,m8]/\a<=S.su.length/\∀b (hb:b<S.su.length),b<a->S.su[b]=0)
   (S.su.length-0) _ ⟨0,rfl,rfl,rfl,rfl,by omega,λb hb h=>by omega⟩ Qs ?_
  rintro q s h' ms' ⟨a,rfl,rfl,rfl,rfl,ha,hno⟩;have r6l:=r6.len_le;refine Ac (Aw (Qm Y (Qm Y (Qx (As r6.rd Y A0 Y) Y (Qm Y (Ap ?_))))));refine Ax Y (λhl6=>?_) (λhl6=>?_)
  ·have hal:a<S.su.length:=CE hl6;have hca:=r6.cell0 hal Y;refine Aj (Ab (Ac (Ah (Aw (Qm Y (Qm Y (Qx (BH (a) r6.rd Y A0 Ba Y Y) Y (Ql Y U3 (hca) (Qm Y (Ap ?_))))))))));refine Ax Y (λhq=>?_) (λhq=>?_)
   ·refine Ac (Ad (Qm Y (Ap (Aq (Al (Ae (Ae (Al (Ae ?_)))))))));exact Az Y Y (by rw[hsec,if_pos (λq=>hq (q _ (getElem_mem hal)))])
   ·have hq:S.su[a]=0:=Classical.byContradiction λq=>hq q;refine Aj (Ak (Ab (Ad (Qm Y (Qx (oA Y) Y (Qm Y (An ?_)))))))
    exact Am (S.su.length-(a+1)) _ (by omega) ⟨a+1,Y,Y,Y,Y,by omega,λb hb h=>by
     rcases (by omega:b<a\/b=a) with h1|rfl
     ·exact hno b hb h1
     ·exact hq⟩ Qs
  ·have hall:∀y∈S.su,y=0:=λy hy=>by obtain⟨b,hb,rfl⟩:=List.mem_iff_getElem.1 hy;exact hno b hb (by omega)
   rw[if_neg (λq=>q hall)]at hsec;clear hno hl6 ha;refine Ay (Aa (Aa (Ag (Ab (Ac (Aw (Qm Y (Ap (Ah ?_)))))))))
   refine AD (λq s h' ms'=>∃(a:Nat),q=S.ma.length-a/\s=[(7,v7),(8,v8),(18,.int .i64 a)]/\hh=h'/\ms'=[m5,m6,m7,m9,m8]/\a<=S.ma.length/\∀b (hb:b<S.ma.length),b<a->S.ma[b]=2)
    (S.ma.length-0) _ ⟨0,rfl,rfl,rfl,rfl,by omega,λb hb h=>by omega⟩ Qs ?_
   rintro q s h' ms' ⟨a,rfl,rfl,rfl,rfl,ha,hno⟩;have r7l:=r7.len_le;refine Ac (Aw (Qm Y (Qm Y (Qx (As r7.rd Y A0 Y) Y (Qm Y (Ap ?_))))));refine Ax Y (λhl7=>?_) (λhl7=>?_)
   ·have hal:a<S.ma.length:=CE hl7;have hca:=r7.cell0 hal Y;refine Aj (Ab (Ac (Ah (Aw (Qm Y (Qm Y (Qx (BH (a) r7.rd Y A0 Ba Y Y) Y (Ql Y U3 (hca) (Qm Y (Ap ?_))))))))));refine Ax Y (λhq=>?_) (λhq=>?_)
    ·refine Ac (Ad (Qm Y (Ap (Aq (Al (Ae (Ae (Al (Ae ?_)))))))));exact Az Y Y (by rw[hsec,if_pos (λq=>hq (q _ (getElem_mem hal)))])
    ·have hq:S.ma[a]=2:=Classical.byContradiction λq=>hq q;refine Aj (Ak (Ab (Ad (Qm Y (Qx (oA Y) Y (Qm Y (An ?_)))))))
     exact Am (S.ma.length-(a+1)) _ (by omega) ⟨a+1,Y,Y,Y,Y,by omega,λb hb h=>by
      rcases (by omega:b<a\/b=a) with h1|rfl
      ·exact hno b hb h1
      ·exact hq⟩ Qs
   ·have hall2:∀y∈S.ma,y=2:=λy hy=>by obtain⟨b,hb,rfl⟩:=List.mem_iff_getElem.1 hy;exact hno b hb (by omega)
    rw[if_neg (λq=>q hall2)]at hsec;clear hno hl7 ha;refine Ay (Aa (Aa (Ag (Ab (Ac (Aw (Qm Y (Ap (Ah ?_)))))))))
    refine AD (λq s h' ms'=>∃(a:Nat),q=S.pa.length-a/\s=[(8,v8),(19,.int .i64 a)]/\hh=h'/\ms'=[m5,m6,m7,m9,m8]/\a<=S.pa.length/\∀b (hb:b<S.pa.length),b<a->S.pa[b]=S.pa.getD 0 0)
     (S.pa.length-0) _ ⟨0,rfl,rfl,rfl,rfl,by omega,λb hb h=>by omega⟩ Qs ?_
    rintro q s h' ms' ⟨a,rfl,rfl,rfl,rfl,ha,hno⟩;have r8l:=r8.len_le;refine Ac (Aw (Qm Y (Qm Y (Qx (As r8.rd Y A0 Y) Y (Qm Y (Ap ?_))))));refine Ax Y (λhl8=>?_) (λhl8=>?_)
    ·have hal:a<S.pa.length:=CE hl8;have h0l:0<S.pa.length:=by omega
     have g0:S.pa.getD 0 0=S.pa[0]:=by simp[List.getD,h0l]
     have hca:=r8.cell0 hal Y;have hc0:=r8.cell0 h0l Y;refine Aj (Ab (Ac (Ah (Ac (Bc 7 CZ (by kernel_rfl) Y (Wm Y (Wm Y (AW (BH (a) r8.rd Y A0 Ba Y Y) Y Y (Wl Y U3 (hca) (Wm Y (AW (BH (0) r8.rd Y A0 Ba Y Y) Y Y (Wl Y U3 (hc0) (A4 (Qm Y (Ap ?_)))))))))))))));refine Ax Y (λhq=>?_) (λhq=>?_)
     ·refine Ac (Ad (Qm Y (Ap (Aq (Al (Ae (Ae (Al (Ae ?_)))))))));exact Az Y Y (by rw[hsec,if_pos (λq=>hq (by rw[<-g0];exact q _ (getElem_mem hal)))])
     ·have hq:S.pa[a]=S.pa.getD 0 0:=by rw[g0];exact Classical.byContradiction λq=>hq q
      refine Aj (Ak (Ab (Ad (Qm Y (Qx (oA Y) Y (Qm Y (An ?_)))))))
      exact Am (S.pa.length-(a+1)) _ (by omega) ⟨a+1,Y,Y,Y,Y,by omega,λb hb h=>by
       rcases (by omega:b<a\/b=a) with h1|rfl
       ·exact hno b hb h1
       ·exact hq⟩ Qs
    ·have hall3:∀y∈S.pa,y=S.pa.getD 0 0:=λy hy=>by obtain⟨b,hb,rfl⟩:=List.mem_iff_getElem.1 hy;exact hno b hb (by omega)
     rw[if_neg (λq=>q hall3)]at hsec;refine Ay (Aa (Aa (Ag (Ab (Aw (Qm Y (Ap (Aq ?_))))))));exact Az Y Y (by rw[hsec])
variable {l:List Cl}
def HY(o own:List Cl)(i:Nat):Option (Int×Int):=
 if(o.getD i default).id<1\/(0<i/\(o.getD i default).id=(o.getD (i-1) default).id) then some ((o.getD i default).id,20)
 else if Cr own (o.getD i default)≠0 then some ((o.getD i default).id,Cr own (o.getD i default)) else none
def JI(o:List Cl)(i:Nat):Option (Int×Int):=
 if(o.getD i default).dim<2 then none
 else if DP o (o.getD i default)≠0 then some ((o.getD i default).id,DP o (o.getD i default)) else none
def FW(l:List Cl):Int×Int:=if 4000<l.length then(0,2) else
 ((range l.length).findSome? (HY (ordF l) (Fs l))).getD (((range l.length).findSome? (JI (ordF l))).getD (0,0))
theorem Cq{β:Type}{e:Nat->Option β}:∀n,(∀b,b<n->e b=none)->(range n).findSome? e=none
 | 0,_=>rfl
 | n+1,h=>by rw[range_succ,List.findSome?_append,Cq n λb hb=>h b (by omega)];simp[h n (by omega)]
theorem Dp{β:Type}{e:Nat->Option β}{a:Nat}{x:β}(h:∀b,b<a->e b=none)(hx:e a=some x):∀n,a<n->(range n).findSome? e=some x
 | 0,ha=>by omega
 | n+1,ha=>by
  rw[range_succ,List.findSome?_append];rcases (by omega:a<n\/a=n) with h1|rfl
  ·rw[Dp h hx n h1];rfl
  ·rw[Cq a h];simp[hx]
theorem Nu:∀(l:List Cl) (p:Option Int),(uq p l).Sublist l
 | [],_=>List.Sublist.refl _
 | a::l,p=>by
  unfold uq;split
  ·exact(Nu l _).cons a
  ·exact(Nu l _).cons_cons a
theorem Lo(l:List Cl):(Fs l).Pairwise λa b=>a.id<=b.id:=(Dx l.length l (Nat.le_refl _)).sublist (Nu _ _)
theorem PA(l:List Cl):(Fs l).length<=l.length:=by
 have:=(Nu (ordF l) none).length_le
 rwa [Fc]at this
theorem PG:∀(l:List Cl) (p:Option Int),(∀h:0<l.length,p≠some l[0].id)->(∀i (hi:i+1<l.length),l[i].id≠l[i+1].id)->uq p l=l
 | [],_,_,_=>rfl
 | a::l,p,h0,h=>by
  unfold uq
  rw[if_neg (show p≠some a.id from h0 (by simp)),PG l _ (λhl=>by
   have:=h 0 (by simp;omega)
   simpa using this) (λi hi=>by
   have:=h (i+1) (by simp;omega)
   simpa using this)]
theorem EJ{x:Cl}(h:Cr l x=0):(0<=x.dim/\x.dim<=8)/\x.sd.length<=64/\(∀i,i<x.sd.length->¬CF l x i)/\∀i,i<x.sd.length->¬BT x i:=by
 unfold Cr at h;split at h
 ·omega
 ·rename_i h1;split at h
  ·omega
  ·rename_i h2;split at h
   ·omega
   ·rename_i h3;split at h
    ·omega
    ·rename_i h4;refine⟨by omega,?_,Classical.not_not.1 h3,Classical.not_not.1 h4⟩;unfold B0 at h2;omega
theorem GY{i:Nat}(hi:i<l.length):l.getD i default=l[i]:=by simp[List.getD,hi]
theorem XH(h:∀b,b<(ordF l).length->HY (ordF l) (Fs l) b=none){i:Nat}(hi:i<(ordF l).length):Rn (ordF l) (ordF l)[i]:=by
 have hn:∀b (hb:b<(ordF l).length),(1<=(ordF l)[b].id/\¬(0<b/\(ordF l)[b].id=((ordF l).getD (b-1) default).id))/\Cr (Fs l) (ordF l)[b]=0:=λb hb=>by
  have:=h b hb;unfold HY at this;rw[GY hb]at this;split at this
  ·cases this
  ·rename_i h1;split at this
   ·cases this
   ·rename_i h2;exact⟨⟨by omega,λq=>h1 (.inr q)⟩,Classical.not_not.1 h2⟩
 have heq:Fs l=ordF l:=PG _ _ (λ_=>nofun) λb hb q=>by have h1:=(hn (b+1) hb).1.2;refine h1 ⟨by omega,?_⟩;rw[show b+1-1=b by omega,GY (show b<(ordF l).length by omega)];exact q.symm
 rw[heq]at hn;have hx:=EJ (hn i hi).2
 have hsg:∀b (hb:b<(ordF l).length),∀j,j<(ordF l)[b].sd.length->(Bv (ordF l)[b] j).2=1\/(Bv (ordF l)[b] j).2=-1:=λb hb j hj=>by have:=(EJ (hn b hb).2).2.2.2 j hj;unfold BT at this;omega
 have hat:∀j,j<(ordF l)[i].sd.length->0<=I1 (ordF l) (Bv (ordF l)[i] j).1:=λj hj=>by have:=hx.2.2.1 j hj;unfold CF at this;omega
 have hy:∀j,j<(ordF l)[i].sd.length->∃b,∃hb:b<(ordF l).length,Fk (ordF l) (ordF l)[i] j=(ordF l)[b]:=λj hj=>by have h1:=hat j hj;have h2:=HP (ordF l) (Bv (ordF l)[i] j).1;exact⟨_,by omega,GY (by omega)⟩
 refine⟨hx.2.1,hsg i hi,hat,λj hj=>?_,λj hj r hr=>?_⟩
 ·obtain⟨b,hb,e⟩:=hy j hj;rw[e];exact(EJ (hn b hb).2).2.1
 ·obtain⟨b,hb,e⟩:=hy j hj;rw[e]at hr;obtain⟨k,hk,rfl⟩:=List.mem_iff_getElem.1 hr;have:=hsg b hb k hk
  rwa [Bp hk]at this
structure Aa0(l:List Ce):Prop extends CsOk l where
 d:∀a∈l,-9223372036854775807<=a.c.dim/\a.c.dim<=9223372036854775807
theorem G7{c:Cl}(h:c∈ordF l):∃a∈l,c=a.can:=by have:=(Dc l.length l (Nat.le_refl _)).mem_iff.1 h;obtain⟨a,ha,e⟩:=List.mem_map.1 this;exact⟨a,ha,e.symm⟩
theorem Qv(l:List Ce)(v:Value)(h:Hp)(hK:Aa0 l)(hR:RdC h v l):FnT Tryz.prog 69 #[.agg #[v]] h [] (λr _ _=>r=.tuple #[.int .i64 (FW (l.map Ce.c)).1,.int .i64 (FW (l.map Ce.c)).2]):=by
 have o1:=hR.q.rd.one;have hn:=hK.n;refine Av func69 ntmps69 Y Y (λw0 hw0=>?_);simp only[A3];refine Aw (AY [_] Y Y (by rfl) Y Y Y (λg1=>Qm Y (Qm Y (Ap (AB λh1 l1 hS=>?_)))));have hR:=hR.up l1;have hA0:=Seg.all hS 0 _ Y;refine Ac (Aw (Qf B3 Y (Ql Y A9 (hA0 _) (Qx (As hR.q.rd.any Y A9 Y) Y (Qm Y (Ap ?_))))));refine Ax Y (λhbig=>?_) (λhbig=>?_)
 ·refine Ac (Ad (Qm Y (Qm Y (Ap (Aq (Ae ?_))))));exact BA Y Y Y (by unfold FW;rw[if_pos (by rw[length_map];omega)])
 ·have hck:FW (l.map Ce.c)=((range l.length).findSome? (HY (ordF (l.map Ce.c)) (Fs (l.map Ce.c)))).getD (((range l.length).findSome? (JI (ordF (l.map Ce.c)))).getD (0,0)):=by unfold FW;rw[if_neg (by rw[length_map];omega),length_map]
  refine Aj (Ab (Aw (Qf B3 Y (Ql Y A9 (hA0 _) (Qc call118 Y (HV (l.length+1) l v h1 (by omega) (by omega) hK.s hR) (λro h2 ms2 l2 hF=>?_))))));obtain⟨l2',mo,O,rfl,hOO,hO,hOs⟩:=hF;refine A5 hOO λh3 l3 hRO=>?_;have l13:=AI l2 l3;have hR:=hR.up l13;have hS:=hS.le l13;have oro:=hRO.rd.one;refine Qm Y (BN (Qx (oG Y BJ AO (Seg.any hS)) Y (Qc call49 Y (Fm l v h3 hK.toCsOk hR) (λrw_ h4 ms4 l4 hF=>?_))));obtain⟨l4',mw,W,rfl,hOW,hW,hWs⟩:=hF;refine A5 hOW λh5 l5 hRW=>?_;have l35:=AI l4 l5;have hRC:RdC h5 ro O:=⟨hRO.up l35,λa ha=>(hOs a ha).up (AI l3 l35)⟩
  have orw:=hRW.rd.one;have lO:O.length=l.length:=by have:=congrArg List.length hO;rwa [length_map,Fc,length_map]at this
  have lW:W.length<=100000:=by have:=congrArg List.length hW;rw[length_map]at this;have:=PA (l.map Ce.c);rw[length_map]at this;omega
  have hOm:∀a∈O,a.c.sd.length<=100000/\-9223372036854775807<=a.c.dim/\a.c.dim<=9223372036854775807:=λa ha=>by
   have h1:a.c∈ordF (l.map Ce.c):=by rw[<-hO];exact List.mem_map_of_mem ha
   obtain⟨c,hc,e⟩:=G7 h1;obtain⟨b,hb,rfl⟩:=List.mem_map.1 hc;rw[e];exact⟨by show(Cd _).length<=_;rw[Gm];exact hK.s b hb,hK.d b hb⟩
  have hWst:(W.map Ce.c).Pairwise λa b=>a.id<=b.id:=by rw[hW];exact Lo _
  have hOst:(O.map Ce.c).Pairwise λa b=>a.id<=b.id:=by rw[hO];exact Dx _ _ (Nat.le_refl _)
  have hget:∀i (hi:i<O.length),(ordF (l.map Ce.c)).getD i default=O[i].c:=λi hi=>by rw[<-hO,GY (by rw[length_map];exact hi),getElem_map]
  have lord:(ordF (l.map Ce.c)).length=O.length:=by rw[<-hO,length_map]
  obtain⟨o,ho⟩:∃o,ordF (l.map Ce.c)=o:=⟨_,Y⟩
  obtain⟨w,hw⟩:∃w,Fs (l.map Ce.c)=w:=⟨_,Y⟩
  rw[ho,hw,<-lO]at hck;rw[ho]at hget lord
  have hsec:(∀b,b<O.length->HY o w b=none)->∀i (hi:i<O.length),Rn o O[i].c:=λh i hi=>by
   have:=XH (l:=l.map Ce.c) (by rw[ho,hw,lord];exact h) (i:=i) (by rw[ho,lord];exact hi);have e:(ordF (l.map Ce.c))[i]'(by rw[ho,lord];exact hi)=O[i].c:=by rw[<-hget i hi];subst ho;exact(GY _).symm
   rwa [e,ho]at this
  rw[hw]at hW;rw[ho]at hO;refine Qm Y (Ap (Ac (Aw (Qm Y (Ap (Ah ?_))))))
  refine AD (λq s h' ms'=>∃(i:Nat),q=O.length-i/\s=[(4,ro),(5,rw_),(6,.int .i64 i)]/\h5=h'/\ms'=[]/\i<=O.length/\∀b,b<i->HY o w b=none)
   (O.length-0) _ ⟨0,rfl,rfl,rfl,rfl,by omega,λb hb=>by omega⟩ Qs ?_
  rintro q s h' ms' ⟨i,rfl,rfl,rfl,rfl,hi,hno⟩;refine Ac (Aw (Qm Y (Qm Y (Qx (As hRC.q.rd.any Y A9 Y) Y (Qm Y (Ap ?_))))));refine Ax Y (λhlt=>?_) (λhlt=>?_)
  ·have hil:i<O.length:=CE hlt;have gi:=hget i hil;have hci:∀ms,Cell h5 ms ((AJ ro).add (i*3)) (.int .i64 O[i].c.id):=λms=>(hRC.q.any (ms:=ms)).cell0 hil Y;have hgi:∀ms,Seg h5 ms ((AJ ro).add (i*3)) (cC O[i]):=λms=>(hRC.q.any (ms:=ms)).seg hil;have oiv:=(hRC.s _ (getElem_mem hil)).rd.one;have hret:∀p,HY o w i=some p->FW (l.map Ce.c)=p:=λp hp=>by rw[hck,Dp hno hp _ hil];rfl
   have hround:HY o w i=none->∀b,b<i+1->HY o w b=none:=λh b hb=>by
    rcases (by omega:b<i\/b=i) with h1|rfl
    ·exact hno b h1
    ·exact h
   obtain⟨hm1,hm2⟩:=hOm _ (getElem_mem hil);refine Aj (Ab (Ac (Ah ?_)));refine A8 (λs h' ms'=>s=[(4,ro),(5,rw_),(6,.int .i64 i)]/\h5=h'/\ms'=[]/\¬(O[i].c.id<1\/(0<i/\O[i].c.id=(o.getD (i-1) default).id))) ?_ (λs h ms hI=>?_)
   ·refine Ac (Bc 21 CZ (by kernel_rfl) Y (Wm Y (Wm Y (AW (BH (i) hRC.q.rd.any Y A9 AL Y Y) Y Y (Wf Bq Y (Wl Y U3 (hci _) (Wm Y (Wm Y ?_))))))));refine CB (t:=31) Y (λg1=>?_) (λg1=>?_)
    ·refine AE Y Y Y Y Y (AE Y Y Y Y Y (AE Y Y Y Y Y (AX Y Y Y Y (AX Y Y Y Y (AX Y Y Y Y (AX Y Y Y Y (AX Y Y Y Y (AX Y Y Y Y (AX Y Y Y Y (AX Y Y Y Y (AX Y Y Y Y (AX Y Y Y Y (AX Y Y Y Y (A4 (A7 Y Y Y Y Y Y (Qk Y (Qm Y (Ap (BD Y (Aw (Qm Y (Qm Y (Qx (BH (i) hRC.q.rd.any Y A9 AL Y Y) Y (Qf Bq Y (Ql Y U3 (hci _) (Qm Y (Qm Y (Ap (Aq (Ae (Al (Ae (Ae (Al (Ae ?_)))))))))))))))))))))))))))))))))));exact BA Y Y Y (by rw[hret (O[i].c.id,20) (by unfold HY;rw[gi,if_pos (.inl g1)])])
    ·refine AP (AC Y Y) Y Y Y Y (AP (CA Y Y Y) Y Y Y Y (AP (AC Y Y) Y Y Y Y ?_));refine CB (t:=34) Y (λg2=>?_) (λg2=>?_)
     ·have hip:i-1<O.length:=by omega
      have gp:=hget (i-1) hip;have hcp:∀ms,Cell h5 ms ((AJ ro).add ((i-1)*3)) (.int .i64 O[i-1].c.id):=λms=>(hRC.q.any (ms:=ms)).cell0 hip Y;refine AP (AC Y Y) Y Y Y Y (AP (AC Y Y) Y Y Y Y (AP (BH (i) hRC.q.rd.any Y A9 AL Y Y) Y Y Y Y (AP (oF Bq Y) Y Y Y Y (AP (oL Y U3 (hci _)) Y Y Y Y (AP (AC Y Y) Y Y Y Y (AP (AC Y Y) Y Y Y Y (AP (oS Y) Y Y Y Y (AP (BH (i-1) hRC.q.rd.any Y A9 AL Y Y) Y Y Y Y (AP (oF Bq Y) Y Y Y Y (AP (oL Y U3 (hcp _)) Y Y Y Y (A4 (Qg (CN Y Y Y) Y (Qg (CP Y Y Y) Y (Qm Y (Ap ?_)))))))))))))));refine Ax Y (λg3=>?_) (λg3=>?_)
      ·refine Ac (Ad (Qm Y (Qm Y (Qx (BH (i) hRC.q.rd.any Y A9 AL Y Y) Y (Qf Bq Y (Ql Y U3 (hci _) (Qm Y (Qm Y (Ap (Aq (Ae (Al (Ae (Ae (Al (Ae ?_))))))))))))))));exact BA Y Y Y (by rw[hret (O[i].c.id,20) (by unfold HY;rw[gi,gp,if_pos (.inr ⟨by omega,g3⟩)])])
      ·refine Aj ?_;exact Ao _ ⟨Y,Y,Y,λq=>by rcases q with q|⟨_,q⟩;exact g1 q;rw[gp]at q;exact g3 q⟩ Qs
     ·refine AE Y Y Y Y Y (AE Y Y Y Y Y (AE Y Y Y Y Y (AE Y Y Y Y Y (AE Y Y Y Y Y (AE Y Y Y Y Y (AE Y Y Y Y Y (AE Y Y Y Y Y (AE Y Y Y Y Y (AE Y Y Y Y Y (AE Y Y Y Y Y (A4 (Qk Y (Qg (Cx Y Y Y) Y (Qm Y (Ap (AV Y (Aj ?_)))))))))))))))));exact Ao _ ⟨Y,Y,Y,λq=>by rcases q with q|⟨q,_⟩;exact g1 q;exact g2 (by omega)⟩ Qs
   ·obtain⟨rfl,rfl,rfl,hok⟩:=hI;have hA1:HY o w i=if Cr w O[i].c≠0 then some (O[i].c.id,Cr w O[i].c) else none:=by unfold HY;rw[gi,if_neg hok]
    have hfv:=λms=>WU W O[i] rw_ h5 lW hm1 hm2 hWst hRW (hRC.s _ (getElem_mem hil)) ms;rw[hW]at hfv;refine Aw (Qm Y (Qm Y (Qm Y (Qx (BH (i) hRC.q.rd.any Y A9 AL Y Y) Y (Qx (oG Y D1 AL (hgi _)) Y (Qx (AR Y call139 Y (hfv _)) Y (Qm Y (BN (Qm Y (Qm Y (Ap ?_)))))))))));refine Ax Y (λg4=>?_) (λg4=>?_)
    ·refine Ac (Ad (Qm Y (Qm Y (Qx (BH (i) hRC.q.rd.any Y A9 AL Y Y) Y (Qf Bq Y (Ql Y U3 (hci _) (Qm Y (Qm Y (Qm Y (Ap (Aq (Al (Ae (Ae (Al (Ae ?_))))))))))))))));exact BA Y Y Y (by rw[hret (O[i].c.id,Cr w O[i].c) (by rw[hA1,if_pos g4])])
    ·refine Aj (Ak (Ab (Ad (Qm Y (Qx (oA Y) Y (Qm Y (An ?_)))))));exact Am (O.length-(i+1)) _ (by omega) ⟨i+1,Y,Y,Y,Y,by omega,hround (by rw[hA1,if_neg g4])⟩ Qs
  ·obtain rfl:i=O.length:=by omega
   have hck2:FW (l.map Ce.c)=((range O.length).findSome? (JI o)).getD (0,0):=by rw[hck,Cq _ hno];rfl
   have hsecO:=hsec hno;refine Ay (Aa (Aa (Ag (Ab (Ac (Aw (Qm Y (Ap (Ah ?_)))))))))
   refine AD (λq s h' ms'=>∃(i:Nat),q=O.length-i/\s=[(4,ro),(8,.int .i64 i)]/\h5=h'/\ms'=[]/\i<=O.length/\∀b,b<i->JI o b=none)
    (O.length-0) _ ⟨0,rfl,rfl,rfl,rfl,by omega,λb hb=>by omega⟩ Qs ?_
   rintro q s h' ms' ⟨i,rfl,rfl,rfl,rfl,hi,hno2⟩;refine Ac (Aw (Qm Y (Qm Y (Qx (As hRC.q.rd.any Y A9 Y) Y (Qm Y (Ap ?_))))));refine Ax Y (λhlt2=>?_) (λhlt2=>?_)
   ·have hil:i<O.length:=CE hlt2;have gi:=hget i hil;have hci:∀ms,Cell h5 ms ((AJ ro).add (i*3)) (.int .i64 O[i].c.id):=λms=>(hRC.q.any (ms:=ms)).cell0 hil Y;have hcd:∀ms,Cell h5 ms (((AJ ro).add (i*3)).add 1) (.int .i64 O[i].c.dim):=λms=>(hRC.q.any (ms:=ms)).cell hil (f:=1) Y;have hgi:∀ms,Seg h5 ms ((AJ ro).add (i*3)) (cC O[i]):=λms=>(hRC.q.any (ms:=ms)).seg hil;have oiv:=(hRC.s _ (getElem_mem hil)).rd.one;have hret:∀p,JI o i=some p->FW (l.map Ce.c)=p:=λp hp=>by rw[hck2,Dp hno2 hp _ hil];rfl
    have hround:JI o i=none->∀b,b<i+1->JI o b=none:=λh b hb=>by
     rcases (by omega:b<i\/b=i) with h1|rfl
     ·exact hno2 b h1
     ·exact h
    refine Aj (Ab (Ac (Ah (Ac (Aw (Qm Y (Qm Y (Qx (BH (i) hRC.q.rd.any Y A9 AL Y Y) Y (Qf BV Y (Ql Y U3 (hcd _) (Qm Y (Ap ?_))))))))))));refine Ax Y (λg5=>?_) (λg5=>?_)
    ·refine Ay (Aa (Ag (Ab (Ad (Qm Y (Qx (oA Y) Y (Qm Y (An ?_))))))));exact Am (O.length-(i+1)) _ (by omega) ⟨i+1,Y,Y,Y,Y,by omega,hround (by unfold JI;rw[gi,if_pos g5])⟩ Qs
    ·have hB1:JI o i=if DP o O[i].c≠0 then some (O[i].c.id,DP o O[i].c) else none:=by unfold JI;rw[gi,if_neg g5]
     have hsv:=λms=>EX (Sl O O[i] ro h5 (by omega) (by rw[hO];exact hsecO i hil) hOst hRC (hRC.s _ (getElem_mem hil))) ms;rw[hO]at hsv;refine Aj (Ab (Aw (Qm Y (Qm Y (Qm Y (Qx (BH (i) hRC.q.rd.any Y A9 AL Y Y) Y (Qx (oG Y D1 AL (hgi _)) Y (Qx (AR Y call140 Y (hsv _)) Y (Qm Y (BN (Qm Y (Qm Y (Ap ?_)))))))))))));refine Ax Y (λg6=>?_) (λg6=>?_)
     ·refine Ac (Ad (Qm Y (Qm Y (Qx (BH (i) hRC.q.rd.any Y A9 AL Y Y) Y (Qf Bq Y (Ql Y U3 (hci _) (Qm Y (Qm Y (Qm Y (Ap (Aq (Al (Ae (Ae (Al (Ae ?_))))))))))))))));exact BA Y Y Y (by rw[hret (O[i].c.id,DP o O[i].c) (by rw[hB1,if_pos g6])])
     ·refine Aj (Ak (Ab (Ad (Qm Y (Qx (oA Y) Y (Qm Y (An ?_)))))));exact Am (O.length-(i+1)) _ (by omega) ⟨i+1,Y,Y,Y,Y,by omega,hround (by rw[hB1,if_neg g6])⟩ Qs
   ·obtain rfl:i=O.length:=by omega
    refine Ay (Aa (Aa (Ag (Ab (Aw (Qm Y (Qm Y (Ap (Aq ?_)))))))));exact BA Y Y Y (by rw[hck2,Cq _ hno2];rfl)
end Go.Proofs.Q

namespace Go.Proofs.Q
open Go.Proofs.Tryz
open Go.Eng Go.RowKit
def G3:List Int->List Int->Bool
 | x::a,y::b=>if x=y then G3 a b else decide (x<y)
 | _,_=>false
def Dg(a b:List Int):Bool:=if a.length≠b.length then decide (a.length<b.length) else G3 a b
theorem O9(a b:List Int)(va vb:Value)(h:Hp)(hA:RdL cI 1 h [] va a)(hB:RdL cI 1 h [] vb b)(ms:List Hp):FnV Tryz.prog 208 #[va,vb] h ms (.bool (Dg a b)):=by
 refine EX ?_ ms;have o1:=hA.rd.one;have o2:=hB.rd.one;have la:=hA.len_le;have lb:=hB.len_le;refine Av func208 ntmps208 Y Y (λw0 hw0=>?_);simp only[A3];refine Aw (Qm Y (Ap (Ac (Aw (Qm Y (Qx (As hA.rd.any Y A0 Y) Y (Qm Y (Qx (As hB.rd.any Y A0 Y) Y (Qm Y (Ap ?_))))))))));refine Ax Y (λh1=>?_) (λh1=>?_)
 ·refine Ac (Ad (Qm Y (Qx (As hA.rd.any Y A0 Y) Y (Qm Y (Qx (As hB.rd.any Y A0 Y) Y (Qm Y (Qm Y (Ap (Aq (Ae ?_))))))))));exact Az Y Y (by unfold Dg;rw[if_pos (by omega)];exact congrArg Value.bool (decide_eq_decide.2 (by omega)))
 ·have hl:a.length=b.length:=by omega
  have hbf:Dg a b=G3 a b:=by unfold Dg;rw[if_neg (λq=>q hl)]
  refine Aj (Ab (Ac (Aw (Qm Y (Ap (Ah ?_))))))
  refine AD (λq s h' ms'=>∃(i:Nat),q=a.length-i/\s=[(0,va),(1,vb),(5,.int .i64 i)]/\h=h'/\ms'=[]/\i<=a.length/\G3 a b=G3 (a.drop i) (b.drop i))
   (a.length-0) _ ⟨0,rfl,rfl,rfl,rfl,by omega,rfl⟩ Qs ?_
  rintro q s h' ms' ⟨i,rfl,rfl,rfl,rfl,hi,he⟩;refine Ac (Aw (Qm Y (Qm Y (Qx (As hA.rd.any Y A0 Y) Y (Qm Y (Ap ?_))))));refine Ax Y (λhlt=>?_) (λhlt=>?_)
  ·have hia:i<a.length:=CE hlt;have hib:i<b.length:=by omega
   have hca:Cell h [] ((AJ va).add (i*1)) (.int .i64 a[i]):=hA.cell0 hia Y;have hcb:Cell h [] ((AJ vb).add (i*1)) (.int .i64 b[i]):=hB.cell0 hib Y
   have hd:G3 (a.drop i) (b.drop i)=if a[i]=b[i] then G3 (a.drop (i+1)) (b.drop (i+1)) else decide (a[i]<b[i]):=by rw[List.drop_eq_getElem_cons hia,List.drop_eq_getElem_cons hib];rfl
   refine Aj (Ab (Ac (Ah (Ac (Bc 8 CZ (by kernel_rfl) Y (Wm Y (Wm Y (AW (BH (i) hA.rd.any Y A0 Ba Y Y) Y Y (Wl Y U3 (hca) (Wm Y (Wm Y (AW (BH (i) hB.rd.any Y A0 Ba Y Y) Y Y (Wl Y U3 (hcb) (A4 (Qm Y (Ap ?_))))))))))))))));refine Ax Y (λh2=>?_) (λh2=>?_)
   ·refine Ac (Bc 8 CZ (by kernel_rfl) Y (Wm Y (Wm Y (AW (BH (i) hA.rd.any Y A0 Ba Y Y) Y Y (Wl Y U3 (hca) (Wm Y (Wm Y (AW (BH (i) hB.rd.any Y A0 Ba Y Y) Y Y (Wl Y U3 (hcb) (A4 (Qm Y (Qm Y (Ap (Aq (Al (Ae (Ae (Al (Ae ?_)))))))))))))))))));exact Az Y Y (by rw[hbf,he,hd,if_neg h2])
   ·have h2:a[i]=b[i]:=Classical.byContradiction λq=>h2 q;refine Aj (Ak (Ab (Ad (Qm Y (Qx (oA Y) Y (Qm Y (An ?_)))))));exact Am (a.length-(i+1)) _ (by omega) ⟨i+1,Y,Y,Y,Y,by omega,by rw[he,hd,if_pos h2]⟩ Qs
  ·obtain rfl:i=a.length:=by omega
   refine Ay (Aa (Aa (Ag (Ab (Aw (Qm Y (Ap (Aq ?_))))))));exact Az Y Y (by rw[hbf,he,List.drop_length];rfl)
def JJ(x:Int)(l:List Int):List Int:=l.takeWhile (λy=>decide (y<x))++x::l.dropWhile (λy=>decide (y<x))
def Lq(x:Int)(l:List Int):Prop:=(l.dropWhile λy=>decide (y<x)).head?=some x
instance (x:Int) (l:List Int):Decidable (Lq x l):=by unfold Lq;infer_instance
def D6:List Int->List Int->Option (List Int)
 | acc,[]=>some acc
 | acc,x::l=>if Lq x acc then D6 acc l else if x<0\/9<(JJ x acc).length then none else D6 (JJ x acc) l
theorem UB{x:Int}{l:List Int}{k:Nat}(hk:k<=l.length)(h1:∀j (hj:j<l.length),j<k->l[j]<x)(h2:∀hk:k<l.length,¬l[k]<x):JJ x l=l.take k++x::l.drop k/\(Lq x l<->∃h:k<l.length,l[k]=x):=by
 obtain⟨e1,e2⟩:=Es (λy:Int=>decide (y<x)) l k hk (λj hj hjk=>decide_eq_true (h1 j hj hjk)) (λhk=>decide_eq_false (h2 hk));unfold JJ Lq;rw[e1,e2];refine⟨Y,?_⟩;rw[List.head?_drop];by_cases hkl:k<l.length
 ·rw[List.getElem?_eq_getElem hkl];exact⟨λq=>⟨hkl,Option.some.inj q⟩,λ⟨_,q⟩=>by rw[q]⟩
 ·rw[List.getElem?_eq_none (by omega)];exact⟨λq=>(nomatch q),λ⟨q,_⟩=>absurd q hkl⟩
theorem OO(x:Int)(l:List Int):(JJ x l).length=l.length+1:=by unfold JJ;have:=congrArg List.length (List.takeWhile_append_dropWhile (p:=λy:Int=>decide (y<x)) (l:=l));rw[length_append]at this;rw[length_append,length_cons];omega
def AaP(r:Value)(ms:List Hp):Option (List Int)->Prop
 | some l=>∃v m,ms=[m]/\r=.tuple #[v,.bool true]/\OwnL cI 1 3 m v l
 | none=>r=.tuple #[.slice none 0 0,.bool false]
theorem Z4(l:List Int)(v:Value)(h:Hp)(hl:l.length<=100000)(hR:RdL cI 1 h [] v l):FnT Tryz.prog 168 #[v] h [] (λr h' ms'=>h=h'/\AaP r ms' (D6 [] l)):=by
 have o1:=hR.rd.one;refine Av func168 ntmps168 Y Y (λw0 hw0=>?_);simp only[A3];refine Aw (Qm Y (Qm Y (BN (Qm Y (Ap (Ac (Aw (Qm Y (Ap (Ah (BO ?_)))))))))))
 refine AD (λq s h' ms'=>∃(i:Nat) (vo:Value) (mo:Hp) (acc:List Int),q=l.length-i/\s=[(0,v),(4,vo),(5,.int .i64 i)]/\h=h'/\ms'=[mo]/\i<=l.length/\acc.length<=9/\OwnL cI 1 3 mo vo acc/\D6 [] l=D6 acc (l.drop i))
  (l.length-0) _ ⟨0,_,Hp.emp,[],rfl,rfl,rfl,rfl,by omega,by simp,OwnL.nil Bl,rfl⟩ Qs ?_
 rintro q s h' ms' ⟨i,vo,mo,acc,rfl,rfl,rfl,rfl,hi,ha9,hO,he⟩;refine Ac (Aw (Qm Y (Qm Y (Qx (As hR.rd.any Y A0 Y) Y (Qm Y (Ap ?_))))));refine Ax Y (λhlt=>?_) (λhlt=>?_)
 ·have hil:i<l.length:=CE hlt;have hcl:=hO.rd (h:=h) (ms:=[mo]) Mh;have ovo:vo.oneCell'=true:=hcl.rd.one;have hci:∀ms,Cell h ms ((AJ v).add (i*1)) (.int .i64 l[i]):=λms=>(hR.any (ms:=ms)).cell0 hil Y;have hd:D6 acc (l.drop i)=if Lq l[i] acc then D6 acc (l.drop (i+1)) else if l[i]<0\/9<(JJ l[i] acc).length then none else D6 (JJ l[i] acc) (l.drop (i+1)):=by rw[List.drop_eq_getElem_cons hil];rfl
  rw[hd]at he;refine Aj (Ab (Ac (Ah (Aw (Qm Y (Ap ?_))))));refine A8 (λs h' ms'=>∃(k:Nat),s=[(0,v),(4,vo),(5,.int .i64 i),(6,.int .i64 k)]/\h=h'/\ms'=[mo]/\k<=acc.length/\JJ l[i] acc=acc.take k++l[i]::acc.drop k/\(Lq l[i] acc<->∃h:k<acc.length,acc[k]=l[i])) ?_ (λs h ms hI=>?_)
  ·refine Ah ?_
   refine AD (λq s h' ms'=>∃(k:Nat),q=acc.length-k/\s=[(0,v),(4,vo),(5,.int .i64 i),(6,.int .i64 k)]/\h=h'/\ms'=[mo]/\k<=acc.length/\∀j (hj:j<acc.length),j<k->acc[j]<l[i])
    (acc.length-0) _ ⟨0,rfl,rfl,rfl,rfl,by omega,λj hj h=>by omega⟩ Qs ?_
   rintro q s h' ms' ⟨k,rfl,rfl,rfl,rfl,hk,hlo⟩;refine Ac (Ac (Bc 13 CZ (by kernel_rfl) Y (Wm Y (Wm Y (AW (As hcl.rd Y A0 Y) Y Y (Wm Y (Wm Y ?_)))))));refine CB (t:=18) Y (λhs1=>?_) (λhs1=>?_)
   ·have hkl:k<acc.length:=CE hs1;have hck:Cell h [mo] ((AJ vo).add (k*1)) (.int .i64 acc[k]):=hcl.cell0 hkl Y;refine AP (AC Y Y) Y Y Y Y (AP (AC Y Y) Y Y Y Y (AP (BH (k) hcl.rd Y A0 Ba Y Y) Y Y Y Y (AP (oL Y U3 (hck)) Y Y Y Y (AP (AC Y Y) Y Y Y Y (AP (AC Y Y) Y Y Y Y (AP (BH (i) hR.rd.any Y A0 Ba Y Y) Y Y Y Y (AP (oL Y U3 (hci _)) Y Y Y Y (A4 (Qg (Df Y Y Y) Y (Qm Y (Ap ?_)))))))))));refine Ax Y (λhs2=>?_) (λhs2=>?_)
    ·refine Aj (Ab (Ah (Ad (Qm Y (Qx (oA Y) Y (Qm Y (An (Ak ?_))))))))
     exact Am (acc.length-(k+1)) _ (by omega) ⟨k+1,Y,Y,Y,Y,by omega,λj hj h=>by
      rcases (by omega:j<k\/j=k) with h1|rfl
      ·exact hlo j hj h1
      ·exact hs2⟩ Qs
    ·refine Ay (Aa (Aa (Ag ?_)));exact Ao _ ⟨k,Y,Y,Y,hk,UB hk hlo λ_=>hs2⟩ Qs
   ·have hkl:k=acc.length:=by omega
    refine AE Y Y Y Y Y (AE Y Y Y Y Y (AE Y Y Y Y Y (AE Y Y Y Y Y (AE Y Y Y Y Y (AE Y Y Y Y Y (AE Y Y Y Y Y (AE Y Y Y Y Y (A4 (Qk Y (Qm Y (Ap (AV Y (Ay (Aa (Aa (Ag ?_))))))))))))))));exact Ao _ ⟨k,Y,Y,Y,hk,UB hk hlo λh=>absurd h (by omega)⟩ Qs
  ·obtain⟨k,rfl,rfl,rfl,hk,hins,hhas⟩:=hI;have hil2:=OO l[i] acc;refine A8 (λs h' ms'=>s=[(0,v),(4,vo),(5,.int .i64 i),(6,.int .i64 k)]/\h=h'/\ms'=[mo]/\¬Lq l[i] acc) ?_ (λs h ms hI=>?_)
   ·refine Ac (Bc 13 CZ (by kernel_rfl) Y (Wm Y (Wm Y (AW (As hcl.rd Y A0 Y) Y Y (Wm Y (Wm Y ?_))))));refine CB (t:=35) Y (λg1=>?_) (λg1=>?_)
    ·have hkl:k<acc.length:=CE g1;have hck:Cell h [mo] ((AJ vo).add (k*1)) (.int .i64 acc[k]):=hcl.cell0 hkl Y;refine AP (AC Y Y) Y Y Y Y (AP (AC Y Y) Y Y Y Y (AP (BH (k) hcl.rd Y A0 Ba Y Y) Y Y Y Y (AP (oL Y U3 (hck)) Y Y Y Y (AP (AC Y Y) Y Y Y Y (AP (AC Y Y) Y Y Y Y (AP (BH (i) hR.rd.any Y A0 Ba Y Y) Y Y Y Y (AP (oL Y U3 (hci _)) Y Y Y Y (A4 (Qg (CN Y Y Y) Y (Qm Y (Ap ?_)))))))))));refine Ax Y (λg2=>?_) (λg2=>?_)
     ·rw[if_pos (hhas.2 ⟨hkl,g2⟩)]at he;refine Ay (Aa (Ag (Ab (Ad (Qm Y (Qx (oA Y) Y (Qm Y (An ?_))))))));exact Am (l.length-(i+1)) _ (by omega) ⟨i+1,vo,mo,acc,Y,Y,Y,Y,by omega,ha9,hO,he⟩ Qs
     ·refine Aj ?_;exact Ao _ ⟨Y,Y,Y,λq=>g2 (hhas.1 q).2⟩ Qs
    ·refine AE Y Y Y Y Y (AE Y Y Y Y Y (AE Y Y Y Y Y (AE Y Y Y Y Y (AE Y Y Y Y Y (AE Y Y Y Y Y (AE Y Y Y Y Y (AE Y Y Y Y Y (A4 (Qk Y (Qm Y (Ap (AV Y (Aj ?_)))))))))))));exact Ao _ ⟨Y,Y,Y,λq=>absurd (hhas.1 q).1 (by omega)⟩ Qs
   ·obtain⟨rfl,rfl,rfl,hnh⟩:=hI;rw[if_neg hnh]at he;refine Ac (Bc 8 CZ (by kernel_rfl) rfl (Wm rfl (Wm rfl (AW (BH (i) hR.rd.any rfl A0 Ba rfl rfl) rfl rfl (Wl rfl U3 (hci _) (Wp (EU [_] rfl A0 Ba rfl (by rfl) rfl rfl (by omega)) rfl rfl (Wm rfl (Wm rfl (AW (CU (k) hcl.rd rfl A0 Ba rfl rfl (by omega) (by omega)) rfl rfl (Iv (λg50=>AZ 0 (OwnL.blk (g:=g50) (el:=3) (F:=cI) (l:=[l[i]]) 1 Bl rfl (by decide)) ((hO.rd (h:=h) (List.Mem.tail _ Mh)).sub_ hk (Nat.le_refl _)) rfl A0 Ba rfl (by omega) rfl rfl rfl Ck (by(try simp only[length_singleton,length_nil,length_append,length_take,length_drop,nil_append]);omega) (by(try simp only[length_singleton,length_nil,length_append,length_take,length_drop,nil_append]);omega) rfl rfl rfl (λv6 m6 hO6=>?_))))))))))));have ov6:=hO6.o1;refine Qm rfl (BN ?_);refine AA [] [] [] rfl A0 Ba rfl (by omega) (by kernel_rfl) (by repeat (first|exact trivial|refine⟨⟨by first|rfl|exact(hcl.rd).cells|exact Rd.cells ‹_›|exact(RdL.rd ‹_›).cells,rfl,rfl⟩,?_⟩)) rfl rfl rfl rfl (λg55=>?_);refine Qm rfl (Qm rfl (Qx (EF (k) hcl.rd rfl A0 Ba rfl rfl (by omega) (by omega)) rfl (AZ 0 (Fg g55 Bl) ((hO.rd (h:=h) (List.Mem.tail _ (List.Mem.tail _ Mh))).sub_ (Nat.zero_le _) hk) rfl A0 Ba rfl (by omega) rfl rfl rfl Ck (by(try simp only[length_singleton,length_nil,length_append,length_take,length_drop,nil_append]);omega) (by(try simp only[length_singleton,length_nil,length_append,length_take,length_drop,nil_append]);omega) rfl rfl rfl (λv7 m7 hO7=>Qm rfl (AZ 0 hO7 (hO6.rd (h:=h) (List.Mem.tail _ Mh)) rfl A0 Ba rfl (by omega) rfl rfl rfl Ck (by(try simp only[length_singleton,length_nil,length_append,length_take,length_drop,nil_append]);omega) (by(try simp only[length_singleton,length_nil,length_append,length_take,length_drop,nil_append]);omega) rfl rfl rfl (λv8 m8 hO8=>?_))))))
    have heq:[]++(acc.drop 0).take (k-0)++([l[i]]++(acc.drop k).take (acc.length-k))=JJ l[i] acc:=by rw[hins,drop_zero,Nat.sub_zero,take_of_length_le (l:=acc.drop k) (by rw[length_drop];omega)];rfl
    rw[heq]at hO8;have ov8:=hO8.o1;refine Qm Y (Ap (YW (Goes.perm (List.perm_append_comm (l₁:=[m8]) (l₂:=[m6,mo]))) ?_));refine Vx (Vx ?_);refine Aw (Qm Y (Qm Y (Qx (BH (i) hR.rd.any Y A0 Ba Y Y) Y (Ql Y U3 (hci _) (Qm Y (Qm Y ?_))))));refine AU (t:=67) Y (λg3=>?_) (λg3=>?_)
    ·rw[if_pos (.inl g3)]at he;refine Qk Y (Qk Y (Qk Y (Qm Y (Ap (BD Y (Aw (Qm Y (Qm Y (Ap (Aq (Al (Ae (Ae (Al (Ae ?_)))))))))))))));exact BA Y Y Y (⟨Y,by rw[he];rfl⟩)
    ·refine Qg (AC Y Y) Y (Qg (D7 (hO8.rd (h:=h) (ms:=[m8]) Mh).rd Y A0 Y) Y (Qg (CA Y Y Y) Y (Qm Y (Ap ?_))));refine Ax Y (λg4=>?_) (λg4=>?_)
     ·rw[if_pos (.inr (by omega))]at he;refine Aw (Qm Y (Qm Y (Ap (Aq (Al (Ae (Ae (Al (Ae ?_)))))))));exact BA Y Y Y (⟨Y,by rw[he];rfl⟩)
     ·rw[if_neg (by omega)]at he;refine Aj (Ak (Ab (Ad (Qm Y (Qx (oA Y) Y (Qm Y (An ?_)))))));exact Am (l.length-(i+1)) _ (by omega) ⟨i+1,v8,m8,_,Y,Y,Y,Y,by omega,by omega,hO8,he⟩ Qs
 ·have hie:i=l.length:=by omega
  rw[hie,List.drop_length]at he;have he:D6 [] l=some acc:=he;refine Ay (Aa (Aa (Ag (Ab (Aw (Qm Y (Qm Y (Qm Y (Ap (Aq ?_))))))))));exact BA Y Y Y (⟨Y,by rw[he];exact⟨vo,mo,Y,Y,hO⟩⟩)
def cW(v:Value):List Value:=[v]
theorem DG:∀v,(cW v).length=1:=λ_=>rfl
def RdEs(h:Hp)(es:List Value)(ll:List (List Int)):Prop:=es.length=ll.length/\∀i (h1:i<es.length) (h2:i<ll.length),RdL cI 1 h [] es[i] ll[i]
theorem RdEs.up{h h':Hp}{es:List Value}{ll:List (List Int)}(R:RdEs h es ll)(l:h.le h'):RdEs h' es ll:=⟨R.1,λi h1 h2=>(R.2 i h1 h2).up l⟩
def DU(ll:List (List Int))(s:List Int):Nat:=(ll.takeWhile λt=>Dg t s).length
def C4(ll:List (List Int))(s:List Int):Nat×Bool:=(DU ll s,match ll[DU ll s]? with|some t=>!Dg s t|none=>false)
theorem X4{ll:List (List Int)}{s:List Int}{k:Nat}(hk:k<=ll.length)(h1:∀j (hj:j<ll.length),j<k->Dg ll[j] s=true)(h2:∀hk:k<ll.length,Dg ll[k] s=false):DU ll s=k:=by obtain⟨e1,_⟩:=Es (λt=>Dg t s) ll k hk h1 h2;unfold DU;rw[e1,length_take];omega
theorem RH(ll:List (List Int))(s:List Int)(es:List Value)(v vs:Value)(h:Hp)(hn:ll.length<=1000000)(hm:∀i j (hi:i<ll.length) (hj:j<ll.length),i<=j->Dg ll[j] s=true->Dg ll[i] s=true)(hV:RdL cW 1 h [] v es)(hE:RdEs h es ll)(hS:RdL cI 1 h [] vs s)(ms:List Hp):FnV Tryz.prog 169 #[v,vs] h ms (.tuple #[.int .i64 (C4 ll s).1,.bool (C4 ll s).2]):=by
 refine EX ?_ ms;have o1:=hV.rd.one;have o2:=hS.rd.one;have hle:=hE.1;refine Av func169 ntmps169 Y Y (λw0 hw0=>?_);simp only[A3];refine Aw (Qm Y (Qm Y (BN (Qm Y (BN (Qm Y (Qx (As hV.rd.any Y Cu Y) Y (Qm Y (Ap (Ac (Ah ?_)))))))))))
 refine AD (λq sl h' ms'=>∃(lo hi:Nat),q=hi-lo/\sl=[(0,v),(1,vs),(6,.int .i64 lo),(7,.int .i64 hi)]/\h=h'/\ms'=[]/\lo<=hi/\hi<=ll.length/\(∀j (hj:j<ll.length),j<lo->Dg ll[j] s=true)/\∀j (hj:j<ll.length),hi<=j->Dg ll[j] s=false)
  (ll.length-0) _ ⟨0,ll.length,rfl,by rw[<-hle],rfl,rfl,by omega,by omega,λj hj h=>by omega,λj hj h=>by omega⟩ Qs ?_
 rintro q sl h' ms' ⟨lo,hi,rfl,rfl,rfl,rfl,hlh,hhl,hlo,hhi⟩;refine Ac (Aw (Qm Y (Qm Y (Qm Y (Ap ?_)))));refine Ax Y (λhlt=>?_) (λhlt=>?_)
 ·obtain⟨m,hmm⟩:∃m,(lo+hi)/2=m:=⟨_,Y⟩
  have hml:m<ll.length:=by omega
  have hme:m<es.length:=by omega
  have hmt:((lo:Int)+hi)/2=(m:Int):=by omega
  have hcm:Cell h [] ((AJ v).add (m*1)) es[m]:=hV.cell0 hme Y;have oem:=(hE.2 m hme hml).rd.one;refine Aj (Ab (Ah (Aw (Qm Y (Qm Y (Qx (oA Y) Y (Qx (Gi Y Y Y (by omega) (by omega)) Y (Qm Y (Ap ?_)))))))));rw[hmt];refine Aw (Qm Y (Qm Y (Qx (BH (m) hV.rd.any Y Cu Cw Y Y) Y (Ql Y A0 (hcm) (Qm Y (Qx (AR Y call208 Y (O9 ll[m] s _ _ h (hE.2 m hme hml) hS _)) Y (Ap ?_)))))));refine Bz Y (λhb=>?_) (λhb=>?_)
  ·refine Ad (Qm Y (Qx (oA Y) Y (Qm Y (An (Ak ?_)))));exact Am (hi-(m+1)) _ (by omega) ⟨m+1,hi,Y,Y,Y,Y,by omega,by omega,λj hj h=>hm j m hj hml (by omega) hb,hhi⟩ Qs
  ·refine Ad (Qm Y (Qm Y (An (Ak ?_))))
   exact Am (m-lo) _ (by omega) ⟨lo,m,Y,Y,Y,Y,by omega,by omega,hlo,λj hj h=>by
    cases hq:Dg ll[j] s with
    | false=>rfl
    | true=>rw[hm m j hml hj h hq]at hb;cases hb⟩ Qs
 ·obtain rfl:lo=hi:=by omega
  have hcnt:DU ll s=lo:=X4 hhl hlo λhk=>hhi lo hk (Nat.le_refl _);have hp1:(C4 ll s).1=lo:=hcnt;refine Ay (Aa (Aa (Ag (Ab (Aw (Qm Y (Qm Y (Qm Y (Qx (As hV.rd.any Y Cu Y) Y (Qm Y (Qm Y ?_)))))))))));refine AU (t:=32) Y (λg1=>?_) (λg1=>?_)
  ·have hll:lo<ll.length:=by omega
   have hle2:lo<es.length:=by omega
   have hcl:Cell h [] ((AJ v).add (lo*1)) es[lo]:=hV.cell0 hle2 Y;have oel:=(hE.2 lo hle2 hll).rd.one;have hp2:(C4 ll s).2=!Dg s ll[lo]:=by unfold C4;rw[hcnt,List.getElem?_eq_getElem hll]
   refine Qg (AC Y Y) Y (Qg (AC Y Y) Y (Qg (AC Y Y) Y (Qg (BH (lo) hV.rd.any Y Cu Cw Y Y) Y (Qg (oL Y A0 (hcl)) Y (Qg (AR Y call208 Y (O9 s ll[lo] _ _ h hS (hE.2 lo hle2 hll) _)) Y (Qg (Gj Y Y) Y (Qm Y (Qm Y (Qm Y (Ap (Aq ?_)))))))))));exact BA Y Y Y (by rw[hp1,hp2])
  ·have hp2:(C4 ll s).2=false:=by unfold C4;rw[hcnt,List.getElem?_eq_none (by omega)]
   refine Qk Y (Qk Y (Qk Y (Qk Y (Qk Y (Qk Y (Qk Y (Qm Y (Qm Y (Qm Y (Ap (Aq ?_)))))))))));exact BA Y Y Y (by rw[hp1,hp2])
end Go.Proofs.Q
namespace Go.Proofs.Q
open Go.Eng Go.RowKit
variable {all:List (List Int)} {a b:List Int}
theorem N2:∀a:List Int,G3 a a=false
 | []=>rfl
 | x::a=>by unfold G3;rw[if_pos rfl];exact N2 a
theorem KZ:∀{a b c:List Int},G3 a b=true->G3 b c=true->G3 a c=true
 | x::a,y::b,z::c,h1,h2=>by
  unfold G3 at *;by_cases e1:x=y
  ·subst e1;rw[if_pos rfl]at h1;by_cases e2:x=z
   ·subst e2;rw[if_pos rfl]at h2 ⊢;exact KZ h1 h2
   ·rw[if_neg e2]at h2 ⊢;exact h2
  ·rw[if_neg e1]at h1;have h1:=of_decide_eq_true h1;by_cases e2:y=z
   ·subst e2;rw[if_neg e1];exact decide_eq_true h1
   ·rw[if_neg e2]at h2;have h2:=of_decide_eq_true h2;rw[if_neg (by omega)];exact decide_eq_true (by omega)
 | [],_,_,h1,_=>by cases h1
 | _::_,[],_,h1,_=>by cases h1
 | _::_,_::_,[],_,h2=>by cases h2
theorem Kv:∀{a b:List Int},a.length=b.length->a≠b->G3 a b=true\/G3 b a=true
 | [],[],_,h=>absurd rfl h
 | x::a,y::b,hl,h=>by
  unfold G3;by_cases e:x=y
  ·subst e;rw[if_pos rfl,if_pos rfl];exact Kv (by simpa using hl) (λq=>h (by rw[q]))
  ·rw[if_neg e,if_neg (λq=>e q.symm)];rcases Int.lt_or_gt_of_ne e with h1|h1
   ·exact .inl (decide_eq_true h1)
   ·exact .inr (decide_eq_true h1)
 | [],_::_,hl,_=>by simp at hl
 | _::_,[],hl,_=>by simp at hl
theorem befF_iff:Dg a b=true<->a.length<b.length\/(a.length=b.length/\G3 a b=true):=by
 unfold Dg;split
 ·rename_i h;rw[decide_eq_true_iff];exact⟨.inl,λq=>by rcases q with q|⟨q,_⟩;exact q;exact absurd q h⟩
 ·rename_i h;have h:a.length=b.length:=Classical.not_not.1 h;exact⟨λq=>.inr ⟨h,q⟩,λq=>by rcases q with q|⟨_,q⟩;omega;exact q⟩
theorem GU(a:List Int):Dg a a=false:=by
 cases h:Dg a a with
 | false=>rfl
 | true=>
  rcases befF_iff.1 h with q|⟨_,q⟩
  ·omega
  ·rw[N2]at q;cases q
theorem KF{c:List Int}(h1:Dg a b=true)(h2:Dg b c=true):Dg a c=true:=by
 rw[befF_iff]at *;rcases h1 with h1|⟨h1,h3⟩<;>rcases h2 with h2|⟨h2,h4⟩
 ·exact .inl (by omega)
 ·exact .inl (by omega)
 ·exact .inl (by omega)
 ·exact .inr ⟨by omega,KZ h3 h4⟩
theorem KQ(h:a≠b):Dg a b=true\/Dg b a=true:=by
 rw[befF_iff,befF_iff];rcases Nat.lt_trichotomy a.length b.length with h1|h1|h1
 ·exact .inl (.inl h1)
 ·rcases Kv h1 h with h2|h2
  ·exact .inl (.inr ⟨h1,h2⟩)
  ·exact .inr (.inr ⟨h1.symm,h2⟩)
 ·exact .inr (.inl h1)
def SrtB(all:List (List Int)):Prop:=all.Pairwise λa b=>Dg a b=true
theorem SrtB.mono(H:SrtB all)(s:List Int):∀i j (hi:i<all.length) (hj:j<all.length),i<=j->Dg all[j] s=true->Dg all[i] s=true:=λi j hi hj hij h=>by
 rcases (by omega:i=j\/i<j) with rfl|h1
 ·exact h
 ·exact KF (List.pairwise_iff_getElem.1 H i j hi hj h1) h
theorem IE(ll:List (List Int))(s:List Int):DU ll s<=ll.length:=(List.takeWhile_sublist _).length_le
theorem M6{α:Type}(p:α->Bool):∀l:List α,(∀j (hj:j<l.length),j<(l.takeWhile p).length->p l[j]=true)/\∀h:(l.takeWhile p).length<l.length,p l[(l.takeWhile p).length]=false
 | []=>⟨λj hj=>absurd hj (by simp),λh=>absurd h (by simp)⟩
 | a::l=>by
  obtain⟨h1,h2⟩:=M6 p l;cases ha:p a with
  | false=>
   have e:(a::l).takeWhile p=[]:=by simp[List.takeWhile,ha]
   refine⟨λj _ h=>?_,λh=>?_⟩
   ·rw[e]at h;simp at h
   ·have:∀k (hk:k<(a::l).length),k=0->p (a::l)[k]=false:=λk hk q=>by subst q;exact ha
    exact this _ h (by rw[e];rfl)
  | true=>
   have e:(a::l).takeWhile p=a::l.takeWhile p:=by simp[List.takeWhile,ha]
   refine⟨λj hj h=>?_,λh=>?_⟩
   ·cases j with
    | zero=>exact ha
    | succ j=>
     rw[e,length_cons]at h;exact h1 j (by simpa using hj) (by omega)
   ·have:∀k (hk:k<(a::l).length),k=(l.takeWhile p).length+1->p (a::l)[k]=false:=λk hk q=>by subst q;exact h2 (by simpa using hk)
    exact this _ h (by rw[e];rfl)
theorem IT(ll:List (List Int))(s:List Int){j:Nat}(hj:j<ll.length)(h:j<DU ll s):Dg ll[j] s=true:=(M6 (λt=>Dg t s) ll).1 j hj h
theorem Ji{ll:List (List Int)}{s:List Int}(hk:DU ll s<ll.length):Dg ll[DU ll s] s=false:=(M6 (λt=>Dg t s) ll).2 hk
theorem Lx(H:SrtB all){s:List Int}:(C4 all s).2=true<->s∈all:=by
 have hc:=IE all s;unfold C4;show(match all[DU all s]? with|some t=>!Dg s t|none=>false)=true<->_;by_cases hk:DU all s<all.length
 ·rw[List.getElem?_eq_getElem hk];have h1:=Ji hk;show(!Dg s all[DU all s])=true<->_;constructor
  ·intro h;have h2:Dg s all[DU all s]=false:=by simpa using h
   have e:all[DU all s]=s:=Classical.byContradiction λq=>by
    rcases KQ q with r|r
    ·rw[h1]at r;cases r
    ·rw[h2]at r;cases r
   rw[<-e];exact getElem_mem hk
  ·intro h;obtain⟨j,hj,rfl⟩:=List.mem_iff_getElem.1 h;rcases Nat.lt_trichotomy j (DU all all[j]) with h3|h3|h3
   ·have:=IT all all[j] hj h3;rw[GU]at this;cases this
   ·have e:all[DU all all[j]]=all[j]:=by congr 1;omega
    rw[e,GU];rfl
   ·have h4:=List.pairwise_iff_getElem.1 H _ j hk hj h3;rw[h1]at h4;cases h4
 ·rw[List.getElem?_eq_none (by omega)];refine⟨λh=>(nomatch h),λh=>?_⟩;obtain⟨j,hj,rfl⟩:=List.mem_iff_getElem.1 h;have:=IT all all[j] hj (by omega);rw[GU]at this;cases this
theorem N5(H:SrtB all){j:Nat}(hj:j<all.length):(C4 all all[j]).1=j:=by
 show DU all all[j]=j;have hc:=IE all all[j];rcases Nat.lt_trichotomy j (DU all all[j]) with h3|h3|h3
 ·have:=IT all all[j] hj h3;rw[GU]at this;cases this
 ·exact h3.symm
 ·have hk:DU all all[j]<all.length:=by omega
  have h4:=List.pairwise_iff_getElem.1 H _ j hk hj h3;rw[Ji hk]at h4;cases h4
def H3(all:List (List Int))(s:List Int):List (List Int):=if(C4 all s).2 then all else all.take (DU all s)++s::all.drop (DU all s)
theorem NR(H:SrtB all)(s:List Int):SrtB (H3 all s)/\∀t,t∈H3 all s<->t=s\/t∈all:=by
 unfold H3;by_cases hp:(C4 all s).2=true
 ·rw[if_pos hp];have:=(Lx H).1 hp;exact⟨H,λt=>⟨.inr,λh=>by rcases h with rfl|h;exact this;exact h⟩⟩
 ·rw[if_neg hp];have hn:s ∉ all:=λh=>hp ((Lx H).2 h);refine⟨?_,λt=>?_⟩
  ·have hlow:∀t∈all.take (DU all s),Dg t s=true:=λt ht=>by obtain⟨j,hj,rfl⟩:=List.mem_iff_getElem.1 ht;rw[List.getElem_take];rw[length_take]at hj;exact IT all s (by omega) (by omega)
   have hhigh:∀t∈all.drop (DU all s),Dg s t=true:=λt ht=>by
    obtain⟨j,hj,rfl⟩:=List.mem_iff_getElem.1 ht;rw[List.getElem_drop];rw[length_drop]at hj;have hk:DU all s<all.length:=by omega
    have h1:=Ji hk
    have h2:Dg s all[DU all s]=true:=by
     rcases KQ (a:=s) (b:=all[DU all s]) (λq=>hn (by rw[q];exact getElem_mem hk)) with r|r
     ·exact r
     ·rw[h1]at r;cases r
    rcases Nat.eq_zero_or_pos j with rfl|h3
    ·exact h2
    ·exact KF h2 (List.pairwise_iff_getElem.1 H _ (DU all s+j) hk (by omega) (by omega))
   have hsplit:SrtB (all.take (DU all s)++all.drop (DU all s)):=by rw[List.take_append_drop];exact H
   obtain⟨p1,p2,p3⟩:=List.pairwise_append.1 hsplit;refine List.pairwise_append.2 ⟨p1,List.pairwise_cons.2 ⟨hhigh,p2⟩,λa ha b hb=>?_⟩;rcases List.mem_cons.1 hb with rfl|hb
   ·exact hlow a ha
   ·exact p3 a ha b hb
  ·rw[mem_append,mem_cons];constructor
   ·rintro(h|h|h)
    ·exact .inr (mem_of_mem_take h)
    ·exact .inl h
    ·exact .inr (List.mem_of_mem_drop h)
   ·rintro(h|h)
    ·exact .inr (.inl h)
    ·rw[<-List.take_append_drop (DU all s) all]at h;rcases List.mem_append.1 h with h|h
     ·exact .inl h
     ·exact .inr (.inr h)
theorem V9(all:List (List Int))(s:List Int):(H3 all s).length<=all.length+1:=by
 unfold H3;split
 ·omega
 ·rw[length_append,length_cons,length_take,length_drop];have:=IE all s;omega
def Ei(s:List Int)(b n:Nat):List Int:=((range n).filter λk=>b.testBit k).map λk=>s.getD k 0
theorem Hs(s:List Int)(b n:Nat):Ei s b (n+1)=Ei s b n++(if b.testBit n then [s.getD n 0] else []):=by
 unfold Ei;rw[range_succ,List.filter_append,map_append];congr 1;by_cases h:b.testBit n=true
 ·rw[if_pos h];simp[h]
 ·rw[if_neg h];simp[h]
def CO(all:List (List Int))(s:List Int):Nat->List (List Int)
 | 0=>all
 | b+1=>H3 (CO all s b) (Ei s (b+1) s.length)
def Cz:List (List Int)->List (List Int)->Option (List (List Int))
 | all,[]=>some all
 | all,l::ll=>
  let a2:=match D6 [] l with
   | some s=>CO all s (2^s.length-1)
   | none=>all
  if 4000<a2.length then none else Cz a2 ll
theorem Eo(H:SrtB all)(s:List Int):∀b,SrtB (CO all s b)
 | 0=>H
 | b+1=>(NR (Eo H s b) _).1
theorem Gv(all:List (List Int))(s:List Int):∀b,(CO all s b).length<=all.length+b
 | 0=>Nat.le_refl _
 | b+1=>by have h1:=Gv all s b;have h2:=V9 (CO all s b) (Ei s (b+1) s.length);show(H3 _ _).length<=_;omega
def DL(all:List (List Int))(i:Nat):Cl:=
 ⟨(i:Int)+1,((all.getD i []).length:Int)-1,if(all.getD i []).length<=1 then [] else Cd ((range (all.getD i []).length).map λk=>(((C4 all ((all.getD i []).eraseIdx k)).1:Int)+1,1-2*((k:Int)%2)))⟩
def Eg(ll:List (List Int)):List Cl:=match Cz [] ll with
 | some all=>(range all.length).map (DL all)
 | none=>[]
end Go.Proofs.Q
namespace Go.Proofs.Q
open Go.Proofs.Tryz
open Go.Eng Go.RowKit
variable {es:List Value}
theorem RdEs.nil(h:Hp):RdEs h [] []:=⟨rfl,λi h1=>absurd h1 (by simp)⟩
theorem Gl(H:∀u∈es,u.oneCell'=true):∀a∈es,∀c∈cW a,c.oneCell'=true:=λa ha c hc=>by rw[List.mem_singleton.1 hc];exact H a ha
theorem L4{e:Entry}{Q:Exit->Act->World->Prop}{ops:Array Oper}{r:List Oper}{s:AF}{ms:List Hp}:∀(pre:List Hp) (h:Hp),(∀h',h.le h'->(∀m∈pre,m.le h')->WL e ops Q r s h' ms)->WL e ops Q r s h (pre++ms)
 | [],h,k=>k h (B8) (λm hm=>by cases hm)
 | m::pre,h,k=>AN λh1 l1 k1=>L4 pre h1 λh2 l2 k2=>k h2 (AI l1 l2) λm' hm=>by
  rcases List.mem_cons.1 hm with rfl|hm
  ·exact AI k1 l2
  ·exact k2 m' hm
def R8(all:List (List Int)):Option (List Int)->List (List Int)
 | some s=>CO all s (2^s.length-1)
 | none=>all
theorem DC(all:List (List Int))(l:List Int)(ll:List (List Int)):Cz all (l::ll)=if 4000<(R8 all (D6 [] l)).length then none else Cz (R8 all (D6 [] l)) ll:=by show(let a2:=match D6 [] l with|some s=>CO all s (2^s.length-1)|none=>all;if 4000<a2.length then none else Cz a2 ll)=_;cases D6 [] l<;>rfl
theorem Sv{r:Value}{ms:List Hp}{o:Option (List Int)}(H:AaP r ms o)(h9:∀s,o=some s->s.length<=9):∃(vs:Value) (s:List Int) (b:Bool),r=.tuple #[vs,.bool b]/\((∀h,(∀m∈ms,m.le h)->RdL cI 1 h [] vs s)/\s.length<=9)/\∀all,R8 all o=if b then CO all s (2^s.length-1) else all:=by
 cases o with
 | none=>exact⟨_,[],false,H,⟨λh _=>⟨Rd.nil _ _ _,Bl⟩,by simp⟩,λall=>rfl⟩
 | some s=>
  obtain⟨v,m,rfl,e,O⟩:=H;exact⟨v,s,true,e,⟨λh hm=>O.rdh (hm m Mh),h9 s Y⟩,λall=>rfl⟩
theorem IW:∀(l acc:List Int) (s:List Int),acc.length<=9->D6 acc l=some s->s.length<=9
 | [],acc,s,h,e=>by have:acc=s:=Option.some.inj e;rw[<-this];exact h
 | x::l,acc,s,h,e=>by
  unfold D6 at e;split at e
  ·exact IW l acc s h e
  ·split at e
   ·cases e
   ·exact IW l _ s (by omega) e
theorem RdEs.ones{h:Hp}{ll:List (List Int)}(H:RdEs h es ll):∀u∈es,u.oneCell'=true:=λu hu=>by obtain⟨i,hi,rfl⟩:=List.mem_iff_getElem.1 hu;exact(H.2 i hi (by have:=H.1;omega)).rd.one
theorem RdEs.ins{h:Hp}{ll:List (List Int)}(H:RdEs h es ll){v:Value}{t:List Int}(hv:RdL cI 1 h [] v t)(k:Nat)(hk:k<=ll.length):RdEs h (es.take k++v::es.drop k) (ll.take k++t::ll.drop k):=by
 have hl:=H.1;refine⟨by simp[hl],λi h1 h2=>?_⟩;rcases Nat.lt_trichotomy i k with h3|h3|h3
 ·rw[List.getElem_append_left (by rw[length_take];omega),List.getElem_append_left (by rw[length_take];omega),List.getElem_take,List.getElem_take];exact H.2 i (by omega) (by omega)
 ·subst h3;rw[getElem_append_right (by rw[length_take];omega),getElem_append_right (by rw[length_take];omega)];have e1:i-(es.take i).length=0:=by rw[length_take];omega
  have e2:i-(ll.take i).length=0:=by rw[length_take];omega
  simp only[e1,e2,List.getElem_cons_zero];exact hv
 ·rw[length_append,length_cons,length_take,length_drop]at h1 h2;rw[getElem_append_right (by rw[length_take];omega),getElem_append_right (by rw[length_take];omega)];have e1:i-(es.take k).length=(i-k-1)+1:=by rw[length_take];omega
  have e2:i-(ll.take k).length=(i-k-1)+1:=by rw[length_take];omega
  simp only[e1,e2,List.getElem_cons_succ,List.getElem_drop];have e3:k+(i-k-1)=i-1:=by omega
  simp only[e3];exact H.2 (i-1) (by omega) (by omega)
theorem HU{all:List (List Int)}(H:SrtB all)(s:List Int):∀n,∀t,t∈CO all s n<->t∈all\/∃b,1<=b/\b<=n/\t=Ei s b s.length
 | 0,t=>⟨.inl,λh=>by rcases h with h|⟨b,h1,h2,_⟩;exact h;omega⟩
 | n+1,t=>by
  show t∈H3 (CO all s n) (Ei s (n+1) s.length)<->_;rw[(NR (Eo H s n) _).2 t,HU H s n t];constructor
  ·rintro(h|h|⟨b,h1,h2,h3⟩)
   ·exact .inr ⟨n+1,by omega,by omega,h⟩
   ·exact .inl h
   ·exact .inr ⟨b,h1,by omega,h3⟩
  ·rintro(h|⟨b,h1,h2,h3⟩)
   ·exact .inr (.inl h)
   ·rcases (by omega:b<=n\/b=n+1) with h4|rfl
    ·exact .inr (.inr ⟨b,h1,h4,h3⟩)
    ·exact .inl h3
theorem N4(s:List Int)(b n:Nat):(Ei s b n).length<=n:=by unfold Ei;rw[length_map];exact Nat.le_trans (List.length_filter_le _ _) (by simp)
theorem E1:∀(ll acc all:List (List Int)),SrtB acc->(∀t∈acc,t.length<=9)->Cz acc ll=some all->∀t∈all,t.length<=9
 | [],acc,all,_,h,e=>by have:acc=all:=Option.some.inj e;rw[<-this];exact h
 | l::ll,acc,all,hS,h,e=>by
  rw[DC]at e;split at e
  ·cases e
  ·refine E1 ll _ all ?_ ?_ e
   ·cases D6 [] l with
    | none=>exact hS
    | some s=>exact Eo hS s _
   ·cases hs:D6 [] l with
    | none=>exact h
    | some s=>
     intro t ht;rcases (HU hS s _ t).1 ht with h1|⟨b,_,_,rfl⟩
     ·exact h t h1
     ·exact Nat.le_trans (N4 _ _ _) (IW _ _ s (by simp) hs)
def NW(all:List (List Int))(S:List Int)(k:Nat):List (Int×Int):=(range k).map λk=>(((C4 all (S.eraseIdx k)).1:Int)+1,1-2*((k:Int)%2))
theorem Sg(all:List (List Int))(S:List Int)(k:Nat):NW all S (k+1)=NW all S k++[(((C4 all (S.eraseIdx k)).1:Int)+1,1-2*((k:Int)%2))]:=by unfold NW;rw[range_succ,map_append];rfl
theorem Iz(all:List (List Int))(S:List Int)(k:Nat):(NW all S k).length=k:=by simp[NW]
theorem HL(ll:List (List Int))(es0:List Value)(v:Value)(h:Hp)(hn:ll.length<=100000)(hn2:∀l∈ll,l.length<=100000)(hV:RdL cW 1 h [] v es0)(hE:RdEs h es0 ll):FnT Tryz.prog 104 #[v] h [] (λr h' ms'=>h.le h'/\∃m A v',ms'=[m]/\r=.agg #[v']/\OwnL cC 3 52 m v' A/\A.map Ce.c=Eg ll/\∀a∈A,RdL cD 2 h' [] a.v a.c.sd):=by
 have o1:=hV.rd.one;have hle:=hE.1;refine Av func104 ntmps104 Y Y (λw0 hw0=>?_);simp only[A3];refine Aw (By [.slice none 0 0] Y AO Y Y (λg2=>BN (Qm Y (Ap (Ac (Aw (Qm Y (Ap (Ah (BO ?_))))))))))
 refine AD (λq s hh ms'=>∃(i:Nat) (v3:Value) (m3:Hp) (es:List Value) (all:List (List Int)),q=ll.length-i/\s=[(0,v),(2,.pointer (some ⟨g2,0,none⟩)),(3,v3),(4,.int .i64 i)]/\h.le hh/\ms'=[m3,Bw g2 29 [.slice none 0 0]]/\i<=ll.length/\OwnL cW 1 22 m3 v3 es/\RdEs hh es all/\SrtB all/\all.length<=4000/\Cz [] ll=Cz all (ll.drop i))
  (ll.length-0) _ ⟨0,_,Hp.emp,[],[],rfl,rfl,B8,rfl,by omega,OwnL.nil DG,RdEs.nil _,List.Pairwise.nil,by simp,rfl⟩ Qs ?_
 rintro q s hh ms' ⟨i,v3,m3,es,all,rfl,rfl,lh,rfl,hi,hO,hEs,hSrt,hal,he⟩;have hV:=hV.up lh;have hE:=hE.up lh;refine Ac (Aw (Qm Y (Qm Y (Qx (As hV.rd.any Y Cu Y) Y (Qm Y (Ap ?_))))));refine Ax Y (λhlt=>?_) (λhlt=>?_)
 ·have hil:i<ll.length:=by omega
  have hie:i<es0.length:=by omega
  have hci:∀ms,Cell hh ms ((AJ v).add (i*1)) es0[i]:=λms=>(hV.any (ms:=ms)).cell0 hie Y;have oei:=(hE.2 i hie hil).rd.one;have hd:Cz all (ll.drop i)=if 4000<(R8 all (D6 [] ll[i])).length then none else Cz (R8 all (D6 [] ll[i])) (ll.drop (i+1)):=by rw[List.drop_eq_getElem_cons hil,DC]
  have ov3:=hO.o1;refine Aj (Ab (Ac (Ah (Aw (Qm Y (Qm Y (Qx (BH (i) hV.rd.any Y Cu Cw Y Y) Y (Ql Y A0 (hci _) (Qc call168 Y (Z4 ll[i] es0[i] hh (hn2 _ (getElem_mem hil)) (hE.2 i hie hil)) (λrs h2 ms2 l2 hF=>?_))))))))));obtain⟨rfl,hF⟩:=hF;have hsl:∀s,D6 [] ll[i]=some s->s.length<=9:=λs e=>IW _ _ s (by simp) e;obtain⟨vs,s,b,rfl,hRs,hmt⟩:=Sv hF hsl;refine L4 ms2 hh λh3 l3 k3=>?_;obtain⟨hRs,hs9⟩:=hRs;have hRs:=hRs h3 k3;have hEs:=hEs.up l3;have ovs:=hRs.rd.one;refine Qm Y (Qm Y (Qm Y (Qm Y (Qm Y (Ap ?_)))));obtain⟨P,hP⟩:∃P,2^s.length=P:=⟨_,Y⟩
  have hP1:1<=P:=by rw[<-hP];exact Nat.one_le_two_pow
  have hP2:P<=512:=by rw[<-hP];exact Nat.pow_le_pow_right (n:=2) (by decide) hs9
  refine A8 (λsl h' ms'=>∃(v3:Value) (m3:Hp) (es:List Value) (A:List (List Int)),sl=[(0,v),(2,.pointer (some ⟨g2,0,none⟩)),(3,v3),(4,.int .i64 i)]/\h3.le h'/\ms'=[m3,Bw g2 29 [.slice none 0 0]]/\OwnL cW 1 22 m3 v3 es/\RdEs h' es A/\SrtB A/\A.length<=4600/\A=(if b then CO all s (P-1) else all)) ?_ (λs h ms hI=>?_)
  ·refine Ac (Ad (Qm Y (Ap (Ah ?_))))
   refine AD (λq sl h' ms'=>∃(n:Nat) (v3:Value) (m3:Hp) (es:List Value),q=P-1-n/\sl=[(0,v),(2,.pointer (some ⟨g2,0,none⟩)),(3,v3),(4,.int .i64 i),(5,vs),(6,.bool b),(7,.int .i64 ((n:Int)+1))]/\h3.le h'/\ms'=[m3,Bw g2 29 [.slice none 0 0]]/\n<=P-1/\OwnL cW 1 22 m3 v3 es/\RdEs h' es (if b then CO all s n else all))
    (P-1-0) _ ⟨0,v3,m3,es,rfl,rfl,B8,rfl,by omega,hO,by cases b<;>exact hEs⟩ Qs ?_
   rintro q sl h4 ms' ⟨n,v3,m3,es,rfl,rfl,l4,rfl,hnP,hO,hEs⟩;have hRs:=hRs.up l4;refine Ac (Aw (Qm Y (Qm Y ?_)));refine Lz (t:=35) Y (λhb=>?_) (λhb=>?_)
   ·refine Qg (AC Y Y) Y (Qg (AC Y Y) Y (Qg (As hRs.rd.any Y A0 Y) Y (Qg (WT Y Y Y (by omega)) Y (Qg (Df Y Y Y) Y (Qm Y (Ap ?_))))));refine Ax Y (λhlt3=>?_) (λhlt3=>?_)
    ·have hnl:n+1<P:=by rw[hP]at hlt3;omega
     subst hb;have hEs:RdEs h4 es (CO all s n):=hEs;have ov3:=hO.o1;have ovs:=hRs.rd.one;have hfl:=Gv all s n;have hFs:=Eo hSrt s n;refine Aj (Ab ?_);refine A8 (λsl h' ms'=>∃(v3:Value) (m3:Hp) (es:List Value),sl=[(0,v),(2,.pointer (some ⟨g2,0,none⟩)),(3,v3),(4,.int .i64 i),(5,vs),(6,.bool true),(7,.int .i64 ((n:Int)+1))]/\h4.le h'/\ms'=[m3,Bw g2 29 [.slice none 0 0]]/\OwnL cW 1 22 m3 v3 es/\RdEs h' es (CO all s (n+1))) ?_ (λs h ms hI=>?_)
     ·refine Ah (Aw (Qm Y (Ap (BO ?_))));refine A8 (λsl h' ms'=>∃(v8:Value) (m8:Hp),sl=[(0,v),(2,.pointer (some ⟨g2,0,none⟩)),(3,v3),(4,.int .i64 i),(5,vs),(6,.bool true),(7,.int .i64 ((n:Int)+1)),(8,v8)]/\h4=h'/\ms'=[m8,m3,Bw g2 29 [.slice none 0 0]]/\OwnL cI 1 3 m8 v8 (Ei s (n+1) s.length)) ?_ (λs h ms hI=>?_)
      ·refine Ac (Ad (Qm Y (Ap (Ah ?_))))
       refine AD (λq sl h' ms'=>∃(a:Nat) (v8:Value) (m8:Hp),q=s.length-a/\sl=[(0,v),(2,.pointer (some ⟨g2,0,none⟩)),(3,v3),(4,.int .i64 i),(5,vs),(6,.bool true),(7,.int .i64 ((n:Int)+1)),(8,v8),(9,.int .i64 a)]/\h4=h'/\ms'=[m8,m3,Bw g2 29 [.slice none 0 0]]/\a<=s.length/\OwnL cI 1 3 m8 v8 (Ei s (n+1) a))
        (s.length-0) _ ⟨0,_,Hp.emp,rfl,rfl,rfl,rfl,by omega,OwnL.nil Bl⟩ Qs ?_
       rintro q sl h' ms' ⟨a,v8,m8,rfl,rfl,rfl,rfl,ha,hO8⟩;refine Ac (Aw (Qm Y (Qm Y (Qx (As hRs.rd.any Y A0 Y) Y (Qm Y (Ap ?_))))));refine Ax Y (λhla=>?_) (λhla=>?_)
       ·have hsa:a<s.length:=by omega
        have hbit:(n+1).testBit a=decide ((n+1)/2^a%2=1):=by rw[Nat.testBit_eq_decide_div_mod_eq]
        have hsub:=Hs s (n+1) a;have hca:∀ms,Cell h4 ms ((AJ vs).add (a*1)) (.int .i64 s[a]):=λms=>(hRs.any (ms:=ms)).cell0 hsa Y;have hga:s.getD a 0=s[a]:=by simp[hsa]
        have ov8:=hO8.o1;have hl8:=N4 s (n+1) a;refine Aj (Ab (Ac (Ah (Aw (Qm Y (Qm Y (Qx (Mm Y (n:=a) (a:=n+1) Y Y (by omega)) Y ?_)))))));refine Qx (TV Y Y Y (by have:=Nat.div_le_self (n+1) (2^a);omega)) Y ?_;refine Qm Y (Ap ?_);refine Ax Y (λhod=>?_) (λhod=>?_)
        ·rw[hbit,decide_eq_true (by omega),if_pos rfl,hga]at hsub;refine Ad (Qm Y (Qm Y (Qm Y (Qx (BH (a) hRs.rd.any Y A0 Ba Y Y) Y (Ql Y U3 (hca _) (Ar [_] Y A0 Ba Y (by rfl) Y Y (by omega) Y Y Y (λg60=>AZ 1 hO8 (RdL.one Bl (x:=s[a]) Mh Y) Y A0 Ba Y (by omega) Y Y Y Ck (by(try simp only[length_singleton]);omega) (by(try simp only[length_singleton]);omega) rfl rfl rfl (λv9 m9 hO9=>?_))))))));rw[<-hsub]at hO9;refine Qm Y (An (Ak (Ab (Ad (Qm Y (Qx (oA Y) Y (Qm Y (An (AS ?_)))))))));exact Am (s.length-(a+1)) _ (by omega) ⟨a+1,v9,m9,Y,Y,Y,Y,by omega,hO9⟩ Qs
        ·rw[hbit,decide_eq_false (by omega),if_neg (by decide),append_nil]at hsub;refine Aj (Ak (Ab (Ad (Qm Y (Qx (oA Y) Y (Qm Y (An ?_)))))));exact Am (s.length-(a+1)) _ (by omega) ⟨a+1,v8,m8,Y,Y,Y,Y,by omega,by rw[hsub];exact hO8⟩ Qs
       ·obtain rfl:a=s.length:=by omega
        refine Ay (Aa (Aa (Ag ?_)));exact Ao _ ⟨v8,m8,Y,Y,Y,hO8⟩ Qs
      ·obtain⟨v8,m8,rfl,rfl,rfl,hO8⟩:=hI;obtain⟨t,ht⟩:∃t,Ei s (n+1) s.length=t:=⟨_,Y⟩
       obtain⟨A,hA⟩:∃A,CO all s n=A:=⟨_,Y⟩
       have hfs:CO all s (n+1)=H3 A t:=by rw[<-ht,<-hA];rfl
       rw[ht]at hO8;rw[hA]at hfl hFs hEs;refine Bt λh5 l5 k5=>?_;have hT:=hO8.rdh (ms:=[]) k5;have ov8:=hT.rd.one;have hEs:=hEs.up l5;have hAe:=hEs.1;have hoe:∀u∈es,u.oneCell'=true:=hEs.ones;refine Aw (Qm Y (Qm Y (Qx (AR Y call169 Y (CG λh' hl hm=>RH A t es v3 v8 h' (by omega) (hFs.mono t) (hO.rdh (hm _ Mh)) (hEs.up hl) (hT.up hl) [])) Y (Qm Y (Qm Y (Qm Y (Qm Y (Qm Y (Ap ?_)))))))));have hcb:=IE A t;obtain⟨k,hk⟩:∃k,DU A t=k:=⟨_,Y⟩
       have hp1:(C4 A t).1=k:=hk;rw[hp1];rw[hk]at hcb;refine Aw (Qm Y (Qm Y (Ap ?_)));refine Bz Y (λhth=>?_) (λhth=>?_)
       ·have hth:(C4 A t).2=false:=by simpa using hth
        have hins:H3 A t=A.take k++t::A.drop k:=by unfold H3;rw[hth,hk];rfl
        have hcl:=hO.rd (h:=h5) (ms:=[m3]) Mh;refine Aw (Qm rfl (Ar [_] rfl Cu Cw rfl ((RdL.rd ‹_›).cells) rfl rfl (by omega) rfl rfl rfl (λg71=>Qm rfl (Qm rfl (Qx (O4 (k) hcl.rd rfl Cu Cw rfl rfl (by omega) (by omega)) rfl (A6 0 (OwnL.blk (g:=g71) (el:=22) (F:=cW) (l:=[v8]) 1 DG rfl (by decide)) ((hO.rd (h:=h5) (List.Mem.tail _ Mh)).sub_ (by omega) (Nat.le_refl _)) rfl Cu Cw rfl (by omega) rfl rfl rfl (Gl λu hu=>hoe u (List.mem_of_mem_drop (mem_of_mem_take hu))) (by(try simp only[length_singleton,length_nil,length_append,length_take,length_drop,nil_append]);omega) (by(try simp only[length_singleton,length_nil,length_append,length_take,length_drop,nil_append]);omega) rfl rfl rfl (λv6 m6 hO6=>?_)))))));have ov6:=hO6.o1;refine Qm rfl (GH ?_);refine AA [] [] [] rfl Cu Cw rfl (by omega) (by kernel_rfl) (by repeat (first|exact trivial|refine⟨⟨by first|rfl|exact(hRs.rd.any).cells|exact(hcl.rd).cells|exact Rd.cells ‹_›|exact(RdL.rd ‹_›).cells,rfl,rfl⟩,?_⟩)) rfl rfl rfl rfl (λg76=>?_);refine Qm rfl (Qm rfl (Qx (EF (k) hcl.rd rfl Cu Cw rfl rfl (by omega) (by omega)) rfl (A6 0 (Fg g76 DG) ((hO.rd (h:=h5) (List.Mem.tail _ (List.Mem.tail _ Mh))).sub_ (Nat.zero_le _) (by omega)) rfl Cu Cw rfl (by omega) rfl rfl rfl (Gl λu hu=>hoe u (mem_of_mem_take hu)) (by(try simp only[length_singleton,length_nil,length_append,length_take,length_drop,nil_append]);omega) (by(try simp only[length_singleton,length_nil,length_append,length_take,length_drop,nil_append]);omega) rfl rfl rfl (λv7 m7 hO7=>Qm rfl ?_))))
        have hoe9:∀u∈v8::(es.drop k).take (es.length-k),u.oneCell'=true:=λu hu=>by
         rcases List.mem_cons.1 hu with rfl|hu
         ·exact ov8
         ·exact hoe u (List.mem_of_mem_drop (mem_of_mem_take hu))
        refine A6 0 hO7 (hO6.rd (h:=h5) (List.Mem.tail _ Mh)) Y Cu Cw Y (by omega) Y Y Y (Gl hoe9) (by(try simp only[length_singleton,length_nil,length_append,length_take,length_drop,nil_append]);omega) (by(try simp only[length_singleton,length_nil,length_append,length_take,length_drop,nil_append]);omega) rfl rfl rfl (λv9 m9 hO9=>?_)
        have heq:[]++(es.drop 0).take (k-0)++([v8]++(es.drop k).take (es.length-k))=es.take k++v8::es.drop k:=by rw[drop_zero,Nat.sub_zero,take_of_length_le (l:=es.drop k) (by rw[length_drop];omega)];rfl
        rw[heq]at hO9;have ov9:=hO9.o1;refine Qm Y (An (Ak (Bd 1 Y (Bd 1 Y ?_))));exact Ao _ ⟨v9,m9,_,Y,l5,Y,hO9,by rw[hfs,hins];exact hEs.ins hT k (by omega)⟩ Qs
       ·have hth:(C4 A t).2=true:=by simpa using hth
        have hins:H3 A t=A:=by unfold H3;rw[hth];rfl
        refine Aj (Ak ?_);exact Ao _ ⟨v3,m3,es,Y,l5,Y,hO,by rw[hfs,hins];exact hEs⟩ Qs
     ·obtain⟨v3,m3,es,rfl,l5,rfl,hO,hEs⟩:=hI;refine Ad (Qm Y (Qx (oA Y) Y (Qm Y (An ?_))));exact Am (P-1-(n+1)) _ (by omega) ⟨n+1,v3,m3,es,Y,Y,AI l4 l5,Y,by omega,hO,hEs⟩ Qs
    ·have hnl:n=P-1:=by rw[hP]at hlt3;omega
     subst hb;have hEs:RdEs h4 es (CO all s n):=hEs;rw[hnl]at hEs;have hfl:=Gv all s (P-1);refine Ay (Aa (Aa (Ag ?_)));exact Ao _ ⟨v3,m3,es,_,Y,l4,Y,hO,hEs,Eo hSrt s _,by omega,Y⟩ Qs
   ·subst hb;have hEs:RdEs h4 es all:=hEs;refine Qk Y (Qk Y (Qk Y (Qk Y (Qk Y (Qm Y (Ap (AV Y (Ay (Aa (Aa (Ag ?_)))))))))));exact Ao _ ⟨v3,m3,es,all,Y,l4,Y,hO,hEs,hSrt,by omega,Y⟩ Qs
  ·obtain⟨v3,m3,es,A,rfl,l4,rfl,hO,hEs,hSrtA,hAl,hA⟩:=hI;have hAe:=hEs.1;have hmtA:=hmt all;rw[hP,<-hA]at hmtA;rw[hmtA]at hd;have ov3:=hO.o1;refine Aw (Qm Y (Qx (D7 (hO.rd (h:=h) (ms:=[m3]) Mh).rd Y Cu Y) Y (Qm Y (Ap ?_))));refine Ax Y (λhbig=>?_) (λhbig=>?_)
   ·rw[if_pos (by omega)]at hd;refine BO (Aw ?_);refine Qx (Bm XP [.slice none 0 0] [] [_] rfl AO rfl rfl (by repeat (first|exact trivial|refine⟨⟨rfl,rfl,rfl⟩,?_⟩|refine⟨⟨((hO.rd (h:=h) (ms:=[m3]) Mh).rd).cells,rfl,rfl⟩,?_⟩)) rfl) rfl ?_;refine Sa 2 [_] AO rfl (by simp[Value.oneCell']) ?_;refine Ap (Aq (Al (Ae (Ae (Al (Ae (Bd 1 rfl ?_)))))));exact BB (vs:=[_]) 1 rfl rfl BJ rfl AO rfl rfl (⟨AI lh (AI l2 (AI l3 l4)),Hp.emp,[],_,rfl,rfl,OwnL.nil Cc,by unfold Eg;rw[he,hd];rfl,λa ha=>nomatch ha⟩)
   ·rw[if_neg (by omega)]at hd;refine Aj (Ak (Ab (Ad (Qm Y (Qx (oA Y) Y (Qm Y (An ?_)))))));exact Am (ll.length-(i+1)) _ (by omega) ⟨i+1,v3,m3,es,A,Y,Y,AI lh (AI l2 (AI l3 l4)),Y,by omega,hO,hEs,hSrtA,by omega,by rw[he,hd]⟩ Qs
 ·obtain rfl:i=ll.length:=by omega
  have he:Cz [] ll=some all:=by rw[he,List.drop_length];rfl
  have h9:=E1 ll [] all List.Pairwise.nil (λt ht=>nomatch ht) he;have hsF:Eg ll=(range all.length).map (DL all):=by unfold Eg;rw[he]
  have hAe:=hEs.1;refine Bt λh2 l2 k2=>?_;have hR3:=hO.rdh (ms:=[]) k2;have hEs:=hEs.up l2;have ov3:v3.oneCell'=true:=hR3.rd.one;refine Ay (Aa (Aa (Ag (Ab (Aw (By [.slice none 0 0] Y AO Y Y (λg13=>Ap (BO (Ac (Aw (Qm Y (Ap (Ah ?_)))))))))))))
  refine AD (λq sl h' ms'=>∃(j:Nat) (vA:Value) (mA:Hp) (A:List Ce),q=all.length-j/\sl=[(0,v),(2,.pointer (some ⟨g2,0,none⟩)),(3,v3),(13,.pointer (some ⟨g13,0,none⟩)),(14,.int .i64 j)]/\h2.le h'/\ms'=[mA,Bw g13 29 [vA],Bw g2 29 [.slice none 0 0]]/\j<=all.length/\OwnL cC 3 52 mA vA A/\A.map Ce.c=(range j).map (DL all)/\∀a∈A,RdL cD 2 h' [] a.v a.c.sd)
   (all.length-0) _ ⟨0,_,Hp.emp,[],rfl,rfl,B8,rfl,by omega,OwnL.nil Cc,rfl,λa ha=>nomatch ha⟩ Qs ?_
  rintro q sl h4 ms' ⟨j,vA,mA,A,rfl,rfl,l4,rfl,hj,hOA,hA,hSd⟩;have hR3:=hR3.up l4;have hEs:=hEs.up l4;refine Ac (Aw (Qm Y (Qm Y (Qx (As hR3.rd.any Y Cu Y) Y (Qm Y (Ap ?_))))));refine Ax Y (λhjl=>?_) (λhjl=>?_)
  ·have hjl:j<all.length:=by omega
   have hje:j<es.length:=by omega
   obtain⟨S,hS⟩:∃S,all[j]=S:=⟨_,Y⟩
   have hS9:S.length<=9:=by rw[<-hS];exact h9 _ (getElem_mem hjl)
   have hRS:RdL cI 1 h4 [] es[j] S:=by rw[<-hS];exact hEs.2 j hje hjl
   have hcj:∀ms,Cell h4 ms ((AJ v3).add (j*1)) es[j]:=λms=>(hR3.any (ms:=ms)).cell0 hje Y;have ovS:=hRS.rd.one;have ovA:=hOA.o1;have hgd:all.getD j []=S:=by simp[hjl,hS]
   refine Aj (Ab (Ac (Ah (Aw (Qm rfl (Qx (oA rfl) rfl (Qm rfl (Qm rfl (Qx (BH (j) hR3.rd.any rfl Cu Cw rfl rfl) rfl (Ql rfl A0 (hcj _) (Qx (As hRS.rd.any rfl A0 rfl) rfl (Qx (oS rfl) rfl ?_))))))))))));refine Qx (Bm Uo [.int .i64 0,.int .i64 0,.slice none 0 0] [(0,_),(1,_)] [_,_,_] rfl AL rfl rfl (by repeat (first|exact trivial|refine⟨⟨rfl,rfl,rfl⟩,?_⟩|refine⟨⟨((hO.rd (h:=h) (ms:=[m3]) Mh).rd).cells,rfl,rfl⟩,?_⟩)) rfl) rfl ?_;refine By [.int .i64 0,.int .i64 0,.slice none 0 0] rfl AL rfl rfl (λg15=>?_);refine Sa 0 [_,_,_] AL rfl (by simp[Value.oneCell']) ?_;refine Ap (BO ?_);obtain⟨D,hD⟩:∃D:Int,(S.length:Int)-1=D:=⟨_,rfl⟩
   rw[hD];refine A8 (λsl h' ms'=>∃(vS:Value) (mS:Hp),sl=[(0,v),(2,.pointer (some ⟨g2,0,none⟩)),(3,v3),(13,.pointer (some ⟨g13,0,none⟩)),(14,.int .i64 j),(15,.pointer (some ⟨g15,0,none⟩))]/\h4=h'/\ms'=[mS,Bw g15 52 [.int .i64 ((j:Int)+1),.int .i64 D,vS],mA,Bw g13 29 [vA],Bw g2 29 [.slice none 0 0]]/\OwnL cD 2 119 mS vS (if S.length<=1 then [] else NW all S S.length)) ?_ (λs h ms hI=>?_)
   ·refine Ac (Ad (Qm Y (Ap (Ah ?_))))
    refine AD (λq sl h' ms'=>∃(k:Nat) (vS:Value) (mS:Hp),q=S.length-k/\sl=[(0,v),(2,.pointer (some ⟨g2,0,none⟩)),(3,v3),(13,.pointer (some ⟨g13,0,none⟩)),(14,.int .i64 j),(15,.pointer (some ⟨g15,0,none⟩)),(16,.int .i64 k)]/\h4=h'/\ms'=[mS,Bw g15 52 [.int .i64 ((j:Int)+1),.int .i64 D,vS],mA,Bw g13 29 [vA],Bw g2 29 [.slice none 0 0]]/\k<=S.length/\(S.length<=1->k=0)/\OwnL cD 2 119 mS vS (NW all S k))
     (S.length-0) _ ⟨0,_,Hp.emp,rfl,rfl,rfl,rfl,by omega,λ_=>rfl,OwnL.nil Ek⟩ Qs ?_
    rintro q sl h' ms' ⟨k,vS,mS,rfl,rfl,rfl,rfl,hk,hk0,hOS⟩;refine Ac (Aw (Qm Y (Qm Y (Qm Y (Qx (BH (j) hR3.rd.any Y Cu Cw Y Y) Y (Ql Y A0 (hcj _) (Qx (As hRS.rd.any Y A0 Y) Y (Qm Y (Qm Y ?_)))))))));refine AU (t:=109) Y (λhk1=>?_) (λhk1=>?_)
    ·have hkS:k<S.length:=by omega
     refine Qg (oF BV Y) Y (Qg (oL Y U3 (Cell.blk 1 Y Y)) Y (Qg (CA Y Y Y) Y (Qm Y (Ap ?_))));refine Ax Y (λhdp=>?_) (λhdp=>?_)
     ·have hD1:1<=D:=by omega
      have ovS2:=hOS.o1;refine Aj (Ab (Ac (Ah (Ac (BK (n:=17) (bs:=[false,true,true,true,true,true,true,false,true,true,true,true,true,true,true,false,false]) [false,true,true,true,true,true,true,false,true,true,true,true,true,true,true] CZ (by kernel_rfl) (by kernel_rfl) rfl rfl (Qq rfl (Qq rfl (Qp rfl (BH (j) hR3.rd.any rfl Cu Cw rfl rfl) (QL rfl A0 (hcj _) (Qq rfl (Qp rfl (EK (k) hRS.rd.any rfl A0 Ba rfl rfl (by omega) (by omega)) (Qq rfl (Qq rfl (Qp rfl (BH (j) hR3.rd.any rfl Cu Cw rfl rfl) (QL rfl A0 (hcj _) (Qq rfl (Qp rfl (oA rfl) (Qp rfl (CU (k+1) hRS.rd.any rfl A0 Ba rfl rfl (by omega) (by omega)) ?_))))))))))))))))));unfold FK;simp only[cons_append,nil_append];refine Qo 0 rfl ?_;refine AA [] [] [] rfl A0 Ba rfl (by omega) (by kernel_rfl) (by repeat (first|exact trivial|refine⟨⟨by first|rfl|exact(hR3.rd.any).cells|exact(hRS.rd.any).cells|exact((hO.rd (h:=h) (ms:=[m3]) Mh).rd).cells|exact Rd.cells ‹_›|exact(RdL.rd ‹_›).cells,rfl,rfl⟩,?_⟩)) rfl rfl rfl rfl (λg116=>?_);refine Qw (Qo 7 rfl (AZ 0 (Fg g116 Bl) (hRS.any.sub_ (Nat.zero_le _) hk) rfl A0 Ba rfl (by omega) rfl rfl rfl Ck (by(try simp only[length_singleton,length_nil,length_append,length_take,length_drop,nil_append]);omega) (by(try simp only[length_singleton,length_nil,length_append,length_take,length_drop,nil_append]);omega) rfl rfl rfl (λv6 m6 hO6=>Qw (Qo 15 rfl (AZ 0 hO6 (hRS.any.sub_ hkS (Nat.le_refl _)) rfl A0 Ba rfl (by omega) rfl rfl rfl Ck (by(try simp only[length_singleton,length_nil,length_append,length_take,length_drop,nil_append]);omega) (by(try simp only[length_singleton,length_nil,length_append,length_take,length_drop,nil_append]);omega) rfl rfl rfl (λv7 m7 hO7=>Qw (Qo 16 rfl (Qm rfl (Qw (Qe ?_))))))))))
      have heq:[]++(S.drop 0).take (k-0)++(S.drop (k+1)).take (S.length-(k+1))=S.eraseIdx k:=by rw[drop_zero,Nat.sub_zero,take_of_length_le (l:=S.drop (k+1)) (by rw[length_drop];exact Nat.le_refl _),List.eraseIdx_eq_take_drop_succ];rfl
      rw[heq]at hO7;refine Ab ?_;have ov7:=hO7.o1;refine Aw (Qm Y (Qm Y (Qx (AR Y call169 Y (CG λh' hl hm=>RH all (S.eraseIdx k) es v3 v7 h' (by omega) (hSrt.mono _) (hR3.up hl) (hEs.up hl) (hO7.rdh (hm _ Mh)) [])) Y (Qm Y (Qm Y (Qm Y (Qm Y (Qm Y (Ap (Q5 ?_))))))))));obtain⟨n,hn⟩:∃n,(C4 all (S.eraseIdx k)).1=n:=⟨_,Y⟩
      have hnl:n<=all.length:=by rw[<-hn];exact IE _ _
      have hrs:=Sg all S k;rw[hn]at hrs ⊢;have hrl:=Iz all S k;refine Ad (Qf Bs rfl (Ql rfl BQ (Cell.blk 1 rfl rfl) (Qm rfl (Qx (oA rfl) rfl (Qm rfl (Qx (Cf rfl rfl rfl (by omega) (by omega)) rfl (Qx (oM rfl) rfl (Qx (oS rfl) rfl ?_))))))));refine Qx (Bm Vw [.int .i64 0,.int .i64 0] [(0,_),(1,_)] [_,_] rfl AQ rfl rfl (by repeat (first|exact trivial|refine⟨⟨rfl,rfl,rfl⟩,?_⟩|refine⟨⟨((hO.rd (h:=h) (ms:=[m3]) Mh).rd).cells,rfl,rfl⟩,?_⟩)) rfl) rfl ?_;refine Ar [_,_] rfl BQ AQ rfl (by rfl) rfl rfl (by omega) rfl rfl rfl (λg147=>?_);refine AZ 1 hOS (RdL.one Ek (x:=((n:Int)+1,1-2*((k:Int)%2))) Mh rfl) rfl BQ AQ rfl (by omega) rfl rfl rfl Gx (by rw[Iz];(try simp only[length_singleton]);omega) (by rw[Iz];(try simp only[length_singleton]);omega) rfl rfl rfl (λv9 m9 hO9=>?_);rw[<-hrs]at hO9;have ov9:=hO9.o1;refine Qf Bs rfl ?_;refine Af 2 _ rfl Sq rfl rfl (by assumption) rfl rfl (by(simp;done)) rfl rfl ?_;refine An (Ak (Ab (Ad (Qm rfl (Qx (oA rfl) rfl (Qm rfl (An (Bd 0 rfl ?_))))))));exact Am (S.length-(k+1)) _ (by omega) ⟨k+1,v9,m9,rfl,rfl,rfl,rfl,by omega,λq=>by omega,hO9⟩ Qs
     ·have hS1:S.length<=1:=by omega
      refine Ay (Aa (Aa (Ag ?_)));exact Ao _ ⟨vS,mS,Y,Y,Y,by rw[if_pos hS1];have:=hk0 hS1;subst this;exact hOS⟩ Qs
    ·have hkS:k=S.length:=by omega
     subst hkS;refine Qk Y (Qk Y (Qk Y (Qm Y (Ap (AV Y (Ay (Aa (Aa (Ag ?_)))))))))
     exact Ao _ ⟨vS,mS,Y,Y,Y,by
      split
      ·rename_i h1;have:=hk0 h1;rw[this]at hOS;exact hOS
      ·exact hOS⟩ Qs
   ·obtain⟨vS,mS,rfl,rfl,rfl,hOS⟩:=hI;obtain⟨rw,hrw⟩:∃rw,(if S.length<=1 then [] else NW all S S.length)=rw:=⟨_,rfl⟩
    have hrl:rw.length<=9:=by
     rw[<-hrw];split
     ·simp
     ·rw[Iz];exact hS9
    rw[hrw]at hOS
    have hcell:DL all j=⟨(j:Int)+1,D,Cd rw⟩:=by unfold DL;rw[hgd,hD,<-hrw];split<;>rfl
    refine Bt λh5 l5 k5=>?_;have hRw:=hOS.rdh (ms:=[]) k5;have ovS2:=hRw.rd.one;refine Aw (Qf Bs Y (Ql Y BQ (Cell.blk 0 Y Y) (Qc call170 Y (Oe rw vS h5 (by omega) hRw) (λrs h6 ms2 l6 hF=>?_))));obtain⟨rfl,m9,rfl,hO9⟩:=hF;refine AN λh6 l6 k6=>?_;have hR9:=hO9.rdh (ms:=[]) k6;have ov9:=hR9.rd.one;have hAl:A.length=j:=by have:=congrArg List.length hA;simpa using this
    let ce:Ce:=⟨⟨(j:Int)+1,D,Cd rw⟩,rs⟩
    refine Qf Bs Y ?_;refine Af 0 _ Y Sq Y Y (by assumption) Y Y (by(simp;done)) rfl rfl ?_;refine GH (Qf B3 Y (Ql Y A9 (Cell.blk 2 Y Y) (Qx (oG Y D1 AL (Seg.blk 0 Y)) Y (Ar [_,_,_] Y A9 AL Y (by rfl) Y Y (by omega) Y Y Y (λg157=>?_)))));refine A6 2 hOA (RdL.one Cc (x:=ce) Mh Y) Y A9 AL Y (by omega) Y Y Y (C5 (l:=[ce]) (h:=h6) λy hy=>by rw[List.mem_singleton.1 hy];exact hR9) (by(try simp only[length_singleton]);omega) (by(try simp only[length_singleton]);omega) rfl rfl rfl (λvA2 mA2 hOA2=>?_);have ovA2:=hOA2.o1;refine Qf B3 Y ?_;refine Af 3 _ Y IK Y Y (by assumption) Y Y (by(simp;done)) rfl rfl ?_;refine An (Ak (Ab (Ad (Qm Y (Qx (oA Y) Y (Qm Y (An (Bd 0 Y (Bd 0 Y ?_)))))))))
    exact Am (all.length-(j+1)) _ (by omega) ⟨j+1,vA2,mA2,A++[ce],Y,Y,AI l4 (AI l5 l6),Y,by omega,hOA2,by rw[map_append,hA,range_succ,map_append];congr 1;simp[ce,hcell],λa ha=>by
     rcases List.mem_append.1 ha with h|h
     ·exact(hSd a h).up (AI l5 l6)
     ·rw[List.mem_singleton.1 h];exact hR9⟩ Qs
  ·obtain rfl:j=all.length:=by omega
   have ovA:=hOA.o1;refine Ay (Aa (Aa (Ag (Ab (Aw (Qx (oG Y BJ AO (Seg.blk 1 Y)) Y ?_))))));refine Sa 2 [_] AO Y (by simp[o1,ov3,ovA]) ?_;refine Ap (Aq (Bd 1 Y ?_));exact BB (vs:=[_]) 1 Y Y BJ Y AO Y Y (⟨AI lh (AI l2 l4),mA,A,_,Y,Y,hOA,by rw[hA,hsF],hSd⟩)
end Go.Proofs.Q

namespace Go.Proofs.Q
open Go.Eng Go.RowKit
theorem RdEs.snoc{h:Hp}{es:List Value}{ll:List (List Int)}(H:RdEs h es ll){v:Value}{t:List Int}(hv:RdL cI 1 h [] v t):RdEs h (es++[v]) (ll++[t]):=by have:=H.ins hv ll.length (Nat.le_refl _);rw[take_of_length_le (by rw[H.1];exact Nat.le_refl _),take_length,List.drop_of_length_le (by rw[H.1];exact Nat.le_refl _),List.drop_length]at this;exact this
structure RgtF(o:List Cl):Prop where
 n:o.length<=4000
 inc:o.Pairwise λa b=>a.id<b.id
 pos:∀x∈o,1<=x.id
 can:∀x∈o,∃y:Cl,x=y.can
 fst:∀x∈o,Cr o x=0
 snd:∀x∈o,2<=x.dim->DP o x=0
theorem SC(l:List Cl):(ordF l).length=l.length:=by rw[(Dc l.length l (Nat.le_refl _)).length_eq,length_map]
theorem RgtF.bds{o:List Cl}(R:RgtF o){x:Cl}(hx:x∈o):(0<=x.dim/\x.dim<=8)/\x.sd.length<=64/\∀r∈x.sd,r.2=1\/r.2=-1:=by obtain⟨h1,h2,_,h4⟩:=EJ (R.fst x hx);refine⟨h1,h2,λr hr=>?_⟩;obtain⟨i,hi,rfl⟩:=List.mem_iff_getElem.1 hr;have:=h4 i hi;unfold BT at this;rw[Bp hi]at this;omega
variable {a b c:Int} {x:Cl} {l:List Int} {m n:Nat}
abbrev Gd:=List (Int×Int×Int)
def Eb(T:Gd)(c:Int):Int:=(T.map λe=>if e.2.1=c then e.2.2 else 0).sum
def Fq(T:Gd)(c:Int):Int:=(T.map λe=>if e.2.1=c then(1:Int) else 0).sum
inductive Con (T:Gd):Int->Int->Prop
 | refl (a:Int):Con T a a
 | step {a b d c w w':Int}:Con T a b->(b,c,w)∈T->(d,c,w')∈T->Con T a d
theorem Con.trans{T:Gd}(h:Con T a b)(h':Con T b c):Con T a c:=by
 induction h' with
 | refl=>exact h
 | step _ h1 h2 ih=>exact .step ih h1 h2
theorem Con.symm{T:Gd}(h:Con T a b):Con T b a:=by
 induction h with
 | refl=>exact .refl _
 | step _ h1 h2 ih=>exact(Con.step (.refl _) h2 h1).trans ih
theorem Con.mono{T T':Gd}(hs:∀e∈T,e∈T')(h:Con T a b):Con T' a b:=by
 induction h with
 | refl=>exact .refl _
 | step _ h1 h2 ih=>exact .step ih (hs _ h1) (hs _ h2)
theorem Con.in{T:Gd}(h:Con T a b):a=b\/((∃c w,(a,c,w)∈T)/\∃c w,(b,c,w)∈T):=by
 induction h with
 | refl=>exact .inl Y
 | step _ h1 h2 ih=>
  rcases ih with rfl|ih
  ·exact .inr ⟨⟨_,_,h1⟩,_,_,h2⟩
  ·exact .inr ⟨ih.1,_,_,h2⟩
theorem Con.snoc{T:Gd}{i f w:Int}(hf:f=i/\(∀g w',(g,c,w') ∉ T)\/∃w',(f,c,w')∈T):Con (T++[(i,c,w)]) a b<->Con T a b\/(Con T a i/\Con T f b)\/(Con T a f/\Con T i b):=by
 have hsub:∀e∈T,e∈T++[(i,c,w)]:=λe he=>mem_append_left _ he;have hi:(i,c,w)∈T++[(i,c,w)]:=mem_append_right _ Mh
 have hfi:Con (T++[(i,c,w)]) i f:=by
  rcases hf with ⟨rfl,_⟩|⟨w',h⟩
  ·exact .refl _
  ·exact .step (.refl _) hi (hsub _ h)
 constructor
 ·intro h
  induction h with
  | refl=>exact .inl (.refl _)
  | @step b d c' w1 w2 _ h1 h2 ih=>
   -- the last step
   have key:∀{b d},(b,c',w1)∈T++[(i,c,w)]->(d,c',w2)∈T++[(i,c,w)]->Con T b d\/(Con T b i/\Con T f d)\/(Con T b f/\Con T i d):=λ{b d} h1 h2=>by
    rcases List.mem_append.1 h1 with g1|g1<;>rcases List.mem_append.1 h2 with g2|g2
    ·exact .inl (.step (.refl _) g1 g2)
    ·obtain⟨e1,e2,e3⟩:d=i/\c'=c/\w2=w:=by simpa using g2
     rcases hf with ⟨_,hn⟩|⟨w',h⟩
     ·exact absurd (e2 ▸ g1) (hn _ _)
     ·rw[e1];exact .inr (.inr ⟨.step (.refl _) (e2 ▸ g1) h,.refl _⟩)
    ·obtain⟨e1,e2,e3⟩:b=i/\c'=c/\w1=w:=by simpa using g1
     rcases hf with ⟨_,hn⟩|⟨w',h⟩
     ·exact absurd (e2 ▸ g2) (hn _ _)
     ·rw[e1];exact .inr (.inl ⟨.refl _,.step (.refl _) h (e2 ▸ g2)⟩)
    ·obtain⟨e1,_⟩:b=i/\c'=c/\w1=w:=by simpa using g1
     obtain⟨e2,_⟩:d=i/\c'=c/\w2=w:=by simpa using g2
     rw[e1,e2];exact .inl (.refl _)
   have k:=key h1 h2;rcases ih with ih|⟨i1,i2⟩|⟨i1,i2⟩
   ·rcases k with k|⟨k1,k2⟩|⟨k1,k2⟩
    ·exact .inl (ih.trans k)
    ·exact .inr (.inl ⟨ih.trans k1,k2⟩)
    ·exact .inr (.inr ⟨ih.trans k1,k2⟩)
   ·rcases k with k|⟨k1,k2⟩|⟨k1,k2⟩
    ·exact .inr (.inl ⟨i1,i2.trans k⟩)
    ·exact .inr (.inl ⟨i1,k2⟩)
    ·exact .inl (i1.trans k2)
   ·rcases k with k|⟨k1,k2⟩|⟨k1,k2⟩
    ·exact .inr (.inr ⟨i1,i2.trans k⟩)
    ·exact .inl (i1.trans k2)
    ·exact .inr (.inr ⟨i1,k2⟩)
 ·rintro(h|⟨h1,h2⟩|⟨h1,h2⟩)
  ·exact h.mono hsub
  ·exact(h1.mono hsub).trans (hfi.trans (h2.mono hsub))
  ·exact(h1.mono hsub).trans (hfi.symm.trans (h2.mono hsub))
theorem LF(T:Gd)(e:Int×Int×Int)(c:Int):Eb (T++[e]) c=Eb T c+if e.2.1=c then e.2.2 else 0:=by simp[Eb]
theorem Ta(T:Gd)(e:Int×Int×Int)(c:Int):Fq (T++[e]) c=Fq T c+if e.2.1=c then 1 else 0:=by simp[Fq]
theorem Ly{T:Gd}(h:∀e∈T,e.2.1≠c):Eb T c=0/\Fq T c=0:=by
 induction T with
 | nil=>exact⟨Y,Y⟩
 | cons e T ih=>
  obtain⟨h1,h2⟩:=ih λe he=>h e (mem_cons_of_mem _ he);have h3:=h e Mh;unfold Eb at *;unfold Fq at *;simp only[map_cons,sum_cons,if_neg h3,h1,h2];exact⟨Y,Y⟩
theorem Ko{x:Int}:Eh (a::l) x=if a=x then 0 else Eh l x+1:=by
 unfold Eh;rw[List.takeWhile_cons];by_cases e:a=x
 ·simp[e]
 ·simp[e]
theorem SU{x:Int}{k:Nat}(hk:Eh l x=k)(h:k<l.length):l[k]=x:=by
 induction l generalizing k with
 | nil=>simp at h
 | cons a l ih=>
  rw[Ko]at hk;split at hk
  ·subst hk;assumption
  ·subst hk;rw[List.getElem_cons_succ];exact ih Y (by simpa using h)
theorem SO{x:Int}(h:Eh l x=l.length):x ∉ l:=by
 induction l with
 | nil=>simp
 | cons a l ih=>
  rw[Ko]at h;split at h
  ·simp at h
  ·rename_i e;rw[mem_cons];rintro(rfl|h1)
   ·exact e Y
   ·exact ih (by simpa using h) h1
theorem Hn{α:Type}{l:List α}(h:l.Nodup){i j:Nat}(hi:i<l.length)(hj:j<l.length)(e:l[i]=l[j]):i=j:=by
 have h1:=List.pairwise_iff_getElem.1 h;rcases Nat.lt_trichotomy i j with h2|h2|h2
 ·exact absurd e (h1 i j hi hj h2)
 ·exact h2
 ·exact absurd e.symm (h1 j i hj hi h2)
structure S2.Inv(S:S2)(x:Cl)(T:Gd)(m n:Nat):Prop where
 nd:S.ids.Nodup
 mem:∀c,c∈S.ids<->∃a w,(a,c,w)∈T
 ls:S.su.length=S.ids.length
 lm:S.ma.length=S.ids.length
 lf:S.fi.length=S.ids.length
 lp:S.pa.length=n
 su:∀k (hk:k<S.ids.length),S.su.getD k 0=Eb T S.ids[k]
 ma:∀k (hk:k<S.ids.length),S.ma.getD k 0=Fq T S.ids[k]
 fi:∀k (hk:k<S.ids.length),∃j:Nat,j<m/\S.fi.getD k 0=(j:Int)/\∃w,((Bv x j).1,S.ids[k],w)∈T
 pl:∀j,j<m->0<=S.pa.getD j 0/\S.pa.getD j 0<m
 pc:∀j j',j<m->j'<m->(S.pa.getD j 0=S.pa.getD j' 0<->Con T (Bv x j).1 (Bv x j').1)
 fr:∀e∈T,∃j:Nat,j<m/\e.1=(Bv x j).1
theorem H5(l:List Int)(k j:Nat)(y:Int)(hk:k<l.length):(l.set k y).getD j 0=if j=k then y else l.getD j 0:=by
 simp only[List.getD_eq_getElem?_getD,List.getElem?_set];by_cases e:k=j
 ·subst e;simp[hk]
 ·simp[e,Ne.symm e]
theorem Ht(l:List Int)(j:Nat)(y:Int):(l++[y]).getD j 0=if j=l.length then y else l.getD j 0:=by
 simp only[List.getD_eq_getElem?_getD];rcases Nat.lt_trichotomy j l.length with h|h|h
 ·rw[List.getElem?_append_left h,if_neg (by omega)]
 ·subst h;simp
 ·rw[if_neg (by omega),List.getElem?_eq_none (by simp;omega),List.getElem?_eq_none (by omega)]
theorem Th(pa:List Int)(m:Nat)(now old:Int)(j:Nat)(hm:m<=pa.length)(hj:j<m):(Fe pa m now old).getD j 0=if pa.getD j 0=now then old else pa.getD j 0:=by
 have h1:j<pa.length:=by omega
 have h2:j<(Fe pa m now old).length:=by rw[Db];exact h1
 simp only[List.getD_eq_getElem?_getD,List.getElem?_eq_getElem h1,List.getElem?_eq_getElem h2,Option.getD_some];rw[EO h1];simp[hj]
theorem S2.Inv.start{S:S2}{T:Gd}(I:S.Inv x T m n)(hm:m<n)(hd:∀j,j<m->(Bv x j).1≠(Bv x m).1):(S.start m).Inv x T (m+1) n:=by
 have hp:=I.lp;have hg:∀j,(S.pa.set m (m:Int)).getD j 0=if j=m then(m:Int) else S.pa.getD j 0:=λj=>H5 _ _ _ _ (by omega)
 have hnew:∀j,j<m->¬Con T (Bv x j).1 (Bv x m).1:=λj hj h=>by
  rcases h.in with h|⟨_,c,w,h⟩
  ·exact hd j hj h
  ·obtain⟨j',hj',e⟩:=I.fr _ h;exact hd j' hj' e.symm
 refine⟨I.nd,I.mem,I.ls,I.lm,I.lf,by show(List.set _ _ _).length=n;rw[length_set];exact hp,I.su,I.ma,λk hk=>?_,λj hj=>?_,λj j' hj hj'=>?_,λe he=>?_⟩
 ·obtain⟨j,h1,h2⟩:=I.fi k hk;exact⟨j,by omega,h2⟩
 ·show 0<=(S.pa.set m (m:Int)).getD j 0/\(S.pa.set m (m:Int)).getD j 0<((m+1:Nat):Int);rw[hg];split
  ·omega
  ·have:=I.pl j (by omega);omega
 ·show(S.pa.set m (m:Int)).getD j 0=(S.pa.set m (m:Int)).getD j' 0<->_;rw[hg,hg];by_cases e:j=m<;>by_cases e':j'=m
  ·subst e;subst e';exact⟨λ_=>.refl _,λ_=>rfl⟩
  ·subst e;rw[if_pos rfl,if_neg e'];have:=I.pl j' (by omega);exact⟨λh=>by omega,λh=>absurd h.symm (hnew j' (by omega))⟩
  ·subst e';rw[if_neg e,if_pos rfl];have:=I.pl j (by omega);exact⟨λh=>by omega,λh=>absurd h (hnew j (by omega))⟩
  ·rw[if_neg e,if_neg e'];exact I.pc j j' (by omega) (by omega)
 ·obtain⟨j,h1,h2⟩:=I.fr e he;exact⟨j,by omega,h2⟩
theorem S2.Inv.side{S:S2}{T:Gd}(I:S.Inv x T (m+1) n)(hm:m<n)(w:Int)(r:Int×Int):(S.side m w r).Inv x (T++[((Bv x m).1,r.1,w*r.2)]) (m+1) n:=by
 have hp:=I.lp
 -- the place of the id,in the state after add
 obtain⟨k,hk⟩:∃k,Eh S.ids r.1=k:=⟨_,Y⟩
 obtain⟨U,hU⟩:∃U,S.add m r.1=U:=⟨_,Y⟩
 have A:U.pa=S.pa/\U.ids.Nodup/\(∀c,c∈U.ids<->c=r.1\/∃a w,(a,c,w)∈T)/\U.su.length=U.ids.length/\U.ma.length=U.ids.length/\U.fi.length=U.ids.length/\(∀k (hk:k<U.ids.length),U.su.getD k 0=Eb T U.ids[k])/\(∀k (hk:k<U.ids.length),U.ma.getD k 0=Fq T U.ids[k])/\(∃hk:k<U.ids.length,U.ids[k]=r.1) ∧
   (∀k' (hk':k'<U.ids.length),k'≠k->∃j:Nat,j<m+1/\U.fi.getD k' 0=(j:Int)/\∃w,((Bv x j).1,U.ids[k'],w)∈T) ∧
   ∃f:Nat,f<m+1/\U.fi.getD k 0=(f:Int)/\((Bv x f).1=(Bv x m).1/\f=m/\(∀g w',(g,r.1,w') ∉ T)\/∃w',((Bv x f).1,r.1,w')∈T):=by
  subst hU;unfold S2.add;by_cases h:Eh S.ids r.1=S.ids.length
  ·have hn:=SO h;have hnT:∀g w',(g,r.1,w') ∉ T:=λg w' hg=>hn ((I.mem _).2 ⟨g,w',hg⟩);have h0:Eb T r.1=0/\Fq T r.1=0:=Ly λe he q=>hnT e.1 e.2.2 (by rw[<-q];exact he);rw[if_pos h];have hkl:k=S.ids.length:=by omega
   have hget:∀k' (hk':k'<(S.ids++[r.1]).length),(S.ids++[r.1])[k']=if h:k'<S.ids.length then S.ids[k'] else r.1:=λk' hk'=>by
    by_cases h1:k'<S.ids.length
    ·rw[dif_pos h1,List.getElem_append_left h1]
    ·rw[dif_neg h1,getElem_append_right (by omega)];simp
   refine⟨Y,?_,λc=>?_,by simp[I.ls],by simp[I.lm],by simp[I.lf],λk' hk'=>?_,λk' hk'=>?_,⟨by show k<(S.ids++[r.1]).length;simp;omega,?_⟩,λk' hk' hne=>?_,m,by omega,?_,.inl ⟨rfl,rfl,hnT⟩⟩
   ·exact List.nodup_append.2 ⟨I.nd,by simp,λa ha b hb e=>by rw[List.mem_singleton.1 hb]at e;exact hn (e ▸ ha)⟩
   ·show c∈S.ids++[r.1]<->_;rw[mem_append,mem_singleton,I.mem];exact⟨λh=>h.symm,λh=>h.symm⟩
   ·have hk'':k'<S.ids.length+1:=by have:k'<(S.ids++[r.1]).length:=hk';simpa using this
    show(S.su++[0]).getD k' 0=Eb T (S.ids++[r.1])[k'];rw[Ht,hget k' hk',I.ls];by_cases h1:k'<S.ids.length
    ·rw[if_neg (by omega),dif_pos h1];exact I.su k' h1
    ·rw[if_pos (by omega),dif_neg h1,h0.1]
   ·have hk'':k'<S.ids.length+1:=by have:k'<(S.ids++[r.1]).length:=hk';simpa using this
    show(S.ma++[0]).getD k' 0=Fq T (S.ids++[r.1])[k'];rw[Ht,hget k' hk',I.lm];by_cases h1:k'<S.ids.length
    ·rw[if_neg (by omega),dif_pos h1];exact I.ma k' h1
    ·rw[if_pos (by omega),dif_neg h1,h0.2]
   ·show(S.ids++[r.1])[k]'_=r.1;rw[hget,dif_neg (by omega)]
   ·have hk'':k'<S.ids.length+1:=by have:k'<(S.ids++[r.1]).length:=hk';simpa using this
    obtain⟨j,h1,h2,h3⟩:=I.fi k' (by omega);refine⟨j,h1,?_,?_⟩
    ·show(S.fi++[(m:Int)]).getD k' 0=j;rw[Ht,I.lf,if_neg (by omega)];exact h2
    ·show ∃w,(_,(S.ids++[r.1])[k']'hk',w)∈T;rw[hget k' hk',dif_pos (show k'<S.ids.length by omega)];exact h3
   ·show(S.fi++[(m:Int)]).getD k 0=(m:Int);rw[Ht,I.lf,if_pos hkl]
  ·have hle:=NA S.ids r.1;have hkl:k<S.ids.length:=by omega
   have hge:S.ids[k]=r.1:=SU hk hkl;have hin:r.1∈S.ids:=by rw[<-hge];exact getElem_mem hkl
   rw[if_neg h];obtain⟨f,f1,f2,f3⟩:=I.fi k hkl;refine⟨Y,I.nd,λc=>?_,I.ls,I.lm,I.lf,I.su,I.ma,⟨hkl,hge⟩,λk' hk' _=>I.fi k' hk',f,f1,f2,.inr (by rw[hge]at f3;exact f3)⟩;rw[I.mem];refine⟨.inr,λh=>?_⟩;rcases h with rfl|h
   ·exact(I.mem _).1 hin
   ·exact h
 obtain⟨a1,a2,a3,a4,a5,a6,a7,a8,⟨a9,a10⟩,a11,f,f1,f2,f3⟩:=A;have hS:S.side m w r=U.hit m k (w*r.2):=by unfold S2.side;rw[hU,hk]
 rw[hS]
 have hcf:∀{a b},Con (T++[((Bv x m).1,r.1,w*r.2)]) a b<->_:=λ{a b}=>Con.snoc (a:=a) (b:=b) (T:=T) (i:=(Bv x m).1) (f:=(Bv x f).1) (c:=r.1) (w:=w*r.2) (by
  rcases f3 with ⟨h1,_,h2⟩|h
  ·exact .inl ⟨h1,h2⟩
  ·exact .inr h)
 have hrel:∀j,j<m+1->(Fe U.pa (m+1) (U.pa.getD m 0) (U.pa.getD (U.fi.getD k 0).toNat 0)).getD j 0=if S.pa.getD j 0=S.pa.getD m 0 then S.pa.getD f 0 else S.pa.getD j 0:=λj hj=>by rw[Th _ _ _ _ _ (by rw[a1];omega) hj,a1,f2,Int.toNat_natCast]
 refine⟨a2,λc=>?_,by show(List.set _ _ _).length=_;rw[length_set];exact a4,by show(List.set _ _ _).length=_;rw[length_set];exact a5,a6,by show(Fe _ _ _ _).length=n;rw[Db,a1];exact hp,λk' hk0=>?_,λk' hk0=>?_,λk' hk0=>?_,λj hj=>?_,λj j' hj hj'=>?_,λe he=>?_⟩
 ·show c∈U.ids<->_;rw[a3];constructor
  ·rintro(rfl|⟨a,w',h⟩)
   ·exact⟨_,_,mem_append_right _ Mh⟩
   ·exact⟨a,w',mem_append_left _ h⟩
  ·rintro⟨a,w',h⟩;rcases List.mem_append.1 h with h|h
   ·exact .inr ⟨a,w',h⟩
   ·have:=List.mem_singleton.1 h;exact .inl (congrArg (λe:Int×Int×Int=>e.2.1) this)
 ·have hk':k'<U.ids.length:=hk0;show(U.su.set k (U.su.getD k 0+w*r.2)).getD k' 0=Eb _ (U.ids[k']'hk');rw[H5 _ _ _ _ (by omega),LF];by_cases e:k'=k
  ·subst e;rw[if_pos rfl,a7 k' hk',a10];simp
  ·have:¬r.1=U.ids[k']'hk':=λh=>e (Hn a2 hk' a9 (by rw[a10];exact h.symm));rw[if_neg e,a7 k' hk',if_neg this,Int.add_zero]
 ·have hk':k'<U.ids.length:=hk0;show(U.ma.set k (U.ma.getD k 0+1)).getD k' 0=Fq _ (U.ids[k']'hk');rw[H5 _ _ _ _ (by omega),Ta];by_cases e:k'=k
  ·subst e;rw[if_pos rfl,a8 k' hk',a10];simp
  ·have:¬r.1=U.ids[k']'hk':=λh=>e (Hn a2 hk' a9 (by rw[a10];exact h.symm));rw[if_neg e,a8 k' hk',if_neg this,Int.add_zero]
 ·have hk':k'<U.ids.length:=hk0;show ∃j:Nat,j<m+1/\U.fi.getD k' 0=(j:Int)/\∃w',((Bv x j).1,U.ids[k']'hk',w')∈_;by_cases e:k'=k
  ·subst e;refine⟨f,f1,f2,?_⟩;rw[a10];rcases f3 with ⟨h1,_,_⟩|⟨w',h⟩
   ·exact⟨w*r.2,by rw[h1];exact mem_append_right _ Mh⟩
   ·exact⟨w',mem_append_left _ h⟩
  ·obtain⟨j,j1,j2,w',j3⟩:=a11 k' hk' e;exact⟨j,j1,j2,w',mem_append_left _ j3⟩
 ·show 0<=(Fe _ _ _ _).getD j 0/\(Fe _ _ _ _).getD j 0<_;rw[hrel j hj];have:=I.pl j hj;have:=I.pl f f1;split<;>omega
 ·show(Fe _ _ _ _).getD j 0=(Fe _ _ _ _).getD j' 0<->_;rw[hrel j hj,hrel j' hj',hcf,<-I.pc j j' hj hj',<-I.pc j m hj (by omega),<-I.pc f j' f1 hj',<-I.pc j f hj f1,<-I.pc m j' (by omega) hj'];split<;>split<;>omega
 ·rcases List.mem_append.1 he with h|h
  ·exact I.fr e h
  ·rw[List.mem_singleton.1 h];exact⟨m,by omega,Y⟩
theorem S2.Inv.sides(hm:m<n)(w:Int):∀(l:List (Int×Int)) (S:S2) (T:Gd),S.Inv x T (m+1) n->(S.sides m w l).Inv x (T++l.map λr=>((Bv x m).1,r.1,w*r.2)) (m+1) n
 | [],S,T,I=>by rw[List.map_nil,append_nil];exact I
 | r::l,S,T,I=>by have:=S2.Inv.sides hm w l (S.side m w r) _ (I.side hm w r);rw[List.append_assoc]at this;exact this
def Lr(l:List Cl)(x:Cl)(m:Nat):Gd:=(range m).flatMap λi=>(Fk l x i).sd.map λr=>((Bv x i).1,r.1,(Bv x i).2*r.2)
theorem So(l:List Cl)(x:Cl)(m:Nat):Lr l x (m+1)=Lr l x m++(Fk l x m).sd.map λr=>((Bv x m).1,r.1,(Bv x m).2*r.2):=by unfold Lr;rw[range_succ,List.flatMap_append];simp
theorem NJ{l:List Cl}(hd:∀j m,j<m->m<x.sd.length->(Bv x j).1≠(Bv x m).1):∀m,m<=x.sd.length->(G1 l x m).Inv x (Lr l x m) m x.sd.length
 | 0,_=>⟨by show List.Nodup [];simp,λc=>⟨λh=>by simp[G1]at h,λ⟨a,w,h⟩=>by simp[Lr]at h⟩,rfl,rfl,rfl,by simp[G1],λk hk=>absurd hk (Nat.not_lt_zero _),λk hk=>absurd hk (Nat.not_lt_zero _),λk hk=>absurd hk (Nat.not_lt_zero _),λj hj=>by omega,λj j' hj=>by omega,λe he=>by simp[Lr]at he⟩
 | m+1,h=>by rw[So];exact S2.Inv.sides (by omega) _ _ _ _ ((NJ hd m (by omega)).start (by omega) λj hj=>hd j m hj (by omega))
structure GoodT(T:Gd)(s:List (Int×Int)):Prop where
 sum:∀e∈T,Eb T e.2.1=0
 two:∀e∈T,Fq T e.2.1=2
 con:∀a∈s,∀b∈s,Con T a.1 b.1
theorem IX{l:List Cl}(hd:∀j m,j<m->m<x.sd.length->(Bv x j).1≠(Bv x m).1):DP l x=0<->GoodT (Lr l x x.sd.length) x.sd:=by
 have I:=NJ (l:=l) hd x.sd.length (Nat.le_refl _);obtain⟨S,hS⟩:∃S,G1 l x x.sd.length=S:=⟨_,Y⟩
 obtain⟨T,hT⟩:∃T,Lr l x x.sd.length=T:=⟨_,Y⟩
 rw[hS,hT]at I;rw[hT];have hget:∀{L:List Int} {j:Nat} (hj:j<L.length),L[j]=L.getD j 0:=λ{L j} hj=>by simp[List.getD,hj]
 have h1:(∀y∈S.su,y=0)<->∀e∈T,Eb T e.2.1=0:=by
  constructor
  ·intro h e he;obtain⟨k,hk,e1⟩:=getElem_of_mem ((I.mem e.2.1).2 ⟨e.1,e.2.2,he⟩);have h2:=I.su k hk;rw[e1]at h2;rw[<-h2,<-hget (by rw[I.ls];exact hk)];exact h _ (getElem_mem _)
  ·intro h y hy;obtain⟨k,hk,rfl⟩:=getElem_of_mem hy;have hk':k<S.ids.length:=by rw[<-I.ls];exact hk
   rw[hget hk,I.su k hk'];obtain⟨a,w,h2⟩:=(I.mem _).1 (getElem_mem hk');exact h _ h2
 have h2:(∀y∈S.ma,y=2)<->∀e∈T,Fq T e.2.1=2:=by
  constructor
  ·intro h e he;obtain⟨k,hk,e1⟩:=getElem_of_mem ((I.mem e.2.1).2 ⟨e.1,e.2.2,he⟩);have h2:=I.ma k hk;rw[e1]at h2;rw[<-h2,<-hget (by rw[I.lm];exact hk)];exact h _ (getElem_mem _)
  ·intro h y hy;obtain⟨k,hk,rfl⟩:=getElem_of_mem hy;have hk':k<S.ids.length:=by rw[<-I.lm];exact hk
   rw[hget hk,I.ma k hk'];obtain⟨a,w,h2⟩:=(I.mem _).1 (getElem_mem hk');exact h _ h2
 have h3:(∀y∈S.pa,y=S.pa.getD 0 0)<->∀a∈x.sd,∀b∈x.sd,Con T a.1 b.1:=by
  constructor
  ·intro h a ha b hb;obtain⟨j,hj,rfl⟩:=getElem_of_mem ha;obtain⟨j',hj',rfl⟩:=getElem_of_mem hb;have e1:S.pa.getD j 0=S.pa.getD 0 0:=by rw[<-hget (by rw[I.lp];exact hj)];exact h _ (getElem_mem _)
   have e2:S.pa.getD j' 0=S.pa.getD 0 0:=by rw[<-hget (by rw[I.lp];exact hj')];exact h _ (getElem_mem _)
   have:=(I.pc j j' hj hj').1 (by rw[e1,e2])
   rwa [Bp hj,Bp hj']at this
  ·intro h y hy;obtain⟨j,hj,rfl⟩:=getElem_of_mem hy;rw[hget hj];rw[I.lp]at hj;refine(I.pc j 0 hj (by omega)).2 ?_;rw[Bp hj,Bp (by omega)];exact h _ (getElem_mem _) _ (getElem_mem _)
 unfold DP;rw[hS];constructor
 ·intro h;split at h
  ·exact absurd h (by decide)
  ·rename_i g1;split at h
   ·exact absurd h (by decide)
   ·rename_i g2;split at h
    ·exact absurd h (by decide)
    ·rename_i g3;exact⟨h1.1 (Classical.not_not.1 g1),h2.1 (Classical.not_not.1 g2),h3.1 (Classical.not_not.1 g3)⟩
 ·rintro⟨g1,g2,g3⟩;rw[if_neg (λq=>q (h1.2 g1)),if_neg (λq=>q (h2.2 g2)),if_neg (λq=>q (h3.2 g3))]
end Go.Proofs.Q

namespace Go.Proofs.Q
open Go.Eng Go.RowKit
theorem RdC.snoc'{h:Hp}{A:List Ce}(hA:∀a∈A,RdL cD 2 h [] a.v a.c.sd){c:Ce}(hc:RdL cD 2 h [] c.v c.c.sd):∀a∈A++[c],RdL cD 2 h [] a.v a.c.sd:=λa ha=>by
 rcases List.mem_append.1 ha with h|h
 ·exact hA a h
 ·rw[List.mem_singleton.1 h];exact hc
theorem Js:∀(ll acc all:List (List Int)),acc.length<=4000->Cz acc ll=some all->all.length<=4000
 | [],acc,all,h,e=>by have:acc=all:=Option.some.inj e;rw[<-this];exact h
 | l::ll,acc,all,h,e=>by
  rw[DC]at e;split at e
  ·cases e
  ·exact Js ll _ all (by omega) e
theorem U1(ll:List (List Int)):(Eg ll).length<=4000/\∀c∈Eg ll,(-1<=c.dim/\c.dim<=8)/\c.sd.length<=9:=by
 unfold Eg;cases h:Cz [] ll with
 | none=>exact⟨by simp,λc hc=>nomatch hc⟩
 | some all=>
  have h9:=E1 ll [] all List.Pairwise.nil (λt ht=>nomatch ht) h;refine⟨by simpa using Js ll [] all (by simp) h,λc hc=>?_⟩;obtain⟨i,hi,rfl⟩:=List.mem_map.1 hc;have hil:=List.mem_range.1 hi
  have hl:(all.getD i []).length<=9:=by
   have:all.getD i []=all[i]:=by simp[List.getD,hil]
   rw[this];exact h9 _ (getElem_mem hil)
  refine⟨?_,?_⟩
  ·show -1<=((all.getD i []).length:Int)-1/\((all.getD i []).length:Int)-1<=8;omega
  ·show(if(all.getD i []).length<=1 then [] else Cd _).length<=9;split
   ·simp
   ·rw[Gm,length_map,List.length_range];exact hl
def P8(h:Hp)(r:Value)(ms:List Hp)(Q:List Cl->Prop):Prop:=∃m A v',ms=[m]/\r=.agg #[v']/\OwnL cC 3 52 m v' A/\Q (A.map Ce.c)/\∀a∈A,RdL cD 2 h [] a.v a.c.sd
variable {o l:List Cl} {x y:Cl} {α β:Type}
def H7(l:List Cl)(c:Int):Option Cl:=l.find? λy=>decide (y.id=c)
def FZ(l:List Cl)(c:Int):Cl:=(H7 l c).getD default
theorem Dh(hn:(l.map Cl.id).Nodup)(hy:y∈l):H7 l y.id=some y:=by
 unfold H7
 induction l with
 | nil=>cases hy
 | cons a l ih=>
  rw[map_cons,List.nodup_cons]at hn;rw[List.find?_cons];rcases List.mem_cons.1 hy with rfl|h
  ·simp
  ·have:¬a.id=y.id:=λe=>hn.1 (List.mem_map.2 ⟨y,h,e.symm⟩);simp only[this,decide_false];exact ih hn.2 h
theorem CS(hn:(l.map Cl.id).Nodup)(hy:y∈l):FZ l y.id=y:=by unfold FZ;rw[Dh hn hy];rfl
def Kh(L:Int->List (Int×Int))(s:List (Int×Int)):Gd:=s.flatMap λa=>(L a.1).map λr=>(a.1,r.1,a.2*r.2)
def Fy(l:List Cl)(x:Cl):Gd:=Kh (λc=>(FZ l c).sd) x.sd
structure Rgt(l:List Cl):Prop where
 n:l.length<=4000
 nd:(l.map Cl.id).Nodup
 pos:∀x∈l,1<=x.id
 dim:∀x∈l,0<=x.dim/\x.dim<=8
 num:∀x∈l,¬B0 x
 sds:∀x∈l,(x.sd.map Prod.fst).Nodup
 sid:∀x∈l,∀s∈x.sd,∃y∈l,y.id=s.1/\y.dim=x.dim-1
 sgn:∀x∈l,∀s∈x.sd,s.2=1\/s.2=-1
 one:∀x∈l,x.dim=1->(x.sd.map Prod.snd).sum=0
 tab:∀x∈l,2<=x.dim->GoodT (Fy l x) x.sd
theorem Rgt.nil:Rgt []:=⟨by simp,by simp,nofun,nofun,nofun,nofun,nofun,nofun,nofun,nofun⟩
theorem Ir{l l':List Int}(h:l.Perm l'):l.sum=l'.sum:=by
 induction h with
 | nil=>rfl
 | cons x _ ih=>simp only[sum_cons,ih]
 | swap x y l=>simp only[sum_cons];omega
 | trans _ _ h1 h2=>exact h1.trans h2
theorem GoodT.perm{T T':Gd}{s s':List (Int×Int)}(h:T.Perm T')(hs:s.Perm s')(G:GoodT T s):GoodT T' s' where
 sum:=λe he=>by exact(Ir (h.map _).symm).trans (G.sum e (h.mem_iff.2 he))
 two:=λe he=>by exact(Ir (h.map _).symm).trans (G.two e (h.mem_iff.2 he))
 con:=λa ha b hb=>(G.con a (hs.mem_iff.2 ha) b (hs.mem_iff.2 hb)).mono λe he=>h.mem_iff.1 he
theorem HD{f g:α->List β}:∀{l:List α},(∀a∈l,(f a).Perm (g a))->(l.flatMap f).Perm (l.flatMap g)
 | [],_=>List.Perm.refl _
 | a::l,h=>by rw[flatMap_cons,flatMap_cons];exact(h a Mh).append (HD λb hb=>h b (mem_cons_of_mem _ hb))
theorem DW{f g:α->List β}:∀{l:List α},(∀a∈l,f a=g a)->l.flatMap f=l.flatMap g
 | [],_=>rfl
 | a::l,h=>by rw[flatMap_cons,flatMap_cons,h a Mh,DW λb hb=>h b (mem_cons_of_mem _ hb)]
theorem IJ{f g:α->List β}{l l':List α}(h:l.Perm l')(hf:∀a∈l,(f a).Perm (g a)):(l.flatMap f).Perm (l'.flatMap g):=(HD hf).trans (h.flatMap_right g)
theorem Tf(x:Int×Int)(l:List (Int×Int)):(H4 x l).Perm (x::l):=by unfold H4;refine List.perm_middle.trans ?_;rw[List.takeWhile_append_dropWhile]
theorem BY(l:List (Int×Int)):(Cd l).Perm l:=by
 have go:∀(l acc:List (Int×Int)),(l.foldl (λacc x=>H4 x acc) acc).Perm (acc++l):=λl=>by
  induction l with
  | nil=>intro acc;rw[append_nil];exact List.Perm.refl _
  | cons x l ih=>
   intro acc;rw[List.foldl_cons];refine(ih _).trans (((Tf x acc).append_right l).trans ?_);exact List.perm_middle.symm
 exact go l []
structure SimC(l l':List Cl):Prop where
 len:l'.length=l.length
 ids:(l'.map Cl.id).Perm (l.map Cl.id)
 mem:∀x'∈l',∃x∈l,x'.id=x.id/\x'.dim=x.dim/\x'.sd.Perm x.sd
theorem SimC.to{l':List Cl}(S:SimC l l')(hn:(l.map Cl.id).Nodup)(hx:x∈l):∃x'∈l',x'.id=x.id/\x'.dim=x.dim/\x'.sd.Perm x.sd:=by
 obtain⟨x',h1,h2⟩:=List.mem_map.1 (S.ids.mem_iff.2 (List.mem_map.2 ⟨x,hx,Y⟩));obtain⟨y,h3,h4,h5,h6⟩:=S.mem x' h1
 have:y=x:=by have a:=Dh hn h3;have b:=Dh hn hx;rw[<-h4,h2,b]at a;exact(Option.some.inj a).symm
 subst this;exact⟨x',h1,h4,h5,h6⟩
theorem Rgt.sim{l':List Cl}(R:Rgt l)(S:SimC l l'):Rgt l':=by
 have hn':(l'.map Cl.id).Nodup:=S.ids.nodup_iff.2 R.nd
 have hnum:∀{x x':Cl},x'.dim=x.dim->x'.sd.Perm x.sd->¬B0 x->¬B0 x':=λ{x x'} h1 h2 h h3=>by unfold B0 at *;rw[h1,h2.length_eq]at h3;exact h h3
 refine⟨by rw[S.len];exact R.n,hn',λx' hx'=>?_,λx' hx'=>?_,λx' hx'=>?_,λx' hx'=>?_,λx' hx' s hs=>?_,λx' hx' s hs=>?_,λx' hx' hd=>?_,λx' hx' hd=>?_⟩<;>obtain⟨x,hx,e1,e2,e3⟩:=S.mem x' hx'
 ·rw[e1];exact R.pos x hx
 ·rw[e2];exact R.dim x hx
 ·exact hnum e2 e3 (R.num x hx)
 ·exact(e3.map _).nodup_iff.2 (R.sds x hx)
 ·obtain⟨y,hy,h1,h2⟩:=R.sid x hx s (e3.mem_iff.1 hs);obtain⟨y',hy',h3,h4,_⟩:=S.to R.nd hy;exact⟨y',hy',by rw[h3,h1],by rw[h4,h2,e2]⟩
 ·exact R.sgn x hx s (e3.mem_iff.1 hs)
 ·rw[Ir (e3.map _)];exact R.one x hx (by rw[<-e2];exact hd)
 ·refine(R.tab x hx (by rw[<-e2];exact hd)).perm ?_ e3.symm;unfold Fy Kh;refine IJ e3.symm λs hs=>List.Perm.map _ ?_;obtain⟨y,hy,h1,h2⟩:=R.sid x hx s hs;obtain⟨y',hy',h3,h4,h5⟩:=S.to R.nd hy;show(FZ l s.1).sd.Perm (FZ l' s.1).sd;rw[<-h1,CS R.nd hy,<-h3,CS hn' hy'];exact h5.symm
theorem Ss(l:List Cl):SimC l (ordF l):=by have hp:=Dc l.length l (Nat.le_refl _);refine⟨by rw[hp.length_eq,length_map],(hp.map Cl.id).trans (by rw[map_map];exact List.Perm.refl _),λx' hx'=>?_⟩;obtain⟨x,hx,rfl⟩:=G7 hx';exact⟨x,hx,Y,Y,BY _⟩
theorem MZ(h:o.Pairwise λa b=>a.id<b.id):(o.map Cl.id).Nodup:=List.pairwise_map.2 (h.imp λh e=>by omega)
theorem Hw(hi:o.Pairwise λa b=>a.id<b.id)(hy:y∈o):0<=I1 o y.id/\o.getD (I1 o y.id).toNat default=y:=by
 obtain⟨k,hk,rfl⟩:=getElem_of_mem hy;have hc:KC o o[k].id=k:=NM (by omega) (λj hj hjk=>List.pairwise_iff_getElem.1 hi j k hj hk hjk) (λ_=>by omega)
 have e:I1 o o[k].id=(k:Int):=by unfold I1;rw[dif_pos (by rw[hc];exact hk)];simp only[hc,if_pos]
 rw[e];refine⟨by omega,?_⟩;rw[Int.toNat_natCast];simp[List.getD,hk]
theorem RV{c:Int}(h:0<=I1 o c):∃y∈o,y.id=c/\o.getD (I1 o c).toNat default=y:=by
 unfold I1 at *;split at h
 ·rename_i h1;rw[dif_pos h1];split at h
  ·rename_i h2;rw[if_pos h2,Int.toNat_natCast];exact⟨_,getElem_mem h1,h2,by simp[List.getD,h1]⟩
  ·exact absurd h (by decide)
 ·exact absurd h (by decide)
theorem Rl{l:List (Int×Int)}(h:l.length=2):(l.map Prod.snd).sum=(l.getD 0 (0,0)).2+(l.getD 1 (0,0)).2:=by
 match l,h with
 | [a,b],_=>simp
theorem If{x:Int×Int}:∀{l:List (Int×Int)},(l.Pairwise λa b=>a.1<=b.1)->∀y∈l.dropWhile (λy=>decide (y.1<=x.1)),x.1<y.1
 | [],_,y,hy=>by cases hy
 | a::l,h,y,hy=>by
  rw[List.dropWhile_cons]at hy;split at hy
  ·exact If (List.pairwise_cons.1 h).2 y hy
  ·rename_i h1;have h1:¬a.1<=x.1:=by simpa using h1
   rcases List.mem_cons.1 hy with rfl|h2
   ·omega
   ·have:=(List.pairwise_cons.1 h).1 y h2;omega
theorem Vt{x:Int×Int}{l:List (Int×Int)}(h:l.Pairwise λa b=>a.1<=b.1):(H4 x l).Pairwise λa b=>a.1<=b.1:=by
 unfold H4
 have h1:∀y∈l.takeWhile (λy=>decide (y.1<=x.1)),y.1<=x.1:=λy hy=>by have:=List.all_takeWhile (p:=λy:Int×Int=>decide (y.1<=x.1)) (l:=l);have:=List.all_eq_true.1 this y hy;simpa using this
 have h2:=If (x:=x) h;refine List.pairwise_append.2 ⟨h.sublist (List.takeWhile_sublist _),List.pairwise_cons.2 ⟨λy hy=>by have:=h2 y hy;omega,h.sublist (List.dropWhile_sublist _)⟩,λa ha b hb=>?_⟩;have h3:=h1 a ha;rcases List.mem_cons.1 hb with rfl|hb
 ·exact h3
 ·have:=h2 b hb;omega
theorem E8(l:List (Int×Int)):(Cd l).Pairwise λa b=>a.1<=b.1:=by
 have go:∀(l acc:List (Int×Int)),(acc.Pairwise λa b=>a.1<=b.1)->(l.foldl (λacc x=>H4 x acc) acc).Pairwise λa b=>a.1<=b.1:=λl=>by
  induction l with
  | nil=>intro acc h;exact h
  | cons x l ih=>intro acc h;rw[List.foldl_cons];exact ih _ (Vt h)
 exact go l [] List.Pairwise.nil
theorem Ra(hi:o.Pairwise λa b=>a.id<b.id)(hs:∀s∈x.sd,∃y∈o,y.id=s.1):Lr o x x.sd.length=Fy o x:=by
 have hx:x.sd=(range x.sd.length).map (Bv x):=List.ext_getElem (by simp) λj h1 h2=>by simp[Bp h1]
 unfold Fy Kh
 conv=>rhs;rw[hx]
 unfold Lr;rw[List.flatMap_map];refine DW λj hj=>?_;have hj:=List.mem_range.1 hj;obtain⟨y,hy,e⟩:=hs (Bv x j) (by rw[Bp hj];exact getElem_mem hj);have h1:Fk o x j=y:=by unfold Fk;rw[<-e];exact(Hw hi hy).2
 have h2:FZ o (Bv x j).1=y:=by rw[<-e];exact CS (MZ hi) hy
 show _=List.map (λr=>((Bv x j).1,r.1,(Bv x j).2*r.2)) (FZ o (Bv x j).1).sd;rw[h1,h2]
theorem RI(hi:o.Pairwise λa b=>a.id<b.id)(hc:∃y:Cl,x=y.can):(∀i,i<x.sd.length->¬CF o x i)<->(∀s∈x.sd,∃y∈o,y.id=s.1/\y.dim=x.dim-1)/\(x.sd.map Prod.fst).Nodup:=by
 have hs:x.sd.Pairwise λa b=>a.1<=b.1:=by obtain⟨y,rfl⟩:=hc;exact E8 _
 constructor
 ·intro h;refine⟨λs hs=>?_,?_⟩
  ·obtain⟨i,hi',rfl⟩:=getElem_of_mem hs;have h1:=h i hi';unfold CF at h1;rw[Bp hi']at h1;have h2:0<=I1 o x.sd[i].1:=Int.not_lt.1 λq=>h1 (.inl q);obtain⟨y,hy,e1,e2⟩:=RV h2;rw[e2]at h1;exact⟨y,hy,e1,Classical.byContradiction λq=>h1 (.inr (.inl q))⟩
  ·refine List.pairwise_map.2 (List.pairwise_iff_getElem.2 λi j hi' hj hij e=>?_);have h1:=h (i+1) (by omega);unfold CF at h1;rw[Bp (by omega),Nat.add_sub_cancel,Bp hi']at h1;refine h1 (.inr (.inr ⟨by omega,?_⟩));have a1:=List.pairwise_iff_getElem.1 hs i (i+1) hi' (by omega) (by omega);rcases (by omega:i+1=j\/i+1<j) with rfl|q
   ·omega
   ·have a2:=List.pairwise_iff_getElem.1 hs (i+1) j (by omega) hj q;omega
 ·rintro⟨h1,h2⟩ i hi' h3;unfold CF at h3;rw[Bp hi']at h3;obtain⟨y,hy,e1,e2⟩:=h1 _ (getElem_mem hi');obtain⟨a1,a2⟩:=Hw hi hy;rw[e1]at a1 a2;rcases h3 with h3|h3|⟨h3,h4⟩
  ·omega
  ·rw[a2]at h3;exact h3 e2
  ·rw[Bp (show i-1<x.sd.length by omega)]at h4;have:=List.pairwise_iff_getElem.1 (List.pairwise_map.1 h2) (i-1) i (by omega) hi' (by omega);exact this h4.symm
theorem IC(h:(x.sd.map Prod.fst).Nodup):∀j m,j<m->m<x.sd.length->(Bv x j).1≠(Bv x m).1:=λj m hjm hm=>by rw[Bp (by omega),Bp hm];exact List.pairwise_iff_getElem.1 (List.pairwise_map.1 h) j m (by omega) hm hjm
theorem RgtF.rgt(R:RgtF o):Rgt o:=by
 have hf:=λx hx=>EJ (R.fst x hx)
 have hnum:∀x∈o,¬B0 x:=λx hx q=>by have:=R.fst x hx;unfold Cr at this;rw[if_neg (by have:=(hf x hx).1;omega),if_pos q]at this;exact absurd this (by decide)
 have hb:=λx hx=>(RI R.inc (R.can x hx)).1 (hf x hx).2.2.1;have hsg:∀x∈o,∀s∈x.sd,s.2=1\/s.2=-1:=λx hx=>(R.bds hx).2.2;refine⟨R.n,MZ R.inc,R.pos,λx hx=>(hf x hx).1,hnum,λx hx=>(hb x hx).2,λx hx=>(hb x hx).1,hsg,λx hx hd=>?_,λx hx hd=>?_⟩
 ·have hl:x.sd.length=2:=Classical.byContradiction λq=>hnum x hx (.inr (.inl ⟨hd,q⟩));rw[Rl hl];have h1:=hsg x hx _ (getElem_mem (show 0<x.sd.length by omega));have h2:=hsg x hx _ (getElem_mem (show 1<x.sd.length by omega));have h3:=R.fst x hx;unfold Cr at h3;rw[if_neg (by have:=(hf x hx).1;omega),if_neg (hnum x hx),if_neg (λq=>q (hf x hx).2.2.1),if_neg (λq=>q (hf x hx).2.2.2)]at h3;rw[<-Bp]at h1 h2;have h4:¬(Bv x 0).2=(Bv x 1).2:=λq=>by rw[if_pos ⟨hd,q⟩]at h3;exact absurd h3 (by decide)
  show(Bv x 0).2+(Bv x 1).2=0;omega
 ·have h1:=(IX (IC (hb x hx).2)).1 (R.snd x hx hd)
  rwa [Ra R.inc λs hs=>by obtain⟨y,hy,e,_⟩:=(hb x hx).1 s hs;exact⟨y,hy,e⟩]at h1
theorem Rgt.ordF(R:Rgt l):RgtF (ordF l):=by
 have R':=R.sim (Ss l);have hle:=Dx l.length l (Nat.le_refl _);have hinc:(Go.Proofs.Q.ordF l).Pairwise λa b=>a.id<b.id:=(hle.and (List.pairwise_map.1 R'.nd)).imp λh=>by omega
 have hcan:∀x∈Go.Proofs.Q.ordF l,∃y:Cl,x=y.can:=λx hx=>by obtain⟨a,_,e⟩:=G7 hx;exact⟨a,e⟩
 refine⟨R'.n,hinc,R'.pos,hcan,λx hx=>?_,λx hx hd=>?_⟩
 ·have hb:=(RI hinc (hcan x hx)).2 ⟨R'.sid x hx,R'.sds x hx⟩
  have hsg:∀i,i<x.sd.length->¬BT x i:=λi hi q=>by unfold BT at q;rw[Bp hi]at q;have:=R'.sgn x hx _ (getElem_mem hi);omega
  unfold Cr;rw[if_neg (by have:=R'.dim x hx;omega),if_neg (R'.num x hx),if_neg (λq=>q hb),if_neg (λq=>q hsg)];by_cases hd:x.dim=1
  ·have hl:x.sd.length=2:=Classical.byContradiction λq=>R'.num x hx (.inr (.inl ⟨hd,q⟩));have h1:=R'.one x hx hd;rw[Rl hl]at h1;have h2:=R'.sgn x hx _ (getElem_mem (show 0<x.sd.length by omega));rw[<-Bp]at h2;have h3:(Bv x 0).2+(Bv x 1).2=0:=h1;rw[if_neg (λq=>by have:=q.2;omega)]
  ·rw[if_neg (λq=>hd q.1)]
 ·refine(IX (IC (R'.sds x hx))).2 ?_;rw[Ra hinc λs hs=>by obtain⟨y,hy,e,_⟩:=R'.sid x hx s hs;exact⟨y,hy,e⟩];exact R'.tab x hx hd
end Go.Proofs.Q
namespace Go.Proofs.Q
open Go.Proofs.Tryz
open Go.Eng Go.RowKit
variable {l o:List Cl} {v:Value} {oi:List CeO}
structure CanO(l o:List Cl):Prop where
 ids:(o.map Cl.id).Perm (l.map Cl.id)
 inc:o.Pairwise λa b=>a.id<=b.id
 mem:∃l':List Cl,l'.Perm l/\o.length=l'.length/\∀i (h:i<o.length) (h':i<l'.length),o[i].id=l'[i].id/\o[i].dim=l'[i].dim/\o[i].sd.Perm l'[i].sd/\o[i].sd.Pairwise λa b=>a.1<=b.1
theorem CanO.len(C:CanO l o):o.length=l.length:=by obtain⟨l',h1,h2,_⟩:=C.mem;rw[h2,h1.length_eq]
theorem CanO.sim(C:CanO l o):SimC l o:=by obtain⟨l',h1,h2,h3⟩:=C.mem;refine⟨C.len,C.ids,λx' hx'=>?_⟩;obtain⟨i,hi,rfl⟩:=getElem_of_mem hx';obtain⟨a,b,c,_⟩:=h3 i hi (by omega);exact⟨_,h1.mem_iff.1 (getElem_mem (by omega)),a,b,c⟩
theorem Dr{α:Type}(k:α->Int):∀{l l':List α},l.Perm l'->(l.Pairwise λa b=>k a<=k b)->(l'.Pairwise λa b=>k a<k b)->l=l'
 | [],l',h,_,_=>(List.nil_perm.1 h).symm
 | a::l,[],h,_,_=>absurd h.length_eq (by simp)
 | a::l,b::l',h,h1,h2=>by
  obtain⟨h3,h4⟩:=List.pairwise_cons.1 h1;obtain⟨h5,h6⟩:=List.pairwise_cons.1 h2;have hb:b∈a::l:=h.mem_iff.2 Mh;have ha:a∈b::l':=h.mem_iff.1 Mh
  have e:a=b:=by
   rcases List.mem_cons.1 ha with e|ha
   ·exact e
   ·have g1:=h5 a ha;rcases List.mem_cons.1 hb with e|hb
    ·exact e.symm
    ·have g2:=h3 b hb;omega
  subst e;rw[Dr k ((List.perm_cons a).1 h) h4 h6]
theorem RgtF.sinc(R:RgtF o):∀x∈o,x.sd.Pairwise λa b=>a.1<b.1:=λx hx=>by
 obtain⟨y,e⟩:=R.can x hx;have h1:x.sd.Pairwise λa b=>a.1<=b.1:=by rw[e];exact E8 _
 have h2:=List.pairwise_map.1 (R.rgt.sds x hx);exact(h1.and h2).imp λh=>by omega
theorem exO:∀{l:List Ce},(∀a∈l,a.v.oneCell'=true)->∃lo:List CeO,lo.map (λe=>(⟨e.c,e.v⟩:Ce))=l
 | [],_=>⟨[],rfl⟩
 | a::l,h=>by obtain⟨lo,e⟩:=exO λb hb=>h b (mem_cons_of_mem _ hb);exact⟨⟨a.c,a.v,h a Mh⟩::lo,by rw[map_cons,e]⟩
def KO(e:CeO):Ce:=⟨e.c,e.v⟩
theorem I5(lo:List CeO):(lo.map KO).flatMap cC=lo.flatMap HI:=by rw[List.flatMap_map];rfl
theorem ZL{lo:List CeO}{h:Hp}{ms:List Hp}(R:RdL cC 3 h ms v (lo.map KO)):RdL HI 3 h ms v lo:=⟨by have:=R.rd;rwa [I5,length_map]at this,J2⟩
theorem UQ{lo:List CeO}{m:Hp}(O:OwnL HI 3 52 m v lo):OwnL cC 3 52 m v (lo.map KO):=⟨by have:=O.own;rwa [I5,length_map],Cc⟩
def StpO(o oi:List CeO)(i:Nat):Prop:=oi.length=o.length/\∀j (h:j<oi.length) (h':j<o.length),oi[j].c.id=o[j].c.id/\oi[j].c.dim=o[j].c.dim/\oi[j].c.sd.Perm o[j].c.sd/\(j<i->oi[j].c.sd.Pairwise λa b=>a.1<=b.1)
theorem StpO.start(o:List CeO):StpO o o 0:=⟨rfl,λj h h'=>⟨rfl,rfl,List.Perm.refl _,λq=>absurd q (by omega)⟩⟩
theorem StpO.step{o:List CeO}{i:Nat}(S:StpO o oi i)(hi:i<oi.length){s:List (Int×Int)}(hp:s.Perm oi[i].c.sd)(hs:s.Pairwise λa b=>a.1<=b.1){hv:v.oneCell'=true}:StpO o (oi.set i ⟨⟨oi[i].c.id,oi[i].c.dim,s⟩,v,hv⟩) (i+1):=by
 refine⟨by rw[length_set];exact S.1,λj h h'=>?_⟩;rw[length_set]at h;obtain⟨a,b,c,d⟩:=S.2 j h h';by_cases e:i=j
 ·subst e;simp only[List.getElem_set_self];exact⟨a,b,hp.trans c,λ_=>hs⟩
 ·simp only[List.getElem_set_ne e];exact⟨a,b,c,λq=>d (by omega)⟩
theorem StpO.can{o:List CeO}(S:StpO o oi o.length)(hp:(o.map CeO.c).Perm l)(hi:o.Pairwise λa b=>a.c.id<=b.c.id):CanO l (oi.map CeO.c):=by
 have hl:=S.1
 have hid:(oi.map CeO.c).map Cl.id=(o.map CeO.c).map Cl.id:=List.ext_getElem (by simp[hl]) λi h1 h2=>by simp only[getElem_map];exact(S.2 i (by simpa using h1) (by simpa using h2)).1
 refine⟨by rw[hid];exact hp.map _,?_,o.map CeO.c,hp,by simp[hl],λi h h'=>?_⟩
 ·refine List.pairwise_map.2 ?_;rw[List.pairwise_iff_getElem]at hi ⊢;intro i j h1 h2 hij;have:=hi i j (by omega) (by omega) hij;have e1:=(S.2 i h1 (by omega)).1;have e2:=(S.2 j h2 (by omega)).1;omega
 ·rw[length_map]at h h';simp only[getElem_map];obtain⟨a,b,c,d⟩:=S.2 i h h';exact⟨a,b,c,d h'⟩
theorem Wi{i:Nat}{a b:CeO}(h:a∈oi.set i b):a=b\/a∈oi:=(List.mem_or_eq_of_mem_set h).symm
theorem Jo(l:List Ce)(v:Value)(hp:Hp)(hn:l.length<=1000000)(hs:∀a∈l,a.c.sd.length<=1000000)(hR:RdC hp v l):FnT Tryz.prog 65 #[.agg #[v]] hp [] (λr h' ms'=>hp.le h'/\∃m A v',ms'=[m]/\r=.agg #[v']/\OwnL cC 3 52 m v' A/\CanO (l.map Ce.c) (A.map Ce.c)/\∀a∈A,RdL cD 2 h' [] a.v a.c.sd):=by
 have o1:=hR.q.rd.one;obtain⟨lo,e⟩:=exO (λa ha=>(hR.s a ha).rd.one);have e:lo.map KO=l:=e;refine Av func65 ntmps65 Y Y (λw0 hw0=>?_);simp only[A3];refine Aw (AY [_] Y Y (by rfl) Y Y Y (λg1=>By [.slice none 0 0] Y AO Y Y (λg2=>Ap (Bk 1 Y λh1 l1 hS=>?_))));have hR:=hR.up l1;have hA:=Seg.all hS;have c0:∀ms,Cell h1 ms (⟨g1,0,none⟩:Addr) v:=λms=>hA 0 _ Y ms;have hRo:RdL HI 3 h1 [] v lo:=ZL (by rw[e];exact hR.q);have hlo:lo.length=l.length:=by rw[<-e,length_map]
 refine Aw (Qf B3 Y (Ql Y A9 (c0 _) (Qc call134 Y (Px lo v h1 hRo (by omega)) (λr h2 ms2 l2 hF=>?_))));obtain⟨l2',m,o,rfl,hO,hP,hI⟩:=hF;have ovr:=hO.o1;have hol:o.length=l.length:=by rw[hP.length_eq,hlo]
 have hRs:∀a∈o,RdL cD 2 h2 [] a.v a.c.sd/\a.c.sd.length<=1000000:=λa ha=>by
  have:KO a∈l:=by rw[<-e];exact List.mem_map.2 ⟨a,hP.mem_iff.1 ha,Y⟩
  exact⟨(hR.s _ this).up l2,hs _ this⟩
 refine Qm Y (Ap (Ac (Aw (Qm Y (Qx (As (hO.rd Mh).rd Y A9 Y) Y (Qm Y (Ap (Ah ?_))))))))
 refine AD (λq sl h' ms'=>∃(i:Nat) (m:Hp) (oi:List CeO),q=o.length-i/\sl=[(2,.pointer (some ⟨g2,0,none⟩)),(3,r),(9,.int .i64 o.length),(10,.int .i64 i)]/\h2.le h'/\ms'=[m,Bw g2 29 [.slice none 0 0]]/\i<=o.length/\OwnL HI 3 52 m r oi/\StpO o oi i/\∀a∈oi,RdL cD 2 h' [] a.v a.c.sd/\a.c.sd.length<=1000000)
  (o.length-0) _ ⟨0,m,o,rfl,rfl,B8,rfl,by omega,hO,StpO.start o,hRs⟩ Qs ?_
 rintro q sl h3 ms' ⟨i,m,oi,rfl,rfl,l3,rfl,hi,hO,hSt,hRs⟩;have ovr:=hO.o1;have hoil:=hSt.1;refine Aw (Qm Y (Ap (Ac ?_)));refine Ax Y (λhlt=>?_) (λhlt=>?_)
 ·have hil:i<oi.length:=by omega
  obtain⟨hRi,hRn⟩:=hRs _ (getElem_mem hil);have c2:∀ms,m∈ms->Cell h3 ms (((AJ r).add (i*3)).add 2) oi[i].v:=λms hm=>(hO.rd hm).cell hil (f:=2) Y;have ovi:=hRi.rd.one;refine Aj (Ab (Ac (Ah (Aw (Qm Y (Qm Y (GH (Qm Y (Qm Y (Qm Y (Qm Y (Qx (AM (i) (hO.rd Mh).rd Y A9 AL Y Y (by omega) (by omega)) Y (Qf Bs Y (Ql Y BQ (c2 _ Mh) (Qc call136 Y (PW oi[i].c.sd oi[i].v h3 hRi hRn) (λrS h4 ms4 l4 hF=>?_))))))))))))))));obtain⟨l4',mS,s,rfl,hOS,hPS,hIS⟩:=hF;refine A5 hOS λh5 l5 hRS=>?_;have ovS:=hRS.rd.one;refine Qx (AM (i) (hO.rd Mh).rd Y A9 AL Y Y (by omega) (by omega)) Y (Qf Bs Y ?_);refine M7 0 i 2 ⟨⟨oi[i].c.id,oi[i].c.dim,s⟩,rS,ovS⟩ [rS] hO Y Sq Y Y hRS.rd.cells Y (λc hc=>by rw[List.mem_singleton.1 hc];exact ovS) Y hil (by omega) Y Y Y (λm' hO'=>?_);refine An (Ak (Ab (Ad (Qx (oA Y) Y (Qm Y (An ?_))))))
  exact Am (o.length-(i+1)) _ (by omega) ⟨i+1,m',_,Y,Y,AI l3 (AI l4 l5),Y,by omega,hO',hSt.step hil hPS hIS,λa ha=>by
   rcases Wi ha with rfl|ha
   ·exact⟨hRS,by show s.length<=_;rw[hPS.length_eq];exact hRn⟩
   ·exact⟨(hRs a ha).1.up (AI l4 l5),(hRs a ha).2⟩⟩ Qs
 ·obtain rfl:i=o.length:=by omega
  have hcan:CanO (l.map Ce.c) (oi.map CeO.c):=hSt.can (by rw[<-e,map_map];exact hP.map _) hI;have hOe:=UQ hO
  have hfin:∀a∈oi.map KO,RdL cD 2 h3 [] a.v a.c.sd:=λa ha=>by obtain⟨b,hb,rfl⟩:=List.mem_map.1 ha;exact(hRs b hb).1
  have hmm:(oi.map KO).map Ce.c=oi.map CeO.c:=by rw[map_map];rfl
  obtain⟨ar,cr,rfl,_⟩:=(hO.rd (h:=h3) (ms:=[m]) Mh).rd.ex;refine Ay (Aa (Aa (Ag (Ab (Aw (Qm Y (Qx (Bm XP [.slice none 0 0] [(0,_)] [_] Y AO Y Y Qt Y) Y ?_)))))));refine Sa 1 [_] AO Y (by simp[Value.oneCell']) ?_;refine Ap (Aq ?_);exact BB (vs:=[_]) 1 Y Y BJ Y AO Y Y (⟨AI l1 (AI l2 l3),m,oi.map KO,_,Y,Y,hOe,by rw[hmm];exact hcan,hfin⟩)
end Go.Proofs.Q
namespace Go.Proofs.Q
open Go.Proofs.Tryz
open Go.Eng Go.RowKit
def kN(a:Int):Value:=.int .i64 a
theorem Bh:Mz Tryz.prog 3 kN BP where
 law:=Maps.int_keyed U3
 inj:=λa b h=>by unfold kN at h;simpa using h
 key:=λb h=>⟨_,Maps.keyOf_int_mk U3 (WalkArith.wf_i64 h)⟩
def vC(a:Ce):Value:=.agg (cC a).toArray
theorem HK(w:World):(zeroValue 52).run Tryz.prog w=.ok (vC default) w:=by rfl
theorem FB{a h m:Hp}(hl:a.le h)(hd:h.disj m):a.disj m:=λg=>by
 rcases hd g with e|e
 ·left
  cases ha:a g with
  | none=>rfl
  | some o=>rw[hl g o ha]at e;cases e
 ·exact .inr e
def Pi(U:List Ce)(a:Ce):List Ce:=if a.c.id∈U.map (λb=>b.c.id) then U else U++[a]
def Qn(A:List Ce):List Ce:=A.foldl Pi []
theorem Uh{A:List Ce}{i:Nat}(hi:i<A.length):Qn (A.take (i+1))=Pi (Qn (A.take i)) A[i]:=by unfold Qn;rw[List.take_succ_eq_append_getElem hi,foldl_append];rfl
theorem JV:∀(A U:List Ce),∀a∈A.foldl Pi U,a∈U\/a∈A
 | [],U,a,h=>.inl h
 | b::A,U,a,h=>by
  rcases JV A (Pi U b) a h with h|h
  ·unfold Pi at h;split at h
   ·exact .inl h
   ·rcases List.mem_append.1 h with h|h
    ·exact .inl h
    ·rw[List.mem_singleton.1 h];exact .inr Mh
  ·exact .inr (mem_cons_of_mem _ h)
theorem QM:∀(A U:List Ce),((U++A).map λa=>a.c.id).Nodup->A.foldl Pi U=U++A
 | [],U,_=>by simp
 | a::A,U,h=>by
  have e:Pi U a=U++[a]:=by unfold Pi;rw[if_neg];intro hm;rw[map_append,List.nodup_append]at h;exact h.2.2 _ hm _ (by simp) rfl
  rw[List.foldl_cons,e,QM A (U++[a]) (by rwa [List.append_assoc])];simp
theorem Ur{A:List Ce}(h:(A.map λa=>a.c.id).Nodup):Qn A=A:=by have:=QM A [] (by simpa using h);simpa[Qn] using this
theorem VA:∀(A U:List Ce),(A.foldl Pi U).length<=U.length+A.length
 | [],U=>by simp
 | a::A,U=>by
  have h1:=VA A (Pi U a);have h2:(Pi U a).length<=U.length+1:=by unfold Pi;split<;>simp
  rw[List.foldl_cons,length_cons];omega
def E4(U:List Ce):List (Int×Ce):=U.map λa=>(a.c.id,a)
theorem NO(U:List Ce):(E4 U).map Prod.fst=U.map λa=>a.c.id:=by unfold E4;rw[map_map];rfl
theorem X7{U:List Ce}{i:Int}{b:Bool}(h:(Bj (E4 U) i).isSome=b):i∈U.map (λa=>a.c.id)<->b=true:=by
 subst h;rw[<-NO];constructor
 ·intro hm;cases hg:Bj (E4 U) i with
  | some _=>rfl
  | none=>
   exfalso;unfold Bj at hg;rw[Option.map_eq_none_iff,List.find?_eq_none]at hg;obtain⟨p,hp,e⟩:=List.mem_map.1 hm;have:=hg p hp;simp[e]at this
 ·intro hs;refine Classical.byContradiction λhm=>?_;rw[C7 hm]at hs;cases hs
def RdT(h:Hp)(g:Nat)(U:List Ce):Prop:=∃gm m bs vids,Seg h [] ⟨g,0,none⟩ [.map (some gm),vids]/\CC kN vC gm BP m (E4 U) bs/\m.le h/\RdL cI 1 h [] vids (U.map λa=>a.c.id)/\∀a∈U,RdL cD 2 h [] a.v a.c.sd
theorem RdT.up{h h':Hp}{g:Nat}{U:List Ce}(R:RdT h g U)(l:h.le h'):RdT h' g U:=by obtain⟨gm,m,bs,vids,h1,h2,h3,h4,h5⟩:=R;exact⟨gm,m,bs,vids,h1.le l,h2,AI h3 l,h4.up l,λa ha=>(h5 a ha).up l⟩
structure OfOk(l:List Ce):Prop where
 n:l.length<=1000000
 s:∀a∈l,a.c.sd.length<=1000000
 i:∀a∈l,BP a.c.id
theorem Y3(l:List Ce)(v:Value)(hp:Hp)(hK:OfOk l)(hR:RdC hp v l):FnT Tryz.prog 64 #[.agg #[v]] hp [] (λr h' ms'=>hp.le h'/\ms'=[]/\∃g A,r=.pointer (some ⟨g,0,none⟩)/\CanO (l.map Ce.c) (A.map Ce.c)/\RdT h' g (Qn A)):=by
 have o1:=hR.q.rd.one;refine Av func64 ntmps64 Y Y (λw0 hw0=>?_);simp only[A3];refine Aw (AY [_] Y Y (by rfl) Y Y Y (λg1=>Qm Y (Ap (AB λh1 l1 hS=>?_))));have hR:=hR.up l1;have hA:=Seg.all hS;refine BO (Aw (CX (K:=kN) (V:=vC) (Ok:=BP) Y Y Y Y (λgm mM hM=>Qx (Bm Aal [.map none,.slice none 0 0] [(0,_)] [_,_] Y AaN Y Y Qt Y) Y (AY [_,_] Y Y (by rfl) Y Y Y (λg10=>Qm Y (Ap (Ac (Aw (Qx (oG Y BJ AO (Seg.any hS)) Y (Qc call65 Y (Jo l v h1 hK.n hK.s hR) (λrC h2 ms2 l2 hF=>?_)))))))))));obtain⟨l2',mA,A,vA,rfl,rfl,hOA,hC,hsA⟩:=hF;refine A5 hOA λh3 l3 hQ=>?_;have hsA:=λa ha=>(hsA a ha).up l3;have ovA:=hQ.rd.one;have hAl:A.length=l.length:=by have:=hC.len;rwa [length_map,length_map]at this
 have hAn:A.length<=1000000:=by rw[hAl];exact hK.n
 refine Qx (Cp Y BJ Y A9 Y Y Y) Y (Qx (As hQ.rd.any Y A9 Y) Y (Qm Y (Ap (Ah ?_))))
 refine AD (λq sl h' ms'=>∃(i:Nat) (vI:Value) (mI mM:Hp) (bs:List Nat),q=A.length-i/\sl=[(3,.pointer (some ⟨g10,0,none⟩)),(13,vA),(14,.int .i64 A.length),(15,.int .i64 i)]/\h3.le h'/\ms'=[Bw g10 115 [.map (some gm),vI],mM,mI]/\i<=A.length/\CC kN vC gm BP mM (E4 (Qn (A.take i))) bs/\OwnL cI 1 3 mI vI ((Qn (A.take i)).map λa=>a.c.id))
  (A.length-0) _ ⟨0,_,Hp.emp,mM,[],rfl,rfl,B8,rfl,by omega,hM,OwnL.nil Bl⟩ Qs ?_
 rintro q sl h4 ms' ⟨i,vI,mI,mM,bs,rfl,rfl,l4,rfl,hi,hM,hOI⟩;have hQ:=hQ.up l4;refine Aw (Qm Y (Ap (Ac ?_)));refine Ax Y (λhlt=>?_) (λhlt=>?_)
 ·have hil:i<A.length:=by omega
  obtain⟨x,hx⟩:∃x,A[i]=x:=⟨_,Y⟩
  have hxm:x∈A:=by rw[<-hx];exact getElem_mem hil
  have hU:=Uh hil;rw[hx]at hU;obtain⟨U,hUe⟩:∃U,Qn (A.take i)=U:=⟨_,Y⟩
  rw[hUe]at hM hOI hU;have oxv:=(hsA x hxm).rd.one;have hsx:∀ms,Seg h4 ms ((AJ vA).add (i*3)) (cC x):=λms=>by rw[<-hx];exact(hQ.any (ms:=ms)).seg hil
  have ovI:=hOI.o1;obtain⟨bb,hbb⟩:∃bb,(Bj (E4 U) x.c.id).isSome=bb:=⟨_,Y⟩
  have hin:=X7 hbb;refine Aj (Ab ?_);refine A8 (λsl h' ms'=>∃(vI:Value) (mI mM:Hp) (bs:List Nat),sl=[(3,.pointer (some ⟨g10,0,none⟩)),(13,vA),(14,.int .i64 A.length),(15,.int .i64 i)]/\h4.le h'/\ms'=[Bw g10 115 [.map (some gm),vI],mM,mI]/\CC kN vC gm BP mM (E4 (Pi U x)) bs/\OwnL cI 1 3 mI vI ((Pi U x).map λa=>a.c.id)) ?_ (λs h ms hI=>?_)
  ·refine Ah (Aw (Qx (BH (i) hQ.rd.any Y A9 AL Y Y) Y (Qx (oG Y D1 AL (hsx _)) Y (By [.int .i64 0,.int .i64 0,.slice none 0 0] Y AL Y Y (λg5=>?_)))));refine Sa 0 [_,_,_] AL Y (by simp[o1,ovA,oxv,ovI]) ?_;refine Ap (AB λh5 l5 hS5=>?_);have e5:=Seg.all hS5;have e50:∀ms,Cell h5 ms (⟨g5,0,none⟩:Addr) (.int .i64 x.c.id):=λms=>e5 0 _ Y ms;refine Gn λh6 l6 lB dB LB=>(Gn λh7 l7 lM dM LM=>?_)
   have e10:=Seg.all (Seg.ofLe (AI lB l7));have e50':∀ms,Cell h7 ms (⟨g5,0,none⟩:Addr) (.int .i64 x.c.id):=λms=>(e50 ms).le (AI l6 l7);have e100:∀ms,Cell h7 ms (⟨g10,0,none⟩:Addr) (.map (some gm)):=λms=>e10 0 _ Y ms
   have hid:BP x.c.id:=by obtain⟨y,hy,e,_⟩:=hC.sim.mem x.c (List.mem_map.2 ⟨x,hxm,Y⟩);obtain⟨z,hz,rfl⟩:=List.mem_map.1 hy;rw[e];exact hK.i z hz
   obtain⟨y,hy⟩:∃y,(Bj (E4 U) x.c.id).getD default=y:=⟨_,Y⟩
   have oyv:y.v.oneCell'=true:=by
    rw[<-hy];cases hg:Bj (E4 U) x.c.id with
    | none=>rfl
    | some z=>
     unfold Bj at hg;obtain⟨p,hp,rfl⟩:=Option.map_eq_some_iff.1 hg;obtain⟨a,ha,rfl⟩:=List.mem_map.1 (List.mem_of_find?_eq_some hp);have ha:a∈Qn (A.take i):=by rw[hUe];exact ha
     rcases JV _ _ a ha with h|h
     ·cases h
     ·exact(hsA a (mem_of_mem_take h)).rd.one
   refine A8 (λsl h' ms'=>∃g6:Nat,sl=[(3,.pointer (some ⟨g10,0,none⟩)),(5,.pointer (some ⟨g5,0,none⟩)),(7,.bool bb),(13,vA),(14,.int .i64 A.length),(15,.int .i64 i)]/\h7=h'/\ms'=[Bw g6 52 (cC y),mI]) ?_ (λs h ms hI=>?_)
   ·refine BK (n:=13) (bs:=[true,true,true,true,true,true,true,true,true,true,false,false,false]) [true,true,true,true,true,true,true,true,true,true] CZ (by kernel_rfl) (by kernel_rfl) Y Y (Qq Y (Qq Y (QF DO Y (QL Y EY (e100 _) (QF Bq Y (QL Y U3 (e50' _) (Qp Y (DD (V:=vC) (z:=(default:Ce)) x.c.id hy hbb Bh hM lM Y EY HK Y Y hid) (Qq Y (Qq Y (Qq Y ?_))))))))));unfold FK;simp only[cons_append,nil_append];refine Qo 10 Y (By [.int .i64 0,.int .i64 0,.slice none 0 0] Y AL Y Y (λg6=>Qw (Qo 11 Y ?_)));refine Sa 0 [_,_,_] AL Y (by simp[o1,ovA,oxv,ovI,oyv]) ?_;refine Qw (Qo 12 Y (Qm Y (Qw (Qe ?_))));exact Ao _ ⟨g6,Y,Y,Y⟩ Qs
   ·obtain⟨g6,rfl,rfl,rfl⟩:=hI;refine Q5 (FI LM lM λh8 q8 b8=>?_);have lB8:(Bw g10 115 [.map (some gm),vI]).le h8:=b8 _ (AI lB l7) (FB lB dM);refine FI LB lB8 λh9 q9 b9=>?_;have l59:h5.le h9:=b9 _ (b8 _ (AI l6 l7) (FB l6 dM)) dB;have l39:h3.le h9:=AI l4 (AI l5 l59);have e50:∀ms,Cell h9 ms (⟨g5,0,none⟩:Addr) (.int .i64 x.c.id):=λms=>(e50 ms).le l59;have hS9:=hS5.le l59;refine Aw (Qm Y (Qm Y (Ap ?_)));refine Bz Y (λhn=>?_) (λhn=>?_)
    ·have hbf:bb=false:=by cases bb<;>simp at hn ⊢
     have hni:x.c.id ∉ U.map λa=>a.c.id:=λq=>by rw[hin.1 q]at hbf;cases hbf
     have hUU:Pi U x=U++[x]:=if_neg hni
     have hset:C0 (E4 U) x.c.id x=E4 (U++[x]):=by unfold C0;rw[if_neg (by rw[NO];exact hni)];unfold E4;rw[map_append];rfl
     have hUl:U.length<=i:=by rw[<-hUe];exact Nat.le_trans (VA _ []) (by simp;omega)
     rw[hUU];refine A8 (λsl h' ms'=>∃(mM:Hp) (bs:List Nat),sl=[(3,.pointer (some ⟨g10,0,none⟩)),(5,.pointer (some ⟨g5,0,none⟩)),(13,vA),(14,.int .i64 A.length),(15,.int .i64 i)]/\h9=h'/\ms'=[Bw g10 115 [.map (some gm),vI],mM,mI]/\CC kN vC gm BP mM (E4 (U++[x])) bs) ?_ (λs h ms hI=>?_)
     ·refine BK (n:=8) (bs:=[true,true,true,false,true,true,true,false]) [true,true,true,false,true,true,true] CZ (by kernel_rfl) (by kernel_rfl) Y Y (Qq Y (Qq Y (QF DO Y (QF Bq Y (QL Y U3 (e50 _) (Qp Y (oG Y D1 AL (Seg.any hS9)) ?_))))));unfold FK;simp only[cons_append,nil_append];refine Qo 3 Y (Ql Y EY (Cell.blk 0 Y Y) (Qw (Qo 7 Y (BS (V:=vC) (z:=undef) 1 x.c.id x Bh hM Y Y EY Y Y Y hid Y Y (λmM' bs' hM'=>Qw (Qe ?_))))));rw[hset]at hM';exact Ao _ ⟨mM',bs',Y,Y,Y,hM'⟩ Qs
     ·obtain⟨mM,bs,rfl,rfl,rfl,hM⟩:=hI;refine BK (n:=12) (bs:=[true,true,true,true,false,true,true,false,false,true,true,false]) [true,true,true,true,false,true,true,false,false,true,true] CZ (by kernel_rfl) (by kernel_rfl) Y Y (Qq Y (Qq Y (Qq Y (QF Ns Y (QF Bq Y (QL Y U3 (e50 _) (Qq Y (QF Ns Y ?_))))))));unfold FK;simp only[cons_append,nil_append];refine AG [4,7] (by kernel_rfl) Y ?_;refine Ai Y ?_ ?_
      ·refine Ql Y A0 (Cell.blk 0 Y Y) (Qw (Qo 7 Y (Ar [_] Y A0 Ba Y (by rfl) Y Y (by omega) Y Y Y (λg45=>Qw (Qo 8 Y (AZ 3 hOI (RdL.one Bl (x:=x.c.id) Mh Y) Y A0 Ba Y (by omega) Y Y Y Ck (by(try simp only[length_singleton,length_map]);omega) (by(try simp only[length_singleton,length_map]);omega) rfl rfl rfl (λvI2 mI2 hOI2=>?_)))))));have ovI2:=hOI2.o1;refine Qw (Qo 11 Y ?_);refine Af 1 _ Y Cw Y Y (by assumption) Y Y (by(simp;done)) rfl rfl ?_;refine Qw (Qe ?_);rw[show(U.map λa=>a.c.id)++[x.c.id]=(U++[x]).map λa=>a.c.id by rw[map_append];rfl]at hOI2;refine AS (Ak ?_);exact Ao _ ⟨vI2,mI2,mM,bs,Y,AI l5 l59,Y,hM,hOI2⟩ Qs
      refine Ai Y ?_ ?_
      ·refine Ar [_] Y A0 Ba Y (by rfl) Y Y (by omega) Y Y Y (λg45=>Qw (Qo 4 Y (Ql Y A0 (Cell.blk 1 Y Y) (Qw (Qo 8 Y (AZ 3 hOI (RdL.one Bl (x:=x.c.id) Mh Y) Y A0 Ba Y (by omega) Y Y Y Ck (by(try simp only[length_singleton,length_map]);omega) (by(try simp only[length_singleton,length_map]);omega) rfl rfl rfl (λvI2 mI2 hOI2=>?_)))))));have ovI2:=hOI2.o1;refine Qw (Qo 11 Y ?_);refine Af 1 _ Y Cw Y Y (by assumption) Y Y (by(simp;done)) rfl rfl ?_;refine Qw (Qe ?_);rw[show(U.map λa=>a.c.id)++[x.c.id]=(U++[x]).map λa=>a.c.id by rw[map_append];rfl]at hOI2;refine AS (Ak ?_);exact Ao _ ⟨vI2,mI2,mM,bs,Y,AI l5 l59,Y,hM,hOI2⟩ Qs
      exact AH
    ·have hbt:bb=true:=by cases bb<;>simp at hn ⊢
     have hUU:Pi U x=U:=if_pos (hin.2 hbt);rw[hUU];refine Aj (Ak ?_);exact Ao _ ⟨vI,mI,mM,bs,Y,AI l5 l59,Y,hM,hOI⟩ Qs
  ·obtain⟨vI,mI,mM,bs,rfl,k9,rfl,hM,hOI⟩:=hI;refine Ad (Qx (oA Y) Y (Qm Y (An ?_)));exact Am (A.length-(i+1)) _ (by omega) ⟨i+1,vI,mI,mM,bs,Y,Y,AI l4 k9,Y,by omega,by rw[hU];exact hM,by rw[hU];exact hOI⟩ Qs
 ·obtain rfl:i=A.length:=by omega
  rw[take_length]at hM hOI;refine Ay (Aa (Aa (Ag (Ab (Aw (Qm Y (Qm Y (Ap (Aq (HR λh5 l5 k5=>(HR λh6 l6 k6=>(HR λh7 l7 k7=>?_))))))))))))
  have hT:RdT h7 g10 (Qn A):=⟨gm,mM,bs,vI,Seg.ofLe (AI k5 (AI l6 l7)),hM,AI k6 l7,hOI.rdh k7,λa ha=>by
   rcases JV _ _ a ha with h|h
   ·cases h
   ·exact(hsA a h).up (AI l4 (AI l5 (AI l6 l7)))⟩
  exact Az Y Y (⟨AI l1 (AI l2 (AI l3 (AI l4 (AI l5 (AI l6 l7))))),Y,g10,A,Y,hC,hT⟩)
end Go.Proofs.Q
namespace Go.Proofs.Q
open Go.Eng Go.RowKit
variable {gM:Nat} {mM:Hp}
def Lv(v:Value):Value:=v
structure OwnMS(gM:Nat)(mM mB:Hp)(T:List (Int×List Int)):Prop where
 ex:∃(Tv:List (Int×Value)) (bs:List Nat),CC kN Lv gM BP mM Tv bs/\Tv.map Prod.fst=T.map Prod.fst/\Bag T.length (λl m=>∃p,Tv[l]?=some p/\OwnL cI 1 3 m p.2 ((T.map Prod.snd).getD l [])) mB
theorem OwnMS.start(O:CC kN Lv gM BP mM ([]:List (Int×Value)) []):OwnMS gM mM Hp.emp []:=⟨[],[],O,rfl,Bag.zero _⟩
theorem G0{ν:Type}{T:List (Int×ν)}{a:Int}(h:a∈T.map Prod.fst):∃(l:Nat) (x:ν),T[l]?=some (a,x):=by obtain⟨p,hp,rfl⟩:=List.mem_map.1 h;obtain⟨l,hl,e⟩:=getElem_of_mem hp;exact⟨l,p.2,by rw[List.getElem?_eq_getElem hl,e]⟩
theorem LU{ν μ:Type}{T:List (Int×ν)}{T':List (Int×μ)}(h:T'.map Prod.fst=T.map Prod.fst){l:Nat}{a:Int}{x:ν}(e:T[l]?=some (a,x)):∃y,T'[l]?=some (a,y):=by
 have h1:(T'.map Prod.fst)[l]?=(T.map Prod.fst)[l]?:=by rw[h]
 rw[List.getElem?_map,List.getElem?_map,e]at h1;cases h2:T'[l]? with
 | none=>rw[h2]at h1;cases h1
 | some p=>
  rw[h2]at h1;have:p.1=a:=Option.some.inj h1;exact⟨p.2,by rw[<-this]⟩
theorem OwnMS.open{mB:Hp}{T:List (Int×List Int)}(M:OwnMS gM mM mB T)(a:Int):∃(Tv:List (Int×Value)) (bs:List Nat) (v:Value) (m1 m2:Hp),CC kN Lv gM BP mM Tv bs/\(Bj Tv a).getD (.slice none 0 0)=v/\mB=m1.join m2/\m1.disj m2/\OwnL cI 1 3 m1 v ((Bj T a).getD []) ∧
  ∀v' L' m1' mM' bs',m1'.disj m2->OwnL cI 1 3 m1' v' L'->CC kN Lv gM BP mM' (C0 Tv a v') bs'->OwnMS gM mM' (m1'.join m2) (C0 T a L'):=by
 obtain⟨Tv,bs,hO,hK,hB⟩:=M.ex;have hnd:(T.map Prod.fst).Nodup:=by rw[<-hK];exact hO.keys
 have hlen:Tv.length=T.length:=by have:=congrArg List.length hK;simpa using this
 by_cases ha:a∈T.map Prod.fst
 ·obtain⟨l,L,hl⟩:=G0 ha;obtain⟨v,hv⟩:=LU hK hl;have hlT:l<T.length:=(List.getElem?_eq_some_iff.1 hl).1;obtain⟨m1,m2,e,hd,⟨p,hp,hO1⟩,hrest,hclose⟩:=hB.open hlT;have hpv:p=(a,v):=by rw[hv]at hp;exact(Option.some.inj hp).symm
  subst hpv;have hL:(T.map Prod.snd).getD l []=L:=by simp[List.getD,hl]
  rw[hL]at hO1;refine⟨Tv,bs,v,m1,m2,hO,by rw[Ed hO.keys hv];rfl,e,hd,by rw[Ed hnd hl];exact hO1,λv' L' m1' mM' bs' hd' hO' hM'=>?_⟩;rw[IH hO.keys hv]at hM';rw[IH hnd hl];refine⟨_,bs',hM',by rw[List.map_set,List.map_set,hK],?_⟩;rw[length_set];have hlv:l<Tv.length:=by omega
  refine hclose _ m1' hd' ⟨(a,v'),by rw[List.getElem?_set_self hlv],?_⟩ λk hk hne x hx=>?_
  ·have:((T.set l (a,L')).map Prod.snd).getD l []=L':=by simp[List.getD,hlT]
   rw[this];exact hO'
  ·obtain⟨p,hp,hx⟩:=hx;refine⟨p,by rw[List.getElem?_set_ne (Ne.symm hne)];exact hp,?_⟩
   have:((T.set l (a,L')).map Prod.snd).getD k []=(T.map Prod.snd).getD k []:=by rw[List.map_set];simp only[List.getD_eq_getElem?_getD];rw[List.getElem?_set_ne (Ne.symm hne)]
   rw[this];exact hx
 ·have haV:a ∉ Tv.map Prod.fst:=by rw[hK];exact ha
  refine⟨Tv,bs,.slice none 0 0,Hp.emp,mB,hO,by rw[C7 haV];rfl,(Hp.emp_join mB).symm,λg=>.inl rfl,by rw[C7 ha];exact OwnL.nil Bl,λv' L' m1' mM' bs' hd' hO' hM'=>?_⟩;have e1:C0 Tv a v'=Tv++[(a,v')]:=if_neg haV;have e2:C0 T a L'=T++[(a,L')]:=if_neg ha;rw[e1]at hM';rw[e2,Hp.join_comm hd'];refine⟨_,bs',hM',by rw[map_append,map_append,hK];rfl,?_⟩;rw[length_append];refine Bag.snoc (hB.mono λl hl x hx=>?_) ⟨(a,v'),by rw[<-hlen];simp,?_⟩ (Hp.disj_symm hd')
  ·obtain⟨p,hp,hx⟩:=hx;refine⟨p,by rw[List.getElem?_append_left (by omega)];exact hp,?_⟩
   have:((T++[(a,L')]).map Prod.snd).getD l []=(T.map Prod.snd).getD l []:=by rw[map_append];simp only[List.getD_eq_getElem?_getD];rw[List.getElem?_append_left (by simpa using hl)]
   rw[this];exact hx
  ·have:((T++[(a,L')]).map Prod.snd).getD T.length []=L':=by simp[List.getD]
   rw[this];exact hO'
theorem OwnMS.look{mB h:Hp}{T:List (Int×List Int)}(M:OwnMS gM mM mB T)(hB:mB.le h):∃(Tv:List (Int×Value)) (bs:List Nat),CC kN Lv gM BP mM Tv bs/\Tv.map Prod.fst=T.map Prod.fst/\(∀l (h1:l<Tv.length) (h2:l<T.length),Tv[l].1=T[l].1/\RdL cI 1 h [] Tv[l].2 T[l].2)/\∀a,RdL cI 1 h [] ((Bj Tv a).getD (.slice none 0 0)) ((Bj T a).getD []):=by
 obtain⟨Tv,bs,hO,hK,hG⟩:=M.ex;have hnd:(T.map Prod.fst).Nodup:=by rw[<-hK];exact hO.keys
 have hat:∀l (h1:l<Tv.length) (h2:l<T.length),Tv[l].1=T[l].1/\RdL cI 1 h [] Tv[l].2 T[l].2:=λl h1 h2=>by
  obtain⟨x,hx,p,hp,hO1⟩:=hG.all l h2;rw[List.getElem?_eq_getElem h1]at hp;have:=Option.some.inj hp;subst this;have h3:(Tv.map Prod.fst)[l]?=(T.map Prod.fst)[l]?:=by rw[hK]
  rw[List.getElem?_map,List.getElem?_map,List.getElem?_eq_getElem h1,List.getElem?_eq_getElem h2]at h3;refine⟨Option.some.inj h3,?_⟩;have h4:(T.map Prod.snd).getD l []=T[l].2:=by simp[List.getD,h2]
  rw[h4]at hO1;exact hO1.rdh (AI hx hB)
 refine⟨Tv,bs,hO,hK,hat,λa=>?_⟩;by_cases ha:a∈T.map Prod.fst
 ·obtain⟨l,L,hl⟩:=G0 ha;obtain⟨v,hv⟩:=LU hK hl;rw[Ed hO.keys hv,Ed hnd hl];obtain⟨h1,e1⟩:=List.getElem?_eq_some_iff.1 hv;obtain⟨h2,e2⟩:=List.getElem?_eq_some_iff.1 hl;have:=(hat l h1 h2).2;rw[e1,e2]at this;exact this
 ·rw[C7 ha,C7 (by rw[hK];exact ha)];exact⟨Rd.nil _ _ _,Bl⟩
end Go.Proofs.Q
namespace Go.Proofs.Q
open Go.Proofs.Tryz
open Go.Eng Go.RowKit
def Hz(U:List Cl)(x:Cl)(i:Nat):Prop:=(H7 U (Bv x i).1).isSome=false\/(FZ U (Bv x i).1).dim≠x.dim-1\/(0<i/\(Bv x (i-1)).1=(Bv x i).1)
instance (U:List Cl) (x:Cl) (i:Nat):Decidable (Hz U x i):=by unfold Hz;infer_instance
def WI(x:Cl)(i:Nat):Int:=((x.sd.take i).map Prod.snd).sum
theorem Wc{x:Cl}{i:Nat}(h:i<x.sd.length):WI x (i+1)=WI x i+x.sd[i].2:=by unfold WI;rw[List.take_succ_eq_append_getElem h,map_append,List.sum_append];simp
def D0(U:List Cl)(x:Cl):Int:=
 if x.dim<0\/8<x.dim then 21
 else if B0 x then 22
 else if ¬∀i,i<x.sd.length->¬Hz U x i then 22
 else if ¬∀i,i<x.sd.length->¬BT x i then 23
 else if x.dim=1/\WI x x.sd.length≠0 then 23 else 0
theorem Q3(U:List Ce)(c:Int):(Bj (E4 U) c).map Ce.c=H7 (U.map Ce.c) c:=by unfold Bj E4 H7;rw[List.find?_map,List.find?_map,Option.map_map,Option.map_map];rfl
theorem Hm(U:List Ce)(c:Int):((Bj (E4 U) c).getD default).c=FZ (U.map Ce.c) c:=by unfold FZ;rw[<-Q3];cases Bj (E4 U) c<;>rfl
theorem KH(U:List Ce)(c:Int):(Bj (E4 U) c).isSome=(H7 (U.map Ce.c) c).isSome:=by rw[<-Q3];cases Bj (E4 U) c<;>rfl
theorem Q4{U:List Ce}{c:Int}{y:Ce}(h:Bj (E4 U) c=some y):y∈U:=by unfold Bj at h;obtain⟨p,hp,rfl⟩:=Option.map_eq_some_iff.1 h;obtain⟨a,ha,rfl⟩:=List.mem_map.1 (List.mem_of_find?_eq_some hp);exact ha
theorem Mr{h:Hp}{U:List Ce}(hs:∀a∈U,RdL cD 2 h [] a.v a.c.sd)(c:Int):RdL cD 2 h [] ((Bj (E4 U) c).getD default).v ((Bj (E4 U) c).getD default).c.sd:=by
 cases hg:Bj (E4 U) c with
 | none=>exact⟨Rd.nil _ _ _,Ek⟩
 | some y=>exact hs y (Q4 hg)
theorem Ye(U:List Ce)(x:Ce)(g:Nat)(hp:Hp)(hT:RdT hp g U)(hX:RdL cD 2 hp [] x.v x.c.sd)(hd:BP x.c.dim)(hn:x.c.sd.length<=1000000)(hi:∀s∈x.c.sd,BP s.1/\BP s.2):FnT Tryz.prog 76 #[.pointer (some ⟨g,0,none⟩),.agg (cC x).toArray] hp [] (λr _ _=>r=.int .i64 (D0 (U.map Ce.c) x.c)):=by
 have o2:=hX.rd.one;show FnT _ _ #[.pointer (some ⟨g,0,none⟩),.agg #[.int .i64 x.c.id,.int .i64 x.c.dim,x.v]] _ _ _;refine Av func76 ntmps76 Y Y (λw0 hw0=>?_);simp only[A3];refine Aw (AY [_,_,_] Y Y (by rfl) Y Y Y (λg3=>Qm Y (Ap (AB λh1 l1 hS=>?_))));have hT:=hT.up l1;have hX:=hX.up l1;have hA:=Seg.all hS;have a0:∀ms,Cell h1 ms (⟨g3,0,none⟩:Addr) (.int .i64 x.c.id):=λms=>hA 0 _ Y ms;have a1:∀ms,Cell h1 ms (⟨g3,1,none⟩:Addr) (.int .i64 x.c.dim):=λms=>hA 1 _ Y ms;have a2:∀ms,Cell h1 ms (⟨g3,2,none⟩:Addr) x.v:=λms=>hA 2 _ Y ms;have hd1:=hd.1;have hd2:=hd.2;refine Aw (Qf Bs Y (Ql Y BQ (a2 _) (Qx (As hX.rd.any Y BQ Y) Y (Qm Y (Ap ?_)))));refine A8 (λsl h' ms'=>sl=[(0,.pointer (some ⟨g,0,none⟩)),(3,.pointer (some ⟨g3,0,none⟩))]/\h1=h'/\ms'=[]/\(0<=x.c.dim/\x.c.dim<=8)/\¬B0 x.c) ?_ (λs h ms hI=>?_)
 ·refine Ah (Aw (Qf BV Y (Ql Y U3 (a1 _) (Qm Y (Qm Y ?_)))));refine AU (t:=20) Y (λq1=>?_) (λq1=>?_)
  ·refine Qk Y (Qk Y (Qk Y (Qm Y (Qm Y (Ap (BD Y (Aw (Qm Y (Ap (Aq (Al (Ae ?_))))))))))));exact Az Y Y (by unfold D0;rw[if_pos (.inl q1)])
  ·refine Qg (oF BV Y) Y (Qg (oL Y U3 (a1 _)) Y (Qg (CA Y Y Y) Y (Qm Y (Qm Y (Ap ?_)))));refine Ax Y (λq2=>?_) (λq2=>?_)
   ·refine Ac (Ad (Qm Y (Ap (Aq (Al (Ae ?_))))));exact Az Y Y (by unfold D0;rw[if_pos (.inr q2)])
   ·have hdb:0<=x.c.dim/\x.c.dim<=8:=by omega
    have e21:¬(x.c.dim<0\/8<x.c.dim):=by omega
    have e22:B0 x.c->D0 (U.map Ce.c) x.c=22:=λh=>by unfold D0;rw[if_neg e21,if_pos h]
    refine Aw (Qf BV Y (Ql Y U3 (a1 _) (Qm Y (Qm Y ?_))));refine AU (t:=29) Y (λr0=>?_) (λr0=>?_)
    ·refine Qg (AC Y Y) Y (Qg (CA Y Y Y) Y (Qm Y (Qm Y ?_)));refine AU (t:=33) Y (λr1=>?_) (λr1=>?_)
     ·refine Qk Y (Qk Y (Qk Y (Qk Y (A7 Y Y Y Y Y Y (A7 Y Y Y Y Y Y (Qk Y (Qm Y (Qm Y (Qk Y (Qk Y (Qk Y (Qk Y (A7 Y Y Y Y Y Y (A7 Y Y Y Y Y Y (A7 Y Y Y Y Y Y (A7 Y Y Y Y Y Y (A7 Y Y Y Y Y Y (A7 Y Y Y Y Y Y (Qk Y (Qm Y (Qm Y (Ap (BD Y (Aw (Qm Y (Ap (Aq (Al (Ae ?_)))))))))))))))))))))))))))));exact Az Y Y (by rw[e22 (.inl ⟨r0,by omega⟩)])
     ·refine Qg (oF BV Y) Y (Qg (oL Y U3 (a1 _)) Y (Qg (CN Y Y Y) Y (Qg (AC Y Y) Y (AU (t:=37) Y (λhs=>absurd hs (by omega)) (λhs=>Qk Y (Qk Y (Qg (Cx Y Y Y) Y (Qm Y (Qm Y (Qg (oF BV Y) Y (Qg (oL Y U3 (a1 _)) Y (Qg (CA Y Y Y) Y (Qg (AC Y Y) Y (AU (t:=46) Y (λhs=>absurd hs (by omega)) (λhs=>Qk Y (Qk Y (Qk Y (A7 Y Y Y Y Y Y (A7 Y Y Y Y Y Y (Qk Y (Qg (Cx Y Y Y) Y (Qm Y (Qm Y (Ap (AV Y (Aj (Ak ?_)))))))))))))))))))))))))));exact Ao _ ⟨Y,Y,Y,hdb,λq=>by unfold B0 at q;omega⟩ Qs
    ·refine Qk Y (Qk Y (Qm Y (Qm Y (Qg (oF BV Y) Y (Qg (oL Y U3 (a1 _)) Y (Qg (CN Y Y Y) Y (Qg (AC Y Y) Y ?_)))))));refine AU (t:=37) Y (λr2=>?_) (λr2=>?_)
     ·refine Qg (AC Y Y) Y (Qg (Ep Y Y Y) Y (Qg (CP Y Y Y) Y (Qm Y (Qm Y ?_))));refine AU (t:=42) Y (λr3=>?_) (λr3=>?_)
      ·refine Qk Y (Qk Y (Qk Y (Qk Y (A7 Y Y Y Y Y Y (A7 Y Y Y Y Y Y (A7 Y Y Y Y Y Y (A7 Y Y Y Y Y Y (A7 Y Y Y Y Y Y (A7 Y Y Y Y Y Y (Qk Y (Qm Y (Qm Y (Ap (BD Y (Aw (Qm Y (Ap (Aq (Al (Ae ?_))))))))))))))))))));exact Az Y Y (by rw[e22 (.inr (.inl ⟨r2,by omega⟩))])
      ·refine Qg (oF BV Y) Y (Qg (oL Y U3 (a1 _)) Y (Qg (CA Y Y Y) Y (Qg (AC Y Y) Y (AU (t:=46) Y (λhs=>absurd hs (by omega)) (λhs=>Qk Y (Qk Y (Qk Y (A7 Y Y Y Y Y Y (A7 Y Y Y Y Y Y (Qk Y (Qg (Cx Y Y Y) Y (Qm Y (Qm Y (Ap (AV Y (Aj (Ak ?_)))))))))))))))));exact Ao _ ⟨Y,Y,Y,hdb,λq=>by unfold B0 at q;omega⟩ Qs
     ·refine Qk Y (Qk Y (Qg (Cx Y Y Y) Y (Qm Y (Qm Y (Qg (oF BV Y) Y (Qg (oL Y U3 (a1 _)) Y (Qg (CA Y Y Y) Y (Qg (AC Y Y) Y ?_))))))));refine AU (t:=46) Y (λhs=>?_) (λhs=>absurd (by omega) hs);refine Qg (AC Y Y) Y (Qg (Df Y Y Y) Y (Qg (AC Y Y) Y ?_));refine AU (t:=49) Y (λr4=>?_) (λr4=>?_)
      ·refine Qk Y (Qk Y (Qg (CP Y Y Y) Y (Qg (CP Y Y Y) Y (Qm Y (Qm Y (Ap (BD Y (Aw (Qm Y (Ap (Aq (Al (Ae ?_)))))))))))));exact Az Y Y (by rw[e22 (.inr (.inr ⟨by omega,by omega⟩))])
      ·refine Qg (AC Y Y) Y (Qg (CA Y Y Y) Y (Qg (Cx Y Y Y) Y (Qg (CP Y Y Y) Y (Qm Y (Qm Y (Ap ?_))))));refine Ax Y (λr5=>?_) (λr5=>?_)
       ·refine Ac (Ad (Qm Y (Ap (Aq (Al (Ae ?_))))));exact Az Y Y (by rw[e22 (.inr (.inr ⟨by omega,by omega⟩))])
       ·refine Aj (Ak ?_);exact Ao _ ⟨Y,Y,Y,hdb,λq=>by unfold B0 at q;omega⟩ Qs
 ·obtain⟨rfl,rfl,rfl,hdb,hnb⟩:=hI;have e21:¬(x.c.dim<0\/8<x.c.dim):=by omega
  have e22:∀i,i<x.c.sd.length->Hz (U.map Ce.c) x.c i->D0 (U.map Ce.c) x.c=22:=λi h q=>by unfold D0;rw[if_neg e21,if_neg hnb,if_pos λw=>w i h q]
  obtain⟨gm,mM,bs,vids,hSg,hM,lm,hV,hsU⟩:=hT;refine A8 (λsl h' ms'=>sl=[(0,.pointer (some ⟨g,0,none⟩)),(3,.pointer (some ⟨g3,0,none⟩))]/\h1.le h'/\ms'=[]/\∀i,i<x.c.sd.length->¬Hz (U.map Ce.c) x.c i) ?_ (λs h ms hI=>?_)
  ·refine Ac (Ad (Qf Bs Y (Ql Y BQ (a2 _) (Qx (As hX.rd.any Y BQ Y) Y (Qm Y (Ap (Ah ?_)))))))
   refine AD (λq sl h' ms'=>∃(i:Nat),q=x.c.sd.length-i/\sl=[(0,.pointer (some ⟨g,0,none⟩)),(3,.pointer (some ⟨g3,0,none⟩)),(56,x.v),(57,.int .i64 x.c.sd.length),(58,.int .i64 i)]/\h1.le h'/\ms'=[]/\i<=x.c.sd.length/\∀j,j<i->¬Hz (U.map Ce.c) x.c j)
    (x.c.sd.length-0) _ ⟨0,rfl,rfl,B8,rfl,by omega,λj h=>by omega⟩ Qs ?_
   rintro q sl h2 ms' ⟨i,rfl,rfl,l2,rfl,hil,hno⟩;have hX:=hX.up l2;refine Aw (Qm Y (Ap (Ac ?_)));refine Ax Y (λhlt=>?_) (λhlt=>?_)
   ·have hil:i<x.c.sd.length:=by omega
    obtain⟨s,hs⟩:∃s,x.c.sd[i]=s:=⟨_,Y⟩
    have hsA:Bv x.c i=s:=by rw[Bp hil,hs]
    have hsI:=hi s (by rw[<-hs];exact getElem_mem hil);have hsx:∀ms,Seg h2 ms ((AJ x.v).add (i*2)) (cD s):=λms=>by rw[<-hs];exact(hX.any (ms:=ms)).seg hil
    refine Aj (Ab (Ac (Ah (Aw (Qm Y (Qx (BH (i) hX.rd.any Y BQ AQ Y Y) Y (Qx (oG Y Du AQ (hsx _)) Y (By [.int .i64 0,.int .i64 0] Y AQ Y Y (λg7=>Qm Y ?_)))))))));refine Sa 0 [_,_] AQ Y (by simp[Value.oneCell']) ?_;refine Ap (AB λh3 l3 hS7=>?_);have hX:=hX.up l3;have l13:=AI l2 l3;have e7:=Seg.all hS7;have e70:∀ms,Cell h3 ms (⟨g7,0,none⟩:Addr) (.int .i64 s.1):=λms=>e7 0 _ Y ms;have eT:∀ms,Cell h3 ms (⟨g,0,none⟩:Addr) (.map (some gm)):=λms=>(Seg.all hSg 0 _ Y ms).le l13;obtain⟨bb,hbb⟩:∃bb,(Bj (E4 U) s.1).isSome=bb:=⟨_,Y⟩
    obtain⟨y,hy⟩:∃y,(Bj (E4 U) s.1).getD default=y:=⟨_,Y⟩
    have hyr:=Mr hsU s.1;rw[hy]at hyr;have oyv:=hyr.rd.one;have hbb':(H7 (U.map Ce.c) s.1).isSome=bb:=by rw[<-KH];exact hbb
    have hyc:FZ (U.map Ce.c) s.1=y.c:=by rw[<-Hm,hy]
    refine A8 (λsl h' ms'=>∃g8:Nat,sl=[(0,.pointer (some ⟨g,0,none⟩)),(3,.pointer (some ⟨g3,0,none⟩)),(6,.int .i64 i),(7,.pointer (some ⟨g7,0,none⟩)),(8,.pointer (some ⟨g8,0,none⟩)),(9,.bool bb),(56,x.v),(57,.int .i64 x.c.sd.length),(58,.int .i64 i)]/\h3=h'/\ms'=[Bw g8 52 (cC y)]) ?_ (λs h ms hI=>?_)
    ·refine BK (n:=13) (bs:=[true,true,true,true,true,true,true,true,true,true,false,false,false]) [true,true,true,true,true,true,true,true,true,true] CZ (by kernel_rfl) (by kernel_rfl) Y Y (Qq Y (Qq Y (QF DO Y (QL Y EY (eT _) (QF B6 Y (QL Y U3 (e70 _) (Qp Y (DD (V:=vC) (z:=(default:Ce)) s.1 hy hbb Bh hM (AI lm l13) Y EY HK Y Y hsI.1) (Qq Y (Qq Y (Qq Y ?_))))))))));unfold FK;simp only[cons_append,nil_append];refine Qo 10 Y (By [.int .i64 0,.int .i64 0,.slice none 0 0] Y AL Y Y (λg8=>Qw (Qo 11 Y ?_)));refine Sa 0 [_,_,_] AL Y (by simp[o2,oyv]) ?_;refine Qw (Qo 12 Y (Qm Y (Qw (Qe ?_))));exact Ao _ ⟨g8,Y,Y,Y⟩ Qs
    ·obtain⟨g8,rfl,rfl,rfl⟩:=hI;refine AB λh4 l4 hS8=>?_;have hX:=hX.up l4;have e70:∀ms,Cell h4 ms (⟨g7,0,none⟩:Addr) (.int .i64 s.1):=λms=>(e70 ms).le l4;have e81:∀ms,Cell h4 ms (⟨g8,1,none⟩:Addr) (.int .i64 y.c.dim):=λms=>Seg.all hS8 1 _ Y ms;have l14:=AI l13 l4;have b1:∀ms,Cell h4 ms (⟨g3,1,none⟩:Addr) (.int .i64 x.c.dim):=λms=>(a1 ms).le l14;have b2:∀ms,Cell h4 ms (⟨g3,2,none⟩:Addr) x.v:=λms=>(a2 ms).le l14
     have hbad:Hz (U.map Ce.c) x.c i<->bb=false\/y.c.dim≠x.c.dim-1\/(0<i/\(Bv x.c (i-1)).1=s.1):=by unfold Hz;rw[hsA,hbb',hyc]
     have hstep:¬Hz (U.map Ce.c) x.c i->∀j,j<i+1->¬Hz (U.map Ce.c) x.c j:=λh j hj=>by
      rcases (by omega:j<i\/j=i) with h1|rfl
      ·exact hno j h1
      ·exact h
     refine Ac (Bc 23 CZ (by kernel_rfl) Y (Wm Y (Wm Y (Wm Y ?_))));refine RZ (t:=75) Y (λc1=>?_) (λc1=>?_)
     ·have hbf:bb=false:=by cases bb<;>simp at c1 ⊢
      refine AE Y Y Y Y Y (AE Y Y Y Y Y (AE Y Y Y Y Y (AE Y Y Y Y Y (AE Y Y Y Y Y (AE Y Y Y Y Y (Wm Y (Wm Y (AE Y Y Y Y Y (AE Y Y Y Y Y (AE Y Y Y Y Y (AX Y Y Y Y (AX Y Y Y Y (AX Y Y Y Y (AX Y Y Y Y (AX Y Y Y Y (AX Y Y Y Y (AX Y Y Y Y (AX Y Y Y Y (AX Y Y Y Y (A4 (A7 Y Y Y Y Y Y (Qk Y (Qm Y (Ap (BD Y (Aw (Qm Y (Ap (Aq (Al (Ae (Ae (Al (Ae ?_))))))))))))))))))))))))))))))))));exact Az Y Y (by rw[e22 i hil (hbad.2 (.inl hbf))])
     ·have hbt:bb=true:=by cases bb<;>simp at c1 ⊢
      refine AP (oF BV Y) Y Y Y Y (AP (oL Y U3 (e81 _)) Y Y Y Y (AP (oF BV Y) Y Y Y Y (AP (oL Y U3 (b1 _)) Y Y Y Y (AP (oS Y) Y Y Y Y (AP (Ep Y Y Y) Y Y Y Y (Wm Y (Wm Y ?_)))))));refine CB (t:=83) Y (λc2=>?_) (λc2=>?_)
      ·refine AE Y Y Y Y Y (AE Y Y Y Y Y (AE Y Y Y Y Y (AX Y Y Y Y (AX Y Y Y Y (AX Y Y Y Y (AX Y Y Y Y (AX Y Y Y Y (AX Y Y Y Y (AX Y Y Y Y (AX Y Y Y Y (AX Y Y Y Y (A4 (A7 Y Y Y Y Y Y (Qk Y (Qm Y (Ap (BD Y (Aw (Qm Y (Ap (Aq (Al (Ae (Ae (Al (Ae ?_))))))))))))))))))))))))));exact Az Y Y (by rw[e22 i hil (hbad.2 (.inr (.inl c2)))])
      ·refine AP (AC Y Y) Y Y Y Y (AP (CA Y Y Y) Y Y Y Y (AP (AC Y Y) Y Y Y Y ?_));refine CB (t:=86) Y (λc3=>?_) (λc3=>?_)
       ·have hi1:i-1<x.c.sd.length:=by omega
        obtain⟨s',hs'⟩:∃s',x.c.sd[i-1]=s':=⟨_,Y⟩
        have hsA':Bv x.c (i-1)=s':=by rw[Bp hi1,hs']
        have r0:∀ms,Cell h4 ms ((AJ x.v).add ((i-1)*2)) (.int .i64 s'.1):=λms=>by rw[<-hs'];exact(hX.any (ms:=ms)).cell0 hi1 Y
        refine AP (oF Bs Y) Y Y Y Y (AP (oL Y BQ (b2 _)) Y Y Y Y (AP (AC Y Y) Y Y Y Y (AP (oS Y) Y Y Y Y (AP (BH (i-1) hX.rd.any Y BQ AQ Y Y) Y Y Y Y (AP (oF B6 Y) Y Y Y Y (AP (oL Y U3 (r0 _)) Y Y Y Y (AP (oF B6 Y) Y Y Y Y (AP (oL Y U3 (e70 _)) Y Y Y Y (A4 (Qg (CN Y Y Y) Y (Qg (CP Y Y Y) Y (Qm Y (Ap ?_)))))))))))));refine Ax Y (λc4=>?_) (λc4=>?_)
        ·refine Ac (Ad (Qm Y (Ap (Aq (Al (Ae (Ae (Al (Ae ?_)))))))));exact Az Y Y (by rw[e22 i hil (hbad.2 (.inr (.inr ⟨by omega,by rw[hsA'];exact c4⟩)))])
        ·have hok:¬Hz (U.map Ce.c) x.c i:=λq=>by
          rcases hbad.1 q with q|q|⟨_,q⟩
          ·rw[hbt]at q;cases q
          ·exact c2 q
          ·rw[hsA']at q;exact c4 q
         refine Aj (Ak (Ab (Ad (Qx (oA Y) Y (Qm Y (An ?_))))));exact Am (x.c.sd.length-(i+1)) _ (by omega) ⟨i+1,Y,Y,l14,Y,by omega,hstep hok⟩ Qs
       ·have hok:¬Hz (U.map Ce.c) x.c i:=λq=>by
         rcases hbad.1 q with q|q|⟨q,_⟩
         ·rw[hbt]at q;cases q
         ·exact c2 q
         ·omega
        refine AE Y Y Y Y Y (AE Y Y Y Y Y (AE Y Y Y Y Y (AE Y Y Y Y Y (AE Y Y Y Y Y (AE Y Y Y Y Y (AE Y Y Y Y Y (AE Y Y Y Y Y (AE Y Y Y Y Y (A4 (Qk Y (Qg (Cx Y Y Y) Y (Qm Y (Ap (AV Y (Aj (Ak (Ab (Ad (Qx (oA Y) Y (Qm Y (An ?_)))))))))))))))))))));exact Am (x.c.sd.length-(i+1)) _ (by omega) ⟨i+1,Y,Y,l14,Y,by omega,hstep hok⟩ Qs
   ·obtain rfl:i=x.c.sd.length:=by omega
    refine Ay (Aa (Aa (Ag ?_)));exact Ao _ ⟨Y,l2,Y,hno⟩ Qs
  ·obtain⟨rfl,l2,rfl,hno⟩:=hI;have hX:=hX.up l2;have hall:¬¬∀i,i<x.c.sd.length->¬Hz (U.map Ce.c) x.c i:=λq=>q hno
   have e23:∀i,i<x.c.sd.length->BT x.c i->D0 (U.map Ce.c) x.c=23:=λi h q=>by unfold D0;rw[if_neg e21,if_neg hnb,if_neg hall,if_pos λw=>w i h q]
   have b1:∀ms,Cell h ms (⟨g3,1,none⟩:Addr) (.int .i64 x.c.dim):=λms=>(a1 ms).le l2;have b2:∀ms,Cell h ms (⟨g3,2,none⟩:Addr) x.v:=λms=>(a2 ms).le l2;refine Aw (Qm Y (Ap (Ac (Aw (Qf Bs Y (Ql Y BQ (b2 _) (Qx (As hX.rd.any Y BQ Y) Y (Qm Y (Ap (Ah ?_))))))))))
   refine AD (λq sl h' ms'=>∃(i:Nat),q=x.c.sd.length-i/\sl=[(3,.pointer (some ⟨g3,0,none⟩)),(10,.int .i64 (WI x.c i)),(101,x.v),(102,.int .i64 x.c.sd.length),(103,.int .i64 i)]/\h.le h'/\ms'=[]/\i<=x.c.sd.length/\(-(i:Int)<=WI x.c i/\WI x.c i<=i)/\∀j,j<i->¬BT x.c j)
    (x.c.sd.length-0) _ ⟨0,rfl,rfl,B8,rfl,by omega,by simp[WI],λj h=>by omega⟩ Qs ?_
   rintro q sl h3 ms' ⟨i,rfl,rfl,l3,rfl,hil,hsb,hns⟩;have hX:=hX.up l3;have b1:∀ms,Cell h3 ms (⟨g3,1,none⟩:Addr) (.int .i64 x.c.dim):=λms=>(b1 ms).le l3;refine Aw (Qm Y (Ap (Ac ?_)));refine Ax Y (λhlt=>?_) (λhlt=>?_)
   ·have hil:i<x.c.sd.length:=by omega
    obtain⟨s,hs⟩:∃s,x.c.sd[i]=s:=⟨_,Y⟩
    have hsA:Bv x.c i=s:=by rw[Bp hil,hs]
    have hsI:=(hi s (by rw[<-hs];exact getElem_mem hil)).2;have hsx:∀ms,Seg h3 ms ((AJ x.v).add (i*2)) (cD s):=λms=>by rw[<-hs];exact(hX.any (ms:=ms)).seg hil
    have hss:=Wc hil;rw[hs]at hss;have hbs:BT x.c i<->s.2≠1/\s.2≠-1:=by unfold BT;rw[hsA]
    have hstep:¬BT x.c i->∀j,j<i+1->¬BT x.c j:=λh j hj=>by
     rcases (by omega:j<i\/j=i) with h1|rfl
     ·exact hns j h1
     ·exact h
    refine Aj (Ab (Ac (Ah (Aw (Qx (BH (i) hX.rd.any Y BQ AQ Y Y) Y (Qx (oG Y Du AQ (hsx _)) Y (By [.int .i64 0,.int .i64 0] Y AQ Y Y (λg12=>?_))))))));refine Sa 0 [_,_] AQ Y (by simp[Value.oneCell']) ?_;refine Ap (AB λh4 l4 hS12=>?_);have e12:∀ms,Cell h4 ms (⟨g12,1,none⟩:Addr) (.int .i64 s.2):=λms=>Seg.all hS12 1 _ Y ms;refine Ac (Aw (Qf Di Y (Ql Y U3 (e12 _) (Qm Y (Qm Y ?_)))));refine AU (t:=110) Y (λc1=>?_) (λc1=>?_)
    ·refine Qg (oF Di Y) Y (Qg (oL Y U3 (e12 _)) Y (Qg (Ep Y Y Y) Y (Qm Y (Ap ?_))));refine Ax Y (λc2=>?_) (λc2=>?_)
     ·refine Ac (Ad (Qm Y (Ap (Aq (Ae (Al (Ae (Ae (Al (Ae ?_))))))))));exact Az Y Y (by rw[e23 i hil (hbs.2 ⟨c1,c2⟩)])
     ·have hok:¬BT x.c i:=λq=>c2 (hbs.1 q).2;have h2:s.2=-1:=by omega
      refine Aj (Ab (Ad (Qm Y (Qf Di Y (Ql Y U3 (e12 _) (Qx (oA Y) Y (Qm Y (An (Ak (Ab (Ad (Qx (oA Y) Y (Qm Y (An ?_))))))))))))));exact Am (x.c.sd.length-(i+1)) _ (by omega) ⟨i+1,Y,by rw[hss],AI l3 l4,rfl,by omega,by rw[hss];omega,hstep hok⟩ Qs
    ·have h2:s.2=1:=by omega
     have hok:¬BT x.c i:=λq=>(hbs.1 q).1 h2;refine Qk Y (Qk Y (Qk Y (Qm Y (Ap (AV Y (Aj (Ab (Ad (Qm Y (Qf Di Y (Ql Y U3 (e12 _) (Qx (oA Y) Y (Qm Y (An (Ak (Ab (Ad (Qx (oA Y) Y (Qm Y (An ?_))))))))))))))))))));exact Am (x.c.sd.length-(i+1)) _ (by omega) ⟨i+1,Y,by rw[hss],AI l3 l4,rfl,by omega,by rw[hss];omega,hstep hok⟩ Qs
   ·obtain rfl:i=x.c.sd.length:=by omega
    have hs0:¬¬∀i,i<x.c.sd.length->¬BT x.c i:=λq=>q hns;refine Ay (Aa (Aa (Ag (Ab (Ac (Aw (Qf BV Y (Ql Y U3 (b1 _) (Qm Y (Qm Y ?_))))))))));refine AU (t:=123) Y (λc1=>?_) (λc1=>?_)
    ·refine Qg (AC Y Y) Y (Qg (Ep Y Y Y) Y (Qm Y (Ap ?_)));refine Ax Y (λc2=>?_) (λc2=>?_)
     ·refine Ac (Ad (Qm Y (Ap (Aq (Ae ?_)))));exact Az Y Y (by unfold D0;rw[if_neg e21,if_neg hnb,if_neg hall,if_neg hs0,if_pos ⟨c1,c2⟩])
     ·refine Aj (Ab (Aw (Qm Y (Ap (Aq ?_)))));exact Az Y Y (by unfold D0;rw[if_neg e21,if_neg hnb,if_neg hall,if_neg hs0,if_neg λq=>c2 q.2])
    ·refine Qk Y (Qk Y (Qm Y (Ap (AV Y (Aj (Ab (Aw (Qm Y (Ap (Aq ?_))))))))));exact Az Y Y (by unfold D0;rw[if_neg e21,if_neg hnb,if_neg hall,if_neg hs0,if_neg λq=>c1 q.1])
end Go.Proofs.Q

namespace Go.Proofs.Q
open Go.Eng Go.RowKit
def UD(U:List Cl)(x:Cl)(i:Nat):Gd:=(FZ U (Bv x i).1).sd.map λr=>((i:Int),r.1,(Bv x i).2*r.2)
def I7(U:List Cl)(x:Cl)(m:Nat):Gd:=(range m).flatMap (UD U x)
theorem OD(U:List Cl)(x:Cl)(m:Nat):I7 U x (m+1)=I7 U x m++UD U x m:=by unfold I7;rw[range_succ,List.flatMap_append];simp
theorem MO(U:List Cl)(x:Cl)(h:∀i,i<x.sd.length->(FZ U (Bv x i).1).sd.length<=64):∀m,m<=x.sd.length->(I7 U x m).length<=64*m
 | 0,_=>by simp[I7]
 | m+1,hm=>by have:=MO U x h m (by omega);have:=h m (by omega);rw[OD,length_append];unfold UD;rw[length_map];omega
def CT(E:Gd):List (Int×Int):=E.foldl (λT e=>C0 T e.2.1 ((Bj T e.2.1).getD 0+e.2.2)) []
def FY(E:Gd):List (Int×List Int):=E.foldl (λT e=>C0 T e.2.1 ((Bj T e.2.1).getD []++[e.1])) []
theorem GF(E:Gd)(e:Int×Int×Int):CT (E++[e])=C0 (CT E) e.2.1 ((Bj (CT E) e.2.1).getD 0+e.2.2):=by unfold CT;rw[foldl_append];rfl
theorem F3(E:Gd)(e:Int×Int×Int):FY (E++[e])=C0 (FY E) e.2.1 ((Bj (FY E) e.2.1).getD []++[e.1]):=by unfold FY;rw[foldl_append];rfl
theorem Dt{α:Type}{P:List α->Prop}(h0:P [])(h1:∀l a,P l->P (l++[a]))(l:List α):P l:=by
 have:∀r:List α,P r.reverse:=λr=>by
  induction r with
  | nil=>exact h0
  | cons a r ih=>rw[List.reverse_cons];exact h1 _ _ ih
 have:=this l.reverse
 rwa [List.reverse_reverse]at this
theorem I8(c:Int):∀E:Gd,(Bj (CT E) c).getD 0=Eb E c:=Dt rfl λE e ih=>by
 rw[GF,DB,LF];by_cases h:c=e.2.1
 ·subst h;rw[if_pos rfl,if_pos rfl,<-ih];rfl
 ·rw[if_neg h,if_neg (λq=>h q.symm),ih,Int.add_zero]
theorem DJ{ν:Type}(T:List (Int×ν))(a:Int)(x:ν)(c:Int):c∈(C0 T a x).map Prod.fst<->c=a\/c∈T.map Prod.fst:=by
 unfold C0;split
 ·rename_i h
  have e:(T.map λp=>if p.1=a then(a,x) else p).map Prod.fst=T.map Prod.fst:=by
   rw[map_map];refine List.map_congr_left λp _=>?_;show(if p.1=a then(a,x) else p).1=p.1;by_cases q:p.1=a
   ·rw[if_pos q];exact q.symm
   ·rw[if_neg q]
  rw[e];exact⟨.inr,λq=>by rcases q with rfl|q;exact h;exact q⟩
 ·rw[map_append,mem_append];simp only[map_cons,List.map_nil,mem_singleton];exact⟨λq=>q.symm,λq=>q.symm⟩
theorem KI(c:Int):∀E:Gd,c∈(CT E).map Prod.fst<->∃e∈E,e.2.1=c:=Dt ⟨λh=>by simp[CT]at h,λ⟨e,he,_⟩=>by cases he⟩ λE e ih=>by
 rw[GF,DJ,ih];constructor
 ·rintro(rfl|⟨e',he,h⟩)
  ·exact⟨e,mem_append_right _ Mh,Y⟩
  ·exact⟨e',mem_append_left _ he,h⟩
 ·rintro⟨e',he,h⟩;rcases List.mem_append.1 he with he|he
  ·exact .inr ⟨e',he,h⟩
  ·rw[List.mem_singleton.1 he]at h;exact .inl h.symm
theorem Su(c:Int):∀E:Gd,c∈(FY E).map Prod.fst<->∃e∈E,e.2.1=c:=Dt ⟨λh=>by simp[FY]at h,λ⟨e,he,_⟩=>by cases he⟩ λE e ih=>by
 rw[F3,DJ,ih];constructor
 ·rintro(rfl|⟨e',he,h⟩)
  ·exact⟨e,mem_append_right _ Mh,Y⟩
  ·exact⟨e',mem_append_left _ he,h⟩
 ·rintro⟨e',he,h⟩;rcases List.mem_append.1 he with he|he
  ·exact .inr ⟨e',he,h⟩
  ·rw[List.mem_singleton.1 he]at h;exact .inl h.symm
theorem ON(c:Int):∀E:Gd,(Bj (FY E) c).getD []=(E.filter λe=>decide (e.2.1=c)).map λe=>e.1:=Dt rfl λE e ih=>by
 rw[F3,DB,List.filter_append,map_append,<-ih];by_cases h:c=e.2.1
 ·subst h;rw[if_pos rfl];simp
 ·rw[if_neg h];simp[Ne.symm h]
theorem HZ(E:Gd)(c:Int):Fq E c=((E.filter λe=>decide (e.2.1=c)).length:Int):=by
 induction E with
 | nil=>rfl
 | cons e E ih=>
  unfold Fq at *;rw[map_cons,sum_cons,ih,List.filter_cons];by_cases h:e.2.1=c
  ·simp[h];omega
  ·simp[h]
theorem Aah(E:Gd)(c:Int)(h:∀e∈E,e.2.2=1\/e.2.2=-1):-(E.length:Int)<=Eb E c/\Eb E c<=E.length:=by
 induction E with
 | nil=>exact⟨Int.le_refl _,Int.le_refl _⟩
 | cons e E ih=>
  have h1:=ih λe he=>h e (mem_cons_of_mem _ he);have h2:=h e Mh;unfold Eb at *;rw[map_cons,sum_cons,length_cons];split<;>omega
theorem QI(E:Gd):((CT E).map Prod.fst).Nodup:=by refine Dt (P:=λE=>((CT E).map Prod.fst).Nodup) (by simp[CT]) (λE e ih=>?_) E;rw[GF];exact Hk ih _ _
theorem ZV(E:Gd):((FY E).map Prod.fst).Nodup:=by refine Dt (P:=λE=>((FY E).map Prod.fst).Nodup) (by simp[FY]) (λE e ih=>?_) E;rw[F3];exact Hk ih _ _
def EW(T:List (Int×List Int))(a b:Int):List (Int×List Int):=C0 T a ((Bj T a).getD []++[b])
def EG(P:List (Int×Int)):List (Int×List Int):=P.foldl (λT p=>EW (EW T p.1 p.2) p.2 p.1) []
theorem HN(P:List (Int×Int))(p:Int×Int):EG (P++[p])=EW (EW (EG P) p.1 p.2) p.2 p.1:=by unfold EG;rw[foldl_append];rfl
theorem LW(T:List (Int×List Int))(a b c k:Int):k∈(Bj (EW T a b) c).getD []<->k∈(Bj T c).getD []\/(c=a/\k=b):=by
 unfold EW;rw[DB];by_cases h:c=a
 ·subst h;simp
 ·simp[h]
theorem SX(c k:Int):∀P:List (Int×Int),k∈(Bj (EG P) c).getD []<->(c,k)∈P\/(k,c)∈P:=Dt ⟨λh=>by simp[EG,Bj]at h,λh=>by simp at h⟩ λP p ih=>by
 rw[HN,LW,LW,ih,mem_append,mem_append,mem_singleton,mem_singleton];constructor
 ·rintro((h|⟨rfl,rfl⟩)|⟨rfl,rfl⟩)
  ·rcases h with h|h
   ·exact .inl (.inl h)
   ·exact .inr (.inl h)
  ·exact .inl (.inr Y)
  ·exact .inr (.inr Y)
 ·rintro((h|rfl)|(h|rfl))
  ·exact .inl (.inl (.inl h))
  ·exact .inl (.inr ⟨Y,Y⟩)
  ·exact .inl (.inl (.inr h))
  ·exact .inr ⟨Y,Y⟩
theorem I3(T:List (Int×List Int))(a b:Int)(B:Nat)(h:∀c,((Bj T c).getD []).length<=B):∀c,((Bj (EW T a b) c).getD []).length<=B+1:=λc=>by
 unfold EW;rw[DB];have h1:=h c;by_cases e:c=a
 ·subst e;simp;omega
 ·rw[if_neg e];omega
theorem LD:∀P:List (Int×Int),∀c,((Bj (EG P) c).getD []).length<=2*P.length:=Dt (λc=>by simp[EG,Bj]) λP p ih c=>by rw[HN,length_append,length_singleton];have:=I3 _ p.2 p.1 _ (I3 _ p.1 p.2 _ ih) c;omega
inductive Rch (J:Int->List Int):Int->Int->Prop
 | refl (a:Int):Rch J a a
 | step {a b k:Int}:Rch J a b->k∈J b->Rch J a k
theorem Rch.trans{J:Int->List Int}{a b c:Int}(h:Rch J a b)(h':Rch J b c):Rch J a c:=by
 induction h' with
 | refl=>exact h
 | step _ h1 ih=>exact .step ih h1
theorem Xd{E:Gd}(h2:∀e∈E,Fq E e.2.1=2){J:Int->List Int}(hJ:∀a k,k∈J a<->∃c p q,(E.filter λe=>decide (e.2.1=c)).map (λe=>e.1)=[p,q]/\((a=p/\k=q)\/(a=q/\k=p)))(a b:Int):Con E a b<->Rch J a b:=by
 have hin:∀{c p:Int} {l},(E.filter λe=>decide (e.2.1=c)).map (λe=>e.1)=l->p∈l->∃w,(p,c,w)∈E:=λ{c p l} e hp=>by rw[<-e]at hp;obtain⟨x,hx,rfl⟩:=List.mem_map.1 hp;obtain⟨h3,h4⟩:=List.mem_filter.1 hx;have h4:=of_decide_eq_true h4;exact⟨x.2.2,by rw[<-h4];exact h3⟩
 constructor
 ·intro h
  induction h with
  | refl=>exact .refl _
  | @step b d c w w' _ h3 h4 ih=>
   have hc:=h2 _ h3;rw[HZ]at hc;obtain⟨L,hL⟩:∃L,(E.filter λe=>decide (e.2.1=c)).map (λe=>e.1)=L:=⟨_,Y⟩
   have hl:L.length=2:=by rw[<-hL,length_map];have hc:((E.filter λe=>decide (e.2.1=c)).length:Int)=2:=hc;omega
   match L,hl with
   | [p,q],_=>
    have m1:b∈[p,q]:=by rw[<-hL];exact List.mem_map.2 ⟨_,List.mem_filter.2 ⟨h3,decide_eq_true Y⟩,Y⟩
    have m2:d∈[p,q]:=by rw[<-hL];exact List.mem_map.2 ⟨_,List.mem_filter.2 ⟨h4,decide_eq_true Y⟩,Y⟩
    simp only[mem_cons,List.not_mem_nil,or_false]at m1 m2;by_cases e:b=d
    ·subst e;exact ih
    ·refine .step ih ((hJ b d).2 ⟨c,p,q,hL,?_⟩);rcases m1 with m1|m1<;>rcases m2 with m2|m2
     ·exact absurd (m1.trans m2.symm) e
     ·exact .inl ⟨m1,m2⟩
     ·exact .inr ⟨m1,m2⟩
     ·exact absurd (m1.trans m2.symm) e
 ·intro h
  induction h with
  | refl=>exact .refl _
  | @step b k _ h3 ih=>
   obtain⟨c,p,q,hL,h4⟩:=(hJ b k).1 h3;obtain⟨w1,m1⟩:=hin hL Mh;obtain⟨w2,m2⟩:=hin hL (mem_cons_of_mem _ Mh);rcases h4 with ⟨rfl,rfl⟩|⟨rfl,rfl⟩
   ·exact .step ih m1 m2
   ·exact .step ih m2 m1
noncomputable def UV(E:Gd)(n:Nat):Int:=
 open Classical in
 if ¬∀e∈E,Eb E e.2.1=0 then 24
 else if ¬∀e∈E,Fq E e.2.1=2 then 25
 else if ¬(0<n/\∀i:Nat,i<n->Con E 0 i) then 25 else 0
open Go.Proofs.Tryz
variable {T:List (Int×Bool)} {n:Nat}
def vB(b:Bool):Value:=.bool b
theorem Rp(w:World):(zeroValue 4).run Tryz.prog w=.ok (vB false) w:=by rfl
theorem K6(w:World):(zeroValue 22).run Tryz.prog w=.ok (Lv (.slice none 0 0)) w:=by rfl
abbrev DH(T:List (Int×Bool)):List Int:=T.map Prod.fst
def JH(T:List (Int×Bool)):Prop:=∀p∈T,p.2=true
theorem Ij(h:JH T)(a:Int):(Bj T a).getD false=decide (a∈DH T):=by
 by_cases ha:a∈DH T
 ·rw[decide_eq_true ha];cases hg:Bj T a with
  | none=>
   exfalso;unfold Bj at hg;rw[Option.map_eq_none_iff,List.find?_eq_none]at hg;obtain⟨p,hp,e⟩:=List.mem_map.1 ha;have:=hg p hp;simp[e]at this
  | some b=>
   unfold Bj at hg;obtain⟨p,hp,rfl⟩:=Option.map_eq_some_iff.1 hg;exact h p (List.mem_of_find?_eq_some hp)
 ·rw[decide_eq_false ha,C7 ha];rfl
theorem Kf(h:JH T)(a:Int):JH (C0 T a true):=λp hp=>by
 unfold C0 at hp;split at hp
 ·obtain⟨q,hq,rfl⟩:=List.mem_map.1 hp;split
  ·rfl
  ·exact h q hq
 ·rcases List.mem_append.1 hp with hp|hp
  ·exact h p hp
  ·rw[List.mem_singleton.1 hp]
def ZG(n:Nat)(T:List (Int×Bool)):Nat:=((range n).filter λ(j:Nat)=>decide ((j:Int) ∉ DH T)).length
theorem UO{T':List (Int×Bool)}(h:∀x∈DH T,x∈DH T'):ZG n T'<=ZG n T:=by refine Go.Kuhn.nodup_le _ _ (List.Pairwise.filter _ List.nodup_range) λx hx=>?_;obtain⟨h1,h2⟩:=List.mem_filter.1 hx;exact List.mem_filter.2 ⟨h1,decide_eq_true λq=>of_decide_eq_true h2 (h _ q)⟩
theorem ZB{i:Nat}(hi:i<n)(hn:(i:Int) ∉ DH T)(b:Bool):ZG n (C0 T (i:Int) b)+1<=ZG n T:=by
 have h1:(i::(range n).filter λ(j:Nat)=>decide ((j:Int) ∉ DH (C0 T (i:Int) b))).Nodup:=by refine List.nodup_cons.2 ⟨λq=>?_,List.Pairwise.filter _ List.nodup_range⟩;have:=of_decide_eq_true (List.mem_filter.1 q).2;exact this ((DJ T _ _ _).2 (.inl Y))
 have h2:=Go.Kuhn.nodup_le _ ((range n).filter λ(j:Nat)=>decide ((j:Int) ∉ DH T)) h1 λx hx=>by
  rcases List.mem_cons.1 hx with rfl|hx
  ·exact List.mem_filter.2 ⟨List.mem_range.2 hi,decide_eq_true hn⟩
  ·obtain⟨h3,h4⟩:=List.mem_filter.1 hx;exact List.mem_filter.2 ⟨h3,decide_eq_true λq=>of_decide_eq_true h4 ((DJ T _ _ _).2 (.inr q))⟩
 unfold ZG;rw[length_cons]at h2;exact h2
structure AaV(J:Int->List Int)(n:Nat)(T T':List (Int×Bool))(i:Int):Prop where
 sub:∀x∈DH T,x∈DH T'
 me:i∈DH T'
 new:∀x∈DH T',x ∉ DH T->(Rch J i x/\∀k∈J x,k∈DH T')/\0<=x/\x<n
structure Aao(h:Hp)(gS gJ g16 g13 g17:Nat)(mM mB:Hp)(TJ:List (Int×List Int))(J:Int->List Int)(n:Nat):Prop where
 s:∀ms,Cell h ms (⟨g16,0,none⟩:Addr) (.map (some gS))
 j:∀ms,Cell h ms (⟨g13,0,none⟩:Addr) (.map (some gJ))
 f:∀ms,Cell h ms (⟨g17,0,none⟩:Addr) (.func (.func 142) #[] #[.pointer (some ⟨g16,0,none⟩),.pointer (some ⟨g13,0,none⟩),.pointer (some ⟨g17,0,none⟩)])
 m:OwnMS gJ mM mB TJ
 lM:mM.le h
 lB:mB.le h
 e:∀a,J a=(Bj TJ a).getD []
 nb:∀a,∀k∈J a,0<=k/\k<n
 l:∀a,(J a).length<=1000000
 b:n<=1000000
theorem UH{h:Hp}{gS gJ g16 g13 g17:Nat}{mM mB:Hp}{TJ:List (Int×List Int)}{J:Int->List Int}(V:Aao h gS gJ g16 g13 g17 mM mB TJ J n):∀(F:Nat) (i:Nat) (T:List (Int×Bool)) (bs:List Nat) (mS:Hp),i<n->CC kN vB gS BP mS T bs->JH T->ZG n T<F->FnT Tryz.prog 142 #[.int .i64 i,.pointer (some ⟨g16,0,none⟩),.pointer (some ⟨g13,0,none⟩),.pointer (some ⟨g17,0,none⟩)] h [mS] (λ_ h' ms'=>h=h'/\∃mS' T' bs',ms'=[mS']/\CC kN vB gS BP mS' T' bs'/\JH T'/\AaV J n T T' i):=by
 intro F
 induction F with
 | zero=>
  intro i T bs mS hi hO hA hF;omega
 | succ F ih=>
  intro i T bs mS hi hO hA hF;have hb:=V.b;have hiI:BP (i:Int):=by unfold BP;omega
  have hs1:=V.s;have hj1:=V.j;have hf1:=V.f;refine Av func142 ntmps142 Y Y (λw0 hw0=>?_);simp only[A3];refine Aw (Ql Y PL (hs1 _) (Qm Y (Qx (F5 (V:=vB) (z:=false) (i:Int) Bh hO (by simp) rfl PL Rp rfl rfl hiI) rfl ?_)));rw[Ij hA];refine Qm Y (Ap ?_);refine Bz Y (λhn=>?_) (λhn=>?_)
  ·have hni:(i:Int) ∉ DH T:=λq=>by rw[decide_eq_true q]at hn;cases hn
   obtain⟨Tv,bsv,hMv,hKv,_,hRv⟩:=V.m.look V.lB;obtain⟨vL,hvL⟩:∃vL,(Bj Tv (i:Int)).getD (.slice none 0 0)=vL:=⟨_,Y⟩
   have hRL:=hRv (i:Int);rw[hvL,<-V.e]at hRL;have ovL:=hRL.rd.one;have hLl:=V.l (i:Int);have hLn:=V.nb (i:Int);obtain⟨L,hL⟩:∃L,J (i:Int)=L:=⟨_,Y⟩
   rw[hL]at hRL hLl hLn;refine Aw (Ql Y PL (hs1 _) (Qm Y (BS (V:=vB) (z:=undef) 0 (i:Int) true Bh hO Y Y PL Y Y Y hiI Y Y (λmS1 Fw hO1=>?_))));have hA1:=Kf hA (i:Int);have hU1:=ZB hi hni true;obtain⟨T1,hT1⟩:∃T1,C0 T (i:Int) true=T1:=⟨_,Y⟩
   have hk1:∀x,x∈DH T1<->x=(i:Int)\/x∈DH T:=λx=>by rw[<-hT1];exact DJ T _ _ x
   rw[hT1]at hO1 hA1 hU1;refine BN (Ql Y Gs (hj1 _) (Qm Y (Qx (J5 (V:=Lv) (z:=(Value.slice none 0 0)) (i:Int) Bh hMv V.lM Y Gs K6 Y Y hiI) Y ?_)));rw[hvL];refine Qx (As hRL.rd.any Y A0 Y) Y (Qm Y (Ap (Ah ?_)))
   refine AD (λq sl h' ms'=>∃(t:Nat) (Tt:List (Int×Bool)) (bt:List Nat) (mt:Hp),q=L.length-t/\sl=[(3,.pointer (some ⟨g17,0,none⟩)),(15,vL),(16,.int .i64 L.length),(17,.int .i64 t)]/\h=h'/\ms'=[mt]/\t<=L.length/\CC kN vB gS BP mt Tt bt/\JH Tt/\(∀x∈DH T1,x∈DH Tt)/\(∀x∈DH Tt,x ∉ DH T1->(Rch J i x/\∀k∈J x,k∈DH Tt)/\0<=x/\x<n)/\∀j (hj:j<L.length),j<t->L[j]∈DH Tt)
    (L.length-0) _ ⟨0,T1,Fw,mS1,rfl,rfl,rfl,rfl,by omega,hO1,hA1,λx hx=>hx,λx h1 h2=>absurd h1 h2,λj hj h=>by omega⟩ Qs ?_
   rintro q sl h' ms' ⟨t,Tt,bt,mt,rfl,rfl,rfl,rfl,htl,hOt,hAt,hsub,hnew,hdone⟩;refine Aw (Qm Y (Ap (Ac ?_)));refine Ax Y (λhlt=>?_) (λhlt=>?_)
   ·have htl:t<L.length:=by omega
    obtain⟨k,hk⟩:∃k,L[t]=k:=⟨_,Y⟩
    have hkm:k∈L:=by rw[<-hk];exact getElem_mem htl
    obtain⟨hk0,hkn⟩:=hLn k hkm;obtain⟨kn,rfl⟩:=Int.eq_ofNat_of_zero_le hk0;have ck:∀ms,Cell h ms ((AJ vL).add (t*1)) (.int .i64 (kn:Int)):=λms=>by rw[<-hk];exact(hRL.any (ms:=ms)).cell0 htl Y
    refine Aj (Ab (Ac (Ah (Aw (Qx (BH (t) hRL.rd.any Y A0 Ba Y Y) Y (Ql Y U3 (ck _) (Qm Y (GH (Ql Y W9 (hf1 _) (Qm Y ?_))))))))));refine E7 (pre:=[mt]) Y Y call142 Y (ih kn Tt bt mt (by omega) hOt hAt (by have:=UO (n:=n) hsub;omega)) Y Y Y Y (λv' h' pre' l' hF=>?_);obtain⟨rfl,m2,T2,b2,rfl,hO2,hA2,R2⟩:=hF;simp only[cons_append,nil_append,append_nil];have hrk:Rch J i (kn:Int):=.step (.refl _) (by rw[hL];exact hkm);refine An (Ak (Ab (Ad (Qx (oA Y) Y (Qm Y (An ?_))))))
    exact Am (L.length-(t+1)) _ (by omega) ⟨t+1,T2,b2,m2,Y,Y,Y,Y,by omega,hO2,hA2,λx hx=>R2.sub x (hsub x hx),λx h1 h2=>by
     by_cases hx:x∈DH Tt
     ·obtain⟨⟨q1,q2⟩,q3⟩:=hnew x hx h2;exact⟨⟨q1,λk hk=>R2.sub k (q2 k hk)⟩,q3⟩
     ·obtain⟨⟨q1,q2⟩,q3⟩:=R2.new x h1 hx;exact⟨⟨hrk.trans q1,q2⟩,q3⟩,λj hj hjt=>by
     rcases (by omega:j<t\/j=t) with h1|rfl
     ·exact R2.sub _ (hdone j hj h1)
     ·rw[hk];exact R2.me⟩ Qs
   ·obtain rfl:t=L.length:=by omega
    have hV:AaV J n T Tt i:=by
     have hall:∀k∈J (i:Int),k∈DH Tt:=λk hk=>by rw[hL]at hk;obtain⟨j,hj,rfl⟩:=getElem_of_mem hk;exact hdone j hj hj
     refine⟨λx hx=>hsub x ((hk1 x).2 (.inr hx)),hsub _ ((hk1 _).2 (.inl Y)),λx h1 h2=>?_⟩;by_cases hx:x=(i:Int)
     ·subst hx;exact⟨⟨.refl _,hall⟩,by omega,by omega⟩
     ·exact hnew x h1 λq=>by
       rcases (hk1 x).1 q with q|q
       ·exact hx q
       ·exact h2 q
    refine Ay (Aa (Aa (Ag ?_)));exact B7 Y (⟨Y,mt,Tt,bt,Y,hOt,hAt,hV⟩)
  ·have him:(i:Int)∈DH T:=Classical.byContradiction λq=>by rw[decide_eq_false q]at hn;cases hn
   refine Aj ?_;exact B7 Y (⟨Y,mS,T,bs,Y,hO,hA,λx hx=>hx,him,λx h1 h2=>absurd h1 h2⟩)
end Go.Proofs.Q
