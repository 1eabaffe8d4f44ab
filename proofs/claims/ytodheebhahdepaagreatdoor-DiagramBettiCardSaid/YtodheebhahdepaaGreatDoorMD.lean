/- A part of the proof. -/
import Derived.Test.YtodheebhahdepaaGreatDoorMC
set_option linter.unusedSimpArgs false
set_option linter.unusedVariables false
set_option linter.unusedSectionVars false
set_option maxRecDepth 100000
set_option maxHeartbeats 4000000

open List (length_map length_singleton getElem_mem range length_append nil_append length_take mem_cons cons_append map_append mem_append length_nil length_drop append_nil map_cons length_set getElem_of_mem take_length append_assoc flatMap_cons length_cons mem_append_left range_succ drop_zero getElem_append_right sum_cons mem_of_mem_take take_of_length_le)
namespace Go.Proofs.Q
open Go.Proofs.Tryz
open Go.Eng Go.RowKit
structure OwS(S:S2)(v5 v6 v7 v8 v9:Value)(m5 m6 m7 m8 m9:Hp):Prop where
 i:OwnL cI 1 3 m5 v5 S.ids
 s:OwnL cI 1 3 m6 v6 S.su
 m:OwnL cI 1 3 m7 v7 S.ma
 p:OwnL cI 1 3 m8 v8 S.pa
 f:OwnL cI 1 3 m9 v9 S.fi
structure Rv(l:List Cl)(x:Cl):Prop where
 n:x.sd.length<=64
 sg:∀i,i<x.sd.length->(Bl x i).2=1\/(Bl x i).2=-1
 at_:∀i,i<x.sd.length->0<=Jm l (Bl x i).1
 yn:∀i,i<x.sd.length->(Fc l x i).sd.length<=64
 ys:∀i,i<x.sd.length->∀r∈(Fc l x i).sd,r.2=1\/r.2=-1
theorem Sp{l:List Cl}{x:Cl}(K:Rv l x):∀i,i<=x.sd.length->(G4 l x i).Ok (64*i) x.sd.length
 | 0,_=>⟨rfl,rfl,rfl,by simp[G4],Nat.le_refl _,fun y hy=>(by cases hy),fun y hy=>(by cases hy),fun y hy=>(by cases hy)⟩
 | i+1,hi=>by have h1:=S2.Ok.sides (i:=i) (by omega) (K.sg i (by omega)) (Fc l x i).sd _ _ ((Sp K i (by omega)).start (i:=i)) (K.ys i (by omega));have h2:=K.yn i (by omega);show(S2.sides _ _ _ _).Ok _ _;exact⟨h1.s,h1.m,h1.f,h1.p,by have:=h1.t;omega,fun y hy=>by have:=h1.sb y hy;omega,fun y hy=>by have:=h1.mb y hy;omega,h1.fb⟩
theorem AaE{l:List Ce}{y:Int}{k:Nat}(e:Jm (l.map Ce.c) y=k)(v:Value)(h:Hp)(hn:l.length<=100000)(hst:(l.map Ce.c).Pairwise fun a b=>a.id<=b.id)(hR:RdL cC 3 h [] v l)(ms:List Hp):FnV Tryz.prog 117 #[v,.int .i64 y] h ms (.int .i64 k):=e ▸ XK l v y h hn hst hR ms
theorem SC(l:List Ce)(x:Ce)(v:Value)(h:Hp)(hn:l.length<=100000)(K:Rv (l.map Ce.c) x.c)(hst:(l.map Ce.c).Pairwise fun a b=>a.id<=b.id)(hR:RdC h v l)(hX:RdL cD 2 h [] x.v x.c.sd):FnT Tryz.prog 140 #[v,.agg #[.int .i64 x.c.id,.int .i64 x.c.dim,x.v]] h [] (fun r _ _=>r=.int .i64 (DQ (l.map Ce.c) x.c)):=by
 have o1:=hR.q.rd.one;have o2:=hX.rd.one;have hxn:=K.n;refine Ao func140 ntmps140 rfl rfl (fun w0 hw0=>?_);simp only[AU];refine As (AS [_,_,_] rfl rfl (by rfl) rfl rfl rfl (fun g3=>Qm rfl (An (Aw fun h1 l1 hS=>?_))));have hR:=hR.up l1;have hX:=hX.up l1;have hA:=Seg.all hS;refine As (Qm rfl (Bv (Qm rfl (Bv (Qm rfl (Bv (Qf Bu rfl (Ql rfl BL (hA _ _ rfl _) (Qx (Ar hX.rd.any rfl BL rfl) rfl (CM (n:=_) rfl AY Be rfl rfl rfl (by rfl) (by rfl) (by omega) (by omega) rfl rfl rfl (fun g23=>Qm rfl (Bv ?_))))))))))));refine AE [] [] [] rfl AY Be rfl (by omega) (by kernel_rfl) (by repeat (first|exact trivial|refine⟨⟨by first|rfl|exact(hX.rd.any).cells|exact(hR.q.rd.any).cells|exact Rd.cells ‹_›|exact(RdL.rd ‹_›).cells,rfl,rfl⟩,?_⟩)) rfl rfl rfl rfl (fun g24=>?_);refine Qm rfl (An (Ac (As (Qm rfl (An (Ae (BB (BB (BB ?_)))))))))
 refine Az (fun q s hh ms'=>∃(i:Nat) (v5 v6 v7 v8 v9:Value) (m5 m6 m7 m8 m9:Hp),q=x.c.sd.length-i/\s=[(0,v),(3,.pointer (some ⟨g3,0,none⟩)),(5,v5),(6,v6),(7,v7),(8,v8),(9,v9),(10,.int .i64 i)]/\h1.le hh/\ms'=[m5,m6,m7,m9,m8]/\i<=x.c.sd.length/\OwS (G4 (l.map Ce.c) x.c i) v5 v6 v7 v8 v9 m5 m6 m7 m8 m9)
  (x.c.sd.length-0) _ ⟨0,_,_,_,_,_,Hp.emp,Hp.emp,Hp.emp,_,_,rfl,rfl,CY,rfl,by omega,⟨OwnL.nil AV,OwnL.nil AV,OwnL.nil AV,OwnL.rep _ 0 (by omega),ER g24 AV⟩⟩ Qs ?_
 rintro q s hh ms' ⟨i,v5,v6,v7,v8,v9,m5,m6,m7,m8,m9,rfl,rfl,lh,rfl,hi,W⟩;have hR:=hR.up lh;have hX:=hX.up lh;have hA:=Seg.all (hS.le lh);have KS:=Sp K i hi;refine Ac (As (Qm rfl (Qf Bu rfl (Ql rfl BL (hA _ _ rfl _) (Qx (Ar hX.rd.any rfl BL rfl) rfl (Qm rfl (An ?_)))))));refine Au rfl (fun hlt=>?_) (fun hlt=>?_)
 ·have hil:i<x.c.sd.length:=Cx hlt;obtain⟨k,hk⟩:∃k:Nat,Jm (l.map Ce.c) (Bl x.c i).1=k:=⟨(Jm (l.map Ce.c) (Bl x.c i).1).toNat,by have:=K.at_ i hil;omega⟩
  have hkl:k<l.length:=by have:=KZ (l.map Ce.c) (Bl x.c i).1;rw[hk,length_map]at this;omega
  have hy:Fc (l.map Ce.c) x.c i=l[k].c:=by unfold Fc;rw[hk];simp[List.getD,hkl]
  have hsi:=Bh hil;have hci:∀ms,Cell hh ms ((AG x.v).add (i*2)) (.int .i64 x.c.sd[i].1):=fun ms=>(hX.any (ms:=ms)).cell0 hil rfl;have hgk:∀ms,Seg hh ms ((AG v).add (k*3)) (cC l[k]):=fun ms=>(hR.q.any (ms:=ms)).seg hkl;have hY:=hR.s _ (getElem_mem hkl);have oy:=hY.rd.one;have o5:v5.oneCell'=true:=(W.i.rd (h:=hh) (ms:=[m5]) Mh).rd.one;have o6:v6.oneCell'=true:=(W.s.rd (h:=hh) (ms:=[m6]) Mh).rd.one;have o7:v7.oneCell'=true:=(W.m.rd (h:=hh) (ms:=[m7]) Mh).rd.one;have o8:v8.oneCell'=true:=(W.p.rd (h:=hh) (ms:=[m8]) Mh).rd.one;have o9:v9.oneCell'=true:=(W.f.rd (h:=hh) (ms:=[m9]) Mh).rd.one;have hpl:=KS.p;have hk':Jm (l.map Ce.c) x.c.sd[i].1=k:=by rw[<-hsi];exact hk
  refine Ah (Ab (Ac (Ae (As (Qm rfl (Qm rfl (Qm rfl (Qx (BG (i) (W.p.rd (h:=hh) (ms:=[m8]) Mh).rd rfl AY Be rfl rfl (by omega) (by omega)) rfl (Dc 4 i W.p rfl Be rfl rfl rfl (by omega) rfl rfl (fun m8 hO8=>?_))))))))));have W1:OwS ((G4 (l.map Ce.c) x.c i).start i) v5 v6 v7 v8 v9 m5 m6 m7 m8 m9:=⟨W.i,W.s,W.m,hO8,W.f⟩
  have K1:=KS.start (i:=i);refine Bv (Qm rfl (Qm rfl (Qf Bu rfl (Ql rfl BL (hA _ _ rfl _) (Qm rfl (Qx (BS (i) hX.rd.any rfl BL AH rfl rfl) rfl (Qf B4 rfl (Ql rfl U3 (hci _) (Qx (AF rfl call117 rfl (AaE hk' v hh hn hst hR.q _)) rfl (Qx (BS (k) hR.q.rd.any rfl Bs AI rfl rfl) rfl (Qx (oG rfl Fb AI (hgk _)) rfl (CC [.int .i64 0,.int .i64 0,.slice none 0 0] rfl AI rfl rfl (fun g11=>?_)))))))))))));refine Sa 0 [_,_,_] AI rfl (by simp[o1,o2,oy,o5,o6,o7,o8,o9]) ?_;refine An (Aw fun h2 l2 hS11=>?_);have hX:=hX.up l2;have hY:=hY.up l2;have hA:=Seg.all ((hS.le lh).le l2);have hA11:=Seg.all hS11;have hyn:l[k].c.sd.length<=64:=by have:=K.yn i hil;rwa [hy]at this
  have hys:∀r∈l[k].c.sd,r.2=1\/r.2=-1:=by have:=K.ys i hil;rwa [hy]at this
  have hsg:=K.sg i hil;have hstep:G4 (l.map Ce.c) x.c (i+1)=((G4 (l.map Ce.c) x.c i).start i).sides i (Bl x.c i).2 l[k].c.sd:=by rw[<-hy];rfl
  obtain⟨S0,hS0⟩:∃S0,(G4 (l.map Ce.c) x.c i).start i=S0:=⟨_,rfl⟩
  rw[hS0]at W1 K1 hstep;refine As (Qm rfl (An (Ae ?_)))
  refine Az (fun q s hh ms'=>∃(j:Nat) (v5 v6 v7 v8 v9:Value) (m5 m6 m7 m8 m9:Hp),q=l[k].c.sd.length-j/\s=[(0,v),(3,.pointer (some ⟨g3,0,none⟩)),(5,v5),(6,v6),(7,v7),(8,v8),(9,v9),(10,.int .i64 i),(11,.pointer (some ⟨g11,0,none⟩)),(12,.int .i64 j)]/\h2=hh/\ms'=[m5,m6,m7,m9,m8]/\j<=l[k].c.sd.length/\OwS (S0.sides i (Bl x.c i).2 (l[k].c.sd.take j)) v5 v6 v7 v8 v9 m5 m6 m7 m8 m9)
   (l[k].c.sd.length-0) _ ⟨0,_,_,_,_,_,_,_,_,_,_,rfl,rfl,rfl,rfl,by omega,W1⟩ Qs ?_
  rintro q s hh' ms' ⟨j,v5,v6,v7,v8,v9,m5,m6,m7,m8,m9,rfl,rfl,rfl,rfl,hj,W⟩;have hkj:=S2.Ok.sides (i:=i) hil hsg (l[k].c.sd.take j) S0 _ K1 (fun r hr=>hys r (mem_of_mem_take hr));rw[length_take]at hkj;refine Ac (As (Qm rfl (Qf Bu rfl (Ql rfl BL (hA11 _ _ rfl _) (Qx (Ar hY.rd.any rfl BL rfl) rfl (Qm rfl (An ?_)))))));refine Au rfl (fun hlt2=>?_) (fun hlt2=>?_)
  ·have hjl:j<l[k].c.sd.length:=Cx hlt2;have hnext:S0.sides i (Bl x.c i).2 (l[k].c.sd.take (j+1))=(S0.sides i (Bl x.c i).2 (l[k].c.sd.take j)).side i (Bl x.c i).2 l[k].c.sd[j]:=by rw[List.take_succ_eq_append_getElem hjl,S2.sides_snoc]
   obtain⟨S,hSS⟩:∃S,S0.sides i (Bl x.c i).2 (l[k].c.sd.take j)=S:=⟨_,rfl⟩
   obtain⟨T,hT⟩:∃T,64*i+min j l[k].c.sd.length=T:=⟨_,rfl⟩
   rw[hT]at hkj;rw[hSS]at W hkj hnext;have hT2:T<=4200:=by omega
   have hil2:=hkj.t;have hc0:∀ms,Cell h2 ms ((AG l[k].v).add (j*2)) (.int .i64 l[k].c.sd[j].1):=fun ms=>(hY.any (ms:=ms)).cell0 hjl rfl;have hc1:∀ms,Cell h2 ms (((AG l[k].v).add (j*2)).add 1) (.int .i64 l[k].c.sd[j].2):=fun ms=>(hY.any (ms:=ms)).cell hjl (f:=1) rfl;have hcx:∀ms,Cell h2 ms (((AG x.v).add (i*2)).add 1) (.int .i64 x.c.sd[i].2):=fun ms=>(hX.any (ms:=ms)).cell hil (f:=1) rfl;have o5:v5.oneCell'=true:=(W.i.rd (h:=h2) (ms:=[m5]) Mh).rd.one;have o6:v6.oneCell'=true:=(W.s.rd (h:=h2) (ms:=[m6]) Mh).rd.one;have o7:v7.oneCell'=true:=(W.m.rd (h:=h2) (ms:=[m7]) Mh).rd.one;have o8:v8.oneCell'=true:=(W.p.rd (h:=h2) (ms:=[m8]) Mh).rd.one;have o9:v9.oneCell'=true:=(W.f.rd (h:=h2) (ms:=[m9]) Mh).rd.one;obtain⟨r,hr⟩:∃r,l[k].c.sd[j]=r:=⟨_,rfl⟩
   rw[hr]at hc0 hc1 hnext;refine Ah (Ab ?_);refine A3 (fun s h' ms'=>∃(v5 v6 v7 v8 v9:Value) (m5 m6 m7 m8 m9:Hp),s=[(0,v),(3,.pointer (some ⟨g3,0,none⟩)),(5,v5),(6,v6),(7,v7),(8,v8),(9,v9),(10,.int .i64 i),(11,.pointer (some ⟨g11,0,none⟩)),(12,.int .i64 j)]/\h2=h'/\ms'=[m5,m6,m7,m9,m8]/\OwS (S0.sides i (Bl x.c i).2 (l[k].c.sd.take (j+1))) v5 v6 v7 v8 v9 m5 m6 m7 m8 m9) ?_ (fun s h ms hI=>?_)
   ·refine Ae (As (Qm rfl (An ?_)));refine A3 (fun s h' ms'=>s=[(0,v),(3,.pointer (some ⟨g3,0,none⟩)),(5,v5),(6,v6),(7,v7),(8,v8),(9,v9),(10,.int .i64 i),(11,.pointer (some ⟨g11,0,none⟩)),(12,.int .i64 j),(13,.int .i64 (Ei S.ids r.1))]/\h2=h'/\ms'=[m5,m6,m7,m9,m8]) ?_ (fun s h ms hI=>?_)
    ·have hri:=W.i.rd (h:=h2) (ms:=[m5,m6,m7,m9,m8]) Mh;refine Ae ?_
     refine Az (fun q s h' ms'=>∃(a:Nat),q=S.ids.length-a/\s=[(0,v),(3,.pointer (some ⟨g3,0,none⟩)),(5,v5),(6,v6),(7,v7),(8,v8),(9,v9),(10,.int .i64 i),(11,.pointer (some ⟨g11,0,none⟩)),(12,.int .i64 j),(13,.int .i64 a)]/\h2=h'/\ms'=[m5,m6,m7,m9,m8]/\a<=S.ids.length/\∀b (hb:b<S.ids.length),b<a->S.ids[b]≠r.1)
      (S.ids.length-0) _ ⟨0,rfl,rfl,rfl,rfl,by omega,fun b hb h=>by omega⟩ Qs ?_
     rintro q s h' ms' ⟨a,rfl,rfl,rfl,rfl,ha,hno⟩;refine Ac (Ac (Bc 15 CP (by kernel_rfl) rfl (Wm rfl (Wm rfl (AP (Ar hri.rd rfl AY rfl) rfl rfl (Wm rfl (Wm rfl ?_)))))));refine Ct (t:=58) rfl (fun hs1=>?_) (fun hs1=>?_)
     ·have hal:a<S.ids.length:=Cx hs1;have hca:Cell h2 [m5,m6,m7,m9,m8] ((AG v5).add (a*1)) (.int .i64 S.ids[a]):=hri.cell0 hal rfl;refine AL (Ay rfl rfl) rfl rfl rfl rfl (AL (Ay rfl rfl) rfl rfl rfl rfl (AL (BS (a) hri.rd rfl AY Be rfl rfl) rfl rfl rfl rfl (AL (oL rfl U3 (hca)) rfl rfl rfl rfl (AL (oF Bu rfl) rfl rfl rfl rfl (AL (oL rfl BL (hA11 _ _ rfl _)) rfl rfl rfl rfl (AL (Ay rfl rfl) rfl rfl rfl rfl (AL (BS (j) hY.rd.any rfl BL AH rfl rfl) rfl rfl rfl rfl (AL (oF B4 rfl) rfl rfl rfl rfl (AL (oL rfl U3 (hc0 _)) rfl rfl rfl rfl (AZ (Qg (EZ rfl rfl rfl) rfl (Qm rfl (An ?_)))))))))))));refine Au rfl (fun hs2=>?_) (fun hs2=>?_)
      ·refine Ah (Ab (Ae (Ad (Qm rfl (Qx (oA rfl) rfl (Qm rfl (Aj (Ai ?_))))))))
       exact Ak (S.ids.length-(a+1)) _ (by omega) ⟨a+1,rfl,rfl,rfl,rfl,by omega,fun b hb h=>by
        rcases (by omega:b<a\/b=a) with h1|rfl
        ·exact hno b hb h1
        ·exact hs2⟩ Qs
      ·have hf:Ei S.ids r.1=a:=N0 ha hno fun _=>Classical.byContradiction fun q=>hs2 q;refine Av (Aa (Aa (Af ?_)));rw[hf];exact AA _ ⟨rfl,rfl,rfl⟩ Qs
     ·have hf:Ei S.ids r.1=a:=N0 ha hno fun h=>absurd h (by omega);refine Ax rfl rfl rfl rfl rfl (Ax rfl rfl rfl rfl rfl (Ax rfl rfl rfl rfl rfl (Ax rfl rfl rfl rfl rfl (Ax rfl rfl rfl rfl rfl (Ax rfl rfl rfl rfl rfl (Ax rfl rfl rfl rfl rfl (Ax rfl rfl rfl rfl rfl (Ax rfl rfl rfl rfl rfl (Ax rfl rfl rfl rfl rfl (AZ (Qk rfl (Qm rfl (An (AQ rfl (Av (Aa (Aa (Af ?_))))))))))))))))));rw[hf];exact AA _ ⟨rfl,rfl,rfl⟩ Qs
    ·obtain⟨rfl,rfl,rfl⟩:=hI;refine A3 (fun s h' ms'=>∃(v5 v6 v7 v8 v9:Value) (m5 m6 m7 m8 m9:Hp),s=[(0,v),(3,.pointer (some ⟨g3,0,none⟩)),(5,v5),(6,v6),(7,v7),(8,v8),(9,v9),(10,.int .i64 i),(11,.pointer (some ⟨g11,0,none⟩)),(12,.int .i64 j),(13,.int .i64 (Ei S.ids r.1))]/\h2=h'/\ms'=[m5,m6,m7,m9,m8]/\OwS (S.add i r.1) v5 v6 v7 v8 v9 m5 m6 m7 m8 m9) ?_ (fun s h ms hI=>?_)
     ·refine Ac (Ad (Qm rfl (Qm rfl (Qx (Ar (W.i.rd (h:=h2) (ms:=[m5,m6,m7,m9,m8]) Mh).rd rfl AY rfl) rfl (Qm rfl (An ?_))))));refine Au rfl (fun hnew=>?_) (fun hnew=>?_)
      ·have hadd:S.add i r.1=⟨S.ids++[r.1],S.su++[0],S.ma++[0],S.fi++[(i:Int)],S.pa⟩:=by unfold S2.add;rw[if_pos (by omega)]
       have e1:=hkj.s;have e2:=hkj.m;have e3:=hkj.f;refine As (Qm rfl (Qf Bu rfl (Ql rfl BL (hA11 _ _ rfl _) (Qm rfl (Qx (BS (j) hY.rd.any rfl BL AH rfl rfl) rfl (Qf B4 rfl (Ql rfl U3 (hc0 _) (Aq [_] rfl AY Be rfl (by rfl) rfl rfl (by omega) rfl rfl rfl (fun g84=>AM 1 W.i (RdL.one AV (x:=r.1) Mh rfl) rfl AY Be rfl (by omega) rfl rfl rfl B5 (by(try simp only[length_singleton]);omega) (by(try simp only[length_singleton]);omega) rfl rfl rfl (fun w5 n5 hN5=>?_))))))))));have p5:=hN5.o1;refine Qm rfl (Bv (Qm rfl (Aq [_] rfl AY Be rfl (by rfl) rfl rfl (by omega) rfl rfl rfl (fun g87=>AM 3 W.s (RdL.one AV (x:=0) Mh rfl) rfl AY Be rfl (by omega) rfl rfl rfl B5 (by(try simp only[length_singleton]);omega) (by(try simp only[length_singleton]);omega) rfl rfl rfl (fun w6 n6 hN6=>?_)))));have p6:=hN6.o1;refine Qm rfl (Bv (Qm rfl (Aq [_] rfl AY Be rfl (by rfl) rfl rfl (by omega) rfl rfl rfl (fun g90=>AM 5 W.m (RdL.one AV (x:=0) Mh rfl) rfl AY Be rfl (by omega) rfl rfl rfl B5 (by(try simp only[length_singleton]);omega) (by(try simp only[length_singleton]);omega) rfl rfl rfl (fun w7 n7 hN7=>?_)))));have p7:=hN7.o1;refine Qm rfl (Gh (Qm rfl (Qm rfl (Aq [_] rfl AY Be rfl (by rfl) rfl rfl (by omega) rfl rfl rfl (fun g94=>AM 7 W.f (RdL.one AV (x:=(i:Int)) Mh rfl) rfl AY Be rfl (by omega) rfl rfl rfl B5 (by(try simp only[length_singleton]);omega) (by(try simp only[length_singleton]);omega) rfl rfl rfl (fun w9 n9 hN9=>?_))))));have p9:=hN9.o1;refine Qm rfl (Aj ?_);refine AN (AN (AN (AN ?_)));exact AA _ ⟨w5,w6,w7,v8,w9,n5,n6,n7,m8,n9,rfl,rfl,rfl,by rw[hadd];exact⟨hN5,hN6,hN7,W.p,hN9⟩⟩ Qs
      ·have hadd:S.add i r.1=S:=by unfold S2.add;rw[if_neg (by omega)]
       refine Ah ?_;exact AA _ ⟨v5,v6,v7,v8,v9,m5,m6,m7,m8,m9,rfl,rfl,rfl,by rw[hadd];exact W⟩ Qs
     ·obtain⟨v5,v6,v7,v8,v9,m5,m6,m7,m8,m9,rfl,rfl,rfl,W⟩:=hI;have hK2:=hkj.add hil r.1;have hSU:=S2.add_su hkj i r.1;have hrm:r∈l[k].c.sd:=by rw[<-hr];exact getElem_mem hjl
      have hw:=PI hsg (hys r hrm);obtain⟨kf,hkf⟩:∃kf,Ei S.ids r.1=kf:=⟨_,rfl⟩
      obtain⟨U,hU⟩:∃U,S.add i r.1=U:=⟨_,rfl⟩
      have hres:S.side i (Bl x.c i).2 r=U.hit i kf ((Bl x.c i).2*r.2):=by unfold S2.side;rw[hU,hkf]
      rw[hsi]at hw hres;rw[hU]at W hK2 hSU;rw[hkf]at hK2 ⊢;rw[hsi]at hnext;obtain⟨KU,hkl2⟩:=hK2;have hsl:kf<U.su.length:=by rw[KU.s];exact hkl2
      have hml:kf<U.ma.length:=by rw[KU.m];exact hkl2
      have hfl:kf<U.fi.length:=by rw[KU.f];exact hkl2
      have hsb:=hSU.1 _ (getElem_mem hsl);have hmb:=hSU.2 _ (getElem_mem hml);have hfb:=KU.fb _ (getElem_mem hfl);obtain⟨f,hf⟩:∃f:Nat,U.fi[kf]=f:=⟨U.fi[kf].toNat,by omega⟩
      have hfp:f<U.pa.length:=by rw[KU.p];omega
      have hip:i<U.pa.length:=by rw[KU.p];exact hil
      have o5:v5.oneCell'=true:=(W.i.rd (h:=h2) (ms:=[m5]) Mh).rd.one;have o6:v6.oneCell'=true:=(W.s.rd (h:=h2) (ms:=[m6]) Mh).rd.one;have o7:v7.oneCell'=true:=(W.m.rd (h:=h2) (ms:=[m7]) Mh).rd.one;have o8:v8.oneCell'=true:=(W.p.rd (h:=h2) (ms:=[m8]) Mh).rd.one;have o9:v9.oneCell'=true:=(W.f.rd (h:=h2) (ms:=[m9]) Mh).rd.one;have c6:∀ms,m6∈ms->Cell h2 ms ((AG v6).add (kf*1)) (.int .i64 U.su[kf]):=fun ms hm=>(W.s.rd (h:=h2) hm).cell0 hsl rfl;have c7:∀ms,m7∈ms->Cell h2 ms ((AG v7).add (kf*1)) (.int .i64 U.ma[kf]):=fun ms hm=>(W.m.rd (h:=h2) hm).cell0 hml rfl;have c9:∀ms,m9∈ms->Cell h2 ms ((AG v9).add (kf*1)) (.int .i64 f):=fun ms hm=>by have:=(W.f.rd (h:=h2) hm).cell0 hfl rfl;rw[hf]at this;exact this
      have c8f:∀ms,m8∈ms->Cell h2 ms ((AG v8).add (f*1)) (.int .i64 U.pa[f]):=fun ms hm=>(W.p.rd (h:=h2) hm).cell0 hfp rfl;have c8i:∀ms,m8∈ms->Cell h2 ms ((AG v8).add (i*1)) (.int .i64 U.pa[i]):=fun ms hm=>(W.p.rd (h:=h2) hm).cell0 hip rfl;refine Ac (Dw 19 [true,true] CP (by kernel_rfl) (by kernel_rfl) (by kernel_rfl) (DZ rfl rfl rfl rfl (B8 rfl rfl) (DZ rfl rfl rfl rfl (B8 rfl rfl) ?_)));refine⟨rfl,?_⟩;simp only[Eh,zap,cons_append,nil_append,List.take_succ_cons,List.take_zero,List.drop_succ_cons,drop_zero,List.take_nil,List.drop_nil];refine DU rfl rfl rfl (DU rfl rfl rfl (Wm rfl (Wm rfl (AP (BG (kf) (W.s.rd (h:=h2) (ms:=[m6]) Mh).rd rfl AY Be rfl rfl (by omega) (by omega)) rfl rfl ?_))));refine Wl rfl U3 (c6 _ (by repeat (first|exact Mh|refine List.Mem.tail _ ?_))) ?_;refine Wf Bu rfl (Wl rfl BL (hA _ _ rfl _) (Wm rfl (AP (BS (i) hX.rd.any rfl BL AH rfl rfl) rfl rfl (Wf Cp rfl (Wl rfl U3 (hcx _) (Wf Bu rfl (Wl rfl BL (hA11 _ _ rfl _) (Wm rfl (AP (BS (j) hY.rd.any rfl BL AH rfl rfl) rfl rfl (Wf Cp rfl (Wl rfl U3 (hc1 _) (AP (oM rfl) rfl rfl (AZ (Qx (oA rfl) rfl (Qx (BG (kf) (W.s.rd (h:=h2) (ms:=[m6]) Mh).rd rfl AY Be rfl rfl (by omega) (by omega)) rfl (Dc 1 kf W.s rfl Be rfl rfl rfl hsl rfl rfl (fun n6 hN6=>Aj (Hc (Ab (As (Qm rfl (Qm rfl (Qx (BG (kf) (W.m.rd (h:=h2) (ms:=[m7]) Mh).rd rfl AY Be rfl rfl (by omega) (by omega)) rfl ?_)))))))))))))))))))))));refine Ql rfl U3 (c7 _ (by repeat (first|exact Mh|refine List.Mem.tail _ ?_))) ?_;refine Qx (oA rfl) rfl (Qx (BG (kf) (W.m.rd (h:=h2) (ms:=[m7]) Mh).rd rfl AY Be rfl rfl (by omega) (by omega)) rfl (Dc 2 kf W.m rfl Be rfl rfl rfl hml rfl rfl (fun n7 hN7=>Bv (Qm rfl (Qm rfl (Qm rfl (Qx (BG (kf) (W.f.rd (h:=h2) (ms:=[m9]) Mh).rd rfl AY Be rfl rfl (by omega) (by omega)) rfl ?_)))))));refine Ql rfl U3 (c9 _ (by repeat (first|exact Mh|refine List.Mem.tail _ ?_))) ?_;refine Qx (BG (f) (W.p.rd (h:=h2) (ms:=[m8]) Mh).rd rfl AY Be rfl rfl (by omega) (by omega)) rfl ?_;refine Ql rfl U3 (c8f _ (by repeat (first|exact Mh|refine List.Mem.tail _ ?_))) ?_;refine Qm rfl (Bv (Qm rfl (Qm rfl (Qx (BG (i) (W.p.rd (h:=h2) (ms:=[m8]) Mh).rd rfl AY Be rfl rfl (by omega) (by omega)) rfl ?_))));refine Ql rfl U3 (c8i _ (by repeat (first|exact Mh|refine List.Mem.tail _ ?_))) ?_;refine Qm rfl (Bv (Qm rfl (An (Ae ?_))))
      refine Az (fun q s h' ms'=>∃(a:Nat) (m8:Hp),q=i+1-a/\s=[(0,v),(3,.pointer (some ⟨g3,0,none⟩)),(5,v5),(6,v6),(7,v7),(8,v8),(9,v9),(10,.int .i64 i),(11,.pointer (some ⟨g11,0,none⟩)),(12,.int .i64 j),(14,.int .i64 U.pa[f]),(15,.int .i64 U.pa[i]),(16,.int .i64 a)]/\h2=h'/\ms'=[m5,n6,n7,m9,m8]/\a<=i+1/\OwnL cI 1 3 m8 v8 (Fm U.pa a U.pa[i] U.pa[f]))
       (i+1-0) _ ⟨0,m8,rfl,rfl,rfl,rfl,by omega,by rw[Tj];exact W.p⟩ Qs ?_
      rintro q s h' ms' ⟨a,m8',rfl,rfl,rfl,rfl,ha,hO8⟩;refine Ac (As (Qm rfl (Qm rfl (Qm rfl (An ?_)))));refine Au rfl (fun hla=>?_) (fun hla=>?_)
      ·have hap:a<U.pa.length:=by omega
       have hal:a<(Fm U.pa a U.pa[i] U.pa[f]).length:=by rw[C8];exact hap
       have hga:(Fm U.pa a U.pa[i] U.pa[f])[a]=U.pa[a]:=by rw[EN hap,if_neg (fun q=>absurd q.1 (Nat.lt_irrefl _))]
       have hca:Cell h2 [m5,n6,n7,m9,m8'] ((AG v8).add (a*1)) (.int .i64 U.pa[a]):=by have:=(hO8.rd (h:=h2) (ms:=[m5,n6,n7,m9,m8']) (by repeat (first|exact Mh|refine List.Mem.tail _ ?_))).cell0 hal rfl;rw[hga]at this;exact this
       refine Ah (Ab (Ac (Ae (As (Qm rfl (Qm rfl (Qx (BG (a) (hO8.rd (h:=h2) (ms:=[m8']) Mh).rd rfl AY Be rfl rfl (by omega) (by omega)) rfl (Ql rfl U3 (hca) (Qm rfl (Qm rfl (An ?_)))))))))));refine Au rfl (fun hq=>?_) (fun hq=>?_)
       ·refine Ad (Qm rfl (Qm rfl (Qm rfl (Qx (BG (a) (hO8.rd (h:=h2) (ms:=[m8']) Mh).rd rfl AY Be rfl rfl (by omega) (by omega)) rfl (Dc 4 a hO8 rfl Be rfl rfl rfl hal rfl rfl (fun n8 hN8=>?_))))));rw[V5 hap hq]at hN8;refine Aj (Ai (Ab (Ad (Qm rfl (Qx (oA rfl) rfl (Qm rfl (Aj ?_)))))));exact Ak (i+1-(a+1)) _ (by omega) ⟨a+1,n8,rfl,rfl,rfl,rfl,by omega,hN8⟩ Qs
       ·rw[XF hap hq]at hO8;refine Ah (Ai (Ab (Ad (Qm rfl (Qx (oA rfl) rfl (Qm rfl (Aj ?_)))))));exact Ak (i+1-(a+1)) _ (by omega) ⟨a+1,m8',rfl,rfl,rfl,rfl,by omega,hO8⟩ Qs
      ·obtain rfl:a=i+1:=by omega
       have g6:U.su.getD kf 0=U.su[kf]:=by simp[List.getD,hsl]
       have g7:U.ma.getD kf 0=U.ma[kf]:=by simp[List.getD,hml]
       have g9:(U.fi.getD kf 0).toNat=f:=by rw[show U.fi.getD kf 0=U.fi[kf] by simp[List.getD,hfl],hf];rfl
       have g8:U.pa.getD f 0=U.pa[f]:=by simp[List.getD,hfp]
       have g8':U.pa.getD i 0=U.pa[i]:=by simp[List.getD,hip]
       have hH:U.hit i kf (x.c.sd[i].2*r.2)=⟨U.ids,U.su.set kf (U.su[kf]+x.c.sd[i].2*r.2),U.ma.set kf (U.ma[kf]+1),U.fi,Fm U.pa (i+1) U.pa[i] U.pa[f]⟩:=by unfold S2.hit;rw[g6,g7,g9,g8,g8']
       have hWn:OwS (S0.sides i (Bl x.c i).2 (l[k].c.sd.take (j+1))) v5 v6 v7 v8 v9 m5 n6 n7 m8' m9:=by rw[hsi,hnext,hres,hH];exact⟨W.i,hN6,hN7,hO8,W.f⟩
       refine Av (Aa (Aa (Af (Ai ?_))));exact AA _ ⟨v5,v6,v7,v8,v9,m5,n6,n7,m8',m9,rfl,rfl,rfl,hWn⟩ Qs
   ·obtain⟨v5,v6,v7,v8,v9,m5,m6,m7,m8,m9,rfl,rfl,rfl,W⟩:=hI;refine Ad (Qm rfl (Qx (oA rfl) rfl (Qm rfl (Aj ?_))));exact Ak (l[k].c.sd.length-(j+1)) _ (by omega) ⟨j+1,v5,v6,v7,v8,v9,m5,m6,m7,m8,m9,rfl,rfl,rfl,rfl,by omega,W⟩ Qs
  ·have hje:j=l[k].c.sd.length:=by omega
   rw[hje,take_length,<-hstep]at W;refine Av (Aa (Aa (Af (Ai (Ab (Ad (Qm rfl (Qx (oA rfl) rfl (Qm rfl (Aj ?_))))))))));exact Ak (x.c.sd.length-(i+1)) _ (by omega) ⟨i+1,v5,v6,v7,v8,v9,m5,m6,m7,m8,m9,rfl,rfl,AJ lh l2,rfl,by omega,W⟩ Qs
 ·obtain rfl:i=x.c.sd.length:=by omega
  obtain⟨S,hS⟩:∃S,G4 (l.map Ce.c) x.c x.c.sd.length=S:=⟨_,rfl⟩
  have hsec:DQ (l.map Ce.c) x.c=(if ¬∀y∈S.su,y=0 then 24 else if ¬∀y∈S.ma,y=2 then 25 else if ¬∀y∈S.pa,y=S.pa.getD 0 0 then 25 else 0):=by unfold DQ;rw[hS]
  rw[hS]at W KS;have r6:=W.s.rd (h:=hh) (ms:=[m5,m6,m7,m9,m8]) (by repeat (first|exact Mh|refine List.Mem.tail _ ?_));have r7:=W.m.rd (h:=hh) (ms:=[m5,m6,m7,m9,m8]) (by repeat (first|exact Mh|refine List.Mem.tail _ ?_));have r8:=W.p.rd (h:=hh) (ms:=[m5,m6,m7,m9,m8]) (by repeat (first|exact Mh|refine List.Mem.tail _ ?_));clear hlt hi hR hX hA;refine Av (Aa (Aa (Af (Ab (Ac (As (Qm rfl (An (Ae ?_)))))))))
  refine Az (fun q s h' ms'=>∃(a:Nat),q=S.su.length-a/\s=[(6,v6),(7,v7),(8,v8),(17,.int .i64 a)]/\hh=h'/\ms'=[m5,m6,m7,m9,m8]/\a<=S.su.length/\∀b (hb:b<S.su.length),b<a->S.su[b]=0)
   (S.su.length-0) _ ⟨0,rfl,rfl,rfl,rfl,by omega,fun b hb h=>by omega⟩ Qs ?_
  rintro q s h' ms' ⟨a,rfl,rfl,rfl,rfl,ha,hno⟩;have r6l:=r6.len_le;refine Ac (As (Qm rfl (Qm rfl (Qx (Ar r6.rd rfl AY rfl) rfl (Qm rfl (An ?_))))));refine Au rfl (fun hl6=>?_) (fun hl6=>?_)
  ·have hal:a<S.su.length:=Cx hl6;have hca:=r6.cell0 hal rfl;refine Ah (Ab (Ac (Ae (As (Qm rfl (Qm rfl (Qx (BS (a) r6.rd rfl AY Be rfl rfl) rfl (Ql rfl U3 (hca) (Qm rfl (An ?_))))))))));refine Au rfl (fun hq=>?_) (fun hq=>?_)
   ·refine Ac (Ad (Qm rfl (An (Am (Al (Ag (Ag (Al (Ag ?_)))))))));exact Ap rfl rfl (by rw[hsec,if_pos (fun q=>hq (q _ (getElem_mem hal)))])
   ·have hq:S.su[a]=0:=Classical.byContradiction fun q=>hq q;refine Ah (Ai (Ab (Ad (Qm rfl (Qx (oA rfl) rfl (Qm rfl (Aj ?_)))))))
    exact Ak (S.su.length-(a+1)) _ (by omega) ⟨a+1,rfl,rfl,rfl,rfl,by omega,fun b hb h=>by
     rcases (by omega:b<a\/b=a) with h1|rfl
     ·exact hno b hb h1
     ·exact hq⟩ Qs
  ·have B7:∀y∈S.su,y=0:=fun y hy=>by obtain⟨b,hb,rfl⟩:=List.mem_iff_getElem.1 hy;exact hno b hb (by omega)
   rw[if_neg (fun q=>q B7)]at hsec;clear hno hl6 ha;refine Av (Aa (Aa (Af (Ab (Ac (As (Qm rfl (An (Ae ?_)))))))))
   refine Az (fun q s h' ms'=>∃(a:Nat),q=S.ma.length-a/\s=[(7,v7),(8,v8),(18,.int .i64 a)]/\hh=h'/\ms'=[m5,m6,m7,m9,m8]/\a<=S.ma.length/\∀b (hb:b<S.ma.length),b<a->S.ma[b]=2)
    (S.ma.length-0) _ ⟨0,rfl,rfl,rfl,rfl,by omega,fun b hb h=>by omega⟩ Qs ?_
   rintro q s h' ms' ⟨a,rfl,rfl,rfl,rfl,ha,hno⟩;have r7l:=r7.len_le;refine Ac (As (Qm rfl (Qm rfl (Qx (Ar r7.rd rfl AY rfl) rfl (Qm rfl (An ?_))))));refine Au rfl (fun hl7=>?_) (fun hl7=>?_)
   ·have hal:a<S.ma.length:=Cx hl7;have hca:=r7.cell0 hal rfl;refine Ah (Ab (Ac (Ae (As (Qm rfl (Qm rfl (Qx (BS (a) r7.rd rfl AY Be rfl rfl) rfl (Ql rfl U3 (hca) (Qm rfl (An ?_))))))))));refine Au rfl (fun hq=>?_) (fun hq=>?_)
    ·refine Ac (Ad (Qm rfl (An (Am (Al (Ag (Ag (Al (Ag ?_)))))))));exact Ap rfl rfl (by rw[hsec,if_pos (fun q=>hq (q _ (getElem_mem hal)))])
    ·have hq:S.ma[a]=2:=Classical.byContradiction fun q=>hq q;refine Ah (Ai (Ab (Ad (Qm rfl (Qx (oA rfl) rfl (Qm rfl (Aj ?_)))))))
     exact Ak (S.ma.length-(a+1)) _ (by omega) ⟨a+1,rfl,rfl,rfl,rfl,by omega,fun b hb h=>by
      rcases (by omega:b<a\/b=a) with h1|rfl
      ·exact hno b hb h1
      ·exact hq⟩ Qs
   ·have hall2:∀y∈S.ma,y=2:=fun y hy=>by obtain⟨b,hb,rfl⟩:=List.mem_iff_getElem.1 hy;exact hno b hb (by omega)
    rw[if_neg (fun q=>q hall2)]at hsec;clear hno hl7 ha;refine Av (Aa (Aa (Af (Ab (Ac (As (Qm rfl (An (Ae ?_)))))))))
    refine Az (fun q s h' ms'=>∃(a:Nat),q=S.pa.length-a/\s=[(8,v8),(19,.int .i64 a)]/\hh=h'/\ms'=[m5,m6,m7,m9,m8]/\a<=S.pa.length/\∀b (hb:b<S.pa.length),b<a->S.pa[b]=S.pa.getD 0 0)
     (S.pa.length-0) _ ⟨0,rfl,rfl,rfl,rfl,by omega,fun b hb h=>by omega⟩ Qs ?_
    rintro q s h' ms' ⟨a,rfl,rfl,rfl,rfl,ha,hno⟩;have r8l:=r8.len_le;refine Ac (As (Qm rfl (Qm rfl (Qx (Ar r8.rd rfl AY rfl) rfl (Qm rfl (An ?_))))));refine Au rfl (fun hl8=>?_) (fun hl8=>?_)
    ·have hal:a<S.pa.length:=Cx hl8;have h0l:0<S.pa.length:=by omega
     have g0:S.pa.getD 0 0=S.pa[0]:=by simp[List.getD,h0l]
     have hca:=r8.cell0 hal rfl;have hc0:=r8.cell0 h0l rfl;refine Ah (Ab (Ac (Ae (Ac (Bc 7 CP (by kernel_rfl) rfl (Wm rfl (Wm rfl (AP (BS (a) r8.rd rfl AY Be rfl rfl) rfl rfl (Wl rfl U3 (hca) (Wm rfl (AP (BS (0) r8.rd rfl AY Be rfl rfl) rfl rfl (Wl rfl U3 (hc0) (AZ (Qm rfl (An ?_)))))))))))))));refine Au rfl (fun hq=>?_) (fun hq=>?_)
     ·refine Ac (Ad (Qm rfl (An (Am (Al (Ag (Ag (Al (Ag ?_)))))))));exact Ap rfl rfl (by rw[hsec,if_pos (fun q=>hq (by rw[<-g0];exact q _ (getElem_mem hal)))])
     ·have hq:S.pa[a]=S.pa.getD 0 0:=by rw[g0];exact Classical.byContradiction fun q=>hq q
      refine Ah (Ai (Ab (Ad (Qm rfl (Qx (oA rfl) rfl (Qm rfl (Aj ?_)))))))
      exact Ak (S.pa.length-(a+1)) _ (by omega) ⟨a+1,rfl,rfl,rfl,rfl,by omega,fun b hb h=>by
       rcases (by omega:b<a\/b=a) with h1|rfl
       ·exact hno b hb h1
       ·exact hq⟩ Qs
    ·have hall3:∀y∈S.pa,y=S.pa.getD 0 0:=fun y hy=>by obtain⟨b,hb,rfl⟩:=List.mem_iff_getElem.1 hy;exact hno b hb (by omega)
     rw[if_neg (fun q=>q hall3)]at hsec;refine Av (Aa (Aa (Af (Ab (As (Qm rfl (An (Am ?_))))))));exact Ap rfl rfl (by rw[hsec])
variable {l:List Cl}
def HN(o own:List Cl)(i:Nat):Option (Int×Int):=
 if(o.getD i default).id<1\/(0<i/\(o.getD i default).id=(o.getD (i-1) default).id) then some ((o.getD i default).id,20)
 else if Cd own (o.getD i default)≠0 then some ((o.getD i default).id,Cd own (o.getD i default)) else none
def Js(o:List Cl)(i:Nat):Option (Int×Int):=
 if(o.getD i default).dim<2 then none
 else if DQ o (o.getD i default)≠0 then some ((o.getD i default).id,DQ o (o.getD i default)) else none
def Du(l:List Cl):Int×Int:=if 4000<l.length then(0,2) else
 ((range l.length).findSome? (HN (ordF l) (Ex l))).getD (((range l.length).findSome? (Js (ordF l))).getD (0,0))
theorem Cz{β:Type}{e:Nat->Option β}:∀n,(∀b,b<n->e b=none)->(range n).findSome? e=none
 | 0,_=>rfl
 | n+1,h=>by rw[range_succ,List.findSome?_append,Cz n fun b hb=>h b (by omega)];simp[h n (by omega)]
theorem DA{β:Type}{e:Nat->Option β}{a:Nat}{x:β}(h:∀b,b<a->e b=none)(hx:e a=some x):∀n,a<n->(range n).findSome? e=some x
 | 0,ha=>by omega
 | n+1,ha=>by
  rw[range_succ,List.findSome?_append];rcases (by omega:a<n\/a=n) with h1|rfl
  ·rw[DA h hx n h1];rfl
  ·rw[Cz a h];simp[hx]
theorem Nq:∀(l:List Cl) (p:Option Int),(uq p l).Sublist l
 | [],_=>List.Sublist.refl _
 | a::l,p=>by
  unfold uq;split
  ·exact(Nq l _).cons a
  ·exact(Nq l _).cons_cons a
theorem L3(l:List Cl):(Ex l).Pairwise fun a b=>a.id<=b.id:=(C0 l.length l (Nat.le_refl _)).sublist (Nq _ _)
theorem H7(l:List Cl):(Ex l).length<=l.length:=by
 have:=(Nq (ordF l) none).length_le
 rwa [Gi]at this
theorem Qd:∀(l:List Cl) (p:Option Int),(∀h:0<l.length,p≠some l[0].id)->(∀i (hi:i+1<l.length),l[i].id≠l[i+1].id)->uq p l=l
 | [],_,_,_=>rfl
 | a::l,p,h0,h=>by
  unfold uq
  rw[if_neg (show p≠some a.id from h0 (by simp)),Qd l _ (fun hl=>by
   have:=h 0 (by simp;omega)
   simpa using this) (fun i hi=>by
   have:=h (i+1) (by simp;omega)
   simpa using this)]
theorem ES{x:Cl}(h:Cd l x=0):(0<=x.dim/\x.dim<=8)/\x.sd.length<=64/\(∀i,i<x.sd.length->¬Cy l x i)/\∀i,i<x.sd.length->¬BK x i:=by
 unfold Cd at h;split at h
 ·omega
 ·rename_i h1;split at h
  ·omega
  ·rename_i h2;split at h
   ·omega
   ·rename_i h3;split at h
    ·omega
    ·rename_i h4;refine⟨by omega,?_,Classical.not_not.1 h3,Classical.not_not.1 h4⟩;unfold BP at h2;omega
theorem Hg{i:Nat}(hi:i<l.length):l.getD i default=l[i]:=by simp[List.getD,hi]
theorem Xx(h:∀b,b<(ordF l).length->HN (ordF l) (Ex l) b=none){i:Nat}(hi:i<(ordF l).length):Rv (ordF l) (ordF l)[i]:=by
 have hn:∀b (hb:b<(ordF l).length),(1<=(ordF l)[b].id/\¬(0<b/\(ordF l)[b].id=((ordF l).getD (b-1) default).id))/\Cd (Ex l) (ordF l)[b]=0:=fun b hb=>by
  have:=h b hb;unfold HN at this;rw[Hg hb]at this;split at this
  ·cases this
  ·rename_i h1;split at this
   ·cases this
   ·rename_i h2;exact⟨⟨by omega,fun q=>h1 (.inr q)⟩,Classical.not_not.1 h2⟩
 have heq:Ex l=ordF l:=Qd _ _ (fun _=>nofun) fun b hb q=>by have h1:=(hn (b+1) hb).1.2;refine h1 ⟨by omega,?_⟩;rw[show b+1-1=b by omega,Hg (show b<(ordF l).length by omega)];exact q.symm
 rw[heq]at hn;have hx:=ES (hn i hi).2
 have hsg:∀b (hb:b<(ordF l).length),∀j,j<(ordF l)[b].sd.length->(Bl (ordF l)[b] j).2=1\/(Bl (ordF l)[b] j).2=-1:=fun b hb j hj=>by have:=(ES (hn b hb).2).2.2.2 j hj;unfold BK at this;omega
 have hat:∀j,j<(ordF l)[i].sd.length->0<=Jm (ordF l) (Bl (ordF l)[i] j).1:=fun j hj=>by have:=hx.2.2.1 j hj;unfold Cy at this;omega
 have hy:∀j,j<(ordF l)[i].sd.length->∃b,∃hb:b<(ordF l).length,Fc (ordF l) (ordF l)[i] j=(ordF l)[b]:=fun j hj=>by have h1:=hat j hj;have h2:=KZ (ordF l) (Bl (ordF l)[i] j).1;exact⟨_,by omega,Hg (by omega)⟩
 refine⟨hx.2.1,hsg i hi,hat,fun j hj=>?_,fun j hj r hr=>?_⟩
 ·obtain⟨b,hb,e⟩:=hy j hj;rw[e];exact(ES (hn b hb).2).2.1
 ·obtain⟨b,hb,e⟩:=hy j hj;rw[e]at hr;obtain⟨k,hk,rfl⟩:=List.mem_iff_getElem.1 hr;have:=hsg b hb k hk
  rwa [Bh hk]at this
structure O5(l:List Ce):Prop extends CsOk l where
 d:∀a∈l,-9223372036854775807<=a.c.dim/\a.c.dim<=9223372036854775807
theorem Ea{c:Cl}(h:c∈ordF l):∃a∈l,c=a.can:=by have:=(DE l.length l (Nat.le_refl _)).mem_iff.1 h;obtain⟨a,ha,e⟩:=List.mem_map.1 this;exact⟨a,ha,e.symm⟩
theorem Q6(l:List Ce)(v:Value)(h:Hp)(hK:O5 l)(hR:RdC h v l):FnT Tryz.prog 69 #[.agg #[v]] h [] (fun r _ _=>r=.tuple #[.int .i64 (Du (l.map Ce.c)).1,.int .i64 (Du (l.map Ce.c)).2]):=by
 have o1:=hR.q.rd.one;have hn:=hK.n;refine Ao func69 ntmps69 rfl rfl (fun w0 hw0=>?_);simp only[AU];refine As (AS [_] rfl rfl (by rfl) rfl rfl rfl (fun g1=>Qm rfl (Qm rfl (An (Aw fun h1 l1 hS=>?_)))));have hR:=hR.up l1;have hA0:=Seg.all hS 0 _ rfl;refine Ac (As (Qf B6 rfl (Ql rfl Bs (hA0 _) (Qx (Ar hR.q.rd.any rfl Bs rfl) rfl (Qm rfl (An ?_))))));refine Au rfl (fun hbig=>?_) (fun hbig=>?_)
 ·refine Ac (Ad (Qm rfl (Qm rfl (An (Am (Ag ?_))))));exact BC rfl rfl rfl (by unfold Du;rw[if_pos (by rw[length_map];omega)])
 ·have hck:Du (l.map Ce.c)=((range l.length).findSome? (HN (ordF (l.map Ce.c)) (Ex (l.map Ce.c)))).getD (((range l.length).findSome? (Js (ordF (l.map Ce.c)))).getD (0,0)):=by unfold Du;rw[if_neg (by rw[length_map];omega),length_map]
  refine Ah (Ab (As (Qf B6 rfl (Ql rfl Bs (hA0 _) (Qc call118 rfl (H3 (l.length+1) l v h1 (by omega) (by omega) hK.s hR) (fun ro h2 ms2 l2 hF=>?_))))));obtain⟨l2',mo,O,rfl,hOO,hO,hOs⟩:=hF;refine A4 hOO fun h3 l3 hRO=>?_;have l13:=AJ l2 l3;have hR:=hR.up l13;have hS:=hS.le l13;have oro:=hRO.rd.one;refine Qm rfl (Bv (Qx (oG rfl Dt A6 (Seg.any hS)) rfl (Qc call49 rfl (Ls l v h3 hK.toCsOk hR) (fun rw_ h4 ms4 l4 hF=>?_))));obtain⟨l4',mw,W,rfl,hOW,hW,hWs⟩:=hF;refine A4 hOW fun h5 l5 hRW=>?_;have l35:=AJ l4 l5;have hRC:RdC h5 ro O:=⟨hRO.up l35,fun a ha=>(hOs a ha).up (AJ l3 l35)⟩
  have orw:=hRW.rd.one;have lO:O.length=l.length:=by have:=congrArg List.length hO;rwa [length_map,Gi,length_map]at this
  have lW:W.length<=100000:=by have:=congrArg List.length hW;rw[length_map]at this;have:=H7 (l.map Ce.c);rw[length_map]at this;omega
  have hOm:∀a∈O,a.c.sd.length<=100000/\-9223372036854775807<=a.c.dim/\a.c.dim<=9223372036854775807:=fun a ha=>by
   have h1:a.c∈ordF (l.map Ce.c):=by rw[<-hO];exact List.mem_map_of_mem ha
   obtain⟨c,hc,e⟩:=Ea h1;obtain⟨b,hb,rfl⟩:=List.mem_map.1 hc;rw[e];exact⟨by show(CF _).length<=_;rw[GQ];exact hK.s b hb,hK.d b hb⟩
  have hWst:(W.map Ce.c).Pairwise fun a b=>a.id<=b.id:=by rw[hW];exact L3 _
  have hOst:(O.map Ce.c).Pairwise fun a b=>a.id<=b.id:=by rw[hO];exact C0 _ _ (Nat.le_refl _)
  have hget:∀i (hi:i<O.length),(ordF (l.map Ce.c)).getD i default=O[i].c:=fun i hi=>by rw[<-hO,Hg (by rw[length_map];exact hi),List.getElem_map]
  have lord:(ordF (l.map Ce.c)).length=O.length:=by rw[<-hO,length_map]
  obtain⟨o,ho⟩:∃o,ordF (l.map Ce.c)=o:=⟨_,rfl⟩
  obtain⟨w,hw⟩:∃w,Ex (l.map Ce.c)=w:=⟨_,rfl⟩
  rw[ho,hw,<-lO]at hck;rw[ho]at hget lord
  have hsec:(∀b,b<O.length->HN o w b=none)->∀i (hi:i<O.length),Rv o O[i].c:=fun h i hi=>by
   have:=Xx (l:=l.map Ce.c) (by rw[ho,hw,lord];exact h) (i:=i) (by rw[ho,lord];exact hi);have e:(ordF (l.map Ce.c))[i]'(by rw[ho,lord];exact hi)=O[i].c:=by rw[<-hget i hi];subst ho;exact(Hg _).symm
   rwa [e,ho]at this
  rw[hw]at hW;rw[ho]at hO;refine Qm rfl (An (Ac (As (Qm rfl (An (Ae ?_))))))
  refine Az (fun q s h' ms'=>∃(i:Nat),q=O.length-i/\s=[(4,ro),(5,rw_),(6,.int .i64 i)]/\h5=h'/\ms'=[]/\i<=O.length/\∀b,b<i->HN o w b=none)
   (O.length-0) _ ⟨0,rfl,rfl,rfl,rfl,by omega,fun b hb=>by omega⟩ Qs ?_
  rintro q s h' ms' ⟨i,rfl,rfl,rfl,rfl,hi,hno⟩;refine Ac (As (Qm rfl (Qm rfl (Qx (Ar hRC.q.rd.any rfl Bs rfl) rfl (Qm rfl (An ?_))))));refine Au rfl (fun hlt=>?_) (fun hlt=>?_)
  ·have hil:i<O.length:=Cx hlt;have gi:=hget i hil;have hci:∀ms,Cell h5 ms ((AG ro).add (i*3)) (.int .i64 O[i].c.id):=fun ms=>(hRC.q.any (ms:=ms)).cell0 hil rfl;have hgi:∀ms,Seg h5 ms ((AG ro).add (i*3)) (cC O[i]):=fun ms=>(hRC.q.any (ms:=ms)).seg hil;have oiv:=(hRC.s _ (getElem_mem hil)).rd.one;have hret:∀p,HN o w i=some p->Du (l.map Ce.c)=p:=fun p hp=>by rw[hck,DA hno hp _ hil];rfl
   have hround:HN o w i=none->∀b,b<i+1->HN o w b=none:=fun h b hb=>by
    rcases (by omega:b<i\/b=i) with h1|rfl
    ·exact hno b h1
    ·exact h
   obtain⟨hm1,hm2⟩:=hOm _ (getElem_mem hil);refine Ah (Ab (Ac (Ae ?_)));refine A3 (fun s h' ms'=>s=[(4,ro),(5,rw_),(6,.int .i64 i)]/\h5=h'/\ms'=[]/\¬(O[i].c.id<1\/(0<i/\O[i].c.id=(o.getD (i-1) default).id))) ?_ (fun s h ms hI=>?_)
   ·refine Ac (Bc 21 CP (by kernel_rfl) rfl (Wm rfl (Wm rfl (AP (BS (i) hRC.q.rd.any rfl Bs AI rfl rfl) rfl rfl (Wf Bz rfl (Wl rfl U3 (hci _) (Wm rfl (Wm rfl ?_))))))));refine Ct (t:=31) rfl (fun g1=>?_) (fun g1=>?_)
    ·refine Ax rfl rfl rfl rfl rfl (Ax rfl rfl rfl rfl rfl (Ax rfl rfl rfl rfl rfl (AR rfl rfl rfl rfl (AR rfl rfl rfl rfl (AR rfl rfl rfl rfl (AR rfl rfl rfl rfl (AR rfl rfl rfl rfl (AR rfl rfl rfl rfl (AR rfl rfl rfl rfl (AR rfl rfl rfl rfl (AR rfl rfl rfl rfl (AR rfl rfl rfl rfl (AR rfl rfl rfl rfl (AZ (AX rfl rfl rfl rfl rfl rfl (Qk rfl (Qm rfl (An (Bn rfl (As (Qm rfl (Qm rfl (Qx (BS (i) hRC.q.rd.any rfl Bs AI rfl rfl) rfl (Qf Bz rfl (Ql rfl U3 (hci _) (Qm rfl (Qm rfl (An (Am (Ag (Al (Ag (Ag (Al (Ag ?_)))))))))))))))))))))))))))))))))));exact BC rfl rfl rfl (by rw[hret (O[i].c.id,20) (by unfold HN;rw[gi,if_pos (.inl g1)])])
    ·refine AL (Ay rfl rfl) rfl rfl rfl rfl (AL (Cc rfl rfl rfl) rfl rfl rfl rfl (AL (Ay rfl rfl) rfl rfl rfl rfl ?_));refine Ct (t:=34) rfl (fun g2=>?_) (fun g2=>?_)
     ·have hip:i-1<O.length:=by omega
      have gp:=hget (i-1) hip;have hcp:∀ms,Cell h5 ms ((AG ro).add ((i-1)*3)) (.int .i64 O[i-1].c.id):=fun ms=>(hRC.q.any (ms:=ms)).cell0 hip rfl;refine AL (Ay rfl rfl) rfl rfl rfl rfl (AL (Ay rfl rfl) rfl rfl rfl rfl (AL (BS (i) hRC.q.rd.any rfl Bs AI rfl rfl) rfl rfl rfl rfl (AL (oF Bz rfl) rfl rfl rfl rfl (AL (oL rfl U3 (hci _)) rfl rfl rfl rfl (AL (Ay rfl rfl) rfl rfl rfl rfl (AL (Ay rfl rfl) rfl rfl rfl rfl (AL (oS rfl) rfl rfl rfl rfl (AL (BS (i-1) hRC.q.rd.any rfl Bs AI rfl rfl) rfl rfl rfl rfl (AL (oF Bz rfl) rfl rfl rfl rfl (AL (oL rfl U3 (hcp _)) rfl rfl rfl rfl (AZ (Qg (DH rfl rfl rfl) rfl (Qg (CA rfl rfl rfl) rfl (Qm rfl (An ?_)))))))))))))));refine Au rfl (fun g3=>?_) (fun g3=>?_)
      ·refine Ac (Ad (Qm rfl (Qm rfl (Qx (BS (i) hRC.q.rd.any rfl Bs AI rfl rfl) rfl (Qf Bz rfl (Ql rfl U3 (hci _) (Qm rfl (Qm rfl (An (Am (Ag (Al (Ag (Ag (Al (Ag ?_))))))))))))))));exact BC rfl rfl rfl (by rw[hret (O[i].c.id,20) (by unfold HN;rw[gi,gp,if_pos (.inr ⟨by omega,g3⟩)])])
      ·refine Ah ?_;exact AA _ ⟨rfl,rfl,rfl,fun q=>by rcases q with q|⟨_,q⟩;exact g1 q;rw[gp]at q;exact g3 q⟩ Qs
     ·refine Ax rfl rfl rfl rfl rfl (Ax rfl rfl rfl rfl rfl (Ax rfl rfl rfl rfl rfl (Ax rfl rfl rfl rfl rfl (Ax rfl rfl rfl rfl rfl (Ax rfl rfl rfl rfl rfl (Ax rfl rfl rfl rfl rfl (Ax rfl rfl rfl rfl rfl (Ax rfl rfl rfl rfl rfl (Ax rfl rfl rfl rfl rfl (Ax rfl rfl rfl rfl rfl (AZ (Qk rfl (Qg (Cj rfl rfl rfl) rfl (Qm rfl (An (AQ rfl (Ah ?_)))))))))))))))));exact AA _ ⟨rfl,rfl,rfl,fun q=>by rcases q with q|⟨q,_⟩;exact g1 q;exact g2 (by omega)⟩ Qs
   ·obtain⟨rfl,rfl,rfl,hok⟩:=hI;have hA1:HN o w i=if Cd w O[i].c≠0 then some (O[i].c.id,Cd w O[i].c) else none:=by unfold HN;rw[gi,if_neg hok]
    have hfv:=fun ms=>YB W O[i] rw_ h5 lW hm1 hm2 hWst hRW (hRC.s _ (getElem_mem hil)) ms;rw[hW]at hfv;refine As (Qm rfl (Qm rfl (Qm rfl (Qx (BS (i) hRC.q.rd.any rfl Bs AI rfl rfl) rfl (Qx (oG rfl Fb AI (hgi _)) rfl (Qx (AF rfl call139 rfl (hfv _)) rfl (Qm rfl (Bv (Qm rfl (Qm rfl (An ?_)))))))))));refine Au rfl (fun g4=>?_) (fun g4=>?_)
    ·refine Ac (Ad (Qm rfl (Qm rfl (Qx (BS (i) hRC.q.rd.any rfl Bs AI rfl rfl) rfl (Qf Bz rfl (Ql rfl U3 (hci _) (Qm rfl (Qm rfl (Qm rfl (An (Am (Al (Ag (Ag (Al (Ag ?_))))))))))))))));exact BC rfl rfl rfl (by rw[hret (O[i].c.id,Cd w O[i].c) (by rw[hA1,if_pos g4])])
    ·refine Ah (Ai (Ab (Ad (Qm rfl (Qx (oA rfl) rfl (Qm rfl (Aj ?_)))))));exact Ak (O.length-(i+1)) _ (by omega) ⟨i+1,rfl,rfl,rfl,rfl,by omega,hround (by rw[hA1,if_neg g4])⟩ Qs
  ·obtain rfl:i=O.length:=by omega
   have hck2:Du (l.map Ce.c)=((range O.length).findSome? (Js o)).getD (0,0):=by rw[hck,Cz _ hno];rfl
   have hsecO:=hsec hno;refine Av (Aa (Aa (Af (Ab (Ac (As (Qm rfl (An (Ae ?_)))))))))
   refine Az (fun q s h' ms'=>∃(i:Nat),q=O.length-i/\s=[(4,ro),(8,.int .i64 i)]/\h5=h'/\ms'=[]/\i<=O.length/\∀b,b<i->Js o b=none)
    (O.length-0) _ ⟨0,rfl,rfl,rfl,rfl,by omega,fun b hb=>by omega⟩ Qs ?_
   rintro q s h' ms' ⟨i,rfl,rfl,rfl,rfl,hi,hno2⟩;refine Ac (As (Qm rfl (Qm rfl (Qx (Ar hRC.q.rd.any rfl Bs rfl) rfl (Qm rfl (An ?_))))));refine Au rfl (fun hlt2=>?_) (fun hlt2=>?_)
   ·have hil:i<O.length:=Cx hlt2;have gi:=hget i hil;have hci:∀ms,Cell h5 ms ((AG ro).add (i*3)) (.int .i64 O[i].c.id):=fun ms=>(hRC.q.any (ms:=ms)).cell0 hil rfl;have hcd:∀ms,Cell h5 ms (((AG ro).add (i*3)).add 1) (.int .i64 O[i].c.dim):=fun ms=>(hRC.q.any (ms:=ms)).cell hil (f:=1) rfl;have hgi:∀ms,Seg h5 ms ((AG ro).add (i*3)) (cC O[i]):=fun ms=>(hRC.q.any (ms:=ms)).seg hil;have oiv:=(hRC.s _ (getElem_mem hil)).rd.one;have hret:∀p,Js o i=some p->Du (l.map Ce.c)=p:=fun p hp=>by rw[hck2,DA hno2 hp _ hil];rfl
    have hround:Js o i=none->∀b,b<i+1->Js o b=none:=fun h b hb=>by
     rcases (by omega:b<i\/b=i) with h1|rfl
     ·exact hno2 b h1
     ·exact h
    refine Ah (Ab (Ac (Ae (Ac (As (Qm rfl (Qm rfl (Qx (BS (i) hRC.q.rd.any rfl Bs AI rfl rfl) rfl (Qf BM rfl (Ql rfl U3 (hcd _) (Qm rfl (An ?_))))))))))));refine Au rfl (fun g5=>?_) (fun g5=>?_)
    ·refine Av (Aa (Af (Ab (Ad (Qm rfl (Qx (oA rfl) rfl (Qm rfl (Aj ?_))))))));exact Ak (O.length-(i+1)) _ (by omega) ⟨i+1,rfl,rfl,rfl,rfl,by omega,hround (by unfold Js;rw[gi,if_pos g5])⟩ Qs
    ·have hB1:Js o i=if DQ o O[i].c≠0 then some (O[i].c.id,DQ o O[i].c) else none:=by unfold Js;rw[gi,if_neg g5]
     have hsv:=fun ms=>F6 (SC O O[i] ro h5 (by omega) (by rw[hO];exact hsecO i hil) hOst hRC (hRC.s _ (getElem_mem hil))) ms;rw[hO]at hsv;refine Ah (Ab (As (Qm rfl (Qm rfl (Qm rfl (Qx (BS (i) hRC.q.rd.any rfl Bs AI rfl rfl) rfl (Qx (oG rfl Fb AI (hgi _)) rfl (Qx (AF rfl call140 rfl (hsv _)) rfl (Qm rfl (Bv (Qm rfl (Qm rfl (An ?_)))))))))))));refine Au rfl (fun g6=>?_) (fun g6=>?_)
     ·refine Ac (Ad (Qm rfl (Qm rfl (Qx (BS (i) hRC.q.rd.any rfl Bs AI rfl rfl) rfl (Qf Bz rfl (Ql rfl U3 (hci _) (Qm rfl (Qm rfl (Qm rfl (An (Am (Al (Ag (Ag (Al (Ag ?_))))))))))))))));exact BC rfl rfl rfl (by rw[hret (O[i].c.id,DQ o O[i].c) (by rw[hB1,if_pos g6])])
     ·refine Ah (Ai (Ab (Ad (Qm rfl (Qx (oA rfl) rfl (Qm rfl (Aj ?_)))))));exact Ak (O.length-(i+1)) _ (by omega) ⟨i+1,rfl,rfl,rfl,rfl,by omega,hround (by rw[hB1,if_neg g6])⟩ Qs
   ·obtain rfl:i=O.length:=by omega
    refine Av (Aa (Aa (Af (Ab (As (Qm rfl (Qm rfl (An (Am ?_)))))))));exact BC rfl rfl rfl (by rw[hck2,Cz _ hno2];rfl)
end Go.Proofs.Q

namespace Go.Proofs.Q
open Go.Proofs.Tryz
open Go.Eng Go.RowKit
theorem Jx(l:List Ce)(v:Value)(h:Hp)(hK:O5 l)(hR:RdC h v l)(ms:List Hp):FnV Tryz.prog 171 #[.agg #[v]] h ms (.bool (decide ((Du (l.map Ce.c)).2=0))):=by refine F6 ?_ ms;have o1:=hR.q.rd.one;refine Ao func171 ntmps171 rfl rfl (fun w0 hw0=>?_);simp only[AU];refine As (AS [_] rfl rfl (by rfl) rfl rfl rfl (fun g1=>Qm rfl (An (Aw fun h1 l1 hS=>?_))));have hR:=hR.up l1;refine As (Qx (oG rfl Dt A6 (Seg.any hS)) rfl (Qx (AF rfl call69 rfl (F6 (Q6 l v h1 hK hR) _)) rfl (Qm rfl (Qm rfl (Qm rfl (Qm rfl (Qm rfl (Bv (Qm rfl (Qm rfl (Qm rfl (An (Am ?_)))))))))))));exact Ap rfl rfl (rfl)
theorem RG(a k:Int)(ha:0<=a/\a<=1000000)(hk:1<=k/\k<=1000)(h:Hp)(ms:List Hp):FnV Tryz.prog 172 #[.int .i64 a,.int .i64 k] h ms (.int .i64 (if k=1 then a else a*k%211+1)):=by
 refine F6 ?_ ms;have h1:0<=a*k/\a*k<=1000000*1000:=⟨Int.mul_nonneg ha.1 (by omega),Int.mul_le_mul ha.2 hk.2 (by omega) (by omega)⟩
 refine Ao func172 ntmps172 rfl rfl (fun w0 hw0=>?_);simp only[AU];refine As (Qm rfl (An (Ac (As (Qm rfl (Qm rfl (An ?_)))))));refine Au rfl (fun hk1=>?_) (fun hk1=>?_)
 ·refine Ac (Ad (Qm rfl (Qm rfl (An (Am (Ag ?_))))));exact Ap rfl rfl (by rw[if_pos hk1])
 ·refine Ah (Ab (As (Qm rfl (Qm rfl (Qx (oM rfl) rfl (Qx (BV rfl rfl rfl (by omega) (by omega)) rfl (Qx (oA rfl) rfl (Qm rfl (An (Am ?_))))))))));exact Ap rfl rfl (by rw[if_neg hk1])
theorem Oz(a k:Int)(ha:0<=a/\a<=1000000)(hk:1<=k/\k<=1000)(h:Hp)(ms:List Hp):FnV Tryz.prog 173 #[.int .i64 a,.int .i64 k] h ms (.bool (decide (a%k=1))):=by refine F6 ?_ ms;refine Ao func173 ntmps173 rfl rfl (fun w0 hw0=>?_);simp only[AU];refine As (Qm rfl (Bv (Qm rfl (Qm rfl (Qx (BV rfl rfl rfl (by omega) (by omega)) rfl (Qm rfl (Qm rfl (An (Am ?_)))))))));exact Ap rfl rfl (rfl)
def Hm:List Int->List Int->Bool
 | x::a,y::b=>if x=y then Hm a b else decide (x<y)
 | _,_=>false
def Dg(a b:List Int):Bool:=if a.length≠b.length then decide (a.length<b.length) else Hm a b
theorem N7(a b:List Int)(va vb:Value)(h:Hp)(hA:RdL cI 1 h [] va a)(hB:RdL cI 1 h [] vb b)(ms:List Hp):FnV Tryz.prog 208 #[va,vb] h ms (.bool (Dg a b)):=by
 refine F6 ?_ ms;have o1:=hA.rd.one;have o2:=hB.rd.one;have la:=hA.len_le;have lb:=hB.len_le;refine Ao func208 ntmps208 rfl rfl (fun w0 hw0=>?_);simp only[AU];refine As (Qm rfl (An (Ac (As (Qm rfl (Qx (Ar hA.rd.any rfl AY rfl) rfl (Qm rfl (Qx (Ar hB.rd.any rfl AY rfl) rfl (Qm rfl (An ?_))))))))));refine Au rfl (fun h1=>?_) (fun h1=>?_)
 ·refine Ac (Ad (Qm rfl (Qx (Ar hA.rd.any rfl AY rfl) rfl (Qm rfl (Qx (Ar hB.rd.any rfl AY rfl) rfl (Qm rfl (Qm rfl (An (Am (Ag ?_))))))))));exact Ap rfl rfl (by unfold Dg;rw[if_pos (by omega)];exact congrArg Value.bool (decide_eq_decide.2 (by omega)))
 ·have hl:a.length=b.length:=by omega
  have hbf:Dg a b=Hm a b:=by unfold Dg;rw[if_neg (fun q=>q hl)]
  refine Ah (Ab (Ac (As (Qm rfl (An (Ae ?_))))))
  refine Az (fun q s h' ms'=>∃(i:Nat),q=a.length-i/\s=[(0,va),(1,vb),(5,.int .i64 i)]/\h=h'/\ms'=[]/\i<=a.length/\Hm a b=Hm (a.drop i) (b.drop i))
   (a.length-0) _ ⟨0,rfl,rfl,rfl,rfl,by omega,rfl⟩ Qs ?_
  rintro q s h' ms' ⟨i,rfl,rfl,rfl,rfl,hi,he⟩;refine Ac (As (Qm rfl (Qm rfl (Qx (Ar hA.rd.any rfl AY rfl) rfl (Qm rfl (An ?_))))));refine Au rfl (fun hlt=>?_) (fun hlt=>?_)
  ·have hia:i<a.length:=Cx hlt;have hib:i<b.length:=by omega
   have hca:Cell h [] ((AG va).add (i*1)) (.int .i64 a[i]):=hA.cell0 hia rfl;have hcb:Cell h [] ((AG vb).add (i*1)) (.int .i64 b[i]):=hB.cell0 hib rfl
   have hd:Hm (a.drop i) (b.drop i)=if a[i]=b[i] then Hm (a.drop (i+1)) (b.drop (i+1)) else decide (a[i]<b[i]):=by rw[List.drop_eq_getElem_cons hia,List.drop_eq_getElem_cons hib];rfl
   refine Ah (Ab (Ac (Ae (Ac (Bc 8 CP (by kernel_rfl) rfl (Wm rfl (Wm rfl (AP (BS (i) hA.rd.any rfl AY Be rfl rfl) rfl rfl (Wl rfl U3 (hca) (Wm rfl (Wm rfl (AP (BS (i) hB.rd.any rfl AY Be rfl rfl) rfl rfl (Wl rfl U3 (hcb) (AZ (Qm rfl (An ?_))))))))))))))));refine Au rfl (fun h2=>?_) (fun h2=>?_)
   ·refine Ac (Bc 8 CP (by kernel_rfl) rfl (Wm rfl (Wm rfl (AP (BS (i) hA.rd.any rfl AY Be rfl rfl) rfl rfl (Wl rfl U3 (hca) (Wm rfl (Wm rfl (AP (BS (i) hB.rd.any rfl AY Be rfl rfl) rfl rfl (Wl rfl U3 (hcb) (AZ (Qm rfl (Qm rfl (An (Am (Al (Ag (Ag (Al (Ag ?_)))))))))))))))))));exact Ap rfl rfl (by rw[hbf,he,hd,if_neg h2])
   ·have h2:a[i]=b[i]:=Classical.byContradiction fun q=>h2 q;refine Ah (Ai (Ab (Ad (Qm rfl (Qx (oA rfl) rfl (Qm rfl (Aj ?_)))))));exact Ak (a.length-(i+1)) _ (by omega) ⟨i+1,rfl,rfl,rfl,rfl,by omega,by rw[he,hd,if_pos h2]⟩ Qs
  ·obtain rfl:i=a.length:=by omega
   refine Av (Aa (Aa (Af (Ab (As (Qm rfl (An (Am ?_))))))));exact Ap rfl rfl (by rw[hbf,he,List.drop_length];rfl)
def J6(x:Int)(l:List Int):List Int:=l.takeWhile (fun y=>decide (y<x))++x::l.dropWhile (fun y=>decide (y<x))
def LX(x:Int)(l:List Int):Prop:=(l.dropWhile fun y=>decide (y<x)).head?=some x
instance (x:Int) (l:List Int):Decidable (LX x l):=by unfold LX;infer_instance
def E4:List Int->List Int->Option (List Int)
 | acc,[]=>some acc
 | acc,x::l=>if LX x acc then E4 acc l else if x<0\/9<(J6 x acc).length then none else E4 (J6 x acc) l
theorem WZ{x:Int}{l:List Int}{k:Nat}(hk:k<=l.length)(h1:∀j (hj:j<l.length),j<k->l[j]<x)(h2:∀hk:k<l.length,¬l[k]<x):J6 x l=l.take k++x::l.drop k/\(LX x l<->∃h:k<l.length,l[k]=x):=by
 obtain⟨e1,e2⟩:=Eo (fun y:Int=>decide (y<x)) l k hk (fun j hj hjk=>decide_eq_true (h1 j hj hjk)) (fun hk=>decide_eq_false (h2 hk));unfold J6 LX;rw[e1,e2];refine⟨rfl,?_⟩;rw[List.head?_drop];by_cases hkl:k<l.length
 ·rw[List.getElem?_eq_getElem hkl];exact⟨fun q=>⟨hkl,Option.some.inj q⟩,fun⟨_,q⟩=>by rw[q]⟩
 ·rw[List.getElem?_eq_none (by omega)];exact⟨fun q=>(nomatch q),fun⟨q,_⟩=>absurd q hkl⟩
theorem UX(x:Int)(l:List Int):(J6 x l).length=l.length+1:=by unfold J6;have:=congrArg List.length (List.takeWhile_append_dropWhile (p:=fun y:Int=>decide (y<x)) (l:=l));rw[length_append]at this;rw[length_append,length_cons];omega
def Aa7(r:Value)(ms:List Hp):Option (List Int)->Prop
 | some l=>∃v m,ms=[m]/\r=.tuple #[v,.bool true]/\OwnL cI 1 3 m v l
 | none=>r=.tuple #[.slice none 0 0,.bool false]
theorem AaB(l:List Int)(v:Value)(h:Hp)(hl:l.length<=100000)(hR:RdL cI 1 h [] v l):FnT Tryz.prog 168 #[v] h [] (fun r h' ms'=>h=h'/\Aa7 r ms' (E4 [] l)):=by
 have o1:=hR.rd.one;refine Ao func168 ntmps168 rfl rfl (fun w0 hw0=>?_);simp only[AU];refine As (Qm rfl (Qm rfl (Bv (Qm rfl (An (Ac (As (Qm rfl (An (Ae (BB ?_)))))))))))
 refine Az (fun q s h' ms'=>∃(i:Nat) (vo:Value) (mo:Hp) (acc:List Int),q=l.length-i/\s=[(0,v),(4,vo),(5,.int .i64 i)]/\h=h'/\ms'=[mo]/\i<=l.length/\acc.length<=9/\OwnL cI 1 3 mo vo acc/\E4 [] l=E4 acc (l.drop i))
  (l.length-0) _ ⟨0,_,Hp.emp,[],rfl,rfl,rfl,rfl,by omega,by simp,OwnL.nil AV,rfl⟩ Qs ?_
 rintro q s h' ms' ⟨i,vo,mo,acc,rfl,rfl,rfl,rfl,hi,ha9,hO,he⟩;refine Ac (As (Qm rfl (Qm rfl (Qx (Ar hR.rd.any rfl AY rfl) rfl (Qm rfl (An ?_))))));refine Au rfl (fun hlt=>?_) (fun hlt=>?_)
 ·have hil:i<l.length:=Cx hlt;have hcl:=hO.rd (h:=h) (ms:=[mo]) Mh;have ovo:vo.oneCell'=true:=hcl.rd.one;have hci:∀ms,Cell h ms ((AG v).add (i*1)) (.int .i64 l[i]):=fun ms=>(hR.any (ms:=ms)).cell0 hil rfl;have hd:E4 acc (l.drop i)=if LX l[i] acc then E4 acc (l.drop (i+1)) else if l[i]<0\/9<(J6 l[i] acc).length then none else E4 (J6 l[i] acc) (l.drop (i+1)):=by rw[List.drop_eq_getElem_cons hil];rfl
  rw[hd]at he;refine Ah (Ab (Ac (Ae (As (Qm rfl (An ?_))))));refine A3 (fun s h' ms'=>∃(k:Nat),s=[(0,v),(4,vo),(5,.int .i64 i),(6,.int .i64 k)]/\h=h'/\ms'=[mo]/\k<=acc.length/\J6 l[i] acc=acc.take k++l[i]::acc.drop k/\(LX l[i] acc<->∃h:k<acc.length,acc[k]=l[i])) ?_ (fun s h ms hI=>?_)
  ·refine Ae ?_
   refine Az (fun q s h' ms'=>∃(k:Nat),q=acc.length-k/\s=[(0,v),(4,vo),(5,.int .i64 i),(6,.int .i64 k)]/\h=h'/\ms'=[mo]/\k<=acc.length/\∀j (hj:j<acc.length),j<k->acc[j]<l[i])
    (acc.length-0) _ ⟨0,rfl,rfl,rfl,rfl,by omega,fun j hj h=>by omega⟩ Qs ?_
   rintro q s h' ms' ⟨k,rfl,rfl,rfl,rfl,hk,hlo⟩;refine Ac (Ac (Bc 13 CP (by kernel_rfl) rfl (Wm rfl (Wm rfl (AP (Ar hcl.rd rfl AY rfl) rfl rfl (Wm rfl (Wm rfl ?_)))))));refine Ct (t:=18) rfl (fun hs1=>?_) (fun hs1=>?_)
   ·have hkl:k<acc.length:=Cx hs1;have hck:Cell h [mo] ((AG vo).add (k*1)) (.int .i64 acc[k]):=hcl.cell0 hkl rfl;refine AL (Ay rfl rfl) rfl rfl rfl rfl (AL (Ay rfl rfl) rfl rfl rfl rfl (AL (BS (k) hcl.rd rfl AY Be rfl rfl) rfl rfl rfl rfl (AL (oL rfl U3 (hck)) rfl rfl rfl rfl (AL (Ay rfl rfl) rfl rfl rfl rfl (AL (Ay rfl rfl) rfl rfl rfl rfl (AL (BS (i) hR.rd.any rfl AY Be rfl rfl) rfl rfl rfl rfl (AL (oL rfl U3 (hci _)) rfl rfl rfl rfl (AZ (Qg (Dv rfl rfl rfl) rfl (Qm rfl (An ?_)))))))))));refine Au rfl (fun hs2=>?_) (fun hs2=>?_)
    ·refine Ah (Ab (Ae (Ad (Qm rfl (Qx (oA rfl) rfl (Qm rfl (Aj (Ai ?_))))))))
     exact Ak (acc.length-(k+1)) _ (by omega) ⟨k+1,rfl,rfl,rfl,rfl,by omega,fun j hj h=>by
      rcases (by omega:j<k\/j=k) with h1|rfl
      ·exact hlo j hj h1
      ·exact hs2⟩ Qs
    ·refine Av (Aa (Aa (Af ?_)));exact AA _ ⟨k,rfl,rfl,rfl,hk,WZ hk hlo fun _=>hs2⟩ Qs
   ·have hkl:k=acc.length:=by omega
    refine Ax rfl rfl rfl rfl rfl (Ax rfl rfl rfl rfl rfl (Ax rfl rfl rfl rfl rfl (Ax rfl rfl rfl rfl rfl (Ax rfl rfl rfl rfl rfl (Ax rfl rfl rfl rfl rfl (Ax rfl rfl rfl rfl rfl (Ax rfl rfl rfl rfl rfl (AZ (Qk rfl (Qm rfl (An (AQ rfl (Av (Aa (Aa (Af ?_))))))))))))))));exact AA _ ⟨k,rfl,rfl,rfl,hk,WZ hk hlo fun h=>absurd h (by omega)⟩ Qs
  ·obtain⟨k,rfl,rfl,rfl,hk,hins,hhas⟩:=hI;have hil2:=UX l[i] acc;refine A3 (fun s h' ms'=>s=[(0,v),(4,vo),(5,.int .i64 i),(6,.int .i64 k)]/\h=h'/\ms'=[mo]/\¬LX l[i] acc) ?_ (fun s h ms hI=>?_)
   ·refine Ac (Bc 13 CP (by kernel_rfl) rfl (Wm rfl (Wm rfl (AP (Ar hcl.rd rfl AY rfl) rfl rfl (Wm rfl (Wm rfl ?_))))));refine Ct (t:=35) rfl (fun g1=>?_) (fun g1=>?_)
    ·have hkl:k<acc.length:=Cx g1;have hck:Cell h [mo] ((AG vo).add (k*1)) (.int .i64 acc[k]):=hcl.cell0 hkl rfl;refine AL (Ay rfl rfl) rfl rfl rfl rfl (AL (Ay rfl rfl) rfl rfl rfl rfl (AL (BS (k) hcl.rd rfl AY Be rfl rfl) rfl rfl rfl rfl (AL (oL rfl U3 (hck)) rfl rfl rfl rfl (AL (Ay rfl rfl) rfl rfl rfl rfl (AL (Ay rfl rfl) rfl rfl rfl rfl (AL (BS (i) hR.rd.any rfl AY Be rfl rfl) rfl rfl rfl rfl (AL (oL rfl U3 (hci _)) rfl rfl rfl rfl (AZ (Qg (DH rfl rfl rfl) rfl (Qm rfl (An ?_)))))))))));refine Au rfl (fun g2=>?_) (fun g2=>?_)
     ·rw[if_pos (hhas.2 ⟨hkl,g2⟩)]at he;refine Av (Aa (Af (Ab (Ad (Qm rfl (Qx (oA rfl) rfl (Qm rfl (Aj ?_))))))));exact Ak (l.length-(i+1)) _ (by omega) ⟨i+1,vo,mo,acc,rfl,rfl,rfl,rfl,by omega,ha9,hO,he⟩ Qs
     ·refine Ah ?_;exact AA _ ⟨rfl,rfl,rfl,fun q=>g2 (hhas.1 q).2⟩ Qs
    ·refine Ax rfl rfl rfl rfl rfl (Ax rfl rfl rfl rfl rfl (Ax rfl rfl rfl rfl rfl (Ax rfl rfl rfl rfl rfl (Ax rfl rfl rfl rfl rfl (Ax rfl rfl rfl rfl rfl (Ax rfl rfl rfl rfl rfl (Ax rfl rfl rfl rfl rfl (AZ (Qk rfl (Qm rfl (An (AQ rfl (Ah ?_)))))))))))));exact AA _ ⟨rfl,rfl,rfl,fun q=>absurd (hhas.1 q).1 (by omega)⟩ Qs
   ·obtain⟨rfl,rfl,rfl,hnh⟩:=hI;rw[if_neg hnh]at he;refine Ac (Bc 8 CP (by kernel_rfl) rfl (Wm rfl (Wm rfl (AP (BS (i) hR.rd.any rfl AY Be rfl rfl) rfl rfl (Wl rfl U3 (hci _) (WE (EW [_] rfl AY Be rfl (by rfl) rfl rfl (by omega)) rfl rfl (Wm rfl (Wm rfl (AP (Dy (k) hcl.rd rfl AY Be rfl rfl (by omega) (by omega)) rfl rfl (I3 (fun g50=>AM 0 (OwnL.blk (g:=g50) (el:=3) (F:=cI) (l:=[l[i]]) 1 AV rfl (by decide)) ((hO.rd (h:=h) (List.Mem.tail _ Mh)).sub_ hk (Nat.le_refl _)) rfl AY Be rfl (by omega) rfl rfl rfl B5 (by(try simp only[length_singleton,length_nil,length_append,length_take,length_drop,nil_append]);omega) (by(try simp only[length_singleton,length_nil,length_append,length_take,length_drop,nil_append]);omega) rfl rfl rfl (fun v6 m6 hO6=>?_))))))))))));have ov6:=hO6.o1;refine Qm rfl (Bv ?_);refine AE [] [] [] rfl AY Be rfl (by omega) (by kernel_rfl) (by repeat (first|exact trivial|refine⟨⟨by first|rfl|exact(hcl.rd).cells|exact Rd.cells ‹_›|exact(RdL.rd ‹_›).cells,rfl,rfl⟩,?_⟩)) rfl rfl rfl rfl (fun g55=>?_);refine Qm rfl (Qm rfl (Qx (EG (k) hcl.rd rfl AY Be rfl rfl (by omega) (by omega)) rfl (AM 0 (ER g55 AV) ((hO.rd (h:=h) (List.Mem.tail _ (List.Mem.tail _ Mh))).sub_ (Nat.zero_le _) hk) rfl AY Be rfl (by omega) rfl rfl rfl B5 (by(try simp only[length_singleton,length_nil,length_append,length_take,length_drop,nil_append]);omega) (by(try simp only[length_singleton,length_nil,length_append,length_take,length_drop,nil_append]);omega) rfl rfl rfl (fun v7 m7 hO7=>Qm rfl (AM 0 hO7 (hO6.rd (h:=h) (List.Mem.tail _ Mh)) rfl AY Be rfl (by omega) rfl rfl rfl B5 (by(try simp only[length_singleton,length_nil,length_append,length_take,length_drop,nil_append]);omega) (by(try simp only[length_singleton,length_nil,length_append,length_take,length_drop,nil_append]);omega) rfl rfl rfl (fun v8 m8 hO8=>?_))))))
    have heq:[]++(acc.drop 0).take (k-0)++([l[i]]++(acc.drop k).take (acc.length-k))=J6 l[i] acc:=by rw[hins,drop_zero,Nat.sub_zero,take_of_length_le (l:=acc.drop k) (by rw[length_drop];omega)];rfl
    rw[heq]at hO8;have ov8:=hO8.o1;refine Qm rfl (An (Zn (Goes.perm (List.perm_append_comm (l₁:=[m8]) (l₂:=[m6,mo]))) ?_));refine Uo (Uo ?_);refine As (Qm rfl (Qm rfl (Qx (BS (i) hR.rd.any rfl AY Be rfl rfl) rfl (Ql rfl U3 (hci _) (Qm rfl (Qm rfl ?_))))));refine AO (t:=67) rfl (fun g3=>?_) (fun g3=>?_)
    ·rw[if_pos (.inl g3)]at he;refine Qk rfl (Qk rfl (Qk rfl (Qm rfl (An (Bn rfl (As (Qm rfl (Qm rfl (An (Am (Al (Ag (Ag (Al (Ag ?_)))))))))))))));exact BC rfl rfl rfl (⟨rfl,by rw[he];rfl⟩)
    ·refine Qg (Ay rfl rfl) rfl (Qg (FC (hO8.rd (h:=h) (ms:=[m8]) Mh).rd rfl AY rfl) rfl (Qg (Cc rfl rfl rfl) rfl (Qm rfl (An ?_))));refine Au rfl (fun g4=>?_) (fun g4=>?_)
     ·rw[if_pos (.inr (by omega))]at he;refine As (Qm rfl (Qm rfl (An (Am (Al (Ag (Ag (Al (Ag ?_)))))))));exact BC rfl rfl rfl (⟨rfl,by rw[he];rfl⟩)
     ·rw[if_neg (by omega)]at he;refine Ah (Ai (Ab (Ad (Qm rfl (Qx (oA rfl) rfl (Qm rfl (Aj ?_)))))));exact Ak (l.length-(i+1)) _ (by omega) ⟨i+1,v8,m8,_,rfl,rfl,rfl,rfl,by omega,by omega,hO8,he⟩ Qs
 ·have hie:i=l.length:=by omega
  rw[hie,List.drop_length]at he;have he:E4 [] l=some acc:=he;refine Av (Aa (Aa (Af (Ab (As (Qm rfl (Qm rfl (Qm rfl (An (Am ?_))))))))));exact BC rfl rfl rfl (⟨rfl,by rw[he];exact⟨vo,mo,rfl,rfl,hO⟩⟩)
def cW(v:Value):List Value:=[v]
theorem DV:∀v,(cW v).length=1:=fun _=>rfl
def RdEs(h:Hp)(es:List Value)(ll:List (List Int)):Prop:=es.length=ll.length/\∀i (h1:i<es.length) (h2:i<ll.length),RdL cI 1 h [] es[i] ll[i]
theorem RdEs.up{h h':Hp}{es:List Value}{ll:List (List Int)}(R:RdEs h es ll)(l:h.le h'):RdEs h' es ll:=⟨R.1,fun i h1 h2=>(R.2 i h1 h2).up l⟩
def DW(ll:List (List Int))(s:List Int):Nat:=(ll.takeWhile fun t=>Dg t s).length
def CZ(ll:List (List Int))(s:List Int):Nat×Bool:=(DW ll s,match ll[DW ll s]? with|some t=>!Dg s t|none=>false)
theorem YQ{ll:List (List Int)}{s:List Int}{k:Nat}(hk:k<=ll.length)(h1:∀j (hj:j<ll.length),j<k->Dg ll[j] s=true)(h2:∀hk:k<ll.length,Dg ll[k] s=false):DW ll s=k:=by obtain⟨e1,_⟩:=Eo (fun t=>Dg t s) ll k hk h1 h2;unfold DW;rw[e1,length_take];omega
theorem RI(ll:List (List Int))(s:List Int)(es:List Value)(v vs:Value)(h:Hp)(hn:ll.length<=1000000)(hm:∀i j (hi:i<ll.length) (hj:j<ll.length),i<=j->Dg ll[j] s=true->Dg ll[i] s=true)(hV:RdL cW 1 h [] v es)(hE:RdEs h es ll)(hS:RdL cI 1 h [] vs s)(ms:List Hp):FnV Tryz.prog 169 #[v,vs] h ms (.tuple #[.int .i64 (CZ ll s).1,.bool (CZ ll s).2]):=by
 refine F6 ?_ ms;have o1:=hV.rd.one;have o2:=hS.rd.one;have hle:=hE.1;refine Ao func169 ntmps169 rfl rfl (fun w0 hw0=>?_);simp only[AU];refine As (Qm rfl (Qm rfl (Bv (Qm rfl (Bv (Qm rfl (Qx (Ar hV.rd.any rfl Ck rfl) rfl (Qm rfl (An (Ac (Ae ?_)))))))))))
 refine Az (fun q sl h' ms'=>∃(lo hi:Nat),q=hi-lo/\sl=[(0,v),(1,vs),(6,.int .i64 lo),(7,.int .i64 hi)]/\h=h'/\ms'=[]/\lo<=hi/\hi<=ll.length/\(∀j (hj:j<ll.length),j<lo->Dg ll[j] s=true)/\∀j (hj:j<ll.length),hi<=j->Dg ll[j] s=false)
  (ll.length-0) _ ⟨0,ll.length,rfl,by rw[<-hle],rfl,rfl,by omega,by omega,fun j hj h=>by omega,fun j hj h=>by omega⟩ Qs ?_
 rintro q sl h' ms' ⟨lo,hi,rfl,rfl,rfl,rfl,hlh,hhl,hlo,hhi⟩;refine Ac (As (Qm rfl (Qm rfl (Qm rfl (An ?_)))));refine Au rfl (fun hlt=>?_) (fun hlt=>?_)
 ·obtain⟨m,hmm⟩:∃m,(lo+hi)/2=m:=⟨_,rfl⟩
  have hml:m<ll.length:=by omega
  have hme:m<es.length:=by omega
  have hmt:((lo:Int)+hi)/2=(m:Int):=by omega
  have hcm:Cell h [] ((AG v).add (m*1)) es[m]:=hV.cell0 hme rfl;have oem:=(hE.2 m hme hml).rd.one;refine Ah (Ab (Ae (As (Qm rfl (Qm rfl (Qx (oA rfl) rfl (Qx (FE rfl rfl rfl (by omega) (by omega)) rfl (Qm rfl (An ?_)))))))));rw[hmt];refine As (Qm rfl (Qm rfl (Qx (BS (m) hV.rd.any rfl Ck Cw rfl rfl) rfl (Ql rfl AY (hcm) (Qm rfl (Qx (AF rfl call208 rfl (N7 ll[m] s _ _ h (hE.2 m hme hml) hS _)) rfl (An ?_)))))));refine Bq rfl (fun hb=>?_) (fun hb=>?_)
  ·refine Ad (Qm rfl (Qx (oA rfl) rfl (Qm rfl (Aj (Ai ?_)))));exact Ak (hi-(m+1)) _ (by omega) ⟨m+1,hi,rfl,rfl,rfl,rfl,by omega,by omega,fun j hj h=>hm j m hj hml (by omega) hb,hhi⟩ Qs
  ·refine Ad (Qm rfl (Qm rfl (Aj (Ai ?_))))
   exact Ak (m-lo) _ (by omega) ⟨lo,m,rfl,rfl,rfl,rfl,by omega,by omega,hlo,fun j hj h=>by
    cases hq:Dg ll[j] s with
    | false=>rfl
    | true=>rw[hm m j hml hj h hq]at hb;cases hb⟩ Qs
 ·obtain rfl:lo=hi:=by omega
  have hcnt:DW ll s=lo:=YQ hhl hlo fun hk=>hhi lo hk (Nat.le_refl _);have hp1:(CZ ll s).1=lo:=hcnt;refine Av (Aa (Aa (Af (Ab (As (Qm rfl (Qm rfl (Qm rfl (Qx (Ar hV.rd.any rfl Ck rfl) rfl (Qm rfl (Qm rfl ?_)))))))))));refine AO (t:=32) rfl (fun g1=>?_) (fun g1=>?_)
  ·have hll:lo<ll.length:=by omega
   have hle2:lo<es.length:=by omega
   have hcl:Cell h [] ((AG v).add (lo*1)) es[lo]:=hV.cell0 hle2 rfl;have oel:=(hE.2 lo hle2 hll).rd.one;have hp2:(CZ ll s).2=!Dg s ll[lo]:=by unfold CZ;rw[hcnt,List.getElem?_eq_getElem hll]
   refine Qg (Ay rfl rfl) rfl (Qg (Ay rfl rfl) rfl (Qg (Ay rfl rfl) rfl (Qg (BS (lo) hV.rd.any rfl Ck Cw rfl rfl) rfl (Qg (oL rfl AY (hcl)) rfl (Qg (AF rfl call208 rfl (N7 s ll[lo] _ _ h hS (hE.2 lo hle2 hll) _)) rfl (Qg (Es rfl rfl) rfl (Qm rfl (Qm rfl (Qm rfl (An (Am ?_)))))))))));exact BC rfl rfl rfl (by rw[hp1,hp2])
  ·have hp2:(CZ ll s).2=false:=by unfold CZ;rw[hcnt,List.getElem?_eq_none (by omega)]
   refine Qk rfl (Qk rfl (Qk rfl (Qk rfl (Qk rfl (Qk rfl (Qk rfl (Qm rfl (Qm rfl (Qm rfl (An (Am ?_)))))))))));exact BC rfl rfl rfl (by rw[hp1,hp2])
end Go.Proofs.Q
namespace Go.Proofs.Q
open Go.Eng Go.RowKit
variable {all:List (List Int)} {a b:List Int}
theorem O8:∀a:List Int,Hm a a=false
 | []=>rfl
 | x::a=>by unfold Hm;rw[if_pos rfl];exact O8 a
theorem Li:∀{a b c:List Int},Hm a b=true->Hm b c=true->Hm a c=true
 | x::a,y::b,z::c,h1,h2=>by
  unfold Hm at *;by_cases e1:x=y
  ·subst e1;rw[if_pos rfl]at h1;by_cases e2:x=z
   ·subst e2;rw[if_pos rfl]at h2 ⊢;exact Li h1 h2
   ·rw[if_neg e2]at h2 ⊢;exact h2
  ·rw[if_neg e1]at h1;have h1:=of_decide_eq_true h1;by_cases e2:y=z
   ·subst e2;rw[if_neg e1];exact decide_eq_true h1
   ·rw[if_neg e2]at h2;have h2:=of_decide_eq_true h2;rw[if_neg (by omega)];exact decide_eq_true (by omega)
 | [],_,_,h1,_=>by cases h1
 | _::_,[],_,h1,_=>by cases h1
 | _::_,_::_,[],_,h2=>by cases h2
theorem KG:∀{a b:List Int},a.length=b.length->a≠b->Hm a b=true\/Hm b a=true
 | [],[],_,h=>absurd rfl h
 | x::a,y::b,hl,h=>by
  unfold Hm;by_cases e:x=y
  ·subst e;rw[if_pos rfl,if_pos rfl];exact KG (by simpa using hl) (fun q=>h (by rw[q]))
  ·rw[if_neg e,if_neg (fun q=>e q.symm)];rcases Int.lt_or_gt_of_ne e with h1|h1
   ·exact .inl (decide_eq_true h1)
   ·exact .inr (decide_eq_true h1)
 | [],_::_,hl,_=>by simp at hl
 | _::_,[],hl,_=>by simp at hl
theorem befF_iff:Dg a b=true<->a.length<b.length\/(a.length=b.length/\Hm a b=true):=by
 unfold Dg;split
 ·rename_i h;rw[decide_eq_true_iff];exact⟨.inl,fun q=>by rcases q with q|⟨q,_⟩;exact q;exact absurd q h⟩
 ·rename_i h;have h:a.length=b.length:=Classical.not_not.1 h;exact⟨fun q=>.inr ⟨h,q⟩,fun q=>by rcases q with q|⟨_,q⟩;omega;exact q⟩
theorem He(a:List Int):Dg a a=false:=by
 cases h:Dg a a with
 | false=>rfl
 | true=>
  rcases befF_iff.1 h with q|⟨_,q⟩
  ·omega
  ·rw[O8]at q;cases q
theorem LO{c:List Int}(h1:Dg a b=true)(h2:Dg b c=true):Dg a c=true:=by
 rw[befF_iff]at *;rcases h1 with h1|⟨h1,h3⟩<;>rcases h2 with h2|⟨h2,h4⟩
 ·exact .inl (by omega)
 ·exact .inl (by omega)
 ·exact .inl (by omega)
 ·exact .inr ⟨by omega,Li h3 h4⟩
theorem Lq(h:a≠b):Dg a b=true\/Dg b a=true:=by
 rw[befF_iff,befF_iff];rcases Nat.lt_trichotomy a.length b.length with h1|h1|h1
 ·exact .inl (.inl h1)
 ·rcases KG h1 h with h2|h2
  ·exact .inl (.inr ⟨h1,h2⟩)
  ·exact .inr (.inr ⟨h1.symm,h2⟩)
 ·exact .inr (.inl h1)
def SrtB(all:List (List Int)):Prop:=all.Pairwise fun a b=>Dg a b=true
theorem SrtB.mono(H:SrtB all)(s:List Int):∀i j (hi:i<all.length) (hj:j<all.length),i<=j->Dg all[j] s=true->Dg all[i] s=true:=fun i j hi hj hij h=>by
 rcases (by omega:i=j\/i<j) with rfl|h1
 ·exact h
 ·exact LO (List.pairwise_iff_getElem.1 H i j hi hj h1) h
theorem IE(ll:List (List Int))(s:List Int):DW ll s<=ll.length:=(List.takeWhile_sublist _).length_le
theorem NT{α:Type}(p:α->Bool):∀l:List α,(∀j (hj:j<l.length),j<(l.takeWhile p).length->p l[j]=true)/\∀h:(l.takeWhile p).length<l.length,p l[(l.takeWhile p).length]=false
 | []=>⟨fun j hj=>absurd hj (by simp),fun h=>absurd h (by simp)⟩
 | a::l=>by
  obtain⟨h1,h2⟩:=NT p l;cases ha:p a with
  | false=>
   have e:(a::l).takeWhile p=[]:=by simp[List.takeWhile,ha]
   refine⟨fun j _ h=>?_,fun h=>?_⟩
   ·rw[e]at h;simp at h
   ·have:∀k (hk:k<(a::l).length),k=0->p (a::l)[k]=false:=fun k hk q=>by subst q;exact ha
    exact this _ h (by rw[e];rfl)
  | true=>
   have e:(a::l).takeWhile p=a::l.takeWhile p:=by simp[List.takeWhile,ha]
   refine⟨fun j hj h=>?_,fun h=>?_⟩
   ·cases j with
    | zero=>exact ha
    | succ j=>
     rw[e,length_cons]at h;exact h1 j (by simpa using hj) (by omega)
   ·have:∀k (hk:k<(a::l).length),k=(l.takeWhile p).length+1->p (a::l)[k]=false:=fun k hk q=>by subst q;exact h2 (by simpa using hk)
    exact this _ h (by rw[e];rfl)
theorem IX(ll:List (List Int))(s:List Int){j:Nat}(hj:j<ll.length)(h:j<DW ll s):Dg ll[j] s=true:=(NT (fun t=>Dg t s) ll).1 j hj h
theorem Jq{ll:List (List Int)}{s:List Int}(hk:DW ll s<ll.length):Dg ll[DW ll s] s=false:=(NT (fun t=>Dg t s) ll).2 hk
theorem MH(H:SrtB all){s:List Int}:(CZ all s).2=true<->s∈all:=by
 have hc:=IE all s;unfold CZ;show(match all[DW all s]? with|some t=>!Dg s t|none=>false)=true<->_;by_cases hk:DW all s<all.length
 ·rw[List.getElem?_eq_getElem hk];have h1:=Jq hk;show(!Dg s all[DW all s])=true<->_;constructor
  ·intro h;have h2:Dg s all[DW all s]=false:=by simpa using h
   have e:all[DW all s]=s:=Classical.byContradiction fun q=>by
    rcases Lq q with r|r
    ·rw[h1]at r;cases r
    ·rw[h2]at r;cases r
   rw[<-e];exact getElem_mem hk
  ·intro h;obtain⟨j,hj,rfl⟩:=List.mem_iff_getElem.1 h;rcases Nat.lt_trichotomy j (DW all all[j]) with h3|h3|h3
   ·have:=IX all all[j] hj h3;rw[He]at this;cases this
   ·have e:all[DW all all[j]]=all[j]:=by congr 1;omega
    rw[e,He];rfl
   ·have h4:=List.pairwise_iff_getElem.1 H _ j hk hj h3;rw[h1]at h4;cases h4
 ·rw[List.getElem?_eq_none (by omega)];refine⟨fun h=>(nomatch h),fun h=>?_⟩;obtain⟨j,hj,rfl⟩:=List.mem_iff_getElem.1 h;have:=IX all all[j] hj (by omega);rw[He]at this;cases this
theorem OB(H:SrtB all){j:Nat}(hj:j<all.length):(CZ all all[j]).1=j:=by
 show DW all all[j]=j;have hc:=IE all all[j];rcases Nat.lt_trichotomy j (DW all all[j]) with h3|h3|h3
 ·have:=IX all all[j] hj h3;rw[He]at this;cases this
 ·exact h3.symm
 ·have hk:DW all all[j]<all.length:=by omega
  have h4:=List.pairwise_iff_getElem.1 H _ j hk hj h3;rw[Jq hk]at h4;cases h4
def Jp(all:List (List Int))(s:List Int):List (List Int):=if(CZ all s).2 then all else all.take (DW all s)++s::all.drop (DW all s)
theorem PJ(H:SrtB all)(s:List Int):SrtB (Jp all s)/\∀t,t∈Jp all s<->t=s\/t∈all:=by
 unfold Jp;by_cases hp:(CZ all s).2=true
 ·rw[if_pos hp];have:=(MH H).1 hp;exact⟨H,fun t=>⟨.inr,fun h=>by rcases h with rfl|h;exact this;exact h⟩⟩
 ·rw[if_neg hp];have hn:s ∉ all:=fun h=>hp ((MH H).2 h);refine⟨?_,fun t=>?_⟩
  ·have hlow:∀t∈all.take (DW all s),Dg t s=true:=fun t ht=>by obtain⟨j,hj,rfl⟩:=List.mem_iff_getElem.1 ht;rw[List.getElem_take];rw[length_take]at hj;exact IX all s (by omega) (by omega)
   have hhigh:∀t∈all.drop (DW all s),Dg s t=true:=fun t ht=>by
    obtain⟨j,hj,rfl⟩:=List.mem_iff_getElem.1 ht;rw[List.getElem_drop];rw[length_drop]at hj;have hk:DW all s<all.length:=by omega
    have h1:=Jq hk
    have h2:Dg s all[DW all s]=true:=by
     rcases Lq (a:=s) (b:=all[DW all s]) (fun q=>hn (by rw[q];exact getElem_mem hk)) with r|r
     ·exact r
     ·rw[h1]at r;cases r
    rcases Nat.eq_zero_or_pos j with rfl|h3
    ·exact h2
    ·exact LO h2 (List.pairwise_iff_getElem.1 H _ (DW all s+j) hk (by omega) (by omega))
   have hsplit:SrtB (all.take (DW all s)++all.drop (DW all s)):=by rw[List.take_append_drop];exact H
   obtain⟨p1,p2,p3⟩:=List.pairwise_append.1 hsplit;refine List.pairwise_append.2 ⟨p1,List.pairwise_cons.2 ⟨hhigh,p2⟩,fun a ha b hb=>?_⟩;rcases List.mem_cons.1 hb with rfl|hb
   ·exact hlow a ha
   ·exact p3 a ha b hb
  ·rw[mem_append,mem_cons];constructor
   ·rintro(h|h|h)
    ·exact .inr (mem_of_mem_take h)
    ·exact .inl h
    ·exact .inr (List.mem_of_mem_drop h)
   ·rintro(h|h)
    ·exact .inr (.inl h)
    ·rw[<-List.take_append_drop (DW all s) all]at h;rcases List.mem_append.1 h with h|h
     ·exact .inl h
     ·exact .inr (.inr h)
theorem UW(all:List (List Int))(s:List Int):(Jp all s).length<=all.length+1:=by
 unfold Jp;split
 ·omega
 ·rw[length_append,length_cons,length_take,length_drop];have:=IE all s;omega
def EJ(s:List Int)(b n:Nat):List Int:=((range n).filter fun k=>b.testBit k).map fun k=>s.getD k 0
theorem HL(s:List Int)(b n:Nat):EJ s b (n+1)=EJ s b n++(if b.testBit n then [s.getD n 0] else []):=by
 unfold EJ;rw[range_succ,List.filter_append,map_append];congr 1;by_cases h:b.testBit n=true
 ·rw[if_pos h];simp[h]
 ·rw[if_neg h];simp[h]
def CX(all:List (List Int))(s:List Int):Nat->List (List Int)
 | 0=>all
 | b+1=>Jp (CX all s b) (EJ s (b+1) s.length)
def CS:List (List Int)->List (List Int)->Option (List (List Int))
 | all,[]=>some all
 | all,l::ll=>
  let a2:=match E4 [] l with
   | some s=>CX all s (2^s.length-1)
   | none=>all
  if 4000<a2.length then none else CS a2 ll
theorem Ew(H:SrtB all)(s:List Int):∀b,SrtB (CX all s b)
 | 0=>H
 | b+1=>(PJ (Ew H s b) _).1
theorem H9(all:List (List Int))(s:List Int):∀b,(CX all s b).length<=all.length+b
 | 0=>Nat.le_refl _
 | b+1=>by have h1:=H9 all s b;have h2:=UW (CX all s b) (EJ s (b+1) s.length);show(Jp _ _).length<=_;omega
def DK(all:List (List Int))(i:Nat):Cl:=
 ⟨(i:Int)+1,((all.getD i []).length:Int)-1,if(all.getD i []).length<=1 then [] else CF ((range (all.getD i []).length).map fun k=>(((CZ all ((all.getD i []).eraseIdx k)).1:Int)+1,1-2*((k:Int)%2)))⟩
def D4(ll:List (List Int)):List Cl:=match CS [] ll with
 | some all=>(range all.length).map (DK all)
 | none=>[]
end Go.Proofs.Q
namespace Go.Proofs.Q
open Go.Proofs.Tryz
open Go.Eng Go.RowKit
variable {es:List Value}
theorem RdEs.nil(h:Hp):RdEs h [] []:=⟨rfl,fun i h1=>absurd h1 (by simp)⟩
theorem JL(H:∀u∈es,u.oneCell'=true):∀a∈es,∀c∈cW a,c.oneCell'=true:=fun a ha c hc=>by rw[List.mem_singleton.1 hc];exact H a ha
theorem Mw{e:Entry}{Q:Exit->Act->World->Prop}{ops:Array Oper}{r:List Oper}{s:AB}{ms:List Hp}:∀(pre:List Hp) (h:Hp),(∀h',h.le h'->(∀m∈pre,m.le h')->WL e ops Q r s h' ms)->WL e ops Q r s h (pre++ms)
 | [],h,k=>k h (CY) (fun m hm=>by cases hm)
 | m::pre,h,k=>AW fun h1 l1 k1=>Mw pre h1 fun h2 l2 k2=>k h2 (AJ l1 l2) fun m' hm=>by
  rcases List.mem_cons.1 hm with rfl|hm
  ·exact AJ k1 l2
  ·exact k2 m' hm
def VB(all:List (List Int)):Option (List Int)->List (List Int)
 | some s=>CX all s (2^s.length-1)
 | none=>all
theorem E5(all:List (List Int))(l:List Int)(ll:List (List Int)):CS all (l::ll)=if 4000<(VB all (E4 [] l)).length then none else CS (VB all (E4 [] l)) ll:=by show(let a2:=match E4 [] l with|some s=>CX all s (2^s.length-1)|none=>all;if 4000<a2.length then none else CS a2 ll)=_;cases E4 [] l<;>rfl
theorem SR{r:Value}{ms:List Hp}{o:Option (List Int)}(H:Aa7 r ms o)(h9:∀s,o=some s->s.length<=9):∃(vs:Value) (s:List Int) (b:Bool),r=.tuple #[vs,.bool b]/\((∀h,(∀m∈ms,m.le h)->RdL cI 1 h [] vs s)/\s.length<=9)/\∀all,VB all o=if b then CX all s (2^s.length-1) else all:=by
 cases o with
 | none=>exact⟨_,[],false,H,⟨fun h _=>⟨Rd.nil _ _ _,AV⟩,by simp⟩,fun all=>rfl⟩
 | some s=>
  obtain⟨v,m,rfl,e,O⟩:=H;exact⟨v,s,true,e,⟨fun h hm=>O.rdh (hm m Mh),h9 s rfl⟩,fun all=>rfl⟩
theorem IG:∀(l acc:List Int) (s:List Int),acc.length<=9->E4 acc l=some s->s.length<=9
 | [],acc,s,h,e=>by have:acc=s:=Option.some.inj e;rw[<-this];exact h
 | x::l,acc,s,h,e=>by
  unfold E4 at e;split at e
  ·exact IG l acc s h e
  ·split at e
   ·cases e
   ·exact IG l _ s (by omega) e
theorem RdEs.ones{h:Hp}{ll:List (List Int)}(H:RdEs h es ll):∀u∈es,u.oneCell'=true:=fun u hu=>by obtain⟨i,hi,rfl⟩:=List.mem_iff_getElem.1 hu;exact(H.2 i hi (by have:=H.1;omega)).rd.one
theorem RdEs.ins{h:Hp}{ll:List (List Int)}(H:RdEs h es ll){v:Value}{t:List Int}(hv:RdL cI 1 h [] v t)(k:Nat)(hk:k<=ll.length):RdEs h (es.take k++v::es.drop k) (ll.take k++t::ll.drop k):=by
 have hl:=H.1;refine⟨by simp[hl],fun i h1 h2=>?_⟩;rcases Nat.lt_trichotomy i k with h3|h3|h3
 ·rw[List.getElem_append_left (by rw[length_take];omega),List.getElem_append_left (by rw[length_take];omega),List.getElem_take,List.getElem_take];exact H.2 i (by omega) (by omega)
 ·subst h3;rw[getElem_append_right (by rw[length_take];omega),getElem_append_right (by rw[length_take];omega)];have e1:i-(es.take i).length=0:=by rw[length_take];omega
  have e2:i-(ll.take i).length=0:=by rw[length_take];omega
  simp only[e1,e2,List.getElem_cons_zero];exact hv
 ·rw[length_append,length_cons,length_take,length_drop]at h1 h2;rw[getElem_append_right (by rw[length_take];omega),getElem_append_right (by rw[length_take];omega)];have e1:i-(es.take k).length=(i-k-1)+1:=by rw[length_take];omega
  have e2:i-(ll.take k).length=(i-k-1)+1:=by rw[length_take];omega
  simp only[e1,e2,List.getElem_cons_succ,List.getElem_drop];have e3:k+(i-k-1)=i-1:=by omega
  simp only[e3];exact H.2 (i-1) (by omega) (by omega)
theorem Ic{all:List (List Int)}(H:SrtB all)(s:List Int):∀n,∀t,t∈CX all s n<->t∈all\/∃b,1<=b/\b<=n/\t=EJ s b s.length
 | 0,t=>⟨.inl,fun h=>by rcases h with h|⟨b,h1,h2,_⟩;exact h;omega⟩
 | n+1,t=>by
  show t∈Jp (CX all s n) (EJ s (n+1) s.length)<->_;rw[(PJ (Ew H s n) _).2 t,Ic H s n t];constructor
  ·rintro(h|h|⟨b,h1,h2,h3⟩)
   ·exact .inr ⟨n+1,by omega,by omega,h⟩
   ·exact .inl h
   ·exact .inr ⟨b,h1,by omega,h3⟩
  ·rintro(h|⟨b,h1,h2,h3⟩)
   ·exact .inr (.inl h)
   ·rcases (by omega:b<=n\/b=n+1) with h4|rfl
    ·exact .inr (.inr ⟨b,h1,h4,h3⟩)
    ·exact .inl h3
theorem Pj(s:List Int)(b n:Nat):(EJ s b n).length<=n:=by unfold EJ;rw[length_map];exact Nat.le_trans (List.length_filter_le _ _) (by simp)
theorem E9:∀(ll acc all:List (List Int)),SrtB acc->(∀t∈acc,t.length<=9)->CS acc ll=some all->∀t∈all,t.length<=9
 | [],acc,all,_,h,e=>by have:acc=all:=Option.some.inj e;rw[<-this];exact h
 | l::ll,acc,all,hS,h,e=>by
  rw[E5]at e;split at e
  ·cases e
  ·refine E9 ll _ all ?_ ?_ e
   ·cases E4 [] l with
    | none=>exact hS
    | some s=>exact Ew hS s _
   ·cases hs:E4 [] l with
    | none=>exact h
    | some s=>
     intro t ht;rcases (Ic hS s _ t).1 ht with h1|⟨b,_,_,rfl⟩
     ·exact h t h1
     ·exact Nat.le_trans (Pj _ _ _) (IG _ _ s (by simp) hs)
def OS(all:List (List Int))(S:List Int)(k:Nat):List (Int×Int):=(range k).map fun k=>(((CZ all (S.eraseIdx k)).1:Int)+1,1-2*((k:Int)%2))
theorem S6(all:List (List Int))(S:List Int)(k:Nat):OS all S (k+1)=OS all S k++[(((CZ all (S.eraseIdx k)).1:Int)+1,1-2*((k:Int)%2))]:=by unfold OS;rw[range_succ,map_append];rfl
theorem ID(all:List (List Int))(S:List Int)(k:Nat):(OS all S k).length=k:=by simp[OS]
theorem Co(ll:List (List Int))(es0:List Value)(v:Value)(h:Hp)(hn:ll.length<=100000)(hn2:∀l∈ll,l.length<=100000)(hV:RdL cW 1 h [] v es0)(hE:RdEs h es0 ll):FnT Tryz.prog 104 #[v] h [] (fun r h' ms'=>h.le h'/\∃m A v',ms'=[m]/\r=.agg #[v']/\OwnL cC 3 52 m v' A/\A.map Ce.c=D4 ll/\∀a∈A,RdL cD 2 h' [] a.v a.c.sd):=by
 have o1:=hV.rd.one;have hle:=hE.1;refine Ao func104 ntmps104 rfl rfl (fun w0 hw0=>?_);simp only[AU];refine As (CC [.slice none 0 0] rfl A6 rfl rfl (fun g2=>Bv (Qm rfl (An (Ac (As (Qm rfl (An (Ae (BB ?_))))))))))
 refine Az (fun q s hh ms'=>∃(i:Nat) (v3:Value) (m3:Hp) (es:List Value) (all:List (List Int)),q=ll.length-i/\s=[(0,v),(2,.pointer (some ⟨g2,0,none⟩)),(3,v3),(4,.int .i64 i)]/\h.le hh/\ms'=[m3,A7 g2 29 [.slice none 0 0]]/\i<=ll.length/\OwnL cW 1 22 m3 v3 es/\RdEs hh es all/\SrtB all/\all.length<=4000/\CS [] ll=CS all (ll.drop i))
  (ll.length-0) _ ⟨0,_,Hp.emp,[],[],rfl,rfl,CY,rfl,by omega,OwnL.nil DV,RdEs.nil _,List.Pairwise.nil,by simp,rfl⟩ Qs ?_
 rintro q s hh ms' ⟨i,v3,m3,es,all,rfl,rfl,lh,rfl,hi,hO,hEs,hSrt,hal,he⟩;have hV:=hV.up lh;have hE:=hE.up lh;refine Ac (As (Qm rfl (Qm rfl (Qx (Ar hV.rd.any rfl Ck rfl) rfl (Qm rfl (An ?_))))));refine Au rfl (fun hlt=>?_) (fun hlt=>?_)
 ·have hil:i<ll.length:=by omega
  have hie:i<es0.length:=by omega
  have hci:∀ms,Cell hh ms ((AG v).add (i*1)) es0[i]:=fun ms=>(hV.any (ms:=ms)).cell0 hie rfl;have oei:=(hE.2 i hie hil).rd.one;have hd:CS all (ll.drop i)=if 4000<(VB all (E4 [] ll[i])).length then none else CS (VB all (E4 [] ll[i])) (ll.drop (i+1)):=by rw[List.drop_eq_getElem_cons hil,E5]
  have ov3:=hO.o1;refine Ah (Ab (Ac (Ae (As (Qm rfl (Qm rfl (Qx (BS (i) hV.rd.any rfl Ck Cw rfl rfl) rfl (Ql rfl AY (hci _) (Qc call168 rfl (AaB ll[i] es0[i] hh (hn2 _ (getElem_mem hil)) (hE.2 i hie hil)) (fun rs h2 ms2 l2 hF=>?_))))))))));obtain⟨rfl,hF⟩:=hF;have hsl:∀s,E4 [] ll[i]=some s->s.length<=9:=fun s e=>IG _ _ s (by simp) e;obtain⟨vs,s,b,rfl,hRs,hmt⟩:=SR hF hsl;refine Mw ms2 hh fun h3 l3 k3=>?_;obtain⟨hRs,hs9⟩:=hRs;have hRs:=hRs h3 k3;have hEs:=hEs.up l3;have ovs:=hRs.rd.one;refine Qm rfl (Qm rfl (Qm rfl (Qm rfl (Qm rfl (An ?_)))));obtain⟨P,hP⟩:∃P,2^s.length=P:=⟨_,rfl⟩
  have hP1:1<=P:=by rw[<-hP];exact Nat.one_le_two_pow
  have hP2:P<=512:=by rw[<-hP];exact Nat.pow_le_pow_right (n:=2) (by decide) hs9
  refine A3 (fun sl h' ms'=>∃(v3:Value) (m3:Hp) (es:List Value) (A:List (List Int)),sl=[(0,v),(2,.pointer (some ⟨g2,0,none⟩)),(3,v3),(4,.int .i64 i)]/\h3.le h'/\ms'=[m3,A7 g2 29 [.slice none 0 0]]/\OwnL cW 1 22 m3 v3 es/\RdEs h' es A/\SrtB A/\A.length<=4600/\A=(if b then CX all s (P-1) else all)) ?_ (fun s h ms hI=>?_)
  ·refine Ac (Ad (Qm rfl (An (Ae ?_))))
   refine Az (fun q sl h' ms'=>∃(n:Nat) (v3:Value) (m3:Hp) (es:List Value),q=P-1-n/\sl=[(0,v),(2,.pointer (some ⟨g2,0,none⟩)),(3,v3),(4,.int .i64 i),(5,vs),(6,.bool b),(7,.int .i64 ((n:Int)+1))]/\h3.le h'/\ms'=[m3,A7 g2 29 [.slice none 0 0]]/\n<=P-1/\OwnL cW 1 22 m3 v3 es/\RdEs h' es (if b then CX all s n else all))
    (P-1-0) _ ⟨0,v3,m3,es,rfl,rfl,CY,rfl,by omega,hO,by cases b<;>exact hEs⟩ Qs ?_
   rintro q sl h4 ms' ⟨n,v3,m3,es,rfl,rfl,l4,rfl,hnP,hO,hEs⟩;have hRs:=hRs.up l4;refine Ac (As (Qm rfl (Qm rfl ?_)));refine De (t:=35) rfl (fun hb=>?_) (fun hb=>?_)
   ·refine Qg (Ay rfl rfl) rfl (Qg (Ay rfl rfl) rfl (Qg (Ar hRs.rd.any rfl AY rfl) rfl (Qg (Yg rfl rfl rfl (by omega)) rfl (Qg (Dv rfl rfl rfl) rfl (Qm rfl (An ?_))))));refine Au rfl (fun hlt3=>?_) (fun hlt3=>?_)
    ·have hnl:n+1<P:=by rw[hP]at hlt3;omega
     subst hb;have hEs:RdEs h4 es (CX all s n):=hEs;have ov3:=hO.o1;have ovs:=hRs.rd.one;have hfl:=H9 all s n;have hFs:=Ew hSrt s n;refine Ah (Ab ?_);refine A3 (fun sl h' ms'=>∃(v3:Value) (m3:Hp) (es:List Value),sl=[(0,v),(2,.pointer (some ⟨g2,0,none⟩)),(3,v3),(4,.int .i64 i),(5,vs),(6,.bool true),(7,.int .i64 ((n:Int)+1))]/\h4.le h'/\ms'=[m3,A7 g2 29 [.slice none 0 0]]/\OwnL cW 1 22 m3 v3 es/\RdEs h' es (CX all s (n+1))) ?_ (fun s h ms hI=>?_)
     ·refine Ae (As (Qm rfl (An (BB ?_))));refine A3 (fun sl h' ms'=>∃(v8:Value) (m8:Hp),sl=[(0,v),(2,.pointer (some ⟨g2,0,none⟩)),(3,v3),(4,.int .i64 i),(5,vs),(6,.bool true),(7,.int .i64 ((n:Int)+1)),(8,v8)]/\h4=h'/\ms'=[m8,m3,A7 g2 29 [.slice none 0 0]]/\OwnL cI 1 3 m8 v8 (EJ s (n+1) s.length)) ?_ (fun s h ms hI=>?_)
      ·refine Ac (Ad (Qm rfl (An (Ae ?_))))
       refine Az (fun q sl h' ms'=>∃(a:Nat) (v8:Value) (m8:Hp),q=s.length-a/\sl=[(0,v),(2,.pointer (some ⟨g2,0,none⟩)),(3,v3),(4,.int .i64 i),(5,vs),(6,.bool true),(7,.int .i64 ((n:Int)+1)),(8,v8),(9,.int .i64 a)]/\h4=h'/\ms'=[m8,m3,A7 g2 29 [.slice none 0 0]]/\a<=s.length/\OwnL cI 1 3 m8 v8 (EJ s (n+1) a))
        (s.length-0) _ ⟨0,_,Hp.emp,rfl,rfl,rfl,rfl,by omega,OwnL.nil AV⟩ Qs ?_
       rintro q sl h' ms' ⟨a,v8,m8,rfl,rfl,rfl,rfl,ha,hO8⟩;refine Ac (As (Qm rfl (Qm rfl (Qx (Ar hRs.rd.any rfl AY rfl) rfl (Qm rfl (An ?_))))));refine Au rfl (fun hla=>?_) (fun hla=>?_)
       ·have hsa:a<s.length:=by omega
        have hbit:(n+1).testBit a=decide ((n+1)/2^a%2=1):=by rw[Nat.testBit_eq_decide_div_mod_eq]
        have hsub:=HL s (n+1) a;have hca:∀ms,Cell h4 ms ((AG vs).add (a*1)) (.int .i64 s[a]):=fun ms=>(hRs.any (ms:=ms)).cell0 hsa rfl;have hga:s.getD a 0=s[a]:=by simp[hsa]
        have ov8:=hO8.o1;have hl8:=Pj s (n+1) a;refine Ah (Ab (Ac (Ae (As (Qm rfl (Qm rfl (Qx (NL rfl (n:=a) (a:=n+1) rfl rfl (by omega)) rfl ?_)))))));refine Qx (WQ rfl rfl rfl (by have:=Nat.div_le_self (n+1) (2^a);omega)) rfl ?_;refine Qm rfl (An ?_);refine Au rfl (fun hod=>?_) (fun hod=>?_)
        ·rw[hbit,decide_eq_true (by omega),if_pos rfl,hga]at hsub;refine Ad (Qm rfl (Qm rfl (Qm rfl (Qx (BS (a) hRs.rd.any rfl AY Be rfl rfl) rfl (Ql rfl U3 (hca _) (Aq [_] rfl AY Be rfl (by rfl) rfl rfl (by omega) rfl rfl rfl (fun g60=>AM 1 hO8 (RdL.one AV (x:=s[a]) Mh rfl) rfl AY Be rfl (by omega) rfl rfl rfl B5 (by(try simp only[length_singleton]);omega) (by(try simp only[length_singleton]);omega) rfl rfl rfl (fun v9 m9 hO9=>?_))))))));rw[<-hsub]at hO9;refine Qm rfl (Aj (Ai (Ab (Ad (Qm rfl (Qx (oA rfl) rfl (Qm rfl (Aj (AN ?_)))))))));exact Ak (s.length-(a+1)) _ (by omega) ⟨a+1,v9,m9,rfl,rfl,rfl,rfl,by omega,hO9⟩ Qs
        ·rw[hbit,decide_eq_false (by omega),if_neg (by decide),append_nil]at hsub;refine Ah (Ai (Ab (Ad (Qm rfl (Qx (oA rfl) rfl (Qm rfl (Aj ?_)))))));exact Ak (s.length-(a+1)) _ (by omega) ⟨a+1,v8,m8,rfl,rfl,rfl,rfl,by omega,by rw[hsub];exact hO8⟩ Qs
       ·obtain rfl:a=s.length:=by omega
        refine Av (Aa (Aa (Af ?_)));exact AA _ ⟨v8,m8,rfl,rfl,rfl,hO8⟩ Qs
      ·obtain⟨v8,m8,rfl,rfl,rfl,hO8⟩:=hI;obtain⟨t,ht⟩:∃t,EJ s (n+1) s.length=t:=⟨_,rfl⟩
       obtain⟨A,hA⟩:∃A,CX all s n=A:=⟨_,rfl⟩
       have hfs:CX all s (n+1)=Jp A t:=by rw[<-ht,<-hA];rfl
       rw[ht]at hO8;rw[hA]at hfl hFs hEs;refine BE fun h5 l5 k5=>?_;have hT:=hO8.rdh (ms:=[]) k5;have ov8:=hT.rd.one;have hEs:=hEs.up l5;have hAe:=hEs.1;have hoe:∀u∈es,u.oneCell'=true:=hEs.ones;refine As (Qm rfl (Qm rfl (Qx (AF rfl call169 rfl (CB fun h' hl hm=>RI A t es v3 v8 h' (by omega) (hFs.mono t) (hO.rdh (hm _ Mh)) (hEs.up hl) (hT.up hl) [])) rfl (Qm rfl (Qm rfl (Qm rfl (Qm rfl (Qm rfl (An ?_)))))))));have hcb:=IE A t;obtain⟨k,hk⟩:∃k,DW A t=k:=⟨_,rfl⟩
       have hp1:(CZ A t).1=k:=hk;rw[hp1];rw[hk]at hcb;refine As (Qm rfl (Qm rfl (An ?_)));refine Bq rfl (fun hth=>?_) (fun hth=>?_)
       ·have hth:(CZ A t).2=false:=by simpa using hth
        have hins:Jp A t=A.take k++t::A.drop k:=by unfold Jp;rw[hth,hk];rfl
        have hcl:=hO.rd (h:=h5) (ms:=[m3]) Mh;refine As (Qm rfl (Aq [_] rfl Ck Cw rfl ((RdL.rd ‹_›).cells) rfl rfl (by omega) rfl rfl rfl (fun g71=>Qm rfl (Qm rfl (Qx (PF (k) hcl.rd rfl Ck Cw rfl rfl (by omega) (by omega)) rfl (Bj 0 (OwnL.blk (g:=g71) (el:=22) (F:=cW) (l:=[v8]) 1 DV rfl (by decide)) ((hO.rd (h:=h5) (List.Mem.tail _ Mh)).sub_ (by omega) (Nat.le_refl _)) rfl Ck Cw rfl (by omega) rfl rfl rfl (JL fun u hu=>hoe u (List.mem_of_mem_drop (mem_of_mem_take hu))) (by(try simp only[length_singleton,length_nil,length_append,length_take,length_drop,nil_append]);omega) (by(try simp only[length_singleton,length_nil,length_append,length_take,length_drop,nil_append]);omega) rfl rfl rfl (fun v6 m6 hO6=>?_)))))));have ov6:=hO6.o1;refine Qm rfl (Gh ?_);refine AE [] [] [] rfl Ck Cw rfl (by omega) (by kernel_rfl) (by repeat (first|exact trivial|refine⟨⟨by first|rfl|exact(hRs.rd.any).cells|exact(hcl.rd).cells|exact Rd.cells ‹_›|exact(RdL.rd ‹_›).cells,rfl,rfl⟩,?_⟩)) rfl rfl rfl rfl (fun g76=>?_);refine Qm rfl (Qm rfl (Qx (EG (k) hcl.rd rfl Ck Cw rfl rfl (by omega) (by omega)) rfl (Bj 0 (ER g76 DV) ((hO.rd (h:=h5) (List.Mem.tail _ (List.Mem.tail _ Mh))).sub_ (Nat.zero_le _) (by omega)) rfl Ck Cw rfl (by omega) rfl rfl rfl (JL fun u hu=>hoe u (mem_of_mem_take hu)) (by(try simp only[length_singleton,length_nil,length_append,length_take,length_drop,nil_append]);omega) (by(try simp only[length_singleton,length_nil,length_append,length_take,length_drop,nil_append]);omega) rfl rfl rfl (fun v7 m7 hO7=>Qm rfl ?_))))
        have hoe9:∀u∈v8::(es.drop k).take (es.length-k),u.oneCell'=true:=fun u hu=>by
         rcases List.mem_cons.1 hu with rfl|hu
         ·exact ov8
         ·exact hoe u (List.mem_of_mem_drop (mem_of_mem_take hu))
        refine Bj 0 hO7 (hO6.rd (h:=h5) (List.Mem.tail _ Mh)) rfl Ck Cw rfl (by omega) rfl rfl rfl (JL hoe9) (by(try simp only[length_singleton,length_nil,length_append,length_take,length_drop,nil_append]);omega) (by(try simp only[length_singleton,length_nil,length_append,length_take,length_drop,nil_append]);omega) rfl rfl rfl (fun v9 m9 hO9=>?_)
        have heq:[]++(es.drop 0).take (k-0)++([v8]++(es.drop k).take (es.length-k))=es.take k++v8::es.drop k:=by rw[drop_zero,Nat.sub_zero,take_of_length_le (l:=es.drop k) (by rw[length_drop];omega)];rfl
        rw[heq]at hO9;have ov9:=hO9.o1;refine Qm rfl (Aj (Ai (Bp 1 rfl (Bp 1 rfl ?_))));exact AA _ ⟨v9,m9,_,rfl,l5,rfl,hO9,by rw[hfs,hins];exact hEs.ins hT k (by omega)⟩ Qs
       ·have hth:(CZ A t).2=true:=by simpa using hth
        have hins:Jp A t=A:=by unfold Jp;rw[hth];rfl
        refine Ah (Ai ?_);exact AA _ ⟨v3,m3,es,rfl,l5,rfl,hO,by rw[hfs,hins];exact hEs⟩ Qs
     ·obtain⟨v3,m3,es,rfl,l5,rfl,hO,hEs⟩:=hI;refine Ad (Qm rfl (Qx (oA rfl) rfl (Qm rfl (Aj ?_))));exact Ak (P-1-(n+1)) _ (by omega) ⟨n+1,v3,m3,es,rfl,rfl,AJ l4 l5,rfl,by omega,hO,hEs⟩ Qs
    ·have hnl:n=P-1:=by rw[hP]at hlt3;omega
     subst hb;have hEs:RdEs h4 es (CX all s n):=hEs;rw[hnl]at hEs;have hfl:=H9 all s (P-1);refine Av (Aa (Aa (Af ?_)));exact AA _ ⟨v3,m3,es,_,rfl,l4,rfl,hO,hEs,Ew hSrt s _,by omega,rfl⟩ Qs
   ·subst hb;have hEs:RdEs h4 es all:=hEs;refine Qk rfl (Qk rfl (Qk rfl (Qk rfl (Qk rfl (Qm rfl (An (AQ rfl (Av (Aa (Aa (Af ?_)))))))))));exact AA _ ⟨v3,m3,es,all,rfl,l4,rfl,hO,hEs,hSrt,by omega,rfl⟩ Qs
  ·obtain⟨v3,m3,es,A,rfl,l4,rfl,hO,hEs,hSrtA,hAl,hA⟩:=hI;have hAe:=hEs.1;have hmtA:=hmt all;rw[hP,<-hA]at hmtA;rw[hmtA]at hd;have ov3:=hO.o1;refine As (Qm rfl (Qx (FC (hO.rd (h:=h) (ms:=[m3]) Mh).rd rfl Ck rfl) rfl (Qm rfl (An ?_))));refine Au rfl (fun hbig=>?_) (fun hbig=>?_)
   ·rw[if_pos (by omega)]at hd;refine BB (As ?_);refine Qx (A0 Q5 [.slice none 0 0] [] [_] rfl A6 rfl rfl (by repeat (first|exact trivial|refine⟨⟨rfl,rfl,rfl⟩,?_⟩|refine⟨⟨((hO.rd (h:=h) (ms:=[m3]) Mh).rd).cells,rfl,rfl⟩,?_⟩)) rfl) rfl ?_;refine Sa 2 [_] A6 rfl (by simp[Value.oneCell']) ?_;refine An (Am (Al (Ag (Ag (Al (Ag (Bp 1 rfl ?_)))))));exact BU (vs:=[_]) 1 rfl rfl Dt rfl A6 rfl rfl (⟨AJ lh (AJ l2 (AJ l3 l4)),Hp.emp,[],_,rfl,rfl,OwnL.nil B3,by unfold D4;rw[he,hd];rfl,fun a ha=>nomatch ha⟩)
   ·rw[if_neg (by omega)]at hd;refine Ah (Ai (Ab (Ad (Qm rfl (Qx (oA rfl) rfl (Qm rfl (Aj ?_)))))));exact Ak (ll.length-(i+1)) _ (by omega) ⟨i+1,v3,m3,es,A,rfl,rfl,AJ lh (AJ l2 (AJ l3 l4)),rfl,by omega,hO,hEs,hSrtA,by omega,by rw[he,hd]⟩ Qs
 ·obtain rfl:i=ll.length:=by omega
  have he:CS [] ll=some all:=by rw[he,List.drop_length];rfl
  have h9:=E9 ll [] all List.Pairwise.nil (fun t ht=>nomatch ht) he;have hsF:D4 ll=(range all.length).map (DK all):=by unfold D4;rw[he]
  have hAe:=hEs.1;refine BE fun h2 l2 k2=>?_;have hR3:=hO.rdh (ms:=[]) k2;have hEs:=hEs.up l2;have ov3:v3.oneCell'=true:=hR3.rd.one;refine Av (Aa (Aa (Af (Ab (As (CC [.slice none 0 0] rfl A6 rfl rfl (fun g13=>An (BB (Ac (As (Qm rfl (An (Ae ?_)))))))))))))
  refine Az (fun q sl h' ms'=>∃(j:Nat) (vA:Value) (mA:Hp) (A:List Ce),q=all.length-j/\sl=[(0,v),(2,.pointer (some ⟨g2,0,none⟩)),(3,v3),(13,.pointer (some ⟨g13,0,none⟩)),(14,.int .i64 j)]/\h2.le h'/\ms'=[mA,A7 g13 29 [vA],A7 g2 29 [.slice none 0 0]]/\j<=all.length/\OwnL cC 3 52 mA vA A/\A.map Ce.c=(range j).map (DK all)/\∀a∈A,RdL cD 2 h' [] a.v a.c.sd)
   (all.length-0) _ ⟨0,_,Hp.emp,[],rfl,rfl,CY,rfl,by omega,OwnL.nil B3,rfl,fun a ha=>nomatch ha⟩ Qs ?_
  rintro q sl h4 ms' ⟨j,vA,mA,A,rfl,rfl,l4,rfl,hj,hOA,hA,hSd⟩;have hR3:=hR3.up l4;have hEs:=hEs.up l4;refine Ac (As (Qm rfl (Qm rfl (Qx (Ar hR3.rd.any rfl Ck rfl) rfl (Qm rfl (An ?_))))));refine Au rfl (fun hjl=>?_) (fun hjl=>?_)
  ·have hjl:j<all.length:=by omega
   have hje:j<es.length:=by omega
   obtain⟨S,hS⟩:∃S,all[j]=S:=⟨_,rfl⟩
   have hS9:S.length<=9:=by rw[<-hS];exact h9 _ (getElem_mem hjl)
   have hRS:RdL cI 1 h4 [] es[j] S:=by rw[<-hS];exact hEs.2 j hje hjl
   have hcj:∀ms,Cell h4 ms ((AG v3).add (j*1)) es[j]:=fun ms=>(hR3.any (ms:=ms)).cell0 hje rfl;have ovS:=hRS.rd.one;have ovA:=hOA.o1;have hgd:all.getD j []=S:=by simp[hjl,hS]
   refine Ah (Ab (Ac (Ae (As (Qm rfl (Qx (oA rfl) rfl (Qm rfl (Qm rfl (Qx (BS (j) hR3.rd.any rfl Ck Cw rfl rfl) rfl (Ql rfl AY (hcj _) (Qx (Ar hRS.rd.any rfl AY rfl) rfl (Qx (oS rfl) rfl ?_))))))))))));refine Qx (A0 LW [.int .i64 0,.int .i64 0,.slice none 0 0] [(0,_),(1,_)] [_,_,_] rfl AI rfl rfl (by repeat (first|exact trivial|refine⟨⟨rfl,rfl,rfl⟩,?_⟩|refine⟨⟨((hO.rd (h:=h) (ms:=[m3]) Mh).rd).cells,rfl,rfl⟩,?_⟩)) rfl) rfl ?_;refine CC [.int .i64 0,.int .i64 0,.slice none 0 0] rfl AI rfl rfl (fun g15=>?_);refine Sa 0 [_,_,_] AI rfl (by simp[Value.oneCell']) ?_;refine An (BB ?_);obtain⟨D,hD⟩:∃D:Int,(S.length:Int)-1=D:=⟨_,rfl⟩
   rw[hD];refine A3 (fun sl h' ms'=>∃(vS:Value) (mS:Hp),sl=[(0,v),(2,.pointer (some ⟨g2,0,none⟩)),(3,v3),(13,.pointer (some ⟨g13,0,none⟩)),(14,.int .i64 j),(15,.pointer (some ⟨g15,0,none⟩))]/\h4=h'/\ms'=[mS,A7 g15 52 [.int .i64 ((j:Int)+1),.int .i64 D,vS],mA,A7 g13 29 [vA],A7 g2 29 [.slice none 0 0]]/\OwnL cD 2 119 mS vS (if S.length<=1 then [] else OS all S S.length)) ?_ (fun s h ms hI=>?_)
   ·refine Ac (Ad (Qm rfl (An (Ae ?_))))
    refine Az (fun q sl h' ms'=>∃(k:Nat) (vS:Value) (mS:Hp),q=S.length-k/\sl=[(0,v),(2,.pointer (some ⟨g2,0,none⟩)),(3,v3),(13,.pointer (some ⟨g13,0,none⟩)),(14,.int .i64 j),(15,.pointer (some ⟨g15,0,none⟩)),(16,.int .i64 k)]/\h4=h'/\ms'=[mS,A7 g15 52 [.int .i64 ((j:Int)+1),.int .i64 D,vS],mA,A7 g13 29 [vA],A7 g2 29 [.slice none 0 0]]/\k<=S.length/\(S.length<=1->k=0)/\OwnL cD 2 119 mS vS (OS all S k))
     (S.length-0) _ ⟨0,_,Hp.emp,rfl,rfl,rfl,rfl,by omega,fun _=>rfl,OwnL.nil CK⟩ Qs ?_
    rintro q sl h' ms' ⟨k,vS,mS,rfl,rfl,rfl,rfl,hk,hk0,hOS⟩;refine Ac (As (Qm rfl (Qm rfl (Qm rfl (Qx (BS (j) hR3.rd.any rfl Ck Cw rfl rfl) rfl (Ql rfl AY (hcj _) (Qx (Ar hRS.rd.any rfl AY rfl) rfl (Qm rfl (Qm rfl ?_)))))))));refine AO (t:=109) rfl (fun hk1=>?_) (fun hk1=>?_)
    ·have hkS:k<S.length:=by omega
     refine Qg (oF BM rfl) rfl (Qg (oL rfl U3 (Cell.blk 1 rfl rfl)) rfl (Qg (Cc rfl rfl rfl) rfl (Qm rfl (An ?_))));refine Au rfl (fun hdp=>?_) (fun hdp=>?_)
     ·have hD1:1<=D:=by omega
      have ovS2:=hOS.o1;refine Ah (Ab (Ac (Ae (Ac (BF (n:=17) (bs:=[false,true,true,true,true,true,true,false,true,true,true,true,true,true,true,false,false]) [false,true,true,true,true,true,true,false,true,true,true,true,true,true,true] CP (by kernel_rfl) (by kernel_rfl) rfl rfl (Qq rfl (Qq rfl (Qp rfl (BS (j) hR3.rd.any rfl Ck Cw rfl rfl) (QL rfl AY (hcj _) (Qq rfl (Qp rfl (Ho (k) hRS.rd.any rfl AY Be rfl rfl (by omega) (by omega)) (Qq rfl (Qq rfl (Qp rfl (BS (j) hR3.rd.any rfl Ck Cw rfl rfl) (QL rfl AY (hcj _) (Qq rfl (Qp rfl (oA rfl) (Qp rfl (Dy (k+1) hRS.rd.any rfl AY Be rfl rfl (by omega) (by omega)) ?_))))))))))))))))));unfold FN;simp only[cons_append,nil_append];refine Qo 0 rfl ?_;refine AE [] [] [] rfl AY Be rfl (by omega) (by kernel_rfl) (by repeat (first|exact trivial|refine⟨⟨by first|rfl|exact(hR3.rd.any).cells|exact(hRS.rd.any).cells|exact((hO.rd (h:=h) (ms:=[m3]) Mh).rd).cells|exact Rd.cells ‹_›|exact(RdL.rd ‹_›).cells,rfl,rfl⟩,?_⟩)) rfl rfl rfl rfl (fun g116=>?_);refine Qw (Qo 7 rfl (AM 0 (ER g116 AV) (hRS.any.sub_ (Nat.zero_le _) hk) rfl AY Be rfl (by omega) rfl rfl rfl B5 (by(try simp only[length_singleton,length_nil,length_append,length_take,length_drop,nil_append]);omega) (by(try simp only[length_singleton,length_nil,length_append,length_take,length_drop,nil_append]);omega) rfl rfl rfl (fun v6 m6 hO6=>Qw (Qo 15 rfl (AM 0 hO6 (hRS.any.sub_ hkS (Nat.le_refl _)) rfl AY Be rfl (by omega) rfl rfl rfl B5 (by(try simp only[length_singleton,length_nil,length_append,length_take,length_drop,nil_append]);omega) (by(try simp only[length_singleton,length_nil,length_append,length_take,length_drop,nil_append]);omega) rfl rfl rfl (fun v7 m7 hO7=>Qw (Qo 16 rfl (Qm rfl (Qw (Qe ?_))))))))))
      have heq:[]++(S.drop 0).take (k-0)++(S.drop (k+1)).take (S.length-(k+1))=S.eraseIdx k:=by rw[drop_zero,Nat.sub_zero,take_of_length_le (l:=S.drop (k+1)) (by rw[length_drop];exact Nat.le_refl _),List.eraseIdx_eq_take_drop_succ];rfl
      rw[heq]at hO7;refine Ab ?_;have ov7:=hO7.o1;refine As (Qm rfl (Qm rfl (Qx (AF rfl call169 rfl (CB fun h' hl hm=>RI all (S.eraseIdx k) es v3 v7 h' (by omega) (hSrt.mono _) (hR3.up hl) (hEs.up hl) (hO7.rdh (hm _ Mh)) [])) rfl (Qm rfl (Qm rfl (Qm rfl (Qm rfl (Qm rfl (An (Kq ?_))))))))));obtain⟨n,hn⟩:∃n,(CZ all (S.eraseIdx k)).1=n:=⟨_,rfl⟩
      have hnl:n<=all.length:=by rw[<-hn];exact IE _ _
      have hrs:=S6 all S k;rw[hn]at hrs ⊢;have hrl:=ID all S k;refine Ad (Qf Bu rfl (Ql rfl BL (Cell.blk 1 rfl rfl) (Qm rfl (Qx (oA rfl) rfl (Qm rfl (Qx (BV rfl rfl rfl (by omega) (by omega)) rfl (Qx (oM rfl) rfl (Qx (oS rfl) rfl ?_))))))));refine Qx (A0 KW [.int .i64 0,.int .i64 0] [(0,_),(1,_)] [_,_] rfl AH rfl rfl (by repeat (first|exact trivial|refine⟨⟨rfl,rfl,rfl⟩,?_⟩|refine⟨⟨((hO.rd (h:=h) (ms:=[m3]) Mh).rd).cells,rfl,rfl⟩,?_⟩)) rfl) rfl ?_;refine Aq [_,_] rfl BL AH rfl (by rfl) rfl rfl (by omega) rfl rfl rfl (fun g147=>?_);refine AM 1 hOS (RdL.one CK (x:=((n:Int)+1,1-2*((k:Int)%2))) Mh rfl) rfl BL AH rfl (by omega) rfl rfl rfl DT (by rw[ID];(try simp only[length_singleton]);omega) (by rw[ID];(try simp only[length_singleton]);omega) rfl rfl rfl (fun v9 m9 hO9=>?_);rw[<-hrs]at hO9;have ov9:=hO9.o1;refine Qf Bu rfl ?_;refine AK 2 _ rfl Pb rfl rfl (by assumption) rfl rfl (by(simp;done)) rfl rfl ?_;refine Aj (Ai (Ab (Ad (Qm rfl (Qx (oA rfl) rfl (Qm rfl (Aj (Bp 0 rfl ?_))))))));exact Ak (S.length-(k+1)) _ (by omega) ⟨k+1,v9,m9,rfl,rfl,rfl,rfl,by omega,fun q=>by omega,hO9⟩ Qs
     ·have hS1:S.length<=1:=by omega
      refine Av (Aa (Aa (Af ?_)));exact AA _ ⟨vS,mS,rfl,rfl,rfl,by rw[if_pos hS1];have:=hk0 hS1;subst this;exact hOS⟩ Qs
    ·have hkS:k=S.length:=by omega
     subst hkS;refine Qk rfl (Qk rfl (Qk rfl (Qm rfl (An (AQ rfl (Av (Aa (Aa (Af ?_)))))))))
     exact AA _ ⟨vS,mS,rfl,rfl,rfl,by
      split
      ·rename_i h1;have:=hk0 h1;rw[this]at hOS;exact hOS
      ·exact hOS⟩ Qs
   ·obtain⟨vS,mS,rfl,rfl,rfl,hOS⟩:=hI;obtain⟨rw,hrw⟩:∃rw,(if S.length<=1 then [] else OS all S S.length)=rw:=⟨_,rfl⟩
    have hrl:rw.length<=9:=by
     rw[<-hrw];split
     ·simp
     ·rw[ID];exact hS9
    rw[hrw]at hOS
    have hcell:DK all j=⟨(j:Int)+1,D,CF rw⟩:=by unfold DK;rw[hgd,hD,<-hrw];split<;>rfl
    refine BE fun h5 l5 k5=>?_;have hRw:=hOS.rdh (ms:=[]) k5;have ovS2:=hRw.rd.one;refine As (Qf Bu rfl (Ql rfl BL (Cell.blk 0 rfl rfl) (Qc call170 rfl (OF rw vS h5 (by omega) hRw) (fun rs h6 ms2 l6 hF=>?_))));obtain⟨rfl,m9,rfl,hO9⟩:=hF;refine AW fun h6 l6 k6=>?_;have hR9:=hO9.rdh (ms:=[]) k6;have ov9:=hR9.rd.one;have hAl:A.length=j:=by have:=congrArg List.length hA;simpa using this
    let ce:Ce:=⟨⟨(j:Int)+1,D,CF rw⟩,rs⟩
    refine Qf Bu rfl ?_;refine AK 0 _ rfl Pb rfl rfl (by assumption) rfl rfl (by(simp;done)) rfl rfl ?_;refine Gh (Qf B6 rfl (Ql rfl Bs (Cell.blk 2 rfl rfl) (Qx (oG rfl Fb AI (Seg.blk 0 rfl)) rfl (Aq [_,_,_] rfl Bs AI rfl (by rfl) rfl rfl (by omega) rfl rfl rfl (fun g157=>?_)))));refine Bj 2 hOA (RdL.one B3 (x:=ce) Mh rfl) rfl Bs AI rfl (by omega) rfl rfl rfl (Df (l:=[ce]) (h:=h6) fun y hy=>by rw[List.mem_singleton.1 hy];exact hR9) (by(try simp only[length_singleton]);omega) (by(try simp only[length_singleton]);omega) rfl rfl rfl (fun vA2 mA2 hOA2=>?_);have ovA2:=hOA2.o1;refine Qf B6 rfl ?_;refine AK 3 _ rfl JI rfl rfl (by assumption) rfl rfl (by(simp;done)) rfl rfl ?_;refine Aj (Ai (Ab (Ad (Qm rfl (Qx (oA rfl) rfl (Qm rfl (Aj (Bp 0 rfl (Bp 0 rfl ?_)))))))))
    exact Ak (all.length-(j+1)) _ (by omega) ⟨j+1,vA2,mA2,A++[ce],rfl,rfl,AJ l4 (AJ l5 l6),rfl,by omega,hOA2,by rw[map_append,hA,range_succ,map_append];congr 1;simp[ce,hcell],fun a ha=>by
     rcases List.mem_append.1 ha with h|h
     ·exact(hSd a h).up (AJ l5 l6)
     ·rw[List.mem_singleton.1 h];exact hR9⟩ Qs
  ·obtain rfl:j=all.length:=by omega
   have ovA:=hOA.o1;refine Av (Aa (Aa (Af (Ab (As (Qx (oG rfl Dt A6 (Seg.blk 1 rfl)) rfl ?_))))));refine Sa 2 [_] A6 rfl (by simp[o1,ov3,ovA]) ?_;refine An (Am (Bp 1 rfl ?_));exact BU (vs:=[_]) 1 rfl rfl Dt rfl A6 rfl rfl (⟨AJ lh (AJ l2 l4),mA,A,_,rfl,rfl,hOA,by rw[hA,hsF],hSd⟩)
end Go.Proofs.Q

namespace Go.Proofs.Q
open Go.Proofs.Tryz
open Go.Eng Go.RowKit
def Ec(ll:List (List Int)):List (List Int):=(ll.take 5).map fun s=>(s.take 4).map fun x=>x%7
theorem RdEs.snoc{h:Hp}{es:List Value}{ll:List (List Int)}(H:RdEs h es ll){v:Value}{t:List Int}(hv:RdL cI 1 h [] v t):RdEs h (es++[v]) (ll++[t]):=by have:=H.ins hv ll.length (Nat.le_refl _);rw[take_of_length_le (by rw[H.1];exact Nat.le_refl _),take_length,List.drop_of_length_le (by rw[H.1];exact Nat.le_refl _),List.drop_length]at this;exact this
theorem R6(ll:List (List Int))(es0:List Value)(v:Value)(h:Hp)(hi:∀l∈ll,∀x∈l,BD x)(hV:RdL cW 1 h [] v es0)(hE:RdEs h es0 ll):FnT Tryz.prog 105 #[v] h [] (fun r h' ms'=>h.le h'/\∃m es,ms'=[m]/\OwnL cW 1 22 m r es/\RdEs h' es (Ec ll)):=by
 have o1:=hV.rd.one;have hle:=hE.1;have hl63:=hV.len_le;refine Ao func105 ntmps105 rfl rfl (fun w0 hw0=>?_);simp only[AU];refine As (Qm rfl (Bv (Qm rfl (An (Ac (As (Qm rfl (An (Ae (BB ?_))))))))))
 refine Az (fun q s hh ms'=>∃(i:Nat) (v3:Value) (m3:Hp) (es:List Value),q=ll.length-i/\s=[(0,v),(3,v3),(4,.int .i64 i)]/\h.le hh/\ms'=[m3]/\i<=ll.length/\i<=5/\OwnL cW 1 22 m3 v3 es/\RdEs hh es (Ec (ll.take i)))
  (ll.length-0) _ ⟨0,_,Hp.emp,[],rfl,rfl,CY,rfl,by omega,by omega,OwnL.nil DV,RdEs.nil _⟩ Qs ?_
 rintro q s hh ms' ⟨i,v3,m3,es,rfl,rfl,lh,rfl,hil,hi5,hO,hEs⟩;have hV:=hV.up lh;have hE:=hE.up lh;have hes:=hEs.1;have hsl:(Ec (ll.take i)).length=i:=by simp[Ec];omega
 have ov3:=hO.o1;refine Ac (As (Qm rfl (Qm rfl (Qx (Ar hV.rd.any rfl Ck rfl) rfl (Qm rfl (Qm rfl ?_))))));refine AO (t:=11) rfl (fun hlt=>?_) (fun hlt=>?_)
 ·refine Qg (Ay rfl rfl) rfl (Qg (Dv rfl rfl rfl) rfl (Qm rfl (An ?_)));refine Au rfl (fun h5=>?_) (fun h5=>?_)
  ·have hi1:i<ll.length:=by omega
   have hie:i<es0.length:=by omega
   obtain⟨s,hs⟩:∃s,ll[i]=s:=⟨_,rfl⟩
   have hRs:RdL cI 1 hh [] es0[i] s:=by rw[<-hs];exact hE.2 i hie hi1
   have hsi:∀x∈s,BD x:=hi s (by rw[<-hs];exact getElem_mem hi1);have hci:∀ms,Cell hh ms ((AG v).add (i*1)) es0[i]:=fun ms=>(hV.any (ms:=ms)).cell0 hie rfl;have ovs:=hRs.rd.one;have hs63:=hRs.len_le;refine Ah (Ab (Ac (Ae (As (Qm rfl (An (BB ?_)))))));refine A3 (fun sl h' ms'=>∃(v5:Value) (m5:Hp),sl=[(0,v),(3,v3),(4,.int .i64 i),(5,v5)]/\hh=h'/\ms'=[m5,m3]/\OwnL cI 1 3 m5 v5 ((s.take 4).map fun x=>x%7)) ?_ (fun s h ms hI=>?_)
   ·refine Ac (Ad (Qm rfl (An (Ae ?_))))
    refine Az (fun q sl h' ms'=>∃(k:Nat) (v5:Value) (m5:Hp),q=s.length-k/\sl=[(0,v),(3,v3),(4,.int .i64 i),(5,v5),(6,.int .i64 k)]/\hh=h'/\ms'=[m5,m3]/\k<=s.length/\k<=4/\OwnL cI 1 3 m5 v5 ((s.take k).map fun x=>x%7))
     (s.length-0) _ ⟨0,_,Hp.emp,rfl,rfl,rfl,rfl,by omega,by omega,OwnL.nil AV⟩ Qs ?_
    rintro q sl h' ms' ⟨k,v5,m5,rfl,rfl,rfl,rfl,hk,hk4,hO5⟩;have ov5:=hO5.o1;have hkl:((s.take k).map fun x=>x%7).length=k:=by simp;omega
    refine Ac (As (Qm rfl (Qm rfl (Qm rfl (Qx (BS (i) hV.rd.any rfl Ck Cw rfl rfl) rfl (Ql rfl AY (hci _) (Qx (Ar hRs.rd.any rfl AY rfl) rfl (Qm rfl (Qm rfl ?_)))))))));refine AO (t:=24) rfl (fun hks=>?_) (fun hks=>?_)
    ·refine Qg (Ay rfl rfl) rfl (Qg (Dv rfl rfl rfl) rfl (Qm rfl (An ?_)));refine Au rfl (fun hk5=>?_) (fun hk5=>?_)
     ·have hks1:k<s.length:=by omega
      have hck:∀ms,Cell hh ms ((AG es0[i]).add (k*1)) (.int .i64 s[k]):=fun ms=>(hRs.any (ms:=ms)).cell0 hks1 rfl;refine Ah (Ab (Ac (Ae (Ad (Qm rfl (Qm rfl (Qm rfl (Qx (BS (i) hV.rd.any rfl Ck Cw rfl rfl) rfl (Ql rfl AY (hci _) (Qm rfl (Qx (BS (k) hRs.rd.any rfl AY Be rfl rfl) rfl (Ql rfl U3 (hck _) (Qx (AF rfl call34 rfl (E2 s[k] 7 (hsi _ (getElem_mem hks1)) (by omega) _ _)) rfl (Aq [_] rfl AY Be rfl (by rfl) rfl rfl (by omega) rfl rfl rfl (fun g39=>AM 1 hO5 (RdL.one AV (x:=s[k]%7) Mh rfl) rfl AY Be rfl (by omega) rfl rfl rfl B5 (by(try simp only[length_singleton]);omega) (by(try simp only[length_singleton]);omega) rfl rfl rfl (fun v6 m6 hO6=>?_))))))))))))))));have htk:((s.take k).map fun x=>x%7)++[s[k]%7]=(s.take (k+1)).map fun x=>x%7:=by rw[List.take_succ_eq_append_getElem hks1,map_append];rfl
      rw[htk]at hO6;have ov6:=hO6.o1;refine Qm rfl (Aj (Ai (Ab (Ad (Qm rfl (Qx (oA rfl) rfl (Qm rfl (Aj (Bp 0 rfl ?_)))))))));exact Ak (s.length-(k+1)) _ (by omega) ⟨k+1,v6,m6,rfl,rfl,rfl,rfl,by omega,by omega,hO6⟩ Qs
     ·obtain rfl:k=4:=by omega
      refine Av (Aa (Aa (Af ?_)));exact AA _ ⟨v5,m5,rfl,rfl,rfl,hO5⟩ Qs
    ·obtain rfl:k=s.length:=by omega
     refine Qk rfl (Qk rfl (Qm rfl (An (AQ rfl (Av (Aa (Aa (Af ?_))))))));exact AA _ ⟨v5,m5,rfl,rfl,rfl,by rw[take_of_length_le (i:=4) (by omega)];rw[take_length]at hO5;exact hO5⟩ Qs
   ·obtain⟨v5,m5,rfl,rfl,rfl,hO5⟩:=hI;refine BE fun h2 l2 k2=>?_;have hR5:=hO5.rdh (ms:=[]) k2;have ov5:=hR5.rd.one;refine Ad (Qm rfl (Qm rfl (Aq [_] rfl Ck Cw rfl ((RdL.rd ‹_›).cells) rfl rfl (by omega) rfl rfl rfl (fun g43=>?_))));refine Bj 1 hO (RdL.one DV (x:=v5) Mh rfl) rfl Ck Cw rfl (by omega) rfl rfl rfl (JL fun u hu=>by rw[List.mem_singleton.1 hu];exact ov5) (by(try simp only[length_singleton]);omega) (by(try simp only[length_singleton]);omega) rfl rfl rfl (fun v6 m6 hO6=>?_);have ov6:=hO6.o1
    have hst:Ec (ll.take (i+1))=Ec (ll.take i)++[(s.take 4).map fun x=>x%7]:=by unfold Ec;rw[List.take_take,List.take_take,Nat.min_eq_right (by omega),Nat.min_eq_right (by omega),List.take_succ_eq_append_getElem hi1,map_append,hs];rfl
    refine Qm rfl (Aj (Ai (Ab (Ad (Qm rfl (Qx (oA rfl) rfl (Qm rfl (Aj (Bp 0 rfl ?_)))))))));exact Ak (ll.length-(i+1)) _ (by omega) ⟨i+1,v6,m6,_,rfl,rfl,AJ lh l2,rfl,by omega,by omega,hO6,by rw[hst];exact(hEs.up l2).snoc hR5⟩ Qs
  ·obtain rfl:i=5:=by omega
   have hs5:Ec (ll.take 5)=Ec ll:=by unfold Ec;rw[List.take_take,Nat.min_self]
   rw[hs5]at hEs;refine Av (Aa (Aa (Af (Ab (As (Qm rfl (Qm rfl (An (Am ?_)))))))));exact Ap rfl rfl (⟨lh,m3,es,rfl,hO,hEs⟩)
 ·obtain rfl:i=ll.length:=by omega
  rw[take_length]at hEs;refine Qk rfl (Qk rfl (Qm rfl (An (AQ rfl (Av (Aa (Aa (Af (Ab (As (Qm rfl (Qm rfl (An (Am ?_))))))))))))));exact Ap rfl rfl (⟨lh,m3,es,rfl,hO,hEs⟩)
def Abe:List (List Int):=[[0,1,2],[0,1,3],[0,2,3],[1,2,3]]
def AaV:List (List Int):=[[0,1,2],[0,2,3],[0,3,4],[0,4,5],[0,1,5],[1,2,4],[2,3,5],[1,3,4],[2,4,5],[1,3,5]]
def Mj(n:Nat):List (List Int):=(range n).flatMap fun(i:Nat)=>[[(i:Int),((i:Int)+1)%7,((i:Int)+3)%7],[(i:Int),((i:Int)+2)%7,((i:Int)+3)%7]]
def Fz(n:Int):List (List Int):=if n%3=0 then Abe else if n%3=1 then AaV else Mj 7
theorem KQ(n:Nat):Mj (n+1)=Mj n++[[(n:Int),((n:Int)+1)%7,((n:Int)+3)%7]]++[[(n:Int),((n:Int)+2)%7,((n:Int)+3)%7]]:=by unfold Mj;rw[range_succ,List.flatMap_append,append_assoc];rfl
theorem TY(n:Nat):(Mj n).length=2*n:=by
 induction n with
 | zero=>rfl
 | succ n ih=>rw[KQ,length_append,length_append,ih];simp;omega
theorem Lo(n:Int)(h:Hp)(hi:BD n):FnT Tryz.prog 106 #[.int .i64 n] h [] (fun r h' ms'=>h.le h'/\∃m es,ms'=[m]/\OwnL cW 1 22 m r es/\RdEs h' es (Fz n)):=by
 refine Ao func106 ntmps106 rfl rfl (fun w0 hw0=>?_);simp only[AU];refine As (Qm rfl (An (Ac (As (Qm rfl (Qx (AF rfl call34 rfl (E2 n 3 hi (by omega) _ _)) rfl (An (Ae (As (Qm rfl (Qm rfl (An ?_))))))))))));refine Au rfl (fun hn1=>?_) (fun hn1=>?_)
 ·have hE:=RdEs.nil h;refine As (AE [(0,_),(1,_),(2,_)] [.int .i64 0,.int .i64 0,.int .i64 0] [_,_,_] rfl AY Be rfl (by omega) (by kernel_rfl) Qt rfl rfl rfl rfl (fun g9=>AW fun h1 l1 k1=>?_));have hE:=(hE.up l1).snoc ((OwnL.blk (g:=g9) (el:=3) (F:=cI) (l:=[0,1,2]) 3 AV rfl (by decide)).rdh (h:=h1) (ms:=[]) k1);refine AE [(0,_),(1,_),(2,_)] [.int .i64 0,.int .i64 0,.int .i64 0] [_,_,_] rfl AY Be rfl (by omega) (by kernel_rfl) Qt rfl rfl rfl rfl (fun g10=>AW fun h2 l2 k2=>?_);have hE:=(hE.up l2).snoc ((OwnL.blk (g:=g10) (el:=3) (F:=cI) (l:=[0,1,3]) 3 AV rfl (by decide)).rdh (h:=h2) (ms:=[]) k2);refine AE [(0,_),(1,_),(2,_)] [.int .i64 0,.int .i64 0,.int .i64 0] [_,_,_] rfl AY Be rfl (by omega) (by kernel_rfl) Qt rfl rfl rfl rfl (fun g11=>AW fun h3 l3 k3=>?_);have hE:=(hE.up l3).snoc ((OwnL.blk (g:=g11) (el:=3) (F:=cI) (l:=[0,2,3]) 3 AV rfl (by decide)).rdh (h:=h3) (ms:=[]) k3);refine AE [(0,_),(1,_),(2,_)] [.int .i64 0,.int .i64 0,.int .i64 0] [_,_,_] rfl AY Be rfl (by omega) (by kernel_rfl) Qt rfl rfl rfl rfl (fun g12=>AW fun h4 l4 k4=>?_);have hE:=(hE.up l4).snoc ((OwnL.blk (g:=g12) (el:=3) (F:=cI) (l:=[1,2,3]) 3 AV rfl (by decide)).rdh (h:=h4) (ms:=[]) k4);refine AE [(0,_),(1,_),(2,_),(3,_)] [.slice none 0 0,.slice none 0 0,.slice none 0 0,.slice none 0 0] [_,_,_,_] rfl Ck Cw rfl (by omega) (by kernel_rfl) Qt rfl rfl rfl rfl (fun g13=>Qm rfl (An (Am (Al (Ag ?_)))));exact Ap rfl rfl (⟨(AJ (AJ (AJ l1 l2) l3) l4),_,[_,_,_,_],rfl,OwnL.blk (F:=cW) (l:=[_,_,_,_]) 4 DV rfl (by decide),by unfold Fz;rw[if_pos hn1];exact hE⟩)
 ·refine Ac (Ad (Qm rfl (Qm rfl (An ?_))));refine Au rfl (fun hn2=>?_) (fun hn2=>?_)
  ·have hE:=RdEs.nil h;refine As (AE [(0,_),(1,_),(2,_)] [.int .i64 0,.int .i64 0,.int .i64 0] [_,_,_] rfl AY Be rfl (by omega) (by kernel_rfl) Qt rfl rfl rfl rfl (fun g16=>AW fun h1 l1 k1=>?_));have hE:=(hE.up l1).snoc ((OwnL.blk (g:=g16) (el:=3) (F:=cI) (l:=[0,1,2]) 3 AV rfl (by decide)).rdh (h:=h1) (ms:=[]) k1);refine AE [(0,_),(1,_),(2,_)] [.int .i64 0,.int .i64 0,.int .i64 0] [_,_,_] rfl AY Be rfl (by omega) (by kernel_rfl) Qt rfl rfl rfl rfl (fun g17=>AW fun h2 l2 k2=>?_);have hE:=(hE.up l2).snoc ((OwnL.blk (g:=g17) (el:=3) (F:=cI) (l:=[0,2,3]) 3 AV rfl (by decide)).rdh (h:=h2) (ms:=[]) k2);refine AE [(0,_),(1,_),(2,_)] [.int .i64 0,.int .i64 0,.int .i64 0] [_,_,_] rfl AY Be rfl (by omega) (by kernel_rfl) Qt rfl rfl rfl rfl (fun g18=>AW fun h3 l3 k3=>?_);have hE:=(hE.up l3).snoc ((OwnL.blk (g:=g18) (el:=3) (F:=cI) (l:=[0,3,4]) 3 AV rfl (by decide)).rdh (h:=h3) (ms:=[]) k3);refine AE [(0,_),(1,_),(2,_)] [.int .i64 0,.int .i64 0,.int .i64 0] [_,_,_] rfl AY Be rfl (by omega) (by kernel_rfl) Qt rfl rfl rfl rfl (fun g19=>AW fun h4 l4 k4=>?_);have hE:=(hE.up l4).snoc ((OwnL.blk (g:=g19) (el:=3) (F:=cI) (l:=[0,4,5]) 3 AV rfl (by decide)).rdh (h:=h4) (ms:=[]) k4);refine AE [(0,_),(1,_),(2,_)] [.int .i64 0,.int .i64 0,.int .i64 0] [_,_,_] rfl AY Be rfl (by omega) (by kernel_rfl) Qt rfl rfl rfl rfl (fun g20=>AW fun h5 l5 k5=>?_);have hE:=(hE.up l5).snoc ((OwnL.blk (g:=g20) (el:=3) (F:=cI) (l:=[0,1,5]) 3 AV rfl (by decide)).rdh (h:=h5) (ms:=[]) k5);refine AE [(0,_),(1,_),(2,_)] [.int .i64 0,.int .i64 0,.int .i64 0] [_,_,_] rfl AY Be rfl (by omega) (by kernel_rfl) Qt rfl rfl rfl rfl (fun g21=>AW fun h6 l6 k6=>?_);have hE:=(hE.up l6).snoc ((OwnL.blk (g:=g21) (el:=3) (F:=cI) (l:=[1,2,4]) 3 AV rfl (by decide)).rdh (h:=h6) (ms:=[]) k6);refine AE [(0,_),(1,_),(2,_)] [.int .i64 0,.int .i64 0,.int .i64 0] [_,_,_] rfl AY Be rfl (by omega) (by kernel_rfl) Qt rfl rfl rfl rfl (fun g22=>AW fun h7 l7 k7=>?_);have hE:=(hE.up l7).snoc ((OwnL.blk (g:=g22) (el:=3) (F:=cI) (l:=[2,3,5]) 3 AV rfl (by decide)).rdh (h:=h7) (ms:=[]) k7);refine AE [(0,_),(1,_),(2,_)] [.int .i64 0,.int .i64 0,.int .i64 0] [_,_,_] rfl AY Be rfl (by omega) (by kernel_rfl) Qt rfl rfl rfl rfl (fun g23=>AW fun h8 l8 k8=>?_);have hE:=(hE.up l8).snoc ((OwnL.blk (g:=g23) (el:=3) (F:=cI) (l:=[1,3,4]) 3 AV rfl (by decide)).rdh (h:=h8) (ms:=[]) k8);refine AE [(0,_),(1,_),(2,_)] [.int .i64 0,.int .i64 0,.int .i64 0] [_,_,_] rfl AY Be rfl (by omega) (by kernel_rfl) Qt rfl rfl rfl rfl (fun g24=>AW fun h9 l9 k9=>?_);have hE:=(hE.up l9).snoc ((OwnL.blk (g:=g24) (el:=3) (F:=cI) (l:=[2,4,5]) 3 AV rfl (by decide)).rdh (h:=h9) (ms:=[]) k9);refine AE [(0,_),(1,_),(2,_)] [.int .i64 0,.int .i64 0,.int .i64 0] [_,_,_] rfl AY Be rfl (by omega) (by kernel_rfl) Qt rfl rfl rfl rfl (fun g25=>AW fun h10 l10 k10=>?_);have hE:=(hE.up l10).snoc ((OwnL.blk (g:=g25) (el:=3) (F:=cI) (l:=[1,3,5]) 3 AV rfl (by decide)).rdh (h:=h10) (ms:=[]) k10);refine AE [(0,_),(1,_),(2,_),(3,_),(4,_),(5,_),(6,_),(7,_),(8,_),(9,_)] [.slice none 0 0,.slice none 0 0,.slice none 0 0,.slice none 0 0,.slice none 0 0,.slice none 0 0,.slice none 0 0,.slice none 0 0,.slice none 0 0,.slice none 0 0] [_,_,_,_,_,_,_,_,_,_] rfl Ck Cw rfl (by omega) (by kernel_rfl) Qt rfl rfl rfl rfl (fun g26=>Qm rfl (An (Am (Al (Ag ?_)))));exact Ap rfl rfl (⟨(AJ (AJ (AJ (AJ (AJ (AJ (AJ (AJ (AJ l1 l2) l3) l4) l5) l6) l7) l8) l9) l10),_,[_,_,_,_,_,_,_,_,_,_],rfl,OwnL.blk (F:=cW) (l:=[_,_,_,_,_,_,_,_,_,_]) 10 DV rfl (by decide),by unfold Fz;rw[if_neg hn1,if_pos hn2];exact hE⟩)
  ·refine Ah (Ai (Ab (As (Qm rfl (An (Ac (As (Qm rfl (An (Ae (BB ?_)))))))))))
   refine Az (fun q s hh ms'=>∃(i:Nat) (v3:Value) (m3:Hp) (es:List Value),q=7-i/\s=[(0,.int .i64 n),(6,.int .i64 (n%3)),(3,v3),(4,.int .i64 i)]/\h.le hh/\ms'=[m3]/\i<=7/\OwnL cW 1 22 m3 v3 es/\RdEs hh es (Mj i))
    (7-0) _ ⟨0,_,Hp.emp,[],rfl,rfl,CY,rfl,by omega,OwnL.nil DV,RdEs.nil _⟩ Qs ?_
   rintro q s hh ms' ⟨i,v3,m3,es,rfl,rfl,lh,rfl,hi7,hO,hEs⟩;have hes:=hEs.1;rw[TY]at hes;have ov3:=hO.o1;refine Ac (As (Qm rfl (Qm rfl (An ?_))));refine Au rfl (fun h7=>?_) (fun h7=>?_)
   ·refine Ah (Ab (Ac (Ae (Ad (Qm rfl (Qm rfl (Qm rfl (Qx (oA rfl) rfl (Qx (BV rfl rfl rfl (by omega) (by omega)) rfl (Qm rfl (Qx (oA rfl) rfl (Qx (BV rfl rfl rfl (by omega) (by omega)) rfl (AE [(0,_),(1,_),(2,_)] [.int .i64 0,.int .i64 0,.int .i64 0] [_,_,_] rfl AY Be rfl (by omega) (by kernel_rfl) Qt rfl rfl rfl rfl (fun g39=>AW fun h1 l1 k1=>?_))))))))))))));have hE1:=(hEs.up l1).snoc ((OwnL.blk (g:=g39) (el:=3) (F:=cI) (l:=[(i:Int),((i:Int)+1)%7,((i:Int)+3)%7]) 3 AV rfl (by decide)).rdh (h:=h1) (ms:=[]) k1);refine Qm rfl (Qm rfl (Qx (oA rfl) rfl (Qx (BV rfl rfl rfl (by omega) (by omega)) rfl (Qm rfl (Qx (oA rfl) rfl (Qx (BV rfl rfl rfl (by omega) (by omega)) rfl (AE [(0,_),(1,_),(2,_)] [.int .i64 0,.int .i64 0,.int .i64 0] [_,_,_] rfl AY Be rfl (by omega) (by kernel_rfl) Qt rfl rfl rfl rfl (fun g47=>AW fun h2 l2 k2=>?_))))))));have hE2:=(hE1.up l2).snoc ((OwnL.blk (g:=g47) (el:=3) (F:=cI) (l:=[(i:Int),((i:Int)+2)%7,((i:Int)+3)%7]) 3 AV rfl (by decide)).rdh (h:=h2) (ms:=[]) k2);rw[<-KQ,append_assoc]at hE2;refine AE [(0,_),(1,_)] [.slice none 0 0,.slice none 0 0] [_,_] rfl Ck Cw rfl (by omega) (by kernel_rfl) Qt rfl rfl rfl rfl (fun g48=>?_);refine Bj 1 hO (OwnL.blk (g:=g48) (F:=cW) (l:=[.slice (some ⟨g39,0,none⟩) 3 3,.slice (some ⟨g47,0,none⟩) 3 3]) 2 DV rfl (by decide) |>.rd Mh) rfl Ck Cw rfl (by omega) rfl rfl rfl (JL fun u hu=>by simp only[mem_cons,List.not_mem_nil,or_false]at hu;rcases hu with rfl|rfl<;>rfl) (by(try simp only[length_singleton,length_cons,length_nil]);omega) (by(try simp only[length_singleton,length_cons,length_nil]);omega) rfl rfl rfl (fun v6 m6 hO6=>?_);have ov6:=hO6.o1;refine Qm rfl (Aj (Ai (Ab (Ad (Qm rfl (Qx (oA rfl) rfl (Qm rfl (Aj (Bp 0 rfl ?_)))))))));exact Ak (7-(i+1)) _ (by omega) ⟨i+1,v6,m6,_,rfl,rfl,AJ lh (AJ l1 l2),rfl,by omega,hO6,hE2⟩ Qs
   ·obtain rfl:i=7:=by omega
    refine Av (Aa (Aa (Af (Ab (As (Qm rfl (Qm rfl (An (Am ?_)))))))));exact Ap rfl rfl (⟨lh,m3,es,rfl,hO,by unfold Fz;rw[if_neg hn1,if_neg hn2];exact hEs⟩)
end Go.Proofs.Q

namespace Go.Proofs.Q
open Go.Eng Go.RowKit
structure RgtF(o:List Cl):Prop where
 n:o.length<=4000
 inc:o.Pairwise fun a b=>a.id<b.id
 pos:∀x∈o,1<=x.id
 can:∀x∈o,∃y:Cl,x=y.can
 fst:∀x∈o,Cd o x=0
 snd:∀x∈o,2<=x.dim->DQ o x=0
theorem OY{β:Type}{e:Nat->Option β}:∀{n:Nat},(range n).findSome? e=none->∀b,b<n->e b=none:=fun {n} h b hb=>by rw[List.findSome?_eq_none_iff]at h;exact h b (List.mem_range.2 hb)
theorem Gc(l:List Cl):(ordF l).length=l.length:=by rw[(DE l.length l (Nat.le_refl _)).length_eq,length_map]
theorem ZE{o:List Cl}(h1:o.Pairwise fun a b=>a.id<=b.id)(h2:∀b (hb:b+1<o.length),o[b].id≠o[b+1].id):o.Pairwise fun a b=>a.id<b.id:=by
 rw[List.pairwise_iff_getElem]at *;intro i j hi hj hij;have h3:=h1 i j hi hj hij;have h4:=h2 i (by omega);have h5:o[i].id<=o[i+1].id:=h1 i (i+1) hi (by omega) (by omega);rcases (by omega:j=i+1\/i+1<j) with rfl|h6
 ·omega
 ·have:=h1 (i+1) j (by omega) hj h6;omega
theorem JC{l:List Cl}(h:(Du l).2=0):RgtF (ordF l)/\Ex l=ordF l:=by
 unfold Du at h;split at h
 ·exact absurd h (by decide)
 rename_i h4;cases hA:(range l.length).findSome? (HN (ordF l) (Ex l)) with
 | some x=>
  rw[hA]at h;obtain⟨b,hb,e⟩:=List.exists_of_findSome?_eq_some hA;unfold HN at e;split at e
  ·cases e;exact absurd h (show ¬((20:Int)=0) by decide)
  ·split at e
   ·rename_i h5;cases e;exact absurd h h5
   ·cases e
 | none=>
  rw[hA]at h;cases hB:(range l.length).findSome? (Js (ordF l)) with
  | some x=>
   rw[hB]at h;obtain⟨b,hb,e⟩:=List.exists_of_findSome?_eq_some hB;unfold Js at e;split at e
   ·cases e
   ·split at e
    ·rename_i h5;cases e;exact absurd h h5
    ·cases e
  | none=>
   have hl:=Gc l
   have h1:∀b (hb:b<(ordF l).length),(1<=(ordF l)[b].id/\¬(0<b/\(ordF l)[b].id=((ordF l).getD (b-1) default).id))/\Cd (Ex l) (ordF l)[b]=0:=fun b hb=>by
    have:=OY hA b (by omega);unfold HN at this;rw[Hg hb]at this;split at this
    ·cases this
    ·rename_i h1;split at this
     ·cases this
     ·rename_i h2;exact⟨⟨by omega,fun q=>h1 (.inr q)⟩,Classical.not_not.1 h2⟩
   have h2:∀b (hb:b+1<(ordF l).length),(ordF l)[b].id≠(ordF l)[b+1].id:=fun b hb q=>by have h1:=(h1 (b+1) hb).1.2;refine h1 ⟨by omega,?_⟩;rw[show b+1-1=b by omega,Hg (show b<(ordF l).length by omega)];exact q.symm
   have heq:Ex l=ordF l:=Qd _ _ (fun _=>nofun) h2;refine⟨⟨by omega,ZE (C0 l.length l (Nat.le_refl _)) h2,fun x hx=>?_,fun x hx=>?_,fun x hx=>?_,fun x hx hd=>?_⟩,heq⟩
   ·obtain⟨b,hb,rfl⟩:=List.mem_iff_getElem.1 hx;exact(h1 b hb).1.1
   ·obtain⟨a,_,e⟩:=Ea hx;exact⟨a,e⟩
   ·obtain⟨b,hb,rfl⟩:=List.mem_iff_getElem.1 hx;rw[heq]at h1;exact(h1 b hb).2
   ·obtain⟨b,hb,rfl⟩:=List.mem_iff_getElem.1 hx;have:=OY hB b (by omega);unfold Js at this;rw[Hg hb,if_neg (by omega)]at this;split at this
    ·cases this
    ·rename_i h2;exact Classical.not_not.1 h2
theorem RgtF.bds{o:List Cl}(R:RgtF o){x:Cl}(hx:x∈o):(0<=x.dim/\x.dim<=8)/\x.sd.length<=64/\∀r∈x.sd,r.2=1\/r.2=-1:=by obtain⟨h1,h2,_,h4⟩:=ES (R.fst x hx);refine⟨h1,h2,fun r hr=>?_⟩;obtain⟨i,hi,rfl⟩:=List.mem_iff_getElem.1 hr;have:=h4 i hi;unfold BK at this;rw[Bh hi]at this;omega
variable {a b c:Int} {x:Cl} {l:List Int} {m n:Nat}
abbrev F4:=List (Int×Int×Int)
def D6(T:F4)(c:Int):Int:=(T.map fun e=>if e.2.1=c then e.2.2 else 0).sum
def Fs(T:F4)(c:Int):Int:=(T.map fun e=>if e.2.1=c then(1:Int) else 0).sum
inductive Con (T:F4):Int->Int->Prop
 | refl (a:Int):Con T a a
 | step {a b d c w w':Int}:Con T a b->(b,c,w)∈T->(d,c,w')∈T->Con T a d
theorem Con.trans{T:F4}(h:Con T a b)(h':Con T b c):Con T a c:=by
 induction h' with
 | refl=>exact h
 | step _ h1 h2 ih=>exact .step ih h1 h2
theorem Con.symm{T:F4}(h:Con T a b):Con T b a:=by
 induction h with
 | refl=>exact .refl _
 | step _ h1 h2 ih=>exact(Con.step (.refl _) h2 h1).trans ih
theorem Con.mono{T T':F4}(hs:∀e∈T,e∈T')(h:Con T a b):Con T' a b:=by
 induction h with
 | refl=>exact .refl _
 | step _ h1 h2 ih=>exact .step ih (hs _ h1) (hs _ h2)
theorem Con.in{T:F4}(h:Con T a b):a=b\/((∃c w,(a,c,w)∈T)/\∃c w,(b,c,w)∈T):=by
 induction h with
 | refl=>exact .inl rfl
 | step _ h1 h2 ih=>
  rcases ih with rfl|ih
  ·exact .inr ⟨⟨_,_,h1⟩,_,_,h2⟩
  ·exact .inr ⟨ih.1,_,_,h2⟩
theorem Con.snoc{T:F4}{i f w:Int}(hf:f=i/\(∀g w',(g,c,w') ∉ T)\/∃w',(f,c,w')∈T):Con (T++[(i,c,w)]) a b<->Con T a b\/(Con T a i/\Con T f b)\/(Con T a f/\Con T i b):=by
 have hsub:∀e∈T,e∈T++[(i,c,w)]:=fun e he=>mem_append_left _ he;have hi:(i,c,w)∈T++[(i,c,w)]:=List.mem_append_right _ Mh
 have hfi:Con (T++[(i,c,w)]) i f:=by
  rcases hf with ⟨rfl,_⟩|⟨w',h⟩
  ·exact .refl _
  ·exact .step (.refl _) hi (hsub _ h)
 constructor
 ·intro h
  induction h with
  | refl=>exact .inl (.refl _)
  | @step b d c' w1 w2 _ h1 h2 ih=>
   -- the last step
   have key:∀{b d},(b,c',w1)∈T++[(i,c,w)]->(d,c',w2)∈T++[(i,c,w)]->Con T b d\/(Con T b i/\Con T f d)\/(Con T b f/\Con T i d):=fun {b d} h1 h2=>by
    rcases List.mem_append.1 h1 with g1|g1<;>rcases List.mem_append.1 h2 with g2|g2
    ·exact .inl (.step (.refl _) g1 g2)
    ·obtain⟨e1,e2,e3⟩:d=i/\c'=c/\w2=w:=by simpa using g2
     rcases hf with ⟨_,hn⟩|⟨w',h⟩
     ·exact absurd (e2 ▸ g1) (hn _ _)
     ·rw[e1];exact .inr (.inr ⟨.step (.refl _) (e2 ▸ g1) h,.refl _⟩)
    ·obtain⟨e1,e2,e3⟩:b=i/\c'=c/\w1=w:=by simpa using g1
     rcases hf with ⟨_,hn⟩|⟨w',h⟩
     ·exact absurd (e2 ▸ g2) (hn _ _)
     ·rw[e1];exact .inr (.inl ⟨.refl _,.step (.refl _) h (e2 ▸ g2)⟩)
    ·obtain⟨e1,_⟩:b=i/\c'=c/\w1=w:=by simpa using g1
     obtain⟨e2,_⟩:d=i/\c'=c/\w2=w:=by simpa using g2
     rw[e1,e2];exact .inl (.refl _)
   have k:=key h1 h2;rcases ih with ih|⟨i1,i2⟩|⟨i1,i2⟩
   ·rcases k with k|⟨k1,k2⟩|⟨k1,k2⟩
    ·exact .inl (ih.trans k)
    ·exact .inr (.inl ⟨ih.trans k1,k2⟩)
    ·exact .inr (.inr ⟨ih.trans k1,k2⟩)
   ·rcases k with k|⟨k1,k2⟩|⟨k1,k2⟩
    ·exact .inr (.inl ⟨i1,i2.trans k⟩)
    ·exact .inr (.inl ⟨i1,k2⟩)
    ·exact .inl (i1.trans k2)
   ·rcases k with k|⟨k1,k2⟩|⟨k1,k2⟩
    ·exact .inr (.inr ⟨i1,i2.trans k⟩)
    ·exact .inl (i1.trans k2)
    ·exact .inr (.inr ⟨i1,k2⟩)
 ·rintro(h|⟨h1,h2⟩|⟨h1,h2⟩)
  ·exact h.mono hsub
  ·exact(h1.mono hsub).trans (hfi.trans (h2.mono hsub))
  ·exact(h1.mono hsub).trans (hfi.symm.trans (h2.mono hsub))
theorem Mg(T:F4)(e:Int×Int×Int)(c:Int):D6 (T++[e]) c=D6 T c+if e.2.1=c then e.2.2 else 0:=by simp[D6]
theorem TX(T:F4)(e:Int×Int×Int)(c:Int):Fs (T++[e]) c=Fs T c+if e.2.1=c then 1 else 0:=by simp[Fs]
theorem Mr{T:F4}(h:∀e∈T,e.2.1≠c):D6 T c=0/\Fs T c=0:=by
 induction T with
 | nil=>exact⟨rfl,rfl⟩
 | cons e T ih=>
  obtain⟨h1,h2⟩:=ih fun e he=>h e (List.mem_cons_of_mem _ he);have h3:=h e Mh;unfold D6 at *;unfold Fs at *;simp only[map_cons,sum_cons,if_neg h3,h1,h2];exact⟨rfl,rfl⟩
theorem Kx{x:Int}:Ei (a::l) x=if a=x then 0 else Ei l x+1:=by
 unfold Ei;rw[List.takeWhile_cons];by_cases e:a=x
 ·simp[e]
 ·simp[e]
theorem TV{x:Int}{k:Nat}(hk:Ei l x=k)(h:k<l.length):l[k]=x:=by
 induction l generalizing k with
 | nil=>simp at h
 | cons a l ih=>
  rw[Kx]at hk;split at hk
  ·subst hk;assumption
  ·subst hk;rw[List.getElem_cons_succ];exact ih rfl (by simpa using h)
theorem T4{x:Int}(h:Ei l x=l.length):x ∉ l:=by
 induction l with
 | nil=>simp
 | cons a l ih=>
  rw[Kx]at h;split at h
  ·simp at h
  ·rename_i e;rw[mem_cons];rintro(rfl|h1)
   ·exact e rfl
   ·exact ih (by simpa using h) h1
theorem HG{α:Type}{l:List α}(h:l.Nodup){i j:Nat}(hi:i<l.length)(hj:j<l.length)(e:l[i]=l[j]):i=j:=by
 have h1:=List.pairwise_iff_getElem.1 h;rcases Nat.lt_trichotomy i j with h2|h2|h2
 ·exact absurd e (h1 i j hi hj h2)
 ·exact h2
 ·exact absurd e.symm (h1 j i hj hi h2)
structure S2.Inv(S:S2)(x:Cl)(T:F4)(m n:Nat):Prop where
 nd:S.ids.Nodup
 mem:∀c,c∈S.ids<->∃a w,(a,c,w)∈T
 ls:S.su.length=S.ids.length
 lm:S.ma.length=S.ids.length
 lf:S.fi.length=S.ids.length
 lp:S.pa.length=n
 su:∀k (hk:k<S.ids.length),S.su.getD k 0=D6 T S.ids[k]
 ma:∀k (hk:k<S.ids.length),S.ma.getD k 0=Fs T S.ids[k]
 fi:∀k (hk:k<S.ids.length),∃j:Nat,j<m/\S.fi.getD k 0=(j:Int)/\∃w,((Bl x j).1,S.ids[k],w)∈T
 pl:∀j,j<m->0<=S.pa.getD j 0/\S.pa.getD j 0<m
 pc:∀j j',j<m->j'<m->(S.pa.getD j 0=S.pa.getD j' 0<->Con T (Bl x j).1 (Bl x j').1)
 fr:∀e∈T,∃j:Nat,j<m/\e.1=(Bl x j).1
theorem Ik(l:List Int)(k j:Nat)(y:Int)(hk:k<l.length):(l.set k y).getD j 0=if j=k then y else l.getD j 0:=by
 simp only[List.getD_eq_getElem?_getD,List.getElem?_set];by_cases e:k=j
 ·subst e;simp[hk]
 ·simp[e,Ne.symm e]
theorem Hu(l:List Int)(j:Nat)(y:Int):(l++[y]).getD j 0=if j=l.length then y else l.getD j 0:=by
 simp only[List.getD_eq_getElem?_getD];rcases Nat.lt_trichotomy j l.length with h|h|h
 ·rw[List.getElem?_append_left h,if_neg (by omega)]
 ·subst h;simp
 ·rw[if_neg (by omega),List.getElem?_eq_none (by simp;omega),List.getElem?_eq_none (by omega)]
theorem Ta(pa:List Int)(m:Nat)(now old:Int)(j:Nat)(hm:m<=pa.length)(hj:j<m):(Fm pa m now old).getD j 0=if pa.getD j 0=now then old else pa.getD j 0:=by
 have h1:j<pa.length:=by omega
 have h2:j<(Fm pa m now old).length:=by rw[C8];exact h1
 simp only[List.getD_eq_getElem?_getD,List.getElem?_eq_getElem h1,List.getElem?_eq_getElem h2,Option.getD_some];rw[EN h1];simp[hj]
theorem S2.Inv.start{S:S2}{T:F4}(I:S.Inv x T m n)(hm:m<n)(hd:∀j,j<m->(Bl x j).1≠(Bl x m).1):(S.start m).Inv x T (m+1) n:=by
 have hp:=I.lp;have hg:∀j,(S.pa.set m (m:Int)).getD j 0=if j=m then(m:Int) else S.pa.getD j 0:=fun j=>Ik _ _ _ _ (by omega)
 have hnew:∀j,j<m->¬Con T (Bl x j).1 (Bl x m).1:=fun j hj h=>by
  rcases h.in with h|⟨_,c,w,h⟩
  ·exact hd j hj h
  ·obtain⟨j',hj',e⟩:=I.fr _ h;exact hd j' hj' e.symm
 refine⟨I.nd,I.mem,I.ls,I.lm,I.lf,by show(List.set _ _ _).length=n;rw[length_set];exact hp,I.su,I.ma,fun k hk=>?_,fun j hj=>?_,fun j j' hj hj'=>?_,fun e he=>?_⟩
 ·obtain⟨j,h1,h2⟩:=I.fi k hk;exact⟨j,by omega,h2⟩
 ·show 0<=(S.pa.set m (m:Int)).getD j 0/\(S.pa.set m (m:Int)).getD j 0<((m+1:Nat):Int);rw[hg];split
  ·omega
  ·have:=I.pl j (by omega);omega
 ·show(S.pa.set m (m:Int)).getD j 0=(S.pa.set m (m:Int)).getD j' 0<->_;rw[hg,hg];by_cases e:j=m<;>by_cases e':j'=m
  ·subst e;subst e';exact⟨fun _=>.refl _,fun _=>rfl⟩
  ·subst e;rw[if_pos rfl,if_neg e'];have:=I.pl j' (by omega);exact⟨fun h=>by omega,fun h=>absurd h.symm (hnew j' (by omega))⟩
  ·subst e';rw[if_neg e,if_pos rfl];have:=I.pl j (by omega);exact⟨fun h=>by omega,fun h=>absurd h (hnew j (by omega))⟩
  ·rw[if_neg e,if_neg e'];exact I.pc j j' (by omega) (by omega)
 ·obtain⟨j,h1,h2⟩:=I.fr e he;exact⟨j,by omega,h2⟩
theorem S2.Inv.side{S:S2}{T:F4}(I:S.Inv x T (m+1) n)(hm:m<n)(w:Int)(r:Int×Int):(S.side m w r).Inv x (T++[((Bl x m).1,r.1,w*r.2)]) (m+1) n:=by
 have hp:=I.lp
 -- the place of the id,in the state after add
 obtain⟨k,hk⟩:∃k,Ei S.ids r.1=k:=⟨_,rfl⟩
 obtain⟨U,hU⟩:∃U,S.add m r.1=U:=⟨_,rfl⟩
 have A:U.pa=S.pa/\U.ids.Nodup/\(∀c,c∈U.ids<->c=r.1\/∃a w,(a,c,w)∈T)/\U.su.length=U.ids.length/\U.ma.length=U.ids.length/\U.fi.length=U.ids.length/\(∀k (hk:k<U.ids.length),U.su.getD k 0=D6 T U.ids[k])/\(∀k (hk:k<U.ids.length),U.ma.getD k 0=Fs T U.ids[k])/\(∃hk:k<U.ids.length,U.ids[k]=r.1) ∧
   (∀k' (hk':k'<U.ids.length),k'≠k->∃j:Nat,j<m+1/\U.fi.getD k' 0=(j:Int)/\∃w,((Bl x j).1,U.ids[k'],w)∈T) ∧
   ∃f:Nat,f<m+1/\U.fi.getD k 0=(f:Int)/\((Bl x f).1=(Bl x m).1/\f=m/\(∀g w',(g,r.1,w') ∉ T)\/∃w',((Bl x f).1,r.1,w')∈T):=by
  subst hU;unfold S2.add;by_cases h:Ei S.ids r.1=S.ids.length
  ·have hn:=T4 h;have hnT:∀g w',(g,r.1,w') ∉ T:=fun g w' hg=>hn ((I.mem _).2 ⟨g,w',hg⟩);have h0:D6 T r.1=0/\Fs T r.1=0:=Mr fun e he q=>hnT e.1 e.2.2 (by rw[<-q];exact he);rw[if_pos h];have hkl:k=S.ids.length:=by omega
   have hget:∀k' (hk':k'<(S.ids++[r.1]).length),(S.ids++[r.1])[k']=if h:k'<S.ids.length then S.ids[k'] else r.1:=fun k' hk'=>by
    by_cases h1:k'<S.ids.length
    ·rw[dif_pos h1,List.getElem_append_left h1]
    ·rw[dif_neg h1,getElem_append_right (by omega)];simp
   refine⟨rfl,?_,fun c=>?_,by simp[I.ls],by simp[I.lm],by simp[I.lf],fun k' hk'=>?_,fun k' hk'=>?_,⟨by show k<(S.ids++[r.1]).length;simp;omega,?_⟩,fun k' hk' hne=>?_,m,by omega,?_,.inl ⟨rfl,rfl,hnT⟩⟩
   ·exact List.nodup_append.2 ⟨I.nd,by simp,fun a ha b hb e=>by rw[List.mem_singleton.1 hb]at e;exact hn (e ▸ ha)⟩
   ·show c∈S.ids++[r.1]<->_;rw[mem_append,List.mem_singleton,I.mem];exact⟨fun h=>h.symm,fun h=>h.symm⟩
   ·have hk'':k'<S.ids.length+1:=by have:k'<(S.ids++[r.1]).length:=hk';simpa using this
    show(S.su++[0]).getD k' 0=D6 T (S.ids++[r.1])[k'];rw[Hu,hget k' hk',I.ls];by_cases h1:k'<S.ids.length
    ·rw[if_neg (by omega),dif_pos h1];exact I.su k' h1
    ·rw[if_pos (by omega),dif_neg h1,h0.1]
   ·have hk'':k'<S.ids.length+1:=by have:k'<(S.ids++[r.1]).length:=hk';simpa using this
    show(S.ma++[0]).getD k' 0=Fs T (S.ids++[r.1])[k'];rw[Hu,hget k' hk',I.lm];by_cases h1:k'<S.ids.length
    ·rw[if_neg (by omega),dif_pos h1];exact I.ma k' h1
    ·rw[if_pos (by omega),dif_neg h1,h0.2]
   ·show(S.ids++[r.1])[k]'_=r.1;rw[hget,dif_neg (by omega)]
   ·have hk'':k'<S.ids.length+1:=by have:k'<(S.ids++[r.1]).length:=hk';simpa using this
    obtain⟨j,h1,h2,h3⟩:=I.fi k' (by omega);refine⟨j,h1,?_,?_⟩
    ·show(S.fi++[(m:Int)]).getD k' 0=j;rw[Hu,I.lf,if_neg (by omega)];exact h2
    ·show ∃w,(_,(S.ids++[r.1])[k']'hk',w)∈T;rw[hget k' hk',dif_pos (show k'<S.ids.length by omega)];exact h3
   ·show(S.fi++[(m:Int)]).getD k 0=(m:Int);rw[Hu,I.lf,if_pos hkl]
  ·have hle:=Pc S.ids r.1;have hkl:k<S.ids.length:=by omega
   have hge:S.ids[k]=r.1:=TV hk hkl;have hin:r.1∈S.ids:=by rw[<-hge];exact getElem_mem hkl
   rw[if_neg h];obtain⟨f,f1,f2,f3⟩:=I.fi k hkl;refine⟨rfl,I.nd,fun c=>?_,I.ls,I.lm,I.lf,I.su,I.ma,⟨hkl,hge⟩,fun k' hk' _=>I.fi k' hk',f,f1,f2,.inr (by rw[hge]at f3;exact f3)⟩;rw[I.mem];refine⟨.inr,fun h=>?_⟩;rcases h with rfl|h
   ·exact(I.mem _).1 hin
   ·exact h
 obtain⟨a1,a2,a3,a4,a5,a6,a7,a8,⟨a9,a10⟩,a11,f,f1,f2,f3⟩:=A;have hS:S.side m w r=U.hit m k (w*r.2):=by unfold S2.side;rw[hU,hk]
 rw[hS]
 have hcf:∀{a b},Con (T++[((Bl x m).1,r.1,w*r.2)]) a b<->_:=fun {a b}=>Con.snoc (a:=a) (b:=b) (T:=T) (i:=(Bl x m).1) (f:=(Bl x f).1) (c:=r.1) (w:=w*r.2) (by
  rcases f3 with ⟨h1,_,h2⟩|h
  ·exact .inl ⟨h1,h2⟩
  ·exact .inr h)
 have hrel:∀j,j<m+1->(Fm U.pa (m+1) (U.pa.getD m 0) (U.pa.getD (U.fi.getD k 0).toNat 0)).getD j 0=if S.pa.getD j 0=S.pa.getD m 0 then S.pa.getD f 0 else S.pa.getD j 0:=fun j hj=>by rw[Ta _ _ _ _ _ (by rw[a1];omega) hj,a1,f2,Int.toNat_natCast]
 refine⟨a2,fun c=>?_,by show(List.set _ _ _).length=_;rw[length_set];exact a4,by show(List.set _ _ _).length=_;rw[length_set];exact a5,a6,by show(Fm _ _ _ _).length=n;rw[C8,a1];exact hp,fun k' hk0=>?_,fun k' hk0=>?_,fun k' hk0=>?_,fun j hj=>?_,fun j j' hj hj'=>?_,fun e he=>?_⟩
 ·show c∈U.ids<->_;rw[a3];constructor
  ·rintro(rfl|⟨a,w',h⟩)
   ·exact⟨_,_,List.mem_append_right _ Mh⟩
   ·exact⟨a,w',mem_append_left _ h⟩
  ·rintro⟨a,w',h⟩;rcases List.mem_append.1 h with h|h
   ·exact .inr ⟨a,w',h⟩
   ·have:=List.mem_singleton.1 h;exact .inl (congrArg (fun e:Int×Int×Int=>e.2.1) this)
 ·have hk':k'<U.ids.length:=hk0;show(U.su.set k (U.su.getD k 0+w*r.2)).getD k' 0=D6 _ (U.ids[k']'hk');rw[Ik _ _ _ _ (by omega),Mg];by_cases e:k'=k
  ·subst e;rw[if_pos rfl,a7 k' hk',a10];simp
  ·have:¬r.1=U.ids[k']'hk':=fun h=>e (HG a2 hk' a9 (by rw[a10];exact h.symm));rw[if_neg e,a7 k' hk',if_neg this,Int.add_zero]
 ·have hk':k'<U.ids.length:=hk0;show(U.ma.set k (U.ma.getD k 0+1)).getD k' 0=Fs _ (U.ids[k']'hk');rw[Ik _ _ _ _ (by omega),TX];by_cases e:k'=k
  ·subst e;rw[if_pos rfl,a8 k' hk',a10];simp
  ·have:¬r.1=U.ids[k']'hk':=fun h=>e (HG a2 hk' a9 (by rw[a10];exact h.symm));rw[if_neg e,a8 k' hk',if_neg this,Int.add_zero]
 ·have hk':k'<U.ids.length:=hk0;show ∃j:Nat,j<m+1/\U.fi.getD k' 0=(j:Int)/\∃w',((Bl x j).1,U.ids[k']'hk',w')∈_;by_cases e:k'=k
  ·subst e;refine⟨f,f1,f2,?_⟩;rw[a10];rcases f3 with ⟨h1,_,_⟩|⟨w',h⟩
   ·exact⟨w*r.2,by rw[h1];exact List.mem_append_right _ Mh⟩
   ·exact⟨w',mem_append_left _ h⟩
  ·obtain⟨j,j1,j2,w',j3⟩:=a11 k' hk' e;exact⟨j,j1,j2,w',mem_append_left _ j3⟩
 ·show 0<=(Fm _ _ _ _).getD j 0/\(Fm _ _ _ _).getD j 0<_;rw[hrel j hj];have:=I.pl j hj;have:=I.pl f f1;split<;>omega
 ·show(Fm _ _ _ _).getD j 0=(Fm _ _ _ _).getD j' 0<->_;rw[hrel j hj,hrel j' hj',hcf,<-I.pc j j' hj hj',<-I.pc j m hj (by omega),<-I.pc f j' f1 hj',<-I.pc j f hj f1,<-I.pc m j' (by omega) hj'];split<;>split<;>omega
 ·rcases List.mem_append.1 he with h|h
  ·exact I.fr e h
  ·rw[List.mem_singleton.1 h];exact⟨m,by omega,rfl⟩
theorem S2.Inv.sides(hm:m<n)(w:Int):∀(l:List (Int×Int)) (S:S2) (T:F4),S.Inv x T (m+1) n->(S.sides m w l).Inv x (T++l.map fun r=>((Bl x m).1,r.1,w*r.2)) (m+1) n
 | [],S,T,I=>by rw[List.map_nil,append_nil];exact I
 | r::l,S,T,I=>by have:=S2.Inv.sides hm w l (S.side m w r) _ (I.side hm w r);rw[append_assoc]at this;exact this
def L5(l:List Cl)(x:Cl)(m:Nat):F4:=(range m).flatMap fun i=>(Fc l x i).sd.map fun r=>((Bl x i).1,r.1,(Bl x i).2*r.2)
theorem SI(l:List Cl)(x:Cl)(m:Nat):L5 l x (m+1)=L5 l x m++(Fc l x m).sd.map fun r=>((Bl x m).1,r.1,(Bl x m).2*r.2):=by unfold L5;rw[range_succ,List.flatMap_append];simp
theorem Pu{l:List Cl}(hd:∀j m,j<m->m<x.sd.length->(Bl x j).1≠(Bl x m).1):∀m,m<=x.sd.length->(G4 l x m).Inv x (L5 l x m) m x.sd.length
 | 0,_=>⟨by show List.Nodup [];simp,fun c=>⟨fun h=>by simp[G4]at h,fun⟨a,w,h⟩=>by simp[L5]at h⟩,rfl,rfl,rfl,by simp[G4],fun k hk=>absurd hk (Nat.not_lt_zero _),fun k hk=>absurd hk (Nat.not_lt_zero _),fun k hk=>absurd hk (Nat.not_lt_zero _),fun j hj=>by omega,fun j j' hj=>by omega,fun e he=>by simp[L5]at he⟩
 | m+1,h=>by rw[SI];exact S2.Inv.sides (by omega) _ _ _ _ ((Pu hd m (by omega)).start (by omega) fun j hj=>hd j m hj (by omega))
structure GoodT(T:F4)(s:List (Int×Int)):Prop where
 sum:∀e∈T,D6 T e.2.1=0
 two:∀e∈T,Fs T e.2.1=2
 con:∀a∈s,∀b∈s,Con T a.1 b.1
theorem I5{l:List Cl}(hd:∀j m,j<m->m<x.sd.length->(Bl x j).1≠(Bl x m).1):DQ l x=0<->GoodT (L5 l x x.sd.length) x.sd:=by
 have I:=Pu (l:=l) hd x.sd.length (Nat.le_refl _);obtain⟨S,hS⟩:∃S,G4 l x x.sd.length=S:=⟨_,rfl⟩
 obtain⟨T,hT⟩:∃T,L5 l x x.sd.length=T:=⟨_,rfl⟩
 rw[hS,hT]at I;rw[hT];have hget:∀{L:List Int} {j:Nat} (hj:j<L.length),L[j]=L.getD j 0:=fun {L j} hj=>by simp[List.getD,hj]
 have h1:(∀y∈S.su,y=0)<->∀e∈T,D6 T e.2.1=0:=by
  constructor
  ·intro h e he;obtain⟨k,hk,e1⟩:=getElem_of_mem ((I.mem e.2.1).2 ⟨e.1,e.2.2,he⟩);have h2:=I.su k hk;rw[e1]at h2;rw[<-h2,<-hget (by rw[I.ls];exact hk)];exact h _ (getElem_mem _)
  ·intro h y hy;obtain⟨k,hk,rfl⟩:=getElem_of_mem hy;have hk':k<S.ids.length:=by rw[<-I.ls];exact hk
   rw[hget hk,I.su k hk'];obtain⟨a,w,h2⟩:=(I.mem _).1 (getElem_mem hk');exact h _ h2
 have h2:(∀y∈S.ma,y=2)<->∀e∈T,Fs T e.2.1=2:=by
  constructor
  ·intro h e he;obtain⟨k,hk,e1⟩:=getElem_of_mem ((I.mem e.2.1).2 ⟨e.1,e.2.2,he⟩);have h2:=I.ma k hk;rw[e1]at h2;rw[<-h2,<-hget (by rw[I.lm];exact hk)];exact h _ (getElem_mem _)
  ·intro h y hy;obtain⟨k,hk,rfl⟩:=getElem_of_mem hy;have hk':k<S.ids.length:=by rw[<-I.lm];exact hk
   rw[hget hk,I.ma k hk'];obtain⟨a,w,h2⟩:=(I.mem _).1 (getElem_mem hk');exact h _ h2
 have h3:(∀y∈S.pa,y=S.pa.getD 0 0)<->∀a∈x.sd,∀b∈x.sd,Con T a.1 b.1:=by
  constructor
  ·intro h a ha b hb;obtain⟨j,hj,rfl⟩:=getElem_of_mem ha;obtain⟨j',hj',rfl⟩:=getElem_of_mem hb;have e1:S.pa.getD j 0=S.pa.getD 0 0:=by rw[<-hget (by rw[I.lp];exact hj)];exact h _ (getElem_mem _)
   have e2:S.pa.getD j' 0=S.pa.getD 0 0:=by rw[<-hget (by rw[I.lp];exact hj')];exact h _ (getElem_mem _)
   have:=(I.pc j j' hj hj').1 (by rw[e1,e2])
   rwa [Bh hj,Bh hj']at this
  ·intro h y hy;obtain⟨j,hj,rfl⟩:=getElem_of_mem hy;rw[hget hj];rw[I.lp]at hj;refine(I.pc j 0 hj (by omega)).2 ?_;rw[Bh hj,Bh (by omega)];exact h _ (getElem_mem _) _ (getElem_mem _)
 unfold DQ;rw[hS];constructor
 ·intro h;split at h
  ·exact absurd h (by decide)
  ·rename_i g1;split at h
   ·exact absurd h (by decide)
   ·rename_i g2;split at h
    ·exact absurd h (by decide)
    ·rename_i g3;exact⟨h1.1 (Classical.not_not.1 g1),h2.1 (Classical.not_not.1 g2),h3.1 (Classical.not_not.1 g3)⟩
 ·rintro⟨g1,g2,g3⟩;rw[if_neg (fun q=>q (h1.2 g1)),if_neg (fun q=>q (h2.2 g2)),if_neg (fun q=>q (h3.2 g3))]
end Go.Proofs.Q

namespace Go.Proofs.Q
open Go.Proofs.Tryz
open Go.Eng Go.RowKit
theorem Vt(l:List Cl)(x:Int):-1<=Jm l x:=by
 unfold Jm;split
 ·split
  ·omega
  ·omega
 ·omega
structure PC(N:Nat)(c:Cl):Prop where
 i:c.id<=(N:Int)
 d:0<=c.dim/\c.dim<=16
 n:c.sd.length<=128
theorem Sg{t:Int}{N:Nat}(h1:-1<=t)(h2:t<=100000)(hN:N<=100000):-100000<=t*(N:Int)/\t*(N:Int)<=10000000000:=by
 rcases (by omega:t=-1\/0<=t) with rfl|h
 ·omega
 ·obtain⟨n,rfl⟩:=Int.eq_ofNat_of_zero_le h;have h1:n*N<=100000*100000:=Nat.mul_le_mul (by omega) hN;have h2:((n*N:Nat):Int)=(n:Int)*(N:Int):=Int.natCast_mul _ _;omega
theorem Ul{a b:Nat}{M N:Nat}(ha:a<=M)(hb:b<=N):a*b<=M*N:=Nat.mul_le_mul ha hb
theorem Fg(la lb:List Ce)(va vb:Value)(hp:Hp)(hKa:O5 la)(hKb:O5 lb)(hRa:RdC hp va la)(hRb:RdC hp vb lb):FnT Tryz.prog 107 #[.agg #[va],.agg #[vb]] hp [] (fun r h' ms'=>hp.le h'/\∃m A v',ms'=[m]/\r=.agg #[v']/\OwnL cC 3 52 m v' A/\(∀a∈A,RdL cD 2 h' [] a.v a.c.sd)/\(A=[]\/∃out,A.map Ce.c=ordF out/\(Du out).2=0/\out.length=la.length*lb.length/\∀c∈out,c.id<=((la.length*lb.length:Nat):Int))):=by
 have o1:=hRa.q.rd.one;have o2:=hRb.q.rd.one;have hna:=hKa.n;have hnb:=hKb.n;refine Ao func107 ntmps107 rfl rfl (fun w0 hw0=>?_);simp only[AU];refine As (AS [_] rfl rfl (by rfl) rfl rfl rfl (fun g2=>AS [_] rfl rfl (by rfl) rfl rfl rfl (fun g3=>CC [.slice none 0 0] rfl A6 rfl rfl (fun g4=>An (BH 2 rfl fun h1 l1 hSa=>(BH 1 rfl fun h2 l2 hSb=>?_))))));have hSa:=hSa.le l2;have hRa:=hRa.up (AJ l1 l2);have hRb:=hRb.up (AJ l1 l2);refine As (Qx (oG rfl Dt A6 (Seg.any hSa)) rfl (Qx (AF rfl call171 rfl (Jx la va h2 hKa hRa _)) rfl (Qm rfl (Bv (Qx (oG rfl Dt A6 (Seg.any hSb)) rfl (Qx (AF rfl call171 rfl (Jx lb vb h2 hKb hRb _)) rfl (Qm rfl (Bv (Qx (oG rfl Dt A6 (Seg.any hSa)) rfl (Qc call49 rfl (Ls la va h2 hKa.toCsOk hRa) (fun rA h3 ms3 l3 hF=>?_)))))))))));obtain⟨l3',mA,A,rfl,hOA,hA,hsA⟩:=hF;refine A4 hOA fun h4 l4 hQA=>?_;have hSb:=hSb.le (AJ l3 l4);have hRb:=hRb.up (AJ l3 l4);have oA_:=hQA.rd.one;refine Qm rfl (Bv (Qx (oG rfl Dt A6 (Seg.any hSb)) rfl (Qc call49 rfl (Ls lb vb h4 hKb.toCsOk hRb) (fun rB h5 ms5 l5 hF=>?_))));obtain⟨l5',mB,B,rfl,hOB,hB,hsB⟩:=hF;refine A4 hOB fun h6 l6 hQB=>?_;have hQA:=hQA.up (AJ l5 l6);have oB:=hQB.rd.one;have hle:hp.le h6:=AJ l1 (AJ l2 (AJ l3 (AJ l4 (AJ l5 l6))));have hAl:A.length<=la.length:=by have:=congrArg List.length hA;rw[length_map]at this;have:=H7 (la.map Ce.c);rw[length_map]at this;omega
 have hBl:B.length<=lb.length:=by have:=congrArg List.length hB;rw[length_map]at this;have:=H7 (lb.map Ce.c);rw[length_map]at this;omega
 have hmb:A.length*B.length<=100000*100000:=Ul (by omega) (by omega);refine Qm rfl (An (Ac (As (Qm rfl (Qm rfl (Qm rfl ?_))))));refine De (t:=29) rfl (fun hq1=>?_) (fun hq1=>?_)
 ·refine Qk rfl (Qk rfl (Qm rfl (Qm rfl (Qk rfl (Qk rfl (Qk rfl (Qk rfl (Qk rfl (Qk rfl (Qm rfl (An (Bn rfl (As (Qx (A0 Q5 [.slice none 0 0] [] [_] rfl A6 rfl rfl Qt rfl) rfl ?_))))))))))))));refine Sa 0 [_] A6 rfl (by simp[Value.oneCell']) ?_;refine An (Am (Ag (G1 ?_)));exact BU (vs:=[_]) 1 rfl rfl Dt rfl A6 rfl rfl (⟨hle,Hp.emp,[],_,rfl,rfl,OwnL.nil B3,(fun a ha=>nomatch ha),.inl rfl⟩)
 ·refine Qg (Ay rfl rfl) rfl (Qg (Es rfl rfl) rfl (Qm rfl (Qm rfl ?_)));refine De (t:=33) rfl (fun hq2=>?_) (fun hq2=>?_)
  ·refine Qk rfl (Qk rfl (Qk rfl (Qk rfl (Qk rfl (Qk rfl (Qm rfl (An (Bn rfl (As (Qx (A0 Q5 [.slice none 0 0] [] [_] rfl A6 rfl rfl Qt rfl) rfl ?_))))))))));refine Sa 0 [_] A6 rfl (by simp[Value.oneCell']) ?_;refine An (Am (Ag (G1 ?_)));exact BU (vs:=[_]) 1 rfl rfl Dt rfl A6 rfl rfl (⟨hle,Hp.emp,[],_,rfl,rfl,OwnL.nil B3,(fun a ha=>nomatch ha),.inl rfl⟩)
  ·refine Qg (Ay rfl rfl) rfl (Qg (Ar hQA.rd.any rfl Bs rfl) rfl (Qg (Ay rfl rfl) rfl (Qg (Ar hQB.rd.any rfl Bs rfl) rfl (Qg (oM rfl) rfl (Qg (Cc rfl rfl rfl) rfl (Qm rfl (An ?_)))))));refine Au rfl (fun hbig=>?_) (fun hbig=>?_)
   ·refine Ac (Ad (Qx (A0 Q5 [.slice none 0 0] [] [_] rfl A6 rfl rfl Qt rfl) rfl ?_));refine Sa 0 [_] A6 rfl (by simp[Value.oneCell']) ?_;refine An (Am (Ag (G1 ?_)));exact BU (vs:=[_]) 1 rfl rfl Dt rfl A6 rfl rfl (⟨hle,Hp.emp,[],_,rfl,rfl,OwnL.nil B3,(fun a ha=>nomatch ha),.inl rfl⟩)
   ·have hq1:(Du (la.map Ce.c)).2=0:=by simpa using hq1
    have hq2:(Du (lb.map Ce.c)).2=0:=by simpa using hq2
    obtain⟨RA,eA⟩:=JC hq1;obtain⟨RB,eB⟩:=JC hq2;rw[eA]at hA;rw[eB]at hB;rw[<-hA]at RA;rw[<-hB]at RB;have lA:A.length=la.length:=by have:=congrArg List.length hA;rwa [length_map,Gc,length_map]at this
    have lB:B.length=lb.length:=by have:=congrArg List.length hB;rwa [length_map,Gc,length_map]at this
    have hbA:∀i (hi:i<A.length),(0<=A[i].c.dim/\A[i].c.dim<=8)/\A[i].c.sd.length<=64/\∀r∈A[i].c.sd,r.2=1\/r.2=-1:=fun i hi=>RA.bds (List.mem_map.2 ⟨_,getElem_mem hi,rfl⟩);have hbB:∀i (hi:i<B.length),(0<=B[i].c.dim/\B[i].c.dim<=8)/\B[i].c.sd.length<=64/\∀r∈B[i].c.sd,r.2=1\/r.2=-1:=fun i hi=>RB.bds (List.mem_map.2 ⟨_,getElem_mem hi,rfl⟩)
    have hAB:A.length*B.length<=4000:=by have e:((A.length*B.length:Nat):Int)=(A.length:Int)*(B.length:Int):=Int.natCast_mul _ _;omega
    have hsA:=fun a ha=>(hsA a ha).up (AJ l4 (AJ l5 l6));have hsB:=fun a ha=>(hsB a ha).up l6;refine Ah (Ab (As (Qm rfl (Qx (Ar hQB.rd.any rfl Bs rfl) rfl (Qm rfl (Bv (CC [.slice none 0 0] rfl A6 rfl rfl (fun g10=>An (BB ?_)))))))));refine A3 (fun sl h' ms'=>∃(vO:Value) (mO:Hp) (O:List Ce),sl=[(4,.pointer (some ⟨g4,0,none⟩)),(10,.pointer (some ⟨g10,0,none⟩))]/\h6.le h'/\ms'=[mO,A7 g10 29 [vO],A7 g4 29 [.slice none 0 0]]/\OwnL cC 3 52 mO vO O/\O.length=A.length*B.length/\(∀a∈O,PC (A.length*B.length) a.c)/\∀a∈O,RdL cD 2 h' [] a.v a.c.sd) ?_ (fun s h ms hI=>?_)
    ·refine Ac (Ad (Qm rfl (An (Ae ?_))))
     refine Az (fun q sl h' ms'=>∃(i:Nat) (vO:Value) (mO:Hp) (O:List Ce),q=A.length-i/\sl=[(4,.pointer (some ⟨g4,0,none⟩)),(7,rA),(8,rB),(9,.int .i64 B.length),(10,.pointer (some ⟨g10,0,none⟩)),(11,.int .i64 i)]/\h6.le h'/\ms'=[mO,A7 g10 29 [vO],A7 g4 29 [.slice none 0 0]]/\i<=A.length/\OwnL cC 3 52 mO vO O/\O.length=i*B.length/\(∀a∈O,PC (A.length*B.length) a.c)/\∀a∈O,RdL cD 2 h' [] a.v a.c.sd)
      (A.length-0) _ ⟨0,_,Hp.emp,[],rfl,rfl,CY,rfl,by omega,OwnL.nil B3,by simp,(fun a ha=>nomatch ha),(fun a ha=>nomatch ha)⟩ Qs ?_
     rintro q sl h7 ms' ⟨i,vO,mO,O,rfl,rfl,l7,rfl,hi,hO,hOl,hOc,hOs⟩;have hQA:=hQA.up l7;have hQB:=hQB.up l7;refine Ac (As (Qm rfl (Qm rfl (Qx (Ar hQA.rd.any rfl Bs rfl) rfl (Qm rfl (An ?_))))));refine Au rfl (fun hiA=>?_) (fun hiA=>?_)
     ·have hiA:i<A.length:=by omega
      refine Ah (Ab ?_);refine A3 (fun sl h' ms'=>∃(vO:Value) (mO:Hp) (O:List Ce),sl=[(4,.pointer (some ⟨g4,0,none⟩)),(7,rA),(8,rB),(9,.int .i64 B.length),(10,.pointer (some ⟨g10,0,none⟩)),(11,.int .i64 i)]/\h7.le h'/\ms'=[mO,A7 g10 29 [vO],A7 g4 29 [.slice none 0 0]]/\OwnL cC 3 52 mO vO O/\O.length=(i+1)*B.length/\(∀a∈O,PC (A.length*B.length) a.c)/\∀a∈O,RdL cD 2 h' [] a.v a.c.sd) ?_ (fun s h ms hI=>?_)
      ·have hiN0:(i+1)*B.length<=A.length*B.length:=Nat.mul_le_mul_right _ (by omega);have hiN1:(i+1)*B.length=i*B.length+B.length:=Nat.succ_mul _ _;have hiN2:((i*B.length:Nat):Int)=(i:Int)*(B.length:Int):=Int.natCast_mul _ _;have hiN:0<=(i:Int)*(B.length:Int)/\(i:Int)*(B.length:Int)<=4000:=by omega
       refine Ae (As (Qm rfl (An (Ae ?_))))
       refine Az (fun q sl h' ms'=>∃(k:Nat) (vO:Value) (mO:Hp) (O:List Ce),q=B.length-k/\sl=[(4,.pointer (some ⟨g4,0,none⟩)),(7,rA),(8,rB),(9,.int .i64 B.length),(10,.pointer (some ⟨g10,0,none⟩)),(11,.int .i64 i),(12,.int .i64 k)]/\h7.le h'/\ms'=[mO,A7 g10 29 [vO],A7 g4 29 [.slice none 0 0]]/\k<=B.length/\OwnL cC 3 52 mO vO O/\O.length=i*B.length+k/\(∀a∈O,PC (A.length*B.length) a.c)/\∀a∈O,RdL cD 2 h' [] a.v a.c.sd)
        (B.length-0) _ ⟨0,vO,mO,O,rfl,rfl,CY,rfl,by omega,hO,hOl,hOc,hOs⟩ Qs ?_
       rintro q sl h8 ms' ⟨k,vO,mO,O,rfl,rfl,l8,rfl,hk,hO,hOl,hOc,hOs⟩;have hQA:=hQA.up l8;have hQB:=hQB.up l8;have ovO:=hO.o1;have hsA:=fun a ha=>(hsA a ha).up (AJ l7 l8);have hsB:=fun a ha=>(hsB a ha).up (AJ l7 l8);refine Ac (As (Qm rfl (Qm rfl (Qm rfl (An ?_)))));refine Au rfl (fun hkB=>?_) (fun hkB=>?_)
       ·have hkB:k<B.length:=by omega
        have hdA:=(hbA i hiA).1;have hdB:=(hbB k hkB).1;have cA1:∀ms,Cell h8 ms (((AG rA).add (i*3)).add 1) (.int .i64 A[i].c.dim):=fun ms=>(hQA.any (ms:=ms)).cell hiA (f:=1) rfl;have cB1:∀ms,Cell h8 ms (((AG rB).add (k*3)).add 1) (.int .i64 B[k].c.dim):=fun ms=>(hQB.any (ms:=ms)).cell hkB (f:=1) rfl;refine Ah (Ab (Ac (Ae (Ac (Bc 19 CP (by kernel_rfl) rfl (Wm rfl (Wm rfl (AP (oM rfl) rfl rfl (Wm rfl (AP (oA rfl) rfl rfl (AP (oA rfl) rfl rfl (Wm rfl (Wm rfl (AP (BS (i) hQA.rd.any rfl Bs AI rfl rfl) rfl rfl (Wf BM rfl (Wl rfl U3 (cA1 _) (Wm rfl (Wm rfl (AP (BS (k) hQB.rd.any rfl Bs AI rfl rfl) rfl rfl (Wf BM rfl (Wl rfl U3 (cB1 _) (AP (oA rfl) rfl rfl (AP (A0 LW [.int .i64 0,.int .i64 0,.slice none 0 0] [(0,_),(1,_)] [_,_,_] rfl AI rfl rfl Qt rfl) rfl rfl (WE (MC [.int .i64 0,.int .i64 0,.slice none 0 0] rfl AI rfl) rfl rfl (I3 (fun g13=>?_))))))))))))))))))))))))));refine Sa 0 [_,_,_] AI rfl (by simp[Value.oneCell']) ?_;refine An (BB ?_);obtain⟨X,hX⟩:∃X:Int,(i:Int)*(B.length:Int)+(k:Int)+1=X:=⟨_,rfl⟩
        obtain⟨D,hD⟩:∃D:Int,A[i].c.dim+B[k].c.dim=D:=⟨_,rfl⟩
        rw[hX,hD];refine A3 (fun sl h' ms'=>∃(vS:Value) (mS:Hp) (L:List (Int×Int)),sl=[(4,.pointer (some ⟨g4,0,none⟩)),(7,rA),(8,rB),(9,.int .i64 B.length),(10,.pointer (some ⟨g10,0,none⟩)),(11,.int .i64 i),(12,.int .i64 k),(13,.pointer (some ⟨g13,0,none⟩))]/\h8.le h'/\ms'=[mS,A7 g13 52 [.int .i64 X,.int .i64 D,vS],mO,A7 g10 29 [vO],A7 g4 29 [.slice none 0 0]]/\OwnL cD 2 119 mS vS L/\L.length=A[i].c.sd.length) ?_ (fun s h ms hI=>?_)
        ·have hSd:=hsA _ (getElem_mem hiA);have ovd:=hSd.rd.one;refine As (Qm rfl (An (Ae ?_)))
         refine Az (fun q sl h' ms'=>∃(j:Nat) (vS:Value) (mS:Hp) (L:List (Int×Int)),q=A[i].c.sd.length-j/\sl=[(4,.pointer (some ⟨g4,0,none⟩)),(7,rA),(8,rB),(9,.int .i64 B.length),(10,.pointer (some ⟨g10,0,none⟩)),(11,.int .i64 i),(12,.int .i64 k),(13,.pointer (some ⟨g13,0,none⟩)),(14,.int .i64 j)]/\h8.le h'/\ms'=[mS,A7 g13 52 [.int .i64 X,.int .i64 D,vS],mO,A7 g10 29 [vO],A7 g4 29 [.slice none 0 0]]/\j<=A[i].c.sd.length/\OwnL cD 2 119 mS vS L/\L.length=j)
          (A[i].c.sd.length-0) _ ⟨0,_,Hp.emp,[],rfl,rfl,CY,rfl,by omega,OwnL.nil CK,rfl⟩ Qs ?_
         rintro q sl h9 ms' ⟨j,vS,mS,L,rfl,rfl,l9,rfl,hj,hOS,hLl⟩;have hQA:=hQA.up l9;have hQB:=hQB.up l9;have hSd:=hSd.up l9;have c2:∀ms,Cell h9 ms (((AG rA).add (i*3)).add 2) A[i].v:=fun ms=>(hQA.any (ms:=ms)).cell hiA (f:=2) rfl;have ovS:=hOS.o1;have hs64:=(hbA i hiA).2.1;refine Ac (As (Qm rfl (Qm rfl (Qm rfl (Qx (BS (i) hQA.rd.any rfl Bs AI rfl rfl) rfl (Qf Bu rfl (Ql rfl BL (c2 _) (Qx (Ar hSd.rd.any rfl BL rfl) rfl (Qm rfl (An ?_))))))))));refine Au rfl (fun hjs=>?_) (fun hjs=>?_)
         ·have hjs:j<A[i].c.sd.length:=by omega
          obtain⟨sd,hsd⟩:∃sd,A[i].c.sd[j]=sd:=⟨_,rfl⟩
          have hsg:sd.2=1\/sd.2=-1:=by rw[<-hsd];exact(hbA i hiA).2.2 _ (getElem_mem hjs)
          have hcs:∀ms,Seg h9 ms ((AG A[i].v).add (j*2)) (cD sd):=fun ms=>by rw[<-hsd];exact(hSd.any (ms:=ms)).seg hjs
          refine Ah (Ab ?_);refine A3 (fun sl h' ms'=>∃(vS:Value) (mS:Hp) (L:List (Int×Int)),sl=[(4,.pointer (some ⟨g4,0,none⟩)),(7,rA),(8,rB),(9,.int .i64 B.length),(10,.pointer (some ⟨g10,0,none⟩)),(11,.int .i64 i),(12,.int .i64 k),(13,.pointer (some ⟨g13,0,none⟩)),(14,.int .i64 j)]/\h9.le h'/\ms'=[mS,A7 g13 52 [.int .i64 X,.int .i64 D,vS],mO,A7 g10 29 [vO],A7 g4 29 [.slice none 0 0]]/\OwnL cD 2 119 mS vS L/\L.length=j+1) ?_ (fun s h ms hI=>?_)
          ·refine Ae (As (Qm rfl (Qm rfl (Qx (BS (i) hQA.rd.any rfl Bs AI rfl rfl) rfl (Qf Bu rfl (Ql rfl BL (c2 _) (Qm rfl (Qx (BS (j) hSd.rd.any rfl BL AH rfl rfl) rfl (Qx (oG rfl DJ AH (hcs _)) rfl (CC [.int .i64 0,.int .i64 0] rfl AH rfl rfl (fun g15=>?_)))))))))));refine Sa 0 [_,_] AH rfl (by simp[Value.oneCell']) ?_;refine An (Aw fun ha k1 hS15=>?_);have hQA:=hQA.up k1;have hQB:=hQB.up k1;have e0:=Seg.all hS15 0 _ rfl;have e1:=Seg.all hS15 1 _ rfl;obtain⟨T,hT⟩:∃T,Jm (A.map Ce.c) sd.1=T:=⟨_,rfl⟩
           have hT1:-1<=T:=by rw[<-hT];exact Vt _ _
           have hT2:T<A.length:=by rw[<-hT];have:=KZ (A.map Ce.c) sd.1;rwa [length_map]at this
           have hT3:-100000<=T*(B.length:Int)/\T*(B.length:Int)<=10000000000:=Sg hT1 (by omega) (by omega);have hat:∀ms,FnV Tryz.prog 117 #[rA,.int .i64 sd.1] ha ms (.int .i64 T):=fun ms=>by rw[<-hT];exact XK A rA sd.1 ha (by omega) (RA.inc.imp fun q=>Int.le_of_lt q) hQA ms
           refine BF (n:=18) (bs:=[true,false,true,true,true,true,true,true,true,true,true,true,true,true,false,false,true,false]) [true,false,true,true,true,true,true,true,true,true,true,true,true,true,false,false,true] CP (by kernel_rfl) (by kernel_rfl) rfl rfl (QF Bu rfl (Qq rfl (QF B4 rfl (QL rfl U3 (e0 _) (Qp rfl (AF rfl call117 rfl (hat _)) (Qq rfl (Qp rfl (oM rfl) (Qq rfl (Qp rfl (oA rfl) (Qp rfl (oA rfl) (QF Cp rfl (QL rfl U3 (e1 _) (Qp rfl (A0 KW [.int .i64 0,.int .i64 0] [(0,_),(1,_)] [_,_] rfl AH rfl rfl Qt rfl) (QF Bu rfl ?_))))))))))))));unfold FN;simp only[cons_append,nil_append];refine Ba [1,14] (by kernel_rfl) rfl ?_;refine AD rfl ?_ ?_
           ·refine Ql rfl BL (Cell.blk 1 rfl rfl) (Qw (Qo 14 rfl (Aq [_,_] rfl BL AH rfl (by rfl) rfl rfl (by omega) rfl rfl rfl (fun g105=>Qw (Qo 15 rfl (AM 1 hOS (RdL.one CK (x:=(T*(B.length:Int)+(k:Int)+1,sd.2)) Mh rfl) rfl BL AH rfl (by omega) rfl rfl rfl DT (by(try simp only[length_singleton]);omega) (by(try simp only[length_singleton]);omega) rfl rfl rfl (fun v6 m6 hO6=>?_)))))));have ov6:=hO6.o1;refine Qw (Qo 17 rfl ?_);refine AK 2 _ rfl Pb rfl rfl (by assumption) rfl rfl (by(simp;done)) rfl rfl ?_;refine Qw (Qe ?_);refine AN (Ai ?_);exact AA _ ⟨v6,m6,_,rfl,k1,rfl,hO6,by rw[length_append,hLl];rfl⟩ Qs
           refine AD rfl ?_ ?_
           ·refine Aq [_,_] rfl BL AH rfl (by rfl) rfl rfl (by omega) rfl rfl rfl (fun g105=>Qw (Qo 1 rfl (Ql rfl BL (Cell.blk 2 rfl rfl) (Qw (Qo 15 rfl (AM 1 hOS (RdL.one CK (x:=(T*(B.length:Int)+(k:Int)+1,sd.2)) Mh rfl) rfl BL AH rfl (by omega) rfl rfl rfl DT (by(try simp only[length_singleton]);omega) (by(try simp only[length_singleton]);omega) rfl rfl rfl (fun v6 m6 hO6=>?_)))))));have ov6:=hO6.o1;refine Qw (Qo 17 rfl ?_);refine AK 2 _ rfl Pb rfl rfl (by assumption) rfl rfl (by(simp;done)) rfl rfl ?_;refine Qw (Qe ?_);refine AN (Ai ?_);exact AA _ ⟨v6,m6,_,rfl,k1,rfl,hO6,by rw[length_append,hLl];rfl⟩ Qs
           exact Bb
          ·obtain⟨vS,mS,L,rfl,k1,rfl,hOS,hLl⟩:=hI;refine Ad (Qm rfl (Qx (oA rfl) rfl (Qm rfl (Aj ?_))));exact Ak (A[i].c.sd.length-(j+1)) _ (by omega) ⟨j+1,vS,mS,L,rfl,rfl,AJ l9 k1,rfl,by omega,hOS,hLl⟩ Qs
         ·obtain rfl:j=A[i].c.sd.length:=by omega
          refine Av (Aa (Aa (Af ?_)));exact AA _ ⟨vS,mS,L,rfl,l9,rfl,hOS,hLl⟩ Qs
        ·obtain⟨vS,mS,L,rfl,l9,rfl,hOS,hLl⟩:=hI;have hQA:=hQA.up l9;have hQB:=hQB.up l9;have hlA64:=(hbA i hiA).2.1;refine A3 (fun sl h' ms'=>∃(vS:Value) (mS:Hp) (L:List (Int×Int)),sl=[(4,.pointer (some ⟨g4,0,none⟩)),(7,rA),(8,rB),(9,.int .i64 B.length),(10,.pointer (some ⟨g10,0,none⟩)),(11,.int .i64 i),(12,.int .i64 k),(13,.pointer (some ⟨g13,0,none⟩))]/\h.le h'/\ms'=[mS,A7 g13 52 [.int .i64 X,.int .i64 D,vS],mO,A7 g10 29 [vO],A7 g4 29 [.slice none 0 0]]/\OwnL cD 2 119 mS vS L/\L.length=A[i].c.sd.length+B[k].c.sd.length) ?_ (fun s h ms hI=>?_)
         ·have hSd:=(hsB _ (getElem_mem hkB)).up l9;have ovd:=hSd.rd.one;refine As (Qm rfl (An (Ae ?_)))
          refine Az (fun q sl h' ms'=>∃(j:Nat) (vS:Value) (mS:Hp) (L:List (Int×Int)),q=B[k].c.sd.length-j/\sl=[(4,.pointer (some ⟨g4,0,none⟩)),(7,rA),(8,rB),(9,.int .i64 B.length),(10,.pointer (some ⟨g10,0,none⟩)),(11,.int .i64 i),(12,.int .i64 k),(13,.pointer (some ⟨g13,0,none⟩)),(16,.int .i64 j)]/\h.le h'/\ms'=[mS,A7 g13 52 [.int .i64 X,.int .i64 D,vS],mO,A7 g10 29 [vO],A7 g4 29 [.slice none 0 0]]/\j<=B[k].c.sd.length/\OwnL cD 2 119 mS vS L/\L.length=A[i].c.sd.length+j)
           (B[k].c.sd.length-0) _ ⟨0,vS,mS,L,rfl,rfl,CY,rfl,by omega,hOS,hLl⟩ Qs ?_
          rintro q sl hb ms' ⟨j,vS,mS,L,rfl,rfl,lb,rfl,hj,hOS,hLl⟩;have hQA:=hQA.up lb;have hQB:=hQB.up lb;have hSd:=hSd.up lb;have c2:∀ms,Cell hb ms (((AG rB).add (k*3)).add 2) B[k].v:=fun ms=>(hQB.any (ms:=ms)).cell hkB (f:=2) rfl;have ovS:=hOS.o1;have hs64:=(hbB k hkB).2.1;refine Ac (As (Qm rfl (Qm rfl (Qm rfl (Qx (BS (k) hQB.rd.any rfl Bs AI rfl rfl) rfl (Qf Bu rfl (Ql rfl BL (c2 _) (Qx (Ar hSd.rd.any rfl BL rfl) rfl (Qm rfl (An ?_))))))))));refine Au rfl (fun hjs=>?_) (fun hjs=>?_)
          ·have hjs:j<B[k].c.sd.length:=by omega
           obtain⟨sd,hsd⟩:∃sd,B[k].c.sd[j]=sd:=⟨_,rfl⟩
           have hsg:sd.2=1\/sd.2=-1:=by rw[<-hsd];exact(hbB k hkB).2.2 _ (getElem_mem hjs)
           have hcs:∀ms,Seg hb ms ((AG B[k].v).add (j*2)) (cD sd):=fun ms=>by rw[<-hsd];exact(hSd.any (ms:=ms)).seg hjs
           refine Ah (Ab ?_);refine A3 (fun sl h' ms'=>∃(vS:Value) (mS:Hp) (L:List (Int×Int)),sl=[(4,.pointer (some ⟨g4,0,none⟩)),(7,rA),(8,rB),(9,.int .i64 B.length),(10,.pointer (some ⟨g10,0,none⟩)),(11,.int .i64 i),(12,.int .i64 k),(13,.pointer (some ⟨g13,0,none⟩)),(16,.int .i64 j)]/\hb.le h'/\ms'=[mS,A7 g13 52 [.int .i64 X,.int .i64 D,vS],mO,A7 g10 29 [vO],A7 g4 29 [.slice none 0 0]]/\OwnL cD 2 119 mS vS L/\L.length=A[i].c.sd.length+(j+1)) ?_ (fun s h ms hI=>?_)
           ·refine Ae (As (Qm rfl (Qm rfl (Qx (BS (k) hQB.rd.any rfl Bs AI rfl rfl) rfl (Qf Bu rfl (Ql rfl BL (c2 _) (Qm rfl (Qx (BS (j) hSd.rd.any rfl BL AH rfl rfl) rfl (Qx (oG rfl DJ AH (hcs _)) rfl (CC [.int .i64 0,.int .i64 0] rfl AH rfl rfl (fun g17=>?_)))))))))));refine Sa 0 [_,_] AH rfl (by simp[Value.oneCell']) ?_;refine An (Aw fun ha k1 hS15=>?_);have hQA:=hQA.up k1;have hQB:=hQB.up k1;have cd1:∀ms,Cell ha ms (((AG rA).add (i*3)).add 1) (.int .i64 A[i].c.dim):=fun ms=>(hQA.any (ms:=ms)).cell hiA (f:=1) rfl
            have hmu:-1<=sd.2*(1-2*(A[i].c.dim%2))/\sd.2*(1-2*(A[i].c.dim%2))<=1:=by rcases hsg with e|e<;>rw[e]<;>omega
            have e0:=Seg.all hS15 0 _ rfl;have e1:=Seg.all hS15 1 _ rfl;obtain⟨T,hT⟩:∃T,Jm (B.map Ce.c) sd.1=T:=⟨_,rfl⟩
            have hT1:-1<=T:=by rw[<-hT];exact Vt _ _
            have hT2:T<B.length:=by rw[<-hT];have:=KZ (B.map Ce.c) sd.1;rwa [length_map]at this
            have hT3:-100000<=T*(B.length:Int)/\T*(B.length:Int)<=10000000000:=Sg hT1 (by omega) (by omega);have hat:∀ms,FnV Tryz.prog 117 #[rB,.int .i64 sd.1] ha ms (.int .i64 T):=fun ms=>by rw[<-hT];exact XK B rB sd.1 ha (by omega) (RB.inc.imp fun q=>Int.le_of_lt q) hQB ms
            refine BF (n:=27) (bs:=[true,false,true,true,true,true,true,true,true,true,true,true,true,true,true,true,true,true,true,true,true,true,true,false,false,true,false]) [true,false,true,true,true,true,true,true,true,true,true,true,true,true,true,true,true,true,true,true,true,true,true,false,false,true] CP (by kernel_rfl) (by kernel_rfl) rfl rfl (QF Bu rfl (Qq rfl (Qq rfl (Qp rfl (oM rfl) (Qq rfl (QF B4 rfl (QL rfl U3 (e0 _) (Qp rfl (AF rfl call117 rfl (hat _)) (Qp rfl (oA rfl) (Qp rfl (oA rfl) (QF Cp rfl (QL rfl U3 (e1 _) (Qq rfl (Qq rfl (Qp rfl (BS (i) hQA.rd.any rfl Bs AI rfl rfl) (QF BM rfl (QL rfl U3 (cd1 _) (Qp rfl (BV rfl rfl rfl (by omega) (by omega)) (Qp rfl (oM rfl) (Qp rfl (oS rfl) (Qp rfl (oM rfl) (Qp rfl (A0 KW [.int .i64 0,.int .i64 0] [(0,_),(1,_)] [_,_] rfl AH rfl rfl Qt rfl) (QF Bu rfl ?_)))))))))))))))))))))));unfold FN;simp only[cons_append,nil_append];refine Ba [1,23] (by kernel_rfl) rfl ?_;refine AD rfl ?_ ?_
            ·refine Ql rfl BL (Cell.blk 1 rfl rfl) (Qw (Qo 23 rfl (Aq [_,_] rfl BL AH rfl (by rfl) rfl rfl (by omega) rfl rfl rfl (fun g149=>Qw (Qo 24 rfl (AM 1 hOS (RdL.one CK (x:=((i:Int)*(B.length:Int)+T+1,sd.2*(1-2*(A[i].c.dim%2)))) Mh rfl) rfl BL AH rfl (by omega) rfl rfl rfl DT (by(try simp only[length_singleton]);omega) (by(try simp only[length_singleton]);omega) rfl rfl rfl (fun v6 m6 hO6=>?_)))))));have ov6:=hO6.o1;refine Qw (Qo 26 rfl ?_);refine AK 2 _ rfl Pb rfl rfl (by assumption) rfl rfl (by(simp;done)) rfl rfl ?_;refine Qw (Qe ?_);refine AN (Ai ?_);exact AA _ ⟨v6,m6,_,rfl,k1,rfl,hO6,by rw[length_append,hLl];rfl⟩ Qs
            refine AD rfl ?_ ?_
            ·refine Aq [_,_] rfl BL AH rfl (by rfl) rfl rfl (by omega) rfl rfl rfl (fun g149=>Qw (Qo 1 rfl (Ql rfl BL (Cell.blk 2 rfl rfl) (Qw (Qo 24 rfl (AM 1 hOS (RdL.one CK (x:=((i:Int)*(B.length:Int)+T+1,sd.2*(1-2*(A[i].c.dim%2)))) Mh rfl) rfl BL AH rfl (by omega) rfl rfl rfl DT (by(try simp only[length_singleton]);omega) (by(try simp only[length_singleton]);omega) rfl rfl rfl (fun v6 m6 hO6=>?_)))))));have ov6:=hO6.o1;refine Qw (Qo 26 rfl ?_);refine AK 2 _ rfl Pb rfl rfl (by assumption) rfl rfl (by(simp;done)) rfl rfl ?_;refine Qw (Qe ?_);refine AN (Ai ?_);exact AA _ ⟨v6,m6,_,rfl,k1,rfl,hO6,by rw[length_append,hLl];rfl⟩ Qs
            exact Bb
           ·obtain⟨vS,mS,L,rfl,k1,rfl,hOS,hLl⟩:=hI;refine Ad (Qm rfl (Qx (oA rfl) rfl (Qm rfl (Aj ?_))));exact Ak (B[k].c.sd.length-(j+1)) _ (by omega) ⟨j+1,vS,mS,L,rfl,rfl,AJ lb k1,rfl,by omega,hOS,hLl⟩ Qs
          ·obtain rfl:j=B[k].c.sd.length:=by omega
           refine Av (Aa (Aa (Af ?_)));exact AA _ ⟨vS,mS,L,rfl,lb,rfl,hOS,hLl⟩ Qs
         ·obtain⟨vS,mS,L,rfl,lb,rfl,hOS,hLl⟩:=hI;have hlB64:=(hbB k hkB).2.1;refine BE fun hc lc kc=>?_;have hRS:=hOS.rdh (ms:=[]) kc;have ovS:=hRS.rd.one
          let ce:Ce:=⟨⟨X,D,L⟩,vS⟩
          refine Ad (Qf B6 rfl (Ql rfl Bs (Cell.blk 2 rfl rfl) (Qx (oG rfl Fb AI (Seg.blk 0 rfl)) rfl (Aq [_,_,_] rfl Bs AI rfl (by rfl) rfl rfl (by omega) rfl rfl rfl (fun g155=>?_)))));refine Bj 2 hO (RdL.one B3 (x:=ce) Mh rfl) rfl Bs AI rfl (by omega) rfl rfl rfl (Df (l:=[ce]) (h:=hc) fun y hy=>by rw[List.mem_singleton.1 hy];exact hRS) (by(try simp only[length_singleton]);omega) (by(try simp only[length_singleton]);omega) rfl rfl rfl (fun v9 m9 hO9=>?_);have ov9:=hO9.o1;refine Qf B6 rfl ?_;refine AK 3 _ rfl JI rfl rfl (by assumption) rfl rfl (by(simp;done)) rfl rfl ?_;refine Aj (Ai (Ab (Ad (Qm rfl (Qx (oA rfl) rfl (Qm rfl (Aj (Bp 0 rfl (Bp 0 rfl ?_)))))))));have l8c:=AJ l9 (AJ lb lc);have hce:PC (A.length*B.length) ce.c:=⟨by show X<=_;rw[<-hX];omega,by show 0<=D/\D<=16;omega,by show L.length<=128;omega⟩
          exact Ak (B.length-(k+1)) _ (by omega) ⟨k+1,v9,m9,O++[ce],rfl,rfl,AJ l8 l8c,rfl,by omega,hO9,by rw[length_append,hOl];rfl,fun a ha=>by
           rcases List.mem_append.1 ha with h|h
           ·exact hOc a h
           ·rw[List.mem_singleton.1 h];exact hce,fun a ha=>by
           rcases List.mem_append.1 ha with h|h
           ·exact(hOs a h).up l8c
           ·rw[List.mem_singleton.1 h];exact hRS⟩ Qs
       ·obtain rfl:k=B.length:=by omega
        refine Av (Aa (Aa (Af (Ai ?_))));exact AA _ ⟨vO,mO,O,rfl,l8,rfl,hO,by rw[hOl,hiN1],hOc,hOs⟩ Qs
      ·obtain⟨vO,mO,O,rfl,l8,rfl,hO,hOl,hOc,hOs⟩:=hI;refine Ad (Qm rfl (Qx (oA rfl) rfl (Qm rfl (Aj ?_))));exact Ak (A.length-(i+1)) _ (by omega) ⟨i+1,vO,mO,O,rfl,rfl,AJ l7 l8,rfl,by omega,hO,hOl,hOc,hOs⟩ Qs
     ·obtain rfl:i=A.length:=by omega
      refine Av (Aa (Aa (Af ?_)));exact AA _ ⟨vO,mO,O,rfl,l7,rfl,hO,hOl,hOc,hOs⟩ Qs
    ·obtain⟨vO,mO,O,rfl,l7,rfl,hO,hOl,hOc,hOs⟩:=hI;refine BE fun h8 l8 k8=>(Aw fun h9 l9 hS10=>?_)
     have hR:RdC h9 vO O:=⟨hO.rdh (AJ k8 l9),fun a ha=>(hOs a ha).up (AJ l8 l9)⟩
     have ovO:=hR.q.rd.one;have hK:O5 O:=⟨⟨by omega,fun a ha=>by have:=(hOc a ha).n;omega⟩,fun a ha=>by have:=(hOc a ha).d;omega⟩
     have hle:hp.le h9:=AJ hle (AJ l7 (AJ l8 l9));refine As (Qx (oG rfl Dt A6 (Seg.any hS10)) rfl (Qx (AF rfl call171 rfl (Jx O vO h9 hK hR _)) rfl (Qm rfl (An (Ac (As (Qm rfl (Qm rfl (An ?_)))))))));refine Bq rfl (fun hfine=>?_) (fun hfine=>?_)
     ·refine Ac (Ad (Qx (A0 Q5 [.slice none 0 0] [] [_] rfl A6 rfl rfl Qt rfl) rfl ?_));refine Sa 0 [_] A6 rfl (by simp[Value.oneCell']) ?_;refine An (Am (Ag (G1 ?_)));exact BU (vs:=[_]) 1 rfl rfl Dt rfl A6 rfl rfl (⟨hle,Hp.emp,[],_,rfl,rfl,OwnL.nil B3,(fun a ha=>nomatch ha),.inl rfl⟩)
     ·have hfine:(Du (O.map Ce.c)).2=0:=by simpa using hfine
      have hid:∀c∈O.map Ce.c,c.id<=((la.length*lb.length:Nat):Int):=fun c hc=>by
       obtain⟨a,ha,rfl⟩:=List.mem_map.1 hc;have:=(hOc a ha).i
       rwa [lA,lB]at this
      refine Ah (Ab (As (Qx (oG rfl Dt A6 (Seg.any hS10)) rfl (Qc call83 rfl (KP O vO h9 hK.toCsOk hR) (fun rC h10 ms10 l10 hF=>?_)))));obtain⟨l10',mC,C,vC,rfl,rfl,hOC,hC,hsC⟩:=hF;have ovC:=hOC.o1;refine Sa 1 [_] A6 rfl (by simp[o1,o2,oA_,oB,ovO,ovC]) ?_;refine An (Am ?_);exact BU (vs:=[_]) 1 rfl rfl Dt rfl A6 rfl rfl (⟨AJ hle l10,mC,C,_,rfl,rfl,hOC,hsC,.inr ⟨_,hC,hfine,by rw[length_map,hOl,lA,lB],hid⟩⟩)
def Q8(i:Nat):Cl:=⟨(i:Int)+1,0,[]⟩
def Vl(n i:Nat):Cl:=⟨(n:Int)+(i:Int)+1,1,[((i:Int)+1,-1),(((i:Int)+1)%(n:Int)+1,1)]⟩
def C9(n m:Nat):List (Int×Int):=(range m).map fun(i:Nat)=>((n:Int)+(i:Int)+1,1)
def Fe(n:Nat):List Cl:=(range n).map Q8++(range n).map (Vl n)++[⟨2*(n:Int)+1,2,C9 n n⟩]++(if n%2=0 then [⟨2*(n:Int)+2,2,C9 n n⟩] else [])
theorem RdC.snoc'{h:Hp}{A:List Ce}(hA:∀a∈A,RdL cD 2 h [] a.v a.c.sd){c:Ce}(hc:RdL cD 2 h [] c.v c.c.sd):∀a∈A++[c],RdL cD 2 h [] a.v a.c.sd:=fun a ha=>by
 rcases List.mem_append.1 ha with h|h
 ·exact hA a h
 ·rw[List.mem_singleton.1 h];exact hc
theorem TD(n m:Nat):C9 n (m+1)=C9 n m++[((n:Int)+(m:Int)+1,1)]:=by unfold C9;rw[range_succ,map_append];rfl
theorem IV(n m:Nat):(C9 n m).length=m:=by simp[C9]
theorem VM(n:Nat):∀c∈Fe n,c.sd.length<=n+2:=fun c hc=>by
 unfold Fe at hc;rw[mem_append,mem_append,mem_append]at hc;rcases hc with ((hc|hc)|hc)|hc
 ·obtain⟨i,_,rfl⟩:=List.mem_map.1 hc;exact Nat.zero_le _
 ·obtain⟨i,_,rfl⟩:=List.mem_map.1 hc;show 2<=n+2;omega
 ·rw[List.mem_singleton.1 hc];show(C9 n n).length<=_;rw[IV];omega
 ·split at hc
  ·rw[List.mem_singleton.1 hc];show(C9 n n).length<=_;rw[IV];omega
  ·cases hc
theorem Ra(n:Nat)(hp:Hp)(hn:1<=n/\n<=60):FnT Tryz.prog 108 #[.int .i64 n] hp [] (fun r h' ms'=>hp.le h'/\∃m A v',ms'=[m]/\r=.agg #[v']/\OwnL cC 3 52 m v' A/\A.map Ce.c=ordF (Fe n)/\∀a∈A,RdL cD 2 h' [] a.v a.c.sd):=by
 refine Ao func108 ntmps108 rfl rfl (fun w0 hw0=>?_);simp only[AU];refine As (CC [.slice none 0 0] rfl A6 rfl rfl (fun g2=>Bv (CC [.slice none 0 0] rfl A6 rfl rfl (fun g3=>An (BB ?_)))));refine A3 (fun sl h' ms'=>∃(vO:Value) (mO:Hp) (O:List Ce),sl=[(0,.int .i64 n),(2,.pointer (some ⟨g2,0,none⟩)),(3,.pointer (some ⟨g3,0,none⟩))]/\hp=h'/\ms'=[mO,A7 g3 29 [vO],A7 g2 29 [.slice none 0 0]]/\OwnL cC 3 52 mO vO O/\O.map Ce.c=(range n).map Q8/\∀a∈O,RdL cD 2 h' [] a.v a.c.sd) ?_ (fun s h ms hI=>?_)
 ·refine Ac (Ad (Qm rfl (An (Ae ?_))))
  refine Az (fun q sl h' ms'=>∃(i:Nat) (vO:Value) (mO:Hp) (O:List Ce),q=n-i/\sl=[(0,.int .i64 n),(2,.pointer (some ⟨g2,0,none⟩)),(3,.pointer (some ⟨g3,0,none⟩)),(4,.int .i64 i)]/\hp=h'/\ms'=[mO,A7 g3 29 [vO],A7 g2 29 [.slice none 0 0]]/\i<=n/\OwnL cC 3 52 mO vO O/\O.map Ce.c=(range i).map Q8/\∀a∈O,RdL cD 2 h' [] a.v a.c.sd)
   (n-0) _ ⟨0,_,Hp.emp,[],rfl,rfl,rfl,rfl,by omega,OwnL.nil B3,rfl,fun a ha=>nomatch ha⟩ Qs ?_
  rintro q sl h' ms' ⟨i,vO,mO,O,rfl,rfl,rfl,rfl,hi,hO,hOc,hOs⟩;have ovO:=hO.o1;have hOl:O.length=i:=by have:=congrArg List.length hOc;simpa using this
  refine Ac (As (Qm rfl (Qm rfl (Qm rfl (An ?_)))));refine Au rfl (fun hin=>?_) (fun hin=>?_)
  ·let ce:Ce:=⟨Q8 i,.slice none 0 0⟩
   have hce:∀h,RdL cD 2 h [] ce.v ce.c.sd:=fun h=>⟨Rd.nil _ _ _,CK⟩
   refine Ah (Ab (Ac (Ae (Ad (Qf B6 rfl (Ql rfl Bs (Cell.blk 1 rfl rfl) (Qm rfl (Qx (oA rfl) rfl (Qx (A0 LW [.int .i64 0,.int .i64 0,.slice none 0 0] [(0,_)] [_,_,_] rfl AI rfl rfl Qt rfl) rfl (Aq [_,_,_] rfl Bs AI rfl (by rfl) rfl rfl (by omega) rfl rfl rfl (fun g19=>?_)))))))))));refine Bj 1 hO (RdL.one B3 (x:=ce) Mh rfl) rfl Bs AI rfl (by omega) rfl rfl rfl (Df (l:=[ce]) (h:=hp) fun y hy=>by rw[List.mem_singleton.1 hy];exact hce _) (by(try simp only[length_singleton]);omega) (by(try simp only[length_singleton]);omega) rfl rfl rfl (fun v9 m9 hO9=>?_);have ov9:=hO9.o1;refine Qf B6 rfl ?_;refine AK 2 _ rfl JI rfl rfl (by assumption) rfl rfl (by(simp;done)) rfl rfl ?_;refine Aj (Ai (Ab (Ad (Qm rfl (Qx (oA rfl) rfl (Qm rfl (Aj (Bp 0 rfl ?_))))))));exact Ak (n-(i+1)) _ (by omega) ⟨i+1,v9,m9,O++[ce],rfl,rfl,rfl,rfl,by omega,hO9,by rw[map_append,hOc,range_succ,map_append];rfl,RdC.snoc' hOs (hce _)⟩ Qs
  ·obtain rfl:i=n:=by omega
   refine Av (Aa (Aa (Af ?_)));exact AA _ ⟨vO,mO,O,rfl,rfl,rfl,hO,hOc,hOs⟩ Qs
 ·obtain⟨vO,mO,O,rfl,rfl,rfl,hO,hOc,hOs⟩:=hI;refine As (Qm rfl (An (BB ?_)));refine A3 (fun sl h' ms'=>∃(vL:Value) (mL:Hp) (vO:Value) (mO:Hp) (O:List Ce),sl=[(0,.int .i64 n),(2,.pointer (some ⟨g2,0,none⟩)),(3,.pointer (some ⟨g3,0,none⟩)),(5,vL)]/\hp.le h'/\ms'=[mL,mO,A7 g3 29 [vO],A7 g2 29 [.slice none 0 0]]/\OwnL cD 2 119 mL vL (C9 n n)/\OwnL cC 3 52 mO vO O/\O.map Ce.c=(range n).map Q8++(range n).map (Vl n)/\∀a∈O,RdL cD 2 h' [] a.v a.c.sd) ?_ (fun s h ms hI=>?_)
  ·refine Ac (Ad (Qm rfl (An (Ae ?_))))
   refine Az (fun q sl h' ms'=>∃(i:Nat) (vL:Value) (mL:Hp) (vO:Value) (mO:Hp) (O:List Ce),q=n-i/\sl=[(0,.int .i64 n),(2,.pointer (some ⟨g2,0,none⟩)),(3,.pointer (some ⟨g3,0,none⟩)),(5,vL),(6,.int .i64 i)]/\hp.le h'/\ms'=[mL,mO,A7 g3 29 [vO],A7 g2 29 [.slice none 0 0]]/\i<=n/\OwnL cD 2 119 mL vL (C9 n i)/\OwnL cC 3 52 mO vO O/\O.map Ce.c=(range n).map Q8++(range i).map (Vl n)/\∀a∈O,RdL cD 2 h' [] a.v a.c.sd)
    (n-0) _ ⟨0,_,Hp.emp,vO,mO,O,rfl,rfl,CY,rfl,by omega,OwnL.nil CK,hO,by rw[hOc];simp,hOs⟩ Qs ?_
   rintro q sl h1 ms' ⟨i,vL,mL,vO,mO,O,rfl,rfl,l1,rfl,hi,hL,hO,hOc,hOs⟩;have ovO:=hO.o1;have ovL:=hL.o1;have hOl:O.length=n+i:=by have:=congrArg List.length hOc;simpa using this
   refine Ac (As (Qm rfl (Qm rfl (Qm rfl (An ?_)))));refine Au rfl (fun hin=>?_) (fun hin=>?_)
   ·have hm0:0<=((i:Int)+1)%(n:Int):=Int.emod_nonneg _ (by omega);have hm1:((i:Int)+1)%(n:Int)<(n:Int):=Int.emod_lt_of_pos _ (by omega);refine Ah (Ab (Ac (Ae (As (Qm rfl (Qx (oA rfl) rfl (Qx (A0 KW [.int .i64 0,.int .i64 0] [(0,_),(1,_)] [_,_] rfl AH rfl rfl Qt rfl) rfl (CC [.int .i64 0,.int .i64 0] rfl AH rfl rfl (fun g7=>?_)))))))));refine Sa 0 [_,_] AH rfl (by simp[Value.oneCell']) ?_;refine An (Aw fun h2 l2 hS7=>(As (Qm rfl (Qx (oA rfl) rfl (Qm rfl (Qx (BV rfl rfl rfl (by omega) (by omega)) rfl (Qx (oA rfl) rfl (Qx (A0 KW [.int .i64 0,.int .i64 0] [(0,_),(1,_)] [_,_] rfl AH rfl rfl Qt rfl) rfl (CC [.int .i64 0,.int .i64 0] rfl AH rfl rfl (fun g8=>?_))))))))));refine Sa 0 [_,_] AH rfl (by simp[Value.oneCell']) ?_;refine An (Aw fun h3 l3 hS8=>?_);have hS7:=hS7.le l3;refine As (Qf B6 rfl (Ql rfl Bs (Cell.blk 2 rfl rfl) (Qm rfl (Qm rfl (Qx (oA rfl) rfl (Qx (oA rfl) rfl (Qx (oG rfl DJ AH (Seg.any hS7)) rfl (Qx (oG rfl DJ AH (Seg.any hS8)) rfl (AE [(0,_),(2,_)] [.int .i64 0,.int .i64 0,.int .i64 0,.int .i64 0] [_,_,_,_] rfl BL AH rfl (by omega) (by kernel_rfl) Qt rfl rfl rfl rfl (fun g44=>AW fun h4 l4 k4=>?_))))))))))
    let ce:Ce:=⟨Vl n i,.slice (some ⟨g44,0,none⟩) 2 2⟩
    have hce:RdL cD 2 h4 [] ce.v ce.c.sd:=(OwnL.blk (g:=g44) (el:=119) (F:=cD) (l:=[((i:Int)+1,-1),(((i:Int)+1)%(n:Int)+1,1)]) 2 CK rfl (by decide)).rdh k4;have hOs:=fun a ha=>(hOs a ha).up (AJ l2 (AJ l3 l4));refine Qx (A0 LW [.int .i64 0,.int .i64 0,.slice none 0 0] [(0,_),(1,_),(2,_)] [_,_,_] rfl AI rfl rfl Qt rfl) rfl (Aq [_,_,_] rfl Bs AI rfl (by rfl) rfl rfl (by omega) rfl rfl rfl (fun g46=>?_));refine Bj 2 hO (RdL.one B3 (x:=ce) Mh rfl) rfl Bs AI rfl (by omega) rfl rfl rfl (Df (l:=[ce]) (h:=h4) fun y hy=>by rw[List.mem_singleton.1 hy];exact hce) (by(try simp only[length_singleton]);omega) (by(try simp only[length_singleton]);omega) rfl rfl rfl (fun v9 m9 hO9=>?_);have ov9:=hO9.o1;have hLl:=IV n i;refine Qf B6 rfl ?_;refine AK 3 _ rfl JI rfl rfl (by assumption) rfl rfl (by(simp;done)) rfl rfl ?_;refine Gh (Qm rfl (Qm rfl (Qm rfl (Qx (oA rfl) rfl (Qx (oA rfl) rfl (Qx (A0 KW [.int .i64 0,.int .i64 0] [(0,_),(1,_)] [_,_] rfl AH rfl rfl Qt rfl) rfl (Aq [_,_] rfl BL AH rfl (by rfl) rfl rfl (by omega) rfl rfl rfl (fun g55=>AM 2 hL (RdL.one CK (x:=((n:Int)+(i:Int)+1,1)) Mh rfl) rfl BL AH rfl (by omega) rfl rfl rfl DT (by(try simp only[length_singleton]);omega) (by(try simp only[length_singleton]);omega) rfl rfl rfl (fun v8 m8 hO8=>?_)))))))));rw[<-TD]at hO8;have ov8:=hO8.o1;refine Qm rfl (Aj (Ai (Ab (Ad (Qm rfl (Qx (oA rfl) rfl (Qm rfl (Aj (Bp 0 rfl (Bp 0 rfl ?_))))))))));exact Ak (n-(i+1)) _ (by omega) ⟨i+1,v8,m8,v9,m9,O++[ce],rfl,rfl,AJ l1 (AJ l2 (AJ l3 l4)),rfl,by omega,hO8,hO9,by rw[map_append,hOc,range_succ,map_append,append_assoc];rfl,RdC.snoc' hOs hce⟩ Qs
   ·obtain rfl:i=n:=by omega
    refine Av (Aa (Aa (Af ?_)));exact AA _ ⟨vL,mL,vO,mO,O,rfl,l1,rfl,hL,hO,hOc,hOs⟩ Qs
  ·obtain⟨vL,mL,vO,mO,O,rfl,l1,rfl,hL,hO,hOc,hOs⟩:=hI;refine BE fun h2 l2 k2=>?_;have hRL:=hL.rdh (ms:=[]) k2;obtain⟨aL,cL,rfl,_⟩:=hRL.rd.ex;have ovL:=hRL.rd.one;have ovO:=hO.o1;have hOl:O.length=n+n:=by have:=congrArg List.length hOc;simpa using this
   have hOs:=fun a ha=>(hOs a ha).up l2
   let ce:Ce:=⟨⟨2*(n:Int)+1,2,C9 n n⟩,.slice aL (C9 n n).length cL⟩
   have hLl:=IV n n;refine As (Qf B6 rfl (Ql rfl Bs (Cell.blk 1 rfl rfl) (Qm rfl (Qx (oM rfl) rfl (Qx (oA rfl) rfl (Qm rfl (Qx (A0 LW [.int .i64 0,.int .i64 0,.slice none 0 0] [(0,_),(1,_),(2,_)] [_,_,_] rfl AI rfl rfl Qt rfl) rfl (Aq [_,_,_] rfl Bs AI rfl (by rfl) rfl rfl (by omega) rfl rfl rfl (fun g64=>?_)))))))));refine Bj 1 hO (RdL.one B3 (x:=ce) Mh rfl) rfl Bs AI rfl (by omega) rfl rfl rfl (Df (l:=[ce]) (h:=h2) fun y hy=>by rw[List.mem_singleton.1 hy];exact hRL) (by(try simp only[length_singleton]);omega) (by(try simp only[length_singleton]);omega) rfl rfl rfl (fun v9 m9 hO9=>?_);have ov9:=hO9.o1;refine Qf B6 rfl ?_;refine AK 2 _ rfl JI rfl rfl (by assumption) rfl rfl (by(simp;done)) rfl rfl ?_;refine An (Kq ?_);have hOs9:=RdC.snoc' hOs (c:=ce) hRL;have hO9c:(O++[ce]).map Ce.c=(range n).map Q8++(range n).map (Vl n)++[⟨2*(n:Int)+1,2,C9 n n⟩]:=by rw[map_append,hOc];rfl
   refine A3 (fun sl h' ms'=>∃(vO:Value) (mO:Hp) (O:List Ce),sl=[(2,.pointer (some ⟨g2,0,none⟩)),(3,.pointer (some ⟨g3,0,none⟩))]/\h2.le h'/\ms'=[mO,A7 g3 29 [vO],A7 g2 29 [.slice none 0 0]]/\OwnL cC 3 52 mO vO O/\O.map Ce.c=Fe n/\∀a∈O,RdL cD 2 h' [] a.v a.c.sd) ?_ (fun s h ms hI=>?_)
   ·refine Ac (Ad (Qm rfl (Qx (BV rfl rfl rfl (by omega) (by omega)) rfl (Qm rfl (An ?_)))));refine Au rfl (fun hev=>?_) (fun hev=>?_)
    ·have hev:n%2=0:=by omega
     refine BF (n:=13) (bs:=[true,false,true,true,true,false,true,false,false,false,false,true,false]) [true,false,true,true,true,false,true,false,false,false,false,true] CP (by kernel_rfl) (by kernel_rfl) rfl rfl (QF B6 rfl (Qq rfl (Qp rfl (oM rfl) (Qp rfl (oA rfl) (Qq rfl (QF B6 rfl ?_))))));unfold FN;simp only[cons_append,nil_append];refine Ba [1,5] (by kernel_rfl) rfl ?_;refine AD rfl ?_ ?_
     ·refine Ql rfl Bs (Cell.blk 1 rfl rfl) (Qw (Qo 5 rfl ?_));refine AE [] [] [] rfl BL AH rfl (by omega) (by kernel_rfl) (by repeat (first|exact trivial|refine⟨⟨by first|rfl|exact Rd.cells ‹_›|exact(RdL.rd ‹_›).cells,rfl,rfl⟩,?_⟩)) rfl rfl rfl rfl (fun g75=>?_);refine Qw (Qo 7 rfl (AM 0 (ER g75 CK) hRL.any rfl BL AH rfl (by omega) rfl rfl rfl DT (by(try simp only[length_singleton,length_append,length_nil,nil_append]);omega) (by(try simp only[length_singleton,length_append,length_nil,nil_append]);omega) rfl rfl rfl (fun v6 m6 hO6=>?_)));rw[nil_append]at hO6;refine AW fun h3 l3 k3=>?_;have hR6:=hO6.rdh (ms:=[]) k3;obtain⟨a6,c6,rfl,_⟩:=hR6.rd.ex;have ov6:=hR6.rd.one;have hOs9:=fun a ha=>(hOs9 a ha).up l3;refine Qa (EL 8 78 (by kernel_rfl) rfl (by assumption) rfl (A0 LW [.int .i64 0,.int .i64 0,.slice none 0 0] [(0,_),(1,_),(2,_)] [_,_,_] rfl AI rfl rfl Qt rfl) (Qo 9 rfl (Aq [_,_,_] rfl Bs AI rfl (by rfl) rfl rfl (by omega) rfl rfl rfl (fun g79=>Qa (Qo 10 rfl ?_)))));refine Bj 1 hO9 (RdL.one B3 (x:=(⟨⟨2*(n:Int)+2,2,C9 n n⟩,.slice a6 (C9 n n).length c6⟩:Ce)) Mh rfl) rfl Bs AI rfl (by omega) rfl rfl rfl (Df (l:=[⟨⟨2*(n:Int)+2,2,C9 n n⟩,.slice a6 (C9 n n).length c6⟩]) (h:=h3) fun y hy=>by rw[List.mem_singleton.1 hy];exact hR6) (by(try simp only[length_singleton,length_append,length_nil,nil_append]);omega) (by(try simp only[length_singleton,length_append,length_nil,nil_append]);omega) rfl rfl rfl (fun v7 m7 hO7=>?_);have ov7:=hO7.o1;refine Qa (Qo 12 rfl ?_);refine AK 2 _ rfl JI rfl rfl (by assumption) rfl rfl (by(simp;done)) rfl rfl ?_;refine Qa (Qe (AN ?_));exact AA _ ⟨v7,m7,_,rfl,l3,rfl,hO7,by rw[map_append,hO9c];unfold Fe;rw[if_pos hev];rfl,RdC.snoc' hOs9 (c:=⟨⟨2*(n:Int)+2,2,C9 n n⟩,.slice a6 (C9 n n).length c6⟩) hR6⟩ Qs
     refine AD rfl ?_ ?_
     ·refine AE [] [] [] rfl BL AH rfl (by omega) (by kernel_rfl) (by repeat (first|exact trivial|refine⟨⟨by first|rfl|exact Rd.cells ‹_›|exact(RdL.rd ‹_›).cells,rfl,rfl⟩,?_⟩)) rfl rfl rfl rfl (fun g75=>?_);refine Qw (Ba [1,7] (by kernel_rfl) rfl ?_);refine AD rfl ?_ ?_
      ·refine Ql rfl Bs (Cell.blk 2 rfl rfl) (Qw (Qo 7 rfl (AM 0 (ER g75 CK) hRL.any rfl BL AH rfl (by omega) rfl rfl rfl DT (by(try simp only[length_singleton,length_append,length_nil,nil_append]);omega) (by(try simp only[length_singleton,length_append,length_nil,nil_append]);omega) rfl rfl rfl (fun v6 m6 hO6=>?_))));rw[nil_append]at hO6;refine AW fun h3 l3 k3=>?_;have hR6:=hO6.rdh (ms:=[]) k3;obtain⟨a6,c6,rfl,_⟩:=hR6.rd.ex;have ov6:=hR6.rd.one;have hOs9:=fun a ha=>(hOs9 a ha).up l3;refine Qa (EL 8 78 (by kernel_rfl) rfl (by assumption) rfl (A0 LW [.int .i64 0,.int .i64 0,.slice none 0 0] [(0,_),(1,_),(2,_)] [_,_,_] rfl AI rfl rfl Qt rfl) (Qo 9 rfl (Aq [_,_,_] rfl Bs AI rfl (by rfl) rfl rfl (by omega) rfl rfl rfl (fun g79=>Qa (Qo 10 rfl ?_)))));refine Bj 1 hO9 (RdL.one B3 (x:=(⟨⟨2*(n:Int)+2,2,C9 n n⟩,.slice a6 (C9 n n).length c6⟩:Ce)) Mh rfl) rfl Bs AI rfl (by omega) rfl rfl rfl (Df (l:=[⟨⟨2*(n:Int)+2,2,C9 n n⟩,.slice a6 (C9 n n).length c6⟩]) (h:=h3) fun y hy=>by rw[List.mem_singleton.1 hy];exact hR6) (by(try simp only[length_singleton,length_append,length_nil,nil_append]);omega) (by(try simp only[length_singleton,length_append,length_nil,nil_append]);omega) rfl rfl rfl (fun v7 m7 hO7=>?_);have ov7:=hO7.o1;refine Qa (Qo 12 rfl ?_);refine AK 2 _ rfl JI rfl rfl (by assumption) rfl rfl (by(simp;done)) rfl rfl ?_;refine Qa (Qe (AN ?_));exact AA _ ⟨v7,m7,_,rfl,l3,rfl,hO7,by rw[map_append,hO9c];unfold Fe;rw[if_pos hev];rfl,RdC.snoc' hOs9 (c:=⟨⟨2*(n:Int)+2,2,C9 n n⟩,.slice a6 (C9 n n).length c6⟩) hR6⟩ Qs
      refine AD rfl ?_ ?_
      ·refine AM 0 (ER g75 CK) hRL.any rfl BL AH rfl (by omega) rfl rfl rfl DT (by(try simp only[length_singleton,length_append,length_nil,nil_append]);omega) (by(try simp only[length_singleton,length_append,length_nil,nil_append]);omega) rfl rfl rfl (fun v6 m6 hO6=>?_);rw[nil_append]at hO6;refine AW fun h3 l3 k3=>?_;have hR6:=hO6.rdh (ms:=[]) k3;obtain⟨a6,c6,rfl,_⟩:=hR6.rd.ex;have ov6:=hR6.rd.one;have hOs9:=fun a ha=>(hOs9 a ha).up l3;refine Qa (EL 8 78 (by kernel_rfl) rfl (by assumption) rfl (A0 LW [.int .i64 0,.int .i64 0,.slice none 0 0] [(0,_),(1,_),(2,_)] [_,_,_] rfl AI rfl rfl Qt rfl) (Ba [1,9] (by kernel_rfl) rfl ?_));refine AD rfl ?_ ?_
       ·refine Ql rfl Bs (Cell.blk 1 rfl rfl) (Qa (Qo 9 rfl (Aq [_,_,_] rfl Bs AI rfl (by rfl) rfl rfl (by omega) rfl rfl rfl (fun g79=>Qa (Qo 10 rfl ?_)))));refine Bj 1 hO9 (RdL.one B3 (x:=(⟨⟨2*(n:Int)+2,2,C9 n n⟩,.slice a6 (C9 n n).length c6⟩:Ce)) Mh rfl) rfl Bs AI rfl (by omega) rfl rfl rfl (Df (l:=[⟨⟨2*(n:Int)+2,2,C9 n n⟩,.slice a6 (C9 n n).length c6⟩]) (h:=h3) fun y hy=>by rw[List.mem_singleton.1 hy];exact hR6) (by(try simp only[length_singleton,length_append,length_nil,nil_append]);omega) (by(try simp only[length_singleton,length_append,length_nil,nil_append]);omega) rfl rfl rfl (fun v7 m7 hO7=>?_);have ov7:=hO7.o1;refine Qa (Qo 12 rfl ?_);refine AK 2 _ rfl JI rfl rfl (by assumption) rfl rfl (by(simp;done)) rfl rfl ?_;refine Qa (Qe (AN ?_));exact AA _ ⟨v7,m7,_,rfl,l3,rfl,hO7,by rw[map_append,hO9c];unfold Fe;rw[if_pos hev];rfl,RdC.snoc' hOs9 (c:=⟨⟨2*(n:Int)+2,2,C9 n n⟩,.slice a6 (C9 n n).length c6⟩) hR6⟩ Qs
       refine AD rfl ?_ ?_
       ·refine Aq [_,_,_] rfl Bs AI rfl (by rfl) rfl rfl (by omega) rfl rfl rfl (fun g79=>Qa (Qo 1 rfl (Ql rfl Bs (Cell.blk 2 rfl rfl) (Qa (Qo 10 rfl ?_)))));refine Bj 1 hO9 (RdL.one B3 (x:=(⟨⟨2*(n:Int)+2,2,C9 n n⟩,.slice a6 (C9 n n).length c6⟩:Ce)) Mh rfl) rfl Bs AI rfl (by omega) rfl rfl rfl (Df (l:=[⟨⟨2*(n:Int)+2,2,C9 n n⟩,.slice a6 (C9 n n).length c6⟩]) (h:=h3) fun y hy=>by rw[List.mem_singleton.1 hy];exact hR6) (by(try simp only[length_singleton,length_append,length_nil,nil_append]);omega) (by(try simp only[length_singleton,length_append,length_nil,nil_append]);omega) rfl rfl rfl (fun v7 m7 hO7=>?_);have ov7:=hO7.o1;refine Qa (Qo 12 rfl ?_);refine AK 2 _ rfl JI rfl rfl (by assumption) rfl rfl (by(simp;done)) rfl rfl ?_;refine Qa (Qe (AN ?_));exact AA _ ⟨v7,m7,_,rfl,l3,rfl,hO7,by rw[map_append,hO9c];unfold Fe;rw[if_pos hev];rfl,RdC.snoc' hOs9 (c:=⟨⟨2*(n:Int)+2,2,C9 n n⟩,.slice a6 (C9 n n).length c6⟩) hR6⟩ Qs
       exact Bb
      exact Bb
     exact Bb
    ·refine Ah ?_;exact AA _ ⟨v9,m9,_,rfl,CY,rfl,hO9,by rw[hO9c];unfold Fe;rw[if_neg (by omega),append_nil],hOs9⟩ Qs
   ·obtain⟨vO,mO,O,rfl,l3,rfl,hO,hOc,hOs⟩:=hI;refine BE fun h4 l4 k4=>(Aw fun h5 l5 hS3=>?_)
    have hR:RdC h5 vO O:=⟨hO.rdh (AJ k4 l5),fun a ha=>(hOs a ha).up (AJ l4 l5)⟩
    have ovO:=hR.q.rd.one;have hOl:O.length<=1000:=by have:=congrArg List.length hOc;rw[length_map]at this;rw[this];unfold Fe;simp;split<;>simp<;>omega
    have hK:CsOk O:=⟨by omega,fun a ha=>by
     have:a.c∈Fe n:=by rw[<-hOc];exact List.mem_map.2 ⟨a,ha,rfl⟩
     have:=VM n a.c this;omega⟩
    refine As (Qx (oG rfl Dt A6 (Seg.any hS3)) rfl (Qc call83 rfl (KP O vO h5 hK hR) (fun rC h10 ms10 l10 hF=>?_)));obtain⟨l10',mC,C,vC,rfl,rfl,hOC,hC,hsC⟩:=hF;have ovC:=hOC.o1;refine Sa 1 [_] A6 rfl (by simp[ovO,ovC]) ?_;refine An (Am ?_);exact BU (vs:=[_]) 1 rfl rfl Dt rfl A6 rfl rfl (⟨AJ l1 (AJ l2 (AJ l3 (AJ l4 (AJ l5 l10)))),mC,C,_,rfl,rfl,hOC,by rw[hC,hOc],hsC⟩)
theorem JN:∀(ll acc all:List (List Int)),acc.length<=4000->CS acc ll=some all->all.length<=4000
 | [],acc,all,h,e=>by have:acc=all:=Option.some.inj e;rw[<-this];exact h
 | l::ll,acc,all,h,e=>by
  rw[E5]at e;split at e
  ·cases e
  ·exact JN ll _ all (by omega) e
theorem KF(ll:List (List Int)):(D4 ll).length<=4000/\∀c∈D4 ll,(-1<=c.dim/\c.dim<=8)/\c.sd.length<=9:=by
 unfold D4;cases h:CS [] ll with
 | none=>exact⟨by simp,fun c hc=>nomatch hc⟩
 | some all=>
  have h9:=E9 ll [] all List.Pairwise.nil (fun t ht=>nomatch ht) h;refine⟨by simpa using JN ll [] all (by simp) h,fun c hc=>?_⟩;obtain⟨i,hi,rfl⟩:=List.mem_map.1 hc;have hil:=List.mem_range.1 hi
  have hl:(all.getD i []).length<=9:=by
   have:all.getD i []=all[i]:=by simp[List.getD,hil]
   rw[this];exact h9 _ (getElem_mem hil)
  refine⟨?_,?_⟩
  ·show -1<=((all.getD i []).length:Int)-1/\((all.getD i []).length:Int)-1<=8;omega
  ·show(if(all.getD i []).length<=1 then [] else CF _).length<=9;split
   ·simp
   ·rw[GQ,length_map,List.length_range];exact hl
theorem Zd{A:List Ce}{l:List Cl}(e:A.map Ce.c=l)(hn:l.length<=100000)(hl:∀c∈l,(-9223372036854775807<=c.dim/\c.dim<=9223372036854775807)/\c.sd.length<=100000):O5 A:=by subst e;exact⟨⟨by simpa using hn,fun a ha=>(hl _ (List.mem_map.2 ⟨a,ha,rfl⟩)).2⟩,fun a ha=>(hl _ (List.mem_map.2 ⟨a,ha,rfl⟩)).1⟩
theorem E7{A:List Ce}{ll:List (List Int)}(e:A.map Ce.c=D4 ll):O5 A:=
 Zd e (by have:=(KF ll).1;omega) fun c hc=>by have:=(KF ll).2 c hc;omega
def ZV(h:Hp)(r:Value)(ms:List Hp)(Q:List Cl->Prop):Prop:=∃m A v',ms=[m]/\r=.agg #[v']/\OwnL cC 3 52 m v' A/\Q (A.map Ce.c)/\∀a∈A,RdL cD 2 h [] a.v a.c.sd
theorem RdEs.one2{h:Hp}{el:TypeId}{g:Nat}{a b:Int}(k:(A7 g el [.int .i64 a,.int .i64 b]).le h):RdL cI 1 h [] (.slice (some ⟨g,0,none⟩) 2 2) [a,b]:=(OwnL.blk (g:=g) (el:=el) (F:=cI) (l:=[a,b]) 2 AV rfl (by decide)).rdh k
def Ry:List (List Int):=[[0,1],[1,2],[0,2]]
def R8(n:Nat)(l:List Cl):Prop:=l=[]\/∃out,l=ordF out/\(Du out).2=0/\out.length=n/\∀c∈out,c.id<=(n:Int)
theorem JE{P:List Ce}{m n:Nat}(H:P=[]\/∃out,P.map Ce.c=ordF out/\(Du out).2=0/\out.length=m/\∀c∈out,c.id<=(m:Int))(e:m=n):R8 n (P.map Ce.c):=by
 subst e;rcases H with rfl|H
 ·exact .inl rfl
 ·exact .inr H
theorem Vu(hp:Hp):FnT Tryz.prog 109 #[] hp [] (fun r h' ms'=>hp.le h'/\ZV h' r ms' (R8 ((D4 Ry).length*(D4 Ry).length))):=by
 refine Ao func109 ntmps109 rfl rfl (fun w0 hw0=>?_);simp only[AU];have hE:=RdEs.nil hp;refine As (CC [.slice none 0 0] rfl A6 rfl rfl (fun g0=>Bv (AE [(0,_),(1,_)] [.int .i64 0,.int .i64 0] [_,_] rfl AY Be rfl (by omega) (by kernel_rfl) Qt rfl rfl rfl rfl (fun g2=>AW fun h1 l1 k1=>?_))));have hE:=(hE.up l1).snoc (RdEs.one2 k1);refine AE [(0,_),(1,_)] [.int .i64 0,.int .i64 0] [_,_] rfl AY Be rfl (by omega) (by kernel_rfl) Qt rfl rfl rfl rfl (fun g3=>AW fun h2 l2 k2=>?_);have hE:=(hE.up l2).snoc (RdEs.one2 k2);refine AE [(0,_),(1,_)] [.int .i64 0,.int .i64 0] [_,_] rfl AY Be rfl (by omega) (by kernel_rfl) Qt rfl rfl rfl rfl (fun g4=>AW fun h3 l3 k3=>?_);have hE:=(hE.up l3).snoc (RdEs.one2 k3);refine AE [(0,_),(1,_),(2,_)] [.slice none 0 0,.slice none 0 0,.slice none 0 0] [_,_,_] rfl Ck Cw rfl (by omega) (by kernel_rfl) Qt rfl rfl rfl rfl (fun g5=>AW fun h4 l4 k4=>?_);have hE:=hE.up l4;have hV:=(OwnL.blk (g:=g5) (el:=22) (F:=cW) (l:=[_,_,_]) 3 DV rfl (by decide)).rdh (ms:=[]) k4;refine Qc call104 rfl (Co Ry _ _ h4 (by decide) (by decide) hV hE) (fun rC h5 ms5 l5 hF=>?_);obtain⟨l5',m,A,vA,rfl,rfl,hO,hA,hs⟩:=hF;refine A4 hO fun h6 l6 hR=>?_;have hRd:RdC h6 vA A:=⟨hR,fun a ha=>(hs a ha).up l6⟩
 have ovA:=hR.rd.one;refine CC [.slice none 0 0] rfl A6 rfl rfl (fun g1=>?_);refine Sa 0 [_] A6 rfl (by simp[ovA]) ?_;refine An (Aw fun h7 l7 hS1=>?_);have hRd:=hRd.up l7;refine As (Qx (oG rfl Dt A6 (Seg.any hS1)) rfl (Qx (oG rfl Dt A6 (Seg.any hS1)) rfl (Qc call107 rfl (Fg A A vA vA h7 (E7 hA) (E7 hA) hRd hRd) (fun rP h8 ms8 l8 hF=>?_))));obtain⟨l8',mP,P,vP,rfl,rfl,hOP,hsP,hP⟩:=hF;have ovP:=hOP.o1;refine Sa 1 [_] A6 rfl (by simp[ovP]) ?_;refine An (Am ?_);have hAl:A.length=(D4 Ry).length:=by rw[<-hA,length_map]
 exact BU (vs:=[_]) 1 rfl rfl Dt rfl A6 rfl rfl (⟨AJ l1 (AJ l2 (AJ l3 (AJ l4 (AJ l5 (AJ l6 (AJ l7 l8)))))),mP,P,_,rfl,rfl,hOP,JE hP (by rw[hAl]),hsP⟩)
end Go.Proofs.Q
namespace Go.Proofs.Q
open Go.Eng Go.RowKit
variable {o l:List Cl} {x y:Cl} {α β:Type}
def J7(l:List Cl)(c:Int):Option Cl:=l.find? fun y=>decide (y.id=c)
def Gn(l:List Cl)(c:Int):Cl:=(J7 l c).getD default
theorem EF(hn:(l.map Cl.id).Nodup)(hy:y∈l):J7 l y.id=some y:=by
 unfold J7
 induction l with
 | nil=>cases hy
 | cons a l ih=>
  rw[map_cons,List.nodup_cons]at hn;rw[List.find?_cons];rcases List.mem_cons.1 hy with rfl|h
  ·simp
  ·have:¬a.id=y.id:=fun e=>hn.1 (List.mem_map.2 ⟨y,h,e.symm⟩);simp only[this,decide_false];exact ih hn.2 h
theorem C3(hn:(l.map Cl.id).Nodup)(hy:y∈l):Gn l y.id=y:=by unfold Gn;rw[EF hn hy];rfl
def Lk(L:Int->List (Int×Int))(s:List (Int×Int)):F4:=s.flatMap fun a=>(L a.1).map fun r=>(a.1,r.1,a.2*r.2)
def FZ(l:List Cl)(x:Cl):F4:=Lk (fun c=>(Gn l c).sd) x.sd
structure Rgt(l:List Cl):Prop where
 n:l.length<=4000
 nd:(l.map Cl.id).Nodup
 pos:∀x∈l,1<=x.id
 dim:∀x∈l,0<=x.dim/\x.dim<=8
 num:∀x∈l,¬BP x
 sds:∀x∈l,(x.sd.map Prod.fst).Nodup
 sid:∀x∈l,∀s∈x.sd,∃y∈l,y.id=s.1/\y.dim=x.dim-1
 sgn:∀x∈l,∀s∈x.sd,s.2=1\/s.2=-1
 one:∀x∈l,x.dim=1->(x.sd.map Prod.snd).sum=0
 tab:∀x∈l,2<=x.dim->GoodT (FZ l x) x.sd
theorem Rgt.nil:Rgt []:=⟨by simp,by simp,nofun,nofun,nofun,nofun,nofun,nofun,nofun,nofun⟩
theorem IF{l l':List Int}(h:l.Perm l'):l.sum=l'.sum:=by
 induction h with
 | nil=>rfl
 | cons x _ ih=>simp only[sum_cons,ih]
 | swap x y l=>simp only[sum_cons];omega
 | trans _ _ h1 h2=>exact h1.trans h2
theorem GoodT.perm{T T':F4}{s s':List (Int×Int)}(h:T.Perm T')(hs:s.Perm s')(G:GoodT T s):GoodT T' s' where
 sum:=fun e he=>by exact(IF (h.map _).symm).trans (G.sum e (h.mem_iff.2 he))
 two:=fun e he=>by exact(IF (h.map _).symm).trans (G.two e (h.mem_iff.2 he))
 con:=fun a ha b hb=>(G.con a (hs.mem_iff.2 ha) b (hs.mem_iff.2 hb)).mono fun e he=>h.mem_iff.1 he
theorem HV{f g:α->List β}:∀{l:List α},(∀a∈l,(f a).Perm (g a))->(l.flatMap f).Perm (l.flatMap g)
 | [],_=>List.Perm.refl _
 | a::l,h=>by rw[flatMap_cons,flatMap_cons];exact(h a Mh).append (HV fun b hb=>h b (List.mem_cons_of_mem _ hb))
theorem Ep{f g:α->List β}:∀{l:List α},(∀a∈l,f a=g a)->l.flatMap f=l.flatMap g
 | [],_=>rfl
 | a::l,h=>by rw[flatMap_cons,flatMap_cons,h a Mh,Ep fun b hb=>h b (List.mem_cons_of_mem _ hb)]
theorem IW{f g:α->List β}{l l':List α}(h:l.Perm l')(hf:∀a∈l,(f a).Perm (g a)):(l.flatMap f).Perm (l'.flatMap g):=(HV hf).trans (h.flatMap_right g)
theorem SL(x:Int×Int)(l:List (Int×Int)):(If x l).Perm (x::l):=by unfold If;refine List.perm_middle.trans ?_;rw[List.takeWhile_append_dropWhile]
theorem Cr(l:List (Int×Int)):(CF l).Perm l:=by
 have go:∀(l acc:List (Int×Int)),(l.foldl (fun acc x=>If x acc) acc).Perm (acc++l):=fun l=>by
  induction l with
  | nil=>intro acc;rw[append_nil];exact List.Perm.refl _
  | cons x l ih=>
   intro acc;rw[List.foldl_cons];refine(ih _).trans (((SL x acc).append_right l).trans ?_);exact List.perm_middle.symm
 exact go l []
structure SimC(l l':List Cl):Prop where
 len:l'.length=l.length
 ids:(l'.map Cl.id).Perm (l.map Cl.id)
 mem:∀x'∈l',∃x∈l,x'.id=x.id/\x'.dim=x.dim/\x'.sd.Perm x.sd
theorem SimC.to{l':List Cl}(S:SimC l l')(hn:(l.map Cl.id).Nodup)(hx:x∈l):∃x'∈l',x'.id=x.id/\x'.dim=x.dim/\x'.sd.Perm x.sd:=by
 obtain⟨x',h1,h2⟩:=List.mem_map.1 (S.ids.mem_iff.2 (List.mem_map.2 ⟨x,hx,rfl⟩));obtain⟨y,h3,h4,h5,h6⟩:=S.mem x' h1
 have:y=x:=by have a:=EF hn h3;have b:=EF hn hx;rw[<-h4,h2,b]at a;exact(Option.some.inj a).symm
 subst this;exact⟨x',h1,h4,h5,h6⟩
theorem Rgt.sim{l':List Cl}(R:Rgt l)(S:SimC l l'):Rgt l':=by
 have hn':(l'.map Cl.id).Nodup:=S.ids.nodup_iff.2 R.nd
 have hnum:∀{x x':Cl},x'.dim=x.dim->x'.sd.Perm x.sd->¬BP x->¬BP x':=fun {x x'} h1 h2 h h3=>by unfold BP at *;rw[h1,h2.length_eq]at h3;exact h h3
 refine⟨by rw[S.len];exact R.n,hn',fun x' hx'=>?_,fun x' hx'=>?_,fun x' hx'=>?_,fun x' hx'=>?_,fun x' hx' s hs=>?_,fun x' hx' s hs=>?_,fun x' hx' hd=>?_,fun x' hx' hd=>?_⟩<;>obtain⟨x,hx,e1,e2,e3⟩:=S.mem x' hx'
 ·rw[e1];exact R.pos x hx
 ·rw[e2];exact R.dim x hx
 ·exact hnum e2 e3 (R.num x hx)
 ·exact(e3.map _).nodup_iff.2 (R.sds x hx)
 ·obtain⟨y,hy,h1,h2⟩:=R.sid x hx s (e3.mem_iff.1 hs);obtain⟨y',hy',h3,h4,_⟩:=S.to R.nd hy;exact⟨y',hy',by rw[h3,h1],by rw[h4,h2,e2]⟩
 ·exact R.sgn x hx s (e3.mem_iff.1 hs)
 ·rw[IF (e3.map _)];exact R.one x hx (by rw[<-e2];exact hd)
 ·refine(R.tab x hx (by rw[<-e2];exact hd)).perm ?_ e3.symm;unfold FZ Lk;refine IW e3.symm fun s hs=>List.Perm.map _ ?_;obtain⟨y,hy,h1,h2⟩:=R.sid x hx s hs;obtain⟨y',hy',h3,h4,h5⟩:=S.to R.nd hy;show(Gn l s.1).sd.Perm (Gn l' s.1).sd;rw[<-h1,C3 R.nd hy,<-h3,C3 hn' hy'];exact h5.symm
theorem MF(l:List Cl):SimC l (ordF l):=by have hp:=DE l.length l (Nat.le_refl _);refine⟨by rw[hp.length_eq,length_map],(hp.map Cl.id).trans (by rw[List.map_map];exact List.Perm.refl _),fun x' hx'=>?_⟩;obtain⟨x,hx,rfl⟩:=Ea hx';exact⟨x,hx,rfl,rfl,Cr _⟩
theorem QS(h:o.Pairwise fun a b=>a.id<b.id):(o.map Cl.id).Nodup:=List.pairwise_map.2 (h.imp fun h e=>by omega)
theorem RL(hi:o.Pairwise fun a b=>a.id<b.id)(hy:y∈o):0<=Jm o y.id/\o.getD (Jm o y.id).toNat default=y:=by
 obtain⟨k,hk,rfl⟩:=getElem_of_mem hy;have hc:K2 o o[k].id=k:=N8 (by omega) (fun j hj hjk=>List.pairwise_iff_getElem.1 hi j k hj hk hjk) (fun _=>by omega)
 have e:Jm o o[k].id=(k:Int):=by unfold Jm;rw[dif_pos (by rw[hc];exact hk)];simp only[hc,if_pos]
 rw[e];refine⟨by omega,?_⟩;rw[Int.toNat_natCast];simp[List.getD,hk]
theorem YE{c:Int}(h:0<=Jm o c):∃y∈o,y.id=c/\o.getD (Jm o c).toNat default=y:=by
 unfold Jm at *;split at h
 ·rename_i h1;rw[dif_pos h1];split at h
  ·rename_i h2;rw[if_pos h2,Int.toNat_natCast];exact⟨_,getElem_mem h1,h2,by simp[List.getD,h1]⟩
  ·exact absurd h (by decide)
 ·exact absurd h (by decide)
theorem RK{l:List (Int×Int)}(h:l.length=2):(l.map Prod.snd).sum=(l.getD 0 (0,0)).2+(l.getD 1 (0,0)).2:=by
 match l,h with
 | [a,b],_=>simp
theorem I9{x:Int×Int}:∀{l:List (Int×Int)},(l.Pairwise fun a b=>a.1<=b.1)->∀y∈l.dropWhile (fun y=>decide (y.1<=x.1)),x.1<y.1
 | [],_,y,hy=>by cases hy
 | a::l,h,y,hy=>by
  rw[List.dropWhile_cons]at hy;split at hy
  ·exact I9 (List.pairwise_cons.1 h).2 y hy
  ·rename_i h1;have h1:¬a.1<=x.1:=by simpa using h1
   rcases List.mem_cons.1 hy with rfl|h2
   ·omega
   ·have:=(List.pairwise_cons.1 h).1 y h2;omega
theorem V4{x:Int×Int}{l:List (Int×Int)}(h:l.Pairwise fun a b=>a.1<=b.1):(If x l).Pairwise fun a b=>a.1<=b.1:=by
 unfold If
 have h1:∀y∈l.takeWhile (fun y=>decide (y.1<=x.1)),y.1<=x.1:=fun y hy=>by have:=List.all_takeWhile (p:=fun y:Int×Int=>decide (y.1<=x.1)) (l:=l);have:=List.all_eq_true.1 this y hy;simpa using this
 have h2:=I9 (x:=x) h;refine List.pairwise_append.2 ⟨h.sublist (List.takeWhile_sublist _),List.pairwise_cons.2 ⟨fun y hy=>by have:=h2 y hy;omega,h.sublist (List.dropWhile_sublist _)⟩,fun a ha b hb=>?_⟩;have h3:=h1 a ha;rcases List.mem_cons.1 hb with rfl|hb
 ·exact h3
 ·have:=h2 b hb;omega
theorem Gs(l:List (Int×Int)):(CF l).Pairwise fun a b=>a.1<=b.1:=by
 have go:∀(l acc:List (Int×Int)),(acc.Pairwise fun a b=>a.1<=b.1)->(l.foldl (fun acc x=>If x acc) acc).Pairwise fun a b=>a.1<=b.1:=fun l=>by
  induction l with
  | nil=>intro acc h;exact h
  | cons x l ih=>intro acc h;rw[List.foldl_cons];exact ih _ (V4 h)
 exact go l [] List.Pairwise.nil
theorem Su(hi:o.Pairwise fun a b=>a.id<b.id)(hs:∀s∈x.sd,∃y∈o,y.id=s.1):L5 o x x.sd.length=FZ o x:=by
 have hx:x.sd=(range x.sd.length).map (Bl x):=List.ext_getElem (by simp) fun j h1 h2=>by simp[Bh h1]
 unfold FZ Lk
 conv=>rhs;rw[hx]
 unfold L5;rw[List.flatMap_map];refine Ep fun j hj=>?_;have hj:=List.mem_range.1 hj;obtain⟨y,hy,e⟩:=hs (Bl x j) (by rw[Bh hj];exact getElem_mem hj);have h1:Fc o x j=y:=by unfold Fc;rw[<-e];exact(RL hi hy).2
 have h2:Gn o (Bl x j).1=y:=by rw[<-e];exact C3 (QS hi) hy
 show _=List.map (fun r=>((Bl x j).1,r.1,(Bl x j).2*r.2)) (Gn o (Bl x j).1).sd;rw[h1,h2]
theorem Rp(hi:o.Pairwise fun a b=>a.id<b.id)(hc:∃y:Cl,x=y.can):(∀i,i<x.sd.length->¬Cy o x i)<->(∀s∈x.sd,∃y∈o,y.id=s.1/\y.dim=x.dim-1)/\(x.sd.map Prod.fst).Nodup:=by
 have hs:x.sd.Pairwise fun a b=>a.1<=b.1:=by obtain⟨y,rfl⟩:=hc;exact Gs _
 constructor
 ·intro h;refine⟨fun s hs=>?_,?_⟩
  ·obtain⟨i,hi',rfl⟩:=getElem_of_mem hs;have h1:=h i hi';unfold Cy at h1;rw[Bh hi']at h1;have h2:0<=Jm o x.sd[i].1:=Int.not_lt.1 fun q=>h1 (.inl q);obtain⟨y,hy,e1,e2⟩:=YE h2;rw[e2]at h1;exact⟨y,hy,e1,Classical.byContradiction fun q=>h1 (.inr (.inl q))⟩
  ·refine List.pairwise_map.2 (List.pairwise_iff_getElem.2 fun i j hi' hj hij e=>?_);have h1:=h (i+1) (by omega);unfold Cy at h1;rw[Bh (by omega),Nat.add_sub_cancel,Bh hi']at h1;refine h1 (.inr (.inr ⟨by omega,?_⟩));have a1:=List.pairwise_iff_getElem.1 hs i (i+1) hi' (by omega) (by omega);rcases (by omega:i+1=j\/i+1<j) with rfl|q
   ·omega
   ·have a2:=List.pairwise_iff_getElem.1 hs (i+1) j (by omega) hj q;omega
 ·rintro⟨h1,h2⟩ i hi' h3;unfold Cy at h3;rw[Bh hi']at h3;obtain⟨y,hy,e1,e2⟩:=h1 _ (getElem_mem hi');obtain⟨a1,a2⟩:=RL hi hy;rw[e1]at a1 a2;rcases h3 with h3|h3|⟨h3,h4⟩
  ·omega
  ·rw[a2]at h3;exact h3 e2
  ·rw[Bh (show i-1<x.sd.length by omega)]at h4;have:=List.pairwise_iff_getElem.1 (List.pairwise_map.1 h2) (i-1) i (by omega) hi' (by omega);exact this h4.symm
theorem IJ(h:(x.sd.map Prod.fst).Nodup):∀j m,j<m->m<x.sd.length->(Bl x j).1≠(Bl x m).1:=fun j m hjm hm=>by rw[Bh (by omega),Bh hm];exact List.pairwise_iff_getElem.1 (List.pairwise_map.1 h) j m (by omega) hm hjm
theorem RgtF.rgt(R:RgtF o):Rgt o:=by
 have hf:=fun x hx=>ES (R.fst x hx)
 have hnum:∀x∈o,¬BP x:=fun x hx q=>by have:=R.fst x hx;unfold Cd at this;rw[if_neg (by have:=(hf x hx).1;omega),if_pos q]at this;exact absurd this (by decide)
 have hb:=fun x hx=>(Rp R.inc (R.can x hx)).1 (hf x hx).2.2.1;have hsg:∀x∈o,∀s∈x.sd,s.2=1\/s.2=-1:=fun x hx=>(R.bds hx).2.2;refine⟨R.n,QS R.inc,R.pos,fun x hx=>(hf x hx).1,hnum,fun x hx=>(hb x hx).2,fun x hx=>(hb x hx).1,hsg,fun x hx hd=>?_,fun x hx hd=>?_⟩
 ·have hl:x.sd.length=2:=Classical.byContradiction fun q=>hnum x hx (.inr (.inl ⟨hd,q⟩));rw[RK hl];have h1:=hsg x hx _ (getElem_mem (show 0<x.sd.length by omega));have h2:=hsg x hx _ (getElem_mem (show 1<x.sd.length by omega));have h3:=R.fst x hx;unfold Cd at h3;rw[if_neg (by have:=(hf x hx).1;omega),if_neg (hnum x hx),if_neg (fun q=>q (hf x hx).2.2.1),if_neg (fun q=>q (hf x hx).2.2.2)]at h3;rw[<-Bh]at h1 h2;have h4:¬(Bl x 0).2=(Bl x 1).2:=fun q=>by rw[if_pos ⟨hd,q⟩]at h3;exact absurd h3 (by decide)
  show(Bl x 0).2+(Bl x 1).2=0;omega
 ·have h1:=(I5 (IJ (hb x hx).2)).1 (R.snd x hx hd)
  rwa [Su R.inc fun s hs=>by obtain⟨y,hy,e,_⟩:=(hb x hx).1 s hs;exact⟨y,hy,e⟩]at h1
theorem Rgt.ordF(R:Rgt l):RgtF (ordF l):=by
 have R':=R.sim (MF l);have hle:=C0 l.length l (Nat.le_refl _);have hinc:(Go.Proofs.Q.ordF l).Pairwise fun a b=>a.id<b.id:=(hle.and (List.pairwise_map.1 R'.nd)).imp fun h=>by omega
 have hcan:∀x∈Go.Proofs.Q.ordF l,∃y:Cl,x=y.can:=fun x hx=>by obtain⟨a,_,e⟩:=Ea hx;exact⟨a,e⟩
 refine⟨R'.n,hinc,R'.pos,hcan,fun x hx=>?_,fun x hx hd=>?_⟩
 ·have hb:=(Rp hinc (hcan x hx)).2 ⟨R'.sid x hx,R'.sds x hx⟩
  have hsg:∀i,i<x.sd.length->¬BK x i:=fun i hi q=>by unfold BK at q;rw[Bh hi]at q;have:=R'.sgn x hx _ (getElem_mem hi);omega
  unfold Cd;rw[if_neg (by have:=R'.dim x hx;omega),if_neg (R'.num x hx),if_neg (fun q=>q hb),if_neg (fun q=>q hsg)];by_cases hd:x.dim=1
  ·have hl:x.sd.length=2:=Classical.byContradiction fun q=>R'.num x hx (.inr (.inl ⟨hd,q⟩));have h1:=R'.one x hx hd;rw[RK hl]at h1;have h2:=R'.sgn x hx _ (getElem_mem (show 0<x.sd.length by omega));rw[<-Bh]at h2;have h3:(Bl x 0).2+(Bl x 1).2=0:=h1;rw[if_neg (fun q=>by have:=q.2;omega)]
  ·rw[if_neg (fun q=>hd q.1)]
 ·refine(I5 (IJ (R'.sds x hx))).2 ?_;rw[Su hinc fun s hs=>by obtain⟨y,hy,e,_⟩:=R'.sid x hx s hs;exact⟨y,hy,e⟩];exact R'.tab x hx hd
end Go.Proofs.Q
