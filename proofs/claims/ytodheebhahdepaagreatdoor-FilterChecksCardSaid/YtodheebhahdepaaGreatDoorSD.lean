/- A part of the proof. -/
import Derived.Test.YtodheebhahdepaaGreatDoorSC
set_option linter.unusedSimpArgs false
set_option linter.unusedVariables false
set_option linter.unusedSectionVars false
set_option maxRecDepth 100000
set_option maxHeartbeats 4000000

open List (length_map length_singleton getElem_mem range length_append nil_append length_take mem_cons mem_singleton cons_append map_append mem_append mem_cons_of_mem length_nil length_drop append_nil map_map map_cons length_set getElem_of_mem take_length getElem_map flatMap_cons length_cons mem_append_left mem_append_right range_succ foldl_append drop_zero getElem_append_right sum_cons mem_of_mem_take take_of_length_le)
namespace Go.Proofs.Q
open Go.Proofs.Tryz
open Go.Eng Go.RowKit
structure OwS(S:S2)(v5 v6 v7 v8 v9:Value)(m5 m6 m7 m8 m9:Hp):Prop where
 i:OwnL cI 1 3 m5 v5 S.ids
 s:OwnL cI 1 3 m6 v6 S.su
 m:OwnL cI 1 3 m7 v7 S.ma
 p:OwnL cI 1 3 m8 v8 S.pa
 f:OwnL cI 1 3 m9 v9 S.fi
structure Q8(l:List Cl)(x:Cl):Prop where
 n:x.sd.length<=64
 sg:∀i,i<x.sd.length->(Bp x i).2=1\/(Bp x i).2=-1
 at_:∀i,i<x.sd.length->0<=I5 l (Bp x i).1
 yn:∀i,i<x.sd.length->(Fm l x i).sd.length<=64
 ys:∀i,i<x.sd.length->∀r∈(Fm l x i).sd,r.2=1\/r.2=-1
theorem Se{l:List Cl}{x:Cl}(K:Q8 l x):∀i,i<=x.sd.length->(Ha l x i).Ok (64*i) x.sd.length
 | 0,_=>⟨rfl,rfl,rfl,by simp[Ha],Nat.le_refl _,fun y hy=>(by cases hy),fun y hy=>(by cases hy),fun y hy=>(by cases hy)⟩
 | i+1,hi=>by have h1:=S2.Ok.sides (i:=i) (by omega) (K.sg i (by omega)) (Fm l x i).sd _ _ ((Se K i (by omega)).start (i:=i)) (K.ys i (by omega));have h2:=K.yn i (by omega);show(S2.sides _ _ _ _).Ok _ _;exact⟨h1.s,h1.m,h1.f,h1.p,by have:=h1.t;omega,fun y hy=>by have:=h1.sb y hy;omega,fun y hy=>by have:=h1.mb y hy;omega,h1.fb⟩
theorem Abc{l:List Ce}{y:Int}{k:Nat}(e:I5 (l.map Ce.c) y=k)(v:Value)(h:Hp)(hn:l.length<=100000)(hst:(l.map Ce.c).Pairwise fun a b=>a.id<=b.id)(hR:RdL cC 3 h [] v l)(ms:List Hp):FnV Tryz.prog 117 #[v,.int .i64 y] h ms (.int .i64 k):=e ▸ WG l v y h hn hst hR ms
theorem SU(l:List Ce)(x:Ce)(v:Value)(h:Hp)(hn:l.length<=100000)(K:Q8 (l.map Ce.c) x.c)(hst:(l.map Ce.c).Pairwise fun a b=>a.id<=b.id)(hR:RdC h v l)(hX:RdL cD 2 h [] x.v x.c.sd):FnT Tryz.prog 140 #[v,.agg #[.int .i64 x.c.id,.int .i64 x.c.dim,x.v]] h [] (fun r _ _=>r=.int .i64 (DL (l.map Ce.c) x.c)):=by
 have o1:=hR.q.rd.one;have o2:=hX.rd.one;have hxn:=K.n;refine Ap func140 ntmps140 rfl rfl (fun w0 hw0=>?_);simp only[AX];refine As (AV [_,_,_] rfl rfl (by rfl) rfl rfl rfl (fun g3=>Qm rfl (Am (AC fun h1 l1 hS=>?_))));have hR:=hR.up l1;have hX:=hX.up l1;have hA:=Seg.all hS;refine As (Qm rfl (BK (Qm rfl (BK (Qm rfl (BK (Qf BB rfl (Ql rfl BZ (hA _ _ rfl _) (Qx (Ar hX.rd.any rfl BZ rfl) rfl (CD (n:=_) rfl AU A6 rfl rfl rfl (by rfl) (by rfl) (by omega) (by omega) rfl rfl rfl (fun g23=>Qm rfl (BK ?_))))))))))));refine Ax [] [] [] rfl AU A6 rfl (by omega) (by kernel_rfl) (by repeat (first|exact trivial|refine⟨⟨by first|rfl|exact(hX.rd.any).cells|exact(hR.q.rd.any).cells|exact Rd.cells ‹_›|exact(RdL.rd ‹_›).cells,rfl,rfl⟩,?_⟩)) rfl rfl rfl rfl (fun g24=>?_);refine Qm rfl (Am (Ac (As (Qm rfl (Am (Ag (BJ (BJ (BJ ?_)))))))))
 refine Ay (fun q s hh ms'=>∃(i:Nat) (v5 v6 v7 v8 v9:Value) (m5 m6 m7 m8 m9:Hp),q=x.c.sd.length-i/\s=[(0,v),(3,.pointer (some ⟨g3,0,none⟩)),(5,v5),(6,v6),(7,v7),(8,v8),(9,v9),(10,.int .i64 i)]/\h1.le hh/\ms'=[m5,m6,m7,m9,m8]/\i<=x.c.sd.length/\OwS (Ha (l.map Ce.c) x.c i) v5 v6 v7 v8 v9 m5 m6 m7 m8 m9)
  (x.c.sd.length-0) _ ⟨0,_,_,_,_,_,Hp.emp,Hp.emp,Hp.emp,_,_,rfl,rfl,C9,rfl,by omega,⟨OwnL.nil Bg,OwnL.nil Bg,OwnL.nil Bg,OwnL.rep _ 0 (by omega),EC g24 Bg⟩⟩ Qs ?_
 rintro q s hh ms' ⟨i,v5,v6,v7,v8,v9,m5,m6,m7,m8,m9,rfl,rfl,lh,rfl,hi,W⟩;have hR:=hR.up lh;have hX:=hX.up lh;have hA:=Seg.all (hS.le lh);have KS:=Se K i hi;refine Ac (As (Qm rfl (Qf BB rfl (Ql rfl BZ (hA _ _ rfl _) (Qx (Ar hX.rd.any rfl BZ rfl) rfl (Qm rfl (Am ?_)))))));refine Aq rfl (fun hlt=>?_) (fun hlt=>?_)
 ·have hil:i<x.c.sd.length:=CC hlt;obtain⟨k,hk⟩:∃k:Nat,I5 (l.map Ce.c) (Bp x.c i).1=k:=⟨(I5 (l.map Ce.c) (Bp x.c i).1).toNat,by have:=K.at_ i hil;omega⟩
  have hkl:k<l.length:=by have:=HT (l.map Ce.c) (Bp x.c i).1;rw[hk,length_map]at this;omega
  have hy:Fm (l.map Ce.c) x.c i=l[k].c:=by unfold Fm;rw[hk];simp[List.getD,hkl]
  have hsi:=Bj hil;have hci:∀ms,Cell hh ms ((AF x.v).add (i*2)) (.int .i64 x.c.sd[i].1):=fun ms=>(hX.any (ms:=ms)).cell0 hil rfl;have hgk:∀ms,Seg hh ms ((AF v).add (k*3)) (cC l[k]):=fun ms=>(hR.q.any (ms:=ms)).seg hkl;have hY:=hR.s _ (getElem_mem hkl);have oy:=hY.rd.one;have o5:v5.oneCell'=true:=(W.i.rd (h:=hh) (ms:=[m5]) Mh).rd.one;have o6:v6.oneCell'=true:=(W.s.rd (h:=hh) (ms:=[m6]) Mh).rd.one;have o7:v7.oneCell'=true:=(W.m.rd (h:=hh) (ms:=[m7]) Mh).rd.one;have o8:v8.oneCell'=true:=(W.p.rd (h:=hh) (ms:=[m8]) Mh).rd.one;have o9:v9.oneCell'=true:=(W.f.rd (h:=hh) (ms:=[m9]) Mh).rd.one;have hpl:=KS.p;have hk':I5 (l.map Ce.c) x.c.sd[i].1=k:=by rw[<-hsi];exact hk
  refine Ah (Ab (Ac (Ag (As (Qm rfl (Qm rfl (Qm rfl (Qx (BI (i) (W.p.rd (h:=hh) (ms:=[m8]) Mh).rd rfl AU A6 rfl rfl (by omega) (by omega)) rfl (De 4 i W.p rfl A6 rfl rfl rfl (by omega) rfl rfl (fun m8 hO8=>?_))))))))));have W1:OwS ((Ha (l.map Ce.c) x.c i).start i) v5 v6 v7 v8 v9 m5 m6 m7 m8 m9:=⟨W.i,W.s,W.m,hO8,W.f⟩
  have K1:=KS.start (i:=i);refine BK (Qm rfl (Qm rfl (Qf BB rfl (Ql rfl BZ (hA _ _ rfl _) (Qm rfl (Qx (BF (i) hX.rd.any rfl BZ AM rfl rfl) rfl (Qf B6 rfl (Ql rfl U3 (hci _) (Qx (AL rfl call117 rfl (Abc hk' v hh hn hst hR.q _)) rfl (Qx (BF (k) hR.q.rd.any rfl Bh AI rfl rfl) rfl (Qx (oG rfl Ef AI (hgk _)) rfl (Cz [.int .i64 0,.int .i64 0,.slice none 0 0] rfl AI rfl rfl (fun g11=>?_)))))))))))));refine Sa 0 [_,_,_] AI rfl (by simp[o1,o2,oy,o5,o6,o7,o8,o9]) ?_;refine Am (AC fun h2 l2 hS11=>?_);have hX:=hX.up l2;have hY:=hY.up l2;have hA:=Seg.all ((hS.le lh).le l2);have hA11:=Seg.all hS11;have hyn:l[k].c.sd.length<=64:=by have:=K.yn i hil;rwa [hy]at this
  have hys:∀r∈l[k].c.sd,r.2=1\/r.2=-1:=by have:=K.ys i hil;rwa [hy]at this
  have hsg:=K.sg i hil;have hstep:Ha (l.map Ce.c) x.c (i+1)=((Ha (l.map Ce.c) x.c i).start i).sides i (Bp x.c i).2 l[k].c.sd:=by rw[<-hy];rfl
  obtain⟨S0,hS0⟩:∃S0,(Ha (l.map Ce.c) x.c i).start i=S0:=⟨_,rfl⟩
  rw[hS0]at W1 K1 hstep;refine As (Qm rfl (Am (Ag ?_)))
  refine Ay (fun q s hh ms'=>∃(j:Nat) (v5 v6 v7 v8 v9:Value) (m5 m6 m7 m8 m9:Hp),q=l[k].c.sd.length-j/\s=[(0,v),(3,.pointer (some ⟨g3,0,none⟩)),(5,v5),(6,v6),(7,v7),(8,v8),(9,v9),(10,.int .i64 i),(11,.pointer (some ⟨g11,0,none⟩)),(12,.int .i64 j)]/\h2=hh/\ms'=[m5,m6,m7,m9,m8]/\j<=l[k].c.sd.length/\OwS (S0.sides i (Bp x.c i).2 (l[k].c.sd.take j)) v5 v6 v7 v8 v9 m5 m6 m7 m8 m9)
   (l[k].c.sd.length-0) _ ⟨0,_,_,_,_,_,_,_,_,_,_,rfl,rfl,rfl,rfl,by omega,W1⟩ Qs ?_
  rintro q s hh' ms' ⟨j,v5,v6,v7,v8,v9,m5,m6,m7,m8,m9,rfl,rfl,rfl,rfl,hj,W⟩;have hkj:=S2.Ok.sides (i:=i) hil hsg (l[k].c.sd.take j) S0 _ K1 (fun r hr=>hys r (mem_of_mem_take hr));rw[length_take]at hkj;refine Ac (As (Qm rfl (Qf BB rfl (Ql rfl BZ (hA11 _ _ rfl _) (Qx (Ar hY.rd.any rfl BZ rfl) rfl (Qm rfl (Am ?_)))))));refine Aq rfl (fun hlt2=>?_) (fun hlt2=>?_)
  ·have hjl:j<l[k].c.sd.length:=CC hlt2;have hnext:S0.sides i (Bp x.c i).2 (l[k].c.sd.take (j+1))=(S0.sides i (Bp x.c i).2 (l[k].c.sd.take j)).side i (Bp x.c i).2 l[k].c.sd[j]:=by rw[List.take_succ_eq_append_getElem hjl,S2.sides_snoc]
   obtain⟨S,hSS⟩:∃S,S0.sides i (Bp x.c i).2 (l[k].c.sd.take j)=S:=⟨_,rfl⟩
   obtain⟨T,hT⟩:∃T,64*i+min j l[k].c.sd.length=T:=⟨_,rfl⟩
   rw[hT]at hkj;rw[hSS]at W hkj hnext;have hT2:T<=4200:=by omega
   have hil2:=hkj.t;have hc0:∀ms,Cell h2 ms ((AF l[k].v).add (j*2)) (.int .i64 l[k].c.sd[j].1):=fun ms=>(hY.any (ms:=ms)).cell0 hjl rfl;have hc1:∀ms,Cell h2 ms (((AF l[k].v).add (j*2)).add 1) (.int .i64 l[k].c.sd[j].2):=fun ms=>(hY.any (ms:=ms)).cell hjl (f:=1) rfl;have hcx:∀ms,Cell h2 ms (((AF x.v).add (i*2)).add 1) (.int .i64 x.c.sd[i].2):=fun ms=>(hX.any (ms:=ms)).cell hil (f:=1) rfl;have o5:v5.oneCell'=true:=(W.i.rd (h:=h2) (ms:=[m5]) Mh).rd.one;have o6:v6.oneCell'=true:=(W.s.rd (h:=h2) (ms:=[m6]) Mh).rd.one;have o7:v7.oneCell'=true:=(W.m.rd (h:=h2) (ms:=[m7]) Mh).rd.one;have o8:v8.oneCell'=true:=(W.p.rd (h:=h2) (ms:=[m8]) Mh).rd.one;have o9:v9.oneCell'=true:=(W.f.rd (h:=h2) (ms:=[m9]) Mh).rd.one;obtain⟨r,hr⟩:∃r,l[k].c.sd[j]=r:=⟨_,rfl⟩
   rw[hr]at hc0 hc1 hnext;refine Ah (Ab ?_);refine A9 (fun s h' ms'=>∃(v5 v6 v7 v8 v9:Value) (m5 m6 m7 m8 m9:Hp),s=[(0,v),(3,.pointer (some ⟨g3,0,none⟩)),(5,v5),(6,v6),(7,v7),(8,v8),(9,v9),(10,.int .i64 i),(11,.pointer (some ⟨g11,0,none⟩)),(12,.int .i64 j)]/\h2=h'/\ms'=[m5,m6,m7,m9,m8]/\OwS (S0.sides i (Bp x.c i).2 (l[k].c.sd.take (j+1))) v5 v6 v7 v8 v9 m5 m6 m7 m8 m9) ?_ (fun s h ms hI=>?_)
   ·refine Ag (As (Qm rfl (Am ?_)));refine A9 (fun s h' ms'=>s=[(0,v),(3,.pointer (some ⟨g3,0,none⟩)),(5,v5),(6,v6),(7,v7),(8,v8),(9,v9),(10,.int .i64 i),(11,.pointer (some ⟨g11,0,none⟩)),(12,.int .i64 j),(13,.int .i64 (Ec S.ids r.1))]/\h2=h'/\ms'=[m5,m6,m7,m9,m8]) ?_ (fun s h ms hI=>?_)
    ·have hri:=W.i.rd (h:=h2) (ms:=[m5,m6,m7,m9,m8]) Mh;refine Ag ?_
     refine Ay (fun q s h' ms'=>∃(a:Nat),q=S.ids.length-a/\s=[(0,v),(3,.pointer (some ⟨g3,0,none⟩)),(5,v5),(6,v6),(7,v7),(8,v8),(9,v9),(10,.int .i64 i),(11,.pointer (some ⟨g11,0,none⟩)),(12,.int .i64 j),(13,.int .i64 a)]/\h2=h'/\ms'=[m5,m6,m7,m9,m8]/\a<=S.ids.length/\∀b (hb:b<S.ids.length),b<a->S.ids[b]≠r.1)
      (S.ids.length-0) _ ⟨0,rfl,rfl,rfl,rfl,by omega,fun b hb h=>by omega⟩ Qs ?_
     rintro q s h' ms' ⟨a,rfl,rfl,rfl,rfl,ha,hno⟩;refine Ac (Ac (Bc 15 CS (by kernel_rfl) rfl (Wm rfl (Wm rfl (AR (Ar hri.rd rfl AU rfl) rfl rfl (Wm rfl (Wm rfl ?_)))))));refine Cs (t:=58) rfl (fun hs1=>?_) (fun hs1=>?_)
     ·have hal:a<S.ids.length:=CC hs1;have hca:Cell h2 [m5,m6,m7,m9,m8] ((AF v5).add (a*1)) (.int .i64 S.ids[a]):=hri.cell0 hal rfl;refine AG (Au rfl rfl) rfl rfl rfl rfl (AG (Au rfl rfl) rfl rfl rfl rfl (AG (BF (a) hri.rd rfl AU A6 rfl rfl) rfl rfl rfl rfl (AG (oL rfl U3 (hca)) rfl rfl rfl rfl (AG (oF BB rfl) rfl rfl rfl rfl (AG (oL rfl BZ (hA11 _ _ rfl _)) rfl rfl rfl rfl (AG (Au rfl rfl) rfl rfl rfl rfl (AG (BF (j) hY.rd.any rfl BZ AM rfl rfl) rfl rfl rfl rfl (AG (oF B6 rfl) rfl rfl rfl rfl (AG (oL rfl U3 (hc0 _)) rfl rfl rfl rfl (AY (Qg (CY rfl rfl rfl) rfl (Qm rfl (Am ?_)))))))))))));refine Aq rfl (fun hs2=>?_) (fun hs2=>?_)
      ·refine Ah (Ab (Ag (Ad (Qm rfl (Qx (oA rfl) rfl (Qm rfl (Ak (Ai ?_))))))))
       exact Al (S.ids.length-(a+1)) _ (by omega) ⟨a+1,rfl,rfl,rfl,rfl,by omega,fun b hb h=>by
        rcases (by omega:b<a\/b=a) with h1|rfl
        ·exact hno b hb h1
        ·exact hs2⟩ Qs
      ·have hf:Ec S.ids r.1=a:=NP ha hno fun _=>Classical.byContradiction fun q=>hs2 q;refine Av (Aa (Aa (Af ?_)));rw[hf];exact AD _ ⟨rfl,rfl,rfl⟩ Qs
     ·have hf:Ec S.ids r.1=a:=NP ha hno fun h=>absurd h (by omega);refine Aw rfl rfl rfl rfl rfl (Aw rfl rfl rfl rfl rfl (Aw rfl rfl rfl rfl rfl (Aw rfl rfl rfl rfl rfl (Aw rfl rfl rfl rfl rfl (Aw rfl rfl rfl rfl rfl (Aw rfl rfl rfl rfl rfl (Aw rfl rfl rfl rfl rfl (Aw rfl rfl rfl rfl rfl (Aw rfl rfl rfl rfl rfl (AY (Qk rfl (Qm rfl (Am (AP rfl (Av (Aa (Aa (Af ?_))))))))))))))))));rw[hf];exact AD _ ⟨rfl,rfl,rfl⟩ Qs
    ·obtain⟨rfl,rfl,rfl⟩:=hI;refine A9 (fun s h' ms'=>∃(v5 v6 v7 v8 v9:Value) (m5 m6 m7 m8 m9:Hp),s=[(0,v),(3,.pointer (some ⟨g3,0,none⟩)),(5,v5),(6,v6),(7,v7),(8,v8),(9,v9),(10,.int .i64 i),(11,.pointer (some ⟨g11,0,none⟩)),(12,.int .i64 j),(13,.int .i64 (Ec S.ids r.1))]/\h2=h'/\ms'=[m5,m6,m7,m9,m8]/\OwS (S.add i r.1) v5 v6 v7 v8 v9 m5 m6 m7 m8 m9) ?_ (fun s h ms hI=>?_)
     ·refine Ac (Ad (Qm rfl (Qm rfl (Qx (Ar (W.i.rd (h:=h2) (ms:=[m5,m6,m7,m9,m8]) Mh).rd rfl AU rfl) rfl (Qm rfl (Am ?_))))));refine Aq rfl (fun hnew=>?_) (fun hnew=>?_)
      ·have hadd:S.add i r.1=⟨S.ids++[r.1],S.su++[0],S.ma++[0],S.fi++[(i:Int)],S.pa⟩:=by unfold S2.add;rw[if_pos (by omega)]
       have e1:=hkj.s;have e2:=hkj.m;have e3:=hkj.f;refine As (Qm rfl (Qf BB rfl (Ql rfl BZ (hA11 _ _ rfl _) (Qm rfl (Qx (BF (j) hY.rd.any rfl BZ AM rfl rfl) rfl (Qf B6 rfl (Ql rfl U3 (hc0 _) (Ao [_] rfl AU A6 rfl (by rfl) rfl rfl (by omega) rfl rfl rfl (fun g84=>AO 1 W.i (RdL.one Bg (x:=r.1) Mh rfl) rfl AU A6 rfl (by omega) rfl rfl rfl Cb (by(try simp only[length_singleton]);omega) (by(try simp only[length_singleton]);omega) rfl rfl rfl (fun w5 n5 hN5=>?_))))))))));have p5:=hN5.o1;refine Qm rfl (BK (Qm rfl (Ao [_] rfl AU A6 rfl (by rfl) rfl rfl (by omega) rfl rfl rfl (fun g87=>AO 3 W.s (RdL.one Bg (x:=0) Mh rfl) rfl AU A6 rfl (by omega) rfl rfl rfl Cb (by(try simp only[length_singleton]);omega) (by(try simp only[length_singleton]);omega) rfl rfl rfl (fun w6 n6 hN6=>?_)))));have p6:=hN6.o1;refine Qm rfl (BK (Qm rfl (Ao [_] rfl AU A6 rfl (by rfl) rfl rfl (by omega) rfl rfl rfl (fun g90=>AO 5 W.m (RdL.one Bg (x:=0) Mh rfl) rfl AU A6 rfl (by omega) rfl rfl rfl Cb (by(try simp only[length_singleton]);omega) (by(try simp only[length_singleton]);omega) rfl rfl rfl (fun w7 n7 hN7=>?_)))));have p7:=hN7.o1;refine Qm rfl (Gm (Qm rfl (Qm rfl (Ao [_] rfl AU A6 rfl (by rfl) rfl rfl (by omega) rfl rfl rfl (fun g94=>AO 7 W.f (RdL.one Bg (x:=(i:Int)) Mh rfl) rfl AU A6 rfl (by omega) rfl rfl rfl Cb (by(try simp only[length_singleton]);omega) (by(try simp only[length_singleton]);omega) rfl rfl rfl (fun w9 n9 hN9=>?_))))));have p9:=hN9.o1;refine Qm rfl (Ak ?_);refine AN (AN (AN (AN ?_)));exact AD _ ⟨w5,w6,w7,v8,w9,n5,n6,n7,m8,n9,rfl,rfl,rfl,by rw[hadd];exact⟨hN5,hN6,hN7,W.p,hN9⟩⟩ Qs
      ·have hadd:S.add i r.1=S:=by unfold S2.add;rw[if_neg (by omega)]
       refine Ah ?_;exact AD _ ⟨v5,v6,v7,v8,v9,m5,m6,m7,m8,m9,rfl,rfl,rfl,by rw[hadd];exact W⟩ Qs
     ·obtain⟨v5,v6,v7,v8,v9,m5,m6,m7,m8,m9,rfl,rfl,rfl,W⟩:=hI;have hK2:=hkj.add hil r.1;have hSU:=S2.add_su hkj i r.1;have hrm:r∈l[k].c.sd:=by rw[<-hr];exact getElem_mem hjl
      have hw:=NW hsg (hys r hrm);obtain⟨kf,hkf⟩:∃kf,Ec S.ids r.1=kf:=⟨_,rfl⟩
      obtain⟨U,hU⟩:∃U,S.add i r.1=U:=⟨_,rfl⟩
      have hres:S.side i (Bp x.c i).2 r=U.hit i kf ((Bp x.c i).2*r.2):=by unfold S2.side;rw[hU,hkf]
      rw[hsi]at hw hres;rw[hU]at W hK2 hSU;rw[hkf]at hK2 ⊢;rw[hsi]at hnext;obtain⟨KU,hkl2⟩:=hK2;have hsl:kf<U.su.length:=by rw[KU.s];exact hkl2
      have hml:kf<U.ma.length:=by rw[KU.m];exact hkl2
      have hfl:kf<U.fi.length:=by rw[KU.f];exact hkl2
      have hsb:=hSU.1 _ (getElem_mem hsl);have hmb:=hSU.2 _ (getElem_mem hml);have hfb:=KU.fb _ (getElem_mem hfl);obtain⟨f,hf⟩:∃f:Nat,U.fi[kf]=f:=⟨U.fi[kf].toNat,by omega⟩
      have hfp:f<U.pa.length:=by rw[KU.p];omega
      have hip:i<U.pa.length:=by rw[KU.p];exact hil
      have o5:v5.oneCell'=true:=(W.i.rd (h:=h2) (ms:=[m5]) Mh).rd.one;have o6:v6.oneCell'=true:=(W.s.rd (h:=h2) (ms:=[m6]) Mh).rd.one;have o7:v7.oneCell'=true:=(W.m.rd (h:=h2) (ms:=[m7]) Mh).rd.one;have o8:v8.oneCell'=true:=(W.p.rd (h:=h2) (ms:=[m8]) Mh).rd.one;have o9:v9.oneCell'=true:=(W.f.rd (h:=h2) (ms:=[m9]) Mh).rd.one;have c6:∀ms,m6∈ms->Cell h2 ms ((AF v6).add (kf*1)) (.int .i64 U.su[kf]):=fun ms hm=>(W.s.rd (h:=h2) hm).cell0 hsl rfl;have c7:∀ms,m7∈ms->Cell h2 ms ((AF v7).add (kf*1)) (.int .i64 U.ma[kf]):=fun ms hm=>(W.m.rd (h:=h2) hm).cell0 hml rfl;have c9:∀ms,m9∈ms->Cell h2 ms ((AF v9).add (kf*1)) (.int .i64 f):=fun ms hm=>by have:=(W.f.rd (h:=h2) hm).cell0 hfl rfl;rw[hf]at this;exact this
      have c8f:∀ms,m8∈ms->Cell h2 ms ((AF v8).add (f*1)) (.int .i64 U.pa[f]):=fun ms hm=>(W.p.rd (h:=h2) hm).cell0 hfp rfl;have c8i:∀ms,m8∈ms->Cell h2 ms ((AF v8).add (i*1)) (.int .i64 U.pa[i]):=fun ms hm=>(W.p.rd (h:=h2) hm).cell0 hip rfl;refine Ac (DJ 19 [true,true] CS (by kernel_rfl) (by kernel_rfl) (by kernel_rfl) (DW rfl rfl rfl rfl (Ci rfl rfl) (DW rfl rfl rfl rfl (Ci rfl rfl) ?_)));refine⟨rfl,?_⟩;simp only[Ed,zap,cons_append,nil_append,List.take_succ_cons,List.take_zero,List.drop_succ_cons,drop_zero,List.take_nil,List.drop_nil];refine DY rfl rfl rfl (DY rfl rfl rfl (Wm rfl (Wm rfl (AR (BI (kf) (W.s.rd (h:=h2) (ms:=[m6]) Mh).rd rfl AU A6 rfl rfl (by omega) (by omega)) rfl rfl ?_))));refine Wl rfl U3 (c6 _ (by repeat (first|exact Mh|refine List.Mem.tail _ ?_))) ?_;refine Wf BB rfl (Wl rfl BZ (hA _ _ rfl _) (Wm rfl (AR (BF (i) hX.rd.any rfl BZ AM rfl rfl) rfl rfl (Wf Dn rfl (Wl rfl U3 (hcx _) (Wf BB rfl (Wl rfl BZ (hA11 _ _ rfl _) (Wm rfl (AR (BF (j) hY.rd.any rfl BZ AM rfl rfl) rfl rfl (Wf Dn rfl (Wl rfl U3 (hc1 _) (AR (oM rfl) rfl rfl (AY (Qx (oA rfl) rfl (Qx (BI (kf) (W.s.rd (h:=h2) (ms:=[m6]) Mh).rd rfl AU A6 rfl rfl (by omega) (by omega)) rfl (De 1 kf W.s rfl A6 rfl rfl rfl hsl rfl rfl (fun n6 hN6=>Ak (HQ (Ab (As (Qm rfl (Qm rfl (Qx (BI (kf) (W.m.rd (h:=h2) (ms:=[m7]) Mh).rd rfl AU A6 rfl rfl (by omega) (by omega)) rfl ?_)))))))))))))))))))))));refine Ql rfl U3 (c7 _ (by repeat (first|exact Mh|refine List.Mem.tail _ ?_))) ?_;refine Qx (oA rfl) rfl (Qx (BI (kf) (W.m.rd (h:=h2) (ms:=[m7]) Mh).rd rfl AU A6 rfl rfl (by omega) (by omega)) rfl (De 2 kf W.m rfl A6 rfl rfl rfl hml rfl rfl (fun n7 hN7=>BK (Qm rfl (Qm rfl (Qm rfl (Qx (BI (kf) (W.f.rd (h:=h2) (ms:=[m9]) Mh).rd rfl AU A6 rfl rfl (by omega) (by omega)) rfl ?_)))))));refine Ql rfl U3 (c9 _ (by repeat (first|exact Mh|refine List.Mem.tail _ ?_))) ?_;refine Qx (BI (f) (W.p.rd (h:=h2) (ms:=[m8]) Mh).rd rfl AU A6 rfl rfl (by omega) (by omega)) rfl ?_;refine Ql rfl U3 (c8f _ (by repeat (first|exact Mh|refine List.Mem.tail _ ?_))) ?_;refine Qm rfl (BK (Qm rfl (Qm rfl (Qx (BI (i) (W.p.rd (h:=h2) (ms:=[m8]) Mh).rd rfl AU A6 rfl rfl (by omega) (by omega)) rfl ?_))));refine Ql rfl U3 (c8i _ (by repeat (first|exact Mh|refine List.Mem.tail _ ?_))) ?_;refine Qm rfl (BK (Qm rfl (Am (Ag ?_))))
      refine Ay (fun q s h' ms'=>∃(a:Nat) (m8:Hp),q=i+1-a/\s=[(0,v),(3,.pointer (some ⟨g3,0,none⟩)),(5,v5),(6,v6),(7,v7),(8,v8),(9,v9),(10,.int .i64 i),(11,.pointer (some ⟨g11,0,none⟩)),(12,.int .i64 j),(14,.int .i64 U.pa[f]),(15,.int .i64 U.pa[i]),(16,.int .i64 a)]/\h2=h'/\ms'=[m5,n6,n7,m9,m8]/\a<=i+1/\OwnL cI 1 3 m8 v8 (Ff U.pa a U.pa[i] U.pa[f]))
       (i+1-0) _ ⟨0,m8,rfl,rfl,rfl,rfl,by omega,by rw[Tm];exact W.p⟩ Qs ?_
      rintro q s h' ms' ⟨a,m8',rfl,rfl,rfl,rfl,ha,hO8⟩;refine Ac (As (Qm rfl (Qm rfl (Qm rfl (Am ?_)))));refine Aq rfl (fun hla=>?_) (fun hla=>?_)
      ·have hap:a<U.pa.length:=by omega
       have hal:a<(Ff U.pa a U.pa[i] U.pa[f]).length:=by rw[C8];exact hap
       have hga:(Ff U.pa a U.pa[i] U.pa[f])[a]=U.pa[a]:=by rw[EH hap,if_neg (fun q=>absurd q.1 (Nat.lt_irrefl _))]
       have hca:Cell h2 [m5,n6,n7,m9,m8'] ((AF v8).add (a*1)) (.int .i64 U.pa[a]):=by have:=(hO8.rd (h:=h2) (ms:=[m5,n6,n7,m9,m8']) (by repeat (first|exact Mh|refine List.Mem.tail _ ?_))).cell0 hal rfl;rw[hga]at this;exact this
       refine Ah (Ab (Ac (Ag (As (Qm rfl (Qm rfl (Qx (BI (a) (hO8.rd (h:=h2) (ms:=[m8']) Mh).rd rfl AU A6 rfl rfl (by omega) (by omega)) rfl (Ql rfl U3 (hca) (Qm rfl (Qm rfl (Am ?_)))))))))));refine Aq rfl (fun hq=>?_) (fun hq=>?_)
       ·refine Ad (Qm rfl (Qm rfl (Qm rfl (Qx (BI (a) (hO8.rd (h:=h2) (ms:=[m8']) Mh).rd rfl AU A6 rfl rfl (by omega) (by omega)) rfl (De 4 a hO8 rfl A6 rfl rfl rfl hal rfl rfl (fun n8 hN8=>?_))))));rw[Ww hap hq]at hN8;refine Ak (Ai (Ab (Ad (Qm rfl (Qx (oA rfl) rfl (Qm rfl (Ak ?_)))))));exact Al (i+1-(a+1)) _ (by omega) ⟨a+1,n8,rfl,rfl,rfl,rfl,by omega,hN8⟩ Qs
       ·rw[Y1 hap hq]at hO8;refine Ah (Ai (Ab (Ad (Qm rfl (Qx (oA rfl) rfl (Qm rfl (Ak ?_)))))));exact Al (i+1-(a+1)) _ (by omega) ⟨a+1,m8',rfl,rfl,rfl,rfl,by omega,hO8⟩ Qs
      ·obtain rfl:a=i+1:=by omega
       have g6:U.su.getD kf 0=U.su[kf]:=by simp[List.getD,hsl]
       have g7:U.ma.getD kf 0=U.ma[kf]:=by simp[List.getD,hml]
       have g9:(U.fi.getD kf 0).toNat=f:=by rw[show U.fi.getD kf 0=U.fi[kf] by simp[List.getD,hfl],hf];rfl
       have g8:U.pa.getD f 0=U.pa[f]:=by simp[List.getD,hfp]
       have g8':U.pa.getD i 0=U.pa[i]:=by simp[List.getD,hip]
       have hH:U.hit i kf (x.c.sd[i].2*r.2)=⟨U.ids,U.su.set kf (U.su[kf]+x.c.sd[i].2*r.2),U.ma.set kf (U.ma[kf]+1),U.fi,Ff U.pa (i+1) U.pa[i] U.pa[f]⟩:=by unfold S2.hit;rw[g6,g7,g9,g8,g8']
       have hWn:OwS (S0.sides i (Bp x.c i).2 (l[k].c.sd.take (j+1))) v5 v6 v7 v8 v9 m5 n6 n7 m8' m9:=by rw[hsi,hnext,hres,hH];exact⟨W.i,hN6,hN7,hO8,W.f⟩
       refine Av (Aa (Aa (Af (Ai ?_))));exact AD _ ⟨v5,v6,v7,v8,v9,m5,n6,n7,m8',m9,rfl,rfl,rfl,hWn⟩ Qs
   ·obtain⟨v5,v6,v7,v8,v9,m5,m6,m7,m8,m9,rfl,rfl,rfl,W⟩:=hI;refine Ad (Qm rfl (Qx (oA rfl) rfl (Qm rfl (Ak ?_))));exact Al (l[k].c.sd.length-(j+1)) _ (by omega) ⟨j+1,v5,v6,v7,v8,v9,m5,m6,m7,m8,m9,rfl,rfl,rfl,rfl,by omega,W⟩ Qs
  ·have hje:j=l[k].c.sd.length:=by omega
   rw[hje,take_length,<-hstep]at W;refine Av (Aa (Aa (Af (Ai (Ab (Ad (Qm rfl (Qx (oA rfl) rfl (Qm rfl (Ak ?_))))))))));exact Al (x.c.sd.length-(i+1)) _ (by omega) ⟨i+1,v5,v6,v7,v8,v9,m5,m6,m7,m8,m9,rfl,rfl,AJ lh l2,rfl,by omega,W⟩ Qs
 ·obtain rfl:i=x.c.sd.length:=by omega
  obtain⟨S,hS⟩:∃S,Ha (l.map Ce.c) x.c x.c.sd.length=S:=⟨_,rfl⟩
  have hsec:DL (l.map Ce.c) x.c=(if ¬∀y∈S.su,y=0 then 24 else if ¬∀y∈S.ma,y=2 then 25 else if ¬∀y∈S.pa,y=S.pa.getD 0 0 then 25 else 0):=by unfold DL;rw[hS]
  rw[hS]at W KS;have r6:=W.s.rd (h:=hh) (ms:=[m5,m6,m7,m9,m8]) (by repeat (first|exact Mh|refine List.Mem.tail _ ?_));have r7:=W.m.rd (h:=hh) (ms:=[m5,m6,m7,m9,m8]) (by repeat (first|exact Mh|refine List.Mem.tail _ ?_));have r8:=W.p.rd (h:=hh) (ms:=[m5,m6,m7,m9,m8]) (by repeat (first|exact Mh|refine List.Mem.tail _ ?_));clear hlt hi hR hX hA;refine Av (Aa (Aa (Af (Ab (Ac (As (Qm rfl (Am (Ag ?_)))))))))
  refine Ay (fun q s h' ms'=>∃(a:Nat),q=S.su.length-a/\s=[(6,v6),(7,v7),(8,v8),(17,.int .i64 a)]/\hh=h'/\ms'=[m5,m6,m7,m9,m8]/\a<=S.su.length/\∀b (hb:b<S.su.length),b<a->S.su[b]=0)
   (S.su.length-0) _ ⟨0,rfl,rfl,rfl,rfl,by omega,fun b hb h=>by omega⟩ Qs ?_
  rintro q s h' ms' ⟨a,rfl,rfl,rfl,rfl,ha,hno⟩;have r6l:=r6.len_le;refine Ac (As (Qm rfl (Qm rfl (Qx (Ar r6.rd rfl AU rfl) rfl (Qm rfl (Am ?_))))));refine Aq rfl (fun hl6=>?_) (fun hl6=>?_)
  ·have hal:a<S.su.length:=CC hl6;have hca:=r6.cell0 hal rfl;refine Ah (Ab (Ac (Ag (As (Qm rfl (Qm rfl (Qx (BF (a) r6.rd rfl AU A6 rfl rfl) rfl (Ql rfl U3 (hca) (Qm rfl (Am ?_))))))))));refine Aq rfl (fun hq=>?_) (fun hq=>?_)
   ·refine Ac (Ad (Qm rfl (Am (An (Aj (Ae (Ae (Aj (Ae ?_)))))))));exact Az rfl rfl (by rw[hsec,if_pos (fun q=>hq (q _ (getElem_mem hal)))])
   ·have hq:S.su[a]=0:=Classical.byContradiction fun q=>hq q;refine Ah (Ai (Ab (Ad (Qm rfl (Qx (oA rfl) rfl (Qm rfl (Ak ?_)))))))
    exact Al (S.su.length-(a+1)) _ (by omega) ⟨a+1,rfl,rfl,rfl,rfl,by omega,fun b hb h=>by
     rcases (by omega:b<a\/b=a) with h1|rfl
     ·exact hno b hb h1
     ·exact hq⟩ Qs
  ·have hall:∀y∈S.su,y=0:=fun y hy=>by obtain⟨b,hb,rfl⟩:=List.mem_iff_getElem.1 hy;exact hno b hb (by omega)
   rw[if_neg (fun q=>q hall)]at hsec;clear hno hl6 ha;refine Av (Aa (Aa (Af (Ab (Ac (As (Qm rfl (Am (Ag ?_)))))))))
   refine Ay (fun q s h' ms'=>∃(a:Nat),q=S.ma.length-a/\s=[(7,v7),(8,v8),(18,.int .i64 a)]/\hh=h'/\ms'=[m5,m6,m7,m9,m8]/\a<=S.ma.length/\∀b (hb:b<S.ma.length),b<a->S.ma[b]=2)
    (S.ma.length-0) _ ⟨0,rfl,rfl,rfl,rfl,by omega,fun b hb h=>by omega⟩ Qs ?_
   rintro q s h' ms' ⟨a,rfl,rfl,rfl,rfl,ha,hno⟩;have r7l:=r7.len_le;refine Ac (As (Qm rfl (Qm rfl (Qx (Ar r7.rd rfl AU rfl) rfl (Qm rfl (Am ?_))))));refine Aq rfl (fun hl7=>?_) (fun hl7=>?_)
   ·have hal:a<S.ma.length:=CC hl7;have hca:=r7.cell0 hal rfl;refine Ah (Ab (Ac (Ag (As (Qm rfl (Qm rfl (Qx (BF (a) r7.rd rfl AU A6 rfl rfl) rfl (Ql rfl U3 (hca) (Qm rfl (Am ?_))))))))));refine Aq rfl (fun hq=>?_) (fun hq=>?_)
    ·refine Ac (Ad (Qm rfl (Am (An (Aj (Ae (Ae (Aj (Ae ?_)))))))));exact Az rfl rfl (by rw[hsec,if_pos (fun q=>hq (q _ (getElem_mem hal)))])
    ·have hq:S.ma[a]=2:=Classical.byContradiction fun q=>hq q;refine Ah (Ai (Ab (Ad (Qm rfl (Qx (oA rfl) rfl (Qm rfl (Ak ?_)))))))
     exact Al (S.ma.length-(a+1)) _ (by omega) ⟨a+1,rfl,rfl,rfl,rfl,by omega,fun b hb h=>by
      rcases (by omega:b<a\/b=a) with h1|rfl
      ·exact hno b hb h1
      ·exact hq⟩ Qs
   ·have hall2:∀y∈S.ma,y=2:=fun y hy=>by obtain⟨b,hb,rfl⟩:=List.mem_iff_getElem.1 hy;exact hno b hb (by omega)
    rw[if_neg (fun q=>q hall2)]at hsec;clear hno hl7 ha;refine Av (Aa (Aa (Af (Ab (Ac (As (Qm rfl (Am (Ag ?_)))))))))
    refine Ay (fun q s h' ms'=>∃(a:Nat),q=S.pa.length-a/\s=[(8,v8),(19,.int .i64 a)]/\hh=h'/\ms'=[m5,m6,m7,m9,m8]/\a<=S.pa.length/\∀b (hb:b<S.pa.length),b<a->S.pa[b]=S.pa.getD 0 0)
     (S.pa.length-0) _ ⟨0,rfl,rfl,rfl,rfl,by omega,fun b hb h=>by omega⟩ Qs ?_
    rintro q s h' ms' ⟨a,rfl,rfl,rfl,rfl,ha,hno⟩;have r8l:=r8.len_le;refine Ac (As (Qm rfl (Qm rfl (Qx (Ar r8.rd rfl AU rfl) rfl (Qm rfl (Am ?_))))));refine Aq rfl (fun hl8=>?_) (fun hl8=>?_)
    ·have hal:a<S.pa.length:=CC hl8;have h0l:0<S.pa.length:=by omega
     have g0:S.pa.getD 0 0=S.pa[0]:=by simp[List.getD,h0l]
     have hca:=r8.cell0 hal rfl;have hc0:=r8.cell0 h0l rfl;refine Ah (Ab (Ac (Ag (Ac (Bc 7 CS (by kernel_rfl) rfl (Wm rfl (Wm rfl (AR (BF (a) r8.rd rfl AU A6 rfl rfl) rfl rfl (Wl rfl U3 (hca) (Wm rfl (AR (BF (0) r8.rd rfl AU A6 rfl rfl) rfl rfl (Wl rfl U3 (hc0) (AY (Qm rfl (Am ?_)))))))))))))));refine Aq rfl (fun hq=>?_) (fun hq=>?_)
     ·refine Ac (Ad (Qm rfl (Am (An (Aj (Ae (Ae (Aj (Ae ?_)))))))));exact Az rfl rfl (by rw[hsec,if_pos (fun q=>hq (by rw[<-g0];exact q _ (getElem_mem hal)))])
     ·have hq:S.pa[a]=S.pa.getD 0 0:=by rw[g0];exact Classical.byContradiction fun q=>hq q
      refine Ah (Ai (Ab (Ad (Qm rfl (Qx (oA rfl) rfl (Qm rfl (Ak ?_)))))))
      exact Al (S.pa.length-(a+1)) _ (by omega) ⟨a+1,rfl,rfl,rfl,rfl,by omega,fun b hb h=>by
       rcases (by omega:b<a\/b=a) with h1|rfl
       ·exact hno b hb h1
       ·exact hq⟩ Qs
    ·have hall3:∀y∈S.pa,y=S.pa.getD 0 0:=fun y hy=>by obtain⟨b,hb,rfl⟩:=List.mem_iff_getElem.1 hy;exact hno b hb (by omega)
     rw[if_neg (fun q=>q hall3)]at hsec;refine Av (Aa (Aa (Af (Ab (As (Qm rfl (Am (An ?_))))))));exact Az rfl rfl (by rw[hsec])
variable {l:List Cl}
def H2(o own:List Cl)(i:Nat):Option (Int×Int):=
 if(o.getD i default).id<1\/(0<i/\(o.getD i default).id=(o.getD (i-1) default).id) then some ((o.getD i default).id,20)
 else if Cn own (o.getD i default)≠0 then some ((o.getD i default).id,Cn own (o.getD i default)) else none
def JL(o:List Cl)(i:Nat):Option (Int×Int):=
 if(o.getD i default).dim<2 then none
 else if DL o (o.getD i default)≠0 then some ((o.getD i default).id,DL o (o.getD i default)) else none
def FN(l:List Cl):Int×Int:=if 4000<l.length then(0,2) else
 ((range l.length).findSome? (H2 (ordF l) (Fh l))).getD (((range l.length).findSome? (JL (ordF l))).getD (0,0))
theorem Co{β:Type}{e:Nat->Option β}:∀n,(∀b,b<n->e b=none)->(range n).findSome? e=none
 | 0,_=>rfl
 | n+1,h=>by rw[range_succ,List.findSome?_append,Co n fun b hb=>h b (by omega)];simp[h n (by omega)]
theorem Dx{β:Type}{e:Nat->Option β}{a:Nat}{x:β}(h:∀b,b<a->e b=none)(hx:e a=some x):∀n,a<n->(range n).findSome? e=some x
 | 0,ha=>by omega
 | n+1,ha=>by
  rw[range_succ,List.findSome?_append];rcases (by omega:a<n\/a=n) with h1|rfl
  ·rw[Dx h hx n h1];rfl
  ·rw[Co a h];simp[hx]
theorem MR:∀(l:List Cl) (p:Option Int),(uq p l).Sublist l
 | [],_=>List.Sublist.refl _
 | a::l,p=>by
  unfold uq;split
  ·exact(MR l _).cons a
  ·exact(MR l _).cons_cons a
theorem LF(l:List Cl):(Fh l).Pairwise fun a b=>a.id<=b.id:=(Du l.length l (Nat.le_refl _)).sublist (MR _ _)
theorem PR(l:List Cl):(Fh l).length<=l.length:=by
 have:=(MR (ordF l) none).length_le
 rwa [E8]at this
theorem Qy:∀(l:List Cl) (p:Option Int),(∀h:0<l.length,p≠some l[0].id)->(∀i (hi:i+1<l.length),l[i].id≠l[i+1].id)->uq p l=l
 | [],_,_,_=>rfl
 | a::l,p,h0,h=>by
  unfold uq
  rw[if_neg (show p≠some a.id from h0 (by simp)),Qy l _ (fun hl=>by
   have:=h 0 (by simp;omega)
   simpa using this) (fun i hi=>by
   have:=h (i+1) (by simp;omega)
   simpa using this)]
theorem EF{x:Cl}(h:Cn l x=0):(0<=x.dim/\x.dim<=8)/\x.sd.length<=64/\(∀i,i<x.sd.length->¬CA l x i)/\∀i,i<x.sd.length->¬BN x i:=by
 unfold Cn at h;split at h
 ·omega
 ·rename_i h1;split at h
  ·omega
  ·rename_i h2;split at h
   ·omega
   ·rename_i h3;split at h
    ·omega
    ·rename_i h4;refine⟨by omega,?_,Classical.not_not.1 h3,Classical.not_not.1 h4⟩;unfold BV at h2;omega
theorem Hc{i:Nat}(hi:i<l.length):l.getD i default=l[i]:=by simp[List.getD,hi]
theorem Xx(h:∀b,b<(ordF l).length->H2 (ordF l) (Fh l) b=none){i:Nat}(hi:i<(ordF l).length):Q8 (ordF l) (ordF l)[i]:=by
 have hn:∀b (hb:b<(ordF l).length),(1<=(ordF l)[b].id/\¬(0<b/\(ordF l)[b].id=((ordF l).getD (b-1) default).id))/\Cn (Fh l) (ordF l)[b]=0:=fun b hb=>by
  have:=h b hb;unfold H2 at this;rw[Hc hb]at this;split at this
  ·cases this
  ·rename_i h1;split at this
   ·cases this
   ·rename_i h2;exact⟨⟨by omega,fun q=>h1 (.inr q)⟩,Classical.not_not.1 h2⟩
 have heq:Fh l=ordF l:=Qy _ _ (fun _=>nofun) fun b hb q=>by have h1:=(hn (b+1) hb).1.2;refine h1 ⟨by omega,?_⟩;rw[show b+1-1=b by omega,Hc (show b<(ordF l).length by omega)];exact q.symm
 rw[heq]at hn;have hx:=EF (hn i hi).2
 have hsg:∀b (hb:b<(ordF l).length),∀j,j<(ordF l)[b].sd.length->(Bp (ordF l)[b] j).2=1\/(Bp (ordF l)[b] j).2=-1:=fun b hb j hj=>by have:=(EF (hn b hb).2).2.2.2 j hj;unfold BN at this;omega
 have hat:∀j,j<(ordF l)[i].sd.length->0<=I5 (ordF l) (Bp (ordF l)[i] j).1:=fun j hj=>by have:=hx.2.2.1 j hj;unfold CA at this;omega
 have hy:∀j,j<(ordF l)[i].sd.length->∃b,∃hb:b<(ordF l).length,Fm (ordF l) (ordF l)[i] j=(ordF l)[b]:=fun j hj=>by have h1:=hat j hj;have h2:=HT (ordF l) (Bp (ordF l)[i] j).1;exact⟨_,by omega,Hc (by omega)⟩
 refine⟨hx.2.1,hsg i hi,hat,fun j hj=>?_,fun j hj r hr=>?_⟩
 ·obtain⟨b,hb,e⟩:=hy j hj;rw[e];exact(EF (hn b hb).2).2.1
 ·obtain⟨b,hb,e⟩:=hy j hj;rw[e]at hr;obtain⟨k,hk,rfl⟩:=List.mem_iff_getElem.1 hr;have:=hsg b hb k hk
  rwa [Bj hk]at this
structure Aa2(l:List Ce):Prop extends CsOk l where
 d:∀a∈l,-9223372036854775807<=a.c.dim/\a.c.dim<=9223372036854775807
theorem G3{c:Cl}(h:c∈ordF l):∃a∈l,c=a.can:=by have:=(Db l.length l (Nat.le_refl _)).mem_iff.1 h;obtain⟨a,ha,e⟩:=List.mem_map.1 this;exact⟨a,ha,e.symm⟩
theorem Qv(l:List Ce)(v:Value)(h:Hp)(hK:Aa2 l)(hR:RdC h v l):FnT Tryz.prog 69 #[.agg #[v]] h [] (fun r _ _=>r=.tuple #[.int .i64 (FN (l.map Ce.c)).1,.int .i64 (FN (l.map Ce.c)).2]):=by
 have o1:=hR.q.rd.one;have hn:=hK.n;refine Ap func69 ntmps69 rfl rfl (fun w0 hw0=>?_);simp only[AX];refine As (AV [_] rfl rfl (by rfl) rfl rfl rfl (fun g1=>Qm rfl (Qm rfl (Am (AC fun h1 l1 hS=>?_)))));have hR:=hR.up l1;have hA0:=Seg.all hS 0 _ rfl;refine Ac (As (Qf B8 rfl (Ql rfl Bh (hA0 _) (Qx (Ar hR.q.rd.any rfl Bh rfl) rfl (Qm rfl (Am ?_))))));refine Aq rfl (fun hbig=>?_) (fun hbig=>?_)
 ·refine Ac (Ad (Qm rfl (Qm rfl (Am (An (Ae ?_))))));exact Bo rfl rfl rfl (by unfold FN;rw[if_pos (by rw[length_map];omega)])
 ·have hck:FN (l.map Ce.c)=((range l.length).findSome? (H2 (ordF (l.map Ce.c)) (Fh (l.map Ce.c)))).getD (((range l.length).findSome? (JL (ordF (l.map Ce.c)))).getD (0,0)):=by unfold FN;rw[if_neg (by rw[length_map];omega),length_map]
  refine Ah (Ab (As (Qf B8 rfl (Ql rfl Bh (hA0 _) (Qc call118 rfl (K6 (l.length+1) l v h1 (by omega) (by omega) hK.s hR) (fun ro h2 ms2 l2 hF=>?_))))));obtain⟨l2',mo,O,rfl,hOO,hO,hOs⟩:=hF;refine BA hOO fun h3 l3 hRO=>?_;have l13:=AJ l2 l3;have hR:=hR.up l13;have hS:=hS.le l13;have oro:=hRO.rd.one;refine Qm rfl (BK (Qx (oG rfl CF AW (Seg.any hS)) rfl (Qc call49 rfl (F5 l v h3 hK.toCsOk hR) (fun rw_ h4 ms4 l4 hF=>?_))));obtain⟨l4',mw,W,rfl,hOW,hW,hWs⟩:=hF;refine BA hOW fun h5 l5 hRW=>?_;have l35:=AJ l4 l5;have hRC:RdC h5 ro O:=⟨hRO.up l35,fun a ha=>(hOs a ha).up (AJ l3 l35)⟩
  have orw:=hRW.rd.one;have lO:O.length=l.length:=by have:=congrArg List.length hO;rwa [length_map,E8,length_map]at this
  have lW:W.length<=100000:=by have:=congrArg List.length hW;rw[length_map]at this;have:=PR (l.map Ce.c);rw[length_map]at this;omega
  have hOm:∀a∈O,a.c.sd.length<=100000/\-9223372036854775807<=a.c.dim/\a.c.dim<=9223372036854775807:=fun a ha=>by
   have h1:a.c∈ordF (l.map Ce.c):=by rw[<-hO];exact List.mem_map_of_mem ha
   obtain⟨c,hc,e⟩:=G3 h1;obtain⟨b,hb,rfl⟩:=List.mem_map.1 hc;rw[e];exact⟨by show(Ca _).length<=_;rw[Gn];exact hK.s b hb,hK.d b hb⟩
  have hWst:(W.map Ce.c).Pairwise fun a b=>a.id<=b.id:=by rw[hW];exact LF _
  have hOst:(O.map Ce.c).Pairwise fun a b=>a.id<=b.id:=by rw[hO];exact Du _ _ (Nat.le_refl _)
  have hget:∀i (hi:i<O.length),(ordF (l.map Ce.c)).getD i default=O[i].c:=fun i hi=>by rw[<-hO,Hc (by rw[length_map];exact hi),getElem_map]
  have lord:(ordF (l.map Ce.c)).length=O.length:=by rw[<-hO,length_map]
  obtain⟨o,ho⟩:∃o,ordF (l.map Ce.c)=o:=⟨_,rfl⟩
  obtain⟨w,hw⟩:∃w,Fh (l.map Ce.c)=w:=⟨_,rfl⟩
  rw[ho,hw,<-lO]at hck;rw[ho]at hget lord
  have hsec:(∀b,b<O.length->H2 o w b=none)->∀i (hi:i<O.length),Q8 o O[i].c:=fun h i hi=>by
   have:=Xx (l:=l.map Ce.c) (by rw[ho,hw,lord];exact h) (i:=i) (by rw[ho,lord];exact hi);have e:(ordF (l.map Ce.c))[i]'(by rw[ho,lord];exact hi)=O[i].c:=by rw[<-hget i hi];subst ho;exact(Hc _).symm
   rwa [e,ho]at this
  rw[hw]at hW;rw[ho]at hO;refine Qm rfl (Am (Ac (As (Qm rfl (Am (Ag ?_))))))
  refine Ay (fun q s h' ms'=>∃(i:Nat),q=O.length-i/\s=[(4,ro),(5,rw_),(6,.int .i64 i)]/\h5=h'/\ms'=[]/\i<=O.length/\∀b,b<i->H2 o w b=none)
   (O.length-0) _ ⟨0,rfl,rfl,rfl,rfl,by omega,fun b hb=>by omega⟩ Qs ?_
  rintro q s h' ms' ⟨i,rfl,rfl,rfl,rfl,hi,hno⟩;refine Ac (As (Qm rfl (Qm rfl (Qx (Ar hRC.q.rd.any rfl Bh rfl) rfl (Qm rfl (Am ?_))))));refine Aq rfl (fun hlt=>?_) (fun hlt=>?_)
  ·have hil:i<O.length:=CC hlt;have gi:=hget i hil;have hci:∀ms,Cell h5 ms ((AF ro).add (i*3)) (.int .i64 O[i].c.id):=fun ms=>(hRC.q.any (ms:=ms)).cell0 hil rfl;have hgi:∀ms,Seg h5 ms ((AF ro).add (i*3)) (cC O[i]):=fun ms=>(hRC.q.any (ms:=ms)).seg hil;have oiv:=(hRC.s _ (getElem_mem hil)).rd.one;have hret:∀p,H2 o w i=some p->FN (l.map Ce.c)=p:=fun p hp=>by rw[hck,Dx hno hp _ hil];rfl
   have hround:H2 o w i=none->∀b,b<i+1->H2 o w b=none:=fun h b hb=>by
    rcases (by omega:b<i\/b=i) with h1|rfl
    ·exact hno b h1
    ·exact h
   obtain⟨hm1,hm2⟩:=hOm _ (getElem_mem hil);refine Ah (Ab (Ac (Ag ?_)));refine A9 (fun s h' ms'=>s=[(4,ro),(5,rw_),(6,.int .i64 i)]/\h5=h'/\ms'=[]/\¬(O[i].c.id<1\/(0<i/\O[i].c.id=(o.getD (i-1) default).id))) ?_ (fun s h ms hI=>?_)
   ·refine Ac (Bc 21 CS (by kernel_rfl) rfl (Wm rfl (Wm rfl (AR (BF (i) hRC.q.rd.any rfl Bh AI rfl rfl) rfl rfl (Wf Bt rfl (Wl rfl U3 (hci _) (Wm rfl (Wm rfl ?_))))))));refine Cs (t:=31) rfl (fun g1=>?_) (fun g1=>?_)
    ·refine Aw rfl rfl rfl rfl rfl (Aw rfl rfl rfl rfl rfl (Aw rfl rfl rfl rfl rfl (AK rfl rfl rfl rfl (AK rfl rfl rfl rfl (AK rfl rfl rfl rfl (AK rfl rfl rfl rfl (AK rfl rfl rfl rfl (AK rfl rfl rfl rfl (AK rfl rfl rfl rfl (AK rfl rfl rfl rfl (AK rfl rfl rfl rfl (AK rfl rfl rfl rfl (AK rfl rfl rfl rfl (AY (A0 rfl rfl rfl rfl rfl rfl (Qk rfl (Qm rfl (Am (BE rfl (As (Qm rfl (Qm rfl (Qx (BF (i) hRC.q.rd.any rfl Bh AI rfl rfl) rfl (Qf Bt rfl (Ql rfl U3 (hci _) (Qm rfl (Qm rfl (Am (An (Ae (Aj (Ae (Ae (Aj (Ae ?_)))))))))))))))))))))))))))))))))));exact Bo rfl rfl rfl (by rw[hret (O[i].c.id,20) (by unfold H2;rw[gi,if_pos (.inl g1)])])
    ·refine AG (Au rfl rfl) rfl rfl rfl rfl (AG (Cw rfl rfl rfl) rfl rfl rfl rfl (AG (Au rfl rfl) rfl rfl rfl rfl ?_));refine Cs (t:=34) rfl (fun g2=>?_) (fun g2=>?_)
     ·have hip:i-1<O.length:=by omega
      have gp:=hget (i-1) hip;have hcp:∀ms,Cell h5 ms ((AF ro).add ((i-1)*3)) (.int .i64 O[i-1].c.id):=fun ms=>(hRC.q.any (ms:=ms)).cell0 hip rfl;refine AG (Au rfl rfl) rfl rfl rfl rfl (AG (Au rfl rfl) rfl rfl rfl rfl (AG (BF (i) hRC.q.rd.any rfl Bh AI rfl rfl) rfl rfl rfl rfl (AG (oF Bt rfl) rfl rfl rfl rfl (AG (oL rfl U3 (hci _)) rfl rfl rfl rfl (AG (Au rfl rfl) rfl rfl rfl rfl (AG (Au rfl rfl) rfl rfl rfl rfl (AG (oS rfl) rfl rfl rfl rfl (AG (BF (i-1) hRC.q.rd.any rfl Bh AI rfl rfl) rfl rfl rfl rfl (AG (oF Bt rfl) rfl rfl rfl rfl (AG (oL rfl U3 (hcp _)) rfl rfl rfl rfl (AY (Qg (CU rfl rfl rfl) rfl (Qg (CG rfl rfl rfl) rfl (Qm rfl (Am ?_)))))))))))))));refine Aq rfl (fun g3=>?_) (fun g3=>?_)
      ·refine Ac (Ad (Qm rfl (Qm rfl (Qx (BF (i) hRC.q.rd.any rfl Bh AI rfl rfl) rfl (Qf Bt rfl (Ql rfl U3 (hci _) (Qm rfl (Qm rfl (Am (An (Ae (Aj (Ae (Ae (Aj (Ae ?_))))))))))))))));exact Bo rfl rfl rfl (by rw[hret (O[i].c.id,20) (by unfold H2;rw[gi,gp,if_pos (.inr ⟨by omega,g3⟩)])])
      ·refine Ah ?_;exact AD _ ⟨rfl,rfl,rfl,fun q=>by rcases q with q|⟨_,q⟩;exact g1 q;rw[gp]at q;exact g3 q⟩ Qs
     ·refine Aw rfl rfl rfl rfl rfl (Aw rfl rfl rfl rfl rfl (Aw rfl rfl rfl rfl rfl (Aw rfl rfl rfl rfl rfl (Aw rfl rfl rfl rfl rfl (Aw rfl rfl rfl rfl rfl (Aw rfl rfl rfl rfl rfl (Aw rfl rfl rfl rfl rfl (Aw rfl rfl rfl rfl rfl (Aw rfl rfl rfl rfl rfl (Aw rfl rfl rfl rfl rfl (AY (Qk rfl (Qg (BX rfl rfl rfl) rfl (Qm rfl (Am (AP rfl (Ah ?_)))))))))))))))));exact AD _ ⟨rfl,rfl,rfl,fun q=>by rcases q with q|⟨q,_⟩;exact g1 q;exact g2 (by omega)⟩ Qs
   ·obtain⟨rfl,rfl,rfl,hok⟩:=hI;have hA1:H2 o w i=if Cn w O[i].c≠0 then some (O[i].c.id,Cn w O[i].c) else none:=by unfold H2;rw[gi,if_neg hok]
    have hfv:=fun ms=>Yk W O[i] rw_ h5 lW hm1 hm2 hWst hRW (hRC.s _ (getElem_mem hil)) ms;rw[hW]at hfv;refine As (Qm rfl (Qm rfl (Qm rfl (Qx (BF (i) hRC.q.rd.any rfl Bh AI rfl rfl) rfl (Qx (oG rfl Ef AI (hgi _)) rfl (Qx (AL rfl call139 rfl (hfv _)) rfl (Qm rfl (BK (Qm rfl (Qm rfl (Am ?_)))))))))));refine Aq rfl (fun g4=>?_) (fun g4=>?_)
    ·refine Ac (Ad (Qm rfl (Qm rfl (Qx (BF (i) hRC.q.rd.any rfl Bh AI rfl rfl) rfl (Qf Bt rfl (Ql rfl U3 (hci _) (Qm rfl (Qm rfl (Qm rfl (Am (An (Aj (Ae (Ae (Aj (Ae ?_))))))))))))))));exact Bo rfl rfl rfl (by rw[hret (O[i].c.id,Cn w O[i].c) (by rw[hA1,if_pos g4])])
    ·refine Ah (Ai (Ab (Ad (Qm rfl (Qx (oA rfl) rfl (Qm rfl (Ak ?_)))))));exact Al (O.length-(i+1)) _ (by omega) ⟨i+1,rfl,rfl,rfl,rfl,by omega,hround (by rw[hA1,if_neg g4])⟩ Qs
  ·obtain rfl:i=O.length:=by omega
   have hck2:FN (l.map Ce.c)=((range O.length).findSome? (JL o)).getD (0,0):=by rw[hck,Co _ hno];rfl
   have hsecO:=hsec hno;refine Av (Aa (Aa (Af (Ab (Ac (As (Qm rfl (Am (Ag ?_)))))))))
   refine Ay (fun q s h' ms'=>∃(i:Nat),q=O.length-i/\s=[(4,ro),(8,.int .i64 i)]/\h5=h'/\ms'=[]/\i<=O.length/\∀b,b<i->JL o b=none)
    (O.length-0) _ ⟨0,rfl,rfl,rfl,rfl,by omega,fun b hb=>by omega⟩ Qs ?_
   rintro q s h' ms' ⟨i,rfl,rfl,rfl,rfl,hi,hno2⟩;refine Ac (As (Qm rfl (Qm rfl (Qx (Ar hRC.q.rd.any rfl Bh rfl) rfl (Qm rfl (Am ?_))))));refine Aq rfl (fun hlt2=>?_) (fun hlt2=>?_)
   ·have hil:i<O.length:=CC hlt2;have gi:=hget i hil;have hci:∀ms,Cell h5 ms ((AF ro).add (i*3)) (.int .i64 O[i].c.id):=fun ms=>(hRC.q.any (ms:=ms)).cell0 hil rfl;have hcd:∀ms,Cell h5 ms (((AF ro).add (i*3)).add 1) (.int .i64 O[i].c.dim):=fun ms=>(hRC.q.any (ms:=ms)).cell hil (f:=1) rfl;have hgi:∀ms,Seg h5 ms ((AF ro).add (i*3)) (cC O[i]):=fun ms=>(hRC.q.any (ms:=ms)).seg hil;have oiv:=(hRC.s _ (getElem_mem hil)).rd.one;have hret:∀p,JL o i=some p->FN (l.map Ce.c)=p:=fun p hp=>by rw[hck2,Dx hno2 hp _ hil];rfl
    have hround:JL o i=none->∀b,b<i+1->JL o b=none:=fun h b hb=>by
     rcases (by omega:b<i\/b=i) with h1|rfl
     ·exact hno2 b h1
     ·exact h
    refine Ah (Ab (Ac (Ag (Ac (As (Qm rfl (Qm rfl (Qx (BF (i) hRC.q.rd.any rfl Bh AI rfl rfl) rfl (Qf BY rfl (Ql rfl U3 (hcd _) (Qm rfl (Am ?_))))))))))));refine Aq rfl (fun g5=>?_) (fun g5=>?_)
    ·refine Av (Aa (Af (Ab (Ad (Qm rfl (Qx (oA rfl) rfl (Qm rfl (Ak ?_))))))));exact Al (O.length-(i+1)) _ (by omega) ⟨i+1,rfl,rfl,rfl,rfl,by omega,hround (by unfold JL;rw[gi,if_pos g5])⟩ Qs
    ·have hB1:JL o i=if DL o O[i].c≠0 then some (O[i].c.id,DL o O[i].c) else none:=by unfold JL;rw[gi,if_neg g5]
     have hsv:=fun ms=>EO (SU O O[i] ro h5 (by omega) (by rw[hO];exact hsecO i hil) hOst hRC (hRC.s _ (getElem_mem hil))) ms;rw[hO]at hsv;refine Ah (Ab (As (Qm rfl (Qm rfl (Qm rfl (Qx (BF (i) hRC.q.rd.any rfl Bh AI rfl rfl) rfl (Qx (oG rfl Ef AI (hgi _)) rfl (Qx (AL rfl call140 rfl (hsv _)) rfl (Qm rfl (BK (Qm rfl (Qm rfl (Am ?_)))))))))))));refine Aq rfl (fun g6=>?_) (fun g6=>?_)
     ·refine Ac (Ad (Qm rfl (Qm rfl (Qx (BF (i) hRC.q.rd.any rfl Bh AI rfl rfl) rfl (Qf Bt rfl (Ql rfl U3 (hci _) (Qm rfl (Qm rfl (Qm rfl (Am (An (Aj (Ae (Ae (Aj (Ae ?_))))))))))))))));exact Bo rfl rfl rfl (by rw[hret (O[i].c.id,DL o O[i].c) (by rw[hB1,if_pos g6])])
     ·refine Ah (Ai (Ab (Ad (Qm rfl (Qx (oA rfl) rfl (Qm rfl (Ak ?_)))))));exact Al (O.length-(i+1)) _ (by omega) ⟨i+1,rfl,rfl,rfl,rfl,by omega,hround (by rw[hB1,if_neg g6])⟩ Qs
   ·obtain rfl:i=O.length:=by omega
    refine Av (Aa (Aa (Af (Ab (As (Qm rfl (Qm rfl (Am (An ?_)))))))));exact Bo rfl rfl rfl (by rw[hck2,Co _ hno2];rfl)
end Go.Proofs.Q

namespace Go.Proofs.Q
open Go.Proofs.Tryz
open Go.Eng Go.RowKit
def G5:List Int->List Int->Bool
 | x::a,y::b=>if x=y then G5 a b else decide (x<y)
 | _,_=>false
def Dh(a b:List Int):Bool:=if a.length≠b.length then decide (a.length<b.length) else G5 a b
theorem OW(a b:List Int)(va vb:Value)(h:Hp)(hA:RdL cI 1 h [] va a)(hB:RdL cI 1 h [] vb b)(ms:List Hp):FnV Tryz.prog 208 #[va,vb] h ms (.bool (Dh a b)):=by
 refine EO ?_ ms;have o1:=hA.rd.one;have o2:=hB.rd.one;have la:=hA.len_le;have lb:=hB.len_le;refine Ap func208 ntmps208 rfl rfl (fun w0 hw0=>?_);simp only[AX];refine As (Qm rfl (Am (Ac (As (Qm rfl (Qx (Ar hA.rd.any rfl AU rfl) rfl (Qm rfl (Qx (Ar hB.rd.any rfl AU rfl) rfl (Qm rfl (Am ?_))))))))));refine Aq rfl (fun h1=>?_) (fun h1=>?_)
 ·refine Ac (Ad (Qm rfl (Qx (Ar hA.rd.any rfl AU rfl) rfl (Qm rfl (Qx (Ar hB.rd.any rfl AU rfl) rfl (Qm rfl (Qm rfl (Am (An (Ae ?_))))))))));exact Az rfl rfl (by unfold Dh;rw[if_pos (by omega)];exact congrArg Value.bool (decide_eq_decide.2 (by omega)))
 ·have hl:a.length=b.length:=by omega
  have hbf:Dh a b=G5 a b:=by unfold Dh;rw[if_neg (fun q=>q hl)]
  refine Ah (Ab (Ac (As (Qm rfl (Am (Ag ?_))))))
  refine Ay (fun q s h' ms'=>∃(i:Nat),q=a.length-i/\s=[(0,va),(1,vb),(5,.int .i64 i)]/\h=h'/\ms'=[]/\i<=a.length/\G5 a b=G5 (a.drop i) (b.drop i))
   (a.length-0) _ ⟨0,rfl,rfl,rfl,rfl,by omega,rfl⟩ Qs ?_
  rintro q s h' ms' ⟨i,rfl,rfl,rfl,rfl,hi,he⟩;refine Ac (As (Qm rfl (Qm rfl (Qx (Ar hA.rd.any rfl AU rfl) rfl (Qm rfl (Am ?_))))));refine Aq rfl (fun hlt=>?_) (fun hlt=>?_)
  ·have hia:i<a.length:=CC hlt;have hib:i<b.length:=by omega
   have hca:Cell h [] ((AF va).add (i*1)) (.int .i64 a[i]):=hA.cell0 hia rfl;have hcb:Cell h [] ((AF vb).add (i*1)) (.int .i64 b[i]):=hB.cell0 hib rfl
   have hd:G5 (a.drop i) (b.drop i)=if a[i]=b[i] then G5 (a.drop (i+1)) (b.drop (i+1)) else decide (a[i]<b[i]):=by rw[List.drop_eq_getElem_cons hia,List.drop_eq_getElem_cons hib];rfl
   refine Ah (Ab (Ac (Ag (Ac (Bc 8 CS (by kernel_rfl) rfl (Wm rfl (Wm rfl (AR (BF (i) hA.rd.any rfl AU A6 rfl rfl) rfl rfl (Wl rfl U3 (hca) (Wm rfl (Wm rfl (AR (BF (i) hB.rd.any rfl AU A6 rfl rfl) rfl rfl (Wl rfl U3 (hcb) (AY (Qm rfl (Am ?_))))))))))))))));refine Aq rfl (fun h2=>?_) (fun h2=>?_)
   ·refine Ac (Bc 8 CS (by kernel_rfl) rfl (Wm rfl (Wm rfl (AR (BF (i) hA.rd.any rfl AU A6 rfl rfl) rfl rfl (Wl rfl U3 (hca) (Wm rfl (Wm rfl (AR (BF (i) hB.rd.any rfl AU A6 rfl rfl) rfl rfl (Wl rfl U3 (hcb) (AY (Qm rfl (Qm rfl (Am (An (Aj (Ae (Ae (Aj (Ae ?_)))))))))))))))))));exact Az rfl rfl (by rw[hbf,he,hd,if_neg h2])
   ·have h2:a[i]=b[i]:=Classical.byContradiction fun q=>h2 q;refine Ah (Ai (Ab (Ad (Qm rfl (Qx (oA rfl) rfl (Qm rfl (Ak ?_)))))));exact Al (a.length-(i+1)) _ (by omega) ⟨i+1,rfl,rfl,rfl,rfl,by omega,by rw[he,hd,if_pos h2]⟩ Qs
  ·obtain rfl:i=a.length:=by omega
   refine Av (Aa (Aa (Af (Ab (As (Qm rfl (Am (An ?_))))))));exact Az rfl rfl (by rw[hbf,he,List.drop_length];rfl)
def JN(x:Int)(l:List Int):List Int:=l.takeWhile (fun y=>decide (y<x))++x::l.dropWhile (fun y=>decide (y<x))
def Lz(x:Int)(l:List Int):Prop:=(l.dropWhile fun y=>decide (y<x)).head?=some x
instance (x:Int) (l:List Int):Decidable (Lz x l):=by unfold Lz;infer_instance
def D6:List Int->List Int->Option (List Int)
 | acc,[]=>some acc
 | acc,x::l=>if Lz x acc then D6 acc l else if x<0\/9<(JN x acc).length then none else D6 (JN x acc) l
theorem Vb{x:Int}{l:List Int}{k:Nat}(hk:k<=l.length)(h1:∀j (hj:j<l.length),j<k->l[j]<x)(h2:∀hk:k<l.length,¬l[k]<x):JN x l=l.take k++x::l.drop k/\(Lz x l<->∃h:k<l.length,l[k]=x):=by
 obtain⟨e1,e2⟩:=Ek (fun y:Int=>decide (y<x)) l k hk (fun j hj hjk=>decide_eq_true (h1 j hj hjk)) (fun hk=>decide_eq_false (h2 hk));unfold JN Lz;rw[e1,e2];refine⟨rfl,?_⟩;rw[List.head?_drop];by_cases hkl:k<l.length
 ·rw[List.getElem?_eq_getElem hkl];exact⟨fun q=>⟨hkl,Option.some.inj q⟩,fun⟨_,q⟩=>by rw[q]⟩
 ·rw[List.getElem?_eq_none (by omega)];exact⟨fun q=>(nomatch q),fun⟨q,_⟩=>absurd q hkl⟩
theorem OD(x:Int)(l:List Int):(JN x l).length=l.length+1:=by unfold JN;have:=congrArg List.length (List.takeWhile_append_dropWhile (p:=fun y:Int=>decide (y<x)) (l:=l));rw[length_append]at this;rw[length_append,length_cons];omega
def Aav(r:Value)(ms:List Hp):Option (List Int)->Prop
 | some l=>∃v m,ms=[m]/\r=.tuple #[v,.bool true]/\OwnL cI 1 3 m v l
 | none=>r=.tuple #[.slice none 0 0,.bool false]
theorem Zq(l:List Int)(v:Value)(h:Hp)(hl:l.length<=100000)(hR:RdL cI 1 h [] v l):FnT Tryz.prog 168 #[v] h [] (fun r h' ms'=>h=h'/\Aav r ms' (D6 [] l)):=by
 have o1:=hR.rd.one;refine Ap func168 ntmps168 rfl rfl (fun w0 hw0=>?_);simp only[AX];refine As (Qm rfl (Qm rfl (BK (Qm rfl (Am (Ac (As (Qm rfl (Am (Ag (BJ ?_)))))))))))
 refine Ay (fun q s h' ms'=>∃(i:Nat) (vo:Value) (mo:Hp) (acc:List Int),q=l.length-i/\s=[(0,v),(4,vo),(5,.int .i64 i)]/\h=h'/\ms'=[mo]/\i<=l.length/\acc.length<=9/\OwnL cI 1 3 mo vo acc/\D6 [] l=D6 acc (l.drop i))
  (l.length-0) _ ⟨0,_,Hp.emp,[],rfl,rfl,rfl,rfl,by omega,by simp,OwnL.nil Bg,rfl⟩ Qs ?_
 rintro q s h' ms' ⟨i,vo,mo,acc,rfl,rfl,rfl,rfl,hi,ha9,hO,he⟩;refine Ac (As (Qm rfl (Qm rfl (Qx (Ar hR.rd.any rfl AU rfl) rfl (Qm rfl (Am ?_))))));refine Aq rfl (fun hlt=>?_) (fun hlt=>?_)
 ·have hil:i<l.length:=CC hlt;have hcl:=hO.rd (h:=h) (ms:=[mo]) Mh;have ovo:vo.oneCell'=true:=hcl.rd.one;have hci:∀ms,Cell h ms ((AF v).add (i*1)) (.int .i64 l[i]):=fun ms=>(hR.any (ms:=ms)).cell0 hil rfl;have hd:D6 acc (l.drop i)=if Lz l[i] acc then D6 acc (l.drop (i+1)) else if l[i]<0\/9<(JN l[i] acc).length then none else D6 (JN l[i] acc) (l.drop (i+1)):=by rw[List.drop_eq_getElem_cons hil];rfl
  rw[hd]at he;refine Ah (Ab (Ac (Ag (As (Qm rfl (Am ?_))))));refine A9 (fun s h' ms'=>∃(k:Nat),s=[(0,v),(4,vo),(5,.int .i64 i),(6,.int .i64 k)]/\h=h'/\ms'=[mo]/\k<=acc.length/\JN l[i] acc=acc.take k++l[i]::acc.drop k/\(Lz l[i] acc<->∃h:k<acc.length,acc[k]=l[i])) ?_ (fun s h ms hI=>?_)
  ·refine Ag ?_
   refine Ay (fun q s h' ms'=>∃(k:Nat),q=acc.length-k/\s=[(0,v),(4,vo),(5,.int .i64 i),(6,.int .i64 k)]/\h=h'/\ms'=[mo]/\k<=acc.length/\∀j (hj:j<acc.length),j<k->acc[j]<l[i])
    (acc.length-0) _ ⟨0,rfl,rfl,rfl,rfl,by omega,fun j hj h=>by omega⟩ Qs ?_
   rintro q s h' ms' ⟨k,rfl,rfl,rfl,rfl,hk,hlo⟩;refine Ac (Ac (Bc 13 CS (by kernel_rfl) rfl (Wm rfl (Wm rfl (AR (Ar hcl.rd rfl AU rfl) rfl rfl (Wm rfl (Wm rfl ?_)))))));refine Cs (t:=18) rfl (fun hs1=>?_) (fun hs1=>?_)
   ·have hkl:k<acc.length:=CC hs1;have hck:Cell h [mo] ((AF vo).add (k*1)) (.int .i64 acc[k]):=hcl.cell0 hkl rfl;refine AG (Au rfl rfl) rfl rfl rfl rfl (AG (Au rfl rfl) rfl rfl rfl rfl (AG (BF (k) hcl.rd rfl AU A6 rfl rfl) rfl rfl rfl rfl (AG (oL rfl U3 (hck)) rfl rfl rfl rfl (AG (Au rfl rfl) rfl rfl rfl rfl (AG (Au rfl rfl) rfl rfl rfl rfl (AG (BF (i) hR.rd.any rfl AU A6 rfl rfl) rfl rfl rfl rfl (AG (oL rfl U3 (hci _)) rfl rfl rfl rfl (AY (Qg (Dg rfl rfl rfl) rfl (Qm rfl (Am ?_)))))))))));refine Aq rfl (fun hs2=>?_) (fun hs2=>?_)
    ·refine Ah (Ab (Ag (Ad (Qm rfl (Qx (oA rfl) rfl (Qm rfl (Ak (Ai ?_))))))))
     exact Al (acc.length-(k+1)) _ (by omega) ⟨k+1,rfl,rfl,rfl,rfl,by omega,fun j hj h=>by
      rcases (by omega:j<k\/j=k) with h1|rfl
      ·exact hlo j hj h1
      ·exact hs2⟩ Qs
    ·refine Av (Aa (Aa (Af ?_)));exact AD _ ⟨k,rfl,rfl,rfl,hk,Vb hk hlo fun _=>hs2⟩ Qs
   ·have hkl:k=acc.length:=by omega
    refine Aw rfl rfl rfl rfl rfl (Aw rfl rfl rfl rfl rfl (Aw rfl rfl rfl rfl rfl (Aw rfl rfl rfl rfl rfl (Aw rfl rfl rfl rfl rfl (Aw rfl rfl rfl rfl rfl (Aw rfl rfl rfl rfl rfl (Aw rfl rfl rfl rfl rfl (AY (Qk rfl (Qm rfl (Am (AP rfl (Av (Aa (Aa (Af ?_))))))))))))))));exact AD _ ⟨k,rfl,rfl,rfl,hk,Vb hk hlo fun h=>absurd h (by omega)⟩ Qs
  ·obtain⟨k,rfl,rfl,rfl,hk,hins,hhas⟩:=hI;have hil2:=OD l[i] acc;refine A9 (fun s h' ms'=>s=[(0,v),(4,vo),(5,.int .i64 i),(6,.int .i64 k)]/\h=h'/\ms'=[mo]/\¬Lz l[i] acc) ?_ (fun s h ms hI=>?_)
   ·refine Ac (Bc 13 CS (by kernel_rfl) rfl (Wm rfl (Wm rfl (AR (Ar hcl.rd rfl AU rfl) rfl rfl (Wm rfl (Wm rfl ?_))))));refine Cs (t:=35) rfl (fun g1=>?_) (fun g1=>?_)
    ·have hkl:k<acc.length:=CC g1;have hck:Cell h [mo] ((AF vo).add (k*1)) (.int .i64 acc[k]):=hcl.cell0 hkl rfl;refine AG (Au rfl rfl) rfl rfl rfl rfl (AG (Au rfl rfl) rfl rfl rfl rfl (AG (BF (k) hcl.rd rfl AU A6 rfl rfl) rfl rfl rfl rfl (AG (oL rfl U3 (hck)) rfl rfl rfl rfl (AG (Au rfl rfl) rfl rfl rfl rfl (AG (Au rfl rfl) rfl rfl rfl rfl (AG (BF (i) hR.rd.any rfl AU A6 rfl rfl) rfl rfl rfl rfl (AG (oL rfl U3 (hci _)) rfl rfl rfl rfl (AY (Qg (CU rfl rfl rfl) rfl (Qm rfl (Am ?_)))))))))));refine Aq rfl (fun g2=>?_) (fun g2=>?_)
     ·rw[if_pos (hhas.2 ⟨hkl,g2⟩)]at he;refine Av (Aa (Af (Ab (Ad (Qm rfl (Qx (oA rfl) rfl (Qm rfl (Ak ?_))))))));exact Al (l.length-(i+1)) _ (by omega) ⟨i+1,vo,mo,acc,rfl,rfl,rfl,rfl,by omega,ha9,hO,he⟩ Qs
     ·refine Ah ?_;exact AD _ ⟨rfl,rfl,rfl,fun q=>g2 (hhas.1 q).2⟩ Qs
    ·refine Aw rfl rfl rfl rfl rfl (Aw rfl rfl rfl rfl rfl (Aw rfl rfl rfl rfl rfl (Aw rfl rfl rfl rfl rfl (Aw rfl rfl rfl rfl rfl (Aw rfl rfl rfl rfl rfl (Aw rfl rfl rfl rfl rfl (Aw rfl rfl rfl rfl rfl (AY (Qk rfl (Qm rfl (Am (AP rfl (Ah ?_)))))))))))));exact AD _ ⟨rfl,rfl,rfl,fun q=>absurd (hhas.1 q).1 (by omega)⟩ Qs
   ·obtain⟨rfl,rfl,rfl,hnh⟩:=hI;rw[if_neg hnh]at he;refine Ac (Bc 8 CS (by kernel_rfl) rfl (Wm rfl (Wm rfl (AR (BF (i) hR.rd.any rfl AU A6 rfl rfl) rfl rfl (Wl rfl U3 (hci _) (Vv (EL [_] rfl AU A6 rfl (by rfl) rfl rfl (by omega)) rfl rfl (Wm rfl (Wm rfl (AR (CE (k) hcl.rd rfl AU A6 rfl rfl (by omega) (by omega)) rfl rfl (IK (fun g50=>AO 0 (OwnL.blk (g:=g50) (el:=3) (F:=cI) (l:=[l[i]]) 1 Bg rfl (by decide)) ((hO.rd (h:=h) (List.Mem.tail _ Mh)).sub_ hk (Nat.le_refl _)) rfl AU A6 rfl (by omega) rfl rfl rfl Cb (by(try simp only[length_singleton,length_nil,length_append,length_take,length_drop,nil_append]);omega) (by(try simp only[length_singleton,length_nil,length_append,length_take,length_drop,nil_append]);omega) rfl rfl rfl (fun v6 m6 hO6=>?_))))))))))));have ov6:=hO6.o1;refine Qm rfl (BK ?_);refine Ax [] [] [] rfl AU A6 rfl (by omega) (by kernel_rfl) (by repeat (first|exact trivial|refine⟨⟨by first|rfl|exact(hcl.rd).cells|exact Rd.cells ‹_›|exact(RdL.rd ‹_›).cells,rfl,rfl⟩,?_⟩)) rfl rfl rfl rfl (fun g55=>?_);refine Qm rfl (Qm rfl (Qx (EA (k) hcl.rd rfl AU A6 rfl rfl (by omega) (by omega)) rfl (AO 0 (EC g55 Bg) ((hO.rd (h:=h) (List.Mem.tail _ (List.Mem.tail _ Mh))).sub_ (Nat.zero_le _) hk) rfl AU A6 rfl (by omega) rfl rfl rfl Cb (by(try simp only[length_singleton,length_nil,length_append,length_take,length_drop,nil_append]);omega) (by(try simp only[length_singleton,length_nil,length_append,length_take,length_drop,nil_append]);omega) rfl rfl rfl (fun v7 m7 hO7=>Qm rfl (AO 0 hO7 (hO6.rd (h:=h) (List.Mem.tail _ Mh)) rfl AU A6 rfl (by omega) rfl rfl rfl Cb (by(try simp only[length_singleton,length_nil,length_append,length_take,length_drop,nil_append]);omega) (by(try simp only[length_singleton,length_nil,length_append,length_take,length_drop,nil_append]);omega) rfl rfl rfl (fun v8 m8 hO8=>?_))))))
    have heq:[]++(acc.drop 0).take (k-0)++([l[i]]++(acc.drop k).take (acc.length-k))=JN l[i] acc:=by rw[hins,drop_zero,Nat.sub_zero,take_of_length_le (l:=acc.drop k) (by rw[length_drop];omega)];rfl
    rw[heq]at hO8;have ov8:=hO8.o1;refine Qm rfl (Am (Zl (Goes.perm (List.perm_append_comm (l₁:=[m8]) (l₂:=[m6,mo]))) ?_));refine VH (VH ?_);refine As (Qm rfl (Qm rfl (Qx (BF (i) hR.rd.any rfl AU A6 rfl rfl) rfl (Ql rfl U3 (hci _) (Qm rfl (Qm rfl ?_))))));refine AQ (t:=67) rfl (fun g3=>?_) (fun g3=>?_)
    ·rw[if_pos (.inl g3)]at he;refine Qk rfl (Qk rfl (Qk rfl (Qm rfl (Am (BE rfl (As (Qm rfl (Qm rfl (Am (An (Aj (Ae (Ae (Aj (Ae ?_)))))))))))))));exact Bo rfl rfl rfl (⟨rfl,by rw[he];rfl⟩)
    ·refine Qg (Au rfl rfl) rfl (Qg (D8 (hO8.rd (h:=h) (ms:=[m8]) Mh).rd rfl AU rfl) rfl (Qg (Cw rfl rfl rfl) rfl (Qm rfl (Am ?_))));refine Aq rfl (fun g4=>?_) (fun g4=>?_)
     ·rw[if_pos (.inr (by omega))]at he;refine As (Qm rfl (Qm rfl (Am (An (Aj (Ae (Ae (Aj (Ae ?_)))))))));exact Bo rfl rfl rfl (⟨rfl,by rw[he];rfl⟩)
     ·rw[if_neg (by omega)]at he;refine Ah (Ai (Ab (Ad (Qm rfl (Qx (oA rfl) rfl (Qm rfl (Ak ?_)))))));exact Al (l.length-(i+1)) _ (by omega) ⟨i+1,v8,m8,_,rfl,rfl,rfl,rfl,by omega,by omega,hO8,he⟩ Qs
 ·have hie:i=l.length:=by omega
  rw[hie,List.drop_length]at he;have he:D6 [] l=some acc:=he;refine Av (Aa (Aa (Af (Ab (As (Qm rfl (Qm rfl (Qm rfl (Am (An ?_))))))))));exact Bo rfl rfl rfl (⟨rfl,by rw[he];exact⟨vo,mo,rfl,rfl,hO⟩⟩)
def cW(v:Value):List Value:=[v]
theorem DG:∀v,(cW v).length=1:=fun _=>rfl
def RdEs(h:Hp)(es:List Value)(ll:List (List Int)):Prop:=es.length=ll.length/\∀i (h1:i<es.length) (h2:i<ll.length),RdL cI 1 h [] es[i] ll[i]
theorem RdEs.up{h h':Hp}{es:List Value}{ll:List (List Int)}(R:RdEs h es ll)(l:h.le h'):RdEs h' es ll:=⟨R.1,fun i h1 h2=>(R.2 i h1 h2).up l⟩
def DR(ll:List (List Int))(s:List Int):Nat:=(ll.takeWhile fun t=>Dh t s).length
def C0(ll:List (List Int))(s:List Int):Nat×Bool:=(DR ll s,match ll[DR ll s]? with|some t=>!Dh s t|none=>false)
theorem Xb{ll:List (List Int)}{s:List Int}{k:Nat}(hk:k<=ll.length)(h1:∀j (hj:j<ll.length),j<k->Dh ll[j] s=true)(h2:∀hk:k<ll.length,Dh ll[k] s=false):DR ll s=k:=by obtain⟨e1,_⟩:=Ek (fun t=>Dh t s) ll k hk h1 h2;unfold DR;rw[e1,length_take];omega
theorem Rq(ll:List (List Int))(s:List Int)(es:List Value)(v vs:Value)(h:Hp)(hn:ll.length<=1000000)(hm:∀i j (hi:i<ll.length) (hj:j<ll.length),i<=j->Dh ll[j] s=true->Dh ll[i] s=true)(hV:RdL cW 1 h [] v es)(hE:RdEs h es ll)(hS:RdL cI 1 h [] vs s)(ms:List Hp):FnV Tryz.prog 169 #[v,vs] h ms (.tuple #[.int .i64 (C0 ll s).1,.bool (C0 ll s).2]):=by
 refine EO ?_ ms;have o1:=hV.rd.one;have o2:=hS.rd.one;have hle:=hE.1;refine Ap func169 ntmps169 rfl rfl (fun w0 hw0=>?_);simp only[AX];refine As (Qm rfl (Qm rfl (BK (Qm rfl (BK (Qm rfl (Qx (Ar hV.rd.any rfl Ch rfl) rfl (Qm rfl (Am (Ac (Ag ?_)))))))))))
 refine Ay (fun q sl h' ms'=>∃(lo hi:Nat),q=hi-lo/\sl=[(0,v),(1,vs),(6,.int .i64 lo),(7,.int .i64 hi)]/\h=h'/\ms'=[]/\lo<=hi/\hi<=ll.length/\(∀j (hj:j<ll.length),j<lo->Dh ll[j] s=true)/\∀j (hj:j<ll.length),hi<=j->Dh ll[j] s=false)
  (ll.length-0) _ ⟨0,ll.length,rfl,by rw[<-hle],rfl,rfl,by omega,by omega,fun j hj h=>by omega,fun j hj h=>by omega⟩ Qs ?_
 rintro q sl h' ms' ⟨lo,hi,rfl,rfl,rfl,rfl,hlh,hhl,hlo,hhi⟩;refine Ac (As (Qm rfl (Qm rfl (Qm rfl (Am ?_)))));refine Aq rfl (fun hlt=>?_) (fun hlt=>?_)
 ·obtain⟨m,hmm⟩:∃m,(lo+hi)/2=m:=⟨_,rfl⟩
  have hml:m<ll.length:=by omega
  have hme:m<es.length:=by omega
  have hmt:((lo:Int)+hi)/2=(m:Int):=by omega
  have hcm:Cell h [] ((AF v).add (m*1)) es[m]:=hV.cell0 hme rfl;have oem:=(hE.2 m hme hml).rd.one;refine Ah (Ab (Ag (As (Qm rfl (Qm rfl (Qx (oA rfl) rfl (Qx (Gi rfl rfl rfl (by omega) (by omega)) rfl (Qm rfl (Am ?_)))))))));rw[hmt];refine As (Qm rfl (Qm rfl (Qx (BF (m) hV.rd.any rfl Ch Cr rfl rfl) rfl (Ql rfl AU (hcm) (Qm rfl (Qx (AL rfl call208 rfl (OW ll[m] s _ _ h (hE.2 m hme hml) hS _)) rfl (Am ?_)))))));refine Bz rfl (fun hb=>?_) (fun hb=>?_)
  ·refine Ad (Qm rfl (Qx (oA rfl) rfl (Qm rfl (Ak (Ai ?_)))));exact Al (hi-(m+1)) _ (by omega) ⟨m+1,hi,rfl,rfl,rfl,rfl,by omega,by omega,fun j hj h=>hm j m hj hml (by omega) hb,hhi⟩ Qs
  ·refine Ad (Qm rfl (Qm rfl (Ak (Ai ?_))))
   exact Al (m-lo) _ (by omega) ⟨lo,m,rfl,rfl,rfl,rfl,by omega,by omega,hlo,fun j hj h=>by
    cases hq:Dh ll[j] s with
    | false=>rfl
    | true=>rw[hm m j hml hj h hq]at hb;cases hb⟩ Qs
 ·obtain rfl:lo=hi:=by omega
  have hcnt:DR ll s=lo:=Xb hhl hlo fun hk=>hhi lo hk (Nat.le_refl _);have hp1:(C0 ll s).1=lo:=hcnt;refine Av (Aa (Aa (Af (Ab (As (Qm rfl (Qm rfl (Qm rfl (Qx (Ar hV.rd.any rfl Ch rfl) rfl (Qm rfl (Qm rfl ?_)))))))))));refine AQ (t:=32) rfl (fun g1=>?_) (fun g1=>?_)
  ·have hll:lo<ll.length:=by omega
   have hle2:lo<es.length:=by omega
   have hcl:Cell h [] ((AF v).add (lo*1)) es[lo]:=hV.cell0 hle2 rfl;have oel:=(hE.2 lo hle2 hll).rd.one;have hp2:(C0 ll s).2=!Dh s ll[lo]:=by unfold C0;rw[hcnt,List.getElem?_eq_getElem hll]
   refine Qg (Au rfl rfl) rfl (Qg (Au rfl rfl) rfl (Qg (Au rfl rfl) rfl (Qg (BF (lo) hV.rd.any rfl Ch Cr rfl rfl) rfl (Qg (oL rfl AU (hcl)) rfl (Qg (AL rfl call208 rfl (OW s ll[lo] _ _ h hS (hE.2 lo hle2 hll) _)) rfl (Qg (G6 rfl rfl) rfl (Qm rfl (Qm rfl (Qm rfl (Am (An ?_)))))))))));exact Bo rfl rfl rfl (by rw[hp1,hp2])
  ·have hp2:(C0 ll s).2=false:=by unfold C0;rw[hcnt,List.getElem?_eq_none (by omega)]
   refine Qk rfl (Qk rfl (Qk rfl (Qk rfl (Qk rfl (Qk rfl (Qk rfl (Qm rfl (Qm rfl (Qm rfl (Am (An ?_)))))))))));exact Bo rfl rfl rfl (by rw[hp1,hp2])
end Go.Proofs.Q
namespace Go.Proofs.Q
open Go.Eng Go.RowKit
variable {all:List (List Int)} {a b:List Int}
theorem Pd:∀a:List Int,G5 a a=false
 | []=>rfl
 | x::a=>by unfold G5;rw[if_pos rfl];exact Pd a
theorem KH:∀{a b c:List Int},G5 a b=true->G5 b c=true->G5 a c=true
 | x::a,y::b,z::c,h1,h2=>by
  unfold G5 at *;by_cases e1:x=y
  ·subst e1;rw[if_pos rfl]at h1;by_cases e2:x=z
   ·subst e2;rw[if_pos rfl]at h2 ⊢;exact KH h1 h2
   ·rw[if_neg e2]at h2 ⊢;exact h2
  ·rw[if_neg e1]at h1;have h1:=of_decide_eq_true h1;by_cases e2:y=z
   ·subst e2;rw[if_neg e1];exact decide_eq_true h1
   ·rw[if_neg e2]at h2;have h2:=of_decide_eq_true h2;rw[if_neg (by omega)];exact decide_eq_true (by omega)
 | [],_,_,h1,_=>by cases h1
 | _::_,[],_,h1,_=>by cases h1
 | _::_,_::_,[],_,h2=>by cases h2
theorem K9:∀{a b:List Int},a.length=b.length->a≠b->G5 a b=true\/G5 b a=true
 | [],[],_,h=>absurd rfl h
 | x::a,y::b,hl,h=>by
  unfold G5;by_cases e:x=y
  ·subst e;rw[if_pos rfl,if_pos rfl];exact K9 (by simpa using hl) (fun q=>h (by rw[q]))
  ·rw[if_neg e,if_neg (fun q=>e q.symm)];rcases Int.lt_or_gt_of_ne e with h1|h1
   ·exact .inl (decide_eq_true h1)
   ·exact .inr (decide_eq_true h1)
 | [],_::_,hl,_=>by simp at hl
 | _::_,[],hl,_=>by simp at hl
theorem befF_iff:Dh a b=true<->a.length<b.length\/(a.length=b.length/\G5 a b=true):=by
 unfold Dh;split
 ·rename_i h;rw[decide_eq_true_iff];exact⟨.inl,fun q=>by rcases q with q|⟨q,_⟩;exact q;exact absurd q h⟩
 ·rename_i h;have h:a.length=b.length:=Classical.not_not.1 h;exact⟨fun q=>.inr ⟨h,q⟩,fun q=>by rcases q with q|⟨_,q⟩;omega;exact q⟩
theorem G8(a:List Int):Dh a a=false:=by
 cases h:Dh a a with
 | false=>rfl
 | true=>
  rcases befF_iff.1 h with q|⟨_,q⟩
  ·omega
  ·rw[Pd]at q;cases q
theorem Kh{c:List Int}(h1:Dh a b=true)(h2:Dh b c=true):Dh a c=true:=by
 rw[befF_iff]at *;rcases h1 with h1|⟨h1,h3⟩<;>rcases h2 with h2|⟨h2,h4⟩
 ·exact .inl (by omega)
 ·exact .inl (by omega)
 ·exact .inl (by omega)
 ·exact .inr ⟨by omega,KH h3 h4⟩
theorem Ki(h:a≠b):Dh a b=true\/Dh b a=true:=by
 rw[befF_iff,befF_iff];rcases Nat.lt_trichotomy a.length b.length with h1|h1|h1
 ·exact .inl (.inl h1)
 ·rcases K9 h1 h with h2|h2
  ·exact .inl (.inr ⟨h1,h2⟩)
  ·exact .inr (.inr ⟨h1.symm,h2⟩)
 ·exact .inr (.inl h1)
def SrtB(all:List (List Int)):Prop:=all.Pairwise fun a b=>Dh a b=true
theorem SrtB.mono(H:SrtB all)(s:List Int):∀i j (hi:i<all.length) (hj:j<all.length),i<=j->Dh all[j] s=true->Dh all[i] s=true:=fun i j hi hj hij h=>by
 rcases (by omega:i=j\/i<j) with rfl|h1
 ·exact h
 ·exact Kh (List.pairwise_iff_getElem.1 H i j hi hj h1) h
theorem IJ(ll:List (List Int))(s:List Int):DR ll s<=ll.length:=(List.takeWhile_sublist _).length_le
theorem MH{α:Type}(p:α->Bool):∀l:List α,(∀j (hj:j<l.length),j<(l.takeWhile p).length->p l[j]=true)/\∀h:(l.takeWhile p).length<l.length,p l[(l.takeWhile p).length]=false
 | []=>⟨fun j hj=>absurd hj (by simp),fun h=>absurd h (by simp)⟩
 | a::l=>by
  obtain⟨h1,h2⟩:=MH p l;cases ha:p a with
  | false=>
   have e:(a::l).takeWhile p=[]:=by simp[List.takeWhile,ha]
   refine⟨fun j _ h=>?_,fun h=>?_⟩
   ·rw[e]at h;simp at h
   ·have:∀k (hk:k<(a::l).length),k=0->p (a::l)[k]=false:=fun k hk q=>by subst q;exact ha
    exact this _ h (by rw[e];rfl)
  | true=>
   have e:(a::l).takeWhile p=a::l.takeWhile p:=by simp[List.takeWhile,ha]
   refine⟨fun j hj h=>?_,fun h=>?_⟩
   ·cases j with
    | zero=>exact ha
    | succ j=>
     rw[e,length_cons]at h;exact h1 j (by simpa using hj) (by omega)
   ·have:∀k (hk:k<(a::l).length),k=(l.takeWhile p).length+1->p (a::l)[k]=false:=fun k hk q=>by subst q;exact h2 (by simpa using hk)
    exact this _ h (by rw[e];rfl)
theorem IC(ll:List (List Int))(s:List Int){j:Nat}(hj:j<ll.length)(h:j<DR ll s):Dh ll[j] s=true:=(MH (fun t=>Dh t s) ll).1 j hj h
theorem Jt{ll:List (List Int)}{s:List Int}(hk:DR ll s<ll.length):Dh ll[DR ll s] s=false:=(MH (fun t=>Dh t s) ll).2 hk
theorem Ma(H:SrtB all){s:List Int}:(C0 all s).2=true<->s∈all:=by
 have hc:=IJ all s;unfold C0;show(match all[DR all s]? with|some t=>!Dh s t|none=>false)=true<->_;by_cases hk:DR all s<all.length
 ·rw[List.getElem?_eq_getElem hk];have h1:=Jt hk;show(!Dh s all[DR all s])=true<->_;constructor
  ·intro h;have h2:Dh s all[DR all s]=false:=by simpa using h
   have e:all[DR all s]=s:=Classical.byContradiction fun q=>by
    rcases Ki q with r|r
    ·rw[h1]at r;cases r
    ·rw[h2]at r;cases r
   rw[<-e];exact getElem_mem hk
  ·intro h;obtain⟨j,hj,rfl⟩:=List.mem_iff_getElem.1 h;rcases Nat.lt_trichotomy j (DR all all[j]) with h3|h3|h3
   ·have:=IC all all[j] hj h3;rw[G8]at this;cases this
   ·have e:all[DR all all[j]]=all[j]:=by congr 1;omega
    rw[e,G8];rfl
   ·have h4:=List.pairwise_iff_getElem.1 H _ j hk hj h3;rw[h1]at h4;cases h4
 ·rw[List.getElem?_eq_none (by omega)];refine⟨fun h=>(nomatch h),fun h=>?_⟩;obtain⟨j,hj,rfl⟩:=List.mem_iff_getElem.1 h;have:=IC all all[j] hj (by omega);rw[G8]at this;cases this
theorem N2(H:SrtB all){j:Nat}(hj:j<all.length):(C0 all all[j]).1=j:=by
 show DR all all[j]=j;have hc:=IJ all all[j];rcases Nat.lt_trichotomy j (DR all all[j]) with h3|h3|h3
 ·have:=IC all all[j] hj h3;rw[G8]at this;cases this
 ·exact h3.symm
 ·have hk:DR all all[j]<all.length:=by omega
  have h4:=List.pairwise_iff_getElem.1 H _ j hk hj h3;rw[Jt hk]at h4;cases h4
def HX(all:List (List Int))(s:List Int):List (List Int):=if(C0 all s).2 then all else all.take (DR all s)++s::all.drop (DR all s)
theorem Pn(H:SrtB all)(s:List Int):SrtB (HX all s)/\∀t,t∈HX all s<->t=s\/t∈all:=by
 unfold HX;by_cases hp:(C0 all s).2=true
 ·rw[if_pos hp];have:=(Ma H).1 hp;exact⟨H,fun t=>⟨.inr,fun h=>by rcases h with rfl|h;exact this;exact h⟩⟩
 ·rw[if_neg hp];have hn:s ∉ all:=fun h=>hp ((Ma H).2 h);refine⟨?_,fun t=>?_⟩
  ·have hlow:∀t∈all.take (DR all s),Dh t s=true:=fun t ht=>by obtain⟨j,hj,rfl⟩:=List.mem_iff_getElem.1 ht;rw[List.getElem_take];rw[length_take]at hj;exact IC all s (by omega) (by omega)
   have hhigh:∀t∈all.drop (DR all s),Dh s t=true:=fun t ht=>by
    obtain⟨j,hj,rfl⟩:=List.mem_iff_getElem.1 ht;rw[List.getElem_drop];rw[length_drop]at hj;have hk:DR all s<all.length:=by omega
    have h1:=Jt hk
    have h2:Dh s all[DR all s]=true:=by
     rcases Ki (a:=s) (b:=all[DR all s]) (fun q=>hn (by rw[q];exact getElem_mem hk)) with r|r
     ·exact r
     ·rw[h1]at r;cases r
    rcases Nat.eq_zero_or_pos j with rfl|h3
    ·exact h2
    ·exact Kh h2 (List.pairwise_iff_getElem.1 H _ (DR all s+j) hk (by omega) (by omega))
   have hsplit:SrtB (all.take (DR all s)++all.drop (DR all s)):=by rw[List.take_append_drop];exact H
   obtain⟨p1,p2,p3⟩:=List.pairwise_append.1 hsplit;refine List.pairwise_append.2 ⟨p1,List.pairwise_cons.2 ⟨hhigh,p2⟩,fun a ha b hb=>?_⟩;rcases List.mem_cons.1 hb with rfl|hb
   ·exact hlow a ha
   ·exact p3 a ha b hb
  ·rw[mem_append,mem_cons];constructor
   ·rintro(h|h|h)
    ·exact .inr (mem_of_mem_take h)
    ·exact .inl h
    ·exact .inr (List.mem_of_mem_drop h)
   ·rintro(h|h)
    ·exact .inr (.inl h)
    ·rw[<-List.take_append_drop (DR all s) all]at h;rcases List.mem_append.1 h with h|h
     ·exact .inl h
     ·exact .inr (.inr h)
theorem V9(all:List (List Int))(s:List Int):(HX all s).length<=all.length+1:=by
 unfold HX;split
 ·omega
 ·rw[length_append,length_cons,length_take,length_drop];have:=IJ all s;omega
def Ei(s:List Int)(b n:Nat):List Int:=((range n).filter fun k=>b.testBit k).map fun k=>s.getD k 0
theorem Hz(s:List Int)(b n:Nat):Ei s b (n+1)=Ei s b n++(if b.testBit n then [s.getD n 0] else []):=by
 unfold Ei;rw[range_succ,List.filter_append,map_append];congr 1;by_cases h:b.testBit n=true
 ·rw[if_pos h];simp[h]
 ·rw[if_neg h];simp[h]
def CN(all:List (List Int))(s:List Int):Nat->List (List Int)
 | 0=>all
 | b+1=>HX (CN all s b) (Ei s (b+1) s.length)
def Cu:List (List Int)->List (List Int)->Option (List (List Int))
 | all,[]=>some all
 | all,l::ll=>
  let a2:=match D6 [] l with
   | some s=>CN all s (2^s.length-1)
   | none=>all
  if 4000<a2.length then none else Cu a2 ll
theorem Ej(H:SrtB all)(s:List Int):∀b,SrtB (CN all s b)
 | 0=>H
 | b+1=>(Pn (Ej H s b) _).1
theorem Gv(all:List (List Int))(s:List Int):∀b,(CN all s b).length<=all.length+b
 | 0=>Nat.le_refl _
 | b+1=>by have h1:=Gv all s b;have h2:=V9 (CN all s b) (Ei s (b+1) s.length);show(HX _ _).length<=_;omega
def DI(all:List (List Int))(i:Nat):Cl:=
 ⟨(i:Int)+1,((all.getD i []).length:Int)-1,if(all.getD i []).length<=1 then [] else Ca ((range (all.getD i []).length).map fun k=>(((C0 all ((all.getD i []).eraseIdx k)).1:Int)+1,1-2*((k:Int)%2)))⟩
def Eb(ll:List (List Int)):List Cl:=match Cu [] ll with
 | some all=>(range all.length).map (DI all)
 | none=>[]
end Go.Proofs.Q
namespace Go.Proofs.Q
open Go.Proofs.Tryz
open Go.Eng Go.RowKit
variable {es:List Value}
theorem RdEs.nil(h:Hp):RdEs h [] []:=⟨rfl,fun i h1=>absurd h1 (by simp)⟩
theorem Gp(H:∀u∈es,u.oneCell'=true):∀a∈es,∀c∈cW a,c.oneCell'=true:=fun a ha c hc=>by rw[List.mem_singleton.1 hc];exact H a ha
theorem LN{e:Entry}{Q:Exit->Act->World->Prop}{ops:Array Oper}{r:List Oper}{s:AB}{ms:List Hp}:∀(pre:List Hp) (h:Hp),(∀h',h.le h'->(∀m∈pre,m.le h')->WL e ops Q r s h' ms)->WL e ops Q r s h (pre++ms)
 | [],h,k=>k h (C9) (fun m hm=>by cases hm)
 | m::pre,h,k=>AH fun h1 l1 k1=>LN pre h1 fun h2 l2 k2=>k h2 (AJ l1 l2) fun m' hm=>by
  rcases List.mem_cons.1 hm with rfl|hm
  ·exact AJ k1 l2
  ·exact k2 m' hm
def Tj(all:List (List Int)):Option (List Int)->List (List Int)
 | some s=>CN all s (2^s.length-1)
 | none=>all
theorem DA(all:List (List Int))(l:List Int)(ll:List (List Int)):Cu all (l::ll)=if 4000<(Tj all (D6 [] l)).length then none else Cu (Tj all (D6 [] l)) ll:=by show(let a2:=match D6 [] l with|some s=>CN all s (2^s.length-1)|none=>all;if 4000<a2.length then none else Cu a2 ll)=_;cases D6 [] l<;>rfl
theorem Tz{r:Value}{ms:List Hp}{o:Option (List Int)}(H:Aav r ms o)(h9:∀s,o=some s->s.length<=9):∃(vs:Value) (s:List Int) (b:Bool),r=.tuple #[vs,.bool b]/\((∀h,(∀m∈ms,m.le h)->RdL cI 1 h [] vs s)/\s.length<=9)/\∀all,Tj all o=if b then CN all s (2^s.length-1) else all:=by
 cases o with
 | none=>exact⟨_,[],false,H,⟨fun h _=>⟨Rd.nil _ _ _,Bg⟩,by simp⟩,fun all=>rfl⟩
 | some s=>
  obtain⟨v,m,rfl,e,O⟩:=H;exact⟨v,s,true,e,⟨fun h hm=>O.rdh (hm m Mh),h9 s rfl⟩,fun all=>rfl⟩
theorem Iu:∀(l acc:List Int) (s:List Int),acc.length<=9->D6 acc l=some s->s.length<=9
 | [],acc,s,h,e=>by have:acc=s:=Option.some.inj e;rw[<-this];exact h
 | x::l,acc,s,h,e=>by
  unfold D6 at e;split at e
  ·exact Iu l acc s h e
  ·split at e
   ·cases e
   ·exact Iu l _ s (by omega) e
theorem RdEs.ones{h:Hp}{ll:List (List Int)}(H:RdEs h es ll):∀u∈es,u.oneCell'=true:=fun u hu=>by obtain⟨i,hi,rfl⟩:=List.mem_iff_getElem.1 hu;exact(H.2 i hi (by have:=H.1;omega)).rd.one
theorem RdEs.ins{h:Hp}{ll:List (List Int)}(H:RdEs h es ll){v:Value}{t:List Int}(hv:RdL cI 1 h [] v t)(k:Nat)(hk:k<=ll.length):RdEs h (es.take k++v::es.drop k) (ll.take k++t::ll.drop k):=by
 have hl:=H.1;refine⟨by simp[hl],fun i h1 h2=>?_⟩;rcases Nat.lt_trichotomy i k with h3|h3|h3
 ·rw[List.getElem_append_left (by rw[length_take];omega),List.getElem_append_left (by rw[length_take];omega),List.getElem_take,List.getElem_take];exact H.2 i (by omega) (by omega)
 ·subst h3;rw[getElem_append_right (by rw[length_take];omega),getElem_append_right (by rw[length_take];omega)];have e1:i-(es.take i).length=0:=by rw[length_take];omega
  have e2:i-(ll.take i).length=0:=by rw[length_take];omega
  simp only[e1,e2,List.getElem_cons_zero];exact hv
 ·rw[length_append,length_cons,length_take,length_drop]at h1 h2;rw[getElem_append_right (by rw[length_take];omega),getElem_append_right (by rw[length_take];omega)];have e1:i-(es.take k).length=(i-k-1)+1:=by rw[length_take];omega
  have e2:i-(ll.take k).length=(i-k-1)+1:=by rw[length_take];omega
  simp only[e1,e2,List.getElem_cons_succ,List.getElem_drop];have e3:k+(i-k-1)=i-1:=by omega
  simp only[e3];exact H.2 (i-1) (by omega) (by omega)
theorem H7{all:List (List Int)}(H:SrtB all)(s:List Int):∀n,∀t,t∈CN all s n<->t∈all\/∃b,1<=b/\b<=n/\t=Ei s b s.length
 | 0,t=>⟨.inl,fun h=>by rcases h with h|⟨b,h1,h2,_⟩;exact h;omega⟩
 | n+1,t=>by
  show t∈HX (CN all s n) (Ei s (n+1) s.length)<->_;rw[(Pn (Ej H s n) _).2 t,H7 H s n t];constructor
  ·rintro(h|h|⟨b,h1,h2,h3⟩)
   ·exact .inr ⟨n+1,by omega,by omega,h⟩
   ·exact .inl h
   ·exact .inr ⟨b,h1,by omega,h3⟩
  ·rintro(h|⟨b,h1,h2,h3⟩)
   ·exact .inr (.inl h)
   ·rcases (by omega:b<=n\/b=n+1) with h4|rfl
    ·exact .inr (.inr ⟨b,h1,h4,h3⟩)
    ·exact .inl h3
theorem OP(s:List Int)(b n:Nat):(Ei s b n).length<=n:=by unfold Ei;rw[length_map];exact Nat.le_trans (List.length_filter_le _ _) (by simp)
theorem EW:∀(ll acc all:List (List Int)),SrtB acc->(∀t∈acc,t.length<=9)->Cu acc ll=some all->∀t∈all,t.length<=9
 | [],acc,all,_,h,e=>by have:acc=all:=Option.some.inj e;rw[<-this];exact h
 | l::ll,acc,all,hS,h,e=>by
  rw[DA]at e;split at e
  ·cases e
  ·refine EW ll _ all ?_ ?_ e
   ·cases D6 [] l with
    | none=>exact hS
    | some s=>exact Ej hS s _
   ·cases hs:D6 [] l with
    | none=>exact h
    | some s=>
     intro t ht;rcases (H7 hS s _ t).1 ht with h1|⟨b,_,_,rfl⟩
     ·exact h t h1
     ·exact Nat.le_trans (OP _ _ _) (Iu _ _ s (by simp) hs)
def N0(all:List (List Int))(S:List Int)(k:Nat):List (Int×Int):=(range k).map fun k=>(((C0 all (S.eraseIdx k)).1:Int)+1,1-2*((k:Int)%2))
theorem SZ(all:List (List Int))(S:List Int)(k:Nat):N0 all S (k+1)=N0 all S k++[(((C0 all (S.eraseIdx k)).1:Int)+1,1-2*((k:Int)%2))]:=by unfold N0;rw[range_succ,map_append];rfl
theorem IY(all:List (List Int))(S:List Int)(k:Nat):(N0 all S k).length=k:=by simp[N0]
theorem HL(ll:List (List Int))(es0:List Value)(v:Value)(h:Hp)(hn:ll.length<=100000)(hn2:∀l∈ll,l.length<=100000)(hV:RdL cW 1 h [] v es0)(hE:RdEs h es0 ll):FnT Tryz.prog 104 #[v] h [] (fun r h' ms'=>h.le h'/\∃m A v',ms'=[m]/\r=.agg #[v']/\OwnL cC 3 52 m v' A/\A.map Ce.c=Eb ll/\∀a∈A,RdL cD 2 h' [] a.v a.c.sd):=by
 have o1:=hV.rd.one;have hle:=hE.1;refine Ap func104 ntmps104 rfl rfl (fun w0 hw0=>?_);simp only[AX];refine As (Cz [.slice none 0 0] rfl AW rfl rfl (fun g2=>BK (Qm rfl (Am (Ac (As (Qm rfl (Am (Ag (BJ ?_))))))))))
 refine Ay (fun q s hh ms'=>∃(i:Nat) (v3:Value) (m3:Hp) (es:List Value) (all:List (List Int)),q=ll.length-i/\s=[(0,v),(2,.pointer (some ⟨g2,0,none⟩)),(3,v3),(4,.int .i64 i)]/\h.le hh/\ms'=[m3,Bn g2 29 [.slice none 0 0]]/\i<=ll.length/\OwnL cW 1 22 m3 v3 es/\RdEs hh es all/\SrtB all/\all.length<=4000/\Cu [] ll=Cu all (ll.drop i))
  (ll.length-0) _ ⟨0,_,Hp.emp,[],[],rfl,rfl,C9,rfl,by omega,OwnL.nil DG,RdEs.nil _,List.Pairwise.nil,by simp,rfl⟩ Qs ?_
 rintro q s hh ms' ⟨i,v3,m3,es,all,rfl,rfl,lh,rfl,hi,hO,hEs,hSrt,hal,he⟩;have hV:=hV.up lh;have hE:=hE.up lh;refine Ac (As (Qm rfl (Qm rfl (Qx (Ar hV.rd.any rfl Ch rfl) rfl (Qm rfl (Am ?_))))));refine Aq rfl (fun hlt=>?_) (fun hlt=>?_)
 ·have hil:i<ll.length:=by omega
  have hie:i<es0.length:=by omega
  have hci:∀ms,Cell hh ms ((AF v).add (i*1)) es0[i]:=fun ms=>(hV.any (ms:=ms)).cell0 hie rfl;have oei:=(hE.2 i hie hil).rd.one;have hd:Cu all (ll.drop i)=if 4000<(Tj all (D6 [] ll[i])).length then none else Cu (Tj all (D6 [] ll[i])) (ll.drop (i+1)):=by rw[List.drop_eq_getElem_cons hil,DA]
  have ov3:=hO.o1;refine Ah (Ab (Ac (Ag (As (Qm rfl (Qm rfl (Qx (BF (i) hV.rd.any rfl Ch Cr rfl rfl) rfl (Ql rfl AU (hci _) (Qc call168 rfl (Zq ll[i] es0[i] hh (hn2 _ (getElem_mem hil)) (hE.2 i hie hil)) (fun rs h2 ms2 l2 hF=>?_))))))))));obtain⟨rfl,hF⟩:=hF;have hsl:∀s,D6 [] ll[i]=some s->s.length<=9:=fun s e=>Iu _ _ s (by simp) e;obtain⟨vs,s,b,rfl,hRs,hmt⟩:=Tz hF hsl;refine LN ms2 hh fun h3 l3 k3=>?_;obtain⟨hRs,hs9⟩:=hRs;have hRs:=hRs h3 k3;have hEs:=hEs.up l3;have ovs:=hRs.rd.one;refine Qm rfl (Qm rfl (Qm rfl (Qm rfl (Qm rfl (Am ?_)))));obtain⟨P,hP⟩:∃P,2^s.length=P:=⟨_,rfl⟩
  have hP1:1<=P:=by rw[<-hP];exact Nat.one_le_two_pow
  have hP2:P<=512:=by rw[<-hP];exact Nat.pow_le_pow_right (n:=2) (by decide) hs9
  refine A9 (fun sl h' ms'=>∃(v3:Value) (m3:Hp) (es:List Value) (A:List (List Int)),sl=[(0,v),(2,.pointer (some ⟨g2,0,none⟩)),(3,v3),(4,.int .i64 i)]/\h3.le h'/\ms'=[m3,Bn g2 29 [.slice none 0 0]]/\OwnL cW 1 22 m3 v3 es/\RdEs h' es A/\SrtB A/\A.length<=4600/\A=(if b then CN all s (P-1) else all)) ?_ (fun s h ms hI=>?_)
  ·refine Ac (Ad (Qm rfl (Am (Ag ?_))))
   refine Ay (fun q sl h' ms'=>∃(n:Nat) (v3:Value) (m3:Hp) (es:List Value),q=P-1-n/\sl=[(0,v),(2,.pointer (some ⟨g2,0,none⟩)),(3,v3),(4,.int .i64 i),(5,vs),(6,.bool b),(7,.int .i64 ((n:Int)+1))]/\h3.le h'/\ms'=[m3,Bn g2 29 [.slice none 0 0]]/\n<=P-1/\OwnL cW 1 22 m3 v3 es/\RdEs h' es (if b then CN all s n else all))
    (P-1-0) _ ⟨0,v3,m3,es,rfl,rfl,C9,rfl,by omega,hO,by cases b<;>exact hEs⟩ Qs ?_
   rintro q sl h4 ms' ⟨n,v3,m3,es,rfl,rfl,l4,rfl,hnP,hO,hEs⟩;have hRs:=hRs.up l4;refine Ac (As (Qm rfl (Qm rfl ?_)));refine LZ (t:=35) rfl (fun hb=>?_) (fun hb=>?_)
   ·refine Qg (Au rfl rfl) rfl (Qg (Au rfl rfl) rfl (Qg (Ar hRs.rd.any rfl AU rfl) rfl (Qg (XQ rfl rfl rfl (by omega)) rfl (Qg (Dg rfl rfl rfl) rfl (Qm rfl (Am ?_))))));refine Aq rfl (fun hlt3=>?_) (fun hlt3=>?_)
    ·have hnl:n+1<P:=by rw[hP]at hlt3;omega
     subst hb;have hEs:RdEs h4 es (CN all s n):=hEs;have ov3:=hO.o1;have ovs:=hRs.rd.one;have hfl:=Gv all s n;have hFs:=Ej hSrt s n;refine Ah (Ab ?_);refine A9 (fun sl h' ms'=>∃(v3:Value) (m3:Hp) (es:List Value),sl=[(0,v),(2,.pointer (some ⟨g2,0,none⟩)),(3,v3),(4,.int .i64 i),(5,vs),(6,.bool true),(7,.int .i64 ((n:Int)+1))]/\h4.le h'/\ms'=[m3,Bn g2 29 [.slice none 0 0]]/\OwnL cW 1 22 m3 v3 es/\RdEs h' es (CN all s (n+1))) ?_ (fun s h ms hI=>?_)
     ·refine Ag (As (Qm rfl (Am (BJ ?_))));refine A9 (fun sl h' ms'=>∃(v8:Value) (m8:Hp),sl=[(0,v),(2,.pointer (some ⟨g2,0,none⟩)),(3,v3),(4,.int .i64 i),(5,vs),(6,.bool true),(7,.int .i64 ((n:Int)+1)),(8,v8)]/\h4=h'/\ms'=[m8,m3,Bn g2 29 [.slice none 0 0]]/\OwnL cI 1 3 m8 v8 (Ei s (n+1) s.length)) ?_ (fun s h ms hI=>?_)
      ·refine Ac (Ad (Qm rfl (Am (Ag ?_))))
       refine Ay (fun q sl h' ms'=>∃(a:Nat) (v8:Value) (m8:Hp),q=s.length-a/\sl=[(0,v),(2,.pointer (some ⟨g2,0,none⟩)),(3,v3),(4,.int .i64 i),(5,vs),(6,.bool true),(7,.int .i64 ((n:Int)+1)),(8,v8),(9,.int .i64 a)]/\h4=h'/\ms'=[m8,m3,Bn g2 29 [.slice none 0 0]]/\a<=s.length/\OwnL cI 1 3 m8 v8 (Ei s (n+1) a))
        (s.length-0) _ ⟨0,_,Hp.emp,rfl,rfl,rfl,rfl,by omega,OwnL.nil Bg⟩ Qs ?_
       rintro q sl h' ms' ⟨a,v8,m8,rfl,rfl,rfl,rfl,ha,hO8⟩;refine Ac (As (Qm rfl (Qm rfl (Qx (Ar hRs.rd.any rfl AU rfl) rfl (Qm rfl (Am ?_))))));refine Aq rfl (fun hla=>?_) (fun hla=>?_)
       ·have hsa:a<s.length:=by omega
        have hbit:(n+1).testBit a=decide ((n+1)/2^a%2=1):=by rw[Nat.testBit_eq_decide_div_mod_eq]
        have hsub:=Hz s (n+1) a;have hca:∀ms,Cell h4 ms ((AF vs).add (a*1)) (.int .i64 s[a]):=fun ms=>(hRs.any (ms:=ms)).cell0 hsa rfl;have hga:s.getD a 0=s[a]:=by simp[hsa]
        have ov8:=hO8.o1;have hl8:=OP s (n+1) a;refine Ah (Ab (Ac (Ag (As (Qm rfl (Qm rfl (Qx (Nl rfl (n:=a) (a:=n+1) rfl rfl (by omega)) rfl ?_)))))));refine Qx (Uy rfl rfl rfl (by have:=Nat.div_le_self (n+1) (2^a);omega)) rfl ?_;refine Qm rfl (Am ?_);refine Aq rfl (fun hod=>?_) (fun hod=>?_)
        ·rw[hbit,decide_eq_true (by omega),if_pos rfl,hga]at hsub;refine Ad (Qm rfl (Qm rfl (Qm rfl (Qx (BF (a) hRs.rd.any rfl AU A6 rfl rfl) rfl (Ql rfl U3 (hca _) (Ao [_] rfl AU A6 rfl (by rfl) rfl rfl (by omega) rfl rfl rfl (fun g60=>AO 1 hO8 (RdL.one Bg (x:=s[a]) Mh rfl) rfl AU A6 rfl (by omega) rfl rfl rfl Cb (by(try simp only[length_singleton]);omega) (by(try simp only[length_singleton]);omega) rfl rfl rfl (fun v9 m9 hO9=>?_))))))));rw[<-hsub]at hO9;refine Qm rfl (Ak (Ai (Ab (Ad (Qm rfl (Qx (oA rfl) rfl (Qm rfl (Ak (AN ?_)))))))));exact Al (s.length-(a+1)) _ (by omega) ⟨a+1,v9,m9,rfl,rfl,rfl,rfl,by omega,hO9⟩ Qs
        ·rw[hbit,decide_eq_false (by omega),if_neg (by decide),append_nil]at hsub;refine Ah (Ai (Ab (Ad (Qm rfl (Qx (oA rfl) rfl (Qm rfl (Ak ?_)))))));exact Al (s.length-(a+1)) _ (by omega) ⟨a+1,v8,m8,rfl,rfl,rfl,rfl,by omega,by rw[hsub];exact hO8⟩ Qs
       ·obtain rfl:a=s.length:=by omega
        refine Av (Aa (Aa (Af ?_)));exact AD _ ⟨v8,m8,rfl,rfl,rfl,hO8⟩ Qs
      ·obtain⟨v8,m8,rfl,rfl,rfl,hO8⟩:=hI;obtain⟨t,ht⟩:∃t,Ei s (n+1) s.length=t:=⟨_,rfl⟩
       obtain⟨A,hA⟩:∃A,CN all s n=A:=⟨_,rfl⟩
       have hfs:CN all s (n+1)=HX A t:=by rw[<-ht,<-hA];rfl
       rw[ht]at hO8;rw[hA]at hfl hFs hEs;refine Bq fun h5 l5 k5=>?_;have hT:=hO8.rdh (ms:=[]) k5;have ov8:=hT.rd.one;have hEs:=hEs.up l5;have hAe:=hEs.1;have hoe:∀u∈es,u.oneCell'=true:=hEs.ones;refine As (Qm rfl (Qm rfl (Qx (AL rfl call169 rfl (CH fun h' hl hm=>Rq A t es v3 v8 h' (by omega) (hFs.mono t) (hO.rdh (hm _ Mh)) (hEs.up hl) (hT.up hl) [])) rfl (Qm rfl (Qm rfl (Qm rfl (Qm rfl (Qm rfl (Am ?_)))))))));have hcb:=IJ A t;obtain⟨k,hk⟩:∃k,DR A t=k:=⟨_,rfl⟩
       have hp1:(C0 A t).1=k:=hk;rw[hp1];rw[hk]at hcb;refine As (Qm rfl (Qm rfl (Am ?_)));refine Bz rfl (fun hth=>?_) (fun hth=>?_)
       ·have hth:(C0 A t).2=false:=by simpa using hth
        have hins:HX A t=A.take k++t::A.drop k:=by unfold HX;rw[hth,hk];rfl
        have hcl:=hO.rd (h:=h5) (ms:=[m3]) Mh;refine As (Qm rfl (Ao [_] rfl Ch Cr rfl ((RdL.rd ‹_›).cells) rfl rfl (by omega) rfl rfl rfl (fun g71=>Qm rfl (Qm rfl (Qx (OY (k) hcl.rd rfl Ch Cr rfl rfl (by omega) (by omega)) rfl (Bd 0 (OwnL.blk (g:=g71) (el:=22) (F:=cW) (l:=[v8]) 1 DG rfl (by decide)) ((hO.rd (h:=h5) (List.Mem.tail _ Mh)).sub_ (by omega) (Nat.le_refl _)) rfl Ch Cr rfl (by omega) rfl rfl rfl (Gp fun u hu=>hoe u (List.mem_of_mem_drop (mem_of_mem_take hu))) (by(try simp only[length_singleton,length_nil,length_append,length_take,length_drop,nil_append]);omega) (by(try simp only[length_singleton,length_nil,length_append,length_take,length_drop,nil_append]);omega) rfl rfl rfl (fun v6 m6 hO6=>?_)))))));have ov6:=hO6.o1;refine Qm rfl (Gm ?_);refine Ax [] [] [] rfl Ch Cr rfl (by omega) (by kernel_rfl) (by repeat (first|exact trivial|refine⟨⟨by first|rfl|exact(hRs.rd.any).cells|exact(hcl.rd).cells|exact Rd.cells ‹_›|exact(RdL.rd ‹_›).cells,rfl,rfl⟩,?_⟩)) rfl rfl rfl rfl (fun g76=>?_);refine Qm rfl (Qm rfl (Qx (EA (k) hcl.rd rfl Ch Cr rfl rfl (by omega) (by omega)) rfl (Bd 0 (EC g76 DG) ((hO.rd (h:=h5) (List.Mem.tail _ (List.Mem.tail _ Mh))).sub_ (Nat.zero_le _) (by omega)) rfl Ch Cr rfl (by omega) rfl rfl rfl (Gp fun u hu=>hoe u (mem_of_mem_take hu)) (by(try simp only[length_singleton,length_nil,length_append,length_take,length_drop,nil_append]);omega) (by(try simp only[length_singleton,length_nil,length_append,length_take,length_drop,nil_append]);omega) rfl rfl rfl (fun v7 m7 hO7=>Qm rfl ?_))))
        have hoe9:∀u∈v8::(es.drop k).take (es.length-k),u.oneCell'=true:=fun u hu=>by
         rcases List.mem_cons.1 hu with rfl|hu
         ·exact ov8
         ·exact hoe u (List.mem_of_mem_drop (mem_of_mem_take hu))
        refine Bd 0 hO7 (hO6.rd (h:=h5) (List.Mem.tail _ Mh)) rfl Ch Cr rfl (by omega) rfl rfl rfl (Gp hoe9) (by(try simp only[length_singleton,length_nil,length_append,length_take,length_drop,nil_append]);omega) (by(try simp only[length_singleton,length_nil,length_append,length_take,length_drop,nil_append]);omega) rfl rfl rfl (fun v9 m9 hO9=>?_)
        have heq:[]++(es.drop 0).take (k-0)++([v8]++(es.drop k).take (es.length-k))=es.take k++v8::es.drop k:=by rw[drop_zero,Nat.sub_zero,take_of_length_le (l:=es.drop k) (by rw[length_drop];omega)];rfl
        rw[heq]at hO9;have ov9:=hO9.o1;refine Qm rfl (Ak (Ai (A8 1 rfl (A8 1 rfl ?_))));exact AD _ ⟨v9,m9,_,rfl,l5,rfl,hO9,by rw[hfs,hins];exact hEs.ins hT k (by omega)⟩ Qs
       ·have hth:(C0 A t).2=true:=by simpa using hth
        have hins:HX A t=A:=by unfold HX;rw[hth];rfl
        refine Ah (Ai ?_);exact AD _ ⟨v3,m3,es,rfl,l5,rfl,hO,by rw[hfs,hins];exact hEs⟩ Qs
     ·obtain⟨v3,m3,es,rfl,l5,rfl,hO,hEs⟩:=hI;refine Ad (Qm rfl (Qx (oA rfl) rfl (Qm rfl (Ak ?_))));exact Al (P-1-(n+1)) _ (by omega) ⟨n+1,v3,m3,es,rfl,rfl,AJ l4 l5,rfl,by omega,hO,hEs⟩ Qs
    ·have hnl:n=P-1:=by rw[hP]at hlt3;omega
     subst hb;have hEs:RdEs h4 es (CN all s n):=hEs;rw[hnl]at hEs;have hfl:=Gv all s (P-1);refine Av (Aa (Aa (Af ?_)));exact AD _ ⟨v3,m3,es,_,rfl,l4,rfl,hO,hEs,Ej hSrt s _,by omega,rfl⟩ Qs
   ·subst hb;have hEs:RdEs h4 es all:=hEs;refine Qk rfl (Qk rfl (Qk rfl (Qk rfl (Qk rfl (Qm rfl (Am (AP rfl (Av (Aa (Aa (Af ?_)))))))))));exact AD _ ⟨v3,m3,es,all,rfl,l4,rfl,hO,hEs,hSrt,by omega,rfl⟩ Qs
  ·obtain⟨v3,m3,es,A,rfl,l4,rfl,hO,hEs,hSrtA,hAl,hA⟩:=hI;have hAe:=hEs.1;have hmtA:=hmt all;rw[hP,<-hA]at hmtA;rw[hmtA]at hd;have ov3:=hO.o1;refine As (Qm rfl (Qx (D8 (hO.rd (h:=h) (ms:=[m3]) Mh).rd rfl Ch rfl) rfl (Qm rfl (Am ?_))));refine Aq rfl (fun hbig=>?_) (fun hbig=>?_)
   ·rw[if_pos (by omega)]at hd;refine BJ (As ?_);refine Qx (A3 YQ [.slice none 0 0] [] [_] rfl AW rfl rfl (by repeat (first|exact trivial|refine⟨⟨rfl,rfl,rfl⟩,?_⟩|refine⟨⟨((hO.rd (h:=h) (ms:=[m3]) Mh).rd).cells,rfl,rfl⟩,?_⟩)) rfl) rfl ?_;refine Sa 2 [_] AW rfl (by simp[Value.oneCell']) ?_;refine Am (An (Aj (Ae (Ae (Aj (Ae (A8 1 rfl ?_)))))));exact By (vs:=[_]) 1 rfl rfl CF rfl AW rfl rfl (⟨AJ lh (AJ l2 (AJ l3 l4)),Hp.emp,[],_,rfl,rfl,OwnL.nil Ct,by unfold Eb;rw[he,hd];rfl,fun a ha=>nomatch ha⟩)
   ·rw[if_neg (by omega)]at hd;refine Ah (Ai (Ab (Ad (Qm rfl (Qx (oA rfl) rfl (Qm rfl (Ak ?_)))))));exact Al (ll.length-(i+1)) _ (by omega) ⟨i+1,v3,m3,es,A,rfl,rfl,AJ lh (AJ l2 (AJ l3 l4)),rfl,by omega,hO,hEs,hSrtA,by omega,by rw[he,hd]⟩ Qs
 ·obtain rfl:i=ll.length:=by omega
  have he:Cu [] ll=some all:=by rw[he,List.drop_length];rfl
  have h9:=EW ll [] all List.Pairwise.nil (fun t ht=>nomatch ht) he;have hsF:Eb ll=(range all.length).map (DI all):=by unfold Eb;rw[he]
  have hAe:=hEs.1;refine Bq fun h2 l2 k2=>?_;have hR3:=hO.rdh (ms:=[]) k2;have hEs:=hEs.up l2;have ov3:v3.oneCell'=true:=hR3.rd.one;refine Av (Aa (Aa (Af (Ab (As (Cz [.slice none 0 0] rfl AW rfl rfl (fun g13=>Am (BJ (Ac (As (Qm rfl (Am (Ag ?_)))))))))))))
  refine Ay (fun q sl h' ms'=>∃(j:Nat) (vA:Value) (mA:Hp) (A:List Ce),q=all.length-j/\sl=[(0,v),(2,.pointer (some ⟨g2,0,none⟩)),(3,v3),(13,.pointer (some ⟨g13,0,none⟩)),(14,.int .i64 j)]/\h2.le h'/\ms'=[mA,Bn g13 29 [vA],Bn g2 29 [.slice none 0 0]]/\j<=all.length/\OwnL cC 3 52 mA vA A/\A.map Ce.c=(range j).map (DI all)/\∀a∈A,RdL cD 2 h' [] a.v a.c.sd)
   (all.length-0) _ ⟨0,_,Hp.emp,[],rfl,rfl,C9,rfl,by omega,OwnL.nil Ct,rfl,fun a ha=>nomatch ha⟩ Qs ?_
  rintro q sl h4 ms' ⟨j,vA,mA,A,rfl,rfl,l4,rfl,hj,hOA,hA,hSd⟩;have hR3:=hR3.up l4;have hEs:=hEs.up l4;refine Ac (As (Qm rfl (Qm rfl (Qx (Ar hR3.rd.any rfl Ch rfl) rfl (Qm rfl (Am ?_))))));refine Aq rfl (fun hjl=>?_) (fun hjl=>?_)
  ·have hjl:j<all.length:=by omega
   have hje:j<es.length:=by omega
   obtain⟨S,hS⟩:∃S,all[j]=S:=⟨_,rfl⟩
   have hS9:S.length<=9:=by rw[<-hS];exact h9 _ (getElem_mem hjl)
   have hRS:RdL cI 1 h4 [] es[j] S:=by rw[<-hS];exact hEs.2 j hje hjl
   have hcj:∀ms,Cell h4 ms ((AF v3).add (j*1)) es[j]:=fun ms=>(hR3.any (ms:=ms)).cell0 hje rfl;have ovS:=hRS.rd.one;have ovA:=hOA.o1;have hgd:all.getD j []=S:=by simp[hjl,hS]
   refine Ah (Ab (Ac (Ag (As (Qm rfl (Qx (oA rfl) rfl (Qm rfl (Qm rfl (Qx (BF (j) hR3.rd.any rfl Ch Cr rfl rfl) rfl (Ql rfl AU (hcj _) (Qx (Ar hRS.rd.any rfl AU rfl) rfl (Qx (oS rfl) rfl ?_))))))))))));refine Qx (A3 VZ [.int .i64 0,.int .i64 0,.slice none 0 0] [(0,_),(1,_)] [_,_,_] rfl AI rfl rfl (by repeat (first|exact trivial|refine⟨⟨rfl,rfl,rfl⟩,?_⟩|refine⟨⟨((hO.rd (h:=h) (ms:=[m3]) Mh).rd).cells,rfl,rfl⟩,?_⟩)) rfl) rfl ?_;refine Cz [.int .i64 0,.int .i64 0,.slice none 0 0] rfl AI rfl rfl (fun g15=>?_);refine Sa 0 [_,_,_] AI rfl (by simp[Value.oneCell']) ?_;refine Am (BJ ?_);obtain⟨D,hD⟩:∃D:Int,(S.length:Int)-1=D:=⟨_,rfl⟩
   rw[hD];refine A9 (fun sl h' ms'=>∃(vS:Value) (mS:Hp),sl=[(0,v),(2,.pointer (some ⟨g2,0,none⟩)),(3,v3),(13,.pointer (some ⟨g13,0,none⟩)),(14,.int .i64 j),(15,.pointer (some ⟨g15,0,none⟩))]/\h4=h'/\ms'=[mS,Bn g15 52 [.int .i64 ((j:Int)+1),.int .i64 D,vS],mA,Bn g13 29 [vA],Bn g2 29 [.slice none 0 0]]/\OwnL cD 2 119 mS vS (if S.length<=1 then [] else N0 all S S.length)) ?_ (fun s h ms hI=>?_)
   ·refine Ac (Ad (Qm rfl (Am (Ag ?_))))
    refine Ay (fun q sl h' ms'=>∃(k:Nat) (vS:Value) (mS:Hp),q=S.length-k/\sl=[(0,v),(2,.pointer (some ⟨g2,0,none⟩)),(3,v3),(13,.pointer (some ⟨g13,0,none⟩)),(14,.int .i64 j),(15,.pointer (some ⟨g15,0,none⟩)),(16,.int .i64 k)]/\h4=h'/\ms'=[mS,Bn g15 52 [.int .i64 ((j:Int)+1),.int .i64 D,vS],mA,Bn g13 29 [vA],Bn g2 29 [.slice none 0 0]]/\k<=S.length/\(S.length<=1->k=0)/\OwnL cD 2 119 mS vS (N0 all S k))
     (S.length-0) _ ⟨0,_,Hp.emp,rfl,rfl,rfl,rfl,by omega,fun _=>rfl,OwnL.nil Ep⟩ Qs ?_
    rintro q sl h' ms' ⟨k,vS,mS,rfl,rfl,rfl,rfl,hk,hk0,hOS⟩;refine Ac (As (Qm rfl (Qm rfl (Qm rfl (Qx (BF (j) hR3.rd.any rfl Ch Cr rfl rfl) rfl (Ql rfl AU (hcj _) (Qx (Ar hRS.rd.any rfl AU rfl) rfl (Qm rfl (Qm rfl ?_)))))))));refine AQ (t:=109) rfl (fun hk1=>?_) (fun hk1=>?_)
    ·have hkS:k<S.length:=by omega
     refine Qg (oF BY rfl) rfl (Qg (oL rfl U3 (Cell.blk 1 rfl rfl)) rfl (Qg (Cw rfl rfl rfl) rfl (Qm rfl (Am ?_))));refine Aq rfl (fun hdp=>?_) (fun hdp=>?_)
     ·have hD1:1<=D:=by omega
      have ovS2:=hOS.o1;refine Ah (Ab (Ac (Ag (Ac (BG (n:=17) (bs:=[false,true,true,true,true,true,true,false,true,true,true,true,true,true,true,false,false]) [false,true,true,true,true,true,true,false,true,true,true,true,true,true,true] CS (by kernel_rfl) (by kernel_rfl) rfl rfl (Qq rfl (Qq rfl (Qp rfl (BF (j) hR3.rd.any rfl Ch Cr rfl rfl) (QL rfl AU (hcj _) (Qq rfl (Qp rfl (DS (k) hRS.rd.any rfl AU A6 rfl rfl (by omega) (by omega)) (Qq rfl (Qq rfl (Qp rfl (BF (j) hR3.rd.any rfl Ch Cr rfl rfl) (QL rfl AU (hcj _) (Qq rfl (Qp rfl (oA rfl) (Qp rfl (CE (k+1) hRS.rd.any rfl AU A6 rfl rfl (by omega) (by omega)) ?_))))))))))))))))));unfold Ft;simp only[cons_append,nil_append];refine Qo 0 rfl ?_;refine Ax [] [] [] rfl AU A6 rfl (by omega) (by kernel_rfl) (by repeat (first|exact trivial|refine⟨⟨by first|rfl|exact(hR3.rd.any).cells|exact(hRS.rd.any).cells|exact((hO.rd (h:=h) (ms:=[m3]) Mh).rd).cells|exact Rd.cells ‹_›|exact(RdL.rd ‹_›).cells,rfl,rfl⟩,?_⟩)) rfl rfl rfl rfl (fun g116=>?_);refine Qw (Qo 7 rfl (AO 0 (EC g116 Bg) (hRS.any.sub_ (Nat.zero_le _) hk) rfl AU A6 rfl (by omega) rfl rfl rfl Cb (by(try simp only[length_singleton,length_nil,length_append,length_take,length_drop,nil_append]);omega) (by(try simp only[length_singleton,length_nil,length_append,length_take,length_drop,nil_append]);omega) rfl rfl rfl (fun v6 m6 hO6=>Qw (Qo 15 rfl (AO 0 hO6 (hRS.any.sub_ hkS (Nat.le_refl _)) rfl AU A6 rfl (by omega) rfl rfl rfl Cb (by(try simp only[length_singleton,length_nil,length_append,length_take,length_drop,nil_append]);omega) (by(try simp only[length_singleton,length_nil,length_append,length_take,length_drop,nil_append]);omega) rfl rfl rfl (fun v7 m7 hO7=>Qw (Qo 16 rfl (Qm rfl (Qw (Qe ?_))))))))))
      have heq:[]++(S.drop 0).take (k-0)++(S.drop (k+1)).take (S.length-(k+1))=S.eraseIdx k:=by rw[drop_zero,Nat.sub_zero,take_of_length_le (l:=S.drop (k+1)) (by rw[length_drop];exact Nat.le_refl _),List.eraseIdx_eq_take_drop_succ];rfl
      rw[heq]at hO7;refine Ab ?_;have ov7:=hO7.o1;refine As (Qm rfl (Qm rfl (Qx (AL rfl call169 rfl (CH fun h' hl hm=>Rq all (S.eraseIdx k) es v3 v7 h' (by omega) (hSrt.mono _) (hR3.up hl) (hEs.up hl) (hO7.rdh (hm _ Mh)) [])) rfl (Qm rfl (Qm rfl (Qm rfl (Qm rfl (Qm rfl (Am (RN ?_))))))))));obtain⟨n,hn⟩:∃n,(C0 all (S.eraseIdx k)).1=n:=⟨_,rfl⟩
      have hnl:n<=all.length:=by rw[<-hn];exact IJ _ _
      have hrs:=SZ all S k;rw[hn]at hrs ⊢;have hrl:=IY all S k;refine Ad (Qf BB rfl (Ql rfl BZ (Cell.blk 1 rfl rfl) (Qm rfl (Qx (oA rfl) rfl (Qm rfl (Qx (Cc rfl rfl rfl (by omega) (by omega)) rfl (Qx (oM rfl) rfl (Qx (oS rfl) rfl ?_))))))));refine Qx (A3 Wv [.int .i64 0,.int .i64 0] [(0,_),(1,_)] [_,_] rfl AM rfl rfl (by repeat (first|exact trivial|refine⟨⟨rfl,rfl,rfl⟩,?_⟩|refine⟨⟨((hO.rd (h:=h) (ms:=[m3]) Mh).rd).cells,rfl,rfl⟩,?_⟩)) rfl) rfl ?_;refine Ao [_,_] rfl BZ AM rfl (by rfl) rfl rfl (by omega) rfl rfl rfl (fun g147=>?_);refine AO 1 hOS (RdL.one Ep (x:=((n:Int)+1,1-2*((k:Int)%2))) Mh rfl) rfl BZ AM rfl (by omega) rfl rfl rfl Ga (by rw[IY];(try simp only[length_singleton]);omega) (by rw[IY];(try simp only[length_singleton]);omega) rfl rfl rfl (fun v9 m9 hO9=>?_);rw[<-hrs]at hO9;have ov9:=hO9.o1;refine Qf BB rfl ?_;refine AS 2 _ rfl Tf rfl rfl (by assumption) rfl rfl (by(simp;done)) rfl rfl ?_;refine Ak (Ai (Ab (Ad (Qm rfl (Qx (oA rfl) rfl (Qm rfl (Ak (A8 0 rfl ?_))))))));exact Al (S.length-(k+1)) _ (by omega) ⟨k+1,v9,m9,rfl,rfl,rfl,rfl,by omega,fun q=>by omega,hO9⟩ Qs
     ·have hS1:S.length<=1:=by omega
      refine Av (Aa (Aa (Af ?_)));exact AD _ ⟨vS,mS,rfl,rfl,rfl,by rw[if_pos hS1];have:=hk0 hS1;subst this;exact hOS⟩ Qs
    ·have hkS:k=S.length:=by omega
     subst hkS;refine Qk rfl (Qk rfl (Qk rfl (Qm rfl (Am (AP rfl (Av (Aa (Aa (Af ?_)))))))))
     exact AD _ ⟨vS,mS,rfl,rfl,rfl,by
      split
      ·rename_i h1;have:=hk0 h1;rw[this]at hOS;exact hOS
      ·exact hOS⟩ Qs
   ·obtain⟨vS,mS,rfl,rfl,rfl,hOS⟩:=hI;obtain⟨rw,hrw⟩:∃rw,(if S.length<=1 then [] else N0 all S S.length)=rw:=⟨_,rfl⟩
    have hrl:rw.length<=9:=by
     rw[<-hrw];split
     ·simp
     ·rw[IY];exact hS9
    rw[hrw]at hOS
    have hcell:DI all j=⟨(j:Int)+1,D,Ca rw⟩:=by unfold DI;rw[hgd,hD,<-hrw];split<;>rfl
    refine Bq fun h5 l5 k5=>?_;have hRw:=hOS.rdh (ms:=[]) k5;have ovS2:=hRw.rd.one;refine As (Qf BB rfl (Ql rfl BZ (Cell.blk 0 rfl rfl) (Qc call170 rfl (Pk rw vS h5 (by omega) hRw) (fun rs h6 ms2 l6 hF=>?_))));obtain⟨rfl,m9,rfl,hO9⟩:=hF;refine AH fun h6 l6 k6=>?_;have hR9:=hO9.rdh (ms:=[]) k6;have ov9:=hR9.rd.one;have hAl:A.length=j:=by have:=congrArg List.length hA;simpa using this
    let ce:Ce:=⟨⟨(j:Int)+1,D,Ca rw⟩,rs⟩
    refine Qf BB rfl ?_;refine AS 0 _ rfl Tf rfl rfl (by assumption) rfl rfl (by(simp;done)) rfl rfl ?_;refine Gm (Qf B8 rfl (Ql rfl Bh (Cell.blk 2 rfl rfl) (Qx (oG rfl Ef AI (Seg.blk 0 rfl)) rfl (Ao [_,_,_] rfl Bh AI rfl (by rfl) rfl rfl (by omega) rfl rfl rfl (fun g157=>?_)))));refine Bd 2 hOA (RdL.one Ct (x:=ce) Mh rfl) rfl Bh AI rfl (by omega) rfl rfl rfl (Di (l:=[ce]) (h:=h6) fun y hy=>by rw[List.mem_singleton.1 hy];exact hR9) (by(try simp only[length_singleton]);omega) (by(try simp only[length_singleton]);omega) rfl rfl rfl (fun vA2 mA2 hOA2=>?_);have ovA2:=hOA2.o1;refine Qf B8 rfl ?_;refine AS 3 _ rfl JP rfl rfl (by assumption) rfl rfl (by(simp;done)) rfl rfl ?_;refine Ak (Ai (Ab (Ad (Qm rfl (Qx (oA rfl) rfl (Qm rfl (Ak (A8 0 rfl (A8 0 rfl ?_)))))))))
    exact Al (all.length-(j+1)) _ (by omega) ⟨j+1,vA2,mA2,A++[ce],rfl,rfl,AJ l4 (AJ l5 l6),rfl,by omega,hOA2,by rw[map_append,hA,range_succ,map_append];congr 1;simp[ce,hcell],fun a ha=>by
     rcases List.mem_append.1 ha with h|h
     ·exact(hSd a h).up (AJ l5 l6)
     ·rw[List.mem_singleton.1 h];exact hR9⟩ Qs
  ·obtain rfl:j=all.length:=by omega
   have ovA:=hOA.o1;refine Av (Aa (Aa (Af (Ab (As (Qx (oG rfl CF AW (Seg.blk 1 rfl)) rfl ?_))))));refine Sa 2 [_] AW rfl (by simp[o1,ov3,ovA]) ?_;refine Am (An (A8 1 rfl ?_));exact By (vs:=[_]) 1 rfl rfl CF rfl AW rfl rfl (⟨AJ lh (AJ l2 l4),mA,A,_,rfl,rfl,hOA,by rw[hA,hsF],hSd⟩)
end Go.Proofs.Q

namespace Go.Proofs.Q
open Go.Eng Go.RowKit
theorem RdEs.snoc{h:Hp}{es:List Value}{ll:List (List Int)}(H:RdEs h es ll){v:Value}{t:List Int}(hv:RdL cI 1 h [] v t):RdEs h (es++[v]) (ll++[t]):=by have:=H.ins hv ll.length (Nat.le_refl _);rw[take_of_length_le (by rw[H.1];exact Nat.le_refl _),take_length,List.drop_of_length_le (by rw[H.1];exact Nat.le_refl _),List.drop_length]at this;exact this
structure RgtF(o:List Cl):Prop where
 n:o.length<=4000
 inc:o.Pairwise fun a b=>a.id<b.id
 pos:∀x∈o,1<=x.id
 can:∀x∈o,∃y:Cl,x=y.can
 fst:∀x∈o,Cn o x=0
 snd:∀x∈o,2<=x.dim->DL o x=0
theorem K4{β:Type}{e:Nat->Option β}:∀{n:Nat},(range n).findSome? e=none->∀b,b<n->e b=none:=fun {n} h b hb=>by rw[List.findSome?_eq_none_iff]at h;exact h b (List.mem_range.2 hb)
theorem TB(l:List Cl):(ordF l).length=l.length:=by rw[(Db l.length l (Nat.le_refl _)).length_eq,length_map]
theorem RgtF.bds{o:List Cl}(R:RgtF o){x:Cl}(hx:x∈o):(0<=x.dim/\x.dim<=8)/\x.sd.length<=64/\∀r∈x.sd,r.2=1\/r.2=-1:=by obtain⟨h1,h2,_,h4⟩:=EF (R.fst x hx);refine⟨h1,h2,fun r hr=>?_⟩;obtain⟨i,hi,rfl⟩:=List.mem_iff_getElem.1 hr;have:=h4 i hi;unfold BN at this;rw[Bj hi]at this;omega
variable {a b c:Int} {x:Cl} {l:List Int} {m n:Nat}
abbrev FV:=List (Int×Int×Int)
def D1(T:FV)(c:Int):Int:=(T.map fun e=>if e.2.1=c then e.2.2 else 0).sum
def Fi(T:FV)(c:Int):Int:=(T.map fun e=>if e.2.1=c then(1:Int) else 0).sum
inductive Con (T:FV):Int->Int->Prop
 | refl (a:Int):Con T a a
 | step {a b d c w w':Int}:Con T a b->(b,c,w)∈T->(d,c,w')∈T->Con T a d
theorem Con.trans{T:FV}(h:Con T a b)(h':Con T b c):Con T a c:=by
 induction h' with
 | refl=>exact h
 | step _ h1 h2 ih=>exact .step ih h1 h2
theorem Con.symm{T:FV}(h:Con T a b):Con T b a:=by
 induction h with
 | refl=>exact .refl _
 | step _ h1 h2 ih=>exact(Con.step (.refl _) h2 h1).trans ih
theorem Con.mono{T T':FV}(hs:∀e∈T,e∈T')(h:Con T a b):Con T' a b:=by
 induction h with
 | refl=>exact .refl _
 | step _ h1 h2 ih=>exact .step ih (hs _ h1) (hs _ h2)
theorem Con.in{T:FV}(h:Con T a b):a=b\/((∃c w,(a,c,w)∈T)/\∃c w,(b,c,w)∈T):=by
 induction h with
 | refl=>exact .inl rfl
 | step _ h1 h2 ih=>
  rcases ih with rfl|ih
  ·exact .inr ⟨⟨_,_,h1⟩,_,_,h2⟩
  ·exact .inr ⟨ih.1,_,_,h2⟩
theorem Con.snoc{T:FV}{i f w:Int}(hf:f=i/\(∀g w',(g,c,w') ∉ T)\/∃w',(f,c,w')∈T):Con (T++[(i,c,w)]) a b<->Con T a b\/(Con T a i/\Con T f b)\/(Con T a f/\Con T i b):=by
 have hsub:∀e∈T,e∈T++[(i,c,w)]:=fun e he=>mem_append_left _ he;have hi:(i,c,w)∈T++[(i,c,w)]:=mem_append_right _ Mh
 have hfi:Con (T++[(i,c,w)]) i f:=by
  rcases hf with ⟨rfl,_⟩|⟨w',h⟩
  ·exact .refl _
  ·exact .step (.refl _) hi (hsub _ h)
 constructor
 ·intro h
  induction h with
  | refl=>exact .inl (.refl _)
  | @step b d c' w1 w2 _ h1 h2 ih=>
   -- the last step
   have key:∀{b d},(b,c',w1)∈T++[(i,c,w)]->(d,c',w2)∈T++[(i,c,w)]->Con T b d\/(Con T b i/\Con T f d)\/(Con T b f/\Con T i d):=fun {b d} h1 h2=>by
    rcases List.mem_append.1 h1 with g1|g1<;>rcases List.mem_append.1 h2 with g2|g2
    ·exact .inl (.step (.refl _) g1 g2)
    ·obtain⟨e1,e2,e3⟩:d=i/\c'=c/\w2=w:=by simpa using g2
     rcases hf with ⟨_,hn⟩|⟨w',h⟩
     ·exact absurd (e2 ▸ g1) (hn _ _)
     ·rw[e1];exact .inr (.inr ⟨.step (.refl _) (e2 ▸ g1) h,.refl _⟩)
    ·obtain⟨e1,e2,e3⟩:b=i/\c'=c/\w1=w:=by simpa using g1
     rcases hf with ⟨_,hn⟩|⟨w',h⟩
     ·exact absurd (e2 ▸ g2) (hn _ _)
     ·rw[e1];exact .inr (.inl ⟨.refl _,.step (.refl _) h (e2 ▸ g2)⟩)
    ·obtain⟨e1,_⟩:b=i/\c'=c/\w1=w:=by simpa using g1
     obtain⟨e2,_⟩:d=i/\c'=c/\w2=w:=by simpa using g2
     rw[e1,e2];exact .inl (.refl _)
   have k:=key h1 h2;rcases ih with ih|⟨i1,i2⟩|⟨i1,i2⟩
   ·rcases k with k|⟨k1,k2⟩|⟨k1,k2⟩
    ·exact .inl (ih.trans k)
    ·exact .inr (.inl ⟨ih.trans k1,k2⟩)
    ·exact .inr (.inr ⟨ih.trans k1,k2⟩)
   ·rcases k with k|⟨k1,k2⟩|⟨k1,k2⟩
    ·exact .inr (.inl ⟨i1,i2.trans k⟩)
    ·exact .inr (.inl ⟨i1,k2⟩)
    ·exact .inl (i1.trans k2)
   ·rcases k with k|⟨k1,k2⟩|⟨k1,k2⟩
    ·exact .inr (.inr ⟨i1,i2.trans k⟩)
    ·exact .inl (i1.trans k2)
    ·exact .inr (.inr ⟨i1,k2⟩)
 ·rintro(h|⟨h1,h2⟩|⟨h1,h2⟩)
  ·exact h.mono hsub
  ·exact(h1.mono hsub).trans (hfi.trans (h2.mono hsub))
  ·exact(h1.mono hsub).trans (hfi.symm.trans (h2.mono hsub))
theorem Mr(T:FV)(e:Int×Int×Int)(c:Int):D1 (T++[e]) c=D1 T c+if e.2.1=c then e.2.2 else 0:=by simp[D1]
theorem SA(T:FV)(e:Int×Int×Int)(c:Int):Fi (T++[e]) c=Fi T c+if e.2.1=c then 1 else 0:=by simp[Fi]
theorem L3{T:FV}(h:∀e∈T,e.2.1≠c):D1 T c=0/\Fi T c=0:=by
 induction T with
 | nil=>exact⟨rfl,rfl⟩
 | cons e T ih=>
  obtain⟨h1,h2⟩:=ih fun e he=>h e (mem_cons_of_mem _ he);have h3:=h e Mh;unfold D1 at *;unfold Fi at *;simp only[map_cons,sum_cons,if_neg h3,h1,h2];exact⟨rfl,rfl⟩
theorem K7{x:Int}:Ec (a::l) x=if a=x then 0 else Ec l x+1:=by
 unfold Ec;rw[List.takeWhile_cons];by_cases e:a=x
 ·simp[e]
 ·simp[e]
theorem Tx{x:Int}{k:Nat}(hk:Ec l x=k)(h:k<l.length):l[k]=x:=by
 induction l generalizing k with
 | nil=>simp at h
 | cons a l ih=>
  rw[K7]at hk;split at hk
  ·subst hk;assumption
  ·subst hk;rw[List.getElem_cons_succ];exact ih rfl (by simpa using h)
theorem SR{x:Int}(h:Ec l x=l.length):x ∉ l:=by
 induction l with
 | nil=>simp
 | cons a l ih=>
  rw[K7]at h;split at h
  ·simp at h
  ·rename_i e;rw[mem_cons];rintro(rfl|h1)
   ·exact e rfl
   ·exact ih (by simpa using h) h1
theorem Hj{α:Type}{l:List α}(h:l.Nodup){i j:Nat}(hi:i<l.length)(hj:j<l.length)(e:l[i]=l[j]):i=j:=by
 have h1:=List.pairwise_iff_getElem.1 h;rcases Nat.lt_trichotomy i j with h2|h2|h2
 ·exact absurd e (h1 i j hi hj h2)
 ·exact h2
 ·exact absurd e.symm (h1 j i hj hi h2)
structure S2.Inv(S:S2)(x:Cl)(T:FV)(m n:Nat):Prop where
 nd:S.ids.Nodup
 mem:∀c,c∈S.ids<->∃a w,(a,c,w)∈T
 ls:S.su.length=S.ids.length
 lm:S.ma.length=S.ids.length
 lf:S.fi.length=S.ids.length
 lp:S.pa.length=n
 su:∀k (hk:k<S.ids.length),S.su.getD k 0=D1 T S.ids[k]
 ma:∀k (hk:k<S.ids.length),S.ma.getD k 0=Fi T S.ids[k]
 fi:∀k (hk:k<S.ids.length),∃j:Nat,j<m/\S.fi.getD k 0=(j:Int)/\∃w,((Bp x j).1,S.ids[k],w)∈T
 pl:∀j,j<m->0<=S.pa.getD j 0/\S.pa.getD j 0<m
 pc:∀j j',j<m->j'<m->(S.pa.getD j 0=S.pa.getD j' 0<->Con T (Bp x j).1 (Bp x j').1)
 fr:∀e∈T,∃j:Nat,j<m/\e.1=(Bp x j).1
theorem H8(l:List Int)(k j:Nat)(y:Int)(hk:k<l.length):(l.set k y).getD j 0=if j=k then y else l.getD j 0:=by
 simp only[List.getD_eq_getElem?_getD,List.getElem?_set];by_cases e:k=j
 ·subst e;simp[hk]
 ·simp[e,Ne.symm e]
theorem HD(l:List Int)(j:Nat)(y:Int):(l++[y]).getD j 0=if j=l.length then y else l.getD j 0:=by
 simp only[List.getD_eq_getElem?_getD];rcases Nat.lt_trichotomy j l.length with h|h|h
 ·rw[List.getElem?_append_left h,if_neg (by omega)]
 ·subst h;simp
 ·rw[if_neg (by omega),List.getElem?_eq_none (by simp;omega),List.getElem?_eq_none (by omega)]
theorem Tw(pa:List Int)(m:Nat)(now old:Int)(j:Nat)(hm:m<=pa.length)(hj:j<m):(Ff pa m now old).getD j 0=if pa.getD j 0=now then old else pa.getD j 0:=by
 have h1:j<pa.length:=by omega
 have h2:j<(Ff pa m now old).length:=by rw[C8];exact h1
 simp only[List.getD_eq_getElem?_getD,List.getElem?_eq_getElem h1,List.getElem?_eq_getElem h2,Option.getD_some];rw[EH h1];simp[hj]
theorem S2.Inv.start{S:S2}{T:FV}(I:S.Inv x T m n)(hm:m<n)(hd:∀j,j<m->(Bp x j).1≠(Bp x m).1):(S.start m).Inv x T (m+1) n:=by
 have hp:=I.lp;have hg:∀j,(S.pa.set m (m:Int)).getD j 0=if j=m then(m:Int) else S.pa.getD j 0:=fun j=>H8 _ _ _ _ (by omega)
 have hnew:∀j,j<m->¬Con T (Bp x j).1 (Bp x m).1:=fun j hj h=>by
  rcases h.in with h|⟨_,c,w,h⟩
  ·exact hd j hj h
  ·obtain⟨j',hj',e⟩:=I.fr _ h;exact hd j' hj' e.symm
 refine⟨I.nd,I.mem,I.ls,I.lm,I.lf,by show(List.set _ _ _).length=n;rw[length_set];exact hp,I.su,I.ma,fun k hk=>?_,fun j hj=>?_,fun j j' hj hj'=>?_,fun e he=>?_⟩
 ·obtain⟨j,h1,h2⟩:=I.fi k hk;exact⟨j,by omega,h2⟩
 ·show 0<=(S.pa.set m (m:Int)).getD j 0/\(S.pa.set m (m:Int)).getD j 0<((m+1:Nat):Int);rw[hg];split
  ·omega
  ·have:=I.pl j (by omega);omega
 ·show(S.pa.set m (m:Int)).getD j 0=(S.pa.set m (m:Int)).getD j' 0<->_;rw[hg,hg];by_cases e:j=m<;>by_cases e':j'=m
  ·subst e;subst e';exact⟨fun _=>.refl _,fun _=>rfl⟩
  ·subst e;rw[if_pos rfl,if_neg e'];have:=I.pl j' (by omega);exact⟨fun h=>by omega,fun h=>absurd h.symm (hnew j' (by omega))⟩
  ·subst e';rw[if_neg e,if_pos rfl];have:=I.pl j (by omega);exact⟨fun h=>by omega,fun h=>absurd h (hnew j (by omega))⟩
  ·rw[if_neg e,if_neg e'];exact I.pc j j' (by omega) (by omega)
 ·obtain⟨j,h1,h2⟩:=I.fr e he;exact⟨j,by omega,h2⟩
theorem S2.Inv.side{S:S2}{T:FV}(I:S.Inv x T (m+1) n)(hm:m<n)(w:Int)(r:Int×Int):(S.side m w r).Inv x (T++[((Bp x m).1,r.1,w*r.2)]) (m+1) n:=by
 have hp:=I.lp
 -- the place of the id,in the state after add
 obtain⟨k,hk⟩:∃k,Ec S.ids r.1=k:=⟨_,rfl⟩
 obtain⟨U,hU⟩:∃U,S.add m r.1=U:=⟨_,rfl⟩
 have A:U.pa=S.pa/\U.ids.Nodup/\(∀c,c∈U.ids<->c=r.1\/∃a w,(a,c,w)∈T)/\U.su.length=U.ids.length/\U.ma.length=U.ids.length/\U.fi.length=U.ids.length/\(∀k (hk:k<U.ids.length),U.su.getD k 0=D1 T U.ids[k])/\(∀k (hk:k<U.ids.length),U.ma.getD k 0=Fi T U.ids[k])/\(∃hk:k<U.ids.length,U.ids[k]=r.1) ∧
   (∀k' (hk':k'<U.ids.length),k'≠k->∃j:Nat,j<m+1/\U.fi.getD k' 0=(j:Int)/\∃w,((Bp x j).1,U.ids[k'],w)∈T) ∧
   ∃f:Nat,f<m+1/\U.fi.getD k 0=(f:Int)/\((Bp x f).1=(Bp x m).1/\f=m/\(∀g w',(g,r.1,w') ∉ T)\/∃w',((Bp x f).1,r.1,w')∈T):=by
  subst hU;unfold S2.add;by_cases h:Ec S.ids r.1=S.ids.length
  ·have hn:=SR h;have hnT:∀g w',(g,r.1,w') ∉ T:=fun g w' hg=>hn ((I.mem _).2 ⟨g,w',hg⟩);have h0:D1 T r.1=0/\Fi T r.1=0:=L3 fun e he q=>hnT e.1 e.2.2 (by rw[<-q];exact he);rw[if_pos h];have hkl:k=S.ids.length:=by omega
   have hget:∀k' (hk':k'<(S.ids++[r.1]).length),(S.ids++[r.1])[k']=if h:k'<S.ids.length then S.ids[k'] else r.1:=fun k' hk'=>by
    by_cases h1:k'<S.ids.length
    ·rw[dif_pos h1,List.getElem_append_left h1]
    ·rw[dif_neg h1,getElem_append_right (by omega)];simp
   refine⟨rfl,?_,fun c=>?_,by simp[I.ls],by simp[I.lm],by simp[I.lf],fun k' hk'=>?_,fun k' hk'=>?_,⟨by show k<(S.ids++[r.1]).length;simp;omega,?_⟩,fun k' hk' hne=>?_,m,by omega,?_,.inl ⟨rfl,rfl,hnT⟩⟩
   ·exact List.nodup_append.2 ⟨I.nd,by simp,fun a ha b hb e=>by rw[List.mem_singleton.1 hb]at e;exact hn (e ▸ ha)⟩
   ·show c∈S.ids++[r.1]<->_;rw[mem_append,mem_singleton,I.mem];exact⟨fun h=>h.symm,fun h=>h.symm⟩
   ·have hk'':k'<S.ids.length+1:=by have:k'<(S.ids++[r.1]).length:=hk';simpa using this
    show(S.su++[0]).getD k' 0=D1 T (S.ids++[r.1])[k'];rw[HD,hget k' hk',I.ls];by_cases h1:k'<S.ids.length
    ·rw[if_neg (by omega),dif_pos h1];exact I.su k' h1
    ·rw[if_pos (by omega),dif_neg h1,h0.1]
   ·have hk'':k'<S.ids.length+1:=by have:k'<(S.ids++[r.1]).length:=hk';simpa using this
    show(S.ma++[0]).getD k' 0=Fi T (S.ids++[r.1])[k'];rw[HD,hget k' hk',I.lm];by_cases h1:k'<S.ids.length
    ·rw[if_neg (by omega),dif_pos h1];exact I.ma k' h1
    ·rw[if_pos (by omega),dif_neg h1,h0.2]
   ·show(S.ids++[r.1])[k]'_=r.1;rw[hget,dif_neg (by omega)]
   ·have hk'':k'<S.ids.length+1:=by have:k'<(S.ids++[r.1]).length:=hk';simpa using this
    obtain⟨j,h1,h2,h3⟩:=I.fi k' (by omega);refine⟨j,h1,?_,?_⟩
    ·show(S.fi++[(m:Int)]).getD k' 0=j;rw[HD,I.lf,if_neg (by omega)];exact h2
    ·show ∃w,(_,(S.ids++[r.1])[k']'hk',w)∈T;rw[hget k' hk',dif_pos (show k'<S.ids.length by omega)];exact h3
   ·show(S.fi++[(m:Int)]).getD k 0=(m:Int);rw[HD,I.lf,if_pos hkl]
  ·have hle:=Ox S.ids r.1;have hkl:k<S.ids.length:=by omega
   have hge:S.ids[k]=r.1:=Tx hk hkl;have hin:r.1∈S.ids:=by rw[<-hge];exact getElem_mem hkl
   rw[if_neg h];obtain⟨f,f1,f2,f3⟩:=I.fi k hkl;refine⟨rfl,I.nd,fun c=>?_,I.ls,I.lm,I.lf,I.su,I.ma,⟨hkl,hge⟩,fun k' hk' _=>I.fi k' hk',f,f1,f2,.inr (by rw[hge]at f3;exact f3)⟩;rw[I.mem];refine⟨.inr,fun h=>?_⟩;rcases h with rfl|h
   ·exact(I.mem _).1 hin
   ·exact h
 obtain⟨a1,a2,a3,a4,a5,a6,a7,a8,⟨a9,a10⟩,a11,f,f1,f2,f3⟩:=A;have hS:S.side m w r=U.hit m k (w*r.2):=by unfold S2.side;rw[hU,hk]
 rw[hS]
 have hcf:∀{a b},Con (T++[((Bp x m).1,r.1,w*r.2)]) a b<->_:=fun {a b}=>Con.snoc (a:=a) (b:=b) (T:=T) (i:=(Bp x m).1) (f:=(Bp x f).1) (c:=r.1) (w:=w*r.2) (by
  rcases f3 with ⟨h1,_,h2⟩|h
  ·exact .inl ⟨h1,h2⟩
  ·exact .inr h)
 have hrel:∀j,j<m+1->(Ff U.pa (m+1) (U.pa.getD m 0) (U.pa.getD (U.fi.getD k 0).toNat 0)).getD j 0=if S.pa.getD j 0=S.pa.getD m 0 then S.pa.getD f 0 else S.pa.getD j 0:=fun j hj=>by rw[Tw _ _ _ _ _ (by rw[a1];omega) hj,a1,f2,Int.toNat_natCast]
 refine⟨a2,fun c=>?_,by show(List.set _ _ _).length=_;rw[length_set];exact a4,by show(List.set _ _ _).length=_;rw[length_set];exact a5,a6,by show(Ff _ _ _ _).length=n;rw[C8,a1];exact hp,fun k' hk0=>?_,fun k' hk0=>?_,fun k' hk0=>?_,fun j hj=>?_,fun j j' hj hj'=>?_,fun e he=>?_⟩
 ·show c∈U.ids<->_;rw[a3];constructor
  ·rintro(rfl|⟨a,w',h⟩)
   ·exact⟨_,_,mem_append_right _ Mh⟩
   ·exact⟨a,w',mem_append_left _ h⟩
  ·rintro⟨a,w',h⟩;rcases List.mem_append.1 h with h|h
   ·exact .inr ⟨a,w',h⟩
   ·have:=List.mem_singleton.1 h;exact .inl (congrArg (fun e:Int×Int×Int=>e.2.1) this)
 ·have hk':k'<U.ids.length:=hk0;show(U.su.set k (U.su.getD k 0+w*r.2)).getD k' 0=D1 _ (U.ids[k']'hk');rw[H8 _ _ _ _ (by omega),Mr];by_cases e:k'=k
  ·subst e;rw[if_pos rfl,a7 k' hk',a10];simp
  ·have:¬r.1=U.ids[k']'hk':=fun h=>e (Hj a2 hk' a9 (by rw[a10];exact h.symm));rw[if_neg e,a7 k' hk',if_neg this,Int.add_zero]
 ·have hk':k'<U.ids.length:=hk0;show(U.ma.set k (U.ma.getD k 0+1)).getD k' 0=Fi _ (U.ids[k']'hk');rw[H8 _ _ _ _ (by omega),SA];by_cases e:k'=k
  ·subst e;rw[if_pos rfl,a8 k' hk',a10];simp
  ·have:¬r.1=U.ids[k']'hk':=fun h=>e (Hj a2 hk' a9 (by rw[a10];exact h.symm));rw[if_neg e,a8 k' hk',if_neg this,Int.add_zero]
 ·have hk':k'<U.ids.length:=hk0;show ∃j:Nat,j<m+1/\U.fi.getD k' 0=(j:Int)/\∃w',((Bp x j).1,U.ids[k']'hk',w')∈_;by_cases e:k'=k
  ·subst e;refine⟨f,f1,f2,?_⟩;rw[a10];rcases f3 with ⟨h1,_,_⟩|⟨w',h⟩
   ·exact⟨w*r.2,by rw[h1];exact mem_append_right _ Mh⟩
   ·exact⟨w',mem_append_left _ h⟩
  ·obtain⟨j,j1,j2,w',j3⟩:=a11 k' hk' e;exact⟨j,j1,j2,w',mem_append_left _ j3⟩
 ·show 0<=(Ff _ _ _ _).getD j 0/\(Ff _ _ _ _).getD j 0<_;rw[hrel j hj];have:=I.pl j hj;have:=I.pl f f1;split<;>omega
 ·show(Ff _ _ _ _).getD j 0=(Ff _ _ _ _).getD j' 0<->_;rw[hrel j hj,hrel j' hj',hcf,<-I.pc j j' hj hj',<-I.pc j m hj (by omega),<-I.pc f j' f1 hj',<-I.pc j f hj f1,<-I.pc m j' (by omega) hj'];split<;>split<;>omega
 ·rcases List.mem_append.1 he with h|h
  ·exact I.fr e h
  ·rw[List.mem_singleton.1 h];exact⟨m,by omega,rfl⟩
theorem S2.Inv.sides(hm:m<n)(w:Int):∀(l:List (Int×Int)) (S:S2) (T:FV),S.Inv x T (m+1) n->(S.sides m w l).Inv x (T++l.map fun r=>((Bp x m).1,r.1,w*r.2)) (m+1) n
 | [],S,T,I=>by rw[List.map_nil,append_nil];exact I
 | r::l,S,T,I=>by have:=S2.Inv.sides hm w l (S.side m w r) _ (I.side hm w r);rw[List.append_assoc]at this;exact this
def LH(l:List Cl)(x:Cl)(m:Nat):FV:=(range m).flatMap fun i=>(Fm l x i).sd.map fun r=>((Bp x i).1,r.1,(Bp x i).2*r.2)
theorem TW(l:List Cl)(x:Cl)(m:Nat):LH l x (m+1)=LH l x m++(Fm l x m).sd.map fun r=>((Bp x m).1,r.1,(Bp x m).2*r.2):=by unfold LH;rw[range_succ,List.flatMap_append];simp
theorem Pp{l:List Cl}(hd:∀j m,j<m->m<x.sd.length->(Bp x j).1≠(Bp x m).1):∀m,m<=x.sd.length->(Ha l x m).Inv x (LH l x m) m x.sd.length
 | 0,_=>⟨by show List.Nodup [];simp,fun c=>⟨fun h=>by simp[Ha]at h,fun⟨a,w,h⟩=>by simp[LH]at h⟩,rfl,rfl,rfl,by simp[Ha],fun k hk=>absurd hk (Nat.not_lt_zero _),fun k hk=>absurd hk (Nat.not_lt_zero _),fun k hk=>absurd hk (Nat.not_lt_zero _),fun j hj=>by omega,fun j j' hj=>by omega,fun e he=>by simp[LH]at he⟩
 | m+1,h=>by rw[TW];exact S2.Inv.sides (by omega) _ _ _ _ ((Pp hd m (by omega)).start (by omega) fun j hj=>hd j m hj (by omega))
structure GoodT(T:FV)(s:List (Int×Int)):Prop where
 sum:∀e∈T,D1 T e.2.1=0
 two:∀e∈T,Fi T e.2.1=2
 con:∀a∈s,∀b∈s,Con T a.1 b.1
theorem Is{l:List Cl}(hd:∀j m,j<m->m<x.sd.length->(Bp x j).1≠(Bp x m).1):DL l x=0<->GoodT (LH l x x.sd.length) x.sd:=by
 have I:=Pp (l:=l) hd x.sd.length (Nat.le_refl _);obtain⟨S,hS⟩:∃S,Ha l x x.sd.length=S:=⟨_,rfl⟩
 obtain⟨T,hT⟩:∃T,LH l x x.sd.length=T:=⟨_,rfl⟩
 rw[hS,hT]at I;rw[hT];have hget:∀{L:List Int} {j:Nat} (hj:j<L.length),L[j]=L.getD j 0:=fun {L j} hj=>by simp[List.getD,hj]
 have h1:(∀y∈S.su,y=0)<->∀e∈T,D1 T e.2.1=0:=by
  constructor
  ·intro h e he;obtain⟨k,hk,e1⟩:=getElem_of_mem ((I.mem e.2.1).2 ⟨e.1,e.2.2,he⟩);have h2:=I.su k hk;rw[e1]at h2;rw[<-h2,<-hget (by rw[I.ls];exact hk)];exact h _ (getElem_mem _)
  ·intro h y hy;obtain⟨k,hk,rfl⟩:=getElem_of_mem hy;have hk':k<S.ids.length:=by rw[<-I.ls];exact hk
   rw[hget hk,I.su k hk'];obtain⟨a,w,h2⟩:=(I.mem _).1 (getElem_mem hk');exact h _ h2
 have h2:(∀y∈S.ma,y=2)<->∀e∈T,Fi T e.2.1=2:=by
  constructor
  ·intro h e he;obtain⟨k,hk,e1⟩:=getElem_of_mem ((I.mem e.2.1).2 ⟨e.1,e.2.2,he⟩);have h2:=I.ma k hk;rw[e1]at h2;rw[<-h2,<-hget (by rw[I.lm];exact hk)];exact h _ (getElem_mem _)
  ·intro h y hy;obtain⟨k,hk,rfl⟩:=getElem_of_mem hy;have hk':k<S.ids.length:=by rw[<-I.lm];exact hk
   rw[hget hk,I.ma k hk'];obtain⟨a,w,h2⟩:=(I.mem _).1 (getElem_mem hk');exact h _ h2
 have h3:(∀y∈S.pa,y=S.pa.getD 0 0)<->∀a∈x.sd,∀b∈x.sd,Con T a.1 b.1:=by
  constructor
  ·intro h a ha b hb;obtain⟨j,hj,rfl⟩:=getElem_of_mem ha;obtain⟨j',hj',rfl⟩:=getElem_of_mem hb;have e1:S.pa.getD j 0=S.pa.getD 0 0:=by rw[<-hget (by rw[I.lp];exact hj)];exact h _ (getElem_mem _)
   have e2:S.pa.getD j' 0=S.pa.getD 0 0:=by rw[<-hget (by rw[I.lp];exact hj')];exact h _ (getElem_mem _)
   have:=(I.pc j j' hj hj').1 (by rw[e1,e2])
   rwa [Bj hj,Bj hj']at this
  ·intro h y hy;obtain⟨j,hj,rfl⟩:=getElem_of_mem hy;rw[hget hj];rw[I.lp]at hj;refine(I.pc j 0 hj (by omega)).2 ?_;rw[Bj hj,Bj (by omega)];exact h _ (getElem_mem _) _ (getElem_mem _)
 unfold DL;rw[hS];constructor
 ·intro h;split at h
  ·exact absurd h (by decide)
  ·rename_i g1;split at h
   ·exact absurd h (by decide)
   ·rename_i g2;split at h
    ·exact absurd h (by decide)
    ·rename_i g3;exact⟨h1.1 (Classical.not_not.1 g1),h2.1 (Classical.not_not.1 g2),h3.1 (Classical.not_not.1 g3)⟩
 ·rintro⟨g1,g2,g3⟩;rw[if_neg (fun q=>q (h1.2 g1)),if_neg (fun q=>q (h2.2 g2)),if_neg (fun q=>q (h3.2 g3))]
end Go.Proofs.Q

namespace Go.Proofs.Q
open Go.Eng Go.RowKit
theorem RdC.snoc'{h:Hp}{A:List Ce}(hA:∀a∈A,RdL cD 2 h [] a.v a.c.sd){c:Ce}(hc:RdL cD 2 h [] c.v c.c.sd):∀a∈A++[c],RdL cD 2 h [] a.v a.c.sd:=fun a ha=>by
 rcases List.mem_append.1 ha with h|h
 ·exact hA a h
 ·rw[List.mem_singleton.1 h];exact hc
theorem JJ:∀(ll acc all:List (List Int)),acc.length<=4000->Cu acc ll=some all->all.length<=4000
 | [],acc,all,h,e=>by have:acc=all:=Option.some.inj e;rw[<-this];exact h
 | l::ll,acc,all,h,e=>by
  rw[DA]at e;split at e
  ·cases e
  ·exact JJ ll _ all (by omega) e
theorem WX(ll:List (List Int)):(Eb ll).length<=4000/\∀c∈Eb ll,(-1<=c.dim/\c.dim<=8)/\c.sd.length<=9:=by
 unfold Eb;cases h:Cu [] ll with
 | none=>exact⟨by simp,fun c hc=>nomatch hc⟩
 | some all=>
  have h9:=EW ll [] all List.Pairwise.nil (fun t ht=>nomatch ht) h;refine⟨by simpa using JJ ll [] all (by simp) h,fun c hc=>?_⟩;obtain⟨i,hi,rfl⟩:=List.mem_map.1 hc;have hil:=List.mem_range.1 hi
  have hl:(all.getD i []).length<=9:=by
   have:all.getD i []=all[i]:=by simp[List.getD,hil]
   rw[this];exact h9 _ (getElem_mem hil)
  refine⟨?_,?_⟩
  ·show -1<=((all.getD i []).length:Int)-1/\((all.getD i []).length:Int)-1<=8;omega
  ·show(if(all.getD i []).length<=1 then [] else Ca _).length<=9;split
   ·simp
   ·rw[Gn,length_map,List.length_range];exact hl
def QP(h:Hp)(r:Value)(ms:List Hp)(Q:List Cl->Prop):Prop:=∃m A v',ms=[m]/\r=.agg #[v']/\OwnL cC 3 52 m v' A/\Q (A.map Ce.c)/\∀a∈A,RdL cD 2 h [] a.v a.c.sd
variable {o l:List Cl} {x y:Cl} {α β:Type}
def LW(l:List Cl)(c:Int):Option Cl:=l.find? fun y=>decide (y.id=c)
def Gg(l:List Cl)(c:Int):Cl:=(LW l c).getD default
theorem Dk(hn:(l.map Cl.id).Nodup)(hy:y∈l):LW l y.id=some y:=by
 unfold LW
 induction l with
 | nil=>cases hy
 | cons a l ih=>
  rw[map_cons,List.nodup_cons]at hn;rw[List.find?_cons];rcases List.mem_cons.1 hy with rfl|h
  ·simp
  ·have:¬a.id=y.id:=fun e=>hn.1 (List.mem_map.2 ⟨y,h,e.symm⟩);simp only[this,decide_false];exact ih hn.2 h
theorem CP(hn:(l.map Cl.id).Nodup)(hy:y∈l):Gg l y.id=y:=by unfold Gg;rw[Dk hn hy];rfl
def KV(L:Int->List (Int×Int))(s:List (Int×Int)):FV:=s.flatMap fun a=>(L a.1).map fun r=>(a.1,r.1,a.2*r.2)
def Fu(l:List Cl)(x:Cl):FV:=KV (fun c=>(Gg l c).sd) x.sd
structure Rgt(l:List Cl):Prop where
 n:l.length<=4000
 nd:(l.map Cl.id).Nodup
 pos:∀x∈l,1<=x.id
 dim:∀x∈l,0<=x.dim/\x.dim<=8
 num:∀x∈l,¬BV x
 sds:∀x∈l,(x.sd.map Prod.fst).Nodup
 sid:∀x∈l,∀s∈x.sd,∃y∈l,y.id=s.1/\y.dim=x.dim-1
 sgn:∀x∈l,∀s∈x.sd,s.2=1\/s.2=-1
 one:∀x∈l,x.dim=1->(x.sd.map Prod.snd).sum=0
 tab:∀x∈l,2<=x.dim->GoodT (Fu l x) x.sd
theorem Rgt.nil:Rgt []:=⟨by simp,by simp,nofun,nofun,nofun,nofun,nofun,nofun,nofun,nofun⟩
theorem IQ{l l':List Int}(h:l.Perm l'):l.sum=l'.sum:=by
 induction h with
 | nil=>rfl
 | cons x _ ih=>simp only[sum_cons,ih]
 | swap x y l=>simp only[sum_cons];omega
 | trans _ _ h1 h2=>exact h1.trans h2
theorem GoodT.perm{T T':FV}{s s':List (Int×Int)}(h:T.Perm T')(hs:s.Perm s')(G:GoodT T s):GoodT T' s' where
 sum:=fun e he=>by exact(IQ (h.map _).symm).trans (G.sum e (h.mem_iff.2 he))
 two:=fun e he=>by exact(IQ (h.map _).symm).trans (G.two e (h.mem_iff.2 he))
 con:=fun a ha b hb=>(G.con a (hs.mem_iff.2 ha) b (hs.mem_iff.2 hb)).mono fun e he=>h.mem_iff.1 he
theorem HJ{f g:α->List β}:∀{l:List α},(∀a∈l,(f a).Perm (g a))->(l.flatMap f).Perm (l.flatMap g)
 | [],_=>List.Perm.refl _
 | a::l,h=>by rw[flatMap_cons,flatMap_cons];exact(h a Mh).append (HJ fun b hb=>h b (mem_cons_of_mem _ hb))
theorem DQ{f g:α->List β}:∀{l:List α},(∀a∈l,f a=g a)->l.flatMap f=l.flatMap g
 | [],_=>rfl
 | a::l,h=>by rw[flatMap_cons,flatMap_cons,h a Mh,DQ fun b hb=>h b (mem_cons_of_mem _ hb)]
theorem I3{f g:α->List β}{l l':List α}(h:l.Perm l')(hf:∀a∈l,(f a).Perm (g a)):(l.flatMap f).Perm (l'.flatMap g):=(HJ hf).trans (h.flatMap_right g)
theorem SS(x:Int×Int)(l:List (Int×Int)):(HS x l).Perm (x::l):=by unfold HS;refine List.perm_middle.trans ?_;rw[List.takeWhile_append_dropWhile]
theorem BQ(l:List (Int×Int)):(Ca l).Perm l:=by
 have go:∀(l acc:List (Int×Int)),(l.foldl (fun acc x=>HS x acc) acc).Perm (acc++l):=fun l=>by
  induction l with
  | nil=>intro acc;rw[append_nil];exact List.Perm.refl _
  | cons x l ih=>
   intro acc;rw[List.foldl_cons];refine(ih _).trans (((SS x acc).append_right l).trans ?_);exact List.perm_middle.symm
 exact go l []
structure SimC(l l':List Cl):Prop where
 len:l'.length=l.length
 ids:(l'.map Cl.id).Perm (l.map Cl.id)
 mem:∀x'∈l',∃x∈l,x'.id=x.id/\x'.dim=x.dim/\x'.sd.Perm x.sd
theorem SimC.to{l':List Cl}(S:SimC l l')(hn:(l.map Cl.id).Nodup)(hx:x∈l):∃x'∈l',x'.id=x.id/\x'.dim=x.dim/\x'.sd.Perm x.sd:=by
 obtain⟨x',h1,h2⟩:=List.mem_map.1 (S.ids.mem_iff.2 (List.mem_map.2 ⟨x,hx,rfl⟩));obtain⟨y,h3,h4,h5,h6⟩:=S.mem x' h1
 have:y=x:=by have a:=Dk hn h3;have b:=Dk hn hx;rw[<-h4,h2,b]at a;exact(Option.some.inj a).symm
 subst this;exact⟨x',h1,h4,h5,h6⟩
theorem Rgt.sim{l':List Cl}(R:Rgt l)(S:SimC l l'):Rgt l':=by
 have hn':(l'.map Cl.id).Nodup:=S.ids.nodup_iff.2 R.nd
 have hnum:∀{x x':Cl},x'.dim=x.dim->x'.sd.Perm x.sd->¬BV x->¬BV x':=fun {x x'} h1 h2 h h3=>by unfold BV at *;rw[h1,h2.length_eq]at h3;exact h h3
 refine⟨by rw[S.len];exact R.n,hn',fun x' hx'=>?_,fun x' hx'=>?_,fun x' hx'=>?_,fun x' hx'=>?_,fun x' hx' s hs=>?_,fun x' hx' s hs=>?_,fun x' hx' hd=>?_,fun x' hx' hd=>?_⟩<;>obtain⟨x,hx,e1,e2,e3⟩:=S.mem x' hx'
 ·rw[e1];exact R.pos x hx
 ·rw[e2];exact R.dim x hx
 ·exact hnum e2 e3 (R.num x hx)
 ·exact(e3.map _).nodup_iff.2 (R.sds x hx)
 ·obtain⟨y,hy,h1,h2⟩:=R.sid x hx s (e3.mem_iff.1 hs);obtain⟨y',hy',h3,h4,_⟩:=S.to R.nd hy;exact⟨y',hy',by rw[h3,h1],by rw[h4,h2,e2]⟩
 ·exact R.sgn x hx s (e3.mem_iff.1 hs)
 ·rw[IQ (e3.map _)];exact R.one x hx (by rw[<-e2];exact hd)
 ·refine(R.tab x hx (by rw[<-e2];exact hd)).perm ?_ e3.symm;unfold Fu KV;refine I3 e3.symm fun s hs=>List.Perm.map _ ?_;obtain⟨y,hy,h1,h2⟩:=R.sid x hx s hs;obtain⟨y',hy',h3,h4,h5⟩:=S.to R.nd hy;show(Gg l s.1).sd.Perm (Gg l' s.1).sd;rw[<-h1,CP R.nd hy,<-h3,CP hn' hy'];exact h5.symm
theorem Tr(l:List Cl):SimC l (ordF l):=by have hp:=Db l.length l (Nat.le_refl _);refine⟨by rw[hp.length_eq,length_map],(hp.map Cl.id).trans (by rw[map_map];exact List.Perm.refl _),fun x' hx'=>?_⟩;obtain⟨x,hx,rfl⟩:=G3 hx';exact⟨x,hx,rfl,rfl,BQ _⟩
theorem MP(h:o.Pairwise fun a b=>a.id<b.id):(o.map Cl.id).Nodup:=List.pairwise_map.2 (h.imp fun h e=>by omega)
theorem Hi(hi:o.Pairwise fun a b=>a.id<b.id)(hy:y∈o):0<=I5 o y.id/\o.getD (I5 o y.id).toNat default=y:=by
 obtain⟨k,hk,rfl⟩:=getElem_of_mem hy;have hc:Kc o o[k].id=k:=Oy (by omega) (fun j hj hjk=>List.pairwise_iff_getElem.1 hi j k hj hk hjk) (fun _=>by omega)
 have e:I5 o o[k].id=(k:Int):=by unfold I5;rw[dif_pos (by rw[hc];exact hk)];simp only[hc,if_pos]
 rw[e];refine⟨by omega,?_⟩;rw[Int.toNat_natCast];simp[List.getD,hk]
theorem Sh{c:Int}(h:0<=I5 o c):∃y∈o,y.id=c/\o.getD (I5 o c).toNat default=y:=by
 unfold I5 at *;split at h
 ·rename_i h1;rw[dif_pos h1];split at h
  ·rename_i h2;rw[if_pos h2,Int.toNat_natCast];exact⟨_,getElem_mem h1,h2,by simp[List.getD,h1]⟩
  ·exact absurd h (by decide)
 ·exact absurd h (by decide)
theorem RA{l:List (Int×Int)}(h:l.length=2):(l.map Prod.snd).sum=(l.getD 0 (0,0)).2+(l.getD 1 (0,0)).2:=by
 match l,h with
 | [a,b],_=>simp
theorem IV{x:Int×Int}:∀{l:List (Int×Int)},(l.Pairwise fun a b=>a.1<=b.1)->∀y∈l.dropWhile (fun y=>decide (y.1<=x.1)),x.1<y.1
 | [],_,y,hy=>by cases hy
 | a::l,h,y,hy=>by
  rw[List.dropWhile_cons]at hy;split at hy
  ·exact IV (List.pairwise_cons.1 h).2 y hy
  ·rename_i h1;have h1:¬a.1<=x.1:=by simpa using h1
   rcases List.mem_cons.1 hy with rfl|h2
   ·omega
   ·have:=(List.pairwise_cons.1 h).1 y h2;omega
theorem Vy{x:Int×Int}{l:List (Int×Int)}(h:l.Pairwise fun a b=>a.1<=b.1):(HS x l).Pairwise fun a b=>a.1<=b.1:=by
 unfold HS
 have h1:∀y∈l.takeWhile (fun y=>decide (y.1<=x.1)),y.1<=x.1:=fun y hy=>by have:=List.all_takeWhile (p:=fun y:Int×Int=>decide (y.1<=x.1)) (l:=l);have:=List.all_eq_true.1 this y hy;simpa using this
 have h2:=IV (x:=x) h;refine List.pairwise_append.2 ⟨h.sublist (List.takeWhile_sublist _),List.pairwise_cons.2 ⟨fun y hy=>by have:=h2 y hy;omega,h.sublist (List.dropWhile_sublist _)⟩,fun a ha b hb=>?_⟩;have h3:=h1 a ha;rcases List.mem_cons.1 hb with rfl|hb
 ·exact h3
 ·have:=h2 b hb;omega
theorem Fa(l:List (Int×Int)):(Ca l).Pairwise fun a b=>a.1<=b.1:=by
 have go:∀(l acc:List (Int×Int)),(acc.Pairwise fun a b=>a.1<=b.1)->(l.foldl (fun acc x=>HS x acc) acc).Pairwise fun a b=>a.1<=b.1:=fun l=>by
  induction l with
  | nil=>intro acc h;exact h
  | cons x l ih=>intro acc h;rw[List.foldl_cons];exact ih _ (Vy h)
 exact go l [] List.Pairwise.nil
theorem R0(hi:o.Pairwise fun a b=>a.id<b.id)(hs:∀s∈x.sd,∃y∈o,y.id=s.1):LH o x x.sd.length=Fu o x:=by
 have hx:x.sd=(range x.sd.length).map (Bp x):=List.ext_getElem (by simp) fun j h1 h2=>by simp[Bj h1]
 unfold Fu KV
 conv=>rhs;rw[hx]
 unfold LH;rw[List.flatMap_map];refine DQ fun j hj=>?_;have hj:=List.mem_range.1 hj;obtain⟨y,hy,e⟩:=hs (Bp x j) (by rw[Bj hj];exact getElem_mem hj);have h1:Fm o x j=y:=by unfold Fm;rw[<-e];exact(Hi hi hy).2
 have h2:Gg o (Bp x j).1=y:=by rw[<-e];exact CP (MP hi) hy
 show _=List.map (fun r=>((Bp x j).1,r.1,(Bp x j).2*r.2)) (Gg o (Bp x j).1).sd;rw[h1,h2]
theorem Q7(hi:o.Pairwise fun a b=>a.id<b.id)(hc:∃y:Cl,x=y.can):(∀i,i<x.sd.length->¬CA o x i)<->(∀s∈x.sd,∃y∈o,y.id=s.1/\y.dim=x.dim-1)/\(x.sd.map Prod.fst).Nodup:=by
 have hs:x.sd.Pairwise fun a b=>a.1<=b.1:=by obtain⟨y,rfl⟩:=hc;exact Fa _
 constructor
 ·intro h;refine⟨fun s hs=>?_,?_⟩
  ·obtain⟨i,hi',rfl⟩:=getElem_of_mem hs;have h1:=h i hi';unfold CA at h1;rw[Bj hi']at h1;have h2:0<=I5 o x.sd[i].1:=Int.not_lt.1 fun q=>h1 (.inl q);obtain⟨y,hy,e1,e2⟩:=Sh h2;rw[e2]at h1;exact⟨y,hy,e1,Classical.byContradiction fun q=>h1 (.inr (.inl q))⟩
  ·refine List.pairwise_map.2 (List.pairwise_iff_getElem.2 fun i j hi' hj hij e=>?_);have h1:=h (i+1) (by omega);unfold CA at h1;rw[Bj (by omega),Nat.add_sub_cancel,Bj hi']at h1;refine h1 (.inr (.inr ⟨by omega,?_⟩));have a1:=List.pairwise_iff_getElem.1 hs i (i+1) hi' (by omega) (by omega);rcases (by omega:i+1=j\/i+1<j) with rfl|q
   ·omega
   ·have a2:=List.pairwise_iff_getElem.1 hs (i+1) j (by omega) hj q;omega
 ·rintro⟨h1,h2⟩ i hi' h3;unfold CA at h3;rw[Bj hi']at h3;obtain⟨y,hy,e1,e2⟩:=h1 _ (getElem_mem hi');obtain⟨a1,a2⟩:=Hi hi hy;rw[e1]at a1 a2;rcases h3 with h3|h3|⟨h3,h4⟩
  ·omega
  ·rw[a2]at h3;exact h3 e2
  ·rw[Bj (show i-1<x.sd.length by omega)]at h4;have:=List.pairwise_iff_getElem.1 (List.pairwise_map.1 h2) (i-1) i (by omega) hi' (by omega);exact this h4.symm
theorem I4(h:(x.sd.map Prod.fst).Nodup):∀j m,j<m->m<x.sd.length->(Bp x j).1≠(Bp x m).1:=fun j m hjm hm=>by rw[Bj (by omega),Bj hm];exact List.pairwise_iff_getElem.1 (List.pairwise_map.1 h) j m (by omega) hm hjm
theorem RgtF.rgt(R:RgtF o):Rgt o:=by
 have hf:=fun x hx=>EF (R.fst x hx)
 have hnum:∀x∈o,¬BV x:=fun x hx q=>by have:=R.fst x hx;unfold Cn at this;rw[if_neg (by have:=(hf x hx).1;omega),if_pos q]at this;exact absurd this (by decide)
 have hb:=fun x hx=>(Q7 R.inc (R.can x hx)).1 (hf x hx).2.2.1;have hsg:∀x∈o,∀s∈x.sd,s.2=1\/s.2=-1:=fun x hx=>(R.bds hx).2.2;refine⟨R.n,MP R.inc,R.pos,fun x hx=>(hf x hx).1,hnum,fun x hx=>(hb x hx).2,fun x hx=>(hb x hx).1,hsg,fun x hx hd=>?_,fun x hx hd=>?_⟩
 ·have hl:x.sd.length=2:=Classical.byContradiction fun q=>hnum x hx (.inr (.inl ⟨hd,q⟩));rw[RA hl];have h1:=hsg x hx _ (getElem_mem (show 0<x.sd.length by omega));have h2:=hsg x hx _ (getElem_mem (show 1<x.sd.length by omega));have h3:=R.fst x hx;unfold Cn at h3;rw[if_neg (by have:=(hf x hx).1;omega),if_neg (hnum x hx),if_neg (fun q=>q (hf x hx).2.2.1),if_neg (fun q=>q (hf x hx).2.2.2)]at h3;rw[<-Bj]at h1 h2;have h4:¬(Bp x 0).2=(Bp x 1).2:=fun q=>by rw[if_pos ⟨hd,q⟩]at h3;exact absurd h3 (by decide)
  show(Bp x 0).2+(Bp x 1).2=0;omega
 ·have h1:=(Is (I4 (hb x hx).2)).1 (R.snd x hx hd)
  rwa [R0 R.inc fun s hs=>by obtain⟨y,hy,e,_⟩:=(hb x hx).1 s hs;exact⟨y,hy,e⟩]at h1
theorem Rgt.ordF(R:Rgt l):RgtF (ordF l):=by
 have R':=R.sim (Tr l);have hle:=Du l.length l (Nat.le_refl _);have hinc:(Go.Proofs.Q.ordF l).Pairwise fun a b=>a.id<b.id:=(hle.and (List.pairwise_map.1 R'.nd)).imp fun h=>by omega
 have hcan:∀x∈Go.Proofs.Q.ordF l,∃y:Cl,x=y.can:=fun x hx=>by obtain⟨a,_,e⟩:=G3 hx;exact⟨a,e⟩
 refine⟨R'.n,hinc,R'.pos,hcan,fun x hx=>?_,fun x hx hd=>?_⟩
 ·have hb:=(Q7 hinc (hcan x hx)).2 ⟨R'.sid x hx,R'.sds x hx⟩
  have hsg:∀i,i<x.sd.length->¬BN x i:=fun i hi q=>by unfold BN at q;rw[Bj hi]at q;have:=R'.sgn x hx _ (getElem_mem hi);omega
  unfold Cn;rw[if_neg (by have:=R'.dim x hx;omega),if_neg (R'.num x hx),if_neg (fun q=>q hb),if_neg (fun q=>q hsg)];by_cases hd:x.dim=1
  ·have hl:x.sd.length=2:=Classical.byContradiction fun q=>R'.num x hx (.inr (.inl ⟨hd,q⟩));have h1:=R'.one x hx hd;rw[RA hl]at h1;have h2:=R'.sgn x hx _ (getElem_mem (show 0<x.sd.length by omega));rw[<-Bj]at h2;have h3:(Bp x 0).2+(Bp x 1).2=0:=h1;rw[if_neg (fun q=>by have:=q.2;omega)]
  ·rw[if_neg (fun q=>hd q.1)]
 ·refine(Is (I4 (R'.sds x hx))).2 ?_;rw[R0 hinc fun s hs=>by obtain⟨y,hy,e,_⟩:=R'.sid x hx s hs;exact⟨y,hy,e⟩];exact R'.tab x hx hd
end Go.Proofs.Q
namespace Go.Proofs.Q
open Go.Proofs.Tryz
open Go.Eng Go.RowKit
variable {l o:List Cl} {v:Value} {oi:List CeO}
structure CanO(l o:List Cl):Prop where
 ids:(o.map Cl.id).Perm (l.map Cl.id)
 inc:o.Pairwise fun a b=>a.id<=b.id
 mem:∃l':List Cl,l'.Perm l/\o.length=l'.length/\∀i (h:i<o.length) (h':i<l'.length),o[i].id=l'[i].id/\o[i].dim=l'[i].dim/\o[i].sd.Perm l'[i].sd/\o[i].sd.Pairwise fun a b=>a.1<=b.1
theorem CanO.len(C:CanO l o):o.length=l.length:=by obtain⟨l',h1,h2,_⟩:=C.mem;rw[h2,h1.length_eq]
theorem CanO.sim(C:CanO l o):SimC l o:=by obtain⟨l',h1,h2,h3⟩:=C.mem;refine⟨C.len,C.ids,fun x' hx'=>?_⟩;obtain⟨i,hi,rfl⟩:=getElem_of_mem hx';obtain⟨a,b,c,_⟩:=h3 i hi (by omega);exact⟨_,h1.mem_iff.1 (getElem_mem (by omega)),a,b,c⟩
theorem Dq{α:Type}(k:α->Int):∀{l l':List α},l.Perm l'->(l.Pairwise fun a b=>k a<=k b)->(l'.Pairwise fun a b=>k a<k b)->l=l'
 | [],l',h,_,_=>(List.nil_perm.1 h).symm
 | a::l,[],h,_,_=>absurd h.length_eq (by simp)
 | a::l,b::l',h,h1,h2=>by
  obtain⟨h3,h4⟩:=List.pairwise_cons.1 h1;obtain⟨h5,h6⟩:=List.pairwise_cons.1 h2;have hb:b∈a::l:=h.mem_iff.2 Mh;have ha:a∈b::l':=h.mem_iff.1 Mh
  have e:a=b:=by
   rcases List.mem_cons.1 ha with e|ha
   ·exact e
   ·have g1:=h5 a ha;rcases List.mem_cons.1 hb with e|hb
    ·exact e.symm
    ·have g2:=h3 b hb;omega
  subst e;rw[Dq k ((List.perm_cons a).1 h) h4 h6]
theorem RgtF.sinc(R:RgtF o):∀x∈o,x.sd.Pairwise fun a b=>a.1<b.1:=fun x hx=>by
 obtain⟨y,e⟩:=R.can x hx;have h1:x.sd.Pairwise fun a b=>a.1<=b.1:=by rw[e];exact Fa _
 have h2:=List.pairwise_map.1 (R.rgt.sds x hx);exact(h1.and h2).imp fun h=>by omega
theorem exO:∀{l:List Ce},(∀a∈l,a.v.oneCell'=true)->∃lo:List CeO,lo.map (fun e=>(⟨e.c,e.v⟩:Ce))=l
 | [],_=>⟨[],rfl⟩
 | a::l,h=>by obtain⟨lo,e⟩:=exO fun b hb=>h b (mem_cons_of_mem _ hb);exact⟨⟨a.c,a.v,h a Mh⟩::lo,by rw[map_cons,e]⟩
def Lu(e:CeO):Ce:=⟨e.c,e.v⟩
theorem I6(lo:List CeO):(lo.map Lu).flatMap cC=lo.flatMap HK:=by rw[List.flatMap_map];rfl
theorem ZJ{lo:List CeO}{h:Hp}{ms:List Hp}(R:RdL cC 3 h ms v (lo.map Lu)):RdL HK 3 h ms v lo:=⟨by have:=R.rd;rwa [I6,length_map]at this,JR⟩
theorem U1{lo:List CeO}{m:Hp}(O:OwnL HK 3 52 m v lo):OwnL cC 3 52 m v (lo.map Lu):=⟨by have:=O.own;rwa [I6,length_map],Ct⟩
def StpO(o oi:List CeO)(i:Nat):Prop:=oi.length=o.length/\∀j (h:j<oi.length) (h':j<o.length),oi[j].c.id=o[j].c.id/\oi[j].c.dim=o[j].c.dim/\oi[j].c.sd.Perm o[j].c.sd/\(j<i->oi[j].c.sd.Pairwise fun a b=>a.1<=b.1)
theorem StpO.start(o:List CeO):StpO o o 0:=⟨rfl,fun j h h'=>⟨rfl,rfl,List.Perm.refl _,fun q=>absurd q (by omega)⟩⟩
theorem StpO.step{o:List CeO}{i:Nat}(S:StpO o oi i)(hi:i<oi.length){s:List (Int×Int)}(hp:s.Perm oi[i].c.sd)(hs:s.Pairwise fun a b=>a.1<=b.1){hv:v.oneCell'=true}:StpO o (oi.set i ⟨⟨oi[i].c.id,oi[i].c.dim,s⟩,v,hv⟩) (i+1):=by
 refine⟨by rw[length_set];exact S.1,fun j h h'=>?_⟩;rw[length_set]at h;obtain⟨a,b,c,d⟩:=S.2 j h h';by_cases e:i=j
 ·subst e;simp only[List.getElem_set_self];exact⟨a,b,hp.trans c,fun _=>hs⟩
 ·simp only[List.getElem_set_ne e];exact⟨a,b,c,fun q=>d (by omega)⟩
theorem StpO.can{o:List CeO}(S:StpO o oi o.length)(hp:(o.map CeO.c).Perm l)(hi:o.Pairwise fun a b=>a.c.id<=b.c.id):CanO l (oi.map CeO.c):=by
 have hl:=S.1
 have hid:(oi.map CeO.c).map Cl.id=(o.map CeO.c).map Cl.id:=List.ext_getElem (by simp[hl]) fun i h1 h2=>by simp only[getElem_map];exact(S.2 i (by simpa using h1) (by simpa using h2)).1
 refine⟨by rw[hid];exact hp.map _,?_,o.map CeO.c,hp,by simp[hl],fun i h h'=>?_⟩
 ·refine List.pairwise_map.2 ?_;rw[List.pairwise_iff_getElem]at hi ⊢;intro i j h1 h2 hij;have:=hi i j (by omega) (by omega) hij;have e1:=(S.2 i h1 (by omega)).1;have e2:=(S.2 j h2 (by omega)).1;omega
 ·rw[length_map]at h h';simp only[getElem_map];obtain⟨a,b,c,d⟩:=S.2 i h h';exact⟨a,b,c,d h'⟩
theorem UL{i:Nat}{a b:CeO}(h:a∈oi.set i b):a=b\/a∈oi:=(List.mem_or_eq_of_mem_set h).symm
theorem Jc(l:List Ce)(v:Value)(hp:Hp)(hn:l.length<=1000000)(hs:∀a∈l,a.c.sd.length<=1000000)(hR:RdC hp v l):FnT Tryz.prog 65 #[.agg #[v]] hp [] (fun r h' ms'=>hp.le h'/\∃m A v',ms'=[m]/\r=.agg #[v']/\OwnL cC 3 52 m v' A/\CanO (l.map Ce.c) (A.map Ce.c)/\∀a∈A,RdL cD 2 h' [] a.v a.c.sd):=by
 have o1:=hR.q.rd.one;obtain⟨lo,e⟩:=exO (fun a ha=>(hR.s a ha).rd.one);have e:lo.map Lu=l:=e;refine Ap func65 ntmps65 rfl rfl (fun w0 hw0=>?_);simp only[AX];refine As (AV [_] rfl rfl (by rfl) rfl rfl rfl (fun g1=>Cz [.slice none 0 0] rfl AW rfl rfl (fun g2=>Am (Bm 1 rfl fun h1 l1 hS=>?_))));have hR:=hR.up l1;have hA:=Seg.all hS;have c0:∀ms,Cell h1 ms (⟨g1,0,none⟩:Addr) v:=fun ms=>hA 0 _ rfl ms;have hRo:RdL HK 3 h1 [] v lo:=ZJ (by rw[e];exact hR.q);have hlo:lo.length=l.length:=by rw[<-e,length_map]
 refine As (Qf B8 rfl (Ql rfl Bh (c0 _) (Qc call134 rfl (Q3 lo v h1 hRo (by omega)) (fun r h2 ms2 l2 hF=>?_))));obtain⟨l2',m,o,rfl,hO,hP,hI⟩:=hF;have ovr:=hO.o1;have hol:o.length=l.length:=by rw[hP.length_eq,hlo]
 have hRs:∀a∈o,RdL cD 2 h2 [] a.v a.c.sd/\a.c.sd.length<=1000000:=fun a ha=>by
  have:Lu a∈l:=by rw[<-e];exact List.mem_map.2 ⟨a,hP.mem_iff.1 ha,rfl⟩
  exact⟨(hR.s _ this).up l2,hs _ this⟩
 refine Qm rfl (Am (Ac (As (Qm rfl (Qx (Ar (hO.rd Mh).rd rfl Bh rfl) rfl (Qm rfl (Am (Ag ?_))))))))
 refine Ay (fun q sl h' ms'=>∃(i:Nat) (m:Hp) (oi:List CeO),q=o.length-i/\sl=[(2,.pointer (some ⟨g2,0,none⟩)),(3,r),(9,.int .i64 o.length),(10,.int .i64 i)]/\h2.le h'/\ms'=[m,Bn g2 29 [.slice none 0 0]]/\i<=o.length/\OwnL HK 3 52 m r oi/\StpO o oi i/\∀a∈oi,RdL cD 2 h' [] a.v a.c.sd/\a.c.sd.length<=1000000)
  (o.length-0) _ ⟨0,m,o,rfl,rfl,C9,rfl,by omega,hO,StpO.start o,hRs⟩ Qs ?_
 rintro q sl h3 ms' ⟨i,m,oi,rfl,rfl,l3,rfl,hi,hO,hSt,hRs⟩;have ovr:=hO.o1;have hoil:=hSt.1;refine As (Qm rfl (Am (Ac ?_)));refine Aq rfl (fun hlt=>?_) (fun hlt=>?_)
 ·have hil:i<oi.length:=by omega
  obtain⟨hRi,hRn⟩:=hRs _ (getElem_mem hil);have c2:∀ms,m∈ms->Cell h3 ms (((AF r).add (i*3)).add 2) oi[i].v:=fun ms hm=>(hO.rd hm).cell hil (f:=2) rfl;have ovi:=hRi.rd.one;refine Ah (Ab (Ac (Ag (As (Qm rfl (Qm rfl (Gm (Qm rfl (Qm rfl (Qm rfl (Qm rfl (Qx (AE (i) (hO.rd Mh).rd rfl Bh AI rfl rfl (by omega) (by omega)) rfl (Qf BB rfl (Ql rfl BZ (c2 _ Mh) (Qc call136 rfl (PY oi[i].c.sd oi[i].v h3 hRi hRn) (fun rS h4 ms4 l4 hF=>?_))))))))))))))));obtain⟨l4',mS,s,rfl,hOS,hPS,hIS⟩:=hF;refine BA hOS fun h5 l5 hRS=>?_;have ovS:=hRS.rd.one;refine Qx (AE (i) (hO.rd Mh).rd rfl Bh AI rfl rfl (by omega) (by omega)) rfl (Qf BB rfl ?_);refine Gb 0 i 2 ⟨⟨oi[i].c.id,oi[i].c.dim,s⟩,rS,ovS⟩ [rS] hO rfl Tf rfl rfl hRS.rd.cells rfl (fun c hc=>by rw[List.mem_singleton.1 hc];exact ovS) rfl hil (by omega) rfl rfl rfl (fun m' hO'=>?_);refine Ak (Ai (Ab (Ad (Qx (oA rfl) rfl (Qm rfl (Ak ?_))))))
  exact Al (o.length-(i+1)) _ (by omega) ⟨i+1,m',_,rfl,rfl,AJ l3 (AJ l4 l5),rfl,by omega,hO',hSt.step hil hPS hIS,fun a ha=>by
   rcases UL ha with rfl|ha
   ·exact⟨hRS,by show s.length<=_;rw[hPS.length_eq];exact hRn⟩
   ·exact⟨(hRs a ha).1.up (AJ l4 l5),(hRs a ha).2⟩⟩ Qs
 ·obtain rfl:i=o.length:=by omega
  have hcan:CanO (l.map Ce.c) (oi.map CeO.c):=hSt.can (by rw[<-e,map_map];exact hP.map _) hI;have hOe:=U1 hO
  have hfin:∀a∈oi.map Lu,RdL cD 2 h3 [] a.v a.c.sd:=fun a ha=>by obtain⟨b,hb,rfl⟩:=List.mem_map.1 ha;exact(hRs b hb).1
  have hmm:(oi.map Lu).map Ce.c=oi.map CeO.c:=by rw[map_map];rfl
  obtain⟨ar,cr,rfl,_⟩:=(hO.rd (h:=h3) (ms:=[m]) Mh).rd.ex;refine Av (Aa (Aa (Af (Ab (As (Qm rfl (Qx (A3 YQ [.slice none 0 0] [(0,_)] [_] rfl AW rfl rfl Qt rfl) rfl ?_)))))));refine Sa 1 [_] AW rfl (by simp[Value.oneCell']) ?_;refine Am (An ?_);exact By (vs:=[_]) 1 rfl rfl CF rfl AW rfl rfl (⟨AJ l1 (AJ l2 l3),m,oi.map Lu,_,rfl,rfl,hOe,by rw[hmm];exact hcan,hfin⟩)
end Go.Proofs.Q
namespace Go.Proofs.Q
open Go.Proofs.Tryz
open Go.Eng Go.RowKit
def kN(a:Int):Value:=.int .i64 a
theorem Bs:MM Tryz.prog 3 kN BH where
 law:=Maps.int_keyed U3
 inj:=fun a b h=>by unfold kN at h;simpa using h
 key:=fun b h=>⟨_,Maps.keyOf_int_mk U3 (WalkArith.wf_i64 h)⟩
def vC(a:Ce):Value:=.agg (cC a).toArray
theorem KR(w:World):(zeroValue 52).run Tryz.prog w=.ok (vC default) w:=by rfl
theorem Fz{a h m:Hp}(hl:a.le h)(hd:h.disj m):a.disj m:=fun g=>by
 rcases hd g with e|e
 ·left
  cases ha:a g with
  | none=>rfl
  | some o=>rw[hl g o ha]at e;cases e
 ·exact .inr e
def PJ(U:List Ce)(a:Ce):List Ce:=if a.c.id∈U.map (fun b=>b.c.id) then U else U++[a]
def P9(A:List Ce):List Ce:=A.foldl PJ []
theorem Wg{A:List Ce}{i:Nat}(hi:i<A.length):P9 (A.take (i+1))=PJ (P9 (A.take i)) A[i]:=by unfold P9;rw[List.take_succ_eq_append_getElem hi,foldl_append];rfl
theorem JQ:∀(A U:List Ce),∀a∈A.foldl PJ U,a∈U\/a∈A
 | [],U,a,h=>.inl h
 | b::A,U,a,h=>by
  rcases JQ A (PJ U b) a h with h|h
  ·unfold PJ at h;split at h
   ·exact .inl h
   ·rcases List.mem_append.1 h with h|h
    ·exact .inl h
    ·rw[List.mem_singleton.1 h];exact .inr Mh
  ·exact .inr (mem_cons_of_mem _ h)
theorem RK:∀(A U:List Ce),((U++A).map fun a=>a.c.id).Nodup->A.foldl PJ U=U++A
 | [],U,_=>by simp
 | a::A,U,h=>by
  have e:PJ U a=U++[a]:=by unfold PJ;rw[if_neg];intro hm;rw[map_append,List.nodup_append]at h;exact h.2.2 _ hm _ (by simp) rfl
  rw[List.foldl_cons,e,RK A (U++[a]) (by rwa [List.append_assoc])];simp
theorem Wi{A:List Ce}(h:(A.map fun a=>a.c.id).Nodup):P9 A=A:=by have:=RK A [] (by simpa using h);simpa[P9] using this
theorem Wt:∀(A U:List Ce),(A.foldl PJ U).length<=U.length+A.length
 | [],U=>by simp
 | a::A,U=>by
  have h1:=Wt A (PJ U a);have h2:(PJ U a).length<=U.length+1:=by unfold PJ;split<;>simp
  rw[List.foldl_cons,length_cons];omega
def Fs(U:List Ce):List (Int×Ce):=U.map fun a=>(a.c.id,a)
theorem N9(U:List Ce):(Fs U).map Prod.fst=U.map fun a=>a.c.id:=by unfold Fs;rw[map_map];rfl
theorem YK{U:List Ce}{i:Int}{b:Bool}(h:(Bi (Fs U) i).isSome=b):i∈U.map (fun a=>a.c.id)<->b=true:=by
 subst h;rw[<-N9];constructor
 ·intro hm;cases hg:Bi (Fs U) i with
  | some _=>rfl
  | none=>
   exfalso;unfold Bi at hg;rw[Option.map_eq_none_iff,List.find?_eq_none]at hg;obtain⟨p,hp,e⟩:=List.mem_map.1 hm;have:=hg p hp;simp[e]at this
 ·intro hs;refine Classical.byContradiction fun hm=>?_;rw[CZ hm]at hs;cases hs
def RdT(h:Hp)(g:Nat)(U:List Ce):Prop:=∃gm m bs vids,Seg h [] ⟨g,0,none⟩ [.map (some gm),vids]/\CO kN vC gm BH m (Fs U) bs/\m.le h/\RdL cI 1 h [] vids (U.map fun a=>a.c.id)/\∀a∈U,RdL cD 2 h [] a.v a.c.sd
theorem RdT.up{h h':Hp}{g:Nat}{U:List Ce}(R:RdT h g U)(l:h.le h'):RdT h' g U:=by obtain⟨gm,m,bs,vids,h1,h2,h3,h4,h5⟩:=R;exact⟨gm,m,bs,vids,h1.le l,h2,AJ h3 l,h4.up l,fun a ha=>(h5 a ha).up l⟩
structure OfOk(l:List Ce):Prop where
 n:l.length<=1000000
 s:∀a∈l,a.c.sd.length<=1000000
 i:∀a∈l,BH a.c.id
theorem Y5(l:List Ce)(v:Value)(hp:Hp)(hK:OfOk l)(hR:RdC hp v l):FnT Tryz.prog 64 #[.agg #[v]] hp [] (fun r h' ms'=>hp.le h'/\ms'=[]/\∃g A,r=.pointer (some ⟨g,0,none⟩)/\CanO (l.map Ce.c) (A.map Ce.c)/\RdT h' g (P9 A)):=by
 have o1:=hR.q.rd.one;refine Ap func64 ntmps64 rfl rfl (fun w0 hw0=>?_);simp only[AX];refine As (AV [_] rfl rfl (by rfl) rfl rfl rfl (fun g1=>Qm rfl (Am (AC fun h1 l1 hS=>?_))));have hR:=hR.up l1;have hA:=Seg.all hS;refine BJ (As (C3 (K:=kN) (V:=vC) (Ok:=BH) rfl rfl rfl rfl (fun gm mM hM=>Qx (A3 Aa4 [.map none,.slice none 0 0] [(0,_)] [_,_] rfl Aa8 rfl rfl Qt rfl) rfl (AV [_,_] rfl rfl (by rfl) rfl rfl rfl (fun g10=>Qm rfl (Am (Ac (As (Qx (oG rfl CF AW (Seg.any hS)) rfl (Qc call65 rfl (Jc l v h1 hK.n hK.s hR) (fun rC h2 ms2 l2 hF=>?_)))))))))));obtain⟨l2',mA,A,vA,rfl,rfl,hOA,hC,hsA⟩:=hF;refine BA hOA fun h3 l3 hQ=>?_;have hsA:=fun a ha=>(hsA a ha).up l3;have ovA:=hQ.rd.one;have hAl:A.length=l.length:=by have:=hC.len;rwa [length_map,length_map]at this
 have hAn:A.length<=1000000:=by rw[hAl];exact hK.n
 refine Qx (DD rfl CF rfl Bh rfl rfl rfl) rfl (Qx (Ar hQ.rd.any rfl Bh rfl) rfl (Qm rfl (Am (Ag ?_))))
 refine Ay (fun q sl h' ms'=>∃(i:Nat) (vI:Value) (mI mM:Hp) (bs:List Nat),q=A.length-i/\sl=[(3,.pointer (some ⟨g10,0,none⟩)),(13,vA),(14,.int .i64 A.length),(15,.int .i64 i)]/\h3.le h'/\ms'=[Bn g10 115 [.map (some gm),vI],mM,mI]/\i<=A.length/\CO kN vC gm BH mM (Fs (P9 (A.take i))) bs/\OwnL cI 1 3 mI vI ((P9 (A.take i)).map fun a=>a.c.id))
  (A.length-0) _ ⟨0,_,Hp.emp,mM,[],rfl,rfl,C9,rfl,by omega,hM,OwnL.nil Bg⟩ Qs ?_
 rintro q sl h4 ms' ⟨i,vI,mI,mM,bs,rfl,rfl,l4,rfl,hi,hM,hOI⟩;have hQ:=hQ.up l4;refine As (Qm rfl (Am (Ac ?_)));refine Aq rfl (fun hlt=>?_) (fun hlt=>?_)
 ·have hil:i<A.length:=by omega
  obtain⟨x,hx⟩:∃x,A[i]=x:=⟨_,rfl⟩
  have hxm:x∈A:=by rw[<-hx];exact getElem_mem hil
  have hU:=Wg hil;rw[hx]at hU;obtain⟨U,hUe⟩:∃U,P9 (A.take i)=U:=⟨_,rfl⟩
  rw[hUe]at hM hOI hU;have oxv:=(hsA x hxm).rd.one;have hsx:∀ms,Seg h4 ms ((AF vA).add (i*3)) (cC x):=fun ms=>by rw[<-hx];exact(hQ.any (ms:=ms)).seg hil
  have ovI:=hOI.o1;obtain⟨bb,hbb⟩:∃bb,(Bi (Fs U) x.c.id).isSome=bb:=⟨_,rfl⟩
  have hin:=YK hbb;refine Ah (Ab ?_);refine A9 (fun sl h' ms'=>∃(vI:Value) (mI mM:Hp) (bs:List Nat),sl=[(3,.pointer (some ⟨g10,0,none⟩)),(13,vA),(14,.int .i64 A.length),(15,.int .i64 i)]/\h4.le h'/\ms'=[Bn g10 115 [.map (some gm),vI],mM,mI]/\CO kN vC gm BH mM (Fs (PJ U x)) bs/\OwnL cI 1 3 mI vI ((PJ U x).map fun a=>a.c.id)) ?_ (fun s h ms hI=>?_)
  ·refine Ag (As (Qx (BF (i) hQ.rd.any rfl Bh AI rfl rfl) rfl (Qx (oG rfl Ef AI (hsx _)) rfl (Cz [.int .i64 0,.int .i64 0,.slice none 0 0] rfl AI rfl rfl (fun g5=>?_)))));refine Sa 0 [_,_,_] AI rfl (by simp[o1,ovA,oxv,ovI]) ?_;refine Am (AC fun h5 l5 hS5=>?_);have e5:=Seg.all hS5;have e50:∀ms,Cell h5 ms (⟨g5,0,none⟩:Addr) (.int .i64 x.c.id):=fun ms=>e5 0 _ rfl ms;refine Gy fun h6 l6 lB dB LB=>(Gy fun h7 l7 lM dM LM=>?_)
   have e10:=Seg.all (Seg.ofLe (AJ lB l7));have e50':∀ms,Cell h7 ms (⟨g5,0,none⟩:Addr) (.int .i64 x.c.id):=fun ms=>(e50 ms).le (AJ l6 l7);have e100:∀ms,Cell h7 ms (⟨g10,0,none⟩:Addr) (.map (some gm)):=fun ms=>e10 0 _ rfl ms
   have hid:BH x.c.id:=by obtain⟨y,hy,e,_⟩:=hC.sim.mem x.c (List.mem_map.2 ⟨x,hxm,rfl⟩);obtain⟨z,hz,rfl⟩:=List.mem_map.1 hy;rw[e];exact hK.i z hz
   obtain⟨y,hy⟩:∃y,(Bi (Fs U) x.c.id).getD default=y:=⟨_,rfl⟩
   have oyv:y.v.oneCell'=true:=by
    rw[<-hy];cases hg:Bi (Fs U) x.c.id with
    | none=>rfl
    | some z=>
     unfold Bi at hg;obtain⟨p,hp,rfl⟩:=Option.map_eq_some_iff.1 hg;obtain⟨a,ha,rfl⟩:=List.mem_map.1 (List.mem_of_find?_eq_some hp);have ha:a∈P9 (A.take i):=by rw[hUe];exact ha
     rcases JQ _ _ a ha with h|h
     ·cases h
     ·exact(hsA a (mem_of_mem_take h)).rd.one
   refine A9 (fun sl h' ms'=>∃g6:Nat,sl=[(3,.pointer (some ⟨g10,0,none⟩)),(5,.pointer (some ⟨g5,0,none⟩)),(7,.bool bb),(13,vA),(14,.int .i64 A.length),(15,.int .i64 i)]/\h7=h'/\ms'=[Bn g6 52 (cC y),mI]) ?_ (fun s h ms hI=>?_)
   ·refine BG (n:=13) (bs:=[true,true,true,true,true,true,true,true,true,true,false,false,false]) [true,true,true,true,true,true,true,true,true,true] CS (by kernel_rfl) (by kernel_rfl) rfl rfl (Qq rfl (Qq rfl (QF E4 rfl (QL rfl GJ (e100 _) (QF Bt rfl (QL rfl U3 (e50' _) (Qp rfl (E1 (V:=vC) (z:=(default:Ce)) x.c.id hy hbb Bs hM lM rfl GJ KR rfl rfl hid) (Qq rfl (Qq rfl (Qq rfl ?_))))))))));unfold Ft;simp only[cons_append,nil_append];refine Qo 10 rfl (Cz [.int .i64 0,.int .i64 0,.slice none 0 0] rfl AI rfl rfl (fun g6=>Qw (Qo 11 rfl ?_)));refine Sa 0 [_,_,_] AI rfl (by simp[o1,ovA,oxv,ovI,oyv]) ?_;refine Qw (Qo 12 rfl (Qm rfl (Qw (Qe ?_))));exact AD _ ⟨g6,rfl,rfl,rfl⟩ Qs
   ·obtain⟨g6,rfl,rfl,rfl⟩:=hI;refine RN (Fy LM lM fun h8 q8 b8=>?_);have lB8:(Bn g10 115 [.map (some gm),vI]).le h8:=b8 _ (AJ lB l7) (Fz lB dM);refine Fy LB lB8 fun h9 q9 b9=>?_;have l59:h5.le h9:=b9 _ (b8 _ (AJ l6 l7) (Fz l6 dM)) dB;have l39:h3.le h9:=AJ l4 (AJ l5 l59);have e50:∀ms,Cell h9 ms (⟨g5,0,none⟩:Addr) (.int .i64 x.c.id):=fun ms=>(e50 ms).le l59;have hS9:=hS5.le l59;refine As (Qm rfl (Qm rfl (Am ?_)));refine Bz rfl (fun hn=>?_) (fun hn=>?_)
    ·have hbf:bb=false:=by cases bb<;>simp at hn ⊢
     have hni:x.c.id ∉ U.map fun a=>a.c.id:=fun q=>by rw[hin.1 q]at hbf;cases hbf
     have hUU:PJ U x=U++[x]:=if_neg hni
     have hset:C4 (Fs U) x.c.id x=Fs (U++[x]):=by unfold C4;rw[if_neg (by rw[N9];exact hni)];unfold Fs;rw[map_append];rfl
     have hUl:U.length<=i:=by rw[<-hUe];exact Nat.le_trans (Wt _ []) (by simp;omega)
     rw[hUU];refine A9 (fun sl h' ms'=>∃(mM:Hp) (bs:List Nat),sl=[(3,.pointer (some ⟨g10,0,none⟩)),(5,.pointer (some ⟨g5,0,none⟩)),(13,vA),(14,.int .i64 A.length),(15,.int .i64 i)]/\h9=h'/\ms'=[Bn g10 115 [.map (some gm),vI],mM,mI]/\CO kN vC gm BH mM (Fs (U++[x])) bs) ?_ (fun s h ms hI=>?_)
     ·refine BG (n:=8) (bs:=[true,true,true,false,true,true,true,false]) [true,true,true,false,true,true,true] CS (by kernel_rfl) (by kernel_rfl) rfl rfl (Qq rfl (Qq rfl (QF E4 rfl (QF Bt rfl (QL rfl U3 (e50 _) (Qp rfl (oG rfl Ef AI (Seg.any hS9)) ?_))))));unfold Ft;simp only[cons_append,nil_append];refine Qo 3 rfl (Ql rfl GJ (Cell.blk 0 rfl rfl) (Qw (Qo 7 rfl (BU (V:=vC) (z:=undef) 1 x.c.id x Bs hM rfl rfl GJ rfl rfl rfl hid rfl rfl (fun mM' bs' hM'=>Qw (Qe ?_))))));rw[hset]at hM';exact AD _ ⟨mM',bs',rfl,rfl,rfl,hM'⟩ Qs
     ·obtain⟨mM,bs,rfl,rfl,rfl,hM⟩:=hI;refine BG (n:=12) (bs:=[true,true,true,true,false,true,true,false,false,true,true,false]) [true,true,true,true,false,true,true,false,false,true,true] CS (by kernel_rfl) (by kernel_rfl) rfl rfl (Qq rfl (Qq rfl (Qq rfl (QF NJ rfl (QF Bt rfl (QL rfl U3 (e50 _) (Qq rfl (QF NJ rfl ?_))))))));unfold Ft;simp only[cons_append,nil_append];refine A4 [4,7] (by kernel_rfl) rfl ?_;refine AA rfl ?_ ?_
      ·refine Ql rfl AU (Cell.blk 0 rfl rfl) (Qw (Qo 7 rfl (Ao [_] rfl AU A6 rfl (by rfl) rfl rfl (by omega) rfl rfl rfl (fun g45=>Qw (Qo 8 rfl (AO 3 hOI (RdL.one Bg (x:=x.c.id) Mh rfl) rfl AU A6 rfl (by omega) rfl rfl rfl Cb (by(try simp only[length_singleton,length_map]);omega) (by(try simp only[length_singleton,length_map]);omega) rfl rfl rfl (fun vI2 mI2 hOI2=>?_)))))));have ovI2:=hOI2.o1;refine Qw (Qo 11 rfl ?_);refine AS 1 _ rfl Cr rfl rfl (by assumption) rfl rfl (by(simp;done)) rfl rfl ?_;refine Qw (Qe ?_);rw[show(U.map fun a=>a.c.id)++[x.c.id]=(U++[x]).map fun a=>a.c.id by rw[map_append];rfl]at hOI2;refine AN (Ai ?_);exact AD _ ⟨vI2,mI2,mM,bs,rfl,AJ l5 l59,rfl,hM,hOI2⟩ Qs
      refine AA rfl ?_ ?_
      ·refine Ao [_] rfl AU A6 rfl (by rfl) rfl rfl (by omega) rfl rfl rfl (fun g45=>Qw (Qo 4 rfl (Ql rfl AU (Cell.blk 1 rfl rfl) (Qw (Qo 8 rfl (AO 3 hOI (RdL.one Bg (x:=x.c.id) Mh rfl) rfl AU A6 rfl (by omega) rfl rfl rfl Cb (by(try simp only[length_singleton,length_map]);omega) (by(try simp only[length_singleton,length_map]);omega) rfl rfl rfl (fun vI2 mI2 hOI2=>?_)))))));have ovI2:=hOI2.o1;refine Qw (Qo 11 rfl ?_);refine AS 1 _ rfl Cr rfl rfl (by assumption) rfl rfl (by(simp;done)) rfl rfl ?_;refine Qw (Qe ?_);rw[show(U.map fun a=>a.c.id)++[x.c.id]=(U++[x]).map fun a=>a.c.id by rw[map_append];rfl]at hOI2;refine AN (Ai ?_);exact AD _ ⟨vI2,mI2,mM,bs,rfl,AJ l5 l59,rfl,hM,hOI2⟩ Qs
      exact A5
    ·have hbt:bb=true:=by cases bb<;>simp at hn ⊢
     have hUU:PJ U x=U:=if_pos (hin.2 hbt);rw[hUU];refine Ah (Ai ?_);exact AD _ ⟨vI,mI,mM,bs,rfl,AJ l5 l59,rfl,hM,hOI⟩ Qs
  ·obtain⟨vI,mI,mM,bs,rfl,k9,rfl,hM,hOI⟩:=hI;refine Ad (Qx (oA rfl) rfl (Qm rfl (Ak ?_)));exact Al (A.length-(i+1)) _ (by omega) ⟨i+1,vI,mI,mM,bs,rfl,rfl,AJ l4 k9,rfl,by omega,by rw[hU];exact hM,by rw[hU];exact hOI⟩ Qs
 ·obtain rfl:i=A.length:=by omega
  rw[take_length]at hM hOI;refine Av (Aa (Aa (Af (Ab (As (Qm rfl (Qm rfl (Am (An (HU fun h5 l5 k5=>(HU fun h6 l6 k6=>(HU fun h7 l7 k7=>?_))))))))))))
  have hT:RdT h7 g10 (P9 A):=⟨gm,mM,bs,vI,Seg.ofLe (AJ k5 (AJ l6 l7)),hM,AJ k6 l7,hOI.rdh k7,fun a ha=>by
   rcases JQ _ _ a ha with h|h
   ·cases h
   ·exact(hsA a h).up (AJ l4 (AJ l5 (AJ l6 l7)))⟩
  exact Az rfl rfl (⟨AJ l1 (AJ l2 (AJ l3 (AJ l4 (AJ l5 (AJ l6 l7))))),rfl,g10,A,rfl,hC,hT⟩)
end Go.Proofs.Q
namespace Go.Proofs.Q
open Go.Eng Go.RowKit
variable {gM:Nat} {mM:Hp}
def Ly(v:Value):Value:=v
structure OwnMS(gM:Nat)(mM mB:Hp)(T:List (Int×List Int)):Prop where
 ex:∃(Tv:List (Int×Value)) (bs:List Nat),CO kN Ly gM BH mM Tv bs/\Tv.map Prod.fst=T.map Prod.fst/\Bag T.length (fun l m=>∃p,Tv[l]?=some p/\OwnL cI 1 3 m p.2 ((T.map Prod.snd).getD l [])) mB
theorem OwnMS.start(O:CO kN Ly gM BH mM ([]:List (Int×Value)) []):OwnMS gM mM Hp.emp []:=⟨[],[],O,rfl,Bag.zero _⟩
theorem GQ{ν:Type}{T:List (Int×ν)}{a:Int}(h:a∈T.map Prod.fst):∃(l:Nat) (x:ν),T[l]?=some (a,x):=by obtain⟨p,hp,rfl⟩:=List.mem_map.1 h;obtain⟨l,hl,e⟩:=getElem_of_mem hp;exact⟨l,p.2,by rw[List.getElem?_eq_getElem hl,e]⟩
theorem Mi{ν μ:Type}{T:List (Int×ν)}{T':List (Int×μ)}(h:T'.map Prod.fst=T.map Prod.fst){l:Nat}{a:Int}{x:ν}(e:T[l]?=some (a,x)):∃y,T'[l]?=some (a,y):=by
 have h1:(T'.map Prod.fst)[l]?=(T.map Prod.fst)[l]?:=by rw[h]
 rw[List.getElem?_map,List.getElem?_map,e]at h1;cases h2:T'[l]? with
 | none=>rw[h2]at h1;cases h1
 | some p=>
  rw[h2]at h1;have:p.1=a:=Option.some.inj h1;exact⟨p.2,by rw[<-this]⟩
theorem OwnMS.open{mB:Hp}{T:List (Int×List Int)}(M:OwnMS gM mM mB T)(a:Int):∃(Tv:List (Int×Value)) (bs:List Nat) (v:Value) (m1 m2:Hp),CO kN Ly gM BH mM Tv bs/\(Bi Tv a).getD (.slice none 0 0)=v/\mB=m1.join m2/\m1.disj m2/\OwnL cI 1 3 m1 v ((Bi T a).getD []) ∧
  ∀v' L' m1' mM' bs',m1'.disj m2->OwnL cI 1 3 m1' v' L'->CO kN Ly gM BH mM' (C4 Tv a v') bs'->OwnMS gM mM' (m1'.join m2) (C4 T a L'):=by
 obtain⟨Tv,bs,hO,hK,hB⟩:=M.ex;have hnd:(T.map Prod.fst).Nodup:=by rw[<-hK];exact hO.keys
 have hlen:Tv.length=T.length:=by have:=congrArg List.length hK;simpa using this
 by_cases ha:a∈T.map Prod.fst
 ·obtain⟨l,L,hl⟩:=GQ ha;obtain⟨v,hv⟩:=Mi hK hl;have hlT:l<T.length:=(List.getElem?_eq_some_iff.1 hl).1;obtain⟨m1,m2,e,hd,⟨p,hp,hO1⟩,hrest,hclose⟩:=hB.open hlT;have hpv:p=(a,v):=by rw[hv]at hp;exact(Option.some.inj hp).symm
  subst hpv;have hL:(T.map Prod.snd).getD l []=L:=by simp[List.getD,hl]
  rw[hL]at hO1;refine⟨Tv,bs,v,m1,m2,hO,by rw[D5 hO.keys hv];rfl,e,hd,by rw[D5 hnd hl];exact hO1,fun v' L' m1' mM' bs' hd' hO' hM'=>?_⟩;rw[If hO.keys hv]at hM';rw[If hnd hl];refine⟨_,bs',hM',by rw[List.map_set,List.map_set,hK],?_⟩;rw[length_set];have hlv:l<Tv.length:=by omega
  refine hclose _ m1' hd' ⟨(a,v'),by rw[List.getElem?_set_self hlv],?_⟩ fun k hk hne x hx=>?_
  ·have:((T.set l (a,L')).map Prod.snd).getD l []=L':=by simp[List.getD,hlT]
   rw[this];exact hO'
  ·obtain⟨p,hp,hx⟩:=hx;refine⟨p,by rw[List.getElem?_set_ne (Ne.symm hne)];exact hp,?_⟩
   have:((T.set l (a,L')).map Prod.snd).getD k []=(T.map Prod.snd).getD k []:=by rw[List.map_set];simp only[List.getD_eq_getElem?_getD];rw[List.getElem?_set_ne (Ne.symm hne)]
   rw[this];exact hx
 ·have haV:a ∉ Tv.map Prod.fst:=by rw[hK];exact ha
  refine⟨Tv,bs,.slice none 0 0,Hp.emp,mB,hO,by rw[CZ haV];rfl,(Hp.emp_join mB).symm,fun g=>.inl rfl,by rw[CZ ha];exact OwnL.nil Bg,fun v' L' m1' mM' bs' hd' hO' hM'=>?_⟩;have e1:C4 Tv a v'=Tv++[(a,v')]:=if_neg haV;have e2:C4 T a L'=T++[(a,L')]:=if_neg ha;rw[e1]at hM';rw[e2,Hp.join_comm hd'];refine⟨_,bs',hM',by rw[map_append,map_append,hK];rfl,?_⟩;rw[length_append];refine Bag.snoc (hB.mono fun l hl x hx=>?_) ⟨(a,v'),by rw[<-hlen];simp,?_⟩ (Hp.disj_symm hd')
  ·obtain⟨p,hp,hx⟩:=hx;refine⟨p,by rw[List.getElem?_append_left (by omega)];exact hp,?_⟩
   have:((T++[(a,L')]).map Prod.snd).getD l []=(T.map Prod.snd).getD l []:=by rw[map_append];simp only[List.getD_eq_getElem?_getD];rw[List.getElem?_append_left (by simpa using hl)]
   rw[this];exact hx
  ·have:((T++[(a,L')]).map Prod.snd).getD T.length []=L':=by simp[List.getD]
   rw[this];exact hO'
theorem OwnMS.look{mB h:Hp}{T:List (Int×List Int)}(M:OwnMS gM mM mB T)(hB:mB.le h):∃(Tv:List (Int×Value)) (bs:List Nat),CO kN Ly gM BH mM Tv bs/\Tv.map Prod.fst=T.map Prod.fst/\(∀l (h1:l<Tv.length) (h2:l<T.length),Tv[l].1=T[l].1/\RdL cI 1 h [] Tv[l].2 T[l].2)/\∀a,RdL cI 1 h [] ((Bi Tv a).getD (.slice none 0 0)) ((Bi T a).getD []):=by
 obtain⟨Tv,bs,hO,hK,hG⟩:=M.ex;have hnd:(T.map Prod.fst).Nodup:=by rw[<-hK];exact hO.keys
 have hat:∀l (h1:l<Tv.length) (h2:l<T.length),Tv[l].1=T[l].1/\RdL cI 1 h [] Tv[l].2 T[l].2:=fun l h1 h2=>by
  obtain⟨x,hx,p,hp,hO1⟩:=hG.all l h2;rw[List.getElem?_eq_getElem h1]at hp;have:=Option.some.inj hp;subst this;have h3:(Tv.map Prod.fst)[l]?=(T.map Prod.fst)[l]?:=by rw[hK]
  rw[List.getElem?_map,List.getElem?_map,List.getElem?_eq_getElem h1,List.getElem?_eq_getElem h2]at h3;refine⟨Option.some.inj h3,?_⟩;have h4:(T.map Prod.snd).getD l []=T[l].2:=by simp[List.getD,h2]
  rw[h4]at hO1;exact hO1.rdh (AJ hx hB)
 refine⟨Tv,bs,hO,hK,hat,fun a=>?_⟩;by_cases ha:a∈T.map Prod.fst
 ·obtain⟨l,L,hl⟩:=GQ ha;obtain⟨v,hv⟩:=Mi hK hl;rw[D5 hO.keys hv,D5 hnd hl];obtain⟨h1,e1⟩:=List.getElem?_eq_some_iff.1 hv;obtain⟨h2,e2⟩:=List.getElem?_eq_some_iff.1 hl;have:=(hat l h1 h2).2;rw[e1,e2]at this;exact this
 ·rw[CZ ha,CZ (by rw[hK];exact ha)];exact⟨Rd.nil _ _ _,Bg⟩
end Go.Proofs.Q
namespace Go.Proofs.Q
open Go.Proofs.Tryz
open Go.Eng Go.RowKit
def HG(U:List Cl)(x:Cl)(i:Nat):Prop:=(LW U (Bp x i).1).isSome=false\/(Gg U (Bp x i).1).dim≠x.dim-1\/(0<i/\(Bp x (i-1)).1=(Bp x i).1)
instance (U:List Cl) (x:Cl) (i:Nat):Decidable (HG U x i):=by unfold HG;infer_instance
def W5(x:Cl)(i:Nat):Int:=((x.sd.take i).map Prod.snd).sum
theorem T6{x:Cl}{i:Nat}(h:i<x.sd.length):W5 x (i+1)=W5 x i+x.sd[i].2:=by unfold W5;rw[List.take_succ_eq_append_getElem h,map_append,List.sum_append];simp
def DT(U:List Cl)(x:Cl):Int:=
 if x.dim<0\/8<x.dim then 21
 else if BV x then 22
 else if ¬∀i,i<x.sd.length->¬HG U x i then 22
 else if ¬∀i,i<x.sd.length->¬BN x i then 23
 else if x.dim=1/\W5 x x.sd.length≠0 then 23 else 0
theorem RZ(U:List Ce)(c:Int):(Bi (Fs U) c).map Ce.c=LW (U.map Ce.c) c:=by unfold Bi Fs LW;rw[List.find?_map,List.find?_map,Option.map_map,Option.map_map];rfl
theorem Iw(U:List Ce)(c:Int):((Bi (Fs U) c).getD default).c=Gg (U.map Ce.c) c:=by unfold Gg;rw[<-RZ];cases Bi (Fs U) c<;>rfl
theorem NV(U:List Ce)(c:Int):(Bi (Fs U) c).isSome=(LW (U.map Ce.c) c).isSome:=by rw[<-RZ];cases Bi (Fs U) c<;>rfl
theorem RQ{U:List Ce}{c:Int}{y:Ce}(h:Bi (Fs U) c=some y):y∈U:=by unfold Bi at h;obtain⟨p,hp,rfl⟩:=Option.map_eq_some_iff.1 h;obtain⟨a,ha,rfl⟩:=List.mem_map.1 (List.mem_of_find?_eq_some hp);exact ha
theorem QR{h:Hp}{U:List Ce}(hs:∀a∈U,RdL cD 2 h [] a.v a.c.sd)(c:Int):RdL cD 2 h [] ((Bi (Fs U) c).getD default).v ((Bi (Fs U) c).getD default).c.sd:=by
 cases hg:Bi (Fs U) c with
 | none=>exact⟨Rd.nil _ _ _,Ep⟩
 | some y=>exact hs y (RQ hg)
theorem Yf(U:List Ce)(x:Ce)(g:Nat)(hp:Hp)(hT:RdT hp g U)(hX:RdL cD 2 hp [] x.v x.c.sd)(hd:BH x.c.dim)(hn:x.c.sd.length<=1000000)(hi:∀s∈x.c.sd,BH s.1/\BH s.2):FnT Tryz.prog 76 #[.pointer (some ⟨g,0,none⟩),.agg (cC x).toArray] hp [] (fun r _ _=>r=.int .i64 (DT (U.map Ce.c) x.c)):=by
 have o2:=hX.rd.one;show FnT _ _ #[.pointer (some ⟨g,0,none⟩),.agg #[.int .i64 x.c.id,.int .i64 x.c.dim,x.v]] _ _ _;refine Ap func76 ntmps76 rfl rfl (fun w0 hw0=>?_);simp only[AX];refine As (AV [_,_,_] rfl rfl (by rfl) rfl rfl rfl (fun g3=>Qm rfl (Am (AC fun h1 l1 hS=>?_))));have hT:=hT.up l1;have hX:=hX.up l1;have hA:=Seg.all hS;have a0:∀ms,Cell h1 ms (⟨g3,0,none⟩:Addr) (.int .i64 x.c.id):=fun ms=>hA 0 _ rfl ms;have a1:∀ms,Cell h1 ms (⟨g3,1,none⟩:Addr) (.int .i64 x.c.dim):=fun ms=>hA 1 _ rfl ms;have a2:∀ms,Cell h1 ms (⟨g3,2,none⟩:Addr) x.v:=fun ms=>hA 2 _ rfl ms;have hd1:=hd.1;have hd2:=hd.2;refine As (Qf BB rfl (Ql rfl BZ (a2 _) (Qx (Ar hX.rd.any rfl BZ rfl) rfl (Qm rfl (Am ?_)))));refine A9 (fun sl h' ms'=>sl=[(0,.pointer (some ⟨g,0,none⟩)),(3,.pointer (some ⟨g3,0,none⟩))]/\h1=h'/\ms'=[]/\(0<=x.c.dim/\x.c.dim<=8)/\¬BV x.c) ?_ (fun s h ms hI=>?_)
 ·refine Ag (As (Qf BY rfl (Ql rfl U3 (a1 _) (Qm rfl (Qm rfl ?_)))));refine AQ (t:=20) rfl (fun q1=>?_) (fun q1=>?_)
  ·refine Qk rfl (Qk rfl (Qk rfl (Qm rfl (Qm rfl (Am (BE rfl (As (Qm rfl (Am (An (Aj (Ae ?_))))))))))));exact Az rfl rfl (by unfold DT;rw[if_pos (.inl q1)])
  ·refine Qg (oF BY rfl) rfl (Qg (oL rfl U3 (a1 _)) rfl (Qg (Cw rfl rfl rfl) rfl (Qm rfl (Qm rfl (Am ?_)))));refine Aq rfl (fun q2=>?_) (fun q2=>?_)
   ·refine Ac (Ad (Qm rfl (Am (An (Aj (Ae ?_))))));exact Az rfl rfl (by unfold DT;rw[if_pos (.inr q2)])
   ·have hdb:0<=x.c.dim/\x.c.dim<=8:=by omega
    have e21:¬(x.c.dim<0\/8<x.c.dim):=by omega
    have e22:BV x.c->DT (U.map Ce.c) x.c=22:=fun h=>by unfold DT;rw[if_neg e21,if_pos h]
    refine As (Qf BY rfl (Ql rfl U3 (a1 _) (Qm rfl (Qm rfl ?_))));refine AQ (t:=29) rfl (fun r0=>?_) (fun r0=>?_)
    ·refine Qg (Au rfl rfl) rfl (Qg (Cw rfl rfl rfl) rfl (Qm rfl (Qm rfl ?_)));refine AQ (t:=33) rfl (fun r1=>?_) (fun r1=>?_)
     ·refine Qk rfl (Qk rfl (Qk rfl (Qk rfl (A0 rfl rfl rfl rfl rfl rfl (A0 rfl rfl rfl rfl rfl rfl (Qk rfl (Qm rfl (Qm rfl (Qk rfl (Qk rfl (Qk rfl (Qk rfl (A0 rfl rfl rfl rfl rfl rfl (A0 rfl rfl rfl rfl rfl rfl (A0 rfl rfl rfl rfl rfl rfl (A0 rfl rfl rfl rfl rfl rfl (A0 rfl rfl rfl rfl rfl rfl (A0 rfl rfl rfl rfl rfl rfl (Qk rfl (Qm rfl (Qm rfl (Am (BE rfl (As (Qm rfl (Am (An (Aj (Ae ?_)))))))))))))))))))))))))))));exact Az rfl rfl (by rw[e22 (.inl ⟨r0,by omega⟩)])
     ·refine Qg (oF BY rfl) rfl (Qg (oL rfl U3 (a1 _)) rfl (Qg (CU rfl rfl rfl) rfl (Qg (Au rfl rfl) rfl (AQ (t:=37) rfl (fun hs=>absurd hs (by omega)) (fun hs=>Qk rfl (Qk rfl (Qg (BX rfl rfl rfl) rfl (Qm rfl (Qm rfl (Qg (oF BY rfl) rfl (Qg (oL rfl U3 (a1 _)) rfl (Qg (Cw rfl rfl rfl) rfl (Qg (Au rfl rfl) rfl (AQ (t:=46) rfl (fun hs=>absurd hs (by omega)) (fun hs=>Qk rfl (Qk rfl (Qk rfl (A0 rfl rfl rfl rfl rfl rfl (A0 rfl rfl rfl rfl rfl rfl (Qk rfl (Qg (BX rfl rfl rfl) rfl (Qm rfl (Qm rfl (Am (AP rfl (Ah (Ai ?_)))))))))))))))))))))))))));exact AD _ ⟨rfl,rfl,rfl,hdb,fun q=>by unfold BV at q;omega⟩ Qs
    ·refine Qk rfl (Qk rfl (Qm rfl (Qm rfl (Qg (oF BY rfl) rfl (Qg (oL rfl U3 (a1 _)) rfl (Qg (CU rfl rfl rfl) rfl (Qg (Au rfl rfl) rfl ?_)))))));refine AQ (t:=37) rfl (fun r2=>?_) (fun r2=>?_)
     ·refine Qg (Au rfl rfl) rfl (Qg (CY rfl rfl rfl) rfl (Qg (CG rfl rfl rfl) rfl (Qm rfl (Qm rfl ?_))));refine AQ (t:=42) rfl (fun r3=>?_) (fun r3=>?_)
      ·refine Qk rfl (Qk rfl (Qk rfl (Qk rfl (A0 rfl rfl rfl rfl rfl rfl (A0 rfl rfl rfl rfl rfl rfl (A0 rfl rfl rfl rfl rfl rfl (A0 rfl rfl rfl rfl rfl rfl (A0 rfl rfl rfl rfl rfl rfl (A0 rfl rfl rfl rfl rfl rfl (Qk rfl (Qm rfl (Qm rfl (Am (BE rfl (As (Qm rfl (Am (An (Aj (Ae ?_))))))))))))))))))));exact Az rfl rfl (by rw[e22 (.inr (.inl ⟨r2,by omega⟩))])
      ·refine Qg (oF BY rfl) rfl (Qg (oL rfl U3 (a1 _)) rfl (Qg (Cw rfl rfl rfl) rfl (Qg (Au rfl rfl) rfl (AQ (t:=46) rfl (fun hs=>absurd hs (by omega)) (fun hs=>Qk rfl (Qk rfl (Qk rfl (A0 rfl rfl rfl rfl rfl rfl (A0 rfl rfl rfl rfl rfl rfl (Qk rfl (Qg (BX rfl rfl rfl) rfl (Qm rfl (Qm rfl (Am (AP rfl (Ah (Ai ?_)))))))))))))))));exact AD _ ⟨rfl,rfl,rfl,hdb,fun q=>by unfold BV at q;omega⟩ Qs
     ·refine Qk rfl (Qk rfl (Qg (BX rfl rfl rfl) rfl (Qm rfl (Qm rfl (Qg (oF BY rfl) rfl (Qg (oL rfl U3 (a1 _)) rfl (Qg (Cw rfl rfl rfl) rfl (Qg (Au rfl rfl) rfl ?_))))))));refine AQ (t:=46) rfl (fun hs=>?_) (fun hs=>absurd (by omega) hs);refine Qg (Au rfl rfl) rfl (Qg (Dg rfl rfl rfl) rfl (Qg (Au rfl rfl) rfl ?_));refine AQ (t:=49) rfl (fun r4=>?_) (fun r4=>?_)
      ·refine Qk rfl (Qk rfl (Qg (CG rfl rfl rfl) rfl (Qg (CG rfl rfl rfl) rfl (Qm rfl (Qm rfl (Am (BE rfl (As (Qm rfl (Am (An (Aj (Ae ?_)))))))))))));exact Az rfl rfl (by rw[e22 (.inr (.inr ⟨by omega,by omega⟩))])
      ·refine Qg (Au rfl rfl) rfl (Qg (Cw rfl rfl rfl) rfl (Qg (BX rfl rfl rfl) rfl (Qg (CG rfl rfl rfl) rfl (Qm rfl (Qm rfl (Am ?_))))));refine Aq rfl (fun r5=>?_) (fun r5=>?_)
       ·refine Ac (Ad (Qm rfl (Am (An (Aj (Ae ?_))))));exact Az rfl rfl (by rw[e22 (.inr (.inr ⟨by omega,by omega⟩))])
       ·refine Ah (Ai ?_);exact AD _ ⟨rfl,rfl,rfl,hdb,fun q=>by unfold BV at q;omega⟩ Qs
 ·obtain⟨rfl,rfl,rfl,hdb,hnb⟩:=hI;have e21:¬(x.c.dim<0\/8<x.c.dim):=by omega
  have e22:∀i,i<x.c.sd.length->HG (U.map Ce.c) x.c i->DT (U.map Ce.c) x.c=22:=fun i h q=>by unfold DT;rw[if_neg e21,if_neg hnb,if_pos fun w=>w i h q]
  obtain⟨gm,mM,bs,vids,hSg,hM,lm,hV,hsU⟩:=hT;refine A9 (fun sl h' ms'=>sl=[(0,.pointer (some ⟨g,0,none⟩)),(3,.pointer (some ⟨g3,0,none⟩))]/\h1.le h'/\ms'=[]/\∀i,i<x.c.sd.length->¬HG (U.map Ce.c) x.c i) ?_ (fun s h ms hI=>?_)
  ·refine Ac (Ad (Qf BB rfl (Ql rfl BZ (a2 _) (Qx (Ar hX.rd.any rfl BZ rfl) rfl (Qm rfl (Am (Ag ?_)))))))
   refine Ay (fun q sl h' ms'=>∃(i:Nat),q=x.c.sd.length-i/\sl=[(0,.pointer (some ⟨g,0,none⟩)),(3,.pointer (some ⟨g3,0,none⟩)),(56,x.v),(57,.int .i64 x.c.sd.length),(58,.int .i64 i)]/\h1.le h'/\ms'=[]/\i<=x.c.sd.length/\∀j,j<i->¬HG (U.map Ce.c) x.c j)
    (x.c.sd.length-0) _ ⟨0,rfl,rfl,C9,rfl,by omega,fun j h=>by omega⟩ Qs ?_
   rintro q sl h2 ms' ⟨i,rfl,rfl,l2,rfl,hil,hno⟩;have hX:=hX.up l2;refine As (Qm rfl (Am (Ac ?_)));refine Aq rfl (fun hlt=>?_) (fun hlt=>?_)
   ·have hil:i<x.c.sd.length:=by omega
    obtain⟨s,hs⟩:∃s,x.c.sd[i]=s:=⟨_,rfl⟩
    have hsA:Bp x.c i=s:=by rw[Bj hil,hs]
    have hsI:=hi s (by rw[<-hs];exact getElem_mem hil);have hsx:∀ms,Seg h2 ms ((AF x.v).add (i*2)) (cD s):=fun ms=>by rw[<-hs];exact(hX.any (ms:=ms)).seg hil
    refine Ah (Ab (Ac (Ag (As (Qm rfl (Qx (BF (i) hX.rd.any rfl BZ AM rfl rfl) rfl (Qx (oG rfl DX AM (hsx _)) rfl (Cz [.int .i64 0,.int .i64 0] rfl AM rfl rfl (fun g7=>Qm rfl ?_)))))))));refine Sa 0 [_,_] AM rfl (by simp[Value.oneCell']) ?_;refine Am (AC fun h3 l3 hS7=>?_);have hX:=hX.up l3;have l13:=AJ l2 l3;have e7:=Seg.all hS7;have e70:∀ms,Cell h3 ms (⟨g7,0,none⟩:Addr) (.int .i64 s.1):=fun ms=>e7 0 _ rfl ms;have eT:∀ms,Cell h3 ms (⟨g,0,none⟩:Addr) (.map (some gm)):=fun ms=>(Seg.all hSg 0 _ rfl ms).le l13;obtain⟨bb,hbb⟩:∃bb,(Bi (Fs U) s.1).isSome=bb:=⟨_,rfl⟩
    obtain⟨y,hy⟩:∃y,(Bi (Fs U) s.1).getD default=y:=⟨_,rfl⟩
    have hyr:=QR hsU s.1;rw[hy]at hyr;have oyv:=hyr.rd.one;have hbb':(LW (U.map Ce.c) s.1).isSome=bb:=by rw[<-NV];exact hbb
    have hyc:Gg (U.map Ce.c) s.1=y.c:=by rw[<-Iw,hy]
    refine A9 (fun sl h' ms'=>∃g8:Nat,sl=[(0,.pointer (some ⟨g,0,none⟩)),(3,.pointer (some ⟨g3,0,none⟩)),(6,.int .i64 i),(7,.pointer (some ⟨g7,0,none⟩)),(8,.pointer (some ⟨g8,0,none⟩)),(9,.bool bb),(56,x.v),(57,.int .i64 x.c.sd.length),(58,.int .i64 i)]/\h3=h'/\ms'=[Bn g8 52 (cC y)]) ?_ (fun s h ms hI=>?_)
    ·refine BG (n:=13) (bs:=[true,true,true,true,true,true,true,true,true,true,false,false,false]) [true,true,true,true,true,true,true,true,true,true] CS (by kernel_rfl) (by kernel_rfl) rfl rfl (Qq rfl (Qq rfl (QF E4 rfl (QL rfl GJ (eT _) (QF B6 rfl (QL rfl U3 (e70 _) (Qp rfl (E1 (V:=vC) (z:=(default:Ce)) s.1 hy hbb Bs hM (AJ lm l13) rfl GJ KR rfl rfl hsI.1) (Qq rfl (Qq rfl (Qq rfl ?_))))))))));unfold Ft;simp only[cons_append,nil_append];refine Qo 10 rfl (Cz [.int .i64 0,.int .i64 0,.slice none 0 0] rfl AI rfl rfl (fun g8=>Qw (Qo 11 rfl ?_)));refine Sa 0 [_,_,_] AI rfl (by simp[o2,oyv]) ?_;refine Qw (Qo 12 rfl (Qm rfl (Qw (Qe ?_))));exact AD _ ⟨g8,rfl,rfl,rfl⟩ Qs
    ·obtain⟨g8,rfl,rfl,rfl⟩:=hI;refine AC fun h4 l4 hS8=>?_;have hX:=hX.up l4;have e70:∀ms,Cell h4 ms (⟨g7,0,none⟩:Addr) (.int .i64 s.1):=fun ms=>(e70 ms).le l4;have e81:∀ms,Cell h4 ms (⟨g8,1,none⟩:Addr) (.int .i64 y.c.dim):=fun ms=>Seg.all hS8 1 _ rfl ms;have l14:=AJ l13 l4;have b1:∀ms,Cell h4 ms (⟨g3,1,none⟩:Addr) (.int .i64 x.c.dim):=fun ms=>(a1 ms).le l14;have b2:∀ms,Cell h4 ms (⟨g3,2,none⟩:Addr) x.v:=fun ms=>(a2 ms).le l14
     have hbad:HG (U.map Ce.c) x.c i<->bb=false\/y.c.dim≠x.c.dim-1\/(0<i/\(Bp x.c (i-1)).1=s.1):=by unfold HG;rw[hsA,hbb',hyc]
     have hstep:¬HG (U.map Ce.c) x.c i->∀j,j<i+1->¬HG (U.map Ce.c) x.c j:=fun h j hj=>by
      rcases (by omega:j<i\/j=i) with h1|rfl
      ·exact hno j h1
      ·exact h
     refine Ac (Bc 23 CS (by kernel_rfl) rfl (Wm rfl (Wm rfl (Wm rfl ?_))));refine TO (t:=75) rfl (fun c1=>?_) (fun c1=>?_)
     ·have hbf:bb=false:=by cases bb<;>simp at c1 ⊢
      refine Aw rfl rfl rfl rfl rfl (Aw rfl rfl rfl rfl rfl (Aw rfl rfl rfl rfl rfl (Aw rfl rfl rfl rfl rfl (Aw rfl rfl rfl rfl rfl (Aw rfl rfl rfl rfl rfl (Wm rfl (Wm rfl (Aw rfl rfl rfl rfl rfl (Aw rfl rfl rfl rfl rfl (Aw rfl rfl rfl rfl rfl (AK rfl rfl rfl rfl (AK rfl rfl rfl rfl (AK rfl rfl rfl rfl (AK rfl rfl rfl rfl (AK rfl rfl rfl rfl (AK rfl rfl rfl rfl (AK rfl rfl rfl rfl (AK rfl rfl rfl rfl (AK rfl rfl rfl rfl (AY (A0 rfl rfl rfl rfl rfl rfl (Qk rfl (Qm rfl (Am (BE rfl (As (Qm rfl (Am (An (Aj (Ae (Ae (Aj (Ae ?_))))))))))))))))))))))))))))))))));exact Az rfl rfl (by rw[e22 i hil (hbad.2 (.inl hbf))])
     ·have hbt:bb=true:=by cases bb<;>simp at c1 ⊢
      refine AG (oF BY rfl) rfl rfl rfl rfl (AG (oL rfl U3 (e81 _)) rfl rfl rfl rfl (AG (oF BY rfl) rfl rfl rfl rfl (AG (oL rfl U3 (b1 _)) rfl rfl rfl rfl (AG (oS rfl) rfl rfl rfl rfl (AG (CY rfl rfl rfl) rfl rfl rfl rfl (Wm rfl (Wm rfl ?_)))))));refine Cs (t:=83) rfl (fun c2=>?_) (fun c2=>?_)
      ·refine Aw rfl rfl rfl rfl rfl (Aw rfl rfl rfl rfl rfl (Aw rfl rfl rfl rfl rfl (AK rfl rfl rfl rfl (AK rfl rfl rfl rfl (AK rfl rfl rfl rfl (AK rfl rfl rfl rfl (AK rfl rfl rfl rfl (AK rfl rfl rfl rfl (AK rfl rfl rfl rfl (AK rfl rfl rfl rfl (AK rfl rfl rfl rfl (AY (A0 rfl rfl rfl rfl rfl rfl (Qk rfl (Qm rfl (Am (BE rfl (As (Qm rfl (Am (An (Aj (Ae (Ae (Aj (Ae ?_))))))))))))))))))))))))));exact Az rfl rfl (by rw[e22 i hil (hbad.2 (.inr (.inl c2)))])
      ·refine AG (Au rfl rfl) rfl rfl rfl rfl (AG (Cw rfl rfl rfl) rfl rfl rfl rfl (AG (Au rfl rfl) rfl rfl rfl rfl ?_));refine Cs (t:=86) rfl (fun c3=>?_) (fun c3=>?_)
       ·have hi1:i-1<x.c.sd.length:=by omega
        obtain⟨s',hs'⟩:∃s',x.c.sd[i-1]=s':=⟨_,rfl⟩
        have hsA':Bp x.c (i-1)=s':=by rw[Bj hi1,hs']
        have r0:∀ms,Cell h4 ms ((AF x.v).add ((i-1)*2)) (.int .i64 s'.1):=fun ms=>by rw[<-hs'];exact(hX.any (ms:=ms)).cell0 hi1 rfl
        refine AG (oF BB rfl) rfl rfl rfl rfl (AG (oL rfl BZ (b2 _)) rfl rfl rfl rfl (AG (Au rfl rfl) rfl rfl rfl rfl (AG (oS rfl) rfl rfl rfl rfl (AG (BF (i-1) hX.rd.any rfl BZ AM rfl rfl) rfl rfl rfl rfl (AG (oF B6 rfl) rfl rfl rfl rfl (AG (oL rfl U3 (r0 _)) rfl rfl rfl rfl (AG (oF B6 rfl) rfl rfl rfl rfl (AG (oL rfl U3 (e70 _)) rfl rfl rfl rfl (AY (Qg (CU rfl rfl rfl) rfl (Qg (CG rfl rfl rfl) rfl (Qm rfl (Am ?_)))))))))))));refine Aq rfl (fun c4=>?_) (fun c4=>?_)
        ·refine Ac (Ad (Qm rfl (Am (An (Aj (Ae (Ae (Aj (Ae ?_)))))))));exact Az rfl rfl (by rw[e22 i hil (hbad.2 (.inr (.inr ⟨by omega,by rw[hsA'];exact c4⟩)))])
        ·have hok:¬HG (U.map Ce.c) x.c i:=fun q=>by
          rcases hbad.1 q with q|q|⟨_,q⟩
          ·rw[hbt]at q;cases q
          ·exact c2 q
          ·rw[hsA']at q;exact c4 q
         refine Ah (Ai (Ab (Ad (Qx (oA rfl) rfl (Qm rfl (Ak ?_))))));exact Al (x.c.sd.length-(i+1)) _ (by omega) ⟨i+1,rfl,rfl,l14,rfl,by omega,hstep hok⟩ Qs
       ·have hok:¬HG (U.map Ce.c) x.c i:=fun q=>by
         rcases hbad.1 q with q|q|⟨q,_⟩
         ·rw[hbt]at q;cases q
         ·exact c2 q
         ·omega
        refine Aw rfl rfl rfl rfl rfl (Aw rfl rfl rfl rfl rfl (Aw rfl rfl rfl rfl rfl (Aw rfl rfl rfl rfl rfl (Aw rfl rfl rfl rfl rfl (Aw rfl rfl rfl rfl rfl (Aw rfl rfl rfl rfl rfl (Aw rfl rfl rfl rfl rfl (Aw rfl rfl rfl rfl rfl (AY (Qk rfl (Qg (BX rfl rfl rfl) rfl (Qm rfl (Am (AP rfl (Ah (Ai (Ab (Ad (Qx (oA rfl) rfl (Qm rfl (Ak ?_)))))))))))))))))))));exact Al (x.c.sd.length-(i+1)) _ (by omega) ⟨i+1,rfl,rfl,l14,rfl,by omega,hstep hok⟩ Qs
   ·obtain rfl:i=x.c.sd.length:=by omega
    refine Av (Aa (Aa (Af ?_)));exact AD _ ⟨rfl,l2,rfl,hno⟩ Qs
  ·obtain⟨rfl,l2,rfl,hno⟩:=hI;have hX:=hX.up l2;have hall:¬¬∀i,i<x.c.sd.length->¬HG (U.map Ce.c) x.c i:=fun q=>q hno
   have e23:∀i,i<x.c.sd.length->BN x.c i->DT (U.map Ce.c) x.c=23:=fun i h q=>by unfold DT;rw[if_neg e21,if_neg hnb,if_neg hall,if_pos fun w=>w i h q]
   have b1:∀ms,Cell h ms (⟨g3,1,none⟩:Addr) (.int .i64 x.c.dim):=fun ms=>(a1 ms).le l2;have b2:∀ms,Cell h ms (⟨g3,2,none⟩:Addr) x.v:=fun ms=>(a2 ms).le l2;refine As (Qm rfl (Am (Ac (As (Qf BB rfl (Ql rfl BZ (b2 _) (Qx (Ar hX.rd.any rfl BZ rfl) rfl (Qm rfl (Am (Ag ?_))))))))))
   refine Ay (fun q sl h' ms'=>∃(i:Nat),q=x.c.sd.length-i/\sl=[(3,.pointer (some ⟨g3,0,none⟩)),(10,.int .i64 (W5 x.c i)),(101,x.v),(102,.int .i64 x.c.sd.length),(103,.int .i64 i)]/\h.le h'/\ms'=[]/\i<=x.c.sd.length/\(-(i:Int)<=W5 x.c i/\W5 x.c i<=i)/\∀j,j<i->¬BN x.c j)
    (x.c.sd.length-0) _ ⟨0,rfl,rfl,C9,rfl,by omega,by simp[W5],fun j h=>by omega⟩ Qs ?_
   rintro q sl h3 ms' ⟨i,rfl,rfl,l3,rfl,hil,hsb,hns⟩;have hX:=hX.up l3;have b1:∀ms,Cell h3 ms (⟨g3,1,none⟩:Addr) (.int .i64 x.c.dim):=fun ms=>(b1 ms).le l3;refine As (Qm rfl (Am (Ac ?_)));refine Aq rfl (fun hlt=>?_) (fun hlt=>?_)
   ·have hil:i<x.c.sd.length:=by omega
    obtain⟨s,hs⟩:∃s,x.c.sd[i]=s:=⟨_,rfl⟩
    have hsA:Bp x.c i=s:=by rw[Bj hil,hs]
    have hsI:=(hi s (by rw[<-hs];exact getElem_mem hil)).2;have hsx:∀ms,Seg h3 ms ((AF x.v).add (i*2)) (cD s):=fun ms=>by rw[<-hs];exact(hX.any (ms:=ms)).seg hil
    have hss:=T6 hil;rw[hs]at hss;have hbs:BN x.c i<->s.2≠1/\s.2≠-1:=by unfold BN;rw[hsA]
    have hstep:¬BN x.c i->∀j,j<i+1->¬BN x.c j:=fun h j hj=>by
     rcases (by omega:j<i\/j=i) with h1|rfl
     ·exact hns j h1
     ·exact h
    refine Ah (Ab (Ac (Ag (As (Qx (BF (i) hX.rd.any rfl BZ AM rfl rfl) rfl (Qx (oG rfl DX AM (hsx _)) rfl (Cz [.int .i64 0,.int .i64 0] rfl AM rfl rfl (fun g12=>?_))))))));refine Sa 0 [_,_] AM rfl (by simp[Value.oneCell']) ?_;refine Am (AC fun h4 l4 hS12=>?_);have e12:∀ms,Cell h4 ms (⟨g12,1,none⟩:Addr) (.int .i64 s.2):=fun ms=>Seg.all hS12 1 _ rfl ms;refine Ac (As (Qf Dn rfl (Ql rfl U3 (e12 _) (Qm rfl (Qm rfl ?_)))));refine AQ (t:=110) rfl (fun c1=>?_) (fun c1=>?_)
    ·refine Qg (oF Dn rfl) rfl (Qg (oL rfl U3 (e12 _)) rfl (Qg (CY rfl rfl rfl) rfl (Qm rfl (Am ?_))));refine Aq rfl (fun c2=>?_) (fun c2=>?_)
     ·refine Ac (Ad (Qm rfl (Am (An (Ae (Aj (Ae (Ae (Aj (Ae ?_))))))))));exact Az rfl rfl (by rw[e23 i hil (hbs.2 ⟨c1,c2⟩)])
     ·have hok:¬BN x.c i:=fun q=>c2 (hbs.1 q).2;have h2:s.2=-1:=by omega
      refine Ah (Ab (Ad (Qm rfl (Qf Dn rfl (Ql rfl U3 (e12 _) (Qx (oA rfl) rfl (Qm rfl (Ak (Ai (Ab (Ad (Qx (oA rfl) rfl (Qm rfl (Ak ?_))))))))))))));exact Al (x.c.sd.length-(i+1)) _ (by omega) ⟨i+1,rfl,by rw[hss],AJ l3 l4,rfl,by omega,by rw[hss];omega,hstep hok⟩ Qs
    ·have h2:s.2=1:=by omega
     have hok:¬BN x.c i:=fun q=>(hbs.1 q).1 h2;refine Qk rfl (Qk rfl (Qk rfl (Qm rfl (Am (AP rfl (Ah (Ab (Ad (Qm rfl (Qf Dn rfl (Ql rfl U3 (e12 _) (Qx (oA rfl) rfl (Qm rfl (Ak (Ai (Ab (Ad (Qx (oA rfl) rfl (Qm rfl (Ak ?_))))))))))))))))))));exact Al (x.c.sd.length-(i+1)) _ (by omega) ⟨i+1,rfl,by rw[hss],AJ l3 l4,rfl,by omega,by rw[hss];omega,hstep hok⟩ Qs
   ·obtain rfl:i=x.c.sd.length:=by omega
    have hs0:¬¬∀i,i<x.c.sd.length->¬BN x.c i:=fun q=>q hns;refine Av (Aa (Aa (Af (Ab (Ac (As (Qf BY rfl (Ql rfl U3 (b1 _) (Qm rfl (Qm rfl ?_))))))))));refine AQ (t:=123) rfl (fun c1=>?_) (fun c1=>?_)
    ·refine Qg (Au rfl rfl) rfl (Qg (CY rfl rfl rfl) rfl (Qm rfl (Am ?_)));refine Aq rfl (fun c2=>?_) (fun c2=>?_)
     ·refine Ac (Ad (Qm rfl (Am (An (Ae ?_)))));exact Az rfl rfl (by unfold DT;rw[if_neg e21,if_neg hnb,if_neg hall,if_neg hs0,if_pos ⟨c1,c2⟩])
     ·refine Ah (Ab (As (Qm rfl (Am (An ?_)))));exact Az rfl rfl (by unfold DT;rw[if_neg e21,if_neg hnb,if_neg hall,if_neg hs0,if_neg fun q=>c2 q.2])
    ·refine Qk rfl (Qk rfl (Qm rfl (Am (AP rfl (Ah (Ab (As (Qm rfl (Am (An ?_))))))))));exact Az rfl rfl (by unfold DT;rw[if_neg e21,if_neg hnb,if_neg hall,if_neg hs0,if_neg fun q=>c1 q.1])
end Go.Proofs.Q

namespace Go.Proofs.Q
open Go.Eng Go.RowKit
def Uz(U:List Cl)(x:Cl)(i:Nat):FV:=(Gg U (Bp x i).1).sd.map fun r=>((i:Int),r.1,(Bp x i).2*r.2)
def Ju(U:List Cl)(x:Cl)(m:Nat):FV:=(range m).flatMap (Uz U x)
theorem OB(U:List Cl)(x:Cl)(m:Nat):Ju U x (m+1)=Ju U x m++Uz U x m:=by unfold Ju;rw[range_succ,List.flatMap_append];simp
theorem Nx(U:List Cl)(x:Cl)(h:∀i,i<x.sd.length->(Gg U (Bp x i).1).sd.length<=64):∀m,m<=x.sd.length->(Ju U x m).length<=64*m
 | 0,_=>by simp[Ju]
 | m+1,hm=>by have:=Nx U x h m (by omega);have:=h m (by omega);rw[OB,length_append];unfold Uz;rw[length_map];omega
def CQ(E:FV):List (Int×Int):=E.foldl (fun T e=>C4 T e.2.1 ((Bi T e.2.1).getD 0+e.2.2)) []
def FG(E:FV):List (Int×List Int):=E.foldl (fun T e=>C4 T e.2.1 ((Bi T e.2.1).getD []++[e.1])) []
theorem Gz(E:FV)(e:Int×Int×Int):CQ (E++[e])=C4 (CQ E) e.2.1 ((Bi (CQ E) e.2.1).getD 0+e.2.2):=by unfold CQ;rw[foldl_append];rfl
theorem FU(E:FV)(e:Int×Int×Int):FG (E++[e])=C4 (FG E) e.2.1 ((Bi (FG E) e.2.1).getD []++[e.1]):=by unfold FG;rw[foldl_append];rfl
theorem C6{α:Type}{P:List α->Prop}(h0:P [])(h1:∀l a,P l->P (l++[a]))(l:List α):P l:=by
 have:∀r:List α,P r.reverse:=fun r=>by
  induction r with
  | nil=>exact h0
  | cons a r ih=>rw[List.reverse_cons];exact h1 _ _ ih
 have:=this l.reverse
 rwa [List.reverse_reverse]at this
theorem Je(c:Int):∀E:FV,(Bi (CQ E) c).getD 0=D1 E c:=C6 rfl fun E e ih=>by
 rw[Gz,Dd,Mr];by_cases h:c=e.2.1
 ·subst h;rw[if_pos rfl,if_pos rfl,<-ih];rfl
 ·rw[if_neg h,if_neg (fun q=>h q.symm),ih,Int.add_zero]
theorem Fg{ν:Type}(T:List (Int×ν))(a:Int)(x:ν)(c:Int):c∈(C4 T a x).map Prod.fst<->c=a\/c∈T.map Prod.fst:=by
 unfold C4;split
 ·rename_i h
  have e:(T.map fun p=>if p.1=a then(a,x) else p).map Prod.fst=T.map Prod.fst:=by
   rw[map_map];refine List.map_congr_left fun p _=>?_;show(if p.1=a then(a,x) else p).1=p.1;by_cases q:p.1=a
   ·rw[if_pos q];exact q.symm
   ·rw[if_neg q]
  rw[e];exact⟨.inr,fun q=>by rcases q with rfl|q;exact h;exact q⟩
 ·rw[map_append,mem_append];simp only[map_cons,List.map_nil,mem_singleton];exact⟨fun q=>q.symm,fun q=>q.symm⟩
theorem Ln(c:Int):∀E:FV,c∈(CQ E).map Prod.fst<->∃e∈E,e.2.1=c:=C6 ⟨fun h=>by simp[CQ]at h,fun⟨e,he,_⟩=>by cases he⟩ fun E e ih=>by
 rw[Gz,Fg,ih];constructor
 ·rintro(rfl|⟨e',he,h⟩)
  ·exact⟨e,mem_append_right _ Mh,rfl⟩
  ·exact⟨e',mem_append_left _ he,h⟩
 ·rintro⟨e',he,h⟩;rcases List.mem_append.1 he with he|he
  ·exact .inr ⟨e',he,h⟩
  ·rw[List.mem_singleton.1 he]at h;exact .inl h.symm
theorem SX(c:Int):∀E:FV,c∈(FG E).map Prod.fst<->∃e∈E,e.2.1=c:=C6 ⟨fun h=>by simp[FG]at h,fun⟨e,he,_⟩=>by cases he⟩ fun E e ih=>by
 rw[FU,Fg,ih];constructor
 ·rintro(rfl|⟨e',he,h⟩)
  ·exact⟨e,mem_append_right _ Mh,rfl⟩
  ·exact⟨e',mem_append_left _ he,h⟩
 ·rintro⟨e',he,h⟩;rcases List.mem_append.1 he with he|he
  ·exact .inr ⟨e',he,h⟩
  ·rw[List.mem_singleton.1 he]at h;exact .inl h.symm
theorem Pm(c:Int):∀E:FV,(Bi (FG E) c).getD []=(E.filter fun e=>decide (e.2.1=c)).map fun e=>e.1:=C6 rfl fun E e ih=>by
 rw[FU,Dd,List.filter_append,map_append,<-ih];by_cases h:c=e.2.1
 ·subst h;rw[if_pos rfl];simp
 ·rw[if_neg h];simp[Ne.symm h]
theorem H4(E:FV)(c:Int):Fi E c=((E.filter fun e=>decide (e.2.1=c)).length:Int):=by
 induction E with
 | nil=>rfl
 | cons e E ih=>
  unfold Fi at *;rw[map_cons,sum_cons,ih,List.filter_cons];by_cases h:e.2.1=c
  ·simp[h];omega
  ·simp[h]
theorem ZA(E:FV)(c:Int)(h:∀e∈E,e.2.2=1\/e.2.2=-1):-(E.length:Int)<=D1 E c/\D1 E c<=E.length:=by
 induction E with
 | nil=>exact⟨Int.le_refl _,Int.le_refl _⟩
 | cons e E ih=>
  have h1:=ih fun e he=>h e (mem_cons_of_mem _ he);have h2:=h e Mh;unfold D1 at *;rw[map_cons,sum_cons,length_cons];split<;>omega
theorem Sf(E:FV):((CQ E).map Prod.fst).Nodup:=by refine C6 (P:=fun E=>((CQ E).map Prod.fst).Nodup) (by simp[CQ]) (fun E e ih=>?_) E;rw[Gz];exact Hv ih _ _
theorem Z1(E:FV):((FG E).map Prod.fst).Nodup:=by refine C6 (P:=fun E=>((FG E).map Prod.fst).Nodup) (by simp[FG]) (fun E e ih=>?_) E;rw[FU];exact Hv ih _ _
def EU(T:List (Int×List Int))(a b:Int):List (Int×List Int):=C4 T a ((Bi T a).getD []++[b])
def EB(P:List (Int×Int)):List (Int×List Int):=P.foldl (fun T p=>EU (EU T p.1 p.2) p.2 p.1) []
theorem H6(P:List (Int×Int))(p:Int×Int):EB (P++[p])=EU (EU (EB P) p.1 p.2) p.2 p.1:=by unfold EB;rw[foldl_append];rfl
theorem Mt(T:List (Int×List Int))(a b c k:Int):k∈(Bi (EU T a b) c).getD []<->k∈(Bi T c).getD []\/(c=a/\k=b):=by
 unfold EU;rw[Dd];by_cases h:c=a
 ·subst h;simp
 ·simp[h]
theorem TM(c k:Int):∀P:List (Int×Int),k∈(Bi (EB P) c).getD []<->(c,k)∈P\/(k,c)∈P:=C6 ⟨fun h=>by simp[EB,Bi]at h,fun h=>by simp at h⟩ fun P p ih=>by
 rw[H6,Mt,Mt,ih,mem_append,mem_append,mem_singleton,mem_singleton];constructor
 ·rintro((h|⟨rfl,rfl⟩)|⟨rfl,rfl⟩)
  ·rcases h with h|h
   ·exact .inl (.inl h)
   ·exact .inr (.inl h)
  ·exact .inl (.inr rfl)
  ·exact .inr (.inr rfl)
 ·rintro((h|rfl)|(h|rfl))
  ·exact .inl (.inl (.inl h))
  ·exact .inl (.inr ⟨rfl,rfl⟩)
  ·exact .inl (.inl (.inr h))
  ·exact .inr ⟨rfl,rfl⟩
theorem I7(T:List (Int×List Int))(a b:Int)(B:Nat)(h:∀c,((Bi T c).getD []).length<=B):∀c,((Bi (EU T a b) c).getD []).length<=B+1:=fun c=>by
 unfold EU;rw[Dd];have h1:=h c;by_cases e:c=a
 ·subst e;simp;omega
 ·rw[if_neg e];omega
theorem LX:∀P:List (Int×Int),∀c,((Bi (EB P) c).getD []).length<=2*P.length:=C6 (fun c=>by simp[EB,Bi]) fun P p ih c=>by rw[H6,length_append,length_singleton];have:=I7 _ p.2 p.1 _ (I7 _ p.1 p.2 _ ih) c;omega
inductive Rch (J:Int->List Int):Int->Int->Prop
 | refl (a:Int):Rch J a a
 | step {a b k:Int}:Rch J a b->k∈J b->Rch J a k
theorem Rch.trans{J:Int->List Int}{a b c:Int}(h:Rch J a b)(h':Rch J b c):Rch J a c:=by
 induction h' with
 | refl=>exact h
 | step _ h1 ih=>exact .step ih h1
theorem X1{E:FV}(h2:∀e∈E,Fi E e.2.1=2){J:Int->List Int}(hJ:∀a k,k∈J a<->∃c p q,(E.filter fun e=>decide (e.2.1=c)).map (fun e=>e.1)=[p,q]/\((a=p/\k=q)\/(a=q/\k=p)))(a b:Int):Con E a b<->Rch J a b:=by
 have hin:∀{c p:Int} {l},(E.filter fun e=>decide (e.2.1=c)).map (fun e=>e.1)=l->p∈l->∃w,(p,c,w)∈E:=fun {c p l} e hp=>by rw[<-e]at hp;obtain⟨x,hx,rfl⟩:=List.mem_map.1 hp;obtain⟨h3,h4⟩:=List.mem_filter.1 hx;have h4:=of_decide_eq_true h4;exact⟨x.2.2,by rw[<-h4];exact h3⟩
 constructor
 ·intro h
  induction h with
  | refl=>exact .refl _
  | @step b d c w w' _ h3 h4 ih=>
   have hc:=h2 _ h3;rw[H4]at hc;obtain⟨L,hL⟩:∃L,(E.filter fun e=>decide (e.2.1=c)).map (fun e=>e.1)=L:=⟨_,rfl⟩
   have hl:L.length=2:=by rw[<-hL,length_map];have hc:((E.filter fun e=>decide (e.2.1=c)).length:Int)=2:=hc;omega
   match L,hl with
   | [p,q],_=>
    have m1:b∈[p,q]:=by rw[<-hL];exact List.mem_map.2 ⟨_,List.mem_filter.2 ⟨h3,decide_eq_true rfl⟩,rfl⟩
    have m2:d∈[p,q]:=by rw[<-hL];exact List.mem_map.2 ⟨_,List.mem_filter.2 ⟨h4,decide_eq_true rfl⟩,rfl⟩
    simp only[mem_cons,List.not_mem_nil,or_false]at m1 m2;by_cases e:b=d
    ·subst e;exact ih
    ·refine .step ih ((hJ b d).2 ⟨c,p,q,hL,?_⟩);rcases m1 with m1|m1<;>rcases m2 with m2|m2
     ·exact absurd (m1.trans m2.symm) e
     ·exact .inl ⟨m1,m2⟩
     ·exact .inr ⟨m1,m2⟩
     ·exact absurd (m1.trans m2.symm) e
 ·intro h
  induction h with
  | refl=>exact .refl _
  | @step b k _ h3 ih=>
   obtain⟨c,p,q,hL,h4⟩:=(hJ b k).1 h3;obtain⟨w1,m1⟩:=hin hL Mh;obtain⟨w2,m2⟩:=hin hL (mem_cons_of_mem _ Mh);rcases h4 with ⟨rfl,rfl⟩|⟨rfl,rfl⟩
   ·exact .step ih m1 m2
   ·exact .step ih m2 m1
noncomputable def Wb(E:FV)(n:Nat):Int:=
 open Classical in
 if ¬∀e∈E,D1 E e.2.1=0 then 24
 else if ¬∀e∈E,Fi E e.2.1=2 then 25
 else if ¬(0<n/\∀i:Nat,i<n->Con E 0 i) then 25 else 0
open Go.Proofs.Tryz
variable {T:List (Int×Bool)} {n:Nat}
def vB(b:Bool):Value:=.bool b
theorem UP(w:World):(zeroValue 4).run Tryz.prog w=.ok (vB false) w:=by rfl
theorem KN(w:World):(zeroValue 22).run Tryz.prog w=.ok (Ly (.slice none 0 0)) w:=by rfl
abbrev Hd(T:List (Int×Bool)):List Int:=T.map Prod.fst
def Om(T:List (Int×Bool)):Prop:=∀p∈T,p.2=true
theorem Ke(h:Om T)(a:Int):(Bi T a).getD false=decide (a∈Hd T):=by
 by_cases ha:a∈Hd T
 ·rw[decide_eq_true ha];cases hg:Bi T a with
  | none=>
   exfalso;unfold Bi at hg;rw[Option.map_eq_none_iff,List.find?_eq_none]at hg;obtain⟨p,hp,e⟩:=List.mem_map.1 ha;have:=hg p hp;simp[e]at this
  | some b=>
   unfold Bi at hg;obtain⟨p,hp,rfl⟩:=Option.map_eq_some_iff.1 hg;exact h p (List.mem_of_find?_eq_some hp)
 ·rw[decide_eq_false ha,CZ ha];rfl
theorem OG(h:Om T)(a:Int):Om (C4 T a true):=fun p hp=>by
 unfold C4 at hp;split at hp
 ·obtain⟨q,hq,rfl⟩:=List.mem_map.1 hp;split
  ·rfl
  ·exact h q hq
 ·rcases List.mem_append.1 hp with hp|hp
  ·exact h p hp
  ·rw[List.mem_singleton.1 hp]
def ZY(n:Nat)(T:List (Int×Bool)):Nat:=((range n).filter fun(j:Nat)=>decide ((j:Int) ∉ Hd T)).length
theorem UB{T':List (Int×Bool)}(h:∀x∈Hd T,x∈Hd T'):ZY n T'<=ZY n T:=by refine Go.Kuhn.nodup_le _ _ (List.Pairwise.filter _ List.nodup_range) fun x hx=>?_;obtain⟨h1,h2⟩:=List.mem_filter.1 hx;exact List.mem_filter.2 ⟨h1,decide_eq_true fun q=>of_decide_eq_true h2 (h _ q)⟩
theorem ZM{i:Nat}(hi:i<n)(hn:(i:Int) ∉ Hd T)(b:Bool):ZY n (C4 T (i:Int) b)+1<=ZY n T:=by
 have h1:(i::(range n).filter fun(j:Nat)=>decide ((j:Int) ∉ Hd (C4 T (i:Int) b))).Nodup:=by refine List.nodup_cons.2 ⟨fun q=>?_,List.Pairwise.filter _ List.nodup_range⟩;have:=of_decide_eq_true (List.mem_filter.1 q).2;exact this ((Fg T _ _ _).2 (.inl rfl))
 have h2:=Go.Kuhn.nodup_le _ ((range n).filter fun(j:Nat)=>decide ((j:Int) ∉ Hd T)) h1 fun x hx=>by
  rcases List.mem_cons.1 hx with rfl|hx
  ·exact List.mem_filter.2 ⟨List.mem_range.2 hi,decide_eq_true hn⟩
  ·obtain⟨h3,h4⟩:=List.mem_filter.1 hx;exact List.mem_filter.2 ⟨h3,decide_eq_true fun q=>of_decide_eq_true h4 ((Fg T _ _ _).2 (.inr q))⟩
 unfold ZY;rw[length_cons]at h2;exact h2
structure Aax(J:Int->List Int)(n:Nat)(T T':List (Int×Bool))(i:Int):Prop where
 sub:∀x∈Hd T,x∈Hd T'
 me:i∈Hd T'
 new:∀x∈Hd T',x ∉ Hd T->(Rch J i x/\∀k∈J x,k∈Hd T')/\0<=x/\x<n
structure AaC(h:Hp)(gS gJ g16 g13 g17:Nat)(mM mB:Hp)(TJ:List (Int×List Int))(J:Int->List Int)(n:Nat):Prop where
 s:∀ms,Cell h ms (⟨g16,0,none⟩:Addr) (.map (some gS))
 j:∀ms,Cell h ms (⟨g13,0,none⟩:Addr) (.map (some gJ))
 f:∀ms,Cell h ms (⟨g17,0,none⟩:Addr) (.func (.func 142) #[] #[.pointer (some ⟨g16,0,none⟩),.pointer (some ⟨g13,0,none⟩),.pointer (some ⟨g17,0,none⟩)])
 m:OwnMS gJ mM mB TJ
 lM:mM.le h
 lB:mB.le h
 e:∀a,J a=(Bi TJ a).getD []
 nb:∀a,∀k∈J a,0<=k/\k<n
 l:∀a,(J a).length<=1000000
 b:n<=1000000
theorem VK{h:Hp}{gS gJ g16 g13 g17:Nat}{mM mB:Hp}{TJ:List (Int×List Int)}{J:Int->List Int}(V:AaC h gS gJ g16 g13 g17 mM mB TJ J n):∀(F:Nat) (i:Nat) (T:List (Int×Bool)) (bs:List Nat) (mS:Hp),i<n->CO kN vB gS BH mS T bs->Om T->ZY n T<F->FnT Tryz.prog 142 #[.int .i64 i,.pointer (some ⟨g16,0,none⟩),.pointer (some ⟨g13,0,none⟩),.pointer (some ⟨g17,0,none⟩)] h [mS] (fun _ h' ms'=>h=h'/\∃mS' T' bs',ms'=[mS']/\CO kN vB gS BH mS' T' bs'/\Om T'/\Aax J n T T' i):=by
 intro F
 induction F with
 | zero=>
  intro i T bs mS hi hO hA hF;omega
 | succ F ih=>
  intro i T bs mS hi hO hA hF;have hb:=V.b;have hiI:BH (i:Int):=by unfold BH;omega
  have hs1:=V.s;have hj1:=V.j;have hf1:=V.f;refine Ap func142 ntmps142 rfl rfl (fun w0 hw0=>?_);simp only[AX];refine As (Ql rfl Yh (hs1 _) (Qm rfl (Qx (HC (V:=vB) (z:=false) (i:Int) Bs hO (by simp) rfl Yh UP rfl rfl hiI) rfl ?_)));rw[Ke hA];refine Qm rfl (Am ?_);refine Bz rfl (fun hn=>?_) (fun hn=>?_)
  ·have hni:(i:Int) ∉ Hd T:=fun q=>by rw[decide_eq_true q]at hn;cases hn
   obtain⟨Tv,bsv,hMv,hKv,_,hRv⟩:=V.m.look V.lB;obtain⟨vL,hvL⟩:∃vL,(Bi Tv (i:Int)).getD (.slice none 0 0)=vL:=⟨_,rfl⟩
   have hRL:=hRv (i:Int);rw[hvL,<-V.e]at hRL;have ovL:=hRL.rd.one;have hLl:=V.l (i:Int);have hLn:=V.nb (i:Int);obtain⟨L,hL⟩:∃L,J (i:Int)=L:=⟨_,rfl⟩
   rw[hL]at hRL hLl hLn;refine As (Ql rfl Yh (hs1 _) (Qm rfl (BU (V:=vB) (z:=undef) 0 (i:Int) true Bs hO rfl rfl Yh rfl rfl rfl hiI rfl rfl (fun mS1 FA hO1=>?_))));have hA1:=OG hA (i:Int);have hU1:=ZM hi hni true;obtain⟨T1,hT1⟩:∃T1,C4 T (i:Int) true=T1:=⟨_,rfl⟩
   have hk1:∀x,x∈Hd T1<->x=(i:Int)\/x∈Hd T:=fun x=>by rw[<-hT1];exact Fg T _ _ x
   rw[hT1]at hO1 hA1 hU1;refine BK (Ql rfl Gl (hj1 _) (Qm rfl (Qx (Kn (V:=Ly) (z:=(Value.slice none 0 0)) (i:Int) Bs hMv V.lM rfl Gl KN rfl rfl hiI) rfl ?_)));rw[hvL];refine Qx (Ar hRL.rd.any rfl AU rfl) rfl (Qm rfl (Am (Ag ?_)))
   refine Ay (fun q sl h' ms'=>∃(t:Nat) (Tt:List (Int×Bool)) (bt:List Nat) (mt:Hp),q=L.length-t/\sl=[(3,.pointer (some ⟨g17,0,none⟩)),(15,vL),(16,.int .i64 L.length),(17,.int .i64 t)]/\h=h'/\ms'=[mt]/\t<=L.length/\CO kN vB gS BH mt Tt bt/\Om Tt/\(∀x∈Hd T1,x∈Hd Tt)/\(∀x∈Hd Tt,x ∉ Hd T1->(Rch J i x/\∀k∈J x,k∈Hd Tt)/\0<=x/\x<n)/\∀j (hj:j<L.length),j<t->L[j]∈Hd Tt)
    (L.length-0) _ ⟨0,T1,FA,mS1,rfl,rfl,rfl,rfl,by omega,hO1,hA1,fun x hx=>hx,fun x h1 h2=>absurd h1 h2,fun j hj h=>by omega⟩ Qs ?_
   rintro q sl h' ms' ⟨t,Tt,bt,mt,rfl,rfl,rfl,rfl,htl,hOt,hAt,hsub,hnew,hdone⟩;refine As (Qm rfl (Am (Ac ?_)));refine Aq rfl (fun hlt=>?_) (fun hlt=>?_)
   ·have htl:t<L.length:=by omega
    obtain⟨k,hk⟩:∃k,L[t]=k:=⟨_,rfl⟩
    have hkm:k∈L:=by rw[<-hk];exact getElem_mem htl
    obtain⟨hk0,hkn⟩:=hLn k hkm;obtain⟨kn,rfl⟩:=Int.eq_ofNat_of_zero_le hk0;have ck:∀ms,Cell h ms ((AF vL).add (t*1)) (.int .i64 (kn:Int)):=fun ms=>by rw[<-hk];exact(hRL.any (ms:=ms)).cell0 htl rfl
    refine Ah (Ab (Ac (Ag (As (Qx (BF (t) hRL.rd.any rfl AU A6 rfl rfl) rfl (Ql rfl U3 (ck _) (Qm rfl (Gm (Ql rfl Aa7 (hf1 _) (Qm rfl ?_))))))))));refine Hg (pre:=[mt]) rfl rfl call142 rfl (ih kn Tt bt mt (by omega) hOt hAt (by have:=UB (n:=n) hsub;omega)) rfl rfl rfl rfl (fun v' h' pre' l' hF=>?_);obtain⟨rfl,m2,T2,b2,rfl,hO2,hA2,R2⟩:=hF;simp only[cons_append,nil_append,append_nil];have hrk:Rch J i (kn:Int):=.step (.refl _) (by rw[hL];exact hkm);refine Ak (Ai (Ab (Ad (Qx (oA rfl) rfl (Qm rfl (Ak ?_))))))
    exact Al (L.length-(t+1)) _ (by omega) ⟨t+1,T2,b2,m2,rfl,rfl,rfl,rfl,by omega,hO2,hA2,fun x hx=>R2.sub x (hsub x hx),fun x h1 h2=>by
     by_cases hx:x∈Hd Tt
     ·obtain⟨⟨q1,q2⟩,q3⟩:=hnew x hx h2;exact⟨⟨q1,fun k hk=>R2.sub k (q2 k hk)⟩,q3⟩
     ·obtain⟨⟨q1,q2⟩,q3⟩:=R2.new x h1 hx;exact⟨⟨hrk.trans q1,q2⟩,q3⟩,fun j hj hjt=>by
     rcases (by omega:j<t\/j=t) with h1|rfl
     ·exact R2.sub _ (hdone j hj h1)
     ·rw[hk];exact R2.me⟩ Qs
   ·obtain rfl:t=L.length:=by omega
    have hV:Aax J n T Tt i:=by
     have hall:∀k∈J (i:Int),k∈Hd Tt:=fun k hk=>by rw[hL]at hk;obtain⟨j,hj,rfl⟩:=getElem_of_mem hk;exact hdone j hj hj
     refine⟨fun x hx=>hsub x ((hk1 x).2 (.inr hx)),hsub _ ((hk1 _).2 (.inl rfl)),fun x h1 h2=>?_⟩;by_cases hx:x=(i:Int)
     ·subst hx;exact⟨⟨.refl _,hall⟩,by omega,by omega⟩
     ·exact hnew x h1 fun q=>by
       rcases (hk1 x).1 q with q|q
       ·exact hx q
       ·exact h2 q
    refine Av (Aa (Aa (Af ?_)));exact B7 rfl (⟨rfl,mt,Tt,bt,rfl,hOt,hAt,hV⟩)
  ·have him:(i:Int)∈Hd T:=Classical.byContradiction fun q=>by rw[decide_eq_false q]at hn;cases hn
   refine Ah ?_;exact B7 rfl (⟨rfl,mS,T,bs,rfl,hO,hA,fun x hx=>hx,him,fun x h1 h2=>absurd h1 h2⟩)
end Go.Proofs.Q
