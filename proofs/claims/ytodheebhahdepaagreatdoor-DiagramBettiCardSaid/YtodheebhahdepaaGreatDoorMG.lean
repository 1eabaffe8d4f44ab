/- A part of the proof. -/
import Derived.Test.YtodheebhahdepaaGreatDoorMF
set_option linter.unusedSimpArgs false
set_option linter.unusedVariables false
set_option linter.unusedSectionVars false
set_option maxRecDepth 100000
set_option maxHeartbeats 4000000

open List (length_map length_singleton getElem_mem replicate range length_append nil_append length_take mem_cons cons_append map_append pairwise_cons take_succ_eq_append_getElem append_nil map_map map_cons length_set take_length getElem_map length_range filter_append take_zero length_replicate sum_cons not_mem_nil)
namespace Go.Proofs.Q
open Go.Proofs.Tryz
open Go.Eng Go.RowKit Go.Lin
def Xh(pv:List Nat):List Int:=pv.map fun(k:Nat)=>(k:Int)
theorem NR(pv:List Nat):(Xh pv).length=pv.length:=by simp[Xh]
theorem Vm{h:Hp}{ms:List Hp}{m2:Hp}{vp:Value}{pv:List Nat}(O:OwnL cI 1 3 m2 vp (Xh pv))(hm:m2∈ms):Rd h ms vp 1 pv.length ((Xh pv).flatMap cI):=by
 have:=(O.rd (h:=h) hm).rd
 rwa [NR]at this
theorem AbK(p:Int):Ovk p (replicate 998 0):=⟨length_replicate,fun n hn=>.inl (List.getElem_replicate _)⟩
def MB(p:Int)(t i j:Nat)(v:Int)(F:Nat->Nat->Int)(k a b:Nat):Int:=if a<k then P6 p t i j v F a b else Eu p t i v F a b
theorem Zc(p:Int)(t i j:Nat)(v:Int)(F:Nat->Nat->Int)(k b:Nat):MB p t i j v F k t b=Eu p t i v F t b:=by
 unfold MB;split
 ·unfold P6;rw[if_pos rfl]
 ·rfl
theorem RQ(p:Int)(t i j:Nat)(v:Int)(F:Nat->Nat->Int)(k b:Nat):MB p t i j v F k k b=Eu p t i v F k b:=if_neg (by omega)
theorem W3(p:Int)(t i j:Nat)(v:Int)(F:Nat->Nat->Int)(k a b:Nat)(hk:k≠t):(if a=k then(Eu p t i v F k b+Eu p t i v F t b*(p-Eu p t i v F k j))%p else MB p t i j v F k a b)=MB p t i j v F (k+1) a b:=by
 unfold MB;by_cases h:a=k
 ·subst h;rw[if_pos rfl,if_pos (by omega)];unfold P6;rw[if_neg hk]
 ·rw[if_neg h];by_cases h2:a<k
  ·rw[if_pos h2,if_pos (by omega)]
  ·rw[if_neg h2,if_neg (by omega)]
theorem N2(p:Int)(t i j:Nat)(v:Int)(F:Nat->Nat->Int)(k a b:Nat)(h:k=t\/(Eu p t i v F k j=0/\0<=Eu p t i v F k b/\Eu p t i v F k b<p)):MB p t i j v F k a b=MB p t i j v F (k+1) a b:=by
 unfold MB;by_cases h1:a<k
 ·rw[if_pos h1,if_pos (by omega)]
 ·rw[if_neg h1];by_cases h2:a=k
  ·subst h2;rw[if_pos (by omega)];unfold P6;rcases h with rfl|⟨h3,h4,h5⟩
   ·rw[if_pos rfl]
   ·by_cases h6:a=t
    ·rw[if_pos h6,h6]
    ·rw[if_neg h6,h3,Int.sub_zero,Int.add_mul_emod_self_right,Int.emod_eq_of_lt h4 h5]
  ·rw[if_neg (by omega)]
theorem Uv(p:Int)(t i j:Nat)(v:Int)(F:Nat->Nat->Int)(a b:Nat):(if a=t then F (HD t i t) b*v%p else F (HD t i a) b)=MB p t i j v F 0 a b:=by unfold MB Eu;rw[if_neg (show ¬a<0 by omega)]
theorem Yu(p:Int)(t i j:Nat)(v:Int)(F:Nat->Nat->Int)(r a b:Nat)(ha:a<r):MB p t i j v F r a b=P6 p t i j v F a b:=if_pos ha
theorem Aao{p:Int}(hp:2<=p){r c t i:Nat}{v:Int}{F:Nat->Nat->Int}(ht:t<r)(hi:i<r)(hF:∀a,a<r->∀b,b<c->0<=F a b/\F a b<p)(a:Nat)(ha:a<r)(b:Nat)(hb:b<c):0<=Eu p t i v F a b/\Eu p t i v F a b<p:=by
 unfold Eu;split
 ·exact⟨Int.emod_nonneg _ (by omega),Int.emod_lt_of_pos _ (by omega)⟩
 ·exact hF _ (Hj ht hi ha) b hb
theorem WV(pv:List Nat)(j:Nat):Xh pv++[(j:Int)]=Xh (pv++[j]):=by simp[Xh]
theorem Yb{h:Hp}{ms:List Hp}{g:Nat}{p:Int}{r c:Nat}{ev:Value}{ov:List Value}(hm:ms[0]?=some (BR g p r c ev ov)):Seg h ms ((⟨g,0,none⟩:Addr).add 0) [.int .i64 p,.int .i64 r,.int .i64 c,ev]:=fun k u hu=>by
 rw[BZ,Nat.zero_add];refine Cell.blk 0 hm ?_;rcases k with _|_|_|_|k
 ·exact hu
 ·exact hu
 ·exact hu
 ·exact hu
 ·simp at hu
structure Ech(p:Int)(r c:Nat)(f F:Nat->Nat->Int)(pv:List Nat):Prop where
 red:Go.Lin.Red p r c f F pv c
theorem Rj(p:Int)(r c:Nat)(f:Nat->Nat->Int)(ev:Value)(h:Hp)(hp:IsP p)(hr:r<=400)(hc:c<=800)(hf:InP p r c f)(hR:RdL cI 1 h [] ev (DR r c f)) :
  FnT Tryz.prog 184 #[.agg #[.int .i64 p,.int .i64 r,.int .i64 c,ev]] h [] (fun x h' ms'=>h.le h'/\∃(F:Nat->Nat->Int) (pv:List Nat) (eu vp:Value) (m m2:Hp),x=.tuple #[.agg #[.int .i64 p,.int .i64 r,.int .i64 c,eu],vp]/\ms'=[m,m2]/\OwnL cI 1 3 m eu (DR r c F)/\OwnL cI 1 3 m2 vp (Xh pv)/\Ech p r c f F pv):=by
 have hb:2<=p/\p<=997:=⟨hp.1,hp.2.1⟩
 have e1:=hR.rd.one;have b2:r*c<=400*800:=Nat.mul_le_mul hr hc;have el:(DR r c f).length=r*c:=DS _ _ _;refine Ao func184 ntmps184 rfl rfl (fun w0 hw0=>?_);simp only[AU];refine As (AS [_,_,_,_] rfl rfl (by rfl) rfl rfl rfl (fun g1=>CC [.int .i64 0,.int .i64 0,.int .i64 0,.slice none 0 0] rfl EK rfl rfl (fun g2=>Qm rfl (An (VJ (As (Qf Ia rfl (Ql rfl AY (Cell.blk 1 rfl rfl) (Qc call222 rfl (UT (DR r c f) ev h hR (by omega)) (fun eu h1 ms1 l1 hF=>?_))))))))));obtain⟨rfl,m,rfl,hO⟩:=hF;have e2:=hO.o1;refine Qf Ia rfl ?_;refine AK 2 _ rfl Cw rfl rfl (by assumption) rfl rfl (by(simp;done)) rfl rfl ?_;refine An (BH 2 rfl fun h' hle hS=>?_);have hA:=Seg.all hS;have hA0:=hA 0 _ rfl;refine As (Qx (oG rfl UZ EK (Seg.any hS)) rfl (Qx (ZW rfl rfl e2) rfl (AS (cR p r c eu (replicate 998 (.int .i64 0))) rfl rfl rfl rfl rfl rfl (fun g17=>?_))));rw[UQ];refine Qm rfl (Bv (Qm rfl (An (Ac (VI (Ab (BB (II (ms':=[BR g17 p r c eu ((replicate 998 0).flatMap cI),m,Hp.emp,A7 g2 65 [.int .i64 0,.int .i64 0,.int .i64 0,.slice none 0 0]]) ((List.Perm.swap _ _ _).trans ((List.Perm.swap _ _ _).cons _)) (Ac (As (Qf KL rfl (Ql rfl U3 (hA _ _ rfl _) (Qm rfl (An (Ae ?_)))))))))))))))
 refine Az (fun q s hh ms'=>∃(j:Nat) (F:Nat->Nat->Int) (pv:List Nat) (vp:Value) (ov:List Int) (m m2:Hp),q=c-j/\s=[(1,.pointer (some ⟨g1,0,none⟩)),(2,.pointer (some ⟨g2,0,none⟩)),(4,.pointer (some ⟨g17,0,none⟩)),(5,vp),(19,.int .i64 c),(20,.int .i64 j)]/\h'=hh/\ms'=[BR g17 p r c eu (ov.flatMap cI),m,m2,A7 g2 65 [.int .i64 0,.int .i64 0,.int .i64 0,.slice none 0 0]]/\j<=c/\OwnL cI 1 3 m eu (DR r c F)/\OwnL cI 1 3 m2 vp (Xh pv)/\Go.Lin.Red p r c f F pv j/\Ovk p ov)
  (c-0) _ ⟨0,f,[],_,replicate 998 0,m,_,rfl,rfl,rfl,rfl,by omega,hO,OwnL.nil AV,Go.Lin.Red.start hf,AbK p⟩ Qs ?_
 rintro q s hh ms' ⟨j,F,pv,vp,ov,m,m2,rfl,rfl,rfl,rfl,hj,hO,hO2,hRed,hov⟩;have hP:=fun ms hm=>Vm (h:=h') (ms:=ms) hO2 hm;have ovp:=(hP [m2] Mh).one;have hlr:=hRed.len;refine As (Qm rfl (An (Ac ?_)));refine Au rfl (fun hlt=>?_) (fun hlt=>?_)
 ·have hjc:j<c:=by omega
  refine Ah (Ab (Ac (Ae (As (Qm rfl (Qm rfl (Bv (Qm rfl (Qx (Ar (hP _ (List.Mem.tail _ (List.Mem.tail _ Mh))) rfl AY rfl) rfl (Qm rfl (Bv (Qm rfl (Qm rfl (An (Ae ?_)))))))))))))))
  refine Az (fun q s hh ms'=>∃(i:Nat),q=r-i/\s=[(1,.pointer (some ⟨g1,0,none⟩)),(2,.pointer (some ⟨g2,0,none⟩)),(4,.pointer (some ⟨g17,0,none⟩)),(5,vp),(6,.int .i64 j),(7,.int .i64 pv.length),(8,.int .i64 i),(19,.int .i64 c),(20,.int .i64 j)]/\h'=hh/\ms'=[BR g17 p r c eu (ov.flatMap cI),m,m2,A7 g2 65 [.int .i64 0,.int .i64 0,.int .i64 0,.slice none 0 0]]/\pv.length<=i/\i<=r/\∀a,pv.length<=a->a<i->F a j=0)
   (r-pv.length) _ ⟨pv.length,rfl,rfl,rfl,rfl,by omega,by omega,fun a h1 h2=>by omega⟩ Qs ?_
  rintro q s hh ms' ⟨i,rfl,rfl,rfl,rfl,hli,hir,hno⟩;have hRow:=fun i hi=>(hO.rd (h:=h') (ms:=[m]) Mh).row (i:=i) hi;have hcell:∀i,i<r->∀ms,m∈ms->Cell h' ms ((AG (Cu 1 eu (i*c) ((i+1)*c))).add (j*1)) (.int .i64 (F i j)):=fun i hi ms hm=>((hO.rd (h:=h') hm).row hi).ev hjc;refine Ac (As (Qm rfl (Qf No rfl (Ql rfl U3 (hA _ _ rfl _) (Qm rfl (An ?_))))));refine Au rfl (fun hlt2=>?_) (fun hlt2=>?_)
  ·have hi:i<r:=by omega
   have ec:=CI c (F i);refine Ah (Ab (Ac (Ae (Ac (As (Qm rfl (Qm rfl (Qx (AF rfl call223 rfl (CB fun h' hl hm=>JR g17 p r c F eu _ _ h' (Seg.ofLe (hm _ Mh)) (hO.rdh (hm _ (List.Mem.tail _ Mh))) (by assumption) hr hc)) rfl (Qm rfl (Qx (BG (j) (hRow i hi).rd rfl AY Be rfl rfl (by omega) (by omega)) rfl (Ql rfl U3 (hcell i hi _ (List.Mem.tail _ Mh)) (Qm rfl (An ?_)))))))))))));refine Au rfl (fun hz=>?_) (fun hz=>?_)
   ·refine Av (Aa (Af (Ab (Ad (Qm rfl (Qx (oA rfl) rfl (Qm rfl (Aj ?_))))))));refine Ak (r-(i+1)) _ (by omega) ⟨i+1,rfl,rfl,rfl,rfl,by omega,by omega,fun a h1 h2=>?_⟩ Qs;rcases (by omega:a<i\/a=i) with h3|rfl
    ·exact hno a h1 h3
    ·exact hz
   ·have ht:pv.length<r:=by omega
    refine Ah (Ab (As (Qm rfl (Qm rfl (Qm rfl ?_)))));have hFi:=hRed.bd i hi j hjc;have hd0:=hRed.bd;have hsi:HD pv.length i pv.length=i:=by simp[HD]
    refine A8 (pre:=[BR g17 p r c eu (ov.flatMap cI),m]) rfl call224 rfl (Ya g17 p r c F eu _ m pv.length i h' hO ht hi hr hc) rfl rfl rfl rfl (fun x h2 ms2 l2 hF=>?_);obtain⟨rfl,m,rfl,hO⟩:=hF
    have hcell1:∀ms,m∈ms->Cell h' ms ((AG (Cu 1 eu (pv.length*c) ((pv.length+1)*c))).add (j*1)) (.int .i64 (F i j)):=fun ms hm=>by have:=((hO.rd (h:=h') hm).row ht).ev hjc;rw[hsi]at this;exact this
    have hRow1:=fun i hi=>(hO.rd (h:=h') (ms:=[m]) Mh).row (i:=i) hi;have ec1:=CI c (fun b=>F (HD pv.length i pv.length) b);refine An (Ac (BF (n:=16) (bs:=[true,true,false,true,true,true,false,true,false,false,false,true,true,false,false,false]) [true,true,false,true,true,true,false,true,false,false,false,true,true] CP (by kernel_rfl) (by kernel_rfl) rfl rfl (Qq rfl (Qq rfl (Qq rfl (Qq rfl (Qq rfl (Qq rfl (QF FU rfl (QL rfl U3 (hA0 _) ?_))))))))));unfold FN;simp only[cons_append,nil_append];refine Qo 2 rfl (Qx (AF rfl call223 rfl (CB fun h' hl hm=>JR g17 p r c (fun a b=>F (HD pv.length i a) b) eu _ _ h' (Seg.ofLe (hm _ Mh)) (hO.rdh (hm _ (List.Mem.tail _ Mh))) (by assumption) hr hc)) rfl (Qw (Qo 6 rfl (Qx (AF rfl call223 rfl (CB fun h' hl hm=>JR g17 p r c (fun a b=>F (HD pv.length i a) b) eu _ _ h' (Seg.ofLe (hm _ Mh)) (hO.rdh (hm _ (List.Mem.tail _ Mh))) (by assumption) hr hc)) rfl (Qw (Qo 8 rfl (Qx (BG (j) (hRow1 pv.length ht).rd rfl AY Be rfl rfl (by omega) (by omega)) rfl (Qw (Qo 9 rfl (Ql rfl U3 (hcell1 _ (List.Mem.tail _ Mh)) (Qw (Qo 10 rfl (A8 (pre:=[BR g17 p r c eu (ov.flatMap cI)]) rfl call226 rfl (Wg g17 p r c eu ov (F i j) h' hp hov (by omega) (by omega)) rfl rfl rfl rfl (fun x h2 ms2 l2 hv=>?_))))))))))))));obtain⟨rfl,v,ov,rfl,rfl,hov,hv0,hvp,hv1⟩:=hv;refine Qw (Qo 13 rfl ?_);refine Qx (A0 Y9 [.slice none 0 0,.int .i64 0,.int .i64 0] [(0,_),(1,_),(2,_)] [_,_,_] rfl Y7 rfl rfl (by repeat (first|exact trivial|refine⟨⟨rfl,rfl,rfl⟩,?_⟩|refine⟨⟨((hRow1 pv.length ht).rd).cells,rfl,rfl⟩,?_⟩)) rfl) rfl ?_;refine Qw (Qo 14 rfl (Qx (Bk rfl rfl rfl) rfl (Qw (Qo 15 rfl (Kb ?_)))));refine A8 (pre:=[m]) rfl call225 rfl (Oo r c (fun a b=>F (HD pv.length i a) b) pv.length (fun b=>F (HD pv.length i pv.length) b*v%p) eu m 227 [.agg #[.slice none 0 0,.int .i64 v,.int .i64 p]] h' hO ht hr hc call227 (fun k hk m' hO'=>Xo v p k _ h' hp (hd0 _ (by rw[hsi];exact hi) k hk) ⟨Int.le_of_lt hv0,hvp⟩ _)) rfl rfl rfl rfl (fun x h2 ms2 l2 hE=>?_);obtain⟨rfl,m,rfl,hO⟩:=hE;refine Kb (Qw (Qe (Ab (Ac (As (Qf No rfl (Ql rfl U3 (hA _ _ rfl _) (Qm rfl (An (Ae ?_))))))))));have hb2:=Aao (v:=v) hb.1 ht hi hd0
    refine Az (fun q s hh ms'=>∃(k:Nat) (m:Hp),q=r-k/\s=[(1,.pointer (some ⟨g1,0,none⟩)),(2,.pointer (some ⟨g2,0,none⟩)),(4,.pointer (some ⟨g17,0,none⟩)),(5,vp),(6,.int .i64 j),(7,.int .i64 pv.length),(19,.int .i64 c),(20,.int .i64 j),(60,.int .i64 r),(61,.int .i64 k)]/\h'=hh/\ms'=[BR g17 p r c eu (ov.flatMap cI),m,m2,A7 g2 65 [.int .i64 0,.int .i64 0,.int .i64 0,.slice none 0 0]]/\k<=r/\OwnL cI 1 3 m eu (DR r c (MB p pv.length i j v F k)))
     (r-0) _ ⟨0,m,rfl,rfl,rfl,rfl,by omega,by rw[Ca (fun a _ b _=>Uv p pv.length i j v F a b)]at hO;exact hO⟩ Qs ?_
    rintro q s hh ms' ⟨k,m,rfl,rfl,rfl,rfl,hkr,hO⟩;have hcell2:∀a,a<r->∀ms,m∈ms->Cell h' ms ((AG (Cu 1 eu (a*c) ((a+1)*c))).add (j*1)) (.int .i64 (MB p pv.length i j v F k a j)):=fun a ha ms hm=>((hO.rd (h:=h') hm).row ha).ev hjc;have hRow2:=fun i hi=>(hO.rd (h:=h') (ms:=[m]) Mh).row (i:=i) hi;refine As (Qm rfl (An (Ac ?_)));refine Au rfl (fun hltk=>?_) (fun hltk=>?_)
    ·have hk:k<r:=by omega
     have eck:=CI c (MB p pv.length i j v F k k);have hn:=hb2 k hk j hjc;have hkk:=RQ p pv.length i j v F k;refine Ah (Ab (Ac (Ae (As (Qm rfl (Qm rfl (Bv (Qm rfl (Qm rfl (Qx (AF rfl call223 rfl (CB fun h' hl hm=>JR g17 p r c (MB p pv.length i j v F k) eu _ _ h' (Seg.ofLe (hm _ Mh)) (hO.rdh (hm _ (List.Mem.tail _ Mh))) (by assumption) hr hc)) rfl (Qm rfl (Qx (BG (j) (hRow2 k hk).rd rfl AY Be rfl rfl (by omega) (by omega)) rfl (Ql rfl U3 ((hkk j ▸ hcell2 k hk _ (List.Mem.tail _ Mh))) (Qm rfl (Bv (Qm rfl (Qm rfl (Qm rfl (Qm rfl ?_)))))))))))))))))));refine AO (t:=73) rfl (fun hkt=>?_) (fun hkt=>?_)
     ·have hkt':k≠pv.length:=by omega
      refine Qg (Ay rfl rfl) rfl (Qg (Cc rfl rfl rfl) rfl (Qm rfl (An ?_)));refine Au rfl (fun hn0=>?_) (fun hn0=>?_)
      ·refine BF (n:=15) (bs:=[true,true,false,true,true,false,true,true,true,true,true,true,false,false,false]) [true,true,false,true,true,false,true,true,true,true,true,true] CP (by kernel_rfl) (by kernel_rfl) rfl rfl (Qq rfl (Qq rfl (Qq rfl (Qq rfl (QF FU rfl (QL rfl U3 (hA0 _) (Qq rfl (Qp rfl (oS rfl) (QF FU rfl (QL rfl U3 (hA0 _) ?_))))))))));unfold FN;simp only[cons_append,nil_append];refine Qo 2 rfl (Qx (AF rfl call223 rfl (CB fun h' hl hm=>JR g17 p r c (MB p pv.length i j v F k) eu _ _ h' (Seg.ofLe (hm _ Mh)) (hO.rdh (hm _ (List.Mem.tail _ Mh))) (by assumption) hr hc)) rfl (Qw (Qo 5 rfl (Qx (AF rfl call223 rfl (CB fun h' hl hm=>JR g17 p r c (MB p pv.length i j v F k) eu _ _ h' (Seg.ofLe (hm _ Mh)) (hO.rdh (hm _ (List.Mem.tail _ Mh))) (by assumption) hr hc)) rfl (Qw (Qo 12 rfl ?_))))));refine Qx (A0 Y9 [.slice none 0 0,.int .i64 0,.int .i64 0] [(0,_),(1,_),(2,_)] [_,_,_] rfl Y7 rfl rfl (by repeat (first|exact trivial|refine⟨⟨rfl,rfl,rfl⟩,?_⟩|refine⟨⟨((hRow2 pv.length ht).rd).cells,rfl,rfl⟩,?_⟩)) rfl) rfl ?_;refine Qw (Qo 13 rfl (Qx (Bk rfl rfl rfl) rfl (Qw (Qo 14 rfl (Kb ?_)))));refine A8 (pre:=[m]) rfl call225 rfl (Oo r c (MB p pv.length i j v F k) k (fun b=>(Eu p pv.length i v F k b+Eu p pv.length i v F pv.length b*(p-Eu p pv.length i v F k j))%p) eu m 228 [.agg #[Cu 1 eu (pv.length*c) ((pv.length+1)*c),.int .i64 (p-Eu p pv.length i v F k j),.int .i64 p]] h' hO hk hr hc call228 (fun b hbc m' hO'=>CB fun h'' hl hm=>by have:=ZX r c _ eu pv.length b (p-Eu p pv.length i v F k j) p (MB p pv.length i j v F k k b) h'' (hO'.rdh (hm _ Mh)) ht hbc hp (by rw[RQ];exact hb2 k hk b hbc) (by rw[turn_ne _ _ _ _ _ _ (Ne.symm hkt'),Zc];exact hb2 _ ht b hbc) (by omega);rw[turn_ne _ _ _ _ _ _ (Ne.symm hkt'),Zc,RQ]at this;rw[RQ];exact this)) rfl rfl rfl rfl (fun x h2 ms2 l2 hE=>?_);obtain⟨rfl,m,rfl,hO⟩:=hE;refine Kb (Qw (Qe (Ai (Ab (Ad (Qx (oA rfl) rfl (Qm rfl (Aj ?_))))))));refine Ak (r-(k+1)) _ (by omega) ⟨k+1,m,rfl,rfl,rfl,rfl,by omega,by rw[Ca (fun a _ b _=>W3 p pv.length i j v F k a b hkt')]at hO;exact hO⟩ Qs
      ·refine Ah (Ai (Ab (Ad (Qx (oA rfl) rfl (Qm rfl (Aj ?_))))));refine Ak (r-(k+1)) _ (by omega) ⟨k+1,m,rfl,rfl,rfl,rfl,by omega,?_⟩ Qs;rw[Ca (fun a _ b hbc=>N2 p pv.length i j v F k a b (.inr ⟨by omega,hb2 k hk b hbc⟩))]at hO;exact hO
     ·refine Qk rfl (Qk rfl (Qm rfl (An (AQ rfl (Ah (Ai (Ab (Ad (Qx (oA rfl) rfl (Qm rfl (Aj ?_)))))))))));refine Ak (r-(k+1)) _ (by omega) ⟨k+1,m,rfl,rfl,rfl,rfl,by omega,?_⟩ Qs;rw[Ca (fun a _ b hbc=>N2 p pv.length i j v F k a b (.inl (by omega)))]at hO;exact hO
    ·obtain rfl:k=r:=by omega
     refine Av (Aa (Aa (Af (Ab (As (Qm rfl (Qm rfl (Aq [_] rfl AY Be rfl (by rfl) rfl rfl (by omega) rfl rfl rfl (fun g95=>AM 3 hO2 (RdL.one AV Mh rfl) rfl AY Be rfl (by omega) rfl rfl rfl B5 (by simp only[NR,length_singleton];omega) (by simp only[NR,length_singleton];omega) rfl rfl rfl (fun vp' m2' hO2'=>?_))))))))));rw[WV]at hO2';refine Qm rfl (An (Av (Gz rfl (Aa (Aa (Gz rfl (Af (Ab (Ad (Qx (oA rfl) rfl (Qm rfl (Aj (AN ?_)))))))))))));refine Ak (c-(j+1)) _ (by omega) ⟨j+1,P6 p pv.length i j v F,pv++[j],vp',ov,m,m2',rfl,rfl,rfl,rfl,by omega,by rw[Ca (fun a ha b _=>Yu p pv.length i j v F k a b ha)]at hO;exact hO,hO2',hRed.step hb.1 hi hli hjc hv1,hov⟩ Qs
  ·refine Av (Aa (Aa (Af (Ai (Ab (Ad (Qx (oA rfl) rfl (Qm rfl (Aj ?_)))))))));refine Ak (c-(j+1)) _ (by omega) ⟨j+1,F,pv,vp,ov,m,m2,rfl,rfl,rfl,rfl,by omega,hO,hO2,hRed.skip fun a ha hl=>hno a hl (by omega),hov⟩ Qs
 ·obtain rfl:j=c:=by omega
  refine Av (Aa (Aa (Af (Ab (As (Qm rfl (Qm rfl (Qf FI rfl (Qx (oG rfl UZ EK (Yb rfl)) rfl (Qm rfl ?_))))))))));refine Sa 3 [_,_,_,_] EK rfl (by simp[e2]) ?_;refine Qm rfl (An (Am (Nt (AN ?_))));exact Lw (vs:=[_,_,_,_]) 2 rfl rfl rfl UZ rfl EK rfl rfl (⟨AJ l1 hle,F,pv,eu,vp,m,m2,rfl,rfl,hO,hO2,⟨hRed⟩⟩)
theorem QX(p:Int)(r c:Nat)(f:Nat->Nat->Int)(ev:Value)(h:Hp)(R:RtM p r c f)(hR:RdL cI 1 h [] ev (DR r c f)) :
  FnT Tryz.prog 124 #[.agg #[.int .i64 p,.int .i64 r,.int .i64 c,ev]] h [] (fun x h' ms'=>h.le h'/\∃(F:Nat->Nat->Int) (pv:List Nat) (eu vp:Value) (m m2:Hp),x=.tuple #[.agg #[.int .i64 p,.int .i64 r,.int .i64 c,eu],vp]/\ms'=[m,m2]/\OwnL cI 1 3 m eu (DR r c F)/\OwnL cI 1 3 m2 vp (Xh pv)/\Ech p r c f F pv):=by
 refine Ao func124 ntmps124 rfl rfl (fun w0 hw0=>?_);simp only[AU];refine As (AS [_,_,_,_] rfl rfl (by rfl) rfl rfl rfl (fun g1=>CC [.int .i64 0,.int .i64 0,.int .i64 0,.slice none 0 0] rfl EK rfl rfl (fun g2=>Qm rfl (An (Ac (As (Qx (oG rfl UZ EK (Seg.blk 1 rfl)) rfl (Qx (AF rfl call183 rfl (Y3 R hR _)) rfl (Qm rfl (An (AQ rfl (Ah (Ab (As (Qx (oG rfl UZ EK (Seg.blk 1 rfl)) rfl ?_)))))))))))))));refine Qc call184 rfl (Rj p r c f ev h R.pr R.rl (by have:=R.cl;omega) R.en hR) (fun x h1 ms1 l1 hF=>?_);obtain⟨l2,F,pv,eu,vp,m,m2,rfl,rfl,hO,hO2,hE⟩:=hF;have oe:=hO.o1;refine Qm rfl (Qm rfl ?_);refine Sa 2 [_,_,_,_] EK rfl (by simp[oe]) ?_;refine Qm rfl (An (Am (Bp 3 rfl ?_)));exact Lw (vs:=[_,_,_,_]) 2 rfl rfl rfl UZ rfl EK rfl rfl (⟨l1,F,pv,eu,vp,m,m2,rfl,rfl,hO,hO2,hE⟩)
theorem VX(p:Int)(r c:Nat)(f:Nat->Nat->Int)(ev:Value)(h:Hp)(R:RtM p r c f)(hR:RdL cI 1 h [] ev (DR r c f)) :
  FnT Tryz.prog 59 #[.agg #[.int .i64 p,.int .i64 r,.int .i64 c,ev]] h [] (fun x h' ms'=>h.le h'/\ms'=[]/\∃(F:Nat->Nat->Int) (pv:List Nat),x=.int .i64 pv.length/\Ech p r c f F pv):=by
 refine Ao func59 ntmps59 rfl rfl (fun w0 hw0=>?_);simp only[AU];refine As (AS [_,_,_,_] rfl rfl (by rfl) rfl rfl rfl (fun g1=>Qm rfl (Bv (Qx (oG rfl UZ EK (Seg.blk 0 rfl)) rfl (Qc call124 rfl (QX p r c f ev h R hR) (fun x h1 ms1 l1 hF=>?_))))));obtain⟨l2,F,pv,eu,vp,m,m2,rfl,rfl,hO,hO2,hE⟩:=hF;have oe:=hO.o1;refine Qm rfl (Qm rfl (Qm rfl (CC [.int .i64 0,.int .i64 0,.int .i64 0,.slice none 0 0] rfl EK rfl rfl (fun g3=>?_))));refine Sa 0 [_,_,_,_] EK rfl (by simp[oe]) ?_;refine Qm rfl (Bv (Qm rfl (Qx (FC (Vm (h:=h) (ms:=[m2]) hO2 Mh) rfl AY rfl) rfl (Qm rfl (An (Am (Bp 3 rfl (Bp 2 rfl (Bp 1 rfl (Bp 0 rfl ?_))))))))));exact Ap rfl rfl (⟨l1,rfl,F,pv,rfl,hE⟩)
def Ga(l:List Nat):List Nat:=(l.reverse.dropWhile (·==0)).reverse
theorem Ku(l:List Nat):Ga (l++[0])=Ga l:=by simp[Ga]
theorem Fq{a:Nat}(l:List Nat)(h:a≠0):Ga (l++[a])=l++[a]:=by simp[Ga,h]
theorem FG(l:List Nat)(v:Value)(h:Hp)(R:RdL Cn 1 h [] v l)(hl:l.length<=1000000) :
  FnT Tryz.prog 229 #[v] h [] (fun r h' ms'=>h.le h'/\ms'=[]/\RdL Cn 1 h' [] r (Ga l)):=by
 refine Ao func229 ntmps229 rfl rfl (fun w0 hw0=>?_);simp only[AU];refine As (Qm rfl (An (Ac (Ae ?_))))
 refine Az (fun q sl h' ms'=>∃(k:Nat) (u:Value),k=q/\sl=[(0,u),(2,.slice none 0 0)]/\h=h'/\ms'=[]/\k<=l.length/\RdL Cn 1 h [] u (l.take k)/\Ga (l.take k)=Ga l)
  l.length _ ⟨l.length,v,rfl,rfl,rfl,rfl,Nat.le_refl _,by rw[take_length];exact R,by rw[take_length]⟩ Qs ?_
 rintro q sl h' ms' ⟨k,u,rfl,rfl,rfl,rfl,hk,hR,hs⟩;have hkl:(l.take k).length=k:=by rw[length_take];omega
 refine Ac (As (Qm rfl (Qx (Ar hR.rd.any rfl BY rfl) rfl (Qm rfl (Qm rfl ?_)))));refine AO (t:=6) rfl (fun h1=>?_) (fun h1=>?_)
 ·have hk0:0<k:=by have:=Cx h1;omega
  obtain⟨a,ha⟩:∃a,l[k-1]'(by omega)=a:=⟨_,rfl⟩
  have hkt:l.take k=l.take (k-1)++[a]:=by have:=take_succ_eq_append_getElem (l:=l) (i:=k-1) (by omega);rw[ha,show k-1+1=k by omega]at this;exact this
  have hc:Cell h [] ((AG u).add ((k-1)*1)) (.int .u64 (a:Int)):=by
   have hk1:k-1<(l.take k).length:=by omega
   have e:(l.take k)[k-1]=a:=by rw[List.getElem_take];exact ha
   exact hR.cell0 hk1 (by rw[e];rfl)
  refine Qg (Ay rfl rfl) rfl (Qg (Ay rfl rfl) rfl (Qg (Ar hR.rd.any rfl BY rfl) rfl (Qg (oS rfl) rfl (Qg (BS (k-1) hR.rd.any rfl BY Cm rfl rfl) rfl (Qg (oL rfl FS (hc)) rfl (Qg (DH rfl rfl rfl) rfl (Qm rfl (An ?_))))))));refine Au rfl (fun h2=>?_) (fun h2=>?_)
  ·have ha0:a=0:=by omega
   refine Ah (Ab (Ae (Ad (Qm rfl (Qm rfl (Qx (Ar hR.rd.any rfl BY rfl) rfl (Qx (oS rfl) rfl (Qx (Ho (k-1) hR.rd.any rfl BY Cm rfl rfl (by omega) (by omega)) rfl (Qm rfl (Aj (Ai ?_)))))))))))
   exact Ak (k-1) _ (by omega) ⟨k-1,Cu 1 u 0 (k-1),rfl,rfl,rfl,rfl,by omega,by
    have:=RdL.sub_ hR (i:=0) (j:=k-1) (by omega) (by rw[hkl];omega)
    simpa[List.take_take,Nat.min_eq_left (show k-1<=k by omega)] using this,by rw[<-hs,hkt,ha0,Ku]⟩ Qs
  ·have ha0:a≠0:=by omega
   refine Av (Aa (Aa (Af (Ab (As (Qm rfl (Qm rfl (An (Am ?_)))))))));exact Ap rfl rfl (⟨CY,rfl,by rw[<-hs,hkt,Fq _ ha0,<-hkt];exact hR⟩)
 ·have hk0:k=0:=by omega
  subst hk0;refine Qk rfl (Qk rfl (Qk rfl (Qk rfl (Qk rfl (Qk rfl (Qk rfl (Qm rfl (An (AQ rfl (Av (Aa (Aa (Af (Ab (As (Qm rfl (Qm rfl (An (Am ?_)))))))))))))))))));exact Ap rfl rfl (⟨CY,rfl,by rw[<-hs];exact hR⟩)
theorem Abk(b:UInt8):b.toNat<256:=b.toNat_lt
theorem Xp(neg:Bool)(h:Hp):FnT Tryz.prog 187 #[.agg #[.bool neg,sv []]] h [] (fun r h' ms'=>h.le h'/\ms'=[]/\RdL Cn 1 h' [] r []):=by
 refine Ao func187 ntmps187 rfl rfl (fun w0 hw0=>?_);simp only[AU];refine As (AS [_,_] rfl rfl (by rfl) rfl rfl rfl (fun g1=>Qm rfl (An (Aw fun h1 l1 hS=>?_))));have e1:∀ms,Cell h1 ms ((⟨g1,0,none⟩:Addr).add 1) (sv []):=fun ms=>(hS 1 _ rfl).any;refine As (Qf HJ rfl (Ql rfl U9 (e1 _) (Qx (Fw 0 rfl rfl U9 rfl) rfl (Qx (oA rfl) rfl (Qx (oS rfl) rfl (Qx (FE rfl rfl rfl (by omega) (by omega)) rfl (CM (n:=0) rfl BY Cm rfl rfl rfl (by rfl) (by rfl) (by omega) (by omega) rfl rfl rfl (fun g12=>Qm rfl (An (Ac (As (Qf HJ rfl (Ql rfl U9 (e1 _) (Qx (Fw 0 rfl rfl U9 rfl) rfl (Qm rfl (An (Ae (Az (fun q sl h' ms'=>q=0/\sl=[(1,.pointer (some ⟨g1,0,none⟩)),(3,.slice (some ⟨g12,0,none⟩) 0 0),(15,.int .i64 ((0:Nat):Int)),(16,.int .i64 0)]/\h1=h'/\ms'=[A7 g12 222 []]) 0 _ ⟨rfl,rfl,rfl,rfl⟩ Qs ?_))))))))))))))))));rintro q sl h' ms' ⟨rfl,rfl,rfl,rfl⟩;refine As (Qm rfl (An (Ac ?_)));refine Au rfl (fun hlt=>?_) (fun hlt=>?_)
 ·exact absurd hlt (by omega)
 ·refine Av (Aa (Aa (Af (Ab ?_))));have hO:OwnL Cn 1 222 (A7 g12 222 []) (.slice (some ⟨g12,0,none⟩) 0 0) []:=OwnL.blk (l:=([]:List Nat)) 0 DI rfl (by omega);refine BN hO fun h2 l2 hR=>(As (Qm rfl (A8 (pre:=[]) rfl call229 rfl (FG [] _ h2 hR (by simp)) rfl rfl rfl rfl (fun r h3 ms3 l3 hF=>?_))))
  obtain⟨l3',rfl,hR3⟩:=hF;refine Qm rfl (An (Am ?_));exact Ap rfl rfl (⟨AJ l1 (AJ l2 l3'),rfl,hR3⟩)
theorem XM(neg:Bool)(b:UInt8)(hb:b.toNat≠0)(h:Hp):FnT Tryz.prog 187 #[.agg #[.bool neg,sv [b]]] h [] (fun r h' ms'=>h.le h'/\ms'=[]/\RdL Cn 1 h' [] r [b.toNat]):=by
 have hb8:=Abk b;refine Ao func187 ntmps187 rfl rfl (fun w0 hw0=>?_);simp only[AU];refine As (AS [_,_] rfl rfl (by rfl) rfl rfl rfl (fun g1=>Qm rfl (An (Aw fun h1 l1 hS=>?_))));have e1:∀ms,Cell h1 ms ((⟨g1,0,none⟩:Addr).add 1) (sv [b]):=fun ms=>(hS 1 _ rfl).any;refine As (Qf HJ rfl (Ql rfl U9 (e1 _) (Qx (Fw 1 rfl rfl U9 rfl) rfl (Qx (oA rfl) rfl (Qx (oS rfl) rfl (Qx (FE rfl rfl rfl (by omega) (by omega)) rfl (CM (n:=1) rfl BY Cm rfl rfl rfl (by rfl) (by rfl) (by omega) (by omega) rfl rfl rfl (fun g12=>Qm rfl (An (Ac (As (Qf HJ rfl (Ql rfl U9 (e1 _) (Qx (Fw 1 rfl rfl U9 rfl) rfl (Qm rfl (An (Ae ?_)))))))))))))))));refine Az (fun q sl h' ms'=>∃(i:Nat) (m:Hp),1-i=q/\sl=[(1,.pointer (some ⟨g1,0,none⟩)),(3,.slice (some ⟨g12,0,none⟩) 1 1),(15,.int .i64 ((1:Nat):Int)),(16,.int .i64 i)]/\h1=h'/\ms'=[m]/\i<=1/\OwnL Cn 1 222 m (.slice (some ⟨g12,0,none⟩) 1 1) [if i=0 then 0 else b.toNat]) 1 _ ⟨0,_,rfl,rfl,rfl,rfl,by omega,OwnL.blk (l:=[0]) 1 DI rfl (by omega)⟩ Qs ?_;rintro q sl h' ms' ⟨i,m,rfl,rfl,rfl,rfl,hi,hO⟩;refine As (Qm rfl (An (Ac ?_)));refine Au rfl (fun hlt=>?_) (fun hlt=>?_)
 ·have hi0:i=0:=by omega
  subst hi0;rw[if_pos rfl]at hO;refine Ah (Ab (Ac (Ae (As (Qm rfl (Qm rfl (Bv (Qf HJ rfl (Ql rfl U9 (e1 _) (Qx (Fw 1 rfl rfl U9 rfl) rfl (Qx (oS rfl) rfl (Qm rfl (Qx (oS rfl) rfl (Qm rfl (An ?_)))))))))))))));have hc:Cell h1 [m] ((AG (.slice (some ⟨g12,0,none⟩) 1 1)).add (0*1)) (.int .u64 ((0:Nat):Int)):=(hO.rd (h:=h1) (ms:=[m]) (.head _)).cell0 (j:=0) (by simp) rfl;refine Bc 14 CP (by kernel_rfl) rfl (Wm rfl (Wm rfl (AP (FE rfl rfl rfl (by omega) (by omega)) rfl rfl (AP (Cs (0) rfl BY Cm rfl rfl (by omega) (by omega)) rfl rfl (Wl rfl FS (hc) (Wf HJ rfl (Wl rfl U9 (e1 _) (Wm rfl (AP (Tb (l:=[b]) 0 rfl U9 rfl rfl rfl (by simp)) rfl rfl (AP (Hz (a:=((b.toNat:Nat):Int)) rfl U5 FS rfl (Ds (by omega))) rfl rfl (Wm rfl (AP (BV rfl rfl rfl (by omega) (by omega)) rfl rfl (AP (oM rfl) rfl rfl (AP (Rn (a:=b.toNat) (n:=0) rfl rfl rfl (by omega)) rfl rfl (AZ (Qx (UB (a:=0) (b:=b.toNat*2^0%18446744073709551616) rfl rfl rfl (by omega) (by omega)) rfl (Qx (Cs (0) rfl BY Cm rfl rfl (by omega) (by omega)) rfl (CH (f:=fun n:Nat=>Value.int .u64 (n:Int)) 0 0 (fun _=>rfl) hO rfl Cm rfl rfl rfl rfl (by simp) rfl rfl (fun m' hO'=>?_)))))))))))))))))))
  have e:(0 ||| b.toNat*2^0%18446744073709551616)=b.toNat:=by rw[Nat.zero_or,Nat.pow_zero,Nat.mul_one,Nat.mod_eq_of_lt (by omega)]
  rw[e]at hO';refine Aj (Ai (Ab (Ad (Qx (oA rfl) rfl (Qm rfl (Aj ?_))))));exact Ak 0 _ (by omega) ⟨1,m',rfl,rfl,rfl,rfl,by omega,hO'⟩ Qs
 ·have hi1:i=1:=by omega
  subst hi1;rw[if_neg (by decide)]at hO;refine Av (Aa (Aa (Af (Ab (BN hO fun h2 l2 hR=>(As (Qm rfl (A8 (pre:=[]) rfl call229 rfl (FG [b.toNat] _ h2 hR (by simp)) rfl rfl rfl rfl (fun r h3 ms3 l3 hF=>?_)))))))));obtain⟨l3',rfl,hR3⟩:=hF;have e:Ga [b.toNat]=[b.toNat]:=Fq [] hb;rw[e]at hR3;refine Qm rfl (An (Am ?_));exact Ap rfl rfl (⟨AJ l1 (AJ l2 l3'),rfl,hR3⟩)
def Z0(l:List Nat)(k:Nat):List Value:=[.int .i64 ((l.length:Int)-1-k),.int .u64 ((l.getD (l.length-1-k) 0:Nat):Int)]
theorem Tc(g:Nat)(v:Value)(l:List Nat)(h:Hp)(hG:Seg h [] ⟨g,0,none⟩ [v])(hR:RdL Cn 1 h [] v l)(hn2:l.length<=1000000):ZN Tryz.prog 270 [.pointer (some ⟨g,0,none⟩)] h l.length (Z0 l):=by
 intro lp X Y h1 ms hl hY h0;show FnT _ _ #[.func (.yield lp) #[] #[],.pointer (some ⟨g,0,none⟩)] _ _ _;have hG:=hG.le hl;have hR:=hR.up hl;obtain⟨n,hn⟩:∃n,l.length=n:=⟨_,rfl⟩
 rw[hn]at hn2 hY;refine Ao func270 ntmps270 rfl rfl (fun w0 hw0=>?_);simp only[AU];refine Ac (C4 (Dh (oL rfl BY ((hG.at0 rfl).any)) rfl rfl rfl (Dh (Ar hR.rd.any rfl BY rfl) rfl rfl rfl (Dh (oS rfl) rfl rfl rfl (Dh (F1 rfl rfl) rfl rfl rfl (Fh (Ab (Ae ?_))))))))
 refine Az (fun q s hh ms'=>∃(k:Nat),q=n-k/\s=[(0,.func (.yield lp) #[] #[]),(1,.pointer (some ⟨g,0,none⟩)),(3,.int .i64 ((n:Int)-1-k))]/\h1.le hh/\k<=n/\X k hh ms')
  (n-0) [(0,.func (.yield lp) #[] #[]),(1,.pointer (some ⟨g,0,none⟩)),(3,.int .i64 ((l.length:Int)-1))] ⟨0,rfl,by rw[hn,show((n:Int)-1-(0:Nat))=(n:Int)-1 by omega],CY,by omega,h0⟩ Qs ?_
 rintro q s hh ms' ⟨k,rfl,rfl,lh,hk,hX⟩;refine Ac (Ac (C4 (Dh (Ay rfl rfl) rfl rfl rfl (Dh (Ky rfl rfl rfl) rfl rfl rfl (Fh (Ab ?_))))));refine Au rfl (fun hlt=>?_) (fun hlt=>?_)
 ·have hkn:k<n:=by omega
  have hG2:=hG.le lh;have hR2:=hR.up lh;have hi:n-1-k<l.length:=by omega
  have hc:∀ms,Cell hh ms ((AG v).add ((n-1-k)*1)) (.int .u64 ((l.getD (n-1-k) 0:Nat):Int)):=fun ms=>by rw[show l.getD (n-1-k) 0=l[n-1-k] by simp[List.getD,hi]];exact(hR2.any (ms:=ms)).cell0 hi rfl
  refine Ah (Ab (Ac (Ae (Ac (C4 (Dh (Ay rfl rfl) rfl rfl rfl (Dh (Ay rfl rfl) rfl rfl rfl (Dh (oL rfl BY ((hG2.at0 rfl).any)) rfl rfl rfl (Dh (Ay rfl rfl) rfl rfl rfl (Dh (BS (n-1-k) hR2.rd.any rfl BY Cm rfl rfl) rfl rfl rfl (Dh (oL rfl FS (hc _)) rfl rfl rfl ?_)))))))))));have hyk:=hY k hh ms' hkn lh hX;unfold Z0 at hyk;rw[hn]at hyk;refine OP rfl rfl rfl (hyk) rfl rfl rfl (fun r h2 ms2 l2 hr=>?_);rcases hr with ⟨rfl,hX2⟩|⟨rfl,hX2⟩
  ·refine Dh (Es rfl rfl) rfl rfl rfl (Fh (Ab (AQ rfl (Ah (Ai (Ab (C4 (Dh (Ay rfl rfl) rfl rfl rfl (Dh (oS rfl) rfl rfl rfl (Dh (F1 rfl rfl) rfl rfl rfl (Fh ?_)))))))))));refine Ak (n-(k+1)) [(0,.func (.yield lp) #[] #[]),(1,.pointer (some ⟨g,0,none⟩)),(3,.int .i64 ((n:Int)-1-k-1))] (by omega) ⟨k+1,rfl,by rw[show((n:Int)-1-k-1)=(n:Int)-1-(k+1:Nat) by omega],AJ lh l2,by omega,hX2⟩ Qs
  ·refine Dh (Es rfl rfl) rfl rfl rfl (Fh (Ab (Bn rfl (Am (Al (Ag (Ag (Al ?_))))))));exact ED rfl (.inr ⟨k,by omega,hX2⟩)
 ·obtain rfl:k=n:=by omega
  refine Av (Aa (Aa (Af ?_)));exact BT rfl (.inl (by rw[hn];exact hX))
theorem Pe(v:Value)(n:Nat)(cs:List Value)(h:Hp)(hR:Rd h [] v 1 n cs):FnT Tryz.prog 230 #[v] h [] (fun r h' ms'=>h=h'/\∃g,r=.func (.func 270) #[] #[.pointer (some ⟨g,0,none⟩)]/\ms'=[A7 g 225 [v]]):=by refine Ao func230 ntmps230 rfl rfl (fun w0 hw0=>?_);simp only[AU];refine As (AS [_] rfl rfl (Rd.cells ‹_›) rfl rfl rfl (fun g1=>Qm rfl (Bv (Qx (Bk rfl rfl rfl) rfl (Qm rfl (An (Am ?_)))))));exact Ap rfl rfl (⟨rfl,_,rfl,rfl⟩)
def Ih(n:Nat):List UInt8:=if n=0 then [] else [UInt8.ofNat n]
def GZ(n:Nat):List Nat:=if n=0 then [] else [n]
theorem Km(n:Nat):(GZ n).length<=1:=by unfold GZ;split<;>simp
def b4(n k:Nat):List UInt8:=if k=0 then [] else [0,0,0,UInt8.ofNat n]
theorem Xv:∀a:UInt8,∀c∈Zj a,c.oneCell'=true:=fun a c hc=>by unfold Zj at hc;rw[List.mem_singleton]at hc;subst hc;rfl
theorem Nz(l:List Nat)(neg:Bool)(v:Value)(n:Nat)(hn:n<256)(hs:Ga l=GZ n)(h:Hp)(R:RdL Cn 1 h [] v l)(hl:l.length<=1000) :
  FnT Tryz.prog 186 #[v,.bool neg] h [] (fun r h' ms'=>h.le h'/\ms'=[]/\r=.agg #[.bool (neg&&decide (Ih n≠[])),sv (Ih n)]):=by
 have ov:=R.rd.one;refine Jk func186 ntmps186 rfl rfl (fun w0 hw0=>?_);simp only[AU];refine As (CC [.bool false,.string ByteArray.empty] rfl Cv rfl rfl (fun g4=>Bv (Qm rfl (Qc call229 rfl (FG l v h R (by omega)) (fun r h1 ms1 l1 hF=>?_)))));obtain⟨l1',rfl,hR1⟩:=hF;rw[hs]at hR1;have or_:=hR1.rd.one;obtain⟨W,hW⟩:∃W,GZ n=W:=⟨_,rfl⟩
 have hWl:W.length<=1:=by rw[<-hW];exact Km n
 rw[hW]at hR1;refine Qm rfl (Bv (Qm rfl (Qx (Ar hR1.rd.any rfl BY rfl) rfl (Qx (oM rfl) rfl (Vw (n:=0) (cp:=4*W.length) rfl U23 el5 rfl rfl rfl rfl (by omega) (by omega) (by omega) (by omega) rfl rfl rfl (fun g14=>CC [.slice none 0 0] rfl ZA rfl rfl (fun g5=>AK 0 0 rfl ZA rfl rfl (by rfl) rfl rfl (by decide) rfl rfl (An (Ac (As (Qm rfl (Qc call230 rfl (Pe r W.length _ h1 hR1.rd) (fun vf h2 ms2 l2 hF=>?_)))))))))))));obtain⟨rfl,gb,rfl,rfl⟩:=hF;refine An (Ae (Aw fun h2 l2 hGb=>?_));have hR2:=hR1.up l2;have hI:=Tc gb r W h2 hGb hR2 (by omega);refine HS (fun k hh ms=>∃bv m,ms=[A7 g5 23 [bv],m,A7 g4 172 [.bool false,.string ByteArray.empty]]/\OwnL Zj 1 5 m bv (b4 n k)) (fun k hh ms=>False) (fun k s1 hh ms=>∃bv m,s1=[(1,.bool neg),(4,.pointer (some ⟨g4,0,none⟩)),(5,.pointer (some ⟨g5,0,none⟩)),(7,.int .u64 (n:Int))]/\ms=[A7 g5 23 [bv],m,A7 g4 172 [.bool false,.string ByteArray.empty]]/\OwnL Zj 1 5 m bv (b4 n k)) rfl call270 hI (fun k=>rfl) rfl ?_ ?_ ?_ ?_ ?_
 ·exact⟨_,_,rfl,⟨⟨by simp[b4],.inr ⟨g14,4*W.length,replicate (4*W.length) (.int .u8 0),rfl,by simp[b4],by simp[b4],by simp[b4],by show 4*W.length<=_;omega⟩⟩,RW⟩⟩
 ·rintro w1 k hh ms1 hk lh ⟨bv,m,rfl,hO⟩;have hk0:k=0:=by omega
  subst hk0;have hn0:n≠0:=by rintro rfl;rw[<-hW]at hk;simp[GZ]at hk
  have hWn:W=[n]:=by rw[<-hW];simp[GZ,hn0]
  have he:Z0 W 0=[.int .i64 0,.int .u64 (n:Int)]:=by rw[hWn];rfl
  rw[he];refine Do (by kernel_rfl) (Qm rfl (Aj ?_));exact AA _ ⟨bv,m,rfl,rfl,hO⟩ Qs
 ·rintro w1 k s1 hh ms1 hk lh ⟨bv,m,rfl,rfl,hO⟩;have hk0:k=0:=by omega
  subst hk0;have c24:IntKind.u8.wrap ((n/2^24:Nat):Int)=(((0:UInt8).toNat:Nat):Int):=by rw[Nat.div_eq_of_lt (by omega)];rfl
  have c16:IntKind.u8.wrap ((n/2^16:Nat):Int)=(((0:UInt8).toNat:Nat):Int):=by rw[Nat.div_eq_of_lt (by omega)];rfl
  have c8:IntKind.u8.wrap ((n/2^8:Nat):Int)=(((0:UInt8).toNat:Nat):Int):=by rw[Nat.div_eq_of_lt (by omega)];rfl
  have c0:IntKind.u8.wrap (n:Int)=(((UInt8.ofNat n).toNat:Nat):Int):=by simp[IntKind.wrap,IntKind.bits,IntKind.signed]
  have ovb:=hO.o1;refine KK (Do (by kernel_rfl) (Ql rfl U23 (Cell.blk0 0 rfl rfl) (Qm rfl (Qx (DP (n:=24) rfl rfl rfl (by omega)) rfl (Qx (Jh c24 rfl FS U5 rfl) rfl (Qm rfl (Qx (DP (n:=16) rfl rfl rfl (by omega)) rfl (Qx (Jh c16 rfl FS U5 rfl) rfl (Qm rfl (Qx (DP (n:=8) rfl rfl rfl (by omega)) rfl (Qx (Jh c8 rfl FS U5 rfl) rfl (Qm rfl (Qx (Jh c0 rfl FS U5 rfl) rfl (AE [(0,_),(1,_),(2,_),(3,_)] [.int .u8 0,.int .u8 0,.int .u8 0,.int .u8 0] [_,_,_,_] rfl U23 el5 rfl (by omega) (by kernel_rfl) Qt rfl rfl rfl rfl (fun g31=>Bj 2 hO (⟨Rd.blk (n:=4) (c:=4) Mh rfl (Nat.le_refl _) (by omega),RW⟩:RdL Zj 1 _ _ _ [(0:UInt8),0,0,UInt8.ofNat n]) rfl U23 el5 rfl (by omega) rfl rfl rfl (fun a _=>Xv a) (by simp[b4]) (by simp[b4]) rfl rfl rfl (fun v32 m' hO'=>?_))))))))))))))));have ov32:=hO'.o1;refine AK 1 0 rfl ZA rfl rfl (by assumption) rfl rfl (by(simp;done)) rfl rfl ?_;refine Aj (Ai (AN ?_));exact AA [] ⟨v32,m',rfl,hO'⟩ trivial
 ·rintro D hh ms1 lh ⟨bv,m,rfl,hO⟩;have hRb:=(hO.rd (h:=hh) (ms:=[A7 g5 23 [bv],m,A7 g4 172 [.bool false,.string ByteArray.empty]]++[Mk D]) (.tail _ (.head _))).rd
  have ht:Lib.trimLeftB (b4 n W.length) 0=Ih n:=by
   rw[<-hW];unfold GZ Ih b4;by_cases h0:n=0
   ·subst h0;rfl
   ·rw[if_neg h0,if_neg h0,if_neg (by simp)]
    have:UInt8.ofNat n≠0:=fun e=>h0 (by
     have:=congrArg UInt8.toNat e
     simp at this;omega)
    simp[Lib.trimLeftB,this]
  have osv:(sv (Ih n)).oneCell'=true:=rfl;refine Ai (Ab (As (Ql rfl U23 (Cell.blk0 0 rfl rfl) (Qx (UP hRb rfl rfl U23 U5 U9 rfl) rfl ?_))));refine Qx (AF rfl call231 rfl (FnV.ofCalls (v:=sv (Ih n)) (fun w=>(Tryz.strings_TrimLeft_one ⟨(b4 n W.length).toArray⟩ 0 (by decide) w).mono fun e w' h=>by rw[<-ht];exact h))) rfl ?_;refine Qm rfl (Bv (Qm rfl (Qm rfl ?_)));refine De (t:=37) rfl (fun hneg=>?_) (fun hneg=>?_)
  ·refine Qg (Ay rfl rfl) rfl (Qg (TG (l':=[]) rfl rfl rfl) rfl (Qm rfl (Qm rfl (Qx (A0 Ze [.bool false,.string ByteArray.empty] [(0,_),(1,_)] [_,_] rfl Cv rfl rfl Qt rfl) rfl ?_))));refine Sa 2 [_,_] Cv rfl (by simp[osv]) ?_;refine An (Am ?_);refine AN (AN ?_);refine I4 1 (.inr rfl) rfl ?_;exact BU (vs:=[_,_]) 0 rfl rfl LU rfl Cv rfl rfl (⟨AJ l1' (AJ l2 lh),rfl,by rw[hneg];rfl⟩)
  ·refine Qk rfl (Qk rfl (Qm rfl (Qm rfl (Qx (A0 Ze [.bool false,.string ByteArray.empty] [(0,_),(1,_)] [_,_] rfl Cv rfl rfl Qt rfl) rfl ?_))));refine Sa 2 [_,_] Cv rfl (by simp[osv]) ?_;refine An (Am ?_);refine AN (AN ?_);refine I4 1 (.inr rfl) rfl ?_;exact BU (vs:=[_,_]) 0 rfl rfl LU rfl Cv rfl rfl (⟨AJ l1' (AJ l2 lh),rfl,by rw[hneg];rfl⟩)
 ·rintro D k hh ms1 hk lh hF;exact hF.elim
def WD(n:Int):Value:=.agg #[.bool (decide (n<0)),sv (Ih n.natAbs)]
theorem bys_ne{n:Nat}:Ih n≠[]<->n≠0:=by unfold Ih;split<;>simp[*]
theorem Me(n:Nat):Ga [n,0]=GZ n:=by
 rw[show [n,0]=[n]++[0] from rfl,Ku];unfold GZ;split
 ·rename_i h;subst h;rfl
 ·rename_i h;exact Fq [] h
theorem XT(n:Int)(hn:-256<n/\n<256)(h:Hp):FnT Tryz.prog 126 #[.int .i64 n] h [] (fun r h' ms'=>h.le h'/\ms'=[]/\r=WD n):=by
 obtain⟨m,hm⟩:∃m,n.natAbs=m:=⟨_,rfl⟩
 have hm2:m<256:=by omega
 refine Ao func126 ntmps126 rfl rfl (fun w0 hw0=>?_);simp only[AU];refine As (CC [.bool false,.string ByteArray.empty] rfl Cv rfl rfl (fun g2=>Bv (Qm rfl (Qx (Cf rfl U3 FS rfl) rfl (Qm rfl (An ?_))))));refine A3 (fun sl h' ms'=>sl=[(0,.int .i64 n),(2,.pointer (some ⟨g2,0,none⟩)),(3,.int .u64 (m:Int))]/\h=h'/\ms'=[A7 g2 172 [.bool false,.string ByteArray.empty]]) ?_ (fun s h ms hI=>?_)
 ·have e9:IntKind.u64.wrap (-(IntKind.u64.wrap n))=(m:Int)\/¬n<0:=by
   by_cases h0:n<0
   ·refine .inl ?_;simp only[IntKind.wrap,IntKind.bits,IntKind.signed];simp;omega
   ·exact .inr h0
  refine As (Qm rfl (Qm rfl (An ?_)));refine Au rfl (fun hlt=>?_) (fun hlt=>?_)
  ·have e9:IntKind.u64.wrap (-(IntKind.u64.wrap n))=(m:Int):=e9.resolve_right (fun h=>h hlt);refine Ad (Qm rfl (Qx (Xz e9 rfl rfl) rfl (Qm rfl (Aj ?_))));exact AA _ ⟨rfl,rfl,rfl⟩ Qs
  ·have e3:IntKind.u64.wrap n=(m:Int):=by rw[Ds (by omega)];omega
   refine Ah ?_;exact AA _ ⟨rfl,rfl,rfl⟩ (by rw[<-e3];exact Qs)
 ·obtain⟨rfl,rfl,rfl⟩:=hI
  have ea:((m &&& 4294967295:Nat):Int)=(m:Int):=by have:=Nat.and_two_pow_sub_one_eq_mod m 32;rw[show(2^32-1:Nat)=4294967295 from rfl,Nat.mod_eq_of_lt (by omega)]at this;rw[this]
  have es:((m/2^32:Nat):Int)=((0:Nat):Int):=by rw[Nat.div_eq_of_lt (by omega)]
  refine As (Qm rfl (Qx (Kh ea rfl rfl rfl (by omega) (by omega)) rfl (Qm rfl (Qx (Ki es rfl rfl rfl (by omega)) rfl (AE [(0,_),(1,_)] [.int .u64 0,.int .u64 0] [_,_] rfl BY Cm rfl (by omega) (by kernel_rfl) Qt rfl rfl rfl rfl (fun g14=>Qm rfl (Qm rfl (BA fun h3 l3 hS=>?_))))))));have hR:RdL Cn 1 h3 [] (.slice (some ⟨g14,0,none⟩) 2 2) [m,0]:=⟨⟨⟨_,_,rfl,Nat.le_refl _,by decide,rfl,fun _=>⟨_,rfl,hS⟩⟩⟩,DI⟩
  refine Qc call186 rfl (Nz [m,0] (decide (n<0)) _ m hm2 (Me m) h3 hR (by simp)) (fun r h4 ms4 l4 hF=>?_);obtain⟨l4',rfl,rfl⟩:=hF;have osv:(sv (Ih m)).oneCell'=true:=rfl
  have eW:Value.agg #[.bool (decide (n<0)&&decide (Ih m≠[])),sv (Ih m)]=WD n:=by
   unfold WD
   have:(decide (n<0)&&decide (Ih m≠[]))=decide (n<0):=by
    by_cases h0:n<0
    ·have:Ih m≠[]:=bys_ne.2 (by omega);simp[h0,this]
    ·simp[h0]
   rw[this,hm]
  refine Sa 0 [_,_] Cv rfl (by simp[osv]) ?_;refine An (Am ?_);exact BU (vs:=[_,_]) 0 rfl rfl LU rfl Cv rfl rfl (⟨AJ l3 l4',rfl,eW⟩)
theorem VZ(n:Int)(hn:-256<n/\n<256)(h:Hp)(ms:List Hp):FnV Tryz.prog 126 #[.int .i64 n] h ms (WD n):=F6 ((XT n hn h).mono fun _ _ _ h=>h.2.2) ms
theorem P5(n:Int)(hn:-256<n/\n<256)(h:Hp):FnT Tryz.prog 187 #[WD n] h [] (fun r h' ms'=>h.le h'/\ms'=[]/\RdL Cn 1 h' [] r (GZ n.natAbs)):=by
 unfold WD;by_cases h0:n.natAbs=0
 ·have e1:Ih n.natAbs=[]:=by unfold Ih;rw[if_pos h0]
  have e2:GZ n.natAbs=[]:=by unfold GZ;rw[if_pos h0]
  rw[e1,e2];exact Xp _ h
 ·have e1:Ih n.natAbs=[UInt8.ofNat n.natAbs]:=by unfold Ih;rw[if_neg h0]
  have e3:(UInt8.ofNat n.natAbs).toNat=n.natAbs:=by simp;omega
  have e2:GZ n.natAbs=[(UInt8.ofNat n.natAbs).toNat]:=by unfold GZ;rw[if_neg h0,e3]
  rw[e1,e2];exact XM _ _ (by omega) h
theorem Gx{m:Nat}(h:m≠0):GZ m=[m]:=if_neg h
def Ty(m k:Nat):Int:=if m<k then -1 else if k<m then 1 else 0
theorem Yz(m k:Nat)(hk:k≠0)(va vb:Value)(h:Hp)(hA:RdL Cn 1 h [] va (GZ m))(hB:RdL Cn 1 h [] vb [k]) :
  FnT Tryz.prog 232 #[va,vb] h [] (fun r _ _=>r=.int .i64 (Ty m k)):=by
 by_cases h0:m=0
 ·have e:GZ m=[]:=if_pos h0;rw[e]at hA;have rA:Rd h [] va 1 0 (([]:List Nat).flatMap Cn):=hA.rd;have rB:Rd h [] vb 1 1 ([k].flatMap Cn):=hB.rd;refine Ao func232 ntmps232 rfl rfl (fun w0 hw0=>?_);simp only[AU];refine As (Qm rfl (An (Ac (Ae (As (Qm rfl (Qx (Ar rA.any rfl BY rfl) rfl (Qm rfl (Qx (Ar rB.any rfl BY rfl) rfl (Qm rfl (Qm rfl (An ?_))))))))))));refine Au rfl (fun h1=>?_) (fun h1=>?_)
  ·refine Ac (Ad (Qm rfl (An (Am (Al (Ag ?_))))));exact Ap rfl rfl (by unfold Ty;rw[if_pos (by omega)])
  ·exact absurd (by decide) h1
 ·rw[Gx h0]at hA;have rA:Rd h [] va 1 1 ([m].flatMap Cn):=hA.rd;have rB:Rd h [] vb 1 1 ([k].flatMap Cn):=hB.rd;have cA:∀ms,Cell h ms ((AG va).add (0*1)) (.int .u64 (m:Int)):=fun ms=>(hA.any (ms:=ms)).cell0 (j:=0) (by simp) rfl;have cB:∀ms,Cell h ms ((AG vb).add (0*1)) (.int .u64 (k:Int)):=fun ms=>(hB.any (ms:=ms)).cell0 (j:=0) (by simp) rfl;refine Ao func232 ntmps232 rfl rfl (fun w0 hw0=>?_);simp only[AU];refine As (Qm rfl (An (Ac (Ae (As (Qm rfl (Qx (Ar rA.any rfl BY rfl) rfl (Qm rfl (Qx (Ar rB.any rfl BY rfl) rfl (Qm rfl (Qm rfl (An ?_))))))))))));refine Au rfl (fun h1=>?_) (fun h1=>?_)
  ·exact absurd h1 (by decide)
  ·refine Ac (Ad (Qm rfl (Qx (Ar rA.any rfl BY rfl) rfl (Qm rfl (Qx (Ar rB.any rfl BY rfl) rfl (Qm rfl (Qm rfl (An ?_))))))));refine Au rfl (fun h2=>?_) (fun h2=>?_)
   ·exact absurd h2 (by decide)
   ·refine Ah (Ai (Ab (Ac (As (Qm rfl (Qx (Ar rA.any rfl BY rfl) rfl (Qx (oS rfl) rfl (Qm rfl (An (Ae ?_))))))))));refine Az (fun q sl h' ms'=>∃i:Nat,i=q/\sl=[(0,va),(1,vb),(5,.int .i64 ((i:Int)-1))]/\h=h'/\ms'=[]/\i<=1/\(i=0->m=k)) 1 _ ⟨1,rfl,rfl,rfl,rfl,by omega,by omega⟩ Qs ?_;rintro q sl h' ms' ⟨i,rfl,rfl,rfl,rfl,hi,hk0⟩;refine Ac (As (Qm rfl (Qm rfl (An ?_))));refine Au rfl (fun hlt=>?_) (fun hlt=>?_)
    ·have hi1:i=1:=by omega
     subst hi1;refine Ah (Ab (Ac (Ae (Ae (Ac (Bc 8 CP (by kernel_rfl) rfl (Wm rfl (Wm rfl (AP (AC _ rA.any rfl BY Cm rfl rfl rfl (by omega)) rfl rfl (Wl rfl FS (cA _) (Wm rfl (Wm rfl (AP (AC _ rB.any rfl BY Cm rfl rfl rfl (by omega)) rfl rfl (Wl rfl FS (cB _) (AZ (Qm rfl (Qm rfl (An ?_))))))))))))))))));refine Au rfl (fun h3=>?_) (fun h3=>?_)
     ·refine Ac (Ad (Qm rfl (An (Am (Al (Al (Ag (Ag (Al (Ag ?_))))))))));exact Ap rfl rfl (by unfold Ty;rw[if_pos (by omega)])
     ·refine Ac (Bc 8 CP (by kernel_rfl) rfl (Wm rfl (Wm rfl (AP (AC _ rA.any rfl BY Cm rfl rfl rfl (by omega)) rfl rfl (Wl rfl FS (cA _) (Wm rfl (Wm rfl (AP (AC _ rB.any rfl BY Cm rfl rfl rfl (by omega)) rfl rfl (Wl rfl FS (cB _) (AZ (Qm rfl (Qm rfl (An ?_)))))))))))));refine Au rfl (fun h4=>?_) (fun h4=>?_)
      ·refine Ac (Ad (Qm rfl (An (Am (Al (Al (Ag (Ag (Al (Ag ?_))))))))));exact Ap rfl rfl (by unfold Ty;rw[if_neg (by omega),if_pos (by omega)])
      ·refine Ah (Ai (Ai (Ab (Ad (Qm rfl (Qx (oS rfl) rfl (Qm rfl (Aj ?_))))))));exact Ak 0 _ (by omega) ⟨0,rfl,rfl,rfl,rfl,by omega,fun _=>by omega⟩ Qs
    ·have hi1:i=0:=by omega
     subst hi1;have:=hk0 rfl;refine Av (Aa (Aa (Af (Ab (As (Qm rfl (An (Am ?_))))))));exact Ap rfl rfl (by unfold Ty;rw[if_neg (by omega),if_neg (by omega)])
theorem JD(n:Nat):Ga [n]=GZ n:=by
 unfold GZ;split
 ·rename_i h;subst h;rfl
 ·rename_i h;exact Fq [] h
theorem Wz(m k:Nat)(hm:m<256)(hk:k≠0)(hk2:k<256)(va:Value)(h:Hp)(hA:RdL Cn 1 h [] va (GZ m)) :
  FnT Tryz.prog 233 #[va,.int .u64 (k:Int)] h [] (fun r h' ms'=>h.le h'/\ms'=[]/\∃q,r=.tuple #[q,.int .u64 ((m%k:Nat):Int)]/\RdL Cn 1 h' [] q (GZ (m/k))):=by
 by_cases h0:m=0
 ·subst h0;have rA:Rd h [] va 1 0 (([]:List Nat).flatMap Cn):=hA.rd;refine Ao func233 ntmps233 rfl rfl (fun w0 hw0=>?_);simp only[AU];refine As (Qm rfl (Qm rfl (Bv (Qm rfl (Qx (Ar rA.any rfl BY rfl) rfl (CM (n:=0) rfl BY Cm rfl rfl rfl (by rfl) (by rfl) (by omega) (by omega) rfl rfl rfl (fun g11=>Qm rfl (Bv (Qm rfl (An (Ac (As (Qm rfl (Qx (Ar rA.any rfl BY rfl) rfl (Qx (oS rfl) rfl (Qm rfl (An (Ae (Az (fun q sl h' ms'=>q=0/\sl=[(6,.slice (some ⟨g11,0,none⟩) 0 0),(7,.int .u64 0),(8,.int .i64 (-1))]/\h=h'/\ms'=[A7 g11 222 []]) 0 _ ⟨rfl,rfl,rfl,rfl⟩ Qs ?_)))))))))))))))))));rintro q sl h' ms' ⟨rfl,rfl,rfl,rfl⟩;refine Ac (As (Qm rfl (Qm rfl (An ?_))));refine Au rfl (fun hlt=>?_) (fun hlt=>?_)
  ·exact absurd hlt (by decide)
  ·refine Av (Aa (Aa (Af (Ab ?_))));have hO:OwnL Cn 1 222 (A7 g11 222 []) (.slice (some ⟨g11,0,none⟩) 0 0) []:=OwnL.blk (l:=([]:List Nat)) 0 DI rfl (by omega);refine BN hO fun h2 l2 hR=>(As (Qm rfl (Qc call229 rfl (FG [] _ h2 hR (by simp)) (fun r h3 ms3 l3 hF=>?_))))
   obtain⟨l3',rfl,hR3⟩:=hF;refine Qm rfl (Qm rfl (Qm rfl (An (Am ?_))));exact BC rfl rfl rfl (⟨AJ l2 l3',rfl,_,by rw[Nat.zero_mod];rfl,by rw[Nat.zero_div];exact hR3⟩)
 ·rw[Gx h0]at hA;have rA:Rd h [] va 1 1 ([m].flatMap Cn):=hA.rd;have cA:∀ms,Cell h ms ((AG va).add (0*1)) (.int .u64 (m:Int)):=fun ms=>(hA.any (ms:=ms)).cell0 (j:=0) (by simp) rfl;refine Ao func233 ntmps233 rfl rfl (fun w0 hw0=>?_);simp only[AU];refine As (Qm rfl (Qm rfl (Bv (Qm rfl (Qx (Ar rA.any rfl BY rfl) rfl (CM (n:=1) rfl BY Cm rfl rfl rfl (by rfl) (by rfl) (by omega) (by omega) rfl rfl rfl (fun g11=>Qm rfl (Bv (Qm rfl (An (Ac (As (Qm rfl (Qx (Ar rA.any rfl BY rfl) rfl (Qx (oS rfl) rfl (Qm rfl (An (Ae ?_))))))))))))))))));refine Az (fun q sl h' ms'=>∃(i:Nat) (mo:Hp),i=q/\sl=[(0,va),(1,.int .u64 (k:Int)),(6,.slice (some ⟨g11,0,none⟩) 1 1),(7,.int .u64 ((if i=1 then 0 else m%k:Nat):Int)),(8,.int .i64 ((i:Int)-1))]/\h=h'/\ms'=[mo]/\i<=1/\OwnL Cn 1 222 mo (.slice (some ⟨g11,0,none⟩) 1 1) [if i=1 then 0 else m/k]) 1 _ ⟨1,_,rfl,rfl,rfl,rfl,by omega,OwnL.blk (l:=[0]) 1 DI rfl (by omega)⟩ Qs ?_;rintro q sl h' ms' ⟨i,mo,rfl,rfl,rfl,rfl,hi,hO⟩;refine Ac (As (Qm rfl (Qm rfl (An ?_))));refine Au rfl (fun hlt=>?_) (fun hlt=>?_)
  ·have hi1:i=1:=by omega
   subst hi1;rw[if_pos rfl]at hO;simp only[if_true];have e20:((0*2^32%18446744073709551616:Nat):Int)=((0:Nat):Int):=rfl;have e25:((0 ||| m:Nat):Int)=(m:Int):=by rw[Nat.zero_or]
   refine Ah (Ab (Ac (Ae (As (Qm rfl (Qx (Sf e20 rfl rfl rfl (by omega)) rfl (Qm rfl (Qm rfl (Qx (AC _ rA.any rfl BY Cm rfl rfl rfl (by omega)) rfl (Ql rfl FS (cA _) (Qx (Wr e25 rfl rfl rfl (by omega) (by omega)) rfl (Qm rfl (An (BF (n:=11) (bs:=[true,true,true,true,true,true,true,true,true,false,false]) [true,true,true,true,true,true,true,true,true] CP (by kernel_rfl) (by kernel_rfl) rfl rfl (Qq rfl (Qq rfl (Qq rfl (Qq rfl (Qp rfl (Yd rfl rfl rfl (by omega) (by omega)) (Qq rfl (Qq rfl (Qp rfl (XX rfl rfl rfl (by omega)) (Qp rfl (Cs _ rfl BY Cm rfl rfl rfl (by omega)) ?_)))))))))))))))))))))));unfold FN;simp only[cons_append,nil_append];refine Qo 9 rfl (CH (f:=fun n:Nat=>Value.int .u64 (n:Int)) 0 0 (fun _=>rfl) hO rfl Cm rfl rfl rfl rfl (by simp) rfl rfl (fun m' hO'=>Qw (Qo 10 rfl (Qm rfl (Qw (Qe (Ai (Ab (Ad (Qm rfl (Qx (oS rfl) rfl (Qm rfl (Aj ?_)))))))))))));exact Ak 0 _ (by omega) ⟨0,m',rfl,rfl,rfl,rfl,by omega,hO'⟩ Qs
  ·have hi1:i=0:=by omega
   subst hi1;rw[if_neg (by decide)]at hO;refine Av (Aa (Aa (Af (Ab (BN hO fun h2 l2 hR=>(As (Qm rfl (Qc call229 rfl (FG [m/k] _ h2 hR (by simp)) (fun r h3 ms3 l3 hF=>?_)))))))));obtain⟨l3',rfl,hR3⟩:=hF;rw[JD]at hR3;refine Qm rfl (Qm rfl (Qm rfl (An (Am ?_))));exact BC rfl rfl rfl (⟨AJ l2 l3',rfl,_,rfl,hR3⟩)
theorem Pp{n:Nat}(h:n<4294967296):((n &&& 4294967295:Nat):Int)=(n:Int):=by have:=Nat.and_two_pow_sub_one_eq_mod n 32;rw[show(2^32-1:Nat)=4294967295 from rfl,Nat.mod_eq_of_lt (by omega)]at this;rw[this]
theorem Yn(a b:Nat)(hb:b<a)(ha:a<256)(va vb:Value)(h:Hp)(hA:RdL Cn 1 h [] va [a])(hB:RdL Cn 1 h [] vb [b]) :
  FnT Tryz.prog 190 #[va,vb] h [] (fun r h' ms'=>h.le h'/\ms'=[]/\RdL Cn 1 h' [] r (GZ (a-b))):=by
 have rA:Rd h [] va 1 1 ([a].flatMap Cn):=hA.rd;have rB:Rd h [] vb 1 1 ([b].flatMap Cn):=hB.rd;have cA:∀ms,Cell h ms ((AG va).add (0*1)) (.int .u64 (a:Int)):=fun ms=>(hA.any (ms:=ms)).cell0 (j:=0) (by simp) rfl;have cB:∀ms,Cell h ms ((AG vb).add (0*1)) (.int .u64 (b:Int)):=fun ms=>(hB.any (ms:=ms)).cell0 (j:=0) (by simp) rfl;refine Ao func190 ntmps190 rfl rfl (fun w0 hw0=>?_);simp only[AU];refine As (Qm rfl (Bv (Qm rfl (Qx (Ar rA.any rfl BY rfl) rfl (CM (n:=1) rfl BY Cm rfl rfl rfl (by rfl) (by rfl) (by omega) (by omega) rfl rfl rfl (fun g11=>Qm rfl (Bv (Qm rfl (An (Ac (As (Qm rfl (Qx (Ar rA.any rfl BY rfl) rfl (Qm rfl (An (Ae ?_))))))))))))))));refine Az (fun q sl h' ms'=>∃(i:Nat) (mo:Hp),1-i=q/\sl=[(0,va),(1,vb),(5,.slice (some ⟨g11,0,none⟩) 1 1),(6,.int .u64 0),(13,.int .i64 ((1:Nat):Int)),(14,.int .i64 i)]/\h=h'/\ms'=[mo]/\i<=1/\OwnL Cn 1 222 mo (.slice (some ⟨g11,0,none⟩) 1 1) [if i=0 then 0 else a-b]) 1 _ ⟨0,_,rfl,rfl,rfl,rfl,by omega,OwnL.blk (l:=[0]) 1 DI rfl (by omega)⟩ Qs ?_;rintro q sl h' ms' ⟨i,mo,rfl,rfl,rfl,rfl,hi,hO⟩;refine As (Qm rfl (An (Ac ?_)));refine Au rfl (fun hlt=>?_) (fun hlt=>?_)
 ·have hi0:i=0:=by omega
  subst hi0;rw[if_pos rfl]at hO;have e22:IntKind.u64.wrap ((a:Int)-((0:Nat):Int))=(a:Int):=by rw[Ds (by omega)];omega
  refine Ah (Ab (Ac (Ae (As (Qm rfl (Qm rfl (Bv (Qm rfl (Qm rfl (Qx (AC _ rA.any rfl BY Cm rfl rfl rfl (by omega)) rfl (Ql rfl FS (cA _) (Qm rfl (Qx (R7 (b:=0) e22 rfl rfl rfl) rfl (Qm rfl (An (Ac (As (Qm rfl (Qm rfl (Qx (Ar rB.any rfl BY rfl) rfl (Qm rfl (An ?_))))))))))))))))))))));refine Au rfl (fun h2=>?_) (fun h2=>?_)
  ·have e32:IntKind.u64.wrap ((a:Int)-(b:Int))=((a-b:Nat):Int):=by rw[Ds (by omega)];omega
   have em:=Pp (n:=a-b) (by omega);have e38:(((a-b)/2^63:Nat):Int)=((0:Nat):Int):=by rw[Nat.div_eq_of_lt (by omega)]
   refine Ad (Qm rfl (Qm rfl (Qm rfl (Qx (AC _ rB.any rfl BY Cm rfl rfl rfl (by omega)) rfl (Ql rfl FS (cB _) (Qx (R7 e32 rfl rfl rfl) rfl (Qm rfl (Gh (Qm rfl (Qm rfl (Qm rfl (Qx (Kh em rfl rfl rfl (by omega) (by omega)) rfl (Qm rfl (Qx (Ki (n:=63) e38 rfl rfl rfl (by omega)) rfl (Qx (Cs _ rfl BY Cm rfl rfl rfl (by omega)) rfl (CH (f:=fun n:Nat=>Value.int .u64 (n:Int)) 0 0 (fun _=>rfl) hO rfl Cm rfl rfl rfl rfl (by simp) rfl rfl (fun m' hO'=>Qm rfl (Aj (Ai (Ab (Ad (Qx (oA rfl) rfl (Qm rfl (Aj ?_))))))))))))))))))))))));exact Ak 0 _ (by omega) ⟨1,m',rfl,rfl,rfl,rfl,by omega,hO'⟩ Qs
  ·exact absurd (by decide) h2
 ·have hi1:i=1:=by omega
  subst hi1;rw[if_neg (by decide)]at hO;refine Av (Aa (Aa (Af (Ab (BN hO fun h2 l2 hR=>(As (Qm rfl (Qc call229 rfl (FG [a-b] _ h2 hR (by simp)) (fun r h3 ms3 l3 hF=>?_)))))))));obtain⟨l3',rfl,hR3⟩:=hF;rw[JD]at hR3;refine Qm rfl (An (Am ?_));exact Ap rfl rfl (⟨AJ l2 l3',rfl,hR3⟩)
theorem YU(m:Nat)(hm:m<256)(va vb:Value)(h:Hp)(hA:RdL Cn 1 h [] va (GZ m))(hB:RdL Cn 1 h [] vb [1]) :
  FnT Tryz.prog 189 #[va,vb] h [] (fun r h' ms'=>h.le h'/\ms'=[]/\RdL Cn 1 h' [] r (GZ (m+1))):=by
 refine Ao func189 ntmps189 rfl rfl (fun w0 hw0=>?_);simp only[AU];refine As (Qm rfl (An ?_));refine A3 (fun sl h' ms'=>∃(u w:Value) (x:Nat) (W:List Nat),sl=[(0,u),(1,w)]/\h=h'/\ms'=[]/\RdL Cn 1 h [] u [x]/\RdL Cn 1 h [] w W/\x<257/\((W=[]/\x=m+1)\/∃y,W=[y]/\y<256/\x+y=m+1)) ?_ (fun s h ms hI=>?_)
 ·by_cases h0:m=0
  ·have e:GZ m=[]:=if_pos h0;rw[e]at hA;have rA:Rd h [] va 1 0 (([]:List Nat).flatMap Cn):=hA.rd;have rB:Rd h [] vb 1 1 (([1]:List Nat).flatMap Cn):=hB.rd;refine As (Qm rfl (Qx (Ar rA.any rfl BY rfl) rfl (Qm rfl (Qx (Ar rB.any rfl BY rfl) rfl (Qm rfl (An ?_))))));refine Au rfl (fun h1=>?_) (fun h1=>?_)
   ·refine Ad (Qm rfl (Qm rfl (Qm rfl (Qm rfl (Aj ?_)))));exact AA _ ⟨vb,va,1,[],rfl,rfl,rfl,hB,hA,by omega,.inl ⟨rfl,by omega⟩⟩ Qs
   ·exact absurd (by decide) h1
  ·rw[Gx h0]at hA;have rA:Rd h [] va 1 1 (([m]:List Nat).flatMap Cn):=hA.rd;have rB:Rd h [] vb 1 1 (([1]:List Nat).flatMap Cn):=hB.rd;refine As (Qm rfl (Qx (Ar rA.any rfl BY rfl) rfl (Qm rfl (Qx (Ar rB.any rfl BY rfl) rfl (Qm rfl (An ?_))))));refine Au rfl (fun h1=>?_) (fun h1=>?_)
   ·exact absurd h1 (by decide)
   ·refine Ah ?_;exact AA _ ⟨va,vb,m,[1],rfl,rfl,rfl,hA,hB,by omega,.inr ⟨1,rfl,by omega,by omega⟩⟩ Qs
 ·obtain⟨u,w,x,W,rfl,rfl,rfl,hU,hW,hx,hc⟩:=hI;have rU:Rd h [] u 1 1 ([x].flatMap Cn):=hU.rd;have cA:∀ms,Cell h ms ((AG u).add (0*1)) (.int .u64 (x:Int)):=fun ms=>(hU.any (ms:=ms)).cell0 (j:=0) (by simp) rfl;have hWl:W.length<=1:=by rcases hc with ⟨rfl,_⟩|⟨y,rfl,_⟩<;>simp
  refine As (Qm rfl (Qx (Ar rU.any rfl BY rfl) rfl (Qx (oA rfl) rfl (CM (n:=2) rfl BY Cm rfl rfl rfl (by rfl) (by rfl) (by omega) (by omega) rfl rfl rfl (fun g19=>Qm rfl (Bv (Qm rfl (An (Ac (As (Qm rfl (Qx (Ar rU.any rfl BY rfl) rfl (Qm rfl (An (Ae ?_)))))))))))))));refine Az (fun q sl h' ms'=>∃(i:Nat) (mo:Hp),1-i=q/\sl=[(0,u),(1,w),(5,.slice (some ⟨g19,0,none⟩) 2 2),(6,.int .u64 0),(21,.int .i64 ((1:Nat):Int)),(22,.int .i64 i)]/\h=h'/\ms'=[mo]/\i<=1/\OwnL Cn 1 222 mo (.slice (some ⟨g19,0,none⟩) 2 2) [if i=0 then 0 else m+1,0]) 1 _ ⟨0,_,rfl,rfl,rfl,rfl,by omega,OwnL.blk (l:=[0,0]) 2 DI rfl (by omega)⟩ Qs ?_;rintro q sl h' ms' ⟨i,mo,rfl,rfl,rfl,rfl,hi,hO⟩;refine As (Qm rfl (An (Ac ?_)));refine Au rfl (fun hlt=>?_) (fun hlt=>?_)
  ·have hi0:i=0:=by omega
   subst hi0;rw[if_pos rfl]at hO;have e30:IntKind.u64.wrap ((x:Int)+((0:Nat):Int))=(x:Int):=by rw[Ds (by omega)];omega
   have em:=Pp (n:=m+1) (by omega);have e46:((m+1)/2^32:Nat)=0:=Nat.div_eq_of_lt (by omega);have e46':(((m+1)/2^32:Nat):Int)=((0:Nat):Int):=by rw[e46]
   refine Ah (Ab (Ac (Ae (As (Qm rfl (Qm rfl (Bv (Qm rfl (Qm rfl (Qx (BS (0) rU.any rfl BY Cm rfl rfl) rfl (Ql rfl FS (cA _) (Qm rfl (Qx (Sb (b:=0) e30 rfl rfl rfl) rfl (Qm rfl (An (Ac (As (Qm rfl (Qm rfl (Qx (Ar hW.rd.any rfl BY rfl) rfl (Qm rfl (An ?_))))))))))))))))))))));refine Au rfl (fun h2=>?_) (fun h2=>?_)
   ·obtain⟨y,rfl,hy,hs⟩:∃y,W=[y]/\y<256/\x+y=m+1:=by
     rcases hc with ⟨rfl,_⟩|h
     ·exact absurd h2 (by decide)
     ·exact h
    have cB:∀ms,Cell h ms ((AG w).add (0*1)) (.int .u64 (y:Int)):=fun ms=>(hW.any (ms:=ms)).cell0 (j:=0) (by simp) rfl;have e40:IntKind.u64.wrap ((x:Int)+(y:Int))=((m+1:Nat):Int):=by rw[Ds (by omega)];omega
    refine Ad (Qm rfl (Qm rfl (Qm rfl (Qx (BS (0) hW.rd.any rfl BY Cm rfl rfl) rfl (Ql rfl FS (cB _) (Qx (Sb e40 rfl rfl rfl) rfl (Qm rfl (Gh (Qm rfl (Qm rfl (Qm rfl (Qx (Kh em rfl rfl rfl (by omega) (by omega)) rfl (Qm rfl (Qx (Ki (n:=32) e46' rfl rfl rfl (by omega)) rfl (Qx (Cs (0) rfl BY Cm rfl rfl (by omega) (by omega)) rfl (CH (f:=fun n:Nat=>Value.int .u64 (n:Int)) 0 0 (fun _=>rfl) hO rfl Cm rfl rfl rfl rfl (by simp) rfl rfl (fun m' hO'=>Qm rfl (Aj (Ai (Ab (Ad (Qx (oA rfl) rfl (Qm rfl (Aj ?_))))))))))))))))))))))));exact Ak 0 _ (by omega) ⟨1,m',rfl,rfl,rfl,rfl,by omega,hO'⟩ Qs
   ·obtain⟨rfl,hs⟩:W=[]/\x=m+1:=by
     rcases hc with h|⟨y,rfl,_⟩
     ·exact h
     ·exact absurd (by simp) h2
    subst hs;refine Ah (Ab (Ad (Qm rfl (Qm rfl (Qm rfl (Qx (Kh em rfl rfl rfl (by omega) (by omega)) rfl (Qm rfl (Qx (Ki (n:=32) e46' rfl rfl rfl (by omega)) rfl (Qx (Cs (0) rfl BY Cm rfl rfl (by omega) (by omega)) rfl (CH (f:=fun n:Nat=>Value.int .u64 (n:Int)) 0 0 (fun _=>rfl) hO rfl Cm rfl rfl rfl rfl (by simp) rfl rfl (fun m' hO'=>Qm rfl (Aj (Ai (Ab (Ad (Qx (oA rfl) rfl (Qm rfl (Aj ?_))))))))))))))))));exact Ak 0 _ (by omega) ⟨1,m',rfl,rfl,rfl,rfl,by omega,hO'⟩ Qs
  ·have hi1:i=1:=by omega
   subst hi1;rw[if_neg (by decide)]at hO;refine Av (Aa (Aa (Af (Ab (As (Qm rfl (Qm rfl (Qx (Ar rU.any rfl BY rfl) rfl (Qm rfl (Qx (Cs (1) rfl BY Cm rfl rfl (by omega) (by omega)) rfl (CH (f:=fun n:Nat=>Value.int .u64 (n:Int)) (a:=0) 0 1 (fun _=>rfl) hO rfl Cm rfl rfl rfl rfl (by simp) rfl rfl (fun m' hO'=>An (BN hO' fun h2 l2 hR=>(As (Qm rfl (Qc call229 rfl (FG [m+1,0] _ h2 hR (by simp)) (fun r h3 ms3 l3 hF=>?_)))))))))))))))));obtain⟨l3',rfl,hR3⟩:=hF;rw[Me]at hR3;refine Qm rfl (An (Am ?_));exact Ap rfl rfl (⟨AJ l2 l3',rfl,hR3⟩)
theorem Xt(h:Hp)(ms:List Hp):RdL Cn 1 h ms (.slice none 0 0) []:=⟨⟨⟨none,0,rfl,Nat.le_refl _,by decide,rfl,fun h=>absurd h (by decide)⟩⟩,DI⟩
theorem Xy(m k:Nat)(hm:m<256)(hk:k≠0)(hk2:k<256)(va vb:Value)(h:Hp)(hA:RdL Cn 1 h [] va (GZ m))(hB:RdL Cn 1 h [] vb [k]) :
  FnT Tryz.prog 188 #[va,vb] h [] (fun r h' ms'=>h.le h'/\ms'=[]/\∃q u,r=.tuple #[q,u]/\RdL Cn 1 h' [] q (GZ (m/k))/\RdL Cn 1 h' [] u (GZ (m%k))):=by
 have rB:Rd h [] vb 1 1 ([k].flatMap Cn):=hB.rd;have cB:∀ms,Cell h ms ((AG vb).add (0*1)) (.int .u64 (k:Int)):=fun ms=>(hB.any (ms:=ms)).cell0 (j:=0) (by simp) rfl;have oa:=hA.rd.one;have ob:=hB.rd.one;refine Ao func188 ntmps188 rfl rfl (fun w0 hw0=>?_);simp only[AU];refine As (Qm rfl (Qm rfl (An (Ac (As (Qm rfl (Qm rfl (Qx (AF rfl call232 rfl (F6 (Yz m k hk va vb h hA hB) _)) rfl (Qm rfl (An ?_))))))))));refine Au rfl (fun h1=>?_) (fun h1=>?_)
 ·have hlt:m<k:=by
   unfold Ty at h1;rcases Nat.lt_or_ge m k with h|h
   ·exact h
   ·rw[if_neg (by omega)]at h1;split at h1<;>omega
  refine As (Qm rfl (Qm rfl (Qm rfl (An (Am (Ag ?_))))));exact BC rfl rfl rfl (⟨CY,rfl,_,_,rfl,by rw[Nat.div_eq_of_lt hlt];exact Xt _ _,by rw[Nat.mod_eq_of_lt hlt];exact hA⟩)
 ·refine Ah (Ab (Ac (As (Qm rfl (Qx (Ar rB.any rfl BY rfl) rfl (Qm rfl (An ?_)))))));refine Au rfl (fun h2=>?_) (fun h2=>?_)
  ·refine Ac (Ad (Qm rfl (Qm rfl (Qx (AC 0 rB.any rfl BY Cm rfl rfl rfl (by omega)) rfl (Ql rfl FS (cB _) (Qc call233 rfl (Wz m k hm hk hk2 va h hA) (fun r h3 ms3 l3 hF=>?_)))))));obtain⟨l3',rfl,q,rfl,hq⟩:=hF;have oq:=hq.rd.one;refine Qm rfl (Qm rfl (Qm rfl (Qm rfl (Qm rfl (Bv (Qm rfl (Qm rfl (Aq [_] rfl BY Cm rfl (by rfl) rfl rfl (by omega) rfl rfl rfl (fun g37=>BA fun h4 l4 hS=>?_)))))))));have hR:RdL Cn 1 h4 [] (.slice (some ⟨g37,0,none⟩) 1 1) [m%k]:=⟨⟨⟨_,_,rfl,Nat.le_refl _,by decide,rfl,fun _=>⟨_,rfl,hS⟩⟩⟩,DI⟩
   refine Qc call229 rfl (FG [m%k] _ h4 hR (by simp)) (fun r h5 ms5 l5 hF=>?_);obtain⟨l5',rfl,hR5⟩:=hF;rw[JD]at hR5;have or_:=hR5.rd.one;refine Qm rfl (Qm rfl (An (Am (Ag ?_))));exact BC rfl rfl rfl (⟨AJ l3' (AJ l4 l5'),rfl,_,_,rfl,(hq.up l4).up l5',hR5⟩)
  ·exact absurd (by decide) h2
theorem Yt(m k:Nat)(hk:0<k):(-(m:Int))%(k:Int)=(if m%k=0 then 0 else k-m%k:Nat):=by
 have h1:(m:Int)=((m%k:Nat):Int)+(k:Int)*((m/k:Nat):Int):=by
  have:=Nat.mod_add_div m k
  exact_mod_cast this.symm
 have hlt:=Nat.mod_lt m hk;split
 ·rename_i h0;rw[h0]at h1;have:-(m:Int)=0+(k:Int)*(-((m/k:Nat):Int)):=by rw[Int.mul_neg];omega
  rw[this,Int.add_mul_emod_self_left];rfl
 ·rename_i h0
  have:-(m:Int)=((k-m%k:Nat):Int)+(k:Int)*(-((m/k:Nat):Int)-1):=by rw[Int.mul_sub,Int.mul_neg,Int.mul_one];omega
  rw[this,Int.add_mul_emod_self_left,Int.emod_eq_of_lt (by omega) (by omega)]
theorem Mu(n:Nat):Ga (GZ n)=GZ n:=by
 unfold GZ;split
 ·rfl
 ·rename_i h;exact Fq [] h
theorem Zw(n:Int)(k:Nat)(hn:-256<n/\n<256)(hk:2<=k)(hk2:k<256)(h:Hp) :
  FnT Tryz.prog 127 #[WD n,WD (k:Int)] h [] (fun r h' ms'=>h.le h'/\ms'=[]/\∃(b:Bool) (l:List UInt8),r=.tuple #[.agg #[.bool b,sv l],WD (n%(k:Int)),.bool true]):=by
 obtain⟨m,hm⟩:∃m,n.natAbs=m:=⟨_,rfl⟩
 have hm2:m<256:=by omega
 have osn:(sv (Ih n.natAbs)).oneCell'=true:=rfl;have osk:(sv (Ih (k:Int).natAbs)).oneCell'=true:=rfl;refine Ao func127 ntmps127 rfl rfl (fun w0 hw0=>?_);simp only[AU];refine As (AS [_,_] rfl rfl (by rfl) rfl rfl rfl (fun g2=>AS [_,_] rfl rfl (by rfl) rfl rfl rfl (fun g3=>CC [.bool false,.string ByteArray.empty] rfl Cv rfl rfl (fun g4=>CC [.bool false,.string ByteArray.empty] rfl Cv rfl rfl (fun g5=>Qm rfl (An (BH 2 rfl fun h1 l1 hS3=>(BH 2 rfl fun h2 l2 hS2=>?_))))))));have gS2:∀ms,Seg h2 ms (⟨g2,0,none⟩:Addr) [.bool (decide (n<0)),sv (Ih n.natAbs)]:=fun ms=>hS2.any;have gS3:∀ms,Seg h2 ms (⟨g3,0,none⟩:Addr) [.bool (decide ((k:Int)<0)),sv (Ih (k:Int).natAbs)]:=fun ms=>(hS3.le l2).any;refine Ac (BF (n:=6) (bs:=[true,false,true,false,false,false]) [true,false,true] CP (by kernel_rfl) (by kernel_rfl) rfl rfl (Qp rfl (oG rfl LU Cv (gS2 _)) (Qp rfl (oG rfl LU Cv (gS3 _)) ?_)));unfold FN;simp only[cons_append,nil_append];refine Qo 1 rfl (Qc call187 rfl (P5 n hn h2) (fun a h3 ms3 l3 hF=>?_));obtain⟨l3',rfl,hA⟩:=hF;rw[hm]at hA;refine Qa (Qo 3 rfl (Qc call187 rfl (P5 (k:Int) (by omega) h3) (fun b h4 ms4 l4 hF=>?_)));obtain⟨l4',rfl,hB⟩:=hF;have l24:=AJ l3' l4';refine Qa (Qo 4 rfl (Qm rfl (Qa (Qo 5 rfl (Qm rfl (Qa (Qe ?_)))))));have hA4:=hA.up l4'
 have hBk:RdL Cn 1 h4 [] b [k]:=by
  have:GZ (k:Int).natAbs=[k]:=by rw[Int.natAbs_natCast];exact if_neg (by omega)
  rw[this]at hB;exact hB
 have rB:Rd h4 [] b 1 1 ([k].flatMap Cn):=hBk.rd;have oa:=hA4.rd.one;have ob:=hBk.rd.one;refine Ab (Ac (As (Qm rfl (Qx (Ar rB.any rfl BY rfl) rfl (Qm rfl (An ?_))))));refine Au rfl (fun hz=>?_) (fun hz=>?_)
 ·exact absurd hz (by decide)
 ·refine Ah (Ab (As (Qm rfl (Qm rfl (Qc call188 rfl (Xy m k hm2 (by omega) hk2 a b h4 hA4 hBk) (fun r h5 ms5 l5 hF=>?_))))));obtain⟨l5',rfl,q,u,rfl,hQ,hU⟩:=hF;have oq:=hQ.rd.one;have ou:=hU.rd.one;have hB5:=hBk.up l5';have l25:=AJ l24 l5';have e2:∀ms,Cell h5 ms ((⟨g2,0,none⟩:Addr).add 0) (.bool (decide (n<0))):=fun ms=>((hS2 0 _ rfl).any).le l25;have e3:∀ms,Cell h5 ms ((⟨g3,0,none⟩:Addr).add 0) (.bool (decide ((k:Int)<0))):=fun ms=>((hS3.le l2) 0 _ rfl).any.le l25;refine Qm rfl (Qm rfl (Qm rfl (Qm rfl (Qm rfl (An ?_)))))
  have hmk:m/k<128:=by have:=Nat.div_le_div_left (a:=m) hk (by omega);omega
  have hmm:m%k<k:=Nat.mod_lt _ (by omega);refine A3 (fun sl h' ms'=>∃(q' u':Value) (Q:Nat),sl=[(2,.pointer (some ⟨g2,0,none⟩)),(3,.pointer (some ⟨g3,0,none⟩)),(4,.pointer (some ⟨g4,0,none⟩)),(5,.pointer (some ⟨g5,0,none⟩)),(9,q'),(10,u')]/\h5.le h'/\ms'=[A7 g5 172 [.bool false,.string ByteArray.empty],A7 g4 172 [.bool false,.string ByteArray.empty]]/\Q<256/\RdL Cn 1 h' [] q' (GZ Q)/\RdL Cn 1 h' [] u' (GZ (n%(k:Int)).toNat)) ?_ (fun s h ms hI=>?_)
  ·refine Ac (Ad (Qf Kp rfl (Ql rfl U4 (e2 _) (Qm rfl ?_))));refine AO (t:=28) rfl (fun hneg=>?_) (fun hneg=>?_)
   ·have hnm:n=-(m:Int):=by omega
    have hnk:=Yt m k (by omega);rw[<-hnm]at hnk;refine Qg (Ay rfl rfl) rfl (Qg (Ar hU.rd.any rfl BY rfl) rfl (Qg (Cc rfl rfl rfl) rfl (Qm rfl (An ?_))));refine Au rfl (fun h3=>?_) (fun h3=>?_)
    ·have h0:m%k≠0:=by intro h0;rw[h0]at h3;exact absurd h3 (by decide)
     rw[if_neg h0]at hnk;have hU1:RdL Cn 1 h5 [] u [m%k]:=by rw[<-Gx h0];exact hU
     refine Ad (Qm rfl (Aq [_] rfl BY Cm rfl (by rfl) rfl rfl (by omega) rfl rfl rfl (fun g34=>BA fun h6 l6 hS1=>?_)));have hR1:RdL Cn 1 h6 [] (.slice (some ⟨g34,0,none⟩) 1 1) [1]:=⟨⟨⟨_,_,rfl,Nat.le_refl _,by decide,rfl,fun _=>⟨_,rfl,hS1⟩⟩⟩,DI⟩
     refine Qc call189 rfl (YU (m/k) (by omega) q _ h6 (hQ.up l6) hR1) (fun x h7 ms7 l7 hF=>?_);obtain⟨l7',rfl,hX⟩:=hF;have ox:=hX.rd.one;refine Qm rfl (Qm rfl (Qc call190 rfl (Yn k (m%k) hmm hk2 b u h7 ((hB5.up l6).up l7') ((hU1.up l6).up l7')) (fun y h8 ms8 l8 hF=>?_)));obtain⟨l8',rfl,hY⟩:=hF;refine Qm rfl (Qm rfl (Aj ?_));exact AA _ ⟨x,y,m/k+1,rfl,AJ l6 (AJ l7' l8'),rfl,by omega,hX.up l8',by rw[hnk,Int.toNat_natCast];exact hY⟩ Qs
    ·have h0:m%k=0:=by refine Classical.byContradiction fun h0=>h3 ?_;rw[Gx h0];simp
     rw[if_pos h0]at hnk;refine Ah ?_;exact AA _ ⟨q,u,m/k,rfl,CY,rfl,by omega,hQ,by rw[hnk,Int.toNat_natCast,<-h0];exact hU⟩ Qs
   ·have hnm:n=(m:Int):=by omega
    have hnk:n%(k:Int)=((m%k:Nat):Int):=by rw[hnm];exact(Int.natCast_emod m k).symm
    refine Qk rfl (Qk rfl (Qk rfl (Qm rfl (An (AQ rfl (Ah ?_))))));exact AA _ ⟨q,u,m/k,rfl,CY,rfl,by omega,hQ,by rw[hnk,Int.toNat_natCast];exact hU⟩ Qs
  ·obtain⟨q',u',Q,rfl,l6,rfl,hQ2,hQ',hU'⟩:=hI;have oq':=hQ'.rd.one;have ou':=hU'.rd.one;have hkp:(0:Int)<(k:Int):=by omega
   have hr0:=Int.emod_nonneg n (Int.ne_of_gt hkp);have hr1:=Int.emod_lt_of_pos n hkp
   have eR:Value.agg #[.bool (false&&decide (Ih (n%(k:Int)).toNat≠[])),sv (Ih (n%(k:Int)).toNat)]=WD (n%(k:Int)):=by
    unfold WD;have h1:(n%(k:Int)).natAbs=(n%(k:Int)).toNat:=by omega
    have h2:decide (n%(k:Int)<0)=false:=decide_eq_false (by omega);rw[h1,h2];rfl
   have hrn:(n%(k:Int)).toNat<256:=by omega
   refine As (Qm rfl (Qf Kp rfl (Ql rfl U4 ((e2 _).le l6) (Qf Kp rfl (Ql rfl U4 ((e3 _).le l6) (Qx (Aap rfl U4 rfl rfl) rfl ?_))))));refine Qc call186 rfl (Nz (GZ Q) _ q' Q hQ2 (Mu Q) _ hQ' (by have:=Km Q;omega)) (fun x1 h7 ms7 l7 hF=>?_);obtain⟨l7',rfl,rfl⟩:=hF;refine Qm rfl ?_;refine Qc call186 rfl (Nz (GZ (n%(k:Int)).toNat) false u' (n%(k:Int)).toNat hrn (Mu _) h7 (hU'.up l7') (by have:=Km (n%(k:Int)).toNat;omega)) (fun x2 h8 ms8 l8 hF=>?_);obtain⟨l8',rfl,rfl⟩:=hF;have os1:(sv (Ih Q)).oneCell'=true:=rfl;have os2:(sv (Ih (n%(k:Int)).toNat)).oneCell'=true:=rfl;refine Sa 1 [_,_] Cv rfl (by simp[osn,osk,oq',ou',os1,os2]) ?_;refine Sa 0 [_,_] Cv rfl (by simp[osn,osk,oq',ou',os1,os2]) ?_;refine Qm rfl (An (Am (CU 1 rfl ?_)));exact VU (vs:=[_,_]) (vs2:=[_,_]) rfl rfl rfl rfl LU rfl Cv rfl rfl ⟨AJ l1 (AJ l2 (AJ l25 (AJ l6 (AJ l7' l8')))),rfl,_,_,by rw[<-eR]⟩
theorem ZK(n:Nat)(hn:n<256)(h:Hp) :
  FnT Tryz.prog 128 #[WD (n:Int)] h [] (fun r h' ms'=>h.le h'/\ms'=[]/\r=.tuple #[.int .i64 n,.bool true]):=by
 have osn:(sv (Ih (n:Int).natAbs)).oneCell'=true:=rfl;refine Ao func128 ntmps128 rfl rfl (fun w0 hw0=>?_);simp only[AU];refine As (AS [_,_] rfl rfl (by rfl) rfl rfl rfl (fun g1=>Qm rfl (Qm rfl (An (Aw fun h2 l2 hS2=>?_)))));have gS2:∀ms,Seg h2 ms (⟨g1,0,none⟩:Addr) [.bool (decide ((n:Int)<0)),sv (Ih (n:Int).natAbs)]:=fun ms=>hS2.any;refine As (Qx (oG rfl LU Cv (gS2 _)) rfl (Qc call187 rfl (P5 (n:Int) (by omega) h2) (fun a h3 ms3 l3 hF=>?_)));obtain⟨l3',rfl,hA⟩:=hF;rw[Int.natAbs_natCast]at hA;obtain⟨W,hW⟩:∃W,GZ n=W:=⟨_,rfl⟩
 have hWl:W.length<=1:=by rw[<-hW];exact Km n
 rw[hW]at hA;have oa:=hA.rd.one;refine Qm rfl (An (Ac (As (Qm rfl (Qx (Ar hA.rd.any rfl BY rfl) rfl (Qm rfl (An ?_)))))));refine Au rfl (fun h1=>?_) (fun h1=>?_)
 ·exact absurd h1 (by omega)
 ·refine Ah (Ab (As (Qm rfl (An (Ac (As (Qm rfl (Qx (Ar hA.rd.any rfl BY rfl) rfl (Qm rfl (An (Ae ?_)))))))))));refine Az (fun q sl h' ms'=>∃(i:Nat),W.length-i=q/\sl=[(1,.pointer (some ⟨g1,0,none⟩)),(4,a),(5,.int .u64 ((if i=0 then 0 else n:Nat):Int)),(13,a),(14,.int .i64 (W.length:Int)),(15,.int .i64 i)]/\h3=h'/\ms'=[]/\i<=W.length) W.length _ ⟨0,rfl,rfl,rfl,rfl,by omega⟩ Qs ?_;rintro q sl h' ms' ⟨i,rfl,rfl,rfl,rfl,hi⟩;refine As (Qm rfl (An (Ac ?_)));refine Au rfl (fun hlt=>?_) (fun hlt=>?_)
  ·have hi0:i=0:=by omega
   subst hi0;have hn0:n≠0:=by rintro rfl;rw[<-hW]at hlt;exact absurd hlt (by decide)
   have hWn:W=[n]:=by rw[<-hW];exact Gx hn0
   subst hWn;have cA:∀ms,Cell h3 ms ((AG a).add (0*1)) (.int .u64 (n:Int)):=fun ms=>(hA.any (ms:=ms)).cell0 (j:=0) (by simp) rfl;have e24:((n*2^0%18446744073709551616:Nat):Int)=(n:Int):=by rw[Nat.pow_zero,Nat.mul_one,Nat.mod_eq_of_lt (by omega)]
   have e25:((0 ||| n:Nat):Int)=(n:Int):=by rw[Nat.zero_or]
   refine Ah (Ab (Ac (Ae (As (Qm rfl (Qx (BS (0) hA.rd.any rfl BY Cm rfl rfl) rfl (Ql rfl FS (cA _) (Qm rfl (Qm rfl (Gh (Qm rfl (Qm rfl (Qm rfl (Qx (oM rfl) rfl (Qx (Sf (n:=0) e24 rfl rfl rfl (by omega)) rfl (Qx (Wr (a:=0) (b:=n) e25 rfl rfl rfl (by omega) (by omega)) rfl (Qm rfl (Aj (Ai (Ab (Ad (Qx (oA rfl) rfl (Qm rfl (Aj ?_))))))))))))))))))))))));exact Ak 0 _ (by simp) ⟨1,rfl,rfl,rfl,rfl,by simp⟩ Qs
  ·have hiW:i=W.length:=by omega
   have em:(if i=0 then 0 else n)=n:=by
    by_cases h0:n=0
    ·subst h0;simp
    ·have:W=[n]:=by rw[<-hW];exact Gx h0
     rw[hiW,this];simp
   rw[em];have e1:∀ms,Cell h3 ms ((⟨g1,0,none⟩:Addr).add 0) (.bool (decide ((n:Int)<0))):=fun ms=>((hS2 0 _ rfl).any).le l3';refine Av (Aa (Aa (Af (Ab (Ac (Ae (As (Qf Kp rfl (Ql rfl U4 (e1 _) (Qm rfl ?_))))))))));refine AO (t:=30) rfl (fun hneg=>?_) (fun hneg=>?_)
   ·exact absurd hneg (by omega)
   ·refine Qk rfl (Qk rfl (Qm rfl (Qm rfl (An (AQ rfl (As (Qm rfl (Qm rfl (Qm rfl (An ?_))))))))));refine Au rfl (fun h5=>?_) (fun h5=>?_)
    ·exact absurd h5 (by omega)
    ·refine Ah (Ai (Ab (As (Qm rfl (Qx (Hz (a:=(n:Int)) rfl FS U3 rfl (Da (by omega))) rfl (Qm rfl (Qm rfl (An (Am ?_)))))))));exact BC rfl rfl rfl (⟨AJ l2 l3',rfl,rfl⟩)
theorem AaL(n:Nat)(hn:n<256)(h:Hp)(ms:List Hp):FnV Tryz.prog 128 #[WD (n:Int)] h ms (.tuple #[.int .i64 n,.bool true]):=F6 ((ZK n hn h).mono fun _ _ _ h=>h.2.2) ms
def Q3(n:Int):List Value:=[.bool (decide (n<0)),sv (Ih n.natAbs)]
theorem YX:∀n,(Q3 n).length=2:=fun _=>rfl
theorem Y1:∀a:Int,∀c∈Q3 a,c.oneCell'=true:=fun a c hc=>by unfold Q3 at hc;simp only[mem_cons,not_mem_nil,or_false]at hc;rcases hc with rfl|rfl<;>rfl
theorem AaQ(n:Int):WD n=.agg (Q3 n).toArray:=rfl
theorem MM{l:List Int}{k n:Nat}(hk:k<n)(hl:l.length=n):(l.take k++replicate (n-k) 0).set k (l[k]'(by omega))=l.take (k+1)++replicate (n-(k+1)) 0:=by
 have h1:(l.take k).length=k:=by rw[length_take];omega
 have h2:replicate (n-k) (0:Int)=0::replicate (n-(k+1)) 0:=by rw[<-List.replicate_succ];congr 1;omega
 rw[List.set_append_right _ _ (by omega),h1,Nat.sub_self,h2,List.set_cons_zero,take_succ_eq_append_getElem (by omega),List.append_assoc];rfl
theorem YP(p:Int)(r c:Nat)(hp:IsP p)(hp2:p<256)(hr:r<=200)(hc:c<=200)(L:List Int)(hL:L.length=r*c)(hb:∀x∈L,-256<x/\x<256)(ev:Value)(h:Hp)(hR:RdL Q3 2 h [] ev L) :
  FnT Tryz.prog 60 #[.int .i64 p,.agg #[.int .i64 r,.int .i64 c,ev]] h [] (fun v h' ms'=>h.le h'/\Y6 v ms' ⟨p,r,c,L.map (· % p)⟩):=by
 have hpb:=hp.1;have hrc:r*c<=40000:=Nat.mul_le_mul hr hc;obtain⟨pn,rfl⟩:=Int.eq_ofNat_of_zero_le (show 0<=p by omega);have oe:=hR.rd.one;refine Ao func60 ntmps60 rfl rfl (fun w0 hw0=>?_);simp only[AU];refine As (AS [_,_,_] rfl rfl (by rfl) rfl rfl rfl (fun g3=>CC [.int .i64 0,.int .i64 0,.int .i64 0,.slice none 0 0] rfl EK rfl rfl (fun g4=>An ?_)))
 -- ms=[A7 g4 (result),A7 g3 (the matrix)]
 refine BH 1 rfl fun h1 l1 hS3=>?_;have hR1:=hR.up l1;have e0:∀ms,Cell h1 ms ((⟨g3,0,none⟩:Addr).add 0) (.int .i64 r):=fun ms=>(hS3 0 _ rfl).any;have e1:∀ms,Cell h1 ms ((⟨g3,0,none⟩:Addr).add 1) (.int .i64 c):=fun ms=>(hS3 1 _ rfl).any;have e2:∀ms,Cell h1 ms ((⟨g3,0,none⟩:Addr).add 2) ev:=fun ms=>(hS3 2 _ rfl).any;refine As (Qm rfl (Qf YY rfl (Ql rfl U3 (e0 _) (Qf YF rfl (Ql rfl U3 (e1 _) ?_)))));refine Qc call125 rfl (Yh (pn:Int) r c h1 ⟨by omega,by omega⟩) (fun z h2 ms2 l2 hF=>?_);obtain⟨rfl,eu,m,rfl,rfl,hO⟩:=hF
 have hZ:mkZ (pn:Int) r c=⟨(pn:Int),r,c,replicate (r*c) 0⟩:=by unfold mkZ;rw[if_pos ⟨hp,by unfold JJ;omega⟩,show((r:Int)*c).toNat=r*c by rw[<-Int.natCast_mul,Int.toNat_natCast]]
 rw[hZ]at hO;simp only[hZ];have ou:=hO.o1;have rE:Rd h1 [] ev 2 (r*c) (L.flatMap Q3):=by have:=hR1.rd;rwa [hL]at this
 have rU:Rd h1 [m] eu 1 (r*c) ((replicate (r*c) (0:Int)).flatMap cI):=by have:=(hO.rd (h:=h1) (ms:=[m]) Mh).rd;rwa [length_replicate]at this
 refine CC [.int .i64 0,.int .i64 0,.int .i64 0,.slice none 0 0] rfl EK rfl rfl (fun g5=>?_);refine Sa 0 [_,_,_,_] EK rfl (by simp[oe,ou]) ?_;refine An (Ac (As (Qf FU rfl (Ql rfl U3 (Cell.blk 0 rfl rfl) (Qm rfl (Qm rfl ?_))))));refine AO (t:=21) rfl (fun h0=>?_) (fun h0=>?_)
 ·exact absurd h0 (by omega)
 ·refine Qg (oF Ke rfl) rfl (Qg (oL rfl L6 (e2 _)) rfl (Qg (Ar rE.any rfl L6 rfl) rfl (Qg (oF Ia rfl) rfl (Qg (oL rfl AY (Cell.blk 0 rfl rfl)) rfl (Qg (FC rU rfl AY rfl) rfl (Qg (EZ rfl rfl rfl) rfl (Qm rfl (An ?_))))))));refine Au rfl (fun hne=>?_) (fun hne=>?_)
  ·exact absurd rfl hne
  ·refine Ah (Ab (Aw fun h2 l2 hS5=>?_));have hR2:=hR1.up l2;have osp:(sv (Ih (pn:Int).natAbs)).oneCell'=true:=rfl;refine As (Qm rfl (Qx (AF rfl call126 rfl (VZ (pn:Int) (by omega) _ _)) rfl (CC [.bool false,.string ByteArray.empty] rfl Cv rfl rfl (fun g6=>?_))));refine Sa 0 [_,_] Cv rfl (by simp[oe,ou,KI]) ?_;refine An (Aw fun h3 l3 hS6=>?_);have l13:=AJ l2 l3;have hR3:=hR1.up l13;have rE3:=rE.le l13;have e2:∀ms,Cell h3 ms ((⟨g3,0,none⟩:Addr).add 2) ev:=fun ms=>(e2 ms).le l13;refine Ac (As (Qf Ke rfl (Ql rfl L6 (e2 _) (Qx (Ar rE3.any rfl L6 rfl) rfl (Qm rfl (An (Ae ?_)))))));refine Az (fun q sl h' ms'=>∃(k:Nat) (mo:Hp),r*c-k=q/\sl=[(4,.pointer (some ⟨g4,0,none⟩)),(5,.pointer (some ⟨g5,0,none⟩)),(6,.pointer (some ⟨g6,0,none⟩)),(34,ev),(35,.int .i64 ((r*c:Nat):Int)),(36,.int .i64 k)]/\h3.le h'/\ms'=[mo,A7 g4 65 [.int .i64 0,.int .i64 0,.int .i64 0,.slice none 0 0]]/\k<=r*c/\OwnL cI 1 3 mo eu ((L.map (· % (pn:Int))).take k++replicate (r*c-k) 0)) (r*c-0) _ ⟨0,_,rfl,rfl,CY,rfl,by omega,by rw[take_zero,nil_append];exact hO⟩ Qs ?_;rintro q sl h' ms' ⟨k,mo,rfl,rfl,lh,rfl,hk,hO⟩;have hR4:=hR3.up lh;have rE4:=rE3.le lh;refine As (Qm rfl (An (Ac ?_)));refine Au rfl (fun hlt=>?_) (fun hlt=>?_)
   ·have hkL:k<L.length:=by omega
    obtain⟨x,hx⟩:∃x,L[k]=x:=⟨_,rfl⟩
    have hxb:=hb x (by rw[<-hx];exact getElem_mem hkL);have gE:∀ms,Seg h' ms ((AG ev).add (k*2)) (Q3 x):=fun ms=>by rw[<-hx];exact(hR4.any (ms:=ms)).seg hkL
    have osx:(sv (Ih x.natAbs)).oneCell'=true:=rfl;refine Ah (Ab (Ac (Ae (As (Qm rfl (Qx (BS (k) rE4.any rfl L6 Cv rfl rfl) rfl (Qx (oG rfl LU Cv (gE _)) rfl (CC [.bool false,.string ByteArray.empty] rfl Cv rfl rfl (fun g8=>Qm rfl ?_)))))))));refine Sa 0 [_,_] Cv rfl (by simp[oe,ou,KI]) ?_;refine An ?_;have gS6:∀ms,Seg h' ms (⟨g6,0,none⟩:Addr) (Q3 (pn:Int)):=fun ms=>(hS6.le lh).any;refine As (Qx (oG rfl LU Cv (Seg.blk 0 rfl)) rfl (Qx (oG rfl LU Cv (gS6 _)) rfl (Qc call127 rfl (Zw x pn hxb (by omega) (by omega) h') (fun z h4 ms4 l4 hF=>?_))));obtain⟨l4',rfl,bq,lq,rfl⟩:=hF;obtain⟨y,hy⟩:∃y:Nat,x%(pn:Int)=y:=⟨(x%(pn:Int)).toNat,by have:=Int.emod_nonneg x (show(pn:Int)≠0 by omega);omega⟩
    have hyp:y<pn:=by have:=Int.emod_lt_of_pos x (show 0<(pn:Int) by omega);omega
    rw[hy,AaQ];refine Qm rfl (Qm rfl (Qm rfl (Qm rfl (CC [.bool false,.string ByteArray.empty] rfl Cv rfl rfl (fun g9=>CC [.bool false,.string ByteArray.empty] rfl Cv rfl rfl (fun g10=>?_))))));refine Sa 1 [_,_] Cv rfl (by simp[oe,ou,KI]) ?_;refine Sa 0 [_,_] Cv rfl (by simp[oe,ou,KI]) ?_;refine Qm rfl (An (Aw fun h5 l5 hS10=>?_));have lh5:=AJ lh (AJ l4' l5);have gS10:∀ms,Seg h5 ms (⟨g10,0,none⟩:Addr) (Q3 (y:Int)):=fun ms=>hS10.any;have e5:∀ms,Cell h5 ms ((⟨g5,0,none⟩:Addr).add 3) eu:=fun ms=>(((hS5.le l3).le lh5) 3 _ rfl).any
    have hln:((L.map (· % (pn:Int))).take k++replicate (r*c-k) 0).length=r*c:=by rw[length_append,length_take,length_map,length_replicate];omega
    refine BF (n:=10) (bs:=[true,true,true,true,true,true,true,true,true,false]) [true,true,true,true,true,true,true,true,true] CP (by kernel_rfl) (by kernel_rfl) rfl rfl (QF Ia rfl (QL rfl AY (e5 _) (Qq rfl (Qp rfl (oG rfl LU Cv (gS10 _)) (Qp rfl (AF rfl call128 rfl (AaL y (by omega) _ _)) (Qq rfl (Qq rfl (Qq rfl (Qp rfl (BG (k) (hO.rd (h:=h5) (ms:=[mo]) Mh).rd rfl AY Be rfl rfl (by omega) (by omega)) ?_)))))))));unfold FN;simp only[cons_append,nil_append];refine Qo 9 rfl ?_;refine Dc 2 k hO rfl Be rfl rfl rfl (by rw[hln];omega) rfl rfl (fun mo' hO'=>?_);refine Qw (Qe ?_);have hset:=MM (l:=L.map (· % (pn:Int))) (k:=k) (n:=r*c) (by omega) (by rw[length_map];exact hL);rw[getElem_map,hx,hy]at hset;rw[hset]at hO';refine Ai (Ab (Ad (Qx (oA rfl) rfl (Qm rfl (Aj ?_)))));refine AN (AN ?_);exact Ak (r*c-(k+1)) _ (by omega) ⟨k+1,mo',rfl,rfl,lh5,rfl,by omega,hO'⟩ Qs
   ·have hkn:k=r*c:=by omega
    have gS5:∀ms,Seg h' ms (⟨g5,0,none⟩:Addr) [.int .i64 pn,.int .i64 r,.int .i64 c,eu]:=fun ms=>((hS5.le l3).le lh).any;refine Av (Aa (Aa (Af (Ab (As (Qx (oG rfl UZ EK (gS5 _)) rfl ?_))))));refine Sa 1 [_,_,_,_] EK rfl (by simp[oe,ou,KI]) ?_;refine An (Am ?_);exact BU (vs:=[_,_,_,_]) 1 rfl rfl UZ rfl EK rfl rfl (⟨AJ l1 (AJ l13 lh),eu,mo,rfl,rfl,by rw[hkn,Nat.sub_self,List.replicate_zero,append_nil,List.take_of_length_le (by rw[length_map];omega)]at hO;exact hO⟩)
def Ux(v:Value)(ms:List Hp)(r c:Nat)(L:List Int):Prop:=∃ev m,ms=[m]/\v=.agg #[.int .i64 r,.int .i64 c,ev]/\OwnL Q3 2 172 m ev L
theorem Wj(r c:Nat)(hr:r<=200)(hc:c<=200)(h:Hp):FnT Tryz.prog 191 #[.int .i64 r,.int .i64 c] h [] (fun v _ _=>v=.bool true):=by
 refine Ao func191 ntmps191 rfl rfl (fun w0 hw0=>?_);simp only[AU];refine As (Qm rfl (Bv (Qm rfl (Qm rfl (Qx (V1 rfl rfl rfl) rfl (Qm rfl (Qm rfl ?_)))))));refine AO (t:=9) rfl (fun h1=>?_) (fun h1=>?_)
 ·refine Qg (Ay rfl rfl) rfl (Qg (Ay rfl rfl) rfl (Qg (GG rfl rfl rfl) rfl (Qg (LA rfl rfl rfl) rfl (Qm rfl (Qm rfl (An (Am ?_)))))));exact Ap rfl rfl (by rw[decide_eq_true];omega)
 ·exact absurd (by omega) h1
theorem O3(r c:Nat)(hr:r<=200)(hc:c<=200)(h:Hp):FnT Tryz.prog 129 #[.int .i64 r,.int .i64 c] h [] (fun v h' ms'=>h=h'/\Ux v ms' r c (replicate (r*c) 0)):=by have hrc:r*c<=40000:=Nat.mul_le_mul hr hc;have hmi:(r:Int)*c=((r*c:Nat):Int):=(Int.natCast_mul r c).symm;refine Ao func129 ntmps129 rfl rfl (fun w0 hw0=>?_);simp only[AU];refine As (CC [.int .i64 0,.int .i64 0,.slice none 0 0] rfl Eb rfl rfl (fun g4=>An (Ac (As (Qm rfl (Qm rfl (Qx (AF rfl call191 rfl (F6 (Wj r c hr hc h) _)) rfl (Qm rfl (An (AQ rfl (Ah (Ab (As (Qm rfl (Qm rfl (Qm rfl (Qm rfl (Qx (oM rfl) rfl (U8 YX (by omega) (0:Int) (n:=r*c) rfl L6 Cv rfl rfl rfl (by omega) (by omega) (by omega) (by omega) rfl rfl rfl (fun g15 ev m hev hO=>?_))))))))))))))))))));subst hev;refine Qx (A0 AaZ [.int .i64 0,.int .i64 0,.slice none 0 0] [(0,_),(1,_),(2,_)] [_,_,_] rfl Eb rfl rfl Qt rfl) rfl ?_;refine Sa 1 [_,_,_] Eb rfl (by simp[Value.oneCell']) ?_;refine An (Am ?_);exact BU (vs:=[_,_,_]) 1 rfl rfl OG rfl Eb rfl rfl (⟨rfl,_,m,rfl,rfl,hO⟩)
def S8(f:Nat->Nat->Int)(k t a b:Nat):Int:=if a<k\/(a=k/\b<t) then f a b else 0
theorem Vb(f:Nat->Nat->Int)(k t:Nat){r c:Nat}:DR r c (Lr (S8 f k t) k t (f k t))=DR r c (S8 f k (t+1)):=by
 refine Ca fun a _ b _=>?_;unfold Lr S8;by_cases h:a=k/\b=t
 ·obtain⟨rfl,rfl⟩:=h;rw[if_pos ⟨rfl,rfl⟩,if_pos (by omega)]
 ·rw[if_neg h];by_cases h2:a<k\/(a=k/\b<t)
  ·rw[if_pos h2,if_pos (by omega)]
  ·rw[if_neg h2,if_neg (by omega)]
theorem XY(f:Nat->Nat->Int)(k:Nat){r c:Nat}:DR r c (S8 f k c)=DR r c (S8 f (k+1) 0):=by
 refine Ca fun a _ b hb=>?_;unfold S8;by_cases h2:a<k\/(a=k/\b<c)
 ·rw[if_pos h2,if_pos (by omega)]
 ·rw[if_neg h2,if_neg (by omega)]
theorem ZY(r c:Nat)(hr0:0<r)(hr:r<=200)(hc:c<=200)(f:Nat->Nat->Int)(hb:∀i,i<r->∀j,j<c->-256<f i j/\f i j<256)(Rs:List Value)(lR:Rs.length=r)(v:Value)(h:Hp)(hv:RdL cU 1 h [] v Rs)(hRs:∀i,i<r->RdL cI 1 h [] (Rs.getD i undef) (G2 c (f i))) :
  FnT Tryz.prog 131 #[v] h [] (fun w h' ms'=>h.le h'/\Ux w ms' r c (DR r c f)):=by
 have hrc:r*c<=40000:=Nat.mul_le_mul hr hc;have ov:=hv.rd.one;have rv:Rd h [] v 1 r (Rs.flatMap cU):=by have:=hv.rd;rwa [lR]at this
 refine Ao func131 ntmps131 rfl rfl (fun w0 hw0=>?_);simp only[AU];refine As (CC [.int .i64 0,.int .i64 0,.slice none 0 0] rfl Eb rfl rfl (fun g2=>Bv (Qm rfl (An (Ac (As (Qm rfl (Qx (Ar rv.any rfl Ck rfl) rfl (Qm rfl (An (Ae ?_)))))))))));refine Az (fun q sl h' ms'=>∃(i:Nat),r-i=q/\sl=[(0,v),(2,.pointer (some ⟨g2,0,none⟩)),(3,.int .i64 ((if i=0 then 0 else c:Nat):Int)),(11,v),(12,.int .i64 (r:Int)),(13,.int .i64 i)]/\h=h'/\ms'=[A7 g2 106 [.int .i64 0,.int .i64 0,.slice none 0 0]]/\i<=r) (r-0) _ ⟨0,rfl,rfl,rfl,rfl,by omega⟩ Qs ?_;rintro q sl h' ms' ⟨i,rfl,rfl,rfl,rfl,hi⟩;refine As (Qm rfl (An (Ac ?_)));refine Au rfl (fun hlt=>?_) (fun hlt=>?_)
 ·have hir:i<r:=by omega
  have hiR:i<Rs.length:=by omega
  obtain⟨ri,hri⟩:∃ri,Rs.getD i undef=ri:=⟨_,rfl⟩
  have hRi:=hRs i hir;rw[hri]at hRi;have cR:∀ms,Cell h ms ((AG v).add (i*1)) ri:=fun ms=>(hv.any (ms:=ms)).cell0 hiR (by rw[<-hri];simp[List.getD,hiR,cU]);have rri:Rd h [] ri 1 c ((G2 c (f i)).flatMap cI):=by have:=hRi.rd;rwa [CI]at this
  have ori:=rri.one;refine Ah (Ab (Ac (Ae (As (Qx (BS (i) rv.any rfl Ck Cw rfl rfl) rfl (Ql rfl AY (cR _) (Qm rfl (Gh (Qm rfl (Qm rfl (Qx (Ar rri.any rfl AY rfl) rfl (Qx (GG rfl rfl rfl) rfl (Qm rfl (Aj (Ai (Ab (Ad (Qx (oA rfl) rfl (Qm rfl (Aj ?_))))))))))))))))))))
  have hmx:max ((if i=0 then 0 else c:Nat):Int) (c:Int)=((if i+1=0 then 0 else c:Nat):Int):=by rw[if_neg (show ¬i+1=0 by omega)];split<;>omega
  rw[hmx];exact Ak (r-(i+1)) _ (by omega) ⟨i+1,rfl,rfl,rfl,rfl,by omega⟩ Qs
 ·have hir:i=r:=by omega
  subst hir;rw[if_neg (by omega)];refine Av (Aa (Aa (Af (Ab (As (Qm rfl (Qx (Ar rv.any rfl Ck rfl) rfl (Qm rfl (Qc call129 rfl (O3 i c hr hc h) (fun z h2 ms2 l2 hF=>?_))))))))));obtain⟨rfl,ev,m,rfl,rfl,hO⟩:=hF;have oe:=hO.o1;have re:Rd h [m] ev 2 (i*c) ((replicate (i*c) (0:Int)).flatMap Q3):=by have:=(hO.rd (h:=h) (ms:=[m]) Mh).rd;rwa [length_replicate]at this
  refine CC [.int .i64 0,.int .i64 0,.slice none 0 0] rfl Eb rfl rfl (fun g6=>?_);refine Sa 0 [_,_,_] Eb rfl (by simp[ov,oe]) ?_;refine An (Aw fun h3 l3 hS6=>?_);have e6:∀ms,Cell h3 ms ((⟨g6,0,none⟩:Addr).add 2) ev:=fun ms=>(hS6 2 _ rfl).any;have gS6:∀ms,Seg h3 ms (⟨g6,0,none⟩:Addr) [.int .i64 i,.int .i64 c,ev]:=fun ms=>hS6.any;refine Ac (As (Qf Ke rfl (Ql rfl L6 (e6 _) (Qx (FC re rfl L6 rfl) rfl (Qm rfl (An ?_))))));refine Au rfl (fun hz=>?_) (fun hz=>?_)
  ·have hz':i*c=0:=by omega
   have hL:replicate (i*c) (0:Int)=DR i c f:=by have h1:=DS i c f;rw[hz']at h1;rw[hz',List.length_eq_zero_iff.1 h1];rfl
   rw[hL]at hO;refine As (Qx (oG rfl OG Eb (gS6 _)) rfl ?_);refine Sa 1 [_,_,_] Eb rfl (by simp[ov,oe]) ?_;refine An (Am (Ag ?_));exact BU (vs:=[_,_,_]) 1 rfl rfl OG rfl Eb rfl rfl (⟨l3,ev,m,rfl,rfl,hO⟩)
  ·refine Ah (Ab ?_);have rv3:=rv.le l3;refine Ac (As (Qm rfl (Qx (Ar rv3.any rfl Ck rfl) rfl (Qm rfl (An (Ae ?_))))))
   refine Az (fun q sl h' ms'=>∃(k:Nat) (mo:Hp),i-k=q/\sl=[(0,v),(2,.pointer (some ⟨g2,0,none⟩)),(3,.int .i64 c),(6,.pointer (some ⟨g6,0,none⟩)),(31,v),(32,.int .i64 i),(33,.int .i64 k)]/\h3.le h'/\ms'=[mo,A7 g2 106 [.int .i64 0,.int .i64 0,.slice none 0 0]]/\k<=i/\OwnL Q3 2 172 mo ev (DR i c (S8 f k 0))) (i-0) _ ⟨0,_,rfl,rfl,CY,rfl,by omega,by
    have:DR i c (S8 f 0 0)=replicate (i*c) 0:=by rw[Yr];refine Ca fun a _ b _=>?_;unfold S8;rw[if_neg (by omega)]
    rw[this];exact hO⟩ Qs ?_
   rintro q sl h' ms' ⟨k,mo,rfl,rfl,lh,rfl,hk,hO⟩;have rv4:=rv3.le lh;refine As (Qm rfl (An (Ac ?_)));refine Au rfl (fun hlt=>?_) (fun hlt=>?_)
   ·have hki:k<i:=by omega
    have hkR:k<Rs.length:=by omega
    obtain⟨rk,hrk⟩:∃rk,Rs.getD k undef=rk:=⟨_,rfl⟩
    have hRk:=hRs k hki;rw[hrk]at hRk;have hRk4:=hRk.up (AJ l3 lh);have cR:∀ms,Cell h' ms ((AG v).add (k*1)) rk:=fun ms=>((hv.any (ms:=ms)).cell0 hkR (by rw[<-hrk];simp[List.getD,hkR,cU])).le (AJ l3 lh);have rrk:Rd h' [] rk 1 c ((G2 c (f k)).flatMap cI):=by have:=hRk4.rd;rwa [CI]at this
    have ork:=rrk.one;refine Ah (Ab (Ac (Ae (As (Qm rfl (Qx (BS (k) rv4.any rfl Ck Cw rfl rfl) rfl (Ql rfl AY (cR _) (Qm rfl (Qm rfl (Bv (Qm rfl (Qx (Ar rrk.any rfl AY rfl) rfl (Qm rfl (An (Ae ?_)))))))))))))));refine Az (fun q sl hh ms'=>∃(t:Nat) (mo:Hp),c-t=q/\sl=[(0,v),(2,.pointer (some ⟨g2,0,none⟩)),(3,.int .i64 c),(6,.pointer (some ⟨g6,0,none⟩)),(31,v),(32,.int .i64 i),(33,.int .i64 k),(7,.int .i64 k),(38,rk),(39,.int .i64 c),(40,.int .i64 t)]/\h'.le hh/\ms'=[mo,A7 g2 106 [.int .i64 0,.int .i64 0,.slice none 0 0]]/\t<=c/\OwnL Q3 2 172 mo ev (DR i c (S8 f k t))) (c-0) _ ⟨0,mo,rfl,rfl,CY,rfl,by omega,hO⟩ Qs ?_;rintro q sl hh ms' ⟨t,mo,rfl,rfl,lhh,rfl,ht,hO⟩;have lhh':=AJ lh lhh;refine As (Qm rfl (An (Ac ?_)));refine Au rfl (fun hlt2=>?_) (fun hlt2=>?_)
    ·have htc:t<c:=by omega
     have htv:t<(G2 c (f k)).length:=by rw[CI];exact htc
     have cX:∀ms,Cell hh ms ((AG rk).add (t*1)) (.int .i64 (f k t)):=fun ms=>((hRk4.any (ms:=ms)).cell0 htv (by simp[G2,cI])).le lhh;have e6:∀ms,Cell hh ms ((⟨g6,0,none⟩:Addr).add 2) ev:=fun ms=>(e6 ms).le lhh';have hix:k*c+t<i*c:=Sy hki htc;have hcast:(k:Int)*c=((k*c:Nat):Int):=(Int.natCast_mul k c).symm;have reo:Rd hh [mo] ev 2 (i*c) ((DR i c (S8 f k t)).flatMap Q3):=by have:=(hO.rd (h:=hh) (ms:=[mo]) Mh).rd;rwa [DS]at this
     refine Ah (Ab (Ac (Ae (As (Qm rfl (Qx (AC (t) (rrk.le lhh).any rfl AY Be rfl rfl (by omega) (by omega)) rfl (Ql rfl U3 (cX _) (Qm rfl (Qm rfl (An (Bc 9 CP (by kernel_rfl) rfl (Wf Ke rfl (Wl rfl L6 (e6 _) (Wm rfl (Wm rfl (AP (oM rfl) rfl rfl (Wm rfl (AP (oA rfl) rfl rfl (Wm rfl (AP (AF rfl call126 rfl (VZ (f k t) (hb k hki t htc) _ _)) rfl rfl (AZ (Qx (BG (k*c+t) reo rfl L6 Cv rfl rfl (by omega) (by omega)) rfl ?_))))))))))))))))))))));refine GN 0 (k*c+t) (f k t) hO rfl Cv rfl rfl rfl (Y1 _) rfl (by rw[DS];exact hix) rfl rfl (fun mo' hO'=>?_);rw[R3 _ htc,Vb]at hO';refine Aj (Ai (Ab (Ad (Qx (oA rfl) rfl (Qm rfl (Aj ?_))))));exact Ak (c-(t+1)) _ (by omega) ⟨t+1,mo',rfl,rfl,lhh,rfl,by omega,hO'⟩ Qs
    ·have htc:t=c:=by omega
     subst htc;rw[XY]at hO;refine Av (Aa (Aa (Af (Ai (Ab (Ad (Qx (oA rfl) rfl (Qm rfl (Aj ?_)))))))));exact Ak (i-(k+1)) _ (by omega) ⟨k+1,mo,rfl,rfl,lhh',rfl,by omega,hO⟩ Qs
   ·have hki:k=i:=by omega
    subst hki;have gS6:∀ms,Seg h' ms (⟨g6,0,none⟩:Addr) [.int .i64 k,.int .i64 c,ev]:=fun ms=>(gS6 ms).le lh;refine Av (Aa (Aa (Af (Ab (As (Qx (oG rfl OG Eb (gS6 _)) rfl ?_))))));refine Sa 1 [_,_,_] Eb rfl (by simp[ov,oe]) ?_;refine An (Am ?_);have hL:DR k c (S8 f k 0)=DR k c f:=Ca fun a ha b _=>by unfold S8;rw[if_pos (.inl ha)]
    rw[hL]at hO;exact BU (vs:=[_,_,_]) 1 rfl rfl OG rfl Eb rfl rfl (⟨AJ l3 lh,ev,mo,rfl,rfl,hO⟩)
theorem KR:∀{U:List Ce},(U.map fun a=>a.c.id).Nodup->∀{x:Ce},x∈U->Bf (Fo U) x.c.id=some x
 | [],_,x,hx=>by cases hx
 | a::U,hn,x,hx=>by
  rw[map_cons,List.nodup_cons]at hn;unfold Bf Fo;rw[map_cons,List.find?_cons];by_cases h:a.c.id=x.c.id
  ·have:a=x:=by
    rcases List.mem_cons.1 hx with e|e
    ·exact e.symm
    ·exact absurd (List.mem_map.2 ⟨x,e,h.symm⟩) hn.1
   subst this;simp
  ·have hx':x∈U:=by
    rcases List.mem_cons.1 hx with e|e
    ·exact absurd (by rw[e]) h
    ·exact e
   have:=KR hn.2 hx';unfold Bf Fo at this;simp only[h];simpa using this
theorem Xj(g:Nat)(U:List Ce)(cf:FuncId)(cs:List Value)(pr:Cl->Bool)(h:Hp)(R:RdT h g U)(hnd:(U.map fun a=>a.c.id).Nodup)(hid:∀a∈U,BD a.c.id)(hn:U.length<=1000000)
  (hc:∀xs w,(callFunc cf xs).run Tryz.prog w=.ok (.enter cf xs) w)
  (hp:∀a∈U,∀h',h.le h'->∀ms,FnV Tryz.prog cf ([]++[Value.agg (cC a).toArray]++cs).toArray h' ms (.bool (pr a.c))) :
  FnT Tryz.prog 80 #[.pointer (some ⟨g,0,none⟩),.func (.func cf) #[] cs.toArray] h [] (fun r h' ms'=>h.le h'/\∃v m,r=.agg #[v]/\ms'=[m]/\OwnL cC 3 52 m v (U.filter fun a=>pr a.c)):=by
 obtain⟨gm,mT,bs,vids,hS,hM,lM,hV,hsd⟩:=R;have ovi:=hV.rd.one;have hVl:(U.map fun a=>a.c.id).length=U.length:=by rw[length_map]
 have rV:Rd h [] vids 1 U.length ((U.map fun a=>a.c.id).flatMap cI):=by have:=hV.rd;rwa [hVl]at this
 have e0:∀ms,Cell h ms ((⟨g,0,none⟩:Addr).add 0) (.map (some gm)):=fun ms=>(hS 0 _ rfl).any;have e1:∀ms,Cell h ms ((⟨g,0,none⟩:Addr).add 1) vids:=fun ms=>(hS 1 _ rfl).any;refine Ao func80 ntmps80 rfl rfl (fun w0 hw0=>?_);simp only[AU];refine As (CC [.slice none 0 0] rfl A6 rfl rfl (fun g4=>Bv (CC [.slice none 0 0] rfl A6 rfl rfl (fun g5=>An (Ac (As (Qm rfl (Qm rfl (Qf Nc rfl (Ql rfl AY (e1 _) (Qx (Ar rV.any rfl AY rfl) rfl (Qm rfl (An (Ae (BB ?_)))))))))))))))
 refine Az (fun q sl h' ms'=>∃(i:Nat) (vo:Value) (mo:Hp),U.length-i=q/\sl=[(0,.pointer (some ⟨g,0,none⟩)),(1,.func (.func cf) #[] cs.toArray),(4,.pointer (some ⟨g4,0,none⟩)),(5,.pointer (some ⟨g5,0,none⟩)),(11,vids),(12,.int .i64 U.length),(13,.int .i64 i)]/\h.le h'/\ms'=[mo,A7 g5 29 [vo],A7 g4 29 [.slice none 0 0]]/\i<=U.length/\OwnL cC 3 52 mo vo ((U.take i).filter fun a=>pr a.c))
  (U.length-0) _ ⟨0,_,Hp.emp,rfl,rfl,CY,rfl,by omega,OwnL.nil B3⟩ Qs ?_
 rintro q sl h' ms' ⟨i,vo,mo,rfl,rfl,lh,rfl,hi,hO⟩;have e0:∀ms,Cell h' ms ((⟨g,0,none⟩:Addr).add 0) (.map (some gm)):=fun ms=>(e0 ms).le lh;have hV4:=hV.up lh;have rV4:=rV.le lh;have ovo:=hO.o1;refine As (Qm rfl (An (Ac ?_)));refine Au rfl (fun hlt=>?_) (fun hlt=>?_)
 ·have hiU:i<U.length:=by omega
  obtain⟨x,hx⟩:∃x,U[i]=x:=⟨_,rfl⟩
  have hxm:x∈U:=by rw[<-hx];exact getElem_mem hiU
  have hxi:=hid x hxm;have oxv:=(hsd x hxm).rd.one;have cI_:∀ms,Cell h' ms ((AG vids).add (i*1)) (.int .i64 x.c.id):=fun ms=>(hV4.any (ms:=ms)).cell0 (j:=i) (by rw[hVl];exact hiU) (by rw[getElem_map,hx];rfl);have hg1:(Bf (Fo U) x.c.id).getD default=x:=by rw[KR hnd hxm];rfl
  refine Ah (Ab ?_);refine A3 (fun sl h'' ms'=>∃(vo':Value) (mo':Hp),sl=[(0,.pointer (some ⟨g,0,none⟩)),(1,.func (.func cf) #[] cs.toArray),(4,.pointer (some ⟨g4,0,none⟩)),(5,.pointer (some ⟨g5,0,none⟩)),(11,vids),(12,.int .i64 U.length),(13,.int .i64 i)]/\h'=h''/\ms'=[mo',A7 g5 29 [vo'],A7 g4 29 [.slice none 0 0]]/\OwnL cC 3 52 mo' vo' ((U.take (i+1)).filter fun a=>pr a.c)) ?_ (fun s h ms hI=>?_)
  ·have htk:U.take (i+1)=U.take i++[x]:=by rw[<-hx];exact take_succ_eq_append_getElem hiU
   rw[htk,filter_append];refine Ae (As (Qx (BS (i) rV4.any rfl AY Be rfl rfl) rfl (Ql rfl U3 (cI_ _) (Qm rfl (Bv (Qm rfl (Qm rfl (Qm rfl (Qf Ey rfl (Ql rfl Gb (e0 _) (Qm rfl (Qx (Cb (V:=vC) (z:=(default:Ce)) (u:=x) x.c.id hg1 Bi hM (AJ lM lh) rfl Gb JS rfl rfl hxi) rfl (Qx (BX rfl rfl hc rfl (hp x hxm h' lh _)) rfl (An ?_))))))))))))));refine Bq rfl (fun hpx=>?_) (fun hpx=>?_)
   ·have hf:[x].filter (fun a=>pr a.c)=[x]:=by simp[hpx]
    rw[hf];have hol:((U.take i).filter fun a=>pr a.c).length<=1000000:=Nat.le_trans (List.length_filter_le _ _) (by rw[length_take];omega);refine BF (n:=12) (bs:=[true,false,true,true,true,true,true,true,false,false,true,false]) [true,false,true,true,true,true,true,true,false,false,true] CP (by kernel_rfl) (by kernel_rfl) rfl rfl (QF B6 rfl (Qq rfl (Qq rfl (QF Ey rfl (QL rfl Gb (e0 _) (Qq rfl (Qp rfl (Cb (V:=vC) (z:=(default:Ce)) (u:=x) x.c.id hg1 Bi hM (AJ lM lh) rfl Gb JS rfl rfl hxi) (QF B6 rfl ?_))))))));unfold FN;simp only[cons_append,nil_append];refine Ba [1,8] (by kernel_rfl) rfl ?_;refine AD rfl ?_ ?_
    ·refine Ql rfl Bs (Cell.blk 1 rfl rfl) (Qw (Qo 8 rfl (Aq [_,_,_] rfl Bs AI rfl (by rfl) rfl rfl (by omega) rfl rfl rfl (fun g33=>Qw (Qo 9 rfl ?_)))));refine Bj 1 hO (RdL.one B3 (x:=x) Mh rfl) rfl Bs AI rfl (by omega) rfl rfl rfl (Df (l:=[x]) (fun y hy=>by rw[List.mem_singleton.1 hy];exact hsd x hxm)) (by simp only[length_singleton];omega) (by simp only[length_singleton];omega) rfl rfl rfl (fun v6 m6 hO6=>?_);have ov6:=hO6.o1;refine Qw (Qo 11 rfl (AK 2 0 rfl JI rfl rfl ov6 rfl rfl (by simp) rfl rfl (Qw (Qe ?_))));refine Ai (AN ?_);exact AA _ ⟨v6,m6,rfl,rfl,rfl,hO6⟩ Qs
    refine AD rfl ?_ ?_
    ·refine Aq [_,_,_] rfl Bs AI rfl (by rfl) rfl rfl (by omega) rfl rfl rfl (fun g33=>Qw (Qo 1 rfl (Ql rfl Bs (Cell.blk 2 rfl rfl) (Qw (Qo 9 rfl ?_)))));refine Bj 1 hO (RdL.one B3 (x:=x) Mh rfl) rfl Bs AI rfl (by omega) rfl rfl rfl (Df (l:=[x]) (fun y hy=>by rw[List.mem_singleton.1 hy];exact hsd x hxm)) (by simp only[length_singleton];omega) (by simp only[length_singleton];omega) rfl rfl rfl (fun v6 m6 hO6=>?_);have ov6:=hO6.o1;refine Qw (Qo 11 rfl (AK 2 0 rfl JI rfl rfl ov6 rfl rfl (by simp) rfl rfl (Qw (Qe ?_))));refine Ai (AN ?_);exact AA _ ⟨v6,m6,rfl,rfl,rfl,hO6⟩ Qs
    exact Bb
   ·have hf:[x].filter (fun a=>pr a.c)=[]:=by simp[hpx]
    rw[hf,append_nil];refine Ah (Ai ?_);exact AA _ ⟨vo,mo,rfl,rfl,rfl,hO⟩ Qs
  ·obtain⟨vo',mo',rfl,rfl,rfl,hO'⟩:=hI;refine Ad (Qx (oA rfl) rfl (Qm rfl (Aj ?_)));exact Ak (U.length-(i+1)) _ (by omega) ⟨i+1,vo',mo',rfl,rfl,lh,rfl,by omega,hO'⟩ Qs
 ·have hiU:i=U.length:=by omega
  subst hiU;rw[take_length]at hO;refine Av (Aa (Aa (Af (Ab (As (Qx (oG rfl Dt A6 (Seg.blk 1 rfl)) rfl ?_))))));refine Sa 2 [_] A6 rfl (by simp[ovi,ovo]) ?_;refine An (Am (CU 1 rfl (AN ?_)));exact BU (vs:=[_]) 1 rfl rfl Dt rfl A6 rfl rfl (⟨lh,vo,mo,rfl,rfl,hO⟩)
theorem WG(g:Nat)(U:List Ce)(cf:FuncId)(cs:List Value)(pr:Cl->Bool)(h:Hp)(R:RdT h g U)(hnd:(U.map fun a=>a.c.id).Nodup)(hid:∀a∈U,BD a.c.id)(hn:U.length<=1000000)
  (hc:∀xs w,(callFunc cf xs).run Tryz.prog w=.ok (.enter cf xs) w)
  (hp:∀a∈U,∀h',h.le h'->∀ms,FnV Tryz.prog cf ([]++[Value.agg (cC a).toArray]++cs).toArray h' ms (.bool (pr a.c))) :
  FnT Tryz.prog 132 #[.pointer (some ⟨g,0,none⟩),.func (.func cf) #[] cs.toArray] h [] (fun r h' ms'=>h.le h'/\∃m,ms'=[m]/\OwnL cI 1 3 m r ((U.filter fun a=>pr a.c).map fun a=>a.c.id)):=by
 refine Ao func132 ntmps132 rfl rfl (fun w0 hw0=>?_);simp only[AU];refine As (Qm rfl (Bv (Qm rfl (An (Ac (As (Qm rfl (Qm rfl (Qc call80 rfl (Xj g U cf cs pr h R hnd hid hn hc hp) (fun r h1 ms1 l1 hF=>?_))))))))));obtain⟨l1',v,m,rfl,rfl,hO⟩:=hF;refine A4 hO fun h2 l2 hQ=>?_;obtain⟨W,hW⟩:∃W,(U.filter fun a=>pr a.c)=W:=⟨_,rfl⟩
 rw[hW]at hQ;have hWl:W.length<=1000000:=by rw[<-hW];exact Nat.le_trans (List.length_filter_le _ _) hn
 have hov:∀x∈W,x.v.oneCell'=true:=fun x hx=>by obtain⟨gm,mT,bs,vids,hS,hM,lM,hV,hsd⟩:=R;rw[<-hW]at hx;exact(hsd x (List.mem_filter.1 hx).1).rd.one
 have ov:=hQ.rd.one;refine Qx (Em rfl Dt rfl Bs rfl rfl rfl) rfl (Qx (Ar hQ.rd.any rfl Bs rfl) rfl (Qm rfl (An (Ae (BB ?_)))))
 refine Az (fun q sl h' ms'=>∃(i:Nat) (vo:Value) (mo:Hp),W.length-i=q/\sl=[(5,vo),(11,v),(12,.int .i64 W.length),(13,.int .i64 i)]/\h2.le h'/\ms'=[mo]/\i<=W.length/\OwnL cI 1 3 mo vo ((W.take i).map fun a=>a.c.id))
  (W.length-0) _ ⟨0,_,Hp.emp,rfl,rfl,CY,rfl,by omega,OwnL.nil AV⟩ Qs ?_
 rintro q sl h' ms' ⟨i,vo,mo,rfl,rfl,lh,rfl,hi,hO⟩;have hQ4:=hQ.up lh;have ovo:=hO.o1;refine As (Qm rfl (An (Ac ?_)));refine Au rfl (fun hlt=>?_) (fun hlt=>?_)
 ·have hiW:i<W.length:=by omega
  obtain⟨x,hx⟩:∃x,W[i]=x:=⟨_,rfl⟩
  have oxv:=hov x (by rw[<-hx];exact getElem_mem hiW);have gX:∀ms,Seg h' ms ((AG v).add (i*3)) (cC x):=fun ms=>by rw[<-hx];exact(hQ4.any (ms:=ms)).seg hiW
  have htk:(W.take (i+1)).map (fun a=>a.c.id)=(W.take i).map (fun a=>a.c.id)++[x.c.id]:=by rw[take_succ_eq_append_getElem hiW,map_append,hx];rfl
  have hol:((W.take i).map fun a=>a.c.id).length<=1000000:=by rw[length_map,length_take];omega
  refine Ah (Ab (Ac (Ae (As (Qx (BS (i) hQ4.rd.any rfl Bs AI rfl rfl) rfl (Qx (oG rfl Fb AI (gX _)) rfl (CC [.int .i64 0,.int .i64 0,.slice none 0 0] rfl AI rfl rfl (fun g7=>?_))))))));refine Sa 0 [_,_,_] AI rfl (by simp[ov,ovo,oxv]) ?_;refine Gh (Qm rfl (Qf Bz rfl (Ql rfl U3 (Cell.blk 0 rfl rfl) (Aq [_] rfl AY Be rfl (by rfl) rfl rfl (by omega) rfl rfl rfl (fun g20=>AM 2 hO (RdL.one AV (x:=x.c.id) Mh rfl) rfl AY Be rfl (by omega) rfl rfl rfl B5 (by simp only[length_singleton];omega) (by simp only[length_singleton];omega) rfl rfl rfl (fun v6 m6 hO6=>?_))))));rw[<-htk]at hO6;have ov6:=hO6.o1;refine Qm rfl (Aj (Ai (Ab (Ad (Qx (oA rfl) rfl (Qm rfl (Aj ?_)))))));refine AN (AN ?_);exact Ak (W.length-(i+1)) _ (by omega) ⟨i+1,v6,m6,rfl,rfl,lh,rfl,by omega,hO6⟩ Qs
 ·have hiW:i=W.length:=by omega
  subst hiW;rw[take_length]at hO;refine Av (Aa (Aa (Af (Ab (As (Qm rfl (Qm rfl (An (Am ?_)))))))));exact Ap rfl rfl (⟨AJ l1' (AJ l2 lh),mo,rfl,by rw[hW];exact hO⟩)
theorem XG(x:Ce)(gd:Nat)(d:Int)(h:Hp)(hD:∀ms,Cell h ms (⟨gd,0,none⟩:Addr) (.int .i64 d))(ox:x.v.oneCell'=true) :
  FnT Tryz.prog 133 #[.agg (cC x).toArray,.pointer (some ⟨gd,0,none⟩)] h [] (fun r _ _=>r=.bool (decide (x.c.dim=d))):=by
 refine Ao func133 ntmps133 rfl rfl (fun w0 hw0=>?_);simp only[AU];refine As (AS [_,_,_] rfl rfl (by rfl) rfl rfl rfl (fun g2=>Qm rfl (An (Aw fun h1 l1 hS=>?_))));have e1:∀ms,Cell h1 ms ((⟨g2,0,none⟩:Addr).add 1) (.int .i64 x.c.dim):=fun ms=>(hS 1 _ rfl).any;have e2:∀ms,Cell h1 ms (⟨gd,0,none⟩:Addr) (.int .i64 d):=fun ms=>(hD ms).le l1;refine As (Qf BM rfl (Ql rfl U3 (e1 _) (Ql rfl U3 (e2 _) (Qm rfl (Qm rfl (An (Am ?_)))))));exact Ap rfl rfl (rfl)
theorem Ny(l:List Ce)(v:Value)(d:Int)(hp:Hp)(hK:RgC l)(hR:RdC hp v l) :
  FnT Tryz.prog 63 #[.agg #[v],.int .i64 d] hp [] (fun r h' ms'=>hp.le h'/\∃m,ms'=[m]/\OwnL cI 1 3 m r (((cn l).filter fun c=>decide (c.dim=d)).map Cl.id)):=by
 have ov:=hR.q.rd.one;refine Ao func63 ntmps63 rfl rfl (fun w0 hw0=>?_);simp only[AU];refine As (AS [_] rfl rfl (by rfl) rfl rfl rfl (fun g2=>AS [_] rfl rfl (by rfl) rfl rfl rfl (fun g3=>Qm rfl (An (BH 1 rfl fun h1 l1 hS2=>(Aw fun h2 l2 hS3=>?_))))));have hR2:=(hR.up l1).up l2;have gS2:∀ms,Seg h2 ms (⟨g2,0,none⟩:Addr) [v]:=fun ms=>(hS2.le l2).any;refine As (Qx (oG rfl Dt A6 (gS2 _)) rfl (Qc call64 rfl (K0 l v h2 hK hR2) (fun r h3 ms3 l3 hF=>?_)));obtain⟨l3',rfl,g,A,rfl,hA,hT⟩:=hF;have hO:=hK.pc.toOfOk;have hAl:A.length=l.length:=by have:=congrArg List.length hA;rwa [length_map,Ej]at this
 have hAid:(A.map fun a=>a.c.id)=(cn l).map Cl.id:=by rw[<-hA,map_map];rfl
 have hnd:(A.map fun a=>a.c.id).Nodup:=by rw[hAid];exact hK.F.rgt.nd
 have hid:∀a∈A,BD a.c.id:=fun a ha=>by
  have h1:a.c∈cn l:=by rw[<-hA];exact List.mem_map.2 ⟨a,ha,rfl⟩
  exact hK.cI h1
 have hov:∀a∈A,a.v.oneCell'=true:=fun a ha=>by obtain⟨gm,mT,bs,vids,hS,hM,lM,hV,hsd⟩:=hT;exact(hsd a ha).rd.one
 have eD:∀h',h3.le h'->∀ms,Cell h' ms (⟨g3,0,none⟩:Addr) (.int .i64 d):=fun h' lh ms=>((hS3 0 _ rfl).any.le l3').le lh;refine Qx (Bk rfl rfl rfl) rfl ?_;refine Qc call132 rfl (WG g A 133 [.pointer (some ⟨g3,0,none⟩)] (fun c=>decide (c.dim=d)) h3 hT hnd hid (by rw[hAl];exact hO.n) call133 (fun a ha h' lh ms=>F6 (XG a g3 d h' (eD h' lh) (hov a ha)) ms)) (fun r h4 ms4 l4 hF=>?_);obtain⟨l4',m,rfl,hOm⟩:=hF
 have e:(A.filter fun a=>decide (a.c.dim=d)).map (fun a=>a.c.id)=((cn l).filter fun c=>decide (c.dim=d)).map Cl.id:=by rw[<-hA,List.filter_map,map_map];rfl
 rw[e]at hOm;refine Qm rfl (An (Am ?_));exact Ap rfl rfl (⟨AJ l1 (AJ l2 (AJ l3' l4')),m,rfl,hOm⟩)
theorem Z3(A:List Ce)(j:Nat)(hj:j<(Fo A).length):(Fo A)[j].2=A[j]'(by unfold Fo at hj;rwa [length_map]at hj):=by simp only[Fo,getElem_map]
def Rm(o:List Cl)(D:Int):Prop:=-1<=D/\(∀c∈o,c.dim<=D)/\(D=-1\/∃c∈o,c.dim=D)
theorem Vr(l:List Ce)(v:Value)(hp:Hp)(hK:RgC l)(hR:RdC hp v l) :
  FnT Tryz.prog 61 #[.agg #[v]] hp [] (fun r h' ms'=>hp.le h'/\ms'=[]/\∃D,r=.int .i64 D/\Rm (cn l) D):=by
 have ov:=hR.q.rd.one;refine Ao func61 ntmps61 rfl rfl (fun w0 hw0=>?_);simp only[AU];refine As (AS [_] rfl rfl (by rfl) rfl rfl rfl (fun g1=>Qm rfl (An (Aw fun h1 l1 hS1=>?_))));have hR1:=hR.up l1;have gS1:∀ms,Seg h1 ms (⟨g1,0,none⟩:Addr) [v]:=fun ms=>hS1.any;refine As (Qm rfl (An (Ac (As (Qx (oG rfl Dt A6 (gS1 _)) rfl (Qc call64 rfl (K0 l v h1 hK hR1) (fun r h3 ms3 l3 hF=>?_)))))));obtain⟨l3',rfl,g,A,rfl,hA,gm,mT,bs,vids,hS,hM,lM,hV,hsd⟩:=hF;have e0:∀ms,Cell h3 ms ((⟨g,0,none⟩:Addr).add 0) (.map (some gm)):=fun ms=>(hS 0 _ rfl).any;have hTl:(Fo A).length=A.length:=by unfold Fo;rw[length_map]
 refine Qm rfl (Qf Ey rfl (Ql rfl Gb (e0 _) (Hv hM lM rfl Gb rfl rfl rfl rfl (fun gi mi0 I0=>An (Ae ?_)))))
 refine Az (fun q sl h' ms'=>∃(vis:List Nat) (mi:Hp) (D:Int),A.length-vis.length=q/\sl=[(3,.int .i64 D),(11,.pointer (some ⟨gi,0,none⟩))]/\h3=h'/\ms'=[mi]/\G8 gi gm mT mi bs vis/\-1<=D/\(∀j (hj:j<A.length),j∈vis->A[j].c.dim<=D)/\(D=-1\/∃a∈A,a.c.dim=D))
  (A.length-0) _ ⟨[],mi0,-1,rfl,rfl,rfl,rfl,I0,by omega,fun j hj h=>(nomatch h),.inl rfl⟩ Qs ?_
 rintro q sl h' ms' ⟨vis,mi,D,rfl,rfl,rfl,rfl,I,hD1,hDv,hDe⟩;refine As ?_;refine Iv 0 hM I lM rfl rfl rfl rfl rfl rfl (fun B7=>?_) (fun j hj mi' hjv I'=>?_)
 ·refine Qm rfl (An (Ac (AQ rfl (Av (Aa (Aa (Af (Ab (As (Qm rfl (Qm rfl (An (Am (AN ?_))))))))))))));exact Ap rfl rfl (⟨AJ l1 l3',rfl,D,rfl,hD1,fun c hc=>by rw[<-hA]at hc;obtain⟨a,ha,rfl⟩:=List.mem_map.1 hc;obtain⟨j,hj,rfl⟩:=List.mem_iff_getElem.1 ha;exact hDv j hj (B7 j (by rw[hTl];exact hj)),by rcases hDe with h|⟨a,ha,h⟩;exact .inl h;exact .inr ⟨a.c,by rw[<-hA];exact List.mem_map.2 ⟨a,ha,rfl⟩,h⟩⟩)
 ·have hjA:j<A.length:=by omega
  have hTj:(Fo A)[j].2=A[j]:=Z3 A j hj;obtain⟨x,hx⟩:∃x,A[j]=x:=⟨_,rfl⟩
  have hxm:x∈A:=by rw[<-hx];exact getElem_mem hjA
  have oxv:=(hsd x hxm).rd.one;refine Qm rfl (An (Ac (Bn rfl (Ah (Ab (Ae (As (Qx (HH hM I' lM (by simp) hj rfl rfl) rfl ?_))))))));rw[hTj,hx];refine Qm rfl (CC [.int .i64 0,.int .i64 0,.slice none 0 0] rfl AI rfl rfl (fun g5=>?_));refine Sa 0 [_,_,_] AI rfl (by simp[ov,oxv]) ?_;refine Gh (Qm rfl (Qf BM rfl (Ql rfl U3 (Cell.blk 0 rfl rfl) (Qx (GG rfl rfl rfl) rfl (Qm rfl (Aj (Ai (AN ?_))))))));refine Ak (A.length-(vis.length+1)) _ ?_ ⟨vis++[j],mi',max D x.c.dim,by simp,rfl,rfl,rfl,I',by omega,fun i hi' hv=>?_,?_⟩ Qs
  ·have hlt:vis.length<(Fo A).length:=by
    have h1:=Go.Kuhn.nodup_le (vis++[j]) (range (Fo A).length) I'.nodup fun x hx=>by rw[List.mem_range,<-hM.len];exact I'.lt x hx
    simp at h1;omega
   omega
  ·rcases List.mem_append.1 hv with hv|hv
   ·have:=hDv i hi' hv;omega
   ·simp at hv;subst hv;rw[hx];omega
  ·rcases (by omega:max D x.c.dim=D\/max D x.c.dim=x.c.dim) with e|e
   ·rw[e];exact hDe
   ·rw[e];exact .inr ⟨x,hxm,rfl⟩
open Go.Sort Go.Srt
def Fv(T:List (Int×Bool))(j:Nat):Int:=(T.getD j (0,false)).1
theorem OJ{T:List (Int×Bool)}{j:Nat}(hj:j<T.length):T[j].1=Fv T j:=by unfold Fv;simp[List.getD,hj]
theorem Th(T:List (Int×Bool)):(range T.length).map (Fv T)=T.map Prod.fst:=by
 refine List.ext_getElem (by simp) fun i h1 h2=>?_;have hi:i<T.length:=by simpa using h1
 simp[<-OJ hi]
def Abd(T:List (Int×Bool))(vis:List Nat)(vs:List Value)(vis':List Nat):Prop:=∃(j:Nat) (hj:j<T.length),j ∉ vis/\vs=[kN (Fv T j)]/\vis'=vis++[j]
theorem U0(g1 gT:Nat)(m:Hp)(T:List (Int×Bool))(bs:List Nat)(h:Hp)(hG:Seg h [] ⟨g1,0,none⟩ [.map (some gT)])(O:Ci kN vB gT BD m T bs)(hm:m.le h) :
  AaK Tryz.prog 210 [.pointer (some ⟨g1,0,none⟩)] h (Abd T) [] (fun vis=>vis.Perm (range T.length)):=by
 intro lp X h1 ms hl hY h0;show FnT _ _ #[.func (.yield lp) #[] #[],.pointer (some ⟨g1,0,none⟩)] _ _ _;have hG:=hG.le hl;have hm:=AJ hm hl;refine Ao func210 ntmps210 rfl rfl (fun w0 hw0=>?_);simp only[AU];refine As (Ql rfl PK ((hG.at0 rfl).any) (Hv O hm rfl PK rfl rfl rfl rfl (fun gi mi I0=>An (Ae ?_))))
 refine Az (fun q s hh ms'=>∃(vis:List Nat) (mi:Hp) (ms0:List Hp),q=T.length-vis.length/\s=[(0,.func (.yield lp) #[] #[]),(5,.pointer (some ⟨gi,0,none⟩))]/\h1.le hh/\ms'=mi::ms0/\G8 gi gT m mi bs vis/\X vis hh ms0)
  (T.length-0) _ ⟨[],mi,ms,rfl,rfl,CY,rfl,I0,h0⟩ Qs ?_
 rintro q s hh ms' ⟨vis,mi,ms0,rfl,rfl,lh,rfl,I,hX⟩;have hm:=AJ hm lh;refine As ?_;refine Iv 0 O I hm rfl rfl rfl rfl rfl rfl (fun B7=>?_) (fun j hj mi' hjv I'=>?_)
 ·refine Qm rfl (An (Ac (AQ rfl (Av (Aa (Aa (Af (AN ?_))))))));exact BT rfl (⟨vis,(List.perm_ext_iff_of_nodup I.nodup List.nodup_range).2 fun j=>⟨fun hj=>List.mem_range.2 (by have:=I.lt j hj;rw[O.len]at this;exact this),fun hj=>B7 j (List.mem_range.1 hj)⟩,hX⟩)
 ·refine Qm rfl (An (Ac ?_))
  have hlen:(vis++[j]).length<=T.length:=by have:=I'.nodup.length_le_of_subset (l₂:=range T.length) fun x hx=>List.mem_range.2 (by have:=I'.lt x hx;rw[O.len]at this;exact this);simpa using this
  rw[length_append,length_singleton]at hlen;refine Bn rfl (Ah (Ab (Ae (As (Qx (HH O I' hm Mh hj rfl rfl) rfl (Qm rfl (Qm rfl (An ?_))))))));rw[OJ hj];refine Ac (C4 (Dh (Ay rfl rfl) rfl rfl rfl (Dh (Ay rfl rfl) rfl rfl rfl (TZ (pre:=ms0) (fr:=[mi']) (List.perm_append_comm (l₁:=[mi'])) rfl rfl rfl (hY vis [kN (Fv T j)] (vis++[j]) hh ms0 ⟨j,hj,hjv,rfl,rfl⟩ lh hX) rfl rfl rfl (fun r h2 ms2 l2 hr=>?_)))));obtain⟨rfl,hX2⟩:=hr;refine Dh (Es rfl rfl) rfl rfl rfl (Fh (Ab (AQ rfl (Ah (Ai (Hs (List.perm_append_comm (l₂:=[mi'])) ?_))))));exact Ak (T.length-(vis++[j]).length) _ (by rw[length_append,length_singleton];omega) ⟨vis++[j],mi',ms2,rfl,rfl,AJ lh l2,rfl,I',hX2⟩ Qs
theorem Aan(v:Option Nat)(h:Hp):FnT Tryz.prog 175 #[.map v] h [] (fun r h' ms'=>h=h'/\∃g,r=.func (.func 210) #[] #[.pointer (some ⟨g,0,none⟩)]/\ms'=[A7 g 49 [.map v]]):=by refine Ao func175 ntmps175 rfl rfl (fun w0 hw0=>?_);simp only[AU];refine As (AS [_] rfl rfl (by rfl) rfl rfl rfl (fun g1=>Qm rfl (Bv (Qx (Bk rfl rfl rfl) rfl (Qm rfl (An (Am ?_)))))));exact Ap rfl rfl (⟨rfl,_,rfl,rfl⟩)
theorem Nk(g1 gT:Nat)(m:Hp)(T:List (Int×Bool))(bs:List Nat)(h:Hp)(hG:Seg h [] ⟨g1,0,none⟩ [.map (some gT)])(O:Ci kN vB gT BD m T bs)(hm:m.le h)(hT:T.length<=1000000) :
  FnT Tryz.prog 259 #[.slice none 0 0,.func (.func 210) #[] #[.pointer (some ⟨g1,0,none⟩)]] h [] (fun r h' ms'=>h.le h'/\∃(vis:List Nat) (mo:Hp),ms'=[mo]/\vis.Perm (range T.length)/\OwnL cI 1 3 mo r (vis.map (Fv T))):=by
 have hI:=U0 g1 gT m T bs h hG O hm;refine Jk func259 ntmps259 rfl rfl (fun w0 hw0=>?_);simp only[AU];refine As (AS [_] rfl rfl (by rfl) rfl rfl rfl (fun g2=>Qm rfl (An (Ac (As (Qm rfl (An (Ae (BB (XO ?_))))))))));refine L8 (R:=Abd T) (fun(vis:List Nat) hh ms=>vis.Nodup/\(∀x∈vis,x<T.length)/\∃v mo,ms=[A7 g2 22 [v],mo]/\OwnL cI 1 3 mo v (vis.map (Fv T))) (fun(vis:List Nat) vs vis' s1 hh ms=>vis.Nodup/\(∀x∈vis,x<T.length)/\∃v mo j,j<T.length/\j ∉ vis/\vis'=vis++[j]/\s1=[(2,.pointer (some ⟨g2,0,none⟩)),(5,.int .i64 (Fv T j))]/\ms=[A7 g2 22 [v],mo]/\OwnL cI 1 3 mo v (vis.map (Fv T))) rfl call210 hI ?_ rfl ?_ ?_ ?_ ?_
 ·rintro k vs k' ⟨j,hj,_,rfl,_⟩;rfl
 ·exact⟨List.Pairwise.nil,by simp,_,_,rfl,OwnL.nil AV⟩
 ·rintro w1 vis vs vis' hh ms1 ⟨j,hj,hjv,rfl,rfl⟩ lh ⟨hn,hlt,v,mo,rfl,hO⟩;rw[show kN (Fv T j)=.int .i64 (Fv T j) from rfl];refine Do (by kernel_rfl) (Qm rfl (Aj ?_));exact AA _ ⟨hn,hlt,v,mo,j,hj,hjv,rfl,rfl,rfl,hO⟩ Qs
 ·rintro w1 vis vs vis' s1 hh ms1 hR lh ⟨hn,hlt,v,mo,j,hj,hjv,rfl,rfl,rfl,hO⟩;have hn':(vis++[j]).Nodup:=List.nodup_append.2 ⟨hn,by simp,fun a ha b hb e=>by simp at hb;subst hb;subst e;exact hjv ha⟩
  have hlt':∀x∈vis++[j],x<T.length:=fun x hx=>by
   rcases List.mem_append.1 hx with h1|h1
   ·exact hlt x h1
   ·simp at h1;omega
  have hlen:(vis.map (Fv T)).length<=1000000:=by have:=hn.length_le_of_subset (l₂:=range T.length) fun x hx=>List.mem_range.2 (hlt x hx);simp at this ⊢;omega
  have ov:=hO.o1;refine KK (Do (by kernel_rfl) (Ql rfl AY (Cell.blk0 0 rfl rfl) (Qm rfl (Aq [_] rfl AY Be rfl (by rfl) rfl rfl (by omega) rfl rfl rfl (fun g10=>AM 2 hO (RdL.one AV (x:=Fv T j) Mh rfl) rfl AY Be rfl (by omega) rfl rfl rfl B5 (by simp only[length_singleton];omega) (by simp only[length_singleton];omega) rfl rfl rfl (fun v2 mo2 hO2=>?_))))));have ov2:=hO2.o1;refine AK 1 0 rfl Cw rfl rfl (by assumption) rfl rfl (by(simp;done)) rfl rfl ?_;refine Aj (Ai (AN ?_));refine AA [] ⟨hn',hlt',v2,mo2,rfl,?_⟩ trivial;rw[map_append];exact hO2
 ·intro D vis hh ms1 hfin lh ⟨hn,hlt,v,mo,e,hO⟩;subst e;have ov:=hO.o1;refine Ai (Ab (As (Ql rfl AY (Cell.blk0 0 rfl rfl) (Qm rfl (An (Am (AN (I4 1 (.inr rfl) rfl ?_))))))));exact Ap rfl rfl (⟨lh,vis,mo,rfl,hfin,hO⟩)
theorem PT(g1 gT:Nat)(m:Hp)(T:List (Int×Bool))(bs:List Nat)(h:Hp)(hG:Seg h [] ⟨g1,0,none⟩ [.map (some gT)])(O:Ci kN vB gT BD m T bs)(hm:m.le h)(hT:T.length<=1000000) :
  FnT Tryz.prog 209 #[.func (.func 210) #[] #[.pointer (some ⟨g1,0,none⟩)]] h [] (fun r h' ms'=>h.le h'/\∃(vis:List Nat) (mo:Hp),ms'=[mo]/\vis.Perm (range T.length)/\OwnL cI 1 3 mo r (vis.map (Fv T))):=by
 refine Ao func209 ntmps209 rfl rfl (fun w0 hw0=>?_);simp only[AU];refine As (Qm rfl (Bv (Qm rfl (Qc call259 rfl (Nk g1 gT m T bs h hG O hm hT) (fun x h2 ms2 l2 hF=>?_)))));obtain⟨l2',vis,mo,rfl,hp,hO⟩:=hF;have ov:=hO.o1;refine Qm rfl (An (Am ?_));exact Ap rfl rfl (⟨l2,vis,mo,rfl,hp,hO⟩)
theorem Tu(g1 gT:Nat)(m:Hp)(T:List (Int×Bool))(bs:List Nat)(h:Hp)(hG:Seg h [] ⟨g1,0,none⟩ [.map (some gT)])(O:Ci kN vB gT BD m T bs)(hm:m.le h)(hT:T.length<=1000000) :
  FnT Tryz.prog 174 #[.func (.func 210) #[] #[.pointer (some ⟨g1,0,none⟩)]] h [] (fun r h' ms'=>h.le h'/\∃(ks:List Int) (mo:Hp),ms'=[mo]/\OwnL cI 1 3 mo r ks/\ks.Perm (DB T)/\ks.Pairwise (·<=·)):=by
 refine Ao func174 ntmps174 rfl rfl (fun w0 hw0=>?_);simp only[AU];refine As (Qm rfl (Bv (Qm rfl (Qc call209 rfl (PT g1 gT m T bs h hG O hm hT) (fun x h2 ms2 l2 hF=>?_)))));obtain⟨l2',vis,mo,rfl,hp,hO⟩:=hF;have hlen:(vis.map (Fv T)).length<=1000000:=by rw[length_map,hp.length_eq,length_range];exact hT
 refine Qm rfl (Bv (Qm rfl (A8 (pre:=[mo]) rfl call158 rfl (Ni _ x mo hO (by omega) h2) rfl rfl rfl rfl (fun y h3 ms3 l3 hF=>?_))));obtain⟨rfl,mo2,rfl,hO2⟩:=hF;have ov:=hO2.o1;refine Bv (Qm rfl (Qm rfl (An (Am ?_))));exact Ap rfl rfl (⟨l2,_,mo2,rfl,hO2,(Dn _).trans (by show List.Perm _ (T.map Prod.fst);rw[<-Th];exact hp.map _),Gu _⟩)
def ZS(ids:List Int)(T:List (Int×Bool)):Nat:=(ids.filter fun c=>decide (c ∉ DB T)).length
theorem HE:∀(l l':List Int),l.Nodup->(∀x∈l,x∈l')->l.length<=l'.length:=fun l l' h hs=>h.length_le_of_subset hs
theorem VQ{ids:List Int}(hn:ids.Nodup){T T':List (Int×Bool)}(h:∀x∈DB T,x∈DB T'):ZS ids T'<=ZS ids T:=by refine HE _ _ (List.Pairwise.filter _ hn) fun x hx=>?_;obtain⟨h1,h2⟩:=List.mem_filter.1 hx;exact List.mem_filter.2 ⟨h1,decide_eq_true fun q=>of_decide_eq_true h2 (h _ q)⟩
theorem ZM{ids:List Int}(hnd:ids.Nodup){T:List (Int×Bool)}{i:Int}(hi:i∈ids)(hn:i ∉ DB T)(b:Bool):ZS ids (CQ T i b)+1<=ZS ids T:=by
 have h1:(i::ids.filter fun c=>decide (c ∉ DB (CQ T i b))).Nodup:=by refine List.nodup_cons.2 ⟨fun q=>?_,List.Pairwise.filter _ hnd⟩;have:=of_decide_eq_true (List.mem_filter.1 q).2;exact this ((DN T _ _ _).2 (.inl rfl))
 have h2:=HE _ (ids.filter fun c=>decide (c ∉ DB T)) h1 fun x hx=>by
  rcases List.mem_cons.1 hx with rfl|hx
  ·exact List.mem_filter.2 ⟨hi,decide_eq_true hn⟩
  ·obtain⟨h3,h4⟩:=List.mem_filter.1 hx;exact List.mem_filter.2 ⟨h3,decide_eq_true fun q=>of_decide_eq_true h4 ((DN T _ _ _).2 (.inr q))⟩
 unfold ZS;rw[List.length_cons]at h2;exact h2
def R0(o:List Cl)(c:Int):List Int:=(Gn o c).sd.map Prod.fst
structure ZR(o:List Cl)(T T':List (Int×Bool))(i:Int):Prop where
 sub:∀x∈DB T,x∈DB T'
 me:(J7 o i).isSome=true->i∈DB T'
 new:∀x∈DB T',x ∉ DB T->Rch (R0 o) i x/\(∀k∈R0 o x,(J7 o k).isSome=true->k∈DB T')/\x∈o.map Cl.id
structure CloE(h:Hp)(gS g2 g5 g6 gt:Nat)(U:List Ce):Prop where
 t:∀ms,Cell h ms (⟨g2,0,none⟩:Addr) (.pointer (some ⟨gt,0,none⟩))
 s:∀ms,Cell h ms (⟨g5,0,none⟩:Addr) (.map (some gS))
 f:∀ms,Cell h ms (⟨g6,0,none⟩:Addr) (.func (.func 144) #[] #[.pointer (some ⟨g2,0,none⟩),.pointer (some ⟨g5,0,none⟩),.pointer (some ⟨g6,0,none⟩)])
 m:RdT h gt U
 n:∀y∈U,y.c.sd.length<=1000000
 i:∀y∈U,∀s∈y.c.sd,BD s.1
theorem CloE.up{h h':Hp}{gS g2 g5 g6 gt:Nat}{U:List Ce}(E:CloE h gS g2 g5 g6 gt U)(l:h.le h'):CloE h' gS g2 g5 g6 gt U:=
 ⟨fun ms=>(E.t ms).le l,fun ms=>(E.s ms).le l,fun ms=>(E.f ms).le l,E.m.up l,E.n,E.i⟩
theorem Xb{U:List Ce}{c:Int}{P:List (Int×Int)->Prop}(h0:P [])(h:∀y∈U,P y.c.sd):P (Gn (U.map Ce.c) c).sd:=by
 unfold Gn J7;cases hc:(U.map Ce.c).find? fun y=>decide (y.id=c) with
 | none=>exact h0
 | some y=>
  obtain⟨a,ha,rfl⟩:=List.mem_map.1 (List.mem_of_find?_eq_some hc);exact h a ha
theorem W4{o:List Cl}{c:Int}(h:(J7 o c).isSome=true):c∈o.map Cl.id:=by obtain⟨y,hy⟩:=Option.isSome_iff_exists.1 h;unfold J7 at hy;have h1:=List.mem_of_find?_eq_some hy;have h2:=List.find?_some hy;exact List.mem_map.2 ⟨y,h1,of_decide_eq_true h2⟩
theorem TN(U:List Ce)(gS ga gb gc gt:Nat)(hnd:((U.map Ce.c).map Cl.id).Nodup):∀(fu:Nat) (c:Int) (T:List (Int×Bool)) (bs:List Nat) (mS h:Hp),CloE h gS ga gb gc gt U->BD c->Ci kN vB gS BD mS T bs->J9 T->ZS ((U.map Ce.c).map Cl.id) T<fu->FnT Tryz.prog 144 #[.int .i64 c,.pointer (some ⟨ga,0,none⟩),.pointer (some ⟨gb,0,none⟩),.pointer (some ⟨gc,0,none⟩)] h [mS] (fun _ h' ms'=>h.le h'/\∃mS' T' bs',ms'=[mS']/\Ci kN vB gS BD mS' T' bs'/\J9 T'/\ZR (U.map Ce.c) T T' c):=by
 intro fu
 induction fu with
 | zero=>
  intro c T bs mS h E hc hO hA hF;omega
 | succ fu ih=>
  intro c T bs mS h E hc hO hA hF;obtain⟨gm,mMt,bst,vids,hSg,hMt,lmt,hVt,hsU⟩:=E.m;have eT:∀ms,Cell h ms (⟨gt,0,none⟩:Addr) (.map (some gm)):=fun ms=>Seg.all hSg 0 _ rfl ms;have e2:=E.t;have e5:=E.s;obtain⟨y,hy⟩:∃y,(Bf (Fo U) c).getD default=y:=⟨_,rfl⟩
  obtain⟨bb,hbb⟩:∃bb,(Bf (Fo U) c).isSome=bb:=⟨_,rfl⟩
  have hyR:=MZ hsU c;rw[hy]at hyR;have hbb':(J7 (U.map Ce.c) c).isSome=bb:=by rw[<-K7];exact hbb
  have hyc:y.c=Gn (U.map Ce.c) c:=by rw[<-Ht,hy]
  have oy:=hyR.rd.one;have hyn:y.c.sd.length<=1000000:=by rw[hyc];exact Xb (P:=fun l=>l.length<=1000000) (by simp) E.n
  have hyi:∀s∈y.c.sd,BD s.1:=by rw[hyc];exact Xb (P:=fun l=>∀s∈l,BD s.1) (fun s hs=>nomatch hs) E.i
  have hJ:R0 (U.map Ce.c) c=y.c.sd.map Prod.fst:=by unfold R0;rw[hyc]
  refine Ao func144 ntmps144 rfl rfl (fun w0 hw0=>?_);simp only[AU];refine As (Ql rfl AbI (e2 _) (Qm rfl (Qf Ey rfl (Ql rfl Gb (eT _) (Qm rfl (Qx (D8 (V:=vC) (z:=(default:Ce)) c hy hbb Bi hMt lmt rfl Gb JS rfl rfl hc) rfl (Qm rfl (Qm rfl (Qm rfl (CC [.int .i64 0,.int .i64 0,.slice none 0 0] rfl AI rfl rfl (fun g5=>?_)))))))))));refine Sa 0 [_,_,_] AI rfl (by simp[oy]) ?_;refine Qm rfl (An ?_);rcases Bool.eq_false_or_eq_true bb with rfl|rfl
  ·refine Aw fun h1 l1 hS5=>?_;have E:=E.up l1;have e5:=E.s;have e6:=E.f;have e52:∀ms,Cell h1 ms (⟨g5,2,none⟩:Addr) y.v:=fun ms=>Seg.all hS5 2 _ rfl ms;refine Ac (As (Qm rfl (Qm rfl (Qm rfl (Qg (oL rfl PK (e5 _)) rfl (Qg (Ay rfl rfl) rfl (Qg (F3 (V:=vB) (z:=false) c Bi hO (by simp) rfl PK Sw rfl rfl hc) rfl ?_)))))));rw[Ja hA];refine Qm rfl (An ?_);refine Bq rfl (fun hin=>?_) (fun hin=>?_)
   ·have him:c∈DB T:=of_decide_eq_true hin;refine Am (Ag ?_);exact ED rfl (⟨l1,mS,T,bs,rfl,hO,hA,fun x hx=>hx,fun _=>him,fun x h1 h2=>absurd h1 h2⟩)
   ·have hni:c ∉ DB T:=fun q=>by rw[decide_eq_true q]at hin;cases hin
    have hyR:=hyR.up l1;have hcm:=W4 hbb';refine Ah (Ab (As (Ql rfl PK (e5 _) (Qm rfl (BJ (V:=vB) (z:=undef) 0 c true Bi hO rfl rfl PK rfl rfl rfl hc rfl rfl (fun mS1 FB hO1=>?_))))));have hA1:=Lc hA c;have hU1:=ZM hnd hcm hni true;obtain⟨T1,hT1⟩:∃T1,CQ T c true=T1:=⟨_,rfl⟩
    have hk1:∀x,x∈DB T1<->x=c\/x∈DB T:=fun x=>by rw[<-hT1];exact DN T _ _ x
    rw[hT1]at hO1 hA1 hU1;refine Bv (Qf Bu rfl (Ql rfl BL (e52 _) (Qx (Ar hyR.rd.any rfl BL rfl) rfl (Qm rfl (An (Ae ?_))))))
    refine Az (fun q s h' ms'=>∃(t:Nat) (Tt:List (Int×Bool)) (bt:List Nat) (mt:Hp),q=y.c.sd.length-t/\s=[(3,.pointer (some ⟨gc,0,none⟩)),(28,y.v),(29,.int .i64 y.c.sd.length),(30,.int .i64 t)]/\h1.le h'/\ms'=[mt]/\t<=y.c.sd.length/\Ci kN vB gS BD mt Tt bt/\J9 Tt/\(∀x∈DB T1,x∈DB Tt)/\(∀x∈DB Tt,x ∉ DB T1->Rch (R0 (U.map Ce.c)) c x/\(∀k∈R0 (U.map Ce.c) x,(J7 (U.map Ce.c) k).isSome=true->k∈DB Tt)/\x∈(U.map Ce.c).map Cl.id)/\∀j (hj:j<y.c.sd.length),j<t->(J7 (U.map Ce.c) y.c.sd[j].1).isSome=true->y.c.sd[j].1∈DB Tt)
     (y.c.sd.length-0) _ ⟨0,T1,FB,mS1,rfl,rfl,CY,rfl,by omega,hO1,hA1,fun x hx=>hx,fun x h1 h2=>absurd h1 h2,fun j hj h=>by omega⟩ Qs ?_
    rintro q s h2 ms' ⟨t,Tt,bt,mt,rfl,rfl,l2,rfl,htl,hOt,hAt,hsub,hnew,hdone⟩;have hyR:=hyR.up l2;have E:=E.up l2;refine As (Qm rfl (An (Ac ?_)));refine Au rfl (fun hlt=>?_) (fun hlt=>?_)
    ·have htl:t<y.c.sd.length:=by omega
     obtain⟨s,hs⟩:∃s,y.c.sd[t]=s:=⟨_,rfl⟩
     have hsm:s∈y.c.sd:=by rw[<-hs];exact getElem_mem htl
     have hsI:=hyi s hsm;have hss:∀ms,Seg h2 ms ((AG y.v).add (t*2)) (cD s):=fun ms=>by rw[<-hs];exact(hyR.any (ms:=ms)).seg htl
     refine Ah (Ab (Ac (Ae (As (Qx (BS (t) hyR.rd.any rfl BL AH rfl rfl) rfl (Qx (oG rfl DJ AH (hss _)) rfl (CC [.int .i64 0,.int .i64 0] rfl AH rfl rfl (fun g8=>?_))))))));refine Sa 0 [_,_] AH rfl (by simp[Value.oneCell']) ?_;refine An (Aw fun h3 l3 hS8=>?_);have e80:∀ms,Cell h3 ms (⟨g8,0,none⟩:Addr) (.int .i64 s.1):=fun ms=>Seg.all hS8 0 _ rfl ms;have E:=E.up l3;have e6:=E.f;refine Ad (Ql rfl XZ (e6 _) (Qf B4 rfl (Ql rfl U3 (e80 _) ?_)));refine DC (pre:=[mt]) rfl rfl call144 rfl (ih s.1 Tt bt mt h3 E hsI hOt hAt (by have:=VQ hnd hsub;omega)) rfl rfl rfl rfl (fun v' h4 pre' l4 hF=>?_);obtain⟨l4',m2,T2,b2,rfl,hO2,hA2,R2⟩:=hF;simp only[cons_append,nil_append,append_nil];have hrk:Rch (R0 (U.map Ce.c)) c s.1:=.step (.refl _) (by rw[hJ];exact List.mem_map.2 ⟨s,hsm,rfl⟩);refine Aj (Ai (Ab (Ad (Qx (oA rfl) rfl (Qm rfl (Aj ?_))))))
     exact Ak (y.c.sd.length-(t+1)) _ (by omega) ⟨t+1,T2,b2,m2,rfl,rfl,AJ l2 (AJ l3 l4),rfl,by omega,hO2,hA2,fun x hx=>R2.sub x (hsub x hx),fun x h1 h2=>by
      by_cases hx:x∈DB Tt
      ·obtain⟨q1,q2,q3⟩:=hnew x hx h2;exact⟨q1,fun k hk hf=>R2.sub k (q2 k hk hf),q3⟩
      ·obtain⟨q1,q2,q3⟩:=R2.new x h1 hx;exact⟨hrk.trans q1,q2,q3⟩,fun j hj hjt hf=>by
      rcases (by omega:j<t\/j=t) with h1|rfl
      ·exact R2.sub _ (hdone j hj h1 hf)
      ·rw[hs]at hf ⊢;exact R2.me hf⟩ Qs
    ·obtain rfl:t=y.c.sd.length:=by omega
     have hV:ZR (U.map Ce.c) T Tt c:=by
      refine⟨fun x hx=>hsub x ((hk1 x).2 (.inr hx)),fun _=>hsub _ ((hk1 _).2 (.inl rfl)),fun x h1 h2=>?_⟩;by_cases hx:x=c
      ·subst hx;refine⟨.refl _,fun k hk hf=>?_,hcm⟩;rw[hJ]at hk;obtain⟨s,hs,rfl⟩:=List.mem_map.1 hk;obtain⟨j,hj,rfl⟩:=List.getElem_of_mem hs;exact hdone j hj hj hf
      ·exact hnew x h1 fun q=>by
        rcases (hk1 x).1 q with q|q
        ·exact hx q
        ·exact h2 q
     refine Av (Aa (Aa (Af ?_)));exact BT rfl (⟨AJ l1 l2,mt,Tt,bt,rfl,hOt,hAt,hV⟩)
  ·refine Ac (As (Qm rfl (Qm rfl (Qm rfl (Qk rfl (Qk rfl (Qk rfl (Qm rfl (An (Bn rfl (Am (Ag (AN ?_)))))))))))));exact ED rfl (⟨CY,mS,T,bs,rfl,hO,hA,fun x hx=>hx,fun q=>(by rw[hbb']at q;cases q),fun x h1 h2=>absurd h1 h2⟩)
structure ClosT(o:List Cl)(ids:List Int)(T:List (Int×Bool)):Prop where
 all:∀c∈ids,(J7 o c).isSome=true->c∈DB T
 rch:∀x∈DB T,∃c∈ids,Rch (R0 o) c x
 cls:∀x∈DB T,∀k∈R0 o x,(J7 o k).isSome=true->k∈DB T
 mem:∀x∈DB T,x∈o.map Cl.id
theorem ClosT.nil(o:List Cl):ClosT o [] []:=⟨fun _ h=>(nomatch h),fun _ h=>(nomatch h),fun _ h=>(nomatch h),fun _ h=>(nomatch h)⟩
theorem ClosT.snoc{o:List Cl}{ids:List Int}{T T':List (Int×Bool)}{c:Int}(C:ClosT o ids T)(V:ZR o T T' c):ClosT o (ids++[c]) T':=by
 refine⟨fun x hx hf=>?_,fun x hx=>?_,fun x hx k hk hf=>?_,fun x hx=>?_⟩
 ·rcases List.mem_append.1 hx with h|h
  ·exact V.sub x (C.all x h hf)
  ·rw[List.mem_singleton.1 h]at hf ⊢;exact V.me hf
 ·by_cases h:x∈DB T
  ·obtain⟨d,h1,h2⟩:=C.rch x h;exact⟨d,List.mem_append_left _ h1,h2⟩
  ·exact⟨c,List.mem_append_right _ (List.mem_singleton.2 rfl),(V.new x hx h).1⟩
 ·by_cases h:x∈DB T
  ·exact V.sub k (C.cls x h k hk hf)
  ·exact(V.new x hx h).2.1 k hk hf
 ·by_cases h:x∈DB T
  ·exact C.mem x h
  ·exact(V.new x hx h).2.2
theorem OQ(U:List Ce)(gt:Nat)(ids:List Int)(vi:Value)(h:Hp)(hnd:((U.map Ce.c).map Cl.id).Nodup)(hT:RdT h gt U)(hn:∀y∈U,y.c.sd.length<=1000000)(hi:∀y∈U,∀s∈y.c.sd,BD s.1)(hR:RdL cI 1 h [] vi ids)(hl:ids.length<=1000000)(hI:∀c∈ids,BD c):FnT Tryz.prog 82 #[.pointer (some ⟨gt,0,none⟩),vi] h [] (fun r h' ms'=>h.le h'/\∃gS mS T bs,r=.map (some gS)/\ms'=[mS]/\Ci kN vB gS BD mS T bs/\ClosT (U.map Ce.c) ids T):=by
 have o1:=hR.rd.one;refine Ao func82 ntmps82 rfl rfl (fun w0 hw0=>?_);simp only[AU];refine As (AS [_] rfl rfl (by rfl) rfl rfl rfl (fun g2=>Qm rfl (Bv (CO (K:=kN) (V:=vB) (Ok:=BD) rfl rfl rfl rfl (fun gS mS hS0=>CC [.map none] rfl YK rfl rfl (fun g5=>AK 0 0 rfl YK rfl rfl (by rfl) rfl rfl (by decide) rfl rfl (Bv (CC [.nilFunc] rfl Sz rfl rfl (fun g6=>Bv (Qx (Bk rfl rfl rfl) rfl (AK 0 0 rfl Sz rfl rfl (by rfl) rfl rfl (by decide) rfl rfl (An (Aw fun h1 l1 hS6=>(Aw fun h2 l2 hS5=>(EV 1 rfl (Aw fun h3 l3 hS2=>?_))))))))))))))));have hS6:=hS6.le (AJ l2 l3);have hS5:=hS5.le l3;have l03:=AJ l1 (AJ l2 l3);have E:CloE h3 gS g2 g5 g6 gt U:=⟨fun ms=>Seg.all hS2 0 _ rfl ms,fun ms=>Seg.all hS5 0 _ rfl ms,fun ms=>Seg.all hS6 0 _ rfl ms,hT.up l03,hn,hi⟩
 have hR:=hR.up l03;refine Ac (As (Qm rfl (Qx (Ar hR.rd.any rfl AY rfl) rfl (Qm rfl (An (Ae ?_))))))
 refine Az (fun q sl h' ms'=>∃(t:Nat) (T:List (Int×Bool)) (bs:List Nat) (mS:Hp),q=ids.length-t/\sl=[(5,.pointer (some ⟨g5,0,none⟩)),(6,.pointer (some ⟨g6,0,none⟩)),(11,vi),(12,.int .i64 ids.length),(13,.int .i64 t)]/\h3.le h'/\ms'=[mS]/\t<=ids.length/\Ci kN vB gS BD mS T bs/\J9 T/\ClosT (U.map Ce.c) (ids.take t) T)
  (ids.length-0) _ ⟨0,[],[],mS,rfl,rfl,CY,rfl,by omega,hS0,fun p hp=>(nomatch hp),ClosT.nil _⟩ Qs ?_
 rintro q sl h4 ms' ⟨t,T,bs,mS,rfl,rfl,l4,rfl,ht,hO,hA,hC⟩;have hR:=hR.up l4;have E:=E.up l4;have e5:=E.s;have e6:=E.f;refine As (Qm rfl (An (Ac ?_)));refine Au rfl (fun hlt=>?_) (fun hlt=>?_)
 ·have htl:t<ids.length:=by omega
  have hcI:=hI _ (getElem_mem htl);have cc:∀ms,Cell h4 ms ((AG vi).add (t*1)) (.int .i64 ids[t]):=fun ms=>(hR.any (ms:=ms)).cell0 htl rfl;refine Ah (Ab (Ac (Ae (As (Qx (BS (t) hR.rd.any rfl AY Be rfl rfl) rfl (Ql rfl U3 (cc _) (Qm rfl (Gh (Ql rfl XZ (e6 _) (Qm rfl (DC (pre:=[mS]) rfl rfl call144 rfl (TN U gS g2 g5 g6 gt hnd (ZS ((U.map Ce.c).map Cl.id) T+1) ids[t] T bs mS h4 E hcI hO hA (Nat.lt_succ_self _)) rfl rfl rfl rfl (fun v' h5 pre' l5 hF=>?_))))))))))));obtain⟨l5',m2,T2,b2,rfl,hO2,hA2,V⟩:=hF;simp only[cons_append,nil_append,append_nil];have hC2:=hC.snoc V;rw[<-take_succ_eq_append_getElem htl]at hC2;refine Aj (Ai (Ab (Ad (Qx (oA rfl) rfl (Qm rfl (Aj ?_))))));exact Ak (ids.length-(t+1)) _ (by omega) ⟨t+1,T2,b2,m2,rfl,rfl,AJ l4 l5,rfl,by omega,hO2,hA2,hC2⟩ Qs
 ·obtain rfl:t=ids.length:=by omega
  rw[take_length]at hC;refine Av (Aa (Aa (Af (Ab (As (Ql rfl PK (e5 _) (Qm rfl (An (Am ?_)))))))));exact Ap rfl rfl (⟨AJ l03 l4,gS,mS,T,bs,rfl,rfl,hO,hC⟩)
theorem AaP{U:List Ce}{ids:List Int}{gS:Nat}{mS:Hp}{T:List (Int×Bool)}{bs:List Nat}(O:Ci kN vB gS BD mS T bs)(C:ClosT (U.map Ce.c) ids T):T.length<=(U.map Ce.c).length:=by have:=HE _ _ O.keys C.mem;simpa using this
theorem RgC.table{l A:List Ce}(hK:RgC l)(hA:A.map Ce.c=cn l):((A.map Ce.c).map Cl.id).Nodup/\(∀y∈A,y.c.sd.length<=1000000)/\∀y∈A,∀s∈y.c.sd,BD s.1:=by
 have hG:=hK.F.rgt;have hm:∀y∈A,y.c∈cn l:=fun y hy=>by rw[<-hA];exact List.mem_map.2 ⟨y,hy,rfl⟩
 refine⟨by rw[hA];exact hG.nd,fun y hy=>?_,fun y hy s hs=>?_⟩
 ·have:=(hK.F.bds (hm y hy)).2.1;omega
 ·obtain⟨z,hz,e,_⟩:=hG.sid _ (hm y hy) s hs;have h2:=hG.pos _ hz;have h3:=hK.ci hz;rw[<-e];unfold BD;omega
theorem P0(l:List Ce)(v vi:Value)(ids:List Int)(hp:Hp)(hK:RgC l)(hR:RdC hp v l)(hI:RdL cI 1 hp [] vi ids)(hl:ids.length<=1000000)(hc:∀c∈ids,BD c):FnT Tryz.prog 111 #[.agg #[v],vi] hp [] (fun r h' ms'=>hp.le h'/\∃(T:List (Int×Bool)) (ks:List Int) (mo:Hp),ms'=[mo]/\OwnL cI 1 3 mo r ks/\ks.Perm (DB T)/\ks.Nodup/\ClosT (cn l) ids T):=by
 have o1:=hR.q.rd.one;have o2:=hI.rd.one;refine Ao func111 ntmps111 rfl rfl (fun w0 hw0=>?_);simp only[AU];refine As (AS [_] rfl rfl (by rfl) rfl rfl rfl (fun g2=>Qm rfl (An (Aw fun h1 l1 hS=>?_))));have hR:=hR.up l1;have hI:=hI.up l1;refine As (Qx (oG rfl Dt A6 (Seg.any hS)) rfl (Qc call64 rfl (K0 l v h1 hK hR) (fun rT h2 ms2 l2 hF=>?_)));obtain⟨l2',rfl,g,A,rfl,hA,hT⟩:=hF;obtain⟨t1,t2,t3⟩:=hK.table hA;refine Qm rfl (Qc call82 rfl (OQ A g ids vi h2 t1 hT t2 t3 (hI.up l2) hl hc) (fun rC h3 ms3 l3 hF=>?_));obtain⟨l3',gS,mS,T,bs,rfl,rfl,hO,hC⟩:=hF;refine AW fun h4 l4 lS=>(Qc call175 rfl (Aan (some gS) h4) (fun rK h5 ms5 l5 hF=>?_))
 obtain⟨rfl,gk,rfl,rfl⟩:=hF;refine BA fun h6 l6 hSk=>?_
 have hTl:T.length<=1000000:=by have h1:=AaP hO hC;have h2:=congrArg List.length hA;rw[length_map]at h2;have h3:=hK.F.n;rw[length_map]at h1;omega
 refine Qc call174 rfl (Tu gk gS mS T bs h6 hSk hO (AJ lS l6) hTl) (fun rS h7 ms7 l7 hF=>?_);obtain⟨l7',ks,mo,rfl,hOk,hpm,_⟩:=hF;have ov:=hOk.o1;refine Qm rfl (An (Am ?_));exact Ap rfl rfl (⟨AJ l1 (AJ l2 (AJ l3 (AJ l4 (AJ l6 l7)))),T,ks,mo,rfl,hOk,hpm,hpm.nodup_iff.2 hO.keys,by rw[<-hA];exact hC⟩)
def nV(L:List Int)(k:Int):Int:=if(L.length:Int)>0 then(L.getD (k%L.length).toNat 0).tmod 100 else k%3
def GY(L:List Int)(ks:List Int):Int:=ks.foldl (fun m k=>max m (nV L k)) (-1073741824)
theorem Ks(L:List Int)(x:Int):∀ks:List Int,GY L ks<=x<->-1073741824<=x/\∀k∈ks,nV L k<=x:=C6 (by simp[GY]) fun F p ih=>by
 unfold GY at *;rw[List.foldl_append];simp only[List.foldl_cons,List.foldl_nil,Int.max_le,ih,List.mem_append,List.mem_singleton];constructor
 ·rintro⟨⟨h1,h2⟩,h3⟩;exact⟨h1,fun k hk=>hk.elim (h2 k) fun e=>e ▸ h3⟩
 ·rintro⟨h1,h2⟩;exact⟨⟨h1,fun k hk=>h2 k (.inl hk)⟩,h2 p (.inr rfl)⟩
theorem Jw{L:List Int}{ks ks':List Int}(h:∀k∈ks,k∈ks'):GY L ks<=GY L ks':=by rw[Ks];have h1:=(Ks L (GY L ks') ks').1 (Int.le_refl _);exact⟨h1.1,fun k hk=>h1.2 k (h k hk)⟩
theorem QZ{L:List Int}{ks ks':List Int}(h:∀k,k∈ks<->k∈ks'):GY L ks=GY L ks':=Int.le_antisymm (Jw fun k hk=>(h k).1 hk) (Jw fun k hk=>(h k).2 hk)
theorem Aa6(L:List Int){k:Int}(hk:0<=k):-100<nV L k/\nV L k<100:=by
 unfold nV;split
 ·have h1:=Int.tmod_lt_of_pos (L.getD (k%L.length).toNat 0) (show(0:Int)<100 by decide);have h2:=Int.lt_tmod_of_pos (L.getD (k%L.length).toNat 0) (show(0:Int)<100 by decide);omega
 ·omega
open Classical in
noncomputable def PH(o:List Cl)(c:Int):List Int:=(o.map Cl.id).filter fun x=>decide (Rch (R0 o) c x)
noncomputable def ON(o:List Cl)(L:List Int)(c:Int):Int:=GY L (PH o c)
theorem cloL_mem{o:List Cl}{c x:Int}:x∈PH o c<->x∈o.map Cl.id/\Rch (R0 o) c x:=by
 classical
 unfold PH;rw[List.mem_filter,decide_eq_true_iff]
theorem Us{o:List Cl}(R:Rgt o){c:Int}(hc:c∈o.map Cl.id){T:List (Int×Bool)}(C:ClosT o [c] T)(x:Int):x∈DB T<->x∈PH o c:=by
 have hf:∀y∈o.map Cl.id,(J7 o y).isSome=true:=fun y hy=>by obtain⟨z,hz,rfl⟩:=List.mem_map.1 hy;rw[EF R.nd hz];rfl
 have hsd:∀y∈o.map Cl.id,∀k∈R0 o y,k∈o.map Cl.id:=fun y hy k hk=>by obtain⟨z,hz,rfl⟩:=List.mem_map.1 hy;unfold R0 at hk;rw[C3 R.nd hz]at hk;obtain⟨s,hs,rfl⟩:=List.mem_map.1 hk;obtain⟨w,hw,e,_⟩:=R.sid z hz s hs;exact List.mem_map.2 ⟨w,hw,e⟩
 rw[cloL_mem];constructor
 ·intro hx;obtain⟨d,hd,hr⟩:=C.rch x hx;rw[List.mem_singleton.1 hd]at hr;exact⟨C.mem x hx,hr⟩
 ·rintro⟨-,hr⟩
  have:x∈o.map Cl.id/\x∈DB T:=by
   induction hr with
   | refl=>exact⟨hc,C.all c (List.mem_singleton.2 rfl) (hf c hc)⟩
   | step h hk ih=>
    obtain⟨h1,h2⟩:=ih;have h3:=hsd _ h1 _ hk;exact⟨h3,C.cls _ h2 _ hk (hf _ h3)⟩
  exact this.2
noncomputable def Hb(o:List Cl)(L:List Int)(n:Nat):List (Int×Int):=(o.take n).map fun x=>(x.id,ON o L x.id)
theorem SB(l:List Ce)(v vm:Value)(L:List Int)(hp:Hp)(hK:RgC l)(hO0:RgtF (l.map Ce.c))(hR:RdC hp v l)(hL:RdL cI 1 hp [] vm L)(hln:L.length<=9223372036854775807):FnT Tryz.prog 41 #[.agg #[v],vm] hp [] (fun r h' ms'=>hp.le h'/\∃mo,ms'=[mo]/\OwnL cV 2 47 mo r (Hb (l.map Ce.c) L l.length)):=by
 have o1:=hR.q.rd.one;have o2:=hL.rd.one;have hG:=hK.r;have hll:=hG.n;rw[length_map]at hll;refine Ao func41 ntmps41 rfl rfl (fun w0 hw0=>?_);simp only[AU];refine As (AS [_] rfl rfl (by rfl) rfl rfl rfl (fun g2=>Qm rfl (An (Aw fun h1 l1 hS=>?_))));have hR:=hR.up l1;have hL:=hL.up l1;have e0:∀ms,Cell h1 ms (⟨g2,0,none⟩:Addr) v:=fun ms=>Seg.all hS 0 _ rfl ms;refine BB (As (Qm rfl (An (Ac (As (Qm rfl (An (Ae ?_))))))))
 refine Az (fun q sl h' ms'=>∃(i:Nat) (vo:Value) (mo:Hp),q=l.length-i/\sl=[(1,vm),(2,.pointer (some ⟨g2,0,none⟩)),(5,vo),(6,.int .i64 i)]/\h1.le h'/\ms'=[mo]/\i<=l.length/\OwnL cV 2 47 mo vo (Hb (l.map Ce.c) L i))
  (l.length-0) _ ⟨0,_,Hp.emp,rfl,rfl,CY,rfl,by omega,OwnL.nil Vk⟩ Qs ?_
 rintro q sl h2 ms' ⟨i,vo,mo,rfl,rfl,l2,rfl,hi,hO⟩;have hR:=hR.up l2;have hL:=hL.up l2;have hS2:=hS.le l2;have e0:∀ms,Cell h2 ms (⟨g2,0,none⟩:Addr) v:=fun ms=>(e0 ms).le l2;have ovo:=hO.o1;refine Ac (As (Qm rfl (Qf B6 rfl (Ql rfl Bs (e0 _) (Qx (Ar hR.q.rd.any rfl Bs rfl) rfl (Qm rfl (An ?_)))))));refine Au rfl (fun hlt=>?_) (fun hlt=>?_)
 ·have hil:i<l.length:=by omega
  obtain⟨x,hx⟩:∃x,l[i]=x:=⟨_,rfl⟩
  have hxm:x∈l:=by rw[<-hx];exact getElem_mem hil
  have hxo:x.c∈l.map Ce.c:=List.mem_map.2 ⟨x,hxm,rfl⟩;have hx1:=hG.pos _ hxo;have hx2:=hK.i x hxm
  have cx:∀ms,Cell h2 ms (((AG v).add (i*3)).add 0) (.int .i64 x.c.id):=fun ms=>by
   have:Seg h2 ms ((AG v).add (i*3)) (cC x):=by rw[<-hx];exact(hR.q.any (ms:=ms)).seg hil
   exact this 0 _ rfl
  refine Ah (Ab (Ac (Ae (Ac (Bc 8 CP (by kernel_rfl) rfl (AP (oG rfl Dt A6 (Seg.any hS2)) rfl rfl (Wf B6 rfl (Wl rfl Bs (e0 _) (Wm rfl (AP (BS (i) hR.q.rd.any rfl Bs AI rfl rfl) rfl rfl (Wf Bz rfl (Wl rfl U3 (cx _) (WE (EW [_] rfl AY Be rfl (by rfl) rfl rfl (by omega)) rfl rfl (I3 (fun g25=>BA fun h3 l3 hS25=>?_)))))))))))))));have hR3:=hR.up l3;have hid:RdL cI 1 h3 [] (.slice (some ⟨g25,0,none⟩) 1 1) [x.c.id]:=⟨⟨⟨_,_,rfl,Nat.le_refl _,by decide,rfl,fun _=>⟨_,rfl,hS25⟩⟩⟩,AV⟩
  refine Qc call111 rfl (P0 l v _ [x.c.id] h3 hK hR3 hid (by simp) (fun c hc=>by rw[List.mem_singleton.1 hc];unfold BD;omega)) (fun rK h4 ms4 l4 hF=>?_);obtain⟨l4',T,ks,mk,rfl,hOk,hpm,hnk,hC⟩:=hF;rw[Q7 hO0]at hC;refine A4 hOk fun h5 l5 hKs=>?_;have l25:=AJ l3 (AJ l4 l5);have okv:=hKs.rd.one;have hmem:∀k,k∈ks<->k∈PH (l.map Ce.c) x.c.id:=fun k=>by rw[hpm.mem_iff];exact Us hG (List.mem_map.2 ⟨_,hxo,rfl⟩) hC k
  have hval:GY L ks=ON (l.map Ce.c) L x.c.id:=QZ hmem
  have hksl:ks.length<=4000:=by have h1:=hpm.length_eq;have h2:=HE (ks) ((l.map Ce.c).map Cl.id) (hnk) (fun k hk=>(cloL_mem.1 ((hmem k).1 hk)).1);simp at h2;omega
  have hkb:∀k∈ks,0<=k/\k<=1000000:=fun k hk=>by obtain⟨y,hy,rfl⟩:=List.mem_map.1 (cloL_mem.1 ((hmem k).1 hk)).1;have h1:=hG.pos _ hy;obtain⟨b,hb,rfl⟩:=List.mem_map.1 hy;have h2:=hK.i b hb;omega
  have e0:∀ms,Cell h5 ms (⟨g2,0,none⟩:Addr) v:=fun ms=>(e0 ms).le l25;have hL5:=hL.up l25;have hR5:=hR.up l25;refine Qm rfl (Bv (Qm rfl (An ?_)));refine A3 (fun sl h' ms'=>sl=[(1,vm),(2,.pointer (some ⟨g2,0,none⟩)),(5,vo),(6,.int .i64 i),(8,.int .i64 (GY L ks))]/\h5=h'/\ms'=[mo]) ?_ (fun s h ms hI=>?_)
  ·refine Ac (Ad (Qm rfl (An (Ae ?_))))
   refine Az (fun q sl h' ms'=>∃(k:Nat),q=ks.length-k/\sl=[(1,vm),(2,.pointer (some ⟨g2,0,none⟩)),(5,vo),(6,.int .i64 i),(7,rK),(8,.int .i64 (GY L (ks.take k))),(9,.int .i64 k)]/\h5=h'/\ms'=[mo]/\k<=ks.length)
    (ks.length-0) _ ⟨0,rfl,rfl,rfl,rfl,by omega⟩ Qs ?_
   rintro q sl h' ms' ⟨k,rfl,rfl,rfl,rfl,hk⟩;refine Ac (As (Qm rfl (Qm rfl (Qx (Ar hKs.rd.any rfl AY rfl) rfl (Qm rfl (An ?_))))));refine Au rfl (fun hlk=>?_) (fun hlk=>?_)
   ·have hkl:k<ks.length:=by omega
    have ck:∀ms,Cell h5 ms ((AG rK).add (k*1)) (.int .i64 ks[k]):=fun ms=>(hKs.any (ms:=ms)).cell0 hkl rfl;obtain⟨hy1,hy2⟩:=hkb _ (getElem_mem hkl)
    have hnext:GY L (ks.take (k+1))=max (GY L (ks.take k)) (nV L ks[k]):=by rw[take_succ_eq_append_getElem hkl];unfold GY;rw[List.foldl_append];rfl
    obtain⟨y,hy⟩:∃y,ks[k]=y:=⟨_,rfl⟩
    rw[hy]at ck hy1 hy2 hnext;refine Ah (Ab (Ac (Ae (As (Qm rfl (Qm rfl (Qx (BS (k) hKs.rd.any rfl AY Be rfl rfl) rfl (Ql rfl U3 (ck _) (Qx (BV rfl rfl rfl (by omega) (by omega)) rfl (Qm rfl (An (Ac (As (Qm rfl (Qx (Ar hL5.rd.any rfl AY rfl) rfl (Qm rfl (An ?_)))))))))))))))));refine Au rfl (fun hL0=>?_) (fun hL0=>?_)
    ·have hym:0<=y%(L.length:Int)/\y%(L.length:Int)<L.length:=⟨Int.emod_nonneg _ (by omega),Int.emod_lt_of_pos _ (by omega)⟩
     obtain⟨z,hz⟩:=Int.eq_ofNat_of_zero_le hym.1;rw[hz]at hym;have hzl:z<L.length:=by omega
     have cz:∀ms,Cell h5 ms ((AG vm).add (z*1)) (.int .i64 (L.getD z 0)):=fun ms=>by rw[show L.getD z 0=L[z] by simp[List.getD,hzl]];exact(hL5.any (ms:=ms)).cell0 hzl rfl
     have hnv:nV L y=(L.getD z 0).tmod 100:=by unfold nV;rw[if_pos hL0,hz,Int.toNat_natCast]
     refine Ad (Qm rfl (Qm rfl (Qm rfl (Qx (BS (k) hKs.rd.any rfl AY Be rfl rfl) rfl (Ql rfl U3 (ck _) (Qm rfl (Qx (Ar hL5.rd.any rfl AY rfl) rfl (Qx (BV rfl rfl rfl (by omega) (by omega)) rfl (Qx (BS (z) hL5.rd.any rfl AY Be rfl rfl) rfl (Ql rfl U3 (cz _) (Qx (Re rfl rfl rfl (by omega)) rfl (Qm rfl (Gh (Qm rfl (Qm rfl (Qx (GG rfl rfl rfl) rfl (Qm rfl (Aj (Ai (Ab (Ad (Qm rfl (Qx (oA rfl) rfl (Qm rfl (Aj ?_)))))))))))))))))))))))));exact Ak (ks.length-(k+1)) _ (by omega) ⟨k+1,rfl,by rw[hnext,hnv],rfl,rfl,by omega⟩ Qs
    ·have hnv:nV L y=y%3:=if_neg hL0;refine Ah (Ab (Ad (Qm rfl (Qm rfl (Qx (GG rfl rfl rfl) rfl (Qm rfl (Aj (Ai (Ab (Ad (Qm rfl (Qx (oA rfl) rfl (Qm rfl (Aj ?_))))))))))))));exact Ak (ks.length-(k+1)) _ (by omega) ⟨k+1,rfl,by rw[hnext,hnv],rfl,rfl,by omega⟩ Qs
   ·obtain rfl:k=ks.length:=by omega
    refine Av (Aa (Aa (Af ?_)));rw[take_length];exact AA _ ⟨rfl,rfl,rfl⟩ Qs
  ·obtain⟨rfl,rfl,rfl⟩:=hI;have hS5:=hS2.le l25;have cx5:∀ms,Cell h5 ms (((AG v).add (i*3)).add 0) (.int .i64 x.c.id):=fun ms=>(cx ms).le l25;refine Ad (Qm rfl (Qf B6 rfl (Ql rfl Bs (e0 _) (Qm rfl (Qx (BS (i) hR5.q.rd.any rfl Bs AI rfl rfl) rfl (Qf Bz rfl (Ql rfl U3 (cx5 _) (Qm rfl (Qx (A0 AbM [.int .i64 0,.int .i64 0] [(0,_),(1,_)] [_,_] rfl Lb rfl rfl Qt rfl) rfl (Aq [_,_] rfl U31 Lb rfl (by rfl) rfl rfl (by omega) rfl rfl rfl (fun g64=>?_)))))))))));have hvl:(Hb (l.map Ce.c) L i).length<=4000:=by unfold Hb;rw[length_map,length_take];omega
   refine AM 1 hO (RdL.one Vk (x:=(x.c.id,GY L ks)) Mh rfl) rfl U31 Lb rfl (by omega) rfl rfl rfl Aal (by simp;omega) (by simp;omega) rfl rfl rfl (fun vo2 mo2 hO2=>?_)
   have hs:Hb (l.map Ce.c) L (i+1)=Hb (l.map Ce.c) L i++[(x.c.id,GY L ks)]:=by unfold Hb;rw[take_succ_eq_append_getElem (by simpa using hil),map_append,List.map_singleton,getElem_map,hx,hval]
   rw[<-hs]at hO2;have ovo2:=hO2.o1;refine Qm rfl (Aj (Ai (Ab (Ad (Qm rfl (Qx (oA rfl) rfl (Qm rfl (Aj (AN ?_)))))))));exact Ak (l.length-(i+1)) _ (by omega) ⟨i+1,vo2,mo2,rfl,rfl,AJ l2 l25,rfl,by omega,hO2⟩ Qs
 ·obtain rfl:i=l.length:=by omega
  refine Av (Aa (Aa (Af (Ab (As (Qm rfl (Qm rfl (An (Am ?_)))))))));exact Ap rfl rfl (⟨AJ l1 l2,mo,rfl,hO⟩)
end Go.Proofs.Q
namespace Go.Proofs.Q
open Go.Eng Go.RowKit Go.Lin
variable {o:List Cl} {j i:Nat}
def sgn(sd:List (Int×Int))(c:Int):Int:=(sd.map fun s=>if s.1=c then s.2 else 0).sum
theorem HI(c:Int):sgn [] c=0:=rfl
theorem Iu(s:Int×Int)(sd:List (Int×Int))(c:Int):sgn (s::sd) c=(if s.1=c then s.2 else 0)+sgn sd c:=by unfold sgn;rw[map_cons,sum_cons]
theorem Lx(s:Int×Int)(sd:List (Int×Int))(c:Int):sgn (sd++[s]) c=sgn sd c+if s.1=c then s.2 else 0:=by unfold sgn;simp
theorem Lh{c:Int}:∀{sd:List (Int×Int)},(∀s∈sd,s.1≠c)->sgn sd c=0
 | [],_=>rfl
 | s::sd,h=>by rw[Iu,if_neg (h s Mh),Lh fun s hs=>h s (List.Mem.tail _ hs)];rfl
theorem M1{c:Int}{sd:List (Int×Int)}(h:sgn sd c≠0):∃s∈sd,s.1=c:=Classical.byContradiction fun q=>h (Lh fun s hs e=>q ⟨s,hs,e⟩)
def DM(o:List Cl)(i j:Nat):Int:=sgn (o.getD j default).sd (o.getD i default).id
def PP(o:List Cl)(c:Int):Nat:=(o.map Cl.id).idxOf c
theorem IZ{y:Cl}(hy:y∈o)(hn:(o.map Cl.id).Nodup):PP o y.id<o.length/\o.getD (PP o y.id) default=y:=by
 have hm:y.id∈o.map Cl.id:=List.mem_map.2 ⟨y,hy,rfl⟩;have hlt:=List.idxOf_lt_length_of_mem hm;have h1:PP o y.id<o.length:=by unfold PP;simpa using hlt
 refine⟨h1,?_⟩;rw[show o.getD (PP o y.id) default=o[PP o y.id] by simp[List.getD,h1]]
 have h2:(o[PP o y.id]).id=y.id:=by have:=List.getElem_idxOf hlt;rw[getElem_map]at this;exact this
 have h3:=C3 hn (getElem_mem h1);rw[h2,C3 hn hy]at h3;exact h3.symm
theorem P9(hn:(o.map Cl.id).Nodup)(hi:i<o.length)(hj:j<o.length)(h:(o.getD i default).id=(o.getD j default).id):i=j:=by
 rw[show o.getD i default=o[i] by simp[List.getD,hi],show o.getD j default=o[j] by simp[List.getD,hj]]at h;have hp:=List.pairwise_iff_getElem.1 hn;rcases Nat.lt_trichotomy i j with h1|h1|h1
 ·have:=hp i j (by simpa using hi) (by simpa using hj) h1;simp only[getElem_map]at this;exact absurd h this
 ·exact h1
 ·have:=hp j i (by simpa using hj) (by simpa using hi) h1;simp only[getElem_map]at this;exact absurd h.symm this
theorem Uu(hn:(o.map Cl.id).Nodup)(g:Nat->Int):∀sd:List (Int×Int),(∀s∈sd,∃y∈o,y.id=s.1)->sm o.length (fun k=>g k*sgn sd (o.getD k default).id)=(sd.map fun s=>s.2*g (PP o s.1)).sum
 | [],_=>by rw[List.map_nil];exact Hl fun i _=>by rw[HI,Int.mul_zero]
 | s::sd,h=>by
  obtain⟨y,hy,e⟩:=h s Mh;obtain⟨h1,h2⟩:=IZ hy hn;rw[e]at h1 h2;rw[map_cons,sum_cons,<-Uu hn g sd fun s hs=>h s (List.Mem.tail _ hs),Bg (g:=fun k=>g k*(if s.1=(o.getD k default).id then s.2 else 0)+g k*sgn sd (o.getD k default).id) fun k _=>by rw[Iu,Int.mul_add],Hf];congr 1;rw[GF o.length (PP o s.1) _ h1 fun k hk hne=>?_]
  ·rw[h2,if_pos e.symm,Int.mul_comm]
  ·rw[if_neg,Int.mul_zero];intro e2;refine hne (P9 hn hk h1 ?_);rw[h2,e,e2]
theorem LS(L:Int->List (Int×Int))(c:Int):∀s:List (Int×Int),D6 (Lk L s) c=(s.map fun a=>a.2*sgn (L a.1) c).sum
 | []=>rfl
 | a::s=>by
  have ih:=LS L c s;unfold D6 Lk at *;rw[List.flatMap_cons,map_append,List.sum_append,ih,map_cons,sum_cons];congr 1
  have:∀l:List (Int×Int),((l.map fun r=>(a.1,r.1,a.2*r.2)).map fun(e:Int×Int×Int)=>if e.2.1=c then e.2.2 else 0).sum=a.2*sgn l c:=fun l=>by
   induction l with
   | nil=>simp[sgn]
   | cons r l ih=>
    rw[map_cons,map_cons,sum_cons,ih,Iu,Int.mul_add];congr 1;show(if r.1=c then a.2*r.2 else 0)=_;split
    ·rfl
    ·rw[Int.mul_zero]
  exact this _
theorem Ps{α:Type}{h:α->Int}:∀{l:List α},(∀s∈l,h s=0)->(l.map h).sum=0
 | [],_=>rfl
 | a::l,hl=>by rw[map_cons,sum_cons,hl a Mh,Ps fun s hs=>hl s (List.Mem.tail _ hs)];rfl
theorem F8(hj:j<o.length):o.getD j default∈o:=by rw[show o.getD j default=o[j] by simp[List.getD,hj]];exact getElem_mem hj
theorem DM2(R:Rgt o)(hj:j<o.length):HQ o.length (DM o) (fun k=>DM o k j) i=0:=by
 obtain⟨x,hx⟩:∃x,o.getD j default=x:=⟨_,rfl⟩
 have hxm:x∈o:=by rw[<-hx];exact F8 hj
 obtain⟨c,hc⟩:∃c,(o.getD i default).id=c:=⟨_,rfl⟩
 have hs:∀s∈x.sd,∃y∈o,y.id=s.1:=fun s hs=>by obtain⟨y,hy,e,_⟩:=R.sid x hxm s hs;exact⟨y,hy,e⟩
 have e1:HQ o.length (DM o) (fun k=>DM o k j) i=(x.sd.map fun s=>s.2*DM o i (PP o s.1)).sum:=by rw[<-Uu R.nd (fun k=>DM o i k) x.sd hs];unfold HQ;exact Bg fun k _=>by unfold DM;rw[hx]
 have e2:(x.sd.map fun s=>s.2*DM o i (PP o s.1)).sum=D6 (FZ o x) c:=by unfold FZ;rw[LS];congr 1;refine List.map_congr_left fun s hs'=>?_;obtain⟨y,hy,e⟩:=hs s hs';obtain⟨h1,h2⟩:=IZ hy R.nd;unfold DM;rw[hc,<-e,h2,C3 R.nd hy]
 rw[e1,e2];have hd:=R.dim x hxm;rcases (by omega:2<=x.dim\/x.dim=1\/x.dim=0) with h|h|h
 ·by_cases he:∃e∈FZ o x,e.2.1=c
  ·obtain⟨e,he,rfl⟩:=he;exact(R.tab x hxm h).sum e he
  ·exact(Mr fun e he' q=>he ⟨e,he',q⟩).1
 ·unfold FZ;rw[LS]
  have:∀s∈x.sd,s.2*sgn (Gn o s.1).sd c=0:=fun s hs'=>by obtain⟨y,hy,e,hyd⟩:=R.sid x hxm s hs';rw[<-e,C3 R.nd hy];have hnum:=R.num y hy;unfold BP at hnum;have:y.sd=[]:=List.length_eq_zero_iff.1 (by omega);rw[this,HI,Int.mul_zero]
  exact Ps this
 ·have hnum:=R.num x hxm;unfold BP at hnum;have:x.sd=[]:=List.length_eq_zero_iff.1 (by omega);unfold FZ;rw[this];rfl
theorem Aar(R:Rgt o)(hi:i<o.length)(hj:j<o.length)(h:DM o i j≠0):(o.getD j default).dim=(o.getD i default).dim+1:=by obtain⟨s,hs,e⟩:=M1 h;obtain⟨y,hy,e1,e2⟩:=R.sid _ (F8 hj) s hs;obtain⟨h1,h2⟩:=IZ hy R.nd;have h3:PP o y.id=i:=P9 R.nd h1 hi (by rw[h2,e1,e]);rw[<-h3,h2,e2];omega
end Go.Proofs.Q
namespace Go.Proofs.Q
open Go.Proofs.Tryz
open Go.Eng Go.RowKit Go.Lin
def Shp(v:Value)(n:Nat):Prop:=(v=.slice none 0 0/\n=0)\/∃g c,v=.slice (some ⟨g,0,none⟩) n c
theorem Sx{α:Type}{F:α->List Value}{sz:Nat}{el:TypeId}{m:Hp}{v:Value}{l:List α}(O:OwnL F sz el m v l):Shp v l.length:=by
 obtain⟨⟨_,h⟩,_⟩:=O;rcases h with ⟨h1,h2,_⟩|⟨g,cap,spare,h1,_⟩
 ·exact .inl ⟨h1,h2⟩
 ·exact .inr ⟨g,cap,h1⟩
theorem AbE(zs:List Int)(v:Value)(x:Int)(h:Hp)(hR:RdL cI 1 h [] v zs)(hv:Shp v zs.length)(hs:zs.Pairwise (·<=·))(hn:zs.length<=1000000)(ms:List Hp) :
  FnV Tryz.prog 130 #[v,.int .i64 x] h ms (.tuple #[.int .i64 ((zs.countP (·<x):Nat):Int),.bool (zs.contains x)]):=by
 intro w hw;rcases hv with ⟨rfl,h0⟩|⟨g,c,rfl⟩
 ·obtain rfl:zs=[]:=List.length_eq_zero_iff.1 h0;exact(Tryz.slices_BinarySearch_int_empty none 0 x w).mono fun e w' ⟨h1,h2⟩=>⟨by rw[h1];rfl,by rw[h2];exact Ext.refl _⟩
 ·refine(Tryz.slices_BinarySearch_int g 0 zs.length c zs x w (Nat.le_refl _) (by omega) (fun j hj=>?_) (by rw[take_length];exact hs)).mono fun e w' ⟨h1,q,h2⟩=>⟨by rw[h1,take_length],by rw[h2];exact⟨rfl,⟨rfl,Nat.le_add_right _ _⟩,rfl,Nat.le_refl _,fun _ _=>rfl⟩⟩
  have hc:=(hR.any (ms:=ms)).cell0 hj (u:=.int .i64 zs[j]) rfl;have:=hw.cell hc;rw[show(AG (.slice (some ⟨g,0,none⟩) zs.length c)).add (j*1)=(⟨g,0+j,none⟩:Addr) by simp only[AG,Addr.add,Nat.mul_one];split<;>simp_all]at this;simpa[List.getD,hj] using this
theorem OE:∀{zs:List Int},zs.Pairwise (· < ·)->∀{x:Int} {i:Nat} (hi:i<zs.length),zs[i]=x->zs.countP (·<x)=i
 | [],_,x,i,hi,_=>by simp at hi
 | a::zs,hp,x,i,hi,he=>by
  rw[pairwise_cons]at hp;cases i with
  | zero=>
   simp at he;subst he;rw[List.countP_cons,if_neg (by simp)];rw[List.countP_eq_zero.2 fun b hb=>by have:=hp.1 b hb;simp;omega]
  | succ i=>
   have hi':i<zs.length:=by simpa using hi
   have he':zs[i]=x:=by simpa using he
   have:=hp.1 _ (getElem_mem hi');rw[List.countP_cons,if_pos (by simp;omega),OE hp.2 hi' he']
end Go.Proofs.Q

namespace Go.Proofs.Q
open Go.Eng Go.RowKit Go.Lin
theorem MD{a b c:Hp}(h:a.disj b):a.join (b.join c)=b.join (a.join c):=by rw[<-Hp.join_assoc,<-Hp.join_assoc,Hp.join_comm h]
theorem ColsO.at_:∀{vs:List Value} {cs:List (List Int)} {m:Hp},ColsO m vs cs->∀{i:Nat} (hv:i<vs.length) (hc:i<cs.length),∃a b,m=a.join b/\a.disj b/\OwnL cI 1 3 a vs[i] cs[i]/\∀a' c',a'.disj b->OwnL cI 1 3 a' vs[i] c'->ColsO (a'.join b) vs (cs.set i c')
 | [],_,_,_,i,hv,_=>by simp at hv
 | _::_,[],_,h,_,_,_=>h.elim
 | v::vs,c::cs,m,⟨a,b,e,hd,O,C⟩,0,_,_=>⟨a,b,e,hd,O,fun a' c' hd' O'=>⟨a',b,rfl,hd',O',C⟩⟩
 | v::vs,c::cs,m,⟨a0,b0,e,hd,O,C⟩,i+1,hv,hc=>by
  obtain⟨a,b,e2,hd2,O2,K⟩:=C.at_ (i:=i) (by simpa using hv) (by simpa using hc);subst e2;obtain⟨h0a,h0b⟩:=Hp.disj_of_join hd;refine⟨a,a0.join b,by rw[e];exact MD h0a,?_,O2,fun a' c' hd' O'=>?_⟩
  ·exact Hp.disj_symm (Hp.disj_join h0a (Hp.disj_symm hd2))
  ·obtain⟨k0,kb⟩:=Hp.disj_of_join hd';refine⟨a0,a'.join b,MD k0,?_,O,K a' c' kb O'⟩;exact Hp.disj_symm (Hp.disj_join k0 (Hp.disj_symm h0b))
variable {r c k:Nat} {B:Nat->Nat->Int} {sd:List (Int×Int)} {rows:List Int}
def DO(B:Nat->Nat->Int)(sd:List (Int×Int))(rows:List Int)(k j i b:Nat):Int:=if b<k then B i b else if b=k then sgn (sd.take j) (rows.getD i 0) else 0
def CJ(r c:Nat)(F:Nat->Nat->Int):List (List Int):=(range r).map fun i=>G2 c (F i)
theorem El(r c:Nat)(F:Nat->Nat->Int):(CJ r c F).length=r:=by simp[CJ]
theorem EI{F G:Nat->Nat->Int}(h:∀i,i<r->∀b,b<c->F i b=G i b):CJ r c F=CJ r c G:=by unfold CJ;refine List.map_congr_left fun i hi=>Ma fun b hb=>h i (List.mem_range.1 hi) b hb
theorem QC(r c:Nat)(B:Nat->Nat->Int)(sd:List (Int×Int))(rows:List Int):CJ r c (DO B sd rows 0 0)=replicate r (replicate c 0):=by
 have h1:CJ r c (DO B sd rows 0 0)=CJ r c fun _ _=>0:=EI fun i _ b _=>by unfold DO;rw[if_neg (by omega),take_zero,HI,ite_self]
 rw[h1];unfold CJ G2;rw[List.map_const',length_range,List.map_const',length_range]
theorem JX{sd':List (Int×Int)}:CJ r c (DO B sd rows k 0)=CJ r c (DO B sd' rows k 0):=
 EI fun i _ b _=>by unfold DO;rw[take_zero,take_zero]
theorem PY(hB:∀i,i<r->B i k=sgn sd (rows.getD i 0)):CJ r c (DO B sd rows k sd.length)=CJ r c (DO B sd rows (k+1) 0):=
 EI fun i hi b _=>by
  unfold DO;rw[take_length,take_zero,HI,ite_self];by_cases h1:b<k
  ·rw[if_pos h1,if_pos (by omega)]
  ·by_cases h2:b=k
   ·subst h2;rw[if_neg h1,if_pos rfl,if_pos (by omega),hB i hi]
   ·rw[if_neg h1,if_neg h2,if_neg (by omega)]
theorem TK:CJ r c (DO B sd rows c 0)=CJ r c B:=
 EI fun i _ b hb=>by unfold DO;rw[if_pos hb]
theorem VG{j:Nat}(hr:rows.length=r)(hj:j<sd.length)(h:sd[j].1 ∉ rows):CJ r c (DO B sd rows k (j+1))=CJ r c (DO B sd rows k j):=
 EI fun i hi b _=>by
  unfold DO;have hi':i<rows.length:=by omega
  have hne:¬sd[j].1=rows.getD i 0:=fun e=>h (by rw[e];simp[List.getD,hi']);rw[take_succ_eq_append_getElem hj,Lx,if_neg hne,Int.add_zero]
theorem Uf{j i0:Nat}(hr:rows.length=r)(hn:rows.Nodup)(hj:j<sd.length)(hi0:i0<r)(hk:k<c)(h:rows[i0]'(by omega)=sd[j].1) :
  CJ r c (DO B sd rows k (j+1))=(CJ r c (DO B sd rows k j)).set i0 ((G2 c (DO B sd rows k j i0)).set k (DO B sd rows k j i0 k+sd[j].2)):=by
 refine List.ext_getElem (by rw[length_set,El,El]) fun i h1 h2=>?_;have hi:i<r:=by rwa [El]at h1
 have hi':i<rows.length:=by omega
 rw[List.getElem_set];have e1:∀(F:Nat->Nat->Int) (h:i<(CJ r c F).length),(CJ r c F)[i]=G2 c (F i):=fun F h=>by simp[CJ]
 have es:sgn (sd.take (j+1)) (rows.getD i 0)=sgn (sd.take j) (rows.getD i 0)+if sd[j].1=rows.getD i 0 then sd[j].2 else 0:=by rw[take_succ_eq_append_getElem hj,Lx]
 have eg:rows.getD i 0=rows[i]:=by simp[List.getD,hi']
 split
 ·rename_i e;subst e;rw[e1];refine List.ext_getElem (by simp[G2]) fun b hb1 hb2=>?_;rw[List.getElem_set];have hbc:b<c:=by simpa[G2] using hb1
  have ev:∀(F:Nat->Int) (h:b<(G2 c F).length),(G2 c F)[b]=F b:=fun F h=>by simp[G2]
  rw[ev];split
  ·rename_i e;subst e;unfold DO;rw[if_neg (by omega),if_pos rfl,if_neg (by omega),if_pos rfl,es,eg,if_pos h.symm]
  ·rename_i e;rw[ev];unfold DO;rw[if_neg (show ¬b=k from fun q=>e q.symm),if_neg (show ¬b=k from fun q=>e q.symm)]
 ·rename_i e;rw[e1,e1];refine Ma fun b hb=>?_;unfold DO
  have hne:¬sd[j].1=rows.getD i 0:=fun q=>e (by
   rw[<-h,eg]at q
   exact(List.getElem_inj hn).1 q)
  rw[es,if_neg hne,Int.add_zero]
end Go.Proofs.Q

namespace Go.Proofs.Q
open Go.Proofs.Tryz
open Go.Eng Go.RowKit Go.Lin
def By(o:List Cl)(d:Int):List Int:=(o.filter fun c=>decide (c.dim=d)).map Cl.id
theorem F5(o:List Cl)(d:Int):(By o d).length<=o.length:=by unfold By;rw[length_map];exact List.length_filter_le _ _
theorem Vc{o:List Cl}(h:RgtF o)(d:Int):(By o d).Pairwise (· < ·):=by unfold By;rw[List.pairwise_map];exact h.inc.sublist List.filter_sublist
theorem Sc:∀l:List Value,l.flatMap cU=l
 | []=>rfl
 | a::l=>by rw[List.flatMap_cons,Sc l];rfl
theorem Nn:∀(sd:List (Int×Int)) (c:Int),(∀s∈sd,s.2=1\/s.2=-1)->-(sd.length:Int)<=sgn sd c/\sgn sd c<=sd.length
 | [],c,_=>by rw[HI];simp
 | s::sd,c,h=>by have ih:=Nn sd c fun s hs=>h s (List.mem_cons_of_mem _ hs);have h1:=h s List.mem_cons_self;rw[Iu,List.length_cons];split<;>omega
def Is(o:List Cl)(d:Int)(i k:Nat):Int:=sgn (Gn o ((By o d).getD k 0)).sd ((By o (d-1)).getD i 0)
theorem Td(l:List Ce)(v:Value)(d:Int)(hd:-5<=d/\d<=1000)(hp:Hp)(hK:RgC l)(hR:RdC hp v l)(hn:l.length<=200) :
  FnT Tryz.prog 62 #[.agg #[v],.int .i64 d] hp [] (fun w h' ms'=>hp.le h'/\Ux w ms' (By (cn l) (d-1)).length (By (cn l) d).length (DR (By (cn l) (d-1)).length (By (cn l) d).length (Is (cn l) d))):=by
 have ov:=hR.q.rd.one;refine Ao func62 ntmps62 rfl rfl (fun w0 hw0=>?_);simp only[AU];refine As (AS [_] rfl rfl (by rfl) rfl rfl rfl (fun g2=>CC [.int .i64 0,.int .i64 0,.slice none 0 0] rfl Eb rfl rfl (fun g4=>An (BH 1 rfl fun h1 l1 hS2=>?_))));have hR1:=hR.up l1;have gS2:∀ms,Seg h1 ms (⟨g2,0,none⟩:Addr) [v]:=fun ms=>hS2.any;refine As (Qx (oG rfl Dt A6 (gS2 _)) rfl (Qc call64 rfl (K0 l v h1 hK hR1) (fun r h3 ms3 l3 hF=>?_)));obtain⟨l3',rfl,g,A,rfl,hA,hT⟩:=hF;have hR3:=hR1.up l3';have gS2:∀ms,Seg h3 ms (⟨g2,0,none⟩:Addr) [v]:=fun ms=>(hS2.le l3').any;refine Qm rfl (An (Ac (BF (n:=9) (bs:=[true,true,true,false,true,true,false,false,false]) [true,true,true,false,true,true] CP (by kernel_rfl) (by kernel_rfl) rfl rfl (Qp rfl (oG rfl Dt A6 (gS2 _)) (Qq rfl (Qp rfl (oS rfl) (Qp rfl (oG rfl Dt A6 (gS2 _)) (Qq rfl ?_))))))));unfold FN;simp only[cons_append,nil_append];refine Qo 3 rfl (Qc call63 rfl (Ny l v (d-1) h3 hK hR3) (fun ra h4 ms4 l4 hF=>?_));obtain⟨l4',ma,rfl,hOa⟩:=hF;have shA:=Sx hOa;refine A4 hOa fun h5 l5 hRa=>?_;have l35:=AJ l4' l5;refine Qa (Qo 6 rfl (Qc call63 rfl (Ny l v d h5 hK (hR3.up l35)) (fun rb h6 ms6 l6 hF=>?_)));obtain⟨l6',mb,rfl,hOb⟩:=hF;have shB:=Sx hOb;refine A4 hOb fun h7 l7 hRb=>?_;have l57:=AJ l6' l7;have l37:=AJ l35 l57;refine Qa (Qo 7 rfl (Qm rfl (Qa (Qo 8 rfl (Qm rfl (Qa (Qe ?_)))))));have hRa7:=hRa.up l57;obtain⟨o,ho⟩:∃o,cn l=o:=⟨_,rfl⟩
 have hol:o.length=l.length:=by rw[<-ho,Ej]
 have hrg:RgtF o:=by rw[<-ho];exact hK.F
 change RdL cI 1 h7 [] ra (By (cn l) (d-1)) at hRa7;change RdL cI 1 h7 [] rb (By (cn l) d) at hRb;rw[ho]at hRa7 hRb ⊢;obtain⟨r,hr⟩:∃r,(By o (d-1)).length=r:=⟨_,rfl⟩
 obtain⟨c,hc⟩:∃c,(By o d).length=c:=⟨_,rfl⟩
 have hr2:r<=200:=by have:=F5 o (d-1);omega
 have hc2:c<=200:=by have:=F5 o d;omega
 rw[hr,hc];have rA:Rd h7 [] ra 1 r ((By o (d-1)).flatMap cI):=by have:=hRa7.rd;rwa [hr]at this
 have rB:Rd h7 [] rb 1 c ((By o d).flatMap cI):=by have:=hRb.rd;rwa [hc]at this
 have oa:=rA.one;have ob:=rB.one;have lh7:=AJ l1 (AJ l3' l37);refine Ab (Ac (As (Qm rfl (Qx (Ar rA.any rfl AY rfl) rfl (Qm rfl (Qm rfl ?_))))));refine AO (t:=28) rfl (fun h1=>?_) (fun h1=>?_)
 ·exact absurd h1 (by omega)
 ·refine Qg (Ay rfl rfl) rfl (Qg (Ar rB.any rfl AY rfl) rfl (Qg (Cc rfl rfl rfl) rfl (Qm rfl (An ?_))));refine Au rfl (fun h2=>?_) (fun h2=>?_)
  ·exact absurd h2 (by omega)
  ·refine Ah (Ab (Ac (As (Qm rfl (Qx (Ar rA.any rfl AY rfl) rfl (Qm rfl (An ?_)))))));refine Au rfl (fun h3=>?_) (fun h3=>?_)
   ·have hr0:r=0:=by omega
    subst hr0;refine As (Qm rfl (Qx (Ar rB.any rfl AY rfl) rfl (Qc call129 rfl (O3 0 c (by omega) hc2 h7) (fun z h8 ms8 l8 hF=>?_))));obtain⟨rfl,ev,m,rfl,rfl,hO⟩:=hF;have oe:=hO.o1;have hL:replicate (0*c) (0:Int)=DR 0 c (Is o d):=by simp[DR]
    rw[hL]at hO;refine Sa 1 [_,_,_] Eb rfl (by simp[ov,oa,ob,oe]) ?_;refine An (Am (Ag ?_));exact BU (vs:=[_,_,_]) 1 rfl rfl OG rfl Eb rfl rfl (⟨lh7,ev,m,rfl,rfl,hO⟩)
   ·refine Ah (Ab (As (Qm rfl (Qx (Ar rA.any rfl AY rfl) rfl (CM (n:=r) rfl Ck Cw rfl rfl rfl (by rfl) (by rfl) (by omega) (by omega) rfl rfl rfl (fun g42=>Qm rfl (An (Ac (As (Qm rfl (Qx (NO (ty:=81) rfl Ck rfl) rfl (Qm rfl (An (Ae ?_))))))))))))))
    have hO0:OwnL cU 1 22 (A7 g42 22 (replicate r (.slice none 0 0))) (.slice (some ⟨g42,0,none⟩) r r) ([]++replicate r (.slice none 0 0)):=by
     rw[nil_append];have:=OwnL.blk (F:=cU) (el:=22) (g:=g42) (l:=replicate r (Value.slice none 0 0)) r NK (by simp) (by omega)
     rwa [Sc]at this
    refine BB ?_
    refine Az (fun q sl h' ms'=>∃(i:Nat) (Rs:List Value) (mR mo:Hp),r-i=q/\sl=[(4,.pointer (some ⟨g4,0,none⟩)),(5,.pointer (some ⟨g,0,none⟩)),(6,ra),(7,rb),(8,.slice (some ⟨g42,0,none⟩) r r),(44,.int .i64 r),(45,.int .i64 i)]/\h7=h'/\ms'=[mR,mo,A7 g4 106 [.int .i64 0,.int .i64 0,.slice none 0 0]]/\i<=r/\OwnL cU 1 22 mo (.slice (some ⟨g42,0,none⟩) r r) (Rs++replicate (r-i) (.slice none 0 0))/\Rs.length=i/\ColsO mR Rs (replicate i (replicate c 0)))
     (r-0) _ ⟨0,[],Hp.emp,_,rfl,rfl,rfl,rfl,by omega,hO0,rfl,rfl⟩ Qs ?_
    rintro q sl h' ms' ⟨i,Rs,mR,mo,rfl,rfl,rfl,rfl,hi,hO,hRl,hCR⟩;refine As (Qm rfl (An (Ac ?_)));refine Au rfl (fun hlt=>?_) (fun hlt=>?_)
    ·have hir:i<r:=by omega
     refine Ah (Ab (Ac (Ae (As (Qm rfl (Qm rfl (Gh (Qm rfl (Qm rfl (Qm rfl (Qx (Ar rB.any rfl AY rfl) rfl (CM (n:=c) rfl AY Be rfl rfl rfl (by rfl) (by rfl) (by omega) (by omega) rfl rfl rfl (fun g52=>Qx (Cs (i) rfl Ck Cw rfl rfl (by omega) (by omega)) rfl ?_)))))))))))))
     have hset:(Rs++replicate (r-i) (Value.slice none 0 0)).set i (.slice (some ⟨g52,0,none⟩) c c)=(Rs++[.slice (some ⟨g52,0,none⟩) c c])++replicate (r-(i+1)) (Value.slice none 0 0):=by rw[List.set_append_right _ _ (by omega),hRl,Nat.sub_self,show r-i=(r-(i+1))+1 by omega,List.replicate_succ,List.set_cons_zero,List.append_assoc];rfl
     refine CH (f:=fun v:Value=>v) (a:=.slice (some ⟨g52,0,none⟩) c c) 2 i (fun _=>rfl) hO rfl Cw rfl rfl rfl rfl (by rw[length_append,length_replicate];omega) rfl rfl (fun mo' hO'=>?_);rw[hset]at hO';refine Aj (Ai (Ab (Ad (Qx (oA rfl) rfl (Qm rfl (Aj (Eg fun hap=>?_)))))));have hap:[A7 g52 3 (replicate c (.int .i64 0)),mR,mo',A7 g4 106 [.int .i64 0,.int .i64 0,.slice none 0 0]].Pairwise Hp.disj:=hap;simp only[pairwise_cons,mem_cons,not_mem_nil,or_false,forall_eq_or_imp,forall_eq]at hap;have hC':=hCR.snoc (OwnL.rep (g:=g52) (el:=3) c 0 (by omega)) (Hp.disj_symm hap.1.1);have hrs:replicate i (replicate c (0:Int))++[replicate c 0]=replicate (i+1) (replicate c 0):=(List.replicate_succ' ..).symm;rw[hrs]at hC';refine CU 1 rfl (Ez ?_);exact Ak (r-(i+1)) _ (by omega) ⟨i+1,_,_,mo',rfl,rfl,rfl,rfl,by omega,hO',by rw[length_append,hRl];rfl,hC'⟩ Qs
    ·have hir:i=r:=by omega
     subst hir;refine Av (Aa (Aa (Af (Ab (EV 1 rfl (BN hO fun h8 l8 hL=>?_))))));rw[Nat.sub_self,List.replicate_zero,append_nil]at hL;have rB8:=rB.le l8;have rA8:=rA.le l8;refine Ac (As (Qm rfl (Qx (Ar rB8.any rfl AY rfl) rfl (Qm rfl (An (Ae ?_))))));have hCR0:ColsO mR Rs (CJ i c (DO (Is o d) [] (By o (d-1)) 0 0)):=by rw[QC];exact hCR
     refine Az (fun q sl h' ms'=>∃(k:Nat) (mR:Hp),c-k=q/\sl=[(4,.pointer (some ⟨g4,0,none⟩)),(5,.pointer (some ⟨g,0,none⟩)),(6,ra),(8,.slice (some ⟨g42,0,none⟩) i i),(55,rb),(56,.int .i64 c),(57,.int .i64 k)]/\h8.le h'/\ms'=[mR,A7 g4 106 [.int .i64 0,.int .i64 0,.slice none 0 0]]/\k<=c/\ColsO mR Rs (CJ i c (DO (Is o d) [] (By o (d-1)) k 0)))
      (c-0) _ ⟨0,mR,rfl,rfl,CY,rfl,by omega,hCR0⟩ Qs ?_
     rintro q sl h9 ms' ⟨k,mR,rfl,rfl,l9,rfl,hk,hC⟩;refine As (Qm rfl (An (Ac ?_)));refine Au rfl (fun hlt2=>?_) (fun hlt2=>?_)
     ·have hkc:k<c:=by omega
      have hkL:k<(By o d).length:=by omega
      obtain⟨y,hy⟩:∃y,(By o d).getD k 0=y:=⟨_,rfl⟩
      have hyg:(By o d)[k]=y:=by rw[<-hy];simp[List.getD,hkL]
      have hB9:=(hRb.up l8).up l9;have cB:∀ms,Cell h9 ms ((AG rb).add (k*1)) (.int .i64 y):=fun ms=>(hB9.any (ms:=ms)).cell0 hkL (by rw[hyg];rfl);obtain⟨gm,mT,bs,vids,hS,hM,lM,hV,hsd⟩:=hT;have l39:=AJ l37 (AJ l8 l9);have e0:∀ms,Cell h9 ms ((⟨g,0,none⟩:Addr).add 0) (.map (some gm)):=fun ms=>((hS 0 _ rfl).any).le l39;have hAo:A.map Ce.c=o:=by rw[hA,ho]
      have hAid:(A.map fun a=>a.c.id)=o.map Cl.id:=by rw[<-hAo,map_map];rfl
      have hnd:(A.map fun a=>a.c.id).Nodup:=by rw[hAid];exact hrg.rgt.nd
      obtain⟨a,haA,hay⟩:∃a,a∈A/\a.c.id=y:=by
       have h1:y∈By o d:=by rw[<-hyg];exact getElem_mem hkL
       unfold By at h1;obtain⟨cl,h2,h3⟩:=List.mem_map.1 h1;have h4:cl∈A.map Ce.c:=by rw[hAo];exact(List.mem_filter.1 h2).1
       obtain⟨a,h5,rfl⟩:=List.mem_map.1 h4;exact⟨a,h5,h3⟩
      have hga:Bf (Fo A) y=some a:=by rw[<-hay];exact KR hnd haA
      have hga1:(Bf (Fo A) y).getD default=a:=by rw[hga];rfl
      have hyI:BD y:=by
       have h1:a.c∈cn l:=by rw[<-hA];exact List.mem_map.2 ⟨a,haA,rfl⟩
       rw[<-hay];exact hK.cI h1
      have hcel:Gn o y=a.c:=by have:=Ht A y;rw[hAo,hga1]at this;exact this.symm
      have hsa:=(hsd a haA).up l39;have oav:=hsa.rd.one;refine Ah (Ab (Ac (Ae (As (Qm rfl (Qx (AC (k) (rB8.le l9).any rfl AY Be rfl rfl (by omega) (by omega)) rfl (Ql rfl U3 (cB _) (Qm rfl (Qm rfl (Bv (Qm rfl (Qm rfl (Qf Ey rfl (Ql rfl Gb (e0 _) (Qm rfl (Qx (Cb (V:=vC) (z:=(default:Ce)) (u:=a) y hga1 Bi hM (AJ lM l39) rfl Gb JS rfl rfl hyI) rfl (Qx (Em rfl Fb rfl BL rfl rfl rfl) rfl (Qx (Ar hsa.rd.any rfl BL rfl) rfl (Qm rfl (An (Ae ?_)))))))))))))))))))));have hao:a.c∈o:=by rw[<-hAo];exact List.mem_map.2 ⟨a,haA,rfl⟩
      have hsl:a.c.sd.length<=64:=(hrg.bds hao).2.1;have hsg:=hrg.rgt.sgn _ hao
      refine Az (fun q sl h' ms'=>∃(j:Nat) (mR:Hp),a.c.sd.length-j=q/\sl=[(4,.pointer (some ⟨g4,0,none⟩)),(5,.pointer (some ⟨g,0,none⟩)),(6,ra),(8,.slice (some ⟨g42,0,none⟩) i i),(10,.int .i64 k),(55,rb),(56,.int .i64 c),(57,.int .i64 k),(68,a.v),(69,.int .i64 a.c.sd.length),(70,.int .i64 j)]/\h9.le h'/\ms'=[mR,A7 g4 106 [.int .i64 0,.int .i64 0,.slice none 0 0]]/\j<=a.c.sd.length/\ColsO mR Rs (CJ i c (DO (Is o d) a.c.sd (By o (d-1)) k j)))
       (a.c.sd.length-0) _ ⟨0,mR,rfl,rfl,CY,rfl,by omega,by rw[JX (sd':=[])];exact hC⟩ Qs ?_
      rintro q sl h11 ms' ⟨j,mR,rfl,rfl,l11,rfl,hj,hC⟩;have hsa11:=hsa.up l11;refine As (Qm rfl (An (Ac ?_)));refine Au rfl (fun hlt3=>?_) (fun hlt3=>?_)
      ·have hjl:j<a.c.sd.length:=by omega
       obtain⟨s,hs⟩:∃s,a.c.sd[j]=s:=⟨_,rfl⟩
       have gS:∀ms,Seg h11 ms ((AG a.v).add (j*2)) (cD s):=fun ms=>by rw[<-hs];exact(hsa11.any (ms:=ms)).seg hjl
       refine Ah (Ab ?_);refine A3 (fun sl h'' ms'=>∃mR':Hp,sl=[(4,.pointer (some ⟨g4,0,none⟩)),(5,.pointer (some ⟨g,0,none⟩)),(6,ra),(8,.slice (some ⟨g42,0,none⟩) i i),(10,.int .i64 k),(55,rb),(56,.int .i64 c),(57,.int .i64 k),(68,a.v),(69,.int .i64 a.c.sd.length),(70,.int .i64 j)]/\h11.le h''/\ms'=[mR',A7 g4 106 [.int .i64 0,.int .i64 0,.slice none 0 0]]/\ColsO mR' Rs (CJ i c (DO (Is o d) a.c.sd (By o (d-1)) k (j+1)))) ?_ (fun s h ms hI=>?_)
       ·refine Ae (As (Qx (BS (j) hsa11.rd.any rfl BL AH rfl rfl) rfl (Qx (oG rfl DJ AH (gS _)) rfl (CC [.int .i64 0,.int .i64 0] rfl AH rfl rfl (fun g13=>?_)))));refine Sa 0 [_,_] AH rfl (by simp[Value.oneCell']) ?_;refine An (Aw fun h12 l12 hS13=>?_);have l712:=AJ l8 (AJ l9 (AJ l11 l12));have hRa12:=hRa7.up l712;have e130:∀ms,Cell h12 ms ((⟨g13,0,none⟩:Addr).add 0) (.int .i64 s.1):=fun ms=>(hS13 0 _ rfl).any;have e131:∀ms,Cell h12 ms ((⟨g13,0,none⟩:Addr).add 1) (.int .i64 s.2):=fun ms=>(hS13 1 _ rfl).any;have hinc:=Vc hrg (d-1);change Shp ra (By (cn l) (d-1)).length at shA;rw[ho]at shA;refine As (Qm rfl (Qf B4 rfl (Ql rfl U3 (e130 _) (Qx (AF rfl call130 rfl (AbE (By o (d-1)) ra s.1 h12 hRa12 shA (hinc.imp fun h=>Int.le_of_lt h) (by omega) _)) rfl (Qm rfl (Qm rfl (Qm rfl (Qm rfl (Qm rfl (Bv (Qm rfl (An ?_))))))))))));refine Bq rfl (fun hfd=>?_) (fun hfd=>?_)
        ·have hmem:s.1∈By o (d-1):=by simpa using hfd
         obtain⟨i0,hi0,he0⟩:=List.mem_iff_getElem.1 hmem;have hi0i:i0<i:=by omega
         have hcnt:(By o (d-1)).countP (·<s.1)=i0:=OE hinc hi0 he0;rw[hcnt];have hv0:i0<Rs.length:=by omega
         obtain⟨a1,b1,e1,dab,O1,K⟩:=hC.at_ (i:=i0) hv0 (by rw[El];exact hi0i);subst e1;obtain⟨ρ,hρ⟩:∃ρ,Rs[i0]=ρ:=⟨_,rfl⟩
         rw[hρ]at O1 K;have er:(CJ i c (DO (Is o d) a.c.sd (By o (d-1)) k j))[i0]'(by rw[El];exact hi0i)=G2 c (DO (Is o d) a.c.sd (By o (d-1)) k j i0):=by simp[CJ]
         rw[er]at O1;refine HC dab ?_;have cL:∀ms,Cell h12 ms ((AG (.slice (some ⟨g42,0,none⟩) i i)).add (i0*1)) ρ:=fun ms=>((hL.any (ms:=ms)).cell0 hv0 (by rw[hρ];rfl)).le (AJ l9 (AJ l11 l12));have hkv:k<(G2 c (DO (Is o d) a.c.sd (By o (d-1)) k j i0)).length:=by rw[CI];exact hkc
         have cX:∀ms,a1∈ms->Cell h12 ms ((AG ρ).add (k*1)) (.int .i64 (DO (Is o d) a.c.sd (By o (d-1)) k j i0 k)):=fun ms hm=>(O1.rd (h:=h12) hm).cell0 hkv (by simp[G2,cI]);have rρ:Rd h12 [a1] ρ 1 c ((G2 c (DO (Is o d) a.c.sd (By o (d-1)) k j i0)).flatMap cI):=by have:=(O1.rd (h:=h12) (ms:=[a1]) Mh).rd;rwa [CI]at this
         have hbd:=Nn (a.c.sd.take j) ((By o (d-1)).getD i0 0) fun s hs=>hsg s (List.mem_of_mem_take hs);have hbe:DO (Is o d) a.c.sd (By o (d-1)) k j i0 k=sgn (a.c.sd.take j) ((By o (d-1)).getD i0 0):=by unfold DO;rw[if_neg (by omega),if_pos rfl]
         have htl:(a.c.sd.take j).length<=64:=by rw[length_take];omega
         have hs2:=hsg s (by rw[<-hs];exact getElem_mem hjl);have oρ:=rρ.one;refine Bc 9 CP (by kernel_rfl) rfl (Wm rfl (Wm rfl (AP (Cs (i0) rfl Ck Cw rfl rfl (by omega) (by omega)) rfl rfl (Wl rfl AY (cL _) (Wm rfl (AP (BG (k) rρ rfl AY Be rfl rfl (by omega) (by omega)) rfl rfl (Wl rfl U3 (cX _ Mh) (Wf Cp rfl (Wl rfl U3 (e131 _) (AZ (Qx (oA rfl) rfl (Qx (BG (k) rρ rfl AY Be rfl rfl (by omega) (by omega)) rfl (Dc 0 k O1 rfl Be rfl rfl rfl hkv rfl rfl (fun a1' O1'=>Aj (Ai (Eg fun hap=>?_))))))))))))))));have hap:[a1',b1,A7 g4 106 [.int .i64 0,.int .i64 0,.slice none 0 0]].Pairwise Hp.disj:=hap;simp only[pairwise_cons,mem_cons,not_mem_nil,or_false,forall_eq_or_imp,forall_eq]at hap;have hC':=K a1' _ hap.1.1 O1';have hyes:=Uf (B:=Is o d) hr (hinc.imp fun h=>Int.ne_of_lt h) hjl hi0i hkc (by rw[he0,hs]);rw[hs]at hyes;rw[<-hyes]at hC';refine Ez ?_;exact AA _ ⟨_,rfl,l12,rfl,hC'⟩ Qs
        ·have hmem:s.1 ∉ By o (d-1):=by simpa using hfd
         rw[<-hs]at hmem;rw[<-VG (B:=Is o d) hr hjl hmem]at hC;refine Ah (Ai ?_);exact AA _ ⟨mR,rfl,l12,rfl,hC⟩ Qs
       ·obtain⟨mR',rfl,l12,rfl,hC'⟩:=hI;refine Ad (Qx (oA rfl) rfl (Qm rfl (Aj ?_)));exact Ak (a.c.sd.length-(j+1)) _ (by omega) ⟨j+1,mR',rfl,rfl,AJ l11 l12,rfl,by omega,hC'⟩ Qs
      ·have hjl:j=a.c.sd.length:=by omega
       subst hjl;have hB:∀i',i'<i->Is o d i' k=sgn a.c.sd ((By o (d-1)).getD i' 0):=fun i' _=>by unfold Is;rw[hy,hcel]
       rw[PY hB,JX (sd':=[])]at hC;refine Av (Aa (Aa (Af (Ai (Ab (Ad (Qx (oA rfl) rfl (Qm rfl (Aj ?_)))))))));exact Ak (c-(k+1)) _ (by omega) ⟨k+1,mR,rfl,rfl,AJ l9 l11,rfl,by omega,hC⟩ Qs
     ·have hkc:k=c:=by omega
      subst hkc;rw[TK]at hC;refine Av (Aa (Aa (Af (Ab (BE fun h10 l10 lm=>?_)))))
      have hRr:∀i',i'<i->RdL cI 1 h10 [] (Rs.getD i' undef) (G2 k (Is o d i')):=fun i' hi'=>by
       have hv:i'<Rs.length:=by omega
       obtain⟨a1,b1,e1,dab,O1,_⟩:=hC.at_ (i:=i') hv (by rw[El];exact hi');have er:(CJ i k (Is o d))[i']'(by rw[El];exact hi')=G2 k (Is o d i'):=by simp[CJ]
       rw[er]at O1;have hle:a1.le h10:=AJ (by rw[e1];exact Hp.le_join _ _) lm;have:=O1.rdh (ms:=[]) hle
       rwa [show Rs.getD i' undef=Rs[i'] by simp[List.getD,hv]]
      have hAo:A.map Ce.c=o:=by rw[hA,ho]
      have hb:∀i',i'<i->∀j,j<k->-256<Is o d i' j/\Is o d i' j<256:=fun i' _ j _=>by
       unfold Is;obtain⟨y,hy⟩:∃y,(By o d).getD j 0=y:=⟨_,rfl⟩
       rw[hy];have h1:=Ht A y;rw[hAo]at h1;rw[<-h1];cases hg:Bf (Fo A) y with
       | none=>exact(by decide:-256<(0:Int)/\(0:Int)<256)
       | some z=>
        have hz:z.c∈o:=by rw[<-hAo];exact List.mem_map.2 ⟨z,RR hg,rfl⟩
        have h2:=Nn z.c.sd ((By o (d-1)).getD i' 0) (hrg.rgt.sgn _ hz);have h3:=(hrg.bds hz).2.1;simp only[Option.getD_some];omega
      have hi0:0<i:=by omega
      refine As (Qm rfl (Qc call131 rfl (ZY i k hi0 hr2 hc2 (Is o d) hb Rs hRl _ h10 (hL.up (AJ l9 l10)) hRr) (fun z h13 ms13 l13 hF=>?_)));obtain⟨l13',ev,m,rfl,rfl,hO⟩:=hF;have oe:=hO.o1;refine Sa 1 [_,_,_] Eb rfl (by simp[ov,oa,ob,oe]) ?_;refine An (Am ?_);exact BU (vs:=[_,_,_]) 1 rfl rfl OG rfl Eb rfl rfl (⟨AJ lh7 (AJ l8 (AJ l9 (AJ l10 l13'))),ev,m,rfl,rfl,hO⟩)
theorem Yo(r c:Nat)(f:Nat->Nat->Int)(g:Int->Int):(DR r c f).map g=DR r c fun i j=>g (f i j):=by unfold DR;rw[map_map];rfl
theorem Vi(p:Int)(r c:Nat)(f:Nat->Nat->Int)(hp:IsP p)(hp2:p<256)(hr:r<=200)(hc:c<=200)(hb:∀i,i<r->∀j,j<c->-256<f i j/\f i j<256)(gp:Nat)(ev:Value)(h:Hp)(hD:∀ms,Cell h ms (⟨gp,0,none⟩:Addr) (.int .i64 p))(hR:RdL Q3 2 h [] ev (DR r c f)) :
  FnT Tryz.prog 58 #[.agg #[.int .i64 r,.int .i64 c,ev],.pointer (some ⟨gp,0,none⟩)] h [] (fun x h' ms'=>h.le h'/\ms'=[]/\∃(F:Nat->Nat->Int) (pv:List Nat),x=.int .i64 pv.length/\Ech p r c (fun i j=>f i j%p) F pv):=by
 have hpb:=hp.1;have oe:=hR.rd.one;refine Ao func58 ntmps58 rfl rfl (fun w0 hw0=>?_);simp only[AU];refine As (AS [_,_,_] rfl rfl (by rfl) rfl rfl rfl (fun g2=>Qm rfl (An (Aw fun h1 l1 hS2=>?_))));have hR1:=hR.up l1;have gS2:∀ms,Seg h1 ms (⟨g2,0,none⟩:Addr) [.int .i64 r,.int .i64 c,ev]:=fun ms=>hS2.any;have eD:∀ms,Cell h1 ms (⟨gp,0,none⟩:Addr) (.int .i64 p):=fun ms=>(hD ms).le l1
 have hbm:∀x∈DR r c f,-256<x/\x<256:=fun x hx=>by
  unfold DR at hx;obtain⟨k,hk,rfl⟩:=List.mem_map.1 hx;have hk:=List.mem_range.1 hk
  have hc0:0<c:=by
   rcases Nat.eq_zero_or_pos c with h|h
   ·subst h;simp at hk
   ·exact h
  exact hb _ (Nat.div_lt_of_lt_mul (by rw[Nat.mul_comm];exact hk)) _ (Nat.mod_lt _ hc0)
 refine As (Ql rfl U3 (eD _) (Qx (oG rfl OG Eb (gS2 _)) rfl (Qc call60 rfl (YP p r c hp hp2 hr hc (DR r c f) (DS r c f) hbm ev h1 hR1) (fun z h2 ms2 l2 hF=>?_))));obtain⟨l2',eu,m,rfl,rfl,hO⟩:=hF;rw[Yo]at hO;refine A4 hO fun h3 l3 hQ=>?_;have hRt:RtM p r c (fun i j=>f i j%p):=⟨hp,by omega,by omega,fun i _ j _=>⟨Int.emod_nonneg _ (by omega),Int.emod_lt_of_pos _ (by omega)⟩⟩
 refine Qc call59 rfl (VX p r c _ eu h3 hRt hQ) (fun z h4 ms4 l4 hF=>?_);obtain⟨l4',rfl,F,pv,rfl,hE⟩:=hF;refine Qm rfl (An (Am ?_));exact Ap rfl rfl (⟨AJ l1 (AJ l2' (AJ l3 l4')),rfl,F,pv,rfl,hE⟩)
theorem Ti(l:List Ce)(v:Value)(hp:Hp)(hK:RgC l)(hR:RdC hp v l)(hn:l.length<=100) :
  FnT Tryz.prog 55 #[.agg #[v]] hp [] (fun r h' ms'=>hp.le h'/\ms'=[]/\r=.int .i64 0):=by
 have ov:=hR.q.rd.one;refine Ao func55 ntmps55 rfl rfl (fun w0 hw0=>?_);simp only[AU];refine As (AS [_] rfl rfl (by rfl) rfl rfl rfl (fun g1=>Qm rfl (An (Aw fun h1 l1 hS1=>?_))));have hR1:=hR.up l1;have gS1:∀ms,Seg h1 ms (⟨g1,0,none⟩:Addr) [v]:=fun ms=>hS1.any;refine Ac (As (Qx (oG rfl Dt A6 (gS1 _)) rfl (Qx (AF rfl call28 rfl (F6 (Mn l v h1 hK hR1) _)) rfl (Qm rfl (Qm rfl (Qm rfl (Qm rfl (Qm rfl (Bv (Qm rfl (Qm rfl (An ?_))))))))))));refine Au rfl (fun hz=>?_) (fun hz=>?_)
 ·exact absurd rfl hz
 ·refine Ah (Ab (Ac (As (Qx (oG rfl Dt A6 (gS1 _)) rfl (Qc call61 rfl (Vr l v h1 hK hR1) (fun r h3 ms3 l3 hF=>?_))))));obtain⟨l3',rfl,D,rfl,hD1,hD2,hD3⟩:=hF
  have hD8:D<=8:=by
   rcases hD3 with h|⟨c,hc,h⟩
   ·omega
   ·have:=(hK.F.bds hc).1;omega
  have gS1:∀ms,Seg h3 ms (⟨g1,0,none⟩:Addr) [v]:=fun ms=>(hS1.le l3').any;refine Qx (oA rfl) rfl (Qm rfl (An (Ae ?_)));refine Az (fun q sl h' ms'=>∃(k:Nat),(D+1).toNat-k=q/\sl=[(1,.pointer (some ⟨g1,0,none⟩)),(16,.int .i64 (D+1)),(17,.int .i64 k)]/\h3.le h'/\ms'=[]/\(k:Int)<=D+1) ((D+1).toNat-0) _ ⟨0,rfl,rfl,CY,rfl,by omega⟩ Qs ?_;rintro q sl h' ms' ⟨k,rfl,rfl,lh,rfl,hk⟩;have gS1:∀ms,Seg h' ms (⟨g1,0,none⟩:Addr) [v]:=fun ms=>(gS1 ms).le lh;refine As (Qm rfl (An (Ac ?_)));refine Au rfl (fun hlt=>?_) (fun hlt=>?_)
  ·refine Ah (Ab (Ac (Ae (As (Qm rfl (Qm rfl (Bv (Qx (oG rfl Dt A6 (gS1 _)) rfl (Qm rfl (Qc call63 rfl (Ny l v (k:Int) h' hK ((hR1.up l3').up lh)) (fun r h4 ms4 l4 hF=>?_)))))))))));obtain⟨l4',m,rfl,hO⟩:=hF
   have hlen:(((cn l).filter fun c=>decide (c.dim=(k:Int))).map Cl.id).length<=100:=by rw[length_map];exact Nat.le_trans (List.length_filter_le _ _) (by rw[Ej];exact hn)
   refine Qx (FC (hO.rd (h:=h4) (ms:=[m]) Mh).rd rfl AY rfl) rfl (Qm rfl (An ?_));refine Au rfl (fun h5=>?_) (fun h5=>?_)
   ·exact absurd h5 (by omega)
   ·refine Ah (Ai (Ab (Ad (Qx (oA rfl) rfl (Qm rfl (Aj (AN ?_)))))));exact Ak ((D+1).toNat-(k+1)) _ (by omega) ⟨k+1,rfl,rfl,AJ lh l4',rfl,by omega⟩ Qs
  ·refine Av (Aa (Aa (Af (Ab (As (Qm rfl (An (Am ?_))))))));exact Ap rfl rfl (⟨AJ l1 (AJ l3' lh),rfl,rfl⟩)
def RkO(p:Int)(o:List Cl)(d:Int)(ρ:Nat):Prop:=∃(F:Nat->Nat->Int) (pv:List Nat),Ech p (By o (d-1)).length (By o d).length (fun i k=>Is o d i k%p) F pv/\ρ=pv.length
def NF(o:List Cl)(rk:Nat->Nat)(n:Nat):List Int:=(range n).map fun(k:Nat)=>((By o k).length:Int)-rk k-rk (k+1)
theorem V3(o:List Cl)(rk:Nat->Nat)(n:Nat):NF o rk (n+1)=NF o rk n++[((By o n).length:Int)-rk n-rk (n+1)]:=by unfold NF;rw[List.range_succ,map_append];rfl
theorem SG{o:List Cl}{rk rk':Nat->Nat}{n:Nat}(h:∀k,k<=n->rk k=rk' k):NF o rk n=NF o rk' n:=by unfold NF;refine List.map_congr_left fun k hk=>?_;have:=List.mem_range.1 hk;rw[h k (by omega),h (k+1) (by omega)]
theorem ZH{o:List Cl}(hrg:RgtF o)(d:Int)(i j:Nat)(hj:j<(By o d).length):-256<Is o d i j/\Is o d i j<256:=by
 unfold Is;obtain⟨y,hy⟩:∃y,(By o d).getD j 0=y:=⟨_,rfl⟩
 rw[hy];unfold Gn;cases hg:J7 o y with
 | none=>exact(by decide:-256<(0:Int)/\(0:Int)<256)
 | some z=>
  have hz:z∈o:=List.mem_of_find?_eq_some hg;have h2:=Nn z.sd ((By o (d-1)).getD i 0) (hrg.rgt.sgn _ hz);have h3:=(hrg.bds hz).2.1;simp only[Option.getD_some];omega
theorem Vq(l:List Ce)(v:Value)(p:Int)(hp:Hp)(hP:IsP p)(hp2:p<256)(hK:RgC l)(hR:RdC hp v l)(hn:l.length<=100) :
  FnT Tryz.prog 20 #[.agg #[v],.int .i64 p] hp [] (fun r h' ms'=>hp.le h'/\∃(D:Int) (rk:Nat->Nat) (w:Value) (m:Hp),r=.tuple #[w,.int .i64 0]/\ms'=[m]/\OwnL cI 1 3 m w (NF (cn l) rk (D+1).toNat)/\Rm (cn l) D/\rk 0=0/\∀n:Nat,n<(D+1).toNat->RkO p (cn l) (n+1) (rk (n+1))):=by
 have hpb:=hP.1;have ov:=hR.q.rd.one;refine Ao func20 ntmps20 rfl rfl (fun w0 hw0=>?_);simp only[AU];refine As (AS [_] rfl rfl (by rfl) rfl rfl rfl (fun g2=>AS [_] rfl rfl (by rfl) rfl rfl rfl (fun g3=>Qm rfl (Qm rfl (An (Aw fun h1 l1 hS3=>(Aw fun h2 l2 hS2=>?_)))))));have hR2:=(hR.up l1).up l2;have gS2:∀ms,Seg h2 ms (⟨g2,0,none⟩:Addr) [v]:=fun ms=>hS2.any;have eD:∀ms,Cell h2 ms (⟨g3,0,none⟩:Addr) (.int .i64 p):=fun ms=>((hS3 0 _ rfl).any).le l2;refine Ac (As (Ql rfl U3 (eD _) (Qm rfl (Qm rfl ?_))));refine AO (t:=14) rfl (fun hp0=>?_) (fun hp0=>?_)
 ·refine Qg (oL rfl U3 (eD _)) rfl ?_;refine Qg (AF rfl call54 rfl (NA p h2 ⟨by omega,by omega⟩ _)) rfl ?_;refine Qg (Es rfl rfl) rfl (Qm rfl (An ?_));refine Bq rfl (fun hnp=>?_) (fun hnp=>?_)
  ·exact absurd hP (by simpa using hnp)
  ·refine Ah (Ab (Ac (As (Qx (oG rfl Dt A6 (gS2 _)) rfl (Qx (AF rfl call55 rfl (F6 ((Ti l v h2 hK hR2 hn).mono fun _ _ _ h=>h.2.2) _)) rfl (Qm rfl (Bv (Qm rfl (Qm rfl (An ?_))))))))));refine Au rfl (fun hz=>?_) (fun hz=>?_)
   ·exact absurd rfl hz
   ·refine Ah (Ab (As (Qm rfl (An (Ac (As (Ql rfl U3 (eD _) (Qm rfl (An ?_)))))))));refine Au rfl (fun hp1=>?_) (fun hp1=>?_)
    ·refine Ad (Qx (Bk rfl rfl rfl) rfl (Qm rfl (Bv (Qm rfl (Bv (Qm rfl (An (Ac (As (Qx (oG rfl Dt A6 (gS2 _)) rfl (Qc call61 rfl (Vr l v h2 hK hR2) (fun r h3 ms3 l3 hF=>?_))))))))))));obtain⟨l3',rfl,D,rfl,hD⟩:=hF
     have hD8:D<=8:=by
      rcases hD.2.2 with h|⟨c,hc,h⟩
      ·omega
      ·have:=(hK.F.bds hc).1;omega
     have hD1:=hD.1;obtain⟨o,ho⟩:∃o,cn l=o:=⟨_,rfl⟩
     have hrg:RgtF o:=by rw[<-ho];exact hK.F
     have hol:o.length<=100:=by rw[<-ho,Ej];exact hn
     rw[ho]at hD ⊢;refine Qx (oA rfl) rfl (Qm rfl (An (Ae (BB ?_))))
     refine Az (fun q sl h' ms'=>∃(k x:Nat) (rk:Nat->Nat) (vo:Value) (mo:Hp),x=rk k/\(D+1).toNat-k=q/\sl=[(2,.pointer (some ⟨g2,0,none⟩)),(7,.func (.func 58) #[] #[.pointer (some ⟨g3,0,none⟩)]),(8,vo),(9,.int .i64 (x:Nat)),(29,.int .i64 (D+1)),(30,.int .i64 k)]/\h3.le h'/\ms'=[mo]/\(k:Int)<=D+1/\OwnL cI 1 3 mo vo (NF o rk k)/\rk 0=0/\∀n:Nat,n<k->RkO p o (n+1) (rk (n+1)))
      ((D+1).toNat-0) _ ⟨0,0,fun _=>0,_,Hp.emp,rfl,rfl,rfl,CY,rfl,by omega,OwnL.nil AV,rfl,fun n h=>by omega⟩ Qs ?_
     rintro q sl h' ms' ⟨k,xk,rk,vo,mo,hxk,rfl,rfl,lh,rfl,hk,hO,hr0,hrk⟩;have l2h:=AJ l3' lh;have hRh:=hR2.up l2h;have gS2:∀ms,Seg h' ms (⟨g2,0,none⟩:Addr) [v]:=fun ms=>(hS2.le l2h).any;have ovo:=hO.o1;refine As (Qm rfl (An (Ac ?_)));refine Au rfl (fun hlt=>?_) (fun hlt=>?_)
     ·refine Ah (Ab (Ac (Ae (As (Qm rfl (Qm rfl (Bv (Qm rfl (Qx (oG rfl Dt A6 (gS2 _)) rfl (Qm rfl (Qx (oA rfl) rfl (Qc call62 rfl (Td l v ((k:Int)+1) (by omega) h' hK hRh (by omega)) (fun z h4 ms4 l4 hF=>?_)))))))))))));obtain⟨l4',ev,m,rfl,rfl,hM⟩:=hF;have hk1:(k:Int)+1-1=k:=by omega
      rw[ho,hk1]at hM;simp only[ho,hk1];have hrl:(By o (k:Int)).length<=100:=Nat.le_trans (F5 o _) hol;have hcl:(By o ((k:Int)+1)).length<=100:=Nat.le_trans (F5 o _) hol;refine A4 hM fun h5 l5 hQ=>?_;have l25:=AJ l2h (AJ l4' l5);have eD5:∀ms,Cell h5 ms (⟨g3,0,none⟩:Addr) (.int .i64 p):=fun ms=>(eD ms).le l25;refine DC (pre:=[]) rfl rfl call58 rfl (Vi p _ _ (Is o ((k:Int)+1)) hP hp2 (by omega) (by omega) (fun i _ j hj=>ZH hrg _ i j hj) g3 ev h5 eD5 hQ) rfl rfl rfl rfl (fun x h6 pre' l6 hF=>?_);obtain⟨l6',rfl,F,pv,rfl,hE⟩:=hF;have l26:=AJ l25 l6';have gS6:∀ms,Seg h6 ms (⟨g2,0,none⟩:Addr) [v]:=fun ms=>(hS2.le l26).any;refine Qm rfl (Bv (Qm rfl (Qx (oG rfl Dt A6 (gS6 _)) rfl (Qm rfl (Qc call63 rfl (Ny l v (k:Int) h6 hK (hR2.up l26)) (fun w h7 ms7 l7 hF=>?_))))));obtain⟨l7',mi,rfl,hOi⟩:=hF;rw[ho]at hOi;change OwnL cI 1 3 mi w (By o (k:Int)) at hOi;have hil:(By o (k:Int)).length<=100:=Nat.le_trans (F5 o _) hol;have hpl:pv.length<=100:=Nat.le_trans hE.red.len hrl
      have hrkk:xk<=100:=by
       rw[hxk];by_cases hk0:k=0
       ·rw[hk0,hr0];omega
       ·obtain⟨F',pv',hE',e'⟩:=hrk (k-1) (by omega);have e1:k-1+1=k:=by omega
        rw[e1]at e';rw[e'];exact Nat.le_trans hE'.red.len (Nat.le_trans (F5 o _) hol)
      have rI:=(hOi.rd (h:=h7) (ms:=[mi]) Mh).rd;have ow:=rI.one;refine Qx (FC rI rfl AY rfl) rfl (Qm rfl (Qx (oS rfl) rfl (Qm rfl (Qx (oS rfl) rfl (Aq [_] rfl AY Be rfl (by rfl) rfl rfl (by omega) rfl rfl rfl (fun g48=>?_))))));have hbl:(NF o rk k).length<=1000000:=by unfold NF;rw[length_map,length_range];omega
      refine AM 2 hO (RdL.one AV (x:=((By o (k:Int)).length:Int)-xk-pv.length) Mh rfl) rfl AY Be rfl (by omega) rfl rfl rfl B5 (by simp only[length_singleton];omega) (by simp only[length_singleton];omega) rfl rfl rfl (fun v6 m6 hO6=>?_);have ov6:=hO6.o1;refine Qm rfl (Gh (Qm rfl (Qm rfl (Aj (Ai (Ab (Ad (Qx (oA rfl) rfl (Qm rfl (Aj ?_))))))))));refine AN (AN ?_);obtain⟨rk',hra,hrb⟩:∃rk':Nat->Nat,rk' (k+1)=pv.length/\∀n,n≠k+1->rk' n=rk n:=⟨fun n=>if n=k+1 then pv.length else rk n,by simp,fun n hn=>by simp[hn]⟩
      have hk1:NF o rk k++[((By o (k:Int)).length:Int)-xk-pv.length]=NF o rk' (k+1):=by rw[V3,SG (rk:=rk) (rk':=rk') (fun n hn=>(hrb n (by omega)).symm),hrb k (by omega),hra,hxk]
      rw[hk1]at hO6
      exact Ak ((D+1).toNat-(k+1)) _ (by omega) ⟨k+1,pv.length,rk',v6,m6,hra.symm,rfl,rfl,AJ lh (AJ l4' (AJ l5 (AJ l6' l7'))),rfl,by omega,hO6,by rw[hrb 0 (by omega),hr0],fun n hn=>by
       by_cases e:n=k
       ·subst e;have e1:(n:Int)+1-1=n:=by omega
        rw[hra];unfold RkO;rw[e1];exact⟨F,pv,hE,rfl⟩
       ·rw[hrb (n+1) (by omega)]
        exact hrk n (by omega)⟩ Qs
     ·have hkD:k=(D+1).toNat:=by omega
      subst hkD;refine Av (Aa (Aa (Af (Ab (As (Qm rfl (Qm rfl (Qm rfl (An (Am ?_))))))))));exact BC rfl rfl rfl (⟨AJ l1 (AJ l2 l2h),D,rk,vo,mo,rfl,rfl,hO,hD,hr0,hrk⟩)
    ·exact absurd hp0 hp1
 ·exact absurd (by omega) hp0
end Go.Proofs.Q
namespace Go.Proofs.Q
open Go.Proofs.Tryz
open Go.Eng Go.RowKit
variable {A W:List CeO} {pr:CeO->Bool} {i j:Nat}
def OR(A:List CeO)(pr:CeO->Bool):Int:=match A.findIdx? pr with|some k=>k|none=>-1
theorem SQ{k:Nat}(hk:k<A.length)(h:pr A[k]=true)(hno:∀j (hj:j<A.length),j<k->pr A[j]=false):OR A pr=k:=by
 unfold OR
 have:A.findIdx? pr=some k:=by rw[List.findIdx?_eq_some_iff_getElem];exact⟨hk,h,fun j hj=>by rw[hno j (by omega) hj];simp⟩
 rw[this]
theorem T3(hno:∀j (hj:j<A.length),pr A[j]=false):OR A pr=-1:=by
 unfold OR
 have:A.findIdx? pr=none:=by rw[List.findIdx?_eq_none_iff];intro a ha;obtain⟨j,hj,rfl⟩:=List.getElem_of_mem ha;exact hno j hj
 rw[this]
structure DelI(A W:List CeO)(pr:CeO->Bool)(i j:Nat):Prop where
 len:W.length=A.length
 ij:i<=j
 jn:j<=A.length
 tk:W.take i=(A.take j).filter fun a=>!pr a
 dr:W.drop j=A.drop j
theorem DelI.start{k:Nat}(hk:k<A.length)(h:pr A[k]=true)(hno:∀j (hj:j<A.length),j<k->pr A[j]=false):DelI A A pr k (k+1):=by
 refine⟨rfl,by omega,by omega,?_,rfl⟩;rw[take_succ_eq_append_getElem hk,filter_append];have e1:[A[k]].filter (fun a=>!pr a)=[]:=by simp[h]
 have e2:(A.take k).filter (fun a=>!pr a)=A.take k:=by rw[List.filter_eq_self];intro a ha;obtain⟨j,hj,rfl⟩:=List.getElem_of_mem ha;rw[length_take]at hj;rw[List.getElem_take,hno j (by omega) (by omega)];rfl
 rw[e1,e2,append_nil]
theorem DelI.get(D:DelI A W pr i j)(hj:j<W.length)(hj':j<A.length):W[j]=A[j]:=by have h1:W.drop j=W[j]::W.drop (j+1):=List.drop_eq_getElem_cons hj;have h2:A.drop j=A[j]::A.drop (j+1):=List.drop_eq_getElem_cons hj';have:=D.dr;rw[h1,h2]at this;exact(List.cons.inj this).1
theorem DelI.next(D:DelI A W pr i j)(hj:j<A.length):W.drop (j+1)=A.drop (j+1):=by
 have:=congrArg (List.drop 1) D.dr
 rwa [List.drop_drop,List.drop_drop]at this
theorem DelI.del(D:DelI A W pr i j)(hj:j<A.length)(h:pr A[j]=true):DelI A W pr i (j+1):=by refine⟨D.len,by have:=D.ij;omega,by omega,?_,D.next hj⟩;rw[take_succ_eq_append_getElem hj,filter_append,<-D.tk];simp[h]
theorem DelI.keep(D:DelI A W pr i j)(hj:j<A.length)(h:pr A[j]=false):DelI A (W.set i A[j]) pr (i+1) (j+1):=by
 have hij:=D.ij;have hl:=D.len;refine⟨by rw[length_set,D.len],by omega,by omega,?_,?_⟩
 ·rw[take_succ_eq_append_getElem hj,filter_append,<-D.tk];have hi:i<(W.set i A[j]).length:=by rw[length_set];omega
  rw[take_succ_eq_append_getElem hi,List.getElem_set_self,List.take_set_of_le (Nat.le_refl _)];simp[h]
 ·rw[List.drop_set_of_lt (by omega),D.next hj]
theorem T6(A:List CeO)(v:Value)(cf:FuncId)(cs:List Value)(pr:CeO->Bool)(h:Hp)(hR:RdL HT 3 h [] v A)(hn:A.length<=100000)
  (hc:∀xs w,(callFunc cf xs).run Tryz.prog w=.ok (.enter cf xs) w)
  (hp:∀a∈A,∀h',h.le h'->∀ms,FnV Tryz.prog cf ([]++[Value.agg (HT a).toArray]++cs).toArray h' ms (.bool (pr a))) :
  FnT Tryz.prog 141 #[v,.func (.func cf) #[] cs.toArray] h [] (fun r _ _=>r=.int .i64 (OR A pr)):=by
 have ov:=hR.rd.one;refine Ao func141 ntmps141 rfl rfl (fun w0 hw0=>?_);simp only[AU];refine As (Qm rfl (An (Ac (As (Qm rfl (Qx (Ar hR.rd.any rfl Bs rfl) rfl (Qm rfl (An (Ae ?_)))))))))
 refine Az (fun q s h' ms'=>∃(k:Nat),q=A.length-k/\s=[(0,v),(1,.func (.func cf) #[] cs.toArray),(7,.int .i64 A.length),(8,.int .i64 k)]/\h=h'/\ms'=[]/\k<=A.length/\∀j (hj:j<A.length),j<k->pr A[j]=false)
  (A.length-0) _ ⟨0,rfl,rfl,rfl,rfl,by omega,fun j _ hj=>by omega⟩ Qs ?_
 rintro q s h' ms' ⟨k,rfl,rfl,rfl,rfl,hk,hno⟩;refine As (Qm rfl (An (Ac ?_)));refine Au rfl (fun hlt=>?_) (fun hlt=>?_)
 ·have hkn:k<A.length:=by omega
  obtain⟨x,hx⟩:∃x,A[k]=x:=⟨_,rfl⟩
  have gX:∀ms,Seg h ms ((AG v).add (k*3)) (HT x):=fun ms=>by rw[<-hx];exact(hR.any (ms:=ms)).seg hkn
  have oxv:=x.one;refine Ah (Ab (Ac (Ae (As (Qm rfl (Qm rfl (Bv (Qm rfl (Qm rfl (Qm rfl (Qx (BS (k) hR.rd.any rfl Bs AI rfl rfl) rfl (Qx (oG rfl Fb AI (gX _)) rfl ?_))))))))))));refine Qx (BX rfl rfl hc rfl (hp x (by rw[<-hx];exact getElem_mem hkn) _ (CY) _)) rfl ?_;refine An ?_;refine Bq rfl (fun hpk=>?_) (fun hpk=>?_)
  ·refine Ac (Ad (Qm rfl (Qm rfl (An (Am (Al (Ag (Ag (Al (Ag ?_))))))))));exact Ap rfl rfl (by rw[SQ hkn (by rw[hx];exact hpk) hno])
  ·refine Ah (Ai (Ab (Ad (Qx (oA rfl) rfl (Qm rfl (Aj ?_))))));refine Ak (A.length-(k+1)) _ (by omega) ⟨k+1,rfl,rfl,rfl,rfl,by omega,fun j hj hj2=>?_⟩ Qs;rcases (by omega:j<k\/j=k) with h2|rfl
   ·exact hno j hj h2
   ·rw[hx];exact hpk
 ·refine Av (Aa (Aa (Af (Ab (As (Qm rfl (An (Am ?_))))))));exact Ap rfl rfl (by rw[T3 fun j hj=>hno j hj (by omega)])
theorem QP(A:List CeO)(v:Value)(m:Hp)(cf:FuncId)(cs:List Value)(pr:CeO->Bool)(h:Hp)(hO:OwnL HT 3 52 m v A)(hn:A.length<=100000)
  (hc:∀xs w,(callFunc cf xs).run Tryz.prog w=.ok (.enter cf xs) w)
  (hp:∀a∈A,∀h',h.le h'->∀ms,FnV Tryz.prog cf ([]++[Value.agg (HT a).toArray]++cs).toArray h' ms (.bool (pr a))) :
  FnT Tryz.prog 74 #[v,.func (.func cf) #[] cs.toArray] h [m] (fun r h' ms'=>h=h'/\∃m',ms'=[m']/\OwnL HT 3 52 m' r (A.filter fun a=>!pr a)):=by
 have ov:=hO.o1;refine Ao func74 ntmps74 rfl rfl (fun w0 hw0=>?_);simp only[AU];refine As (Qm rfl (Bv (Qm rfl (Qm rfl (Qx (AF rfl call141 rfl (CB fun h' hl hm=>F6 (T6 A v cf cs pr h' (hO.rdh (hm _ Mh)) hn hc fun a ha h2 l2=>hp a ha h2 (AJ hl l2)) _)) rfl (Qm rfl (An (Ac (As (Qm rfl (Qm rfl (An ?_))))))))))));obtain⟨q,hq⟩:∃q,OR A pr=q:=⟨_,rfl⟩
 have hcase:(q=-1/\A.filter (fun a=>!pr a)=A)\/∃k:Nat,q=k/\∃hk:k<A.length,pr A[k]=true/\∀j (hj:j<A.length),j<k->pr A[j]=false:=by
  rw[<-hq];cases h:A.findIdx? pr with
  | none=>
   have h1:=List.findIdx?_eq_none_iff.1 h;refine .inl ⟨by unfold OR;rw[h],?_⟩;rw[List.filter_eq_self];intro a ha;rw[h1 a ha];rfl
  | some k=>
   obtain⟨h1,h2,h3⟩:=List.findIdx?_eq_some_iff_getElem.1 h;exact .inr ⟨k,by unfold OR;rw[h],h1,h2,fun j hj hjk=>by simpa using h3 j hjk⟩
 rw[hq];refine Au rfl (fun hz=>?_) (fun hz=>?_)
 ·have hfl:A.filter (fun a=>!pr a)=A:=by
   rcases hcase with ⟨_,e⟩|⟨k,e,_⟩
   ·exact e
   ·omega
  refine As (Qm rfl (Qm rfl (An (Am (Ag ?_)))));exact Ap rfl rfl (⟨rfl,m,rfl,by rw[hfl];exact hO⟩)
 ·obtain⟨k,rfl,hk,hkp,hkn⟩:∃k:Nat,q=k/\∃hk:k<A.length,pr A[k]=true/\∀j (hj:j<A.length),j<k->pr A[j]=false:=by
   rcases hcase with ⟨e,_⟩|h
   ·exact absurd e hz
   ·exact h
  refine Ah (Ab (Ac (As (Qm rfl (Qx (oA rfl) rfl (Qm rfl (An (Ae ?_))))))))
  refine Az (fun q s h' ms'=>∃(i j:Nat) (W:List CeO) (m:Hp),A.length-j=q/\s=[(0,v),(1,.func (.func cf) #[] cs.toArray),(5,.int .i64 i),(6,.int .i64 j)]/\h=h'/\ms'=[m]/\OwnL HT 3 52 m v W/\DelI A W pr i j)
   (A.length-(k+1)) _ ⟨k,k+1,A,m,rfl,rfl,rfl,rfl,hO,DelI.start hk hkp hkn⟩ Qs ?_
  rintro q s h' ms' ⟨i,j,W,m,rfl,rfl,rfl,rfl,hO,hD⟩;have hlW:=hD.len;have hij:=hD.ij;have hjn:=hD.jn;refine Ac (As (Qm rfl (Qm rfl (Qx (Ar (hO.rd Mh).rd rfl Bs rfl) rfl (Qm rfl (An ?_))))));refine Au rfl (fun hlt=>?_) (fun hlt=>?_)
  ·have hjA:j<A.length:=by omega
   have hjW:j<W.length:=by omega
   have hgx:=hD.get hjW hjA;obtain⟨x,hx⟩:∃x,A[j]=x:=⟨_,rfl⟩
   rw[hx]at hgx;have gX:∀ms,m∈ms->Seg h ms ((AG v).add (j*3)) (HT x):=fun ms hm=>by rw[<-hgx];exact(hO.rd hm).seg hjW
   have oxv:=x.one;refine Ah (Ab (Ac (Ae (As (Qm rfl (Qm rfl (Qx (AC (j) (hO.rd Mh).rd rfl Bs AI rfl rfl (by omega) (by omega)) rfl (Qx (oG rfl Fb AI (gX _ Mh)) rfl (CC [.int .i64 0,.int .i64 0,.slice none 0 0] rfl AI rfl rfl (fun g7=>?_))))))))));refine Sa 0 [_,_,_] AI rfl (by simp[ov,oxv]) ?_;refine Bv (Qm rfl (Qx (oG rfl Fb AI (Seg.blk 0 rfl)) rfl ?_));refine Qx (BX rfl rfl hc rfl (hp x (by rw[<-hx];exact getElem_mem hjA) _ (CY) _)) rfl ?_;refine Qm rfl (An ?_);refine Bq rfl (fun hpk=>?_) (fun hpk=>?_)
   ·have hpf:pr A[j]=false:=by rw[hx];simpa using hpk
    have hk':=hD.keep hjA hpf;refine As (Qm rfl (Qm rfl (Qx (oG rfl Fb AI (Seg.blk 0 rfl)) rfl (Qx (AC (i) (hO.rd (List.Mem.tail _ Mh)).rd rfl Bs AI rfl rfl (by omega) (by omega)) rfl ?_))));refine GN 1 i x hO rfl AI rfl rfl rfl (Np x) rfl (show i<W.length by omega) rfl rfl (fun m' hO'=>?_);rw[hx]at hk';refine Gh (Qm rfl (Qx (oA rfl) rfl (Qm rfl (Aj (Ai (Ab (Ad (Qm rfl (Qx (oA rfl) rfl (Qm rfl (Aj (AN ?_))))))))))));exact Ak (A.length-(j+1)) _ (by omega) ⟨i+1,j+1,_,m',rfl,rfl,rfl,rfl,hO',hk'⟩ Qs
   ·have hpt:pr A[j]=true:=by rw[hx];simpa using hpk
    refine Ah (Ai (Ab (Ad (Qm rfl (Qx (oA rfl) rfl (Qm rfl (Aj (AN ?_))))))));exact Ak (A.length-(j+1)) _ (by omega) ⟨i,j+1,W,m,rfl,rfl,rfl,rfl,hO,hD.del hjA hpt⟩ Qs
  ·have hjl:j=A.length:=by omega
   subst hjl;refine Av (Aa (Aa (Af (Ab (As (Qm rfl (Qm rfl (Qx (Dy _ (hO.rd Mh).rd rfl Bs AI rfl rfl rfl (by omega)) rfl (To 0 i hO (by omega) rfl Bs AI rfl (by decide) rfl rfl rfl rfl (fun m' hO'=>?_))))))))));have htk:W.take i=A.filter fun a=>!pr a:=by have:=hD.tk;rwa [take_length]at this
   rw[htk]at hO';refine Bv (Qm rfl (Qm rfl (Qx (EG i (hO.rd (h:=h) (ms:=[m]) Mh).rd rfl Bs AI rfl rfl rfl (by omega)) rfl (Qm rfl (An (Am ?_))))));exact Ap rfl rfl (⟨rfl,m',rfl,hO'⟩)
end Go.Proofs.Q
namespace Go.Proofs.Q
open Go.Proofs.Tryz
open Go.Eng Go.RowKit
def Ff(F:List (Int×Int))(t:Int)(o:List Cl):List Cl:=o.filter fun c=>decide (Ed (BQ F) c.id<=t)
theorem ZP{lo:List CeO}{m:Hp}{v:Value}(O:OwnL cC 3 52 m v (lo.map Lj)):OwnL HT 3 52 m v lo:=⟨by have:=O.own;rwa [Jj,length_map]at this,Kf⟩
theorem Xu(F:List (Int×Int))(x:CeO)(t:Int)(g1 g2 gA:Nat)(mA:Hp)(bs:List Nat)(h:Hp)(hO:Ci kN kN gA BD mA (BQ F) bs)(lA:mA.le h)(h1:∀ms,Cell h ms (⟨g1,0,none⟩:Addr) (.map (some gA)))(h2:∀ms,Cell h ms (⟨g2,0,none⟩:Addr) (.int .i64 t))(hs:BD x.c.id)(ms:List Hp) :
  FnV Tryz.prog 75 ([]++[Value.agg (HT x).toArray]++[Value.pointer (some ⟨g1,0,none⟩),.pointer (some ⟨g2,0,none⟩)]).toArray h ms (.bool (decide (Ed (BQ F) x.c.id>t))):=by
 refine F6 ?_ ms;show FnT _ _ #[.agg #[.int .i64 x.c.id,.int .i64 x.c.dim,x.v],.pointer (some ⟨g1,0,none⟩),.pointer (some ⟨g2,0,none⟩)] _ _ _;have ox:=x.one;refine Ao func75 ntmps75 rfl rfl (fun w0 hw0=>?_);simp only[AU];refine As (AS [_,_,_] rfl rfl (by rfl) rfl rfl rfl (fun g3=>Qm rfl (An (Aw fun h3 l3 hS=>?_))));have e0:∀ms,Cell h3 ms ((⟨g3,0,none⟩:Addr).add 0) (.int .i64 x.c.id):=fun ms=>(hS 0 _ rfl).any;have h1:∀ms,Cell h3 ms (⟨g1,0,none⟩:Addr) (.map (some gA)):=fun ms=>(h1 ms).le l3;have h2:∀ms,Cell h3 ms (⟨g2,0,none⟩:Addr) (.int .i64 t):=fun ms=>(h2 ms).le l3;refine As (Ql rfl LV (h1 _) (Qf Bz rfl (Ql rfl U3 (e0 _) (Qx (Cb (V:=kN) (z:=(0:Int)) (u:=Ed (BQ F) x.c.id) x.c.id rfl Bi hO (AJ lA l3) rfl LV HZ rfl rfl hs) rfl (Ql rfl U3 (h2 _) (Qm rfl (Qm rfl (An (Am ?_)))))))));exact Ap rfl rfl (rfl)
theorem N9(l:List Ce)(F:List (Int×Int))(v vf:Value)(t:Int)(hp:Hp)(hK:RgC l)(hR:RdC hp v l)(hF:RdL cV 2 hp [] vf F)(hV:QI F)(h0:HM (cn l) F=(0,0))(hl:l.length<=400) :
  FnT Tryz.prog 27 #[.agg #[v],vf,.int .i64 t] hp [] (fun r h' ms'=>hp.le h'/\∃m A v',ms'=[m]/\r=.agg #[v']/\OwnL cC 3 52 m v' A/\A.map Ce.c=Ff F t (cn l)/\∀a∈A,RdL cD 2 h' [] a.v a.c.sd):=by
 have o1:=hR.q.rd.one;have o2:=hF.rd.one;refine Ao func27 ntmps27 rfl rfl (fun w0 hw0=>?_);simp only[AU];refine As (AS [_] rfl rfl (by rfl) rfl rfl rfl (fun g3=>AS [_] rfl rfl (by rfl) rfl rfl rfl (fun g5=>CC [.slice none 0 0] rfl A6 rfl rfl (fun g6=>An (BH 1 rfl fun h1 l1 hS5=>(BH 1 rfl fun h2 l2 hS3=>?_))))));have hR2:=(hR.up l1).up l2;have hF2:=(hF.up l1).up l2;have c3:∀ms,Seg h2 ms (⟨g3,0,none⟩:Addr) [v]:=fun ms=>hS3.any;have c5:∀ms,Cell h2 ms (⟨g5,0,none⟩:Addr) (.int .i64 t):=fun ms=>((hS5 0 _ rfl).any).le l2;refine Ac (As (Qx (oG rfl Dt A6 (c3 _)) rfl (Qm rfl ?_)));refine Qx (AF rfl call24 rfl (F6 ((JF l F v vf h2 hK hR2 hF2 hV).mono fun r _ _ h=>by rw[h,h0]) _)) rfl ?_;refine Qm rfl (Qm rfl (Qm rfl (Qm rfl (Qm rfl (Bv (Qm rfl (Qm rfl (An ?_))))))));refine Au rfl (fun hz=>?_) (fun hz=>?_)
 ·exact absurd rfl hz
 ·refine Ah (Ab (As (Qm rfl (Qc call66 rfl (Ju F vf h2 hF2 hV.n hV.k) (fun rL h3 ms3 l3 hL=>?_)))));obtain⟨l3',gL,mL,bL,rfl,rfl,hOL⟩:=hL;refine CC [.map none] rfl X5 rfl rfl (fun g9=>AK 0 0 rfl X5 rfl rfl (by rfl) rfl rfl (by decide) rfl rfl (An (Aw fun h4 l4 hS9=>(BE fun h5 l5 lmL=>?_))));have l25:=AJ l3' (AJ l4 l5);have c9:∀ms,Cell h5 ms (⟨g9,0,none⟩:Addr) (.map (some gL)):=fun ms=>((hS9 0 _ rfl).any).le l5;have c3:∀ms,Seg h5 ms (⟨g3,0,none⟩:Addr) [v]:=fun ms=>(c3 ms).le l25;have c5:∀ms,Cell h5 ms (⟨g5,0,none⟩:Addr) (.int .i64 t):=fun ms=>(c5 ms).le l25;refine As (Qx (oG rfl Dt A6 (c3 _)) rfl (Qc call65 rfl (Jt l v h5 hK (hR2.up l25)) (fun rC h6 ms6 l6 hQ=>?_)));obtain⟨l6',mC,A,vA,rfl,rfl,hOC,hAl,hsA⟩:=hQ;obtain⟨lo,e⟩:=exO (fun a ha=>(hsA a ha).rd.one);have e:lo.map Lj=A:=e;have hlo:lo.length=l.length:=by have h1:=congrArg List.length hAl;rw[<-e]at h1;rw[Ej]at h1;simpa using h1
  have hOo:OwnL HT 3 52 mC vA lo:=ZP (by rw[e];exact hOC);have ovA:=hOC.o1;refine CC [.slice none 0 0] rfl A6 rfl rfl (fun g10=>?_);refine Sa 0 [_] A6 rfl (by simp[o1,o2,ovA]) ?_;refine Bv (Qf B6 rfl (Ql rfl Bs (Cell.blk 0 rfl rfl) (Qx (Bk rfl rfl rfl) rfl ?_)))
  have hidI:∀a∈lo,BD a.c.id:=fun a ha=>by
   have h1:a.c∈cn l:=by rw[<-hAl,<-e,map_map];exact List.mem_map.2 ⟨a,ha,rfl⟩
   exact hK.cI h1
  refine MT 1 rfl (A8 (pre:=[mC]) rfl call74 rfl (QP lo vA mC 75 [Value.pointer (some ⟨g9,0,none⟩),.pointer (some ⟨g5,0,none⟩)] (fun x=>decide (Ed (BQ F) x.c.id>t)) h6 hOo (by omega) call75 (fun a ha h' l' ms=>Xu F a t g9 g5 gL mL bL h' hOL (AJ lmL (AJ l6 l')) (fun ms=>(c9 ms).le (AJ l6 l')) (fun ms=>(c5 ms).le (AJ l6 l')) (hidI a ha) ms)) rfl rfl rfl rfl (fun vD h7 ms7 l7 hF=>?_));obtain⟨rfl,mD,rfl,hOD⟩:=hF;have ovD:=hOD.o1;refine Qf B6 rfl ?_;refine AK 1 _ rfl JI rfl rfl (by assumption) rfl rfl (by(simp;done)) rfl rfl ?_;refine An (BH 1 rfl fun h8 l8 hS10=>?_);have c10:∀ms,Seg h8 ms (⟨g10,0,none⟩:Addr) [vD]:=fun ms=>hS10.any
  have hfe:(lo.filter fun x=>!decide (Ed (BQ F) x.c.id>t)).map Lj=A.filter fun a=>decide (Ed (BQ F) a.c.id<=t):=by
   rw[<-e,List.filter_map];congr 1;refine List.filter_congr fun x _=>?_;show(!decide (Ed (BQ F) x.c.id>t))=decide (Ed (BQ F) x.c.id<=t);by_cases h:Ed (BQ F) x.c.id<=t
   ·rw[decide_eq_true h,decide_eq_false (by omega)];rfl
   ·rw[decide_eq_false h,decide_eq_true (by omega)];rfl
  have hOe:=Wa hOD;rw[hfe]at hOe
  have hfc:(A.filter fun a=>decide (Ed (BQ F) a.c.id<=t)).map Ce.c=Ff F t (cn l):=by unfold Ff;rw[<-hAl,List.filter_map];rfl
  refine As (Qx (oG rfl Dt A6 (c10 _)) rfl ?_);refine Sa 1 [_] A6 rfl (by simp[o1,o2,ovA,ovD]) ?_;refine An (Am ?_);have lpp:=AJ l1 (AJ l2 (AJ l25 (AJ l6 l8)));have hpost:=fun a (ha:a∈A.filter fun a=>decide (Ed (BQ F) a.c.id<=t))=>(hsA a (List.mem_filter.1 ha).1).up l8;exact BU (vs:=[_]) 1 rfl rfl Dt rfl A6 rfl rfl (⟨lpp,mD,_,vD,rfl,rfl,hOe,hfc,hpost⟩)
end Go.Proofs.Q
namespace Go.Proofs.Q
open Go.Eng Go.RowKit
variable {o:List Cl}
theorem Rgt.filt(R:Rgt o){P:Cl->Bool}(hc:∀x∈o,P x=true->∀s∈x.sd,∀y∈o,y.id=s.1->P y=true):Rgt (o.filter P):=by
 have hm:∀{x},x∈o.filter P->x∈o:=fun h=>(List.mem_filter.1 h).1;have hnd:((o.filter P).map Cl.id).Nodup:=R.nd.sublist (List.filter_sublist.map _)
 have hsid:∀x∈o.filter P,∀s∈x.sd,∃y∈o.filter P,y.id=s.1/\y.dim=x.dim-1:=fun x hx s hs=>by obtain⟨y,hy,e1,e2⟩:=R.sid x (hm hx) s hs;exact⟨y,List.mem_filter.2 ⟨hy,hc x (hm hx) (List.mem_filter.1 hx).2 s hs y hy e1⟩,e1,e2⟩
 refine⟨Nat.le_trans (List.length_filter_le _ _) R.n,hnd,fun x hx=>R.pos x (hm hx),fun x hx=>R.dim x (hm hx),fun x hx=>R.num x (hm hx),fun x hx=>R.sds x (hm hx),hsid,fun x hx=>R.sgn x (hm hx),fun x hx=>R.one x (hm hx),fun x hx hd=>?_⟩
 have e:FZ (o.filter P) x=FZ o x:=by
  unfold FZ Lk;refine Ep fun s hs=>?_;obtain⟨y,hy,e1,_⟩:=hsid x hx s hs
  have h1:Gn (o.filter P) s.1=Gn o s.1:=by rw[<-e1];unfold Gn;rw[EF hnd hy,EF R.nd (hm hy)]
  simp only[h1]
 rw[e];exact R.tab x (hm hx) hd
theorem RgtF.can_eq(R:RgtF o){x:Cl}(hx:x∈o):x.can=x:=by have e:CF x.sd=x.sd:=Dm Prod.fst (Cr _) (Gs _) (R.sinc x hx);unfold Cl.can;rw[e]
theorem RgtF.filt(R:RgtF o){P:Cl->Bool}(hc:∀x∈o,P x=true->∀s∈x.sd,∀y∈o,y.id=s.1->P y=true):RgtF (o.filter P):=by
 have h1:=(R.rgt.filt hc).ordF
 have e1:(o.filter P).map Cl.can=o.filter P:=by
  have:∀l:List Cl,(∀x∈l,x∈o)->l.map Cl.can=l:=fun l=>by
   induction l with
   | nil=>intro _;rfl
   | cons a l ih=>intro h;rw[map_cons,R.can_eq (h a Mh),ih fun x hx=>h x (List.mem_cons_of_mem _ hx)]
  exact this _ fun x hx=>(List.mem_filter.1 hx).1
 have h2:=DE (o.filter P).length (o.filter P) (Nat.le_refl _);rw[e1]at h2;have h3:=Dm Cl.id h2 (C0 _ _ (Nat.le_refl _)) (R.inc.sublist List.filter_sublist)
 rwa [h3]at h1
theorem RgtF.sub(R:RgtF o){F:List (Int×Int)}(hmon:∀x∈o,∀s∈x.sd,Ed (BQ F) s.1<=Ed (BQ F) x.id)(t:Int):RgtF (Ff F t o):=
 R.filt fun x hx hP s hs y hy e=>by have h1:=of_decide_eq_true hP;have h2:=hmon x hx s hs;rw[<-e]at h2;exact decide_eq_true (by omega)
end Go.Proofs.Q
namespace Go.Proofs.Q
open Go.Proofs.Tryz
open Go.Eng Go.RowKit
theorem Tx(l:List Ce)(F:List (Int×Int))(v vf:Value)(t p:Int)(hp:Hp)(hK:RgC l)(hR:RdC hp v l)(hF:RdL cV 2 hp [] vf F)(hV:QI F)(h0:HM (cn l) F=(0,0))(hmon:∀x∈cn l,∀s∈x.sd,Ed (BQ F) s.1<=Ed (BQ F) x.id)(hP:IsP p)(hp2:p<256)(hl:l.length<=100) :
  FnT Tryz.prog 19 #[.agg #[v],vf,.int .i64 t,.int .i64 p] hp [] (fun r h' ms'=>hp.le h'/\∃(D:Int) (rk:Nat->Nat) (w:Value) (m:Hp),r=.tuple #[w,.int .i64 0]/\ms'=[m]/\OwnL cI 1 3 m w (NF (Ff F t (cn l)) rk (D+1).toNat)/\Rm (Ff F t (cn l)) D/\rk 0=0/\∀n:Nat,n<(D+1).toNat->RkO p (Ff F t (cn l)) (n+1) (rk (n+1))):=by
 have o1:=hR.q.rd.one;have o2:=hF.rd.one;refine Ao func19 ntmps19 rfl rfl (fun w0 hw0=>?_);simp only[AU];refine As (AS [_] rfl rfl (by rfl) rfl rfl rfl (fun g4=>Qm rfl (Qm rfl (An (Aw fun h1 l1 hS4=>?_)))));have hR1:=hR.up l1;have hF1:=hF.up l1;have c4:∀ms,Seg h1 ms (⟨g4,0,none⟩:Addr) [v]:=fun ms=>hS4.any;refine Ac (As (Qx (oG rfl Dt A6 (c4 _)) rfl (Qm rfl ?_)));refine Qx (AF rfl call24 rfl (F6 ((JF l F v vf h1 hK hR1 hF1 hV).mono fun r _ _ h=>by rw[h,h0]) _)) rfl ?_;refine Qm rfl (Qm rfl (Qm rfl (Qm rfl (Qm rfl (Bv (Qm rfl (Qm rfl (An ?_))))))));refine Au rfl (fun hz=>?_) (fun hz=>?_)
 ·exact absurd rfl hz
 ·refine Ah (Ab (As (Qx (oG rfl Dt A6 (c4 _)) rfl (Qm rfl (Qm rfl (Qc call27 rfl (N9 l F v vf t h1 hK hR1 hF1 hV h0 (by omega)) (fun rS h2 ms2 l2 hS=>?_)))))));obtain⟨l2',mS,A,vA,rfl,rfl,hOS,hA,hsA⟩:=hS;refine A4 hOS fun h3 l3 hRA=>?_
  have hAl:A.length<=100:=by have h1:=congrArg List.length hA;rw[length_map]at h1;rw[h1];refine Nat.le_trans (List.length_filter_le _ _) ?_;rw[Ej];exact hl
  have hFA:RgtF (A.map Ce.c):=by rw[hA];exact hK.F.sub hmon t
  have hKA:RgC A:=⟨hFA.rgt,fun a ha=>by
   have h1:a.c∈Ff F t (cn l):=by rw[<-hA];exact List.mem_map.2 ⟨a,ha,rfl⟩
   exact hK.ci (List.mem_filter.1 h1).1⟩
  have hRC:RdC h3 vA A:=⟨hRA,fun a ha=>(hsA a ha).up l3⟩
  have oA_:=hRA.rd.one;refine Qm rfl (Qc call20 rfl (Vq A vA p h3 hP hp2 hKA hRC hAl) (fun rB h4 ms4 l4 hB=>?_));obtain⟨l4',D,rk,w,m,rfl,rfl,hO,hD,hr0,hrk⟩:=hB;rw[Q7 hFA,hA]at hO hD hrk;have ow:=hO.o1;refine Qm rfl (Qm rfl (Qm rfl (Qm rfl (An (Am ?_)))));exact BC rfl rfl rfl (⟨AJ l1 (AJ l2 (AJ l3 l4)),D,rk,w,m,rfl,rfl,hO,hD,hr0,hrk⟩)
end Go.Proofs.Q
