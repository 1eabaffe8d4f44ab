/- A part of the proof. -/
import Derived.Test.YtodheebhahdepaaGreatDoorSG
import Derived.Laws.StructEq
import Derived.ChangeKeysEq
set_option linter.unusedSimpArgs false
set_option linter.unusedVariables false
set_option linter.unusedSectionVars false
set_option maxRecDepth 100000
set_option maxHeartbeats 4000000

open List (length_map length_singleton getElem_mem replicate range length_append nil_append length_take mem_cons cons_append map_append mem_cons_of_mem length_set take_length length_cons length_range filter_cons)
namespace Go.Proofs.Q
open Go.Proofs.Tryz
open Go.Eng Go.RowKit Go.Lin Go.Sort Go.Srt
theorem PU(l:List Ce)(F:List (Int×Int))(v vf:Value)(p:Int)(hp:Hp)(hK:RgC l)(hR:RdC hp v l)(hF:RdL cV 2 hp [] vf F)(hV:Gs F)(h0:Cy (cn l) F=(0,0))(hP:IsP p)(hl:l.length<=400):FnT Tryz.prog 26 #[.agg #[v],vf,.int .i64 p] hp [] (fun r h' ms'=>hp.le h'/\∃(S:List Ce) (R V:Nat->List Int) (vo er ev:Value) (mo mr mv:Hp),PersF p F l S R V/\r=.tuple #[vo,.agg #[.int .i64 p,.int .i64 S.length,.int .i64 S.length,er],.agg #[.int .i64 p,.int .i64 S.length,.int .i64 S.length,ev],.int .i64 0]/\ms'=[mv,mr,mo]/\OwnL cI 1 3 mo vo (N4 S)/\OwnL cI 1 3 mr er (Dy S.length S.length fun i j=>(R j).getD i 0)/\OwnL cI 1 3 mv ev (Dy S.length S.length fun i j=>(V j).getD i 0)):=by
 have o1:=hR.q.rd.one;have o2:=hF.rd.one;refine Ap func26 ntmps26 rfl rfl (fun w0 hw0=>?_);simp only[AX];refine As (AV [_] rfl rfl (by rfl) rfl rfl rfl (fun g3=>Qm rfl (Cz [.int .i64 0,.int .i64 0,.int .i64 0,.slice none 0 0] rfl BS rfl rfl (fun g7=>Cz [.int .i64 0,.int .i64 0,.int .i64 0,.slice none 0 0] rfl BS rfl rfl (fun g8=>Qm rfl (Am (Bm 2 rfl fun h1 l1 hS=>?_)))))));have hR:=hR.up l1;have hF:=hF.up l1;refine As (Qx (oG rfl CF AW (Seg.any hS)) rfl (Qm rfl (Qm rfl (Qc call51 rfl (L4 l F v vf p h1 hK hR hF hV h0 hP hl) (fun rB h2 ms2 l2 hB=>?_)))));obtain⟨l2',gm,S,R,V,vl,ml,rfl,rfl,hO,M⟩:=hB;have P:=M.pers;have hSn:S.length<=400:=by have:=P.perm.length_eq;rw[length_map,Ds]at this;omega
 have ovl:=hO.o1;refine Qm rfl (Qm rfl (Qm rfl (Qm rfl (Qm rfl (Qm rfl (Qm rfl (Am (Ac (As (Qm rfl (Qm rfl (Am (Aq rfl (fun hc=>absurd hc (fun h=>h rfl)) (fun hc=>Ah (Ab (Bu hO fun h3 l3 hL=>?_))))))))))))))));obtain⟨gA,mA,bs,vc,vr,vv,Rs,Vs,la,a1,a2,a3,a4,a5,a6,a7,a8,a9,a10,A⟩:=M.ex;have hsd:=fun a ha=>(M.sds a ha).up l3;have a1:=a1.le l3;have a4:=a4.up l3;have a5:=a5.up l3;have a6:=a6.up l3;have a9:=fun k hk=>(a9 k hk).up l3;have a10:=fun k hk=>(a10 k hk).up l3;have b0:∀h',h3.le h'->∀ms,Cell h' ms (⟨gm,0,none⟩:Addr) (.int .i64 p):=fun h' l' ms=>(Seg.all a1 0 _ rfl ms).le l';have b3:∀h',h3.le h'->∀ms,Cell h' ms (⟨gm,3,none⟩:Addr) vr:=fun h' l' ms=>(Seg.all a1 3 _ rfl ms).le l';have b4:∀h',h3.le h'->∀ms,Cell h' ms (⟨gm,4,none⟩:Addr) vv:=fun h' l' ms=>(Seg.all a1 4 _ rfl ms).le l';have l13:=AJ l1 (AJ l2' l3);refine Ac (BG (n:=18) (bs:=[true,false,true,true,true,true,true,false,true,true,true,true,true,false,false,false,false,false]) [true,false,true,true,true,true,true,false,true,true,true,true,true] CS (by kernel_rfl) (by kernel_rfl) rfl rfl (Qq rfl (Qq rfl (Qq rfl (Qq rfl (QF EV rfl (QL rfl Ch (b3 _ (C9) _) (Qq rfl (Qq rfl (Qq rfl (QF Ij rfl (QL rfl Ch (b4 _ (C9) _) ?_))))))))))));unfold Ft;simp only[cons_append,nil_append];refine Qo 1 rfl (Qc call72 rfl (Ym S p gm gA vc vr vv la h3 a1 a4 hsd hSn) (fun ro h4 ms4 l4 hQ=>?_));obtain⟨l4',mo,rfl,hOo⟩:=hQ;refine Qa (Qo 7 rfl (Qc call73 rfl (KQ S.length p gm vr Rs R h4 (b0 h4 l4) (a5.up l4) a7 hSn (fun k hk=>(a9 k hk).up l4) A.red.rl) (fun rr h5 ms5 l5 hQ=>?_)));obtain⟨l5',er,mr,rfl,rfl,hOr⟩:=hQ;have l35:=AJ l4 l5;refine Qa (Qo 13 rfl (Qc call73 rfl (KQ S.length p gm vv Vs V h5 (b0 h5 l35) (a6.up l35) a8 hSn (fun k hk=>(a10 k hk).up l35) A.red.vl) (fun rv h6 ms6 l6 hQ=>?_)));obtain⟨l6',ev,mv,rfl,rfl,hOv⟩:=hQ;have l36:=AJ l35 l6;change OwnL cI 1 3 mr er (Dy S.length S.length fun i j=>(R j).getD i 0) at hOr;change OwnL cI 1 3 mv ev (Dy S.length S.length fun i j=>(V j).getD i 0) at hOv;have oer:=hOr.o1;have oev:=hOv.o1;refine Qa (Qo 14 rfl (Qm rfl (Qa (Qo 15 rfl ?_))));refine Sa 4 [_,_,_,_] BS rfl (by simp[o1,o2,oer,oev]) ?_;refine Qa (Qo 16 rfl ?_);refine Sa 3 [_,_,_,_] BS rfl (by simp[o1,o2,oer,oev]) ?_;refine Qa (Qo 17 rfl (Qm rfl (Qa (Qe (Ab (An ?_))))));exact Pe (vs1:=[_,_,_,_]) (vs2:=[_,_,_,_]) 4 3 rfl rfl rfl rfl rfl PS rfl BS rfl rfl rfl rfl ⟨AJ l13 (AJ l35 l6'),S,R,V,ro,er,ev,mo,mr,mv,P,rfl,rfl,hOo,hOr,hOv⟩
theorem Nq(l:List Ce)(F:List (Int×Int))(v vf:Value)(p:Int)(hp:Hp)(hK:RgC l)(hR:RdC hp v l)(hF:RdL cV 2 hp [] vf F)(hV:Gs F)(hI:BH p)(hE:FI (cn l) F p≠0):FnT Tryz.prog 26 #[.agg #[v],vf,.int .i64 p] hp [] (fun r h' ms'=>r=.tuple #[.slice none 0 0,.agg #[.int .i64 0,.int .i64 0,.int .i64 0,.slice none 0 0],.agg #[.int .i64 0,.int .i64 0,.int .i64 0,.slice none 0 0],.int .i64 (FI (cn l) F p)]):=by have o1:=hR.q.rd.one;have o2:=hF.rd.one;refine Ap func26 ntmps26 rfl rfl (fun w0 hw0=>?_);simp only[AX];refine As (AV [_] rfl rfl (by rfl) rfl rfl rfl (fun g3=>Qm rfl (Cz [.int .i64 0,.int .i64 0,.int .i64 0,.slice none 0 0] rfl BS rfl rfl (fun g7=>Cz [.int .i64 0,.int .i64 0,.int .i64 0,.slice none 0 0] rfl BS rfl rfl (fun g8=>Qm rfl (Am (Bm 2 rfl fun h1 l1 hS=>?_)))))));have hb:=fun ms=>EO (Jz l F v vf p h1 hK (hR.up l1) (hF.up l1) hV hI hE) ms;generalize FI (cn l) F p=ee at *;refine As (Qx (oG rfl CF AW (Seg.any hS)) rfl (Qm rfl (Qm rfl (Qx (AL rfl call51 rfl (hb _)) rfl (Qm rfl (Qm rfl (Qm rfl (Qm rfl (Qm rfl (Qm rfl (Qm rfl (Am (Ac (As (Qm rfl (Qm rfl (Am ?_)))))))))))))))));refine Aq rfl (fun hc=>?_) (fun hc=>absurd (hE) hc);refine As (Qx (A3 Sy [.int .i64 0,.int .i64 0,.int .i64 0,.slice none 0 0] [] [_,_,_,_] rfl BS rfl rfl Qt rfl) rfl (Qx (A3 Sy [.int .i64 0,.int .i64 0,.int .i64 0,.slice none 0 0] [] [_,_,_,_] rfl BS rfl rfl Qt rfl) rfl (Qm rfl (Qm rfl ?_))));refine Sa 1 [_,_,_,_] BS rfl (by simp[Value.oneCell']) ?_;refine Sa 0 [_,_,_,_] BS rfl (by simp[Value.oneCell']) ?_;refine Qm rfl (Am (An (Ae ?_)));exact Pe (vs1:=[_,_,_,_]) (vs2:=[_,_,_,_]) 1 0 rfl rfl rfl rfl rfl PS rfl BS rfl rfl rfl rfl rfl
variable {F:List (Int×Int)}
def VI(F:List (Int×Int)):Prop:=∀p∈F,BH p.1/\BH p.2
theorem VI.set(h:VI F){k:Nat}{q:Int×Int}(hq:BH q.1/\BH q.2):VI (F.set k q):=fun p hp=>by
 rcases List.mem_or_eq_of_mem_set hp with h1|h1
 ·exact h p h1
 ·rw[h1];exact hq
theorem VI.app{G:List (Int×Int)}(h:VI F)(h':VI G):VI (F++G):=fun p hp=>by
 rcases List.mem_append.1 hp with h1|h1
 ·exact h p h1
 ·exact h' p h1
theorem VI.one{q:Int×Int}(hq:BH q.1/\BH q.2):VI [q]:=fun p hp=>by rw[List.mem_singleton.1 hp];exact hq
theorem VI.sub(h:VI F)(i j:Nat):VI ((F.drop i).take j):=fun p hp=>h p (List.mem_of_mem_drop (List.mem_of_mem_take hp))
theorem VI.get(h:VI F){k:Nat}(hk:k<F.length):BH F[k].1/\BH F[k].2:=h _ (getElem_mem hk)
theorem Mf(F:List (Int×Int))(vf:Value)(q0 q1 q2:Int)(hp:Hp)(hF:RdL cV 2 hp [] vf F)(hV:VI F)(hn:F.length<=100000)(h0:BH q0)(h1:BH q1)(h2:BH q2):FnT Tryz.prog 23 #[vf,.agg #[.int .i64 q0,.int .i64 q1,.int .i64 q2]] hp [] (fun r h' ms'=>hp.le h'/\∃G m,ms'=[m]/\OwnL cV 2 47 m r G/\VI G/\G.length<=F.length+1):=by
 have o1:=hF.rd.one;refine Ap func23 ntmps23 rfl rfl (fun w0 hw0=>?_);simp only[AX];refine As (AV [_,_,_] rfl rfl (by rfl) rfl rfl rfl (fun g3=>Qm rfl (Am (AC fun h3 l3 hS3=>?_))));have hF:=hF.up l3;have e0:∀ms,Cell h3 ms (⟨g3,0,none⟩:Addr) (.int .i64 q0):=fun ms=>Seg.all hS3 0 _ rfl ms;have e1:∀ms,Cell h3 ms (⟨g3,1,none⟩:Addr) (.int .i64 q1):=fun ms=>Seg.all hS3 1 _ rfl ms;have e2:∀ms,Cell h3 ms (⟨g3,2,none⟩:Addr) (.int .i64 q2):=fun ms=>Seg.all hS3 2 _ rfl ms;refine As ?_;refine Ax [] [] [] rfl FP Cx rfl (by omega) (by kernel_rfl) (by repeat (first|exact trivial|refine⟨⟨by first|rfl|exact Rd.cells ‹_›|exact(RdL.rd ‹_›).cells,rfl,rfl⟩,?_⟩)) rfl rfl rfl rfl (fun g8=>?_);refine Qm rfl ?_;refine AO 0 (EC g8 Ib) hF.any rfl FP Cx rfl (by omega) rfl rfl rfl H5 (by simp;omega) (by simp;omega) rfl rfl rfl (fun v5 m5 hO=>?_);rw[nil_append]at hO;have ov:=hO.o1;refine Qm rfl (Am (Ac (As (Qm rfl (Qx (Ar (hO.rd (h:=h3) (ms:=[m5]) Mh).rd rfl FP rfl) rfl (Qm rfl (Am ?_)))))));refine Aq rfl (fun hz=>?_) (fun hz=>?_)
 ·refine Ac (Ad (Qm rfl (Qx (B5 1 rfl Zo A6 rfl rfl rfl (by omega)) rfl (Ql rfl U3 (e1 _) (Qx (B5 2 rfl Zo A6 rfl rfl rfl (by omega)) rfl (Ql rfl U3 (e2 _) (Qx (A3 Te [.int .i64 0,.int .i64 0] [(0,_),(1,_)] [_,_] rfl Cx rfl rfl Qt rfl) rfl (Ao [_,_] rfl FP Cx rfl (by rfl) rfl rfl (by omega) rfl rfl rfl (fun g20=>?_)))))))));refine AO 1 hO (OwnL.rd (OwnL.blk (g:=g20) (el:=47) (F:=cV) (l:=[(q1,q2)]) 1 Ib rfl (by decide)) Mh) rfl FP Cx rfl (by omega) rfl rfl rfl H5 (by simp;omega) (by simp;omega) rfl rfl rfl (fun v6 m6 hO6=>?_);refine Qm rfl (Am (An (Ae (A8 0 rfl ?_))));exact Az rfl rfl (⟨l3,_,m6,rfl,hO6,hV.app (VI.one ⟨h1,h2⟩),by simp⟩)
 ·have hn0:0<F.length:=by omega
  obtain⟨k,hk⟩:∃k:Nat,q1%(F.length:Int)=k:=⟨(q1%(F.length:Int)).toNat,by have:=Int.emod_nonneg q1 (show(F.length:Int)≠0 by omega);omega⟩
  have hkF:k<F.length:=by have:=Int.emod_lt_of_pos q1 (show 0<(F.length:Int) by omega);omega
  have hmk:=Gf q1 F.length h1 ⟨by omega,by omega⟩ h3;rw[hk]at hmk;have hm5:=Gf q0 5 h0 (by decide) h3;generalize q0%5=z5 at hm5;have vk:=hV.get hkF;have v0:=hV.get hn0;refine Ah (Ab (As (Qx (B5 1 rfl Zo A6 rfl rfl rfl (by omega)) rfl (Ql rfl U3 (e1 _) (Qm rfl (Qx (Ar (hO.rd (h:=h3) (ms:=[m5]) Mh).rd rfl FP rfl) rfl (Qx (AL rfl call34 rfl (hmk _)) rfl (Qm rfl (Am (Ac (As (Qx (B5 0 rfl Zo A6 rfl rfl rfl (by omega)) rfl (Ql rfl U3 (e0 _) (Qx (AL rfl call34 rfl (hm5 _)) rfl (Am (Ag (As (Qm rfl (Qm rfl (Am ?_))))))))))))))))))));refine Aq rfl (fun c0=>?_) (fun c0=>?_)
  ·refine Ad (Qm rfl (Qm rfl (Qx (B5 2 rfl Zo A6 rfl rfl rfl (by omega)) rfl (Ql rfl U3 (e2 _) (Qx (AE (k) (hO.rd (h:=h3) (ms:=[m5]) Mh).rd rfl FP Cx rfl rfl (by omega) (by omega)) rfl (Qf MF rfl ?_))))));refine Gb 0 k 1 (F[k].1,q2) [.int .i64 q2] hO rfl A6 rfl rfl rfl rfl (fun c hc=>by rw[List.mem_singleton.1 hc];rfl) rfl hkF (by decide) rfl rfl rfl (fun m6 hO6=>?_);refine Ak (Ai (Ab (As (Qm rfl (Qm rfl (Am (An ?_)))))));exact Az rfl rfl (⟨l3,_,m6,rfl,hO6,hV.set ⟨vk.1,h2⟩,by simp⟩)
  ·refine Ac (Ad (Qm rfl (Qm rfl (Am ?_))));refine Aq rfl (fun c1=>?_) (fun c1=>?_)
   ·refine Ad (Qm rfl (Qm rfl (Qx (B5 2 rfl Zo A6 rfl rfl rfl (by omega)) rfl (Ql rfl U3 (e2 _) (Qx (AE (k) (hO.rd (h:=h3) (ms:=[m5]) Mh).rd rfl FP Cx rfl rfl (by omega) (by omega)) rfl (Qf EJ rfl ?_))))));refine Gb 0 k 0 (q2,F[k].2) [.int .i64 q2] hO rfl A6 rfl rfl rfl rfl (fun c hc=>by rw[List.mem_singleton.1 hc];rfl) rfl hkF (by decide) rfl rfl rfl (fun m6 hO6=>?_);refine Ak (Ai (Ab (As (Qm rfl (Qm rfl (Am (An ?_)))))));exact Az rfl rfl (⟨l3,_,m6,rfl,hO6,hV.set ⟨h2,vk.2⟩,by simp⟩)
   ·refine Ac (Ad (Qm rfl (Qm rfl (Am ?_))));refine Aq rfl (fun c2=>?_) (fun c2=>?_)
    ·have hOk:=hO.pre (n:=k) (by omega);have hRt:RdL cV 2 h3 [m5] (B4 2 v5 (k+1) F.length) ((F.drop (k+1)).take (F.length-(k+1))):=(hO.rd (h:=h3) (ms:=[m5]) Mh).sub_ (by omega) (Nat.le_refl _);have hVt:VI (F.take k):=by have:=hV.sub 0 k;rw[List.drop_zero]at this;exact this
     have hlt1:(F.take k).length=k:=by rw[length_take];omega
     have hlt2:((F.drop (k+1)).take (F.length-(k+1))).length=F.length-(k+1):=by rw[length_take,List.length_drop];omega
     refine Bc 7 CS (by kernel_rfl) rfl (Wm rfl (Wm rfl (AR (DS (k) (hO.rd (h:=h3) (ms:=[m5]) Mh).rd rfl FP Cx rfl rfl (by omega) (by omega)) rfl rfl (Wm rfl (Wm rfl (AR (oA rfl) rfl rfl (AR (CE (k+1) (hO.rd (h:=h3) (ms:=[m5]) Mh).rd rfl FP Cx rfl rfl (by omega) (by omega)) rfl rfl (AY ?_))))))));refine AO 0 hOk hRt rfl FP Cx rfl (by omega) rfl rfl rfl H5 (by simp;omega) (by simp;omega) rfl rfl rfl (fun v6 m6 hO6=>?_);refine Qm rfl (Ak (Ai (Ab (As (Qm rfl (Qm rfl (Am (An ?_))))))));exact Az rfl rfl (⟨l3,_,m6,rfl,hO6,hVt.app (hV.sub _ _),by rw[length_append,hlt1,hlt2];omega⟩)
    ·refine Ac (Ad (Qm rfl (Qm rfl (Am ?_))));refine Aq rfl (fun c3=>?_) (fun c3=>?_)
     ·have sk:∀ms,m5∈ms->Seg h3 ms ((AF v5).add (k*2)) (cV F[k]):=fun ms hm=>(hO.rd (h:=h3) hm).seg hkF;refine Ad (Qm rfl (Qm rfl (Qm rfl (Qx (AE (k) (hO.rd (h:=h3) (ms:=[m5]) Mh).rd rfl FP Cx rfl rfl (by omega) (by omega)) rfl (Qx (oG rfl U47 Cx (sk _ (.head _))) rfl (Ao [_,_] rfl FP Cx rfl (by rfl) rfl rfl (by omega) rfl rfl rfl (fun g63=>?_)))))));refine AO 1 hO (OwnL.rd (OwnL.blk (g:=g63) (el:=47) (F:=cV) (l:=[F[k]]) 1 Ib rfl (by decide)) Mh) rfl FP Cx rfl (by omega) rfl rfl rfl H5 (by simp;omega) (by simp;omega) rfl rfl rfl (fun v6 m6 hO6=>?_);refine Qm rfl (Ak (Ai (Ab (As (Qm rfl (Qm rfl (Am (An (A8 0 rfl ?_)))))))));exact Az rfl rfl (⟨l3,_,m6,rfl,hO6,hV.app (VI.one vk),by simp⟩)
     ·refine Ac (Ad (Qm rfl (Qm rfl (Am ?_))));refine Aq rfl (fun c4=>?_) (fun c4=>?_)
      ·have sk:∀ms,m5∈ms->Seg h3 ms ((AF v5).add (k*2)) (cV F[k]):=fun ms hm=>(hO.rd (h:=h3) hm).seg hkF;have s0:∀ms,m5∈ms->Seg h3 ms ((AF v5).add (0*2)) (cV F[0]):=fun ms hm=>(hO.rd (h:=h3) hm).seg hn0;refine As (Qm rfl (Qm rfl (Qx (AE (k) (hO.rd (h:=h3) (ms:=[m5]) Mh).rd rfl FP Cx rfl rfl (by omega) (by omega)) rfl (Qx (oG rfl U47 Cx (sk _ (.head _))) rfl (Cz [.int .i64 0,.int .i64 0] rfl Cx rfl rfl (fun g7=>?_))))));refine Sa 0 [_,_] Cx rfl (by simp[Value.oneCell']) ?_;refine Am (AC fun h4 l4 hS7=>?_);have s7:∀ms,Seg h4 ms (⟨g7,0,none⟩:Addr) (cV F[k]):=fun ms=>hS7.any;have s0:∀ms,m5∈ms->Seg h4 ms ((AF v5).add (0*2)) (cV F[0]):=fun ms hm=>(hO.rd (h:=h4) hm).seg hn0;have hO1:=hO;refine As (Qm rfl (Qm rfl (Qm rfl (Qx (AE (0) (hO1.rd (h:=h4) (ms:=[m5]) Mh).rd rfl FP Cx rfl rfl (by omega) (by omega)) rfl (Qx (oG rfl U47 Cx (s0 _ (.head _))) rfl (Qx (AE (k) (hO1.rd (h:=h4) (ms:=[m5]) Mh).rd rfl FP Cx rfl rfl (by omega) (by omega)) rfl (Ee 0 k F[0] hO rfl Cx rfl rfl rfl (H5 _) rfl hkF rfl rfl (fun m6 hO6=>?_))))))));have hls:(F.set k F[0]).length=F.length:=length_set;refine Gm (Qm rfl (Qx (oG rfl U47 Cx (s7 _)) rfl (Qx (AE (0) (hO6.rd (h:=h4) (ms:=[m6]) Mh).rd rfl FP Cx rfl rfl (by omega) (by omega)) rfl ?_)));refine Ee 0 0 F[k] hO6 rfl Cx rfl rfl rfl (H5 _) rfl (by rw[length_set];exact hn0) rfl rfl (fun m7 hO7=>?_);refine Ak (Ai (Ab (As (Qm rfl (Qm rfl (Am (An ?_)))))));exact Az rfl rfl (⟨AJ l3 l4,_,m7,rfl,hO7,(hV.set v0).set vk,by simp⟩)
      ·refine Ah (Ai (Ab (As (Qm rfl (Qm rfl (Am (An ?_)))))));exact Az rfl rfl (⟨l3,F,m5,rfl,hO,hV,by omega⟩)
end Go.Proofs.Q
namespace Go.Proofs.Q
open Go.Proofs.Tryz
open Go.Eng Go.RowKit Go.Lin Go.Sort Go.Srt
variable {o:List Cl}
theorem Ml{F:List (Int×Int)}(h:(Cy o F).2=0):(∀j,j<F.length->fA o F j=none)/\(∀j,j<o.length->fB o F j=none)/\∀j,j<o.length->fC o F j=none:=by
 unfold Cy at h;cases hA:(range F.length).findSome? (fA o F) with
 | some e=>
  rw[hA]at h;obtain⟨b,_,e1⟩:=List.exists_of_findSome?_eq_some hA;unfold fA at e1;split at e1
  ·cases e1;exact absurd h (show ¬((30:Int)=0) by decide)
  ·split at e1
   ·cases e1;exact absurd h (show ¬((54:Int)=0) by decide)
   ·cases e1
 | none=>
  rw[hA]at h;cases hB:(range o.length).findSome? (fB o F) with
  | some e=>
   rw[hB]at h;obtain⟨b,_,e1⟩:=List.exists_of_findSome?_eq_some hB;unfold fB at e1;split at e1
   ·cases e1;exact absurd h (show ¬((30:Int)=0) by decide)
   ·cases e1
  | none=>
   rw[hB]at h;cases hC:(range o.length).findSome? (fC o F) with
   | some e=>
    rw[hC]at h;obtain⟨b,_,e1⟩:=List.exists_of_findSome?_eq_some hC;unfold fC at e1;split at e1
    ·cases e1;exact absurd h (show ¬((44:Int)=0) by decide)
    ·cases e1
   | none=>exact⟨K4 hA,K4 hB,K4 hC⟩
theorem Jk{F:List (Int×Int)}(h:(Cy o F).2=0):Cy o F=(0,0):=by obtain⟨hA,hB,hC⟩:=Ml h;exact MX hA hB hC
theorem WI{F:List (Int×Int)}(h:(Cy o F).2=0):∀x∈o,∀s∈x.sd,Dz (BD F) s.1<=Dz (BD F) x.id:=fun x hx s hs=>by
 obtain⟨_,_,hC⟩:=Ml h;obtain⟨j,hj,rfl⟩:=List.getElem_of_mem hx;have h1:=hC j hj;have hg:o.getD j default=o[j]:=by simp[List.getD,hj]
 unfold fC at h1;split at h1
 ·cases h1
 ·rename_i h2;have:¬Fv F s.1>Fv F o[j].id:=fun q=>h2 (by unfold YR;rw[hg];exact⟨s,hs,q⟩);show Fv F s.1<=Fv F o[j].id;omega
theorem VI.at_:∀{F:List (Int×Int)},VI F->∀c:Int,BH (Dz (BD F) c):=fun {F}=>by
 refine C6 (P:=fun F=>VI F->∀c:Int,BH (Dz (BD F) c)) (fun _ c=>by unfold Dz BD;simp[Bi];decide) (fun F p ih h c=>?_) F;unfold Dz;rw[Hq,Dd];split
 ·exact(h p (by simp)).2
 ·exact ih (fun q hq=>h q (List.mem_append_left _ hq)) c
theorem NK{F:List (Int×Int)}:FI o F 3=(Cy o F).2:=by
 unfold FI;by_cases h:(Cy o F).2=0
 ·rw[if_neg (fun q=>q h),if_pos (by decide:IsP 3),h]
 ·rw[if_pos h]
theorem QN(l:List Ce)(F:List (Int×Int))(v vf:Value)(t p:Int)(hp:Hp)(hK:RgC l)(hR:RdC hp v l)(hF:RdL cV 2 hp [] vf F)(hV:Gs F)(hE:(Cy (cn l) F).2≠0):FnT Tryz.prog 19 #[.agg #[v],vf,.int .i64 t,.int .i64 p] hp [] (fun r h' ms'=>r=.tuple #[.slice none 0 0,.int .i64 (Cy (cn l) F).2]):=by have o1:=hR.q.rd.one;have o2:=hF.rd.one;refine Ap func19 ntmps19 rfl rfl (fun w0 hw0=>?_);simp only[AX];refine As (AV [_] rfl rfl (by rfl) rfl rfl rfl (fun g4=>Qm rfl (Qm rfl (Am (AC fun h1 l1 hS=>?_)))));have hck:=fun ms=>EO (Dc l F v vf h1 hK (hR.up l1) (hF.up l1) hV) ms;generalize Cy (cn l) F=cc at *;refine Ac (As (Qx (oG rfl CF AW (Seg.any hS)) rfl (Qm rfl (Qx (AL rfl call24 rfl (hck _)) rfl (Qm rfl (Qm rfl (Qm rfl (Qm rfl (Qm rfl (BK (Qm rfl (Qm rfl (Am ?_)))))))))))));refine Aq rfl (fun hc=>?_) (fun hc=>absurd (hE) hc);refine As (Qm rfl (Qm rfl (Qm rfl (Am (An (Ae ?_))))));exact Bo rfl rfl rfl (rfl)
theorem Ph(l:List Ce)(F:List (Int×Int))(v vf:Value)(t:Int)(hp:Hp)(hK:RgC l)(hR:RdC hp v l)(hF:RdL cV 2 hp [] vf F)(hV:Gs F)(hE:(Cy (cn l) F).2≠0):FnT Tryz.prog 27 #[.agg #[v],vf,.int .i64 t] hp [] (fun r h' ms'=>r=.agg #[.slice none 0 0]):=by have o1:=hR.q.rd.one;have o2:=hF.rd.one;refine Ap func27 ntmps27 rfl rfl (fun w0 hw0=>?_);simp only[AX];refine As (AV [_] rfl rfl (by rfl) rfl rfl rfl (fun g3=>AV [_] rfl rfl (by rfl) rfl rfl rfl (fun g5=>Cz [.slice none 0 0] rfl AW rfl rfl (fun g6=>Am (Bm 2 rfl fun h1 l1 hS=>?_)))));have hck:=fun ms=>EO (Dc l F v vf h1 hK (hR.up l1) (hF.up l1) hV) ms;generalize Cy (cn l) F=cc at *;refine Ac (As (Qx (oG rfl CF AW (Seg.any hS)) rfl (Qm rfl (Qx (AL rfl call24 rfl (hck _)) rfl (Qm rfl (Qm rfl (Qm rfl (Qm rfl (Qm rfl (BK (Qm rfl (Qm rfl (Am ?_)))))))))))));refine Aq rfl (fun hc=>?_) (fun hc=>absurd (hE) hc);refine As (Qx (A3 YQ [.slice none 0 0] [] [_] rfl AW rfl rfl Qt rfl) rfl ?_);refine Sa 0 [_] AW rfl (by simp[Value.oneCell']) ?_;refine Am (An (Ae ?_));exact By (vs:=[_]) 0 rfl rfl CF rfl AW rfl rfl (rfl)
section
variable {l:List Ce} {F:List (Int×Int)} {v vf:Value} {hp:Hp}
theorem AaD(hK:RgC l)(hR:RdC hp v l)(hF:RdL cV 2 hp [] vf F)(hV:Gs F)(hI:VI F)(hl:l.length<=400):FnT Tryz.prog 15 #[.agg #[v],vf,.int .i64 3] hp [] (fun r h' ms'=>hp.le h'/\ms'=[]/\∃w,r=.tuple #[w,.int .i64 (Cy (cn l) F).2]):=by
 by_cases h:(Cy (cn l) F).2=0
 ·refine(Ks l F v vf 3 hp hK hR hF hV hI.at_ (Jk h) (by decide) hl).drops.le.mono fun r h' ms' q=>?_;obtain⟨h1,e,_,_,S,R,V,vb,mb,e1,_⟩:=q;exact⟨h1,e,vb,by rw[e1,h]⟩
 ·have hE:FI (cn l) F 3≠0:=by rw[NK];exact h
  refine(Ot l F v vf 3 hp hK hR hF hV (by decide) hE).drops.le.mono fun r h' ms' q=>?_;obtain⟨h1,e,_,e1⟩:=q;exact⟨h1,e,_,by rw[e1,NK]⟩
theorem Abm(hK:RgC l)(hR:RdC hp v l)(hF:RdL cV 2 hp [] vf F)(hV:Gs F)(hl:l.length<=400):FnT Tryz.prog 26 #[.agg #[v],vf,.int .i64 3] hp [] (fun r h' ms'=>hp.le h'/\ms'=[]/\∃(w d d':Value) (a b c a' b' c':Int),r=.tuple #[w,.agg #[.int .i64 a,.int .i64 b,.int .i64 c,d],.agg #[.int .i64 a',.int .i64 b',.int .i64 c',d'],.int .i64 (Cy (cn l) F).2]/\d.oneCell'=true/\d'.oneCell'=true/\((Cy (cn l) F).2≠0->w=.slice none 0 0/\a=0/\a'=0)):=by
 by_cases h:(Cy (cn l) F).2=0
 ·refine(PU l F v vf 3 hp hK hR hF hV (Jk h) (by decide) hl).drops.le.mono fun r h' ms' q=>?_;obtain⟨h1,e,q2,_,S,R,V,vo,er,ev,mo,mr,mv,_,e1,_,_,hr,hv⟩:=q;exact⟨h1,e,vo,er,ev,_,_,_,_,_,_,by rw[e1,h],hr.o1,hv.o1,fun n=>absurd h n⟩
 ·have hE:FI (cn l) F 3≠0:=by rw[NK];exact h
  refine(Nq l F v vf 3 hp hK hR hF hV (by decide) hE).drops.le.mono fun r h' ms' q=>?_;obtain⟨h1,e,_,e1⟩:=q;exact⟨h1,e,_,_,_,_,_,_,_,_,_,by rw[e1,NK],rfl,rfl,fun _=>⟨rfl,rfl,rfl⟩⟩
theorem Abk(hK:RgC l)(hR:RdC hp v l)(hF:RdL cV 2 hp [] vf F)(hV:Gs F)(hl:l.length<=100):FnT Tryz.prog 19 #[.agg #[v],vf,.int .i64 2,.int .i64 3] hp [] (fun r h' ms'=>hp.le h'/\ms'=[]/\∃(w:Value) (a:Int),r=.tuple #[w,.int .i64 a]/\((Cy (cn l) F).2≠0->w=.slice none 0 0/\a=(Cy (cn l) F).2)):=by
 by_cases h:(Cy (cn l) F).2=0
 ·refine(Jm l F v vf 2 3 hp hK hR hF hV (Jk h) (WI h) (by decide) (by decide) hl).drops.le.mono fun r h' ms' q=>?_;obtain⟨h1,e,_,_,D,rk,w,mW,e1,_⟩:=q;exact⟨h1,e,w,0,e1,fun n=>absurd h n⟩
 ·refine(QN l F v vf 2 3 hp hK hR hF hV h).drops.le.mono fun r h' ms' q=>?_;obtain⟨h1,e,_,e1⟩:=q;exact⟨h1,e,_,_,e1,fun _=>⟨rfl,rfl⟩⟩
end
end Go.Proofs.Q
namespace Go.Proofs.Q
open Go.Eng Go.RowKit
variable {o:List Cl} {M:List Bool} {c0 x:Int} {Q:List Int} {k:Nat}
def MkC(o:List Cl)(M:List Bool)(x:Int):Prop:=∃k,k<o.length/\(o.getD k default).id=x/\M.getD k false=true
structure ReI(o:List Cl)(c0:Int)(M:List Bool)(Q:List Int):Prop where
 len:M.length=o.length
 rM:∀x,MkC o M x->Rch (UM o) c0 x
 rQ:∀x∈Q,Rch (UM o) c0 x
 st:c0∈Q\/MkC o M c0
 cl:∀x,MkC o M x->∀s∈UM o x,s∈Q\/MkC o M s
theorem ReI.start(o:List Cl)(c0:Int):ReI o c0 (replicate o.length false) [c0]:=by
 have hn:∀x,¬MkC o (replicate o.length false) x:=fun x ⟨k,hk,_,h⟩=>by simp[List.getD,hk]at h
 exact⟨by simp,fun x h=>absurd h (hn x),fun x h=>by rw[List.mem_singleton.1 h];exact .refl _,.inl (List.mem_singleton.2 rfl),fun x h=>absurd h (hn x)⟩
theorem ReI.mem(R:Rgt o)(hc:c0∈o.map Cl.id)(I:ReI o c0 M Q)(h:Rch (UM o) c0 x):∃y∈o,y.id=x:=by
 have:x∈o.map Cl.id:=by
  induction h with
  | refl=>exact hc
  | step h hk ih=>
   obtain⟨z,hz,rfl⟩:=List.mem_map.1 ih;unfold UM at hk;rw[CP R.nd hz]at hk;obtain⟨s,hs,rfl⟩:=List.mem_map.1 hk;obtain⟨w,hw,e,_⟩:=R.sid z hz s hs;exact List.mem_map.2 ⟨w,hw,e⟩
 obtain⟨y,hy,e⟩:=List.mem_map.1 this;exact⟨y,hy,e⟩
theorem ReI.skip(I:ReI o c0 M (x::Q))(hx:MkC o M x):ReI o c0 M Q:=by
 refine⟨I.len,I.rM,fun y hy=>I.rQ y (mem_cons_of_mem _ hy),?_,fun y hy s hs=>?_⟩
 ·rcases I.st with h|h
  ·rcases List.mem_cons.1 h with rfl|h
   ·exact .inr hx
   ·exact .inl h
  ·exact .inr h
 ·rcases I.cl y hy s hs with h|h
  ·rcases List.mem_cons.1 h with rfl|h
   ·exact .inr hx
   ·exact .inl h
  ·exact .inr h
theorem MkC.set(hk:k<M.length):MkC o (M.set k true) x<->MkC o M x\/(k<o.length/\(o.getD k default).id=x):=by
 constructor
 ·rintro⟨q,h1,h2,h3⟩;by_cases e:k=q
  ·subst e;exact .inr ⟨h1,h2⟩
  ·refine .inl ⟨q,h1,h2,?_⟩
   rwa [show(M.set k true).getD q false=M.getD q false by simp[List.getD,List.getElem?_set_ne e]]at h3
 ·rintro(⟨q,h1,h2,h3⟩|⟨h1,h2⟩)
  ·refine⟨q,h1,h2,?_⟩;by_cases e:k=q
   ·subst e;simp[List.getD,hk]
   ·rw[show(M.set k true).getD q false=M.getD q false by simp[List.getD,List.getElem?_set_ne e]];exact h3
  ·exact⟨k,h1,h2,by simp[List.getD,hk]⟩
theorem ReI.mark(R:Rgt o)(I:ReI o c0 M (x::Q))(hk:k<o.length)(e:(o.getD k default).id=x):ReI o c0 (M.set k true) (Q++(o.getD k default).sd.map Prod.fst):=by
 have hkM:k<M.length:=by rw[I.len];exact hk
 have hs:UM o x=(o.getD k default).sd.map Prod.fst:=by unfold UM;rw[<-e,CP R.nd (DV hk)]
 have hrx:=I.rQ x Mh;refine⟨by rw[length_set];exact I.len,fun y hy=>?_,fun y hy=>?_,?_,fun y hy s hs'=>?_⟩
 ·rcases (MkC.set hkM).1 hy with h|⟨_,h⟩
  ·exact I.rM y h
  ·rw[<-h,e];exact hrx
 ·rcases List.mem_append.1 hy with h|h
  ·exact I.rQ y (mem_cons_of_mem _ h)
  ·exact .step hrx (by rw[hs];exact h)
 ·rcases I.st with h|h
  ·rcases List.mem_cons.1 h with rfl|h
   ·exact .inr ((MkC.set hkM).2 (.inr ⟨hk,e⟩))
   ·exact .inl (List.mem_append.2 (.inl h))
  ·exact .inr ((MkC.set hkM).2 (.inl h))
 ·rcases (MkC.set hkM).1 hy with h|⟨_,h⟩
  ·rcases I.cl y h s hs' with h2|h2
   ·rcases List.mem_cons.1 h2 with rfl|h2
    ·exact .inr ((MkC.set hkM).2 (.inr ⟨hk,e⟩))
    ·exact .inl (List.mem_append.2 (.inl h2))
   ·exact .inr ((MkC.set hkM).2 (.inl h2))
  ·rw[<-h,e,hs]at hs';exact .inl (List.mem_append.2 (.inr hs'))
theorem ReI.all(R:Rgt o)(hc:c0∈o.map Cl.id)(I:ReI o c0 M [])(hk:k<o.length):M.getD k false=true<->(o.getD k default).id∈Uo o c0:=by
 have hcl:∀x,Rch (UM o) c0 x->MkC o M x:=fun x h=>by
  induction h with
  | refl=>exact I.st.resolve_left nofun
  | step h hk' ih=>exact(I.cl _ ih _ hk').resolve_left nofun
 rw[cloL_mem];constructor
 ·intro h;exact⟨List.mem_map.2 ⟨_,DV hk,rfl⟩,I.rM _ ⟨k,hk,rfl,h⟩⟩
 ·rintro⟨_,h⟩;obtain⟨q,h1,h2,h3⟩:=hcl _ h;have:=Lq R.nd h1 hk h2;subst this;exact h3
def Tn(M:List Bool)(Q:List Int):Nat:=M.count false*70+Q.length
theorem VD(hk:k<M.length)(h:M.getD k false=false){S:List Int}(hS:S.length<=64):Tn (M.set k true) (Q++S)<Tn M (x::Q):=by
 have hc:(M.set k true).count false+1=M.count false:=by
  have hg:M[k]=false:=by simpa[List.getD,hk] using h
  have h1:=List.count_set (a:=true) (b:=false) (l:=M) (i:=k) hk;rw[hg]at h1;have h2:0<M.count false:=List.count_pos_iff.2 (by rw[<-hg];exact getElem_mem hk);simp at h1;omega
 unfold Tn;rw[length_append,length_cons];omega
theorem VC(M:List Bool)(x:Int)(Q:List Int):Tn M Q<Tn M (x::Q):=by unfold Tn;rw[length_cons];omega
def Js(o:List Cl)(M:List Bool)(n:Nat):List Int:=((range n).filter fun k=>M.getD k false).map fun k=>(o.getD k default).id
theorem VX(R:Rgt o)(hc:c0∈o.map Cl.id)(I:ReI o c0 M [])(x:Int):x∈Js o M o.length<->x∈Uo o c0:=by
 unfold Js;rw[List.mem_map];constructor
 ·rintro⟨k,hk,rfl⟩;obtain⟨h1,h2⟩:=List.mem_filter.1 hk;exact(I.all R hc (List.mem_range.1 h1)).1 h2
 ·intro h;obtain⟨y,hy,rfl⟩:=List.mem_map.1 (cloL_mem.1 h).1;obtain⟨h1,h2⟩:=Hr hy R.nd;refine⟨Pr o y.id,List.mem_filter.2 ⟨List.mem_range.2 h1,?_⟩,by rw[h2]⟩;exact(I.all R hc h1).2 (by rw[h2];exact h)
theorem Su(o:List Cl)(M:List Bool)(n:Nat):Js o M (n+1)=Js o M n++if M.getD n false then [(o.getD n default).id] else []:=by
 unfold Js;rw[List.range_succ,List.filter_append,map_append];congr 1;cases h:M.getD n false
 ·rw[filter_cons,h];simp
 ·rw[filter_cons,h];simp
def nM(L:List Int)(k:Int):Int:=L.getD (k%(L.length:Int)).toNat 0%6
def R6(L:List Int)(ks:List Int):Int:=if L=[] then 0 else ks.foldl (fun m k=>max m (nM L k)) 0
theorem Gx(L:List Int)(x:Int):∀(ks:List Int) (m:Int),ks.foldl (fun m k=>max m (nM L k)) m<=x<->m<=x/\∀k∈ks,nM L k<=x
 | [],m=>by simp
 | k::ks,m=>by rw[List.foldl_cons,Gx L x ks];simp only[mem_cons,forall_eq_or_imp,Int.max_le];exact⟨fun⟨⟨a,b⟩,c⟩=>⟨a,b,c⟩,fun⟨a,b,c⟩=>⟨⟨a,b⟩,c⟩⟩
theorem Zb(L:List Int)(k:Int):0<=nM L k/\nM L k<=5:=by unfold nM;omega
theorem W0(L ks:List Int):0<=R6 L ks/\R6 L ks<=5:=by
 unfold R6;split
 ·decide
 ·have h1:=((Gx L (ks.foldl (fun m k=>max m (nM L k)) 0) ks 0).1 (Int.le_refl _)).1;have h2:=(Gx L 5 ks 0).2 ⟨by decide,fun k _=>(Zb L k).2⟩;exact⟨h1,h2⟩
theorem KW{L ks ks':List Int}(h:∀k∈ks,k∈ks'):R6 L ks<=R6 L ks':=by
 unfold R6;split
 ·exact Int.le_refl _
 ·have h1:=(Gx L (ks'.foldl (fun m k=>max m (nM L k)) 0) ks' 0).1 (Int.le_refl _);exact(Gx L _ ks 0).2 ⟨h1.1,fun k hk=>h1.2 k (h k hk)⟩
theorem Sm{L ks ks':List Int}(h:∀k,k∈ks<->k∈ks'):R6 L ks=R6 L ks':=Int.le_antisymm (KW fun k hk=>(h k).1 hk) (KW fun k hk=>(h k).2 hk)
noncomputable def GA(o:List Cl)(L:List Int)(c:Int):Int:=R6 L (Uo o c)
theorem Tg(G:Rgt o)(L:List Int){x:Cl}(hx:x∈o){s:Int×Int}(hs:s∈x.sd):GA o L s.1<=GA o L x.id:=by refine KW fun k hk=>?_;rw[cloL_mem]at hk ⊢;refine⟨hk.1,Rch.trans (Rch.step (Rch.refl _) ?_) hk.2⟩;unfold UM;rw[CP G.nd hx];exact List.mem_map.2 ⟨s,hs,rfl⟩
noncomputable def He(o:List Cl)(L:List Int)(f:Int)(n:Nat):List (Int×Int):=(o.take n).map fun x=>(x.id,GA o L x.id*f)
theorem ZV(G:Rgt o)(L:List Int)(f:Int)(hf:0<=f/\f<=1000):YI o (He o L f o.length):=by
 have hb:∀c,0<=GA o L c/\GA o L c<=5:=fun c=>W0 _ _;have hm:∀a b:Int,a<=b->a*f<=b*f:=fun a b h=>Int.mul_le_mul_of_nonneg_right h hf.1
 have:=Uu G (fun c=>GA o L c*f) (fun y _=>by
  have h1:=hb y.id;have h2:=hm 0 _ h1.1;have h3:=hm _ 5 h1.2
  constructor<;>omega) fun x hx s hs=>hm _ _ (Tg G L hx hs)
 unfold He
 rwa [take_length]
end Go.Proofs.Q

namespace Go.Proofs.Q
open Go.Proofs.Tryz
open Go.Eng Go.RowKit
theorem P7(A:List Ce)(v vq:Value)(c0:Int)(hp:Hp)(F:RgtF (A.map Ce.c))(hc:c0∈(A.map Ce.c).map Cl.id)(hR:RdL cC 3 hp [] v A)(hAs:∀a∈A,RdL cD 2 hp [] a.v a.c.sd)(hq:RdL cI 1 hp [] vq [c0]):FnT Tryz.prog 119 #[v,vq] hp [] (fun r h' ms'=>hp.le h'/\∃m M,ms'=[m]/\OwnL cB 1 4 m r M/\ReI (A.map Ce.c) c0 M []):=by
 have o1:=hR.rd.one;have o2:=hq.rd.one;have G:=F.rgt;obtain⟨o,ho⟩:∃o,A.map Ce.c=o:=⟨_,rfl⟩
 rw[ho]at F G hc;rw[ho];have hAl:A.length=o.length:=by rw[<-ho,length_map]
 have hol:o.length<=4000:=G.n;have hge:∀i (hi:i<A.length),o[i]'(by omega)=A[i].c:=fun i hi=>by subst ho;simp
 refine Ap func119 ntmps119 rfl rfl (fun w0 hw0=>?_);simp only[AX];refine As (Qm rfl (BK (Qm rfl (Qx (Ar hR.rd.any rfl Bh rfl) rfl (CD (n:=_) rfl Qh W7 rfl rfl rfl (by rfl) (by rfl) (by omega) (by omega) rfl rfl rfl (fun g11=>Qm rfl (Am ?_)))))));have hM0:=R3 g11 A.length (by omega);refine As ?_;refine Ax [] [] [] rfl AU A6 rfl (by omega) (by kernel_rfl) (by repeat (first|exact trivial|refine⟨⟨by first|rfl|exact(hR.rd.any).cells|exact Rd.cells ‹_›|exact(RdL.rd ‹_›).cells,rfl,rfl⟩,?_⟩)) rfl rfl rfl rfl (fun g12=>?_);refine Qm rfl ?_;refine Kz 0 (EC g12 Bg).q hq.any rfl AU A6 rfl (by omega) rfl rfl rfl (fun a _=>Cb a) (by(simp;done)) (by(simp;done)) rfl rfl rfl (fun v6 m6 hO6=>?_);have hI0:=ReI.start o c0;have hr0:Tn (replicate o.length false) [c0]<=300000:=by unfold Tn;rw[List.count_replicate_self];simp;omega
 refine Qm rfl (Am (Ac (Ag ?_)))
 refine Ay (fun q sl h' ms'=>∃(M:List Bool) (Q:List Int) (m5 m6:Hp) (v6:Value),q=Tn M Q/\sl=[(0,v),(4,.slice none 0 0),(5,.slice (some ⟨g11,0,none⟩) A.length A.length),(6,v6)]/\hp=h'/\ms'=[m6,m5]/\Tn M Q<=300000/\ReI o c0 M Q/\OwnL cB 1 4 m5 (.slice (some ⟨g11,0,none⟩) A.length A.length) M/\OwnQ cI 1 3 m6 v6 Q)
  _ _ ⟨replicate o.length false,[c0],_,_,_,rfl,rfl,rfl,rfl,hr0,hI0,by rw[<-hAl];exact hM0,hO6⟩ Qs ?_
 rintro q sl h' ms' ⟨M,Q,m5,m6,v6,rfl,rfl,rfl,rfl,hr,hI,hO5,hO6⟩;have ov6:=hO6.o1;refine Ac (As (Qm rfl (Qx (Ar (hO6.rd (h:=hp) (ms:=[m6,m5]) Mh).rd rfl AU rfl) rfl (Qm rfl (Am ?_)))));refine Aq rfl (fun hql=>?_) (fun hql=>?_)
 ·obtain⟨x,Q,rfl⟩:∃x Q',Q=x::Q':=by
   cases Q with
   | nil=>simp at hql
   | cons x Q'=>exact⟨x,Q',rfl⟩
  have cq:Cell hp [m6,m5] ((AF v6).add (0*1)) (.int .i64 x):=(hO6.rd (h:=hp) (ms:=[m6,m5]) Mh).cell0 (j:=0) (by simp) rfl;obtain⟨y,hy,ey⟩:=hI.mem G hc (hI.rQ x Mh);obtain⟨hat,hgk⟩:=Hi F.inc hy;rw[ey]at hat hgk;obtain⟨k,hk⟩:∃k:Nat,I5 o x=k:=⟨_,(Int.toNat_of_nonneg hat).symm⟩
  rw[hk,Int.toNat_natCast]at hgk;have hko:k<o.length:=by have:=HT o x;omega
  have hkA:k<A.length:=by omega
  have hkM:k<M.length:=by rw[hI.len];exact hko
  have hkid:(o.getD k default).id=x:=by rw[hgk,ey]
  refine Ah (Ab (Ag (As (Qm rfl (Qm rfl (Qx (AE 0 (hO6.rd (h:=hp) (ms:=[m6,m5]) Mh).rd rfl AU A6 rfl rfl rfl (by omega)) rfl (Ql rfl U3 (cq) ?_)))))));refine Qx (AL rfl call117 rfl ((by have:=WG A v x hp (by omega) (by rw[ho];exact F.inc.imp fun h=>Int.le_of_lt h) hR [m6,m5];rwa [ho,hk]at this))) rfl ?_;refine Qm rfl (BK (Qm rfl (Qx (CE 1 (hO6.rd (h:=hp) (ms:=[m6,m5]) Mh).rd rfl AU A6 rfl rfl rfl (by simp)) rfl (Qm rfl (Am ?_)))));have hO6:=hO6.tail;obtain⟨w6,hw6⟩:∃w,B4 1 v6 1 (Q.length+1)=w:=⟨_,rfl⟩
  simp only[length_cons,hw6]at hO6 ⊢;have ov6:=hO6.o1;have cb:∀ms,m5∈ms->Cell hp ms ((AF (.slice (some ⟨g11,0,none⟩) A.length A.length)).add (k*1)) (.bool M[k]):=fun ms hm=>(hO5.rd hm).cell0 hkM rfl;refine Ac (As (Qm rfl (Qm rfl (Qm rfl ?_))));refine AQ (t:=27) rfl (fun hs=>?_) (fun hs=>?_)
  ·omega
  ·refine Qg (Au rfl rfl) rfl (Qg (Au rfl rfl) rfl (Qg (BM (k) rfl Qh W7 rfl rfl (by omega) (by omega)) rfl (Qg (oL rfl U4 (cb _ (.tail _ (.head _)))) rfl (Qm rfl (Am ?_)))));refine Bz rfl (fun hb=>?_) (fun hb=>?_)
   ·have hmk:MkC o M x:=⟨k,hko,hkid,by rw[show M.getD k false=M[k] by simp[List.getD,hkM]];exact hb⟩
    have hlt:=VC M x Q;refine Av (Aa (Af ?_));exact Al (Tn M Q) _ hlt ⟨M,Q,m5,m6,w6,rfl,rfl,rfl,rfl,by omega,hI.skip hmk,hO5,hO6⟩ Qs
   ·have hmf:M.getD k false=false:=by rw[show M.getD k false=M[k] by simp[List.getD,hkM]];exact hb
    obtain⟨z,hz⟩:∃z,A[k]=z:=⟨_,rfl⟩
    have hzo:o.getD k default=z.c:=by rw[show o.getD k default=o[k] by simp[List.getD,hko],hge k hkA,hz]
    have hI':=hI.mark G hko hkid;rw[hzo]at hI';have hX:=hAs z (by rw[<-hz];exact getElem_mem hkA);have hzl:z.c.sd.length<=64:=by have:=(F.bds (getElem_mem hko)).2.1;rwa [hge k hkA,hz]at this
    have hlt:=VD (x:=x) (Q:=Q) (S:=z.c.sd.map Prod.fst) hkM hmf (by rw[length_map];omega);have hQl:Q.length<=300000:=by unfold Tn at hr;rw[length_cons]at hr;omega
    have cx:∀ms,Cell hp ms (((AF v).add (k*3)).add 2) z.v:=fun ms=>by rw[<-hz];exact(hR.any (ms:=ms)).cell (j:=k) hkA (f:=2) rfl
    refine Ah (Ab (As (Qm rfl (Qm rfl (Qx (BM (k) rfl Qh W7 rfl rfl (by omega) (by omega)) rfl (CK (F:=cB) (f:=fun x=>.bool x) (a:=true) 1 k (fun _=>rfl) hO5 rfl W7 rfl rfl rfl rfl hkM rfl rfl (fun m7 hO7=>BK (Qm rfl (Am (Ag ?_))))))))))
    refine Ay (fun q sl h' ms'=>∃(j:Nat) (m6:Hp) (v6:Value),q=z.c.sd.length-j/\sl=[(0,v),(4,.slice none 0 0),(5,.slice (some ⟨g11,0,none⟩) A.length A.length),(6,v6),(7,.int .i64 k),(8,.int .i64 j)]/\hp=h'/\ms'=[m6,m7]/\j<=z.c.sd.length/\OwnQ cI 1 3 m6 v6 (Q++(z.c.sd.take j).map Prod.fst))
     (z.c.sd.length-0) _ ⟨0,m6,w6,rfl,rfl,rfl,rfl,by omega,by simpa using hO6⟩ Qs ?_
    rintro q sl h' ms' ⟨j,m6,v6,rfl,rfl,rfl,rfl,hj,hO6⟩;have ov6:=hO6.o1;have hql:(Q++(z.c.sd.take j).map Prod.fst).length<=400000:=by rw[length_append,length_map,length_take];omega
    refine Ac (As (Qm rfl (Qm rfl (Qm rfl (Qx (AE _ hR.rd.any rfl Bh AI rfl rfl rfl (by omega)) rfl (Qf BB rfl (Ql rfl BZ (cx _) (Qx (Ar hX.rd.any rfl BZ rfl) rfl (Qm rfl (Am ?_))))))))));refine Aq rfl (fun hjl=>?_) (fun hjl=>?_)
    ·have hjn:j<z.c.sd.length:=by omega
     obtain⟨s,hs⟩:∃s,z.c.sd[j]=s:=⟨_,rfl⟩
     have cs:∀ms,Cell hp ms (((AF z.v).add (j*2)).add 0) (.int .i64 s.1):=fun ms=>by
      have:Seg hp ms ((AF z.v).add (j*2)) (cD s):=by rw[<-hs];exact(hX.any (ms:=ms)).seg hjn
      exact this 0 _ rfl
     refine Ah (Ab (Ac (Ag (Ad (Qm rfl (Qm rfl (Qm rfl (Qx (BF (k) hR.rd.any rfl Bh AI rfl rfl) rfl (Qf BB rfl (Ql rfl BZ (cx _) (Qm rfl (Qx (BF (j) hX.rd.any rfl BZ AM rfl rfl) rfl (Qf B6 rfl (Ql rfl U3 (cs _) (Ao [_] rfl AU A6 rfl (by rfl) rfl rfl (by omega) rfl rfl rfl (fun g56=>Kz 1 hO6 (RdL.one Bg (x:=s.1) Mh rfl) rfl AU A6 rfl (by omega) rfl rfl rfl (fun a _=>Cb a) (by(try simp only[length_singleton]);omega) (by(try simp only[length_singleton]);omega) rfl rfl rfl (fun v9 m9 hO9=>?_)))))))))))))))));have ov9:=hO9.o1;refine Qm rfl (Ak (Ai (Ab (Ad (Qm rfl (Qx (oA rfl) rfl (Qm rfl (Ak (AN ?_)))))))));exact Al (z.c.sd.length-(j+1)) _ (by omega) ⟨j+1,m9,v9,rfl,rfl,rfl,rfl,by omega,by rw[List.take_succ_eq_append_getElem hjn,map_append,<-List.append_assoc,hs];exact hO9⟩ Qs
    ·obtain rfl:j=z.c.sd.length:=by omega
     rw[take_length]at hO6;refine Av (Aa (Aa (Af (Ai ?_))));exact Al (Tn (M.set k true) (Q++z.c.sd.map Prod.fst)) _ hlt ⟨M.set k true,Q++z.c.sd.map Prod.fst,m7,m6,v6,rfl,rfl,rfl,rfl,by omega,hI',hO7,hO6⟩ Qs
 ·obtain rfl:Q=[]:=by
   cases Q with
   | nil=>rfl
   | cons x Q'=>simp at hql
  refine Av (Aa (Aa (Af (Ab (As (Qm rfl (Qm rfl (Am (An (AN ?_))))))))));exact Az rfl rfl (⟨C9,m5,M,rfl,hO5,hI⟩)
theorem Oz(l:List Ce)(v vq:Value)(c0:Int)(hp:Hp)(hK:RgC l)(hR:RdC hp v l)(hq:RdL cI 1 hp [] vq [c0])(hc:c0∈(cn l).map Cl.id):FnT Tryz.prog 50 #[.agg #[v],vq] hp [] (fun r h' ms'=>hp.le h'/\∃m M,ms'=[m]/\OwnL cI 1 3 m r (Js (cn l) M (cn l).length)/\ReI (cn l) c0 M []):=by
 have o1:=hR.q.rd.one;have o2:=hq.rd.one;have hln:=hK.r.n;rw[length_map]at hln;refine Ap func50 ntmps50 rfl rfl (fun w0 hw0=>?_);simp only[AX];refine As (AV [_] rfl rfl (by rfl) rfl rfl rfl (fun g2=>Qm rfl (Am (Bm 0 rfl fun h1 l1 hS=>?_))));have hR:=hR.up l1;have hq:=hq.up l1;refine As (Qx (oG rfl CF AW (Seg.any hS)) rfl (Qc call49 rfl (F5 l v h1 hK.r.cs hR) (fun rC h2 ms2 l2 hF=>?_)));obtain⟨l2',mC,A,rfl,hOC,hA,hAs⟩:=hF;rw[E5 hK.r]at hA;obtain⟨o,ho⟩:∃o,cn l=o:=⟨_,rfl⟩
 have hA:A.map Ce.c=o:=by rw[hA,<-ho];rfl
 have F:RgtF o:=by rw[<-ho];exact hK.F
 have G:=F.rgt;rw[ho]at hc;rw[ho];have hAl:A.length=o.length:=by rw[<-hA,length_map]
 have hol:o.length<=4000:=G.n;have oC:=hOC.o1;refine Qm rfl (Am (Bu hOC fun h3 l3 hQ=>?_));have hAs:∀a∈A,RdL cD 2 h3 [] a.v a.c.sd:=fun a ha=>(hAs a ha).up l3;have l13:=AJ l2' l3;have hge:∀i (hi:i<A.length),o[i]'(by omega)=A[i].c:=fun i hi=>by subst hA;simp
 refine As (Qm rfl (Qm rfl ?_));refine Qc call119 rfl (P7 A rC vq c0 h3 (by rw[hA];exact F) (by rw[hA];exact hc) hQ hAs (hq.up l13)) (fun rM h4 ms4 l4 hF=>?_);obtain⟨l4',mM,M,rfl,hOM,hI⟩:=hF;rw[hA]at hI;have oM_:=hOM.o1;have hQ:=hQ.up l4';refine Qm rfl (Am (Bu hOM fun h5 l5 hB=>?_));have hQ:=hQ.up l5;refine As (Qm rfl (Am (Ac (As (Qm rfl (Am (Ag (BJ ?_))))))))
 refine Ay (fun q sl h' ms'=>∃(i:Nat) (v7:Value) (m:Hp),q=A.length-i/\sl=[(4,.slice none 0 0),(5,rC),(6,rM),(7,v7),(8,.int .i64 i)]/\h5=h'/\ms'=[m]/\i<=A.length/\OwnL cI 1 3 m v7 (Js o M i))
  (A.length-0) _ ⟨0,_,Hp.emp,rfl,rfl,rfl,rfl,by omega,OwnL.nil Bg⟩ Qs ?_
 rintro q sl h' ms' ⟨i,v7,m7,rfl,rfl,rfl,rfl,hi,hO7⟩;have ov7:=hO7.o1;refine Ac (As (Qm rfl (Qm rfl (Qx (Ar hQ.rd.any rfl Bh rfl) rfl (Qm rfl (Am ?_))))));refine Aq rfl (fun hlt=>?_) (fun hlt=>?_)
 ·have hil:i<A.length:=by omega
  have hio:i<o.length:=by omega
  have hiM:i<M.length:=by rw[hI.len];exact hio
  obtain⟨x,hx⟩:∃x,A[i]=x:=⟨_,rfl⟩
  have hxo:o.getD i default=x.c:=by rw[show o.getD i default=o[i] by simp[List.getD,hio],hge i hil,hx]
  have cb:∀ms,Cell h5 ms ((AF rM).add (i*1)) (.bool M[i]):=fun ms=>(hB.any (ms:=ms)).cell0 hiM rfl;have cx:∀ms,Cell h5 ms (((AF rC).add (i*3)).add 0) (.int .i64 x.c.id):=fun ms=>by rw[<-hx];exact(hQ.any (ms:=ms)).cell (j:=i) hil (f:=0) rfl
  have hk:=Su o M i;rw[hxo,show M.getD i false=M[i] by simp[List.getD,hiM]]at hk
  have hfl:(Js o M i).length<=4000:=by unfold Js;rw[length_map];exact Nat.le_trans (List.length_filter_le _ _) (by rw[length_range];omega)
  refine Ah (Ab (Ac (Ag (As (Qm rfl (Qm rfl (Qx (BF (i) hB.rd.any rfl Qh W7 rfl rfl) rfl (Ql rfl U4 (cb _) (Am ?_)))))))));refine Bz rfl (fun hb=>?_) (fun hb=>?_)
  ·rw[hb,if_pos rfl]at hk;refine Ad (Qm rfl (Qm rfl (Qm rfl (Qx (BF (i) hQ.rd.any rfl Bh AI rfl rfl) rfl (Qf Bt rfl (Ql rfl U3 (cx _) (Ao [_] rfl AU A6 rfl (by rfl) rfl rfl (by omega) rfl rfl rfl (fun g30=>AO 1 hO7 (RdL.one Bg (x:=x.c.id) Mh rfl) rfl AU A6 rfl (by omega) rfl rfl rfl Cb (by(try simp only[length_singleton]);omega) (by(try simp only[length_singleton]);omega) rfl rfl rfl (fun v9 m9 hO9=>?_)))))))));rw[<-hk]at hO9;have ov9:=hO9.o1;refine Qm rfl (Ak (Ai (Ab (Ad (Qm rfl (Qx (oA rfl) rfl (Qm rfl (Ak (AN ?_)))))))));exact Al (A.length-(i+1)) _ (by omega) ⟨i+1,v9,m9,rfl,rfl,rfl,rfl,by omega,hO9⟩ Qs
  ·rw[hb,if_neg (by decide),List.append_nil]at hk;refine Ah (Ai (Ab (Ad (Qm rfl (Qx (oA rfl) rfl (Qm rfl (Ak ?_)))))));exact Al (A.length-(i+1)) _ (by omega) ⟨i+1,v7,m7,rfl,rfl,rfl,rfl,by omega,by rw[hk];exact hO7⟩ Qs
 ·obtain rfl:i=A.length:=by omega
  refine Av (Aa (Aa (Af (Ab (As (Qm rfl (Qm rfl (Am (An ?_)))))))));exact Az rfl rfl (⟨AJ l1 (AJ l13 (AJ l4' l5)),m7,M,rfl,by rw[hAl]at hO7;exact hO7,hI⟩)
variable {L:List Int}
theorem PA{α:Type}{F:α->List Value}{h:Hp}{g:Nat}{x:α}(n:Nat)(hF:∀x,(F x).length=n)(hS:Seg h [] ⟨g,0,none⟩ (F x)):RdL F n h [] (.slice (some ⟨g,0,none⟩) 1 1) [x]:=
 ⟨⟨some ⟨g,0,none⟩,1,rfl,Nat.le_refl _,by decide,by rw[Bf hF],fun _=>⟨_,rfl,by simpa using hS⟩⟩,hF⟩
theorem XI(ks:List Int):R6 [] ks=0:=by unfold R6;rw[if_pos rfl]
def X3(L ks:List Int)(j:Nat):Int:=(ks.take j).foldl (fun m k=>max m (nM L k)) 0
theorem VB{ks:List Int}{j:Nat}(hj:j<ks.length):X3 L ks (j+1)=max (X3 L ks j) (nM L ks[j]):=by unfold X3;rw[List.take_succ_eq_append_getElem hj,List.foldl_append];rfl
theorem YJ{ks:List Int}(h:L≠[]):X3 L ks ks.length=R6 L ks:=by unfold X3 R6;rw[if_neg h,take_length]
theorem Z9(L ks:List Int)(j:Nat):0<=X3 L ks j/\X3 L ks j<=5:=by have h1:=((Gx L (X3 L ks j) (ks.take j) 0).1 (Int.le_refl _)).1;have h2:=(Gx L 5 (ks.take j) 0).2 ⟨by decide,fun k _=>(Zb L k).2⟩;exact⟨h1,h2⟩
theorem XS{o:List Cl}{M:List Bool}{n:Nat}(hn:n<=o.length):∀y∈Js o M n,∃x∈o,x.id=y:=fun y hy=>by unfold Js at hy;obtain⟨k,hk,rfl⟩:=List.mem_map.1 hy;have:=List.mem_range.1 (List.mem_filter.1 hk).1;exact⟨_,DV (by omega),rfl⟩
theorem QV{o:List Cl}{f:Int}{i:Nat}(hi:i<o.length):He o L f (i+1)=He o L f i++[(o[i].id,GA o L o[i].id*f)]:=by unfold He;rw[List.take_succ_eq_append_getElem hi,map_append];rfl
theorem Ta(l:List Ce)(v vL:Value)(L:List Int)(f:Int)(hp:Hp)(hK:RgC l)(hR:RdC hp v l)(hL:RdL cI 1 hp [] vL L)(hLb:∀x∈L,BH x)(hf:0<=f/\f<=1000):FnT Tryz.prog 14 #[.agg #[v],vL,.int .i64 f] hp [] (fun r h' ms'=>hp.le h'/\∃m,ms'=[m]/\OwnL cV 2 47 m r (He (cn l) L f (cn l).length)):=by
 have o1:=hR.q.rd.one;have o2:=hL.rd.one;have hln:=hK.r.n;rw[length_map]at hln;refine Ap func14 ntmps14 rfl rfl (fun w0 hw0=>?_);simp only[AX];refine As (AV [_] rfl rfl (by rfl) rfl rfl rfl (fun g3=>Qm rfl (Am (Bm 0 rfl fun h1 l1 hS=>?_))));have hR:=hR.up l1;have hL:=hL.up l1;refine As (Qm rfl (BK (Qx (oG rfl CF AW (Seg.any hS)) rfl (Qc call49 rfl (F5 l v h1 hK.r.cs hR) (fun rC h2 ms2 l2 hF=>?_)))));obtain⟨l2',mC,A,rfl,hOC,hA,hAs⟩:=hF;rw[E5 hK.r]at hA;obtain⟨o,ho⟩:∃o,cn l=o:=⟨_,rfl⟩
 have hA:A.map Ce.c=o:=by rw[hA,<-ho];rfl
 have F:RgtF o:=by rw[<-ho];exact hK.F
 have G:=F.rgt;rw[ho];have hAl:A.length=o.length:=by rw[<-hA,length_map]
 have hol:o.length<=4000:=G.n;have oC:=hOC.o1;refine Qm rfl (Am (Bu hOC fun h3 l3 hQ=>?_));have l13:=AJ l2' l3;have hge:∀i (hi:i<A.length),o[i]'(by omega)=A[i].c:=fun i hi=>by subst hA;simp
 refine Ac (As (Qm rfl (Am (Ag (BJ ?_)))))
 refine Ay (fun q sl h' ms'=>∃(i:Nat) (v7:Value) (m:Hp),q=A.length-i/\sl=[(1,vL),(2,.int .i64 f),(3,.pointer (some ⟨g3,0,none⟩)),(6,.slice none 0 0),(7,v7),(8,rC),(9,.int .i64 i)]/\h3.le h'/\ms'=[m]/\i<=A.length/\OwnL cV 2 47 m v7 (He o L f i))
  (A.length-0) _ ⟨0,_,Hp.emp,rfl,rfl,C9,rfl,by omega,OwnL.nil Ib⟩ Qs ?_
 rintro q sl h4 ms' ⟨i,v7,m7,rfl,rfl,l4,rfl,hi,hO7⟩;have ov7:=hO7.o1;have hQ:=hQ.up l4;have hL:=hL.up (AJ l13 l4);have hR:=hR.up (AJ l13 l4);have hS:Seg h4 [] ⟨g3,0,none⟩ [v]:=hS.le (AJ l13 l4);refine Ac (As (Qm rfl (Qm rfl (Qx (Ar hQ.rd.any rfl Bh rfl) rfl (Qm rfl (Am ?_))))));refine Aq rfl (fun hlt=>?_) (fun hlt=>?_)
 ·have hil:i<A.length:=by omega
  have hio:i<o.length:=by omega
  obtain⟨x,hx⟩:∃x,A[i]=x:=⟨_,rfl⟩
  have hxo:o[i]=x.c:=by rw[hge i hil,hx]
  have hxm:x.c∈o:=by rw[<-hxo];exact getElem_mem hio
  have cx:∀ms,Cell h4 ms (((AF rC).add (i*3)).add 0) (.int .i64 x.c.id):=fun ms=>by rw[<-hx];exact(hQ.any (ms:=ms)).cell (j:=i) hil (f:=0) rfl
  refine Ah (Ab (Ac (Ag (As (Qm rfl (Am (Ac (Bc 7 CS (by kernel_rfl) rfl (AR (oG rfl CF AW (Seg.any hS)) rfl rfl (Wm rfl (Wm rfl (AR (BF (i) hQ.rd.any rfl Bh AI rfl rfl) rfl rfl (Wf Bt rfl (Wl rfl U3 (cx _) (Vv (EL [_] rfl AU A6 rfl (by rfl) rfl rfl (by omega)) rfl rfl (IK (fun g27=>DP fun h5 l5 hS5=>?_)))))))))))))))));refine Qc call50 rfl (Oz l v _ x.c.id h5 hK (hR.up l5) (PA 1 Bg hS5) (by rw[ho];exact List.mem_map.2 ⟨_,hxm,rfl⟩)) (fun rK h6 ms6 l6 hF=>?_);obtain⟨l6',mK,M,rfl,hOK,hI⟩:=hF;rw[ho]at hOK hI;obtain⟨K,hKe⟩:∃K,Js o M o.length=K:=⟨_,rfl⟩
  rw[hKe]at hOK
  have hKl:K.length<=4000:=by rw[<-hKe];unfold Js;rw[length_map];exact Nat.le_trans (List.length_filter_le _ _) (by rw[length_range];omega)
  have hKid:∀y∈K,0<=y:=fun y hy=>by obtain⟨z,hz,rfl⟩:=XS (Nat.le_refl _) y (by rw[hKe];exact hy);have:=G.pos z hz;omega
  have hKv:R6 L K=GA o L x.c.id:=Sm fun y=>by rw[<-hKe];exact VX G (List.mem_map.2 ⟨_,hxm,rfl⟩) hI y
  have oK:=hOK.o1;refine Qm rfl (Am (Bu hOK fun h7 l7 hRK=>?_));have l47:=AJ l5 (AJ l6' l7);have hL:=hL.up l47;have hQ:=hQ.up l47;refine A9 (fun sl h' ms'=>sl=[(1,vL),(2,.int .i64 f),(3,.pointer (some ⟨g3,0,none⟩)),(6,.slice none 0 0),(7,v7),(8,rC),(9,.int .i64 i),(10,.int .i64 (GA o L x.c.id))]/\h7=h'/\ms'=[m7]) ?_ (fun s h ms hI=>?_)
  ·refine Ac (Ad (Qm rfl (Am (Ag ?_))))
   refine Ay (fun q sl h' ms'=>∃(j:Nat) (w:Int),q=K.length-j/\sl=[(1,vL),(2,.int .i64 f),(3,.pointer (some ⟨g3,0,none⟩)),(6,.slice none 0 0),(7,v7),(8,rC),(9,.int .i64 i),(10,.int .i64 w),(11,rK),(12,.int .i64 j)]/\h7=h'/\ms'=[m7]/\j<=K.length/\(L=[]->w=0)/\(L≠[]->w=X3 L K j))
    (K.length-0) _ ⟨0,0,rfl,rfl,rfl,rfl,by omega,fun _=>rfl,fun _=>rfl⟩ Qs ?_
   rintro q sl h' ms' ⟨j,w,rfl,rfl,rfl,rfl,hj,hw0,hw1⟩
   have hwb:0<=w/\w<=5:=by
    by_cases e:L=[]
    ·rw[hw0 e];decide
    ·rw[hw1 e];exact Z9 _ _ _
   have hLl:=hL.len_le
   have hend:(j=K.length\/L=[])->w=GA o L x.c.id:=fun h=>by
    rw[<-hKv];by_cases e:L=[]
    ·rw[hw0 e,e,XI]
    ·rw[hw1 e,h.resolve_right e,YJ e]
   refine Ac (As (Qm rfl (Qm rfl (Qx (Ar hRK.rd.any rfl AU rfl) rfl (Qm rfl (Qm rfl ?_))))));refine AQ (t:=33) rfl (fun hs=>?_) (fun hs=>?_)
   ·refine Qg (Au rfl rfl) rfl (Qg (Ar hL.rd.any rfl AU rfl) rfl (Qg (Cw rfl rfl rfl) rfl (Qm rfl (Am ?_))));refine Aq rfl (fun hLn=>?_) (fun hLn=>?_)
    ·have hL0:L≠[]:=fun e=>by rw[e]at hLn;simp at hLn
     have hLp:0<L.length:=by
      cases L with
      | nil=>exact absurd rfl hL0
      | cons=>simp
     have hjn:j<K.length:=by omega
     have hK0:=hKid _ (getElem_mem hjn);obtain⟨r,hr⟩:∃r:Nat,K[j]%(L.length:Int)=r:=⟨(K[j]%(L.length:Int)).toNat,by rw[Int.toNat_of_nonneg (Int.emod_nonneg _ (by omega))]⟩
     have hrl:r<L.length:=by have:=Int.emod_lt_of_pos K[j] (show(0:Int)<L.length by omega);omega
     have hn:nM L K[j]=L[r]%6:=by unfold nM;rw[hr,Int.toNat_natCast];simp[List.getD,hrl]
     have hw:=hw1 hL0;have ck:∀ms,Cell h7 ms ((AF rK).add (j*1)) (.int .i64 K[j]):=fun ms=>(hRK.any (ms:=ms)).cell0 hjn rfl;have cl:∀ms,Cell h7 ms ((AF vL).add (r*1)) (.int .i64 L[r]):=fun ms=>(hL.any (ms:=ms)).cell0 hrl rfl;refine Ah (Ab (Ac (Ag (Ad (Qm rfl (Qm rfl (Qm rfl (Qm rfl (Qx (BF (j) hRK.rd.any rfl AU A6 rfl rfl) rfl (Ql rfl U3 (ck _) (Qm rfl (Qx (Ar hL.rd.any rfl AU rfl) rfl (Qx (Cc rfl rfl rfl hK0 (by omega)) rfl (Qx (BF (r) hL.rd.any rfl AU A6 rfl rfl) rfl (Ql rfl U3 (cl _) (Qx (AL rfl call34 rfl (Gf L[r] 6 (hLb _ (getElem_mem hrl)) (by decide) h7 [m7])) rfl (Qx (I9 rfl rfl rfl) rfl (Qm rfl (Ak (Ai (Ab (Ad (Qm rfl (Qx (oA rfl) rfl (Qm rfl (Ak ?_))))))))))))))))))))))))));exact Al (K.length-(j+1)) _ (by omega) ⟨j+1,max w (L[r]%6),rfl,rfl,rfl,rfl,by omega,fun e=>absurd e hL0,fun _=>by rw[VB hjn,hn,hw]⟩ Qs
    ·have hL0:L=[]:=by
      cases L with
      | nil=>rfl
      | cons=>simp at hLn
     obtain rfl:w=GA o L x.c.id:=hend (.inr hL0);refine Av (Aa (Aa (Af ?_)));exact AD _ ⟨rfl,rfl,rfl⟩ Qs
   ·obtain rfl:w=GA o L x.c.id:=hend (.inl (by omega));refine Qk rfl (Qk rfl (Qk rfl (Qm rfl (Am (AP rfl (Av (Aa (Aa (Af ?_)))))))));exact AD _ ⟨rfl,rfl,rfl⟩ Qs
  ·obtain⟨rfl,rfl,rfl⟩:=hI;have hvb:0<=GA o L x.c.id/\GA o L x.c.id<=5:=W0 _ _
   have hpb:-9223372036854775808<=GA o L x.c.id*f/\GA o L x.c.id*f<=9223372036854775807:=by have h1:0<=GA o L x.c.id*f:=Int.mul_nonneg hvb.1 hf.1;have h2:GA o L x.c.id*f<=5*f:=Int.mul_le_mul_of_nonneg_right hvb.2 hf.1;omega
   have hfl:(He o L f i).length<=4000:=by unfold He;rw[length_map,length_take];omega
   have cx7:∀ms,Cell h7 ms (((AF rC).add (i*3)).add 0) (.int .i64 x.c.id):=fun ms=>by rw[<-hx];exact(hQ.any (ms:=ms)).cell (j:=i) hil (f:=0) rfl
   refine Ad (Qm rfl (Qm rfl (Qm rfl (Qx (BF (i) hQ.rd.any rfl Bh AI rfl rfl) rfl (Qf Bt rfl (Ql rfl U3 (cx7 _) (Qm rfl (Qm rfl (Qx (oM rfl hpb) rfl (Qx (A3 Te [.int .i64 0,.int .i64 0] [(0,_),(1,_)] [_,_] rfl Cx rfl rfl Qt rfl) rfl (Ao [_,_] rfl FP Cx rfl (by rfl) rfl rfl (by omega) rfl rfl rfl (fun g63=>AO 1 hO7 (RdL.one Ib (x:=(x.c.id,GA o L x.c.id*f)) Mh rfl) rfl FP Cx rfl (by omega) rfl rfl rfl H5 (by(try simp only[length_singleton]);omega) (by(try simp only[length_singleton]);omega) rfl rfl rfl (fun v9 m9 hO9=>?_)))))))))))));have ov9:=hO9.o1;refine Qm rfl (Ak (Ai (Ab (Ad (Qm rfl (Qx (oA rfl) rfl (Qm rfl (Ak (AN ?_)))))))));exact Al (A.length-(i+1)) _ (by omega) ⟨i+1,v9,m9,rfl,rfl,AJ l4 l47,rfl,by omega,by rw[QV hio,hxo];exact hO9⟩ Qs
 ·obtain rfl:i=A.length:=by omega
  refine Av (Aa (Aa (Af (Ab (As (Qm rfl (Qm rfl (Am (An ?_)))))))));exact Az rfl rfl (⟨AJ l1 (AJ l13 l4),m7,rfl,by rw[hAl]at hO7;exact hO7⟩)
end Go.Proofs.Q
namespace Go.Proofs.Q
open Go.Proofs.Tryz
open Go.Eng Go.RowKit
theorem RR{P:Program}{d:Nat}(X Y:Array Value)(w:World):∀(fs:List Field) (os:List (TypeId×Nat×Bool)),fs.map (fun f=>(decide (f.name ≠ "_"),f.type,f.offset))=os.map (fun o=>(true,o.1,o.2.1))->(∀o∈os,P.plainKey o.1=true/\∃a b,X[o.2.1]?=some a/\Y[o.2.1]?=some b/\(Op.equalIn (d+1) o.1 a b).run P w=.ok o.2.2 w)->(Op.eqFields (d+1) X Y fs).run P w=.ok (os.all fun o=>o.2.2) w
 | [],[],_,_=>by simp[Op.eqFields]
 | [],o::os,h,_=>by simp at h
 | f::fs,[],h,_=>by simp at h
 | f::fs,o::os,h,hc=>by
  simp only[List.map_cons,List.cons.injEq,Prod.mk.injEq]at h;obtain⟨⟨h1,h2,h3⟩,h4⟩:=h;have ih:=RR (d:=d) X Y w fs os h4 fun a ha=>hc a (mem_cons_of_mem _ ha);obtain⟨hp,a,b,c1,c2,he⟩:=hc o Mh;unfold Op.eqFields;rw[if_pos (of_decide_eq_true h1),h2,h3];simp only[Sem.run_bind,run_part_plain w hp c1,run_part_plain w hp c2,Result.andThen_ok,he];cases e:o.2.2
  ·simp[e]
  ·simp[e,ih]
theorem Zx:(Tryz.prog.fieldsOf 43).toList.map (fun f=>(decide (f.name ≠ "_"),f.type,f.offset))=[(3,0),(3,1),(3,2),(4,3),(3,4),(3,5)].map (fun o=>(true,o.1,o.2)):=by kernel_rfl
theorem pk3:Tryz.prog.plainKey 3=true:=by kernel_rfl
theorem pk4:Tryz.prog.plainKey 4=true:=by kernel_rfl
theorem Abs:Tryz.prog.eqGuardType Tryz.prog.depth 43=false:=by kernel_rfl
theorem AaA:Tryz.prog.underlying 43=some (.struct (Tryz.prog.fieldsOf 43)):=by kernel_rfl
theorem AaM:Tryz.prog.stoodInHeld 43=false:=by kernel_rfl
theorem Yu{o:Oper}{s:AB}{h:Hp}{ms:List Hp}{x y:Operand}{u:TypeId}(a b:Br)(ho:o.op=.binOp .neq 43 x y u)(hx:ev s x=some (.agg (Ps a).toArray))(hy:ev s y=some (.agg (Ps b).toArray)):OX Tryz.prog o s h ms (.bool (decide (a≠b))):=
 Bx fun ρ w hρ _=>by
  have h1:(Op.equalIn 10000 43 (.agg (Ps a).toArray) (.agg (Ps b).toArray)).run Tryz.prog w=.ok (decide (a=b)) w:=by
   have h2:=RR (P:=Tryz.prog) (d:=9998) (Ps a).toArray (Ps b).toArray w (Tryz.prog.fieldsOf 43).toList [(3,0,a.dim==b.dim),(3,1,a.birth==b.birth),(3,2,a.death==b.death),(4,3,a.opn==b.opn),(3,4,a.low==b.low),(3,5,a.high==b.high)] (by rw[Zx];rfl) fun o ho=>by
    simp only[mem_cons,List.not_mem_nil,or_false]at ho;rcases ho with rfl|rfl|rfl|rfl|rfl|rfl
    ·exact⟨pk3,_,_,rfl,rfl,run_equalIn_int w _ 3 .i64 .i64 _ _ U3⟩
    ·exact⟨pk3,_,_,rfl,rfl,run_equalIn_int w _ 3 .i64 .i64 _ _ U3⟩
    ·exact⟨pk3,_,_,rfl,rfl,run_equalIn_int w _ 3 .i64 .i64 _ _ U3⟩
    ·exact⟨pk4,_,_,rfl,rfl,run_equalIn_bool' w _ 4 _ _ U4⟩
    ·exact⟨pk3,_,_,rfl,rfl,run_equalIn_int w _ 3 .i64 .i64 _ _ U3⟩
    ·exact⟨pk3,_,_,rfl,rfl,run_equalIn_int w _ 3 .i64 .i64 _ _ U3⟩
   rw[run_equalIn_agg w 9999 43 _ _ AaA AaM,h2];congr 1;obtain⟨a1,a2,a3,a4,a5,a6⟩:=a;obtain⟨b1,b2,b3,b4,b5,b6⟩:=b;rw[Bool.eq_iff_iff,decide_eq_true_iff,Br.mk.injEq];show((a1==b1)&&((a2==b2)&&((a3==b3)&&((a4==b4)&&((a5==b5)&&((a6==b6)&&true))))))=true<->_;simp only[Bool.and_true,Bool.and_eq_true,beq_iff_eq]
  have e:(!decide (a=b))=decide (a≠b):=by simp
  simp only[execOp,ho,hρ _ _ hx,hρ _ _ hy];simp only[Sem.run_bind,run_eqGuard_agg w _ _ _ _ _ _ Abs,run_neq_struct,h1,e,Result.andThen_ok,Sem.run_pure]
theorem Q2{a b:Nat}(h:(a:Int)<b):a<b:=by omega
theorem UX(a b:List Br)(va vb:Value)(h:Hp)(hA:RdL Ps 6 h [] va a)(hB:RdL Ps 6 h [] vb b)(ms:List Hp):FnV Tryz.prog 17 #[va,vb] h ms (.bool (decide (a=b))):=by
 refine EO ?_ ms;have la:=hA.len_le;have lb:=hB.len_le;refine Ap func17 ntmps17 rfl rfl (fun w0 hw0=>?_);simp only[AX];refine As (Qm rfl (Am (Ac (As (Qm rfl (Qx (Ar hA.rd.any rfl W3 rfl) rfl (Qm rfl (Qx (Ar hB.rd.any rfl W3 rfl) rfl (Qm rfl (Am ?_))))))))));refine Aq rfl (fun hne=>?_) (fun hne=>?_)
 ·refine Ac (Ad (Qm rfl (Am (An (Ae ?_)))));exact Az rfl rfl (by rw[decide_eq_false];intro e;rw[e]at hne;exact hne rfl)
 ·have hl:a.length=b.length:=by omega
  refine Ah (Ab (Ac (As (Qm rfl (Am (Ag ?_))))))
  refine Ay (fun q s h' ms'=>∃(k:Nat),q=a.length-k/\s=[(0,va),(1,vb),(5,.int .i64 k)]/\h=h'/\ms'=[]/\k<=a.length/\a.take k=b.take k)
   (a.length-0) _ ⟨0,rfl,rfl,rfl,rfl,by omega,rfl⟩ Qs ?_
  rintro q s h' ms' ⟨k,rfl,rfl,rfl,rfl,hk,he⟩;refine Ac (As (Qm rfl (Qm rfl (Qx (Ar hA.rd.any rfl W3 rfl) rfl (Qm rfl (Am ?_))))));refine Aq rfl (fun hlt=>?_) (fun hlt=>?_)
  ·have hka:k<a.length:=Q2 hlt;have hkb:k<b.length:=by omega
   have ca:∀ms,Seg h ms ((AF va).add (k*6)) (Ps a[k]):=fun ms=>(hA.any (ms:=ms)).seg hka;have cb:∀ms,Seg h ms ((AF vb).add (k*6)) (Ps b[k]):=fun ms=>(hB.any (ms:=ms)).seg hkb;refine Ah (Ab (Ac (Ag (Ac (Bc 8 CS (by kernel_rfl) rfl (Wm rfl (Wm rfl (AR (BF (k) hA.rd.any rfl W3 Hb rfl rfl) rfl rfl (AR (oG rfl U43 Hb (ca _)) rfl rfl (Wm rfl (Wm rfl (AR (BF (k) hB.rd.any rfl W3 Hb rfl rfl) rfl rfl (AR (oG rfl U43 Hb (cb _)) rfl rfl (AY (Qx (Yu a[k] b[k] rfl rfl rfl) rfl (Am ?_))))))))))))))));refine Aq rfl (fun hne=>?_) (fun hne=>?_)
   ·refine Ac (Ad (Qm rfl (Am (An (Aj (Ae (Ae (Aj (Ae ?_)))))))));exact Az rfl rfl (by rw[decide_eq_false];rintro rfl;exact hne rfl)
   ·refine Ah (Ai (Ab (Ad (Qm rfl (Qx (oA rfl) rfl (Qm rfl (Ak ?_)))))));refine Al (a.length-(k+1)) _ (by omega) ⟨k+1,rfl,rfl,rfl,rfl,by omega,?_⟩ Qs;rw[List.take_add_one,List.take_add_one,he,List.getElem?_eq_getElem hka,List.getElem?_eq_getElem hkb,Decidable.not_not.1 hne]
  ·obtain rfl:k=a.length:=by omega
   refine Av (Aa (Aa (Af (Ab (As (Qm rfl (Am (An ?_))))))));exact Az rfl rfl (by rw[take_length,hl,take_length]at he;rw[decide_eq_true he])
theorem Sg(la lb:List Int)(va vb:Value)(h:Hp)(hA:RdL cI 1 h [] va la)(hB:RdL cI 1 h [] vb lb)(ms:List Hp):FnV Tryz.prog 44 #[va,vb] h ms (.bool (decide (la=lb))):=by
 refine EO ?_ ms;have l1:=hA.len_le;have l2:=hB.len_le;refine Ap func44 ntmps44 rfl rfl (fun w0 hw0=>?_);simp only[AX];refine As (Qm rfl (Am (Ac (As (Qm rfl (Qx (Ar hA.rd.any rfl AU rfl) rfl (Qm rfl (Qx (Ar hB.rd.any rfl AU rfl) rfl (Qm rfl (Am ?_))))))))));refine Aq rfl (fun hlen=>?_) (fun hlen=>?_)
 ·refine Ac (Ad (Qm rfl (Am (An (Ae ?_)))));exact Az rfl rfl (by rw[decide_eq_false];rintro rfl;exact hlen rfl)
 ·have hlen:la.length=lb.length:=by omega
  refine Ah (Ab (Ac (As (Qm rfl (Am (Ag ?_))))))
  refine Ay (fun q s h' ms'=>∃(k:Nat),q=la.length-k/\s=[(0,va),(1,vb),(5,.int .i64 k)]/\h=h'/\ms'=[]/\k<=la.length/\la.take k=lb.take k)
   (la.length-0) _ ⟨0,rfl,rfl,rfl,rfl,by omega,rfl⟩ Qs ?_
  rintro q s h' ms' ⟨k,rfl,rfl,rfl,rfl,hk,hno⟩;refine Ac (As (Qm rfl (Qm rfl (Qx (Ar hA.rd.any rfl AU rfl) rfl (Qm rfl (Am ?_))))));refine Aq rfl (fun hlt=>?_) (fun hlt=>?_)
  ·have k1:k<la.length:=by omega
   have k2:k<lb.length:=by omega
   have ca:∀ms,Cell h ms ((AF va).add (k*1)) (.int .i64 la[k]):=fun ms=>(hA.any (ms:=ms)).cell0 k1 rfl;have cb:∀ms,Cell h ms ((AF vb).add (k*1)) (.int .i64 lb[k]):=fun ms=>(hB.any (ms:=ms)).cell0 k2 rfl;refine Ah (Ab (Ac (Ag (Ac (Bc 8 CS (by kernel_rfl) rfl (Wm rfl (Wm rfl (AR (BF (k) hA.rd.any rfl AU A6 rfl rfl) rfl rfl (Wl rfl U3 (ca _) (Wm rfl (Wm rfl (AR (BF (k) hB.rd.any rfl AU A6 rfl rfl) rfl rfl (Wl rfl U3 (cb _) (AY (Qm rfl (Am ?_))))))))))))))));refine Aq rfl (fun hne=>?_) (fun hne=>?_)
   ·refine Ac (Ad (Qm rfl (Am (An (Aj (Ae (Ae (Aj (Ae ?_)))))))));exact Az rfl rfl (by rw[decide_eq_false];rintro rfl;exact hne rfl)
   ·refine Ah (Ai (Ab (Ad (Qm rfl (Qx (oA rfl) rfl (Qm rfl (Ak ?_)))))));refine Al (la.length-(k+1)) _ (by omega) ⟨k+1,rfl,rfl,rfl,rfl,by omega,?_⟩ Qs;rw[List.take_add_one,List.take_add_one,hno,List.getElem?_eq_getElem k1,List.getElem?_eq_getElem k2,Decidable.not_not.1 hne]
  ·refine Av (Aa (Aa (Af (Ab (As (Qm rfl (Am (An ?_))))))));exact Az rfl rfl (by rw[decide_eq_true];rwa [List.take_of_length_le (by omega),List.take_of_length_le (by omega)]at hno)
end Go.Proofs.Q
namespace Go.Proofs.Q
open Go.Eng Go.RowKit Go.Lin
variable {S:List Ce}
theorem Zw{S':List Ce}(h:S'.map Ce.c=S.map Ce.c)(i:Nat):(S'.getD i default).c=(S.getD i default).c:=by
 have e:∀S:List Ce,(S.getD i default).c=(S.map Ce.c).getD i (default:Ce).c:=fun S=>by simp only[List.getD,List.getElem?_map];cases S[i]?<;>rfl
 rw[e,e,h]
theorem OQ{S':List Ce}(f:Int->Int)(L:List Int)(h:S'.map Ce.c=S.map Ce.c)(n:Nat):Fp f S' L n=Fp f S L n:=by unfold Fp;congr 1;funext m;unfold Kb;simp only[Zw h]
def circC:List Cl:=[⟨1,0,[]⟩,⟨2,0,[]⟩,⟨3,1,[(1,-1),(2,1)]⟩,⟨4,1,[(1,-1),(2,1)]⟩]
def circF:List (Int×Int):=[(1,0),(2,1),(3,2),(4,5)]
def circB:List Br:=[⟨0,0,0,true,1,0⟩,⟨0,1,2,false,2,3⟩,⟨1,5,0,true,4,0⟩]
def circS:List Ce:=circC.map fun c=>⟨c,undef⟩
theorem MD:circS.map Ce.c=circC:=rfl
def Ko(j i:Nat):Int:=if i=j\/(j=3/\i=2) then 1 else 0
def NR(j:Nat):Option Nat:=if j=2 then some 1 else none
theorem isP2:IsP 2:=⟨by decide,by decide,by decide⟩
theorem Wk:Rdc 2 4 (DM circC) (dmo circC) (tr circC circC) Ko NR:=by
 have h1:∀i,i<4->∀j,j<4->(2:Int)∣Fq 4 (DM circC) (fun k=>DM circC k j) i:=by decide
 have h2:∀i,i<4->∀j,j<4->¬(2:Int)∣DM circC i j->dmo circC j=dmo circC i+1:=by decide
 have h3:∀i,i<4->∀j,j<4->tr circC circC i=tr circC circC j->i=j:=by decide
 have h4:∀j,j<4->j<4/\¬(2:Int)∣Ko j j/\∀i,i<4->¬(2:Int)∣Ko j i->tr circC circC i<=tr circC circC j:=by decide
 have h5:∀j,j<4->∀i,i<4->¬(2:Int)∣Ko j i->dmo circC i=dmo circC j:=by decide
 have h6:∀j,j<4->NR j=none->∀i,i<4->(2:Int)∣Fq 4 (DM circC) (Ko j) i:=by decide
 have h7:¬(2:Int)∣Fq 4 (DM circC) (Ko 2) 1/\∀i,i<4->¬(2:Int)∣Fq 4 (DM circC) (Ko 2) i->tr circC circC i<=tr circC circC 1:=by decide
 have h8:∀j i,NR j=some i->j=2/\i=1:=fun j i h=>by
  unfold NR at h;split at h
  ·rename_i e;exact⟨e,(Option.some.inj h).symm⟩
  ·cases h
 refine⟨isP2.fld,fun i j hi hj=>h1 i hi j hj,fun i j hi hj=>h2 i hi j hj,fun i j hi hj=>h3 i hi j hj,fun j hj=>h4 j hj,fun j i hj hi=>h5 j hj i hi,fun j hj=>h6 j hj,fun j i hj h=>?_,fun j j' i hj hj' h h'=>?_⟩
 ·obtain⟨rfl,rfl⟩:=h8 j i h;exact⟨by decide,h7.1,h7.2⟩
 ·rw[(h8 _ _ h).1,(h8 _ _ h').1]
theorem Tu{l:List Ce}{R V:Nat->List Int}(H:PerH 2 circF l S R V)(hl:cn l=circC):Fp (Dz (BD circF)) S (Fl S R) S.length=circB:=by
 have hS:S.map Ce.c=circC:=by
  have h1:NI (Dz (BD circF)) circS:=by unfold NI;decide
  have:=Aau (f:=Dz (BD circF)) (g:=Dz (BD circF)) (S:=circS) (S':=S) h1 H.P.srt (by rw[MD,<-hl];exact H.P.perm.symm) (by decide) fun _ _ _ _=>Iff.rfl;rw[this,MD]
 have hn:S.length=4:=by have:=congrArg List.length hS;simpa[circC] using this
 have Q:=H.rdc;rw[hl,hn,hS]at Q
 have key:∀j,j<4->Bl (R j)=if j=2 then 1 else -1:=fun j hj=>by
  have e:=Aap Q Wk hj;have h1:=(GZ (R j)).1;have h2:=(GZ (R j)).2;rw[(H.col j (by omega)).rl,hn]at h2;have ht:∀j,j<4->tr circC circC j=j:=by decide
  unfold QZ NR at e;rw[hS,ht j hj]at e;by_cases h0:0<=Bl (R j)
  ·rw[if_pos h0,ht _ (by omega)]at e;split at e
   ·rename_i h;rw[if_pos h];have:=Option.some.inj e;omega
   ·cases e
  ·rw[if_neg h0]at e;split at e
   ·cases e
   ·rename_i h;rw[if_neg h];omega
 have hL:Fl S R=[-1,-1,1,-1]:=by unfold Fl;rw[hn];show [Bl (R 0),Bl (R 1),Bl (R 2),Bl (R 3)]=_;rw[key 0 (by omega),key 1 (by omega),key 2 (by omega),key 3 (by omega)];rfl
 rw[hL,hn,OQ (S:=circS) (S':=S) _ _ (by rw[hS,MD]) 4];decide
end Go.Proofs.Q
namespace Go.Proofs.Q
open Go.Proofs.Tryz
open Go.Eng Go.RowKit
variable {D:Int}
theorem YE:Po (EZ 1)=circC:=by decide
theorem circ_rgtF:RgtF circC:=by
 have e:SC circC=circC:=by decide
 exact⟨by decide,by decide,by decide,fun x hx=>by rw[<-e]at hx;obtain⟨y,_,rfl⟩:=List.mem_map.1 hx;exact⟨y,rfl⟩,by decide,by decide⟩
theorem Kt:Cy circC circF=(0,0):=by decide
theorem So:Cy circC (circF.take 3)=(4,30):=by decide
theorem SK:Cy circC [(1,0),(2,3),(3,2),(4,5)]=(3,44):=by decide
theorem IS(F:List (Int×Int))(hF:F=circF\/F=circF.take 3\/F=[(1,0),(2,3),(3,2),(4,5)]):Gs F:=by rcases hF with rfl|rfl|rfl<;>exact⟨by decide,by decide⟩
theorem Kd:∀x∈circC,∀s∈x.sd,Dz (BD circF) s.1<=Dz (BD circF) x.id:=by decide
theorem circ_q:YI circC circF:=by
 have:=Uu circ_rgtF.rgt (fun c=>Dz (BD circF) c) (by decide) Kd;have e:(circC.map fun x=>(x.id,Dz (BD circF) x.id))=circF:=by decide
 rwa [e]at this
theorem VN{o:List Cl}(h:K2 o D)(k:Int)(h1:∀c∈o,c.dim<=k)(h2:∃c∈o,c.dim=k)(h0:0<=k):D=k:=by
 obtain⟨a,b,c⟩:=h;obtain⟨y,hy,e⟩:=h2;have:=b y hy;rcases c with c|⟨z,hz,c⟩
 ·omega
 ·have:=h1 z hz;omega
theorem XU{W:List Int}(hD:K2 (ER circF 1 circC) D)(hl:W.length=(D+1).toNat)(key:∀d:Nat,((circB.filter (Br.at d 1)).length:Int)=if d<(D+1).toNat then W.getD d 0 else 0):W=[2]:=by
 obtain rfl:=VN hD 0 (by decide) (by decide) (by decide)
 match W,hl with
 | [a],_=>
  have h:=key 0;have h2:((circB.filter (Br.at (0:Nat) 1)).length:Int)=2:=by decide
  rw[h2,if_pos (by decide)]at h;rw[h];rfl
theorem Yr{W:List Int}(hD:K2 (ER circF 2 circC) D)(hl:W.length=(D+1).toNat)(key:∀d:Nat,((circB.filter (Br.at d 2)).length:Int)=if d<(D+1).toNat then W.getD d 0 else 0):W=[1,0]:=by
 obtain rfl:=VN hD 1 (by decide) (by decide) (by decide)
 match W,hl with
 | [a,b],_=>
  have h:=key 0;have h':=key 1;have h2:((circB.filter (Br.at (0:Nat) 2)).length:Int)=1:=by decide
  have h3:((circB.filter (Br.at (1:Nat) 2)).length:Int)=0:=by decide
  rw[h2,if_pos (by decide)]at h;rw[h3,if_pos (by decide)]at h';have e1:a=1:=h.symm;have e2:b=0:=h'.symm;rw[e1,e2]
theorem TG(hp:Hp):FnT Tryz.prog 43 #[] hp [] (fun r h' ms'=>hp.le h'/\∃gF mC A vC,r=.tuple #[.agg #[vC],.slice (some ⟨gF,0,none⟩) 4 4]/\ms'=[Bn gF 47 [.int .i64 1,.int .i64 0,.int .i64 2,.int .i64 1,.int .i64 3,.int .i64 2,.int .i64 4,.int .i64 5],mC]/\OwnL cC 3 52 mC vC A/\A.map Ce.c=Po (EZ 1)/\∀a∈A,RdL cD 2 h' [] a.v a.c.sd):=by show FnT _ _ (List.toArray []) _ _ _;refine Ap func43 ntmps43 rfl rfl (fun w0 hw0=>?_);simp only[AX];refine As (Cz [.slice none 0 0] rfl AW rfl rfl (fun g0=>Qm rfl (BK (Qc call45 rfl (Il 1 hp (by decide)) (fun rC h2 ms2 l2 hF=>?_)))));obtain⟨l2',mC,A,vC,rfl,rfl,hOC,hA,hsd⟩:=hF;have oC:=hOC.o1;refine Qx (A3 Te [.int .i64 0,.int .i64 0] [(0,_)] [_,_] rfl Cx rfl rfl Qt rfl) rfl (Qx (A3 Te [.int .i64 0,.int .i64 0] [(0,_),(1,_)] [_,_] rfl Cx rfl rfl Qt rfl) rfl (Qx (A3 Te [.int .i64 0,.int .i64 0] [(0,_),(1,_)] [_,_] rfl Cx rfl rfl Qt rfl) rfl (Qx (A3 Te [.int .i64 0,.int .i64 0] [(0,_),(1,_)] [_,_] rfl Cx rfl rfl Qt rfl) rfl (Ax [(0,_),(2,_),(4,_),(6,_)] [.int .i64 0,.int .i64 0,.int .i64 0,.int .i64 0,.int .i64 0,.int .i64 0,.int .i64 0,.int .i64 0] [_,_,_,_,_,_,_,_] rfl FP Cx rfl (by omega) (by kernel_rfl) Qt rfl rfl rfl rfl (fun g7=>?_)))));refine Sa 2 [_] AW rfl (by simp[oC]) ?_;refine Qm rfl (Am (An ?_));exact FY (vs:=[_]) 2 rfl rfl rfl CF rfl AW rfl rfl (⟨l2',_,mC,A,vC,rfl,rfl,hOC,hA,hsd⟩)
end Go.Proofs.Q

namespace Go.Proofs.Q
open Go.Proofs.Tryz
open Go.Eng Go.RowKit
theorem Hs:∀(l acc s:List Int),D6 acc l=some s->s.length<=acc.length+l.length
 | [],acc,s,e=>by have:acc=s:=Option.some.inj e;rw[<-this];exact Nat.le_add_right _ _
 | x::l,acc,s,e=>by
  unfold D6 at e;split at e
  ·have:=Hs l acc s e;rw[length_cons];omega
  ·split at e
   ·cases e
   ·have:=Hs l _ s e;rw[OD]at this;rw[length_cons];omega
theorem KL:∀(ll acc all:List (List Int)),(∀l∈ll,l.length<=4)->Cu acc ll=some all->all.length<=acc.length+15*ll.length
 | [],acc,all,h,e=>by have:acc=all:=Option.some.inj e;rw[<-this];exact Nat.le_add_right _ _
 | l::ll,acc,all,h,e=>by
  rw[DA]at e;split at e
  ·cases e
  ·have h1:=KL ll _ all (fun x hx=>h x (mem_cons_of_mem _ hx)) e
   have h2:(Tj acc (D6 [] l)).length<=acc.length+15:=by
    cases hs:D6 [] l with
    | none=>exact Nat.le_add_right _ _
    | some s=>
     have h3:=Hs l [] s hs;have h4:=h l Mh;have h5:=Gv acc s (2^s.length-1);have h6:2^s.length<=16:=Nat.pow_le_pow_right (n:=2) (i:=s.length) (j:=4) (by decide) (by simp at h3;omega);show(CN acc s (2^s.length-1)).length<=_;omega
   rw[length_cons];omega
theorem WK{ll:List (List Int)}(h:∀l∈ll,l.length<=4):(Eb ll).length<=15*ll.length:=by
 unfold Eb;cases e:Cu [] ll with
 | none=>simp
 | some all=>have:=KL ll [] all h e;simpa using this
theorem UU{all:List (List Int)}{s t:List Int}(h:t∈HX all s):t=s\/t∈all:=by
 unfold HX at h;split at h
 ·exact .inr h
 ·rcases List.mem_append.1 h with h|h
  ·exact .inr (List.mem_of_mem_take h)
  ·rcases List.mem_cons.1 h with h|h
   ·exact .inl h
   ·exact .inr (List.mem_of_mem_drop h)
theorem Mg{all:List (List Int)}{s:List Int}(h:∀t∈all,t.length<=4)(hs:s.length<=4):∀b,∀t∈CN all s b,t.length<=4
 | 0,t,ht=>h t ht
 | b+1,t,ht=>by
  rcases UU ht with rfl|ht
  ·unfold Ei;rw[length_map];exact Nat.le_trans (List.length_filter_le _ _) (by rw[length_range];exact hs)
  ·exact Mg h hs b t ht
theorem Lh:∀(ll acc all:List (List Int)),(∀l∈ll,l.length<=4)->(∀l∈acc,l.length<=4)->Cu acc ll=some all->∀l∈all,l.length<=4
 | [],acc,all,h,ha,e=>by have:acc=all:=Option.some.inj e;rw[<-this];exact ha
 | l::ll,acc,all,h,ha,e=>by
  rw[DA]at e;split at e
  ·cases e
  ·refine Lh ll _ all (fun x hx=>h x (mem_cons_of_mem _ hx)) ?_ e;cases hs:D6 [] l with
   | none=>exact ha
   | some s=>exact Mg ha (by have:=Hs l [] s hs;have:=h l Mh;simp at *;omega) _
theorem UA{ll:List (List Int)}(h:∀l∈ll,l.length<=4):∀x∈Eb ll,x.dim<=7:=by
 unfold Eb;cases e:Cu [] ll with
 | none=>nofun
 | some all=>
  intro x hx;obtain⟨i,hi,rfl⟩:=List.mem_map.1 hx;have hi:=List.mem_range.1 hi;have:=Lh ll [] all h nofun e _ (getElem_mem hi);show((all.getD i []).length:Int)-1<=7;rw[show all.getD i []=all[i] by simp[List.getD,hi]];omega
theorem Nr(l:List Int)(v:Value)(hp:Hp)(hR:RdL cI 1 hp [] v l):FnT Tryz.prog 46 #[v] hp [] (fun r h' ms'=>hp.le h'/\QP h' r ms' (fun o=>∃ll:List (List Int),ll.length<=l.length/\(∀s∈ll,s.length<=4)/\o=Eb ll)):=by
 have ov:=hR.rd.one;refine Ap func46 ntmps46 rfl rfl (fun w0 hw0=>?_);simp only[AX];refine As (Cz [.slice none 0 0] rfl AW rfl rfl (fun g2=>BK (Qm rfl (Am (Ac (As (Qm rfl (Am (Ag (BJ ?_))))))))))
 refine Ay (fun q sl h' ms'=>∃(i:Nat) (v3:Value) (m3:Hp) (es:List Value) (ll:List (List Int)),q=12-i/\sl=[(0,v),(2,.pointer (some ⟨g2,0,none⟩)),(3,v3),(4,.int .i64 i)]/\hp.le h'/\ms'=[m3,Bn g2 29 [.slice none 0 0]]/\i<=12/\i<=l.length/\OwnL cW 1 22 m3 v3 es/\RdEs h' es ll/\ll.length=i/\∀s∈ll,s.length<=4)
  (12-0) _ ⟨0,_,Hp.emp,[],[],rfl,rfl,C9,rfl,by omega,by omega,OwnL.nil DG,RdEs.nil _,rfl,nofun⟩ Qs ?_
 rintro q sl h' ms' ⟨i,v3,m3,es,ll,rfl,rfl,lh,rfl,hi,hil,hO,hE,hll,h4⟩;have hR:=hR.up lh;have hel:=hE.1;have ov3:=hO.o1;refine Ac (As (Qm rfl (Qm rfl (Qx (Ar hR.rd.any rfl AU rfl) rfl (Qm rfl (Qm rfl ?_))))));refine AQ (t:=11) rfl (fun h1=>?_) (fun h1=>?_)
 ·refine Qg (Au rfl rfl) rfl (Qg (Dg rfl rfl rfl) rfl (Qm rfl (Am ?_)));refine Aq rfl (fun h2=>?_) (fun h2=>?_)
  ·have hin:i<l.length:=by omega
   obtain⟨x,hx⟩:∃x,l[i]=x:=⟨_,rfl⟩
   have cx:∀ms,Cell h' ms ((AF v).add (i*1)) (.int .i64 x):=fun ms=>by rw[<-hx];exact(hR.any (ms:=ms)).cell0 hin rfl
   refine Ah (Ab (Ac (Ag (As (Qm rfl (Am (BJ ?_)))))));refine A9 (fun sl h'' ms'=>∃(v5:Value) (m5:Hp) (s:List Int),sl=[(0,v),(2,.pointer (some ⟨g2,0,none⟩)),(3,v3),(4,.int .i64 i),(5,v5)]/\h'=h''/\ms'=[m5,m3,Bn g2 29 [.slice none 0 0]]/\OwnL cI 1 3 m5 v5 s/\s.length<=4) ?_ (fun s h ms hI=>?_)
   ·refine Ac (Ad (Qm rfl (Am (Ag ?_))))
    refine Ay (fun q sl h'' ms'=>∃(j:Nat) (v5:Value) (m5:Hp) (s:List Int),q=6-j/\sl=[(0,v),(2,.pointer (some ⟨g2,0,none⟩)),(3,v3),(4,.int .i64 i),(5,v5),(6,.int .i64 j)]/\h'=h''/\ms'=[m5,m3,Bn g2 29 [.slice none 0 0]]/\j<=6/\OwnL cI 1 3 m5 v5 s/\s.length<=4)
     (6-0) _ ⟨0,_,Hp.emp,[],rfl,rfl,rfl,rfl,by omega,OwnL.nil Bg,by simp⟩ Qs ?_
    rintro q sl h'' ms' ⟨j,v5,m5,s,rfl,rfl,rfl,rfl,hj,hO5,hs4⟩;have ov5:=hO5.o1;refine Ac (As (Qm rfl (Qm rfl (Qm rfl ?_))));refine AQ (t:=19) rfl (fun hj1=>?_) (fun hj1=>?_)
    ·refine Qg (Au rfl rfl) rfl (Qg (D8 (hO5.rd (h:=h') (ms:=[m5]) Mh).rd rfl AU rfl) rfl (Qg (Dg rfl rfl rfl) rfl (Qm rfl (Am ?_))));refine Aq rfl (fun hj2=>?_) (fun hj2=>?_)
     ·refine Ah (Ab (Ac (Ag (As (Qm rfl (Qm rfl (Qx (BF (i) hR.rd.any rfl AU A6 rfl rfl) rfl (Ql rfl U3 (cx _) (Qm rfl (Qx (XB (n:=j) rfl rfl rfl (by omega)) rfl (Qx (Yx rfl rfl rfl) rfl (Qm rfl (Am ?_)))))))))))));refine Aq rfl (fun hbit=>?_) (fun hbit=>?_)
      ·refine Ad (Qm rfl (Qm rfl (Ao [_] rfl AU A6 rfl (by rfl) rfl rfl (by omega) rfl rfl rfl (fun g36=>AO 1 hO5 (RdL.one Bg (x:=(j:Int)) Mh rfl) rfl AU A6 rfl (by omega) rfl rfl rfl Cb (by(try simp only[length_singleton]);omega) (by(try simp only[length_singleton]);omega) rfl rfl rfl (fun v9 m9 hO9=>?_)))));have ov9:=hO9.o1;refine Qm rfl (Ak (Ai (Ab (Ad (Qm rfl (Qx (oA rfl) rfl (Qm rfl (Ak (AN ?_)))))))));exact Al (6-(j+1)) _ (by omega) ⟨j+1,v9,m9,_,rfl,rfl,rfl,rfl,by omega,hO9,by rw[length_append,length_singleton];omega⟩ Qs
      ·refine Ah (Ai (Ab (Ad (Qm rfl (Qx (oA rfl) rfl (Qm rfl (Ak ?_)))))));exact Al (6-(j+1)) _ (by omega) ⟨j+1,v5,m5,s,rfl,rfl,rfl,rfl,by omega,hO5,hs4⟩ Qs
     ·refine Av (Aa (Aa (Af ?_)));exact AD _ ⟨v5,m5,s,rfl,rfl,rfl,hO5,hs4⟩ Qs
    ·refine Qk rfl (Qk rfl (Qk rfl (Qm rfl (Am (AP rfl (Av (Aa (Aa (Af ?_)))))))));exact AD _ ⟨v5,m5,s,rfl,rfl,rfl,hO5,hs4⟩ Qs
   ·obtain⟨v5,m5,s,rfl,rfl,rfl,hO5,hs4⟩:=hI;refine Bq fun h6 l6 k6=>?_;have hS:=hO5.rdh (ms:=[]) k6;have oS_:=hS.rd.one;refine Ad (Qm rfl (Qm rfl (Ao [_] rfl Ch Cr rfl ((RdL.rd ‹_›).cells) rfl rfl (by omega) rfl rfl rfl (fun g40=>?_))));refine Bd 1 hO (RdL.one DG (x:=v5) Mh rfl) rfl Ch Cr rfl (by omega) rfl rfl rfl (Gp fun u hu=>by rw[List.mem_singleton.1 hu];exact oS_) (by(try simp only[length_singleton]);omega) (by(try simp only[length_singleton]);omega) rfl rfl rfl (fun v9 m9 hO9=>?_);have ov9:=hO9.o1;refine Qm rfl (Ak (Ai (Ab (Ad (Qm rfl (Qx (oA rfl) rfl (Qm rfl (Ak (AN ?_)))))))))
    exact Al (12-(i+1)) _ (by omega) ⟨i+1,v9,m9,_,ll++[s],rfl,rfl,AJ lh l6,rfl,by omega,by omega,hO9,(hE.up l6).snoc hS,by rw[length_append,hll];rfl,fun u hu=>by
     rcases List.mem_append.1 hu with h|h
     ·exact h4 u h
     ·rw[List.mem_singleton.1 h];exact hs4⟩ Qs
  ·refine Bq fun h6 l6 k6=>?_;have hV:=hO.rdh (ms:=[]) k6;have hE:=hE.up l6;refine Av (Aa (Aa (Af (Ab (As (Qm rfl ?_))))));refine Qc call104 rfl (HL ll es v3 h6 (by omega) (fun s hs=>by have:=h4 s hs;omega) hV hE) (fun rC h7 ms7 l7 hF=>?_);obtain⟨l7',m,A,vA,rfl,rfl,hOA,hA,hs⟩:=hF;have ovA:=hOA.o1;refine Sa 1 [_] AW rfl (by simp[ov,ov3,ovA]) ?_;refine Am (An ?_);exact By (vs:=[_]) 1 rfl rfl CF rfl AW rfl rfl (⟨AJ lh (AJ l6 l7'),m,A,_,rfl,rfl,hOA,⟨ll,by omega,h4,hA⟩,hs⟩)
 ·refine Qk rfl (Qk rfl (Qm rfl (Am (AP rfl (Av (Aa (Aa (Af (Ab (Bq fun h6 l6 k6=>?_))))))))));have hV:=hO.rdh (ms:=[]) k6;have hE:=hE.up l6;refine As (Qm rfl ?_);refine Qc call104 rfl (HL ll es v3 h6 (by omega) (fun s hs=>by have:=h4 s hs;omega) hV hE) (fun rC h7 ms7 l7 hF=>?_);obtain⟨l7',m,A,vA,rfl,rfl,hOA,hA,hs⟩:=hF;have ovA:=hOA.o1;refine Sa 1 [_] AW rfl (by simp[ov,ov3,ovA]) ?_;refine Am (An ?_);exact By (vs:=[_]) 1 rfl rfl CF rfl AW rfl rfl (⟨AJ lh (AJ l6 l7'),m,A,_,rfl,rfl,hOA,⟨ll,by omega,h4,hA⟩,hs⟩)
variable {o:List Cl}
structure CxQ(K:Int)(o:List Cl):Prop where
 r:Rgt o
 n:o.length<=80
 i:∀x∈o,x.id<=K
 d:∀x∈o,x.dim<=7
theorem Rm:∀n,n<10->∀x∈Po (EZ n),x.dim<=7:=by decide
theorem CxQ.spa(n:Nat)(h:n<10):CxQ 900 (Po (EZ n)):=by have h1:=(JV n h).1;exact⟨MV n h,by rw[MG];omega,fun x hx=>by have:=(KX x hx).2;omega,Rm n h⟩
theorem CxQ.simp{ll:List (List Int)}(h1:ll.length<=5)(h4:∀l∈ll,l.length<=4):CxQ 900 (Eb ll):=by have h2:=WK h4;exact⟨Ud ll,by omega,fun x hx=>by have:=YV ll x hx;omega,UA h4⟩
theorem CxQ.gone{K:Int}(Q:CxQ K o){c:Int}(h:c∈IM (ordF o)):CxQ K (o.filter fun x=>decide (x.id≠c)):=by refine⟨Q.r.gone fun y hy s hs e=>?_,Nat.le_trans (List.length_filter_le _ _) Q.n,fun x hx=>Q.i x (List.mem_filter.1 hx).1,fun x hx=>Q.d x (List.mem_filter.1 hx).1⟩;have hc:y.can∈ordF o:=(Db o.length o (Nat.le_refl _)).mem_iff.2 (List.mem_map.2 ⟨y,hy,rfl⟩);exact UD h _ hc s ((BQ y.sd).mem_iff.2 hs) e
theorem CxQ.beside(Q:CxQ 900 o)(hn:o.length<26){m:Int}(h0:0<=m)(hM:∀x∈o,x.id<=m)(hK:m<=900)(n:Nat)(h:n<5):CxQ 1000 (o++(Po (EZ n)).map (Wa m)):=by
 have h1:=(JV n (by omega)).2 h;have hl:=MG (EZ n);refine⟨Q.r.union ((MV n (by omega)).shift h0) (fun x hx y hy=>?_) (by rw[length_map];omega),by rw[length_append,length_map];omega,fun x hx=>?_,fun x hx=>?_⟩
 ·obtain⟨z,hz,rfl⟩:=List.mem_map.1 hy;have:=hM x hx;have:=(KX z hz).1;show x.id≠z.id+m;omega
 ·rcases List.mem_append.1 hx with h|h
  ·have:=Q.i x h;omega
  ·obtain⟨z,hz,rfl⟩:=List.mem_map.1 h;have:=(KX z hz).2;show z.id+m<=1000;omega
 ·rcases List.mem_append.1 hx with h'|h'
  ·exact Q.d x h'
  ·obtain⟨z,hz,rfl⟩:=List.mem_map.1 h';exact Rm n (by omega) z hz
theorem CxQ.up(Q:CxQ 900 o):CxQ 1000 o:=⟨Q.r,Q.n,fun x hx=>by have:=Q.i x hx;omega,Q.d⟩
theorem CxQ.rg{K:Int}(hK:K<=1000000){A:List Ce}(Q:CxQ K (A.map Ce.c)):RgC A:=⟨Q.r,fun a ha=>by have:=Q.i _ (List.mem_map.2 ⟨a,ha,rfl⟩);omega⟩
theorem CxQ.ids{A:List Ce}(Q:CxQ 900 (A.map Ce.c)){a:Ce}(ha:a∈A):-1000000<=a.c.id/\a.c.id<=900:=by have hm:a.c∈A.map Ce.c:=List.mem_map.2 ⟨a,ha,rfl⟩;have:=Q.i _ hm;have:=Q.r.pos _ hm;omega
theorem RO{B:List Ce}{n:Int}(hB:B.map Ce.c=Po (EZ (n%10).toNat))(hn:0<=n/\n<10):B.length<=1000:=by have h1:=congrArg List.length hB;rw[length_map,MG]at h1;have:=(JV (n%10).toNat (by omega)).1;omega
theorem VU{B:List Ce}{n:Int}(hB:B.map Ce.c=Po (EZ (n%10).toNat))(hn:0<=n/\n<10){b:Ce}(hb:b∈B):(-1000000<=b.c.id/\b.c.id<=1000000)/\b.c.sd.length<=100/\∀s∈b.c.sd,-1000000<=s.1/\s.1<=1000000:=by
 have hm:b.c∈Po (EZ (n%10).toNat):=by rw[<-hB];exact List.mem_map.2 ⟨b,hb,rfl⟩
 have R:=MV (n%10).toNat (by omega);have hl:=(JV (n%10).toNat (by omega)).1;have h1:=KX _ hm;refine⟨by omega,by have:=(R.bds hm).2;omega,fun s hs=>?_⟩;obtain⟨y,hy,e,_⟩:=R.sid _ hm s hs;have h2:=KX _ hy;omega
theorem CW{P:Program}{o:Oper}{s:AB}{h:Hp}{ms:List Hp}{v v':Value}(hx:OX P o s h ms v)(e:v=v'):OX P o s h ms v':=e ▸ hx
theorem QI(sp be:Nat)(L:List Int)(G:List Nat)(vL vG:Value)(hp:Hp)(hsp:sp<256)(hbe:be<256)(hG:∀g∈G,g<256)(hL:RdL cI 1 hp [] vL L)(hRG:RdL (fun g=>[.int .u8 (g:Nat)]) 1 hp [] vG G):FnT Tryz.prog 13 #[.agg #[.int .u8 sp,vL,vG,.int .u8 be]] hp [] (fun r h' ms'=>hp.le h'/\QP h' r ms' (CxQ 1000)):=by
 have oL_:=hL.rd.one;have oG_:=hRG.rd.one;refine Ap func13 ntmps13 rfl rfl (fun w0 hw0=>?_);simp only[AX];refine As (AV [_,_,_,_] rfl rfl (by rfl) rfl rfl rfl (fun g1=>Cz [.slice none 0 0] rfl AW rfl rfl (fun g2=>Am (Bm 1 rfl fun h1 l1 hS=>?_))));have hL:=hL.up l1;have hRG:=hRG.up l1;have s0:∀{h},h1.le h->∀ms,Cell h ms (⟨g1,0,none⟩:Addr) (.int .u8 sp):=fun l ms=>Seg.all (hS.le l) 0 _ rfl ms;have s1:∀{h},h1.le h->∀ms,Cell h ms (⟨g1,1,none⟩:Addr) vL:=fun l ms=>Seg.all (hS.le l) 1 _ rfl ms;have s2:∀{h},h1.le h->∀ms,Cell h ms (⟨g1,2,none⟩:Addr) vG:=fun l ms=>Seg.all (hS.le l) 2 _ rfl ms;have s3:∀{h},h1.le h->∀ms,Cell h ms (⟨g1,3,none⟩:Addr) (.int .u8 be):=fun l ms=>Seg.all (hS.le l) 3 _ rfl ms;refine As (Qf VQ rfl (Ql rfl U5 (s0 (C9) _) (Qx (Iv rfl U5 U3 rfl (CX (by omega))) rfl ?_)));refine Qc call45 rfl (Il sp h1 (by unfold BH;omega)) (fun rc h2 ms2 l2 hF=>?_);obtain⟨l2',mC,A,vC,rfl,rfl,hOC,hA,hAs⟩:=hF;have hQ:CxQ 900 (A.map Ce.c):=by rw[hA];exact CxQ.spa _ (by omega)
 have oC:=hOC.o1;refine Cz [.slice none 0 0] rfl AW rfl rfl (fun g3=>?_);refine Sa 0 [_] AW rfl (by simp[oL_,oG_,oC]) ?_;refine Am ?_;refine A9 (fun sl h' ms'=>∃(vC:Value) (mC:Hp) (A:List Ce),sl=[(1,.pointer (some ⟨g1,0,none⟩)),(2,.pointer (some ⟨g2,0,none⟩)),(3,.pointer (some ⟨g3,0,none⟩))]/\h1.le h'/\ms'=[Bn g3 29 [vC],mC,Bn g2 29 [.slice none 0 0]]/\OwnL cC 3 52 mC vC A/\CxQ 900 (A.map Ce.c)/\∀a∈A,RdL cD 2 h' [] a.v a.c.sd) ?_ (fun s h ms hI=>?_)
 ·have hL2:=hL.up l2';obtain⟨k,hk⟩:∃k:Nat,min (L.length:Int) 5=k:=⟨min L.length 5,by omega⟩
  have hkl:k<=L.length/\k<=5:=by omega
  have hSub:RdL cI 1 h2 [] (B4 1 vL 0 k) (L.take k):=by have:=hL2.sub_ (i:=0) (j:=k) (by omega) hkl.1;simpa using this
  refine As (Qf VQ rfl (Ql rfl U5 (s0 l2' _) (Qx (Cc rfl rfl rfl (by omega) (by omega)) rfl (Qm rfl (Am ?_)))));refine Aq rfl (fun h26=>?_) (fun h26=>?_)
  ·refine Ad (Qf Vi rfl (Ql rfl AU (s1 l2' _) (Qf Vi rfl (Ql rfl AU (s1 l2' _) (Qx (Ar hL2.rd.any rfl AU rfl) rfl (Qx (Qz rfl rfl rfl) rfl (Qx (DS (k) hL2.rd.any rfl AU A6 rfl rfl (by omega) (by omega)) rfl (Qc call46 rfl (Nr (L.take k) _ h2 hSub) (fun rs h3 ms3 l3 hF=>?_)))))))));obtain⟨l3',mS,B,vB,rfl,rfl,hOB,⟨ll,hll,h4,hB⟩,hBs⟩:=hF;have hQB:CxQ 900 (B.map Ce.c):=by rw[hB];exact CxQ.simp (by rw[length_take]at hll;omega) h4
   have oB:=hOB.o1;refine Sa 1 [_] AW rfl (by simp[oL_,oG_,oC,oB]) ?_;refine Ak (A8 2 rfl (CB 1 rfl ?_));exact AD _ ⟨vB,mS,B,rfl,AJ l2' l3',rfl,hOB,hQB,hBs⟩ Qs
  ·refine Ah ?_;exact AD _ ⟨vC,mC,A,rfl,l2',rfl,hOC,hQ,hAs⟩ Qs
 ·obtain⟨vC,mC,A,rfl,l3,rfl,hOC,hQ,hAs⟩:=hI;refine A9 (fun sl h' ms'=>∃(vC:Value) (mC:Hp) (A:List Ce),sl=[(1,.pointer (some ⟨g1,0,none⟩)),(2,.pointer (some ⟨g2,0,none⟩)),(3,.pointer (some ⟨g3,0,none⟩))]/\h1.le h'/\ms'=[Bn g3 29 [vC],mC,Bn g2 29 [.slice none 0 0]]/\OwnL cC 3 52 mC vC A/\CxQ 900 (A.map Ce.c)/\∀a∈A,RdL cD 2 h' [] a.v a.c.sd) ?_ (fun s h ms hI=>?_)
  ·refine Ac (Ad (Qm rfl (Am (Ag ?_))))
   refine Ay (fun q sl h' ms'=>∃(i:Nat) (vC:Value) (mC:Hp) (A:List Ce),q=6-i/\sl=[(1,.pointer (some ⟨g1,0,none⟩)),(2,.pointer (some ⟨g2,0,none⟩)),(3,.pointer (some ⟨g3,0,none⟩)),(4,.int .i64 i)]/\h1.le h'/\ms'=[Bn g3 29 [vC],mC,Bn g2 29 [.slice none 0 0]]/\i<=6/\OwnL cC 3 52 mC vC A/\CxQ 900 (A.map Ce.c)/\∀a∈A,RdL cD 2 h' [] a.v a.c.sd)
    (6-0) _ ⟨0,vC,mC,A,rfl,rfl,l3,rfl,by omega,hOC,hQ,hAs⟩ Qs ?_
   rintro q sl h' ms' ⟨i,vC,mC,A,rfl,rfl,lh,rfl,hi,hOC,hQ,hAs⟩;have hRG:=hRG.up lh;have hAn:=hQ.n;rw[length_map]at hAn;have oC:=hOC.o1;refine Ac (As (Qm rfl (Qf UR rfl (Ql rfl Ve (s2 lh _) (Qx (Ar hRG.rd.any rfl Ve rfl) rfl (Qm rfl (Qm rfl ?_)))))));refine AQ (t:=30) rfl (fun ha=>?_) (fun ha=>?_)
   ·refine Qg (Au rfl rfl) rfl (Qg (Dg rfl rfl rfl) rfl (Qm rfl (Qm rfl ?_)));refine AQ (t:=34) rfl (fun hb=>?_) (fun hb=>?_)
    ·refine Qg (oF B8 rfl) rfl (Qg (oL rfl Bh (Cell.blk 0 rfl rfl)) rfl (Qg (D8 (hOC.rd (h:=h') (ms:=[Bn g3 29 [vC],mC,Bn g2 29 [.slice none 0 0]]) (.tail _ (.head _))).rd rfl Bh rfl) rfl (Qg (Cw rfl rfl rfl) rfl (Qm rfl (Am ?_)))));refine Aq rfl (fun hc=>?_) (fun hc=>?_)
     ·have hil:i<G.length:=by omega
      have hA1:1<A.length:=by omega
      refine DZ 1 rfl (Bq fun h5 l5 k5=>?_);have hRC:RdC h5 vC A:=⟨hOC.rdh (ms:=[]) k5,fun a ha=>(hAs a ha).up l5⟩
      have hKA:RgC A:=hQ.rg (by decide);have l15:=AJ lh l5;have hRG:=hRG.up l5;refine Ah (Ab (Ac (Ag (As (Qx (oG rfl CF AW (Seg.blk 0 rfl)) rfl (Qc call47 rfl (XJ A vC h5 hKA hRC) (fun rt h6 ms6 l6 hF=>?_)))))));obtain⟨l6',mT,rfl,hOT⟩:=hF
      have hTn:IM (cn A)≠[]:=YX hKA.F.rgt fun e=>by have h1:=Ds A;rw[e]at h1;simp at h1;omega
      obtain⟨T,hT⟩:∃T,IM (cn A)=T:=⟨_,rfl⟩
      rw[hT]at hOT hTn;have hTl:0<T.length:=List.length_pos_iff.2 hTn
      have hTm:T.length<=4000:=by rw[<-hT];unfold IM;rw[length_map];exact Nat.le_trans (List.length_filter_le _ _) hKA.F.rgt.n
      have oT:=hOT.o1;obtain⟨gg,hgg⟩:∃gg,G[i]=gg:=⟨_,rfl⟩
      have hgb:=hG gg (by rw[<-hgg];exact getElem_mem hil);have hRG:=hRG.up l6;have hRC:=hRC.up l6;have cg:∀ms,Cell h6 ms ((AF vG).add (i*1)) (.int .u8 gg):=fun ms=>by rw[<-hgg];exact(hRG.any (ms:=ms)).cell0 hil rfl
      obtain⟨z,hz⟩:∃z:Nat,(gg:Int)%(T.length:Int)=z:=⟨gg%T.length,by omega⟩
      have hzT:z<T.length:=by have:=Int.emod_lt_of_pos (gg:Int) (b:=(T.length:Int)) (by omega);omega
      obtain⟨id,hid⟩:∃id,T[z]=id:=⟨_,rfl⟩
      have hidT:id∈IM (cn A):=by rw[hT,<-hid];exact getElem_mem hzT
      refine Qm rfl (Am (Bu hOT fun h7 l7 hQT=>?_));have hRG:=hRG.up l7;have hRC:=hRC.up l7;have l17:=AJ l15 (AJ l6 l7);have cid:∀ms,Cell h7 ms ((AF rt).add (z*1)) (.int .i64 id):=fun ms=>by rw[<-hid];exact(hQT.any (ms:=ms)).cell0 hzT rfl
      have cg:=fun ms=>(cg ms).le l7;refine As (Qm rfl (Qf UR rfl (Ql rfl Ve (s2 l17 _) (Qm rfl (Qx (BF (i) hRG.rd.any rfl Ve el5 rfl rfl) rfl (Ql rfl U5 (cg _) (Qx (Iv rfl U5 U3 rfl (CX (by omega))) rfl (Qm rfl (Qx (Ar hQT.rd.any rfl AU rfl) rfl (Qx (Cc rfl rfl rfl (by omega) (by omega)) rfl (Qx (BF (z) hQT.rd.any rfl AU A6 rfl rfl) rfl (Ql rfl U3 (cid _) (Qm rfl (BK (Cz [.slice none 0 0] rfl AW rfl rfl (fun g7=>Am (BJ ?_)))))))))))))))));refine A9 (fun sl h' ms'=>∃(v7:Value) (m7:Hp) (O:List Ce),sl=[(1,.pointer (some ⟨g1,0,none⟩)),(2,.pointer (some ⟨g2,0,none⟩)),(3,.pointer (some ⟨g3,0,none⟩)),(4,.int .i64 i),(7,.pointer (some ⟨g7,0,none⟩))]/\h7=h'/\ms'=[m7,Bn g7 29 [v7],Bn g3 29 [vC],Bn g2 29 [.slice none 0 0]]/\OwnL cC 3 52 m7 v7 O/\O.map Ce.c=(A.map Ce.c).filter (fun x=>decide (x.id≠id))/\∀a∈O,RdL cD 2 h' [] a.v a.c.sd) ?_ (fun s h ms hI=>?_)
      ·refine Ac (Ad (Qm rfl (Am (Ag ?_))))
       refine Ay (fun q sl h' ms'=>∃(j:Nat) (v7:Value) (m7:Hp) (O:List Ce),q=A.length-j/\sl=[(1,.pointer (some ⟨g1,0,none⟩)),(2,.pointer (some ⟨g2,0,none⟩)),(3,.pointer (some ⟨g3,0,none⟩)),(4,.int .i64 i),(6,.int .i64 id),(7,.pointer (some ⟨g7,0,none⟩)),(8,.int .i64 j)]/\h7=h'/\ms'=[m7,Bn g7 29 [v7],Bn g3 29 [vC],Bn g2 29 [.slice none 0 0]]/\j<=A.length/\OwnL cC 3 52 m7 v7 O/\O.map Ce.c=((A.take j).map Ce.c).filter (fun x=>decide (x.id≠id))/\∀a∈O,RdL cD 2 h' [] a.v a.c.sd)
        (A.length-0) _ ⟨0,_,Hp.emp,[],rfl,rfl,rfl,rfl,by omega,OwnL.nil Ct,rfl,nofun⟩ Qs ?_
       rintro q sl h' ms' ⟨j,v7,m7,O,rfl,rfl,rfl,rfl,hj,hO7,hOc,hOs⟩
       have hOl:O.length<=80:=by have h1:=congrArg List.length hOc;rw[length_map]at h1;rw[h1];exact Nat.le_trans (List.length_filter_le _ _) (by rw[length_map,length_take];omega)
       have ov7:=hO7.o1;refine Ac (As (Qm rfl (Qf B8 rfl (Ql rfl Bh (Cell.blk 2 rfl rfl) (Qx (Ar hRC.q.rd.any rfl Bh rfl) rfl (Qm rfl (Am ?_)))))));refine Aq rfl (fun hjl=>?_) (fun hjl=>?_)
       ·have hjn:j<A.length:=by omega
        obtain⟨x,hx⟩:∃x,A[j]=x:=⟨_,rfl⟩
        have hX:=hRC.s x (by rw[<-hx];exact getElem_mem hjn);have oX:=hX.rd.one;have cx:∀ms,Cell h7 ms (((AF vC).add (j*3)).add 0) (.int .i64 x.c.id):=fun ms=>by rw[<-hx];exact(hRC.q.any (ms:=ms)).cell (j:=j) hjn (f:=0) rfl
        have sx:∀ms,Seg h7 ms ((AF vC).add (j*3)) (cC x):=fun ms=>by rw[<-hx];exact(hRC.q.any (ms:=ms)).seg hjn
        have hsn:((A.take (j+1)).map Ce.c).filter (fun x=>decide (x.id≠id))=((A.take j).map Ce.c).filter (fun x=>decide (x.id≠id))++if x.c.id≠id then [x.c] else []:=by rw[List.take_succ_eq_append_getElem hjn,map_append,List.filter_append,hx];congr 1;by_cases h:x.c.id=id<;>simp[filter_cons,h]
        refine Ah (Ab ?_);refine A9 (fun sl h' ms'=>∃(v7:Value) (m7:Hp) (O:List Ce),sl=[(1,.pointer (some ⟨g1,0,none⟩)),(2,.pointer (some ⟨g2,0,none⟩)),(3,.pointer (some ⟨g3,0,none⟩)),(4,.int .i64 i),(6,.int .i64 id),(7,.pointer (some ⟨g7,0,none⟩)),(8,.int .i64 j)]/\h7=h'/\ms'=[m7,Bn g7 29 [v7],Bn g3 29 [vC],Bn g2 29 [.slice none 0 0]]/\OwnL cC 3 52 m7 v7 O/\O.map Ce.c=((A.take (j+1)).map Ce.c).filter (fun x=>decide (x.id≠id))/\∀a∈O,RdL cD 2 h' [] a.v a.c.sd) ?_ (fun s h ms hI=>?_)
        ·refine Ag (As (Qf B8 rfl (Ql rfl Bh (Cell.blk 2 rfl rfl) (Qm rfl (Qx (BF (j) hRC.q.rd.any rfl Bh AI rfl rfl) rfl (Qf Bt rfl (Ql rfl U3 (cx _) (Qm rfl (Qm rfl (Am ?_))))))))));refine Aq rfl (fun hne=>?_) (fun hne=>?_)
         ·refine BG (n:=11) (bs:=[true,false,true,false,true,false,false,false,false,true,false]) [true,false,true,false,true,false,false,false,false,true] CS (by kernel_rfl) (by kernel_rfl) rfl rfl (QF B8 rfl (QF B8 rfl (Qq rfl (QF B8 rfl ?_))));unfold Ft;simp only[cons_append,nil_append];refine A4 [1,3] (by kernel_rfl) rfl ?_;refine AA rfl ?_ ?_
          ·refine Ql rfl Bh (Cell.blk 1 rfl rfl) (Qw (Qo 3 rfl (Ql rfl Bh (Cell.blk 2 rfl rfl) (Qw (AZ 5 76 (by kernel_rfl) rfl (C9) rfl (BF (j) hRC.q.rd.any rfl Bh AI rfl rfl) (Qo 6 rfl (Qx (oG rfl Ef AI (sx _)) rfl (Qw (Qo 7 rfl (Ao [_,_,_] rfl Bh AI rfl (by rfl) rfl rfl (by omega) rfl rfl rfl (fun g78=>Qw (Qo 8 rfl ?_))))))))))));refine Bd 1 hO7 (RdL.one Ct (x:=x) Mh rfl) rfl Bh AI rfl (by omega) rfl rfl rfl (Di (l:=[x]) (h:=h7) fun y hy=>by rw[List.mem_singleton.1 hy];exact hX) (by(try simp only[length_singleton]);omega) (by(try simp only[length_singleton]);omega) rfl rfl rfl (fun v9 m9 hO9=>?_);have ov9:=hO9.o1;refine Qw (Qo 10 rfl ?_);refine AS 2 _ rfl JP rfl rfl (by assumption) rfl rfl (by(simp;done)) rfl rfl ?_;refine Qw (Qe (AN (Ai ?_)));exact AD _ ⟨v9,m9,O++[x],rfl,rfl,rfl,hO9,by rw[hsn,if_pos hne,map_append,hOc];rfl,RdC.snoc' hOs hX⟩ Qs
          refine AA rfl ?_ ?_
          ·refine Ql rfl Bh (Cell.blk 2 rfl rfl) (Qw (AZ 5 76 (by kernel_rfl) rfl (C9) rfl (BF (j) hRC.q.rd.any rfl Bh AI rfl rfl) (A4 [1,6] (by kernel_rfl) rfl ?_)));refine AA rfl ?_ ?_
           ·refine Ql rfl Bh (Cell.blk 1 rfl rfl) (Qw (Qo 6 rfl (Qx (oG rfl Ef AI (sx _)) rfl (Qw (Qo 7 rfl (Ao [_,_,_] rfl Bh AI rfl (by rfl) rfl rfl (by omega) rfl rfl rfl (fun g78=>Qw (Qo 8 rfl ?_))))))));refine Bd 1 hO7 (RdL.one Ct (x:=x) Mh rfl) rfl Bh AI rfl (by omega) rfl rfl rfl (Di (l:=[x]) (h:=h7) fun y hy=>by rw[List.mem_singleton.1 hy];exact hX) (by(try simp only[length_singleton]);omega) (by(try simp only[length_singleton]);omega) rfl rfl rfl (fun v9 m9 hO9=>?_);have ov9:=hO9.o1;refine Qw (Qo 10 rfl ?_);refine AS 2 _ rfl JP rfl rfl (by assumption) rfl rfl (by(simp;done)) rfl rfl ?_;refine Qw (Qe (AN (Ai ?_)));exact AD _ ⟨v9,m9,O++[x],rfl,rfl,rfl,hO9,by rw[hsn,if_pos hne,map_append,hOc];rfl,RdC.snoc' hOs hX⟩ Qs
           refine AA rfl ?_ ?_
           ·refine Qx (oG rfl Ef AI (sx _)) rfl (Qw (A4 [1,7] (by kernel_rfl) rfl ?_));refine AA rfl ?_ ?_
            ·refine Ql rfl Bh (Cell.blk 1 rfl rfl) (Qw (Qo 7 rfl (Ao [_,_,_] rfl Bh AI rfl (by rfl) rfl rfl (by omega) rfl rfl rfl (fun g78=>Qw (Qo 8 rfl ?_)))));refine Bd 1 hO7 (RdL.one Ct (x:=x) Mh rfl) rfl Bh AI rfl (by omega) rfl rfl rfl (Di (l:=[x]) (h:=h7) fun y hy=>by rw[List.mem_singleton.1 hy];exact hX) (by(try simp only[length_singleton]);omega) (by(try simp only[length_singleton]);omega) rfl rfl rfl (fun v9 m9 hO9=>?_);have ov9:=hO9.o1;refine Qw (Qo 10 rfl ?_);refine AS 2 _ rfl JP rfl rfl (by assumption) rfl rfl (by(simp;done)) rfl rfl ?_;refine Qw (Qe (AN (Ai ?_)));exact AD _ ⟨v9,m9,O++[x],rfl,rfl,rfl,hO9,by rw[hsn,if_pos hne,map_append,hOc];rfl,RdC.snoc' hOs hX⟩ Qs
            refine AA rfl ?_ ?_
            ·refine Ao [_,_,_] rfl Bh AI rfl (by rfl) rfl rfl (by omega) rfl rfl rfl (fun g78=>Qw (Qo 1 rfl (Ql rfl Bh (Cell.blk 2 rfl rfl) (Qw (Qo 8 rfl ?_)))));refine Bd 1 hO7 (RdL.one Ct (x:=x) Mh rfl) rfl Bh AI rfl (by omega) rfl rfl rfl (Di (l:=[x]) (h:=h7) fun y hy=>by rw[List.mem_singleton.1 hy];exact hX) (by(try simp only[length_singleton]);omega) (by(try simp only[length_singleton]);omega) rfl rfl rfl (fun v9 m9 hO9=>?_);have ov9:=hO9.o1;refine Qw (Qo 10 rfl ?_);refine AS 2 _ rfl JP rfl rfl (by assumption) rfl rfl (by(simp;done)) rfl rfl ?_;refine Qw (Qe (AN (Ai ?_)));exact AD _ ⟨v9,m9,O++[x],rfl,rfl,rfl,hO9,by rw[hsn,if_pos hne,map_append,hOc];rfl,RdC.snoc' hOs hX⟩ Qs
            exact A5
           exact A5
          exact A5
         ·refine Ah (Ai ?_);exact AD _ ⟨v7,m7,O,rfl,rfl,rfl,hO7,by rw[hsn,if_neg hne,List.append_nil];exact hOc,hOs⟩ Qs
        ·obtain⟨v7,m7,O,rfl,rfl,rfl,hO7,hOc,hOs⟩:=hI;refine Ad (Qm rfl (Qx (oA rfl) rfl (Qm rfl (Ak ?_))));exact Al (A.length-(j+1)) _ (by omega) ⟨j+1,v7,m7,O,rfl,rfl,rfl,rfl,by omega,hO7,hOc,hOs⟩ Qs
       ·obtain rfl:j=A.length:=by omega
        refine Av (Aa (Aa (Af ?_)));exact AD _ ⟨v7,m7,O,rfl,rfl,rfl,hO7,by rw[hOc,take_length],hOs⟩ Qs
      ·obtain⟨v7,m7,O,rfl,rfl,rfl,hO7,hOc,hOs⟩:=hI;have ov7:=hO7.o1;have hQ7:CxQ 900 (O.map Ce.c):=by rw[hOc];exact hQ.gone hidT
       refine Ad (Qx (oG rfl CF AW (Seg.blk 1 rfl)) rfl ?_);refine Sa 2 [_] AW rfl (by simp[oL_,oG_,oC,oT,ov7]) ?_;refine Ak (Ai (Ab (Ad (Qm rfl (Qx (oA rfl) rfl (Qm rfl (Ak (A8 1 rfl (CB 1 rfl ?_)))))))));exact Al (6-(i+1)) _ (by omega) ⟨i+1,v7,m7,O,rfl,rfl,AJ l15 (AJ l6 l7),rfl,by omega,hO7,hQ7,hOs⟩ Qs
     ·refine Av (Aa (Aa (Af ?_)));exact AD _ ⟨vC,mC,A,rfl,lh,rfl,hOC,hQ,hAs⟩ Qs
    ·refine Qk rfl (Qk rfl (Qk rfl (Qk rfl (Qm rfl (Am (AP rfl (Av (Aa (Aa (Af ?_))))))))));exact AD _ ⟨vC,mC,A,rfl,lh,rfl,hOC,hQ,hAs⟩ Qs
   ·refine Qk rfl (Qk rfl (Qm rfl (Qm rfl (Qk rfl (Qk rfl (Qk rfl (Qk rfl (Qm rfl (Am (AP rfl (Av (Aa (Aa (Af ?_))))))))))))));exact AD _ ⟨vC,mC,A,rfl,lh,rfl,hOC,hQ,hAs⟩ Qs
  ·obtain⟨vC,mC,A,rfl,lh,rfl,hOC,hQ,hAs⟩:=hI;have hAn:=hQ.n;rw[length_map]at hAn;have oC:=hOC.o1;refine A9 (fun sl h' ms'=>∃(vC:Value) (mC:Hp) (A:List Ce),sl=[(2,.pointer (some ⟨g2,0,none⟩)),(3,.pointer (some ⟨g3,0,none⟩))]/\h1.le h'/\ms'=[Bn g3 29 [vC],mC,Bn g2 29 [.slice none 0 0]]/\OwnL cC 3 52 mC vC A/\CxQ 1000 (A.map Ce.c)/\∀a∈A,RdL cD 2 h' [] a.v a.c.sd) ?_ (fun s h ms hI=>?_)
   ·refine Ac (Ad (Qf Uc rfl (Ql rfl U5 (s3 lh _) (Qx (Cc rfl rfl rfl (by omega) (by omega)) rfl (Qm rfl (Qm rfl ?_))))));refine AQ (t:=86) rfl (fun hb3=>?_) (fun hb3=>?_)
    ·refine Qg (oF B8 rfl) rfl (Qg (oL rfl Bh (Cell.blk 0 rfl rfl)) rfl (Qg (D8 (hOC.rd (h:=h) (ms:=[Bn g3 29 [vC],mC,Bn g2 29 [.slice none 0 0]]) (.tail _ (.head _))).rd rfl Bh rfl) rfl (Qg (Dg rfl rfl rfl) rfl (Qm rfl (Am ?_)))));refine Aq rfl (fun h26=>?_) (fun h26=>?_)
     ·refine DZ 1 rfl (Bq fun h5 l5 k5=>?_);have hRC:RdC h5 vC A:=⟨hOC.rdh (ms:=[]) k5,fun a ha=>(hAs a ha).up l5⟩
      have l15:=AJ lh l5;have hd4:(be:Int).tdiv 4=(be:Int)/4:=by rw[Int.tdiv_eq_ediv_of_nonneg (by omega)]
      have hw4:IntKind.u8.wrap ((be:Int).tdiv 4)=(be:Int)/4:=by rw[hd4];simp only[IntKind.wrap,IntKind.bits,IntKind.signed];simp;omega
      obtain⟨z,hz⟩:∃z:Nat,(be:Int)/4%5=z:=⟨be/4%5,by omega⟩
      have hz5:z<5:=by omega
      refine BG (n:=9) (bs:=[false,true,true,true,true,true,false,false,false]) [false,true,true,true,true,true] CS (by kernel_rfl) (by kernel_rfl) rfl rfl (QF Uc rfl (QL rfl U5 (s3 l15 _) (Qp rfl (CW (NL rfl rfl rfl (by decide)) (congrArg (Value.int .u8) hw4)) (Qp rfl (Iv rfl U5 U3 rfl (CX (by omega))) (Qp rfl (Cc rfl rfl rfl (by omega) (by omega)) ?_)))));unfold Ft;simp only[cons_append,nil_append];refine A4 [0,6] (by kernel_rfl) rfl ?_;refine AA rfl ?_ ?_
      ·refine Qx (oG rfl CF AW (Seg.blk 0 rfl)) rfl (Qw (Qo 6 rfl ?_));refine Qc call45 rfl (Il ((be:Int)/4%5) h5 (by unfold BH;omega)) (fun rs h6 ms6 l6 hF=>?_);obtain⟨l6',mS,B,vB,rfl,rfl,hOB,hB,hBs⟩:=hF;refine BA hOB fun h7 l7 hRB=>?_;have l57:=AJ l6' l7;have oB:=hRB.rd.one;refine Qa (Qo 7 rfl (Qc call48 rfl (Mx A B vC vB 900 (by decide) h7 (hRC.up l57) ⟨hRB,fun a ha=>(hBs a ha).up l7⟩ (by omega) (RO hB (by omega)) (fun a ha=>hQ.ids ha) (fun b hb=>VU hB (by omega) hb)) (fun rb h8 ms8 l8 hF=>?_)));have l58:=AJ l57 l8;obtain⟨l8',mD,D,vD,rfl,rfl,hOD,⟨m,hm0,hm1,hmA,hD⟩,hDs⟩:=hF;have oC:=And.intro oC (show vD.oneCell'=true from hOD.o1);refine Qa (Qo 8 rfl ?_);refine Sa 1 [_] AW rfl (by simp[oL_,oG_,oC]) ?_;refine Qa (Qe (CB 1 rfl ?_));exact AD _ ⟨vD,mD,D,rfl,AJ l15 (AJ l57 l8'),rfl,hOD,by rw[hD,hB,hz,Int.emod_eq_of_lt (by omega) (by omega),Int.toNat_natCast];exact hQ.beside (by rw[length_map];omega) hm0 (fun x hx=>by obtain⟨a,ha,rfl⟩:=List.mem_map.1 hx;exact hmA a ha) hm1 z hz5,hDs⟩ Qs
      refine AA rfl ?_ ?_
      ·refine Qc call45 rfl (Il ((be:Int)/4%5) h5 (by unfold BH;omega)) (fun rs h6 ms6 l6 hF=>?_);obtain⟨l6',mS,B,vB,rfl,rfl,hOB,hB,hBs⟩:=hF;refine BA hOB fun h7 l7 hRB=>?_;have l57:=AJ l6' l7;have oB:=hRB.rd.one;refine Qa (Qo 0 rfl (Qx (oG rfl CF AW (Seg.blk 0 rfl)) rfl (Qa (Qo 7 rfl (Qc call48 rfl (Mx A B vC vB 900 (by decide) h7 (hRC.up l57) ⟨hRB,fun a ha=>(hBs a ha).up l7⟩ (by omega) (RO hB (by omega)) (fun a ha=>hQ.ids ha) (fun b hb=>VU hB (by omega) hb)) (fun rb h8 ms8 l8 hF=>?_))))));have l58:=AJ l57 l8;obtain⟨l8',mD,D,vD,rfl,rfl,hOD,⟨m,hm0,hm1,hmA,hD⟩,hDs⟩:=hF;have oC:=And.intro oC (show vD.oneCell'=true from hOD.o1);refine Qa (Qo 8 rfl ?_);refine Sa 1 [_] AW rfl (by simp[oL_,oG_,oC]) ?_;refine Qa (Qe (CB 1 rfl ?_));exact AD _ ⟨vD,mD,D,rfl,AJ l15 (AJ l57 l8'),rfl,hOD,by rw[hD,hB,hz,Int.emod_eq_of_lt (by omega) (by omega),Int.toNat_natCast];exact hQ.beside (by rw[length_map];omega) hm0 (fun x hx=>by obtain⟨a,ha,rfl⟩:=List.mem_map.1 hx;exact hmA a ha) hm1 z hz5,hDs⟩ Qs
      exact A5
     ·refine Ah ?_;exact AD _ ⟨vC,mC,A,rfl,lh,rfl,hOC,hQ.up,hAs⟩ Qs
    ·refine Qk rfl (Qk rfl (Qk rfl (Qk rfl (Qm rfl (Am (AP rfl (Ah ?_)))))));exact AD _ ⟨vC,mC,A,rfl,lh,rfl,hOC,hQ.up,hAs⟩ Qs
   ·obtain⟨vC,mC,A,rfl,lh,rfl,hOC,hQ,hAs⟩:=hI;have oC:=hOC.o1;refine As (Qx (oG rfl CF AW (Seg.blk 0 rfl)) rfl ?_);refine Sa 2 [_] AW rfl (by simp[oL_,oG_,oC]) ?_;refine Am (An (AN ?_));exact By (vs:=[_]) 1 rfl rfl CF rfl AW rfl rfl (⟨AJ l1 lh,mC,A,_,rfl,rfl,hOC,hQ,hAs⟩)
end Go.Proofs.Q
namespace Go.Proofs.Q
open Go.Proofs.Tryz
open Go.Eng Go.RowKit
theorem QG(h:Hp)(ms:List Hp):FnV Tryz.prog 12 #[] h ms (.bool true):=by
 refine FnV.weaken (h:=Hp.emp) (FnT.toV ?_) (Hp.emp_le h);show FnT _ _ (List.toArray []) _ _ _;refine Ap func12 ntmps12 rfl rfl (fun w0 hw0=>?_);simp only[AX];refine As (Qm rfl (BK (Qc call43 rfl (TG Hp.emp) (fun rC h2 ms2 l2 hF=>?_))));obtain⟨l2',gF,mC,A,vC,rfl,rfl,hOC,hA,hsd⟩:=hF;obtain⟨vF,hvF⟩:∃vF:Value,vF=.slice (some ⟨gF,0,none⟩) 4 4:=⟨_,rfl⟩
 obtain⟨mF,hmF⟩:∃mF:Hp,mF=Bn gF 47 [.int .i64 1,.int .i64 0,.int .i64 2,.int .i64 1,.int .i64 3,.int .i64 2,.int .i64 4,.int .i64 5]:=⟨_,rfl⟩
 rw[<-hvF,<-hmF];have hOF:OwnL cV 2 47 mF vF circF:=by rw[hmF,hvF];exact OwnL.blk (l:=circF) 4 Ib rfl (by decide)
 have oC:=hOC.o1;have oF_:=hOF.o1;refine Qm rfl (Qm rfl (Qm rfl (Cz [.slice none 0 0] rfl AW rfl rfl (fun g1=>?_))));refine Sa 0 [_] AW rfl (by simp[oC,oF_]) ?_;refine Qm rfl (Am (Bm 0 rfl fun h3 l3 hS=>(Fx 1 hOC rfl fun h4 l4 hC=>?_)));have hR:RdC h4 vC A:=⟨hC,fun a ha=>(hsd a ha).up (AJ l3 l4)⟩
 have hA:A.map Ce.c=circC:=by rw[hA];exact YE
 have hFA:RgtF (A.map Ce.c):=by rw[hA];exact circ_rgtF
 have hcn:cn A=circC:=by rw[Wr hFA,hA]
 have hAl:A.length=4:=by have:=congrArg List.length hA;rwa [length_map]at this
 have hK:RgC A:=⟨hFA.rgt,fun a ha=>by
  have h1:a.c∈circC:=by rw[<-hA];exact List.mem_map.2 ⟨a,ha,rfl⟩
  have h2:∀c∈circC,c.id<=1000000:=by decide
  exact h2 _ h1⟩
 have hS:=hS.le l4;refine As (Qx (oG rfl CF AW (Seg.any hS)) rfl (Qm rfl ?_));refine Bb (pre:=[mF]) rfl call15 rfl (FnT.borrow (fun hj l1 l2=>Ks A circF vC vF 2 hj hK (hR.up l1) (hOF.rdh l2) (IS _ (.inl rfl)) (fun c=>by have:=circ_q.bI c;unfold BH;omega) (by rw[hcn];exact Kt) isP2 (by omega))) rfl rfl rfl rfl (fun ra h5 ms5 l5 hQ=>?_);obtain⟨l5',hj5,k5,ms5',lj5,⟨lk5,S,Rf,Vf,va,ma,rfl,rfl,hOa,Pa⟩,_,rfl,_⟩:=hQ;have oa:=hOa.o1;have hR:=hR.up l5;have hS:=hS.le l5;have H:PerH 2 circF A S Rf Vf:=⟨Pa,isP2,hK.F.rgt,by rw[hcn];exact circ_q.mon⟩
 have hbt:=H.betti;have hbars:=Tu H hcn;rw[hbars]at hOa hbt;rw[hcn]at hbt;refine Qm rfl (Qm rfl (Qm rfl (Qm rfl (Qm rfl (Am (Fx 1 hOa rfl fun h6 l6 hBa=>?_))))));have hR:=hR.up l6;have hS:=hS.le l6;refine As (Qx (oG rfl CF AW (Seg.any hS)) rfl (Qm rfl ?_));refine Bb (pre:=[mF]) rfl call19 rfl (FnT.borrow (fun hj l1 l2=>Jm A circF vC vF 1 2 hj hK (hR.up l1) (hOF.rdh l2) (IS _ (.inl rfl)) (by rw[hcn];exact Kt) (by rw[hcn];exact Kd) isP2 (by decide) (by omega))) rfl rfl rfl rfl (fun rb h7 ms7 l7 hQ=>?_);obtain⟨l7',hj7,k7,ms7',lj7,⟨lk7,D,rk,w1,m1,rfl,rfl,hO1,hD,hr0,hrk⟩,_,rfl,_⟩:=hQ;rw[hcn]at hO1 hD hrk;have e1:Mv (ER circF 1 circC) rk (D+1).toNat=[2]:=XU hD (by unfold Mv;rw[length_map,length_range]) (hbt 1 D rk hD hr0 hrk);rw[e1]at hO1;have ow1:=hO1.o1;refine Qm rfl (Qm rfl (Qm rfl (Qm rfl (Qm rfl (Am (Fx 1 hO1 rfl fun h8 l8 hW1=>?_))))));have l68:=AJ l7 l8;have hR:=hR.up l68;have hS:=hS.le l68;refine As (Qx (oG rfl CF AW (Seg.any hS)) rfl (Qm rfl ?_));refine Bb (pre:=[mF]) rfl call19 rfl (FnT.borrow (fun hj l1 l2=>Jm A circF vC vF 2 2 hj hK (hR.up l1) (hOF.rdh l2) (IS _ (.inl rfl)) (by rw[hcn];exact Kt) (by rw[hcn];exact Kd) isP2 (by decide) (by omega))) rfl rfl rfl rfl (fun rd h9 ms9 l9 hQ=>?_);obtain⟨l9',hj9,k9,ms9',lj9,⟨lk9,D',rk',w2,m2,rfl,rfl,hO2,hD',hr0',hrk'⟩,_,rfl,_⟩:=hQ;rw[hcn]at hO2 hD' hrk';have e2:Mv (ER circF 2 circC) rk' (D'+1).toNat=[1,0]:=Yr hD' (by unfold Mv;rw[length_map,length_range]) (hbt 2 D' rk' hD' hr0' hrk');rw[e2]at hO2;have ow2:=hO2.o1;refine Qm rfl (Qm rfl (Qm rfl (Qm rfl (Qm rfl (Am (Fx 1 hO2 rfl fun h10 l10 hW2=>(As (Qx (A3 YW [.int .i64 0,.int .i64 0,.int .i64 0,.bool false,.int .i64 0,.int .i64 0] [(3,_),(4,_)] [_,_,_,_,_,_] rfl Hb rfl rfl Qt rfl) rfl (Qx (A3 YW [.int .i64 0,.int .i64 0,.int .i64 0,.bool false,.int .i64 0,.int .i64 0] [(1,_),(2,_),(4,_),(5,_)] [_,_,_,_,_,_] rfl Hb rfl rfl Qt rfl) rfl (Qx (A3 YW [.int .i64 0,.int .i64 0,.int .i64 0,.bool false,.int .i64 0,.int .i64 0] [(0,_),(1,_),(3,_),(4,_)] [_,_,_,_,_,_] rfl Hb rfl rfl Qt rfl) rfl (Ax [(0,_),(6,_),(12,_)] [.int .i64 0,.int .i64 0,.int .i64 0,.bool false,.int .i64 0,.int .i64 0,.int .i64 0,.int .i64 0,.int .i64 0,.bool false,.int .i64 0,.int .i64 0,.int .i64 0,.int .i64 0,.int .i64 0,.bool false,.int .i64 0,.int .i64 0] [_,_,_,_,_,_,_,_,_,_,_,_,_,_,_,_,_,_] rfl W3 Hb rfl (by omega) (by kernel_rfl) Qt rfl rfl rfl rfl (fun g39=>Qm rfl (Am (Bm 0 rfl fun h11 l11 hS39=>?_))))))))))))));have l811:=AJ l9 (AJ l10 l11);have hR:=hR.up l811;have hS:=hS.le l811;refine Ac (BG (n:=9) (bs:=[false,true,true,false,false,false,false,false,false]) [false,true,true] CS (by kernel_rfl) (by kernel_rfl) rfl rfl (Qq rfl (Qp rfl (EA 3 (hOF.rd (h:=h11) (ms:=[mF]) Mh).rd rfl FP Cx rfl rfl rfl (by decide)) ?_)));unfold Ft;simp only[cons_append,nil_append];refine Qo 0 rfl (Qx (oG rfl CF AW (Seg.any hS)) rfl (Qw (Qo 3 rfl (Bb (pre:=[mF]) rfl call24 rfl (FnT.borrow (fun hj l1 l2=>Dc A (circF.take 3) vC (B4 2 vF 0 3) hj hK (hR.up l1) (show RdL cV 2 hj [] (B4 2 vF 0 3) (circF.take 3) from(hOF.rdh l2).sub_ (i:=0) (j:=3) (by decide) (by decide)) (IS _ (.inr (.inl rfl))))) rfl rfl rfl rfl (fun rc h12 ms12 l12 hQ=>?_)))));obtain⟨l12',hj12,k12,ms12',lj12,hr12,_,rfl,_⟩:=hQ;rw[hcn,So]at hr12;subst hr12;refine Qa (AZ 4 40 (by kernel_rfl) rfl (by assumption) rfl (Au rfl rfl) (AZ 5 45 (by kernel_rfl) rfl (by assumption) rfl (A7 rfl rfl rfl) (AZ 6 46 (by kernel_rfl) rfl (by assumption) rfl (A7 rfl rfl rfl) (Qo 7 rfl (Qm rfl (Qa (Qo 8 rfl (Qm rfl (Qa (Qe (Ab ?_)))))))))));rw[hmF,hvF];refine As (Qm rfl (Qx (BM 1 rfl FP Cx rfl rfl rfl (by omega)) rfl (Qf MF rfl ?_)));refine AS 0 3 rfl A6 rfl rfl rfl rfl (by rw[BT]) (by decide) rfl rfl ?_;simp only[List.set_cons_succ,List.set_cons_zero];refine Am (AC fun h13 l13 hSF=>?_);have l1113:=AJ l12 l13;have hR:=hR.up l1113;have hS:=hS.le l1113;have hFB:RdL cV 2 h13 [] (.slice (some ⟨gF,0,none⟩) 4 4) [(1,0),(2,3),(3,2),(4,5)]:=⟨⟨_,4,rfl,by decide,by decide,rfl,fun _=>⟨_,rfl,hSF⟩⟩,Ib⟩
 refine As (Qx (oG rfl CF AW (Seg.any hS)) rfl (Qm rfl (Qc call24 rfl (Dc A [(1,0),(2,3),(3,2),(4,5)] vC _ h13 hK hR hFB (IS _ (.inr (.inr rfl)))) (fun rd h14 ms14 l14 hQ=>?_))));rw[hcn,SK]at hQ;subst hQ;refine Qm rfl (Qm rfl (Qm rfl (Qm rfl (Qm rfl (Am ?_)))));have hBa:=hBa.up (AJ l68 (AJ l811 (AJ l1113 l14)));have hW1:=hW1.up (AJ l811 (AJ l1113 l14));have hW2:=hW2.up (AJ l11 (AJ l1113 l14));have hS39:=hS39.le (AJ l1113 l14);have hB9:RdL Ps 6 h14 [] (.slice (some ⟨g39,0,none⟩) 3 3) circB:=⟨⟨_,3,rfl,by decide,by decide,rfl,fun _=>⟨_,rfl,hS39⟩⟩,J8⟩
 refine As (Qm rfl (Qx (CW (CU rfl rfl rfl) (congrArg Value.bool (decide_eq_true rfl))) rfl (Qm rfl (Qg (Au rfl rfl) rfl (Qg (Au rfl rfl) rfl ?_)))));refine Qg (AL rfl call17 rfl ((by have:=UX circB circB va _ h14 hBa hB9 (ms14++ms12'.append []);rwa [decide_eq_true rfl]at this))) rfl ?_;refine Qm rfl (Qm rfl (Qg (Au rfl rfl) rfl (Qg (CW (CU rfl rfl rfl) (congrArg Value.bool (decide_eq_true rfl))) rfl (Qm rfl (Qm rfl (Qg (Au rfl rfl) rfl (Qg (CW (CU rfl rfl rfl) (congrArg Value.bool (decide_eq_true rfl))) rfl (Qm rfl (Qm rfl (Qg (Au rfl rfl) rfl (Ug rfl rfl rfl rfl (Ao [_] rfl AU A6 rfl (by rfl) rfl rfl (by omega) rfl rfl rfl (fun g73=>DP fun h15 l15 hS73=>?_)))))))))))));refine Qg (AL rfl call44 rfl ((by have:=Sg [2] [2] w1 _ h15 (hW1.up l15) (PA 1 Bg hS73) (ms14++ms12'.append []);rwa [decide_eq_true rfl]at this))) rfl ?_;refine Qm rfl (Qm rfl (Qg (Au rfl rfl) rfl (Ug rfl rfl rfl rfl (Ax [(0,_),(1,_)] [.int .i64 0,.int .i64 0] [_,_] rfl AU A6 rfl (by omega) (by kernel_rfl) Qt rfl rfl rfl rfl (fun g78=>DP fun h16 l16 hS78=>?_)))));have hR2:RdL cI 1 h16 [] (.slice (some ⟨g78,0,none⟩) 2 2) [1,0]:=⟨⟨_,2,rfl,by decide,by decide,rfl,fun _=>⟨_,rfl,hS78⟩⟩,Bg⟩
 refine Qg (AL rfl call44 rfl ((by have:=Sg [1,0] [1,0] w2 _ h16 (hW2.up (AJ l15 l16)) hR2 (ms14++ms12'.append []);rwa [decide_eq_true rfl]at this))) rfl ?_;refine Qm rfl (Qm rfl (Qg (Au rfl rfl) rfl (Qg (CW (CU rfl rfl rfl) (congrArg Value.bool (decide_eq_true rfl))) rfl (Qm rfl (Qm rfl (Qg (Au rfl rfl) rfl (Qg (CW (CU rfl rfl rfl) (congrArg Value.bool (decide_eq_true rfl))) rfl (Qm rfl (Qm rfl (Qg (Au rfl rfl) rfl (Qg (CW (CU rfl rfl rfl) (congrArg Value.bool (decide_eq_true rfl))) rfl (Qm rfl (Qm rfl (Qg (Au rfl rfl) rfl (Qg (CW (CU rfl rfl rfl) (congrArg Value.bool (decide_eq_true rfl))) rfl (Qm rfl (Qm rfl (Am (An ?_)))))))))))))))))));exact Az rfl rfl (rfl)
end Go.Proofs.Q

namespace Go.Proofs.Q
open Go.Eng Go.RowKit
open Go.Proofs.Tryz
theorem Qu(sp be:Nat)(q0 q1 q2 q3 q4 q5:Int)(L0 L:List Int)(G:List Nat)(v0 vG vL:Value)(hp:Hp)(hsp:sp<256)(hbe:be<256)(hq0:BH q0)(hq1:BH q1)(hq2:BH q2)(hq3:BH q3)(hq4:BH q4)(hq5:BH q5)(hG:∀g∈G,g<256)(hL0:RdL cI 1 hp [] v0 L0)(hRG:RdL (fun g=>[.int .u8 (g:Nat)]) 1 hp [] vG G)(hL:RdL cI 1 hp [] vL L)(hLb:∀x∈L,BH x):FnT Tryz.prog 7 #[.agg #[.int .u8 sp,v0,vG,.int .u8 be],vL,.agg #[.int .i64 q0,.int .i64 q1,.int .i64 q2,.int .i64 q3,.int .i64 q4,.int .i64 q5]] hp [] (fun r _ _=>r=.bool true):=by
 have o1:=hL0.rd.one;have o2:=hRG.rd.one;have o3:=hL.rd.one;refine Ap func7 ntmps7 rfl rfl (fun w0 hw0=>?_);simp only[AX];refine As (AV [_,_,_,_] rfl rfl (by rfl) rfl rfl rfl (fun g3=>AV [_,_,_,_,_,_] rfl rfl (by rfl) rfl rfl rfl (fun g5=>Qm rfl (Am (AC fun h0 l0 hS5=>(AC fun h1 l1 hS=>?_))))));have hS5:=hS5.le l1;have l1:=AJ l0 l1;have hL0:=hL0.up l1;have hRG:=hRG.up l1;have hL:=hL.up l1;refine As (Qx (AL rfl call12 rfl (QG _ _)) rfl (Qm rfl (BK (Qx (oG rfl U25 Abo (Seg.any hS)) rfl (Qc call13 rfl (QI sp be L0 G v0 vG h1 hsp hbe hG hL0 hRG) (fun rc h2 ms2 l2 hQ=>?_))))));obtain⟨l2',mC,A,vC,rfl,rfl,hOC,hCQ,hsd⟩:=hQ;have oC:=hOC.o1;refine Cz [.slice none 0 0] rfl AW rfl rfl (fun g8=>?_);refine Sa 0 [_] AW rfl (by simp[o1,o2,o3,oC]) ?_;refine Am (AC fun h3 l3 hS8=>(Bu hOC fun h4 l4 hC=>?_));have hR:RdC h4 vC A:=⟨hC,fun a ha=>(hsd a ha).up (AJ l3 l4)⟩
 have hK:RgC A:=hCQ.rg (by decide);have hG:=hK.F.rgt;have hA80:A.length<=80:=by have:=hCQ.n;rwa [length_map]at this
 have hdim:∀x∈cn A,0<=x.dim/\x.dim<=7:=fun x hx=>by obtain⟨b,hb,rfl⟩:=Vm hx;exact⟨(hG.bds hx).1.1,hCQ.d b.c (List.mem_map.2 ⟨b,hb,rfl⟩)⟩
 have l24:=AJ l2 (AJ l3 l4);have hL:=hL.up l24;have hS8:=hS8.le l4;refine As (Qx (oG rfl CF AW (Seg.any hS8)) rfl (Qm rfl (Qc call14 rfl (Ta A vC vL L 1 h4 hK hR hL hLb (by decide)) (fun rF h5 ms5 l5 hQ=>?_))));obtain⟨l5',mF,rfl,hOF⟩:=hQ;have QF:YI (cn A) (He (cn A) L 1 (cn A).length):=ZV hG L 1 (by decide);generalize He (cn A) L 1 (cn A).length=F at hOF QF;have oF_:=hOF.o1;refine Qm rfl (Am (Bu hOF fun h6 l6 hF=>?_));have l46:=AJ l5 l6;have hR:=hR.up l46;have hS8:=hS8.le l46;have hS5:=hS5.le (AJ l24 l46);have hlF:F.length=A.length:=by have:=congrArg List.length QF.fst;rw[length_map,length_map,Ds]at this;exact this
 have kF:∀q∈F,BH q.1:=fun q hq=>by
  have hc:q.1∈(cn A).map Cl.id:=by rw[<-QF.fst];exact List.mem_map.2 ⟨q,hq,rfl⟩
  obtain⟨x,hx,e⟩:=List.mem_map.1 hc;have h1:=hG.pos x hx;have h2:=hK.ci hx;rw[<-e];unfold BH;omega
 have nF:(F.map Prod.fst).Nodup:=by rw[QF.fst];exact hG.nd
 have IF:VI F:=fun q hq=>⟨kF q hq,by
  have h1:Dz (BD F) q.1=q.2:=Lb nF hq;have h2:=QF.bI q.1
  rw[h1]at h2;unfold BH;omega⟩
 have chk0:=QF.chk;have c5:∀h',h6.le h'->∀ms (k:Nat) u,([.int .i64 q0,.int .i64 q1,.int .i64 q2,.int .i64 q3,.int .i64 q4,.int .i64 q5]:List Value)[k]?=some u->Cell h' ms ((⟨g5,0,none⟩:Addr).add (k*1)) u:=fun h' l' ms k u hu=>by rw[Nat.mul_one];exact Seg.all (hS5.le l') k _ hu ms
 refine As (Qm rfl (Qx (B5 0 rfl U58 A6 rfl rfl rfl (by omega)) rfl (Ql rfl U3 (c5 _ (C9) _ 0 _ rfl) (Qx (B5 1 rfl U58 A6 rfl rfl rfl (by omega)) rfl (Ql rfl U3 (c5 _ (C9) _ 1 _ rfl) (Qx (B5 2 rfl U58 A6 rfl rfl rfl (by omega)) rfl (Ql rfl U3 (c5 _ (C9) _ 2 _ rfl) (Qx (LQ [.int .i64 0,.int .i64 0,.int .i64 0] [(0,[_]),(1,[_]),(2,[_])] [_,_,_] rfl Zo AaY rfl A6 rfl Qt rfl) rfl (Qc call23 rfl (Mf F rF q0 q1 q2 h6 hF IF (by omega) hq0 hq1 hq2) (fun rG h7 ms7 l7 hQ=>?_))))))))));obtain⟨l7',G1,mG,rfl,hOG,IG,nG⟩:=hQ;have oG_:=hOG.o1;refine Qm rfl (Am (Bu hOG fun h8 l8 hGr=>?_));have l68:=AJ l7' l8;refine As (Qm rfl (Qx (B5 3 rfl U58 A6 rfl rfl rfl (by omega)) rfl (Ql rfl U3 (c5 _ l68 _ 3 _ rfl) (Qx (B5 4 rfl U58 A6 rfl rfl rfl (by omega)) rfl (Ql rfl U3 (c5 _ l68 _ 4 _ rfl) (Qx (B5 5 rfl U58 A6 rfl rfl rfl (by omega)) rfl (Ql rfl U3 (c5 _ l68 _ 5 _ rfl) (Qx (LQ [.int .i64 0,.int .i64 0,.int .i64 0] [(0,[_]),(1,[_]),(2,[_])] [_,_,_] rfl Zo AaY rfl A6 rfl Qt rfl) rfl (Qc call23 rfl (Mf G1 rG q3 q4 q5 h8 hGr IG (by omega) hq3 hq4 hq5) (fun rH h9 ms9 l9 hQ=>?_))))))))));obtain⟨l9',G2,mH,rfl,hOH,IH,nH⟩:=hQ;have oH:=hOH.o1;refine Qm rfl (Am (Bu hOH fun h10 l10 hHr=>?_));have l810:=AJ l9' l10;have l610:=AJ l68 l810;have hR:=hR.up l610;have hF:=hF.up l610;have hGr:=hGr.up l810;have hS8:=hS8.le l610;refine As (Qm rfl (Qm rfl (Qm rfl (Ax [(0,_),(1,_),(2,_)] [.slice none 0 0,.slice none 0 0,.slice none 0 0] [_,_,_] rfl ZG QS rfl (by omega) (by kernel_rfl) ⟨⟨hF.rd.cells,rfl,rfl⟩,⟨hGr.rd.cells,rfl,rfl⟩,⟨hHr.rd.cells,rfl,rfl⟩,trivial⟩ rfl rfl rfl rfl (fun g55=>Qm rfl (Am ?_))))));have hO12:OwnL cU 1 31 (Bn g55 31 [rF,rG,rH]) (.slice (some ⟨g55,0,none⟩) 3 3) [rF,rG,rH]:=OwnL.blk (g:=g55) (el:=31) (F:=cU) (l:=[rF,rG,rH]) 3 Km rfl (by decide);refine Bu hO12 fun h11 l11 hAll=>?_;have hR:=hR.up l11;have hF:=hF.up l11;have hGr:=hGr.up l11;have hHr:=hHr.up l11;have hS8:=hS8.le l11
 have key:∀k,k<3->∃(vk:Value) (Gk:List (Int×Int)),([rF,rG,rH]:List Value)[k]?=some vk/\RdL cV 2 h11 [] vk Gk/\VI Gk/\Gk.length<=1000:=fun k hk=>by
  rcases (by omega:k=0\/k=1\/k=2) with rfl|rfl|rfl
  ·exact⟨rF,F,rfl,hF,IF,by omega⟩
  ·exact⟨rG,G1,rfl,hGr,IG,by omega⟩
  ·exact⟨rH,G2,rfl,hHr,IH,by omega⟩
 generalize hpl:([rF,rG,rH]:List Value)=PL at hAll key;have hPL:PL.length=3:=by rw[<-hpl];rfl
 refine Ac (As (Qm rfl (Am (Ag ?_))))
 refine Ay (fun q sl h' ms'=>∃(k:Nat),q=3-k/\sl=[(7,.bool true),(8,.pointer (some ⟨g8,0,none⟩)),(9,rF),(12,.slice (some ⟨g55,0,none⟩) 3 3),(13,.int .i64 k)]/\h11.le h'/\ms'=[]/\k<=3)
  (3-0) _ ⟨0,rfl,rfl,C9,rfl,by omega⟩ Qs ?_
 rintro q sl h' ms' ⟨k,rfl,rfl,lh,rfl,hk3⟩;have hR:=hR.up lh;have hF:=hF.up lh;have hS8:=hS8.le lh;have hAll:=hAll.up lh;refine Ac (As (Qm rfl (Qm rfl (Am ?_))));refine Aq rfl (fun hkl=>?_) (fun hkl=>?_)
 ·have hk:k<PL.length:=by omega
  obtain⟨vk,Gk,hvk,hGk,IGk,nGk⟩:=key k (by omega);have hvk:PL[k]=vk:=by rw[List.getElem?_eq_getElem hk]at hvk;exact Option.some.inj hvk
  have hGk:=hGk.up lh;have ok:=hGk.rd.one;have VG:Gs Gk:=⟨by omega,fun q hq=>(IGk q hq).1⟩
  have cp:∀h2,h'.le h2->∀ms,Cell h2 ms ((AF (.slice (some ⟨g55,0,none⟩) 3 3)).add (k*1)) vk:=fun h2 l2 ms=>by rw[<-hvk];exact((hAll.up l2).any (ms:=ms)).cell0 hk rfl
  have s8:∀h2,h'.le h2->∀ms,Seg h2 ms (⟨g8,0,none⟩:Addr) [vC]:=fun h2 l2 ms=>(hS8.le l2).any;have cA:=fun h2 (l2:h'.le h2) ms=>EO (Dc A Gk vC vk h2 hK (hR.up l2) (hGk.up l2) VG) ms;have cB:=fun h2 (l2:h'.le h2) ms=>EO (P6 A Gk vC vk h2 hK (hR.up l2) (hGk.up l2) VG) ms;have cS:=fun(hE:(Cy (cn A) Gk).2≠0) h2 (l2:h'.le h2) ms=>EO (Ph A Gk vC vk 5 h2 hK (hR.up l2) (hGk.up l2) VG hE) ms;have kP:=fun h2 (l2:h'.le h2)=>AaD hK (hR.up l2) (hGk.up l2) VG IGk (by omega);have kR:=fun h2 (l2:h'.le h2)=>Abm hK (hR.up l2) (hGk.up l2) VG (by omega);have kB:=fun h2 (l2:h'.le h2)=>Abk hK (hR.up l2) (hGk.up l2) VG (by omega);generalize Cy (cn A) Gk=cc at *;refine Ah (Ab (Ac (Ag (Ac (Bc 10 CS (by kernel_rfl) rfl (AR (oG rfl CF AW (s8 _ (C9) _)) rfl rfl (Wm rfl (Wm rfl (AR (BM (k) rfl ZG QS rfl rfl (by omega) (by omega)) rfl rfl (Wl rfl FP (cp _ (C9) _) (AR (AL rfl call24 rfl (cA _ (C9) _)) rfl rfl (Wm rfl (Wm rfl (Wm rfl (Wm rfl (AY (Qm rfl (Am (Ac (Bc 10 CS (by kernel_rfl) rfl (AR (oG rfl CF AW (s8 _ (C9) _)) rfl rfl (Wm rfl (Wm rfl (AR (BM (k) rfl ZG QS rfl rfl (by omega) (by omega)) rfl rfl (Wl rfl FP (cp _ (C9) _) (AR (AL rfl call25 rfl (cB _ (C9) _)) rfl rfl (Wm rfl (Wm rfl (Wm rfl (Wm rfl (AY (Qm rfl (Am (Ac (BG (n:=11) (bs:=[true,true,true,true,true,false,false,false,false,false,false]) [true,true,true,true,true] CS (by kernel_rfl) (by kernel_rfl) rfl rfl (Qp rfl (oG rfl CF AW (s8 _ (C9) _)) (Qq rfl (Qq rfl (Qp rfl (BM (k) rfl ZG QS rfl rfl (by omega) (by omega)) ?_)))))))))))))))))))))))))))))))))))))));refine QL rfl FP (cp _ (C9) _) ?_;unfold Ft;simp only[cons_append,nil_append];refine Qo 5 rfl (Qc call15 rfl (kP _ (C9)) (fun ra h12 ms12 l12 hQ=>?_));obtain⟨l12',rfl,wa,rfl⟩:=hQ;refine Qa (AZ 6 78 (by kernel_rfl) rfl (by assumption) rfl (Au rfl rfl) (AZ 7 85 (by kernel_rfl) rfl (by assumption) rfl (A7 rfl rfl rfl) (AZ 8 86 (by kernel_rfl) rfl (by assumption) rfl (A7 rfl rfl rfl) (Qo 9 rfl (Qm rfl (Qa (Qo 10 rfl (Qm rfl (Qa (Qe (Ab ?_)))))))))));refine A9 (fun sl h2 ms'=>∃(g21 g22:Nat) (w d d':Value) (a b c a' b' c':Int),sl=[(7,.bool true),(8,.pointer (some ⟨g8,0,none⟩)),(9,rF),(12,.slice (some ⟨g55,0,none⟩) 3 3),(13,.int .i64 k),(14,.int .i64 cc.1),(15,.int .i64 cc.2),(16,.int .i64 cc.1),(17,.int .i64 cc.2),(19,.int .i64 cc.2),(20,w),(21,.pointer (some ⟨g21,0,none⟩)),(22,.pointer (some ⟨g22,0,none⟩)),(23,.int .i64 cc.2)]/\h12.le h2/\ms'=[Bn g22 65 [.int .i64 a',.int .i64 b',.int .i64 c',d'],Bn g21 65 [.int .i64 a,.int .i64 b,.int .i64 c,d]]/\(cc.2≠0->w=.slice none 0 0/\a=0/\a'=0)) ?_ (fun s h ms hI=>?_)
  ·refine BG (n:=17) (bs:=[true,true,true,true,true,false,false,false,false,false,false,false,false,false,false,false,false]) [true,true,true,true,true] CS (by kernel_rfl) (by kernel_rfl) rfl rfl (Qp rfl (oG rfl CF AW (s8 _ (by assumption) _)) (Qq rfl (Qq rfl (Qp rfl (BM (k) rfl ZG QS rfl rfl (by omega) (by omega)) (QL rfl FP (cp _ (by assumption) _) ?_)))));unfold Ft;simp only[cons_append,nil_append];refine A4 [5,11,12] (by kernel_rfl) rfl ?_;refine AA rfl ?_ ?_
   ·refine Qc call26 rfl (kR _ l12) (fun rr h13 ms13 l13 hQ=>?_);obtain⟨l13',rfl,w,d,d',a,b,c,a',b',c',rfl,od,od',hcc⟩:=hQ;have l1213:=AJ l12 l13;refine Qa (AZ 6 87 (by kernel_rfl) rfl (by assumption) rfl (Au rfl rfl) (AZ 7 94 (by kernel_rfl) rfl (by assumption) rfl (A7 rfl rfl rfl) (AZ 8 95 (by kernel_rfl) rfl (by assumption) rfl (A7 rfl rfl rfl) (AZ 9 96 (by kernel_rfl) rfl (by assumption) rfl (A7 rfl rfl rfl) (AZ 10 97 (by kernel_rfl) rfl (by assumption) rfl (A7 rfl rfl rfl) (A4 [11,12] (by kernel_rfl) rfl ?_))))));refine AA rfl ?_ ?_
    ·refine Cz [.int .i64 0,.int .i64 0,.int .i64 0,.slice none 0 0] rfl BS rfl rfl (fun g21=>Qa (Qo 12 rfl (Cz [.int .i64 0,.int .i64 0,.int .i64 0,.slice none 0 0] rfl BS rfl rfl (fun g22=>Qa (Qo 13 rfl (Qm rfl (Qa (Qo 14 rfl ?_))))))));refine Sa 1 [_,_,_,_] BS rfl (by simp[o1,o2,o3,oC,oF_,oG_,oH,ok,od,od']) ?_;refine Qa (Qo 15 rfl ?_);refine Sa 0 [_,_,_,_] BS rfl (by simp[o1,o2,o3,oC,oF_,oG_,oH,ok,od,od']) ?_;refine Qa (Qo 16 rfl (Qm rfl (Qa (Qe ?_))));exact AD _ ⟨_,_,w,d,d',a,b,c,a',b',c',rfl,l13',rfl,hcc⟩ Qs
    refine AA rfl ?_ ?_
    ·refine Cz [.int .i64 0,.int .i64 0,.int .i64 0,.slice none 0 0] rfl BS rfl rfl (fun g22=>Qa (Qo 11 rfl (Cz [.int .i64 0,.int .i64 0,.int .i64 0,.slice none 0 0] rfl BS rfl rfl (fun g21=>Qa (Qo 13 rfl (Qm rfl (Qa (Qo 14 rfl ?_))))))));refine Sa 0 [_,_,_,_] BS rfl (by simp[o1,o2,o3,oC,oF_,oG_,oH,ok,od,od']) ?_;refine Qa (Qo 15 rfl ?_);refine Sa 1 [_,_,_,_] BS rfl (by simp[o1,o2,o3,oC,oF_,oG_,oH,ok,od,od']) ?_;refine Qa (Qo 16 rfl (Qm rfl (Qa (Qe ?_))))
     (refine J4 ?_;exact AD _ ⟨_,_,w,d,d',a,b,c,a',b',c',rfl,l13',rfl,hcc⟩ Qs)
    exact A5
   refine AA rfl ?_ ?_
   ·refine Cz [.int .i64 0,.int .i64 0,.int .i64 0,.slice none 0 0] rfl BS rfl rfl (fun g21=>Qw (A4 [5,12] (by kernel_rfl) rfl ?_));refine AA rfl ?_ ?_
    ·refine Qc call26 rfl (kR _ l12) (fun rr h13 ms13 l13 hQ=>?_);obtain⟨l13',rfl,w,d,d',a,b,c,a',b',c',rfl,od,od',hcc⟩:=hQ;have l1213:=AJ l12 l13;refine Qa (AZ 6 87 (by kernel_rfl) rfl (by assumption) rfl (Au rfl rfl) (AZ 7 94 (by kernel_rfl) rfl (by assumption) rfl (A7 rfl rfl rfl) (AZ 8 95 (by kernel_rfl) rfl (by assumption) rfl (A7 rfl rfl rfl) (AZ 9 96 (by kernel_rfl) rfl (by assumption) rfl (A7 rfl rfl rfl) (AZ 10 97 (by kernel_rfl) rfl (by assumption) rfl (A7 rfl rfl rfl) (Qo 12 rfl (Cz [.int .i64 0,.int .i64 0,.int .i64 0,.slice none 0 0] rfl BS rfl rfl (fun g22=>Qa (Qo 13 rfl (Qm rfl (Qa (Qo 14 rfl ?_))))))))))));refine Sa 1 [_,_,_,_] BS rfl (by simp[o1,o2,o3,oC,oF_,oG_,oH,ok,od,od']) ?_;refine Qa (Qo 15 rfl ?_);refine Sa 0 [_,_,_,_] BS rfl (by simp[o1,o2,o3,oC,oF_,oG_,oH,ok,od,od']) ?_;refine Qa (Qo 16 rfl (Qm rfl (Qa (Qe ?_))));exact AD _ ⟨_,_,w,d,d',a,b,c,a',b',c',rfl,l13',rfl,hcc⟩ Qs
    refine AA rfl ?_ ?_
    ·refine Cz [.int .i64 0,.int .i64 0,.int .i64 0,.slice none 0 0] rfl BS rfl rfl (fun g22=>Qw (Qo 5 rfl (Qc call26 rfl (kR _ l12) (fun rr h13 ms13 l13 hQ=>?_))));obtain⟨l13',rfl,w,d,d',a,b,c,a',b',c',rfl,od,od',hcc⟩:=hQ;have l1213:=AJ l12 l13;refine Qa (AZ 6 87 (by kernel_rfl) rfl (by assumption) rfl (Au rfl rfl) (AZ 7 94 (by kernel_rfl) rfl (by assumption) rfl (A7 rfl rfl rfl) (AZ 8 95 (by kernel_rfl) rfl (by assumption) rfl (A7 rfl rfl rfl) (AZ 9 96 (by kernel_rfl) rfl (by assumption) rfl (A7 rfl rfl rfl) (AZ 10 97 (by kernel_rfl) rfl (by assumption) rfl (A7 rfl rfl rfl) (Qo 13 rfl (Qm rfl (Qa (Qo 14 rfl ?_)))))))));refine Sa 1 [_,_,_,_] BS rfl (by simp[o1,o2,o3,oC,oF_,oG_,oH,ok,od,od']) ?_;refine Qa (Qo 15 rfl ?_);refine Sa 0 [_,_,_,_] BS rfl (by simp[o1,o2,o3,oC,oF_,oG_,oH,ok,od,od']) ?_;refine Qa (Qo 16 rfl (Qm rfl (Qa (Qe ?_))));exact AD _ ⟨_,_,w,d,d',a,b,c,a',b',c',rfl,l13',rfl,hcc⟩ Qs
    exact A5
   refine AA rfl ?_ ?_
   ·refine Cz [.int .i64 0,.int .i64 0,.int .i64 0,.slice none 0 0] rfl BS rfl rfl (fun g22=>Qw (A4 [5,11] (by kernel_rfl) rfl ?_));refine AA rfl ?_ ?_
    ·refine Qc call26 rfl (kR _ l12) (fun rr h13 ms13 l13 hQ=>?_);obtain⟨l13',rfl,w,d,d',a,b,c,a',b',c',rfl,od,od',hcc⟩:=hQ;have l1213:=AJ l12 l13;refine Qa (AZ 6 87 (by kernel_rfl) rfl (by assumption) rfl (Au rfl rfl) (AZ 7 94 (by kernel_rfl) rfl (by assumption) rfl (A7 rfl rfl rfl) (AZ 8 95 (by kernel_rfl) rfl (by assumption) rfl (A7 rfl rfl rfl) (AZ 9 96 (by kernel_rfl) rfl (by assumption) rfl (A7 rfl rfl rfl) (AZ 10 97 (by kernel_rfl) rfl (by assumption) rfl (A7 rfl rfl rfl) (Qo 11 rfl (Cz [.int .i64 0,.int .i64 0,.int .i64 0,.slice none 0 0] rfl BS rfl rfl (fun g21=>Qa (Qo 13 rfl (Qm rfl (Qa (Qo 14 rfl ?_))))))))))));refine Sa 0 [_,_,_,_] BS rfl (by simp[o1,o2,o3,oC,oF_,oG_,oH,ok,od,od']) ?_;refine Qa (Qo 15 rfl ?_);refine Sa 1 [_,_,_,_] BS rfl (by simp[o1,o2,o3,oC,oF_,oG_,oH,ok,od,od']) ?_;refine Qa (Qo 16 rfl (Qm rfl (Qa (Qe ?_))))
     (refine J4 ?_;exact AD _ ⟨_,_,w,d,d',a,b,c,a',b',c',rfl,l13',rfl,hcc⟩ Qs)
    refine AA rfl ?_ ?_
    ·refine Cz [.int .i64 0,.int .i64 0,.int .i64 0,.slice none 0 0] rfl BS rfl rfl (fun g21=>Qw (Qo 5 rfl (Qc call26 rfl (kR _ l12) (fun rr h13 ms13 l13 hQ=>?_))));obtain⟨l13',rfl,w,d,d',a,b,c,a',b',c',rfl,od,od',hcc⟩:=hQ;have l1213:=AJ l12 l13;refine Qa (AZ 6 87 (by kernel_rfl) rfl (by assumption) rfl (Au rfl rfl) (AZ 7 94 (by kernel_rfl) rfl (by assumption) rfl (A7 rfl rfl rfl) (AZ 8 95 (by kernel_rfl) rfl (by assumption) rfl (A7 rfl rfl rfl) (AZ 9 96 (by kernel_rfl) rfl (by assumption) rfl (A7 rfl rfl rfl) (AZ 10 97 (by kernel_rfl) rfl (by assumption) rfl (A7 rfl rfl rfl) (Qo 13 rfl (Qm rfl (Qa (Qo 14 rfl ?_)))))))));refine Sa 0 [_,_,_,_] BS rfl (by simp[o1,o2,o3,oC,oF_,oG_,oH,ok,od,od']) ?_;refine Qa (Qo 15 rfl ?_);refine Sa 1 [_,_,_,_] BS rfl (by simp[o1,o2,o3,oC,oF_,oG_,oH,ok,od,od']) ?_;refine Qa (Qo 16 rfl (Qm rfl (Qa (Qe ?_))))
     (refine J4 ?_;exact AD _ ⟨_,_,w,d,d',a,b,c,a',b',c',rfl,l13',rfl,hcc⟩ Qs)
    exact A5
   exact A5
  ·obtain⟨g21,g22,w,d,d',a,b,c,a',b',c',rfl,l13,rfl,hcc⟩:=hI;refine AC fun h14 l14 hS22=>(AC fun h15 l15 hS21=>?_)
   have lk15:=AJ l12 (AJ l13 (AJ l14 l15));have hS22:=hS22.le l15;refine Ac (BG (n:=11) (bs:=[true,true,true,true,true,false,false,false,false,false,false]) [true,true,true,true,true] CS (by kernel_rfl) (by kernel_rfl) rfl rfl (Qp rfl (oG rfl CF AW (s8 _ (by assumption) _)) (Qq rfl (Qq rfl (Qp rfl (BM (k) rfl ZG QS rfl rfl (by omega) (by omega)) (QL rfl FP (cp _ (by assumption) _) ?_))))));unfold Ft;simp only[cons_append,nil_append];refine Qo 5 rfl (Qc call19 rfl (kB _ lk15) (fun rb h16 ms16 l16 hQ=>?_));obtain⟨l16',rfl,w2,a2,rfl,hcb⟩:=hQ;refine Qa (AZ 6 98 (by kernel_rfl) rfl (by assumption) rfl (Au rfl rfl) (AZ 7 105 (by kernel_rfl) rfl (by assumption) rfl (A7 rfl rfl rfl) (AZ 8 106 (by kernel_rfl) rfl (by assumption) rfl (A7 rfl rfl rfl) (Qo 9 rfl (Qm rfl (Qa (Qo 10 rfl (Qm rfl (Qa (Qe (Ab ?_)))))))))));have lk16:=AJ lk15 l16;have c22:∀ms,Cell h16 ms (⟨g22,0,none⟩:Addr) (.int .i64 a'):=fun ms=>(Seg.all hS22 0 _ rfl ms).le l16;have c21:∀ms,Cell h16 ms (⟨g21,0,none⟩:Addr) (.int .i64 a):=fun ms=>(Seg.all hS21 0 _ rfl ms).le l16;refine Ac (Bc 47 CS (Uv (by kernel_rfl)) rfl (Wm rfl (Wm rfl (AR (CW (CY rfl rfl rfl) (congrArg Value.bool (decide_eq_false fun e=>e rfl))) rfl rfl (Wm rfl (AG (Au rfl rfl) rfl rfl rfl rfl (AG (Au rfl rfl) rfl rfl rfl rfl (AG (CW (CY rfl rfl rfl) (congrArg Value.bool (decide_eq_false fun e=>e rfl))) rfl rfl rfl rfl (Wm rfl (Wm rfl (AG (Au rfl rfl) rfl rfl rfl rfl (AG (Au rfl rfl) rfl rfl rfl rfl (AG (CW (CY rfl rfl rfl) (congrArg Value.bool (decide_eq_false fun e=>e rfl))) rfl rfl rfl rfl (Wm rfl (Wm rfl (AG (Au rfl rfl) rfl rfl rfl rfl (AG (Au rfl rfl) rfl rfl rfl rfl (AG (CW (CY rfl rfl rfl) (congrArg Value.bool (decide_eq_false fun e=>e rfl))) rfl rfl rfl rfl (Wm rfl (Wm rfl (AG (Au rfl rfl) rfl rfl rfl rfl (AG (CY rfl rfl rfl) rfl rfl rfl rfl (AG (Au rfl rfl) rfl rfl rfl rfl ?_)))))))))))))))))))))));refine Cs (t:=128) rfl (fun hE=>?_) (fun hE=>?_)
   ·obtain⟨rfl,rfl,rfl⟩:=hcc hE;obtain⟨rfl,rfl⟩:=hcb hE;refine AG (Au rfl rfl) rfl rfl rfl rfl (AG (Jd (ty:=22) rfl AU rfl) rfl rfl rfl rfl (AG (Au rfl rfl) rfl rfl rfl rfl (AG (Jd (ty:=22) rfl AU rfl) rfl rfl rfl rfl (AG (oA rfl) rfl rfl rfl rfl (AG (CW (CY rfl rfl rfl) (congrArg Value.bool (decide_eq_false fun e=>e rfl))) rfl rfl rfl rfl (AG (Au rfl rfl) rfl rfl rfl rfl (AG (oF EP rfl) rfl rfl rfl rfl (AG (oL rfl U3 (c21 _)) rfl rfl rfl rfl (AG (oF EP rfl) rfl rfl rfl rfl (AG (oL rfl U3 (c22 _)) rfl rfl rfl rfl (AG (oA rfl) rfl rfl rfl rfl (AG (CW (CY rfl rfl rfl) (congrArg Value.bool (decide_eq_false fun e=>e rfl))) rfl rfl rfl rfl (AG (BX rfl rfl rfl) rfl rfl rfl rfl (AG (Au rfl rfl) rfl rfl rfl rfl (AG (Au rfl rfl) rfl rfl rfl rfl (AG (Au rfl rfl) rfl rfl rfl rfl (AG (CW (CY rfl rfl rfl) (congrArg Value.bool (decide_eq_false fun e=>e rfl))) rfl rfl rfl rfl (AG (BX rfl rfl rfl) rfl rfl rfl rfl (AG (Au rfl rfl) rfl rfl rfl rfl (AG (oG rfl CF AW (s8 _ lk16 _)) rfl rfl rfl rfl (AG (Au rfl rfl) rfl rfl rfl rfl (AG (Au rfl rfl) rfl rfl rfl rfl (AG (BM (k) rfl ZG QS rfl rfl (by omega) (by omega)) rfl rfl rfl rfl (AG (oL rfl FP (cp _ lk16 _)) rfl rfl rfl rfl (AY (Qg (AL rfl call27 rfl (cS hE _ lk16 _)) rfl (Qg (DD rfl CF rfl Bh rfl rfl rfl) rfl (Qg (Jd (ty:=27) rfl Bh rfl) rfl (Qg (CW (CY rfl rfl rfl) (congrArg Value.bool (decide_eq_false fun e=>e rfl))) rfl (Qg (BX rfl rfl rfl) rfl (Qg (CG rfl rfl rfl) rfl (Qm rfl (Am (AP rfl (Ah (Ai (Ab (Ad (Qm rfl ?_)))))))))))))))))))))))))))))))))))))));refine Qx (oA rfl) rfl (Qm rfl (Ak ?_));exact Al (3-(k+1)) _ (by omega) ⟨k+1,rfl,rfl,AJ lh lk16,rfl,by omega⟩ Qs
   ·refine Aw rfl rfl rfl rfl rfl (Aw rfl rfl rfl rfl rfl (Aw rfl rfl rfl rfl rfl (Aw rfl rfl rfl rfl rfl (Aw rfl rfl rfl rfl rfl (Aw rfl rfl rfl rfl rfl (Aw rfl rfl rfl rfl rfl (AK rfl rfl rfl rfl (AK rfl rfl rfl rfl (AK rfl rfl rfl rfl (AK rfl rfl rfl rfl (AK rfl rfl rfl rfl (AK rfl rfl rfl rfl (Aw rfl rfl rfl rfl rfl (Aw rfl rfl rfl rfl rfl (AK rfl rfl rfl rfl (AK rfl rfl rfl rfl (AK rfl rfl rfl rfl (Aw rfl rfl rfl rfl rfl (Aw rfl rfl rfl rfl rfl (AK rfl rfl rfl rfl (AK rfl rfl rfl rfl (AK rfl rfl rfl rfl (AK rfl rfl rfl rfl (AK rfl rfl rfl rfl (AY (A0 rfl rfl rfl rfl rfl rfl (A0 rfl rfl rfl rfl rfl rfl (A0 rfl rfl rfl rfl rfl rfl (A0 rfl rfl rfl rfl rfl rfl (Qk rfl (Qg (BX rfl rfl rfl) rfl (Qm rfl (Am (AP rfl (Ah (Ai (Ab (Ad (Qm rfl ?_)))))))))))))))))))))))))))))))))))))));refine Qx (oA rfl) rfl (Qm rfl (Ak ?_));exact Al (3-(k+1)) _ (by omega) ⟨k+1,rfl,rfl,AJ lh lk16,rfl,by omega⟩ Qs
 ·refine Av (Aa (Aa (Af (Ab (As (Qx (oG rfl CF AW (Seg.any hS8)) rfl (Qm rfl ?_)))))));refine Qx (AL rfl call24 rfl ((by have:=EO (Dc A F vC rF h' hK hR hF ⟨by omega,kF⟩) [];rwa [chk0]at this))) rfl ?_;refine Qm rfl (Qm rfl (Qm rfl (Qm rfl (Qm rfl (BK (Qm rfl (Qm rfl (Qg (Au rfl rfl) rfl (Qg (CU rfl rfl rfl) rfl (Qm rfl (Qm rfl (Am (An ?_)))))))))))));exact Az rfl rfl (rfl)
open Go.ChangeShapes Go.WideShapes Go.ChangeAt Go.Deep
section
variable {H:Type} {enc:TypeId×Value->H} {w:World} {base:Nat} {spare:Nat->Bool} {held:Bool}
theorem Ng{P:Program}{t:TypeId}{f0 f1 f2 f3:Field}{fuel:Nat}{cs:List Value}{x:DataW H×List MemPlace}(ht:P.underlying t=some (.struct #[f0,f1,f2,f3]))(h:DataW.trod enc P w base spare held fuel t cs=some x) :
  ∃y0 y1 y2 y3 n,cs.length=P.cellsOf t/\DataW.trod enc P w base spare held n f0.type ((cs.drop f0.offset).take (P.cellsOf f0.type))=some y0 ∧
   DataW.trod enc P w base spare held n f1.type ((cs.drop f1.offset).take (P.cellsOf f1.type))=some y1/\DataW.trod enc P w base spare held n f2.type ((cs.drop f2.offset).take (P.cellsOf f2.type))=some y2/\DataW.trod enc P w base spare held n f3.type ((cs.drop f3.offset).take (P.cellsOf f3.type))=some y3:=by
 obtain⟨xs,n,_,rfl,hl,hlen,hf⟩:=DataW.trod_struct ht h
 match xs,hlen with
 | [y0,y1,y2,y3],_=>exact⟨y0,y1,y2,y3,n,hl,by simpa using hf 0 f0 rfl,by simpa using hf 1 f1 rfl,by simpa using hf 2 f2 rfl,by simpa using hf 3 f3 rfl⟩
theorem Mz(n:Nat)(cs:List Value)(y:DataW H×List MemPlace)(h:DataW.trod enc Tryz.prog w base spare held n 5 cs=some y):∃a:Nat,cs=[.int .u8 (a:Nat)]/\a<256:=by obtain⟨b,h1,_,h2⟩:=DataW.trod_int U5 h;have h3:=bounds_u8 h2;exact⟨b.toNat,by rw[h1,Int.toNat_of_nonneg (by omega)],by omega⟩
theorem Yj{v:Value}{fuel:Nat}{x:DataW H×List MemPlace}(h:DataW.trod enc Tryz.prog w base spare held fuel 23 [v]=some x):∃l,RdL (fun g:Nat=>[.int .u8 (g:Nat)]) 1 (whole w) [] v l/\∀a∈l,a<256:=
 NY Ve (by kernel_rfl) (fun _=>rfl) (by decide) Mz h
theorem QK{v:Value}{r:Reach}{b0:Nat}{d:DataW H}{ps:List MemPlace}(hval:Value.okWide Tryz.prog w r b0 25 v)(h:DataW.Trod enc Tryz.prog w base spare held 25 v d ps):∃(sp be:Nat) (v0 vG:Value) (L:List Int) (G:List Nat),v=.agg #[.int .u8 sp,v0,vG,.int .u8 be]/\sp<256/\be<256/\(∀g∈G,g<256)/\RdL cI 1 (whole w) [] v0 L/\RdL (fun g:Nat=>[.int .u8 (g:Nat)]) 1 (whole w) [] vG G:=by
 obtain⟨cs,rfl,hc⟩:=okWide_struct U25 hval;obtain⟨fuel,hf⟩:=h;obtain⟨y0,y1,y2,y3,n,h0,h1,h2,h3,h4⟩:=Ng U25 hf;have hc3:cs.size=4:=hc.trans (by kernel_rfl);obtain⟨l⟩:=cs
 match l,hc3 with
 | [c0,c1,c2,c3],_=>
  have h1:DataW.trod enc Tryz.prog w base spare held n 5 [c0]=some y0:=h1;have h2:DataW.trod enc Tryz.prog w base spare held n 22 [c1]=some y1:=h2;have h3:DataW.trod enc Tryz.prog w base spare held n 23 [c2]=some y2:=h3;have h4:DataW.trod enc Tryz.prog w base spare held n 5 [c3]=some y3:=h4;obtain⟨sp,e0,w0⟩:=Mz n _ _ h1;obtain⟨L,hR,hE⟩:=Q9 h2;obtain⟨G,hG,hI⟩:=Yj h3;obtain⟨be,e2,w2⟩:=Mz n _ _ h4;simp only[List.cons.injEq,and_true]at e0 e2;subst e0 e2;exact⟨sp,be,c1,c2,L,G,rfl,w0,w2,hI,hR,hG⟩
end
end Go.Proofs.Q
namespace Go.Proofs.Q
open Go.Proofs.Tryz
open Go.Eng Go.ChangeShapes Go.WideShapes Go.ChangeAt Go.RowKit Go.Deep
section
variable {H:Type} {enc:TypeId×Value->H} {w:World} {base:Nat} {spare:Nat->Bool} {held:Bool}
theorem Zj:Tryz.prog.underlying 58=some (.array 6 3):=by kernel_rfl
theorem VO{v:Value}{r:Reach}{b0:Nat}{d:DataW H}{ps:List MemPlace}(hval:Value.okWide Tryz.prog w r b0 58 v)(h:DataW.Trod enc Tryz.prog w base spare held 58 v d ps):∃a0 a1 a2 a3 a4 a5:Int,v=.agg #[.int .i64 a0,.int .i64 a1,.int .i64 a2,.int .i64 a3,.int .i64 a4,.int .i64 a5]/\BH a0/\BH a1/\BH a2/\BH a3/\BH a4/\BH a5:=by
 obtain⟨cs,rfl,hc⟩:∃cs,v=.agg cs/\cs.size=Tryz.prog.cellsOf 58:=by simp only[Value.okWide,Zj]at hval;obtain⟨cs,h1,h2,_⟩:=hval;exact⟨cs,h1,h2⟩
 obtain⟨fuel,hf⟩:=h;obtain⟨xs,m,_,_,_,hl,hx⟩:=DataW.trod_array Zj hf;have hc2:cs.size=6:=hc.trans (by kernel_rfl);obtain⟨l⟩:=cs
 match l,hc2,xs,hl with
 | [c0,c1,c2,c3,c4,c5],_,[y0,y1,y2,y3,y4,y5],_=>
  have h0:DataW.trod enc Tryz.prog w base spare held m 3 [c0]=some y0:=hx 0 (by decide);have h1:DataW.trod enc Tryz.prog w base spare held m 3 [c1]=some y1:=hx 1 (by decide);have h2:DataW.trod enc Tryz.prog w base spare held m 3 [c2]=some y2:=hx 2 (by decide);have h3:DataW.trod enc Tryz.prog w base spare held m 3 [c3]=some y3:=hx 3 (by decide);have h4:DataW.trod enc Tryz.prog w base spare held m 3 [c4]=some y4:=hx 4 (by decide);have h5:DataW.trod enc Tryz.prog w base spare held m 3 [c5]=some y5:=hx 5 (by decide);obtain⟨a0,e0,w0⟩:=El m _ _ h0;obtain⟨a1,e1,w1⟩:=El m _ _ h1;obtain⟨a2,e2,w2⟩:=El m _ _ h2;obtain⟨a3,e3,w3⟩:=El m _ _ h3;obtain⟨a4,e4,w4⟩:=El m _ _ h4;obtain⟨a5,e5,w5⟩:=El m _ _ h5;obtain rfl:c0=.int .i64 a0:=by simpa[cI] using e0
  obtain rfl:c1=.int .i64 a1:=by simpa[cI] using e1
  obtain rfl:c2=.int .i64 a2:=by simpa[cI] using e2
  obtain rfl:c3=.int .i64 a3:=by simpa[cI] using e3
  obtain rfl:c4=.int .i64 a4:=by simpa[cI] using e4
  obtain rfl:c5=.int .i64 a5:=by simpa[cI] using e5
  exact⟨a0,a1,a2,a3,a4,a5,rfl,w0,w1,w2,w3,w4,w5⟩
end
end Go.Proofs.Q
