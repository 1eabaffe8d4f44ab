/- A part of the proof. -/
import Derived.Test.YtodheebhahdepaaGreatDoorRG
import Derived.Laws.StructEq
import Derived.ChangeKeysEq
set_option linter.unusedSimpArgs false
set_option linter.unusedVariables false
set_option linter.unusedSectionVars false
set_option maxRecDepth 100000
set_option maxHeartbeats 4000000

open List (length_map length_singleton getElem_mem replicate range length_append nil_append length_take mem_cons cons_append map_append mem_cons_of_mem take_succ_eq_append_getElem append_nil map_map take_length length_cons length_range filter_cons)
namespace Go.Proofs.Q
open Go.Proofs.Tryz
open Go.Eng Go.RowKit
section
open Go.Lin
def eye(i j:Nat):Int:=if i=j then 1 else 0
theorem YU(k:Nat)(i j:Nat):Fe (λi j=>if i=j/\i<k then 1 else 0) k k 1 i j=if i=j/\i<k+1 then 1 else 0:=by
 unfold Fe;by_cases h:i=k/\j=k
 ·rw[ac h,ac ω]
 ·rw[aa h];show(if i=j/\i<k then 1 else 0)=_;by_cases h2:i=j/\i<k
  ·rw[ac h2,ac ω]
  ·rw[aa h2,aa ω]
theorem T3(p:Int)(h:Hp)(hI:BS p):FnT Tryz.prog 145 #[.int .i64 p] h [] (λr _ _=>r=.bool (decide (IsP p))):=by
 have hI1:=hI.1;have hI2:=hI.2;refine Au func145 ntmps145 Y Y (λw0 hw0=>?_);simp only[A6];refine Aq (Qm Y (Am (Ac (Aq (Qm Y (Qm Y (Qm Y ?_)))))));refine AL (t:=6) Y (λhs=>?_) (λhs=>?_)
 ·refine Qk Y (Qk Y (Qm Y (Am (A5 Y (Aq (Qm Y (Am (An (Ae ?_)))))))));exact Ap Y Y (by rw[aj];exact λh=>jt h.1 ω)
 ·refine Qg (Ar Y Y) Y (Qg (Ct Y Y Y) Y (Qm Y (Am ?_)));refine Ao Y (λhs2=>?_) (λhs2=>?_)
  ·refine Ac (Ab (Qm Y (Am (An (Ae ?_)))));exact Ap Y Y (by rw[aj];exact λh=>jt h.2.1 ω)
  ·refine Ah (Ad (Ac (Aq (Qm Y (Am (Ag ?_))))))
   refine Ay (λn s h' ms'=>∃(k:Nat),n=1000-k/\s=[(0,.w p),(3,.w k)]/\h=h'/\ms'=[]/\2<=k/\k<=1000/\∀j,2<=j->j<k->p.toNat%j≠0)
    (1000-2) _ ⟨2,rfl,rfl,rfl,rfl,ω,ω,λj h1 h2=>ω⟩ Qs ?_
   rintro n s h' ms' ⟨k,rfl,rfl,rfl,rfl,h2,hk,hno⟩;refine Ac (Aq (Qm Y (Qm Y (Qm Y (Am ?_)))));refine Ao Y (λhlt=>?_) (λhlt=>?_)
   ·refine Ah (Ad (Ac (Ag (Aq (Qm Y (Qm Y (Qx (BH Y Y Y ω ω) Y (Qm Y (Am ?_)))))))));have hm:=Tw (p:=p) ω k ω;refine Ao Y (λhz=>?_) (λhz=>?_)
    ·refine Ac (Ab (Qm Y (Am (An (Aj (Ae (Ae (Aj (Ae ?_)))))))));exact Ap Y Y (by rw[aj];exact λh=>jt (show p.toNat%k=0 by omega) (h.2.2 k ω h2))
    ·refine Ah (Ai (Ad (Ab (Qm Y (Qx (oA Y) Y (Qm Y (Ak ?_)))))));refine Al (1000-(k+1)) _ ω ⟨k+1,Y,Y,Y,Y,ω,ω,λj h1 h3=>?_⟩ Qs;rcases (ω:j<k\/j=k) with h4|h4
     ·exact hno j h1 h4
     ·subst h4;omega
   ·refine Av (Aa (Aa (Af (Ad (Aq (Qm Y (Am (An ?_))))))));exact Ap Y Y (by rw[ai];exact⟨ω,ω,λj h1 h2=>hno j h2 ω⟩)
theorem K7(p:Int)(h:Hp)(hI:BS p)(ms:List Hp):FnV Tryz.prog 145 #[.int .i64 p] h ms (.bool (decide (IsP p))):=DW (T3 p h hI) ms
theorem X1(r c:Int)(h:Hp):FnT Tryz.prog 153 #[.int .i64 r,.int .i64 c] h [] (λx _ _=>x=.bool (decide (F0 r c))):=by
 refine Au func153 ntmps153 Y Y (λw0 hw0=>?_);simp only[A6];refine Aq (Qm Y (BM (Qm Y (Qm Y (Qm Y ?_)))));refine AL (t:=7) Y (λhs=>?_) (λhs=>?_)
 ·refine Qg (Ar Y Y) Y (Qg (HE Y Y Y) Y (Qm Y (Qm Y ?_)));refine AL (t:=11) Y (λhs2=>?_) (λhs2=>?_)
  ·refine Qg (Ar Y Y) Y (Qg (JQ Y Y Y) Y (Qm Y (Qm Y ?_)));refine AL (t:=15) Y (λhs3=>?_) (λhs3=>?_)
   ·refine Qg (Ar Y Y) Y (Qg (JQ Y Y Y) Y (Qm Y (Qm Y (Am (An ?_)))));exact Ap Y Y (by congr 1;rw[ft];unfold F0;omega)
   ·refine Qk Y (Qk Y (Qm Y (Qm Y (Am (An ?_)))));exact Ap Y Y (by rw[aj];unfold F0;omega)
  ·refine Qk Y (Qk Y (Qm Y (Qm Y (Qk Y (Qk Y (Qm Y (Qm Y (Am (An ?_)))))))));exact Ap Y Y (by rw[aj];unfold F0;omega)
 ·refine Qk Y (Qk Y (Qm Y (Qm Y (Qk Y (Qk Y (Qm Y (Qm Y (Qk Y (Qk Y (Qm Y (Qm Y (Am (An ?_)))))))))))));exact Ap Y Y (by rw[aj];unfold F0;omega)
theorem Sj(r c:Int)(h:Hp)(ms:List Hp):FnV Tryz.prog 153 #[.int .i64 r,.int .i64 c] h ms (.bool (decide (F0 r c))):=DW (X1 r c h) ms
theorem JO(M:FM)(ev:Value)(h:Hp)(hO:M.Ok)(hR:RdL cI 1 h [] ev M.e):FnT Tryz.prog 97 #[.agg #[.int .i64 M.p,.int .i64 M.rows,.int .i64 M.cols,ev]] h [] (λr _ _=>r=.bool (decide M.Rt)):=by
 have hl:=hR.len_le;refine Au func97 ntmps97 Y Y (λw0 hw0=>?_);simp only[A6];refine Aq (AP [_,_,_,_] Y Y (by rfl) Y Y Y (λg1=>Qm Y (BM (Qf Cz Y (Ql Y U3 (Cell.blk 0 Y Y) (Qx (AH Y call145 Y (K7 _ _ hO.p _)) Y (Qm Y (BM (Qf CQ Y (Ql Y U3 (Cell.blk 0 Y Y) (Qf BU Y (Ql Y U3 (Cell.blk 0 Y Y) (Qx (AH Y call153 Y (Sj _ _ _ _)) Y (Qm Y (Am (Ac (Aq (Qm Y (Qm Y (Qm Y ?_))))))))))))))))))));refine FG (t:=16) Y (λhp=>?_) (λhp=>?_)
 ·refine Qk Y (Qk Y (Qm Y (Qm Y (Qk Y (Qk Y (Qk Y (Qk Y (Qk Y (Qk Y (Qk Y (Qk Y (Qk Y (Qm Y (Am (A5 Y (Aq (Qm Y (Am (An (Ae ?_))))))))))))))))))));exact Ap Y Y (by rw[aj];exact λhx=>jt hx.1 (by simpa using hp))
 ·have hp:IsP M.p:=by simpa using hp
  refine Qg (Ar Y Y) Y (Qg (DB Y Y) Y (Qm Y (Qm Y ?_)));refine FG (t:=20) Y (λhf=>?_) (λhf=>?_)
  ·refine Qk Y (Qk Y (Qk Y (Qk Y (Qk Y (Qk Y (Qk Y (Qk Y (Qk Y (Qm Y (Am (A5 Y (Aq (Qm Y (Am (An (Ae ?_))))))))))))))));exact Ap Y Y (by rw[aj];exact λhx=>jt hx.2.1 (by simpa using hf))
  ·have hf:F0 M.rows M.cols:=by simpa using hf
   have hm:=JC hf;refine Qg (oF Bl Y) Y (Qg (oL Y AN (Cell.blk 0 Y Y)) Y (Qg (As hR.rd.any Y AN Y) Y (Qg (oF CQ Y) Y (Qg (oL Y U3 (Cell.blk 0 Y Y)) Y (Qg (oF BU Y) Y (Qg (oL Y U3 (Cell.blk 0 Y Y)) Y (Qg (oM Y) Y (Qg (B8 Y Y Y) Y (Qm Y (Am ?_))))))))));refine Ao Y (λhlen=>?_) (λhlen=>?_)
   ·refine Ac (Ab (Qm Y (Am (An (Ae ?_)))));exact Ap Y Y (by rw[aj];exact λhx=>hlen hx.2.2.1)
   ·have hlen:(M.e.length:Int)=M.rows*M.cols:=iy.1 hlen;refine Ah (Ad (Ac (Aq (Qm Y (Am (Ag ?_))))))
    refine Ay (λn s h' ms'=>∃(k:Nat),n=M.e.length-k/\s=[(1,.pt g1),(5,.w k)]/\h=h'/\ms'=[Bh g1 65 [.w M.p,.w M.rows,.w M.cols,ev]]/\k<=M.e.length/\∀x∈M.e.take k,0<=x/\x<M.p)
     (M.e.length-0) _ ⟨0,rfl,rfl,rfl,rfl,ω,by simp⟩ Qs ?_
    rintro n s h' ms' ⟨k,rfl,rfl,rfl,rfl,hk,hno⟩;refine Ac (Aq (Qm Y (Qf Bl Y (Ql Y AN (Cell.blk 0 Y Y) (Qx (As hR.rd.any Y AN Y) Y (Qm Y (Am ?_)))))));refine Ao Y (λhlt=>?_) (λhlt=>?_)
    ·have hlt':k<M.e.length:=ω
     refine Ah (Ad (Ac (Ag (Ac (Bc 14 CT κ Y (Wf Bl Y (Wl Y AN (Cell.blk 0 Y Y) (Wm Y (AM (AA _ hR.rd.any Y AN A0 Y Y Y ω) Y Y (Wl Y U3 (hR.any.cell0 hlt' Y) (Wm Y (Wm Y ?_))))))))))));refine CC (t:=44) Y (λhs=>?_) (λhs=>?_)
     ·refine AC Y Y Y Y Y (AC Y Y Y Y Y (AC Y Y Y Y Y (AC Y Y Y Y Y (AC Y Y Y Y Y (AC Y Y Y Y Y (AC Y Y Y Y Y (A7 (Qk Y (Qm Y (Am (A5 Y (Aq (Qm Y (Am (An (Aj (Ae (Ae (Aj (Ae ?_))))))))))))))))))));exact Ap Y Y (by rw[aj];exact λhx=>by have:=hx.2.2.2 _ (ae hlt');omega)
     ·refine AJ (oF Bl Y) Y Y Y Y (AJ (oL Y AN (Cell.blk 0 Y Y)) Y Y Y Y (AJ (Ar Y Y) Y Y Y Y (AJ (AA _ hR.rd.any Y AN A0 Y Y Y ω) Y Y Y Y (AJ (oL Y U3 (hR.any.cell0 hlt' Y)) Y Y Y Y (AJ (oF Cz Y) Y Y Y Y (AJ (oL Y U3 (Cell.blk 0 Y Y)) Y Y Y Y (A7 (Qg (HE Y Y Y) Y (Qm Y (Am ?_))))))))));refine Ao Y (λhs2=>?_) (λhs2=>?_)
      ·refine Ac (Ab (Qm Y (Am (An (Aj (Ae (Ae (Aj (Ae ?_)))))))));exact Ap Y Y (by rw[aj];exact λhx=>by have:=hx.2.2.2 _ (ae hlt');omega)
      ·refine Ah (Ai (Ad (Ab (Qm Y (Qx (oA Y) Y (Qm Y (Ak ?_)))))));refine Al (M.e.length-(k+1)) _ ω ⟨k+1,Y,Y,Y,Y,ω,?_⟩ Qs;intro x hx;rw[ib,ah hlt']at hx;rcases bf.1 hx with hx|hx
       ·exact hno x hx
       ·simp at hx;subst hx;omega
    ·refine Av (Aa (Aa (Af (Ad (Aq (Qm Y (Am (An ?_))))))));exact Ap Y Y (by rw[ai];exact⟨hp,hf,hlen,λx hx=>hno x (by rw[io ω];exact hx)⟩)
theorem QO(M:FM)(ev:Value)(h:Hp)(hO:M.Ok)(hR:RdL cI 1 h [] ev M.e)(ms:List Hp):FnV Tryz.prog 97 #[.agg #[.int .i64 M.p,.int .i64 M.rows,.int .i64 M.cols,ev]] h ms (.bool (decide M.Rt)):=DW (JO M ev h hO hR) ms
theorem LF(p r c:Int)(h:Hp)(hI:BS p):FnT Tryz.prog 146 #[.int .i64 p,.int .i64 r,.int .i64 c] h [] (λv h' ms'=>h=h'/\Kk v ms' (Q5 p r c)):=by
 refine Au func146 ntmps146 Y Y (λw0 hw0=>?_);simp only[A6];refine Aq (Cx [.w 0,.w 0,.w 0,.nl] Y A4 Y Y (λg6=>BM (Qm Y (Qx (AH Y call145 Y (K7 _ _ hI _)) Y (Qm Y (BM (Qm Y (Qm Y (Qx (AH Y call153 Y (Sj _ _ _ _)) Y (Qm Y (Am (Ac (Aq (Qm Y (Qm Y (Qm Y ?_))))))))))))))));refine FG (t:=16) Y (λhp=>?_) (λhp=>?_)
 ·have hp:¬IsP p:=by simpa using hp
  refine Qk Y (Qk Y (Qm Y (Am (A5 Y (Aq (Qx (Bb Kw [.w 0,.w 0,.w 0,.nl] [] [_,_,_,_] Y A4 Y Y Qt Y) Y ?_))))));refine Sa 0 [_,_,_,_] A4 Y (by simp[Value.oneCell']) ?_;refine Am (An (Ae (JV ?_)));exact BC (vs:=[_,_,_,_]) 1 Y Y Dr Y A4 Y Y (⟨Y,_,_,Y,by unfold Q5;rw[aa (λhx=>hp hx.1)];rfl,by unfold Q5;rw[aa (λhx=>hp hx.1)];exact OwnL.nil Bi⟩)
 ·have hp:IsP p:=by simpa using hp
  refine Qg (Ar Y Y) Y (Qg (DB Y Y) Y (Qm Y (Am ?_)));refine BG Y (λhf=>?_) (λhf=>?_)
  ·have hf:¬F0 r c:=by simpa using hf
   refine Aq (Qx (Bb Kw [.w 0,.w 0,.w 0,.nl] [] [_,_,_,_] Y A4 Y Y Qt Y) Y ?_);refine Sa 0 [_,_,_,_] A4 Y (by simp[Value.oneCell']) ?_;refine Am (An (Ae (JV ?_)));exact BC (vs:=[_,_,_,_]) 1 Y Y Dr Y A4 Y Y (⟨Y,_,_,Y,by unfold Q5;rw[aa (λhx=>hf hx.2)];rfl,by unfold Q5;rw[aa (λhx=>hf hx.2)];exact OwnL.nil Bi⟩)
  ·have hf:F0 r c:=by simpa using hf
   have hm:=JC hf;obtain⟨n,hn⟩:∃n:Nat,r*c=n:=⟨(r*c).toNat,ω⟩
   refine Ah (Ad (Aq (Qm Y (Qm Y (Qm Y (Qm Y (Qm Y (Qx (oM Y) Y (CL (n:=n) Y AN A0 Y Y Y ω ω ω ω Y Y Y (λg27=>Qx (Bb Kw [.w 0,.w 0,.w 0,.nl] [(0,_),(1,_),(2,_),(3,_)] [_,_,_,_] Y A4 Y Y Qt Y) Y ?_))))))))));refine Sa 1 [_,_,_,_] A4 Y (by simp[Value.oneCell']) ?_;refine Am (An ?_);exact BC (vs:=[_,_,_,_]) 1 Y Y Dr Y A4 Y Y (⟨Y,_,_,Y,by unfold Q5;rw[ac ⟨hp,hf⟩],by unfold Q5;rw[ac ⟨hp,hf⟩,hn];exact OwnL.rep n 0 ω⟩)
theorem Zx(p:Int)(n:Nat)(h:Hp)(hp:IsP p)(hn:n<=400):FnT Tryz.prog 87 #[.int .i64 p,.int .i64 n] h [] (λv h' ms'=>h=h'/\Kk v ms' (FH p n n eye)):=by
 have hI:BS p:=⟨by have:=hp.1;omega,by have:=hp.2.1;omega⟩
 refine Au func87 ntmps87 Y Y (λw0 hw0=>?_);simp only[A6];refine Aq (Cx [.w 0,.w 0,.w 0,.nl] Y A4 Y Y (λg4=>BM (Qm Y (Qm Y (Qm Y (Qc call146 Y (LF p n n h hI) (λv h1 ms1 l1 hF=>?_)))))));obtain⟨rfl,ev,m,rfl,rfl,hO⟩:=hF;rw[KY hp hn hn]at hO ⊢;have hO2:=hO.own.1;have he1:=hO.o1;refine Cx [.w 0,.w 0,.w 0,.nl] Y A4 Y Y (λg5=>?_);refine Sa 0 [_,_,_,_] A4 Y (by simp[he1]) ?_;refine Am (Ac (Aq (Qm Y (Am (Ag ?_)))))
 refine Ay (λq s h' ms'=>∃(k:Nat) (m:Hp),q=n-k/\s=[(1,.w n),(4,.pt g4),(5,.pt g5),(6,.w k)]/\h=h'/\ms'=[Bh g5 65 [.w p,.w n,.w n,ev],m,Bh g4 65 [.w 0,.w 0,.w 0,.nl]]/\k<=n/\OwnL cI 1 3 m ev (BV n n λi j=>if i=j/\i<k then 1 else 0))
  (n-0) _ ⟨0,m,rfl,rfl,rfl,rfl,ω,by rw[AW (g:=λ_ _=>0) (λi _ j _=>aa ω)];exact hO⟩ Qs ?_
 rintro q s h' ms' ⟨k,m,rfl,rfl,rfl,rfl,hk,hO⟩;refine Ac (Aq (Qm Y (Qf CQ Y (Ql Y U3 (Cell.blk 0 Y Y) (Qm Y (Am ?_))))));refine Ao Y (λhlt=>?_) (λhlt=>?_)
 ·have hkn:k<n:=ω
  have hix:=Ds hkn hkn;have hl:(BV n n λi j=>if i=j/\i<k then 1 else 0).length=n*n:=BO _ _ _;have hkk:k*n<=400*400:=dh ω hn;refine Ah (Ad (Ac (Ag (Ab (Qf Bl Y (Ql Y AN (Cell.blk 0 Y Y) (Qm Y (Qm Y (Qx (oM Y) Y (Qm Y (Qx (oA Y) Y (Qx (AA (k*n+k) (hO.rd (List.Mem.tail _ Mh)).rd Y AN A0 Y Y ω ω) Y (BQ 1 (k*n+k) hO Y A0 Y Y Y ω Y Y (λm' hO'=>Ak (Ai (Ad (Ab (Qm Y (Qx (oA Y) Y (Qm Y (Ak ?_)))))))))))))))))))));refine Al (n-(k+1)) _ ω ⟨k+1,m',Y,Y,Y,Y,ω,?_⟩ Qs;rw[DZ _ hkn,AW (λi _ j _=>YU k i j)]at hO';exact hO'
 ·refine Av (Aa (Aa (Af (Ad (Aq (Qx (oG Y Dr A4 (Seg.blk 0 Y)) Y ?_))))));refine Sa 2 [_,_,_,_] A4 Y (by simp[he1]) ?_;refine Am (An (AX ?_));exact BC (vs:=[_,_,_,_]) 1 Y Y Dr Y A4 Y Y (⟨Y,ev,m,Y,Y,by rw[show k=n by omega,AW (g:=eye) (λi hi j hj=>by unfold eye;simp only[hi,and_true])]at hO;exact hO⟩)
theorem QI(M N:FM)(ev eu:Value)(h:Hp)(hOM:M.Ok)(hON:N.Ok)(hRM:RdL cI 1 h [] ev M.e)(hRN:RdL cI 1 h [] eu N.e):FnT Tryz.prog 154 #[.agg #[.int .i64 M.p,.int .i64 M.rows,.int .i64 M.cols,ev],.agg #[.int .i64 N.p,.int .i64 N.rows,.int .i64 N.cols,eu]] h [] (λr _ _=>r=.bool (decide (M.Rt/\N.Rt/\M.p=N.p))):=by
 refine Au func154 ntmps154 Y Y (λw0 hw0=>?_);simp only[A6];refine Aq (AP [_,_,_,_] Y Y (by rfl) Y Y Y (λg2=>AP [_,_,_,_] Y Y (by rfl) Y Y Y (λg3=>Qm Y (BM (Qx (oG Y Dr A4 (Seg.blk 1 Y)) Y (Qx (AH Y call97 Y (DW (JO M ev h hOM hRM) _)) Y (Qm Y (BM (Qx (oG Y Dr A4 (Seg.blk 0 Y)) Y (Qx (AH Y call97 Y (DW (JO N eu h hON hRN) _)) Y (Qm Y (BM (Qm Y (Qm Y ?_))))))))))))));refine AL (t:=12) Y (λhs=>?_) (λhs=>?_)
 ·refine Qg (Ar Y Y) Y (Qm Y (Qm Y ?_));refine AL (t:=15) Y (λhs2=>?_) (λhs2=>?_)
  ·refine Qg (oF Cz Y) Y (Qg (oL Y U3 (Cell.blk 1 Y Y)) Y (Qg (oF Cz Y) Y (Qg (oL Y U3 (Cell.blk 0 Y Y)) Y (Qg (CO Y Y Y) Y (Qm Y (Qm Y (Am (An ?_))))))));exact Ap Y Y (by congr 1;rw[ft];simp[hs,hs2])
  ·refine Qk Y (Qk Y (Qk Y (Qk Y (Qk Y (Qm Y (Qm Y (Am (An ?_))))))));exact Ap Y Y (by rw[aj];exact λhx=>hs2 hx.2.1)
 ·refine Qk Y (Qm Y (Qm Y (Qk Y (Qk Y (Qk Y (Qk Y (Qk Y (Qm Y (Qm Y (Am (An ?_)))))))))));exact Ap Y Y (by rw[aj];exact λhx=>hs hx.1)
theorem AaT{p:Int}{r c r' c':Nat}{f g:Nat->Nat->Int}{ev eu:Value}{h:Hp}(R:RtM p r c f)(S:RtM p r' c' g)(hR:RdL cI 1 h [] ev (BV r c f))(hS:RdL cI 1 h [] eu (BV r' c' g))(ms:List Hp):FnV Tryz.prog 151 #[.agg #[.int .i64 p,.int .i64 r,.int .i64 c,ev],.agg #[.int .i64 p,.int .i64 r',.int .i64 c',eu]] h ms (.bool true):=by have:=DW (NM (FH p r c f) (FH p r' c' g) ev eu h R.ok S.ok hR hS) ms;rw[ai (show(FH p r c f).Rt/\(FH p r' c' g).Rt/\(FH p r c f).p=(FH p r' c' g).p from⟨R.rt,S.rt,Y⟩)]at this;exact this
theorem Aaa{p:Int}{r c r' c':Nat}{f g:Nat->Nat->Int}{ev eu:Value}{h:Hp}(R:RtM p r c f)(S:RtM p r' c' g)(hR:RdL cI 1 h [] ev (BV r c f))(hS:RdL cI 1 h [] eu (BV r' c' g))(ms:List Hp):FnV Tryz.prog 154 #[.agg #[.int .i64 p,.int .i64 r,.int .i64 c,ev],.agg #[.int .i64 p,.int .i64 r',.int .i64 c',eu]] h ms (.bool true):=by have:=DW (QI (FH p r c f) (FH p r' c' g) ev eu h R.ok S.ok hR hS) ms;rw[ai (show(FH p r c f).Rt/\(FH p r' c' g).Rt/\(FH p r c f).p=(FH p r' c' g).p from⟨R.rt,S.rt,Y⟩)]at this;exact this
def D4(p:Int)(k:Nat)(f g:Nat->Nat->Int)(i j:Nat):Int:=sm k (λt=>f i t*g t j)%p
def part(p:Int)(k:Nat)(f g:Nat->Nat->Int)(i t j a b:Nat):Int:=sm (if a<i then k else if a=i then(if b<j then t+1 else t) else 0) (λt=>f a t*g t b)%p
theorem M5(p:Int)(k:Nat)(f g:Nat->Nat->Int)(a b:Nat):part p k f g 0 0 0 a b=0:=by
 unfold part;rw[aa ω];by_cases h:a=0
 ·rw[ac h,aa ω];exact Int.zero_emod p
 ·rw[aa h];exact Int.zero_emod p
theorem M4(p:Int)(k:Nat)(f g:Nat->Nat->Int)(i t j a b:Nat):Fe (part p k f g i t j) i j ((part p k f g i t j i j+f i t*g t j)%p) a b=part p k f g i t (j+1) a b:=by
 unfold Fe;by_cases h:a=i/\b=j
 ·obtain⟨rfl,rfl⟩:=h;rw[ac ⟨rfl,rfl⟩];unfold part;rw[aa ω,ac rfl,aa ω,aa ω,ac rfl,ac ω,Int.emod_add_emod];rfl
 ·rw[aa h];unfold part;by_cases h1:a<i
  ·rw[ac h1,ac h1]
  ·rw[aa h1,aa h1];by_cases h2:a=i
   ·rw[ac h2,ac h2];by_cases h3:b<j
    ·rw[ac h3,ac ω]
    ·rw[aa h3,aa ω]
   ·rw[aa h2,aa h2]
theorem Nr(p:Int)(k:Nat)(f g:Nat->Nat->Int)(i t c a b:Nat)(hb:b<c):part p k f g i t c a b=part p k f g i (t+1) 0 a b:=by
 unfold part;by_cases h1:a<i
 ·rw[ac h1,ac h1]
 ·rw[aa h1,aa h1];by_cases h2:a=i
  ·rw[ac h2,ac h2,ac hb,aa ω]
  ·rw[aa h2,aa h2]
theorem TF(p:Int)(k:Nat)(f g:Nat->Nat->Int)(i t a b:Nat)(hz:f i t=0):part p k f g i t 0 a b=part p k f g i (t+1) 0 a b:=by
 unfold part;by_cases h1:a<i
 ·rw[ac h1,ac h1]
 ·rw[aa h1,aa h1];by_cases h2:a=i
  ·subst h2;rw[ac rfl,ac rfl,aa ω,aa ω];show _=(sm t _+f a t*g t b)%p;rw[hz,ix,gl]
  ·rw[aa h2,aa h2]
theorem Jy(p:Int)(k:Nat)(f g:Nat->Nat->Int)(i a b:Nat):part p k f g i k 0 a b=part p k f g (i+1) 0 0 a b:=by
 unfold part;by_cases h1:a<i
 ·rw[ac h1,ac ω]
 ·rw[aa h1];by_cases h2:a=i
  ·rw[ac h2,aa ω,ac ω]
  ·rw[aa h2,aa ω];by_cases h3:a=i+1
   ·rw[ac h3,aa ω]
   ·rw[aa h3]
theorem O8(p:Int)(k:Nat)(f g:Nat->Nat->Int)(r a b:Nat)(ha:a<r):part p k f g r 0 0 a b=D4 p k f g a b:=by unfold part D4;rw[ac ha]
theorem SK{p:Int}(hp:0<p)(k:Nat)(f g:Nat->Nat->Int)(i t j a b:Nat):0<=part p k f g i t j a b/\part p k f g i t j a b<p:=
 ⟨co _ ω,bw _ hp⟩
theorem N3{p:Int}{r k c:Nat}{f g:Nat->Nat->Int}(R:RtM p r k f)(S:RtM p k c g):RtM p r c (D4 p k f g):=by have:=R.bd;exact⟨R.pr,R.rl,S.cl,λi _ j _=>⟨co _ ω,bw _ ω⟩⟩
theorem Om(p:Int)(r k c:Nat)(f g:Nat->Nat->Int)(ev eu:Value)(h:Hp)(R:RtM p r k f)(S:RtM p k c g)(hR:RdL cI 1 h [] ev (BV r k f))(hS:RdL cI 1 h [] eu (BV k c g)) :
  FnT Tryz.prog 93 #[.agg #[.w p,.w r,.w k,ev],.agg #[.w p,.w k,.w c,eu]] h [] (λx h' ms'=>h=h'/\∃v,x=.tuple #[v,.bool true]/\Kk v ms' (FH p r c (D4 p k f g))):=by
 have hb:=R.bd;have rl:=R.rl;have kl:=R.cl;have cl:=S.cl;refine Au func93 ntmps93 Y Y (λw0 hw0=>?_);simp only[A6];refine Aq (AP [_,_,_,_] Y Y (by rfl) Y Y Y (λg2=>AP [_,_,_,_] Y Y (by rfl) Y Y Y (λg3=>Cx [.w 0,.w 0,.w 0,.nl] Y A4 Y Y (λg4=>Qm Y (Am (Ac (Aq (Qx (oG Y Dr A4 (Seg.blk 2 Y)) Y (Qx (oG Y Dr A4 (Seg.blk 1 Y)) Y (Qx (AH Y call151 Y (AaT R S hR hS _)) Y (Qm Y (Qm Y (Qg (oF BU Y) Y (Qg (oL Y U3 (Cell.blk 2 Y Y)) Y (Qg (oF CQ Y) Y (Qg (oL Y U3 (Cell.blk 1 Y Y)) Y (Qg (B8 Y Y Y) Y (Qm Y (Am (Ao Y (λhc=>jt hc ω) (λhc=>Ah (Ad (Aq (Qf Cz Y (Ql Y U3 (Cell.blk 2 Y Y) (Qf CQ Y (Ql Y U3 (Cell.blk 2 Y Y) (Qf BU Y (Ql Y U3 (Cell.blk 1 Y Y) (Qc call125 Y (SZ p r c h R.i64) (λv h1 ms1 l1 hF=>?_)))))))))))))))))))))))))))))));obtain⟨rfl,ew,m,rfl,rfl,hO⟩:=hF;rw[KY R.pr rl cl]at hO ⊢;have he1:=hO.o1;refine Cx [.w 0,.w 0,.w 0,.nl] Y A4 Y Y (λg6=>?_);refine Sa 0 [_,_,_,_] A4 Y (by simp[he1]) ?_;refine Am (Ac (Aq (Qf CQ Y (Ql Y U3 (Cell.blk 4 Y Y) (Qm Y (Am (Ag ?_)))))))
 refine Ay (λq s h' ms'=>∃(i:Nat) (m:Hp),q=r-i/\s=[(2,.pt g2),(3,.pt g3),(4,.pt g4),(6,.pt g6),(33,.w r),(34,.w i)]/\h=h'/\ms'=[Bh g6 65 [.w p,.w r,.w c,ew],m,Bh g4 65 [.w 0,.w 0,.w 0,.nl],Bh g3 65 [.w p,.w k,.w c,eu],Bh g2 65 [.w p,.w r,.w k,ev]]/\i<=r/\OwnL cI 1 3 m ew (BV r c (part p k f g i 0 0)))
  (r-0) _ ⟨0,m,rfl,rfl,rfl,rfl,ω,by rw[AW (g:=λ_ _=>0) (λa _ b _=>M5 p k f g a b)];exact hO⟩ Qs ?_
 rintro q s h' ms' ⟨i,m,rfl,rfl,rfl,rfl,hi,hO⟩;refine Aq (Qm Y (Am (Ac ?_)));refine Ao Y (λhlt=>?_) (λhlt=>?_)
 ·have hir:i<r:=ω
  have e1:(i+1)*k=i*k+k:=by rw[Nat.add_mul,Nat.one_mul]
  have b1:(i+1)*k<=r*k:=d7 k hir;have b2:r*k<=400*400:=dh rl kl;have el:(BV r k f).length=r*k:=BO _ _ _;have e3:((i:Int)+1)*k=i*k+k:=by rw[Int.add_mul,ir]
  refine Ah (Ad (Ac (Ag (Aq (Qm Y (Qm Y (BM (Qf Bl Y (Ql Y AN (Cell.blk 4 Y Y) (Qm Y (Qf BU Y (Ql Y U3 (Cell.blk 4 Y Y) (Qx (oM Y) Y (Qm Y (Qx (oA Y) Y (Qf BU Y (Ql Y U3 (Cell.blk 4 Y Y) (Qx (oM Y) Y (Qx (G1 (i*k) ((i+1)*k) hR.rd.any Y AN A0 Y Y Y ω ω ω ω) Y (Qx (As (hR.row hir).rd.any Y AN Y) Y (Qm Y (Am (Ag ?_)))))))))))))))))))))))
  refine Ay (λq s h' ms'=>∃(t:Nat) (m:Hp),q=k-t/\s=[(2,.pt g2),(3,.pt g3),(4,.pt g4),(6,.pt g6),(7,.w i),(33,.w r),(34,.w i),(48,Cj 1 ev (i*k) ((i+1)*k)),(49,.w ((EK k (f i)).length:Nat)),(50,.w t)]/\h=h'/\ms'=[Bh g6 65 [.w p,.w r,.w c,ew],m,Bh g4 65 [.w 0,.w 0,.w 0,.nl],Bh g3 65 [.w p,.w k,.w c,eu],Bh g2 65 [.w p,.w r,.w k,ev]]/\t<=k/\OwnL cI 1 3 m ew (BV r c (part p k f g i t 0)))
   (k-0) _ ⟨0,m,rfl,rfl,rfl,rfl,ω,hO⟩ Qs ?_
  rintro q s h' ms' ⟨t,m,rfl,rfl,rfl,rfl,ht,hO⟩;have ek:=Cd k (f i);refine Aq (Qm Y (Am (Ac ?_)));refine Ao Y (λhlt2=>?_) (λhlt2=>?_)
  ·have htk:t<k:=ω
   have d1:(t+1)*c=t*c+c:=by rw[Nat.add_mul,Nat.one_mul]
   have c1:(t+1)*c<=k*c:=d7 c htk;have c2:k*c<=400*400:=dh kl cl;have el2:(BV k c g).length=k*c:=BO _ _ _;have d3:((t:Int)+1)*c=t*c+c:=by rw[Int.add_mul,ir]
   refine Ah (Ad (Ac (Ag (Aq (Qm Y (Qx (AA _ (hR.row hir).rd.any Y AN A0 Y Y Y ω) Y (Ql Y U3 ((hR.row hir).any.ev htk) (Qm Y (Qm Y (BM (Qf Bl Y (Ql Y AN (Cell.blk 3 Y Y) (Qm Y (Qf BU Y (Ql Y U3 (Cell.blk 3 Y Y) (Qx (oM Y) Y (Qm Y (Qx (oA Y) Y (Qf BU Y (Ql Y U3 (Cell.blk 3 Y Y) (Qx (oM Y) Y (Qx (G1 (t*c) ((t+1)*c) hS.rd.any Y AN A0 Y Y Y ω ω ω ω) Y (Qx (As (hS.row htk).rd.any Y AN Y) Y (Qm Y (Am (Ag ?_))))))))))))))))))))))))))
   refine Ay (λq s h' ms'=>∃(j:Nat) (m:Hp),q=c-j/\s=[(2,.pt g2),(3,.pt g3),(4,.pt g4),(6,.pt g6),(7,.w i),(9,.w (f i t)),(33,.w r),(34,.w i),(48,Cj 1 ev (i*k) ((i+1)*k)),(49,.w ((EK k (f i)).length:Nat)),(50,.w t),(66,Cj 1 eu (t*c) ((t+1)*c)),(67,.w ((EK c (g t)).length:Nat)),(68,.w j)]/\h=h'/\ms'=[Bh g6 65 [.w p,.w r,.w c,ew],m,Bh g4 65 [.w 0,.w 0,.w 0,.nl],Bh g3 65 [.w p,.w k,.w c,eu],Bh g2 65 [.w p,.w r,.w k,ev]]/\j<=c/\OwnL cI 1 3 m ew (BV r c (part p k f g i t j)))
    (c-0) _ ⟨0,m,rfl,rfl,rfl,rfl,ω,hO⟩ Qs ?_
   rintro q s h' ms' ⟨j,m,rfl,rfl,rfl,rfl,hj,hO⟩;have ec:=Cd c (g t);refine Aq (Qm Y (Am (Ac ?_)));refine Ao Y (λhlt3=>?_) (λhlt3=>?_)
   ·have hjc:j<c:=ω
    have hix:=Ds hir hjc;have hrc:r*c<=400*400:=dh rl cl;have el3':(BV r c (part p k f g i t j)).length=r*c:=BO _ _ _;have hbp:=SK (show 0<p by omega) k f g i t j i j;have hbm:=HN (R.en i hir t htk) (S.en t htk j hjc) hb.2;have hfb:=R.en i hir t htk;have hgb:=S.en t htk j hjc;refine Ah (Ad (Ac (Ag (Aq (Qm Y (Qx (AA _ (hS.row htk).rd.any Y AN A0 Y Y Y ω) Y (Ql Y U3 ((hS.row htk).any.ev hjc) (Qm Y (Qm Y (BM (Qm Y (Qf BU Y (Ql Y U3 (Cell.blk 3 Y Y) (Qx (oM Y) Y (Qm Y (Qx (oA Y) Y (Qm Y (Am (Bc 15 CT κ Y (Wf Bl Y (Wl Y AN (Cell.blk 0 Y Y) (Wm Y (Wf Bl Y (Wl Y AN (Cell.blk 0 Y Y) (Wm Y (AM (AA (i*c+j) (hO.rd (List.Mem.tail _ Mh)).rd Y AN A0 Y Y ω ω) Y Y (Wl Y U3 ((hO.rd (ms:=[Bh g6 65 [.w p,.w r,.w c,ew],m,Bh g4 65 [.w 0,.w 0,.w 0,.nl],Bh g3 65 [.w p,.w k,.w c,eu],Bh g2 65 [.w p,.w r,.w k,ev]]) (List.Mem.tail _ Mh)).ent hir hjc) (Wm Y (Wm Y (AM (oM Y) Y Y (AM (oA Y) Y Y (Wf Cz Y (Wl Y U3 (Cell.blk 4 Y Y) (AM (BH Y Y Y ω ω) Y Y (A7 (Qx (AA (i*c+j) (hO.rd (List.Mem.tail _ Mh)).rd Y AN A0 Y Y ω ω) Y (BQ 1 (i*c+j) hO Y A0 Y Y Y ω Y Y (λm' hO'=>Ak (Ai ?_)))))))))))))))))))))))))))))))))))))));refine Ad (Ab (Qx (oA Y) Y (Qm Y (Ak ?_))));refine Al (c-(j+1)) _ ω ⟨j+1,m',Y,Y,Y,Y,ω,?_⟩ Qs;rw[DZ _ hjc,AW (λa _ b _=>M4 p k f g i t j a b)]at hO';exact hO'
   ·refine Av (Aa (Aa (Af (Ai (Ad (Ab (Qx (oA Y) Y (Qm Y (Ak ?_)))))))));obtain rfl:j=c:=ω
    refine Al (k-(t+1)) _ ω ⟨t+1,m,Y,Y,Y,Y,ω,?_⟩ Qs;rw[AW (λa _ b hb=>Nr p k f g i t j a b hb)]at hO;exact hO
  ·refine Av (Aa (Aa (Af (Ai (Ad (Ab (Qx (oA Y) Y (Qm Y (Ak ?_)))))))));obtain rfl:t=k:=ω
   refine Al (r-(i+1)) _ ω ⟨i+1,m,Y,Y,Y,Y,ω,?_⟩ Qs;rw[AW (λa _ b hb=>Jy p t f g i a b)]at hO;exact hO
 ·refine Av (Aa (Aa (Af (Ad (Aq (Qx (oG Y Dr A4 (Seg.blk 0 Y)) Y ?_))))));refine Sa 2 [_,_,_,_] A4 Y (by simp[he1]) ?_;refine Qm Y (Am (An ?_));obtain rfl:i=r:=ω
  refine AZ 4 Y (AZ 3 Y (AZ 0 Y ?_));exact Ed (vs:=[_,_,_,_]) 1 Y Y Y Dr Y A4 Y Y (⟨Y,_,Y,ew,m,Y,Y,by rw[AW (λa ha b hb=>O8 p k f g i a b ha)]at hO;exact hO⟩)
theorem YE(p:Int)(r k c:Nat)(f g:Nat->Nat->Int)(ev eu:Value)(h:Hp)(R:RtM p r k f)(S:RtM p k c g)(hR:RdL cI 1 h [] ev (BV r k f))(hS:RdL cI 1 h [] eu (BV k c g)) :
  FnT Tryz.prog 98 #[.agg #[.w p,.w r,.w k,ev],.agg #[.w p,.w k,.w c,eu]] h [] (λx h' ms'=>h=h'/\∃v,x=.tuple #[v,.bool true]/\Kk v ms' (FH p r c (D4 p k f g))):=by
 have hb:=R.bd;have rl:=R.rl;have kl:=R.cl;have cl:=S.cl;refine Au func98 ntmps98 Y Y (λw0 hw0=>?_);simp only[A6];refine Aq (AP [_,_,_,_] Y Y (by rfl) Y Y Y (λg2=>AP [_,_,_,_] Y Y (by rfl) Y Y Y (λg3=>Cx [.w 0,.w 0,.w 0,.nl] Y A4 Y Y (λg4=>Qm Y (BM (Qx (oG Y Dr A4 (Seg.blk 2 Y)) Y (Qx (oG Y Dr A4 (Seg.blk 1 Y)) Y (Qx (AH Y call154 Y (Aaa R S hR hS _)) Y (Qm Y (Am (Ac (Aq (Qm Y (Qm Y (Qm Y (Qg (oF BU Y) Y (Qg (oL Y U3 (Cell.blk 2 Y Y)) Y (Qg (oF CQ Y) Y (Qg (oL Y U3 (Cell.blk 1 Y Y)) Y (Qg (B8 Y Y Y) Y (Qm Y (Am (Ao Y (λhc=>jt hc ω) (λhc=>Ah (Ad (Aq (Qf Cz Y (Ql Y U3 (Cell.blk 2 Y Y) (Qf CQ Y (Ql Y U3 (Cell.blk 2 Y Y) (Qf BU Y (Ql Y U3 (Cell.blk 1 Y Y) (Qc call146 Y (LF p r c h R.i64) (λv h1 ms1 l1 hF=>?_))))))))))))))))))))))))))))))))));obtain⟨rfl,ew,m,rfl,rfl,hO⟩:=hF;rw[KY R.pr rl cl]at hO ⊢;have he1:=hO.o1;refine Cx [.w 0,.w 0,.w 0,.nl] Y A4 Y Y (λg7=>?_);refine Sa 0 [_,_,_,_] A4 Y (by simp[he1]) ?_;refine Am (Ac (Aq (Qm Y (Am (Ag ?_)))))
 refine Ay (λq s h' ms'=>∃(i:Nat) (m:Hp),q=r-i/\s=[(2,.pt g2),(3,.pt g3),(4,.pt g4),(7,.pt g7),(8,.w i)]/\h=h'/\ms'=[Bh g7 65 [.w p,.w r,.w c,ew],m,Bh g4 65 [.w 0,.w 0,.w 0,.nl],Bh g3 65 [.w p,.w k,.w c,eu],Bh g2 65 [.w p,.w r,.w k,ev]]/\i<=r/\OwnL cI 1 3 m ew (BV r c (part p k f g i 0 0)))
  (r-0) _ ⟨0,m,rfl,rfl,rfl,rfl,ω,by rw[AW (g:=λ_ _=>0) (λa _ b _=>M5 p k f g a b)];exact hO⟩ Qs ?_
 rintro q s h' ms' ⟨i,m,rfl,rfl,rfl,rfl,hi,hO⟩;refine Ac (Aq (Qm Y (Qf CQ Y (Ql Y U3 (Cell.blk 4 Y Y) (Qm Y (Am ?_))))));refine Ao Y (λhlt=>?_) (λhlt=>?_)
 ·have hir:i<r:=ω
  have b2:r*k<=400*400:=dh rl kl;have b3:r*c<=400*400:=dh rl cl;have b4:k*c<=400*400:=dh kl cl;have el:(BV r k f).length=r*k:=BO _ _ _;have el2:(BV k c g).length=k*c:=BO _ _ _;refine Ah (Ad (Ac (Ag (Aq (Qm Y (Am (Ag ?_)))))))
  refine Ay (λq s h' ms'=>∃(t:Nat) (m:Hp),q=k-t/\s=[(2,.pt g2),(3,.pt g3),(4,.pt g4),(7,.pt g7),(8,.w i),(9,.w t)]/\h=h'/\ms'=[Bh g7 65 [.w p,.w r,.w c,ew],m,Bh g4 65 [.w 0,.w 0,.w 0,.nl],Bh g3 65 [.w p,.w k,.w c,eu],Bh g2 65 [.w p,.w r,.w k,ev]]/\t<=k/\OwnL cI 1 3 m ew (BV r c (part p k f g i t 0)))
   (k-0) _ ⟨0,m,rfl,rfl,rfl,rfl,ω,hO⟩ Qs ?_
  rintro q s h' ms' ⟨t,m,rfl,rfl,rfl,rfl,ht,hO⟩;refine Ac (Aq (Qm Y (Qf BU Y (Ql Y U3 (Cell.blk 4 Y Y) (Qm Y (Am ?_))))));refine Ao Y (λhlt2=>?_) (λhlt2=>?_)
  ·have htk:t<k:=ω
   have hix:=Ds hir htk;have hfb:=R.en i hir t htk;refine Ah (Ad (Ac (Ag (Aq (Qf Bl Y (Ql Y AN (Cell.blk 4 Y Y) (Qm Y (Qf BU Y (Ql Y U3 (Cell.blk 4 Y Y) (Qx (oM Y) Y (Qm Y (Qx (oA Y) Y (Qx (BN (i*k+t) hR.rd.any Y AN A0 Y Y) Y (Ql Y U3 (hR.any.ent hir htk) (Qm Y (BM (Qm Y (Am (Ag ?_)))))))))))))))))))
   refine Ay (λq s h' ms'=>∃(j:Nat) (m:Hp),q=c-j/\s=[(2,.pt g2),(3,.pt g3),(4,.pt g4),(7,.pt g7),(8,.w i),(9,.w t),(10,.w (f i t)),(11,.w j)]/\h=h'/\ms'=[Bh g7 65 [.w p,.w r,.w c,ew],m,Bh g4 65 [.w 0,.w 0,.w 0,.nl],Bh g3 65 [.w p,.w k,.w c,eu],Bh g2 65 [.w p,.w r,.w k,ev]]/\j<=c/\(f i t=0->j=0)/\OwnL cI 1 3 m ew (BV r c (part p k f g i t j)))
    (c-0) _ ⟨0,m,rfl,rfl,rfl,rfl,ω,λ_=>rfl,hO⟩ Qs ?_
   rintro q s h' ms' ⟨j,m,rfl,rfl,rfl,rfl,hj,hj0,hO⟩;refine Ac (Aq (Qm Y (Qf BU Y (Ql Y U3 (Cell.blk 3 Y Y) (Qm Y (Qm Y ?_))))));refine AL (t:=58) Y (λhlt3=>?_) (λhlt3=>?_)
   ·refine Qg (Ar Y Y) Y (Qg (Ct Y Y Y) Y (Qm Y (Am ?_)));refine Ao Y (λhpos=>?_) (λhpos=>?_)
    ·have hjc:j<c:=ω
     have hix2:=Ds hir hjc;have hix3:=Ds htk hjc;have el3':(BV r c (part p k f g i t j)).length=r*c:=BO _ _ _;have hbp:=SK (show 0<p by omega) k f g i t j i j;have hgb:=S.en t htk j hjc;have hbm:=HN hfb hgb hb.2;refine Ah (Ad (Ac (Ag (Bc 34 CT κ Y (Wf Bl Y (Wl Y AN (Cell.blk 0 Y Y) (Wm Y (Wf BU Y (Wl Y U3 (Cell.blk 3 Y Y) (AM (oM Y) Y Y (Wm Y (AM (oA Y) Y Y (Wf Bl Y (Wl Y AN (Cell.blk 0 Y Y) (Wm Y (Wf BU Y (Wl Y U3 (Cell.blk 3 Y Y) (AM (oM Y) Y Y (Wm Y (AM (oA Y) Y Y (AM (AA (i*c+j) (hO.rd (List.Mem.tail _ Mh)).rd Y AN A0 Y Y ω ω) Y Y (Wl Y U3 ((hO.rd (List.Mem.tail _ Mh)).ent hir hjc) (Wm Y (Wf Bl Y (Wl Y AN (Cell.blk 3 Y Y) (Wm Y (Wf BU Y (Wl Y U3 (Cell.blk 3 Y Y) (AM (oM Y) Y Y (Wm Y (AM (oA Y) Y Y (AM (BN (t*c+j) hS.rd.any Y AN A0 Y Y) Y Y (Wl Y U3 (hS.any.ent htk hjc) (AM (oM Y) Y Y (AM (oA Y) Y Y (Wf Cz Y (Wl Y U3 (Cell.blk 4 Y Y) (AM (BH Y Y Y ω ω) Y Y (A7 ?_)))))))))))))))))))))))))))))))))))))));refine Qx (AA (i*c+j) (hO.rd (List.Mem.tail _ Mh)).rd Y AN A0 Y Y ω ω) Y (BQ 1 (i*c+j) hO Y A0 Y Y Y ω Y Y (λm' hO'=>Ak (Ai (Ad (Ab (Qm Y (Qx (oA Y) Y (Qm Y (Ak ?_)))))))));refine Al (c-(j+1)) _ ω ⟨j+1,m',Y,Y,Y,Y,ω,λh0=>ω,?_⟩ Qs;rw[DZ _ hjc,AW (λa _ b _=>M4 p k f g i t j a b)]at hO';exact hO'
    ·have hz:f i t=0:=ω
     obtain rfl:=hj0 hz;refine Av (Aa (Aa (Af (Ai (Ad (Ab (Qm Y (Qx (oA Y) Y (Qm Y (Ak ?_))))))))));refine Al (k-(t+1)) _ ω ⟨t+1,m,Y,Y,Y,Y,ω,?_⟩ Qs;rw[AW (λa _ b _=>TF p k f g i t a b hz)]at hO;exact hO
   ·refine Qk Y (Qk Y (Qm Y (Am (AQ Y (Av (Aa (Aa (Af (Ai (Ad (Ab (Qm Y (Qx (oA Y) Y (Qm Y (Ak ?_)))))))))))))));obtain rfl:j=c:=ω
    refine Al (k-(t+1)) _ ω ⟨t+1,m,Y,Y,Y,Y,ω,?_⟩ Qs;rw[AW (λa _ b hb=>Nr p k f g i t j a b hb)]at hO;exact hO
  ·refine Av (Aa (Aa (Af (Ai (Ad (Ab (Qm Y (Qx (oA Y) Y (Qm Y (Ak ?_))))))))));obtain rfl:t=k:=ω
   refine Al (r-(i+1)) _ ω ⟨i+1,m,Y,Y,Y,Y,ω,?_⟩ Qs;rw[AW (λa _ b hb=>Jy p t f g i a b)]at hO;exact hO
 ·refine Av (Aa (Aa (Af (Ad (Aq (Qx (oG Y Dr A4 (Seg.blk 0 Y)) Y ?_))))));refine Sa 2 [_,_,_,_] A4 Y (by simp[he1]) ?_;refine Qm Y (Am (An ?_));obtain rfl:i=r:=ω
  refine AZ 4 Y (AZ 3 Y (AZ 0 Y ?_));exact Ed (vs:=[_,_,_,_]) 1 Y Y Y Dr Y A4 Y Y (⟨Y,_,Y,ew,m,Y,Y,by rw[AW (λa ha b hb=>O8 p k f g i a b ha)]at hO;exact hO⟩)
theorem UF(n p:Int)(h:Hp)(hp:2<=p/\p<=997)(hn:0<=n/\n<p):FnT Tryz.prog 89 #[.int .i64 n,.int .i64 p] h [] (λr _ _=>r=.int .i64 (FN p n)):=by
 refine Au func89 ntmps89 Y Y (λw0 hw0=>?_);simp only[A6];refine Aq (Qm Y (Am (Ac (Aq (Qm Y (Am (Ag ?_)))))))
 refine Ay (λq sl h' ms'=>∃(k:Nat),q=p.toNat-k/\sl=[(0,.w n),(1,.w p),(5,.w k)]/\h=h'/\ms'=[]/\1<=k/\(k:Int)<=p/\∀j:Nat,1<=j->j<k->n*(j:Int)%p≠1)
  (p.toNat-1) _ ⟨1,rfl,rfl,rfl,rfl,ω,ω,λj h1 h2=>ω⟩ Qs ?_
 rintro q sl h' ms' ⟨k,rfl,rfl,rfl,rfl,h1,hk,hno⟩;have hnk:0<=n*(k:Int)/\n*(k:Int)<=997*997:=⟨dt hn.1 ω,jb ω ω ω ω⟩
 refine Ac (Aq (Qm Y (Qm Y (Qm Y (Am ?_)))));refine Ao Y (λhlt=>?_) (λhlt=>?_)
 ·refine Ah (Ad (Ac (Ag (Aq (Qm Y (Qm Y (Qx (oM Y) Y (Qm Y (Qx (BH Y Y Y ω ω) Y (Qm Y (Am ?_)))))))))));refine Ao Y (λhe=>?_) (λhe=>?_)
  ·refine Ac (Ab (Qm Y (Qm Y (Am (An (Aj (Ae (Ae (Aj (Ae ?_))))))))));exact Ap Y Y (by rw[LY h1 hlt he hno])
  ·refine Ah (Ai (Ad (Ab (Qm Y (Qx (oA Y) Y (Qm Y (Ak ?_)))))));refine Al (p.toNat-(k+1)) _ ω ⟨k+1,Y,Y,Y,Y,ω,ω,λj h3 h4=>?_⟩ Qs;rcases (ω:j<k\/j=k) with h5|rfl
   ·exact hno j h3 h5
   ·exact he
 ·have hkp:(k:Int)=p:=ω
  refine Av (Aa (Aa (Af (Ad (Aq (Qm Y (Am (An ?_))))))));exact Ap Y Y (by rw[Ls λj h3 h4=>hno j h3 ω])
theorem Xg(n p:Int)(h:Hp)(hp:2<=p/\p<=997)(hn:0<=n/\n<p)(ms:List Hp):FnV Tryz.prog 89 #[.int .i64 n,.int .i64 p] h ms (.int .i64 (FN p n)):=DW (UF n p h hp hn) ms
theorem TW(p:Int)(n:Nat)(F:Nat->Nat->Int)(ev:Value)(j:Nat)(h:Hp)(hR:RdL cI 1 h [] ev (BV n n F))(hn:n<=400)(hj:j<n):FnT Tryz.prog 88 #[.agg #[.int .i64 p,.int .i64 n,.int .i64 n,ev],.int .i64 j] h [] (λr _ _=>r=.int .i64 (AR (EK n λi=>F i j))):=by
 have o1:=hR.rd.one;refine Au func88 ntmps88 Y Y (λw0 hw0=>?_);simp only[A6];refine Aq (AP [_,_,_,_] Y Y (by rfl) Y Y Y (λg2=>Qm Y (Am (Ax λh1 l1 hS=>?_))));have hR:=hR.up l1;have e1:∀ms,Cell h1 ms (⟨g2,1,none⟩:Addr) (.w n):=λms=>Seg.all hS 1 _ Y ms;have e2:∀ms,Cell h1 ms (⟨g2,2,none⟩:Addr) (.w n):=λms=>Seg.all hS 2 _ Y ms;have e3:∀ms,Cell h1 ms (⟨g2,3,none⟩:Addr) ev:=λms=>Seg.all hS 3 _ Y ms;refine Ac (Aq (Qf CQ Y (Ql Y U3 (e1 _) (Qx (oS Y) Y (Qm Y (Am (Ag ?_)))))))
 refine Ay (λq sl h' ms'=>∃(k:Nat) (y:Int),k=q/\sl=[(1,.w j),(2,.pt g2),(5,.w y)]/\h1=h'/\ms'=[]/\y=(k:Int)-1/\k<=n/\∀i (hi:i<(EK n λi=>F i j).length),k<=i->(EK n λi=>F i j)[i]=0)
  n _ ⟨n,(n:Int)-1,rfl,rfl,rfl,rfl,rfl,ω,λi hi h=>by rw[Cd]at hi;omega⟩ Qs ?_
 rintro q sl h' ms' ⟨k,y,rfl,rfl,rfl,rfl,hy,hk,hz⟩;refine Ac (Aq (Qm Y (Qm Y (Am ?_))));refine Ao Y (λhge=>?_) (λhge=>?_)
 ·have hk1:k-1<n:=ω
  have c0:∀ms,Cell h1 ms ((AG ev).add (((k-1)*n+j)*1)) (.w (F (k-1) j)):=λms=>(hR.any (ms:=ms)).ent hk1 hj;have hix:=Ds hk1 hj;have hnn:n*n<=160000:=by have:=dh hn hn;omega
  have hml:(BV n n F).length=n*n:=BO _ _ _;have hcast:((((k-1)*n+j:Nat)):Int)=y*(n:Int)+j:=by rw[gj,da,show((k-1:Nat):Int)=y by omega]
  have hyn:0<=y*(n:Int):=dt ω ω;refine Ah (Ad (Ac (Ag (Aq (Qf Bl Y (Ql Y AN (e3 _) (Qm Y (Qf BU Y (Ql Y U3 (e2 _) (Qx (oM Y) Y (Qm Y (Qx (oA Y) Y (Qx (AA (((k-1)*n+j)) hR.rd.any Y AN A0 Y Y ω ω) Y (Ql Y U3 (c0 _) (Qm Y (Am ?_))))))))))))))));refine Ao Y (λhne=>?_) (λhne=>?_)
  ·have hl:AR (EK n λi=>F i j)=y:=by refine I3 (.inl ⟨k-1,by rw[Cd];exact hk1,ω,by rw[GY hk1];exact hne,λi hi hlt=>hz i hi ω⟩)
   refine Aq (Qm Y (Qm Y (Am (An (Aj (Ae (Ae (Aj (Ae ?_)))))))));exact Ap Y Y (by rw[hl])
  ·refine Ah (Ai (Ad (Ab (Qm Y (Qx (oS Y) Y (Qm Y (Ak ?_)))))));refine Al (k-1) _ ω ⟨k-1,y-1,Y,Y,Y,Y,ω,ω,λi hi hle=>?_⟩ Qs;rcases (ω:k<=i\/i=k-1) with h1|rfl
   ·exact hz i hi h1
   ·rw[GY hk1];exact bk.1 hne
 ·have hl:AR (EK n λi=>F i j)=-1:=I3 (.inr ⟨Y,λi hi=>hz i hi ω⟩);refine Av (Aa (Aa (Af (Ad (Aq (Qm Y (Am (An ?_))))))));exact Ap Y Y (by rw[hl])
theorem I4(p:Int)(n:Nat)(F:Nat->Nat->Int)(ev:Value)(j:Nat)(h:Hp)(hR:RdL cI 1 h [] ev (BV n n F))(hn:n<=400)(hj:j<n)(ms:List Hp):FnV Tryz.prog 88 #[.agg #[.int .i64 p,.int .i64 n,.int .i64 n,ev],.int .i64 j] h ms (.int .i64 (AR (EK n λi=>F i j))):=DW (TW p n F ev j h hR hn hj) ms
def Hg(o:List Cl)(F:List (Int×Int))(p:Int):Int:=if(DN o F).2≠0 then(DN o F).2 else if IsP p then 0 else 46
theorem Ki(l:List Ce)(F:List (Int×Int))(v vf:Value)(p:Int)(hp:Hp)(hK:RgC l)(hR:RdC hp v l)(hF:RdL cV 2 hp [] vf F)(hV:Ir F)(hI:BS p)(hl:l.length<=400):FnT Tryz.prog 85 #[.agg #[v],vf,.int .i64 p] hp [] (λr _ _=>r=.int .i64 (Hg (cn l) F p)):=by
 have o1:=hR.q.rd.one;have o2:=hF.rd.one;refine Au func85 ntmps85 Y Y (λw0 hw0=>?_);simp only[A6];refine Aq (AP [_] Y Y (by rfl) Y Y Y (λg3=>Qm Y (Am (Ax λh1 l1 hS=>?_))));have hR:=hR.up l1;have hF:=hF.up l1;have hck:=λms=>DW (RZ l F v vf h1 hK hR hF hV) ms;have hre:Hg (cn l) F p=if(DN (cn l) F).2≠0 then(DN (cn l) F).2 else if IsP p then 0 else 46:=rfl
 rw[hre];clear hre;generalize DN (cn l) F=cc at *;refine Aq (Qx (oG Y CS A8 (Seg.any hS)) Y (Qm Y (Qx (AH Y call25 Y (hck _)) Y (Qm Y (Qm Y (Qm Y (Qm Y (Qm Y (Am (Ac (Aq (Qm Y (Qm Y (Am ?_))))))))))))));refine Ao Y (λhe=>?_) (λhe=>?_)
 ·refine Ac (Ab (Qm Y (Qm Y (Am (An (Ae ?_))))));exact Ap Y Y (by rw[ac he];rfl)
 ·refine Ah (Ad (Aq (Qm Y (Qx (AH Y call145 Y (K7 p h1 hI _)) Y (Qm Y (Am (Ac (Aq (Qm Y (Qm Y (Am ?_)))))))))));refine BG Y (λhpr=>?_) (λhpr=>?_)
  ·have hnp:¬IsP p:=λq=>by rw[ai q]at hpr;cases hpr
   refine Aq (Qm Y (Am (An (Ae ?_))));exact Ap Y Y (by rw[aa he,aa hnp])
  ·have hnp:IsP p:=bc λq=>by rw[aj q]at hpr;cases hpr
   refine Ah (Ad (Ac (Aq (Qx (oG Y CS A8 (Seg.any hS)) Y (Qc call49 Y (Fa l v h1 hK.r.cs hR) (λrA h2 ms2 l2 hQ=>?_))))));obtain⟨l2',mA,A,rfl,hOA,hA,hsA⟩:=hQ;rw[Et hK.r]at hA
   have hAl:A.length=l.length:=by have:=aw List.length hA;rw[af,Fh,af]at this;exact this
   refine Ba hOA λh3 l3 hRA=>?_;have oA_:=hRA.rd.one;refine Qx (As hRA.rd.any Y Bm Y) Y (Qm Y (Am (Ao Y (λhc=>jt hc ω) (λhc=>Ah (Ad (Aq (Qm Y (Am (An ?_)))))))));exact Ap Y Y (by rw[aa he,ac hnp])
end
section
open Go.Lin
section
variable {p:Int} {n:Nat} {D:Nat->Nat->Int} {dm:Nat->Int} {pos:Nat->Nat} {v v':Nat->Nat->Int} {low low':Nat->Option Nat}
theorem XX(R:Rdc p n D dm pos v low)(R':Rdc p n D dm pos v' low'){j i:Nat}(hj:j<n)(h:low j=some i):∃k,k<n/\low' k=some i/\pos k<=pos j:=by
 obtain⟨C,hC⟩:=R.chg R' (f:=λi=>(pos i:Int)) (g:=λi=>(pos i:Int)) (δ:=0) (λi j _ _ h=>by show(pos i:Int)<=pos j;omega) (λi j _ _ h=>by show(pos i:Int)<=pos j;omega) (λi _=>by show(pos i:Int)<=pos i+0;omega) (dm j);have hlo:lo low j=i:=by unfold lo;rw[h];rfl
 have hb:OR dm low (dm j) j=true:=prs_iff.2 ⟨Y,by rw[hlo];exact h⟩;obtain⟨h1,h2⟩:=hC j hj hb;obtain⟨hi,hn,hm⟩:=R.lsome j i hj h;have h3:¬p∣EL n (OR dm low' (dm j)) (C j) (λk=>F2 n D (v' k)) i:=λq=>hn ((h1 i hi).dvd_iff.2 q);obtain⟨k,hk,h4⟩:=AaB h3;cases hbk:OR dm low' (dm j) k with
 | false=>rw[hbk]at h4;exact jt (iq p) h4
 | true=>
  rw[hbk]at h4;have h4:¬p∣C j k*F2 n D (v' k) i:=h4;have hc:¬p∣C j k:=λq=>h4 (jc q);have hv:¬p∣F2 n D (v' k) i:=λq=>h4 (fu q);obtain⟨h5,h6⟩:=h2 k hk hbk hc;rw[hlo]at h6;have T:=R'.prs_top hk hbk;have h7:=T.2.2 i hi hv;have h8:lo low' k=i:=R.pinj _ _ T.1 hi ω;exact⟨k,hk,by rw[<-h8];exact(prs_iff.1 hbk).2,ω⟩
theorem AaU(R:Rdc p n D dm pos v low)(R':Rdc p n D dm pos v' low'){j:Nat}(hj:j<n):low j=low' j:=by
 have key:∀{v v':Nat->Nat->Int} {low low':Nat->Option Nat},Rdc p n D dm pos v low->Rdc p n D dm pos v' low'->∀i,low j=some i->low' j=some i:=λ{v v' low low'} R R' i h=>by obtain⟨k,hk,h1,h2⟩:=XX R R' hj h;obtain⟨j',hj',h3,h4⟩:=XX R' R hk h1;have:j'=j:=R.linj j' j i hj' hj h3 h;subst this;have:k=j':=R.pinj _ _ hk hj ω;rw[<-this];exact h1
 cases h:low j with
 | some i=>exact(key R R' i h).symm
 | none=>
  cases h':low' j with
  | none=>rfl
  | some i=>have:=key R' R i h';rw[h]at this;cases this
end
section
variable {p:Int} {F F':List (Int×Int)} {l l' S S':List Ce} {R V R' V':Nat->List Int}
theorem XL{f g:Int->Int}(hS:Ma f S)(hS':Ma g S')(hp:(S.map Ce.c).Perm (S'.map Ce.c))(hn:(S.map λa=>a.c.id).Nodup)(hfg:∀a∈S,∀b∈S,(f a.c.id<f b.c.id<->g a.c.id<g b.c.id)):S'.map Ce.c=S.map Ce.c:=by
 have hS1:(S.map Ce.c).Pairwise λa b=>f a.id<f b.id\/(f a.id=f b.id/\(a.dim<b.dim\/(a.dim=b.dim/\a.id<=b.id))):=cm.2 hS
 have hS2:(S'.map Ce.c).Pairwise λa b=>f a.id<f b.id\/(f a.id=f b.id/\(a.dim<b.dim\/(a.dim=b.dim/\a.id<=b.id))):=by have:(S'.map Ce.c).Pairwise λa b=>g a.id<g b.id\/(g a.id=g b.id/\(a.dim<b.dim\/(a.dim=b.dim/\a.id<=b.id))):=cm.2 hS';refine this.imp_of_mem λ{a b} ha hb h=>?_;obtain⟨x,hx,rfl⟩:=ad.1 (hp.mem_iff.2 ha);obtain⟨y,hy,rfl⟩:=ad.1 (hp.mem_iff.2 hb);have h1:=hfg x hx y hy;have h2:=hfg y hy x hx;omega
 have hinj:∀a∈S.map Ce.c,∀b∈S.map Ce.c,a.id=b.id->a=b:=λa ha b hb e=>by
  have hn':((S.map Ce.c).map Cl.id).Nodup:=by rw[fk];exact hn
  have h1:=DG hn' ha;have h2:=DG hn' hb;rw[e,h2]at h1;exact(di h1).symm
 refine(List.Perm.eq_of_pairwise (λa b ha hb h1 h2=>?_) hS1 hS2 hp).symm;exact hinj a ha b (hp.mem_iff.2 hb) ω
end
end
section
open Go.Lin Go.Sort Go.Srt
variable {j:Nat}
structure SrtH(F:List (Int×Int))(l S:List Ce):Prop where
 perm:(S.map Ce.c).Perm (cn l)
 srt:Ma (CN (Bn F)) S
 G:Rgt (cn l)
 mon:∀x∈cn l,∀s∈x.sd,CN (Bn F) s.1<=CN (Bn F) x.id
section
variable {p:Int} {F:List (Int×Int)} {l S S':List Ce}
theorem SrtH.nd(H:SrtH F l S):(S.map λa=>a.c.id).Nodup:=by
 have:=(H.perm.map Cl.id).nodup_iff.2 H.G.nd
 rwa [fk]at this
theorem SrtH.mem(H:SrtH F l S){i:Nat}(h:i<S.length):Cw S i∈cn l:=by rw[C6 h];exact H.perm.mem_iff.1 (ad.2 ⟨_,ae h,Y⟩)
theorem SrtH.inj(H:SrtH F l S){i:Nat}(hi:i<S.length)(hj:j<S.length)(h:(Cw S i).id=(Cw S j).id):i=j:=by
 rw[C6 hi,C6 hj]at h;have hp:=ax.1 H.nd;rcases dy i j with h1|h1|h1
 ·have:=hp i j (by simpa using hi) (by simpa using hj) h1;simp only[List.getElem_map]at this;exact jt h this
 ·exact h1
 ·have:=hp j i (by simpa using hj) (by simpa using hi) h1;simp only[List.getElem_map]at this;exact jt h.symm this
theorem SrtH.place(H:SrtH F l S){y:Cl}(hy:y∈cn l):∃m,m<S.length/\Cw S m=y:=by obtain⟨a,ha,rfl⟩:=ad.1 (H.perm.mem_iff.2 hy);obtain⟨m,hm,rfl⟩:=List.getElem_of_mem ha;exact⟨m,hm,C6 hm⟩
theorem SrtH.before(H:SrtH F l S)(hj:j<S.length){s:Int×Int}(hs:s∈(Cw S j).sd):∃m,m<j/\(Cw S m).id=s.1/\(Cw S m).dim=(Cw S j).dim-1:=by
 obtain⟨y,hy,e1,e2⟩:=H.G.sid _ (H.mem hj) s hs;obtain⟨m,hm,rfl⟩:=H.place hy;refine⟨m,?_,e1,e2⟩;have hf:=H.mon _ (H.mem hj) s hs;rw[<-e1]at hf;refine bc λhn=>?_;rcases (ω:m=j\/j<m) with rfl|h
 ·omega
 ·have:=ax.1 H.srt j m hj hm h;rw[<-C6 hj,<-C6 hm]at this;omega
theorem SrtH.uniq(H:SrtH F l S)(H':SrtH F l S'):S'.map Ce.c=S.map Ce.c:=
 XL H.srt H'.srt (H.perm.trans H'.perm.symm) H.nd λ_ _ _ _=>Iff.rfl
theorem SrtH.len(H:SrtH F l S):S.length=l.length:=by
 have:=H.perm.length_eq
 rwa [af,Dg]at this
def Mw(p:Int)(S:List Ce)(j k:Nat)(a b:Nat):Int:=if b<j then(C5 p S b).getD a 0 else if b=j then(D8 p S j k).getD a 0 else 0
theorem VR(p:Int)(S:List Ce)(a b:Nat)(ha:a<S.length):Mw p S 0 0 a b=0:=by
 unfold Mw D8;split
 ·omega
 ·split
  ·simp[List.getD,ha]
  ·rfl
theorem V4(p:Int)(S:List Ce)(a b:Nat)(ha:a<S.length):Mw p S j (S.getD j default).c.sd.length a b=Mw p S (j+1) 0 a b:=by
 unfold Mw;rcases (ω:b<j\/b=j\/b=j+1\/j+1<b) with h|rfl|rfl|h
 ·rw[ac h,ac ω]
 ·rw[aa ω,ac rfl,ac ω];rfl
 ·rw[aa ω,aa ω,aa ω,ac rfl];unfold D8;simp[List.getD,ha]
 ·rw[aa ω,aa ω,aa ω,aa ω]
theorem Xr(H:SrtH F l S)(p:Int){k m:Nat}(hj:j<S.length)(hk:k<(S.getD j default).c.sd.length)(hm:m<j)(e:(Cw S m).id=((S.getD j default).c.sd[k]).1)(a b:Nat)(ha:a<S.length) :
  Fe (Mw p S j k) m j (((S.getD j default).c.sd[k].2+p)%p) a b=Mw p S j (k+1) a b:=by
 have hpl:pl S (j+1) ((S.getD j default).c.sd[k]).1=m:=by
  have:=RH H.nd (i:=m) (j:=j+1) ω ω
  rwa [show(S.getD m default).c.id=((S.getD j default).c.sd[k]).1 from e]at this
 unfold Fe Mw;rw[H7 hk,hpl];rcases (ω:b<j\/b=j\/j<b) with h|rfl|h
 ·rw[aa ω,ac h];rw[ac h]
 ·by_cases hab:a=m
  ·subst hab;rw[ac ⟨rfl,rfl⟩,aa ω,ac rfl];simp[List.getD,Dw,ha]
  ·rw[aa (λq=>hab q.1),aa ω,ac rfl,aa ω,ac rfl];simp only[List.getD];rw[gc (fw hab)]
 ·rw[aa ω,aa ω,aa ω,aa ω,aa ω]
end
end
section
open Go.Lin Go.Sort Go.Srt
theorem Kc(l:List Ce)(F:List (Int×Int))(v vf:Value)(p:Int)(hp:Hp)(hK:RgC l)(hR:RdC hp v l)(hF:RdL cV 2 hp [] vf F)(hn:(F.map Prod.fst).Nodup)(hmon:∀x∈cn l,∀s∈x.sd,CN (Bn F) s.1<=CN (Bn F) x.id)(hP:IsP p)(hl:l.length<=400):FnT Tryz.prog 86 #[.agg #[v],vf,.int .i64 p] hp [] (λr h' ms'=>hp.le h'/\∃S,SrtH F l S/\Kk r ms' (FH p S.length S.length λi j=>(C5 p S j).getD i 0)):=by
 have o1:=hR.q.rd.one;have o2:=hF.rd.one;have hpb:=hP.1;have hpb2:=hP.2.1;refine Au func86 ntmps86 Y Y (λw0 hw0=>?_);simp only[A6];refine Aq (AP [_] Y Y (by rfl) Y Y Y (λg3=>Cx [.w 0,.w 0,.w 0,.nl] Y A4 Y Y (λg6=>Am (Bj 1 Y λh1 l1 hS=>?_))));have hR:=hR.up l1;have hF:=hF.up l1;refine Aq (Qx (oG Y CS A8 (Seg.any hS)) Y (Qm Y (Qc call122 Y (GS l F v vf h1 hK hR hF hn) (λr7 h2 ms2 l2 hQ=>?_))));obtain⟨l2',mS,S,rfl,hOS,hpm,hsrt,hsS⟩:=hQ;have H:SrtH F l S:=⟨hpm,hsrt,hK.F.rgt,hmon⟩
 have hSl:=H.len;refine Qm Y (Am (A9 hOS λh3 l3 hRS=>?_));have hsS:=λa ha=>(hsS a ha).up l3;have o7:=hRS.rd.one;refine Aq (Qm Y (Qx (As hRS.rd.any Y Bm Y) Y (Qm Y (BM (Qm Y (Qm Y (Qm Y ?_)))))));refine Qc call146 Y (LF p S.length S.length h3 ⟨ω,ω⟩) (λrz h4 ms4 l4 hQ=>?_);obtain⟨rfl,hM⟩:=hQ;rw[KY hP ω ω]at hM;obtain⟨ev,me,rfl,rfl,hO⟩:=hM;have oe:=hO.o1;change OwnL cI 1 3 me ev (BV S.length S.length λ_ _=>0) at hO;refine Cx [.w 0,.w 0,.w 0,.nl] Y A4 Y Y (λg9=>?_);refine Sa 0 [_,_,_,_] A4 Y (by simp[o1,o2,o7,oe]) ?_;refine Am (Ax λh4 l4 hS9=>?_);have hRS:=hRS.up l4;have hsS:=λa ha=>(hsS a ha).up l4;have e3:∀h',h4.le h'->∀ms,Cell h' ms (⟨g9,3,none⟩:Addr) ev:=λh' l' ms=>(Seg.all hS9 3 _ Y ms).le l';have hnn:S.length*S.length<=160000:=by have:=dh (show S.length<=400 by omega) (show S.length<=400 by omega);omega
 rw[AW (λi hi j hj=>(VR p S i j hi).symm)]at hO;refine Ac (Aq (Qm Y (Am (Ag ?_))))
 refine Ay (λq sl h' ms'=>∃(j:Nat) (me:Hp),q=S.length-j/\sl=[(2,.w p),(6,.pt g6),(7,r7),(8,.w S.length),(9,.pt g9),(10,.w j)]/\h4.le h'/\ms'=[me,Bh g6 65 [.w 0,.w 0,.w 0,.nl]]/\j<=S.length/\OwnL cI 1 3 me ev (BV S.length S.length (Mw p S j 0)))
  (S.length-0) _ ⟨0,me,rfl,rfl,Da,rfl,ω,hO⟩ Qs ?_
 rintro q sl h' ms' ⟨j,me,rfl,rfl,lh,rfl,hj,hO⟩;have hRS:=hRS.up lh;refine Ac (Aq (Qm Y (Qm Y (Qm Y (Am ?_)))));refine Ao Y (λhjl=>?_) (λhjl=>?_)
 ·have hjS:j<S.length:=ω
  obtain⟨x,hx⟩:∃x,S[j]=x:=⟨_,Y⟩
  have hgx:(S.getD j default)=x:=by simp[List.getD,hjS,hx]
  have hX:=(hsS x (by rw[<-hx];exact ae hjS)).up lh;have ox:=hX.rd.one;have hxo:x.c∈cn l:=by have:=H.mem hjS;rwa [C6 hjS,hx]at this
  have hxs:=(hK.F.bds hxo).2.1;refine Ah (Ad (Ac (Ag (Aq (Qm Y (Am (Ag ?_)))))))
  refine Ay (λq sl h2 ms'=>∃(k:Nat) (me:Hp),q=x.c.sd.length-k/\sl=[(2,.w p),(6,.pt g6),(7,r7),(8,.w S.length),(9,.pt g9),(10,.w j),(11,.w k)]/\h'.le h2/\ms'=[me,Bh g6 65 [.w 0,.w 0,.w 0,.nl]]/\k<=x.c.sd.length/\OwnL cI 1 3 me ev (BV S.length S.length (Mw p S j k)))
   (x.c.sd.length-0) _ ⟨0,me,rfl,rfl,Da,rfl,ω,hO⟩ Qs ?_
  rintro q sl h2 ms' ⟨k,me,rfl,rfl,lh2,rfl,hk,hO⟩;have hRS:=hRS.up lh2;have hX:=hX.up lh2;have c2:∀ms,Cell h2 ms (((AG r7).add (j*3)).add 2) x.v:=λms=>by rw[<-hx];exact(hRS.any (ms:=ms)).cell hjS (f:=2) Y
  refine Ac (Aq (Qm Y (Qm Y (Qm Y (Qx (BN (j) hRS.rd.any Y Bm AI Y Y) Y (Qf BI Y (Ql Y Cf (c2 _) (Qx (As hX.rd.any Y Cf Y) Y (Qm Y (Am ?_))))))))));refine Ao Y (λhkl=>?_) (λhkl=>?_)
  ·have hkS:k<x.c.sd.length:=ω
   obtain⟨s,hs⟩:∃s,x.c.sd[k]=s:=⟨_,Y⟩
   have hsm:s∈x.c.sd:=by rw[<-hs];exact ae hkS
   have hsg:=hK.F.rgt.sgn _ hxo s hsm;obtain⟨m,hmj,em,_⟩:=H.before hjS (s:=s) (by rw[C6 hjS,hx];exact hsm);have sx:∀ms,Seg h2 ms ((AG x.v).add (k*2)) (cD s):=λms=>by rw[<-hs];exact(hX.any (ms:=ms)).seg hkS
   refine Ah (Ad (Ac (Ag (Aq (Qm Y (Qm Y (Qx (BN (j) hRS.rd.any Y Bm AI Y Y) Y (Qf BI Y (Ql Y Cf (c2 _) (Qm Y (Qx (BN (k) hX.rd.any Y Cf AS Y Y) Y (Qx (oG Y Eh AS (sx _)) Y (Cx [.w 0,.w 0] Y AS Y Y (λg12=>?_))))))))))))));refine Sa 0 [_,_] AS Y (by simp[Value.oneCell']) ?_;refine Am (Ax λh5 l5 hS12=>?_);have hRS:=hRS.up l5;have d0:∀ms,Cell h5 ms (⟨g12,0,none⟩:Addr) (.w s.1):=λms=>Seg.all hS12 0 _ Y ms;have d1:∀ms,Cell h5 ms (⟨g12,1,none⟩:Addr) (.w s.2):=λms=>Seg.all hS12 1 _ Y ms;have e3:=e3 h5 (AE lh (AE lh2 l5));refine Aq (Qm Y (Am (Ag ?_)))
   refine Ay (λq sl h' ms'=>∃(i:Nat) (me:Hp),q=S.length-i/\sl=[(2,.w p),(6,.pt g6),(7,r7),(8,.w S.length),(9,.pt g9),(10,.w j),(11,.w k),(12,.pt g12),(13,.w i)]/\h5=h'/\ms'=[me,Bh g6 65 [.w 0,.w 0,.w 0,.nl]]/\i<=S.length/\OwnL cI 1 3 me ev (BV S.length S.length (if m<i then Mw p S j (k+1) else Mw p S j k)))
    (S.length-0) _ ⟨0,me,rfl,rfl,rfl,rfl,ω,by rw[aa ω];exact hO⟩ Qs ?_
   rintro q sl h' ms' ⟨i,me,rfl,rfl,rfl,rfl,hi,hO⟩;have hO':=hO;refine Ac (Aq (Qm Y (Qm Y (Qm Y (Am ?_)))));refine Ao Y (λhil=>?_) (λhil=>?_)
   ·have hiS:i<S.length:=ω
    have c0:∀ms,Cell h5 ms (((AG r7).add (i*3)).add 0) (.w (Cw S i).id):=λms=>by rw[C6 hiS];exact(hRS.any (ms:=ms)).cell hiS (f:=0) Y
    refine Ah (Ad (Ac (Ag (Ac (Bc 7 CT κ Y (Wm Y (Wm Y (AM (BN (i) hRS.rd.any Y Bm AI Y Y) Y Y (Wf Bq Y (Wl Y U3 (c0 _) (Wf Cm Y (Wl Y U3 (d0 _) (A7 (Qm Y (Am ?_)))))))))))))));refine Ao Y (λhe=>?_) (λhe=>?_)
    ·obtain rfl:i=m:=H.inj hiS ω (by rw[em];exact he);rw[aa ω]at hO hO';have hix:=Ds hiS hjS;have hml:(BV S.length S.length (Mw p S j k)).length=S.length*S.length:=BO _ _ _;have hcast:(((i*S.length+j:Nat)):Int)=(i:Int)*(S.length:Int)+j:=by rw[gj,da]
     have hmo:s.2%p=(s.2+p)%p:=by rw[Int.add_emod_right]
     refine Bc 11 CT κ Y (Wf Bl Y (Wl Y AN (e3 _) (Wm Y (Wm Y (AM (oM Y) Y Y (Wm Y (AM (oA Y) Y Y (Wf Dt Y (Wl Y U3 (d1 _) (Wm Y ?_))))))))));refine AM (AH Y call34 Y (D0 s.2 p ⟨ω,ω⟩ ⟨ω,ω⟩ h5 _)) Y Y ?_;refine A7 (Qx (AA ((i*S.length+j)) (hO'.rd (h:=h5) (ms:=[me,Bh g6 65 [.w 0,.w 0,.w 0,.nl]]) Mh).rd Y AN A0 Y Y ω ω) Y (Ca (F:=cI) (f:=λx=>.w x) (a:=s.2%p) 0 (i*S.length+j) (λ_=>rfl) hO Y A0 Y Y Y Y ω Y Y (λm2 hO2=>?_)))
     rw[DZ _ hjS,hmo,AW (λa ha b hb=>by
      have:=Xr H p (k:=k) hjS (by rw[hgx];exact hkS) hmj (by simp only[hgx,hs];exact em) a b ha;simp only[hgx,hs]at this
      exact this)]at hO2
     refine Ak (Ai (Ad (Ab (Qm Y (Qx (oA Y) Y (Qm Y (Ak ?_)))))));exact Al (S.length-(i+1)) _ ω ⟨i+1,m2,Y,Y,Y,Y,ω,by rw[ac ω];exact hO2⟩ Qs
    ·have him:i≠m:=λe=>he (by rw[e];exact em);refine Ah (Ai (Ad (Ab (Qm Y (Qx (oA Y) Y (Qm Y (Ak ?_)))))));exact Al (S.length-(i+1)) _ ω ⟨i+1,me,Y,Y,Y,Y,ω,by rw[show(if m<i+1 then Mw p S j (k+1) else Mw p S j k)=(if m<i then Mw p S j (k+1) else Mw p S j k) by simp only[show(m<i+1)=(m<i) from propext ω]];exact hO⟩ Qs
   ·rw[ac ω]at hO;refine Av (Aa (Aa (Af (Ai (Ad (Ab (Qm Y (Qx (oA Y) Y (Qm Y (Ak ?_))))))))));exact Al (x.c.sd.length-(k+1)) _ ω ⟨k+1,me,Y,Y,AE lh2 l5,Y,ω,hO⟩ Qs
  ·obtain rfl:k=x.c.sd.length:=ω
   have hmx:BV S.length S.length (Mw p S j x.c.sd.length)=BV S.length S.length (Mw p S (j+1) 0):=AW λa ha b hb=>by have:=V4 p S (j:=j) a b ha;rw[hgx]at this;exact this
   rw[hmx]at hO;refine Av (Aa (Aa (Af (Ai (Ad (Ab (Qm Y (Qx (oA Y) Y (Qm Y (Ak ?_))))))))));exact Al (S.length-(j+1)) _ ω ⟨j+1,me,Y,Y,AE lh lh2,Y,ω,hO⟩ Qs
 ·obtain rfl:j=S.length:=ω
  rw[AW (λa ha b hb=>show Mw p S S.length 0 a b=(C5 p S b).getD a 0 by unfold Mw;rw[ac hb])]at hO;have hS9:=hS9.le lh;refine Av (Aa (Aa (Af (Ad (Aq (Qx (oG Y Dr A4 (Seg.any hS9)) Y ?_))))));refine Sa 1 [_,_,_,_] A4 Y (by simp[o1,o2,o7,oe]) ?_;refine Am (An ?_);exact BC (vs:=[_,_,_,_]) 1 Y Y Dr Y A4 Y Y (⟨AE l1 (AE l2 (AE l3 (AE l4 lh))),S,H,ev,me,Y,Y,hO⟩)
variable {n:Nat} {S:List Ce}
def Ev(S:List Ce):List Int:=S.map λa=>a.c.id
theorem Mr{S':List Ce}(h:S'.map Ce.c=S.map Ce.c):Ev S'=Ev S:=by
 have:=aw (List.map Cl.id) h
 rwa [fk,fk]at this
theorem SrtH.ids{F:List (Int×Int)}{l S':List Ce}(H:SrtH F l S)(H':SrtH F l S'):Ev S'=Ev S:=Mr (H.uniq H')
theorem LW(l:List Ce)(F:List (Int×Int))(v vf:Value)(hp:Hp)(hK:RgC l)(hR:RdC hp v l)(hF:RdL cV 2 hp [] vf F)(hn:(F.map Prod.fst).Nodup)(hmon:∀x∈cn l,∀s∈x.sd,CN (Bn F) s.1<=CN (Bn F) x.id)(hl:l.length<=400):FnT Tryz.prog 90 #[.agg #[v],vf] hp [] (λr h' ms'=>hp.le h'/\∃S m,SrtH F l S/\ms'=[m]/\OwnL cI 1 3 m r (Ev S)):=by
 have o1:=hR.q.rd.one;have o2:=hF.rd.one;refine Au func90 ntmps90 Y Y (λw0 hw0=>?_);simp only[A6];refine Aq (AP [_] Y Y (by rfl) Y Y Y (λg2=>Qm Y (Am (Ax λh1 l1 hS=>?_))));have hR:=hR.up l1;have hF:=hF.up l1;refine Aq (Qm Y (BM (Qx (oG Y CS A8 (Seg.any hS)) Y (Qm Y (Qc call122 Y (GS l F v vf h1 hK hR hF hn) (λr7 h2 ms2 l2 hQ=>?_))))));obtain⟨l2',mS,S,rfl,hOS,hpm,hsrt,hsS⟩:=hQ;have H:SrtH F l S:=⟨hpm,hsrt,hK.F.rgt,hmon⟩
 have hSl:=H.len;refine Qm Y (Am (A9 hOS λh3 l3 hRS=>?_));have o7:=hRS.rd.one;refine Ac (Aq (Qm Y (Am (Ag (BT ?_)))))
 refine Ay (λq sl h' ms'=>∃(i:Nat) (vo:Value) (mo:Hp),q=S.length-i/\sl=[(5,vo),(6,r7),(7,.w i)]/\h3=h'/\ms'=[mo]/\i<=S.length/\OwnL cI 1 3 mo vo (Ev (S.take i)))
  (S.length-0) _ ⟨0,_,Hp.emp,rfl,rfl,rfl,rfl,ω,OwnL.nil Bi⟩ Qs ?_
 rintro q sl h' ms' ⟨i,vo,mo,rfl,rfl,rfl,rfl,hi,hO⟩;have ov:=hO.o1;refine Ac (Aq (Qm Y (Qm Y (Qx (As hRS.rd.any Y Bm Y) Y (Qm Y (Am ?_))))));refine Ao Y (λhil=>?_) (λhil=>?_)
 ·have hiS:i<S.length:=ω
  have c0:∀ms,Cell h3 ms (((AG r7).add (i*3)).add 0) (.w S[i].c.id):=λms=>(hRS.any (ms:=ms)).cell hiS (f:=0) Y;have hnx:Ev (S.take (i+1))=Ev (S.take i)++[S[i].c.id]:=by unfold Ev;rw[ak hiS,bm];rfl
  have hnl:(Ev (S.take i)).length<=4000:=by unfold Ev;rw[af,av];omega
  refine Ah (Ad (Ac (Ag (Ab (Qm Y (Qm Y (Qm Y (Qx (BN (i) hRS.rd.any Y Bm AI Y Y) Y (Qf Bq Y (Ql Y U3 (c0 _) (Aw [_] Y AN A0 Y (by rfl) Y Y ω Y Y Y (λg23=>?_))))))))))));refine AU 1 hO (OwnL.rd (OwnL.blk (g:=g23) (el:=3) (F:=cI) (l:=[S[i].c.id]) 1 Bi Y δ) Mh) Y AN A0 Y ω Y Y Y B5 (by simp;omega) (by simp;omega) rfl rfl rfl (λv8 m8 hO8=>?_);rw[<-hnx]at hO8;refine Qm Y (Ak (Ai (Ad (Ab (Qm Y (Qx (oA Y) Y (Qm Y (Ak (AZ 0 Y ?_)))))))));exact Al (S.length-(i+1)) _ ω ⟨i+1,v8,m8,Y,Y,Y,Y,ω,hO8⟩ Qs
 ·obtain rfl:i=S.length:=ω
  rw[ct]at hO;refine Av (Aa (Aa (Af (Ad (Aq (Qm Y (Qm Y (Am (An ?_)))))))));exact Ap Y Y (⟨AE l1 (AE l2 l3),S,mo,H,Y,hO⟩)
theorem JJ{l:List Int}(h:l.length=n):(EK n λi=>l.getD i 0)=l:=by refine dq (by rw[Cd,h]) λi h1 h2=>?_;rw[Cd]at h1;rw[GY h1];simp[List.getD,h2]
def mc(R D:Nat->List Int)(j:Nat)(r1:List Int)(a b:Nat):Int:=if b<j then(R b).getD a 0 else if b=j then r1.getD a 0 else(D b).getD a 0
theorem Po(R D:Nat->List Int)(a b:Nat):(D b).getD a 0=mc R D 0 (D 0) a b:=by
 unfold mc;rw[aa ω];split
 ·rename_i h;rw[h]
 ·rfl
theorem KF(R D:Nat->List Int)(j:Nat)(r1:List Int)(a b:Nat):mc R D j r1 a b=mc (upd R j r1) D (j+1) (D (j+1)) a b:=by
 unfold mc;rcases (ω:b<j\/b=j\/b=j+1\/j+1<b) with h|rfl|rfl|h
 ·rw[ac h,ac ω,EZ _ _ ω]
 ·rw[aa ω,ac rfl,ac ω,FP]
 ·rw[aa ω,aa ω,aa ω,ac rfl]
 ·rw[aa ω,aa ω,aa ω,aa ω]
theorem Aa1(R D:Nat->List Int)(j:Nat)(r1:List Int)(h:r1.length=n):(EK n λi=>mc R D j r1 i j)=r1:=by rw[show(λi=>mc R D j r1 i j)=λi=>r1.getD i 0 from funext λi=>by unfold mc;rw[aa ω,ac rfl]];exact JJ h
theorem Abw(R D:Nat->List Int)(j:Nat)(r1:List Int){k:Nat}(hk:k<j)(h:(R k).length=n):(EK n λi=>mc R D j r1 i k)=R k:=by rw[show(λi=>mc R D j r1 i k)=λi=>(R k).getD i 0 from funext λi=>by unfold mc;rw[ac hk]];exact JJ h
def Od(p:Int)(a b:List Int)(t:Int)(i:Nat):List Int:=(range a.length).map λq=>if q<i then(a.getD q 0+t*b.getD q 0)%p else a.getD q 0
theorem NW(p:Int)(a b:List Int)(t:Int)(i:Nat):(Od p a b t i).length=a.length:=by unfold Od;simp
theorem I5(p:Int)(a b:List Int)(t:Int)(i:Nat){q:Nat}(hq:q<a.length):(Od p a b t i).getD q 0=if q<i then(a.getD q 0+t*b.getD q 0)%p else a.getD q 0:=by unfold Od;simp[List.getD,hq]
theorem Qh(p:Int)(a b:List Int)(t:Int):Od p a b t 0=a:=by refine dq (NW _ _ _ _ _) λq h1 h2=>?_;have:=I5 p a b t 0 h2;rw[aa ω]at this;simpa[List.getD,h1,h2] using this
theorem SF(p:Int){a b:List Int}(t:Int)(h:a.length=b.length):Od p a b t a.length=EJ p a b t:=by
 refine dq (by rw[NW,Ea h]) λq h1 h2=>?_;have h3:q<a.length:=by rw[NW]at h1;exact h1
 have h4:=I5 p a b t a.length h3;rw[ac h3]at h4;have h5:=Eo (p:=p) (t:=t) h q;rw[<-h5]at h4;simpa[List.getD,h1,h2] using h4
theorem SM(p:Int)(R D:Nat->List Int)(j:Nat){r1 b1:List Int}(t:Int){i:Nat}(h:r1.length=n)(hi:i<n)(a b:Nat)(ha:a<n) :
  Fe (mc R D j (Od p r1 b1 t i)) i j ((r1.getD i 0+t*b1.getD i 0)%p) a b=mc R D j (Od p r1 b1 t (i+1)) a b:=by
 unfold Fe mc;rcases (ω:b<j\/b=j\/j<b) with hb|rfl|hb
 ·rw[aa ω,ac hb,ac hb]
 ·rw[aa (ω:¬b<b),ac rfl,aa (ω:¬b<b),ac rfl,I5 _ _ _ _ _ ω,I5 _ _ _ _ _ ω];by_cases hai:a=i
  ·subst hai;rw[ac ⟨rfl,rfl⟩,ac ω]
  ·rw[aa λq=>hai q.1];by_cases h2:a<i
   ·rw[ac h2,ac ω]
   ·rw[aa h2,aa ω]
 ·rw[aa ω,aa ω,aa ω,aa ω,aa ω]
theorem V5(p:Int)(R D:Nat->List Int)(j:Nat){r1 b1:List Int}(t:Int){i:Nat}(h:r1.length=n)(hi:i<n):mc R D j (Od p r1 b1 t i) i j=r1.getD i 0:=by unfold mc;rw[aa ω,ac rfl,I5 _ _ _ _ _ ω,aa ω]
theorem V9(R D:Nat->List Int)(j:Nat)(r1:List Int){k:Nat}(hk:k<j)(a:Nat):mc R D j r1 a k=(R k).getD a 0:=by unfold mc;rw[ac hk]
theorem AllC.put{p:Int}{j:Nat}{R V:Nat->List Int}{la r v:List Int}(A:AllC p S n j R V la)(hn:n<=400)(lr:r.length=n)(lv:v.length=n)(rr:JM p r)(rv:JM p v)(hO:Ops p n j R V (C5 p S j) (C0 n j) r v)(hfree:∀k,k<j->0<=AR r->AR (R k)≠AR r):∃la',AllC p S n (j+1) (upd R j r) (upd V j v) la':=by
 by_cases h0:AR r<0
 ·exact⟨la,A.next hn lr lv rr rv (.inl ⟨h0,Y⟩) hO⟩
 ·have hb:=Dv r;have hi:(AR r).toNat<400:=ω
  have hz:la.getD (AR r).toNat 0=0:=by
   rcases A.red.a0 _ hi with h|⟨k,hk,_,e⟩
   ·exact h
   ·exact jt (by rw[e];omega) (hfree k hk ω)
  exact⟨_,A.next hn lr lv rr rv (.inr ⟨ω,hz,Y⟩) hO⟩
end
section
open Go.Lin Go.Sort Go.Srt
theorem Tg{o:List Cl}{F:List (Int×Int)}{p:Int}(h0:DN o F=(0,0))(hP:IsP p):Hg o F p=0:=by unfold Hg;rw[h0,aa (λh=>h rfl),ac hP]
theorem AaV{n:Nat}(a b:Nat)(ha:a<n)(hb:b<n)(V:Nat->List Int):eye a b=mc V (C0 n) 0 (C0 n 0) a b:=by rw[<-Po,Gw hb];rfl
theorem Kn(l:List Ce)(F:List (Int×Int))(v vf:Value)(p:Int)(hp:Hp)(hK:RgC l)(hR:RdC hp v l)(hF:RdL cV 2 hp [] vf F)(hV:Ir F)(hn:(F.map Prod.fst).Nodup)(h0:DN (cn l) F=(0,0))(hmon:∀x∈cn l,∀s∈x.sd,CN (Bn F) s.1<=CN (Bn F) x.id)(hP:IsP p)(hl:l.length<=400):FnT Tryz.prog 33 #[.agg #[v],vf,.int .i64 p] hp [] (λr h' ms'=>hp.le h'/\∃(S:List Ce) (R V:Nat->List Int) (vo er ev:Value) (mo mr mv:Hp),PersF p F l S R V/\r=.tuple #[vo,.agg #[.int .i64 p,.int .i64 S.length,.int .i64 S.length,er],.agg #[.int .i64 p,.int .i64 S.length,.int .i64 S.length,ev],.int .i64 0]/\ms'=[mo,mv,mr]/\OwnL cI 1 3 mo vo (Ev S)/\OwnL cI 1 3 mr er (BV S.length S.length λi j=>(R j).getD i 0)/\OwnL cI 1 3 mv ev (BV S.length S.length λi j=>(V j).getD i 0)):=by
 have o1:=hR.q.rd.one;have o2:=hF.rd.one;have hpb:=hP.1;have hpb2:=hP.2.1;refine Au func33 ntmps33 Y Y (λw0 hw0=>?_);simp only[A6];refine Aq (AP [_] Y Y (by rfl) Y Y Y (λg3=>Qm Y (Cx [.w 0,.w 0,.w 0,.nl] Y A4 Y Y (λg7=>Cx [.w 0,.w 0,.w 0,.nl] Y A4 Y Y (λg8=>Qm Y (Am (Bj 2 Y λh1 l1 hS=>?_)))))));have hR:=hR.up l1;have hF:=hF.up l1;have her:=λms=>DW (Ki l F v vf p h1 hK hR hF hV ⟨ω,ω⟩ hl) ms;rw[Tg h0 hP]at her;refine Aq (Qx (oG Y CS A8 (Seg.any hS)) Y (Qm Y (Qm Y (Qx (AH Y call85 Y (her _)) Y (Qm Y (Am (Ac (Aq (Qm Y (Qm Y (Am (Ao Y (λhc=>jt hc (λh=>h Y)) (λhc=>Ah (Ad (Aq (Qx (oG Y CS A8 (Seg.any hS)) Y (Qm Y (Qm Y (Qc call86 Y (Kc l F v vf p h1 hK hR hF hn hmon hP hl) (λrm h2 ms2 l2 hQ=>?_))))))))))))))))))));obtain⟨l2',S,H,er,mr,rfl,rfl,hOr⟩:=hQ;change OwnL cI 1 3 mr er (BV S.length S.length λi j=>(C5 p S j).getD i 0) at hOr;have hSl:=H.len;have oer:=hOr.o1;refine Cx [.w 0,.w 0,.w 0,.nl] Y A4 Y Y (λg11=>?_);refine Sa 0 [_,_,_,_] A4 Y (by simp[o1,o2,oer]) ?_;refine Am (Ax λh3 l3 hS11=>?_);have l23:=AE l1 (AE l2 l3);have c112:∀ms,Cell h3 ms (⟨g11,2,none⟩:Addr) (.w S.length):=λms=>Seg.all hS11 2 _ Y ms;refine Aq (Qf BU Y (Ql Y U3 (c112 _) (Qm Y (BM (Qm Y (Qm Y (Qc call87 Y (Zx p S.length h3 hP ω) (λrv h4 ms4 l4 hQ=>?_))))))));obtain⟨rfl,ev,mv,rfl,rfl,hOv⟩:=hQ;change OwnL cI 1 3 mv ev (BV S.length S.length eye) at hOv;have oev:=hOv.o1;refine Cx [.w 0,.w 0,.w 0,.nl] Y A4 Y Y (λg13=>?_);refine Sa 0 [_,_,_,_] A4 Y (by simp[o1,o2,oer,oev]) ?_;refine Am (Ax λh5 l5 hS13=>?_);have hS11:=hS11.le l5;have hR:=hR.up (AE l2 (AE l3 l5));have hF:=hF.up (AE l2 (AE l3 l5));have hS3:=hS.le (AE l2 (AE l3 l5));have e11:∀ms,Cell h5 ms (⟨g11,3,none⟩:Addr) er:=λms=>Seg.all hS11 3 _ Y ms;have e13:∀ms,Cell h5 ms (⟨g13,3,none⟩:Addr) ev:=λms=>Seg.all hS13 3 _ Y ms;have hnn:S.length*S.length<=160000:=by have:=dh (show S.length<=400 by omega) (show S.length<=400 by omega);omega
 obtain⟨n,hnS⟩:∃n,S.length=n:=⟨_,Y⟩
 have hn4:n<=400:=ω
 rw[hnS]at hOr hOv hnn hS11 hS13 ⊢;rw[AW (g:=mc (λ_=>[]) (C5 p S) 0 (C5 p S 0)) λa _ b _=>Po (λ_=>[]) (C5 p S) a b]at hOr;rw[AW (g:=mc (λ_=>[]) (C0 n) 0 (C0 n 0)) λa ha b hb=>AaV a b ha hb _]at hOv;have hcl:∀j,(C5 p S j).length=n:=λj=>by rw[<-hnS];exact Dw _ _ _ _
 have hz7:[Value.w 0,.w 0,.w 0,.nl]=[Value.w 0,.w 0,.w 0,.nl]:=rfl;refine Bg (λsl h' ms'=>∃(R V:Nat->List Int) (la:List Int) (mr mv:Hp),sl=[(1,vf),(3,.pt g3),(7,.pt g7),(8,.pt g8),(11,.pt g11),(13,.pt g13)]/\h5=h'/\ms'=[mv,mr,Bh g8 65 [.w 0,.w 0,.w 0,.nl],Bh g7 65 [.w 0,.w 0,.w 0,.nl]]/\AllC p S n n R V la/\OwnL cI 1 3 mr er (BV n n λi j=>(R j).getD i 0)/\OwnL cI 1 3 mv ev (BV n n λi j=>(V j).getD i 0)) ?_ (λs h ms hI=>?_)
 ·refine Ac (Ab (Qm Y (Am (Ag ?_))))
  refine Ay (λq sl h' ms'=>∃(j:Nat) (R V:Nat->List Int) (la:List Int) (mr mv:Hp),q=n-j/\sl=[(1,vf),(2,.w p),(3,.pt g3),(7,.pt g7),(8,.pt g8),(11,.pt g11),(12,.w n),(13,.pt g13),(14,.w j)]/\h5=h'/\ms'=[mv,mr,Bh g8 65 [.w 0,.w 0,.w 0,.nl],Bh g7 65 [.w 0,.w 0,.w 0,.nl]]/\j<=n/\AllC p S n j R V la/\OwnL cI 1 3 mr er (BV n n (mc R (C5 p S) j (C5 p S j)))/\OwnL cI 1 3 mv ev (BV n n (mc V (C0 n) j (C0 n j))))
   (n-0) _ ⟨0,_,_,_,mr,mv,rfl,rfl,rfl,rfl,ω,Py p S n,hOr,hOv⟩ Qs ?_
  rintro q sl h' ms' ⟨j,R,V,la,mr,mv,rfl,rfl,rfl,rfl,hj,A,hOr,hOv⟩;refine Ac (Aq (Qm Y (Qm Y (Qm Y (Am ?_)))));refine Ao Y (λhjn=>?_) (λhjn=>?_)
  ·have hjl:j<n:=ω
   refine Ah (Ad (Ac (Ag (Aq (Qm Y (Am (Ag ?_)))))))
   refine Ay (λq sl h' ms'=>∃(k:Nat) (y:Int) (r1 v1:List Int) (mr mv:Hp),q=(AR r1+1).toNat*401+(j-k)/\sl=[(1,vf),(2,.w p),(3,.pt g3),(7,.pt g7),(8,.pt g8),(11,.pt g11),(12,.w n),(13,.pt g13),(14,.w j),(15,.w y)]/\h5=h'/\ms'=[mv,mr,Bh g8 65 [.w 0,.w 0,.w 0,.nl],Bh g7 65 [.w 0,.w 0,.w 0,.nl]]/\y=k/\k<=j/\r1.length=n/\v1.length=n/\JM p r1/\JM p v1/\Ops p n j R V (C5 p S j) (C0 n j) r1 v1/\(∀k',k'<k->0<=AR r1->AR (R k')≠AR r1)/\OwnL cI 1 3 mr er (BV n n (mc R (C5 p S) j r1))/\OwnL cI 1 3 mv ev (BV n n (mc V (C0 n) j v1)))
    _ _ ⟨0,0,C5 p S j,C0 n j,mr,mv,rfl,rfl,rfl,rfl,rfl,ω,hcl j,JZ _ _,Jn ω _ _ _,MP hpb _ _,.refl,λ_ h=>ω,hOr,hOv⟩ Qs ?_
   rintro q sl h' ms' ⟨k,y,r1,v1,mr,mv,rfl,rfl,rfl,rfl,hy,hk,lr,lv,rr,rv,hOp,hfr,hOr,hOv⟩;refine Ac (Aq (Qm Y (Qm Y (Qm Y (Am ?_)))));refine Ao Y (λhkj=>?_) (λhkj=>?_)
   ·have hkl:k<j:=ω
    have hkn:k<n:=ω
    have lRk:=A.red.rl k hkl;have lVk:=A.red.vl k hkl
    have hL1:∀ms,mr∈ms->FnV Tryz.prog 88 #[.agg #[.w p,.w n,.w n,er],.w j] h5 ms (.w (AR r1)):=λms hm=>CF λh' hl hmm=>by
     have:=I4 p n (mc R (C5 p S) j r1) er j h' (hOr.rdh (hmm _ hm)) hn4 hjl []
     rwa [Aa1 _ _ _ _ lr]at this
    have hL2:∀ms,mr∈ms->FnV Tryz.prog 88 #[.agg #[.w p,.w n,.w n,er],.w y] h5 ms (.w (AR (R k))):=λms hm=>CF λh' hl hmm=>by
     have:=I4 p n (mc R (C5 p S) j r1) er k h' (hOr.rdh (hmm _ hm)) hn4 hkn [];rw[Abw _ _ _ _ hkl lRk]at this
     rwa [hy]
    have s11:∀ms,Seg h5 ms (⟨g11,0,none⟩:Addr) [.w p,.w n,.w n,er]:=λms=>hS11.any;refine Ah (Ad (Ac (Ag (Aq (Qx (oG Y Dr A4 (s11 _)) Y (Qm Y (Qx (AH Y call88 Y (hL1 _ (.tail _ (.head _)))) Y (Qm Y (Am (Ac (Aq (Qm Y (Qm Y (Am ?_))))))))))))));refine Ao Y (λhneg=>?_) (λhneg=>?_)
    ·obtain⟨la',A'⟩:=A.put hn4 lr lv rr rv hOp λk' hk' h=>ω
     rw[AW λa _ b _=>KF R (C5 p S) j r1 a b]at hOr;rw[AW λa _ b _=>KF V (C0 n) j v1 a b]at hOv;refine Av (Aa (EE Y (Aa (Aa (Af (Ai (Ad (Ab (Qm Y (Qx (oA Y) Y (Qm Y (Ak ?_))))))))))));exact Al (n-(j+1)) _ ω ⟨j+1,_,_,la',mr,mv,Y,Y,Y,Y,ω,A',hOr,hOv⟩ Qs
    ·obtain⟨m,hm⟩:∃m:Nat,AR r1=m:=⟨(AR r1).toNat,ω⟩
     refine Ah (Ad (Ac (Aq (Qx (oG Y Dr A4 (s11 _)) Y (Qm Y (Qx (AH Y call88 Y (hL2 _ (.tail _ (.head _)))) Y (Qm Y (Qm Y (Am ?_)))))))));refine Ao Y (λhne=>?_) (λhne=>?_)
     ·refine Av (Aa (Af (Ad (Ab (Qm Y (Qx (oA Y) Y (Qm Y (Ak ?_))))))))
      exact Al ((AR r1+1).toNat*401+(j-(k+1))) _ ω ⟨k+1,y+1,r1,v1,mr,mv,Y,Y,Y,Y,ω,ω,lr,lv,rr,rv,hOp,λk' hk' h=>by
       rcases (ω:k'<k\/k'=k) with h1|rfl
       ·exact hfr k' h1 h
       ·exact hne,hOr,hOv⟩ Qs
     ·have hlk:AR (R k)=(m:Int):=by rw[<-hm];exact bk.1 hne
      have hmn:m<n:=by have:=Dv r1;omega
      obtain⟨hk1,hk2,_⟩:=DI hlk;obtain⟨_,hi2,_⟩:=DI hm;have hi2':=hi2;have hk2':=hk2;have bx:=C8 ω rr m;have bb:=C8 ω (A.red.rr k hkl) m
      have cx:∀ms,mr∈ms->Cell h5 ms ((AG er).add ((m*n+j)*1)) (.w (r1.getD m 0)):=λms hq=>by
       have:=(hOr.rd (h:=h5) hq).ent hmn hjl
       rwa [show mc R (C5 p S) j r1 m j=r1.getD m 0 by unfold mc;rw[aa ω,ac rfl]]at this
      have cb:∀ms,mr∈ms->Cell h5 ms ((AG er).add ((m*n+k)*1)) (.w ((R k).getD m 0)):=λms hq=>by
       have:=(hOr.rd (h:=h5) hq).ent hmn hkn
       rwa [V9 _ _ _ _ hkl]at this
      obtain⟨x,hx⟩:∃x,r1.getD m 0=x:=⟨_,Y⟩
      obtain⟨b,hb⟩:∃b,(R k).getD m 0=b:=⟨_,Y⟩
      rw[hx]at cx bx;rw[hb]at cb bb;have hb0:b≠0:=by rw[<-hb];exact hk2
      have hinv:=Nl hP (show 0<b by omega) bb.2;have hwb:=PH hpb b;have hov:=Xg b p h5 ⟨hpb,hpb2⟩ bb;obtain⟨w,hw⟩:∃w,FN p b=w:=⟨_,Y⟩
      rw[hw]at hinv hwb hov;have hpw:0<=(p-x)*w/\(p-x)*w<=997*997:=⟨dt ω ω,jb ω ω ω ω⟩
      have hkill:=Ace (x:=x) hinv (show 0<p by omega);have ht0:=co ((p-x)*w) (show p≠0 by omega);have ht1:=bw ((p-x)*w) (show 0<p by omega);have hix1:=Ds hmn hjl;have hix2:=Ds hmn hkn;have hml:(BV n n (mc R (C5 p S) j r1)).length=n*n:=BO _ _ _;have hc1:(((m*n+j:Nat)):Int)=(m:Int)*(n:Int)+j:=by rw[gj,da]
      have hc2:(((m*n+k:Nat)):Int)=(m:Int)*(n:Int)+k:=by rw[gj,da]
      have hmn0:0<=(m:Int)*(n:Int):=dt ω ω;rw[hm];subst hy;refine Ah (Ad (Ac (Bc 24 CT κ Y (Wm Y (Wf Bl Y (Wl Y AN (e11 _) (Wm Y (Wm Y (AM (oM Y) Y Y (Wm Y (AM (oA Y) Y Y (AM (AA ((m*n+j)) (hOr.rd (h:=h5) (ms:=[mv,mr,Bh g8 65 [.w 0,.w 0,.w 0,.nl],Bh g7 65 [.w 0,.w 0,.w 0,.nl]]) (.tail _ (.head _))).rd Y AN A0 Y Y ω ω) Y Y (Wl Y U3 (cx _ (.tail _ (.head _))) (AM (oS Y) Y Y (Wf Bl Y (Wl Y AN (e11 _) (Wm Y (Wm Y (AM (oM Y) Y Y (Wm Y (AM (oA Y) Y Y (AM (AA ((m*n+k)) (hOr.rd (h:=h5) (ms:=[mv,mr,Bh g8 65 [.w 0,.w 0,.w 0,.nl],Bh g7 65 [.w 0,.w 0,.w 0,.nl]]) (.tail _ (.head _))).rd Y AN A0 Y Y ω ω) Y Y (Wl Y U3 (cb _ (.tail _ (.head _))) (Wm Y (AM (AH Y call89 Y (hov _)) Y Y (AM (oM Y) Y Y (Wm Y (A7 (Qx (BH Y Y Y ω ω) Y (Qm Y (Am (Ac (Aq (Qm Y (Am (Ag ?_))))))))))))))))))))))))))))))))))));obtain⟨tt,htt⟩:∃tt,(p-x)*w%p=tt:=⟨_,Y⟩
      rw[htt]at hkill ht0 ht1 ⊢;have hll:r1.length=(R k).length:=by rw[lr,lRk]
      have hlv:v1.length=(V k).length:=by rw[lv,lVk]
      have hless:=Nj (p:=p) (t:=tt) hll hm hlk (by rw[hx,hb];exact hkill);rw[show r1=Od p r1 (R k) tt 0 from(Qh _ _ _ _).symm]at hOr;rw[show v1=Od p v1 (V k) tt 0 from(Qh _ _ _ _).symm]at hOv
      refine Ay (λq sl h' ms'=>∃(i:Nat) (mr mv:Hp),q=n-i/\sl=[(1,vf),(2,.w p),(3,.pt g3),(7,.pt g7),(8,.pt g8),(11,.pt g11),(12,.w n),(13,.pt g13),(14,.w j),(15,.w k),(17,.w tt),(18,.w i)]/\h5=h'/\ms'=[mv,mr,Bh g8 65 [.w 0,.w 0,.w 0,.nl],Bh g7 65 [.w 0,.w 0,.w 0,.nl]]/\i<=n/\OwnL cI 1 3 mr er (BV n n (mc R (C5 p S) j (Od p r1 (R k) tt i)))/\OwnL cI 1 3 mv ev (BV n n (mc V (C0 n) j (Od p v1 (V k) tt i))))
       (n-0) _ ⟨0,mr,mv,rfl,rfl,rfl,rfl,ω,hOr,hOv⟩ Qs ?_
      rintro q sl h' ms' ⟨i,mr,mv,rfl,rfl,rfl,rfl,hi,hOr,hOv⟩;refine Ac (Aq (Qm Y (Qm Y (Qm Y (Am ?_)))));refine Ao Y (λhin=>?_) (λhin=>?_)
      ·have hil:i<n:=ω
       have bx:=C8 ω rr i;have bb:=C8 ω (A.red.rr k hkl) i;have ux:=C8 ω rv i;have ub:=C8 ω (A.red.vr k hkl) i
       have cx:∀ms,mr∈ms->Cell h5 ms ((AG er).add ((i*n+j)*1)) (.w (r1.getD i 0)):=λms hq=>by
        have:=(hOr.rd (h:=h5) hq).ent hil hjl
        rwa [V5 p R (C5 p S) j tt lr hil]at this
       have cb:∀ms,mr∈ms->Cell h5 ms ((AG er).add ((i*n+k)*1)) (.w ((R k).getD i 0)):=λms hq=>by
        have:=(hOr.rd (h:=h5) hq).ent hil hkn
        rwa [V9 _ _ _ _ hkl]at this
       have dx:∀ms,mv∈ms->Cell h5 ms ((AG ev).add ((i*n+j)*1)) (.w (v1.getD i 0)):=λms hq=>by
        have:=(hOv.rd (h:=h5) hq).ent hil hjl
        rwa [V5 p V (C0 n) j tt lv hil]at this
       have db:∀ms,mv∈ms->Cell h5 ms ((AG ev).add ((i*n+k)*1)) (.w ((V k).getD i 0)):=λms hq=>by
        have:=(hOv.rd (h:=h5) hq).ent hil hkn
        rwa [V9 _ _ _ _ hkl]at this
       have sR:=λa b ha=>SM p R (C5 p S) j (b1:=R k) tt lr hil a b ha;have sV:=λa b ha=>SM p V (C0 n) j (b1:=V k) tt lv hil a b ha;obtain⟨x,hx⟩:∃x,r1.getD i 0=x:=⟨_,Y⟩
       obtain⟨b,hb⟩:∃b,(R k).getD i 0=b:=⟨_,Y⟩
       obtain⟨u,hu⟩:∃u,v1.getD i 0=u:=⟨_,Y⟩
       obtain⟨z,hz⟩:∃z,(V k).getD i 0=z:=⟨_,Y⟩
       rw[hx]at cx bx;rw[hb]at cb bb;rw[hu]at dx ux;rw[hz]at db ub;simp only[hx,hb]at sR;simp only[hu,hz]at sV;have hm1:0<=tt*b/\tt*b<=997*997:=⟨dt ht0 bb.1,jb ω ω ω ω⟩
       have hm2:0<=tt*z/\tt*z<=997*997:=⟨dt ht0 ub.1,jb ω ω ω ω⟩
       have hix1:=Ds hil hjl;have hix2:=Ds hil hkn;have hml1:(BV n n (mc R (C5 p S) j (Od p r1 (R k) tt i))).length=n*n:=BO _ _ _;have hml2:(BV n n (mc V (C0 n) j (Od p v1 (V k) tt i))).length=n*n:=BO _ _ _;have hc1:(((i*n+j:Nat)):Int)=(i:Int)*(n:Int)+j:=by rw[gj,da]
       have hc2:(((i*n+k:Nat)):Int)=(i:Int)*(n:Int)+k:=by rw[gj,da]
       have hin0:0<=(i:Int)*(n:Int):=dt ω ω;have hOr1:=hOr;refine Ah (Ad (Ac (Ag (Ac (Bc 30 CT κ Y (Wf Bl Y (Wl Y AN (e11 _) (Wm Y (Wm Y (AM (oM Y) Y Y (Wm Y (AM (oA Y) Y Y (Wf Bl Y (Wl Y AN (e11 _) (Wm Y (Wm Y (AM (oM Y) Y Y (Wm Y (AM (oA Y) Y Y (AM (AA ((i*n+j)) (hOr1.rd (h:=h5) (ms:=[mv,mr,Bh g8 65 [.w 0,.w 0,.w 0,.nl],Bh g7 65 [.w 0,.w 0,.w 0,.nl]]) (.tail _ (.head _))).rd Y AN A0 Y Y ω ω) Y Y (Wl Y U3 (cx _ (.tail _ (.head _))) (Wm Y (Wf Bl Y (Wl Y AN (e11 _) (Wm Y (Wm Y (AM (oM Y) Y Y (Wm Y (AM (oA Y) Y Y (AM (AA ((i*n+k)) (hOr1.rd (h:=h5) (ms:=[mv,mr,Bh g8 65 [.w 0,.w 0,.w 0,.nl],Bh g7 65 [.w 0,.w 0,.w 0,.nl]]) (.tail _ (.head _))).rd Y AN A0 Y Y ω ω) Y Y (Wl Y U3 (cb _ (.tail _ (.head _))) (AM (oM Y) Y Y (AM (oA Y) Y Y (Wm Y (AM (BH Y Y Y ω ω) Y Y (A7 (Qx (AA ((i*n+j)) (hOr1.rd (h:=h5) (ms:=[mv,mr,Bh g8 65 [.w 0,.w 0,.w 0,.nl],Bh g7 65 [.w 0,.w 0,.w 0,.nl]]) (.tail _ (.head _))).rd Y AN A0 Y Y ω ω) Y (Ca (F:=cI) (f:=λx=>.w x) (a:=(x+tt*b)%p) 1 (i*n+j) (λ_=>rfl) hOr Y A0 Y Y Y Y ω Y Y (λm2 hO2=>?_)))))))))))))))))))))))))))))))))))))));rw[DZ _ hjl,AW (g:=mc R (C5 p S) j (Od p r1 (R k) tt (i+1))) (λa ha b hb=>sR a b ha)]at hO2;refine Am (Bc 30 CT κ Y (Wf Bl Y (Wl Y AN (e13 _) (Wm Y (Wm Y (AM (oM Y) Y Y (Wm Y (AM (oA Y) Y Y (Wf Bl Y (Wl Y AN (e13 _) (Wm Y (Wm Y (AM (oM Y) Y Y (Wm Y (AM (oA Y) Y Y (AM (AA ((i*n+j)) (hOv.rd (h:=h5) (ms:=[mv,m2,Bh g8 65 [.w 0,.w 0,.w 0,.nl],Bh g7 65 [.w 0,.w 0,.w 0,.nl]]) (.head _)).rd Y AN A0 Y Y ω ω) Y Y (Wl Y U3 (dx _ (.head _)) (Wm Y (Wf Bl Y (Wl Y AN (e13 _) (Wm Y (Wm Y (AM (oM Y) Y Y (Wm Y (AM (oA Y) Y Y (AM (AA ((i*n+k)) (hOv.rd (h:=h5) (ms:=[mv,m2,Bh g8 65 [.w 0,.w 0,.w 0,.nl],Bh g7 65 [.w 0,.w 0,.w 0,.nl]]) (.head _)).rd Y AN A0 Y Y ω ω) Y Y (Wl Y U3 (db _ (.head _)) (AM (oM Y) Y Y (AM (oA Y) Y Y (Wm Y (AM (BH Y Y Y ω ω) Y Y (A7 (Qx (AA ((i*n+j)) (hOv.rd (h:=h5) (ms:=[mv,m2,Bh g8 65 [.w 0,.w 0,.w 0,.nl],Bh g7 65 [.w 0,.w 0,.w 0,.nl]]) (.head _)).rd Y AN A0 Y Y ω ω) Y (Ca (F:=cI) (f:=λx=>.w x) (a:=(u+tt*z)%p) 0 (i*n+j) (λ_=>rfl) hOv Y A0 Y Y Y Y ω Y Y (λm3 hO3=>?_)))))))))))))))))))))))))))))))))));rw[DZ _ hjl,AW (g:=mc V (C0 n) j (Od p v1 (V k) tt (i+1))) (λa ha b hb=>sV a b ha)]at hO3;refine Ak (Ai (Ad (Ab (Qm Y (Qx (oA Y) Y (Qm Y (Ak ?_)))))));exact Al (n-(i+1)) _ ω ⟨i+1,m2,m3,Y,Y,Y,Y,ω,hO2,hO3⟩ Qs
      ·obtain rfl:i=n:=ω
       rw[show Od p r1 (R k) tt i=EJ p r1 (R k) tt by rw[<-lr];exact SF p tt hll]at hOr;rw[show Od p v1 (V k) tt i=EJ p v1 (V k) tt by rw[<-lv];exact SF p tt hlv]at hOv;have hlb:=Dv (EJ p r1 (R k) tt);refine Av (Aa (Aa (Af (Ad (Ab (Qm Y (Ak (Ai (Ad (Ab (Qm Y (Qx (oA Y) Y (Qm Y (Ak ?_))))))))))))));exact Al ((AR (EJ p r1 (R k) tt)+1).toNat*401+(j-0)) _ ω ⟨0,-1+1,EJ p r1 (R k) tt,EJ p v1 (V k) tt,mr,mv,Y,Y,Y,Y,Y,ω,by rw[Ea hll,lr],by rw[Ea hlv,lv],Jx ω _ _,Jx ω _ _,.step hOp hkl hmn ht0 ht1 hi2' hk2',λ_ h=>ω,hOr,hOv⟩ Qs
   ·obtain⟨la',A'⟩:=A.put hn4 lr lv rr rv hOp λk' hk'=>hfr k' ω;rw[AW λa _ b _=>KF R (C5 p S) j r1 a b]at hOr;rw[AW λa _ b _=>KF V (C0 n) j v1 a b]at hOv;refine Av (Aa (Aa (Af (Ai (Ad (Ab (Qm Y (Qx (oA Y) Y (Qm Y (Ak ?_))))))))));exact Al (n-(j+1)) _ ω ⟨j+1,_,_,la',mr,mv,Y,Y,Y,Y,ω,A',hOr,hOv⟩ Qs
  ·obtain rfl:j=n:=ω
   rw[AW (g:=λi j=>(R j).getD i 0) λa _ b hb=>V9 R _ _ _ hb a]at hOr;rw[AW (g:=λi j=>(V j).getD i 0) λa _ b hb=>V9 V _ _ _ hb a]at hOv;refine Av (Aa (Aa (Af ?_)));exact Az _ ⟨R,V,la,mr,mv,Y,Y,Y,A,hOr,hOv⟩ Qs
 ·obtain⟨R,V,la,mr,mv,rfl,rfl,rfl,A,hOr,hOv⟩:=hI;subst hnS;have s11:∀ms,Seg h5 ms (⟨g11,0,none⟩:Addr) [.w p,.w S.length,.w S.length,er]:=λms=>hS11.any;have s13:∀ms,Seg h5 ms (⟨g13,0,none⟩:Addr) [.w p,.w S.length,.w S.length,ev]:=λms=>hS13.any;have s3:∀ms,Seg h5 ms (⟨g3,0,none⟩:Addr) [v]:=λms=>hS3.any;refine Ac (BK (n:=9) (bs:=[true,true,false,true,true,false,false,false,false]) [true,true,false,true,true] CT κ κ Y Y (Qp Y (oG Y CS A8 (s3 _)) (Qq Y (Qp Y (oG Y Dr A4 (s11 _)) (Qp Y (oG Y Dr A4 (s13 _)) ?_)))));unfold Fm;simp only[bl,ay];refine Qo 2 Y (Qc call90 Y (LW l F v vf _ hK hR hF hn hmon hl) (λro h6 ms6 l6 hQ=>?_));obtain⟨l6',S',mo,H',rfl,hOo⟩:=hQ;rw[H.ids H']at hOo;refine Qa (Qo 5 Y (Qm Y (Qa (Qo 6 Y ?_))));refine Sa 4 [_,_,_,_] A4 Y (by simp[o1,o2,oer,oev]) ?_;refine Qa (Qo 7 Y ?_);refine Sa 3 [_,_,_,_] A4 Y (by simp[o1,o2,oer,oev]) ?_;refine Qa (Qo 8 Y (Qm Y (Qa (Qe (Ad (An ?_))))));exact WN (vs1:=[_,_,_,_]) (vs2:=[_,_,_,_]) 4 3 Y Y Y Y Y Dr Y A4 Y Y Y Y ⟨AE l23 (AE l5 l6'),S,R,V,ro,er,ev,mo,mr,mv,⟨H.perm,H.srt,la,A⟩,Y,Y,hOo,hOr,hOv⟩
variable {S S':List Ce} {L:List Int} {f:Int->Int} {i:Nat}
def lj(L:List Int)(i:Int):Nat->Option Nat
 | 0=>none
 | k+1=>if L.getD k 0=i then some k else lj L i k
theorem SO{i:Int}:∀{k j:Nat},lj L i k=some j->j<k/\L.getD j 0=i
 | 0,j,h=>by cases h
 | k+1,j,h=>by
  unfold lj at h;split at h
  ·cases h;rename_i e;exact⟨ω,e⟩
  ·have:=SO h;exact⟨ω,this.2⟩
theorem Ol{i:Int}(hi:0<=i):∀n,Bz (Dp L n) i=(lj L i n).map λ(j:Nat)=>(j:Int)
 | 0=>rfl
 | n+1=>by
  unfold Dp lj;by_cases h:L.getD n 0=i
  ·rw[ac ω,ac h,h,Di,ac rfl];rfl
  ·rw[aa h];split
   ·rw[Di,aa (λe=>h e.symm)];exact Ol hi n
   ·exact Ol hi n
def rB(f:Int->Int)(S:List Ce)(L:List Int)(i k:Nat):Br:=match lj L i k with
 | some j=>⟨(Cw S i).dim,f (Cw S i).id,f (Cw S j).id,false,(Cw S i).id,(Cw S j).id⟩
 | none=>⟨(Cw S i).dim,f (Cw S i).id,0,decide (L.getD i 0<0),(Cw S i).id,0⟩
theorem Abr{k:Nat}(h:L.getD k 0=i):rB f S L i (k+1)=⟨(rB f S L i k).dim,(rB f S L i k).birth,f (Cw S k).id,false,(rB f S L i k).low,(Cw S k).id⟩:=by unfold rB;rw[show lj L i (k+1)=some k by unfold lj;rw[ac h]];cases lj L i k<;>rfl
theorem Zp{k:Nat}(h:L.getD k 0≠i):rB f S L i (k+1)=rB f S L i k:=by unfold rB;rw[show lj L i (k+1)=lj L i k by conv=>lhs;unfold lj;rw[aa h]]
def Nf(b:Br):Bool:=b.opn||(decide (b.high≠0)&&decide (b.birth≠b.death))
theorem AbO(hL:L.length=S.length)(hi:i<S.length)(hid:∀j,j<S.length->1<=(Cw S j).id)(hlt:∀j,j<S.length->L.getD j 0<j)(hf:∀a b,a<b->b<S.length->f (Cw S a).id<=f (Cw S b).id) :
  (if Nf (rB f S L i S.length) then [rB f S L i S.length] else [])=GV f S L i:=by
 unfold GV;rw[hL,Ol ω];unfold rB Nf;cases e:lj L i S.length with
 | none=>
  simp only[Option.map_none,ne_eq,decide_not,Bool.or_false,Bool.false_and];by_cases h:L.getD i 0<0
  ·rw[ac (by rw[ai h];rfl),ac h,ai h];rfl
  ·rw[aa (by rw[aj h];simp),aa h]
 | some j=>
  obtain⟨h1,h2⟩:=SO e;have h3:=hlt j h1;have h4:=hf i j ω h1;have h5:=hid j h1;simp only[Option.map_some,ne_eq,Bool.false_or,de];by_cases h:f (Cw S i).id<f (Cw S j).id
  ·rw[ac (by rw[ai (show ¬(Cw S j).id=0 by omega),ai (show ¬f (Cw S i).id=f (Cw S j).id by omega)];rfl)];rw[ac (show f (S.getD i default).c.id<f (S.getD j default).c.id from h)];rfl
  ·rw[aa (by rw[aj (show ¬¬f (Cw S i).id=f (Cw S j).id by omega)];simp)];rw[aa (show ¬f (S.getD i default).c.id<f (S.getD j default).c.id from h)]
theorem HU(h:S'.map Ce.c=S.map Ce.c)(i:Nat):Cw S' i=Cw S i:=by
 have hl:S'.length=S.length:=by have:=aw List.length h;rwa [af,af]at this
 have h1:=aw (λl=>l[i]?) h;simp only[gr]at h1;unfold Cw;simp only[List.getD];by_cases hi:i<S.length
 ·rw[ah ω,ah hi]at h1 ⊢;simpa using h1
 ·rw[cu ω,cu ω]
theorem UJ(h:S'.map Ce.c=S.map Ce.c)(L:List Int)(i:Nat):GV f S' L i=GV f S L i:=by have hs:=λk=>HU h k;unfold Cw at hs;unfold GV;simp only[hs]
theorem Se(h:S'.map Ce.c=S.map Ce.c)(L:List Int)(n:Nat):Do f S' L n=Do f S L n:=by unfold Do;rw[show GV f S' L=GV f S L from funext λi=>UJ h L i]
theorem SrtH.fmono{F:List (Int×Int)}{l:List Ce}(H:SrtH F l S){a b:Nat}(hab:a<b)(hb:b<S.length):CN (Bn F) (Cw S a).id<=CN (Bn F) (Cw S b).id:=by have:=ax.1 H.srt a b ω hb hab;rw[C6 hb,C6 (show a<S.length by omega)];omega
noncomputable def Gv(n:Nat)(G:Nat->Nat->Int):List Int:=(range n).map λj=>AR (EK n λi=>G i j)
theorem Um(n:Nat)(G:Nat->Nat->Int):(Gv n G).length=n:=by unfold Gv;simp
theorem MS{n:Nat}(G:Nat->Nat->Int){j:Nat}(hj:j<n):(Gv n G).getD j 0=AR (EK n λi=>G i j):=by unfold Gv;simp[List.getD,hj]
theorem ML(l S:List Ce)(F:List (Int×Int))(v vf er:Value)(p:Int)(G:Nat->Nat->Int)(hp:Hp)(hK:RgC l)(hR:RdC hp v l)(hF:RdL cV 2 hp [] vf F)(hn:(F.map Prod.fst).Nodup)(hb:∀c,-2000000000<=CN (Bn F) c/\CN (Bn F) c<=2000000000)(H:SrtH F l S)(hl:l.length<=400)(hG:RdL cI 1 hp [] er (BV S.length S.length G))(hlt:∀j,j<S.length->(Gv S.length G).getD j 0<j):FnT Tryz.prog 53 #[.agg #[v],vf,.agg #[.int .i64 p,.int .i64 S.length,.int .i64 S.length,er]] hp [] (λr h' ms'=>hp.le h'/\∃m,ms'=[m]/\OwnL IJ 6 43 m r (Do (CN (Bn F)) S (Gv S.length G) S.length)):=by
 have o1:=hR.q.rd.one;have o2:=hF.rd.one;have o3:=hG.rd.one;have hSl:=H.len;have hn4:S.length<=400:=ω
 refine Au func53 ntmps53 Y Y (λw0 hw0=>?_);simp only[A6];refine Aq (AP [_] Y Y (by rfl) Y Y Y (λg3=>AP [_,_,_,_] Y Y (by rfl) Y Y Y (λg5=>Qm Y (Am (Ax λh1 l1 hS5=>(Ax λh2 l2 hS3=>?_))))));have l12:=AE l1 l2;have hR:=hR.up l12;have hF:=hF.up l12;refine Aq (Qx (oG Y CS A8 (Seg.any hS3)) Y (Qm Y (Qc call122 Y (GS l F v vf h2 hK hR hF hn) (λr7 h3 ms3 l3 hQ=>?_))));obtain⟨l3',mS,S',rfl,hOS,hpm,hsrt,hsS⟩:=hQ;have H':SrtH F l S':=⟨hpm,hsrt,hK.F.rgt,H.mon⟩
 have heq:=H.uniq H';have hsc:=λi=>HU heq i;have hS'l:S'.length=S.length:=by rw[H'.len,hSl]
 refine Qm Y (Am (A9 hOS λh4 l4 hRS=>?_));have l24:=AE l3 l4;have hF:=hF.up l24;have hG:=hG.up (AE l12 l24);have hS5:=hS5.le (AE l2 l24);have o7:=hRS.rd.one
 have hvv:∀c ms,FnV Tryz.prog 71 #[vf,.w c] h4 ms (.tuple #[.w (CN (Bn F) c),.bool (JB F c).isSome]):=λc ms=>by
  have:=Gq F vf c h4 hF ms
  rwa [show(JB F c).getD 0=CN (Bn F) c from Hq hn c]at this
 have hLv:∀j,j<S.length->∀ms,FnV Tryz.prog 88 #[.agg #[.w p,.w S.length,.w S.length,er],.w j] h4 ms (.w ((Gv S.length G).getD j 0)):=λj hj ms=>by
  have:=I4 p S.length G er j h4 hG hn4 hj ms
  rwa [<-MS G hj]at this
 have hid:∀j,j<S.length->1<=(Cw S j).id:=λj hj=>hK.F.rgt.pos _ (H.mem hj);have hbars:=λi (hi:i<S.length)=>AbO (f:=CN (Bn F)) (L:=Gv S.length G) (Um _ _) hi hid hlt λa b hab hb=>H.fmono hab hb;obtain⟨f,hf⟩:∃f,CN (Bn F)=f:=⟨_,Y⟩
 obtain⟨L,hL⟩:∃L,Gv S.length G=L:=⟨_,Y⟩
 rw[hf]at hvv hbars hb ⊢;rw[hL]at hLv hlt hbars ⊢;have s5:∀h',h4.le h'->∀ms,Seg h' ms (⟨g5,0,none⟩:Addr) [.w p,.w S.length,.w S.length,er]:=λh' l' ms=>(hS5.le l').any;refine Aq (Qm Y (Am (Ac (Aq (Qm Y (Am (Ag (BT ?_))))))))
 refine Ay (λq sl h' ms'=>∃(i:Nat) (vo:Value) (mo:Hp),q=S'.length-i/\sl=[(1,vf),(5,.pt g5),(7,r7),(8,vo),(9,.w i)]/\h4=h'/\ms'=[mo]/\i<=S'.length/\OwnL IJ 6 43 mo vo (Do f S L i))
  (S'.length-0) _ ⟨0,_,Hp.emp,rfl,rfl,rfl,rfl,ω,OwnL.nil GI⟩ Qs ?_
 rintro q sl h' ms' ⟨i,vo,mo,rfl,rfl,rfl,rfl,hi,hO⟩;have ovo:=hO.o1;have s5:=s5 h4 (Da);refine Ac (Aq (Qm Y (Qm Y (Qx (As hRS.rd.any Y Bm Y) Y (Qm Y (Am ?_))))));refine Ao Y (λhil=>?_) (λhil=>?_)
 ·have hiS:i<S'.length:=ω
  have hiS0:i<S.length:=ω
  have c0:∀ms,Cell h4 ms (((AG r7).add (i*3)).add 0) (.w (Cw S i).id):=λms=>by rw[<-hsc i,C6 hiS];exact(hRS.any (ms:=ms)).cell hiS (f:=0) Y
  have c1:∀ms,Cell h4 ms (((AG r7).add (i*3)).add 1) (.w (Cw S i).dim):=λms=>by rw[<-hsc i,C6 hiS];exact(hRS.any (ms:=ms)).cell hiS (f:=1) Y
  refine Ah (Ad (Ac (Ag (Aq (Qm Y (Qm Y (Qm Y (Qx (BN (i) hRS.rd.any Y Bm AI Y Y) Y (Qf Bq Y (Ql Y U3 (c0 _) (Qx (AH Y call71 Y (hvv _ _)) Y (Qm Y (Qm Y (Qm Y (Qm Y (Qm Y (Am (Ac (Bc 17 CT κ Y (Wm Y (Wm Y (AM (BN (i) hRS.rd.any Y Bm AI Y Y) Y Y (Wf BZ Y (Wl Y U3 (c1 _) (Wm Y (AM (oG Y Dr A4 (s5 _)) Y Y (Wm Y (AM (AH Y call88 Y (hLv i hiS0 _)) Y Y (Wm Y (Wm Y (Wm Y (AM (BN (i) hRS.rd.any Y Bm AI Y Y) Y Y (Wf Bq Y (Wl Y U3 (c0 _) (AM (Bb Wd [.w 0,.w 0,.w 0,.bool false,.w 0,.w 0] [(0,_),(1,_),(3,_),(4,_)] [_,_,_,_,_,_] Y D6 Y Y Qt Y) Y Y (Ug (Ka [.w 0,.w 0,.w 0,.bool false,.w 0,.w 0] Y D6 Y) Y Y (HZ (λg12=>?_))))))))))))))))))))))))))))))))))))));refine Sa 0 [_,_,_,_,_,_] D6 Y (by simp[Value.oneCell']) ?_;refine Am (Ac (Aq (Qm Y (Am (Ag ?_)))))
  refine Ay (λq sl h' ms'=>∃(j:Nat),q=S'.length-j/\sl=[(1,vf),(5,.pt g5),(7,r7),(8,vo),(9,.w i),(12,.pt g12),(13,.w j)]/\h4=h'/\ms'=[Bh g12 43 (IJ (rB f S L i j)),mo]/\j<=S'.length)
   (S'.length-0) _ ⟨0,rfl,rfl,rfl,rfl,ω⟩ Qs ?_
  rintro q sl h' ms' ⟨j,rfl,rfl,rfl,rfl,hj⟩;refine Ac (Aq (Qm Y (Qm Y (Qx (As hRS.rd.any Y Bm Y) Y (Qm Y (Am ?_))))));refine Ao Y (λhjl=>?_) (λhjl=>?_)
  ·have hjS:j<S'.length:=ω
   have hjS0:j<S.length:=ω
   have d0:∀ms,Cell h4 ms (((AG r7).add (j*3)).add 0) (.w (Cw S j).id):=λms=>by rw[<-hsc j,C6 hjS];exact(hRS.any (ms:=ms)).cell hjS (f:=0) Y
   refine Ah (Ad (Ac (Ag (Aq (Qx (oG Y Dr A4 (s5 _)) Y (Qm Y (Qx (AH Y call88 Y (hLv j hjS0 _)) Y (Qm Y (Qm Y (Am ?_))))))))));refine Ao Y (λhe=>?_) (λhe=>?_)
   ·have hh:=Abr (f:=f) (S:=S) he;generalize rB f S L i j=b at *;refine Aq (Qf Lu Y (AO 0 _ Y Xe Y Y (by rfl) Y Y (bz Y) Y Y (Am ?_)));simp only[IJ,List.set_cons_succ,List.set_cons_zero];refine Aq (Qm Y (Qm Y (Qx (BN (j) hRS.rd.any Y Bm AI Y Y) Y (Qf Bq Y (Ql Y U3 (d0 _) (Qf OH Y ?_))))));refine AO 0 _ Y A0 Y Y (by rfl) Y Y (by(simp;done)) rfl rfl ?_;refine Am ?_;simp only[IJ,List.set_cons_succ,List.set_cons_zero];refine Ab (Qm Y (Qm Y (Qm Y (Qx (BN (j) hRS.rd.any Y Bm AI Y Y) Y (Qf Bq Y (Ql Y U3 (d0 _) (Qx (AH Y call71 Y (hvv _ _)) Y (Qm Y (Qm Y (Qm Y (Qf JP Y ?_)))))))))));refine AO 0 _ Y A0 Y Y (by rfl) Y Y (by(simp;done)) rfl rfl ?_;refine Ak (Ai (Ad (Ab (Qm Y (Qx (oA Y) Y (Qm Y (Ak ?_)))))));exact Al (S'.length-(j+1)) _ ω ⟨j+1,Y,Y,Y,by rw[hh];rfl,ω⟩ Qs
   ·have hm:=Zp (f:=f) (S:=S) he;refine Ah (Ai (Ad (Ab (Qm Y (Qx (oA Y) Y (Qm Y (Ak ?_)))))));exact Al (S'.length-(j+1)) _ ω ⟨j+1,Y,Y,Y,by rw[hm],ω⟩ Qs
  ·have hje:j=S.length:=ω
   rw[hje];have hnx:=Ej f S L i;rw[<-hbars i hiS0]at hnx;have hbl:=Jc f S L i;generalize rB f S L i S.length=b at *;refine Av (Aa (Aa (Af (Ad (Aq (Qf Lu Y (Ql Y U4 (Cell.blk 0 Y Y) (Qm Y ?_))))))));refine FG (t:=80) Y (λhop=>?_) (λhop=>?_)
   ·rw[ac (by unfold Nf;rw[hop];rfl)]at hnx;refine Qk Y (Qk Y (Qk Y (Qk Y (A3 Y Y Y Y Y Y (A3 Y Y Y Y Y Y (A3 Y Y Y Y Y Y (A3 Y Y Y Y Y Y (A3 Y Y Y Y Y Y (Qk Y (Qm Y (Am (A5 Y (Ab (Qm Y (Qx (oG Y U43 D6 (Seg.blk 0 Y)) Y (Aw [_,_,_,_,_,_] Y Ku D6 Y (by rfl) Y Y ω Y Y Y (λg94=>?_)))))))))))))))));refine AU 2 hO (RdL.one GI (x:=b) Mh Y) Y Ku D6 Y ω Y Y Y KG (by simp;omega) (by simp;omega) rfl rfl rfl (λv6 m6 hO6=>?_);rw[<-hnx]at hO6;refine Qm Y (Ak (Ai (Ad (Ab (Qm Y (Qx (oA Y) Y (Qm Y (Ak (AZ 0 Y (AZ 0 Y ?_))))))))));exact Al (S'.length-(i+1)) _ ω ⟨i+1,v6,m6,Y,Y,Y,Y,ω,hO6⟩ Qs
   ·refine Qg (oF OH Y) Y (Qg (oL Y U3 (Cell.blk 0 Y Y)) Y (Qg (B8 Y Y Y) Y (Qg (Ar Y Y) Y ?_)));refine AL (t:=84) Y (λhh0=>?_) (λhh0=>?_)
    ·refine Qg (oF W6 Y) Y (Qg (oL Y U3 (Cell.blk 0 Y Y)) Y (Qg (oF JP Y) Y (Qg (oL Y U3 (Cell.blk 0 Y Y)) Y (Qg (B8 Y Y Y) Y (Qg (Cp Y Y Y) Y (Qm Y (Am ?_)))))));refine Ao Y (λhbd=>?_) (λhbd=>?_)
     ·rw[ac (by unfold Nf;rw[hop,ai hh0,ai hbd];rfl)]at hnx;refine Ab (Qm Y (Qx (oG Y U43 D6 (Seg.blk 0 Y)) Y (Aw [_,_,_,_,_,_] Y Ku D6 Y (by rfl) Y Y ω Y Y Y (λg94=>?_))));refine AU 2 hO (RdL.one GI (x:=b) Mh Y) Y Ku D6 Y ω Y Y Y KG (by simp;omega) (by simp;omega) rfl rfl rfl (λv6 m6 hO6=>?_);rw[<-hnx]at hO6;refine Qm Y (Ak (Ai (Ad (Ab (Qm Y (Qx (oA Y) Y (Qm Y (Ak (AZ 0 Y (AZ 0 Y ?_))))))))));exact Al (S'.length-(i+1)) _ ω ⟨i+1,v6,m6,Y,Y,Y,Y,ω,hO6⟩ Qs
     ·rw[aa (by unfold Nf;rw[hop,aj hbd];simp),eo]at hnx;rw[<-hnx]at hO;refine Ah (Ai (Ad (Ab (Qm Y (Qx (oA Y) Y (Qm Y (Ak (AZ 0 Y ?_))))))));exact Al (S'.length-(i+1)) _ ω ⟨i+1,vo,mo,Y,Y,Y,Y,ω,hO⟩ Qs
    ·rw[aa (by unfold Nf;rw[hop,aj hh0];simp),eo]at hnx;rw[<-hnx]at hO;refine Qk Y (Qk Y (Qk Y (Qk Y (Qk Y (Qg (Ch Y Y Y) Y (Qm Y (Am (AQ Y (Ah (Ai (Ad (Ab (Qm Y (Qx (oA Y) Y (Qm Y (Ak (AZ 0 Y ?_)))))))))))))))));exact Al (S'.length-(i+1)) _ ω ⟨i+1,vo,mo,Y,Y,Y,Y,ω,hO⟩ Qs
 ·obtain rfl:i=S'.length:=ω
  rw[hS'l]at hO;refine Av (Aa (Aa (Af (Ad (Aq (Qm Y (Qm Y (Am (An ?_)))))))));exact Ap Y Y (⟨AE l12 l24,mo,Y,hO⟩)
end
section
open Go.Lin Go.Sort Go.Srt
theorem ZU{o:List Cl}{F:List (Int×Int)}{p:Int}(h0:(DN o F).2=0)(hE:Hg o F p≠0):¬IsP p/\Hg o F p=46:=by
 unfold Hg at *;rw[aa (λh=>h h0)]at *;by_cases hP:IsP p
 ·rw[ac hP]at hE;exact jt Y hE
 ·exact⟨hP,aa hP⟩
theorem Ua(l:List Ce)(F:List (Int×Int))(v vf:Value)(p:Int)(hp:Hp)(hK:RgC l)(hR:RdC hp v l)(hF:RdL cV 2 hp [] vf F)(hV:Ir F)(hI:BS p)(hE:Hg (cn l) F p≠0):FnT Tryz.prog 91 #[.agg #[v],vf,.int .i64 p] hp [] (λr h' ms'=>r=.tuple #[.pointer none,.int .i64 (Hg (cn l) F p)]):=by
 have o1:=hR.q.rd.one;have o2:=hF.rd.one;have hG:=hK.F.rgt;refine Au func91 ntmps91 Y Y (λw0 hw0=>?_);simp only[A6];refine Aq (AP [_] Y Y (by rfl) Y Y Y (λg3=>Qm Y (Qm Y (Am (Ax λh1 l1 hS=>?_)))));have hR:=hR.up l1;have hF:=hF.up l1;have hck:=λms=>DW (FF l F v vf h1 hK hR hF hV) ms;have hre:(DN (cn l) F).2≠0->Hg (cn l) F p=(DN (cn l) F).2:=λh=>by unfold Hg;rw[ac h]
 have hno:=ZU (o:=cn l) (F:=F) (p:=p);generalize Hg (cn l) F p=ee at *;generalize DN (cn l) F=cc at *;refine Ac (Aq (Qx (oG Y CS A8 (Seg.any hS)) Y (Qm Y (Qx (AH Y call24 Y (hck _)) Y (Qm Y (Qm Y (Qm Y (Qm Y (Qm Y (BM (Qm Y (Qm Y (Am ?_)))))))))))));refine Ao Y (λhe=>?_) (λhe=>?_)
 ·refine Ac (Ab (Qm Y (Qm Y (Qm Y (Am (An (Ae ?_)))))));exact BE Y Y Y (by rw[hre he];rfl)
 ·obtain⟨hnp,e46⟩:=hno (bk.1 he) hE;refine Ah (Ad (Aq (Qm Y (Qx (oG Y CS A8 (Seg.any hS)) Y (Qc call65 Y (HY l v _ hK hR) (λrC h2 ms2 l2 hQ=>?_))))));obtain⟨l2',mC,A,vA,rfl,rfl,hOC,hAl,hsA⟩:=hQ;have hF:=hF.up l2;refine Qx (Er Y CS Y Bm Y Y Y) Y (Qm Y (Qc call66 Y (HP F vf _ hF hV.n hV.k) (λrL h3 ms3 l3 hL=>?_)));obtain⟨l3',gL,mL,bL,rfl,rfl,hOL⟩:=hL;have ovA:=hOC.o1;have cvA:vA.cells=#[vA]:=(hOC.rd (h:=h3) (ms:=[mC]) Mh).rd.cells;refine Qx (Bb AaD box0 [(0,[_]),(1,[vA]),(2,[_])] (EI p vA gL (.nl) (.nl) (replicate 400 0)) Y AaC κ Y (by rw[PF];exact⟨⟨Y,Y,Y⟩,⟨cvA,Y,Y⟩,⟨Y,Y,Y⟩,ff⟩) (PL p vA gL)) Y ?_;refine AP (EI p vA gL (.nl) (.nl) (replicate 400 0)) Y Y Y Y Y Y (λg34=>Cx [.pointer none] Y Ym Y Y (λg10=>AO 0 0 Y Ym Y Y (by rfl) Y Y δ Y Y (Am (Ac (Ag (Aq (Qm Y (Qx (AH Y call54 Y (KX p h3 hI _)) Y (Qm Y (Qm Y (Am ?_)))))))))));refine BG Y (λhpr=>?_) (λhpr=>?_)
  ·refine Ac (Ab (Qm Y (Qm Y (Am (An (Aj (Ae ?_)))))));exact BE Y Y Y (by rw[e46])
  ·exact jt (bz (by simpa using hpr)) hnp
variable {S:List Ce} {R:Nat->List Int}
theorem Rj(h:∀k,k<S.length->(R k).length=S.length):Gv S.length (λi j=>(R j).getD i 0)=DD S R:=by unfold Gv DD;refine fc λk hk=>?_;rw[JJ (h k (bi.1 hk))]
theorem PerH.low_lj{p:Int}{F:List (Int×Int)}{l:List Ce}{V:Nat->List Int}(H:PerH p F l S R V){j:Nat}(hj:j<S.length):(DD S R).getD j 0<j:=by
 rw[Je S R hj];have hb:=Dv (R j);by_cases h:AR (R j)<0
 ·omega
 ·have:=(H.low_lt (m:=(AR (R j)).toNat) hj ω).1;omega
theorem PersF.srtH{p:Int}{F:List (Int×Int)}{l:List Ce}{V:Nat->List Int}(P:PersF p F l S R V)(G:Rgt (cn l))(hmon:∀x∈cn l,∀s∈x.sd,CN (Bn F) s.1<=CN (Bn F) x.id):SrtH F l S:=⟨P.perm,P.srt,G,hmon⟩
theorem NV(l:List Ce)(F:List (Int×Int))(v vf:Value)(p:Int)(hp:Hp)(hK:RgC l)(hR:RdC hp v l)(hF:RdL cV 2 hp [] vf F)(hV:Ir F)(hn:(F.map Prod.fst).Nodup)(hb:∀c,-2000000000<=CN (Bn F) c/\CN (Bn F) c<=2000000000)(h0:DN (cn l) F=(0,0))(hmon:∀x∈cn l,∀s∈x.sd,CN (Bn F) s.1<=CN (Bn F) x.id)(hP:IsP p)(hl:l.length<=400):FnT Tryz.prog 16 #[.agg #[v],vf,.int .i64 p] hp [] (λr h' ms'=>hp.le h'/\∃(S:List Ce) (R V:Nat->List Int) (vb:Value) (mb:Hp),PersF p F l S R V/\r=.tuple #[vb,.int .i64 0]/\ms'=[mb]/\OwnL IJ 6 43 mb vb (Do (CN (Bn F)) S (DD S R) S.length)):=by
 have o1:=hR.q.rd.one;have o2:=hF.rd.one;refine Au func16 ntmps16 Y Y (λw0 hw0=>?_);simp only[A6];refine Aq (AP [_] Y Y (by rfl) Y Y Y (λg3=>Qm Y (Qm Y (Am (Ax λh1 l1 hS=>?_)))));have hR:=hR.up l1;have hF:=hF.up l1;refine Aq (Qx (oG Y CS A8 (Seg.any hS)) Y (Qm Y (Qm Y (Qc call33 Y (Kn l F v vf p h1 hK hR hF hV hn h0 hmon hP hl) (λrr h2 ms2 l2 hQ=>?_)))));obtain⟨l2',S,R,V,vo,er,ev,mo,mr,mv,P,rfl,rfl,hOo,hOr,hOv⟩:=hQ;have H:PerH p F l S R V:=⟨P,hP,hK.F.rgt,hmon⟩
 obtain⟨la,A⟩:=P.all;have hlw:=Rj A.red.rl;have oo:=hOo.o1;have oer:=hOr.o1;have oev:=hOv.o1;refine Qm Y (Qm Y (Qm Y (Qm Y (Qm Y (Cx [.w 0,.w 0,.w 0,.nl] Y A4 Y Y (λg9=>Cx [.w 0,.w 0,.w 0,.nl] Y A4 Y Y (λg10=>Qm Y ?_)))))));refine Sa 1 [_,_,_,_] A4 Y (by simp[o1,o2,oo,oer,oev]) ?_;refine Sa 0 [_,_,_,_] A4 Y (by simp[o1,o2,oo,oer,oev]) ?_;refine Qm Y (Am (Ax λh3 l3 hS10=>(Ax λh4 l4 hS9=>(A9 hOo λh5 l5 hRo=>(A9 hOv λh6 l6 hRv=>(A9 hOr λh7 l7 hRr=>?_))))));have l47:=AE l5 (AE l6 l7);have l27:=AE l2' (AE l3 (AE l4 l47));have hR:=hR.up l27;have hF:=hF.up l27;have hS3:=hS.le l27;have hS9:=hS9.le l47;have s3:∀ms,Seg h7 ms (⟨g3,0,none⟩:Addr) [v]:=λms=>hS3.any;have s9:∀ms,Seg h7 ms (⟨g9,0,none⟩:Addr) [.w p,.w S.length,.w S.length,er]:=λms=>hS9.any;refine Ac (Aq (Qm Y (Qm Y (Am (Ao Y (λhc=>jt hc (λh=>h Y)) (λhc=>Ah (Ad (Aq (Qx (oG Y CS A8 (s3 _)) Y (Qm Y (Qx (oG Y Dr A4 (s9 _)) Y ?_)))))))))));refine Qc call53 Y (ML l S F v vf er p (λi j=>(R j).getD i 0) h7 hK hR hF hn hb (P.srtH hK.F.rgt hmon) hl hRr (λj hj=>by rw[hlw];exact H.low_lj hj)) (λrb h8 ms8 l8 hQ=>?_);obtain⟨l8',mb,rfl,hOb⟩:=hQ;rw[hlw]at hOb;have ob:=hOb.o1;refine Qm Y (Qm Y (Am (An ?_)));exact BE Y Y Y (⟨AE l1 (AE l27 l8'),S,R,V,rb,mb,P,Y,Y,hOb⟩)
end
section
variable {o:List Cl} {M:List Bool} {c0 x:Int} {Q:List Int} {k:Nat}
def MkC(o:List Cl)(M:List Bool)(x:Int):Prop:=∃k,k<o.length/\(o.getD k default).id=x/\M.getD k false=true
structure ReI(o:List Cl)(c0:Int)(M:List Bool)(Q:List Int):Prop where
 len:M.length=o.length
 rM:∀x,MkC o M x->Rch (Xl o) c0 x
 rQ:∀x∈Q,Rch (Xl o) c0 x
 st:c0∈Q\/MkC o M c0
 cl:∀x,MkC o M x->∀s∈Xl o x,s∈Q\/MkC o M s
theorem ReI.start(o:List Cl)(c0:Int):ReI o c0 (replicate o.length false) [c0]:=by
 have hn:∀x,¬MkC o (replicate o.length false) x:=λx ⟨k,hk,_,h⟩=>by simp[List.getD,hk]at h
 exact⟨by simp,λx h=>jt h (hn x),λx h=>by rw[ao.1 h];exact .refl _,.inl (ao.2 Y),λx h=>jt h (hn x)⟩
theorem ReI.mem(R:Rgt o)(hc:c0∈o.map Cl.id)(I:ReI o c0 M Q)(h:Rch (Xl o) c0 x):∃y∈o,y.id=x:=by
 have:x∈o.map Cl.id:=by
  induction h with
  | refl=>exact hc
  | step h hk ih=>
   obtain⟨z,hz,rfl⟩:=ad.1 ih;unfold Xl at hk;rw[De R.nd hz]at hk;obtain⟨s,hs,rfl⟩:=ad.1 hk;obtain⟨w,hw,e,_⟩:=R.sid z hz s hs;exact ad.2 ⟨w,hw,e⟩
 obtain⟨y,hy,e⟩:=ad.1 this;exact⟨y,hy,e⟩
theorem ReI.skip(I:ReI o c0 M (x::Q))(hx:MkC o M x):ReI o c0 M Q:=by
 refine⟨I.len,I.rM,λy hy=>I.rQ y (bh _ hy),?_,λy hy s hs=>?_⟩
 ·rcases I.st with h|h
  ·rcases aq.1 h with rfl|h
   ·exact .inr hx
   ·exact .inl h
  ·exact .inr h
 ·rcases I.cl y hy s hs with h|h
  ·rcases aq.1 h with rfl|h
   ·exact .inr hx
   ·exact .inl h
  ·exact .inr h
theorem MkC.set(hk:k<M.length):MkC o (M.set k true) x<->MkC o M x\/(k<o.length/\(o.getD k default).id=x):=by
 constructor
 ·rintro⟨q,h1,h2,h3⟩;by_cases e:k=q
  ·subst e;exact .inr ⟨h1,h2⟩
  ·refine .inl ⟨q,h1,h2,?_⟩
   rwa [show(M.set k true).getD q false=M.getD q false by simp[List.getD,gc e]]at h3
 ·rintro(⟨q,h1,h2,h3⟩|⟨h1,h2⟩)
  ·refine⟨q,h1,h2,?_⟩;by_cases e:k=q
   ·subst e;simp[List.getD,hk]
   ·rw[show(M.set k true).getD q false=M.getD q false by simp[List.getD,gc e]];exact h3
  ·exact⟨k,h1,h2,by simp[List.getD,hk]⟩
theorem ReI.mark(R:Rgt o)(I:ReI o c0 M (x::Q))(hk:k<o.length)(e:(o.getD k default).id=x):ReI o c0 (M.set k true) (Q++(o.getD k default).sd.map Prod.fst):=by
 have hkM:k<M.length:=by rw[I.len];exact hk
 have hs:Xl o x=(o.getD k default).sd.map Prod.fst:=by unfold Xl;rw[<-e,De R.nd (Es hk)]
 have hrx:=I.rQ x Mh;refine⟨by rw[List.length_set];exact I.len,λy hy=>?_,λy hy=>?_,?_,λy hy s hs'=>?_⟩
 ·rcases (MkC.set hkM).1 hy with h|⟨_,h⟩
  ·exact I.rM y h
  ·rw[<-h,e];exact hrx
 ·rcases bf.1 hy with h|h
  ·exact I.rQ y (bh _ h)
  ·exact .step hrx (by rw[hs];exact h)
 ·rcases I.st with h|h
  ·rcases aq.1 h with rfl|h
   ·exact .inr ((MkC.set hkM).2 (.inr ⟨hk,e⟩))
   ·exact .inl (bf.2 (.inl h))
  ·exact .inr ((MkC.set hkM).2 (.inl h))
 ·rcases (MkC.set hkM).1 hy with h|⟨_,h⟩
  ·rcases I.cl y h s hs' with h2|h2
   ·rcases aq.1 h2 with rfl|h2
    ·exact .inr ((MkC.set hkM).2 (.inr ⟨hk,e⟩))
    ·exact .inl (bf.2 (.inl h2))
   ·exact .inr ((MkC.set hkM).2 (.inl h2))
  ·rw[<-h,e,hs]at hs';exact .inl (bf.2 (.inr hs'))
theorem ReI.all(R:Rgt o)(hc:c0∈o.map Cl.id)(I:ReI o c0 M [])(hk:k<o.length):M.getD k false=true<->(o.getD k default).id∈Xk o c0:=by
 have hcl:∀x,Rch (Xl o) c0 x->MkC o M x:=λx h=>by
  induction h with
  | refl=>exact I.st.resolve_left nofun
  | step h hk' ih=>exact(I.cl _ ih _ hk').resolve_left nofun
 rw[cloL_mem];constructor
 ·intro h;exact⟨ad.2 ⟨_,Es hk,Y⟩,I.rM _ ⟨k,hk,Y,h⟩⟩
 ·rintro⟨_,h⟩;obtain⟨q,h1,h2,h3⟩:=hcl _ h;have:=Ml R.nd h1 hk h2;subst this;exact h3
def UB(M:List Bool)(Q:List Int):Nat:=M.count false*70+Q.length
theorem XG(hk:k<M.length)(h:M.getD k false=false){S:List Int}(hS:S.length<=64):UB (M.set k true) (Q++S)<UB M (x::Q):=by
 have hc:(M.set k true).count false+1=M.count false:=by
  have hg:M[k]=false:=by simpa[List.getD,hk] using h
  have h1:=List.count_set (a:=true) (b:=false) (l:=M) (i:=k) hk;rw[hg]at h1;have h2:0<M.count false:=List.count_pos_iff.2 (by rw[<-hg];exact ae hk);simp at h1;omega
 unfold UB;rw[ag,ef];omega
theorem Wv(M:List Bool)(x:Int)(Q:List Int):UB M Q<UB M (x::Q):=by unfold UB;rw[ef];omega
def J1(o:List Cl)(M:List Bool)(n:Nat):List Int:=((range n).filter λk=>M.getD k false).map λk=>(o.getD k default).id
theorem WH(R:Rgt o)(hc:c0∈o.map Cl.id)(I:ReI o c0 M [])(x:Int):x∈J1 o M o.length<->x∈Xk o c0:=by
 unfold J1;rw[ad];constructor
 ·rintro⟨k,hk,rfl⟩;obtain⟨h1,h2⟩:=br.1 hk;exact(I.all R hc (bi.1 h1)).1 h2
 ·intro h;obtain⟨y,hy,rfl⟩:=ad.1 (cloL_mem.1 h).1;obtain⟨h1,h2⟩:=HR hy R.nd;refine⟨O6 o y.id,br.2 ⟨bi.2 h1,?_⟩,by rw[h2]⟩;exact(I.all R hc h1).2 (by rw[h2];exact h)
theorem Uv(o:List Cl)(M:List Bool)(n:Nat):J1 o M (n+1)=J1 o M n++if M.getD n false then [(o.getD n default).id] else []:=by
 unfold J1;rw[List.range_succ,List.filter_append,bm];congr 1;cases h:M.getD n false
 ·rw[filter_cons,h];simp
 ·rw[filter_cons,h];simp
def nM(L:List Int)(k:Int):Int:=L.getD (k%(L.length:Int)).toNat 0%6
def Ty(L:List Int)(ks:List Int):Int:=if L=[] then 0 else ks.foldl (λm k=>max m (nM L k)) 0
theorem Ha(L:List Int)(x:Int):∀(ks:List Int) (m:Int),ks.foldl (λm k=>max m (nM L k)) m<=x<->m<=x/\∀k∈ks,nM L k<=x
 | [],m=>by simp
 | k::ks,m=>by rw[jg,Ha L x ks];simp only[aq,forall_eq_or_imp,Int.max_le];exact⟨λ⟨⟨a,b⟩,c⟩=>⟨a,b,c⟩,λ⟨a,b,c⟩=>⟨⟨a,b⟩,c⟩⟩
theorem Aau(L:List Int)(k:Int):0<=nM L k/\nM L k<=5:=by unfold nM;omega
theorem Xn(L ks:List Int):0<=Ty L ks/\Ty L ks<=5:=by
 unfold Ty;split
 ·decide
 ·have h1:=((Ha L (ks.foldl (λm k=>max m (nM L k)) 0) ks 0).1 (Int.le_refl _)).1;have h2:=(Ha L 5 ks 0).2 ⟨by decide,λk _=>(Aau L k).2⟩;exact⟨h1,h2⟩
theorem K8{L ks ks':List Int}(h:∀k∈ks,k∈ks'):Ty L ks<=Ty L ks':=by
 unfold Ty;split
 ·exact Int.le_refl _
 ·have h1:=(Ha L (ks'.foldl (λm k=>max m (nM L k)) 0) ks' 0).1 (Int.le_refl _);exact(Ha L _ ks 0).2 ⟨h1.1,λk hk=>h1.2 k (h k hk)⟩
theorem UZ{L ks ks':List Int}(h:∀k,k∈ks<->k∈ks'):Ty L ks=Ty L ks':=Int.le_antisymm (K8 λk hk=>(h k).1 hk) (K8 λk hk=>(h k).2 hk)
noncomputable def G8(o:List Cl)(L:List Int)(c:Int):Int:=Ty L (Xk o c)
theorem U1(G:Rgt o)(L:List Int){x:Cl}(hx:x∈o){s:Int×Int}(hs:s∈x.sd):G8 o L s.1<=G8 o L x.id:=by refine K8 λk hk=>?_;rw[cloL_mem]at hk ⊢;refine⟨hk.1,Rch.trans (Rch.step (Rch.refl _) ?_) hk.2⟩;unfold Xl;rw[De G.nd hx];exact ad.2 ⟨s,hs,Y⟩
noncomputable def Hw(o:List Cl)(L:List Int)(f:Int)(n:Nat):List (Int×Int):=(o.take n).map λx=>(x.id,G8 o L x.id*f)
theorem Abz(G:Rgt o)(L:List Int)(f:Int)(hf:0<=f/\f<=1000):Y1 o (Hw o L f o.length):=by
 have hb:∀c,0<=G8 o L c/\G8 o L c<=5:=λc=>Xn _ _;have hm:∀a b:Int,a<=b->a*f<=b*f:=λa b h=>Int.mul_le_mul_of_nonneg_right h hf.1
 have:=Yb G (λc=>G8 o L c*f) (λy _=>by
  have h1:=hb y.id;have h2:=hm 0 _ h1.1;have h3:=hm _ 5 h1.2
  constructor<;>omega) λx hx s hs=>hm _ _ (U1 G L hx hs)
 unfold Hw
 rwa [ct]
end
section
theorem R3(A:List Ce)(v vq:Value)(c0:Int)(hp:Hp)(F:RgtF (A.map Ce.c))(hc:c0∈(A.map Ce.c).map Cl.id)(hR:RdL cC 3 hp [] v A)(hAs:∀a∈A,RdL cD 2 hp [] a.v a.c.sd)(hq:RdL cI 1 hp [] vq [c0]):FnT Tryz.prog 119 #[v,vq] hp [] (λr h' ms'=>hp.le h'/\∃m M,ms'=[m]/\OwnL cB 1 4 m r M/\ReI (A.map Ce.c) c0 M []):=by
 have o1:=hR.rd.one;have o2:=hq.rd.one;have G:=F.rgt;obtain⟨o,ho⟩:∃o,A.map Ce.c=o:=⟨_,Y⟩
 rw[ho]at F G hc;rw[ho];have hAl:A.length=o.length:=by rw[<-ho,af]
 have hol:o.length<=4000:=G.n;have hge:∀i (hi:i<A.length),o[i]'ω=A[i].c:=λi hi=>by subst ho;simp
 refine Au func119 ntmps119 rfl rfl (λw0 hw0=>?_);simp only[A6];refine Aq (Qm rfl (BM (Qm rfl (Qx (As hR.rd.any rfl Bm rfl) rfl (CL (n:=_) rfl RA Xe rfl rfl rfl (by rfl) (by rfl) ω ω rfl rfl rfl (λg11=>Qm rfl (Am ?_)))))));have hM0:=S7 g11 A.length ω;refine Aq ?_;refine AB [] [] [] rfl AN A0 rfl ω κ (by repeat (first|exact ff|refine⟨⟨by first|rfl|exact(hR.rd.any).cells|exact Rd.cells ‹_›|exact(RdL.rd ‹_›).cells,rfl,rfl⟩,?_⟩)) rfl rfl rfl rfl (λg12=>?_);refine Qm rfl ?_;refine Mo 0 (DK g12 Bi).q hq.any rfl AN A0 rfl ω rfl rfl rfl (λa _=>B5 a) (by(simp;done)) (by(simp;done)) rfl rfl rfl (λv6 m6 hO6=>?_);have hI0:=ReI.start o c0;have hr0:UB (replicate o.length false) [c0]<=300000:=by unfold UB;rw[List.count_replicate_self];simp;omega
 refine Qm Y (Am (Ac (Ag ?_)))
 refine Ay (λq sl h' ms'=>∃(M:List Bool) (Q:List Int) (m5 m6:Hp) (v6:Value),q=UB M Q/\sl=[(0,v),(4,.nl),(5,.slice (some ⟨g11,0,none⟩) A.length A.length),(6,v6)]/\hp=h'/\ms'=[m6,m5]/\UB M Q<=300000/\ReI o c0 M Q/\OwnL cB 1 4 m5 (.slice (some ⟨g11,0,none⟩) A.length A.length) M/\OwnQ cI 1 3 m6 v6 Q)
  _ _ ⟨replicate o.length false,[c0],_,_,_,rfl,rfl,rfl,rfl,hr0,hI0,by rw[<-hAl];exact hM0,hO6⟩ Qs ?_
 rintro q sl h' ms' ⟨M,Q,m5,m6,v6,rfl,rfl,rfl,rfl,hr,hI,hO5,hO6⟩;have ov6:=hO6.o1;refine Ac (Aq (Qm Y (Qx (As (hO6.rd (h:=hp) (ms:=[m6,m5]) Mh).rd Y AN Y) Y (Qm Y (Am ?_)))));refine Ao Y (λhql=>?_) (λhql=>?_)
 ·obtain⟨x,Q,rfl⟩:∃x Q',Q=x::Q':=by
   cases Q with
   | nil=>simp at hql
   | cons x Q'=>exact⟨x,Q',Y⟩
  have cq:Cell hp [m6,m5] ((AG v6).add (0*1)) (.w x):=(hO6.rd (h:=hp) (ms:=[m6,m5]) Mh).cell0 (j:=0) σ rfl;obtain⟨y,hy,ey⟩:=hI.mem G hc (hI.rQ x Mh);obtain⟨hat,hgk⟩:=H9 F.inc hy;rw[ey]at hat hgk;obtain⟨k,hk⟩:∃k:Nat,JL o x=k:=⟨_,(fd hat).symm⟩
  rw[hk,de]at hgk;have hko:k<o.length:=by have:=IG o x;omega
  have hkA:k<A.length:=ω
  have hkM:k<M.length:=by rw[hI.len];exact hko
  have hkid:(o.getD k default).id=x:=by rw[hgk,ey]
  refine Ah (Ad (Ag (Aq (Qm Y (Qm Y (Qx (AA 0 (hO6.rd (h:=hp) (ms:=[m6,m5]) Mh).rd Y AN A0 Y Y Y ω) Y (Ql Y U3 (cq) ?_)))))));refine Qx (AH Y call117 Y ((by have:=WM A v x hp ω (by rw[ho];exact F.inc.imp λh=>Int.le_of_lt h) hR [m6,m5];rwa [ho,hk]at this))) rfl ?_;refine Qm Y (BM (Qm Y (Qx (C3 1 (hO6.rd (h:=hp) (ms:=[m6,m5]) Mh).rd Y AN A0 Y Y Y σ) rfl (Qm rfl (Am ?_)))));have hO6:=hO6.tail;obtain⟨w6,hw6⟩:∃w,Cj 1 v6 1 (Q.length+1)=w:=⟨_,Y⟩
  simp only[ef,hw6]at hO6 ⊢;have ov6:=hO6.o1;have cb:∀ms,m5∈ms->Cell hp ms ((AG (.slice (some ⟨g11,0,none⟩) A.length A.length)).add (k*1)) (.bool M[k]):=λms hm=>(hO5.rd hm).cell0 hkM Y;refine Ac (Aq (Qm Y (Qm Y (Qm Y ?_))));refine AL (t:=27) Y (λhs=>?_) (λhs=>?_)
  ·omega
  ·refine Qg (Ar Y Y) Y (Qg (Ar Y Y) Y (Qg (Co (k) Y RA Xe Y Y ω ω) Y (Qg (oL Y U4 (cb _ (.tail _ (.head _)))) Y (Qm Y (Am ?_)))));refine BG Y (λhb=>?_) (λhb=>?_)
   ·have hmk:MkC o M x:=⟨k,hko,hkid,by rw[show M.getD k false=M[k] by simp[List.getD,hkM]];exact hb⟩
    have hlt:=Wv M x Q;refine Av (Aa (Af ?_));exact Al (UB M Q) _ hlt ⟨M,Q,m5,m6,w6,Y,Y,Y,Y,ω,hI.skip hmk,hO5,hO6⟩ Qs
   ·have hmf:M.getD k false=false:=by rw[show M.getD k false=M[k] by simp[List.getD,hkM]];exact hb
    obtain⟨z,hz⟩:∃z,A[k]=z:=⟨_,Y⟩
    have hzo:o.getD k default=z.c:=by rw[show o.getD k default=o[k] by simp[List.getD,hko],hge k hkA,hz]
    have hI':=hI.mark G hko hkid;rw[hzo]at hI';have hX:=hAs z (by rw[<-hz];exact ae hkA);have hzl:z.c.sd.length<=64:=by have:=(F.bds (ae hko)).2.1;rwa [hge k hkA,hz]at this
    have hlt:=XG (x:=x) (Q:=Q) (S:=z.c.sd.map Prod.fst) hkM hmf (by rw[af];omega);have hQl:Q.length<=300000:=by unfold UB at hr;rw[ef]at hr;omega
    have cx:∀ms,Cell hp ms (((AG v).add (k*3)).add 2) z.v:=λms=>by rw[<-hz];exact(hR.any (ms:=ms)).cell (j:=k) hkA (f:=2) Y
    refine Ah (Ad (Aq (Qm Y (Qm Y (Qx (Co (k) Y RA Xe Y Y ω ω) Y (Ca (F:=cB) (f:=λx=>.bool x) (a:=true) 1 k (λ_=>rfl) hO5 Y Xe Y Y Y Y hkM Y Y (λm7 hO7=>BM (Qm Y (Am (Ag ?_))))))))))
    refine Ay (λq sl h' ms'=>∃(j:Nat) (m6:Hp) (v6:Value),q=z.c.sd.length-j/\sl=[(0,v),(4,.nl),(5,.slice (some ⟨g11,0,none⟩) A.length A.length),(6,v6),(7,.w k),(8,.w j)]/\hp=h'/\ms'=[m6,m7]/\j<=z.c.sd.length/\OwnQ cI 1 3 m6 v6 (Q++(z.c.sd.take j).map Prod.fst))
     (z.c.sd.length-0) _ ⟨0,m6,w6,rfl,rfl,rfl,rfl,ω,by simpa using hO6⟩ Qs ?_
    rintro q sl h' ms' ⟨j,m6,v6,rfl,rfl,rfl,rfl,hj,hO6⟩;have ov6:=hO6.o1;have hql:(Q++(z.c.sd.take j).map Prod.fst).length<=400000:=by rw[ag,af,av];omega
    refine Ac (Aq (Qm Y (Qm Y (Qm Y (Qx (AA _ hR.rd.any Y Bm AI Y Y Y ω) Y (Qf BI Y (Ql Y Cf (cx _) (Qx (As hX.rd.any Y Cf Y) Y (Qm Y (Am ?_))))))))));refine Ao Y (λhjl=>?_) (λhjl=>?_)
    ·have hjn:j<z.c.sd.length:=ω
     obtain⟨s,hs⟩:∃s,z.c.sd[j]=s:=⟨_,Y⟩
     have cs:∀ms,Cell hp ms (((AG z.v).add (j*2)).add 0) (.w s.1):=λms=>by
      have:Seg hp ms ((AG z.v).add (j*2)) (cD s):=by rw[<-hs];exact(hX.any (ms:=ms)).seg hjn
      exact this 0 _ Y
     refine Ah (Ad (Ac (Ag (Ab (Qm Y (Qm Y (Qm Y (Qx (BN (k) hR.rd.any Y Bm AI Y Y) Y (Qf BI Y (Ql Y Cf (cx _) (Qm Y (Qx (BN (j) hX.rd.any Y Cf AS Y Y) Y (Qf Cm Y (Ql Y U3 (cs _) (Aw [_] Y AN A0 Y (by rfl) Y Y ω Y Y Y (λg56=>Mo 1 hO6 (RdL.one Bi (x:=s.1) Mh Y) Y AN A0 Y ω Y Y Y (λa _=>B5 a) (by(try simp only[ab]);omega) (by(try simp only[ab]);omega) rfl rfl rfl (λv9 m9 hO9=>?_)))))))))))))))));have ov9:=hO9.o1;refine Qm Y (Ak (Ai (Ad (Ab (Qm Y (Qx (oA Y) Y (Qm Y (Ak (AX ?_)))))))));exact Al (z.c.sd.length-(j+1)) _ ω ⟨j+1,m9,v9,Y,Y,Y,Y,ω,by rw[ak hjn,bm,<-bp,hs];exact hO9⟩ Qs
    ·obtain rfl:j=z.c.sd.length:=ω
     rw[ct]at hO6;refine Av (Aa (Aa (Af (Ai ?_))));exact Al (UB (M.set k true) (Q++z.c.sd.map Prod.fst)) _ hlt ⟨M.set k true,Q++z.c.sd.map Prod.fst,m7,m6,v6,Y,Y,Y,Y,ω,hI',hO7,hO6⟩ Qs
 ·obtain rfl:Q=[]:=by
   cases Q with
   | nil=>rfl
   | cons x Q'=>simp at hql
  refine Av (Aa (Aa (Af (Ad (Aq (Qm Y (Qm Y (Am (An (AX ?_))))))))));exact Ap Y Y (⟨Da,m5,M,Y,hO5,hI⟩)
theorem P9(l:List Ce)(v vq:Value)(c0:Int)(hp:Hp)(hK:RgC l)(hR:RdC hp v l)(hq:RdL cI 1 hp [] vq [c0])(hc:c0∈(cn l).map Cl.id):FnT Tryz.prog 50 #[.agg #[v],vq] hp [] (λr h' ms'=>hp.le h'/\∃m M,ms'=[m]/\OwnL cI 1 3 m r (J1 (cn l) M (cn l).length)/\ReI (cn l) c0 M []):=by
 have o1:=hR.q.rd.one;have o2:=hq.rd.one;have hln:=hK.r.n;rw[af]at hln;refine Au func50 ntmps50 Y Y (λw0 hw0=>?_);simp only[A6];refine Aq (AP [_] Y Y (by rfl) Y Y Y (λg2=>Qm Y (Am (Bj 0 Y λh1 l1 hS=>?_))));have hR:=hR.up l1;have hq:=hq.up l1;refine Aq (Qx (oG Y CS A8 (Seg.any hS)) Y (Qc call49 Y (Fa l v h1 hK.r.cs hR) (λrC h2 ms2 l2 hF=>?_)));obtain⟨l2',mC,A,rfl,hOC,hA,hAs⟩:=hF;rw[Et hK.r]at hA;obtain⟨o,ho⟩:∃o,cn l=o:=⟨_,Y⟩
 have hA:A.map Ce.c=o:=by rw[hA,<-ho];rfl
 have F:RgtF o:=by rw[<-ho];exact hK.F
 have G:=F.rgt;rw[ho]at hc;rw[ho];have hAl:A.length=o.length:=by rw[<-hA,af]
 have hol:o.length<=4000:=G.n;have oC:=hOC.o1;refine Qm Y (Am (A9 hOC λh3 l3 hQ=>?_));have hAs:∀a∈A,RdL cD 2 h3 [] a.v a.c.sd:=λa ha=>(hAs a ha).up l3;have l13:=AE l2' l3;have hge:∀i (hi:i<A.length),o[i]'ω=A[i].c:=λi hi=>by subst hA;simp
 refine Aq (Qm Y (Qm Y ?_));refine Qc call119 Y (R3 A rC vq c0 h3 (by rw[hA];exact F) (by rw[hA];exact hc) hQ hAs (hq.up l13)) (λrM h4 ms4 l4 hF=>?_);obtain⟨l4',mM,M,rfl,hOM,hI⟩:=hF;rw[hA]at hI;have oM_:=hOM.o1;have hQ:=hQ.up l4';refine Qm Y (Am (A9 hOM λh5 l5 hB=>?_));have hQ:=hQ.up l5;refine Aq (Qm Y (Am (Ac (Aq (Qm Y (Am (Ag (BT ?_))))))))
 refine Ay (λq sl h' ms'=>∃(i:Nat) (v7:Value) (m:Hp),q=A.length-i/\sl=[(4,.nl),(5,rC),(6,rM),(7,v7),(8,.w i)]/\h5=h'/\ms'=[m]/\i<=A.length/\OwnL cI 1 3 m v7 (J1 o M i))
  (A.length-0) _ ⟨0,_,Hp.emp,rfl,rfl,rfl,rfl,ω,OwnL.nil Bi⟩ Qs ?_
 rintro q sl h' ms' ⟨i,v7,m7,rfl,rfl,rfl,rfl,hi,hO7⟩;have ov7:=hO7.o1;refine Ac (Aq (Qm Y (Qm Y (Qx (As hQ.rd.any Y Bm Y) Y (Qm Y (Am ?_))))));refine Ao Y (λhlt=>?_) (λhlt=>?_)
 ·have hil:i<A.length:=ω
  have hio:i<o.length:=ω
  have hiM:i<M.length:=by rw[hI.len];exact hio
  obtain⟨x,hx⟩:∃x,A[i]=x:=⟨_,Y⟩
  have hxo:o.getD i default=x.c:=by rw[show o.getD i default=o[i] by simp[List.getD,hio],hge i hil,hx]
  have cb:∀ms,Cell h5 ms ((AG rM).add (i*1)) (.bool M[i]):=λms=>(hB.any (ms:=ms)).cell0 hiM Y;have cx:∀ms,Cell h5 ms (((AG rC).add (i*3)).add 0) (.w x.c.id):=λms=>by rw[<-hx];exact(hQ.any (ms:=ms)).cell (j:=i) hil (f:=0) Y
  have hk:=Uv o M i;rw[hxo,show M.getD i false=M[i] by simp[List.getD,hiM]]at hk
  have hfl:(J1 o M i).length<=4000:=by unfold J1;rw[af];exact dc (dp _ _) (by rw[ip];omega)
  refine Ah (Ad (Ac (Ag (Aq (Qm Y (Qm Y (Qx (BN (i) hB.rd.any Y RA Xe Y Y) Y (Ql Y U4 (cb _) (Am ?_)))))))));refine BG Y (λhb=>?_) (λhb=>?_)
  ·rw[hb,ac rfl]at hk;refine Ab (Qm Y (Qm Y (Qm Y (Qx (BN (i) hQ.rd.any Y Bm AI Y Y) Y (Qf Bq Y (Ql Y U3 (cx _) (Aw [_] Y AN A0 Y (by rfl) Y Y ω Y Y Y (λg30=>AU 1 hO7 (RdL.one Bi (x:=x.c.id) Mh Y) Y AN A0 Y ω Y Y Y B5 (by(try simp only[ab]);omega) (by(try simp only[ab]);omega) rfl rfl rfl (λv9 m9 hO9=>?_)))))))));rw[<-hk]at hO9;have ov9:=hO9.o1;refine Qm Y (Ak (Ai (Ad (Ab (Qm Y (Qx (oA Y) Y (Qm Y (Ak (AX ?_)))))))));exact Al (A.length-(i+1)) _ ω ⟨i+1,v9,m9,Y,Y,Y,Y,ω,hO9⟩ Qs
  ·rw[hb,aa δ,eo]at hk;refine Ah (Ai (Ad (Ab (Qm Y (Qx (oA Y) Y (Qm Y (Ak ?_)))))));exact Al (A.length-(i+1)) _ ω ⟨i+1,v7,m7,Y,Y,Y,Y,ω,by rw[hk];exact hO7⟩ Qs
 ·obtain rfl:i=A.length:=ω
  refine Av (Aa (Aa (Af (Ad (Aq (Qm Y (Qm Y (Am (An ?_)))))))));exact Ap Y Y (⟨AE l1 (AE l13 (AE l4' l5)),m7,M,Y,by rw[hAl]at hO7;exact hO7,hI⟩)
variable {L:List Int}
theorem QZ{α:Type}{F:α->List Value}{h:Hp}{g:Nat}{x:α}(n:Nat)(hF:∀x,(F x).length=n)(hS:Seg h [] ⟨g,0,none⟩ (F x)):RdL F n h [] (.slice (some ⟨g,0,none⟩) 1 1) [x]:=
 ⟨⟨some ⟨g,0,none⟩,1,rfl,au _,by decide,by rw[Bv hF],λ_=>⟨_,rfl,by simpa using hS⟩⟩,hF⟩
theorem Zy(ks:List Int):Ty [] ks=0:=by unfold Ty;rw[ac rfl]
def Zj(L ks:List Int)(j:Nat):Int:=(ks.take j).foldl (λm k=>max m (nM L k)) 0
theorem V8{ks:List Int}{j:Nat}(hj:j<ks.length):Zj L ks (j+1)=max (Zj L ks j) (nM L ks[j]):=by unfold Zj;rw[ak hj,List.foldl_append];rfl
theorem Z5{ks:List Int}(h:L≠[]):Zj L ks ks.length=Ty L ks:=by unfold Zj Ty;rw[aa h,ct]
theorem AbA(L ks:List Int)(j:Nat):0<=Zj L ks j/\Zj L ks j<=5:=by have h1:=((Ha L (Zj L ks j) (ks.take j) 0).1 (Int.le_refl _)).1;have h2:=(Ha L 5 (ks.take j) 0).2 ⟨by decide,λk _=>(Aau L k).2⟩;exact⟨h1,h2⟩
theorem ZJ{o:List Cl}{M:List Bool}{n:Nat}(hn:n<=o.length):∀y∈J1 o M n,∃x∈o,x.id=y:=λy hy=>by unfold J1 at hy;obtain⟨k,hk,rfl⟩:=ad.1 hy;have:=bi.1 (br.1 hk).1;exact⟨_,Es ω,Y⟩
theorem RT{o:List Cl}{f:Int}{i:Nat}(hi:i<o.length):Hw o L f (i+1)=Hw o L f i++[(o[i].id,G8 o L o[i].id*f)]:=by unfold Hw;rw[ak hi,bm];rfl
theorem TN(l:List Ce)(v vL:Value)(L:List Int)(f:Int)(hp:Hp)(hK:RgC l)(hR:RdC hp v l)(hL:RdL cI 1 hp [] vL L)(hLb:∀x∈L,BS x)(hf:0<=f/\f<=1000):FnT Tryz.prog 14 #[.agg #[v],vL,.int .i64 f] hp [] (λr h' ms'=>hp.le h'/\∃m,ms'=[m]/\OwnL cV 2 47 m r (Hw (cn l) L f (cn l).length)):=by
 have o1:=hR.q.rd.one;have o2:=hL.rd.one;have hln:=hK.r.n;rw[af]at hln;refine Au func14 ntmps14 Y Y (λw0 hw0=>?_);simp only[A6];refine Aq (AP [_] Y Y (by rfl) Y Y Y (λg3=>Qm Y (Am (Bj 0 Y λh1 l1 hS=>?_))));have hR:=hR.up l1;have hL:=hL.up l1;refine Aq (Qm Y (BM (Qx (oG Y CS A8 (Seg.any hS)) Y (Qc call49 Y (Fa l v h1 hK.r.cs hR) (λrC h2 ms2 l2 hF=>?_)))));obtain⟨l2',mC,A,rfl,hOC,hA,hAs⟩:=hF;rw[Et hK.r]at hA;obtain⟨o,ho⟩:∃o,cn l=o:=⟨_,Y⟩
 have hA:A.map Ce.c=o:=by rw[hA,<-ho];rfl
 have F:RgtF o:=by rw[<-ho];exact hK.F
 have G:=F.rgt;rw[ho];have hAl:A.length=o.length:=by rw[<-hA,af]
 have hol:o.length<=4000:=G.n;have oC:=hOC.o1;refine Qm Y (Am (A9 hOC λh3 l3 hQ=>?_));have l13:=AE l2' l3;have hge:∀i (hi:i<A.length),o[i]'ω=A[i].c:=λi hi=>by subst hA;simp
 refine Ac (Aq (Qm Y (Am (Ag (BT ?_)))))
 refine Ay (λq sl h' ms'=>∃(i:Nat) (v7:Value) (m:Hp),q=A.length-i/\sl=[(1,vL),(2,.w f),(3,.pt g3),(6,.nl),(7,v7),(8,rC),(9,.w i)]/\h3.le h'/\ms'=[m]/\i<=A.length/\OwnL cV 2 47 m v7 (Hw o L f i))
  (A.length-0) _ ⟨0,_,Hp.emp,rfl,rfl,Da,rfl,ω,OwnL.nil Og⟩ Qs ?_
 rintro q sl h4 ms' ⟨i,v7,m7,rfl,rfl,l4,rfl,hi,hO7⟩;have ov7:=hO7.o1;have hQ:=hQ.up l4;have hL:=hL.up (AE l13 l4);have hR:=hR.up (AE l13 l4);have hS:Seg h4 [] ⟨g3,0,none⟩ [v]:=hS.le (AE l13 l4);refine Ac (Aq (Qm Y (Qm Y (Qx (As hQ.rd.any Y Bm Y) Y (Qm Y (Am ?_))))));refine Ao Y (λhlt=>?_) (λhlt=>?_)
 ·have hil:i<A.length:=ω
  have hio:i<o.length:=ω
  obtain⟨x,hx⟩:∃x,A[i]=x:=⟨_,Y⟩
  have hxo:o[i]=x.c:=by rw[hge i hil,hx]
  have hxm:x.c∈o:=by rw[<-hxo];exact ae hio
  have cx:∀ms,Cell h4 ms (((AG rC).add (i*3)).add 0) (.w x.c.id):=λms=>by rw[<-hx];exact(hQ.any (ms:=ms)).cell (j:=i) hil (f:=0) Y
  refine Ah (Ad (Ac (Ag (Aq (Qm Y (Am (Ac (Bc 7 CT κ Y (AM (oG Y CS A8 (Seg.any hS)) Y Y (Wm Y (Wm Y (AM (BN (i) hQ.rd.any Y Bm AI Y Y) Y Y (Wf Bq Y (Wl Y U3 (cx _) (Ug (Ft [_] Y AN A0 Y (by rfl) Y Y ω) Y Y (HZ (λg27=>Ek λh5 l5 hS5=>?_)))))))))))))))));refine Qc call50 Y (P9 l v _ x.c.id h5 hK (hR.up l5) (QZ 1 Bi hS5) (by rw[ho];exact ad.2 ⟨_,hxm,Y⟩)) (λrK h6 ms6 l6 hF=>?_);obtain⟨l6',mK,M,rfl,hOK,hI⟩:=hF;rw[ho]at hOK hI;obtain⟨K,hKe⟩:∃K,J1 o M o.length=K:=⟨_,Y⟩
  rw[hKe]at hOK
  have hKl:K.length<=4000:=by rw[<-hKe];unfold J1;rw[af];exact dc (dp _ _) (by rw[ip];omega)
  have hKid:∀y∈K,0<=y:=λy hy=>by obtain⟨z,hz,rfl⟩:=ZJ (au _) y (by rw[hKe];exact hy);have:=G.pos z hz;omega
  have hKv:Ty L K=G8 o L x.c.id:=UZ λy=>by rw[<-hKe];exact WH G (ad.2 ⟨_,hxm,Y⟩) hI y
  have oK:=hOK.o1;refine Qm Y (Am (A9 hOK λh7 l7 hRK=>?_));have l47:=AE l5 (AE l6' l7);have hL:=hL.up l47;have hQ:=hQ.up l47;refine Bg (λsl h' ms'=>sl=[(1,vL),(2,.w f),(3,.pt g3),(6,.nl),(7,v7),(8,rC),(9,.w i),(10,.w (G8 o L x.c.id))]/\h7=h'/\ms'=[m7]) ?_ (λs h ms hI=>?_)
  ·refine Ac (Ab (Qm Y (Am (Ag ?_))))
   refine Ay (λq sl h' ms'=>∃(j:Nat) (w:Int),q=K.length-j/\sl=[(1,vL),(2,.w f),(3,.pt g3),(6,.nl),(7,v7),(8,rC),(9,.w i),(10,.w w),(11,rK),(12,.w j)]/\h7=h'/\ms'=[m7]/\j<=K.length/\(L=[]->w=0)/\(L≠[]->w=Zj L K j))
    (K.length-0) _ ⟨0,0,rfl,rfl,rfl,rfl,ω,λ_=>rfl,λ_=>rfl⟩ Qs ?_
   rintro q sl h' ms' ⟨j,w,rfl,rfl,rfl,rfl,hj,hw0,hw1⟩
   have hwb:0<=w/\w<=5:=by
    by_cases e:L=[]
    ·rw[hw0 e];decide
    ·rw[hw1 e];exact AbA _ _ _
   have hLl:=hL.len_le
   have hend:(j=K.length\/L=[])->w=G8 o L x.c.id:=λh=>by
    rw[<-hKv];by_cases e:L=[]
    ·rw[hw0 e,e,Zy]
    ·rw[hw1 e,h.resolve_right e,Z5 e]
   refine Ac (Aq (Qm Y (Qm Y (Qx (As hRK.rd.any Y AN Y) Y (Qm Y (Qm Y ?_))))));refine AL (t:=33) Y (λhs=>?_) (λhs=>?_)
   ·refine Qg (Ar Y Y) Y (Qg (As hL.rd.any Y AN Y) Y (Qg (Ct Y Y Y) Y (Qm Y (Am ?_))));refine Ao Y (λhLn=>?_) (λhLn=>?_)
    ·have hL0:L≠[]:=λe=>by rw[e]at hLn;simp at hLn
     have hLp:0<L.length:=by
      cases L with
      | nil=>exact jt Y hL0
      | cons=>simp
     have hjn:j<K.length:=ω
     have hK0:=hKid _ (ae hjn);obtain⟨r,hr⟩:∃r:Nat,K[j]%(L.length:Int)=r:=⟨(K[j]%(L.length:Int)).toNat,by rw[fd (co _ ω)]⟩
     have hrl:r<L.length:=by have:=bw K[j] (show(0:Int)<L.length by omega);omega
     have hn:nM L K[j]=L[r]%6:=by unfold nM;rw[hr,de];simp[List.getD,hrl]
     have hw:=hw1 hL0;have ck:∀ms,Cell h7 ms ((AG rK).add (j*1)) (.w K[j]):=λms=>(hRK.any (ms:=ms)).cell0 hjn Y;have cl:∀ms,Cell h7 ms ((AG vL).add (r*1)) (.w L[r]):=λms=>(hL.any (ms:=ms)).cell0 hrl Y;refine Ah (Ad (Ac (Ag (Ab (Qm Y (Qm Y (Qm Y (Qm Y (Qx (BN (j) hRK.rd.any Y AN A0 Y Y) Y (Ql Y U3 (ck _) (Qm Y (Qx (As hL.rd.any Y AN Y) Y (Qx (BH Y Y Y hK0 ω) Y (Qx (BN (r) hL.rd.any Y AN A0 Y Y) Y (Ql Y U3 (cl _) (Qx (AH Y call34 Y (D0 L[r] 6 (hLb _ (ae hrl)) δ h7 [m7])) Y (Qx (GU Y Y Y) Y (Qm Y (Ak (Ai (Ad (Ab (Qm Y (Qx (oA Y) Y (Qm Y (Ak ?_))))))))))))))))))))))))));exact Al (K.length-(j+1)) _ ω ⟨j+1,max w (L[r]%6),Y,Y,Y,Y,ω,λe=>jt e hL0,λ_=>by rw[V8 hjn,hn,hw]⟩ Qs
    ·have hL0:L=[]:=by
      cases L with
      | nil=>rfl
      | cons=>simp at hLn
     obtain rfl:w=G8 o L x.c.id:=hend (.inr hL0);refine Av (Aa (Aa (Af ?_)));exact Az _ ⟨Y,Y,Y⟩ Qs
   ·obtain rfl:w=G8 o L x.c.id:=hend (.inl ω);refine Qk Y (Qk Y (Qk Y (Qm Y (Am (AQ Y (Av (Aa (Aa (Af ?_)))))))));exact Az _ ⟨Y,Y,Y⟩ Qs
  ·obtain⟨rfl,rfl,rfl⟩:=hI;have hvb:0<=G8 o L x.c.id/\G8 o L x.c.id<=5:=Xn _ _
   have hpb:-9223372036854775808<=G8 o L x.c.id*f/\G8 o L x.c.id*f<=9223372036854775807:=by have h1:0<=G8 o L x.c.id*f:=dt hvb.1 hf.1;have h2:G8 o L x.c.id*f<=5*f:=Int.mul_le_mul_of_nonneg_right hvb.2 hf.1;omega
   have hfl:(Hw o L f i).length<=4000:=by unfold Hw;rw[af,av];omega
   have cx7:∀ms,Cell h7 ms (((AG rC).add (i*3)).add 0) (.w x.c.id):=λms=>by rw[<-hx];exact(hQ.any (ms:=ms)).cell (j:=i) hil (f:=0) Y
   refine Ab (Qm Y (Qm Y (Qm Y (Qx (BN (i) hQ.rd.any Y Bm AI Y Y) Y (Qf Bq Y (Ql Y U3 (cx7 _) (Qm Y (Qm Y (Qx (oM Y hpb) Y (Qx (Bb WK [.w 0,.w 0] [(0,_),(1,_)] [_,_] Y Fv Y Y Qt Y) Y (Aw [_,_] Y OU Fv Y (by rfl) Y Y ω Y Y Y (λg63=>AU 1 hO7 (RdL.one Og (x:=(x.c.id,G8 o L x.c.id*f)) Mh Y) Y OU Fv Y ω Y Y Y Abb (by(try simp only[ab]);omega) (by(try simp only[ab]);omega) rfl rfl rfl (λv9 m9 hO9=>?_)))))))))))));have ov9:=hO9.o1;refine Qm Y (Ak (Ai (Ad (Ab (Qm Y (Qx (oA Y) Y (Qm Y (Ak (AX ?_)))))))));exact Al (A.length-(i+1)) _ ω ⟨i+1,v9,m9,Y,Y,AE l4 l47,Y,ω,by rw[RT hio,hxo];exact hO9⟩ Qs
 ·obtain rfl:i=A.length:=ω
  refine Av (Aa (Aa (Af (Ad (Aq (Qm Y (Qm Y (Am (An ?_)))))))));exact Ap Y Y (⟨AE l1 (AE l13 l4),m7,Y,by rw[hAl]at hO7;exact hO7⟩)
end
section
theorem Tm{P:Program}{d:Nat}(X Y:Array Value)(w:World):∀(fs:List Field) (os:List (TypeId×Nat×Bool)),fs.map (fun f=>(decide (f.name ≠ "_"),f.type,f.offset))=os.map (fun o=>(true,o.1,o.2.1))->(∀o∈os,P.plainKey o.1=true/\∃a b,X[o.2.1]?=some a/\Y[o.2.1]?=some b/\(Op.equalIn (d+1) o.1 a b).run P w=.ok o.2.2 w)->(Op.eqFields (d+1) X Y fs).run P w=.ok (os.all fun o=>o.2.2) w
 | [],[],_,_=>by simp[Op.eqFields]
 | [],o::os,h,_=>by simp at h
 | f::fs,[],h,_=>by simp at h
 | f::fs,o::os,h,hc=>by
  simp only[List.map_cons,List.cons.injEq,Prod.mk.injEq]at h;obtain⟨⟨h1,h2,h3⟩,h4⟩:=h;have ih:=Tm (d:=d) X Y w fs os h4 fun a ha=>hc a (bh _ ha);obtain⟨hp,a,b,c1,c2,he⟩:=hc o Mh;unfold Op.eqFields;rw[ac (bz h1),h2,h3];simp only[Sem.run_bind,run_part_plain w hp c1,run_part_plain w hp c2,Result.andThen_ok,he];cases e:o.2.2
  ·simp[e]
  ·simp[e,ih]
theorem Aa6:(Tryz.prog.fieldsOf 43).toList.map (λf=>(decide (f.name ≠ "_"),f.type,f.offset))=[(3,0),(3,1),(3,2),(4,3),(3,4),(3,5)].map (λo=>(true,o.1,o.2)):=by kernel_rfl
theorem pk3:Tryz.prog.plainKey 3=true:=by kernel_rfl
theorem pk4:Tryz.prog.plainKey 4=true:=by kernel_rfl
theorem AcH:Tryz.prog.eqGuardType Tryz.prog.depth 43=false:=by kernel_rfl
theorem Ach:Tryz.prog.underlying 43=some (.struct (Tryz.prog.fieldsOf 43)):=by kernel_rfl
theorem Acd:Tryz.prog.stoodInHeld 43=false:=by kernel_rfl
theorem S6{o:Oper}{s:AF}{h:Hp}{ms:List Hp}{x y:Operand}{u:TypeId}(a b:Br)(ho:o.op=.binOp .neq 43 x y u)(hx:ev s x=some (.agg (IJ a).toArray))(hy:ev s y=some (.agg (IJ b).toArray)):OX Tryz.prog o s h ms (.bool (decide (a≠b))):=
 BJ λρ w hρ _=>by
  have h1:(Op.equalIn 10000 43 (.agg (IJ a).toArray) (.agg (IJ b).toArray)).run Tryz.prog w=.ok (decide (a=b)) w:=by
   have h2:=Tm (P:=Tryz.prog) (d:=9998) (IJ a).toArray (IJ b).toArray w (Tryz.prog.fieldsOf 43).toList [(3,0,a.dim==b.dim),(3,1,a.birth==b.birth),(3,2,a.death==b.death),(4,3,a.opn==b.opn),(3,4,a.low==b.low),(3,5,a.high==b.high)] (by rw[Aa6];rfl) λo ho=>by
    simp only[aq,List.not_mem_nil,jf]at ho;rcases ho with rfl|rfl|rfl|rfl|rfl|rfl
    ·exact⟨pk3,_,_,Y,Y,run_equalIn_int w _ 3 .i64 .i64 _ _ U3⟩
    ·exact⟨pk3,_,_,Y,Y,run_equalIn_int w _ 3 .i64 .i64 _ _ U3⟩
    ·exact⟨pk3,_,_,Y,Y,run_equalIn_int w _ 3 .i64 .i64 _ _ U3⟩
    ·exact⟨pk4,_,_,Y,Y,run_equalIn_bool' w _ 4 _ _ U4⟩
    ·exact⟨pk3,_,_,Y,Y,run_equalIn_int w _ 3 .i64 .i64 _ _ U3⟩
    ·exact⟨pk3,_,_,Y,Y,run_equalIn_int w _ 3 .i64 .i64 _ _ U3⟩
   rw[run_equalIn_agg w 9999 43 _ _ Ach Acd,h2];congr 1;obtain⟨a1,a2,a3,a4,a5,a6⟩:=a;obtain⟨b1,b2,b3,b4,b5,b6⟩:=b;rw[Bool.eq_iff_iff,decide_eq_true_iff,Br.mk.injEq];show((a1==b1)&&((a2==b2)&&((a3==b3)&&((a4==b4)&&((a5==b5)&&((a6==b6)&&true))))))=true<->_;simp only[Bool.and_true,Bool.and_eq_true,beq_iff_eq]
  have e:(!decide (a=b))=decide (a≠b):=by simp
  simp only[execOp,ho,hρ _ _ hx,hρ _ _ hy];simp only[Sem.run_bind,run_eqGuard_agg w _ _ _ _ _ _ AcH,run_neq_struct,h1,e,Result.andThen_ok,Sem.run_pure]
theorem IE{a b:Nat}(h:(a:Int)<b):a<b:=ω
theorem PQ(a b:List Br)(va vb:Value)(h:Hp)(hA:RdL IJ 6 h [] va a)(hB:RdL IJ 6 h [] vb b)(ms:List Hp):FnV Tryz.prog 17 #[va,vb] h ms (.bool (decide (a=b))):=by
 refine DW ?_ ms;have la:=hA.len_le;have lb:=hB.len_le;refine Au func17 ntmps17 Y Y (λw0 hw0=>?_);simp only[A6];refine Aq (Qm Y (Am (Ac (Aq (Qm Y (Qx (As hA.rd.any Y Ku Y) Y (Qm Y (Qx (As hB.rd.any Y Ku Y) Y (Qm Y (Am ?_))))))))));refine Ao Y (λhne=>?_) (λhne=>?_)
 ·refine Ac (Ab (Qm Y (Am (An (Ae ?_)))));exact Ap Y Y (by rw[aj];intro e;rw[e]at hne;exact hne Y)
 ·have hl:a.length=b.length:=ω
  refine Ah (Ad (Ac (Aq (Qm Y (Am (Ag ?_))))))
  refine Ay (λq s h' ms'=>∃(k:Nat),q=a.length-k/\s=[(0,va),(1,vb),(5,.w k)]/\h=h'/\ms'=[]/\k<=a.length/\a.take k=b.take k)
   (a.length-0) _ ⟨0,rfl,rfl,rfl,rfl,ω,rfl⟩ Qs ?_
  rintro q s h' ms' ⟨k,rfl,rfl,rfl,rfl,hk,he⟩;refine Ac (Aq (Qm Y (Qm Y (Qx (As hA.rd.any Y Ku Y) Y (Qm Y (Am ?_))))));refine Ao Y (λhlt=>?_) (λhlt=>?_)
  ·have hka:k<a.length:=IE hlt;have hkb:k<b.length:=ω
   have ca:∀ms,Seg h ms ((AG va).add (k*6)) (IJ a[k]):=λms=>(hA.any (ms:=ms)).seg hka;have cb:∀ms,Seg h ms ((AG vb).add (k*6)) (IJ b[k]):=λms=>(hB.any (ms:=ms)).seg hkb;refine Ah (Ad (Ac (Ag (Ac (Bc 8 CT κ Y (Wm Y (Wm Y (AM (BN (k) hA.rd.any Y Ku D6 Y Y) Y Y (AM (oG Y U43 D6 (ca _)) Y Y (Wm Y (Wm Y (AM (BN (k) hB.rd.any Y Ku D6 Y Y) Y Y (AM (oG Y U43 D6 (cb _)) Y Y (A7 (Qx (S6 a[k] b[k] Y Y Y) Y (Am ?_))))))))))))))));refine Ao Y (λhne=>?_) (λhne=>?_)
   ·refine Ac (Ab (Qm Y (Am (An (Aj (Ae (Ae (Aj (Ae ?_)))))))));exact Ap Y Y (by rw[aj];rintro rfl;exact hne Y)
   ·refine Ah (Ai (Ad (Ab (Qm Y (Qx (oA Y) Y (Qm Y (Ak ?_)))))));refine Al (a.length-(k+1)) _ ω ⟨k+1,Y,Y,Y,Y,ω,?_⟩ Qs;rw[ib,ib,he,ah hka,ah hkb,iy.1 hne]
  ·obtain rfl:k=a.length:=ω
   refine Av (Aa (Aa (Af (Ad (Aq (Qm Y (Am (An ?_))))))));exact Ap Y Y (by rw[ct,hl,ct]at he;rw[ai he])
theorem KL(la lb:List Int)(va vb:Value)(h:Hp)(hA:RdL cI 1 h [] va la)(hB:RdL cI 1 h [] vb lb)(ms:List Hp):FnV Tryz.prog 44 #[va,vb] h ms (.bool (decide (la=lb))):=by
 refine DW ?_ ms;have l1:=hA.len_le;have l2:=hB.len_le;refine Au func44 ntmps44 Y Y (λw0 hw0=>?_);simp only[A6];refine Aq (Qm Y (Am (Ac (Aq (Qm Y (Qx (As hA.rd.any Y AN Y) Y (Qm Y (Qx (As hB.rd.any Y AN Y) Y (Qm Y (Am ?_))))))))));refine Ao Y (λhlen=>?_) (λhlen=>?_)
 ·refine Ac (Ab (Qm Y (Am (An (Ae ?_)))));exact Ap Y Y (by rw[aj];rintro rfl;exact hlen Y)
 ·have hlen:la.length=lb.length:=ω
  refine Ah (Ad (Ac (Aq (Qm Y (Am (Ag ?_))))))
  refine Ay (λq s h' ms'=>∃(k:Nat),q=la.length-k/\s=[(0,va),(1,vb),(5,.w k)]/\h=h'/\ms'=[]/\k<=la.length/\la.take k=lb.take k)
   (la.length-0) _ ⟨0,rfl,rfl,rfl,rfl,ω,rfl⟩ Qs ?_
  rintro q s h' ms' ⟨k,rfl,rfl,rfl,rfl,hk,hno⟩;refine Ac (Aq (Qm Y (Qm Y (Qx (As hA.rd.any Y AN Y) Y (Qm Y (Am ?_))))));refine Ao Y (λhlt=>?_) (λhlt=>?_)
  ·have k1:k<la.length:=ω
   have k2:k<lb.length:=ω
   have ca:∀ms,Cell h ms ((AG va).add (k*1)) (.w la[k]):=λms=>(hA.any (ms:=ms)).cell0 k1 Y;have cb:∀ms,Cell h ms ((AG vb).add (k*1)) (.w lb[k]):=λms=>(hB.any (ms:=ms)).cell0 k2 Y;refine Ah (Ad (Ac (Ag (Ac (Bc 8 CT κ Y (Wm Y (Wm Y (AM (BN (k) hA.rd.any Y AN A0 Y Y) Y Y (Wl Y U3 (ca _) (Wm Y (Wm Y (AM (BN (k) hB.rd.any Y AN A0 Y Y) Y Y (Wl Y U3 (cb _) (A7 (Qm Y (Am ?_))))))))))))))));refine Ao Y (λhne=>?_) (λhne=>?_)
   ·refine Ac (Ab (Qm Y (Am (An (Aj (Ae (Ae (Aj (Ae ?_)))))))));exact Ap Y Y (by rw[aj];rintro rfl;exact hne Y)
   ·refine Ah (Ai (Ad (Ab (Qm Y (Qx (oA Y) Y (Qm Y (Ak ?_)))))));refine Al (la.length-(k+1)) _ ω ⟨k+1,Y,Y,Y,Y,ω,?_⟩ Qs;rw[ib,ib,hno,ah k1,ah k2,iy.1 hne]
  ·refine Av (Aa (Aa (Af (Ad (Aq (Qm Y (Am (An ?_))))))));exact Ap Y Y (by rw[ai];rwa [io ω,io ω]at hno)
def R8(n:Nat):Nat:=if n%4=0 then 2 else if n%4=1 then 3 else if n%4=2 then 5 else 7
theorem AaK(n:Nat):IsP (R8 n:Int)/\(R8 n:Int)<256:=by
 unfold R8;split
 ·decide
 ·split
  ·decide
  ·split<;>decide
theorem UR(n:Nat)(hn:n<256)(h:Hp)(ms:List Hp):FnV Tryz.prog 18 #[.int .u8 n] h ms (.int .i64 (R8 n)):=by
 refine DW ?_ ms;obtain⟨z,hz⟩:∃z:Nat,(n:Int)%4=z:=⟨n%4,ω⟩
 have hz4:z<4:=ω
 have hc:([.w 2,.w 3,.w 5,.w 7]:List Value)[z]?=some (.w (R8 n)):=by
  have e:n%4=z:=ω
  unfold R8;rw[e];rcases (ω:z=0\/z=1\/z=2\/z=3) with rfl|rfl|rfl|rfl<;>rfl
 refine Au func18 ntmps18 Y Y (λw0 hw0=>?_);simp only[A6];refine Aq (Qm Y (BM (AB [(0,_),(1,_),(2,_),(3,_)] [.w 0,.w 0,.w 0,.w 0] [_,_,_,_] Y AN A0 Y ω κ Qt Y Y Y Y (λg3=>Qm Y (Qx (BH Y Y Y ω ω) Y (Qx (Co (z) Y AN A0 Y Y ω ω) Y ?_))))));refine Ql Y U3 (by exact Cell.blk 0 Y (by rw[jk];exact hc)) ?_;refine Qm Y (Am (An ?_));exact Ap Y Y (Y)
open Go.Lin
deriving instance DecidableEq for FM
theorem AbG(M N:FM)(ev eu:Value)(h:Hp)(hA:RdL cI 1 h [] ev M.e)(hB:RdL cI 1 h [] eu N.e)(ms:List Hp):FnV Tryz.prog 155 #[.agg #[.int .i64 M.p,.int .i64 M.rows,.int .i64 M.cols,ev],.agg #[.int .i64 N.p,.int .i64 N.rows,.int .i64 N.cols,eu]] h ms (.bool (decide (M=N))):=by
 refine DW ?_ ms;refine Au func155 ntmps155 Y Y (λw0 hw0=>?_);simp only[A6];refine Aq (AP [_,_,_,_] Y Y (by rfl) Y Y Y (λg2=>AP [_,_,_,_] Y Y (by rfl) Y Y Y (λg3=>Qm Y (Am (Ac (Aq (Qf Cz Y (Ql Y U3 (Cell.blk 1 Y Y) (Qf Cz Y (Ql Y U3 (Cell.blk 0 Y Y) (Qm Y (Qm Y ?_))))))))))));refine AL (t:=10) Y (λh1=>?_) (λh1=>?_)
 ·refine Qk Y (Qk Y (Qk Y (Qk Y (Qk Y (Qm Y (Qm Y (Qk Y (Qk Y (Qk Y (Qk Y (Qk Y (Qm Y (Am (A5 Y (Aq (Qm Y (Am (An (Ae ?_)))))))))))))))))));exact Ap Y Y (by rw[aj];rintro rfl;exact h1 Y)
 ·refine Qg (oF CQ Y) Y (Qg (oL Y U3 (Cell.blk 1 Y Y)) Y (Qg (oF CQ Y) Y (Qg (oL Y U3 (Cell.blk 0 Y Y)) Y (Qg (B8 Y Y Y) Y (Qm Y (Qm Y ?_))))));refine AL (t:=17) Y (λh2=>?_) (λh2=>?_)
  ·refine Qk Y (Qk Y (Qk Y (Qk Y (Qk Y (Qm Y (Am (A5 Y (Aq (Qm Y (Am (An (Ae ?_))))))))))));exact Ap Y Y (by rw[aj];rintro rfl;exact h2 Y)
  ·refine Qg (oF BU Y) Y (Qg (oL Y U3 (Cell.blk 1 Y Y)) Y (Qg (oF BU Y) Y (Qg (oL Y U3 (Cell.blk 0 Y Y)) Y (Qg (B8 Y Y Y) Y (Qm Y (Am ?_))))));refine Ao Y (λh3=>?_) (λh3=>?_)
   ·refine Ac (Ab (Qm Y (Am (An (Ae ?_)))));exact Ap Y Y (by rw[aj];rintro rfl;exact h3 Y)
   ·refine Ah (Ad (Aq (Qf Bl Y (Ql Y AN (Cell.blk 1 Y Y) (Qf Bl Y (Ql Y AN (Cell.blk 0 Y Y) (Qx (AH Y call44 Y (KL M.e N.e ev eu h hA hB _)) Y (Qm Y (Am (An ?_))))))))));exact Ap Y Y (by congr 1;rw[ft];obtain⟨a,b,c,d⟩:=M;obtain⟨a',b',c',d'⟩:=N;simp only[FM.mk.injEq]at *;exact⟨λhe=>⟨iy.1 h1,iy.1 h2,iy.1 h3,he⟩,λhe=>he.2.2.2⟩)
theorem Pd(a b:List Int)(va vb:Value)(h:Hp)(hA:RdL cI 1 h [] va a)(hB:RdL cI 1 h [] vb b)(ms:List Hp):FnV Tryz.prog 92 #[va,vb] h ms (.bool (decide (a=b))):=by
 refine DW ?_ ms;have la:=hA.len_le;have lb:=hB.len_le;have oa:=hA.rd.one;have ob:=hB.rd.one;refine Au func92 ntmps92 Y Y (λw0 hw0=>?_);simp only[A6];refine Aq (Qm Y (Am (Ac (Aq (Qm Y (Qx (As hA.rd.any Y AN Y) Y (Qm Y (Qx (As hB.rd.any Y AN Y) Y (Qm Y (Am ?_))))))))));refine Ao Y (λhne=>?_) (λhne=>?_)
 ·refine Ac (Ab (Qm Y (Am (An (Ae ?_)))));exact Ap Y Y (by rw[aj];intro e;rw[e]at hne;exact hne Y)
 ·have hl:a.length=b.length:=ω
  refine Ah (Ad (Ac (Aq (Qm Y (Qx (As hA.rd.any Y AN Y) Y (Qm Y (Am (Ag ?_))))))))
  refine Ay (λq s h' ms'=>∃(k:Nat),q=a.length-k/\s=[(0,va),(1,vb),(12,.w a.length),(13,.w k)]/\h=h'/\ms'=[]/\k<=a.length/\a.take k=b.take k)
   (a.length-0) _ ⟨0,rfl,rfl,rfl,rfl,ω,rfl⟩ Qs ?_
  rintro q s h' ms' ⟨k,rfl,rfl,rfl,rfl,hk,he⟩;refine Aq (Qm Y (Am (Ac ?_)));refine Ao Y (λhlt=>?_) (λhlt=>?_)
  ·have hka:k<a.length:=IE hlt;have hkb:k<b.length:=ω
   refine Ah (Ad (Ac (Ag (Aq (Qm Y (Qm Y (Am (Ac (Bc 8 CT κ Y (Wm Y (Wm Y (AM (BN (k) hA.rd.any Y AN A0 Y Y) Y Y (Wl Y U3 (hA.any.cell0 hka Y) (Wm Y (Wm Y (AM (BN (k) hB.rd.any Y AN A0 Y Y) Y Y (Wl Y U3 (hB.any.cell0 hkb Y) (A7 (Qm Y (Am ?_))))))))))))))))))));refine Ao Y (λhne=>?_) (λhne=>?_)
   ·refine Ac (Ab (Qm Y (Am (An (Aj (Ae (Ae (Aj (Ae ?_)))))))));exact Ap Y Y (by rw[aj];rintro rfl;exact hne Y)
   ·refine Ah (Ai (Ad (Ab (Qx (oA Y) Y (Qm Y (Ak ?_))))));refine Al (a.length-(k+1)) _ ω ⟨k+1,Y,Y,Y,Y,ω,?_⟩ Qs;rw[ib,ib,he,ah hka,ah hkb,iy.1 hne]
  ·obtain rfl:k=a.length:=ω
   refine Av (Aa (Aa (Af (Ad (Aq (Qm Y (Am (An ?_))))))));exact Ap Y Y (by rw[ct,hl,ct]at he;rw[ai he])
theorem VD(a b:List Br)(va vb:Value)(h:Hp)(hA:RdL IJ 6 h [] va a)(hB:RdL IJ 6 h [] vb b)(ms:List Hp):FnV Tryz.prog 96 #[va,vb] h ms (.bool (decide (a=b))):=by
 refine DW ?_ ms;have la:=hA.len_le;have lb:=hB.len_le;have oa:=hA.rd.one;have ob:=hB.rd.one;refine Au func96 ntmps96 Y Y (λw0 hw0=>?_);simp only[A6];refine Aq (Qm Y (Am (Ac (Aq (Qm Y (Qx (As hA.rd.any Y Ku Y) Y (Qm Y (Qx (As hB.rd.any Y Ku Y) Y (Qm Y (Am ?_))))))))));refine Ao Y (λhne=>?_) (λhne=>?_)
 ·refine Ac (Ab (Qm Y (Am (An (Ae ?_)))));exact Ap Y Y (by rw[aj];intro e;rw[e]at hne;exact hne Y)
 ·have hl:a.length=b.length:=ω
  refine Ah (Ad (Ac (Aq (Qm Y (Qx (As hA.rd.any Y Ku Y) Y (Qm Y (Am (Ag ?_))))))))
  refine Ay (λq s h' ms'=>∃(k:Nat),q=a.length-k/\s=[(0,va),(1,vb),(12,.w a.length),(13,.w k)]/\h=h'/\ms'=[]/\k<=a.length/\a.take k=b.take k)
   (a.length-0) _ ⟨0,rfl,rfl,rfl,rfl,ω,rfl⟩ Qs ?_
  rintro q s h' ms' ⟨k,rfl,rfl,rfl,rfl,hk,he⟩;refine Aq (Qm Y (Am (Ac ?_)));refine Ao Y (λhlt=>?_) (λhlt=>?_)
  ·have hka:k<a.length:=IE hlt;have hkb:k<b.length:=ω
   have ca:∀ms,Seg h ms ((AG va).add (k*6)) (IJ a[k]):=λms=>(hA.any (ms:=ms)).seg hka;have cb:∀ms,Seg h ms ((AG vb).add (k*6)) (IJ b[k]):=λms=>(hB.any (ms:=ms)).seg hkb;refine Ah (Ad (Ac (Ag (Aq (Qm Y (Qm Y (Am (Ac (Bc 8 CT κ Y (Wm Y (Wm Y (AM (BN (k) hA.rd.any Y Ku D6 Y Y) Y Y (AM (oG Y U43 D6 (ca _)) Y Y (Wm Y (Wm Y (AM (BN (k) hB.rd.any Y Ku D6 Y Y) Y Y (AM (oG Y U43 D6 (cb _)) Y Y (A7 (Qx (S6 a[k] b[k] Y Y Y) Y (Am ?_))))))))))))))))))));refine Ao Y (λhne=>?_) (λhne=>?_)
   ·refine Ac (Ab (Qm Y (Am (An (Aj (Ae (Ae (Aj (Ae ?_)))))))));exact Ap Y Y (by rw[aj];rintro rfl;exact hne Y)
   ·refine Ah (Ai (Ad (Ab (Qx (oA Y) Y (Qm Y (Ak ?_))))));refine Al (a.length-(k+1)) _ ω ⟨k+1,Y,Y,Y,Y,ω,?_⟩ Qs;rw[ib,ib,he,ah hka,ah hkb,iy.1 hne]
  ·obtain rfl:k=a.length:=ω
   refine Av (Aa (Aa (Af (Ad (Aq (Qm Y (Am (An ?_))))))));exact Ap Y Y (by rw[ct,hl,ct]at he;rw[ai he])
end
section
open Go.Lin Go.Sort Go.Srt
theorem IW{S S':List Ce}(h:S'.map Ce.c=S.map Ce.c):∀j,DO S' j=DO S j
 | 0=>rfl
 | j+1=>by have e:(S'.getD j default).c=(S.getD j default).c:=HU h j;unfold DO;rw[IW h j,e]
theorem LH{S S':List Ce}(h:S'.map Ce.c=S.map Ce.c)(p:Int)(j:Nat):C5 p S' j=C5 p S j:=by
 have e:(S'.getD j default).c=(S.getD j default).c:=HU h j;have el:S'.length=S.length:=by have:=aw List.length h;simpa using this
 unfold C5 D8 pl;rw[e,el,IW h]
section
variable {p:Int} {F:List (Int×Int)} {l S:List Ce} {R V:Nat->List Int}
def GP(p:Int)(S:List Ce)(a b:Nat):Int:=(C5 p S b).getD a 0
def EX(R:Nat->List Int)(a b:Nat):Int:=(R b).getD a 0
theorem PerH.rtR(H:PerH p F l S R V)(hl:S.length<=400):RtM p S.length S.length (EX R):=by obtain⟨la,A⟩:=H.P.all;exact⟨H.hp,hl,hl,λa _ b hb=>C8 (by have:=H.hp.1;omega) (A.red.rr b hb) a⟩
theorem PerH.rtV(H:PerH p F l S R V)(hl:S.length<=400):RtM p S.length S.length (EX V):=by obtain⟨la,A⟩:=H.P.all;exact⟨H.hp,hl,hl,λa _ b hb=>C8 (by have:=H.hp.1;omega) (A.red.vr b hb) a⟩
end
def Mx(R:Nat->List Int)(j n i:Nat):List Int:=(range n).map λa=>if a<i then EX R a j else 0
theorem HG(R:Nat->List Int)(j n i:Nat):(Mx R j n i).length=n:=by unfold Mx;simp
theorem KW(R:Nat->List Int)(j n i:Nat){a:Nat}(h:a<(Mx R j n i).length):(Mx R j n i)[a]=if a<i then EX R a j else 0:=by simp[Mx]
theorem UT(R:Nat->List Int)(j n:Nat):Mx R j n 0=replicate n 0:=by refine dq (by rw[HG,List.length_replicate]) λa h1 h2=>?_;rw[KW,List.getElem_replicate,aa ω]
theorem T8(R:Nat->List Int)(j n i:Nat):(Mx R j n i).set i (EX R i j)=Mx R j n (i+1):=by
 refine dq (by rw[List.length_set,HG,HG]) λa h1 h2=>?_;rw[List.getElem_set,KW,KW];by_cases e:i=a
 ·subst e;rw[ac rfl,ac ω]
 ·rw[aa e];by_cases h:a<i
  ·rw[ac h,ac ω]
  ·rw[aa h,aa ω]
theorem Ye(R:Nat->List Int)(j:Nat){n:Nat}(h:(R j).length=n):Mx R j n n=R j:=by refine dq (by rw[HG,h]) λa h1 h2=>?_;rw[KW,ac ω];unfold EX;simp[List.getD,h2]
end
section
theorem HJ:∀(l acc s:List Int),Ez acc l=some s->s.length<=acc.length+l.length
 | [],acc,s,e=>by have:acc=s:=di e;rw[<-this];exact Nat.le_add_right _ _
 | x::l,acc,s,e=>by
  unfold Ez at e;split at e
  ·have:=HJ l acc s e;rw[ef];omega
  ·split at e
   ·cases e
   ·have:=HJ l _ s e;rw[Pu]at this;rw[ef];omega
theorem Mb:∀(ll acc all:List (List Int)),(∀l∈ll,l.length<=4)->CW acc ll=some all->all.length<=acc.length+15*ll.length
 | [],acc,all,h,e=>by have:acc=all:=di e;rw[<-this];exact Nat.le_add_right _ _
 | l::ll,acc,all,h,e=>by
  rw[DX]at e;split at e
  ·cases e
  ·have h1:=Mb ll _ all (λx hx=>h x (bh _ hx)) e
   have h2:(UQ acc (Ez [] l)).length<=acc.length+15:=by
    cases hs:Ez [] l with
    | none=>exact Nat.le_add_right _ _
    | some s=>
     have h3:=HJ l [] s hs;have h4:=h l Mh;have h5:=Hb acc s (2^s.length-1);have h6:2^s.length<=16:=Nat.pow_le_pow_right (n:=2) (i:=s.length) (j:=4) δ (by simp at h3;omega);show(Dc acc s (2^s.length-1)).length<=_;omega
   rw[ef];omega
theorem Ww{ll:List (List Int)}(h:∀l∈ll,l.length<=4):(EO ll).length<=15*ll.length:=by
 unfold EO;cases e:CW [] ll with
 | none=>simp
 | some all=>have:=Mb ll [] all h e;simpa using this
theorem VX{all:List (List Int)}{s t:List Int}(h:t∈Iu all s):t=s\/t∈all:=by
 unfold Iu at h;split at h
 ·exact .inr h
 ·rcases bf.1 h with h|h
  ·exact .inr (List.mem_of_mem_take h)
  ·rcases aq.1 h with h|h
   ·exact .inl h
   ·exact .inr (jl h)
theorem MM{all:List (List Int)}{s:List Int}(h:∀t∈all,t.length<=4)(hs:s.length<=4):∀b,∀t∈Dc all s b,t.length<=4
 | 0,t,ht=>h t ht
 | b+1,t,ht=>by
  rcases VX ht with rfl|ht
  ·unfold ER;rw[af];exact dc (dp _ _) (by rw[ip];exact hs)
  ·exact MM h hs b t ht
theorem K4:∀(ll acc all:List (List Int)),(∀l∈ll,l.length<=4)->(∀l∈acc,l.length<=4)->CW acc ll=some all->∀l∈all,l.length<=4
 | [],acc,all,h,ha,e=>by have:acc=all:=di e;rw[<-this];exact ha
 | l::ll,acc,all,h,ha,e=>by
  rw[DX]at e;split at e
  ·cases e
  ·refine K4 ll _ all (λx hx=>h x (bh _ hx)) ?_ e;cases hs:Ez [] l with
   | none=>exact ha
   | some s=>exact MM ha (by have:=HJ l [] s hs;have:=h l Mh;simp at *;omega) _
theorem Vy{ll:List (List Int)}(h:∀l∈ll,l.length<=4):∀x∈EO ll,x.dim<=7:=by
 unfold EO;cases e:CW [] ll with
 | none=>nofun
 | some all=>
  intro x hx;obtain⟨i,hi,rfl⟩:=ad.1 hx;have hi:=bi.1 hi;have:=K4 ll [] all h nofun e _ (ae hi);show((all.getD i []).length:Int)-1<=7;rw[show all.getD i []=all[i] by simp[List.getD,hi]];omega
theorem N1(l:List Int)(v:Value)(hp:Hp)(hR:RdL cI 1 hp [] v l):FnT Tryz.prog 46 #[v] hp [] (λr h' ms'=>hp.le h'/\Rg h' r ms' (λo=>∃ll:List (List Int),ll.length<=l.length/\(∀s∈ll,s.length<=4)/\o=EO ll)):=by
 have ov:=hR.rd.one;refine Au func46 ntmps46 Y Y (λw0 hw0=>?_);simp only[A6];refine Aq (Cx [.nl] Y A8 Y Y (λg2=>BM (Qm Y (Am (Ac (Aq (Qm Y (Am (Ag (BT ?_))))))))))
 refine Ay (λq sl h' ms'=>∃(i:Nat) (v3:Value) (m3:Hp) (es:List Value) (ll:List (List Int)),q=12-i/\sl=[(0,v),(2,.pt g2),(3,v3),(4,.w i)]/\hp.le h'/\ms'=[m3,Bh g2 29 [.nl]]/\i<=12/\i<=l.length/\OwnL cW 1 22 m3 v3 es/\RdEs h' es ll/\ll.length=i/\∀s∈ll,s.length<=4)
  (12-0) _ ⟨0,_,Hp.emp,[],[],rfl,rfl,Da,rfl,ω,ω,OwnL.nil D5,RdEs.nil _,rfl,nofun⟩ Qs ?_
 rintro q sl h' ms' ⟨i,v3,m3,es,ll,rfl,rfl,lh,rfl,hi,hil,hO,hE,hll,h4⟩;have hR:=hR.up lh;have hel:=hE.1;have ov3:=hO.o1;refine Ac (Aq (Qm Y (Qm Y (Qx (As hR.rd.any Y AN Y) Y (Qm Y (Qm Y ?_))))));refine AL (t:=11) Y (λh1=>?_) (λh1=>?_)
 ·refine Qg (Ar Y Y) Y (Qg (DA Y Y Y) Y (Qm Y (Am ?_)));refine Ao Y (λh2=>?_) (λh2=>?_)
  ·have hin:i<l.length:=ω
   obtain⟨x,hx⟩:∃x,l[i]=x:=⟨_,Y⟩
   have cx:∀ms,Cell h' ms ((AG v).add (i*1)) (.w x):=λms=>by rw[<-hx];exact(hR.any (ms:=ms)).cell0 hin Y
   refine Ah (Ad (Ac (Ag (Aq (Qm Y (Am (BT ?_)))))));refine Bg (λsl h'' ms'=>∃(v5:Value) (m5:Hp) (s:List Int),sl=[(0,v),(2,.pt g2),(3,v3),(4,.w i),(5,v5)]/\h'=h''/\ms'=[m5,m3,Bh g2 29 [.nl]]/\OwnL cI 1 3 m5 v5 s/\s.length<=4) ?_ (λs h ms hI=>?_)
   ·refine Ac (Ab (Qm Y (Am (Ag ?_))))
    refine Ay (λq sl h'' ms'=>∃(j:Nat) (v5:Value) (m5:Hp) (s:List Int),q=6-j/\sl=[(0,v),(2,.pt g2),(3,v3),(4,.w i),(5,v5),(6,.w j)]/\h'=h''/\ms'=[m5,m3,Bh g2 29 [.nl]]/\j<=6/\OwnL cI 1 3 m5 v5 s/\s.length<=4)
     (6-0) _ ⟨0,_,Hp.emp,[],rfl,rfl,rfl,rfl,ω,OwnL.nil Bi,by simp⟩ Qs ?_
    rintro q sl h'' ms' ⟨j,v5,m5,s,rfl,rfl,rfl,rfl,hj,hO5,hs4⟩;have ov5:=hO5.o1;refine Ac (Aq (Qm Y (Qm Y (Qm Y ?_))));refine AL (t:=19) Y (λhj1=>?_) (λhj1=>?_)
    ·refine Qg (Ar Y Y) Y (Qg (ED (hO5.rd (h:=h') (ms:=[m5]) Mh).rd Y AN Y) Y (Qg (DA Y Y Y) Y (Qm Y (Am ?_))));refine Ao Y (λhj2=>?_) (λhj2=>?_)
     ·refine Ah (Ad (Ac (Ag (Aq (Qm Y (Qm Y (Qx (BN (i) hR.rd.any Y AN A0 Y Y) Y (Ql Y U3 (cx _) (Qm Y (Qx (YS (n:=j) Y Y Y ω) Y (Qx (Zl Y Y Y) Y (Qm Y (Am ?_)))))))))))));refine Ao Y (λhbit=>?_) (λhbit=>?_)
      ·refine Ab (Qm Y (Qm Y (Aw [_] Y AN A0 Y (by rfl) Y Y ω Y Y Y (λg36=>AU 1 hO5 (RdL.one Bi (x:=(j:Int)) Mh Y) Y AN A0 Y ω Y Y Y B5 (by(try simp only[ab]);omega) (by(try simp only[ab]);omega) rfl rfl rfl (λv9 m9 hO9=>?_)))));have ov9:=hO9.o1;refine Qm Y (Ak (Ai (Ad (Ab (Qm Y (Qx (oA Y) Y (Qm Y (Ak (AX ?_)))))))));exact Al (6-(j+1)) _ ω ⟨j+1,v9,m9,_,Y,Y,Y,Y,ω,hO9,by rw[ag,ab];omega⟩ Qs
      ·refine Ah (Ai (Ad (Ab (Qm Y (Qx (oA Y) Y (Qm Y (Ak ?_)))))));exact Al (6-(j+1)) _ ω ⟨j+1,v5,m5,s,Y,Y,Y,Y,ω,hO5,hs4⟩ Qs
     ·refine Av (Aa (Aa (Af ?_)));exact Az _ ⟨v5,m5,s,Y,Y,Y,hO5,hs4⟩ Qs
    ·refine Qk Y (Qk Y (Qk Y (Qm Y (Am (AQ Y (Av (Aa (Aa (Af ?_)))))))));exact Az _ ⟨v5,m5,s,Y,Y,Y,hO5,hs4⟩ Qs
   ·obtain⟨v5,m5,s,rfl,rfl,rfl,hO5,hs4⟩:=hI;refine Bx λh6 l6 k6=>?_;have hS:=hO5.rdh (ms:=[]) k6;have oS_:=hS.rd.one;refine Ab (Qm Y (Qm Y (Aw [_] Y CA CI Y ((RdL.rd ‹_›).cells) Y Y ω Y Y Y (λg40=>?_))));refine Bp 1 hO (RdL.one D5 (x:=v5) Mh Y) Y CA CI Y ω Y Y Y (GL λu hu=>by rw[ao.1 hu];exact oS_) (by(try simp only[ab]);omega) (by(try simp only[ab]);omega) rfl rfl rfl (λv9 m9 hO9=>?_);have ov9:=hO9.o1;refine Qm Y (Ak (Ai (Ad (Ab (Qm Y (Qx (oA Y) Y (Qm Y (Ak (AX ?_)))))))))
    exact Al (12-(i+1)) _ ω ⟨i+1,v9,m9,_,ll++[s],Y,Y,AE lh l6,Y,ω,ω,hO9,(hE.up l6).snoc hS,by rw[ag,hll];rfl,λu hu=>by
     rcases bf.1 hu with h|h
     ·exact h4 u h
     ·rw[ao.1 h];exact hs4⟩ Qs
  ·refine Bx λh6 l6 k6=>?_;have hV:=hO.rdh (ms:=[]) k6;have hE:=hE.up l6;refine Av (Aa (Aa (Af (Ad (Aq (Qm Y ?_))))));refine Qc call104 Y (Ip ll es v3 h6 ω (λs hs=>by have:=h4 s hs;omega) hV hE) (λrC h7 ms7 l7 hF=>?_);obtain⟨l7',m,A,vA,rfl,rfl,hOA,hA,hs⟩:=hF;have ovA:=hOA.o1;refine Sa 1 [_] A8 Y (by simp[ov,ov3,ovA]) ?_;refine Am (An ?_);exact BC (vs:=[_]) 1 Y Y CS Y A8 Y Y (⟨AE lh (AE l6 l7'),m,A,_,Y,Y,hOA,⟨ll,ω,h4,hA⟩,hs⟩)
 ·refine Qk Y (Qk Y (Qm Y (Am (AQ Y (Av (Aa (Aa (Af (Ad (Bx λh6 l6 k6=>?_))))))))));have hV:=hO.rdh (ms:=[]) k6;have hE:=hE.up l6;refine Aq (Qm Y ?_);refine Qc call104 Y (Ip ll es v3 h6 ω (λs hs=>by have:=h4 s hs;omega) hV hE) (λrC h7 ms7 l7 hF=>?_);obtain⟨l7',m,A,vA,rfl,rfl,hOA,hA,hs⟩:=hF;have ovA:=hOA.o1;refine Sa 1 [_] A8 Y (by simp[ov,ov3,ovA]) ?_;refine Am (An ?_);exact BC (vs:=[_]) 1 Y Y CS Y A8 Y Y (⟨AE lh (AE l6 l7'),m,A,_,Y,Y,hOA,⟨ll,ω,h4,hA⟩,hs⟩)
variable {o:List Cl}
structure CxQ(K:Int)(o:List Cl):Prop where
 r:Rgt o
 n:o.length<=80
 i:∀x∈o,x.id<=K
 d:∀x∈o,x.dim<=7
theorem SI:∀n,n<10->∀x∈O5 (FB n),x.dim<=7:=by decide
theorem CxQ.spa(n:Nat)(h:n<10):CxQ 900 (O5 (FB n)):=by have h1:=(KE n h).1;exact⟨Oi n h,by rw[NC];omega,λx hx=>by have:=(Ly x hx).2;omega,SI n h⟩
theorem CxQ.simp{ll:List (List Int)}(h1:ll.length<=5)(h4:∀l∈ll,l.length<=4):CxQ 900 (EO ll):=by have h2:=Ww h4;exact⟨Xs ll,ω,λx hx=>by have:=Aaj ll x hx;omega,Vy h4⟩
theorem CxQ.gone{K:Int}(Q:CxQ K o){c:Int}(h:c∈Jo (ordF o)):CxQ K (o.filter λx=>decide (x.id≠c)):=by refine⟨Q.r.gone λy hy s hs e=>?_,dc (dp _ _) Q.n,λx hx=>Q.i x (br.1 hx).1,λx hx=>Q.d x (br.1 hx).1⟩;have hc:y.can∈ordF o:=(Dy o.length o (au _)).mem_iff.2 (ad.2 ⟨y,hy,Y⟩);exact Xh h _ hc s ((B7 y.sd).mem_iff.2 hs) e
theorem CxQ.beside(Q:CxQ 900 o)(hn:o.length<26){m:Int}(h0:0<=m)(hM:∀x∈o,x.id<=m)(hK:m<=900)(n:Nat)(h:n<5):CxQ 1000 (o++(O5 (FB n)).map (XQ m)):=by
 have h1:=(KE n ω).2 h;have hl:=NC (FB n);refine⟨Q.r.union ((Oi n ω).shift h0) (λx hx y hy=>?_) (by rw[af];omega),by rw[ag,af];omega,λx hx=>?_,λx hx=>?_⟩
 ·obtain⟨z,hz,rfl⟩:=ad.1 hy;have:=hM x hx;have:=(Ly z hz).1;show x.id≠z.id+m;omega
 ·rcases bf.1 hx with h|h
  ·have:=Q.i x h;omega
  ·obtain⟨z,hz,rfl⟩:=ad.1 h;have:=(Ly z hz).2;show z.id+m<=1000;omega
 ·rcases bf.1 hx with h'|h'
  ·exact Q.d x h'
  ·obtain⟨z,hz,rfl⟩:=ad.1 h';exact SI n ω z hz
theorem CxQ.up(Q:CxQ 900 o):CxQ 1000 o:=⟨Q.r,Q.n,λx hx=>by have:=Q.i x hx;omega,Q.d⟩
theorem CxQ.rg{K:Int}(hK:K<=1000000){A:List Ce}(Q:CxQ K (A.map Ce.c)):RgC A:=⟨Q.r,λa ha=>by have:=Q.i _ (ad.2 ⟨a,ha,Y⟩);omega⟩
theorem CxQ.ids{A:List Ce}(Q:CxQ 900 (A.map Ce.c)){a:Ce}(ha:a∈A):-1000000<=a.c.id/\a.c.id<=900:=by have hm:a.c∈A.map Ce.c:=ad.2 ⟨a,ha,Y⟩;have:=Q.i _ hm;have:=Q.r.pos _ hm;omega
theorem Ss{B:List Ce}{n:Int}(hB:B.map Ce.c=O5 (FB (n%10).toNat))(hn:0<=n/\n<10):B.length<=1000:=by have h1:=aw List.length hB;rw[af,NC]at h1;have:=(KE (n%10).toNat ω).1;omega
theorem Ya{B:List Ce}{n:Int}(hB:B.map Ce.c=O5 (FB (n%10).toNat))(hn:0<=n/\n<10){b:Ce}(hb:b∈B):(-1000000<=b.c.id/\b.c.id<=1000000)/\b.c.sd.length<=100/\∀s∈b.c.sd,-1000000<=s.1/\s.1<=1000000:=by
 have hm:b.c∈O5 (FB (n%10).toNat):=by rw[<-hB];exact ad.2 ⟨b,hb,Y⟩
 have R:=Oi (n%10).toNat ω;have hl:=(KE (n%10).toNat ω).1;have h1:=Ly _ hm;refine⟨ω,by have:=(R.bds hm).2;omega,λs hs=>?_⟩;obtain⟨y,hy,e,_⟩:=R.sid _ hm s hs;have h2:=Ly _ hy;omega
theorem BW{P:Program}{o:Oper}{s:AF}{h:Hp}{ms:List Hp}{v v':Value}(hx:OX P o s h ms v)(e:v=v'):OX P o s h ms v':=e ▸ hx
theorem RX(sp be:Nat)(L:List Int)(G:List Nat)(vL vG:Value)(hp:Hp)(hsp:sp<256)(hbe:be<256)(hG:∀g∈G,g<256)(hL:RdL cI 1 hp [] vL L)(hRG:RdL (λg=>[.int .u8 (g:Nat)]) 1 hp [] vG G):FnT Tryz.prog 13 #[.agg #[.int .u8 sp,vL,vG,.int .u8 be]] hp [] (λr h' ms'=>hp.le h'/\Rg h' r ms' (CxQ 1000)):=by
 have oL_:=hL.rd.one;have oG_:=hRG.rd.one;refine Au func13 ntmps13 Y Y (λw0 hw0=>?_);simp only[A6];refine Aq (AP [_,_,_,_] Y Y (by rfl) Y Y Y (λg1=>Cx [.nl] Y A8 Y Y (λg2=>Am (Bj 1 Y λh1 l1 hS=>?_))));have hL:=hL.up l1;have hRG:=hRG.up l1;have s0:∀{h},h1.le h->∀ms,Cell h ms (⟨g1,0,none⟩:Addr) (.int .u8 sp):=λl ms=>Seg.all (hS.le l) 0 _ Y ms;have s1:∀{h},h1.le h->∀ms,Cell h ms (⟨g1,1,none⟩:Addr) vL:=λl ms=>Seg.all (hS.le l) 1 _ Y ms;have s2:∀{h},h1.le h->∀ms,Cell h ms (⟨g1,2,none⟩:Addr) vG:=λl ms=>Seg.all (hS.le l) 2 _ Y ms;have s3:∀{h},h1.le h->∀ms,Cell h ms (⟨g1,3,none⟩:Addr) (.int .u8 be):=λl ms=>Seg.all (hS.le l) 3 _ Y ms;refine Aq (Qf XF Y (Ql Y U5 (s0 (Da) _) (Qx (Jt Y U5 U3 Y (Dm ω)) Y ?_)));refine Qc call45 Y (Jm sp h1 (by unfold BS;omega)) (λrc h2 ms2 l2 hF=>?_);obtain⟨l2',mC,A,vC,rfl,rfl,hOC,hA,hAs⟩:=hF;have hQ:CxQ 900 (A.map Ce.c):=by rw[hA];exact CxQ.spa _ ω
 have oC:=hOC.o1;refine Cx [.nl] Y A8 Y Y (λg3=>?_);refine Sa 0 [_] A8 Y (by simp[oL_,oG_,oC]) ?_;refine Am ?_;refine Bg (λsl h' ms'=>∃(vC:Value) (mC:Hp) (A:List Ce),sl=[(1,.pt g1),(2,.pt g2),(3,.pt g3)]/\h1.le h'/\ms'=[Bh g3 29 [vC],mC,Bh g2 29 [.nl]]/\OwnL cC 3 52 mC vC A/\CxQ 900 (A.map Ce.c)/\∀a∈A,RdL cD 2 h' [] a.v a.c.sd) ?_ (λs h ms hI=>?_)
 ·have hL2:=hL.up l2';obtain⟨k,hk⟩:∃k:Nat,min (L.length:Int) 5=k:=⟨min L.length 5,ω⟩
  have hkl:k<=L.length/\k<=5:=ω
  have hSub:RdL cI 1 h2 [] (Cj 1 vL 0 k) (L.take k):=by have:=hL2.sub_ (i:=0) (j:=k) ω hkl.1;simpa using this
  refine Aq (Qf XF Y (Ql Y U5 (s0 l2' _) (Qx (BH Y Y Y ω ω) Y (Qm Y (Am ?_)))));refine Ao Y (λh26=>?_) (λh26=>?_)
  ·refine Ab (Qf XI Y (Ql Y AN (s1 l2' _) (Qf XI Y (Ql Y AN (s1 l2' _) (Qx (As hL2.rd.any Y AN Y) Y (Qx (Sd Y Y Y) Y (Qx (Fk (k) hL2.rd.any Y AN A0 Y Y ω ω) Y (Qc call46 Y (N1 (L.take k) _ h2 hSub) (λrs h3 ms3 l3 hF=>?_)))))))));obtain⟨l3',mS,B,vB,rfl,rfl,hOB,⟨ll,hll,h4,hB⟩,hBs⟩:=hF;have hQB:CxQ 900 (B.map Ce.c):=by rw[hB];exact CxQ.simp (by rw[av]at hll;omega) h4
   have oB:=hOB.o1;refine Sa 1 [_] A8 Y (by simp[oL_,oG_,oC,oB]) ?_;refine Ak (AZ 2 Y (CY 1 Y ?_));exact Az _ ⟨vB,mS,B,Y,AE l2' l3',Y,hOB,hQB,hBs⟩ Qs
  ·refine Ah ?_;exact Az _ ⟨vC,mC,A,Y,l2',Y,hOC,hQ,hAs⟩ Qs
 ·obtain⟨vC,mC,A,rfl,l3,rfl,hOC,hQ,hAs⟩:=hI;refine Bg (λsl h' ms'=>∃(vC:Value) (mC:Hp) (A:List Ce),sl=[(1,.pt g1),(2,.pt g2),(3,.pt g3)]/\h1.le h'/\ms'=[Bh g3 29 [vC],mC,Bh g2 29 [.nl]]/\OwnL cC 3 52 mC vC A/\CxQ 900 (A.map Ce.c)/\∀a∈A,RdL cD 2 h' [] a.v a.c.sd) ?_ (λs h ms hI=>?_)
  ·refine Ac (Ab (Qm Y (Am (Ag ?_))))
   refine Ay (λq sl h' ms'=>∃(i:Nat) (vC:Value) (mC:Hp) (A:List Ce),q=6-i/\sl=[(1,.pt g1),(2,.pt g2),(3,.pt g3),(4,.w i)]/\h1.le h'/\ms'=[Bh g3 29 [vC],mC,Bh g2 29 [.nl]]/\i<=6/\OwnL cC 3 52 mC vC A/\CxQ 900 (A.map Ce.c)/\∀a∈A,RdL cD 2 h' [] a.v a.c.sd)
    (6-0) _ ⟨0,vC,mC,A,rfl,rfl,l3,rfl,ω,hOC,hQ,hAs⟩ Qs ?_
   rintro q sl h' ms' ⟨i,vC,mC,A,rfl,rfl,lh,rfl,hi,hOC,hQ,hAs⟩;have hRG:=hRG.up lh;have hAn:=hQ.n;rw[af]at hAn;have oC:=hOC.o1;refine Ac (Aq (Qm Y (Qf Wp Y (Ql Y WJ (s2 lh _) (Qx (As hRG.rd.any Y WJ Y) Y (Qm Y (Qm Y ?_)))))));refine AL (t:=30) Y (λha=>?_) (λha=>?_)
   ·refine Qg (Ar Y Y) Y (Qg (DA Y Y Y) Y (Qm Y (Qm Y ?_)));refine AL (t:=34) Y (λhb=>?_) (λhb=>?_)
    ·refine Qg (oF Cr Y) Y (Qg (oL Y Bm (Cell.blk 0 Y Y)) Y (Qg (ED (hOC.rd (h:=h') (ms:=[Bh g3 29 [vC],mC,Bh g2 29 [.nl]]) (.tail _ (.head _))).rd Y Bm Y) Y (Qg (Ct Y Y Y) Y (Qm Y (Am ?_)))));refine Ao Y (λhc=>?_) (λhc=>?_)
     ·have hil:i<G.length:=ω
      have hA1:1<A.length:=ω
      refine EC 1 Y (Bx λh5 l5 k5=>?_);have hRC:RdC h5 vC A:=⟨hOC.rdh (ms:=[]) k5,λa ha=>(hAs a ha).up l5⟩
      have hKA:RgC A:=hQ.rg δ;have l15:=AE lh l5;have hRG:=hRG.up l5;refine Ah (Ad (Ac (Ag (Aq (Qx (oG Y CS A8 (Seg.blk 0 Y)) Y (Qc call47 Y (Zu A vC h5 hKA hRC) (λrt h6 ms6 l6 hF=>?_)))))));obtain⟨l6',mT,rfl,hOT⟩:=hF
      have hTn:Jo (cn A)≠[]:=YM hKA.F.rgt λe=>by have h1:=Dg A;rw[e]at h1;simp at h1;omega
      obtain⟨T,hT⟩:∃T,Jo (cn A)=T:=⟨_,Y⟩
      rw[hT]at hOT hTn;have hTl:0<T.length:=List.length_pos_iff.2 hTn
      have hTm:T.length<=4000:=by rw[<-hT];unfold Jo;rw[af];exact dc (dp _ _) hKA.F.rgt.n
      have oT:=hOT.o1;obtain⟨gg,hgg⟩:∃gg,G[i]=gg:=⟨_,Y⟩
      have hgb:=hG gg (by rw[<-hgg];exact ae hil);have hRG:=hRG.up l6;have hRC:=hRC.up l6;have cg:∀ms,Cell h6 ms ((AG vG).add (i*1)) (.int .u8 gg):=λms=>by rw[<-hgg];exact(hRG.any (ms:=ms)).cell0 hil Y
      obtain⟨z,hz⟩:∃z:Nat,(gg:Int)%(T.length:Int)=z:=⟨gg%T.length,ω⟩
      have hzT:z<T.length:=by have:=bw (gg:Int) (b:=(T.length:Int)) ω;omega
      obtain⟨id,hid⟩:∃id,T[z]=id:=⟨_,Y⟩
      have hidT:id∈Jo (cn A):=by rw[hT,<-hid];exact ae hzT
      refine Qm Y (Am (A9 hOT λh7 l7 hQT=>?_));have hRG:=hRG.up l7;have hRC:=hRC.up l7;have l17:=AE l15 (AE l6 l7);have cid:∀ms,Cell h7 ms ((AG rt).add (z*1)) (.w id):=λms=>by rw[<-hid];exact(hQT.any (ms:=ms)).cell0 hzT Y
      have cg:=λms=>(cg ms).le l7;refine Aq (Qm Y (Qf Wp Y (Ql Y WJ (s2 l17 _) (Qm Y (Qx (BN (i) hRG.rd.any Y WJ el5 Y Y) Y (Ql Y U5 (cg _) (Qx (Jt Y U5 U3 Y (Dm ω)) Y (Qm Y (Qx (As hQT.rd.any Y AN Y) Y (Qx (BH Y Y Y ω ω) Y (Qx (BN (z) hQT.rd.any Y AN A0 Y Y) Y (Ql Y U3 (cid _) (Qm Y (BM (Cx [.nl] Y A8 Y Y (λg7=>Am (BT ?_)))))))))))))))));refine Bg (λsl h' ms'=>∃(v7:Value) (m7:Hp) (O:List Ce),sl=[(1,.pt g1),(2,.pt g2),(3,.pt g3),(4,.w i),(7,.pt g7)]/\h7=h'/\ms'=[m7,Bh g7 29 [v7],Bh g3 29 [vC],Bh g2 29 [.nl]]/\OwnL cC 3 52 m7 v7 O/\O.map Ce.c=(A.map Ce.c).filter (λx=>decide (x.id≠id))/\∀a∈O,RdL cD 2 h' [] a.v a.c.sd) ?_ (λs h ms hI=>?_)
      ·refine Ac (Ab (Qm Y (Am (Ag ?_))))
       refine Ay (λq sl h' ms'=>∃(j:Nat) (v7:Value) (m7:Hp) (O:List Ce),q=A.length-j/\sl=[(1,.pt g1),(2,.pt g2),(3,.pt g3),(4,.w i),(6,.w id),(7,.pt g7),(8,.w j)]/\h7=h'/\ms'=[m7,Bh g7 29 [v7],Bh g3 29 [vC],Bh g2 29 [.nl]]/\j<=A.length/\OwnL cC 3 52 m7 v7 O/\O.map Ce.c=((A.take j).map Ce.c).filter (λx=>decide (x.id≠id))/\∀a∈O,RdL cD 2 h' [] a.v a.c.sd)
        (A.length-0) _ ⟨0,_,Hp.emp,[],rfl,rfl,rfl,rfl,ω,OwnL.nil CP,rfl,nofun⟩ Qs ?_
       rintro q sl h' ms' ⟨j,v7,m7,O,rfl,rfl,rfl,rfl,hj,hO7,hOc,hOs⟩
       have hOl:O.length<=80:=by have h1:=aw List.length hOc;rw[af]at h1;rw[h1];exact dc (dp _ _) (by rw[af,av];omega)
       have ov7:=hO7.o1;refine Ac (Aq (Qm Y (Qf Cr Y (Ql Y Bm (Cell.blk 2 Y Y) (Qx (As hRC.q.rd.any Y Bm Y) Y (Qm Y (Am ?_)))))));refine Ao Y (λhjl=>?_) (λhjl=>?_)
       ·have hjn:j<A.length:=ω
        obtain⟨x,hx⟩:∃x,A[j]=x:=⟨_,Y⟩
        have hX:=hRC.s x (by rw[<-hx];exact ae hjn);have oX:=hX.rd.one;have cx:∀ms,Cell h7 ms (((AG vC).add (j*3)).add 0) (.w x.c.id):=λms=>by rw[<-hx];exact(hRC.q.any (ms:=ms)).cell (j:=j) hjn (f:=0) Y
        have sx:∀ms,Seg h7 ms ((AG vC).add (j*3)) (cC x):=λms=>by rw[<-hx];exact(hRC.q.any (ms:=ms)).seg hjn
        have hsn:((A.take (j+1)).map Ce.c).filter (λx=>decide (x.id≠id))=((A.take j).map Ce.c).filter (λx=>decide (x.id≠id))++if x.c.id≠id then [x.c] else []:=by rw[ak hjn,bm,List.filter_append,hx];congr 1;by_cases h:x.c.id=id<;>simp[filter_cons,h]
        refine Ah (Ad ?_);refine Bg (λsl h' ms'=>∃(v7:Value) (m7:Hp) (O:List Ce),sl=[(1,.pt g1),(2,.pt g2),(3,.pt g3),(4,.w i),(6,.w id),(7,.pt g7),(8,.w j)]/\h7=h'/\ms'=[m7,Bh g7 29 [v7],Bh g3 29 [vC],Bh g2 29 [.nl]]/\OwnL cC 3 52 m7 v7 O/\O.map Ce.c=((A.take (j+1)).map Ce.c).filter (λx=>decide (x.id≠id))/\∀a∈O,RdL cD 2 h' [] a.v a.c.sd) ?_ (λs h ms hI=>?_)
        ·refine Ag (Aq (Qf Cr Y (Ql Y Bm (Cell.blk 2 Y Y) (Qm Y (Qx (BN (j) hRC.q.rd.any Y Bm AI Y Y) Y (Qf Bq Y (Ql Y U3 (cx _) (Qm Y (Qm Y (Am ?_))))))))));refine Ao Y (λhne=>?_) (λhne=>?_)
         ·refine BK (n:=11) (bs:=[true,false,true,false,true,false,false,false,false,true,false]) [true,false,true,false,true,false,false,false,false,true] CT κ κ Y Y (QF Cr Y (QF Cr Y (Qq Y (QF Cr Y ?_))));unfold Fm;simp only[bl,ay];refine Bf [1,3] κ Y ?_;refine AD Y ?_ ?_
          ·refine Ql Y Bm (Cell.blk 1 Y Y) (Qw (Qo 3 Y (Ql Y Bm (Cell.blk 2 Y Y) (Qw (Bd 5 76 κ Y (Da) Y (BN (j) hRC.q.rd.any Y Bm AI Y Y) (Qo 6 Y (Qx (oG Y Ey AI (sx _)) Y (Qw (Qo 7 Y (Aw [_,_,_] Y Bm AI Y (by rfl) Y Y ω Y Y Y (λg78=>Qw (Qo 8 Y ?_))))))))))));refine Bp 1 hO7 (RdL.one CP (x:=x) Mh Y) Y Bm AI Y ω Y Y Y (DC (l:=[x]) (h:=h7) λy hy=>by rw[ao.1 hy];exact hX) (by(try simp only[ab]);omega) (by(try simp only[ab]);omega) rfl rfl rfl (λv9 m9 hO9=>?_);have ov9:=hO9.o1;refine Qw (Qo 10 Y ?_);refine AO 2 _ Y Kx Y Y (by assumption) Y Y (by(simp;done)) rfl rfl ?_;refine Qw (Qe (AX (Ai ?_)));exact Az _ ⟨v9,m9,O++[x],Y,Y,Y,hO9,by rw[hsn,ac hne,bm,hOc];rfl,RdC.snoc' hOs hX⟩ Qs
          refine AD Y ?_ ?_
          ·refine Ql Y Bm (Cell.blk 2 Y Y) (Qw (Bd 5 76 κ Y (Da) Y (BN (j) hRC.q.rd.any Y Bm AI Y Y) (Bf [1,6] κ Y ?_)));refine AD Y ?_ ?_
           ·refine Ql Y Bm (Cell.blk 1 Y Y) (Qw (Qo 6 Y (Qx (oG Y Ey AI (sx _)) Y (Qw (Qo 7 Y (Aw [_,_,_] Y Bm AI Y (by rfl) Y Y ω Y Y Y (λg78=>Qw (Qo 8 Y ?_))))))));refine Bp 1 hO7 (RdL.one CP (x:=x) Mh Y) Y Bm AI Y ω Y Y Y (DC (l:=[x]) (h:=h7) λy hy=>by rw[ao.1 hy];exact hX) (by(try simp only[ab]);omega) (by(try simp only[ab]);omega) rfl rfl rfl (λv9 m9 hO9=>?_);have ov9:=hO9.o1;refine Qw (Qo 10 Y ?_);refine AO 2 _ Y Kx Y Y (by assumption) Y Y (by(simp;done)) rfl rfl ?_;refine Qw (Qe (AX (Ai ?_)));exact Az _ ⟨v9,m9,O++[x],Y,Y,Y,hO9,by rw[hsn,ac hne,bm,hOc];rfl,RdC.snoc' hOs hX⟩ Qs
           refine AD Y ?_ ?_
           ·refine Qx (oG Y Ey AI (sx _)) Y (Qw (Bf [1,7] κ Y ?_));refine AD Y ?_ ?_
            ·refine Ql Y Bm (Cell.blk 1 Y Y) (Qw (Qo 7 Y (Aw [_,_,_] Y Bm AI Y (by rfl) Y Y ω Y Y Y (λg78=>Qw (Qo 8 Y ?_)))));refine Bp 1 hO7 (RdL.one CP (x:=x) Mh Y) Y Bm AI Y ω Y Y Y (DC (l:=[x]) (h:=h7) λy hy=>by rw[ao.1 hy];exact hX) (by(try simp only[ab]);omega) (by(try simp only[ab]);omega) rfl rfl rfl (λv9 m9 hO9=>?_);have ov9:=hO9.o1;refine Qw (Qo 10 Y ?_);refine AO 2 _ Y Kx Y Y (by assumption) Y Y (by(simp;done)) rfl rfl ?_;refine Qw (Qe (AX (Ai ?_)));exact Az _ ⟨v9,m9,O++[x],Y,Y,Y,hO9,by rw[hsn,ac hne,bm,hOc];rfl,RdC.snoc' hOs hX⟩ Qs
            refine AD Y ?_ ?_
            ·refine Aw [_,_,_] Y Bm AI Y (by rfl) Y Y ω Y Y Y (λg78=>Qw (Qo 1 Y (Ql Y Bm (Cell.blk 2 Y Y) (Qw (Qo 8 Y ?_)))));refine Bp 1 hO7 (RdL.one CP (x:=x) Mh Y) Y Bm AI Y ω Y Y Y (DC (l:=[x]) (h:=h7) λy hy=>by rw[ao.1 hy];exact hX) (by(try simp only[ab]);omega) (by(try simp only[ab]);omega) rfl rfl rfl (λv9 m9 hO9=>?_);have ov9:=hO9.o1;refine Qw (Qo 10 Y ?_);refine AO 2 _ Y Kx Y Y (by assumption) Y Y (by(simp;done)) rfl rfl ?_;refine Qw (Qe (AX (Ai ?_)));exact Az _ ⟨v9,m9,O++[x],Y,Y,Y,hO9,by rw[hsn,ac hne,bm,hOc];rfl,RdC.snoc' hOs hX⟩ Qs
            exact Be
           exact Be
          exact Be
         ·refine Ah (Ai ?_);exact Az _ ⟨v7,m7,O,Y,Y,Y,hO7,by rw[hsn,aa hne,eo];exact hOc,hOs⟩ Qs
        ·obtain⟨v7,m7,O,rfl,rfl,rfl,hO7,hOc,hOs⟩:=hI;refine Ab (Qm Y (Qx (oA Y) Y (Qm Y (Ak ?_))));exact Al (A.length-(j+1)) _ ω ⟨j+1,v7,m7,O,Y,Y,Y,Y,ω,hO7,hOc,hOs⟩ Qs
       ·obtain rfl:j=A.length:=ω
        refine Av (Aa (Aa (Af ?_)));exact Az _ ⟨v7,m7,O,Y,Y,Y,hO7,by rw[hOc,ct],hOs⟩ Qs
      ·obtain⟨v7,m7,O,rfl,rfl,rfl,hO7,hOc,hOs⟩:=hI;have ov7:=hO7.o1;have hQ7:CxQ 900 (O.map Ce.c):=by rw[hOc];exact hQ.gone hidT
       refine Ab (Qx (oG Y CS A8 (Seg.blk 1 Y)) Y ?_);refine Sa 2 [_] A8 Y (by simp[oL_,oG_,oC,oT,ov7]) ?_;refine Ak (Ai (Ad (Ab (Qm Y (Qx (oA Y) Y (Qm Y (Ak (AZ 1 Y (CY 1 Y ?_)))))))));exact Al (6-(i+1)) _ ω ⟨i+1,v7,m7,O,Y,Y,AE l15 (AE l6 l7),Y,ω,hO7,hQ7,hOs⟩ Qs
     ·refine Av (Aa (Aa (Af ?_)));exact Az _ ⟨vC,mC,A,Y,lh,Y,hOC,hQ,hAs⟩ Qs
    ·refine Qk Y (Qk Y (Qk Y (Qk Y (Qm Y (Am (AQ Y (Av (Aa (Aa (Af ?_))))))))));exact Az _ ⟨vC,mC,A,Y,lh,Y,hOC,hQ,hAs⟩ Qs
   ·refine Qk Y (Qk Y (Qm Y (Qm Y (Qk Y (Qk Y (Qk Y (Qk Y (Qm Y (Am (AQ Y (Av (Aa (Aa (Af ?_))))))))))))));exact Az _ ⟨vC,mC,A,Y,lh,Y,hOC,hQ,hAs⟩ Qs
  ·obtain⟨vC,mC,A,rfl,lh,rfl,hOC,hQ,hAs⟩:=hI;have hAn:=hQ.n;rw[af]at hAn;have oC:=hOC.o1;refine Bg (λsl h' ms'=>∃(vC:Value) (mC:Hp) (A:List Ce),sl=[(2,.pt g2),(3,.pt g3)]/\h1.le h'/\ms'=[Bh g3 29 [vC],mC,Bh g2 29 [.nl]]/\OwnL cC 3 52 mC vC A/\CxQ 1000 (A.map Ce.c)/\∀a∈A,RdL cD 2 h' [] a.v a.c.sd) ?_ (λs h ms hI=>?_)
   ·refine Ac (Ab (Qf WE Y (Ql Y U5 (s3 lh _) (Qx (BH Y Y Y ω ω) Y (Qm Y (Qm Y ?_))))));refine AL (t:=86) Y (λhb3=>?_) (λhb3=>?_)
    ·refine Qg (oF Cr Y) Y (Qg (oL Y Bm (Cell.blk 0 Y Y)) Y (Qg (ED (hOC.rd (h:=h) (ms:=[Bh g3 29 [vC],mC,Bh g2 29 [.nl]]) (.tail _ (.head _))).rd Y Bm Y) Y (Qg (DA Y Y Y) Y (Qm Y (Am ?_)))));refine Ao Y (λh26=>?_) (λh26=>?_)
     ·refine EC 1 Y (Bx λh5 l5 k5=>?_);have hRC:RdC h5 vC A:=⟨hOC.rdh (ms:=[]) k5,λa ha=>(hAs a ha).up l5⟩
      have l15:=AE lh l5;have hd4:(be:Int).tdiv 4=(be:Int)/4:=by rw[Int.tdiv_eq_ediv_of_nonneg ω]
      have hw4:IntKind.u8.wrap ((be:Int).tdiv 4)=(be:Int)/4:=by rw[hd4];simp only[IntKind.wrap,IntKind.bits,IntKind.signed];simp;omega
      obtain⟨z,hz⟩:∃z:Nat,(be:Int)/4%5=z:=⟨be/4%5,ω⟩
      have hz5:z<5:=ω
      refine BK (n:=9) (bs:=[false,true,true,true,true,true,false,false,false]) [false,true,true,true,true,true] CT κ κ Y Y (QF WE Y (QL Y U5 (s3 l15 _) (Qp Y (BW (NQ Y Y Y δ) (aw (Value.int .u8) hw4)) (Qp Y (Jt Y U5 U3 Y (Dm ω)) (Qp Y (BH Y Y Y ω ω) ?_)))));unfold Fm;simp only[bl,ay];refine Bf [0,6] κ Y ?_;refine AD Y ?_ ?_
      ·refine Qx (oG Y CS A8 (Seg.blk 0 Y)) Y (Qw (Qo 6 Y ?_));refine Qc call45 Y (Jm ((be:Int)/4%5) h5 (by unfold BS;omega)) (λrs h6 ms6 l6 hF=>?_);obtain⟨l6',mS,B,vB,rfl,rfl,hOB,hB,hBs⟩:=hF;refine Ba hOB λh7 l7 hRB=>?_;have l57:=AE l6' l7;have oB:=hRB.rd.one;refine Qa (Qo 7 Y (Qc call48 Y (MI A B vC vB 900 δ h7 (hRC.up l57) ⟨hRB,λa ha=>(hBs a ha).up l7⟩ ω (Ss hB ω) (λa ha=>hQ.ids ha) (λb hb=>Ya hB ω hb)) (λrb h8 ms8 l8 hF=>?_)));have l58:=AE l57 l8;obtain⟨l8',mD,D,vD,rfl,rfl,hOD,⟨m,hm0,hm1,hmA,hD⟩,hDs⟩:=hF;have oC:=And.intro oC (show vD.oneCell'=true from hOD.o1);refine Qa (Qo 8 Y ?_);refine Sa 1 [_] A8 Y (by simp[oL_,oG_,oC]) ?_;refine Qa (Qe (CY 1 Y ?_));exact Az _ ⟨vD,mD,D,Y,AE l15 (AE l57 l8'),Y,hOD,by rw[hD,hB,hz,gt ω ω,de];exact hQ.beside (by rw[af];omega) hm0 (λx hx=>by obtain⟨a,ha,rfl⟩:=ad.1 hx;exact hmA a ha) hm1 z hz5,hDs⟩ Qs
      refine AD Y ?_ ?_
      ·refine Qc call45 Y (Jm ((be:Int)/4%5) h5 (by unfold BS;omega)) (λrs h6 ms6 l6 hF=>?_);obtain⟨l6',mS,B,vB,rfl,rfl,hOB,hB,hBs⟩:=hF;refine Ba hOB λh7 l7 hRB=>?_;have l57:=AE l6' l7;have oB:=hRB.rd.one;refine Qa (Qo 0 Y (Qx (oG Y CS A8 (Seg.blk 0 Y)) Y (Qa (Qo 7 Y (Qc call48 Y (MI A B vC vB 900 δ h7 (hRC.up l57) ⟨hRB,λa ha=>(hBs a ha).up l7⟩ ω (Ss hB ω) (λa ha=>hQ.ids ha) (λb hb=>Ya hB ω hb)) (λrb h8 ms8 l8 hF=>?_))))));have l58:=AE l57 l8;obtain⟨l8',mD,D,vD,rfl,rfl,hOD,⟨m,hm0,hm1,hmA,hD⟩,hDs⟩:=hF;have oC:=And.intro oC (show vD.oneCell'=true from hOD.o1);refine Qa (Qo 8 Y ?_);refine Sa 1 [_] A8 Y (by simp[oL_,oG_,oC]) ?_;refine Qa (Qe (CY 1 Y ?_));exact Az _ ⟨vD,mD,D,Y,AE l15 (AE l57 l8'),Y,hOD,by rw[hD,hB,hz,gt ω ω,de];exact hQ.beside (by rw[af];omega) hm0 (λx hx=>by obtain⟨a,ha,rfl⟩:=ad.1 hx;exact hmA a ha) hm1 z hz5,hDs⟩ Qs
      exact Be
     ·refine Ah ?_;exact Az _ ⟨vC,mC,A,Y,lh,Y,hOC,hQ.up,hAs⟩ Qs
    ·refine Qk Y (Qk Y (Qk Y (Qk Y (Qm Y (Am (AQ Y (Ah ?_)))))));exact Az _ ⟨vC,mC,A,Y,lh,Y,hOC,hQ.up,hAs⟩ Qs
   ·obtain⟨vC,mC,A,rfl,lh,rfl,hOC,hQ,hAs⟩:=hI;have oC:=hOC.o1;refine Aq (Qx (oG Y CS A8 (Seg.blk 0 Y)) Y ?_);refine Sa 2 [_] A8 Y (by simp[oL_,oG_,oC]) ?_;refine Am (An (AX ?_));exact BC (vs:=[_]) 1 Y Y CS Y A8 Y Y (⟨AE l1 lh,mC,A,_,Y,Y,hOC,hQ,hAs⟩)
end
section
open Go.Lin Go.Sort Go.Srt
def mq(R:Nat->List Int)(j k:Nat)(a b:Nat):Int:=if b<j then(R b).getD a 0 else if b=j/\a<k then(R b).getD a 0 else 0
theorem ZT(R:Nat->List Int)(a b:Nat):mq R 0 0 a b=0:=by unfold mq;rw[aa ω,aa ω]
theorem Y9(R:Nat->List Int){n j:Nat}(a b:Nat)(ha:a<n):mq R j n a b=mq R (j+1) 0 a b:=by
 unfold mq;rcases (ω:b<j\/b=j\/j<b) with h|rfl|h
 ·rw[ac h,ac ω]
 ·rw[aa ω,ac ⟨rfl,ha⟩,ac ω]
 ·rw[aa ω,aa ω,aa ω,aa ω]
theorem YZ(R:Nat->List Int)(j k a b:Nat):Fe (mq R j k) k j ((R j).getD k 0) a b=mq R j (k+1) a b:=by
 unfold Fe mq;by_cases h:a=k/\b=j
 ·obtain⟨rfl,rfl⟩:=h;rw[ac ⟨rfl,rfl⟩,aa ω,ac ω]
 ·rw[aa h];by_cases h1:b<j
  ·rw[ac h1,ac h1]
  ·rw[aa h1,aa h1];by_cases h2:b=j/\a<k
   ·rw[ac h2,ac ⟨h2.1,ω⟩]
   ·rw[aa h2,aa ω]
theorem Zc(S:List Ce)(p:Int)(gm gA:Nat)(vc vr vv:Value)(la:List Int)(h:Hp)(hB:Seg h [] ⟨gm,0,none⟩ (EI p vc gA vr vv la))(hRS:RdL cC 3 h [] vc S)(hsd:∀a∈S,RdL cD 2 h [] a.v a.c.sd)(hn:S.length<=400):FnT Tryz.prog 72 #[.pointer (some ⟨gm,0,none⟩)] h [] (λr h' ms'=>h.le h'/\∃m,ms'=[m]/\OwnL cI 1 3 m r (Ev S)):=by
 have oc:=hRS.rd.one;have a1:∀ms,Cell h ms (⟨gm,1,none⟩:Addr) vc:=λms=>Seg.all hB 1 _ Y ms;refine Au func72 ntmps72 Y Y (λw0 hw0=>?_);simp only[A6];refine Aq (Qm Y (BM (Qm Y (Am (Ac (Aq (Qm Y (Qm Y (Qf Fx Y (Ql Y Bm (a1 _) (Qx (As hRS.rd.any Y Bm Y) Y (Qm Y (Am (Ag (BT ?_)))))))))))))))
 refine Ay (λq sl h' ms'=>∃(i:Nat) (vo:Value) (mo:Hp),q=S.length-i/\sl=[(3,vo),(9,vc),(10,.w S.length),(11,.w i)]/\h.le h'/\ms'=[mo]/\i<=S.length/\OwnL cI 1 3 mo vo (Ev (S.take i)))
  (S.length-0) _ ⟨0,_,Hp.emp,rfl,rfl,Da,rfl,ω,OwnL.nil Bi⟩ Qs ?_
 rintro q sl h' ms' ⟨i,vo,mo,rfl,rfl,lh,rfl,hi,hO⟩;have ov:=hO.o1;have hRS:=hRS.up lh;refine Aq (Qm Y (Am (Ac ?_)));refine Ao Y (λhil=>?_) (λhil=>?_)
 ·have hiS:i<S.length:=ω
  obtain⟨x,hx⟩:∃x,S[i]=x:=⟨_,Y⟩
  have hX:=(hsd x (by rw[<-hx];exact ae hiS)).up lh;have ox:=hX.rd.one;have sx:∀ms,Seg h' ms ((AG vc).add (i*3)) (cC x):=λms=>by rw[<-hx];exact(hRS.any (ms:=ms)).seg hiS
  have hnx:Ev (S.take (i+1))=Ev (S.take i)++[x.c.id]:=by unfold Ev;rw[ak hiS,bm,hx];rfl
  have hnl:(Ev (S.take i)).length<=4000:=by unfold Ev;rw[af,av];omega
  refine Ah (Ad (Ac (Ag (Aq (Qx (BN (i) hRS.rd.any Y Bm AI Y Y) Y (Qx (oG Y Ey AI (sx _)) Y (Cx [.w 0,.w 0,.nl] Y AI Y Y (λg5=>?_))))))));refine Sa 0 [_,_,_] AI Y (by simp[oc,ov,ox]) ?_;refine Am (Ax λh3 l3 hS5=>?_);have e0:∀ms,Cell h3 ms (⟨g5,0,none⟩:Addr) (.w x.c.id):=λms=>Seg.all hS5 0 _ Y ms;refine Ab (Qm Y (Qf Bq Y (Ql Y U3 (e0 _) (Aw [_] Y AN A0 Y (by rfl) Y Y ω Y Y Y (λg18=>?_)))));refine AU 1 hO (OwnL.rd (OwnL.blk (g:=g18) (el:=3) (F:=cI) (l:=[x.c.id]) 1 Bi Y δ) Mh) Y AN A0 Y ω Y Y Y B5 (by simp;omega) (by simp;omega) rfl rfl rfl (λv8 m8 hO8=>?_);rw[<-hnx]at hO8;refine Qm Y (Ak (Ai (Ad (Ab (Qx (oA Y) Y (Qm Y (Ak (AZ 0 Y ?_))))))));exact Al (S.length-(i+1)) _ ω ⟨i+1,v8,m8,Y,Y,AE lh l3,Y,ω,hO8⟩ Qs
 ·obtain rfl:i=S.length:=ω
  rw[ct]at hO;refine Av (Aa (Aa (Af (Ad (Aq (Qm Y (Qm Y (Am (An ?_)))))))));exact Ap Y Y (⟨lh,mo,Y,hO⟩)
theorem GO(n:Nat)(p:Int)(gm:Nat)(vm:Value)(Rs:List Value)(R:Nat->List Int)(h:Hp)(a0:∀ms,Cell h ms (⟨gm,0,none⟩:Addr) (.int .i64 p))(hRs:RdL cU 1 h [] vm Rs)(hRl:Rs.length=n)(hn:n<=400)(hR:∀k,k<n->RdL cI 1 h [] (Rs.getD k undef) (R k))(hl:∀k,k<n->(R k).length=n):FnT Tryz.prog 73 #[.pointer (some ⟨gm,0,none⟩),vm] h [] (λr h' ms'=>h.le h'/\Kk r ms' (FH p n n λi j=>(R j).getD i 0)):=by
 have om:=hRs.rd.one;have hnn:n*n<=160000:=by have:=dh hn hn;omega
 subst hRl;refine Au func73 ntmps73 Y Y (λw0 hw0=>?_);simp only[A6];refine Aq (Cx [.w 0,.w 0,.w 0,.nl] Y A4 Y Y (λg4=>BM (Qm Y (Qx (As hRs.rd.any Y CA Y) Y (Qm Y (Am ?_))))));have hm0:0<=(Rs.length:Int)*(Rs.length:Int):=dt ω ω;have hm1:((Rs.length*Rs.length:Nat):Int)=(Rs.length:Int)*(Rs.length:Int):=da _ _;obtain⟨nn,hnn2⟩:∃nn,Rs.length*Rs.length=nn:=⟨_,Y⟩
 rw[hnn2]at hm1 hnn;refine Bg (λsl h' ms'=>∃g6 g22,sl=[(1,vm),(4,.pt g4),(5,.w Rs.length),(6,.pt g6)]/\h=h'/\ms'=[Bh g6 65 [.w p,.w Rs.length,.w Rs.length,.slice (some ⟨g22,0,none⟩) nn nn],Bh g22 3 (replicate nn (.w 0)),Bh g4 65 [.w 0,.w 0,.w 0,.nl]]) ?_ (λs h ms hI=>?_)
 ·refine BK (n:=13) (bs:=[true,true,true,true,true,true,true,true,true,false,false,false,false]) [true,true,true,true,true,true,true,true,true] CT κ κ Y Y (Qq Y (Qq Y (QF Ia Y (QL Y U3 (a0 _) (Qq Y (Qq Y (Qq Y (Qq Y (Qp Y (oM Y) ?_)))))))));unfold Fm;simp only[bl,ay];refine Bf [9,11] κ Y ?_;refine AD Y ?_ ?_
  ·refine CL (n:=nn) Y AN A0 Y Y Y ω ω ω ω Y Y Y (λg22=>Qw (Bd 10 23 κ Y (Da) Y (Bb Kw [.w 0,.w 0,.w 0,.nl] [(0,_),(1,_),(2,_),(3,_)] [_,_,_,_] Y A4 Y Y Qt Y) (Qo 11 Y (Cx [.w 0,.w 0,.w 0,.nl] Y A4 Y Y (λg6=>Qw (Qo 12 Y ?_))))));refine Sa 0 [_,_,_,_] A4 Y (by simp[Value.oneCell']) ?_;refine Qw (Qe ?_);exact Az _ ⟨_,_,Y,Y,Y⟩ Qs
  refine AD Y ?_ ?_
  ·refine Cx [.w 0,.w 0,.w 0,.nl] Y A4 Y Y (λg6=>Qw (Qo 9 Y (CL (n:=nn) Y AN A0 Y Y Y ω ω ω ω Y Y Y (λg22=>Qw (Bd 10 23 κ Y (Da) Y (Bb Kw [.w 0,.w 0,.w 0,.nl] [(0,_),(1,_),(2,_),(3,_)] [_,_,_,_] Y A4 Y Y Qt Y) (Qo 12 Y ?_))))));refine Sa 1 [_,_,_,_] A4 Y (by simp[Value.oneCell']) ?_;refine Qw (Qe ?_)
   (refine To ?_;exact Az _ ⟨_,_,Y,Y,Y⟩ Qs)
  exact Be
 ·obtain⟨g6,g22,rfl,rfl,rfl⟩:=hI;refine Ax λh3 l3 hS6=>?_;have hRs:=hRs.up l3;have hR:=λk hk=>(hR k hk).up l3;have e3:∀ms,Cell h3 ms (⟨g6,3,none⟩:Addr) (.slice (some ⟨g22,0,none⟩) nn nn):=λms=>Seg.all hS6 3 _ Y ms;have s6:∀ms,Seg h3 ms (⟨g6,0,none⟩:Addr) [.w p,.w Rs.length,.w Rs.length,.slice (some ⟨g22,0,none⟩) nn nn]:=λms=>hS6.any;have hO:OwnL cI 1 3 (Bh g22 3 (replicate nn (.w 0))) (.slice (some ⟨g22,0,none⟩) nn nn) (replicate nn 0):=OwnL.rep nn 0 ω;rw[<-hnn2,On,AW (g:=mq R 0 0) (λa _ b _=>(ZT R a b).symm),hnn2]at hO;generalize hev:Value.slice (some ⟨g22,0,none⟩) nn nn=ev at *;generalize Bh g22 3 (replicate nn (.w 0))=me at *;have oe:=hO.o1;refine Ac (Aq (Qm Y (Qx (As hRs.rd.any Y CA Y) Y (Qm Y (Am (Ag ?_))))))
  refine Ay (λq sl h' ms'=>∃(j:Nat) (me:Hp),q=Rs.length-j/\sl=[(4,.pt g4),(5,.w Rs.length),(6,.pt g6),(24,vm),(25,.w Rs.length),(26,.w j)]/\h3=h'/\ms'=[me,Bh g4 65 [.w 0,.w 0,.w 0,.nl]]/\j<=Rs.length/\OwnL cI 1 3 me ev (BV Rs.length Rs.length (mq R j 0)))
   (Rs.length-0) _ ⟨0,me,rfl,rfl,rfl,rfl,ω,hO⟩ Qs ?_
  rintro q sl h' ms' ⟨j,me,rfl,rfl,rfl,rfl,hj,hO⟩;refine Aq (Qm Y (Am (Ac ?_)));refine Ao Y (λhjl=>?_) (λhjl=>?_)
  ·have hjn:j<Rs.length:=ω
   have hRj:=hR j hjn;have lRj:=hl j hjn;have ej:Rs.getD j undef=Rs[j]:=by simp[List.getD,hjn]
   have oj:=hRj.rd.one;have cj:∀ms,Cell h3 ms ((AG vm).add (j*1)) (Rs.getD j undef):=λms=>by rw[ej];exact(hRs.any (ms:=ms)).cell0 hjn Y
   refine Ah (Ad (Ac (Ag (Aq (Qm Y (Qx (BN (j) hRs.rd.any Y CA CI Y Y) Y (Ql Y AN (cj _) (Qm Y (Qm Y (BM (Qm Y (Qx (As hRj.rd.any Y AN Y) Y (Qm Y (Am (Ag ?_)))))))))))))))
   refine Ay (λq sl h' ms'=>∃(k:Nat) (me:Hp),q=(R j).length-k/\sl=[(4,.pt g4),(5,.w Rs.length),(6,.pt g6),(7,.w j),(24,vm),(25,.w Rs.length),(26,.w j),(31,Rs.getD j undef),(32,.w (R j).length),(33,.w k)]/\h3=h'/\ms'=[me,Bh g4 65 [.w 0,.w 0,.w 0,.nl]]/\k<=(R j).length/\OwnL cI 1 3 me ev (BV Rs.length Rs.length (mq R j k)))
    ((R j).length-0) _ ⟨0,me,rfl,rfl,rfl,rfl,ω,hO⟩ Qs ?_
   rintro q sl h' ms' ⟨k,me,rfl,rfl,rfl,rfl,hk,hO⟩;have hO':=hO;refine Aq (Qm Y (Am (Ac ?_)));refine Ao Y (λhkl=>?_) (λhkl=>?_)
   ·have hkn:k<(R j).length:=ω
    have ck:∀ms,Cell h3 ms ((AG (Rs.getD j undef)).add (k*1)) (.w ((R j).getD k 0)):=λms=>by rw[show(R j).getD k 0=(R j)[k] by simp[List.getD,hkn]];exact(hRj.any (ms:=ms)).cell0 hkn Y
    have hix:=Ds (show k<Rs.length by omega) hjn;have hml:(BV Rs.length Rs.length (mq R j k)).length=nn:=by rw[BO,hnn2]
    have hc1:(((k*Rs.length+j:Nat)):Int)=(k:Int)*(Rs.length:Int)+j:=by rw[gj,da]
    have hk0:0<=(k:Int)*(Rs.length:Int):=dt ω ω;rw[hnn2]at hix;refine Ah (Ad (Ac (Ag (Aq (Qm Y (Qx (BN (k) hRj.rd.any Y AN A0 Y Y) Y (Ql Y U3 (ck _) (Qm Y (Qm Y (Gl (Qf Bl Y (Ql Y AN (e3 _) (Qm Y (Qm Y (Qx (oM Y) Y (Qm Y (Qx (oA Y) Y (Qm Y (Qx (AA ((k*Rs.length+j)) (hO'.rd (h:=h3) (ms:=[me,Bh g4 65 [.w 0,.w 0,.w 0,.nl]]) Mh).rd Y AN A0 Y Y ω ω) Y (Ca (F:=cI) (f:=λx=>.w x) (a:=(R j).getD k 0) 0 (k*Rs.length+j) (λ_=>rfl) hO Y A0 Y Y Y Y ω Y Y (λm2 hO2=>?_)))))))))))))))))))));rw[DZ _ hjn,AW (g:=mq R j (k+1)) (λa _ b _=>YZ R j k a b)]at hO2;refine Ak (Ai (Ad (Ab (Qx (oA Y) Y (Qm Y (Ak ?_))))));exact Al ((R j).length-(k+1)) _ ω ⟨k+1,m2,Y,Y,Y,Y,ω,hO2⟩ Qs
   ·have hke:k=Rs.length:=ω
    rw[hke,AW (g:=mq R (j+1) 0) (λa ha b _=>Y9 R a b ha)]at hO;refine Av (Aa (Aa (Af (Ai (Ad (Ab (Qx (oA Y) Y (Qm Y (Ak ?_)))))))));exact Al (Rs.length-(j+1)) _ ω ⟨j+1,me,Y,Y,Y,Y,ω,hO⟩ Qs
  ·have hje:j=Rs.length:=ω
   rw[hje,AW (g:=λi j=>(R j).getD i 0) (λa _ b hb=>by unfold mq;rw[ac hb])]at hO;refine Av (Aa (Aa (Af (Ad (Aq (Qx (oG Y Dr A4 (s6 _)) Y ?_))))));refine Sa 1 [_,_,_,_] A4 Y (by simp[om,oe]) ?_;refine Am (An ?_);exact BC (vs:=[_,_,_,_]) 1 Y Y Dr Y A4 Y Y (⟨l3,ev,me,Y,Y,hO⟩)
end
section
open Go.Lin Go.Sort Go.Srt
theorem ColsO.rdh{vs:List Value}{cs:List (List Int)}{m h:Hp}(C:ColsO m vs cs)(hm:m.le h){k:Nat}(hv:k<vs.length)(hc:k<cs.length):RdL cI 1 h [] (vs.getD k undef) cs[k]:=by obtain⟨a,b,rfl,d,O,_⟩:=C.at_ hv hc;rw[show vs.getD k undef=vs[k] by simp[List.getD,hv]];exact O.rdh (AE (Hp.le_join _ _) hm)
def Eu(n:Nat)(e:List Int)(j:Nat):List Int:=EK n λa=>JK n e a j
noncomputable def Re(n:Nat)(e:List Int):List Int:=(range n).map λj=>AR (Eu n e j)
theorem Pg(n:Nat)(e:List Int)(j:Nat):(Eu n e j).length=n:=Cd _ _
theorem Oy{r c:Nat}{f:Nat->Nat->Int}{i j:Nat}(hi:i<r)(hj:j<c):JK c (BV r c f) i j=f i j:=by
 unfold JK;have h:i*c+j<(BV r c f).length:=by rw[BO];exact Ds hi hj
 rw[ge,ah h,i9,Tf hi hj]
theorem GQ{n:Nat}{e:List Int}{i j:Nat}(hi:i<n):EX (Eu n e) i j=JK n e i j:=by unfold EX Eu;rw[ge,GY? hi,i9]
theorem Yz{n:Nat}{e:List Int}(h:e.length=n*n):BV n n (EX (Eu n e))=e:=by rw[AW (g:=JK n e) λa ha b hb=>GQ ha,<-K5 h]
structure OB(p:Int)(S:List Ce)(o:List Int)(M N:FM):Prop where
 ord:o=Ev S
 rt:N.Rt
 np:N.p=p
 nr:N.rows=S.length
 nc:N.cols=S.length
 pr:M=FH p S.length S.length (D4 p S.length (GP p S) (JK S.length N.e))
 one:∀j,j<S.length->JK S.length N.e j j=1
 aft:∀j i,j<i->i<S.length->JK S.length N.e i j=0
 un:∀j i,j<i->i<S.length->0<=AR (Eu S.length M.e i)->AR (Eu S.length M.e i)≠AR (Eu S.length M.e j)
end
end Go.Proofs.Q