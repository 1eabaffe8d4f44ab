/- A part of the proof. -/
import Derived.Test.YtodheebhahdepaaGreatDoorPG
import Derived.Laws.StructEq
import Derived.ChangeKeysEq
set_option linter.unusedSimpArgs false
set_option linter.unusedVariables false
set_option linter.unusedSectionVars false
set_option maxRecDepth 100000
set_option maxHeartbeats 4000000

open List (length_map length_singleton getElem_mem replicate range length_append nil_append length_take mem_cons cons_append map_append mem_cons_of_mem take_succ_eq_append_getElem map_map take_length length_cons length_range filter_cons)
namespace Go.Proofs.Q
open Go.Proofs.Tryz
open Go.Eng Go.RowKit Go.Lin
def eye(i j:Nat):Int:=if i=j then 1 else 0
theorem Zq(k:Nat)(i j:Nat):F2 (λi j=>if i=j/\i<k then 1 else 0) k k 1 i j=if i=j/\i<k+1 then 1 else 0:=by
 unfold F2;by_cases h:i=k/\j=k
 ·rw[ab h,ab ω]
 ·rw[aa h];show(if i=j/\i<k then 1 else 0)=_;by_cases h2:i=j/\i<k
  ·rw[ab h2,ab ω]
  ·rw[aa h2,aa ω]
theorem Uw(p:Int)(h:Hp)(hI:BS p):FnT Tryz.prog 145 #[.int .i64 p] h [] (λr _ _=>r=.bool (decide (IsP p))):=by
 have hI1:=hI.1;have hI2:=hI.2;refine Ao func145 ntmps145 Y Y (λw0 hw0=>?_);simp only[AX];refine Ap (Qm Y (Am (Ac (Ap (Qm Y (Qm Y (Qm Y ?_)))))));refine AM (t:=6) Y (λhs=>?_) (λhs=>?_)
 ·refine Qk Y (Qk Y (Qm Y (Am (Bu Y (Ap (Qm Y (Am (An (Ae ?_)))))))));exact Au Y Y (by rw[ah];exact λh=>absurd h.1 ω)
 ·refine Qg (As Y Y) Y (Qg (Cf Y Y Y) Y (Qm Y (Am ?_)));refine Ar Y (λhs2=>?_) (λhs2=>?_)
  ·refine Ac (Ad (Qm Y (Am (An (Ae ?_)))));exact Au Y Y (by rw[ah];exact λh=>absurd h.2.1 ω)
  ·refine Ah (Ab (Ac (Ap (Qm Y (Am (Ag ?_))))))
   refine Ax (λn s h' ms'=>∃(k:Nat),n=1000-k/\s=[(0,.w p),(3,.w k)]/\h=h'/\ms'=[]/\2<=k/\k<=1000/\∀j,2<=j->j<k->p.toNat%j≠0)
    (1000-2) _ ⟨2,rfl,rfl,rfl,rfl,ω,ω,λj h1 h2=>ω⟩ Qs ?_
   rintro n s h' ms' ⟨k,rfl,rfl,rfl,rfl,h2,hk,hno⟩;refine Ac (Ap (Qm Y (Qm Y (Qm Y (Am ?_)))));refine Ar Y (λhlt=>?_) (λhlt=>?_)
   ·refine Ah (Ab (Ac (Ag (Ap (Qm Y (Qm Y (Qx (BJ Y Y Y ω ω) Y (Qm Y (Am ?_)))))))));have hm:=Sk (p:=p) ω k ω;refine Ar Y (λhz=>?_) (λhz=>?_)
    ·refine Ac (Ad (Qm Y (Am (An (Aj (Ae (Ae (Aj (Ae ?_)))))))));exact Au Y Y (by rw[ah];exact λh=>absurd (show p.toNat%k=0 by omega) (h.2.2 k ω h2))
    ·refine Ah (Ai (Ab (Ad (Qm Y (Qx (oA Y) Y (Qm Y (Al ?_)))))));refine Ak (1000-(k+1)) _ ω ⟨k+1,Y,Y,Y,Y,ω,ω,λj h1 h3=>?_⟩ Qs;rcases (ω:j<k\/j=k) with h4|h4
     ·exact hno j h1 h4
     ·subst h4;omega
   ·refine Aq (Aa (Aa (Af (Ab (Ap (Qm Y (Am (An ?_))))))));exact Au Y Y (by rw[ag];exact⟨ω,ω,λj h1 h2=>hno j h2 ω⟩)
theorem LH(p:Int)(h:Hp)(hI:BS p)(ms:List Hp):FnV Tryz.prog 145 #[.int .i64 p] h ms (.bool (decide (IsP p))):=DZ (Uw p h hI) ms
theorem Vq(r c:Int)(h:Hp):FnT Tryz.prog 153 #[.int .i64 r,.int .i64 c] h [] (λx _ _=>x=.bool (decide (FH r c))):=by
 refine Ao func153 ntmps153 Y Y (λw0 hw0=>?_);simp only[AX];refine Ap (Qm Y (BE (Qm Y (Qm Y (Qm Y ?_)))));refine AM (t:=7) Y (λhs=>?_) (λhs=>?_)
 ·refine Qg (As Y Y) Y (Qg (Hd Y Y Y) Y (Qm Y (Qm Y ?_)));refine AM (t:=11) Y (λhs2=>?_) (λhs2=>?_)
  ·refine Qg (As Y Y) Y (Qg (JH Y Y Y) Y (Qm Y (Qm Y ?_)));refine AM (t:=15) Y (λhs3=>?_) (λhs3=>?_)
   ·refine Qg (As Y Y) Y (Qg (JH Y Y Y) Y (Qm Y (Qm Y (Am (An ?_)))));exact Au Y Y (by congr 1;rw[decide_eq_decide];unfold FH;omega)
   ·refine Qk Y (Qk Y (Qm Y (Qm Y (Am (An ?_)))));exact Au Y Y (by rw[ah];unfold FH;omega)
  ·refine Qk Y (Qk Y (Qm Y (Qm Y (Qk Y (Qk Y (Qm Y (Qm Y (Am (An ?_)))))))));exact Au Y Y (by rw[ah];unfold FH;omega)
 ·refine Qk Y (Qk Y (Qm Y (Qm Y (Qk Y (Qk Y (Qm Y (Qm Y (Qk Y (Qk Y (Qm Y (Qm Y (Am (An ?_)))))))))))));exact Au Y Y (by rw[ah];unfold FH;omega)
theorem Sr(r c:Int)(h:Hp)(ms:List Hp):FnV Tryz.prog 153 #[.int .i64 r,.int .i64 c] h ms (.bool (decide (FH r c))):=DZ (Vq r c h) ms
theorem Jv(M:FM)(ev:Value)(h:Hp)(hO:M.Ok)(hR:RdL cI 1 h [] ev M.e):FnT Tryz.prog 97 #[.agg #[.int .i64 M.p,.int .i64 M.rows,.int .i64 M.cols,ev]] h [] (λr _ _=>r=.bool (decide M.Rt)):=by
 have hl:=hR.len_le;refine Ao func97 ntmps97 Y Y (λw0 hw0=>?_);simp only[AX];refine Ap (AQ [_,_,_,_] Y Y (by rfl) Y Y Y (λg1=>Qm Y (BE (Qf CW Y (Ql Y U3 (Cell.blk 0 Y Y) (Qx (AG Y call145 Y (LH _ _ hO.p _)) Y (Qm Y (BE (Qf Dg Y (Ql Y U3 (Cell.blk 0 Y Y) (Qf B6 Y (Ql Y U3 (Cell.blk 0 Y Y) (Qx (AG Y call153 Y (Sr _ _ _ _)) Y (Qm Y (Am (Ac (Ap (Qm Y (Qm Y (Qm Y ?_))))))))))))))))))));refine Gk (t:=16) Y (λhp=>?_) (λhp=>?_)
 ·refine Qk Y (Qk Y (Qm Y (Qm Y (Qk Y (Qk Y (Qk Y (Qk Y (Qk Y (Qk Y (Qk Y (Qk Y (Qk Y (Qm Y (Am (Bu Y (Ap (Qm Y (Am (An (Ae ?_))))))))))))))))))));exact Au Y Y (by rw[ah];exact λhx=>absurd hx.1 (by simpa using hp))
 ·have hp:IsP M.p:=by simpa using hp
  refine Qg (As Y Y) Y (Qg (Eo Y Y) Y (Qm Y (Qm Y ?_)));refine Gk (t:=20) Y (λhf=>?_) (λhf=>?_)
  ·refine Qk Y (Qk Y (Qk Y (Qk Y (Qk Y (Qk Y (Qk Y (Qk Y (Qk Y (Qm Y (Am (Bu Y (Ap (Qm Y (Am (An (Ae ?_))))))))))))))));exact Au Y Y (by rw[ah];exact λhx=>absurd hx.2.1 (by simpa using hf))
  ·have hf:FH M.rows M.cols:=by simpa using hf
   have hm:=IU hf;refine Qg (oF BH Y) Y (Qg (oL Y AP (Cell.blk 0 Y Y)) Y (Qg (Av hR.rd.any Y AP Y) Y (Qg (oF Dg Y) Y (Qg (oL Y U3 (Cell.blk 0 Y Y)) Y (Qg (oF B6 Y) Y (Qg (oL Y U3 (Cell.blk 0 Y Y)) Y (Qg (oM Y) Y (Qg (CI Y Y Y) Y (Qm Y (Am ?_))))))))));refine Ar Y (λhlen=>?_) (λhlen=>?_)
   ·refine Ac (Ad (Qm Y (Am (An (Ae ?_)))));exact Au Y Y (by rw[ah];exact λhx=>hlen hx.2.2.1)
   ·have hlen:(M.e.length:Int)=M.rows*M.cols:=Decidable.not_not.1 hlen;refine Ah (Ab (Ac (Ap (Qm Y (Am (Ag ?_))))))
    refine Ax (λn s h' ms'=>∃(k:Nat),n=M.e.length-k/\s=[(1,.pt g1),(5,.w k)]/\h=h'/\ms'=[A8 g1 65 [.w M.p,.w M.rows,.w M.cols,ev]]/\k<=M.e.length/\∀x∈M.e.take k,0<=x/\x<M.p)
     (M.e.length-0) _ ⟨0,rfl,rfl,rfl,rfl,ω,by simp⟩ Qs ?_
    rintro n s h' ms' ⟨k,rfl,rfl,rfl,rfl,hk,hno⟩;refine Ac (Ap (Qm Y (Qf BH Y (Ql Y AP (Cell.blk 0 Y Y) (Qx (Av hR.rd.any Y AP Y) Y (Qm Y (Am ?_)))))));refine Ar Y (λhlt=>?_) (λhlt=>?_)
    ·have hlt':k<M.e.length:=ω
     refine Ah (Ab (Ac (Ag (Ac (A5 14 CT κ Y (Wf BH Y (Wl Y AP (Cell.blk 0 Y Y) (Wm Y (AL (Az _ hR.rd.any Y AP A3 Y Y Y ω) Y Y (Wl Y U3 (hR.any.cell0 hlt' Y) (Wm Y (Wm Y ?_))))))))))));refine Cp (t:=44) Y (λhs=>?_) (λhs=>?_)
     ·refine Ay Y Y Y Y Y (Ay Y Y Y Y Y (Ay Y Y Y Y Y (Ay Y Y Y Y Y (Ay Y Y Y Y Y (Ay Y Y Y Y Y (Ay Y Y Y Y Y (AZ (Qk Y (Qm Y (Am (Bu Y (Ap (Qm Y (Am (An (Aj (Ae (Ae (Aj (Ae ?_))))))))))))))))))));exact Au Y Y (by rw[ah];exact λhx=>by have:=hx.2.2.2 _ (ae hlt');omega)
     ·refine AK (oF BH Y) Y Y Y Y (AK (oL Y AP (Cell.blk 0 Y Y)) Y Y Y Y (AK (As Y Y) Y Y Y Y (AK (Az _ hR.rd.any Y AP A3 Y Y Y ω) Y Y Y Y (AK (oL Y U3 (hR.any.cell0 hlt' Y)) Y Y Y Y (AK (oF CW Y) Y Y Y Y (AK (oL Y U3 (Cell.blk 0 Y Y)) Y Y Y Y (AZ (Qg (Hd Y Y Y) Y (Qm Y (Am ?_))))))))));refine Ar Y (λhs2=>?_) (λhs2=>?_)
      ·refine Ac (Ad (Qm Y (Am (An (Aj (Ae (Ae (Aj (Ae ?_)))))))));exact Au Y Y (by rw[ah];exact λhx=>by have:=hx.2.2.2 _ (ae hlt');omega)
      ·refine Ah (Ai (Ab (Ad (Qm Y (Qx (oA Y) Y (Qm Y (Al ?_)))))));refine Ak (M.e.length-(k+1)) _ ω ⟨k+1,Y,Y,Y,Y,ω,?_⟩ Qs;intro x hx;rw[List.take_add_one,co hlt']at hx;rcases aq.1 hx with hx|hx
       ·exact hno x hx
       ·simp at hx;subst hx;omega
    ·refine Aq (Aa (Aa (Af (Ab (Ap (Qm Y (Am (An ?_))))))));exact Au Y Y (by rw[ag];exact⟨hp,hf,hlen,λx hx=>hno x (by rw[List.take_of_length_le ω];exact hx)⟩)
theorem Lq(p r c:Int)(h:Hp)(hI:BS p):FnT Tryz.prog 146 #[.int .i64 p,.int .i64 r,.int .i64 c] h [] (λv h' ms'=>h=h'/\JX v ms' (Qy p r c)):=by
 refine Ao func146 ntmps146 Y Y (λw0 hw0=>?_);simp only[AX];refine Ap (Cx [.w 0,.w 0,.w 0,.slice none 0 0] Y A7 Y Y (λg6=>BE (Qm Y (Qx (AG Y call145 Y (LH _ _ hI _)) Y (Qm Y (BE (Qm Y (Qm Y (Qx (AG Y call153 Y (Sr _ _ _ _)) Y (Qm Y (Am (Ac (Ap (Qm Y (Qm Y (Qm Y ?_))))))))))))))));refine Gk (t:=16) Y (λhp=>?_) (λhp=>?_)
 ·have hp:¬IsP p:=by simpa using hp
  refine Qk Y (Qk Y (Qm Y (Am (Bu Y (Ap (Qx (Be Rv [.w 0,.w 0,.w 0,.slice none 0 0] [] [_,_,_,_] Y A7 Y Y Qt Y) Y ?_))))));refine Sa 0 [_,_,_,_] A7 Y (by simp[Value.oneCell']) ?_;refine Am (An (Ae (Jz ?_)));exact Bx (vs:=[_,_,_,_]) 1 Y Y D8 Y A7 Y Y (⟨Y,_,_,Y,by unfold Qy;rw[aa (λhx=>hp hx.1)];rfl,by unfold Qy;rw[aa (λhx=>hp hx.1)];exact OwnL.nil Bd⟩)
 ·have hp:IsP p:=by simpa using hp
  refine Qg (As Y Y) Y (Qg (Eo Y Y) Y (Qm Y (Am ?_)));refine Bz Y (λhf=>?_) (λhf=>?_)
  ·have hf:¬FH r c:=by simpa using hf
   refine Ap (Qx (Be Rv [.w 0,.w 0,.w 0,.slice none 0 0] [] [_,_,_,_] Y A7 Y Y Qt Y) Y ?_);refine Sa 0 [_,_,_,_] A7 Y (by simp[Value.oneCell']) ?_;refine Am (An (Ae (Jz ?_)));exact Bx (vs:=[_,_,_,_]) 1 Y Y D8 Y A7 Y Y (⟨Y,_,_,Y,by unfold Qy;rw[aa (λhx=>hf hx.2)];rfl,by unfold Qy;rw[aa (λhx=>hf hx.2)];exact OwnL.nil Bd⟩)
  ·have hf:FH r c:=by simpa using hf
   have hm:=IU hf;obtain⟨n,hn⟩:∃n:Nat,r*c=n:=⟨(r*c).toNat,ω⟩
   refine Ah (Ab (Ap (Qm Y (Qm Y (Qm Y (Qm Y (Qm Y (Qx (oM Y) Y (CA (n:=n) Y AP A3 Y Y Y ω ω ω ω Y Y Y (λg27=>Qx (Be Rv [.w 0,.w 0,.w 0,.slice none 0 0] [(0,_),(1,_),(2,_),(3,_)] [_,_,_,_] Y A7 Y Y Qt Y) Y ?_))))))))));refine Sa 1 [_,_,_,_] A7 Y (by simp[Value.oneCell']) ?_;refine Am (An ?_);exact Bx (vs:=[_,_,_,_]) 1 Y Y D8 Y A7 Y Y (⟨Y,_,_,Y,by unfold Qy;rw[ab ⟨hp,hf⟩],by unfold Qy;rw[ab ⟨hp,hf⟩,hn];exact OwnL.rep n 0 ω⟩)
theorem YC(p:Int)(n:Nat)(h:Hp)(hp:IsP p)(hn:n<=400):FnT Tryz.prog 87 #[.int .i64 p,.int .i64 n] h [] (λv h' ms'=>h=h'/\JX v ms' (Ja p n n eye)):=by
 have hI:BS p:=⟨by have:=hp.1;omega,by have:=hp.2.1;omega⟩
 refine Ao func87 ntmps87 Y Y (λw0 hw0=>?_);simp only[AX];refine Ap (Cx [.w 0,.w 0,.w 0,.slice none 0 0] Y A7 Y Y (λg4=>BE (Qm Y (Qm Y (Qm Y (Qc call146 Y (Lq p n n h hI) (λv h1 ms1 l1 hF=>?_)))))));obtain⟨rfl,ev,m,rfl,rfl,hO⟩:=hF;rw[Kh hp hn hn]at hO ⊢;have hO2:=hO.own.1;have he1:=hO.o1;refine Cx [.w 0,.w 0,.w 0,.slice none 0 0] Y A7 Y Y (λg5=>?_);refine Sa 0 [_,_,_,_] A7 Y (by simp[he1]) ?_;refine Am (Ac (Ap (Qm Y (Am (Ag ?_)))))
 refine Ax (λq s h' ms'=>∃(k:Nat) (m:Hp),q=n-k/\s=[(1,.w n),(4,.pt g4),(5,.pt g5),(6,.w k)]/\h=h'/\ms'=[A8 g5 65 [.w p,.w n,.w n,ev],m,A8 g4 65 [.w 0,.w 0,.w 0,.slice none 0 0]]/\k<=n/\OwnL cI 1 3 m ev (BN n n λi j=>if i=j/\i<k then 1 else 0))
  (n-0) _ ⟨0,m,rfl,rfl,rfl,rfl,ω,by rw[AS (g:=λ_ _=>0) (λi _ j _=>aa ω)];exact hO⟩ Qs ?_
 rintro q s h' ms' ⟨k,m,rfl,rfl,rfl,rfl,hk,hO⟩;refine Ac (Ap (Qm Y (Qf Dg Y (Ql Y U3 (Cell.blk 0 Y Y) (Qm Y (Am ?_))))));refine Ar Y (λhlt=>?_) (λhlt=>?_)
 ·have hkn:k<n:=ω
  have hix:=DO hkn hkn;have hl:(BN n n λi j=>if i=j/\i<k then 1 else 0).length=n*n:=BK _ _ _;have hkk:k*n<=400*400:=dd ω hn;refine Ah (Ab (Ac (Ag (Ad (Qf BH Y (Ql Y AP (Cell.blk 0 Y Y) (Qm Y (Qm Y (Qx (oM Y) Y (Qm Y (Qx (oA Y) Y (Qx (Az (k*n+k) (hO.rd (List.Mem.tail _ Mh)).rd Y AP A3 Y Y ω ω) Y (CP 1 (k*n+k) hO Y A3 Y Y Y ω Y Y (λm' hO'=>Al (Ai (Ab (Ad (Qm Y (Qx (oA Y) Y (Qm Y (Al ?_)))))))))))))))))))));refine Ak (n-(k+1)) _ ω ⟨k+1,m',Y,Y,Y,Y,ω,?_⟩ Qs;rw[Fk _ hkn,AS (λi _ j _=>Zq k i j)]at hO';exact hO'
 ·refine Aq (Aa (Aa (Af (Ab (Ap (Qx (oG Y D8 A7 (Seg.blk 0 Y)) Y ?_))))));refine Sa 2 [_,_,_,_] A7 Y (by simp[he1]) ?_;refine Am (An (AR ?_));exact Bx (vs:=[_,_,_,_]) 1 Y Y D8 Y A7 Y Y (⟨Y,ev,m,Y,Y,by rw[show k=n by omega,AS (g:=eye) (λi hi j hj=>by unfold eye;simp only[hi,and_true])]at hO;exact hO⟩)
variable {p:Int} {r c:Nat} {f:Nat->Nat->Int} {ev:Value} {h:Hp}
theorem Xi(M N:FM)(ev eu:Value)(h:Hp)(hOM:M.Ok)(hON:N.Ok)(hRM:RdL cI 1 h [] ev M.e)(hRN:RdL cI 1 h [] eu N.e):FnT Tryz.prog 154 #[.agg #[.int .i64 M.p,.int .i64 M.rows,.int .i64 M.cols,ev],.agg #[.int .i64 N.p,.int .i64 N.rows,.int .i64 N.cols,eu]] h [] (λr _ _=>r=.bool (decide (M.Rt/\N.Rt/\M.p=N.p))):=by
 refine Ao func154 ntmps154 Y Y (λw0 hw0=>?_);simp only[AX];refine Ap (AQ [_,_,_,_] Y Y (by rfl) Y Y Y (λg2=>AQ [_,_,_,_] Y Y (by rfl) Y Y Y (λg3=>Qm Y (BE (Qx (oG Y D8 A7 (Seg.blk 1 Y)) Y (Qx (AG Y call97 Y (DZ (Jv M ev h hOM hRM) _)) Y (Qm Y (BE (Qx (oG Y D8 A7 (Seg.blk 0 Y)) Y (Qx (AG Y call97 Y (DZ (Jv N eu h hON hRN) _)) Y (Qm Y (BE (Qm Y (Qm Y ?_))))))))))))));refine AM (t:=12) Y (λhs=>?_) (λhs=>?_)
 ·refine Qg (As Y Y) Y (Qm Y (Qm Y ?_));refine AM (t:=15) Y (λhs2=>?_) (λhs2=>?_)
  ·refine Qg (oF CW Y) Y (Qg (oL Y U3 (Cell.blk 1 Y Y)) Y (Qg (oF CW Y) Y (Qg (oL Y U3 (Cell.blk 0 Y Y)) Y (Qg (CD Y Y Y) Y (Qm Y (Qm Y (Am (An ?_))))))));exact Au Y Y (by congr 1;rw[decide_eq_decide];simp[hs,hs2])
  ·refine Qk Y (Qk Y (Qk Y (Qk Y (Qk Y (Qm Y (Qm Y (Am (An ?_))))))));exact Au Y Y (by rw[ah];exact λhx=>hs2 hx.2.1)
 ·refine Qk Y (Qm Y (Qm Y (Qk Y (Qk Y (Qk Y (Qk Y (Qk Y (Qm Y (Qm Y (Am (An ?_)))))))))));exact Au Y Y (by rw[ah];exact λhx=>hs hx.1)
theorem XO{r' c':Nat}{g:Nat->Nat->Int}{eu:Value}(R:RtM p r c f)(S:RtM p r' c' g)(hR:RdL cI 1 h [] ev (BN r c f))(hS:RdL cI 1 h [] eu (BN r' c' g))(ms:List Hp):FnV Tryz.prog 151 #[.agg #[.int .i64 p,.int .i64 r,.int .i64 c,ev],.agg #[.int .i64 p,.int .i64 r',.int .i64 c',eu]] h ms (.bool true):=by have:=DZ (ZL (Ja p r c f) (Ja p r' c' g) ev eu h R.ok S.ok hR hS) ms;rw[ag (show(Ja p r c f).Rt/\(Ja p r' c' g).Rt/\(Ja p r c f).p=(Ja p r' c' g).p from⟨R.rt,S.rt,Y⟩)]at this;exact this
theorem SJ{r' c':Nat}{g:Nat->Nat->Int}{eu:Value}(R:RtM p r c f)(S:RtM p r' c' g)(hR:RdL cI 1 h [] ev (BN r c f))(hS:RdL cI 1 h [] eu (BN r' c' g))(ms:List Hp):FnV Tryz.prog 154 #[.agg #[.int .i64 p,.int .i64 r,.int .i64 c,ev],.agg #[.int .i64 p,.int .i64 r',.int .i64 c',eu]] h ms (.bool true):=by have:=DZ (Xi (Ja p r c f) (Ja p r' c' g) ev eu h R.ok S.ok hR hS) ms;rw[ag (show(Ja p r c f).Rt/\(Ja p r' c' g).Rt/\(Ja p r c f).p=(Ja p r' c' g).p from⟨R.rt,S.rt,Y⟩)]at this;exact this
theorem Ow(R:RtM p r c f)(hR:RdL cI 1 h [] ev (BN r c f))(ms:List Hp):FnV Tryz.prog 97 #[.agg #[.int .i64 p,.int .i64 r,.int .i64 c,ev]] h ms (.bool true):=by have:=DZ (Jv (Ja p r c f) ev h R.ok hR) ms;rw[ag R.rt]at this;exact this
end Go.Proofs.Q

namespace Go.Proofs.Q
open Go.Proofs.Tryz
open Go.Eng Go.RowKit Go.Lin
def L8(p:Int)(k:Nat)(f g:Nat->Nat->Int)(i j:Nat):Int:=sm k (λt=>f i t*g t j)%p
def part(p:Int)(k:Nat)(f g:Nat->Nat->Int)(i t j a b:Nat):Int:=sm (if a<i then k else if a=i then(if b<j then t+1 else t) else 0) (λt=>f a t*g t b)%p
theorem MT(p:Int)(k:Nat)(f g:Nat->Nat->Int)(a b:Nat):part p k f g 0 0 0 a b=0:=by
 unfold part;rw[aa ω];by_cases h:a=0
 ·rw[ab h,aa ω];exact Int.zero_emod p
 ·rw[aa h];exact Int.zero_emod p
theorem MI(p:Int)(k:Nat)(f g:Nat->Nat->Int)(i t j a b:Nat):F2 (part p k f g i t j) i j ((part p k f g i t j i j+f i t*g t j)%p) a b=part p k f g i t (j+1) a b:=by
 unfold F2;by_cases h:a=i/\b=j
 ·obtain⟨rfl,rfl⟩:=h;rw[ab ⟨rfl,rfl⟩];unfold part;rw[aa ω,ab rfl,aa ω,aa ω,ab rfl,ab ω,Int.emod_add_emod];rfl
 ·rw[aa h];unfold part;by_cases h1:a<i
  ·rw[ab h1,ab h1]
  ·rw[aa h1,aa h1];by_cases h2:a=i
   ·rw[ab h2,ab h2];by_cases h3:b<j
    ·rw[ab h3,ab ω]
    ·rw[aa h3,aa ω]
   ·rw[aa h2,aa h2]
theorem MK(p:Int)(k:Nat)(f g:Nat->Nat->Int)(i t c a b:Nat)(hb:b<c):part p k f g i t c a b=part p k f g i (t+1) 0 a b:=by
 unfold part;by_cases h1:a<i
 ·rw[ab h1,ab h1]
 ·rw[aa h1,aa h1];by_cases h2:a=i
  ·rw[ab h2,ab h2,ab hb,aa ω]
  ·rw[aa h2,aa h2]
theorem Ti(p:Int)(k:Nat)(f g:Nat->Nat->Int)(i t a b:Nat)(hz:f i t=0):part p k f g i t 0 a b=part p k f g i (t+1) 0 a b:=by
 unfold part;by_cases h1:a<i
 ·rw[ab h1,ab h1]
 ·rw[aa h1,aa h1];by_cases h2:a=i
  ·subst h2;rw[ab rfl,ab rfl,aa ω,aa ω];show _=(sm t _+f a t*g t b)%p;rw[hz,Int.zero_mul,cw]
  ·rw[aa h2,aa h2]
theorem Ip(p:Int)(k:Nat)(f g:Nat->Nat->Int)(i a b:Nat):part p k f g i k 0 a b=part p k f g (i+1) 0 0 a b:=by
 unfold part;by_cases h1:a<i
 ·rw[ab h1,ab ω]
 ·rw[aa h1];by_cases h2:a=i
  ·rw[ab h2,aa ω,ab ω]
  ·rw[aa h2,aa ω];by_cases h3:a=i+1
   ·rw[ab h3,aa ω]
   ·rw[aa h3]
theorem OW(p:Int)(k:Nat)(f g:Nat->Nat->Int)(r a b:Nat)(ha:a<r):part p k f g r 0 0 a b=L8 p k f g a b:=by unfold part L8;rw[ab ha]
theorem R6{p:Int}(hp:0<p)(k:Nat)(f g:Nat->Nat->Int)(i t j a b:Nat):0<=part p k f g i t j a b/\part p k f g i t j a b<p:=
 ⟨da _ ω,dc _ hp⟩
theorem Nf(p:Int)(r k c:Nat)(f g:Nat->Nat->Int)(ev eu:Value)(h:Hp)(R:RtM p r k f)(S:RtM p k c g)(hR:RdL cI 1 h [] ev (BN r k f))(hS:RdL cI 1 h [] eu (BN k c g)) :
  FnT Tryz.prog 93 #[.agg #[.w p,.w r,.w k,ev],.agg #[.w p,.w k,.w c,eu]] h [] (λx h' ms'=>h=h'/\∃v,x=.tuple #[v,.bool true]/\JX v ms' (Ja p r c (L8 p k f g))):=by
 have hb:=R.bd;have rl:=R.rl;have kl:=R.cl;have cl:=S.cl;refine Ao func93 ntmps93 Y Y (λw0 hw0=>?_);simp only[AX];refine Ap (AQ [_,_,_,_] Y Y (by rfl) Y Y Y (λg2=>AQ [_,_,_,_] Y Y (by rfl) Y Y Y (λg3=>Cx [.w 0,.w 0,.w 0,.slice none 0 0] Y A7 Y Y (λg4=>Qm Y (Am (Ac (Ap (Qx (oG Y D8 A7 (Seg.blk 2 Y)) Y (Qx (oG Y D8 A7 (Seg.blk 1 Y)) Y (Qx (AG Y call151 Y (XO R S hR hS _)) Y (Qm Y (Qm Y (Qg (oF B6 Y) Y (Qg (oL Y U3 (Cell.blk 2 Y Y)) Y (Qg (oF Dg Y) Y (Qg (oL Y U3 (Cell.blk 1 Y Y)) Y (Qg (CI Y Y Y) Y (Qm Y (Am (Ar Y (λhc=>absurd hc ω) (λhc=>Ah (Ab (Ap (Qf CW Y (Ql Y U3 (Cell.blk 2 Y Y) (Qf Dg Y (Ql Y U3 (Cell.blk 2 Y Y) (Qf B6 Y (Ql Y U3 (Cell.blk 1 Y Y) (Qc call125 Y (S8 p r c h R.i64) (λv h1 ms1 l1 hF=>?_)))))))))))))))))))))))))))))));obtain⟨rfl,ew,m,rfl,rfl,hO⟩:=hF;rw[Kh R.pr rl cl]at hO ⊢;have he1:=hO.o1;refine Cx [.w 0,.w 0,.w 0,.slice none 0 0] Y A7 Y Y (λg6=>?_);refine Sa 0 [_,_,_,_] A7 Y (by simp[he1]) ?_;refine Am (Ac (Ap (Qf Dg Y (Ql Y U3 (Cell.blk 4 Y Y) (Qm Y (Am (Ag ?_)))))))
 refine Ax (λq s h' ms'=>∃(i:Nat) (m:Hp),q=r-i/\s=[(2,.pt g2),(3,.pt g3),(4,.pt g4),(6,.pt g6),(33,.w r),(34,.w i)]/\h=h'/\ms'=[A8 g6 65 [.w p,.w r,.w c,ew],m,A8 g4 65 [.w 0,.w 0,.w 0,.slice none 0 0],A8 g3 65 [.w p,.w k,.w c,eu],A8 g2 65 [.w p,.w r,.w k,ev]]/\i<=r/\OwnL cI 1 3 m ew (BN r c (part p k f g i 0 0)))
  (r-0) _ ⟨0,m,rfl,rfl,rfl,rfl,ω,by rw[AS (g:=λ_ _=>0) (λa _ b _=>MT p k f g a b)];exact hO⟩ Qs ?_
 rintro q s h' ms' ⟨i,m,rfl,rfl,rfl,rfl,hi,hO⟩;refine Ap (Qm Y (Am (Ac ?_)));refine Ar Y (λhlt=>?_) (λhlt=>?_)
 ·have hir:i<r:=ω
  have e1:(i+1)*k=i*k+k:=by rw[Nat.add_mul,Nat.one_mul]
  have b1:(i+1)*k<=r*k:=Nat.mul_le_mul_right k hir;have b2:r*k<=400*400:=dd rl kl;have el:(BN r k f).length=r*k:=BK _ _ _;have e3:((i:Int)+1)*k=i*k+k:=by rw[Int.add_mul,Int.one_mul]
  refine Ah (Ab (Ac (Ag (Ap (Qm Y (Qm Y (BE (Qf BH Y (Ql Y AP (Cell.blk 4 Y Y) (Qm Y (Qf B6 Y (Ql Y U3 (Cell.blk 4 Y Y) (Qx (oM Y) Y (Qm Y (Qx (oA Y) Y (Qf B6 Y (Ql Y U3 (Cell.blk 4 Y Y) (Qx (oM Y) Y (Qx (GP (i*k) ((i+1)*k) hR.rd.any Y AP A3 Y Y Y ω ω ω ω) Y (Qx (Av (hR.row hir).rd.any Y AP Y) Y (Qm Y (Am (Ag ?_)))))))))))))))))))))))
  refine Ax (λq s h' ms'=>∃(t:Nat) (m:Hp),q=k-t/\s=[(2,.pt g2),(3,.pt g3),(4,.pt g4),(6,.pt g6),(7,.w i),(33,.w r),(34,.w i),(48,B0 1 ev (i*k) ((i+1)*k)),(49,.w ((Fu k (f i)).length:Nat)),(50,.w t)]/\h=h'/\ms'=[A8 g6 65 [.w p,.w r,.w c,ew],m,A8 g4 65 [.w 0,.w 0,.w 0,.slice none 0 0],A8 g3 65 [.w p,.w k,.w c,eu],A8 g2 65 [.w p,.w r,.w k,ev]]/\t<=k/\OwnL cI 1 3 m ew (BN r c (part p k f g i t 0)))
   (k-0) _ ⟨0,m,rfl,rfl,rfl,rfl,ω,hO⟩ Qs ?_
  rintro q s h' ms' ⟨t,m,rfl,rfl,rfl,rfl,ht,hO⟩;have ek:=Ca k (f i);refine Ap (Qm Y (Am (Ac ?_)));refine Ar Y (λhlt2=>?_) (λhlt2=>?_)
  ·have htk:t<k:=ω
   have d1:(t+1)*c=t*c+c:=by rw[Nat.add_mul,Nat.one_mul]
   have c1:(t+1)*c<=k*c:=Nat.mul_le_mul_right c htk;have c2:k*c<=400*400:=dd kl cl;have el2:(BN k c g).length=k*c:=BK _ _ _;have d3:((t:Int)+1)*c=t*c+c:=by rw[Int.add_mul,Int.one_mul]
   refine Ah (Ab (Ac (Ag (Ap (Qm Y (Qx (Az _ (hR.row hir).rd.any Y AP A3 Y Y Y ω) Y (Ql Y U3 ((hR.row hir).any.ev htk) (Qm Y (Qm Y (BE (Qf BH Y (Ql Y AP (Cell.blk 3 Y Y) (Qm Y (Qf B6 Y (Ql Y U3 (Cell.blk 3 Y Y) (Qx (oM Y) Y (Qm Y (Qx (oA Y) Y (Qf B6 Y (Ql Y U3 (Cell.blk 3 Y Y) (Qx (oM Y) Y (Qx (GP (t*c) ((t+1)*c) hS.rd.any Y AP A3 Y Y Y ω ω ω ω) Y (Qx (Av (hS.row htk).rd.any Y AP Y) Y (Qm Y (Am (Ag ?_))))))))))))))))))))))))))
   refine Ax (λq s h' ms'=>∃(j:Nat) (m:Hp),q=c-j/\s=[(2,.pt g2),(3,.pt g3),(4,.pt g4),(6,.pt g6),(7,.w i),(9,.w (f i t)),(33,.w r),(34,.w i),(48,B0 1 ev (i*k) ((i+1)*k)),(49,.w ((Fu k (f i)).length:Nat)),(50,.w t),(66,B0 1 eu (t*c) ((t+1)*c)),(67,.w ((Fu c (g t)).length:Nat)),(68,.w j)]/\h=h'/\ms'=[A8 g6 65 [.w p,.w r,.w c,ew],m,A8 g4 65 [.w 0,.w 0,.w 0,.slice none 0 0],A8 g3 65 [.w p,.w k,.w c,eu],A8 g2 65 [.w p,.w r,.w k,ev]]/\j<=c/\OwnL cI 1 3 m ew (BN r c (part p k f g i t j)))
    (c-0) _ ⟨0,m,rfl,rfl,rfl,rfl,ω,hO⟩ Qs ?_
   rintro q s h' ms' ⟨j,m,rfl,rfl,rfl,rfl,hj,hO⟩;have ec:=Ca c (g t);refine Ap (Qm Y (Am (Ac ?_)));refine Ar Y (λhlt3=>?_) (λhlt3=>?_)
   ·have hjc:j<c:=ω
    have hix:=DO hir hjc;have hrc:r*c<=400*400:=dd rl cl;have el3':(BN r c (part p k f g i t j)).length=r*c:=BK _ _ _;have hbp:=R6 (show 0<p by omega) k f g i t j i j;have hbm:=Hr (R.en i hir t htk) (S.en t htk j hjc) hb.2;have hfb:=R.en i hir t htk;have hgb:=S.en t htk j hjc;refine Ah (Ab (Ac (Ag (Ap (Qm Y (Qx (Az _ (hS.row htk).rd.any Y AP A3 Y Y Y ω) Y (Ql Y U3 ((hS.row htk).any.ev hjc) (Qm Y (Qm Y (BE (Qm Y (Qf B6 Y (Ql Y U3 (Cell.blk 3 Y Y) (Qx (oM Y) Y (Qm Y (Qx (oA Y) Y (Qm Y (Am (A5 15 CT κ Y (Wf BH Y (Wl Y AP (Cell.blk 0 Y Y) (Wm Y (Wf BH Y (Wl Y AP (Cell.blk 0 Y Y) (Wm Y (AL (Az (i*c+j) (hO.rd (List.Mem.tail _ Mh)).rd Y AP A3 Y Y ω ω) Y Y (Wl Y U3 ((hO.rd (ms:=[A8 g6 65 [.w p,.w r,.w c,ew],m,A8 g4 65 [.w 0,.w 0,.w 0,.slice none 0 0],A8 g3 65 [.w p,.w k,.w c,eu],A8 g2 65 [.w p,.w r,.w k,ev]]) (List.Mem.tail _ Mh)).ent hir hjc) (Wm Y (Wm Y (AL (oM Y) Y Y (AL (oA Y) Y Y (Wf CW Y (Wl Y U3 (Cell.blk 4 Y Y) (AL (BJ Y Y Y ω ω) Y Y (AZ (Qx (Az (i*c+j) (hO.rd (List.Mem.tail _ Mh)).rd Y AP A3 Y Y ω ω) Y (CP 1 (i*c+j) hO Y A3 Y Y Y ω Y Y (λm' hO'=>Al (Ai ?_)))))))))))))))))))))))))))))))))))))));refine Ab (Ad (Qx (oA Y) Y (Qm Y (Al ?_))));refine Ak (c-(j+1)) _ ω ⟨j+1,m',Y,Y,Y,Y,ω,?_⟩ Qs;rw[Fk _ hjc,AS (λa _ b _=>MI p k f g i t j a b)]at hO';exact hO'
   ·refine Aq (Aa (Aa (Af (Ai (Ab (Ad (Qx (oA Y) Y (Qm Y (Al ?_)))))))));obtain rfl:j=c:=ω
    refine Ak (k-(t+1)) _ ω ⟨t+1,m,Y,Y,Y,Y,ω,?_⟩ Qs;rw[AS (λa _ b hb=>MK p k f g i t j a b hb)]at hO;exact hO
  ·refine Aq (Aa (Aa (Af (Ai (Ab (Ad (Qx (oA Y) Y (Qm Y (Al ?_)))))))));obtain rfl:t=k:=ω
   refine Ak (r-(i+1)) _ ω ⟨i+1,m,Y,Y,Y,Y,ω,?_⟩ Qs;rw[AS (λa _ b hb=>Ip p t f g i a b)]at hO;exact hO
 ·refine Aq (Aa (Aa (Af (Ab (Ap (Qx (oG Y D8 A7 (Seg.blk 0 Y)) Y ?_))))));refine Sa 2 [_,_,_,_] A7 Y (by simp[he1]) ?_;refine Qm Y (Am (An ?_));obtain rfl:i=r:=ω
  refine A4 4 Y (A4 3 Y (A4 0 Y ?_));exact EX (vs:=[_,_,_,_]) 1 Y Y Y D8 Y A7 Y Y (⟨Y,_,Y,ew,m,Y,Y,by rw[AS (λa ha b hb=>OW p k f g i a b ha)]at hO;exact hO⟩)
theorem Zn(p:Int)(r k c:Nat)(f g:Nat->Nat->Int)(ev eu:Value)(h:Hp)(R:RtM p r k f)(S:RtM p k c g)(hR:RdL cI 1 h [] ev (BN r k f))(hS:RdL cI 1 h [] eu (BN k c g)) :
  FnT Tryz.prog 98 #[.agg #[.w p,.w r,.w k,ev],.agg #[.w p,.w k,.w c,eu]] h [] (λx h' ms'=>h=h'/\∃v,x=.tuple #[v,.bool true]/\JX v ms' (Ja p r c (L8 p k f g))):=by
 have hb:=R.bd;have rl:=R.rl;have kl:=R.cl;have cl:=S.cl;refine Ao func98 ntmps98 Y Y (λw0 hw0=>?_);simp only[AX];refine Ap (AQ [_,_,_,_] Y Y (by rfl) Y Y Y (λg2=>AQ [_,_,_,_] Y Y (by rfl) Y Y Y (λg3=>Cx [.w 0,.w 0,.w 0,.slice none 0 0] Y A7 Y Y (λg4=>Qm Y (BE (Qx (oG Y D8 A7 (Seg.blk 2 Y)) Y (Qx (oG Y D8 A7 (Seg.blk 1 Y)) Y (Qx (AG Y call154 Y (SJ R S hR hS _)) Y (Qm Y (Am (Ac (Ap (Qm Y (Qm Y (Qm Y (Qg (oF B6 Y) Y (Qg (oL Y U3 (Cell.blk 2 Y Y)) Y (Qg (oF Dg Y) Y (Qg (oL Y U3 (Cell.blk 1 Y Y)) Y (Qg (CI Y Y Y) Y (Qm Y (Am (Ar Y (λhc=>absurd hc ω) (λhc=>Ah (Ab (Ap (Qf CW Y (Ql Y U3 (Cell.blk 2 Y Y) (Qf Dg Y (Ql Y U3 (Cell.blk 2 Y Y) (Qf B6 Y (Ql Y U3 (Cell.blk 1 Y Y) (Qc call146 Y (Lq p r c h R.i64) (λv h1 ms1 l1 hF=>?_))))))))))))))))))))))))))))))))));obtain⟨rfl,ew,m,rfl,rfl,hO⟩:=hF;rw[Kh R.pr rl cl]at hO ⊢;have he1:=hO.o1;refine Cx [.w 0,.w 0,.w 0,.slice none 0 0] Y A7 Y Y (λg7=>?_);refine Sa 0 [_,_,_,_] A7 Y (by simp[he1]) ?_;refine Am (Ac (Ap (Qm Y (Am (Ag ?_)))))
 refine Ax (λq s h' ms'=>∃(i:Nat) (m:Hp),q=r-i/\s=[(2,.pt g2),(3,.pt g3),(4,.pt g4),(7,.pt g7),(8,.w i)]/\h=h'/\ms'=[A8 g7 65 [.w p,.w r,.w c,ew],m,A8 g4 65 [.w 0,.w 0,.w 0,.slice none 0 0],A8 g3 65 [.w p,.w k,.w c,eu],A8 g2 65 [.w p,.w r,.w k,ev]]/\i<=r/\OwnL cI 1 3 m ew (BN r c (part p k f g i 0 0)))
  (r-0) _ ⟨0,m,rfl,rfl,rfl,rfl,ω,by rw[AS (g:=λ_ _=>0) (λa _ b _=>MT p k f g a b)];exact hO⟩ Qs ?_
 rintro q s h' ms' ⟨i,m,rfl,rfl,rfl,rfl,hi,hO⟩;refine Ac (Ap (Qm Y (Qf Dg Y (Ql Y U3 (Cell.blk 4 Y Y) (Qm Y (Am ?_))))));refine Ar Y (λhlt=>?_) (λhlt=>?_)
 ·have hir:i<r:=ω
  have b2:r*k<=400*400:=dd rl kl;have b3:r*c<=400*400:=dd rl cl;have b4:k*c<=400*400:=dd kl cl;have el:(BN r k f).length=r*k:=BK _ _ _;have el2:(BN k c g).length=k*c:=BK _ _ _;refine Ah (Ab (Ac (Ag (Ap (Qm Y (Am (Ag ?_)))))))
  refine Ax (λq s h' ms'=>∃(t:Nat) (m:Hp),q=k-t/\s=[(2,.pt g2),(3,.pt g3),(4,.pt g4),(7,.pt g7),(8,.w i),(9,.w t)]/\h=h'/\ms'=[A8 g7 65 [.w p,.w r,.w c,ew],m,A8 g4 65 [.w 0,.w 0,.w 0,.slice none 0 0],A8 g3 65 [.w p,.w k,.w c,eu],A8 g2 65 [.w p,.w r,.w k,ev]]/\t<=k/\OwnL cI 1 3 m ew (BN r c (part p k f g i t 0)))
   (k-0) _ ⟨0,m,rfl,rfl,rfl,rfl,ω,hO⟩ Qs ?_
  rintro q s h' ms' ⟨t,m,rfl,rfl,rfl,rfl,ht,hO⟩;refine Ac (Ap (Qm Y (Qf B6 Y (Ql Y U3 (Cell.blk 4 Y Y) (Qm Y (Am ?_))))));refine Ar Y (λhlt2=>?_) (λhlt2=>?_)
  ·have htk:t<k:=ω
   have hix:=DO hir htk;have hfb:=R.en i hir t htk;refine Ah (Ab (Ac (Ag (Ap (Qf BH Y (Ql Y AP (Cell.blk 4 Y Y) (Qm Y (Qf B6 Y (Ql Y U3 (Cell.blk 4 Y Y) (Qx (oM Y) Y (Qm Y (Qx (oA Y) Y (Qx (BG (i*k+t) hR.rd.any Y AP A3 Y Y) Y (Ql Y U3 (hR.any.ent hir htk) (Qm Y (BE (Qm Y (Am (Ag ?_)))))))))))))))))))
   refine Ax (λq s h' ms'=>∃(j:Nat) (m:Hp),q=c-j/\s=[(2,.pt g2),(3,.pt g3),(4,.pt g4),(7,.pt g7),(8,.w i),(9,.w t),(10,.w (f i t)),(11,.w j)]/\h=h'/\ms'=[A8 g7 65 [.w p,.w r,.w c,ew],m,A8 g4 65 [.w 0,.w 0,.w 0,.slice none 0 0],A8 g3 65 [.w p,.w k,.w c,eu],A8 g2 65 [.w p,.w r,.w k,ev]]/\j<=c/\(f i t=0->j=0)/\OwnL cI 1 3 m ew (BN r c (part p k f g i t j)))
    (c-0) _ ⟨0,m,rfl,rfl,rfl,rfl,ω,λ_=>rfl,hO⟩ Qs ?_
   rintro q s h' ms' ⟨j,m,rfl,rfl,rfl,rfl,hj,hj0,hO⟩;refine Ac (Ap (Qm Y (Qf B6 Y (Ql Y U3 (Cell.blk 3 Y Y) (Qm Y (Qm Y ?_))))));refine AM (t:=58) Y (λhlt3=>?_) (λhlt3=>?_)
   ·refine Qg (As Y Y) Y (Qg (Cf Y Y Y) Y (Qm Y (Am ?_)));refine Ar Y (λhpos=>?_) (λhpos=>?_)
    ·have hjc:j<c:=ω
     have hix2:=DO hir hjc;have hix3:=DO htk hjc;have el3':(BN r c (part p k f g i t j)).length=r*c:=BK _ _ _;have hbp:=R6 (show 0<p by omega) k f g i t j i j;have hgb:=S.en t htk j hjc;have hbm:=Hr hfb hgb hb.2;refine Ah (Ab (Ac (Ag (A5 34 CT κ Y (Wf BH Y (Wl Y AP (Cell.blk 0 Y Y) (Wm Y (Wf B6 Y (Wl Y U3 (Cell.blk 3 Y Y) (AL (oM Y) Y Y (Wm Y (AL (oA Y) Y Y (Wf BH Y (Wl Y AP (Cell.blk 0 Y Y) (Wm Y (Wf B6 Y (Wl Y U3 (Cell.blk 3 Y Y) (AL (oM Y) Y Y (Wm Y (AL (oA Y) Y Y (AL (Az (i*c+j) (hO.rd (List.Mem.tail _ Mh)).rd Y AP A3 Y Y ω ω) Y Y (Wl Y U3 ((hO.rd (List.Mem.tail _ Mh)).ent hir hjc) (Wm Y (Wf BH Y (Wl Y AP (Cell.blk 3 Y Y) (Wm Y (Wf B6 Y (Wl Y U3 (Cell.blk 3 Y Y) (AL (oM Y) Y Y (Wm Y (AL (oA Y) Y Y (AL (BG (t*c+j) hS.rd.any Y AP A3 Y Y) Y Y (Wl Y U3 (hS.any.ent htk hjc) (AL (oM Y) Y Y (AL (oA Y) Y Y (Wf CW Y (Wl Y U3 (Cell.blk 4 Y Y) (AL (BJ Y Y Y ω ω) Y Y (AZ ?_)))))))))))))))))))))))))))))))))))))));refine Qx (Az (i*c+j) (hO.rd (List.Mem.tail _ Mh)).rd Y AP A3 Y Y ω ω) Y (CP 1 (i*c+j) hO Y A3 Y Y Y ω Y Y (λm' hO'=>Al (Ai (Ab (Ad (Qm Y (Qx (oA Y) Y (Qm Y (Al ?_)))))))));refine Ak (c-(j+1)) _ ω ⟨j+1,m',Y,Y,Y,Y,ω,λh0=>ω,?_⟩ Qs;rw[Fk _ hjc,AS (λa _ b _=>MI p k f g i t j a b)]at hO';exact hO'
    ·have hz:f i t=0:=ω
     obtain rfl:=hj0 hz;refine Aq (Aa (Aa (Af (Ai (Ab (Ad (Qm Y (Qx (oA Y) Y (Qm Y (Al ?_))))))))));refine Ak (k-(t+1)) _ ω ⟨t+1,m,Y,Y,Y,Y,ω,?_⟩ Qs;rw[AS (λa _ b _=>Ti p k f g i t a b hz)]at hO;exact hO
   ·refine Qk Y (Qk Y (Qm Y (Am (AN Y (Aq (Aa (Aa (Af (Ai (Ab (Ad (Qm Y (Qx (oA Y) Y (Qm Y (Al ?_)))))))))))))));obtain rfl:j=c:=ω
    refine Ak (k-(t+1)) _ ω ⟨t+1,m,Y,Y,Y,Y,ω,?_⟩ Qs;rw[AS (λa _ b hb=>MK p k f g i t j a b hb)]at hO;exact hO
  ·refine Aq (Aa (Aa (Af (Ai (Ab (Ad (Qm Y (Qx (oA Y) Y (Qm Y (Al ?_))))))))));obtain rfl:t=k:=ω
   refine Ak (r-(i+1)) _ ω ⟨i+1,m,Y,Y,Y,Y,ω,?_⟩ Qs;rw[AS (λa _ b hb=>Ip p t f g i a b)]at hO;exact hO
 ·refine Aq (Aa (Aa (Af (Ab (Ap (Qx (oG Y D8 A7 (Seg.blk 0 Y)) Y ?_))))));refine Sa 2 [_,_,_,_] A7 Y (by simp[he1]) ?_;refine Qm Y (Am (An ?_));obtain rfl:i=r:=ω
  refine A4 4 Y (A4 3 Y (A4 0 Y ?_));exact EX (vs:=[_,_,_,_]) 1 Y Y Y D8 Y A7 Y Y (⟨Y,_,Y,ew,m,Y,Y,by rw[AS (λa ha b hb=>OW p k f g i a b ha)]at hO;exact hO⟩)
theorem Tr(n p:Int)(h:Hp)(hp:2<=p/\p<=997)(hn:0<=n/\n<p):FnT Tryz.prog 89 #[.int .i64 n,.int .i64 p] h [] (λr _ _=>r=.int .i64 (FC p n)):=by
 refine Ao func89 ntmps89 Y Y (λw0 hw0=>?_);simp only[AX];refine Ap (Qm Y (Am (Ac (Ap (Qm Y (Am (Ag ?_)))))))
 refine Ax (λq sl h' ms'=>∃(k:Nat),q=p.toNat-k/\sl=[(0,.w n),(1,.w p),(5,.w k)]/\h=h'/\ms'=[]/\1<=k/\(k:Int)<=p/\∀j:Nat,1<=j->j<k->n*(j:Int)%p≠1)
  (p.toNat-1) _ ⟨1,rfl,rfl,rfl,rfl,ω,ω,λj h1 h2=>ω⟩ Qs ?_
 rintro q sl h' ms' ⟨k,rfl,rfl,rfl,rfl,h1,hk,hno⟩;have hnk:0<=n*(k:Int)/\n*(k:Int)<=997*997:=⟨Int.mul_nonneg hn.1 ω,Int.mul_le_mul ω ω ω ω⟩
 refine Ac (Ap (Qm Y (Qm Y (Qm Y (Am ?_)))));refine Ar Y (λhlt=>?_) (λhlt=>?_)
 ·refine Ah (Ab (Ac (Ag (Ap (Qm Y (Qm Y (Qx (oM Y) Y (Qm Y (Qx (BJ Y Y Y ω ω) Y (Qm Y (Am ?_)))))))))));refine Ar Y (λhe=>?_) (λhe=>?_)
  ·refine Ac (Ad (Qm Y (Qm Y (Am (An (Aj (Ae (Ae (Aj (Ae ?_))))))))));exact Au Y Y (by rw[KN h1 hlt he hno])
  ·refine Ah (Ai (Ab (Ad (Qm Y (Qx (oA Y) Y (Qm Y (Al ?_)))))));refine Ak (p.toNat-(k+1)) _ ω ⟨k+1,Y,Y,Y,Y,ω,ω,λj h3 h4=>?_⟩ Qs;rcases (ω:j<k\/j=k) with h5|rfl
   ·exact hno j h3 h5
   ·exact he
 ·have hkp:(k:Int)=p:=ω
  refine Aq (Aa (Aa (Af (Ab (Ap (Qm Y (Am (An ?_))))))));exact Au Y Y (by rw[LJ λj h3 h4=>hno j h3 ω])
theorem Vm(n p:Int)(h:Hp)(hp:2<=p/\p<=997)(hn:0<=n/\n<p)(ms:List Hp):FnV Tryz.prog 89 #[.int .i64 n,.int .i64 p] h ms (.int .i64 (FC p n)):=DZ (Tr n p h hp hn) ms
theorem UH(p:Int)(n:Nat)(F:Nat->Nat->Int)(ev:Value)(j:Nat)(h:Hp)(hR:RdL cI 1 h [] ev (BN n n F))(hn:n<=400)(hj:j<n):FnT Tryz.prog 88 #[.agg #[.int .i64 p,.int .i64 n,.int .i64 n,ev],.int .i64 j] h [] (λr _ _=>r=.int .i64 (AU (Fu n λi=>F i j))):=by
 have o1:=hR.rd.one;refine Ao func88 ntmps88 Y Y (λw0 hw0=>?_);simp only[AX];refine Ap (AQ [_,_,_,_] Y Y (by rfl) Y Y Y (λg2=>Qm Y (Am (AA λh1 l1 hS=>?_))));have hR:=hR.up l1;have e1:∀ms,Cell h1 ms (⟨g2,1,none⟩:Addr) (.w n):=λms=>Seg.all hS 1 _ Y ms;have e2:∀ms,Cell h1 ms (⟨g2,2,none⟩:Addr) (.w n):=λms=>Seg.all hS 2 _ Y ms;have e3:∀ms,Cell h1 ms (⟨g2,3,none⟩:Addr) ev:=λms=>Seg.all hS 3 _ Y ms;refine Ac (Ap (Qf Dg Y (Ql Y U3 (e1 _) (Qx (oS Y) Y (Qm Y (Am (Ag ?_)))))))
 refine Ax (λq sl h' ms'=>∃(k:Nat) (y:Int),k=q/\sl=[(1,.w j),(2,.pt g2),(5,.w y)]/\h1=h'/\ms'=[]/\y=(k:Int)-1/\k<=n/\∀i (hi:i<(Fu n λi=>F i j).length),k<=i->(Fu n λi=>F i j)[i]=0)
  n _ ⟨n,(n:Int)-1,rfl,rfl,rfl,rfl,rfl,ω,λi hi h=>by rw[Ca]at hi;omega⟩ Qs ?_
 rintro q sl h' ms' ⟨k,y,rfl,rfl,rfl,rfl,hy,hk,hz⟩;refine Ac (Ap (Qm Y (Qm Y (Am ?_))));refine Ar Y (λhge=>?_) (λhge=>?_)
 ·have hk1:k-1<n:=ω
  have c0:∀ms,Cell h1 ms ((AF ev).add (((k-1)*n+j)*1)) (.w (F (k-1) j)):=λms=>(hR.any (ms:=ms)).ent hk1 hj;have hix:=DO hk1 hj;have hnn:n*n<=160000:=by have:=dd hn hn;omega
  have hml:(BN n n F).length=n*n:=BK _ _ _;have hcast:((((k-1)*n+j:Nat)):Int)=y*(n:Int)+j:=by rw[Int.natCast_add,Int.natCast_mul,show((k-1:Nat):Int)=y by omega]
  have hyn:0<=y*(n:Int):=Int.mul_nonneg ω ω;refine Ah (Ab (Ac (Ag (Ap (Qf BH Y (Ql Y AP (e3 _) (Qm Y (Qf B6 Y (Ql Y U3 (e2 _) (Qx (oM Y) Y (Qm Y (Qx (oA Y) Y (Qx (Az (((k-1)*n+j)) hR.rd.any Y AP A3 Y Y ω ω) Y (Ql Y U3 (c0 _) (Qm Y (Am ?_))))))))))))))));refine Ar Y (λhne=>?_) (λhne=>?_)
  ·have hl:AU (Fu n λi=>F i j)=y:=by refine Jd (.inl ⟨k-1,by rw[Ca];exact hk1,ω,by rw[Kr hk1];exact hne,λi hi hlt=>hz i hi ω⟩)
   refine Ap (Qm Y (Qm Y (Am (An (Aj (Ae (Ae (Aj (Ae ?_)))))))));exact Au Y Y (by rw[hl])
  ·refine Ah (Ai (Ab (Ad (Qm Y (Qx (oS Y) Y (Qm Y (Al ?_)))))));refine Ak (k-1) _ ω ⟨k-1,y-1,Y,Y,Y,Y,ω,ω,λi hi hle=>?_⟩ Qs;rcases (ω:k<=i\/i=k-1) with h1|rfl
   ·exact hz i hi h1
   ·rw[Kr hk1];exact Classical.not_not.1 hne
 ·have hl:AU (Fu n λi=>F i j)=-1:=Jd (.inr ⟨Y,λi hi=>hz i hi ω⟩);refine Aq (Aa (Aa (Af (Ab (Ap (Qm Y (Am (An ?_))))))));exact Au Y Y (by rw[hl])
theorem KY(p:Int)(n:Nat)(F:Nat->Nat->Int)(ev:Value)(j:Nat)(h:Hp)(hR:RdL cI 1 h [] ev (BN n n F))(hn:n<=400)(hj:j<n)(ms:List Hp):FnV Tryz.prog 88 #[.agg #[.int .i64 p,.int .i64 n,.int .i64 n,ev],.int .i64 j] h ms (.int .i64 (AU (Fu n λi=>F i j))):=DZ (UH p n F ev j h hR hn hj) ms
def YG(o:List Cl)(F:List (Int×Int))(p:Int):Int:=if(DU o F).2≠0 then(DU o F).2 else if IsP p then 0 else 46
theorem Pq(l:List Ce)(F:List (Int×Int))(v vf:Value)(p:Int)(hp:Hp)(hK:RgC l)(hR:RdC hp v l)(hF:RdL cV 2 hp [] vf F)(hV:HJ F)(hI:BS p)(hl:l.length<=400):FnT Tryz.prog 85 #[.agg #[v],vf,.int .i64 p] hp [] (λr _ _=>r=.int .i64 (YG (cn l) F p)):=by
 have o1:=hR.q.rd.one;have o2:=hF.rd.one;refine Ao func85 ntmps85 Y Y (λw0 hw0=>?_);simp only[AX];refine Ap (AQ [_] Y Y (by rfl) Y Y Y (λg3=>Qm Y (Am (AA λh1 l1 hS=>?_))));have hR:=hR.up l1;have hF:=hF.up l1;have hck:=λms=>DZ (QG l F v vf h1 hK hR hF hV) ms;have hre:YG (cn l) F p=if(DU (cn l) F).2≠0 then(DU (cn l) F).2 else if IsP p then 0 else 46:=rfl
 rw[hre];clear hre;generalize DU (cn l) F=cc at *;refine Ap (Qx (oG Y CN A0 (Seg.any hS)) Y (Qm Y (Qx (AG Y call25 Y (hck _)) Y (Qm Y (Qm Y (Qm Y (Qm Y (Qm Y (Am (Ac (Ap (Qm Y (Qm Y (Am ?_))))))))))))));refine Ar Y (λhe=>?_) (λhe=>?_)
 ·refine Ac (Ad (Qm Y (Qm Y (Am (An (Ae ?_))))));exact Au Y Y (by rw[ab he];rfl)
 ·refine Ah (Ab (Ap (Qm Y (Qx (AG Y call145 Y (LH p h1 hI _)) Y (Qm Y (Am (Ac (Ap (Qm Y (Qm Y (Am ?_)))))))))));refine Bz Y (λhpr=>?_) (λhpr=>?_)
  ·have hnp:¬IsP p:=λq=>by rw[ag q]at hpr;cases hpr
   refine Ap (Qm Y (Am (An (Ae ?_))));exact Au Y Y (by rw[aa he,aa hnp])
  ·have hnp:IsP p:=ax λq=>by rw[ah q]at hpr;cases hpr
   refine Ah (Ab (Ac (Ap (Qx (oG Y CN A0 (Seg.any hS)) Y (Qc call49 Y (EW l v h1 hK.r.cs hR) (λrA h2 ms2 l2 hQ=>?_))))));obtain⟨l2',mA,A,rfl,hOA,hA,hsA⟩:=hQ;rw[Eb hK.r]at hA
   have hAl:A.length=l.length:=by have:=bf List.length hA;rw[af,E1,af]at this;exact this
   refine A6 hOA λh3 l3 hRA=>?_;have oA_:=hRA.rd.one;refine Qx (Av hRA.rd.any Y Bi Y) Y (Qm Y (Am (Ar Y (λhc=>absurd hc ω) (λhc=>Ah (Ab (Ap (Qm Y (Am (An ?_)))))))));exact Au Y Y (by rw[aa he,ab hnp])
end Go.Proofs.Q
namespace Go.Proofs.Q
open Go.Eng Go.RowKit Go.Lin
variable {j:Nat}
section
variable {p:Int} {n:Nat} {D:Nat->Nat->Int} {dm:Nat->Int} {pos:Nat->Nat} {v v':Nat->Nat->Int} {low low':Nat->Option Nat}
theorem W3(R:Rdc p n D dm pos v low)(R':Rdc p n D dm pos v' low'){i:Nat}(hj:j<n)(h:low j=some i):∃k,k<n/\low' k=some i/\pos k<=pos j:=by
 obtain⟨C,hC⟩:=R.chg R' (f:=λi=>(pos i:Int)) (g:=λi=>(pos i:Int)) (δ:=0) (λi j _ _ h=>by show(pos i:Int)<=pos j;omega) (λi j _ _ h=>by show(pos i:Int)<=pos j;omega) (λi _=>by show(pos i:Int)<=pos i+0;omega) (dm j);have hlo:lo low j=i:=by unfold lo;rw[h];rfl
 have hb:Oh dm low (dm j) j=true:=prs_iff.2 ⟨Y,by rw[hlo];exact h⟩;obtain⟨h1,h2⟩:=hC j hj hb;obtain⟨hi,hn,hm⟩:=R.lsome j i hj h;have h3:¬p∣Et n (Oh dm low' (dm j)) (C j) (λk=>FK n D (v' k)) i:=λq=>hn ((h1 i hi).dvd_iff.2 q);obtain⟨k,hk,h4⟩:=ZW h3;cases hbk:Oh dm low' (dm j) k with
 | false=>rw[hbk]at h4;exact absurd (Int.dvd_zero p) h4
 | true=>
  rw[hbk]at h4;have h4:¬p∣C j k*FK n D (v' k) i:=h4;have hc:¬p∣C j k:=λq=>h4 (Int.dvd_mul_of_dvd_left q);have hv:¬p∣FK n D (v' k) i:=λq=>h4 (Int.dvd_mul_of_dvd_right q);obtain⟨h5,h6⟩:=h2 k hk hbk hc;rw[hlo]at h6;have T:=R'.prs_top hk hbk;have h7:=T.2.2 i hi hv;have h8:lo low' k=i:=R.pinj _ _ T.1 hi ω;exact⟨k,hk,by rw[<-h8];exact(prs_iff.1 hbk).2,ω⟩
theorem VI(R:Rdc p n D dm pos v low)(R':Rdc p n D dm pos v' low')(hj:j<n):low j=low' j:=by
 have key:∀{v v':Nat->Nat->Int} {low low':Nat->Option Nat},Rdc p n D dm pos v low->Rdc p n D dm pos v' low'->∀i,low j=some i->low' j=some i:=λ{v v' low low'} R R' i h=>by obtain⟨k,hk,h1,h2⟩:=W3 R R' hj h;obtain⟨j',hj',h3,h4⟩:=W3 R' R hk h1;have:j'=j:=R.linj j' j i hj' hj h3 h;subst this;have:k=j':=R.pinj _ _ hk hj ω;rw[<-this];exact h1
 cases h:low j with
 | some i=>exact(key R R' i h).symm
 | none=>
  cases h':low' j with
  | none=>rfl
  | some i=>have:=key R' R i h';rw[h]at this;cases this
end
section
variable {p:Int} {F F':List (Int×Int)} {l l' S S':List Ce} {R V R' V':Nat->List Int}
theorem PerH.low_eq(H:PerH p F l S R V)(H':PerH p F' l' S' R' V')(hl:cn l'=cn l)(hS:S'.map Ce.c=S.map Ce.c)(hj:j<S.length):AU (R j)=AU (R' j):=by
 have Q:=H.rdc;have Q':=H'.rdc;have hln:S'.length=S.length:=by have:=bf List.length hS;simpa using this
 rw[hln,hl,hS]at Q';have e:=VI Q Q' (H.inv hj).1;have h3:=(H.inv hj).2.2;unfold OL at e;rw[hS,h3]at e;have hb:=(Dl (R j)).1;have hb':=(Dl (R' j)).1
 have hu:∀{R:Nat->List Int} {V} {F:List (Int×Int)} {l S'},PerH p F l S' R V->S'.length=S.length->AU (R j)<S.length:=λ{R V F l S'} H e=>by have:=(Dl (R j)).2;rw[(H.col j ω).rl]at this;omega
 have hlt:=hu H Y;have hlt':=hu H' hln;split at e
 ·rename_i h0;split at e
  ·rename_i h1;have e:=de e;have hnS:((S.map Ce.c).map Cl.id).Nodup:=(H.P.perm.map Cl.id).nodup_iff.2 H.G.nd;have:=QD H.P.perm hnS (i:=(AU (R j)).toNat) (j:=(AU (R' j)).toNat) (by rw[af];omega) (by rw[af];omega) e;omega
  ·cases e
 ·split at e
  ·cases e
  ·omega
theorem Q4{f g:Int->Int}(hS:K4 f S)(hS':K4 g S')(hp:(S.map Ce.c).Perm (S'.map Ce.c))(hn:(S.map λa=>a.c.id).Nodup)(hfg:∀a∈S,∀b∈S,(f a.c.id<f b.c.id<->g a.c.id<g b.c.id)):S'.map Ce.c=S.map Ce.c:=by
 have hS1:(S.map Ce.c).Pairwise λa b=>f a.id<f b.id\/(f a.id=f b.id/\(a.dim<b.dim\/(a.dim=b.dim/\a.id<=b.id))):=List.pairwise_map.2 hS
 have hS2:(S'.map Ce.c).Pairwise λa b=>f a.id<f b.id\/(f a.id=f b.id/\(a.dim<b.dim\/(a.dim=b.dim/\a.id<=b.id))):=by have:(S'.map Ce.c).Pairwise λa b=>g a.id<g b.id\/(g a.id=g b.id/\(a.dim<b.dim\/(a.dim=b.dim/\a.id<=b.id))):=List.pairwise_map.2 hS';refine this.imp_of_mem λ{a b} ha hb h=>?_;obtain⟨x,hx,rfl⟩:=ai.1 (hp.mem_iff.2 ha);obtain⟨y,hy,rfl⟩:=ai.1 (hp.mem_iff.2 hb);have h1:=hfg x hx y hy;have h2:=hfg y hy x hx;omega
 have hinj:∀a∈S.map Ce.c,∀b∈S.map Ce.c,a.id=b.id->a=b:=λa ha b hb e=>by
  have hn':((S.map Ce.c).map Cl.id).Nodup:=by rw[map_map];exact hn
  have h1:=Dt hn' ha;have h2:=Dt hn' hb;rw[e,h2]at h1;exact(de h1).symm
 refine(List.Perm.eq_of_pairwise (λa b ha hb h1 h2=>?_) hS1 hS2 hp).symm;exact hinj a ha b (hp.mem_iff.2 hb) ω
theorem QV{f g:Int->Int}{φ:Int->Int}{L L':List Int}(hS:S'.map Ce.c=S.map Ce.c)(hg:∀a∈S,g a.c.id=φ (f a.c.id))(hφ:∀a∈S,∀b∈S,(φ (f a.c.id)<φ (f b.c.id)<->f a.c.id<f b.c.id))(hL:L'.length=L.length)(hn:L.length=S.length)(hl:∀j,j<L.length->L'.getD j 0=L.getD j 0){m:Nat}(hm:m<S.length) :
  F1 g S' L' m=(F1 f S L m).map λb=>⟨b.dim,φ b.birth,if b.opn then b.death else φ b.death,b.opn,b.low,b.high⟩:=by
 have hLL:L'=L:=bo hL λj h1 h2=>by have:=hl j h2;simp[List.getD,h1,h2]at this;exact this
 subst hLL;have hln:S'.length=S.length:=by have:=bf List.length hS;simpa using this
 have hsc:∀i,i<S.length->(S'.getD i default).c=(S.getD i default).c:=λi hi=>by have h1:=ID hi;have h2:=ID (S:=S') (i:=i) ω;rw[hS,h1]at h2;exact h2.symm
 have hmm:∀i,i<S.length->∃a∈S,(S.getD i default).c=a.c:=λi hi=>⟨S[i],ae hi,by simp[List.getD,hi]⟩
 obtain⟨a,ha,ea⟩:=hmm m hm;unfold F1;cases hg':Bp (Df L' L'.length) (m:Int) with
 | some x=>
  obtain⟨j,hj,rfl,_⟩:=FI hg';obtain⟨b,hb,eb⟩:=hmm j ω;simp only[bu];rw[hsc m hm,hsc j ω,ea,eb,hg a ha,hg b hb];have:=hφ a ha b hb;by_cases h:f a.c.id<f b.c.id
  ·rw[ab h,ab (this.2 h)];rfl
  ·rw[aa h,aa λq=>h (this.1 q)];rfl
 | none=>
  simp only[];rw[hsc m hm,ea,hg a ha];by_cases h:L'.getD m 0<0
  ·rw[ab h,ab h];rfl
  ·rw[aa h,aa h];rfl
theorem J5{α β:Type}(g:α->β)(h:Nat->List α)(l:List Nat):l.flatMap (λm=>(h m).map g)=(l.flatMap h).map g:=by rw[List.map_flatMap]
theorem PerH.bars_eq(H:PerH p F l S R V)(H':PerH p F' l' S' R' V')(hl:cn l'=cn l)(φ:Int->Int)(hg:∀a∈cn l,CF (Bj F') a.id=φ (CF (Bj F) a.id))(hφ:∀a∈cn l,∀b∈cn l,(φ (CF (Bj F) a.id)<φ (CF (Bj F) b.id)<->CF (Bj F) a.id<CF (Bj F) b.id)) :
  Dc (CF (Bj F')) S' (DC S' R') S'.length=(Dc (CF (Bj F)) S (DC S R) S.length).map λb=>⟨b.dim,φ b.birth,if b.opn then b.death else φ b.death,b.opn,b.low,b.high⟩:=by
 have hm:∀a∈S,a.c∈cn l:=λa ha=>H.P.perm.mem_iff.1 (ai.2 ⟨a,ha,Y⟩);have hp:(S.map Ce.c).Perm (S'.map Ce.c):=H.P.perm.trans (by rw[<-hl];exact H'.P.perm.symm);have hS:=Q4 H.P.srt H'.P.srt hp H.nd λa ha b hb=>by rw[hg _ (hm a ha),hg _ (hm b hb)];exact(hφ _ (hm a ha) _ (hm b hb)).symm
 have hln:S'.length=S.length:=by have:=bf List.length hS;simpa using this
 unfold Dc;rw[<-J5,hln]
 have:∀l:List Nat,(∀m∈l,m<S.length)->l.flatMap (F1 (CF (Bj F')) S' (DC S' R'))=l.flatMap λm=>(F1 (CF (Bj F)) S (DC S R) m).map λb=>⟨b.dim,φ b.birth,if b.opn then b.death else φ b.death,b.opn,b.low,b.high⟩:=λl=>by
  induction l with
  | nil=>intro _;rfl
  | cons m l ih=>
   intro h;rw[List.flatMap_cons,List.flatMap_cons,ih λx hx=>h x (au _ hx)];congr 1;refine QV hS (λa ha=>hg _ (hm a ha)) (λa ha b hb=>hφ _ (hm a ha) _ (hm b hb)) (by rw[E4,E4,hln]) (E4 S R) (λj hj=>?_) (h m Mh);rw[E4]at hj;rw[G3 S R hj,G3 S' R' ω,H.low_eq H' hl hS hj]
 exact this _ λm hm=>ba.1 hm
end
end Go.Proofs.Q
namespace Go.Proofs.Q
open Go.Eng Go.RowKit Go.Lin Go.Sort Go.Srt
variable {j:Nat}
structure SrtH(F:List (Int×Int))(l S:List Ce):Prop where
 perm:(S.map Ce.c).Perm (cn l)
 srt:K4 (CF (Bj F)) S
 G:Rgt (cn l)
 mon:∀x∈cn l,∀s∈x.sd,CF (Bj F) s.1<=CF (Bj F) x.id
section
variable {p:Int} {F:List (Int×Int)} {l S S':List Ce}
theorem SrtH.nd(H:SrtH F l S):(S.map λa=>a.c.id).Nodup:=by
 have:=(H.perm.map Cl.id).nodup_iff.2 H.G.nd
 rwa [map_map]at this
theorem SrtH.mem(H:SrtH F l S){i:Nat}(h:i<S.length):C9 S i∈cn l:=by rw[Dr h];exact H.perm.mem_iff.1 (ai.2 ⟨_,ae h,Y⟩)
theorem SrtH.inj(H:SrtH F l S){i:Nat}(hi:i<S.length)(hj:j<S.length)(h:(C9 S i).id=(C9 S j).id):i=j:=by
 rw[Dr hi,Dr hj]at h;have hp:=aw.1 H.nd;rcases Nat.lt_trichotomy i j with h1|h1|h1
 ·have:=hp i j (by simpa using hi) (by simpa using hj) h1;simp only[List.getElem_map]at this;exact absurd h this
 ·exact h1
 ·have:=hp j i (by simpa using hj) (by simpa using hi) h1;simp only[List.getElem_map]at this;exact absurd h.symm this
theorem SrtH.place(H:SrtH F l S){y:Cl}(hy:y∈cn l):∃m,m<S.length/\C9 S m=y:=by obtain⟨a,ha,rfl⟩:=ai.1 (H.perm.mem_iff.2 hy);obtain⟨m,hm,rfl⟩:=List.getElem_of_mem ha;exact⟨m,hm,Dr hm⟩
theorem SrtH.before(H:SrtH F l S)(hj:j<S.length){s:Int×Int}(hs:s∈(C9 S j).sd):∃m,m<j/\(C9 S m).id=s.1/\(C9 S m).dim=(C9 S j).dim-1:=by
 obtain⟨y,hy,e1,e2⟩:=H.G.sid _ (H.mem hj) s hs;obtain⟨m,hm,rfl⟩:=H.place hy;refine⟨m,?_,e1,e2⟩;have hf:=H.mon _ (H.mem hj) s hs;rw[<-e1]at hf;refine ax λhn=>?_;rcases (ω:m=j\/j<m) with rfl|h
 ·omega
 ·have:=aw.1 H.srt j m hj hm h;rw[<-Dr hj,<-Dr hm]at this;omega
theorem SrtH.uniq(H:SrtH F l S)(H':SrtH F l S'):S'.map Ce.c=S.map Ce.c:=
 Q4 H.srt H'.srt (H.perm.trans H'.perm.symm) H.nd λ_ _ _ _=>Iff.rfl
theorem SrtH.len(H:SrtH F l S):S.length=l.length:=by
 have:=H.perm.length_eq
 rwa [af,C0]at this
def Mc(p:Int)(S:List Ce)(j k:Nat)(a b:Nat):Int:=if b<j then(CZ p S b).getD a 0 else if b=j then(EI p S j k).getD a 0 else 0
theorem Vr(p:Int)(S:List Ce)(a b:Nat)(ha:a<S.length):Mc p S 0 0 a b=0:=by
 unfold Mc EI;split
 ·omega
 ·split
  ·simp[List.getD,ha]
  ·rfl
theorem XN(p:Int)(S:List Ce)(a b:Nat)(ha:a<S.length):Mc p S j (S.getD j default).c.sd.length a b=Mc p S (j+1) 0 a b:=by
 unfold Mc;rcases (ω:b<j\/b=j\/b=j+1\/j+1<b) with h|rfl|rfl|h
 ·rw[ab h,ab ω]
 ·rw[aa ω,ab rfl,ab ω];rfl
 ·rw[aa ω,aa ω,aa ω,ab rfl];unfold EI;simp[List.getD,ha]
 ·rw[aa ω,aa ω,aa ω,aa ω]
theorem U1(H:SrtH F l S)(p:Int){k m:Nat}(hj:j<S.length)(hk:k<(S.getD j default).c.sd.length)(hm:m<j)(e:(C9 S m).id=((S.getD j default).c.sd[k]).1)(a b:Nat)(ha:a<S.length) :
  F2 (Mc p S j k) m j (((S.getD j default).c.sd[k].2+p)%p) a b=Mc p S j (k+1) a b:=by
 have hpl:pl S (j+1) ((S.getD j default).c.sd[k]).1=m:=by
  have:=Xr H.nd (i:=m) (j:=j+1) ω ω
  rwa [show(S.getD m default).c.id=((S.getD j default).c.sd[k]).1 from e]at this
 unfold F2 Mc;rw[JE hk,hpl];rcases (ω:b<j\/b=j\/j<b) with h|rfl|h
 ·rw[aa ω,ab h];rw[ab h]
 ·by_cases hab:a=m
  ·subst hab;rw[ab ⟨rfl,rfl⟩,aa ω,ab rfl];simp[List.getD,DR,ha]
  ·rw[aa (λq=>hab q.1),aa ω,ab rfl,aa ω,ab rfl];simp only[List.getD];rw[List.getElem?_set_ne (Ne.symm hab)]
 ·rw[aa ω,aa ω,aa ω,aa ω,aa ω]
end
end Go.Proofs.Q

namespace Go.Proofs.Q
open Go.Proofs.Tryz
open Go.Eng Go.RowKit Go.Lin Go.Sort Go.Srt
theorem JQ(l:List Ce)(F:List (Int×Int))(v vf:Value)(p:Int)(hp:Hp)(hK:RgC l)(hR:RdC hp v l)(hF:RdL cV 2 hp [] vf F)(hn:(F.map Prod.fst).Nodup)(hmon:∀x∈cn l,∀s∈x.sd,CF (Bj F) s.1<=CF (Bj F) x.id)(hP:IsP p)(hl:l.length<=400):FnT Tryz.prog 86 #[.agg #[v],vf,.int .i64 p] hp [] (λr h' ms'=>hp.le h'/\∃S,SrtH F l S/\JX r ms' (Ja p S.length S.length λi j=>(CZ p S j).getD i 0)):=by
 have o1:=hR.q.rd.one;have o2:=hF.rd.one;have hpb:=hP.1;have hpb2:=hP.2.1;refine Ao func86 ntmps86 Y Y (λw0 hw0=>?_);simp only[AX];refine Ap (AQ [_] Y Y (by rfl) Y Y Y (λg3=>Cx [.w 0,.w 0,.w 0,.slice none 0 0] Y A7 Y Y (λg6=>Am (Bm 1 Y λh1 l1 hS=>?_))));have hR:=hR.up l1;have hF:=hF.up l1;refine Ap (Qx (oG Y CN A0 (Seg.any hS)) Y (Qm Y (Qc call122 Y (I6 l F v vf h1 hK hR hF hn) (λr7 h2 ms2 l2 hQ=>?_))));obtain⟨l2',mS,S,rfl,hOS,hpm,hsrt,hsS⟩:=hQ;have H:SrtH F l S:=⟨hpm,hsrt,hK.F.rgt,hmon⟩
 have hSl:=H.len;refine Qm Y (Am (Bv hOS λh3 l3 hRS=>?_));have hsS:=λa ha=>(hsS a ha).up l3;have o7:=hRS.rd.one;refine Ap (Qm Y (Qx (Av hRS.rd.any Y Bi Y) Y (Qm Y (BE (Qm Y (Qm Y (Qm Y ?_)))))));refine Qc call146 Y (Lq p S.length S.length h3 ⟨ω,ω⟩) (λrz h4 ms4 l4 hQ=>?_);obtain⟨rfl,hM⟩:=hQ;rw[Kh hP ω ω]at hM;obtain⟨ev,me,rfl,rfl,hO⟩:=hM;have oe:=hO.o1;change OwnL cI 1 3 me ev (BN S.length S.length λ_ _=>0) at hO;refine Cx [.w 0,.w 0,.w 0,.slice none 0 0] Y A7 Y Y (λg9=>?_);refine Sa 0 [_,_,_,_] A7 Y (by simp[o1,o2,o7,oe]) ?_;refine Am (AA λh4 l4 hS9=>?_);have hRS:=hRS.up l4;have hsS:=λa ha=>(hsS a ha).up l4;have e3:∀h',h4.le h'->∀ms,Cell h' ms (⟨g9,3,none⟩:Addr) ev:=λh' l' ms=>(Seg.all hS9 3 _ Y ms).le l';have hnn:S.length*S.length<=160000:=by have:=dd (show S.length<=400 by omega) (show S.length<=400 by omega);omega
 rw[AS (λi hi j hj=>(Vr p S i j hi).symm)]at hO;refine Ac (Ap (Qm Y (Am (Ag ?_))))
 refine Ax (λq sl h' ms'=>∃(j:Nat) (me:Hp),q=S.length-j/\sl=[(2,.w p),(6,.pt g6),(7,r7),(8,.w S.length),(9,.pt g9),(10,.w j)]/\h4.le h'/\ms'=[me,A8 g6 65 [.w 0,.w 0,.w 0,.slice none 0 0]]/\j<=S.length/\OwnL cI 1 3 me ev (BN S.length S.length (Mc p S j 0)))
  (S.length-0) _ ⟨0,me,rfl,rfl,Dv,rfl,ω,hO⟩ Qs ?_
 rintro q sl h' ms' ⟨j,me,rfl,rfl,lh,rfl,hj,hO⟩;have hRS:=hRS.up lh;refine Ac (Ap (Qm Y (Qm Y (Qm Y (Am ?_)))));refine Ar Y (λhjl=>?_) (λhjl=>?_)
 ·have hjS:j<S.length:=ω
  obtain⟨x,hx⟩:∃x,S[j]=x:=⟨_,Y⟩
  have hgx:(S.getD j default)=x:=by simp[List.getD,hjS,hx]
  have hX:=(hsS x (by rw[<-hx];exact ae hjS)).up lh;have ox:=hX.rd.one;have hxo:x.c∈cn l:=by have:=H.mem hjS;rwa [Dr hjS,hx]at this
  have hxs:=(hK.F.bds hxo).2.1;refine Ah (Ab (Ac (Ag (Ap (Qm Y (Am (Ag ?_)))))))
  refine Ax (λq sl h2 ms'=>∃(k:Nat) (me:Hp),q=x.c.sd.length-k/\sl=[(2,.w p),(6,.pt g6),(7,r7),(8,.w S.length),(9,.pt g9),(10,.w j),(11,.w k)]/\h'.le h2/\ms'=[me,A8 g6 65 [.w 0,.w 0,.w 0,.slice none 0 0]]/\k<=x.c.sd.length/\OwnL cI 1 3 me ev (BN S.length S.length (Mc p S j k)))
   (x.c.sd.length-0) _ ⟨0,me,rfl,rfl,Dv,rfl,ω,hO⟩ Qs ?_
  rintro q sl h2 ms' ⟨k,me,rfl,rfl,lh2,rfl,hk,hO⟩;have hRS:=hRS.up lh2;have hX:=hX.up lh2;have c2:∀ms,Cell h2 ms (((AF r7).add (j*3)).add 2) x.v:=λms=>by rw[<-hx];exact(hRS.any (ms:=ms)).cell hjS (f:=2) Y
  refine Ac (Ap (Qm Y (Qm Y (Qm Y (Qx (BG (j) hRS.rd.any Y Bi AH Y Y) Y (Qf BA Y (Ql Y BZ (c2 _) (Qx (Av hX.rd.any Y BZ Y) Y (Qm Y (Am ?_))))))))));refine Ar Y (λhkl=>?_) (λhkl=>?_)
  ·have hkS:k<x.c.sd.length:=ω
   obtain⟨s,hs⟩:∃s,x.c.sd[k]=s:=⟨_,Y⟩
   have hsm:s∈x.c.sd:=by rw[<-hs];exact ae hkS
   have hsg:=hK.F.rgt.sgn _ hxo s hsm;obtain⟨m,hmj,em,_⟩:=H.before hjS (s:=s) (by rw[Dr hjS,hx];exact hsm);have sx:∀ms,Seg h2 ms ((AF x.v).add (k*2)) (cD s):=λms=>by rw[<-hs];exact(hX.any (ms:=ms)).seg hkS
   refine Ah (Ab (Ac (Ag (Ap (Qm Y (Qm Y (Qx (BG (j) hRS.rd.any Y Bi AH Y Y) Y (Qf BA Y (Ql Y BZ (c2 _) (Qm Y (Qx (BG (k) hX.rd.any Y BZ AO Y Y) Y (Qx (oG Y D4 AO (sx _)) Y (Cx [.w 0,.w 0] Y AO Y Y (λg12=>?_))))))))))))));refine Sa 0 [_,_] AO Y (by simp[Value.oneCell']) ?_;refine Am (AA λh5 l5 hS12=>?_);have hRS:=hRS.up l5;have d0:∀ms,Cell h5 ms (⟨g12,0,none⟩:Addr) (.w s.1):=λms=>Seg.all hS12 0 _ Y ms;have d1:∀ms,Cell h5 ms (⟨g12,1,none⟩:Addr) (.w s.2):=λms=>Seg.all hS12 1 _ Y ms;have e3:=e3 h5 (AI lh (AI lh2 l5));refine Ap (Qm Y (Am (Ag ?_)))
   refine Ax (λq sl h' ms'=>∃(i:Nat) (me:Hp),q=S.length-i/\sl=[(2,.w p),(6,.pt g6),(7,r7),(8,.w S.length),(9,.pt g9),(10,.w j),(11,.w k),(12,.pt g12),(13,.w i)]/\h5=h'/\ms'=[me,A8 g6 65 [.w 0,.w 0,.w 0,.slice none 0 0]]/\i<=S.length/\OwnL cI 1 3 me ev (BN S.length S.length (if m<i then Mc p S j (k+1) else Mc p S j k)))
    (S.length-0) _ ⟨0,me,rfl,rfl,rfl,rfl,ω,by rw[aa ω];exact hO⟩ Qs ?_
   rintro q sl h' ms' ⟨i,me,rfl,rfl,rfl,rfl,hi,hO⟩;have hO':=hO;refine Ac (Ap (Qm Y (Qm Y (Qm Y (Am ?_)))));refine Ar Y (λhil=>?_) (λhil=>?_)
   ·have hiS:i<S.length:=ω
    have c0:∀ms,Cell h5 ms (((AF r7).add (i*3)).add 0) (.w (C9 S i).id):=λms=>by rw[Dr hiS];exact(hRS.any (ms:=ms)).cell hiS (f:=0) Y
    refine Ah (Ab (Ac (Ag (Ac (A5 7 CT κ Y (Wm Y (Wm Y (AL (BG (i) hRS.rd.any Y Bi AH Y Y) Y Y (Wf Bn Y (Wl Y U3 (c0 _) (Wf B4 Y (Wl Y U3 (d0 _) (AZ (Qm Y (Am ?_)))))))))))))));refine Ar Y (λhe=>?_) (λhe=>?_)
    ·obtain rfl:i=m:=H.inj hiS ω (by rw[em];exact he);rw[aa ω]at hO hO';have hix:=DO hiS hjS;have hml:(BN S.length S.length (Mc p S j k)).length=S.length*S.length:=BK _ _ _;have hcast:(((i*S.length+j:Nat)):Int)=(i:Int)*(S.length:Int)+j:=by rw[Int.natCast_add,Int.natCast_mul]
     have hmo:s.2%p=(s.2+p)%p:=by rw[Int.add_emod_right]
     refine A5 11 CT κ Y (Wf BH Y (Wl Y AP (e3 _) (Wm Y (Wm Y (AL (oM Y) Y Y (Wm Y (AL (oA Y) Y Y (Wf Dh Y (Wl Y U3 (d1 _) (Wm Y ?_))))))))));refine AL (AG Y call34 Y (Ht s.2 p ⟨ω,ω⟩ ⟨ω,ω⟩ h5 _)) Y Y ?_;refine AZ (Qx (Az ((i*S.length+j)) (hO'.rd (h:=h5) (ms:=[me,A8 g6 65 [.w 0,.w 0,.w 0,.slice none 0 0]]) Mh).rd Y AP A3 Y Y ω ω) Y (B8 (F:=cI) (f:=λx=>.w x) (a:=s.2%p) 0 (i*S.length+j) (λ_=>rfl) hO Y A3 Y Y Y Y ω Y Y (λm2 hO2=>?_)))
     rw[Fk _ hjS,hmo,AS (λa ha b hb=>by
      have:=U1 H p (k:=k) hjS (by rw[hgx];exact hkS) hmj (by simp only[hgx,hs];exact em) a b ha;simp only[hgx,hs]at this
      exact this)]at hO2
     refine Al (Ai (Ab (Ad (Qm Y (Qx (oA Y) Y (Qm Y (Al ?_)))))));exact Ak (S.length-(i+1)) _ ω ⟨i+1,m2,Y,Y,Y,Y,ω,by rw[ab ω];exact hO2⟩ Qs
    ·have him:i≠m:=λe=>he (by rw[e];exact em);refine Ah (Ai (Ab (Ad (Qm Y (Qx (oA Y) Y (Qm Y (Al ?_)))))));exact Ak (S.length-(i+1)) _ ω ⟨i+1,me,Y,Y,Y,Y,ω,by rw[show(if m<i+1 then Mc p S j (k+1) else Mc p S j k)=(if m<i then Mc p S j (k+1) else Mc p S j k) by simp only[show(m<i+1)=(m<i) from propext ω]];exact hO⟩ Qs
   ·rw[ab ω]at hO;refine Aq (Aa (Aa (Af (Ai (Ab (Ad (Qm Y (Qx (oA Y) Y (Qm Y (Al ?_))))))))));exact Ak (x.c.sd.length-(k+1)) _ ω ⟨k+1,me,Y,Y,AI lh2 l5,Y,ω,hO⟩ Qs
  ·obtain rfl:k=x.c.sd.length:=ω
   have hmx:BN S.length S.length (Mc p S j x.c.sd.length)=BN S.length S.length (Mc p S (j+1) 0):=AS λa ha b hb=>by have:=XN p S (j:=j) a b ha;rw[hgx]at this;exact this
   rw[hmx]at hO;refine Aq (Aa (Aa (Af (Ai (Ab (Ad (Qm Y (Qx (oA Y) Y (Qm Y (Al ?_))))))))));exact Ak (S.length-(j+1)) _ ω ⟨j+1,me,Y,Y,AI lh lh2,Y,ω,hO⟩ Qs
 ·obtain rfl:j=S.length:=ω
  rw[AS (λa ha b hb=>show Mc p S S.length 0 a b=(CZ p S b).getD a 0 by unfold Mc;rw[ab hb])]at hO;have hS9:=hS9.le lh;refine Aq (Aa (Aa (Af (Ab (Ap (Qx (oG Y D8 A7 (Seg.any hS9)) Y ?_))))));refine Sa 1 [_,_,_,_] A7 Y (by simp[o1,o2,o7,oe]) ?_;refine Am (An ?_);exact Bx (vs:=[_,_,_,_]) 1 Y Y D8 Y A7 Y Y (⟨AI l1 (AI l2 (AI l3 (AI l4 lh))),S,H,ev,me,Y,Y,hO⟩)
variable {n:Nat} {S:List Ce}
def En(S:List Ce):List Int:=S.map λa=>a.c.id
theorem KM{S':List Ce}(h:S'.map Ce.c=S.map Ce.c):En S'=En S:=by
 have:=bf (List.map Cl.id) h
 rwa [map_map,map_map]at this
theorem SrtH.ids{F:List (Int×Int)}{l S':List Ce}(H:SrtH F l S)(H':SrtH F l S'):En S'=En S:=KM (H.uniq H')
theorem Li(l:List Ce)(F:List (Int×Int))(v vf:Value)(hp:Hp)(hK:RgC l)(hR:RdC hp v l)(hF:RdL cV 2 hp [] vf F)(hn:(F.map Prod.fst).Nodup)(hmon:∀x∈cn l,∀s∈x.sd,CF (Bj F) s.1<=CF (Bj F) x.id)(hl:l.length<=400):FnT Tryz.prog 90 #[.agg #[v],vf] hp [] (λr h' ms'=>hp.le h'/\∃S m,SrtH F l S/\ms'=[m]/\OwnL cI 1 3 m r (En S)):=by
 have o1:=hR.q.rd.one;have o2:=hF.rd.one;refine Ao func90 ntmps90 Y Y (λw0 hw0=>?_);simp only[AX];refine Ap (AQ [_] Y Y (by rfl) Y Y Y (λg2=>Qm Y (Am (AA λh1 l1 hS=>?_))));have hR:=hR.up l1;have hF:=hF.up l1;refine Ap (Qm Y (BE (Qx (oG Y CN A0 (Seg.any hS)) Y (Qm Y (Qc call122 Y (I6 l F v vf h1 hK hR hF hn) (λr7 h2 ms2 l2 hQ=>?_))))));obtain⟨l2',mS,S,rfl,hOS,hpm,hsrt,hsS⟩:=hQ;have H:SrtH F l S:=⟨hpm,hsrt,hK.F.rgt,hmon⟩
 have hSl:=H.len;refine Qm Y (Am (Bv hOS λh3 l3 hRS=>?_));have o7:=hRS.rd.one;refine Ac (Ap (Qm Y (Am (Ag (BI ?_)))))
 refine Ax (λq sl h' ms'=>∃(i:Nat) (vo:Value) (mo:Hp),q=S.length-i/\sl=[(5,vo),(6,r7),(7,.w i)]/\h3=h'/\ms'=[mo]/\i<=S.length/\OwnL cI 1 3 mo vo (En (S.take i)))
  (S.length-0) _ ⟨0,_,Hp.emp,rfl,rfl,rfl,rfl,ω,OwnL.nil Bd⟩ Qs ?_
 rintro q sl h' ms' ⟨i,vo,mo,rfl,rfl,rfl,rfl,hi,hO⟩;have ov:=hO.o1;refine Ac (Ap (Qm Y (Qm Y (Qx (Av hRS.rd.any Y Bi Y) Y (Qm Y (Am ?_))))));refine Ar Y (λhil=>?_) (λhil=>?_)
 ·have hiS:i<S.length:=ω
  have c0:∀ms,Cell h3 ms (((AF r7).add (i*3)).add 0) (.w S[i].c.id):=λms=>(hRS.any (ms:=ms)).cell hiS (f:=0) Y;have hnx:En (S.take (i+1))=En (S.take i)++[S[i].c.id]:=by unfold En;rw[am hiS,bg];rfl
  have hnl:(En (S.take i)).length<=4000:=by unfold En;rw[af,ao];omega
  refine Ah (Ab (Ac (Ag (Ad (Qm Y (Qm Y (Qm Y (Qx (BG (i) hRS.rd.any Y Bi AH Y Y) Y (Qf Bn Y (Ql Y U3 (c0 _) (Aw [_] Y AP A3 Y (by rfl) Y Y ω Y Y Y (λg23=>?_))))))))))));refine AV 1 hO (OwnL.rd (OwnL.blk (g:=g23) (el:=3) (F:=cI) (l:=[S[i].c.id]) 1 Bd Y (by decide)) Mh) Y AP A3 Y ω Y Y Y B7 (by simp;omega) (by simp;omega) rfl rfl rfl (λv8 m8 hO8=>?_);rw[<-hnx]at hO8;refine Qm Y (Al (Ai (Ab (Ad (Qm Y (Qx (oA Y) Y (Qm Y (Al (A4 0 Y ?_)))))))));exact Ak (S.length-(i+1)) _ ω ⟨i+1,v8,m8,Y,Y,Y,Y,ω,hO8⟩ Qs
 ·obtain rfl:i=S.length:=ω
  rw[ct]at hO;refine Aq (Aa (Aa (Af (Ab (Ap (Qm Y (Qm Y (Am (An ?_)))))))));exact Au Y Y (⟨AI l1 (AI l2 l3),S,mo,H,Y,hO⟩)
theorem K6{l:List Int}(h:l.length=n):(Fu n λi=>l.getD i 0)=l:=by refine bo (by rw[Ca,h]) λi h1 h2=>?_;rw[Ca]at h1;rw[Kr h1];simp[List.getD,h2]
def mc(R D:Nat->List Int)(j:Nat)(r1:List Int)(a b:Nat):Int:=if b<j then(R b).getD a 0 else if b=j then r1.getD a 0 else(D b).getD a 0
theorem Oj(R D:Nat->List Int)(a b:Nat):(D b).getD a 0=mc R D 0 (D 0) a b:=by
 unfold mc;rw[aa ω];split
 ·rename_i h;rw[h]
 ·rfl
theorem Ko(R D:Nat->List Int)(j:Nat)(r1:List Int)(a b:Nat):mc R D j r1 a b=mc (upd R j r1) D (j+1) (D (j+1)) a b:=by
 unfold mc;rcases (ω:b<j\/b=j\/b=j+1\/j+1<b) with h|rfl|rfl|h
 ·rw[ab h,ab ω,EF _ _ ω]
 ·rw[aa ω,ab rfl,ab ω,Fw]
 ·rw[aa ω,aa ω,aa ω,ab rfl]
 ·rw[aa ω,aa ω,aa ω,aa ω]
theorem Aa1(R D:Nat->List Int)(j:Nat)(r1:List Int)(h:r1.length=n):(Fu n λi=>mc R D j r1 i j)=r1:=by rw[show(λi=>mc R D j r1 i j)=λi=>r1.getD i 0 from funext λi=>by unfold mc;rw[aa ω,ab rfl]];exact K6 h
theorem Aae(R D:Nat->List Int)(j:Nat)(r1:List Int){k:Nat}(hk:k<j)(h:(R k).length=n):(Fu n λi=>mc R D j r1 i k)=R k:=by rw[show(λi=>mc R D j r1 i k)=λi=>(R k).getD i 0 from funext λi=>by unfold mc;rw[ab hk]];exact K6 h
def NI(p:Int)(a b:List Int)(t:Int)(i:Nat):List Int:=(range a.length).map λq=>if q<i then(a.getD q 0+t*b.getD q 0)%p else a.getD q 0
theorem Nd(p:Int)(a b:List Int)(t:Int)(i:Nat):(NI p a b t i).length=a.length:=by unfold NI;simp
theorem IP(p:Int)(a b:List Int)(t:Int)(i:Nat){q:Nat}(hq:q<a.length):(NI p a b t i).getD q 0=if q<i then(a.getD q 0+t*b.getD q 0)%p else a.getD q 0:=by unfold NI;simp[List.getD,hq]
theorem Pz(p:Int)(a b:List Int)(t:Int):NI p a b t 0=a:=by refine bo (Nd _ _ _ _ _) λq h1 h2=>?_;have:=IP p a b t 0 h2;rw[aa ω]at this;simpa[List.getD,h1,h2] using this
theorem SM(p:Int){a b:List Int}(t:Int)(h:a.length=b.length):NI p a b t a.length=Eu p a b t:=by
 refine bo (by rw[Nd,DS h]) λq h1 h2=>?_;have h3:q<a.length:=by rw[Nd]at h1;exact h1
 have h4:=IP p a b t a.length h3;rw[ab h3]at h4;have h5:=Ec (p:=p) (t:=t) h q;rw[<-h5]at h4;simpa[List.getD,h1,h2] using h4
theorem SS(p:Int)(R D:Nat->List Int)(j:Nat){r1 b1:List Int}(t:Int){i:Nat}(h:r1.length=n)(hi:i<n)(a b:Nat)(ha:a<n) :
  F2 (mc R D j (NI p r1 b1 t i)) i j ((r1.getD i 0+t*b1.getD i 0)%p) a b=mc R D j (NI p r1 b1 t (i+1)) a b:=by
 unfold F2 mc;rcases (ω:b<j\/b=j\/j<b) with hb|rfl|hb
 ·rw[aa ω,ab hb,ab hb]
 ·rw[aa (ω:¬b<b),ab rfl,aa (ω:¬b<b),ab rfl,IP _ _ _ _ _ ω,IP _ _ _ _ _ ω];by_cases hai:a=i
  ·subst hai;rw[ab ⟨rfl,rfl⟩,ab ω]
  ·rw[aa λq=>hai q.1];by_cases h2:a<i
   ·rw[ab h2,ab ω]
   ·rw[aa h2,aa ω]
 ·rw[aa ω,aa ω,aa ω,aa ω,aa ω]
theorem Ww(p:Int)(R D:Nat->List Int)(j:Nat){r1 b1:List Int}(t:Int){i:Nat}(h:r1.length=n)(hi:i<n):mc R D j (NI p r1 b1 t i) i j=r1.getD i 0:=by unfold mc;rw[aa ω,ab rfl,IP _ _ _ _ _ ω,aa ω]
theorem Xa(R D:Nat->List Int)(j:Nat)(r1:List Int){k:Nat}(hk:k<j)(a:Nat):mc R D j r1 a k=(R k).getD a 0:=by unfold mc;rw[ab hk]
theorem AllC.put{p:Int}{j:Nat}{R V:Nat->List Int}{la r v:List Int}(A:AllC p S n j R V la)(hn:n<=400)(lr:r.length=n)(lv:v.length=n)(rr:Jo p r)(rv:Jo p v)(hO:Ops p n j R V (CZ p S j) (CO n j) r v)(hfree:∀k,k<j->0<=AU r->AU (R k)≠AU r):∃la',AllC p S n (j+1) (upd R j r) (upd V j v) la':=by
 by_cases h0:AU r<0
 ·exact⟨la,A.next hn lr lv rr rv (.inl ⟨h0,Y⟩) hO⟩
 ·have hb:=Dl r;have hi:(AU r).toNat<400:=ω
  have hz:la.getD (AU r).toNat 0=0:=by
   rcases A.red.a0 _ hi with h|⟨k,hk,_,e⟩
   ·exact h
   ·exact absurd (by rw[e];omega) (hfree k hk ω)
  exact⟨_,A.next hn lr lv rr rv (.inr ⟨ω,hz,Y⟩) hO⟩
end Go.Proofs.Q
namespace Go.Proofs.Q
open Go.Proofs.Tryz
open Go.Eng Go.RowKit Go.Lin Go.Sort Go.Srt
theorem X7{o:List Cl}{F:List (Int×Int)}{p:Int}(h0:DU o F=(0,0))(hP:IsP p):YG o F p=0:=by unfold YG;rw[h0,aa (λh=>h rfl),ab hP]
theorem Aag{n:Nat}(a b:Nat)(ha:a<n)(hb:b<n)(V:Nat->List Int):eye a b=mc V (CO n) 0 (CO n 0) a b:=by rw[<-Oj,Gd hb];rfl
theorem ON(l:List Ce)(F:List (Int×Int))(v vf:Value)(p:Int)(hp:Hp)(hK:RgC l)(hR:RdC hp v l)(hF:RdL cV 2 hp [] vf F)(hV:HJ F)(hn:(F.map Prod.fst).Nodup)(h0:DU (cn l) F=(0,0))(hmon:∀x∈cn l,∀s∈x.sd,CF (Bj F) s.1<=CF (Bj F) x.id)(hP:IsP p)(hl:l.length<=400):FnT Tryz.prog 33 #[.agg #[v],vf,.int .i64 p] hp [] (λr h' ms'=>hp.le h'/\∃(S:List Ce) (R V:Nat->List Int) (vo er ev:Value) (mo mr mv:Hp),PersF p F l S R V/\r=.tuple #[vo,.agg #[.int .i64 p,.int .i64 S.length,.int .i64 S.length,er],.agg #[.int .i64 p,.int .i64 S.length,.int .i64 S.length,ev],.int .i64 0]/\ms'=[mo,mv,mr]/\OwnL cI 1 3 mo vo (En S)/\OwnL cI 1 3 mr er (BN S.length S.length λi j=>(R j).getD i 0)/\OwnL cI 1 3 mv ev (BN S.length S.length λi j=>(V j).getD i 0)):=by
 have o1:=hR.q.rd.one;have o2:=hF.rd.one;have hpb:=hP.1;have hpb2:=hP.2.1;refine Ao func33 ntmps33 Y Y (λw0 hw0=>?_);simp only[AX];refine Ap (AQ [_] Y Y (by rfl) Y Y Y (λg3=>Qm Y (Cx [.w 0,.w 0,.w 0,.slice none 0 0] Y A7 Y Y (λg7=>Cx [.w 0,.w 0,.w 0,.slice none 0 0] Y A7 Y Y (λg8=>Qm Y (Am (Bm 2 Y λh1 l1 hS=>?_)))))));have hR:=hR.up l1;have hF:=hF.up l1;have her:=λms=>DZ (Pq l F v vf p h1 hK hR hF hV ⟨ω,ω⟩ hl) ms;rw[X7 h0 hP]at her;refine Ap (Qx (oG Y CN A0 (Seg.any hS)) Y (Qm Y (Qm Y (Qx (AG Y call85 Y (her _)) Y (Qm Y (Am (Ac (Ap (Qm Y (Qm Y (Am (Ar Y (λhc=>absurd hc (λh=>h Y)) (λhc=>Ah (Ab (Ap (Qx (oG Y CN A0 (Seg.any hS)) Y (Qm Y (Qm Y (Qc call86 Y (JQ l F v vf p h1 hK hR hF hn hmon hP hl) (λrm h2 ms2 l2 hQ=>?_))))))))))))))))))));obtain⟨l2',S,H,er,mr,rfl,rfl,hOr⟩:=hQ;change OwnL cI 1 3 mr er (BN S.length S.length λi j=>(CZ p S j).getD i 0) at hOr;have hSl:=H.len;have oer:=hOr.o1;refine Cx [.w 0,.w 0,.w 0,.slice none 0 0] Y A7 Y Y (λg11=>?_);refine Sa 0 [_,_,_,_] A7 Y (by simp[o1,o2,oer]) ?_;refine Am (AA λh3 l3 hS11=>?_);have l23:=AI l1 (AI l2 l3);have c112:∀ms,Cell h3 ms (⟨g11,2,none⟩:Addr) (.w S.length):=λms=>Seg.all hS11 2 _ Y ms;refine Ap (Qf B6 Y (Ql Y U3 (c112 _) (Qm Y (BE (Qm Y (Qm Y (Qc call87 Y (YC p S.length h3 hP ω) (λrv h4 ms4 l4 hQ=>?_))))))));obtain⟨rfl,ev,mv,rfl,rfl,hOv⟩:=hQ;change OwnL cI 1 3 mv ev (BN S.length S.length eye) at hOv;have oev:=hOv.o1;refine Cx [.w 0,.w 0,.w 0,.slice none 0 0] Y A7 Y Y (λg13=>?_);refine Sa 0 [_,_,_,_] A7 Y (by simp[o1,o2,oer,oev]) ?_;refine Am (AA λh5 l5 hS13=>?_);have hS11:=hS11.le l5;have hR:=hR.up (AI l2 (AI l3 l5));have hF:=hF.up (AI l2 (AI l3 l5));have hS3:=hS.le (AI l2 (AI l3 l5));have e11:∀ms,Cell h5 ms (⟨g11,3,none⟩:Addr) er:=λms=>Seg.all hS11 3 _ Y ms;have e13:∀ms,Cell h5 ms (⟨g13,3,none⟩:Addr) ev:=λms=>Seg.all hS13 3 _ Y ms;have hnn:S.length*S.length<=160000:=by have:=dd (show S.length<=400 by omega) (show S.length<=400 by omega);omega
 obtain⟨n,hnS⟩:∃n,S.length=n:=⟨_,Y⟩
 have hn4:n<=400:=ω
 rw[hnS]at hOr hOv hnn hS11 hS13 ⊢;rw[AS (g:=mc (λ_=>[]) (CZ p S) 0 (CZ p S 0)) λa _ b _=>Oj (λ_=>[]) (CZ p S) a b]at hOr;rw[AS (g:=mc (λ_=>[]) (CO n) 0 (CO n 0)) λa ha b hb=>Aag a b ha hb _]at hOv;have hcl:∀j,(CZ p S j).length=n:=λj=>by rw[<-hnS];exact DR _ _ _ _
 have hz7:[Value.w 0,.w 0,.w 0,.slice none 0 0]=[Value.w 0,.w 0,.w 0,.slice none 0 0]:=rfl;refine A9 (λsl h' ms'=>∃(R V:Nat->List Int) (la:List Int) (mr mv:Hp),sl=[(1,vf),(3,.pt g3),(7,.pt g7),(8,.pt g8),(11,.pt g11),(13,.pt g13)]/\h5=h'/\ms'=[mv,mr,A8 g8 65 [.w 0,.w 0,.w 0,.slice none 0 0],A8 g7 65 [.w 0,.w 0,.w 0,.slice none 0 0]]/\AllC p S n n R V la/\OwnL cI 1 3 mr er (BN n n λi j=>(R j).getD i 0)/\OwnL cI 1 3 mv ev (BN n n λi j=>(V j).getD i 0)) ?_ (λs h ms hI=>?_)
 ·refine Ac (Ad (Qm Y (Am (Ag ?_))))
  refine Ax (λq sl h' ms'=>∃(j:Nat) (R V:Nat->List Int) (la:List Int) (mr mv:Hp),q=n-j/\sl=[(1,vf),(2,.w p),(3,.pt g3),(7,.pt g7),(8,.pt g8),(11,.pt g11),(12,.w n),(13,.pt g13),(14,.w j)]/\h5=h'/\ms'=[mv,mr,A8 g8 65 [.w 0,.w 0,.w 0,.slice none 0 0],A8 g7 65 [.w 0,.w 0,.w 0,.slice none 0 0]]/\j<=n/\AllC p S n j R V la/\OwnL cI 1 3 mr er (BN n n (mc R (CZ p S) j (CZ p S j)))/\OwnL cI 1 3 mv ev (BN n n (mc V (CO n) j (CO n j))))
   (n-0) _ ⟨0,_,_,_,mr,mv,rfl,rfl,rfl,rfl,ω,P6 p S n,hOr,hOv⟩ Qs ?_
  rintro q sl h' ms' ⟨j,R,V,la,mr,mv,rfl,rfl,rfl,rfl,hj,A,hOr,hOv⟩;refine Ac (Ap (Qm Y (Qm Y (Qm Y (Am ?_)))));refine Ar Y (λhjn=>?_) (λhjn=>?_)
  ·have hjl:j<n:=ω
   refine Ah (Ab (Ac (Ag (Ap (Qm Y (Am (Ag ?_)))))))
   refine Ax (λq sl h' ms'=>∃(k:Nat) (y:Int) (r1 v1:List Int) (mr mv:Hp),q=(AU r1+1).toNat*401+(j-k)/\sl=[(1,vf),(2,.w p),(3,.pt g3),(7,.pt g7),(8,.pt g8),(11,.pt g11),(12,.w n),(13,.pt g13),(14,.w j),(15,.w y)]/\h5=h'/\ms'=[mv,mr,A8 g8 65 [.w 0,.w 0,.w 0,.slice none 0 0],A8 g7 65 [.w 0,.w 0,.w 0,.slice none 0 0]]/\y=k/\k<=j/\r1.length=n/\v1.length=n/\Jo p r1/\Jo p v1/\Ops p n j R V (CZ p S j) (CO n j) r1 v1/\(∀k',k'<k->0<=AU r1->AU (R k')≠AU r1)/\OwnL cI 1 3 mr er (BN n n (mc R (CZ p S) j r1))/\OwnL cI 1 3 mv ev (BN n n (mc V (CO n) j v1)))
    _ _ ⟨0,0,CZ p S j,CO n j,mr,mv,rfl,rfl,rfl,rfl,rfl,ω,hcl j,Js _ _,Iv ω _ _ _,Mn hpb _ _,.refl,λ_ h=>ω,hOr,hOv⟩ Qs ?_
   rintro q sl h' ms' ⟨k,y,r1,v1,mr,mv,rfl,rfl,rfl,rfl,hy,hk,lr,lv,rr,rv,hOp,hfr,hOr,hOv⟩;refine Ac (Ap (Qm Y (Qm Y (Qm Y (Am ?_)))));refine Ar Y (λhkj=>?_) (λhkj=>?_)
   ·have hkl:k<j:=ω
    have hkn:k<n:=ω
    have lRk:=A.red.rl k hkl;have lVk:=A.red.vl k hkl
    have hL1:∀ms,mr∈ms->FnV Tryz.prog 88 #[.agg #[.w p,.w n,.w n,er],.w j] h5 ms (.w (AU r1)):=λms hm=>Cr λh' hl hmm=>by
     have:=KY p n (mc R (CZ p S) j r1) er j h' (hOr.rdh (hmm _ hm)) hn4 hjl []
     rwa [Aa1 _ _ _ _ lr]at this
    have hL2:∀ms,mr∈ms->FnV Tryz.prog 88 #[.agg #[.w p,.w n,.w n,er],.w y] h5 ms (.w (AU (R k))):=λms hm=>Cr λh' hl hmm=>by
     have:=KY p n (mc R (CZ p S) j r1) er k h' (hOr.rdh (hmm _ hm)) hn4 hkn [];rw[Aae _ _ _ _ hkl lRk]at this
     rwa [hy]
    have s11:∀ms,Seg h5 ms (⟨g11,0,none⟩:Addr) [.w p,.w n,.w n,er]:=λms=>hS11.any;refine Ah (Ab (Ac (Ag (Ap (Qx (oG Y D8 A7 (s11 _)) Y (Qm Y (Qx (AG Y call88 Y (hL1 _ (.tail _ (.head _)))) Y (Qm Y (Am (Ac (Ap (Qm Y (Qm Y (Am ?_))))))))))))));refine Ar Y (λhneg=>?_) (λhneg=>?_)
    ·obtain⟨la',A'⟩:=A.put hn4 lr lv rr rv hOp λk' hk' h=>ω
     rw[AS λa _ b _=>Ko R (CZ p S) j r1 a b]at hOr;rw[AS λa _ b _=>Ko V (CO n) j v1 a b]at hOv;refine Aq (Aa (Eg Y (Aa (Aa (Af (Ai (Ab (Ad (Qm Y (Qx (oA Y) Y (Qm Y (Al ?_))))))))))));exact Ak (n-(j+1)) _ ω ⟨j+1,_,_,la',mr,mv,Y,Y,Y,Y,ω,A',hOr,hOv⟩ Qs
    ·obtain⟨m,hm⟩:∃m:Nat,AU r1=m:=⟨(AU r1).toNat,ω⟩
     refine Ah (Ab (Ac (Ap (Qx (oG Y D8 A7 (s11 _)) Y (Qm Y (Qx (AG Y call88 Y (hL2 _ (.tail _ (.head _)))) Y (Qm Y (Qm Y (Am ?_)))))))));refine Ar Y (λhne=>?_) (λhne=>?_)
     ·refine Aq (Aa (Af (Ab (Ad (Qm Y (Qx (oA Y) Y (Qm Y (Al ?_))))))))
      exact Ak ((AU r1+1).toNat*401+(j-(k+1))) _ ω ⟨k+1,y+1,r1,v1,mr,mv,Y,Y,Y,Y,ω,ω,lr,lv,rr,rv,hOp,λk' hk' h=>by
       rcases (ω:k'<k\/k'=k) with h1|rfl
       ·exact hfr k' h1 h
       ·exact hne,hOr,hOv⟩ Qs
     ·have hlk:AU (R k)=(m:Int):=by rw[<-hm];exact Classical.not_not.1 hne
      have hmn:m<n:=by have:=Dl r1;omega
      obtain⟨hk1,hk2,_⟩:=DP hlk;obtain⟨_,hi2,_⟩:=DP hm;have hi2':=hi2;have hk2':=hk2;have bx:=CJ ω rr m;have bb:=CJ ω (A.red.rr k hkl) m
      have cx:∀ms,mr∈ms->Cell h5 ms ((AF er).add ((m*n+j)*1)) (.w (r1.getD m 0)):=λms hq=>by
       have:=(hOr.rd (h:=h5) hq).ent hmn hjl
       rwa [show mc R (CZ p S) j r1 m j=r1.getD m 0 by unfold mc;rw[aa ω,ab rfl]]at this
      have cb:∀ms,mr∈ms->Cell h5 ms ((AF er).add ((m*n+k)*1)) (.w ((R k).getD m 0)):=λms hq=>by
       have:=(hOr.rd (h:=h5) hq).ent hmn hkn
       rwa [Xa _ _ _ _ hkl]at this
      obtain⟨x,hx⟩:∃x,r1.getD m 0=x:=⟨_,Y⟩
      obtain⟨b,hb⟩:∃b,(R k).getD m 0=b:=⟨_,Y⟩
      rw[hx]at cx bx;rw[hb]at cb bb;have hb0:b≠0:=by rw[<-hb];exact hk2
      have hinv:=ML hP (show 0<b by omega) bb.2;have hwb:=PY hpb b;have hov:=Vm b p h5 ⟨hpb,hpb2⟩ bb;obtain⟨w,hw⟩:∃w,FC p b=w:=⟨_,Y⟩
      rw[hw]at hinv hwb hov;have hpw:0<=(p-x)*w/\(p-x)*w<=997*997:=⟨Int.mul_nonneg ω ω,Int.mul_le_mul ω ω ω ω⟩
      have hkill:=Abg (x:=x) hinv (show 0<p by omega);have ht0:=da ((p-x)*w) (show p≠0 by omega);have ht1:=dc ((p-x)*w) (show 0<p by omega);have hix1:=DO hmn hjl;have hix2:=DO hmn hkn;have hml:(BN n n (mc R (CZ p S) j r1)).length=n*n:=BK _ _ _;have hc1:(((m*n+j:Nat)):Int)=(m:Int)*(n:Int)+j:=by rw[Int.natCast_add,Int.natCast_mul]
      have hc2:(((m*n+k:Nat)):Int)=(m:Int)*(n:Int)+k:=by rw[Int.natCast_add,Int.natCast_mul]
      have hmn0:0<=(m:Int)*(n:Int):=Int.mul_nonneg ω ω;rw[hm];subst hy;refine Ah (Ab (Ac (A5 24 CT κ Y (Wm Y (Wf BH Y (Wl Y AP (e11 _) (Wm Y (Wm Y (AL (oM Y) Y Y (Wm Y (AL (oA Y) Y Y (AL (Az ((m*n+j)) (hOr.rd (h:=h5) (ms:=[mv,mr,A8 g8 65 [.w 0,.w 0,.w 0,.slice none 0 0],A8 g7 65 [.w 0,.w 0,.w 0,.slice none 0 0]]) (.tail _ (.head _))).rd Y AP A3 Y Y ω ω) Y Y (Wl Y U3 (cx _ (.tail _ (.head _))) (AL (oS Y) Y Y (Wf BH Y (Wl Y AP (e11 _) (Wm Y (Wm Y (AL (oM Y) Y Y (Wm Y (AL (oA Y) Y Y (AL (Az ((m*n+k)) (hOr.rd (h:=h5) (ms:=[mv,mr,A8 g8 65 [.w 0,.w 0,.w 0,.slice none 0 0],A8 g7 65 [.w 0,.w 0,.w 0,.slice none 0 0]]) (.tail _ (.head _))).rd Y AP A3 Y Y ω ω) Y Y (Wl Y U3 (cb _ (.tail _ (.head _))) (Wm Y (AL (AG Y call89 Y (hov _)) Y Y (AL (oM Y) Y Y (Wm Y (AZ (Qx (BJ Y Y Y ω ω) Y (Qm Y (Am (Ac (Ap (Qm Y (Am (Ag ?_))))))))))))))))))))))))))))))))))));obtain⟨tt,htt⟩:∃tt,(p-x)*w%p=tt:=⟨_,Y⟩
      rw[htt]at hkill ht0 ht1 ⊢;have hll:r1.length=(R k).length:=by rw[lr,lRk]
      have hlv:v1.length=(V k).length:=by rw[lv,lVk]
      have hless:=MH (p:=p) (t:=tt) hll hm hlk (by rw[hx,hb];exact hkill);rw[show r1=NI p r1 (R k) tt 0 from(Pz _ _ _ _).symm]at hOr;rw[show v1=NI p v1 (V k) tt 0 from(Pz _ _ _ _).symm]at hOv
      refine Ax (λq sl h' ms'=>∃(i:Nat) (mr mv:Hp),q=n-i/\sl=[(1,vf),(2,.w p),(3,.pt g3),(7,.pt g7),(8,.pt g8),(11,.pt g11),(12,.w n),(13,.pt g13),(14,.w j),(15,.w k),(17,.w tt),(18,.w i)]/\h5=h'/\ms'=[mv,mr,A8 g8 65 [.w 0,.w 0,.w 0,.slice none 0 0],A8 g7 65 [.w 0,.w 0,.w 0,.slice none 0 0]]/\i<=n/\OwnL cI 1 3 mr er (BN n n (mc R (CZ p S) j (NI p r1 (R k) tt i)))/\OwnL cI 1 3 mv ev (BN n n (mc V (CO n) j (NI p v1 (V k) tt i))))
       (n-0) _ ⟨0,mr,mv,rfl,rfl,rfl,rfl,ω,hOr,hOv⟩ Qs ?_
      rintro q sl h' ms' ⟨i,mr,mv,rfl,rfl,rfl,rfl,hi,hOr,hOv⟩;refine Ac (Ap (Qm Y (Qm Y (Qm Y (Am ?_)))));refine Ar Y (λhin=>?_) (λhin=>?_)
      ·have hil:i<n:=ω
       have bx:=CJ ω rr i;have bb:=CJ ω (A.red.rr k hkl) i;have ux:=CJ ω rv i;have ub:=CJ ω (A.red.vr k hkl) i
       have cx:∀ms,mr∈ms->Cell h5 ms ((AF er).add ((i*n+j)*1)) (.w (r1.getD i 0)):=λms hq=>by
        have:=(hOr.rd (h:=h5) hq).ent hil hjl
        rwa [Ww p R (CZ p S) j tt lr hil]at this
       have cb:∀ms,mr∈ms->Cell h5 ms ((AF er).add ((i*n+k)*1)) (.w ((R k).getD i 0)):=λms hq=>by
        have:=(hOr.rd (h:=h5) hq).ent hil hkn
        rwa [Xa _ _ _ _ hkl]at this
       have dx:∀ms,mv∈ms->Cell h5 ms ((AF ev).add ((i*n+j)*1)) (.w (v1.getD i 0)):=λms hq=>by
        have:=(hOv.rd (h:=h5) hq).ent hil hjl
        rwa [Ww p V (CO n) j tt lv hil]at this
       have db:∀ms,mv∈ms->Cell h5 ms ((AF ev).add ((i*n+k)*1)) (.w ((V k).getD i 0)):=λms hq=>by
        have:=(hOv.rd (h:=h5) hq).ent hil hkn
        rwa [Xa _ _ _ _ hkl]at this
       have sR:=λa b ha=>SS p R (CZ p S) j (b1:=R k) tt lr hil a b ha;have sV:=λa b ha=>SS p V (CO n) j (b1:=V k) tt lv hil a b ha;obtain⟨x,hx⟩:∃x,r1.getD i 0=x:=⟨_,Y⟩
       obtain⟨b,hb⟩:∃b,(R k).getD i 0=b:=⟨_,Y⟩
       obtain⟨u,hu⟩:∃u,v1.getD i 0=u:=⟨_,Y⟩
       obtain⟨z,hz⟩:∃z,(V k).getD i 0=z:=⟨_,Y⟩
       rw[hx]at cx bx;rw[hb]at cb bb;rw[hu]at dx ux;rw[hz]at db ub;simp only[hx,hb]at sR;simp only[hu,hz]at sV;have hm1:0<=tt*b/\tt*b<=997*997:=⟨Int.mul_nonneg ht0 bb.1,Int.mul_le_mul ω ω ω ω⟩
       have hm2:0<=tt*z/\tt*z<=997*997:=⟨Int.mul_nonneg ht0 ub.1,Int.mul_le_mul ω ω ω ω⟩
       have hix1:=DO hil hjl;have hix2:=DO hil hkn;have hml1:(BN n n (mc R (CZ p S) j (NI p r1 (R k) tt i))).length=n*n:=BK _ _ _;have hml2:(BN n n (mc V (CO n) j (NI p v1 (V k) tt i))).length=n*n:=BK _ _ _;have hc1:(((i*n+j:Nat)):Int)=(i:Int)*(n:Int)+j:=by rw[Int.natCast_add,Int.natCast_mul]
       have hc2:(((i*n+k:Nat)):Int)=(i:Int)*(n:Int)+k:=by rw[Int.natCast_add,Int.natCast_mul]
       have hin0:0<=(i:Int)*(n:Int):=Int.mul_nonneg ω ω;have hOr1:=hOr;refine Ah (Ab (Ac (Ag (Ac (A5 30 CT κ Y (Wf BH Y (Wl Y AP (e11 _) (Wm Y (Wm Y (AL (oM Y) Y Y (Wm Y (AL (oA Y) Y Y (Wf BH Y (Wl Y AP (e11 _) (Wm Y (Wm Y (AL (oM Y) Y Y (Wm Y (AL (oA Y) Y Y (AL (Az ((i*n+j)) (hOr1.rd (h:=h5) (ms:=[mv,mr,A8 g8 65 [.w 0,.w 0,.w 0,.slice none 0 0],A8 g7 65 [.w 0,.w 0,.w 0,.slice none 0 0]]) (.tail _ (.head _))).rd Y AP A3 Y Y ω ω) Y Y (Wl Y U3 (cx _ (.tail _ (.head _))) (Wm Y (Wf BH Y (Wl Y AP (e11 _) (Wm Y (Wm Y (AL (oM Y) Y Y (Wm Y (AL (oA Y) Y Y (AL (Az ((i*n+k)) (hOr1.rd (h:=h5) (ms:=[mv,mr,A8 g8 65 [.w 0,.w 0,.w 0,.slice none 0 0],A8 g7 65 [.w 0,.w 0,.w 0,.slice none 0 0]]) (.tail _ (.head _))).rd Y AP A3 Y Y ω ω) Y Y (Wl Y U3 (cb _ (.tail _ (.head _))) (AL (oM Y) Y Y (AL (oA Y) Y Y (Wm Y (AL (BJ Y Y Y ω ω) Y Y (AZ (Qx (Az ((i*n+j)) (hOr1.rd (h:=h5) (ms:=[mv,mr,A8 g8 65 [.w 0,.w 0,.w 0,.slice none 0 0],A8 g7 65 [.w 0,.w 0,.w 0,.slice none 0 0]]) (.tail _ (.head _))).rd Y AP A3 Y Y ω ω) Y (B8 (F:=cI) (f:=λx=>.w x) (a:=(x+tt*b)%p) 1 (i*n+j) (λ_=>rfl) hOr Y A3 Y Y Y Y ω Y Y (λm2 hO2=>?_)))))))))))))))))))))))))))))))))))))));rw[Fk _ hjl,AS (g:=mc R (CZ p S) j (NI p r1 (R k) tt (i+1))) (λa ha b hb=>sR a b ha)]at hO2;refine Am (A5 30 CT κ Y (Wf BH Y (Wl Y AP (e13 _) (Wm Y (Wm Y (AL (oM Y) Y Y (Wm Y (AL (oA Y) Y Y (Wf BH Y (Wl Y AP (e13 _) (Wm Y (Wm Y (AL (oM Y) Y Y (Wm Y (AL (oA Y) Y Y (AL (Az ((i*n+j)) (hOv.rd (h:=h5) (ms:=[mv,m2,A8 g8 65 [.w 0,.w 0,.w 0,.slice none 0 0],A8 g7 65 [.w 0,.w 0,.w 0,.slice none 0 0]]) (.head _)).rd Y AP A3 Y Y ω ω) Y Y (Wl Y U3 (dx _ (.head _)) (Wm Y (Wf BH Y (Wl Y AP (e13 _) (Wm Y (Wm Y (AL (oM Y) Y Y (Wm Y (AL (oA Y) Y Y (AL (Az ((i*n+k)) (hOv.rd (h:=h5) (ms:=[mv,m2,A8 g8 65 [.w 0,.w 0,.w 0,.slice none 0 0],A8 g7 65 [.w 0,.w 0,.w 0,.slice none 0 0]]) (.head _)).rd Y AP A3 Y Y ω ω) Y Y (Wl Y U3 (db _ (.head _)) (AL (oM Y) Y Y (AL (oA Y) Y Y (Wm Y (AL (BJ Y Y Y ω ω) Y Y (AZ (Qx (Az ((i*n+j)) (hOv.rd (h:=h5) (ms:=[mv,m2,A8 g8 65 [.w 0,.w 0,.w 0,.slice none 0 0],A8 g7 65 [.w 0,.w 0,.w 0,.slice none 0 0]]) (.head _)).rd Y AP A3 Y Y ω ω) Y (B8 (F:=cI) (f:=λx=>.w x) (a:=(u+tt*z)%p) 0 (i*n+j) (λ_=>rfl) hOv Y A3 Y Y Y Y ω Y Y (λm3 hO3=>?_)))))))))))))))))))))))))))))))))));rw[Fk _ hjl,AS (g:=mc V (CO n) j (NI p v1 (V k) tt (i+1))) (λa ha b hb=>sV a b ha)]at hO3;refine Al (Ai (Ab (Ad (Qm Y (Qx (oA Y) Y (Qm Y (Al ?_)))))));exact Ak (n-(i+1)) _ ω ⟨i+1,m2,m3,Y,Y,Y,Y,ω,hO2,hO3⟩ Qs
      ·obtain rfl:i=n:=ω
       rw[show NI p r1 (R k) tt i=Eu p r1 (R k) tt by rw[<-lr];exact SM p tt hll]at hOr;rw[show NI p v1 (V k) tt i=Eu p v1 (V k) tt by rw[<-lv];exact SM p tt hlv]at hOv;have hlb:=Dl (Eu p r1 (R k) tt);refine Aq (Aa (Aa (Af (Ab (Ad (Qm Y (Al (Ai (Ab (Ad (Qm Y (Qx (oA Y) Y (Qm Y (Al ?_))))))))))))));exact Ak ((AU (Eu p r1 (R k) tt)+1).toNat*401+(j-0)) _ ω ⟨0,-1+1,Eu p r1 (R k) tt,Eu p v1 (V k) tt,mr,mv,Y,Y,Y,Y,Y,ω,by rw[DS hll,lr],by rw[DS hlv,lv],Iq ω _ _,Iq ω _ _,.step hOp hkl hmn ht0 ht1 hi2' hk2',λ_ h=>ω,hOr,hOv⟩ Qs
   ·obtain⟨la',A'⟩:=A.put hn4 lr lv rr rv hOp λk' hk'=>hfr k' ω;rw[AS λa _ b _=>Ko R (CZ p S) j r1 a b]at hOr;rw[AS λa _ b _=>Ko V (CO n) j v1 a b]at hOv;refine Aq (Aa (Aa (Af (Ai (Ab (Ad (Qm Y (Qx (oA Y) Y (Qm Y (Al ?_))))))))));exact Ak (n-(j+1)) _ ω ⟨j+1,_,_,la',mr,mv,Y,Y,Y,Y,ω,A',hOr,hOv⟩ Qs
  ·obtain rfl:j=n:=ω
   rw[AS (g:=λi j=>(R j).getD i 0) λa _ b hb=>Xa R _ _ _ hb a]at hOr;rw[AS (g:=λi j=>(V j).getD i 0) λa _ b hb=>Xa V _ _ _ hb a]at hOv;refine Aq (Aa (Aa (Af ?_)));exact AE _ ⟨R,V,la,mr,mv,Y,Y,Y,A,hOr,hOv⟩ Qs
 ·obtain⟨R,V,la,mr,mv,rfl,rfl,rfl,A,hOr,hOv⟩:=hI;subst hnS;have s11:∀ms,Seg h5 ms (⟨g11,0,none⟩:Addr) [.w p,.w S.length,.w S.length,er]:=λms=>hS11.any;have s13:∀ms,Seg h5 ms (⟨g13,0,none⟩:Addr) [.w p,.w S.length,.w S.length,ev]:=λms=>hS13.any;have s3:∀ms,Seg h5 ms (⟨g3,0,none⟩:Addr) [v]:=λms=>hS3.any;refine Ac (BL (n:=9) (bs:=[true,true,false,true,true,false,false,false,false]) [true,true,false,true,true] CT κ κ Y Y (Qp Y (oG Y CN A0 (s3 _)) (Qq Y (Qp Y (oG Y D8 A7 (s11 _)) (Qp Y (oG Y D8 A7 (s13 _)) ?_)))));unfold FS;simp only[bh,av];refine Qo 2 Y (Qc call90 Y (Li l F v vf _ hK hR hF hn hmon hl) (λro h6 ms6 l6 hQ=>?_));obtain⟨l6',S',mo,H',rfl,hOo⟩:=hQ;rw[H.ids H']at hOo;refine Qa (Qo 5 Y (Qm Y (Qa (Qo 6 Y ?_))));refine Sa 4 [_,_,_,_] A7 Y (by simp[o1,o2,oer,oev]) ?_;refine Qa (Qo 7 Y ?_);refine Sa 3 [_,_,_,_] A7 Y (by simp[o1,o2,oer,oev]) ?_;refine Qa (Qo 8 Y (Qm Y (Qa (Qe (Ab (An ?_))))));exact PW (vs1:=[_,_,_,_]) (vs2:=[_,_,_,_]) 4 3 Y Y Y Y Y D8 Y A7 Y Y Y Y ⟨AI l23 (AI l5 l6'),S,R,V,ro,er,ev,mo,mr,mv,⟨H.perm,H.srt,la,A⟩,Y,Y,hOo,hOr,hOv⟩
end Go.Proofs.Q
namespace Go.Proofs.Q
open Go.Eng Go.RowKit Go.Lin Go.Sort Go.Srt
variable {S S':List Ce}
theorem JG(h:S'.map Ce.c=S.map Ce.c)(i:Nat):C9 S' i=C9 S i:=by
 have hl:S'.length=S.length:=by have:=bf List.length h;rwa [af,af]at this
 have h1:=bf (λl=>l[i]?) h;simp only[List.getElem?_map]at h1;unfold C9;simp only[List.getD];by_cases hi:i<S.length
 ·rw[co ω,co hi]at h1 ⊢;simpa using h1
 ·rw[List.getElem?_eq_none ω,List.getElem?_eq_none ω]
theorem Uo{f:Int->Int}(h:S'.map Ce.c=S.map Ce.c)(L:List Int)(i:Nat):F1 f S' L i=F1 f S L i:=by have hs:=λk=>JG h k;unfold C9 at hs;unfold F1;simp only[hs]
theorem QT{f:Int->Int}(h:S'.map Ce.c=S.map Ce.c)(L:List Int)(n:Nat):Dc f S' L n=Dc f S L n:=by unfold Dc;rw[show F1 f S' L=F1 f S L from funext λi=>Uo h L i]
end Go.Proofs.Q
namespace Go.Proofs.Q
open Go.Eng Go.RowKit Go.Lin Go.Sort Go.Srt
theorem PersF.srtH{p:Int}{F:List (Int×Int)}{l S:List Ce}{R V:Nat->List Int}(P:PersF p F l S R V)(G:Rgt (cn l))(hmon:∀x∈cn l,∀s∈x.sd,CF (Bj F) s.1<=CF (Bj F) x.id):SrtH F l S:=⟨P.perm,P.srt,G,hmon⟩
end Go.Proofs.Q
namespace Go.Proofs.Q
open Go.Eng Go.RowKit
variable {o:List Cl} {M:List Bool} {c0 x:Int} {Q:List Int} {k:Nat}
def MkC(o:List Cl)(M:List Bool)(x:Int):Prop:=∃k,k<o.length/\(o.getD k default).id=x/\M.getD k false=true
structure ReI(o:List Cl)(c0:Int)(M:List Bool)(Q:List Int):Prop where
 len:M.length=o.length
 rM:∀x,MkC o M x->Rch (WT o) c0 x
 rQ:∀x∈Q,Rch (WT o) c0 x
 st:c0∈Q\/MkC o M c0
 cl:∀x,MkC o M x->∀s∈WT o x,s∈Q\/MkC o M s
theorem ReI.start(o:List Cl)(c0:Int):ReI o c0 (replicate o.length false) [c0]:=by
 have hn:∀x,¬MkC o (replicate o.length false) x:=λx ⟨k,hk,_,h⟩=>by simp[List.getD,hk]at h
 exact⟨by simp,λx h=>absurd h (hn x),λx h=>by rw[ak.1 h];exact .refl _,.inl (ak.2 Y),λx h=>absurd h (hn x)⟩
theorem ReI.mem(R:Rgt o)(hc:c0∈o.map Cl.id)(I:ReI o c0 M Q)(h:Rch (WT o) c0 x):∃y∈o,y.id=x:=by
 have:x∈o.map Cl.id:=by
  induction h with
  | refl=>exact hc
  | step h hk ih=>
   obtain⟨z,hz,rfl⟩:=ai.1 ih;unfold WT at hk;rw[C6 R.nd hz]at hk;obtain⟨s,hs,rfl⟩:=ai.1 hk;obtain⟨w,hw,e,_⟩:=R.sid z hz s hs;exact ai.2 ⟨w,hw,e⟩
 obtain⟨y,hy,e⟩:=ai.1 this;exact⟨y,hy,e⟩
theorem ReI.skip(I:ReI o c0 M (x::Q))(hx:MkC o M x):ReI o c0 M Q:=by
 refine⟨I.len,I.rM,λy hy=>I.rQ y (au _ hy),?_,λy hy s hs=>?_⟩
 ·rcases I.st with h|h
  ·rcases aj.1 h with rfl|h
   ·exact .inr hx
   ·exact .inl h
  ·exact .inr h
 ·rcases I.cl y hy s hs with h|h
  ·rcases aj.1 h with rfl|h
   ·exact .inr hx
   ·exact .inl h
  ·exact .inr h
theorem MkC.set(hk:k<M.length):MkC o (M.set k true) x<->MkC o M x\/(k<o.length/\(o.getD k default).id=x):=by
 constructor
 ·rintro⟨q,h1,h2,h3⟩;by_cases e:k=q
  ·subst e;exact .inr ⟨h1,h2⟩
  ·refine .inl ⟨q,h1,h2,?_⟩
   rwa [show(M.set k true).getD q false=M.getD q false by simp[List.getD,List.getElem?_set_ne e]]at h3
 ·rintro(⟨q,h1,h2,h3⟩|⟨h1,h2⟩)
  ·refine⟨q,h1,h2,?_⟩;by_cases e:k=q
   ·subst e;simp[List.getD,hk]
   ·rw[show(M.set k true).getD q false=M.getD q false by simp[List.getD,List.getElem?_set_ne e]];exact h3
  ·exact⟨k,h1,h2,by simp[List.getD,hk]⟩
theorem ReI.mark(R:Rgt o)(I:ReI o c0 M (x::Q))(hk:k<o.length)(e:(o.getD k default).id=x):ReI o c0 (M.set k true) (Q++(o.getD k default).sd.map Prod.fst):=by
 have hkM:k<M.length:=by rw[I.len];exact hk
 have hs:WT o x=(o.getD k default).sd.map Prod.fst:=by unfold WT;rw[<-e,C6 R.nd (Ea hk)]
 have hrx:=I.rQ x Mh;refine⟨by rw[List.length_set];exact I.len,λy hy=>?_,λy hy=>?_,?_,λy hy s hs'=>?_⟩
 ·rcases (MkC.set hkM).1 hy with h|⟨_,h⟩
  ·exact I.rM y h
  ·rw[<-h,e];exact hrx
 ·rcases aq.1 hy with h|h
  ·exact I.rQ y (au _ h)
  ·exact .step hrx (by rw[hs];exact h)
 ·rcases I.st with h|h
  ·rcases aj.1 h with rfl|h
   ·exact .inr ((MkC.set hkM).2 (.inr ⟨hk,e⟩))
   ·exact .inl (aq.2 (.inl h))
  ·exact .inr ((MkC.set hkM).2 (.inl h))
 ·rcases (MkC.set hkM).1 hy with h|⟨_,h⟩
  ·rcases I.cl y h s hs' with h2|h2
   ·rcases aj.1 h2 with rfl|h2
    ·exact .inr ((MkC.set hkM).2 (.inr ⟨hk,e⟩))
    ·exact .inl (aq.2 (.inl h2))
   ·exact .inr ((MkC.set hkM).2 (.inl h2))
  ·rw[<-h,e,hs]at hs';exact .inl (aq.2 (.inr hs'))
theorem ReI.all(R:Rgt o)(hc:c0∈o.map Cl.id)(I:ReI o c0 M [])(hk:k<o.length):M.getD k false=true<->(o.getD k default).id∈XP o c0:=by
 have hcl:∀x,Rch (WT o) c0 x->MkC o M x:=λx h=>by
  induction h with
  | refl=>exact I.st.resolve_left nofun
  | step h hk' ih=>exact(I.cl _ ih _ hk').resolve_left nofun
 rw[cloL_mem];constructor
 ·intro h;exact⟨ai.2 ⟨_,Ea hk,Y⟩,I.rM _ ⟨k,hk,Y,h⟩⟩
 ·rintro⟨_,h⟩;obtain⟨q,h1,h2,h3⟩:=hcl _ h;have:=LA R.nd h1 hk h2;subst this;exact h3
def Uu(M:List Bool)(Q:List Int):Nat:=M.count false*70+Q.length
theorem UT(hk:k<M.length)(h:M.getD k false=false){S:List Int}(hS:S.length<=64):Uu (M.set k true) (Q++S)<Uu M (x::Q):=by
 have hc:(M.set k true).count false+1=M.count false:=by
  have hg:M[k]=false:=by simpa[List.getD,hk] using h
  have h1:=List.count_set (a:=true) (b:=false) (l:=M) (i:=k) hk;rw[hg]at h1;have h2:0<M.count false:=List.count_pos_iff.2 (by rw[<-hg];exact ae hk);simp at h1;omega
 unfold Uu;rw[ad,df];omega
theorem Wn(M:List Bool)(x:Int)(Q:List Int):Uu M Q<Uu M (x::Q):=by unfold Uu;rw[df];omega
def Jq(o:List Cl)(M:List Bool)(n:Nat):List Int:=((range n).filter λk=>M.getD k false).map λk=>(o.getD k default).id
theorem Vc(R:Rgt o)(hc:c0∈o.map Cl.id)(I:ReI o c0 M [])(x:Int):x∈Jq o M o.length<->x∈XP o c0:=by
 unfold Jq;rw[ai];constructor
 ·rintro⟨k,hk,rfl⟩;obtain⟨h1,h2⟩:=di.1 hk;exact(I.all R hc (ba.1 h1)).1 h2
 ·intro h;obtain⟨y,hy,rfl⟩:=ai.1 (cloL_mem.1 h).1;obtain⟨h1,h2⟩:=Hq hy R.nd;refine⟨Qj o y.id,di.2 ⟨ba.2 h1,?_⟩,by rw[h2]⟩;exact(I.all R hc h1).2 (by rw[h2];exact h)
theorem TN(o:List Cl)(M:List Bool)(n:Nat):Jq o M (n+1)=Jq o M n++if M.getD n false then [(o.getD n default).id] else []:=by
 unfold Jq;rw[List.range_succ,List.filter_append,bg];congr 1;cases h:M.getD n false
 ·rw[filter_cons,h];simp
 ·rw[filter_cons,h];simp
def nM(L:List Int)(k:Int):Int:=L.getD (k%(L.length:Int)).toNat 0%6
def Sd(L:List Int)(ks:List Int):Int:=if L=[] then 0 else ks.foldl (λm k=>max m (nM L k)) 0
theorem Gw(L:List Int)(x:Int):∀(ks:List Int) (m:Int),ks.foldl (λm k=>max m (nM L k)) m<=x<->m<=x/\∀k∈ks,nM L k<=x
 | [],m=>by simp
 | k::ks,m=>by rw[List.foldl_cons,Gw L x ks];simp only[mem_cons,forall_eq_or_imp,Int.max_le];exact⟨λ⟨⟨a,b⟩,c⟩=>⟨a,b,c⟩,λ⟨a,b,c⟩=>⟨⟨a,b⟩,c⟩⟩
theorem Z4(L:List Int)(k:Int):0<=nM L k/\nM L k<=5:=by unfold nM;omega
theorem VE(L ks:List Int):0<=Sd L ks/\Sd L ks<=5:=by
 unfold Sd;split
 ·decide
 ·have h1:=((Gw L (ks.foldl (λm k=>max m (nM L k)) 0) ks 0).1 (Int.le_refl _)).1;have h2:=(Gw L 5 ks 0).2 ⟨by decide,λk _=>(Z4 L k).2⟩;exact⟨h1,h2⟩
theorem KW{L ks ks':List Int}(h:∀k∈ks,k∈ks'):Sd L ks<=Sd L ks':=by
 unfold Sd;split
 ·exact Int.le_refl _
 ·have h1:=(Gw L (ks'.foldl (λm k=>max m (nM L k)) 0) ks' 0).1 (Int.le_refl _);exact(Gw L _ ks 0).2 ⟨h1.1,λk hk=>h1.2 k (h k hk)⟩
theorem UD{L ks ks':List Int}(h:∀k,k∈ks<->k∈ks'):Sd L ks=Sd L ks':=Int.le_antisymm (KW λk hk=>(h k).1 hk) (KW λk hk=>(h k).2 hk)
noncomputable def GO(o:List Cl)(L:List Int)(c:Int):Int:=Sd L (XP o c)
theorem TY(G:Rgt o)(L:List Int){x:Cl}(hx:x∈o){s:Int×Int}(hs:s∈x.sd):GO o L s.1<=GO o L x.id:=by refine KW λk hk=>?_;rw[cloL_mem]at hk ⊢;refine⟨hk.1,Rch.trans (Rch.step (Rch.refl _) ?_) hk.2⟩;unfold WT;rw[C6 G.nd hx];exact ai.2 ⟨s,hs,Y⟩
noncomputable def GZ(o:List Cl)(L:List Int)(f:Int)(n:Nat):List (Int×Int):=(o.take n).map λx=>(x.id,GO o L x.id*f)
theorem Aah(G:Rgt o)(L:List Int)(f:Int)(hf:0<=f/\f<=1000):Vg o (GZ o L f o.length):=by
 have hb:∀c,0<=GO o L c/\GO o L c<=5:=λc=>VE _ _;have hm:∀a b:Int,a<=b->a*f<=b*f:=λa b h=>Int.mul_le_mul_of_nonneg_right h hf.1
 have:=Wy G (λc=>GO o L c*f) (λy _=>by
  have h1:=hb y.id;have h2:=hm 0 _ h1.1;have h3:=hm _ 5 h1.2
  constructor<;>omega) λx hx s hs=>hm _ _ (TY G L hx hs)
 unfold GZ
 rwa [ct]
end Go.Proofs.Q

namespace Go.Proofs.Q
open Go.Proofs.Tryz
open Go.Eng Go.RowKit
theorem Rh(A:List Ce)(v vq:Value)(c0:Int)(hp:Hp)(F:RgtF (A.map Ce.c))(hc:c0∈(A.map Ce.c).map Cl.id)(hR:RdL cC 3 hp [] v A)(hAs:∀a∈A,RdL cD 2 hp [] a.v a.c.sd)(hq:RdL cI 1 hp [] vq [c0]):FnT Tryz.prog 119 #[v,vq] hp [] (λr h' ms'=>hp.le h'/\∃m M,ms'=[m]/\OwnL cB 1 4 m r M/\ReI (A.map Ce.c) c0 M []):=by
 have o1:=hR.rd.one;have o2:=hq.rd.one;have G:=F.rgt;obtain⟨o,ho⟩:∃o,A.map Ce.c=o:=⟨_,Y⟩
 rw[ho]at F G hc;rw[ho];have hAl:A.length=o.length:=by rw[<-ho,af]
 have hol:o.length<=4000:=G.n;have hge:∀i (hi:i<A.length),o[i]'ω=A[i].c:=λi hi=>by subst ho;simp
 refine Ao func119 ntmps119 rfl rfl (λw0 hw0=>?_);simp only[AX];refine Ap (Qm rfl (BE (Qm rfl (Qx (Av hR.rd.any rfl Bi rfl) rfl (CA (n:=_) rfl QI XX rfl rfl rfl (by rfl) (by rfl) ω ω rfl rfl rfl (λg11=>Qm rfl (Am ?_)))))));have hM0:=Sb g11 A.length ω;refine Ap ?_;refine AB [] [] [] rfl AP A3 rfl ω κ (by repeat (first|exact trivial|refine⟨⟨by first|rfl|exact(hR.rd.any).cells|exact Rd.cells ‹_›|exact(RdL.rd ‹_›).cells,rfl,rfl⟩,?_⟩)) rfl rfl rfl rfl (λg12=>?_);refine Qm rfl ?_;refine LK 0 (EY g12 Bd).q hq.any rfl AP A3 rfl ω rfl rfl rfl (λa _=>B7 a) (by(simp;done)) (by(simp;done)) rfl rfl rfl (λv6 m6 hO6=>?_);have hI0:=ReI.start o c0;have hr0:Uu (replicate o.length false) [c0]<=300000:=by unfold Uu;rw[List.count_replicate_self];simp;omega
 refine Qm Y (Am (Ac (Ag ?_)))
 refine Ax (λq sl h' ms'=>∃(M:List Bool) (Q:List Int) (m5 m6:Hp) (v6:Value),q=Uu M Q/\sl=[(0,v),(4,.slice none 0 0),(5,.slice (some ⟨g11,0,none⟩) A.length A.length),(6,v6)]/\hp=h'/\ms'=[m6,m5]/\Uu M Q<=300000/\ReI o c0 M Q/\OwnL cB 1 4 m5 (.slice (some ⟨g11,0,none⟩) A.length A.length) M/\OwnQ cI 1 3 m6 v6 Q)
  _ _ ⟨replicate o.length false,[c0],_,_,_,rfl,rfl,rfl,rfl,hr0,hI0,by rw[<-hAl];exact hM0,hO6⟩ Qs ?_
 rintro q sl h' ms' ⟨M,Q,m5,m6,v6,rfl,rfl,rfl,rfl,hr,hI,hO5,hO6⟩;have ov6:=hO6.o1;refine Ac (Ap (Qm Y (Qx (Av (hO6.rd (h:=hp) (ms:=[m6,m5]) Mh).rd Y AP Y) Y (Qm Y (Am ?_)))));refine Ar Y (λhql=>?_) (λhql=>?_)
 ·obtain⟨x,Q,rfl⟩:∃x Q',Q=x::Q':=by
   cases Q with
   | nil=>simp at hql
   | cons x Q'=>exact⟨x,Q',Y⟩
  have cq:Cell hp [m6,m5] ((AF v6).add (0*1)) (.w x):=(hO6.rd (h:=hp) (ms:=[m6,m5]) Mh).cell0 (j:=0) (by simp) rfl;obtain⟨y,hy,ey⟩:=hI.mem G hc (hI.rQ x Mh);obtain⟨hat,hgk⟩:=HG F.inc hy;rw[ey]at hat hgk;obtain⟨k,hk⟩:∃k:Nat,Jj o x=k:=⟨_,(Int.toNat_of_nonneg hat).symm⟩
  rw[hk,bu]at hgk;have hko:k<o.length:=by have:=If o x;omega
  have hkA:k<A.length:=ω
  have hkM:k<M.length:=by rw[hI.len];exact hko
  have hkid:(o.getD k default).id=x:=by rw[hgk,ey]
  refine Ah (Ab (Ag (Ap (Qm Y (Qm Y (Qx (Az 0 (hO6.rd (h:=hp) (ms:=[m6,m5]) Mh).rd Y AP A3 Y Y Y ω) Y (Ql Y U3 (cq) ?_)))))));refine Qx (AG Y call117 Y ((by have:=VM A v x hp ω (by rw[ho];exact F.inc.imp λh=>Int.le_of_lt h) hR [m6,m5];rwa [ho,hk]at this))) rfl ?_;refine Qm Y (BE (Qm Y (Qx (C4 1 (hO6.rd (h:=hp) (ms:=[m6,m5]) Mh).rd Y AP A3 Y Y Y (by simp)) rfl (Qm rfl (Am ?_)))));have hO6:=hO6.tail;obtain⟨w6,hw6⟩:∃w,B0 1 v6 1 (Q.length+1)=w:=⟨_,Y⟩
  simp only[df,hw6]at hO6 ⊢;have ov6:=hO6.o1;have cb:∀ms,m5∈ms->Cell hp ms ((AF (.slice (some ⟨g11,0,none⟩) A.length A.length)).add (k*1)) (.bool M[k]):=λms hm=>(hO5.rd hm).cell0 hkM Y;refine Ac (Ap (Qm Y (Qm Y (Qm Y ?_))));refine AM (t:=27) Y (λhs=>?_) (λhs=>?_)
  ·omega
  ·refine Qg (As Y Y) Y (Qg (As Y Y) Y (Qg (Ch (k) Y QI XX Y Y ω ω) Y (Qg (oL Y U4 (cb _ (.tail _ (.head _)))) Y (Qm Y (Am ?_)))));refine Bz Y (λhb=>?_) (λhb=>?_)
   ·have hmk:MkC o M x:=⟨k,hko,hkid,by rw[show M.getD k false=M[k] by simp[List.getD,hkM]];exact hb⟩
    have hlt:=Wn M x Q;refine Aq (Aa (Af ?_));exact Ak (Uu M Q) _ hlt ⟨M,Q,m5,m6,w6,Y,Y,Y,Y,ω,hI.skip hmk,hO5,hO6⟩ Qs
   ·have hmf:M.getD k false=false:=by rw[show M.getD k false=M[k] by simp[List.getD,hkM]];exact hb
    obtain⟨z,hz⟩:∃z,A[k]=z:=⟨_,Y⟩
    have hzo:o.getD k default=z.c:=by rw[show o.getD k default=o[k] by simp[List.getD,hko],hge k hkA,hz]
    have hI':=hI.mark G hko hkid;rw[hzo]at hI';have hX:=hAs z (by rw[<-hz];exact ae hkA);have hzl:z.c.sd.length<=64:=by have:=(F.bds (ae hko)).2.1;rwa [hge k hkA,hz]at this
    have hlt:=UT (x:=x) (Q:=Q) (S:=z.c.sd.map Prod.fst) hkM hmf (by rw[af];omega);have hQl:Q.length<=300000:=by unfold Uu at hr;rw[df]at hr;omega
    have cx:∀ms,Cell hp ms (((AF v).add (k*3)).add 2) z.v:=λms=>by rw[<-hz];exact(hR.any (ms:=ms)).cell (j:=k) hkA (f:=2) Y
    refine Ah (Ab (Ap (Qm Y (Qm Y (Qx (Ch (k) Y QI XX Y Y ω ω) Y (B8 (F:=cB) (f:=λx=>.bool x) (a:=true) 1 k (λ_=>rfl) hO5 Y XX Y Y Y Y hkM Y Y (λm7 hO7=>BE (Qm Y (Am (Ag ?_))))))))))
    refine Ax (λq sl h' ms'=>∃(j:Nat) (m6:Hp) (v6:Value),q=z.c.sd.length-j/\sl=[(0,v),(4,.slice none 0 0),(5,.slice (some ⟨g11,0,none⟩) A.length A.length),(6,v6),(7,.w k),(8,.w j)]/\hp=h'/\ms'=[m6,m7]/\j<=z.c.sd.length/\OwnQ cI 1 3 m6 v6 (Q++(z.c.sd.take j).map Prod.fst))
     (z.c.sd.length-0) _ ⟨0,m6,w6,rfl,rfl,rfl,rfl,ω,by simpa using hO6⟩ Qs ?_
    rintro q sl h' ms' ⟨j,m6,v6,rfl,rfl,rfl,rfl,hj,hO6⟩;have ov6:=hO6.o1;have hql:(Q++(z.c.sd.take j).map Prod.fst).length<=400000:=by rw[ad,af,ao];omega
    refine Ac (Ap (Qm Y (Qm Y (Qm Y (Qx (Az _ hR.rd.any Y Bi AH Y Y Y ω) Y (Qf BA Y (Ql Y BZ (cx _) (Qx (Av hX.rd.any Y BZ Y) Y (Qm Y (Am ?_))))))))));refine Ar Y (λhjl=>?_) (λhjl=>?_)
    ·have hjn:j<z.c.sd.length:=ω
     obtain⟨s,hs⟩:∃s,z.c.sd[j]=s:=⟨_,Y⟩
     have cs:∀ms,Cell hp ms (((AF z.v).add (j*2)).add 0) (.w s.1):=λms=>by
      have:Seg hp ms ((AF z.v).add (j*2)) (cD s):=by rw[<-hs];exact(hX.any (ms:=ms)).seg hjn
      exact this 0 _ Y
     refine Ah (Ab (Ac (Ag (Ad (Qm Y (Qm Y (Qm Y (Qx (BG (k) hR.rd.any Y Bi AH Y Y) Y (Qf BA Y (Ql Y BZ (cx _) (Qm Y (Qx (BG (j) hX.rd.any Y BZ AO Y Y) Y (Qf B4 Y (Ql Y U3 (cs _) (Aw [_] Y AP A3 Y (by rfl) Y Y ω Y Y Y (λg56=>LK 1 hO6 (RdL.one Bd (x:=s.1) Mh Y) Y AP A3 Y ω Y Y Y (λa _=>B7 a) (by(try simp only[ac]);omega) (by(try simp only[ac]);omega) rfl rfl rfl (λv9 m9 hO9=>?_)))))))))))))))));have ov9:=hO9.o1;refine Qm Y (Al (Ai (Ab (Ad (Qm Y (Qx (oA Y) Y (Qm Y (Al (AR ?_)))))))));exact Ak (z.c.sd.length-(j+1)) _ ω ⟨j+1,m9,v9,Y,Y,Y,Y,ω,by rw[am hjn,bg,<-List.append_assoc,hs];exact hO9⟩ Qs
    ·obtain rfl:j=z.c.sd.length:=ω
     rw[ct]at hO6;refine Aq (Aa (Aa (Af (Ai ?_))));exact Ak (Uu (M.set k true) (Q++z.c.sd.map Prod.fst)) _ hlt ⟨M.set k true,Q++z.c.sd.map Prod.fst,m7,m6,v6,Y,Y,Y,Y,ω,hI',hO7,hO6⟩ Qs
 ·obtain rfl:Q=[]:=by
   cases Q with
   | nil=>rfl
   | cons x Q'=>simp at hql
  refine Aq (Aa (Aa (Af (Ab (Ap (Qm Y (Qm Y (Am (An (AR ?_))))))))));exact Au Y Y (⟨Dv,m5,M,Y,hO5,hI⟩)
theorem Po(l:List Ce)(v vq:Value)(c0:Int)(hp:Hp)(hK:RgC l)(hR:RdC hp v l)(hq:RdL cI 1 hp [] vq [c0])(hc:c0∈(cn l).map Cl.id):FnT Tryz.prog 50 #[.agg #[v],vq] hp [] (λr h' ms'=>hp.le h'/\∃m M,ms'=[m]/\OwnL cI 1 3 m r (Jq (cn l) M (cn l).length)/\ReI (cn l) c0 M []):=by
 have o1:=hR.q.rd.one;have o2:=hq.rd.one;have hln:=hK.r.n;rw[af]at hln;refine Ao func50 ntmps50 Y Y (λw0 hw0=>?_);simp only[AX];refine Ap (AQ [_] Y Y (by rfl) Y Y Y (λg2=>Qm Y (Am (Bm 0 Y λh1 l1 hS=>?_))));have hR:=hR.up l1;have hq:=hq.up l1;refine Ap (Qx (oG Y CN A0 (Seg.any hS)) Y (Qc call49 Y (EW l v h1 hK.r.cs hR) (λrC h2 ms2 l2 hF=>?_)));obtain⟨l2',mC,A,rfl,hOC,hA,hAs⟩:=hF;rw[Eb hK.r]at hA;obtain⟨o,ho⟩:∃o,cn l=o:=⟨_,Y⟩
 have hA:A.map Ce.c=o:=by rw[hA,<-ho];rfl
 have F:RgtF o:=by rw[<-ho];exact hK.F
 have G:=F.rgt;rw[ho]at hc;rw[ho];have hAl:A.length=o.length:=by rw[<-hA,af]
 have hol:o.length<=4000:=G.n;have oC:=hOC.o1;refine Qm Y (Am (Bv hOC λh3 l3 hQ=>?_));have hAs:∀a∈A,RdL cD 2 h3 [] a.v a.c.sd:=λa ha=>(hAs a ha).up l3;have l13:=AI l2' l3;have hge:∀i (hi:i<A.length),o[i]'ω=A[i].c:=λi hi=>by subst hA;simp
 refine Ap (Qm Y (Qm Y ?_));refine Qc call119 Y (Rh A rC vq c0 h3 (by rw[hA];exact F) (by rw[hA];exact hc) hQ hAs (hq.up l13)) (λrM h4 ms4 l4 hF=>?_);obtain⟨l4',mM,M,rfl,hOM,hI⟩:=hF;rw[hA]at hI;have oM_:=hOM.o1;have hQ:=hQ.up l4';refine Qm Y (Am (Bv hOM λh5 l5 hB=>?_));have hQ:=hQ.up l5;refine Ap (Qm Y (Am (Ac (Ap (Qm Y (Am (Ag (BI ?_))))))))
 refine Ax (λq sl h' ms'=>∃(i:Nat) (v7:Value) (m:Hp),q=A.length-i/\sl=[(4,.slice none 0 0),(5,rC),(6,rM),(7,v7),(8,.w i)]/\h5=h'/\ms'=[m]/\i<=A.length/\OwnL cI 1 3 m v7 (Jq o M i))
  (A.length-0) _ ⟨0,_,Hp.emp,rfl,rfl,rfl,rfl,ω,OwnL.nil Bd⟩ Qs ?_
 rintro q sl h' ms' ⟨i,v7,m7,rfl,rfl,rfl,rfl,hi,hO7⟩;have ov7:=hO7.o1;refine Ac (Ap (Qm Y (Qm Y (Qx (Av hQ.rd.any Y Bi Y) Y (Qm Y (Am ?_))))));refine Ar Y (λhlt=>?_) (λhlt=>?_)
 ·have hil:i<A.length:=ω
  have hio:i<o.length:=ω
  have hiM:i<M.length:=by rw[hI.len];exact hio
  obtain⟨x,hx⟩:∃x,A[i]=x:=⟨_,Y⟩
  have hxo:o.getD i default=x.c:=by rw[show o.getD i default=o[i] by simp[List.getD,hio],hge i hil,hx]
  have cb:∀ms,Cell h5 ms ((AF rM).add (i*1)) (.bool M[i]):=λms=>(hB.any (ms:=ms)).cell0 hiM Y;have cx:∀ms,Cell h5 ms (((AF rC).add (i*3)).add 0) (.w x.c.id):=λms=>by rw[<-hx];exact(hQ.any (ms:=ms)).cell (j:=i) hil (f:=0) Y
  have hk:=TN o M i;rw[hxo,show M.getD i false=M[i] by simp[List.getD,hiM]]at hk
  have hfl:(Jq o M i).length<=4000:=by unfold Jq;rw[af];exact Nat.le_trans (List.length_filter_le _ _) (by rw[length_range];omega)
  refine Ah (Ab (Ac (Ag (Ap (Qm Y (Qm Y (Qx (BG (i) hB.rd.any Y QI XX Y Y) Y (Ql Y U4 (cb _) (Am ?_)))))))));refine Bz Y (λhb=>?_) (λhb=>?_)
  ·rw[hb,ab rfl]at hk;refine Ad (Qm Y (Qm Y (Qm Y (Qx (BG (i) hQ.rd.any Y Bi AH Y Y) Y (Qf Bn Y (Ql Y U3 (cx _) (Aw [_] Y AP A3 Y (by rfl) Y Y ω Y Y Y (λg30=>AV 1 hO7 (RdL.one Bd (x:=x.c.id) Mh Y) Y AP A3 Y ω Y Y Y B7 (by(try simp only[ac]);omega) (by(try simp only[ac]);omega) rfl rfl rfl (λv9 m9 hO9=>?_)))))))));rw[<-hk]at hO9;have ov9:=hO9.o1;refine Qm Y (Al (Ai (Ab (Ad (Qm Y (Qx (oA Y) Y (Qm Y (Al (AR ?_)))))))));exact Ak (A.length-(i+1)) _ ω ⟨i+1,v9,m9,Y,Y,Y,Y,ω,hO9⟩ Qs
  ·rw[hb,aa (by decide),List.append_nil]at hk;refine Ah (Ai (Ab (Ad (Qm Y (Qx (oA Y) Y (Qm Y (Al ?_)))))));exact Ak (A.length-(i+1)) _ ω ⟨i+1,v7,m7,Y,Y,Y,Y,ω,by rw[hk];exact hO7⟩ Qs
 ·obtain rfl:i=A.length:=ω
  refine Aq (Aa (Aa (Af (Ab (Ap (Qm Y (Qm Y (Am (An ?_)))))))));exact Au Y Y (⟨AI l1 (AI l13 (AI l4' l5)),m7,M,Y,by rw[hAl]at hO7;exact hO7,hI⟩)
variable {L:List Int}
theorem PD{α:Type}{F:α->List Value}{h:Hp}{g:Nat}{x:α}(n:Nat)(hF:∀x,(F x).length=n)(hS:Seg h [] ⟨g,0,none⟩ (F x)):RdL F n h [] (.slice (some ⟨g,0,none⟩) 1 1) [x]:=
 ⟨⟨some ⟨g,0,none⟩,1,rfl,ay _,by decide,by rw[Bk hF],λ_=>⟨_,rfl,by simpa using hS⟩⟩,hF⟩
theorem Yt(ks:List Int):Sd [] ks=0:=by unfold Sd;rw[ab rfl]
def YW(L ks:List Int)(j:Nat):Int:=(ks.take j).foldl (λm k=>max m (nM L k)) 0
theorem Xd{ks:List Int}{j:Nat}(hj:j<ks.length):YW L ks (j+1)=max (YW L ks j) (nM L ks[j]):=by unfold YW;rw[am hj,List.foldl_append];rfl
theorem Yx{ks:List Int}(h:L≠[]):YW L ks ks.length=Sd L ks:=by unfold YW Sd;rw[aa h,ct]
theorem AaJ(L ks:List Int)(j:Nat):0<=YW L ks j/\YW L ks j<=5:=by have h1:=((Gw L (YW L ks j) (ks.take j) 0).1 (Int.le_refl _)).1;have h2:=(Gw L 5 (ks.take j) 0).2 ⟨by decide,λk _=>(Z4 L k).2⟩;exact⟨h1,h2⟩
theorem Zx{o:List Cl}{M:List Bool}{n:Nat}(hn:n<=o.length):∀y∈Jq o M n,∃x∈o,x.id=y:=λy hy=>by unfold Jq at hy;obtain⟨k,hk,rfl⟩:=ai.1 hy;have:=ba.1 (di.1 hk).1;exact⟨_,Ea ω,Y⟩
theorem Q3{o:List Cl}{f:Int}{i:Nat}(hi:i<o.length):GZ o L f (i+1)=GZ o L f i++[(o[i].id,GO o L o[i].id*f)]:=by unfold GZ;rw[am hi,bg];rfl
theorem TX(l:List Ce)(v vL:Value)(L:List Int)(f:Int)(hp:Hp)(hK:RgC l)(hR:RdC hp v l)(hL:RdL cI 1 hp [] vL L)(hLb:∀x∈L,BS x)(hf:0<=f/\f<=1000):FnT Tryz.prog 14 #[.agg #[v],vL,.int .i64 f] hp [] (λr h' ms'=>hp.le h'/\∃m,ms'=[m]/\OwnL cV 2 47 m r (GZ (cn l) L f (cn l).length)):=by
 have o1:=hR.q.rd.one;have o2:=hL.rd.one;have hln:=hK.r.n;rw[af]at hln;refine Ao func14 ntmps14 Y Y (λw0 hw0=>?_);simp only[AX];refine Ap (AQ [_] Y Y (by rfl) Y Y Y (λg3=>Qm Y (Am (Bm 0 Y λh1 l1 hS=>?_))));have hR:=hR.up l1;have hL:=hL.up l1;refine Ap (Qm Y (BE (Qx (oG Y CN A0 (Seg.any hS)) Y (Qc call49 Y (EW l v h1 hK.r.cs hR) (λrC h2 ms2 l2 hF=>?_)))));obtain⟨l2',mC,A,rfl,hOC,hA,hAs⟩:=hF;rw[Eb hK.r]at hA;obtain⟨o,ho⟩:∃o,cn l=o:=⟨_,Y⟩
 have hA:A.map Ce.c=o:=by rw[hA,<-ho];rfl
 have F:RgtF o:=by rw[<-ho];exact hK.F
 have G:=F.rgt;rw[ho];have hAl:A.length=o.length:=by rw[<-hA,af]
 have hol:o.length<=4000:=G.n;have oC:=hOC.o1;refine Qm Y (Am (Bv hOC λh3 l3 hQ=>?_));have l13:=AI l2' l3;have hge:∀i (hi:i<A.length),o[i]'ω=A[i].c:=λi hi=>by subst hA;simp
 refine Ac (Ap (Qm Y (Am (Ag (BI ?_)))))
 refine Ax (λq sl h' ms'=>∃(i:Nat) (v7:Value) (m:Hp),q=A.length-i/\sl=[(1,vL),(2,.w f),(3,.pt g3),(6,.slice none 0 0),(7,v7),(8,rC),(9,.w i)]/\h3.le h'/\ms'=[m]/\i<=A.length/\OwnL cV 2 47 m v7 (GZ o L f i))
  (A.length-0) _ ⟨0,_,Hp.emp,rfl,rfl,Dv,rfl,ω,OwnL.nil Nt⟩ Qs ?_
 rintro q sl h4 ms' ⟨i,v7,m7,rfl,rfl,l4,rfl,hi,hO7⟩;have ov7:=hO7.o1;have hQ:=hQ.up l4;have hL:=hL.up (AI l13 l4);have hR:=hR.up (AI l13 l4);have hS:Seg h4 [] ⟨g3,0,none⟩ [v]:=hS.le (AI l13 l4);refine Ac (Ap (Qm Y (Qm Y (Qx (Av hQ.rd.any Y Bi Y) Y (Qm Y (Am ?_))))));refine Ar Y (λhlt=>?_) (λhlt=>?_)
 ·have hil:i<A.length:=ω
  have hio:i<o.length:=ω
  obtain⟨x,hx⟩:∃x,A[i]=x:=⟨_,Y⟩
  have hxo:o[i]=x.c:=by rw[hge i hil,hx]
  have hxm:x.c∈o:=by rw[<-hxo];exact ae hio
  have cx:∀ms,Cell h4 ms (((AF rC).add (i*3)).add 0) (.w x.c.id):=λms=>by rw[<-hx];exact(hQ.any (ms:=ms)).cell (j:=i) hil (f:=0) Y
  refine Ah (Ab (Ac (Ag (Ap (Qm Y (Am (Ac (A5 7 CT κ Y (AL (oG Y CN A0 (Seg.any hS)) Y Y (Wm Y (Wm Y (AL (BG (i) hQ.rd.any Y Bi AH Y Y) Y Y (Wf Bn Y (Wl Y U3 (cx _) (Vh (Fg [_] Y AP A3 Y (by rfl) Y Y ω) Y Y (Jg (λg27=>D3 λh5 l5 hS5=>?_)))))))))))))))));refine Qc call50 Y (Po l v _ x.c.id h5 hK (hR.up l5) (PD 1 Bd hS5) (by rw[ho];exact ai.2 ⟨_,hxm,Y⟩)) (λrK h6 ms6 l6 hF=>?_);obtain⟨l6',mK,M,rfl,hOK,hI⟩:=hF;rw[ho]at hOK hI;obtain⟨K,hKe⟩:∃K,Jq o M o.length=K:=⟨_,Y⟩
  rw[hKe]at hOK
  have hKl:K.length<=4000:=by rw[<-hKe];unfold Jq;rw[af];exact Nat.le_trans (List.length_filter_le _ _) (by rw[length_range];omega)
  have hKid:∀y∈K,0<=y:=λy hy=>by obtain⟨z,hz,rfl⟩:=Zx (ay _) y (by rw[hKe];exact hy);have:=G.pos z hz;omega
  have hKv:Sd L K=GO o L x.c.id:=UD λy=>by rw[<-hKe];exact Vc G (ai.2 ⟨_,hxm,Y⟩) hI y
  have oK:=hOK.o1;refine Qm Y (Am (Bv hOK λh7 l7 hRK=>?_));have l47:=AI l5 (AI l6' l7);have hL:=hL.up l47;have hQ:=hQ.up l47;refine A9 (λsl h' ms'=>sl=[(1,vL),(2,.w f),(3,.pt g3),(6,.slice none 0 0),(7,v7),(8,rC),(9,.w i),(10,.w (GO o L x.c.id))]/\h7=h'/\ms'=[m7]) ?_ (λs h ms hI=>?_)
  ·refine Ac (Ad (Qm Y (Am (Ag ?_))))
   refine Ax (λq sl h' ms'=>∃(j:Nat) (w:Int),q=K.length-j/\sl=[(1,vL),(2,.w f),(3,.pt g3),(6,.slice none 0 0),(7,v7),(8,rC),(9,.w i),(10,.w w),(11,rK),(12,.w j)]/\h7=h'/\ms'=[m7]/\j<=K.length/\(L=[]->w=0)/\(L≠[]->w=YW L K j))
    (K.length-0) _ ⟨0,0,rfl,rfl,rfl,rfl,ω,λ_=>rfl,λ_=>rfl⟩ Qs ?_
   rintro q sl h' ms' ⟨j,w,rfl,rfl,rfl,rfl,hj,hw0,hw1⟩
   have hwb:0<=w/\w<=5:=by
    by_cases e:L=[]
    ·rw[hw0 e];decide
    ·rw[hw1 e];exact AaJ _ _ _
   have hLl:=hL.len_le
   have hend:(j=K.length\/L=[])->w=GO o L x.c.id:=λh=>by
    rw[<-hKv];by_cases e:L=[]
    ·rw[hw0 e,e,Yt]
    ·rw[hw1 e,h.resolve_right e,Yx e]
   refine Ac (Ap (Qm Y (Qm Y (Qx (Av hRK.rd.any Y AP Y) Y (Qm Y (Qm Y ?_))))));refine AM (t:=33) Y (λhs=>?_) (λhs=>?_)
   ·refine Qg (As Y Y) Y (Qg (Av hL.rd.any Y AP Y) Y (Qg (Cf Y Y Y) Y (Qm Y (Am ?_))));refine Ar Y (λhLn=>?_) (λhLn=>?_)
    ·have hL0:L≠[]:=λe=>by rw[e]at hLn;simp at hLn
     have hLp:0<L.length:=by
      cases L with
      | nil=>exact absurd Y hL0
      | cons=>simp
     have hjn:j<K.length:=ω
     have hK0:=hKid _ (ae hjn);obtain⟨r,hr⟩:∃r:Nat,K[j]%(L.length:Int)=r:=⟨(K[j]%(L.length:Int)).toNat,by rw[Int.toNat_of_nonneg (da _ ω)]⟩
     have hrl:r<L.length:=by have:=dc K[j] (show(0:Int)<L.length by omega);omega
     have hn:nM L K[j]=L[r]%6:=by unfold nM;rw[hr,bu];simp[List.getD,hrl]
     have hw:=hw1 hL0;have ck:∀ms,Cell h7 ms ((AF rK).add (j*1)) (.w K[j]):=λms=>(hRK.any (ms:=ms)).cell0 hjn Y;have cl:∀ms,Cell h7 ms ((AF vL).add (r*1)) (.w L[r]):=λms=>(hL.any (ms:=ms)).cell0 hrl Y;refine Ah (Ab (Ac (Ag (Ad (Qm Y (Qm Y (Qm Y (Qm Y (Qx (BG (j) hRK.rd.any Y AP A3 Y Y) Y (Ql Y U3 (ck _) (Qm Y (Qx (Av hL.rd.any Y AP Y) Y (Qx (BJ Y Y Y hK0 ω) Y (Qx (BG (r) hL.rd.any Y AP A3 Y Y) Y (Ql Y U3 (cl _) (Qx (AG Y call34 Y (Ht L[r] 6 (hLb _ (ae hrl)) (by decide) h7 [m7])) Y (Qx (Jm Y Y Y) Y (Qm Y (Al (Ai (Ab (Ad (Qm Y (Qx (oA Y) Y (Qm Y (Al ?_))))))))))))))))))))))))));exact Ak (K.length-(j+1)) _ ω ⟨j+1,max w (L[r]%6),Y,Y,Y,Y,ω,λe=>absurd e hL0,λ_=>by rw[Xd hjn,hn,hw]⟩ Qs
    ·have hL0:L=[]:=by
      cases L with
      | nil=>rfl
      | cons=>simp at hLn
     obtain rfl:w=GO o L x.c.id:=hend (.inr hL0);refine Aq (Aa (Aa (Af ?_)));exact AE _ ⟨Y,Y,Y⟩ Qs
   ·obtain rfl:w=GO o L x.c.id:=hend (.inl ω);refine Qk Y (Qk Y (Qk Y (Qm Y (Am (AN Y (Aq (Aa (Aa (Af ?_)))))))));exact AE _ ⟨Y,Y,Y⟩ Qs
  ·obtain⟨rfl,rfl,rfl⟩:=hI;have hvb:0<=GO o L x.c.id/\GO o L x.c.id<=5:=VE _ _
   have hpb:-9223372036854775808<=GO o L x.c.id*f/\GO o L x.c.id*f<=9223372036854775807:=by have h1:0<=GO o L x.c.id*f:=Int.mul_nonneg hvb.1 hf.1;have h2:GO o L x.c.id*f<=5*f:=Int.mul_le_mul_of_nonneg_right hvb.2 hf.1;omega
   have hfl:(GZ o L f i).length<=4000:=by unfold GZ;rw[af,ao];omega
   have cx7:∀ms,Cell h7 ms (((AF rC).add (i*3)).add 0) (.w x.c.id):=λms=>by rw[<-hx];exact(hQ.any (ms:=ms)).cell (j:=i) hil (f:=0) Y
   refine Ad (Qm Y (Qm Y (Qm Y (Qx (BG (i) hQ.rd.any Y Bi AH Y Y) Y (Qf Bn Y (Ql Y U3 (cx7 _) (Qm Y (Qm Y (Qx (oM Y hpb) Y (Qx (Be Wd [.w 0,.w 0] [(0,_),(1,_)] [_,_] Y Ff Y Y Qt Y) Y (Aw [_,_] Y Oi Ff Y (by rfl) Y Y ω Y Y Y (λg63=>AV 1 hO7 (RdL.one Nt (x:=(x.c.id,GO o L x.c.id*f)) Mh Y) Y Oi Ff Y ω Y Y Y AaD (by(try simp only[ac]);omega) (by(try simp only[ac]);omega) rfl rfl rfl (λv9 m9 hO9=>?_)))))))))))));have ov9:=hO9.o1;refine Qm Y (Al (Ai (Ab (Ad (Qm Y (Qx (oA Y) Y (Qm Y (Al (AR ?_)))))))));exact Ak (A.length-(i+1)) _ ω ⟨i+1,v9,m9,Y,Y,AI l4 l47,Y,ω,by rw[Q3 hio,hxo];exact hO9⟩ Qs
 ·obtain rfl:i=A.length:=ω
  refine Aq (Aa (Aa (Af (Ab (Ap (Qm Y (Qm Y (Am (An ?_)))))))));exact Au Y Y (⟨AI l1 (AI l13 l4),m7,Y,by rw[hAl]at hO7;exact hO7⟩)
end Go.Proofs.Q

namespace Go.Proofs.Q
open Go.Proofs.Tryz
open Go.Eng Go.RowKit
theorem SX{P:Program}{d:Nat}(X Y:Array Value)(w:World):∀(fs:List Field) (os:List (TypeId×Nat×Bool)),fs.map (fun f=>(decide (f.name ≠ "_"),f.type,f.offset))=os.map (fun o=>(true,o.1,o.2.1))->(∀o∈os,P.plainKey o.1=true/\∃a b,X[o.2.1]?=some a/\Y[o.2.1]?=some b/\(Op.equalIn (d+1) o.1 a b).run P w=.ok o.2.2 w)->(Op.eqFields (d+1) X Y fs).run P w=.ok (os.all fun o=>o.2.2) w
 | [],[],_,_=>by simp[Op.eqFields]
 | [],o::os,h,_=>by simp at h
 | f::fs,[],h,_=>by simp at h
 | f::fs,o::os,h,hc=>by
  simp only[List.map_cons,List.cons.injEq,Prod.mk.injEq]at h;obtain⟨⟨h1,h2,h3⟩,h4⟩:=h;have ih:=SX (d:=d) X Y w fs os h4 fun a ha=>hc a (au _ ha);obtain⟨hp,a,b,c1,c2,he⟩:=hc o Mh;unfold Op.eqFields;rw[ab (bw h1),h2,h3];simp only[Sem.run_bind,run_part_plain w hp c1,run_part_plain w hp c2,Result.andThen_ok,he];cases e:o.2.2
  ·simp[e]
  ·simp[e,ih]
theorem AaN:(Tryz.prog.fieldsOf 43).toList.map (λf=>(decide (f.name ≠ "_"),f.type,f.offset))=[(3,0),(3,1),(3,2),(4,3),(3,4),(3,5)].map (λo=>(true,o.1,o.2)):=by kernel_rfl
theorem pk3:Tryz.prog.plainKey 3=true:=by kernel_rfl
theorem pk4:Tryz.prog.plainKey 4=true:=by kernel_rfl
theorem Ab2:Tryz.prog.eqGuardType Tryz.prog.depth 43=false:=by kernel_rfl
theorem Abw:Tryz.prog.underlying 43=some (.struct (Tryz.prog.fieldsOf 43)):=by kernel_rfl
theorem AbC:Tryz.prog.stoodInHeld 43=false:=by kernel_rfl
theorem S7{o:Oper}{s:AC}{h:Hp}{ms:List Hp}{x y:Operand}{u:TypeId}(a b:Br)(ho:o.op=.binOp .neq 43 x y u)(hx:ev s x=some (.agg (JJ a).toArray))(hy:ev s y=some (.agg (JJ b).toArray)):OX Tryz.prog o s h ms (.bool (decide (a≠b))):=
 BD λρ w hρ _=>by
  have h1:(Op.equalIn 10000 43 (.agg (JJ a).toArray) (.agg (JJ b).toArray)).run Tryz.prog w=.ok (decide (a=b)) w:=by
   have h2:=SX (P:=Tryz.prog) (d:=9998) (JJ a).toArray (JJ b).toArray w (Tryz.prog.fieldsOf 43).toList [(3,0,a.dim==b.dim),(3,1,a.birth==b.birth),(3,2,a.death==b.death),(4,3,a.opn==b.opn),(3,4,a.low==b.low),(3,5,a.high==b.high)] (by rw[AaN];rfl) λo ho=>by
    simp only[mem_cons,List.not_mem_nil,or_false]at ho;rcases ho with rfl|rfl|rfl|rfl|rfl|rfl
    ·exact⟨pk3,_,_,Y,Y,run_equalIn_int w _ 3 .i64 .i64 _ _ U3⟩
    ·exact⟨pk3,_,_,Y,Y,run_equalIn_int w _ 3 .i64 .i64 _ _ U3⟩
    ·exact⟨pk3,_,_,Y,Y,run_equalIn_int w _ 3 .i64 .i64 _ _ U3⟩
    ·exact⟨pk4,_,_,Y,Y,run_equalIn_bool' w _ 4 _ _ U4⟩
    ·exact⟨pk3,_,_,Y,Y,run_equalIn_int w _ 3 .i64 .i64 _ _ U3⟩
    ·exact⟨pk3,_,_,Y,Y,run_equalIn_int w _ 3 .i64 .i64 _ _ U3⟩
   rw[run_equalIn_agg w 9999 43 _ _ Abw AbC,h2];congr 1;obtain⟨a1,a2,a3,a4,a5,a6⟩:=a;obtain⟨b1,b2,b3,b4,b5,b6⟩:=b;rw[Bool.eq_iff_iff,decide_eq_true_iff,Br.mk.injEq];show((a1==b1)&&((a2==b2)&&((a3==b3)&&((a4==b4)&&((a5==b5)&&((a6==b6)&&true))))))=true<->_;simp only[Bool.and_true,bj,beq_iff_eq]
  have e:(!decide (a=b))=decide (a≠b):=by simp
  simp only[execOp,ho,hρ _ _ hx,hρ _ _ hy];simp only[Sem.run_bind,run_eqGuard_agg w _ _ _ _ _ _ Ab2,run_neq_struct,h1,e,Result.andThen_ok,Sem.run_pure]
theorem H9{a b:Nat}(h:(a:Int)<b):a<b:=ω
theorem UY(a b:List Br)(va vb:Value)(h:Hp)(hA:RdL JJ 6 h [] va a)(hB:RdL JJ 6 h [] vb b)(ms:List Hp):FnV Tryz.prog 17 #[va,vb] h ms (.bool (decide (a=b))):=by
 refine DZ ?_ ms;have la:=hA.len_le;have lb:=hB.len_le;refine Ao func17 ntmps17 Y Y (λw0 hw0=>?_);simp only[AX];refine Ap (Qm Y (Am (Ac (Ap (Qm Y (Qx (Av hA.rd.any Y QE Y) Y (Qm Y (Qx (Av hB.rd.any Y QE Y) Y (Qm Y (Am ?_))))))))));refine Ar Y (λhne=>?_) (λhne=>?_)
 ·refine Ac (Ad (Qm Y (Am (An (Ae ?_)))));exact Au Y Y (by rw[ah];intro e;rw[e]at hne;exact hne Y)
 ·have hl:a.length=b.length:=ω
  refine Ah (Ab (Ac (Ap (Qm Y (Am (Ag ?_))))))
  refine Ax (λq s h' ms'=>∃(k:Nat),q=a.length-k/\s=[(0,va),(1,vb),(5,.w k)]/\h=h'/\ms'=[]/\k<=a.length/\a.take k=b.take k)
   (a.length-0) _ ⟨0,rfl,rfl,rfl,rfl,ω,rfl⟩ Qs ?_
  rintro q s h' ms' ⟨k,rfl,rfl,rfl,rfl,hk,he⟩;refine Ac (Ap (Qm Y (Qm Y (Qx (Av hA.rd.any Y QE Y) Y (Qm Y (Am ?_))))));refine Ar Y (λhlt=>?_) (λhlt=>?_)
  ·have hka:k<a.length:=H9 hlt;have hkb:k<b.length:=ω
   have ca:∀ms,Seg h ms ((AF va).add (k*6)) (JJ a[k]):=λms=>(hA.any (ms:=ms)).seg hka;have cb:∀ms,Seg h ms ((AF vb).add (k*6)) (JJ b[k]):=λms=>(hB.any (ms:=ms)).seg hkb;refine Ah (Ab (Ac (Ag (Ac (A5 8 CT κ Y (Wm Y (Wm Y (AL (BG (k) hA.rd.any Y QE F6 Y Y) Y Y (AL (oG Y U43 F6 (ca _)) Y Y (Wm Y (Wm Y (AL (BG (k) hB.rd.any Y QE F6 Y Y) Y Y (AL (oG Y U43 F6 (cb _)) Y Y (AZ (Qx (S7 a[k] b[k] Y Y Y) Y (Am ?_))))))))))))))));refine Ar Y (λhne=>?_) (λhne=>?_)
   ·refine Ac (Ad (Qm Y (Am (An (Aj (Ae (Ae (Aj (Ae ?_)))))))));exact Au Y Y (by rw[ah];rintro rfl;exact hne Y)
   ·refine Ah (Ai (Ab (Ad (Qm Y (Qx (oA Y) Y (Qm Y (Al ?_)))))));refine Ak (a.length-(k+1)) _ ω ⟨k+1,Y,Y,Y,Y,ω,?_⟩ Qs;rw[List.take_add_one,List.take_add_one,he,co hka,co hkb,Decidable.not_not.1 hne]
  ·obtain rfl:k=a.length:=ω
   refine Aq (Aa (Aa (Af (Ab (Ap (Qm Y (Am (An ?_))))))));exact Au Y Y (by rw[ct,hl,ct]at he;rw[ag he])
theorem Kn(la lb:List Int)(va vb:Value)(h:Hp)(hA:RdL cI 1 h [] va la)(hB:RdL cI 1 h [] vb lb)(ms:List Hp):FnV Tryz.prog 44 #[va,vb] h ms (.bool (decide (la=lb))):=by
 refine DZ ?_ ms;have l1:=hA.len_le;have l2:=hB.len_le;refine Ao func44 ntmps44 Y Y (λw0 hw0=>?_);simp only[AX];refine Ap (Qm Y (Am (Ac (Ap (Qm Y (Qx (Av hA.rd.any Y AP Y) Y (Qm Y (Qx (Av hB.rd.any Y AP Y) Y (Qm Y (Am ?_))))))))));refine Ar Y (λhlen=>?_) (λhlen=>?_)
 ·refine Ac (Ad (Qm Y (Am (An (Ae ?_)))));exact Au Y Y (by rw[ah];rintro rfl;exact hlen Y)
 ·have hlen:la.length=lb.length:=ω
  refine Ah (Ab (Ac (Ap (Qm Y (Am (Ag ?_))))))
  refine Ax (λq s h' ms'=>∃(k:Nat),q=la.length-k/\s=[(0,va),(1,vb),(5,.w k)]/\h=h'/\ms'=[]/\k<=la.length/\la.take k=lb.take k)
   (la.length-0) _ ⟨0,rfl,rfl,rfl,rfl,ω,rfl⟩ Qs ?_
  rintro q s h' ms' ⟨k,rfl,rfl,rfl,rfl,hk,hno⟩;refine Ac (Ap (Qm Y (Qm Y (Qx (Av hA.rd.any Y AP Y) Y (Qm Y (Am ?_))))));refine Ar Y (λhlt=>?_) (λhlt=>?_)
  ·have k1:k<la.length:=ω
   have k2:k<lb.length:=ω
   have ca:∀ms,Cell h ms ((AF va).add (k*1)) (.w la[k]):=λms=>(hA.any (ms:=ms)).cell0 k1 Y;have cb:∀ms,Cell h ms ((AF vb).add (k*1)) (.w lb[k]):=λms=>(hB.any (ms:=ms)).cell0 k2 Y;refine Ah (Ab (Ac (Ag (Ac (A5 8 CT κ Y (Wm Y (Wm Y (AL (BG (k) hA.rd.any Y AP A3 Y Y) Y Y (Wl Y U3 (ca _) (Wm Y (Wm Y (AL (BG (k) hB.rd.any Y AP A3 Y Y) Y Y (Wl Y U3 (cb _) (AZ (Qm Y (Am ?_))))))))))))))));refine Ar Y (λhne=>?_) (λhne=>?_)
   ·refine Ac (Ad (Qm Y (Am (An (Aj (Ae (Ae (Aj (Ae ?_)))))))));exact Au Y Y (by rw[ah];rintro rfl;exact hne Y)
   ·refine Ah (Ai (Ab (Ad (Qm Y (Qx (oA Y) Y (Qm Y (Al ?_)))))));refine Ak (la.length-(k+1)) _ ω ⟨k+1,Y,Y,Y,Y,ω,?_⟩ Qs;rw[List.take_add_one,List.take_add_one,hno,co k1,co k2,Decidable.not_not.1 hne]
  ·refine Aq (Aa (Aa (Af (Ab (Ap (Qm Y (Am (An ?_))))))));exact Au Y Y (by rw[ag];rwa [List.take_of_length_le ω,List.take_of_length_le ω]at hno)
def Rn(n:Nat):Nat:=if n%4=0 then 2 else if n%4=1 then 3 else if n%4=2 then 5 else 7
theorem AaC(n:Nat):IsP (Rn n:Int)/\(Rn n:Int)<256:=by
 unfold Rn;split
 ·decide
 ·split
  ·decide
  ·split<;>decide
theorem UI(n:Nat)(hn:n<256)(h:Hp)(ms:List Hp):FnV Tryz.prog 18 #[.int .u8 n] h ms (.int .i64 (Rn n)):=by
 refine DZ ?_ ms;obtain⟨z,hz⟩:∃z:Nat,(n:Int)%4=z:=⟨n%4,ω⟩
 have hz4:z<4:=ω
 have hc:([.w 2,.w 3,.w 5,.w 7]:List Value)[z]?=some (.w (Rn n)):=by
  have e:n%4=z:=ω
  unfold Rn;rw[e];rcases (ω:z=0\/z=1\/z=2\/z=3) with rfl|rfl|rfl|rfl<;>rfl
 refine Ao func18 ntmps18 Y Y (λw0 hw0=>?_);simp only[AX];refine Ap (Qm Y (BE (AB [(0,_),(1,_),(2,_),(3,_)] [.w 0,.w 0,.w 0,.w 0] [_,_,_,_] Y AP A3 Y ω κ Qt Y Y Y Y (λg3=>Qm Y (Qx (BJ Y Y Y ω ω) Y (Qx (Ch (z) Y AP A3 Y Y ω ω) Y ?_))))));refine Ql Y U3 (by exact Cell.blk 0 Y (by rw[Nat.mul_one];exact hc)) ?_;refine Qm Y (Am (An ?_));exact Au Y Y (Y)
open Go.Lin
deriving instance DecidableEq for FM
theorem Aao(M N:FM)(ev eu:Value)(h:Hp)(hA:RdL cI 1 h [] ev M.e)(hB:RdL cI 1 h [] eu N.e)(ms:List Hp):FnV Tryz.prog 155 #[.agg #[.int .i64 M.p,.int .i64 M.rows,.int .i64 M.cols,ev],.agg #[.int .i64 N.p,.int .i64 N.rows,.int .i64 N.cols,eu]] h ms (.bool (decide (M=N))):=by
 refine DZ ?_ ms;refine Ao func155 ntmps155 Y Y (λw0 hw0=>?_);simp only[AX];refine Ap (AQ [_,_,_,_] Y Y (by rfl) Y Y Y (λg2=>AQ [_,_,_,_] Y Y (by rfl) Y Y Y (λg3=>Qm Y (Am (Ac (Ap (Qf CW Y (Ql Y U3 (Cell.blk 1 Y Y) (Qf CW Y (Ql Y U3 (Cell.blk 0 Y Y) (Qm Y (Qm Y ?_))))))))))));refine AM (t:=10) Y (λh1=>?_) (λh1=>?_)
 ·refine Qk Y (Qk Y (Qk Y (Qk Y (Qk Y (Qm Y (Qm Y (Qk Y (Qk Y (Qk Y (Qk Y (Qk Y (Qm Y (Am (Bu Y (Ap (Qm Y (Am (An (Ae ?_)))))))))))))))))));exact Au Y Y (by rw[ah];rintro rfl;exact h1 Y)
 ·refine Qg (oF Dg Y) Y (Qg (oL Y U3 (Cell.blk 1 Y Y)) Y (Qg (oF Dg Y) Y (Qg (oL Y U3 (Cell.blk 0 Y Y)) Y (Qg (CI Y Y Y) Y (Qm Y (Qm Y ?_))))));refine AM (t:=17) Y (λh2=>?_) (λh2=>?_)
  ·refine Qk Y (Qk Y (Qk Y (Qk Y (Qk Y (Qm Y (Am (Bu Y (Ap (Qm Y (Am (An (Ae ?_))))))))))));exact Au Y Y (by rw[ah];rintro rfl;exact h2 Y)
  ·refine Qg (oF B6 Y) Y (Qg (oL Y U3 (Cell.blk 1 Y Y)) Y (Qg (oF B6 Y) Y (Qg (oL Y U3 (Cell.blk 0 Y Y)) Y (Qg (CI Y Y Y) Y (Qm Y (Am ?_))))));refine Ar Y (λh3=>?_) (λh3=>?_)
   ·refine Ac (Ad (Qm Y (Am (An (Ae ?_)))));exact Au Y Y (by rw[ah];rintro rfl;exact h3 Y)
   ·refine Ah (Ab (Ap (Qf BH Y (Ql Y AP (Cell.blk 1 Y Y) (Qf BH Y (Ql Y AP (Cell.blk 0 Y Y) (Qx (AG Y call44 Y (Kn M.e N.e ev eu h hA hB _)) Y (Qm Y (Am (An ?_))))))))));exact Au Y Y (by congr 1;rw[decide_eq_decide];obtain⟨a,b,c,d⟩:=M;obtain⟨a',b',c',d'⟩:=N;simp only[FM.mk.injEq]at *;exact⟨λhe=>⟨Decidable.not_not.1 h1,Decidable.not_not.1 h2,Decidable.not_not.1 h3,he⟩,λhe=>he.2.2.2⟩)
theorem Py(a b:List Int)(va vb:Value)(h:Hp)(hA:RdL cI 1 h [] va a)(hB:RdL cI 1 h [] vb b)(ms:List Hp):FnV Tryz.prog 92 #[va,vb] h ms (.bool (decide (a=b))):=by
 refine DZ ?_ ms;have la:=hA.len_le;have lb:=hB.len_le;have oa:=hA.rd.one;have ob:=hB.rd.one;refine Ao func92 ntmps92 Y Y (λw0 hw0=>?_);simp only[AX];refine Ap (Qm Y (Am (Ac (Ap (Qm Y (Qx (Av hA.rd.any Y AP Y) Y (Qm Y (Qx (Av hB.rd.any Y AP Y) Y (Qm Y (Am ?_))))))))));refine Ar Y (λhne=>?_) (λhne=>?_)
 ·refine Ac (Ad (Qm Y (Am (An (Ae ?_)))));exact Au Y Y (by rw[ah];intro e;rw[e]at hne;exact hne Y)
 ·have hl:a.length=b.length:=ω
  refine Ah (Ab (Ac (Ap (Qm Y (Qx (Av hA.rd.any Y AP Y) Y (Qm Y (Am (Ag ?_))))))))
  refine Ax (λq s h' ms'=>∃(k:Nat),q=a.length-k/\s=[(0,va),(1,vb),(12,.w a.length),(13,.w k)]/\h=h'/\ms'=[]/\k<=a.length/\a.take k=b.take k)
   (a.length-0) _ ⟨0,rfl,rfl,rfl,rfl,ω,rfl⟩ Qs ?_
  rintro q s h' ms' ⟨k,rfl,rfl,rfl,rfl,hk,he⟩;refine Ap (Qm Y (Am (Ac ?_)));refine Ar Y (λhlt=>?_) (λhlt=>?_)
  ·have hka:k<a.length:=H9 hlt;have hkb:k<b.length:=ω
   refine Ah (Ab (Ac (Ag (Ap (Qm Y (Qm Y (Am (Ac (A5 8 CT κ Y (Wm Y (Wm Y (AL (BG (k) hA.rd.any Y AP A3 Y Y) Y Y (Wl Y U3 (hA.any.cell0 hka Y) (Wm Y (Wm Y (AL (BG (k) hB.rd.any Y AP A3 Y Y) Y Y (Wl Y U3 (hB.any.cell0 hkb Y) (AZ (Qm Y (Am ?_))))))))))))))))))));refine Ar Y (λhne=>?_) (λhne=>?_)
   ·refine Ac (Ad (Qm Y (Am (An (Aj (Ae (Ae (Aj (Ae ?_)))))))));exact Au Y Y (by rw[ah];rintro rfl;exact hne Y)
   ·refine Ah (Ai (Ab (Ad (Qx (oA Y) Y (Qm Y (Al ?_))))));refine Ak (a.length-(k+1)) _ ω ⟨k+1,Y,Y,Y,Y,ω,?_⟩ Qs;rw[List.take_add_one,List.take_add_one,he,co hka,co hkb,Decidable.not_not.1 hne]
  ·obtain rfl:k=a.length:=ω
   refine Aq (Aa (Aa (Af (Ab (Ap (Qm Y (Am (An ?_))))))));exact Au Y Y (by rw[ct,hl,ct]at he;rw[ag he])
theorem Xy(a b:List Br)(va vb:Value)(h:Hp)(hA:RdL JJ 6 h [] va a)(hB:RdL JJ 6 h [] vb b)(ms:List Hp):FnV Tryz.prog 96 #[va,vb] h ms (.bool (decide (a=b))):=by
 refine DZ ?_ ms;have la:=hA.len_le;have lb:=hB.len_le;have oa:=hA.rd.one;have ob:=hB.rd.one;refine Ao func96 ntmps96 Y Y (λw0 hw0=>?_);simp only[AX];refine Ap (Qm Y (Am (Ac (Ap (Qm Y (Qx (Av hA.rd.any Y QE Y) Y (Qm Y (Qx (Av hB.rd.any Y QE Y) Y (Qm Y (Am ?_))))))))));refine Ar Y (λhne=>?_) (λhne=>?_)
 ·refine Ac (Ad (Qm Y (Am (An (Ae ?_)))));exact Au Y Y (by rw[ah];intro e;rw[e]at hne;exact hne Y)
 ·have hl:a.length=b.length:=ω
  refine Ah (Ab (Ac (Ap (Qm Y (Qx (Av hA.rd.any Y QE Y) Y (Qm Y (Am (Ag ?_))))))))
  refine Ax (λq s h' ms'=>∃(k:Nat),q=a.length-k/\s=[(0,va),(1,vb),(12,.w a.length),(13,.w k)]/\h=h'/\ms'=[]/\k<=a.length/\a.take k=b.take k)
   (a.length-0) _ ⟨0,rfl,rfl,rfl,rfl,ω,rfl⟩ Qs ?_
  rintro q s h' ms' ⟨k,rfl,rfl,rfl,rfl,hk,he⟩;refine Ap (Qm Y (Am (Ac ?_)));refine Ar Y (λhlt=>?_) (λhlt=>?_)
  ·have hka:k<a.length:=H9 hlt;have hkb:k<b.length:=ω
   have ca:∀ms,Seg h ms ((AF va).add (k*6)) (JJ a[k]):=λms=>(hA.any (ms:=ms)).seg hka;have cb:∀ms,Seg h ms ((AF vb).add (k*6)) (JJ b[k]):=λms=>(hB.any (ms:=ms)).seg hkb;refine Ah (Ab (Ac (Ag (Ap (Qm Y (Qm Y (Am (Ac (A5 8 CT κ Y (Wm Y (Wm Y (AL (BG (k) hA.rd.any Y QE F6 Y Y) Y Y (AL (oG Y U43 F6 (ca _)) Y Y (Wm Y (Wm Y (AL (BG (k) hB.rd.any Y QE F6 Y Y) Y Y (AL (oG Y U43 F6 (cb _)) Y Y (AZ (Qx (S7 a[k] b[k] Y Y Y) Y (Am ?_))))))))))))))))))));refine Ar Y (λhne=>?_) (λhne=>?_)
   ·refine Ac (Ad (Qm Y (Am (An (Aj (Ae (Ae (Aj (Ae ?_)))))))));exact Au Y Y (by rw[ah];rintro rfl;exact hne Y)
   ·refine Ah (Ai (Ab (Ad (Qx (oA Y) Y (Qm Y (Al ?_))))));refine Ak (a.length-(k+1)) _ ω ⟨k+1,Y,Y,Y,Y,ω,?_⟩ Qs;rw[List.take_add_one,List.take_add_one,he,co hka,co hkb,Decidable.not_not.1 hne]
  ·obtain rfl:k=a.length:=ω
   refine Aq (Aa (Aa (Af (Ab (Ap (Qm Y (Am (An ?_))))))));exact Au Y Y (by rw[ct,hl,ct]at he;rw[ag he])
theorem Vo{p:Int}{r c:Nat}{f g:Nat->Nat->Int}{ev eu:Value}{h:Hp}(R:RtM p r c f)(S:RtM p r c g)(hR:RdL cI 1 h [] ev (BN r c f))(hS:RdL cI 1 h [] eu (BN r c g))(ms:List Hp):FnV Tryz.prog 94 #[.agg #[.int .i64 p,.int .i64 r,.int .i64 c,ev],.agg #[.int .i64 p,.int .i64 r,.int .i64 c,eu]] h ms (.bool (decide (BN r c f=BN r c g))):=by
 refine DZ ?_ ms;have o1:=hR.rd.one;have o2:=hS.rd.one;refine Ao func94 ntmps94 Y Y (λw0 hw0=>?_);simp only[AX];refine Ap (AQ [_,_,_,_] Y Y (by rfl) Y Y Y (λg2=>AQ [_,_,_,_] Y Y (by rfl) Y Y Y (λg3=>Qm Y (BE (Qx (oG Y D8 A7 (Seg.blk 1 Y)) Y (Qx (oG Y D8 A7 (Seg.blk 0 Y)) Y (Qx (AG Y call151 Y (XO R S hR hS _)) Y (Qm Y (Qg (oF Dg Y) Y (Qg (oL Y U3 (Cell.blk 1 Y Y)) Y (Qg (oF Dg Y) Y (Qg (oL Y U3 (Cell.blk 0 Y Y)) Y (Qg (CD Y Y Y) Y (Qm Y (Qm Y ?_)))))))))))))));refine AM (t:=15) Y (λh1=>?_) (λh1=>?_)
 ·refine Qg (oF B6 Y) Y (Qg (oL Y U3 (Cell.blk 1 Y Y)) Y (Qg (oF B6 Y) Y (Qg (oL Y U3 (Cell.blk 0 Y Y)) Y (Qg (CD Y Y Y) Y (Qm Y (Qm Y ?_))))));refine AM (t:=22) Y (λh2=>?_) (λh2=>?_)
  ·refine Qg (oF BH Y) Y (Qg (oL Y AP (Cell.blk 1 Y Y)) Y (Qg (oF BH Y) Y (Qg (oL Y AP (Cell.blk 0 Y Y)) Y (Qg (AG Y call92 Y (Py _ _ ev eu h hR hS _)) Y (Qm Y (Qm Y (Am (An ?_))))))));exact Au Y Y (Y)
  ·exact absurd Y h2
 ·exact absurd Y h1
theorem WX{p:Int}{r c:Nat}{f g:Nat->Nat->Int}{ev eu:Value}{h:Hp}(R:RtM p r c f)(S:RtM p r c g)(hR:RdL cI 1 h [] ev (BN r c f))(hS:RdL cI 1 h [] eu (BN r c g))(ms:List Hp):FnV Tryz.prog 99 #[.agg #[.int .i64 p,.int .i64 r,.int .i64 c,ev],.agg #[.int .i64 p,.int .i64 r,.int .i64 c,eu]] h ms (.bool (decide (Ja p r c f=Ja p r c g))):=by refine DZ ?_ ms;have o1:=hR.rd.one;have o2:=hS.rd.one;refine Ao func99 ntmps99 Y Y (λw0 hw0=>?_);simp only[AX];refine Ap (AQ [_,_,_,_] Y Y (by rfl) Y Y Y (λg2=>AQ [_,_,_,_] Y Y (by rfl) Y Y Y (λg3=>Qm Y (BE (Qx (oG Y D8 A7 (Seg.blk 1 Y)) Y (Qx (oG Y D8 A7 (Seg.blk 0 Y)) Y (Qx (AG Y call154 Y (SJ R S hR hS _)) Y (Qm Y (BE (Qm Y (Qm Y (Qg (oG Y D8 A7 (Seg.blk 1 Y)) Y (Qg (oG Y D8 A7 (Seg.blk 0 Y)) Y (Qg (AG Y call155 Y (Aao (Ja p r c f) (Ja p r c g) ev eu h hR hS _)) Y (Qm Y (Qm Y (Am (An ?_))))))))))))))))));exact Au Y Y (Y)
end Go.Proofs.Q
namespace Go.Proofs.Q
open Go.Eng Go.RowKit Go.Lin Go.Sort Go.Srt
variable {j:Nat}
theorem IF{S S':List Ce}(h:S'.map Ce.c=S.map Ce.c):∀j,DG S' j=DG S j
 | 0=>rfl
 | j+1=>by have e:(S'.getD j default).c=(S.getD j default).c:=JG h j;unfold DG;rw[IF h j,e]
theorem L3{S S':List Ce}(h:S'.map Ce.c=S.map Ce.c)(p:Int)(j:Nat):CZ p S' j=CZ p S j:=by
 have e:(S'.getD j default).c=(S.getD j default).c:=JG h j;have el:S'.length=S.length:=by have:=bf List.length h;simpa using this
 unfold CZ EI pl;rw[e,el,IF h]
section
variable {p:Int} {F:List (Int×Int)} {l S:List Ce} {R V:Nat->List Int}
def QO(p:Int)(S:List Ce)(a b:Nat):Int:=(CZ p S b).getD a 0
def Ga(R:Nat->List Int)(a b:Nat):Int:=(R b).getD a 0
theorem PerH.mul(H:PerH p F l S R V){i:Nat}(hi:i<S.length)(hj:j<S.length):L8 p S.length (QO p S) (Ga V) i j=Ga R i j:=by
 have hp:=H.hp.1;obtain⟨la,A⟩:=H.P.all
 have e:Cg p (sm S.length λt=>QO p S i t*Ga V t j) (Ga R i j):=
  (Cg.sm λt ht=>(N9 H ht hi).mul (Cg.refl p _)).trans ((H.col j hj).eq i hi).symm
 exact((Cg.mod p _).trans e).eq ⟨da _ ω,dc _ ω⟩ (CJ ω (A.red.rr j hj) i)
theorem PerH.mulM(H:PerH p F l S R V):BN S.length S.length (L8 p S.length (QO p S) (Ga V))=BN S.length S.length (Ga R):=AS λa ha b hb=>H.mul ha hb
theorem PerH.one_at(H:PerH p F l S R V)(hj:j<S.length):Ga V j j=1:=(H.col j hj).one
theorem PerH.aft_at(H:PerH p F l S R V){i:Nat}(hj:j<S.length)(h:j<i):Ga V i j=0:=(H.col j hj).aft i h
theorem PerH.lenR(H:PerH p F l S R V)(hj:j<S.length):(R j).length=S.length:=by obtain⟨la,A⟩:=H.P.all;exact A.red.rl j hj
theorem PerH.rtR(H:PerH p F l S R V)(hl:S.length<=400):RtM p S.length S.length (Ga R):=by obtain⟨la,A⟩:=H.P.all;exact⟨H.hp,hl,hl,λa _ b hb=>CJ (by have:=H.hp.1;omega) (A.red.rr b hb) a⟩
theorem PerH.rtV(H:PerH p F l S R V)(hl:S.length<=400):RtM p S.length S.length (Ga V):=by obtain⟨la,A⟩:=H.P.all;exact⟨H.hp,hl,hl,λa _ b hb=>CJ (by have:=H.hp.1;omega) (A.red.vr b hb) a⟩
theorem PerH.rtD(H:PerH p F l S R V)(hl:S.length<=400):RtM p S.length S.length (QO p S):=
 ⟨H.hp,hl,hl,λa _ b hb=>CJ (by have:=H.hp.1;omega) (Iv (by have:=H.hp.1;omega) S b _) a⟩
end
def Ma(R:Nat->List Int)(j n i:Nat):List Int:=(range n).map λa=>if a<i then Ga R a j else 0
theorem He(R:Nat->List Int)(j n i:Nat):(Ma R j n i).length=n:=by unfold Ma;simp
theorem Ks(R:Nat->List Int)(j n i:Nat){a:Nat}(h:a<(Ma R j n i).length):(Ma R j n i)[a]=if a<i then Ga R a j else 0:=by simp[Ma]
theorem UB(R:Nat->List Int)(j n:Nat):Ma R j n 0=replicate n 0:=by refine bo (by rw[He,List.length_replicate]) λa h1 h2=>?_;rw[Ks,List.getElem_replicate,aa ω]
theorem T7(R:Nat->List Int)(j n i:Nat):(Ma R j n i).set i (Ga R i j)=Ma R j n (i+1):=by
 refine bo (by rw[List.length_set,He,He]) λa h1 h2=>?_;rw[List.getElem_set,Ks,Ks];by_cases e:i=a
 ·subst e;rw[ab rfl,ab ω]
 ·rw[aa e];by_cases h:a<i
  ·rw[ab h,ab ω]
  ·rw[aa h,aa ω]
theorem VG(R:Nat->List Int)(j:Nat){n:Nat}(h:(R j).length=n):Ma R j n n=R j:=by refine bo (by rw[He,h]) λa h1 h2=>?_;rw[Ks,ab ω];unfold Ga;simp[List.getD,h2]
end Go.Proofs.Q

namespace Go.Proofs.Q
open Go.Proofs.Tryz
open Go.Eng Go.RowKit
theorem Hn:∀(l acc s:List Int),Ek acc l=some s->s.length<=acc.length+l.length
 | [],acc,s,e=>by have:acc=s:=de e;rw[<-this];exact Nat.le_add_right _ _
 | x::l,acc,s,e=>by
  unfold Ek at e;split at e
  ·have:=Hn l acc s e;rw[df];omega
  ·split at e
   ·cases e
   ·have:=Hn l _ s e;rw[O6]at this;rw[df];omega
theorem KJ:∀(ll acc all:List (List Int)),(∀l∈ll,l.length<=4)->CH acc ll=some all->all.length<=acc.length+15*ll.length
 | [],acc,all,h,e=>by have:acc=all:=de e;rw[<-this];exact Nat.le_add_right _ _
 | l::ll,acc,all,h,e=>by
  rw[DI]at e;split at e
  ·cases e
  ·have h1:=KJ ll _ all (λx hx=>h x (au _ hx)) e
   have h2:(UE acc (Ek [] l)).length<=acc.length+15:=by
    cases hs:Ek [] l with
    | none=>exact Nat.le_add_right _ _
    | some s=>
     have h3:=Hn l [] s hs;have h4:=h l Mh;have h5:=GN acc s (2^s.length-1);have h6:2^s.length<=16:=Nat.pow_le_pow_right (n:=2) (i:=s.length) (j:=4) (by decide) (by simp at h3;omega);show(C3 acc s (2^s.length-1)).length<=_;omega
   rw[df];omega
theorem W7{ll:List (List Int)}(h:∀l∈ll,l.length<=4):(Ev ll).length<=15*ll.length:=by
 unfold Ev;cases e:CH [] ll with
 | none=>simp
 | some all=>have:=KJ ll [] all h e;simpa using this
theorem Vd{all:List (List Int)}{s t:List Int}(h:t∈H8 all s):t=s\/t∈all:=by
 unfold H8 at h;split at h
 ·exact .inr h
 ·rcases aq.1 h with h|h
  ·exact .inr (List.mem_of_mem_take h)
  ·rcases aj.1 h with h|h
   ·exact .inl h
   ·exact .inr (List.mem_of_mem_drop h)
theorem Mj{all:List (List Int)}{s:List Int}(h:∀t∈all,t.length<=4)(hs:s.length<=4):∀b,∀t∈C3 all s b,t.length<=4
 | 0,t,ht=>h t ht
 | b+1,t,ht=>by
  rcases Vd ht with rfl|ht
  ·unfold EH;rw[af];exact Nat.le_trans (List.length_filter_le _ _) (by rw[length_range];exact hs)
  ·exact Mj h hs b t ht
theorem Kx:∀(ll acc all:List (List Int)),(∀l∈ll,l.length<=4)->(∀l∈acc,l.length<=4)->CH acc ll=some all->∀l∈all,l.length<=4
 | [],acc,all,h,ha,e=>by have:acc=all:=de e;rw[<-this];exact ha
 | l::ll,acc,all,h,ha,e=>by
  rw[DI]at e;split at e
  ·cases e
  ·refine Kx ll _ all (λx hx=>h x (au _ hx)) ?_ e;cases hs:Ek [] l with
   | none=>exact ha
   | some s=>exact Mj ha (by have:=Hn l [] s hs;have:=h l Mh;simp at *;omega) _
theorem Wi{ll:List (List Int)}(h:∀l∈ll,l.length<=4):∀x∈Ev ll,x.dim<=7:=by
 unfold Ev;cases e:CH [] ll with
 | none=>nofun
 | some all=>
  intro x hx;obtain⟨i,hi,rfl⟩:=ai.1 hx;have hi:=ba.1 hi;have:=Kx ll [] all h nofun e _ (ae hi);show((all.getD i []).length:Int)-1<=7;rw[show all.getD i []=all[i] by simp[List.getD,hi]];omega
theorem Nh(l:List Int)(v:Value)(hp:Hp)(hR:RdL cI 1 hp [] v l):FnT Tryz.prog 46 #[v] hp [] (λr h' ms'=>hp.le h'/\Q6 h' r ms' (λo=>∃ll:List (List Int),ll.length<=l.length/\(∀s∈ll,s.length<=4)/\o=Ev ll)):=by
 have ov:=hR.rd.one;refine Ao func46 ntmps46 Y Y (λw0 hw0=>?_);simp only[AX];refine Ap (Cx [.slice none 0 0] Y A0 Y Y (λg2=>BE (Qm Y (Am (Ac (Ap (Qm Y (Am (Ag (BI ?_))))))))))
 refine Ax (λq sl h' ms'=>∃(i:Nat) (v3:Value) (m3:Hp) (es:List Value) (ll:List (List Int)),q=12-i/\sl=[(0,v),(2,.pt g2),(3,v3),(4,.w i)]/\hp.le h'/\ms'=[m3,A8 g2 29 [.slice none 0 0]]/\i<=12/\i<=l.length/\OwnL cW 1 22 m3 v3 es/\RdEs h' es ll/\ll.length=i/\∀s∈ll,s.length<=4)
  (12-0) _ ⟨0,_,Hp.emp,[],[],rfl,rfl,Dv,rfl,ω,ω,OwnL.nil DN,RdEs.nil _,rfl,nofun⟩ Qs ?_
 rintro q sl h' ms' ⟨i,v3,m3,es,ll,rfl,rfl,lh,rfl,hi,hil,hO,hE,hll,h4⟩;have hR:=hR.up lh;have hel:=hE.1;have ov3:=hO.o1;refine Ac (Ap (Qm Y (Qm Y (Qx (Av hR.rd.any Y AP Y) Y (Qm Y (Qm Y ?_))))));refine AM (t:=11) Y (λh1=>?_) (λh1=>?_)
 ·refine Qg (As Y Y) Y (Qg (Dp Y Y Y) Y (Qm Y (Am ?_)));refine Ar Y (λh2=>?_) (λh2=>?_)
  ·have hin:i<l.length:=ω
   obtain⟨x,hx⟩:∃x,l[i]=x:=⟨_,Y⟩
   have cx:∀ms,Cell h' ms ((AF v).add (i*1)) (.w x):=λms=>by rw[<-hx];exact(hR.any (ms:=ms)).cell0 hin Y
   refine Ah (Ab (Ac (Ag (Ap (Qm Y (Am (BI ?_)))))));refine A9 (λsl h'' ms'=>∃(v5:Value) (m5:Hp) (s:List Int),sl=[(0,v),(2,.pt g2),(3,v3),(4,.w i),(5,v5)]/\h'=h''/\ms'=[m5,m3,A8 g2 29 [.slice none 0 0]]/\OwnL cI 1 3 m5 v5 s/\s.length<=4) ?_ (λs h ms hI=>?_)
   ·refine Ac (Ad (Qm Y (Am (Ag ?_))))
    refine Ax (λq sl h'' ms'=>∃(j:Nat) (v5:Value) (m5:Hp) (s:List Int),q=6-j/\sl=[(0,v),(2,.pt g2),(3,v3),(4,.w i),(5,v5),(6,.w j)]/\h'=h''/\ms'=[m5,m3,A8 g2 29 [.slice none 0 0]]/\j<=6/\OwnL cI 1 3 m5 v5 s/\s.length<=4)
     (6-0) _ ⟨0,_,Hp.emp,[],rfl,rfl,rfl,rfl,ω,OwnL.nil Bd,by simp⟩ Qs ?_
    rintro q sl h'' ms' ⟨j,v5,m5,s,rfl,rfl,rfl,rfl,hj,hO5,hs4⟩;have ov5:=hO5.o1;refine Ac (Ap (Qm Y (Qm Y (Qm Y ?_))));refine AM (t:=19) Y (λhj1=>?_) (λhj1=>?_)
    ·refine Qg (As Y Y) Y (Qg (Er (hO5.rd (h:=h') (ms:=[m5]) Mh).rd Y AP Y) Y (Qg (Dp Y Y Y) Y (Qm Y (Am ?_))));refine Ar Y (λhj2=>?_) (λhj2=>?_)
     ·refine Ah (Ab (Ac (Ag (Ap (Qm Y (Qm Y (Qx (BG (i) hR.rd.any Y AP A3 Y Y) Y (Ql Y U3 (cx _) (Qm Y (Qx (YU (n:=j) Y Y Y ω) Y (Qx (ZB Y Y Y) Y (Qm Y (Am ?_)))))))))))));refine Ar Y (λhbit=>?_) (λhbit=>?_)
      ·refine Ad (Qm Y (Qm Y (Aw [_] Y AP A3 Y (by rfl) Y Y ω Y Y Y (λg36=>AV 1 hO5 (RdL.one Bd (x:=(j:Int)) Mh Y) Y AP A3 Y ω Y Y Y B7 (by(try simp only[ac]);omega) (by(try simp only[ac]);omega) rfl rfl rfl (λv9 m9 hO9=>?_)))));have ov9:=hO9.o1;refine Qm Y (Al (Ai (Ab (Ad (Qm Y (Qx (oA Y) Y (Qm Y (Al (AR ?_)))))))));exact Ak (6-(j+1)) _ ω ⟨j+1,v9,m9,_,Y,Y,Y,Y,ω,hO9,by rw[ad,ac];omega⟩ Qs
      ·refine Ah (Ai (Ab (Ad (Qm Y (Qx (oA Y) Y (Qm Y (Al ?_)))))));exact Ak (6-(j+1)) _ ω ⟨j+1,v5,m5,s,Y,Y,Y,Y,ω,hO5,hs4⟩ Qs
     ·refine Aq (Aa (Aa (Af ?_)));exact AE _ ⟨v5,m5,s,Y,Y,Y,hO5,hs4⟩ Qs
    ·refine Qk Y (Qk Y (Qk Y (Qm Y (Am (AN Y (Aq (Aa (Aa (Af ?_)))))))));exact AE _ ⟨v5,m5,s,Y,Y,Y,hO5,hs4⟩ Qs
   ·obtain⟨v5,m5,s,rfl,rfl,rfl,hO5,hs4⟩:=hI;refine Bo λh6 l6 k6=>?_;have hS:=hO5.rdh (ms:=[]) k6;have oS_:=hS.rd.one;refine Ad (Qm Y (Qm Y (Aw [_] Y Ck Cz Y ((RdL.rd ‹_›).cells) Y Y ω Y Y Y (λg40=>?_))));refine Bg 1 hO (RdL.one DN (x:=v5) Mh Y) Y Ck Cz Y ω Y Y Y (GJ λu hu=>by rw[ak.1 hu];exact oS_) (by(try simp only[ac]);omega) (by(try simp only[ac]);omega) rfl rfl rfl (λv9 m9 hO9=>?_);have ov9:=hO9.o1;refine Qm Y (Al (Ai (Ab (Ad (Qm Y (Qx (oA Y) Y (Qm Y (Al (AR ?_)))))))))
    exact Ak (12-(i+1)) _ ω ⟨i+1,v9,m9,_,ll++[s],Y,Y,AI lh l6,Y,ω,ω,hO9,(hE.up l6).snoc hS,by rw[ad,hll];rfl,λu hu=>by
     rcases aq.1 hu with h|h
     ·exact h4 u h
     ·rw[ak.1 h];exact hs4⟩ Qs
  ·refine Bo λh6 l6 k6=>?_;have hV:=hO.rdh (ms:=[]) k6;have hE:=hE.up l6;refine Aq (Aa (Aa (Af (Ab (Ap (Qm Y ?_))))));refine Qc call104 Y (HU ll es v3 h6 ω (λs hs=>by have:=h4 s hs;omega) hV hE) (λrC h7 ms7 l7 hF=>?_);obtain⟨l7',m,A,vA,rfl,rfl,hOA,hA,hs⟩:=hF;have ovA:=hOA.o1;refine Sa 1 [_] A0 Y (by simp[ov,ov3,ovA]) ?_;refine Am (An ?_);exact Bx (vs:=[_]) 1 Y Y CN Y A0 Y Y (⟨AI lh (AI l6 l7'),m,A,_,Y,Y,hOA,⟨ll,ω,h4,hA⟩,hs⟩)
 ·refine Qk Y (Qk Y (Qm Y (Am (AN Y (Aq (Aa (Aa (Af (Ab (Bo λh6 l6 k6=>?_))))))))));have hV:=hO.rdh (ms:=[]) k6;have hE:=hE.up l6;refine Ap (Qm Y ?_);refine Qc call104 Y (HU ll es v3 h6 ω (λs hs=>by have:=h4 s hs;omega) hV hE) (λrC h7 ms7 l7 hF=>?_);obtain⟨l7',m,A,vA,rfl,rfl,hOA,hA,hs⟩:=hF;have ovA:=hOA.o1;refine Sa 1 [_] A0 Y (by simp[ov,ov3,ovA]) ?_;refine Am (An ?_);exact Bx (vs:=[_]) 1 Y Y CN Y A0 Y Y (⟨AI lh (AI l6 l7'),m,A,_,Y,Y,hOA,⟨ll,ω,h4,hA⟩,hs⟩)
variable {o:List Cl}
structure CxQ(K:Int)(o:List Cl):Prop where
 r:Rgt o
 n:o.length<=80
 i:∀x∈o,x.id<=K
 d:∀x∈o,x.dim<=7
theorem RX:∀n,n<10->∀x∈OS (Fs n),x.dim<=7:=by decide
theorem CxQ.spa(n:Nat)(h:n<10):CxQ 900 (OS (Fs n)):=by have h1:=(Kp n h).1;exact⟨N0 n h,by rw[Ob];omega,λx hx=>by have:=(KE x hx).2;omega,RX n h⟩
theorem CxQ.simp{ll:List (List Int)}(h1:ll.length<=5)(h4:∀l∈ll,l.length<=4):CxQ 900 (Ev ll):=by have h2:=W7 h4;exact⟨UR ll,ω,λx hx=>by have:=X8 ll x hx;omega,Wi h4⟩
theorem CxQ.gone{K:Int}(Q:CxQ K o){c:Int}(h:c∈I3 (ordF o)):CxQ K (o.filter λx=>decide (x.id≠c)):=by refine⟨Q.r.gone λy hy s hs e=>?_,Nat.le_trans (List.length_filter_le _ _) Q.n,λx hx=>Q.i x (di.1 hx).1,λx hx=>Q.d x (di.1 hx).1⟩;have hc:y.can∈ordF o:=(Dn o.length o (ay _)).mem_iff.2 (ai.2 ⟨y,hy,Y⟩);exact VB h _ hc s ((Cm y.sd).mem_iff.2 hs) e
theorem CxQ.beside(Q:CxQ 900 o)(hn:o.length<26){m:Int}(h0:0<=m)(hM:∀x∈o,x.id<=m)(hK:m<=900)(n:Nat)(h:n<5):CxQ 1000 (o++(OS (Fs n)).map (Va m)):=by
 have h1:=(Kp n ω).2 h;have hl:=Ob (Fs n);refine⟨Q.r.union ((N0 n ω).shift h0) (λx hx y hy=>?_) (by rw[af];omega),by rw[ad,af];omega,λx hx=>?_,λx hx=>?_⟩
 ·obtain⟨z,hz,rfl⟩:=ai.1 hy;have:=hM x hx;have:=(KE z hz).1;show x.id≠z.id+m;omega
 ·rcases aq.1 hx with h|h
  ·have:=Q.i x h;omega
  ·obtain⟨z,hz,rfl⟩:=ai.1 h;have:=(KE z hz).2;show z.id+m<=1000;omega
 ·rcases aq.1 hx with h'|h'
  ·exact Q.d x h'
  ·obtain⟨z,hz,rfl⟩:=ai.1 h';exact RX n ω z hz
theorem CxQ.up(Q:CxQ 900 o):CxQ 1000 o:=⟨Q.r,Q.n,λx hx=>by have:=Q.i x hx;omega,Q.d⟩
theorem CxQ.rg{K:Int}(hK:K<=1000000){A:List Ce}(Q:CxQ K (A.map Ce.c)):RgC A:=⟨Q.r,λa ha=>by have:=Q.i _ (ai.2 ⟨a,ha,Y⟩);omega⟩
theorem CxQ.ids{A:List Ce}(Q:CxQ 900 (A.map Ce.c)){a:Ce}(ha:a∈A):-1000000<=a.c.id/\a.c.id<=900:=by have hm:a.c∈A.map Ce.c:=ai.2 ⟨a,ha,Y⟩;have:=Q.i _ hm;have:=Q.r.pos _ hm;omega
theorem Ta{B:List Ce}{n:Int}(hB:B.map Ce.c=OS (Fs (n%10).toNat))(hn:0<=n/\n<10):B.length<=1000:=by have h1:=bf List.length hB;rw[af,Ob]at h1;have:=(Kp (n%10).toNat ω).1;omega
theorem Wr{B:List Ce}{n:Int}(hB:B.map Ce.c=OS (Fs (n%10).toNat))(hn:0<=n/\n<10){b:Ce}(hb:b∈B):(-1000000<=b.c.id/\b.c.id<=1000000)/\b.c.sd.length<=100/\∀s∈b.c.sd,-1000000<=s.1/\s.1<=1000000:=by
 have hm:b.c∈OS (Fs (n%10).toNat):=by rw[<-hB];exact ai.2 ⟨b,hb,Y⟩
 have R:=N0 (n%10).toNat ω;have hl:=(Kp (n%10).toNat ω).1;have h1:=KE _ hm;refine⟨ω,by have:=(R.bds hm).2;omega,λs hs=>?_⟩;obtain⟨y,hy,e,_⟩:=R.sid _ hm s hs;have h2:=KE _ hy;omega
theorem Cy{P:Program}{o:Oper}{s:AC}{h:Hp}{ms:List Hp}{v v':Value}(hx:OX P o s h ms v)(e:v=v'):OX P o s h ms v':=e ▸ hx
theorem QP(sp be:Nat)(L:List Int)(G:List Nat)(vL vG:Value)(hp:Hp)(hsp:sp<256)(hbe:be<256)(hG:∀g∈G,g<256)(hL:RdL cI 1 hp [] vL L)(hRG:RdL (λg=>[.int .u8 (g:Nat)]) 1 hp [] vG G):FnT Tryz.prog 13 #[.agg #[.int .u8 sp,vL,vG,.int .u8 be]] hp [] (λr h' ms'=>hp.le h'/\Q6 h' r ms' (CxQ 1000)):=by
 have oL_:=hL.rd.one;have oG_:=hRG.rd.one;refine Ao func13 ntmps13 Y Y (λw0 hw0=>?_);simp only[AX];refine Ap (AQ [_,_,_,_] Y Y (by rfl) Y Y Y (λg1=>Cx [.slice none 0 0] Y A0 Y Y (λg2=>Am (Bm 1 Y λh1 l1 hS=>?_))));have hL:=hL.up l1;have hRG:=hRG.up l1;have s0:∀{h},h1.le h->∀ms,Cell h ms (⟨g1,0,none⟩:Addr) (.int .u8 sp):=λl ms=>Seg.all (hS.le l) 0 _ Y ms;have s1:∀{h},h1.le h->∀ms,Cell h ms (⟨g1,1,none⟩:Addr) vL:=λl ms=>Seg.all (hS.le l) 1 _ Y ms;have s2:∀{h},h1.le h->∀ms,Cell h ms (⟨g1,2,none⟩:Addr) vG:=λl ms=>Seg.all (hS.le l) 2 _ Y ms;have s3:∀{h},h1.le h->∀ms,Cell h ms (⟨g1,3,none⟩:Addr) (.int .u8 be):=λl ms=>Seg.all (hS.le l) 3 _ Y ms;refine Ap (Qf WW Y (Ql Y U5 (s0 (Dv) _) (Qx (IB Y U5 U3 Y (Db ω)) Y ?_)));refine Qc call45 Y (IM sp h1 (by unfold BS;omega)) (λrc h2 ms2 l2 hF=>?_);obtain⟨l2',mC,A,vC,rfl,rfl,hOC,hA,hAs⟩:=hF;have hQ:CxQ 900 (A.map Ce.c):=by rw[hA];exact CxQ.spa _ ω
 have oC:=hOC.o1;refine Cx [.slice none 0 0] Y A0 Y Y (λg3=>?_);refine Sa 0 [_] A0 Y (by simp[oL_,oG_,oC]) ?_;refine Am ?_;refine A9 (λsl h' ms'=>∃(vC:Value) (mC:Hp) (A:List Ce),sl=[(1,.pt g1),(2,.pt g2),(3,.pt g3)]/\h1.le h'/\ms'=[A8 g3 29 [vC],mC,A8 g2 29 [.slice none 0 0]]/\OwnL cC 3 52 mC vC A/\CxQ 900 (A.map Ce.c)/\∀a∈A,RdL cD 2 h' [] a.v a.c.sd) ?_ (λs h ms hI=>?_)
 ·have hL2:=hL.up l2';obtain⟨k,hk⟩:∃k:Nat,min (L.length:Int) 5=k:=⟨min L.length 5,ω⟩
  have hkl:k<=L.length/\k<=5:=ω
  have hSub:RdL cI 1 h2 [] (B0 1 vL 0 k) (L.take k):=by have:=hL2.sub_ (i:=0) (j:=k) ω hkl.1;simpa using this
  refine Ap (Qf WW Y (Ql Y U5 (s0 l2' _) (Qx (BJ Y Y Y ω ω) Y (Qm Y (Am ?_)))));refine Ar Y (λh26=>?_) (λh26=>?_)
  ·refine Ad (Qf UV Y (Ql Y AP (s1 l2' _) (Qf UV Y (Ql Y AP (s1 l2' _) (Qx (Av hL2.rd.any Y AP Y) Y (Qx (RT Y Y Y) Y (Qx (E3 (k) hL2.rd.any Y AP A3 Y Y ω ω) Y (Qc call46 Y (Nh (L.take k) _ h2 hSub) (λrs h3 ms3 l3 hF=>?_)))))))));obtain⟨l3',mS,B,vB,rfl,rfl,hOB,⟨ll,hll,h4,hB⟩,hBs⟩:=hF;have hQB:CxQ 900 (B.map Ce.c):=by rw[hB];exact CxQ.simp (by rw[ao]at hll;omega) h4
   have oB:=hOB.o1;refine Sa 1 [_] A0 Y (by simp[oL_,oG_,oC,oB]) ?_;refine Al (A4 2 Y (CM 1 Y ?_));exact AE _ ⟨vB,mS,B,Y,AI l2' l3',Y,hOB,hQB,hBs⟩ Qs
  ·refine Ah ?_;exact AE _ ⟨vC,mC,A,Y,l2',Y,hOC,hQ,hAs⟩ Qs
 ·obtain⟨vC,mC,A,rfl,l3,rfl,hOC,hQ,hAs⟩:=hI;refine A9 (λsl h' ms'=>∃(vC:Value) (mC:Hp) (A:List Ce),sl=[(1,.pt g1),(2,.pt g2),(3,.pt g3)]/\h1.le h'/\ms'=[A8 g3 29 [vC],mC,A8 g2 29 [.slice none 0 0]]/\OwnL cC 3 52 mC vC A/\CxQ 900 (A.map Ce.c)/\∀a∈A,RdL cD 2 h' [] a.v a.c.sd) ?_ (λs h ms hI=>?_)
  ·refine Ac (Ad (Qm Y (Am (Ag ?_))))
   refine Ax (λq sl h' ms'=>∃(i:Nat) (vC:Value) (mC:Hp) (A:List Ce),q=6-i/\sl=[(1,.pt g1),(2,.pt g2),(3,.pt g3),(4,.w i)]/\h1.le h'/\ms'=[A8 g3 29 [vC],mC,A8 g2 29 [.slice none 0 0]]/\i<=6/\OwnL cC 3 52 mC vC A/\CxQ 900 (A.map Ce.c)/\∀a∈A,RdL cD 2 h' [] a.v a.c.sd)
    (6-0) _ ⟨0,vC,mC,A,rfl,rfl,l3,rfl,ω,hOC,hQ,hAs⟩ Qs ?_
   rintro q sl h' ms' ⟨i,vC,mC,A,rfl,rfl,lh,rfl,hi,hOC,hQ,hAs⟩;have hRG:=hRG.up lh;have hAn:=hQ.n;rw[af]at hAn;have oC:=hOC.o1;refine Ac (Ap (Qm Y (Qf XW Y (Ql Y WG (s2 lh _) (Qx (Av hRG.rd.any Y WG Y) Y (Qm Y (Qm Y ?_)))))));refine AM (t:=30) Y (λha=>?_) (λha=>?_)
   ·refine Qg (As Y Y) Y (Qg (Dp Y Y Y) Y (Qm Y (Qm Y ?_)));refine AM (t:=34) Y (λhb=>?_) (λhb=>?_)
    ·refine Qg (oF Cc Y) Y (Qg (oL Y Bi (Cell.blk 0 Y Y)) Y (Qg (Er (hOC.rd (h:=h') (ms:=[A8 g3 29 [vC],mC,A8 g2 29 [.slice none 0 0]]) (.tail _ (.head _))).rd Y Bi Y) Y (Qg (Cf Y Y Y) Y (Qm Y (Am ?_)))));refine Ar Y (λhc=>?_) (λhc=>?_)
     ·have hil:i<G.length:=ω
      have hA1:1<A.length:=ω
      refine Eh 1 Y (Bo λh5 l5 k5=>?_);have hRC:RdC h5 vC A:=⟨hOC.rdh (ms:=[]) k5,λa ha=>(hAs a ha).up l5⟩
      have hKA:RgC A:=hQ.rg (by decide);have l15:=AI lh l5;have hRG:=hRG.up l5;refine Ah (Ab (Ac (Ag (Ap (Qx (oG Y CN A0 (Seg.blk 0 Y)) Y (Qc call47 Y (ZK A vC h5 hKA hRC) (λrt h6 ms6 l6 hF=>?_)))))));obtain⟨l6',mT,rfl,hOT⟩:=hF
      have hTn:I3 (cn A)≠[]:=Yb hKA.F.rgt λe=>by have h1:=C0 A;rw[e]at h1;simp at h1;omega
      obtain⟨T,hT⟩:∃T,I3 (cn A)=T:=⟨_,Y⟩
      rw[hT]at hOT hTn;have hTl:0<T.length:=List.length_pos_iff.2 hTn
      have hTm:T.length<=4000:=by rw[<-hT];unfold I3;rw[af];exact Nat.le_trans (List.length_filter_le _ _) hKA.F.rgt.n
      have oT:=hOT.o1;obtain⟨gg,hgg⟩:∃gg,G[i]=gg:=⟨_,Y⟩
      have hgb:=hG gg (by rw[<-hgg];exact ae hil);have hRG:=hRG.up l6;have hRC:=hRC.up l6;have cg:∀ms,Cell h6 ms ((AF vG).add (i*1)) (.int .u8 gg):=λms=>by rw[<-hgg];exact(hRG.any (ms:=ms)).cell0 hil Y
      obtain⟨z,hz⟩:∃z:Nat,(gg:Int)%(T.length:Int)=z:=⟨gg%T.length,ω⟩
      have hzT:z<T.length:=by have:=dc (gg:Int) (b:=(T.length:Int)) ω;omega
      obtain⟨id,hid⟩:∃id,T[z]=id:=⟨_,Y⟩
      have hidT:id∈I3 (cn A):=by rw[hT,<-hid];exact ae hzT
      refine Qm Y (Am (Bv hOT λh7 l7 hQT=>?_));have hRG:=hRG.up l7;have hRC:=hRC.up l7;have l17:=AI l15 (AI l6 l7);have cid:∀ms,Cell h7 ms ((AF rt).add (z*1)) (.w id):=λms=>by rw[<-hid];exact(hQT.any (ms:=ms)).cell0 hzT Y
      have cg:=λms=>(cg ms).le l7;refine Ap (Qm Y (Qf XW Y (Ql Y WG (s2 l17 _) (Qm Y (Qx (BG (i) hRG.rd.any Y WG el5 Y Y) Y (Ql Y U5 (cg _) (Qx (IB Y U5 U3 Y (Db ω)) Y (Qm Y (Qx (Av hQT.rd.any Y AP Y) Y (Qx (BJ Y Y Y ω ω) Y (Qx (BG (z) hQT.rd.any Y AP A3 Y Y) Y (Ql Y U3 (cid _) (Qm Y (BE (Cx [.slice none 0 0] Y A0 Y Y (λg7=>Am (BI ?_)))))))))))))))));refine A9 (λsl h' ms'=>∃(v7:Value) (m7:Hp) (O:List Ce),sl=[(1,.pt g1),(2,.pt g2),(3,.pt g3),(4,.w i),(7,.pt g7)]/\h7=h'/\ms'=[m7,A8 g7 29 [v7],A8 g3 29 [vC],A8 g2 29 [.slice none 0 0]]/\OwnL cC 3 52 m7 v7 O/\O.map Ce.c=(A.map Ce.c).filter (λx=>decide (x.id≠id))/\∀a∈O,RdL cD 2 h' [] a.v a.c.sd) ?_ (λs h ms hI=>?_)
      ·refine Ac (Ad (Qm Y (Am (Ag ?_))))
       refine Ax (λq sl h' ms'=>∃(j:Nat) (v7:Value) (m7:Hp) (O:List Ce),q=A.length-j/\sl=[(1,.pt g1),(2,.pt g2),(3,.pt g3),(4,.w i),(6,.w id),(7,.pt g7),(8,.w j)]/\h7=h'/\ms'=[m7,A8 g7 29 [v7],A8 g3 29 [vC],A8 g2 29 [.slice none 0 0]]/\j<=A.length/\OwnL cC 3 52 m7 v7 O/\O.map Ce.c=((A.take j).map Ce.c).filter (λx=>decide (x.id≠id))/\∀a∈O,RdL cD 2 h' [] a.v a.c.sd)
        (A.length-0) _ ⟨0,_,Hp.emp,[],rfl,rfl,rfl,rfl,ω,OwnL.nil CC,rfl,nofun⟩ Qs ?_
       rintro q sl h' ms' ⟨j,v7,m7,O,rfl,rfl,rfl,rfl,hj,hO7,hOc,hOs⟩
       have hOl:O.length<=80:=by have h1:=bf List.length hOc;rw[af]at h1;rw[h1];exact Nat.le_trans (List.length_filter_le _ _) (by rw[af,ao];omega)
       have ov7:=hO7.o1;refine Ac (Ap (Qm Y (Qf Cc Y (Ql Y Bi (Cell.blk 2 Y Y) (Qx (Av hRC.q.rd.any Y Bi Y) Y (Qm Y (Am ?_)))))));refine Ar Y (λhjl=>?_) (λhjl=>?_)
       ·have hjn:j<A.length:=ω
        obtain⟨x,hx⟩:∃x,A[j]=x:=⟨_,Y⟩
        have hX:=hRC.s x (by rw[<-hx];exact ae hjn);have oX:=hX.rd.one;have cx:∀ms,Cell h7 ms (((AF vC).add (j*3)).add 0) (.w x.c.id):=λms=>by rw[<-hx];exact(hRC.q.any (ms:=ms)).cell (j:=j) hjn (f:=0) Y
        have sx:∀ms,Seg h7 ms ((AF vC).add (j*3)) (cC x):=λms=>by rw[<-hx];exact(hRC.q.any (ms:=ms)).seg hjn
        have hsn:((A.take (j+1)).map Ce.c).filter (λx=>decide (x.id≠id))=((A.take j).map Ce.c).filter (λx=>decide (x.id≠id))++if x.c.id≠id then [x.c] else []:=by rw[am hjn,bg,List.filter_append,hx];congr 1;by_cases h:x.c.id=id<;>simp[filter_cons,h]
        refine Ah (Ab ?_);refine A9 (λsl h' ms'=>∃(v7:Value) (m7:Hp) (O:List Ce),sl=[(1,.pt g1),(2,.pt g2),(3,.pt g3),(4,.w i),(6,.w id),(7,.pt g7),(8,.w j)]/\h7=h'/\ms'=[m7,A8 g7 29 [v7],A8 g3 29 [vC],A8 g2 29 [.slice none 0 0]]/\OwnL cC 3 52 m7 v7 O/\O.map Ce.c=((A.take (j+1)).map Ce.c).filter (λx=>decide (x.id≠id))/\∀a∈O,RdL cD 2 h' [] a.v a.c.sd) ?_ (λs h ms hI=>?_)
        ·refine Ag (Ap (Qf Cc Y (Ql Y Bi (Cell.blk 2 Y Y) (Qm Y (Qx (BG (j) hRC.q.rd.any Y Bi AH Y Y) Y (Qf Bn Y (Ql Y U3 (cx _) (Qm Y (Qm Y (Am ?_))))))))));refine Ar Y (λhne=>?_) (λhne=>?_)
         ·refine BL (n:=11) (bs:=[true,false,true,false,true,false,false,false,false,true,false]) [true,false,true,false,true,false,false,false,false,true] CT κ κ Y Y (QF Cc Y (QF Cc Y (Qq Y (QF Cc Y ?_))));unfold FS;simp only[bh,av];refine Ba [1,3] κ Y ?_;refine AD Y ?_ ?_
          ·refine Ql Y Bi (Cell.blk 1 Y Y) (Qw (Qo 3 Y (Ql Y Bi (Cell.blk 2 Y Y) (Qw (BU 5 76 κ Y (Dv) Y (BG (j) hRC.q.rd.any Y Bi AH Y Y) (Qo 6 Y (Qx (oG Y Ef AH (sx _)) Y (Qw (Qo 7 Y (Aw [_,_,_] Y Bi AH Y (by rfl) Y Y ω Y Y Y (λg78=>Qw (Qo 8 Y ?_))))))))))));refine Bg 1 hO7 (RdL.one CC (x:=x) Mh Y) Y Bi AH Y ω Y Y Y (Dq (l:=[x]) (h:=h7) λy hy=>by rw[ak.1 hy];exact hX) (by(try simp only[ac]);omega) (by(try simp only[ac]);omega) rfl rfl rfl (λv9 m9 hO9=>?_);have ov9:=hO9.o1;refine Qw (Qo 10 Y ?_);refine AY 2 _ Y J8 Y Y (by assumption) Y Y (by(simp;done)) rfl rfl ?_;refine Qw (Qe (AR (Ai ?_)));exact AE _ ⟨v9,m9,O++[x],Y,Y,Y,hO9,by rw[hsn,ab hne,bg,hOc];rfl,RdC.snoc' hOs hX⟩ Qs
          refine AD Y ?_ ?_
          ·refine Ql Y Bi (Cell.blk 2 Y Y) (Qw (BU 5 76 κ Y (Dv) Y (BG (j) hRC.q.rd.any Y Bi AH Y Y) (Ba [1,6] κ Y ?_)));refine AD Y ?_ ?_
           ·refine Ql Y Bi (Cell.blk 1 Y Y) (Qw (Qo 6 Y (Qx (oG Y Ef AH (sx _)) Y (Qw (Qo 7 Y (Aw [_,_,_] Y Bi AH Y (by rfl) Y Y ω Y Y Y (λg78=>Qw (Qo 8 Y ?_))))))));refine Bg 1 hO7 (RdL.one CC (x:=x) Mh Y) Y Bi AH Y ω Y Y Y (Dq (l:=[x]) (h:=h7) λy hy=>by rw[ak.1 hy];exact hX) (by(try simp only[ac]);omega) (by(try simp only[ac]);omega) rfl rfl rfl (λv9 m9 hO9=>?_);have ov9:=hO9.o1;refine Qw (Qo 10 Y ?_);refine AY 2 _ Y J8 Y Y (by assumption) Y Y (by(simp;done)) rfl rfl ?_;refine Qw (Qe (AR (Ai ?_)));exact AE _ ⟨v9,m9,O++[x],Y,Y,Y,hO9,by rw[hsn,ab hne,bg,hOc];rfl,RdC.snoc' hOs hX⟩ Qs
           refine AD Y ?_ ?_
           ·refine Qx (oG Y Ef AH (sx _)) Y (Qw (Ba [1,7] κ Y ?_));refine AD Y ?_ ?_
            ·refine Ql Y Bi (Cell.blk 1 Y Y) (Qw (Qo 7 Y (Aw [_,_,_] Y Bi AH Y (by rfl) Y Y ω Y Y Y (λg78=>Qw (Qo 8 Y ?_)))));refine Bg 1 hO7 (RdL.one CC (x:=x) Mh Y) Y Bi AH Y ω Y Y Y (Dq (l:=[x]) (h:=h7) λy hy=>by rw[ak.1 hy];exact hX) (by(try simp only[ac]);omega) (by(try simp only[ac]);omega) rfl rfl rfl (λv9 m9 hO9=>?_);have ov9:=hO9.o1;refine Qw (Qo 10 Y ?_);refine AY 2 _ Y J8 Y Y (by assumption) Y Y (by(simp;done)) rfl rfl ?_;refine Qw (Qe (AR (Ai ?_)));exact AE _ ⟨v9,m9,O++[x],Y,Y,Y,hO9,by rw[hsn,ab hne,bg,hOc];rfl,RdC.snoc' hOs hX⟩ Qs
            refine AD Y ?_ ?_
            ·refine Aw [_,_,_] Y Bi AH Y (by rfl) Y Y ω Y Y Y (λg78=>Qw (Qo 1 Y (Ql Y Bi (Cell.blk 2 Y Y) (Qw (Qo 8 Y ?_)))));refine Bg 1 hO7 (RdL.one CC (x:=x) Mh Y) Y Bi AH Y ω Y Y Y (Dq (l:=[x]) (h:=h7) λy hy=>by rw[ak.1 hy];exact hX) (by(try simp only[ac]);omega) (by(try simp only[ac]);omega) rfl rfl rfl (λv9 m9 hO9=>?_);have ov9:=hO9.o1;refine Qw (Qo 10 Y ?_);refine AY 2 _ Y J8 Y Y (by assumption) Y Y (by(simp;done)) rfl rfl ?_;refine Qw (Qe (AR (Ai ?_)));exact AE _ ⟨v9,m9,O++[x],Y,Y,Y,hO9,by rw[hsn,ab hne,bg,hOc];rfl,RdC.snoc' hOs hX⟩ Qs
            exact Bb
           exact Bb
          exact Bb
         ·refine Ah (Ai ?_);exact AE _ ⟨v7,m7,O,Y,Y,Y,hO7,by rw[hsn,aa hne,List.append_nil];exact hOc,hOs⟩ Qs
        ·obtain⟨v7,m7,O,rfl,rfl,rfl,hO7,hOc,hOs⟩:=hI;refine Ad (Qm Y (Qx (oA Y) Y (Qm Y (Al ?_))));exact Ak (A.length-(j+1)) _ ω ⟨j+1,v7,m7,O,Y,Y,Y,Y,ω,hO7,hOc,hOs⟩ Qs
       ·obtain rfl:j=A.length:=ω
        refine Aq (Aa (Aa (Af ?_)));exact AE _ ⟨v7,m7,O,Y,Y,Y,hO7,by rw[hOc,ct],hOs⟩ Qs
      ·obtain⟨v7,m7,O,rfl,rfl,rfl,hO7,hOc,hOs⟩:=hI;have ov7:=hO7.o1;have hQ7:CxQ 900 (O.map Ce.c):=by rw[hOc];exact hQ.gone hidT
       refine Ad (Qx (oG Y CN A0 (Seg.blk 1 Y)) Y ?_);refine Sa 2 [_] A0 Y (by simp[oL_,oG_,oC,oT,ov7]) ?_;refine Al (Ai (Ab (Ad (Qm Y (Qx (oA Y) Y (Qm Y (Al (A4 1 Y (CM 1 Y ?_)))))))));exact Ak (6-(i+1)) _ ω ⟨i+1,v7,m7,O,Y,Y,AI l15 (AI l6 l7),Y,ω,hO7,hQ7,hOs⟩ Qs
     ·refine Aq (Aa (Aa (Af ?_)));exact AE _ ⟨vC,mC,A,Y,lh,Y,hOC,hQ,hAs⟩ Qs
    ·refine Qk Y (Qk Y (Qk Y (Qk Y (Qm Y (Am (AN Y (Aq (Aa (Aa (Af ?_))))))))));exact AE _ ⟨vC,mC,A,Y,lh,Y,hOC,hQ,hAs⟩ Qs
   ·refine Qk Y (Qk Y (Qm Y (Qm Y (Qk Y (Qk Y (Qk Y (Qk Y (Qm Y (Am (AN Y (Aq (Aa (Aa (Af ?_))))))))))))));exact AE _ ⟨vC,mC,A,Y,lh,Y,hOC,hQ,hAs⟩ Qs
  ·obtain⟨vC,mC,A,rfl,lh,rfl,hOC,hQ,hAs⟩:=hI;have hAn:=hQ.n;rw[af]at hAn;have oC:=hOC.o1;refine A9 (λsl h' ms'=>∃(vC:Value) (mC:Hp) (A:List Ce),sl=[(2,.pt g2),(3,.pt g3)]/\h1.le h'/\ms'=[A8 g3 29 [vC],mC,A8 g2 29 [.slice none 0 0]]/\OwnL cC 3 52 mC vC A/\CxQ 1000 (A.map Ce.c)/\∀a∈A,RdL cD 2 h' [] a.v a.c.sd) ?_ (λs h ms hI=>?_)
   ·refine Ac (Ad (Qf We Y (Ql Y U5 (s3 lh _) (Qx (BJ Y Y Y ω ω) Y (Qm Y (Qm Y ?_))))));refine AM (t:=86) Y (λhb3=>?_) (λhb3=>?_)
    ·refine Qg (oF Cc Y) Y (Qg (oL Y Bi (Cell.blk 0 Y Y)) Y (Qg (Er (hOC.rd (h:=h) (ms:=[A8 g3 29 [vC],mC,A8 g2 29 [.slice none 0 0]]) (.tail _ (.head _))).rd Y Bi Y) Y (Qg (Dp Y Y Y) Y (Qm Y (Am ?_)))));refine Ar Y (λh26=>?_) (λh26=>?_)
     ·refine Eh 1 Y (Bo λh5 l5 k5=>?_);have hRC:RdC h5 vC A:=⟨hOC.rdh (ms:=[]) k5,λa ha=>(hAs a ha).up l5⟩
      have l15:=AI lh l5;have hd4:(be:Int).tdiv 4=(be:Int)/4:=by rw[Int.tdiv_eq_ediv_of_nonneg ω]
      have hw4:IntKind.u8.wrap ((be:Int).tdiv 4)=(be:Int)/4:=by rw[hd4];simp only[IntKind.wrap,IntKind.bits,IntKind.signed];simp;omega
      obtain⟨z,hz⟩:∃z:Nat,(be:Int)/4%5=z:=⟨be/4%5,ω⟩
      have hz5:z<5:=ω
      refine BL (n:=9) (bs:=[false,true,true,true,true,true,false,false,false]) [false,true,true,true,true,true] CT κ κ Y Y (QF We Y (QL Y U5 (s3 l15 _) (Qp Y (Cy (NC Y Y Y (by decide)) (bf (Value.int .u8) hw4)) (Qp Y (IB Y U5 U3 Y (Db ω)) (Qp Y (BJ Y Y Y ω ω) ?_)))));unfold FS;simp only[bh,av];refine Ba [0,6] κ Y ?_;refine AD Y ?_ ?_
      ·refine Qx (oG Y CN A0 (Seg.blk 0 Y)) Y (Qw (Qo 6 Y ?_));refine Qc call45 Y (IM ((be:Int)/4%5) h5 (by unfold BS;omega)) (λrs h6 ms6 l6 hF=>?_);obtain⟨l6',mS,B,vB,rfl,rfl,hOB,hB,hBs⟩:=hF;refine A6 hOB λh7 l7 hRB=>?_;have l57:=AI l6' l7;have oB:=hRB.rd.one;refine Qa (Qo 7 Y (Qc call48 Y (Mw A B vC vB 900 (by decide) h7 (hRC.up l57) ⟨hRB,λa ha=>(hBs a ha).up l7⟩ ω (Ta hB ω) (λa ha=>hQ.ids ha) (λb hb=>Wr hB ω hb)) (λrb h8 ms8 l8 hF=>?_)));have l58:=AI l57 l8;obtain⟨l8',mD,D,vD,rfl,rfl,hOD,⟨m,hm0,hm1,hmA,hD⟩,hDs⟩:=hF;have oC:=And.intro oC (show vD.oneCell'=true from hOD.o1);refine Qa (Qo 8 Y ?_);refine Sa 1 [_] A0 Y (by simp[oL_,oG_,oC]) ?_;refine Qa (Qe (CM 1 Y ?_));exact AE _ ⟨vD,mD,D,Y,AI l15 (AI l57 l8'),Y,hOD,by rw[hD,hB,hz,Int.emod_eq_of_lt ω ω,bu];exact hQ.beside (by rw[af];omega) hm0 (λx hx=>by obtain⟨a,ha,rfl⟩:=ai.1 hx;exact hmA a ha) hm1 z hz5,hDs⟩ Qs
      refine AD Y ?_ ?_
      ·refine Qc call45 Y (IM ((be:Int)/4%5) h5 (by unfold BS;omega)) (λrs h6 ms6 l6 hF=>?_);obtain⟨l6',mS,B,vB,rfl,rfl,hOB,hB,hBs⟩:=hF;refine A6 hOB λh7 l7 hRB=>?_;have l57:=AI l6' l7;have oB:=hRB.rd.one;refine Qa (Qo 0 Y (Qx (oG Y CN A0 (Seg.blk 0 Y)) Y (Qa (Qo 7 Y (Qc call48 Y (Mw A B vC vB 900 (by decide) h7 (hRC.up l57) ⟨hRB,λa ha=>(hBs a ha).up l7⟩ ω (Ta hB ω) (λa ha=>hQ.ids ha) (λb hb=>Wr hB ω hb)) (λrb h8 ms8 l8 hF=>?_))))));have l58:=AI l57 l8;obtain⟨l8',mD,D,vD,rfl,rfl,hOD,⟨m,hm0,hm1,hmA,hD⟩,hDs⟩:=hF;have oC:=And.intro oC (show vD.oneCell'=true from hOD.o1);refine Qa (Qo 8 Y ?_);refine Sa 1 [_] A0 Y (by simp[oL_,oG_,oC]) ?_;refine Qa (Qe (CM 1 Y ?_));exact AE _ ⟨vD,mD,D,Y,AI l15 (AI l57 l8'),Y,hOD,by rw[hD,hB,hz,Int.emod_eq_of_lt ω ω,bu];exact hQ.beside (by rw[af];omega) hm0 (λx hx=>by obtain⟨a,ha,rfl⟩:=ai.1 hx;exact hmA a ha) hm1 z hz5,hDs⟩ Qs
      exact Bb
     ·refine Ah ?_;exact AE _ ⟨vC,mC,A,Y,lh,Y,hOC,hQ.up,hAs⟩ Qs
    ·refine Qk Y (Qk Y (Qk Y (Qk Y (Qm Y (Am (AN Y (Ah ?_)))))));exact AE _ ⟨vC,mC,A,Y,lh,Y,hOC,hQ.up,hAs⟩ Qs
   ·obtain⟨vC,mC,A,rfl,lh,rfl,hOC,hQ,hAs⟩:=hI;have oC:=hOC.o1;refine Ap (Qx (oG Y CN A0 (Seg.blk 0 Y)) Y ?_);refine Sa 2 [_] A0 Y (by simp[oL_,oG_,oC]) ?_;refine Am (An (AR ?_));exact Bx (vs:=[_]) 1 Y Y CN Y A0 Y Y (⟨AI l1 lh,mC,A,_,Y,Y,hOC,hQ,hAs⟩)
end Go.Proofs.Q

namespace Go.Proofs.Q
open Go.Proofs.Tryz
open Go.Eng Go.RowKit Go.Lin Go.Sort Go.Srt
theorem Zk{a:List Int}{va vb:Value}{h:Hp}(hA:RdL cI 1 h [] va a)(hB:RdL cI 1 h [] vb a)(ms:List Hp):FnV Tryz.prog 44 #[va,vb] h ms (.bool true):=by
 have:=Kn a a va vb h hA hB ms
 rwa [ag rfl]at this
theorem Xj{p:Int}{r c:Nat}{f:Nat->Nat->Int}{ev eu:Value}{h:Hp}(R:RtM p r c f)(hR:RdL cI 1 h [] ev (BN r c f))(hS:RdL cI 1 h [] eu (BN r c f))(ms:List Hp):FnV Tryz.prog 99 #[.agg #[.int .i64 p,.int .i64 r,.int .i64 c,ev],.agg #[.int .i64 p,.int .i64 r,.int .i64 c,eu]] h ms (.bool true):=by
 have:=WX R R hR hS ms
 rwa [ag rfl]at this
theorem WZ(l S:List Ce)(F:List (Int×Int))(R V:Nat->List Int)(v vf vo er ev:Value)(p:Int)(hp:Hp)(hK:RgC l)(hR:RdC hp v l)(hF:RdL cV 2 hp [] vf F)(hn:(F.map Prod.fst).Nodup)(hl:l.length<=400)(H:PerH p F l S R V)(hRo:RdL cI 1 hp [] vo (En S))(hRr:RdL cI 1 hp [] er (BN S.length S.length (Ga R)))(hRv:RdL cI 1 hp [] ev (BN S.length S.length (Ga V))):FnT Tryz.prog 38 #[.agg #[v],vf,.int .i64 p,vo,.agg #[.int .i64 p,.int .i64 S.length,.int .i64 S.length,er],.agg #[.int .i64 p,.int .i64 S.length,.int .i64 S.length,ev]] hp [] (λr _ _=>r=.bool true):=by
 have o1:=hR.q.rd.one;have o2:=hF.rd.one;have o3:=hRo.rd.one;have o4:=hRr.rd.one;have o5:=hRv.rd.one;have hP:=H.hp;have hSn:S.length<=400:=by have:=H.P.perm.length_eq;rw[af,C0]at this;omega
 refine Ao func38 ntmps38 Y Y (λw0 hw0=>?_);simp only[AX];refine Ap (AQ [_] Y Y (by rfl) Y Y Y (λg6=>AQ [_,_,_,_] Y Y (by rfl) Y Y Y (λg10=>AQ [_,_,_,_] Y Y (by rfl) Y Y Y (λg11=>Qm Y (Am (AA λh1 l1 hS11=>(AA λh2 l2 hS10=>(AA λh3 l3 hS6=>?_))))))));have l13:=AI l1 (AI l2 l3);have hR:=hR.up l13;have hF:=hF.up l13;refine Ap (Qx (oG Y CN A0 (Seg.any hS6)) Y (Qm Y (Qm Y (Qc call86 Y (JQ l F v vf p h3 hK hR hF hn H.mon hP hl) (λrm h4 ms4 l4 hQ=>?_)))));obtain⟨l4',S',H',em,mm,rfl,rfl,hOm⟩:=hQ;have hSS:S'.map Ce.c=S.map Ce.c:=SrtH.uniq (H.P.srtH H.G H.mon) H';have hlS:S'.length=S.length:=by have:=bf List.length hSS;simpa using this
 change OwnL cI 1 3 mm em (BN S'.length S'.length λi j=>(CZ p S' j).getD i 0) at hOm;rw[hlS,AS (g:=QO p S) λa _ b _=>by rw[L3 hSS];rfl]at hOm;rw[hlS];refine A6 hOm λh5 l5 hRm=>?_;have oem:=hRm.rd.one;refine Cx [.w 0,.w 0,.w 0,.slice none 0 0] Y A7 Y Y (λg13=>?_);refine Sa 0 [_,_,_,_] A7 Y (by simp[o1,o2,o3,o4,o5,oem]) ?_;refine Am (AA λh6 l6 hS13=>?_);have l36:=AI l4' (AI l5 l6);have l16:=AI l13 l36;have hR:=hR.up l36;have hF:=hF.up l36;have hRo:=hRo.up l16;have hRr:=hRr.up l16;have hRv:=hRv.up l16;have hRm:=hRm.up l6;have s6:∀h',h6.le h'->∀ms,Seg h' ms (⟨g6,0,none⟩:Addr) [v]:=λh' l' ms=>(hS6.le (AI l36 l')).any;have s10:∀h',h6.le h'->∀ms,Seg h' ms (⟨g10,0,none⟩:Addr) [.w p,.w S.length,.w S.length,er]:=λh' l' ms=>(hS10.le (AI l3 (AI l36 l'))).any;have s11:∀h',h6.le h'->∀ms,Seg h' ms (⟨g11,0,none⟩:Addr) [.w p,.w S.length,.w S.length,ev]:=λh' l' ms=>(hS11.le (AI l2 (AI l3 (AI l36 l')))).any;have c132:∀ms,Cell h6 ms (⟨g13,2,none⟩:Addr) (.w S.length):=λms=>Seg.all hS13 2 _ Y ms;refine Ap (Qf B6 Y (Ql Y U3 (c132 _) (Qm Y (BE (Qx (oG Y D8 A7 (s10 _ (Dv) _)) Y (Qx (AG Y call97 Y (Ow (H.rtR hSn) hRr _)) Y (Qm Y (BE (Qx (oG Y D8 A7 (s11 _ (Dv) _)) Y (Qx (AG Y call97 Y (Ow (H.rtV hSn) hRv _)) Y (Qm Y (Am (Ac (Ap (Qm Y (Qx (oG Y CN A0 (s6 _ (Dv) _)) Y (Qm Y (Qc call90 Y (Li l F v vf h6 hK hR hF hn H.mon hl) (λro h7 ms7 l7 hQ=>?_)))))))))))))))))));obtain⟨l7',S2,mo,H2,rfl,hOo⟩:=hQ;have hS2:En S2=En S:=SrtH.ids (H.P.srtH H.G H.mon) H2;rw[hS2]at hOo;refine A6 hOo λh8 l8 hRo2=>?_;have l68:=AI l7' l8;have oro:=hRo2.rd.one;have hRo:=hRo.up l68;have hRr:=hRr.up l68;have hRv:=hRv.up l68;have hRm:=hRm.up l68;have c110:∀ms,Cell h8 ms (⟨g11,0,none⟩:Addr) (.w p):=λms=>(Seg.all hS11 0 _ Y ms).le (AI l2 (AI l3 (AI l36 l68)));have c111:∀ms,Cell h8 ms (⟨g11,1,none⟩:Addr) (.w S.length):=λms=>(Seg.all hS11 1 _ Y ms).le (AI l2 (AI l3 (AI l36 l68)));have c112:∀ms,Cell h8 ms (⟨g11,2,none⟩:Addr) (.w S.length):=λms=>(Seg.all hS11 2 _ Y ms).le (AI l2 (AI l3 (AI l36 l68)));have s13:∀ms,Seg h8 ms (⟨g13,0,none⟩:Addr) [.w p,.w S.length,.w S.length,em]:=λms=>(hS13.le l68).any;refine Qx (AG Y call44 Y (Zk hRo hRo2 _)) Y (Qm Y (Qm Y (Qg (As Y Y) Y (Qg (Eo Y Y) Y (Qm Y (Qm Y (Qg (As Y Y) Y (Qg (Eo Y Y) Y (Qm Y (Qm Y (Qg (oF CW Y) Y (Qg (oL Y U3 (c110 _)) Y (Qg (As Y Y) Y (Qg (Cy (CI Y Y Y) (bf Value.bool (ah λe=>e Y))) Y (Qm Y (Qm Y (Qg (oF Dg Y) Y (Qg (oL Y U3 (c111 _)) Y (Qg (As Y Y) Y (Qg (Cy (CI Y Y Y) (bf Value.bool (ah λe=>e Y))) Y (Qm Y (Qm Y (Qg (oF B6 Y) Y (Qg (oL Y U3 (c112 _)) Y (Qg (As Y Y) Y (Qg (Cy (CI Y Y Y) (bf Value.bool (ah λe=>e Y))) Y (Qm Y (Am (AN Y (Ah (Ab (Ap (Qx (oG Y D8 A7 (s13 _)) Y (Qx (oG Y D8 A7 (s11 _ (by assumption) _)) Y (Qc call98 Y (Zn p S.length S.length S.length (QO p S) (Ga V) em ev h8 (H.rtD hSn) (H.rtV hSn) hRm hRv) (λrd h9 ms9 l9 hQ=>?_))))))))))))))))))))))))))))))))))));obtain⟨rfl,_,rfl,ew,mw,rfl,rfl,hOw⟩:=hQ;change OwnL cI 1 3 mw ew (BN S.length S.length (L8 p S.length (QO p S) (Ga V))) at hOw;rw[H.mulM]at hOw;refine A6 hOw λh10 l10 hRw=>?_;have oew:=hRw.rd.one;refine Qm Y (Qm Y (Qm Y (Cx [.w 0,.w 0,.w 0,.slice none 0 0] Y A7 Y Y (λg17=>?_))));refine Sa 0 [_,_,_,_] A7 Y (by simp[o1,o2,o3,o4,o5,oem,oro,oew]) ?_;refine Qm Y (Am (AA λh12 l12 hS17=>?_));have l812:=AI l10 l12;have l612:=AI l68 l812;have hRr:=hRr.up l812;have hRv:=hRv.up l812;have hRw:=hRw.up l12;have s17:∀ms,Seg h12 ms (⟨g17,0,none⟩:Addr) [.w p,.w S.length,.w S.length,ew]:=λms=>hS17.any;refine Ac (Ap (Qx (oG Y D8 A7 (s10 _ (by assumption) _)) Y (Qx (oG Y D8 A7 (s17 _)) Y (Qx (AG Y call99 Y (Xj (H.rtR hSn) hRr hRw _)) Y (Qm Y (Am (AN Y (Ah (Ab (Ac (Ap (Qm Y (Am (Ag ?_))))))))))))))
 have hls:∀k,k<S.length->∀ms,FnV Tryz.prog 88 #[.agg #[.w p,.w S.length,.w S.length,er],.w k] h12 ms (.w (AU (R k))):=λk hk ms=>by
  have:=KY p S.length (Ga R) er k h12 hRr hSn hk ms
  rwa [show(Fu S.length λa=>Ga R a k)=R k from K6 (H.lenR hk)]at this
 have e11:∀ms,Cell h12 ms (⟨g11,3,none⟩:Addr) ev:=λms=>(Seg.all hS11 3 _ Y ms).le (AI l2 (AI l3 (AI l36 l612)));have hnn:S.length*S.length<=160000:=by have:=dd hSn hSn;omega
 have hm2:(BN S.length S.length (Ga V)).length=S.length*S.length:=BK _ _ _;have cv:∀i j,i<S.length->j<S.length->∀ms,Cell h12 ms ((AF ev).add ((i*S.length+j)*1)) (.w (Ga V i j)):=λi j hi hj ms=>(hRv.any (ms:=ms)).ent hi hj;have hc1:∀i j:Nat,(((i*S.length+j:Nat)):Int)=(i:Int)*(S.length:Int)+j:=λi j=>by rw[Int.natCast_add,Int.natCast_mul]
 refine Ax (λq sl h' ms'=>∃(j:Nat),q=S.length-j/\sl=[(10,.pt g10),(11,.pt g11),(14,.w S.length),(19,.w j)]/\h12=h'/\ms'=[]/\j<=S.length)
  (S.length-0) _ ⟨0,rfl,rfl,rfl,rfl,ω⟩ Qs ?_
 rintro q sl h' ms' ⟨j,rfl,rfl,rfl,rfl,hj⟩;refine Ac (Ap (Qm Y (Qm Y (Qm Y (Am ?_)))));refine Ar Y (λhjl=>?_) (λhjl=>?_)
 ·have hjn:j<S.length:=ω
  refine Ah (Ab (Ac (Ag (Ac (Ap (Qm Y (Qx (oA Y) Y (Qm Y (Am (Ag ?_))))))))))
  refine Ax (λq sl h' ms'=>∃(i:Nat),q=S.length-i/\sl=[(10,.pt g10),(11,.pt g11),(14,.w S.length),(19,.w j),(20,.w i)]/\h12=h'/\ms'=[]/\j+1<=i/\i<=S.length)
   (S.length-(j+1)) _ ⟨j+1,rfl,rfl,rfl,rfl,ω,ω⟩ Qs ?_
  rintro q sl h' ms' ⟨i,rfl,rfl,rfl,rfl,hij,hi⟩;refine Ac (Ap (Qm Y (Qm Y (Qm Y (Am ?_)))));refine Ar Y (λhil=>?_) (λhil=>?_)
  ·have hin:i<S.length:=ω
   have hv0:Ga V i j=0:=H.aft_at hjn ω;have hix:=DO hin hjn;have hci:=hc1 i j;have hk0:0<=(i:Int)*(S.length:Int):=Int.mul_nonneg ω ω;refine Ah (Ab (Ac (Ag (Ac (A5 21 CT κ Y (Wf BH Y (Wl Y AP (e11 _) (Wm Y (Wm Y (AL (oM Y) Y Y (Wm Y (AL (oA Y) Y Y (AL (Az ((i*S.length+j)) hRv.rd.any Y AP A3 Y Y ω ω) Y Y (Wl Y U3 (cv i j hin hjn _) (AL (Cy (CI Y Y Y) (bf Value.bool (ah λe=>e hv0))) Y Y (Wm Y (AK (oG Y D8 A7 (s10 _ (by assumption) _)) Y Y Y Y (AK (As Y Y) Y Y Y Y (AK (AG Y call88 Y (hls i hin _)) Y Y Y Y (AK (Hd Y Y Y) Y Y Y Y (AK (As Y Y) Y Y Y Y ?_)))))))))))))))))))));refine Cp (t:=100) Y (λhge=>?_) (λhge=>?_)
   ·have hne:AU (R i)≠AU (R j):=λe=>by have:=H.uniq hin hjn ω e;omega
    refine AK (oG Y D8 A7 (s10 _ (by assumption) _)) Y Y Y Y (AK (As Y Y) Y Y Y Y (AK (AG Y call88 Y (hls i hin _)) Y Y Y Y (AK (oG Y D8 A7 (s10 _ (by assumption) _)) Y Y Y Y (AK (As Y Y) Y Y Y Y (AZ (Qg (AG Y call88 Y (hls j hjn _)) Y (Qg (Cy (CD Y Y Y) (bf Value.bool (ah hne))) Y (Qg (CE Y Y Y) Y (Qm Y (Am (AN Y (Ah (Ai (Ab (Ad (Qm Y (Qx (oA Y) Y (Qm Y (Al ?_)))))))))))))))))));exact Ak (S.length-(i+1)) _ ω ⟨i+1,Y,Y,Y,Y,ω,ω⟩ Qs
   ·refine Ay Y Y Y Y Y (Ay Y Y Y Y Y (Ay Y Y Y Y Y (Ay Y Y Y Y Y (Ay Y Y Y Y Y (AZ (Qk Y (Qk Y (Qg (B9 Y Y Y) Y (Qm Y (Am (AN Y (Ah (Ai (Ab (Ad (Qm Y (Qx (oA Y) Y (Qm Y (Al ?_)))))))))))))))))));exact Ak (S.length-(i+1)) _ ω ⟨i+1,Y,Y,Y,Y,ω,ω⟩ Qs
  ·have hix:=DO hjn hjn;have hci:=hc1 j j;have hk0:0<=(j:Int)*(S.length:Int):=Int.mul_nonneg ω ω;refine Aq (Aa (Aa (Af (Ab (Ap (Qf BH Y (Ql Y AP (e11 _) (Qm Y (Qm Y (Qx (oM Y) Y (Qm Y (Qx (oA Y) Y (Qx (Az ((j*S.length+j)) hRv.rd.any Y AP A3 Y Y ω ω) Y (Ql Y U3 (cv j j hjn hjn _) (Qx (Cy (CI Y Y Y) (bf Value.bool (ah λe=>e (H.one_at hjn)))) Y (Am (AN Y (Ah (Ai (Ab (Ad (Qm Y (Qx (oA Y) Y (Qm Y (Al ?_)))))))))))))))))))))))));exact Ak (S.length-(j+1)) _ ω ⟨j+1,Y,Y,Y,Y,ω⟩ Qs
 ·refine Aq (Aa (Aa (Af (Ab (Ap (Qm Y (Am (An ?_))))))));exact Au Y Y (Y)
def mq(R:Nat->List Int)(j k:Nat)(a b:Nat):Int:=if b<j then(R b).getD a 0 else if b=j/\a<k then(R b).getD a 0 else 0
theorem Zp(R:Nat->List Int)(a b:Nat):mq R 0 0 a b=0:=by unfold mq;rw[aa ω,aa ω]
theorem ZR(R:Nat->List Int){n j:Nat}(a b:Nat)(ha:a<n):mq R j n a b=mq R (j+1) 0 a b:=by
 unfold mq;rcases (ω:b<j\/b=j\/j<b) with h|rfl|h
 ·rw[ab h,ab ω]
 ·rw[aa ω,ab ⟨rfl,ha⟩,ab ω]
 ·rw[aa ω,aa ω,aa ω,aa ω]
theorem Zh(R:Nat->List Int)(j k a b:Nat):F2 (mq R j k) k j ((R j).getD k 0) a b=mq R j (k+1) a b:=by
 unfold F2 mq;by_cases h:a=k/\b=j
 ·obtain⟨rfl,rfl⟩:=h;rw[ab ⟨rfl,rfl⟩,aa ω,ab ω]
 ·rw[aa h];by_cases h1:b<j
  ·rw[ab h1,ab h1]
  ·rw[aa h1,aa h1];by_cases h2:b=j/\a<k
   ·rw[ab h2,ab ⟨h2.1,ω⟩]
   ·rw[aa h2,aa ω]
theorem R3(S:List Ce)(p:Int)(gm gA:Nat)(vc vr vv:Value)(la:List Int)(h:Hp)(hB:Seg h [] ⟨gm,0,none⟩ (EU p vc gA vr vv la))(hRS:RdL cC 3 h [] vc S)(hsd:∀a∈S,RdL cD 2 h [] a.v a.c.sd)(hn:S.length<=400):FnT Tryz.prog 72 #[.pointer (some ⟨gm,0,none⟩)] h [] (λr h' ms'=>h.le h'/\∃m,ms'=[m]/\OwnL cI 1 3 m r (En S)):=by
 have oc:=hRS.rd.one;have a1:∀ms,Cell h ms (⟨gm,1,none⟩:Addr) vc:=λms=>Seg.all hB 1 _ Y ms;refine Ao func72 ntmps72 Y Y (λw0 hw0=>?_);simp only[AX];refine Ap (Qm Y (BE (Qm Y (Am (Ac (Ap (Qm Y (Qm Y (Qf Fq Y (Ql Y Bi (a1 _) (Qx (Av hRS.rd.any Y Bi Y) Y (Qm Y (Am (Ag (BI ?_)))))))))))))))
 refine Ax (λq sl h' ms'=>∃(i:Nat) (vo:Value) (mo:Hp),q=S.length-i/\sl=[(3,vo),(9,vc),(10,.w S.length),(11,.w i)]/\h.le h'/\ms'=[mo]/\i<=S.length/\OwnL cI 1 3 mo vo (En (S.take i)))
  (S.length-0) _ ⟨0,_,Hp.emp,rfl,rfl,Dv,rfl,ω,OwnL.nil Bd⟩ Qs ?_
 rintro q sl h' ms' ⟨i,vo,mo,rfl,rfl,lh,rfl,hi,hO⟩;have ov:=hO.o1;have hRS:=hRS.up lh;refine Ap (Qm Y (Am (Ac ?_)));refine Ar Y (λhil=>?_) (λhil=>?_)
 ·have hiS:i<S.length:=ω
  obtain⟨x,hx⟩:∃x,S[i]=x:=⟨_,Y⟩
  have hX:=(hsd x (by rw[<-hx];exact ae hiS)).up lh;have ox:=hX.rd.one;have sx:∀ms,Seg h' ms ((AF vc).add (i*3)) (cC x):=λms=>by rw[<-hx];exact(hRS.any (ms:=ms)).seg hiS
  have hnx:En (S.take (i+1))=En (S.take i)++[x.c.id]:=by unfold En;rw[am hiS,bg,hx];rfl
  have hnl:(En (S.take i)).length<=4000:=by unfold En;rw[af,ao];omega
  refine Ah (Ab (Ac (Ag (Ap (Qx (BG (i) hRS.rd.any Y Bi AH Y Y) Y (Qx (oG Y Ef AH (sx _)) Y (Cx [.w 0,.w 0,.slice none 0 0] Y AH Y Y (λg5=>?_))))))));refine Sa 0 [_,_,_] AH Y (by simp[oc,ov,ox]) ?_;refine Am (AA λh3 l3 hS5=>?_);have e0:∀ms,Cell h3 ms (⟨g5,0,none⟩:Addr) (.w x.c.id):=λms=>Seg.all hS5 0 _ Y ms;refine Ad (Qm Y (Qf Bn Y (Ql Y U3 (e0 _) (Aw [_] Y AP A3 Y (by rfl) Y Y ω Y Y Y (λg18=>?_)))));refine AV 1 hO (OwnL.rd (OwnL.blk (g:=g18) (el:=3) (F:=cI) (l:=[x.c.id]) 1 Bd Y (by decide)) Mh) Y AP A3 Y ω Y Y Y B7 (by simp;omega) (by simp;omega) rfl rfl rfl (λv8 m8 hO8=>?_);rw[<-hnx]at hO8;refine Qm Y (Al (Ai (Ab (Ad (Qx (oA Y) Y (Qm Y (Al (A4 0 Y ?_))))))));exact Ak (S.length-(i+1)) _ ω ⟨i+1,v8,m8,Y,Y,AI lh l3,Y,ω,hO8⟩ Qs
 ·obtain rfl:i=S.length:=ω
  rw[ct]at hO;refine Aq (Aa (Aa (Af (Ab (Ap (Qm Y (Qm Y (Am (An ?_)))))))));exact Au Y Y (⟨lh,mo,Y,hO⟩)
theorem GQ(n:Nat)(p:Int)(gm:Nat)(vm:Value)(Rs:List Value)(R:Nat->List Int)(h:Hp)(a0:∀ms,Cell h ms (⟨gm,0,none⟩:Addr) (.int .i64 p))(hRs:RdL cU 1 h [] vm Rs)(hRl:Rs.length=n)(hn:n<=400)(hR:∀k,k<n->RdL cI 1 h [] (Rs.getD k undef) (R k))(hl:∀k,k<n->(R k).length=n):FnT Tryz.prog 73 #[.pointer (some ⟨gm,0,none⟩),vm] h [] (λr h' ms'=>h.le h'/\JX r ms' (Ja p n n λi j=>(R j).getD i 0)):=by
 have om:=hRs.rd.one;have hnn:n*n<=160000:=by have:=dd hn hn;omega
 subst hRl;refine Ao func73 ntmps73 Y Y (λw0 hw0=>?_);simp only[AX];refine Ap (Cx [.w 0,.w 0,.w 0,.slice none 0 0] Y A7 Y Y (λg4=>BE (Qm Y (Qx (Av hRs.rd.any Y Ck Y) Y (Qm Y (Am ?_))))));have hm0:0<=(Rs.length:Int)*(Rs.length:Int):=Int.mul_nonneg ω ω;have hm1:((Rs.length*Rs.length:Nat):Int)=(Rs.length:Int)*(Rs.length:Int):=Int.natCast_mul _ _;obtain⟨nn,hnn2⟩:∃nn,Rs.length*Rs.length=nn:=⟨_,Y⟩
 rw[hnn2]at hm1 hnn;refine A9 (λsl h' ms'=>∃g6 g22,sl=[(1,vm),(4,.pt g4),(5,.w Rs.length),(6,.pt g6)]/\h=h'/\ms'=[A8 g6 65 [.w p,.w Rs.length,.w Rs.length,.slice (some ⟨g22,0,none⟩) nn nn],A8 g22 3 (replicate nn (.w 0)),A8 g4 65 [.w 0,.w 0,.w 0,.slice none 0 0]]) ?_ (λs h ms hI=>?_)
 ·refine BL (n:=13) (bs:=[true,true,true,true,true,true,true,true,true,false,false,false,false]) [true,true,true,true,true,true,true,true,true] CT κ κ Y Y (Qq Y (Qq Y (QF HI Y (QL Y U3 (a0 _) (Qq Y (Qq Y (Qq Y (Qq Y (Qp Y (oM Y) ?_)))))))));unfold FS;simp only[bh,av];refine Ba [9,11] κ Y ?_;refine AD Y ?_ ?_
  ·refine CA (n:=nn) Y AP A3 Y Y Y ω ω ω ω Y Y Y (λg22=>Qw (BU 10 23 κ Y (Dv) Y (Be Rv [.w 0,.w 0,.w 0,.slice none 0 0] [(0,_),(1,_),(2,_),(3,_)] [_,_,_,_] Y A7 Y Y Qt Y) (Qo 11 Y (Cx [.w 0,.w 0,.w 0,.slice none 0 0] Y A7 Y Y (λg6=>Qw (Qo 12 Y ?_))))));refine Sa 0 [_,_,_,_] A7 Y (by simp[Value.oneCell']) ?_;refine Qw (Qe ?_);exact AE _ ⟨_,_,Y,Y,Y⟩ Qs
  refine AD Y ?_ ?_
  ·refine Cx [.w 0,.w 0,.w 0,.slice none 0 0] Y A7 Y Y (λg6=>Qw (Qo 9 Y (CA (n:=nn) Y AP A3 Y Y Y ω ω ω ω Y Y Y (λg22=>Qw (BU 10 23 κ Y (Dv) Y (Be Rv [.w 0,.w 0,.w 0,.slice none 0 0] [(0,_),(1,_),(2,_),(3,_)] [_,_,_,_] Y A7 Y Y Qt Y) (Qo 12 Y ?_))))));refine Sa 1 [_,_,_,_] A7 Y (by simp[Value.oneCell']) ?_;refine Qw (Qe ?_)
   (refine Yc ?_;exact AE _ ⟨_,_,Y,Y,Y⟩ Qs)
  exact Bb
 ·obtain⟨g6,g22,rfl,rfl,rfl⟩:=hI;refine AA λh3 l3 hS6=>?_;have hRs:=hRs.up l3;have hR:=λk hk=>(hR k hk).up l3;have e3:∀ms,Cell h3 ms (⟨g6,3,none⟩:Addr) (.slice (some ⟨g22,0,none⟩) nn nn):=λms=>Seg.all hS6 3 _ Y ms;have s6:∀ms,Seg h3 ms (⟨g6,0,none⟩:Addr) [.w p,.w Rs.length,.w Rs.length,.slice (some ⟨g22,0,none⟩) nn nn]:=λms=>hS6.any;have hO:OwnL cI 1 3 (A8 g22 3 (replicate nn (.w 0))) (.slice (some ⟨g22,0,none⟩) nn nn) (replicate nn 0):=OwnL.rep nn 0 ω;rw[<-hnn2,M7,AS (g:=mq R 0 0) (λa _ b _=>(Zp R a b).symm),hnn2]at hO;generalize hev:Value.slice (some ⟨g22,0,none⟩) nn nn=ev at *;generalize A8 g22 3 (replicate nn (.w 0))=me at *;have oe:=hO.o1;refine Ac (Ap (Qm Y (Qx (Av hRs.rd.any Y Ck Y) Y (Qm Y (Am (Ag ?_))))))
  refine Ax (λq sl h' ms'=>∃(j:Nat) (me:Hp),q=Rs.length-j/\sl=[(4,.pt g4),(5,.w Rs.length),(6,.pt g6),(24,vm),(25,.w Rs.length),(26,.w j)]/\h3=h'/\ms'=[me,A8 g4 65 [.w 0,.w 0,.w 0,.slice none 0 0]]/\j<=Rs.length/\OwnL cI 1 3 me ev (BN Rs.length Rs.length (mq R j 0)))
   (Rs.length-0) _ ⟨0,me,rfl,rfl,rfl,rfl,ω,hO⟩ Qs ?_
  rintro q sl h' ms' ⟨j,me,rfl,rfl,rfl,rfl,hj,hO⟩;refine Ap (Qm Y (Am (Ac ?_)));refine Ar Y (λhjl=>?_) (λhjl=>?_)
  ·have hjn:j<Rs.length:=ω
   have hRj:=hR j hjn;have lRj:=hl j hjn;have ej:Rs.getD j undef=Rs[j]:=by simp[List.getD,hjn]
   have oj:=hRj.rd.one;have cj:∀ms,Cell h3 ms ((AF vm).add (j*1)) (Rs.getD j undef):=λms=>by rw[ej];exact(hRs.any (ms:=ms)).cell0 hjn Y
   refine Ah (Ab (Ac (Ag (Ap (Qm Y (Qx (BG (j) hRs.rd.any Y Ck Cz Y Y) Y (Ql Y AP (cj _) (Qm Y (Qm Y (BE (Qm Y (Qx (Av hRj.rd.any Y AP Y) Y (Qm Y (Am (Ag ?_)))))))))))))))
   refine Ax (λq sl h' ms'=>∃(k:Nat) (me:Hp),q=(R j).length-k/\sl=[(4,.pt g4),(5,.w Rs.length),(6,.pt g6),(7,.w j),(24,vm),(25,.w Rs.length),(26,.w j),(31,Rs.getD j undef),(32,.w (R j).length),(33,.w k)]/\h3=h'/\ms'=[me,A8 g4 65 [.w 0,.w 0,.w 0,.slice none 0 0]]/\k<=(R j).length/\OwnL cI 1 3 me ev (BN Rs.length Rs.length (mq R j k)))
    ((R j).length-0) _ ⟨0,me,rfl,rfl,rfl,rfl,ω,hO⟩ Qs ?_
   rintro q sl h' ms' ⟨k,me,rfl,rfl,rfl,rfl,hk,hO⟩;have hO':=hO;refine Ap (Qm Y (Am (Ac ?_)));refine Ar Y (λhkl=>?_) (λhkl=>?_)
   ·have hkn:k<(R j).length:=ω
    have ck:∀ms,Cell h3 ms ((AF (Rs.getD j undef)).add (k*1)) (.w ((R j).getD k 0)):=λms=>by rw[show(R j).getD k 0=(R j)[k] by simp[List.getD,hkn]];exact(hRj.any (ms:=ms)).cell0 hkn Y
    have hix:=DO (show k<Rs.length by omega) hjn;have hml:(BN Rs.length Rs.length (mq R j k)).length=nn:=by rw[BK,hnn2]
    have hc1:(((k*Rs.length+j:Nat)):Int)=(k:Int)*(Rs.length:Int)+j:=by rw[Int.natCast_add,Int.natCast_mul]
    have hk0:0<=(k:Int)*(Rs.length:Int):=Int.mul_nonneg ω ω;rw[hnn2]at hix;refine Ah (Ab (Ac (Ag (Ap (Qm Y (Qx (BG (k) hRj.rd.any Y AP A3 Y Y) Y (Ql Y U3 (ck _) (Qm Y (Qm Y (Gu (Qf BH Y (Ql Y AP (e3 _) (Qm Y (Qm Y (Qx (oM Y) Y (Qm Y (Qx (oA Y) Y (Qm Y (Qx (Az ((k*Rs.length+j)) (hO'.rd (h:=h3) (ms:=[me,A8 g4 65 [.w 0,.w 0,.w 0,.slice none 0 0]]) Mh).rd Y AP A3 Y Y ω ω) Y (B8 (F:=cI) (f:=λx=>.w x) (a:=(R j).getD k 0) 0 (k*Rs.length+j) (λ_=>rfl) hO Y A3 Y Y Y Y ω Y Y (λm2 hO2=>?_)))))))))))))))))))));rw[Fk _ hjn,AS (g:=mq R j (k+1)) (λa _ b _=>Zh R j k a b)]at hO2;refine Al (Ai (Ab (Ad (Qx (oA Y) Y (Qm Y (Al ?_))))));exact Ak ((R j).length-(k+1)) _ ω ⟨k+1,m2,Y,Y,Y,Y,ω,hO2⟩ Qs
   ·have hke:k=Rs.length:=ω
    rw[hke,AS (g:=mq R (j+1) 0) (λa ha b _=>ZR R a b ha)]at hO;refine Aq (Aa (Aa (Af (Ai (Ab (Ad (Qx (oA Y) Y (Qm Y (Al ?_)))))))));exact Ak (Rs.length-(j+1)) _ ω ⟨j+1,me,Y,Y,Y,Y,ω,hO⟩ Qs
  ·have hje:j=Rs.length:=ω
   rw[hje,AS (g:=λi j=>(R j).getD i 0) (λa _ b hb=>by unfold mq;rw[ab hb])]at hO;refine Aq (Aa (Aa (Af (Ab (Ap (Qx (oG Y D8 A7 (s6 _)) Y ?_))))));refine Sa 1 [_,_,_,_] A7 Y (by simp[om,oe]) ?_;refine Am (An ?_);exact Bx (vs:=[_,_,_,_]) 1 Y Y D8 Y A7 Y Y (⟨l3,ev,me,Y,Y,hO⟩)
end Go.Proofs.Q
