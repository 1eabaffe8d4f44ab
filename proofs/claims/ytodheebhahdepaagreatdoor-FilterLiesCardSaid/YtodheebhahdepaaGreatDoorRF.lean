/- A part of the proof. -/
import Derived.Test.YtodheebhahdepaaGreatDoorRE
set_option linter.unusedSimpArgs false
set_option linter.unusedVariables false
set_option linter.unusedSectionVars false
set_option maxRecDepth 100000
set_option maxHeartbeats 4000000

open List (length_map length_singleton getElem_mem replicate range length_append nil_append length_take mem_cons cons_append map_append pairwise_cons take_succ_eq_append_getElem append_nil map_map map_cons take_length getElem_map length_range take_zero length_replicate sum_cons not_mem_nil)
namespace Go.Proofs.Q
open Go.Proofs.Tryz
open Go.Eng Go.RowKit
section
open Go.Lin Go.Sort Go.Srt
def Dp(L:List Int):Nat->List (Int×Int)
 | 0=>[]
 | j+1=>if 0<=L.getD j 0 then Dq (Dp L j) (L.getD j 0) (j:Int) else Dp L j
theorem G0{L:List Int}{i x:Int}:∀{n:Nat},Bz (Dp L n) i=some x->∃j:Nat,j<n/\x=j/\L.getD j 0=i/\0<=i
 | 0,h=>by simp[Dp,Bz]at h
 | n+1,h=>by
  unfold Dp at h;split at h
  ·rename_i h0;rw[Di]at h;split at h
   ·rename_i e;cases h;exact⟨n,ω,Y,e.symm,by rw[e];exact h0⟩
   ·obtain⟨j,h1,h2⟩:=G0 h;exact⟨j,ω,h2⟩
  ·obtain⟨j,h1,h2⟩:=G0 h;exact⟨j,ω,h2⟩
theorem Iw{L:List Int}{i:Int}:∀{n:Nat},Bz (Dp L n) i=none->∀j,j<n->0<=i->L.getD j 0≠i
 | 0,h,j,hj,_=>ω
 | n+1,h,j,hj,h0=>by
  unfold Dp at h;split at h
  ·rw[Di]at h;split at h
   ·cases h
   ·rename_i e;rcases (ω:j<n\/j=n) with h1|rfl
    ·exact Iw h j h1 h0
    ·exact λq=>e q.symm
  ·rename_i hn;rcases (ω:j<n\/j=n) with h1|rfl
   ·exact Iw h j h1 h0
   ·omega
def GV(f:Int->Int)(S:List Ce)(L:List Int)(i:Nat):List Br:=
 match Bz (Dp L L.length) (i:Int) with
 | some j=>if f (S.getD i default).c.id<f (S.getD j.toNat default).c.id then [⟨(S.getD i default).c.dim,f (S.getD i default).c.id,f (S.getD j.toNat default).c.id,false,(S.getD i default).c.id,(S.getD j.toNat default).c.id⟩] else []
 | none=>if L.getD i 0<0 then [⟨(S.getD i default).c.dim,f (S.getD i default).c.id,0,true,(S.getD i default).c.id,0⟩] else []
def Do(f:Int->Int)(S:List Ce)(L:List Int)(n:Nat):List Br:=(range n).flatMap (GV f S L)
theorem Ej(f:Int->Int)(S:List Ce)(L:List Int)(n:Nat):Do f S L (n+1)=Do f S L n++GV f S L n:=by unfold Do;rw[List.range_succ,fg];simp
theorem Aai(f:Int->Int)(S:List Ce)(L:List Int)(i:Nat):(GV f S L i).length<=1:=by unfold GV;split<;>split<;>simp
theorem Jc(f:Int->Int)(S:List Ce)(L:List Int):∀n,(Do f S L n).length<=n
 | 0=>by simp[Do]
 | n+1=>by rw[Ej,ag];have:=Jc f S L n;have:=Aai f S L n;omega
theorem SA(S:List Ce)(F:List (Int×Int))(L:List Int)(p:Int)(gm:Nat)(vl:Value)(hp:Hp)(hX:∃(gA:Nat) (mA:Hp) (bs:List Nat) (vc vr vv:Value) (la:List Int),Seg hp [] ⟨gm,0,none⟩ (EI p vc gA vr vv la)/\C4 kN kN gA BS mA (Bn F) bs/\mA.le hp/\RdL cC 3 hp [] vc S)(sds:∀a∈S,RdL cD 2 hp [] a.v a.c.sd)(hL:RdL cI 1 hp [] vl L)(hn:S.length<=400)(hLn:L.length=S.length)(hLl:∀x∈L,x<S.length)(hi:∀a∈S,BS a.c.id)(hI:∀c,BS (CN (Bn F) c)):FnT Tryz.prog 52 #[.pointer (some ⟨gm,0,none⟩),vl] hp [] (λr h' ms'=>hp.le h'/\∃mb,ms'=[mb]/\OwnL IJ 6 43 mb r (Do (CN (Bn F)) S L S.length)):=by
 obtain⟨gA,mA,bs,vc,vr,vv,la,hS,hO,lA,hQ⟩:=hX;have ol:=hL.rd.one;have oc:=hQ.rd.one;refine Au func52 ntmps52 Y Y (λw0 hw0=>?_);simp only[A6];refine Aq (Qm Y (BM (Dh (K:=kN) (V:=kN) (Ok:=BS) Y Y Y Y (λgE mE hE0=>Qm Y (Am ?_)))));refine Bg (λsl h' ms'=>∃(mE:Hp) (bs:List Nat),sl=[(0,.pt gm),(1,vl),(5,.map (some gE))]/\hp=h'/\ms'=[mE]/\C4 kN kN gE BS mE (Dp L L.length) bs) ?_ (λs h ms hI=>?_)
 ·refine Ac (Ab (Qm Y (Qx (As hL.rd.any Y AN Y) Y (Qm Y (Am (Ag ?_))))))
  refine Ay (λq sl h' ms'=>∃(j:Nat) (mE:Hp) (bs:List Nat),q=L.length-j/\sl=[(0,.pt gm),(1,vl),(5,.map (some gE)),(15,vl),(16,.w L.length),(17,.w j)]/\hp=h'/\ms'=[mE]/\j<=L.length/\C4 kN kN gE BS mE (Dp L j) bs)
   (L.length-0) _ ⟨0,mE,[],rfl,rfl,rfl,rfl,ω,hE0⟩ Qs ?_
  rintro q sl h' ms' ⟨j,mE,bs,rfl,rfl,rfl,rfl,hj,hE⟩;refine Aq (Qm Y (Am (Ac ?_)));refine Ao Y (λhlt=>?_) (λhlt=>?_)
  ·have hjl:j<L.length:=ω
   have cL:∀ms,Cell hp ms ((AG vl).add (j*1)) (.w (L.getD j 0)):=λms=>by rw[show L.getD j 0=L[j] by simp[List.getD,hjl]];exact(hL.any (ms:=ms)).cell0 hjl Y
   have hLb:=hLl _ (ae hjl);rw[show L[j]=L.getD j 0 by simp[List.getD,hjl]]at hLb;refine Ah (Ad (Ac (Ag (Aq (Qm Y (Qx (BN (j) hL.rd.any Y AN A0 Y Y) Y (Ql Y U3 (cL _) (Qm Y (Qm Y (BM (Qm Y (Qm Y (Am ?_)))))))))))));refine Ao Y (λh0=>?_) (λh0=>?_)
   ·have hs:Dp L (j+1)=Dq (Dp L j) (L.getD j 0) (j:Int):=by show(if 0<=L.getD j 0 then _ else _)=_;rw[ac h0]
    refine Ab (Qm Y (Qm Y (Qm Y ?_)));refine B4 (V:=kN) (z:=undef) 0 (L.getD j 0) (j:Int) BA hE Y Y Mu Y Y Y (by unfold BS;omega) Y Y (λmE' bs' hE'=>?_);rw[<-hs]at hE';refine Ak (Ai (Ad (Ab (Qx (oA Y) Y (Qm Y (Ak ?_))))));exact Al (L.length-(j+1)) _ ω ⟨j+1,mE',bs',Y,Y,Y,Y,ω,hE'⟩ Qs
   ·have hs:Dp L (j+1)=Dp L j:=by show(if 0<=L.getD j 0 then _ else _)=_;rw[aa h0]
    rw[<-hs]at hE;refine Ah (Ai (Ad (Ab (Qx (oA Y) Y (Qm Y (Ak ?_))))));exact Al (L.length-(j+1)) _ ω ⟨j+1,mE,bs,Y,Y,Y,Y,ω,hE⟩ Qs
  ·obtain rfl:j=L.length:=ω
   refine Av (Aa (Aa (Af ?_)));exact Az _ ⟨mE,bs,Y,Y,Y,hE⟩ Qs
 ·obtain⟨mE,bsE,rfl,rfl,rfl,hE⟩:=hI;refine Bx λh1 l1 lE=>?_;have hS:=hS.le l1;have hQ:=hQ.up l1;have hL:=hL.up l1;have lA:=AE lA l1;have e1:∀ms,Cell h1 ms (⟨gm,1,none⟩:Addr) vc:=λms=>Seg.all hS 1 _ Y ms;refine BT (Aq (Qm Y (Am (Ac (Aq (Qm Y (Qm Y (Qf Fx Y (Ql Y Bm (e1 _) (Qx (As hQ.rd.any Y Bm Y) Y (Qm Y (Am (Ag ?_)))))))))))))
  refine Ay (λq sl h' ms'=>∃(i:Nat) (vb:Value) (mb:Hp),q=S.length-i/\sl=[(0,.pt gm),(1,vl),(5,.map (some gE)),(8,vb),(31,vc),(32,.w S.length),(33,.w i)]/\h1.le h'/\ms'=[mb]/\i<=S.length/\OwnL IJ 6 43 mb vb (Do (CN (Bn F)) S L i))
   (S.length-0) _ ⟨0,_,Hp.emp,rfl,rfl,Da,rfl,ω,OwnL.nil GI⟩ Qs ?_
  rintro q sl h2 ms' ⟨i,vb,mb,rfl,rfl,l2,rfl,hi',hB⟩;have hS:=hS.le l2;have hQ:=hQ.up l2;have hL:=hL.up l2;have lA:=AE lA l2;have lE:=AE lE l2;have ovb:=hB.o1;refine Aq (Qm Y (Am (Ac ?_)));refine Ao Y (λhlt=>?_) (λhlt=>?_)
  ·have hil:i<S.length:=ω
   obtain⟨x,hx⟩:∃x,S[i]=x:=⟨_,Y⟩
   have hxm:x∈S:=by rw[<-hx];exact ae hil
   have hgx:S.getD i default=x:=by simp[List.getD,hil,hx]
   have hxI:=hi x hxm;have oxv:=(sds x hxm).rd.one;have hsx:∀ms,Seg h2 ms ((AG vc).add (i*3)) (cC x):=λms=>by rw[<-hx];exact(hQ.any (ms:=ms)).seg hil
   refine Ah (Ad (Ac (Ag (Aq (Qm Y (Qx (BN (i) hQ.rd.any Y Bm AI Y Y) Y (Qx (oG Y Ey AI (hsx _)) Y (Cx [.w 0,.w 0,.nl] Y AI Y Y (λg10=>Qm Y ?_)))))))));refine Sa 0 [_,_,_] AI Y (by simp[ol,oc,oxv,ovb]) ?_;refine Am (Ax λh3 l3 hS10=>?_);have e100:∀ms,Cell h3 ms (⟨g10,0,none⟩:Addr) (.w x.c.id):=λms=>Seg.all hS10 0 _ Y ms;have e101:∀ms,Cell h3 ms (⟨g10,1,none⟩:Addr) (.w x.c.dim):=λms=>Seg.all hS10 1 _ Y ms;have hS3:=hS.le l3;have a1:∀ms,Cell h3 ms (⟨gm,1,none⟩:Addr) vc:=λms=>Seg.all hS3 1 _ Y ms;have a2:∀ms,Cell h3 ms (⟨gm,2,none⟩:Addr) (.map (some gA)):=λms=>Seg.all hS3 2 _ Y ms;have hfx:(Bz (Bn F) x.c.id).getD 0=CN (Bn F) x.c.id:=rfl;obtain⟨f,hf⟩:∃f,CN (Bn F)=f:=⟨_,Y⟩
   rw[hf]at hfx hB;have hBl:=Jc f S L i;obtain⟨bb,hbb⟩:∃bb,(Bz (Dp L L.length) (i:Int)).isSome=bb:=⟨_,Y⟩
   obtain⟨u,hu⟩:∃u,(Bz (Dp L L.length) (i:Int)).getD 0=u:=⟨_,Y⟩
   refine Ac (Bc 13 CT κ Y (Wf BZ Y (Wl Y U3 (e101 _) (Wm Y (Wm Y (Wf KV Y (Wl Y Mu (a2 _) (Wf Bq Y (Wl Y U3 (e100 _) (AM (show OX _ _ _ _ _ (.w (f x.c.id)) from Cy (V:=kN) (z:=(0:Int)) (u:=f x.c.id) x.c.id hfx BA hO (AE lA l3) Y Mu Ij Y Y hxI) Y Y (Wf Bq Y (Wl Y U3 (e100 _) (AM (Bb Wd [.w 0,.w 0,.w 0,.bool false,.w 0,.w 0] [(0,_),(1,_),(4,_)] [_,_,_,_,_,_] Y D6 Y Y Qt Y) Y Y (Ug (Ka [.w 0,.w 0,.w 0,.bool false,.w 0,.w 0] Y D6 Y) Y Y (HZ (λg11=>?_))))))))))))))));refine Sa 0 [_,_,_,_,_,_] D6 Y (by simp[Value.oneCell']) ?_;refine BM (Qm Y (Qm Y ?_));refine Qx (Fz (V:=kN) (z:=(0:Int)) (i:Int) hu hbb BA hE (AE lE l3) Y Mu Ij Y Y (by unfold BS;omega)) Y ?_;refine Qm Y (Qm Y (Qm Y (Qm Y (Qm Y (Am (Ac (Ag (Aq (Qm Y (Qm Y (Am ?_)))))))))));refine BG Y (λhb=>?_) (λhb=>?_)
   ·obtain⟨j,hj⟩:∃j,Bz (Dp L L.length) (i:Int)=some j:=by rw[hb]at hbb;exact Option.isSome_iff_exists.1 hbb
    obtain⟨jn,hjn,rfl,hjL,_⟩:=G0 hj;rw[hj]at hu;obtain rfl:(jn:Int)=u:=hu;have hjS:jn<S.length:=ω
    obtain⟨y,hy⟩:∃y,S[jn]=y:=⟨_,Y⟩
    have hym:y∈S:=by rw[<-hy];exact ae hjS
    have hgy:S.getD jn default=y:=by simp[List.getD,hjS,hy]
    have hyI:=hi y hym
    have cy:∀ms,Cell h3 ms (((AG vc).add (jn*3)).add 0) (.w y.c.id):=λms=>by
     have:Seg h3 ms ((AG vc).add (jn*3)) (cC y):=by rw[<-hy];exact((hQ.up l3).any (ms:=ms)).seg hjS
     exact this 0 _ Y
    have hfy:(Bz (Bn F) y.c.id).getD 0=f y.c.id:=by rw[<-hf];rfl
    have hbar:GV f S L i=if f x.c.id<f y.c.id then [⟨x.c.dim,f x.c.id,f y.c.id,false,x.c.id,y.c.id⟩] else []:=by unfold GV;rw[hj];simp only[de,hgx,hgy]
    have hQ3:=hQ.up l3;refine Aq (Qm Y (Qm Y (Qf Fx Y (Ql Y Bm (a1 _) (Qm Y (Qx (BN (jn) hQ3.rd.any Y Bm AI Y Y) Y (Qf Bq Y (Ql Y U3 (cy _) (Qf OH Y ?_)))))))));refine AO 0 _ Y A0 Y Y (by rfl) Y Y (by(simp;done)) rfl rfl ?_;refine Am (Bc 6 CT κ Y (Wm Y (Wm Y (Wf KV Y (Wl Y Mu (a2 _) (Wf OH Y (Wl Y U3 (Cell.blk 0 Y Y) (A7 (Qx (show OX _ _ _ _ _ (.w (f y.c.id)) from Cy (V:=kN) (z:=(0:Int)) (u:=f y.c.id) y.c.id hfy BA hO (AE lA l3) Y Mu Ij Y Y hyI) Y (Qf JP Y ?_))))))))));refine AO 0 _ Y A0 Y Y (by rfl) Y Y (by(simp;done)) rfl rfl ?_;refine Ak (Ai (Ad (Aq (Qf Lu Y (Ql Y U4 (Cell.blk 0 Y Y) (Qm Y (Qg (oF W6 Y) Y (Qg (oL Y U3 (Cell.blk 0 Y Y)) Y (Qg (oF JP Y) Y (Qg (oL Y U3 (Cell.blk 0 Y Y)) Y (Qg (DA Y Y Y) Y (Qm Y (Am ?_)))))))))))));refine Ao Y (λhbd=>?_) (λhbd=>?_)
    ·refine Ab (Qm Y (Qx (oG Y U43 D6 (Seg.blk 0 Y)) Y (Aw [_,_,_,_,_,_] Y Ku D6 Y (by rfl) Y Y ω Y Y Y (λg93=>?_))));refine AU 2 hB (RdL.one GI (x:=⟨x.c.dim,f x.c.id,f y.c.id,false,x.c.id,y.c.id⟩) Mh Y) Y Ku D6 Y ω Y Y Y KG (by simp;omega) (by simp;omega) rfl rfl rfl (λvb2 mb2 hB2=>?_);refine Qm Y (Ak (Ai (Ad (Ab (Qx (oA Y) Y (Qm Y (Ak (AX (AX ?_)))))))));exact Al (S.length-(i+1)) _ ω ⟨i+1,vb2,mb2,Y,Y,AE l2 l3,Y,ω,by rw[hf,Ej,hbar,ac hbd];exact hB2⟩ Qs
    ·refine Ah (Ai (Ad (Ab (Qx (oA Y) Y (Qm Y (Ak (AX ?_)))))));exact Al (S.length-(i+1)) _ ω ⟨i+1,vb,mb,Y,Y,AE l2 l3,Y,ω,by rw[hf,Ej,hbar,aa hbd,eo];exact hB⟩ Qs
   ·have hj:Bz (Dp L L.length) (i:Int)=none:=by
     rw[hb]at hbb;cases h:Bz (Dp L L.length) (i:Int) with
     | none=>rfl
     | some j=>rw[h]at hbb;cases hbb
    have hil2:i<L.length:=ω
    have hL3:=hL.up l3;have cL:∀ms,Cell h3 ms ((AG vl).add (i*1)) (.w (L.getD i 0)):=λms=>by rw[show L.getD i 0=L[i] by simp[List.getD,hil2]];exact(hL3.any (ms:=ms)).cell0 hil2 Y
    have hbar:GV f S L i=if L.getD i 0<0 then [⟨x.c.dim,f x.c.id,0,true,x.c.id,0⟩] else []:=by unfold GV;rw[hj];simp only[hgx]
    refine Aq (Qm Y (Qm Y (Qx (BN (i) hL3.rd.any Y AN A0 Y Y) Y (Ql Y U3 (cL _) (Qm Y (Qm Y (Am ?_)))))));refine Ao Y (λhneg=>?_) (λhneg=>?_)
    ·refine Ab (Qf Lu Y ?_);refine AO 0 _ Y Xe Y Y (by rfl) Y Y (by(simp;done)) rfl rfl ?_;refine Ak (Ai (Ad (Aq (Qf Lu Y (Ql Y U4 (Cell.blk 0 Y Y) (Qm Y (Qk Y (Qk Y (Qk Y (Qk Y (Qk Y (Qm Y (Am (A5 Y (Ab (Qm Y (Qx (oG Y U43 D6 (Seg.blk 0 Y)) Y (Aw [_,_,_,_,_,_] Y Ku D6 Y (by rfl) Y Y ω Y Y Y (λg93=>?_)))))))))))))))))));refine AU 2 hB (RdL.one GI (x:=⟨x.c.dim,f x.c.id,0,true,x.c.id,0⟩) Mh Y) Y Ku D6 Y ω Y Y Y KG (by simp;omega) (by simp;omega) rfl rfl rfl (λvb2 mb2 hB2=>?_);refine Qm Y (Ak (Ai (Ad (Ab (Qx (oA Y) Y (Qm Y (Ak (AX (AX ?_)))))))));exact Al (S.length-(i+1)) _ ω ⟨i+1,vb2,mb2,Y,Y,AE l2 l3,Y,ω,by rw[hf,Ej,hbar,ac hneg];exact hB2⟩ Qs
    ·refine Av (EE Y (Aa (Af (Ad (Ab (Qx (oA Y) Y (Qm Y (Ak (AX ?_)))))))));exact Al (S.length-(i+1)) _ ω ⟨i+1,vb,mb,Y,Y,AE l2 l3,Y,ω,by rw[hf,Ej,hbar,aa hneg,eo];exact hB⟩ Qs
  ·obtain rfl:i=S.length:=ω
   refine Av (Aa (Aa (Af (Ad (Aq (Qm Y (Qm Y (Am (An ?_)))))))));exact Ap Y Y (⟨AE l1 l2,mb,Y,hB⟩)
variable {p:Int} {F:List (Int×Int)} {l S:List Ce} {R V:Nat->List Int}
structure PersF(p:Int)(F:List (Int×Int))(l S:List Ce)(R V:Nat->List Int):Prop where
 perm:(S.map Ce.c).Perm (cn l)
 srt:Ma (CN (Bn F)) S
 all:∃la,AllC p S S.length S.length R V la
noncomputable def DD(S:List Ce)(R:Nat->List Int):List Int:=(range S.length).map λk=>AR (R k)
theorem Ji(S:List Ce)(R:Nat->List Int):(DD S R).length=S.length:=by unfold DD;simp
theorem Je(S:List Ce)(R:Nat->List Int){k:Nat}(h:k<S.length):(DD S R).getD k 0=AR (R k):=by unfold DD;simp[List.getD,h]
theorem RedM.box{gm:Nat}{h:Hp}(M:RedM p F l S R V gm h):∃(gA:Nat) (mA:Hp) (bs:List Nat) (vc vr vv:Value) (la:List Int),Seg h [] ⟨gm,0,none⟩ (EI p vc gA vr vv la)/\C4 kN kN gA BS mA (Bn F) bs/\mA.le h/\RdL cC 3 h [] vc S:=by obtain⟨gA,mA,bs,vc,vr,vv,Rs,Vs,la,a,b,c,d,_⟩:=M.ex;exact⟨gA,mA,bs,vc,vr,vv,la,a,b,c,d⟩
theorem RedM.pers{gm:Nat}{h:Hp}(M:RedM p F l S R V gm h):PersF p F l S R V:=by obtain⟨gA,mA,bs,vc,vr,vv,Rs,Vs,la,_,_,_,_,_,_,_,_,_,_,A⟩:=M.ex;exact⟨M.perm,M.srt,la,A⟩
theorem PersF.lt(P:PersF p F l S R V):∀x∈DD S R,x<S.length:=λx hx=>by obtain⟨la,A⟩:=P.all;unfold DD at hx;obtain⟨k,hk,rfl⟩:=ad.1 hx;have h1:=(Dv (R k)).2;rw[A.red.rl k (bi.1 hk)]at h1;exact h1
theorem RQ(l:List Ce)(F:List (Int×Int))(v vf:Value)(p:Int)(hp:Hp)(hK:RgC l)(hR:RdC hp v l)(hF:RdL cV 2 hp [] vf F)(hV:Ir F)(hI:∀c,BS (CN (Bn F) c))(h0:DN (cn l) F=(0,0))(hP:IsP p)(hl:l.length<=400):FnT Tryz.prog 15 #[.agg #[v],vf,.int .i64 p] hp [] (λr h' ms'=>hp.le h'/\∃(S:List Ce) (R V:Nat->List Int) (vb:Value) (mb:Hp),r=.tuple #[vb,.int .i64 0]/\ms'=[mb]/\OwnL IJ 6 43 mb vb (Do (CN (Bn F)) S (DD S R) S.length)/\PersF p F l S R V):=by
 have o1:=hR.q.rd.one;have o2:=hF.rd.one;refine Au func15 ntmps15 Y Y (λw0 hw0=>?_);simp only[A6];refine Aq (AP [_] Y Y (by rfl) Y Y Y (λg3=>Qm Y (Qm Y (Am (Ax λh1 l1 hS=>?_)))));have hR:=hR.up l1;have hF:=hF.up l1;refine Aq (Qx (oG Y CS A8 (Seg.any hS)) Y (Qm Y (Qm Y (Qc call51 Y (UC l F v vf p h1 hK hR hF hV h0 hP hl) (λrB h2 ms2 l2 hB=>?_)))));obtain⟨l2',gm,S,R,V,vl,ml,rfl,rfl,hO,M⟩:=hB;have P:=M.pers;have hSn:S.length<=400:=by have:=P.perm.length_eq;rw[af,Dg]at this;omega
 have ovl:=hO.o1;refine Qm Y (Qm Y (Qm Y (Qm Y (Qm Y (Qm Y (Qm Y (Am (Ac (Aq (Qm Y (Qm Y (Am (Ao Y (λhc=>jt hc (λh=>h Y)) (λhc=>Ah (Ad (A9 hO λh3 l3 hL=>?_))))))))))))))))
 have hSi:∀a∈S,BS a.c.id:=λa ha=>by have h1:a.c∈cn l:=P.perm.mem_iff.1 (ad.2 ⟨a,ha,Y⟩);have h2:=hK.F.rgt.pos _ h1;have h3:=hK.ci h1;unfold BS;omega
 have M3:RedM p F l S R V gm h3:=by obtain⟨gA,mA,bs,vc,vr,vv,Rs,Vs,la,a1,a2,a3,a4,a5,a6,a7,a8,a9,a10,A⟩:=M.ex;exact⟨⟨gA,mA,bs,vc,vr,vv,Rs,Vs,la,a1.le l3,a2,AE a3 l3,a4.up l3,a5.up l3,a6.up l3,a7,a8,λk hk=>(a9 k hk).up l3,λk hk=>(a10 k hk).up l3,A⟩,M.perm,M.srt,λa ha=>(M.sds a ha).up l3⟩
 refine Aq (Qm Y (Qm Y (Qc call52 Y (SA S F (DD S R) p gm vl h3 M3.box M3.sds hL hSn (Ji S R) P.lt hSi hI) (λrC h4 ms4 l4 hB=>?_))));obtain⟨l4',mb,rfl,hOb⟩:=hB;have ovb:=hOb.o1;refine Qm Y (Qm Y (Am (An ?_)));exact BE Y Y Y (⟨AE l1 (AE l2 (AE l3 l4)),S,R,V,rC,mb,Y,Y,hOb,P⟩)
end
section
open Go.Lin
def F0(rows cols:Int):Prop:=0<=rows/\0<=cols/\rows<=400/\cols<=400
instance (r c:Int):Decidable (F0 r c):=by unfold F0;infer_instance
theorem Wc(p r c:Int)(h:Hp)(hI:BS p):FnT Tryz.prog 185 #[.int .i64 p,.int .i64 r,.int .i64 c] h [] (λx _ _=>x=.bool (decide (IsP p/\F0 r c))):=by
 refine Au func185 ntmps185 Y Y (λw0 hw0=>?_);simp only[A6];refine Aq (Qm Y (BM (Qm Y (Qx (AH Y call54 Y (KX _ _ hI _)) Y (Qm Y ?_)))));refine AL (t:=9) Y (λhs=>?_) (λhs=>?_)
 ·refine Qg (Ar Y Y) Y (Qg (Ar Y Y) Y (Qg (Sd Y Y Y) Y (Qg (HE Y Y Y) Y (Qm Y (Qm Y ?_)))));refine AL (t:=15) Y (λhs2=>?_) (λhs2=>?_)
  ·refine Qg (Ar Y Y) Y (Qg (Ar Y Y) Y (Qg (GU Y Y Y) Y (Qg (JQ Y Y Y) Y (Qm Y (Qm Y (Am (An ?_)))))));exact Ap Y Y (by unfold F0;congr 1;rw[ft];simp only[hs,true_and];omega)
  ·refine Qk Y (Qk Y (Qk Y (Qk Y (Qm Y (Qm Y (Am (An ?_)))))));exact Ap Y Y (by unfold F0;rw[aj];rintro⟨_,h1⟩;omega)
 ·refine Qk Y (Qk Y (Qk Y (Qk Y (Qm Y (Qm Y (Qk Y (Qk Y (Qk Y (Qk Y (Qm Y (Qm Y (Am (An ?_)))))))))))));exact Ap Y Y (by rw[aj];exact λh=>hs h.1)
theorem W0(p r c:Int)(h:Hp)(hI:BS p)(ms:List Hp):FnV Tryz.prog 185 #[.int .i64 p,.int .i64 r,.int .i64 c] h ms (.bool (decide (IsP p/\F0 r c))):=by refine λw hw=>(?_:FnV _ _ _ h [] _) w (hw.weaken (Da) (List.nil_sublist _));exact FnT.toV (Wc p r c h hI)
variable {l:List Int}
def idx(l:List Int)(p:Int->Bool):Int:=match l.findIdx? p with|some i=>i|none=>-1
theorem Wy{p:Int->Bool}{k:Nat}(hk:k<l.length)(hp:p l[k]=true)(hn:∀j (hj:j<k),p (l[j]'ω)=false):idx l p=k:=by
 unfold idx
 have:l.findIdx? p=some k:=by rw[ia];exact⟨hk,hp,λj hj=>by simp[hn j hj]⟩
 rw[this]
theorem X5{p:Int->Bool}(hn:∀j (hj:j<l.length),p l[j]=false):idx l p=-1:=by
 unfold idx
 have:l.findIdx? p=none:=by rw[iu];intro x hx;obtain⟨j,hj,rfl⟩:=dl.1 hx;exact hn j hj
 rw[this]
theorem Yq(l:List Int)(p:Int->Bool):decide (0<=idx l p)=l.any p:=by
 unfold idx;cases h:l.findIdx? p with
 | none=>rw[iu]at h;simp;exact h
 | some i=>
  rw[ia]at h;obtain⟨h1,h2,_⟩:=h;simp;exact⟨_,ae h1,h2⟩
theorem Ow(l:List Int)(vl:Value)(cf:FuncId)(cs:List Value)(p:Int->Bool)(h:Hp)(hR:RdL cI 1 h [] vl l)
  (hc:∀xs w,(callFunc cf xs).run Tryz.prog w=.ok (.enter cf xs) w)
  (hp:∀b∈l,∀ms,FnV Tryz.prog cf ([]++[Value.w b]++cs).toArray h ms (.bool (p b))) :
  FnT Tryz.prog 269 #[vl,.func (.func cf) #[] cs.toArray] h [] (λr _ _=>r=.w (idx l p)):=by
 have hl:=hR.len_le;refine Au func269 ntmps269 Y Y (λw0 hw0=>?_);simp only[A6];refine Aq (Qm Y (Am (Ac (Aq (Qm Y (Qx (As hR.rd.any Y AN Y) Y (Qm Y (Am (Ag ?_)))))))))
 refine Ay (λn s h' ms'=>∃(k:Nat),n=l.length-k/\s=[(0,vl),(1,.func (.func cf) #[] cs.toArray),(7,.w l.length),(8,.w k)]/\h=h'/\ms'=[]/\k<=l.length/\∀j (hj:j<l.length),j<k->p l[j]=false)
  (l.length-0) _ ⟨0,rfl,rfl,rfl,rfl,ω,λj hj h=>ω⟩ Qs ?_
 rintro n s h' ms' ⟨k,rfl,rfl,rfl,rfl,hk,hno⟩;refine Aq (Qm Y (Am (Ac ?_)));refine Ao Y (λhlt=>?_) (λhlt=>?_)
 ·have hlt':k<l.length:=ω
  refine Ah (Ad (Ac (Ag (Aq (Qm Y (Qm Y (BM (Qm Y (Qm Y (Qm Y (Qx (AA _ hR.rd.any Y AN A0 Y Y Y ω) Y (Ql Y U3 (hR.any.cell0 hlt' Y) (Qx (CE Y Y hc Y (hp _ (ae hlt') _)) Y (Am ?_))))))))))))));refine BG Y (λhpk=>?_) (λhpk=>?_)
  ·refine Ac (Ab (Qm Y (Qm Y (Am (An (Aj (Ae (Ae (Aj (Ae ?_))))))))));exact Ap Y Y (by rw[Wy hlt' hpk λj hj=>hno j _ hj])
  ·refine Ah (Ai (Ad (Ab (Qx (oA Y) Y (Qm Y (Ak ?_))))));refine Al (l.length-(k+1)) _ ω ⟨k+1,Y,Y,Y,Y,ω,λj hj h1=>?_⟩ Qs;rcases (ω:j<k\/j=k) with h2|rfl
   ·exact hno j hj h2
   ·exact hpk
 ·refine Av (Aa (Aa (Af (Ad (Aq (Qm Y (Am (An ?_))))))));exact Ap Y Y (by rw[X5 λj hj=>hno j hj ω])
theorem Kz(l:List Int)(vl:Value)(cf:FuncId)(cs:List Value)(p:Int->Bool)(h:Hp)(hR:RdL cI 1 h [] vl l)
  (hc:∀xs w,(callFunc cf xs).run Tryz.prog w=.ok (.enter cf xs) w)
  (hp:∀b∈l,∀ms,FnV Tryz.prog cf ([]++[Value.w b]++cs).toArray h ms (.bool (p b))) :
  FnT Tryz.prog 220 #[vl,.func (.func cf) #[] cs.toArray] h [] (λr _ _=>r=.bool (l.any p)):=by
 refine Au func220 ntmps220 Y Y (λw0 hw0=>?_);simp only[A6];refine Aq (Qm Y (BM (Qm Y (Qm Y (Qx (AH Y call269 Y (DW (Ow l vl cf cs p h hR hc hp) _)) Y (Qm Y (Qm Y (Am (An ?_)))))))));exact Ap Y Y (by rw[<-Yq])
structure FM where
 p:Int
 rows:Int
 cols:Int
 e:List Int
def FM.nil:FM:=⟨0,0,0,[]⟩
def FM.Rt(M:FM):Prop:=IsP M.p/\F0 M.rows M.cols/\(M.e.length:Int)=M.rows*M.cols/\∀x∈M.e,0<=x/\x<M.p
instance (M:FM):Decidable M.Rt:=by unfold FM.Rt;infer_instance
structure FM.Ok(M:FM):Prop where
 p:BS M.p
 r:BS M.rows
 c:BS M.cols
def cM(M:FM)(ev:Value):List Value:=[.int .i64 M.p,.int .i64 M.rows,.int .i64 M.cols,ev]
theorem U7(g:Nat)(n p:Int)(h:Hp)(hD:∀ms,Cell h ms ⟨g,0,none⟩ (.int .i64 p))(ms:List Hp):FnV Tryz.prog 221 ([]++[Value.int .i64 n]++[Value.pointer (some ⟨g,0,none⟩)]).toArray h ms (.bool (decide (n<0\/p<=n))):=by
 refine DW ?_ ms;show FnT _ _ #[.w n,.pt g] _ _ _;refine Au func221 ntmps221 Y Y (λw0 hw0=>?_);simp only[A6];refine Aq (Qm Y (BM (Qm Y (Qm Y (Qm Y ?_)))));refine AL (t:=6) Y (λhs=>?_) (λhs=>?_)
 ·refine Qk Y (Qk Y (Qk Y (Qk Y (Qm Y (Qm Y (Am (An ?_)))))));exact Ap Y Y (by rw[ai];exact .inl hs)
 ·refine Qg (Ar Y Y) Y (Qg (oF Cz Y) Y (Qg (oL Y U3 (hD _)) Y (Qg (HE Y Y Y) Y (Qm Y (Qm Y (Am (An ?_)))))));exact Ap Y Y (by congr 1;rw[ft];omega)
theorem Ys{p:Int}:(!l.any λn=>decide (n<0\/p<=n))=decide (∀x∈l,0<=x/\x<p):=by rw[Bool.eq_iff_iff];simp only[Bool.not_eq_true',List.any_eq_false,decide_eq_true_eq];exact⟨λh x hx=>by have:=h x hx;omega,λh x hx=>by have:=h x hx;omega⟩
theorem JC{r c:Int}(hF:F0 r c):0<=r*c/\r*c<=160000:=by obtain⟨h1,h2,h3,h4⟩:=hF;refine⟨dt h1 h2,?_⟩;have:=jb h3 h4 h2 (ω:(0:Int)<=400);omega
theorem L8(M:FM)(ev:Value)(h:Hp)(hO:M.Ok)(hR:RdL cI 1 h [] ev M.e):FnT Tryz.prog 183 #[.agg #[.int .i64 M.p,.int .i64 M.rows,.int .i64 M.cols,ev]] h [] (λr _ _=>r=.bool (decide M.Rt)):=by
 have hl:=hR.len_le;refine Au func183 ntmps183 Y Y (λw0 hw0=>?_);simp only[A6];refine Aq (AP [_,_,_,_] Y Y (by rfl) Y Y Y (λg1=>Qm Y (BM (Qf Cz Y (Ql Y U3 (Cell.blk 0 Y Y) (Qf CQ Y (Ql Y U3 (Cell.blk 0 Y Y) (Qf BU Y (Ql Y U3 (Cell.blk 0 Y Y) (Qx (AH Y call185 Y (W0 _ _ _ _ hO.p _)) Y (Qm Y ?_)))))))))));refine AL (t:=10) Y (λhf=>?_) (λhf=>?_)
 ·have hm:=JC hf.2;refine Qg (oF Bl Y) Y (Qg (oL Y AN (Cell.blk 0 Y Y)) Y (Qg (As hR.rd.any Y AN Y) Y (Qg (oF CQ Y) Y (Qg (oL Y U3 (Cell.blk 0 Y Y)) Y (Qg (oF BU Y) Y (Qg (oL Y U3 (Cell.blk 0 Y Y)) Y (Qg (oM Y) Y (Qg (CO Y Y Y) Y (Qm Y (Qm Y ?_))))))))));refine AL (t:=21) Y (λhe=>?_) (λhe=>?_)
  ·refine Qg (oF Bl Y) Y (Qg (oL Y AN (Cell.blk 0 Y Y)) Y (Ek λh' hle hS=>?_));have hR:=hR.up hle;have hD:∀i v,(cM M ev)[i]?=some v->∀ms,Cell h' ms ((⟨g1,0,none⟩:Addr).add i) v:=λi v hv ms=>(hS i v hv).any;have hD0:∀ms,Cell h' ms ⟨g1,0,none⟩ (.w M.p):=λms=>hD 0 _ Y ms;refine Qg (Cc Y Y Y) Y (Qg (AH Y call220 Y (DW (Kz M.e ev 221 [.pt g1] (λn=>decide (n<0\/M.p<=n)) h' hR call221 (λb _ ms=>U7 g1 b M.p h' hD0 ms)) _)) Y (Qg (DB Y Y) Y (Qm Y (Qm Y (Am (An ?_))))));exact Ap Y Y (by rw[Ys];congr 1;rw[ft];unfold FM.Rt;exact⟨λhx=>⟨hf.1,hf.2,he,hx⟩,λhx=>hx.2.2.2⟩)
  ·refine Qk Y (Qk Y (Qk Y (Qk Y (Qk Y (Qm Y (Qm Y (Am (An ?_))))))));exact Ap Y Y (by rw[aj];exact λhx=>he hx.2.2.1)
 ·refine Qk Y (Qk Y (Qk Y (Qk Y (Qk Y (Qk Y (Qk Y (Qk Y (Qk Y (Qm Y (Qm Y (Qk Y (Qk Y (Qk Y (Qk Y (Qk Y (Qm Y (Qm Y (Am (An ?_)))))))))))))))))));exact Ap Y Y (by rw[aj];exact λhx=>hf ⟨hx.1,hx.2.1⟩)
end
section
open Go.Lin
def Q5(p r c:Int):FM:=if IsP p/\F0 r c then⟨p,r,c,replicate (r*c).toNat 0⟩ else FM.nil
def FH(p:Int)(r c:Nat)(f:Nat->Nat->Int):FM:=⟨p,r,c,BV r c f⟩
theorem KY{p:Int}{r c:Nat}(hp:IsP p)(hr:r<=400)(hc:c<=400):Q5 p r c=FH p r c λ_ _=>0:=by unfold Q5 FH;rw[ac ⟨hp,by unfold F0;omega⟩,<-On,show((r:Int)*c).toNat=r*c by rw[<-da,de]]
def Kk(r:Value)(ms:List Hp)(M:FM):Prop:=∃ev m,ms=[m]/\r=.agg #[.int .i64 M.p,.int .i64 M.rows,.int .i64 M.cols,ev]/\OwnL cI 1 3 m ev M.e
theorem SZ(p r c:Int)(h:Hp)(hI:BS p):FnT Tryz.prog 125 #[.int .i64 p,.int .i64 r,.int .i64 c] h [] (λv h' ms'=>h=h'/\Kk v ms' (Q5 p r c)):=by
 refine Au func125 ntmps125 Y Y (λw0 hw0=>?_);simp only[A6];refine Aq (Cx [.w 0,.w 0,.w 0,.nl] Y A4 Y Y (λg6=>Am (Ac (Aq (Qm Y (Qm Y (Qm Y (Qx (AH Y call185 Y (W0 _ _ _ _ hI _)) Y (Qm Y (Am ?_))))))))));refine BG Y (λhf=>?_) (λhf=>?_)
 ·have hf:¬(IsP p/\F0 r c):=of_decide_eq_false (by simpa only [Bool.not_eq_true'] using hf);refine Aq (Qx (Bb Kw [.w 0,.w 0,.w 0,.nl] [] [_,_,_,_] Y A4 Y Y Qt Y) Y ?_);refine Sa 0 [_,_,_,_] A4 Y (by simp[Value.oneCell']) ?_;refine Am (An (Ae (JV ?_)));exact BC (vs:=[_,_,_,_]) 1 Y Y Dr Y A4 Y Y (⟨Y,_,_,Y,by unfold Q5;rw[aa hf];rfl,by unfold Q5;rw[aa hf];exact OwnL.nil Bi⟩)
 ·have hf:IsP p/\F0 r c:=bz (by simpa only [Bool.not_eq_false'] using hf);have hm:=JC hf.2;obtain⟨n,hn⟩:∃n:Nat,r*c=n:=⟨(r*c).toNat,ω⟩
  refine Ah (Ad (Aq (Qm Y (Qm Y (Qm Y (Qm Y (Qm Y (Qx (oM Y) Y (CL (n:=n) Y AN A0 Y Y Y ω ω ω ω Y Y Y (λg19=>Qx (Bb Kw [.w 0,.w 0,.w 0,.nl] [(0,_),(1,_),(2,_),(3,_)] [_,_,_,_] Y A4 Y Y Qt Y) Y ?_))))))))));refine Sa 1 [_,_,_,_] A4 Y (by simp[Value.oneCell']) ?_;refine Am (An ?_);exact BC (vs:=[_,_,_,_]) 1 Y Y Dr Y A4 Y Y (⟨Y,_,_,Y,by unfold Q5;rw[ac hf],by unfold Q5;rw[ac hf,hn];exact OwnL.rep n 0 ω⟩)
variable {p:Int} {r c:Nat} {f:Nat->Nat->Int}
def InP(p:Int)(r c:Nat)(f:Nat->Nat->Int):Prop:=∀i,i<r->∀j,j<c->0<=f i j/\f i j<p
structure RtM(p:Int)(r c:Nat)(f:Nat->Nat->Int):Prop where
 pr:IsP p
 rl:r<=400
 cl:c<=400
 en:InP p r c f
theorem RtM.bd(R:RtM p r c f):2<=p/\p<=997:=⟨R.pr.1,R.pr.2.1⟩
theorem RtM.i64(R:RtM p r c f):BS p:=⟨by have:=R.bd;omega,by have:=R.bd;omega⟩
theorem RtM.ok(R:RtM p r c f):(FH p r c f).Ok:=⟨R.i64,⟨by have:=R.rl;show _<=(r:Int);omega,by have:=R.rl;show(r:Int)<=_;omega⟩,⟨by have:=R.cl;show _<=(c:Int);omega,by have:=R.cl;show(c:Int)<=_;omega⟩⟩
theorem RtM.rt(R:RtM p r c f):(FH p r c f).Rt:=by have h1:=R.rl;have h2:=R.cl;refine⟨R.pr,by unfold F0 FH;simp only;omega,by simp[FH,BO],λx hx=>?_⟩;obtain⟨i,j,hi,hj,rfl⟩:=mem_mat.1 hx;exact R.en i hi j hj
theorem AbJ{M:FM}(h:M.Rt):∃r c f,M=FH M.p r c f/\RtM M.p r c f:=by
 obtain⟨h1,⟨h2,h3,h4,h5⟩,h6,h7⟩:=h;obtain⟨p,r,c,e⟩:=M;simp only at *;obtain⟨r,rfl⟩:=il h2;obtain⟨c,rfl⟩:=il h3
 have hl:e.length=r*c:=by
  have:((e.length:Nat):Int)=((r*c:Nat):Int):=by rw[h6,da]
  exact Int.ofNat_inj.1 this
 refine⟨r,c,JK c e,by unfold FH;rw[<-K5 hl],h1,ω,ω,λi hi j hj=>?_⟩;have hm:JK c e i j∈BV r c (JK c e):=mem_mat.2 ⟨i,j,hi,hj,Y⟩;rw[<-K5 hl]at hm;exact h7 _ hm
theorem NM(M N:FM)(ev eu:Value)(h:Hp)(hOM:M.Ok)(hON:N.Ok)(hRM:RdL cI 1 h [] ev M.e)(hRN:RdL cI 1 h [] eu N.e):FnT Tryz.prog 151 #[.agg #[.int .i64 M.p,.int .i64 M.rows,.int .i64 M.cols,ev],.agg #[.int .i64 N.p,.int .i64 N.rows,.int .i64 N.cols,eu]] h [] (λr _ _=>r=.bool (decide (M.Rt/\N.Rt/\M.p=N.p))):=by
 refine Au func151 ntmps151 Y Y (λw0 hw0=>?_);simp only[A6];refine Aq (AP [_,_,_,_] Y Y (by rfl) Y Y Y (λg2=>AP [_,_,_,_] Y Y (by rfl) Y Y Y (λg3=>Qm Y (BM (Qx (oG Y Dr A4 (Seg.blk 1 Y)) Y (Qx (AH Y call183 Y (DW (L8 M ev h hOM hRM) _)) Y (Qm Y ?_)))))));refine AL (t:=7) Y (λhs=>?_) (λhs=>?_)
 ·refine Qg (oG Y Dr A4 (Seg.blk 0 Y)) Y (Qg (AH Y call183 Y (DW (L8 N eu h hON hRN) _)) Y (Qm Y (Qm Y ?_)));refine AL (t:=11) Y (λhs2=>?_) (λhs2=>?_)
  ·refine Qg (oF Cz Y) Y (Qg (oL Y U3 (Cell.blk 1 Y Y)) Y (Qg (oF Cz Y) Y (Qg (oL Y U3 (Cell.blk 0 Y Y)) Y (Qg (CO Y Y Y) Y (Qm Y (Qm Y (Am (An ?_))))))));exact Ap Y Y (by congr 1;rw[ft];simp[hs,hs2])
  ·refine Qk Y (Qk Y (Qk Y (Qk Y (Qk Y (Qm Y (Qm Y (Am (An ?_))))))));exact Ap Y Y (by rw[aj];exact λhx=>hs2 hx.2.1)
 ·refine Qk Y (Qk Y (Qm Y (Qm Y (Qk Y (Qk Y (Qk Y (Qk Y (Qk Y (Qm Y (Qm Y (Am (An ?_))))))))))));exact Ap Y Y (by rw[aj];exact λhx=>hs hx.1)
theorem Y0{ev:Value}{h:Hp}(R:RtM p r c f)(hR:RdL cI 1 h [] ev (BV r c f))(ms:List Hp):FnV Tryz.prog 183 #[.agg #[.int .i64 p,.int .i64 r,.int .i64 c,ev]] h ms (.bool true):=by have:=DW (L8 (FH p r c f) ev h R.ok hR) ms;rw[ai R.rt]at this;exact this
end
section
open Go.Lin
def cR(p:Int)(r c:Nat)(ev:Value)(ov:List Value):List Value:=.int .i64 p::.int .i64 r::.int .i64 c::ev::ov
abbrev BR(g:Nat)(p:Int)(r c:Nat)(ev:Value)(ov:List Value):Hp:=Bh g 255 (cR p r c ev ov)
theorem Ko(g:Nat)(p:Int)(r c:Nat)(f:Nat->Nat->Int)(ev:Value)(ov:List Value)(i:Nat)(h:Hp)(hS:Seg h [] ⟨g,0,none⟩ (cR p r c ev ov))(hR:RdL cI 1 h [] ev (BV r c f))(hi:i<r)(hr:r<=400)(hc:c<=800) :
  FnV Tryz.prog 223 #[.pt g,.w i] h [] (Cj 1 ev (i*c) ((i+1)*c)):=by
 refine FnT.toV ?_;have hA:=Seg.all hS;have hA0:=hA 0 _ rfl;have e1:(i+1)*c=i*c+c:=by rw[Nat.add_mul,Nat.one_mul]
 have b1:(i+1)*c<=r*c:=d7 c hi;have b2:r*c<=400*800:=dh hr hc;have el:(BV r c f).length=r*c:=BO _ _ _;have e3:((i:Int)+1)*c=i*c+c:=by rw[Int.add_mul,ir]
 have hz:∀a:Addr,(a.add 0).add 3=a.add 3:=λa=>by rw[B9]
 refine Au func223 ntmps223 Y Y (λw0 hw0=>?_);simp only[A6];refine Aq (Qm Y (Am (Ac (BK (n:=22) (bs:=[true,true,true,true,true,true,true,true,true,true,true,true,true,true,true,true,true,true,true,true,true,false]) [true,true,true,true,true,true,true,true,true,true,true,true,true,true,true,true,true,true,true,true,true] CT κ κ Y Y (Qq Y (Qq Y (QF F7 Y (QF Bl Y (QL Y AN (hA _ _ Y _) (Qq Y (Qq Y (Qq Y (QF F7 Y (QF BU Y (QL Y U3 (hA _ _ Y _) (Qp Y (oM Y) (Qq Y (Qp Y (oA Y) (Qq Y (Qq Y (QF F7 Y (QF BU Y (QL Y U3 (hA _ _ Y _) (Qp Y (oM Y) (Qp Y (G1 (i*c) ((i+1)*c) hR.rd.any Y AN A0 Y Y Y ω ω ω ω) ?_)))))))))))))))))))))))));unfold Fm;simp only[bl,ay];refine Qo 21 Y (Qm Y (Qw (Qe (Ad (An ?_)))));exact Ap Y Y (Y)
def turn(f:Nat->Nat->Int)(i:Nat)(G:Nat->Int)(k a b:Nat):Int:=if a=i/\b<k then G b else f a b
theorem turn_zero(f:Nat->Nat->Int)(i:Nat)(G:Nat->Int)(a b:Nat):turn f i G 0 a b=f a b:=aa ω
theorem turn_at(f:Nat->Nat->Int)(i:Nat)(G:Nat->Int)(k:Nat):turn f i G k i k=f i k:=aa ω
theorem turn_ne(f:Nat->Nat->Int)(i:Nat)(G:Nat->Int)(k a b:Nat)(h:a≠i):turn f i G k a b=f a b:=aa ω
theorem turn_step(f:Nat->Nat->Int)(i:Nat)(G:Nat->Int)(k a b:Nat):Fe (turn f i G k) i k (G k) a b=turn f i G (k+1) a b:=by
 unfold Fe turn;by_cases h:a=i/\b=k
 ·rw[ac h,ac ω,h.2]
 ·rw[aa h];by_cases h2:a=i/\b<k
  ·rw[ac h2,ac ω]
  ·rw[aa h2,aa ω]
theorem turn_all(f:Nat->Nat->Int)(i:Nat)(G:Nat->Int)(c a b:Nat)(hb:b<c):turn f i G c a b=if a=i then G b else f a b:=by
 unfold turn;by_cases h:a=i
 ·rw[ac ⟨h,hb⟩,ac h]
 ·rw[aa (λx=>h x.1),aa h]
theorem QQ(r c:Nat)(f:Nat->Nat->Int)(i:Nat)(G:Nat->Int)(ev:Value)(m:Hp)(cf:FuncId)(fs:List Value)(h:Hp)(hO:OwnL cI 1 3 m ev (BV r c f))(hi:i<r)(hr:r<=400)(hc:c<=800)
  (hcf:∀xs w,(callFunc cf xs).run Tryz.prog w=.ok (.enter cf xs) w)
  (hG:∀k,k<c->∀m',OwnL cI 1 3 m' ev (BV r c (turn f i G k))->FnV Tryz.prog cf (fs++[Value.w k,Value.w (f i k)]++[]).toArray h [m'] (.w (G k))) :
  FnT Tryz.prog 225 #[Cj 1 ev (i*c) ((i+1)*c),.func (.func cf) fs.toArray #[]] h [m] (λx h' ms'=>h=h'/\∃m',ms'=[m']/\OwnL cI 1 3 m' ev (BV r c λa b=>if a=i then G b else f a b)):=by
 have ec:=Cd c (f i);refine Au func225 ntmps225 Y Y (λw0 hw0=>?_);simp only[A6];refine Aq (Qm Y (Qx (As ((hO.rd (h:=h) (ms:=[m]) Mh).row hi).rd Y AN Y) Y (Qm Y (Am (Ag ?_)))))
 refine Ay (λq s h' ms'=>∃(k:Nat) (m:Hp),q=c-k/\s=[(0,Cj 1 ev (i*c) ((i+1)*c)),(1,.func (.func cf) fs.toArray #[]),(6,Cj 1 ev (i*c) ((i+1)*c)),(7,.w ((EK c (f i)).length:Nat)),(8,.w k)]/\h=h'/\ms'=[m]/\k<=c/\OwnL cI 1 3 m ev (BV r c (turn f i G k)))
  (c-0) _ ⟨0,m,rfl,rfl,rfl,rfl,ω,by rw[AW (λa _ b _=>turn_zero f i G a b)];exact hO⟩ Qs ?_
 rintro q s h' ms' ⟨k,m,rfl,rfl,rfl,rfl,hk,hO⟩;refine Aq (Qm Y (Am (Ac ?_)));refine Ao Y (λhlt=>?_) (λhlt=>?_)
 ·have hkc:k<c:=ω
  have ek:=Cd c (turn f i G k i)
  have hcell:Cell h [m] ((AG (Cj 1 ev (i*c) ((i+1)*c))).add (k*1)) (.w (f i k)):=by have:=((hO.rd (h:=h) (ms:=[m]) Mh).row hi).ev hkc;rw[turn_at]at this;exact this
  refine Ah (Ad (Ac (Ag (Aq (Qm Y (Qx (AA _ ((hO.rd (h:=h) (ms:=[m]) Mh).row hi).rd Y AN A0 Y Y Y ω) Y (Ql Y U3 (hcell) (Qm Y (Qm Y (Gl (Qm Y (Qm Y (Qm Y (Qm Y (Qm Y (Qx (CE (cs:=[]) Y Y hcf Y (hG k hkc m hO)) Y (Qx (AA _ ((hO.rd (h:=h) (ms:=[m]) Mh).row hi).rd Y AN A0 Y Y Y ω) Y (Gr 0 i k hO hi hkc Y A0 Y Y Y Y Y (λm' hO'=>Ak (Ai (Ad (Ab (Qx (oA Y) Y (Qm Y (Ak ?_)))))))))))))))))))))))));refine Al (c-(k+1)) _ ω ⟨k+1,m',Y,Y,Y,Y,ω,by rw[AW (λa _ b _=>turn_step f i G k a b)]at hO';exact hO'⟩ Qs
 ·refine Av (Aa (Aa (Af ?_)));obtain rfl:k=c:=ω
  exact Cq Y (⟨Y,m,Y,by rw[AW (λa _ b hb=>turn_all f i G k a b hb)]at hO;exact hO⟩)
def swp(f:Nat->Nat->Int)(i j k a b:Nat):Int:=if b<k then f (Ib i j a) b else f a b
theorem OY(f:Nat->Nat->Int)(i j k a b:Nat):Fe (Fe (swp f i j k) i k (f j k)) j k (f i k) a b=swp f i j (k+1) a b:=by
 unfold Fe swp Ib;by_cases h1:a=j/\b=k
 ·obtain⟨rfl,rfl⟩:=h1;rw[ac ⟨rfl,rfl⟩,ac ω];by_cases h2:a=i
  ·subst h2;rw[ac rfl]
  ·rw[aa h2,ac rfl]
 ·rw[aa h1];by_cases h2:a=i/\b=k
  ·obtain⟨rfl,rfl⟩:=h2;rw[ac ⟨rfl,rfl⟩,ac ω,ac rfl]
  ·rw[aa h2];by_cases h3:b<k
   ·simp only[h3,show b<k+1 by omega,im]
   ·by_cases h4:b<k+1
    ·have hbk:b=k:=ω
     have hai:¬a=i:=λe=>h2 ⟨e,hbk⟩;have haj:¬a=j:=λe=>h1 ⟨e,hbk⟩;simp only[h3,h4,hai,haj,im,i8]
    ·simp only[h3,h4,i8]
theorem AaY(f:Nat->Nat->Int)(i j k a:Nat):swp f i j k a k=f a k:=aa ω
theorem WZ(f:Nat->Nat->Int)(i j a b:Nat):swp f i j 0 a b=f a b:=aa ω
theorem Yo(f:Nat->Nat->Int)(i j c a b:Nat)(hb:b<c):swp f i j c a b=f (Ib i j a) b:=ac hb
theorem Zm(g:Nat)(p:Int)(r c:Nat)(f:Nat->Nat->Int)(ev:Value)(ov:List Value)(m:Hp)(i j:Nat)(h:Hp)(hO:OwnL cI 1 3 m ev (BV r c f))(hi:i<r)(hj:j<r)(hr:r<=400)(hc:c<=800) :
  FnT Tryz.prog 224 #[.pt g,.w i,.w j] h [BR g p r c ev ov,m] (λx h' ms'=>h=h'/\∃m',ms'=[BR g p r c ev ov,m']/\OwnL cI 1 3 m' ev (BV r c λa b=>f (Ib i j a) b)):=by
 have hRi:=(hO.rd (h:=h) (ms:=[m]) Mh).row hi;have ec:=Cd c (f i);refine Au func224 ntmps224 Y Y (λw0 hw0=>?_);simp only[A6];refine Aq (Qm Y (Qm Y (Qx (AH Y call223 Y (CF λh' hl hm=>Ko g p r c f ev ov _ h' (Seg.ofLe (hm _ Mh)) (hO.rdh (hm _ (List.Mem.tail _ Mh))) (by assumption) hr hc)) Y (Qm Y (Qm Y (Qx (AH Y call223 Y (CF λh' hl hm=>Ko g p r c f ev ov _ h' (Seg.ofLe (hm _ Mh)) (hO.rdh (hm _ (List.Mem.tail _ Mh))) (by assumption) hr hc)) Y (Qm Y (Qm Y (BM (Qm Y (Qx (ED hRi.rd Y AN Y) Y (Qm Y (Am (Ag ?_))))))))))))))
 refine Ay (λq s h' ms'=>∃(k:Nat) (m:Hp),q=c-k/\s=[(6,Cj 1 ev (i*c) ((i+1)*c)),(7,Cj 1 ev (j*c) ((j+1)*c)),(16,.w ((EK c (f i)).length:Nat)),(17,.w k)]/\h=h'/\ms'=[BR g p r c ev ov,m]/\k<=c/\OwnL cI 1 3 m ev (BV r c (swp f i j k)))
  (c-0) _ ⟨0,m,rfl,rfl,rfl,rfl,ω,by rw[AW (λa _ b _=>WZ f i j a b)];exact hO⟩ Qs ?_
 rintro q s h' ms' ⟨k,m,rfl,rfl,rfl,rfl,hk,hO⟩;have eci:=Cd c (swp f i j k i);have ecj:=Cd c (swp f i j k j);refine Aq (Qm Y (Am (Ac ?_)));refine Ao Y (λhlt=>?_) (λhlt=>?_)
 ·have hkc:k<c:=ω
  have hR2:=λi hi=>(hO.rd (h:=h) (ms:=[BR g p r c ev ov,m]) (List.Mem.tail _ Mh)).row (i:=i) hi
  have hcell:∀i (hi:i<r),Cell h [BR g p r c ev ov,m] ((AG (Cj 1 ev (i*c) ((i+1)*c))).add (k*1)) (.w (f i k)):=λi hi=>by have:=(hR2 i hi).ev hkc;rw[AaY]at this;exact this
  refine Ah (Ad ?_);refine Bg (λs h' ms'=>∃(m:Hp),s=[(6,Cj 1 ev (i*c) ((i+1)*c)),(7,Cj 1 ev (j*c) ((j+1)*c)),(16,.w ((EK c (f i)).length:Nat)),(17,.w k)]/\h=h'/\ms'=[BR g p r c ev ov,m]/\OwnL cI 1 3 m ev (BV r c (swp f i j (k+1)))) ?_ (λs h ms hI=>?_)
  ·refine Ag (Aq (Qm Y (Qm Y (Am (BK (n:=16) (bs:=[true,true,true,true,true,true,true,false,true,true,true,false,true,false,true,false]) [true,true,true,true,true,true,true,false,true,true,true,false,true,false,true] CT κ κ Y Y (Qq Y (Qq Y (Qq Y (Qq Y (Qq Y (Qq Y (Qp Y (Bk _ (hR2 j hj).rd Y AN A0 Y Y Y ω) (Qq Y (Qq Y (Qp Y (Bk _ (hR2 i hi).rd Y AN A0 Y Y Y ω) (Qp Y (Bk _ (hR2 i hi).rd Y AN A0 Y Y Y ω) (Qp Y (Bk _ (hR2 j hj).rd Y AN A0 Y Y Y ω) ?_)))))))))))))))));unfold Fm;simp only[bl,ay];refine Bf [7,11] κ Y ?_;refine AD Y ?_ ?_
   ·refine Ql Y U3 (hcell j hj) (Qw (Qo 11 Y (Ql Y U3 (hcell i hi) (Qw (Qo 13 Y (Gr 1 i k hO hi hkc Y A0 Y Y Y Y Y (λm1 hO1=>Qw (Qo 15 Y (Gr 1 j k hO1 hj hkc Y A0 Y Y Y Y Y (λm2 hO2=>Qw (Qe (Ai ?_))))))))))));refine Az _ ⟨m2,Y,Y,Y,by rw[AW (λa _ b _=>OY f i j k a b)]at hO2;exact hO2⟩ Qs
   refine AD Y ?_ ?_
   ·refine Ql Y U3 (hcell i hi) (Qw (Qo 7 Y (Ql Y U3 (hcell j hj) (Qw (Qo 13 Y (Gr 1 i k hO hi hkc Y A0 Y Y Y Y Y (λm1 hO1=>Qw (Qo 15 Y (Gr 1 j k hO1 hj hkc Y A0 Y Y Y Y Y (λm2 hO2=>Qw (Qe (Ai ?_))))))))))));refine Az _ ⟨m2,Y,Y,Y,by rw[AW (λa _ b _=>OY f i j k a b)]at hO2;exact hO2⟩ Qs
   exact Be
  obtain⟨m,rfl,rfl,rfl,hO⟩:=hI
  ·refine Ab (Qx (oA Y) Y (Qm Y (Ak ?_)));refine Al (c-(k+1)) _ ω ⟨k+1,m,Y,Y,Y,Y,ω,hO⟩ Qs
 ·refine Av (Aa (Aa (Af ?_)));obtain rfl:k=c:=ω
  exact Cq Y (⟨Y,m,Y,by rw[AW (λa _ b hb=>Yo f i j k a b hb)]at hO;exact hO⟩)
variable {p:Int} {n:Nat} {ov:List Int}
theorem HN{a b:Int}(ha:0<=a/\a<p)(hb:0<=b/\b<p)(hp:p<=997):0<=a*b/\a*b<=994009:=by refine⟨dt ha.1 hb.1,?_⟩;have:=jb (show a<=997 by omega) (show b<=997 by omega) hb.1 (ω:(0:Int)<=997);omega
theorem Cg.pow{a b:Int}(h:Cg p a b):∀n:Nat,Cg p (a^n) (b^n)
 | 0=>Cg.of_eq (by rw[Int.pow_zero,Int.pow_zero])
 | n+1=>by rw[Int.pow_succ,Int.pow_succ];exact Cg.mul (Cg.pow h n) h
theorem Aad(hp:IsP p)(h1:1<=n)(hn:(n:Int)<p){out:Int}(ho:Cg p out ((n:Int)^(p.toNat-2))):(n:Int)*out%p=1:=by
 have h2:=hp.1;have hd:¬p.toNat∣n:=λhd=>by have:=Nat.le_of_dvd ω hd;omega
 have hf:=Vz hp.prm hd
 have h3:Cg p ((n:Int)*out) ((n:Int)^(p.toNat-1)):=by have:=Cg.mul (Cg.refl p (n:Int)) ho;rw[show p.toNat-1=(p.toNat-2)+1 by omega,Int.pow_succ,fa _ (n:Int)];exact this
 have h4:(n:Int)^(p.toNat-1)%p=1:=by
  have h5:((n^(p.toNat-1)%p.toNat:Nat):Int)=1:=by rw[hf];rfl
  rw[Int.natCast_emod,Int.natCast_pow,fd ω]at h5;exact h5
 rw[Cg.iff_mod.1 h3,h4]
def Ovk(p:Int)(ov:List Int):Prop:=ov.length=998/\∀n (h:n<ov.length),ov[n]=0\/(0<ov[n]/\ov[n]<p/\(n:Int)*ov[n]%p=1)
theorem Abh{r c:Nat}{ev:Value}(hn:n<ov.length):(cR p r c ev (ov.flatMap cI))[4+n*1]?=some (.int .i64 ov[n]):=by have:=Fg Bi ov n hn 0 (.int .i64 ov[n]) Y;rw[Nat.add_zero]at this;rw[show 4+n*1=n*1+4 by omega];exact this
theorem AaX{r c:Nat}{ev:Value}(x:Int):(cR p r c ev (ov.flatMap cI)).set (4+n*1) (.int .i64 x)=cR p r c ev ((ov.set n x).flatMap cI):=by rw[show 4+n*1=n+1+1+1+1 by omega,<-AaW];rfl
theorem Ovk.set(H:Ovk p ov){x:Int}(h0:0<x)(h1:x<p)(h2:(n:Int)*x%p=1):Ovk p (ov.set n x):=by
 refine⟨by simp[H.1],λk hk=>?_⟩;rw[List.getElem_set];by_cases e:n=k
 ·subst e;rw[ac rfl];exact .inr ⟨h0,h1,h2⟩
 ·rw[aa e];exact H.2 k (by simpa using hk)
theorem Pm(a:Int)(e:Nat):a^e=(a*a)^(e/2)*a^(e%2):=by
 conv=>lhs;rw[<-Nat.div_add_mod e 2,Int.pow_add,Int.pow_mul]
 rw[show a^2=a*a by rw[Int.pow_succ,Int.pow_succ,Int.pow_zero,ir]]
theorem U6(g:Nat)(p:Int)(r c:Nat)(ev:Value)(ov:List Int)(n:Nat)(h:Hp)(hp:IsP p)(hov:Ovk p ov)(h1n:1<=n)(hn:(n:Int)<p) :
  FnT Tryz.prog 226 #[.pt g,.w n] h [BR g p r c ev (ov.flatMap cI)] (λx h' ms'=>h=h'/\∃(v:Int) (ov':List Int),x=.w v/\ms'=[BR g p r c ev (ov'.flatMap cI)]/\Ovk p ov'/\0<v/\v<p/\(n:Int)*v%p=1):=by
 have hb:2<=p/\p<=997:=⟨hp.1,hp.2.1⟩
 have hl:=hov.1;have hnl:n<ov.length:=ω
 have hc:=hov.2 n hnl
 have hcell:Cell h [BR g p r c ev (ov.flatMap cI)] (((⟨g,0,none⟩:Addr).add 4).add (n*1)) (.w ov[n]):=by rw[B9];exact Cell.blk 0 Y (Abh hnl)
 have hP:∀ov':List Value,Cell h [BR g p r c ev ov'] (((⟨g,0,none⟩:Addr).add 0).add 0) (.w p):=λov'=>by rw[B9];exact Cell.blk 0 Y Y
 refine Au func226 ntmps226 Y Y (λw0 hw0=>?_);simp only[A6];refine Aq (Qm Y (Am (Ac (Aq (Qm Y (Qm Y (Qm Y (Qf NY Y (Qx (Ci (n) Y Aby A0 Y Y ω ω) Y (Ql Y U3 (hcell) (Qm Y (Am ?_))))))))))));refine Ao Y (λhpos=>?_) (λhpos=>?_)
 ·have hc:0<ov[n]/\ov[n]<p/\(n:Int)*ov[n]%p=1:=by
   rcases hc with h0|h0
   ·omega
   ·exact h0
  refine Aq (Qm Y (Qm Y (Qm Y (Qf NY Y (Qx (Ci (n) Y Aby A0 Y Y ω ω) Y (Ql Y U3 (hcell) (Qm Y (Am (An (Ae ?_))))))))));exact Ap Y Y (⟨Y,_,ov,Y,Y,hov,hc.1,hc.2.1,hc.2.2⟩)
 ·refine Ah (Ad (Aq (Qm Y (Qm Y (Qm Y (Am (Ac (Aq (Qm Y (Qm Y (Qf F7 Y (Qf Cz Y (Ql Y U3 (hP _) (Qx (oS Y) Y (Qm Y (Am (Ag ?_)))))))))))))))))
  refine Ay (λq s h' ms'=>∃(e:Nat) (out pw y:Int),q=e/\s=[(0,.pt g),(1,.w n),(5,.w out),(6,.w pw),(7,.w y)]/\h=h'/\ms'=[BR g p r c ev (ov.flatMap cI)]/\y=e/\e<=1000/\0<=out/\out<p/\0<=pw/\pw<p/\Cg p (out*pw^e) ((n:Int)^(p.toNat-2)))
   (p.toNat-2) _ ⟨p.toNat-2,1,(n:Int),p-2,rfl,rfl,rfl,rfl,ω,ω,ω,ω,ω,ω,by rw[ir];exact Cg.refl _ _⟩ Qs ?_
  rintro e s h' ms' ⟨e',out,pw,y,rfl,rfl,rfl,rfl,rfl,he,o1,o2,q1,q2,hcg⟩;have b1:=HN ⟨o1,o2⟩ ⟨q1,q2⟩ hb.2;have b2:=HN ⟨q1,q2⟩ ⟨q1,q2⟩ hb.2;have m1:=co (out*pw) (show p≠0 by omega);have m2:=bw (out*pw) (show 0<p by omega);have m3:=co (pw*pw) (show p≠0 by omega);have m4:=bw (pw*pw) (show 0<p by omega);have hh:Cg p ((pw*pw%p)^(e/2)) ((pw*pw)^(e/2)):=Cg.pow (Cg.mod _ _) _;refine Ac (Aq (Qm Y (Qm Y (Am ?_))));refine Ao Y (λhlt=>?_) (λhlt=>?_)
  ·refine Ah (Ad (Ac (Ag (Ac (Aq (Qm Y (Qx (Vo Y Y Y ω) Y (Qm Y (Am ?_)))))))));refine Ao Y (λhodd=>?_) (λhodd=>?_)
   ·refine Ab (Qm Y (Qm Y (Qx (oM Y) Y (Qm Y (Qm Y (Qf F7 Y (Qf Cz Y (Ql Y U3 (hP _) (Qx (BH Y Y Y ω ω) Y (Qm Y (Gl (Qm Y (Qm Y (Qx (oM Y) Y (Qm Y (Qm Y (Qf F7 Y (Qf Cz Y (Ql Y U3 (hP _) (Qx (BH Y Y Y ω ω) Y (Qm Y (Ak (Ai (Ad (Ab (Qm Y (Qx (NA (n:=1) Y Y Y ω) Y (Qm Y (Ak ?_)))))))))))))))))))))))))))));refine Al (e/2) _ ω ⟨e/2,out*pw%p,pw*pw%p,((e/2:Nat):Int),Y,Y,Y,Y,Y,ω,m1,m2,m3,m4,?_⟩ Qs;refine Cg.trans (Cg.mul (Cg.mod _ _) hh) (Cg.trans (Cg.of_eq ?_) hcg);rw[Pm pw e,show e%2=1 by omega,Int.pow_succ,Int.pow_zero,ir,ep,fa pw]
   ·refine Ah (Ad (Ab (Qm Y (Qm Y (Qx (oM Y) Y (Qm Y (Qm Y (Qf F7 Y (Qf Cz Y (Ql Y U3 (hP _) (Qx (BH Y Y Y ω ω) Y (Qm Y (Ak (Ai (Ad (Ab (Qm Y (Qx (NA (n:=1) Y Y Y ω) Y (Qm Y (Ak ?_))))))))))))))))))));refine Al (e/2) _ ω ⟨e/2,out,pw*pw%p,((e/2:Nat):Int),Y,Y,Y,Y,Y,ω,o1,o2,m3,m4,?_⟩ Qs;refine Cg.trans (Cg.mul (Cg.refl _ _) hh) (Cg.trans (Cg.of_eq ?_) hcg);rw[Pm pw e,show e%2=0 by omega,Int.pow_zero,Int.mul_one]
  ·obtain rfl:e=0:=ω
   rw[Int.pow_zero,Int.mul_one]at hcg;have hinv:=Aad hp h1n hn hcg
   have hout:0<out:=by
    rcases (ω:out=0\/0<out) with h0|h0
    ·subst h0;simp at hinv
    ·exact h0
   refine Av (Aa (Aa (Af (Ad (Aq (Qm Y (Qm Y (Qm Y (Qm Y (Qf NY Y (Qx (Ci (n) Y Aby A0 Y Y ω ω) Y ?_)))))))))));refine AO 0 (4+n*1) Y A0 Y Y Y Y (B9 _ _ _) (by show _<(_::_::_::_::_:List Value).length;simp only[List.length_cons,Bv Bi,hl];omega) rfl rfl ?_;rw[AaX];refine BM (Qm Y (Qm Y (Am (An ?_))));exact Ap Y Y (⟨Y,out,ov.set n out,Y,Y,hov.set hout o2 hinv,hout,o2,hinv⟩)
theorem X2(g:Nat)(p:Int)(r c:Nat)(ev:Value)(ov:List Int)(n:Int)(h:Hp)(hp:IsP p)(hov:Ovk p ov)(h1n:1<=n)(hn:n<p) :
  FnT Tryz.prog 226 #[.pt g,.w n] h [BR g p r c ev (ov.flatMap cI)] (λx h' ms'=>h=h'/\∃(v:Int) (ov':List Int),x=.w v/\ms'=[BR g p r c ev (ov'.flatMap cI)]/\Ovk p ov'/\0<v/\v<p/\n*v%p=1):=by
 obtain⟨k,rfl⟩:=il (show 0<=n by omega);exact U6 g p r c ev ov k h hp hov ω hn
end
section
open Go.Lin
theorem YA(t p k n:Int)(h:Hp)(hp:IsP p)(hn:0<=n/\n<p)(ht:0<=t/\t<p)(ms:List Hp) :
  FnV Tryz.prog 227 #[.agg #[.nl,.w t,.w p],.w k,.w n] h ms (.w (n*t%p)):=by
 refine DW ?_ ms;have hb:2<=p/\p<=997:=⟨hp.1,hp.2.1⟩
 have b1:=HN hn ht hb.2;refine Au func227 ntmps227 Y Y (λw0 hw0=>?_);simp only[A6];refine Aq (AP [_,_,_] Y Y (by rfl) Y Y Y (λg3=>Qm Y (BM (Qm Y (Qf Sv Y (Ql Y U3 (Cell.blk 0 Y Y) (Qx (oM Y) Y (Qf Tz Y (Ql Y U3 (Cell.blk 0 Y Y) (Qx (BH Y Y Y ω ω) Y (Qm Y (Am (An ?_)))))))))))));exact Ap Y Y (Y)
theorem Abk(r c:Nat)(F:Nat->Nat->Int)(ev:Value)(at_ k:Nat)(t p n:Int)(h:Hp)(hR:RdL cI 1 h [] ev (BV r c F))(ha:at_<r)(hk:k<c)(hp:IsP p)(hn:0<=n/\n<p)(hF:0<=F at_ k/\F at_ k<p)(ht:0<=t/\t<p) :
  FnV Tryz.prog 228 #[.agg #[Cj 1 ev (at_*c) ((at_+1)*c),.w t,.w p],.w k,.w n] h [] (.w ((n+F at_ k*t)%p)):=by
 refine FnT.toV ?_;have hb:2<=p/\p<=997:=⟨hp.1,hp.2.1⟩
 have b1:=HN hF ht hb.2;have hRa:=hR.row ha;have ea:=Cd c (F at_);refine Au func228 ntmps228 Y Y (λw0 hw0=>?_);simp only[A6];refine Aq (AP [_,_,_] Y Y (by rfl) Y Y Y (λg3=>Qm Y (Am (Ax λh' hle hS=>?_))));have hRa:=hRa.up hle;have hA:=Seg.all hS;have hA0:=hA 0 _ Y;refine Ac (BK (n:=14) (bs:=[true,true,true,true,true,true,true,true,true,true,true,true,true,false]) [true,true,true,true,true,true,true,true,true,true,true,true,true] CT κ κ Y Y (Qq Y (QF ZR Y (QL Y AN (hA _ _ Y _) (Qq Y (Qp Y (BN (k) hRa.rd.any Y AN A0 Y Y) (QL Y U3 (hRa.any.ev hk) (QF Sv Y (QL Y U3 (hA _ _ Y _) (Qp Y (oM Y) (Qp Y (oA Y) (QF Tz Y (QL Y U3 (hA _ _ Y _) (Qp Y (BH Y Y Y ω ω) ?_))))))))))))));unfold Fm;simp only[bl,ay];refine Qo 13 Y (Qm Y (Qw (Qe (Ad (An ?_)))));exact Ap Y Y (Y)
theorem Yf(l:List Int)(v:Value)(h:Hp)(hR:RdL cI 1 h [] v l)(hl:l.length<=1000000):FnT Tryz.prog 222 #[v] h [] (λx h' ms'=>h=h'/\∃m,ms'=[m]/\OwnL cI 1 3 m x l):=by
 refine Au func222 ntmps222 Y Y (λw0 hw0=>?_);simp only[A6];refine Aq (Qm Y (Am (Ac (Aq (Qm Y (Qx (Ll hR.rd.any Y AN Y Y) Y (Am ?_)))))));refine BG Y (λhn=>?_) (λhn=>?_)
 ·have h0:=JU hR.rd hn;obtain rfl:l=[]:=dn h0;refine Aq (Qm Y (Am (An (Ae (JV ?_)))));exact Ap Y Y (⟨Y,_,Y,OwnL.nil Bi⟩)
 ·refine Ah (Ad (Aq ?_));refine AB [] [] [] rfl AN A0 rfl ω κ (by repeat (first|exact ff|refine⟨⟨by first|rfl|exact(hR.rd.any).cells|exact Rd.cells ‹_›|exact(RdL.rd ‹_›).cells,rfl,rfl⟩,?_⟩)) rfl rfl rfl rfl (λg5=>?_);refine Qm rfl ?_;have hO:OwnL cI 1 3 (Bh g5 3 []) (.slice (some ⟨g5,0,none⟩) 0 0) []:=OwnL.blk (l:=([]:List Int)) 0 Bi rfl ω;refine AU 0 hO hR.any rfl AN A0 rfl ω rfl rfl rfl B5 (by simp;omega) (by simp;omega) rfl rfl rfl (λv' m' hO'=>?_);refine Qm rfl (Am (An ?_));exact Ap rfl rfl (⟨rfl,m',rfl,hO'⟩)
theorem AbE{o:Oper}{s:AF}{h:Hp}{ms:List Hp}{x:Operand}{p:Int}{r c:Nat}{ev':Value}(ho:o.op=.build 255 #[(0,x)])(hx:ev s x=some (.agg #[.int .i64 p,.int .i64 r,.int .i64 c,ev']))(h1:ev'.oneCell'=true) :
  OX Tryz.prog o s h ms (.agg (cR p r c ev' (replicate 998 (.w 0))).toArray):=
 Bb AbU ([.w 0,.w 0,.w 0,.nl]++replicate 998 (.w 0)) [(0,[.w p,.w r,.w c,ev'])] _ (lp:=[(0,x)]) (vs:=[(0,.agg #[.w p,.w r,.w c,ev'])]) ho Acr κ (by simp only[ZA,hx]) ⟨⟨rfl,rfl,rfl⟩,ff⟩ rfl
def Yi(pv:List Nat):List Int:=pv.map λ(k:Nat)=>(k:Int)
theorem Oe(pv:List Nat):(Yi pv).length=pv.length:=by simp[Yi]
theorem XE{h:Hp}{ms:List Hp}{m2:Hp}{vp:Value}{pv:List Nat}(O:OwnL cI 1 3 m2 vp (Yi pv))(hm:m2∈ms):Rd h ms vp 1 pv.length ((Yi pv).flatMap cI):=by
 have:=(O.rd (h:=h) hm).rd
 rwa [Oe]at this
theorem AcL(p:Int):Ovk p (replicate 998 0):=⟨length_replicate,λn hn=>.inl (List.getElem_replicate _)⟩
def MW(p:Int)(t i j:Nat)(v:Int)(F:Nat->Nat->Int)(k a b:Nat):Int:=if a<k then RY p t i j v F a b else EP p t i v F a b
theorem Aaw(p:Int)(t i j:Nat)(v:Int)(F:Nat->Nat->Int)(k b:Nat):MW p t i j v F k t b=EP p t i v F t b:=by
 unfold MW;split
 ·unfold RY;rw[ac rfl]
 ·rfl
theorem SC(p:Int)(t i j:Nat)(v:Int)(F:Nat->Nat->Int)(k b:Nat):MW p t i j v F k k b=EP p t i v F k b:=aa ω
theorem WY(p:Int)(t i j:Nat)(v:Int)(F:Nat->Nat->Int)(k a b:Nat)(hk:k≠t):(if a=k then(EP p t i v F k b+EP p t i v F t b*(p-EP p t i v F k j))%p else MW p t i j v F k a b)=MW p t i j v F (k+1) a b:=by
 unfold MW;by_cases h:a=k
 ·subst h;rw[ac rfl,ac ω];unfold RY;rw[aa hk]
 ·rw[aa h];by_cases h2:a<k
  ·rw[ac h2,ac ω]
  ·rw[aa h2,aa ω]
theorem PS(p:Int)(t i j:Nat)(v:Int)(F:Nat->Nat->Int)(k a b:Nat)(h:k=t\/(EP p t i v F k j=0/\0<=EP p t i v F k b/\EP p t i v F k b<p)):MW p t i j v F k a b=MW p t i j v F (k+1) a b:=by
 unfold MW;by_cases h1:a<k
 ·rw[ac h1,ac ω]
 ·rw[aa h1];by_cases h2:a=k
  ·subst h2;rw[ac ω];unfold RY;rcases h with rfl|⟨h3,h4,h5⟩
   ·rw[ac rfl]
   ·by_cases h6:a=t
    ·rw[ac h6,h6]
    ·rw[aa h6,h3,Int.sub_zero,Int.add_mul_emod_self_right,gt h4 h5]
  ·rw[aa ω]
theorem Xx(p:Int)(t i j:Nat)(v:Int)(F:Nat->Nat->Int)(a b:Nat):(if a=t then F (Ib t i t) b*v%p else F (Ib t i a) b)=MW p t i j v F 0 a b:=by unfold MW EP;rw[aa (show ¬a<0 by omega)]
theorem Z0(p:Int)(t i j:Nat)(v:Int)(F:Nat->Nat->Int)(r a b:Nat)(ha:a<r):MW p t i j v F r a b=RY p t i j v F a b:=ac ha
theorem Aa8{p:Int}(hp:2<=p){r c t i:Nat}{v:Int}{F:Nat->Nat->Int}(ht:t<r)(hi:i<r)(hF:∀a,a<r->∀b,b<c->0<=F a b/\F a b<p)(a:Nat)(ha:a<r)(b:Nat)(hb:b<c):0<=EP p t i v F a b/\EP p t i v F a b<p:=by
 unfold EP;split
 ·exact⟨co _ ω,bw _ ω⟩
 ·exact hF _ (HC ht hi ha) b hb
theorem XT(pv:List Nat)(j:Nat):Yi pv++[(j:Int)]=Yi (pv++[j]):=by simp[Yi]
theorem Z2{h:Hp}{ms:List Hp}{g:Nat}{p:Int}{r c:Nat}{ev:Value}{ov:List Value}(hm:ms[0]?=some (BR g p r c ev ov)):Seg h ms ((⟨g,0,none⟩:Addr).add 0) [.int .i64 p,.int .i64 r,.int .i64 c,ev]:=λk u hu=>by
 rw[B9,Nat.zero_add];refine Cell.blk 0 hm ?_;rcases k with _|_|_|_|k
 ·exact hu
 ·exact hu
 ·exact hu
 ·exact hu
 ·simp at hu
structure Ech(p:Int)(r c:Nat)(f F:Nat->Nat->Int)(pv:List Nat):Prop where
 red:Go.Lin.Red p r c f F pv c
theorem Rq(p:Int)(r c:Nat)(f:Nat->Nat->Int)(ev:Value)(h:Hp)(hp:IsP p)(hr:r<=400)(hc:c<=800)(hf:InP p r c f)(hR:RdL cI 1 h [] ev (BV r c f)) :
  FnT Tryz.prog 184 #[.agg #[.w p,.w r,.w c,ev]] h [] (λx h' ms'=>h.le h'/\∃(F:Nat->Nat->Int) (pv:List Nat) (eu vp:Value) (m m2:Hp),x=.tuple #[.agg #[.w p,.w r,.w c,eu],vp]/\ms'=[m,m2]/\OwnL cI 1 3 m eu (BV r c F)/\OwnL cI 1 3 m2 vp (Yi pv)/\Ech p r c f F pv):=by
 have hb:2<=p/\p<=997:=⟨hp.1,hp.2.1⟩
 have e1:=hR.rd.one;have b2:r*c<=400*800:=dh hr hc;have el:(BV r c f).length=r*c:=BO _ _ _;refine Au func184 ntmps184 Y Y (λw0 hw0=>?_);simp only[A6];refine Aq (AP [_,_,_,_] Y Y (by rfl) Y Y Y (λg1=>Cx [.w 0,.w 0,.w 0,.nl] Y A4 Y Y (λg2=>Qm Y (Am (Xp (Aq (Qf Bl Y (Ql Y AN (Cell.blk 1 Y Y) (Qc call222 Y (Yf (BV r c f) ev h hR ω) (λeu h1 ms1 l1 hF=>?_))))))))));obtain⟨rfl,m,rfl,hO⟩:=hF;have e2:=hO.o1;refine Qf Bl Y ?_;refine AO 2 _ Y CI Y Y (by assumption) Y Y (by(simp;done)) rfl rfl ?_;refine Am (Bj 2 Y λh' hle hS=>?_);have hA:=Seg.all hS;have hA0:=hA 0 _ Y;refine Aq (Qx (oG Y Dr A4 (Seg.any hS)) Y (Qx (AbE Y Y e2) Y (AP (cR p r c eu (replicate 998 (.w 0))) Y Y Y Y Y Y (λg17=>?_))));rw[Wo];refine Qm Y (BM (Qm Y (Am (Ac (XH (Ad (BT (Jk (ms':=[BR g17 p r c eu ((replicate 998 0).flatMap cI),m,Hp.emp,Bh g2 65 [.w 0,.w 0,.w 0,.nl]]) ((List.Perm.swap _ _ _).trans ((List.Perm.swap _ _ _).cons _)) (Ac (Aq (Qf BU Y (Ql Y U3 (hA _ _ Y _) (Qm Y (Am (Ag ?_)))))))))))))))
 refine Ay (λq s hh ms'=>∃(j:Nat) (F:Nat->Nat->Int) (pv:List Nat) (vp:Value) (ov:List Int) (m m2:Hp),q=c-j/\s=[(1,.pt g1),(2,.pt g2),(4,.pt g17),(5,vp),(19,.w c),(20,.w j)]/\h'=hh/\ms'=[BR g17 p r c eu (ov.flatMap cI),m,m2,Bh g2 65 [.w 0,.w 0,.w 0,.nl]]/\j<=c/\OwnL cI 1 3 m eu (BV r c F)/\OwnL cI 1 3 m2 vp (Yi pv)/\Go.Lin.Red p r c f F pv j/\Ovk p ov)
  (c-0) _ ⟨0,f,[],_,replicate 998 0,m,_,rfl,rfl,rfl,rfl,ω,hO,OwnL.nil Bi,Go.Lin.Red.start hf,AcL p⟩ Qs ?_
 rintro q s hh ms' ⟨j,F,pv,vp,ov,m,m2,rfl,rfl,rfl,rfl,hj,hO,hO2,hRed,hov⟩;have hP:=λms hm=>XE (h:=h') (ms:=ms) hO2 hm;have ovp:=(hP [m2] Mh).one;have hlr:=hRed.len;refine Aq (Qm Y (Am (Ac ?_)));refine Ao Y (λhlt=>?_) (λhlt=>?_)
 ·have hjc:j<c:=ω
  refine Ah (Ad (Ac (Ag (Aq (Qm Y (Qm Y (BM (Qm Y (Qx (As (hP _ (List.Mem.tail _ (List.Mem.tail _ Mh))) Y AN Y) Y (Qm Y (BM (Qm Y (Qm Y (Am (Ag ?_)))))))))))))))
  refine Ay (λq s hh ms'=>∃(i:Nat),q=r-i/\s=[(1,.pt g1),(2,.pt g2),(4,.pt g17),(5,vp),(6,.w j),(7,.w pv.length),(8,.w i),(19,.w c),(20,.w j)]/\h'=hh/\ms'=[BR g17 p r c eu (ov.flatMap cI),m,m2,Bh g2 65 [.w 0,.w 0,.w 0,.nl]]/\pv.length<=i/\i<=r/\∀a,pv.length<=a->a<i->F a j=0)
   (r-pv.length) _ ⟨pv.length,rfl,rfl,rfl,rfl,ω,ω,λa h1 h2=>ω⟩ Qs ?_
  rintro q s hh ms' ⟨i,rfl,rfl,rfl,rfl,hli,hir,hno⟩;have hRow:=λi hi=>(hO.rd (h:=h') (ms:=[m]) Mh).row (i:=i) hi;have hcell:∀i,i<r->∀ms,m∈ms->Cell h' ms ((AG (Cj 1 eu (i*c) ((i+1)*c))).add (j*1)) (.w (F i j)):=λi hi ms hm=>((hO.rd (h:=h') hm).row hi).ev hjc;refine Ac (Aq (Qm Y (Qf CQ Y (Ql Y U3 (hA _ _ Y _) (Qm Y (Am ?_))))));refine Ao Y (λhlt2=>?_) (λhlt2=>?_)
  ·have hi:i<r:=ω
   have ec:=Cd c (F i);refine Ah (Ad (Ac (Ag (Ac (Aq (Qm Y (Qm Y (Qx (AH Y call223 Y (CF λh' hl hm=>Ko g17 p r c F eu _ _ h' (Seg.ofLe (hm _ Mh)) (hO.rdh (hm _ (List.Mem.tail _ Mh))) (by assumption) hr hc)) Y (Qm Y (Qx (Bk (j) (hRow i hi).rd Y AN A0 Y Y ω ω) Y (Ql Y U3 (hcell i hi _ (List.Mem.tail _ Mh)) (Qm Y (Am ?_)))))))))))));refine Ao Y (λhz=>?_) (λhz=>?_)
   ·refine Av (Aa (Af (Ad (Ab (Qm Y (Qx (oA Y) Y (Qm Y (Ak ?_))))))));refine Al (r-(i+1)) _ ω ⟨i+1,Y,Y,Y,Y,ω,ω,λa h1 h2=>?_⟩ Qs;rcases (ω:a<i\/a=i) with h3|rfl
    ·exact hno a h1 h3
    ·exact hz
   ·have ht:pv.length<r:=ω
    refine Ah (Ad (Aq (Qm Y (Qm Y (Qm Y ?_)))));have hFi:=hRed.bd i hi j hjc;have hd0:=hRed.bd;have hsi:Ib pv.length i pv.length=i:=by simp[Ib]
    refine Bs (pre:=[BR g17 p r c eu (ov.flatMap cI),m]) Y call224 Y (Zm g17 p r c F eu _ m pv.length i h' hO ht hi hr hc) Y Y Y Y (λx h2 ms2 l2 hF=>?_);obtain⟨rfl,m,rfl,hO⟩:=hF
    have hcell1:∀ms,m∈ms->Cell h' ms ((AG (Cj 1 eu (pv.length*c) ((pv.length+1)*c))).add (j*1)) (.w (F i j)):=λms hm=>by have:=((hO.rd (h:=h') hm).row ht).ev hjc;rw[hsi]at this;exact this
    have hRow1:=λi hi=>(hO.rd (h:=h') (ms:=[m]) Mh).row (i:=i) hi;have ec1:=Cd c (λb=>F (Ib pv.length i pv.length) b);refine Am (Ac (BK (n:=16) (bs:=[true,true,false,true,true,true,false,true,false,false,false,true,true,false,false,false]) [true,true,false,true,true,true,false,true,false,false,false,true,true] CT κ κ rfl rfl (Qq rfl (Qq rfl (Qq rfl (Qq rfl (Qq rfl (Qq rfl (QF Cz rfl (QL rfl U3 (hA0 _) ?_))))))))));unfold Fm;simp only[bl,ay];refine Qo 2 rfl (Qx (AH rfl call223 rfl (CF λh' hl hm=>Ko g17 p r c (λa b=>F (Ib pv.length i a) b) eu _ _ h' (Seg.ofLe (hm _ Mh)) (hO.rdh (hm _ (List.Mem.tail _ Mh))) (by assumption) hr hc)) rfl (Qw (Qo 6 rfl (Qx (AH rfl call223 rfl (CF λh' hl hm=>Ko g17 p r c (λa b=>F (Ib pv.length i a) b) eu _ _ h' (Seg.ofLe (hm _ Mh)) (hO.rdh (hm _ (List.Mem.tail _ Mh))) (by assumption) hr hc)) rfl (Qw (Qo 8 rfl (Qx (Bk (j) (hRow1 pv.length ht).rd rfl AN A0 rfl rfl ω ω) rfl (Qw (Qo 9 rfl (Ql rfl U3 (hcell1 _ (List.Mem.tail _ Mh)) (Qw (Qo 10 rfl (Bs (pre:=[BR g17 p r c eu (ov.flatMap cI)]) rfl call226 rfl (X2 g17 p r c eu ov (F i j) h' hp hov ω ω) rfl rfl rfl rfl (λx h2 ms2 l2 hv=>?_))))))))))))));obtain⟨rfl,v,ov,rfl,rfl,hov,hv0,hvp,hv1⟩:=hv;refine Qw (Qo 13 rfl ?_);refine Qx (Bb Aas [.nl,.w 0,.w 0] [(0,_),(1,_),(2,_)] [_,_,_] rfl AaE rfl rfl (by repeat (first|exact ff|refine⟨⟨rfl,rfl,rfl⟩,?_⟩|refine⟨⟨((hRow1 pv.length ht).rd).cells,rfl,rfl⟩,?_⟩)) rfl) rfl ?_;refine Qw (Qo 14 rfl (Qx (Cc rfl rfl rfl) rfl (Qw (Qo 15 rfl (KI ?_)))));refine Bs (pre:=[m]) rfl call225 rfl (QQ r c (λa b=>F (Ib pv.length i a) b) pv.length (λb=>F (Ib pv.length i pv.length) b*v%p) eu m 227 [.agg #[.nl,.w v,.w p]] h' hO ht hr hc call227 (λk hk m' hO'=>YA v p k _ h' hp (hd0 _ (by rw[hsi];exact hi) k hk) ⟨Int.le_of_lt hv0,hvp⟩ _)) rfl rfl rfl rfl (λx h2 ms2 l2 hE=>?_);obtain⟨rfl,m,rfl,hO⟩:=hE;refine KI (Qw (Qe (Ad (Ac (Aq (Qf CQ rfl (Ql rfl U3 (hA _ _ rfl _) (Qm rfl (Am (Ag ?_))))))))));have hb2:=Aa8 (v:=v) hb.1 ht hi hd0
    refine Ay (λq s hh ms'=>∃(k:Nat) (m:Hp),q=r-k/\s=[(1,.pt g1),(2,.pt g2),(4,.pt g17),(5,vp),(6,.w j),(7,.w pv.length),(19,.w c),(20,.w j),(60,.w r),(61,.w k)]/\h'=hh/\ms'=[BR g17 p r c eu (ov.flatMap cI),m,m2,Bh g2 65 [.w 0,.w 0,.w 0,.nl]]/\k<=r/\OwnL cI 1 3 m eu (BV r c (MW p pv.length i j v F k)))
     (r-0) _ ⟨0,m,rfl,rfl,rfl,rfl,ω,by rw[AW (λa _ b _=>Xx p pv.length i j v F a b)]at hO;exact hO⟩ Qs ?_
    rintro q s hh ms' ⟨k,m,rfl,rfl,rfl,rfl,hkr,hO⟩;have hcell2:∀a,a<r->∀ms,m∈ms->Cell h' ms ((AG (Cj 1 eu (a*c) ((a+1)*c))).add (j*1)) (.w (MW p pv.length i j v F k a j)):=λa ha ms hm=>((hO.rd (h:=h') hm).row ha).ev hjc;have hRow2:=λi hi=>(hO.rd (h:=h') (ms:=[m]) Mh).row (i:=i) hi;refine Aq (Qm Y (Am (Ac ?_)));refine Ao Y (λhltk=>?_) (λhltk=>?_)
    ·have hk:k<r:=ω
     have eck:=Cd c (MW p pv.length i j v F k k);have hn:=hb2 k hk j hjc;have hkk:=SC p pv.length i j v F k;refine Ah (Ad (Ac (Ag (Aq (Qm Y (Qm Y (BM (Qm Y (Qm Y (Qx (AH Y call223 Y (CF λh' hl hm=>Ko g17 p r c (MW p pv.length i j v F k) eu _ _ h' (Seg.ofLe (hm _ Mh)) (hO.rdh (hm _ (List.Mem.tail _ Mh))) (by assumption) hr hc)) Y (Qm Y (Qx (Bk (j) (hRow2 k hk).rd Y AN A0 Y Y ω ω) Y (Ql Y U3 ((hkk j ▸ hcell2 k hk _ (List.Mem.tail _ Mh))) (Qm Y (BM (Qm Y (Qm Y (Qm Y (Qm Y ?_)))))))))))))))))));refine AL (t:=73) Y (λhkt=>?_) (λhkt=>?_)
     ·have hkt':k≠pv.length:=ω
      refine Qg (Ar Y Y) Y (Qg (Ct Y Y Y) Y (Qm Y (Am ?_)));refine Ao Y (λhn0=>?_) (λhn0=>?_)
      ·refine BK (n:=15) (bs:=[true,true,false,true,true,false,true,true,true,true,true,true,false,false,false]) [true,true,false,true,true,false,true,true,true,true,true,true] CT κ κ rfl rfl (Qq rfl (Qq rfl (Qq rfl (Qq rfl (QF Cz rfl (QL rfl U3 (hA0 _) (Qq rfl (Qp rfl (oS rfl) (QF Cz rfl (QL rfl U3 (hA0 _) ?_))))))))));unfold Fm;simp only[bl,ay];refine Qo 2 rfl (Qx (AH rfl call223 rfl (CF λh' hl hm=>Ko g17 p r c (MW p pv.length i j v F k) eu _ _ h' (Seg.ofLe (hm _ Mh)) (hO.rdh (hm _ (List.Mem.tail _ Mh))) (by assumption) hr hc)) rfl (Qw (Qo 5 rfl (Qx (AH rfl call223 rfl (CF λh' hl hm=>Ko g17 p r c (MW p pv.length i j v F k) eu _ _ h' (Seg.ofLe (hm _ Mh)) (hO.rdh (hm _ (List.Mem.tail _ Mh))) (by assumption) hr hc)) rfl (Qw (Qo 12 rfl ?_))))));refine Qx (Bb Aas [.nl,.w 0,.w 0] [(0,_),(1,_),(2,_)] [_,_,_] rfl AaE rfl rfl (by repeat (first|exact ff|refine⟨⟨rfl,rfl,rfl⟩,?_⟩|refine⟨⟨((hRow2 pv.length ht).rd).cells,rfl,rfl⟩,?_⟩)) rfl) rfl ?_;refine Qw (Qo 13 rfl (Qx (Cc rfl rfl rfl) rfl (Qw (Qo 14 rfl (KI ?_)))));refine Bs (pre:=[m]) rfl call225 rfl (QQ r c (MW p pv.length i j v F k) k (λb=>(EP p pv.length i v F k b+EP p pv.length i v F pv.length b*(p-EP p pv.length i v F k j))%p) eu m 228 [.agg #[Cj 1 eu (pv.length*c) ((pv.length+1)*c),.w (p-EP p pv.length i v F k j),.w p]] h' hO hk hr hc call228 (λb hbc m' hO'=>CF λh'' hl hm=>by have:=Abk r c _ eu pv.length b (p-EP p pv.length i v F k j) p (MW p pv.length i j v F k k b) h'' (hO'.rdh (hm _ Mh)) ht hbc hp (by rw[SC];exact hb2 k hk b hbc) (by rw[turn_ne _ _ _ _ _ _ (fw hkt'),Aaw];exact hb2 _ ht b hbc) ω;rw[turn_ne _ _ _ _ _ _ (fw hkt'),Aaw,SC]at this;rw[SC];exact this)) rfl rfl rfl rfl (λx h2 ms2 l2 hE=>?_);obtain⟨rfl,m,rfl,hO⟩:=hE;refine KI (Qw (Qe (Ai (Ad (Ab (Qx (oA rfl) rfl (Qm rfl (Ak ?_))))))));refine Al (r-(k+1)) _ ω ⟨k+1,m,rfl,rfl,rfl,rfl,ω,by rw[AW (λa _ b _=>WY p pv.length i j v F k a b hkt')]at hO;exact hO⟩ Qs
      ·refine Ah (Ai (Ad (Ab (Qx (oA Y) Y (Qm Y (Ak ?_))))));refine Al (r-(k+1)) _ ω ⟨k+1,m,Y,Y,Y,Y,ω,?_⟩ Qs;rw[AW (λa _ b hbc=>PS p pv.length i j v F k a b (.inr ⟨ω,hb2 k hk b hbc⟩))]at hO;exact hO
     ·refine Qk Y (Qk Y (Qm Y (Am (AQ Y (Ah (Ai (Ad (Ab (Qx (oA Y) Y (Qm Y (Ak ?_)))))))))));refine Al (r-(k+1)) _ ω ⟨k+1,m,Y,Y,Y,Y,ω,?_⟩ Qs;rw[AW (λa _ b hbc=>PS p pv.length i j v F k a b (.inl ω))]at hO;exact hO
    ·obtain rfl:k=r:=ω
     refine Av (Aa (Aa (Af (Ad (Aq (Qm Y (Qm Y (Aw [_] Y AN A0 Y (by rfl) Y Y ω Y Y Y (λg95=>AU 3 hO2 (RdL.one Bi Mh Y) Y AN A0 Y ω Y Y Y B5 (by simp only[Oe,ab];omega) (by simp only[Oe,ab];omega) rfl rfl rfl (λvp' m2' hO2'=>?_))))))))));rw[XT]at hO2';refine Qm Y (Am (Av (EE Y (Aa (Aa (EE Y (Af (Ad (Ab (Qx (oA Y) Y (Qm Y (Ak (AX ?_)))))))))))));refine Al (c-(j+1)) _ ω ⟨j+1,RY p pv.length i j v F,pv++[j],vp',ov,m,m2',Y,Y,Y,Y,ω,by rw[AW (λa ha b _=>Z0 p pv.length i j v F k a b ha)]at hO;exact hO,hO2',hRed.step hb.1 hi hli hjc hv1,hov⟩ Qs
  ·refine Av (Aa (Aa (Af (Ai (Ad (Ab (Qx (oA Y) Y (Qm Y (Ak ?_)))))))));refine Al (c-(j+1)) _ ω ⟨j+1,F,pv,vp,ov,m,m2,Y,Y,Y,Y,ω,hO,hO2,hRed.skip λa ha hl=>hno a hl ω,hov⟩ Qs
 ·obtain rfl:j=c:=ω
  refine Av (Aa (Aa (Af (Ad (Aq (Qm Y (Qm Y (Qf F7 Y (Qx (oG Y Dr A4 (Z2 Y)) Y (Qm Y ?_))))))))));refine Sa 3 [_,_,_,_] A4 Y (by simp[e2]) ?_;refine Qm Y (Am (An (NF (AX ?_))));exact Ed (vs:=[_,_,_,_]) 2 Y Y Y Dr Y A4 Y Y (⟨AE l1 hle,F,pv,eu,vp,m,m2,Y,Y,hO,hO2,⟨hRed⟩⟩)
theorem RD(p:Int)(r c:Nat)(f:Nat->Nat->Int)(ev:Value)(h:Hp)(R:RtM p r c f)(hR:RdL cI 1 h [] ev (BV r c f)) :
  FnT Tryz.prog 124 #[.agg #[.w p,.w r,.w c,ev]] h [] (λx h' ms'=>h.le h'/\∃(F:Nat->Nat->Int) (pv:List Nat) (eu vp:Value) (m m2:Hp),x=.tuple #[.agg #[.w p,.w r,.w c,eu],vp]/\ms'=[m,m2]/\OwnL cI 1 3 m eu (BV r c F)/\OwnL cI 1 3 m2 vp (Yi pv)/\Ech p r c f F pv):=by
 refine Au func124 ntmps124 Y Y (λw0 hw0=>?_);simp only[A6];refine Aq (AP [_,_,_,_] Y Y (by rfl) Y Y Y (λg1=>Cx [.w 0,.w 0,.w 0,.nl] Y A4 Y Y (λg2=>Qm Y (Am (Ac (Aq (Qx (oG Y Dr A4 (Seg.blk 1 Y)) Y (Qx (AH Y call183 Y (Y0 R hR _)) Y (Qm Y (Am (AQ Y (Ah (Ad (Aq (Qx (oG Y Dr A4 (Seg.blk 1 Y)) Y ?_)))))))))))))));refine Qc call184 Y (Rq p r c f ev h R.pr R.rl (by have:=R.cl;omega) R.en hR) (λx h1 ms1 l1 hF=>?_);obtain⟨l2,F,pv,eu,vp,m,m2,rfl,rfl,hO,hO2,hE⟩:=hF;have oe:=hO.o1;refine Qm Y (Qm Y ?_);refine Sa 2 [_,_,_,_] A4 Y (by simp[oe]) ?_;refine Qm Y (Am (An (AZ 3 Y ?_)));exact Ed (vs:=[_,_,_,_]) 2 Y Y Y Dr Y A4 Y Y (⟨l1,F,pv,eu,vp,m,m2,Y,Y,hO,hO2,hE⟩)
theorem XB(p:Int)(r c:Nat)(f:Nat->Nat->Int)(ev:Value)(h:Hp)(R:RtM p r c f)(hR:RdL cI 1 h [] ev (BV r c f)) :
  FnT Tryz.prog 59 #[.agg #[.w p,.w r,.w c,ev]] h [] (λx h' ms'=>h.le h'/\ms'=[]/\∃(F:Nat->Nat->Int) (pv:List Nat),x=.w pv.length/\Ech p r c f F pv):=by
 refine Au func59 ntmps59 Y Y (λw0 hw0=>?_);simp only[A6];refine Aq (AP [_,_,_,_] Y Y (by rfl) Y Y Y (λg1=>Qm Y (BM (Qx (oG Y Dr A4 (Seg.blk 0 Y)) Y (Qc call124 Y (RD p r c f ev h R hR) (λx h1 ms1 l1 hF=>?_))))));obtain⟨l2,F,pv,eu,vp,m,m2,rfl,rfl,hO,hO2,hE⟩:=hF;have oe:=hO.o1;refine Qm Y (Qm Y (Qm Y (Cx [.w 0,.w 0,.w 0,.nl] Y A4 Y Y (λg3=>?_))));refine Sa 0 [_,_,_,_] A4 Y (by simp[oe]) ?_;refine Qm Y (BM (Qm Y (Qx (ED (XE (h:=h) (ms:=[m2]) hO2 Mh) Y AN Y) Y (Qm Y (Am (An (AZ 3 Y (AZ 2 Y (AZ 1 Y (AZ 0 Y ?_))))))))));exact Ap Y Y (⟨l1,Y,F,pv,Y,hE⟩)
def GC(l:List Nat):List Nat:=(l.reverse.dropWhile (·==0)).reverse
theorem Li(l:List Nat):GC (l++[0])=GC l:=by simp[GC]
theorem FY{a:Nat}(l:List Nat)(h:a≠0):GC (l++[a])=l++[a]:=by simp[GC,h]
theorem F5(l:List Nat)(v:Value)(h:Hp)(R:RdL CM 1 h [] v l)(hl:l.length<=1000000) :
  FnT Tryz.prog 229 #[v] h [] (λr h' ms'=>h.le h'/\ms'=[]/\RdL CM 1 h' [] r (GC l)):=by
 refine Au func229 ntmps229 Y Y (λw0 hw0=>?_);simp only[A6];refine Aq (Qm Y (Am (Ac (Ag ?_))))
 refine Ay (λq sl h' ms'=>∃(k:Nat) (u:Value),k=q/\sl=[(0,u),(2,.nl)]/\h=h'/\ms'=[]/\k<=l.length/\RdL CM 1 h [] u (l.take k)/\GC (l.take k)=GC l)
  l.length _ ⟨l.length,v,rfl,rfl,rfl,rfl,au _,by rw[ct];exact R,by rw[ct]⟩ Qs ?_
 rintro q sl h' ms' ⟨k,u,rfl,rfl,rfl,rfl,hk,hR,hs⟩;have hkl:(l.take k).length=k:=by rw[av];omega
 refine Ac (Aq (Qm Y (Qx (As hR.rd.any Y Ck Y) Y (Qm Y (Qm Y ?_)))));refine AL (t:=6) Y (λh1=>?_) (λh1=>?_)
 ·have hk0:0<k:=by have:=CX h1;omega
  obtain⟨a,ha⟩:∃a,l[k-1]'ω=a:=⟨_,Y⟩
  have hkt:l.take k=l.take (k-1)++[a]:=by have:=ak (l:=l) (i:=k-1) ω;rw[ha,show k-1+1=k by omega]at this;exact this
  have hc:Cell h [] ((AG u).add ((k-1)*1)) (.int .u64 (a:Int)):=by
   have hk1:k-1<(l.take k).length:=ω
   have e:(l.take k)[k-1]=a:=by rw[ji];exact ha
   exact hR.cell0 hk1 (by rw[e];rfl)
  refine Qg (Ar Y Y) Y (Qg (Ar Y Y) Y (Qg (As hR.rd.any Y Ck Y) Y (Qg (oS Y) Y (Qg (BN (k-1) hR.rd.any Y Ck CK Y Y) Y (Qg (oL Y Gc (hc)) Y (Qg (CO Y Y Y) Y (Qm Y (Am ?_))))))));refine Ao Y (λh2=>?_) (λh2=>?_)
  ·have ha0:a=0:=ω
   refine Ah (Ad (Ag (Ab (Qm Y (Qm Y (Qx (As hR.rd.any Y Ck Y) Y (Qx (oS Y) Y (Qx (Fk (k-1) hR.rd.any Y Ck CK Y Y ω ω) Y (Qm Y (Ak (Ai ?_)))))))))))
   exact Al (k-1) _ ω ⟨k-1,Cj 1 u 0 (k-1),Y,Y,Y,Y,ω,by
    have:=RdL.sub_ hR (i:=0) (j:=k-1) ω (by rw[hkl];omega)
    simpa[List.take_take,gh (show k-1<=k by omega)] using this,by rw[<-hs,hkt,ha0,Li]⟩ Qs
  ·have ha0:a≠0:=ω
   refine Av (Aa (Aa (Af (Ad (Aq (Qm Y (Qm Y (Am (An ?_)))))))));exact Ap Y Y (⟨Da,Y,by rw[<-hs,hkt,FY _ ha0,<-hkt];exact hR⟩)
 ·have hk0:k=0:=ω
  subst hk0;refine Qk Y (Qk Y (Qk Y (Qk Y (Qk Y (Qk Y (Qk Y (Qm Y (Am (AQ Y (Av (Aa (Aa (Af (Ad (Aq (Qm Y (Qm Y (Am (An ?_)))))))))))))))))));exact Ap Y Y (⟨Da,Y,by rw[<-hs];exact hR⟩)
theorem Ab6(b:UInt8):b.toNat<256:=b.toNat_lt
theorem ZQ(neg:Bool)(h:Hp):FnT Tryz.prog 187 #[.agg #[.bool neg,sv []]] h [] (λr h' ms'=>h.le h'/\ms'=[]/\RdL CM 1 h' [] r []):=by
 refine Au func187 ntmps187 Y Y (λw0 hw0=>?_);simp only[A6];refine Aq (AP [_,_] Y Y (by rfl) Y Y Y (λg1=>Qm Y (Am (Ax λh1 l1 hS=>?_))));have e1:∀ms,Cell h1 ms ((⟨g1,0,none⟩:Addr).add 1) (sv []):=λms=>(hS 1 _ Y).any;refine Aq (Qf HK Y (Ql Y U9 (e1 _) (Qx (FS 0 Y Y U9 Y) Y (Qx (oA Y) Y (Qx (oS Y) Y (Qx (G7 Y Y Y ω ω) Y (CL (n:=0) Y Ck CK Y Y Y (by rfl) (by rfl) ω ω Y Y Y (λg12=>Qm Y (Am (Ac (Aq (Qf HK Y (Ql Y U9 (e1 _) (Qx (FS 0 Y Y U9 Y) Y (Qm Y (Am (Ag (Ay (λq sl h' ms'=>q=0/\sl=[(1,.pt g1),(3,.slice (some ⟨g12,0,none⟩) 0 0),(15,.w ((0:Nat):Int)),(16,.w 0)]/\h1=h'/\ms'=[Bh g12 222 []]) 0 _ ⟨Y,Y,Y,Y⟩ Qs ?_))))))))))))))))));rintro q sl h' ms' ⟨rfl,rfl,rfl,rfl⟩;refine Aq (Qm Y (Am (Ac ?_)));refine Ao Y (λhlt=>?_) (λhlt=>?_)
 ·exact jt hlt ω
 ·refine Av (Aa (Aa (Af (Ad ?_))));have hO:OwnL CM 1 222 (Bh g12 222 []) (.slice (some ⟨g12,0,none⟩) 0 0) []:=OwnL.blk (l:=([]:List Nat)) 0 Ec Y ω;refine A9 hO λh2 l2 hR=>(Aq (Qm Y (Bs (pre:=[]) Y call229 Y (F5 [] _ h2 hR σ) rfl rfl rfl rfl (λr h3 ms3 l3 hF=>?_))))
  obtain⟨l3',rfl,hR3⟩:=hF;refine Qm Y (Am (An ?_));exact Ap Y Y (⟨AE l1 (AE l2 l3'),Y,hR3⟩)
theorem YV(neg:Bool)(b:UInt8)(hb:b.toNat≠0)(h:Hp):FnT Tryz.prog 187 #[.agg #[.bool neg,sv [b]]] h [] (λr h' ms'=>h.le h'/\ms'=[]/\RdL CM 1 h' [] r [b.toNat]):=by
 have hb8:=Ab6 b;refine Au func187 ntmps187 Y Y (λw0 hw0=>?_);simp only[A6];refine Aq (AP [_,_] Y Y (by rfl) Y Y Y (λg1=>Qm Y (Am (Ax λh1 l1 hS=>?_))));have e1:∀ms,Cell h1 ms ((⟨g1,0,none⟩:Addr).add 1) (sv [b]):=λms=>(hS 1 _ Y).any;refine Aq (Qf HK Y (Ql Y U9 (e1 _) (Qx (FS 1 Y Y U9 Y) Y (Qx (oA Y) Y (Qx (oS Y) Y (Qx (G7 Y Y Y ω ω) Y (CL (n:=1) Y Ck CK Y Y Y (by rfl) (by rfl) ω ω Y Y Y (λg12=>Qm Y (Am (Ac (Aq (Qf HK Y (Ql Y U9 (e1 _) (Qx (FS 1 Y Y U9 Y) Y (Qm Y (Am (Ag ?_)))))))))))))))));refine Ay (λq sl h' ms'=>∃(i:Nat) (m:Hp),1-i=q/\sl=[(1,.pt g1),(3,.slice (some ⟨g12,0,none⟩) 1 1),(15,.w ((1:Nat):Int)),(16,.w i)]/\h1=h'/\ms'=[m]/\i<=1/\OwnL CM 1 222 m (.slice (some ⟨g12,0,none⟩) 1 1) [if i=0 then 0 else b.toNat]) 1 _ ⟨0,_,Y,Y,Y,Y,ω,OwnL.blk (l:=[0]) 1 Ec Y ω⟩ Qs ?_;rintro q sl h' ms' ⟨i,m,rfl,rfl,rfl,rfl,hi,hO⟩;refine Aq (Qm Y (Am (Ac ?_)));refine Ao Y (λhlt=>?_) (λhlt=>?_)
 ·have hi0:i=0:=ω
  subst hi0;rw[ac rfl]at hO;refine Ah (Ad (Ac (Ag (Aq (Qm Y (Qm Y (BM (Qf HK Y (Ql Y U9 (e1 _) (Qx (FS 1 Y Y U9 Y) Y (Qx (oS Y) Y (Qm Y (Qx (oS Y) Y (Qm Y (Am ?_)))))))))))))));have hc:Cell h1 [m] ((AG (.slice (some ⟨g12,0,none⟩) 1 1)).add (0*1)) (.int .u64 ((0:Nat):Int)):=(hO.rd (h:=h1) (ms:=[m]) (.head _)).cell0 (j:=0) σ rfl;refine Bc 14 CT κ Y (Wm Y (Wm Y (AM (G7 Y Y Y ω ω) Y Y (AM (Co (0) Y Ck CK Y Y ω ω) Y Y (Wl Y Gc (hc) (Wf HK Y (Wl Y U9 (e1 _) (Wm Y (AM (TE (l:=[b]) 0 Y U9 Y Y Y σ) rfl rfl (AM (Jt (a:=((b.toNat:Nat):Int)) rfl U5 Gc rfl (EA ω)) rfl rfl (Wm rfl (AM (BH rfl rfl rfl ω ω) rfl rfl (AM (oM rfl) rfl rfl (AM (Sm (a:=b.toNat) (n:=0) rfl rfl rfl ω) rfl rfl (A7 (Qx (Wh (a:=0) (b:=b.toNat*2^0%18446744073709551616) rfl rfl rfl ω ω) rfl (Qx (Co (0) rfl Ck CK rfl rfl ω ω) rfl (Ca (f:=λn:Nat=>Value.int .u64 (n:Int)) 0 0 (λ_=>rfl) hO rfl CK rfl rfl rfl rfl σ rfl rfl (λm' hO'=>?_)))))))))))))))))))
  have e:(0 ||| b.toNat*2^0%18446744073709551616)=b.toNat:=by rw[Nat.zero_or,Nat.pow_zero,jk,fj ω]
  rw[e]at hO';refine Ak (Ai (Ad (Ab (Qx (oA Y) Y (Qm Y (Ak ?_))))));exact Al 0 _ ω ⟨1,m',Y,Y,Y,Y,ω,hO'⟩ Qs
 ·have hi1:i=1:=ω
  subst hi1;rw[aa δ]at hO;refine Av (Aa (Aa (Af (Ad (A9 hO λh2 l2 hR=>(Aq (Qm Y (Bs (pre:=[]) Y call229 Y (F5 [b.toNat] _ h2 hR σ) rfl rfl rfl rfl (λr h3 ms3 l3 hF=>?_)))))))));obtain⟨l3',rfl,hR3⟩:=hF;have e:GC [b.toNat]=[b.toNat]:=FY [] hb;rw[e]at hR3;refine Qm Y (Am (An ?_));exact Ap Y Y (⟨AE l1 (AE l2 l3'),Y,hR3⟩)
def Aa9(l:List Nat)(k:Nat):List Value:=[.int .i64 ((l.length:Int)-1-k),.int .u64 ((l.getD (l.length-1-k) 0:Nat):Int)]
theorem Vh(g:Nat)(v:Value)(l:List Nat)(h:Hp)(hG:Seg h [] ⟨g,0,none⟩ [v])(hR:RdL CM 1 h [] v l)(hn2:l.length<=1000000):Abs Tryz.prog 270 [.pointer (some ⟨g,0,none⟩)] h l.length (Aa9 l):=by
 intro lp X Y h1 ms hl hY h0;show FnT _ _ #[.func (.yield lp) #[] #[],.pt g] _ _ _;have hG:=hG.le hl;have hR:=hR.up hl;obtain⟨n,hn⟩:∃n,l.length=n:=⟨_,rfl⟩
 rw[hn]at hn2 hY;refine Au func270 ntmps270 rfl rfl (fun w0 hw0=>?_);simp only[A6];refine Ac (DJ (DV (oL rfl Ck ((hG.at0 rfl).any)) rfl rfl rfl (DV (As hR.rd.any rfl Ck rfl) rfl rfl rfl (DV (oS rfl) rfl rfl rfl (DV (GD rfl rfl) rfl rfl rfl (Gk (Ad (Ag ?_))))))))
 refine Ay (fun q s hh ms'=>∃(k:Nat),q=n-k/\s=[(0,.func (.yield lp) #[] #[]),(1,.pt g),(3,.w ((n:Int)-1-k))]/\h1.le hh/\k<=n/\X k hh ms')
  (n-0) [(0,.func (.yield lp) #[] #[]),(1,.pt g),(3,.w ((l.length:Int)-1))] ⟨0,rfl,by rw[hn,show((n:Int)-1-(0:Nat))=(n:Int)-1 by omega],Da,ω,h0⟩ Qs ?_
 rintro q s hh ms' ⟨k,rfl,rfl,lh,hk,hX⟩;refine Ac (Ac (DJ (DV (Ar rfl rfl) rfl rfl rfl (DV (HE rfl rfl rfl) rfl rfl rfl (Gk (Ad ?_))))));refine Ao rfl (fun hlt=>?_) (fun hlt=>?_)
 ·have hkn:k<n:=ω
  have hG2:=hG.le lh;have hR2:=hR.up lh;have hi:n-1-k<l.length:=ω
  have hc:∀ms,Cell hh ms ((AG v).add ((n-1-k)*1)) (.int .u64 ((l.getD (n-1-k) 0:Nat):Int)):=fun ms=>by rw[show l.getD (n-1-k) 0=l[n-1-k] by simp[List.getD,hi]];exact(hR2.any (ms:=ms)).cell0 hi rfl
  refine Ah (Ad (Ac (Ag (Ac (DJ (DV (Ar rfl rfl) rfl rfl rfl (DV (Ar rfl rfl) rfl rfl rfl (DV (oL rfl Ck ((hG2.at0 rfl).any)) rfl rfl rfl (DV (Ar rfl rfl) rfl rfl rfl (DV (BN (n-1-k) hR2.rd.any rfl Ck CK rfl rfl) rfl rfl rfl (DV (oL rfl Gc (hc _)) rfl rfl rfl ?_)))))))))));have hyk:=hY k hh ms' hkn lh hX;unfold Aa9 at hyk;rw[hn]at hyk;refine QP rfl rfl rfl (hyk) rfl rfl rfl (fun r h2 ms2 l2 hr=>?_);rcases hr with ⟨rfl,hX2⟩|⟨rfl,hX2⟩
  ·refine DV (DB rfl rfl) rfl rfl rfl (Gk (Ad (AQ rfl (Ah (Ai (Ad (DJ (DV (Ar rfl rfl) rfl rfl rfl (DV (oS rfl) rfl rfl rfl (DV (GD rfl rfl) rfl rfl rfl (Gk ?_)))))))))));refine Al (n-(k+1)) [(0,.func (.yield lp) #[] #[]),(1,.pt g),(3,.w ((n:Int)-1-k-1))] ω ⟨k+1,rfl,by rw[show((n:Int)-1-k-1)=(n:Int)-1-(k+1:Nat) by omega],AE lh l2,ω,hX2⟩ Qs
  ·refine DV (DB rfl rfl) rfl rfl rfl (Gk (Ad (A5 rfl (An (Aj (Ae (Ae (Aj ?_))))))));exact F6 rfl (.inr ⟨k,ω,hX2⟩)
 ·obtain rfl:k=n:=ω
  refine Av (Aa (Aa (Af ?_)));exact Cq rfl (.inl (by rw[hn];exact hX))
theorem P5(v:Value)(n:Nat)(cs:List Value)(h:Hp)(hR:Rd h [] v 1 n cs):FnT Tryz.prog 230 #[v] h [] (λr h' ms'=>h=h'/\∃g,r=.func (.func 270) #[] #[.pointer (some ⟨g,0,none⟩)]/\ms'=[Bh g 225 [v]]):=by refine Au func230 ntmps230 Y Y (λw0 hw0=>?_);simp only[A6];refine Aq (AP [_] Y Y (Rd.cells ‹_›) Y Y Y (λg1=>Qm Y (BM (Qx (Cc Y Y Y) Y (Qm Y (Am (An ?_)))))));exact Ap Y Y (⟨Y,_,Y,Y⟩)
def Iy(n:Nat):List UInt8:=if n=0 then [] else [UInt8.ofNat n]
def Hh(n:Nat):List Nat:=if n=0 then [] else [n]
theorem KB(n:Nat):(Hh n).length<=1:=by unfold Hh;split<;>simp
def b4(n k:Nat):List UInt8:=if k=0 then [] else [0,0,0,UInt8.ofNat n]
theorem Aak:∀a:UInt8,∀c∈cU8 a,c.oneCell'=true:=λa c hc=>by unfold cU8 at hc;rw[ao]at hc;subst hc;rfl
theorem Nx(l:List Nat)(neg:Bool)(v:Value)(n:Nat)(hn:n<256)(hs:GC l=Hh n)(h:Hp)(R:RdL CM 1 h [] v l)(hl:l.length<=1000) :
  FnT Tryz.prog 186 #[v,.bool neg] h [] (λr h' ms'=>h.le h'/\ms'=[]/\r=.agg #[.bool (neg&&decide (Iy n≠[])),sv (Iy n)]):=by
 have ov:=R.rd.one;refine Nk func186 ntmps186 Y Y (λw0 hw0=>?_);simp only[A6];refine Aq (Cx [.bool false,.string ByteArray.empty] Y CU Y Y (λg4=>BM (Qm Y (Qc call229 Y (F5 l v h R ω) (λr h1 ms1 l1 hF=>?_)))));obtain⟨l1',rfl,hR1⟩:=hF;rw[hs]at hR1;have or_:=hR1.rd.one;obtain⟨W,hW⟩:∃W,Hh n=W:=⟨_,Y⟩
 have hWl:W.length<=1:=by rw[<-hW];exact KB n
 rw[hW]at hR1;refine Qm Y (BM (Qm Y (Qx (As hR1.rd.any Y Ck Y) Y (Qx (oM Y) Y (W3 (n:=0) (cp:=4*W.length) Y WJ el5 Y Y Y Y ω ω ω ω Y Y Y (λg14=>Cx [.nl] Y Abg Y Y (λg5=>AO 0 0 Y Abg Y Y (by rfl) Y Y δ Y Y (Am (Ac (Aq (Qm Y (Qc call230 Y (P5 r W.length _ h1 hR1.rd) (λvf h2 ms2 l2 hF=>?_)))))))))))));obtain⟨rfl,gb,rfl,rfl⟩:=hF;refine Am (Ag (Ax λh2 l2 hGb=>?_));have hR2:=hR1.up l2;have hI:=Vh gb r W h2 hGb hR2 ω;refine Io (λk hh ms=>∃bv m,ms=[Bh g5 23 [bv],m,Bh g4 172 [.bool false,.string ByteArray.empty]]/\OwnL cU8 1 5 m bv (b4 n k)) (λk hh ms=>False) (λk s1 hh ms=>∃bv m,s1=[(1,.bool neg),(4,.pt g4),(5,.pt g5),(7,.int .u64 (n:Int))]/\ms=[Bh g5 23 [bv],m,Bh g4 172 [.bool false,.string ByteArray.empty]]/\OwnL cU8 1 5 m bv (b4 n k)) Y call270 hI (λk=>rfl) Y ?_ ?_ ?_ ?_ ?_
 ·exact⟨_,_,Y,⟨⟨by simp[b4],.inr ⟨g14,4*W.length,replicate (4*W.length) (.int .u8 0),rfl,by simp[b4],by simp[b4],by simp[b4],by show 4*W.length<=_;omega⟩⟩,Sr⟩⟩
 ·rintro w1 k hh ms1 hk lh ⟨bv,m,rfl,hO⟩;have hk0:k=0:=ω
  subst hk0;have hn0:n≠0:=by rintro rfl;rw[<-hW]at hk;simp[Hh]at hk
  have hWn:W=[n]:=by rw[<-hW];simp[Hh,hn0]
  have he:Aa9 W 0=[.w 0,.int .u64 (n:Int)]:=by rw[hWn];rfl
  rw[he];refine ES κ (Qm Y (Ak ?_));exact Az _ ⟨bv,m,Y,Y,hO⟩ Qs
 ·rintro w1 k s1 hh ms1 hk lh ⟨bv,m,rfl,rfl,hO⟩;have hk0:k=0:=ω
  subst hk0;have c24:IntKind.u8.wrap ((n/2^24:Nat):Int)=(((0:UInt8).toNat:Nat):Int):=by rw[ja ω];rfl
  have c16:IntKind.u8.wrap ((n/2^16:Nat):Int)=(((0:UInt8).toNat:Nat):Int):=by rw[ja ω];rfl
  have c8:IntKind.u8.wrap ((n/2^8:Nat):Int)=(((0:UInt8).toNat:Nat):Int):=by rw[ja ω];rfl
  have c0:IntKind.u8.wrap (n:Int)=(((UInt8.ofNat n).toNat:Nat):Int):=by simp[IntKind.wrap,IntKind.bits,IntKind.signed]
  have ovb:=hO.o1;refine PE (ES κ (Ql Y WJ (Cell.blk0 0 Y Y) (Qm Y (Qx (Ef (n:=24) Y Y Y ω) Y (Qx (Hj c24 Y Gc U5 Y) Y (Qm Y (Qx (Ef (n:=16) Y Y Y ω) Y (Qx (Hj c16 Y Gc U5 Y) Y (Qm Y (Qx (Ef (n:=8) Y Y Y ω) Y (Qx (Hj c8 Y Gc U5 Y) Y (Qm Y (Qx (Hj c0 Y Gc U5 Y) Y (AB [(0,_),(1,_),(2,_),(3,_)] [.int .u8 0,.int .u8 0,.int .u8 0,.int .u8 0] [_,_,_,_] Y WJ el5 Y ω κ Qt Y Y Y Y (λg31=>Bp 2 hO (⟨Rd.blk (n:=4) (c:=4) Mh Y (au _) ω,Sr⟩:RdL cU8 1 _ _ _ [(0:UInt8),0,0,UInt8.ofNat n]) Y WJ el5 Y ω Y Y Y (λa _=>Aak a) (by simp[b4]) (by simp[b4]) rfl rfl rfl (λv32 m' hO'=>?_))))))))))))))));have ov32:=hO'.o1;refine AO 1 0 Y Abg Y Y (by assumption) Y Y (by(simp;done)) rfl rfl ?_;refine Ak (Ai (AX ?_));exact Az [] ⟨v32,m',Y,hO'⟩ ff
 ·rintro D hh ms1 lh ⟨bv,m,rfl,hO⟩;have hRb:=(hO.rd (h:=hh) (ms:=[Bh g5 23 [bv],m,Bh g4 172 [.bool false,.string ByteArray.empty]]++[Mk D]) (.tail _ (.head _))).rd
  have ht:Lib.trimLeftB (b4 n W.length) 0=Iy n:=by
   rw[<-hW];unfold Hh Iy b4;by_cases h0:n=0
   ·subst h0;rfl
   ·rw[aa h0,aa h0,aa σ]
    have:UInt8.ofNat n≠0:=λe=>h0 (by
     have:=aw UInt8.toNat e
     simp at this;omega)
    simp[Lib.trimLeftB,this]
  have osv:(sv (Iy n)).oneCell'=true:=rfl;refine Ai (Ad (Aq (Ql Y WJ (Cell.blk0 0 Y Y) (Qx (Vx hRb Y Y WJ U5 U9 Y) Y ?_))));refine Qx (AH Y call231 Y (FnV.ofCalls (v:=sv (Iy n)) (λw=>(Tryz.strings_TrimLeft_one ⟨(b4 n W.length).toArray⟩ 0 δ w).mono λe w' h=>by rw[<-ht];exact h))) Y ?_;refine Qm Y (BM (Qm Y (Qm Y ?_)));refine FG (t:=37) Y (λhneg=>?_) (λhneg=>?_)
  ·refine Qg (Ar Y Y) Y (Qg (TU (l':=[]) Y Y Y) Y (Qm Y (Qm Y (Qx (Bb Aao [.bool false,.string ByteArray.empty] [(0,_),(1,_)] [_,_] Y CU Y Y Qt Y) Y ?_))));refine Sa 2 [_,_] CU Y (by simp[osv]) ?_;refine Am (An ?_);refine AX (AX ?_);refine KA 1 (.inr Y) Y ?_;exact BC (vs:=[_,_]) 0 Y Y Mp Y CU Y Y (⟨AE l1' (AE l2 lh),Y,by rw[hneg];rfl⟩)
  ·refine Qk Y (Qk Y (Qm Y (Qm Y (Qx (Bb Aao [.bool false,.string ByteArray.empty] [(0,_),(1,_)] [_,_] Y CU Y Y Qt Y) Y ?_))));refine Sa 2 [_,_] CU Y (by simp[osv]) ?_;refine Am (An ?_);refine AX (AX ?_);refine KA 1 (.inr Y) Y ?_;exact BC (vs:=[_,_]) 0 Y Y Mp Y CU Y Y (⟨AE l1' (AE l2 lh),Y,by rw[hneg];rfl⟩)
 ·rintro D k hh ms1 hk lh hF;exact hF.elim
def WD(n:Int):Value:=.agg #[.bool (decide (n<0)),sv (Iy n.natAbs)]
theorem bys_ne{n:Nat}:Iy n≠[]<->n≠0:=by unfold Iy;split<;>simp[*]
theorem Na(n:Nat):GC [n,0]=Hh n:=by
 rw[show [n,0]=[n]++[0] from Y,Li];unfold Hh;split
 ·rename_i h;subst h;rfl
 ·rename_i h;exact FY [] h
theorem Aaf(n:Int)(hn:-256<n/\n<256)(h:Hp):FnT Tryz.prog 126 #[.int .i64 n] h [] (λr h' ms'=>h.le h'/\ms'=[]/\r=WD n):=by
 obtain⟨m,hm⟩:∃m,n.natAbs=m:=⟨_,Y⟩
 have hm2:m<256:=ω
 refine Au func126 ntmps126 Y Y (λw0 hw0=>?_);simp only[A6];refine Aq (Cx [.bool false,.string ByteArray.empty] Y CU Y Y (λg2=>BM (Qm Y (Qx (CD Y U3 Gc Y) Y (Qm Y (Am ?_))))));refine Bg (λsl h' ms'=>sl=[(0,.w n),(2,.pt g2),(3,.int .u64 (m:Int))]/\h=h'/\ms'=[Bh g2 172 [.bool false,.string ByteArray.empty]]) ?_ (λs h ms hI=>?_)
 ·have e9:IntKind.u64.wrap (-(IntKind.u64.wrap n))=(m:Int)\/¬n<0:=by
   by_cases h0:n<0
   ·refine .inl ?_;simp only[IntKind.wrap,IntKind.bits,IntKind.signed];simp;omega
   ·exact .inr h0
  refine Aq (Qm Y (Qm Y (Am ?_)));refine Ao Y (λhlt=>?_) (λhlt=>?_)
  ·have e9:IntKind.u64.wrap (-(IntKind.u64.wrap n))=(m:Int):=e9.resolve_right (λh=>h hlt);refine Ab (Qm Y (Qx (YL e9 Y Y) Y (Qm Y (Ak ?_))));exact Az _ ⟨Y,Y,Y⟩ Qs
  ·have e3:IntKind.u64.wrap n=(m:Int):=by rw[EA ω];omega
   refine Ah ?_;exact Az _ ⟨Y,Y,Y⟩ (by rw[<-e3];exact Qs)
 ·obtain⟨rfl,rfl,rfl⟩:=hI
  have ea:((m &&& 4294967295:Nat):Int)=(m:Int):=by have:=Nat.and_two_pow_sub_one_eq_mod m 32;rw[show(2^32-1:Nat)=4294967295 from Y,fj ω]at this;rw[this]
  have es:((m/2^32:Nat):Int)=((0:Nat):Int):=by rw[ja ω]
  refine Aq (Qm Y (Qx (KM ea Y Y Y ω ω) Y (Qm Y (Qx (KZ es Y Y Y ω) Y (AB [(0,_),(1,_)] [.int .u64 0,.int .u64 0] [_,_] Y Ck CK Y ω κ Qt Y Y Y Y (λg14=>Qm Y (Qm Y (Ek λh3 l3 hS=>?_))))))));have hR:RdL CM 1 h3 [] (.slice (some ⟨g14,0,none⟩) 2 2) [m,0]:=⟨⟨⟨_,_,Y,au _,by decide,Y,λ_=>⟨_,Y,hS⟩⟩⟩,Ec⟩
  refine Qc call186 Y (Nx [m,0] (decide (n<0)) _ m hm2 (Na m) h3 hR σ) (λr h4 ms4 l4 hF=>?_);obtain⟨l4',rfl,rfl⟩:=hF;have osv:(sv (Iy m)).oneCell'=true:=rfl
  have eW:Value.agg #[.bool (decide (n<0)&&decide (Iy m≠[])),sv (Iy m)]=WD n:=by
   unfold WD
   have:(decide (n<0)&&decide (Iy m≠[]))=decide (n<0):=by
    by_cases h0:n<0
    ·have:Iy m≠[]:=bys_ne.2 ω;simp[h0,this]
    ·simp[h0]
   rw[this,hm]
  refine Sa 0 [_,_] CU Y (by simp[osv]) ?_;refine Am (An ?_);exact BC (vs:=[_,_]) 0 Y Y Mp Y CU Y Y (⟨AE l3 l4',Y,eW⟩)
theorem Wz(n:Int)(hn:-256<n/\n<256)(h:Hp)(ms:List Hp):FnV Tryz.prog 126 #[.int .i64 n] h ms (WD n):=DW ((Aaf n hn h).mono λ_ _ _ h=>h.2.2) ms
theorem RE(n:Int)(hn:-256<n/\n<256)(h:Hp):FnT Tryz.prog 187 #[WD n] h [] (λr h' ms'=>h.le h'/\ms'=[]/\RdL CM 1 h' [] r (Hh n.natAbs)):=by
 unfold WD;by_cases h0:n.natAbs=0
 ·have e1:Iy n.natAbs=[]:=by unfold Iy;rw[ac h0]
  have e2:Hh n.natAbs=[]:=by unfold Hh;rw[ac h0]
  rw[e1,e2];exact ZQ _ h
 ·have e1:Iy n.natAbs=[UInt8.ofNat n.natAbs]:=by unfold Iy;rw[aa h0]
  have e3:(UInt8.ofNat n.natAbs).toNat=n.natAbs:=by simp;omega
  have e2:Hh n.natAbs=[(UInt8.ofNat n.natAbs).toNat]:=by unfold Hh;rw[aa h0,e3]
  rw[e1,e2];exact YV _ _ ω h
theorem GZ{m:Nat}(h:m≠0):Hh m=[m]:=aa h
def Ud(m k:Nat):Int:=if m<k then -1 else if k<m then 1 else 0
theorem Y4(m k:Nat)(hk:k≠0)(va vb:Value)(h:Hp)(hA:RdL CM 1 h [] va (Hh m))(hB:RdL CM 1 h [] vb [k]) :
  FnT Tryz.prog 232 #[va,vb] h [] (λr _ _=>r=.w (Ud m k)):=by
 by_cases h0:m=0
 ·have e:Hh m=[]:=ac h0;rw[e]at hA;have rA:Rd h [] va 1 0 (([]:List Nat).flatMap CM):=hA.rd;have rB:Rd h [] vb 1 1 ([k].flatMap CM):=hB.rd;refine Au func232 ntmps232 Y Y (λw0 hw0=>?_);simp only[A6];refine Aq (Qm Y (Am (Ac (Ag (Aq (Qm Y (Qx (As rA.any Y Ck Y) Y (Qm Y (Qx (As rB.any Y Ck Y) Y (Qm Y (Qm Y (Am ?_))))))))))));refine Ao Y (λh1=>?_) (λh1=>?_)
  ·refine Ac (Ab (Qm Y (Am (An (Aj (Ae ?_))))));exact Ap Y Y (by unfold Ud;rw[ac ω])
  ·exact jt δ h1
 ·rw[GZ h0]at hA;have rA:Rd h [] va 1 1 ([m].flatMap CM):=hA.rd;have rB:Rd h [] vb 1 1 ([k].flatMap CM):=hB.rd;have cA:∀ms,Cell h ms ((AG va).add (0*1)) (.int .u64 (m:Int)):=λms=>(hA.any (ms:=ms)).cell0 (j:=0) σ rfl;have cB:∀ms,Cell h ms ((AG vb).add (0*1)) (.int .u64 (k:Int)):=λms=>(hB.any (ms:=ms)).cell0 (j:=0) σ rfl;refine Au func232 ntmps232 Y Y (λw0 hw0=>?_);simp only[A6];refine Aq (Qm Y (Am (Ac (Ag (Aq (Qm Y (Qx (As rA.any Y Ck Y) Y (Qm Y (Qx (As rB.any Y Ck Y) Y (Qm Y (Qm Y (Am ?_))))))))))));refine Ao Y (λh1=>?_) (λh1=>?_)
  ·exact jt h1 δ
  ·refine Ac (Ab (Qm Y (Qx (As rA.any Y Ck Y) Y (Qm Y (Qx (As rB.any Y Ck Y) Y (Qm Y (Qm Y (Am ?_))))))));refine Ao Y (λh2=>?_) (λh2=>?_)
   ·exact jt h2 δ
   ·refine Ah (Ai (Ad (Ac (Aq (Qm Y (Qx (As rA.any Y Ck Y) Y (Qx (oS Y) Y (Qm Y (Am (Ag ?_))))))))));refine Ay (λq sl h' ms'=>∃i:Nat,i=q/\sl=[(0,va),(1,vb),(5,.w ((i:Int)-1))]/\h=h'/\ms'=[]/\i<=1/\(i=0->m=k)) 1 _ ⟨1,Y,Y,Y,Y,ω,ω⟩ Qs ?_;rintro q sl h' ms' ⟨i,rfl,rfl,rfl,rfl,hi,hk0⟩;refine Ac (Aq (Qm Y (Qm Y (Am ?_))));refine Ao Y (λhlt=>?_) (λhlt=>?_)
    ·have hi1:i=1:=ω
     subst hi1;refine Ah (Ad (Ac (Ag (Ag (Ac (Bc 8 CT κ Y (Wm Y (Wm Y (AM (AA _ rA.any Y Ck CK Y Y Y ω) Y Y (Wl Y Gc (cA _) (Wm Y (Wm Y (AM (AA _ rB.any Y Ck CK Y Y Y ω) Y Y (Wl Y Gc (cB _) (A7 (Qm Y (Qm Y (Am ?_))))))))))))))))));refine Ao Y (λh3=>?_) (λh3=>?_)
     ·refine Ac (Ab (Qm Y (Am (An (Aj (Aj (Ae (Ae (Aj (Ae ?_))))))))));exact Ap Y Y (by unfold Ud;rw[ac ω])
     ·refine Ac (Bc 8 CT κ Y (Wm Y (Wm Y (AM (AA _ rA.any Y Ck CK Y Y Y ω) Y Y (Wl Y Gc (cA _) (Wm Y (Wm Y (AM (AA _ rB.any Y Ck CK Y Y Y ω) Y Y (Wl Y Gc (cB _) (A7 (Qm Y (Qm Y (Am ?_)))))))))))));refine Ao Y (λh4=>?_) (λh4=>?_)
      ·refine Ac (Ab (Qm Y (Am (An (Aj (Aj (Ae (Ae (Aj (Ae ?_))))))))));exact Ap Y Y (by unfold Ud;rw[aa ω,ac ω])
      ·refine Ah (Ai (Ai (Ad (Ab (Qm Y (Qx (oS Y) Y (Qm Y (Ak ?_))))))));exact Al 0 _ ω ⟨0,Y,Y,Y,Y,ω,λ_=>ω⟩ Qs
    ·have hi1:i=0:=ω
     subst hi1;have:=hk0 Y;refine Av (Aa (Aa (Af (Ad (Aq (Qm Y (Am (An ?_))))))));exact Ap Y Y (by unfold Ud;rw[aa ω,aa ω])
theorem JX(n:Nat):GC [n]=Hh n:=by
 unfold Hh;split
 ·rename_i h;subst h;rfl
 ·rename_i h;exact FY [] h
theorem WG(m k:Nat)(hm:m<256)(hk:k≠0)(hk2:k<256)(va:Value)(h:Hp)(hA:RdL CM 1 h [] va (Hh m)) :
  FnT Tryz.prog 233 #[va,.int .u64 (k:Int)] h [] (λr h' ms'=>h.le h'/\ms'=[]/\∃q,r=.tuple #[q,.int .u64 ((m%k:Nat):Int)]/\RdL CM 1 h' [] q (Hh (m/k))):=by
 by_cases h0:m=0
 ·subst h0;have rA:Rd h [] va 1 0 (([]:List Nat).flatMap CM):=hA.rd;refine Au func233 ntmps233 Y Y (λw0 hw0=>?_);simp only[A6];refine Aq (Qm Y (Qm Y (BM (Qm Y (Qx (As rA.any Y Ck Y) Y (CL (n:=0) Y Ck CK Y Y Y (by rfl) (by rfl) ω ω Y Y Y (λg11=>Qm Y (BM (Qm Y (Am (Ac (Aq (Qm Y (Qx (As rA.any Y Ck Y) Y (Qx (oS Y) Y (Qm Y (Am (Ag (Ay (λq sl h' ms'=>q=0/\sl=[(6,.slice (some ⟨g11,0,none⟩) 0 0),(7,.int .u64 0),(8,.w (-1))]/\h=h'/\ms'=[Bh g11 222 []]) 0 _ ⟨Y,Y,Y,Y⟩ Qs ?_)))))))))))))))))));rintro q sl h' ms' ⟨rfl,rfl,rfl,rfl⟩;refine Ac (Aq (Qm Y (Qm Y (Am ?_))));refine Ao Y (λhlt=>?_) (λhlt=>?_)
  ·exact jt hlt δ
  ·refine Av (Aa (Aa (Af (Ad ?_))));have hO:OwnL CM 1 222 (Bh g11 222 []) (.slice (some ⟨g11,0,none⟩) 0 0) []:=OwnL.blk (l:=([]:List Nat)) 0 Ec Y ω;refine A9 hO λh2 l2 hR=>(Aq (Qm Y (Qc call229 Y (F5 [] _ h2 hR σ) (λr h3 ms3 l3 hF=>?_))))
   obtain⟨l3',rfl,hR3⟩:=hF;refine Qm Y (Qm Y (Qm Y (Am (An ?_))));exact BE Y Y Y (⟨AE l2 l3',Y,_,by rw[Nat.zero_mod];rfl,by rw[Nat.zero_div];exact hR3⟩)
 ·rw[GZ h0]at hA;have rA:Rd h [] va 1 1 ([m].flatMap CM):=hA.rd;have cA:∀ms,Cell h ms ((AG va).add (0*1)) (.int .u64 (m:Int)):=λms=>(hA.any (ms:=ms)).cell0 (j:=0) σ rfl;refine Au func233 ntmps233 Y Y (λw0 hw0=>?_);simp only[A6];refine Aq (Qm Y (Qm Y (BM (Qm Y (Qx (As rA.any Y Ck Y) Y (CL (n:=1) Y Ck CK Y Y Y (by rfl) (by rfl) ω ω Y Y Y (λg11=>Qm Y (BM (Qm Y (Am (Ac (Aq (Qm Y (Qx (As rA.any Y Ck Y) Y (Qx (oS Y) Y (Qm Y (Am (Ag ?_))))))))))))))))));refine Ay (λq sl h' ms'=>∃(i:Nat) (mo:Hp),i=q/\sl=[(0,va),(1,.int .u64 (k:Int)),(6,.slice (some ⟨g11,0,none⟩) 1 1),(7,.int .u64 ((if i=1 then 0 else m%k:Nat):Int)),(8,.w ((i:Int)-1))]/\h=h'/\ms'=[mo]/\i<=1/\OwnL CM 1 222 mo (.slice (some ⟨g11,0,none⟩) 1 1) [if i=1 then 0 else m/k]) 1 _ ⟨1,_,Y,Y,Y,Y,ω,OwnL.blk (l:=[0]) 1 Ec Y ω⟩ Qs ?_;rintro q sl h' ms' ⟨i,mo,rfl,rfl,rfl,rfl,hi,hO⟩;refine Ac (Aq (Qm Y (Qm Y (Am ?_))));refine Ao Y (λhlt=>?_) (λhlt=>?_)
  ·have hi1:i=1:=ω
   subst hi1;rw[ac rfl]at hO;simp only[im];have e20:((0*2^32%18446744073709551616:Nat):Int)=((0:Nat):Int):=rfl;have e25:((0 ||| m:Nat):Int)=(m:Int):=by rw[Nat.zero_or]
   refine Ah (Ad (Ac (Ag (Aq (Qm Y (Qx (Td e20 Y Y Y ω) Y (Qm Y (Qm Y (Qx (AA _ rA.any Y Ck CK Y Y Y ω) Y (Ql Y Gc (cA _) (Qx (Xv e25 Y Y Y ω ω) Y (Qm Y (Am (BK (n:=11) (bs:=[true,true,true,true,true,true,true,true,true,false,false]) [true,true,true,true,true,true,true,true,true] CT κ κ Y Y (Qq Y (Qq Y (Qq Y (Qq Y (Qp Y (YC Y Y Y ω ω) (Qq Y (Qq Y (Qp Y (Yu Y Y Y ω) (Qp Y (Co _ Y Ck CK Y Y Y ω) ?_)))))))))))))))))))))));unfold Fm;simp only[bl,ay];refine Qo 9 Y (Ca (f:=λn:Nat=>Value.int .u64 (n:Int)) 0 0 (λ_=>rfl) hO Y CK Y Y Y Y σ rfl rfl (λm' hO'=>Qw (Qo 10 rfl (Qm rfl (Qw (Qe (Ai (Ad (Ab (Qm rfl (Qx (oS rfl) rfl (Qm rfl (Ak ?_)))))))))))));exact Al 0 _ ω ⟨0,m',Y,Y,Y,Y,ω,hO'⟩ Qs
  ·have hi1:i=0:=ω
   subst hi1;rw[aa δ]at hO;refine Av (Aa (Aa (Af (Ad (A9 hO λh2 l2 hR=>(Aq (Qm Y (Qc call229 Y (F5 [m/k] _ h2 hR σ) (λr h3 ms3 l3 hF=>?_)))))))));obtain⟨l3',rfl,hR3⟩:=hF;rw[JX]at hR3;refine Qm Y (Qm Y (Qm Y (Am (An ?_))));exact BE Y Y Y (⟨AE l2 l3',Y,_,Y,hR3⟩)
theorem Pf{n:Nat}(h:n<4294967296):((n &&& 4294967295:Nat):Int)=(n:Int):=by have:=Nat.and_two_pow_sub_one_eq_mod n 32;rw[show(2^32-1:Nat)=4294967295 from Y,fj ω]at this;rw[this]
theorem YP(a b:Nat)(hb:b<a)(ha:a<256)(va vb:Value)(h:Hp)(hA:RdL CM 1 h [] va [a])(hB:RdL CM 1 h [] vb [b]) :
  FnT Tryz.prog 190 #[va,vb] h [] (λr h' ms'=>h.le h'/\ms'=[]/\RdL CM 1 h' [] r (Hh (a-b))):=by
 have rA:Rd h [] va 1 1 ([a].flatMap CM):=hA.rd;have rB:Rd h [] vb 1 1 ([b].flatMap CM):=hB.rd;have cA:∀ms,Cell h ms ((AG va).add (0*1)) (.int .u64 (a:Int)):=λms=>(hA.any (ms:=ms)).cell0 (j:=0) σ rfl;have cB:∀ms,Cell h ms ((AG vb).add (0*1)) (.int .u64 (b:Int)):=λms=>(hB.any (ms:=ms)).cell0 (j:=0) σ rfl;refine Au func190 ntmps190 Y Y (λw0 hw0=>?_);simp only[A6];refine Aq (Qm Y (BM (Qm Y (Qx (As rA.any Y Ck Y) Y (CL (n:=1) Y Ck CK Y Y Y (by rfl) (by rfl) ω ω Y Y Y (λg11=>Qm Y (BM (Qm Y (Am (Ac (Aq (Qm Y (Qx (As rA.any Y Ck Y) Y (Qm Y (Am (Ag ?_))))))))))))))));refine Ay (λq sl h' ms'=>∃(i:Nat) (mo:Hp),1-i=q/\sl=[(0,va),(1,vb),(5,.slice (some ⟨g11,0,none⟩) 1 1),(6,.int .u64 0),(13,.w ((1:Nat):Int)),(14,.w i)]/\h=h'/\ms'=[mo]/\i<=1/\OwnL CM 1 222 mo (.slice (some ⟨g11,0,none⟩) 1 1) [if i=0 then 0 else a-b]) 1 _ ⟨0,_,Y,Y,Y,Y,ω,OwnL.blk (l:=[0]) 1 Ec Y ω⟩ Qs ?_;rintro q sl h' ms' ⟨i,mo,rfl,rfl,rfl,rfl,hi,hO⟩;refine Aq (Qm Y (Am (Ac ?_)));refine Ao Y (λhlt=>?_) (λhlt=>?_)
 ·have hi0:i=0:=ω
  subst hi0;rw[ac rfl]at hO;have e22:IntKind.u64.wrap ((a:Int)-((0:Nat):Int))=(a:Int):=by rw[EA ω];omega
  refine Ah (Ad (Ac (Ag (Aq (Qm Y (Qm Y (BM (Qm Y (Qm Y (Qx (AA _ rA.any Y Ck CK Y Y Y ω) Y (Ql Y Gc (cA _) (Qm Y (Qx (S9 (b:=0) e22 Y Y Y) Y (Qm Y (Am (Ac (Aq (Qm Y (Qm Y (Qx (As rB.any Y Ck Y) Y (Qm Y (Am ?_))))))))))))))))))))));refine Ao Y (λh2=>?_) (λh2=>?_)
  ·have e32:IntKind.u64.wrap ((a:Int)-(b:Int))=((a-b:Nat):Int):=by rw[EA ω];omega
   have em:=Pf (n:=a-b) ω;have e38:(((a-b)/2^63:Nat):Int)=((0:Nat):Int):=by rw[ja ω]
   refine Ab (Qm Y (Qm Y (Qm Y (Qx (AA _ rB.any Y Ck CK Y Y Y ω) Y (Ql Y Gc (cB _) (Qx (S9 e32 Y Y Y) Y (Qm Y (Gl (Qm Y (Qm Y (Qm Y (Qx (KM em Y Y Y ω ω) Y (Qm Y (Qx (KZ (n:=63) e38 Y Y Y ω) Y (Qx (Co _ Y Ck CK Y Y Y ω) Y (Ca (f:=λn:Nat=>Value.int .u64 (n:Int)) 0 0 (λ_=>rfl) hO Y CK Y Y Y Y σ rfl rfl (λm' hO'=>Qm rfl (Ak (Ai (Ad (Ab (Qx (oA rfl) rfl (Qm rfl (Ak ?_))))))))))))))))))))))));exact Al 0 _ ω ⟨1,m',Y,Y,Y,Y,ω,hO'⟩ Qs
  ·exact jt δ h2
 ·have hi1:i=1:=ω
  subst hi1;rw[aa δ]at hO;refine Av (Aa (Aa (Af (Ad (A9 hO λh2 l2 hR=>(Aq (Qm Y (Qc call229 Y (F5 [a-b] _ h2 hR σ) (λr h3 ms3 l3 hF=>?_)))))))));obtain⟨l3',rfl,hR3⟩:=hF;rw[JX]at hR3;refine Qm Y (Am (An ?_));exact Ap Y Y (⟨AE l2 l3',Y,hR3⟩)
theorem Yn(m:Nat)(hm:m<256)(va vb:Value)(h:Hp)(hA:RdL CM 1 h [] va (Hh m))(hB:RdL CM 1 h [] vb [1]) :
  FnT Tryz.prog 189 #[va,vb] h [] (λr h' ms'=>h.le h'/\ms'=[]/\RdL CM 1 h' [] r (Hh (m+1))):=by
 refine Au func189 ntmps189 Y Y (λw0 hw0=>?_);simp only[A6];refine Aq (Qm Y (Am ?_));refine Bg (λsl h' ms'=>∃(u w:Value) (x:Nat) (W:List Nat),sl=[(0,u),(1,w)]/\h=h'/\ms'=[]/\RdL CM 1 h [] u [x]/\RdL CM 1 h [] w W/\x<257/\((W=[]/\x=m+1)\/∃y,W=[y]/\y<256/\x+y=m+1)) ?_ (λs h ms hI=>?_)
 ·by_cases h0:m=0
  ·have e:Hh m=[]:=ac h0;rw[e]at hA;have rA:Rd h [] va 1 0 (([]:List Nat).flatMap CM):=hA.rd;have rB:Rd h [] vb 1 1 (([1]:List Nat).flatMap CM):=hB.rd;refine Aq (Qm Y (Qx (As rA.any Y Ck Y) Y (Qm Y (Qx (As rB.any Y Ck Y) Y (Qm Y (Am ?_))))));refine Ao Y (λh1=>?_) (λh1=>?_)
   ·refine Ab (Qm Y (Qm Y (Qm Y (Qm Y (Ak ?_)))));exact Az _ ⟨vb,va,1,[],Y,Y,Y,hB,hA,ω,.inl ⟨Y,ω⟩⟩ Qs
   ·exact jt δ h1
  ·rw[GZ h0]at hA;have rA:Rd h [] va 1 1 (([m]:List Nat).flatMap CM):=hA.rd;have rB:Rd h [] vb 1 1 (([1]:List Nat).flatMap CM):=hB.rd;refine Aq (Qm Y (Qx (As rA.any Y Ck Y) Y (Qm Y (Qx (As rB.any Y Ck Y) Y (Qm Y (Am ?_))))));refine Ao Y (λh1=>?_) (λh1=>?_)
   ·exact jt h1 δ
   ·refine Ah ?_;exact Az _ ⟨va,vb,m,[1],Y,Y,Y,hA,hB,ω,.inr ⟨1,Y,ω,ω⟩⟩ Qs
 ·obtain⟨u,w,x,W,rfl,rfl,rfl,hU,hW,hx,hc⟩:=hI;have rU:Rd h [] u 1 1 ([x].flatMap CM):=hU.rd;have cA:∀ms,Cell h ms ((AG u).add (0*1)) (.int .u64 (x:Int)):=λms=>(hU.any (ms:=ms)).cell0 (j:=0) σ rfl;have hWl:W.length<=1:=by rcases hc with ⟨rfl,_⟩|⟨y,rfl,_⟩<;>simp
  refine Aq (Qm Y (Qx (As rU.any Y Ck Y) Y (Qx (oA Y) Y (CL (n:=2) Y Ck CK Y Y Y (by rfl) (by rfl) ω ω Y Y Y (λg19=>Qm Y (BM (Qm Y (Am (Ac (Aq (Qm Y (Qx (As rU.any Y Ck Y) Y (Qm Y (Am (Ag ?_)))))))))))))));refine Ay (λq sl h' ms'=>∃(i:Nat) (mo:Hp),1-i=q/\sl=[(0,u),(1,w),(5,.slice (some ⟨g19,0,none⟩) 2 2),(6,.int .u64 0),(21,.w ((1:Nat):Int)),(22,.w i)]/\h=h'/\ms'=[mo]/\i<=1/\OwnL CM 1 222 mo (.slice (some ⟨g19,0,none⟩) 2 2) [if i=0 then 0 else m+1,0]) 1 _ ⟨0,_,Y,Y,Y,Y,ω,OwnL.blk (l:=[0,0]) 2 Ec Y ω⟩ Qs ?_;rintro q sl h' ms' ⟨i,mo,rfl,rfl,rfl,rfl,hi,hO⟩;refine Aq (Qm Y (Am (Ac ?_)));refine Ao Y (λhlt=>?_) (λhlt=>?_)
  ·have hi0:i=0:=ω
   subst hi0;rw[ac rfl]at hO;have e30:IntKind.u64.wrap ((x:Int)+((0:Nat):Int))=(x:Int):=by rw[EA ω];omega
   have em:=Pf (n:=m+1) ω;have e46:((m+1)/2^32:Nat)=0:=ja ω;have e46':(((m+1)/2^32:Nat):Int)=((0:Nat):Int):=by rw[e46]
   refine Ah (Ad (Ac (Ag (Aq (Qm Y (Qm Y (BM (Qm Y (Qm Y (Qx (BN (0) rU.any Y Ck CK Y Y) Y (Ql Y Gc (cA _) (Qm Y (Qx (Tx (b:=0) e30 Y Y Y) Y (Qm Y (Am (Ac (Aq (Qm Y (Qm Y (Qx (As hW.rd.any Y Ck Y) Y (Qm Y (Am ?_))))))))))))))))))))));refine Ao Y (λh2=>?_) (λh2=>?_)
   ·obtain⟨y,rfl,hy,hs⟩:∃y,W=[y]/\y<256/\x+y=m+1:=by
     rcases hc with ⟨rfl,_⟩|h
     ·exact jt h2 δ
     ·exact h
    have cB:∀ms,Cell h ms ((AG w).add (0*1)) (.int .u64 (y:Int)):=λms=>(hW.any (ms:=ms)).cell0 (j:=0) σ rfl;have e40:IntKind.u64.wrap ((x:Int)+(y:Int))=((m+1:Nat):Int):=by rw[EA ω];omega
    refine Ab (Qm Y (Qm Y (Qm Y (Qx (BN (0) hW.rd.any Y Ck CK Y Y) Y (Ql Y Gc (cB _) (Qx (Tx e40 Y Y Y) Y (Qm Y (Gl (Qm Y (Qm Y (Qm Y (Qx (KM em Y Y Y ω ω) Y (Qm Y (Qx (KZ (n:=32) e46' Y Y Y ω) Y (Qx (Co (0) Y Ck CK Y Y ω ω) Y (Ca (f:=λn:Nat=>Value.int .u64 (n:Int)) 0 0 (λ_=>rfl) hO Y CK Y Y Y Y σ rfl rfl (λm' hO'=>Qm rfl (Ak (Ai (Ad (Ab (Qx (oA rfl) rfl (Qm rfl (Ak ?_))))))))))))))))))))))));exact Al 0 _ ω ⟨1,m',Y,Y,Y,Y,ω,hO'⟩ Qs
   ·obtain⟨rfl,hs⟩:W=[]/\x=m+1:=by
     rcases hc with h|⟨y,rfl,_⟩
     ·exact h
     ·exact jt σ h2
    subst hs;refine Ah (Ad (Ab (Qm Y (Qm Y (Qm Y (Qx (KM em Y Y Y ω ω) Y (Qm Y (Qx (KZ (n:=32) e46' Y Y Y ω) Y (Qx (Co (0) Y Ck CK Y Y ω ω) Y (Ca (f:=λn:Nat=>Value.int .u64 (n:Int)) 0 0 (λ_=>rfl) hO Y CK Y Y Y Y σ rfl rfl (λm' hO'=>Qm rfl (Ak (Ai (Ad (Ab (Qx (oA rfl) rfl (Qm rfl (Ak ?_))))))))))))))))));exact Al 0 _ ω ⟨1,m',Y,Y,Y,Y,ω,hO'⟩ Qs
  ·have hi1:i=1:=ω
   subst hi1;rw[aa δ]at hO;refine Av (Aa (Aa (Af (Ad (Aq (Qm Y (Qm Y (Qx (As rU.any Y Ck Y) Y (Qm Y (Qx (Co (1) Y Ck CK Y Y ω ω) Y (Ca (f:=λn:Nat=>Value.int .u64 (n:Int)) (a:=0) 0 1 (λ_=>rfl) hO Y CK Y Y Y Y σ rfl rfl (λm' hO'=>Am (A9 hO' λh2 l2 hR=>(Aq (Qm rfl (Qc call229 rfl (F5 [m+1,0] _ h2 hR σ) (λr h3 ms3 l3 hF=>?_)))))))))))))))));obtain⟨l3',rfl,hR3⟩:=hF;rw[Na]at hR3;refine Qm Y (Am (An ?_));exact Ap Y Y (⟨AE l2 l3',Y,hR3⟩)
theorem Y2(h:Hp)(ms:List Hp):RdL CM 1 h ms (.slice none 0 0) []:=⟨⟨⟨none,0,rfl,au _,by decide,rfl,λh=>jt h δ⟩⟩,Ec⟩
theorem Y8(m k:Nat)(hm:m<256)(hk:k≠0)(hk2:k<256)(va vb:Value)(h:Hp)(hA:RdL CM 1 h [] va (Hh m))(hB:RdL CM 1 h [] vb [k]) :
  FnT Tryz.prog 188 #[va,vb] h [] (λr h' ms'=>h.le h'/\ms'=[]/\∃q u,r=.tuple #[q,u]/\RdL CM 1 h' [] q (Hh (m/k))/\RdL CM 1 h' [] u (Hh (m%k))):=by
 have rB:Rd h [] vb 1 1 ([k].flatMap CM):=hB.rd;have cB:∀ms,Cell h ms ((AG vb).add (0*1)) (.int .u64 (k:Int)):=λms=>(hB.any (ms:=ms)).cell0 (j:=0) σ rfl;have oa:=hA.rd.one;have ob:=hB.rd.one;refine Au func188 ntmps188 Y Y (λw0 hw0=>?_);simp only[A6];refine Aq (Qm Y (Qm Y (Am (Ac (Aq (Qm Y (Qm Y (Qx (AH Y call232 Y (DW (Y4 m k hk va vb h hA hB) _)) Y (Qm Y (Am ?_))))))))));refine Ao Y (λh1=>?_) (λh1=>?_)
 ·have hlt:m<k:=by
   unfold Ud at h1;rcases eh m k with h|h
   ·exact h
   ·rw[aa ω]at h1;split at h1<;>omega
  refine Aq (Qm Y (Qm Y (Qm Y (Am (An (Ae ?_))))));exact BE Y Y Y (⟨Da,Y,_,_,Y,by rw[ja hlt];exact Y2 _ _,by rw[fj hlt];exact hA⟩)
 ·refine Ah (Ad (Ac (Aq (Qm Y (Qx (As rB.any Y Ck Y) Y (Qm Y (Am ?_)))))));refine Ao Y (λh2=>?_) (λh2=>?_)
  ·refine Ac (Ab (Qm Y (Qm Y (Qx (AA 0 rB.any Y Ck CK Y Y Y ω) Y (Ql Y Gc (cB _) (Qc call233 Y (WG m k hm hk hk2 va h hA) (λr h3 ms3 l3 hF=>?_)))))));obtain⟨l3',rfl,q,rfl,hq⟩:=hF;have oq:=hq.rd.one;refine Qm Y (Qm Y (Qm Y (Qm Y (Qm Y (BM (Qm Y (Qm Y (Aw [_] Y Ck CK Y (by rfl) Y Y ω Y Y Y (λg37=>Ek λh4 l4 hS=>?_)))))))));have hR:RdL CM 1 h4 [] (.slice (some ⟨g37,0,none⟩) 1 1) [m%k]:=⟨⟨⟨_,_,Y,au _,by decide,Y,λ_=>⟨_,Y,hS⟩⟩⟩,Ec⟩
   refine Qc call229 Y (F5 [m%k] _ h4 hR σ) (λr h5 ms5 l5 hF=>?_);obtain⟨l5',rfl,hR5⟩:=hF;rw[JX]at hR5;have or_:=hR5.rd.one;refine Qm Y (Qm Y (Am (An (Ae ?_))));exact BE Y Y Y (⟨AE l3' (AE l4 l5'),Y,_,_,Y,(hq.up l4).up l5',hR5⟩)
  ·exact jt δ h2
theorem Zn(m k:Nat)(hk:0<k):(-(m:Int))%(k:Int)=(if m%k=0 then 0 else k-m%k:Nat):=by
 have h1:(m:Int)=((m%k:Nat):Int)+(k:Int)*((m/k:Nat):Int):=by
  have:=Nat.mod_add_div m k
  exact_mod_cast this.symm
 have hlt:=Nat.mod_lt m hk;split
 ·rename_i h0;rw[h0]at h1;have:-(m:Int)=0+(k:Int)*(-((m/k:Nat):Int)):=by rw[Int.mul_neg];omega
  rw[this,Int.add_mul_emod_self_left];rfl
 ·rename_i h0
  have:-(m:Int)=((k-m%k:Nat):Int)+(k:Int)*(-((m/k:Nat):Int)-1):=by rw[Int.mul_sub,Int.mul_neg,Int.mul_one];omega
  rw[this,Int.add_mul_emod_self_left,gt ω ω]
theorem MX(n:Nat):GC (Hh n)=Hh n:=by
 unfold Hh;split
 ·rfl
 ·rename_i h;exact FY [] h
theorem AaO(n:Int)(k:Nat)(hn:-256<n/\n<256)(hk:2<=k)(hk2:k<256)(h:Hp) :
  FnT Tryz.prog 127 #[WD n,WD (k:Int)] h [] (λr h' ms'=>h.le h'/\ms'=[]/\∃(b:Bool) (l:List UInt8),r=.tuple #[.agg #[.bool b,sv l],WD (n%(k:Int)),.bool true]):=by
 obtain⟨m,hm⟩:∃m,n.natAbs=m:=⟨_,Y⟩
 have hm2:m<256:=ω
 have osn:(sv (Iy n.natAbs)).oneCell'=true:=rfl;have osk:(sv (Iy (k:Int).natAbs)).oneCell'=true:=rfl;refine Au func127 ntmps127 Y Y (λw0 hw0=>?_);simp only[A6];refine Aq (AP [_,_] Y Y (by rfl) Y Y Y (λg2=>AP [_,_] Y Y (by rfl) Y Y Y (λg3=>Cx [.bool false,.string ByteArray.empty] Y CU Y Y (λg4=>Cx [.bool false,.string ByteArray.empty] Y CU Y Y (λg5=>Qm Y (Am (Bj 2 Y λh1 l1 hS3=>(Bj 2 Y λh2 l2 hS2=>?_))))))));have gS2:∀ms,Seg h2 ms (⟨g2,0,none⟩:Addr) [.bool (decide (n<0)),sv (Iy n.natAbs)]:=λms=>hS2.any;have gS3:∀ms,Seg h2 ms (⟨g3,0,none⟩:Addr) [.bool (decide ((k:Int)<0)),sv (Iy (k:Int).natAbs)]:=λms=>(hS3.le l2).any;refine Ac (BK (n:=6) (bs:=[true,false,true,false,false,false]) [true,false,true] CT κ κ Y Y (Qp Y (oG Y Mp CU (gS2 _)) (Qp Y (oG Y Mp CU (gS3 _)) ?_)));unfold Fm;simp only[bl,ay];refine Qo 1 Y (Qc call187 Y (RE n hn h2) (λa h3 ms3 l3 hF=>?_));obtain⟨l3',rfl,hA⟩:=hF;rw[hm]at hA;refine Qa (Qo 3 Y (Qc call187 Y (RE (k:Int) ω h3) (λb h4 ms4 l4 hF=>?_)));obtain⟨l4',rfl,hB⟩:=hF;have l24:=AE l3' l4';refine Qa (Qo 4 Y (Qm Y (Qa (Qo 5 Y (Qm Y (Qa (Qe ?_)))))));have hA4:=hA.up l4'
 have hBk:RdL CM 1 h4 [] b [k]:=by
  have:Hh (k:Int).natAbs=[k]:=by rw[Int.natAbs_natCast];exact aa ω
  rw[this]at hB;exact hB
 have rB:Rd h4 [] b 1 1 ([k].flatMap CM):=hBk.rd;have oa:=hA4.rd.one;have ob:=hBk.rd.one;refine Ad (Ac (Aq (Qm Y (Qx (As rB.any Y Ck Y) Y (Qm Y (Am ?_))))));refine Ao Y (λhz=>?_) (λhz=>?_)
 ·exact jt hz δ
 ·refine Ah (Ad (Aq (Qm Y (Qm Y (Qc call188 Y (Y8 m k hm2 ω hk2 a b h4 hA4 hBk) (λr h5 ms5 l5 hF=>?_))))));obtain⟨l5',rfl,q,u,rfl,hQ,hU⟩:=hF;have oq:=hQ.rd.one;have ou:=hU.rd.one;have hB5:=hBk.up l5';have l25:=AE l24 l5';have e2:∀ms,Cell h5 ms ((⟨g2,0,none⟩:Addr).add 0) (.bool (decide (n<0))):=λms=>((hS2 0 _ Y).any).le l25;have e3:∀ms,Cell h5 ms ((⟨g3,0,none⟩:Addr).add 0) (.bool (decide ((k:Int)<0))):=λms=>((hS3.le l2) 0 _ Y).any.le l25;refine Qm Y (Qm Y (Qm Y (Qm Y (Qm Y (Am ?_)))))
  have hmk:m/k<128:=by have:=Nat.div_le_div_left (a:=m) hk ω;omega
  have hmm:m%k<k:=Nat.mod_lt _ ω;refine Bg (λsl h' ms'=>∃(q' u':Value) (Q:Nat),sl=[(2,.pt g2),(3,.pt g3),(4,.pt g4),(5,.pt g5),(9,q'),(10,u')]/\h5.le h'/\ms'=[Bh g5 172 [.bool false,.string ByteArray.empty],Bh g4 172 [.bool false,.string ByteArray.empty]]/\Q<256/\RdL CM 1 h' [] q' (Hh Q)/\RdL CM 1 h' [] u' (Hh (n%(k:Int)).toNat)) ?_ (λs h ms hI=>?_)
  ·refine Ac (Ab (Qf KO Y (Ql Y U4 (e2 _) (Qm Y ?_))));refine AL (t:=28) Y (λhneg=>?_) (λhneg=>?_)
   ·have hnm:n=-(m:Int):=ω
    have hnk:=Zn m k ω;rw[<-hnm]at hnk;refine Qg (Ar Y Y) Y (Qg (As hU.rd.any Y Ck Y) Y (Qg (Ct Y Y Y) Y (Qm Y (Am ?_))));refine Ao Y (λh3=>?_) (λh3=>?_)
    ·have h0:m%k≠0:=by intro h0;rw[h0]at h3;exact jt h3 δ
     rw[aa h0]at hnk;have hU1:RdL CM 1 h5 [] u [m%k]:=by rw[<-GZ h0];exact hU
     refine Ab (Qm Y (Aw [_] Y Ck CK Y (by rfl) Y Y ω Y Y Y (λg34=>Ek λh6 l6 hS1=>?_)));have hR1:RdL CM 1 h6 [] (.slice (some ⟨g34,0,none⟩) 1 1) [1]:=⟨⟨⟨_,_,Y,au _,by decide,Y,λ_=>⟨_,Y,hS1⟩⟩⟩,Ec⟩
     refine Qc call189 Y (Yn (m/k) ω q _ h6 (hQ.up l6) hR1) (λx h7 ms7 l7 hF=>?_);obtain⟨l7',rfl,hX⟩:=hF;have ox:=hX.rd.one;refine Qm Y (Qm Y (Qc call190 Y (YP k (m%k) hmm hk2 b u h7 ((hB5.up l6).up l7') ((hU1.up l6).up l7')) (λy h8 ms8 l8 hF=>?_)));obtain⟨l8',rfl,hY⟩:=hF;refine Qm Y (Qm Y (Ak ?_));exact Az _ ⟨x,y,m/k+1,Y,AE l6 (AE l7' l8'),Y,ω,hX.up l8',by rw[hnk,de];exact hY⟩ Qs
    ·have h0:m%k=0:=by refine bc λh0=>h3 ?_;rw[GZ h0];simp
     rw[ac h0]at hnk;refine Ah ?_;exact Az _ ⟨q,u,m/k,Y,Da,Y,ω,hQ,by rw[hnk,de,<-h0];exact hU⟩ Qs
   ·have hnm:n=(m:Int):=ω
    have hnk:n%(k:Int)=((m%k:Nat):Int):=by rw[hnm];exact(Int.natCast_emod m k).symm
    refine Qk Y (Qk Y (Qk Y (Qm Y (Am (AQ Y (Ah ?_))))));exact Az _ ⟨q,u,m/k,Y,Da,Y,ω,hQ,by rw[hnk,de];exact hU⟩ Qs
  ·obtain⟨q',u',Q,rfl,l6,rfl,hQ2,hQ',hU'⟩:=hI;have oq':=hQ'.rd.one;have ou':=hU'.rd.one;have hkp:(0:Int)<(k:Int):=ω
   have hr0:=co n (Int.ne_of_gt hkp);have hr1:=bw n hkp
   have eR:Value.agg #[.bool (false&&decide (Iy (n%(k:Int)).toNat≠[])),sv (Iy (n%(k:Int)).toNat)]=WD (n%(k:Int)):=by
    unfold WD;have h1:(n%(k:Int)).natAbs=(n%(k:Int)).toNat:=ω
    have h2:decide (n%(k:Int)<0)=false:=aj ω;rw[h1,h2];rfl
   have hrn:(n%(k:Int)).toNat<256:=ω
   refine Aq (Qm Y (Qf KO Y (Ql Y U4 ((e2 _).le l6) (Qf KO Y (Ql Y U4 ((e3 _).le l6) (Qx (AaI Y U4 Y Y) Y ?_))))));refine Qc call186 Y (Nx (Hh Q) _ q' Q hQ2 (MX Q) _ hQ' (by have:=KB Q;omega)) (λx1 h7 ms7 l7 hF=>?_);obtain⟨l7',rfl,rfl⟩:=hF;refine Qm Y ?_;refine Qc call186 Y (Nx (Hh (n%(k:Int)).toNat) false u' (n%(k:Int)).toNat hrn (MX _) h7 (hU'.up l7') (by have:=KB (n%(k:Int)).toNat;omega)) (λx2 h8 ms8 l8 hF=>?_);obtain⟨l8',rfl,rfl⟩:=hF;have os1:(sv (Iy Q)).oneCell'=true:=rfl;have os2:(sv (Iy (n%(k:Int)).toNat)).oneCell'=true:=rfl;refine Sa 1 [_,_] CU Y (by simp[osn,osk,oq',ou',os1,os2]) ?_;refine Sa 0 [_,_] CU Y (by simp[osn,osk,oq',ou',os1,os2]) ?_;refine Qm Y (Am (An (CY 1 Y ?_)));exact XJ (vs:=[_,_]) (vs2:=[_,_]) Y Y Y Y Mp Y CU Y Y ⟨AE l1 (AE l2 (AE l25 (AE l6 (AE l7' l8')))),Y,_,_,by rw[<-eR]⟩
theorem Aba(n:Nat)(hn:n<256)(h:Hp) :
  FnT Tryz.prog 128 #[WD (n:Int)] h [] (λr h' ms'=>h.le h'/\ms'=[]/\r=.tuple #[.w n,.bool true]):=by
 have osn:(sv (Iy (n:Int).natAbs)).oneCell'=true:=rfl;refine Au func128 ntmps128 Y Y (λw0 hw0=>?_);simp only[A6];refine Aq (AP [_,_] Y Y (by rfl) Y Y Y (λg1=>Qm Y (Qm Y (Am (Ax λh2 l2 hS2=>?_)))));have gS2:∀ms,Seg h2 ms (⟨g1,0,none⟩:Addr) [.bool (decide ((n:Int)<0)),sv (Iy (n:Int).natAbs)]:=λms=>hS2.any;refine Aq (Qx (oG Y Mp CU (gS2 _)) Y (Qc call187 Y (RE (n:Int) ω h2) (λa h3 ms3 l3 hF=>?_)));obtain⟨l3',rfl,hA⟩:=hF;rw[Int.natAbs_natCast]at hA;obtain⟨W,hW⟩:∃W,Hh n=W:=⟨_,Y⟩
 have hWl:W.length<=1:=by rw[<-hW];exact KB n
 rw[hW]at hA;have oa:=hA.rd.one;refine Qm Y (Am (Ac (Aq (Qm Y (Qx (As hA.rd.any Y Ck Y) Y (Qm Y (Am ?_)))))));refine Ao Y (λh1=>?_) (λh1=>?_)
 ·exact jt h1 ω
 ·refine Ah (Ad (Aq (Qm Y (Am (Ac (Aq (Qm Y (Qx (As hA.rd.any Y Ck Y) Y (Qm Y (Am (Ag ?_)))))))))));refine Ay (λq sl h' ms'=>∃(i:Nat),W.length-i=q/\sl=[(1,.pt g1),(4,a),(5,.int .u64 ((if i=0 then 0 else n:Nat):Int)),(13,a),(14,.w (W.length:Int)),(15,.w i)]/\h3=h'/\ms'=[]/\i<=W.length) W.length _ ⟨0,Y,Y,Y,Y,ω⟩ Qs ?_;rintro q sl h' ms' ⟨i,rfl,rfl,rfl,rfl,hi⟩;refine Aq (Qm Y (Am (Ac ?_)));refine Ao Y (λhlt=>?_) (λhlt=>?_)
  ·have hi0:i=0:=ω
   subst hi0;have hn0:n≠0:=by rintro rfl;rw[<-hW]at hlt;exact jt hlt δ
   have hWn:W=[n]:=by rw[<-hW];exact GZ hn0
   subst hWn;have cA:∀ms,Cell h3 ms ((AG a).add (0*1)) (.int .u64 (n:Int)):=λms=>(hA.any (ms:=ms)).cell0 (j:=0) σ rfl;have e24:((n*2^0%18446744073709551616:Nat):Int)=(n:Int):=by rw[Nat.pow_zero,jk,fj ω]
   have e25:((0 ||| n:Nat):Int)=(n:Int):=by rw[Nat.zero_or]
   refine Ah (Ad (Ac (Ag (Aq (Qm Y (Qx (BN (0) hA.rd.any Y Ck CK Y Y) Y (Ql Y Gc (cA _) (Qm Y (Qm Y (Gl (Qm Y (Qm Y (Qm Y (Qx (oM Y) Y (Qx (Td (n:=0) e24 Y Y Y ω) Y (Qx (Xv (a:=0) (b:=n) e25 Y Y Y ω ω) Y (Qm Y (Ak (Ai (Ad (Ab (Qx (oA Y) Y (Qm Y (Ak ?_))))))))))))))))))))))));exact Al 0 _ σ ⟨1,rfl,rfl,rfl,rfl,by simp⟩ Qs
  ·have hiW:i=W.length:=ω
   have em:(if i=0 then 0 else n)=n:=by
    by_cases h0:n=0
    ·subst h0;simp
    ·have:W=[n]:=by rw[<-hW];exact GZ h0
     rw[hiW,this];simp
   rw[em];have e1:∀ms,Cell h3 ms ((⟨g1,0,none⟩:Addr).add 0) (.bool (decide ((n:Int)<0))):=λms=>((hS2 0 _ Y).any).le l3';refine Av (Aa (Aa (Af (Ad (Ac (Ag (Aq (Qf KO Y (Ql Y U4 (e1 _) (Qm Y ?_))))))))));refine AL (t:=30) Y (λhneg=>?_) (λhneg=>?_)
   ·exact jt hneg ω
   ·refine Qk Y (Qk Y (Qm Y (Qm Y (Am (AQ Y (Aq (Qm Y (Qm Y (Qm Y (Am ?_))))))))));refine Ao Y (λh5=>?_) (λh5=>?_)
    ·exact jt h5 ω
    ·refine Ah (Ai (Ad (Aq (Qm Y (Qx (Jt (a:=(n:Int)) Y Gc U3 Y (Dm ω)) Y (Qm Y (Qm Y (Am (An ?_)))))))));exact BE Y Y Y (⟨AE l2 l3',Y,Y⟩)
theorem Acl(n:Nat)(hn:n<256)(h:Hp)(ms:List Hp):FnV Tryz.prog 128 #[WD (n:Int)] h ms (.tuple #[.int .i64 n,.bool true]):=DW ((Aba n hn h).mono λ_ _ _ h=>h.2.2) ms
def Rm(n:Int):List Value:=[.bool (decide (n<0)),sv (Iy n.natAbs)]
theorem Yt:∀n,(Rm n).length=2:=λ_=>rfl
theorem Zs:∀a:Int,∀c∈Rm a,c.oneCell'=true:=λa c hc=>by unfold Rm at hc;simp only[aq,iz,jf]at hc;rcases hc with rfl|rfl<;>rfl
theorem AbW(n:Int):WD n=.agg (Rm n).toArray:=rfl
theorem N4{l:List Int}{k n:Nat}(hk:k<n)(hl:l.length=n):(l.take k++replicate (n-k) 0).set k (l[k]'ω)=l.take (k+1)++replicate (n-(k+1)) 0:=by
 have h1:(l.take k).length=k:=by rw[av];omega
 have h2:replicate (n-k) (0:Int)=0::replicate (n-(k+1)) 0:=by rw[<-List.replicate_succ];congr 1;omega
 rw[List.set_append_right _ _ ω,h1,Nat.sub_self,h2,List.set_cons_zero,ak ω,bp];rfl
theorem Zg(p:Int)(r c:Nat)(hp:IsP p)(hp2:p<256)(hr:r<=200)(hc:c<=200)(L:List Int)(hL:L.length=r*c)(hb:∀x∈L,-256<x/\x<256)(ev:Value)(h:Hp)(hR:RdL Rm 2 h [] ev L) :
  FnT Tryz.prog 60 #[.w p,.agg #[.w r,.w c,ev]] h [] (λv h' ms'=>h.le h'/\Kk v ms' ⟨p,r,c,L.map (· % p)⟩):=by
 have hpb:=hp.1;have hrc:r*c<=40000:=dh hr hc;obtain⟨pn,rfl⟩:=il (show 0<=p by omega);have oe:=hR.rd.one;refine Au func60 ntmps60 Y Y (λw0 hw0=>?_);simp only[A6];refine Aq (AP [_,_,_] Y Y (by rfl) Y Y Y (λg3=>Cx [.w 0,.w 0,.w 0,.nl] Y A4 Y Y (λg4=>Am ?_)))
 -- ms=[Bh g4 (result),Bh g3 (the matrix)]
 refine Bj 1 Y λh1 l1 hS3=>?_;have hR1:=hR.up l1;have e0:∀ms,Cell h1 ms ((⟨g3,0,none⟩:Addr).add 0) (.w r):=λms=>(hS3 0 _ Y).any;have e1:∀ms,Cell h1 ms ((⟨g3,0,none⟩:Addr).add 1) (.w c):=λms=>(hS3 1 _ Y).any;have e2:∀ms,Cell h1 ms ((⟨g3,0,none⟩:Addr).add 2) ev:=λms=>(hS3 2 _ Y).any;refine Aq (Qm Y (Qf Zq Y (Ql Y U3 (e0 _) (Qf ZE Y (Ql Y U3 (e1 _) ?_)))));refine Qc call125 Y (SZ (pn:Int) r c h1 ⟨ω,ω⟩) (λz h2 ms2 l2 hF=>?_);obtain⟨rfl,eu,m,rfl,rfl,hO⟩:=hF
 have hZ:Q5 (pn:Int) r c=⟨(pn:Int),r,c,replicate (r*c) 0⟩:=by unfold Q5;rw[ac ⟨hp,by unfold F0;omega⟩,show((r:Int)*c).toNat=r*c by rw[<-da,de]]
 rw[hZ]at hO;simp only[hZ];have ou:=hO.o1;have rE:Rd h1 [] ev 2 (r*c) (L.flatMap Rm):=by have:=hR1.rd;rwa [hL]at this
 have rU:Rd h1 [m] eu 1 (r*c) ((replicate (r*c) (0:Int)).flatMap cI):=by have:=(hO.rd (h:=h1) (ms:=[m]) Mh).rd;rwa [length_replicate]at this
 refine Cx [.w 0,.w 0,.w 0,.nl] Y A4 Y Y (λg5=>?_);refine Sa 0 [_,_,_,_] A4 Y (by simp[oe,ou]) ?_;refine Am (Ac (Aq (Qf Cz Y (Ql Y U3 (Cell.blk 0 Y Y) (Qm Y (Qm Y ?_))))));refine AL (t:=21) Y (λh0=>?_) (λh0=>?_)
 ·exact jt h0 ω
 ·refine Qg (oF KQ Y) Y (Qg (oL Y Mz (e2 _)) Y (Qg (As rE.any Y Mz Y) Y (Qg (oF Bl Y) Y (Qg (oL Y AN (Cell.blk 0 Y Y)) Y (Qg (ED rU Y AN Y) Y (Qg (B8 Y Y Y) Y (Qm Y (Am ?_))))))));refine Ao Y (λhne=>?_) (λhne=>?_)
  ·exact jt Y hne
  ·refine Ah (Ad (Ax λh2 l2 hS5=>?_));have hR2:=hR1.up l2;have osp:(sv (Iy (pn:Int).natAbs)).oneCell'=true:=rfl;refine Aq (Qm Y (Qx (AH Y call126 Y (Wz (pn:Int) ω _ _)) Y (Cx [.bool false,.string ByteArray.empty] Y CU Y Y (λg6=>?_))));refine Sa 0 [_,_] CU Y (by simp[oe,ou,Lg]) ?_;refine Am (Ax λh3 l3 hS6=>?_);have l13:=AE l2 l3;have hR3:=hR1.up l13;have rE3:=rE.le l13;have e2:∀ms,Cell h3 ms ((⟨g3,0,none⟩:Addr).add 2) ev:=λms=>(e2 ms).le l13;refine Ac (Aq (Qf KQ Y (Ql Y Mz (e2 _) (Qx (As rE3.any Y Mz Y) Y (Qm Y (Am (Ag ?_)))))));refine Ay (λq sl h' ms'=>∃(k:Nat) (mo:Hp),r*c-k=q/\sl=[(4,.pt g4),(5,.pt g5),(6,.pt g6),(34,ev),(35,.w ((r*c:Nat):Int)),(36,.w k)]/\h3.le h'/\ms'=[mo,Bh g4 65 [.w 0,.w 0,.w 0,.nl]]/\k<=r*c/\OwnL cI 1 3 mo eu ((L.map (· % (pn:Int))).take k++replicate (r*c-k) 0)) (r*c-0) _ ⟨0,_,Y,Y,Da,Y,ω,by rw[jq,ay];exact hO⟩ Qs ?_;rintro q sl h' ms' ⟨k,mo,rfl,rfl,lh,rfl,hk,hO⟩;have hR4:=hR3.up lh;have rE4:=rE3.le lh;refine Aq (Qm Y (Am (Ac ?_)));refine Ao Y (λhlt=>?_) (λhlt=>?_)
   ·have hkL:k<L.length:=ω
    obtain⟨x,hx⟩:∃x,L[k]=x:=⟨_,Y⟩
    have hxb:=hb x (by rw[<-hx];exact ae hkL);have gE:∀ms,Seg h' ms ((AG ev).add (k*2)) (Rm x):=λms=>by rw[<-hx];exact(hR4.any (ms:=ms)).seg hkL
    have osx:(sv (Iy x.natAbs)).oneCell'=true:=rfl;refine Ah (Ad (Ac (Ag (Aq (Qm Y (Qx (BN (k) rE4.any Y Mz CU Y Y) Y (Qx (oG Y Mp CU (gE _)) Y (Cx [.bool false,.string ByteArray.empty] Y CU Y Y (λg8=>Qm Y ?_)))))))));refine Sa 0 [_,_] CU Y (by simp[oe,ou,Lg]) ?_;refine Am ?_;have gS6:∀ms,Seg h' ms (⟨g6,0,none⟩:Addr) (Rm (pn:Int)):=λms=>(hS6.le lh).any;refine Aq (Qx (oG Y Mp CU (Seg.blk 0 Y)) Y (Qx (oG Y Mp CU (gS6 _)) Y (Qc call127 Y (AaO x pn hxb ω ω h') (λz h4 ms4 l4 hF=>?_))));obtain⟨l4',rfl,bq,lq,rfl⟩:=hF;obtain⟨y,hy⟩:∃y:Nat,x%(pn:Int)=y:=⟨(x%(pn:Int)).toNat,by have:=co x (show(pn:Int)≠0 by omega);omega⟩
    have hyp:y<pn:=by have:=bw x (show 0<(pn:Int) by omega);omega
    rw[hy,AbW];refine Qm Y (Qm Y (Qm Y (Qm Y (Cx [.bool false,.string ByteArray.empty] Y CU Y Y (λg9=>Cx [.bool false,.string ByteArray.empty] Y CU Y Y (λg10=>?_))))));refine Sa 1 [_,_] CU Y (by simp[oe,ou,Lg]) ?_;refine Sa 0 [_,_] CU Y (by simp[oe,ou,Lg]) ?_;refine Qm Y (Am (Ax λh5 l5 hS10=>?_));have lh5:=AE lh (AE l4' l5);have gS10:∀ms,Seg h5 ms (⟨g10,0,none⟩:Addr) (Rm (y:Int)):=λms=>hS10.any;have e5:∀ms,Cell h5 ms ((⟨g5,0,none⟩:Addr).add 3) eu:=λms=>(((hS5.le l3).le lh5) 3 _ Y).any
    have hln:((L.map (· % (pn:Int))).take k++replicate (r*c-k) 0).length=r*c:=by rw[ag,av,af,length_replicate];omega
    refine BK (n:=10) (bs:=[true,true,true,true,true,true,true,true,true,false]) [true,true,true,true,true,true,true,true,true] CT κ κ Y Y (QF Bl Y (QL Y AN (e5 _) (Qq Y (Qp Y (oG Y Mp CU (gS10 _)) (Qp Y (AH Y call128 Y (Acl y ω _ _)) (Qq Y (Qq Y (Qq Y (Qp Y (Bk (k) (hO.rd (h:=h5) (ms:=[mo]) Mh).rd Y AN A0 Y Y ω ω) ?_)))))))));unfold Fm;simp only[bl,ay];refine Qo 9 Y ?_;refine BQ 2 k hO Y A0 Y Y Y (by rw[hln];omega) rfl rfl (λmo' hO'=>?_);refine Qw (Qe ?_);have hset:=N4 (l:=L.map (· % (pn:Int))) (k:=k) (n:=r*c) ω (by rw[af];exact hL);rw[fm,hx,hy]at hset;rw[hset]at hO';refine Ai (Ad (Ab (Qx (oA Y) Y (Qm Y (Ak ?_)))));refine AX (AX ?_);exact Al (r*c-(k+1)) _ ω ⟨k+1,mo',Y,Y,lh5,Y,ω,hO'⟩ Qs
   ·have hkn:k=r*c:=ω
    have gS5:∀ms,Seg h' ms (⟨g5,0,none⟩:Addr) [.w pn,.w r,.w c,eu]:=λms=>((hS5.le l3).le lh).any;refine Av (Aa (Aa (Af (Ad (Aq (Qx (oG Y Dr A4 (gS5 _)) Y ?_))))));refine Sa 1 [_,_,_,_] A4 Y (by simp[oe,ou,Lg]) ?_;refine Am (An ?_);exact BC (vs:=[_,_,_,_]) 1 Y Y Dr Y A4 Y Y (⟨AE l1 (AE l13 lh),eu,mo,Y,Y,by rw[hkn,Nat.sub_self,List.replicate_zero,eo,io (by rw[af];omega)]at hO;exact hO⟩)
def W7(v:Value)(ms:List Hp)(r c:Nat)(L:List Int):Prop:=∃ev m,ms=[m]/\v=.agg #[.int .i64 r,.int .i64 c,ev]/\OwnL Rm 2 172 m ev L
theorem XP(r c:Nat)(hr:r<=200)(hc:c<=200)(h:Hp):FnT Tryz.prog 191 #[.int .i64 r,.int .i64 c] h [] (λv _ _=>v=.bool true):=by
 refine Au func191 ntmps191 Y Y (λw0 hw0=>?_);simp only[A6];refine Aq (Qm Y (BM (Qm Y (Qm Y (Qx (Sd Y Y Y) Y (Qm Y (Qm Y ?_)))))));refine AL (t:=9) Y (λh1=>?_) (λh1=>?_)
 ·refine Qg (Ar Y Y) Y (Qg (Ar Y Y) Y (Qg (GU Y Y Y) Y (Qg (JQ Y Y Y) Y (Qm Y (Qm Y (Am (An ?_)))))));exact Ap Y Y (by rw[ai];omega)
 ·exact jt ω h1
theorem Pq(r c:Nat)(hr:r<=200)(hc:c<=200)(h:Hp):FnT Tryz.prog 129 #[.int .i64 r,.int .i64 c] h [] (λv h' ms'=>h=h'/\W7 v ms' r c (replicate (r*c) 0)):=by have hrc:r*c<=40000:=dh hr hc;have hmi:(r:Int)*c=((r*c:Nat):Int):=(da r c).symm;refine Au func129 ntmps129 Y Y (λw0 hw0=>?_);simp only[A6];refine Aq (Cx [.int .i64 0,.int .i64 0,.slice none 0 0] Y EH Y Y (λg4=>Am (Ac (Aq (Qm Y (Qm Y (Qx (AH Y call191 Y (DW (XP r c hr hc h) _)) Y (Qm Y (Am (AQ Y (Ah (Ad (Aq (Qm Y (Qm Y (Qm Y (Qm Y (Qx (oM Y) Y (XM Yt ω (0:Int) (n:=r*c) Y Mz CU Y Y Y ω ω ω ω Y Y Y (λg15 ev m hev hO=>?_))))))))))))))))))));subst hev;refine Qx (Bb Acg [.int .i64 0,.int .i64 0,.slice none 0 0] [(0,_),(1,_),(2,_)] [_,_,_] Y EH Y Y Qt Y) Y ?_;refine Sa 1 [_,_,_] EH Y (by simp[Value.oneCell']) ?_;refine Am (An ?_);exact BC (vs:=[_,_,_]) 1 Y Y PA Y EH Y Y (⟨Y,_,m,Y,Y,hO⟩)
def U0(f:Nat->Nat->Int)(k t a b:Nat):Int:=if a<k\/(a=k/\b<t) then f a b else 0
theorem XC(f:Nat->Nat->Int)(k t:Nat){r c:Nat}:BV r c (Fe (U0 f k t) k t (f k t))=BV r c (U0 f k (t+1)):=by
 refine AW λa _ b _=>?_;unfold Fe U0;by_cases h:a=k/\b=t
 ·obtain⟨rfl,rfl⟩:=h;rw[ac ⟨rfl,rfl⟩,ac ω]
 ·rw[aa h];by_cases h2:a<k\/(a=k/\b<t)
  ·rw[ac h2,ac ω]
  ·rw[aa h2,aa ω]
theorem ZN(f:Nat->Nat->Int)(k:Nat){r c:Nat}:BV r c (U0 f k c)=BV r c (U0 f (k+1) 0):=by
 refine AW λa _ b hb=>?_;unfold U0;by_cases h2:a<k\/(a=k/\b<c)
 ·rw[ac h2,ac ω]
 ·rw[aa h2,aa ω]
theorem Aa0(r c:Nat)(hr0:0<r)(hr:r<=200)(hc:c<=200)(f:Nat->Nat->Int)(hb:∀i,i<r->∀j,j<c->-256<f i j/\f i j<256)(Rs:List Value)(lR:Rs.length=r)(v:Value)(h:Hp)(hv:RdL cU 1 h [] v Rs)(hRs:∀i,i<r->RdL cI 1 h [] (Rs.getD i undef) (EK c (f i))) :
  FnT Tryz.prog 131 #[v] h [] (λw h' ms'=>h.le h'/\W7 w ms' r c (BV r c f)):=by
 have hrc:r*c<=40000:=dh hr hc;have ov:=hv.rd.one;have rv:Rd h [] v 1 r (Rs.flatMap cU):=by have:=hv.rd;rwa [lR]at this
 refine Au func131 ntmps131 Y Y (λw0 hw0=>?_);simp only[A6];refine Aq (Cx [.w 0,.w 0,.nl] Y EH Y Y (λg2=>BM (Qm Y (Am (Ac (Aq (Qm Y (Qx (As rv.any Y CA Y) Y (Qm Y (Am (Ag ?_)))))))))));refine Ay (λq sl h' ms'=>∃(i:Nat),r-i=q/\sl=[(0,v),(2,.pt g2),(3,.w ((if i=0 then 0 else c:Nat):Int)),(11,v),(12,.w (r:Int)),(13,.w i)]/\h=h'/\ms'=[Bh g2 106 [.w 0,.w 0,.nl]]/\i<=r) (r-0) _ ⟨0,Y,Y,Y,Y,ω⟩ Qs ?_;rintro q sl h' ms' ⟨i,rfl,rfl,rfl,rfl,hi⟩;refine Aq (Qm Y (Am (Ac ?_)));refine Ao Y (λhlt=>?_) (λhlt=>?_)
 ·have hir:i<r:=ω
  have hiR:i<Rs.length:=ω
  obtain⟨ri,hri⟩:∃ri,Rs.getD i undef=ri:=⟨_,Y⟩
  have hRi:=hRs i hir;rw[hri]at hRi;have cR:∀ms,Cell h ms ((AG v).add (i*1)) ri:=λms=>(hv.any (ms:=ms)).cell0 hiR (by rw[<-hri];simp[List.getD,hiR,cU]);have rri:Rd h [] ri 1 c ((EK c (f i)).flatMap cI):=by have:=hRi.rd;rwa [Cd]at this
  have ori:=rri.one;refine Ah (Ad (Ac (Ag (Aq (Qx (BN (i) rv.any Y CA CI Y Y) Y (Ql Y AN (cR _) (Qm Y (Gl (Qm Y (Qm Y (Qx (As rri.any Y AN Y) Y (Qx (GU Y Y Y) Y (Qm Y (Ak (Ai (Ad (Ab (Qx (oA Y) Y (Qm Y (Ak ?_))))))))))))))))))))
  have hmx:max ((if i=0 then 0 else c:Nat):Int) (c:Int)=((if i+1=0 then 0 else c:Nat):Int):=by rw[aa (show ¬i+1=0 by omega)];split<;>omega
  rw[hmx];exact Al (r-(i+1)) _ ω ⟨i+1,Y,Y,Y,Y,ω⟩ Qs
 ·have hir:i=r:=ω
  subst hir;rw[aa ω];refine Av (Aa (Aa (Af (Ad (Aq (Qm Y (Qx (As rv.any Y CA Y) Y (Qm Y (Qc call129 Y (Pq i c hr hc h) (λz h2 ms2 l2 hF=>?_))))))))));obtain⟨rfl,ev,m,rfl,rfl,hO⟩:=hF;have oe:=hO.o1;have re:Rd h [m] ev 2 (i*c) ((replicate (i*c) (0:Int)).flatMap Rm):=by have:=(hO.rd (h:=h) (ms:=[m]) Mh).rd;rwa [length_replicate]at this
  refine Cx [.w 0,.w 0,.nl] Y EH Y Y (λg6=>?_);refine Sa 0 [_,_,_] EH Y (by simp[ov,oe]) ?_;refine Am (Ax λh3 l3 hS6=>?_);have e6:∀ms,Cell h3 ms ((⟨g6,0,none⟩:Addr).add 2) ev:=λms=>(hS6 2 _ Y).any;have gS6:∀ms,Seg h3 ms (⟨g6,0,none⟩:Addr) [.w i,.w c,ev]:=λms=>hS6.any;refine Ac (Aq (Qf KQ Y (Ql Y Mz (e6 _) (Qx (ED re Y Mz Y) Y (Qm Y (Am ?_))))));refine Ao Y (λhz=>?_) (λhz=>?_)
  ·have hz':i*c=0:=ω
   have hL:replicate (i*c) (0:Int)=BV i c f:=by have h1:=BO i c f;rw[hz']at h1;rw[hz',gz.1 h1];rfl
   rw[hL]at hO;refine Aq (Qx (oG Y PA EH (gS6 _)) Y ?_);refine Sa 1 [_,_,_] EH Y (by simp[ov,oe]) ?_;refine Am (An (Ae ?_));exact BC (vs:=[_,_,_]) 1 Y Y PA Y EH Y Y (⟨l3,ev,m,Y,Y,hO⟩)
  ·refine Ah (Ad ?_);have rv3:=rv.le l3;refine Ac (Aq (Qm Y (Qx (As rv3.any Y CA Y) Y (Qm Y (Am (Ag ?_))))))
   refine Ay (λq sl h' ms'=>∃(k:Nat) (mo:Hp),i-k=q/\sl=[(0,v),(2,.pt g2),(3,.w c),(6,.pt g6),(31,v),(32,.w i),(33,.w k)]/\h3.le h'/\ms'=[mo,Bh g2 106 [.w 0,.w 0,.nl]]/\k<=i/\OwnL Rm 2 172 mo ev (BV i c (U0 f k 0))) (i-0) _ ⟨0,_,Y,Y,Da,Y,ω,by
    have:BV i c (U0 f 0 0)=replicate (i*c) 0:=by rw[On];refine AW λa _ b _=>?_;unfold U0;rw[aa ω]
    rw[this];exact hO⟩ Qs ?_
   rintro q sl h' ms' ⟨k,mo,rfl,rfl,lh,rfl,hk,hO⟩;have rv4:=rv3.le lh;refine Aq (Qm Y (Am (Ac ?_)));refine Ao Y (λhlt=>?_) (λhlt=>?_)
   ·have hki:k<i:=ω
    have hkR:k<Rs.length:=ω
    obtain⟨rk,hrk⟩:∃rk,Rs.getD k undef=rk:=⟨_,Y⟩
    have hRk:=hRs k hki;rw[hrk]at hRk;have hRk4:=hRk.up (AE l3 lh);have cR:∀ms,Cell h' ms ((AG v).add (k*1)) rk:=λms=>((hv.any (ms:=ms)).cell0 hkR (by rw[<-hrk];simp[List.getD,hkR,cU])).le (AE l3 lh);have rrk:Rd h' [] rk 1 c ((EK c (f k)).flatMap cI):=by have:=hRk4.rd;rwa [Cd]at this
    have ork:=rrk.one;refine Ah (Ad (Ac (Ag (Aq (Qm Y (Qx (BN (k) rv4.any Y CA CI Y Y) Y (Ql Y AN (cR _) (Qm Y (Qm Y (BM (Qm Y (Qx (As rrk.any Y AN Y) Y (Qm Y (Am (Ag ?_)))))))))))))));refine Ay (λq sl hh ms'=>∃(t:Nat) (mo:Hp),c-t=q/\sl=[(0,v),(2,.pt g2),(3,.w c),(6,.pt g6),(31,v),(32,.w i),(33,.w k),(7,.w k),(38,rk),(39,.w c),(40,.w t)]/\h'.le hh/\ms'=[mo,Bh g2 106 [.w 0,.w 0,.nl]]/\t<=c/\OwnL Rm 2 172 mo ev (BV i c (U0 f k t))) (c-0) _ ⟨0,mo,Y,Y,Da,Y,ω,hO⟩ Qs ?_;rintro q sl hh ms' ⟨t,mo,rfl,rfl,lhh,rfl,ht,hO⟩;have lhh':=AE lh lhh;refine Aq (Qm Y (Am (Ac ?_)));refine Ao Y (λhlt2=>?_) (λhlt2=>?_)
    ·have htc:t<c:=ω
     have htv:t<(EK c (f k)).length:=by rw[Cd];exact htc
     have cX:∀ms,Cell hh ms ((AG rk).add (t*1)) (.w (f k t)):=λms=>((hRk4.any (ms:=ms)).cell0 htv (by simp[EK,cI])).le lhh;have e6:∀ms,Cell hh ms ((⟨g6,0,none⟩:Addr).add 2) ev:=λms=>(e6 ms).le lhh';have hix:k*c+t<i*c:=Ds hki htc;have hcast:(k:Int)*c=((k*c:Nat):Int):=(da k c).symm;have reo:Rd hh [mo] ev 2 (i*c) ((BV i c (U0 f k t)).flatMap Rm):=by have:=(hO.rd (h:=hh) (ms:=[mo]) Mh).rd;rwa [BO]at this
     refine Ah (Ad (Ac (Ag (Aq (Qm Y (Qx (AA (t) (rrk.le lhh).any Y AN A0 Y Y ω ω) Y (Ql Y U3 (cX _) (Qm Y (Qm Y (Am (Bc 9 CT κ Y (Wf KQ Y (Wl Y Mz (e6 _) (Wm Y (Wm Y (AM (oM Y) Y Y (Wm Y (AM (oA Y) Y Y (Wm Y (AM (AH Y call126 Y (Wz (f k t) (hb k hki t htc) _ _)) Y Y (A7 (Qx (Bk (k*c+t) reo Y Mz CU Y Y ω ω) Y ?_))))))))))))))))))))));refine FX 0 (k*c+t) (f k t) hO Y CU Y Y Y (Zs _) Y (by rw[BO];exact hix) Y Y (λmo' hO'=>?_);rw[DZ _ htc,XC]at hO';refine Ak (Ai (Ad (Ab (Qx (oA Y) Y (Qm Y (Ak ?_))))));exact Al (c-(t+1)) _ ω ⟨t+1,mo',Y,Y,lhh,Y,ω,hO'⟩ Qs
    ·have htc:t=c:=ω
     subst htc;rw[ZN]at hO;refine Av (Aa (Aa (Af (Ai (Ad (Ab (Qx (oA Y) Y (Qm Y (Ak ?_)))))))));exact Al (i-(k+1)) _ ω ⟨k+1,mo,Y,Y,lhh',Y,ω,hO⟩ Qs
   ·have hki:k=i:=ω
    subst hki;have gS6:∀ms,Seg h' ms (⟨g6,0,none⟩:Addr) [.w k,.w c,ev]:=λms=>(gS6 ms).le lh;refine Av (Aa (Aa (Af (Ad (Aq (Qx (oG Y PA EH (gS6 _)) Y ?_))))));refine Sa 1 [_,_,_] EH Y (by simp[ov,oe]) ?_;refine Am (An ?_);have hL:BV k c (U0 f k 0)=BV k c f:=AW λa ha b _=>by unfold U0;rw[ac (.inl ha)]
    rw[hL]at hO;exact BC (vs:=[_,_,_]) 1 Y Y PA Y EH Y Y (⟨AE l3 lh,ev,mo,Y,Y,hO⟩)
theorem Lx:∀{U:List Ce},(U.map λa=>a.c.id).Nodup->∀{x:Ce},x∈U->Bz (F3 U) x.c.id=some x
 | [],_,x,hx=>by cases hx
 | a::U,hn,x,hx=>by
  rw[fl,gw]at hn;unfold Bz F3;rw[fl,List.find?_cons];by_cases h:a.c.id=x.c.id
  ·have:a=x:=by
    rcases aq.1 hx with e|e
    ·exact e.symm
    ·exact jt (ad.2 ⟨x,e,h.symm⟩) hn.1
   subst this;simp
  ·have hx':x∈U:=by
    rcases aq.1 hx with e|e
    ·exact jt (by rw[e]) h
    ·exact e
   have:=Lx hn.2 hx';unfold Bz F3 at this;simp only[h];simpa using this
theorem Aah(g:Nat)(U:List Ce)(cf:FuncId)(cs:List Value)(pr:Cl->Bool)(h:Hp)(R:RdT h g U)(hnd:(U.map λa=>a.c.id).Nodup)(hid:∀a∈U,BS a.c.id)(hn:U.length<=1000000)
  (hc:∀xs w,(callFunc cf xs).run Tryz.prog w=.ok (.enter cf xs) w)
  (hp:∀a∈U,∀h',h.le h'->∀ms,FnV Tryz.prog cf ([]++[Value.agg (cC a).toArray]++cs).toArray h' ms (.bool (pr a.c))) :
  FnT Tryz.prog 80 #[.pt g,.func (.func cf) #[] cs.toArray] h [] (λr h' ms'=>h.le h'/\∃v m,r=.agg #[v]/\ms'=[m]/\OwnL cC 3 52 m v (U.filter λa=>pr a.c)):=by
 obtain⟨gm,mT,bs,vids,hS,hM,lM,hV,hsd⟩:=R;have ovi:=hV.rd.one;have hVl:(U.map λa=>a.c.id).length=U.length:=by rw[af]
 have rV:Rd h [] vids 1 U.length ((U.map λa=>a.c.id).flatMap cI):=by have:=hV.rd;rwa [hVl]at this
 have e0:∀ms,Cell h ms ((⟨g,0,none⟩:Addr).add 0) (.map (some gm)):=λms=>(hS 0 _ Y).any;have e1:∀ms,Cell h ms ((⟨g,0,none⟩:Addr).add 1) vids:=λms=>(hS 1 _ Y).any;refine Au func80 ntmps80 Y Y (λw0 hw0=>?_);simp only[A6];refine Aq (Cx [.nl] Y A8 Y Y (λg4=>BM (Cx [.nl] Y A8 Y Y (λg5=>Am (Ac (Aq (Qm Y (Qm Y (Qf OF Y (Ql Y AN (e1 _) (Qx (As rV.any Y AN Y) Y (Qm Y (Am (Ag (BT ?_)))))))))))))))
 refine Ay (λq sl h' ms'=>∃(i:Nat) (vo:Value) (mo:Hp),U.length-i=q/\sl=[(0,.pt g),(1,.func (.func cf) #[] cs.toArray),(4,.pt g4),(5,.pt g5),(11,vids),(12,.w U.length),(13,.w i)]/\h.le h'/\ms'=[mo,Bh g5 29 [vo],Bh g4 29 [.nl]]/\i<=U.length/\OwnL cC 3 52 mo vo ((U.take i).filter λa=>pr a.c))
  (U.length-0) _ ⟨0,_,Hp.emp,rfl,rfl,Da,rfl,ω,OwnL.nil CP⟩ Qs ?_
 rintro q sl h' ms' ⟨i,vo,mo,rfl,rfl,lh,rfl,hi,hO⟩;have e0:∀ms,Cell h' ms ((⟨g,0,none⟩:Addr).add 0) (.map (some gm)):=λms=>(e0 ms).le lh;have hV4:=hV.up lh;have rV4:=rV.le lh;have ovo:=hO.o1;refine Aq (Qm Y (Am (Ac ?_)));refine Ao Y (λhlt=>?_) (λhlt=>?_)
 ·have hiU:i<U.length:=ω
  obtain⟨x,hx⟩:∃x,U[i]=x:=⟨_,Y⟩
  have hxm:x∈U:=by rw[<-hx];exact ae hiU
  have hxi:=hid x hxm;have oxv:=(hsd x hxm).rd.one;have cI_:∀ms,Cell h' ms ((AG vids).add (i*1)) (.w x.c.id):=λms=>(hV4.any (ms:=ms)).cell0 (j:=i) (by rw[hVl];exact hiU) (by rw[fm,hx];rfl);have hg1:(Bz (F3 U) x.c.id).getD default=x:=by rw[Lx hnd hxm];rfl
  refine Ah (Ad ?_);refine Bg (λsl h'' ms'=>∃(vo':Value) (mo':Hp),sl=[(0,.pt g),(1,.func (.func cf) #[] cs.toArray),(4,.pt g4),(5,.pt g5),(11,vids),(12,.w U.length),(13,.w i)]/\h'=h''/\ms'=[mo',Bh g5 29 [vo'],Bh g4 29 [.nl]]/\OwnL cC 3 52 mo' vo' ((U.take (i+1)).filter λa=>pr a.c)) ?_ (λs h ms hI=>?_)
  ·have htk:U.take (i+1)=U.take i++[x]:=by rw[<-hx];exact ak hiU
   rw[htk,List.filter_append];refine Ag (Aq (Qx (BN (i) rV4.any Y AN A0 Y Y) Y (Ql Y U3 (cI_ _) (Qm Y (BM (Qm Y (Qm Y (Qm Y (Qf FC Y (Ql Y Hf (e0 _) (Qm Y (Qx (Cy (V:=vC) (z:=(default:Ce)) (u:=x) x.c.id hg1 BA hM (AE lM lh) Y Hf LZ Y Y hxi) Y (Qx (CE Y Y hc Y (hp x hxm h' lh _)) Y (Am ?_))))))))))))));refine BG Y (λhpx=>?_) (λhpx=>?_)
   ·have hf:[x].filter (λa=>pr a.c)=[x]:=by simp[hpx]
    rw[hf];have hol:((U.take i).filter λa=>pr a.c).length<=1000000:=dc (dp _ _) (by rw[av];omega);refine BK (n:=12) (bs:=[true,false,true,true,true,true,true,true,false,false,true,false]) [true,false,true,true,true,true,true,true,false,false,true] CT κ κ Y Y (QF Cr Y (Qq Y (Qq Y (QF FC Y (QL Y Hf (e0 _) (Qq Y (Qp Y (Cy (V:=vC) (z:=(default:Ce)) (u:=x) x.c.id hg1 BA hM (AE lM lh) Y Hf LZ Y Y hxi) (QF Cr Y ?_))))))));unfold Fm;simp only[bl,ay];refine Bf [1,8] κ Y ?_;refine AD Y ?_ ?_
    ·refine Ql Y Bm (Cell.blk 1 Y Y) (Qw (Qo 8 Y (Aw [_,_,_] Y Bm AI Y (by rfl) Y Y ω Y Y Y (λg33=>Qw (Qo 9 Y ?_)))));refine Bp 1 hO (RdL.one CP (x:=x) Mh Y) Y Bm AI Y ω Y Y Y (DC (l:=[x]) (λy hy=>by rw[ao.1 hy];exact hsd x hxm)) (by simp only[ab];omega) (by simp only[ab];omega) rfl rfl rfl (λv6 m6 hO6=>?_);have ov6:=hO6.o1;refine Qw (Qo 11 Y (AO 2 0 Y Kx Y Y ov6 Y Y σ rfl rfl (Qw (Qe ?_))));refine Ai (AX ?_);exact Az _ ⟨v6,m6,Y,Y,Y,hO6⟩ Qs
    refine AD Y ?_ ?_
    ·refine Aw [_,_,_] Y Bm AI Y (by rfl) Y Y ω Y Y Y (λg33=>Qw (Qo 1 Y (Ql Y Bm (Cell.blk 2 Y Y) (Qw (Qo 9 Y ?_)))));refine Bp 1 hO (RdL.one CP (x:=x) Mh Y) Y Bm AI Y ω Y Y Y (DC (l:=[x]) (λy hy=>by rw[ao.1 hy];exact hsd x hxm)) (by simp only[ab];omega) (by simp only[ab];omega) rfl rfl rfl (λv6 m6 hO6=>?_);have ov6:=hO6.o1;refine Qw (Qo 11 Y (AO 2 0 Y Kx Y Y ov6 Y Y σ rfl rfl (Qw (Qe ?_))));refine Ai (AX ?_);exact Az _ ⟨v6,m6,Y,Y,Y,hO6⟩ Qs
    exact Be
   ·have hf:[x].filter (λa=>pr a.c)=[]:=by simp[hpx]
    rw[hf,eo];refine Ah (Ai ?_);exact Az _ ⟨vo,mo,Y,Y,Y,hO⟩ Qs
  ·obtain⟨vo',mo',rfl,rfl,rfl,hO'⟩:=hI;refine Ab (Qx (oA Y) Y (Qm Y (Ak ?_)));exact Al (U.length-(i+1)) _ ω ⟨i+1,vo',mo',Y,Y,lh,Y,ω,hO'⟩ Qs
 ·have hiU:i=U.length:=ω
  subst hiU;rw[ct]at hO;refine Av (Aa (Aa (Af (Ad (Aq (Qx (oG Y CS A8 (Seg.blk 1 Y)) Y ?_))))));refine Sa 2 [_] A8 Y (by simp[ovi,ovo]) ?_;refine Am (An (CY 1 Y (AX ?_)));exact BC (vs:=[_]) 1 Y Y CS Y A8 Y Y (⟨lh,vo,mo,Y,Y,hO⟩)
theorem VK(g:Nat)(U:List Ce)(cf:FuncId)(cs:List Value)(pr:Cl->Bool)(h:Hp)(R:RdT h g U)(hnd:(U.map λa=>a.c.id).Nodup)(hid:∀a∈U,BS a.c.id)(hn:U.length<=1000000)
  (hc:∀xs w,(callFunc cf xs).run Tryz.prog w=.ok (.enter cf xs) w)
  (hp:∀a∈U,∀h',h.le h'->∀ms,FnV Tryz.prog cf ([]++[Value.agg (cC a).toArray]++cs).toArray h' ms (.bool (pr a.c))) :
  FnT Tryz.prog 132 #[.pt g,.func (.func cf) #[] cs.toArray] h [] (λr h' ms'=>h.le h'/\∃m,ms'=[m]/\OwnL cI 1 3 m r ((U.filter λa=>pr a.c).map λa=>a.c.id)):=by
 refine Au func132 ntmps132 Y Y (λw0 hw0=>?_);simp only[A6];refine Aq (Qm Y (BM (Qm Y (Am (Ac (Aq (Qm Y (Qm Y (Qc call80 Y (Aah g U cf cs pr h R hnd hid hn hc hp) (λr h1 ms1 l1 hF=>?_))))))))));obtain⟨l1',v,m,rfl,rfl,hO⟩:=hF;refine Ba hO λh2 l2 hQ=>?_;obtain⟨W,hW⟩:∃W,(U.filter λa=>pr a.c)=W:=⟨_,Y⟩
 rw[hW]at hQ;have hWl:W.length<=1000000:=by rw[<-hW];exact dc (dp _ _) hn
 have hov:∀x∈W,x.v.oneCell'=true:=λx hx=>by obtain⟨gm,mT,bs,vids,hS,hM,lM,hV,hsd⟩:=R;rw[<-hW]at hx;exact(hsd x (br.1 hx).1).rd.one
 have ov:=hQ.rd.one;refine Qx (Er Y CS Y Bm Y Y Y) Y (Qx (As hQ.rd.any Y Bm Y) Y (Qm Y (Am (Ag (BT ?_)))))
 refine Ay (λq sl h' ms'=>∃(i:Nat) (vo:Value) (mo:Hp),W.length-i=q/\sl=[(5,vo),(11,v),(12,.w W.length),(13,.w i)]/\h2.le h'/\ms'=[mo]/\i<=W.length/\OwnL cI 1 3 mo vo ((W.take i).map λa=>a.c.id))
  (W.length-0) _ ⟨0,_,Hp.emp,rfl,rfl,Da,rfl,ω,OwnL.nil Bi⟩ Qs ?_
 rintro q sl h' ms' ⟨i,vo,mo,rfl,rfl,lh,rfl,hi,hO⟩;have hQ4:=hQ.up lh;have ovo:=hO.o1;refine Aq (Qm Y (Am (Ac ?_)));refine Ao Y (λhlt=>?_) (λhlt=>?_)
 ·have hiW:i<W.length:=ω
  obtain⟨x,hx⟩:∃x,W[i]=x:=⟨_,Y⟩
  have oxv:=hov x (by rw[<-hx];exact ae hiW);have gX:∀ms,Seg h' ms ((AG v).add (i*3)) (cC x):=λms=>by rw[<-hx];exact(hQ4.any (ms:=ms)).seg hiW
  have htk:(W.take (i+1)).map (λa=>a.c.id)=(W.take i).map (λa=>a.c.id)++[x.c.id]:=by rw[ak hiW,bm,hx];rfl
  have hol:((W.take i).map λa=>a.c.id).length<=1000000:=by rw[af,av];omega
  refine Ah (Ad (Ac (Ag (Aq (Qx (BN (i) hQ4.rd.any Y Bm AI Y Y) Y (Qx (oG Y Ey AI (gX _)) Y (Cx [.w 0,.w 0,.nl] Y AI Y Y (λg7=>?_))))))));refine Sa 0 [_,_,_] AI Y (by simp[ov,ovo,oxv]) ?_;refine Gl (Qm Y (Qf Bq Y (Ql Y U3 (Cell.blk 0 Y Y) (Aw [_] Y AN A0 Y (by rfl) Y Y ω Y Y Y (λg20=>AU 2 hO (RdL.one Bi (x:=x.c.id) Mh Y) Y AN A0 Y ω Y Y Y B5 (by simp only[ab];omega) (by simp only[ab];omega) rfl rfl rfl (λv6 m6 hO6=>?_))))));rw[<-htk]at hO6;have ov6:=hO6.o1;refine Qm Y (Ak (Ai (Ad (Ab (Qx (oA Y) Y (Qm Y (Ak ?_)))))));refine AX (AX ?_);exact Al (W.length-(i+1)) _ ω ⟨i+1,v6,m6,Y,Y,lh,Y,ω,hO6⟩ Qs
 ·have hiW:i=W.length:=ω
  subst hiW;rw[ct]at hO;refine Av (Aa (Aa (Af (Ad (Aq (Qm Y (Qm Y (Am (An ?_)))))))));exact Ap Y Y (⟨AE l1' (AE l2 lh),mo,Y,by rw[hW];exact hO⟩)
theorem Zd(x:Ce)(gd:Nat)(d:Int)(h:Hp)(hD:∀ms,Cell h ms (⟨gd,0,none⟩:Addr) (.int .i64 d))(ox:x.v.oneCell'=true) :
  FnT Tryz.prog 133 #[.agg (cC x).toArray,.pt gd] h [] (λr _ _=>r=.bool (decide (x.c.dim=d))):=by
 refine Au func133 ntmps133 Y Y (λw0 hw0=>?_);simp only[A6];refine Aq (AP [_,_,_] Y Y (by rfl) Y Y Y (λg2=>Qm Y (Am (Ax λh1 l1 hS=>?_))));have e1:∀ms,Cell h1 ms ((⟨g2,0,none⟩:Addr).add 1) (.w x.c.dim):=λms=>(hS 1 _ Y).any;have e2:∀ms,Cell h1 ms (⟨gd,0,none⟩:Addr) (.w d):=λms=>(hD ms).le l1;refine Aq (Qf BZ Y (Ql Y U3 (e1 _) (Ql Y U3 (e2 _) (Qm Y (Qm Y (Am (An ?_)))))));exact Ap Y Y (Y)
theorem OE(l:List Ce)(v:Value)(d:Int)(hp:Hp)(hK:RgC l)(hR:RdC hp v l) :
  FnT Tryz.prog 63 #[.agg #[v],.w d] hp [] (λr h' ms'=>hp.le h'/\∃m,ms'=[m]/\OwnL cI 1 3 m r (((cn l).filter λc=>decide (c.dim=d)).map Cl.id)):=by
 have ov:=hR.q.rd.one;refine Au func63 ntmps63 Y Y (λw0 hw0=>?_);simp only[A6];refine Aq (AP [_] Y Y (by rfl) Y Y Y (λg2=>AP [_] Y Y (by rfl) Y Y Y (λg3=>Qm Y (Am (Bj 1 Y λh1 l1 hS2=>(Ax λh2 l2 hS3=>?_))))));have hR2:=(hR.up l1).up l2;have gS2:∀ms,Seg h2 ms (⟨g2,0,none⟩:Addr) [v]:=λms=>(hS2.le l2).any;refine Aq (Qx (oG Y CS A8 (gS2 _)) Y (Qc call64 Y (Ou l v h2 hK hR2) (λr h3 ms3 l3 hF=>?_)));obtain⟨l3',rfl,g,A,rfl,hA,hT⟩:=hF;have hO:=hK.pc.toOfOk;have hAl:A.length=l.length:=by have:=aw List.length hA;rwa [af,Dg]at this
 have hAid:(A.map λa=>a.c.id)=(cn l).map Cl.id:=by rw[<-hA,fk];rfl
 have hnd:(A.map λa=>a.c.id).Nodup:=by rw[hAid];exact hK.F.rgt.nd
 have hid:∀a∈A,BS a.c.id:=λa ha=>by
  have h1:a.c∈cn l:=by rw[<-hA];exact ad.2 ⟨a,ha,Y⟩
  exact hK.cI h1
 have hov:∀a∈A,a.v.oneCell'=true:=λa ha=>by obtain⟨gm,mT,bs,vids,hS,hM,lM,hV,hsd⟩:=hT;exact(hsd a ha).rd.one
 have eD:∀h',h3.le h'->∀ms,Cell h' ms (⟨g3,0,none⟩:Addr) (.w d):=λh' lh ms=>((hS3 0 _ Y).any.le l3').le lh;refine Qx (Cc Y Y Y) Y ?_;refine Qc call132 Y (VK g A 133 [.pt g3] (λc=>decide (c.dim=d)) h3 hT hnd hid (by rw[hAl];exact hO.n) call133 (λa ha h' lh ms=>DW (Zd a g3 d h' (eD h' lh) (hov a ha)) ms)) (λr h4 ms4 l4 hF=>?_);obtain⟨l4',m,rfl,hOm⟩:=hF
 have e:(A.filter λa=>decide (a.c.dim=d)).map (λa=>a.c.id)=((cn l).filter λc=>decide (c.dim=d)).map Cl.id:=by rw[<-hA,List.filter_map,fk];rfl
 rw[e]at hOm;refine Qm Y (Am (An ?_));exact Ap Y Y (⟨AE l1 (AE l2 (AE l3' l4')),m,Y,hOm⟩)
theorem AaJ(A:List Ce)(j:Nat)(hj:j<(F3 A).length):(F3 A)[j].2=A[j]'(by unfold F3 at hj;rwa [af]at hj):=by simp only[F3,fm]
def Me(o:List Cl)(D:Int):Prop:=-1<=D/\(∀c∈o,c.dim<=D)/\(D=-1\/∃c∈o,c.dim=D)
theorem VZ(l:List Ce)(v:Value)(hp:Hp)(hK:RgC l)(hR:RdC hp v l) :
  FnT Tryz.prog 61 #[.agg #[v]] hp [] (λr h' ms'=>hp.le h'/\ms'=[]/\∃D,r=.w D/\Me (cn l) D):=by
 have ov:=hR.q.rd.one;refine Au func61 ntmps61 Y Y (λw0 hw0=>?_);simp only[A6];refine Aq (AP [_] Y Y (by rfl) Y Y Y (λg1=>Qm Y (Am (Ax λh1 l1 hS1=>?_))));have hR1:=hR.up l1;have gS1:∀ms,Seg h1 ms (⟨g1,0,none⟩:Addr) [v]:=λms=>hS1.any;refine Aq (Qm Y (Am (Ac (Aq (Qx (oG Y CS A8 (gS1 _)) Y (Qc call64 Y (Ou l v h1 hK hR1) (λr h3 ms3 l3 hF=>?_)))))));obtain⟨l3',rfl,g,A,rfl,hA,gm,mT,bs,vids,hS,hM,lM,hV,hsd⟩:=hF;have e0:∀ms,Cell h3 ms ((⟨g,0,none⟩:Addr).add 0) (.map (some gm)):=λms=>(hS 0 _ Y).any;have hTl:(F3 A).length=A.length:=by unfold F3;rw[af]
 refine Qm Y (Qf FC Y (Ql Y Hf (e0 _) (JN hM lM Y Hf Y Y Y Y (λgi mi0 I0=>Am (Ag ?_)))))
 refine Ay (λq sl h' ms'=>∃(vis:List Nat) (mi:Hp) (D:Int),A.length-vis.length=q/\sl=[(3,.w D),(11,.pt gi)]/\h3=h'/\ms'=[mi]/\Ig gi gm mT mi bs vis/\-1<=D/\(∀j (hj:j<A.length),j∈vis->A[j].c.dim<=D)/\(D=-1\/∃a∈A,a.c.dim=D))
  (A.length-0) _ ⟨[],mi0,-1,rfl,rfl,rfl,rfl,I0,ω,λj hj h=>(nomatch h),.inl rfl⟩ Qs ?_
 rintro q sl h' ms' ⟨vis,mi,D,rfl,rfl,rfl,rfl,I,hD1,hDv,hDe⟩;refine Aq ?_;refine Ln 0 hM I lM Y Y Y Y Y Y (λhall=>?_) (λj hj mi' hjv I'=>?_)
 ·refine Qm Y (Am (Ac (AQ Y (Av (Aa (Aa (Af (Ad (Aq (Qm Y (Qm Y (Am (An (AX ?_))))))))))))));exact Ap Y Y (⟨AE l1 l3',Y,D,Y,hD1,λc hc=>by rw[<-hA]at hc;obtain⟨a,ha,rfl⟩:=ad.1 hc;obtain⟨j,hj,rfl⟩:=dl.1 ha;exact hDv j hj (hall j (by rw[hTl];exact hj)),by rcases hDe with h|⟨a,ha,h⟩;exact .inl h;exact .inr ⟨a.c,by rw[<-hA];exact ad.2 ⟨a,ha,Y⟩,h⟩⟩)
 ·have hjA:j<A.length:=ω
  have hTj:(F3 A)[j].2=A[j]:=AaJ A j hj;obtain⟨x,hx⟩:∃x,A[j]=x:=⟨_,Y⟩
  have hxm:x∈A:=by rw[<-hx];exact ae hjA
  have oxv:=(hsd x hxm).rd.one;refine Qm Y (Am (Ac (A5 Y (Ah (Ad (Ag (Aq (Qx (Kb hM I' lM σ hj rfl rfl) rfl ?_))))))));rw[hTj,hx];refine Qm Y (Cx [.w 0,.w 0,.nl] Y AI Y Y (λg5=>?_));refine Sa 0 [_,_,_] AI Y (by simp[ov,oxv]) ?_;refine Gl (Qm Y (Qf BZ Y (Ql Y U3 (Cell.blk 0 Y Y) (Qx (GU Y Y Y) Y (Qm Y (Ak (Ai (AX ?_))))))));refine Al (A.length-(vis.length+1)) _ ?_ ⟨vis++[j],mi',max D x.c.dim,by simp,rfl,rfl,rfl,I',ω,λi hi' hv=>?_,?_⟩ Qs
  ·have hlt:vis.length<(F3 A).length:=by
    have h1:=Go.Kuhn.nodup_le (vis++[j]) (range (F3 A).length) I'.nodup λx hx=>by rw[bi,<-hM.len];exact I'.lt x hx
    simp at h1;omega
   omega
  ·rcases bf.1 hv with hv|hv
   ·have:=hDv i hi' hv;omega
   ·simp at hv;subst hv;rw[hx];omega
  ·rcases (ω:max D x.c.dim=D\/max D x.c.dim=x.c.dim) with e|e
   ·rw[e];exact hDe
   ·rw[e];exact .inr ⟨x,hxm,Y⟩
end
section
open Go.Lin Go.Sort Go.Srt
def Xl(o:List Cl)(c:Int):List Int:=(GJ o c).sd.map Prod.fst
open Classical in
noncomputable def Xk(o:List Cl)(c:Int):List Int:=(o.map Cl.id).filter λx=>decide (Rch (Xl o) c x)
theorem cloL_mem{o:List Cl}{c x:Int}:x∈Xk o c<->x∈o.map Cl.id/\Rch (Xl o) c x:=by
 classical
 unfold Xk;rw[List.mem_filter,decide_eq_true_iff]
end
section
open Go.Lin
variable {o:List Cl} {j i:Nat}
def sgn(sd:List (Int×Int))(c:Int):Int:=(sd.map λs=>if s.1=c then s.2 else 0).sum
theorem H8(c:Int):sgn [] c=0:=rfl
theorem IU(s:Int×Int)(sd:List (Int×Int))(c:Int):sgn (s::sd) c=(if s.1=c then s.2 else 0)+sgn sd c:=by unfold sgn;rw[fl,sum_cons]
theorem Mt(s:Int×Int)(sd:List (Int×Int))(c:Int):sgn (sd++[s]) c=sgn sd c+if s.1=c then s.2 else 0:=by unfold sgn;simp
theorem Ms{c:Int}:∀{sd:List (Int×Int)},(∀s∈sd,s.1≠c)->sgn sd c=0
 | [],_=>rfl
 | s::sd,h=>by rw[IU,aa (h s Mh),Ms λs hs=>h s (List.Mem.tail _ hs)];rfl
theorem N2{c:Int}{sd:List (Int×Int)}(h:sgn sd c≠0):∃s∈sd,s.1=c:=bc λq=>h (Ms λs hs e=>q ⟨s,hs,e⟩)
def DM(o:List Cl)(i j:Nat):Int:=sgn (o.getD j default).sd (o.getD i default).id
def O6(o:List Cl)(c:Int):Nat:=(o.map Cl.id).idxOf c
theorem HR{y:Cl}(hy:y∈o)(hn:(o.map Cl.id).Nodup):O6 o y.id<o.length/\o.getD (O6 o y.id) default=y:=by
 have hm:y.id∈o.map Cl.id:=ad.2 ⟨y,hy,Y⟩;have hlt:=List.idxOf_lt_length_of_mem hm;have h1:O6 o y.id<o.length:=by unfold O6;simpa using hlt
 refine⟨h1,?_⟩;rw[show o.getD (O6 o y.id) default=o[O6 o y.id] by simp[List.getD,h1]]
 have h2:(o[O6 o y.id]).id=y.id:=by have:=List.getElem_idxOf hlt;rw[fm]at this;exact this
 have h3:=De hn (ae h1);rw[h2,De hn hy]at h3;exact h3.symm
theorem Ml(hn:(o.map Cl.id).Nodup)(hi:i<o.length)(hj:j<o.length)(h:(o.getD i default).id=(o.getD j default).id):i=j:=by
 rw[show o.getD i default=o[i] by simp[List.getD,hi],show o.getD j default=o[j] by simp[List.getD,hj]]at h;have hp:=ax.1 hn;rcases dy i j with h1|h1|h1
 ·have:=hp i j (by simpa using hi) (by simpa using hj) h1;simp only[fm]at this;exact jt h this
 ·exact h1
 ·have:=hp j i (by simpa using hj) (by simpa using hi) h1;simp only[fm]at this;exact jt h.symm this
theorem VM(hn:(o.map Cl.id).Nodup)(g:Nat->Int):∀sd:List (Int×Int),(∀s∈sd,∃y∈o,y.id=s.1)->sm o.length (λk=>g k*sgn sd (o.getD k default).id)=(sd.map λs=>s.2*g (O6 o s.1)).sum
 | [],_=>by rw[List.map_nil];exact Gz λi _=>by rw[H8,fh]
 | s::sd,h=>by
  obtain⟨y,hy,e⟩:=h s Mh;obtain⟨h1,h2⟩:=HR hy hn;rw[e]at h1 h2;rw[fl,sum_cons,<-VM hn g sd λs hs=>h s (List.Mem.tail _ hs),Bw (g:=λk=>g k*(if s.1=(o.getD k default).id then s.2 else 0)+g k*sgn sd (o.getD k default).id) λk _=>by rw[IU,Int.mul_add],Hz];congr 1;rw[GX o.length (O6 o s.1) _ h1 λk hk hne=>?_]
  ·rw[h2,ac e.symm,fa]
  ·rw[aa,fh];intro e2;refine hne (Ml hn hk h1 ?_);rw[h2,e,e2]
theorem Mg(L:Int->List (Int×Int))(c:Int):∀s:List (Int×Int),EF (Lq L s) c=(s.map λa=>a.2*sgn (L a.1) c).sum
 | []=>rfl
 | a::s=>by
  have ih:=Mg L c s;unfold EF Lq at *;rw[List.flatMap_cons,bm,List.sum_append,ih,fl,sum_cons];congr 1
  have:∀l:List (Int×Int),((l.map λr=>(a.1,r.1,a.2*r.2)).map λ(e:Int×Int×Int)=>if e.2.1=c then e.2.2 else 0).sum=a.2*sgn l c:=λl=>by
   induction l with
   | nil=>simp[sgn]
   | cons r l ih=>
    rw[fl,fl,sum_cons,ih,IU,Int.mul_add];congr 1;show(if r.1=c then a.2*r.2 else 0)=_;split
    ·rfl
    ·rw[fh]
  exact this _
theorem Qu{α:Type}{h:α->Int}:∀{l:List α},(∀s∈l,h s=0)->(l.map h).sum=0
 | [],_=>rfl
 | a::l,hl=>by rw[fl,sum_cons,hl a Mh,Qu λs hs=>hl s (List.Mem.tail _ hs)];rfl
theorem Es(hj:j<o.length):o.getD j default∈o:=by rw[show o.getD j default=o[j] by simp[List.getD,hj]];exact ae hj
theorem DM2(R:Rgt o)(hj:j<o.length):F2 o.length (DM o) (λk=>DM o k j) i=0:=by
 obtain⟨x,hx⟩:∃x,o.getD j default=x:=⟨_,Y⟩
 have hxm:x∈o:=by rw[<-hx];exact Es hj
 obtain⟨c,hc⟩:∃c,(o.getD i default).id=c:=⟨_,Y⟩
 have hs:∀s∈x.sd,∃y∈o,y.id=s.1:=λs hs=>by obtain⟨y,hy,e,_⟩:=R.sid x hxm s hs;exact⟨y,hy,e⟩
 have e1:F2 o.length (DM o) (λk=>DM o k j) i=(x.sd.map λs=>s.2*DM o i (O6 o s.1)).sum:=by rw[<-VM R.nd (λk=>DM o i k) x.sd hs];unfold F2;exact Bw λk _=>by unfold DM;rw[hx]
 have e2:(x.sd.map λs=>s.2*DM o i (O6 o s.1)).sum=EF (F4 o x) c:=by unfold F4;rw[Mg];congr 1;refine fc λs hs'=>?_;obtain⟨y,hy,e⟩:=hs s hs';obtain⟨h1,h2⟩:=HR hy R.nd;unfold DM;rw[hc,<-e,h2,De R.nd hy]
 rw[e1,e2];have hd:=R.dim x hxm;rcases (ω:2<=x.dim\/x.dim=1\/x.dim=0) with h|h|h
 ·by_cases he:∃e∈F4 o x,e.2.1=c
  ·obtain⟨e,he,rfl⟩:=he;exact(R.tab x hxm h).sum e he
  ·exact(MT λe he' q=>he ⟨e,he',q⟩).1
 ·unfold F4;rw[Mg]
  have:∀s∈x.sd,s.2*sgn (GJ o s.1).sd c=0:=λs hs'=>by obtain⟨y,hy,e,hyd⟩:=R.sid x hxm s hs';rw[<-e,De R.nd hy];have hnum:=R.num y hy;unfold Cb at hnum;have:y.sd=[]:=gz.1 ω;rw[this,H8,fh]
  exact Qu this
 ·have hnum:=R.num x hxm;unfold Cb at hnum;have:x.sd=[]:=gz.1 ω;unfold F4;rw[this];rfl
theorem AbM(R:Rgt o)(hi:i<o.length)(hj:j<o.length)(h:DM o i j≠0):(o.getD j default).dim=(o.getD i default).dim+1:=by obtain⟨s,hs,e⟩:=N2 h;obtain⟨y,hy,e1,e2⟩:=R.sid _ (Es hj) s hs;obtain⟨h1,h2⟩:=HR hy R.nd;have h3:O6 o y.id=i:=Ml R.nd h1 hi (by rw[h2,e1,e]);rw[<-h3,h2,e2];omega
end
section
open Go.Lin
def Shp(v:Value)(n:Nat):Prop:=(v=.slice none 0 0/\n=0)\/∃g c,v=.slice (some ⟨g,0,none⟩) n c
theorem SS{α:Type}{F:α->List Value}{sz:Nat}{el:TypeId}{m:Hp}{v:Value}{l:List α}(O:OwnL F sz el m v l):Shp v l.length:=by
 obtain⟨⟨_,h⟩,_⟩:=O;rcases h with ⟨h1,h2,_⟩|⟨g,cap,spare,h1,_⟩
 ·exact .inl ⟨h1,h2⟩
 ·exact .inr ⟨g,cap,h1⟩
theorem AcM(zs:List Int)(v:Value)(x:Int)(h:Hp)(hR:RdL cI 1 h [] v zs)(hv:Shp v zs.length)(hs:zs.Pairwise (·<=·))(hn:zs.length<=1000000)(ms:List Hp) :
  FnV Tryz.prog 130 #[v,.w x] h ms (.tuple #[.w ((zs.countP (·<x):Nat):Int),.bool (zs.contains x)]):=by
 intro w hw;rcases hv with ⟨rfl,h0⟩|⟨g,c,rfl⟩
 ·obtain rfl:zs=[]:=gz.1 h0;exact(Tryz.slices_BinarySearch_int_empty none 0 x w).mono λe w' ⟨h1,h2⟩=>⟨by rw[h1];rfl,by rw[h2];exact Ext.refl _⟩
 ·refine(Tryz.slices_BinarySearch_int g 0 zs.length c zs x w (au _) ω (λj hj=>?_) (by rw[ct];exact hs)).mono λe w' ⟨h1,q,h2⟩=>⟨by rw[h1,ct],by rw[h2];exact⟨Y,⟨Y,Nat.le_add_right _ _⟩,Y,au _,λ_ _=>rfl⟩⟩
  have hc:=(hR.any (ms:=ms)).cell0 hj (u:=.w zs[j]) Y;have:=hw.cell hc;rw[show(AG (.slice (some ⟨g,0,none⟩) zs.length c)).add (j*1)=(⟨g,0+j,none⟩:Addr) by simp only[AG,Addr.add,jk];split<;>simp_all]at this;simpa[List.getD,hj] using this
theorem QH:∀{zs:List Int},zs.Pairwise (· < ·)->∀{x:Int} {i:Nat} (hi:i<zs.length),zs[i]=x->zs.countP (·<x)=i
 | [],_,x,i,hi,_=>by simp at hi
 | a::zs,hp,x,i,hi,he=>by
  rw[pairwise_cons]at hp;cases i with
  | zero=>
   simp at he;subst he;rw[List.countP_cons,aa σ];rw[List.countP_eq_zero.2 λb hb=>by have:=hp.1 b hb;simp;omega]
  | succ i=>
   have hi':i<zs.length:=by simpa using hi
   have he':zs[i]=x:=by simpa using he
   have:=hp.1 _ (ae hi');rw[List.countP_cons,ac (by simp;omega),QH hp.2 hi' he']
end
section
open Go.Lin
theorem No{a b c:Hp}(h:a.disj b):a.join (b.join c)=b.join (a.join c):=by rw[<-Hp.join_assoc,<-Hp.join_assoc,Hp.join_comm h]
theorem ColsO.at_:∀{vs:List Value} {cs:List (List Int)} {m:Hp},ColsO m vs cs->∀{i:Nat} (hv:i<vs.length) (hc:i<cs.length),∃a b,m=a.join b/\a.disj b/\OwnL cI 1 3 a vs[i] cs[i]/\∀a' c',a'.disj b->OwnL cI 1 3 a' vs[i] c'->ColsO (a'.join b) vs (cs.set i c')
 | [],_,_,_,i,hv,_=>by simp at hv
 | _::_,[],_,h,_,_,_=>h.elim
 | v::vs,c::cs,m,⟨a,b,e,hd,O,C⟩,0,_,_=>⟨a,b,e,hd,O,λa' c' hd' O'=>⟨a',b,rfl,hd',O',C⟩⟩
 | v::vs,c::cs,m,⟨a0,b0,e,hd,O,C⟩,i+1,hv,hc=>by
  obtain⟨a,b,e2,hd2,O2,K⟩:=C.at_ (i:=i) (by simpa using hv) (by simpa using hc);subst e2;obtain⟨h0a,h0b⟩:=Hp.disj_of_join hd;refine⟨a,a0.join b,by rw[e];exact No h0a,?_,O2,λa' c' hd' O'=>?_⟩
  ·exact Hp.disj_symm (Hp.disj_join h0a (Hp.disj_symm hd2))
  ·obtain⟨k0,kb⟩:=Hp.disj_of_join hd';refine⟨a0,a'.join b,No k0,?_,O,K a' c' kb O'⟩;exact Hp.disj_symm (Hp.disj_join k0 (Hp.disj_symm h0b))
variable {r c k:Nat} {B:Nat->Nat->Int} {sd:List (Int×Int)} {rows:List Int}
def D9(B:Nat->Nat->Int)(sd:List (Int×Int))(rows:List Int)(k j i b:Nat):Int:=if b<k then B i b else if b=k then sgn (sd.take j) (rows.getD i 0) else 0
def Db(r c:Nat)(F:Nat->Nat->Int):List (List Int):=(range r).map λi=>EK c (F i)
theorem EV(r c:Nat)(F:Nat->Nat->Int):(Db r c F).length=r:=by simp[Db]
theorem Ff{F G:Nat->Nat->Int}(h:∀i,i<r->∀b,b<c->F i b=G i b):Db r c F=Db r c G:=by unfold Db;refine fc λi hi=>MF λb hb=>h i (bi.1 hi) b hb
theorem Ry(r c:Nat)(B:Nat->Nat->Int)(sd:List (Int×Int))(rows:List Int):Db r c (D9 B sd rows 0 0)=replicate r (replicate c 0):=by
 have h1:Db r c (D9 B sd rows 0 0)=Db r c λ_ _=>0:=Ff λi _ b _=>by unfold D9;rw[aa ω,jq,H8,ite_self]
 rw[h1];unfold Db EK;rw[List.map_const',ip,List.map_const',ip]
theorem Kd{sd':List (Int×Int)}:Db r c (D9 B sd rows k 0)=Db r c (D9 B sd' rows k 0):=
 Ff λi _ b _=>by unfold D9;rw[jq,jq]
theorem Rk(hB:∀i,i<r->B i k=sgn sd (rows.getD i 0)):Db r c (D9 B sd rows k sd.length)=Db r c (D9 B sd rows (k+1) 0):=
 Ff λi hi b _=>by
  unfold D9;rw[ct,jq,H8,ite_self];by_cases h1:b<k
  ·rw[ac h1,ac ω]
  ·by_cases h2:b=k
   ·subst h2;rw[aa h1,ac rfl,ac ω,hB i hi]
   ·rw[aa h1,aa h2,aa ω]
theorem UX:Db r c (D9 B sd rows c 0)=Db r c B:=
 Ff λi _ b hb=>by unfold D9;rw[ac hb]
theorem VV{j:Nat}(hr:rows.length=r)(hj:j<sd.length)(h:sd[j].1 ∉ rows):Db r c (D9 B sd rows k (j+1))=Db r c (D9 B sd rows k j):=
 Ff λi hi b _=>by
  unfold D9;have hi':i<rows.length:=ω
  have hne:¬sd[j].1=rows.getD i 0:=λe=>h (by rw[e];simp[List.getD,hi']);rw[ak hj,Mt,aa hne,gl]
theorem TT{j i0:Nat}(hr:rows.length=r)(hn:rows.Nodup)(hj:j<sd.length)(hi0:i0<r)(hk:k<c)(h:rows[i0]'ω=sd[j].1) :
  Db r c (D9 B sd rows k (j+1))=(Db r c (D9 B sd rows k j)).set i0 ((EK c (D9 B sd rows k j i0)).set k (D9 B sd rows k j i0 k+sd[j].2)):=by
 refine dq (by rw[List.length_set,EV,EV]) λi h1 h2=>?_;have hi:i<r:=by rwa [EV]at h1
 have hi':i<rows.length:=ω
 rw[List.getElem_set];have e1:∀(F:Nat->Nat->Int) (h:i<(Db r c F).length),(Db r c F)[i]=EK c (F i):=λF h=>by simp[Db]
 have es:sgn (sd.take (j+1)) (rows.getD i 0)=sgn (sd.take j) (rows.getD i 0)+if sd[j].1=rows.getD i 0 then sd[j].2 else 0:=by rw[ak hj,Mt]
 have eg:rows.getD i 0=rows[i]:=by simp[List.getD,hi']
 split
 ·rename_i e;subst e;rw[e1];refine dq (by simp[EK]) λb hb1 hb2=>?_;rw[List.getElem_set];have hbc:b<c:=by simpa[EK] using hb1
  have ev:∀(F:Nat->Int) (h:b<(EK c F).length),(EK c F)[b]=F b:=λF h=>by simp[EK]
  rw[ev];split
  ·rename_i e;subst e;unfold D9;rw[aa ω,ac rfl,aa ω,ac rfl,es,eg,ac h.symm]
  ·rename_i e;rw[ev];unfold D9;rw[aa (show ¬b=k from λq=>e q.symm),aa (show ¬b=k from λq=>e q.symm)]
 ·rename_i e;rw[e1,e1];refine MF λb hb=>?_;unfold D9
  have hne:¬sd[j].1=rows.getD i 0:=λq=>e (by
   rw[<-h,eg]at q
   exact(List.getElem_inj hn).1 q)
  rw[es,aa hne,gl]
end
section
open Go.Lin
def BP(o:List Cl)(d:Int):List Int:=(o.filter λc=>decide (c.dim=d)).map Cl.id
theorem Gs(o:List Cl)(d:Int):(BP o d).length<=o.length:=by unfold BP;rw[af];exact dp _ _
theorem Vq{o:List Cl}(h:RgtF o)(d:Int):(BP o d).Pairwise (· < ·):=by unfold BP;rw[cm];exact h.inc.sublist List.filter_sublist
theorem SE:∀l:List Value,l.flatMap cU=l
 | []=>rfl
 | a::l=>by rw[List.flatMap_cons,SE l];rfl
theorem Ot:∀(sd:List (Int×Int)) (c:Int),(∀s∈sd,s.2=1\/s.2=-1)->-(sd.length:Int)<=sgn sd c/\sgn sd c<=sd.length
 | [],c,_=>by rw[H8];simp
 | s::sd,c,h=>by have ih:=Ot sd c λs hs=>h s (List.mem_cons_of_mem _ hs);have h1:=h s List.mem_cons_self;rw[IU,List.length_cons];split<;>omega
def IK(o:List Cl)(d:Int)(i k:Nat):Int:=sgn (GJ o ((BP o d).getD k 0)).sd ((BP o (d-1)).getD i 0)
theorem Ut(l:List Ce)(v:Value)(d:Int)(hd:-5<=d/\d<=1000)(hp:Hp)(hK:RgC l)(hR:RdC hp v l)(hn:l.length<=200) :
  FnT Tryz.prog 62 #[.agg #[v],.w d] hp [] (λw h' ms'=>hp.le h'/\W7 w ms' (BP (cn l) (d-1)).length (BP (cn l) d).length (BV (BP (cn l) (d-1)).length (BP (cn l) d).length (IK (cn l) d))):=by
 have ov:=hR.q.rd.one;refine Au func62 ntmps62 Y Y (λw0 hw0=>?_);simp only[A6];refine Aq (AP [_] Y Y (by rfl) Y Y Y (λg2=>Cx [.w 0,.w 0,.nl] Y EH Y Y (λg4=>Am (Bj 1 Y λh1 l1 hS2=>?_))));have hR1:=hR.up l1;have gS2:∀ms,Seg h1 ms (⟨g2,0,none⟩:Addr) [v]:=λms=>hS2.any;refine Aq (Qx (oG Y CS A8 (gS2 _)) Y (Qc call64 Y (Ou l v h1 hK hR1) (λr h3 ms3 l3 hF=>?_)));obtain⟨l3',rfl,g,A,rfl,hA,hT⟩:=hF;have hR3:=hR1.up l3';have gS2:∀ms,Seg h3 ms (⟨g2,0,none⟩:Addr) [v]:=λms=>(hS2.le l3').any;refine Qm Y (Am (Ac (BK (n:=9) (bs:=[true,true,true,false,true,true,false,false,false]) [true,true,true,false,true,true] CT κ κ Y Y (Qp Y (oG Y CS A8 (gS2 _)) (Qq Y (Qp Y (oS Y) (Qp Y (oG Y CS A8 (gS2 _)) (Qq Y ?_))))))));unfold Fm;simp only[bl,ay];refine Qo 3 Y (Qc call63 Y (OE l v (d-1) h3 hK hR3) (λra h4 ms4 l4 hF=>?_));obtain⟨l4',ma,rfl,hOa⟩:=hF;have shA:=SS hOa;refine Ba hOa λh5 l5 hRa=>?_;have l35:=AE l4' l5;refine Qa (Qo 6 Y (Qc call63 Y (OE l v d h5 hK (hR3.up l35)) (λrb h6 ms6 l6 hF=>?_)));obtain⟨l6',mb,rfl,hOb⟩:=hF;have shB:=SS hOb;refine Ba hOb λh7 l7 hRb=>?_;have l57:=AE l6' l7;have l37:=AE l35 l57;refine Qa (Qo 7 Y (Qm Y (Qa (Qo 8 Y (Qm Y (Qa (Qe ?_)))))));have hRa7:=hRa.up l57;obtain⟨o,ho⟩:∃o,cn l=o:=⟨_,Y⟩
 have hol:o.length=l.length:=by rw[<-ho,Dg]
 have hrg:RgtF o:=by rw[<-ho];exact hK.F
 change RdL cI 1 h7 [] ra (BP (cn l) (d-1)) at hRa7;change RdL cI 1 h7 [] rb (BP (cn l) d) at hRb;rw[ho]at hRa7 hRb ⊢;obtain⟨r,hr⟩:∃r,(BP o (d-1)).length=r:=⟨_,Y⟩
 obtain⟨c,hc⟩:∃c,(BP o d).length=c:=⟨_,Y⟩
 have hr2:r<=200:=by have:=Gs o (d-1);omega
 have hc2:c<=200:=by have:=Gs o d;omega
 rw[hr,hc];have rA:Rd h7 [] ra 1 r ((BP o (d-1)).flatMap cI):=by have:=hRa7.rd;rwa [hr]at this
 have rB:Rd h7 [] rb 1 c ((BP o d).flatMap cI):=by have:=hRb.rd;rwa [hc]at this
 have oa:=rA.one;have ob:=rB.one;have lh7:=AE l1 (AE l3' l37);refine Ad (Ac (Aq (Qm Y (Qx (As rA.any Y AN Y) Y (Qm Y (Qm Y ?_))))));refine AL (t:=28) Y (λh1=>?_) (λh1=>?_)
 ·exact jt h1 ω
 ·refine Qg (Ar Y Y) Y (Qg (As rB.any Y AN Y) Y (Qg (Ct Y Y Y) Y (Qm Y (Am ?_))));refine Ao Y (λh2=>?_) (λh2=>?_)
  ·exact jt h2 ω
  ·refine Ah (Ad (Ac (Aq (Qm Y (Qx (As rA.any Y AN Y) Y (Qm Y (Am ?_)))))));refine Ao Y (λh3=>?_) (λh3=>?_)
   ·have hr0:r=0:=ω
    subst hr0;refine Aq (Qm Y (Qx (As rB.any Y AN Y) Y (Qc call129 Y (Pq 0 c ω hc2 h7) (λz h8 ms8 l8 hF=>?_))));obtain⟨rfl,ev,m,rfl,rfl,hO⟩:=hF;have oe:=hO.o1;have hL:replicate (0*c) (0:Int)=BV 0 c (IK o d):=by simp[BV]
    rw[hL]at hO;refine Sa 1 [_,_,_] EH Y (by simp[ov,oa,ob,oe]) ?_;refine Am (An (Ae ?_));exact BC (vs:=[_,_,_]) 1 Y Y PA Y EH Y Y (⟨lh7,ev,m,Y,Y,hO⟩)
   ·refine Ah (Ad (Aq (Qm Y (Qx (As rA.any Y AN Y) Y (CL (n:=r) Y CA CI Y Y Y (by rfl) (by rfl) ω ω Y Y Y (λg42=>Qm Y (Am (Ac (Aq (Qm Y (Qx (RL (ty:=81) Y CA Y) Y (Qm Y (Am (Ag ?_))))))))))))))
    have hO0:OwnL cU 1 22 (Bh g42 22 (replicate r (.nl))) (.slice (some ⟨g42,0,none⟩) r r) ([]++replicate r (.nl)):=by
     rw[ay];have:=OwnL.blk (F:=cU) (el:=22) (g:=g42) (l:=replicate r (Value.nl)) r Ny σ ω
     rwa [SE]at this
    refine BT ?_
    refine Ay (λq sl h' ms'=>∃(i:Nat) (Rs:List Value) (mR mo:Hp),r-i=q/\sl=[(4,.pt g4),(5,.pt g),(6,ra),(7,rb),(8,.slice (some ⟨g42,0,none⟩) r r),(44,.w r),(45,.w i)]/\h7=h'/\ms'=[mR,mo,Bh g4 106 [.w 0,.w 0,.nl]]/\i<=r/\OwnL cU 1 22 mo (.slice (some ⟨g42,0,none⟩) r r) (Rs++replicate (r-i) (.nl))/\Rs.length=i/\ColsO mR Rs (replicate i (replicate c 0)))
     (r-0) _ ⟨0,[],Hp.emp,_,rfl,rfl,rfl,rfl,ω,hO0,rfl,rfl⟩ Qs ?_
    rintro q sl h' ms' ⟨i,Rs,mR,mo,rfl,rfl,rfl,rfl,hi,hO,hRl,hCR⟩;refine Aq (Qm Y (Am (Ac ?_)));refine Ao Y (λhlt=>?_) (λhlt=>?_)
    ·have hir:i<r:=ω
     refine Ah (Ad (Ac (Ag (Aq (Qm Y (Qm Y (Gl (Qm Y (Qm Y (Qm Y (Qx (As rB.any Y AN Y) Y (CL (n:=c) Y AN A0 Y Y Y (by rfl) (by rfl) ω ω Y Y Y (λg52=>Qx (Co (i) Y CA CI Y Y ω ω) Y ?_)))))))))))))
     have hset:(Rs++replicate (r-i) (Value.nl)).set i (.slice (some ⟨g52,0,none⟩) c c)=(Rs++[.slice (some ⟨g52,0,none⟩) c c])++replicate (r-(i+1)) (Value.nl):=by rw[List.set_append_right _ _ ω,hRl,Nat.sub_self,show r-i=(r-(i+1))+1 by omega,List.replicate_succ,List.set_cons_zero,bp];rfl
     refine Ca (f:=λv:Value=>v) (a:=.slice (some ⟨g52,0,none⟩) c c) 2 i (λ_=>rfl) hO Y CI Y Y Y Y (by rw[ag,length_replicate];omega) rfl rfl (λmo' hO'=>?_);rw[hset]at hO';refine Ak (Ai (Ad (Ab (Qx (oA Y) Y (Qm Y (Ak (EB λhap=>?_)))))));have hap:[Bh g52 3 (replicate c (.w 0)),mR,mo',Bh g4 106 [.w 0,.w 0,.nl]].Pairwise Hp.disj:=hap;simp only[pairwise_cons,aq,iz,jf,forall_eq_or_imp,forall_eq]at hap;have hC':=hCR.snoc (OwnL.rep (g:=g52) (el:=3) c 0 ω) (Hp.disj_symm hap.1.1);have hrs:replicate i (replicate c (0:Int))++[replicate c 0]=replicate (i+1) (replicate c 0):=(List.replicate_succ' ..).symm;rw[hrs]at hC';refine CY 1 Y (E6 ?_);exact Al (r-(i+1)) _ ω ⟨i+1,_,_,mo',Y,Y,Y,Y,ω,hO',by rw[ag,hRl];rfl,hC'⟩ Qs
    ·have hir:i=r:=ω
     subst hir;refine Av (Aa (Aa (Af (Ad (EC 1 Y (A9 hO λh8 l8 hL=>?_))))));rw[Nat.sub_self,List.replicate_zero,eo]at hL;have rB8:=rB.le l8;have rA8:=rA.le l8;refine Ac (Aq (Qm Y (Qx (As rB8.any Y AN Y) Y (Qm Y (Am (Ag ?_))))));have hCR0:ColsO mR Rs (Db i c (D9 (IK o d) [] (BP o (d-1)) 0 0)):=by rw[Ry];exact hCR
     refine Ay (λq sl h' ms'=>∃(k:Nat) (mR:Hp),c-k=q/\sl=[(4,.pt g4),(5,.pt g),(6,ra),(8,.slice (some ⟨g42,0,none⟩) i i),(55,rb),(56,.w c),(57,.w k)]/\h8.le h'/\ms'=[mR,Bh g4 106 [.w 0,.w 0,.nl]]/\k<=c/\ColsO mR Rs (Db i c (D9 (IK o d) [] (BP o (d-1)) k 0)))
      (c-0) _ ⟨0,mR,rfl,rfl,Da,rfl,ω,hCR0⟩ Qs ?_
     rintro q sl h9 ms' ⟨k,mR,rfl,rfl,l9,rfl,hk,hC⟩;refine Aq (Qm Y (Am (Ac ?_)));refine Ao Y (λhlt2=>?_) (λhlt2=>?_)
     ·have hkc:k<c:=ω
      have hkL:k<(BP o d).length:=ω
      obtain⟨y,hy⟩:∃y,(BP o d).getD k 0=y:=⟨_,Y⟩
      have hyg:(BP o d)[k]=y:=by rw[<-hy];simp[List.getD,hkL]
      have hB9:=(hRb.up l8).up l9;have cB:∀ms,Cell h9 ms ((AG rb).add (k*1)) (.w y):=λms=>(hB9.any (ms:=ms)).cell0 hkL (by rw[hyg];rfl);obtain⟨gm,mT,bs,vids,hS,hM,lM,hV,hsd⟩:=hT;have l39:=AE l37 (AE l8 l9);have e0:∀ms,Cell h9 ms ((⟨g,0,none⟩:Addr).add 0) (.map (some gm)):=λms=>((hS 0 _ Y).any).le l39;have hAo:A.map Ce.c=o:=by rw[hA,ho]
      have hAid:(A.map λa=>a.c.id)=o.map Cl.id:=by rw[<-hAo,fk];rfl
      have hnd:(A.map λa=>a.c.id).Nodup:=by rw[hAid];exact hrg.rgt.nd
      obtain⟨a,haA,hay⟩:∃a,a∈A/\a.c.id=y:=by
       have h1:y∈BP o d:=by rw[<-hyg];exact ae hkL
       unfold BP at h1;obtain⟨cl,h2,h3⟩:=ad.1 h1;have h4:cl∈A.map Ce.c:=by rw[hAo];exact(br.1 h2).1
       obtain⟨a,h5,rfl⟩:=ad.1 h4;exact⟨a,h5,h3⟩
      have hga:Bz (F3 A) y=some a:=by rw[<-hay];exact Lx hnd haA
      have hga1:(Bz (F3 A) y).getD default=a:=by rw[hga];rfl
      have hyI:BS y:=by
       have h1:a.c∈cn l:=by rw[<-hA];exact ad.2 ⟨a,haA,Y⟩
       rw[<-hay];exact hK.cI h1
      have hcel:GJ o y=a.c:=by have:=Jw A y;rw[hAo,hga1]at this;exact this.symm
      have hsa:=(hsd a haA).up l39;have oav:=hsa.rd.one;refine Ah (Ad (Ac (Ag (Aq (Qm Y (Qx (AA (k) (rB8.le l9).any Y AN A0 Y Y ω ω) Y (Ql Y U3 (cB _) (Qm Y (Qm Y (BM (Qm Y (Qm Y (Qf FC Y (Ql Y Hf (e0 _) (Qm Y (Qx (Cy (V:=vC) (z:=(default:Ce)) (u:=a) y hga1 BA hM (AE lM l39) Y Hf LZ Y Y hyI) Y (Qx (Er Y Ey Y Cf Y Y Y) Y (Qx (As hsa.rd.any Y Cf Y) Y (Qm Y (Am (Ag ?_)))))))))))))))))))));have hao:a.c∈o:=by rw[<-hAo];exact ad.2 ⟨a,haA,Y⟩
      have hsl:a.c.sd.length<=64:=(hrg.bds hao).2.1;have hsg:=hrg.rgt.sgn _ hao
      refine Ay (λq sl h' ms'=>∃(j:Nat) (mR:Hp),a.c.sd.length-j=q/\sl=[(4,.pt g4),(5,.pt g),(6,ra),(8,.slice (some ⟨g42,0,none⟩) i i),(10,.w k),(55,rb),(56,.w c),(57,.w k),(68,a.v),(69,.w a.c.sd.length),(70,.w j)]/\h9.le h'/\ms'=[mR,Bh g4 106 [.w 0,.w 0,.nl]]/\j<=a.c.sd.length/\ColsO mR Rs (Db i c (D9 (IK o d) a.c.sd (BP o (d-1)) k j)))
       (a.c.sd.length-0) _ ⟨0,mR,rfl,rfl,Da,rfl,ω,by rw[Kd (sd':=[])];exact hC⟩ Qs ?_
      rintro q sl h11 ms' ⟨j,mR,rfl,rfl,l11,rfl,hj,hC⟩;have hsa11:=hsa.up l11;refine Aq (Qm Y (Am (Ac ?_)));refine Ao Y (λhlt3=>?_) (λhlt3=>?_)
      ·have hjl:j<a.c.sd.length:=ω
       obtain⟨s,hs⟩:∃s,a.c.sd[j]=s:=⟨_,Y⟩
       have gS:∀ms,Seg h11 ms ((AG a.v).add (j*2)) (cD s):=λms=>by rw[<-hs];exact(hsa11.any (ms:=ms)).seg hjl
       refine Ah (Ad ?_);refine Bg (λsl h'' ms'=>∃mR':Hp,sl=[(4,.pt g4),(5,.pt g),(6,ra),(8,.slice (some ⟨g42,0,none⟩) i i),(10,.w k),(55,rb),(56,.w c),(57,.w k),(68,a.v),(69,.w a.c.sd.length),(70,.w j)]/\h11.le h''/\ms'=[mR',Bh g4 106 [.w 0,.w 0,.nl]]/\ColsO mR' Rs (Db i c (D9 (IK o d) a.c.sd (BP o (d-1)) k (j+1)))) ?_ (λs h ms hI=>?_)
       ·refine Ag (Aq (Qx (BN (j) hsa11.rd.any Y Cf AS Y Y) Y (Qx (oG Y Eh AS (gS _)) Y (Cx [.w 0,.w 0] Y AS Y Y (λg13=>?_)))));refine Sa 0 [_,_] AS Y (by simp[Value.oneCell']) ?_;refine Am (Ax λh12 l12 hS13=>?_);have l712:=AE l8 (AE l9 (AE l11 l12));have hRa12:=hRa7.up l712;have e130:∀ms,Cell h12 ms ((⟨g13,0,none⟩:Addr).add 0) (.w s.1):=λms=>(hS13 0 _ Y).any;have e131:∀ms,Cell h12 ms ((⟨g13,0,none⟩:Addr).add 1) (.w s.2):=λms=>(hS13 1 _ Y).any;have hinc:=Vq hrg (d-1);change Shp ra (BP (cn l) (d-1)).length at shA;rw[ho]at shA;refine Aq (Qm Y (Qf Cm Y (Ql Y U3 (e130 _) (Qx (AH Y call130 Y (AcM (BP o (d-1)) ra s.1 h12 hRa12 shA (hinc.imp λh=>Int.le_of_lt h) ω _)) Y (Qm Y (Qm Y (Qm Y (Qm Y (Qm Y (BM (Qm Y (Am ?_))))))))))));refine BG Y (λhfd=>?_) (λhfd=>?_)
        ·have hmem:s.1∈BP o (d-1):=by simpa using hfd
         obtain⟨i0,hi0,he0⟩:=dl.1 hmem;have hi0i:i0<i:=ω
         have hcnt:(BP o (d-1)).countP (·<s.1)=i0:=QH hinc hi0 he0;rw[hcnt];have hv0:i0<Rs.length:=ω
         obtain⟨a1,b1,e1,dab,O1,K⟩:=hC.at_ (i:=i0) hv0 (by rw[EV];exact hi0i);subst e1;obtain⟨ρ,hρ⟩:∃ρ,Rs[i0]=ρ:=⟨_,Y⟩
         rw[hρ]at O1 K;have er:(Db i c (D9 (IK o d) a.c.sd (BP o (d-1)) k j))[i0]'(by rw[EV];exact hi0i)=EK c (D9 (IK o d) a.c.sd (BP o (d-1)) k j i0):=by simp[Db]
         rw[er]at O1;refine HI dab ?_;have cL:∀ms,Cell h12 ms ((AG (.slice (some ⟨g42,0,none⟩) i i)).add (i0*1)) ρ:=λms=>((hL.any (ms:=ms)).cell0 hv0 (by rw[hρ];rfl)).le (AE l9 (AE l11 l12));have hkv:k<(EK c (D9 (IK o d) a.c.sd (BP o (d-1)) k j i0)).length:=by rw[Cd];exact hkc
         have cX:∀ms,a1∈ms->Cell h12 ms ((AG ρ).add (k*1)) (.w (D9 (IK o d) a.c.sd (BP o (d-1)) k j i0 k)):=λms hm=>(O1.rd (h:=h12) hm).cell0 hkv (by simp[EK,cI]);have rρ:Rd h12 [a1] ρ 1 c ((EK c (D9 (IK o d) a.c.sd (BP o (d-1)) k j i0)).flatMap cI):=by have:=(O1.rd (h:=h12) (ms:=[a1]) Mh).rd;rwa [Cd]at this
         have hbd:=Ot (a.c.sd.take j) ((BP o (d-1)).getD i0 0) λs hs=>hsg s (List.mem_of_mem_take hs);have hbe:D9 (IK o d) a.c.sd (BP o (d-1)) k j i0 k=sgn (a.c.sd.take j) ((BP o (d-1)).getD i0 0):=by unfold D9;rw[aa ω,ac rfl]
         have htl:(a.c.sd.take j).length<=64:=by rw[av];omega
         have hs2:=hsg s (by rw[<-hs];exact ae hjl);have oρ:=rρ.one;refine Bc 9 CT κ Y (Wm Y (Wm Y (AM (Co (i0) Y CA CI Y Y ω ω) Y Y (Wl Y AN (cL _) (Wm Y (AM (Bk (k) rρ Y AN A0 Y Y ω ω) Y Y (Wl Y U3 (cX _ Mh) (Wf Dt Y (Wl Y U3 (e131 _) (A7 (Qx (oA Y) Y (Qx (Bk (k) rρ Y AN A0 Y Y ω ω) Y (BQ 0 k O1 Y A0 Y Y Y hkv Y Y (λa1' O1'=>Ak (Ai (EB λhap=>?_))))))))))))))));have hap:[a1',b1,Bh g4 106 [.w 0,.w 0,.nl]].Pairwise Hp.disj:=hap;simp only[pairwise_cons,aq,iz,jf,forall_eq_or_imp,forall_eq]at hap;have hC':=K a1' _ hap.1.1 O1';have hyes:=TT (B:=IK o d) hr (hinc.imp λh=>Int.ne_of_lt h) hjl hi0i hkc (by rw[he0,hs]);rw[hs]at hyes;rw[<-hyes]at hC';refine E6 ?_;exact Az _ ⟨_,Y,l12,Y,hC'⟩ Qs
        ·have hmem:s.1 ∉ BP o (d-1):=by simpa using hfd
         rw[<-hs]at hmem;rw[<-VV (B:=IK o d) hr hjl hmem]at hC;refine Ah (Ai ?_);exact Az _ ⟨mR,Y,l12,Y,hC⟩ Qs
       ·obtain⟨mR',rfl,l12,rfl,hC'⟩:=hI;refine Ab (Qx (oA Y) Y (Qm Y (Ak ?_)));exact Al (a.c.sd.length-(j+1)) _ ω ⟨j+1,mR',Y,Y,AE l11 l12,Y,ω,hC'⟩ Qs
      ·have hjl:j=a.c.sd.length:=ω
       subst hjl;have hB:∀i',i'<i->IK o d i' k=sgn a.c.sd ((BP o (d-1)).getD i' 0):=λi' _=>by unfold IK;rw[hy,hcel]
       rw[Rk hB,Kd (sd':=[])]at hC;refine Av (Aa (Aa (Af (Ai (Ad (Ab (Qx (oA Y) Y (Qm Y (Ak ?_)))))))));exact Al (c-(k+1)) _ ω ⟨k+1,mR,Y,Y,AE l9 l11,Y,ω,hC⟩ Qs
     ·have hkc:k=c:=ω
      subst hkc;rw[UX]at hC;refine Av (Aa (Aa (Af (Ad (Bx λh10 l10 lm=>?_)))))
      have hRr:∀i',i'<i->RdL cI 1 h10 [] (Rs.getD i' undef) (EK k (IK o d i')):=λi' hi'=>by
       have hv:i'<Rs.length:=ω
       obtain⟨a1,b1,e1,dab,O1,_⟩:=hC.at_ (i:=i') hv (by rw[EV];exact hi');have er:(Db i k (IK o d))[i']'(by rw[EV];exact hi')=EK k (IK o d i'):=by simp[Db]
       rw[er]at O1;have hle:a1.le h10:=AE (by rw[e1];exact Hp.le_join _ _) lm;have:=O1.rdh (ms:=[]) hle
       rwa [show Rs.getD i' undef=Rs[i'] by simp[List.getD,hv]]
      have hAo:A.map Ce.c=o:=by rw[hA,ho]
      have hb:∀i',i'<i->∀j,j<k->-256<IK o d i' j/\IK o d i' j<256:=λi' _ j _=>by
       unfold IK;obtain⟨y,hy⟩:∃y,(BP o d).getD j 0=y:=⟨_,Y⟩
       rw[hy];have h1:=Jw A y;rw[hAo]at h1;rw[<-h1];cases hg:Bz (F3 A) y with
       | none=>exact(by decide:-256<(0:Int)/\(0:Int)<256)
       | some z=>
        have hz:z.c∈o:=by rw[<-hAo];exact ad.2 ⟨z,S8 hg,Y⟩
        have h2:=Ot z.c.sd ((BP o (d-1)).getD i' 0) (hrg.rgt.sgn _ hz);have h3:=(hrg.bds hz).2.1;simp only[i9];omega
      have hi0:0<i:=ω
      refine Aq (Qm Y (Qc call131 Y (Aa0 i k hi0 hr2 hc2 (IK o d) hb Rs hRl _ h10 (hL.up (AE l9 l10)) hRr) (λz h13 ms13 l13 hF=>?_)));obtain⟨l13',ev,m,rfl,rfl,hO⟩:=hF;have oe:=hO.o1;refine Sa 1 [_,_,_] EH Y (by simp[ov,oa,ob,oe]) ?_;refine Am (An ?_);exact BC (vs:=[_,_,_]) 1 Y Y PA Y EH Y Y (⟨AE lh7 (AE l8 (AE l9 (AE l10 l13'))),ev,m,Y,Y,hO⟩)
theorem YI(r c:Nat)(f:Nat->Nat->Int)(g:Int->Int):(BV r c f).map g=BV r c λi j=>g (f i j):=by unfold BV;rw[fk];rfl
theorem XN(p:Int)(r c:Nat)(f:Nat->Nat->Int)(hp:IsP p)(hp2:p<256)(hr:r<=200)(hc:c<=200)(hb:∀i,i<r->∀j,j<c->-256<f i j/\f i j<256)(gp:Nat)(ev:Value)(h:Hp)(hD:∀ms,Cell h ms (⟨gp,0,none⟩:Addr) (.int .i64 p))(hR:RdL Rm 2 h [] ev (BV r c f)) :
  FnT Tryz.prog 58 #[.agg #[.w r,.w c,ev],.pt gp] h [] (λx h' ms'=>h.le h'/\ms'=[]/\∃(F:Nat->Nat->Int) (pv:List Nat),x=.w pv.length/\Ech p r c (λi j=>f i j%p) F pv):=by
 have hpb:=hp.1;have oe:=hR.rd.one;refine Au func58 ntmps58 Y Y (λw0 hw0=>?_);simp only[A6];refine Aq (AP [_,_,_] Y Y (by rfl) Y Y Y (λg2=>Qm Y (Am (Ax λh1 l1 hS2=>?_))));have hR1:=hR.up l1;have gS2:∀ms,Seg h1 ms (⟨g2,0,none⟩:Addr) [.w r,.w c,ev]:=λms=>hS2.any;have eD:∀ms,Cell h1 ms (⟨gp,0,none⟩:Addr) (.w p):=λms=>(hD ms).le l1
 have hbm:∀x∈BV r c f,-256<x/\x<256:=λx hx=>by
  unfold BV at hx;obtain⟨k,hk,rfl⟩:=ad.1 hx;have hk:=bi.1 hk
  have hc0:0<c:=by
   rcases d8 c with h|h
   ·subst h;simp at hk
   ·exact h
  exact hb _ (Nat.div_lt_of_lt_mul (by rw[fv];exact hk)) _ (Nat.mod_lt _ hc0)
 refine Aq (Ql Y U3 (eD _) (Qx (oG Y PA EH (gS2 _)) Y (Qc call60 Y (Zg p r c hp hp2 hr hc (BV r c f) (BO r c f) hbm ev h1 hR1) (λz h2 ms2 l2 hF=>?_))));obtain⟨l2',eu,m,rfl,rfl,hO⟩:=hF;rw[YI]at hO;refine Ba hO λh3 l3 hQ=>?_;have hRt:RtM p r c (λi j=>f i j%p):=⟨hp,ω,ω,λi _ j _=>⟨co _ ω,bw _ ω⟩⟩
 refine Qc call59 Y (XB p r c _ eu h3 hRt hQ) (λz h4 ms4 l4 hF=>?_);obtain⟨l4',rfl,F,pv,rfl,hE⟩:=hF;refine Qm Y (Am (An ?_));exact Ap Y Y (⟨AE l1 (AE l2' (AE l3 l4')),Y,F,pv,Y,hE⟩)
theorem UH(l:List Ce)(v:Value)(hp:Hp)(hK:RgC l)(hR:RdC hp v l)(hn:l.length<=100) :
  FnT Tryz.prog 55 #[.agg #[v]] hp [] (λr h' ms'=>hp.le h'/\ms'=[]/\r=.w 0):=by
 have ov:=hR.q.rd.one;refine Au func55 ntmps55 Y Y (λw0 hw0=>?_);simp only[A6];refine Aq (AP [_] Y Y (by rfl) Y Y Y (λg1=>Qm Y (Am (Ax λh1 l1 hS1=>?_))));have hR1:=hR.up l1;have gS1:∀ms,Seg h1 ms (⟨g1,0,none⟩:Addr) [v]:=λms=>hS1.any;refine Ac (Aq (Qx (oG Y CS A8 (gS1 _)) Y (Qx (AH Y call28 Y (DW (Nq l v h1 hK hR1) _)) Y (Qm Y (Qm Y (Qm Y (Qm Y (Qm Y (BM (Qm Y (Qm Y (Am ?_))))))))))));refine Ao Y (λhz=>?_) (λhz=>?_)
 ·exact jt Y hz
 ·refine Ah (Ad (Ac (Aq (Qx (oG Y CS A8 (gS1 _)) Y (Qc call61 Y (VZ l v h1 hK hR1) (λr h3 ms3 l3 hF=>?_))))));obtain⟨l3',rfl,D,rfl,hD1,hD2,hD3⟩:=hF
  have hD8:D<=8:=by
   rcases hD3 with h|⟨c,hc,h⟩
   ·omega
   ·have:=(hK.F.bds hc).1;omega
  have gS1:∀ms,Seg h3 ms (⟨g1,0,none⟩:Addr) [v]:=λms=>(hS1.le l3').any;refine Qx (oA Y) Y (Qm Y (Am (Ag ?_)));refine Ay (λq sl h' ms'=>∃(k:Nat),(D+1).toNat-k=q/\sl=[(1,.pt g1),(16,.w (D+1)),(17,.w k)]/\h3.le h'/\ms'=[]/\(k:Int)<=D+1) ((D+1).toNat-0) _ ⟨0,Y,Y,Da,Y,ω⟩ Qs ?_;rintro q sl h' ms' ⟨k,rfl,rfl,lh,rfl,hk⟩;have gS1:∀ms,Seg h' ms (⟨g1,0,none⟩:Addr) [v]:=λms=>(gS1 ms).le lh;refine Aq (Qm Y (Am (Ac ?_)));refine Ao Y (λhlt=>?_) (λhlt=>?_)
  ·refine Ah (Ad (Ac (Ag (Aq (Qm Y (Qm Y (BM (Qx (oG Y CS A8 (gS1 _)) Y (Qm Y (Qc call63 Y (OE l v (k:Int) h' hK ((hR1.up l3').up lh)) (λr h4 ms4 l4 hF=>?_)))))))))));obtain⟨l4',m,rfl,hO⟩:=hF
   have hlen:(((cn l).filter λc=>decide (c.dim=(k:Int))).map Cl.id).length<=100:=by rw[af];exact dc (dp _ _) (by rw[Dg];exact hn)
   refine Qx (ED (hO.rd (h:=h4) (ms:=[m]) Mh).rd Y AN Y) Y (Qm Y (Am ?_));refine Ao Y (λh5=>?_) (λh5=>?_)
   ·exact jt h5 ω
   ·refine Ah (Ai (Ad (Ab (Qx (oA Y) Y (Qm Y (Ak (AX ?_)))))));exact Al ((D+1).toNat-(k+1)) _ ω ⟨k+1,Y,Y,AE lh l4',Y,ω⟩ Qs
  ·refine Av (Aa (Aa (Af (Ad (Aq (Qm Y (Am (An ?_))))))));exact Ap Y Y (⟨AE l1 (AE l3' lh),Y,Y⟩)
def RkO(p:Int)(o:List Cl)(d:Int)(ρ:Nat):Prop:=∃(F:Nat->Nat->Int) (pv:List Nat),Ech p (BP o (d-1)).length (BP o d).length (λi k=>IK o d i k%p) F pv/\ρ=pv.length
def MO(o:List Cl)(rk:Nat->Nat)(n:Nat):List Int:=(range n).map λ(k:Nat)=>((BP o k).length:Int)-rk k-rk (k+1)
theorem Vt(o:List Cl)(rk:Nat->Nat)(n:Nat):MO o rk (n+1)=MO o rk n++[((BP o n).length:Int)-rk n-rk (n+1)]:=by unfold MO;rw[List.range_succ,bm];rfl
theorem TP{o:List Cl}{rk rk':Nat->Nat}{n:Nat}(h:∀k,k<=n->rk k=rk' k):MO o rk n=MO o rk' n:=by unfold MO;refine fc λk hk=>?_;have:=bi.1 hk;rw[h k ω,h (k+1) ω]
theorem Abj{o:List Cl}(hrg:RgtF o)(d:Int)(i j:Nat)(hj:j<(BP o d).length):-256<IK o d i j/\IK o d i j<256:=by
 unfold IK;obtain⟨y,hy⟩:∃y,(BP o d).getD j 0=y:=⟨_,Y⟩
 rw[hy];unfold GJ;cases hg:MR o y with
 | none=>exact(by decide:-256<(0:Int)/\(0:Int)<256)
 | some z=>
  have hz:z∈o:=gn hg;have h2:=Ot z.sd ((BP o (d-1)).getD i 0) (hrg.rgt.sgn _ hz);have h3:=(hrg.bds hz).2.1;simp only[i9];omega
theorem VU(l:List Ce)(v:Value)(p:Int)(hp:Hp)(hP:IsP p)(hp2:p<256)(hK:RgC l)(hR:RdC hp v l)(hn:l.length<=100) :
  FnT Tryz.prog 20 #[.agg #[v],.w p] hp [] (λr h' ms'=>hp.le h'/\∃(D:Int) (rk:Nat->Nat) (w:Value) (m:Hp),r=.tuple #[w,.w 0]/\ms'=[m]/\OwnL cI 1 3 m w (MO (cn l) rk (D+1).toNat)/\Me (cn l) D/\rk 0=0/\∀n:Nat,n<(D+1).toNat->RkO p (cn l) (n+1) (rk (n+1))):=by
 have hpb:=hP.1;have ov:=hR.q.rd.one;refine Au func20 ntmps20 Y Y (λw0 hw0=>?_);simp only[A6];refine Aq (AP [_] Y Y (by rfl) Y Y Y (λg2=>AP [_] Y Y (by rfl) Y Y Y (λg3=>Qm Y (Qm Y (Am (Ax λh1 l1 hS3=>(Ax λh2 l2 hS2=>?_)))))));have hR2:=(hR.up l1).up l2;have gS2:∀ms,Seg h2 ms (⟨g2,0,none⟩:Addr) [v]:=λms=>hS2.any;have eD:∀ms,Cell h2 ms (⟨g3,0,none⟩:Addr) (.w p):=λms=>((hS3 0 _ Y).any).le l2;refine Ac (Aq (Ql Y U3 (eD _) (Qm Y (Qm Y ?_))));refine AL (t:=14) Y (λhp0=>?_) (λhp0=>?_)
 ·refine Qg (oL Y U3 (eD _)) Y ?_;refine Qg (AH Y call54 Y (KX p h2 ⟨ω,ω⟩ _)) Y ?_;refine Qg (DB Y Y) Y (Qm Y (Am ?_));refine BG Y (λhnp=>?_) (λhnp=>?_)
  ·exact jt hP (by simpa using hnp)
  ·refine Ah (Ad (Ac (Aq (Qx (oG Y CS A8 (gS2 _)) Y (Qx (AH Y call55 Y (DW ((UH l v h2 hK hR2 hn).mono λ_ _ _ h=>h.2.2) _)) Y (Qm Y (BM (Qm Y (Qm Y (Am ?_))))))))));refine Ao Y (λhz=>?_) (λhz=>?_)
   ·exact jt Y hz
   ·refine Ah (Ad (Aq (Qm Y (Am (Ac (Aq (Ql Y U3 (eD _) (Qm Y (Am ?_)))))))));refine Ao Y (λhp1=>?_) (λhp1=>?_)
    ·refine Ab (Qx (Cc Y Y Y) Y (Qm Y (BM (Qm Y (BM (Qm Y (Am (Ac (Aq (Qx (oG Y CS A8 (gS2 _)) Y (Qc call61 Y (VZ l v h2 hK hR2) (λr h3 ms3 l3 hF=>?_))))))))))));obtain⟨l3',rfl,D,rfl,hD⟩:=hF
     have hD8:D<=8:=by
      rcases hD.2.2 with h|⟨c,hc,h⟩
      ·omega
      ·have:=(hK.F.bds hc).1;omega
     have hD1:=hD.1;obtain⟨o,ho⟩:∃o,cn l=o:=⟨_,Y⟩
     have hrg:RgtF o:=by rw[<-ho];exact hK.F
     have hol:o.length<=100:=by rw[<-ho,Dg];exact hn
     rw[ho]at hD ⊢;refine Qx (oA Y) Y (Qm Y (Am (Ag (BT ?_))))
     refine Ay (λq sl h' ms'=>∃(k x:Nat) (rk:Nat->Nat) (vo:Value) (mo:Hp),x=rk k/\(D+1).toNat-k=q/\sl=[(2,.pt g2),(7,.func (.func 58) #[] #[.pt g3]),(8,vo),(9,.w (x:Nat)),(29,.w (D+1)),(30,.w k)]/\h3.le h'/\ms'=[mo]/\(k:Int)<=D+1/\OwnL cI 1 3 mo vo (MO o rk k)/\rk 0=0/\∀n:Nat,n<k->RkO p o (n+1) (rk (n+1)))
      ((D+1).toNat-0) _ ⟨0,0,λ_=>0,_,Hp.emp,rfl,rfl,rfl,Da,rfl,ω,OwnL.nil Bi,rfl,λn h=>ω⟩ Qs ?_
     rintro q sl h' ms' ⟨k,xk,rk,vo,mo,hxk,rfl,rfl,lh,rfl,hk,hO,hr0,hrk⟩;have l2h:=AE l3' lh;have hRh:=hR2.up l2h;have gS2:∀ms,Seg h' ms (⟨g2,0,none⟩:Addr) [v]:=λms=>(hS2.le l2h).any;have ovo:=hO.o1;refine Aq (Qm Y (Am (Ac ?_)));refine Ao Y (λhlt=>?_) (λhlt=>?_)
     ·refine Ah (Ad (Ac (Ag (Aq (Qm Y (Qm Y (BM (Qm Y (Qx (oG Y CS A8 (gS2 _)) Y (Qm Y (Qx (oA Y) Y (Qc call62 Y (Ut l v ((k:Int)+1) ω h' hK hRh ω) (λz h4 ms4 l4 hF=>?_)))))))))))));obtain⟨l4',ev,m,rfl,rfl,hM⟩:=hF;have hk1:(k:Int)+1-1=k:=ω
      rw[ho,hk1]at hM;simp only[ho,hk1];have hrl:(BP o (k:Int)).length<=100:=dc (Gs o _) hol;have hcl:(BP o ((k:Int)+1)).length<=100:=dc (Gs o _) hol;refine Ba hM λh5 l5 hQ=>?_;have l25:=AE l2h (AE l4' l5);have eD5:∀ms,Cell h5 ms (⟨g3,0,none⟩:Addr) (.w p):=λms=>(eD ms).le l25;refine H6 (pre:=[]) Y Y call58 Y (XN p _ _ (IK o ((k:Int)+1)) hP hp2 ω ω (λi _ j hj=>Abj hrg _ i j hj) g3 ev h5 eD5 hQ) Y Y Y Y (λx h6 pre' l6 hF=>?_);obtain⟨l6',rfl,F,pv,rfl,hE⟩:=hF;have l26:=AE l25 l6';have gS6:∀ms,Seg h6 ms (⟨g2,0,none⟩:Addr) [v]:=λms=>(hS2.le l26).any;refine Qm Y (BM (Qm Y (Qx (oG Y CS A8 (gS6 _)) Y (Qm Y (Qc call63 Y (OE l v (k:Int) h6 hK (hR2.up l26)) (λw h7 ms7 l7 hF=>?_))))));obtain⟨l7',mi,rfl,hOi⟩:=hF;rw[ho]at hOi;change OwnL cI 1 3 mi w (BP o (k:Int)) at hOi;have hil:(BP o (k:Int)).length<=100:=dc (Gs o _) hol;have hpl:pv.length<=100:=dc hE.red.len hrl
      have hrkk:xk<=100:=by
       rw[hxk];by_cases hk0:k=0
       ·rw[hk0,hr0];omega
       ·obtain⟨F',pv',hE',e'⟩:=hrk (k-1) ω;have e1:k-1+1=k:=ω
        rw[e1]at e';rw[e'];exact dc hE'.red.len (dc (Gs o _) hol)
      have rI:=(hOi.rd (h:=h7) (ms:=[mi]) Mh).rd;have ow:=rI.one;refine Qx (ED rI Y AN Y) Y (Qm Y (Qx (oS Y) Y (Qm Y (Qx (oS Y) Y (Aw [_] Y AN A0 Y (by rfl) Y Y ω Y Y Y (λg48=>?_))))));have hbl:(MO o rk k).length<=1000000:=by unfold MO;rw[af,ip];omega
      refine AU 2 hO (RdL.one Bi (x:=((BP o (k:Int)).length:Int)-xk-pv.length) Mh Y) Y AN A0 Y ω Y Y Y B5 (by simp only[ab];omega) (by simp only[ab];omega) rfl rfl rfl (λv6 m6 hO6=>?_);have ov6:=hO6.o1;refine Qm Y (Gl (Qm Y (Qm Y (Ak (Ai (Ad (Ab (Qx (oA Y) Y (Qm Y (Ak ?_))))))))));refine AX (AX ?_);obtain⟨rk',hra,hrb⟩:∃rk':Nat->Nat,rk' (k+1)=pv.length/\∀n,n≠k+1->rk' n=rk n:=⟨λn=>if n=k+1 then pv.length else rk n,by simp,λn hn=>by simp[hn]⟩
      have hk1:MO o rk k++[((BP o (k:Int)).length:Int)-xk-pv.length]=MO o rk' (k+1):=by rw[Vt,TP (rk:=rk) (rk':=rk') (λn hn=>(hrb n ω).symm),hrb k ω,hra,hxk]
      rw[hk1]at hO6
      exact Al ((D+1).toNat-(k+1)) _ ω ⟨k+1,pv.length,rk',v6,m6,hra.symm,Y,Y,AE lh (AE l4' (AE l5 (AE l6' l7'))),Y,ω,hO6,by rw[hrb 0 ω,hr0],λn hn=>by
       by_cases e:n=k
       ·subst e;have e1:(n:Int)+1-1=n:=ω
        rw[hra];unfold RkO;rw[e1];exact⟨F,pv,hE,Y⟩
       ·rw[hrb (n+1) ω]
        exact hrk n ω⟩ Qs
     ·have hkD:k=(D+1).toNat:=ω
      subst hkD;refine Av (Aa (Aa (Af (Ad (Aq (Qm Y (Qm Y (Qm Y (Am (An ?_))))))))));exact BE Y Y Y (⟨AE l1 (AE l2 l2h),D,rk,vo,mo,Y,Y,hO,hD,hr0,hrk⟩)
    ·exact jt hp0 hp1
 ·exact jt ω hp0
end
end Go.Proofs.Q