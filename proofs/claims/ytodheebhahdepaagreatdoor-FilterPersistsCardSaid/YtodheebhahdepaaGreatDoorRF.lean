/- A part of the proof. -/
import Derived.Test.YtodheebhahdepaaGreatDoorRE
set_option linter.unusedSimpArgs false
set_option linter.unusedVariables false
set_option linter.unusedSectionVars false
set_option maxRecDepth 100000
set_option maxHeartbeats 4000000

open List (length_map length_singleton getElem_mem replicate range length_append nil_append length_take mem_cons cons_append map_append pairwise_cons take_succ_eq_append_getElem append_nil map_map map_cons take_length getElem_map length_range take_zero length_replicate sum_cons not_mem_nil)
namespace Go.Proofs.Q
open Go.Proofs.Tryz
open Go.Eng Go.RowKit Go.Lin Go.Sort Go.Srt
def CZ(L:List Int):Nat->List (Int×Int)
 | 0=>[]
 | j+1=>if 0<=L.getD j 0 then C9 (CZ L j) (L.getD j 0) (j:Int) else CZ L j
theorem Fx{L:List Int}{i x:Int}:∀{n:Nat},Bm (CZ L n) i=some x->∃j:Nat,j<n/\x=j/\L.getD j 0=i/\0<=i
 | 0,h=>by simp[CZ,Bm]at h
 | n+1,h=>by
  unfold CZ at h;split at h
  ·rename_i h0;rw[C0]at h;split at h
   ·rename_i e;cases h;exact⟨n,by omega,Y,e.symm,by rw[e];exact h0⟩
   ·obtain⟨j,h1,h2⟩:=Fx h;exact⟨j,by omega,h2⟩
  ·obtain⟨j,h1,h2⟩:=Fx h;exact⟨j,by omega,h2⟩
theorem H6{L:List Int}{i:Int}:∀{n:Nat},Bm (CZ L n) i=none->∀j,j<n->0<=i->L.getD j 0≠i
 | 0,h,j,hj,_=>by omega
 | n+1,h,j,hj,h0=>by
  unfold CZ at h;split at h
  ·rw[C0]at h;split at h
   ·cases h
   ·rename_i e;rcases (by omega:j<n\/j=n) with h1|rfl
    ·exact H6 h j h1 h0
    ·exact fun q=>e q.symm
  ·rename_i hn;rcases (by omega:j<n\/j=n) with h1|rfl
   ·exact H6 h j h1 h0
   ·omega
def GP(f:Int->Int)(S:List Ce)(L:List Int)(i:Nat):List Br:=
 match Bm (CZ L L.length) (i:Int) with
 | some j=>if f (S.getD i default).c.id<f (S.getD j.toNat default).c.id then [⟨(S.getD i default).c.dim,f (S.getD i default).c.id,f (S.getD j.toNat default).c.id,false,(S.getD i default).c.id,(S.getD j.toNat default).c.id⟩] else []
 | none=>if L.getD i 0<0 then [⟨(S.getD i default).c.dim,f (S.getD i default).c.id,0,true,(S.getD i default).c.id,0⟩] else []
def Do(f:Int->Int)(S:List Ce)(L:List Int)(n:Nat):List Br:=(range n).flatMap (GP f S L)
theorem DV(f:Int->Int)(S:List Ce)(L:List Int)(n:Nat):Do f S L (n+1)=Do f S L n++GP f S L n:=by unfold Do;rw[List.range_succ,List.flatMap_append];simp
theorem YL(f:Int->Int)(S:List Ce)(L:List Int)(i:Nat):(GP f S L i).length<=1:=by unfold GP;split<;>split<;>simp
theorem G8(f:Int->Int)(S:List Ce)(L:List Int):∀n,(Do f S L n).length<=n
 | 0=>by simp[Do]
 | n+1=>by rw[DV,length_append];have:=G8 f S L n;have:=YL f S L n;omega
theorem Y9(l S:List Ce)(F:List (Int×Int))(R V:Nat->List Int)(L:List Int)(p:Int)(gm:Nat)(vl:Value)(hp:Hp)(M:RedM p F l S R V gm hp)(hL:RdL cI 1 hp [] vl L)(hn:S.length<=400)(hLn:L.length=S.length)(hLl:∀x∈L,x<S.length)(hi:∀a∈S,BN a.c.id)(hI:∀c,BN (Cb (A6 F) c)):FnT Tryz.prog 52 #[.pointer (some ⟨gm,0,none⟩),vl] hp [] (fun r h' ms'=>hp.le h'/\∃mb,ms'=[mb]/\OwnL JY 6 43 mb r (Do (Cb (A6 F)) S L S.length)):=by
 obtain⟨gA,mA,bs,vc,vr,vv,Rs,Vs,la,hS,hO,lA,hQ,_⟩:=M.ex;have ol:=hL.rd.one;have oc:=hQ.rd.one;refine Aq func52 ntmps52 Y Y (fun w0 hw0=>?_);simp only[AW];refine Ar (Qm Y (BH (C8 (K:=kN) (V:=kN) (Ok:=BN) Y Y Y Y (fun gE mE hE0=>Qm Y (Am ?_)))));refine A8 (fun sl h' ms'=>∃(mE:Hp) (bs:List Nat),sl=[(0,.pointer (some ⟨gm,0,none⟩)),(1,vl),(5,.map (some gE))]/\hp=h'/\ms'=[mE]/\CQ kN kN gE BN mE (CZ L L.length) bs) ?_ (fun s h ms hI=>?_)
 ·refine Ac (Ad (Qm Y (Qx (Au hL.rd.any Y AU Y) Y (Qm Y (Am (Ag ?_))))))
  refine Aw (fun q sl h' ms'=>∃(j:Nat) (mE:Hp) (bs:List Nat),q=L.length-j/\sl=[(0,.pointer (some ⟨gm,0,none⟩)),(1,vl),(5,.map (some gE)),(15,vl),(16,.int .i64 L.length),(17,.int .i64 j)]/\hp=h'/\ms'=[mE]/\j<=L.length/\CQ kN kN gE BN mE (CZ L j) bs)
   (L.length-0) _ ⟨0,mE,[],rfl,rfl,rfl,rfl,by omega,hE0⟩ Qs ?_
  rintro q sl h' ms' ⟨j,mE,bs,rfl,rfl,rfl,rfl,hj,hE⟩;refine Ar (Qm Y (Am (Ac ?_)));refine Ap Y (fun hlt=>?_) (fun hlt=>?_)
  ·have hjl:j<L.length:=by omega
   have cL:∀ms,Cell hp ms ((AE vl).add (j*1)) (.int .i64 (L.getD j 0)):=fun ms=>by rw[show L.getD j 0=L[j] by simp[List.getD,hjl]];exact(hL.any (ms:=ms)).cell0 hjl Y
   have hLb:=hLl _ (getElem_mem hjl);rw[show L[j]=L.getD j 0 by simp[List.getD,hjl]]at hLb;refine Ah (Ab (Ac (Ag (Ar (Qm Y (Qx (BE (j) hL.rd.any Y AU A5 Y Y) Y (Ql Y U3 (cL _) (Qm Y (Qm Y (BH (Qm Y (Qm Y (Am ?_)))))))))))));refine Ap Y (fun h0=>?_) (fun h0=>?_)
   ·have hs:CZ L (j+1)=C9 (CZ L j) (L.getD j 0) (j:Int):=by show(if 0<=L.getD j 0 then _ else _)=_;rw[if_pos h0]
    refine Ad (Qm Y (Qm Y (Qm Y ?_)));refine BT (V:=kN) (z:=undef) 0 (L.getD j 0) (j:Int) Bu hE Y Y LJ Y Y Y (by unfold BN;omega) Y Y (fun mE' bs' hE'=>?_);rw[<-hs]at hE';refine Al (Ai (Ab (Ad (Qx (oA Y) Y (Qm Y (Al ?_))))));exact Ak (L.length-(j+1)) _ (by omega) ⟨j+1,mE',bs',Y,Y,Y,Y,by omega,hE'⟩ Qs
   ·have hs:CZ L (j+1)=CZ L j:=by show(if 0<=L.getD j 0 then _ else _)=_;rw[if_neg h0]
    rw[<-hs]at hE;refine Ah (Ai (Ab (Ad (Qx (oA Y) Y (Qm Y (Al ?_))))));exact Ak (L.length-(j+1)) _ (by omega) ⟨j+1,mE,bs,Y,Y,Y,Y,by omega,hE⟩ Qs
  ·obtain rfl:j=L.length:=by omega
   refine As (Aa (Aa (Af ?_)));exact AF _ ⟨mE,bs,Y,Y,Y,hE⟩ Qs
 ·obtain⟨mE,bsE,rfl,rfl,rfl,hE⟩:=hI;refine Bs fun h1 l1 lE=>?_;have hS:=hS.le l1;have hQ:=hQ.up l1;have hL:=hL.up l1;have lA:=AJ lA l1;have e1:∀ms,Cell h1 ms (⟨gm,1,none⟩:Addr) vc:=fun ms=>Seg.all hS 1 _ Y ms;refine BG (Ar (Qm Y (Am (Ac (Ar (Qm Y (Qm Y (Qf FK Y (Ql Y A9 (e1 _) (Qx (Au hQ.rd.any Y A9 Y) Y (Qm Y (Am (Ag ?_)))))))))))))
  refine Aw (fun q sl h' ms'=>∃(i:Nat) (vb:Value) (mb:Hp),q=S.length-i/\sl=[(0,.pointer (some ⟨gm,0,none⟩)),(1,vl),(5,.map (some gE)),(8,vb),(31,vc),(32,.int .i64 S.length),(33,.int .i64 i)]/\h1.le h'/\ms'=[mb]/\i<=S.length/\OwnL JY 6 43 mb vb (Do (Cb (A6 F)) S L i))
   (S.length-0) _ ⟨0,_,Hp.emp,rfl,rfl,DT,rfl,by omega,OwnL.nil Ff⟩ Qs ?_
  rintro q sl h2 ms' ⟨i,vb,mb,rfl,rfl,l2,rfl,hi',hB⟩;have hS:=hS.le l2;have hQ:=hQ.up l2;have hL:=hL.up l2;have lA:=AJ lA l2;have lE:=AJ lE l2;have ovb:=hB.o1;refine Ar (Qm Y (Am (Ac ?_)));refine Ap Y (fun hlt=>?_) (fun hlt=>?_)
  ·have hil:i<S.length:=by omega
   obtain⟨x,hx⟩:∃x,S[i]=x:=⟨_,Y⟩
   have hxm:x∈S:=by rw[<-hx];exact getElem_mem hil
   have hgx:S.getD i default=x:=by simp[List.getD,hil,hx]
   have hxI:=hi x hxm;have oxv:=(M.sds x hxm).rd.one;have hsx:∀ms,Seg h2 ms ((AE vc).add (i*3)) (cC x):=fun ms=>by rw[<-hx];exact(hQ.any (ms:=ms)).seg hil
   refine Ah (Ab (Ac (Ag (Ar (Qm Y (Qx (BE (i) hQ.rd.any Y A9 AG Y Y) Y (Qx (oG Y Ei AG (hsx _)) Y (CG [.int .i64 0,.int .i64 0,.slice none 0 0] Y AG Y Y (fun g10=>Qm Y ?_)))))))));refine Sa 0 [_,_,_] AG Y (by simp[ol,oc,oxv,ovb]) ?_;refine Am (Az fun h3 l3 hS10=>?_);have e100:∀ms,Cell h3 ms (⟨g10,0,none⟩:Addr) (.int .i64 x.c.id):=fun ms=>Seg.all hS10 0 _ Y ms;have e101:∀ms,Cell h3 ms (⟨g10,1,none⟩:Addr) (.int .i64 x.c.dim):=fun ms=>Seg.all hS10 1 _ Y ms;have hS3:=hS.le l3;have a1:∀ms,Cell h3 ms (⟨gm,1,none⟩:Addr) vc:=fun ms=>Seg.all hS3 1 _ Y ms;have a2:∀ms,Cell h3 ms (⟨gm,2,none⟩:Addr) (.map (some gA)):=fun ms=>Seg.all hS3 2 _ Y ms;have hfx:(Bm (A6 F) x.c.id).getD 0=Cb (A6 F) x.c.id:=rfl;obtain⟨f,hf⟩:∃f,Cb (A6 F)=f:=⟨_,Y⟩
   rw[hf]at hfx hB;have hBl:=G8 f S L i;obtain⟨bb,hbb⟩:∃bb,(Bm (CZ L L.length) (i:Int)).isSome=bb:=⟨_,Y⟩
   obtain⟨u,hu⟩:∃u,(Bm (CZ L L.length) (i:Int)).getD 0=u:=⟨_,Y⟩
   refine Ac (A7 13 CW (by kernel_rfl) Y (Wf BJ Y (Wl Y U3 (e101 _) (Wm Y (Wm Y (Wf Kh Y (Wl Y LJ (a2 _) (Wf Bi Y (Wl Y U3 (e100 _) (AK (show OX _ _ _ _ _ (.int .i64 (f x.c.id)) from Ca (V:=kN) (z:=(0:Int)) (u:=f x.c.id) x.c.id hfx Bu hO (AJ lA l3) Y LJ HQ Y Y hxI) Y Y (Wf Bi Y (Wl Y U3 (e100 _) (AK (A4 WJ [.int .i64 0,.int .i64 0,.int .i64 0,.bool false,.int .i64 0,.int .i64 0] [(0,_),(1,_),(4,_)] [_,_,_,_,_,_] Y ER Y Y Qt Y) Y Y (Ui (Ja [.int .i64 0,.int .i64 0,.int .i64 0,.bool false,.int .i64 0,.int .i64 0] Y ER Y) Y Y (HF (fun g11=>?_))))))))))))))));refine Sa 0 [_,_,_,_,_,_] ER Y (by simp[Value.oneCell']) ?_;refine BH (Qm Y (Qm Y ?_));refine Qx (E8 (V:=kN) (z:=(0:Int)) (i:Int) hu hbb Bu hE (AJ lE l3) Y LJ HQ Y Y (by unfold BN;omega)) Y ?_;refine Qm Y (Qm Y (Qm Y (Qm Y (Qm Y (Am (Ac (Ag (Ar (Qm Y (Qm Y (Am ?_)))))))))));refine Bx Y (fun hb=>?_) (fun hb=>?_)
   ·obtain⟨j,hj⟩:∃j,Bm (CZ L L.length) (i:Int)=some j:=by rw[hb]at hbb;exact Option.isSome_iff_exists.1 hbb
    obtain⟨jn,hjn,rfl,hjL,_⟩:=Fx hj;rw[hj]at hu;obtain rfl:(jn:Int)=u:=hu;have hjS:jn<S.length:=by omega
    obtain⟨y,hy⟩:∃y,S[jn]=y:=⟨_,Y⟩
    have hym:y∈S:=by rw[<-hy];exact getElem_mem hjS
    have hgy:S.getD jn default=y:=by simp[List.getD,hjS,hy]
    have hyI:=hi y hym
    have cy:∀ms,Cell h3 ms (((AE vc).add (jn*3)).add 0) (.int .i64 y.c.id):=fun ms=>by
     have:Seg h3 ms ((AE vc).add (jn*3)) (cC y):=by rw[<-hy];exact((hQ.up l3).any (ms:=ms)).seg hjS
     exact this 0 _ Y
    have hfy:(Bm (A6 F) y.c.id).getD 0=f y.c.id:=by rw[<-hf];rfl
    have hbar:GP f S L i=if f x.c.id<f y.c.id then [⟨x.c.dim,f x.c.id,f y.c.id,false,x.c.id,y.c.id⟩] else []:=by unfold GP;rw[hj];simp only[Int.toNat_natCast,hgx,hgy]
    have hQ3:=hQ.up l3;refine Ar (Qm Y (Qm Y (Qf FK Y (Ql Y A9 (a1 _) (Qm Y (Qx (BE (jn) hQ3.rd.any Y A9 AG Y Y) Y (Qf Bi Y (Ql Y U3 (cy _) (Qf NO Y ?_)))))))));refine AP 0 _ Y A5 Y Y (by rfl) Y Y (by(simp;done)) rfl rfl ?_;refine Am (A7 6 CW (by kernel_rfl) Y (Wm Y (Wm Y (Wf Kh Y (Wl Y LJ (a2 _) (Wf NO Y (Wl Y U3 (Cell.blk 0 Y Y) (AZ (Qx (show OX _ _ _ _ _ (.int .i64 (f y.c.id)) from Ca (V:=kN) (z:=(0:Int)) (u:=f y.c.id) y.c.id hfy Bu hO (AJ lA l3) Y LJ HQ Y Y hyI) Y (Qf MF Y ?_))))))))));refine AP 0 _ Y A5 Y Y (by rfl) Y Y (by(simp;done)) rfl rfl ?_;refine Al (Ai (Ab (Ar (Qf KN Y (Ql Y U4 (Cell.blk 0 Y Y) (Qm Y (Qg (oF V7 Y) Y (Qg (oL Y U3 (Cell.blk 0 Y Y)) Y (Qg (oF MF Y) Y (Qg (oL Y U3 (Cell.blk 0 Y Y)) Y (Qg (Dk Y Y Y) Y (Qm Y (Am ?_)))))))))))));refine Ap Y (fun hbd=>?_) (fun hbd=>?_)
    ·refine Ad (Qm Y (Qx (oG Y U43 ER (Seg.blk 0 Y)) Y (Ao [_,_,_,_,_,_] Y RQ ER Y (by rfl) Y Y (by omega) Y Y Y (fun g93=>?_))));refine AR 2 hB (RdL.one Ff (x:=⟨x.c.dim,f x.c.id,f y.c.id,false,x.c.id,y.c.id⟩) Mh Y) Y RQ ER Y (by omega) Y Y Y J4 (by simp;omega) (by simp;omega) rfl rfl rfl (fun vb2 mb2 hB2=>?_);refine Qm Y (Al (Ai (Ab (Ad (Qx (oA Y) Y (Qm Y (Al (AO (AO ?_)))))))));exact Ak (S.length-(i+1)) _ (by omega) ⟨i+1,vb2,mb2,Y,Y,AJ l2 l3,Y,by omega,by rw[hf,DV,hbar,if_pos hbd];exact hB2⟩ Qs
    ·refine Ah (Ai (Ab (Ad (Qx (oA Y) Y (Qm Y (Al (AO ?_)))))));exact Ak (S.length-(i+1)) _ (by omega) ⟨i+1,vb,mb,Y,Y,AJ l2 l3,Y,by omega,by rw[hf,DV,hbar,if_neg hbd,append_nil];exact hB⟩ Qs
   ·have hj:Bm (CZ L L.length) (i:Int)=none:=by
     rw[hb]at hbb;cases h:Bm (CZ L L.length) (i:Int) with
     | none=>rfl
     | some j=>rw[h]at hbb;cases hbb
    have hil2:i<L.length:=by omega
    have hL3:=hL.up l3;have cL:∀ms,Cell h3 ms ((AE vl).add (i*1)) (.int .i64 (L.getD i 0)):=fun ms=>by rw[show L.getD i 0=L[i] by simp[List.getD,hil2]];exact(hL3.any (ms:=ms)).cell0 hil2 Y
    have hbar:GP f S L i=if L.getD i 0<0 then [⟨x.c.dim,f x.c.id,0,true,x.c.id,0⟩] else []:=by unfold GP;rw[hj];simp only[hgx]
    refine Ar (Qm Y (Qm Y (Qx (BE (i) hL3.rd.any Y AU A5 Y Y) Y (Ql Y U3 (cL _) (Qm Y (Qm Y (Am ?_)))))));refine Ap Y (fun hneg=>?_) (fun hneg=>?_)
    ·refine Ad (Qf KN Y ?_);refine AP 0 _ Y Wd Y Y (by rfl) Y Y (by(simp;done)) rfl rfl ?_;refine Al (Ai (Ab (Ar (Qf KN Y (Ql Y U4 (Cell.blk 0 Y Y) (Qm Y (Qk Y (Qk Y (Qk Y (Qk Y (Qk Y (Qm Y (Am (BC Y (Ad (Qm Y (Qx (oG Y U43 ER (Seg.blk 0 Y)) Y (Ao [_,_,_,_,_,_] Y RQ ER Y (by rfl) Y Y (by omega) Y Y Y (fun g93=>?_)))))))))))))))))));refine AR 2 hB (RdL.one Ff (x:=⟨x.c.dim,f x.c.id,0,true,x.c.id,0⟩) Mh Y) Y RQ ER Y (by omega) Y Y Y J4 (by simp;omega) (by simp;omega) rfl rfl rfl (fun vb2 mb2 hB2=>?_);refine Qm Y (Al (Ai (Ab (Ad (Qx (oA Y) Y (Qm Y (Al (AO (AO ?_)))))))));exact Ak (S.length-(i+1)) _ (by omega) ⟨i+1,vb2,mb2,Y,Y,AJ l2 l3,Y,by omega,by rw[hf,DV,hbar,if_pos hneg];exact hB2⟩ Qs
    ·refine As (Ek Y (Aa (Af (Ab (Ad (Qx (oA Y) Y (Qm Y (Al (AO ?_)))))))));exact Ak (S.length-(i+1)) _ (by omega) ⟨i+1,vb,mb,Y,Y,AJ l2 l3,Y,by omega,by rw[hf,DV,hbar,if_neg hneg,append_nil];exact hB⟩ Qs
  ·obtain rfl:i=S.length:=by omega
   refine As (Aa (Aa (Af (Ab (Ar (Qm Y (Qm Y (Am (An ?_)))))))));exact Av Y Y (⟨AJ l1 l2,mb,Y,hB⟩)
structure PersF(p:Int)(F:List (Int×Int))(l S:List Ce)(R V:Nat->List Int):Prop where
 perm:(S.map Ce.c).Perm (cn l)
 srt:Ls (Cb (A6 F)) S
 all:∃la,AllC p S S.length S.length R V la
noncomputable def Dr(S:List Ce)(R:Nat->List Int):List Int:=(range S.length).map fun k=>AX (R k)
theorem Ft(S:List Ce)(R:Nat->List Int):(Dr S R).length=S.length:=by unfold Dr;simp
theorem Gb(S:List Ce)(R:Nat->List Int){k:Nat}(h:k<S.length):(Dr S R).getD k 0=AX (R k):=by unfold Dr;simp[List.getD,h]
theorem RedM.pers{p:Int}{F:List (Int×Int)}{l S:List Ce}{R V:Nat->List Int}{gm:Nat}{h:Hp}(M:RedM p F l S R V gm h):PersF p F l S R V:=by obtain⟨gA,mA,bs,vc,vr,vv,Rs,Vs,la,_,_,_,_,_,_,_,_,_,_,A⟩:=M.ex;exact⟨M.perm,M.srt,la,A⟩
theorem PersF.lt{p:Int}{F:List (Int×Int)}{l S:List Ce}{R V:Nat->List Int}(P:PersF p F l S R V):∀x∈Dr S R,x<S.length:=fun x hx=>by obtain⟨la,A⟩:=P.all;unfold Dr at hx;obtain⟨k,hk,rfl⟩:=List.mem_map.1 hx;have h1:=(Dc (R k)).2;rw[A.red.rl k (List.mem_range.1 hk)]at h1;exact h1
theorem KI(l:List Ce)(F:List (Int×Int))(v vf:Value)(p:Int)(hp:Hp)(hK:RgC l)(hR:RdC hp v l)(hF:RdL cV 2 hp [] vf F)(hV:GA F)(hI:∀c,BN (Cb (A6 F) c))(h0:DF (cn l) F=(0,0))(hP:IsP p)(hl:l.length<=400):FnT Tryz.prog 15 #[.agg #[v],vf,.int .i64 p] hp [] (fun r h' ms'=>hp.le h'/\∃(S:List Ce) (R V:Nat->List Int) (vb:Value) (mb:Hp),r=.tuple #[vb,.int .i64 0]/\ms'=[mb]/\OwnL JY 6 43 mb vb (Do (Cb (A6 F)) S (Dr S R) S.length)/\PersF p F l S R V):=by
 have o1:=hR.q.rd.one;have o2:=hF.rd.one;refine Aq func15 ntmps15 Y Y (fun w0 hw0=>?_);simp only[AW];refine Ar (AV [_] Y Y (by rfl) Y Y Y (fun g3=>Qm Y (Qm Y (Am (Az fun h1 l1 hS=>?_)))));have hR:=hR.up l1;have hF:=hF.up l1;refine Ar (Qx (oG Y CB AY (Seg.any hS)) Y (Qm Y (Qm Y (Qc call51 Y (SY l F v vf p h1 hK hR hF hV h0 hP hl) (fun rB h2 ms2 l2 hB=>?_)))));obtain⟨l2',gm,S,R,V,vl,ml,rfl,rfl,hO,M⟩:=hB;have P:=M.pers;have hSn:S.length<=400:=by have:=P.perm.length_eq;rw[length_map,CY]at this;omega
 have ovl:=hO.o1;refine Qm Y (Qm Y (Qm Y (Qm Y (Qm Y (Qm Y (Qm Y (Am (Ac (Ar (Qm Y (Qm Y (Am (Ap Y (fun hc=>absurd hc (fun h=>h Y)) (fun hc=>Ah (Ab (Bc hO fun h3 l3 hL=>?_))))))))))))))))
 have hSi:∀a∈S,BN a.c.id:=fun a ha=>by have h1:a.c∈cn l:=P.perm.mem_iff.1 (List.mem_map.2 ⟨a,ha,Y⟩);have h2:=hK.F.rgt.pos _ h1;have h3:=hK.ci h1;unfold BN;omega
 have M3:RedM p F l S R V gm h3:=by obtain⟨gA,mA,bs,vc,vr,vv,Rs,Vs,la,a1,a2,a3,a4,a5,a6,a7,a8,a9,a10,A⟩:=M.ex;exact⟨⟨gA,mA,bs,vc,vr,vv,Rs,Vs,la,a1.le l3,a2,AJ a3 l3,a4.up l3,a5.up l3,a6.up l3,a7,a8,fun k hk=>(a9 k hk).up l3,fun k hk=>(a10 k hk).up l3,A⟩,M.perm,M.srt,fun a ha=>(M.sds a ha).up l3⟩
 refine Ar (Qm Y (Qm Y (Qc call52 Y (Y9 l S F R V (Dr S R) p gm vl h3 M3 hL hSn (Ft S R) P.lt hSi hI) (fun rC h4 ms4 l4 hB=>?_))));obtain⟨l4',mb,rfl,hOb⟩:=hB;have ovb:=hOb.o1;refine Qm Y (Qm Y (Am (An ?_)));exact Bq Y Y Y (⟨AJ l1 (AJ l2 (AJ l3 l4)),S,R,V,rC,mb,Y,Y,hOb,P⟩)
end Go.Proofs.Q

namespace Go.Proofs.Q
open Go.Proofs.Tryz
open Go.Eng Go.RowKit Go.Lin
def FF(rows cols:Int):Prop:=0<=rows/\0<=cols/\rows<=400/\cols<=400
instance (r c:Int):Decidable (FF r c):=by unfold FF;infer_instance
theorem W8(p r c:Int)(h:Hp)(hI:BN p):FnT Tryz.prog 185 #[.int .i64 p,.int .i64 r,.int .i64 c] h [] (fun x _ _=>x=.bool (decide (IsP p/\FF r c))):=by
 refine Aq func185 ntmps185 Y Y (fun w0 hw0=>?_);simp only[AW];refine Ar (Qm Y (BH (Qm Y (Qx (AI Y call54 Y (J8 _ _ hI _)) Y (Qm Y ?_)))));refine AN (t:=9) Y (fun hs=>?_) (fun hs=>?_)
 ·refine Qg (Ay Y Y) Y (Qg (Ay Y Y) Y (Qg (QY Y Y Y) Y (Qg (Jj Y Y Y) Y (Qm Y (Qm Y ?_)))));refine AN (t:=15) Y (fun hs2=>?_) (fun hs2=>?_)
  ·refine Qg (Ay Y Y) Y (Qg (Ay Y Y) Y (Qg (Jq Y Y Y) Y (Qg (Jd Y Y Y) Y (Qm Y (Qm Y (Am (An ?_)))))));exact Av Y Y (by unfold FF;congr 1;rw[decide_eq_decide];simp only[hs,true_and];omega)
  ·refine Qk Y (Qk Y (Qk Y (Qk Y (Qm Y (Qm Y (Am (An ?_)))))));exact Av Y Y (by unfold FF;rw[decide_eq_false];rintro⟨_,h1⟩;omega)
 ·refine Qk Y (Qk Y (Qk Y (Qk Y (Qm Y (Qm Y (Qk Y (Qk Y (Qk Y (Qk Y (Qm Y (Qm Y (Am (An ?_)))))))))))));exact Av Y Y (by rw[decide_eq_false];exact fun h=>hs h.1)
theorem V4(p r c:Int)(h:Hp)(hI:BN p)(ms:List Hp):FnV Tryz.prog 185 #[.int .i64 p,.int .i64 r,.int .i64 c] h ms (.bool (decide (IsP p/\FF r c))):=by refine fun w hw=>(?_:FnV _ _ _ h [] _) w (hw.weaken (DT) (List.nil_sublist _));exact FnT.toV (W8 p r c h hI)
variable {l:List Int}
def ZM(l:List Int)(p:Int->Bool):Int:=match l.findIdx? p with|some i=>i|none=>-1
theorem VS{p:Int->Bool}{k:Nat}(hk:k<l.length)(hp:p l[k]=true)(hn:∀j (hj:j<k),p (l[j]'(by omega))=false):ZM l p=k:=by
 unfold ZM
 have:l.findIdx? p=some k:=by rw[List.findIdx?_eq_some_iff_getElem];exact⟨hk,hp,fun j hj=>by simp[hn j hj]⟩
 rw[this]
theorem Ve{p:Int->Bool}(hn:∀j (hj:j<l.length),p l[j]=false):ZM l p=-1:=by
 unfold ZM
 have:l.findIdx? p=none:=by rw[List.findIdx?_eq_none_iff];intro x hx;obtain⟨j,hj,rfl⟩:=List.mem_iff_getElem.1 hx;exact hn j hj
 rw[this]
theorem XW(l:List Int)(p:Int->Bool):decide (0<=ZM l p)=l.any p:=by
 unfold ZM;cases h:l.findIdx? p with
 | none=>rw[List.findIdx?_eq_none_iff]at h;simp;exact h
 | some i=>
  rw[List.findIdx?_eq_some_iff_getElem]at h;obtain⟨h1,h2,_⟩:=h;simp;exact⟨_,getElem_mem h1,h2⟩
theorem NI(l:List Int)(vl:Value)(cf:FuncId)(cs:List Value)(p:Int->Bool)(h:Hp)(hR:RdL cI 1 h [] vl l)
  (hc:∀xs w,(callFunc cf xs).run Tryz.prog w=.ok (.enter cf xs) w)
  (hp:∀b∈l,∀ms,FnV Tryz.prog cf ([]++[Value.int .i64 b]++cs).toArray h ms (.bool (p b))) :
  FnT Tryz.prog 269 #[vl,.func (.func cf) #[] cs.toArray] h [] (fun r _ _=>r=.int .i64 (ZM l p)):=by
 have hl:=hR.len_le;refine Aq func269 ntmps269 Y Y (fun w0 hw0=>?_);simp only[AW];refine Ar (Qm Y (Am (Ac (Ar (Qm Y (Qx (Au hR.rd.any Y AU Y) Y (Qm Y (Am (Ag ?_)))))))))
 refine Aw (fun n s h' ms'=>∃(k:Nat),n=l.length-k/\s=[(0,vl),(1,.func (.func cf) #[] cs.toArray),(7,.int .i64 l.length),(8,.int .i64 k)]/\h=h'/\ms'=[]/\k<=l.length/\∀j (hj:j<l.length),j<k->p l[j]=false)
  (l.length-0) _ ⟨0,rfl,rfl,rfl,rfl,by omega,fun j hj h=>by omega⟩ Qs ?_
 rintro n s h' ms' ⟨k,rfl,rfl,rfl,rfl,hk,hno⟩;refine Ar (Qm Y (Am (Ac ?_)));refine Ap Y (fun hlt=>?_) (fun hlt=>?_)
 ·have hlt':k<l.length:=by omega
  refine Ah (Ab (Ac (Ag (Ar (Qm Y (Qm Y (BH (Qm Y (Qm Y (Qm Y (Qx (AB _ hR.rd.any Y AU A5 Y Y Y (by omega)) Y (Ql Y U3 (hR.any.cell0 hlt' Y) (Qx (Ci Y Y hc Y (hp _ (getElem_mem hlt') _)) Y (Am ?_))))))))))))));refine Bx Y (fun hpk=>?_) (fun hpk=>?_)
  ·refine Ac (Ad (Qm Y (Qm Y (Am (An (Aj (Ae (Ae (Aj (Ae ?_))))))))));exact Av Y Y (by rw[VS hlt' hpk fun j hj=>hno j _ hj])
  ·refine Ah (Ai (Ab (Ad (Qx (oA Y) Y (Qm Y (Al ?_))))));refine Ak (l.length-(k+1)) _ (by omega) ⟨k+1,Y,Y,Y,Y,by omega,fun j hj h1=>?_⟩ Qs;rcases (by omega:j<k\/j=k) with h2|rfl
   ·exact hno j hj h2
   ·exact hpk
 ·refine As (Aa (Aa (Af (Ab (Ar (Qm Y (Am (An ?_))))))));exact Av Y Y (by rw[Ve fun j hj=>hno j hj (by omega)])
theorem JX(l:List Int)(vl:Value)(cf:FuncId)(cs:List Value)(p:Int->Bool)(h:Hp)(hR:RdL cI 1 h [] vl l)
  (hc:∀xs w,(callFunc cf xs).run Tryz.prog w=.ok (.enter cf xs) w)
  (hp:∀b∈l,∀ms,FnV Tryz.prog cf ([]++[Value.int .i64 b]++cs).toArray h ms (.bool (p b))) :
  FnT Tryz.prog 220 #[vl,.func (.func cf) #[] cs.toArray] h [] (fun r _ _=>r=.bool (l.any p)):=by
 refine Aq func220 ntmps220 Y Y (fun w0 hw0=>?_);simp only[AW];refine Ar (Qm Y (BH (Qm Y (Qm Y (Qx (AI Y call269 Y (EO (NI l vl cf cs p h hR hc hp) _)) Y (Qm Y (Qm Y (Am (An ?_)))))))));exact Av Y Y (by rw[<-XW])
structure FM where
 p:Int
 rows:Int
 cols:Int
 e:List Int
def FM.nil:FM:=⟨0,0,0,[]⟩
def FM.Rt(M:FM):Prop:=IsP M.p/\FF M.rows M.cols/\(M.e.length:Int)=M.rows*M.cols/\∀x∈M.e,0<=x/\x<M.p
instance (M:FM):Decidable M.Rt:=by unfold FM.Rt;infer_instance
structure FM.Ok(M:FM):Prop where
 p:BN M.p
 r:BN M.rows
 c:BN M.cols
def cM(M:FM)(ev:Value):List Value:=[.int .i64 M.p,.int .i64 M.rows,.int .i64 M.cols,ev]
theorem T9(g:Nat)(n p:Int)(h:Hp)(hD:∀ms,Cell h ms ⟨g,0,none⟩ (.int .i64 p))(ms:List Hp):FnV Tryz.prog 221 ([]++[Value.int .i64 n]++[Value.pointer (some ⟨g,0,none⟩)]).toArray h ms (.bool (decide (n<0\/p<=n))):=by
 refine EO ?_ ms;show FnT _ _ #[.int .i64 n,.pointer (some ⟨g,0,none⟩)] _ _ _;refine Aq func221 ntmps221 Y Y (fun w0 hw0=>?_);simp only[AW];refine Ar (Qm Y (BH (Qm Y (Qm Y (Qm Y ?_)))));refine AN (t:=6) Y (fun hs=>?_) (fun hs=>?_)
 ·refine Qk Y (Qk Y (Qk Y (Qk Y (Qm Y (Qm Y (Am (An ?_)))))));exact Av Y Y (by rw[decide_eq_true];exact .inl hs)
 ·refine Qg (Ay Y Y) Y (Qg (oF FT Y) Y (Qg (oL Y U3 (hD _)) Y (Qg (Jj Y Y Y) Y (Qm Y (Qm Y (Am (An ?_)))))));exact Av Y Y (by congr 1;rw[decide_eq_decide];omega)
theorem XI{p:Int}:(!l.any fun n=>decide (n<0\/p<=n))=decide (∀x∈l,0<=x/\x<p):=by rw[Bool.eq_iff_iff];simp only[Bool.not_eq_true',List.any_eq_false,decide_eq_true_eq];exact⟨fun h x hx=>by have:=h x hx;omega,fun h x hx=>by have:=h x hx;omega⟩
theorem Kr{r c:Int}(hF:FF r c):0<=r*c/\r*c<=160000:=by obtain⟨h1,h2,h3,h4⟩:=hF;refine⟨Int.mul_nonneg h1 h2,?_⟩;have:=Int.mul_le_mul h3 h4 h2 (by omega:(0:Int)<=400);omega
theorem Wg(M:FM)(ev:Value)(h:Hp)(hO:M.Ok)(hR:RdL cI 1 h [] ev M.e):FnT Tryz.prog 183 #[.agg #[.int .i64 M.p,.int .i64 M.rows,.int .i64 M.cols,ev]] h [] (fun r _ _=>r=.bool (decide M.Rt)):=by
 have hl:=hR.len_le;refine Aq func183 ntmps183 Y Y (fun w0 hw0=>?_);simp only[AW];refine Ar (AV [_,_,_,_] Y Y (by rfl) Y Y Y (fun g1=>Qm Y (BH (Qf FT Y (Ql Y U3 (Cell.blk 0 Y Y) (Qf Jy Y (Ql Y U3 (Cell.blk 0 Y Y) (Qf Ia Y (Ql Y U3 (Cell.blk 0 Y Y) (Qx (AI Y call185 Y (V4 _ _ _ _ hO.p _)) Y (Qm Y ?_)))))))))));refine AN (t:=10) Y (fun hf=>?_) (fun hf=>?_)
 ·have hm:=Kr hf.2;refine Qg (oF Di Y) Y (Qg (oL Y AU (Cell.blk 0 Y Y)) Y (Qg (Au hR.rd.any Y AU Y) Y (Qg (oF Jy Y) Y (Qg (oL Y U3 (Cell.blk 0 Y Y)) Y (Qg (oF Ia Y) Y (Qg (oL Y U3 (Cell.blk 0 Y Y)) Y (Qg (oM Y) Y (Qg (C6 Y Y Y) Y (Qm Y (Qm Y ?_))))))))));refine AN (t:=21) Y (fun he=>?_) (fun he=>?_)
  ·refine Qg (oF Di Y) Y (Qg (oL Y AU (Cell.blk 0 Y Y)) Y (DR fun h' hle hS=>?_));have hR:=hR.up hle;have hD:∀i v,(cM M ev)[i]?=some v->∀ms,Cell h' ms ((⟨g1,0,none⟩:Addr).add i) v:=fun i v hv ms=>(hS i v hv).any;have hD0:∀ms,Cell h' ms ⟨g1,0,none⟩ (.int .i64 M.p):=fun ms=>hD 0 _ Y ms;refine Qg (BV Y Y Y) Y (Qg (AI Y call220 Y (EO (JX M.e ev 221 [.pointer (some ⟨g1,0,none⟩)] (fun n=>decide (n<0\/M.p<=n)) h' hR call221 (fun b _ ms=>T9 g1 b M.p h' hD0 ms)) _)) Y (Qg (F1 Y Y) Y (Qm Y (Qm Y (Am (An ?_))))));exact Av Y Y (by rw[XI];congr 1;rw[decide_eq_decide];unfold FM.Rt;exact⟨fun hx=>⟨hf.1,hf.2,he,hx⟩,fun hx=>hx.2.2.2⟩)
  ·refine Qk Y (Qk Y (Qk Y (Qk Y (Qk Y (Qm Y (Qm Y (Am (An ?_))))))));exact Av Y Y (by rw[decide_eq_false];exact fun hx=>he hx.2.2.1)
 ·refine Qk Y (Qk Y (Qk Y (Qk Y (Qk Y (Qk Y (Qk Y (Qk Y (Qk Y (Qm Y (Qm Y (Qk Y (Qk Y (Qk Y (Qk Y (Qk Y (Qm Y (Qm Y (Am (An ?_)))))))))))))))))));exact Av Y Y (by rw[decide_eq_false];exact fun hx=>hf ⟨hx.1,hx.2.1⟩)
end Go.Proofs.Q

namespace Go.Proofs.Q
open Go.Proofs.Tryz
open Go.Eng Go.RowKit Go.Lin
def Qd(p r c:Int):FM:=if IsP p/\FF r c then⟨p,r,c,replicate (r*c).toNat 0⟩ else FM.nil
def Xy(p:Int)(r c:Nat)(f:Nat->Nat->Int):FM:=⟨p,r,c,CI r c f⟩
theorem R6{p:Int}{r c:Nat}(hp:IsP p)(hr:r<=400)(hc:c<=400):Qd p r c=Xy p r c fun _ _=>0:=by unfold Qd Xy;rw[if_pos ⟨hp,by unfold FF;omega⟩,<-Sg,show((r:Int)*c).toNat=r*c by rw[<-Int.natCast_mul,Int.toNat_natCast]]
def PR(r:Value)(ms:List Hp)(M:FM):Prop:=∃ev m,ms=[m]/\r=.agg #[.int .i64 M.p,.int .i64 M.rows,.int .i64 M.cols,ev]/\OwnL cI 1 3 m ev M.e
theorem YM(p r c:Int)(h:Hp)(hI:BN p):FnT Tryz.prog 125 #[.int .i64 p,.int .i64 r,.int .i64 c] h [] (fun v h' ms'=>h=h'/\PR v ms' (Qd p r c)):=by
 refine Aq func125 ntmps125 Y Y (fun w0 hw0=>?_);simp only[AW];refine Ar (CG [.int .i64 0,.int .i64 0,.int .i64 0,.slice none 0 0] Y BF Y Y (fun g6=>Am (Ac (Ar (Qm Y (Qm Y (Qm Y (Qx (AI Y call185 Y (V4 _ _ _ _ hI _)) Y (Qm Y (Am ?_))))))))));refine Bx Y (fun hf=>?_) (fun hf=>?_)
 ·have hf:¬(IsP p/\FF r c):=of_decide_eq_false (by simpa only [Bool.not_eq_true'] using hf);refine Ar (Qx (A4 QT [.int .i64 0,.int .i64 0,.int .i64 0,.slice none 0 0] [] [_,_,_,_] Y BF Y Y Qt Y) Y ?_);refine Sa 0 [_,_,_,_] BF Y (by simp[Value.oneCell']) ?_;refine Am (An (Ae (Jz ?_)));exact By (vs:=[_,_,_,_]) 1 Y Y Jt Y BF Y Y (⟨Y,_,_,Y,by unfold Qd;rw[if_neg hf];rfl,by unfold Qd;rw[if_neg hf];exact OwnL.nil Be⟩)
 ·have hf:IsP p/\FF r c:=of_decide_eq_true (by simpa only [Bool.not_eq_false'] using hf);have hm:=Kr hf.2;obtain⟨n,hn⟩:∃n:Nat,r*c=n:=⟨(r*c).toNat,by omega⟩
  refine Ah (Ab (Ar (Qm Y (Qm Y (Qm Y (Qm Y (Qm Y (Qx (oM Y) Y (CN (n:=n) Y AU A5 Y Y Y (by omega) (by omega) (by omega) (by omega) Y Y Y (fun g19=>Qx (A4 QT [.int .i64 0,.int .i64 0,.int .i64 0,.slice none 0 0] [(0,_),(1,_),(2,_),(3,_)] [_,_,_,_] Y BF Y Y Qt Y) Y ?_))))))))));refine Sa 1 [_,_,_,_] BF Y (by simp[Value.oneCell']) ?_;refine Am (An ?_);exact By (vs:=[_,_,_,_]) 1 Y Y Jt Y BF Y Y (⟨Y,_,_,Y,by unfold Qd;rw[if_pos hf],by unfold Qd;rw[if_pos hf,hn];exact OwnL.rep n 0 (by omega)⟩)
variable {p:Int} {r c:Nat} {f:Nat->Nat->Int}
def InP(p:Int)(r c:Nat)(f:Nat->Nat->Int):Prop:=∀i,i<r->∀j,j<c->0<=f i j/\f i j<p
structure RtM(p:Int)(r c:Nat)(f:Nat->Nat->Int):Prop where
 pr:IsP p
 rl:r<=400
 cl:c<=400
 en:InP p r c f
theorem RtM.bd(R:RtM p r c f):2<=p/\p<=997:=⟨R.pr.1,R.pr.2.1⟩
theorem RtM.i64(R:RtM p r c f):BN p:=⟨by have:=R.bd;omega,by have:=R.bd;omega⟩
theorem RtM.ok(R:RtM p r c f):(Xy p r c f).Ok:=⟨R.i64,⟨by have:=R.rl;show _<=(r:Int);omega,by have:=R.rl;show(r:Int)<=_;omega⟩,⟨by have:=R.cl;show _<=(c:Int);omega,by have:=R.cl;show(c:Int)<=_;omega⟩⟩
theorem RtM.rt(R:RtM p r c f):(Xy p r c f).Rt:=by have h1:=R.rl;have h2:=R.cl;refine⟨R.pr,by unfold FF Xy;simp only;omega,by simp[Xy,Cy],fun x hx=>?_⟩;obtain⟨i,j,hi,hj,rfl⟩:=mem_mat.1 hx;exact R.en i hi j hj
theorem Yx{ev:Value}{h:Hp}(R:RtM p r c f)(hR:RdL cI 1 h [] ev (CI r c f))(ms:List Hp):FnV Tryz.prog 183 #[.agg #[.int .i64 p,.int .i64 r,.int .i64 c,ev]] h ms (.bool true):=by have:=EO (Wg (Xy p r c f) ev h R.ok hR) ms;rw[decide_eq_true R.rt]at this;exact this
end Go.Proofs.Q

namespace Go.Proofs.Q
open Go.Proofs.Tryz
open Go.Eng Go.RowKit Go.Lin
def cR(p:Int)(r c:Nat)(ev:Value)(ov:List Value):List Value:=.int .i64 p::.int .i64 r::.int .i64 c::ev::ov
abbrev BR(g:Nat)(p:Int)(r c:Nat)(ev:Value)(ov:List Value):Hp:=Bl g 255 (cR p r c ev ov)
theorem JC(g:Nat)(p:Int)(r c:Nat)(f:Nat->Nat->Int)(ev:Value)(ov:List Value)(i:Nat)(h:Hp)(hS:Seg h [] ⟨g,0,none⟩ (cR p r c ev ov))(hR:RdL cI 1 h [] ev (CI r c f))(hi:i<r)(hr:r<=400)(hc:c<=800) :
  FnV Tryz.prog 223 #[.pointer (some ⟨g,0,none⟩),.int .i64 i] h [] (B3 1 ev (i*c) ((i+1)*c)):=by
 refine FnT.toV ?_;have hA:=Seg.all hS;have hA0:=hA 0 _ Y;have e1:(i+1)*c=i*c+c:=by rw[Nat.add_mul,Nat.one_mul]
 have b1:(i+1)*c<=r*c:=Nat.mul_le_mul_right c hi;have b2:r*c<=400*800:=Nat.mul_le_mul hr hc;have el:(CI r c f).length=r*c:=Cy _ _ _;have e3:((i:Int)+1)*c=i*c+c:=by rw[Int.add_mul,Int.one_mul]
 have hz:∀a:Addr,(a.add 0).add 3=a.add 3:=fun a=>by rw[BS]
 refine Aq func223 ntmps223 Y Y (fun w0 hw0=>?_);simp only[AW];refine Ar (Qm Y (Am (Ac (BM (n:=22) (bs:=[true,true,true,true,true,true,true,true,true,true,true,true,true,true,true,true,true,true,true,true,true,false]) [true,true,true,true,true,true,true,true,true,true,true,true,true,true,true,true,true,true,true,true,true] CW (by kernel_rfl) (by kernel_rfl) Y Y (Qq Y (Qq Y (QF FG Y (QF Di Y (QL Y AU (hA _ _ Y _) (Qq Y (Qq Y (Qq Y (QF FG Y (QF Ia Y (QL Y U3 (hA _ _ Y _) (Qp Y (oM Y) (Qq Y (Qp Y (oA Y) (Qq Y (Qq Y (QF FG Y (QF Ia Y (QL Y U3 (hA _ _ Y _) (Qp Y (oM Y) (Qp Y (NJ (i*c) ((i+1)*c) hR.rd.any Y AU A5 Y Y Y (by omega) (by omega) (by omega) (by omega)) ?_)))))))))))))))))))))))));unfold FU;simp only[cons_append,nil_append];refine Qo 21 Y (Qm Y (Qw (Qe (Ab (An ?_)))));exact Av Y Y (Y)
def turn(f:Nat->Nat->Int)(i:Nat)(G:Nat->Int)(k a b:Nat):Int:=if a=i/\b<k then G b else f a b
theorem turn_zero(f:Nat->Nat->Int)(i:Nat)(G:Nat->Int)(a b:Nat):turn f i G 0 a b=f a b:=if_neg (by omega)
theorem turn_at(f:Nat->Nat->Int)(i:Nat)(G:Nat->Int)(k:Nat):turn f i G k i k=f i k:=if_neg (by omega)
theorem turn_ne(f:Nat->Nat->Int)(i:Nat)(G:Nat->Int)(k a b:Nat)(h:a≠i):turn f i G k a b=f a b:=if_neg (by omega)
theorem turn_step(f:Nat->Nat->Int)(i:Nat)(G:Nat->Int)(k a b:Nat):GZ (turn f i G k) i k (G k) a b=turn f i G (k+1) a b:=by
 unfold GZ turn;by_cases h:a=i/\b=k
 ·rw[if_pos h,if_pos (by omega),h.2]
 ·rw[if_neg h];by_cases h2:a=i/\b<k
  ·rw[if_pos h2,if_pos (by omega)]
  ·rw[if_neg h2,if_neg (by omega)]
theorem turn_all(f:Nat->Nat->Int)(i:Nat)(G:Nat->Int)(c a b:Nat)(hb:b<c):turn f i G c a b=if a=i then G b else f a b:=by
 unfold turn;by_cases h:a=i
 ·rw[if_pos ⟨h,hb⟩,if_pos h]
 ·rw[if_neg (fun x=>h x.1),if_neg h]
theorem Pw(r c:Nat)(f:Nat->Nat->Int)(i:Nat)(G:Nat->Int)(ev:Value)(m:Hp)(cf:FuncId)(fs:List Value)(h:Hp)(hO:OwnL cI 1 3 m ev (CI r c f))(hi:i<r)(hr:r<=400)(hc:c<=800)
  (hcf:∀xs w,(callFunc cf xs).run Tryz.prog w=.ok (.enter cf xs) w)
  (hG:∀k,k<c->∀m',OwnL cI 1 3 m' ev (CI r c (turn f i G k))->FnV Tryz.prog cf (fs++[Value.int .i64 k,Value.int .i64 (f i k)]++[]).toArray h [m'] (.int .i64 (G k))) :
  FnT Tryz.prog 225 #[B3 1 ev (i*c) ((i+1)*c),.func (.func cf) fs.toArray #[]] h [m] (fun x h' ms'=>h=h'/\∃m',ms'=[m']/\OwnL cI 1 3 m' ev (CI r c fun a b=>if a=i then G b else f a b)):=by
 have ec:=Cd c (f i);refine Aq func225 ntmps225 Y Y (fun w0 hw0=>?_);simp only[AW];refine Ar (Qm Y (Qx (Au ((hO.rd (h:=h) (ms:=[m]) Mh).row hi).rd Y AU Y) Y (Qm Y (Am (Ag ?_)))))
 refine Aw (fun q s h' ms'=>∃(k:Nat) (m:Hp),q=c-k/\s=[(0,B3 1 ev (i*c) ((i+1)*c)),(1,.func (.func cf) fs.toArray #[]),(6,B3 1 ev (i*c) ((i+1)*c)),(7,.int .i64 ((FB c (f i)).length:Nat)),(8,.int .i64 k)]/\h=h'/\ms'=[m]/\k<=c/\OwnL cI 1 3 m ev (CI r c (turn f i G k)))
  (c-0) _ ⟨0,m,rfl,rfl,rfl,rfl,by omega,by rw[Bg (fun a _ b _=>turn_zero f i G a b)];exact hO⟩ Qs ?_
 rintro q s h' ms' ⟨k,m,rfl,rfl,rfl,rfl,hk,hO⟩;refine Ar (Qm Y (Am (Ac ?_)));refine Ap Y (fun hlt=>?_) (fun hlt=>?_)
 ·have hkc:k<c:=by omega
  have ek:=Cd c (turn f i G k i)
  have hcell:Cell h [m] ((AE (B3 1 ev (i*c) ((i+1)*c))).add (k*1)) (.int .i64 (f i k)):=by have:=((hO.rd (h:=h) (ms:=[m]) Mh).row hi).ev hkc;rw[turn_at]at this;exact this
  refine Ah (Ab (Ac (Ag (Ar (Qm Y (Qx (AB _ ((hO.rd (h:=h) (ms:=[m]) Mh).row hi).rd Y AU A5 Y Y Y (by omega)) Y (Ql Y U3 (hcell) (Qm Y (Qm Y (GJ (Qm Y (Qm Y (Qm Y (Qm Y (Qm Y (Qx (Ci (cs:=[]) Y Y hcf Y (hG k hkc m hO)) Y (Qx (AB _ ((hO.rd (h:=h) (ms:=[m]) Mh).row hi).rd Y AU A5 Y Y Y (by omega)) Y (F4 0 i k hO hi hkc Y A5 Y Y Y Y Y (fun m' hO'=>Al (Ai (Ab (Ad (Qx (oA Y) Y (Qm Y (Al ?_)))))))))))))))))))))))));refine Ak (c-(k+1)) _ (by omega) ⟨k+1,m',Y,Y,Y,Y,by omega,by rw[Bg (fun a _ b _=>turn_step f i G k a b)]at hO';exact hO'⟩ Qs
 ·refine As (Aa (Aa (Af ?_)));obtain rfl:k=c:=by omega
  exact B4 Y (⟨Y,m,Y,by rw[Bg (fun a _ b hb=>turn_all f i G k a b hb)]at hO;exact hO⟩)
def swp(f:Nat->Nat->Int)(i j k a b:Nat):Int:=if b<k then f (Hs i j a) b else f a b
theorem OR(f:Nat->Nat->Int)(i j k a b:Nat):GZ (GZ (swp f i j k) i k (f j k)) j k (f i k) a b=swp f i j (k+1) a b:=by
 unfold GZ swp Hs;by_cases h1:a=j/\b=k
 ·obtain⟨rfl,rfl⟩:=h1;rw[if_pos ⟨rfl,rfl⟩,if_pos (by omega)];by_cases h2:a=i
  ·subst h2;rw[if_pos rfl]
  ·rw[if_neg h2,if_pos rfl]
 ·rw[if_neg h1];by_cases h2:a=i/\b=k
  ·obtain⟨rfl,rfl⟩:=h2;rw[if_pos ⟨rfl,rfl⟩,if_pos (by omega),if_pos rfl]
  ·rw[if_neg h2];by_cases h3:b<k
   ·simp only[h3,show b<k+1 by omega,if_true]
   ·by_cases h4:b<k+1
    ·have hbk:b=k:=by omega
     have hai:¬a=i:=fun e=>h2 ⟨e,hbk⟩;have haj:¬a=j:=fun e=>h1 ⟨e,hbk⟩;simp only[h3,h4,hai,haj,if_true,if_false]
    ·simp only[h3,h4,if_false]
theorem Aau(f:Nat->Nat->Int)(i j k a:Nat):swp f i j k a k=f a k:=if_neg (by omega)
theorem WX(f:Nat->Nat->Int)(i j a b:Nat):swp f i j 0 a b=f a b:=if_neg (by omega)
theorem Yb(f:Nat->Nat->Int)(i j c a b:Nat)(hb:b<c):swp f i j c a b=f (Hs i j a) b:=if_pos hb
theorem YF(g:Nat)(p:Int)(r c:Nat)(f:Nat->Nat->Int)(ev:Value)(ov:List Value)(m:Hp)(i j:Nat)(h:Hp)(hO:OwnL cI 1 3 m ev (CI r c f))(hi:i<r)(hj:j<r)(hr:r<=400)(hc:c<=800) :
  FnT Tryz.prog 224 #[.pointer (some ⟨g,0,none⟩),.int .i64 i,.int .i64 j] h [BR g p r c ev ov,m] (fun x h' ms'=>h=h'/\∃m',ms'=[BR g p r c ev ov,m']/\OwnL cI 1 3 m' ev (CI r c fun a b=>f (Hs i j a) b)):=by
 have hRi:=(hO.rd (h:=h) (ms:=[m]) Mh).row hi;have ec:=Cd c (f i);refine Aq func224 ntmps224 Y Y (fun w0 hw0=>?_);simp only[AW];refine Ar (Qm Y (Qm Y (Qx (AI Y call223 Y (Cn fun h' hl hm=>JC g p r c f ev ov _ h' (Seg.ofLe (hm _ Mh)) (hO.rdh (hm _ (List.Mem.tail _ Mh))) (by assumption) hr hc)) Y (Qm Y (Qm Y (Qx (AI Y call223 Y (Cn fun h' hl hm=>JC g p r c f ev ov _ h' (Seg.ofLe (hm _ Mh)) (hO.rdh (hm _ (List.Mem.tail _ Mh))) (by assumption) hr hc)) Y (Qm Y (Qm Y (BH (Qm Y (Qx (Ef hRi.rd Y AU Y) Y (Qm Y (Am (Ag ?_))))))))))))))
 refine Aw (fun q s h' ms'=>∃(k:Nat) (m:Hp),q=c-k/\s=[(6,B3 1 ev (i*c) ((i+1)*c)),(7,B3 1 ev (j*c) ((j+1)*c)),(16,.int .i64 ((FB c (f i)).length:Nat)),(17,.int .i64 k)]/\h=h'/\ms'=[BR g p r c ev ov,m]/\k<=c/\OwnL cI 1 3 m ev (CI r c (swp f i j k)))
  (c-0) _ ⟨0,m,rfl,rfl,rfl,rfl,by omega,by rw[Bg (fun a _ b _=>WX f i j a b)];exact hO⟩ Qs ?_
 rintro q s h' ms' ⟨k,m,rfl,rfl,rfl,rfl,hk,hO⟩;have eci:=Cd c (swp f i j k i);have ecj:=Cd c (swp f i j k j);refine Ar (Qm Y (Am (Ac ?_)));refine Ap Y (fun hlt=>?_) (fun hlt=>?_)
 ·have hkc:k<c:=by omega
  have hR2:=fun i hi=>(hO.rd (h:=h) (ms:=[BR g p r c ev ov,m]) (List.Mem.tail _ Mh)).row (i:=i) hi
  have hcell:∀i (hi:i<r),Cell h [BR g p r c ev ov,m] ((AE (B3 1 ev (i*c) ((i+1)*c))).add (k*1)) (.int .i64 (f i k)):=fun i hi=>by have:=(hR2 i hi).ev hkc;rw[Aau]at this;exact this
  refine Ah (Ab ?_);refine A8 (fun s h' ms'=>∃(m:Hp),s=[(6,B3 1 ev (i*c) ((i+1)*c)),(7,B3 1 ev (j*c) ((j+1)*c)),(16,.int .i64 ((FB c (f i)).length:Nat)),(17,.int .i64 k)]/\h=h'/\ms'=[BR g p r c ev ov,m]/\OwnL cI 1 3 m ev (CI r c (swp f i j (k+1)))) ?_ (fun s h ms hI=>?_)
  ·refine Ag (Ar (Qm Y (Qm Y (Am (BM (n:=16) (bs:=[true,true,true,true,true,true,true,false,true,true,true,false,true,false,true,false]) [true,true,true,true,true,true,true,false,true,true,true,false,true,false,true] CW (by kernel_rfl) (by kernel_rfl) Y Y (Qq Y (Qq Y (Qq Y (Qq Y (Qq Y (Qq Y (Qp Y (BI _ (hR2 j hj).rd Y AU A5 Y Y Y (by omega)) (Qq Y (Qq Y (Qp Y (BI _ (hR2 i hi).rd Y AU A5 Y Y Y (by omega)) (Qp Y (BI _ (hR2 i hi).rd Y AU A5 Y Y Y (by omega)) (Qp Y (BI _ (hR2 j hj).rd Y AU A5 Y Y Y (by omega)) ?_)))))))))))))))));unfold FU;simp only[cons_append,nil_append];refine Bf [7,11] (by kernel_rfl) Y ?_;refine AD Y ?_ ?_
   ·refine Ql Y U3 (hcell j hj) (Qw (Qo 11 Y (Ql Y U3 (hcell i hi) (Qw (Qo 13 Y (F4 1 i k hO hi hkc Y A5 Y Y Y Y Y (fun m1 hO1=>Qw (Qo 15 Y (F4 1 j k hO1 hj hkc Y A5 Y Y Y Y Y (fun m2 hO2=>Qw (Qe (Ai ?_))))))))))));refine AF _ ⟨m2,Y,Y,Y,by rw[Bg (fun a _ b _=>OR f i j k a b)]at hO2;exact hO2⟩ Qs
   refine AD Y ?_ ?_
   ·refine Ql Y U3 (hcell i hi) (Qw (Qo 7 Y (Ql Y U3 (hcell j hj) (Qw (Qo 13 Y (F4 1 i k hO hi hkc Y A5 Y Y Y Y Y (fun m1 hO1=>Qw (Qo 15 Y (F4 1 j k hO1 hj hkc Y A5 Y Y Y Y Y (fun m2 hO2=>Qw (Qe (Ai ?_))))))))))));refine AF _ ⟨m2,Y,Y,Y,by rw[Bg (fun a _ b _=>OR f i j k a b)]at hO2;exact hO2⟩ Qs
   exact Bd
  obtain⟨m,rfl,rfl,rfl,hO⟩:=hI
  ·refine Ad (Qx (oA Y) Y (Qm Y (Al ?_)));refine Ak (c-(k+1)) _ (by omega) ⟨k+1,m,Y,Y,Y,Y,by omega,hO⟩ Qs
 ·refine As (Aa (Aa (Af ?_)));obtain rfl:k=c:=by omega
  exact B4 Y (⟨Y,m,Y,by rw[Bg (fun a _ b hb=>Yb f i j k a b hb)]at hO;exact hO⟩)
variable {p:Int} {n:Nat} {ov:List Int}
theorem J6{a b:Int}(ha:0<=a/\a<p)(hb:0<=b/\b<p)(hp:p<=997):0<=a*b/\a*b<=994009:=by refine⟨Int.mul_nonneg ha.1 hb.1,?_⟩;have:=Int.mul_le_mul (show a<=997 by omega) (show b<=997 by omega) hb.1 (by omega:(0:Int)<=997);omega
theorem Cg.pow{a b:Int}(h:Cg p a b):∀n:Nat,Cg p (a^n) (b^n)
 | 0=>Cg.of_eq (by rw[Int.pow_zero,Int.pow_zero])
 | n+1=>by rw[Int.pow_succ,Int.pow_succ];exact Cg.mul (Cg.pow h n) h
theorem YH(hp:IsP p)(h1:1<=n)(hn:(n:Int)<p){out:Int}(ho:Cg p out ((n:Int)^(p.toNat-2))):(n:Int)*out%p=1:=by
 have h2:=hp.1;have hd:¬p.toNat∣n:=fun hd=>by have:=Nat.le_of_dvd (by omega) hd;omega
 have hf:=VI hp.prm hd
 have h3:Cg p ((n:Int)*out) ((n:Int)^(p.toNat-1)):=by have:=Cg.mul (Cg.refl p (n:Int)) ho;rw[show p.toNat-1=(p.toNat-2)+1 by omega,Int.pow_succ,Int.mul_comm _ (n:Int)];exact this
 have h4:(n:Int)^(p.toNat-1)%p=1:=by
  have h5:((n^(p.toNat-1)%p.toNat:Nat):Int)=1:=by rw[hf];rfl
  rw[Int.natCast_emod,Int.natCast_pow,Int.toNat_of_nonneg (by omega)]at h5;exact h5
 rw[Cg.iff_mod.1 h3,h4]
def Ovk(p:Int)(ov:List Int):Prop:=ov.length=998/\∀n (h:n<ov.length),ov[n]=0\/(0<ov[n]/\ov[n]<p/\(n:Int)*ov[n]%p=1)
theorem ZV{r c:Nat}{ev:Value}(hn:n<ov.length):(cR p r c ev (ov.flatMap cI))[4+n*1]?=some (.int .i64 ov[n]):=by have:=EW Be ov n hn 0 (.int .i64 ov[n]) Y;rw[Nat.add_zero]at this;rw[show 4+n*1=n*1+4 by omega];exact this
theorem AaE{r c:Nat}{ev:Value}(x:Int):(cR p r c ev (ov.flatMap cI)).set (4+n*1) (.int .i64 x)=cR p r c ev ((ov.set n x).flatMap cI):=by rw[show 4+n*1=n+1+1+1+1 by omega,<-AaC];rfl
theorem Ovk.set(H:Ovk p ov){x:Int}(h0:0<x)(h1:x<p)(h2:(n:Int)*x%p=1):Ovk p (ov.set n x):=by
 refine⟨by simp[H.1],fun k hk=>?_⟩;rw[List.getElem_set];by_cases e:n=k
 ·subst e;rw[if_pos rfl];exact .inr ⟨h0,h1,h2⟩
 ·rw[if_neg e];exact H.2 k (by simpa using hk)
theorem OD(a:Int)(e:Nat):a^e=(a*a)^(e/2)*a^(e%2):=by
 conv=>lhs;rw[<-Nat.div_add_mod e 2,Int.pow_add,Int.pow_mul]
 rw[show a^2=a*a by rw[Int.pow_succ,Int.pow_succ,Int.pow_zero,Int.one_mul]]
theorem TR(g:Nat)(p:Int)(r c:Nat)(ev:Value)(ov:List Int)(n:Nat)(h:Hp)(hp:IsP p)(hov:Ovk p ov)(h1n:1<=n)(hn:(n:Int)<p) :
  FnT Tryz.prog 226 #[.pointer (some ⟨g,0,none⟩),.int .i64 n] h [BR g p r c ev (ov.flatMap cI)] (fun x h' ms'=>h=h'/\∃(v:Int) (ov':List Int),x=.int .i64 v/\ms'=[BR g p r c ev (ov'.flatMap cI)]/\Ovk p ov'/\0<v/\v<p/\(n:Int)*v%p=1):=by
 have hb:2<=p/\p<=997:=⟨hp.1,hp.2.1⟩
 have hl:=hov.1;have hnl:n<ov.length:=by omega
 have hc:=hov.2 n hnl
 have hcell:Cell h [BR g p r c ev (ov.flatMap cI)] (((⟨g,0,none⟩:Addr).add 4).add (n*1)) (.int .i64 ov[n]):=by rw[BS];exact Cell.blk 0 Y (ZV hnl)
 have hP:∀ov':List Value,Cell h [BR g p r c ev ov'] (((⟨g,0,none⟩:Addr).add 0).add 0) (.int .i64 p):=fun ov'=>by rw[BS];exact Cell.blk 0 Y Y
 refine Aq func226 ntmps226 Y Y (fun w0 hw0=>?_);simp only[AW];refine Ar (Qm Y (Am (Ac (Ar (Qm Y (Qm Y (Qm Y (Qf M9 Y (Qx (F8 (n) Y ZL A5 Y Y (by omega) (by omega)) Y (Ql Y U3 (hcell) (Qm Y (Am ?_))))))))))));refine Ap Y (fun hpos=>?_) (fun hpos=>?_)
 ·have hc:0<ov[n]/\ov[n]<p/\(n:Int)*ov[n]%p=1:=by
   rcases hc with h0|h0
   ·omega
   ·exact h0
  refine Ar (Qm Y (Qm Y (Qm Y (Qf M9 Y (Qx (F8 (n) Y ZL A5 Y Y (by omega) (by omega)) Y (Ql Y U3 (hcell) (Qm Y (Am (An (Ae ?_))))))))));exact Av Y Y (⟨Y,_,ov,Y,Y,hov,hc.1,hc.2.1,hc.2.2⟩)
 ·refine Ah (Ab (Ar (Qm Y (Qm Y (Qm Y (Am (Ac (Ar (Qm Y (Qm Y (Qf FG Y (Qf FT Y (Ql Y U3 (hP _) (Qx (oS Y) Y (Qm Y (Am (Ag ?_)))))))))))))))))
  refine Aw (fun q s h' ms'=>∃(e:Nat) (out pw y:Int),q=e/\s=[(0,.pointer (some ⟨g,0,none⟩)),(1,.int .i64 n),(5,.int .i64 out),(6,.int .i64 pw),(7,.int .i64 y)]/\h=h'/\ms'=[BR g p r c ev (ov.flatMap cI)]/\y=e/\e<=1000/\0<=out/\out<p/\0<=pw/\pw<p/\Cg p (out*pw^e) ((n:Int)^(p.toNat-2)))
   (p.toNat-2) _ ⟨p.toNat-2,1,(n:Int),p-2,rfl,rfl,rfl,rfl,by omega,by omega,by omega,by omega,by omega,by omega,by rw[Int.one_mul];exact Cg.refl _ _⟩ Qs ?_
  rintro e s h' ms' ⟨e',out,pw,y,rfl,rfl,rfl,rfl,rfl,he,o1,o2,q1,q2,hcg⟩;have b1:=J6 ⟨o1,o2⟩ ⟨q1,q2⟩ hb.2;have b2:=J6 ⟨q1,q2⟩ ⟨q1,q2⟩ hb.2;have m1:=Int.emod_nonneg (out*pw) (show p≠0 by omega);have m2:=Int.emod_lt_of_pos (out*pw) (show 0<p by omega);have m3:=Int.emod_nonneg (pw*pw) (show p≠0 by omega);have m4:=Int.emod_lt_of_pos (pw*pw) (show 0<p by omega);have hh:Cg p ((pw*pw%p)^(e/2)) ((pw*pw)^(e/2)):=Cg.pow (Cg.mod _ _) _;refine Ac (Ar (Qm Y (Qm Y (Am ?_))));refine Ap Y (fun hlt=>?_) (fun hlt=>?_)
  ·refine Ah (Ab (Ac (Ag (Ac (Ar (Qm Y (Qx (V0 Y Y Y (by omega)) Y (Qm Y (Am ?_)))))))));refine Ap Y (fun hodd=>?_) (fun hodd=>?_)
   ·refine Ad (Qm Y (Qm Y (Qx (oM Y) Y (Qm Y (Qm Y (Qf FG Y (Qf FT Y (Ql Y U3 (hP _) (Qx (BO Y Y Y (by omega) (by omega)) Y (Qm Y (GJ (Qm Y (Qm Y (Qx (oM Y) Y (Qm Y (Qm Y (Qf FG Y (Qf FT Y (Ql Y U3 (hP _) (Qx (BO Y Y Y (by omega) (by omega)) Y (Qm Y (Al (Ai (Ab (Ad (Qm Y (Qx (ME (n:=1) Y Y Y (by omega)) Y (Qm Y (Al ?_)))))))))))))))))))))))))))));refine Ak (e/2) _ (by omega) ⟨e/2,out*pw%p,pw*pw%p,((e/2:Nat):Int),Y,Y,Y,Y,Y,by omega,m1,m2,m3,m4,?_⟩ Qs;refine Cg.trans (Cg.mul (Cg.mod _ _) hh) (Cg.trans (Cg.of_eq ?_) hcg);rw[OD pw e,show e%2=1 by omega,Int.pow_succ,Int.pow_zero,Int.one_mul,Int.mul_assoc,Int.mul_comm pw]
   ·refine Ah (Ab (Ad (Qm Y (Qm Y (Qx (oM Y) Y (Qm Y (Qm Y (Qf FG Y (Qf FT Y (Ql Y U3 (hP _) (Qx (BO Y Y Y (by omega) (by omega)) Y (Qm Y (Al (Ai (Ab (Ad (Qm Y (Qx (ME (n:=1) Y Y Y (by omega)) Y (Qm Y (Al ?_))))))))))))))))))));refine Ak (e/2) _ (by omega) ⟨e/2,out,pw*pw%p,((e/2:Nat):Int),Y,Y,Y,Y,Y,by omega,o1,o2,m3,m4,?_⟩ Qs;refine Cg.trans (Cg.mul (Cg.refl _ _) hh) (Cg.trans (Cg.of_eq ?_) hcg);rw[OD pw e,show e%2=0 by omega,Int.pow_zero,Int.mul_one]
  ·obtain rfl:e=0:=by omega
   rw[Int.pow_zero,Int.mul_one]at hcg;have hinv:=YH hp h1n hn hcg
   have hout:0<out:=by
    rcases (by omega:out=0\/0<out) with h0|h0
    ·subst h0;simp at hinv
    ·exact h0
   refine As (Aa (Aa (Af (Ab (Ar (Qm Y (Qm Y (Qm Y (Qm Y (Qf M9 Y (Qx (F8 (n) Y ZL A5 Y Y (by omega) (by omega)) Y ?_)))))))))));refine AP 0 (4+n*1) Y A5 Y Y Y Y (BS _ _ _) (by show _<(_::_::_::_::_:List Value).length;simp only[List.length_cons,Bk Be,hl];omega) rfl rfl ?_;rw[AaE];refine BH (Qm Y (Qm Y (Am (An ?_))));exact Av Y Y (⟨Y,out,ov.set n out,Y,Y,hov.set hout o2 hinv,hout,o2,hinv⟩)
theorem UF(g:Nat)(p:Int)(r c:Nat)(ev:Value)(ov:List Int)(n:Int)(h:Hp)(hp:IsP p)(hov:Ovk p ov)(h1n:1<=n)(hn:n<p) :
  FnT Tryz.prog 226 #[.pointer (some ⟨g,0,none⟩),.int .i64 n] h [BR g p r c ev (ov.flatMap cI)] (fun x h' ms'=>h=h'/\∃(v:Int) (ov':List Int),x=.int .i64 v/\ms'=[BR g p r c ev (ov'.flatMap cI)]/\Ovk p ov'/\0<v/\v<p/\n*v%p=1):=by
 obtain⟨k,rfl⟩:=Int.eq_ofNat_of_zero_le (show 0<=n by omega);exact TR g p r c ev ov k h hp hov (by omega) hn
end Go.Proofs.Q

namespace Go.Proofs.Q
open Go.Proofs.Tryz
open Go.Eng Go.RowKit Go.Lin
theorem YE(t p k n:Int)(h:Hp)(hp:IsP p)(hn:0<=n/\n<p)(ht:0<=t/\t<p)(ms:List Hp) :
  FnV Tryz.prog 227 #[.agg #[.slice none 0 0,.int .i64 t,.int .i64 p],.int .i64 k,.int .i64 n] h ms (.int .i64 (n*t%p)):=by
 refine EO ?_ ms;have hb:2<=p/\p<=997:=⟨hp.1,hp.2.1⟩
 have b1:=J6 hn ht hb.2;refine Aq func227 ntmps227 Y Y (fun w0 hw0=>?_);simp only[AW];refine Ar (AV [_,_,_] Y Y (by rfl) Y Y Y (fun g3=>Qm Y (BH (Qm Y (Qf RW Y (Ql Y U3 (Cell.blk 0 Y Y) (Qx (oM Y) Y (Qf RI Y (Ql Y U3 (Cell.blk 0 Y Y) (Qx (BO Y Y Y (by omega) (by omega)) Y (Qm Y (Am (An ?_)))))))))))));exact Av Y Y (Y)
theorem AaH(r c:Nat)(F:Nat->Nat->Int)(ev:Value)(at_ k:Nat)(t p n:Int)(h:Hp)(hR:RdL cI 1 h [] ev (CI r c F))(ha:at_<r)(hk:k<c)(hp:IsP p)(hn:0<=n/\n<p)(hF:0<=F at_ k/\F at_ k<p)(ht:0<=t/\t<p) :
  FnV Tryz.prog 228 #[.agg #[B3 1 ev (at_*c) ((at_+1)*c),.int .i64 t,.int .i64 p],.int .i64 k,.int .i64 n] h [] (.int .i64 ((n+F at_ k*t)%p)):=by
 refine FnT.toV ?_;have hb:2<=p/\p<=997:=⟨hp.1,hp.2.1⟩
 have b1:=J6 hF ht hb.2;have hRa:=hR.row ha;have ea:=Cd c (F at_);refine Aq func228 ntmps228 Y Y (fun w0 hw0=>?_);simp only[AW];refine Ar (AV [_,_,_] Y Y (by rfl) Y Y Y (fun g3=>Qm Y (Am (Az fun h' hle hS=>?_))));have hRa:=hRa.up hle;have hA:=Seg.all hS;have hA0:=hA 0 _ Y;refine Ac (BM (n:=14) (bs:=[true,true,true,true,true,true,true,true,true,true,true,true,true,false]) [true,true,true,true,true,true,true,true,true,true,true,true,true] CW (by kernel_rfl) (by kernel_rfl) Y Y (Qq Y (QF Yc Y (QL Y AU (hA _ _ Y _) (Qq Y (Qp Y (BE (k) hRa.rd.any Y AU A5 Y Y) (QL Y U3 (hRa.any.ev hk) (QF RW Y (QL Y U3 (hA _ _ Y _) (Qp Y (oM Y) (Qp Y (oA Y) (QF RI Y (QL Y U3 (hA _ _ Y _) (Qp Y (BO Y Y Y (by omega) (by omega)) ?_))))))))))))));unfold FU;simp only[cons_append,nil_append];refine Qo 13 Y (Qm Y (Qw (Qe (Ab (An ?_)))));exact Av Y Y (Y)
theorem UU(l:List Int)(v:Value)(h:Hp)(hR:RdL cI 1 h [] v l)(hl:l.length<=1000000):FnT Tryz.prog 222 #[v] h [] (fun x h' ms'=>h=h'/\∃m,ms'=[m]/\OwnL cI 1 3 m x l):=by
 refine Aq func222 ntmps222 Y Y (fun w0 hw0=>?_);simp only[AW];refine Ar (Qm Y (Am (Ac (Ar (Qm Y (Qx (Kz hR.rd.any Y AU Y Y) Y (Am ?_)))))));refine Bx Y (fun hn=>?_) (fun hn=>?_)
 ·have h0:=Jx hR.rd hn;obtain rfl:l=[]:=List.eq_nil_of_length_eq_zero h0;refine Ar (Qm Y (Am (An (Ae (Jz ?_)))));exact Av Y Y (⟨Y,_,Y,OwnL.nil Be⟩)
 ·refine Ah (Ab (Ar ?_));refine Ax [] [] [] rfl AU A5 rfl (by omega) (by kernel_rfl) (by repeat (first|exact trivial|refine⟨⟨by first|rfl|exact(hR.rd.any).cells|exact Rd.cells ‹_›|exact(RdL.rd ‹_›).cells,rfl,rfl⟩,?_⟩)) rfl rfl rfl rfl (fun g5=>?_);refine Qm rfl ?_;have hO:OwnL cI 1 3 (Bl g5 3 []) (.slice (some ⟨g5,0,none⟩) 0 0) []:=OwnL.blk (l:=([]:List Int)) 0 Be rfl (by omega);refine AR 0 hO hR.any rfl AU A5 rfl (by omega) rfl rfl rfl B8 (by simp;omega) (by simp;omega) rfl rfl rfl (fun v' m' hO'=>?_);refine Qm rfl (Am (An ?_));exact Av rfl rfl (⟨rfl,m',rfl,hO'⟩)
theorem Aaz{o:Oper}{s:AC}{h:Hp}{ms:List Hp}{x:Operand}{p:Int}{r c:Nat}{ev':Value}(ho:o.op=.build 255 #[(0,x)])(hx:ev s x=some (.agg #[.int .i64 p,.int .i64 r,.int .i64 c,ev']))(h1:ev'.oneCell'=true) :
  OX Tryz.prog o s h ms (.agg (cR p r c ev' (replicate 998 (.int .i64 0))).toArray):=
 A4 Aa5 ([.int .i64 0,.int .i64 0,.int .i64 0,.slice none 0 0]++replicate 998 (.int .i64 0)) [(0,[.int .i64 p,.int .i64 r,.int .i64 c,ev'])] _ (lp:=[(0,x)]) (vs:=[(0,.agg #[.int .i64 p,.int .i64 r,.int .i64 c,ev'])]) ho Aa1 (by kernel_rfl) (by simp only[ZH,hx]) ⟨⟨rfl,rfl,rfl⟩,trivial⟩ rfl
def Xw(pv:List Nat):List Int:=pv.map fun(k:Nat)=>(k:Int)
theorem NS(pv:List Nat):(Xw pv).length=pv.length:=by simp[Xw]
theorem U6{h:Hp}{ms:List Hp}{m2:Hp}{vp:Value}{pv:List Nat}(O:OwnL cI 1 3 m2 vp (Xw pv))(hm:m2∈ms):Rd h ms vp 1 pv.length ((Xw pv).flatMap cI):=by
 have:=(O.rd (h:=h) hm).rd
 rwa [NS]at this
theorem Abz(p:Int):Ovk p (replicate 998 0):=⟨length_replicate,fun n hn=>.inl (List.getElem_replicate _)⟩
def Mf(p:Int)(t i j:Nat)(v:Int)(F:Nat->Nat->Int)(k a b:Nat):Int:=if a<k then QG p t i j v F a b else Ey p t i v F a b
theorem Zp(p:Int)(t i j:Nat)(v:Int)(F:Nat->Nat->Int)(k b:Nat):Mf p t i j v F k t b=Ey p t i v F t b:=by
 unfold Mf;split
 ·unfold QG;rw[if_pos rfl]
 ·rfl
theorem RA(p:Int)(t i j:Nat)(v:Int)(F:Nat->Nat->Int)(k b:Nat):Mf p t i j v F k k b=Ey p t i v F k b:=if_neg (by omega)
theorem U7(p:Int)(t i j:Nat)(v:Int)(F:Nat->Nat->Int)(k a b:Nat)(hk:k≠t):(if a=k then(Ey p t i v F k b+Ey p t i v F t b*(p-Ey p t i v F k j))%p else Mf p t i j v F k a b)=Mf p t i j v F (k+1) a b:=by
 unfold Mf;by_cases h:a=k
 ·subst h;rw[if_pos rfl,if_pos (by omega)];unfold QG;rw[if_neg hk]
 ·rw[if_neg h];by_cases h2:a<k
  ·rw[if_pos h2,if_pos (by omega)]
  ·rw[if_neg h2,if_neg (by omega)]
theorem OU(p:Int)(t i j:Nat)(v:Int)(F:Nat->Nat->Int)(k a b:Nat)(h:k=t\/(Ey p t i v F k j=0/\0<=Ey p t i v F k b/\Ey p t i v F k b<p)):Mf p t i j v F k a b=Mf p t i j v F (k+1) a b:=by
 unfold Mf;by_cases h1:a<k
 ·rw[if_pos h1,if_pos (by omega)]
 ·rw[if_neg h1];by_cases h2:a=k
  ·subst h2;rw[if_pos (by omega)];unfold QG;rcases h with rfl|⟨h3,h4,h5⟩
   ·rw[if_pos rfl]
   ·by_cases h6:a=t
    ·rw[if_pos h6,h6]
    ·rw[if_neg h6,h3,Int.sub_zero,Int.add_mul_emod_self_right,Int.emod_eq_of_lt h4 h5]
  ·rw[if_neg (by omega)]
theorem Vy(p:Int)(t i j:Nat)(v:Int)(F:Nat->Nat->Int)(a b:Nat):(if a=t then F (Hs t i t) b*v%p else F (Hs t i a) b)=Mf p t i j v F 0 a b:=by unfold Mf Ey;rw[if_neg (show ¬a<0 by omega)]
theorem YP(p:Int)(t i j:Nat)(v:Int)(F:Nat->Nat->Int)(r a b:Nat)(ha:a<r):Mf p t i j v F r a b=QG p t i j v F a b:=if_pos ha
theorem Aab{p:Int}(hp:2<=p){r c t i:Nat}{v:Int}{F:Nat->Nat->Int}(ht:t<r)(hi:i<r)(hF:∀a,a<r->∀b,b<c->0<=F a b/\F a b<p)(a:Nat)(ha:a<r)(b:Nat)(hb:b<c):0<=Ey p t i v F a b/\Ey p t i v F a b<p:=by
 unfold Ey;split
 ·exact⟨Int.emod_nonneg _ (by omega),Int.emod_lt_of_pos _ (by omega)⟩
 ·exact hF _ (Hd ht hi ha) b hb
theorem UB(pv:List Nat)(j:Nat):Xw pv++[(j:Int)]=Xw (pv++[j]):=by simp[Xw]
theorem Yr{h:Hp}{ms:List Hp}{g:Nat}{p:Int}{r c:Nat}{ev:Value}{ov:List Value}(hm:ms[0]?=some (BR g p r c ev ov)):Seg h ms ((⟨g,0,none⟩:Addr).add 0) [.int .i64 p,.int .i64 r,.int .i64 c,ev]:=fun k u hu=>by
 rw[BS,Nat.zero_add];refine Cell.blk 0 hm ?_;rcases k with _|_|_|_|k
 ·exact hu
 ·exact hu
 ·exact hu
 ·exact hu
 ·simp at hu
structure Ech(p:Int)(r c:Nat)(f F:Nat->Nat->Int)(pv:List Nat):Prop where
 red:Go.Lin.Red p r c f F pv c
theorem QR(p:Int)(r c:Nat)(f:Nat->Nat->Int)(ev:Value)(h:Hp)(hp:IsP p)(hr:r<=400)(hc:c<=800)(hf:InP p r c f)(hR:RdL cI 1 h [] ev (CI r c f)) :
  FnT Tryz.prog 184 #[.agg #[.int .i64 p,.int .i64 r,.int .i64 c,ev]] h [] (fun x h' ms'=>h.le h'/\∃(F:Nat->Nat->Int) (pv:List Nat) (eu vp:Value) (m m2:Hp),x=.tuple #[.agg #[.int .i64 p,.int .i64 r,.int .i64 c,eu],vp]/\ms'=[m,m2]/\OwnL cI 1 3 m eu (CI r c F)/\OwnL cI 1 3 m2 vp (Xw pv)/\Ech p r c f F pv):=by
 have hb:2<=p/\p<=997:=⟨hp.1,hp.2.1⟩
 have e1:=hR.rd.one;have b2:r*c<=400*800:=Nat.mul_le_mul hr hc;have el:(CI r c f).length=r*c:=Cy _ _ _;refine Aq func184 ntmps184 Y Y (fun w0 hw0=>?_);simp only[AW];refine Ar (AV [_,_,_,_] Y Y (by rfl) Y Y Y (fun g1=>CG [.int .i64 0,.int .i64 0,.int .i64 0,.slice none 0 0] Y BF Y Y (fun g2=>Qm Y (Am (VD (Ar (Qf Di Y (Ql Y AU (Cell.blk 1 Y Y) (Qc call222 Y (UU (CI r c f) ev h hR (by omega)) (fun eu h1 ms1 l1 hF=>?_))))))))));obtain⟨rfl,m,rfl,hO⟩:=hF;have e2:=hO.o1;refine Qf Di Y ?_;refine AP 2 _ Y Cv Y Y (by assumption) Y Y (by(simp;done)) rfl rfl ?_;refine Am (Bp 2 Y fun h' hle hS=>?_);have hA:=Seg.all hS;have hA0:=hA 0 _ Y;refine Ar (Qx (oG Y Jt BF (Seg.any hS)) Y (Qx (Aaz Y Y e2) Y (AV (cR p r c eu (replicate 998 (.int .i64 0))) Y Y Y Y Y Y (fun g17=>?_))));rw[WU];refine Qm Y (BH (Qm Y (Am (Ac (W5 (Ab (BG (II (ms':=[BR g17 p r c eu ((replicate 998 0).flatMap cI),m,Hp.emp,Bl g2 65 [.int .i64 0,.int .i64 0,.int .i64 0,.slice none 0 0]]) ((List.Perm.swap _ _ _).trans ((List.Perm.swap _ _ _).cons _)) (Ac (Ar (Qf Ia Y (Ql Y U3 (hA _ _ Y _) (Qm Y (Am (Ag ?_)))))))))))))))
 refine Aw (fun q s hh ms'=>∃(j:Nat) (F:Nat->Nat->Int) (pv:List Nat) (vp:Value) (ov:List Int) (m m2:Hp),q=c-j/\s=[(1,.pointer (some ⟨g1,0,none⟩)),(2,.pointer (some ⟨g2,0,none⟩)),(4,.pointer (some ⟨g17,0,none⟩)),(5,vp),(19,.int .i64 c),(20,.int .i64 j)]/\h'=hh/\ms'=[BR g17 p r c eu (ov.flatMap cI),m,m2,Bl g2 65 [.int .i64 0,.int .i64 0,.int .i64 0,.slice none 0 0]]/\j<=c/\OwnL cI 1 3 m eu (CI r c F)/\OwnL cI 1 3 m2 vp (Xw pv)/\Go.Lin.Red p r c f F pv j/\Ovk p ov)
  (c-0) _ ⟨0,f,[],_,replicate 998 0,m,_,rfl,rfl,rfl,rfl,by omega,hO,OwnL.nil Be,Go.Lin.Red.start hf,Abz p⟩ Qs ?_
 rintro q s hh ms' ⟨j,F,pv,vp,ov,m,m2,rfl,rfl,rfl,rfl,hj,hO,hO2,hRed,hov⟩;have hP:=fun ms hm=>U6 (h:=h') (ms:=ms) hO2 hm;have ovp:=(hP [m2] Mh).one;have hlr:=hRed.len;refine Ar (Qm Y (Am (Ac ?_)));refine Ap Y (fun hlt=>?_) (fun hlt=>?_)
 ·have hjc:j<c:=by omega
  refine Ah (Ab (Ac (Ag (Ar (Qm Y (Qm Y (BH (Qm Y (Qx (Au (hP _ (List.Mem.tail _ (List.Mem.tail _ Mh))) Y AU Y) Y (Qm Y (BH (Qm Y (Qm Y (Am (Ag ?_)))))))))))))))
  refine Aw (fun q s hh ms'=>∃(i:Nat),q=r-i/\s=[(1,.pointer (some ⟨g1,0,none⟩)),(2,.pointer (some ⟨g2,0,none⟩)),(4,.pointer (some ⟨g17,0,none⟩)),(5,vp),(6,.int .i64 j),(7,.int .i64 pv.length),(8,.int .i64 i),(19,.int .i64 c),(20,.int .i64 j)]/\h'=hh/\ms'=[BR g17 p r c eu (ov.flatMap cI),m,m2,Bl g2 65 [.int .i64 0,.int .i64 0,.int .i64 0,.slice none 0 0]]/\pv.length<=i/\i<=r/\∀a,pv.length<=a->a<i->F a j=0)
   (r-pv.length) _ ⟨pv.length,rfl,rfl,rfl,rfl,by omega,by omega,fun a h1 h2=>by omega⟩ Qs ?_
  rintro q s hh ms' ⟨i,rfl,rfl,rfl,rfl,hli,hir,hno⟩;have hRow:=fun i hi=>(hO.rd (h:=h') (ms:=[m]) Mh).row (i:=i) hi;have hcell:∀i,i<r->∀ms,m∈ms->Cell h' ms ((AE (B3 1 eu (i*c) ((i+1)*c))).add (j*1)) (.int .i64 (F i j)):=fun i hi ms hm=>((hO.rd (h:=h') hm).row hi).ev hjc;refine Ac (Ar (Qm Y (Qf Jy Y (Ql Y U3 (hA _ _ Y _) (Qm Y (Am ?_))))));refine Ap Y (fun hlt2=>?_) (fun hlt2=>?_)
  ·have hi:i<r:=by omega
   have ec:=Cd c (F i);refine Ah (Ab (Ac (Ag (Ac (Ar (Qm Y (Qm Y (Qx (AI Y call223 Y (Cn fun h' hl hm=>JC g17 p r c F eu _ _ h' (Seg.ofLe (hm _ Mh)) (hO.rdh (hm _ (List.Mem.tail _ Mh))) (by assumption) hr hc)) Y (Qm Y (Qx (BI (j) (hRow i hi).rd Y AU A5 Y Y (by omega) (by omega)) Y (Ql Y U3 (hcell i hi _ (List.Mem.tail _ Mh)) (Qm Y (Am ?_)))))))))))));refine Ap Y (fun hz=>?_) (fun hz=>?_)
   ·refine As (Aa (Af (Ab (Ad (Qm Y (Qx (oA Y) Y (Qm Y (Al ?_))))))));refine Ak (r-(i+1)) _ (by omega) ⟨i+1,Y,Y,Y,Y,by omega,by omega,fun a h1 h2=>?_⟩ Qs;rcases (by omega:a<i\/a=i) with h3|rfl
    ·exact hno a h1 h3
    ·exact hz
   ·have ht:pv.length<r:=by omega
    refine Ah (Ab (Ar (Qm Y (Qm Y (Qm Y ?_)))));have hFi:=hRed.bd i hi j hjc;have hd0:=hRed.bd;have hsi:Hs pv.length i pv.length=i:=by simp[Hs]
    refine Ba (pre:=[BR g17 p r c eu (ov.flatMap cI),m]) Y call224 Y (YF g17 p r c F eu _ m pv.length i h' hO ht hi hr hc) Y Y Y Y (fun x h2 ms2 l2 hF=>?_);obtain⟨rfl,m,rfl,hO⟩:=hF
    have hcell1:∀ms,m∈ms->Cell h' ms ((AE (B3 1 eu (pv.length*c) ((pv.length+1)*c))).add (j*1)) (.int .i64 (F i j)):=fun ms hm=>by have:=((hO.rd (h:=h') hm).row ht).ev hjc;rw[hsi]at this;exact this
    have hRow1:=fun i hi=>(hO.rd (h:=h') (ms:=[m]) Mh).row (i:=i) hi;have ec1:=Cd c (fun b=>F (Hs pv.length i pv.length) b);refine Am (Ac (BM (n:=16) (bs:=[true,true,false,true,true,true,false,true,false,false,false,true,true,false,false,false]) [true,true,false,true,true,true,false,true,false,false,false,true,true] CW (by kernel_rfl) (by kernel_rfl) rfl rfl (Qq rfl (Qq rfl (Qq rfl (Qq rfl (Qq rfl (Qq rfl (QF FT rfl (QL rfl U3 (hA0 _) ?_))))))))));unfold FU;simp only[cons_append,nil_append];refine Qo 2 rfl (Qx (AI rfl call223 rfl (Cn fun h' hl hm=>JC g17 p r c (fun a b=>F (Hs pv.length i a) b) eu _ _ h' (Seg.ofLe (hm _ Mh)) (hO.rdh (hm _ (List.Mem.tail _ Mh))) (by assumption) hr hc)) rfl (Qw (Qo 6 rfl (Qx (AI rfl call223 rfl (Cn fun h' hl hm=>JC g17 p r c (fun a b=>F (Hs pv.length i a) b) eu _ _ h' (Seg.ofLe (hm _ Mh)) (hO.rdh (hm _ (List.Mem.tail _ Mh))) (by assumption) hr hc)) rfl (Qw (Qo 8 rfl (Qx (BI (j) (hRow1 pv.length ht).rd rfl AU A5 rfl rfl (by omega) (by omega)) rfl (Qw (Qo 9 rfl (Ql rfl U3 (hcell1 _ (List.Mem.tail _ Mh)) (Qw (Qo 10 rfl (Ba (pre:=[BR g17 p r c eu (ov.flatMap cI)]) rfl call226 rfl (UF g17 p r c eu ov (F i j) h' hp hov (by omega) (by omega)) rfl rfl rfl rfl (fun x h2 ms2 l2 hv=>?_))))))))))))));obtain⟨rfl,v,ov,rfl,rfl,hov,hv0,hvp,hv1⟩:=hv;refine Qw (Qo 13 rfl ?_);refine Qx (A4 Zw [.slice none 0 0,.int .i64 0,.int .i64 0] [(0,_),(1,_),(2,_)] [_,_,_] rfl ZA rfl rfl (by repeat (first|exact trivial|refine⟨⟨rfl,rfl,rfl⟩,?_⟩|refine⟨⟨((hRow1 pv.length ht).rd).cells,rfl,rfl⟩,?_⟩)) rfl) rfl ?_;refine Qw (Qo 14 rfl (Qx (BV rfl rfl rfl) rfl (Qw (Qo 15 rfl (J9 ?_)))));refine Ba (pre:=[m]) rfl call225 rfl (Pw r c (fun a b=>F (Hs pv.length i a) b) pv.length (fun b=>F (Hs pv.length i pv.length) b*v%p) eu m 227 [.agg #[.slice none 0 0,.int .i64 v,.int .i64 p]] h' hO ht hr hc call227 (fun k hk m' hO'=>YE v p k _ h' hp (hd0 _ (by rw[hsi];exact hi) k hk) ⟨Int.le_of_lt hv0,hvp⟩ _)) rfl rfl rfl rfl (fun x h2 ms2 l2 hE=>?_);obtain⟨rfl,m,rfl,hO⟩:=hE;refine J9 (Qw (Qe (Ab (Ac (Ar (Qf Jy rfl (Ql rfl U3 (hA _ _ rfl _) (Qm rfl (Am (Ag ?_))))))))));have hb2:=Aab (v:=v) hb.1 ht hi hd0
    refine Aw (fun q s hh ms'=>∃(k:Nat) (m:Hp),q=r-k/\s=[(1,.pointer (some ⟨g1,0,none⟩)),(2,.pointer (some ⟨g2,0,none⟩)),(4,.pointer (some ⟨g17,0,none⟩)),(5,vp),(6,.int .i64 j),(7,.int .i64 pv.length),(19,.int .i64 c),(20,.int .i64 j),(60,.int .i64 r),(61,.int .i64 k)]/\h'=hh/\ms'=[BR g17 p r c eu (ov.flatMap cI),m,m2,Bl g2 65 [.int .i64 0,.int .i64 0,.int .i64 0,.slice none 0 0]]/\k<=r/\OwnL cI 1 3 m eu (CI r c (Mf p pv.length i j v F k)))
     (r-0) _ ⟨0,m,rfl,rfl,rfl,rfl,by omega,by rw[Bg (fun a _ b _=>Vy p pv.length i j v F a b)]at hO;exact hO⟩ Qs ?_
    rintro q s hh ms' ⟨k,m,rfl,rfl,rfl,rfl,hkr,hO⟩;have hcell2:∀a,a<r->∀ms,m∈ms->Cell h' ms ((AE (B3 1 eu (a*c) ((a+1)*c))).add (j*1)) (.int .i64 (Mf p pv.length i j v F k a j)):=fun a ha ms hm=>((hO.rd (h:=h') hm).row ha).ev hjc;have hRow2:=fun i hi=>(hO.rd (h:=h') (ms:=[m]) Mh).row (i:=i) hi;refine Ar (Qm Y (Am (Ac ?_)));refine Ap Y (fun hltk=>?_) (fun hltk=>?_)
    ·have hk:k<r:=by omega
     have eck:=Cd c (Mf p pv.length i j v F k k);have hn:=hb2 k hk j hjc;have hkk:=RA p pv.length i j v F k;refine Ah (Ab (Ac (Ag (Ar (Qm Y (Qm Y (BH (Qm Y (Qm Y (Qx (AI Y call223 Y (Cn fun h' hl hm=>JC g17 p r c (Mf p pv.length i j v F k) eu _ _ h' (Seg.ofLe (hm _ Mh)) (hO.rdh (hm _ (List.Mem.tail _ Mh))) (by assumption) hr hc)) Y (Qm Y (Qx (BI (j) (hRow2 k hk).rd Y AU A5 Y Y (by omega) (by omega)) Y (Ql Y U3 ((hkk j ▸ hcell2 k hk _ (List.Mem.tail _ Mh))) (Qm Y (BH (Qm Y (Qm Y (Qm Y (Qm Y ?_)))))))))))))))))));refine AN (t:=73) Y (fun hkt=>?_) (fun hkt=>?_)
     ·have hkt':k≠pv.length:=by omega
      refine Qg (Ay Y Y) Y (Qg (Cu Y Y Y) Y (Qm Y (Am ?_)));refine Ap Y (fun hn0=>?_) (fun hn0=>?_)
      ·refine BM (n:=15) (bs:=[true,true,false,true,true,false,true,true,true,true,true,true,false,false,false]) [true,true,false,true,true,false,true,true,true,true,true,true] CW (by kernel_rfl) (by kernel_rfl) rfl rfl (Qq rfl (Qq rfl (Qq rfl (Qq rfl (QF FT rfl (QL rfl U3 (hA0 _) (Qq rfl (Qp rfl (oS rfl) (QF FT rfl (QL rfl U3 (hA0 _) ?_))))))))));unfold FU;simp only[cons_append,nil_append];refine Qo 2 rfl (Qx (AI rfl call223 rfl (Cn fun h' hl hm=>JC g17 p r c (Mf p pv.length i j v F k) eu _ _ h' (Seg.ofLe (hm _ Mh)) (hO.rdh (hm _ (List.Mem.tail _ Mh))) (by assumption) hr hc)) rfl (Qw (Qo 5 rfl (Qx (AI rfl call223 rfl (Cn fun h' hl hm=>JC g17 p r c (Mf p pv.length i j v F k) eu _ _ h' (Seg.ofLe (hm _ Mh)) (hO.rdh (hm _ (List.Mem.tail _ Mh))) (by assumption) hr hc)) rfl (Qw (Qo 12 rfl ?_))))));refine Qx (A4 Zw [.slice none 0 0,.int .i64 0,.int .i64 0] [(0,_),(1,_),(2,_)] [_,_,_] rfl ZA rfl rfl (by repeat (first|exact trivial|refine⟨⟨rfl,rfl,rfl⟩,?_⟩|refine⟨⟨((hRow2 pv.length ht).rd).cells,rfl,rfl⟩,?_⟩)) rfl) rfl ?_;refine Qw (Qo 13 rfl (Qx (BV rfl rfl rfl) rfl (Qw (Qo 14 rfl (J9 ?_)))));refine Ba (pre:=[m]) rfl call225 rfl (Pw r c (Mf p pv.length i j v F k) k (fun b=>(Ey p pv.length i v F k b+Ey p pv.length i v F pv.length b*(p-Ey p pv.length i v F k j))%p) eu m 228 [.agg #[B3 1 eu (pv.length*c) ((pv.length+1)*c),.int .i64 (p-Ey p pv.length i v F k j),.int .i64 p]] h' hO hk hr hc call228 (fun b hbc m' hO'=>Cn fun h'' hl hm=>by have:=AaH r c _ eu pv.length b (p-Ey p pv.length i v F k j) p (Mf p pv.length i j v F k k b) h'' (hO'.rdh (hm _ Mh)) ht hbc hp (by rw[RA];exact hb2 k hk b hbc) (by rw[turn_ne _ _ _ _ _ _ (Ne.symm hkt'),Zp];exact hb2 _ ht b hbc) (by omega);rw[turn_ne _ _ _ _ _ _ (Ne.symm hkt'),Zp,RA]at this;rw[RA];exact this)) rfl rfl rfl rfl (fun x h2 ms2 l2 hE=>?_);obtain⟨rfl,m,rfl,hO⟩:=hE;refine J9 (Qw (Qe (Ai (Ab (Ad (Qx (oA rfl) rfl (Qm rfl (Al ?_))))))));refine Ak (r-(k+1)) _ (by omega) ⟨k+1,m,rfl,rfl,rfl,rfl,by omega,by rw[Bg (fun a _ b _=>U7 p pv.length i j v F k a b hkt')]at hO;exact hO⟩ Qs
      ·refine Ah (Ai (Ab (Ad (Qx (oA Y) Y (Qm Y (Al ?_))))));refine Ak (r-(k+1)) _ (by omega) ⟨k+1,m,Y,Y,Y,Y,by omega,?_⟩ Qs;rw[Bg (fun a _ b hbc=>OU p pv.length i j v F k a b (.inr ⟨by omega,hb2 k hk b hbc⟩))]at hO;exact hO
     ·refine Qk Y (Qk Y (Qm Y (Am (AQ Y (Ah (Ai (Ab (Ad (Qx (oA Y) Y (Qm Y (Al ?_)))))))))));refine Ak (r-(k+1)) _ (by omega) ⟨k+1,m,Y,Y,Y,Y,by omega,?_⟩ Qs;rw[Bg (fun a _ b hbc=>OU p pv.length i j v F k a b (.inl (by omega)))]at hO;exact hO
    ·obtain rfl:k=r:=by omega
     refine As (Aa (Aa (Af (Ab (Ar (Qm Y (Qm Y (Ao [_] Y AU A5 Y (by rfl) Y Y (by omega) Y Y Y (fun g95=>AR 3 hO2 (RdL.one Be Mh Y) Y AU A5 Y (by omega) Y Y Y B8 (by simp only[NS,length_singleton];omega) (by simp only[NS,length_singleton];omega) rfl rfl rfl (fun vp' m2' hO2'=>?_))))))))));rw[UB]at hO2';refine Qm Y (Am (As (Ek Y (Aa (Aa (Ek Y (Af (Ab (Ad (Qx (oA Y) Y (Qm Y (Al (AO ?_)))))))))))));refine Ak (c-(j+1)) _ (by omega) ⟨j+1,QG p pv.length i j v F,pv++[j],vp',ov,m,m2',Y,Y,Y,Y,by omega,by rw[Bg (fun a ha b _=>YP p pv.length i j v F k a b ha)]at hO;exact hO,hO2',hRed.step hb.1 hi hli hjc hv1,hov⟩ Qs
  ·refine As (Aa (Aa (Af (Ai (Ab (Ad (Qx (oA Y) Y (Qm Y (Al ?_)))))))));refine Ak (c-(j+1)) _ (by omega) ⟨j+1,F,pv,vp,ov,m,m2,Y,Y,Y,Y,by omega,hO,hO2,hRed.skip fun a ha hl=>hno a hl (by omega),hov⟩ Qs
 ·obtain rfl:j=c:=by omega
  refine As (Aa (Aa (Af (Ab (Ar (Qm Y (Qm Y (Qf FG Y (Qx (oG Y Jt BF (Yr Y)) Y (Qm Y ?_))))))))));refine Sa 3 [_,_,_,_] BF Y (by simp[e2]) ?_;refine Qm Y (Am (An (M1 (AO ?_))));exact F5 (vs:=[_,_,_,_]) 2 Y Y Y Jt Y BF Y Y (⟨AJ l1 hle,F,pv,eu,vp,m,m2,Y,Y,hO,hO2,⟨hRed⟩⟩)
theorem Ro(p:Int)(r c:Nat)(f:Nat->Nat->Int)(ev:Value)(h:Hp)(R:RtM p r c f)(hR:RdL cI 1 h [] ev (CI r c f)) :
  FnT Tryz.prog 124 #[.agg #[.int .i64 p,.int .i64 r,.int .i64 c,ev]] h [] (fun x h' ms'=>h.le h'/\∃(F:Nat->Nat->Int) (pv:List Nat) (eu vp:Value) (m m2:Hp),x=.tuple #[.agg #[.int .i64 p,.int .i64 r,.int .i64 c,eu],vp]/\ms'=[m,m2]/\OwnL cI 1 3 m eu (CI r c F)/\OwnL cI 1 3 m2 vp (Xw pv)/\Ech p r c f F pv):=by
 refine Aq func124 ntmps124 Y Y (fun w0 hw0=>?_);simp only[AW];refine Ar (AV [_,_,_,_] Y Y (by rfl) Y Y Y (fun g1=>CG [.int .i64 0,.int .i64 0,.int .i64 0,.slice none 0 0] Y BF Y Y (fun g2=>Qm Y (Am (Ac (Ar (Qx (oG Y Jt BF (Seg.blk 1 Y)) Y (Qx (AI Y call183 Y (Yx R hR _)) Y (Qm Y (Am (AQ Y (Ah (Ab (Ar (Qx (oG Y Jt BF (Seg.blk 1 Y)) Y ?_)))))))))))))));refine Qc call184 Y (QR p r c f ev h R.pr R.rl (by have:=R.cl;omega) R.en hR) (fun x h1 ms1 l1 hF=>?_);obtain⟨l2,F,pv,eu,vp,m,m2,rfl,rfl,hO,hO2,hE⟩:=hF;have oe:=hO.o1;refine Qm Y (Qm Y ?_);refine Sa 2 [_,_,_,_] BF Y (by simp[oe]) ?_;refine Qm Y (Am (An (A3 3 Y ?_)));exact F5 (vs:=[_,_,_,_]) 2 Y Y Y Jt Y BF Y Y (⟨l1,F,pv,eu,vp,m,m2,Y,Y,hO,hO2,hE⟩)
theorem UT(p:Int)(r c:Nat)(f:Nat->Nat->Int)(ev:Value)(h:Hp)(R:RtM p r c f)(hR:RdL cI 1 h [] ev (CI r c f)) :
  FnT Tryz.prog 59 #[.agg #[.int .i64 p,.int .i64 r,.int .i64 c,ev]] h [] (fun x h' ms'=>h.le h'/\ms'=[]/\∃(F:Nat->Nat->Int) (pv:List Nat),x=.int .i64 pv.length/\Ech p r c f F pv):=by
 refine Aq func59 ntmps59 Y Y (fun w0 hw0=>?_);simp only[AW];refine Ar (AV [_,_,_,_] Y Y (by rfl) Y Y Y (fun g1=>Qm Y (BH (Qx (oG Y Jt BF (Seg.blk 0 Y)) Y (Qc call124 Y (Ro p r c f ev h R hR) (fun x h1 ms1 l1 hF=>?_))))));obtain⟨l2,F,pv,eu,vp,m,m2,rfl,rfl,hO,hO2,hE⟩:=hF;have oe:=hO.o1;refine Qm Y (Qm Y (Qm Y (CG [.int .i64 0,.int .i64 0,.int .i64 0,.slice none 0 0] Y BF Y Y (fun g3=>?_))));refine Sa 0 [_,_,_,_] BF Y (by simp[oe]) ?_;refine Qm Y (BH (Qm Y (Qx (Ef (U6 (h:=h) (ms:=[m2]) hO2 Mh) Y AU Y) Y (Qm Y (Am (An (A3 3 Y (A3 2 Y (A3 1 Y (A3 0 Y ?_))))))))));exact Av Y Y (⟨l1,Y,F,pv,Y,hE⟩)
def Gf(l:List Nat):List Nat:=(l.reverse.dropWhile (·==0)).reverse
theorem Lk(l:List Nat):Gf (l++[0])=Gf l:=by simp[Gf]
theorem FA{a:Nat}(l:List Nat)(h:a≠0):Gf (l++[a])=l++[a]:=by simp[Gf,h]
theorem FQ(l:List Nat)(v:Value)(h:Hp)(R:RdL Ct 1 h [] v l)(hl:l.length<=1000000) :
  FnT Tryz.prog 229 #[v] h [] (fun r h' ms'=>h.le h'/\ms'=[]/\RdL Ct 1 h' [] r (Gf l)):=by
 refine Aq func229 ntmps229 Y Y (fun w0 hw0=>?_);simp only[AW];refine Ar (Qm Y (Am (Ac (Ag ?_))))
 refine Aw (fun q sl h' ms'=>∃(k:Nat) (u:Value),k=q/\sl=[(0,u),(2,.slice none 0 0)]/\h=h'/\ms'=[]/\k<=l.length/\RdL Ct 1 h [] u (l.take k)/\Gf (l.take k)=Gf l)
  l.length _ ⟨l.length,v,rfl,rfl,rfl,rfl,Nat.le_refl _,by rw[take_length];exact R,by rw[take_length]⟩ Qs ?_
 rintro q sl h' ms' ⟨k,u,rfl,rfl,rfl,rfl,hk,hR,hs⟩;have hkl:(l.take k).length=k:=by rw[length_take];omega
 refine Ac (Ar (Qm Y (Qx (Au hR.rd.any Y BZ Y) Y (Qm Y (Qm Y ?_)))));refine AN (t:=6) Y (fun h1=>?_) (fun h1=>?_)
 ·have hk0:0<k:=by have:=CD h1;omega
  obtain⟨a,ha⟩:∃a,l[k-1]'(by omega)=a:=⟨_,Y⟩
  have hkt:l.take k=l.take (k-1)++[a]:=by have:=take_succ_eq_append_getElem (l:=l) (i:=k-1) (by omega);rw[ha,show k-1+1=k by omega]at this;exact this
  have hc:Cell h [] ((AE u).add ((k-1)*1)) (.int .u64 (a:Int)):=by
   have hk1:k-1<(l.take k).length:=by omega
   have e:(l.take k)[k-1]=a:=by rw[List.getElem_take];exact ha
   exact hR.cell0 hk1 (by rw[e];rfl)
  refine Qg (Ay Y Y) Y (Qg (Ay Y Y) Y (Qg (Au hR.rd.any Y BZ Y) Y (Qg (oS Y) Y (Qg (BE (k-1) hR.rd.any Y BZ Cs Y Y) Y (Qg (oL Y FX (hc)) Y (Qg (C6 Y Y Y) Y (Qm Y (Am ?_))))))));refine Ap Y (fun h2=>?_) (fun h2=>?_)
  ·have ha0:a=0:=by omega
   refine Ah (Ab (Ag (Ad (Qm Y (Qm Y (Qx (Au hR.rd.any Y BZ Y) Y (Qx (oS Y) Y (Qx (ET (k-1) hR.rd.any Y BZ Cs Y Y (by omega) (by omega)) Y (Qm Y (Al (Ai ?_)))))))))))
   exact Ak (k-1) _ (by omega) ⟨k-1,B3 1 u 0 (k-1),Y,Y,Y,Y,by omega,by
    have:=RdL.sub_ hR (i:=0) (j:=k-1) (by omega) (by rw[hkl];omega)
    simpa[List.take_take,Nat.min_eq_left (show k-1<=k by omega)] using this,by rw[<-hs,hkt,ha0,Lk]⟩ Qs
  ·have ha0:a≠0:=by omega
   refine As (Aa (Aa (Af (Ab (Ar (Qm Y (Qm Y (Am (An ?_)))))))));exact Av Y Y (⟨DT,Y,by rw[<-hs,hkt,FA _ ha0,<-hkt];exact hR⟩)
 ·have hk0:k=0:=by omega
  subst hk0;refine Qk Y (Qk Y (Qk Y (Qk Y (Qk Y (Qk Y (Qk Y (Qm Y (Am (AQ Y (As (Aa (Aa (Af (Ab (Ar (Qm Y (Qm Y (Am (An ?_)))))))))))))))))));exact Av Y Y (⟨DT,Y,by rw[<-hs];exact hR⟩)
theorem Abl(b:UInt8):b.toNat<256:=b.toNat_lt
theorem YI(neg:Bool)(h:Hp):FnT Tryz.prog 187 #[.agg #[.bool neg,sv []]] h [] (fun r h' ms'=>h.le h'/\ms'=[]/\RdL Ct 1 h' [] r []):=by
 refine Aq func187 ntmps187 Y Y (fun w0 hw0=>?_);simp only[AW];refine Ar (AV [_,_] Y Y (by rfl) Y Y Y (fun g1=>Qm Y (Am (Az fun h1 l1 hS=>?_))));have e1:∀ms,Cell h1 ms ((⟨g1,0,none⟩:Addr).add 1) (sv []):=fun ms=>(hS 1 _ Y).any;refine Ar (Qf HC Y (Ql Y U9 (e1 _) (Qx (Fl 0 Y Y U9 Y) Y (Qx (oA Y) Y (Qx (oS Y) Y (Qx (Gx Y Y Y (by omega) (by omega)) Y (CN (n:=0) Y BZ Cs Y Y Y (by rfl) (by rfl) (by omega) (by omega) Y Y Y (fun g12=>Qm Y (Am (Ac (Ar (Qf HC Y (Ql Y U9 (e1 _) (Qx (Fl 0 Y Y U9 Y) Y (Qm Y (Am (Ag (Aw (fun q sl h' ms'=>q=0/\sl=[(1,.pointer (some ⟨g1,0,none⟩)),(3,.slice (some ⟨g12,0,none⟩) 0 0),(15,.int .i64 ((0:Nat):Int)),(16,.int .i64 0)]/\h1=h'/\ms'=[Bl g12 222 []]) 0 _ ⟨Y,Y,Y,Y⟩ Qs ?_))))))))))))))))));rintro q sl h' ms' ⟨rfl,rfl,rfl,rfl⟩;refine Ar (Qm Y (Am (Ac ?_)));refine Ap Y (fun hlt=>?_) (fun hlt=>?_)
 ·exact absurd hlt (by omega)
 ·refine As (Aa (Aa (Af (Ab ?_))));have hO:OwnL Ct 1 222 (Bl g12 222 []) (.slice (some ⟨g12,0,none⟩) 0 0) []:=OwnL.blk (l:=([]:List Nat)) 0 DJ Y (by omega);refine Bc hO fun h2 l2 hR=>(Ar (Qm Y (Ba (pre:=[]) Y call229 Y (FQ [] _ h2 hR (by simp)) rfl rfl rfl rfl (fun r h3 ms3 l3 hF=>?_))))
  obtain⟨l3',rfl,hR3⟩:=hF;refine Qm Y (Am (An ?_));exact Av Y Y (⟨AJ l1 (AJ l2 l3'),Y,hR3⟩)
theorem Yv(neg:Bool)(b:UInt8)(hb:b.toNat≠0)(h:Hp):FnT Tryz.prog 187 #[.agg #[.bool neg,sv [b]]] h [] (fun r h' ms'=>h.le h'/\ms'=[]/\RdL Ct 1 h' [] r [b.toNat]):=by
 have hb8:=Abl b;refine Aq func187 ntmps187 Y Y (fun w0 hw0=>?_);simp only[AW];refine Ar (AV [_,_] Y Y (by rfl) Y Y Y (fun g1=>Qm Y (Am (Az fun h1 l1 hS=>?_))));have e1:∀ms,Cell h1 ms ((⟨g1,0,none⟩:Addr).add 1) (sv [b]):=fun ms=>(hS 1 _ Y).any;refine Ar (Qf HC Y (Ql Y U9 (e1 _) (Qx (Fl 1 Y Y U9 Y) Y (Qx (oA Y) Y (Qx (oS Y) Y (Qx (Gx Y Y Y (by omega) (by omega)) Y (CN (n:=1) Y BZ Cs Y Y Y (by rfl) (by rfl) (by omega) (by omega) Y Y Y (fun g12=>Qm Y (Am (Ac (Ar (Qf HC Y (Ql Y U9 (e1 _) (Qx (Fl 1 Y Y U9 Y) Y (Qm Y (Am (Ag ?_)))))))))))))))));refine Aw (fun q sl h' ms'=>∃(i:Nat) (m:Hp),1-i=q/\sl=[(1,.pointer (some ⟨g1,0,none⟩)),(3,.slice (some ⟨g12,0,none⟩) 1 1),(15,.int .i64 ((1:Nat):Int)),(16,.int .i64 i)]/\h1=h'/\ms'=[m]/\i<=1/\OwnL Ct 1 222 m (.slice (some ⟨g12,0,none⟩) 1 1) [if i=0 then 0 else b.toNat]) 1 _ ⟨0,_,Y,Y,Y,Y,by omega,OwnL.blk (l:=[0]) 1 DJ Y (by omega)⟩ Qs ?_;rintro q sl h' ms' ⟨i,m,rfl,rfl,rfl,rfl,hi,hO⟩;refine Ar (Qm Y (Am (Ac ?_)));refine Ap Y (fun hlt=>?_) (fun hlt=>?_)
 ·have hi0:i=0:=by omega
  subst hi0;rw[if_pos rfl]at hO;refine Ah (Ab (Ac (Ag (Ar (Qm Y (Qm Y (BH (Qf HC Y (Ql Y U9 (e1 _) (Qx (Fl 1 Y Y U9 Y) Y (Qx (oS Y) Y (Qm Y (Qx (oS Y) Y (Qm Y (Am ?_)))))))))))))));have hc:Cell h1 [m] ((AE (.slice (some ⟨g12,0,none⟩) 1 1)).add (0*1)) (.int .u64 ((0:Nat):Int)):=(hO.rd (h:=h1) (ms:=[m]) (.head _)).cell0 (j:=0) (by simp) rfl;refine A7 14 CW (by kernel_rfl) Y (Wm Y (Wm Y (AK (Gx Y Y Y (by omega) (by omega)) Y Y (AK (B0 (0) Y BZ Cs Y Y (by omega) (by omega)) Y Y (Wl Y FX (hc) (Wf HC Y (Wl Y U9 (e1 _) (Wm Y (AK (TH (l:=[b]) 0 Y U9 Y Y Y (by simp)) rfl rfl (AK (Ig (a:=((b.toNat:Nat):Int)) rfl U5 FX rfl (D9 (by omega))) rfl rfl (Wm rfl (AK (BO rfl rfl rfl (by omega) (by omega)) rfl rfl (AK (oM rfl) rfl rfl (AK (R4 (a:=b.toNat) (n:=0) rfl rfl rfl (by omega)) rfl rfl (AZ (Qx (Vi (a:=0) (b:=b.toNat*2^0%18446744073709551616) rfl rfl rfl (by omega) (by omega)) rfl (Qx (B0 (0) rfl BZ Cs rfl rfl (by omega) (by omega)) rfl (Cj (f:=fun n:Nat=>Value.int .u64 (n:Int)) 0 0 (fun _=>rfl) hO rfl Cs rfl rfl rfl rfl (by simp) rfl rfl (fun m' hO'=>?_)))))))))))))))))))
  have e:(0 ||| b.toNat*2^0%18446744073709551616)=b.toNat:=by rw[Nat.zero_or,Nat.pow_zero,Nat.mul_one,Nat.mod_eq_of_lt (by omega)]
  rw[e]at hO';refine Al (Ai (Ab (Ad (Qx (oA Y) Y (Qm Y (Al ?_))))));exact Ak 0 _ (by omega) ⟨1,m',Y,Y,Y,Y,by omega,hO'⟩ Qs
 ·have hi1:i=1:=by omega
  subst hi1;rw[if_neg (by decide)]at hO;refine As (Aa (Aa (Af (Ab (Bc hO fun h2 l2 hR=>(Ar (Qm Y (Ba (pre:=[]) Y call229 Y (FQ [b.toNat] _ h2 hR (by simp)) rfl rfl rfl rfl (fun r h3 ms3 l3 hF=>?_)))))))));obtain⟨l3',rfl,hR3⟩:=hF;have e:Gf [b.toNat]=[b.toNat]:=FA [] hb;rw[e]at hR3;refine Qm Y (Am (An ?_));exact Av Y Y (⟨AJ l1 (AJ l2 l3'),Y,hR3⟩)
def Aaj(l:List Nat)(k:Nat):List Value:=[.int .i64 ((l.length:Int)-1-k),.int .u64 ((l.getD (l.length-1-k) 0:Nat):Int)]
theorem TQ(g:Nat)(v:Value)(l:List Nat)(h:Hp)(hG:Seg h [] ⟨g,0,none⟩ [v])(hR:RdL Ct 1 h [] v l)(hn2:l.length<=1000000):Aak Tryz.prog 270 [.pointer (some ⟨g,0,none⟩)] h l.length (Aaj l):=by
 intro lp X Y h1 ms hl hY h0;show FnT _ _ #[.func (.yield lp) #[] #[],.pointer (some ⟨g,0,none⟩)] _ _ _;have hG:=hG.le hl;have hR:=hR.up hl;obtain⟨n,hn⟩:∃n,l.length=n:=⟨_,rfl⟩
 rw[hn]at hn2 hY;refine Aq func270 ntmps270 rfl rfl (fun w0 hw0=>?_);simp only[AW];refine Ac (Du (DB (oL rfl BZ ((hG.at0 rfl).any)) rfl rfl rfl (DB (Au hR.rd.any rfl BZ rfl) rfl rfl rfl (DB (oS rfl) rfl rfl rfl (DB (Gk rfl rfl) rfl rfl rfl (FZ (Ab (Ag ?_))))))))
 refine Aw (fun q s hh ms'=>∃(k:Nat),q=n-k/\s=[(0,.func (.yield lp) #[] #[]),(1,.pointer (some ⟨g,0,none⟩)),(3,.int .i64 ((n:Int)-1-k))]/\h1.le hh/\k<=n/\X k hh ms')
  (n-0) [(0,.func (.yield lp) #[] #[]),(1,.pointer (some ⟨g,0,none⟩)),(3,.int .i64 ((l.length:Int)-1))] ⟨0,rfl,by rw[hn,show((n:Int)-1-(0:Nat))=(n:Int)-1 by omega],DT,by omega,h0⟩ Qs ?_
 rintro q s hh ms' ⟨k,rfl,rfl,lh,hk,hX⟩;refine Ac (Ac (Du (DB (Ay rfl rfl) rfl rfl rfl (DB (Jj rfl rfl rfl) rfl rfl rfl (FZ (Ab ?_))))));refine Ap rfl (fun hlt=>?_) (fun hlt=>?_)
 ·have hkn:k<n:=by omega
  have hG2:=hG.le lh;have hR2:=hR.up lh;have hi:n-1-k<l.length:=by omega
  have hc:∀ms,Cell hh ms ((AE v).add ((n-1-k)*1)) (.int .u64 ((l.getD (n-1-k) 0:Nat):Int)):=fun ms=>by rw[show l.getD (n-1-k) 0=l[n-1-k] by simp[List.getD,hi]];exact(hR2.any (ms:=ms)).cell0 hi rfl
  refine Ah (Ab (Ac (Ag (Ac (Du (DB (Ay rfl rfl) rfl rfl rfl (DB (Ay rfl rfl) rfl rfl rfl (DB (oL rfl BZ ((hG2.at0 rfl).any)) rfl rfl rfl (DB (Ay rfl rfl) rfl rfl rfl (DB (BE (n-1-k) hR2.rd.any rfl BZ Cs rfl rfl) rfl rfl rfl (DB (oL rfl FX (hc _)) rfl rfl rfl ?_)))))))))));have hyk:=hY k hh ms' hkn lh hX;unfold Aaj at hyk;rw[hn]at hyk;refine PV rfl rfl rfl (hyk) rfl rfl rfl (fun r h2 ms2 l2 hr=>?_);rcases hr with ⟨rfl,hX2⟩|⟨rfl,hX2⟩
  ·refine DB (F1 rfl rfl) rfl rfl rfl (FZ (Ab (AQ rfl (Ah (Ai (Ab (Du (DB (Ay rfl rfl) rfl rfl rfl (DB (oS rfl) rfl rfl rfl (DB (Gk rfl rfl) rfl rfl rfl (FZ ?_)))))))))));refine Ak (n-(k+1)) [(0,.func (.yield lp) #[] #[]),(1,.pointer (some ⟨g,0,none⟩)),(3,.int .i64 ((n:Int)-1-k-1))] (by omega) ⟨k+1,rfl,by rw[show((n:Int)-1-k-1)=(n:Int)-1-(k+1:Nat) by omega],AJ lh l2,by omega,hX2⟩ Qs
  ·refine DB (F1 rfl rfl) rfl rfl rfl (FZ (Ab (BC rfl (An (Aj (Ae (Ae (Aj ?_))))))));exact FH rfl (.inr ⟨k,by omega,hX2⟩)
 ·obtain rfl:k=n:=by omega
  refine As (Aa (Aa (Af ?_)));exact B4 rfl (.inl (by rw[hn];exact hX))
theorem N3(v:Value)(n:Nat)(cs:List Value)(h:Hp)(hR:Rd h [] v 1 n cs):FnT Tryz.prog 230 #[v] h [] (fun r h' ms'=>h=h'/\∃g,r=.func (.func 270) #[] #[.pointer (some ⟨g,0,none⟩)]/\ms'=[Bl g 225 [v]]):=by refine Aq func230 ntmps230 Y Y (fun w0 hw0=>?_);simp only[AW];refine Ar (AV [_] Y Y (Rd.cells ‹_›) Y Y Y (fun g1=>Qm Y (BH (Qx (BV Y Y Y) Y (Qm Y (Am (An ?_)))))));exact Av Y Y (⟨Y,_,Y,Y⟩)
def Ib(n:Nat):List UInt8:=if n=0 then [] else [UInt8.ofNat n]
def GO(n:Nat):List Nat:=if n=0 then [] else [n]
theorem Kj(n:Nat):(GO n).length<=1:=by unfold GO;split<;>simp
def b4(n k:Nat):List UInt8:=if k=0 then [] else [0,0,0,UInt8.ofNat n]
theorem YZ:∀a:UInt8,∀c∈ZF a,c.oneCell'=true:=fun a c hc=>by unfold ZF at hc;rw[List.mem_singleton]at hc;subst hc;rfl
theorem MW(l:List Nat)(neg:Bool)(v:Value)(n:Nat)(hn:n<256)(hs:Gf l=GO n)(h:Hp)(R:RdL Ct 1 h [] v l)(hl:l.length<=1000) :
  FnT Tryz.prog 186 #[v,.bool neg] h [] (fun r h' ms'=>h.le h'/\ms'=[]/\r=.agg #[.bool (neg&&decide (Ib n≠[])),sv (Ib n)]):=by
 have ov:=R.rd.one;refine Mj func186 ntmps186 Y Y (fun w0 hw0=>?_);simp only[AW];refine Ar (CG [.bool false,.string ByteArray.empty] Y Cz Y Y (fun g4=>BH (Qm Y (Qc call229 Y (FQ l v h R (by omega)) (fun r h1 ms1 l1 hF=>?_)))));obtain⟨l1',rfl,hR1⟩:=hF;rw[hs]at hR1;have or_:=hR1.rd.one;obtain⟨W,hW⟩:∃W,GO n=W:=⟨_,Y⟩
 have hWl:W.length<=1:=by rw[<-hW];exact Kj n
 rw[hW]at hR1;refine Qm Y (BH (Qm Y (Qx (Au hR1.rd.any Y BZ Y) Y (Qx (oM Y) Y (Va (n:=0) (cp:=4*W.length) Y VB el5 Y Y Y Y (by omega) (by omega) (by omega) (by omega) Y Y Y (fun g14=>CG [.slice none 0 0] Y Aaw Y Y (fun g5=>AP 0 0 Y Aaw Y Y (by rfl) Y Y (by decide) Y Y (Am (Ac (Ar (Qm Y (Qc call230 Y (N3 r W.length _ h1 hR1.rd) (fun vf h2 ms2 l2 hF=>?_)))))))))))));obtain⟨rfl,gb,rfl,rfl⟩:=hF;refine Am (Ag (Az fun h2 l2 hGb=>?_));have hR2:=hR1.up l2;have hI:=TQ gb r W h2 hGb hR2 (by omega);refine HR (fun k hh ms=>∃bv m,ms=[Bl g5 23 [bv],m,Bl g4 172 [.bool false,.string ByteArray.empty]]/\OwnL ZF 1 5 m bv (b4 n k)) (fun k hh ms=>False) (fun k s1 hh ms=>∃bv m,s1=[(1,.bool neg),(4,.pointer (some ⟨g4,0,none⟩)),(5,.pointer (some ⟨g5,0,none⟩)),(7,.int .u64 (n:Int))]/\ms=[Bl g5 23 [bv],m,Bl g4 172 [.bool false,.string ByteArray.empty]]/\OwnL ZF 1 5 m bv (b4 n k)) Y call270 hI (fun k=>rfl) Y ?_ ?_ ?_ ?_ ?_
 ·exact⟨_,_,Y,⟨⟨by simp[b4],.inr ⟨g14,4*W.length,replicate (4*W.length) (.int .u8 0),rfl,by simp[b4],by simp[b4],by simp[b4],by show 4*W.length<=_;omega⟩⟩,SE⟩⟩
 ·rintro w1 k hh ms1 hk lh ⟨bv,m,rfl,hO⟩;have hk0:k=0:=by omega
  subst hk0;have hn0:n≠0:=by rintro rfl;rw[<-hW]at hk;simp[GO]at hk
  have hWn:W=[n]:=by rw[<-hW];simp[GO,hn0]
  have he:Aaj W 0=[.int .i64 0,.int .u64 (n:Int)]:=by rw[hWn];rfl
  rw[he];refine Et (by kernel_rfl) (Qm Y (Al ?_));exact AF _ ⟨bv,m,Y,Y,hO⟩ Qs
 ·rintro w1 k s1 hh ms1 hk lh ⟨bv,m,rfl,rfl,hO⟩;have hk0:k=0:=by omega
  subst hk0;have c24:IntKind.u8.wrap ((n/2^24:Nat):Int)=(((0:UInt8).toNat:Nat):Int):=by rw[Nat.div_eq_of_lt (by omega)];rfl
  have c16:IntKind.u8.wrap ((n/2^16:Nat):Int)=(((0:UInt8).toNat:Nat):Int):=by rw[Nat.div_eq_of_lt (by omega)];rfl
  have c8:IntKind.u8.wrap ((n/2^8:Nat):Int)=(((0:UInt8).toNat:Nat):Int):=by rw[Nat.div_eq_of_lt (by omega)];rfl
  have c0:IntKind.u8.wrap (n:Int)=(((UInt8.ofNat n).toNat:Nat):Int):=by simp[IntKind.wrap,IntKind.bits,IntKind.signed]
  have ovb:=hO.o1;refine Ot (Et (by kernel_rfl) (Ql Y VB (Cell.blk0 0 Y Y) (Qm Y (Qx (DQ (n:=24) Y Y Y (by omega)) Y (Qx (IR c24 Y FX U5 Y) Y (Qm Y (Qx (DQ (n:=16) Y Y Y (by omega)) Y (Qx (IR c16 Y FX U5 Y) Y (Qm Y (Qx (DQ (n:=8) Y Y Y (by omega)) Y (Qx (IR c8 Y FX U5 Y) Y (Qm Y (Qx (IR c0 Y FX U5 Y) Y (Ax [(0,_),(1,_),(2,_),(3,_)] [.int .u8 0,.int .u8 0,.int .u8 0,.int .u8 0] [_,_,_,_] Y VB el5 Y (by omega) (by kernel_rfl) Qt Y Y Y Y (fun g31=>Bb 2 hO (⟨Rd.blk (n:=4) (c:=4) Mh Y (Nat.le_refl _) (by omega),SE⟩:RdL ZF 1 _ _ _ [(0:UInt8),0,0,UInt8.ofNat n]) Y VB el5 Y (by omega) Y Y Y (fun a _=>YZ a) (by simp[b4]) (by simp[b4]) rfl rfl rfl (fun v32 m' hO'=>?_))))))))))))))));have ov32:=hO'.o1;refine AP 1 0 Y Aaw Y Y (by assumption) Y Y (by(simp;done)) rfl rfl ?_;refine Al (Ai (AO ?_));exact AF [] ⟨v32,m',Y,hO'⟩ trivial
 ·rintro D hh ms1 lh ⟨bv,m,rfl,hO⟩;have hRb:=(hO.rd (h:=hh) (ms:=[Bl g5 23 [bv],m,Bl g4 172 [.bool false,.string ByteArray.empty]]++[Mk D]) (.tail _ (.head _))).rd
  have ht:Lib.trimLeftB (b4 n W.length) 0=Ib n:=by
   rw[<-hW];unfold GO Ib b4;by_cases h0:n=0
   ·subst h0;rfl
   ·rw[if_neg h0,if_neg h0,if_neg (by simp)]
    have:UInt8.ofNat n≠0:=fun e=>h0 (by
     have:=congrArg UInt8.toNat e
     simp at this;omega)
    simp[Lib.trimLeftB,this]
  have osv:(sv (Ib n)).oneCell'=true:=rfl;refine Ai (Ab (Ar (Ql Y VB (Cell.blk0 0 Y Y) (Qx (UM hRb Y Y VB U5 U9 Y) Y ?_))));refine Qx (AI Y call231 Y (FnV.ofCalls (v:=sv (Ib n)) (fun w=>(Tryz.strings_TrimLeft_one ⟨(b4 n W.length).toArray⟩ 0 (by decide) w).mono fun e w' h=>by rw[<-ht];exact h))) Y ?_;refine Qm Y (BH (Qm Y (Qm Y ?_)));refine Hl (t:=37) Y (fun hneg=>?_) (fun hneg=>?_)
  ·refine Qg (Ay Y Y) Y (Qg (Tc (l':=[]) Y Y Y) Y (Qm Y (Qm Y (Qx (A4 Zv [.bool false,.string ByteArray.empty] [(0,_),(1,_)] [_,_] Y Cz Y Y Qt Y) Y ?_))));refine Sa 2 [_,_] Cz Y (by simp[osv]) ?_;refine Am (An ?_);refine AO (AO ?_);refine Kd 1 (.inr Y) Y ?_;exact By (vs:=[_,_]) 0 Y Y LH Y Cz Y Y (⟨AJ l1' (AJ l2 lh),Y,by rw[hneg];rfl⟩)
  ·refine Qk Y (Qk Y (Qm Y (Qm Y (Qx (A4 Zv [.bool false,.string ByteArray.empty] [(0,_),(1,_)] [_,_] Y Cz Y Y Qt Y) Y ?_))));refine Sa 2 [_,_] Cz Y (by simp[osv]) ?_;refine Am (An ?_);refine AO (AO ?_);refine Kd 1 (.inr Y) Y ?_;exact By (vs:=[_,_]) 0 Y Y LH Y Cz Y Y (⟨AJ l1' (AJ l2 lh),Y,by rw[hneg];rfl⟩)
 ·rintro D k hh ms1 hk lh hF;exact hF.elim
def WD(n:Int):Value:=.agg #[.bool (decide (n<0)),sv (Ib n.natAbs)]
theorem bys_ne{n:Nat}:Ib n≠[]<->n≠0:=by unfold Ib;split<;>simp[*]
theorem Mz(n:Nat):Gf [n,0]=GO n:=by
 rw[show [n,0]=[n]++[0] from Y,Lk];unfold GO;split
 ·rename_i h;subst h;rfl
 ·rename_i h;exact FA [] h
theorem X8(n:Int)(hn:-256<n/\n<256)(h:Hp):FnT Tryz.prog 126 #[.int .i64 n] h [] (fun r h' ms'=>h.le h'/\ms'=[]/\r=WD n):=by
 obtain⟨m,hm⟩:∃m,n.natAbs=m:=⟨_,Y⟩
 have hm2:m<256:=by omega
 refine Aq func126 ntmps126 Y Y (fun w0 hw0=>?_);simp only[AW];refine Ar (CG [.bool false,.string ByteArray.empty] Y Cz Y Y (fun g2=>BH (Qm Y (Qx (Cf Y U3 FX Y) Y (Qm Y (Am ?_))))));refine A8 (fun sl h' ms'=>sl=[(0,.int .i64 n),(2,.pointer (some ⟨g2,0,none⟩)),(3,.int .u64 (m:Int))]/\h=h'/\ms'=[Bl g2 172 [.bool false,.string ByteArray.empty]]) ?_ (fun s h ms hI=>?_)
 ·have e9:IntKind.u64.wrap (-(IntKind.u64.wrap n))=(m:Int)\/¬n<0:=by
   by_cases h0:n<0
   ·refine .inl ?_;simp only[IntKind.wrap,IntKind.bits,IntKind.signed];simp;omega
   ·exact .inr h0
  refine Ar (Qm Y (Qm Y (Am ?_)));refine Ap Y (fun hlt=>?_) (fun hlt=>?_)
  ·have e9:IntKind.u64.wrap (-(IntKind.u64.wrap n))=(m:Int):=e9.resolve_right (fun h=>h hlt);refine Ad (Qm Y (Qx (XF e9 Y Y) Y (Qm Y (Al ?_))));exact AF _ ⟨Y,Y,Y⟩ Qs
  ·have e3:IntKind.u64.wrap n=(m:Int):=by rw[D9 (by omega)];omega
   refine Ah ?_;exact AF _ ⟨Y,Y,Y⟩ (by rw[<-e3];exact Qs)
 ·obtain⟨rfl,rfl,rfl⟩:=hI
  have ea:((m &&& 4294967295:Nat):Int)=(m:Int):=by have:=Nat.and_two_pow_sub_one_eq_mod m 32;rw[show(2^32-1:Nat)=4294967295 from Y,Nat.mod_eq_of_lt (by omega)]at this;rw[this]
  have es:((m/2^32:Nat):Int)=((0:Nat):Int):=by rw[Nat.div_eq_of_lt (by omega)]
  refine Ar (Qm Y (Qx (J2 ea Y Y Y (by omega) (by omega)) Y (Qm Y (Qx (Ki es Y Y Y (by omega)) Y (Ax [(0,_),(1,_)] [.int .u64 0,.int .u64 0] [_,_] Y BZ Cs Y (by omega) (by kernel_rfl) Qt Y Y Y Y (fun g14=>Qm Y (Qm Y (DR fun h3 l3 hS=>?_))))))));have hR:RdL Ct 1 h3 [] (.slice (some ⟨g14,0,none⟩) 2 2) [m,0]:=⟨⟨⟨_,_,Y,Nat.le_refl _,by decide,Y,fun _=>⟨_,Y,hS⟩⟩⟩,DJ⟩
  refine Qc call186 Y (MW [m,0] (decide (n<0)) _ m hm2 (Mz m) h3 hR (by simp)) (fun r h4 ms4 l4 hF=>?_);obtain⟨l4',rfl,rfl⟩:=hF;have osv:(sv (Ib m)).oneCell'=true:=rfl
  have eW:Value.agg #[.bool (decide (n<0)&&decide (Ib m≠[])),sv (Ib m)]=WD n:=by
   unfold WD
   have:(decide (n<0)&&decide (Ib m≠[]))=decide (n<0):=by
    by_cases h0:n<0
    ·have:Ib m≠[]:=bys_ne.2 (by omega);simp[h0,this]
    ·simp[h0]
   rw[this,hm]
  refine Sa 0 [_,_] Cz Y (by simp[osv]) ?_;refine Am (An ?_);exact By (vs:=[_,_]) 0 Y Y LH Y Cz Y Y (⟨AJ l3 l4',Y,eW⟩)
theorem Vw(n:Int)(hn:-256<n/\n<256)(h:Hp)(ms:List Hp):FnV Tryz.prog 126 #[.int .i64 n] h ms (WD n):=EO ((X8 n hn h).mono fun _ _ _ h=>h.2.2) ms
theorem QJ(n:Int)(hn:-256<n/\n<256)(h:Hp):FnT Tryz.prog 187 #[WD n] h [] (fun r h' ms'=>h.le h'/\ms'=[]/\RdL Ct 1 h' [] r (GO n.natAbs)):=by
 unfold WD;by_cases h0:n.natAbs=0
 ·have e1:Ib n.natAbs=[]:=by unfold Ib;rw[if_pos h0]
  have e2:GO n.natAbs=[]:=by unfold GO;rw[if_pos h0]
  rw[e1,e2];exact YI _ h
 ·have e1:Ib n.natAbs=[UInt8.ofNat n.natAbs]:=by unfold Ib;rw[if_neg h0]
  have e3:(UInt8.ofNat n.natAbs).toNat=n.natAbs:=by simp;omega
  have e2:GO n.natAbs=[(UInt8.ofNat n.natAbs).toNat]:=by unfold GO;rw[if_neg h0,e3]
  rw[e1,e2];exact Yv _ _ (by omega) h
theorem Gy{m:Nat}(h:m≠0):GO m=[m]:=if_neg h
def Us(m k:Nat):Int:=if m<k then -1 else if k<m then 1 else 0
theorem Yi(m k:Nat)(hk:k≠0)(va vb:Value)(h:Hp)(hA:RdL Ct 1 h [] va (GO m))(hB:RdL Ct 1 h [] vb [k]) :
  FnT Tryz.prog 232 #[va,vb] h [] (fun r _ _=>r=.int .i64 (Us m k)):=by
 by_cases h0:m=0
 ·have e:GO m=[]:=if_pos h0;rw[e]at hA;have rA:Rd h [] va 1 0 (([]:List Nat).flatMap Ct):=hA.rd;have rB:Rd h [] vb 1 1 ([k].flatMap Ct):=hB.rd;refine Aq func232 ntmps232 Y Y (fun w0 hw0=>?_);simp only[AW];refine Ar (Qm Y (Am (Ac (Ag (Ar (Qm Y (Qx (Au rA.any Y BZ Y) Y (Qm Y (Qx (Au rB.any Y BZ Y) Y (Qm Y (Qm Y (Am ?_))))))))))));refine Ap Y (fun h1=>?_) (fun h1=>?_)
  ·refine Ac (Ad (Qm Y (Am (An (Aj (Ae ?_))))));exact Av Y Y (by unfold Us;rw[if_pos (by omega)])
  ·exact absurd (by decide) h1
 ·rw[Gy h0]at hA;have rA:Rd h [] va 1 1 ([m].flatMap Ct):=hA.rd;have rB:Rd h [] vb 1 1 ([k].flatMap Ct):=hB.rd;have cA:∀ms,Cell h ms ((AE va).add (0*1)) (.int .u64 (m:Int)):=fun ms=>(hA.any (ms:=ms)).cell0 (j:=0) (by simp) rfl;have cB:∀ms,Cell h ms ((AE vb).add (0*1)) (.int .u64 (k:Int)):=fun ms=>(hB.any (ms:=ms)).cell0 (j:=0) (by simp) rfl;refine Aq func232 ntmps232 Y Y (fun w0 hw0=>?_);simp only[AW];refine Ar (Qm Y (Am (Ac (Ag (Ar (Qm Y (Qx (Au rA.any Y BZ Y) Y (Qm Y (Qx (Au rB.any Y BZ Y) Y (Qm Y (Qm Y (Am ?_))))))))))));refine Ap Y (fun h1=>?_) (fun h1=>?_)
  ·exact absurd h1 (by decide)
  ·refine Ac (Ad (Qm Y (Qx (Au rA.any Y BZ Y) Y (Qm Y (Qx (Au rB.any Y BZ Y) Y (Qm Y (Qm Y (Am ?_))))))));refine Ap Y (fun h2=>?_) (fun h2=>?_)
   ·exact absurd h2 (by decide)
   ·refine Ah (Ai (Ab (Ac (Ar (Qm Y (Qx (Au rA.any Y BZ Y) Y (Qx (oS Y) Y (Qm Y (Am (Ag ?_))))))))));refine Aw (fun q sl h' ms'=>∃i:Nat,i=q/\sl=[(0,va),(1,vb),(5,.int .i64 ((i:Int)-1))]/\h=h'/\ms'=[]/\i<=1/\(i=0->m=k)) 1 _ ⟨1,Y,Y,Y,Y,by omega,by omega⟩ Qs ?_;rintro q sl h' ms' ⟨i,rfl,rfl,rfl,rfl,hi,hk0⟩;refine Ac (Ar (Qm Y (Qm Y (Am ?_))));refine Ap Y (fun hlt=>?_) (fun hlt=>?_)
    ·have hi1:i=1:=by omega
     subst hi1;refine Ah (Ab (Ac (Ag (Ag (Ac (A7 8 CW (by kernel_rfl) Y (Wm Y (Wm Y (AK (AB _ rA.any Y BZ Cs Y Y Y (by omega)) Y Y (Wl Y FX (cA _) (Wm Y (Wm Y (AK (AB _ rB.any Y BZ Cs Y Y Y (by omega)) Y Y (Wl Y FX (cB _) (AZ (Qm Y (Qm Y (Am ?_))))))))))))))))));refine Ap Y (fun h3=>?_) (fun h3=>?_)
     ·refine Ac (Ad (Qm Y (Am (An (Aj (Aj (Ae (Ae (Aj (Ae ?_))))))))));exact Av Y Y (by unfold Us;rw[if_pos (by omega)])
     ·refine Ac (A7 8 CW (by kernel_rfl) Y (Wm Y (Wm Y (AK (AB _ rA.any Y BZ Cs Y Y Y (by omega)) Y Y (Wl Y FX (cA _) (Wm Y (Wm Y (AK (AB _ rB.any Y BZ Cs Y Y Y (by omega)) Y Y (Wl Y FX (cB _) (AZ (Qm Y (Qm Y (Am ?_)))))))))))));refine Ap Y (fun h4=>?_) (fun h4=>?_)
      ·refine Ac (Ad (Qm Y (Am (An (Aj (Aj (Ae (Ae (Aj (Ae ?_))))))))));exact Av Y Y (by unfold Us;rw[if_neg (by omega),if_pos (by omega)])
      ·refine Ah (Ai (Ai (Ab (Ad (Qm Y (Qx (oS Y) Y (Qm Y (Al ?_))))))));exact Ak 0 _ (by omega) ⟨0,Y,Y,Y,Y,by omega,fun _=>by omega⟩ Qs
    ·have hi1:i=0:=by omega
     subst hi1;have:=hk0 Y;refine As (Aa (Aa (Af (Ab (Ar (Qm Y (Am (An ?_))))))));exact Av Y Y (by unfold Us;rw[if_neg (by omega),if_neg (by omega)])
theorem Jw(n:Nat):Gf [n]=GO n:=by
 unfold GO;split
 ·rename_i h;subst h;rfl
 ·rename_i h;exact FA [] h
theorem Vm(m k:Nat)(hm:m<256)(hk:k≠0)(hk2:k<256)(va:Value)(h:Hp)(hA:RdL Ct 1 h [] va (GO m)) :
  FnT Tryz.prog 233 #[va,.int .u64 (k:Int)] h [] (fun r h' ms'=>h.le h'/\ms'=[]/\∃q,r=.tuple #[q,.int .u64 ((m%k:Nat):Int)]/\RdL Ct 1 h' [] q (GO (m/k))):=by
 by_cases h0:m=0
 ·subst h0;have rA:Rd h [] va 1 0 (([]:List Nat).flatMap Ct):=hA.rd;refine Aq func233 ntmps233 Y Y (fun w0 hw0=>?_);simp only[AW];refine Ar (Qm Y (Qm Y (BH (Qm Y (Qx (Au rA.any Y BZ Y) Y (CN (n:=0) Y BZ Cs Y Y Y (by rfl) (by rfl) (by omega) (by omega) Y Y Y (fun g11=>Qm Y (BH (Qm Y (Am (Ac (Ar (Qm Y (Qx (Au rA.any Y BZ Y) Y (Qx (oS Y) Y (Qm Y (Am (Ag (Aw (fun q sl h' ms'=>q=0/\sl=[(6,.slice (some ⟨g11,0,none⟩) 0 0),(7,.int .u64 0),(8,.int .i64 (-1))]/\h=h'/\ms'=[Bl g11 222 []]) 0 _ ⟨Y,Y,Y,Y⟩ Qs ?_)))))))))))))))))));rintro q sl h' ms' ⟨rfl,rfl,rfl,rfl⟩;refine Ac (Ar (Qm Y (Qm Y (Am ?_))));refine Ap Y (fun hlt=>?_) (fun hlt=>?_)
  ·exact absurd hlt (by decide)
  ·refine As (Aa (Aa (Af (Ab ?_))));have hO:OwnL Ct 1 222 (Bl g11 222 []) (.slice (some ⟨g11,0,none⟩) 0 0) []:=OwnL.blk (l:=([]:List Nat)) 0 DJ Y (by omega);refine Bc hO fun h2 l2 hR=>(Ar (Qm Y (Qc call229 Y (FQ [] _ h2 hR (by simp)) (fun r h3 ms3 l3 hF=>?_))))
   obtain⟨l3',rfl,hR3⟩:=hF;refine Qm Y (Qm Y (Qm Y (Am (An ?_))));exact Bq Y Y Y (⟨AJ l2 l3',Y,_,by rw[Nat.zero_mod];rfl,by rw[Nat.zero_div];exact hR3⟩)
 ·rw[Gy h0]at hA;have rA:Rd h [] va 1 1 ([m].flatMap Ct):=hA.rd;have cA:∀ms,Cell h ms ((AE va).add (0*1)) (.int .u64 (m:Int)):=fun ms=>(hA.any (ms:=ms)).cell0 (j:=0) (by simp) rfl;refine Aq func233 ntmps233 Y Y (fun w0 hw0=>?_);simp only[AW];refine Ar (Qm Y (Qm Y (BH (Qm Y (Qx (Au rA.any Y BZ Y) Y (CN (n:=1) Y BZ Cs Y Y Y (by rfl) (by rfl) (by omega) (by omega) Y Y Y (fun g11=>Qm Y (BH (Qm Y (Am (Ac (Ar (Qm Y (Qx (Au rA.any Y BZ Y) Y (Qx (oS Y) Y (Qm Y (Am (Ag ?_))))))))))))))))));refine Aw (fun q sl h' ms'=>∃(i:Nat) (mo:Hp),i=q/\sl=[(0,va),(1,.int .u64 (k:Int)),(6,.slice (some ⟨g11,0,none⟩) 1 1),(7,.int .u64 ((if i=1 then 0 else m%k:Nat):Int)),(8,.int .i64 ((i:Int)-1))]/\h=h'/\ms'=[mo]/\i<=1/\OwnL Ct 1 222 mo (.slice (some ⟨g11,0,none⟩) 1 1) [if i=1 then 0 else m/k]) 1 _ ⟨1,_,Y,Y,Y,Y,by omega,OwnL.blk (l:=[0]) 1 DJ Y (by omega)⟩ Qs ?_;rintro q sl h' ms' ⟨i,mo,rfl,rfl,rfl,rfl,hi,hO⟩;refine Ac (Ar (Qm Y (Qm Y (Am ?_))));refine Ap Y (fun hlt=>?_) (fun hlt=>?_)
  ·have hi1:i=1:=by omega
   subst hi1;rw[if_pos rfl]at hO;simp only[if_true];have e20:((0*2^32%18446744073709551616:Nat):Int)=((0:Nat):Int):=rfl;have e25:((0 ||| m:Nat):Int)=(m:Int):=by rw[Nat.zero_or]
   refine Ah (Ab (Ac (Ag (Ar (Qm Y (Qx (RV e20 Y Y Y (by omega)) Y (Qm Y (Qm Y (Qx (AB _ rA.any Y BZ Cs Y Y Y (by omega)) Y (Ql Y FX (cA _) (Qx (UL e25 Y Y Y (by omega) (by omega)) Y (Qm Y (Am (BM (n:=11) (bs:=[true,true,true,true,true,true,true,true,true,false,false]) [true,true,true,true,true,true,true,true,true] CW (by kernel_rfl) (by kernel_rfl) Y Y (Qq Y (Qq Y (Qq Y (Qq Y (Qp Y (YY Y Y Y (by omega) (by omega)) (Qq Y (Qq Y (Qp Y (YC Y Y Y (by omega)) (Qp Y (B0 _ Y BZ Cs Y Y Y (by omega)) ?_)))))))))))))))))))))));unfold FU;simp only[cons_append,nil_append];refine Qo 9 Y (Cj (f:=fun n:Nat=>Value.int .u64 (n:Int)) 0 0 (fun _=>rfl) hO Y Cs Y Y Y Y (by simp) rfl rfl (fun m' hO'=>Qw (Qo 10 rfl (Qm rfl (Qw (Qe (Ai (Ab (Ad (Qm rfl (Qx (oS rfl) rfl (Qm rfl (Al ?_)))))))))))));exact Ak 0 _ (by omega) ⟨0,m',Y,Y,Y,Y,by omega,hO'⟩ Qs
  ·have hi1:i=0:=by omega
   subst hi1;rw[if_neg (by decide)]at hO;refine As (Aa (Aa (Af (Ab (Bc hO fun h2 l2 hR=>(Ar (Qm Y (Qc call229 Y (FQ [m/k] _ h2 hR (by simp)) (fun r h3 ms3 l3 hF=>?_)))))))));obtain⟨l3',rfl,hR3⟩:=hF;rw[Jw]at hR3;refine Qm Y (Qm Y (Qm Y (Am (An ?_))));exact Bq Y Y Y (⟨AJ l2 l3',Y,_,Y,hR3⟩)
theorem Pf{n:Nat}(h:n<4294967296):((n &&& 4294967295:Nat):Int)=(n:Int):=by have:=Nat.and_two_pow_sub_one_eq_mod n 32;rw[show(2^32-1:Nat)=4294967295 from Y,Nat.mod_eq_of_lt (by omega)]at this;rw[this]
theorem Y2(a b:Nat)(hb:b<a)(ha:a<256)(va vb:Value)(h:Hp)(hA:RdL Ct 1 h [] va [a])(hB:RdL Ct 1 h [] vb [b]) :
  FnT Tryz.prog 190 #[va,vb] h [] (fun r h' ms'=>h.le h'/\ms'=[]/\RdL Ct 1 h' [] r (GO (a-b))):=by
 have rA:Rd h [] va 1 1 ([a].flatMap Ct):=hA.rd;have rB:Rd h [] vb 1 1 ([b].flatMap Ct):=hB.rd;have cA:∀ms,Cell h ms ((AE va).add (0*1)) (.int .u64 (a:Int)):=fun ms=>(hA.any (ms:=ms)).cell0 (j:=0) (by simp) rfl;have cB:∀ms,Cell h ms ((AE vb).add (0*1)) (.int .u64 (b:Int)):=fun ms=>(hB.any (ms:=ms)).cell0 (j:=0) (by simp) rfl;refine Aq func190 ntmps190 Y Y (fun w0 hw0=>?_);simp only[AW];refine Ar (Qm Y (BH (Qm Y (Qx (Au rA.any Y BZ Y) Y (CN (n:=1) Y BZ Cs Y Y Y (by rfl) (by rfl) (by omega) (by omega) Y Y Y (fun g11=>Qm Y (BH (Qm Y (Am (Ac (Ar (Qm Y (Qx (Au rA.any Y BZ Y) Y (Qm Y (Am (Ag ?_))))))))))))))));refine Aw (fun q sl h' ms'=>∃(i:Nat) (mo:Hp),1-i=q/\sl=[(0,va),(1,vb),(5,.slice (some ⟨g11,0,none⟩) 1 1),(6,.int .u64 0),(13,.int .i64 ((1:Nat):Int)),(14,.int .i64 i)]/\h=h'/\ms'=[mo]/\i<=1/\OwnL Ct 1 222 mo (.slice (some ⟨g11,0,none⟩) 1 1) [if i=0 then 0 else a-b]) 1 _ ⟨0,_,Y,Y,Y,Y,by omega,OwnL.blk (l:=[0]) 1 DJ Y (by omega)⟩ Qs ?_;rintro q sl h' ms' ⟨i,mo,rfl,rfl,rfl,rfl,hi,hO⟩;refine Ar (Qm Y (Am (Ac ?_)));refine Ap Y (fun hlt=>?_) (fun hlt=>?_)
 ·have hi0:i=0:=by omega
  subst hi0;rw[if_pos rfl]at hO;have e22:IntKind.u64.wrap ((a:Int)-((0:Nat):Int))=(a:Int):=by rw[D9 (by omega)];omega
  refine Ah (Ab (Ac (Ag (Ar (Qm Y (Qm Y (BH (Qm Y (Qm Y (Qx (AB _ rA.any Y BZ Cs Y Y Y (by omega)) Y (Ql Y FX (cA _) (Qm Y (Qx (RB (b:=0) e22 Y Y Y) Y (Qm Y (Am (Ac (Ar (Qm Y (Qm Y (Qx (Au rB.any Y BZ Y) Y (Qm Y (Am ?_))))))))))))))))))))));refine Ap Y (fun h2=>?_) (fun h2=>?_)
  ·have e32:IntKind.u64.wrap ((a:Int)-(b:Int))=((a-b:Nat):Int):=by rw[D9 (by omega)];omega
   have em:=Pf (n:=a-b) (by omega);have e38:(((a-b)/2^63:Nat):Int)=((0:Nat):Int):=by rw[Nat.div_eq_of_lt (by omega)]
   refine Ad (Qm Y (Qm Y (Qm Y (Qx (AB _ rB.any Y BZ Cs Y Y Y (by omega)) Y (Ql Y FX (cB _) (Qx (RB e32 Y Y Y) Y (Qm Y (GJ (Qm Y (Qm Y (Qm Y (Qx (J2 em Y Y Y (by omega) (by omega)) Y (Qm Y (Qx (Ki (n:=63) e38 Y Y Y (by omega)) Y (Qx (B0 _ Y BZ Cs Y Y Y (by omega)) Y (Cj (f:=fun n:Nat=>Value.int .u64 (n:Int)) 0 0 (fun _=>rfl) hO Y Cs Y Y Y Y (by simp) rfl rfl (fun m' hO'=>Qm rfl (Al (Ai (Ab (Ad (Qx (oA rfl) rfl (Qm rfl (Al ?_))))))))))))))))))))))));exact Ak 0 _ (by omega) ⟨1,m',Y,Y,Y,Y,by omega,hO'⟩ Qs
  ·exact absurd (by decide) h2
 ·have hi1:i=1:=by omega
  subst hi1;rw[if_neg (by decide)]at hO;refine As (Aa (Aa (Af (Ab (Bc hO fun h2 l2 hR=>(Ar (Qm Y (Qc call229 Y (FQ [a-b] _ h2 hR (by simp)) (fun r h3 ms3 l3 hF=>?_)))))))));obtain⟨l3',rfl,hR3⟩:=hF;rw[Jw]at hR3;refine Qm Y (Am (An ?_));exact Av Y Y (⟨AJ l2 l3',Y,hR3⟩)
theorem X5(m:Nat)(hm:m<256)(va vb:Value)(h:Hp)(hA:RdL Ct 1 h [] va (GO m))(hB:RdL Ct 1 h [] vb [1]) :
  FnT Tryz.prog 189 #[va,vb] h [] (fun r h' ms'=>h.le h'/\ms'=[]/\RdL Ct 1 h' [] r (GO (m+1))):=by
 refine Aq func189 ntmps189 Y Y (fun w0 hw0=>?_);simp only[AW];refine Ar (Qm Y (Am ?_));refine A8 (fun sl h' ms'=>∃(u w:Value) (x:Nat) (W:List Nat),sl=[(0,u),(1,w)]/\h=h'/\ms'=[]/\RdL Ct 1 h [] u [x]/\RdL Ct 1 h [] w W/\x<257/\((W=[]/\x=m+1)\/∃y,W=[y]/\y<256/\x+y=m+1)) ?_ (fun s h ms hI=>?_)
 ·by_cases h0:m=0
  ·have e:GO m=[]:=if_pos h0;rw[e]at hA;have rA:Rd h [] va 1 0 (([]:List Nat).flatMap Ct):=hA.rd;have rB:Rd h [] vb 1 1 (([1]:List Nat).flatMap Ct):=hB.rd;refine Ar (Qm Y (Qx (Au rA.any Y BZ Y) Y (Qm Y (Qx (Au rB.any Y BZ Y) Y (Qm Y (Am ?_))))));refine Ap Y (fun h1=>?_) (fun h1=>?_)
   ·refine Ad (Qm Y (Qm Y (Qm Y (Qm Y (Al ?_)))));exact AF _ ⟨vb,va,1,[],Y,Y,Y,hB,hA,by omega,.inl ⟨Y,by omega⟩⟩ Qs
   ·exact absurd (by decide) h1
  ·rw[Gy h0]at hA;have rA:Rd h [] va 1 1 (([m]:List Nat).flatMap Ct):=hA.rd;have rB:Rd h [] vb 1 1 (([1]:List Nat).flatMap Ct):=hB.rd;refine Ar (Qm Y (Qx (Au rA.any Y BZ Y) Y (Qm Y (Qx (Au rB.any Y BZ Y) Y (Qm Y (Am ?_))))));refine Ap Y (fun h1=>?_) (fun h1=>?_)
   ·exact absurd h1 (by decide)
   ·refine Ah ?_;exact AF _ ⟨va,vb,m,[1],Y,Y,Y,hA,hB,by omega,.inr ⟨1,Y,by omega,by omega⟩⟩ Qs
 ·obtain⟨u,w,x,W,rfl,rfl,rfl,hU,hW,hx,hc⟩:=hI;have rU:Rd h [] u 1 1 ([x].flatMap Ct):=hU.rd;have cA:∀ms,Cell h ms ((AE u).add (0*1)) (.int .u64 (x:Int)):=fun ms=>(hU.any (ms:=ms)).cell0 (j:=0) (by simp) rfl;have hWl:W.length<=1:=by rcases hc with ⟨rfl,_⟩|⟨y,rfl,_⟩<;>simp
  refine Ar (Qm Y (Qx (Au rU.any Y BZ Y) Y (Qx (oA Y) Y (CN (n:=2) Y BZ Cs Y Y Y (by rfl) (by rfl) (by omega) (by omega) Y Y Y (fun g19=>Qm Y (BH (Qm Y (Am (Ac (Ar (Qm Y (Qx (Au rU.any Y BZ Y) Y (Qm Y (Am (Ag ?_)))))))))))))));refine Aw (fun q sl h' ms'=>∃(i:Nat) (mo:Hp),1-i=q/\sl=[(0,u),(1,w),(5,.slice (some ⟨g19,0,none⟩) 2 2),(6,.int .u64 0),(21,.int .i64 ((1:Nat):Int)),(22,.int .i64 i)]/\h=h'/\ms'=[mo]/\i<=1/\OwnL Ct 1 222 mo (.slice (some ⟨g19,0,none⟩) 2 2) [if i=0 then 0 else m+1,0]) 1 _ ⟨0,_,Y,Y,Y,Y,by omega,OwnL.blk (l:=[0,0]) 2 DJ Y (by omega)⟩ Qs ?_;rintro q sl h' ms' ⟨i,mo,rfl,rfl,rfl,rfl,hi,hO⟩;refine Ar (Qm Y (Am (Ac ?_)));refine Ap Y (fun hlt=>?_) (fun hlt=>?_)
  ·have hi0:i=0:=by omega
   subst hi0;rw[if_pos rfl]at hO;have e30:IntKind.u64.wrap ((x:Int)+((0:Nat):Int))=(x:Int):=by rw[D9 (by omega)];omega
   have em:=Pf (n:=m+1) (by omega);have e46:((m+1)/2^32:Nat)=0:=Nat.div_eq_of_lt (by omega);have e46':(((m+1)/2^32:Nat):Int)=((0:Nat):Int):=by rw[e46]
   refine Ah (Ab (Ac (Ag (Ar (Qm Y (Qm Y (BH (Qm Y (Qm Y (Qx (BE (0) rU.any Y BZ Cs Y Y) Y (Ql Y FX (cA _) (Qm Y (Qx (Su (b:=0) e30 Y Y Y) Y (Qm Y (Am (Ac (Ar (Qm Y (Qm Y (Qx (Au hW.rd.any Y BZ Y) Y (Qm Y (Am ?_))))))))))))))))))))));refine Ap Y (fun h2=>?_) (fun h2=>?_)
   ·obtain⟨y,rfl,hy,hs⟩:∃y,W=[y]/\y<256/\x+y=m+1:=by
     rcases hc with ⟨rfl,_⟩|h
     ·exact absurd h2 (by decide)
     ·exact h
    have cB:∀ms,Cell h ms ((AE w).add (0*1)) (.int .u64 (y:Int)):=fun ms=>(hW.any (ms:=ms)).cell0 (j:=0) (by simp) rfl;have e40:IntKind.u64.wrap ((x:Int)+(y:Int))=((m+1:Nat):Int):=by rw[D9 (by omega)];omega
    refine Ad (Qm Y (Qm Y (Qm Y (Qx (BE (0) hW.rd.any Y BZ Cs Y Y) Y (Ql Y FX (cB _) (Qx (Su e40 Y Y Y) Y (Qm Y (GJ (Qm Y (Qm Y (Qm Y (Qx (J2 em Y Y Y (by omega) (by omega)) Y (Qm Y (Qx (Ki (n:=32) e46' Y Y Y (by omega)) Y (Qx (B0 (0) Y BZ Cs Y Y (by omega) (by omega)) Y (Cj (f:=fun n:Nat=>Value.int .u64 (n:Int)) 0 0 (fun _=>rfl) hO Y Cs Y Y Y Y (by simp) rfl rfl (fun m' hO'=>Qm rfl (Al (Ai (Ab (Ad (Qx (oA rfl) rfl (Qm rfl (Al ?_))))))))))))))))))))))));exact Ak 0 _ (by omega) ⟨1,m',Y,Y,Y,Y,by omega,hO'⟩ Qs
   ·obtain⟨rfl,hs⟩:W=[]/\x=m+1:=by
     rcases hc with h|⟨y,rfl,_⟩
     ·exact h
     ·exact absurd (by simp) h2
    subst hs;refine Ah (Ab (Ad (Qm Y (Qm Y (Qm Y (Qx (J2 em Y Y Y (by omega) (by omega)) Y (Qm Y (Qx (Ki (n:=32) e46' Y Y Y (by omega)) Y (Qx (B0 (0) Y BZ Cs Y Y (by omega) (by omega)) Y (Cj (f:=fun n:Nat=>Value.int .u64 (n:Int)) 0 0 (fun _=>rfl) hO Y Cs Y Y Y Y (by simp) rfl rfl (fun m' hO'=>Qm rfl (Al (Ai (Ab (Ad (Qx (oA rfl) rfl (Qm rfl (Al ?_))))))))))))))))));exact Ak 0 _ (by omega) ⟨1,m',Y,Y,Y,Y,by omega,hO'⟩ Qs
  ·have hi1:i=1:=by omega
   subst hi1;rw[if_neg (by decide)]at hO;refine As (Aa (Aa (Af (Ab (Ar (Qm Y (Qm Y (Qx (Au rU.any Y BZ Y) Y (Qm Y (Qx (B0 (1) Y BZ Cs Y Y (by omega) (by omega)) Y (Cj (f:=fun n:Nat=>Value.int .u64 (n:Int)) (a:=0) 0 1 (fun _=>rfl) hO Y Cs Y Y Y Y (by simp) rfl rfl (fun m' hO'=>Am (Bc hO' fun h2 l2 hR=>(Ar (Qm rfl (Qc call229 rfl (FQ [m+1,0] _ h2 hR (by simp)) (fun r h3 ms3 l3 hF=>?_)))))))))))))))));obtain⟨l3',rfl,hR3⟩:=hF;rw[Mz]at hR3;refine Qm Y (Am (An ?_));exact Av Y Y (⟨AJ l2 l3',Y,hR3⟩)
theorem XY(h:Hp)(ms:List Hp):RdL Ct 1 h ms (.slice none 0 0) []:=⟨⟨⟨none,0,rfl,Nat.le_refl _,by decide,rfl,fun h=>absurd h (by decide)⟩⟩,DJ⟩
theorem Zl(m k:Nat)(hm:m<256)(hk:k≠0)(hk2:k<256)(va vb:Value)(h:Hp)(hA:RdL Ct 1 h [] va (GO m))(hB:RdL Ct 1 h [] vb [k]) :
  FnT Tryz.prog 188 #[va,vb] h [] (fun r h' ms'=>h.le h'/\ms'=[]/\∃q u,r=.tuple #[q,u]/\RdL Ct 1 h' [] q (GO (m/k))/\RdL Ct 1 h' [] u (GO (m%k))):=by
 have rB:Rd h [] vb 1 1 ([k].flatMap Ct):=hB.rd;have cB:∀ms,Cell h ms ((AE vb).add (0*1)) (.int .u64 (k:Int)):=fun ms=>(hB.any (ms:=ms)).cell0 (j:=0) (by simp) rfl;have oa:=hA.rd.one;have ob:=hB.rd.one;refine Aq func188 ntmps188 Y Y (fun w0 hw0=>?_);simp only[AW];refine Ar (Qm Y (Qm Y (Am (Ac (Ar (Qm Y (Qm Y (Qx (AI Y call232 Y (EO (Yi m k hk va vb h hA hB) _)) Y (Qm Y (Am ?_))))))))));refine Ap Y (fun h1=>?_) (fun h1=>?_)
 ·have hlt:m<k:=by
   unfold Us at h1;rcases Nat.lt_or_ge m k with h|h
   ·exact h
   ·rw[if_neg (by omega)]at h1;split at h1<;>omega
  refine Ar (Qm Y (Qm Y (Qm Y (Am (An (Ae ?_))))));exact Bq Y Y Y (⟨DT,Y,_,_,Y,by rw[Nat.div_eq_of_lt hlt];exact XY _ _,by rw[Nat.mod_eq_of_lt hlt];exact hA⟩)
 ·refine Ah (Ab (Ac (Ar (Qm Y (Qx (Au rB.any Y BZ Y) Y (Qm Y (Am ?_)))))));refine Ap Y (fun h2=>?_) (fun h2=>?_)
  ·refine Ac (Ad (Qm Y (Qm Y (Qx (AB 0 rB.any Y BZ Cs Y Y Y (by omega)) Y (Ql Y FX (cB _) (Qc call233 Y (Vm m k hm hk hk2 va h hA) (fun r h3 ms3 l3 hF=>?_)))))));obtain⟨l3',rfl,q,rfl,hq⟩:=hF;have oq:=hq.rd.one;refine Qm Y (Qm Y (Qm Y (Qm Y (Qm Y (BH (Qm Y (Qm Y (Ao [_] Y BZ Cs Y (by rfl) Y Y (by omega) Y Y Y (fun g37=>DR fun h4 l4 hS=>?_)))))))));have hR:RdL Ct 1 h4 [] (.slice (some ⟨g37,0,none⟩) 1 1) [m%k]:=⟨⟨⟨_,_,Y,Nat.le_refl _,by decide,Y,fun _=>⟨_,Y,hS⟩⟩⟩,DJ⟩
   refine Qc call229 Y (FQ [m%k] _ h4 hR (by simp)) (fun r h5 ms5 l5 hF=>?_);obtain⟨l5',rfl,hR5⟩:=hF;rw[Jw]at hR5;have or_:=hR5.rd.one;refine Qm Y (Qm Y (Am (An (Ae ?_))));exact Bq Y Y Y (⟨AJ l3' (AJ l4 l5'),Y,_,_,Y,(hq.up l4).up l5',hR5⟩)
  ·exact absurd (by decide) h2
theorem Y8(m k:Nat)(hk:0<k):(-(m:Int))%(k:Int)=(if m%k=0 then 0 else k-m%k:Nat):=by
 have h1:(m:Int)=((m%k:Nat):Int)+(k:Int)*((m/k:Nat):Int):=by
  have:=Nat.mod_add_div m k
  exact_mod_cast this.symm
 have hlt:=Nat.mod_lt m hk;split
 ·rename_i h0;rw[h0]at h1;have:-(m:Int)=0+(k:Int)*(-((m/k:Nat):Int)):=by rw[Int.mul_neg];omega
  rw[this,Int.add_mul_emod_self_left];rfl
 ·rename_i h0
  have:-(m:Int)=((k-m%k:Nat):Int)+(k:Int)*(-((m/k:Nat):Int)-1):=by rw[Int.mul_sub,Int.mul_neg,Int.mul_one];omega
  rw[this,Int.add_mul_emod_self_left,Int.emod_eq_of_lt (by omega) (by omega)]
theorem My(n:Nat):Gf (GO n)=GO n:=by
 unfold GO;split
 ·rfl
 ·rename_i h;exact FA [] h
theorem Aaf(n:Int)(k:Nat)(hn:-256<n/\n<256)(hk:2<=k)(hk2:k<256)(h:Hp) :
  FnT Tryz.prog 127 #[WD n,WD (k:Int)] h [] (fun r h' ms'=>h.le h'/\ms'=[]/\∃(b:Bool) (l:List UInt8),r=.tuple #[.agg #[.bool b,sv l],WD (n%(k:Int)),.bool true]):=by
 obtain⟨m,hm⟩:∃m,n.natAbs=m:=⟨_,Y⟩
 have hm2:m<256:=by omega
 have osn:(sv (Ib n.natAbs)).oneCell'=true:=rfl;have osk:(sv (Ib (k:Int).natAbs)).oneCell'=true:=rfl;refine Aq func127 ntmps127 Y Y (fun w0 hw0=>?_);simp only[AW];refine Ar (AV [_,_] Y Y (by rfl) Y Y Y (fun g2=>AV [_,_] Y Y (by rfl) Y Y Y (fun g3=>CG [.bool false,.string ByteArray.empty] Y Cz Y Y (fun g4=>CG [.bool false,.string ByteArray.empty] Y Cz Y Y (fun g5=>Qm Y (Am (Bp 2 Y fun h1 l1 hS3=>(Bp 2 Y fun h2 l2 hS2=>?_))))))));have gS2:∀ms,Seg h2 ms (⟨g2,0,none⟩:Addr) [.bool (decide (n<0)),sv (Ib n.natAbs)]:=fun ms=>hS2.any;have gS3:∀ms,Seg h2 ms (⟨g3,0,none⟩:Addr) [.bool (decide ((k:Int)<0)),sv (Ib (k:Int).natAbs)]:=fun ms=>(hS3.le l2).any;refine Ac (BM (n:=6) (bs:=[true,false,true,false,false,false]) [true,false,true] CW (by kernel_rfl) (by kernel_rfl) Y Y (Qp Y (oG Y LH Cz (gS2 _)) (Qp Y (oG Y LH Cz (gS3 _)) ?_)));unfold FU;simp only[cons_append,nil_append];refine Qo 1 Y (Qc call187 Y (QJ n hn h2) (fun a h3 ms3 l3 hF=>?_));obtain⟨l3',rfl,hA⟩:=hF;rw[hm]at hA;refine Qa (Qo 3 Y (Qc call187 Y (QJ (k:Int) (by omega) h3) (fun b h4 ms4 l4 hF=>?_)));obtain⟨l4',rfl,hB⟩:=hF;have l24:=AJ l3' l4';refine Qa (Qo 4 Y (Qm Y (Qa (Qo 5 Y (Qm Y (Qa (Qe ?_)))))));have hA4:=hA.up l4'
 have hBk:RdL Ct 1 h4 [] b [k]:=by
  have:GO (k:Int).natAbs=[k]:=by rw[Int.natAbs_natCast];exact if_neg (by omega)
  rw[this]at hB;exact hB
 have rB:Rd h4 [] b 1 1 ([k].flatMap Ct):=hBk.rd;have oa:=hA4.rd.one;have ob:=hBk.rd.one;refine Ab (Ac (Ar (Qm Y (Qx (Au rB.any Y BZ Y) Y (Qm Y (Am ?_))))));refine Ap Y (fun hz=>?_) (fun hz=>?_)
 ·exact absurd hz (by decide)
 ·refine Ah (Ab (Ar (Qm Y (Qm Y (Qc call188 Y (Zl m k hm2 (by omega) hk2 a b h4 hA4 hBk) (fun r h5 ms5 l5 hF=>?_))))));obtain⟨l5',rfl,q,u,rfl,hQ,hU⟩:=hF;have oq:=hQ.rd.one;have ou:=hU.rd.one;have hB5:=hBk.up l5';have l25:=AJ l24 l5';have e2:∀ms,Cell h5 ms ((⟨g2,0,none⟩:Addr).add 0) (.bool (decide (n<0))):=fun ms=>((hS2 0 _ Y).any).le l25;have e3:∀ms,Cell h5 ms ((⟨g3,0,none⟩:Addr).add 0) (.bool (decide ((k:Int)<0))):=fun ms=>((hS3.le l2) 0 _ Y).any.le l25;refine Qm Y (Qm Y (Qm Y (Qm Y (Qm Y (Am ?_)))))
  have hmk:m/k<128:=by have:=Nat.div_le_div_left (a:=m) hk (by omega);omega
  have hmm:m%k<k:=Nat.mod_lt _ (by omega);refine A8 (fun sl h' ms'=>∃(q' u':Value) (Q:Nat),sl=[(2,.pointer (some ⟨g2,0,none⟩)),(3,.pointer (some ⟨g3,0,none⟩)),(4,.pointer (some ⟨g4,0,none⟩)),(5,.pointer (some ⟨g5,0,none⟩)),(9,q'),(10,u')]/\h5.le h'/\ms'=[Bl g5 172 [.bool false,.string ByteArray.empty],Bl g4 172 [.bool false,.string ByteArray.empty]]/\Q<256/\RdL Ct 1 h' [] q' (GO Q)/\RdL Ct 1 h' [] u' (GO (n%(k:Int)).toNat)) ?_ (fun s h ms hI=>?_)
  ·refine Ac (Ad (Qf Kg Y (Ql Y U4 (e2 _) (Qm Y ?_))));refine AN (t:=28) Y (fun hneg=>?_) (fun hneg=>?_)
   ·have hnm:n=-(m:Int):=by omega
    have hnk:=Y8 m k (by omega);rw[<-hnm]at hnk;refine Qg (Ay Y Y) Y (Qg (Au hU.rd.any Y BZ Y) Y (Qg (Cu Y Y Y) Y (Qm Y (Am ?_))));refine Ap Y (fun h3=>?_) (fun h3=>?_)
    ·have h0:m%k≠0:=by intro h0;rw[h0]at h3;exact absurd h3 (by decide)
     rw[if_neg h0]at hnk;have hU1:RdL Ct 1 h5 [] u [m%k]:=by rw[<-Gy h0];exact hU
     refine Ad (Qm Y (Ao [_] Y BZ Cs Y (by rfl) Y Y (by omega) Y Y Y (fun g34=>DR fun h6 l6 hS1=>?_)));have hR1:RdL Ct 1 h6 [] (.slice (some ⟨g34,0,none⟩) 1 1) [1]:=⟨⟨⟨_,_,Y,Nat.le_refl _,by decide,Y,fun _=>⟨_,Y,hS1⟩⟩⟩,DJ⟩
     refine Qc call189 Y (X5 (m/k) (by omega) q _ h6 (hQ.up l6) hR1) (fun x h7 ms7 l7 hF=>?_);obtain⟨l7',rfl,hX⟩:=hF;have ox:=hX.rd.one;refine Qm Y (Qm Y (Qc call190 Y (Y2 k (m%k) hmm hk2 b u h7 ((hB5.up l6).up l7') ((hU1.up l6).up l7')) (fun y h8 ms8 l8 hF=>?_)));obtain⟨l8',rfl,hY⟩:=hF;refine Qm Y (Qm Y (Al ?_));exact AF _ ⟨x,y,m/k+1,Y,AJ l6 (AJ l7' l8'),Y,by omega,hX.up l8',by rw[hnk,Int.toNat_natCast];exact hY⟩ Qs
    ·have h0:m%k=0:=by refine Classical.byContradiction fun h0=>h3 ?_;rw[Gy h0];simp
     rw[if_pos h0]at hnk;refine Ah ?_;exact AF _ ⟨q,u,m/k,Y,DT,Y,by omega,hQ,by rw[hnk,Int.toNat_natCast,<-h0];exact hU⟩ Qs
   ·have hnm:n=(m:Int):=by omega
    have hnk:n%(k:Int)=((m%k:Nat):Int):=by rw[hnm];exact(Int.natCast_emod m k).symm
    refine Qk Y (Qk Y (Qk Y (Qm Y (Am (AQ Y (Ah ?_))))));exact AF _ ⟨q,u,m/k,Y,DT,Y,by omega,hQ,by rw[hnk,Int.toNat_natCast];exact hU⟩ Qs
  ·obtain⟨q',u',Q,rfl,l6,rfl,hQ2,hQ',hU'⟩:=hI;have oq':=hQ'.rd.one;have ou':=hU'.rd.one;have hkp:(0:Int)<(k:Int):=by omega
   have hr0:=Int.emod_nonneg n (Int.ne_of_gt hkp);have hr1:=Int.emod_lt_of_pos n hkp
   have eR:Value.agg #[.bool (false&&decide (Ib (n%(k:Int)).toNat≠[])),sv (Ib (n%(k:Int)).toNat)]=WD (n%(k:Int)):=by
    unfold WD;have h1:(n%(k:Int)).natAbs=(n%(k:Int)).toNat:=by omega
    have h2:decide (n%(k:Int)<0)=false:=decide_eq_false (by omega);rw[h1,h2];rfl
   have hrn:(n%(k:Int)).toNat<256:=by omega
   refine Ar (Qm Y (Qf Kg Y (Ql Y U4 ((e2 _).le l6) (Qf Kg Y (Ql Y U4 ((e3 _).le l6) (Qx (Aax Y U4 Y Y) Y ?_))))));refine Qc call186 Y (MW (GO Q) _ q' Q hQ2 (My Q) _ hQ' (by have:=Kj Q;omega)) (fun x1 h7 ms7 l7 hF=>?_);obtain⟨l7',rfl,rfl⟩:=hF;refine Qm Y ?_;refine Qc call186 Y (MW (GO (n%(k:Int)).toNat) false u' (n%(k:Int)).toNat hrn (My _) h7 (hU'.up l7') (by have:=Kj (n%(k:Int)).toNat;omega)) (fun x2 h8 ms8 l8 hF=>?_);obtain⟨l8',rfl,rfl⟩:=hF;have os1:(sv (Ib Q)).oneCell'=true:=rfl;have os2:(sv (Ib (n%(k:Int)).toNat)).oneCell'=true:=rfl;refine Sa 1 [_,_] Cz Y (by simp[osn,osk,oq',ou',os1,os2]) ?_;refine Sa 0 [_,_] Cz Y (by simp[osn,osk,oq',ou',os1,os2]) ?_;refine Qm Y (Am (An (CC 1 Y ?_)));exact VW (vs:=[_,_]) (vs2:=[_,_]) Y Y Y Y LH Y Cz Y Y ⟨AJ l1 (AJ l2 (AJ l25 (AJ l6 (AJ l7' l8')))),Y,_,_,by rw[<-eR]⟩
theorem Aas(n:Nat)(hn:n<256)(h:Hp) :
  FnT Tryz.prog 128 #[WD (n:Int)] h [] (fun r h' ms'=>h.le h'/\ms'=[]/\r=.tuple #[.int .i64 n,.bool true]):=by
 have osn:(sv (Ib (n:Int).natAbs)).oneCell'=true:=rfl;refine Aq func128 ntmps128 Y Y (fun w0 hw0=>?_);simp only[AW];refine Ar (AV [_,_] Y Y (by rfl) Y Y Y (fun g1=>Qm Y (Qm Y (Am (Az fun h2 l2 hS2=>?_)))));have gS2:∀ms,Seg h2 ms (⟨g1,0,none⟩:Addr) [.bool (decide ((n:Int)<0)),sv (Ib (n:Int).natAbs)]:=fun ms=>hS2.any;refine Ar (Qx (oG Y LH Cz (gS2 _)) Y (Qc call187 Y (QJ (n:Int) (by omega) h2) (fun a h3 ms3 l3 hF=>?_)));obtain⟨l3',rfl,hA⟩:=hF;rw[Int.natAbs_natCast]at hA;obtain⟨W,hW⟩:∃W,GO n=W:=⟨_,Y⟩
 have hWl:W.length<=1:=by rw[<-hW];exact Kj n
 rw[hW]at hA;have oa:=hA.rd.one;refine Qm Y (Am (Ac (Ar (Qm Y (Qx (Au hA.rd.any Y BZ Y) Y (Qm Y (Am ?_)))))));refine Ap Y (fun h1=>?_) (fun h1=>?_)
 ·exact absurd h1 (by omega)
 ·refine Ah (Ab (Ar (Qm Y (Am (Ac (Ar (Qm Y (Qx (Au hA.rd.any Y BZ Y) Y (Qm Y (Am (Ag ?_)))))))))));refine Aw (fun q sl h' ms'=>∃(i:Nat),W.length-i=q/\sl=[(1,.pointer (some ⟨g1,0,none⟩)),(4,a),(5,.int .u64 ((if i=0 then 0 else n:Nat):Int)),(13,a),(14,.int .i64 (W.length:Int)),(15,.int .i64 i)]/\h3=h'/\ms'=[]/\i<=W.length) W.length _ ⟨0,Y,Y,Y,Y,by omega⟩ Qs ?_;rintro q sl h' ms' ⟨i,rfl,rfl,rfl,rfl,hi⟩;refine Ar (Qm Y (Am (Ac ?_)));refine Ap Y (fun hlt=>?_) (fun hlt=>?_)
  ·have hi0:i=0:=by omega
   subst hi0;have hn0:n≠0:=by rintro rfl;rw[<-hW]at hlt;exact absurd hlt (by decide)
   have hWn:W=[n]:=by rw[<-hW];exact Gy hn0
   subst hWn;have cA:∀ms,Cell h3 ms ((AE a).add (0*1)) (.int .u64 (n:Int)):=fun ms=>(hA.any (ms:=ms)).cell0 (j:=0) (by simp) rfl;have e24:((n*2^0%18446744073709551616:Nat):Int)=(n:Int):=by rw[Nat.pow_zero,Nat.mul_one,Nat.mod_eq_of_lt (by omega)]
   have e25:((0 ||| n:Nat):Int)=(n:Int):=by rw[Nat.zero_or]
   refine Ah (Ab (Ac (Ag (Ar (Qm Y (Qx (BE (0) hA.rd.any Y BZ Cs Y Y) Y (Ql Y FX (cA _) (Qm Y (Qm Y (GJ (Qm Y (Qm Y (Qm Y (Qx (oM Y) Y (Qx (RV (n:=0) e24 Y Y Y (by omega)) Y (Qx (UL (a:=0) (b:=n) e25 Y Y Y (by omega) (by omega)) Y (Qm Y (Al (Ai (Ab (Ad (Qx (oA Y) Y (Qm Y (Al ?_))))))))))))))))))))))));exact Ak 0 _ (by simp) ⟨1,rfl,rfl,rfl,rfl,by simp⟩ Qs
  ·have hiW:i=W.length:=by omega
   have em:(if i=0 then 0 else n)=n:=by
    by_cases h0:n=0
    ·subst h0;simp
    ·have:W=[n]:=by rw[<-hW];exact Gy h0
     rw[hiW,this];simp
   rw[em];have e1:∀ms,Cell h3 ms ((⟨g1,0,none⟩:Addr).add 0) (.bool (decide ((n:Int)<0))):=fun ms=>((hS2 0 _ Y).any).le l3';refine As (Aa (Aa (Af (Ab (Ac (Ag (Ar (Qf Kg Y (Ql Y U4 (e1 _) (Qm Y ?_))))))))));refine AN (t:=30) Y (fun hneg=>?_) (fun hneg=>?_)
   ·exact absurd hneg (by omega)
   ·refine Qk Y (Qk Y (Qm Y (Qm Y (Am (AQ Y (Ar (Qm Y (Qm Y (Qm Y (Am ?_))))))))));refine Ap Y (fun h5=>?_) (fun h5=>?_)
    ·exact absurd h5 (by omega)
    ·refine Ah (Ai (Ab (Ar (Qm Y (Qx (Ig (a:=(n:Int)) Y FX U3 Y (C4 (by omega))) Y (Qm Y (Qm Y (Am (An ?_)))))))));exact Bq Y Y Y (⟨AJ l2 l3',Y,Y⟩)
theorem Abp(n:Nat)(hn:n<256)(h:Hp)(ms:List Hp):FnV Tryz.prog 128 #[WD (n:Int)] h ms (.tuple #[.int .i64 n,.bool true]):=EO ((Aas n hn h).mono fun _ _ _ h=>h.2.2) ms
def QM(n:Int):List Value:=[.bool (decide (n<0)),sv (Ib n.natAbs)]
theorem YD:∀n,(QM n).length=2:=fun _=>rfl
theorem X6:∀a:Int,∀c∈QM a,c.oneCell'=true:=fun a c hc=>by unfold QM at hc;simp only[mem_cons,not_mem_nil,or_false]at hc;rcases hc with rfl|rfl<;>rfl
theorem AaR(n:Int):WD n=.agg (QM n).toArray:=rfl
theorem NA{l:List Int}{k n:Nat}(hk:k<n)(hl:l.length=n):(l.take k++replicate (n-k) 0).set k (l[k]'(by omega))=l.take (k+1)++replicate (n-(k+1)) 0:=by
 have h1:(l.take k).length=k:=by rw[length_take];omega
 have h2:replicate (n-k) (0:Int)=0::replicate (n-(k+1)) 0:=by rw[<-List.replicate_succ];congr 1;omega
 rw[List.set_append_right _ _ (by omega),h1,Nat.sub_self,h2,List.set_cons_zero,take_succ_eq_append_getElem (by omega),List.append_assoc];rfl
theorem X0(p:Int)(r c:Nat)(hp:IsP p)(hp2:p<256)(hr:r<=200)(hc:c<=200)(L:List Int)(hL:L.length=r*c)(hb:∀x∈L,-256<x/\x<256)(ev:Value)(h:Hp)(hR:RdL QM 2 h [] ev L) :
  FnT Tryz.prog 60 #[.int .i64 p,.agg #[.int .i64 r,.int .i64 c,ev]] h [] (fun v h' ms'=>h.le h'/\PR v ms' ⟨p,r,c,L.map (· % p)⟩):=by
 have hpb:=hp.1;have hrc:r*c<=40000:=Nat.mul_le_mul hr hc;obtain⟨pn,rfl⟩:=Int.eq_ofNat_of_zero_le (show 0<=p by omega);have oe:=hR.rd.one;refine Aq func60 ntmps60 Y Y (fun w0 hw0=>?_);simp only[AW];refine Ar (AV [_,_,_] Y Y (by rfl) Y Y Y (fun g3=>CG [.int .i64 0,.int .i64 0,.int .i64 0,.slice none 0 0] Y BF Y Y (fun g4=>Am ?_)))
 -- ms=[Bl g4 (result),Bl g3 (the matrix)]
 refine Bp 1 Y fun h1 l1 hS3=>?_;have hR1:=hR.up l1;have e0:∀ms,Cell h1 ms ((⟨g3,0,none⟩:Addr).add 0) (.int .i64 r):=fun ms=>(hS3 0 _ Y).any;have e1:∀ms,Cell h1 ms ((⟨g3,0,none⟩:Addr).add 1) (.int .i64 c):=fun ms=>(hS3 1 _ Y).any;have e2:∀ms,Cell h1 ms ((⟨g3,0,none⟩:Addr).add 2) ev:=fun ms=>(hS3 2 _ Y).any;refine Ar (Qm Y (Qf Y6 Y (Ql Y U3 (e0 _) (Qf Zi Y (Ql Y U3 (e1 _) ?_)))));refine Qc call125 Y (YM (pn:Int) r c h1 ⟨by omega,by omega⟩) (fun z h2 ms2 l2 hF=>?_);obtain⟨rfl,eu,m,rfl,rfl,hO⟩:=hF
 have hZ:Qd (pn:Int) r c=⟨(pn:Int),r,c,replicate (r*c) 0⟩:=by unfold Qd;rw[if_pos ⟨hp,by unfold FF;omega⟩,show((r:Int)*c).toNat=r*c by rw[<-Int.natCast_mul,Int.toNat_natCast]]
 rw[hZ]at hO;simp only[hZ];have ou:=hO.o1;have rE:Rd h1 [] ev 2 (r*c) (L.flatMap QM):=by have:=hR1.rd;rwa [hL]at this
 have rU:Rd h1 [m] eu 1 (r*c) ((replicate (r*c) (0:Int)).flatMap cI):=by have:=(hO.rd (h:=h1) (ms:=[m]) Mh).rd;rwa [length_replicate]at this
 refine CG [.int .i64 0,.int .i64 0,.int .i64 0,.slice none 0 0] Y BF Y Y (fun g5=>?_);refine Sa 0 [_,_,_,_] BF Y (by simp[oe,ou]) ?_;refine Am (Ac (Ar (Qf FT Y (Ql Y U3 (Cell.blk 0 Y Y) (Qm Y (Qm Y ?_))))));refine AN (t:=21) Y (fun h0=>?_) (fun h0=>?_)
 ·exact absurd h0 (by omega)
 ·refine Qg (oF JZ Y) Y (Qg (oL Y LU (e2 _)) Y (Qg (Au rE.any Y LU Y) Y (Qg (oF Di Y) Y (Qg (oL Y AU (Cell.blk 0 Y Y)) Y (Qg (Ef rU Y AU Y) Y (Qg (Ec Y Y Y) Y (Qm Y (Am ?_))))))));refine Ap Y (fun hne=>?_) (fun hne=>?_)
  ·exact absurd Y hne
  ·refine Ah (Ab (Az fun h2 l2 hS5=>?_));have hR2:=hR1.up l2;have osp:(sv (Ib (pn:Int).natAbs)).oneCell'=true:=rfl;refine Ar (Qm Y (Qx (AI Y call126 Y (Vw (pn:Int) (by omega) _ _)) Y (CG [.bool false,.string ByteArray.empty] Y Cz Y Y (fun g6=>?_))));refine Sa 0 [_,_] Cz Y (by simp[oe,ou,KJ]) ?_;refine Am (Az fun h3 l3 hS6=>?_);have l13:=AJ l2 l3;have hR3:=hR1.up l13;have rE3:=rE.le l13;have e2:∀ms,Cell h3 ms ((⟨g3,0,none⟩:Addr).add 2) ev:=fun ms=>(e2 ms).le l13;refine Ac (Ar (Qf JZ Y (Ql Y LU (e2 _) (Qx (Au rE3.any Y LU Y) Y (Qm Y (Am (Ag ?_)))))));refine Aw (fun q sl h' ms'=>∃(k:Nat) (mo:Hp),r*c-k=q/\sl=[(4,.pointer (some ⟨g4,0,none⟩)),(5,.pointer (some ⟨g5,0,none⟩)),(6,.pointer (some ⟨g6,0,none⟩)),(34,ev),(35,.int .i64 ((r*c:Nat):Int)),(36,.int .i64 k)]/\h3.le h'/\ms'=[mo,Bl g4 65 [.int .i64 0,.int .i64 0,.int .i64 0,.slice none 0 0]]/\k<=r*c/\OwnL cI 1 3 mo eu ((L.map (· % (pn:Int))).take k++replicate (r*c-k) 0)) (r*c-0) _ ⟨0,_,Y,Y,DT,Y,by omega,by rw[take_zero,nil_append];exact hO⟩ Qs ?_;rintro q sl h' ms' ⟨k,mo,rfl,rfl,lh,rfl,hk,hO⟩;have hR4:=hR3.up lh;have rE4:=rE3.le lh;refine Ar (Qm Y (Am (Ac ?_)));refine Ap Y (fun hlt=>?_) (fun hlt=>?_)
   ·have hkL:k<L.length:=by omega
    obtain⟨x,hx⟩:∃x,L[k]=x:=⟨_,Y⟩
    have hxb:=hb x (by rw[<-hx];exact getElem_mem hkL);have gE:∀ms,Seg h' ms ((AE ev).add (k*2)) (QM x):=fun ms=>by rw[<-hx];exact(hR4.any (ms:=ms)).seg hkL
    have osx:(sv (Ib x.natAbs)).oneCell'=true:=rfl;refine Ah (Ab (Ac (Ag (Ar (Qm Y (Qx (BE (k) rE4.any Y LU Cz Y Y) Y (Qx (oG Y LH Cz (gE _)) Y (CG [.bool false,.string ByteArray.empty] Y Cz Y Y (fun g8=>Qm Y ?_)))))))));refine Sa 0 [_,_] Cz Y (by simp[oe,ou,KJ]) ?_;refine Am ?_;have gS6:∀ms,Seg h' ms (⟨g6,0,none⟩:Addr) (QM (pn:Int)):=fun ms=>(hS6.le lh).any;refine Ar (Qx (oG Y LH Cz (Seg.blk 0 Y)) Y (Qx (oG Y LH Cz (gS6 _)) Y (Qc call127 Y (Aaf x pn hxb (by omega) (by omega) h') (fun z h4 ms4 l4 hF=>?_))));obtain⟨l4',rfl,bq,lq,rfl⟩:=hF;obtain⟨y,hy⟩:∃y:Nat,x%(pn:Int)=y:=⟨(x%(pn:Int)).toNat,by have:=Int.emod_nonneg x (show(pn:Int)≠0 by omega);omega⟩
    have hyp:y<pn:=by have:=Int.emod_lt_of_pos x (show 0<(pn:Int) by omega);omega
    rw[hy,AaR];refine Qm Y (Qm Y (Qm Y (Qm Y (CG [.bool false,.string ByteArray.empty] Y Cz Y Y (fun g9=>CG [.bool false,.string ByteArray.empty] Y Cz Y Y (fun g10=>?_))))));refine Sa 1 [_,_] Cz Y (by simp[oe,ou,KJ]) ?_;refine Sa 0 [_,_] Cz Y (by simp[oe,ou,KJ]) ?_;refine Qm Y (Am (Az fun h5 l5 hS10=>?_));have lh5:=AJ lh (AJ l4' l5);have gS10:∀ms,Seg h5 ms (⟨g10,0,none⟩:Addr) (QM (y:Int)):=fun ms=>hS10.any;have e5:∀ms,Cell h5 ms ((⟨g5,0,none⟩:Addr).add 3) eu:=fun ms=>(((hS5.le l3).le lh5) 3 _ Y).any
    have hln:((L.map (· % (pn:Int))).take k++replicate (r*c-k) 0).length=r*c:=by rw[length_append,length_take,length_map,length_replicate];omega
    refine BM (n:=10) (bs:=[true,true,true,true,true,true,true,true,true,false]) [true,true,true,true,true,true,true,true,true] CW (by kernel_rfl) (by kernel_rfl) Y Y (QF Di Y (QL Y AU (e5 _) (Qq Y (Qp Y (oG Y LH Cz (gS10 _)) (Qp Y (AI Y call128 Y (Abp y (by omega) _ _)) (Qq Y (Qq Y (Qq Y (Qp Y (BI (k) (hO.rd (h:=h5) (ms:=[mo]) Mh).rd Y AU A5 Y Y (by omega) (by omega)) ?_)))))))));unfold FU;simp only[cons_append,nil_append];refine Qo 9 Y ?_;refine C5 2 k hO Y A5 Y Y Y (by rw[hln];omega) rfl rfl (fun mo' hO'=>?_);refine Qw (Qe ?_);have hset:=NA (l:=L.map (· % (pn:Int))) (k:=k) (n:=r*c) (by omega) (by rw[length_map];exact hL);rw[getElem_map,hx,hy]at hset;rw[hset]at hO';refine Ai (Ab (Ad (Qx (oA Y) Y (Qm Y (Al ?_)))));refine AO (AO ?_);exact Ak (r*c-(k+1)) _ (by omega) ⟨k+1,mo',Y,Y,lh5,Y,by omega,hO'⟩ Qs
   ·have hkn:k=r*c:=by omega
    have gS5:∀ms,Seg h' ms (⟨g5,0,none⟩:Addr) [.int .i64 pn,.int .i64 r,.int .i64 c,eu]:=fun ms=>((hS5.le l3).le lh).any;refine As (Aa (Aa (Af (Ab (Ar (Qx (oG Y Jt BF (gS5 _)) Y ?_))))));refine Sa 1 [_,_,_,_] BF Y (by simp[oe,ou,KJ]) ?_;refine Am (An ?_);exact By (vs:=[_,_,_,_]) 1 Y Y Jt Y BF Y Y (⟨AJ l1 (AJ l13 lh),eu,mo,Y,Y,by rw[hkn,Nat.sub_self,List.replicate_zero,append_nil,List.take_of_length_le (by rw[length_map];omega)]at hO;exact hO⟩)
def WG(v:Value)(ms:List Hp)(r c:Nat)(L:List Int):Prop:=∃ev m,ms=[m]/\v=.agg #[.int .i64 r,.int .i64 c,ev]/\OwnL QM 2 172 m ev L
theorem Xi(r c:Nat)(hr:r<=200)(hc:c<=200)(h:Hp):FnT Tryz.prog 191 #[.int .i64 r,.int .i64 c] h [] (fun v _ _=>v=.bool true):=by
 refine Aq func191 ntmps191 Y Y (fun w0 hw0=>?_);simp only[AW];refine Ar (Qm Y (BH (Qm Y (Qm Y (Qx (QY Y Y Y) Y (Qm Y (Qm Y ?_)))))));refine AN (t:=9) Y (fun h1=>?_) (fun h1=>?_)
 ·refine Qg (Ay Y Y) Y (Qg (Ay Y Y) Y (Qg (Jq Y Y Y) Y (Qg (Jd Y Y Y) Y (Qm Y (Qm Y (Am (An ?_)))))));exact Av Y Y (by rw[decide_eq_true];omega)
 ·exact absurd (by omega) h1
theorem ON(r c:Nat)(hr:r<=200)(hc:c<=200)(h:Hp):FnT Tryz.prog 129 #[.int .i64 r,.int .i64 c] h [] (fun v h' ms'=>h=h'/\WG v ms' r c (replicate (r*c) 0)):=by have hrc:r*c<=40000:=Nat.mul_le_mul hr hc;have hmi:(r:Int)*c=((r*c:Nat):Int):=(Int.natCast_mul r c).symm;refine Aq func129 ntmps129 Y Y (fun w0 hw0=>?_);simp only[AW];refine Ar (CG [.int .i64 0,.int .i64 0,.slice none 0 0] Y Ea Y Y (fun g4=>Am (Ac (Ar (Qm Y (Qm Y (Qx (AI Y call191 Y (EO (Xi r c hr hc h) _)) Y (Qm Y (Am (AQ Y (Ah (Ab (Ar (Qm Y (Qm Y (Qm Y (Qm Y (Qx (oM Y) Y (Vk YD (by omega) (0:Int) (n:=r*c) Y LU Cz Y Y Y (by omega) (by omega) (by omega) (by omega) Y Y Y (fun g15 ev m hev hO=>?_))))))))))))))))))));subst hev;refine Qx (A4 AaQ [.int .i64 0,.int .i64 0,.slice none 0 0] [(0,_),(1,_),(2,_)] [_,_,_] Y Ea Y Y Qt Y) Y ?_;refine Sa 1 [_,_,_] Ea Y (by simp[Value.oneCell']) ?_;refine Am (An ?_);exact By (vs:=[_,_,_]) 1 Y Y Pg Y Ea Y Y (⟨Y,_,m,Y,Y,hO⟩)
def TG(f:Nat->Nat->Int)(k t a b:Nat):Int:=if a<k\/(a=k/\b<t) then f a b else 0
theorem V1(f:Nat->Nat->Int)(k t:Nat){r c:Nat}:CI r c (GZ (TG f k t) k t (f k t))=CI r c (TG f k (t+1)):=by
 refine Bg fun a _ b _=>?_;unfold GZ TG;by_cases h:a=k/\b=t
 ·obtain⟨rfl,rfl⟩:=h;rw[if_pos ⟨rfl,rfl⟩,if_pos (by omega)]
 ·rw[if_neg h];by_cases h2:a<k\/(a=k/\b<t)
  ·rw[if_pos h2,if_pos (by omega)]
  ·rw[if_neg h2,if_neg (by omega)]
theorem Y4(f:Nat->Nat->Int)(k:Nat){r c:Nat}:CI r c (TG f k c)=CI r c (TG f (k+1) 0):=by
 refine Bg fun a _ b hb=>?_;unfold TG;by_cases h2:a<k\/(a=k/\b<c)
 ·rw[if_pos h2,if_pos (by omega)]
 ·rw[if_neg h2,if_neg (by omega)]
theorem ZK(r c:Nat)(hr0:0<r)(hr:r<=200)(hc:c<=200)(f:Nat->Nat->Int)(hb:∀i,i<r->∀j,j<c->-256<f i j/\f i j<256)(Rs:List Value)(lR:Rs.length=r)(v:Value)(h:Hp)(hv:RdL cU 1 h [] v Rs)(hRs:∀i,i<r->RdL cI 1 h [] (Rs.getD i undef) (FB c (f i))) :
  FnT Tryz.prog 131 #[v] h [] (fun w h' ms'=>h.le h'/\WG w ms' r c (CI r c f)):=by
 have hrc:r*c<=40000:=Nat.mul_le_mul hr hc;have ov:=hv.rd.one;have rv:Rd h [] v 1 r (Rs.flatMap cU):=by have:=hv.rd;rwa [lR]at this
 refine Aq func131 ntmps131 Y Y (fun w0 hw0=>?_);simp only[AW];refine Ar (CG [.int .i64 0,.int .i64 0,.slice none 0 0] Y Ea Y Y (fun g2=>BH (Qm Y (Am (Ac (Ar (Qm Y (Qx (Au rv.any Y Cr Y) Y (Qm Y (Am (Ag ?_)))))))))));refine Aw (fun q sl h' ms'=>∃(i:Nat),r-i=q/\sl=[(0,v),(2,.pointer (some ⟨g2,0,none⟩)),(3,.int .i64 ((if i=0 then 0 else c:Nat):Int)),(11,v),(12,.int .i64 (r:Int)),(13,.int .i64 i)]/\h=h'/\ms'=[Bl g2 106 [.int .i64 0,.int .i64 0,.slice none 0 0]]/\i<=r) (r-0) _ ⟨0,Y,Y,Y,Y,by omega⟩ Qs ?_;rintro q sl h' ms' ⟨i,rfl,rfl,rfl,rfl,hi⟩;refine Ar (Qm Y (Am (Ac ?_)));refine Ap Y (fun hlt=>?_) (fun hlt=>?_)
 ·have hir:i<r:=by omega
  have hiR:i<Rs.length:=by omega
  obtain⟨ri,hri⟩:∃ri,Rs.getD i undef=ri:=⟨_,Y⟩
  have hRi:=hRs i hir;rw[hri]at hRi;have cR:∀ms,Cell h ms ((AE v).add (i*1)) ri:=fun ms=>(hv.any (ms:=ms)).cell0 hiR (by rw[<-hri];simp[List.getD,hiR,cU]);have rri:Rd h [] ri 1 c ((FB c (f i)).flatMap cI):=by have:=hRi.rd;rwa [Cd]at this
  have ori:=rri.one;refine Ah (Ab (Ac (Ag (Ar (Qx (BE (i) rv.any Y Cr Cv Y Y) Y (Ql Y AU (cR _) (Qm Y (GJ (Qm Y (Qm Y (Qx (Au rri.any Y AU Y) Y (Qx (Jq Y Y Y) Y (Qm Y (Al (Ai (Ab (Ad (Qx (oA Y) Y (Qm Y (Al ?_))))))))))))))))))))
  have hmx:max ((if i=0 then 0 else c:Nat):Int) (c:Int)=((if i+1=0 then 0 else c:Nat):Int):=by rw[if_neg (show ¬i+1=0 by omega)];split<;>omega
  rw[hmx];exact Ak (r-(i+1)) _ (by omega) ⟨i+1,Y,Y,Y,Y,by omega⟩ Qs
 ·have hir:i=r:=by omega
  subst hir;rw[if_neg (by omega)];refine As (Aa (Aa (Af (Ab (Ar (Qm Y (Qx (Au rv.any Y Cr Y) Y (Qm Y (Qc call129 Y (ON i c hr hc h) (fun z h2 ms2 l2 hF=>?_))))))))));obtain⟨rfl,ev,m,rfl,rfl,hO⟩:=hF;have oe:=hO.o1;have re:Rd h [m] ev 2 (i*c) ((replicate (i*c) (0:Int)).flatMap QM):=by have:=(hO.rd (h:=h) (ms:=[m]) Mh).rd;rwa [length_replicate]at this
  refine CG [.int .i64 0,.int .i64 0,.slice none 0 0] Y Ea Y Y (fun g6=>?_);refine Sa 0 [_,_,_] Ea Y (by simp[ov,oe]) ?_;refine Am (Az fun h3 l3 hS6=>?_);have e6:∀ms,Cell h3 ms ((⟨g6,0,none⟩:Addr).add 2) ev:=fun ms=>(hS6 2 _ Y).any;have gS6:∀ms,Seg h3 ms (⟨g6,0,none⟩:Addr) [.int .i64 i,.int .i64 c,ev]:=fun ms=>hS6.any;refine Ac (Ar (Qf JZ Y (Ql Y LU (e6 _) (Qx (Ef re Y LU Y) Y (Qm Y (Am ?_))))));refine Ap Y (fun hz=>?_) (fun hz=>?_)
  ·have hz':i*c=0:=by omega
   have hL:replicate (i*c) (0:Int)=CI i c f:=by have h1:=Cy i c f;rw[hz']at h1;rw[hz',List.length_eq_zero_iff.1 h1];rfl
   rw[hL]at hO;refine Ar (Qx (oG Y Pg Ea (gS6 _)) Y ?_);refine Sa 1 [_,_,_] Ea Y (by simp[ov,oe]) ?_;refine Am (An (Ae ?_));exact By (vs:=[_,_,_]) 1 Y Y Pg Y Ea Y Y (⟨l3,ev,m,Y,Y,hO⟩)
  ·refine Ah (Ab ?_);have rv3:=rv.le l3;refine Ac (Ar (Qm Y (Qx (Au rv3.any Y Cr Y) Y (Qm Y (Am (Ag ?_))))))
   refine Aw (fun q sl h' ms'=>∃(k:Nat) (mo:Hp),i-k=q/\sl=[(0,v),(2,.pointer (some ⟨g2,0,none⟩)),(3,.int .i64 c),(6,.pointer (some ⟨g6,0,none⟩)),(31,v),(32,.int .i64 i),(33,.int .i64 k)]/\h3.le h'/\ms'=[mo,Bl g2 106 [.int .i64 0,.int .i64 0,.slice none 0 0]]/\k<=i/\OwnL QM 2 172 mo ev (CI i c (TG f k 0))) (i-0) _ ⟨0,_,Y,Y,DT,Y,by omega,by
    have:CI i c (TG f 0 0)=replicate (i*c) 0:=by rw[Sg];refine Bg fun a _ b _=>?_;unfold TG;rw[if_neg (by omega)]
    rw[this];exact hO⟩ Qs ?_
   rintro q sl h' ms' ⟨k,mo,rfl,rfl,lh,rfl,hk,hO⟩;have rv4:=rv3.le lh;refine Ar (Qm Y (Am (Ac ?_)));refine Ap Y (fun hlt=>?_) (fun hlt=>?_)
   ·have hki:k<i:=by omega
    have hkR:k<Rs.length:=by omega
    obtain⟨rk,hrk⟩:∃rk,Rs.getD k undef=rk:=⟨_,Y⟩
    have hRk:=hRs k hki;rw[hrk]at hRk;have hRk4:=hRk.up (AJ l3 lh);have cR:∀ms,Cell h' ms ((AE v).add (k*1)) rk:=fun ms=>((hv.any (ms:=ms)).cell0 hkR (by rw[<-hrk];simp[List.getD,hkR,cU])).le (AJ l3 lh);have rrk:Rd h' [] rk 1 c ((FB c (f k)).flatMap cI):=by have:=hRk4.rd;rwa [Cd]at this
    have ork:=rrk.one;refine Ah (Ab (Ac (Ag (Ar (Qm Y (Qx (BE (k) rv4.any Y Cr Cv Y Y) Y (Ql Y AU (cR _) (Qm Y (Qm Y (BH (Qm Y (Qx (Au rrk.any Y AU Y) Y (Qm Y (Am (Ag ?_)))))))))))))));refine Aw (fun q sl hh ms'=>∃(t:Nat) (mo:Hp),c-t=q/\sl=[(0,v),(2,.pointer (some ⟨g2,0,none⟩)),(3,.int .i64 c),(6,.pointer (some ⟨g6,0,none⟩)),(31,v),(32,.int .i64 i),(33,.int .i64 k),(7,.int .i64 k),(38,rk),(39,.int .i64 c),(40,.int .i64 t)]/\h'.le hh/\ms'=[mo,Bl g2 106 [.int .i64 0,.int .i64 0,.slice none 0 0]]/\t<=c/\OwnL QM 2 172 mo ev (CI i c (TG f k t))) (c-0) _ ⟨0,mo,Y,Y,DT,Y,by omega,hO⟩ Qs ?_;rintro q sl hh ms' ⟨t,mo,rfl,rfl,lhh,rfl,ht,hO⟩;have lhh':=AJ lh lhh;refine Ar (Qm Y (Am (Ac ?_)));refine Ap Y (fun hlt2=>?_) (fun hlt2=>?_)
    ·have htc:t<c:=by omega
     have htv:t<(FB c (f k)).length:=by rw[Cd];exact htc
     have cX:∀ms,Cell hh ms ((AE rk).add (t*1)) (.int .i64 (f k t)):=fun ms=>((hRk4.any (ms:=ms)).cell0 htv (by simp[FB,cI])).le lhh;have e6:∀ms,Cell hh ms ((⟨g6,0,none⟩:Addr).add 2) ev:=fun ms=>(e6 ms).le lhh';have hix:k*c+t<i*c:=Gg hki htc;have hcast:(k:Int)*c=((k*c:Nat):Int):=(Int.natCast_mul k c).symm;have reo:Rd hh [mo] ev 2 (i*c) ((CI i c (TG f k t)).flatMap QM):=by have:=(hO.rd (h:=hh) (ms:=[mo]) Mh).rd;rwa [Cy]at this
     refine Ah (Ab (Ac (Ag (Ar (Qm Y (Qx (AB (t) (rrk.le lhh).any Y AU A5 Y Y (by omega) (by omega)) Y (Ql Y U3 (cX _) (Qm Y (Qm Y (Am (A7 9 CW (by kernel_rfl) Y (Wf JZ Y (Wl Y LU (e6 _) (Wm Y (Wm Y (AK (oM Y) Y Y (Wm Y (AK (oA Y) Y Y (Wm Y (AK (AI Y call126 Y (Vw (f k t) (hb k hki t htc) _ _)) Y Y (AZ (Qx (BI (k*c+t) reo Y LU Cz Y Y (by omega) (by omega)) Y ?_))))))))))))))))))))));refine Fk 0 (k*c+t) (f k t) hO Y Cz Y Y Y (X6 _) Y (by rw[Cy];exact hix) Y Y (fun mo' hO'=>?_);rw[Hk _ htc,V1]at hO';refine Al (Ai (Ab (Ad (Qx (oA Y) Y (Qm Y (Al ?_))))));exact Ak (c-(t+1)) _ (by omega) ⟨t+1,mo',Y,Y,lhh,Y,by omega,hO'⟩ Qs
    ·have htc:t=c:=by omega
     subst htc;rw[Y4]at hO;refine As (Aa (Aa (Af (Ai (Ab (Ad (Qx (oA Y) Y (Qm Y (Al ?_)))))))));exact Ak (i-(k+1)) _ (by omega) ⟨k+1,mo,Y,Y,lhh',Y,by omega,hO⟩ Qs
   ·have hki:k=i:=by omega
    subst hki;have gS6:∀ms,Seg h' ms (⟨g6,0,none⟩:Addr) [.int .i64 k,.int .i64 c,ev]:=fun ms=>(gS6 ms).le lh;refine As (Aa (Aa (Af (Ab (Ar (Qx (oG Y Pg Ea (gS6 _)) Y ?_))))));refine Sa 1 [_,_,_] Ea Y (by simp[ov,oe]) ?_;refine Am (An ?_);have hL:CI k c (TG f k 0)=CI k c f:=Bg fun a ha b _=>by unfold TG;rw[if_pos (.inl ha)]
    rw[hL]at hO;exact By (vs:=[_,_,_]) 1 Y Y Pg Y Ea Y Y (⟨AJ l3 lh,ev,mo,Y,Y,hO⟩)
theorem KR:∀{U:List Ce},(U.map fun a=>a.c.id).Nodup->∀{x:Ce},x∈U->Bm (FD U) x.c.id=some x
 | [],_,x,hx=>by cases hx
 | a::U,hn,x,hx=>by
  rw[map_cons,List.nodup_cons]at hn;unfold Bm FD;rw[map_cons,List.find?_cons];by_cases h:a.c.id=x.c.id
  ·have:a=x:=by
    rcases List.mem_cons.1 hx with e|e
    ·exact e.symm
    ·exact absurd (List.mem_map.2 ⟨x,e,h.symm⟩) hn.1
   subst this;simp
  ·have hx':x∈U:=by
    rcases List.mem_cons.1 hx with e|e
    ·exact absurd (by rw[e]) h
    ·exact e
   have:=KR hn.2 hx';unfold Bm FD at this;simp only[h];simpa using this
theorem Yf(g:Nat)(U:List Ce)(cf:FuncId)(cs:List Value)(pr:Cl->Bool)(h:Hp)(R:RdT h g U)(hnd:(U.map fun a=>a.c.id).Nodup)(hid:∀a∈U,BN a.c.id)(hn:U.length<=1000000)
  (hc:∀xs w,(callFunc cf xs).run Tryz.prog w=.ok (.enter cf xs) w)
  (hp:∀a∈U,∀h',h.le h'->∀ms,FnV Tryz.prog cf ([]++[Value.agg (cC a).toArray]++cs).toArray h' ms (.bool (pr a.c))) :
  FnT Tryz.prog 80 #[.pointer (some ⟨g,0,none⟩),.func (.func cf) #[] cs.toArray] h [] (fun r h' ms'=>h.le h'/\∃v m,r=.agg #[v]/\ms'=[m]/\OwnL cC 3 52 m v (U.filter fun a=>pr a.c)):=by
 obtain⟨gm,mT,bs,vids,hS,hM,lM,hV,hsd⟩:=R;have ovi:=hV.rd.one;have hVl:(U.map fun a=>a.c.id).length=U.length:=by rw[length_map]
 have rV:Rd h [] vids 1 U.length ((U.map fun a=>a.c.id).flatMap cI):=by have:=hV.rd;rwa [hVl]at this
 have e0:∀ms,Cell h ms ((⟨g,0,none⟩:Addr).add 0) (.map (some gm)):=fun ms=>(hS 0 _ Y).any;have e1:∀ms,Cell h ms ((⟨g,0,none⟩:Addr).add 1) vids:=fun ms=>(hS 1 _ Y).any;refine Aq func80 ntmps80 Y Y (fun w0 hw0=>?_);simp only[AW];refine Ar (CG [.slice none 0 0] Y AY Y Y (fun g4=>BH (CG [.slice none 0 0] Y AY Y Y (fun g5=>Am (Ac (Ar (Qm Y (Qm Y (Qf M8 Y (Ql Y AU (e1 _) (Qx (Au rV.any Y AU Y) Y (Qm Y (Am (Ag (BG ?_)))))))))))))))
 refine Aw (fun q sl h' ms'=>∃(i:Nat) (vo:Value) (mo:Hp),U.length-i=q/\sl=[(0,.pointer (some ⟨g,0,none⟩)),(1,.func (.func cf) #[] cs.toArray),(4,.pointer (some ⟨g4,0,none⟩)),(5,.pointer (some ⟨g5,0,none⟩)),(11,vids),(12,.int .i64 U.length),(13,.int .i64 i)]/\h.le h'/\ms'=[mo,Bl g5 29 [vo],Bl g4 29 [.slice none 0 0]]/\i<=U.length/\OwnL cC 3 52 mo vo ((U.take i).filter fun a=>pr a.c))
  (U.length-0) _ ⟨0,_,Hp.emp,rfl,rfl,DT,rfl,by omega,OwnL.nil Cw⟩ Qs ?_
 rintro q sl h' ms' ⟨i,vo,mo,rfl,rfl,lh,rfl,hi,hO⟩;have e0:∀ms,Cell h' ms ((⟨g,0,none⟩:Addr).add 0) (.map (some gm)):=fun ms=>(e0 ms).le lh;have hV4:=hV.up lh;have rV4:=rV.le lh;have ovo:=hO.o1;refine Ar (Qm Y (Am (Ac ?_)));refine Ap Y (fun hlt=>?_) (fun hlt=>?_)
 ·have hiU:i<U.length:=by omega
  obtain⟨x,hx⟩:∃x,U[i]=x:=⟨_,Y⟩
  have hxm:x∈U:=by rw[<-hx];exact getElem_mem hiU
  have hxi:=hid x hxm;have oxv:=(hsd x hxm).rd.one;have cI_:∀ms,Cell h' ms ((AE vids).add (i*1)) (.int .i64 x.c.id):=fun ms=>(hV4.any (ms:=ms)).cell0 (j:=i) (by rw[hVl];exact hiU) (by rw[getElem_map,hx];rfl);have hg1:(Bm (FD U) x.c.id).getD default=x:=by rw[KR hnd hxm];rfl
  refine Ah (Ab ?_);refine A8 (fun sl h'' ms'=>∃(vo':Value) (mo':Hp),sl=[(0,.pointer (some ⟨g,0,none⟩)),(1,.func (.func cf) #[] cs.toArray),(4,.pointer (some ⟨g4,0,none⟩)),(5,.pointer (some ⟨g5,0,none⟩)),(11,vids),(12,.int .i64 U.length),(13,.int .i64 i)]/\h'=h''/\ms'=[mo',Bl g5 29 [vo'],Bl g4 29 [.slice none 0 0]]/\OwnL cC 3 52 mo' vo' ((U.take (i+1)).filter fun a=>pr a.c)) ?_ (fun s h ms hI=>?_)
  ·have htk:U.take (i+1)=U.take i++[x]:=by rw[<-hx];exact take_succ_eq_append_getElem hiU
   rw[htk,List.filter_append];refine Ag (Ar (Qx (BE (i) rV4.any Y AU A5 Y Y) Y (Ql Y U3 (cI_ _) (Qm Y (BH (Qm Y (Qm Y (Qm Y (Qf Fc Y (Ql Y GR (e0 _) (Qm Y (Qx (Ca (V:=vC) (z:=(default:Ce)) (u:=x) x.c.id hg1 Bu hM (AJ lM lh) Y GR LD Y Y hxi) Y (Qx (Ci Y Y hc Y (hp x hxm h' lh _)) Y (Am ?_))))))))))))));refine Bx Y (fun hpx=>?_) (fun hpx=>?_)
   ·have hf:[x].filter (fun a=>pr a.c)=[x]:=by simp[hpx]
    rw[hf];have hol:((U.take i).filter fun a=>pr a.c).length<=1000000:=Nat.le_trans (List.length_filter_le _ _) (by rw[length_take];omega);refine BM (n:=12) (bs:=[true,false,true,true,true,true,true,true,false,false,true,false]) [true,false,true,true,true,true,true,true,false,false,true] CW (by kernel_rfl) (by kernel_rfl) Y Y (QF B5 Y (Qq Y (Qq Y (QF Fc Y (QL Y GR (e0 _) (Qq Y (Qp Y (Ca (V:=vC) (z:=(default:Ce)) (u:=x) x.c.id hg1 Bu hM (AJ lM lh) Y GR LD Y Y hxi) (QF B5 Y ?_))))))));unfold FU;simp only[cons_append,nil_append];refine Bf [1,8] (by kernel_rfl) Y ?_;refine AD Y ?_ ?_
    ·refine Ql Y A9 (Cell.blk 1 Y Y) (Qw (Qo 8 Y (Ao [_,_,_] Y A9 AG Y (by rfl) Y Y (by omega) Y Y Y (fun g33=>Qw (Qo 9 Y ?_)))));refine Bb 1 hO (RdL.one Cw (x:=x) Mh Y) Y A9 AG Y (by omega) Y Y Y (Dh (l:=[x]) (fun y hy=>by rw[List.mem_singleton.1 hy];exact hsd x hxm)) (by simp only[length_singleton];omega) (by simp only[length_singleton];omega) rfl rfl rfl (fun v6 m6 hO6=>?_);have ov6:=hO6.o1;refine Qw (Qo 11 Y (AP 2 0 Y JT Y Y ov6 Y Y (by simp) rfl rfl (Qw (Qe ?_))));refine Ai (AO ?_);exact AF _ ⟨v6,m6,Y,Y,Y,hO6⟩ Qs
    refine AD Y ?_ ?_
    ·refine Ao [_,_,_] Y A9 AG Y (by rfl) Y Y (by omega) Y Y Y (fun g33=>Qw (Qo 1 Y (Ql Y A9 (Cell.blk 2 Y Y) (Qw (Qo 9 Y ?_)))));refine Bb 1 hO (RdL.one Cw (x:=x) Mh Y) Y A9 AG Y (by omega) Y Y Y (Dh (l:=[x]) (fun y hy=>by rw[List.mem_singleton.1 hy];exact hsd x hxm)) (by simp only[length_singleton];omega) (by simp only[length_singleton];omega) rfl rfl rfl (fun v6 m6 hO6=>?_);have ov6:=hO6.o1;refine Qw (Qo 11 Y (AP 2 0 Y JT Y Y ov6 Y Y (by simp) rfl rfl (Qw (Qe ?_))));refine Ai (AO ?_);exact AF _ ⟨v6,m6,Y,Y,Y,hO6⟩ Qs
    exact Bd
   ·have hf:[x].filter (fun a=>pr a.c)=[]:=by simp[hpx]
    rw[hf,append_nil];refine Ah (Ai ?_);exact AF _ ⟨vo,mo,Y,Y,Y,hO⟩ Qs
  ·obtain⟨vo',mo',rfl,rfl,rfl,hO'⟩:=hI;refine Ad (Qx (oA Y) Y (Qm Y (Al ?_)));exact Ak (U.length-(i+1)) _ (by omega) ⟨i+1,vo',mo',Y,Y,lh,Y,by omega,hO'⟩ Qs
 ·have hiU:i=U.length:=by omega
  subst hiU;rw[take_length]at hO;refine As (Aa (Aa (Af (Ab (Ar (Qx (oG Y CB AY (Seg.blk 1 Y)) Y ?_))))));refine Sa 2 [_] AY Y (by simp[ovi,ovo]) ?_;refine Am (An (CC 1 Y (AO ?_)));exact By (vs:=[_]) 1 Y Y CB Y AY Y Y (⟨lh,vo,mo,Y,Y,hO⟩)
theorem U2(g:Nat)(U:List Ce)(cf:FuncId)(cs:List Value)(pr:Cl->Bool)(h:Hp)(R:RdT h g U)(hnd:(U.map fun a=>a.c.id).Nodup)(hid:∀a∈U,BN a.c.id)(hn:U.length<=1000000)
  (hc:∀xs w,(callFunc cf xs).run Tryz.prog w=.ok (.enter cf xs) w)
  (hp:∀a∈U,∀h',h.le h'->∀ms,FnV Tryz.prog cf ([]++[Value.agg (cC a).toArray]++cs).toArray h' ms (.bool (pr a.c))) :
  FnT Tryz.prog 132 #[.pointer (some ⟨g,0,none⟩),.func (.func cf) #[] cs.toArray] h [] (fun r h' ms'=>h.le h'/\∃m,ms'=[m]/\OwnL cI 1 3 m r ((U.filter fun a=>pr a.c).map fun a=>a.c.id)):=by
 refine Aq func132 ntmps132 Y Y (fun w0 hw0=>?_);simp only[AW];refine Ar (Qm Y (BH (Qm Y (Am (Ac (Ar (Qm Y (Qm Y (Qc call80 Y (Yf g U cf cs pr h R hnd hid hn hc hp) (fun r h1 ms1 l1 hF=>?_))))))))));obtain⟨l1',v,m,rfl,rfl,hO⟩:=hF;refine Bv hO fun h2 l2 hQ=>?_;obtain⟨W,hW⟩:∃W,(U.filter fun a=>pr a.c)=W:=⟨_,Y⟩
 rw[hW]at hQ;have hWl:W.length<=1000000:=by rw[<-hW];exact Nat.le_trans (List.length_filter_le _ _) hn
 have hov:∀x∈W,x.v.oneCell'=true:=fun x hx=>by obtain⟨gm,mT,bs,vids,hS,hM,lM,hV,hsd⟩:=R;rw[<-hW]at hx;exact(hsd x (List.mem_filter.1 hx).1).rd.one
 have ov:=hQ.rd.one;refine Qx (D0 Y CB Y A9 Y Y Y) Y (Qx (Au hQ.rd.any Y A9 Y) Y (Qm Y (Am (Ag (BG ?_)))))
 refine Aw (fun q sl h' ms'=>∃(i:Nat) (vo:Value) (mo:Hp),W.length-i=q/\sl=[(5,vo),(11,v),(12,.int .i64 W.length),(13,.int .i64 i)]/\h2.le h'/\ms'=[mo]/\i<=W.length/\OwnL cI 1 3 mo vo ((W.take i).map fun a=>a.c.id))
  (W.length-0) _ ⟨0,_,Hp.emp,rfl,rfl,DT,rfl,by omega,OwnL.nil Be⟩ Qs ?_
 rintro q sl h' ms' ⟨i,vo,mo,rfl,rfl,lh,rfl,hi,hO⟩;have hQ4:=hQ.up lh;have ovo:=hO.o1;refine Ar (Qm Y (Am (Ac ?_)));refine Ap Y (fun hlt=>?_) (fun hlt=>?_)
 ·have hiW:i<W.length:=by omega
  obtain⟨x,hx⟩:∃x,W[i]=x:=⟨_,Y⟩
  have oxv:=hov x (by rw[<-hx];exact getElem_mem hiW);have gX:∀ms,Seg h' ms ((AE v).add (i*3)) (cC x):=fun ms=>by rw[<-hx];exact(hQ4.any (ms:=ms)).seg hiW
  have htk:(W.take (i+1)).map (fun a=>a.c.id)=(W.take i).map (fun a=>a.c.id)++[x.c.id]:=by rw[take_succ_eq_append_getElem hiW,map_append,hx];rfl
  have hol:((W.take i).map fun a=>a.c.id).length<=1000000:=by rw[length_map,length_take];omega
  refine Ah (Ab (Ac (Ag (Ar (Qx (BE (i) hQ4.rd.any Y A9 AG Y Y) Y (Qx (oG Y Ei AG (gX _)) Y (CG [.int .i64 0,.int .i64 0,.slice none 0 0] Y AG Y Y (fun g7=>?_))))))));refine Sa 0 [_,_,_] AG Y (by simp[ov,ovo,oxv]) ?_;refine GJ (Qm Y (Qf Bi Y (Ql Y U3 (Cell.blk 0 Y Y) (Ao [_] Y AU A5 Y (by rfl) Y Y (by omega) Y Y Y (fun g20=>AR 2 hO (RdL.one Be (x:=x.c.id) Mh Y) Y AU A5 Y (by omega) Y Y Y B8 (by simp only[length_singleton];omega) (by simp only[length_singleton];omega) rfl rfl rfl (fun v6 m6 hO6=>?_))))));rw[<-htk]at hO6;have ov6:=hO6.o1;refine Qm Y (Al (Ai (Ab (Ad (Qx (oA Y) Y (Qm Y (Al ?_)))))));refine AO (AO ?_);exact Ak (W.length-(i+1)) _ (by omega) ⟨i+1,v6,m6,Y,Y,lh,Y,by omega,hO6⟩ Qs
 ·have hiW:i=W.length:=by omega
  subst hiW;rw[take_length]at hO;refine As (Aa (Aa (Af (Ab (Ar (Qm Y (Qm Y (Am (An ?_)))))))));exact Av Y Y (⟨AJ l1' (AJ l2 lh),mo,Y,by rw[hW];exact hO⟩)
theorem YV(x:Ce)(gd:Nat)(d:Int)(h:Hp)(hD:∀ms,Cell h ms (⟨gd,0,none⟩:Addr) (.int .i64 d))(ox:x.v.oneCell'=true) :
  FnT Tryz.prog 133 #[.agg (cC x).toArray,.pointer (some ⟨gd,0,none⟩)] h [] (fun r _ _=>r=.bool (decide (x.c.dim=d))):=by
 refine Aq func133 ntmps133 Y Y (fun w0 hw0=>?_);simp only[AW];refine Ar (AV [_,_,_] Y Y (by rfl) Y Y Y (fun g2=>Qm Y (Am (Az fun h1 l1 hS=>?_))));have e1:∀ms,Cell h1 ms ((⟨g2,0,none⟩:Addr).add 1) (.int .i64 x.c.dim):=fun ms=>(hS 1 _ Y).any;have e2:∀ms,Cell h1 ms (⟨gd,0,none⟩:Addr) (.int .i64 d):=fun ms=>(hD ms).le l1;refine Ar (Qf BJ Y (Ql Y U3 (e1 _) (Ql Y U3 (e2 _) (Qm Y (Qm Y (Am (An ?_)))))));exact Av Y Y (Y)
theorem NL(l:List Ce)(v:Value)(d:Int)(hp:Hp)(hK:RgC l)(hR:RdC hp v l) :
  FnT Tryz.prog 63 #[.agg #[v],.int .i64 d] hp [] (fun r h' ms'=>hp.le h'/\∃m,ms'=[m]/\OwnL cI 1 3 m r (((cn l).filter fun c=>decide (c.dim=d)).map Cl.id)):=by
 have ov:=hR.q.rd.one;refine Aq func63 ntmps63 Y Y (fun w0 hw0=>?_);simp only[AW];refine Ar (AV [_] Y Y (by rfl) Y Y Y (fun g2=>AV [_] Y Y (by rfl) Y Y Y (fun g3=>Qm Y (Am (Bp 1 Y fun h1 l1 hS2=>(Az fun h2 l2 hS3=>?_))))));have hR2:=(hR.up l1).up l2;have gS2:∀ms,Seg h2 ms (⟨g2,0,none⟩:Addr) [v]:=fun ms=>(hS2.le l2).any;refine Ar (Qx (oG Y CB AY (gS2 _)) Y (Qc call64 Y (NB l v h2 hK hR2) (fun r h3 ms3 l3 hF=>?_)));obtain⟨l3',rfl,g,A,rfl,hA,hT⟩:=hF;have hO:=hK.pc.toOfOk;have hAl:A.length=l.length:=by have:=congrArg List.length hA;rwa [length_map,CY]at this
 have hAid:(A.map fun a=>a.c.id)=(cn l).map Cl.id:=by rw[<-hA,map_map];rfl
 have hnd:(A.map fun a=>a.c.id).Nodup:=by rw[hAid];exact hK.F.rgt.nd
 have hid:∀a∈A,BN a.c.id:=fun a ha=>by
  have h1:a.c∈cn l:=by rw[<-hA];exact List.mem_map.2 ⟨a,ha,Y⟩
  exact hK.cI h1
 have hov:∀a∈A,a.v.oneCell'=true:=fun a ha=>by obtain⟨gm,mT,bs,vids,hS,hM,lM,hV,hsd⟩:=hT;exact(hsd a ha).rd.one
 have eD:∀h',h3.le h'->∀ms,Cell h' ms (⟨g3,0,none⟩:Addr) (.int .i64 d):=fun h' lh ms=>((hS3 0 _ Y).any.le l3').le lh;refine Qx (BV Y Y Y) Y ?_;refine Qc call132 Y (U2 g A 133 [.pointer (some ⟨g3,0,none⟩)] (fun c=>decide (c.dim=d)) h3 hT hnd hid (by rw[hAl];exact hO.n) call133 (fun a ha h' lh ms=>EO (YV a g3 d h' (eD h' lh) (hov a ha)) ms)) (fun r h4 ms4 l4 hF=>?_);obtain⟨l4',m,rfl,hOm⟩:=hF
 have e:(A.filter fun a=>decide (a.c.dim=d)).map (fun a=>a.c.id)=((cn l).filter fun c=>decide (c.dim=d)).map Cl.id:=by rw[<-hA,List.filter_map,map_map];rfl
 rw[e]at hOm;refine Qm Y (Am (An ?_));exact Av Y Y (⟨AJ l1 (AJ l2 (AJ l3' l4')),m,Y,hOm⟩)
theorem AaK(A:List Ce)(j:Nat)(hj:j<(FD A).length):(FD A)[j].2=A[j]'(by unfold FD at hj;rwa [length_map]at hj):=by simp only[FD,getElem_map]
def Kv(o:List Cl)(D:Int):Prop:=-1<=D/\(∀c∈o,c.dim<=D)/\(D=-1\/∃c∈o,c.dim=D)
theorem Vh(l:List Ce)(v:Value)(hp:Hp)(hK:RgC l)(hR:RdC hp v l) :
  FnT Tryz.prog 61 #[.agg #[v]] hp [] (fun r h' ms'=>hp.le h'/\ms'=[]/\∃D,r=.int .i64 D/\Kv (cn l) D):=by
 have ov:=hR.q.rd.one;refine Aq func61 ntmps61 Y Y (fun w0 hw0=>?_);simp only[AW];refine Ar (AV [_] Y Y (by rfl) Y Y Y (fun g1=>Qm Y (Am (Az fun h1 l1 hS1=>?_))));have hR1:=hR.up l1;have gS1:∀ms,Seg h1 ms (⟨g1,0,none⟩:Addr) [v]:=fun ms=>hS1.any;refine Ar (Qm Y (Am (Ac (Ar (Qx (oG Y CB AY (gS1 _)) Y (Qc call64 Y (NB l v h1 hK hR1) (fun r h3 ms3 l3 hF=>?_)))))));obtain⟨l3',rfl,g,A,rfl,hA,gm,mT,bs,vids,hS,hM,lM,hV,hsd⟩:=hF;have e0:∀ms,Cell h3 ms ((⟨g,0,none⟩:Addr).add 0) (.map (some gm)):=fun ms=>(hS 0 _ Y).any;have hTl:(FD A).length=A.length:=by unfold FD;rw[length_map]
 refine Qm Y (Qf Fc Y (Ql Y GR (e0 _) (Jb hM lM Y GR Y Y Y Y (fun gi mi0 I0=>Am (Ag ?_)))))
 refine Aw (fun q sl h' ms'=>∃(vis:List Nat) (mi:Hp) (D:Int),A.length-vis.length=q/\sl=[(3,.int .i64 D),(11,.pointer (some ⟨gi,0,none⟩))]/\h3=h'/\ms'=[mi]/\HM gi gm mT mi bs vis/\-1<=D/\(∀j (hj:j<A.length),j∈vis->A[j].c.dim<=D)/\(D=-1\/∃a∈A,a.c.dim=D))
  (A.length-0) _ ⟨[],mi0,-1,rfl,rfl,rfl,rfl,I0,by omega,fun j hj h=>(nomatch h),.inl rfl⟩ Qs ?_
 rintro q sl h' ms' ⟨vis,mi,D,rfl,rfl,rfl,rfl,I,hD1,hDv,hDe⟩;refine Ar ?_;refine KW 0 hM I lM Y Y Y Y Y Y (fun hall=>?_) (fun j hj mi' hjv I'=>?_)
 ·refine Qm Y (Am (Ac (AQ Y (As (Aa (Aa (Af (Ab (Ar (Qm Y (Qm Y (Am (An (AO ?_))))))))))))));exact Av Y Y (⟨AJ l1 l3',Y,D,Y,hD1,fun c hc=>by rw[<-hA]at hc;obtain⟨a,ha,rfl⟩:=List.mem_map.1 hc;obtain⟨j,hj,rfl⟩:=List.mem_iff_getElem.1 ha;exact hDv j hj (hall j (by rw[hTl];exact hj)),by rcases hDe with h|⟨a,ha,h⟩;exact .inl h;exact .inr ⟨a.c,by rw[<-hA];exact List.mem_map.2 ⟨a,ha,Y⟩,h⟩⟩)
 ·have hjA:j<A.length:=by omega
  have hTj:(FD A)[j].2=A[j]:=AaK A j hj;obtain⟨x,hx⟩:∃x,A[j]=x:=⟨_,Y⟩
  have hxm:x∈A:=by rw[<-hx];exact getElem_mem hjA
  have oxv:=(hsd x hxm).rd.one;refine Qm Y (Am (Ac (BC Y (Ah (Ab (Ag (Ar (Qx (Je hM I' lM (by simp) hj rfl rfl) rfl ?_))))))));rw[hTj,hx];refine Qm Y (CG [.int .i64 0,.int .i64 0,.slice none 0 0] Y AG Y Y (fun g5=>?_));refine Sa 0 [_,_,_] AG Y (by simp[ov,oxv]) ?_;refine GJ (Qm Y (Qf BJ Y (Ql Y U3 (Cell.blk 0 Y Y) (Qx (Jq Y Y Y) Y (Qm Y (Al (Ai (AO ?_))))))));refine Ak (A.length-(vis.length+1)) _ ?_ ⟨vis++[j],mi',max D x.c.dim,by simp,rfl,rfl,rfl,I',by omega,fun i hi' hv=>?_,?_⟩ Qs
  ·have hlt:vis.length<(FD A).length:=by
    have h1:=Go.Kuhn.nodup_le (vis++[j]) (range (FD A).length) I'.nodup fun x hx=>by rw[List.mem_range,<-hM.len];exact I'.lt x hx
    simp at h1;omega
   omega
  ·rcases List.mem_append.1 hv with hv|hv
   ·have:=hDv i hi' hv;omega
   ·simp at hv;subst hv;rw[hx];omega
  ·rcases (by omega:max D x.c.dim=D\/max D x.c.dim=x.c.dim) with e|e
   ·rw[e];exact hDe
   ·rw[e];exact .inr ⟨x,hxm,Y⟩
end Go.Proofs.Q

namespace Go.Proofs.Q
open Go.Eng Go.RowKit Go.Lin Go.Sort Go.Srt
def UJ(o:List Cl)(c:Int):List Int:=(Gp o c).sd.map Prod.fst
open Classical in
noncomputable def U8(o:List Cl)(c:Int):List Int:=(o.map Cl.id).filter fun x=>decide (Rch (UJ o) c x)
theorem cloL_mem{o:List Cl}{c x:Int}:x∈U8 o c<->x∈o.map Cl.id/\Rch (UJ o) c x:=by
 classical
 unfold U8;rw[List.mem_filter,decide_eq_true_iff]
end Go.Proofs.Q
namespace Go.Proofs.Q
open Go.Eng Go.RowKit Go.Lin
variable {o:List Cl} {j i:Nat}
def sgn(sd:List (Int×Int))(c:Int):Int:=(sd.map fun s=>if s.1=c then s.2 else 0).sum
theorem HG(c:Int):sgn [] c=0:=rfl
theorem IZ(s:Int×Int)(sd:List (Int×Int))(c:Int):sgn (s::sd) c=(if s.1=c then s.2 else 0)+sgn sd c:=by unfold sgn;rw[map_cons,sum_cons]
theorem Lb(s:Int×Int)(sd:List (Int×Int))(c:Int):sgn (sd++[s]) c=sgn sd c+if s.1=c then s.2 else 0:=by unfold sgn;simp
theorem La{c:Int}:∀{sd:List (Int×Int)},(∀s∈sd,s.1≠c)->sgn sd c=0
 | [],_=>rfl
 | s::sd,h=>by rw[IZ,if_neg (h s Mh),La fun s hs=>h s (List.Mem.tail _ hs)];rfl
theorem MH{c:Int}{sd:List (Int×Int)}(h:sgn sd c≠0):∃s∈sd,s.1=c:=Classical.byContradiction fun q=>h (La fun s hs e=>q ⟨s,hs,e⟩)
def DM(o:List Cl)(i j:Nat):Int:=sgn (o.getD j default).sd (o.getD i default).id
def OF(o:List Cl)(c:Int):Nat:=(o.map Cl.id).idxOf c
theorem Hn{y:Cl}(hy:y∈o)(hn:(o.map Cl.id).Nodup):OF o y.id<o.length/\o.getD (OF o y.id) default=y:=by
 have hm:y.id∈o.map Cl.id:=List.mem_map.2 ⟨y,hy,Y⟩;have hlt:=List.idxOf_lt_length_of_mem hm;have h1:OF o y.id<o.length:=by unfold OF;simpa using hlt
 refine⟨h1,?_⟩;rw[show o.getD (OF o y.id) default=o[OF o y.id] by simp[List.getD,h1]]
 have h2:(o[OF o y.id]).id=y.id:=by have:=List.getElem_idxOf hlt;rw[getElem_map]at this;exact this
 have h3:=CT hn (getElem_mem h1);rw[h2,CT hn hy]at h3;exact h3.symm
theorem LA(hn:(o.map Cl.id).Nodup)(hi:i<o.length)(hj:j<o.length)(h:(o.getD i default).id=(o.getD j default).id):i=j:=by
 rw[show o.getD i default=o[i] by simp[List.getD,hi],show o.getD j default=o[j] by simp[List.getD,hj]]at h;have hp:=List.pairwise_iff_getElem.1 hn;rcases Nat.lt_trichotomy i j with h1|h1|h1
 ·have:=hp i j (by simpa using hi) (by simpa using hj) h1;simp only[getElem_map]at this;exact absurd h this
 ·exact h1
 ·have:=hp j i (by simpa using hj) (by simpa using hi) h1;simp only[getElem_map]at this;exact absurd h.symm this
theorem Vo(hn:(o.map Cl.id).Nodup)(g:Nat->Int):∀sd:List (Int×Int),(∀s∈sd,∃y∈o,y.id=s.1)->sm o.length (fun k=>g k*sgn sd (o.getD k default).id)=(sd.map fun s=>s.2*g (OF o s.1)).sum
 | [],_=>by rw[List.map_nil];exact G3 fun i _=>by rw[HG,Int.mul_zero]
 | s::sd,h=>by
  obtain⟨y,hy,e⟩:=h s Mh;obtain⟨h1,h2⟩:=Hn hy hn;rw[e]at h1 h2;rw[map_cons,sum_cons,<-Vo hn g sd fun s hs=>h s (List.Mem.tail _ hs),Bn (g:=fun k=>g k*(if s.1=(o.getD k default).id then s.2 else 0)+g k*sgn sd (o.getD k default).id) fun k _=>by rw[IZ,Int.mul_add],G9];congr 1;rw[Gn o.length (OF o s.1) _ h1 fun k hk hne=>?_]
  ·rw[h2,if_pos e.symm,Int.mul_comm]
  ·rw[if_neg,Int.mul_zero];intro e2;refine hne (LA hn hk h1 ?_);rw[h2,e,e2]
theorem KH(L:Int->List (Int×Int))(c:Int):∀s:List (Int×Int),D8 (KE L s) c=(s.map fun a=>a.2*sgn (L a.1) c).sum
 | []=>rfl
 | a::s=>by
  have ih:=KH L c s;unfold D8 KE at *;rw[List.flatMap_cons,map_append,List.sum_append,ih,map_cons,sum_cons];congr 1
  have:∀l:List (Int×Int),((l.map fun r=>(a.1,r.1,a.2*r.2)).map fun(e:Int×Int×Int)=>if e.2.1=c then e.2.2 else 0).sum=a.2*sgn l c:=fun l=>by
   induction l with
   | nil=>simp[sgn]
   | cons r l ih=>
    rw[map_cons,map_cons,sum_cons,ih,IZ,Int.mul_add];congr 1;show(if r.1=c then a.2*r.2 else 0)=_;split
    ·rfl
    ·rw[Int.mul_zero]
  exact this _
theorem PW{α:Type}{h:α->Int}:∀{l:List α},(∀s∈l,h s=0)->(l.map h).sum=0
 | [],_=>rfl
 | a::l,hl=>by rw[map_cons,sum_cons,hl a Mh,PW fun s hs=>hl s (List.Mem.tail _ hs)];rfl
theorem D1(hj:j<o.length):o.getD j default∈o:=by rw[show o.getD j default=o[j] by simp[List.getD,hj]];exact getElem_mem hj
theorem DM2(R:Rgt o)(hj:j<o.length):FC o.length (DM o) (fun k=>DM o k j) i=0:=by
 obtain⟨x,hx⟩:∃x,o.getD j default=x:=⟨_,Y⟩
 have hxm:x∈o:=by rw[<-hx];exact D1 hj
 obtain⟨c,hc⟩:∃c,(o.getD i default).id=c:=⟨_,Y⟩
 have hs:∀s∈x.sd,∃y∈o,y.id=s.1:=fun s hs=>by obtain⟨y,hy,e,_⟩:=R.sid x hxm s hs;exact⟨y,hy,e⟩
 have e1:FC o.length (DM o) (fun k=>DM o k j) i=(x.sd.map fun s=>s.2*DM o i (OF o s.1)).sum:=by rw[<-Vo R.nd (fun k=>DM o i k) x.sd hs];unfold FC;exact Bn fun k _=>by unfold DM;rw[hx]
 have e2:(x.sd.map fun s=>s.2*DM o i (OF o s.1)).sum=D8 (FE o x) c:=by unfold FE;rw[KH];congr 1;refine List.map_congr_left fun s hs'=>?_;obtain⟨y,hy,e⟩:=hs s hs';obtain⟨h1,h2⟩:=Hn hy R.nd;unfold DM;rw[hc,<-e,h2,CT R.nd hy]
 rw[e1,e2];have hd:=R.dim x hxm;rcases (by omega:2<=x.dim\/x.dim=1\/x.dim=0) with h|h|h
 ·by_cases he:∃e∈FE o x,e.2.1=c
  ·obtain⟨e,he,rfl⟩:=he;exact(R.tab x hxm h).sum e he
  ·exact(L4 fun e he' q=>he ⟨e,he',q⟩).1
 ·unfold FE;rw[KH]
  have:∀s∈x.sd,s.2*sgn (Gp o s.1).sd c=0:=fun s hs'=>by obtain⟨y,hy,e,hyd⟩:=R.sid x hxm s hs';rw[<-e,CT R.nd hy];have hnum:=R.num y hy;unfold BU at hnum;have:y.sd=[]:=List.length_eq_zero_iff.1 (by omega);rw[this,HG,Int.mul_zero]
  exact PW this
 ·have hnum:=R.num x hxm;unfold BU at hnum;have:x.sd=[]:=List.length_eq_zero_iff.1 (by omega);unfold FE;rw[this];rfl
theorem ZJ(R:Rgt o)(hi:i<o.length)(hj:j<o.length)(h:DM o i j≠0):(o.getD j default).dim=(o.getD i default).dim+1:=by obtain⟨s,hs,e⟩:=MH h;obtain⟨y,hy,e1,e2⟩:=R.sid _ (D1 hj) s hs;obtain⟨h1,h2⟩:=Hn hy R.nd;have h3:OF o y.id=i:=LA R.nd h1 hi (by rw[h2,e1,e]);rw[<-h3,h2,e2];omega
end Go.Proofs.Q
namespace Go.Proofs.Q
open Go.Proofs.Tryz
open Go.Eng Go.RowKit Go.Lin
def Shp(v:Value)(n:Nat):Prop:=(v=.slice none 0 0/\n=0)\/∃g c,v=.slice (some ⟨g,0,none⟩) n c
theorem RM{α:Type}{F:α->List Value}{sz:Nat}{el:TypeId}{m:Hp}{v:Value}{l:List α}(O:OwnL F sz el m v l):Shp v l.length:=by
 obtain⟨⟨_,h⟩,_⟩:=O;rcases h with ⟨h1,h2,_⟩|⟨g,cap,spare,h1,_⟩
 ·exact .inl ⟨h1,h2⟩
 ·exact .inr ⟨g,cap,h1⟩
theorem AbE(zs:List Int)(v:Value)(x:Int)(h:Hp)(hR:RdL cI 1 h [] v zs)(hv:Shp v zs.length)(hs:zs.Pairwise (·<=·))(hn:zs.length<=1000000)(ms:List Hp) :
  FnV Tryz.prog 130 #[v,.int .i64 x] h ms (.tuple #[.int .i64 ((zs.countP (·<x):Nat):Int),.bool (zs.contains x)]):=by
 intro w hw;rcases hv with ⟨rfl,h0⟩|⟨g,c,rfl⟩
 ·obtain rfl:zs=[]:=List.length_eq_zero_iff.1 h0;exact(Tryz.slices_BinarySearch_int_empty none 0 x w).mono fun e w' ⟨h1,h2⟩=>⟨by rw[h1];rfl,by rw[h2];exact Ext.refl _⟩
 ·refine(Tryz.slices_BinarySearch_int g 0 zs.length c zs x w (Nat.le_refl _) (by omega) (fun j hj=>?_) (by rw[take_length];exact hs)).mono fun e w' ⟨h1,q,h2⟩=>⟨by rw[h1,take_length],by rw[h2];exact⟨Y,⟨Y,Nat.le_add_right _ _⟩,Y,Nat.le_refl _,fun _ _=>rfl⟩⟩
  have hc:=(hR.any (ms:=ms)).cell0 hj (u:=.int .i64 zs[j]) Y;have:=hw.cell hc;rw[show(AE (.slice (some ⟨g,0,none⟩) zs.length c)).add (j*1)=(⟨g,0+j,none⟩:Addr) by simp only[AE,Addr.add,Nat.mul_one];split<;>simp_all]at this;simpa[List.getD,hj] using this
theorem OY:∀{zs:List Int},zs.Pairwise (· < ·)->∀{x:Int} {i:Nat} (hi:i<zs.length),zs[i]=x->zs.countP (·<x)=i
 | [],_,x,i,hi,_=>by simp at hi
 | a::zs,hp,x,i,hi,he=>by
  rw[pairwise_cons]at hp;cases i with
  | zero=>
   simp at he;subst he;rw[List.countP_cons,if_neg (by simp)];rw[List.countP_eq_zero.2 fun b hb=>by have:=hp.1 b hb;simp;omega]
  | succ i=>
   have hi':i<zs.length:=by simpa using hi
   have he':zs[i]=x:=by simpa using he
   have:=hp.1 _ (getElem_mem hi');rw[List.countP_cons,if_pos (by simp;omega),OY hp.2 hi' he']
end Go.Proofs.Q

namespace Go.Proofs.Q
open Go.Eng Go.RowKit Go.Lin
theorem LY{a b c:Hp}(h:a.disj b):a.join (b.join c)=b.join (a.join c):=by rw[<-Hp.join_assoc,<-Hp.join_assoc,Hp.join_comm h]
theorem ColsO.at_:∀{vs:List Value} {cs:List (List Int)} {m:Hp},ColsO m vs cs->∀{i:Nat} (hv:i<vs.length) (hc:i<cs.length),∃a b,m=a.join b/\a.disj b/\OwnL cI 1 3 a vs[i] cs[i]/\∀a' c',a'.disj b->OwnL cI 1 3 a' vs[i] c'->ColsO (a'.join b) vs (cs.set i c')
 | [],_,_,_,i,hv,_=>by simp at hv
 | _::_,[],_,h,_,_,_=>h.elim
 | v::vs,c::cs,m,⟨a,b,e,hd,O,C⟩,0,_,_=>⟨a,b,e,hd,O,fun a' c' hd' O'=>⟨a',b,rfl,hd',O',C⟩⟩
 | v::vs,c::cs,m,⟨a0,b0,e,hd,O,C⟩,i+1,hv,hc=>by
  obtain⟨a,b,e2,hd2,O2,K⟩:=C.at_ (i:=i) (by simpa using hv) (by simpa using hc);subst e2;obtain⟨h0a,h0b⟩:=Hp.disj_of_join hd;refine⟨a,a0.join b,by rw[e];exact LY h0a,?_,O2,fun a' c' hd' O'=>?_⟩
  ·exact Hp.disj_symm (Hp.disj_join h0a (Hp.disj_symm hd2))
  ·obtain⟨k0,kb⟩:=Hp.disj_of_join hd';refine⟨a0,a'.join b,LY k0,?_,O,K a' c' kb O'⟩;exact Hp.disj_symm (Hp.disj_join k0 (Hp.disj_symm h0b))
variable {r c k:Nat} {B:Nat->Nat->Int} {sd:List (Int×Int)} {rows:List Int}
def DI(B:Nat->Nat->Int)(sd:List (Int×Int))(rows:List Int)(k j i b:Nat):Int:=if b<k then B i b else if b=k then sgn (sd.take j) (rows.getD i 0) else 0
def CO(r c:Nat)(F:Nat->Nat->Int):List (List Int):=(range r).map fun i=>FB c (F i)
theorem Ex(r c:Nat)(F:Nat->Nat->Int):(CO r c F).length=r:=by simp[CO]
theorem EN{F G:Nat->Nat->Int}(h:∀i,i<r->∀b,b<c->F i b=G i b):CO r c F=CO r c G:=by unfold CO;refine List.map_congr_left fun i hi=>MC fun b hb=>h i (List.mem_range.1 hi) b hb
theorem Qv(r c:Nat)(B:Nat->Nat->Int)(sd:List (Int×Int))(rows:List Int):CO r c (DI B sd rows 0 0)=replicate r (replicate c 0):=by
 have h1:CO r c (DI B sd rows 0 0)=CO r c fun _ _=>0:=EN fun i _ b _=>by unfold DI;rw[if_neg (by omega),take_zero,HG,ite_self]
 rw[h1];unfold CO FB;rw[List.map_const',length_range,List.map_const',length_range]
theorem JP{sd':List (Int×Int)}:CO r c (DI B sd rows k 0)=CO r c (DI B sd' rows k 0):=
 EN fun i _ b _=>by unfold DI;rw[take_zero,take_zero]
theorem Ry(hB:∀i,i<r->B i k=sgn sd (rows.getD i 0)):CO r c (DI B sd rows k sd.length)=CO r c (DI B sd rows (k+1) 0):=
 EN fun i hi b _=>by
  unfold DI;rw[take_length,take_zero,HG,ite_self];by_cases h1:b<k
  ·rw[if_pos h1,if_pos (by omega)]
  ·by_cases h2:b=k
   ·subst h2;rw[if_neg h1,if_pos rfl,if_pos (by omega),hB i hi]
   ·rw[if_neg h1,if_neg h2,if_neg (by omega)]
theorem TF:CO r c (DI B sd rows c 0)=CO r c B:=
 EN fun i _ b hb=>by unfold DI;rw[if_pos hb]
theorem Vc{j:Nat}(hr:rows.length=r)(hj:j<sd.length)(h:sd[j].1 ∉ rows):CO r c (DI B sd rows k (j+1))=CO r c (DI B sd rows k j):=
 EN fun i hi b _=>by
  unfold DI;have hi':i<rows.length:=by omega
  have hne:¬sd[j].1=rows.getD i 0:=fun e=>h (by rw[e];simp[List.getD,hi']);rw[take_succ_eq_append_getElem hj,Lb,if_neg hne,Int.add_zero]
theorem T5{j i0:Nat}(hr:rows.length=r)(hn:rows.Nodup)(hj:j<sd.length)(hi0:i0<r)(hk:k<c)(h:rows[i0]'(by omega)=sd[j].1) :
  CO r c (DI B sd rows k (j+1))=(CO r c (DI B sd rows k j)).set i0 ((FB c (DI B sd rows k j i0)).set k (DI B sd rows k j i0 k+sd[j].2)):=by
 refine List.ext_getElem (by rw[List.length_set,Ex,Ex]) fun i h1 h2=>?_;have hi:i<r:=by rwa [Ex]at h1
 have hi':i<rows.length:=by omega
 rw[List.getElem_set];have e1:∀(F:Nat->Nat->Int) (h:i<(CO r c F).length),(CO r c F)[i]=FB c (F i):=fun F h=>by simp[CO]
 have es:sgn (sd.take (j+1)) (rows.getD i 0)=sgn (sd.take j) (rows.getD i 0)+if sd[j].1=rows.getD i 0 then sd[j].2 else 0:=by rw[take_succ_eq_append_getElem hj,Lb]
 have eg:rows.getD i 0=rows[i]:=by simp[List.getD,hi']
 split
 ·rename_i e;subst e;rw[e1];refine List.ext_getElem (by simp[FB]) fun b hb1 hb2=>?_;rw[List.getElem_set];have hbc:b<c:=by simpa[FB] using hb1
  have ev:∀(F:Nat->Int) (h:b<(FB c F).length),(FB c F)[b]=F b:=fun F h=>by simp[FB]
  rw[ev];split
  ·rename_i e;subst e;unfold DI;rw[if_neg (by omega),if_pos rfl,if_neg (by omega),if_pos rfl,es,eg,if_pos h.symm]
  ·rename_i e;rw[ev];unfold DI;rw[if_neg (show ¬b=k from fun q=>e q.symm),if_neg (show ¬b=k from fun q=>e q.symm)]
 ·rename_i e;rw[e1,e1];refine MC fun b hb=>?_;unfold DI
  have hne:¬sd[j].1=rows.getD i 0:=fun q=>e (by
   rw[<-h,eg]at q
   exact(List.getElem_inj hn).1 q)
  rw[es,if_neg hne,Int.add_zero]
end Go.Proofs.Q

namespace Go.Proofs.Q
open Go.Proofs.Tryz
open Go.Eng Go.RowKit Go.Lin
def BD(o:List Cl)(d:Int):List Int:=(o.filter fun c=>decide (c.dim=d)).map Cl.id
theorem F7(o:List Cl)(d:Int):(BD o d).length<=o.length:=by unfold BD;rw[length_map];exact List.length_filter_le _ _
theorem US{o:List Cl}(h:RgtF o)(d:Int):(BD o d).Pairwise (· < ·):=by unfold BD;rw[List.pairwise_map];exact h.inc.sublist List.filter_sublist
theorem Sd:∀l:List Value,l.flatMap cU=l
 | []=>rfl
 | a::l=>by rw[List.flatMap_cons,Sd l];rfl
theorem Ni:∀(sd:List (Int×Int)) (c:Int),(∀s∈sd,s.2=1\/s.2=-1)->-(sd.length:Int)<=sgn sd c/\sgn sd c<=sd.length
 | [],c,_=>by rw[HG];simp
 | s::sd,c,h=>by have ih:=Ni sd c fun s hs=>h s (List.mem_cons_of_mem _ hs);have h1:=h s List.mem_cons_self;rw[IZ,List.length_cons];split<;>omega
def If(o:List Cl)(d:Int)(i k:Nat):Int:=sgn (Gp o ((BD o d).getD k 0)).sd ((BD o (d-1)).getD i 0)
theorem TK(l:List Ce)(v:Value)(d:Int)(hd:-5<=d/\d<=1000)(hp:Hp)(hK:RgC l)(hR:RdC hp v l)(hn:l.length<=200) :
  FnT Tryz.prog 62 #[.agg #[v],.int .i64 d] hp [] (fun w h' ms'=>hp.le h'/\WG w ms' (BD (cn l) (d-1)).length (BD (cn l) d).length (CI (BD (cn l) (d-1)).length (BD (cn l) d).length (If (cn l) d))):=by
 have ov:=hR.q.rd.one;refine Aq func62 ntmps62 Y Y (fun w0 hw0=>?_);simp only[AW];refine Ar (AV [_] Y Y (by rfl) Y Y Y (fun g2=>CG [.int .i64 0,.int .i64 0,.slice none 0 0] Y Ea Y Y (fun g4=>Am (Bp 1 Y fun h1 l1 hS2=>?_))));have hR1:=hR.up l1;have gS2:∀ms,Seg h1 ms (⟨g2,0,none⟩:Addr) [v]:=fun ms=>hS2.any;refine Ar (Qx (oG Y CB AY (gS2 _)) Y (Qc call64 Y (NB l v h1 hK hR1) (fun r h3 ms3 l3 hF=>?_)));obtain⟨l3',rfl,g,A,rfl,hA,hT⟩:=hF;have hR3:=hR1.up l3';have gS2:∀ms,Seg h3 ms (⟨g2,0,none⟩:Addr) [v]:=fun ms=>(hS2.le l3').any;refine Qm Y (Am (Ac (BM (n:=9) (bs:=[true,true,true,false,true,true,false,false,false]) [true,true,true,false,true,true] CW (by kernel_rfl) (by kernel_rfl) Y Y (Qp Y (oG Y CB AY (gS2 _)) (Qq Y (Qp Y (oS Y) (Qp Y (oG Y CB AY (gS2 _)) (Qq Y ?_))))))));unfold FU;simp only[cons_append,nil_append];refine Qo 3 Y (Qc call63 Y (NL l v (d-1) h3 hK hR3) (fun ra h4 ms4 l4 hF=>?_));obtain⟨l4',ma,rfl,hOa⟩:=hF;have shA:=RM hOa;refine Bv hOa fun h5 l5 hRa=>?_;have l35:=AJ l4' l5;refine Qa (Qo 6 Y (Qc call63 Y (NL l v d h5 hK (hR3.up l35)) (fun rb h6 ms6 l6 hF=>?_)));obtain⟨l6',mb,rfl,hOb⟩:=hF;have shB:=RM hOb;refine Bv hOb fun h7 l7 hRb=>?_;have l57:=AJ l6' l7;have l37:=AJ l35 l57;refine Qa (Qo 7 Y (Qm Y (Qa (Qo 8 Y (Qm Y (Qa (Qe ?_)))))));have hRa7:=hRa.up l57;obtain⟨o,ho⟩:∃o,cn l=o:=⟨_,Y⟩
 have hol:o.length=l.length:=by rw[<-ho,CY]
 have hrg:RgtF o:=by rw[<-ho];exact hK.F
 change RdL cI 1 h7 [] ra (BD (cn l) (d-1)) at hRa7;change RdL cI 1 h7 [] rb (BD (cn l) d) at hRb;rw[ho]at hRa7 hRb ⊢;obtain⟨r,hr⟩:∃r,(BD o (d-1)).length=r:=⟨_,Y⟩
 obtain⟨c,hc⟩:∃c,(BD o d).length=c:=⟨_,Y⟩
 have hr2:r<=200:=by have:=F7 o (d-1);omega
 have hc2:c<=200:=by have:=F7 o d;omega
 rw[hr,hc];have rA:Rd h7 [] ra 1 r ((BD o (d-1)).flatMap cI):=by have:=hRa7.rd;rwa [hr]at this
 have rB:Rd h7 [] rb 1 c ((BD o d).flatMap cI):=by have:=hRb.rd;rwa [hc]at this
 have oa:=rA.one;have ob:=rB.one;have lh7:=AJ l1 (AJ l3' l37);refine Ab (Ac (Ar (Qm Y (Qx (Au rA.any Y AU Y) Y (Qm Y (Qm Y ?_))))));refine AN (t:=28) Y (fun h1=>?_) (fun h1=>?_)
 ·exact absurd h1 (by omega)
 ·refine Qg (Ay Y Y) Y (Qg (Au rB.any Y AU Y) Y (Qg (Cu Y Y Y) Y (Qm Y (Am ?_))));refine Ap Y (fun h2=>?_) (fun h2=>?_)
  ·exact absurd h2 (by omega)
  ·refine Ah (Ab (Ac (Ar (Qm Y (Qx (Au rA.any Y AU Y) Y (Qm Y (Am ?_)))))));refine Ap Y (fun h3=>?_) (fun h3=>?_)
   ·have hr0:r=0:=by omega
    subst hr0;refine Ar (Qm Y (Qx (Au rB.any Y AU Y) Y (Qc call129 Y (ON 0 c (by omega) hc2 h7) (fun z h8 ms8 l8 hF=>?_))));obtain⟨rfl,ev,m,rfl,rfl,hO⟩:=hF;have oe:=hO.o1;have hL:replicate (0*c) (0:Int)=CI 0 c (If o d):=by simp[CI]
    rw[hL]at hO;refine Sa 1 [_,_,_] Ea Y (by simp[ov,oa,ob,oe]) ?_;refine Am (An (Ae ?_));exact By (vs:=[_,_,_]) 1 Y Y Pg Y Ea Y Y (⟨lh7,ev,m,Y,Y,hO⟩)
   ·refine Ah (Ab (Ar (Qm Y (Qx (Au rA.any Y AU Y) Y (CN (n:=r) Y Cr Cv Y Y Y (by rfl) (by rfl) (by omega) (by omega) Y Y Y (fun g42=>Qm Y (Am (Ac (Ar (Qm Y (Qx (M6 (ty:=81) Y Cr Y) Y (Qm Y (Am (Ag ?_))))))))))))))
    have hO0:OwnL cU 1 22 (Bl g42 22 (replicate r (.slice none 0 0))) (.slice (some ⟨g42,0,none⟩) r r) ([]++replicate r (.slice none 0 0)):=by
     rw[nil_append];have:=OwnL.blk (F:=cU) (el:=22) (g:=g42) (l:=replicate r (Value.slice none 0 0)) r Nk (by simp) (by omega)
     rwa [Sd]at this
    refine BG ?_
    refine Aw (fun q sl h' ms'=>∃(i:Nat) (Rs:List Value) (mR mo:Hp),r-i=q/\sl=[(4,.pointer (some ⟨g4,0,none⟩)),(5,.pointer (some ⟨g,0,none⟩)),(6,ra),(7,rb),(8,.slice (some ⟨g42,0,none⟩) r r),(44,.int .i64 r),(45,.int .i64 i)]/\h7=h'/\ms'=[mR,mo,Bl g4 106 [.int .i64 0,.int .i64 0,.slice none 0 0]]/\i<=r/\OwnL cU 1 22 mo (.slice (some ⟨g42,0,none⟩) r r) (Rs++replicate (r-i) (.slice none 0 0))/\Rs.length=i/\ColsO mR Rs (replicate i (replicate c 0)))
     (r-0) _ ⟨0,[],Hp.emp,_,rfl,rfl,rfl,rfl,by omega,hO0,rfl,rfl⟩ Qs ?_
    rintro q sl h' ms' ⟨i,Rs,mR,mo,rfl,rfl,rfl,rfl,hi,hO,hRl,hCR⟩;refine Ar (Qm Y (Am (Ac ?_)));refine Ap Y (fun hlt=>?_) (fun hlt=>?_)
    ·have hir:i<r:=by omega
     refine Ah (Ab (Ac (Ag (Ar (Qm Y (Qm Y (GJ (Qm Y (Qm Y (Qm Y (Qx (Au rB.any Y AU Y) Y (CN (n:=c) Y AU A5 Y Y Y (by rfl) (by rfl) (by omega) (by omega) Y Y Y (fun g52=>Qx (B0 (i) Y Cr Cv Y Y (by omega) (by omega)) Y ?_)))))))))))))
     have hset:(Rs++replicate (r-i) (Value.slice none 0 0)).set i (.slice (some ⟨g52,0,none⟩) c c)=(Rs++[.slice (some ⟨g52,0,none⟩) c c])++replicate (r-(i+1)) (Value.slice none 0 0):=by rw[List.set_append_right _ _ (by omega),hRl,Nat.sub_self,show r-i=(r-(i+1))+1 by omega,List.replicate_succ,List.set_cons_zero,List.append_assoc];rfl
     refine Cj (f:=fun v:Value=>v) (a:=.slice (some ⟨g52,0,none⟩) c c) 2 i (fun _=>rfl) hO Y Cv Y Y Y Y (by rw[length_append,length_replicate];omega) rfl rfl (fun mo' hO'=>?_);rw[hset]at hO';refine Al (Ai (Ab (Ad (Qx (oA Y) Y (Qm Y (Al (Ej fun hap=>?_)))))));have hap:[Bl g52 3 (replicate c (.int .i64 0)),mR,mo',Bl g4 106 [.int .i64 0,.int .i64 0,.slice none 0 0]].Pairwise Hp.disj:=hap;simp only[pairwise_cons,mem_cons,not_mem_nil,or_false,forall_eq_or_imp,forall_eq]at hap;have hC':=hCR.snoc (OwnL.rep (g:=g52) (el:=3) c 0 (by omega)) (Hp.disj_symm hap.1.1);have hrs:replicate i (replicate c (0:Int))++[replicate c 0]=replicate (i+1) (replicate c 0):=(List.replicate_succ' ..).symm;rw[hrs]at hC';refine CC 1 Y (EG ?_);exact Ak (r-(i+1)) _ (by omega) ⟨i+1,_,_,mo',Y,Y,Y,Y,by omega,hO',by rw[length_append,hRl];rfl,hC'⟩ Qs
    ·have hir:i=r:=by omega
     subst hir;refine As (Aa (Aa (Af (Ab (Eg 1 Y (Bc hO fun h8 l8 hL=>?_))))));rw[Nat.sub_self,List.replicate_zero,append_nil]at hL;have rB8:=rB.le l8;have rA8:=rA.le l8;refine Ac (Ar (Qm Y (Qx (Au rB8.any Y AU Y) Y (Qm Y (Am (Ag ?_))))));have hCR0:ColsO mR Rs (CO i c (DI (If o d) [] (BD o (d-1)) 0 0)):=by rw[Qv];exact hCR
     refine Aw (fun q sl h' ms'=>∃(k:Nat) (mR:Hp),c-k=q/\sl=[(4,.pointer (some ⟨g4,0,none⟩)),(5,.pointer (some ⟨g,0,none⟩)),(6,ra),(8,.slice (some ⟨g42,0,none⟩) i i),(55,rb),(56,.int .i64 c),(57,.int .i64 k)]/\h8.le h'/\ms'=[mR,Bl g4 106 [.int .i64 0,.int .i64 0,.slice none 0 0]]/\k<=c/\ColsO mR Rs (CO i c (DI (If o d) [] (BD o (d-1)) k 0)))
      (c-0) _ ⟨0,mR,rfl,rfl,DT,rfl,by omega,hCR0⟩ Qs ?_
     rintro q sl h9 ms' ⟨k,mR,rfl,rfl,l9,rfl,hk,hC⟩;refine Ar (Qm Y (Am (Ac ?_)));refine Ap Y (fun hlt2=>?_) (fun hlt2=>?_)
     ·have hkc:k<c:=by omega
      have hkL:k<(BD o d).length:=by omega
      obtain⟨y,hy⟩:∃y,(BD o d).getD k 0=y:=⟨_,Y⟩
      have hyg:(BD o d)[k]=y:=by rw[<-hy];simp[List.getD,hkL]
      have hB9:=(hRb.up l8).up l9;have cB:∀ms,Cell h9 ms ((AE rb).add (k*1)) (.int .i64 y):=fun ms=>(hB9.any (ms:=ms)).cell0 hkL (by rw[hyg];rfl);obtain⟨gm,mT,bs,vids,hS,hM,lM,hV,hsd⟩:=hT;have l39:=AJ l37 (AJ l8 l9);have e0:∀ms,Cell h9 ms ((⟨g,0,none⟩:Addr).add 0) (.map (some gm)):=fun ms=>((hS 0 _ Y).any).le l39;have hAo:A.map Ce.c=o:=by rw[hA,ho]
      have hAid:(A.map fun a=>a.c.id)=o.map Cl.id:=by rw[<-hAo,map_map];rfl
      have hnd:(A.map fun a=>a.c.id).Nodup:=by rw[hAid];exact hrg.rgt.nd
      obtain⟨a,haA,hay⟩:∃a,a∈A/\a.c.id=y:=by
       have h1:y∈BD o d:=by rw[<-hyg];exact getElem_mem hkL
       unfold BD at h1;obtain⟨cl,h2,h3⟩:=List.mem_map.1 h1;have h4:cl∈A.map Ce.c:=by rw[hAo];exact(List.mem_filter.1 h2).1
       obtain⟨a,h5,rfl⟩:=List.mem_map.1 h4;exact⟨a,h5,h3⟩
      have hga:Bm (FD A) y=some a:=by rw[<-hay];exact KR hnd haA
      have hga1:(Bm (FD A) y).getD default=a:=by rw[hga];rfl
      have hyI:BN y:=by
       have h1:a.c∈cn l:=by rw[<-hA];exact List.mem_map.2 ⟨a,haA,Y⟩
       rw[<-hay];exact hK.cI h1
      have hcel:Gp o y=a.c:=by have:=IF A y;rw[hAo,hga1]at this;exact this.symm
      have hsa:=(hsd a haA).up l39;have oav:=hsa.rd.one;refine Ah (Ab (Ac (Ag (Ar (Qm Y (Qx (AB (k) (rB8.le l9).any Y AU A5 Y Y (by omega) (by omega)) Y (Ql Y U3 (cB _) (Qm Y (Qm Y (BH (Qm Y (Qm Y (Qf Fc Y (Ql Y GR (e0 _) (Qm Y (Qx (Ca (V:=vC) (z:=(default:Ce)) (u:=a) y hga1 Bu hM (AJ lM l39) Y GR LD Y Y hyI) Y (Qx (D0 Y Ei Y BW Y Y Y) Y (Qx (Au hsa.rd.any Y BW Y) Y (Qm Y (Am (Ag ?_)))))))))))))))))))));have hao:a.c∈o:=by rw[<-hAo];exact List.mem_map.2 ⟨a,haA,Y⟩
      have hsl:a.c.sd.length<=64:=(hrg.bds hao).2.1;have hsg:=hrg.rgt.sgn _ hao
      refine Aw (fun q sl h' ms'=>∃(j:Nat) (mR:Hp),a.c.sd.length-j=q/\sl=[(4,.pointer (some ⟨g4,0,none⟩)),(5,.pointer (some ⟨g,0,none⟩)),(6,ra),(8,.slice (some ⟨g42,0,none⟩) i i),(10,.int .i64 k),(55,rb),(56,.int .i64 c),(57,.int .i64 k),(68,a.v),(69,.int .i64 a.c.sd.length),(70,.int .i64 j)]/\h9.le h'/\ms'=[mR,Bl g4 106 [.int .i64 0,.int .i64 0,.slice none 0 0]]/\j<=a.c.sd.length/\ColsO mR Rs (CO i c (DI (If o d) a.c.sd (BD o (d-1)) k j)))
       (a.c.sd.length-0) _ ⟨0,mR,rfl,rfl,DT,rfl,by omega,by rw[JP (sd':=[])];exact hC⟩ Qs ?_
      rintro q sl h11 ms' ⟨j,mR,rfl,rfl,l11,rfl,hj,hC⟩;have hsa11:=hsa.up l11;refine Ar (Qm Y (Am (Ac ?_)));refine Ap Y (fun hlt3=>?_) (fun hlt3=>?_)
      ·have hjl:j<a.c.sd.length:=by omega
       obtain⟨s,hs⟩:∃s,a.c.sd[j]=s:=⟨_,Y⟩
       have gS:∀ms,Seg h11 ms ((AE a.v).add (j*2)) (cD s):=fun ms=>by rw[<-hs];exact(hsa11.any (ms:=ms)).seg hjl
       refine Ah (Ab ?_);refine A8 (fun sl h'' ms'=>∃mR':Hp,sl=[(4,.pointer (some ⟨g4,0,none⟩)),(5,.pointer (some ⟨g,0,none⟩)),(6,ra),(8,.slice (some ⟨g42,0,none⟩) i i),(10,.int .i64 k),(55,rb),(56,.int .i64 c),(57,.int .i64 k),(68,a.v),(69,.int .i64 a.c.sd.length),(70,.int .i64 j)]/\h11.le h''/\ms'=[mR',Bl g4 106 [.int .i64 0,.int .i64 0,.slice none 0 0]]/\ColsO mR' Rs (CO i c (DI (If o d) a.c.sd (BD o (d-1)) k (j+1)))) ?_ (fun s h ms hI=>?_)
       ·refine Ag (Ar (Qx (BE (j) hsa11.rd.any Y BW AM Y Y) Y (Qx (oG Y DS AM (gS _)) Y (CG [.int .i64 0,.int .i64 0] Y AM Y Y (fun g13=>?_)))));refine Sa 0 [_,_] AM Y (by simp[Value.oneCell']) ?_;refine Am (Az fun h12 l12 hS13=>?_);have l712:=AJ l8 (AJ l9 (AJ l11 l12));have hRa12:=hRa7.up l712;have e130:∀ms,Cell h12 ms ((⟨g13,0,none⟩:Addr).add 0) (.int .i64 s.1):=fun ms=>(hS13 0 _ Y).any;have e131:∀ms,Cell h12 ms ((⟨g13,0,none⟩:Addr).add 1) (.int .i64 s.2):=fun ms=>(hS13 1 _ Y).any;have hinc:=US hrg (d-1);change Shp ra (BD (cn l) (d-1)).length at shA;rw[ho]at shA;refine Ar (Qm Y (Qf BY Y (Ql Y U3 (e130 _) (Qx (AI Y call130 Y (AbE (BD o (d-1)) ra s.1 h12 hRa12 shA (hinc.imp fun h=>Int.le_of_lt h) (by omega) _)) Y (Qm Y (Qm Y (Qm Y (Qm Y (Qm Y (BH (Qm Y (Am ?_))))))))))));refine Bx Y (fun hfd=>?_) (fun hfd=>?_)
        ·have hmem:s.1∈BD o (d-1):=by simpa using hfd
         obtain⟨i0,hi0,he0⟩:=List.mem_iff_getElem.1 hmem;have hi0i:i0<i:=by omega
         have hcnt:(BD o (d-1)).countP (·<s.1)=i0:=OY hinc hi0 he0;rw[hcnt];have hv0:i0<Rs.length:=by omega
         obtain⟨a1,b1,e1,dab,O1,K⟩:=hC.at_ (i:=i0) hv0 (by rw[Ex];exact hi0i);subst e1;obtain⟨ρ,hρ⟩:∃ρ,Rs[i0]=ρ:=⟨_,Y⟩
         rw[hρ]at O1 K;have er:(CO i c (DI (If o d) a.c.sd (BD o (d-1)) k j))[i0]'(by rw[Ex];exact hi0i)=FB c (DI (If o d) a.c.sd (BD o (d-1)) k j i0):=by simp[CO]
         rw[er]at O1;refine Hq dab ?_;have cL:∀ms,Cell h12 ms ((AE (.slice (some ⟨g42,0,none⟩) i i)).add (i0*1)) ρ:=fun ms=>((hL.any (ms:=ms)).cell0 hv0 (by rw[hρ];rfl)).le (AJ l9 (AJ l11 l12));have hkv:k<(FB c (DI (If o d) a.c.sd (BD o (d-1)) k j i0)).length:=by rw[Cd];exact hkc
         have cX:∀ms,a1∈ms->Cell h12 ms ((AE ρ).add (k*1)) (.int .i64 (DI (If o d) a.c.sd (BD o (d-1)) k j i0 k)):=fun ms hm=>(O1.rd (h:=h12) hm).cell0 hkv (by simp[FB,cI]);have rρ:Rd h12 [a1] ρ 1 c ((FB c (DI (If o d) a.c.sd (BD o (d-1)) k j i0)).flatMap cI):=by have:=(O1.rd (h:=h12) (ms:=[a1]) Mh).rd;rwa [Cd]at this
         have hbd:=Ni (a.c.sd.take j) ((BD o (d-1)).getD i0 0) fun s hs=>hsg s (List.mem_of_mem_take hs);have hbe:DI (If o d) a.c.sd (BD o (d-1)) k j i0 k=sgn (a.c.sd.take j) ((BD o (d-1)).getD i0 0):=by unfold DI;rw[if_neg (by omega),if_pos rfl]
         have htl:(a.c.sd.take j).length<=64:=by rw[length_take];omega
         have hs2:=hsg s (by rw[<-hs];exact getElem_mem hjl);have oρ:=rρ.one;refine A7 9 CW (by kernel_rfl) Y (Wm Y (Wm Y (AK (B0 (i0) Y Cr Cv Y Y (by omega) (by omega)) Y Y (Wl Y AU (cL _) (Wm Y (AK (BI (k) rρ Y AU A5 Y Y (by omega) (by omega)) Y Y (Wl Y U3 (cX _ Mh) (Wf Da Y (Wl Y U3 (e131 _) (AZ (Qx (oA Y) Y (Qx (BI (k) rρ Y AU A5 Y Y (by omega) (by omega)) Y (C5 0 k O1 Y A5 Y Y Y hkv Y Y (fun a1' O1'=>Al (Ai (Ej fun hap=>?_))))))))))))))));have hap:[a1',b1,Bl g4 106 [.int .i64 0,.int .i64 0,.slice none 0 0]].Pairwise Hp.disj:=hap;simp only[pairwise_cons,mem_cons,not_mem_nil,or_false,forall_eq_or_imp,forall_eq]at hap;have hC':=K a1' _ hap.1.1 O1';have hyes:=T5 (B:=If o d) hr (hinc.imp fun h=>Int.ne_of_lt h) hjl hi0i hkc (by rw[he0,hs]);rw[hs]at hyes;rw[<-hyes]at hC';refine EG ?_;exact AF _ ⟨_,Y,l12,Y,hC'⟩ Qs
        ·have hmem:s.1 ∉ BD o (d-1):=by simpa using hfd
         rw[<-hs]at hmem;rw[<-Vc (B:=If o d) hr hjl hmem]at hC;refine Ah (Ai ?_);exact AF _ ⟨mR,Y,l12,Y,hC⟩ Qs
       ·obtain⟨mR',rfl,l12,rfl,hC'⟩:=hI;refine Ad (Qx (oA Y) Y (Qm Y (Al ?_)));exact Ak (a.c.sd.length-(j+1)) _ (by omega) ⟨j+1,mR',Y,Y,AJ l11 l12,Y,by omega,hC'⟩ Qs
      ·have hjl:j=a.c.sd.length:=by omega
       subst hjl;have hB:∀i',i'<i->If o d i' k=sgn a.c.sd ((BD o (d-1)).getD i' 0):=fun i' _=>by unfold If;rw[hy,hcel]
       rw[Ry hB,JP (sd':=[])]at hC;refine As (Aa (Aa (Af (Ai (Ab (Ad (Qx (oA Y) Y (Qm Y (Al ?_)))))))));exact Ak (c-(k+1)) _ (by omega) ⟨k+1,mR,Y,Y,AJ l9 l11,Y,by omega,hC⟩ Qs
     ·have hkc:k=c:=by omega
      subst hkc;rw[TF]at hC;refine As (Aa (Aa (Af (Ab (Bs fun h10 l10 lm=>?_)))))
      have hRr:∀i',i'<i->RdL cI 1 h10 [] (Rs.getD i' undef) (FB k (If o d i')):=fun i' hi'=>by
       have hv:i'<Rs.length:=by omega
       obtain⟨a1,b1,e1,dab,O1,_⟩:=hC.at_ (i:=i') hv (by rw[Ex];exact hi');have er:(CO i k (If o d))[i']'(by rw[Ex];exact hi')=FB k (If o d i'):=by simp[CO]
       rw[er]at O1;have hle:a1.le h10:=AJ (by rw[e1];exact Hp.le_join _ _) lm;have:=O1.rdh (ms:=[]) hle
       rwa [show Rs.getD i' undef=Rs[i'] by simp[List.getD,hv]]
      have hAo:A.map Ce.c=o:=by rw[hA,ho]
      have hb:∀i',i'<i->∀j,j<k->-256<If o d i' j/\If o d i' j<256:=fun i' _ j _=>by
       unfold If;obtain⟨y,hy⟩:∃y,(BD o d).getD j 0=y:=⟨_,Y⟩
       rw[hy];have h1:=IF A y;rw[hAo]at h1;rw[<-h1];cases hg:Bm (FD A) y with
       | none=>exact(by decide:-256<(0:Int)/\(0:Int)<256)
       | some z=>
        have hz:z.c∈o:=by rw[<-hAo];exact List.mem_map.2 ⟨z,SG hg,Y⟩
        have h2:=Ni z.c.sd ((BD o (d-1)).getD i' 0) (hrg.rgt.sgn _ hz);have h3:=(hrg.bds hz).2.1;simp only[Option.getD_some];omega
      have hi0:0<i:=by omega
      refine Ar (Qm Y (Qc call131 Y (ZK i k hi0 hr2 hc2 (If o d) hb Rs hRl _ h10 (hL.up (AJ l9 l10)) hRr) (fun z h13 ms13 l13 hF=>?_)));obtain⟨l13',ev,m,rfl,rfl,hO⟩:=hF;have oe:=hO.o1;refine Sa 1 [_,_,_] Ea Y (by simp[ov,oa,ob,oe]) ?_;refine Am (An ?_);exact By (vs:=[_,_,_]) 1 Y Y Pg Y Ea Y Y (⟨AJ lh7 (AJ l8 (AJ l9 (AJ l10 l13'))),ev,m,Y,Y,hO⟩)
theorem Yj(r c:Nat)(f:Nat->Nat->Int)(g:Int->Int):(CI r c f).map g=CI r c fun i j=>g (f i j):=by unfold CI;rw[map_map];rfl
theorem Wn(p:Int)(r c:Nat)(f:Nat->Nat->Int)(hp:IsP p)(hp2:p<256)(hr:r<=200)(hc:c<=200)(hb:∀i,i<r->∀j,j<c->-256<f i j/\f i j<256)(gp:Nat)(ev:Value)(h:Hp)(hD:∀ms,Cell h ms (⟨gp,0,none⟩:Addr) (.int .i64 p))(hR:RdL QM 2 h [] ev (CI r c f)) :
  FnT Tryz.prog 58 #[.agg #[.int .i64 r,.int .i64 c,ev],.pointer (some ⟨gp,0,none⟩)] h [] (fun x h' ms'=>h.le h'/\ms'=[]/\∃(F:Nat->Nat->Int) (pv:List Nat),x=.int .i64 pv.length/\Ech p r c (fun i j=>f i j%p) F pv):=by
 have hpb:=hp.1;have oe:=hR.rd.one;refine Aq func58 ntmps58 Y Y (fun w0 hw0=>?_);simp only[AW];refine Ar (AV [_,_,_] Y Y (by rfl) Y Y Y (fun g2=>Qm Y (Am (Az fun h1 l1 hS2=>?_))));have hR1:=hR.up l1;have gS2:∀ms,Seg h1 ms (⟨g2,0,none⟩:Addr) [.int .i64 r,.int .i64 c,ev]:=fun ms=>hS2.any;have eD:∀ms,Cell h1 ms (⟨gp,0,none⟩:Addr) (.int .i64 p):=fun ms=>(hD ms).le l1
 have hbm:∀x∈CI r c f,-256<x/\x<256:=fun x hx=>by
  unfold CI at hx;obtain⟨k,hk,rfl⟩:=List.mem_map.1 hx;have hk:=List.mem_range.1 hk
  have hc0:0<c:=by
   rcases Nat.eq_zero_or_pos c with h|h
   ·subst h;simp at hk
   ·exact h
  exact hb _ (Nat.div_lt_of_lt_mul (by rw[Nat.mul_comm];exact hk)) _ (Nat.mod_lt _ hc0)
 refine Ar (Ql Y U3 (eD _) (Qx (oG Y Pg Ea (gS2 _)) Y (Qc call60 Y (X0 p r c hp hp2 hr hc (CI r c f) (Cy r c f) hbm ev h1 hR1) (fun z h2 ms2 l2 hF=>?_))));obtain⟨l2',eu,m,rfl,rfl,hO⟩:=hF;rw[Yj]at hO;refine Bv hO fun h3 l3 hQ=>?_;have hRt:RtM p r c (fun i j=>f i j%p):=⟨hp,by omega,by omega,fun i _ j _=>⟨Int.emod_nonneg _ (by omega),Int.emod_lt_of_pos _ (by omega)⟩⟩
 refine Qc call59 Y (UT p r c _ eu h3 hRt hQ) (fun z h4 ms4 l4 hF=>?_);obtain⟨l4',rfl,F,pv,rfl,hE⟩:=hF;refine Qm Y (Am (An ?_));exact Av Y Y (⟨AJ l1 (AJ l2' (AJ l3 l4')),Y,F,pv,Y,hE⟩)
theorem Tg(l:List Ce)(v:Value)(hp:Hp)(hK:RgC l)(hR:RdC hp v l)(hn:l.length<=100) :
  FnT Tryz.prog 55 #[.agg #[v]] hp [] (fun r h' ms'=>hp.le h'/\ms'=[]/\r=.int .i64 0):=by
 have ov:=hR.q.rd.one;refine Aq func55 ntmps55 Y Y (fun w0 hw0=>?_);simp only[AW];refine Ar (AV [_] Y Y (by rfl) Y Y Y (fun g1=>Qm Y (Am (Az fun h1 l1 hS1=>?_))));have hR1:=hR.up l1;have gS1:∀ms,Seg h1 ms (⟨g1,0,none⟩:Addr) [v]:=fun ms=>hS1.any;refine Ac (Ar (Qx (oG Y CB AY (gS1 _)) Y (Qx (AI Y call28 Y (EO (LZ l v h1 hK hR1) _)) Y (Qm Y (Qm Y (Qm Y (Qm Y (Qm Y (BH (Qm Y (Qm Y (Am ?_))))))))))));refine Ap Y (fun hz=>?_) (fun hz=>?_)
 ·exact absurd Y hz
 ·refine Ah (Ab (Ac (Ar (Qx (oG Y CB AY (gS1 _)) Y (Qc call61 Y (Vh l v h1 hK hR1) (fun r h3 ms3 l3 hF=>?_))))));obtain⟨l3',rfl,D,rfl,hD1,hD2,hD3⟩:=hF
  have hD8:D<=8:=by
   rcases hD3 with h|⟨c,hc,h⟩
   ·omega
   ·have:=(hK.F.bds hc).1;omega
  have gS1:∀ms,Seg h3 ms (⟨g1,0,none⟩:Addr) [v]:=fun ms=>(hS1.le l3').any;refine Qx (oA Y) Y (Qm Y (Am (Ag ?_)));refine Aw (fun q sl h' ms'=>∃(k:Nat),(D+1).toNat-k=q/\sl=[(1,.pointer (some ⟨g1,0,none⟩)),(16,.int .i64 (D+1)),(17,.int .i64 k)]/\h3.le h'/\ms'=[]/\(k:Int)<=D+1) ((D+1).toNat-0) _ ⟨0,Y,Y,DT,Y,by omega⟩ Qs ?_;rintro q sl h' ms' ⟨k,rfl,rfl,lh,rfl,hk⟩;have gS1:∀ms,Seg h' ms (⟨g1,0,none⟩:Addr) [v]:=fun ms=>(gS1 ms).le lh;refine Ar (Qm Y (Am (Ac ?_)));refine Ap Y (fun hlt=>?_) (fun hlt=>?_)
  ·refine Ah (Ab (Ac (Ag (Ar (Qm Y (Qm Y (BH (Qx (oG Y CB AY (gS1 _)) Y (Qm Y (Qc call63 Y (NL l v (k:Int) h' hK ((hR1.up l3').up lh)) (fun r h4 ms4 l4 hF=>?_)))))))))));obtain⟨l4',m,rfl,hO⟩:=hF
   have hlen:(((cn l).filter fun c=>decide (c.dim=(k:Int))).map Cl.id).length<=100:=by rw[length_map];exact Nat.le_trans (List.length_filter_le _ _) (by rw[CY];exact hn)
   refine Qx (Ef (hO.rd (h:=h4) (ms:=[m]) Mh).rd Y AU Y) Y (Qm Y (Am ?_));refine Ap Y (fun h5=>?_) (fun h5=>?_)
   ·exact absurd h5 (by omega)
   ·refine Ah (Ai (Ab (Ad (Qx (oA Y) Y (Qm Y (Al (AO ?_)))))));exact Ak ((D+1).toNat-(k+1)) _ (by omega) ⟨k+1,Y,Y,AJ lh l4',Y,by omega⟩ Qs
  ·refine As (Aa (Aa (Af (Ab (Ar (Qm Y (Am (An ?_))))))));exact Av Y Y (⟨AJ l1 (AJ l3' lh),Y,Y⟩)
def RkO(p:Int)(o:List Cl)(d:Int)(ρ:Nat):Prop:=∃(F:Nat->Nat->Int) (pv:List Nat),Ech p (BD o (d-1)).length (BD o d).length (fun i k=>If o d i k%p) F pv/\ρ=pv.length
def Mw(o:List Cl)(rk:Nat->Nat)(n:Nat):List Int:=(range n).map fun(k:Nat)=>((BD o k).length:Int)-rk k-rk (k+1)
theorem UG(o:List Cl)(rk:Nat->Nat)(n:Nat):Mw o rk (n+1)=Mw o rk n++[((BD o n).length:Int)-rk n-rk (n+1)]:=by unfold Mw;rw[List.range_succ,map_append];rfl
theorem TE{o:List Cl}{rk rk':Nat->Nat}{n:Nat}(h:∀k,k<=n->rk k=rk' k):Mw o rk n=Mw o rk' n:=by unfold Mw;refine List.map_congr_left fun k hk=>?_;have:=List.mem_range.1 hk;rw[h k (by omega),h (k+1) (by omega)]
theorem Z6{o:List Cl}(hrg:RgtF o)(d:Int)(i j:Nat)(hj:j<(BD o d).length):-256<If o d i j/\If o d i j<256:=by
 unfold If;obtain⟨y,hy⟩:∃y,(BD o d).getD j 0=y:=⟨_,Y⟩
 rw[hy];unfold Gp;cases hg:Md o y with
 | none=>exact(by decide:-256<(0:Int)/\(0:Int)<256)
 | some z=>
  have hz:z∈o:=List.mem_of_find?_eq_some hg;have h2:=Ni z.sd ((BD o (d-1)).getD i 0) (hrg.rgt.sgn _ hz);have h3:=(hrg.bds hz).2.1;simp only[Option.getD_some];omega
theorem Uy(l:List Ce)(v:Value)(p:Int)(hp:Hp)(hP:IsP p)(hp2:p<256)(hK:RgC l)(hR:RdC hp v l)(hn:l.length<=100) :
  FnT Tryz.prog 20 #[.agg #[v],.int .i64 p] hp [] (fun r h' ms'=>hp.le h'/\∃(D:Int) (rk:Nat->Nat) (w:Value) (m:Hp),r=.tuple #[w,.int .i64 0]/\ms'=[m]/\OwnL cI 1 3 m w (Mw (cn l) rk (D+1).toNat)/\Kv (cn l) D/\rk 0=0/\∀n:Nat,n<(D+1).toNat->RkO p (cn l) (n+1) (rk (n+1))):=by
 have hpb:=hP.1;have ov:=hR.q.rd.one;refine Aq func20 ntmps20 Y Y (fun w0 hw0=>?_);simp only[AW];refine Ar (AV [_] Y Y (by rfl) Y Y Y (fun g2=>AV [_] Y Y (by rfl) Y Y Y (fun g3=>Qm Y (Qm Y (Am (Az fun h1 l1 hS3=>(Az fun h2 l2 hS2=>?_)))))));have hR2:=(hR.up l1).up l2;have gS2:∀ms,Seg h2 ms (⟨g2,0,none⟩:Addr) [v]:=fun ms=>hS2.any;have eD:∀ms,Cell h2 ms (⟨g3,0,none⟩:Addr) (.int .i64 p):=fun ms=>((hS3 0 _ Y).any).le l2;refine Ac (Ar (Ql Y U3 (eD _) (Qm Y (Qm Y ?_))));refine AN (t:=14) Y (fun hp0=>?_) (fun hp0=>?_)
 ·refine Qg (oL Y U3 (eD _)) Y ?_;refine Qg (AI Y call54 Y (J8 p h2 ⟨by omega,by omega⟩ _)) Y ?_;refine Qg (F1 Y Y) Y (Qm Y (Am ?_));refine Bx Y (fun hnp=>?_) (fun hnp=>?_)
  ·exact absurd hP (by simpa using hnp)
  ·refine Ah (Ab (Ac (Ar (Qx (oG Y CB AY (gS2 _)) Y (Qx (AI Y call55 Y (EO ((Tg l v h2 hK hR2 hn).mono fun _ _ _ h=>h.2.2) _)) Y (Qm Y (BH (Qm Y (Qm Y (Am ?_))))))))));refine Ap Y (fun hz=>?_) (fun hz=>?_)
   ·exact absurd Y hz
   ·refine Ah (Ab (Ar (Qm Y (Am (Ac (Ar (Ql Y U3 (eD _) (Qm Y (Am ?_)))))))));refine Ap Y (fun hp1=>?_) (fun hp1=>?_)
    ·refine Ad (Qx (BV Y Y Y) Y (Qm Y (BH (Qm Y (BH (Qm Y (Am (Ac (Ar (Qx (oG Y CB AY (gS2 _)) Y (Qc call61 Y (Vh l v h2 hK hR2) (fun r h3 ms3 l3 hF=>?_))))))))))));obtain⟨l3',rfl,D,rfl,hD⟩:=hF
     have hD8:D<=8:=by
      rcases hD.2.2 with h|⟨c,hc,h⟩
      ·omega
      ·have:=(hK.F.bds hc).1;omega
     have hD1:=hD.1;obtain⟨o,ho⟩:∃o,cn l=o:=⟨_,Y⟩
     have hrg:RgtF o:=by rw[<-ho];exact hK.F
     have hol:o.length<=100:=by rw[<-ho,CY];exact hn
     rw[ho]at hD ⊢;refine Qx (oA Y) Y (Qm Y (Am (Ag (BG ?_))))
     refine Aw (fun q sl h' ms'=>∃(k x:Nat) (rk:Nat->Nat) (vo:Value) (mo:Hp),x=rk k/\(D+1).toNat-k=q/\sl=[(2,.pointer (some ⟨g2,0,none⟩)),(7,.func (.func 58) #[] #[.pointer (some ⟨g3,0,none⟩)]),(8,vo),(9,.int .i64 (x:Nat)),(29,.int .i64 (D+1)),(30,.int .i64 k)]/\h3.le h'/\ms'=[mo]/\(k:Int)<=D+1/\OwnL cI 1 3 mo vo (Mw o rk k)/\rk 0=0/\∀n:Nat,n<k->RkO p o (n+1) (rk (n+1)))
      ((D+1).toNat-0) _ ⟨0,0,fun _=>0,_,Hp.emp,rfl,rfl,rfl,DT,rfl,by omega,OwnL.nil Be,rfl,fun n h=>by omega⟩ Qs ?_
     rintro q sl h' ms' ⟨k,xk,rk,vo,mo,hxk,rfl,rfl,lh,rfl,hk,hO,hr0,hrk⟩;have l2h:=AJ l3' lh;have hRh:=hR2.up l2h;have gS2:∀ms,Seg h' ms (⟨g2,0,none⟩:Addr) [v]:=fun ms=>(hS2.le l2h).any;have ovo:=hO.o1;refine Ar (Qm Y (Am (Ac ?_)));refine Ap Y (fun hlt=>?_) (fun hlt=>?_)
     ·refine Ah (Ab (Ac (Ag (Ar (Qm Y (Qm Y (BH (Qm Y (Qx (oG Y CB AY (gS2 _)) Y (Qm Y (Qx (oA Y) Y (Qc call62 Y (TK l v ((k:Int)+1) (by omega) h' hK hRh (by omega)) (fun z h4 ms4 l4 hF=>?_)))))))))))));obtain⟨l4',ev,m,rfl,rfl,hM⟩:=hF;have hk1:(k:Int)+1-1=k:=by omega
      rw[ho,hk1]at hM;simp only[ho,hk1];have hrl:(BD o (k:Int)).length<=100:=Nat.le_trans (F7 o _) hol;have hcl:(BD o ((k:Int)+1)).length<=100:=Nat.le_trans (F7 o _) hol;refine Bv hM fun h5 l5 hQ=>?_;have l25:=AJ l2h (AJ l4' l5);have eD5:∀ms,Cell h5 ms (⟨g3,0,none⟩:Addr) (.int .i64 p):=fun ms=>(eD ms).le l25;refine Hu (pre:=[]) Y Y call58 Y (Wn p _ _ (If o ((k:Int)+1)) hP hp2 (by omega) (by omega) (fun i _ j hj=>Z6 hrg _ i j hj) g3 ev h5 eD5 hQ) Y Y Y Y (fun x h6 pre' l6 hF=>?_);obtain⟨l6',rfl,F,pv,rfl,hE⟩:=hF;have l26:=AJ l25 l6';have gS6:∀ms,Seg h6 ms (⟨g2,0,none⟩:Addr) [v]:=fun ms=>(hS2.le l26).any;refine Qm Y (BH (Qm Y (Qx (oG Y CB AY (gS6 _)) Y (Qm Y (Qc call63 Y (NL l v (k:Int) h6 hK (hR2.up l26)) (fun w h7 ms7 l7 hF=>?_))))));obtain⟨l7',mi,rfl,hOi⟩:=hF;rw[ho]at hOi;change OwnL cI 1 3 mi w (BD o (k:Int)) at hOi;have hil:(BD o (k:Int)).length<=100:=Nat.le_trans (F7 o _) hol;have hpl:pv.length<=100:=Nat.le_trans hE.red.len hrl
      have hrkk:xk<=100:=by
       rw[hxk];by_cases hk0:k=0
       ·rw[hk0,hr0];omega
       ·obtain⟨F',pv',hE',e'⟩:=hrk (k-1) (by omega);have e1:k-1+1=k:=by omega
        rw[e1]at e';rw[e'];exact Nat.le_trans hE'.red.len (Nat.le_trans (F7 o _) hol)
      have rI:=(hOi.rd (h:=h7) (ms:=[mi]) Mh).rd;have ow:=rI.one;refine Qx (Ef rI Y AU Y) Y (Qm Y (Qx (oS Y) Y (Qm Y (Qx (oS Y) Y (Ao [_] Y AU A5 Y (by rfl) Y Y (by omega) Y Y Y (fun g48=>?_))))));have hbl:(Mw o rk k).length<=1000000:=by unfold Mw;rw[length_map,length_range];omega
      refine AR 2 hO (RdL.one Be (x:=((BD o (k:Int)).length:Int)-xk-pv.length) Mh Y) Y AU A5 Y (by omega) Y Y Y B8 (by simp only[length_singleton];omega) (by simp only[length_singleton];omega) rfl rfl rfl (fun v6 m6 hO6=>?_);have ov6:=hO6.o1;refine Qm Y (GJ (Qm Y (Qm Y (Al (Ai (Ab (Ad (Qx (oA Y) Y (Qm Y (Al ?_))))))))));refine AO (AO ?_);obtain⟨rk',hra,hrb⟩:∃rk':Nat->Nat,rk' (k+1)=pv.length/\∀n,n≠k+1->rk' n=rk n:=⟨fun n=>if n=k+1 then pv.length else rk n,by simp,fun n hn=>by simp[hn]⟩
      have hk1:Mw o rk k++[((BD o (k:Int)).length:Int)-xk-pv.length]=Mw o rk' (k+1):=by rw[UG,TE (rk:=rk) (rk':=rk') (fun n hn=>(hrb n (by omega)).symm),hrb k (by omega),hra,hxk]
      rw[hk1]at hO6
      exact Ak ((D+1).toNat-(k+1)) _ (by omega) ⟨k+1,pv.length,rk',v6,m6,hra.symm,Y,Y,AJ lh (AJ l4' (AJ l5 (AJ l6' l7'))),Y,by omega,hO6,by rw[hrb 0 (by omega),hr0],fun n hn=>by
       by_cases e:n=k
       ·subst e;have e1:(n:Int)+1-1=n:=by omega
        rw[hra];unfold RkO;rw[e1];exact⟨F,pv,hE,Y⟩
       ·rw[hrb (n+1) (by omega)]
        exact hrk n (by omega)⟩ Qs
     ·have hkD:k=(D+1).toNat:=by omega
      subst hkD;refine As (Aa (Aa (Af (Ab (Ar (Qm Y (Qm Y (Qm Y (Am (An ?_))))))))));exact Bq Y Y Y (⟨AJ l1 (AJ l2 l2h),D,rk,vo,mo,Y,Y,hO,hD,hr0,hrk⟩)
    ·exact absurd hp0 hp1
 ·exact absurd (by omega) hp0
end Go.Proofs.Q
