/- A part of the proof. -/
import Derived.Test.YtodheebhahdepaaGreatDoorSE
set_option linter.unusedSimpArgs false
set_option linter.unusedVariables false
set_option linter.unusedSectionVars false
set_option maxRecDepth 100000
set_option maxHeartbeats 4000000

open List (length_map length_singleton getElem_mem replicate range length_append nil_append length_take mem_cons cons_append map_append pairwise_cons take_succ_eq_append_getElem append_nil map_map map_cons take_length getElem_map length_range take_zero length_replicate sum_cons not_mem_nil)
namespace Go.Proofs.Q
open Go.Proofs.Tryz
open Go.Eng Go.RowKit Go.Lin Go.Sort Go.Srt
def Da(L:List Int):Nat->List (Int×Int)
 | 0=>[]
 | j+1=>if 0<=L.getD j 0 then C4 (Da L j) (L.getD j 0) (j:Int) else Da L j
theorem Gr{L:List Int}{i x:Int}:∀{n:Nat},Bi (Da L n) i=some x->∃j:Nat,j<n/\x=j/\L.getD j 0=i/\0<=i
 | 0,h=>by simp[Da,Bi]at h
 | n+1,h=>by
  unfold Da at h;split at h
  ·rename_i h0;rw[Dd]at h;split at h
   ·rename_i e;cases h;exact⟨n,by omega,rfl,e.symm,by rw[e];exact h0⟩
   ·obtain⟨j,h1,h2⟩:=Gr h;exact⟨j,by omega,h2⟩
  ·obtain⟨j,h1,h2⟩:=Gr h;exact⟨j,by omega,h2⟩
theorem HV{L:List Int}{i:Int}:∀{n:Nat},Bi (Da L n) i=none->∀j,j<n->0<=i->L.getD j 0≠i
 | 0,h,j,hj,_=>by omega
 | n+1,h,j,hj,h0=>by
  unfold Da at h;split at h
  ·rw[Dd]at h;split at h
   ·cases h
   ·rename_i e;rcases (by omega:j<n\/j=n) with h1|rfl
    ·exact HV h j h1 h0
    ·exact fun q=>e q.symm
  ·rename_i hn;rcases (by omega:j<n\/j=n) with h1|rfl
   ·exact HV h j h1 h0
   ·omega
def Kb(f:Int->Int)(S:List Ce)(L:List Int)(i:Nat):List Br:=
 match Bi (Da L L.length) (i:Int) with
 | some j=>if f (S.getD i default).c.id<f (S.getD j.toNat default).c.id then [⟨(S.getD i default).c.dim,f (S.getD i default).c.id,f (S.getD j.toNat default).c.id,false,(S.getD i default).c.id,(S.getD j.toNat default).c.id⟩] else []
 | none=>if L.getD i 0<0 then [⟨(S.getD i default).c.dim,f (S.getD i default).c.id,0,true,(S.getD i default).c.id,0⟩] else []
def Fp(f:Int->Int)(S:List Ce)(L:List Int)(n:Nat):List Br:=(range n).flatMap (Kb f S L)
theorem Eg(f:Int->Int)(S:List Ce)(L:List Int)(n:Nat):Fp f S L (n+1)=Fp f S L n++Kb f S L n:=by unfold Fp;rw[List.range_succ,List.flatMap_append];simp
theorem W8(f:Int->Int)(S:List Ce)(L:List Int)(i:Nat):(Kb f S L i).length<=1:=by unfold Kb;split<;>split<;>simp
theorem Px(f:Int->Int)(S:List Ce)(L:List Int):∀n,(Fp f S L n).length<=n
 | 0=>by simp[Fp]
 | n+1=>by rw[Eg,length_append];have:=Px f S L n;have:=W8 f S L n;omega
theorem Xd(l S:List Ce)(F:List (Int×Int))(R V:Nat->List Int)(L:List Int)(p:Int)(gm:Nat)(vl:Value)(hp:Hp)(M:RedM p F l S R V gm hp)(hL:RdL cI 1 hp [] vl L)(hn:S.length<=400)(hLn:L.length=S.length)(hLl:∀x∈L,x<S.length)(hi:∀a∈S,BH a.c.id)(hI:∀c,BH (Dz (BD F) c)):FnT Tryz.prog 52 #[.pointer (some ⟨gm,0,none⟩),vl] hp [] (fun r h' ms'=>hp.le h'/\∃mb,ms'=[mb]/\OwnL Ps 6 43 mb r (Fp (Dz (BD F)) S L S.length)):=by
 obtain⟨gA,mA,bs,vc,vr,vv,Rs,Vs,la,hS,hO,lA,hQ,_⟩:=M.ex;have ol:=hL.rd.one;have oc:=hQ.rd.one;refine Ap func52 ntmps52 rfl rfl (fun w0 hw0=>?_);simp only[AX];refine As (Qm rfl (BK (C3 (K:=kN) (V:=kN) (Ok:=BH) rfl rfl rfl rfl (fun gE mE hE0=>Qm rfl (Am ?_)))));refine A9 (fun sl h' ms'=>∃(mE:Hp) (bs:List Nat),sl=[(0,.pointer (some ⟨gm,0,none⟩)),(1,vl),(5,.map (some gE))]/\hp=h'/\ms'=[mE]/\CO kN kN gE BH mE (Da L L.length) bs) ?_ (fun s h ms hI=>?_)
 ·refine Ac (Ad (Qm rfl (Qx (Ar hL.rd.any rfl AU rfl) rfl (Qm rfl (Am (Ag ?_))))))
  refine Ay (fun q sl h' ms'=>∃(j:Nat) (mE:Hp) (bs:List Nat),q=L.length-j/\sl=[(0,.pointer (some ⟨gm,0,none⟩)),(1,vl),(5,.map (some gE)),(15,vl),(16,.int .i64 L.length),(17,.int .i64 j)]/\hp=h'/\ms'=[mE]/\j<=L.length/\CO kN kN gE BH mE (Da L j) bs)
   (L.length-0) _ ⟨0,mE,[],rfl,rfl,rfl,rfl,by omega,hE0⟩ Qs ?_
  rintro q sl h' ms' ⟨j,mE,bs,rfl,rfl,rfl,rfl,hj,hE⟩;refine As (Qm rfl (Am (Ac ?_)));refine Aq rfl (fun hlt=>?_) (fun hlt=>?_)
  ·have hjl:j<L.length:=by omega
   have cL:∀ms,Cell hp ms ((AF vl).add (j*1)) (.int .i64 (L.getD j 0)):=fun ms=>by rw[show L.getD j 0=L[j] by simp[List.getD,hjl]];exact(hL.any (ms:=ms)).cell0 hjl rfl
   have hLb:=hLl _ (getElem_mem hjl);rw[show L[j]=L.getD j 0 by simp[List.getD,hjl]]at hLb;refine Ah (Ab (Ac (Ag (As (Qm rfl (Qx (BF (j) hL.rd.any rfl AU A6 rfl rfl) rfl (Ql rfl U3 (cL _) (Qm rfl (Qm rfl (BK (Qm rfl (Qm rfl (Am ?_)))))))))))));refine Aq rfl (fun h0=>?_) (fun h0=>?_)
   ·have hs:Da L (j+1)=C4 (Da L j) (L.getD j 0) (j:Int):=by show(if 0<=L.getD j 0 then _ else _)=_;rw[if_pos h0]
    refine Ad (Qm rfl (Qm rfl (Qm rfl ?_)));refine BU (V:=kN) (z:=undef) 0 (L.getD j 0) (j:Int) Bs hE rfl rfl Lw rfl rfl rfl (by unfold BH;omega) rfl rfl (fun mE' bs' hE'=>?_);rw[<-hs]at hE';refine Ak (Ai (Ab (Ad (Qx (oA rfl) rfl (Qm rfl (Ak ?_))))));exact Al (L.length-(j+1)) _ (by omega) ⟨j+1,mE',bs',rfl,rfl,rfl,rfl,by omega,hE'⟩ Qs
   ·have hs:Da L (j+1)=Da L j:=by show(if 0<=L.getD j 0 then _ else _)=_;rw[if_neg h0]
    rw[<-hs]at hE;refine Ah (Ai (Ab (Ad (Qx (oA rfl) rfl (Qm rfl (Ak ?_))))));exact Al (L.length-(j+1)) _ (by omega) ⟨j+1,mE,bs,rfl,rfl,rfl,rfl,by omega,hE⟩ Qs
  ·obtain rfl:j=L.length:=by omega
   refine Av (Aa (Aa (Af ?_)));exact AD _ ⟨mE,bs,rfl,rfl,rfl,hE⟩ Qs
 ·obtain⟨mE,bsE,rfl,rfl,rfl,hE⟩:=hI;refine Bq fun h1 l1 lE=>?_;have hS:=hS.le l1;have hQ:=hQ.up l1;have hL:=hL.up l1;have lA:=AJ lA l1;have e1:∀ms,Cell h1 ms (⟨gm,1,none⟩:Addr) vc:=fun ms=>Seg.all hS 1 _ rfl ms;refine BJ (As (Qm rfl (Am (Ac (As (Qm rfl (Qm rfl (Qf E3 rfl (Ql rfl Bh (e1 _) (Qx (Ar hQ.rd.any rfl Bh rfl) rfl (Qm rfl (Am (Ag ?_)))))))))))))
  refine Ay (fun q sl h' ms'=>∃(i:Nat) (vb:Value) (mb:Hp),q=S.length-i/\sl=[(0,.pointer (some ⟨gm,0,none⟩)),(1,vl),(5,.map (some gE)),(8,vb),(31,vc),(32,.int .i64 S.length),(33,.int .i64 i)]/\h1.le h'/\ms'=[mb]/\i<=S.length/\OwnL Ps 6 43 mb vb (Fp (Dz (BD F)) S L i))
   (S.length-0) _ ⟨0,_,Hp.emp,rfl,rfl,C9,rfl,by omega,OwnL.nil J8⟩ Qs ?_
  rintro q sl h2 ms' ⟨i,vb,mb,rfl,rfl,l2,rfl,hi',hB⟩;have hS:=hS.le l2;have hQ:=hQ.up l2;have hL:=hL.up l2;have lA:=AJ lA l2;have lE:=AJ lE l2;have ovb:=hB.o1;refine As (Qm rfl (Am (Ac ?_)));refine Aq rfl (fun hlt=>?_) (fun hlt=>?_)
  ·have hil:i<S.length:=by omega
   obtain⟨x,hx⟩:∃x,S[i]=x:=⟨_,rfl⟩
   have hxm:x∈S:=by rw[<-hx];exact getElem_mem hil
   have hgx:S.getD i default=x:=by simp[List.getD,hil,hx]
   have hxI:=hi x hxm;have oxv:=(M.sds x hxm).rd.one;have hsx:∀ms,Seg h2 ms ((AF vc).add (i*3)) (cC x):=fun ms=>by rw[<-hx];exact(hQ.any (ms:=ms)).seg hil
   refine Ah (Ab (Ac (Ag (As (Qm rfl (Qx (BF (i) hQ.rd.any rfl Bh AI rfl rfl) rfl (Qx (oG rfl Ef AI (hsx _)) rfl (Cz [.int .i64 0,.int .i64 0,.slice none 0 0] rfl AI rfl rfl (fun g10=>Qm rfl ?_)))))))));refine Sa 0 [_,_,_] AI rfl (by simp[ol,oc,oxv,ovb]) ?_;refine Am (AC fun h3 l3 hS10=>?_);have e100:∀ms,Cell h3 ms (⟨g10,0,none⟩:Addr) (.int .i64 x.c.id):=fun ms=>Seg.all hS10 0 _ rfl ms;have e101:∀ms,Cell h3 ms (⟨g10,1,none⟩:Addr) (.int .i64 x.c.dim):=fun ms=>Seg.all hS10 1 _ rfl ms;have hS3:=hS.le l3;have a1:∀ms,Cell h3 ms (⟨gm,1,none⟩:Addr) vc:=fun ms=>Seg.all hS3 1 _ rfl ms;have a2:∀ms,Cell h3 ms (⟨gm,2,none⟩:Addr) (.map (some gA)):=fun ms=>Seg.all hS3 2 _ rfl ms;have hfx:(Bi (BD F) x.c.id).getD 0=Dz (BD F) x.c.id:=rfl;obtain⟨f,hf⟩:∃f,Dz (BD F)=f:=⟨_,rfl⟩
   rw[hf]at hfx hB;have hBl:=Px f S L i;obtain⟨bb,hbb⟩:∃bb,(Bi (Da L L.length) (i:Int)).isSome=bb:=⟨_,rfl⟩
   obtain⟨u,hu⟩:∃u,(Bi (Da L L.length) (i:Int)).getD 0=u:=⟨_,rfl⟩
   refine Ac (Bc 13 CS (by kernel_rfl) rfl (Wf BY rfl (Wl rfl U3 (e101 _) (Wm rfl (Wm rfl (Wf JY rfl (Wl rfl Lw (a2 _) (Wf Bt rfl (Wl rfl U3 (e100 _) (AR (show OX _ _ _ _ _ (.int .i64 (f x.c.id)) from Cf (V:=kN) (z:=(0:Int)) (u:=f x.c.id) x.c.id hfx Bs hO (AJ lA l3) rfl Lw HH rfl rfl hxI) rfl rfl (Wf Bt rfl (Wl rfl U3 (e100 _) (AR (A3 YW [.int .i64 0,.int .i64 0,.int .i64 0,.bool false,.int .i64 0,.int .i64 0] [(0,_),(1,_),(4,_)] [_,_,_,_,_,_] rfl Hb rfl rfl Qt rfl) rfl rfl (Vv (Mp [.int .i64 0,.int .i64 0,.int .i64 0,.bool false,.int .i64 0,.int .i64 0] rfl Hb rfl) rfl rfl (IK (fun g11=>?_))))))))))))))));refine Sa 0 [_,_,_,_,_,_] Hb rfl (by simp[Value.oneCell']) ?_;refine BK (Qm rfl (Qm rfl ?_));refine Qx (E1 (V:=kN) (z:=(0:Int)) (i:Int) hu hbb Bs hE (AJ lE l3) rfl Lw HH rfl rfl (by unfold BH;omega)) rfl ?_;refine Qm rfl (Qm rfl (Qm rfl (Qm rfl (Qm rfl (Am (Ac (Ag (As (Qm rfl (Qm rfl (Am ?_)))))))))));refine Bz rfl (fun hb=>?_) (fun hb=>?_)
   ·obtain⟨j,hj⟩:∃j,Bi (Da L L.length) (i:Int)=some j:=by rw[hb]at hbb;exact Option.isSome_iff_exists.1 hbb
    obtain⟨jn,hjn,rfl,hjL,_⟩:=Gr hj;rw[hj]at hu;obtain rfl:(jn:Int)=u:=hu;have hjS:jn<S.length:=by omega
    obtain⟨y,hy⟩:∃y,S[jn]=y:=⟨_,rfl⟩
    have hym:y∈S:=by rw[<-hy];exact getElem_mem hjS
    have hgy:S.getD jn default=y:=by simp[List.getD,hjS,hy]
    have hyI:=hi y hym
    have cy:∀ms,Cell h3 ms (((AF vc).add (jn*3)).add 0) (.int .i64 y.c.id):=fun ms=>by
     have:Seg h3 ms ((AF vc).add (jn*3)) (cC y):=by rw[<-hy];exact((hQ.up l3).any (ms:=ms)).seg hjS
     exact this 0 _ rfl
    have hfy:(Bi (BD F) y.c.id).getD 0=f y.c.id:=by rw[<-hf];rfl
    have hbar:Kb f S L i=if f x.c.id<f y.c.id then [⟨x.c.dim,f x.c.id,f y.c.id,false,x.c.id,y.c.id⟩] else []:=by unfold Kb;rw[hj];simp only[Int.toNat_natCast,hgx,hgy]
    have hQ3:=hQ.up l3;refine As (Qm rfl (Qm rfl (Qf E3 rfl (Ql rfl Bh (a1 _) (Qm rfl (Qx (BF (jn) hQ3.rd.any rfl Bh AI rfl rfl) rfl (Qf Bt rfl (Ql rfl U3 (cy _) (Qf Vr rfl ?_)))))))));refine AS 0 _ rfl A6 rfl rfl (by rfl) rfl rfl (by(simp;done)) rfl rfl ?_;refine Am (Bc 6 CS (by kernel_rfl) rfl (Wm rfl (Wm rfl (Wf JY rfl (Wl rfl Lw (a2 _) (Wf Vr rfl (Wl rfl U3 (Cell.blk 0 rfl rfl) (AY (Qx (show OX _ _ _ _ _ (.int .i64 (f y.c.id)) from Cf (V:=kN) (z:=(0:Int)) (u:=f y.c.id) y.c.id hfy Bs hO (AJ lA l3) rfl Lw HH rfl rfl hyI) rfl (Qf U6 rfl ?_))))))))));refine AS 0 _ rfl A6 rfl rfl (by rfl) rfl rfl (by(simp;done)) rfl rfl ?_;refine Ak (Ai (Ab (As (Qf QY rfl (Ql rfl U4 (Cell.blk 0 rfl rfl) (Qm rfl (Qg (oF Aaf rfl) rfl (Qg (oL rfl U3 (Cell.blk 0 rfl rfl)) rfl (Qg (oF U6 rfl) rfl (Qg (oL rfl U3 (Cell.blk 0 rfl rfl)) rfl (Qg (Dg rfl rfl rfl) rfl (Qm rfl (Am ?_)))))))))))));refine Aq rfl (fun hbd=>?_) (fun hbd=>?_)
    ·refine Ad (Qm rfl (Qx (oG rfl U43 Hb (Seg.blk 0 rfl)) rfl (Ao [_,_,_,_,_,_] rfl W3 Hb rfl (by rfl) rfl rfl (by omega) rfl rfl rfl (fun g93=>?_))));refine AO 2 hB (RdL.one J8 (x:=⟨x.c.dim,f x.c.id,f y.c.id,false,x.c.id,y.c.id⟩) Mh rfl) rfl W3 Hb rfl (by omega) rfl rfl rfl R7 (by simp;omega) (by simp;omega) rfl rfl rfl (fun vb2 mb2 hB2=>?_);refine Qm rfl (Ak (Ai (Ab (Ad (Qx (oA rfl) rfl (Qm rfl (Ak (AN (AN ?_)))))))));exact Al (S.length-(i+1)) _ (by omega) ⟨i+1,vb2,mb2,rfl,rfl,AJ l2 l3,rfl,by omega,by rw[hf,Eg,hbar,if_pos hbd];exact hB2⟩ Qs
    ·refine Ah (Ai (Ab (Ad (Qx (oA rfl) rfl (Qm rfl (Ak (AN ?_)))))));exact Al (S.length-(i+1)) _ (by omega) ⟨i+1,vb,mb,rfl,rfl,AJ l2 l3,rfl,by omega,by rw[hf,Eg,hbar,if_neg hbd,append_nil];exact hB⟩ Qs
   ·have hj:Bi (Da L L.length) (i:Int)=none:=by
     rw[hb]at hbb;cases h:Bi (Da L L.length) (i:Int) with
     | none=>rfl
     | some j=>rw[h]at hbb;cases hbb
    have hil2:i<L.length:=by omega
    have hL3:=hL.up l3;have cL:∀ms,Cell h3 ms ((AF vl).add (i*1)) (.int .i64 (L.getD i 0)):=fun ms=>by rw[show L.getD i 0=L[i] by simp[List.getD,hil2]];exact(hL3.any (ms:=ms)).cell0 hil2 rfl
    have hbar:Kb f S L i=if L.getD i 0<0 then [⟨x.c.dim,f x.c.id,0,true,x.c.id,0⟩] else []:=by unfold Kb;rw[hj];simp only[hgx]
    refine As (Qm rfl (Qm rfl (Qx (BF (i) hL3.rd.any rfl AU A6 rfl rfl) rfl (Ql rfl U3 (cL _) (Qm rfl (Qm rfl (Am ?_)))))));refine Aq rfl (fun hneg=>?_) (fun hneg=>?_)
    ·refine Ad (Qf QY rfl ?_);refine AS 0 _ rfl W7 rfl rfl (by rfl) rfl rfl (by(simp;done)) rfl rfl ?_;refine Ak (Ai (Ab (As (Qf QY rfl (Ql rfl U4 (Cell.blk 0 rfl rfl) (Qm rfl (Qk rfl (Qk rfl (Qk rfl (Qk rfl (Qk rfl (Qm rfl (Am (BE rfl (Ad (Qm rfl (Qx (oG rfl U43 Hb (Seg.blk 0 rfl)) rfl (Ao [_,_,_,_,_,_] rfl W3 Hb rfl (by rfl) rfl rfl (by omega) rfl rfl rfl (fun g93=>?_)))))))))))))))))));refine AO 2 hB (RdL.one J8 (x:=⟨x.c.dim,f x.c.id,0,true,x.c.id,0⟩) Mh rfl) rfl W3 Hb rfl (by omega) rfl rfl rfl R7 (by simp;omega) (by simp;omega) rfl rfl rfl (fun vb2 mb2 hB2=>?_);refine Qm rfl (Ak (Ai (Ab (Ad (Qx (oA rfl) rfl (Qm rfl (Ak (AN (AN ?_)))))))));exact Al (S.length-(i+1)) _ (by omega) ⟨i+1,vb2,mb2,rfl,rfl,AJ l2 l3,rfl,by omega,by rw[hf,Eg,hbar,if_pos hneg];exact hB2⟩ Qs
    ·refine Av (Gj rfl (Aa (Af (Ab (Ad (Qx (oA rfl) rfl (Qm rfl (Ak (AN ?_)))))))));exact Al (S.length-(i+1)) _ (by omega) ⟨i+1,vb,mb,rfl,rfl,AJ l2 l3,rfl,by omega,by rw[hf,Eg,hbar,if_neg hneg,append_nil];exact hB⟩ Qs
  ·obtain rfl:i=S.length:=by omega
   refine Av (Aa (Aa (Af (Ab (As (Qm rfl (Qm rfl (Am (An ?_)))))))));exact Az rfl rfl (⟨AJ l1 l2,mb,rfl,hB⟩)
structure PersF(p:Int)(F:List (Int×Int))(l S:List Ce)(R V:Nat->List Int):Prop where
 perm:(S.map Ce.c).Perm (cn l)
 srt:NI (Dz (BD F)) S
 all:∃la,AllC p S S.length S.length R V la
noncomputable def Fl(S:List Ce)(R:Nat->List Int):List Int:=(range S.length).map fun k=>Bl (R k)
theorem K8(S:List Ce)(R:Nat->List Int):(Fl S R).length=S.length:=by unfold Fl;simp
theorem Lv(S:List Ce)(R:Nat->List Int){k:Nat}(h:k<S.length):(Fl S R).getD k 0=Bl (R k):=by unfold Fl;simp[List.getD,h]
theorem RedM.pers{p:Int}{F:List (Int×Int)}{l S:List Ce}{R V:Nat->List Int}{gm:Nat}{h:Hp}(M:RedM p F l S R V gm h):PersF p F l S R V:=by obtain⟨gA,mA,bs,vc,vr,vv,Rs,Vs,la,_,_,_,_,_,_,_,_,_,_,A⟩:=M.ex;exact⟨M.perm,M.srt,la,A⟩
theorem PersF.lt{p:Int}{F:List (Int×Int)}{l S:List Ce}{R V:Nat->List Int}(P:PersF p F l S R V):∀x∈Fl S R,x<S.length:=fun x hx=>by obtain⟨la,A⟩:=P.all;unfold Fl at hx;obtain⟨k,hk,rfl⟩:=List.mem_map.1 hx;have h1:=(GZ (R k)).2;rw[A.red.rl k (List.mem_range.1 hk)]at h1;exact h1
theorem Ks(l:List Ce)(F:List (Int×Int))(v vf:Value)(p:Int)(hp:Hp)(hK:RgC l)(hR:RdC hp v l)(hF:RdL cV 2 hp [] vf F)(hV:Gs F)(hI:∀c,BH (Dz (BD F) c))(h0:Cy (cn l) F=(0,0))(hP:IsP p)(hl:l.length<=400):FnT Tryz.prog 15 #[.agg #[v],vf,.int .i64 p] hp [] (fun r h' ms'=>hp.le h'/\∃(S:List Ce) (R V:Nat->List Int) (vb:Value) (mb:Hp),r=.tuple #[vb,.int .i64 0]/\ms'=[mb]/\OwnL Ps 6 43 mb vb (Fp (Dz (BD F)) S (Fl S R) S.length)/\PersF p F l S R V):=by
 have o1:=hR.q.rd.one;have o2:=hF.rd.one;refine Ap func15 ntmps15 rfl rfl (fun w0 hw0=>?_);simp only[AX];refine As (AV [_] rfl rfl (by rfl) rfl rfl rfl (fun g3=>Qm rfl (Qm rfl (Am (AC fun h1 l1 hS=>?_)))));have hR:=hR.up l1;have hF:=hF.up l1;refine As (Qx (oG rfl CF AW (Seg.any hS)) rfl (Qm rfl (Qm rfl (Qc call51 rfl (L4 l F v vf p h1 hK hR hF hV h0 hP hl) (fun rB h2 ms2 l2 hB=>?_)))));obtain⟨l2',gm,S,R,V,vl,ml,rfl,rfl,hO,M⟩:=hB;have P:=M.pers;have hSn:S.length<=400:=by have:=P.perm.length_eq;rw[length_map,Ds]at this;omega
 have ovl:=hO.o1;refine Qm rfl (Qm rfl (Qm rfl (Qm rfl (Qm rfl (Qm rfl (Qm rfl (Am (Ac (As (Qm rfl (Qm rfl (Am (Aq rfl (fun hc=>absurd hc (fun h=>h rfl)) (fun hc=>Ah (Ab (Bu hO fun h3 l3 hL=>?_))))))))))))))))
 have hSi:∀a∈S,BH a.c.id:=fun a ha=>by have h1:a.c∈cn l:=P.perm.mem_iff.1 (List.mem_map.2 ⟨a,ha,rfl⟩);have h2:=hK.F.rgt.pos _ h1;have h3:=hK.ci h1;unfold BH;omega
 have M3:RedM p F l S R V gm h3:=by obtain⟨gA,mA,bs,vc,vr,vv,Rs,Vs,la,a1,a2,a3,a4,a5,a6,a7,a8,a9,a10,A⟩:=M.ex;exact⟨⟨gA,mA,bs,vc,vr,vv,Rs,Vs,la,a1.le l3,a2,AJ a3 l3,a4.up l3,a5.up l3,a6.up l3,a7,a8,fun k hk=>(a9 k hk).up l3,fun k hk=>(a10 k hk).up l3,A⟩,M.perm,M.srt,fun a ha=>(M.sds a ha).up l3⟩
 refine As (Qm rfl (Qm rfl (Qc call52 rfl (Xd l S F R V (Fl S R) p gm vl h3 M3 hL hSn (K8 S R) P.lt hSi hI) (fun rC h4 ms4 l4 hB=>?_))));obtain⟨l4',mb,rfl,hOb⟩:=hB;have ovb:=hOb.o1;refine Qm rfl (Qm rfl (Am (An ?_)));exact Bo rfl rfl rfl (⟨AJ l1 (AJ l2 (AJ l3 l4)),S,R,V,rC,mb,rfl,rfl,hOb,P⟩)
end Go.Proofs.Q

namespace Go.Proofs.Q
open Go.Proofs.Tryz
open Go.Eng Go.RowKit Go.Lin
def Jj(rows cols:Int):Prop:=0<=rows/\0<=cols/\rows<=400/\cols<=400
instance (r c:Int):Decidable (Jj r c):=by unfold Jj;infer_instance
theorem VS(p r c:Int)(h:Hp)(hI:BH p):FnT Tryz.prog 185 #[.int .i64 p,.int .i64 r,.int .i64 c] h [] (fun x _ _=>x=.bool (decide (IsP p/\Jj r c))):=by
 refine Ap func185 ntmps185 rfl rfl (fun w0 hw0=>?_);simp only[AX];refine As (Qm rfl (BK (Qm rfl (Qx (AL rfl call54 rfl (J6 _ _ hI _)) rfl (Qm rfl ?_)))));refine AQ (t:=9) rfl (fun hs=>?_) (fun hs=>?_)
 ·refine Qg (Au rfl rfl) rfl (Qg (Au rfl rfl) rfl (Qg (Qz rfl rfl rfl) rfl (Qg (Lc rfl rfl rfl) rfl (Qm rfl (Qm rfl ?_)))));refine AQ (t:=15) rfl (fun hs2=>?_) (fun hs2=>?_)
  ·refine Qg (Au rfl rfl) rfl (Qg (Au rfl rfl) rfl (Qg (I9 rfl rfl rfl) rfl (Qg (MZ rfl rfl rfl) rfl (Qm rfl (Qm rfl (Am (An ?_)))))));exact Az rfl rfl (by unfold Jj;congr 1;rw[decide_eq_decide];simp only[hs,true_and];omega)
  ·refine Qk rfl (Qk rfl (Qk rfl (Qk rfl (Qm rfl (Qm rfl (Am (An ?_)))))));exact Az rfl rfl (by unfold Jj;rw[decide_eq_false];rintro⟨_,h1⟩;omega)
 ·refine Qk rfl (Qk rfl (Qk rfl (Qk rfl (Qm rfl (Qm rfl (Qk rfl (Qk rfl (Qk rfl (Qk rfl (Qm rfl (Qm rfl (Am (An ?_)))))))))))));exact Az rfl rfl (by rw[decide_eq_false];exact fun h=>hs h.1)
theorem Wz(p r c:Int)(h:Hp)(hI:BH p)(ms:List Hp):FnV Tryz.prog 185 #[.int .i64 p,.int .i64 r,.int .i64 c] h ms (.bool (decide (IsP p/\Jj r c))):=by refine fun w hw=>(?_:FnV _ _ _ h [] _) w (hw.weaken (C9) (List.nil_sublist _));exact FnT.toV (VS p r c h hI)
variable {l:List Int}
def ZE(l:List Int)(p:Int->Bool):Int:=match l.findIdx? p with|some i=>i|none=>-1
theorem Uf{p:Int->Bool}{k:Nat}(hk:k<l.length)(hp:p l[k]=true)(hn:∀j (hj:j<k),p (l[j]'(by omega))=false):ZE l p=k:=by
 unfold ZE
 have:l.findIdx? p=some k:=by rw[List.findIdx?_eq_some_iff_getElem];exact⟨hk,hp,fun j hj=>by simp[hn j hj]⟩
 rw[this]
theorem Uj{p:Int->Bool}(hn:∀j (hj:j<l.length),p l[j]=false):ZE l p=-1:=by
 unfold ZE
 have:l.findIdx? p=none:=by rw[List.findIdx?_eq_none_iff];intro x hx;obtain⟨j,hj,rfl⟩:=List.mem_iff_getElem.1 hx;exact hn j hj
 rw[this]
theorem Yl(l:List Int)(p:Int->Bool):decide (0<=ZE l p)=l.any p:=by
 unfold ZE;cases h:l.findIdx? p with
 | none=>rw[List.findIdx?_eq_none_iff]at h;simp;exact h
 | some i=>
  rw[List.findIdx?_eq_some_iff_getElem]at h;obtain⟨h1,h2,_⟩:=h;simp;exact⟨_,getElem_mem h1,h2⟩
theorem MY(l:List Int)(vl:Value)(cf:FuncId)(cs:List Value)(p:Int->Bool)(h:Hp)(hR:RdL cI 1 h [] vl l)
  (hc:∀xs w,(callFunc cf xs).run Tryz.prog w=.ok (.enter cf xs) w)
  (hp:∀b∈l,∀ms,FnV Tryz.prog cf ([]++[Value.int .i64 b]++cs).toArray h ms (.bool (p b))) :
  FnT Tryz.prog 269 #[vl,.func (.func cf) #[] cs.toArray] h [] (fun r _ _=>r=.int .i64 (ZE l p)):=by
 have hl:=hR.len_le;refine Ap func269 ntmps269 rfl rfl (fun w0 hw0=>?_);simp only[AX];refine As (Qm rfl (Am (Ac (As (Qm rfl (Qx (Ar hR.rd.any rfl AU rfl) rfl (Qm rfl (Am (Ag ?_)))))))))
 refine Ay (fun n s h' ms'=>∃(k:Nat),n=l.length-k/\s=[(0,vl),(1,.func (.func cf) #[] cs.toArray),(7,.int .i64 l.length),(8,.int .i64 k)]/\h=h'/\ms'=[]/\k<=l.length/\∀j (hj:j<l.length),j<k->p l[j]=false)
  (l.length-0) _ ⟨0,rfl,rfl,rfl,rfl,by omega,fun j hj h=>by omega⟩ Qs ?_
 rintro n s h' ms' ⟨k,rfl,rfl,rfl,rfl,hk,hno⟩;refine As (Qm rfl (Am (Ac ?_)));refine Aq rfl (fun hlt=>?_) (fun hlt=>?_)
 ·have hlt':k<l.length:=by omega
  refine Ah (Ab (Ac (Ag (As (Qm rfl (Qm rfl (BK (Qm rfl (Qm rfl (Qm rfl (Qx (AE _ hR.rd.any rfl AU A6 rfl rfl rfl (by omega)) rfl (Ql rfl U3 (hR.any.cell0 hlt' rfl) (Qx (Cj rfl rfl hc rfl (hp _ (getElem_mem hlt') _)) rfl (Am ?_))))))))))))));refine Bz rfl (fun hpk=>?_) (fun hpk=>?_)
  ·refine Ac (Ad (Qm rfl (Qm rfl (Am (An (Aj (Ae (Ae (Aj (Ae ?_))))))))));exact Az rfl rfl (by rw[Uf hlt' hpk fun j hj=>hno j _ hj])
  ·refine Ah (Ai (Ab (Ad (Qx (oA rfl) rfl (Qm rfl (Ak ?_))))));refine Al (l.length-(k+1)) _ (by omega) ⟨k+1,rfl,rfl,rfl,rfl,by omega,fun j hj h1=>?_⟩ Qs;rcases (by omega:j<k\/j=k) with h2|rfl
   ·exact hno j hj h2
   ·exact hpk
 ·refine Av (Aa (Aa (Af (Ab (As (Qm rfl (Am (An ?_))))))));exact Az rfl rfl (by rw[Uj fun j hj=>hno j hj (by omega)])
theorem JO(l:List Int)(vl:Value)(cf:FuncId)(cs:List Value)(p:Int->Bool)(h:Hp)(hR:RdL cI 1 h [] vl l)
  (hc:∀xs w,(callFunc cf xs).run Tryz.prog w=.ok (.enter cf xs) w)
  (hp:∀b∈l,∀ms,FnV Tryz.prog cf ([]++[Value.int .i64 b]++cs).toArray h ms (.bool (p b))) :
  FnT Tryz.prog 220 #[vl,.func (.func cf) #[] cs.toArray] h [] (fun r _ _=>r=.bool (l.any p)):=by
 refine Ap func220 ntmps220 rfl rfl (fun w0 hw0=>?_);simp only[AX];refine As (Qm rfl (BK (Qm rfl (Qm rfl (Qx (AL rfl call269 rfl (EO (MY l vl cf cs p h hR hc hp) _)) rfl (Qm rfl (Qm rfl (Am (An ?_)))))))));exact Az rfl rfl (by rw[<-Yl])
structure FM where
 p:Int
 rows:Int
 cols:Int
 e:List Int
def FM.nil:FM:=⟨0,0,0,[]⟩
def FM.Rt(M:FM):Prop:=IsP M.p/\Jj M.rows M.cols/\(M.e.length:Int)=M.rows*M.cols/\∀x∈M.e,0<=x/\x<M.p
instance (M:FM):Decidable M.Rt:=by unfold FM.Rt;infer_instance
structure FM.Ok(M:FM):Prop where
 p:BH M.p
 r:BH M.rows
 c:BH M.cols
def cM(M:FM)(ev:Value):List Value:=[.int .i64 M.p,.int .i64 M.rows,.int .i64 M.cols,ev]
theorem TQ(g:Nat)(n p:Int)(h:Hp)(hD:∀ms,Cell h ms ⟨g,0,none⟩ (.int .i64 p))(ms:List Hp):FnV Tryz.prog 221 ([]++[Value.int .i64 n]++[Value.pointer (some ⟨g,0,none⟩)]).toArray h ms (.bool (decide (n<0\/p<=n))):=by
 refine EO ?_ ms;show FnT _ _ #[.int .i64 n,.pointer (some ⟨g,0,none⟩)] _ _ _;refine Ap func221 ntmps221 rfl rfl (fun w0 hw0=>?_);simp only[AX];refine As (Qm rfl (BK (Qm rfl (Qm rfl (Qm rfl ?_)))));refine AQ (t:=6) rfl (fun hs=>?_) (fun hs=>?_)
 ·refine Qk rfl (Qk rfl (Qk rfl (Qk rfl (Qm rfl (Qm rfl (Am (An ?_)))))));exact Az rfl rfl (by rw[decide_eq_true];exact .inl hs)
 ·refine Qg (Au rfl rfl) rfl (Qg (oF EP rfl) rfl (Qg (oL rfl U3 (hD _)) rfl (Qg (Lc rfl rfl rfl) rfl (Qm rfl (Qm rfl (Am (An ?_)))))));exact Az rfl rfl (by congr 1;rw[decide_eq_decide];omega)
theorem Yc{p:Int}:(!l.any fun n=>decide (n<0\/p<=n))=decide (∀x∈l,0<=x/\x<p):=by rw[Bool.eq_iff_iff];simp only[Bool.not_eq_true',List.any_eq_false,decide_eq_true_eq];exact⟨fun h x hx=>by have:=h x hx;omega,fun h x hx=>by have:=h x hx;omega⟩
theorem Py{r c:Int}(hF:Jj r c):0<=r*c/\r*c<=160000:=by obtain⟨h1,h2,h3,h4⟩:=hF;refine⟨Int.mul_nonneg h1 h2,?_⟩;have:=Int.mul_le_mul h3 h4 h2 (by omega:(0:Int)<=400);omega
theorem Ux(M:FM)(ev:Value)(h:Hp)(hO:M.Ok)(hR:RdL cI 1 h [] ev M.e):FnT Tryz.prog 183 #[.agg #[.int .i64 M.p,.int .i64 M.rows,.int .i64 M.cols,ev]] h [] (fun r _ _=>r=.bool (decide M.Rt)):=by
 have hl:=hR.len_le;refine Ap func183 ntmps183 rfl rfl (fun w0 hw0=>?_);simp only[AX];refine As (AV [_,_,_,_] rfl rfl (by rfl) rfl rfl rfl (fun g1=>Qm rfl (BK (Qf EP rfl (Ql rfl U3 (Cell.blk 0 rfl rfl) (Qf Nw rfl (Ql rfl U3 (Cell.blk 0 rfl rfl) (Qf Kk rfl (Ql rfl U3 (Cell.blk 0 rfl rfl) (Qx (AL rfl call185 rfl (Wz _ _ _ _ hO.p _)) rfl (Qm rfl ?_)))))))))));refine AQ (t:=10) rfl (fun hf=>?_) (fun hf=>?_)
 ·have hm:=Py hf.2;refine Qg (oF GV rfl) rfl (Qg (oL rfl AU (Cell.blk 0 rfl rfl)) rfl (Qg (Ar hR.rd.any rfl AU rfl) rfl (Qg (oF Nw rfl) rfl (Qg (oL rfl U3 (Cell.blk 0 rfl rfl)) rfl (Qg (oF Kk rfl) rfl (Qg (oL rfl U3 (Cell.blk 0 rfl rfl)) rfl (Qg (oM rfl) rfl (Qg (CU rfl rfl rfl) rfl (Qm rfl (Qm rfl ?_))))))))));refine AQ (t:=21) rfl (fun he=>?_) (fun he=>?_)
  ·refine Qg (oF GV rfl) rfl (Qg (oL rfl AU (Cell.blk 0 rfl rfl)) rfl (DP fun h' hle hS=>?_));have hR:=hR.up hle;have hD:∀i v,(cM M ev)[i]?=some v->∀ms,Cell h' ms ((⟨g1,0,none⟩:Addr).add i) v:=fun i v hv ms=>(hS i v hv).any;have hD0:∀ms,Cell h' ms ⟨g1,0,none⟩ (.int .i64 M.p):=fun ms=>hD 0 _ rfl ms;refine Qg (BW rfl rfl rfl) rfl (Qg (AL rfl call220 rfl (EO (JO M.e ev 221 [.pointer (some ⟨g1,0,none⟩)] (fun n=>decide (n<0\/M.p<=n)) h' hR call221 (fun b _ ms=>TQ g1 b M.p h' hD0 ms)) _)) rfl (Qg (G6 rfl rfl) rfl (Qm rfl (Qm rfl (Am (An ?_))))));exact Az rfl rfl (by rw[Yc];congr 1;rw[decide_eq_decide];unfold FM.Rt;exact⟨fun hx=>⟨hf.1,hf.2,he,hx⟩,fun hx=>hx.2.2.2⟩)
  ·refine Qk rfl (Qk rfl (Qk rfl (Qk rfl (Qk rfl (Qm rfl (Qm rfl (Am (An ?_))))))));exact Az rfl rfl (by rw[decide_eq_false];exact fun hx=>he hx.2.2.1)
 ·refine Qk rfl (Qk rfl (Qk rfl (Qk rfl (Qk rfl (Qk rfl (Qk rfl (Qk rfl (Qk rfl (Qm rfl (Qm rfl (Qk rfl (Qk rfl (Qk rfl (Qk rfl (Qk rfl (Qm rfl (Qm rfl (Am (An ?_)))))))))))))))))));exact Az rfl rfl (by rw[decide_eq_false];exact fun hx=>hf ⟨hx.1,hx.2.1⟩)
end Go.Proofs.Q

namespace Go.Proofs.Q
open Go.Proofs.Tryz
open Go.Eng Go.RowKit Go.Lin
def ZO(p r c:Int):FM:=if IsP p/\Jj r c then⟨p,r,c,replicate (r*c).toNat 0⟩ else FM.nil
def mkM(p:Int)(r c:Nat)(f:Nat->Nat->Int):FM:=⟨p,r,c,Dy r c f⟩
def WY(r:Value)(ms:List Hp)(M:FM):Prop:=∃ev m,ms=[m]/\r=.agg #[.int .i64 M.p,.int .i64 M.rows,.int .i64 M.cols,ev]/\OwnL cI 1 3 m ev M.e
theorem XE(p r c:Int)(h:Hp)(hI:BH p):FnT Tryz.prog 125 #[.int .i64 p,.int .i64 r,.int .i64 c] h [] (fun v h' ms'=>h=h'/\WY v ms' (ZO p r c)):=by
 refine Ap func125 ntmps125 rfl rfl (fun w0 hw0=>?_);simp only[AX];refine As (Cz [.int .i64 0,.int .i64 0,.int .i64 0,.slice none 0 0] rfl BS rfl rfl (fun g6=>Am (Ac (As (Qm rfl (Qm rfl (Qm rfl (Qx (AL rfl call185 rfl (Wz _ _ _ _ hI _)) rfl (Qm rfl (Am ?_))))))))));refine Bz rfl (fun hf=>?_) (fun hf=>?_)
 ·have hf:¬(IsP p/\Jj r c):=of_decide_eq_false (by simpa only [Bool.not_eq_true'] using hf);refine As (Qx (A3 Sy [.int .i64 0,.int .i64 0,.int .i64 0,.slice none 0 0] [] [_,_,_,_] rfl BS rfl rfl Qt rfl) rfl ?_);refine Sa 0 [_,_,_,_] BS rfl (by simp[Value.oneCell']) ?_;refine Am (An (Ae (M7 ?_)));exact By (vs:=[_,_,_,_]) 1 rfl rfl PS rfl BS rfl rfl (⟨rfl,_,_,rfl,by unfold ZO;rw[if_neg hf];rfl,by unfold ZO;rw[if_neg hf];exact OwnL.nil Bg⟩)
 ·have hf:IsP p/\Jj r c:=of_decide_eq_true (by simpa only [Bool.not_eq_false'] using hf);have hm:=Py hf.2;obtain⟨n,hn⟩:∃n:Nat,r*c=n:=⟨(r*c).toNat,by omega⟩
  refine Ah (Ab (As (Qm rfl (Qm rfl (Qm rfl (Qm rfl (Qm rfl (Qx (oM rfl) rfl (CD (n:=n) rfl AU A6 rfl rfl rfl (by omega) (by omega) (by omega) (by omega) rfl rfl rfl (fun g19=>Qx (A3 Sy [.int .i64 0,.int .i64 0,.int .i64 0,.slice none 0 0] [(0,_),(1,_),(2,_),(3,_)] [_,_,_,_] rfl BS rfl rfl Qt rfl) rfl ?_))))))))));refine Sa 1 [_,_,_,_] BS rfl (by simp[Value.oneCell']) ?_;refine Am (An ?_);exact By (vs:=[_,_,_,_]) 1 rfl rfl PS rfl BS rfl rfl (⟨rfl,_,_,rfl,by unfold ZO;rw[if_pos hf],by unfold ZO;rw[if_pos hf,hn];exact OwnL.rep n 0 (by omega)⟩)
variable {p:Int} {r c:Nat} {f:Nat->Nat->Int}
def InP(p:Int)(r c:Nat)(f:Nat->Nat->Int):Prop:=∀i,i<r->∀j,j<c->0<=f i j/\f i j<p
structure RtM(p:Int)(r c:Nat)(f:Nat->Nat->Int):Prop where
 pr:IsP p
 rl:r<=400
 cl:c<=400
 en:InP p r c f
theorem RtM.bd(R:RtM p r c f):2<=p/\p<=997:=⟨R.pr.1,R.pr.2.1⟩
theorem RtM.i64(R:RtM p r c f):BH p:=⟨by have:=R.bd;omega,by have:=R.bd;omega⟩
theorem RtM.ok(R:RtM p r c f):(mkM p r c f).Ok:=⟨R.i64,⟨by have:=R.rl;show _<=(r:Int);omega,by have:=R.rl;show(r:Int)<=_;omega⟩,⟨by have:=R.cl;show _<=(c:Int);omega,by have:=R.cl;show(c:Int)<=_;omega⟩⟩
theorem RtM.rt(R:RtM p r c f):(mkM p r c f).Rt:=by have h1:=R.rl;have h2:=R.cl;refine⟨R.pr,by unfold Jj mkM;simp only;omega,by simp[mkM,DC],fun x hx=>?_⟩;obtain⟨i,j,hi,hj,rfl⟩:=mem_mat.1 hx;exact R.en i hi j hj
theorem Xi{ev:Value}{h:Hp}(R:RtM p r c f)(hR:RdL cI 1 h [] ev (Dy r c f))(ms:List Hp):FnV Tryz.prog 183 #[.agg #[.int .i64 p,.int .i64 r,.int .i64 c,ev]] h ms (.bool true):=by have:=EO (Ux (mkM p r c f) ev h R.ok hR) ms;rw[decide_eq_true R.rt]at this;exact this
end Go.Proofs.Q

namespace Go.Proofs.Q
open Go.Proofs.Tryz
open Go.Eng Go.RowKit Go.Lin
def cR(p:Int)(r c:Nat)(ev:Value)(ov:List Value):List Value:=.int .i64 p::.int .i64 r::.int .i64 c::ev::ov
abbrev BR(g:Nat)(p:Int)(r c:Nat)(ev:Value)(ov:List Value):Hp:=Bn g 255 (cR p r c ev ov)
theorem JB(g:Nat)(p:Int)(r c:Nat)(f:Nat->Nat->Int)(ev:Value)(ov:List Value)(i:Nat)(h:Hp)(hS:Seg h [] ⟨g,0,none⟩ (cR p r c ev ov))(hR:RdL cI 1 h [] ev (Dy r c f))(hi:i<r)(hr:r<=400)(hc:c<=800) :
  FnV Tryz.prog 223 #[.pointer (some ⟨g,0,none⟩),.int .i64 i] h [] (B4 1 ev (i*c) ((i+1)*c)):=by
 refine FnT.toV ?_;have hA:=Seg.all hS;have hA0:=hA 0 _ rfl;have e1:(i+1)*c=i*c+c:=by rw[Nat.add_mul,Nat.one_mul]
 have b1:(i+1)*c<=r*c:=Nat.mul_le_mul_right c hi;have b2:r*c<=400*800:=Nat.mul_le_mul hr hc;have el:(Dy r c f).length=r*c:=DC _ _ _;have e3:((i:Int)+1)*c=i*c+c:=by rw[Int.add_mul,Int.one_mul]
 have hz:∀a:Addr,(a.add 0).add 3=a.add 3:=fun a=>by rw[BT]
 refine Ap func223 ntmps223 rfl rfl (fun w0 hw0=>?_);simp only[AX];refine As (Qm rfl (Am (Ac (BG (n:=22) (bs:=[true,true,true,true,true,true,true,true,true,true,true,true,true,true,true,true,true,true,true,true,true,false]) [true,true,true,true,true,true,true,true,true,true,true,true,true,true,true,true,true,true,true,true,true] CS (by kernel_rfl) (by kernel_rfl) rfl rfl (Qq rfl (Qq rfl (QF FC rfl (QF GV rfl (QL rfl AU (hA _ _ rfl _) (Qq rfl (Qq rfl (Qq rfl (QF FC rfl (QF Kk rfl (QL rfl U3 (hA _ _ rfl _) (Qp rfl (oM rfl) (Qq rfl (Qp rfl (oA rfl) (Qq rfl (Qq rfl (QF FC rfl (QF Kk rfl (QL rfl U3 (hA _ _ rfl _) (Qp rfl (oM rfl) (Qp rfl (MI (i*c) ((i+1)*c) hR.rd.any rfl AU A6 rfl rfl rfl (by omega) (by omega) (by omega) (by omega)) ?_)))))))))))))))))))))))));unfold Ft;simp only[cons_append,nil_append];refine Qo 21 rfl (Qm rfl (Qw (Qe (Ab (An ?_)))));exact Az rfl rfl (rfl)
def turn(f:Nat->Nat->Int)(i:Nat)(G:Nat->Int)(k a b:Nat):Int:=if a=i/\b<k then G b else f a b
theorem turn_zero(f:Nat->Nat->Int)(i:Nat)(G:Nat->Int)(a b:Nat):turn f i G 0 a b=f a b:=if_neg (by omega)
theorem turn_at(f:Nat->Nat->Int)(i:Nat)(G:Nat->Int)(k:Nat):turn f i G k i k=f i k:=if_neg (by omega)
theorem turn_ne(f:Nat->Nat->Int)(i:Nat)(G:Nat->Int)(k a b:Nat)(h:a≠i):turn f i G k a b=f a b:=if_neg (by omega)
theorem turn_step(f:Nat->Nat->Int)(i:Nat)(G:Nat->Int)(k a b:Nat):Jg (turn f i G k) i k (G k) a b=turn f i G (k+1) a b:=by
 unfold Jg turn;by_cases h:a=i/\b=k
 ·rw[if_pos h,if_pos (by omega),h.2]
 ·rw[if_neg h];by_cases h2:a=i/\b<k
  ·rw[if_pos h2,if_pos (by omega)]
  ·rw[if_neg h2,if_neg (by omega)]
theorem turn_all(f:Nat->Nat->Int)(i:Nat)(G:Nat->Int)(c a b:Nat)(hb:b<c):turn f i G c a b=if a=i then G b else f a b:=by
 unfold turn;by_cases h:a=i
 ·rw[if_pos ⟨h,hb⟩,if_pos h]
 ·rw[if_neg (fun x=>h x.1),if_neg h]
theorem O3(r c:Nat)(f:Nat->Nat->Int)(i:Nat)(G:Nat->Int)(ev:Value)(m:Hp)(cf:FuncId)(fs:List Value)(h:Hp)(hO:OwnL cI 1 3 m ev (Dy r c f))(hi:i<r)(hr:r<=400)(hc:c<=800)
  (hcf:∀xs w,(callFunc cf xs).run Tryz.prog w=.ok (.enter cf xs) w)
  (hG:∀k,k<c->∀m',OwnL cI 1 3 m' ev (Dy r c (turn f i G k))->FnV Tryz.prog cf (fs++[Value.int .i64 k,Value.int .i64 (f i k)]++[]).toArray h [m'] (.int .i64 (G k))) :
  FnT Tryz.prog 225 #[B4 1 ev (i*c) ((i+1)*c),.func (.func cf) fs.toArray #[]] h [m] (fun x h' ms'=>h=h'/\∃m',ms'=[m']/\OwnL cI 1 3 m' ev (Dy r c fun a b=>if a=i then G b else f a b)):=by
 have ec:=CL c (f i);refine Ap func225 ntmps225 rfl rfl (fun w0 hw0=>?_);simp only[AX];refine As (Qm rfl (Qx (Ar ((hO.rd (h:=h) (ms:=[m]) Mh).row hi).rd rfl AU rfl) rfl (Qm rfl (Am (Ag ?_)))))
 refine Ay (fun q s h' ms'=>∃(k:Nat) (m:Hp),q=c-k/\s=[(0,B4 1 ev (i*c) ((i+1)*c)),(1,.func (.func cf) fs.toArray #[]),(6,B4 1 ev (i*c) ((i+1)*c)),(7,.int .i64 ((G4 c (f i)).length:Nat)),(8,.int .i64 k)]/\h=h'/\ms'=[m]/\k<=c/\OwnL cI 1 3 m ev (Dy r c (turn f i G k)))
  (c-0) _ ⟨0,m,rfl,rfl,rfl,rfl,by omega,by rw[BO (fun a _ b _=>turn_zero f i G a b)];exact hO⟩ Qs ?_
 rintro q s h' ms' ⟨k,m,rfl,rfl,rfl,rfl,hk,hO⟩;refine As (Qm rfl (Am (Ac ?_)));refine Aq rfl (fun hlt=>?_) (fun hlt=>?_)
 ·have hkc:k<c:=by omega
  have ek:=CL c (turn f i G k i)
  have hcell:Cell h [m] ((AF (B4 1 ev (i*c) ((i+1)*c))).add (k*1)) (.int .i64 (f i k)):=by have:=((hO.rd (h:=h) (ms:=[m]) Mh).row hi).ev hkc;rw[turn_at]at this;exact this
  refine Ah (Ab (Ac (Ag (As (Qm rfl (Qx (AE _ ((hO.rd (h:=h) (ms:=[m]) Mh).row hi).rd rfl AU A6 rfl rfl rfl (by omega)) rfl (Ql rfl U3 (hcell) (Qm rfl (Qm rfl (Gm (Qm rfl (Qm rfl (Qm rfl (Qm rfl (Qm rfl (Qx (Cj (cs:=[]) rfl rfl hcf rfl (hG k hkc m hO)) rfl (Qx (AE _ ((hO.rd (h:=h) (ms:=[m]) Mh).row hi).rd rfl AU A6 rfl rfl rfl (by omega)) rfl (F0 0 i k hO hi hkc rfl A6 rfl rfl rfl rfl rfl (fun m' hO'=>Ak (Ai (Ab (Ad (Qx (oA rfl) rfl (Qm rfl (Ak ?_)))))))))))))))))))))))));refine Al (c-(k+1)) _ (by omega) ⟨k+1,m',rfl,rfl,rfl,rfl,by omega,by rw[BO (fun a _ b _=>turn_step f i G k a b)]at hO';exact hO'⟩ Qs
 ·refine Av (Aa (Aa (Af ?_)));obtain rfl:k=c:=by omega
  exact B7 rfl (⟨rfl,m,rfl,by rw[BO (fun a _ b hb=>turn_all f i G k a b hb)]at hO;exact hO⟩)
def swp(f:Nat->Nat->Int)(i j k a b:Nat):Int:=if b<k then f (Hh i j a) b else f a b
theorem OV(f:Nat->Nat->Int)(i j k a b:Nat):Jg (Jg (swp f i j k) i k (f j k)) j k (f i k) a b=swp f i j (k+1) a b:=by
 unfold Jg swp Hh;by_cases h1:a=j/\b=k
 ·obtain⟨rfl,rfl⟩:=h1;rw[if_pos ⟨rfl,rfl⟩,if_pos (by omega)];by_cases h2:a=i
  ·subst h2;rw[if_pos rfl]
  ·rw[if_neg h2,if_pos rfl]
 ·rw[if_neg h1];by_cases h2:a=i/\b=k
  ·obtain⟨rfl,rfl⟩:=h2;rw[if_pos ⟨rfl,rfl⟩,if_pos (by omega),if_pos rfl]
  ·rw[if_neg h2];by_cases h3:b<k
   ·simp only[h3,show b<k+1 by omega,if_true]
   ·by_cases h4:b<k+1
    ·have hbk:b=k:=by omega
     have hai:¬a=i:=fun e=>h2 ⟨e,hbk⟩;have haj:¬a=j:=fun e=>h1 ⟨e,hbk⟩;simp only[h3,h4,hai,haj,if_true,if_false]
    ·simp only[h3,h4,if_false]
theorem Aae(f:Nat->Nat->Int)(i j k a:Nat):swp f i j k a k=f a k:=if_neg (by omega)
theorem UE(f:Nat->Nat->Int)(i j a b:Nat):swp f i j 0 a b=f a b:=if_neg (by omega)
theorem Yb(f:Nat->Nat->Int)(i j c a b:Nat)(hb:b<c):swp f i j c a b=f (Hh i j a) b:=if_pos hb
theorem Xh(g:Nat)(p:Int)(r c:Nat)(f:Nat->Nat->Int)(ev:Value)(ov:List Value)(m:Hp)(i j:Nat)(h:Hp)(hO:OwnL cI 1 3 m ev (Dy r c f))(hi:i<r)(hj:j<r)(hr:r<=400)(hc:c<=800) :
  FnT Tryz.prog 224 #[.pointer (some ⟨g,0,none⟩),.int .i64 i,.int .i64 j] h [BR g p r c ev ov,m] (fun x h' ms'=>h=h'/\∃m',ms'=[BR g p r c ev ov,m']/\OwnL cI 1 3 m' ev (Dy r c fun a b=>f (Hh i j a) b)):=by
 have hRi:=(hO.rd (h:=h) (ms:=[m]) Mh).row hi;have ec:=CL c (f i);refine Ap func224 ntmps224 rfl rfl (fun w0 hw0=>?_);simp only[AX];refine As (Qm rfl (Qm rfl (Qx (AL rfl call223 rfl (CH fun h' hl hm=>JB g p r c f ev ov _ h' (Seg.ofLe (hm _ Mh)) (hO.rdh (hm _ (List.Mem.tail _ Mh))) (by assumption) hr hc)) rfl (Qm rfl (Qm rfl (Qx (AL rfl call223 rfl (CH fun h' hl hm=>JB g p r c f ev ov _ h' (Seg.ofLe (hm _ Mh)) (hO.rdh (hm _ (List.Mem.tail _ Mh))) (by assumption) hr hc)) rfl (Qm rfl (Qm rfl (BK (Qm rfl (Qx (D8 hRi.rd rfl AU rfl) rfl (Qm rfl (Am (Ag ?_))))))))))))))
 refine Ay (fun q s h' ms'=>∃(k:Nat) (m:Hp),q=c-k/\s=[(6,B4 1 ev (i*c) ((i+1)*c)),(7,B4 1 ev (j*c) ((j+1)*c)),(16,.int .i64 ((G4 c (f i)).length:Nat)),(17,.int .i64 k)]/\h=h'/\ms'=[BR g p r c ev ov,m]/\k<=c/\OwnL cI 1 3 m ev (Dy r c (swp f i j k)))
  (c-0) _ ⟨0,m,rfl,rfl,rfl,rfl,by omega,by rw[BO (fun a _ b _=>UE f i j a b)];exact hO⟩ Qs ?_
 rintro q s h' ms' ⟨k,m,rfl,rfl,rfl,rfl,hk,hO⟩;have eci:=CL c (swp f i j k i);have ecj:=CL c (swp f i j k j);refine As (Qm rfl (Am (Ac ?_)));refine Aq rfl (fun hlt=>?_) (fun hlt=>?_)
 ·have hkc:k<c:=by omega
  have hR2:=fun i hi=>(hO.rd (h:=h) (ms:=[BR g p r c ev ov,m]) (List.Mem.tail _ Mh)).row (i:=i) hi
  have hcell:∀i (hi:i<r),Cell h [BR g p r c ev ov,m] ((AF (B4 1 ev (i*c) ((i+1)*c))).add (k*1)) (.int .i64 (f i k)):=fun i hi=>by have:=(hR2 i hi).ev hkc;rw[Aae]at this;exact this
  refine Ah (Ab ?_);refine A9 (fun s h' ms'=>∃(m:Hp),s=[(6,B4 1 ev (i*c) ((i+1)*c)),(7,B4 1 ev (j*c) ((j+1)*c)),(16,.int .i64 ((G4 c (f i)).length:Nat)),(17,.int .i64 k)]/\h=h'/\ms'=[BR g p r c ev ov,m]/\OwnL cI 1 3 m ev (Dy r c (swp f i j (k+1)))) ?_ (fun s h ms hI=>?_)
  ·refine Ag (As (Qm rfl (Qm rfl (Am (BG (n:=16) (bs:=[true,true,true,true,true,true,true,false,true,true,true,false,true,false,true,false]) [true,true,true,true,true,true,true,false,true,true,true,false,true,false,true] CS (by kernel_rfl) (by kernel_rfl) rfl rfl (Qq rfl (Qq rfl (Qq rfl (Qq rfl (Qq rfl (Qq rfl (Qp rfl (BI _ (hR2 j hj).rd rfl AU A6 rfl rfl rfl (by omega)) (Qq rfl (Qq rfl (Qp rfl (BI _ (hR2 i hi).rd rfl AU A6 rfl rfl rfl (by omega)) (Qp rfl (BI _ (hR2 i hi).rd rfl AU A6 rfl rfl rfl (by omega)) (Qp rfl (BI _ (hR2 j hj).rd rfl AU A6 rfl rfl rfl (by omega)) ?_)))))))))))))))));unfold Ft;simp only[cons_append,nil_append];refine A4 [7,11] (by kernel_rfl) rfl ?_;refine AA rfl ?_ ?_
   ·refine Ql rfl U3 (hcell j hj) (Qw (Qo 11 rfl (Ql rfl U3 (hcell i hi) (Qw (Qo 13 rfl (F0 1 i k hO hi hkc rfl A6 rfl rfl rfl rfl rfl (fun m1 hO1=>Qw (Qo 15 rfl (F0 1 j k hO1 hj hkc rfl A6 rfl rfl rfl rfl rfl (fun m2 hO2=>Qw (Qe (Ai ?_))))))))))));refine AD _ ⟨m2,rfl,rfl,rfl,by rw[BO (fun a _ b _=>OV f i j k a b)]at hO2;exact hO2⟩ Qs
   refine AA rfl ?_ ?_
   ·refine Ql rfl U3 (hcell i hi) (Qw (Qo 7 rfl (Ql rfl U3 (hcell j hj) (Qw (Qo 13 rfl (F0 1 i k hO hi hkc rfl A6 rfl rfl rfl rfl rfl (fun m1 hO1=>Qw (Qo 15 rfl (F0 1 j k hO1 hj hkc rfl A6 rfl rfl rfl rfl rfl (fun m2 hO2=>Qw (Qe (Ai ?_))))))))))));refine AD _ ⟨m2,rfl,rfl,rfl,by rw[BO (fun a _ b _=>OV f i j k a b)]at hO2;exact hO2⟩ Qs
   exact A5
  obtain⟨m,rfl,rfl,rfl,hO⟩:=hI
  ·refine Ad (Qx (oA rfl) rfl (Qm rfl (Ak ?_)));refine Al (c-(k+1)) _ (by omega) ⟨k+1,m,rfl,rfl,rfl,rfl,by omega,hO⟩ Qs
 ·refine Av (Aa (Aa (Af ?_)));obtain rfl:k=c:=by omega
  exact B7 rfl (⟨rfl,m,rfl,by rw[BO (fun a _ b hb=>Yb f i j k a b hb)]at hO;exact hO⟩)
variable {p:Int} {n:Nat} {ov:List Int}
theorem JX{a b:Int}(ha:0<=a/\a<p)(hb:0<=b/\b<p)(hp:p<=997):0<=a*b/\a*b<=994009:=by refine⟨Int.mul_nonneg ha.1 hb.1,?_⟩;have:=Int.mul_le_mul (show a<=997 by omega) (show b<=997 by omega) hb.1 (by omega:(0:Int)<=997);omega
theorem Cg.pow{a b:Int}(h:Cg p a b):∀n:Nat,Cg p (a^n) (b^n)
 | 0=>Cg.of_eq (by rw[Int.pow_zero,Int.pow_zero])
 | n+1=>by rw[Int.pow_succ,Int.pow_succ];exact Cg.mul (Cg.pow h n) h
theorem Xt(hp:IsP p)(h1:1<=n)(hn:(n:Int)<p){out:Int}(ho:Cg p out ((n:Int)^(p.toNat-2))):(n:Int)*out%p=1:=by
 have h2:=hp.1;have hd:¬p.toNat∣n:=fun hd=>by have:=Nat.le_of_dvd (by omega) hd;omega
 have hf:=Ue hp.prm hd
 have h3:Cg p ((n:Int)*out) ((n:Int)^(p.toNat-1)):=by have:=Cg.mul (Cg.refl p (n:Int)) ho;rw[show p.toNat-1=(p.toNat-2)+1 by omega,Int.pow_succ,Int.mul_comm _ (n:Int)];exact this
 have h4:(n:Int)^(p.toNat-1)%p=1:=by
  have h5:((n^(p.toNat-1)%p.toNat:Nat):Int)=1:=by rw[hf];rfl
  rw[Int.natCast_emod,Int.natCast_pow,Int.toNat_of_nonneg (by omega)]at h5;exact h5
 rw[Cg.iff_mod.1 h3,h4]
def Ovk(p:Int)(ov:List Int):Prop:=ov.length=998/\∀n (h:n<ov.length),ov[n]=0\/(0<ov[n]/\ov[n]<p/\(n:Int)*ov[n]%p=1)
theorem Aad{r c:Nat}{ev:Value}(hn:n<ov.length):(cR p r c ev (ov.flatMap cI))[4+n*1]?=some (.int .i64 ov[n]):=by have:=EI Bg ov n hn 0 (.int .i64 ov[n]) rfl;rw[Nat.add_zero]at this;rw[show 4+n*1=n*1+4 by omega];exact this
theorem Zy{r c:Nat}{ev:Value}(x:Int):(cR p r c ev (ov.flatMap cI)).set (4+n*1) (.int .i64 x)=cR p r c ev ((ov.set n x).flatMap cI):=by rw[show 4+n*1=n+1+1+1+1 by omega,<-Aal];rfl
theorem Ovk.set(H:Ovk p ov){x:Int}(h0:0<x)(h1:x<p)(h2:(n:Int)*x%p=1):Ovk p (ov.set n x):=by
 refine⟨by simp[H.1],fun k hk=>?_⟩;rw[List.getElem_set];by_cases e:n=k
 ·subst e;rw[if_pos rfl];exact .inr ⟨h0,h1,h2⟩
 ·rw[if_neg e];exact H.2 k (by simpa using hk)
theorem NO(a:Int)(e:Nat):a^e=(a*a)^(e/2)*a^(e%2):=by
 conv=>lhs;rw[<-Nat.div_add_mod e 2,Int.pow_add,Int.pow_mul]
 rw[show a^2=a*a by rw[Int.pow_succ,Int.pow_succ,Int.pow_zero,Int.one_mul]]
theorem Ty(g:Nat)(p:Int)(r c:Nat)(ev:Value)(ov:List Int)(n:Nat)(h:Hp)(hp:IsP p)(hov:Ovk p ov)(h1n:1<=n)(hn:(n:Int)<p) :
  FnT Tryz.prog 226 #[.pointer (some ⟨g,0,none⟩),.int .i64 n] h [BR g p r c ev (ov.flatMap cI)] (fun x h' ms'=>h=h'/\∃(v:Int) (ov':List Int),x=.int .i64 v/\ms'=[BR g p r c ev (ov'.flatMap cI)]/\Ovk p ov'/\0<v/\v<p/\(n:Int)*v%p=1):=by
 have hb:2<=p/\p<=997:=⟨hp.1,hp.2.1⟩
 have hl:=hov.1;have hnl:n<ov.length:=by omega
 have hc:=hov.2 n hnl
 have hcell:Cell h [BR g p r c ev (ov.flatMap cI)] (((⟨g,0,none⟩:Addr).add 4).add (n*1)) (.int .i64 ov[n]):=by rw[BT];exact Cell.blk 0 rfl (Aad hnl)
 have hP:∀ov':List Value,Cell h [BR g p r c ev ov'] (((⟨g,0,none⟩:Addr).add 0).add 0) (.int .i64 p):=fun ov'=>by rw[BT];exact Cell.blk 0 rfl rfl
 refine Ap func226 ntmps226 rfl rfl (fun w0 hw0=>?_);simp only[AX];refine As (Qm rfl (Am (Ac (As (Qm rfl (Qm rfl (Qm rfl (Qf MW rfl (Qx (B5 (n) rfl ZS A6 rfl rfl (by omega) (by omega)) rfl (Ql rfl U3 (hcell) (Qm rfl (Am ?_))))))))))));refine Aq rfl (fun hpos=>?_) (fun hpos=>?_)
 ·have hc:0<ov[n]/\ov[n]<p/\(n:Int)*ov[n]%p=1:=by
   rcases hc with h0|h0
   ·omega
   ·exact h0
  refine As (Qm rfl (Qm rfl (Qm rfl (Qf MW rfl (Qx (B5 (n) rfl ZS A6 rfl rfl (by omega) (by omega)) rfl (Ql rfl U3 (hcell) (Qm rfl (Am (An (Ae ?_))))))))));exact Az rfl rfl (⟨rfl,_,ov,rfl,rfl,hov,hc.1,hc.2.1,hc.2.2⟩)
 ·refine Ah (Ab (As (Qm rfl (Qm rfl (Qm rfl (Am (Ac (As (Qm rfl (Qm rfl (Qf FC rfl (Qf EP rfl (Ql rfl U3 (hP _) (Qx (oS rfl) rfl (Qm rfl (Am (Ag ?_)))))))))))))))))
  refine Ay (fun q s h' ms'=>∃(e:Nat) (out pw y:Int),q=e/\s=[(0,.pointer (some ⟨g,0,none⟩)),(1,.int .i64 n),(5,.int .i64 out),(6,.int .i64 pw),(7,.int .i64 y)]/\h=h'/\ms'=[BR g p r c ev (ov.flatMap cI)]/\y=e/\e<=1000/\0<=out/\out<p/\0<=pw/\pw<p/\Cg p (out*pw^e) ((n:Int)^(p.toNat-2)))
   (p.toNat-2) _ ⟨p.toNat-2,1,(n:Int),p-2,rfl,rfl,rfl,rfl,by omega,by omega,by omega,by omega,by omega,by omega,by rw[Int.one_mul];exact Cg.refl _ _⟩ Qs ?_
  rintro e s h' ms' ⟨e',out,pw,y,rfl,rfl,rfl,rfl,rfl,he,o1,o2,q1,q2,hcg⟩;have b1:=JX ⟨o1,o2⟩ ⟨q1,q2⟩ hb.2;have b2:=JX ⟨q1,q2⟩ ⟨q1,q2⟩ hb.2;have m1:=Int.emod_nonneg (out*pw) (show p≠0 by omega);have m2:=Int.emod_lt_of_pos (out*pw) (show 0<p by omega);have m3:=Int.emod_nonneg (pw*pw) (show p≠0 by omega);have m4:=Int.emod_lt_of_pos (pw*pw) (show 0<p by omega);have hh:Cg p ((pw*pw%p)^(e/2)) ((pw*pw)^(e/2)):=Cg.pow (Cg.mod _ _) _;refine Ac (As (Qm rfl (Qm rfl (Am ?_))));refine Aq rfl (fun hlt=>?_) (fun hlt=>?_)
  ·refine Ah (Ab (Ac (Ag (Ac (As (Qm rfl (Qx (Uy rfl rfl rfl (by omega)) rfl (Qm rfl (Am ?_)))))))));refine Aq rfl (fun hodd=>?_) (fun hodd=>?_)
   ·refine Ad (Qm rfl (Qm rfl (Qx (oM rfl) rfl (Qm rfl (Qm rfl (Qf FC rfl (Qf EP rfl (Ql rfl U3 (hP _) (Qx (Cc rfl rfl rfl (by omega) (by omega)) rfl (Qm rfl (Gm (Qm rfl (Qm rfl (Qx (oM rfl) rfl (Qm rfl (Qm rfl (Qf FC rfl (Qf EP rfl (Ql rfl U3 (hP _) (Qx (Cc rfl rfl rfl (by omega) (by omega)) rfl (Qm rfl (Ak (Ai (Ab (Ad (Qm rfl (Qx (Nl (n:=1) rfl rfl rfl (by omega)) rfl (Qm rfl (Ak ?_)))))))))))))))))))))))))))));refine Al (e/2) _ (by omega) ⟨e/2,out*pw%p,pw*pw%p,((e/2:Nat):Int),rfl,rfl,rfl,rfl,rfl,by omega,m1,m2,m3,m4,?_⟩ Qs;refine Cg.trans (Cg.mul (Cg.mod _ _) hh) (Cg.trans (Cg.of_eq ?_) hcg);rw[NO pw e,show e%2=1 by omega,Int.pow_succ,Int.pow_zero,Int.one_mul,Int.mul_assoc,Int.mul_comm pw]
   ·refine Ah (Ab (Ad (Qm rfl (Qm rfl (Qx (oM rfl) rfl (Qm rfl (Qm rfl (Qf FC rfl (Qf EP rfl (Ql rfl U3 (hP _) (Qx (Cc rfl rfl rfl (by omega) (by omega)) rfl (Qm rfl (Ak (Ai (Ab (Ad (Qm rfl (Qx (Nl (n:=1) rfl rfl rfl (by omega)) rfl (Qm rfl (Ak ?_))))))))))))))))))));refine Al (e/2) _ (by omega) ⟨e/2,out,pw*pw%p,((e/2:Nat):Int),rfl,rfl,rfl,rfl,rfl,by omega,o1,o2,m3,m4,?_⟩ Qs;refine Cg.trans (Cg.mul (Cg.refl _ _) hh) (Cg.trans (Cg.of_eq ?_) hcg);rw[NO pw e,show e%2=0 by omega,Int.pow_zero,Int.mul_one]
  ·obtain rfl:e=0:=by omega
   rw[Int.pow_zero,Int.mul_one]at hcg;have hinv:=Xt hp h1n hn hcg
   have hout:0<out:=by
    rcases (by omega:out=0\/0<out) with h0|h0
    ·subst h0;simp at hinv
    ·exact h0
   refine Av (Aa (Aa (Af (Ab (As (Qm rfl (Qm rfl (Qm rfl (Qm rfl (Qf MW rfl (Qx (B5 (n) rfl ZS A6 rfl rfl (by omega) (by omega)) rfl ?_)))))))))));refine AS 0 (4+n*1) rfl A6 rfl rfl rfl rfl (BT _ _ _) (by show _<(_::_::_::_::_:List Value).length;simp only[List.length_cons,Bf Bg,hl];omega) rfl rfl ?_;rw[Zy];refine BK (Qm rfl (Qm rfl (Am (An ?_))));exact Az rfl rfl (⟨rfl,out,ov.set n out,rfl,rfl,hov.set hout o2 hinv,hout,o2,hinv⟩)
theorem Vt(g:Nat)(p:Int)(r c:Nat)(ev:Value)(ov:List Int)(n:Int)(h:Hp)(hp:IsP p)(hov:Ovk p ov)(h1n:1<=n)(hn:n<p) :
  FnT Tryz.prog 226 #[.pointer (some ⟨g,0,none⟩),.int .i64 n] h [BR g p r c ev (ov.flatMap cI)] (fun x h' ms'=>h=h'/\∃(v:Int) (ov':List Int),x=.int .i64 v/\ms'=[BR g p r c ev (ov'.flatMap cI)]/\Ovk p ov'/\0<v/\v<p/\n*v%p=1):=by
 obtain⟨k,rfl⟩:=Int.eq_ofNat_of_zero_le (show 0<=n by omega);exact Ty g p r c ev ov k h hp hov (by omega) hn
end Go.Proofs.Q

namespace Go.Proofs.Q
open Go.Proofs.Tryz
open Go.Eng Go.RowKit Go.Lin
theorem YB(t p k n:Int)(h:Hp)(hp:IsP p)(hn:0<=n/\n<p)(ht:0<=t/\t<p)(ms:List Hp) :
  FnV Tryz.prog 227 #[.agg #[.slice none 0 0,.int .i64 t,.int .i64 p],.int .i64 k,.int .i64 n] h ms (.int .i64 (n*t%p)):=by
 refine EO ?_ ms;have hb:2<=p/\p<=997:=⟨hp.1,hp.2.1⟩
 have b1:=JX hn ht hb.2;refine Ap func227 ntmps227 rfl rfl (fun w0 hw0=>?_);simp only[AX];refine As (AV [_,_,_] rfl rfl (by rfl) rfl rfl rfl (fun g3=>Qm rfl (BK (Qm rfl (Qf RW rfl (Ql rfl U3 (Cell.blk 0 rfl rfl) (Qx (oM rfl) rfl (Qf RH rfl (Ql rfl U3 (Cell.blk 0 rfl rfl) (Qx (Cc rfl rfl rfl (by omega) (by omega)) rfl (Qm rfl (Am (An ?_)))))))))))));exact Az rfl rfl (rfl)
theorem Aag(r c:Nat)(F:Nat->Nat->Int)(ev:Value)(at_ k:Nat)(t p n:Int)(h:Hp)(hR:RdL cI 1 h [] ev (Dy r c F))(ha:at_<r)(hk:k<c)(hp:IsP p)(hn:0<=n/\n<p)(hF:0<=F at_ k/\F at_ k<p)(ht:0<=t/\t<p) :
  FnV Tryz.prog 228 #[.agg #[B4 1 ev (at_*c) ((at_+1)*c),.int .i64 t,.int .i64 p],.int .i64 k,.int .i64 n] h [] (.int .i64 ((n+F at_ k*t)%p)):=by
 refine FnT.toV ?_;have hb:2<=p/\p<=997:=⟨hp.1,hp.2.1⟩
 have b1:=JX hF ht hb.2;have hRa:=hR.row ha;have ea:=CL c (F at_);refine Ap func228 ntmps228 rfl rfl (fun w0 hw0=>?_);simp only[AX];refine As (AV [_,_,_] rfl rfl (by rfl) rfl rfl rfl (fun g3=>Qm rfl (Am (AC fun h' hle hS=>?_))));have hRa:=hRa.up hle;have hA:=Seg.all hS;have hA0:=hA 0 _ rfl;refine Ac (BG (n:=14) (bs:=[true,true,true,true,true,true,true,true,true,true,true,true,true,false]) [true,true,true,true,true,true,true,true,true,true,true,true,true] CS (by kernel_rfl) (by kernel_rfl) rfl rfl (Qq rfl (QF YN rfl (QL rfl AU (hA _ _ rfl _) (Qq rfl (Qp rfl (BF (k) hRa.rd.any rfl AU A6 rfl rfl) (QL rfl U3 (hRa.any.ev hk) (QF RW rfl (QL rfl U3 (hA _ _ rfl _) (Qp rfl (oM rfl) (Qp rfl (oA rfl) (QF RH rfl (QL rfl U3 (hA _ _ rfl _) (Qp rfl (Cc rfl rfl rfl (by omega) (by omega)) ?_))))))))))))));unfold Ft;simp only[cons_append,nil_append];refine Qo 13 rfl (Qm rfl (Qw (Qe (Ab (An ?_)))));exact Az rfl rfl (rfl)
theorem UK(l:List Int)(v:Value)(h:Hp)(hR:RdL cI 1 h [] v l)(hl:l.length<=1000000):FnT Tryz.prog 222 #[v] h [] (fun x h' ms'=>h=h'/\∃m,ms'=[m]/\OwnL cI 1 3 m x l):=by
 refine Ap func222 ntmps222 rfl rfl (fun w0 hw0=>?_);simp only[AX];refine As (Qm rfl (Am (Ac (As (Qm rfl (Qx (Kq hR.rd.any rfl AU rfl rfl) rfl (Am ?_)))))));refine Bz rfl (fun hn=>?_) (fun hn=>?_)
 ·have h0:=Jp hR.rd hn;obtain rfl:l=[]:=List.eq_nil_of_length_eq_zero h0;refine As (Qm rfl (Am (An (Ae (M7 ?_)))));exact Az rfl rfl (⟨rfl,_,rfl,OwnL.nil Bg⟩)
 ·refine Ah (Ab (As ?_));refine Ax [] [] [] rfl AU A6 rfl (by omega) (by kernel_rfl) (by repeat (first|exact trivial|refine⟨⟨by first|rfl|exact(hR.rd.any).cells|exact Rd.cells ‹_›|exact(RdL.rd ‹_›).cells,rfl,rfl⟩,?_⟩)) rfl rfl rfl rfl (fun g5=>?_);refine Qm rfl ?_;have hO:OwnL cI 1 3 (Bn g5 3 []) (.slice (some ⟨g5,0,none⟩) 0 0) []:=OwnL.blk (l:=([]:List Int)) 0 Bg rfl (by omega);refine AO 0 hO hR.any rfl AU A6 rfl (by omega) rfl rfl rfl Cb (by simp;omega) (by simp;omega) rfl rfl rfl (fun v' m' hO'=>?_);refine Qm rfl (Am (An ?_));exact Az rfl rfl (⟨rfl,m',rfl,hO'⟩)
theorem Aaq{o:Oper}{s:AB}{h:Hp}{ms:List Hp}{x:Operand}{p:Int}{r c:Nat}{ev':Value}(ho:o.op=.build 255 #[(0,x)])(hx:ev s x=some (.agg #[.int .i64 p,.int .i64 r,.int .i64 c,ev']))(h1:ev'.oneCell'=true) :
  OX Tryz.prog o s h ms (.agg (cR p r c ev' (replicate 998 (.int .i64 0))).toArray):=
 A3 AaW ([.int .i64 0,.int .i64 0,.int .i64 0,.slice none 0 0]++replicate 998 (.int .i64 0)) [(0,[.int .i64 p,.int .i64 r,.int .i64 c,ev'])] _ (lp:=[(0,x)]) (vs:=[(0,.agg #[.int .i64 p,.int .i64 r,.int .i64 c,ev'])]) ho Aa3 (by kernel_rfl) (by simp only[Xj,hx]) ⟨⟨rfl,rfl,rfl⟩,trivial⟩ rfl
def W6(pv:List Nat):List Int:=pv.map fun(k:Nat)=>(k:Int)
theorem MU(pv:List Nat):(W6 pv).length=pv.length:=by simp[W6]
theorem U8{h:Hp}{ms:List Hp}{m2:Hp}{vp:Value}{pv:List Nat}(O:OwnL cI 1 3 m2 vp (W6 pv))(hm:m2∈ms):Rd h ms vp 1 pv.length ((W6 pv).flatMap cI):=by
 have:=(O.rd (h:=h) hm).rd
 rwa [MU]at this
theorem Abn(p:Int):Ovk p (replicate 998 0):=⟨length_replicate,fun n hn=>.inl (List.getElem_replicate _)⟩
def Mo(p:Int)(t i j:Nat)(v:Int)(F:Nat->Nat->Int)(k a b:Nat):Int:=if a<k then PT p t i j v F a b else Eh p t i v F a b
theorem Zd(p:Int)(t i j:Nat)(v:Int)(F:Nat->Nat->Int)(k b:Nat):Mo p t i j v F k t b=Eh p t i v F t b:=by
 unfold Mo;split
 ·unfold PT;rw[if_pos rfl]
 ·rfl
theorem Rk(p:Int)(t i j:Nat)(v:Int)(F:Nat->Nat->Int)(k b:Nat):Mo p t i j v F k k b=Eh p t i v F k b:=if_neg (by omega)
theorem Wh(p:Int)(t i j:Nat)(v:Int)(F:Nat->Nat->Int)(k a b:Nat)(hk:k≠t):(if a=k then(Eh p t i v F k b+Eh p t i v F t b*(p-Eh p t i v F k j))%p else Mo p t i j v F k a b)=Mo p t i j v F (k+1) a b:=by
 unfold Mo;by_cases h:a=k
 ·subst h;rw[if_pos rfl,if_pos (by omega)];unfold PT;rw[if_neg hk]
 ·rw[if_neg h];by_cases h2:a<k
  ·rw[if_pos h2,if_pos (by omega)]
  ·rw[if_neg h2,if_neg (by omega)]
theorem Pz(p:Int)(t i j:Nat)(v:Int)(F:Nat->Nat->Int)(k a b:Nat)(h:k=t\/(Eh p t i v F k j=0/\0<=Eh p t i v F k b/\Eh p t i v F k b<p)):Mo p t i j v F k a b=Mo p t i j v F (k+1) a b:=by
 unfold Mo;by_cases h1:a<k
 ·rw[if_pos h1,if_pos (by omega)]
 ·rw[if_neg h1];by_cases h2:a=k
  ·subst h2;rw[if_pos (by omega)];unfold PT;rcases h with rfl|⟨h3,h4,h5⟩
   ·rw[if_pos rfl]
   ·by_cases h6:a=t
    ·rw[if_pos h6,h6]
    ·rw[if_neg h6,h3,Int.sub_zero,Int.add_mul_emod_self_right,Int.emod_eq_of_lt h4 h5]
  ·rw[if_neg (by omega)]
theorem V8(p:Int)(t i j:Nat)(v:Int)(F:Nat->Nat->Int)(a b:Nat):(if a=t then F (Hh t i t) b*v%p else F (Hh t i a) b)=Mo p t i j v F 0 a b:=by unfold Mo Eh;rw[if_neg (show ¬a<0 by omega)]
theorem Xy(p:Int)(t i j:Nat)(v:Int)(F:Nat->Nat->Int)(r a b:Nat)(ha:a<r):Mo p t i j v F r a b=PT p t i j v F a b:=if_pos ha
theorem Aai{p:Int}(hp:2<=p){r c t i:Nat}{v:Int}{F:Nat->Nat->Int}(ht:t<r)(hi:i<r)(hF:∀a,a<r->∀b,b<c->0<=F a b/\F a b<p)(a:Nat)(ha:a<r)(b:Nat)(hb:b<c):0<=Eh p t i v F a b/\Eh p t i v F a b<p:=by
 unfold Eh;split
 ·exact⟨Int.emod_nonneg _ (by omega),Int.emod_lt_of_pos _ (by omega)⟩
 ·exact hF _ (G7 ht hi ha) b hb
theorem Uw(pv:List Nat)(j:Nat):W6 pv++[(j:Int)]=W6 (pv++[j]):=by simp[W6]
theorem XO{h:Hp}{ms:List Hp}{g:Nat}{p:Int}{r c:Nat}{ev:Value}{ov:List Value}(hm:ms[0]?=some (BR g p r c ev ov)):Seg h ms ((⟨g,0,none⟩:Addr).add 0) [.int .i64 p,.int .i64 r,.int .i64 c,ev]:=fun k u hu=>by
 rw[BT,Nat.zero_add];refine Cell.blk 0 hm ?_;rcases k with _|_|_|_|k
 ·exact hu
 ·exact hu
 ·exact hu
 ·exact hu
 ·simp at hu
structure Ech(p:Int)(r c:Nat)(f F:Nat->Nat->Int)(pv:List Nat):Prop where
 red:Go.Lin.Red p r c f F pv c
theorem PK(p:Int)(r c:Nat)(f:Nat->Nat->Int)(ev:Value)(h:Hp)(hp:IsP p)(hr:r<=400)(hc:c<=800)(hf:InP p r c f)(hR:RdL cI 1 h [] ev (Dy r c f)) :
  FnT Tryz.prog 184 #[.agg #[.int .i64 p,.int .i64 r,.int .i64 c,ev]] h [] (fun x h' ms'=>h.le h'/\∃(F:Nat->Nat->Int) (pv:List Nat) (eu vp:Value) (m m2:Hp),x=.tuple #[.agg #[.int .i64 p,.int .i64 r,.int .i64 c,eu],vp]/\ms'=[m,m2]/\OwnL cI 1 3 m eu (Dy r c F)/\OwnL cI 1 3 m2 vp (W6 pv)/\Ech p r c f F pv):=by
 have hb:2<=p/\p<=997:=⟨hp.1,hp.2.1⟩
 have e1:=hR.rd.one;have b2:r*c<=400*800:=Nat.mul_le_mul hr hc;have el:(Dy r c f).length=r*c:=DC _ _ _;refine Ap func184 ntmps184 rfl rfl (fun w0 hw0=>?_);simp only[AX];refine As (AV [_,_,_,_] rfl rfl (by rfl) rfl rfl rfl (fun g1=>Cz [.int .i64 0,.int .i64 0,.int .i64 0,.slice none 0 0] rfl BS rfl rfl (fun g2=>Qm rfl (Am (V1 (As (Qf GV rfl (Ql rfl AU (Cell.blk 1 rfl rfl) (Qc call222 rfl (UK (Dy r c f) ev h hR (by omega)) (fun eu h1 ms1 l1 hF=>?_))))))))));obtain⟨rfl,m,rfl,hO⟩:=hF;have e2:=hO.o1;refine Qf GV rfl ?_;refine AS 2 _ rfl Cr rfl rfl (by assumption) rfl rfl (by(simp;done)) rfl rfl ?_;refine Am (Bm 2 rfl fun h' hle hS=>?_);have hA:=Seg.all hS;have hA0:=hA 0 _ rfl;refine As (Qx (oG rfl PS BS (Seg.any hS)) rfl (Qx (Aaq rfl rfl e2) rfl (AV (cR p r c eu (replicate 998 (.int .i64 0))) rfl rfl rfl rfl rfl rfl (fun g17=>?_))));rw[WT];refine Qm rfl (BK (Qm rfl (Am (Ac (VL (Ab (BJ (Iq (ms':=[BR g17 p r c eu ((replicate 998 0).flatMap cI),m,Hp.emp,Bn g2 65 [.int .i64 0,.int .i64 0,.int .i64 0,.slice none 0 0]]) ((List.Perm.swap _ _ _).trans ((List.Perm.swap _ _ _).cons _)) (Ac (As (Qf Kk rfl (Ql rfl U3 (hA _ _ rfl _) (Qm rfl (Am (Ag ?_)))))))))))))))
 refine Ay (fun q s hh ms'=>∃(j:Nat) (F:Nat->Nat->Int) (pv:List Nat) (vp:Value) (ov:List Int) (m m2:Hp),q=c-j/\s=[(1,.pointer (some ⟨g1,0,none⟩)),(2,.pointer (some ⟨g2,0,none⟩)),(4,.pointer (some ⟨g17,0,none⟩)),(5,vp),(19,.int .i64 c),(20,.int .i64 j)]/\h'=hh/\ms'=[BR g17 p r c eu (ov.flatMap cI),m,m2,Bn g2 65 [.int .i64 0,.int .i64 0,.int .i64 0,.slice none 0 0]]/\j<=c/\OwnL cI 1 3 m eu (Dy r c F)/\OwnL cI 1 3 m2 vp (W6 pv)/\Go.Lin.Red p r c f F pv j/\Ovk p ov)
  (c-0) _ ⟨0,f,[],_,replicate 998 0,m,_,rfl,rfl,rfl,rfl,by omega,hO,OwnL.nil Bg,Go.Lin.Red.start hf,Abn p⟩ Qs ?_
 rintro q s hh ms' ⟨j,F,pv,vp,ov,m,m2,rfl,rfl,rfl,rfl,hj,hO,hO2,hRed,hov⟩;have hP:=fun ms hm=>U8 (h:=h') (ms:=ms) hO2 hm;have ovp:=(hP [m2] Mh).one;have hlr:=hRed.len;refine As (Qm rfl (Am (Ac ?_)));refine Aq rfl (fun hlt=>?_) (fun hlt=>?_)
 ·have hjc:j<c:=by omega
  refine Ah (Ab (Ac (Ag (As (Qm rfl (Qm rfl (BK (Qm rfl (Qx (Ar (hP _ (List.Mem.tail _ (List.Mem.tail _ Mh))) rfl AU rfl) rfl (Qm rfl (BK (Qm rfl (Qm rfl (Am (Ag ?_)))))))))))))))
  refine Ay (fun q s hh ms'=>∃(i:Nat),q=r-i/\s=[(1,.pointer (some ⟨g1,0,none⟩)),(2,.pointer (some ⟨g2,0,none⟩)),(4,.pointer (some ⟨g17,0,none⟩)),(5,vp),(6,.int .i64 j),(7,.int .i64 pv.length),(8,.int .i64 i),(19,.int .i64 c),(20,.int .i64 j)]/\h'=hh/\ms'=[BR g17 p r c eu (ov.flatMap cI),m,m2,Bn g2 65 [.int .i64 0,.int .i64 0,.int .i64 0,.slice none 0 0]]/\pv.length<=i/\i<=r/\∀a,pv.length<=a->a<i->F a j=0)
   (r-pv.length) _ ⟨pv.length,rfl,rfl,rfl,rfl,by omega,by omega,fun a h1 h2=>by omega⟩ Qs ?_
  rintro q s hh ms' ⟨i,rfl,rfl,rfl,rfl,hli,hir,hno⟩;have hRow:=fun i hi=>(hO.rd (h:=h') (ms:=[m]) Mh).row (i:=i) hi;have hcell:∀i,i<r->∀ms,m∈ms->Cell h' ms ((AF (B4 1 eu (i*c) ((i+1)*c))).add (j*1)) (.int .i64 (F i j)):=fun i hi ms hm=>((hO.rd (h:=h') hm).row hi).ev hjc;refine Ac (As (Qm rfl (Qf Nw rfl (Ql rfl U3 (hA _ _ rfl _) (Qm rfl (Am ?_))))));refine Aq rfl (fun hlt2=>?_) (fun hlt2=>?_)
  ·have hi:i<r:=by omega
   have ec:=CL c (F i);refine Ah (Ab (Ac (Ag (Ac (As (Qm rfl (Qm rfl (Qx (AL rfl call223 rfl (CH fun h' hl hm=>JB g17 p r c F eu _ _ h' (Seg.ofLe (hm _ Mh)) (hO.rdh (hm _ (List.Mem.tail _ Mh))) (by assumption) hr hc)) rfl (Qm rfl (Qx (BI (j) (hRow i hi).rd rfl AU A6 rfl rfl (by omega) (by omega)) rfl (Ql rfl U3 (hcell i hi _ (List.Mem.tail _ Mh)) (Qm rfl (Am ?_)))))))))))));refine Aq rfl (fun hz=>?_) (fun hz=>?_)
   ·refine Av (Aa (Af (Ab (Ad (Qm rfl (Qx (oA rfl) rfl (Qm rfl (Ak ?_))))))));refine Al (r-(i+1)) _ (by omega) ⟨i+1,rfl,rfl,rfl,rfl,by omega,by omega,fun a h1 h2=>?_⟩ Qs;rcases (by omega:a<i\/a=i) with h3|rfl
    ·exact hno a h1 h3
    ·exact hz
   ·have ht:pv.length<r:=by omega
    refine Ah (Ab (As (Qm rfl (Qm rfl (Qm rfl ?_)))));have hFi:=hRed.bd i hi j hjc;have hd0:=hRed.bd;have hsi:Hh pv.length i pv.length=i:=by simp[Hh]
    refine Bb (pre:=[BR g17 p r c eu (ov.flatMap cI),m]) rfl call224 rfl (Xh g17 p r c F eu _ m pv.length i h' hO ht hi hr hc) rfl rfl rfl rfl (fun x h2 ms2 l2 hF=>?_);obtain⟨rfl,m,rfl,hO⟩:=hF
    have hcell1:∀ms,m∈ms->Cell h' ms ((AF (B4 1 eu (pv.length*c) ((pv.length+1)*c))).add (j*1)) (.int .i64 (F i j)):=fun ms hm=>by have:=((hO.rd (h:=h') hm).row ht).ev hjc;rw[hsi]at this;exact this
    have hRow1:=fun i hi=>(hO.rd (h:=h') (ms:=[m]) Mh).row (i:=i) hi;have ec1:=CL c (fun b=>F (Hh pv.length i pv.length) b);refine Am (Ac (BG (n:=16) (bs:=[true,true,false,true,true,true,false,true,false,false,false,true,true,false,false,false]) [true,true,false,true,true,true,false,true,false,false,false,true,true] CS (by kernel_rfl) (by kernel_rfl) rfl rfl (Qq rfl (Qq rfl (Qq rfl (Qq rfl (Qq rfl (Qq rfl (QF EP rfl (QL rfl U3 (hA0 _) ?_))))))))));unfold Ft;simp only[cons_append,nil_append];refine Qo 2 rfl (Qx (AL rfl call223 rfl (CH fun h' hl hm=>JB g17 p r c (fun a b=>F (Hh pv.length i a) b) eu _ _ h' (Seg.ofLe (hm _ Mh)) (hO.rdh (hm _ (List.Mem.tail _ Mh))) (by assumption) hr hc)) rfl (Qw (Qo 6 rfl (Qx (AL rfl call223 rfl (CH fun h' hl hm=>JB g17 p r c (fun a b=>F (Hh pv.length i a) b) eu _ _ h' (Seg.ofLe (hm _ Mh)) (hO.rdh (hm _ (List.Mem.tail _ Mh))) (by assumption) hr hc)) rfl (Qw (Qo 8 rfl (Qx (BI (j) (hRow1 pv.length ht).rd rfl AU A6 rfl rfl (by omega) (by omega)) rfl (Qw (Qo 9 rfl (Ql rfl U3 (hcell1 _ (List.Mem.tail _ Mh)) (Qw (Qo 10 rfl (Bb (pre:=[BR g17 p r c eu (ov.flatMap cI)]) rfl call226 rfl (Vt g17 p r c eu ov (F i j) h' hp hov (by omega) (by omega)) rfl rfl rfl rfl (fun x h2 ms2 l2 hv=>?_))))))))))))));obtain⟨rfl,v,ov,rfl,rfl,hov,hv0,hvp,hv1⟩:=hv;refine Qw (Qo 13 rfl ?_);refine Qx (A3 Ze [.slice none 0 0,.int .i64 0,.int .i64 0] [(0,_),(1,_),(2,_)] [_,_,_] rfl Zf rfl rfl (by repeat (first|exact trivial|refine⟨⟨rfl,rfl,rfl⟩,?_⟩|refine⟨⟨((hRow1 pv.length ht).rd).cells,rfl,rfl⟩,?_⟩)) rfl) rfl ?_;refine Qw (Qo 14 rfl (Qx (BW rfl rfl rfl) rfl (Qw (Qo 15 rfl (J1 ?_)))));refine Bb (pre:=[m]) rfl call225 rfl (O3 r c (fun a b=>F (Hh pv.length i a) b) pv.length (fun b=>F (Hh pv.length i pv.length) b*v%p) eu m 227 [.agg #[.slice none 0 0,.int .i64 v,.int .i64 p]] h' hO ht hr hc call227 (fun k hk m' hO'=>YB v p k _ h' hp (hd0 _ (by rw[hsi];exact hi) k hk) ⟨Int.le_of_lt hv0,hvp⟩ _)) rfl rfl rfl rfl (fun x h2 ms2 l2 hE=>?_);obtain⟨rfl,m,rfl,hO⟩:=hE;refine J1 (Qw (Qe (Ab (Ac (As (Qf Nw rfl (Ql rfl U3 (hA _ _ rfl _) (Qm rfl (Am (Ag ?_))))))))));have hb2:=Aai (v:=v) hb.1 ht hi hd0
    refine Ay (fun q s hh ms'=>∃(k:Nat) (m:Hp),q=r-k/\s=[(1,.pointer (some ⟨g1,0,none⟩)),(2,.pointer (some ⟨g2,0,none⟩)),(4,.pointer (some ⟨g17,0,none⟩)),(5,vp),(6,.int .i64 j),(7,.int .i64 pv.length),(19,.int .i64 c),(20,.int .i64 j),(60,.int .i64 r),(61,.int .i64 k)]/\h'=hh/\ms'=[BR g17 p r c eu (ov.flatMap cI),m,m2,Bn g2 65 [.int .i64 0,.int .i64 0,.int .i64 0,.slice none 0 0]]/\k<=r/\OwnL cI 1 3 m eu (Dy r c (Mo p pv.length i j v F k)))
     (r-0) _ ⟨0,m,rfl,rfl,rfl,rfl,by omega,by rw[BO (fun a _ b _=>V8 p pv.length i j v F a b)]at hO;exact hO⟩ Qs ?_
    rintro q s hh ms' ⟨k,m,rfl,rfl,rfl,rfl,hkr,hO⟩;have hcell2:∀a,a<r->∀ms,m∈ms->Cell h' ms ((AF (B4 1 eu (a*c) ((a+1)*c))).add (j*1)) (.int .i64 (Mo p pv.length i j v F k a j)):=fun a ha ms hm=>((hO.rd (h:=h') hm).row ha).ev hjc;have hRow2:=fun i hi=>(hO.rd (h:=h') (ms:=[m]) Mh).row (i:=i) hi;refine As (Qm rfl (Am (Ac ?_)));refine Aq rfl (fun hltk=>?_) (fun hltk=>?_)
    ·have hk:k<r:=by omega
     have eck:=CL c (Mo p pv.length i j v F k k);have hn:=hb2 k hk j hjc;have hkk:=Rk p pv.length i j v F k;refine Ah (Ab (Ac (Ag (As (Qm rfl (Qm rfl (BK (Qm rfl (Qm rfl (Qx (AL rfl call223 rfl (CH fun h' hl hm=>JB g17 p r c (Mo p pv.length i j v F k) eu _ _ h' (Seg.ofLe (hm _ Mh)) (hO.rdh (hm _ (List.Mem.tail _ Mh))) (by assumption) hr hc)) rfl (Qm rfl (Qx (BI (j) (hRow2 k hk).rd rfl AU A6 rfl rfl (by omega) (by omega)) rfl (Ql rfl U3 ((hkk j ▸ hcell2 k hk _ (List.Mem.tail _ Mh))) (Qm rfl (BK (Qm rfl (Qm rfl (Qm rfl (Qm rfl ?_)))))))))))))))))));refine AQ (t:=73) rfl (fun hkt=>?_) (fun hkt=>?_)
     ·have hkt':k≠pv.length:=by omega
      refine Qg (Au rfl rfl) rfl (Qg (Cw rfl rfl rfl) rfl (Qm rfl (Am ?_)));refine Aq rfl (fun hn0=>?_) (fun hn0=>?_)
      ·refine BG (n:=15) (bs:=[true,true,false,true,true,false,true,true,true,true,true,true,false,false,false]) [true,true,false,true,true,false,true,true,true,true,true,true] CS (by kernel_rfl) (by kernel_rfl) rfl rfl (Qq rfl (Qq rfl (Qq rfl (Qq rfl (QF EP rfl (QL rfl U3 (hA0 _) (Qq rfl (Qp rfl (oS rfl) (QF EP rfl (QL rfl U3 (hA0 _) ?_))))))))));unfold Ft;simp only[cons_append,nil_append];refine Qo 2 rfl (Qx (AL rfl call223 rfl (CH fun h' hl hm=>JB g17 p r c (Mo p pv.length i j v F k) eu _ _ h' (Seg.ofLe (hm _ Mh)) (hO.rdh (hm _ (List.Mem.tail _ Mh))) (by assumption) hr hc)) rfl (Qw (Qo 5 rfl (Qx (AL rfl call223 rfl (CH fun h' hl hm=>JB g17 p r c (Mo p pv.length i j v F k) eu _ _ h' (Seg.ofLe (hm _ Mh)) (hO.rdh (hm _ (List.Mem.tail _ Mh))) (by assumption) hr hc)) rfl (Qw (Qo 12 rfl ?_))))));refine Qx (A3 Ze [.slice none 0 0,.int .i64 0,.int .i64 0] [(0,_),(1,_),(2,_)] [_,_,_] rfl Zf rfl rfl (by repeat (first|exact trivial|refine⟨⟨rfl,rfl,rfl⟩,?_⟩|refine⟨⟨((hRow2 pv.length ht).rd).cells,rfl,rfl⟩,?_⟩)) rfl) rfl ?_;refine Qw (Qo 13 rfl (Qx (BW rfl rfl rfl) rfl (Qw (Qo 14 rfl (J1 ?_)))));refine Bb (pre:=[m]) rfl call225 rfl (O3 r c (Mo p pv.length i j v F k) k (fun b=>(Eh p pv.length i v F k b+Eh p pv.length i v F pv.length b*(p-Eh p pv.length i v F k j))%p) eu m 228 [.agg #[B4 1 eu (pv.length*c) ((pv.length+1)*c),.int .i64 (p-Eh p pv.length i v F k j),.int .i64 p]] h' hO hk hr hc call228 (fun b hbc m' hO'=>CH fun h'' hl hm=>by have:=Aag r c _ eu pv.length b (p-Eh p pv.length i v F k j) p (Mo p pv.length i j v F k k b) h'' (hO'.rdh (hm _ Mh)) ht hbc hp (by rw[Rk];exact hb2 k hk b hbc) (by rw[turn_ne _ _ _ _ _ _ (Ne.symm hkt'),Zd];exact hb2 _ ht b hbc) (by omega);rw[turn_ne _ _ _ _ _ _ (Ne.symm hkt'),Zd,Rk]at this;rw[Rk];exact this)) rfl rfl rfl rfl (fun x h2 ms2 l2 hE=>?_);obtain⟨rfl,m,rfl,hO⟩:=hE;refine J1 (Qw (Qe (Ai (Ab (Ad (Qx (oA rfl) rfl (Qm rfl (Ak ?_))))))));refine Al (r-(k+1)) _ (by omega) ⟨k+1,m,rfl,rfl,rfl,rfl,by omega,by rw[BO (fun a _ b _=>Wh p pv.length i j v F k a b hkt')]at hO;exact hO⟩ Qs
      ·refine Ah (Ai (Ab (Ad (Qx (oA rfl) rfl (Qm rfl (Ak ?_))))));refine Al (r-(k+1)) _ (by omega) ⟨k+1,m,rfl,rfl,rfl,rfl,by omega,?_⟩ Qs;rw[BO (fun a _ b hbc=>Pz p pv.length i j v F k a b (.inr ⟨by omega,hb2 k hk b hbc⟩))]at hO;exact hO
     ·refine Qk rfl (Qk rfl (Qm rfl (Am (AP rfl (Ah (Ai (Ab (Ad (Qx (oA rfl) rfl (Qm rfl (Ak ?_)))))))))));refine Al (r-(k+1)) _ (by omega) ⟨k+1,m,rfl,rfl,rfl,rfl,by omega,?_⟩ Qs;rw[BO (fun a _ b hbc=>Pz p pv.length i j v F k a b (.inl (by omega)))]at hO;exact hO
    ·obtain rfl:k=r:=by omega
     refine Av (Aa (Aa (Af (Ab (As (Qm rfl (Qm rfl (Ao [_] rfl AU A6 rfl (by rfl) rfl rfl (by omega) rfl rfl rfl (fun g95=>AO 3 hO2 (RdL.one Bg Mh rfl) rfl AU A6 rfl (by omega) rfl rfl rfl Cb (by simp only[MU,length_singleton];omega) (by simp only[MU,length_singleton];omega) rfl rfl rfl (fun vp' m2' hO2'=>?_))))))))));rw[Uw]at hO2';refine Qm rfl (Am (Av (Gj rfl (Aa (Aa (Gj rfl (Af (Ab (Ad (Qx (oA rfl) rfl (Qm rfl (Ak (AN ?_)))))))))))));refine Al (c-(j+1)) _ (by omega) ⟨j+1,PT p pv.length i j v F,pv++[j],vp',ov,m,m2',rfl,rfl,rfl,rfl,by omega,by rw[BO (fun a ha b _=>Xy p pv.length i j v F k a b ha)]at hO;exact hO,hO2',hRed.step hb.1 hi hli hjc hv1,hov⟩ Qs
  ·refine Av (Aa (Aa (Af (Ai (Ab (Ad (Qx (oA rfl) rfl (Qm rfl (Ak ?_)))))))));refine Al (c-(j+1)) _ (by omega) ⟨j+1,F,pv,vp,ov,m,m2,rfl,rfl,rfl,rfl,by omega,hO,hO2,hRed.skip fun a ha hl=>hno a hl (by omega),hov⟩ Qs
 ·obtain rfl:j=c:=by omega
  refine Av (Aa (Aa (Af (Ab (As (Qm rfl (Qm rfl (Qf FC rfl (Qx (oG rfl PS BS (XO rfl)) rfl (Qm rfl ?_))))))))));refine Sa 3 [_,_,_,_] BS rfl (by simp[e2]) ?_;refine Qm rfl (Am (An (Np (AN ?_))));exact FY (vs:=[_,_,_,_]) 2 rfl rfl rfl PS rfl BS rfl rfl (⟨AJ l1 hle,F,pv,eu,vp,m,m2,rfl,rfl,hO,hO2,⟨hRed⟩⟩)
theorem QC(p:Int)(r c:Nat)(f:Nat->Nat->Int)(ev:Value)(h:Hp)(R:RtM p r c f)(hR:RdL cI 1 h [] ev (Dy r c f)) :
  FnT Tryz.prog 124 #[.agg #[.int .i64 p,.int .i64 r,.int .i64 c,ev]] h [] (fun x h' ms'=>h.le h'/\∃(F:Nat->Nat->Int) (pv:List Nat) (eu vp:Value) (m m2:Hp),x=.tuple #[.agg #[.int .i64 p,.int .i64 r,.int .i64 c,eu],vp]/\ms'=[m,m2]/\OwnL cI 1 3 m eu (Dy r c F)/\OwnL cI 1 3 m2 vp (W6 pv)/\Ech p r c f F pv):=by
 refine Ap func124 ntmps124 rfl rfl (fun w0 hw0=>?_);simp only[AX];refine As (AV [_,_,_,_] rfl rfl (by rfl) rfl rfl rfl (fun g1=>Cz [.int .i64 0,.int .i64 0,.int .i64 0,.slice none 0 0] rfl BS rfl rfl (fun g2=>Qm rfl (Am (Ac (As (Qx (oG rfl PS BS (Seg.blk 1 rfl)) rfl (Qx (AL rfl call183 rfl (Xi R hR _)) rfl (Qm rfl (Am (AP rfl (Ah (Ab (As (Qx (oG rfl PS BS (Seg.blk 1 rfl)) rfl ?_)))))))))))))));refine Qc call184 rfl (PK p r c f ev h R.pr R.rl (by have:=R.cl;omega) R.en hR) (fun x h1 ms1 l1 hF=>?_);obtain⟨l2,F,pv,eu,vp,m,m2,rfl,rfl,hO,hO2,hE⟩:=hF;have oe:=hO.o1;refine Qm rfl (Qm rfl ?_);refine Sa 2 [_,_,_,_] BS rfl (by simp[oe]) ?_;refine Qm rfl (Am (An (A8 3 rfl ?_)));exact FY (vs:=[_,_,_,_]) 2 rfl rfl rfl PS rfl BS rfl rfl (⟨l1,F,pv,eu,vp,m,m2,rfl,rfl,hO,hO2,hE⟩)
theorem VA(p:Int)(r c:Nat)(f:Nat->Nat->Int)(ev:Value)(h:Hp)(R:RtM p r c f)(hR:RdL cI 1 h [] ev (Dy r c f)) :
  FnT Tryz.prog 59 #[.agg #[.int .i64 p,.int .i64 r,.int .i64 c,ev]] h [] (fun x h' ms'=>h.le h'/\ms'=[]/\∃(F:Nat->Nat->Int) (pv:List Nat),x=.int .i64 pv.length/\Ech p r c f F pv):=by
 refine Ap func59 ntmps59 rfl rfl (fun w0 hw0=>?_);simp only[AX];refine As (AV [_,_,_,_] rfl rfl (by rfl) rfl rfl rfl (fun g1=>Qm rfl (BK (Qx (oG rfl PS BS (Seg.blk 0 rfl)) rfl (Qc call124 rfl (QC p r c f ev h R hR) (fun x h1 ms1 l1 hF=>?_))))));obtain⟨l2,F,pv,eu,vp,m,m2,rfl,rfl,hO,hO2,hE⟩:=hF;have oe:=hO.o1;refine Qm rfl (Qm rfl (Qm rfl (Cz [.int .i64 0,.int .i64 0,.int .i64 0,.slice none 0 0] rfl BS rfl rfl (fun g3=>?_))));refine Sa 0 [_,_,_,_] BS rfl (by simp[oe]) ?_;refine Qm rfl (BK (Qm rfl (Qx (D8 (U8 (h:=h) (ms:=[m2]) hO2 Mh) rfl AU rfl) rfl (Qm rfl (Am (An (A8 3 rfl (A8 2 rfl (A8 1 rfl (A8 0 rfl ?_))))))))));exact Az rfl rfl (⟨l1,rfl,F,pv,rfl,hE⟩)
def F7(l:List Nat):List Nat:=(l.reverse.dropWhile (·==0)).reverse
theorem K5(l:List Nat):F7 (l++[0])=F7 l:=by simp[F7]
theorem Fo{a:Nat}(l:List Nat)(h:a≠0):F7 (l++[a])=l++[a]:=by simp[F7,h]
theorem Fw(l:List Nat)(v:Value)(h:Hp)(R:RdL Cq 1 h [] v l)(hl:l.length<=1000000) :
  FnT Tryz.prog 229 #[v] h [] (fun r h' ms'=>h.le h'/\ms'=[]/\RdL Cq 1 h' [] r (F7 l)):=by
 refine Ap func229 ntmps229 rfl rfl (fun w0 hw0=>?_);simp only[AX];refine As (Qm rfl (Am (Ac (Ag ?_))))
 refine Ay (fun q sl h' ms'=>∃(k:Nat) (u:Value),k=q/\sl=[(0,u),(2,.slice none 0 0)]/\h=h'/\ms'=[]/\k<=l.length/\RdL Cq 1 h [] u (l.take k)/\F7 (l.take k)=F7 l)
  l.length _ ⟨l.length,v,rfl,rfl,rfl,rfl,Nat.le_refl _,by rw[take_length];exact R,by rw[take_length]⟩ Qs ?_
 rintro q sl h' ms' ⟨k,u,rfl,rfl,rfl,rfl,hk,hR,hs⟩;have hkl:(l.take k).length=k:=by rw[length_take];omega
 refine Ac (As (Qm rfl (Qx (Ar hR.rd.any rfl B0 rfl) rfl (Qm rfl (Qm rfl ?_)))));refine AQ (t:=6) rfl (fun h1=>?_) (fun h1=>?_)
 ·have hk0:0<k:=by have:=CC h1;omega
  obtain⟨a,ha⟩:∃a,l[k-1]'(by omega)=a:=⟨_,rfl⟩
  have hkt:l.take k=l.take (k-1)++[a]:=by have:=take_succ_eq_append_getElem (l:=l) (i:=k-1) (by omega);rw[ha,show k-1+1=k by omega]at this;exact this
  have hc:Cell h [] ((AF u).add ((k-1)*1)) (.int .u64 (a:Int)):=by
   have hk1:k-1<(l.take k).length:=by omega
   have e:(l.take k)[k-1]=a:=by rw[List.getElem_take];exact ha
   exact hR.cell0 hk1 (by rw[e];rfl)
  refine Qg (Au rfl rfl) rfl (Qg (Au rfl rfl) rfl (Qg (Ar hR.rd.any rfl B0 rfl) rfl (Qg (oS rfl) rfl (Qg (BF (k-1) hR.rd.any rfl B0 Cp rfl rfl) rfl (Qg (oL rfl FE (hc)) rfl (Qg (CU rfl rfl rfl) rfl (Qm rfl (Am ?_))))))));refine Aq rfl (fun h2=>?_) (fun h2=>?_)
  ·have ha0:a=0:=by omega
   refine Ah (Ab (Ag (Ad (Qm rfl (Qm rfl (Qx (Ar hR.rd.any rfl B0 rfl) rfl (Qx (oS rfl) rfl (Qx (DS (k-1) hR.rd.any rfl B0 Cp rfl rfl (by omega) (by omega)) rfl (Qm rfl (Ak (Ai ?_)))))))))))
   exact Al (k-1) _ (by omega) ⟨k-1,B4 1 u 0 (k-1),rfl,rfl,rfl,rfl,by omega,by
    have:=RdL.sub_ hR (i:=0) (j:=k-1) (by omega) (by rw[hkl];omega)
    simpa[List.take_take,Nat.min_eq_left (show k-1<=k by omega)] using this,by rw[<-hs,hkt,ha0,K5]⟩ Qs
  ·have ha0:a≠0:=by omega
   refine Av (Aa (Aa (Af (Ab (As (Qm rfl (Qm rfl (Am (An ?_)))))))));exact Az rfl rfl (⟨C9,rfl,by rw[<-hs,hkt,Fo _ ha0,<-hkt];exact hR⟩)
 ·have hk0:k=0:=by omega
  subst hk0;refine Qk rfl (Qk rfl (Qk rfl (Qk rfl (Qk rfl (Qk rfl (Qk rfl (Qm rfl (Am (AP rfl (Av (Aa (Aa (Af (Ab (As (Qm rfl (Qm rfl (Am (An ?_)))))))))))))))))));exact Az rfl rfl (⟨C9,rfl,by rw[<-hs];exact hR⟩)
theorem AaJ(b:UInt8):b.toNat<256:=b.toNat_lt
theorem Xw(neg:Bool)(h:Hp):FnT Tryz.prog 187 #[.agg #[.bool neg,sv []]] h [] (fun r h' ms'=>h.le h'/\ms'=[]/\RdL Cq 1 h' [] r []):=by
 refine Ap func187 ntmps187 rfl rfl (fun w0 hw0=>?_);simp only[AX];refine As (AV [_,_] rfl rfl (by rfl) rfl rfl rfl (fun g1=>Qm rfl (Am (AC fun h1 l1 hS=>?_))));have e1:∀ms,Cell h1 ms ((⟨g1,0,none⟩:Addr).add 1) (sv []):=fun ms=>(hS 1 _ rfl).any;refine As (Qf Hx rfl (Ql rfl U9 (e1 _) (Qx (E9 0 rfl rfl U9 rfl) rfl (Qx (oA rfl) rfl (Qx (oS rfl) rfl (Qx (Gi rfl rfl rfl (by omega) (by omega)) rfl (CD (n:=0) rfl B0 Cp rfl rfl rfl (by rfl) (by rfl) (by omega) (by omega) rfl rfl rfl (fun g12=>Qm rfl (Am (Ac (As (Qf Hx rfl (Ql rfl U9 (e1 _) (Qx (E9 0 rfl rfl U9 rfl) rfl (Qm rfl (Am (Ag (Ay (fun q sl h' ms'=>q=0/\sl=[(1,.pointer (some ⟨g1,0,none⟩)),(3,.slice (some ⟨g12,0,none⟩) 0 0),(15,.int .i64 ((0:Nat):Int)),(16,.int .i64 0)]/\h1=h'/\ms'=[Bn g12 222 []]) 0 _ ⟨rfl,rfl,rfl,rfl⟩ Qs ?_))))))))))))))))));rintro q sl h' ms' ⟨rfl,rfl,rfl,rfl⟩;refine As (Qm rfl (Am (Ac ?_)));refine Aq rfl (fun hlt=>?_) (fun hlt=>?_)
 ·exact absurd hlt (by omega)
 ·refine Av (Aa (Aa (Af (Ab ?_))));have hO:OwnL Cq 1 222 (Bn g12 222 []) (.slice (some ⟨g12,0,none⟩) 0 0) []:=OwnL.blk (l:=([]:List Nat)) 0 DK rfl (by omega);refine Bu hO fun h2 l2 hR=>(As (Qm rfl (Bb (pre:=[]) rfl call229 rfl (Fw [] _ h2 hR (by simp)) rfl rfl rfl rfl (fun r h3 ms3 l3 hF=>?_))))
  obtain⟨l3',rfl,hR3⟩:=hF;refine Qm rfl (Am (An ?_));exact Az rfl rfl (⟨AJ l1 (AJ l2 l3'),rfl,hR3⟩)
theorem Yw(neg:Bool)(b:UInt8)(hb:b.toNat≠0)(h:Hp):FnT Tryz.prog 187 #[.agg #[.bool neg,sv [b]]] h [] (fun r h' ms'=>h.le h'/\ms'=[]/\RdL Cq 1 h' [] r [b.toNat]):=by
 have hb8:=AaJ b;refine Ap func187 ntmps187 rfl rfl (fun w0 hw0=>?_);simp only[AX];refine As (AV [_,_] rfl rfl (by rfl) rfl rfl rfl (fun g1=>Qm rfl (Am (AC fun h1 l1 hS=>?_))));have e1:∀ms,Cell h1 ms ((⟨g1,0,none⟩:Addr).add 1) (sv [b]):=fun ms=>(hS 1 _ rfl).any;refine As (Qf Hx rfl (Ql rfl U9 (e1 _) (Qx (E9 1 rfl rfl U9 rfl) rfl (Qx (oA rfl) rfl (Qx (oS rfl) rfl (Qx (Gi rfl rfl rfl (by omega) (by omega)) rfl (CD (n:=1) rfl B0 Cp rfl rfl rfl (by rfl) (by rfl) (by omega) (by omega) rfl rfl rfl (fun g12=>Qm rfl (Am (Ac (As (Qf Hx rfl (Ql rfl U9 (e1 _) (Qx (E9 1 rfl rfl U9 rfl) rfl (Qm rfl (Am (Ag ?_)))))))))))))))));refine Ay (fun q sl h' ms'=>∃(i:Nat) (m:Hp),1-i=q/\sl=[(1,.pointer (some ⟨g1,0,none⟩)),(3,.slice (some ⟨g12,0,none⟩) 1 1),(15,.int .i64 ((1:Nat):Int)),(16,.int .i64 i)]/\h1=h'/\ms'=[m]/\i<=1/\OwnL Cq 1 222 m (.slice (some ⟨g12,0,none⟩) 1 1) [if i=0 then 0 else b.toNat]) 1 _ ⟨0,_,rfl,rfl,rfl,rfl,by omega,OwnL.blk (l:=[0]) 1 DK rfl (by omega)⟩ Qs ?_;rintro q sl h' ms' ⟨i,m,rfl,rfl,rfl,rfl,hi,hO⟩;refine As (Qm rfl (Am (Ac ?_)));refine Aq rfl (fun hlt=>?_) (fun hlt=>?_)
 ·have hi0:i=0:=by omega
  subst hi0;rw[if_pos rfl]at hO;refine Ah (Ab (Ac (Ag (As (Qm rfl (Qm rfl (BK (Qf Hx rfl (Ql rfl U9 (e1 _) (Qx (E9 1 rfl rfl U9 rfl) rfl (Qx (oS rfl) rfl (Qm rfl (Qx (oS rfl) rfl (Qm rfl (Am ?_)))))))))))))));have hc:Cell h1 [m] ((AF (.slice (some ⟨g12,0,none⟩) 1 1)).add (0*1)) (.int .u64 ((0:Nat):Int)):=(hO.rd (h:=h1) (ms:=[m]) (.head _)).cell0 (j:=0) (by simp) rfl;refine Bc 14 CS (by kernel_rfl) rfl (Wm rfl (Wm rfl (AR (Gi rfl rfl rfl (by omega) (by omega)) rfl rfl (AR (BM (0) rfl B0 Cp rfl rfl (by omega) (by omega)) rfl rfl (Wl rfl FE (hc) (Wf Hx rfl (Wl rfl U9 (e1 _) (Wm rfl (AR (TI (l:=[b]) 0 rfl U9 rfl rfl rfl (by simp)) rfl rfl (AR (Iv (a:=((b.toNat:Nat):Int)) rfl U5 FE rfl (D0 (by omega))) rfl rfl (Wm rfl (AR (Cc rfl rfl rfl (by omega) (by omega)) rfl rfl (AR (oM rfl) rfl rfl (AR (Rb (a:=b.toNat) (n:=0) rfl rfl rfl (by omega)) rfl rfl (AY (Qx (Vh (a:=0) (b:=b.toNat*2^0%18446744073709551616) rfl rfl rfl (by omega) (by omega)) rfl (Qx (BM (0) rfl B0 Cp rfl rfl (by omega) (by omega)) rfl (CK (f:=fun n:Nat=>Value.int .u64 (n:Int)) 0 0 (fun _=>rfl) hO rfl Cp rfl rfl rfl rfl (by simp) rfl rfl (fun m' hO'=>?_)))))))))))))))))))
  have e:(0 ||| b.toNat*2^0%18446744073709551616)=b.toNat:=by rw[Nat.zero_or,Nat.pow_zero,Nat.mul_one,Nat.mod_eq_of_lt (by omega)]
  rw[e]at hO';refine Ak (Ai (Ab (Ad (Qx (oA rfl) rfl (Qm rfl (Ak ?_))))));exact Al 0 _ (by omega) ⟨1,m',rfl,rfl,rfl,rfl,by omega,hO'⟩ Qs
 ·have hi1:i=1:=by omega
  subst hi1;rw[if_neg (by decide)]at hO;refine Av (Aa (Aa (Af (Ab (Bu hO fun h2 l2 hR=>(As (Qm rfl (Bb (pre:=[]) rfl call229 rfl (Fw [b.toNat] _ h2 hR (by simp)) rfl rfl rfl rfl (fun r h3 ms3 l3 hF=>?_)))))))));obtain⟨l3',rfl,hR3⟩:=hF;have e:F7 [b.toNat]=[b.toNat]:=Fo [] hb;rw[e]at hR3;refine Qm rfl (Am (An ?_));exact Az rfl rfl (⟨AJ l1 (AJ l2 l3'),rfl,hR3⟩)
def ZQ(l:List Nat)(k:Nat):List Value:=[.int .i64 ((l.length:Int)-1-k),.int .u64 ((l.getD (l.length-1-k) 0:Nat):Int)]
theorem Tb(g:Nat)(v:Value)(l:List Nat)(h:Hp)(hG:Seg h [] ⟨g,0,none⟩ [v])(hR:RdL Cq 1 h [] v l)(hn2:l.length<=1000000):Z7 Tryz.prog 270 [.pointer (some ⟨g,0,none⟩)] h l.length (ZQ l):=by
 intro lp X Y h1 ms hl hY h0;show FnT _ _ #[.func (.yield lp) #[] #[],.pointer (some ⟨g,0,none⟩)] _ _ _;have hG:=hG.le hl;have hR:=hR.up hl;obtain⟨n,hn⟩:∃n,l.length=n:=⟨_,rfl⟩
 rw[hn]at hn2 hY;refine Ap func270 ntmps270 rfl rfl (fun w0 hw0=>?_);simp only[AX];refine Ac (Dt (DB (oL rfl B0 ((hG.at0 rfl).any)) rfl rfl rfl (DB (Ar hR.rd.any rfl B0 rfl) rfl rfl rfl (DB (oS rfl) rfl rfl rfl (DB (F3 rfl rfl) rfl rfl rfl (FK (Ab (Ag ?_))))))))
 refine Ay (fun q s hh ms'=>∃(k:Nat),q=n-k/\s=[(0,.func (.yield lp) #[] #[]),(1,.pointer (some ⟨g,0,none⟩)),(3,.int .i64 ((n:Int)-1-k))]/\h1.le hh/\k<=n/\X k hh ms')
  (n-0) [(0,.func (.yield lp) #[] #[]),(1,.pointer (some ⟨g,0,none⟩)),(3,.int .i64 ((l.length:Int)-1))] ⟨0,rfl,by rw[hn,show((n:Int)-1-(0:Nat))=(n:Int)-1 by omega],C9,by omega,h0⟩ Qs ?_
 rintro q s hh ms' ⟨k,rfl,rfl,lh,hk,hX⟩;refine Ac (Ac (Dt (DB (Au rfl rfl) rfl rfl rfl (DB (Lc rfl rfl rfl) rfl rfl rfl (FK (Ab ?_))))));refine Aq rfl (fun hlt=>?_) (fun hlt=>?_)
 ·have hkn:k<n:=by omega
  have hG2:=hG.le lh;have hR2:=hR.up lh;have hi:n-1-k<l.length:=by omega
  have hc:∀ms,Cell hh ms ((AF v).add ((n-1-k)*1)) (.int .u64 ((l.getD (n-1-k) 0:Nat):Int)):=fun ms=>by rw[show l.getD (n-1-k) 0=l[n-1-k] by simp[List.getD,hi]];exact(hR2.any (ms:=ms)).cell0 hi rfl
  refine Ah (Ab (Ac (Ag (Ac (Dt (DB (Au rfl rfl) rfl rfl rfl (DB (Au rfl rfl) rfl rfl rfl (DB (oL rfl B0 ((hG2.at0 rfl).any)) rfl rfl rfl (DB (Au rfl rfl) rfl rfl rfl (DB (BF (n-1-k) hR2.rd.any rfl B0 Cp rfl rfl) rfl rfl rfl (DB (oL rfl FE (hc _)) rfl rfl rfl ?_)))))))))));have hyk:=hY k hh ms' hkn lh hX;unfold ZQ at hyk;rw[hn]at hyk;refine OK rfl rfl rfl (hyk) rfl rfl rfl (fun r h2 ms2 l2 hr=>?_);rcases hr with ⟨rfl,hX2⟩|⟨rfl,hX2⟩
  ·refine DB (G6 rfl rfl) rfl rfl rfl (FK (Ab (AP rfl (Ah (Ai (Ab (Dt (DB (Au rfl rfl) rfl rfl rfl (DB (oS rfl) rfl rfl rfl (DB (F3 rfl rfl) rfl rfl rfl (FK ?_)))))))))));refine Al (n-(k+1)) [(0,.func (.yield lp) #[] #[]),(1,.pointer (some ⟨g,0,none⟩)),(3,.int .i64 ((n:Int)-1-k-1))] (by omega) ⟨k+1,rfl,by rw[show((n:Int)-1-k-1)=(n:Int)-1-(k+1:Nat) by omega],AJ lh l2,by omega,hX2⟩ Qs
  ·refine DB (G6 rfl rfl) rfl rfl rfl (FK (Ab (BE rfl (An (Aj (Ae (Ae (Aj ?_))))))));exact FB rfl (.inr ⟨k,by omega,hX2⟩)
 ·obtain rfl:k=n:=by omega
  refine Av (Aa (Aa (Af ?_)));exact B7 rfl (.inl (by rw[hn];exact hX))
theorem Og(v:Value)(n:Nat)(cs:List Value)(h:Hp)(hR:Rd h [] v 1 n cs):FnT Tryz.prog 230 #[v] h [] (fun r h' ms'=>h=h'/\∃g,r=.func (.func 270) #[] #[.pointer (some ⟨g,0,none⟩)]/\ms'=[Bn g 225 [v]]):=by refine Ap func230 ntmps230 rfl rfl (fun w0 hw0=>?_);simp only[AX];refine As (AV [_] rfl rfl (Rd.cells ‹_›) rfl rfl rfl (fun g1=>Qm rfl (BK (Qx (BW rfl rfl rfl) rfl (Qm rfl (Am (An ?_)))))));exact Az rfl rfl (⟨rfl,_,rfl,rfl⟩)
def H9(n:Nat):List UInt8:=if n=0 then [] else [UInt8.ofNat n]
def GI(n:Nat):List Nat:=if n=0 then [] else [n]
theorem JU(n:Nat):(GI n).length<=1:=by unfold GI;split<;>simp
def b4(n k:Nat):List UInt8:=if k=0 then [] else [0,0,0,UInt8.ofNat n]
theorem XW:∀a:UInt8,∀c∈Y8 a,c.oneCell'=true:=fun a c hc=>by unfold Y8 at hc;rw[List.mem_singleton]at hc;subst hc;rfl
theorem Nt(l:List Nat)(neg:Bool)(v:Value)(n:Nat)(hn:n<256)(hs:F7 l=GI n)(h:Hp)(R:RdL Cq 1 h [] v l)(hl:l.length<=1000) :
  FnT Tryz.prog 186 #[v,.bool neg] h [] (fun r h' ms'=>h.le h'/\ms'=[]/\r=.agg #[.bool (neg&&decide (H9 n≠[])),sv (H9 n)]):=by
 have ov:=R.rd.one;refine LO func186 ntmps186 rfl rfl (fun w0 hw0=>?_);simp only[AX];refine As (Cz [.bool false,.string ByteArray.empty] rfl Cv rfl rfl (fun g4=>BK (Qm rfl (Qc call229 rfl (Fw l v h R (by omega)) (fun r h1 ms1 l1 hF=>?_)))));obtain⟨l1',rfl,hR1⟩:=hF;rw[hs]at hR1;have or_:=hR1.rd.one;obtain⟨W,hW⟩:∃W,GI n=W:=⟨_,rfl⟩
 have hWl:W.length<=1:=by rw[<-hW];exact JU n
 rw[hW]at hR1;refine Qm rfl (BK (Qm rfl (Qx (Ar hR1.rd.any rfl B0 rfl) rfl (Qx (oM rfl) rfl (UJ (n:=0) (cp:=4*W.length) rfl Ve el5 rfl rfl rfl rfl (by omega) (by omega) (by omega) (by omega) rfl rfl rfl (fun g14=>Cz [.slice none 0 0] rfl ZU rfl rfl (fun g5=>AS 0 0 rfl ZU rfl rfl (by rfl) rfl rfl (by decide) rfl rfl (Am (Ac (As (Qm rfl (Qc call230 rfl (Og r W.length _ h1 hR1.rd) (fun vf h2 ms2 l2 hF=>?_)))))))))))));obtain⟨rfl,gb,rfl,rfl⟩:=hF;refine Am (Ag (AC fun h2 l2 hGb=>?_));have hR2:=hR1.up l2;have hI:=Tb gb r W h2 hGb hR2 (by omega);refine HR (fun k hh ms=>∃bv m,ms=[Bn g5 23 [bv],m,Bn g4 172 [.bool false,.string ByteArray.empty]]/\OwnL Y8 1 5 m bv (b4 n k)) (fun k hh ms=>False) (fun k s1 hh ms=>∃bv m,s1=[(1,.bool neg),(4,.pointer (some ⟨g4,0,none⟩)),(5,.pointer (some ⟨g5,0,none⟩)),(7,.int .u64 (n:Int))]/\ms=[Bn g5 23 [bv],m,Bn g4 172 [.bool false,.string ByteArray.empty]]/\OwnL Y8 1 5 m bv (b4 n k)) rfl call270 hI (fun k=>rfl) rfl ?_ ?_ ?_ ?_ ?_
 ·exact⟨_,_,rfl,⟨⟨by simp[b4],.inr ⟨g14,4*W.length,replicate (4*W.length) (.int .u8 0),rfl,by simp[b4],by simp[b4],by simp[b4],by show 4*W.length<=_;omega⟩⟩,Rj⟩⟩
 ·rintro w1 k hh ms1 hk lh ⟨bv,m,rfl,hO⟩;have hk0:k=0:=by omega
  subst hk0;have hn0:n≠0:=by rintro rfl;rw[<-hW]at hk;simp[GI]at hk
  have hWn:W=[n]:=by rw[<-hW];simp[GI,hn0]
  have he:ZQ W 0=[.int .i64 0,.int .u64 (n:Int)]:=by rw[hWn];rfl
  rw[he];refine Es (by kernel_rfl) (Qm rfl (Ak ?_));exact AD _ ⟨bv,m,rfl,rfl,hO⟩ Qs
 ·rintro w1 k s1 hh ms1 hk lh ⟨bv,m,rfl,rfl,hO⟩;have hk0:k=0:=by omega
  subst hk0;have c24:IntKind.u8.wrap ((n/2^24:Nat):Int)=(((0:UInt8).toNat:Nat):Int):=by rw[Nat.div_eq_of_lt (by omega)];rfl
  have c16:IntKind.u8.wrap ((n/2^16:Nat):Int)=(((0:UInt8).toNat:Nat):Int):=by rw[Nat.div_eq_of_lt (by omega)];rfl
  have c8:IntKind.u8.wrap ((n/2^8:Nat):Int)=(((0:UInt8).toNat:Nat):Int):=by rw[Nat.div_eq_of_lt (by omega)];rfl
  have c0:IntKind.u8.wrap (n:Int)=(((UInt8.ofNat n).toNat:Nat):Int):=by simp[IntKind.wrap,IntKind.bits,IntKind.signed]
  have ovb:=hO.o1;refine O6 (Es (by kernel_rfl) (Ql rfl Ve (Cell.blk0 0 rfl rfl) (Qm rfl (Qx (DN (n:=24) rfl rfl rfl (by omega)) rfl (Qx (Ip c24 rfl FE U5 rfl) rfl (Qm rfl (Qx (DN (n:=16) rfl rfl rfl (by omega)) rfl (Qx (Ip c16 rfl FE U5 rfl) rfl (Qm rfl (Qx (DN (n:=8) rfl rfl rfl (by omega)) rfl (Qx (Ip c8 rfl FE U5 rfl) rfl (Qm rfl (Qx (Ip c0 rfl FE U5 rfl) rfl (Ax [(0,_),(1,_),(2,_),(3,_)] [.int .u8 0,.int .u8 0,.int .u8 0,.int .u8 0] [_,_,_,_] rfl Ve el5 rfl (by omega) (by kernel_rfl) Qt rfl rfl rfl rfl (fun g31=>Bd 2 hO (⟨Rd.blk (n:=4) (c:=4) Mh rfl (Nat.le_refl _) (by omega),Rj⟩:RdL Y8 1 _ _ _ [(0:UInt8),0,0,UInt8.ofNat n]) rfl Ve el5 rfl (by omega) rfl rfl rfl (fun a _=>XW a) (by simp[b4]) (by simp[b4]) rfl rfl rfl (fun v32 m' hO'=>?_))))))))))))))));have ov32:=hO'.o1;refine AS 1 0 rfl ZU rfl rfl (by assumption) rfl rfl (by(simp;done)) rfl rfl ?_;refine Ak (Ai (AN ?_));exact AD [] ⟨v32,m',rfl,hO'⟩ trivial
 ·rintro D hh ms1 lh ⟨bv,m,rfl,hO⟩;have hRb:=(hO.rd (h:=hh) (ms:=[Bn g5 23 [bv],m,Bn g4 172 [.bool false,.string ByteArray.empty]]++[Mk D]) (.tail _ (.head _))).rd
  have ht:Lib.trimLeftB (b4 n W.length) 0=H9 n:=by
   rw[<-hW];unfold GI H9 b4;by_cases h0:n=0
   ·subst h0;rfl
   ·rw[if_neg h0,if_neg h0,if_neg (by simp)]
    have:UInt8.ofNat n≠0:=fun e=>h0 (by
     have:=congrArg UInt8.toNat e
     simp at this;omega)
    simp[Lib.trimLeftB,this]
  have osv:(sv (H9 n)).oneCell'=true:=rfl;refine Ai (Ab (As (Ql rfl Ve (Cell.blk0 0 rfl rfl) (Qx (Vp hRb rfl rfl Ve U5 U9 rfl) rfl ?_))));refine Qx (AL rfl call231 rfl (FnV.ofCalls (v:=sv (H9 n)) (fun w=>(Tryz.strings_TrimLeft_one ⟨(b4 n W.length).toArray⟩ 0 (by decide) w).mono fun e w' h=>by rw[<-ht];exact h))) rfl ?_;refine Qm rfl (BK (Qm rfl (Qm rfl ?_)));refine LZ (t:=37) rfl (fun hneg=>?_) (fun hneg=>?_)
  ·refine Qg (Au rfl rfl) rfl (Qg (S7 (l':=[]) rfl rfl rfl) rfl (Qm rfl (Qm rfl (Qx (A3 Y9 [.bool false,.string ByteArray.empty] [(0,_),(1,_)] [_,_] rfl Cv rfl rfl Qt rfl) rfl ?_))));refine Sa 2 [_,_] Cv rfl (by simp[osv]) ?_;refine Am (An ?_);refine AN (AN ?_);refine J5 1 (.inr rfl) rfl ?_;exact By (vs:=[_,_]) 0 rfl rfl KD rfl Cv rfl rfl (⟨AJ l1' (AJ l2 lh),rfl,by rw[hneg];rfl⟩)
  ·refine Qk rfl (Qk rfl (Qm rfl (Qm rfl (Qx (A3 Y9 [.bool false,.string ByteArray.empty] [(0,_),(1,_)] [_,_] rfl Cv rfl rfl Qt rfl) rfl ?_))));refine Sa 2 [_,_] Cv rfl (by simp[osv]) ?_;refine Am (An ?_);refine AN (AN ?_);refine J5 1 (.inr rfl) rfl ?_;exact By (vs:=[_,_]) 0 rfl rfl KD rfl Cv rfl rfl (⟨AJ l1' (AJ l2 lh),rfl,by rw[hneg];rfl⟩)
 ·rintro D k hh ms1 hk lh hF;exact hF.elim
def WD(n:Int):Value:=.agg #[.bool (decide (n<0)),sv (H9 n.natAbs)]
theorem bys_ne{n:Nat}:H9 n≠[]<->n≠0:=by unfold H9;split<;>simp[*]
theorem LU(n:Nat):F7 [n,0]=GI n:=by
 rw[show [n,0]=[n]++[0] from rfl,K5];unfold GI;split
 ·rename_i h;subst h;rfl
 ·rename_i h;exact Fo [] h
theorem Yi(n:Int)(hn:-256<n/\n<256)(h:Hp):FnT Tryz.prog 126 #[.int .i64 n] h [] (fun r h' ms'=>h.le h'/\ms'=[]/\r=WD n):=by
 obtain⟨m,hm⟩:∃m,n.natAbs=m:=⟨_,rfl⟩
 have hm2:m<256:=by omega
 refine Ap func126 ntmps126 rfl rfl (fun w0 hw0=>?_);simp only[AX];refine As (Cz [.bool false,.string ByteArray.empty] rfl Cv rfl rfl (fun g2=>BK (Qm rfl (Qx (Ck rfl U3 FE rfl) rfl (Qm rfl (Am ?_))))));refine A9 (fun sl h' ms'=>sl=[(0,.int .i64 n),(2,.pointer (some ⟨g2,0,none⟩)),(3,.int .u64 (m:Int))]/\h=h'/\ms'=[Bn g2 172 [.bool false,.string ByteArray.empty]]) ?_ (fun s h ms hI=>?_)
 ·have e9:IntKind.u64.wrap (-(IntKind.u64.wrap n))=(m:Int)\/¬n<0:=by
   by_cases h0:n<0
   ·refine .inl ?_;simp only[IntKind.wrap,IntKind.bits,IntKind.signed];simp;omega
   ·exact .inr h0
  refine As (Qm rfl (Qm rfl (Am ?_)));refine Aq rfl (fun hlt=>?_) (fun hlt=>?_)
  ·have e9:IntKind.u64.wrap (-(IntKind.u64.wrap n))=(m:Int):=e9.resolve_right (fun h=>h hlt);refine Ad (Qm rfl (Qx (Xs e9 rfl rfl) rfl (Qm rfl (Ak ?_))));exact AD _ ⟨rfl,rfl,rfl⟩ Qs
  ·have e3:IntKind.u64.wrap n=(m:Int):=by rw[D0 (by omega)];omega
   refine Ah ?_;exact AD _ ⟨rfl,rfl,rfl⟩ (by rw[<-e3];exact Qs)
 ·obtain⟨rfl,rfl,rfl⟩:=hI
  have ea:((m &&& 4294967295:Nat):Int)=(m:Int):=by have:=Nat.and_two_pow_sub_one_eq_mod m 32;rw[show(2^32-1:Nat)=4294967295 from rfl,Nat.mod_eq_of_lt (by omega)]at this;rw[this]
  have es:((m/2^32:Nat):Int)=((0:Nat):Int):=by rw[Nat.div_eq_of_lt (by omega)]
  refine As (Qm rfl (Qx (JS ea rfl rfl rfl (by omega) (by omega)) rfl (Qm rfl (Qx (JW es rfl rfl rfl (by omega)) rfl (Ax [(0,_),(1,_)] [.int .u64 0,.int .u64 0] [_,_] rfl B0 Cp rfl (by omega) (by kernel_rfl) Qt rfl rfl rfl rfl (fun g14=>Qm rfl (Qm rfl (DP fun h3 l3 hS=>?_))))))));have hR:RdL Cq 1 h3 [] (.slice (some ⟨g14,0,none⟩) 2 2) [m,0]:=⟨⟨⟨_,_,rfl,Nat.le_refl _,by decide,rfl,fun _=>⟨_,rfl,hS⟩⟩⟩,DK⟩
  refine Qc call186 rfl (Nt [m,0] (decide (n<0)) _ m hm2 (LU m) h3 hR (by simp)) (fun r h4 ms4 l4 hF=>?_);obtain⟨l4',rfl,rfl⟩:=hF;have osv:(sv (H9 m)).oneCell'=true:=rfl
  have eW:Value.agg #[.bool (decide (n<0)&&decide (H9 m≠[])),sv (H9 m)]=WD n:=by
   unfold WD
   have:(decide (n<0)&&decide (H9 m≠[]))=decide (n<0):=by
    by_cases h0:n<0
    ·have:H9 m≠[]:=bys_ne.2 (by omega);simp[h0,this]
    ·simp[h0]
   rw[this,hm]
  refine Sa 0 [_,_] Cv rfl (by simp[osv]) ?_;refine Am (An ?_);exact By (vs:=[_,_]) 0 rfl rfl KD rfl Cv rfl rfl (⟨AJ l3 l4',rfl,eW⟩)
theorem VT(n:Int)(hn:-256<n/\n<256)(h:Hp)(ms:List Hp):FnV Tryz.prog 126 #[.int .i64 n] h ms (WD n):=EO ((Yi n hn h).mono fun _ _ _ h=>h.2.2) ms
theorem Q6(n:Int)(hn:-256<n/\n<256)(h:Hp):FnT Tryz.prog 187 #[WD n] h [] (fun r h' ms'=>h.le h'/\ms'=[]/\RdL Cq 1 h' [] r (GI n.natAbs)):=by
 unfold WD;by_cases h0:n.natAbs=0
 ·have e1:H9 n.natAbs=[]:=by unfold H9;rw[if_pos h0]
  have e2:GI n.natAbs=[]:=by unfold GI;rw[if_pos h0]
  rw[e1,e2];exact Xw _ h
 ·have e1:H9 n.natAbs=[UInt8.ofNat n.natAbs]:=by unfold H9;rw[if_neg h0]
  have e3:(UInt8.ofNat n.natAbs).toNat=n.natAbs:=by simp;omega
  have e2:GI n.natAbs=[(UInt8.ofNat n.natAbs).toNat]:=by unfold GI;rw[if_neg h0,e3]
  rw[e1,e2];exact Yw _ _ (by omega) h
theorem F8{m:Nat}(h:m≠0):GI m=[m]:=if_neg h
def TE(m k:Nat):Int:=if m<k then -1 else if k<m then 1 else 0
theorem Ys(m k:Nat)(hk:k≠0)(va vb:Value)(h:Hp)(hA:RdL Cq 1 h [] va (GI m))(hB:RdL Cq 1 h [] vb [k]) :
  FnT Tryz.prog 232 #[va,vb] h [] (fun r _ _=>r=.int .i64 (TE m k)):=by
 by_cases h0:m=0
 ·have e:GI m=[]:=if_pos h0;rw[e]at hA;have rA:Rd h [] va 1 0 (([]:List Nat).flatMap Cq):=hA.rd;have rB:Rd h [] vb 1 1 ([k].flatMap Cq):=hB.rd;refine Ap func232 ntmps232 rfl rfl (fun w0 hw0=>?_);simp only[AX];refine As (Qm rfl (Am (Ac (Ag (As (Qm rfl (Qx (Ar rA.any rfl B0 rfl) rfl (Qm rfl (Qx (Ar rB.any rfl B0 rfl) rfl (Qm rfl (Qm rfl (Am ?_))))))))))));refine Aq rfl (fun h1=>?_) (fun h1=>?_)
  ·refine Ac (Ad (Qm rfl (Am (An (Aj (Ae ?_))))));exact Az rfl rfl (by unfold TE;rw[if_pos (by omega)])
  ·exact absurd (by decide) h1
 ·rw[F8 h0]at hA;have rA:Rd h [] va 1 1 ([m].flatMap Cq):=hA.rd;have rB:Rd h [] vb 1 1 ([k].flatMap Cq):=hB.rd;have cA:∀ms,Cell h ms ((AF va).add (0*1)) (.int .u64 (m:Int)):=fun ms=>(hA.any (ms:=ms)).cell0 (j:=0) (by simp) rfl;have cB:∀ms,Cell h ms ((AF vb).add (0*1)) (.int .u64 (k:Int)):=fun ms=>(hB.any (ms:=ms)).cell0 (j:=0) (by simp) rfl;refine Ap func232 ntmps232 rfl rfl (fun w0 hw0=>?_);simp only[AX];refine As (Qm rfl (Am (Ac (Ag (As (Qm rfl (Qx (Ar rA.any rfl B0 rfl) rfl (Qm rfl (Qx (Ar rB.any rfl B0 rfl) rfl (Qm rfl (Qm rfl (Am ?_))))))))))));refine Aq rfl (fun h1=>?_) (fun h1=>?_)
  ·exact absurd h1 (by decide)
  ·refine Ac (Ad (Qm rfl (Qx (Ar rA.any rfl B0 rfl) rfl (Qm rfl (Qx (Ar rB.any rfl B0 rfl) rfl (Qm rfl (Qm rfl (Am ?_))))))));refine Aq rfl (fun h2=>?_) (fun h2=>?_)
   ·exact absurd h2 (by decide)
   ·refine Ah (Ai (Ab (Ac (As (Qm rfl (Qx (Ar rA.any rfl B0 rfl) rfl (Qx (oS rfl) rfl (Qm rfl (Am (Ag ?_))))))))));refine Ay (fun q sl h' ms'=>∃i:Nat,i=q/\sl=[(0,va),(1,vb),(5,.int .i64 ((i:Int)-1))]/\h=h'/\ms'=[]/\i<=1/\(i=0->m=k)) 1 _ ⟨1,rfl,rfl,rfl,rfl,by omega,by omega⟩ Qs ?_;rintro q sl h' ms' ⟨i,rfl,rfl,rfl,rfl,hi,hk0⟩;refine Ac (As (Qm rfl (Qm rfl (Am ?_))));refine Aq rfl (fun hlt=>?_) (fun hlt=>?_)
    ·have hi1:i=1:=by omega
     subst hi1;refine Ah (Ab (Ac (Ag (Ag (Ac (Bc 8 CS (by kernel_rfl) rfl (Wm rfl (Wm rfl (AR (AE _ rA.any rfl B0 Cp rfl rfl rfl (by omega)) rfl rfl (Wl rfl FE (cA _) (Wm rfl (Wm rfl (AR (AE _ rB.any rfl B0 Cp rfl rfl rfl (by omega)) rfl rfl (Wl rfl FE (cB _) (AY (Qm rfl (Qm rfl (Am ?_))))))))))))))))));refine Aq rfl (fun h3=>?_) (fun h3=>?_)
     ·refine Ac (Ad (Qm rfl (Am (An (Aj (Aj (Ae (Ae (Aj (Ae ?_))))))))));exact Az rfl rfl (by unfold TE;rw[if_pos (by omega)])
     ·refine Ac (Bc 8 CS (by kernel_rfl) rfl (Wm rfl (Wm rfl (AR (AE _ rA.any rfl B0 Cp rfl rfl rfl (by omega)) rfl rfl (Wl rfl FE (cA _) (Wm rfl (Wm rfl (AR (AE _ rB.any rfl B0 Cp rfl rfl rfl (by omega)) rfl rfl (Wl rfl FE (cB _) (AY (Qm rfl (Qm rfl (Am ?_)))))))))))));refine Aq rfl (fun h4=>?_) (fun h4=>?_)
      ·refine Ac (Ad (Qm rfl (Am (An (Aj (Aj (Ae (Ae (Aj (Ae ?_))))))))));exact Az rfl rfl (by unfold TE;rw[if_neg (by omega),if_pos (by omega)])
      ·refine Ah (Ai (Ai (Ab (Ad (Qm rfl (Qx (oS rfl) rfl (Qm rfl (Ak ?_))))))));exact Al 0 _ (by omega) ⟨0,rfl,rfl,rfl,rfl,by omega,fun _=>by omega⟩ Qs
    ·have hi1:i=0:=by omega
     subst hi1;have:=hk0 rfl;refine Av (Aa (Aa (Af (Ab (As (Qm rfl (Am (An ?_))))))));exact Az rfl rfl (by unfold TE;rw[if_neg (by omega),if_neg (by omega)])
theorem Ja(n:Nat):F7 [n]=GI n:=by
 unfold GI;split
 ·rename_i h;subst h;rfl
 ·rename_i h;exact Fo [] h
theorem U7(m k:Nat)(hm:m<256)(hk:k≠0)(hk2:k<256)(va:Value)(h:Hp)(hA:RdL Cq 1 h [] va (GI m)) :
  FnT Tryz.prog 233 #[va,.int .u64 (k:Int)] h [] (fun r h' ms'=>h.le h'/\ms'=[]/\∃q,r=.tuple #[q,.int .u64 ((m%k:Nat):Int)]/\RdL Cq 1 h' [] q (GI (m/k))):=by
 by_cases h0:m=0
 ·subst h0;have rA:Rd h [] va 1 0 (([]:List Nat).flatMap Cq):=hA.rd;refine Ap func233 ntmps233 rfl rfl (fun w0 hw0=>?_);simp only[AX];refine As (Qm rfl (Qm rfl (BK (Qm rfl (Qx (Ar rA.any rfl B0 rfl) rfl (CD (n:=0) rfl B0 Cp rfl rfl rfl (by rfl) (by rfl) (by omega) (by omega) rfl rfl rfl (fun g11=>Qm rfl (BK (Qm rfl (Am (Ac (As (Qm rfl (Qx (Ar rA.any rfl B0 rfl) rfl (Qx (oS rfl) rfl (Qm rfl (Am (Ag (Ay (fun q sl h' ms'=>q=0/\sl=[(6,.slice (some ⟨g11,0,none⟩) 0 0),(7,.int .u64 0),(8,.int .i64 (-1))]/\h=h'/\ms'=[Bn g11 222 []]) 0 _ ⟨rfl,rfl,rfl,rfl⟩ Qs ?_)))))))))))))))))));rintro q sl h' ms' ⟨rfl,rfl,rfl,rfl⟩;refine Ac (As (Qm rfl (Qm rfl (Am ?_))));refine Aq rfl (fun hlt=>?_) (fun hlt=>?_)
  ·exact absurd hlt (by decide)
  ·refine Av (Aa (Aa (Af (Ab ?_))));have hO:OwnL Cq 1 222 (Bn g11 222 []) (.slice (some ⟨g11,0,none⟩) 0 0) []:=OwnL.blk (l:=([]:List Nat)) 0 DK rfl (by omega);refine Bu hO fun h2 l2 hR=>(As (Qm rfl (Qc call229 rfl (Fw [] _ h2 hR (by simp)) (fun r h3 ms3 l3 hF=>?_))))
   obtain⟨l3',rfl,hR3⟩:=hF;refine Qm rfl (Qm rfl (Qm rfl (Am (An ?_))));exact Bo rfl rfl rfl (⟨AJ l2 l3',rfl,_,by rw[Nat.zero_mod];rfl,by rw[Nat.zero_div];exact hR3⟩)
 ·rw[F8 h0]at hA;have rA:Rd h [] va 1 1 ([m].flatMap Cq):=hA.rd;have cA:∀ms,Cell h ms ((AF va).add (0*1)) (.int .u64 (m:Int)):=fun ms=>(hA.any (ms:=ms)).cell0 (j:=0) (by simp) rfl;refine Ap func233 ntmps233 rfl rfl (fun w0 hw0=>?_);simp only[AX];refine As (Qm rfl (Qm rfl (BK (Qm rfl (Qx (Ar rA.any rfl B0 rfl) rfl (CD (n:=1) rfl B0 Cp rfl rfl rfl (by rfl) (by rfl) (by omega) (by omega) rfl rfl rfl (fun g11=>Qm rfl (BK (Qm rfl (Am (Ac (As (Qm rfl (Qx (Ar rA.any rfl B0 rfl) rfl (Qx (oS rfl) rfl (Qm rfl (Am (Ag ?_))))))))))))))))));refine Ay (fun q sl h' ms'=>∃(i:Nat) (mo:Hp),i=q/\sl=[(0,va),(1,.int .u64 (k:Int)),(6,.slice (some ⟨g11,0,none⟩) 1 1),(7,.int .u64 ((if i=1 then 0 else m%k:Nat):Int)),(8,.int .i64 ((i:Int)-1))]/\h=h'/\ms'=[mo]/\i<=1/\OwnL Cq 1 222 mo (.slice (some ⟨g11,0,none⟩) 1 1) [if i=1 then 0 else m/k]) 1 _ ⟨1,_,rfl,rfl,rfl,rfl,by omega,OwnL.blk (l:=[0]) 1 DK rfl (by omega)⟩ Qs ?_;rintro q sl h' ms' ⟨i,mo,rfl,rfl,rfl,rfl,hi,hO⟩;refine Ac (As (Qm rfl (Qm rfl (Am ?_))));refine Aq rfl (fun hlt=>?_) (fun hlt=>?_)
  ·have hi1:i=1:=by omega
   subst hi1;rw[if_pos rfl]at hO;simp only[if_true];have e20:((0*2^32%18446744073709551616:Nat):Int)=((0:Nat):Int):=rfl;have e25:((0 ||| m:Nat):Int)=(m:Int):=by rw[Nat.zero_or]
   refine Ah (Ab (Ac (Ag (As (Qm rfl (Qx (RV e20 rfl rfl rfl (by omega)) rfl (Qm rfl (Qm rfl (Qx (AE _ rA.any rfl B0 Cp rfl rfl rfl (by omega)) rfl (Ql rfl FE (cA _) (Qx (UN e25 rfl rfl rfl (by omega) (by omega)) rfl (Qm rfl (Am (BG (n:=11) (bs:=[true,true,true,true,true,true,true,true,true,false,false]) [true,true,true,true,true,true,true,true,true] CS (by kernel_rfl) (by kernel_rfl) rfl rfl (Qq rfl (Qq rfl (Qq rfl (Qq rfl (Qp rfl (Xg rfl rfl rfl (by omega) (by omega)) (Qq rfl (Qq rfl (Qp rfl (X6 rfl rfl rfl (by omega)) (Qp rfl (BM _ rfl B0 Cp rfl rfl rfl (by omega)) ?_)))))))))))))))))))))));unfold Ft;simp only[cons_append,nil_append];refine Qo 9 rfl (CK (f:=fun n:Nat=>Value.int .u64 (n:Int)) 0 0 (fun _=>rfl) hO rfl Cp rfl rfl rfl rfl (by simp) rfl rfl (fun m' hO'=>Qw (Qo 10 rfl (Qm rfl (Qw (Qe (Ai (Ab (Ad (Qm rfl (Qx (oS rfl) rfl (Qm rfl (Ak ?_)))))))))))));exact Al 0 _ (by omega) ⟨0,m',rfl,rfl,rfl,rfl,by omega,hO'⟩ Qs
  ·have hi1:i=0:=by omega
   subst hi1;rw[if_neg (by decide)]at hO;refine Av (Aa (Aa (Af (Ab (Bu hO fun h2 l2 hR=>(As (Qm rfl (Qc call229 rfl (Fw [m/k] _ h2 hR (by simp)) (fun r h3 ms3 l3 hF=>?_)))))))));obtain⟨l3',rfl,hR3⟩:=hF;rw[Ja]at hR3;refine Qm rfl (Qm rfl (Qm rfl (Am (An ?_))));exact Bo rfl rfl rfl (⟨AJ l2 l3',rfl,_,rfl,hR3⟩)
theorem Ob{n:Nat}(h:n<4294967296):((n &&& 4294967295:Nat):Int)=(n:Int):=by have:=Nat.and_two_pow_sub_one_eq_mod n 32;rw[show(2^32-1:Nat)=4294967295 from rfl,Nat.mod_eq_of_lt (by omega)]at this;rw[this]
theorem XR(a b:Nat)(hb:b<a)(ha:a<256)(va vb:Value)(h:Hp)(hA:RdL Cq 1 h [] va [a])(hB:RdL Cq 1 h [] vb [b]) :
  FnT Tryz.prog 190 #[va,vb] h [] (fun r h' ms'=>h.le h'/\ms'=[]/\RdL Cq 1 h' [] r (GI (a-b))):=by
 have rA:Rd h [] va 1 1 ([a].flatMap Cq):=hA.rd;have rB:Rd h [] vb 1 1 ([b].flatMap Cq):=hB.rd;have cA:∀ms,Cell h ms ((AF va).add (0*1)) (.int .u64 (a:Int)):=fun ms=>(hA.any (ms:=ms)).cell0 (j:=0) (by simp) rfl;have cB:∀ms,Cell h ms ((AF vb).add (0*1)) (.int .u64 (b:Int)):=fun ms=>(hB.any (ms:=ms)).cell0 (j:=0) (by simp) rfl;refine Ap func190 ntmps190 rfl rfl (fun w0 hw0=>?_);simp only[AX];refine As (Qm rfl (BK (Qm rfl (Qx (Ar rA.any rfl B0 rfl) rfl (CD (n:=1) rfl B0 Cp rfl rfl rfl (by rfl) (by rfl) (by omega) (by omega) rfl rfl rfl (fun g11=>Qm rfl (BK (Qm rfl (Am (Ac (As (Qm rfl (Qx (Ar rA.any rfl B0 rfl) rfl (Qm rfl (Am (Ag ?_))))))))))))))));refine Ay (fun q sl h' ms'=>∃(i:Nat) (mo:Hp),1-i=q/\sl=[(0,va),(1,vb),(5,.slice (some ⟨g11,0,none⟩) 1 1),(6,.int .u64 0),(13,.int .i64 ((1:Nat):Int)),(14,.int .i64 i)]/\h=h'/\ms'=[mo]/\i<=1/\OwnL Cq 1 222 mo (.slice (some ⟨g11,0,none⟩) 1 1) [if i=0 then 0 else a-b]) 1 _ ⟨0,_,rfl,rfl,rfl,rfl,by omega,OwnL.blk (l:=[0]) 1 DK rfl (by omega)⟩ Qs ?_;rintro q sl h' ms' ⟨i,mo,rfl,rfl,rfl,rfl,hi,hO⟩;refine As (Qm rfl (Am (Ac ?_)));refine Aq rfl (fun hlt=>?_) (fun hlt=>?_)
 ·have hi0:i=0:=by omega
  subst hi0;rw[if_pos rfl]at hO;have e22:IntKind.u64.wrap ((a:Int)-((0:Nat):Int))=(a:Int):=by rw[D0 (by omega)];omega
  refine Ah (Ab (Ac (Ag (As (Qm rfl (Qm rfl (BK (Qm rfl (Qm rfl (Qx (AE _ rA.any rfl B0 Cp rfl rfl rfl (by omega)) rfl (Ql rfl FE (cA _) (Qm rfl (Qx (Rp (b:=0) e22 rfl rfl rfl) rfl (Qm rfl (Am (Ac (As (Qm rfl (Qm rfl (Qx (Ar rB.any rfl B0 rfl) rfl (Qm rfl (Am ?_))))))))))))))))))))));refine Aq rfl (fun h2=>?_) (fun h2=>?_)
  ·have e32:IntKind.u64.wrap ((a:Int)-(b:Int))=((a-b:Nat):Int):=by rw[D0 (by omega)];omega
   have em:=Ob (n:=a-b) (by omega);have e38:(((a-b)/2^63:Nat):Int)=((0:Nat):Int):=by rw[Nat.div_eq_of_lt (by omega)]
   refine Ad (Qm rfl (Qm rfl (Qm rfl (Qx (AE _ rB.any rfl B0 Cp rfl rfl rfl (by omega)) rfl (Ql rfl FE (cB _) (Qx (Rp e32 rfl rfl rfl) rfl (Qm rfl (Gm (Qm rfl (Qm rfl (Qm rfl (Qx (JS em rfl rfl rfl (by omega) (by omega)) rfl (Qm rfl (Qx (JW (n:=63) e38 rfl rfl rfl (by omega)) rfl (Qx (BM _ rfl B0 Cp rfl rfl rfl (by omega)) rfl (CK (f:=fun n:Nat=>Value.int .u64 (n:Int)) 0 0 (fun _=>rfl) hO rfl Cp rfl rfl rfl rfl (by simp) rfl rfl (fun m' hO'=>Qm rfl (Ak (Ai (Ab (Ad (Qx (oA rfl) rfl (Qm rfl (Ak ?_))))))))))))))))))))))));exact Al 0 _ (by omega) ⟨1,m',rfl,rfl,rfl,rfl,by omega,hO'⟩ Qs
  ·exact absurd (by decide) h2
 ·have hi1:i=1:=by omega
  subst hi1;rw[if_neg (by decide)]at hO;refine Av (Aa (Aa (Af (Ab (Bu hO fun h2 l2 hR=>(As (Qm rfl (Qc call229 rfl (Fw [a-b] _ h2 hR (by simp)) (fun r h3 ms3 l3 hF=>?_)))))))));obtain⟨l3',rfl,hR3⟩:=hF;rw[Ja]at hR3;refine Qm rfl (Am (An ?_));exact Az rfl rfl (⟨AJ l2 l3',rfl,hR3⟩)
theorem XL(m:Nat)(hm:m<256)(va vb:Value)(h:Hp)(hA:RdL Cq 1 h [] va (GI m))(hB:RdL Cq 1 h [] vb [1]) :
  FnT Tryz.prog 189 #[va,vb] h [] (fun r h' ms'=>h.le h'/\ms'=[]/\RdL Cq 1 h' [] r (GI (m+1))):=by
 refine Ap func189 ntmps189 rfl rfl (fun w0 hw0=>?_);simp only[AX];refine As (Qm rfl (Am ?_));refine A9 (fun sl h' ms'=>∃(u w:Value) (x:Nat) (W:List Nat),sl=[(0,u),(1,w)]/\h=h'/\ms'=[]/\RdL Cq 1 h [] u [x]/\RdL Cq 1 h [] w W/\x<257/\((W=[]/\x=m+1)\/∃y,W=[y]/\y<256/\x+y=m+1)) ?_ (fun s h ms hI=>?_)
 ·by_cases h0:m=0
  ·have e:GI m=[]:=if_pos h0;rw[e]at hA;have rA:Rd h [] va 1 0 (([]:List Nat).flatMap Cq):=hA.rd;have rB:Rd h [] vb 1 1 (([1]:List Nat).flatMap Cq):=hB.rd;refine As (Qm rfl (Qx (Ar rA.any rfl B0 rfl) rfl (Qm rfl (Qx (Ar rB.any rfl B0 rfl) rfl (Qm rfl (Am ?_))))));refine Aq rfl (fun h1=>?_) (fun h1=>?_)
   ·refine Ad (Qm rfl (Qm rfl (Qm rfl (Qm rfl (Ak ?_)))));exact AD _ ⟨vb,va,1,[],rfl,rfl,rfl,hB,hA,by omega,.inl ⟨rfl,by omega⟩⟩ Qs
   ·exact absurd (by decide) h1
  ·rw[F8 h0]at hA;have rA:Rd h [] va 1 1 (([m]:List Nat).flatMap Cq):=hA.rd;have rB:Rd h [] vb 1 1 (([1]:List Nat).flatMap Cq):=hB.rd;refine As (Qm rfl (Qx (Ar rA.any rfl B0 rfl) rfl (Qm rfl (Qx (Ar rB.any rfl B0 rfl) rfl (Qm rfl (Am ?_))))));refine Aq rfl (fun h1=>?_) (fun h1=>?_)
   ·exact absurd h1 (by decide)
   ·refine Ah ?_;exact AD _ ⟨va,vb,m,[1],rfl,rfl,rfl,hA,hB,by omega,.inr ⟨1,rfl,by omega,by omega⟩⟩ Qs
 ·obtain⟨u,w,x,W,rfl,rfl,rfl,hU,hW,hx,hc⟩:=hI;have rU:Rd h [] u 1 1 ([x].flatMap Cq):=hU.rd;have cA:∀ms,Cell h ms ((AF u).add (0*1)) (.int .u64 (x:Int)):=fun ms=>(hU.any (ms:=ms)).cell0 (j:=0) (by simp) rfl;have hWl:W.length<=1:=by rcases hc with ⟨rfl,_⟩|⟨y,rfl,_⟩<;>simp
  refine As (Qm rfl (Qx (Ar rU.any rfl B0 rfl) rfl (Qx (oA rfl) rfl (CD (n:=2) rfl B0 Cp rfl rfl rfl (by rfl) (by rfl) (by omega) (by omega) rfl rfl rfl (fun g19=>Qm rfl (BK (Qm rfl (Am (Ac (As (Qm rfl (Qx (Ar rU.any rfl B0 rfl) rfl (Qm rfl (Am (Ag ?_)))))))))))))));refine Ay (fun q sl h' ms'=>∃(i:Nat) (mo:Hp),1-i=q/\sl=[(0,u),(1,w),(5,.slice (some ⟨g19,0,none⟩) 2 2),(6,.int .u64 0),(21,.int .i64 ((1:Nat):Int)),(22,.int .i64 i)]/\h=h'/\ms'=[mo]/\i<=1/\OwnL Cq 1 222 mo (.slice (some ⟨g19,0,none⟩) 2 2) [if i=0 then 0 else m+1,0]) 1 _ ⟨0,_,rfl,rfl,rfl,rfl,by omega,OwnL.blk (l:=[0,0]) 2 DK rfl (by omega)⟩ Qs ?_;rintro q sl h' ms' ⟨i,mo,rfl,rfl,rfl,rfl,hi,hO⟩;refine As (Qm rfl (Am (Ac ?_)));refine Aq rfl (fun hlt=>?_) (fun hlt=>?_)
  ·have hi0:i=0:=by omega
   subst hi0;rw[if_pos rfl]at hO;have e30:IntKind.u64.wrap ((x:Int)+((0:Nat):Int))=(x:Int):=by rw[D0 (by omega)];omega
   have em:=Ob (n:=m+1) (by omega);have e46:((m+1)/2^32:Nat)=0:=Nat.div_eq_of_lt (by omega);have e46':(((m+1)/2^32:Nat):Int)=((0:Nat):Int):=by rw[e46]
   refine Ah (Ab (Ac (Ag (As (Qm rfl (Qm rfl (BK (Qm rfl (Qm rfl (Qx (BF (0) rU.any rfl B0 Cp rfl rfl) rfl (Ql rfl FE (cA _) (Qm rfl (Qx (R4 (b:=0) e30 rfl rfl rfl) rfl (Qm rfl (Am (Ac (As (Qm rfl (Qm rfl (Qx (Ar hW.rd.any rfl B0 rfl) rfl (Qm rfl (Am ?_))))))))))))))))))))));refine Aq rfl (fun h2=>?_) (fun h2=>?_)
   ·obtain⟨y,rfl,hy,hs⟩:∃y,W=[y]/\y<256/\x+y=m+1:=by
     rcases hc with ⟨rfl,_⟩|h
     ·exact absurd h2 (by decide)
     ·exact h
    have cB:∀ms,Cell h ms ((AF w).add (0*1)) (.int .u64 (y:Int)):=fun ms=>(hW.any (ms:=ms)).cell0 (j:=0) (by simp) rfl;have e40:IntKind.u64.wrap ((x:Int)+(y:Int))=((m+1:Nat):Int):=by rw[D0 (by omega)];omega
    refine Ad (Qm rfl (Qm rfl (Qm rfl (Qx (BF (0) hW.rd.any rfl B0 Cp rfl rfl) rfl (Ql rfl FE (cB _) (Qx (R4 e40 rfl rfl rfl) rfl (Qm rfl (Gm (Qm rfl (Qm rfl (Qm rfl (Qx (JS em rfl rfl rfl (by omega) (by omega)) rfl (Qm rfl (Qx (JW (n:=32) e46' rfl rfl rfl (by omega)) rfl (Qx (BM (0) rfl B0 Cp rfl rfl (by omega) (by omega)) rfl (CK (f:=fun n:Nat=>Value.int .u64 (n:Int)) 0 0 (fun _=>rfl) hO rfl Cp rfl rfl rfl rfl (by simp) rfl rfl (fun m' hO'=>Qm rfl (Ak (Ai (Ab (Ad (Qx (oA rfl) rfl (Qm rfl (Ak ?_))))))))))))))))))))))));exact Al 0 _ (by omega) ⟨1,m',rfl,rfl,rfl,rfl,by omega,hO'⟩ Qs
   ·obtain⟨rfl,hs⟩:W=[]/\x=m+1:=by
     rcases hc with h|⟨y,rfl,_⟩
     ·exact h
     ·exact absurd (by simp) h2
    subst hs;refine Ah (Ab (Ad (Qm rfl (Qm rfl (Qm rfl (Qx (JS em rfl rfl rfl (by omega) (by omega)) rfl (Qm rfl (Qx (JW (n:=32) e46' rfl rfl rfl (by omega)) rfl (Qx (BM (0) rfl B0 Cp rfl rfl (by omega) (by omega)) rfl (CK (f:=fun n:Nat=>Value.int .u64 (n:Int)) 0 0 (fun _=>rfl) hO rfl Cp rfl rfl rfl rfl (by simp) rfl rfl (fun m' hO'=>Qm rfl (Ak (Ai (Ab (Ad (Qx (oA rfl) rfl (Qm rfl (Ak ?_))))))))))))))))));exact Al 0 _ (by omega) ⟨1,m',rfl,rfl,rfl,rfl,by omega,hO'⟩ Qs
  ·have hi1:i=1:=by omega
   subst hi1;rw[if_neg (by decide)]at hO;refine Av (Aa (Aa (Af (Ab (As (Qm rfl (Qm rfl (Qx (Ar rU.any rfl B0 rfl) rfl (Qm rfl (Qx (BM (1) rfl B0 Cp rfl rfl (by omega) (by omega)) rfl (CK (f:=fun n:Nat=>Value.int .u64 (n:Int)) (a:=0) 0 1 (fun _=>rfl) hO rfl Cp rfl rfl rfl rfl (by simp) rfl rfl (fun m' hO'=>Am (Bu hO' fun h2 l2 hR=>(As (Qm rfl (Qc call229 rfl (Fw [m+1,0] _ h2 hR (by simp)) (fun r h3 ms3 l3 hF=>?_)))))))))))))))));obtain⟨l3',rfl,hR3⟩:=hF;rw[LU]at hR3;refine Qm rfl (Am (An ?_));exact Az rfl rfl (⟨AJ l2 l3',rfl,hR3⟩)
theorem YS(h:Hp)(ms:List Hp):RdL Cq 1 h ms (.slice none 0 0) []:=⟨⟨⟨none,0,rfl,Nat.le_refl _,by decide,rfl,fun h=>absurd h (by decide)⟩⟩,DK⟩
theorem XA(m k:Nat)(hm:m<256)(hk:k≠0)(hk2:k<256)(va vb:Value)(h:Hp)(hA:RdL Cq 1 h [] va (GI m))(hB:RdL Cq 1 h [] vb [k]) :
  FnT Tryz.prog 188 #[va,vb] h [] (fun r h' ms'=>h.le h'/\ms'=[]/\∃q u,r=.tuple #[q,u]/\RdL Cq 1 h' [] q (GI (m/k))/\RdL Cq 1 h' [] u (GI (m%k))):=by
 have rB:Rd h [] vb 1 1 ([k].flatMap Cq):=hB.rd;have cB:∀ms,Cell h ms ((AF vb).add (0*1)) (.int .u64 (k:Int)):=fun ms=>(hB.any (ms:=ms)).cell0 (j:=0) (by simp) rfl;have oa:=hA.rd.one;have ob:=hB.rd.one;refine Ap func188 ntmps188 rfl rfl (fun w0 hw0=>?_);simp only[AX];refine As (Qm rfl (Qm rfl (Am (Ac (As (Qm rfl (Qm rfl (Qx (AL rfl call232 rfl (EO (Ys m k hk va vb h hA hB) _)) rfl (Qm rfl (Am ?_))))))))));refine Aq rfl (fun h1=>?_) (fun h1=>?_)
 ·have hlt:m<k:=by
   unfold TE at h1;rcases Nat.lt_or_ge m k with h|h
   ·exact h
   ·rw[if_neg (by omega)]at h1;split at h1<;>omega
  refine As (Qm rfl (Qm rfl (Qm rfl (Am (An (Ae ?_))))));exact Bo rfl rfl rfl (⟨C9,rfl,_,_,rfl,by rw[Nat.div_eq_of_lt hlt];exact YS _ _,by rw[Nat.mod_eq_of_lt hlt];exact hA⟩)
 ·refine Ah (Ab (Ac (As (Qm rfl (Qx (Ar rB.any rfl B0 rfl) rfl (Qm rfl (Am ?_)))))));refine Aq rfl (fun h2=>?_) (fun h2=>?_)
  ·refine Ac (Ad (Qm rfl (Qm rfl (Qx (AE 0 rB.any rfl B0 Cp rfl rfl rfl (by omega)) rfl (Ql rfl FE (cB _) (Qc call233 rfl (U7 m k hm hk hk2 va h hA) (fun r h3 ms3 l3 hF=>?_)))))));obtain⟨l3',rfl,q,rfl,hq⟩:=hF;have oq:=hq.rd.one;refine Qm rfl (Qm rfl (Qm rfl (Qm rfl (Qm rfl (BK (Qm rfl (Qm rfl (Ao [_] rfl B0 Cp rfl (by rfl) rfl rfl (by omega) rfl rfl rfl (fun g37=>DP fun h4 l4 hS=>?_)))))))));have hR:RdL Cq 1 h4 [] (.slice (some ⟨g37,0,none⟩) 1 1) [m%k]:=⟨⟨⟨_,_,rfl,Nat.le_refl _,by decide,rfl,fun _=>⟨_,rfl,hS⟩⟩⟩,DK⟩
   refine Qc call229 rfl (Fw [m%k] _ h4 hR (by simp)) (fun r h5 ms5 l5 hF=>?_);obtain⟨l5',rfl,hR5⟩:=hF;rw[Ja]at hR5;have or_:=hR5.rd.one;refine Qm rfl (Qm rfl (Am (An (Ae ?_))));exact Bo rfl rfl rfl (⟨AJ l3' (AJ l4 l5'),rfl,_,_,rfl,(hq.up l4).up l5',hR5⟩)
  ·exact absurd (by decide) h2
theorem Ya(m k:Nat)(hk:0<k):(-(m:Int))%(k:Int)=(if m%k=0 then 0 else k-m%k:Nat):=by
 have h1:(m:Int)=((m%k:Nat):Int)+(k:Int)*((m/k:Nat):Int):=by
  have:=Nat.mod_add_div m k
  exact_mod_cast this.symm
 have hlt:=Nat.mod_lt m hk;split
 ·rename_i h0;rw[h0]at h1;have:-(m:Int)=0+(k:Int)*(-((m/k:Nat):Int)):=by rw[Int.mul_neg];omega
  rw[this,Int.add_mul_emod_self_left];rfl
 ·rename_i h0
  have:-(m:Int)=((k-m%k:Nat):Int)+(k:Int)*(-((m/k:Nat):Int)-1):=by rw[Int.mul_sub,Int.mul_neg,Int.mul_one];omega
  rw[this,Int.add_mul_emod_self_left,Int.emod_eq_of_lt (by omega) (by omega)]
theorem LK(n:Nat):F7 (GI n)=GI n:=by
 unfold GI;split
 ·rfl
 ·rename_i h;exact Fo [] h
theorem ZL(n:Int)(k:Nat)(hn:-256<n/\n<256)(hk:2<=k)(hk2:k<256)(h:Hp) :
  FnT Tryz.prog 127 #[WD n,WD (k:Int)] h [] (fun r h' ms'=>h.le h'/\ms'=[]/\∃(b:Bool) (l:List UInt8),r=.tuple #[.agg #[.bool b,sv l],WD (n%(k:Int)),.bool true]):=by
 obtain⟨m,hm⟩:∃m,n.natAbs=m:=⟨_,rfl⟩
 have hm2:m<256:=by omega
 have osn:(sv (H9 n.natAbs)).oneCell'=true:=rfl;have osk:(sv (H9 (k:Int).natAbs)).oneCell'=true:=rfl;refine Ap func127 ntmps127 rfl rfl (fun w0 hw0=>?_);simp only[AX];refine As (AV [_,_] rfl rfl (by rfl) rfl rfl rfl (fun g2=>AV [_,_] rfl rfl (by rfl) rfl rfl rfl (fun g3=>Cz [.bool false,.string ByteArray.empty] rfl Cv rfl rfl (fun g4=>Cz [.bool false,.string ByteArray.empty] rfl Cv rfl rfl (fun g5=>Qm rfl (Am (Bm 2 rfl fun h1 l1 hS3=>(Bm 2 rfl fun h2 l2 hS2=>?_))))))));have gS2:∀ms,Seg h2 ms (⟨g2,0,none⟩:Addr) [.bool (decide (n<0)),sv (H9 n.natAbs)]:=fun ms=>hS2.any;have gS3:∀ms,Seg h2 ms (⟨g3,0,none⟩:Addr) [.bool (decide ((k:Int)<0)),sv (H9 (k:Int).natAbs)]:=fun ms=>(hS3.le l2).any;refine Ac (BG (n:=6) (bs:=[true,false,true,false,false,false]) [true,false,true] CS (by kernel_rfl) (by kernel_rfl) rfl rfl (Qp rfl (oG rfl KD Cv (gS2 _)) (Qp rfl (oG rfl KD Cv (gS3 _)) ?_)));unfold Ft;simp only[cons_append,nil_append];refine Qo 1 rfl (Qc call187 rfl (Q6 n hn h2) (fun a h3 ms3 l3 hF=>?_));obtain⟨l3',rfl,hA⟩:=hF;rw[hm]at hA;refine Qa (Qo 3 rfl (Qc call187 rfl (Q6 (k:Int) (by omega) h3) (fun b h4 ms4 l4 hF=>?_)));obtain⟨l4',rfl,hB⟩:=hF;have l24:=AJ l3' l4';refine Qa (Qo 4 rfl (Qm rfl (Qa (Qo 5 rfl (Qm rfl (Qa (Qe ?_)))))));have hA4:=hA.up l4'
 have hBk:RdL Cq 1 h4 [] b [k]:=by
  have:GI (k:Int).natAbs=[k]:=by rw[Int.natAbs_natCast];exact if_neg (by omega)
  rw[this]at hB;exact hB
 have rB:Rd h4 [] b 1 1 ([k].flatMap Cq):=hBk.rd;have oa:=hA4.rd.one;have ob:=hBk.rd.one;refine Ab (Ac (As (Qm rfl (Qx (Ar rB.any rfl B0 rfl) rfl (Qm rfl (Am ?_))))));refine Aq rfl (fun hz=>?_) (fun hz=>?_)
 ·exact absurd hz (by decide)
 ·refine Ah (Ab (As (Qm rfl (Qm rfl (Qc call188 rfl (XA m k hm2 (by omega) hk2 a b h4 hA4 hBk) (fun r h5 ms5 l5 hF=>?_))))));obtain⟨l5',rfl,q,u,rfl,hQ,hU⟩:=hF;have oq:=hQ.rd.one;have ou:=hU.rd.one;have hB5:=hBk.up l5';have l25:=AJ l24 l5';have e2:∀ms,Cell h5 ms ((⟨g2,0,none⟩:Addr).add 0) (.bool (decide (n<0))):=fun ms=>((hS2 0 _ rfl).any).le l25;have e3:∀ms,Cell h5 ms ((⟨g3,0,none⟩:Addr).add 0) (.bool (decide ((k:Int)<0))):=fun ms=>((hS3.le l2) 0 _ rfl).any.le l25;refine Qm rfl (Qm rfl (Qm rfl (Qm rfl (Qm rfl (Am ?_)))))
  have hmk:m/k<128:=by have:=Nat.div_le_div_left (a:=m) hk (by omega);omega
  have hmm:m%k<k:=Nat.mod_lt _ (by omega);refine A9 (fun sl h' ms'=>∃(q' u':Value) (Q:Nat),sl=[(2,.pointer (some ⟨g2,0,none⟩)),(3,.pointer (some ⟨g3,0,none⟩)),(4,.pointer (some ⟨g4,0,none⟩)),(5,.pointer (some ⟨g5,0,none⟩)),(9,q'),(10,u')]/\h5.le h'/\ms'=[Bn g5 172 [.bool false,.string ByteArray.empty],Bn g4 172 [.bool false,.string ByteArray.empty]]/\Q<256/\RdL Cq 1 h' [] q' (GI Q)/\RdL Cq 1 h' [] u' (GI (n%(k:Int)).toNat)) ?_ (fun s h ms hI=>?_)
  ·refine Ac (Ad (Qf J2 rfl (Ql rfl U4 (e2 _) (Qm rfl ?_))));refine AQ (t:=28) rfl (fun hneg=>?_) (fun hneg=>?_)
   ·have hnm:n=-(m:Int):=by omega
    have hnk:=Ya m k (by omega);rw[<-hnm]at hnk;refine Qg (Au rfl rfl) rfl (Qg (Ar hU.rd.any rfl B0 rfl) rfl (Qg (Cw rfl rfl rfl) rfl (Qm rfl (Am ?_))));refine Aq rfl (fun h3=>?_) (fun h3=>?_)
    ·have h0:m%k≠0:=by intro h0;rw[h0]at h3;exact absurd h3 (by decide)
     rw[if_neg h0]at hnk;have hU1:RdL Cq 1 h5 [] u [m%k]:=by rw[<-F8 h0];exact hU
     refine Ad (Qm rfl (Ao [_] rfl B0 Cp rfl (by rfl) rfl rfl (by omega) rfl rfl rfl (fun g34=>DP fun h6 l6 hS1=>?_)));have hR1:RdL Cq 1 h6 [] (.slice (some ⟨g34,0,none⟩) 1 1) [1]:=⟨⟨⟨_,_,rfl,Nat.le_refl _,by decide,rfl,fun _=>⟨_,rfl,hS1⟩⟩⟩,DK⟩
     refine Qc call189 rfl (XL (m/k) (by omega) q _ h6 (hQ.up l6) hR1) (fun x h7 ms7 l7 hF=>?_);obtain⟨l7',rfl,hX⟩:=hF;have ox:=hX.rd.one;refine Qm rfl (Qm rfl (Qc call190 rfl (XR k (m%k) hmm hk2 b u h7 ((hB5.up l6).up l7') ((hU1.up l6).up l7')) (fun y h8 ms8 l8 hF=>?_)));obtain⟨l8',rfl,hY⟩:=hF;refine Qm rfl (Qm rfl (Ak ?_));exact AD _ ⟨x,y,m/k+1,rfl,AJ l6 (AJ l7' l8'),rfl,by omega,hX.up l8',by rw[hnk,Int.toNat_natCast];exact hY⟩ Qs
    ·have h0:m%k=0:=by refine Classical.byContradiction fun h0=>h3 ?_;rw[F8 h0];simp
     rw[if_pos h0]at hnk;refine Ah ?_;exact AD _ ⟨q,u,m/k,rfl,C9,rfl,by omega,hQ,by rw[hnk,Int.toNat_natCast,<-h0];exact hU⟩ Qs
   ·have hnm:n=(m:Int):=by omega
    have hnk:n%(k:Int)=((m%k:Nat):Int):=by rw[hnm];exact(Int.natCast_emod m k).symm
    refine Qk rfl (Qk rfl (Qk rfl (Qm rfl (Am (AP rfl (Ah ?_))))));exact AD _ ⟨q,u,m/k,rfl,C9,rfl,by omega,hQ,by rw[hnk,Int.toNat_natCast];exact hU⟩ Qs
  ·obtain⟨q',u',Q,rfl,l6,rfl,hQ2,hQ',hU'⟩:=hI;have oq':=hQ'.rd.one;have ou':=hU'.rd.one;have hkp:(0:Int)<(k:Int):=by omega
   have hr0:=Int.emod_nonneg n (Int.ne_of_gt hkp);have hr1:=Int.emod_lt_of_pos n hkp
   have eR:Value.agg #[.bool (false&&decide (H9 (n%(k:Int)).toNat≠[])),sv (H9 (n%(k:Int)).toNat)]=WD (n%(k:Int)):=by
    unfold WD;have h1:(n%(k:Int)).natAbs=(n%(k:Int)).toNat:=by omega
    have h2:decide (n%(k:Int)<0)=false:=decide_eq_false (by omega);rw[h1,h2];rfl
   have hrn:(n%(k:Int)).toNat<256:=by omega
   refine As (Qm rfl (Qf J2 rfl (Ql rfl U4 ((e2 _).le l6) (Qf J2 rfl (Ql rfl U4 ((e3 _).le l6) (Qx (Aab rfl U4 rfl rfl) rfl ?_))))));refine Qc call186 rfl (Nt (GI Q) _ q' Q hQ2 (LK Q) _ hQ' (by have:=JU Q;omega)) (fun x1 h7 ms7 l7 hF=>?_);obtain⟨l7',rfl,rfl⟩:=hF;refine Qm rfl ?_;refine Qc call186 rfl (Nt (GI (n%(k:Int)).toNat) false u' (n%(k:Int)).toNat hrn (LK _) h7 (hU'.up l7') (by have:=JU (n%(k:Int)).toNat;omega)) (fun x2 h8 ms8 l8 hF=>?_);obtain⟨l8',rfl,rfl⟩:=hF;have os1:(sv (H9 Q)).oneCell'=true:=rfl;have os2:(sv (H9 (n%(k:Int)).toNat)).oneCell'=true:=rfl;refine Sa 1 [_,_] Cv rfl (by simp[osn,osk,oq',ou',os1,os2]) ?_;refine Sa 0 [_,_] Cv rfl (by simp[osn,osk,oq',ou',os1,os2]) ?_;refine Qm rfl (Am (An (CB 1 rfl ?_)));exact Wc (vs:=[_,_]) (vs2:=[_,_]) rfl rfl rfl rfl KD rfl Cv rfl rfl ⟨AJ l1 (AJ l2 (AJ l25 (AJ l6 (AJ l7' l8')))),rfl,_,_,by rw[<-eR]⟩
theorem ZB(n:Nat)(hn:n<256)(h:Hp) :
  FnT Tryz.prog 128 #[WD (n:Int)] h [] (fun r h' ms'=>h.le h'/\ms'=[]/\r=.tuple #[.int .i64 n,.bool true]):=by
 have osn:(sv (H9 (n:Int).natAbs)).oneCell'=true:=rfl;refine Ap func128 ntmps128 rfl rfl (fun w0 hw0=>?_);simp only[AX];refine As (AV [_,_] rfl rfl (by rfl) rfl rfl rfl (fun g1=>Qm rfl (Qm rfl (Am (AC fun h2 l2 hS2=>?_)))));have gS2:∀ms,Seg h2 ms (⟨g1,0,none⟩:Addr) [.bool (decide ((n:Int)<0)),sv (H9 (n:Int).natAbs)]:=fun ms=>hS2.any;refine As (Qx (oG rfl KD Cv (gS2 _)) rfl (Qc call187 rfl (Q6 (n:Int) (by omega) h2) (fun a h3 ms3 l3 hF=>?_)));obtain⟨l3',rfl,hA⟩:=hF;rw[Int.natAbs_natCast]at hA;obtain⟨W,hW⟩:∃W,GI n=W:=⟨_,rfl⟩
 have hWl:W.length<=1:=by rw[<-hW];exact JU n
 rw[hW]at hA;have oa:=hA.rd.one;refine Qm rfl (Am (Ac (As (Qm rfl (Qx (Ar hA.rd.any rfl B0 rfl) rfl (Qm rfl (Am ?_)))))));refine Aq rfl (fun h1=>?_) (fun h1=>?_)
 ·exact absurd h1 (by omega)
 ·refine Ah (Ab (As (Qm rfl (Am (Ac (As (Qm rfl (Qx (Ar hA.rd.any rfl B0 rfl) rfl (Qm rfl (Am (Ag ?_)))))))))));refine Ay (fun q sl h' ms'=>∃(i:Nat),W.length-i=q/\sl=[(1,.pointer (some ⟨g1,0,none⟩)),(4,a),(5,.int .u64 ((if i=0 then 0 else n:Nat):Int)),(13,a),(14,.int .i64 (W.length:Int)),(15,.int .i64 i)]/\h3=h'/\ms'=[]/\i<=W.length) W.length _ ⟨0,rfl,rfl,rfl,rfl,by omega⟩ Qs ?_;rintro q sl h' ms' ⟨i,rfl,rfl,rfl,rfl,hi⟩;refine As (Qm rfl (Am (Ac ?_)));refine Aq rfl (fun hlt=>?_) (fun hlt=>?_)
  ·have hi0:i=0:=by omega
   subst hi0;have hn0:n≠0:=by rintro rfl;rw[<-hW]at hlt;exact absurd hlt (by decide)
   have hWn:W=[n]:=by rw[<-hW];exact F8 hn0
   subst hWn;have cA:∀ms,Cell h3 ms ((AF a).add (0*1)) (.int .u64 (n:Int)):=fun ms=>(hA.any (ms:=ms)).cell0 (j:=0) (by simp) rfl;have e24:((n*2^0%18446744073709551616:Nat):Int)=(n:Int):=by rw[Nat.pow_zero,Nat.mul_one,Nat.mod_eq_of_lt (by omega)]
   have e25:((0 ||| n:Nat):Int)=(n:Int):=by rw[Nat.zero_or]
   refine Ah (Ab (Ac (Ag (As (Qm rfl (Qx (BF (0) hA.rd.any rfl B0 Cp rfl rfl) rfl (Ql rfl FE (cA _) (Qm rfl (Qm rfl (Gm (Qm rfl (Qm rfl (Qm rfl (Qx (oM rfl) rfl (Qx (RV (n:=0) e24 rfl rfl rfl (by omega)) rfl (Qx (UN (a:=0) (b:=n) e25 rfl rfl rfl (by omega) (by omega)) rfl (Qm rfl (Ak (Ai (Ab (Ad (Qx (oA rfl) rfl (Qm rfl (Ak ?_))))))))))))))))))))))));exact Al 0 _ (by simp) ⟨1,rfl,rfl,rfl,rfl,by simp⟩ Qs
  ·have hiW:i=W.length:=by omega
   have em:(if i=0 then 0 else n)=n:=by
    by_cases h0:n=0
    ·subst h0;simp
    ·have:W=[n]:=by rw[<-hW];exact F8 h0
     rw[hiW,this];simp
   rw[em];have e1:∀ms,Cell h3 ms ((⟨g1,0,none⟩:Addr).add 0) (.bool (decide ((n:Int)<0))):=fun ms=>((hS2 0 _ rfl).any).le l3';refine Av (Aa (Aa (Af (Ab (Ac (Ag (As (Qf J2 rfl (Ql rfl U4 (e1 _) (Qm rfl ?_))))))))));refine AQ (t:=30) rfl (fun hneg=>?_) (fun hneg=>?_)
   ·exact absurd hneg (by omega)
   ·refine Qk rfl (Qk rfl (Qm rfl (Qm rfl (Am (AP rfl (As (Qm rfl (Qm rfl (Qm rfl (Am ?_))))))))));refine Aq rfl (fun h5=>?_) (fun h5=>?_)
    ·exact absurd h5 (by omega)
    ·refine Ah (Ai (Ab (As (Qm rfl (Qx (Iv (a:=(n:Int)) rfl FE U3 rfl (CX (by omega))) rfl (Qm rfl (Qm rfl (Am (An ?_)))))))));exact Bo rfl rfl rfl (⟨AJ l2 l3',rfl,rfl⟩)
theorem Aa5(n:Nat)(hn:n<256)(h:Hp)(ms:List Hp):FnV Tryz.prog 128 #[WD (n:Int)] h ms (.tuple #[.int .i64 n,.bool true]):=EO ((ZB n hn h).mono fun _ _ _ h=>h.2.2) ms
def QM(n:Int):List Value:=[.bool (decide (n<0)),sv (H9 n.natAbs)]
theorem YO:∀n,(QM n).length=2:=fun _=>rfl
theorem X9:∀a:Int,∀c∈QM a,c.oneCell'=true:=fun a c hc=>by unfold QM at hc;simp only[mem_cons,not_mem_nil,or_false]at hc;rcases hc with rfl|rfl<;>rfl
theorem Aa1(n:Int):WD n=.agg (QM n).toArray:=rfl
theorem M8{l:List Int}{k n:Nat}(hk:k<n)(hl:l.length=n):(l.take k++replicate (n-k) 0).set k (l[k]'(by omega))=l.take (k+1)++replicate (n-(k+1)) 0:=by
 have h1:(l.take k).length=k:=by rw[length_take];omega
 have h2:replicate (n-k) (0:Int)=0::replicate (n-(k+1)) 0:=by rw[<-List.replicate_succ];congr 1;omega
 rw[List.set_append_right _ _ (by omega),h1,Nat.sub_self,h2,List.set_cons_zero,take_succ_eq_append_getElem (by omega),List.append_assoc];rfl
theorem YH(p:Int)(r c:Nat)(hp:IsP p)(hp2:p<256)(hr:r<=200)(hc:c<=200)(L:List Int)(hL:L.length=r*c)(hb:∀x∈L,-256<x/\x<256)(ev:Value)(h:Hp)(hR:RdL QM 2 h [] ev L) :
  FnT Tryz.prog 60 #[.int .i64 p,.agg #[.int .i64 r,.int .i64 c,ev]] h [] (fun v h' ms'=>h.le h'/\WY v ms' ⟨p,r,c,L.map (· % p)⟩):=by
 have hpb:=hp.1;have hrc:r*c<=40000:=Nat.mul_le_mul hr hc;obtain⟨pn,rfl⟩:=Int.eq_ofNat_of_zero_le (show 0<=p by omega);have oe:=hR.rd.one;refine Ap func60 ntmps60 rfl rfl (fun w0 hw0=>?_);simp only[AX];refine As (AV [_,_,_] rfl rfl (by rfl) rfl rfl rfl (fun g3=>Cz [.int .i64 0,.int .i64 0,.int .i64 0,.slice none 0 0] rfl BS rfl rfl (fun g4=>Am ?_)))
 -- ms=[Bn g4 (result),Bn g3 (the matrix)]
 refine Bm 1 rfl fun h1 l1 hS3=>?_;have hR1:=hR.up l1;have e0:∀ms,Cell h1 ms ((⟨g3,0,none⟩:Addr).add 0) (.int .i64 r):=fun ms=>(hS3 0 _ rfl).any;have e1:∀ms,Cell h1 ms ((⟨g3,0,none⟩:Addr).add 1) (.int .i64 c):=fun ms=>(hS3 1 _ rfl).any;have e2:∀ms,Cell h1 ms ((⟨g3,0,none⟩:Addr).add 2) ev:=fun ms=>(hS3 2 _ rfl).any;refine As (Qm rfl (Qf Y4 rfl (Ql rfl U3 (e0 _) (Qf YA rfl (Ql rfl U3 (e1 _) ?_)))));refine Qc call125 rfl (XE (pn:Int) r c h1 ⟨by omega,by omega⟩) (fun z h2 ms2 l2 hF=>?_);obtain⟨rfl,eu,m,rfl,rfl,hO⟩:=hF
 have hZ:ZO (pn:Int) r c=⟨(pn:Int),r,c,replicate (r*c) 0⟩:=by unfold ZO;rw[if_pos ⟨hp,by unfold Jj;omega⟩,show((r:Int)*c).toNat=r*c by rw[<-Int.natCast_mul,Int.toNat_natCast]]
 rw[hZ]at hO;simp only[hZ];have ou:=hO.o1;have rE:Rd h1 [] ev 2 (r*c) (L.flatMap QM):=by have:=hR1.rd;rwa [hL]at this
 have rU:Rd h1 [m] eu 1 (r*c) ((replicate (r*c) (0:Int)).flatMap cI):=by have:=(hO.rd (h:=h1) (ms:=[m]) Mh).rd;rwa [length_replicate]at this
 refine Cz [.int .i64 0,.int .i64 0,.int .i64 0,.slice none 0 0] rfl BS rfl rfl (fun g5=>?_);refine Sa 0 [_,_,_,_] BS rfl (by simp[oe,ou]) ?_;refine Am (Ac (As (Qf EP rfl (Ql rfl U3 (Cell.blk 0 rfl rfl) (Qm rfl (Qm rfl ?_))))));refine AQ (t:=21) rfl (fun h0=>?_) (fun h0=>?_)
 ·exact absurd h0 (by omega)
 ·refine Qg (oF J9 rfl) rfl (Qg (oL rfl LD (e2 _)) rfl (Qg (Ar rE.any rfl LD rfl) rfl (Qg (oF GV rfl) rfl (Qg (oL rfl AU (Cell.blk 0 rfl rfl)) rfl (Qg (D8 rU rfl AU rfl) rfl (Qg (CY rfl rfl rfl) rfl (Qm rfl (Am ?_))))))));refine Aq rfl (fun hne=>?_) (fun hne=>?_)
  ·exact absurd rfl hne
  ·refine Ah (Ab (AC fun h2 l2 hS5=>?_));have hR2:=hR1.up l2;have osp:(sv (H9 (pn:Int).natAbs)).oneCell'=true:=rfl;refine As (Qm rfl (Qx (AL rfl call126 rfl (VT (pn:Int) (by omega) _ _)) rfl (Cz [.bool false,.string ByteArray.empty] rfl Cv rfl rfl (fun g6=>?_))));refine Sa 0 [_,_] Cv rfl (by simp[oe,ou,Lj]) ?_;refine Am (AC fun h3 l3 hS6=>?_);have l13:=AJ l2 l3;have hR3:=hR1.up l13;have rE3:=rE.le l13;have e2:∀ms,Cell h3 ms ((⟨g3,0,none⟩:Addr).add 2) ev:=fun ms=>(e2 ms).le l13;refine Ac (As (Qf J9 rfl (Ql rfl LD (e2 _) (Qx (Ar rE3.any rfl LD rfl) rfl (Qm rfl (Am (Ag ?_)))))));refine Ay (fun q sl h' ms'=>∃(k:Nat) (mo:Hp),r*c-k=q/\sl=[(4,.pointer (some ⟨g4,0,none⟩)),(5,.pointer (some ⟨g5,0,none⟩)),(6,.pointer (some ⟨g6,0,none⟩)),(34,ev),(35,.int .i64 ((r*c:Nat):Int)),(36,.int .i64 k)]/\h3.le h'/\ms'=[mo,Bn g4 65 [.int .i64 0,.int .i64 0,.int .i64 0,.slice none 0 0]]/\k<=r*c/\OwnL cI 1 3 mo eu ((L.map (· % (pn:Int))).take k++replicate (r*c-k) 0)) (r*c-0) _ ⟨0,_,rfl,rfl,C9,rfl,by omega,by rw[take_zero,nil_append];exact hO⟩ Qs ?_;rintro q sl h' ms' ⟨k,mo,rfl,rfl,lh,rfl,hk,hO⟩;have hR4:=hR3.up lh;have rE4:=rE3.le lh;refine As (Qm rfl (Am (Ac ?_)));refine Aq rfl (fun hlt=>?_) (fun hlt=>?_)
   ·have hkL:k<L.length:=by omega
    obtain⟨x,hx⟩:∃x,L[k]=x:=⟨_,rfl⟩
    have hxb:=hb x (by rw[<-hx];exact getElem_mem hkL);have gE:∀ms,Seg h' ms ((AF ev).add (k*2)) (QM x):=fun ms=>by rw[<-hx];exact(hR4.any (ms:=ms)).seg hkL
    have osx:(sv (H9 x.natAbs)).oneCell'=true:=rfl;refine Ah (Ab (Ac (Ag (As (Qm rfl (Qx (BF (k) rE4.any rfl LD Cv rfl rfl) rfl (Qx (oG rfl KD Cv (gE _)) rfl (Cz [.bool false,.string ByteArray.empty] rfl Cv rfl rfl (fun g8=>Qm rfl ?_)))))))));refine Sa 0 [_,_] Cv rfl (by simp[oe,ou,Lj]) ?_;refine Am ?_;have gS6:∀ms,Seg h' ms (⟨g6,0,none⟩:Addr) (QM (pn:Int)):=fun ms=>(hS6.le lh).any;refine As (Qx (oG rfl KD Cv (Seg.blk 0 rfl)) rfl (Qx (oG rfl KD Cv (gS6 _)) rfl (Qc call127 rfl (ZL x pn hxb (by omega) (by omega) h') (fun z h4 ms4 l4 hF=>?_))));obtain⟨l4',rfl,bq,lq,rfl⟩:=hF;obtain⟨y,hy⟩:∃y:Nat,x%(pn:Int)=y:=⟨(x%(pn:Int)).toNat,by have:=Int.emod_nonneg x (show(pn:Int)≠0 by omega);omega⟩
    have hyp:y<pn:=by have:=Int.emod_lt_of_pos x (show 0<(pn:Int) by omega);omega
    rw[hy,Aa1];refine Qm rfl (Qm rfl (Qm rfl (Qm rfl (Cz [.bool false,.string ByteArray.empty] rfl Cv rfl rfl (fun g9=>Cz [.bool false,.string ByteArray.empty] rfl Cv rfl rfl (fun g10=>?_))))));refine Sa 1 [_,_] Cv rfl (by simp[oe,ou,Lj]) ?_;refine Sa 0 [_,_] Cv rfl (by simp[oe,ou,Lj]) ?_;refine Qm rfl (Am (AC fun h5 l5 hS10=>?_));have lh5:=AJ lh (AJ l4' l5);have gS10:∀ms,Seg h5 ms (⟨g10,0,none⟩:Addr) (QM (y:Int)):=fun ms=>hS10.any;have e5:∀ms,Cell h5 ms ((⟨g5,0,none⟩:Addr).add 3) eu:=fun ms=>(((hS5.le l3).le lh5) 3 _ rfl).any
    have hln:((L.map (· % (pn:Int))).take k++replicate (r*c-k) 0).length=r*c:=by rw[length_append,length_take,length_map,length_replicate];omega
    refine BG (n:=10) (bs:=[true,true,true,true,true,true,true,true,true,false]) [true,true,true,true,true,true,true,true,true] CS (by kernel_rfl) (by kernel_rfl) rfl rfl (QF GV rfl (QL rfl AU (e5 _) (Qq rfl (Qp rfl (oG rfl KD Cv (gS10 _)) (Qp rfl (AL rfl call128 rfl (Aa5 y (by omega) _ _)) (Qq rfl (Qq rfl (Qq rfl (Qp rfl (BI (k) (hO.rd (h:=h5) (ms:=[mo]) Mh).rd rfl AU A6 rfl rfl (by omega) (by omega)) ?_)))))))));unfold Ft;simp only[cons_append,nil_append];refine Qo 9 rfl ?_;refine De 2 k hO rfl A6 rfl rfl rfl (by rw[hln];omega) rfl rfl (fun mo' hO'=>?_);refine Qw (Qe ?_);have hset:=M8 (l:=L.map (· % (pn:Int))) (k:=k) (n:=r*c) (by omega) (by rw[length_map];exact hL);rw[getElem_map,hx,hy]at hset;rw[hset]at hO';refine Ai (Ab (Ad (Qx (oA rfl) rfl (Qm rfl (Ak ?_)))));refine AN (AN ?_);exact Al (r*c-(k+1)) _ (by omega) ⟨k+1,mo',rfl,rfl,lh5,rfl,by omega,hO'⟩ Qs
   ·have hkn:k=r*c:=by omega
    have gS5:∀ms,Seg h' ms (⟨g5,0,none⟩:Addr) [.int .i64 pn,.int .i64 r,.int .i64 c,eu]:=fun ms=>((hS5.le l3).le lh).any;refine Av (Aa (Aa (Af (Ab (As (Qx (oG rfl PS BS (gS5 _)) rfl ?_))))));refine Sa 1 [_,_,_,_] BS rfl (by simp[oe,ou,Lj]) ?_;refine Am (An ?_);exact By (vs:=[_,_,_,_]) 1 rfl rfl PS rfl BS rfl rfl (⟨AJ l1 (AJ l13 lh),eu,mo,rfl,rfl,by rw[hkn,Nat.sub_self,List.replicate_zero,append_nil,List.take_of_length_le (by rw[length_map];omega)]at hO;exact hO⟩)
def T7(v:Value)(ms:List Hp)(r c:Nat)(L:List Int):Prop:=∃ev m,ms=[m]/\v=.agg #[.int .i64 r,.int .i64 c,ev]/\OwnL QM 2 172 m ev L
theorem UQ(r c:Nat)(hr:r<=200)(hc:c<=200)(h:Hp):FnT Tryz.prog 191 #[.int .i64 r,.int .i64 c] h [] (fun v _ _=>v=.bool true):=by
 refine Ap func191 ntmps191 rfl rfl (fun w0 hw0=>?_);simp only[AX];refine As (Qm rfl (BK (Qm rfl (Qm rfl (Qx (Qz rfl rfl rfl) rfl (Qm rfl (Qm rfl ?_)))))));refine AQ (t:=9) rfl (fun h1=>?_) (fun h1=>?_)
 ·refine Qg (Au rfl rfl) rfl (Qg (Au rfl rfl) rfl (Qg (I9 rfl rfl rfl) rfl (Qg (MZ rfl rfl rfl) rfl (Qm rfl (Qm rfl (Am (An ?_)))))));exact Az rfl rfl (by rw[decide_eq_true];omega)
 ·exact absurd (by omega) h1
theorem Oe(r c:Nat)(hr:r<=200)(hc:c<=200)(h:Hp):FnT Tryz.prog 129 #[.int .i64 r,.int .i64 c] h [] (fun v h' ms'=>h=h'/\T7 v ms' r c (replicate (r*c) 0)):=by have hrc:r*c<=40000:=Nat.mul_le_mul hr hc;have hmi:(r:Int)*c=((r*c:Nat):Int):=(Int.natCast_mul r c).symm;refine Ap func129 ntmps129 rfl rfl (fun w0 hw0=>?_);simp only[AX];refine As (Cz [.int .i64 0,.int .i64 0,.slice none 0 0] rfl D3 rfl rfl (fun g4=>Am (Ac (As (Qm rfl (Qm rfl (Qx (AL rfl call191 rfl (EO (UQ r c hr hc h) _)) rfl (Qm rfl (Am (AP rfl (Ah (Ab (As (Qm rfl (Qm rfl (Qm rfl (Qm rfl (Qx (oM rfl) rfl (WJ YO (by omega) (0:Int) (n:=r*c) rfl LD Cv rfl rfl rfl (by omega) (by omega) (by omega) (by omega) rfl rfl rfl (fun g15 ev m hev hO=>?_))))))))))))))))))));subst hev;refine Qx (A3 AaT [.int .i64 0,.int .i64 0,.slice none 0 0] [(0,_),(1,_),(2,_)] [_,_,_] rfl D3 rfl rfl Qt rfl) rfl ?_;refine Sa 1 [_,_,_] D3 rfl (by simp[Value.oneCell']) ?_;refine Am (An ?_);exact By (vs:=[_,_,_]) 1 rfl rfl Ow rfl D3 rfl rfl (⟨rfl,_,m,rfl,rfl,hO⟩)
def S8(f:Nat->Nat->Int)(k t a b:Nat):Int:=if a<k\/(a=k/\b<t) then f a b else 0
theorem UZ(f:Nat->Nat->Int)(k t:Nat){r c:Nat}:Dy r c (Jg (S8 f k t) k t (f k t))=Dy r c (S8 f k (t+1)):=by
 refine BO fun a _ b _=>?_;unfold Jg S8;by_cases h:a=k/\b=t
 ·obtain⟨rfl,rfl⟩:=h;rw[if_pos ⟨rfl,rfl⟩,if_pos (by omega)]
 ·rw[if_neg h];by_cases h2:a<k\/(a=k/\b<t)
  ·rw[if_pos h2,if_pos (by omega)]
  ·rw[if_neg h2,if_neg (by omega)]
theorem XX(f:Nat->Nat->Int)(k:Nat){r c:Nat}:Dy r c (S8 f k c)=Dy r c (S8 f (k+1) 0):=by
 refine BO fun a _ b hb=>?_;unfold S8;by_cases h2:a<k\/(a=k/\b<c)
 ·rw[if_pos h2,if_pos (by omega)]
 ·rw[if_neg h2,if_neg (by omega)]
theorem ZN(r c:Nat)(hr0:0<r)(hr:r<=200)(hc:c<=200)(f:Nat->Nat->Int)(hb:∀i,i<r->∀j,j<c->-256<f i j/\f i j<256)(Rs:List Value)(lR:Rs.length=r)(v:Value)(h:Hp)(hv:RdL cU 1 h [] v Rs)(hRs:∀i,i<r->RdL cI 1 h [] (Rs.getD i undef) (G4 c (f i))) :
  FnT Tryz.prog 131 #[v] h [] (fun w h' ms'=>h.le h'/\T7 w ms' r c (Dy r c f)):=by
 have hrc:r*c<=40000:=Nat.mul_le_mul hr hc;have ov:=hv.rd.one;have rv:Rd h [] v 1 r (Rs.flatMap cU):=by have:=hv.rd;rwa [lR]at this
 refine Ap func131 ntmps131 rfl rfl (fun w0 hw0=>?_);simp only[AX];refine As (Cz [.int .i64 0,.int .i64 0,.slice none 0 0] rfl D3 rfl rfl (fun g2=>BK (Qm rfl (Am (Ac (As (Qm rfl (Qx (Ar rv.any rfl Ch rfl) rfl (Qm rfl (Am (Ag ?_)))))))))));refine Ay (fun q sl h' ms'=>∃(i:Nat),r-i=q/\sl=[(0,v),(2,.pointer (some ⟨g2,0,none⟩)),(3,.int .i64 ((if i=0 then 0 else c:Nat):Int)),(11,v),(12,.int .i64 (r:Int)),(13,.int .i64 i)]/\h=h'/\ms'=[Bn g2 106 [.int .i64 0,.int .i64 0,.slice none 0 0]]/\i<=r) (r-0) _ ⟨0,rfl,rfl,rfl,rfl,by omega⟩ Qs ?_;rintro q sl h' ms' ⟨i,rfl,rfl,rfl,rfl,hi⟩;refine As (Qm rfl (Am (Ac ?_)));refine Aq rfl (fun hlt=>?_) (fun hlt=>?_)
 ·have hir:i<r:=by omega
  have hiR:i<Rs.length:=by omega
  obtain⟨ri,hri⟩:∃ri,Rs.getD i undef=ri:=⟨_,rfl⟩
  have hRi:=hRs i hir;rw[hri]at hRi;have cR:∀ms,Cell h ms ((AF v).add (i*1)) ri:=fun ms=>(hv.any (ms:=ms)).cell0 hiR (by rw[<-hri];simp[List.getD,hiR,cU]);have rri:Rd h [] ri 1 c ((G4 c (f i)).flatMap cI):=by have:=hRi.rd;rwa [CL]at this
  have ori:=rri.one;refine Ah (Ab (Ac (Ag (As (Qx (BF (i) rv.any rfl Ch Cr rfl rfl) rfl (Ql rfl AU (cR _) (Qm rfl (Gm (Qm rfl (Qm rfl (Qx (Ar rri.any rfl AU rfl) rfl (Qx (I9 rfl rfl rfl) rfl (Qm rfl (Ak (Ai (Ab (Ad (Qx (oA rfl) rfl (Qm rfl (Ak ?_))))))))))))))))))))
  have hmx:max ((if i=0 then 0 else c:Nat):Int) (c:Int)=((if i+1=0 then 0 else c:Nat):Int):=by rw[if_neg (show ¬i+1=0 by omega)];split<;>omega
  rw[hmx];exact Al (r-(i+1)) _ (by omega) ⟨i+1,rfl,rfl,rfl,rfl,by omega⟩ Qs
 ·have hir:i=r:=by omega
  subst hir;rw[if_neg (by omega)];refine Av (Aa (Aa (Af (Ab (As (Qm rfl (Qx (Ar rv.any rfl Ch rfl) rfl (Qm rfl (Qc call129 rfl (Oe i c hr hc h) (fun z h2 ms2 l2 hF=>?_))))))))));obtain⟨rfl,ev,m,rfl,rfl,hO⟩:=hF;have oe:=hO.o1;have re:Rd h [m] ev 2 (i*c) ((replicate (i*c) (0:Int)).flatMap QM):=by have:=(hO.rd (h:=h) (ms:=[m]) Mh).rd;rwa [length_replicate]at this
  refine Cz [.int .i64 0,.int .i64 0,.slice none 0 0] rfl D3 rfl rfl (fun g6=>?_);refine Sa 0 [_,_,_] D3 rfl (by simp[ov,oe]) ?_;refine Am (AC fun h3 l3 hS6=>?_);have e6:∀ms,Cell h3 ms ((⟨g6,0,none⟩:Addr).add 2) ev:=fun ms=>(hS6 2 _ rfl).any;have gS6:∀ms,Seg h3 ms (⟨g6,0,none⟩:Addr) [.int .i64 i,.int .i64 c,ev]:=fun ms=>hS6.any;refine Ac (As (Qf J9 rfl (Ql rfl LD (e6 _) (Qx (D8 re rfl LD rfl) rfl (Qm rfl (Am ?_))))));refine Aq rfl (fun hz=>?_) (fun hz=>?_)
  ·have hz':i*c=0:=by omega
   have hL:replicate (i*c) (0:Int)=Dy i c f:=by have h1:=DC i c f;rw[hz']at h1;rw[hz',List.length_eq_zero_iff.1 h1];rfl
   rw[hL]at hO;refine As (Qx (oG rfl Ow D3 (gS6 _)) rfl ?_);refine Sa 1 [_,_,_] D3 rfl (by simp[ov,oe]) ?_;refine Am (An (Ae ?_));exact By (vs:=[_,_,_]) 1 rfl rfl Ow rfl D3 rfl rfl (⟨l3,ev,m,rfl,rfl,hO⟩)
  ·refine Ah (Ab ?_);have rv3:=rv.le l3;refine Ac (As (Qm rfl (Qx (Ar rv3.any rfl Ch rfl) rfl (Qm rfl (Am (Ag ?_))))))
   refine Ay (fun q sl h' ms'=>∃(k:Nat) (mo:Hp),i-k=q/\sl=[(0,v),(2,.pointer (some ⟨g2,0,none⟩)),(3,.int .i64 c),(6,.pointer (some ⟨g6,0,none⟩)),(31,v),(32,.int .i64 i),(33,.int .i64 k)]/\h3.le h'/\ms'=[mo,Bn g2 106 [.int .i64 0,.int .i64 0,.slice none 0 0]]/\k<=i/\OwnL QM 2 172 mo ev (Dy i c (S8 f k 0))) (i-0) _ ⟨0,_,rfl,rfl,C9,rfl,by omega,by
    have:Dy i c (S8 f 0 0)=replicate (i*c) 0:=by rw[Re];refine BO fun a _ b _=>?_;unfold S8;rw[if_neg (by omega)]
    rw[this];exact hO⟩ Qs ?_
   rintro q sl h' ms' ⟨k,mo,rfl,rfl,lh,rfl,hk,hO⟩;have rv4:=rv3.le lh;refine As (Qm rfl (Am (Ac ?_)));refine Aq rfl (fun hlt=>?_) (fun hlt=>?_)
   ·have hki:k<i:=by omega
    have hkR:k<Rs.length:=by omega
    obtain⟨rk,hrk⟩:∃rk,Rs.getD k undef=rk:=⟨_,rfl⟩
    have hRk:=hRs k hki;rw[hrk]at hRk;have hRk4:=hRk.up (AJ l3 lh);have cR:∀ms,Cell h' ms ((AF v).add (k*1)) rk:=fun ms=>((hv.any (ms:=ms)).cell0 hkR (by rw[<-hrk];simp[List.getD,hkR,cU])).le (AJ l3 lh);have rrk:Rd h' [] rk 1 c ((G4 c (f k)).flatMap cI):=by have:=hRk4.rd;rwa [CL]at this
    have ork:=rrk.one;refine Ah (Ab (Ac (Ag (As (Qm rfl (Qx (BF (k) rv4.any rfl Ch Cr rfl rfl) rfl (Ql rfl AU (cR _) (Qm rfl (Qm rfl (BK (Qm rfl (Qx (Ar rrk.any rfl AU rfl) rfl (Qm rfl (Am (Ag ?_)))))))))))))));refine Ay (fun q sl hh ms'=>∃(t:Nat) (mo:Hp),c-t=q/\sl=[(0,v),(2,.pointer (some ⟨g2,0,none⟩)),(3,.int .i64 c),(6,.pointer (some ⟨g6,0,none⟩)),(31,v),(32,.int .i64 i),(33,.int .i64 k),(7,.int .i64 k),(38,rk),(39,.int .i64 c),(40,.int .i64 t)]/\h'.le hh/\ms'=[mo,Bn g2 106 [.int .i64 0,.int .i64 0,.slice none 0 0]]/\t<=c/\OwnL QM 2 172 mo ev (Dy i c (S8 f k t))) (c-0) _ ⟨0,mo,rfl,rfl,C9,rfl,by omega,hO⟩ Qs ?_;rintro q sl hh ms' ⟨t,mo,rfl,rfl,lhh,rfl,ht,hO⟩;have lhh':=AJ lh lhh;refine As (Qm rfl (Am (Ac ?_)));refine Aq rfl (fun hlt2=>?_) (fun hlt2=>?_)
    ·have htc:t<c:=by omega
     have htv:t<(G4 c (f k)).length:=by rw[CL];exact htc
     have cX:∀ms,Cell hh ms ((AF rk).add (t*1)) (.int .i64 (f k t)):=fun ms=>((hRk4.any (ms:=ms)).cell0 htv (by simp[G4,cI])).le lhh;have e6:∀ms,Cell hh ms ((⟨g6,0,none⟩:Addr).add 2) ev:=fun ms=>(e6 ms).le lhh';have hix:k*c+t<i*c:=OL hki htc;have hcast:(k:Int)*c=((k*c:Nat):Int):=(Int.natCast_mul k c).symm;have reo:Rd hh [mo] ev 2 (i*c) ((Dy i c (S8 f k t)).flatMap QM):=by have:=(hO.rd (h:=hh) (ms:=[mo]) Mh).rd;rwa [DC]at this
     refine Ah (Ab (Ac (Ag (As (Qm rfl (Qx (AE (t) (rrk.le lhh).any rfl AU A6 rfl rfl (by omega) (by omega)) rfl (Ql rfl U3 (cX _) (Qm rfl (Qm rfl (Am (Bc 9 CS (by kernel_rfl) rfl (Wf J9 rfl (Wl rfl LD (e6 _) (Wm rfl (Wm rfl (AR (oM rfl) rfl rfl (Wm rfl (AR (oA rfl) rfl rfl (Wm rfl (AR (AL rfl call126 rfl (VT (f k t) (hb k hki t htc) _ _)) rfl rfl (AY (Qx (BI (k*c+t) reo rfl LD Cv rfl rfl (by omega) (by omega)) rfl ?_))))))))))))))))))))));refine Ee 0 (k*c+t) (f k t) hO rfl Cv rfl rfl rfl (X9 _) rfl (by rw[DC];exact hix) rfl rfl (fun mo' hO'=>?_);rw[Nn _ htc,UZ]at hO';refine Ak (Ai (Ab (Ad (Qx (oA rfl) rfl (Qm rfl (Ak ?_))))));exact Al (c-(t+1)) _ (by omega) ⟨t+1,mo',rfl,rfl,lhh,rfl,by omega,hO'⟩ Qs
    ·have htc:t=c:=by omega
     subst htc;rw[XX]at hO;refine Av (Aa (Aa (Af (Ai (Ab (Ad (Qx (oA rfl) rfl (Qm rfl (Ak ?_)))))))));exact Al (i-(k+1)) _ (by omega) ⟨k+1,mo,rfl,rfl,lhh',rfl,by omega,hO⟩ Qs
   ·have hki:k=i:=by omega
    subst hki;have gS6:∀ms,Seg h' ms (⟨g6,0,none⟩:Addr) [.int .i64 k,.int .i64 c,ev]:=fun ms=>(gS6 ms).le lh;refine Av (Aa (Aa (Af (Ab (As (Qx (oG rfl Ow D3 (gS6 _)) rfl ?_))))));refine Sa 1 [_,_,_] D3 rfl (by simp[ov,oe]) ?_;refine Am (An ?_);have hL:Dy k c (S8 f k 0)=Dy k c f:=BO fun a ha b _=>by unfold S8;rw[if_pos (.inl ha)]
    rw[hL]at hO;exact By (vs:=[_,_,_]) 1 rfl rfl Ow rfl D3 rfl rfl (⟨AJ l3 lh,ev,mo,rfl,rfl,hO⟩)
theorem Lo:∀{U:List Ce},(U.map fun a=>a.c.id).Nodup->∀{x:Ce},x∈U->Bi (Fs U) x.c.id=some x
 | [],_,x,hx=>by cases hx
 | a::U,hn,x,hx=>by
  rw[map_cons,List.nodup_cons]at hn;unfold Bi Fs;rw[map_cons,List.find?_cons];by_cases h:a.c.id=x.c.id
  ·have:a=x:=by
    rcases List.mem_cons.1 hx with e|e
    ·exact e.symm
    ·exact absurd (List.mem_map.2 ⟨x,e,h.symm⟩) hn.1
   subst this;simp
  ·have hx':x∈U:=by
    rcases List.mem_cons.1 hx with e|e
    ·exact absurd (by rw[e]) h
    ·exact e
   have:=Lo hn.2 hx';unfold Bi Fs at this;simp only[h];simpa using this
theorem X0(g:Nat)(U:List Ce)(cf:FuncId)(cs:List Value)(pr:Cl->Bool)(h:Hp)(R:RdT h g U)(hnd:(U.map fun a=>a.c.id).Nodup)(hid:∀a∈U,BH a.c.id)(hn:U.length<=1000000)
  (hc:∀xs w,(callFunc cf xs).run Tryz.prog w=.ok (.enter cf xs) w)
  (hp:∀a∈U,∀h',h.le h'->∀ms,FnV Tryz.prog cf ([]++[Value.agg (cC a).toArray]++cs).toArray h' ms (.bool (pr a.c))) :
  FnT Tryz.prog 80 #[.pointer (some ⟨g,0,none⟩),.func (.func cf) #[] cs.toArray] h [] (fun r h' ms'=>h.le h'/\∃v m,r=.agg #[v]/\ms'=[m]/\OwnL cC 3 52 m v (U.filter fun a=>pr a.c)):=by
 obtain⟨gm,mT,bs,vids,hS,hM,lM,hV,hsd⟩:=R;have ovi:=hV.rd.one;have hVl:(U.map fun a=>a.c.id).length=U.length:=by rw[length_map]
 have rV:Rd h [] vids 1 U.length ((U.map fun a=>a.c.id).flatMap cI):=by have:=hV.rd;rwa [hVl]at this
 have e0:∀ms,Cell h ms ((⟨g,0,none⟩:Addr).add 0) (.map (some gm)):=fun ms=>(hS 0 _ rfl).any;have e1:∀ms,Cell h ms ((⟨g,0,none⟩:Addr).add 1) vids:=fun ms=>(hS 1 _ rfl).any;refine Ap func80 ntmps80 rfl rfl (fun w0 hw0=>?_);simp only[AX];refine As (Cz [.slice none 0 0] rfl AW rfl rfl (fun g4=>BK (Cz [.slice none 0 0] rfl AW rfl rfl (fun g5=>Am (Ac (As (Qm rfl (Qm rfl (Qf NJ rfl (Ql rfl AU (e1 _) (Qx (Ar rV.any rfl AU rfl) rfl (Qm rfl (Am (Ag (BJ ?_)))))))))))))))
 refine Ay (fun q sl h' ms'=>∃(i:Nat) (vo:Value) (mo:Hp),U.length-i=q/\sl=[(0,.pointer (some ⟨g,0,none⟩)),(1,.func (.func cf) #[] cs.toArray),(4,.pointer (some ⟨g4,0,none⟩)),(5,.pointer (some ⟨g5,0,none⟩)),(11,vids),(12,.int .i64 U.length),(13,.int .i64 i)]/\h.le h'/\ms'=[mo,Bn g5 29 [vo],Bn g4 29 [.slice none 0 0]]/\i<=U.length/\OwnL cC 3 52 mo vo ((U.take i).filter fun a=>pr a.c))
  (U.length-0) _ ⟨0,_,Hp.emp,rfl,rfl,C9,rfl,by omega,OwnL.nil Ct⟩ Qs ?_
 rintro q sl h' ms' ⟨i,vo,mo,rfl,rfl,lh,rfl,hi,hO⟩;have e0:∀ms,Cell h' ms ((⟨g,0,none⟩:Addr).add 0) (.map (some gm)):=fun ms=>(e0 ms).le lh;have hV4:=hV.up lh;have rV4:=rV.le lh;have ovo:=hO.o1;refine As (Qm rfl (Am (Ac ?_)));refine Aq rfl (fun hlt=>?_) (fun hlt=>?_)
 ·have hiU:i<U.length:=by omega
  obtain⟨x,hx⟩:∃x,U[i]=x:=⟨_,rfl⟩
  have hxm:x∈U:=by rw[<-hx];exact getElem_mem hiU
  have hxi:=hid x hxm;have oxv:=(hsd x hxm).rd.one;have cI_:∀ms,Cell h' ms ((AF vids).add (i*1)) (.int .i64 x.c.id):=fun ms=>(hV4.any (ms:=ms)).cell0 (j:=i) (by rw[hVl];exact hiU) (by rw[getElem_map,hx];rfl);have hg1:(Bi (Fs U) x.c.id).getD default=x:=by rw[Lo hnd hxm];rfl
  refine Ah (Ab ?_);refine A9 (fun sl h'' ms'=>∃(vo':Value) (mo':Hp),sl=[(0,.pointer (some ⟨g,0,none⟩)),(1,.func (.func cf) #[] cs.toArray),(4,.pointer (some ⟨g4,0,none⟩)),(5,.pointer (some ⟨g5,0,none⟩)),(11,vids),(12,.int .i64 U.length),(13,.int .i64 i)]/\h'=h''/\ms'=[mo',Bn g5 29 [vo'],Bn g4 29 [.slice none 0 0]]/\OwnL cC 3 52 mo' vo' ((U.take (i+1)).filter fun a=>pr a.c)) ?_ (fun s h ms hI=>?_)
  ·have htk:U.take (i+1)=U.take i++[x]:=by rw[<-hx];exact take_succ_eq_append_getElem hiU
   rw[htk,List.filter_append];refine Ag (As (Qx (BF (i) rV4.any rfl AU A6 rfl rfl) rfl (Ql rfl U3 (cI_ _) (Qm rfl (BK (Qm rfl (Qm rfl (Qm rfl (Qf E4 rfl (Ql rfl GJ (e0 _) (Qm rfl (Qx (Cf (V:=vC) (z:=(default:Ce)) (u:=x) x.c.id hg1 Bs hM (AJ lM lh) rfl GJ KR rfl rfl hxi) rfl (Qx (Cj rfl rfl hc rfl (hp x hxm h' lh _)) rfl (Am ?_))))))))))))));refine Bz rfl (fun hpx=>?_) (fun hpx=>?_)
   ·have hf:[x].filter (fun a=>pr a.c)=[x]:=by simp[hpx]
    rw[hf];have hol:((U.take i).filter fun a=>pr a.c).length<=1000000:=Nat.le_trans (List.length_filter_le _ _) (by rw[length_take];omega);refine BG (n:=12) (bs:=[true,false,true,true,true,true,true,true,false,false,true,false]) [true,false,true,true,true,true,true,true,false,false,true] CS (by kernel_rfl) (by kernel_rfl) rfl rfl (QF B8 rfl (Qq rfl (Qq rfl (QF E4 rfl (QL rfl GJ (e0 _) (Qq rfl (Qp rfl (Cf (V:=vC) (z:=(default:Ce)) (u:=x) x.c.id hg1 Bs hM (AJ lM lh) rfl GJ KR rfl rfl hxi) (QF B8 rfl ?_))))))));unfold Ft;simp only[cons_append,nil_append];refine A4 [1,8] (by kernel_rfl) rfl ?_;refine AA rfl ?_ ?_
    ·refine Ql rfl Bh (Cell.blk 1 rfl rfl) (Qw (Qo 8 rfl (Ao [_,_,_] rfl Bh AI rfl (by rfl) rfl rfl (by omega) rfl rfl rfl (fun g33=>Qw (Qo 9 rfl ?_)))));refine Bd 1 hO (RdL.one Ct (x:=x) Mh rfl) rfl Bh AI rfl (by omega) rfl rfl rfl (Di (l:=[x]) (fun y hy=>by rw[List.mem_singleton.1 hy];exact hsd x hxm)) (by simp only[length_singleton];omega) (by simp only[length_singleton];omega) rfl rfl rfl (fun v6 m6 hO6=>?_);have ov6:=hO6.o1;refine Qw (Qo 11 rfl (AS 2 0 rfl JP rfl rfl ov6 rfl rfl (by simp) rfl rfl (Qw (Qe ?_))));refine Ai (AN ?_);exact AD _ ⟨v6,m6,rfl,rfl,rfl,hO6⟩ Qs
    refine AA rfl ?_ ?_
    ·refine Ao [_,_,_] rfl Bh AI rfl (by rfl) rfl rfl (by omega) rfl rfl rfl (fun g33=>Qw (Qo 1 rfl (Ql rfl Bh (Cell.blk 2 rfl rfl) (Qw (Qo 9 rfl ?_)))));refine Bd 1 hO (RdL.one Ct (x:=x) Mh rfl) rfl Bh AI rfl (by omega) rfl rfl rfl (Di (l:=[x]) (fun y hy=>by rw[List.mem_singleton.1 hy];exact hsd x hxm)) (by simp only[length_singleton];omega) (by simp only[length_singleton];omega) rfl rfl rfl (fun v6 m6 hO6=>?_);have ov6:=hO6.o1;refine Qw (Qo 11 rfl (AS 2 0 rfl JP rfl rfl ov6 rfl rfl (by simp) rfl rfl (Qw (Qe ?_))));refine Ai (AN ?_);exact AD _ ⟨v6,m6,rfl,rfl,rfl,hO6⟩ Qs
    exact A5
   ·have hf:[x].filter (fun a=>pr a.c)=[]:=by simp[hpx]
    rw[hf,append_nil];refine Ah (Ai ?_);exact AD _ ⟨vo,mo,rfl,rfl,rfl,hO⟩ Qs
  ·obtain⟨vo',mo',rfl,rfl,rfl,hO'⟩:=hI;refine Ad (Qx (oA rfl) rfl (Qm rfl (Ak ?_)));exact Al (U.length-(i+1)) _ (by omega) ⟨i+1,vo',mo',rfl,rfl,lh,rfl,by omega,hO'⟩ Qs
 ·have hiU:i=U.length:=by omega
  subst hiU;rw[take_length]at hO;refine Av (Aa (Aa (Af (Ab (As (Qx (oG rfl CF AW (Seg.blk 1 rfl)) rfl ?_))))));refine Sa 2 [_] AW rfl (by simp[ovi,ovo]) ?_;refine Am (An (CB 1 rfl (AN ?_)));exact By (vs:=[_]) 1 rfl rfl CF rfl AW rfl rfl (⟨lh,vo,mo,rfl,rfl,hO⟩)
theorem WU(g:Nat)(U:List Ce)(cf:FuncId)(cs:List Value)(pr:Cl->Bool)(h:Hp)(R:RdT h g U)(hnd:(U.map fun a=>a.c.id).Nodup)(hid:∀a∈U,BH a.c.id)(hn:U.length<=1000000)
  (hc:∀xs w,(callFunc cf xs).run Tryz.prog w=.ok (.enter cf xs) w)
  (hp:∀a∈U,∀h',h.le h'->∀ms,FnV Tryz.prog cf ([]++[Value.agg (cC a).toArray]++cs).toArray h' ms (.bool (pr a.c))) :
  FnT Tryz.prog 132 #[.pointer (some ⟨g,0,none⟩),.func (.func cf) #[] cs.toArray] h [] (fun r h' ms'=>h.le h'/\∃m,ms'=[m]/\OwnL cI 1 3 m r ((U.filter fun a=>pr a.c).map fun a=>a.c.id)):=by
 refine Ap func132 ntmps132 rfl rfl (fun w0 hw0=>?_);simp only[AX];refine As (Qm rfl (BK (Qm rfl (Am (Ac (As (Qm rfl (Qm rfl (Qc call80 rfl (X0 g U cf cs pr h R hnd hid hn hc hp) (fun r h1 ms1 l1 hF=>?_))))))))));obtain⟨l1',v,m,rfl,rfl,hO⟩:=hF;refine BA hO fun h2 l2 hQ=>?_;obtain⟨W,hW⟩:∃W,(U.filter fun a=>pr a.c)=W:=⟨_,rfl⟩
 rw[hW]at hQ;have hWl:W.length<=1000000:=by rw[<-hW];exact Nat.le_trans (List.length_filter_le _ _) hn
 have hov:∀x∈W,x.v.oneCell'=true:=fun x hx=>by obtain⟨gm,mT,bs,vids,hS,hM,lM,hV,hsd⟩:=R;rw[<-hW]at hx;exact(hsd x (List.mem_filter.1 hx).1).rd.one
 have ov:=hQ.rd.one;refine Qx (DD rfl CF rfl Bh rfl rfl rfl) rfl (Qx (Ar hQ.rd.any rfl Bh rfl) rfl (Qm rfl (Am (Ag (BJ ?_)))))
 refine Ay (fun q sl h' ms'=>∃(i:Nat) (vo:Value) (mo:Hp),W.length-i=q/\sl=[(5,vo),(11,v),(12,.int .i64 W.length),(13,.int .i64 i)]/\h2.le h'/\ms'=[mo]/\i<=W.length/\OwnL cI 1 3 mo vo ((W.take i).map fun a=>a.c.id))
  (W.length-0) _ ⟨0,_,Hp.emp,rfl,rfl,C9,rfl,by omega,OwnL.nil Bg⟩ Qs ?_
 rintro q sl h' ms' ⟨i,vo,mo,rfl,rfl,lh,rfl,hi,hO⟩;have hQ4:=hQ.up lh;have ovo:=hO.o1;refine As (Qm rfl (Am (Ac ?_)));refine Aq rfl (fun hlt=>?_) (fun hlt=>?_)
 ·have hiW:i<W.length:=by omega
  obtain⟨x,hx⟩:∃x,W[i]=x:=⟨_,rfl⟩
  have oxv:=hov x (by rw[<-hx];exact getElem_mem hiW);have gX:∀ms,Seg h' ms ((AF v).add (i*3)) (cC x):=fun ms=>by rw[<-hx];exact(hQ4.any (ms:=ms)).seg hiW
  have htk:(W.take (i+1)).map (fun a=>a.c.id)=(W.take i).map (fun a=>a.c.id)++[x.c.id]:=by rw[take_succ_eq_append_getElem hiW,map_append,hx];rfl
  have hol:((W.take i).map fun a=>a.c.id).length<=1000000:=by rw[length_map,length_take];omega
  refine Ah (Ab (Ac (Ag (As (Qx (BF (i) hQ4.rd.any rfl Bh AI rfl rfl) rfl (Qx (oG rfl Ef AI (gX _)) rfl (Cz [.int .i64 0,.int .i64 0,.slice none 0 0] rfl AI rfl rfl (fun g7=>?_))))))));refine Sa 0 [_,_,_] AI rfl (by simp[ov,ovo,oxv]) ?_;refine Gm (Qm rfl (Qf Bt rfl (Ql rfl U3 (Cell.blk 0 rfl rfl) (Ao [_] rfl AU A6 rfl (by rfl) rfl rfl (by omega) rfl rfl rfl (fun g20=>AO 2 hO (RdL.one Bg (x:=x.c.id) Mh rfl) rfl AU A6 rfl (by omega) rfl rfl rfl Cb (by simp only[length_singleton];omega) (by simp only[length_singleton];omega) rfl rfl rfl (fun v6 m6 hO6=>?_))))));rw[<-htk]at hO6;have ov6:=hO6.o1;refine Qm rfl (Ak (Ai (Ab (Ad (Qx (oA rfl) rfl (Qm rfl (Ak ?_)))))));refine AN (AN ?_);exact Al (W.length-(i+1)) _ (by omega) ⟨i+1,v6,m6,rfl,rfl,lh,rfl,by omega,hO6⟩ Qs
 ·have hiW:i=W.length:=by omega
  subst hiW;rw[take_length]at hO;refine Av (Aa (Aa (Af (Ab (As (Qm rfl (Qm rfl (Am (An ?_)))))))));exact Az rfl rfl (⟨AJ l1' (AJ l2 lh),mo,rfl,by rw[hW];exact hO⟩)
theorem Ye(x:Ce)(gd:Nat)(d:Int)(h:Hp)(hD:∀ms,Cell h ms (⟨gd,0,none⟩:Addr) (.int .i64 d))(ox:x.v.oneCell'=true) :
  FnT Tryz.prog 133 #[.agg (cC x).toArray,.pointer (some ⟨gd,0,none⟩)] h [] (fun r _ _=>r=.bool (decide (x.c.dim=d))):=by
 refine Ap func133 ntmps133 rfl rfl (fun w0 hw0=>?_);simp only[AX];refine As (AV [_,_,_] rfl rfl (by rfl) rfl rfl rfl (fun g2=>Qm rfl (Am (AC fun h1 l1 hS=>?_))));have e1:∀ms,Cell h1 ms ((⟨g2,0,none⟩:Addr).add 1) (.int .i64 x.c.dim):=fun ms=>(hS 1 _ rfl).any;have e2:∀ms,Cell h1 ms (⟨gd,0,none⟩:Addr) (.int .i64 d):=fun ms=>(hD ms).le l1;refine As (Qf BY rfl (Ql rfl U3 (e1 _) (Ql rfl U3 (e2 _) (Qm rfl (Qm rfl (Am (An ?_)))))));exact Az rfl rfl (rfl)
theorem Nu(l:List Ce)(v:Value)(d:Int)(hp:Hp)(hK:RgC l)(hR:RdC hp v l) :
  FnT Tryz.prog 63 #[.agg #[v],.int .i64 d] hp [] (fun r h' ms'=>hp.le h'/\∃m,ms'=[m]/\OwnL cI 1 3 m r (((cn l).filter fun c=>decide (c.dim=d)).map Cl.id)):=by
 have ov:=hR.q.rd.one;refine Ap func63 ntmps63 rfl rfl (fun w0 hw0=>?_);simp only[AX];refine As (AV [_] rfl rfl (by rfl) rfl rfl rfl (fun g2=>AV [_] rfl rfl (by rfl) rfl rfl rfl (fun g3=>Qm rfl (Am (Bm 1 rfl fun h1 l1 hS2=>(AC fun h2 l2 hS3=>?_))))));have hR2:=(hR.up l1).up l2;have gS2:∀ms,Seg h2 ms (⟨g2,0,none⟩:Addr) [v]:=fun ms=>(hS2.le l2).any;refine As (Qx (oG rfl CF AW (gS2 _)) rfl (Qc call64 rfl (Nv l v h2 hK hR2) (fun r h3 ms3 l3 hF=>?_)));obtain⟨l3',rfl,g,A,rfl,hA,hT⟩:=hF;have hO:=hK.pc.toOfOk;have hAl:A.length=l.length:=by have:=congrArg List.length hA;rwa [length_map,Ds]at this
 have hAid:(A.map fun a=>a.c.id)=(cn l).map Cl.id:=by rw[<-hA,map_map];rfl
 have hnd:(A.map fun a=>a.c.id).Nodup:=by rw[hAid];exact hK.F.rgt.nd
 have hid:∀a∈A,BH a.c.id:=fun a ha=>by
  have h1:a.c∈cn l:=by rw[<-hA];exact List.mem_map.2 ⟨a,ha,rfl⟩
  exact hK.cI h1
 have hov:∀a∈A,a.v.oneCell'=true:=fun a ha=>by obtain⟨gm,mT,bs,vids,hS,hM,lM,hV,hsd⟩:=hT;exact(hsd a ha).rd.one
 have eD:∀h',h3.le h'->∀ms,Cell h' ms (⟨g3,0,none⟩:Addr) (.int .i64 d):=fun h' lh ms=>((hS3 0 _ rfl).any.le l3').le lh;refine Qx (BW rfl rfl rfl) rfl ?_;refine Qc call132 rfl (WU g A 133 [.pointer (some ⟨g3,0,none⟩)] (fun c=>decide (c.dim=d)) h3 hT hnd hid (by rw[hAl];exact hO.n) call133 (fun a ha h' lh ms=>EO (Ye a g3 d h' (eD h' lh) (hov a ha)) ms)) (fun r h4 ms4 l4 hF=>?_);obtain⟨l4',m,rfl,hOm⟩:=hF
 have e:(A.filter fun a=>decide (a.c.dim=d)).map (fun a=>a.c.id)=((cn l).filter fun c=>decide (c.dim=d)).map Cl.id:=by rw[<-hA,List.filter_map,map_map];rfl
 rw[e]at hOm;refine Qm rfl (Am (An ?_));exact Az rfl rfl (⟨AJ l1 (AJ l2 (AJ l3' l4')),m,rfl,hOm⟩)
theorem ZT(A:List Ce)(j:Nat)(hj:j<(Fs A).length):(Fs A)[j].2=A[j]'(by unfold Fs at hj;rwa [length_map]at hj):=by simp only[Fs,getElem_map]
def K2(o:List Cl)(D:Int):Prop:=-1<=D/\(∀c∈o,c.dim<=D)/\(D=-1\/∃c∈o,c.dim=D)
theorem V2(l:List Ce)(v:Value)(hp:Hp)(hK:RgC l)(hR:RdC hp v l) :
  FnT Tryz.prog 61 #[.agg #[v]] hp [] (fun r h' ms'=>hp.le h'/\ms'=[]/\∃D,r=.int .i64 D/\K2 (cn l) D):=by
 have ov:=hR.q.rd.one;refine Ap func61 ntmps61 rfl rfl (fun w0 hw0=>?_);simp only[AX];refine As (AV [_] rfl rfl (by rfl) rfl rfl rfl (fun g1=>Qm rfl (Am (AC fun h1 l1 hS1=>?_))));have hR1:=hR.up l1;have gS1:∀ms,Seg h1 ms (⟨g1,0,none⟩:Addr) [v]:=fun ms=>hS1.any;refine As (Qm rfl (Am (Ac (As (Qx (oG rfl CF AW (gS1 _)) rfl (Qc call64 rfl (Nv l v h1 hK hR1) (fun r h3 ms3 l3 hF=>?_)))))));obtain⟨l3',rfl,g,A,rfl,hA,gm,mT,bs,vids,hS,hM,lM,hV,hsd⟩:=hF;have e0:∀ms,Cell h3 ms ((⟨g,0,none⟩:Addr).add 0) (.map (some gm)):=fun ms=>(hS 0 _ rfl).any;have hTl:(Fs A).length=A.length:=by unfold Fs;rw[length_map]
 refine Qm rfl (Qf E4 rfl (Ql rfl GJ (e0 _) (Jf hM lM rfl GJ rfl rfl rfl rfl (fun gi mi0 I0=>Am (Ag ?_)))))
 refine Ay (fun q sl h' ms'=>∃(vis:List Nat) (mi:Hp) (D:Int),A.length-vis.length=q/\sl=[(3,.int .i64 D),(11,.pointer (some ⟨gi,0,none⟩))]/\h3=h'/\ms'=[mi]/\HI gi gm mT mi bs vis/\-1<=D/\(∀j (hj:j<A.length),j∈vis->A[j].c.dim<=D)/\(D=-1\/∃a∈A,a.c.dim=D))
  (A.length-0) _ ⟨[],mi0,-1,rfl,rfl,rfl,rfl,I0,by omega,fun j hj h=>(nomatch h),.inl rfl⟩ Qs ?_
 rintro q sl h' ms' ⟨vis,mi,D,rfl,rfl,rfl,rfl,I,hD1,hDv,hDe⟩;refine As ?_;refine Lg 0 hM I lM rfl rfl rfl rfl rfl rfl (fun hall=>?_) (fun j hj mi' hjv I'=>?_)
 ·refine Qm rfl (Am (Ac (AP rfl (Av (Aa (Aa (Af (Ab (As (Qm rfl (Qm rfl (Am (An (AN ?_))))))))))))));exact Az rfl rfl (⟨AJ l1 l3',rfl,D,rfl,hD1,fun c hc=>by rw[<-hA]at hc;obtain⟨a,ha,rfl⟩:=List.mem_map.1 hc;obtain⟨j,hj,rfl⟩:=List.mem_iff_getElem.1 ha;exact hDv j hj (hall j (by rw[hTl];exact hj)),by rcases hDe with h|⟨a,ha,h⟩;exact .inl h;exact .inr ⟨a.c,by rw[<-hA];exact List.mem_map.2 ⟨a,ha,rfl⟩,h⟩⟩)
 ·have hjA:j<A.length:=by omega
  have hTj:(Fs A)[j].2=A[j]:=ZT A j hj;obtain⟨x,hx⟩:∃x,A[j]=x:=⟨_,rfl⟩
  have hxm:x∈A:=by rw[<-hx];exact getElem_mem hjA
  have oxv:=(hsd x hxm).rd.one;refine Qm rfl (Am (Ac (BE rfl (Ah (Ab (Ag (As (Qx (Jo hM I' lM (by simp) hj rfl rfl) rfl ?_))))))));rw[hTj,hx];refine Qm rfl (Cz [.int .i64 0,.int .i64 0,.slice none 0 0] rfl AI rfl rfl (fun g5=>?_));refine Sa 0 [_,_,_] AI rfl (by simp[ov,oxv]) ?_;refine Gm (Qm rfl (Qf BY rfl (Ql rfl U3 (Cell.blk 0 rfl rfl) (Qx (I9 rfl rfl rfl) rfl (Qm rfl (Ak (Ai (AN ?_))))))));refine Al (A.length-(vis.length+1)) _ ?_ ⟨vis++[j],mi',max D x.c.dim,by simp,rfl,rfl,rfl,I',by omega,fun i hi' hv=>?_,?_⟩ Qs
  ·have hlt:vis.length<(Fs A).length:=by
    have h1:=Go.Kuhn.nodup_le (vis++[j]) (range (Fs A).length) I'.nodup fun x hx=>by rw[List.mem_range,<-hM.len];exact I'.lt x hx
    simp at h1;omega
   omega
  ·rcases List.mem_append.1 hv with hv|hv
   ·have:=hDv i hi' hv;omega
   ·simp at hv;subst hv;rw[hx];omega
  ·rcases (by omega:max D x.c.dim=D\/max D x.c.dim=x.c.dim) with e|e
   ·rw[e];exact hDe
   ·rw[e];exact .inr ⟨x,hxm,rfl⟩
end Go.Proofs.Q

namespace Go.Proofs.Q
open Go.Eng Go.RowKit Go.Lin Go.Sort Go.Srt
def UM(o:List Cl)(c:Int):List Int:=(Gg o c).sd.map Prod.fst
open Classical in
noncomputable def Uo(o:List Cl)(c:Int):List Int:=(o.map Cl.id).filter fun x=>decide (Rch (UM o) c x)
theorem cloL_mem{o:List Cl}{c x:Int}:x∈Uo o c<->x∈o.map Cl.id/\Rch (UM o) c x:=by
 classical
 unfold Uo;rw[List.mem_filter,decide_eq_true_iff]
end Go.Proofs.Q
namespace Go.Proofs.Q
open Go.Eng Go.RowKit Go.Lin
variable {o:List Cl} {j i:Nat}
def sgn(sd:List (Int×Int))(c:Int):Int:=(sd.map fun s=>if s.1=c then s.2 else 0).sum
theorem HA(c:Int):sgn [] c=0:=rfl
theorem Ik(s:Int×Int)(sd:List (Int×Int))(c:Int):sgn (s::sd) c=(if s.1=c then s.2 else 0)+sgn sd c:=by unfold sgn;rw[map_cons,sum_cons]
theorem Kw(s:Int×Int)(sd:List (Int×Int))(c:Int):sgn (sd++[s]) c=sgn sd c+if s.1=c then s.2 else 0:=by unfold sgn;simp
theorem K0{c:Int}:∀{sd:List (Int×Int)},(∀s∈sd,s.1≠c)->sgn sd c=0
 | [],_=>rfl
 | s::sd,h=>by rw[Ik,if_neg (h s Mh),K0 fun s hs=>h s (List.Mem.tail _ hs)];rfl
theorem Na{c:Int}{sd:List (Int×Int)}(h:sgn sd c≠0):∃s∈sd,s.1=c:=Classical.byContradiction fun q=>h (K0 fun s hs e=>q ⟨s,hs,e⟩)
def DM(o:List Cl)(i j:Nat):Int:=sgn (o.getD j default).sd (o.getD i default).id
def Pr(o:List Cl)(c:Int):Nat:=(o.map Cl.id).idxOf c
theorem Hr{y:Cl}(hy:y∈o)(hn:(o.map Cl.id).Nodup):Pr o y.id<o.length/\o.getD (Pr o y.id) default=y:=by
 have hm:y.id∈o.map Cl.id:=List.mem_map.2 ⟨y,hy,rfl⟩;have hlt:=List.idxOf_lt_length_of_mem hm;have h1:Pr o y.id<o.length:=by unfold Pr;simpa using hlt
 refine⟨h1,?_⟩;rw[show o.getD (Pr o y.id) default=o[Pr o y.id] by simp[List.getD,h1]]
 have h2:(o[Pr o y.id]).id=y.id:=by have:=List.getElem_idxOf hlt;rw[getElem_map]at this;exact this
 have h3:=CP hn (getElem_mem h1);rw[h2,CP hn hy]at h3;exact h3.symm
theorem Lq(hn:(o.map Cl.id).Nodup)(hi:i<o.length)(hj:j<o.length)(h:(o.getD i default).id=(o.getD j default).id):i=j:=by
 rw[show o.getD i default=o[i] by simp[List.getD,hi],show o.getD j default=o[j] by simp[List.getD,hj]]at h;have hp:=List.pairwise_iff_getElem.1 hn;rcases Nat.lt_trichotomy i j with h1|h1|h1
 ·have:=hp i j (by simpa using hi) (by simpa using hj) h1;simp only[getElem_map]at this;exact absurd h this
 ·exact h1
 ·have:=hp j i (by simpa using hj) (by simpa using hi) h1;simp only[getElem_map]at this;exact absurd h.symm this
theorem VW(hn:(o.map Cl.id).Nodup)(g:Nat->Int):∀sd:List (Int×Int),(∀s∈sd,∃y∈o,y.id=s.1)->sm o.length (fun k=>g k*sgn sd (o.getD k default).id)=(sd.map fun s=>s.2*g (Pr o s.1)).sum
 | [],_=>by rw[List.map_nil];exact GS fun i _=>by rw[HA,Int.mul_zero]
 | s::sd,h=>by
  obtain⟨y,hy,e⟩:=h s Mh;obtain⟨h1,h2⟩:=Hr hy hn;rw[e]at h1 h2;rw[map_cons,sum_cons,<-VW hn g sd fun s hs=>h s (List.Mem.tail _ hs),Bk (g:=fun k=>g k*(if s.1=(o.getD k default).id then s.2 else 0)+g k*sgn sd (o.getD k default).id) fun k _=>by rw[Ik,Int.mul_add],GP];congr 1;rw[Gh o.length (Pr o s.1) _ h1 fun k hk hne=>?_]
  ·rw[h2,if_pos e.symm,Int.mul_comm]
  ·rw[if_neg,Int.mul_zero];intro e2;refine hne (Lq hn hk h1 ?_);rw[h2,e,e2]
theorem Kf(L:Int->List (Int×Int))(c:Int):∀s:List (Int×Int),D1 (KV L s) c=(s.map fun a=>a.2*sgn (L a.1) c).sum
 | []=>rfl
 | a::s=>by
  have ih:=Kf L c s;unfold D1 KV at *;rw[List.flatMap_cons,map_append,List.sum_append,ih,map_cons,sum_cons];congr 1
  have:∀l:List (Int×Int),((l.map fun r=>(a.1,r.1,a.2*r.2)).map fun(e:Int×Int×Int)=>if e.2.1=c then e.2.2 else 0).sum=a.2*sgn l c:=fun l=>by
   induction l with
   | nil=>simp[sgn]
   | cons r l ih=>
    rw[map_cons,map_cons,sum_cons,ih,Ik,Int.mul_add];congr 1;show(if r.1=c then a.2*r.2 else 0)=_;split
    ·rfl
    ·rw[Int.mul_zero]
  exact this _
theorem OH{α:Type}{h:α->Int}:∀{l:List α},(∀s∈l,h s=0)->(l.map h).sum=0
 | [],_=>rfl
 | a::l,hl=>by rw[map_cons,sum_cons,hl a Mh,OH fun s hs=>hl s (List.Mem.tail _ hs)];rfl
theorem DV(hj:j<o.length):o.getD j default∈o:=by rw[show o.getD j default=o[j] by simp[List.getD,hj]];exact getElem_mem hj
theorem DM2(R:Rgt o)(hj:j<o.length):Fq o.length (DM o) (fun k=>DM o k j) i=0:=by
 obtain⟨x,hx⟩:∃x,o.getD j default=x:=⟨_,rfl⟩
 have hxm:x∈o:=by rw[<-hx];exact DV hj
 obtain⟨c,hc⟩:∃c,(o.getD i default).id=c:=⟨_,rfl⟩
 have hs:∀s∈x.sd,∃y∈o,y.id=s.1:=fun s hs=>by obtain⟨y,hy,e,_⟩:=R.sid x hxm s hs;exact⟨y,hy,e⟩
 have e1:Fq o.length (DM o) (fun k=>DM o k j) i=(x.sd.map fun s=>s.2*DM o i (Pr o s.1)).sum:=by rw[<-VW R.nd (fun k=>DM o i k) x.sd hs];unfold Fq;exact Bk fun k _=>by unfold DM;rw[hx]
 have e2:(x.sd.map fun s=>s.2*DM o i (Pr o s.1)).sum=D1 (Fu o x) c:=by unfold Fu;rw[Kf];congr 1;refine List.map_congr_left fun s hs'=>?_;obtain⟨y,hy,e⟩:=hs s hs';obtain⟨h1,h2⟩:=Hr hy R.nd;unfold DM;rw[hc,<-e,h2,CP R.nd hy]
 rw[e1,e2];have hd:=R.dim x hxm;rcases (by omega:2<=x.dim\/x.dim=1\/x.dim=0) with h|h|h
 ·by_cases he:∃e∈Fu o x,e.2.1=c
  ·obtain⟨e,he,rfl⟩:=he;exact(R.tab x hxm h).sum e he
  ·exact(L3 fun e he' q=>he ⟨e,he',q⟩).1
 ·unfold Fu;rw[Kf]
  have:∀s∈x.sd,s.2*sgn (Gg o s.1).sd c=0:=fun s hs'=>by obtain⟨y,hy,e,hyd⟩:=R.sid x hxm s hs';rw[<-e,CP R.nd hy];have hnum:=R.num y hy;unfold BV at hnum;have:y.sd=[]:=List.length_eq_zero_iff.1 (by omega);rw[this,HA,Int.mul_zero]
  exact OH this
 ·have hnum:=R.num x hxm;unfold BV at hnum;have:x.sd=[]:=List.length_eq_zero_iff.1 (by omega);unfold Fu;rw[this];rfl
theorem Aas(R:Rgt o)(hi:i<o.length)(hj:j<o.length)(h:DM o i j≠0):(o.getD j default).dim=(o.getD i default).dim+1:=by obtain⟨s,hs,e⟩:=Na h;obtain⟨y,hy,e1,e2⟩:=R.sid _ (DV hj) s hs;obtain⟨h1,h2⟩:=Hr hy R.nd;have h3:Pr o y.id=i:=Lq R.nd h1 hi (by rw[h2,e1,e]);rw[<-h3,h2,e2];omega
end Go.Proofs.Q
namespace Go.Proofs.Q
open Go.Proofs.Tryz
open Go.Eng Go.RowKit Go.Lin
def Shp(v:Value)(n:Nat):Prop:=(v=.slice none 0 0/\n=0)\/∃g c,v=.slice (some ⟨g,0,none⟩) n c
theorem R5{α:Type}{F:α->List Value}{sz:Nat}{el:TypeId}{m:Hp}{v:Value}{l:List α}(O:OwnL F sz el m v l):Shp v l.length:=by
 obtain⟨⟨_,h⟩,_⟩:=O;rcases h with ⟨h1,h2,_⟩|⟨g,cap,spare,h1,_⟩
 ·exact .inl ⟨h1,h2⟩
 ·exact .inr ⟨g,cap,h1⟩
theorem Abi(zs:List Int)(v:Value)(x:Int)(h:Hp)(hR:RdL cI 1 h [] v zs)(hv:Shp v zs.length)(hs:zs.Pairwise (·<=·))(hn:zs.length<=1000000)(ms:List Hp) :
  FnV Tryz.prog 130 #[v,.int .i64 x] h ms (.tuple #[.int .i64 ((zs.countP (·<x):Nat):Int),.bool (zs.contains x)]):=by
 intro w hw;rcases hv with ⟨rfl,h0⟩|⟨g,c,rfl⟩
 ·obtain rfl:zs=[]:=List.length_eq_zero_iff.1 h0;exact(Tryz.slices_BinarySearch_int_empty none 0 x w).mono fun e w' ⟨h1,h2⟩=>⟨by rw[h1];rfl,by rw[h2];exact Ext.refl _⟩
 ·refine(Tryz.slices_BinarySearch_int g 0 zs.length c zs x w (Nat.le_refl _) (by omega) (fun j hj=>?_) (by rw[take_length];exact hs)).mono fun e w' ⟨h1,q,h2⟩=>⟨by rw[h1,take_length],by rw[h2];exact⟨rfl,⟨rfl,Nat.le_add_right _ _⟩,rfl,Nat.le_refl _,fun _ _=>rfl⟩⟩
  have hc:=(hR.any (ms:=ms)).cell0 hj (u:=.int .i64 zs[j]) rfl;have:=hw.cell hc;rw[show(AF (.slice (some ⟨g,0,none⟩) zs.length c)).add (j*1)=(⟨g,0+j,none⟩:Addr) by simp only[AF,Addr.add,Nat.mul_one];split<;>simp_all]at this;simpa[List.getD,hj] using this
theorem O7:∀{zs:List Int},zs.Pairwise (· < ·)->∀{x:Int} {i:Nat} (hi:i<zs.length),zs[i]=x->zs.countP (·<x)=i
 | [],_,x,i,hi,_=>by simp at hi
 | a::zs,hp,x,i,hi,he=>by
  rw[pairwise_cons]at hp;cases i with
  | zero=>
   simp at he;subst he;rw[List.countP_cons,if_neg (by simp)];rw[List.countP_eq_zero.2 fun b hb=>by have:=hp.1 b hb;simp;omega]
  | succ i=>
   have hi':i<zs.length:=by simpa using hi
   have he':zs[i]=x:=by simpa using he
   have:=hp.1 _ (getElem_mem hi');rw[List.countP_cons,if_pos (by simp;omega),O7 hp.2 hi' he']
end Go.Proofs.Q

namespace Go.Proofs.Q
open Go.Eng Go.RowKit Go.Lin
theorem Mj{a b c:Hp}(h:a.disj b):a.join (b.join c)=b.join (a.join c):=by rw[<-Hp.join_assoc,<-Hp.join_assoc,Hp.join_comm h]
theorem ColsO.at_:∀{vs:List Value} {cs:List (List Int)} {m:Hp},ColsO m vs cs->∀{i:Nat} (hv:i<vs.length) (hc:i<cs.length),∃a b,m=a.join b/\a.disj b/\OwnL cI 1 3 a vs[i] cs[i]/\∀a' c',a'.disj b->OwnL cI 1 3 a' vs[i] c'->ColsO (a'.join b) vs (cs.set i c')
 | [],_,_,_,i,hv,_=>by simp at hv
 | _::_,[],_,h,_,_,_=>h.elim
 | v::vs,c::cs,m,⟨a,b,e,hd,O,C⟩,0,_,_=>⟨a,b,e,hd,O,fun a' c' hd' O'=>⟨a',b,rfl,hd',O',C⟩⟩
 | v::vs,c::cs,m,⟨a0,b0,e,hd,O,C⟩,i+1,hv,hc=>by
  obtain⟨a,b,e2,hd2,O2,K⟩:=C.at_ (i:=i) (by simpa using hv) (by simpa using hc);subst e2;obtain⟨h0a,h0b⟩:=Hp.disj_of_join hd;refine⟨a,a0.join b,by rw[e];exact Mj h0a,?_,O2,fun a' c' hd' O'=>?_⟩
  ·exact Hp.disj_symm (Hp.disj_join h0a (Hp.disj_symm hd2))
  ·obtain⟨k0,kb⟩:=Hp.disj_of_join hd';refine⟨a0,a'.join b,Mj k0,?_,O,K a' c' kb O'⟩;exact Hp.disj_symm (Hp.disj_join k0 (Hp.disj_symm h0b))
variable {r c k:Nat} {B:Nat->Nat->Int} {sd:List (Int×Int)} {rows:List Int}
def DH(B:Nat->Nat->Int)(sd:List (Int×Int))(rows:List Int)(k j i b:Nat):Int:=if b<k then B i b else if b=k then sgn (sd.take j) (rows.getD i 0) else 0
def CM(r c:Nat)(F:Nat->Nat->Int):List (List Int):=(range r).map fun i=>G4 c (F i)
theorem En(r c:Nat)(F:Nat->Nat->Int):(CM r c F).length=r:=by simp[CM]
theorem EE{F G:Nat->Nat->Int}(h:∀i,i<r->∀b,b<c->F i b=G i b):CM r c F=CM r c G:=by unfold CM;refine List.map_congr_left fun i hi=>Md fun b hb=>h i (List.mem_range.1 hi) b hb
theorem P0(r c:Nat)(B:Nat->Nat->Int)(sd:List (Int×Int))(rows:List Int):CM r c (DH B sd rows 0 0)=replicate r (replicate c 0):=by
 have h1:CM r c (DH B sd rows 0 0)=CM r c fun _ _=>0:=EE fun i _ b _=>by unfold DH;rw[if_neg (by omega),take_zero,HA,ite_self]
 rw[h1];unfold CM G4;rw[List.map_const',length_range,List.map_const',length_range]
theorem JH{sd':List (Int×Int)}:CM r c (DH B sd rows k 0)=CM r c (DH B sd' rows k 0):=
 EE fun i _ b _=>by unfold DH;rw[take_zero,take_zero]
theorem QH(hB:∀i,i<r->B i k=sgn sd (rows.getD i 0)):CM r c (DH B sd rows k sd.length)=CM r c (DH B sd rows (k+1) 0):=
 EE fun i hi b _=>by
  unfold DH;rw[take_length,take_zero,HA,ite_self];by_cases h1:b<k
  ·rw[if_pos h1,if_pos (by omega)]
  ·by_cases h2:b=k
   ·subst h2;rw[if_neg h1,if_pos rfl,if_pos (by omega),hB i hi]
   ·rw[if_neg h1,if_neg h2,if_neg (by omega)]
theorem Ts:CM r c (DH B sd rows c 0)=CM r c B:=
 EE fun i _ b hb=>by unfold DH;rw[if_pos hb]
theorem UI{j:Nat}(hr:rows.length=r)(hj:j<sd.length)(h:sd[j].1 ∉ rows):CM r c (DH B sd rows k (j+1))=CM r c (DH B sd rows k j):=
 EE fun i hi b _=>by
  unfold DH;have hi':i<rows.length:=by omega
  have hne:¬sd[j].1=rows.getD i 0:=fun e=>h (by rw[e];simp[List.getD,hi']);rw[take_succ_eq_append_getElem hj,Kw,if_neg hne,Int.add_zero]
theorem TR{j i0:Nat}(hr:rows.length=r)(hn:rows.Nodup)(hj:j<sd.length)(hi0:i0<r)(hk:k<c)(h:rows[i0]'(by omega)=sd[j].1) :
  CM r c (DH B sd rows k (j+1))=(CM r c (DH B sd rows k j)).set i0 ((G4 c (DH B sd rows k j i0)).set k (DH B sd rows k j i0 k+sd[j].2)):=by
 refine List.ext_getElem (by rw[List.length_set,En,En]) fun i h1 h2=>?_;have hi:i<r:=by rwa [En]at h1
 have hi':i<rows.length:=by omega
 rw[List.getElem_set];have e1:∀(F:Nat->Nat->Int) (h:i<(CM r c F).length),(CM r c F)[i]=G4 c (F i):=fun F h=>by simp[CM]
 have es:sgn (sd.take (j+1)) (rows.getD i 0)=sgn (sd.take j) (rows.getD i 0)+if sd[j].1=rows.getD i 0 then sd[j].2 else 0:=by rw[take_succ_eq_append_getElem hj,Kw]
 have eg:rows.getD i 0=rows[i]:=by simp[List.getD,hi']
 split
 ·rename_i e;subst e;rw[e1];refine List.ext_getElem (by simp[G4]) fun b hb1 hb2=>?_;rw[List.getElem_set];have hbc:b<c:=by simpa[G4] using hb1
  have ev:∀(F:Nat->Int) (h:b<(G4 c F).length),(G4 c F)[b]=F b:=fun F h=>by simp[G4]
  rw[ev];split
  ·rename_i e;subst e;unfold DH;rw[if_neg (by omega),if_pos rfl,if_neg (by omega),if_pos rfl,es,eg,if_pos h.symm]
  ·rename_i e;rw[ev];unfold DH;rw[if_neg (show ¬b=k from fun q=>e q.symm),if_neg (show ¬b=k from fun q=>e q.symm)]
 ·rename_i e;rw[e1,e1];refine Md fun b hb=>?_;unfold DH
  have hne:¬sd[j].1=rows.getD i 0:=fun q=>e (by
   rw[<-h,eg]at q
   exact(List.getElem_inj hn).1 q)
  rw[es,if_neg hne,Int.add_zero]
end Go.Proofs.Q

namespace Go.Proofs.Q
open Go.Proofs.Tryz
open Go.Eng Go.RowKit Go.Lin
def BC(o:List Cl)(d:Int):List Int:=(o.filter fun c=>decide (c.dim=d)).map Cl.id
theorem FT(o:List Cl)(d:Int):(BC o d).length<=o.length:=by unfold BC;rw[length_map];exact List.length_filter_le _ _
theorem Wn{o:List Cl}(h:RgtF o)(d:Int):(BC o d).Pairwise (· < ·):=by unfold BC;rw[List.pairwise_map];exact h.inc.sublist List.filter_sublist
theorem RE:∀l:List Value,l.flatMap cU=l
 | []=>rfl
 | a::l=>by rw[List.flatMap_cons,RE l];rfl
theorem Nh:∀(sd:List (Int×Int)) (c:Int),(∀s∈sd,s.2=1\/s.2=-1)->-(sd.length:Int)<=sgn sd c/\sgn sd c<=sd.length
 | [],c,_=>by rw[HA];simp
 | s::sd,c,h=>by have ih:=Nh sd c fun s hs=>h s (List.mem_cons_of_mem _ hs);have h1:=h s List.mem_cons_self;rw[Ik,List.length_cons];split<;>omega
def Ie(o:List Cl)(d:Int)(i k:Nat):Int:=sgn (Gg o ((BC o d).getD k 0)).sd ((BC o (d-1)).getD i 0)
theorem Sn(l:List Ce)(v:Value)(d:Int)(hd:-5<=d/\d<=1000)(hp:Hp)(hK:RgC l)(hR:RdC hp v l)(hn:l.length<=200) :
  FnT Tryz.prog 62 #[.agg #[v],.int .i64 d] hp [] (fun w h' ms'=>hp.le h'/\T7 w ms' (BC (cn l) (d-1)).length (BC (cn l) d).length (Dy (BC (cn l) (d-1)).length (BC (cn l) d).length (Ie (cn l) d))):=by
 have ov:=hR.q.rd.one;refine Ap func62 ntmps62 rfl rfl (fun w0 hw0=>?_);simp only[AX];refine As (AV [_] rfl rfl (by rfl) rfl rfl rfl (fun g2=>Cz [.int .i64 0,.int .i64 0,.slice none 0 0] rfl D3 rfl rfl (fun g4=>Am (Bm 1 rfl fun h1 l1 hS2=>?_))));have hR1:=hR.up l1;have gS2:∀ms,Seg h1 ms (⟨g2,0,none⟩:Addr) [v]:=fun ms=>hS2.any;refine As (Qx (oG rfl CF AW (gS2 _)) rfl (Qc call64 rfl (Nv l v h1 hK hR1) (fun r h3 ms3 l3 hF=>?_)));obtain⟨l3',rfl,g,A,rfl,hA,hT⟩:=hF;have hR3:=hR1.up l3';have gS2:∀ms,Seg h3 ms (⟨g2,0,none⟩:Addr) [v]:=fun ms=>(hS2.le l3').any;refine Qm rfl (Am (Ac (BG (n:=9) (bs:=[true,true,true,false,true,true,false,false,false]) [true,true,true,false,true,true] CS (by kernel_rfl) (by kernel_rfl) rfl rfl (Qp rfl (oG rfl CF AW (gS2 _)) (Qq rfl (Qp rfl (oS rfl) (Qp rfl (oG rfl CF AW (gS2 _)) (Qq rfl ?_))))))));unfold Ft;simp only[cons_append,nil_append];refine Qo 3 rfl (Qc call63 rfl (Nu l v (d-1) h3 hK hR3) (fun ra h4 ms4 l4 hF=>?_));obtain⟨l4',ma,rfl,hOa⟩:=hF;have shA:=R5 hOa;refine BA hOa fun h5 l5 hRa=>?_;have l35:=AJ l4' l5;refine Qa (Qo 6 rfl (Qc call63 rfl (Nu l v d h5 hK (hR3.up l35)) (fun rb h6 ms6 l6 hF=>?_)));obtain⟨l6',mb,rfl,hOb⟩:=hF;have shB:=R5 hOb;refine BA hOb fun h7 l7 hRb=>?_;have l57:=AJ l6' l7;have l37:=AJ l35 l57;refine Qa (Qo 7 rfl (Qm rfl (Qa (Qo 8 rfl (Qm rfl (Qa (Qe ?_)))))));have hRa7:=hRa.up l57;obtain⟨o,ho⟩:∃o,cn l=o:=⟨_,rfl⟩
 have hol:o.length=l.length:=by rw[<-ho,Ds]
 have hrg:RgtF o:=by rw[<-ho];exact hK.F
 change RdL cI 1 h7 [] ra (BC (cn l) (d-1)) at hRa7;change RdL cI 1 h7 [] rb (BC (cn l) d) at hRb;rw[ho]at hRa7 hRb ⊢;obtain⟨r,hr⟩:∃r,(BC o (d-1)).length=r:=⟨_,rfl⟩
 obtain⟨c,hc⟩:∃c,(BC o d).length=c:=⟨_,rfl⟩
 have hr2:r<=200:=by have:=FT o (d-1);omega
 have hc2:c<=200:=by have:=FT o d;omega
 rw[hr,hc];have rA:Rd h7 [] ra 1 r ((BC o (d-1)).flatMap cI):=by have:=hRa7.rd;rwa [hr]at this
 have rB:Rd h7 [] rb 1 c ((BC o d).flatMap cI):=by have:=hRb.rd;rwa [hc]at this
 have oa:=rA.one;have ob:=rB.one;have lh7:=AJ l1 (AJ l3' l37);refine Ab (Ac (As (Qm rfl (Qx (Ar rA.any rfl AU rfl) rfl (Qm rfl (Qm rfl ?_))))));refine AQ (t:=28) rfl (fun h1=>?_) (fun h1=>?_)
 ·exact absurd h1 (by omega)
 ·refine Qg (Au rfl rfl) rfl (Qg (Ar rB.any rfl AU rfl) rfl (Qg (Cw rfl rfl rfl) rfl (Qm rfl (Am ?_))));refine Aq rfl (fun h2=>?_) (fun h2=>?_)
  ·exact absurd h2 (by omega)
  ·refine Ah (Ab (Ac (As (Qm rfl (Qx (Ar rA.any rfl AU rfl) rfl (Qm rfl (Am ?_)))))));refine Aq rfl (fun h3=>?_) (fun h3=>?_)
   ·have hr0:r=0:=by omega
    subst hr0;refine As (Qm rfl (Qx (Ar rB.any rfl AU rfl) rfl (Qc call129 rfl (Oe 0 c (by omega) hc2 h7) (fun z h8 ms8 l8 hF=>?_))));obtain⟨rfl,ev,m,rfl,rfl,hO⟩:=hF;have oe:=hO.o1;have hL:replicate (0*c) (0:Int)=Dy 0 c (Ie o d):=by simp[Dy]
    rw[hL]at hO;refine Sa 1 [_,_,_] D3 rfl (by simp[ov,oa,ob,oe]) ?_;refine Am (An (Ae ?_));exact By (vs:=[_,_,_]) 1 rfl rfl Ow rfl D3 rfl rfl (⟨lh7,ev,m,rfl,rfl,hO⟩)
   ·refine Ah (Ab (As (Qm rfl (Qx (Ar rA.any rfl AU rfl) rfl (CD (n:=r) rfl Ch Cr rfl rfl rfl (by rfl) (by rfl) (by omega) (by omega) rfl rfl rfl (fun g42=>Qm rfl (Am (Ac (As (Qm rfl (Qx (Jd (ty:=81) rfl Ch rfl) rfl (Qm rfl (Am (Ag ?_))))))))))))))
    have hO0:OwnL cU 1 22 (Bn g42 22 (replicate r (.slice none 0 0))) (.slice (some ⟨g42,0,none⟩) r r) ([]++replicate r (.slice none 0 0)):=by
     rw[nil_append];have:=OwnL.blk (F:=cU) (el:=22) (g:=g42) (l:=replicate r (Value.slice none 0 0)) r Km (by simp) (by omega)
     rwa [RE]at this
    refine BJ ?_
    refine Ay (fun q sl h' ms'=>∃(i:Nat) (Rs:List Value) (mR mo:Hp),r-i=q/\sl=[(4,.pointer (some ⟨g4,0,none⟩)),(5,.pointer (some ⟨g,0,none⟩)),(6,ra),(7,rb),(8,.slice (some ⟨g42,0,none⟩) r r),(44,.int .i64 r),(45,.int .i64 i)]/\h7=h'/\ms'=[mR,mo,Bn g4 106 [.int .i64 0,.int .i64 0,.slice none 0 0]]/\i<=r/\OwnL cU 1 22 mo (.slice (some ⟨g42,0,none⟩) r r) (Rs++replicate (r-i) (.slice none 0 0))/\Rs.length=i/\ColsO mR Rs (replicate i (replicate c 0)))
     (r-0) _ ⟨0,[],Hp.emp,_,rfl,rfl,rfl,rfl,by omega,hO0,rfl,rfl⟩ Qs ?_
    rintro q sl h' ms' ⟨i,Rs,mR,mo,rfl,rfl,rfl,rfl,hi,hO,hRl,hCR⟩;refine As (Qm rfl (Am (Ac ?_)));refine Aq rfl (fun hlt=>?_) (fun hlt=>?_)
    ·have hir:i<r:=by omega
     refine Ah (Ab (Ac (Ag (As (Qm rfl (Qm rfl (Gm (Qm rfl (Qm rfl (Qm rfl (Qx (Ar rB.any rfl AU rfl) rfl (CD (n:=c) rfl AU A6 rfl rfl rfl (by rfl) (by rfl) (by omega) (by omega) rfl rfl rfl (fun g52=>Qx (BM (i) rfl Ch Cr rfl rfl (by omega) (by omega)) rfl ?_)))))))))))))
     have hset:(Rs++replicate (r-i) (Value.slice none 0 0)).set i (.slice (some ⟨g52,0,none⟩) c c)=(Rs++[.slice (some ⟨g52,0,none⟩) c c])++replicate (r-(i+1)) (Value.slice none 0 0):=by rw[List.set_append_right _ _ (by omega),hRl,Nat.sub_self,show r-i=(r-(i+1))+1 by omega,List.replicate_succ,List.set_cons_zero,List.append_assoc];rfl
     refine CK (f:=fun v:Value=>v) (a:=.slice (some ⟨g52,0,none⟩) c c) 2 i (fun _=>rfl) hO rfl Cr rfl rfl rfl rfl (by rw[length_append,length_replicate];omega) rfl rfl (fun mo' hO'=>?_);rw[hset]at hO';refine Ak (Ai (Ab (Ad (Qx (oA rfl) rfl (Qm rfl (Ak (D9 fun hap=>?_)))))));have hap:[Bn g52 3 (replicate c (.int .i64 0)),mR,mo',Bn g4 106 [.int .i64 0,.int .i64 0,.slice none 0 0]].Pairwise Hp.disj:=hap;simp only[pairwise_cons,mem_cons,not_mem_nil,or_false,forall_eq_or_imp,forall_eq]at hap;have hC':=hCR.snoc (OwnL.rep (g:=g52) (el:=3) c 0 (by omega)) (Hp.disj_symm hap.1.1);have hrs:replicate i (replicate c (0:Int))++[replicate c 0]=replicate (i+1) (replicate c 0):=(List.replicate_succ' ..).symm;rw[hrs]at hC';refine CB 1 rfl (Ex ?_);exact Al (r-(i+1)) _ (by omega) ⟨i+1,_,_,mo',rfl,rfl,rfl,rfl,by omega,hO',by rw[length_append,hRl];rfl,hC'⟩ Qs
    ·have hir:i=r:=by omega
     subst hir;refine Av (Aa (Aa (Af (Ab (DZ 1 rfl (Bu hO fun h8 l8 hL=>?_))))));rw[Nat.sub_self,List.replicate_zero,append_nil]at hL;have rB8:=rB.le l8;have rA8:=rA.le l8;refine Ac (As (Qm rfl (Qx (Ar rB8.any rfl AU rfl) rfl (Qm rfl (Am (Ag ?_))))));have hCR0:ColsO mR Rs (CM i c (DH (Ie o d) [] (BC o (d-1)) 0 0)):=by rw[P0];exact hCR
     refine Ay (fun q sl h' ms'=>∃(k:Nat) (mR:Hp),c-k=q/\sl=[(4,.pointer (some ⟨g4,0,none⟩)),(5,.pointer (some ⟨g,0,none⟩)),(6,ra),(8,.slice (some ⟨g42,0,none⟩) i i),(55,rb),(56,.int .i64 c),(57,.int .i64 k)]/\h8.le h'/\ms'=[mR,Bn g4 106 [.int .i64 0,.int .i64 0,.slice none 0 0]]/\k<=c/\ColsO mR Rs (CM i c (DH (Ie o d) [] (BC o (d-1)) k 0)))
      (c-0) _ ⟨0,mR,rfl,rfl,C9,rfl,by omega,hCR0⟩ Qs ?_
     rintro q sl h9 ms' ⟨k,mR,rfl,rfl,l9,rfl,hk,hC⟩;refine As (Qm rfl (Am (Ac ?_)));refine Aq rfl (fun hlt2=>?_) (fun hlt2=>?_)
     ·have hkc:k<c:=by omega
      have hkL:k<(BC o d).length:=by omega
      obtain⟨y,hy⟩:∃y,(BC o d).getD k 0=y:=⟨_,rfl⟩
      have hyg:(BC o d)[k]=y:=by rw[<-hy];simp[List.getD,hkL]
      have hB9:=(hRb.up l8).up l9;have cB:∀ms,Cell h9 ms ((AF rb).add (k*1)) (.int .i64 y):=fun ms=>(hB9.any (ms:=ms)).cell0 hkL (by rw[hyg];rfl);obtain⟨gm,mT,bs,vids,hS,hM,lM,hV,hsd⟩:=hT;have l39:=AJ l37 (AJ l8 l9);have e0:∀ms,Cell h9 ms ((⟨g,0,none⟩:Addr).add 0) (.map (some gm)):=fun ms=>((hS 0 _ rfl).any).le l39;have hAo:A.map Ce.c=o:=by rw[hA,ho]
      have hAid:(A.map fun a=>a.c.id)=o.map Cl.id:=by rw[<-hAo,map_map];rfl
      have hnd:(A.map fun a=>a.c.id).Nodup:=by rw[hAid];exact hrg.rgt.nd
      obtain⟨a,haA,hay⟩:∃a,a∈A/\a.c.id=y:=by
       have h1:y∈BC o d:=by rw[<-hyg];exact getElem_mem hkL
       unfold BC at h1;obtain⟨cl,h2,h3⟩:=List.mem_map.1 h1;have h4:cl∈A.map Ce.c:=by rw[hAo];exact(List.mem_filter.1 h2).1
       obtain⟨a,h5,rfl⟩:=List.mem_map.1 h4;exact⟨a,h5,h3⟩
      have hga:Bi (Fs A) y=some a:=by rw[<-hay];exact Lo hnd haA
      have hga1:(Bi (Fs A) y).getD default=a:=by rw[hga];rfl
      have hyI:BH y:=by
       have h1:a.c∈cn l:=by rw[<-hA];exact List.mem_map.2 ⟨a,haA,rfl⟩
       rw[<-hay];exact hK.cI h1
      have hcel:Gg o y=a.c:=by have:=Iw A y;rw[hAo,hga1]at this;exact this.symm
      have hsa:=(hsd a haA).up l39;have oav:=hsa.rd.one;refine Ah (Ab (Ac (Ag (As (Qm rfl (Qx (AE (k) (rB8.le l9).any rfl AU A6 rfl rfl (by omega) (by omega)) rfl (Ql rfl U3 (cB _) (Qm rfl (Qm rfl (BK (Qm rfl (Qm rfl (Qf E4 rfl (Ql rfl GJ (e0 _) (Qm rfl (Qx (Cf (V:=vC) (z:=(default:Ce)) (u:=a) y hga1 Bs hM (AJ lM l39) rfl GJ KR rfl rfl hyI) rfl (Qx (DD rfl Ef rfl BZ rfl rfl rfl) rfl (Qx (Ar hsa.rd.any rfl BZ rfl) rfl (Qm rfl (Am (Ag ?_)))))))))))))))))))));have hao:a.c∈o:=by rw[<-hAo];exact List.mem_map.2 ⟨a,haA,rfl⟩
      have hsl:a.c.sd.length<=64:=(hrg.bds hao).2.1;have hsg:=hrg.rgt.sgn _ hao
      refine Ay (fun q sl h' ms'=>∃(j:Nat) (mR:Hp),a.c.sd.length-j=q/\sl=[(4,.pointer (some ⟨g4,0,none⟩)),(5,.pointer (some ⟨g,0,none⟩)),(6,ra),(8,.slice (some ⟨g42,0,none⟩) i i),(10,.int .i64 k),(55,rb),(56,.int .i64 c),(57,.int .i64 k),(68,a.v),(69,.int .i64 a.c.sd.length),(70,.int .i64 j)]/\h9.le h'/\ms'=[mR,Bn g4 106 [.int .i64 0,.int .i64 0,.slice none 0 0]]/\j<=a.c.sd.length/\ColsO mR Rs (CM i c (DH (Ie o d) a.c.sd (BC o (d-1)) k j)))
       (a.c.sd.length-0) _ ⟨0,mR,rfl,rfl,C9,rfl,by omega,by rw[JH (sd':=[])];exact hC⟩ Qs ?_
      rintro q sl h11 ms' ⟨j,mR,rfl,rfl,l11,rfl,hj,hC⟩;have hsa11:=hsa.up l11;refine As (Qm rfl (Am (Ac ?_)));refine Aq rfl (fun hlt3=>?_) (fun hlt3=>?_)
      ·have hjl:j<a.c.sd.length:=by omega
       obtain⟨s,hs⟩:∃s,a.c.sd[j]=s:=⟨_,rfl⟩
       have gS:∀ms,Seg h11 ms ((AF a.v).add (j*2)) (cD s):=fun ms=>by rw[<-hs];exact(hsa11.any (ms:=ms)).seg hjl
       refine Ah (Ab ?_);refine A9 (fun sl h'' ms'=>∃mR':Hp,sl=[(4,.pointer (some ⟨g4,0,none⟩)),(5,.pointer (some ⟨g,0,none⟩)),(6,ra),(8,.slice (some ⟨g42,0,none⟩) i i),(10,.int .i64 k),(55,rb),(56,.int .i64 c),(57,.int .i64 k),(68,a.v),(69,.int .i64 a.c.sd.length),(70,.int .i64 j)]/\h11.le h''/\ms'=[mR',Bn g4 106 [.int .i64 0,.int .i64 0,.slice none 0 0]]/\ColsO mR' Rs (CM i c (DH (Ie o d) a.c.sd (BC o (d-1)) k (j+1)))) ?_ (fun s h ms hI=>?_)
       ·refine Ag (As (Qx (BF (j) hsa11.rd.any rfl BZ AM rfl rfl) rfl (Qx (oG rfl DX AM (gS _)) rfl (Cz [.int .i64 0,.int .i64 0] rfl AM rfl rfl (fun g13=>?_)))));refine Sa 0 [_,_] AM rfl (by simp[Value.oneCell']) ?_;refine Am (AC fun h12 l12 hS13=>?_);have l712:=AJ l8 (AJ l9 (AJ l11 l12));have hRa12:=hRa7.up l712;have e130:∀ms,Cell h12 ms ((⟨g13,0,none⟩:Addr).add 0) (.int .i64 s.1):=fun ms=>(hS13 0 _ rfl).any;have e131:∀ms,Cell h12 ms ((⟨g13,0,none⟩:Addr).add 1) (.int .i64 s.2):=fun ms=>(hS13 1 _ rfl).any;have hinc:=Wn hrg (d-1);change Shp ra (BC (cn l) (d-1)).length at shA;rw[ho]at shA;refine As (Qm rfl (Qf B6 rfl (Ql rfl U3 (e130 _) (Qx (AL rfl call130 rfl (Abi (BC o (d-1)) ra s.1 h12 hRa12 shA (hinc.imp fun h=>Int.le_of_lt h) (by omega) _)) rfl (Qm rfl (Qm rfl (Qm rfl (Qm rfl (Qm rfl (BK (Qm rfl (Am ?_))))))))))));refine Bz rfl (fun hfd=>?_) (fun hfd=>?_)
        ·have hmem:s.1∈BC o (d-1):=by simpa using hfd
         obtain⟨i0,hi0,he0⟩:=List.mem_iff_getElem.1 hmem;have hi0i:i0<i:=by omega
         have hcnt:(BC o (d-1)).countP (·<s.1)=i0:=O7 hinc hi0 he0;rw[hcnt];have hv0:i0<Rs.length:=by omega
         obtain⟨a1,b1,e1,dab,O1,K⟩:=hC.at_ (i:=i0) hv0 (by rw[En];exact hi0i);subst e1;obtain⟨ρ,hρ⟩:∃ρ,Rs[i0]=ρ:=⟨_,rfl⟩
         rw[hρ]at O1 K;have er:(CM i c (DH (Ie o d) a.c.sd (BC o (d-1)) k j))[i0]'(by rw[En];exact hi0i)=G4 c (DH (Ie o d) a.c.sd (BC o (d-1)) k j i0):=by simp[CM]
         rw[er]at O1;refine Hl dab ?_;have cL:∀ms,Cell h12 ms ((AF (.slice (some ⟨g42,0,none⟩) i i)).add (i0*1)) ρ:=fun ms=>((hL.any (ms:=ms)).cell0 hv0 (by rw[hρ];rfl)).le (AJ l9 (AJ l11 l12));have hkv:k<(G4 c (DH (Ie o d) a.c.sd (BC o (d-1)) k j i0)).length:=by rw[CL];exact hkc
         have cX:∀ms,a1∈ms->Cell h12 ms ((AF ρ).add (k*1)) (.int .i64 (DH (Ie o d) a.c.sd (BC o (d-1)) k j i0 k)):=fun ms hm=>(O1.rd (h:=h12) hm).cell0 hkv (by simp[G4,cI]);have rρ:Rd h12 [a1] ρ 1 c ((G4 c (DH (Ie o d) a.c.sd (BC o (d-1)) k j i0)).flatMap cI):=by have:=(O1.rd (h:=h12) (ms:=[a1]) Mh).rd;rwa [CL]at this
         have hbd:=Nh (a.c.sd.take j) ((BC o (d-1)).getD i0 0) fun s hs=>hsg s (List.mem_of_mem_take hs);have hbe:DH (Ie o d) a.c.sd (BC o (d-1)) k j i0 k=sgn (a.c.sd.take j) ((BC o (d-1)).getD i0 0):=by unfold DH;rw[if_neg (by omega),if_pos rfl]
         have htl:(a.c.sd.take j).length<=64:=by rw[length_take];omega
         have hs2:=hsg s (by rw[<-hs];exact getElem_mem hjl);have oρ:=rρ.one;refine Bc 9 CS (by kernel_rfl) rfl (Wm rfl (Wm rfl (AR (BM (i0) rfl Ch Cr rfl rfl (by omega) (by omega)) rfl rfl (Wl rfl AU (cL _) (Wm rfl (AR (BI (k) rρ rfl AU A6 rfl rfl (by omega) (by omega)) rfl rfl (Wl rfl U3 (cX _ Mh) (Wf Dn rfl (Wl rfl U3 (e131 _) (AY (Qx (oA rfl) rfl (Qx (BI (k) rρ rfl AU A6 rfl rfl (by omega) (by omega)) rfl (De 0 k O1 rfl A6 rfl rfl rfl hkv rfl rfl (fun a1' O1'=>Ak (Ai (D9 fun hap=>?_))))))))))))))));have hap:[a1',b1,Bn g4 106 [.int .i64 0,.int .i64 0,.slice none 0 0]].Pairwise Hp.disj:=hap;simp only[pairwise_cons,mem_cons,not_mem_nil,or_false,forall_eq_or_imp,forall_eq]at hap;have hC':=K a1' _ hap.1.1 O1';have hyes:=TR (B:=Ie o d) hr (hinc.imp fun h=>Int.ne_of_lt h) hjl hi0i hkc (by rw[he0,hs]);rw[hs]at hyes;rw[<-hyes]at hC';refine Ex ?_;exact AD _ ⟨_,rfl,l12,rfl,hC'⟩ Qs
        ·have hmem:s.1 ∉ BC o (d-1):=by simpa using hfd
         rw[<-hs]at hmem;rw[<-UI (B:=Ie o d) hr hjl hmem]at hC;refine Ah (Ai ?_);exact AD _ ⟨mR,rfl,l12,rfl,hC⟩ Qs
       ·obtain⟨mR',rfl,l12,rfl,hC'⟩:=hI;refine Ad (Qx (oA rfl) rfl (Qm rfl (Ak ?_)));exact Al (a.c.sd.length-(j+1)) _ (by omega) ⟨j+1,mR',rfl,rfl,AJ l11 l12,rfl,by omega,hC'⟩ Qs
      ·have hjl:j=a.c.sd.length:=by omega
       subst hjl;have hB:∀i',i'<i->Ie o d i' k=sgn a.c.sd ((BC o (d-1)).getD i' 0):=fun i' _=>by unfold Ie;rw[hy,hcel]
       rw[QH hB,JH (sd':=[])]at hC;refine Av (Aa (Aa (Af (Ai (Ab (Ad (Qx (oA rfl) rfl (Qm rfl (Ak ?_)))))))));exact Al (c-(k+1)) _ (by omega) ⟨k+1,mR,rfl,rfl,AJ l9 l11,rfl,by omega,hC⟩ Qs
     ·have hkc:k=c:=by omega
      subst hkc;rw[Ts]at hC;refine Av (Aa (Aa (Af (Ab (Bq fun h10 l10 lm=>?_)))))
      have hRr:∀i',i'<i->RdL cI 1 h10 [] (Rs.getD i' undef) (G4 k (Ie o d i')):=fun i' hi'=>by
       have hv:i'<Rs.length:=by omega
       obtain⟨a1,b1,e1,dab,O1,_⟩:=hC.at_ (i:=i') hv (by rw[En];exact hi');have er:(CM i k (Ie o d))[i']'(by rw[En];exact hi')=G4 k (Ie o d i'):=by simp[CM]
       rw[er]at O1;have hle:a1.le h10:=AJ (by rw[e1];exact Hp.le_join _ _) lm;have:=O1.rdh (ms:=[]) hle
       rwa [show Rs.getD i' undef=Rs[i'] by simp[List.getD,hv]]
      have hAo:A.map Ce.c=o:=by rw[hA,ho]
      have hb:∀i',i'<i->∀j,j<k->-256<Ie o d i' j/\Ie o d i' j<256:=fun i' _ j _=>by
       unfold Ie;obtain⟨y,hy⟩:∃y,(BC o d).getD j 0=y:=⟨_,rfl⟩
       rw[hy];have h1:=Iw A y;rw[hAo]at h1;rw[<-h1];cases hg:Bi (Fs A) y with
       | none=>exact(by decide:-256<(0:Int)/\(0:Int)<256)
       | some z=>
        have hz:z.c∈o:=by rw[<-hAo];exact List.mem_map.2 ⟨z,RQ hg,rfl⟩
        have h2:=Nh z.c.sd ((BC o (d-1)).getD i' 0) (hrg.rgt.sgn _ hz);have h3:=(hrg.bds hz).2.1;simp only[Option.getD_some];omega
      have hi0:0<i:=by omega
      refine As (Qm rfl (Qc call131 rfl (ZN i k hi0 hr2 hc2 (Ie o d) hb Rs hRl _ h10 (hL.up (AJ l9 l10)) hRr) (fun z h13 ms13 l13 hF=>?_)));obtain⟨l13',ev,m,rfl,rfl,hO⟩:=hF;have oe:=hO.o1;refine Sa 1 [_,_,_] D3 rfl (by simp[ov,oa,ob,oe]) ?_;refine Am (An ?_);exact By (vs:=[_,_,_]) 1 rfl rfl Ow rfl D3 rfl rfl (⟨AJ lh7 (AJ l8 (AJ l9 (AJ l10 l13'))),ev,m,rfl,rfl,hO⟩)
theorem Xn(r c:Nat)(f:Nat->Nat->Int)(g:Int->Int):(Dy r c f).map g=Dy r c fun i j=>g (f i j):=by unfold Dy;rw[map_map];rfl
theorem Ul(p:Int)(r c:Nat)(f:Nat->Nat->Int)(hp:IsP p)(hp2:p<256)(hr:r<=200)(hc:c<=200)(hb:∀i,i<r->∀j,j<c->-256<f i j/\f i j<256)(gp:Nat)(ev:Value)(h:Hp)(hD:∀ms,Cell h ms (⟨gp,0,none⟩:Addr) (.int .i64 p))(hR:RdL QM 2 h [] ev (Dy r c f)) :
  FnT Tryz.prog 58 #[.agg #[.int .i64 r,.int .i64 c,ev],.pointer (some ⟨gp,0,none⟩)] h [] (fun x h' ms'=>h.le h'/\ms'=[]/\∃(F:Nat->Nat->Int) (pv:List Nat),x=.int .i64 pv.length/\Ech p r c (fun i j=>f i j%p) F pv):=by
 have hpb:=hp.1;have oe:=hR.rd.one;refine Ap func58 ntmps58 rfl rfl (fun w0 hw0=>?_);simp only[AX];refine As (AV [_,_,_] rfl rfl (by rfl) rfl rfl rfl (fun g2=>Qm rfl (Am (AC fun h1 l1 hS2=>?_))));have hR1:=hR.up l1;have gS2:∀ms,Seg h1 ms (⟨g2,0,none⟩:Addr) [.int .i64 r,.int .i64 c,ev]:=fun ms=>hS2.any;have eD:∀ms,Cell h1 ms (⟨gp,0,none⟩:Addr) (.int .i64 p):=fun ms=>(hD ms).le l1
 have hbm:∀x∈Dy r c f,-256<x/\x<256:=fun x hx=>by
  unfold Dy at hx;obtain⟨k,hk,rfl⟩:=List.mem_map.1 hx;have hk:=List.mem_range.1 hk
  have hc0:0<c:=by
   rcases Nat.eq_zero_or_pos c with h|h
   ·subst h;simp at hk
   ·exact h
  exact hb _ (Nat.div_lt_of_lt_mul (by rw[Nat.mul_comm];exact hk)) _ (Nat.mod_lt _ hc0)
 refine As (Ql rfl U3 (eD _) (Qx (oG rfl Ow D3 (gS2 _)) rfl (Qc call60 rfl (YH p r c hp hp2 hr hc (Dy r c f) (DC r c f) hbm ev h1 hR1) (fun z h2 ms2 l2 hF=>?_))));obtain⟨l2',eu,m,rfl,rfl,hO⟩:=hF;rw[Xn]at hO;refine BA hO fun h3 l3 hQ=>?_;have hRt:RtM p r c (fun i j=>f i j%p):=⟨hp,by omega,by omega,fun i _ j _=>⟨Int.emod_nonneg _ (by omega),Int.emod_lt_of_pos _ (by omega)⟩⟩
 refine Qc call59 rfl (VA p r c _ eu h3 hRt hQ) (fun z h4 ms4 l4 hF=>?_);obtain⟨l4',rfl,F,pv,rfl,hE⟩:=hF;refine Qm rfl (Am (An ?_));exact Az rfl rfl (⟨AJ l1 (AJ l2' (AJ l3 l4')),rfl,F,pv,rfl,hE⟩)
theorem S9(l:List Ce)(v:Value)(hp:Hp)(hK:RgC l)(hR:RdC hp v l)(hn:l.length<=100) :
  FnT Tryz.prog 55 #[.agg #[v]] hp [] (fun r h' ms'=>hp.le h'/\ms'=[]/\r=.int .i64 0):=by
 have ov:=hR.q.rd.one;refine Ap func55 ntmps55 rfl rfl (fun w0 hw0=>?_);simp only[AX];refine As (AV [_] rfl rfl (by rfl) rfl rfl rfl (fun g1=>Qm rfl (Am (AC fun h1 l1 hS1=>?_))));have hR1:=hR.up l1;have gS1:∀ms,Seg h1 ms (⟨g1,0,none⟩:Addr) [v]:=fun ms=>hS1.any;refine Ac (As (Qx (oG rfl CF AW (gS1 _)) rfl (Qx (AL rfl call28 rfl (EO (L9 l v h1 hK hR1) _)) rfl (Qm rfl (Qm rfl (Qm rfl (Qm rfl (Qm rfl (BK (Qm rfl (Qm rfl (Am ?_))))))))))));refine Aq rfl (fun hz=>?_) (fun hz=>?_)
 ·exact absurd rfl hz
 ·refine Ah (Ab (Ac (As (Qx (oG rfl CF AW (gS1 _)) rfl (Qc call61 rfl (V2 l v h1 hK hR1) (fun r h3 ms3 l3 hF=>?_))))));obtain⟨l3',rfl,D,rfl,hD1,hD2,hD3⟩:=hF
  have hD8:D<=8:=by
   rcases hD3 with h|⟨c,hc,h⟩
   ·omega
   ·have:=(hK.F.bds hc).1;omega
  have gS1:∀ms,Seg h3 ms (⟨g1,0,none⟩:Addr) [v]:=fun ms=>(hS1.le l3').any;refine Qx (oA rfl) rfl (Qm rfl (Am (Ag ?_)));refine Ay (fun q sl h' ms'=>∃(k:Nat),(D+1).toNat-k=q/\sl=[(1,.pointer (some ⟨g1,0,none⟩)),(16,.int .i64 (D+1)),(17,.int .i64 k)]/\h3.le h'/\ms'=[]/\(k:Int)<=D+1) ((D+1).toNat-0) _ ⟨0,rfl,rfl,C9,rfl,by omega⟩ Qs ?_;rintro q sl h' ms' ⟨k,rfl,rfl,lh,rfl,hk⟩;have gS1:∀ms,Seg h' ms (⟨g1,0,none⟩:Addr) [v]:=fun ms=>(gS1 ms).le lh;refine As (Qm rfl (Am (Ac ?_)));refine Aq rfl (fun hlt=>?_) (fun hlt=>?_)
  ·refine Ah (Ab (Ac (Ag (As (Qm rfl (Qm rfl (BK (Qx (oG rfl CF AW (gS1 _)) rfl (Qm rfl (Qc call63 rfl (Nu l v (k:Int) h' hK ((hR1.up l3').up lh)) (fun r h4 ms4 l4 hF=>?_)))))))))));obtain⟨l4',m,rfl,hO⟩:=hF
   have hlen:(((cn l).filter fun c=>decide (c.dim=(k:Int))).map Cl.id).length<=100:=by rw[length_map];exact Nat.le_trans (List.length_filter_le _ _) (by rw[Ds];exact hn)
   refine Qx (D8 (hO.rd (h:=h4) (ms:=[m]) Mh).rd rfl AU rfl) rfl (Qm rfl (Am ?_));refine Aq rfl (fun h5=>?_) (fun h5=>?_)
   ·exact absurd h5 (by omega)
   ·refine Ah (Ai (Ab (Ad (Qx (oA rfl) rfl (Qm rfl (Ak (AN ?_)))))));exact Al ((D+1).toNat-(k+1)) _ (by omega) ⟨k+1,rfl,rfl,AJ lh l4',rfl,by omega⟩ Qs
  ·refine Av (Aa (Aa (Af (Ab (As (Qm rfl (Am (An ?_))))))));exact Az rfl rfl (⟨AJ l1 (AJ l3' lh),rfl,rfl⟩)
def RkO(p:Int)(o:List Cl)(d:Int)(ρ:Nat):Prop:=∃(F:Nat->Nat->Int) (pv:List Nat),Ech p (BC o (d-1)).length (BC o d).length (fun i k=>Ie o d i k%p) F pv/\ρ=pv.length
def Mv(o:List Cl)(rk:Nat->Nat)(n:Nat):List Int:=(range n).map fun(k:Nat)=>((BC o k).length:Int)-rk k-rk (k+1)
theorem V6(o:List Cl)(rk:Nat->Nat)(n:Nat):Mv o rk (n+1)=Mv o rk n++[((BC o n).length:Int)-rk n-rk (n+1)]:=by unfold Mv;rw[List.range_succ,map_append];rfl
theorem TA{o:List Cl}{rk rk':Nat->Nat}{n:Nat}(h:∀k,k<=n->rk k=rk' k):Mv o rk n=Mv o rk' n:=by unfold Mv;refine List.map_congr_left fun k hk=>?_;have:=List.mem_range.1 hk;rw[h k (by omega),h (k+1) (by omega)]
theorem Aah{o:List Cl}(hrg:RgtF o)(d:Int)(i j:Nat)(hj:j<(BC o d).length):-256<Ie o d i j/\Ie o d i j<256:=by
 unfold Ie;obtain⟨y,hy⟩:∃y,(BC o d).getD j 0=y:=⟨_,rfl⟩
 rw[hy];unfold Gg;cases hg:LW o y with
 | none=>exact(by decide:-256<(0:Int)/\(0:Int)<256)
 | some z=>
  have hz:z∈o:=List.mem_of_find?_eq_some hg;have h2:=Nh z.sd ((BC o (d-1)).getD i 0) (hrg.rgt.sgn _ hz);have h3:=(hrg.bds hz).2.1;simp only[Option.getD_some];omega
theorem VE(l:List Ce)(v:Value)(p:Int)(hp:Hp)(hP:IsP p)(hp2:p<256)(hK:RgC l)(hR:RdC hp v l)(hn:l.length<=100) :
  FnT Tryz.prog 20 #[.agg #[v],.int .i64 p] hp [] (fun r h' ms'=>hp.le h'/\∃(D:Int) (rk:Nat->Nat) (w:Value) (m:Hp),r=.tuple #[w,.int .i64 0]/\ms'=[m]/\OwnL cI 1 3 m w (Mv (cn l) rk (D+1).toNat)/\K2 (cn l) D/\rk 0=0/\∀n:Nat,n<(D+1).toNat->RkO p (cn l) (n+1) (rk (n+1))):=by
 have hpb:=hP.1;have ov:=hR.q.rd.one;refine Ap func20 ntmps20 rfl rfl (fun w0 hw0=>?_);simp only[AX];refine As (AV [_] rfl rfl (by rfl) rfl rfl rfl (fun g2=>AV [_] rfl rfl (by rfl) rfl rfl rfl (fun g3=>Qm rfl (Qm rfl (Am (AC fun h1 l1 hS3=>(AC fun h2 l2 hS2=>?_)))))));have hR2:=(hR.up l1).up l2;have gS2:∀ms,Seg h2 ms (⟨g2,0,none⟩:Addr) [v]:=fun ms=>hS2.any;have eD:∀ms,Cell h2 ms (⟨g3,0,none⟩:Addr) (.int .i64 p):=fun ms=>((hS3 0 _ rfl).any).le l2;refine Ac (As (Ql rfl U3 (eD _) (Qm rfl (Qm rfl ?_))));refine AQ (t:=14) rfl (fun hp0=>?_) (fun hp0=>?_)
 ·refine Qg (oL rfl U3 (eD _)) rfl ?_;refine Qg (AL rfl call54 rfl (J6 p h2 ⟨by omega,by omega⟩ _)) rfl ?_;refine Qg (G6 rfl rfl) rfl (Qm rfl (Am ?_));refine Bz rfl (fun hnp=>?_) (fun hnp=>?_)
  ·exact absurd hP (by simpa using hnp)
  ·refine Ah (Ab (Ac (As (Qx (oG rfl CF AW (gS2 _)) rfl (Qx (AL rfl call55 rfl (EO ((S9 l v h2 hK hR2 hn).mono fun _ _ _ h=>h.2.2) _)) rfl (Qm rfl (BK (Qm rfl (Qm rfl (Am ?_))))))))));refine Aq rfl (fun hz=>?_) (fun hz=>?_)
   ·exact absurd rfl hz
   ·refine Ah (Ab (As (Qm rfl (Am (Ac (As (Ql rfl U3 (eD _) (Qm rfl (Am ?_)))))))));refine Aq rfl (fun hp1=>?_) (fun hp1=>?_)
    ·refine Ad (Qx (BW rfl rfl rfl) rfl (Qm rfl (BK (Qm rfl (BK (Qm rfl (Am (Ac (As (Qx (oG rfl CF AW (gS2 _)) rfl (Qc call61 rfl (V2 l v h2 hK hR2) (fun r h3 ms3 l3 hF=>?_))))))))))));obtain⟨l3',rfl,D,rfl,hD⟩:=hF
     have hD8:D<=8:=by
      rcases hD.2.2 with h|⟨c,hc,h⟩
      ·omega
      ·have:=(hK.F.bds hc).1;omega
     have hD1:=hD.1;obtain⟨o,ho⟩:∃o,cn l=o:=⟨_,rfl⟩
     have hrg:RgtF o:=by rw[<-ho];exact hK.F
     have hol:o.length<=100:=by rw[<-ho,Ds];exact hn
     rw[ho]at hD ⊢;refine Qx (oA rfl) rfl (Qm rfl (Am (Ag (BJ ?_))))
     refine Ay (fun q sl h' ms'=>∃(k x:Nat) (rk:Nat->Nat) (vo:Value) (mo:Hp),x=rk k/\(D+1).toNat-k=q/\sl=[(2,.pointer (some ⟨g2,0,none⟩)),(7,.func (.func 58) #[] #[.pointer (some ⟨g3,0,none⟩)]),(8,vo),(9,.int .i64 (x:Nat)),(29,.int .i64 (D+1)),(30,.int .i64 k)]/\h3.le h'/\ms'=[mo]/\(k:Int)<=D+1/\OwnL cI 1 3 mo vo (Mv o rk k)/\rk 0=0/\∀n:Nat,n<k->RkO p o (n+1) (rk (n+1)))
      ((D+1).toNat-0) _ ⟨0,0,fun _=>0,_,Hp.emp,rfl,rfl,rfl,C9,rfl,by omega,OwnL.nil Bg,rfl,fun n h=>by omega⟩ Qs ?_
     rintro q sl h' ms' ⟨k,xk,rk,vo,mo,hxk,rfl,rfl,lh,rfl,hk,hO,hr0,hrk⟩;have l2h:=AJ l3' lh;have hRh:=hR2.up l2h;have gS2:∀ms,Seg h' ms (⟨g2,0,none⟩:Addr) [v]:=fun ms=>(hS2.le l2h).any;have ovo:=hO.o1;refine As (Qm rfl (Am (Ac ?_)));refine Aq rfl (fun hlt=>?_) (fun hlt=>?_)
     ·refine Ah (Ab (Ac (Ag (As (Qm rfl (Qm rfl (BK (Qm rfl (Qx (oG rfl CF AW (gS2 _)) rfl (Qm rfl (Qx (oA rfl) rfl (Qc call62 rfl (Sn l v ((k:Int)+1) (by omega) h' hK hRh (by omega)) (fun z h4 ms4 l4 hF=>?_)))))))))))));obtain⟨l4',ev,m,rfl,rfl,hM⟩:=hF;have hk1:(k:Int)+1-1=k:=by omega
      rw[ho,hk1]at hM;simp only[ho,hk1];have hrl:(BC o (k:Int)).length<=100:=Nat.le_trans (FT o _) hol;have hcl:(BC o ((k:Int)+1)).length<=100:=Nat.le_trans (FT o _) hol;refine BA hM fun h5 l5 hQ=>?_;have l25:=AJ l2h (AJ l4' l5);have eD5:∀ms,Cell h5 ms (⟨g3,0,none⟩:Addr) (.int .i64 p):=fun ms=>(eD ms).le l25;refine Hg (pre:=[]) rfl rfl call58 rfl (Ul p _ _ (Ie o ((k:Int)+1)) hP hp2 (by omega) (by omega) (fun i _ j hj=>Aah hrg _ i j hj) g3 ev h5 eD5 hQ) rfl rfl rfl rfl (fun x h6 pre' l6 hF=>?_);obtain⟨l6',rfl,F,pv,rfl,hE⟩:=hF;have l26:=AJ l25 l6';have gS6:∀ms,Seg h6 ms (⟨g2,0,none⟩:Addr) [v]:=fun ms=>(hS2.le l26).any;refine Qm rfl (BK (Qm rfl (Qx (oG rfl CF AW (gS6 _)) rfl (Qm rfl (Qc call63 rfl (Nu l v (k:Int) h6 hK (hR2.up l26)) (fun w h7 ms7 l7 hF=>?_))))));obtain⟨l7',mi,rfl,hOi⟩:=hF;rw[ho]at hOi;change OwnL cI 1 3 mi w (BC o (k:Int)) at hOi;have hil:(BC o (k:Int)).length<=100:=Nat.le_trans (FT o _) hol;have hpl:pv.length<=100:=Nat.le_trans hE.red.len hrl
      have hrkk:xk<=100:=by
       rw[hxk];by_cases hk0:k=0
       ·rw[hk0,hr0];omega
       ·obtain⟨F',pv',hE',e'⟩:=hrk (k-1) (by omega);have e1:k-1+1=k:=by omega
        rw[e1]at e';rw[e'];exact Nat.le_trans hE'.red.len (Nat.le_trans (FT o _) hol)
      have rI:=(hOi.rd (h:=h7) (ms:=[mi]) Mh).rd;have ow:=rI.one;refine Qx (D8 rI rfl AU rfl) rfl (Qm rfl (Qx (oS rfl) rfl (Qm rfl (Qx (oS rfl) rfl (Ao [_] rfl AU A6 rfl (by rfl) rfl rfl (by omega) rfl rfl rfl (fun g48=>?_))))));have hbl:(Mv o rk k).length<=1000000:=by unfold Mv;rw[length_map,length_range];omega
      refine AO 2 hO (RdL.one Bg (x:=((BC o (k:Int)).length:Int)-xk-pv.length) Mh rfl) rfl AU A6 rfl (by omega) rfl rfl rfl Cb (by simp only[length_singleton];omega) (by simp only[length_singleton];omega) rfl rfl rfl (fun v6 m6 hO6=>?_);have ov6:=hO6.o1;refine Qm rfl (Gm (Qm rfl (Qm rfl (Ak (Ai (Ab (Ad (Qx (oA rfl) rfl (Qm rfl (Ak ?_))))))))));refine AN (AN ?_);obtain⟨rk',hra,hrb⟩:∃rk':Nat->Nat,rk' (k+1)=pv.length/\∀n,n≠k+1->rk' n=rk n:=⟨fun n=>if n=k+1 then pv.length else rk n,by simp,fun n hn=>by simp[hn]⟩
      have hk1:Mv o rk k++[((BC o (k:Int)).length:Int)-xk-pv.length]=Mv o rk' (k+1):=by rw[V6,TA (rk:=rk) (rk':=rk') (fun n hn=>(hrb n (by omega)).symm),hrb k (by omega),hra,hxk]
      rw[hk1]at hO6
      exact Al ((D+1).toNat-(k+1)) _ (by omega) ⟨k+1,pv.length,rk',v6,m6,hra.symm,rfl,rfl,AJ lh (AJ l4' (AJ l5 (AJ l6' l7'))),rfl,by omega,hO6,by rw[hrb 0 (by omega),hr0],fun n hn=>by
       by_cases e:n=k
       ·subst e;have e1:(n:Int)+1-1=n:=by omega
        rw[hra];unfold RkO;rw[e1];exact⟨F,pv,hE,rfl⟩
       ·rw[hrb (n+1) (by omega)]
        exact hrk n (by omega)⟩ Qs
     ·have hkD:k=(D+1).toNat:=by omega
      subst hkD;refine Av (Aa (Aa (Af (Ab (As (Qm rfl (Qm rfl (Qm rfl (Am (An ?_))))))))));exact Bo rfl rfl rfl (⟨AJ l1 (AJ l2 l2h),D,rk,vo,mo,rfl,rfl,hO,hD,hr0,hrk⟩)
    ·exact absurd hp0 hp1
 ·exact absurd (by omega) hp0
end Go.Proofs.Q
