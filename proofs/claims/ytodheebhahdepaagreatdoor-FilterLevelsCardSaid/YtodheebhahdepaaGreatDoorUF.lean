/- A part of the proof. -/
import Derived.Test.YtodheebhahdepaaGreatDoorUE
set_option linter.unusedSimpArgs false
set_option linter.unusedVariables false
set_option linter.unusedSectionVars false
set_option maxRecDepth 100000
set_option maxHeartbeats 4000000

open List (length_map length_singleton getElem_mem replicate range length_append nil_append length_take mem_cons cons_append pairwise_cons take_succ_eq_append_getElem append_nil map_map map_cons take_length getElem_map length_cons take_zero length_replicate sum_cons not_mem_nil)
namespace Go.Proofs.Q
open Go.Proofs.Tryz
open Go.Eng Go.RowKit Go.Lin Go.Sort Go.Srt
def C9(L:List Int):Nat->List (Int×Int)
 | 0=>[]
 | j+1=>if 0<=L.getD j 0 then C0 (C9 L j) (L.getD j 0) (j:Int) else C9 L j
theorem GD{L:List Int}{i x:Int}:∀{n:Nat},Bj (C9 L n) i=some x->∃j:Nat,j<n/\x=j/\L.getD j 0=i/\0<=i
 | 0,h=>by simp[C9,Bj]at h
 | n+1,h=>by
  unfold C9 at h;split at h
  ·rename_i h0;rw[DB]at h;split at h
   ·rename_i e;cases h;exact⟨n,by omega,Y,e.symm,by rw[e];exact h0⟩
   ·obtain⟨j,h1,h2⟩:=GD h;exact⟨j,by omega,h2⟩
  ·obtain⟨j,h1,h2⟩:=GD h;exact⟨j,by omega,h2⟩
theorem H0{L:List Int}{i:Int}:∀{n:Nat},Bj (C9 L n) i=none->∀j,j<n->0<=i->L.getD j 0≠i
 | 0,h,j,hj,_=>by omega
 | n+1,h,j,hj,h0=>by
  unfold C9 at h;split at h
  ·rw[DB]at h;split at h
   ·cases h
   ·rename_i e;rcases (by omega:j<n\/j=n) with h1|rfl
    ·exact H0 h j h1 h0
    ·exact λq=>e q.symm
  ·rename_i hn;rcases (by omega:j<n\/j=n) with h1|rfl
   ·exact H0 h j h1 h0
   ·omega
def K5(f:Int->Int)(S:List Ce)(L:List Int)(i:Nat):List Br:=
 match Bj (C9 L L.length) (i:Int) with
 | some j=>if f (S.getD i default).c.id<f (S.getD j.toNat default).c.id then [⟨(S.getD i default).c.dim,f (S.getD i default).c.id,f (S.getD j.toNat default).c.id,false,(S.getD i default).c.id,(S.getD j.toNat default).c.id⟩] else []
 | none=>if L.getD i 0<0 then [⟨(S.getD i default).c.dim,f (S.getD i default).c.id,0,true,(S.getD i default).c.id,0⟩] else []
def Fi(f:Int->Int)(S:List Ce)(L:List Int)(n:Nat):List Br:=(range n).flatMap (K5 f S L)
theorem Er(f:Int->Int)(S:List Ce)(L:List Int)(n:Nat):Fi f S L (n+1)=Fi f S L n++K5 f S L n:=by unfold Fi;rw[List.range_succ,List.flatMap_append];simp
theorem XB(f:Int->Int)(S:List Ce)(L:List Int)(i:Nat):(K5 f S L i).length<=1:=by unfold K5;split<;>split<;>simp
theorem Oq(f:Int->Int)(S:List Ce)(L:List Int):∀n,(Fi f S L n).length<=n
 | 0=>by simp[Fi]
 | n+1=>by rw[Er,length_append];have:=Oq f S L n;have:=XB f S L n;omega
theorem XF(l S:List Ce)(F:List (Int×Int))(R V:Nat->List Int)(L:List Int)(p:Int)(gm:Nat)(vl:Value)(hp:Hp)(M:RedM p F l S R V gm hp)(hL:RdL cI 1 hp [] vl L)(hn:S.length<=400)(hLn:L.length=S.length)(hLl:∀x∈L,x<S.length)(hi:∀a∈S,BP a.c.id)(hI:∀c,BP (Dn (BI F) c)):FnT Tryz.prog 52 #[.pointer (some ⟨gm,0,none⟩),vl] hp [] (λr h' ms'=>hp.le h'/\∃mb,ms'=[mb]/\OwnL OG 6 43 mb r (Fi (Dn (BI F)) S L S.length)):=by
 obtain⟨gA,mA,bs,vc,vr,vv,Rs,Vs,la,hS,hO,lA,hQ,_⟩:=M.ex;have ol:=hL.rd.one;have oc:=hQ.rd.one;refine Av func52 ntmps52 Y Y (λw0 hw0=>?_);simp only[A3];refine Aw (Qm Y (BN (CX (K:=kN) (V:=kN) (Ok:=BP) Y Y Y Y (λgE mE hE0=>Qm Y (Ap ?_)))));refine A8 (λsl h' ms'=>∃(mE:Hp) (bs:List Nat),sl=[(0,.pointer (some ⟨gm,0,none⟩)),(1,vl),(5,.map (some gE))]/\hp=h'/\ms'=[mE]/\CC kN kN gE BP mE (C9 L L.length) bs) ?_ (λs h ms hI=>?_)
 ·refine Ac (Ad (Qm Y (Qx (As hL.rd.any Y A0 Y) Y (Qm Y (Ap (Ah ?_))))))
  refine AD (λq sl h' ms'=>∃(j:Nat) (mE:Hp) (bs:List Nat),q=L.length-j/\sl=[(0,.pointer (some ⟨gm,0,none⟩)),(1,vl),(5,.map (some gE)),(15,vl),(16,.int .i64 L.length),(17,.int .i64 j)]/\hp=h'/\ms'=[mE]/\j<=L.length/\CC kN kN gE BP mE (C9 L j) bs)
   (L.length-0) _ ⟨0,mE,[],rfl,rfl,rfl,rfl,by omega,hE0⟩ Qs ?_
  rintro q sl h' ms' ⟨j,mE,bs,rfl,rfl,rfl,rfl,hj,hE⟩;refine Aw (Qm Y (Ap (Ac ?_)));refine Ax Y (λhlt=>?_) (λhlt=>?_)
  ·have hjl:j<L.length:=by omega
   have cL:∀ms,Cell hp ms ((AJ vl).add (j*1)) (.int .i64 (L.getD j 0)):=λms=>by rw[show L.getD j 0=L[j] by simp[List.getD,hjl]];exact(hL.any (ms:=ms)).cell0 hjl Y
   have hLb:=hLl _ (getElem_mem hjl);rw[show L[j]=L.getD j 0 by simp[List.getD,hjl]]at hLb;refine Aj (Ab (Ac (Ah (Aw (Qm Y (Qx (BH (j) hL.rd.any Y A0 Ba Y Y) Y (Ql Y U3 (cL _) (Qm Y (Qm Y (BN (Qm Y (Qm Y (Ap ?_)))))))))))));refine Ax Y (λh0=>?_) (λh0=>?_)
   ·have hs:C9 L (j+1)=C0 (C9 L j) (L.getD j 0) (j:Int):=by show(if 0<=L.getD j 0 then _ else _)=_;rw[if_pos h0]
    refine Ad (Qm Y (Qm Y (Qm Y ?_)));refine BS (V:=kN) (z:=undef) 0 (L.getD j 0) (j:Int) Bh hE Y Y Ll Y Y Y (by unfold BP;omega) Y Y (λmE' bs' hE'=>?_);rw[<-hs]at hE';refine An (Ak (Ab (Ad (Qx (oA Y) Y (Qm Y (An ?_))))));exact Am (L.length-(j+1)) _ (by omega) ⟨j+1,mE',bs',Y,Y,Y,Y,by omega,hE'⟩ Qs
   ·have hs:C9 L (j+1)=C9 L j:=by show(if 0<=L.getD j 0 then _ else _)=_;rw[if_neg h0]
    rw[<-hs]at hE;refine Aj (Ak (Ab (Ad (Qx (oA Y) Y (Qm Y (An ?_))))));exact Am (L.length-(j+1)) _ (by omega) ⟨j+1,mE,bs,Y,Y,Y,Y,by omega,hE⟩ Qs
  ·obtain rfl:j=L.length:=by omega
   refine Ay (Aa (Aa (Ag ?_)));exact Ao _ ⟨mE,bs,Y,Y,Y,hE⟩ Qs
 ·obtain⟨mE,bsE,rfl,rfl,rfl,hE⟩:=hI;refine Bt λh1 l1 lE=>?_;have hS:=hS.le l1;have hQ:=hQ.up l1;have hL:=hL.up l1;have lA:=AI lA l1;have e1:∀ms,Cell h1 ms (⟨gm,1,none⟩:Addr) vc:=λms=>Seg.all hS 1 _ Y ms;refine BO (Aw (Qm Y (Ap (Ac (Aw (Qm Y (Qm Y (Qf FD Y (Ql Y A9 (e1 _) (Qx (As hQ.rd.any Y A9 Y) Y (Qm Y (Ap (Ah ?_)))))))))))))
  refine AD (λq sl h' ms'=>∃(i:Nat) (vb:Value) (mb:Hp),q=S.length-i/\sl=[(0,.pointer (some ⟨gm,0,none⟩)),(1,vl),(5,.map (some gE)),(8,vb),(31,vc),(32,.int .i64 S.length),(33,.int .i64 i)]/\h1.le h'/\ms'=[mb]/\i<=S.length/\OwnL OG 6 43 mb vb (Fi (Dn (BI F)) S L i))
   (S.length-0) _ ⟨0,_,Hp.emp,rfl,rfl,B8,rfl,by omega,OwnL.nil JT⟩ Qs ?_
  rintro q sl h2 ms' ⟨i,vb,mb,rfl,rfl,l2,rfl,hi',hB⟩;have hS:=hS.le l2;have hQ:=hQ.up l2;have hL:=hL.up l2;have lA:=AI lA l2;have lE:=AI lE l2;have ovb:=hB.o1;refine Aw (Qm Y (Ap (Ac ?_)));refine Ax Y (λhlt=>?_) (λhlt=>?_)
  ·have hil:i<S.length:=by omega
   obtain⟨x,hx⟩:∃x,S[i]=x:=⟨_,Y⟩
   have hxm:x∈S:=by rw[<-hx];exact getElem_mem hil
   have hgx:S.getD i default=x:=by simp[List.getD,hil,hx]
   have hxI:=hi x hxm;have oxv:=(M.sds x hxm).rd.one;have hsx:∀ms,Seg h2 ms ((AJ vc).add (i*3)) (cC x):=λms=>by rw[<-hx];exact(hQ.any (ms:=ms)).seg hil
   refine Aj (Ab (Ac (Ah (Aw (Qm Y (Qx (BH (i) hQ.rd.any Y A9 AL Y Y) Y (Qx (oG Y D1 AL (hsx _)) Y (By [.int .i64 0,.int .i64 0,.slice none 0 0] Y AL Y Y (λg10=>Qm Y ?_)))))))));refine Sa 0 [_,_,_] AL Y (by simp[ol,oc,oxv,ovb]) ?_;refine Ap (AB λh3 l3 hS10=>?_);have e100:∀ms,Cell h3 ms (⟨g10,0,none⟩:Addr) (.int .i64 x.c.id):=λms=>Seg.all hS10 0 _ Y ms;have e101:∀ms,Cell h3 ms (⟨g10,1,none⟩:Addr) (.int .i64 x.c.dim):=λms=>Seg.all hS10 1 _ Y ms;have hS3:=hS.le l3;have a1:∀ms,Cell h3 ms (⟨gm,1,none⟩:Addr) vc:=λms=>Seg.all hS3 1 _ Y ms;have a2:∀ms,Cell h3 ms (⟨gm,2,none⟩:Addr) (.map (some gA)):=λms=>Seg.all hS3 2 _ Y ms;have hfx:(Bj (BI F) x.c.id).getD 0=Dn (BI F) x.c.id:=rfl;obtain⟨f,hf⟩:∃f,Dn (BI F)=f:=⟨_,Y⟩
   rw[hf]at hfx hB;have hBl:=Oq f S L i;obtain⟨bb,hbb⟩:∃bb,(Bj (C9 L L.length) (i:Int)).isSome=bb:=⟨_,Y⟩
   obtain⟨u,hu⟩:∃u,(Bj (C9 L L.length) (i:Int)).getD 0=u:=⟨_,Y⟩
   refine Ac (Bc 13 CZ (by kernel_rfl) Y (Wf BV Y (Wl Y U3 (e101 _) (Wm Y (Wm Y (Wf J1 Y (Wl Y Ll (a2 _) (Wf Bq Y (Wl Y U3 (e100 _) (AW (show OX _ _ _ _ _ (.int .i64 (f x.c.id)) from B9 (V:=kN) (z:=(0:Int)) (u:=f x.c.id) x.c.id hfx Bh hO (AI lA l3) Y Ll HJ Y Y hxI) Y Y (Wf Bq Y (Wl Y U3 (e100 _) (AW (Bm XY [.int .i64 0,.int .i64 0,.int .i64 0,.bool false,.int .i64 0,.int .i64 0] [(0,_),(1,_),(4,_)] [_,_,_,_,_,_] Y G9 Y Y Qt Y) Y Y (Wp (LR [.int .i64 0,.int .i64 0,.int .i64 0,.bool false,.int .i64 0,.int .i64 0] Y G9 Y) Y Y (Iv (λg11=>?_))))))))))))))));refine Sa 0 [_,_,_,_,_,_] G9 Y (by simp[Value.oneCell']) ?_;refine BN (Qm Y (Qm Y ?_));refine Qx (DD (V:=kN) (z:=(0:Int)) (i:Int) hu hbb Bh hE (AI lE l3) Y Ll HJ Y Y (by unfold BP;omega)) Y ?_;refine Qm Y (Qm Y (Qm Y (Qm Y (Qm Y (Ap (Ac (Ah (Aw (Qm Y (Qm Y (Ap ?_)))))))))));refine Bz Y (λhb=>?_) (λhb=>?_)
   ·obtain⟨j,hj⟩:∃j,Bj (C9 L L.length) (i:Int)=some j:=by rw[hb]at hbb;exact Option.isSome_iff_exists.1 hbb
    obtain⟨jn,hjn,rfl,hjL,_⟩:=GD hj;rw[hj]at hu;obtain rfl:(jn:Int)=u:=hu;have hjS:jn<S.length:=by omega
    obtain⟨y,hy⟩:∃y,S[jn]=y:=⟨_,Y⟩
    have hym:y∈S:=by rw[<-hy];exact getElem_mem hjS
    have hgy:S.getD jn default=y:=by simp[List.getD,hjS,hy]
    have hyI:=hi y hym
    have cy:∀ms,Cell h3 ms (((AJ vc).add (jn*3)).add 0) (.int .i64 y.c.id):=λms=>by
     have:Seg h3 ms ((AJ vc).add (jn*3)) (cC y):=by rw[<-hy];exact((hQ.up l3).any (ms:=ms)).seg hjS
     exact this 0 _ Y
    have hfy:(Bj (BI F) y.c.id).getD 0=f y.c.id:=by rw[<-hf];rfl
    have hbar:K5 f S L i=if f x.c.id<f y.c.id then [⟨x.c.dim,f x.c.id,f y.c.id,false,x.c.id,y.c.id⟩] else []:=by unfold K5;rw[hj];simp only[Int.toNat_natCast,hgx,hgy]
    have hQ3:=hQ.up l3;refine Aw (Qm Y (Qm Y (Qf FD Y (Ql Y A9 (a1 _) (Qm Y (Qx (BH (jn) hQ3.rd.any Y A9 AL Y Y) Y (Qf Bq Y (Ql Y U3 (cy _) (Qf Wu Y ?_)))))))));refine Af 0 _ Y Ba Y Y (by rfl) Y Y (by(simp;done)) rfl rfl ?_;refine Ap (Bc 6 CZ (by kernel_rfl) Y (Wm Y (Wm Y (Wf J1 Y (Wl Y Ll (a2 _) (Wf Wu Y (Wl Y U3 (Cell.blk 0 Y Y) (A4 (Qx (show OX _ _ _ _ _ (.int .i64 (f y.c.id)) from B9 (V:=kN) (z:=(0:Int)) (u:=f y.c.id) y.c.id hfy Bh hO (AI lA l3) Y Ll HJ Y Y hyI) Y (Qf VS Y ?_))))))))));refine Af 0 _ Y Ba Y Y (by rfl) Y Y (by(simp;done)) rfl rfl ?_;refine An (Ak (Ab (Aw (Qf Pt Y (Ql Y U4 (Cell.blk 0 Y Y) (Qm Y (Qg (oF ZU Y) Y (Qg (oL Y U3 (Cell.blk 0 Y Y)) Y (Qg (oF VS Y) Y (Qg (oL Y U3 (Cell.blk 0 Y Y)) Y (Qg (Df Y Y Y) Y (Qm Y (Ap ?_)))))))))))));refine Ax Y (λhbd=>?_) (λhbd=>?_)
    ·refine Ad (Qm Y (Qx (oG Y U43 G9 (Seg.blk 0 Y)) Y (Ar [_,_,_,_,_,_] Y WJ G9 Y (by rfl) Y Y (by omega) Y Y Y (λg93=>?_))));refine AZ 2 hB (RdL.one JT (x:=⟨x.c.dim,f x.c.id,f y.c.id,false,x.c.id,y.c.id⟩) Mh Y) Y WJ G9 Y (by omega) Y Y Y QK (by simp;omega) (by simp;omega) rfl rfl rfl (λvb2 mb2 hB2=>?_);refine Qm Y (An (Ak (Ab (Ad (Qx (oA Y) Y (Qm Y (An (AS (AS ?_)))))))));exact Am (S.length-(i+1)) _ (by omega) ⟨i+1,vb2,mb2,Y,Y,AI l2 l3,Y,by omega,by rw[hf,Er,hbar,if_pos hbd];exact hB2⟩ Qs
    ·refine Aj (Ak (Ab (Ad (Qx (oA Y) Y (Qm Y (An (AS ?_)))))));exact Am (S.length-(i+1)) _ (by omega) ⟨i+1,vb,mb,Y,Y,AI l2 l3,Y,by omega,by rw[hf,Er,hbar,if_neg hbd,append_nil];exact hB⟩ Qs
   ·have hj:Bj (C9 L L.length) (i:Int)=none:=by
     rw[hb]at hbb;cases h:Bj (C9 L L.length) (i:Int) with
     | none=>rfl
     | some j=>rw[h]at hbb;cases hbb
    have hil2:i<L.length:=by omega
    have hL3:=hL.up l3;have cL:∀ms,Cell h3 ms ((AJ vl).add (i*1)) (.int .i64 (L.getD i 0)):=λms=>by rw[show L.getD i 0=L[i] by simp[List.getD,hil2]];exact(hL3.any (ms:=ms)).cell0 hil2 Y
    have hbar:K5 f S L i=if L.getD i 0<0 then [⟨x.c.dim,f x.c.id,0,true,x.c.id,0⟩] else []:=by unfold K5;rw[hj];simp only[hgx]
    refine Aw (Qm Y (Qm Y (Qx (BH (i) hL3.rd.any Y A0 Ba Y Y) Y (Ql Y U3 (cL _) (Qm Y (Qm Y (Ap ?_)))))));refine Ax Y (λhneg=>?_) (λhneg=>?_)
    ·refine Ad (Qf Pt Y ?_);refine Af 0 _ Y WH Y Y (by rfl) Y Y (by(simp;done)) rfl rfl ?_;refine An (Ak (Ab (Aw (Qf Pt Y (Ql Y U4 (Cell.blk 0 Y Y) (Qm Y (Qk Y (Qk Y (Qk Y (Qk Y (Qk Y (Qm Y (Ap (BD Y (Ad (Qm Y (Qx (oG Y U43 G9 (Seg.blk 0 Y)) Y (Ar [_,_,_,_,_,_] Y WJ G9 Y (by rfl) Y Y (by omega) Y Y Y (λg93=>?_)))))))))))))))))));refine AZ 2 hB (RdL.one JT (x:=⟨x.c.dim,f x.c.id,0,true,x.c.id,0⟩) Mh Y) Y WJ G9 Y (by omega) Y Y Y QK (by simp;omega) (by simp;omega) rfl rfl rfl (λvb2 mb2 hB2=>?_);refine Qm Y (An (Ak (Ab (Ad (Qx (oA Y) Y (Qm Y (An (AS (AS ?_)))))))));exact Am (S.length-(i+1)) _ (by omega) ⟨i+1,vb2,mb2,Y,Y,AI l2 l3,Y,by omega,by rw[hf,Er,hbar,if_pos hneg];exact hB2⟩ Qs
    ·refine Ay (GC Y (Aa (Ag (Ab (Ad (Qx (oA Y) Y (Qm Y (An (AS ?_)))))))));exact Am (S.length-(i+1)) _ (by omega) ⟨i+1,vb,mb,Y,Y,AI l2 l3,Y,by omega,by rw[hf,Er,hbar,if_neg hneg,append_nil];exact hB⟩ Qs
  ·obtain rfl:i=S.length:=by omega
   refine Ay (Aa (Aa (Ag (Ab (Aw (Qm Y (Qm Y (Ap (Aq ?_)))))))));exact Az Y Y (⟨AI l1 l2,mb,Y,hB⟩)
structure PersF(p:Int)(F:List (Int×Int))(l S:List Ce)(R V:Nat->List Int):Prop where
 perm:(S.map Ce.c).Perm (cn l)
 srt:Nw (Dn (BI F)) S
 all:∃la,AllC p S S.length S.length R V la
noncomputable def Fa(S:List Ce)(R:Nat->List Int):List Int:=(range S.length).map λk=>Bn (R k)
theorem Kd(S:List Ce)(R:Nat->List Int):(Fa S R).length=S.length:=by unfold Fa;simp
theorem KB(S:List Ce)(R:Nat->List Int){k:Nat}(h:k<S.length):(Fa S R).getD k 0=Bn (R k):=by unfold Fa;simp[List.getD,h]
theorem RedM.pers{p:Int}{F:List (Int×Int)}{l S:List Ce}{R V:Nat->List Int}{gm:Nat}{h:Hp}(M:RedM p F l S R V gm h):PersF p F l S R V:=by obtain⟨gA,mA,bs,vc,vr,vv,Rs,Vs,la,_,_,_,_,_,_,_,_,_,_,A⟩:=M.ex;exact⟨M.perm,M.srt,la,A⟩
theorem PersF.lt{p:Int}{F:List (Int×Int)}{l S:List Ce}{R V:Nat->List Int}(P:PersF p F l S R V):∀x∈Fa S R,x<S.length:=λx hx=>by obtain⟨la,A⟩:=P.all;unfold Fa at hx;obtain⟨k,hk,rfl⟩:=List.mem_map.1 hx;have h1:=(G8 (R k)).2;rw[A.red.rl k (List.mem_range.1 hk)]at h1;exact h1
theorem PM(l:List Ce)(F:List (Int×Int))(v vf:Value)(p:Int)(hp:Hp)(hK:RgC l)(hR:RdC hp v l)(hF:RdL cV 2 hp [] vf F)(hV:Ls F)(hI:∀c,BP (Dn (BI F) c))(h0:Fz (cn l) F=(0,0))(hP:IsP p)(hl:l.length<=400):FnT Tryz.prog 15 #[.agg #[v],vf,.int .i64 p] hp [] (λr h' ms'=>hp.le h'/\∃(S:List Ce) (R V:Nat->List Int) (vb:Value) (mb:Hp),r=.tuple #[vb,.int .i64 0]/\ms'=[mb]/\OwnL OG 6 43 mb vb (Fi (Dn (BI F)) S (Fa S R) S.length)/\PersF p F l S R V):=by
 have o1:=hR.q.rd.one;have o2:=hF.rd.one;refine Av func15 ntmps15 Y Y (λw0 hw0=>?_);simp only[A3];refine Aw (AY [_] Y Y (by rfl) Y Y Y (λg3=>Qm Y (Qm Y (Ap (AB λh1 l1 hS=>?_)))));have hR:=hR.up l1;have hF:=hF.up l1;refine Aw (Qx (oG Y BJ AO (Seg.any hS)) Y (Qm Y (Qm Y (Qc call51 Y (Sf l F v vf p h1 hK hR hF hV h0 hP hl) (λrB h2 ms2 l2 hB=>?_)))));obtain⟨l2',gm,S,R,V,vl,ml,rfl,rfl,hO,M⟩:=hB;have P:=M.pers;have hSn:S.length<=400:=by have:=P.perm.length_eq;rw[length_map,C6]at this;omega
 have ovl:=hO.o1;refine Qm Y (Qm Y (Qm Y (Qm Y (Qm Y (Qm Y (Qm Y (Ap (Ac (Aw (Qm Y (Qm Y (Ap (Ax Y (λhc=>absurd hc (λh=>h Y)) (λhc=>Aj (Ab (Bu hO λh3 l3 hL=>?_))))))))))))))))
 have hSi:∀a∈S,BP a.c.id:=λa ha=>by have h1:a.c∈cn l:=P.perm.mem_iff.1 (List.mem_map.2 ⟨a,ha,Y⟩);have h2:=hK.F.rgt.pos _ h1;have h3:=hK.ci h1;unfold BP;omega
 have M3:RedM p F l S R V gm h3:=by obtain⟨gA,mA,bs,vc,vr,vv,Rs,Vs,la,a1,a2,a3,a4,a5,a6,a7,a8,a9,a10,A⟩:=M.ex;exact⟨⟨gA,mA,bs,vc,vr,vv,Rs,Vs,la,a1.le l3,a2,AI a3 l3,a4.up l3,a5.up l3,a6.up l3,a7,a8,λk hk=>(a9 k hk).up l3,λk hk=>(a10 k hk).up l3,A⟩,M.perm,M.srt,λa ha=>(M.sds a ha).up l3⟩
 refine Aw (Qm Y (Qm Y (Qc call52 Y (XF l S F R V (Fa S R) p gm vl h3 M3 hL hSn (Kd S R) P.lt hSi hI) (λrC h4 ms4 l4 hB=>?_))));obtain⟨l4',mb,rfl,hOb⟩:=hB;have ovb:=hOb.o1;refine Qm Y (Qm Y (Ap (Aq ?_)));exact BA Y Y Y (⟨AI l1 (AI l2 (AI l3 l4)),S,R,V,rC,mb,Y,Y,hOb,P⟩)
end Go.Proofs.Q

namespace Go.Proofs.Q
open Go.Proofs.Tryz
open Go.Eng Go.RowKit Go.Lin
def I4(rows cols:Int):Prop:=0<=rows/\0<=cols/\rows<=400/\cols<=400
instance (r c:Int):Decidable (I4 r c):=by unfold I4;infer_instance
theorem Ul(p r c:Int)(h:Hp)(hI:BP p):FnT Tryz.prog 185 #[.int .i64 p,.int .i64 r,.int .i64 c] h [] (λx _ _=>x=.bool (decide (IsP p/\I4 r c))):=by
 refine Av func185 ntmps185 Y Y (λw0 hw0=>?_);simp only[A3];refine Aw (Qm Y (BN (Qm Y (Qx (AR Y call54 Y (My _ _ hI _)) Y (Qm Y ?_)))));refine AU (t:=9) Y (λhs=>?_) (λhs=>?_)
 ·refine Qg (AC Y Y) Y (Qg (AC Y Y) Y (Qg (KW Y Y Y) Y (Qg (KJ Y Y Y) Y (Qm Y (Qm Y ?_)))));refine AU (t:=15) Y (λhs2=>?_) (λhs2=>?_)
  ·refine Qg (AC Y Y) Y (Qg (AC Y Y) Y (Qg (GV Y Y Y) Y (Qg (Mt Y Y Y) Y (Qm Y (Qm Y (Ap (Aq ?_)))))));exact Az Y Y (by unfold I4;congr 1;rw[decide_eq_decide];simp only[hs,true_and];omega)
  ·refine Qk Y (Qk Y (Qk Y (Qk Y (Qm Y (Qm Y (Ap (Aq ?_)))))));exact Az Y Y (by unfold I4;rw[decide_eq_false];rintro⟨_,h1⟩;omega)
 ·refine Qk Y (Qk Y (Qk Y (Qk Y (Qm Y (Qm Y (Qk Y (Qk Y (Qk Y (Qk Y (Qm Y (Qm Y (Ap (Aq ?_)))))))))))));exact Az Y Y (by rw[decide_eq_false];exact λh=>hs h.1)
theorem Vm(p r c:Int)(h:Hp)(hI:BP p)(ms:List Hp):FnV Tryz.prog 185 #[.int .i64 p,.int .i64 r,.int .i64 c] h ms (.bool (decide (IsP p/\I4 r c))):=by refine λw hw=>(?_:FnV _ _ _ h [] _) w (hw.weaken (B8) (List.nil_sublist _));exact FnT.toV (Ul p r c h hI)
variable {l:List Int}
def ZF(l:List Int)(p:Int->Bool):Int:=match l.findIdx? p with|some i=>i|none=>-1
theorem VQ{p:Int->Bool}{k:Nat}(hk:k<l.length)(hp:p l[k]=true)(hn:∀j (hj:j<k),p (l[j]'(by omega))=false):ZF l p=k:=by
 unfold ZF
 have:l.findIdx? p=some k:=by rw[List.findIdx?_eq_some_iff_getElem];exact⟨hk,hp,λj hj=>by simp[hn j hj]⟩
 rw[this]
theorem Wz{p:Int->Bool}(hn:∀j (hj:j<l.length),p l[j]=false):ZF l p=-1:=by
 unfold ZF
 have:l.findIdx? p=none:=by rw[List.findIdx?_eq_none_iff];intro x hx;obtain⟨j,hj,rfl⟩:=List.mem_iff_getElem.1 hx;exact hn j hj
 rw[this]
theorem WK(l:List Int)(p:Int->Bool):decide (0<=ZF l p)=l.any p:=by
 unfold ZF;cases h:l.findIdx? p with
 | none=>rw[List.findIdx?_eq_none_iff]at h;simp;exact h
 | some i=>
  rw[List.findIdx?_eq_some_iff_getElem]at h;obtain⟨h1,h2,_⟩:=h;simp;exact⟨_,getElem_mem h1,h2⟩
theorem Ms(l:List Int)(vl:Value)(cf:FuncId)(cs:List Value)(p:Int->Bool)(h:Hp)(hR:RdL cI 1 h [] vl l)
  (hc:∀xs w,(callFunc cf xs).run Tryz.prog w=.ok (.enter cf xs) w)
  (hp:∀b∈l,∀ms,FnV Tryz.prog cf ([]++[Value.int .i64 b]++cs).toArray h ms (.bool (p b))) :
  FnT Tryz.prog 269 #[vl,.func (.func cf) #[] cs.toArray] h [] (λr _ _=>r=.int .i64 (ZF l p)):=by
 have hl:=hR.len_le;refine Av func269 ntmps269 Y Y (λw0 hw0=>?_);simp only[A3];refine Aw (Qm Y (Ap (Ac (Aw (Qm Y (Qx (As hR.rd.any Y A0 Y) Y (Qm Y (Ap (Ah ?_)))))))))
 refine AD (λn s h' ms'=>∃(k:Nat),n=l.length-k/\s=[(0,vl),(1,.func (.func cf) #[] cs.toArray),(7,.int .i64 l.length),(8,.int .i64 k)]/\h=h'/\ms'=[]/\k<=l.length/\∀j (hj:j<l.length),j<k->p l[j]=false)
  (l.length-0) _ ⟨0,rfl,rfl,rfl,rfl,by omega,λj hj h=>by omega⟩ Qs ?_
 rintro n s h' ms' ⟨k,rfl,rfl,rfl,rfl,hk,hno⟩;refine Aw (Qm Y (Ap (Ac ?_)));refine Ax Y (λhlt=>?_) (λhlt=>?_)
 ·have hlt':k<l.length:=by omega
  refine Aj (Ab (Ac (Ah (Aw (Qm Y (Qm Y (BN (Qm Y (Qm Y (Qm Y (Qx (AM _ hR.rd.any Y A0 Ba Y Y Y (by omega)) Y (Ql Y U3 (hR.any.cell0 hlt' Y) (Qx (Ch Y Y hc Y (hp _ (getElem_mem hlt') _)) Y (Ap ?_))))))))))))));refine Bz Y (λhpk=>?_) (λhpk=>?_)
  ·refine Ac (Ad (Qm Y (Qm Y (Ap (Aq (Al (Ae (Ae (Al (Ae ?_))))))))));exact Az Y Y (by rw[VQ hlt' hpk λj hj=>hno j _ hj])
  ·refine Aj (Ak (Ab (Ad (Qx (oA Y) Y (Qm Y (An ?_))))));refine Am (l.length-(k+1)) _ (by omega) ⟨k+1,Y,Y,Y,Y,by omega,λj hj h1=>?_⟩ Qs;rcases (by omega:j<k\/j=k) with h2|rfl
   ·exact hno j hj h2
   ·exact hpk
 ·refine Ay (Aa (Aa (Ag (Ab (Aw (Qm Y (Ap (Aq ?_))))))));exact Az Y Y (by rw[Wz λj hj=>hno j hj (by omega)])
theorem JG(l:List Int)(vl:Value)(cf:FuncId)(cs:List Value)(p:Int->Bool)(h:Hp)(hR:RdL cI 1 h [] vl l)
  (hc:∀xs w,(callFunc cf xs).run Tryz.prog w=.ok (.enter cf xs) w)
  (hp:∀b∈l,∀ms,FnV Tryz.prog cf ([]++[Value.int .i64 b]++cs).toArray h ms (.bool (p b))) :
  FnT Tryz.prog 220 #[vl,.func (.func cf) #[] cs.toArray] h [] (λr _ _=>r=.bool (l.any p)):=by
 refine Av func220 ntmps220 Y Y (λw0 hw0=>?_);simp only[A3];refine Aw (Qm Y (BN (Qm Y (Qm Y (Qx (AR Y call269 Y (EX (Ms l vl cf cs p h hR hc hp) _)) Y (Qm Y (Qm Y (Ap (Aq ?_)))))))));exact Az Y Y (by rw[<-WK])
structure FM where
 p:Int
 rows:Int
 cols:Int
 e:List Int
def FM.nil:FM:=⟨0,0,0,[]⟩
def FM.Rt(M:FM):Prop:=IsP M.p/\I4 M.rows M.cols/\(M.e.length:Int)=M.rows*M.cols/\∀x∈M.e,0<=x/\x<M.p
instance (M:FM):Decidable M.Rt:=by unfold FM.Rt;infer_instance
structure FM.Ok(M:FM):Prop where
 p:BP M.p
 r:BP M.rows
 c:BP M.cols
def cM(M:FM)(ev:Value):List Value:=[.int .i64 M.p,.int .i64 M.rows,.int .i64 M.cols,ev]
theorem Tg(g:Nat)(n p:Int)(h:Hp)(hD:∀ms,Cell h ms ⟨g,0,none⟩ (.int .i64 p))(ms:List Hp):FnV Tryz.prog 221 ([]++[Value.int .i64 n]++[Value.pointer (some ⟨g,0,none⟩)]).toArray h ms (.bool (decide (n<0\/p<=n))):=by
 refine EX ?_ ms;show FnT _ _ #[.int .i64 n,.pointer (some ⟨g,0,none⟩)] _ _ _;refine Av func221 ntmps221 Y Y (λw0 hw0=>?_);simp only[A3];refine Aw (Qm Y (BN (Qm Y (Qm Y (Qm Y ?_)))));refine AU (t:=6) Y (λhs=>?_) (λhs=>?_)
 ·refine Qk Y (Qk Y (Qk Y (Qk Y (Qm Y (Qm Y (Ap (Aq ?_)))))));exact Az Y Y (by rw[decide_eq_true];exact .inl hs)
 ·refine Qg (AC Y Y) Y (Qg (oF FP Y) Y (Qg (oL Y U3 (hD _)) Y (Qg (KJ Y Y Y) Y (Qm Y (Qm Y (Ap (Aq ?_)))))));exact Az Y Y (by congr 1;rw[decide_eq_decide];omega)
theorem XD{p:Int}:(!l.any λn=>decide (n<0\/p<=n))=decide (∀x∈l,0<=x/\x<p):=by rw[Bool.eq_iff_iff];simp only[Bool.not_eq_true',List.any_eq_false,decide_eq_true_eq];exact⟨λh x hx=>by have:=h x hx;omega,λh x hx=>by have:=h x hx;omega⟩
theorem NF{r c:Int}(hF:I4 r c):0<=r*c/\r*c<=160000:=by obtain⟨h1,h2,h3,h4⟩:=hF;refine⟨Int.mul_nonneg h1 h2,?_⟩;have:=Int.mul_le_mul h3 h4 h2 (by omega:(0:Int)<=400);omega
theorem Wk(M:FM)(ev:Value)(h:Hp)(hO:M.Ok)(hR:RdL cI 1 h [] ev M.e):FnT Tryz.prog 183 #[.agg #[.int .i64 M.p,.int .i64 M.rows,.int .i64 M.cols,ev]] h [] (λr _ _=>r=.bool (decide M.Rt)):=by
 have hl:=hR.len_le;refine Av func183 ntmps183 Y Y (λw0 hw0=>?_);simp only[A3];refine Aw (AY [_,_,_,_] Y Y (by rfl) Y Y Y (λg1=>Qm Y (BN (Qf FP Y (Ql Y U3 (Cell.blk 0 Y Y) (Qf MA Y (Ql Y U3 (Cell.blk 0 Y Y) (Qf Ki Y (Ql Y U3 (Cell.blk 0 Y Y) (Qx (AR Y call185 Y (Vm _ _ _ _ hO.p _)) Y (Qm Y ?_)))))))))));refine AU (t:=10) Y (λhf=>?_) (λhf=>?_)
 ·have hm:=NF hf.2;refine Qg (oF HT Y) Y (Qg (oL Y A0 (Cell.blk 0 Y Y)) Y (Qg (As hR.rd.any Y A0 Y) Y (Qg (oF MA Y) Y (Qg (oL Y U3 (Cell.blk 0 Y Y)) Y (Qg (oF Ki Y) Y (Qg (oL Y U3 (Cell.blk 0 Y Y)) Y (Qg (oM Y) Y (Qg (CN Y Y Y) Y (Qm Y (Qm Y ?_))))))))));refine AU (t:=21) Y (λhe=>?_) (λhe=>?_)
  ·refine Qg (oF HT Y) Y (Qg (oL Y A0 (Cell.blk 0 Y Y)) Y (DX λh' hle hS=>?_));have hR:=hR.up hle;have hD:∀i v,(cM M ev)[i]?=some v->∀ms,Cell h' ms ((⟨g1,0,none⟩:Addr).add i) v:=λi v hv ms=>(hS i v hv).any;have hD0:∀ms,Cell h' ms ⟨g1,0,none⟩ (.int .i64 M.p):=λms=>hD 0 _ Y ms;refine Qg (BM Y Y Y) Y (Qg (AR Y call220 Y (EX (JG M.e ev 221 [.pointer (some ⟨g1,0,none⟩)] (λn=>decide (n<0\/M.p<=n)) h' hR call221 (λb _ ms=>Tg g1 b M.p h' hD0 ms)) _)) Y (Qg (Gj Y Y) Y (Qm Y (Qm Y (Ap (Aq ?_))))));exact Az Y Y (by rw[XD];congr 1;rw[decide_eq_decide];unfold FM.Rt;exact⟨λhx=>⟨hf.1,hf.2,he,hx⟩,λhx=>hx.2.2.2⟩)
  ·refine Qk Y (Qk Y (Qk Y (Qk Y (Qk Y (Qm Y (Qm Y (Ap (Aq ?_))))))));exact Az Y Y (by rw[decide_eq_false];exact λhx=>he hx.2.2.1)
 ·refine Qk Y (Qk Y (Qk Y (Qk Y (Qk Y (Qk Y (Qk Y (Qk Y (Qk Y (Qm Y (Qm Y (Qk Y (Qk Y (Qk Y (Qk Y (Qk Y (Qm Y (Qm Y (Ap (Aq ?_)))))))))))))))))));exact Az Y Y (by rw[decide_eq_false];exact λhx=>hf ⟨hx.1,hx.2.1⟩)
end Go.Proofs.Q

namespace Go.Proofs.Q
open Go.Proofs.Tryz
open Go.Eng Go.RowKit Go.Lin
def mkZ(p r c:Int):FM:=if IsP p/\I4 r c then⟨p,r,c,replicate (r*c).toNat 0⟩ else FM.nil
def mkM(p:Int)(r c:Nat)(f:Nat->Nat->Int):FM:=⟨p,r,c,DS r c f⟩
def YN(r:Value)(ms:List Hp)(M:FM):Prop:=∃ev m,ms=[m]/\r=.agg #[.int .i64 M.p,.int .i64 M.rows,.int .i64 M.cols,ev]/\OwnL cI 1 3 m ev M.e
theorem XC(p r c:Int)(h:Hp)(hI:BP p):FnT Tryz.prog 125 #[.int .i64 p,.int .i64 r,.int .i64 c] h [] (λv h' ms'=>h=h'/\YN v ms' (mkZ p r c)):=by
 refine Av func125 ntmps125 Y Y (λw0 hw0=>?_);simp only[A3];refine Aw (By [.int .i64 0,.int .i64 0,.int .i64 0,.slice none 0 0] Y EI Y Y (λg6=>Ap (Ac (Aw (Qm Y (Qm Y (Qm Y (Qx (AR Y call185 Y (Vm _ _ _ _ hI _)) Y (Qm Y (Ap ?_))))))))));refine Bz Y (λhf=>?_) (λhf=>?_)
 ·have hf:¬(IsP p/\I4 r c):=of_decide_eq_false (by simpa only [Bool.not_eq_true'] using hf);refine Aw (Qx (Bm Aa1 [.int .i64 0,.int .i64 0,.int .i64 0,.slice none 0 0] [] [_,_,_,_] Y EI Y Y Qt Y) Y ?_);refine Sa 0 [_,_,_,_] EI Y (by simp[Value.oneCell']) ?_;refine Ap (Aq (Ae (Nt ?_)));exact BB (vs:=[_,_,_,_]) 1 Y Y Vr Y EI Y Y (⟨Y,_,_,Y,by unfold mkZ;rw[if_neg hf];rfl,by unfold mkZ;rw[if_neg hf];exact OwnL.nil Bl⟩)
 ·have hf:IsP p/\I4 r c:=of_decide_eq_true (by simpa only [Bool.not_eq_false'] using hf);have hm:=NF hf.2;obtain⟨n,hn⟩:∃n:Nat,r*c=n:=⟨(r*c).toNat,by omega⟩
  refine Aj (Ab (Aw (Qm Y (Qm Y (Qm Y (Qm Y (Qm Y (Qx (oM Y) Y (CQ (n:=n) Y A0 Ba Y Y Y (by omega) (by omega) (by omega) (by omega) Y Y Y (λg19=>Qx (Bm Aa1 [.int .i64 0,.int .i64 0,.int .i64 0,.slice none 0 0] [(0,_),(1,_),(2,_),(3,_)] [_,_,_,_] Y EI Y Y Qt Y) Y ?_))))))))));refine Sa 1 [_,_,_,_] EI Y (by simp[Value.oneCell']) ?_;refine Ap (Aq ?_);exact BB (vs:=[_,_,_,_]) 1 Y Y Vr Y EI Y Y (⟨Y,_,_,Y,by unfold mkZ;rw[if_pos hf],by unfold mkZ;rw[if_pos hf,hn];exact OwnL.rep n 0 (by omega)⟩)
variable {p:Int} {r c:Nat} {f:Nat->Nat->Int}
def InP(p:Int)(r c:Nat)(f:Nat->Nat->Int):Prop:=∀i,i<r->∀j,j<c->0<=f i j/\f i j<p
structure RtM(p:Int)(r c:Nat)(f:Nat->Nat->Int):Prop where
 pr:IsP p
 rl:r<=400
 cl:c<=400
 en:InP p r c f
theorem RtM.bd(R:RtM p r c f):2<=p/\p<=997:=⟨R.pr.1,R.pr.2.1⟩
theorem RtM.i64(R:RtM p r c f):BP p:=⟨by have:=R.bd;omega,by have:=R.bd;omega⟩
theorem RtM.ok(R:RtM p r c f):(mkM p r c f).Ok:=⟨R.i64,⟨by have:=R.rl;show _<=(r:Int);omega,by have:=R.rl;show(r:Int)<=_;omega⟩,⟨by have:=R.cl;show _<=(c:Int);omega,by have:=R.cl;show(c:Int)<=_;omega⟩⟩
theorem RtM.rt(R:RtM p r c f):(mkM p r c f).Rt:=by have h1:=R.rl;have h2:=R.cl;refine⟨R.pr,by unfold I4 mkM;simp only;omega,by simp[mkM,DR],λx hx=>?_⟩;obtain⟨i,j,hi,hj,rfl⟩:=mem_mat.1 hx;exact R.en i hi j hj
theorem WM{ev:Value}{h:Hp}(R:RtM p r c f)(hR:RdL cI 1 h [] ev (DS r c f))(ms:List Hp):FnV Tryz.prog 183 #[.agg #[.int .i64 p,.int .i64 r,.int .i64 c,ev]] h ms (.bool true):=by have:=EX (Wk (mkM p r c f) ev h R.ok hR) ms;rw[decide_eq_true R.rt]at this;exact this
end Go.Proofs.Q

namespace Go.Proofs.Q
open Go.Proofs.Tryz
open Go.Eng Go.RowKit Go.Lin
def cR(p:Int)(r c:Nat)(ev:Value)(ov:List Value):List Value:=.int .i64 p::.int .i64 r::.int .i64 c::ev::ov
abbrev BR(g:Nat)(p:Int)(r c:Nat)(ev:Value)(ov:List Value):Hp:=Bw g 255 (cR p r c ev ov)
theorem JE(g:Nat)(p:Int)(r c:Nat)(f:Nat->Nat->Int)(ev:Value)(ov:List Value)(i:Nat)(h:Hp)(hS:Seg h [] ⟨g,0,none⟩ (cR p r c ev ov))(hR:RdL cI 1 h [] ev (DS r c f))(hi:i<r)(hr:r<=400)(hc:c<=800) :
  FnV Tryz.prog 223 #[.pointer (some ⟨g,0,none⟩),.int .i64 i] h [] (Ca 1 ev (i*c) ((i+1)*c)):=by
 refine FnT.toV ?_;have hA:=Seg.all hS;have hA0:=hA 0 _ Y;have e1:(i+1)*c=i*c+c:=by rw[Nat.add_mul,Nat.one_mul]
 have b1:(i+1)*c<=r*c:=Nat.mul_le_mul_right c hi;have b2:r*c<=400*800:=Nat.mul_le_mul hr hc;have el:(DS r c f).length=r*c:=DR _ _ _;have e3:((i:Int)+1)*c=i*c+c:=by rw[Int.add_mul,Int.one_mul]
 have hz:∀a:Addr,(a.add 0).add 3=a.add 3:=λa=>by rw[BZ]
 refine Av func223 ntmps223 Y Y (λw0 hw0=>?_);simp only[A3];refine Aw (Qm Y (Ap (Ac (BK (n:=22) (bs:=[true,true,true,true,true,true,true,true,true,true,true,true,true,true,true,true,true,true,true,true,true,false]) [true,true,true,true,true,true,true,true,true,true,true,true,true,true,true,true,true,true,true,true,true] CZ (by kernel_rfl) (by kernel_rfl) Y Y (Qq Y (Qq Y (QF FF Y (QF HT Y (QL Y A0 (hA _ _ Y _) (Qq Y (Qq Y (Qq Y (QF FF Y (QF Ki Y (QL Y U3 (hA _ _ Y _) (Qp Y (oM Y) (Qq Y (Qp Y (oA Y) (Qq Y (Qq Y (QF FF Y (QF Ki Y (QL Y U3 (hA _ _ Y _) (Qp Y (oM Y) (Qp Y (No (i*c) ((i+1)*c) hR.rd.any Y A0 Ba Y Y Y (by omega) (by omega) (by omega) (by omega)) ?_)))))))))))))))))))))))));unfold FK;simp only[cons_append,nil_append];refine Qo 21 Y (Qm Y (Qw (Qe (Ab (Aq ?_)))));exact Az Y Y (Y)
def turn(f:Nat->Nat->Int)(i:Nat)(G:Nat->Int)(k a b:Nat):Int:=if a=i/\b<k then G b else f a b
theorem turn_zero(f:Nat->Nat->Int)(i:Nat)(G:Nat->Int)(a b:Nat):turn f i G 0 a b=f a b:=if_neg (by omega)
theorem turn_at(f:Nat->Nat->Int)(i:Nat)(G:Nat->Int)(k:Nat):turn f i G k i k=f i k:=if_neg (by omega)
theorem turn_ne(f:Nat->Nat->Int)(i:Nat)(G:Nat->Int)(k a b:Nat)(h:a≠i):turn f i G k a b=f a b:=if_neg (by omega)
theorem turn_step(f:Nat->Nat->Int)(i:Nat)(G:Nat->Int)(k a b:Nat):Ka (turn f i G k) i k (G k) a b=turn f i G (k+1) a b:=by
 unfold Ka turn;by_cases h:a=i/\b=k
 ·rw[if_pos h,if_pos (by omega),h.2]
 ·rw[if_neg h];by_cases h2:a=i/\b<k
  ·rw[if_pos h2,if_pos (by omega)]
  ·rw[if_neg h2,if_neg (by omega)]
theorem turn_all(f:Nat->Nat->Int)(i:Nat)(G:Nat->Int)(c a b:Nat)(hb:b<c):turn f i G c a b=if a=i then G b else f a b:=by
 unfold turn;by_cases h:a=i
 ·rw[if_pos ⟨h,hb⟩,if_pos h]
 ·rw[if_neg (λx=>h x.1),if_neg h]
theorem Oy(r c:Nat)(f:Nat->Nat->Int)(i:Nat)(G:Nat->Int)(ev:Value)(m:Hp)(cf:FuncId)(fs:List Value)(h:Hp)(hO:OwnL cI 1 3 m ev (DS r c f))(hi:i<r)(hr:r<=400)(hc:c<=800)
  (hcf:∀xs w,(callFunc cf xs).run Tryz.prog w=.ok (.enter cf xs) w)
  (hG:∀k,k<c->∀m',OwnL cI 1 3 m' ev (DS r c (turn f i G k))->FnV Tryz.prog cf (fs++[Value.int .i64 k,Value.int .i64 (f i k)]++[]).toArray h [m'] (.int .i64 (G k))) :
  FnT Tryz.prog 225 #[Ca 1 ev (i*c) ((i+1)*c),.func (.func cf) fs.toArray #[]] h [m] (λx h' ms'=>h=h'/\∃m',ms'=[m']/\OwnL cI 1 3 m' ev (DS r c λa b=>if a=i then G b else f a b)):=by
 have ec:=CK c (f i);refine Av func225 ntmps225 Y Y (λw0 hw0=>?_);simp only[A3];refine Aw (Qm Y (Qx (As ((hO.rd (h:=h) (ms:=[m]) Mh).row hi).rd Y A0 Y) Y (Qm Y (Ap (Ah ?_)))))
 refine AD (λq s h' ms'=>∃(k:Nat) (m:Hp),q=c-k/\s=[(0,Ca 1 ev (i*c) ((i+1)*c)),(1,.func (.func cf) fs.toArray #[]),(6,Ca 1 ev (i*c) ((i+1)*c)),(7,.int .i64 ((GS c (f i)).length:Nat)),(8,.int .i64 k)]/\h=h'/\ms'=[m]/\k<=c/\OwnL cI 1 3 m ev (DS r c (turn f i G k)))
  (c-0) _ ⟨0,m,rfl,rfl,rfl,rfl,by omega,by rw[Cj (λa _ b _=>turn_zero f i G a b)];exact hO⟩ Qs ?_
 rintro q s h' ms' ⟨k,m,rfl,rfl,rfl,rfl,hk,hO⟩;refine Aw (Qm Y (Ap (Ac ?_)));refine Ax Y (λhlt=>?_) (λhlt=>?_)
 ·have hkc:k<c:=by omega
  have ek:=CK c (turn f i G k i)
  have hcell:Cell h [m] ((AJ (Ca 1 ev (i*c) ((i+1)*c))).add (k*1)) (.int .i64 (f i k)):=by have:=((hO.rd (h:=h) (ms:=[m]) Mh).row hi).ev hkc;rw[turn_at]at this;exact this
  refine Aj (Ab (Ac (Ah (Aw (Qm Y (Qx (AM _ ((hO.rd (h:=h) (ms:=[m]) Mh).row hi).rd Y A0 Ba Y Y Y (by omega)) Y (Ql Y U3 (hcell) (Qm Y (Qm Y (GH (Qm Y (Qm Y (Qm Y (Qm Y (Qm Y (Qx (Ch (cs:=[]) Y Y hcf Y (hG k hkc m hO)) Y (Qx (AM _ ((hO.rd (h:=h) (ms:=[m]) Mh).row hi).rd Y A0 Ba Y Y Y (by omega)) Y (F9 0 i k hO hi hkc Y Ba Y Y Y Y Y (λm' hO'=>An (Ak (Ab (Ad (Qx (oA Y) Y (Qm Y (An ?_)))))))))))))))))))))))));refine Am (c-(k+1)) _ (by omega) ⟨k+1,m',Y,Y,Y,Y,by omega,by rw[Cj (λa _ b _=>turn_step f i G k a b)]at hO';exact hO'⟩ Qs
 ·refine Ay (Aa (Aa (Ag ?_)));obtain rfl:k=c:=by omega
  exact B7 Y (⟨Y,m,Y,by rw[Cj (λa _ b hb=>turn_all f i G k a b hb)]at hO;exact hO⟩)
def swp(f:Nat->Nat->Int)(i j k a b:Nat):Int:=if b<k then f (Hy i j a) b else f a b
theorem Ox(f:Nat->Nat->Int)(i j k a b:Nat):Ka (Ka (swp f i j k) i k (f j k)) j k (f i k) a b=swp f i j (k+1) a b:=by
 unfold Ka swp Hy;by_cases h1:a=j/\b=k
 ·obtain⟨rfl,rfl⟩:=h1;rw[if_pos ⟨rfl,rfl⟩,if_pos (by omega)];by_cases h2:a=i
  ·subst h2;rw[if_pos rfl]
  ·rw[if_neg h2,if_pos rfl]
 ·rw[if_neg h1];by_cases h2:a=i/\b=k
  ·obtain⟨rfl,rfl⟩:=h2;rw[if_pos ⟨rfl,rfl⟩,if_pos (by omega),if_pos rfl]
  ·rw[if_neg h2];by_cases h3:b<k
   ·simp only[h3,show b<k+1 by omega,if_true]
   ·by_cases h4:b<k+1
    ·have hbk:b=k:=by omega
     have hai:¬a=i:=λe=>h2 ⟨e,hbk⟩;have haj:¬a=j:=λe=>h1 ⟨e,hbk⟩;simp only[h3,h4,hai,haj,if_true,if_false]
    ·simp only[h3,h4,if_false]
theorem ZT(f:Nat->Nat->Int)(i j k a:Nat):swp f i j k a k=f a k:=if_neg (by omega)
theorem Vg(f:Nat->Nat->Int)(i j a b:Nat):swp f i j 0 a b=f a b:=if_neg (by omega)
theorem Xk(f:Nat->Nat->Int)(i j c a b:Nat)(hb:b<c):swp f i j c a b=f (Hy i j a) b:=if_pos hb
theorem Yg(g:Nat)(p:Int)(r c:Nat)(f:Nat->Nat->Int)(ev:Value)(ov:List Value)(m:Hp)(i j:Nat)(h:Hp)(hO:OwnL cI 1 3 m ev (DS r c f))(hi:i<r)(hj:j<r)(hr:r<=400)(hc:c<=800) :
  FnT Tryz.prog 224 #[.pointer (some ⟨g,0,none⟩),.int .i64 i,.int .i64 j] h [BR g p r c ev ov,m] (λx h' ms'=>h=h'/\∃m',ms'=[BR g p r c ev ov,m']/\OwnL cI 1 3 m' ev (DS r c λa b=>f (Hy i j a) b)):=by
 have hRi:=(hO.rd (h:=h) (ms:=[m]) Mh).row hi;have ec:=CK c (f i);refine Av func224 ntmps224 Y Y (λw0 hw0=>?_);simp only[A3];refine Aw (Qm Y (Qm Y (Qx (AR Y call223 Y (CG λh' hl hm=>JE g p r c f ev ov _ h' (Seg.ofLe (hm _ Mh)) (hO.rdh (hm _ (List.Mem.tail _ Mh))) (by assumption) hr hc)) Y (Qm Y (Qm Y (Qx (AR Y call223 Y (CG λh' hl hm=>JE g p r c f ev ov _ h' (Seg.ofLe (hm _ Mh)) (hO.rdh (hm _ (List.Mem.tail _ Mh))) (by assumption) hr hc)) Y (Qm Y (Qm Y (BN (Qm Y (Qx (D7 hRi.rd Y A0 Y) Y (Qm Y (Ap (Ah ?_))))))))))))))
 refine AD (λq s h' ms'=>∃(k:Nat) (m:Hp),q=c-k/\s=[(6,Ca 1 ev (i*c) ((i+1)*c)),(7,Ca 1 ev (j*c) ((j+1)*c)),(16,.int .i64 ((GS c (f i)).length:Nat)),(17,.int .i64 k)]/\h=h'/\ms'=[BR g p r c ev ov,m]/\k<=c/\OwnL cI 1 3 m ev (DS r c (swp f i j k)))
  (c-0) _ ⟨0,m,rfl,rfl,rfl,rfl,by omega,by rw[Cj (λa _ b _=>Vg f i j a b)];exact hO⟩ Qs ?_
 rintro q s h' ms' ⟨k,m,rfl,rfl,rfl,rfl,hk,hO⟩;have eci:=CK c (swp f i j k i);have ecj:=CK c (swp f i j k j);refine Aw (Qm Y (Ap (Ac ?_)));refine Ax Y (λhlt=>?_) (λhlt=>?_)
 ·have hkc:k<c:=by omega
  have hR2:=λi hi=>(hO.rd (h:=h) (ms:=[BR g p r c ev ov,m]) (List.Mem.tail _ Mh)).row (i:=i) hi
  have hcell:∀i (hi:i<r),Cell h [BR g p r c ev ov,m] ((AJ (Ca 1 ev (i*c) ((i+1)*c))).add (k*1)) (.int .i64 (f i k)):=λi hi=>by have:=(hR2 i hi).ev hkc;rw[ZT]at this;exact this
  refine Aj (Ab ?_);refine A8 (λs h' ms'=>∃(m:Hp),s=[(6,Ca 1 ev (i*c) ((i+1)*c)),(7,Ca 1 ev (j*c) ((j+1)*c)),(16,.int .i64 ((GS c (f i)).length:Nat)),(17,.int .i64 k)]/\h=h'/\ms'=[BR g p r c ev ov,m]/\OwnL cI 1 3 m ev (DS r c (swp f i j (k+1)))) ?_ (λs h ms hI=>?_)
  ·refine Ah (Aw (Qm Y (Qm Y (Ap (BK (n:=16) (bs:=[true,true,true,true,true,true,true,false,true,true,true,false,true,false,true,false]) [true,true,true,true,true,true,true,false,true,true,true,false,true,false,true] CZ (by kernel_rfl) (by kernel_rfl) Y Y (Qq Y (Qq Y (Qq Y (Qq Y (Qq Y (Qq Y (Qp Y (BL _ (hR2 j hj).rd Y A0 Ba Y Y Y (by omega)) (Qq Y (Qq Y (Qp Y (BL _ (hR2 i hi).rd Y A0 Ba Y Y Y (by omega)) (Qp Y (BL _ (hR2 i hi).rd Y A0 Ba Y Y Y (by omega)) (Qp Y (BL _ (hR2 j hj).rd Y A0 Ba Y Y Y (by omega)) ?_)))))))))))))))));unfold FK;simp only[cons_append,nil_append];refine AG [7,11] (by kernel_rfl) Y ?_;refine Ai Y ?_ ?_
   ·refine Ql Y U3 (hcell j hj) (Qw (Qo 11 Y (Ql Y U3 (hcell i hi) (Qw (Qo 13 Y (F9 1 i k hO hi hkc Y Ba Y Y Y Y Y (λm1 hO1=>Qw (Qo 15 Y (F9 1 j k hO1 hj hkc Y Ba Y Y Y Y Y (λm2 hO2=>Qw (Qe (Ak ?_))))))))))));refine Ao _ ⟨m2,Y,Y,Y,by rw[Cj (λa _ b _=>Ox f i j k a b)]at hO2;exact hO2⟩ Qs
   refine Ai Y ?_ ?_
   ·refine Ql Y U3 (hcell i hi) (Qw (Qo 7 Y (Ql Y U3 (hcell j hj) (Qw (Qo 13 Y (F9 1 i k hO hi hkc Y Ba Y Y Y Y Y (λm1 hO1=>Qw (Qo 15 Y (F9 1 j k hO1 hj hkc Y Ba Y Y Y Y Y (λm2 hO2=>Qw (Qe (Ak ?_))))))))))));refine Ao _ ⟨m2,Y,Y,Y,by rw[Cj (λa _ b _=>Ox f i j k a b)]at hO2;exact hO2⟩ Qs
   exact AH
  obtain⟨m,rfl,rfl,rfl,hO⟩:=hI
  ·refine Ad (Qx (oA Y) Y (Qm Y (An ?_)));refine Am (c-(k+1)) _ (by omega) ⟨k+1,m,Y,Y,Y,Y,by omega,hO⟩ Qs
 ·refine Ay (Aa (Aa (Ag ?_)));obtain rfl:k=c:=by omega
  exact B7 Y (⟨Y,m,Y,by rw[Cj (λa _ b hb=>Xk f i j k a b hb)]at hO;exact hO⟩)
variable {p:Int} {n:Nat} {ov:List Int}
theorem JN{a b:Int}(ha:0<=a/\a<p)(hb:0<=b/\b<p)(hp:p<=997):0<=a*b/\a*b<=994009:=by refine⟨Int.mul_nonneg ha.1 hb.1,?_⟩;have:=Int.mul_le_mul (show a<=997 by omega) (show b<=997 by omega) hb.1 (by omega:(0:Int)<=997);omega
theorem Cg.pow{a b:Int}(h:Cg p a b):∀n:Nat,Cg p (a^n) (b^n)
 | 0=>Cg.of_eq (by rw[Int.pow_zero,Int.pow_zero])
 | n+1=>by rw[Int.pow_succ,Int.pow_succ];exact Cg.mul (Cg.pow h n) h
theorem WO(hp:IsP p)(h1:1<=n)(hn:(n:Int)<p){out:Int}(ho:Cg p out ((n:Int)^(p.toNat-2))):(n:Int)*out%p=1:=by
 have h2:=hp.1;have hd:¬p.toNat∣n:=λhd=>by have:=Nat.le_of_dvd (by omega) hd;omega
 have hf:=Vc hp.prm hd
 have h3:Cg p ((n:Int)*out) ((n:Int)^(p.toNat-1)):=by have:=Cg.mul (Cg.refl p (n:Int)) ho;rw[show p.toNat-1=(p.toNat-2)+1 by omega,Int.pow_succ,Int.mul_comm _ (n:Int)];exact this
 have h4:(n:Int)^(p.toNat-1)%p=1:=by
  have h5:((n^(p.toNat-1)%p.toNat:Nat):Int)=1:=by rw[hf];rfl
  rw[Int.natCast_emod,Int.natCast_pow,Int.toNat_of_nonneg (by omega)]at h5;exact h5
 rw[Cg.iff_mod.1 h3,h4]
def Ovk(p:Int)(ov:List Int):Prop:=ov.length=998/\∀n (h:n<ov.length),ov[n]=0\/(0<ov[n]/\ov[n]<p/\(n:Int)*ov[n]%p=1)
theorem Y9{r c:Nat}{ev:Value}(hn:n<ov.length):(cR p r c ev (ov.flatMap cI))[4+n*1]?=some (.int .i64 ov[n]):=by have:=EN Bl ov n hn 0 (.int .i64 ov[n]) Y;rw[Nat.add_zero]at this;rw[show 4+n*1=n*1+4 by omega];exact this
theorem Zw{r c:Nat}{ev:Value}(x:Int):(cR p r c ev (ov.flatMap cI)).set (4+n*1) (.int .i64 x)=cR p r c ev ((ov.set n x).flatMap cI):=by rw[show 4+n*1=n+1+1+1+1 by omega,<-Zd];rfl
theorem Ovk.set(H:Ovk p ov){x:Int}(h0:0<x)(h1:x<p)(h2:(n:Int)*x%p=1):Ovk p (ov.set n x):=by
 refine⟨by simp[H.1],λk hk=>?_⟩;rw[List.getElem_set];by_cases e:n=k
 ·subst e;rw[if_pos rfl];exact .inr ⟨h0,h1,h2⟩
 ·rw[if_neg e];exact H.2 k (by simpa using hk)
theorem OL(a:Int)(e:Nat):a^e=(a*a)^(e/2)*a^(e%2):=by
 conv=>lhs;rw[<-Nat.div_add_mod e 2,Int.pow_add,Int.pow_mul]
 rw[show a^2=a*a by rw[Int.pow_succ,Int.pow_succ,Int.pow_zero,Int.one_mul]]
theorem SF(g:Nat)(p:Int)(r c:Nat)(ev:Value)(ov:List Int)(n:Nat)(h:Hp)(hp:IsP p)(hov:Ovk p ov)(h1n:1<=n)(hn:(n:Int)<p) :
  FnT Tryz.prog 226 #[.pointer (some ⟨g,0,none⟩),.int .i64 n] h [BR g p r c ev (ov.flatMap cI)] (λx h' ms'=>h=h'/\∃(v:Int) (ov':List Int),x=.int .i64 v/\ms'=[BR g p r c ev (ov'.flatMap cI)]/\Ovk p ov'/\0<v/\v<p/\(n:Int)*v%p=1):=by
 have hb:2<=p/\p<=997:=⟨hp.1,hp.2.1⟩
 have hl:=hov.1;have hnl:n<ov.length:=by omega
 have hc:=hov.2 n hnl
 have hcell:Cell h [BR g p r c ev (ov.flatMap cI)] (((⟨g,0,none⟩:Addr).add 4).add (n*1)) (.int .i64 ov[n]):=by rw[BZ];exact Cell.blk 0 Y (Y9 hnl)
 have hP:∀ov':List Value,Cell h [BR g p r c ev ov'] (((⟨g,0,none⟩:Addr).add 0).add 0) (.int .i64 p):=λov'=>by rw[BZ];exact Cell.blk 0 Y Y
 refine Av func226 ntmps226 Y Y (λw0 hw0=>?_);simp only[A3];refine Aw (Qm Y (Ap (Ac (Aw (Qm Y (Qm Y (Qm Y (Qf Mx Y (Qx (CH (n) Y Zf Ba Y Y (by omega) (by omega)) Y (Ql Y U3 (hcell) (Qm Y (Ap ?_))))))))))));refine Ax Y (λhpos=>?_) (λhpos=>?_)
 ·have hc:0<ov[n]/\ov[n]<p/\(n:Int)*ov[n]%p=1:=by
   rcases hc with h0|h0
   ·omega
   ·exact h0
  refine Aw (Qm Y (Qm Y (Qm Y (Qf Mx Y (Qx (CH (n) Y Zf Ba Y Y (by omega) (by omega)) Y (Ql Y U3 (hcell) (Qm Y (Ap (Aq (Ae ?_))))))))));exact Az Y Y (⟨Y,_,ov,Y,Y,hov,hc.1,hc.2.1,hc.2.2⟩)
 ·refine Aj (Ab (Aw (Qm Y (Qm Y (Qm Y (Ap (Ac (Aw (Qm Y (Qm Y (Qf FF Y (Qf FP Y (Ql Y U3 (hP _) (Qx (oS Y) Y (Qm Y (Ap (Ah ?_)))))))))))))))))
  refine AD (λq s h' ms'=>∃(e:Nat) (out pw y:Int),q=e/\s=[(0,.pointer (some ⟨g,0,none⟩)),(1,.int .i64 n),(5,.int .i64 out),(6,.int .i64 pw),(7,.int .i64 y)]/\h=h'/\ms'=[BR g p r c ev (ov.flatMap cI)]/\y=e/\e<=1000/\0<=out/\out<p/\0<=pw/\pw<p/\Cg p (out*pw^e) ((n:Int)^(p.toNat-2)))
   (p.toNat-2) _ ⟨p.toNat-2,1,(n:Int),p-2,rfl,rfl,rfl,rfl,by omega,by omega,by omega,by omega,by omega,by omega,by rw[Int.one_mul];exact Cg.refl _ _⟩ Qs ?_
  rintro e s h' ms' ⟨e',out,pw,y,rfl,rfl,rfl,rfl,rfl,he,o1,o2,q1,q2,hcg⟩;have b1:=JN ⟨o1,o2⟩ ⟨q1,q2⟩ hb.2;have b2:=JN ⟨q1,q2⟩ ⟨q1,q2⟩ hb.2;have m1:=Int.emod_nonneg (out*pw) (show p≠0 by omega);have m2:=Int.emod_lt_of_pos (out*pw) (show 0<p by omega);have m3:=Int.emod_nonneg (pw*pw) (show p≠0 by omega);have m4:=Int.emod_lt_of_pos (pw*pw) (show 0<p by omega);have hh:Cg p ((pw*pw%p)^(e/2)) ((pw*pw)^(e/2)):=Cg.pow (Cg.mod _ _) _;refine Ac (Aw (Qm Y (Qm Y (Ap ?_))));refine Ax Y (λhlt=>?_) (λhlt=>?_)
  ·refine Aj (Ab (Ac (Ah (Ac (Aw (Qm Y (Qx (TV Y Y Y (by omega)) Y (Qm Y (Ap ?_)))))))));refine Ax Y (λhodd=>?_) (λhodd=>?_)
   ·refine Ad (Qm Y (Qm Y (Qx (oM Y) Y (Qm Y (Qm Y (Qf FF Y (Qf FP Y (Ql Y U3 (hP _) (Qx (Cf Y Y Y (by omega) (by omega)) Y (Qm Y (GH (Qm Y (Qm Y (Qx (oM Y) Y (Qm Y (Qm Y (Qf FF Y (Qf FP Y (Ql Y U3 (hP _) (Qx (Cf Y Y Y (by omega) (by omega)) Y (Qm Y (An (Ak (Ab (Ad (Qm Y (Qx (Mm (n:=1) Y Y Y (by omega)) Y (Qm Y (An ?_)))))))))))))))))))))))))))));refine Am (e/2) _ (by omega) ⟨e/2,out*pw%p,pw*pw%p,((e/2:Nat):Int),Y,Y,Y,Y,Y,by omega,m1,m2,m3,m4,?_⟩ Qs;refine Cg.trans (Cg.mul (Cg.mod _ _) hh) (Cg.trans (Cg.of_eq ?_) hcg);rw[OL pw e,show e%2=1 by omega,Int.pow_succ,Int.pow_zero,Int.one_mul,Int.mul_assoc,Int.mul_comm pw]
   ·refine Aj (Ab (Ad (Qm Y (Qm Y (Qx (oM Y) Y (Qm Y (Qm Y (Qf FF Y (Qf FP Y (Ql Y U3 (hP _) (Qx (Cf Y Y Y (by omega) (by omega)) Y (Qm Y (An (Ak (Ab (Ad (Qm Y (Qx (Mm (n:=1) Y Y Y (by omega)) Y (Qm Y (An ?_))))))))))))))))))));refine Am (e/2) _ (by omega) ⟨e/2,out,pw*pw%p,((e/2:Nat):Int),Y,Y,Y,Y,Y,by omega,o1,o2,m3,m4,?_⟩ Qs;refine Cg.trans (Cg.mul (Cg.refl _ _) hh) (Cg.trans (Cg.of_eq ?_) hcg);rw[OL pw e,show e%2=0 by omega,Int.pow_zero,Int.mul_one]
  ·obtain rfl:e=0:=by omega
   rw[Int.pow_zero,Int.mul_one]at hcg;have hinv:=WO hp h1n hn hcg
   have hout:0<out:=by
    rcases (by omega:out=0\/0<out) with h0|h0
    ·subst h0;simp at hinv
    ·exact h0
   refine Ay (Aa (Aa (Ag (Ab (Aw (Qm Y (Qm Y (Qm Y (Qm Y (Qf Mx Y (Qx (CH (n) Y Zf Ba Y Y (by omega) (by omega)) Y ?_)))))))))));refine Af 0 (4+n*1) Y Ba Y Y Y Y (BZ _ _ _) (by show _<(_::_::_::_::_:List Value).length;simp only[length_cons,Bg Bl,hl];omega) rfl rfl ?_;rw[Zw];refine BN (Qm Y (Qm Y (Ap (Aq ?_))));exact Az Y Y (⟨Y,out,ov.set n out,Y,Y,hov.set hout o2 hinv,hout,o2,hinv⟩)
theorem Wj(g:Nat)(p:Int)(r c:Nat)(ev:Value)(ov:List Int)(n:Int)(h:Hp)(hp:IsP p)(hov:Ovk p ov)(h1n:1<=n)(hn:n<p) :
  FnT Tryz.prog 226 #[.pointer (some ⟨g,0,none⟩),.int .i64 n] h [BR g p r c ev (ov.flatMap cI)] (λx h' ms'=>h=h'/\∃(v:Int) (ov':List Int),x=.int .i64 v/\ms'=[BR g p r c ev (ov'.flatMap cI)]/\Ovk p ov'/\0<v/\v<p/\n*v%p=1):=by
 obtain⟨k,rfl⟩:=Int.eq_ofNat_of_zero_le (show 0<=n by omega);exact SF g p r c ev ov k h hp hov (by omega) hn
end Go.Proofs.Q

namespace Go.Proofs.Q
open Go.Proofs.Tryz
open Go.Eng Go.RowKit Go.Lin
theorem XQ(t p k n:Int)(h:Hp)(hp:IsP p)(hn:0<=n/\n<p)(ht:0<=t/\t<p)(ms:List Hp) :
  FnV Tryz.prog 227 #[.agg #[.slice none 0 0,.int .i64 t,.int .i64 p],.int .i64 k,.int .i64 n] h ms (.int .i64 (n*t%p)):=by
 refine EX ?_ ms;have hb:2<=p/\p<=997:=⟨hp.1,hp.2.1⟩
 have b1:=JN hn ht hb.2;refine Av func227 ntmps227 Y Y (λw0 hw0=>?_);simp only[A3];refine Aw (AY [_,_,_] Y Y (by rfl) Y Y Y (λg3=>Qm Y (BN (Qm Y (Qf RC Y (Ql Y U3 (Cell.blk 0 Y Y) (Qx (oM Y) Y (Qf RJ Y (Ql Y U3 (Cell.blk 0 Y Y) (Qx (Cf Y Y Y (by omega) (by omega)) Y (Qm Y (Ap (Aq ?_)))))))))))));exact Az Y Y (Y)
theorem ZZ(r c:Nat)(F:Nat->Nat->Int)(ev:Value)(at_ k:Nat)(t p n:Int)(h:Hp)(hR:RdL cI 1 h [] ev (DS r c F))(ha:at_<r)(hk:k<c)(hp:IsP p)(hn:0<=n/\n<p)(hF:0<=F at_ k/\F at_ k<p)(ht:0<=t/\t<p) :
  FnV Tryz.prog 228 #[.agg #[Ca 1 ev (at_*c) ((at_+1)*c),.int .i64 t,.int .i64 p],.int .i64 k,.int .i64 n] h [] (.int .i64 ((n+F at_ k*t)%p)):=by
 refine FnT.toV ?_;have hb:2<=p/\p<=997:=⟨hp.1,hp.2.1⟩
 have b1:=JN hF ht hb.2;have hRa:=hR.row ha;have ea:=CK c (F at_);refine Av func228 ntmps228 Y Y (λw0 hw0=>?_);simp only[A3];refine Aw (AY [_,_,_] Y Y (by rfl) Y Y Y (λg3=>Qm Y (Ap (AB λh' hle hS=>?_))));have hRa:=hRa.up hle;have hA:=Seg.all hS;have hA0:=hA 0 _ Y;refine Ac (BK (n:=14) (bs:=[true,true,true,true,true,true,true,true,true,true,true,true,true,false]) [true,true,true,true,true,true,true,true,true,true,true,true,true] CZ (by kernel_rfl) (by kernel_rfl) Y Y (Qq Y (QF Yk Y (QL Y A0 (hA _ _ Y _) (Qq Y (Qp Y (BH (k) hRa.rd.any Y A0 Ba Y Y) (QL Y U3 (hRa.any.ev hk) (QF RC Y (QL Y U3 (hA _ _ Y _) (Qp Y (oM Y) (Qp Y (oA Y) (QF RJ Y (QL Y U3 (hA _ _ Y _) (Qp Y (Cf Y Y Y (by omega) (by omega)) ?_))))))))))))));unfold FK;simp only[cons_append,nil_append];refine Qo 13 Y (Qm Y (Qw (Qe (Ab (Aq ?_)))));exact Az Y Y (Y)
theorem VO(l:List Int)(v:Value)(h:Hp)(hR:RdL cI 1 h [] v l)(hl:l.length<=1000000):FnT Tryz.prog 222 #[v] h [] (λx h' ms'=>h=h'/\∃m,ms'=[m]/\OwnL cI 1 3 m x l):=by
 refine Av func222 ntmps222 Y Y (λw0 hw0=>?_);simp only[A3];refine Aw (Qm Y (Ap (Ac (Aw (Qm Y (Qx (Kg hR.rd.any Y A0 Y Y) Y (Ap ?_)))))));refine Bz Y (λhn=>?_) (λhn=>?_)
 ·have h0:=Jf hR.rd hn;obtain rfl:l=[]:=List.eq_nil_of_length_eq_zero h0;refine Aw (Qm Y (Ap (Aq (Ae (Nt ?_)))));exact Az Y Y (⟨Y,_,Y,OwnL.nil Bl⟩)
 ·refine Aj (Ab (Aw ?_));refine AA [] [] [] rfl A0 Ba rfl (by omega) (by kernel_rfl) (by repeat (first|exact trivial|refine⟨⟨by first|rfl|exact(hR.rd.any).cells|exact Rd.cells ‹_›|exact(RdL.rd ‹_›).cells,rfl,rfl⟩,?_⟩)) rfl rfl rfl rfl (λg5=>?_);refine Qm rfl ?_;have hO:OwnL cI 1 3 (Bw g5 3 []) (.slice (some ⟨g5,0,none⟩) 0 0) []:=OwnL.blk (l:=([]:List Int)) 0 Bl rfl (by omega);refine AZ 0 hO hR.any rfl A0 Ba rfl (by omega) rfl rfl rfl Ck (by simp;omega) (by simp;omega) rfl rfl rfl (λv' m' hO'=>?_);refine Qm rfl (Ap (Aq ?_));exact Az rfl rfl (⟨rfl,m',rfl,hO'⟩)
theorem ZD{o:Oper}{s:AF}{h:Hp}{ms:List Hp}{x:Operand}{p:Int}{r c:Nat}{ev':Value}(ho:o.op=.build 255 #[(0,x)])(hx:ev s x=some (.agg #[.int .i64 p,.int .i64 r,.int .i64 c,ev']))(h1:ev'.oneCell'=true) :
  OX Tryz.prog o s h ms (.agg (cR p r c ev' (replicate 998 (.int .i64 0))).toArray):=
 Bm AaE ([.int .i64 0,.int .i64 0,.int .i64 0,.slice none 0 0]++replicate 998 (.int .i64 0)) [(0,[.int .i64 p,.int .i64 r,.int .i64 c,ev'])] _ (lp:=[(0,x)]) (vs:=[(0,.agg #[.int .i64 p,.int .i64 r,.int .i64 c,ev'])]) ho Aaw (by kernel_rfl) (by simp only[Y0,hx]) ⟨⟨rfl,rfl,rfl⟩,trivial⟩ rfl
def WG(pv:List Nat):List Int:=pv.map λ(k:Nat)=>(k:Int)
theorem ME(pv:List Nat):(WG pv).length=pv.length:=by simp[WG]
theorem T6{h:Hp}{ms:List Hp}{m2:Hp}{vp:Value}{pv:List Nat}(O:OwnL cI 1 3 m2 vp (WG pv))(hm:m2∈ms):Rd h ms vp 1 pv.length ((WG pv).flatMap cI):=by
 have:=(O.rd (h:=h) hm).rd
 rwa [ME]at this
theorem Aa9(p:Int):Ovk p (replicate 998 0):=⟨length_replicate,λn hn=>.inl (List.getElem_replicate _)⟩
def Mb(p:Int)(t i j:Nat)(v:Int)(F:Nat->Nat->Int)(k a b:Nat):Int:=if a<k then Ph p t i j v F a b else Ef p t i v F a b
theorem YR(p:Int)(t i j:Nat)(v:Int)(F:Nat->Nat->Int)(k b:Nat):Mb p t i j v F k t b=Ef p t i v F t b:=by
 unfold Mb;split
 ·unfold Ph;rw[if_pos rfl]
 ·rfl
theorem QH(p:Int)(t i j:Nat)(v:Int)(F:Nat->Nat->Int)(k b:Nat):Mb p t i j v F k k b=Ef p t i v F k b:=if_neg (by omega)
theorem Vo(p:Int)(t i j:Nat)(v:Int)(F:Nat->Nat->Int)(k a b:Nat)(hk:k≠t):(if a=k then(Ef p t i v F k b+Ef p t i v F t b*(p-Ef p t i v F k j))%p else Mb p t i j v F k a b)=Mb p t i j v F (k+1) a b:=by
 unfold Mb;by_cases h:a=k
 ·subst h;rw[if_pos rfl,if_pos (by omega)];unfold Ph;rw[if_neg hk]
 ·rw[if_neg h];by_cases h2:a<k
  ·rw[if_pos h2,if_pos (by omega)]
  ·rw[if_neg h2,if_neg (by omega)]
theorem OP(p:Int)(t i j:Nat)(v:Int)(F:Nat->Nat->Int)(k a b:Nat)(h:k=t\/(Ef p t i v F k j=0/\0<=Ef p t i v F k b/\Ef p t i v F k b<p)):Mb p t i j v F k a b=Mb p t i j v F (k+1) a b:=by
 unfold Mb;by_cases h1:a<k
 ·rw[if_pos h1,if_pos (by omega)]
 ·rw[if_neg h1];by_cases h2:a=k
  ·subst h2;rw[if_pos (by omega)];unfold Ph;rcases h with rfl|⟨h3,h4,h5⟩
   ·rw[if_pos rfl]
   ·by_cases h6:a=t
    ·rw[if_pos h6,h6]
    ·rw[if_neg h6,h3,Int.sub_zero,Int.add_mul_emod_self_right,Int.emod_eq_of_lt h4 h5]
  ·rw[if_neg (by omega)]
theorem TI(p:Int)(t i j:Nat)(v:Int)(F:Nat->Nat->Int)(a b:Nat):(if a=t then F (Hy t i t) b*v%p else F (Hy t i a) b)=Mb p t i j v F 0 a b:=by unfold Mb Ef;rw[if_neg (show ¬a<0 by omega)]
theorem XK(p:Int)(t i j:Nat)(v:Int)(F:Nat->Nat->Int)(r a b:Nat)(ha:a<r):Mb p t i j v F r a b=Ph p t i j v F a b:=if_pos ha
theorem Aab{p:Int}(hp:2<=p){r c t i:Nat}{v:Int}{F:Nat->Nat->Int}(ht:t<r)(hi:i<r)(hF:∀a,a<r->∀b,b<c->0<=F a b/\F a b<p)(a:Nat)(ha:a<r)(b:Nat)(hb:b<c):0<=Ef p t i v F a b/\Ef p t i v F a b<p:=by
 unfold Ef;split
 ·exact⟨Int.emod_nonneg _ (by omega),Int.emod_lt_of_pos _ (by omega)⟩
 ·exact hF _ (GZ ht hi ha) b hb
theorem Uy(pv:List Nat)(j:Nat):WG pv++[(j:Int)]=WG (pv++[j]):=by simp[WG]
theorem Xn{h:Hp}{ms:List Hp}{g:Nat}{p:Int}{r c:Nat}{ev:Value}{ov:List Value}(hm:ms[0]?=some (BR g p r c ev ov)):Seg h ms ((⟨g,0,none⟩:Addr).add 0) [.int .i64 p,.int .i64 r,.int .i64 c,ev]:=λk u hu=>by
 rw[BZ,Nat.zero_add];refine Cell.blk 0 hm ?_;rcases k with _|_|_|_|k
 ·exact hu
 ·exact hu
 ·exact hu
 ·exact hu
 ·simp at hu
structure Ech(p:Int)(r c:Nat)(f F:Nat->Nat->Int)(pv:List Nat):Prop where
 red:Go.Lin.Red p r c f F pv c
theorem QG(p:Int)(r c:Nat)(f:Nat->Nat->Int)(ev:Value)(h:Hp)(hp:IsP p)(hr:r<=400)(hc:c<=800)(hf:InP p r c f)(hR:RdL cI 1 h [] ev (DS r c f)) :
  FnT Tryz.prog 184 #[.agg #[.int .i64 p,.int .i64 r,.int .i64 c,ev]] h [] (λx h' ms'=>h.le h'/\∃(F:Nat->Nat->Int) (pv:List Nat) (eu vp:Value) (m m2:Hp),x=.tuple #[.agg #[.int .i64 p,.int .i64 r,.int .i64 c,eu],vp]/\ms'=[m,m2]/\OwnL cI 1 3 m eu (DS r c F)/\OwnL cI 1 3 m2 vp (WG pv)/\Ech p r c f F pv):=by
 have hb:2<=p/\p<=997:=⟨hp.1,hp.2.1⟩
 have e1:=hR.rd.one;have b2:r*c<=400*800:=Nat.mul_le_mul hr hc;have el:(DS r c f).length=r*c:=DR _ _ _;refine Av func184 ntmps184 Y Y (λw0 hw0=>?_);simp only[A3];refine Aw (AY [_,_,_,_] Y Y (by rfl) Y Y Y (λg1=>By [.int .i64 0,.int .i64 0,.int .i64 0,.slice none 0 0] Y EI Y Y (λg2=>Qm Y (Ap (Ug (Aw (Qf HT Y (Ql Y A0 (Cell.blk 1 Y Y) (Qc call222 Y (VO (DS r c f) ev h hR (by omega)) (λeu h1 ms1 l1 hF=>?_))))))))));obtain⟨rfl,m,rfl,hO⟩:=hF;have e2:=hO.o1;refine Qf HT Y ?_;refine Af 2 _ Y Cw Y Y (by assumption) Y Y (by(simp;done)) rfl rfl ?_;refine Ap (Bk 2 Y λh' hle hS=>?_);have hA:=Seg.all hS;have hA0:=hA 0 _ Y;refine Aw (Qx (oG Y Vr EI (Seg.any hS)) Y (Qx (ZD Y Y e2) Y (AY (cR p r c eu (replicate 998 (.int .i64 0))) Y Y Y Y Y Y (λg17=>?_))));rw[TM];refine Qm Y (BN (Qm Y (Ap (Ac (Wg (Ab (BO (Ig (ms':=[BR g17 p r c eu ((replicate 998 0).flatMap cI),m,Hp.emp,Bw g2 65 [.int .i64 0,.int .i64 0,.int .i64 0,.slice none 0 0]]) ((List.Perm.swap _ _ _).trans ((List.Perm.swap _ _ _).cons _)) (Ac (Aw (Qf Ki Y (Ql Y U3 (hA _ _ Y _) (Qm Y (Ap (Ah ?_)))))))))))))))
 refine AD (λq s hh ms'=>∃(j:Nat) (F:Nat->Nat->Int) (pv:List Nat) (vp:Value) (ov:List Int) (m m2:Hp),q=c-j/\s=[(1,.pointer (some ⟨g1,0,none⟩)),(2,.pointer (some ⟨g2,0,none⟩)),(4,.pointer (some ⟨g17,0,none⟩)),(5,vp),(19,.int .i64 c),(20,.int .i64 j)]/\h'=hh/\ms'=[BR g17 p r c eu (ov.flatMap cI),m,m2,Bw g2 65 [.int .i64 0,.int .i64 0,.int .i64 0,.slice none 0 0]]/\j<=c/\OwnL cI 1 3 m eu (DS r c F)/\OwnL cI 1 3 m2 vp (WG pv)/\Go.Lin.Red p r c f F pv j/\Ovk p ov)
  (c-0) _ ⟨0,f,[],_,replicate 998 0,m,_,rfl,rfl,rfl,rfl,by omega,hO,OwnL.nil Bl,Go.Lin.Red.start hf,Aa9 p⟩ Qs ?_
 rintro q s hh ms' ⟨j,F,pv,vp,ov,m,m2,rfl,rfl,rfl,rfl,hj,hO,hO2,hRed,hov⟩;have hP:=λms hm=>T6 (h:=h') (ms:=ms) hO2 hm;have ovp:=(hP [m2] Mh).one;have hlr:=hRed.len;refine Aw (Qm Y (Ap (Ac ?_)));refine Ax Y (λhlt=>?_) (λhlt=>?_)
 ·have hjc:j<c:=by omega
  refine Aj (Ab (Ac (Ah (Aw (Qm Y (Qm Y (BN (Qm Y (Qx (As (hP _ (List.Mem.tail _ (List.Mem.tail _ Mh))) Y A0 Y) Y (Qm Y (BN (Qm Y (Qm Y (Ap (Ah ?_)))))))))))))))
  refine AD (λq s hh ms'=>∃(i:Nat),q=r-i/\s=[(1,.pointer (some ⟨g1,0,none⟩)),(2,.pointer (some ⟨g2,0,none⟩)),(4,.pointer (some ⟨g17,0,none⟩)),(5,vp),(6,.int .i64 j),(7,.int .i64 pv.length),(8,.int .i64 i),(19,.int .i64 c),(20,.int .i64 j)]/\h'=hh/\ms'=[BR g17 p r c eu (ov.flatMap cI),m,m2,Bw g2 65 [.int .i64 0,.int .i64 0,.int .i64 0,.slice none 0 0]]/\pv.length<=i/\i<=r/\∀a,pv.length<=a->a<i->F a j=0)
   (r-pv.length) _ ⟨pv.length,rfl,rfl,rfl,rfl,by omega,by omega,λa h1 h2=>by omega⟩ Qs ?_
  rintro q s hh ms' ⟨i,rfl,rfl,rfl,rfl,hli,hir,hno⟩;have hRow:=λi hi=>(hO.rd (h:=h') (ms:=[m]) Mh).row (i:=i) hi;have hcell:∀i,i<r->∀ms,m∈ms->Cell h' ms ((AJ (Ca 1 eu (i*c) ((i+1)*c))).add (j*1)) (.int .i64 (F i j)):=λi hi ms hm=>((hO.rd (h:=h') hm).row hi).ev hjc;refine Ac (Aw (Qm Y (Qf MA Y (Ql Y U3 (hA _ _ Y _) (Qm Y (Ap ?_))))));refine Ax Y (λhlt2=>?_) (λhlt2=>?_)
  ·have hi:i<r:=by omega
   have ec:=CK c (F i);refine Aj (Ab (Ac (Ah (Ac (Aw (Qm Y (Qm Y (Qx (AR Y call223 Y (CG λh' hl hm=>JE g17 p r c F eu _ _ h' (Seg.ofLe (hm _ Mh)) (hO.rdh (hm _ (List.Mem.tail _ Mh))) (by assumption) hr hc)) Y (Qm Y (Qx (BL (j) (hRow i hi).rd Y A0 Ba Y Y (by omega) (by omega)) Y (Ql Y U3 (hcell i hi _ (List.Mem.tail _ Mh)) (Qm Y (Ap ?_)))))))))))));refine Ax Y (λhz=>?_) (λhz=>?_)
   ·refine Ay (Aa (Ag (Ab (Ad (Qm Y (Qx (oA Y) Y (Qm Y (An ?_))))))));refine Am (r-(i+1)) _ (by omega) ⟨i+1,Y,Y,Y,Y,by omega,by omega,λa h1 h2=>?_⟩ Qs;rcases (by omega:a<i\/a=i) with h3|rfl
    ·exact hno a h1 h3
    ·exact hz
   ·have ht:pv.length<r:=by omega
    refine Aj (Ab (Aw (Qm Y (Qm Y (Qm Y ?_)))));have hFi:=hRed.bd i hi j hjc;have hd0:=hRed.bd;have hsi:Hy pv.length i pv.length=i:=by simp[Hy]
    refine Bb (pre:=[BR g17 p r c eu (ov.flatMap cI),m]) Y call224 Y (Yg g17 p r c F eu _ m pv.length i h' hO ht hi hr hc) Y Y Y Y (λx h2 ms2 l2 hF=>?_);obtain⟨rfl,m,rfl,hO⟩:=hF
    have hcell1:∀ms,m∈ms->Cell h' ms ((AJ (Ca 1 eu (pv.length*c) ((pv.length+1)*c))).add (j*1)) (.int .i64 (F i j)):=λms hm=>by have:=((hO.rd (h:=h') hm).row ht).ev hjc;rw[hsi]at this;exact this
    have hRow1:=λi hi=>(hO.rd (h:=h') (ms:=[m]) Mh).row (i:=i) hi;have ec1:=CK c (λb=>F (Hy pv.length i pv.length) b);refine Ap (Ac (BK (n:=16) (bs:=[true,true,false,true,true,true,false,true,false,false,false,true,true,false,false,false]) [true,true,false,true,true,true,false,true,false,false,false,true,true] CZ (by kernel_rfl) (by kernel_rfl) rfl rfl (Qq rfl (Qq rfl (Qq rfl (Qq rfl (Qq rfl (Qq rfl (QF FP rfl (QL rfl U3 (hA0 _) ?_))))))))));unfold FK;simp only[cons_append,nil_append];refine Qo 2 rfl (Qx (AR rfl call223 rfl (CG λh' hl hm=>JE g17 p r c (λa b=>F (Hy pv.length i a) b) eu _ _ h' (Seg.ofLe (hm _ Mh)) (hO.rdh (hm _ (List.Mem.tail _ Mh))) (by assumption) hr hc)) rfl (Qw (Qo 6 rfl (Qx (AR rfl call223 rfl (CG λh' hl hm=>JE g17 p r c (λa b=>F (Hy pv.length i a) b) eu _ _ h' (Seg.ofLe (hm _ Mh)) (hO.rdh (hm _ (List.Mem.tail _ Mh))) (by assumption) hr hc)) rfl (Qw (Qo 8 rfl (Qx (BL (j) (hRow1 pv.length ht).rd rfl A0 Ba rfl rfl (by omega) (by omega)) rfl (Qw (Qo 9 rfl (Ql rfl U3 (hcell1 _ (List.Mem.tail _ Mh)) (Qw (Qo 10 rfl (Bb (pre:=[BR g17 p r c eu (ov.flatMap cI)]) rfl call226 rfl (Wj g17 p r c eu ov (F i j) h' hp hov (by omega) (by omega)) rfl rfl rfl rfl (λx h2 ms2 l2 hv=>?_))))))))))))));obtain⟨rfl,v,ov,rfl,rfl,hov,hv0,hvp,hv1⟩:=hv;refine Qw (Qo 13 rfl ?_);refine Qx (Bm Y4 [.slice none 0 0,.int .i64 0,.int .i64 0] [(0,_),(1,_),(2,_)] [_,_,_] rfl YP rfl rfl (by repeat (first|exact trivial|refine⟨⟨rfl,rfl,rfl⟩,?_⟩|refine⟨⟨((hRow1 pv.length ht).rd).cells,rfl,rfl⟩,?_⟩)) rfl) rfl ?_;refine Qw (Qo 14 rfl (Qx (BM rfl rfl rfl) rfl (Qw (Qo 15 rfl (JR ?_)))));refine Bb (pre:=[m]) rfl call225 rfl (Oy r c (λa b=>F (Hy pv.length i a) b) pv.length (λb=>F (Hy pv.length i pv.length) b*v%p) eu m 227 [.agg #[.slice none 0 0,.int .i64 v,.int .i64 p]] h' hO ht hr hc call227 (λk hk m' hO'=>XQ v p k _ h' hp (hd0 _ (by rw[hsi];exact hi) k hk) ⟨Int.le_of_lt hv0,hvp⟩ _)) rfl rfl rfl rfl (λx h2 ms2 l2 hE=>?_);obtain⟨rfl,m,rfl,hO⟩:=hE;refine JR (Qw (Qe (Ab (Ac (Aw (Qf MA rfl (Ql rfl U3 (hA _ _ rfl _) (Qm rfl (Ap (Ah ?_))))))))));have hb2:=Aab (v:=v) hb.1 ht hi hd0
    refine AD (λq s hh ms'=>∃(k:Nat) (m:Hp),q=r-k/\s=[(1,.pointer (some ⟨g1,0,none⟩)),(2,.pointer (some ⟨g2,0,none⟩)),(4,.pointer (some ⟨g17,0,none⟩)),(5,vp),(6,.int .i64 j),(7,.int .i64 pv.length),(19,.int .i64 c),(20,.int .i64 j),(60,.int .i64 r),(61,.int .i64 k)]/\h'=hh/\ms'=[BR g17 p r c eu (ov.flatMap cI),m,m2,Bw g2 65 [.int .i64 0,.int .i64 0,.int .i64 0,.slice none 0 0]]/\k<=r/\OwnL cI 1 3 m eu (DS r c (Mb p pv.length i j v F k)))
     (r-0) _ ⟨0,m,rfl,rfl,rfl,rfl,by omega,by rw[Cj (λa _ b _=>TI p pv.length i j v F a b)]at hO;exact hO⟩ Qs ?_
    rintro q s hh ms' ⟨k,m,rfl,rfl,rfl,rfl,hkr,hO⟩;have hcell2:∀a,a<r->∀ms,m∈ms->Cell h' ms ((AJ (Ca 1 eu (a*c) ((a+1)*c))).add (j*1)) (.int .i64 (Mb p pv.length i j v F k a j)):=λa ha ms hm=>((hO.rd (h:=h') hm).row ha).ev hjc;have hRow2:=λi hi=>(hO.rd (h:=h') (ms:=[m]) Mh).row (i:=i) hi;refine Aw (Qm Y (Ap (Ac ?_)));refine Ax Y (λhltk=>?_) (λhltk=>?_)
    ·have hk:k<r:=by omega
     have eck:=CK c (Mb p pv.length i j v F k k);have hn:=hb2 k hk j hjc;have hkk:=QH p pv.length i j v F k;refine Aj (Ab (Ac (Ah (Aw (Qm Y (Qm Y (BN (Qm Y (Qm Y (Qx (AR Y call223 Y (CG λh' hl hm=>JE g17 p r c (Mb p pv.length i j v F k) eu _ _ h' (Seg.ofLe (hm _ Mh)) (hO.rdh (hm _ (List.Mem.tail _ Mh))) (by assumption) hr hc)) Y (Qm Y (Qx (BL (j) (hRow2 k hk).rd Y A0 Ba Y Y (by omega) (by omega)) Y (Ql Y U3 ((hkk j ▸ hcell2 k hk _ (List.Mem.tail _ Mh))) (Qm Y (BN (Qm Y (Qm Y (Qm Y (Qm Y ?_)))))))))))))))))));refine AU (t:=73) Y (λhkt=>?_) (λhkt=>?_)
     ·have hkt':k≠pv.length:=by omega
      refine Qg (AC Y Y) Y (Qg (CA Y Y Y) Y (Qm Y (Ap ?_)));refine Ax Y (λhn0=>?_) (λhn0=>?_)
      ·refine BK (n:=15) (bs:=[true,true,false,true,true,false,true,true,true,true,true,true,false,false,false]) [true,true,false,true,true,false,true,true,true,true,true,true] CZ (by kernel_rfl) (by kernel_rfl) rfl rfl (Qq rfl (Qq rfl (Qq rfl (Qq rfl (QF FP rfl (QL rfl U3 (hA0 _) (Qq rfl (Qp rfl (oS rfl) (QF FP rfl (QL rfl U3 (hA0 _) ?_))))))))));unfold FK;simp only[cons_append,nil_append];refine Qo 2 rfl (Qx (AR rfl call223 rfl (CG λh' hl hm=>JE g17 p r c (Mb p pv.length i j v F k) eu _ _ h' (Seg.ofLe (hm _ Mh)) (hO.rdh (hm _ (List.Mem.tail _ Mh))) (by assumption) hr hc)) rfl (Qw (Qo 5 rfl (Qx (AR rfl call223 rfl (CG λh' hl hm=>JE g17 p r c (Mb p pv.length i j v F k) eu _ _ h' (Seg.ofLe (hm _ Mh)) (hO.rdh (hm _ (List.Mem.tail _ Mh))) (by assumption) hr hc)) rfl (Qw (Qo 12 rfl ?_))))));refine Qx (Bm Y4 [.slice none 0 0,.int .i64 0,.int .i64 0] [(0,_),(1,_),(2,_)] [_,_,_] rfl YP rfl rfl (by repeat (first|exact trivial|refine⟨⟨rfl,rfl,rfl⟩,?_⟩|refine⟨⟨((hRow2 pv.length ht).rd).cells,rfl,rfl⟩,?_⟩)) rfl) rfl ?_;refine Qw (Qo 13 rfl (Qx (BM rfl rfl rfl) rfl (Qw (Qo 14 rfl (JR ?_)))));refine Bb (pre:=[m]) rfl call225 rfl (Oy r c (Mb p pv.length i j v F k) k (λb=>(Ef p pv.length i v F k b+Ef p pv.length i v F pv.length b*(p-Ef p pv.length i v F k j))%p) eu m 228 [.agg #[Ca 1 eu (pv.length*c) ((pv.length+1)*c),.int .i64 (p-Ef p pv.length i v F k j),.int .i64 p]] h' hO hk hr hc call228 (λb hbc m' hO'=>CG λh'' hl hm=>by have:=ZZ r c _ eu pv.length b (p-Ef p pv.length i v F k j) p (Mb p pv.length i j v F k k b) h'' (hO'.rdh (hm _ Mh)) ht hbc hp (by rw[QH];exact hb2 k hk b hbc) (by rw[turn_ne _ _ _ _ _ _ (Ne.symm hkt'),YR];exact hb2 _ ht b hbc) (by omega);rw[turn_ne _ _ _ _ _ _ (Ne.symm hkt'),YR,QH]at this;rw[QH];exact this)) rfl rfl rfl rfl (λx h2 ms2 l2 hE=>?_);obtain⟨rfl,m,rfl,hO⟩:=hE;refine JR (Qw (Qe (Ak (Ab (Ad (Qx (oA rfl) rfl (Qm rfl (An ?_))))))));refine Am (r-(k+1)) _ (by omega) ⟨k+1,m,rfl,rfl,rfl,rfl,by omega,by rw[Cj (λa _ b _=>Vo p pv.length i j v F k a b hkt')]at hO;exact hO⟩ Qs
      ·refine Aj (Ak (Ab (Ad (Qx (oA Y) Y (Qm Y (An ?_))))));refine Am (r-(k+1)) _ (by omega) ⟨k+1,m,Y,Y,Y,Y,by omega,?_⟩ Qs;rw[Cj (λa _ b hbc=>OP p pv.length i j v F k a b (.inr ⟨by omega,hb2 k hk b hbc⟩))]at hO;exact hO
     ·refine Qk Y (Qk Y (Qm Y (Ap (AV Y (Aj (Ak (Ab (Ad (Qx (oA Y) Y (Qm Y (An ?_)))))))))));refine Am (r-(k+1)) _ (by omega) ⟨k+1,m,Y,Y,Y,Y,by omega,?_⟩ Qs;rw[Cj (λa _ b hbc=>OP p pv.length i j v F k a b (.inl (by omega)))]at hO;exact hO
    ·obtain rfl:k=r:=by omega
     refine Ay (Aa (Aa (Ag (Ab (Aw (Qm Y (Qm Y (Ar [_] Y A0 Ba Y (by rfl) Y Y (by omega) Y Y Y (λg95=>AZ 3 hO2 (RdL.one Bl Mh Y) Y A0 Ba Y (by omega) Y Y Y Ck (by simp only[ME,length_singleton];omega) (by simp only[ME,length_singleton];omega) rfl rfl rfl (λvp' m2' hO2'=>?_))))))))));rw[Uy]at hO2';refine Qm Y (Ap (Ay (GC Y (Aa (Aa (GC Y (Ag (Ab (Ad (Qx (oA Y) Y (Qm Y (An (AS ?_)))))))))))));refine Am (c-(j+1)) _ (by omega) ⟨j+1,Ph p pv.length i j v F,pv++[j],vp',ov,m,m2',Y,Y,Y,Y,by omega,by rw[Cj (λa ha b _=>XK p pv.length i j v F k a b ha)]at hO;exact hO,hO2',hRed.step hb.1 hi hli hjc hv1,hov⟩ Qs
  ·refine Ay (Aa (Aa (Ag (Ak (Ab (Ad (Qx (oA Y) Y (Qm Y (An ?_)))))))));refine Am (c-(j+1)) _ (by omega) ⟨j+1,F,pv,vp,ov,m,m2,Y,Y,Y,Y,by omega,hO,hO2,hRed.skip λa ha hl=>hno a hl (by omega),hov⟩ Qs
 ·obtain rfl:j=c:=by omega
  refine Ay (Aa (Aa (Ag (Ab (Aw (Qm Y (Qm Y (Qf FF Y (Qx (oG Y Vr EI (Xn Y)) Y (Qm Y ?_))))))))));refine Sa 3 [_,_,_,_] EI Y (by simp[e2]) ?_;refine Qm Y (Ap (Aq (Nn (AS ?_))));exact Gh (vs:=[_,_,_,_]) 2 Y Y Y Vr Y EI Y Y (⟨AI l1 hle,F,pv,eu,vp,m,m2,Y,Y,hO,hO2,⟨hRed⟩⟩)
theorem PS(p:Int)(r c:Nat)(f:Nat->Nat->Int)(ev:Value)(h:Hp)(R:RtM p r c f)(hR:RdL cI 1 h [] ev (DS r c f)) :
  FnT Tryz.prog 124 #[.agg #[.int .i64 p,.int .i64 r,.int .i64 c,ev]] h [] (λx h' ms'=>h.le h'/\∃(F:Nat->Nat->Int) (pv:List Nat) (eu vp:Value) (m m2:Hp),x=.tuple #[.agg #[.int .i64 p,.int .i64 r,.int .i64 c,eu],vp]/\ms'=[m,m2]/\OwnL cI 1 3 m eu (DS r c F)/\OwnL cI 1 3 m2 vp (WG pv)/\Ech p r c f F pv):=by
 refine Av func124 ntmps124 Y Y (λw0 hw0=>?_);simp only[A3];refine Aw (AY [_,_,_,_] Y Y (by rfl) Y Y Y (λg1=>By [.int .i64 0,.int .i64 0,.int .i64 0,.slice none 0 0] Y EI Y Y (λg2=>Qm Y (Ap (Ac (Aw (Qx (oG Y Vr EI (Seg.blk 1 Y)) Y (Qx (AR Y call183 Y (WM R hR _)) Y (Qm Y (Ap (AV Y (Aj (Ab (Aw (Qx (oG Y Vr EI (Seg.blk 1 Y)) Y ?_)))))))))))))));refine Qc call184 Y (QG p r c f ev h R.pr R.rl (by have:=R.cl;omega) R.en hR) (λx h1 ms1 l1 hF=>?_);obtain⟨l2,F,pv,eu,vp,m,m2,rfl,rfl,hO,hO2,hE⟩:=hF;have oe:=hO.o1;refine Qm Y (Qm Y ?_);refine Sa 2 [_,_,_,_] EI Y (by simp[oe]) ?_;refine Qm Y (Ap (Aq (Bd 3 Y ?_)));exact Gh (vs:=[_,_,_,_]) 2 Y Y Y Vr Y EI Y Y (⟨l1,F,pv,eu,vp,m,m2,Y,Y,hO,hO2,hE⟩)
theorem VB(p:Int)(r c:Nat)(f:Nat->Nat->Int)(ev:Value)(h:Hp)(R:RtM p r c f)(hR:RdL cI 1 h [] ev (DS r c f)) :
  FnT Tryz.prog 59 #[.agg #[.int .i64 p,.int .i64 r,.int .i64 c,ev]] h [] (λx h' ms'=>h.le h'/\ms'=[]/\∃(F:Nat->Nat->Int) (pv:List Nat),x=.int .i64 pv.length/\Ech p r c f F pv):=by
 refine Av func59 ntmps59 Y Y (λw0 hw0=>?_);simp only[A3];refine Aw (AY [_,_,_,_] Y Y (by rfl) Y Y Y (λg1=>Qm Y (BN (Qx (oG Y Vr EI (Seg.blk 0 Y)) Y (Qc call124 Y (PS p r c f ev h R hR) (λx h1 ms1 l1 hF=>?_))))));obtain⟨l2,F,pv,eu,vp,m,m2,rfl,rfl,hO,hO2,hE⟩:=hF;have oe:=hO.o1;refine Qm Y (Qm Y (Qm Y (By [.int .i64 0,.int .i64 0,.int .i64 0,.slice none 0 0] Y EI Y Y (λg3=>?_))));refine Sa 0 [_,_,_,_] EI Y (by simp[oe]) ?_;refine Qm Y (BN (Qm Y (Qx (D7 (T6 (h:=h) (ms:=[m2]) hO2 Mh) Y A0 Y) Y (Qm Y (Ap (Aq (Bd 3 Y (Bd 2 Y (Bd 1 Y (Bd 0 Y ?_))))))))));exact Az Y Y (⟨l1,Y,F,pv,Y,hE⟩)
def F0(l:List Nat):List Nat:=(l.reverse.dropWhile (·==0)).reverse
theorem Lj(l:List Nat):F0 (l++[0])=F0 l:=by simp[F0]
theorem Fo{a:Nat}(l:List Nat)(h:a≠0):F0 (l++[a])=l++[a]:=by simp[F0,h]
theorem FE(l:List Nat)(v:Value)(h:Hp)(R:RdL Cv 1 h [] v l)(hl:l.length<=1000000) :
  FnT Tryz.prog 229 #[v] h [] (λr h' ms'=>h.le h'/\ms'=[]/\RdL Cv 1 h' [] r (F0 l)):=by
 refine Av func229 ntmps229 Y Y (λw0 hw0=>?_);simp only[A3];refine Aw (Qm Y (Ap (Ac (Ah ?_))))
 refine AD (λq sl h' ms'=>∃(k:Nat) (u:Value),k=q/\sl=[(0,u),(2,.slice none 0 0)]/\h=h'/\ms'=[]/\k<=l.length/\RdL Cv 1 h [] u (l.take k)/\F0 (l.take k)=F0 l)
  l.length _ ⟨l.length,v,rfl,rfl,rfl,rfl,Nat.le_refl _,by rw[take_length];exact R,by rw[take_length]⟩ Qs ?_
 rintro q sl h' ms' ⟨k,u,rfl,rfl,rfl,rfl,hk,hR,hs⟩;have hkl:(l.take k).length=k:=by rw[length_take];omega
 refine Ac (Aw (Qm Y (Qx (As hR.rd.any Y B5 Y) Y (Qm Y (Qm Y ?_)))));refine AU (t:=6) Y (λh1=>?_) (λh1=>?_)
 ·have hk0:0<k:=by have:=CE h1;omega
  obtain⟨a,ha⟩:∃a,l[k-1]'(by omega)=a:=⟨_,Y⟩
  have hkt:l.take k=l.take (k-1)++[a]:=by have:=take_succ_eq_append_getElem (l:=l) (i:=k-1) (by omega);rw[ha,show k-1+1=k by omega]at this;exact this
  have hc:Cell h [] ((AJ u).add ((k-1)*1)) (.int .u64 (a:Int)):=by
   have hk1:k-1<(l.take k).length:=by omega
   have e:(l.take k)[k-1]=a:=by rw[List.getElem_take];exact ha
   exact hR.cell0 hk1 (by rw[e];rfl)
  refine Qg (AC Y Y) Y (Qg (AC Y Y) Y (Qg (As hR.rd.any Y B5 Y) Y (Qg (oS Y) Y (Qg (BH (k-1) hR.rd.any Y B5 Ct Y Y) Y (Qg (oL Y FV (hc)) Y (Qg (CN Y Y Y) Y (Qm Y (Ap ?_))))))));refine Ax Y (λh2=>?_) (λh2=>?_)
  ·have ha0:a=0:=by omega
   refine Aj (Ab (Ah (Ad (Qm Y (Qm Y (Qx (As hR.rd.any Y B5 Y) Y (Qx (oS Y) Y (Qx (EK (k-1) hR.rd.any Y B5 Ct Y Y (by omega) (by omega)) Y (Qm Y (An (Ak ?_)))))))))))
   exact Am (k-1) _ (by omega) ⟨k-1,Ca 1 u 0 (k-1),Y,Y,Y,Y,by omega,by
    have:=RdL.sub_ hR (i:=0) (j:=k-1) (by omega) (by rw[hkl];omega)
    simpa[List.take_take,Nat.min_eq_left (show k-1<=k by omega)] using this,by rw[<-hs,hkt,ha0,Lj]⟩ Qs
  ·have ha0:a≠0:=by omega
   refine Ay (Aa (Aa (Ag (Ab (Aw (Qm Y (Qm Y (Ap (Aq ?_)))))))));exact Az Y Y (⟨B8,Y,by rw[<-hs,hkt,Fo _ ha0,<-hkt];exact hR⟩)
 ·have hk0:k=0:=by omega
  subst hk0;refine Qk Y (Qk Y (Qk Y (Qk Y (Qk Y (Qk Y (Qk Y (Qm Y (Ap (AV Y (Ay (Aa (Aa (Ag (Ab (Aw (Qm Y (Qm Y (Ap (Aq ?_)))))))))))))))))));exact Az Y Y (⟨B8,Y,by rw[<-hs];exact hR⟩)
theorem Aak(b:UInt8):b.toNat<256:=b.toNat_lt
theorem XR(neg:Bool)(h:Hp):FnT Tryz.prog 187 #[.agg #[.bool neg,sv []]] h [] (λr h' ms'=>h.le h'/\ms'=[]/\RdL Cv 1 h' [] r []):=by
 refine Av func187 ntmps187 Y Y (λw0 hw0=>?_);simp only[A3];refine Aw (AY [_,_] Y Y (by rfl) Y Y Y (λg1=>Qm Y (Ap (AB λh1 l1 hS=>?_))));have e1:∀ms,Cell h1 ms ((⟨g1,0,none⟩:Addr).add 1) (sv []):=λms=>(hS 1 _ Y).any;refine Aw (Qf Hq Y (Ql Y U9 (e1 _) (Qx (E9 0 Y Y U9 Y) Y (Qx (oA Y) Y (Qx (oS Y) Y (Qx (Gi Y Y Y (by omega) (by omega)) Y (CQ (n:=0) Y B5 Ct Y Y Y (by rfl) (by rfl) (by omega) (by omega) Y Y Y (λg12=>Qm Y (Ap (Ac (Aw (Qf Hq Y (Ql Y U9 (e1 _) (Qx (E9 0 Y Y U9 Y) Y (Qm Y (Ap (Ah (AD (λq sl h' ms'=>q=0/\sl=[(1,.pointer (some ⟨g1,0,none⟩)),(3,.slice (some ⟨g12,0,none⟩) 0 0),(15,.int .i64 ((0:Nat):Int)),(16,.int .i64 0)]/\h1=h'/\ms'=[Bw g12 222 []]) 0 _ ⟨Y,Y,Y,Y⟩ Qs ?_))))))))))))))))));rintro q sl h' ms' ⟨rfl,rfl,rfl,rfl⟩;refine Aw (Qm Y (Ap (Ac ?_)));refine Ax Y (λhlt=>?_) (λhlt=>?_)
 ·exact absurd hlt (by omega)
 ·refine Ay (Aa (Aa (Ag (Ab ?_))));have hO:OwnL Cv 1 222 (Bw g12 222 []) (.slice (some ⟨g12,0,none⟩) 0 0) []:=OwnL.blk (l:=([]:List Nat)) 0 DK Y (by omega);refine Bu hO λh2 l2 hR=>(Aw (Qm Y (Bb (pre:=[]) Y call229 Y (FE [] _ h2 hR (by simp)) rfl rfl rfl rfl (λr h3 ms3 l3 hF=>?_))))
  obtain⟨l3',rfl,hR3⟩:=hF;refine Qm Y (Ap (Aq ?_));exact Az Y Y (⟨AI l1 (AI l2 l3'),Y,hR3⟩)
theorem Xy(neg:Bool)(b:UInt8)(hb:b.toNat≠0)(h:Hp):FnT Tryz.prog 187 #[.agg #[.bool neg,sv [b]]] h [] (λr h' ms'=>h.le h'/\ms'=[]/\RdL Cv 1 h' [] r [b.toNat]):=by
 have hb8:=Aak b;refine Av func187 ntmps187 Y Y (λw0 hw0=>?_);simp only[A3];refine Aw (AY [_,_] Y Y (by rfl) Y Y Y (λg1=>Qm Y (Ap (AB λh1 l1 hS=>?_))));have e1:∀ms,Cell h1 ms ((⟨g1,0,none⟩:Addr).add 1) (sv [b]):=λms=>(hS 1 _ Y).any;refine Aw (Qf Hq Y (Ql Y U9 (e1 _) (Qx (E9 1 Y Y U9 Y) Y (Qx (oA Y) Y (Qx (oS Y) Y (Qx (Gi Y Y Y (by omega) (by omega)) Y (CQ (n:=1) Y B5 Ct Y Y Y (by rfl) (by rfl) (by omega) (by omega) Y Y Y (λg12=>Qm Y (Ap (Ac (Aw (Qf Hq Y (Ql Y U9 (e1 _) (Qx (E9 1 Y Y U9 Y) Y (Qm Y (Ap (Ah ?_)))))))))))))))));refine AD (λq sl h' ms'=>∃(i:Nat) (m:Hp),1-i=q/\sl=[(1,.pointer (some ⟨g1,0,none⟩)),(3,.slice (some ⟨g12,0,none⟩) 1 1),(15,.int .i64 ((1:Nat):Int)),(16,.int .i64 i)]/\h1=h'/\ms'=[m]/\i<=1/\OwnL Cv 1 222 m (.slice (some ⟨g12,0,none⟩) 1 1) [if i=0 then 0 else b.toNat]) 1 _ ⟨0,_,Y,Y,Y,Y,by omega,OwnL.blk (l:=[0]) 1 DK Y (by omega)⟩ Qs ?_;rintro q sl h' ms' ⟨i,m,rfl,rfl,rfl,rfl,hi,hO⟩;refine Aw (Qm Y (Ap (Ac ?_)));refine Ax Y (λhlt=>?_) (λhlt=>?_)
 ·have hi0:i=0:=by omega
  subst hi0;rw[if_pos rfl]at hO;refine Aj (Ab (Ac (Ah (Aw (Qm Y (Qm Y (BN (Qf Hq Y (Ql Y U9 (e1 _) (Qx (E9 1 Y Y U9 Y) Y (Qx (oS Y) Y (Qm Y (Qx (oS Y) Y (Qm Y (Ap ?_)))))))))))))));have hc:Cell h1 [m] ((AJ (.slice (some ⟨g12,0,none⟩) 1 1)).add (0*1)) (.int .u64 ((0:Nat):Int)):=(hO.rd (h:=h1) (ms:=[m]) (.head _)).cell0 (j:=0) (by simp) rfl;refine Bc 14 CZ (by kernel_rfl) Y (Wm Y (Wm Y (AW (Gi Y Y Y (by omega) (by omega)) Y Y (AW (Cn (0) Y B5 Ct Y Y (by omega) (by omega)) Y Y (Wl Y FV (hc) (Wf Hq Y (Wl Y U9 (e1 _) (Wm Y (AW (SB (l:=[b]) 0 Y U9 Y Y Y (by simp)) rfl rfl (AW (Ie (a:=((b.toNat:Nat):Int)) rfl U5 FV rfl (Ec (by omega))) rfl rfl (Wm rfl (AW (Cf rfl rfl rfl (by omega) (by omega)) rfl rfl (AW (oM rfl) rfl rfl (AW (Rx (a:=b.toNat) (n:=0) rfl rfl rfl (by omega)) rfl rfl (A4 (Qx (Vv (a:=0) (b:=b.toNat*2^0%18446744073709551616) rfl rfl rfl (by omega) (by omega)) rfl (Qx (Cn (0) rfl B5 Ct rfl rfl (by omega) (by omega)) rfl (CW (f:=λn:Nat=>Value.int .u64 (n:Int)) 0 0 (λ_=>rfl) hO rfl Ct rfl rfl rfl rfl (by simp) rfl rfl (λm' hO'=>?_)))))))))))))))))))
  have e:(0 ||| b.toNat*2^0%18446744073709551616)=b.toNat:=by rw[Nat.zero_or,Nat.pow_zero,Nat.mul_one,Nat.mod_eq_of_lt (by omega)]
  rw[e]at hO';refine An (Ak (Ab (Ad (Qx (oA Y) Y (Qm Y (An ?_))))));exact Am 0 _ (by omega) ⟨1,m',Y,Y,Y,Y,by omega,hO'⟩ Qs
 ·have hi1:i=1:=by omega
  subst hi1;rw[if_neg (by decide)]at hO;refine Ay (Aa (Aa (Ag (Ab (Bu hO λh2 l2 hR=>(Aw (Qm Y (Bb (pre:=[]) Y call229 Y (FE [b.toNat] _ h2 hR (by simp)) rfl rfl rfl rfl (λr h3 ms3 l3 hF=>?_)))))))));obtain⟨l3',rfl,hR3⟩:=hF;have e:F0 [b.toNat]=[b.toNat]:=Fo [] hb;rw[e]at hR3;refine Qm Y (Ap (Aq ?_));exact Az Y Y (⟨AI l1 (AI l2 l3'),Y,hR3⟩)
def ZH(l:List Nat)(k:Nat):List Value:=[.int .i64 ((l.length:Int)-1-k),.int .u64 ((l.getD (l.length-1-k) 0:Nat):Int)]
theorem SR(g:Nat)(v:Value)(l:List Nat)(h:Hp)(hG:Seg h [] ⟨g,0,none⟩ [v])(hR:RdL Cv 1 h [] v l)(hn2:l.length<=1000000):Aag Tryz.prog 270 [.pointer (some ⟨g,0,none⟩)] h l.length (ZH l):=by
 intro lp X Y h1 ms hl hY h0;show FnT _ _ #[.func (.yield lp) #[] #[],.pointer (some ⟨g,0,none⟩)] _ _ _;have hG:=hG.le hl;have hR:=hR.up hl;obtain⟨n,hn⟩:∃n,l.length=n:=⟨_,rfl⟩
 rw[hn]at hn2 hY;refine Av func270 ntmps270 rfl rfl (fun w0 hw0=>?_);simp only[A3];refine Ac (Dq (DA (oL rfl B5 ((hG.at0 rfl).any)) rfl rfl rfl (DA (As hR.rd.any rfl B5 rfl) rfl rfl rfl (DA (oS rfl) rfl rfl rfl (DA (F1 rfl rfl) rfl rfl rfl (FQ (Ab (Ah ?_))))))))
 refine AD (fun q s hh ms'=>∃(k:Nat),q=n-k/\s=[(0,.func (.yield lp) #[] #[]),(1,.pointer (some ⟨g,0,none⟩)),(3,.int .i64 ((n:Int)-1-k))]/\h1.le hh/\k<=n/\X k hh ms')
  (n-0) [(0,.func (.yield lp) #[] #[]),(1,.pointer (some ⟨g,0,none⟩)),(3,.int .i64 ((l.length:Int)-1))] ⟨0,rfl,by rw[hn,show((n:Int)-1-(0:Nat))=(n:Int)-1 by omega],B8,by omega,h0⟩ Qs ?_
 rintro q s hh ms' ⟨k,rfl,rfl,lh,hk,hX⟩;refine Ac (Ac (Dq (DA (AC rfl rfl) rfl rfl rfl (DA (KJ rfl rfl rfl) rfl rfl rfl (FQ (Ab ?_))))));refine Ax rfl (fun hlt=>?_) (fun hlt=>?_)
 ·have hkn:k<n:=by omega
  have hG2:=hG.le lh;have hR2:=hR.up lh;have hi:n-1-k<l.length:=by omega
  have hc:∀ms,Cell hh ms ((AJ v).add ((n-1-k)*1)) (.int .u64 ((l.getD (n-1-k) 0:Nat):Int)):=fun ms=>by rw[show l.getD (n-1-k) 0=l[n-1-k] by simp[List.getD,hi]];exact(hR2.any (ms:=ms)).cell0 hi rfl
  refine Aj (Ab (Ac (Ah (Ac (Dq (DA (AC rfl rfl) rfl rfl rfl (DA (AC rfl rfl) rfl rfl rfl (DA (oL rfl B5 ((hG2.at0 rfl).any)) rfl rfl rfl (DA (AC rfl rfl) rfl rfl rfl (DA (BH (n-1-k) hR2.rd.any rfl B5 Ct rfl rfl) rfl rfl rfl (DA (oL rfl FV (hc _)) rfl rfl rfl ?_)))))))))));have hyk:=hY k hh ms' hkn lh hX;unfold ZH at hyk;rw[hn]at hyk;refine N6 rfl rfl rfl (hyk) rfl rfl rfl (fun r h2 ms2 l2 hr=>?_);rcases hr with ⟨rfl,hX2⟩|⟨rfl,hX2⟩
  ·refine DA (Gj rfl rfl) rfl rfl rfl (FQ (Ab (AV rfl (Aj (Ak (Ab (Dq (DA (AC rfl rfl) rfl rfl rfl (DA (oS rfl) rfl rfl rfl (DA (F1 rfl rfl) rfl rfl rfl (FQ ?_)))))))))));refine Am (n-(k+1)) [(0,.func (.yield lp) #[] #[]),(1,.pointer (some ⟨g,0,none⟩)),(3,.int .i64 ((n:Int)-1-k-1))] (by omega) ⟨k+1,rfl,by rw[show((n:Int)-1-k-1)=(n:Int)-1-(k+1:Nat) by omega],AI lh l2,by omega,hX2⟩ Qs
  ·refine DA (Gj rfl rfl) rfl rfl rfl (FQ (Ab (BD rfl (Aq (Al (Ae (Ae (Al ?_))))))));exact EE rfl (.inr ⟨k,by omega,hX2⟩)
 ·obtain rfl:k=n:=by omega
  refine Ay (Aa (Aa (Ag ?_)));exact B7 rfl (.inl (by rw[hn];exact hX))
theorem Pe(v:Value)(n:Nat)(cs:List Value)(h:Hp)(hR:Rd h [] v 1 n cs):FnT Tryz.prog 230 #[v] h [] (λr h' ms'=>h=h'/\∃g,r=.func (.func 270) #[] #[.pointer (some ⟨g,0,none⟩)]/\ms'=[Bw g 225 [v]]):=by refine Av func230 ntmps230 Y Y (λw0 hw0=>?_);simp only[A3];refine Aw (AY [_] Y Y (Rd.cells ‹_›) Y Y Y (λg1=>Qm Y (BN (Qx (BM Y Y Y) Y (Qm Y (Ap (Aq ?_)))))));exact Az Y Y (⟨Y,_,Y,Y⟩)
def H6(n:Nat):List UInt8:=if n=0 then [] else [UInt8.ofNat n]
def GN(n:Nat):List Nat:=if n=0 then [] else [n]
theorem JY(n:Nat):(GN n).length<=1:=by unfold GN;split<;>simp
def b4(n k:Nat):List UInt8:=if k=0 then [] else [0,0,0,UInt8.ofNat n]
theorem W6:∀a:UInt8,∀c∈YZ a,c.oneCell'=true:=λa c hc=>by unfold YZ at hc;rw[List.mem_singleton]at hc;subst hc;rfl
theorem Mu(l:List Nat)(neg:Bool)(v:Value)(n:Nat)(hn:n<256)(hs:F0 l=GN n)(h:Hp)(R:RdL Cv 1 h [] v l)(hl:l.length<=1000) :
  FnT Tryz.prog 186 #[v,.bool neg] h [] (λr h' ms'=>h.le h'/\ms'=[]/\r=.agg #[.bool (neg&&decide (H6 n≠[])),sv (H6 n)]):=by
 have ov:=R.rd.one;refine LZ func186 ntmps186 Y Y (λw0 hw0=>?_);simp only[A3];refine Aw (By [.bool false,.string ByteArray.empty] Y Cy Y Y (λg4=>BN (Qm Y (Qc call229 Y (FE l v h R (by omega)) (λr h1 ms1 l1 hF=>?_)))));obtain⟨l1',rfl,hR1⟩:=hF;rw[hs]at hR1;have or_:=hR1.rd.one;obtain⟨W,hW⟩:∃W,GN n=W:=⟨_,Y⟩
 have hWl:W.length<=1:=by rw[<-hW];exact JY n
 rw[hW]at hR1;refine Qm Y (BN (Qm Y (Qx (As hR1.rd.any Y B5 Y) Y (Qx (oM Y) Y (T3 (n:=0) (cp:=4*W.length) Y TH el5 Y Y Y Y (by omega) (by omega) (by omega) (by omega) Y Y Y (λg14=>By [.slice none 0 0] Y Zb Y Y (λg5=>Af 0 0 Y Zb Y Y (by rfl) Y Y (by decide) Y Y (Ap (Ac (Aw (Qm Y (Qc call230 Y (Pe r W.length _ h1 hR1.rd) (λvf h2 ms2 l2 hF=>?_)))))))))))));obtain⟨rfl,gb,rfl,rfl⟩:=hF;refine Ap (Ah (AB λh2 l2 hGb=>?_));have hR2:=hR1.up l2;have hI:=SR gb r W h2 hGb hR2 (by omega);refine HE (λk hh ms=>∃bv m,ms=[Bw g5 23 [bv],m,Bw g4 172 [.bool false,.string ByteArray.empty]]/\OwnL YZ 1 5 m bv (b4 n k)) (λk hh ms=>False) (λk s1 hh ms=>∃bv m,s1=[(1,.bool neg),(4,.pointer (some ⟨g4,0,none⟩)),(5,.pointer (some ⟨g5,0,none⟩)),(7,.int .u64 (n:Int))]/\ms=[Bw g5 23 [bv],m,Bw g4 172 [.bool false,.string ByteArray.empty]]/\OwnL YZ 1 5 m bv (b4 n k)) Y call270 hI (λk=>rfl) Y ?_ ?_ ?_ ?_ ?_
 ·exact⟨_,_,Y,⟨⟨by simp[b4],.inr ⟨g14,4*W.length,replicate (4*W.length) (.int .u8 0),rfl,by simp[b4],by simp[b4],by simp[b4],by show 4*W.length<=_;omega⟩⟩,QP⟩⟩
 ·rintro w1 k hh ms1 hk lh ⟨bv,m,rfl,hO⟩;have hk0:k=0:=by omega
  subst hk0;have hn0:n≠0:=by rintro rfl;rw[<-hW]at hk;simp[GN]at hk
  have hWn:W=[n]:=by rw[<-hW];simp[GN,hn0]
  have he:ZH W 0=[.int .i64 0,.int .u64 (n:Int)]:=by rw[hWn];rfl
  rw[he];refine Eu (by kernel_rfl) (Qm Y (An ?_));exact Ao _ ⟨bv,m,Y,Y,hO⟩ Qs
 ·rintro w1 k s1 hh ms1 hk lh ⟨bv,m,rfl,rfl,hO⟩;have hk0:k=0:=by omega
  subst hk0;have c24:IntKind.u8.wrap ((n/2^24:Nat):Int)=(((0:UInt8).toNat:Nat):Int):=by rw[Nat.div_eq_of_lt (by omega)];rfl
  have c16:IntKind.u8.wrap ((n/2^16:Nat):Int)=(((0:UInt8).toNat:Nat):Int):=by rw[Nat.div_eq_of_lt (by omega)];rfl
  have c8:IntKind.u8.wrap ((n/2^8:Nat):Int)=(((0:UInt8).toNat:Nat):Int):=by rw[Nat.div_eq_of_lt (by omega)];rfl
  have c0:IntKind.u8.wrap (n:Int)=(((UInt8.ofNat n).toNat:Nat):Int):=by simp[IntKind.wrap,IntKind.bits,IntKind.signed]
  have ovb:=hO.o1;refine NP (Eu (by kernel_rfl) (Ql Y TH (Cell.blk0 0 Y Y) (Qm Y (Qx (DQ (n:=24) Y Y Y (by omega)) Y (Qx (IS c24 Y FV U5 Y) Y (Qm Y (Qx (DQ (n:=16) Y Y Y (by omega)) Y (Qx (IS c16 Y FV U5 Y) Y (Qm Y (Qx (DQ (n:=8) Y Y Y (by omega)) Y (Qx (IS c8 Y FV U5 Y) Y (Qm Y (Qx (IS c0 Y FV U5 Y) Y (AA [(0,_),(1,_),(2,_),(3,_)] [.int .u8 0,.int .u8 0,.int .u8 0,.int .u8 0] [_,_,_,_] Y TH el5 Y (by omega) (by kernel_rfl) Qt Y Y Y Y (λg31=>A6 2 hO (⟨Rd.blk (n:=4) (c:=4) Mh Y (Nat.le_refl _) (by omega),QP⟩:RdL YZ 1 _ _ _ [(0:UInt8),0,0,UInt8.ofNat n]) Y TH el5 Y (by omega) Y Y Y (λa _=>W6 a) (by simp[b4]) (by simp[b4]) rfl rfl rfl (λv32 m' hO'=>?_))))))))))))))));have ov32:=hO'.o1;refine Af 1 0 Y Zb Y Y (by assumption) Y Y (by(simp;done)) rfl rfl ?_;refine An (Ak (AS ?_));exact Ao [] ⟨v32,m',Y,hO'⟩ trivial
 ·rintro D hh ms1 lh ⟨bv,m,rfl,hO⟩;have hRb:=(hO.rd (h:=hh) (ms:=[Bw g5 23 [bv],m,Bw g4 172 [.bool false,.string ByteArray.empty]]++[Mk D]) (.tail _ (.head _))).rd
  have ht:Lib.trimLeftB (b4 n W.length) 0=H6 n:=by
   rw[<-hW];unfold GN H6 b4;by_cases h0:n=0
   ·subst h0;rfl
   ·rw[if_neg h0,if_neg h0,if_neg (by simp)]
    have:UInt8.ofNat n≠0:=λe=>h0 (by
     have:=congrArg UInt8.toNat e
     simp at this;omega)
    simp[Lib.trimLeftB,this]
  have osv:(sv (H6 n)).oneCell'=true:=rfl;refine Ak (Ab (Aw (Ql Y TH (Cell.blk0 0 Y Y) (Qx (Vl hRb Y Y TH U5 U9 Y) Y ?_))));refine Qx (AR Y call231 Y (FnV.ofCalls (v:=sv (H6 n)) (λw=>(Tryz.strings_TrimLeft_one ⟨(b4 n W.length).toArray⟩ 0 (by decide) w).mono λe w' h=>by rw[<-ht];exact h))) Y ?_;refine Qm Y (BN (Qm Y (Qm Y ?_)));refine Lz (t:=37) Y (λhneg=>?_) (λhneg=>?_)
  ·refine Qg (AC Y Y) Y (Qg (SJ (l':=[]) Y Y Y) Y (Qm Y (Qm Y (Qx (Bm YX [.bool false,.string ByteArray.empty] [(0,_),(1,_)] [_,_] Y Cy Y Y Qt Y) Y ?_))));refine Sa 2 [_,_] Cy Y (by simp[osv]) ?_;refine Ap (Aq ?_);refine AS (AS ?_);refine JM 1 (.inr Y) Y ?_;exact BB (vs:=[_,_]) 0 Y Y Lg Y Cy Y Y (⟨AI l1' (AI l2 lh),Y,by rw[hneg];rfl⟩)
  ·refine Qk Y (Qk Y (Qm Y (Qm Y (Qx (Bm YX [.bool false,.string ByteArray.empty] [(0,_),(1,_)] [_,_] Y Cy Y Y Qt Y) Y ?_))));refine Sa 2 [_,_] Cy Y (by simp[osv]) ?_;refine Ap (Aq ?_);refine AS (AS ?_);refine JM 1 (.inr Y) Y ?_;exact BB (vs:=[_,_]) 0 Y Y Lg Y Cy Y Y (⟨AI l1' (AI l2 lh),Y,by rw[hneg];rfl⟩)
 ·rintro D k hh ms1 hk lh hF;exact hF.elim
def WD(n:Int):Value:=.agg #[.bool (decide (n<0)),sv (H6 n.natAbs)]
theorem bys_ne{n:Nat}:H6 n≠[]<->n≠0:=by unfold H6;split<;>simp[*]
theorem Mf(n:Nat):F0 [n,0]=GN n:=by
 rw[show [n,0]=[n]++[0] from Y,Lj];unfold GN;split
 ·rename_i h;subst h;rfl
 ·rename_i h;exact Fo [] h
theorem W0(n:Int)(hn:-256<n/\n<256)(h:Hp):FnT Tryz.prog 126 #[.int .i64 n] h [] (λr h' ms'=>h.le h'/\ms'=[]/\r=WD n):=by
 obtain⟨m,hm⟩:∃m,n.natAbs=m:=⟨_,Y⟩
 have hm2:m<256:=by omega
 refine Av func126 ntmps126 Y Y (λw0 hw0=>?_);simp only[A3];refine Aw (By [.bool false,.string ByteArray.empty] Y Cy Y Y (λg2=>BN (Qm Y (Qx (Co Y U3 FV Y) Y (Qm Y (Ap ?_))))));refine A8 (λsl h' ms'=>sl=[(0,.int .i64 n),(2,.pointer (some ⟨g2,0,none⟩)),(3,.int .u64 (m:Int))]/\h=h'/\ms'=[Bw g2 172 [.bool false,.string ByteArray.empty]]) ?_ (λs h ms hI=>?_)
 ·have e9:IntKind.u64.wrap (-(IntKind.u64.wrap n))=(m:Int)\/¬n<0:=by
   by_cases h0:n<0
   ·refine .inl ?_;simp only[IntKind.wrap,IntKind.bits,IntKind.signed];simp;omega
   ·exact .inr h0
  refine Aw (Qm Y (Qm Y (Ap ?_)));refine Ax Y (λhlt=>?_) (λhlt=>?_)
  ·have e9:IntKind.u64.wrap (-(IntKind.u64.wrap n))=(m:Int):=e9.resolve_right (λh=>h hlt);refine Ad (Qm Y (Qx (X6 e9 Y Y) Y (Qm Y (An ?_))));exact Ao _ ⟨Y,Y,Y⟩ Qs
  ·have e3:IntKind.u64.wrap n=(m:Int):=by rw[Ec (by omega)];omega
   refine Aj ?_;exact Ao _ ⟨Y,Y,Y⟩ (by rw[<-e3];exact Qs)
 ·obtain⟨rfl,rfl,rfl⟩:=hI
  have ea:((m &&& 4294967295:Nat):Int)=(m:Int):=by have:=Nat.and_two_pow_sub_one_eq_mod m 32;rw[show(2^32-1:Nat)=4294967295 from Y,Nat.mod_eq_of_lt (by omega)]at this;rw[this]
  have es:((m/2^32:Nat):Int)=((0:Nat):Int):=by rw[Nat.div_eq_of_lt (by omega)]
  refine Aw (Qm Y (Qx (JZ ea Y Y Y (by omega) (by omega)) Y (Qm Y (Qx (JO es Y Y Y (by omega)) Y (AA [(0,_),(1,_)] [.int .u64 0,.int .u64 0] [_,_] Y B5 Ct Y (by omega) (by kernel_rfl) Qt Y Y Y Y (λg14=>Qm Y (Qm Y (DX λh3 l3 hS=>?_))))))));have hR:RdL Cv 1 h3 [] (.slice (some ⟨g14,0,none⟩) 2 2) [m,0]:=⟨⟨⟨_,_,Y,Nat.le_refl _,by decide,Y,λ_=>⟨_,Y,hS⟩⟩⟩,DK⟩
  refine Qc call186 Y (Mu [m,0] (decide (n<0)) _ m hm2 (Mf m) h3 hR (by simp)) (λr h4 ms4 l4 hF=>?_);obtain⟨l4',rfl,rfl⟩:=hF;have osv:(sv (H6 m)).oneCell'=true:=rfl
  have eW:Value.agg #[.bool (decide (n<0)&&decide (H6 m≠[])),sv (H6 m)]=WD n:=by
   unfold WD
   have:(decide (n<0)&&decide (H6 m≠[]))=decide (n<0):=by
    by_cases h0:n<0
    ·have:H6 m≠[]:=bys_ne.2 (by omega);simp[h0,this]
    ·simp[h0]
   rw[this,hm]
  refine Sa 0 [_,_] Cy Y (by simp[osv]) ?_;refine Ap (Aq ?_);exact BB (vs:=[_,_]) 0 Y Y Lg Y Cy Y Y (⟨AI l3 l4',Y,eW⟩)
theorem UE(n:Int)(hn:-256<n/\n<256)(h:Hp)(ms:List Hp):FnV Tryz.prog 126 #[.int .i64 n] h ms (WD n):=EX ((W0 n hn h).mono λ_ _ _ h=>h.2.2) ms
theorem Pn(n:Int)(hn:-256<n/\n<256)(h:Hp):FnT Tryz.prog 187 #[WD n] h [] (λr h' ms'=>h.le h'/\ms'=[]/\RdL Cv 1 h' [] r (GN n.natAbs)):=by
 unfold WD;by_cases h0:n.natAbs=0
 ·have e1:H6 n.natAbs=[]:=by unfold H6;rw[if_pos h0]
  have e2:GN n.natAbs=[]:=by unfold GN;rw[if_pos h0]
  rw[e1,e2];exact XR _ h
 ·have e1:H6 n.natAbs=[UInt8.ofNat n.natAbs]:=by unfold H6;rw[if_neg h0]
  have e3:(UInt8.ofNat n.natAbs).toNat=n.natAbs:=by simp;omega
  have e2:GN n.natAbs=[(UInt8.ofNat n.natAbs).toNat]:=by unfold GN;rw[if_neg h0,e3]
  rw[e1,e2];exact Xy _ _ (by omega) h
theorem GA{m:Nat}(h:m≠0):GN m=[m]:=if_neg h
def Sc(m k:Nat):Int:=if m<k then -1 else if k<m then 1 else 0
theorem X5(m k:Nat)(hk:k≠0)(va vb:Value)(h:Hp)(hA:RdL Cv 1 h [] va (GN m))(hB:RdL Cv 1 h [] vb [k]) :
  FnT Tryz.prog 232 #[va,vb] h [] (λr _ _=>r=.int .i64 (Sc m k)):=by
 by_cases h0:m=0
 ·have e:GN m=[]:=if_pos h0;rw[e]at hA;have rA:Rd h [] va 1 0 (([]:List Nat).flatMap Cv):=hA.rd;have rB:Rd h [] vb 1 1 ([k].flatMap Cv):=hB.rd;refine Av func232 ntmps232 Y Y (λw0 hw0=>?_);simp only[A3];refine Aw (Qm Y (Ap (Ac (Ah (Aw (Qm Y (Qx (As rA.any Y B5 Y) Y (Qm Y (Qx (As rB.any Y B5 Y) Y (Qm Y (Qm Y (Ap ?_))))))))))));refine Ax Y (λh1=>?_) (λh1=>?_)
  ·refine Ac (Ad (Qm Y (Ap (Aq (Al (Ae ?_))))));exact Az Y Y (by unfold Sc;rw[if_pos (by omega)])
  ·exact absurd (by decide) h1
 ·rw[GA h0]at hA;have rA:Rd h [] va 1 1 ([m].flatMap Cv):=hA.rd;have rB:Rd h [] vb 1 1 ([k].flatMap Cv):=hB.rd;have cA:∀ms,Cell h ms ((AJ va).add (0*1)) (.int .u64 (m:Int)):=λms=>(hA.any (ms:=ms)).cell0 (j:=0) (by simp) rfl;have cB:∀ms,Cell h ms ((AJ vb).add (0*1)) (.int .u64 (k:Int)):=λms=>(hB.any (ms:=ms)).cell0 (j:=0) (by simp) rfl;refine Av func232 ntmps232 Y Y (λw0 hw0=>?_);simp only[A3];refine Aw (Qm Y (Ap (Ac (Ah (Aw (Qm Y (Qx (As rA.any Y B5 Y) Y (Qm Y (Qx (As rB.any Y B5 Y) Y (Qm Y (Qm Y (Ap ?_))))))))))));refine Ax Y (λh1=>?_) (λh1=>?_)
  ·exact absurd h1 (by decide)
  ·refine Ac (Ad (Qm Y (Qx (As rA.any Y B5 Y) Y (Qm Y (Qx (As rB.any Y B5 Y) Y (Qm Y (Qm Y (Ap ?_))))))));refine Ax Y (λh2=>?_) (λh2=>?_)
   ·exact absurd h2 (by decide)
   ·refine Aj (Ak (Ab (Ac (Aw (Qm Y (Qx (As rA.any Y B5 Y) Y (Qx (oS Y) Y (Qm Y (Ap (Ah ?_))))))))));refine AD (λq sl h' ms'=>∃i:Nat,i=q/\sl=[(0,va),(1,vb),(5,.int .i64 ((i:Int)-1))]/\h=h'/\ms'=[]/\i<=1/\(i=0->m=k)) 1 _ ⟨1,Y,Y,Y,Y,by omega,by omega⟩ Qs ?_;rintro q sl h' ms' ⟨i,rfl,rfl,rfl,rfl,hi,hk0⟩;refine Ac (Aw (Qm Y (Qm Y (Ap ?_))));refine Ax Y (λhlt=>?_) (λhlt=>?_)
    ·have hi1:i=1:=by omega
     subst hi1;refine Aj (Ab (Ac (Ah (Ah (Ac (Bc 8 CZ (by kernel_rfl) Y (Wm Y (Wm Y (AW (AM _ rA.any Y B5 Ct Y Y Y (by omega)) Y Y (Wl Y FV (cA _) (Wm Y (Wm Y (AW (AM _ rB.any Y B5 Ct Y Y Y (by omega)) Y Y (Wl Y FV (cB _) (A4 (Qm Y (Qm Y (Ap ?_))))))))))))))))));refine Ax Y (λh3=>?_) (λh3=>?_)
     ·refine Ac (Ad (Qm Y (Ap (Aq (Al (Al (Ae (Ae (Al (Ae ?_))))))))));exact Az Y Y (by unfold Sc;rw[if_pos (by omega)])
     ·refine Ac (Bc 8 CZ (by kernel_rfl) Y (Wm Y (Wm Y (AW (AM _ rA.any Y B5 Ct Y Y Y (by omega)) Y Y (Wl Y FV (cA _) (Wm Y (Wm Y (AW (AM _ rB.any Y B5 Ct Y Y Y (by omega)) Y Y (Wl Y FV (cB _) (A4 (Qm Y (Qm Y (Ap ?_)))))))))))));refine Ax Y (λh4=>?_) (λh4=>?_)
      ·refine Ac (Ad (Qm Y (Ap (Aq (Al (Al (Ae (Ae (Al (Ae ?_))))))))));exact Az Y Y (by unfold Sc;rw[if_neg (by omega),if_pos (by omega)])
      ·refine Aj (Ak (Ak (Ab (Ad (Qm Y (Qx (oS Y) Y (Qm Y (An ?_))))))));exact Am 0 _ (by omega) ⟨0,Y,Y,Y,Y,by omega,λ_=>by omega⟩ Qs
    ·have hi1:i=0:=by omega
     subst hi1;have:=hk0 Y;refine Ay (Aa (Aa (Ag (Ab (Aw (Qm Y (Ap (Aq ?_))))))));exact Az Y Y (by unfold Sc;rw[if_neg (by omega),if_neg (by omega)])
theorem Jg(n:Nat):F0 [n]=GN n:=by
 unfold GN;split
 ·rename_i h;subst h;rfl
 ·rename_i h;exact Fo [] h
theorem TT(m k:Nat)(hm:m<256)(hk:k≠0)(hk2:k<256)(va:Value)(h:Hp)(hA:RdL Cv 1 h [] va (GN m)) :
  FnT Tryz.prog 233 #[va,.int .u64 (k:Int)] h [] (λr h' ms'=>h.le h'/\ms'=[]/\∃q,r=.tuple #[q,.int .u64 ((m%k:Nat):Int)]/\RdL Cv 1 h' [] q (GN (m/k))):=by
 by_cases h0:m=0
 ·subst h0;have rA:Rd h [] va 1 0 (([]:List Nat).flatMap Cv):=hA.rd;refine Av func233 ntmps233 Y Y (λw0 hw0=>?_);simp only[A3];refine Aw (Qm Y (Qm Y (BN (Qm Y (Qx (As rA.any Y B5 Y) Y (CQ (n:=0) Y B5 Ct Y Y Y (by rfl) (by rfl) (by omega) (by omega) Y Y Y (λg11=>Qm Y (BN (Qm Y (Ap (Ac (Aw (Qm Y (Qx (As rA.any Y B5 Y) Y (Qx (oS Y) Y (Qm Y (Ap (Ah (AD (λq sl h' ms'=>q=0/\sl=[(6,.slice (some ⟨g11,0,none⟩) 0 0),(7,.int .u64 0),(8,.int .i64 (-1))]/\h=h'/\ms'=[Bw g11 222 []]) 0 _ ⟨Y,Y,Y,Y⟩ Qs ?_)))))))))))))))))));rintro q sl h' ms' ⟨rfl,rfl,rfl,rfl⟩;refine Ac (Aw (Qm Y (Qm Y (Ap ?_))));refine Ax Y (λhlt=>?_) (λhlt=>?_)
  ·exact absurd hlt (by decide)
  ·refine Ay (Aa (Aa (Ag (Ab ?_))));have hO:OwnL Cv 1 222 (Bw g11 222 []) (.slice (some ⟨g11,0,none⟩) 0 0) []:=OwnL.blk (l:=([]:List Nat)) 0 DK Y (by omega);refine Bu hO λh2 l2 hR=>(Aw (Qm Y (Qc call229 Y (FE [] _ h2 hR (by simp)) (λr h3 ms3 l3 hF=>?_))))
   obtain⟨l3',rfl,hR3⟩:=hF;refine Qm Y (Qm Y (Qm Y (Ap (Aq ?_))));exact BA Y Y Y (⟨AI l2 l3',Y,_,by rw[Nat.zero_mod];rfl,by rw[Nat.zero_div];exact hR3⟩)
 ·rw[GA h0]at hA;have rA:Rd h [] va 1 1 ([m].flatMap Cv):=hA.rd;have cA:∀ms,Cell h ms ((AJ va).add (0*1)) (.int .u64 (m:Int)):=λms=>(hA.any (ms:=ms)).cell0 (j:=0) (by simp) rfl;refine Av func233 ntmps233 Y Y (λw0 hw0=>?_);simp only[A3];refine Aw (Qm Y (Qm Y (BN (Qm Y (Qx (As rA.any Y B5 Y) Y (CQ (n:=1) Y B5 Ct Y Y Y (by rfl) (by rfl) (by omega) (by omega) Y Y Y (λg11=>Qm Y (BN (Qm Y (Ap (Ac (Aw (Qm Y (Qx (As rA.any Y B5 Y) Y (Qx (oS Y) Y (Qm Y (Ap (Ah ?_))))))))))))))))));refine AD (λq sl h' ms'=>∃(i:Nat) (mo:Hp),i=q/\sl=[(0,va),(1,.int .u64 (k:Int)),(6,.slice (some ⟨g11,0,none⟩) 1 1),(7,.int .u64 ((if i=1 then 0 else m%k:Nat):Int)),(8,.int .i64 ((i:Int)-1))]/\h=h'/\ms'=[mo]/\i<=1/\OwnL Cv 1 222 mo (.slice (some ⟨g11,0,none⟩) 1 1) [if i=1 then 0 else m/k]) 1 _ ⟨1,_,Y,Y,Y,Y,by omega,OwnL.blk (l:=[0]) 1 DK Y (by omega)⟩ Qs ?_;rintro q sl h' ms' ⟨i,mo,rfl,rfl,rfl,rfl,hi,hO⟩;refine Ac (Aw (Qm Y (Qm Y (Ap ?_))));refine Ax Y (λhlt=>?_) (λhlt=>?_)
  ·have hi1:i=1:=by omega
   subst hi1;rw[if_pos rfl]at hO;simp only[if_true];have e20:((0*2^32%18446744073709551616:Nat):Int)=((0:Nat):Int):=rfl;have e25:((0 ||| m:Nat):Int)=(m:Int):=by rw[Nat.zero_or]
   refine Aj (Ab (Ac (Ah (Aw (Qm Y (Qx (RK e20 Y Y Y (by omega)) Y (Qm Y (Qm Y (Qx (AM _ rA.any Y B5 Ct Y Y Y (by omega)) Y (Ql Y FV (cA _) (Qx (UG e25 Y Y Y (by omega) (by omega)) Y (Qm Y (Ap (BK (n:=11) (bs:=[true,true,true,true,true,true,true,true,true,false,false]) [true,true,true,true,true,true,true,true,true] CZ (by kernel_rfl) (by kernel_rfl) Y Y (Qq Y (Qq Y (Qq Y (Qq Y (Qp Y (WX Y Y Y (by omega) (by omega)) (Qq Y (Qq Y (Qp Y (Yp Y Y Y (by omega)) (Qp Y (Cn _ Y B5 Ct Y Y Y (by omega)) ?_)))))))))))))))))))))));unfold FK;simp only[cons_append,nil_append];refine Qo 9 Y (CW (f:=λn:Nat=>Value.int .u64 (n:Int)) 0 0 (λ_=>rfl) hO Y Ct Y Y Y Y (by simp) rfl rfl (λm' hO'=>Qw (Qo 10 rfl (Qm rfl (Qw (Qe (Ak (Ab (Ad (Qm rfl (Qx (oS rfl) rfl (Qm rfl (An ?_)))))))))))));exact Am 0 _ (by omega) ⟨0,m',Y,Y,Y,Y,by omega,hO'⟩ Qs
  ·have hi1:i=0:=by omega
   subst hi1;rw[if_neg (by decide)]at hO;refine Ay (Aa (Aa (Ag (Ab (Bu hO λh2 l2 hR=>(Aw (Qm Y (Qc call229 Y (FE [m/k] _ h2 hR (by simp)) (λr h3 ms3 l3 hF=>?_)))))))));obtain⟨l3',rfl,hR3⟩:=hF;rw[Jg]at hR3;refine Qm Y (Qm Y (Qm Y (Ap (Aq ?_))));exact BA Y Y Y (⟨AI l2 l3',Y,_,Y,hR3⟩)
theorem NQ{n:Nat}(h:n<4294967296):((n &&& 4294967295:Nat):Int)=(n:Int):=by have:=Nat.and_two_pow_sub_one_eq_mod n 32;rw[show(2^32-1:Nat)=4294967295 from Y,Nat.mod_eq_of_lt (by omega)]at this;rw[this]
theorem Yc(a b:Nat)(hb:b<a)(ha:a<256)(va vb:Value)(h:Hp)(hA:RdL Cv 1 h [] va [a])(hB:RdL Cv 1 h [] vb [b]) :
  FnT Tryz.prog 190 #[va,vb] h [] (λr h' ms'=>h.le h'/\ms'=[]/\RdL Cv 1 h' [] r (GN (a-b))):=by
 have rA:Rd h [] va 1 1 ([a].flatMap Cv):=hA.rd;have rB:Rd h [] vb 1 1 ([b].flatMap Cv):=hB.rd;have cA:∀ms,Cell h ms ((AJ va).add (0*1)) (.int .u64 (a:Int)):=λms=>(hA.any (ms:=ms)).cell0 (j:=0) (by simp) rfl;have cB:∀ms,Cell h ms ((AJ vb).add (0*1)) (.int .u64 (b:Int)):=λms=>(hB.any (ms:=ms)).cell0 (j:=0) (by simp) rfl;refine Av func190 ntmps190 Y Y (λw0 hw0=>?_);simp only[A3];refine Aw (Qm Y (BN (Qm Y (Qx (As rA.any Y B5 Y) Y (CQ (n:=1) Y B5 Ct Y Y Y (by rfl) (by rfl) (by omega) (by omega) Y Y Y (λg11=>Qm Y (BN (Qm Y (Ap (Ac (Aw (Qm Y (Qx (As rA.any Y B5 Y) Y (Qm Y (Ap (Ah ?_))))))))))))))));refine AD (λq sl h' ms'=>∃(i:Nat) (mo:Hp),1-i=q/\sl=[(0,va),(1,vb),(5,.slice (some ⟨g11,0,none⟩) 1 1),(6,.int .u64 0),(13,.int .i64 ((1:Nat):Int)),(14,.int .i64 i)]/\h=h'/\ms'=[mo]/\i<=1/\OwnL Cv 1 222 mo (.slice (some ⟨g11,0,none⟩) 1 1) [if i=0 then 0 else a-b]) 1 _ ⟨0,_,Y,Y,Y,Y,by omega,OwnL.blk (l:=[0]) 1 DK Y (by omega)⟩ Qs ?_;rintro q sl h' ms' ⟨i,mo,rfl,rfl,rfl,rfl,hi,hO⟩;refine Aw (Qm Y (Ap (Ac ?_)));refine Ax Y (λhlt=>?_) (λhlt=>?_)
 ·have hi0:i=0:=by omega
  subst hi0;rw[if_pos rfl]at hO;have e22:IntKind.u64.wrap ((a:Int)-((0:Nat):Int))=(a:Int):=by rw[Ec (by omega)];omega
  refine Aj (Ab (Ac (Ah (Aw (Qm Y (Qm Y (BN (Qm Y (Qm Y (Qx (AM _ rA.any Y B5 Ct Y Y Y (by omega)) Y (Ql Y FV (cA _) (Qm Y (Qx (Q2 (b:=0) e22 Y Y Y) Y (Qm Y (Ap (Ac (Aw (Qm Y (Qm Y (Qx (As rB.any Y B5 Y) Y (Qm Y (Ap ?_))))))))))))))))))))));refine Ax Y (λh2=>?_) (λh2=>?_)
  ·have e32:IntKind.u64.wrap ((a:Int)-(b:Int))=((a-b:Nat):Int):=by rw[Ec (by omega)];omega
   have em:=NQ (n:=a-b) (by omega);have e38:(((a-b)/2^63:Nat):Int)=((0:Nat):Int):=by rw[Nat.div_eq_of_lt (by omega)]
   refine Ad (Qm Y (Qm Y (Qm Y (Qx (AM _ rB.any Y B5 Ct Y Y Y (by omega)) Y (Ql Y FV (cB _) (Qx (Q2 e32 Y Y Y) Y (Qm Y (GH (Qm Y (Qm Y (Qm Y (Qx (JZ em Y Y Y (by omega) (by omega)) Y (Qm Y (Qx (JO (n:=63) e38 Y Y Y (by omega)) Y (Qx (Cn _ Y B5 Ct Y Y Y (by omega)) Y (CW (f:=λn:Nat=>Value.int .u64 (n:Int)) 0 0 (λ_=>rfl) hO Y Ct Y Y Y Y (by simp) rfl rfl (λm' hO'=>Qm rfl (An (Ak (Ab (Ad (Qx (oA rfl) rfl (Qm rfl (An ?_))))))))))))))))))))))));exact Am 0 _ (by omega) ⟨1,m',Y,Y,Y,Y,by omega,hO'⟩ Qs
  ·exact absurd (by decide) h2
 ·have hi1:i=1:=by omega
  subst hi1;rw[if_neg (by decide)]at hO;refine Ay (Aa (Aa (Ag (Ab (Bu hO λh2 l2 hR=>(Aw (Qm Y (Qc call229 Y (FE [a-b] _ h2 hR (by simp)) (λr h3 ms3 l3 hF=>?_)))))))));obtain⟨l3',rfl,hR3⟩:=hF;rw[Jg]at hR3;refine Qm Y (Ap (Aq ?_));exact Az Y Y (⟨AI l2 l3',Y,hR3⟩)
theorem WZ(m:Nat)(hm:m<256)(va vb:Value)(h:Hp)(hA:RdL Cv 1 h [] va (GN m))(hB:RdL Cv 1 h [] vb [1]) :
  FnT Tryz.prog 189 #[va,vb] h [] (λr h' ms'=>h.le h'/\ms'=[]/\RdL Cv 1 h' [] r (GN (m+1))):=by
 refine Av func189 ntmps189 Y Y (λw0 hw0=>?_);simp only[A3];refine Aw (Qm Y (Ap ?_));refine A8 (λsl h' ms'=>∃(u w:Value) (x:Nat) (W:List Nat),sl=[(0,u),(1,w)]/\h=h'/\ms'=[]/\RdL Cv 1 h [] u [x]/\RdL Cv 1 h [] w W/\x<257/\((W=[]/\x=m+1)\/∃y,W=[y]/\y<256/\x+y=m+1)) ?_ (λs h ms hI=>?_)
 ·by_cases h0:m=0
  ·have e:GN m=[]:=if_pos h0;rw[e]at hA;have rA:Rd h [] va 1 0 (([]:List Nat).flatMap Cv):=hA.rd;have rB:Rd h [] vb 1 1 (([1]:List Nat).flatMap Cv):=hB.rd;refine Aw (Qm Y (Qx (As rA.any Y B5 Y) Y (Qm Y (Qx (As rB.any Y B5 Y) Y (Qm Y (Ap ?_))))));refine Ax Y (λh1=>?_) (λh1=>?_)
   ·refine Ad (Qm Y (Qm Y (Qm Y (Qm Y (An ?_)))));exact Ao _ ⟨vb,va,1,[],Y,Y,Y,hB,hA,by omega,.inl ⟨Y,by omega⟩⟩ Qs
   ·exact absurd (by decide) h1
  ·rw[GA h0]at hA;have rA:Rd h [] va 1 1 (([m]:List Nat).flatMap Cv):=hA.rd;have rB:Rd h [] vb 1 1 (([1]:List Nat).flatMap Cv):=hB.rd;refine Aw (Qm Y (Qx (As rA.any Y B5 Y) Y (Qm Y (Qx (As rB.any Y B5 Y) Y (Qm Y (Ap ?_))))));refine Ax Y (λh1=>?_) (λh1=>?_)
   ·exact absurd h1 (by decide)
   ·refine Aj ?_;exact Ao _ ⟨va,vb,m,[1],Y,Y,Y,hA,hB,by omega,.inr ⟨1,Y,by omega,by omega⟩⟩ Qs
 ·obtain⟨u,w,x,W,rfl,rfl,rfl,hU,hW,hx,hc⟩:=hI;have rU:Rd h [] u 1 1 ([x].flatMap Cv):=hU.rd;have cA:∀ms,Cell h ms ((AJ u).add (0*1)) (.int .u64 (x:Int)):=λms=>(hU.any (ms:=ms)).cell0 (j:=0) (by simp) rfl;have hWl:W.length<=1:=by rcases hc with ⟨rfl,_⟩|⟨y,rfl,_⟩<;>simp
  refine Aw (Qm Y (Qx (As rU.any Y B5 Y) Y (Qx (oA Y) Y (CQ (n:=2) Y B5 Ct Y Y Y (by rfl) (by rfl) (by omega) (by omega) Y Y Y (λg19=>Qm Y (BN (Qm Y (Ap (Ac (Aw (Qm Y (Qx (As rU.any Y B5 Y) Y (Qm Y (Ap (Ah ?_)))))))))))))));refine AD (λq sl h' ms'=>∃(i:Nat) (mo:Hp),1-i=q/\sl=[(0,u),(1,w),(5,.slice (some ⟨g19,0,none⟩) 2 2),(6,.int .u64 0),(21,.int .i64 ((1:Nat):Int)),(22,.int .i64 i)]/\h=h'/\ms'=[mo]/\i<=1/\OwnL Cv 1 222 mo (.slice (some ⟨g19,0,none⟩) 2 2) [if i=0 then 0 else m+1,0]) 1 _ ⟨0,_,Y,Y,Y,Y,by omega,OwnL.blk (l:=[0,0]) 2 DK Y (by omega)⟩ Qs ?_;rintro q sl h' ms' ⟨i,mo,rfl,rfl,rfl,rfl,hi,hO⟩;refine Aw (Qm Y (Ap (Ac ?_)));refine Ax Y (λhlt=>?_) (λhlt=>?_)
  ·have hi0:i=0:=by omega
   subst hi0;rw[if_pos rfl]at hO;have e30:IntKind.u64.wrap ((x:Int)+((0:Nat):Int))=(x:Int):=by rw[Ec (by omega)];omega
   have em:=NQ (n:=m+1) (by omega);have e46:((m+1)/2^32:Nat)=0:=Nat.div_eq_of_lt (by omega);have e46':(((m+1)/2^32:Nat):Int)=((0:Nat):Int):=by rw[e46]
   refine Aj (Ab (Ac (Ah (Aw (Qm Y (Qm Y (BN (Qm Y (Qm Y (Qx (BH (0) rU.any Y B5 Ct Y Y) Y (Ql Y FV (cA _) (Qm Y (Qx (Rj (b:=0) e30 Y Y Y) Y (Qm Y (Ap (Ac (Aw (Qm Y (Qm Y (Qx (As hW.rd.any Y B5 Y) Y (Qm Y (Ap ?_))))))))))))))))))))));refine Ax Y (λh2=>?_) (λh2=>?_)
   ·obtain⟨y,rfl,hy,hs⟩:∃y,W=[y]/\y<256/\x+y=m+1:=by
     rcases hc with ⟨rfl,_⟩|h
     ·exact absurd h2 (by decide)
     ·exact h
    have cB:∀ms,Cell h ms ((AJ w).add (0*1)) (.int .u64 (y:Int)):=λms=>(hW.any (ms:=ms)).cell0 (j:=0) (by simp) rfl;have e40:IntKind.u64.wrap ((x:Int)+(y:Int))=((m+1:Nat):Int):=by rw[Ec (by omega)];omega
    refine Ad (Qm Y (Qm Y (Qm Y (Qx (BH (0) hW.rd.any Y B5 Ct Y Y) Y (Ql Y FV (cB _) (Qx (Rj e40 Y Y Y) Y (Qm Y (GH (Qm Y (Qm Y (Qm Y (Qx (JZ em Y Y Y (by omega) (by omega)) Y (Qm Y (Qx (JO (n:=32) e46' Y Y Y (by omega)) Y (Qx (Cn (0) Y B5 Ct Y Y (by omega) (by omega)) Y (CW (f:=λn:Nat=>Value.int .u64 (n:Int)) 0 0 (λ_=>rfl) hO Y Ct Y Y Y Y (by simp) rfl rfl (λm' hO'=>Qm rfl (An (Ak (Ab (Ad (Qx (oA rfl) rfl (Qm rfl (An ?_))))))))))))))))))))))));exact Am 0 _ (by omega) ⟨1,m',Y,Y,Y,Y,by omega,hO'⟩ Qs
   ·obtain⟨rfl,hs⟩:W=[]/\x=m+1:=by
     rcases hc with h|⟨y,rfl,_⟩
     ·exact h
     ·exact absurd (by simp) h2
    subst hs;refine Aj (Ab (Ad (Qm Y (Qm Y (Qm Y (Qx (JZ em Y Y Y (by omega) (by omega)) Y (Qm Y (Qx (JO (n:=32) e46' Y Y Y (by omega)) Y (Qx (Cn (0) Y B5 Ct Y Y (by omega) (by omega)) Y (CW (f:=λn:Nat=>Value.int .u64 (n:Int)) 0 0 (λ_=>rfl) hO Y Ct Y Y Y Y (by simp) rfl rfl (λm' hO'=>Qm rfl (An (Ak (Ab (Ad (Qx (oA rfl) rfl (Qm rfl (An ?_))))))))))))))))));exact Am 0 _ (by omega) ⟨1,m',Y,Y,Y,Y,by omega,hO'⟩ Qs
  ·have hi1:i=1:=by omega
   subst hi1;rw[if_neg (by decide)]at hO;refine Ay (Aa (Aa (Ag (Ab (Aw (Qm Y (Qm Y (Qx (As rU.any Y B5 Y) Y (Qm Y (Qx (Cn (1) Y B5 Ct Y Y (by omega) (by omega)) Y (CW (f:=λn:Nat=>Value.int .u64 (n:Int)) (a:=0) 0 1 (λ_=>rfl) hO Y Ct Y Y Y Y (by simp) rfl rfl (λm' hO'=>Ap (Bu hO' λh2 l2 hR=>(Aw (Qm rfl (Qc call229 rfl (FE [m+1,0] _ h2 hR (by simp)) (λr h3 ms3 l3 hF=>?_)))))))))))))))));obtain⟨l3',rfl,hR3⟩:=hF;rw[Mf]at hR3;refine Qm Y (Ap (Aq ?_));exact Az Y Y (⟨AI l2 l3',Y,hR3⟩)
theorem Yf(h:Hp)(ms:List Hp):RdL Cv 1 h ms (.slice none 0 0) []:=⟨⟨⟨none,0,rfl,Nat.le_refl _,by decide,rfl,λh=>absurd h (by decide)⟩⟩,DK⟩
theorem Xv(m k:Nat)(hm:m<256)(hk:k≠0)(hk2:k<256)(va vb:Value)(h:Hp)(hA:RdL Cv 1 h [] va (GN m))(hB:RdL Cv 1 h [] vb [k]) :
  FnT Tryz.prog 188 #[va,vb] h [] (λr h' ms'=>h.le h'/\ms'=[]/\∃q u,r=.tuple #[q,u]/\RdL Cv 1 h' [] q (GN (m/k))/\RdL Cv 1 h' [] u (GN (m%k))):=by
 have rB:Rd h [] vb 1 1 ([k].flatMap Cv):=hB.rd;have cB:∀ms,Cell h ms ((AJ vb).add (0*1)) (.int .u64 (k:Int)):=λms=>(hB.any (ms:=ms)).cell0 (j:=0) (by simp) rfl;have oa:=hA.rd.one;have ob:=hB.rd.one;refine Av func188 ntmps188 Y Y (λw0 hw0=>?_);simp only[A3];refine Aw (Qm Y (Qm Y (Ap (Ac (Aw (Qm Y (Qm Y (Qx (AR Y call232 Y (EX (X5 m k hk va vb h hA hB) _)) Y (Qm Y (Ap ?_))))))))));refine Ax Y (λh1=>?_) (λh1=>?_)
 ·have hlt:m<k:=by
   unfold Sc at h1;rcases Nat.lt_or_ge m k with h|h
   ·exact h
   ·rw[if_neg (by omega)]at h1;split at h1<;>omega
  refine Aw (Qm Y (Qm Y (Qm Y (Ap (Aq (Ae ?_))))));exact BA Y Y Y (⟨B8,Y,_,_,Y,by rw[Nat.div_eq_of_lt hlt];exact Yf _ _,by rw[Nat.mod_eq_of_lt hlt];exact hA⟩)
 ·refine Aj (Ab (Ac (Aw (Qm Y (Qx (As rB.any Y B5 Y) Y (Qm Y (Ap ?_)))))));refine Ax Y (λh2=>?_) (λh2=>?_)
  ·refine Ac (Ad (Qm Y (Qm Y (Qx (AM 0 rB.any Y B5 Ct Y Y Y (by omega)) Y (Ql Y FV (cB _) (Qc call233 Y (TT m k hm hk hk2 va h hA) (λr h3 ms3 l3 hF=>?_)))))));obtain⟨l3',rfl,q,rfl,hq⟩:=hF;have oq:=hq.rd.one;refine Qm Y (Qm Y (Qm Y (Qm Y (Qm Y (BN (Qm Y (Qm Y (Ar [_] Y B5 Ct Y (by rfl) Y Y (by omega) Y Y Y (λg37=>DX λh4 l4 hS=>?_)))))))));have hR:RdL Cv 1 h4 [] (.slice (some ⟨g37,0,none⟩) 1 1) [m%k]:=⟨⟨⟨_,_,Y,Nat.le_refl _,by decide,Y,λ_=>⟨_,Y,hS⟩⟩⟩,DK⟩
   refine Qc call229 Y (FE [m%k] _ h4 hR (by simp)) (λr h5 ms5 l5 hF=>?_);obtain⟨l5',rfl,hR5⟩:=hF;rw[Jg]at hR5;have or_:=hR5.rd.one;refine Qm Y (Qm Y (Ap (Aq (Ae ?_))));exact BA Y Y Y (⟨AI l3' (AI l4 l5'),Y,_,_,Y,(hq.up l4).up l5',hR5⟩)
  ·exact absurd (by decide) h2
theorem Xh(m k:Nat)(hk:0<k):(-(m:Int))%(k:Int)=(if m%k=0 then 0 else k-m%k:Nat):=by
 have h1:(m:Int)=((m%k:Nat):Int)+(k:Int)*((m/k:Nat):Int):=by
  have:=Nat.mod_add_div m k
  exact_mod_cast this.symm
 have hlt:=Nat.mod_lt m hk;split
 ·rename_i h0;rw[h0]at h1;have:-(m:Int)=0+(k:Int)*(-((m/k:Nat):Int)):=by rw[Int.mul_neg];omega
  rw[this,Int.add_mul_emod_self_left];rfl
 ·rename_i h0
  have:-(m:Int)=((k-m%k:Nat):Int)+(k:Int)*(-((m/k:Nat):Int)-1):=by rw[Int.mul_sub,Int.mul_neg,Int.mul_one];omega
  rw[this,Int.add_mul_emod_self_left,Int.emod_eq_of_lt (by omega) (by omega)]
theorem L6(n:Nat):F0 (GN n)=GN n:=by
 unfold GN;split
 ·rfl
 ·rename_i h;exact Fo [] h
theorem Z3(n:Int)(k:Nat)(hn:-256<n/\n<256)(hk:2<=k)(hk2:k<256)(h:Hp) :
  FnT Tryz.prog 127 #[WD n,WD (k:Int)] h [] (λr h' ms'=>h.le h'/\ms'=[]/\∃(b:Bool) (l:List UInt8),r=.tuple #[.agg #[.bool b,sv l],WD (n%(k:Int)),.bool true]):=by
 obtain⟨m,hm⟩:∃m,n.natAbs=m:=⟨_,Y⟩
 have hm2:m<256:=by omega
 have osn:(sv (H6 n.natAbs)).oneCell'=true:=rfl;have osk:(sv (H6 (k:Int).natAbs)).oneCell'=true:=rfl;refine Av func127 ntmps127 Y Y (λw0 hw0=>?_);simp only[A3];refine Aw (AY [_,_] Y Y (by rfl) Y Y Y (λg2=>AY [_,_] Y Y (by rfl) Y Y Y (λg3=>By [.bool false,.string ByteArray.empty] Y Cy Y Y (λg4=>By [.bool false,.string ByteArray.empty] Y Cy Y Y (λg5=>Qm Y (Ap (Bk 2 Y λh1 l1 hS3=>(Bk 2 Y λh2 l2 hS2=>?_))))))));have gS2:∀ms,Seg h2 ms (⟨g2,0,none⟩:Addr) [.bool (decide (n<0)),sv (H6 n.natAbs)]:=λms=>hS2.any;have gS3:∀ms,Seg h2 ms (⟨g3,0,none⟩:Addr) [.bool (decide ((k:Int)<0)),sv (H6 (k:Int).natAbs)]:=λms=>(hS3.le l2).any;refine Ac (BK (n:=6) (bs:=[true,false,true,false,false,false]) [true,false,true] CZ (by kernel_rfl) (by kernel_rfl) Y Y (Qp Y (oG Y Lg Cy (gS2 _)) (Qp Y (oG Y Lg Cy (gS3 _)) ?_)));unfold FK;simp only[cons_append,nil_append];refine Qo 1 Y (Qc call187 Y (Pn n hn h2) (λa h3 ms3 l3 hF=>?_));obtain⟨l3',rfl,hA⟩:=hF;rw[hm]at hA;refine Qa (Qo 3 Y (Qc call187 Y (Pn (k:Int) (by omega) h3) (λb h4 ms4 l4 hF=>?_)));obtain⟨l4',rfl,hB⟩:=hF;have l24:=AI l3' l4';refine Qa (Qo 4 Y (Qm Y (Qa (Qo 5 Y (Qm Y (Qa (Qe ?_)))))));have hA4:=hA.up l4'
 have hBk:RdL Cv 1 h4 [] b [k]:=by
  have:GN (k:Int).natAbs=[k]:=by rw[Int.natAbs_natCast];exact if_neg (by omega)
  rw[this]at hB;exact hB
 have rB:Rd h4 [] b 1 1 ([k].flatMap Cv):=hBk.rd;have oa:=hA4.rd.one;have ob:=hBk.rd.one;refine Ab (Ac (Aw (Qm Y (Qx (As rB.any Y B5 Y) Y (Qm Y (Ap ?_))))));refine Ax Y (λhz=>?_) (λhz=>?_)
 ·exact absurd hz (by decide)
 ·refine Aj (Ab (Aw (Qm Y (Qm Y (Qc call188 Y (Xv m k hm2 (by omega) hk2 a b h4 hA4 hBk) (λr h5 ms5 l5 hF=>?_))))));obtain⟨l5',rfl,q,u,rfl,hQ,hU⟩:=hF;have oq:=hQ.rd.one;have ou:=hU.rd.one;have hB5:=hBk.up l5';have l25:=AI l24 l5';have e2:∀ms,Cell h5 ms ((⟨g2,0,none⟩:Addr).add 0) (.bool (decide (n<0))):=λms=>((hS2 0 _ Y).any).le l25;have e3:∀ms,Cell h5 ms ((⟨g3,0,none⟩:Addr).add 0) (.bool (decide ((k:Int)<0))):=λms=>((hS3.le l2) 0 _ Y).any.le l25;refine Qm Y (Qm Y (Qm Y (Qm Y (Qm Y (Ap ?_)))))
  have hmk:m/k<128:=by have:=Nat.div_le_div_left (a:=m) hk (by omega);omega
  have hmm:m%k<k:=Nat.mod_lt _ (by omega);refine A8 (λsl h' ms'=>∃(q' u':Value) (Q:Nat),sl=[(2,.pointer (some ⟨g2,0,none⟩)),(3,.pointer (some ⟨g3,0,none⟩)),(4,.pointer (some ⟨g4,0,none⟩)),(5,.pointer (some ⟨g5,0,none⟩)),(9,q'),(10,u')]/\h5.le h'/\ms'=[Bw g5 172 [.bool false,.string ByteArray.empty],Bw g4 172 [.bool false,.string ByteArray.empty]]/\Q<256/\RdL Cv 1 h' [] q' (GN Q)/\RdL Cv 1 h' [] u' (GN (n%(k:Int)).toNat)) ?_ (λs h ms hI=>?_)
  ·refine Ac (Ad (Qf JX Y (Ql Y U4 (e2 _) (Qm Y ?_))));refine AU (t:=28) Y (λhneg=>?_) (λhneg=>?_)
   ·have hnm:n=-(m:Int):=by omega
    have hnk:=Xh m k (by omega);rw[<-hnm]at hnk;refine Qg (AC Y Y) Y (Qg (As hU.rd.any Y B5 Y) Y (Qg (CA Y Y Y) Y (Qm Y (Ap ?_))));refine Ax Y (λh3=>?_) (λh3=>?_)
    ·have h0:m%k≠0:=by intro h0;rw[h0]at h3;exact absurd h3 (by decide)
     rw[if_neg h0]at hnk;have hU1:RdL Cv 1 h5 [] u [m%k]:=by rw[<-GA h0];exact hU
     refine Ad (Qm Y (Ar [_] Y B5 Ct Y (by rfl) Y Y (by omega) Y Y Y (λg34=>DX λh6 l6 hS1=>?_)));have hR1:RdL Cv 1 h6 [] (.slice (some ⟨g34,0,none⟩) 1 1) [1]:=⟨⟨⟨_,_,Y,Nat.le_refl _,by decide,Y,λ_=>⟨_,Y,hS1⟩⟩⟩,DK⟩
     refine Qc call189 Y (WZ (m/k) (by omega) q _ h6 (hQ.up l6) hR1) (λx h7 ms7 l7 hF=>?_);obtain⟨l7',rfl,hX⟩:=hF;have ox:=hX.rd.one;refine Qm Y (Qm Y (Qc call190 Y (Yc k (m%k) hmm hk2 b u h7 ((hB5.up l6).up l7') ((hU1.up l6).up l7')) (λy h8 ms8 l8 hF=>?_)));obtain⟨l8',rfl,hY⟩:=hF;refine Qm Y (Qm Y (An ?_));exact Ao _ ⟨x,y,m/k+1,Y,AI l6 (AI l7' l8'),Y,by omega,hX.up l8',by rw[hnk,Int.toNat_natCast];exact hY⟩ Qs
    ·have h0:m%k=0:=by refine Classical.byContradiction λh0=>h3 ?_;rw[GA h0];simp
     rw[if_pos h0]at hnk;refine Aj ?_;exact Ao _ ⟨q,u,m/k,Y,B8,Y,by omega,hQ,by rw[hnk,Int.toNat_natCast,<-h0];exact hU⟩ Qs
   ·have hnm:n=(m:Int):=by omega
    have hnk:n%(k:Int)=((m%k:Nat):Int):=by rw[hnm];exact(Int.natCast_emod m k).symm
    refine Qk Y (Qk Y (Qk Y (Qm Y (Ap (AV Y (Aj ?_))))));exact Ao _ ⟨q,u,m/k,Y,B8,Y,by omega,hQ,by rw[hnk,Int.toNat_natCast];exact hU⟩ Qs
  ·obtain⟨q',u',Q,rfl,l6,rfl,hQ2,hQ',hU'⟩:=hI;have oq':=hQ'.rd.one;have ou':=hU'.rd.one;have hkp:(0:Int)<(k:Int):=by omega
   have hr0:=Int.emod_nonneg n (Int.ne_of_gt hkp);have hr1:=Int.emod_lt_of_pos n hkp
   have eR:Value.agg #[.bool (false&&decide (H6 (n%(k:Int)).toNat≠[])),sv (H6 (n%(k:Int)).toNat)]=WD (n%(k:Int)):=by
    unfold WD;have h1:(n%(k:Int)).natAbs=(n%(k:Int)).toNat:=by omega
    have h2:decide (n%(k:Int)<0)=false:=decide_eq_false (by omega);rw[h1,h2];rfl
   have hrn:(n%(k:Int)).toNat<256:=by omega
   refine Aw (Qm Y (Qf JX Y (Ql Y U4 ((e2 _).le l6) (Qf JX Y (Ql Y U4 ((e3 _).le l6) (Qx (Zt Y U4 Y Y) Y ?_))))));refine Qc call186 Y (Mu (GN Q) _ q' Q hQ2 (L6 Q) _ hQ' (by have:=JY Q;omega)) (λx1 h7 ms7 l7 hF=>?_);obtain⟨l7',rfl,rfl⟩:=hF;refine Qm Y ?_;refine Qc call186 Y (Mu (GN (n%(k:Int)).toNat) false u' (n%(k:Int)).toNat hrn (L6 _) h7 (hU'.up l7') (by have:=JY (n%(k:Int)).toNat;omega)) (λx2 h8 ms8 l8 hF=>?_);obtain⟨l8',rfl,rfl⟩:=hF;have os1:(sv (H6 Q)).oneCell'=true:=rfl;have os2:(sv (H6 (n%(k:Int)).toNat)).oneCell'=true:=rfl;refine Sa 1 [_,_] Cy Y (by simp[osn,osk,oq',ou',os1,os2]) ?_;refine Sa 0 [_,_] Cy Y (by simp[osn,osk,oq',ou',os1,os2]) ?_;refine Qm Y (Ap (Aq (CD 1 Y ?_)));exact Uv (vs:=[_,_]) (vs2:=[_,_]) Y Y Y Y Lg Y Cy Y Y ⟨AI l1 (AI l2 (AI l25 (AI l6 (AI l7' l8')))),Y,_,_,by rw[<-eR]⟩
theorem Zi(n:Nat)(hn:n<256)(h:Hp) :
  FnT Tryz.prog 128 #[WD (n:Int)] h [] (λr h' ms'=>h.le h'/\ms'=[]/\r=.tuple #[.int .i64 n,.bool true]):=by
 have osn:(sv (H6 (n:Int).natAbs)).oneCell'=true:=rfl;refine Av func128 ntmps128 Y Y (λw0 hw0=>?_);simp only[A3];refine Aw (AY [_,_] Y Y (by rfl) Y Y Y (λg1=>Qm Y (Qm Y (Ap (AB λh2 l2 hS2=>?_)))));have gS2:∀ms,Seg h2 ms (⟨g1,0,none⟩:Addr) [.bool (decide ((n:Int)<0)),sv (H6 (n:Int).natAbs)]:=λms=>hS2.any;refine Aw (Qx (oG Y Lg Cy (gS2 _)) Y (Qc call187 Y (Pn (n:Int) (by omega) h2) (λa h3 ms3 l3 hF=>?_)));obtain⟨l3',rfl,hA⟩:=hF;rw[Int.natAbs_natCast]at hA;obtain⟨W,hW⟩:∃W,GN n=W:=⟨_,Y⟩
 have hWl:W.length<=1:=by rw[<-hW];exact JY n
 rw[hW]at hA;have oa:=hA.rd.one;refine Qm Y (Ap (Ac (Aw (Qm Y (Qx (As hA.rd.any Y B5 Y) Y (Qm Y (Ap ?_)))))));refine Ax Y (λh1=>?_) (λh1=>?_)
 ·exact absurd h1 (by omega)
 ·refine Aj (Ab (Aw (Qm Y (Ap (Ac (Aw (Qm Y (Qx (As hA.rd.any Y B5 Y) Y (Qm Y (Ap (Ah ?_)))))))))));refine AD (λq sl h' ms'=>∃(i:Nat),W.length-i=q/\sl=[(1,.pointer (some ⟨g1,0,none⟩)),(4,a),(5,.int .u64 ((if i=0 then 0 else n:Nat):Int)),(13,a),(14,.int .i64 (W.length:Int)),(15,.int .i64 i)]/\h3=h'/\ms'=[]/\i<=W.length) W.length _ ⟨0,Y,Y,Y,Y,by omega⟩ Qs ?_;rintro q sl h' ms' ⟨i,rfl,rfl,rfl,rfl,hi⟩;refine Aw (Qm Y (Ap (Ac ?_)));refine Ax Y (λhlt=>?_) (λhlt=>?_)
  ·have hi0:i=0:=by omega
   subst hi0;have hn0:n≠0:=by rintro rfl;rw[<-hW]at hlt;exact absurd hlt (by decide)
   have hWn:W=[n]:=by rw[<-hW];exact GA hn0
   subst hWn;have cA:∀ms,Cell h3 ms ((AJ a).add (0*1)) (.int .u64 (n:Int)):=λms=>(hA.any (ms:=ms)).cell0 (j:=0) (by simp) rfl;have e24:((n*2^0%18446744073709551616:Nat):Int)=(n:Int):=by rw[Nat.pow_zero,Nat.mul_one,Nat.mod_eq_of_lt (by omega)]
   have e25:((0 ||| n:Nat):Int)=(n:Int):=by rw[Nat.zero_or]
   refine Aj (Ab (Ac (Ah (Aw (Qm Y (Qx (BH (0) hA.rd.any Y B5 Ct Y Y) Y (Ql Y FV (cA _) (Qm Y (Qm Y (GH (Qm Y (Qm Y (Qm Y (Qx (oM Y) Y (Qx (RK (n:=0) e24 Y Y Y (by omega)) Y (Qx (UG (a:=0) (b:=n) e25 Y Y Y (by omega) (by omega)) Y (Qm Y (An (Ak (Ab (Ad (Qx (oA Y) Y (Qm Y (An ?_))))))))))))))))))))))));exact Am 0 _ (by simp) ⟨1,rfl,rfl,rfl,rfl,by simp⟩ Qs
  ·have hiW:i=W.length:=by omega
   have em:(if i=0 then 0 else n)=n:=by
    by_cases h0:n=0
    ·subst h0;simp
    ·have:W=[n]:=by rw[<-hW];exact GA h0
     rw[hiW,this];simp
   rw[em];have e1:∀ms,Cell h3 ms ((⟨g1,0,none⟩:Addr).add 0) (.bool (decide ((n:Int)<0))):=λms=>((hS2 0 _ Y).any).le l3';refine Ay (Aa (Aa (Ag (Ab (Ac (Ah (Aw (Qf JX Y (Ql Y U4 (e1 _) (Qm Y ?_))))))))));refine AU (t:=30) Y (λhneg=>?_) (λhneg=>?_)
   ·exact absurd hneg (by omega)
   ·refine Qk Y (Qk Y (Qm Y (Qm Y (Ap (AV Y (Aw (Qm Y (Qm Y (Qm Y (Ap ?_))))))))));refine Ax Y (λh5=>?_) (λh5=>?_)
    ·exact absurd h5 (by omega)
    ·refine Aj (Ak (Ab (Aw (Qm Y (Qx (Ie (a:=(n:Int)) Y FV U3 Y (C8 (by omega))) Y (Qm Y (Qm Y (Ap (Aq ?_)))))))));exact BA Y Y Y (⟨AI l2 l3',Y,Y⟩)
theorem Aa3(n:Nat)(hn:n<256)(h:Hp)(ms:List Hp):FnV Tryz.prog 128 #[WD (n:Int)] h ms (.tuple #[.int .i64 n,.bool true]):=EX ((Zi n hn h).mono λ_ _ _ h=>h.2.2) ms
def Ps(n:Int):List Value:=[.bool (decide (n<0)),sv (H6 n.natAbs)]
theorem Yd:∀n,(Ps n).length=2:=λ_=>rfl
theorem Xp:∀a:Int,∀c∈Ps a,c.oneCell'=true:=λa c hc=>by unfold Ps at hc;simp only[mem_cons,not_mem_nil,or_false]at hc;rcases hc with rfl|rfl<;>rfl
theorem AaR(n:Int):WD n=.agg (Ps n).toArray:=rfl
theorem Nm{l:List Int}{k n:Nat}(hk:k<n)(hl:l.length=n):(l.take k++replicate (n-k) 0).set k (l[k]'(by omega))=l.take (k+1)++replicate (n-(k+1)) 0:=by
 have h1:(l.take k).length=k:=by rw[length_take];omega
 have h2:replicate (n-k) (0:Int)=0::replicate (n-(k+1)) 0:=by rw[<-List.replicate_succ];congr 1;omega
 rw[List.set_append_right _ _ (by omega),h1,Nat.sub_self,h2,List.set_cons_zero,take_succ_eq_append_getElem (by omega),List.append_assoc];rfl
theorem Yt(p:Int)(r c:Nat)(hp:IsP p)(hp2:p<256)(hr:r<=200)(hc:c<=200)(L:List Int)(hL:L.length=r*c)(hb:∀x∈L,-256<x/\x<256)(ev:Value)(h:Hp)(hR:RdL Ps 2 h [] ev L) :
  FnT Tryz.prog 60 #[.int .i64 p,.agg #[.int .i64 r,.int .i64 c,ev]] h [] (λv h' ms'=>h.le h'/\YN v ms' ⟨p,r,c,L.map (· % p)⟩):=by
 have hpb:=hp.1;have hrc:r*c<=40000:=Nat.mul_le_mul hr hc;obtain⟨pn,rfl⟩:=Int.eq_ofNat_of_zero_le (show 0<=p by omega);have oe:=hR.rd.one;refine Av func60 ntmps60 Y Y (λw0 hw0=>?_);simp only[A3];refine Aw (AY [_,_,_] Y Y (by rfl) Y Y Y (λg3=>By [.int .i64 0,.int .i64 0,.int .i64 0,.slice none 0 0] Y EI Y Y (λg4=>Ap ?_)))
 -- ms=[Bw g4 (result),Bw g3 (the matrix)]
 refine Bk 1 Y λh1 l1 hS3=>?_;have hR1:=hR.up l1;have e0:∀ms,Cell h1 ms ((⟨g3,0,none⟩:Addr).add 0) (.int .i64 r):=λms=>(hS3 0 _ Y).any;have e1:∀ms,Cell h1 ms ((⟨g3,0,none⟩:Addr).add 1) (.int .i64 c):=λms=>(hS3 1 _ Y).any;have e2:∀ms,Cell h1 ms ((⟨g3,0,none⟩:Addr).add 2) ev:=λms=>(hS3 2 _ Y).any;refine Aw (Qm Y (Qf XX Y (Ql Y U3 (e0 _) (Qf YJ Y (Ql Y U3 (e1 _) ?_)))));refine Qc call125 Y (XC (pn:Int) r c h1 ⟨by omega,by omega⟩) (λz h2 ms2 l2 hF=>?_);obtain⟨rfl,eu,m,rfl,rfl,hO⟩:=hF
 have hZ:mkZ (pn:Int) r c=⟨(pn:Int),r,c,replicate (r*c) 0⟩:=by unfold mkZ;rw[if_pos ⟨hp,by unfold I4;omega⟩,show((r:Int)*c).toNat=r*c by rw[<-Int.natCast_mul,Int.toNat_natCast]]
 rw[hZ]at hO;simp only[hZ];have ou:=hO.o1;have rE:Rd h1 [] ev 2 (r*c) (L.flatMap Ps):=by have:=hR1.rd;rwa [hL]at this
 have rU:Rd h1 [m] eu 1 (r*c) ((replicate (r*c) (0:Int)).flatMap cI):=by have:=(hO.rd (h:=h1) (ms:=[m]) Mh).rd;rwa [length_replicate]at this
 refine By [.int .i64 0,.int .i64 0,.int .i64 0,.slice none 0 0] Y EI Y Y (λg5=>?_);refine Sa 0 [_,_,_,_] EI Y (by simp[oe,ou]) ?_;refine Ap (Ac (Aw (Qf FP Y (Ql Y U3 (Cell.blk 0 Y Y) (Qm Y (Qm Y ?_))))));refine AU (t:=21) Y (λh0=>?_) (λh0=>?_)
 ·exact absurd h0 (by omega)
 ·refine Qg (oF J0 Y) Y (Qg (oL Y Lp (e2 _)) Y (Qg (As rE.any Y Lp Y) Y (Qg (oF HT Y) Y (Qg (oL Y A0 (Cell.blk 0 Y Y)) Y (Qg (D7 rU Y A0 Y) Y (Qg (Ep Y Y Y) Y (Qm Y (Ap ?_))))))));refine Ax Y (λhne=>?_) (λhne=>?_)
  ·exact absurd Y hne
  ·refine Aj (Ab (AB λh2 l2 hS5=>?_));have hR2:=hR1.up l2;have osp:(sv (H6 (pn:Int).natAbs)).oneCell'=true:=rfl;refine Aw (Qm Y (Qx (AR Y call126 Y (UE (pn:Int) (by omega) _ _)) Y (By [.bool false,.string ByteArray.empty] Y Cy Y Y (λg6=>?_))));refine Sa 0 [_,_] Cy Y (by simp[oe,ou,Ks]) ?_;refine Ap (AB λh3 l3 hS6=>?_);have l13:=AI l2 l3;have hR3:=hR1.up l13;have rE3:=rE.le l13;have e2:∀ms,Cell h3 ms ((⟨g3,0,none⟩:Addr).add 2) ev:=λms=>(e2 ms).le l13;refine Ac (Aw (Qf J0 Y (Ql Y Lp (e2 _) (Qx (As rE3.any Y Lp Y) Y (Qm Y (Ap (Ah ?_)))))));refine AD (λq sl h' ms'=>∃(k:Nat) (mo:Hp),r*c-k=q/\sl=[(4,.pointer (some ⟨g4,0,none⟩)),(5,.pointer (some ⟨g5,0,none⟩)),(6,.pointer (some ⟨g6,0,none⟩)),(34,ev),(35,.int .i64 ((r*c:Nat):Int)),(36,.int .i64 k)]/\h3.le h'/\ms'=[mo,Bw g4 65 [.int .i64 0,.int .i64 0,.int .i64 0,.slice none 0 0]]/\k<=r*c/\OwnL cI 1 3 mo eu ((L.map (· % (pn:Int))).take k++replicate (r*c-k) 0)) (r*c-0) _ ⟨0,_,Y,Y,B8,Y,by omega,by rw[take_zero,nil_append];exact hO⟩ Qs ?_;rintro q sl h' ms' ⟨k,mo,rfl,rfl,lh,rfl,hk,hO⟩;have hR4:=hR3.up lh;have rE4:=rE3.le lh;refine Aw (Qm Y (Ap (Ac ?_)));refine Ax Y (λhlt=>?_) (λhlt=>?_)
   ·have hkL:k<L.length:=by omega
    obtain⟨x,hx⟩:∃x,L[k]=x:=⟨_,Y⟩
    have hxb:=hb x (by rw[<-hx];exact getElem_mem hkL);have gE:∀ms,Seg h' ms ((AJ ev).add (k*2)) (Ps x):=λms=>by rw[<-hx];exact(hR4.any (ms:=ms)).seg hkL
    have osx:(sv (H6 x.natAbs)).oneCell'=true:=rfl;refine Aj (Ab (Ac (Ah (Aw (Qm Y (Qx (BH (k) rE4.any Y Lp Cy Y Y) Y (Qx (oG Y Lg Cy (gE _)) Y (By [.bool false,.string ByteArray.empty] Y Cy Y Y (λg8=>Qm Y ?_)))))))));refine Sa 0 [_,_] Cy Y (by simp[oe,ou,Ks]) ?_;refine Ap ?_;have gS6:∀ms,Seg h' ms (⟨g6,0,none⟩:Addr) (Ps (pn:Int)):=λms=>(hS6.le lh).any;refine Aw (Qx (oG Y Lg Cy (Seg.blk 0 Y)) Y (Qx (oG Y Lg Cy (gS6 _)) Y (Qc call127 Y (Z3 x pn hxb (by omega) (by omega) h') (λz h4 ms4 l4 hF=>?_))));obtain⟨l4',rfl,bq,lq,rfl⟩:=hF;obtain⟨y,hy⟩:∃y:Nat,x%(pn:Int)=y:=⟨(x%(pn:Int)).toNat,by have:=Int.emod_nonneg x (show(pn:Int)≠0 by omega);omega⟩
    have hyp:y<pn:=by have:=Int.emod_lt_of_pos x (show 0<(pn:Int) by omega);omega
    rw[hy,AaR];refine Qm Y (Qm Y (Qm Y (Qm Y (By [.bool false,.string ByteArray.empty] Y Cy Y Y (λg9=>By [.bool false,.string ByteArray.empty] Y Cy Y Y (λg10=>?_))))));refine Sa 1 [_,_] Cy Y (by simp[oe,ou,Ks]) ?_;refine Sa 0 [_,_] Cy Y (by simp[oe,ou,Ks]) ?_;refine Qm Y (Ap (AB λh5 l5 hS10=>?_));have lh5:=AI lh (AI l4' l5);have gS10:∀ms,Seg h5 ms (⟨g10,0,none⟩:Addr) (Ps (y:Int)):=λms=>hS10.any;have e5:∀ms,Cell h5 ms ((⟨g5,0,none⟩:Addr).add 3) eu:=λms=>(((hS5.le l3).le lh5) 3 _ Y).any
    have hln:((L.map (· % (pn:Int))).take k++replicate (r*c-k) 0).length=r*c:=by rw[length_append,length_take,length_map,length_replicate];omega
    refine BK (n:=10) (bs:=[true,true,true,true,true,true,true,true,true,false]) [true,true,true,true,true,true,true,true,true] CZ (by kernel_rfl) (by kernel_rfl) Y Y (QF HT Y (QL Y A0 (e5 _) (Qq Y (Qp Y (oG Y Lg Cy (gS10 _)) (Qp Y (AR Y call128 Y (Aa3 y (by omega) _ _)) (Qq Y (Qq Y (Qq Y (Qp Y (BL (k) (hO.rd (h:=h5) (ms:=[mo]) Mh).rd Y A0 Ba Y Y (by omega) (by omega)) ?_)))))))));unfold FK;simp only[cons_append,nil_append];refine Qo 9 Y ?_;refine De 2 k hO Y Ba Y Y Y (by rw[hln];omega) rfl rfl (λmo' hO'=>?_);refine Qw (Qe ?_);have hset:=Nm (l:=L.map (· % (pn:Int))) (k:=k) (n:=r*c) (by omega) (by rw[length_map];exact hL);rw[getElem_map,hx,hy]at hset;rw[hset]at hO';refine Ak (Ab (Ad (Qx (oA Y) Y (Qm Y (An ?_)))));refine AS (AS ?_);exact Am (r*c-(k+1)) _ (by omega) ⟨k+1,mo',Y,Y,lh5,Y,by omega,hO'⟩ Qs
   ·have hkn:k=r*c:=by omega
    have gS5:∀ms,Seg h' ms (⟨g5,0,none⟩:Addr) [.int .i64 pn,.int .i64 r,.int .i64 c,eu]:=λms=>((hS5.le l3).le lh).any;refine Ay (Aa (Aa (Ag (Ab (Aw (Qx (oG Y Vr EI (gS5 _)) Y ?_))))));refine Sa 1 [_,_,_,_] EI Y (by simp[oe,ou,Ks]) ?_;refine Ap (Aq ?_);exact BB (vs:=[_,_,_,_]) 1 Y Y Vr Y EI Y Y (⟨AI l1 (AI l13 lh),eu,mo,Y,Y,by rw[hkn,Nat.sub_self,List.replicate_zero,append_nil,List.take_of_length_le (by rw[length_map];omega)]at hO;exact hO⟩)
def Vy(v:Value)(ms:List Hp)(r c:Nat)(L:List Int):Prop:=∃ev m,ms=[m]/\v=.agg #[.int .i64 r,.int .i64 c,ev]/\OwnL Ps 2 172 m ev L
theorem VL(r c:Nat)(hr:r<=200)(hc:c<=200)(h:Hp):FnT Tryz.prog 191 #[.int .i64 r,.int .i64 c] h [] (λv _ _=>v=.bool true):=by
 refine Av func191 ntmps191 Y Y (λw0 hw0=>?_);simp only[A3];refine Aw (Qm Y (BN (Qm Y (Qm Y (Qx (KW Y Y Y) Y (Qm Y (Qm Y ?_)))))));refine AU (t:=9) Y (λh1=>?_) (λh1=>?_)
 ·refine Qg (AC Y Y) Y (Qg (AC Y Y) Y (Qg (GV Y Y Y) Y (Qg (Mt Y Y Y) Y (Qm Y (Qm Y (Ap (Aq ?_)))))));exact Az Y Y (by rw[decide_eq_true];omega)
 ·exact absurd (by omega) h1
theorem NB(r c:Nat)(hr:r<=200)(hc:c<=200)(h:Hp):FnT Tryz.prog 129 #[.int .i64 r,.int .i64 c] h [] (λv h' ms'=>h=h'/\Vy v ms' r c (replicate (r*c) 0)):=by have hrc:r*c<=40000:=Nat.mul_le_mul hr hc;have hmi:(r:Int)*c=((r*c:Nat):Int):=(Int.natCast_mul r c).symm;refine Av func129 ntmps129 Y Y (λw0 hw0=>?_);simp only[A3];refine Aw (By [.int .i64 0,.int .i64 0,.slice none 0 0] Y D5 Y Y (λg4=>Ap (Ac (Aw (Qm Y (Qm Y (Qx (AR Y call191 Y (EX (VL r c hr hc h) _)) Y (Qm Y (Ap (AV Y (Aj (Ab (Aw (Qm Y (Qm Y (Qm Y (Qm Y (Qx (oM Y) Y (UP Yd (by omega) (0:Int) (n:=r*c) Y Lp Cy Y Y Y (by omega) (by omega) (by omega) (by omega) Y Y Y (λg15 ev m hev hO=>?_))))))))))))))))))));subst hev;refine Qx (Bm Aax [.int .i64 0,.int .i64 0,.slice none 0 0] [(0,_),(1,_),(2,_)] [_,_,_] Y D5 Y Y Qt Y) Y ?_;refine Sa 1 [_,_,_] D5 Y (by simp[Value.oneCell']) ?_;refine Ap (Aq ?_);exact BB (vs:=[_,_,_]) 1 Y Y Of Y D5 Y Y (⟨Y,_,m,Y,Y,hO⟩)
def SE(f:Nat->Nat->Int)(k t a b:Nat):Int:=if a<k\/(a=k/\b<t) then f a b else 0
theorem Vi(f:Nat->Nat->Int)(k t:Nat){r c:Nat}:DS r c (Ka (SE f k t) k t (f k t))=DS r c (SE f k (t+1)):=by
 refine Cj λa _ b _=>?_;unfold Ka SE;by_cases h:a=k/\b=t
 ·obtain⟨rfl,rfl⟩:=h;rw[if_pos ⟨rfl,rfl⟩,if_pos (by omega)]
 ·rw[if_neg h];by_cases h2:a<k\/(a=k/\b<t)
  ·rw[if_pos h2,if_pos (by omega)]
  ·rw[if_neg h2,if_neg (by omega)]
theorem YG(f:Nat->Nat->Int)(k:Nat){r c:Nat}:DS r c (SE f k c)=DS r c (SE f (k+1) 0):=by
 refine Cj λa _ b hb=>?_;unfold SE;by_cases h2:a<k\/(a=k/\b<c)
 ·rw[if_pos h2,if_pos (by omega)]
 ·rw[if_neg h2,if_neg (by omega)]
theorem Z8(r c:Nat)(hr0:0<r)(hr:r<=200)(hc:c<=200)(f:Nat->Nat->Int)(hb:∀i,i<r->∀j,j<c->-256<f i j/\f i j<256)(Rs:List Value)(lR:Rs.length=r)(v:Value)(h:Hp)(hv:RdL cU 1 h [] v Rs)(hRs:∀i,i<r->RdL cI 1 h [] (Rs.getD i undef) (GS c (f i))) :
  FnT Tryz.prog 131 #[v] h [] (λw h' ms'=>h.le h'/\Vy w ms' r c (DS r c f)):=by
 have hrc:r*c<=40000:=Nat.mul_le_mul hr hc;have ov:=hv.rd.one;have rv:Rd h [] v 1 r (Rs.flatMap cU):=by have:=hv.rd;rwa [lR]at this
 refine Av func131 ntmps131 Y Y (λw0 hw0=>?_);simp only[A3];refine Aw (By [.int .i64 0,.int .i64 0,.slice none 0 0] Y D5 Y Y (λg2=>BN (Qm Y (Ap (Ac (Aw (Qm Y (Qx (As rv.any Y Cu Y) Y (Qm Y (Ap (Ah ?_)))))))))));refine AD (λq sl h' ms'=>∃(i:Nat),r-i=q/\sl=[(0,v),(2,.pointer (some ⟨g2,0,none⟩)),(3,.int .i64 ((if i=0 then 0 else c:Nat):Int)),(11,v),(12,.int .i64 (r:Int)),(13,.int .i64 i)]/\h=h'/\ms'=[Bw g2 106 [.int .i64 0,.int .i64 0,.slice none 0 0]]/\i<=r) (r-0) _ ⟨0,Y,Y,Y,Y,by omega⟩ Qs ?_;rintro q sl h' ms' ⟨i,rfl,rfl,rfl,rfl,hi⟩;refine Aw (Qm Y (Ap (Ac ?_)));refine Ax Y (λhlt=>?_) (λhlt=>?_)
 ·have hir:i<r:=by omega
  have hiR:i<Rs.length:=by omega
  obtain⟨ri,hri⟩:∃ri,Rs.getD i undef=ri:=⟨_,Y⟩
  have hRi:=hRs i hir;rw[hri]at hRi;have cR:∀ms,Cell h ms ((AJ v).add (i*1)) ri:=λms=>(hv.any (ms:=ms)).cell0 hiR (by rw[<-hri];simp[List.getD,hiR,cU]);have rri:Rd h [] ri 1 c ((GS c (f i)).flatMap cI):=by have:=hRi.rd;rwa [CK]at this
  have ori:=rri.one;refine Aj (Ab (Ac (Ah (Aw (Qx (BH (i) rv.any Y Cu Cw Y Y) Y (Ql Y A0 (cR _) (Qm Y (GH (Qm Y (Qm Y (Qx (As rri.any Y A0 Y) Y (Qx (GV Y Y Y) Y (Qm Y (An (Ak (Ab (Ad (Qx (oA Y) Y (Qm Y (An ?_))))))))))))))))))))
  have hmx:max ((if i=0 then 0 else c:Nat):Int) (c:Int)=((if i+1=0 then 0 else c:Nat):Int):=by rw[if_neg (show ¬i+1=0 by omega)];split<;>omega
  rw[hmx];exact Am (r-(i+1)) _ (by omega) ⟨i+1,Y,Y,Y,Y,by omega⟩ Qs
 ·have hir:i=r:=by omega
  subst hir;rw[if_neg (by omega)];refine Ay (Aa (Aa (Ag (Ab (Aw (Qm Y (Qx (As rv.any Y Cu Y) Y (Qm Y (Qc call129 Y (NB i c hr hc h) (λz h2 ms2 l2 hF=>?_))))))))));obtain⟨rfl,ev,m,rfl,rfl,hO⟩:=hF;have oe:=hO.o1;have re:Rd h [m] ev 2 (i*c) ((replicate (i*c) (0:Int)).flatMap Ps):=by have:=(hO.rd (h:=h) (ms:=[m]) Mh).rd;rwa [length_replicate]at this
  refine By [.int .i64 0,.int .i64 0,.slice none 0 0] Y D5 Y Y (λg6=>?_);refine Sa 0 [_,_,_] D5 Y (by simp[ov,oe]) ?_;refine Ap (AB λh3 l3 hS6=>?_);have e6:∀ms,Cell h3 ms ((⟨g6,0,none⟩:Addr).add 2) ev:=λms=>(hS6 2 _ Y).any;have gS6:∀ms,Seg h3 ms (⟨g6,0,none⟩:Addr) [.int .i64 i,.int .i64 c,ev]:=λms=>hS6.any;refine Ac (Aw (Qf J0 Y (Ql Y Lp (e6 _) (Qx (D7 re Y Lp Y) Y (Qm Y (Ap ?_))))));refine Ax Y (λhz=>?_) (λhz=>?_)
  ·have hz':i*c=0:=by omega
   have hL:replicate (i*c) (0:Int)=DS i c f:=by have h1:=DR i c f;rw[hz']at h1;rw[hz',List.length_eq_zero_iff.1 h1];rfl
   rw[hL]at hO;refine Aw (Qx (oG Y Of D5 (gS6 _)) Y ?_);refine Sa 1 [_,_,_] D5 Y (by simp[ov,oe]) ?_;refine Ap (Aq (Ae ?_));exact BB (vs:=[_,_,_]) 1 Y Y Of Y D5 Y Y (⟨l3,ev,m,Y,Y,hO⟩)
  ·refine Aj (Ab ?_);have rv3:=rv.le l3;refine Ac (Aw (Qm Y (Qx (As rv3.any Y Cu Y) Y (Qm Y (Ap (Ah ?_))))))
   refine AD (λq sl h' ms'=>∃(k:Nat) (mo:Hp),i-k=q/\sl=[(0,v),(2,.pointer (some ⟨g2,0,none⟩)),(3,.int .i64 c),(6,.pointer (some ⟨g6,0,none⟩)),(31,v),(32,.int .i64 i),(33,.int .i64 k)]/\h3.le h'/\ms'=[mo,Bw g2 106 [.int .i64 0,.int .i64 0,.slice none 0 0]]/\k<=i/\OwnL Ps 2 172 mo ev (DS i c (SE f k 0))) (i-0) _ ⟨0,_,Y,Y,B8,Y,by omega,by
    have:DS i c (SE f 0 0)=replicate (i*c) 0:=by rw[YE];refine Cj λa _ b _=>?_;unfold SE;rw[if_neg (by omega)]
    rw[this];exact hO⟩ Qs ?_
   rintro q sl h' ms' ⟨k,mo,rfl,rfl,lh,rfl,hk,hO⟩;have rv4:=rv3.le lh;refine Aw (Qm Y (Ap (Ac ?_)));refine Ax Y (λhlt=>?_) (λhlt=>?_)
   ·have hki:k<i:=by omega
    have hkR:k<Rs.length:=by omega
    obtain⟨rk,hrk⟩:∃rk,Rs.getD k undef=rk:=⟨_,Y⟩
    have hRk:=hRs k hki;rw[hrk]at hRk;have hRk4:=hRk.up (AI l3 lh);have cR:∀ms,Cell h' ms ((AJ v).add (k*1)) rk:=λms=>((hv.any (ms:=ms)).cell0 hkR (by rw[<-hrk];simp[List.getD,hkR,cU])).le (AI l3 lh);have rrk:Rd h' [] rk 1 c ((GS c (f k)).flatMap cI):=by have:=hRk4.rd;rwa [CK]at this
    have ork:=rrk.one;refine Aj (Ab (Ac (Ah (Aw (Qm Y (Qx (BH (k) rv4.any Y Cu Cw Y Y) Y (Ql Y A0 (cR _) (Qm Y (Qm Y (BN (Qm Y (Qx (As rrk.any Y A0 Y) Y (Qm Y (Ap (Ah ?_)))))))))))))));refine AD (λq sl hh ms'=>∃(t:Nat) (mo:Hp),c-t=q/\sl=[(0,v),(2,.pointer (some ⟨g2,0,none⟩)),(3,.int .i64 c),(6,.pointer (some ⟨g6,0,none⟩)),(31,v),(32,.int .i64 i),(33,.int .i64 k),(7,.int .i64 k),(38,rk),(39,.int .i64 c),(40,.int .i64 t)]/\h'.le hh/\ms'=[mo,Bw g2 106 [.int .i64 0,.int .i64 0,.slice none 0 0]]/\t<=c/\OwnL Ps 2 172 mo ev (DS i c (SE f k t))) (c-0) _ ⟨0,mo,Y,Y,B8,Y,by omega,hO⟩ Qs ?_;rintro q sl hh ms' ⟨t,mo,rfl,rfl,lhh,rfl,ht,hO⟩;have lhh':=AI lh lhh;refine Aw (Qm Y (Ap (Ac ?_)));refine Ax Y (λhlt2=>?_) (λhlt2=>?_)
    ·have htc:t<c:=by omega
     have htv:t<(GS c (f k)).length:=by rw[CK];exact htc
     have cX:∀ms,Cell hh ms ((AJ rk).add (t*1)) (.int .i64 (f k t)):=λms=>((hRk4.any (ms:=ms)).cell0 htv (by simp[GS,cI])).le lhh;have e6:∀ms,Cell hh ms ((⟨g6,0,none⟩:Addr).add 2) ev:=λms=>(e6 ms).le lhh';have hix:k*c+t<i*c:=RM hki htc;have hcast:(k:Int)*c=((k*c:Nat):Int):=(Int.natCast_mul k c).symm;have reo:Rd hh [mo] ev 2 (i*c) ((DS i c (SE f k t)).flatMap Ps):=by have:=(hO.rd (h:=hh) (ms:=[mo]) Mh).rd;rwa [DR]at this
     refine Aj (Ab (Ac (Ah (Aw (Qm Y (Qx (AM (t) (rrk.le lhh).any Y A0 Ba Y Y (by omega) (by omega)) Y (Ql Y U3 (cX _) (Qm Y (Qm Y (Ap (Bc 9 CZ (by kernel_rfl) Y (Wf J0 Y (Wl Y Lp (e6 _) (Wm Y (Wm Y (AW (oM Y) Y Y (Wm Y (AW (oA Y) Y Y (Wm Y (AW (AR Y call126 Y (UE (f k t) (hb k hki t htc) _ _)) Y Y (A4 (Qx (BL (k*c+t) reo Y Lp Cy Y Y (by omega) (by omega)) Y ?_))))))))))))))))))))));refine Gw 0 (k*c+t) (f k t) hO Y Cy Y Y Y (Xp _) Y (by rw[DR];exact hix) Y Y (λmo' hO'=>?_);rw[QZ _ htc,Vi]at hO';refine An (Ak (Ab (Ad (Qx (oA Y) Y (Qm Y (An ?_))))));exact Am (c-(t+1)) _ (by omega) ⟨t+1,mo',Y,Y,lhh,Y,by omega,hO'⟩ Qs
    ·have htc:t=c:=by omega
     subst htc;rw[YG]at hO;refine Ay (Aa (Aa (Ag (Ak (Ab (Ad (Qx (oA Y) Y (Qm Y (An ?_)))))))));exact Am (i-(k+1)) _ (by omega) ⟨k+1,mo,Y,Y,lhh',Y,by omega,hO⟩ Qs
   ·have hki:k=i:=by omega
    subst hki;have gS6:∀ms,Seg h' ms (⟨g6,0,none⟩:Addr) [.int .i64 k,.int .i64 c,ev]:=λms=>(gS6 ms).le lh;refine Ay (Aa (Aa (Ag (Ab (Aw (Qx (oG Y Of D5 (gS6 _)) Y ?_))))));refine Sa 1 [_,_,_] D5 Y (by simp[ov,oe]) ?_;refine Ap (Aq ?_);have hL:DS k c (SE f k 0)=DS k c f:=Cj λa ha b _=>by unfold SE;rw[if_pos (.inl ha)]
    rw[hL]at hO;exact BB (vs:=[_,_,_]) 1 Y Y Of Y D5 Y Y (⟨AI l3 lh,ev,mo,Y,Y,hO⟩)
theorem G4:∀{U:List Ce},(U.map λa=>a.c.id).Nodup->∀{x:Ce},x∈U->Bj (E4 U) x.c.id=some x
 | [],_,x,hx=>by cases hx
 | a::U,hn,x,hx=>by
  rw[map_cons,List.nodup_cons]at hn;unfold Bj E4;rw[map_cons,List.find?_cons];by_cases h:a.c.id=x.c.id
  ·have:a=x:=by
    rcases List.mem_cons.1 hx with e|e
    ·exact e.symm
    ·exact absurd (List.mem_map.2 ⟨x,e,h.symm⟩) hn.1
   subst this;simp
  ·have hx':x∈U:=by
    rcases List.mem_cons.1 hx with e|e
    ·exact absurd (by rw[e]) h
    ·exact e
   have:=G4 hn.2 hx';unfold Bj E4 at this;simp only[h];simpa using this
theorem QJ(g:Nat)(U:List Ce)(cf:FuncId)(cs:List Value)(pr:Cl->Bool)(h:Hp)(R:RdT h g U)(hnd:(U.map λa=>a.c.id).Nodup)(hid:∀a∈U,BP a.c.id)(hn:U.length<=1000000)
  (hc:∀xs w,(callFunc cf xs).run Tryz.prog w=.ok (.enter cf xs) w)
  (hp:∀a∈U,∀h',h.le h'->∀ms,FnV Tryz.prog cf ([]++[Value.agg (cC a).toArray]++cs).toArray h' ms (.bool (pr a.c))) :
  FnT Tryz.prog 80 #[.pointer (some ⟨g,0,none⟩),.func (.func cf) #[] cs.toArray] h [] (λr h' ms'=>h.le h'/\∃v m,r=.agg #[v]/\ms'=[m]/\OwnL cC 3 52 m v (U.filter λa=>pr a.c)):=by
 obtain⟨gm,mT,bs,vids,hS,hM,lM,hV,hsd⟩:=R;have ovi:=hV.rd.one;have hVl:(U.map λa=>a.c.id).length=U.length:=by rw[length_map]
 have rV:Rd h [] vids 1 U.length ((U.map λa=>a.c.id).flatMap cI):=by have:=hV.rd;rwa [hVl]at this
 have e0:∀ms,Cell h ms ((⟨g,0,none⟩:Addr).add 0) (.map (some gm)):=λms=>(hS 0 _ Y).any;have e1:∀ms,Cell h ms ((⟨g,0,none⟩:Addr).add 1) vids:=λms=>(hS 1 _ Y).any;refine Av func80 ntmps80 Y Y (λw0 hw0=>?_);simp only[A3];refine Aw (By [.slice none 0 0] Y AO Y Y (λg4=>BN (By [.slice none 0 0] Y AO Y Y (λg5=>Ap (Ac (Aw (Qm Y (Qm Y (Qf Ns Y (Ql Y A0 (e1 _) (Qx (As rV.any Y A0 Y) Y (Qm Y (Ap (Ah (BO ?_)))))))))))))))
 refine AD (λq sl h' ms'=>∃(i:Nat) (vo:Value) (mo:Hp),U.length-i=q/\sl=[(0,.pointer (some ⟨g,0,none⟩)),(1,.func (.func cf) #[] cs.toArray),(4,.pointer (some ⟨g4,0,none⟩)),(5,.pointer (some ⟨g5,0,none⟩)),(11,vids),(12,.int .i64 U.length),(13,.int .i64 i)]/\h.le h'/\ms'=[mo,Bw g5 29 [vo],Bw g4 29 [.slice none 0 0]]/\i<=U.length/\OwnL cC 3 52 mo vo ((U.take i).filter λa=>pr a.c))
  (U.length-0) _ ⟨0,_,Hp.emp,rfl,rfl,B8,rfl,by omega,OwnL.nil Cc⟩ Qs ?_
 rintro q sl h' ms' ⟨i,vo,mo,rfl,rfl,lh,rfl,hi,hO⟩;have e0:∀ms,Cell h' ms ((⟨g,0,none⟩:Addr).add 0) (.map (some gm)):=λms=>(e0 ms).le lh;have hV4:=hV.up lh;have rV4:=rV.le lh;have ovo:=hO.o1;refine Aw (Qm Y (Ap (Ac ?_)));refine Ax Y (λhlt=>?_) (λhlt=>?_)
 ·have hiU:i<U.length:=by omega
  obtain⟨x,hx⟩:∃x,U[i]=x:=⟨_,Y⟩
  have hxm:x∈U:=by rw[<-hx];exact getElem_mem hiU
  have hxi:=hid x hxm;have oxv:=(hsd x hxm).rd.one;have cI_:∀ms,Cell h' ms ((AJ vids).add (i*1)) (.int .i64 x.c.id):=λms=>(hV4.any (ms:=ms)).cell0 (j:=i) (by rw[hVl];exact hiU) (by rw[getElem_map,hx];rfl);have hg1:(Bj (E4 U) x.c.id).getD default=x:=by rw[G4 hnd hxm];rfl
  refine Aj (Ab ?_);refine A8 (λsl h'' ms'=>∃(vo':Value) (mo':Hp),sl=[(0,.pointer (some ⟨g,0,none⟩)),(1,.func (.func cf) #[] cs.toArray),(4,.pointer (some ⟨g4,0,none⟩)),(5,.pointer (some ⟨g5,0,none⟩)),(11,vids),(12,.int .i64 U.length),(13,.int .i64 i)]/\h'=h''/\ms'=[mo',Bw g5 29 [vo'],Bw g4 29 [.slice none 0 0]]/\OwnL cC 3 52 mo' vo' ((U.take (i+1)).filter λa=>pr a.c)) ?_ (λs h ms hI=>?_)
  ·have htk:U.take (i+1)=U.take i++[x]:=by rw[<-hx];exact take_succ_eq_append_getElem hiU
   rw[htk,List.filter_append];refine Ah (Aw (Qx (BH (i) rV4.any Y A0 Ba Y Y) Y (Ql Y U3 (cI_ _) (Qm Y (BN (Qm Y (Qm Y (Qm Y (Qf DO Y (Ql Y EY (e0 _) (Qm Y (Qx (B9 (V:=vC) (z:=(default:Ce)) (u:=x) x.c.id hg1 Bh hM (AI lM lh) Y EY HK Y Y hxi) Y (Qx (Ch Y Y hc Y (hp x hxm h' lh _)) Y (Ap ?_))))))))))))));refine Bz Y (λhpx=>?_) (λhpx=>?_)
   ·have hf:[x].filter (λa=>pr a.c)=[x]:=by simp[hpx]
    rw[hf];have hol:((U.take i).filter λa=>pr a.c).length<=1000000:=Nat.le_trans (List.length_filter_le _ _) (by rw[length_take];omega);refine BK (n:=12) (bs:=[true,false,true,true,true,true,true,true,false,false,true,false]) [true,false,true,true,true,true,true,true,false,false,true] CZ (by kernel_rfl) (by kernel_rfl) Y Y (QF B3 Y (Qq Y (Qq Y (QF DO Y (QL Y EY (e0 _) (Qq Y (Qp Y (B9 (V:=vC) (z:=(default:Ce)) (u:=x) x.c.id hg1 Bh hM (AI lM lh) Y EY HK Y Y hxi) (QF B3 Y ?_))))))));unfold FK;simp only[cons_append,nil_append];refine AG [1,8] (by kernel_rfl) Y ?_;refine Ai Y ?_ ?_
    ·refine Ql Y A9 (Cell.blk 1 Y Y) (Qw (Qo 8 Y (Ar [_,_,_] Y A9 AL Y (by rfl) Y Y (by omega) Y Y Y (λg33=>Qw (Qo 9 Y ?_)))));refine A6 1 hO (RdL.one Cc (x:=x) Mh Y) Y A9 AL Y (by omega) Y Y Y (C5 (l:=[x]) (λy hy=>by rw[List.mem_singleton.1 hy];exact hsd x hxm)) (by simp only[length_singleton];omega) (by simp only[length_singleton];omega) rfl rfl rfl (λv6 m6 hO6=>?_);have ov6:=hO6.o1;refine Qw (Qo 11 Y (Af 2 0 Y IK Y Y ov6 Y Y (by simp) rfl rfl (Qw (Qe ?_))));refine Ak (AS ?_);exact Ao _ ⟨v6,m6,Y,Y,Y,hO6⟩ Qs
    refine Ai Y ?_ ?_
    ·refine Ar [_,_,_] Y A9 AL Y (by rfl) Y Y (by omega) Y Y Y (λg33=>Qw (Qo 1 Y (Ql Y A9 (Cell.blk 2 Y Y) (Qw (Qo 9 Y ?_)))));refine A6 1 hO (RdL.one Cc (x:=x) Mh Y) Y A9 AL Y (by omega) Y Y Y (C5 (l:=[x]) (λy hy=>by rw[List.mem_singleton.1 hy];exact hsd x hxm)) (by simp only[length_singleton];omega) (by simp only[length_singleton];omega) rfl rfl rfl (λv6 m6 hO6=>?_);have ov6:=hO6.o1;refine Qw (Qo 11 Y (Af 2 0 Y IK Y Y ov6 Y Y (by simp) rfl rfl (Qw (Qe ?_))));refine Ak (AS ?_);exact Ao _ ⟨v6,m6,Y,Y,Y,hO6⟩ Qs
    exact AH
   ·have hf:[x].filter (λa=>pr a.c)=[]:=by simp[hpx]
    rw[hf,append_nil];refine Aj (Ak ?_);exact Ao _ ⟨vo,mo,Y,Y,Y,hO⟩ Qs
  ·obtain⟨vo',mo',rfl,rfl,rfl,hO'⟩:=hI;refine Ad (Qx (oA Y) Y (Qm Y (An ?_)));exact Am (U.length-(i+1)) _ (by omega) ⟨i+1,vo',mo',Y,Y,lh,Y,by omega,hO'⟩ Qs
 ·have hiU:i=U.length:=by omega
  subst hiU;rw[take_length]at hO;refine Ay (Aa (Aa (Ag (Ab (Aw (Qx (oG Y BJ AO (Seg.blk 1 Y)) Y ?_))))));refine Sa 2 [_] AO Y (by simp[ovi,ovo]) ?_;refine Ap (Aq (CD 1 Y (AS ?_)));exact BB (vs:=[_]) 1 Y Y BJ Y AO Y Y (⟨lh,vo,mo,Y,Y,hO⟩)
theorem UX(g:Nat)(U:List Ce)(cf:FuncId)(cs:List Value)(pr:Cl->Bool)(h:Hp)(R:RdT h g U)(hnd:(U.map λa=>a.c.id).Nodup)(hid:∀a∈U,BP a.c.id)(hn:U.length<=1000000)
  (hc:∀xs w,(callFunc cf xs).run Tryz.prog w=.ok (.enter cf xs) w)
  (hp:∀a∈U,∀h',h.le h'->∀ms,FnV Tryz.prog cf ([]++[Value.agg (cC a).toArray]++cs).toArray h' ms (.bool (pr a.c))) :
  FnT Tryz.prog 132 #[.pointer (some ⟨g,0,none⟩),.func (.func cf) #[] cs.toArray] h [] (λr h' ms'=>h.le h'/\∃m,ms'=[m]/\OwnL cI 1 3 m r ((U.filter λa=>pr a.c).map λa=>a.c.id)):=by
 refine Av func132 ntmps132 Y Y (λw0 hw0=>?_);simp only[A3];refine Aw (Qm Y (BN (Qm Y (Ap (Ac (Aw (Qm Y (Qm Y (Qc call80 Y (QJ g U cf cs pr h R hnd hid hn hc hp) (λr h1 ms1 l1 hF=>?_))))))))));obtain⟨l1',v,m,rfl,rfl,hO⟩:=hF;refine A5 hO λh2 l2 hQ=>?_;obtain⟨W,hW⟩:∃W,(U.filter λa=>pr a.c)=W:=⟨_,Y⟩
 rw[hW]at hQ;have hWl:W.length<=1000000:=by rw[<-hW];exact Nat.le_trans (List.length_filter_le _ _) hn
 have hov:∀x∈W,x.v.oneCell'=true:=λx hx=>by obtain⟨gm,mT,bs,vids,hS,hM,lM,hV,hsd⟩:=R;rw[<-hW]at hx;exact(hsd x (List.mem_filter.1 hx).1).rd.one
 have ov:=hQ.rd.one;refine Qx (Cp Y BJ Y A9 Y Y Y) Y (Qx (As hQ.rd.any Y A9 Y) Y (Qm Y (Ap (Ah (BO ?_)))))
 refine AD (λq sl h' ms'=>∃(i:Nat) (vo:Value) (mo:Hp),W.length-i=q/\sl=[(5,vo),(11,v),(12,.int .i64 W.length),(13,.int .i64 i)]/\h2.le h'/\ms'=[mo]/\i<=W.length/\OwnL cI 1 3 mo vo ((W.take i).map λa=>a.c.id))
  (W.length-0) _ ⟨0,_,Hp.emp,rfl,rfl,B8,rfl,by omega,OwnL.nil Bl⟩ Qs ?_
 rintro q sl h' ms' ⟨i,vo,mo,rfl,rfl,lh,rfl,hi,hO⟩;have hQ4:=hQ.up lh;have ovo:=hO.o1;refine Aw (Qm Y (Ap (Ac ?_)));refine Ax Y (λhlt=>?_) (λhlt=>?_)
 ·have hiW:i<W.length:=by omega
  obtain⟨x,hx⟩:∃x,W[i]=x:=⟨_,Y⟩
  have oxv:=hov x (by rw[<-hx];exact getElem_mem hiW);have gX:∀ms,Seg h' ms ((AJ v).add (i*3)) (cC x):=λms=>by rw[<-hx];exact(hQ4.any (ms:=ms)).seg hiW
  have htk:(W.take (i+1)).map (λa=>a.c.id)=(W.take i).map (λa=>a.c.id)++[x.c.id]:=by rw[take_succ_eq_append_getElem hiW,List.map_append,hx];rfl
  have hol:((W.take i).map λa=>a.c.id).length<=1000000:=by rw[length_map,length_take];omega
  refine Aj (Ab (Ac (Ah (Aw (Qx (BH (i) hQ4.rd.any Y A9 AL Y Y) Y (Qx (oG Y D1 AL (gX _)) Y (By [.int .i64 0,.int .i64 0,.slice none 0 0] Y AL Y Y (λg7=>?_))))))));refine Sa 0 [_,_,_] AL Y (by simp[ov,ovo,oxv]) ?_;refine GH (Qm Y (Qf Bq Y (Ql Y U3 (Cell.blk 0 Y Y) (Ar [_] Y A0 Ba Y (by rfl) Y Y (by omega) Y Y Y (λg20=>AZ 2 hO (RdL.one Bl (x:=x.c.id) Mh Y) Y A0 Ba Y (by omega) Y Y Y Ck (by simp only[length_singleton];omega) (by simp only[length_singleton];omega) rfl rfl rfl (λv6 m6 hO6=>?_))))));rw[<-htk]at hO6;have ov6:=hO6.o1;refine Qm Y (An (Ak (Ab (Ad (Qx (oA Y) Y (Qm Y (An ?_)))))));refine AS (AS ?_);exact Am (W.length-(i+1)) _ (by omega) ⟨i+1,v6,m6,Y,Y,lh,Y,by omega,hO6⟩ Qs
 ·have hiW:i=W.length:=by omega
  subst hiW;rw[take_length]at hO;refine Ay (Aa (Aa (Ag (Ab (Aw (Qm Y (Qm Y (Ap (Aq ?_)))))))));exact Az Y Y (⟨AI l1' (AI l2 lh),mo,Y,by rw[hW];exact hO⟩)
theorem X9(x:Ce)(gd:Nat)(d:Int)(h:Hp)(hD:∀ms,Cell h ms (⟨gd,0,none⟩:Addr) (.int .i64 d))(ox:x.v.oneCell'=true) :
  FnT Tryz.prog 133 #[.agg (cC x).toArray,.pointer (some ⟨gd,0,none⟩)] h [] (λr _ _=>r=.bool (decide (x.c.dim=d))):=by
 refine Av func133 ntmps133 Y Y (λw0 hw0=>?_);simp only[A3];refine Aw (AY [_,_,_] Y Y (by rfl) Y Y Y (λg2=>Qm Y (Ap (AB λh1 l1 hS=>?_))));have e1:∀ms,Cell h1 ms ((⟨g2,0,none⟩:Addr).add 1) (.int .i64 x.c.dim):=λms=>(hS 1 _ Y).any;have e2:∀ms,Cell h1 ms (⟨gd,0,none⟩:Addr) (.int .i64 d):=λms=>(hD ms).le l1;refine Aw (Qf BV Y (Ql Y U3 (e1 _) (Ql Y U3 (e2 _) (Qm Y (Qm Y (Ap (Aq ?_)))))));exact Az Y Y (Y)
theorem Nj(l:List Ce)(v:Value)(d:Int)(hp:Hp)(hK:RgC l)(hR:RdC hp v l) :
  FnT Tryz.prog 63 #[.agg #[v],.int .i64 d] hp [] (λr h' ms'=>hp.le h'/\∃m,ms'=[m]/\OwnL cI 1 3 m r (((cn l).filter λc=>decide (c.dim=d)).map Cl.id)):=by
 have ov:=hR.q.rd.one;refine Av func63 ntmps63 Y Y (λw0 hw0=>?_);simp only[A3];refine Aw (AY [_] Y Y (by rfl) Y Y Y (λg2=>AY [_] Y Y (by rfl) Y Y Y (λg3=>Qm Y (Ap (Bk 1 Y λh1 l1 hS2=>(AB λh2 l2 hS3=>?_))))));have hR2:=(hR.up l1).up l2;have gS2:∀ms,Seg h2 ms (⟨g2,0,none⟩:Addr) [v]:=λms=>(hS2.le l2).any;refine Aw (Qx (oG Y BJ AO (gS2 _)) Y (Qc call64 Y (AK l v h2 hK hR2) (λr h3 ms3 l3 hF=>?_)));obtain⟨l3',rfl,g,A,rfl,hA,hT⟩:=hF;have hO:=hK.pc.toOfOk;have hAl:A.length=l.length:=by have:=congrArg List.length hA;rwa [length_map,C6]at this
 have hAid:(A.map λa=>a.c.id)=(cn l).map Cl.id:=by rw[<-hA,map_map];rfl
 have hnd:(A.map λa=>a.c.id).Nodup:=by rw[hAid];exact hK.F.rgt.nd
 have hid:∀a∈A,BP a.c.id:=λa ha=>by
  have h1:a.c∈cn l:=by rw[<-hA];exact List.mem_map.2 ⟨a,ha,Y⟩
  exact hK.cI h1
 have hov:∀a∈A,a.v.oneCell'=true:=λa ha=>by obtain⟨gm,mT,bs,vids,hS,hM,lM,hV,hsd⟩:=hT;exact(hsd a ha).rd.one
 have eD:∀h',h3.le h'->∀ms,Cell h' ms (⟨g3,0,none⟩:Addr) (.int .i64 d):=λh' lh ms=>((hS3 0 _ Y).any.le l3').le lh;refine Qx (BM Y Y Y) Y ?_;refine Qc call132 Y (UX g A 133 [.pointer (some ⟨g3,0,none⟩)] (λc=>decide (c.dim=d)) h3 hT hnd hid (by rw[hAl];exact hO.n) call133 (λa ha h' lh ms=>EX (X9 a g3 d h' (eD h' lh) (hov a ha)) ms)) (λr h4 ms4 l4 hF=>?_);obtain⟨l4',m,rfl,hOm⟩:=hF
 have e:(A.filter λa=>decide (a.c.dim=d)).map (λa=>a.c.id)=((cn l).filter λc=>decide (c.dim=d)).map Cl.id:=by rw[<-hA,List.filter_map,map_map];rfl
 rw[e]at hOm;refine Qm Y (Ap (Aq ?_));exact Az Y Y (⟨AI l1 (AI l2 (AI l3' l4')),m,Y,hOm⟩)
theorem Zl(A:List Ce)(j:Nat)(hj:j<(E4 A).length):(E4 A)[j].2=A[j]'(by unfold E4 at hj;rwa [length_map]at hj):=by simp only[E4,getElem_map]
def J8(o:List Cl)(D:Int):Prop:=-1<=D/\(∀c∈o,c.dim<=D)/\(D=-1\/∃c∈o,c.dim=D)
theorem Uw(l:List Ce)(v:Value)(hp:Hp)(hK:RgC l)(hR:RdC hp v l) :
  FnT Tryz.prog 61 #[.agg #[v]] hp [] (λr h' ms'=>hp.le h'/\ms'=[]/\∃D,r=.int .i64 D/\J8 (cn l) D):=by
 have ov:=hR.q.rd.one;refine Av func61 ntmps61 Y Y (λw0 hw0=>?_);simp only[A3];refine Aw (AY [_] Y Y (by rfl) Y Y Y (λg1=>Qm Y (Ap (AB λh1 l1 hS1=>?_))));have hR1:=hR.up l1;have gS1:∀ms,Seg h1 ms (⟨g1,0,none⟩:Addr) [v]:=λms=>hS1.any;refine Aw (Qm Y (Ap (Ac (Aw (Qx (oG Y BJ AO (gS1 _)) Y (Qc call64 Y (AK l v h1 hK hR1) (λr h3 ms3 l3 hF=>?_)))))));obtain⟨l3',rfl,g,A,rfl,hA,gm,mT,bs,vids,hS,hM,lM,hV,hsd⟩:=hF;have e0:∀ms,Cell h3 ms ((⟨g,0,none⟩:Addr).add 0) (.map (some gm)):=λms=>(hS 0 _ Y).any;have hTl:(E4 A).length=A.length:=by unfold E4;rw[length_map]
 refine Qm Y (Qf DO Y (Ql Y EY (e0 _) (Hv hM lM Y EY Y Y Y Y (λgi mi0 I0=>Ap (Ah ?_)))))
 refine AD (λq sl h' ms'=>∃(vis:List Nat) (mi:Hp) (D:Int),A.length-vis.length=q/\sl=[(3,.int .i64 D),(11,.pointer (some ⟨gi,0,none⟩))]/\h3=h'/\ms'=[mi]/\He gi gm mT mi bs vis/\-1<=D/\(∀j (hj:j<A.length),j∈vis->A[j].c.dim<=D)/\(D=-1\/∃a∈A,a.c.dim=D))
  (A.length-0) _ ⟨[],mi0,-1,rfl,rfl,rfl,rfl,I0,by omega,λj hj h=>(nomatch h),.inl rfl⟩ Qs ?_
 rintro q sl h' ms' ⟨vis,mi,D,rfl,rfl,rfl,rfl,I,hD1,hDv,hDe⟩;refine Aw ?_;refine IM 0 hM I lM Y Y Y Y Y Y (λhall=>?_) (λj hj mi' hjv I'=>?_)
 ·refine Qm Y (Ap (Ac (AV Y (Ay (Aa (Aa (Ag (Ab (Aw (Qm Y (Qm Y (Ap (Aq (AS ?_))))))))))))));exact Az Y Y (⟨AI l1 l3',Y,D,Y,hD1,λc hc=>by rw[<-hA]at hc;obtain⟨a,ha,rfl⟩:=List.mem_map.1 hc;obtain⟨j,hj,rfl⟩:=List.mem_iff_getElem.1 ha;exact hDv j hj (hall j (by rw[hTl];exact hj)),by rcases hDe with h|⟨a,ha,h⟩;exact .inl h;exact .inr ⟨a.c,by rw[<-hA];exact List.mem_map.2 ⟨a,ha,Y⟩,h⟩⟩)
 ·have hjA:j<A.length:=by omega
  have hTj:(E4 A)[j].2=A[j]:=Zl A j hj;obtain⟨x,hx⟩:∃x,A[j]=x:=⟨_,Y⟩
  have hxm:x∈A:=by rw[<-hx];exact getElem_mem hjA
  have oxv:=(hsd x hxm).rd.one;refine Qm Y (Ap (Ac (BD Y (Aj (Ab (Ah (Aw (Qx (Hu hM I' lM (by simp) hj rfl rfl) rfl ?_))))))));rw[hTj,hx];refine Qm Y (By [.int .i64 0,.int .i64 0,.slice none 0 0] Y AL Y Y (λg5=>?_));refine Sa 0 [_,_,_] AL Y (by simp[ov,oxv]) ?_;refine GH (Qm Y (Qf BV Y (Ql Y U3 (Cell.blk 0 Y Y) (Qx (GV Y Y Y) Y (Qm Y (An (Ak (AS ?_))))))));refine Am (A.length-(vis.length+1)) _ ?_ ⟨vis++[j],mi',max D x.c.dim,by simp,rfl,rfl,rfl,I',by omega,λi hi' hv=>?_,?_⟩ Qs
  ·have hlt:vis.length<(E4 A).length:=by
    have h1:=Go.Kuhn.nodup_le (vis++[j]) (range (E4 A).length) I'.nodup λx hx=>by rw[List.mem_range,<-hM.len];exact I'.lt x hx
    simp at h1;omega
   omega
  ·rcases List.mem_append.1 hv with hv|hv
   ·have:=hDv i hi' hv;omega
   ·simp at hv;subst hv;rw[hx];omega
  ·rcases (by omega:max D x.c.dim=D\/max D x.c.dim=x.c.dim) with e|e
   ·rw[e];exact hDe
   ·rw[e];exact .inr ⟨x,hxm,Y⟩
end Go.Proofs.Q

namespace Go.Proofs.Q
open Go.Eng Go.RowKit Go.Lin Go.Sort Go.Srt
def Z9(ids:List Int)(T:List (Int×Bool)):Nat:=(ids.filter λc=>decide (c ∉ DH T)).length
theorem Md:∀(l l':List Int),l.Nodup->(∀x∈l,x∈l')->l.length<=l'.length:=λl l' h hs=>h.length_le_of_subset hs
theorem Wn{ids:List Int}(hn:ids.Nodup){T T':List (Int×Bool)}(h:∀x∈DH T,x∈DH T'):Z9 ids T'<=Z9 ids T:=by refine Md _ _ (List.Pairwise.filter _ hn) λx hx=>?_;obtain⟨h1,h2⟩:=List.mem_filter.1 hx;exact List.mem_filter.2 ⟨h1,decide_eq_true λq=>of_decide_eq_true h2 (h _ q)⟩
theorem Aae{ids:List Int}(hnd:ids.Nodup){T:List (Int×Bool)}{i:Int}(hi:i∈ids)(hn:i ∉ DH T)(b:Bool):Z9 ids (C0 T i b)+1<=Z9 ids T:=by
 have h1:(i::ids.filter λc=>decide (c ∉ DH (C0 T i b))).Nodup:=by refine List.nodup_cons.2 ⟨λq=>?_,List.Pairwise.filter _ hnd⟩;have:=of_decide_eq_true (List.mem_filter.1 q).2;exact this ((DJ T _ _ _).2 (.inl Y))
 have h2:=Md _ (ids.filter λc=>decide (c ∉ DH T)) h1 λx hx=>by
  rcases List.mem_cons.1 hx with rfl|hx
  ·exact List.mem_filter.2 ⟨hi,decide_eq_true hn⟩
  ·obtain⟨h3,h4⟩:=List.mem_filter.1 hx;exact List.mem_filter.2 ⟨h3,decide_eq_true λq=>of_decide_eq_true h4 ((DJ T _ _ _).2 (.inr q))⟩
 unfold Z9;rw[length_cons]at h2;exact h2
def LX(o:List Cl)(c:Int):List Int:=(FZ o c).sd.map Prod.fst
structure ZE(o:List Cl)(T T':List (Int×Bool))(i:Int):Prop where
 sub:∀x∈DH T,x∈DH T'
 me:(H7 o i).isSome=true->i∈DH T'
 new:∀x∈DH T',x ∉ DH T->Rch (LX o) i x/\(∀k∈LX o x,(H7 o k).isSome=true->k∈DH T')/\x∈o.map Cl.id
structure CloE(h:Hp)(gS g2 g5 g6 gt:Nat)(U:List Ce):Prop where
 t:∀ms,Cell h ms (⟨g2,0,none⟩:Addr) (.pointer (some ⟨gt,0,none⟩))
 s:∀ms,Cell h ms (⟨g5,0,none⟩:Addr) (.map (some gS))
 f:∀ms,Cell h ms (⟨g6,0,none⟩:Addr) (.func (.func 144) #[] #[.pointer (some ⟨g2,0,none⟩),.pointer (some ⟨g5,0,none⟩),.pointer (some ⟨g6,0,none⟩)])
 m:RdT h gt U
 n:∀y∈U,y.c.sd.length<=1000000
 i:∀y∈U,∀s∈y.c.sd,BP s.1
theorem CloE.up{h h':Hp}{gS g2 g5 g6 gt:Nat}{U:List Ce}(E:CloE h gS g2 g5 g6 gt U)(l:h.le h'):CloE h' gS g2 g5 g6 gt U:=
 ⟨λms=>(E.t ms).le l,λms=>(E.s ms).le l,λms=>(E.f ms).le l,E.m.up l,E.n,E.i⟩
theorem Ut{U:List Ce}{c:Int}{P:List (Int×Int)->Prop}(h0:P [])(h:∀y∈U,P y.c.sd):P (FZ (U.map Ce.c) c).sd:=by
 unfold FZ H7;cases hc:(U.map Ce.c).find? λy=>decide (y.id=c) with
 | none=>exact h0
 | some y=>
  obtain⟨a,ha,rfl⟩:=List.mem_map.1 (List.mem_of_find?_eq_some hc);exact h a ha
theorem V8{o:List Cl}{c:Int}(h:(H7 o c).isSome=true):c∈o.map Cl.id:=by obtain⟨y,hy⟩:=Option.isSome_iff_exists.1 h;unfold H7 at hy;have h1:=List.mem_of_find?_eq_some hy;have h2:=List.find?_some hy;exact List.mem_map.2 ⟨y,h1,of_decide_eq_true h2⟩
open Go.Proofs.Tryz
theorem R4(U:List Ce)(gS ga gb gc gt:Nat)(hnd:((U.map Ce.c).map Cl.id).Nodup):∀(fu:Nat) (c:Int) (T:List (Int×Bool)) (bs:List Nat) (mS h:Hp),CloE h gS ga gb gc gt U->BP c->CC kN vB gS BP mS T bs->JH T->Z9 ((U.map Ce.c).map Cl.id) T<fu->FnT Tryz.prog 144 #[.int .i64 c,.pointer (some ⟨ga,0,none⟩),.pointer (some ⟨gb,0,none⟩),.pointer (some ⟨gc,0,none⟩)] h [mS] (λ_ h' ms'=>h.le h'/\∃mS' T' bs',ms'=[mS']/\CC kN vB gS BP mS' T' bs'/\JH T'/\ZE (U.map Ce.c) T T' c):=by
 intro fu
 induction fu with
 | zero=>
  intro c T bs mS h E hc hO hA hF;omega
 | succ fu ih=>
  intro c T bs mS h E hc hO hA hF;obtain⟨gm,mMt,bst,vids,hSg,hMt,lmt,hVt,hsU⟩:=E.m;have eT:∀ms,Cell h ms (⟨gt,0,none⟩:Addr) (.map (some gm)):=λms=>Seg.all hSg 0 _ Y ms;have e2:=E.t;have e5:=E.s;obtain⟨y,hy⟩:∃y,(Bj (E4 U) c).getD default=y:=⟨_,Y⟩
  obtain⟨bb,hbb⟩:∃bb,(Bj (E4 U) c).isSome=bb:=⟨_,Y⟩
  have hyR:=Mr hsU c;rw[hy]at hyR;have hbb':(H7 (U.map Ce.c) c).isSome=bb:=by rw[<-KH];exact hbb
  have hyc:y.c=FZ (U.map Ce.c) c:=by rw[<-Hm,hy]
  have oy:=hyR.rd.one;have hyn:y.c.sd.length<=1000000:=by rw[hyc];exact Ut (P:=λl=>l.length<=1000000) (by simp) E.n
  have hyi:∀s∈y.c.sd,BP s.1:=by rw[hyc];exact Ut (P:=λl=>∀s∈l,BP s.1) (λs hs=>nomatch hs) E.i
  have hJ:LX (U.map Ce.c) c=y.c.sd.map Prod.fst:=by unfold LX;rw[hyc]
  refine Av func144 ntmps144 Y Y (λw0 hw0=>?_);simp only[A3];refine Aw (Ql Y UN (e2 _) (Qm Y (Qf DO Y (Ql Y EY (eT _) (Qm Y (Qx (DD (V:=vC) (z:=(default:Ce)) c hy hbb Bh hMt lmt Y EY HK Y Y hc) Y (Qm Y (Qm Y (Qm Y (By [.int .i64 0,.int .i64 0,.slice none 0 0] Y AL Y Y (λg5=>?_)))))))))));refine Sa 0 [_,_,_] AL Y (by simp[oy]) ?_;refine Qm Y (Ap ?_);rcases Bool.eq_false_or_eq_true bb with rfl|rfl
  ·refine AB λh1 l1 hS5=>?_;have E:=E.up l1;have e5:=E.s;have e6:=E.f;have e52:∀ms,Cell h1 ms (⟨g5,2,none⟩:Addr) y.v:=λms=>Seg.all hS5 2 _ Y ms;refine Ac (Aw (Qm Y (Qm Y (Qm Y (Qg (oL Y PL (e5 _)) Y (Qg (AC Y Y) Y (Qg (F5 (V:=vB) (z:=false) c Bh hO (by simp) rfl PL Rp rfl rfl hc) rfl ?_)))))));rw[Ij hA];refine Qm Y (Ap ?_);refine Bz Y (λhin=>?_) (λhin=>?_)
   ·have him:c∈DH T:=of_decide_eq_true hin;refine Aq (Ae ?_);exact EE Y (⟨l1,mS,T,bs,Y,hO,hA,λx hx=>hx,λ_=>him,λx h1 h2=>absurd h1 h2⟩)
   ·have hni:c ∉ DH T:=λq=>by rw[decide_eq_true q]at hin;cases hin
    have hyR:=hyR.up l1;have hcm:=V8 hbb';refine Aj (Ab (Aw (Ql Y PL (e5 _) (Qm Y (BS (V:=vB) (z:=undef) 0 c true Bh hO Y Y PL Y Y Y hc Y Y (λmS1 Fw hO1=>?_))))));have hA1:=Kf hA c;have hU1:=Aae hnd hcm hni true;obtain⟨T1,hT1⟩:∃T1,C0 T c true=T1:=⟨_,Y⟩
    have hk1:∀x,x∈DH T1<->x=c\/x∈DH T:=λx=>by rw[<-hT1];exact DJ T _ _ x
    rw[hT1]at hO1 hA1 hU1;refine BN (Qf Bs Y (Ql Y BQ (e52 _) (Qx (As hyR.rd.any Y BQ Y) Y (Qm Y (Ap (Ah ?_))))))
    refine AD (λq s h' ms'=>∃(t:Nat) (Tt:List (Int×Bool)) (bt:List Nat) (mt:Hp),q=y.c.sd.length-t/\s=[(3,.pointer (some ⟨gc,0,none⟩)),(28,y.v),(29,.int .i64 y.c.sd.length),(30,.int .i64 t)]/\h1.le h'/\ms'=[mt]/\t<=y.c.sd.length/\CC kN vB gS BP mt Tt bt/\JH Tt/\(∀x∈DH T1,x∈DH Tt)/\(∀x∈DH Tt,x ∉ DH T1->Rch (LX (U.map Ce.c)) c x/\(∀k∈LX (U.map Ce.c) x,(H7 (U.map Ce.c) k).isSome=true->k∈DH Tt)/\x∈(U.map Ce.c).map Cl.id)/\∀j (hj:j<y.c.sd.length),j<t->(H7 (U.map Ce.c) y.c.sd[j].1).isSome=true->y.c.sd[j].1∈DH Tt)
     (y.c.sd.length-0) _ ⟨0,T1,Fw,mS1,rfl,rfl,B8,rfl,by omega,hO1,hA1,λx hx=>hx,λx h1 h2=>absurd h1 h2,λj hj h=>by omega⟩ Qs ?_
    rintro q s h2 ms' ⟨t,Tt,bt,mt,rfl,rfl,l2,rfl,htl,hOt,hAt,hsub,hnew,hdone⟩;have hyR:=hyR.up l2;have E:=E.up l2;refine Aw (Qm Y (Ap (Ac ?_)));refine Ax Y (λhlt=>?_) (λhlt=>?_)
    ·have htl:t<y.c.sd.length:=by omega
     obtain⟨s,hs⟩:∃s,y.c.sd[t]=s:=⟨_,Y⟩
     have hsm:s∈y.c.sd:=by rw[<-hs];exact getElem_mem htl
     have hsI:=hyi s hsm;have hss:∀ms,Seg h2 ms ((AJ y.v).add (t*2)) (cD s):=λms=>by rw[<-hs];exact(hyR.any (ms:=ms)).seg htl
     refine Aj (Ab (Ac (Ah (Aw (Qx (BH (t) hyR.rd.any Y BQ AQ Y Y) Y (Qx (oG Y Du AQ (hss _)) Y (By [.int .i64 0,.int .i64 0] Y AQ Y Y (λg8=>?_))))))));refine Sa 0 [_,_] AQ Y (by simp[Value.oneCell']) ?_;refine Ap (AB λh3 l3 hS8=>?_);have e80:∀ms,Cell h3 ms (⟨g8,0,none⟩:Addr) (.int .i64 s.1):=λms=>Seg.all hS8 0 _ Y ms;have E:=E.up l3;have e6:=E.f;refine Ad (Ql Y W9 (e6 _) (Qf B6 Y (Ql Y U3 (e80 _) ?_)));refine E7 (pre:=[mt]) Y Y call144 Y (ih s.1 Tt bt mt h3 E hsI hOt hAt (by have:=Wn hnd hsub;omega)) Y Y Y Y (λv' h4 pre' l4 hF=>?_);obtain⟨l4',m2,T2,b2,rfl,hO2,hA2,R2⟩:=hF;simp only[cons_append,nil_append,append_nil];have hrk:Rch (LX (U.map Ce.c)) c s.1:=.step (.refl _) (by rw[hJ];exact List.mem_map.2 ⟨s,hsm,Y⟩);refine An (Ak (Ab (Ad (Qx (oA Y) Y (Qm Y (An ?_))))))
     exact Am (y.c.sd.length-(t+1)) _ (by omega) ⟨t+1,T2,b2,m2,Y,Y,AI l2 (AI l3 l4),Y,by omega,hO2,hA2,λx hx=>R2.sub x (hsub x hx),λx h1 h2=>by
      by_cases hx:x∈DH Tt
      ·obtain⟨q1,q2,q3⟩:=hnew x hx h2;exact⟨q1,λk hk hf=>R2.sub k (q2 k hk hf),q3⟩
      ·obtain⟨q1,q2,q3⟩:=R2.new x h1 hx;exact⟨hrk.trans q1,q2,q3⟩,λj hj hjt hf=>by
      rcases (by omega:j<t\/j=t) with h1|rfl
      ·exact R2.sub _ (hdone j hj h1 hf)
      ·rw[hs]at hf ⊢;exact R2.me hf⟩ Qs
    ·obtain rfl:t=y.c.sd.length:=by omega
     have hV:ZE (U.map Ce.c) T Tt c:=by
      refine⟨λx hx=>hsub x ((hk1 x).2 (.inr hx)),λ_=>hsub _ ((hk1 _).2 (.inl Y)),λx h1 h2=>?_⟩;by_cases hx:x=c
      ·subst hx;refine⟨.refl _,λk hk hf=>?_,hcm⟩;rw[hJ]at hk;obtain⟨s,hs,rfl⟩:=List.mem_map.1 hk;obtain⟨j,hj,rfl⟩:=List.getElem_of_mem hs;exact hdone j hj hj hf
      ·exact hnew x h1 λq=>by
        rcases (hk1 x).1 q with q|q
        ·exact hx q
        ·exact h2 q
     refine Ay (Aa (Aa (Ag ?_)));exact B7 Y (⟨AI l1 l2,mt,Tt,bt,Y,hOt,hAt,hV⟩)
  ·refine Ac (Aw (Qm Y (Qm Y (Qm Y (Qk Y (Qk Y (Qk Y (Qm Y (Ap (BD Y (Aq (Ae (AS ?_)))))))))))));exact EE Y (⟨B8,mS,T,bs,Y,hO,hA,λx hx=>hx,λq=>(by rw[hbb']at q;cases q),λx h1 h2=>absurd h1 h2⟩)
structure ClosT(o:List Cl)(ids:List Int)(T:List (Int×Bool)):Prop where
 all:∀c∈ids,(H7 o c).isSome=true->c∈DH T
 rch:∀x∈DH T,∃c∈ids,Rch (LX o) c x
 cls:∀x∈DH T,∀k∈LX o x,(H7 o k).isSome=true->k∈DH T
 mem:∀x∈DH T,x∈o.map Cl.id
theorem ClosT.nil(o:List Cl):ClosT o [] []:=⟨λ_ h=>(nomatch h),λ_ h=>(nomatch h),λ_ h=>(nomatch h),λ_ h=>(nomatch h)⟩
theorem ClosT.snoc{o:List Cl}{ids:List Int}{T T':List (Int×Bool)}{c:Int}(C:ClosT o ids T)(V:ZE o T T' c):ClosT o (ids++[c]) T':=by
 refine⟨λx hx hf=>?_,λx hx=>?_,λx hx k hk hf=>?_,λx hx=>?_⟩
 ·rcases List.mem_append.1 hx with h|h
  ·exact V.sub x (C.all x h hf)
  ·rw[List.mem_singleton.1 h]at hf ⊢;exact V.me hf
 ·by_cases h:x∈DH T
  ·obtain⟨d,h1,h2⟩:=C.rch x h;exact⟨d,List.mem_append_left _ h1,h2⟩
  ·exact⟨c,List.mem_append_right _ (List.mem_singleton.2 Y),(V.new x hx h).1⟩
 ·by_cases h:x∈DH T
  ·exact V.sub k (C.cls x h k hk hf)
  ·exact(V.new x hx h).2.1 k hk hf
 ·by_cases h:x∈DH T
  ·exact C.mem x h
  ·exact(V.new x hx h).2.2
theorem N8(U:List Ce)(gt:Nat)(ids:List Int)(vi:Value)(h:Hp)(hnd:((U.map Ce.c).map Cl.id).Nodup)(hT:RdT h gt U)(hn:∀y∈U,y.c.sd.length<=1000000)(hi:∀y∈U,∀s∈y.c.sd,BP s.1)(hR:RdL cI 1 h [] vi ids)(hl:ids.length<=1000000)(hI:∀c∈ids,BP c):FnT Tryz.prog 82 #[.pointer (some ⟨gt,0,none⟩),vi] h [] (λr h' ms'=>h.le h'/\∃gS mS T bs,r=.map (some gS)/\ms'=[mS]/\CC kN vB gS BP mS T bs/\ClosT (U.map Ce.c) ids T):=by
 have o1:=hR.rd.one;refine Av func82 ntmps82 Y Y (λw0 hw0=>?_);simp only[A3];refine Aw (AY [_] Y Y (by rfl) Y Y Y (λg2=>Qm Y (BN (CX (K:=kN) (V:=vB) (Ok:=BP) Y Y Y Y (λgS mS hS0=>By [.map none] Y XS Y Y (λg5=>Af 0 0 Y XS Y Y (by rfl) Y Y (by decide) Y Y (BN (By [.nilFunc] Y Rc Y Y (λg6=>BN (Qx (BM Y Y Y) Y (Af 0 0 Y Rc Y Y (by rfl) Y Y (by decide) Y Y (Ap (AB λh1 l1 hS6=>(AB λh2 l2 hS5=>(DT 1 Y (AB λh3 l3 hS2=>?_))))))))))))))));have hS6:=hS6.le (AI l2 l3);have hS5:=hS5.le l3;have l03:=AI l1 (AI l2 l3);have E:CloE h3 gS g2 g5 g6 gt U:=⟨λms=>Seg.all hS2 0 _ Y ms,λms=>Seg.all hS5 0 _ Y ms,λms=>Seg.all hS6 0 _ Y ms,hT.up l03,hn,hi⟩
 have hR:=hR.up l03;refine Ac (Aw (Qm Y (Qx (As hR.rd.any Y A0 Y) Y (Qm Y (Ap (Ah ?_))))))
 refine AD (λq sl h' ms'=>∃(t:Nat) (T:List (Int×Bool)) (bs:List Nat) (mS:Hp),q=ids.length-t/\sl=[(5,.pointer (some ⟨g5,0,none⟩)),(6,.pointer (some ⟨g6,0,none⟩)),(11,vi),(12,.int .i64 ids.length),(13,.int .i64 t)]/\h3.le h'/\ms'=[mS]/\t<=ids.length/\CC kN vB gS BP mS T bs/\JH T/\ClosT (U.map Ce.c) (ids.take t) T)
  (ids.length-0) _ ⟨0,[],[],mS,rfl,rfl,B8,rfl,by omega,hS0,λp hp=>(nomatch hp),ClosT.nil _⟩ Qs ?_
 rintro q sl h4 ms' ⟨t,T,bs,mS,rfl,rfl,l4,rfl,ht,hO,hA,hC⟩;have hR:=hR.up l4;have E:=E.up l4;have e5:=E.s;have e6:=E.f;refine Aw (Qm Y (Ap (Ac ?_)));refine Ax Y (λhlt=>?_) (λhlt=>?_)
 ·have htl:t<ids.length:=by omega
  have hcI:=hI _ (getElem_mem htl);have cc:∀ms,Cell h4 ms ((AJ vi).add (t*1)) (.int .i64 ids[t]):=λms=>(hR.any (ms:=ms)).cell0 htl Y;refine Aj (Ab (Ac (Ah (Aw (Qx (BH (t) hR.rd.any Y A0 Ba Y Y) Y (Ql Y U3 (cc _) (Qm Y (GH (Ql Y W9 (e6 _) (Qm Y (E7 (pre:=[mS]) Y Y call144 Y (R4 U gS g2 g5 g6 gt hnd (Z9 ((U.map Ce.c).map Cl.id) T+1) ids[t] T bs mS h4 E hcI hO hA (Nat.lt_succ_self _)) Y Y Y Y (λv' h5 pre' l5 hF=>?_))))))))))));obtain⟨l5',m2,T2,b2,rfl,hO2,hA2,V⟩:=hF;simp only[cons_append,nil_append,append_nil];have hC2:=hC.snoc V;rw[<-take_succ_eq_append_getElem htl]at hC2;refine An (Ak (Ab (Ad (Qx (oA Y) Y (Qm Y (An ?_))))));exact Am (ids.length-(t+1)) _ (by omega) ⟨t+1,T2,b2,m2,Y,Y,AI l4 l5,Y,by omega,hO2,hA2,hC2⟩ Qs
 ·obtain rfl:t=ids.length:=by omega
  rw[take_length]at hC;refine Ay (Aa (Aa (Ag (Ab (Aw (Ql Y PL (e5 _) (Qm Y (Ap (Aq ?_)))))))));exact Az Y Y (⟨AI l03 l4,gS,mS,T,bs,Y,Y,hO,hC⟩)
theorem RgC.table{l A:List Ce}(hK:RgC l)(hA:A.map Ce.c=cn l):((A.map Ce.c).map Cl.id).Nodup/\(∀y∈A,y.c.sd.length<=1000000)/\∀y∈A,∀s∈y.c.sd,BP s.1:=by
 have hG:=hK.F.rgt;have hm:∀y∈A,y.c∈cn l:=λy hy=>by rw[<-hA];exact List.mem_map.2 ⟨y,hy,Y⟩
 refine⟨by rw[hA];exact hG.nd,λy hy=>?_,λy hy s hs=>?_⟩
 ·have:=(hK.F.bds (hm y hy)).2.1;omega
 ·obtain⟨z,hz,e,_⟩:=hG.sid _ (hm y hy) s hs;have h2:=hG.pos _ hz;have h3:=hK.ci hz;rw[<-e];unfold BP;omega
end Go.Proofs.Q
namespace Go.Proofs.Q
open Go.Eng Go.RowKit Go.Lin Go.Sort Go.Srt
open Classical in
noncomputable def UA(o:List Cl)(c:Int):List Int:=(o.map Cl.id).filter λx=>decide (Rch (LX o) c x)
theorem cloL_mem{o:List Cl}{c x:Int}:x∈UA o c<->x∈o.map Cl.id/\Rch (LX o) c x:=by
 classical
 unfold UA;rw[List.mem_filter,decide_eq_true_iff]
end Go.Proofs.Q
namespace Go.Proofs.Q
open Go.Eng Go.RowKit Go.Lin
variable {o:List Cl} {j i:Nat}
def sgn(sd:List (Int×Int))(c:Int):Int:=(sd.map λs=>if s.1=c then s.2 else 0).sum
theorem Hh(c:Int):sgn [] c=0:=rfl
theorem H9(s:Int×Int)(sd:List (Int×Int))(c:Int):sgn (s::sd) c=(if s.1=c then s.2 else 0)+sgn sd c:=by unfold sgn;rw[map_cons,sum_cons]
theorem Kq(s:Int×Int)(sd:List (Int×Int))(c:Int):sgn (sd++[s]) c=sgn sd c+if s.1=c then s.2 else 0:=by unfold sgn;simp
theorem Kr{c:Int}:∀{sd:List (Int×Int)},(∀s∈sd,s.1≠c)->sgn sd c=0
 | [],_=>rfl
 | s::sd,h=>by rw[H9,if_neg (h s Mh),Kr λs hs=>h s (List.Mem.tail _ hs)];rfl
theorem MB{c:Int}{sd:List (Int×Int)}(h:sgn sd c≠0):∃s∈sd,s.1=c:=Classical.byContradiction λq=>h (Kr λs hs e=>q ⟨s,hs,e⟩)
def DM(o:List Cl)(i j:Nat):Int:=sgn (o.getD j default).sd (o.getD i default).id
def O5(o:List Cl)(c:Int):Nat:=(o.map Cl.id).idxOf c
theorem Hj{y:Cl}(hy:y∈o)(hn:(o.map Cl.id).Nodup):O5 o y.id<o.length/\o.getD (O5 o y.id) default=y:=by
 have hm:y.id∈o.map Cl.id:=List.mem_map.2 ⟨y,hy,Y⟩;have hlt:=List.idxOf_lt_length_of_mem hm;have h1:O5 o y.id<o.length:=by unfold O5;simpa using hlt
 refine⟨h1,?_⟩;rw[show o.getD (O5 o y.id) default=o[O5 o y.id] by simp[List.getD,h1]]
 have h2:(o[O5 o y.id]).id=y.id:=by have:=List.getElem_idxOf hlt;rw[getElem_map]at this;exact this
 have h3:=CS hn (getElem_mem h1);rw[h2,CS hn hy]at h3;exact h3.symm
theorem Kl(hn:(o.map Cl.id).Nodup)(hi:i<o.length)(hj:j<o.length)(h:(o.getD i default).id=(o.getD j default).id):i=j:=by
 rw[show o.getD i default=o[i] by simp[List.getD,hi],show o.getD j default=o[j] by simp[List.getD,hj]]at h;have hp:=List.pairwise_iff_getElem.1 hn;rcases Nat.lt_trichotomy i j with h1|h1|h1
 ·have:=hp i j (by simpa using hi) (by simpa using hj) h1;simp only[getElem_map]at this;exact absurd h this
 ·exact h1
 ·have:=hp j i (by simpa using hj) (by simpa using hi) h1;simp only[getElem_map]at this;exact absurd h.symm this
theorem VK(hn:(o.map Cl.id).Nodup)(g:Nat->Int):∀sd:List (Int×Int),(∀s∈sd,∃y∈o,y.id=s.1)->sm o.length (λk=>g k*sgn sd (o.getD k default).id)=(sd.map λs=>s.2*g (O5 o s.1)).sum
 | [],_=>by rw[List.map_nil];exact G6 λi _=>by rw[Hh,Int.mul_zero]
 | s::sd,h=>by
  obtain⟨y,hy,e⟩:=h s Mh;obtain⟨h1,h2⟩:=Hj hy hn;rw[e]at h1 h2;rw[map_cons,sum_cons,<-VK hn g sd λs hs=>h s (List.Mem.tail _ hs),Bo (g:=λk=>g k*(if s.1=(o.getD k default).id then s.2 else 0)+g k*sgn sd (o.getD k default).id) λk _=>by rw[H9,Int.mul_add],GQ];congr 1;rw[Gr o.length (O5 o s.1) _ h1 λk hk hne=>?_]
  ·rw[h2,if_pos e.symm,Int.mul_comm]
  ·rw[if_neg,Int.mul_zero];intro e2;refine hne (Kl hn hk h1 ?_);rw[h2,e,e2]
theorem KA(L:Int->List (Int×Int))(c:Int):∀s:List (Int×Int),Eb (Kh L s) c=(s.map λa=>a.2*sgn (L a.1) c).sum
 | []=>rfl
 | a::s=>by
  have ih:=KA L c s;unfold Eb Kh at *;rw[List.flatMap_cons,List.map_append,List.sum_append,ih,map_cons,sum_cons];congr 1
  have:∀l:List (Int×Int),((l.map λr=>(a.1,r.1,a.2*r.2)).map λ(e:Int×Int×Int)=>if e.2.1=c then e.2.2 else 0).sum=a.2*sgn l c:=λl=>by
   induction l with
   | nil=>simp[sgn]
   | cons r l ih=>
    rw[map_cons,map_cons,sum_cons,ih,H9,Int.mul_add];congr 1;show(if r.1=c then a.2*r.2 else 0)=_;split
    ·rfl
    ·rw[Int.mul_zero]
  exact this _
theorem OW{α:Type}{h:α->Int}:∀{l:List α},(∀s∈l,h s=0)->(l.map h).sum=0
 | [],_=>rfl
 | a::l,hl=>by rw[map_cons,sum_cons,hl a Mh,OW λs hs=>hl s (List.Mem.tail _ hs)];rfl
theorem DZ(hj:j<o.length):o.getD j default∈o:=by rw[show o.getD j default=o[j] by simp[List.getD,hj]];exact getElem_mem hj
theorem DM2(R:Rgt o)(hj:j<o.length):Fx o.length (DM o) (λk=>DM o k j) i=0:=by
 obtain⟨x,hx⟩:∃x,o.getD j default=x:=⟨_,Y⟩
 have hxm:x∈o:=by rw[<-hx];exact DZ hj
 obtain⟨c,hc⟩:∃c,(o.getD i default).id=c:=⟨_,Y⟩
 have hs:∀s∈x.sd,∃y∈o,y.id=s.1:=λs hs=>by obtain⟨y,hy,e,_⟩:=R.sid x hxm s hs;exact⟨y,hy,e⟩
 have e1:Fx o.length (DM o) (λk=>DM o k j) i=(x.sd.map λs=>s.2*DM o i (O5 o s.1)).sum:=by rw[<-VK R.nd (λk=>DM o i k) x.sd hs];unfold Fx;exact Bo λk _=>by unfold DM;rw[hx]
 have e2:(x.sd.map λs=>s.2*DM o i (O5 o s.1)).sum=Eb (Fy o x) c:=by unfold Fy;rw[KA];congr 1;refine List.map_congr_left λs hs'=>?_;obtain⟨y,hy,e⟩:=hs s hs';obtain⟨h1,h2⟩:=Hj hy R.nd;unfold DM;rw[hc,<-e,h2,CS R.nd hy]
 rw[e1,e2];have hd:=R.dim x hxm;rcases (by omega:2<=x.dim\/x.dim=1\/x.dim=0) with h|h|h
 ·by_cases he:∃e∈Fy o x,e.2.1=c
  ·obtain⟨e,he,rfl⟩:=he;exact(R.tab x hxm h).sum e he
  ·exact(Ly λe he' q=>he ⟨e,he',q⟩).1
 ·unfold Fy;rw[KA]
  have:∀s∈x.sd,s.2*sgn (FZ o s.1).sd c=0:=λs hs'=>by obtain⟨y,hy,e,hyd⟩:=R.sid x hxm s hs';rw[<-e,CS R.nd hy];have hnum:=R.num y hy;unfold B0 at hnum;have:y.sd=[]:=List.length_eq_zero_iff.1 (by omega);rw[this,Hh,Int.mul_zero]
  exact OW this
 ·have hnum:=R.num x hxm;unfold B0 at hnum;have:x.sd=[]:=List.length_eq_zero_iff.1 (by omega);unfold Fy;rw[this];rfl
theorem Zy(R:Rgt o)(hi:i<o.length)(hj:j<o.length)(h:DM o i j≠0):(o.getD j default).dim=(o.getD i default).dim+1:=by obtain⟨s,hs,e⟩:=MB h;obtain⟨y,hy,e1,e2⟩:=R.sid _ (DZ hj) s hs;obtain⟨h1,h2⟩:=Hj hy R.nd;have h3:O5 o y.id=i:=Kl R.nd h1 hi (by rw[h2,e1,e]);rw[<-h3,h2,e2];omega
end Go.Proofs.Q
namespace Go.Proofs.Q
open Go.Proofs.Tryz
open Go.Eng Go.RowKit Go.Lin
def Shp(v:Value)(n:Nat):Prop:=(v=.slice none 0 0/\n=0)\/∃g c,v=.slice (some ⟨g,0,none⟩) n c
theorem QX{α:Type}{F:α->List Value}{sz:Nat}{el:TypeId}{m:Hp}{v:Value}{l:List α}(O:OwnL F sz el m v l):Shp v l.length:=by
 obtain⟨⟨_,h⟩,_⟩:=O;rcases h with ⟨h1,h2,_⟩|⟨g,cap,spare,h1,_⟩
 ·exact .inl ⟨h1,h2⟩
 ·exact .inr ⟨g,cap,h1⟩
theorem Abh(zs:List Int)(v:Value)(x:Int)(h:Hp)(hR:RdL cI 1 h [] v zs)(hv:Shp v zs.length)(hs:zs.Pairwise (·<=·))(hn:zs.length<=1000000)(ms:List Hp) :
  FnV Tryz.prog 130 #[v,.int .i64 x] h ms (.tuple #[.int .i64 ((zs.countP (·<x):Nat):Int),.bool (zs.contains x)]):=by
 intro w hw;rcases hv with ⟨rfl,h0⟩|⟨g,c,rfl⟩
 ·obtain rfl:zs=[]:=List.length_eq_zero_iff.1 h0;exact(Tryz.slices_BinarySearch_int_empty none 0 x w).mono λe w' ⟨h1,h2⟩=>⟨by rw[h1];rfl,by rw[h2];exact Ext.refl _⟩
 ·refine(Tryz.slices_BinarySearch_int g 0 zs.length c zs x w (Nat.le_refl _) (by omega) (λj hj=>?_) (by rw[take_length];exact hs)).mono λe w' ⟨h1,q,h2⟩=>⟨by rw[h1,take_length],by rw[h2];exact⟨Y,⟨Y,Nat.le_add_right _ _⟩,Y,Nat.le_refl _,λ_ _=>rfl⟩⟩
  have hc:=(hR.any (ms:=ms)).cell0 hj (u:=.int .i64 zs[j]) Y;have:=hw.cell hc;rw[show(AJ (.slice (some ⟨g,0,none⟩) zs.length c)).add (j*1)=(⟨g,0+j,none⟩:Addr) by simp only[AJ,Addr.add,Nat.mul_one];split<;>simp_all]at this;simpa[List.getD,hj] using this
theorem Om:∀{zs:List Int},zs.Pairwise (· < ·)->∀{x:Int} {i:Nat} (hi:i<zs.length),zs[i]=x->zs.countP (·<x)=i
 | [],_,x,i,hi,_=>by simp at hi
 | a::zs,hp,x,i,hi,he=>by
  rw[pairwise_cons]at hp;cases i with
  | zero=>
   simp at he;subst he;rw[List.countP_cons,if_neg (by simp)];rw[List.countP_eq_zero.2 λb hb=>by have:=hp.1 b hb;simp;omega]
  | succ i=>
   have hi':i<zs.length:=by simpa using hi
   have he':zs[i]=x:=by simpa using he
   have:=hp.1 _ (getElem_mem hi');rw[List.countP_cons,if_pos (by simp;omega),Om hp.2 hi' he']
end Go.Proofs.Q

namespace Go.Proofs.Q
open Go.Eng Go.RowKit Go.Lin
theorem Mg{a b c:Hp}(h:a.disj b):a.join (b.join c)=b.join (a.join c):=by rw[<-Hp.join_assoc,<-Hp.join_assoc,Hp.join_comm h]
theorem ColsO.at_:∀{vs:List Value} {cs:List (List Int)} {m:Hp},ColsO m vs cs->∀{i:Nat} (hv:i<vs.length) (hc:i<cs.length),∃a b,m=a.join b/\a.disj b/\OwnL cI 1 3 a vs[i] cs[i]/\∀a' c',a'.disj b->OwnL cI 1 3 a' vs[i] c'->ColsO (a'.join b) vs (cs.set i c')
 | [],_,_,_,i,hv,_=>by simp at hv
 | _::_,[],_,h,_,_,_=>h.elim
 | v::vs,c::cs,m,⟨a,b,e,hd,O,C⟩,0,_,_=>⟨a,b,e,hd,O,λa' c' hd' O'=>⟨a',b,rfl,hd',O',C⟩⟩
 | v::vs,c::cs,m,⟨a0,b0,e,hd,O,C⟩,i+1,hv,hc=>by
  obtain⟨a,b,e2,hd2,O2,K⟩:=C.at_ (i:=i) (by simpa using hv) (by simpa using hc);subst e2;obtain⟨h0a,h0b⟩:=Hp.disj_of_join hd;refine⟨a,a0.join b,by rw[e];exact Mg h0a,?_,O2,λa' c' hd' O'=>?_⟩
  ·exact Hp.disj_symm (Hp.disj_join h0a (Hp.disj_symm hd2))
  ·obtain⟨k0,kb⟩:=Hp.disj_of_join hd';refine⟨a0,a'.join b,Mg k0,?_,O,K a' c' kb O'⟩;exact Hp.disj_symm (Hp.disj_join k0 (Hp.disj_symm h0b))
variable {r c k:Nat} {B:Nat->Nat->Int} {sd:List (Int×Int)} {rows:List Int}
def DI(B:Nat->Nat->Int)(sd:List (Int×Int))(rows:List Int)(k j i b:Nat):Int:=if b<k then B i b else if b=k then sgn (sd.take j) (rows.getD i 0) else 0
def CL(r c:Nat)(F:Nat->Nat->Int):List (List Int):=(range r).map λi=>GS c (F i)
theorem Ev(r c:Nat)(F:Nat->Nat->Int):(CL r c F).length=r:=by simp[CL]
theorem EL{F G:Nat->Nat->Int}(h:∀i,i<r->∀b,b<c->F i b=G i b):CL r c F=CL r c G:=by unfold CL;refine List.map_congr_left λi hi=>L9 λb hb=>h i (List.mem_range.1 hi) b hb
theorem Pp(r c:Nat)(B:Nat->Nat->Int)(sd:List (Int×Int))(rows:List Int):CL r c (DI B sd rows 0 0)=replicate r (replicate c 0):=by
 have h1:CL r c (DI B sd rows 0 0)=CL r c λ_ _=>0:=EL λi _ b _=>by unfold DI;rw[if_neg (by omega),take_zero,Hh,ite_self]
 rw[h1];unfold CL GS;rw[List.map_const',List.length_range,List.map_const',List.length_range]
theorem Jx{sd':List (Int×Int)}:CL r c (DI B sd rows k 0)=CL r c (DI B sd' rows k 0):=
 EL λi _ b _=>by unfold DI;rw[take_zero,take_zero]
theorem Pr(hB:∀i,i<r->B i k=sgn sd (rows.getD i 0)):CL r c (DI B sd rows k sd.length)=CL r c (DI B sd rows (k+1) 0):=
 EL λi hi b _=>by
  unfold DI;rw[take_length,take_zero,Hh,ite_self];by_cases h1:b<k
  ·rw[if_pos h1,if_pos (by omega)]
  ·by_cases h2:b=k
   ·subst h2;rw[if_neg h1,if_pos rfl,if_pos (by omega),hB i hi]
   ·rw[if_neg h1,if_neg h2,if_neg (by omega)]
theorem SH:CL r c (DI B sd rows c 0)=CL r c B:=
 EL λi _ b hb=>by unfold DI;rw[if_pos hb]
theorem UK{j:Nat}(hr:rows.length=r)(hj:j<sd.length)(h:sd[j].1 ∉ rows):CL r c (DI B sd rows k (j+1))=CL r c (DI B sd rows k j):=
 EL λi hi b _=>by
  unfold DI;have hi':i<rows.length:=by omega
  have hne:¬sd[j].1=rows.getD i 0:=λe=>h (by rw[e];simp[List.getD,hi']);rw[take_succ_eq_append_getElem hj,Kq,if_neg hne,Int.add_zero]
theorem SS{j i0:Nat}(hr:rows.length=r)(hn:rows.Nodup)(hj:j<sd.length)(hi0:i0<r)(hk:k<c)(h:rows[i0]'(by omega)=sd[j].1) :
  CL r c (DI B sd rows k (j+1))=(CL r c (DI B sd rows k j)).set i0 ((GS c (DI B sd rows k j i0)).set k (DI B sd rows k j i0 k+sd[j].2)):=by
 refine List.ext_getElem (by rw[List.length_set,Ev,Ev]) λi h1 h2=>?_;have hi:i<r:=by rwa [Ev]at h1
 have hi':i<rows.length:=by omega
 rw[List.getElem_set];have e1:∀(F:Nat->Nat->Int) (h:i<(CL r c F).length),(CL r c F)[i]=GS c (F i):=λF h=>by simp[CL]
 have es:sgn (sd.take (j+1)) (rows.getD i 0)=sgn (sd.take j) (rows.getD i 0)+if sd[j].1=rows.getD i 0 then sd[j].2 else 0:=by rw[take_succ_eq_append_getElem hj,Kq]
 have eg:rows.getD i 0=rows[i]:=by simp[List.getD,hi']
 split
 ·rename_i e;subst e;rw[e1];refine List.ext_getElem (by simp[GS]) λb hb1 hb2=>?_;rw[List.getElem_set];have hbc:b<c:=by simpa[GS] using hb1
  have ev:∀(F:Nat->Int) (h:b<(GS c F).length),(GS c F)[b]=F b:=λF h=>by simp[GS]
  rw[ev];split
  ·rename_i e;subst e;unfold DI;rw[if_neg (by omega),if_pos rfl,if_neg (by omega),if_pos rfl,es,eg,if_pos h.symm]
  ·rename_i e;rw[ev];unfold DI;rw[if_neg (show ¬b=k from λq=>e q.symm),if_neg (show ¬b=k from λq=>e q.symm)]
 ·rename_i e;rw[e1,e1];refine L9 λb hb=>?_;unfold DI
  have hne:¬sd[j].1=rows.getD i 0:=λq=>e (by
   rw[<-h,eg]at q
   exact(List.getElem_inj hn).1 q)
  rw[es,if_neg hne,Int.add_zero]
end Go.Proofs.Q

namespace Go.Proofs.Q
open Go.Proofs.Tryz
open Go.Eng Go.RowKit Go.Lin
def BG(o:List Cl)(d:Int):List Int:=(o.filter λc=>decide (c.dim=d)).map Cl.id
theorem Gf(o:List Cl)(d:Int):(BG o d).length<=o.length:=by unfold BG;rw[length_map];exact List.length_filter_le _ _
theorem U2{o:List Cl}(h:RgtF o)(d:Int):(BG o d).Pairwise (· < ·):=by unfold BG;rw[List.pairwise_map];exact h.inc.sublist List.filter_sublist
theorem Q8:∀l:List Value,l.flatMap cU=l
 | []=>rfl
 | a::l=>by rw[List.flatMap_cons,Q8 l];rfl
theorem Nf:∀(sd:List (Int×Int)) (c:Int),(∀s∈sd,s.2=1\/s.2=-1)->-(sd.length:Int)<=sgn sd c/\sgn sd c<=sd.length
 | [],c,_=>by rw[Hh];simp
 | s::sd,c,h=>by have ih:=Nf sd c λs hs=>h s (List.mem_cons_of_mem _ hs);have h1:=h s List.mem_cons_self;rw[H9,length_cons];split<;>omega
def H8(o:List Cl)(d:Int)(i k:Nat):Int:=sgn (FZ o ((BG o d).getD k 0)).sd ((BG o (d-1)).getD i 0)
theorem Sn(l:List Ce)(v:Value)(d:Int)(hd:-5<=d/\d<=1000)(hp:Hp)(hK:RgC l)(hR:RdC hp v l)(hn:l.length<=200) :
  FnT Tryz.prog 62 #[.agg #[v],.int .i64 d] hp [] (λw h' ms'=>hp.le h'/\Vy w ms' (BG (cn l) (d-1)).length (BG (cn l) d).length (DS (BG (cn l) (d-1)).length (BG (cn l) d).length (H8 (cn l) d))):=by
 have ov:=hR.q.rd.one;refine Av func62 ntmps62 Y Y (λw0 hw0=>?_);simp only[A3];refine Aw (AY [_] Y Y (by rfl) Y Y Y (λg2=>By [.int .i64 0,.int .i64 0,.slice none 0 0] Y D5 Y Y (λg4=>Ap (Bk 1 Y λh1 l1 hS2=>?_))));have hR1:=hR.up l1;have gS2:∀ms,Seg h1 ms (⟨g2,0,none⟩:Addr) [v]:=λms=>hS2.any;refine Aw (Qx (oG Y BJ AO (gS2 _)) Y (Qc call64 Y (AK l v h1 hK hR1) (λr h3 ms3 l3 hF=>?_)));obtain⟨l3',rfl,g,A,rfl,hA,hT⟩:=hF;have hR3:=hR1.up l3';have gS2:∀ms,Seg h3 ms (⟨g2,0,none⟩:Addr) [v]:=λms=>(hS2.le l3').any;refine Qm Y (Ap (Ac (BK (n:=9) (bs:=[true,true,true,false,true,true,false,false,false]) [true,true,true,false,true,true] CZ (by kernel_rfl) (by kernel_rfl) Y Y (Qp Y (oG Y BJ AO (gS2 _)) (Qq Y (Qp Y (oS Y) (Qp Y (oG Y BJ AO (gS2 _)) (Qq Y ?_))))))));unfold FK;simp only[cons_append,nil_append];refine Qo 3 Y (Qc call63 Y (Nj l v (d-1) h3 hK hR3) (λra h4 ms4 l4 hF=>?_));obtain⟨l4',ma,rfl,hOa⟩:=hF;have shA:=QX hOa;refine A5 hOa λh5 l5 hRa=>?_;have l35:=AI l4' l5;refine Qa (Qo 6 Y (Qc call63 Y (Nj l v d h5 hK (hR3.up l35)) (λrb h6 ms6 l6 hF=>?_)));obtain⟨l6',mb,rfl,hOb⟩:=hF;have shB:=QX hOb;refine A5 hOb λh7 l7 hRb=>?_;have l57:=AI l6' l7;have l37:=AI l35 l57;refine Qa (Qo 7 Y (Qm Y (Qa (Qo 8 Y (Qm Y (Qa (Qe ?_)))))));have hRa7:=hRa.up l57;obtain⟨o,ho⟩:∃o,cn l=o:=⟨_,Y⟩
 have hol:o.length=l.length:=by rw[<-ho,C6]
 have hrg:RgtF o:=by rw[<-ho];exact hK.F
 change RdL cI 1 h7 [] ra (BG (cn l) (d-1)) at hRa7;change RdL cI 1 h7 [] rb (BG (cn l) d) at hRb;rw[ho]at hRa7 hRb ⊢;obtain⟨r,hr⟩:∃r,(BG o (d-1)).length=r:=⟨_,Y⟩
 obtain⟨c,hc⟩:∃c,(BG o d).length=c:=⟨_,Y⟩
 have hr2:r<=200:=by have:=Gf o (d-1);omega
 have hc2:c<=200:=by have:=Gf o d;omega
 rw[hr,hc];have rA:Rd h7 [] ra 1 r ((BG o (d-1)).flatMap cI):=by have:=hRa7.rd;rwa [hr]at this
 have rB:Rd h7 [] rb 1 c ((BG o d).flatMap cI):=by have:=hRb.rd;rwa [hc]at this
 have oa:=rA.one;have ob:=rB.one;have lh7:=AI l1 (AI l3' l37);refine Ab (Ac (Aw (Qm Y (Qx (As rA.any Y A0 Y) Y (Qm Y (Qm Y ?_))))));refine AU (t:=28) Y (λh1=>?_) (λh1=>?_)
 ·exact absurd h1 (by omega)
 ·refine Qg (AC Y Y) Y (Qg (As rB.any Y A0 Y) Y (Qg (CA Y Y Y) Y (Qm Y (Ap ?_))));refine Ax Y (λh2=>?_) (λh2=>?_)
  ·exact absurd h2 (by omega)
  ·refine Aj (Ab (Ac (Aw (Qm Y (Qx (As rA.any Y A0 Y) Y (Qm Y (Ap ?_)))))));refine Ax Y (λh3=>?_) (λh3=>?_)
   ·have hr0:r=0:=by omega
    subst hr0;refine Aw (Qm Y (Qx (As rB.any Y A0 Y) Y (Qc call129 Y (NB 0 c (by omega) hc2 h7) (λz h8 ms8 l8 hF=>?_))));obtain⟨rfl,ev,m,rfl,rfl,hO⟩:=hF;have oe:=hO.o1;have hL:replicate (0*c) (0:Int)=DS 0 c (H8 o d):=by simp[DS]
    rw[hL]at hO;refine Sa 1 [_,_,_] D5 Y (by simp[ov,oa,ob,oe]) ?_;refine Ap (Aq (Ae ?_));exact BB (vs:=[_,_,_]) 1 Y Y Of Y D5 Y Y (⟨lh7,ev,m,Y,Y,hO⟩)
   ·refine Aj (Ab (Aw (Qm Y (Qx (As rA.any Y A0 Y) Y (CQ (n:=r) Y Cu Cw Y Y Y (by rfl) (by rfl) (by omega) (by omega) Y Y Y (λg42=>Qm Y (Ap (Ac (Aw (Qm Y (Qx (Qi (ty:=81) Y Cu Y) Y (Qm Y (Ap (Ah ?_))))))))))))))
    have hO0:OwnL cU 1 22 (Bw g42 22 (replicate r (.slice none 0 0))) (.slice (some ⟨g42,0,none⟩) r r) ([]++replicate r (.slice none 0 0)):=by
     rw[nil_append];have:=OwnL.blk (F:=cU) (el:=22) (g:=g42) (l:=replicate r (Value.slice none 0 0)) r MD (by simp) (by omega)
     rwa [Q8]at this
    refine BO ?_
    refine AD (λq sl h' ms'=>∃(i:Nat) (Rs:List Value) (mR mo:Hp),r-i=q/\sl=[(4,.pointer (some ⟨g4,0,none⟩)),(5,.pointer (some ⟨g,0,none⟩)),(6,ra),(7,rb),(8,.slice (some ⟨g42,0,none⟩) r r),(44,.int .i64 r),(45,.int .i64 i)]/\h7=h'/\ms'=[mR,mo,Bw g4 106 [.int .i64 0,.int .i64 0,.slice none 0 0]]/\i<=r/\OwnL cU 1 22 mo (.slice (some ⟨g42,0,none⟩) r r) (Rs++replicate (r-i) (.slice none 0 0))/\Rs.length=i/\ColsO mR Rs (replicate i (replicate c 0)))
     (r-0) _ ⟨0,[],Hp.emp,_,rfl,rfl,rfl,rfl,by omega,hO0,rfl,rfl⟩ Qs ?_
    rintro q sl h' ms' ⟨i,Rs,mR,mo,rfl,rfl,rfl,rfl,hi,hO,hRl,hCR⟩;refine Aw (Qm Y (Ap (Ac ?_)));refine Ax Y (λhlt=>?_) (λhlt=>?_)
    ·have hir:i<r:=by omega
     refine Aj (Ab (Ac (Ah (Aw (Qm Y (Qm Y (GH (Qm Y (Qm Y (Qm Y (Qx (As rB.any Y A0 Y) Y (CQ (n:=c) Y A0 Ba Y Y Y (by rfl) (by rfl) (by omega) (by omega) Y Y Y (λg52=>Qx (Cn (i) Y Cu Cw Y Y (by omega) (by omega)) Y ?_)))))))))))))
     have hset:(Rs++replicate (r-i) (Value.slice none 0 0)).set i (.slice (some ⟨g52,0,none⟩) c c)=(Rs++[.slice (some ⟨g52,0,none⟩) c c])++replicate (r-(i+1)) (Value.slice none 0 0):=by rw[List.set_append_right _ _ (by omega),hRl,Nat.sub_self,show r-i=(r-(i+1))+1 by omega,List.replicate_succ,List.set_cons_zero,List.append_assoc];rfl
     refine CW (f:=λv:Value=>v) (a:=.slice (some ⟨g52,0,none⟩) c c) 2 i (λ_=>rfl) hO Y Cw Y Y Y Y (by rw[length_append,length_replicate];omega) rfl rfl (λmo' hO'=>?_);rw[hset]at hO';refine An (Ak (Ab (Ad (Qx (oA Y) Y (Qm Y (An (D8 λhap=>?_)))))));have hap:[Bw g52 3 (replicate c (.int .i64 0)),mR,mo',Bw g4 106 [.int .i64 0,.int .i64 0,.slice none 0 0]].Pairwise Hp.disj:=hap;simp only[pairwise_cons,mem_cons,not_mem_nil,or_false,forall_eq_or_imp,forall_eq]at hap;have hC':=hCR.snoc (OwnL.rep (g:=g52) (el:=3) c 0 (by omega)) (Hp.disj_symm hap.1.1);have hrs:replicate i (replicate c (0:Int))++[replicate c 0]=replicate (i+1) (replicate c 0):=(List.replicate_succ' ..).symm;rw[hrs]at hC';refine CD 1 Y (Ez ?_);exact Am (r-(i+1)) _ (by omega) ⟨i+1,_,_,mo',Y,Y,Y,Y,by omega,hO',by rw[length_append,hRl];rfl,hC'⟩ Qs
    ·have hir:i=r:=by omega
     subst hir;refine Ay (Aa (Aa (Ag (Ab (DT 1 Y (Bu hO λh8 l8 hL=>?_))))));rw[Nat.sub_self,List.replicate_zero,append_nil]at hL;have rB8:=rB.le l8;have rA8:=rA.le l8;refine Ac (Aw (Qm Y (Qx (As rB8.any Y A0 Y) Y (Qm Y (Ap (Ah ?_))))));have hCR0:ColsO mR Rs (CL i c (DI (H8 o d) [] (BG o (d-1)) 0 0)):=by rw[Pp];exact hCR
     refine AD (λq sl h' ms'=>∃(k:Nat) (mR:Hp),c-k=q/\sl=[(4,.pointer (some ⟨g4,0,none⟩)),(5,.pointer (some ⟨g,0,none⟩)),(6,ra),(8,.slice (some ⟨g42,0,none⟩) i i),(55,rb),(56,.int .i64 c),(57,.int .i64 k)]/\h8.le h'/\ms'=[mR,Bw g4 106 [.int .i64 0,.int .i64 0,.slice none 0 0]]/\k<=c/\ColsO mR Rs (CL i c (DI (H8 o d) [] (BG o (d-1)) k 0)))
      (c-0) _ ⟨0,mR,rfl,rfl,B8,rfl,by omega,hCR0⟩ Qs ?_
     rintro q sl h9 ms' ⟨k,mR,rfl,rfl,l9,rfl,hk,hC⟩;refine Aw (Qm Y (Ap (Ac ?_)));refine Ax Y (λhlt2=>?_) (λhlt2=>?_)
     ·have hkc:k<c:=by omega
      have hkL:k<(BG o d).length:=by omega
      obtain⟨y,hy⟩:∃y,(BG o d).getD k 0=y:=⟨_,Y⟩
      have hyg:(BG o d)[k]=y:=by rw[<-hy];simp[List.getD,hkL]
      have hB9:=(hRb.up l8).up l9;have cB:∀ms,Cell h9 ms ((AJ rb).add (k*1)) (.int .i64 y):=λms=>(hB9.any (ms:=ms)).cell0 hkL (by rw[hyg];rfl);obtain⟨gm,mT,bs,vids,hS,hM,lM,hV,hsd⟩:=hT;have l39:=AI l37 (AI l8 l9);have e0:∀ms,Cell h9 ms ((⟨g,0,none⟩:Addr).add 0) (.map (some gm)):=λms=>((hS 0 _ Y).any).le l39;have hAo:A.map Ce.c=o:=by rw[hA,ho]
      have hAid:(A.map λa=>a.c.id)=o.map Cl.id:=by rw[<-hAo,map_map];rfl
      have hnd:(A.map λa=>a.c.id).Nodup:=by rw[hAid];exact hrg.rgt.nd
      obtain⟨a,haA,hay⟩:∃a,a∈A/\a.c.id=y:=by
       have h1:y∈BG o d:=by rw[<-hyg];exact getElem_mem hkL
       unfold BG at h1;obtain⟨cl,h2,h3⟩:=List.mem_map.1 h1;have h4:cl∈A.map Ce.c:=by rw[hAo];exact(List.mem_filter.1 h2).1
       obtain⟨a,h5,rfl⟩:=List.mem_map.1 h4;exact⟨a,h5,h3⟩
      have hga:Bj (E4 A) y=some a:=by rw[<-hay];exact G4 hnd haA
      have hga1:(Bj (E4 A) y).getD default=a:=by rw[hga];rfl
      have hyI:BP y:=by
       have h1:a.c∈cn l:=by rw[<-hA];exact List.mem_map.2 ⟨a,haA,Y⟩
       rw[<-hay];exact hK.cI h1
      have hcel:FZ o y=a.c:=by have:=Hm A y;rw[hAo,hga1]at this;exact this.symm
      have hsa:=(hsd a haA).up l39;have oav:=hsa.rd.one;refine Aj (Ab (Ac (Ah (Aw (Qm Y (Qx (AM (k) (rB8.le l9).any Y A0 Ba Y Y (by omega) (by omega)) Y (Ql Y U3 (cB _) (Qm Y (Qm Y (BN (Qm Y (Qm Y (Qf DO Y (Ql Y EY (e0 _) (Qm Y (Qx (B9 (V:=vC) (z:=(default:Ce)) (u:=a) y hga1 Bh hM (AI lM l39) Y EY HK Y Y hyI) Y (Qx (Cp Y D1 Y BQ Y Y Y) Y (Qx (As hsa.rd.any Y BQ Y) Y (Qm Y (Ap (Ah ?_)))))))))))))))))))));have hao:a.c∈o:=by rw[<-hAo];exact List.mem_map.2 ⟨a,haA,Y⟩
      have hsl:a.c.sd.length<=64:=(hrg.bds hao).2.1;have hsg:=hrg.rgt.sgn _ hao
      refine AD (λq sl h' ms'=>∃(j:Nat) (mR:Hp),a.c.sd.length-j=q/\sl=[(4,.pointer (some ⟨g4,0,none⟩)),(5,.pointer (some ⟨g,0,none⟩)),(6,ra),(8,.slice (some ⟨g42,0,none⟩) i i),(10,.int .i64 k),(55,rb),(56,.int .i64 c),(57,.int .i64 k),(68,a.v),(69,.int .i64 a.c.sd.length),(70,.int .i64 j)]/\h9.le h'/\ms'=[mR,Bw g4 106 [.int .i64 0,.int .i64 0,.slice none 0 0]]/\j<=a.c.sd.length/\ColsO mR Rs (CL i c (DI (H8 o d) a.c.sd (BG o (d-1)) k j)))
       (a.c.sd.length-0) _ ⟨0,mR,rfl,rfl,B8,rfl,by omega,by rw[Jx (sd':=[])];exact hC⟩ Qs ?_
      rintro q sl h11 ms' ⟨j,mR,rfl,rfl,l11,rfl,hj,hC⟩;have hsa11:=hsa.up l11;refine Aw (Qm Y (Ap (Ac ?_)));refine Ax Y (λhlt3=>?_) (λhlt3=>?_)
      ·have hjl:j<a.c.sd.length:=by omega
       obtain⟨s,hs⟩:∃s,a.c.sd[j]=s:=⟨_,Y⟩
       have gS:∀ms,Seg h11 ms ((AJ a.v).add (j*2)) (cD s):=λms=>by rw[<-hs];exact(hsa11.any (ms:=ms)).seg hjl
       refine Aj (Ab ?_);refine A8 (λsl h'' ms'=>∃mR':Hp,sl=[(4,.pointer (some ⟨g4,0,none⟩)),(5,.pointer (some ⟨g,0,none⟩)),(6,ra),(8,.slice (some ⟨g42,0,none⟩) i i),(10,.int .i64 k),(55,rb),(56,.int .i64 c),(57,.int .i64 k),(68,a.v),(69,.int .i64 a.c.sd.length),(70,.int .i64 j)]/\h11.le h''/\ms'=[mR',Bw g4 106 [.int .i64 0,.int .i64 0,.slice none 0 0]]/\ColsO mR' Rs (CL i c (DI (H8 o d) a.c.sd (BG o (d-1)) k (j+1)))) ?_ (λs h ms hI=>?_)
       ·refine Ah (Aw (Qx (BH (j) hsa11.rd.any Y BQ AQ Y Y) Y (Qx (oG Y Du AQ (gS _)) Y (By [.int .i64 0,.int .i64 0] Y AQ Y Y (λg13=>?_)))));refine Sa 0 [_,_] AQ Y (by simp[Value.oneCell']) ?_;refine Ap (AB λh12 l12 hS13=>?_);have l712:=AI l8 (AI l9 (AI l11 l12));have hRa12:=hRa7.up l712;have e130:∀ms,Cell h12 ms ((⟨g13,0,none⟩:Addr).add 0) (.int .i64 s.1):=λms=>(hS13 0 _ Y).any;have e131:∀ms,Cell h12 ms ((⟨g13,0,none⟩:Addr).add 1) (.int .i64 s.2):=λms=>(hS13 1 _ Y).any;have hinc:=U2 hrg (d-1);change Shp ra (BG (cn l) (d-1)).length at shA;rw[ho]at shA;refine Aw (Qm Y (Qf B6 Y (Ql Y U3 (e130 _) (Qx (AR Y call130 Y (Abh (BG o (d-1)) ra s.1 h12 hRa12 shA (hinc.imp λh=>Int.le_of_lt h) (by omega) _)) Y (Qm Y (Qm Y (Qm Y (Qm Y (Qm Y (BN (Qm Y (Ap ?_))))))))))));refine Bz Y (λhfd=>?_) (λhfd=>?_)
        ·have hmem:s.1∈BG o (d-1):=by simpa using hfd
         obtain⟨i0,hi0,he0⟩:=List.mem_iff_getElem.1 hmem;have hi0i:i0<i:=by omega
         have hcnt:(BG o (d-1)).countP (·<s.1)=i0:=Om hinc hi0 he0;rw[hcnt];have hv0:i0<Rs.length:=by omega
         obtain⟨a1,b1,e1,dab,O1,K⟩:=hC.at_ (i:=i0) hv0 (by rw[Ev];exact hi0i);subst e1;obtain⟨ρ,hρ⟩:∃ρ,Rs[i0]=ρ:=⟨_,Y⟩
         rw[hρ]at O1 K;have er:(CL i c (DI (H8 o d) a.c.sd (BG o (d-1)) k j))[i0]'(by rw[Ev];exact hi0i)=GS c (DI (H8 o d) a.c.sd (BG o (d-1)) k j i0):=by simp[CL]
         rw[er]at O1;refine Hi dab ?_;have cL:∀ms,Cell h12 ms ((AJ (.slice (some ⟨g42,0,none⟩) i i)).add (i0*1)) ρ:=λms=>((hL.any (ms:=ms)).cell0 hv0 (by rw[hρ];rfl)).le (AI l9 (AI l11 l12));have hkv:k<(GS c (DI (H8 o d) a.c.sd (BG o (d-1)) k j i0)).length:=by rw[CK];exact hkc
         have cX:∀ms,a1∈ms->Cell h12 ms ((AJ ρ).add (k*1)) (.int .i64 (DI (H8 o d) a.c.sd (BG o (d-1)) k j i0 k)):=λms hm=>(O1.rd (h:=h12) hm).cell0 hkv (by simp[GS,cI]);have rρ:Rd h12 [a1] ρ 1 c ((GS c (DI (H8 o d) a.c.sd (BG o (d-1)) k j i0)).flatMap cI):=by have:=(O1.rd (h:=h12) (ms:=[a1]) Mh).rd;rwa [CK]at this
         have hbd:=Nf (a.c.sd.take j) ((BG o (d-1)).getD i0 0) λs hs=>hsg s (List.mem_of_mem_take hs);have hbe:DI (H8 o d) a.c.sd (BG o (d-1)) k j i0 k=sgn (a.c.sd.take j) ((BG o (d-1)).getD i0 0):=by unfold DI;rw[if_neg (by omega),if_pos rfl]
         have htl:(a.c.sd.take j).length<=64:=by rw[length_take];omega
         have hs2:=hsg s (by rw[<-hs];exact getElem_mem hjl);have oρ:=rρ.one;refine Bc 9 CZ (by kernel_rfl) Y (Wm Y (Wm Y (AW (Cn (i0) Y Cu Cw Y Y (by omega) (by omega)) Y Y (Wl Y A0 (cL _) (Wm Y (AW (BL (k) rρ Y A0 Ba Y Y (by omega) (by omega)) Y Y (Wl Y U3 (cX _ Mh) (Wf Di Y (Wl Y U3 (e131 _) (A4 (Qx (oA Y) Y (Qx (BL (k) rρ Y A0 Ba Y Y (by omega) (by omega)) Y (De 0 k O1 Y Ba Y Y Y hkv Y Y (λa1' O1'=>An (Ak (D8 λhap=>?_))))))))))))))));have hap:[a1',b1,Bw g4 106 [.int .i64 0,.int .i64 0,.slice none 0 0]].Pairwise Hp.disj:=hap;simp only[pairwise_cons,mem_cons,not_mem_nil,or_false,forall_eq_or_imp,forall_eq]at hap;have hC':=K a1' _ hap.1.1 O1';have hyes:=SS (B:=H8 o d) hr (hinc.imp λh=>Int.ne_of_lt h) hjl hi0i hkc (by rw[he0,hs]);rw[hs]at hyes;rw[<-hyes]at hC';refine Ez ?_;exact Ao _ ⟨_,Y,l12,Y,hC'⟩ Qs
        ·have hmem:s.1 ∉ BG o (d-1):=by simpa using hfd
         rw[<-hs]at hmem;rw[<-UK (B:=H8 o d) hr hjl hmem]at hC;refine Aj (Ak ?_);exact Ao _ ⟨mR,Y,l12,Y,hC⟩ Qs
       ·obtain⟨mR',rfl,l12,rfl,hC'⟩:=hI;refine Ad (Qx (oA Y) Y (Qm Y (An ?_)));exact Am (a.c.sd.length-(j+1)) _ (by omega) ⟨j+1,mR',Y,Y,AI l11 l12,Y,by omega,hC'⟩ Qs
      ·have hjl:j=a.c.sd.length:=by omega
       subst hjl;have hB:∀i',i'<i->H8 o d i' k=sgn a.c.sd ((BG o (d-1)).getD i' 0):=λi' _=>by unfold H8;rw[hy,hcel]
       rw[Pr hB,Jx (sd':=[])]at hC;refine Ay (Aa (Aa (Ag (Ak (Ab (Ad (Qx (oA Y) Y (Qm Y (An ?_)))))))));exact Am (c-(k+1)) _ (by omega) ⟨k+1,mR,Y,Y,AI l9 l11,Y,by omega,hC⟩ Qs
     ·have hkc:k=c:=by omega
      subst hkc;rw[SH]at hC;refine Ay (Aa (Aa (Ag (Ab (Bt λh10 l10 lm=>?_)))))
      have hRr:∀i',i'<i->RdL cI 1 h10 [] (Rs.getD i' undef) (GS k (H8 o d i')):=λi' hi'=>by
       have hv:i'<Rs.length:=by omega
       obtain⟨a1,b1,e1,dab,O1,_⟩:=hC.at_ (i:=i') hv (by rw[Ev];exact hi');have er:(CL i k (H8 o d))[i']'(by rw[Ev];exact hi')=GS k (H8 o d i'):=by simp[CL]
       rw[er]at O1;have hle:a1.le h10:=AI (by rw[e1];exact Hp.le_join _ _) lm;have:=O1.rdh (ms:=[]) hle
       rwa [show Rs.getD i' undef=Rs[i'] by simp[List.getD,hv]]
      have hAo:A.map Ce.c=o:=by rw[hA,ho]
      have hb:∀i',i'<i->∀j,j<k->-256<H8 o d i' j/\H8 o d i' j<256:=λi' _ j _=>by
       unfold H8;obtain⟨y,hy⟩:∃y,(BG o d).getD j 0=y:=⟨_,Y⟩
       rw[hy];have h1:=Hm A y;rw[hAo]at h1;rw[<-h1];cases hg:Bj (E4 A) y with
       | none=>exact(by decide:-256<(0:Int)/\(0:Int)<256)
       | some z=>
        have hz:z.c∈o:=by rw[<-hAo];exact List.mem_map.2 ⟨z,Q4 hg,Y⟩
        have h2:=Nf z.c.sd ((BG o (d-1)).getD i' 0) (hrg.rgt.sgn _ hz);have h3:=(hrg.bds hz).2.1;simp only[Option.getD_some];omega
      have hi0:0<i:=by omega
      refine Aw (Qm Y (Qc call131 Y (Z8 i k hi0 hr2 hc2 (H8 o d) hb Rs hRl _ h10 (hL.up (AI l9 l10)) hRr) (λz h13 ms13 l13 hF=>?_)));obtain⟨l13',ev,m,rfl,rfl,hO⟩:=hF;have oe:=hO.o1;refine Sa 1 [_,_,_] D5 Y (by simp[ov,oa,ob,oe]) ?_;refine Ap (Aq ?_);exact BB (vs:=[_,_,_]) 1 Y Y Of Y D5 Y Y (⟨AI lh7 (AI l8 (AI l9 (AI l10 l13'))),ev,m,Y,Y,hO⟩)
theorem Yo(r c:Nat)(f:Nat->Nat->Int)(g:Int->Int):(DS r c f).map g=DS r c λi j=>g (f i j):=by unfold DS;rw[map_map];rfl
theorem Ui(p:Int)(r c:Nat)(f:Nat->Nat->Int)(hp:IsP p)(hp2:p<256)(hr:r<=200)(hc:c<=200)(hb:∀i,i<r->∀j,j<c->-256<f i j/\f i j<256)(gp:Nat)(ev:Value)(h:Hp)(hD:∀ms,Cell h ms (⟨gp,0,none⟩:Addr) (.int .i64 p))(hR:RdL Ps 2 h [] ev (DS r c f)) :
  FnT Tryz.prog 58 #[.agg #[.int .i64 r,.int .i64 c,ev],.pointer (some ⟨gp,0,none⟩)] h [] (λx h' ms'=>h.le h'/\ms'=[]/\∃(F:Nat->Nat->Int) (pv:List Nat),x=.int .i64 pv.length/\Ech p r c (λi j=>f i j%p) F pv):=by
 have hpb:=hp.1;have oe:=hR.rd.one;refine Av func58 ntmps58 Y Y (λw0 hw0=>?_);simp only[A3];refine Aw (AY [_,_,_] Y Y (by rfl) Y Y Y (λg2=>Qm Y (Ap (AB λh1 l1 hS2=>?_))));have hR1:=hR.up l1;have gS2:∀ms,Seg h1 ms (⟨g2,0,none⟩:Addr) [.int .i64 r,.int .i64 c,ev]:=λms=>hS2.any;have eD:∀ms,Cell h1 ms (⟨gp,0,none⟩:Addr) (.int .i64 p):=λms=>(hD ms).le l1
 have hbm:∀x∈DS r c f,-256<x/\x<256:=λx hx=>by
  unfold DS at hx;obtain⟨k,hk,rfl⟩:=List.mem_map.1 hx;have hk:=List.mem_range.1 hk
  have hc0:0<c:=by
   rcases Nat.eq_zero_or_pos c with h|h
   ·subst h;simp at hk
   ·exact h
  exact hb _ (Nat.div_lt_of_lt_mul (by rw[Nat.mul_comm];exact hk)) _ (Nat.mod_lt _ hc0)
 refine Aw (Ql Y U3 (eD _) (Qx (oG Y Of D5 (gS2 _)) Y (Qc call60 Y (Yt p r c hp hp2 hr hc (DS r c f) (DR r c f) hbm ev h1 hR1) (λz h2 ms2 l2 hF=>?_))));obtain⟨l2',eu,m,rfl,rfl,hO⟩:=hF;rw[Yo]at hO;refine A5 hO λh3 l3 hQ=>?_;have hRt:RtM p r c (λi j=>f i j%p):=⟨hp,by omega,by omega,λi _ j _=>⟨Int.emod_nonneg _ (by omega),Int.emod_lt_of_pos _ (by omega)⟩⟩
 refine Qc call59 Y (VB p r c _ eu h3 hRt hQ) (λz h4 ms4 l4 hF=>?_);obtain⟨l4',rfl,F,pv,rfl,hE⟩:=hF;refine Qm Y (Ap (Aq ?_));exact Az Y Y (⟨AI l1 (AI l2' (AI l3 l4')),Y,F,pv,Y,hE⟩)
end Go.Proofs.Q
