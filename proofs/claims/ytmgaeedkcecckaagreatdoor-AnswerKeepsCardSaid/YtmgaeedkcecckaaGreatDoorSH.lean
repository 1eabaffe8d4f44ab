/- A part of the proof. -/
import Derived.Test.YtmgaeedkcecckaaGreatDoorSG
import Derived.Laws.StructEq
import Derived.ChangeKeysEq
set_option linter.unusedSimpArgs false
set_option linter.unusedVariables false
set_option linter.unusedSectionVars false
set_option maxRecDepth 100000
set_option maxHeartbeats 4000000
open List (length_map length_singleton getElem_mem replicate length_append nil_append length_take mem_cons cons_append map_append length_nil length_drop take_succ_eq_append_getElem append_nil take_length filter_append take_of_length_le)
namespace Go.Proofs.Q
open Go.Proofs.Tryz
open Go.Eng Go.RowKit
section
open Go.Lin Go.Wd Go.Sm Go.Ch
def DV(S:List (Int×(Int×Int)))(a:List Tm):List Tm:=(S.filter λp=>decide (cf a p.1≠0)).map λp=>(p.2.1,cf a p.1*p.2.2)
theorem M7(S:List (Int×(Int×Int)))(a:List Tm)(p:Int×(Int×Int)):DV (S++[p]) a=DV S a++if cf a p.1≠0 then [(p.2.1,cf a p.1*p.2.2)] else []:=by unfold DV;rw[filter_append,cz];congr 1;by_cases h:cf a p.1=0<;>simp[h]
theorem NG(S S2:List (Int×(Int×Int)))(a:List Tm):DV (S++S2) a=DV S a++DV S2 a:=by unfold DV;rw[filter_append,cz]
theorem Uc(S:List (Int×(Int×Int)))(a:List Tm)(k:Nat):Bi (DV (S.take k) a)<=Bi (DV S a):=by
 have h:DV S a=DV (S.take k) a++DV (S.drop k) a:=by rw[<-NG,List.take_append_drop]
 rw[h,Bp];omega
theorem AdV(S:List (Int×(Int×Int)))(a:List Tm):(DV S a).length<=S.length:=by unfold DV;rw[bb];exact fj _ _
structure CxS(v:Value)(h:Hp)(l:List Ce):Prop where
 rd:RdC h v l
 len:l.length<=1000
 sdn:∀x∈l,x.c.sd.length<=1000
 tot:(A8 (l.map Ce.c)).length<=100000
 ids:∀x∈l,Cb x.c.id
 sds:∀x∈l,∀s∈x.c.sd,Cb s.1/\Cb s.2
theorem CxS.up{v:Value}{h a:Hp}{l:List Ce}(X:CxS v h l)(q:h.le a):CxS v a l:=⟨X.rd.up q,X.len,X.sdn,X.tot,X.ids,X.sds⟩
theorem CxS.mem{v:Value}{h:Hp}{l:List Ce}(X:CxS v h l){p:Int×(Int×Int)}(e:p∈A8 (l.map Ce.c)):Cb p.1/\Cb p.2.1/\Cb p.2.2:=by obtain⟨c,d,b⟩:=iv.1 e;obtain⟨x,a,rfl⟩:=ai.1 d;obtain⟨s,f,rfl⟩:=ai.1 b;exact⟨X.ids x a,X.sds x a s f⟩
theorem neW{x:Int}:decide (Ba x.natAbs≠[])=decide (x≠0):=by
 by_cases h:x=0
 .subst h;simp[bys_nil]
 .have:Ba x.natAbs≠[]:=λe=>h (by have:=bys_nil.1 e;omega);simp[h,this]
theorem PH{n:Int}(h:Cb n):Sz n:=Sz.of (B:=64) (show n.natAbs<2^64 by have:=h.1;have:=h.2;omega) H
theorem XG(v:Value)(n:Nat)(cs:List Value)(h:Hp)(c:Rd h [] v 3 n cs):FnT prog 140 #[.agg #[v]] h [] (λr b a=>h=b/\∃g,r=.func (.func 174) #[] #[.pointer (some ⟨g,0,none⟩)]/\a=[BE g 27 [v]]):=by have f:=c.one;refine Au func140 ntmps140 Y Y<|λ_ _=>U<|AK [_] Y Y ξ Y Y Y<|λe=>G Y<|BF<|E (BI Y Y Y) Y<|J Y<|Aj<|Ar Y Y (⟨Y,_,Y,Y⟩)
theorem FI(v va:Value)(l:List Ce)(a:List Tm)(h:Hp)(X:CxS v h l)(A:ChR va h a)(hB:Bi (DV (A8 (l.map Ce.c)) a)<2^2000000) :
  FnT prog 87 #[.agg #[v],va] h [] (λr f ms'=>h.le f/\ms'=[]/\CanR (DV (A8 (l.map Ce.c)) a) r f):=by
 have ov:=X.rd.q.rd.one;obtain⟨aa,ac,rfl,_⟩:=A.rd.rd.ex;refine Fw func87 ntmps87 Y Y<|λ_ _=>U<|AK [_] Y Y ξ Y Y Y<|λg2=>J Y<|AH λh1 l1 hS2=>?_;have hfl:([a]:List (List Tm)).flatten=a:=by simp
 refine U<|G Y<|AB [_] Y RN DO Y ξ Y Y Z Y Y Y<|λg11=>Bm λh2 l2 hS=>?_;have l02:=N l1 l2;refine Qc call92 Y (Ik _ [_] [a] h2 (RdL.built hS Y Y Hc H) Y σ (λi hi=>by rcases i with _|i;exact A.up l02;simp at hi) (by rw[hfl];exact A.abs))<|λvm h3 ms3 l3 t=>?_;obtain⟨l3',gT,m,bs,rfl,rfl,O⟩:=t;rw[hfl]at O;refine CU λh4 l4 lm=>DJ (K:=kN) (V:=WD) (Ok:=Cb) Y Y Y Y<|λQ m0 O0=>BJ [.map none] Y Ma Y Y<|λg5=>BJ [.map none] Y Ma Y Y<|λg6=>Bl 1 0 Y Ma Y Y ξ Y Y H Y Y<|Bl 0 0 Y Ma Y Y ξ Y Y H Y Y<|Ao<|Ak 0 Y λh5 l5 hS6=>Ak 0 Y λh6 l6 hS5=>?_
 have y:=N l5 l6;have l06:=N l02 (N l3' (N l4 y));have c5:∀f,h6.le f->∀b,Cell f b (⟨g5,0,none⟩:Addr) (.map (some gT)):=λf l b=>((hS5.at0 Y).any).le l;have c6:∀f,h6.le f->∀b,Cell f b (⟨g6,0,none⟩:Addr) (.map (some Q)):=λf l b=>((hS6.at0 Y).any).le (N l6 l);have s2:∀b,Seg h6 b (⟨g2,0,none⟩:Addr) [v]:=λb=>(hS2.le (N l2 (N l3' (N l4 y)))).any;have X6:=X.up l06;refine Ac<|U<|E (oG Y CV Bd<|s2 _) Y<|Qc call140 Y (XG v _ _ h6 X6.rd.q.rd)<|λvf h7 ms7 l7 t=>?_;obtain⟨rfl,gs,rfl,rfl⟩:=t;refine Ao<|Ag<|AH λh8 M hGs=>?_;have X8:=X6.up M;have l08:=N l06 M;have hm8:=N lm (N y M);have hI:=Qd gs v l h8 (hGs 0 _ Y) X8.rd X8.len X8.sdn;obtain⟨S,g⟩:∃S,A8 (l.map Ce.c)=S:=⟨_,Y⟩
 have hSt:S.length<=100000:=g ▸ X.tot;have T:∀p∈S,Cb p.1/\Cb p.2.1/\Cb p.2.2:=λp hp=>X.mem (g ▸ hp);rw[g]at hB ⊢ hI;refine F8 (λk hh b=>∃c e,b=[c]/\CM kN WD Q Cb c (JW (DV (S.take k) a)) e) (λk s1 hh b=>∃K c e,s1=[(5,.pt g5),(6,.pt g6),(7,.w (S.getD k default).1),(8,.pt K)]/\b=[c]/\CM kN WD Q Cb c (JW (DV (S.take k) a)) e/\Seg hh [] (⟨K,0,none⟩:Addr) (cD (S.getD k default).2)) Y call174 hI (λk=>rfl) Y ?_ ?_ ?_ ?_
 .exact⟨m0,[],Y,O0⟩
 .rintro w1 k hh ms1 hk B ⟨c,e,rfl,u⟩;rw[show NZ (l.map Ce.c) k=[.w (S.getD k default).1,.agg (cD (S.getD k default).2).toArray] by unfold NZ;rw[g]];refine Dq<|Bj κ<|G Y<|Am<|B9<|Bj κ<|BJ [.w 0,.w 0] Y B5 Y Y<|λK=>?_;refine Sa 0 [_,_] B5 Y (by simp[Value.oneCell']) ?_;refine Am<|HP λL P d=>?_;exact AI _ ⟨_,c,e,Y,Y,u,d⟩ Qs
 .rintro w1 k s1 hh ms1 hk B ⟨K,c,e,rfl,rfl,u,d⟩;obtain⟨p,hp⟩:∃p,S.getD k default=p:=⟨_,Y⟩
  have hpS:S[k]=p:=by rw[<-hp];simp[List.getD,hk]
  have hpm:p∈S:=hpS ▸ aq hk;have n:=T p hpm;have s:S.take (k+1)=S.take k++[p]:=by rw[ap hk,hpS]
  rw[hp]at d ⊢;obtain⟨x,hx⟩:∃x,cf a p.1=x:=⟨_,Y⟩
  have hxk:(BO (JW a) p.1).getD 0=x:=by rw[<-hx];exact Fo a p.1
  have hxs:Sz x:=by rw[<-hx];exact Mo (Dc _ _) A.abs H
  have osx:=AA (Ba x.natAbs);have oss:=AA (Ba p.2.2.natAbs);have osm:=AA (Ba (x*p.2.2).natAbs);have hm:=N hm8 B;refine Ex<|Dq<|Bj κ<|Ql Y It (c5 _ (N M B) _)<|G Y<|E (DX (V:=WD) (z:=(0:Int)) p.1 hxk BL O hm Y It Ot Y Y n.1) Y<|BJ [.bool false,.es] Y Av Y Y<|λg9=>?_;refine Sa 0 [_,_] Av Y (by simp[ov,osx,oss,osm]) ?_;refine Am<|B9<|NW λL P R=>?_;have lh9:=N (N M B) P;have d9:=qC 1 R Y;refine Dq<|Bj κ<|Qf EZ Y<|Ql Y U9 (d9 _)<|E (DY (HL (l':=[]) Y Y Y)<|bh Value.bool neW) Y<|Am<|B9<|Na Y (λj=>?_)<|λj=>?_
  .have e8:∀b,Cell L b ((⟨K,0,none⟩:Addr).add 0) (.w p.2.1):=λb=>((d 0 _ Y).any).le P;have f8:∀b,Cell L b ((⟨K,0,none⟩:Addr).add 1) (.w p.2.2):=λb=>((d 1 _ Y).any).le P
   have hbd:Bi (DV (S.take k) a++[(p.2.1,x*p.2.2)])<=Bi (DV S a):=by have:=Uc S a (k+1);rw[s,M7,hx,ah j]at this;exact this
   have hps:Sz (x*p.2.2):=Mo (HU (l:=DV (S.take k) a++[(p.2.1,x*p.2.2)]) (p:=(p.2.1,x*p.2.2)) σ) (dr hbd hB) H
   have hts:Sz (tv (JW (DV (S.take k) a)) p.2.1):=by rw[Fo];exact Mo (Dc _ _) (dr (Uc S a k) hB) H
   refine Lk (n:=9) (bs:=[W,W,W,W,W,W,W,W,lw]) [W,W,W,W,W,W,W,W] Cx κ κ Y Y κ<|QL Y It (c6 _ lh9 _)<|QF Dv Y<|QL Y U3 (e8 _)<|Qp Y (oG Y Bn Av<|R.any)<|QF Ep Y<|QL Y U3 (f8 _)<|Qp Y (As Y call95 Y<|Fy p.2.2 n.2.2 _ _)<|Qp Y (As Y call141 Y<|IV x p.2.2 hxs (PH n.2.2) _ _)<|Qo 8 Y<|AE (pre:=[c]) Y call102 Y (KJ Q c _ e p.2.1 (x*p.2.2) n.2.1 hps hts u L) Y Y Y Y<|λz h10 ms10 l10 t=>?_;obtain⟨rfl,mo',bo',rfl,hO'⟩:=t;refine Qw<|Qe<|Ai ?_;exact AI [] ⟨mo',bo',Y,by rw[s,M7,hx,ah j,KC];exact hO'⟩ fu
  ·refine Ii (Ai ?_);exact AI [] ⟨c,e,rfl,by rw[s,M7,hx,if_neg j,append_nil];exact u⟩ trivial
 .rintro D' hh ms1 B ⟨c,e,rfl,u⟩;rw[bm (show S.length<=S.length from ak _)]at u;have lhh:=N M B;refine D2<|U<|Ql Y It (c6 _ lhh _)<|CU λL P lm9=>?_;refine Qc call103 Y (RD Q c _ e L u lm9 (bl (AdV S a) hSt) (λq hq=>by obtain⟨r,hr,rfl⟩:=ai.1 hq;exact(T r (dp.1 hr).1).2.1) hB)<|λw hA msA lA t=>?_;obtain⟨lA',rfl,C⟩:=t;have oz:w.oneCell'=true:=by obtain⟨_,_,q,_⟩:=C;exact q.rd.rd.one
  refine J Y<|Aj<|Gc 0 (.inr Y) Y<|Ar Y Y (⟨N l08<|N B<|N P lA',Y,C⟩)
def GN(S:List (Int×(Int×Int)))(a:List Tm):List Tm:=(S.filter λp=>decide (cf a p.2.1≠0)).map λp=>(p.1,cf a p.2.1*p.2.2)
theorem Nx(S:List (Int×(Int×Int)))(a:List Tm)(p:Int×(Int×Int)):GN (S++[p]) a=GN S a++if cf a p.2.1≠0 then [(p.1,cf a p.2.1*p.2.2)] else []:=by unfold GN;rw[filter_append,cz];congr 1;by_cases h:cf a p.2.1=0<;>simp[h]
theorem Oj(S S2:List (Int×(Int×Int)))(a:List Tm):GN (S++S2) a=GN S a++GN S2 a:=by unfold GN;rw[filter_append,cz]
theorem Ui(S:List (Int×(Int×Int)))(a:List Tm)(k:Nat):Bi (GN (S.take k) a)<=Bi (GN S a):=by
 have h:GN S a=GN (S.take k) a++GN (S.drop k) a:=by rw[<-Oj,List.take_append_drop]
 rw[h,Bp];omega
theorem AeV(S:List (Int×(Int×Int)))(a:List Tm):(GN S a).length<=S.length:=by unfold GN;rw[bb];exact fj _ _
theorem Pe(v va:Value)(l:List Ce)(a:List Tm)(h:Hp)(X:CxS v h l)(A:ChR va h a)(hB:Bi (GN (A8 (l.map Ce.c)) a)<2^2000000) :
  FnT prog 121 #[.agg #[v],va] h [] (λr f ms'=>h.le f/\ms'=[]/\CanR (GN (A8 (l.map Ce.c)) a) r f):=by
 have ov:=X.rd.q.rd.one;obtain⟨aa,ac,rfl,_⟩:=A.rd.rd.ex;refine Fw func121 ntmps121 Y Y<|λ_ _=>U<|AK [_] Y Y ξ Y Y Y<|λg2=>J Y<|AH λh1 l1 hS2=>?_;have hfl:([a]:List (List Tm)).flatten=a:=by simp
 refine U<|G Y<|AB [_] Y RN DO Y ξ Y Y Z Y Y Y<|λg11=>Bm λh2 l2 hS=>?_;have l02:=N l1 l2;refine Qc call92 Y (Ik _ [_] [a] h2 (RdL.built hS Y Y Hc H) Y σ (λi hi=>by rcases i with _|i;exact A.up l02;simp at hi) (by rw[hfl];exact A.abs))<|λvm h3 ms3 l3 t=>?_;obtain⟨l3',gT,m,bs,rfl,rfl,O⟩:=t;rw[hfl]at O;refine CU λh4 l4 lm=>DJ (K:=kN) (V:=WD) (Ok:=Cb) Y Y Y Y<|λQ m0 O0=>BJ [.map none] Y Ma Y Y<|λg5=>BJ [.map none] Y Ma Y Y<|λg6=>Bl 1 0 Y Ma Y Y ξ Y Y H Y Y<|Bl 0 0 Y Ma Y Y ξ Y Y H Y Y<|Ao<|Ak 0 Y λh5 l5 hS6=>Ak 0 Y λh6 l6 hS5=>?_
 have y:=N l5 l6;have l06:=N l02 (N l3' (N l4 y));have c5:∀f,h6.le f->∀b,Cell f b (⟨g5,0,none⟩:Addr) (.map (some gT)):=λf l b=>((hS5.at0 Y).any).le l;have c6:∀f,h6.le f->∀b,Cell f b (⟨g6,0,none⟩:Addr) (.map (some Q)):=λf l b=>((hS6.at0 Y).any).le (N l6 l);have s2:∀b,Seg h6 b (⟨g2,0,none⟩:Addr) [v]:=λb=>(hS2.le (N l2 (N l3' (N l4 y)))).any;have X6:=X.up l06;refine Ac<|U<|E (oG Y CV Bd<|s2 _) Y<|Qc call140 Y (XG v _ _ h6 X6.rd.q.rd)<|λvf h7 ms7 l7 t=>?_;obtain⟨rfl,gs,rfl,rfl⟩:=t;refine Ao<|Ag<|AH λh8 M hGs=>?_;have X8:=X6.up M;have l08:=N l06 M;have hm8:=N lm (N y M);have hI:=Qd gs v l h8 (hGs 0 _ Y) X8.rd X8.len X8.sdn;obtain⟨S,g⟩:∃S,A8 (l.map Ce.c)=S:=⟨_,Y⟩
 have hSt:S.length<=100000:=g ▸ X.tot;have T:∀p∈S,Cb p.1/\Cb p.2.1/\Cb p.2.2:=λp hp=>X.mem (g ▸ hp);rw[g]at hB ⊢ hI;refine F8 (λk hh b=>∃d e,b=[d]/\CM kN WD Q Cb d (JW (GN (S.take k) a)) e) (λk s1 hh b=>∃K d e,s1=[(5,.pt g5),(6,.pt g6),(7,.w (S.getD k default).1),(8,.pt K)]/\b=[d]/\CM kN WD Q Cb d (JW (GN (S.take k) a)) e/\Seg hh [] (⟨K,0,none⟩:Addr) (cD (S.getD k default).2)) Y call174 hI (λk=>rfl) Y ?_ ?_ ?_ ?_
 .exact⟨m0,[],Y,O0⟩
 .rintro w1 k hh ms1 hk B ⟨d,e,rfl,u⟩;rw[show NZ (l.map Ce.c) k=[.w (S.getD k default).1,.agg (cD (S.getD k default).2).toArray] by unfold NZ;rw[g]];refine Dq<|Bj κ<|G Y<|Am<|B9<|Bj κ<|BJ [.w 0,.w 0] Y B5 Y Y<|λK=>?_;refine Sa 0 [_,_] B5 Y (by simp[Value.oneCell']) ?_;refine Am<|HP λL P c=>?_;exact AI _ ⟨_,d,e,Y,Y,u,c⟩ Qs
 .rintro w1 k s1 hh ms1 hk B ⟨K,d,e,rfl,rfl,u,c⟩;obtain⟨p,hp⟩:∃p,S.getD k default=p:=⟨_,Y⟩
  have hpS:S[k]=p:=by rw[<-hp];simp[List.getD,hk]
  have hpm:p∈S:=hpS ▸ aq hk;have n:=T p hpm;have s:S.take (k+1)=S.take k++[p]:=by rw[ap hk,hpS]
  rw[hp]at c ⊢;obtain⟨x,hx⟩:∃x,cf a p.2.1=x:=⟨_,Y⟩
  have hxk:(BO (JW a) p.2.1).getD 0=x:=by rw[<-hx];exact Fo a p.2.1
  have hxs:Sz x:=by rw[<-hx];exact Mo (Dc _ _) A.abs H
  have osx:=AA (Ba x.natAbs);have oss:=AA (Ba p.2.2.natAbs);have osm:=AA (Ba (x*p.2.2).natAbs);have hm:=N hm8 B;have e80:=qC 0 c Y;refine Ex<|Dq<|Bj κ<|Ql Y It (c5 _ (N M B) _)<|Qf Dv Y<|Ql Y U3 (e80 _)<|E (DX (V:=WD) (z:=(0:Int)) p.2.1 hxk BL O hm Y It Ot Y Y n.2.1) Y<|BJ [.bool false,.es] Y Av Y Y<|λg9=>?_;refine Sa 0 [_,_] Av Y (by simp[ov,osx,oss,osm]) ?_;refine Am<|B9<|NW λL P R=>?_;have lh9:=N (N M B) P;have d9:=qC 1 R Y;refine Dq<|Bj κ<|Qf EZ Y<|Ql Y U9 (d9 _)<|E (DY (HL (l':=[]) Y Y Y)<|bh Value.bool neW) Y<|Am<|B9<|Na Y (λj=>?_)<|λj=>?_
  .have e8:∀b,Cell L b ((⟨K,0,none⟩:Addr).add 0) (.w p.2.1):=λb=>((c 0 _ Y).any).le P;have f8:∀b,Cell L b ((⟨K,0,none⟩:Addr).add 1) (.w p.2.2):=λb=>((c 1 _ Y).any).le P
   have hbd:Bi (GN (S.take k) a++[(p.1,x*p.2.2)])<=Bi (GN S a):=by have:=Ui S a (k+1);rw[s,Nx,hx,ah j]at this;exact this
   have hps:Sz (x*p.2.2):=Mo (HU (l:=GN (S.take k) a++[(p.1,x*p.2.2)]) (p:=(p.1,x*p.2.2)) σ) (dr hbd hB) H
   have hts:Sz (tv (JW (GN (S.take k) a)) p.1):=by rw[Fo];exact Mo (Dc _ _) (dr (Ui S a k) hB) H
   refine Lk (n:=8) (bs:=[W,W,W,W,W,W,W,lw]) [W,W,W,W,W,W,W] Cx κ κ Y Y κ<|QL Y It (c6 _ lh9 _)<|Qq Y<|Qp Y (oG Y Bn Av<|R.any)<|QF Ep Y<|QL Y U3 (f8 _)<|Qp Y (As Y call95 Y<|Fy p.2.2 n.2.2 _ _)<|Qp Y (As Y call141 Y<|IV x p.2.2 hxs (PH n.2.2) _ _)<|Qo 7 Y<|AE (pre:=[d]) Y call102 Y (KJ Q d _ e p.1 (x*p.2.2) n.1 hps hts u L) Y Y Y Y<|λz h10 ms10 l10 t=>?_;obtain⟨rfl,mo',bo',rfl,hO'⟩:=t;refine Qw<|Qe<|Ai ?_;exact AI [] ⟨mo',bo',Y,by rw[s,Nx,hx,ah j,KC];exact hO'⟩ fu
  ·refine Ii (Ai ?_);exact AI [] ⟨d,e,rfl,by rw[s,Nx,hx,if_neg j,append_nil];exact u⟩ trivial
 .rintro D' hh ms1 B ⟨d,e,rfl,u⟩;rw[bm (show S.length<=S.length from ak _)]at u;have lhh:=N M B;refine D2<|U<|Ql Y It (c6 _ lhh _)<|CU λL P lm9=>?_;refine Qc call103 Y (RD Q d _ e L u lm9 (bl (AeV S a) hSt) (λq hq=>by obtain⟨r,hr,rfl⟩:=ai.1 hq;exact(T r (dp.1 hr).1).1) hB)<|λw hA msA lA t=>?_;obtain⟨lA',rfl,C⟩:=t;have oz:w.oneCell'=true:=by obtain⟨_,_,q,_⟩:=C;exact q.rd.rd.one
  refine J Y<|Aj<|Gc 0 (.inr Y) Y<|Ar Y Y (⟨N l08<|N B<|N P lA',Y,C⟩)
theorem NL{P:Program}{d:Nat}(X t:Array Value)(w:World):∀(g:List Field) (c:List (TypeId×Nat×Bool)),g.map (λf=>(decide (f.name ≠ "_"),f.type,f.offset))=c.map (λo=>(true,o.1,o.2.1))->(∀o∈c,∃a b,(part o.1 X o.2.1).run P w=.ok a w/\(part o.1 t o.2.1).run P w=.ok b w/\(Op.equalIn (d+1) o.1 a b).run P w=.ok o.2.2 w)->(Op.eqFields (d+1) X t g).run P w=.ok (c.all λo=>o.2.2) w
 | [],[],_,_=>by simp[Op.eqFields]
 | [],o::c,h,_=>by simp at h
 | f::g,[],h,_=>by simp at h
 | f::g,o::c,h,hc=>by
  simp only[List.map_cons,List.cons.injEq,kg]at h;obtain⟨⟨k,l,m⟩,n⟩:=h;have s:=NL (d:=d) X t w g c n λa p=>hc a (am _ p);obtain⟨a,b,i,j,r⟩:=hc o Mh;unfold Op.eqFields;rw[ah (dd k),l,m];simp only[ep,i,j,dt,r];cases e:o.2.2
  .simp[e]
  .simp[e,s]
theorem AhS:(prog.fieldsOf 33).toList.map (λf=>(decide (f.name ≠ "_"),f.type,f.offset))=[(4,0),(9,1)].map (λo=>(true,o.1,o.2)):=by kernel_rfl
theorem Ahs:(prog.fieldsOf 79).toList.map (λf=>(decide (f.name ≠ "_"),f.type,f.offset))=[(3,0),(33,1)].map (λo=>(true,o.1,o.2)):=by kernel_rfl
theorem pk3:prog.plainKey 3=true:=by kernel_rfl
theorem pk4:prog.plainKey 4=true:=by kernel_rfl
theorem pk9:prog.plainKey 9=true:=by kernel_rfl
theorem egT:prog.eqGuardType prog.depth 79=false:=by kernel_rfl
theorem Ait:prog.underlying 79=some (.struct (prog.fieldsOf 79)):=by kernel_rfl
theorem Aij:prog.underlying 33=some (.struct (prog.fieldsOf 33)):=by kernel_rfl
theorem Ais:prog.stoodInHeld 79=false:=by kernel_rfl
theorem AiI:prog.stoodInHeld 33=false:=by kernel_rfl
theorem AfD{m n:Nat}(h:Ba m=Ba n):m=n:=by
 have b:∀m,(Ba m).reverse.map UInt8.toNat=dg 256 m:=λm=>by
  unfold Ba;rw[<-List.map_reverse,List.reverse_reverse,List.map_map]
  conv=>rhs;rw[<-List.map_id (dg 256 m)]
  refine fg λa c=>?_;have:=FG (b:=256) H m a c;simp;omega
 exact AcA (b:=256) H (by rw[<-b,<-b,h])
theorem Y8{x y:Int}:(decide (x<0)=decide (y<0)/\Ba x.natAbs=Ba y.natAbs)<->x=y:=by
 constructor
 .intro ⟨a,b⟩;have c:x.natAbs=y.natAbs:=AfD b;have d:x<0<->y<0:=fy.1 a;omega
 .rintro rfl;exact⟨Y,Y⟩
theorem AdC(d:Nat)(x y:Int)(w:World):(Op.equalIn (d+2) 33 (WD x) (WD y)).run prog w=.ok (decide (x=y)) w:=by
 have b:=NL (P:=prog) (d:=d) #[.bool (decide (x<0)),sv (Ba x.natAbs)] #[.bool (decide (y<0)),sv (Ba y.natAbs)] w (prog.fieldsOf 33).toList [(4,0,decide (x<0)==decide (y<0)),(9,1,Ba x.natAbs==Ba y.natAbs)] (by rw[AhS];rfl) λo a=>by
  simp only[be,ia,j7]at a;rcases a with rfl|rfl
  .exact⟨_,_,run_part_plain w pk4 Y,run_part_plain w pk4 Y,run_equalIn_bool' w _ 4 _ _ U4⟩
  .refine⟨_,_,run_part_plain w pk9 Y,run_part_plain w pk9 Y,?_⟩;have:=run_equalIn_string (P:=prog) w d 9 ⟨(Ba x.natAbs).toArray⟩ ⟨(Ba y.natAbs).toArray⟩ U9;simpa[sv,ByteArray.toList_eq] using this
 show(Op.equalIn (d+1+1) 33 (.agg _) (.agg _)).run prog w=_;rw[run_equalIn_agg w (d+1) 33 _ _ Aij AiI,b];congr 1;rw[ki,gk];show((decide (x<0)==decide (y<0))&&((Ba x.natAbs==Ba y.natAbs)&&true))=true<->_;simp only[Bool.and_true,df,beq_iff_eq];exact Y8
theorem AfX(p:Tm)(w:World):(part 33 (D6 p).toArray 1).run prog w=.ok (WD p.2) w:=by
 have a:(isAgg 33).run prog w=.ok true w:=by rw[Dn Aij];rfl
 have b:(sizeOf 33).run prog w=.ok 2 w:=(Av).sizeOf w;simp only[part,ep,a,dt,if_true,b,fl];rfl
theorem Aeh(d:Nat)(p q:Tm)(w:World):(Op.equalIn (d+3) 79 (.agg (D6 p).toArray) (.agg (D6 q).toArray)).run prog w=.ok (decide (p=q)) w:=by
 have g:=NL (P:=prog) (d:=d+1) (D6 p).toArray (D6 q).toArray w (prog.fieldsOf 79).toList [(3,0,p.1==q.1),(33,1,decide (p.2=q.2))] (by rw[Ahs];rfl) λo a=>by
  simp only[be,ia,j7]at a;rcases a with rfl|rfl
  .exact⟨_,_,run_part_plain w pk3 Y,run_part_plain w pk3 Y,run_equalIn_int w _ 3 .i64 .i64 _ _ U3⟩
  .exact⟨_,_,AfX p w,AfX q w,AdC d _ _ w⟩
 rw[run_equalIn_agg w (d+2) 79 _ _ Ait Ais,g];congr 1;obtain⟨b,c⟩:=p;obtain⟨e,f⟩:=q;rw[ki,gk,kg];show((b==e)&&(decide (c=f)&&true))=true<->_;simp only[Bool.and_true,df,beq_iff_eq,gk]
theorem Adx{o:Oper}{s:AG}{h:Hp}{j:List Hp}{x y:Operand}{u:TypeId}(a b:Tm)(f:o.op=.binOp .neq 79 x y u)(g:ev s x=some (.agg (D6 a).toArray))(i:ev s y=some (.agg (D6 b).toArray)):OX prog o s h j (.bool (decide (a≠b))):=
 Bz λρ w c _=>by
  have d:=Aeh 9997 a b w;have e:(!decide (a=b))=decide (a≠b):=by simp
  simp only[execOp,f,c _ _ g,c _ _ i];simp only[ep,run_eqGuard_agg w _ _ _ _ _ _ egT,run_neq_struct,d,e,dt,fl]
theorem Acs(a b:List Tm)(m n:Value)(h:Hp)(f:RdL D6 3 h [] m a)(g:RdL D6 3 h [] n b)(d:List Hp):FnV prog 164 #[m,n] h d (.bool (decide (a=b))):=by
 refine D9 ?_ d;have A:=f.len_le;have B:=g.len_le;have K:=f.rd.one;have L:=g.rd.one;refine Au func164 ntmps164 Y Y<|λ_ _=>U<|J Y<|X<|U<|G Y<|E (Aw f.rd.any Y Ct Y) Y<|G Y<|E (Aw g.rd.any Y Ct Y) Y<|J Y<|Ay Y (λc=>?_)<|λc=>?_
 .refine X<|Ad<|J Y<|Aj<|Ae ?_;exact Ar Y Y (by rw[dx];intro e;rw[e]at c;exact c Y)
 .have x:a.length=b.length:=Z
  refine I<|X<|U<|G Y<|E (Aw f.rd.any Y Ct Y) Y<|J Y<|Ag ?_
  refine AC (λq s t l=>∃(k:Nat),q=a.length-k/\s=[(0,m),(1,n),(11,m),(12,.w a.length),(13,.w k)]/\h=t/\l=[]/\k<=a.length/\a.take k=b.take k)
   (a.length-0) _ ⟨0,rfl,rfl,rfl,rfl,Z,rfl⟩ Qs ?_
  rintro q s t l ⟨k,rfl,rfl,rfl,rfl,z,p⟩;refine U<|J Y<|X<|Ay Y (λr=>?_)<|λr=>?_
  .have i:k<a.length:=Z
   have j:k<b.length:=Z
   have u:∀d,Seg h d ((AJ m).add (k*3)) (D6 a[k]):=λd=>(f.any (ms:=d)).seg i;have v:∀d,Seg h d ((AJ n).add (k*3)) (D6 b[k]):=λd=>(g.any (ms:=d)).seg j;refine I<|X<|Ag<|U<|G Y<|J Y<|X<|BK 8 Cx V Y<|Wm Y<|Wm Y<|BS (BP (k) f.rd.any Y Ct Cv Y Y) Y Y<|BS (oG Y U79 Cv<|u _) Y Y<|Wm Y<|Wm Y<|BS (BP (k) g.rd.any Y Ct Cv Y Y) Y Y<|BS (oG Y U79 Cv<|v _) Y Y<|BB<|E (Adx a[k] b[k] Y Y Y) Y<|Ao<|Ay Y (λc=>?_)<|λc=>?_
   .refine X<|Ad<|J Y<|Aj<|An<|Ae<|Ae<|An<|Ae ?_;exact Ar Y Y (by rw[dx];rintro rfl;exact c Y)
   .refine Ah<|D2<|Ad<|E (oA Y) Y<|G Y<|Am<|Aq (a.length-(k+1)) _ Z ⟨k+1,Y,Y,Y,Y,Z,?_⟩ Qs;rw[j9,j9,p,aj i,aj j,Decidable.not_not.1 c]
  .obtain rfl:k=a.length:=Z
   refine C<|Ab<|U<|J Y<|Aj ?_;exact Ar Y Y (by rw[fz,x,fz]at p;rw[bp p])
noncomputable def eqC(a b:List Tm):Bool:=@decide (∀c,cf a c=cf b c) (Classical.propDecidable _)
theorem Q6(a b:List Tm):eqC a b=true<->∀c,cf a c=cf b c:=@gk _ (Classical.propDecidable _)
theorem Zf(p s:Value)(a b:List Tm)(h:Hp)(A:ChR p h a)(B:ChR s h b)(n:List Hp):FnV prog 113 #[p,s] h n (.bool (eqC a b)):=by
 refine D9 ?_ n;obtain⟨M,O,rfl,_⟩:=A.rd.rd.ex;obtain⟨P,Q,rfl,_⟩:=B.rd.rd.ex;refine Au func113 ntmps113 Y Y<|λ_ _=>U<|G Y<|BF<|G Y<|Qc call138 Y (JE _ a h A)<|λx u K R g=>?_;obtain⟨i,rfl,C⟩:=g;obtain⟨l,k,m,_,_⟩:=C;refine G Y<|Qc call138 Y (JE _ b u<|B.up i)<|λy v L S g=>?_;obtain⟨j,rfl,C⟩:=g;obtain⟨r,d,f,_,_⟩:=C;have T:=m.rd.rd.one;have oy:=f.rd.rd.one;refine E (As Y call164 Y<|Acs l r x y v (m.rd.up j) f.rd _) Y<|J Y<|Aj ?_;have e:l=r<->∀c,cf a c=cf b c:=⟨λe c=>by rw[<-k.cf_eq,<-d.cf_eq,e],λe=>k.ext d e⟩
 have t:decide (l=r)=eqC a b:=by rw[ki,Q6,gk];exact e
 exact Ar Y Y<|bh Value.bool t
theorem Z4(va vb:Value)(a b:List Tm)(h:Hp)(A:ChR va h a)(B:ChR vb h b)(hP:Bi a*Bi b<2^2000000):FnT prog 124 #[va,vb] h [] (λr c d=>h.le c/\d=[]/\r=WD (lin (cf a) b)):=by
 obtain⟨aa,ac,rfl,_⟩:=A.rd.rd.ex;obtain⟨ba,bc,rfl,_⟩:=B.rd.rd.ex;have u:([a]:List (List Tm)).flatten=a:=by simp
 refine Au func124 ntmps124 Y Y<|λ_ _=>U<|BJ [.bool false,.es] Y Av Y Y<|λg4=>BF<|G Y<|AB [_] Y RN DO Y ξ Y Y Z Y Y Y<|λg10=>Bm λh2 l2 hS=>?_;refine Qc call92 Y (Ik _ [_] [a] h2 (RdL.built hS Y Y Hc H) Y σ (λi hi=>by rcases i with _|i;exact A.up l2;simp at hi) (by rw[u];exact A.abs))<|λvm h3 ms3 l3 hF=>?_;obtain⟨l3',gT,m,bs,rfl,rfl,O⟩:=hF;rw[u]at O;refine CU λh4 l4 lm=>?_;have K:=N l2 (N l3' l4);refine G Y<|BF<|BJ [.bool false,.es] Y Av Y Y<|λg6=>Ao<|X<|U<|G Y<|Qc call138 Y (JE _ b h4<|B.up K)<|λvl h5 ms5 l5 hF=>?_;obtain⟨L,rfl,C⟩:=hF;obtain⟨l,CL,j,hab,_⟩:=C;have ol:=j.rd.rd.one;have z:=CL.lin_eq (cf a);obtain⟨n,hn⟩:∃n,l.length=n:=⟨_,Y⟩
 have rL:∀c,h5.le c->Rd c [] vl 3 n (l.flatMap D6):=λc q=>by have:=(j.rd.up q).rd;rwa [hn]at this
 have p:Bi a*Bi l<2^2000000:=dr (i6 _ hab) hP;have hsz:∀k,Sz (lin (cf a) (l.take k)):=λk=>Mo (bl (MM (Dc a) _) (i6 _ (Gw l k))) p H;refine E (Aw (rL _<|Bk).any Y Ct Y) Y<|J Y<|Ag<|AC (λq sl c d=>∃(k:Nat),n-k=q/\sl=[(4,.pt g4),(5,.map (some gT)),(6,.pt g6),(13,vl),(14,.w n),(15,.w k)]/\h5.le c/\d=[BE g6 33 (Bg (lin (cf a) (l.take k))),BE g4 33 (Bg 0)]/\k<=n) (n-0) _ ⟨0,Y,Y,Bk,Y,Z⟩ Qs ?_;rintro q sl c d ⟨k,rfl,rfl,M,rfl,hk⟩;refine U<|J Y<|X<|Ay Y (λhlt=>?_)<|λhlt=>?_
 .have hkn:k<n:=Z
  have e:k<l.length:=Z
  obtain⟨t,ht⟩:∃t,l[k]=t:=⟨_,Y⟩
  have f:t∈l:=ht ▸ aq e;have gE:∀g,Seg c g ((AJ vl).add (k*3)) (D6 t):=λg=>by rw[<-ht];exact((j.rd.up M).any (ms:=g)).seg e
  obtain⟨x,hx⟩:∃x,cf a t.1=x:=⟨_,Y⟩
  have hxk:(BO (JW a) t.1).getD 0=x:=by rw[<-hx];exact Fo a t.1
  have hxs:Sz x:=by rw[<-hx];exact Mo (Dc _ _) A.abs H
  obtain⟨y,hy⟩:∃y,lin (cf a) (l.take k)=y:=⟨_,Y⟩
  have hys:Sz y:=hy ▸ hsz k;have etk:lin (cf a) (l.take (k+1))=y+x*t.2:=by rw[ap e,ht,D1,hy];show _+(cf a t.1*t.2+0)=_;rw[hx];omega
  have hps:Sz (x*t.2):=Mo (n:=Bi a*Bi l) (by rw[jv,<-hx];exact fx (Dc a _)<|HU f) p H;have S:=AA (Ba x.natAbs);have T:=AA (Ba y.natAbs);have R:=AA (Ba t.2.natAbs);have P:=AA (Ba (x*t.2).natAbs);have Q:=AA (Ba (y+x*t.2).natAbs);rw[hy];refine I<|X<|Ag<|U<|E (AR (k) (rL _ M).any Y Ct Cv Y Y Z Z) Y<|E (oG Y U79 Cv<|gE _) Y<|BJ [.w 0,.bool false,.es] Y Cv Y Y<|λg8=>?_;refine Sa 0 [_,_,_] Cv Y (by simp[ol,S,T,R,P,Q]) ?_;refine Ao<|AH λh6 l6 s=>?_
  have sg8:∀g,Seg h6 g ((⟨g8,0,none⟩:Addr).add 1) (Bg t.2):=λg i v hv=>by
   have:=(s (1+i) v (by rw[ij];exact hv)).any (ms:=g)
   rwa [BD]
  have c8:=qC 0 s Y;have hm6:m.le h6:=N lm (N L (N M l6));refine AS (n:=10) (bs:=[lw,W,W,W,W,W,W,W,lw,lw]) [lw,W,W,W,W,W,W,W] Cx κ κ Y Y<|Qq Y<|QF Gr Y<|QL Y U3 (c8 _)<|Qp Y (DX (V:=WD) (z:=(0:Int)) t.1 hxk BL O hm6 Y It Ot Y Y<|j.ids t f)<|QF Ic Y<|Qp Y (oG Y Bn Av<|sg8 _)<|Qp Y (As Y call141 Y<|IV x t.2 hxs (j.sz f) _ _)<|Qo 0 Y<|E (oG Y Bn Av<|Seg.blk 0 Y) Y<|Qw<|Qo 8 Y<|E (As Y call156 Y<|Nz y (x*t.2) hys hps _ _) Y<|Qw<|Qo 9 Y ?_;refine Sa 0 [_,_] Av Y (by simp[ol,S,T,R,P,Q]) ?_;refine Qw<|Qe<|D2<|Ad<|E (oA Y) Y<|G Y<|Am ?_;exact Aq (n-(k+1)) _ Z ⟨k+1,Y,Y,N M l6,(by rw[etk];rfl),Z⟩ Qs
 .obtain rfl:k=n:=Z
  rw[show l.take k=l from bm Z,z];have osf:=AA (Ba (lin (cf a) b).natAbs);refine Br<|Ab<|U<|E (oG Y Bn Av<|Seg.blk 0 Y) Y ?_;refine Sa 1 [_,_] Av Y (by simp[ol,AA,osf]) ?_;refine Ao<|Aj<|AU<|BC (vs:=[_,_]) 0 Y Y Bn Y Av Y Y (⟨N K<|N L M,Y,Y⟩)
theorem RgC.ids_mem{l:List Ce}(K:RgC l){d:Int}{i:Int}(h:i∈((cn l).filter λc=>decide (c.dim=d)).map Cl.id):Cb i:=by obtain⟨c,a,rfl⟩:=ai.1 h;exact K.cI (dp.1 a).1
theorem AaT(l:List Ce)(v:Value)(d:Int)(b:Hp)(g:RgC l)(h:RdC b v l) :
  FnT prog 85 #[.agg #[v],.w d] b [] (λr f a=>b.le f/\a=[]/\RdL cI 1 f [] r (((cn l).filter λc=>decide (c.dim=d)).map Cl.id)):=
 FnT.frz (VX l v d b g h) λr f a ⟨q,m,e,O⟩=>⟨m,[],e,λk i j=>⟨N q i,rfl,O.rdh j⟩⟩
theorem Zv(l:List Ce)(v va:Value)(d:Int)(a:List Tm)(h:Hp)(hK:RgC l)(X:CxS v h l)(A:ChR va h a)(T:EL (l.map Ce.c) d a=true)(ids:List Int)(f:((cn l).filter λc=>decide (c.dim=d)).map Cl.id=ids)(hil:ids.length<=100000) :
  FnT prog 44 #[.agg #[v],.w d,va] h [] (λw b e=>h.le b/\e=[]/\∃r,w=.tuple #[r,.bool true]/\RdL Bg 2 b [] r (ids.map (cf a))):=by
 have ov:=X.rd.q.rd.one;obtain⟨aa,ac,rfl,_⟩:=A.rd.rd.ex;have p:([a]:List (List Tm)).flatten=a:=by simp
 refine Au func44 ntmps44 Y Y<|λ_ _=>U<|AK [_] Y Y ξ Y Y Y<|λg3=>G Y<|J Y<|AH λh1 B Q=>?_;have s3:=qT Q;have K:=X.up B;refine Ac<|U<|E (oG Y CV Bd<|s3 _ (Bk) _) Y<|D Y Y ?_;refine E (As Y call86 Y ((by have:=NP l v (.slice aa a.length ac) d a h1 K.rd K.len K.ids (A.up B);rw[T]at this;exact this _))) Y ?_;refine J Y<|AM Y<|I<|U<|G Y<|AB [_] Y RN DO Y ξ Y Y Z Y Y Y<|λg18=>Bm λh2 l2 hS=>?_;have l02:=N B l2;refine Qc call92 Y (Ik _ [_] [a] h2 (RdL.built hS Y Y Hc H) Y σ (λi hi=>by rcases i with _|i;exact A.up l02;simp at hi) (by rw[p];exact A.abs))<|λvm h3 ms3 l3 M=>?_;obtain⟨l3',gT,m,bs,rfl,rfl,O⟩:=M;rw[p]at O;refine CU λh4 l4 lm=>?_;have t:=N l2 (N l3' l4);have s:=N B t;refine G Y<|BF<|J Y<|Ac<|U<|E (oG Y CV Bd<|s3 _ t _) Y<|G Y<|Qc call85 Y (AaT l v d h4 hK (X.up s).rd)<|λvi h5 ms5 l5 M=>?_;obtain⟨u,rfl,y⟩:=M;rw[f]at y;have oi:=y.rd.one;obtain⟨n,hn⟩:∃n,ids.length=n:=⟨_,Y⟩
 have rI:∀b,h5.le b->Rd b [] vi 1 n (ids.flatMap cI):=λb q=>by have:=(y.up q).rd;rwa [hn]at this
 refine E (Aw (rI _<|Bk).any Y Bb Y) Y<|J Y<|Ag<|BW<|AC (λq sl b e=>∃(k:Nat) (w:Value) (mo:Hp),n-k=q/\sl=[(8,.map (some gT)),(9,w),(22,vi),(23,.w n),(24,.w k)]/\h5.le b/\e=[mo]/\k<=n/\OwnL Bg 2 33 mo w ((ids.take k).map (cf a))) (n-0) _ ⟨0,_,_,Y,Y,Bk,Y,Z,OwnL.nil FF⟩ Qs ?_;rintro q sl b e ⟨k,w,mo,rfl,rfl,x,rfl,hk,z⟩;have ow:=z.o1;have hol:((ids.take k).map (cf a)).length<=1000000:=by rw[bb,bf];omega
 refine U<|J Y<|Ac<|Ay Y (λhlt=>?_)<|λhlt=>?_
 .have hkn:k<n:=Z
  have g:k<ids.length:=Z
  obtain⟨c,R⟩:∃c,ids[k]=c:=⟨_,Y⟩
  have S:Cb c:=RgC.ids_mem hK (d:=d) (by rw[f,<-R];exact aq g);have L:(ids.take (k+1)).map (cf a)=(ids.take k).map (cf a)++[cf a c]:=by rw[ap g,R,cz];rfl
  have cE:∀ms,Cell b ms ((AJ vi).add (k*1)) (.w c):=λms=>by rw[<-R];exact((y.up x).any (ms:=ms)).cell0 g Y
  have hxk:(BO (JW a) c).getD 0=cf a c:=Fo a c;have osc:=AA (Ba (cf a c).natAbs);have hm':m.le b:=N lm (N u x);refine I<|Ac<|Ag<|U<|E (AR (k) (rI _ x).any Y Bb By Y Y Z Z) Y<|Ql Y U3 (cE _)<|G Y<|HM<|D Y Y<|G Y<|E (DX (V:=WD) (z:=(0:Int)) c hxk BL O hm' Y It Ot Y Y S) Y<|AB [_,_] Y CJ Av Y ξ Y Y Z Y Y Y<|λg32=>AL 1 z (RdL.one FF (x:=cf a c) Mh Y) Y CJ Av Y Z Y Y Y E8 (by simp only[ae];omega) (by simp only[ae];omega) rfl rfl rfl<|λw2 mo2 j=>?_;have ow2:=j.o1;refine G Y<|Am<|D2<|Ad<|E (oA Y) Y<|G Y<|Am<|AU ?_;exact Aq (n-(k+1)) _ Z ⟨k+1,w2,mo2,Y,Y,x,Y,Z,by rw[L];exact j⟩ Qs
 .obtain rfl:k=n:=Z
  rw[show ids.take k=ids from bm Z]at z;refine C<|Ab<|U<|D Y Y<|J Y<|Aj<|Dr z λh8 l8 P=>?_;exact Cw Y Y Y (⟨N s<|N u<|N x l8,Y,w,Y,P⟩)
theorem Pa{ids a:List Int}{k:Nat}(b:k<ids.length)(c:k<a.length):(ids.zip a).take (k+1)=(ids.zip a).take k++[(ids[k],a[k])]:=by rw[ap (by rw[List.length_zip];omega),List.getElem_zip]
theorem Adr(l:List Ce)(v K:Value)(d:Int)(a:List Int)(h:Hp)(hK:RgC l)(X:CxS v h l)(ids:List Int)(g:((cn l).filter λc=>decide (c.dim=d)).map Cl.id=ids)(R:RdL Bg 2 h [] K a)(hx:a.length=ids.length)(hil:ids.length<=100000)(T:Bi (ids.zip a)<2^2000000) :
  FnT prog 47 #[.agg #[v],.w d,K] h [] (λw b f=>h.le b/\∃r B m,w=.tuple #[r,.bool true]/\f=[m]/\OwnL D6 3 79 m r B/\CanL B (cf (ids.zip a))/\B.length<=(ids.zip a).length):=by
 have ov:=X.rd.q.rd.one;have ox:=R.rd.one;obtain⟨n,hn⟩:∃n,ids.length=n:=⟨_,Y⟩
 have hxn:a.length=n:=Z
 have rX:∀b,h.le b->Rd b [] K 2 n (a.flatMap Bg):=λb q=>by have:=(R.up q).rd;rwa [hxn]at this
 refine Au func47 ntmps47 Y Y<|λ_ _=>U<|AK [_] Y Y ξ Y Y Y<|λg3=>G Y<|J Y<|AH λh1 l1 S=>?_;have s3:=qT S;refine U<|E (oG Y CV Bd<|s3 _ (Bk) _) Y<|G Y<|Qc call85 Y (AaT l v d h1 hK (X.up l1).rd)<|λvi h5 ms5 l5 u=>?_;obtain⟨l5',rfl,L⟩:=u;rw[g]at L;have oi:=L.rd.one;have e:=N l1 l5';have rI:∀b,h5.le b->Rd b [] vi 1 n (ids.flatMap cI):=λb q=>by have:=(L.up q).rd;rwa [hn]at this
 refine J Y<|Ac<|U<|G Y<|E (Aw (rI _<|Bk).any Y Bb Y) Y<|G Y<|E (Aw (rX _ e).any Y CJ Y) Y<|J Y<|Ay Y (λi=>lj i σ)<|λi=>I<|U<|DJ (K:=kN) (V:=WD) (Ok:=Cb) rfl rfl rfl rfl<|λM m0 O0=>G rfl<|Ao<|Ac<|U<|G rfl<|E (Aw (rI _<|Bk).any rfl Bb rfl) rfl<|G rfl<|Ao<|Ag<|AC (λq sl b f=>∃(k:Nat) (m:Hp) (bs:List Nat),n-k=q/\sl=[(2,K),(9,.map (some M)),(21,vi),(22,.w n),(23,.w k)]/\h5.le b/\f=[m]/\k<=n/\CM kN WD M Cb m (JW ((ids.zip a).take k)) bs) (n-0) _ ⟨0,m0,[],Y,Y,Bk,Y,Z,O0⟩ Qs ?_;rintro q sl b f ⟨k,m,bs,rfl,rfl,t,rfl,hk,O⟩;refine U<|J Y<|Ac<|Ay Y (λhlt=>?_)<|λhlt=>?_
 .have hkn:k<n:=Z
  have j:k<ids.length:=Z
  have y:k<a.length:=Z
  obtain⟨c,i⟩:∃c,ids[k]=c:=⟨_,Y⟩
  obtain⟨x,p⟩:∃x,a[k]=x:=⟨_,Y⟩
  have hcI:Cb c:=RgC.ids_mem hK (d:=d) (by rw[g,<-i];exact aq j);have Q:(ids.zip a).take (k+1)=(ids.zip a).take k++[(c,x)]:=by rw[Pa j y,i,p]
  have hxm:(c,x)∈ids.zip a:=by rw[<-i,<-p,<-List.getElem_zip (h:=by rw[List.length_zip];omega)];exact aq _
  have cE:∀s,Cell b s ((AJ vi).add (k*1)) (.w c):=λs=>by rw[<-i];exact((L.up t).any (ms:=s)).cell0 j Y
  have gE:∀s,Seg b s ((AJ K).add (k*2)) (Bg x):=λs=>by rw[<-p];exact((R.up (N e t)).any (ms:=s)).seg y
  have hxs:Sz x:=Mo (HU hxm) T H;have hts:Sz (tv (JW ((ids.zip a).take k)) c):=by rw[Fo];exact Mo (bl (Dc _ _)<|Gw _ _) T H
  have osx:=AA (Ba x.natAbs);refine I<|Ac<|Ag<|U<|G Y<|E (AR (k) (rI _ t).any Y Bb By Y Y Z Z) Y<|Ql Y U3 (cE _)<|D Y Y<|HM<|D Y Y<|D Y Y<|E (AR (k) (rX _<|N e t).any Y CJ Av Y Y Z Z) Y<|E (oG Y Bn Av<|gE _) Y<|AE (pre:=[m]) Y call102 Y (KJ M m _ bs c x hcI hxs hts O b) Y Y Y Y<|λz h4 ms4 l4 u=>?_;obtain⟨rfl,m',P,rfl,O'⟩:=u;rw[show Lj (JW ((ids.zip a).take k)) c x=JW ((ids.zip a).take (k+1)) by rw[Q,KC]]at O';refine Am<|D2<|Ad<|E (oA Y) Y<|G Y<|Am<|Aq (n-(k+1)) _ Z ⟨k+1,m',P,Y,Y,t,Y,Z,O'⟩ Qs
 .obtain rfl:k=n:=Z
  rw[bm (show(ids.zip a).length<=k by rw[List.length_zip];omega)]at O;refine Br<|Ab<|U<|G Y<|CU λh6 l6 lm=>?_;refine Qc call103 Y (NH M m _ bs h6 O lm (bl (JG _) (by rw[List.length_zip];omega))<|AcJ T)<|λw h8 ms8 l8 u=>?_;obtain⟨l8',B,m',rfl,OL,C,A⟩:=u;have ow:=OL.o1;refine G Y<|J Y<|Aj<|Cw Y Y Y (⟨N e<|N t<|N l6 l8',w,B,m',Y,Y,OL,C.congr<|Fo _,bl A<|JG _⟩)
def Aex(x y:List Tm)(r:Value)(h:Hp):Prop:=∃l,CanL l (λc=>cf x c-cf y c)/\ChR r h l/\Bi l<=Bi x+Bi y/\l.length<=x.length+y.length
def qV(v:Value)(d:Int)(vx vy:Value):Value:=.agg #[v,.int .i64 d,vx,vy]
theorem QR(v O P:Value)(d:Int)(x y:List Tm)(h:Hp)(ov:v.oneCell'=true)(X:ChR O h x)(Y:ChR P h y)(hn:x.length+y.length<=100000)(ha:Bi x+Bi y<2^2000000) :
  FnT prog 45 #[qV v d O P] h [] (fun r K A=>h.le K/\A=[]/\Aex x y r K):=by
 obtain⟨xa,xc,rfl,_⟩:=X.rd.rd.ex;obtain⟨ya,yc,rfl,_⟩:=Y.rd.rd.ex;unfold qV;refine Au func45 ntmps45 rfl rfl<|fun w0 hw0=>?_;simp only[AW];refine U<|AK [_,_,_,_] rfl rfl ξ rfl rfl rfl<|fun g1=>G rfl (Ao (AH fun T s e=>?_));have S:=qC 2 e rfl;have c3:=qC 3 e rfl
 have l:(-1:Int).natAbs*Bi y<2^2000000:=by show 1*Bi y<_;omega
 refine Ac<|AS (n:=8) (bs:=[W,W,W,W,W,lw,lw,lw]) [W,W,W,W,W] Cx V V rfl rfl<|QF Wc rfl<|QL rfl Ct (S _)<|Qp rfl (As rfl call95 rfl<|Fy (-1) H _ _)<|QF Wn rfl<|QL rfl Ct (c3 _)<|Qo 5 rfl<|AE (pre:=[]) rfl call94 rfl (WJ (-1) _ y T (Y.up s) (PH H) l) rfl rfl rfl rfl<|fun z h2 ms2 l2 p=>?_;obtain⟨a,rfl,C⟩:=p;obtain⟨u,R,B,f,j⟩:=C;obtain⟨za,zc,rfl,_⟩:=B.rd.rd.ex;have L:Bi u<=Bi y:=by rw[K0]at f;exact bl f (by show 1*Bi y<=_;omega)
 have M:u.length<=y.length:=by rw[KL,bb]at j;exact j
 refine Qa<|Qo 6 rfl<|AE (pre:=[]) rfl call93 rfl (Zz _ _ x u h2 (X.up<|N s a) B Z (by rw[Bp];omega)) rfl rfl rfl rfl<|fun w h3 ms3 l3 p=>?_;obtain⟨m,rfl,Q⟩:=p;have l23:=N a m;have t:=N s (N a m);obtain⟨l6,n,b,g,k⟩:=Q;have ow:=b.rd.rd.one;refine Qa<|Qo 7 rfl<|G rfl<|Qa<|Qe ?_;have i:Aex x y w h3:=⟨l6,n.congr fun c=>by rw[DQ,R.cf_eq,N7];omega,b,by rw[Bp]at g;omega,by rw[ag]at k;omega⟩
 refine Ab<|Aj<|Ar rfl rfl (⟨t,rfl,i⟩)
noncomputable def bz(o:List Cl)(x:List Tm):Bool:=@decide (∀c,cf (DV (A8 o) x) c=0) (Classical.propDecidable _)
theorem Ij(o:List Cl)(x:List Tm):bz o x=true<->∀c,cf (DV (A8 o) x) c=0:=@gk _ (Classical.propDecidable _)
theorem RY{o:List Cl}{x l:List Tm}(C:CanL l (cf (DV (A8 o) x))):bz o x=true<->l.length=0:=by
 rw[Ij];constructor
 .intro h;cases l with
  | nil=>rfl
  | cons p l=>exact lj (h p.1) (by have:=C.val p ao;rw[<-this.1];exact this.2)
 .intro h c;have:l=[]:=gu.1 h;rw[<-C.cf_eq,this,Ka]
structure QsOk(v:Value)(h:Hp)(l:List Ce):Prop where
 K:RgC l
 X:CxS v h l
 many:∀n:Int,(((cn l).filter λc=>decide (c.dim=n)).map Cl.id).length<=100
 dims:∀c∈cn l,c.dim<=1000
theorem QsOk.up{v:Value}{h a:Hp}{l:List Ce}(Q:QsOk v h l)(q:h.le a):QsOk v a l:=⟨Q.K,Q.X.up q,Q.many,Q.dims⟩
theorem Jv(v vx vy:Value)(d:Int)(x y:List Tm)(l:List Ce)(h:Hp)(Q:QsOk v h l)(X:ChR vx h x)(Y:ChR vy h y)(hx:EL (l.map Ce.c) d x=true)(hy:EL (l.map Ce.c) d y=true)(bx:Bi (DV (A8 (l.map Ce.c)) x)<2^2000000)(by_:Bi (DV (A8 (l.map Ce.c)) y)<2^2000000)(O:List Hp) :
  FnV prog 42 #[qV v d vx vy] h O (.w (if bz (l.map Ce.c) x&&bz (l.map Ce.c) y then 0 else 40)):=by
 refine D9 ?_ O;have ov:=Q.X.rd.q.rd.one;obtain⟨xa,xc,rfl,_⟩:=X.rd.rd.ex;obtain⟨ya,yc,rfl,_⟩:=Y.rd.rd.ex;unfold qV;refine Au func42 ntmps42 rfl rfl<|fun w0 hw0=>?_;simp only[AW];refine U<|AK [_,_,_,_] rfl rfl ξ rfl rfl rfl<|fun g1=>G rfl (Ao (AH fun h1 l1 j=>?_))
 have z:∀g,h1.le g->∀O,Seg g O (⟨g1,0,none⟩:Addr) [v]:=fun g q O i u hu=>by
  rcases i with _|i
  .simp at hu;subst hu;exact((j 0 _ rfl).any).le q
  .simp at hu
 have c1:=qD 1 j rfl;have c2:=qD 2 j rfl;have c3:=qD 3 j rfl;have R:=Q.up l1;refine Ac<|U<|Qf FW rfl<|E (oG rfl CV Bd<|z _ (Bk) _) rfl<|E (As rfl call83 rfl<|D9 (ZL l v h1 R.K R.X.rd) _) rfl<|G rfl<|G rfl<|G rfl<|G rfl<|G rfl<|BF<|G rfl<|G rfl<|Ao<|Ay rfl (fun p=>lj p σ)<|fun p=>Ah (Ab (Ac (U (Qf FW rfl (E (oG rfl CV Bd (z _ (Bk) _)) rfl (Qc call84 rfl (AgT l v h1 R.K R.X.rd) (fun D0 h2 ms2 l2 m=>?_)))))));obtain⟨M,rfl,D,rfl,hD1,hD2,hD3⟩:=m
 have hDb:D<=1000:=by
  rcases hD3 with e|⟨c,p,e⟩
  .omega
  .have:=Q.dims c p;omega
 obtain⟨n,hDn⟩:∃n:Nat,D+1=n:=⟨(D+1).toNat,Z⟩
 have l02:=N l1 M;refine E (oA rfl) rfl<|G rfl<|Ao<|Ag ?_;refine AC (fun q sl g P=>∃(k:Nat),n-k=q/\sl=[(1,.pt g1),(18,.w n),(19,.w k)]/\h2.le g/\P=[]/\k<=n) (n-0) [(1,.pt g1),(18,.w (D+1)),(19,.w 0)] ⟨0,rfl,by rw[hDn];rfl,Bk,rfl,Z⟩ Qs ?_;rintro q sl g P ⟨k,rfl,rfl,lh,rfl,hk⟩;have b:=N M lh;have a:=N l02 lh;refine U<|G rfl<|Ao<|Ac ?_;refine Ay rfl (fun hlt=>?_)<|fun hlt=>?_
 .refine I<|Ac<|Ag<|U<|G rfl<|G rfl<|BF<|Qf FW rfl<|E (oG rfl CV Bd<|z _ b _) rfl<|G rfl<|Qc call85 rfl (AaT l v (k:Int) g Q.K (Q.up a).X.rd)<|fun vi h5 ms5 l5 m=>?_;obtain⟨l5',rfl,RI⟩:=m;have hmk:=Q.many (k:Int);have oi:=RI.rd.one;refine E (Aw RI.rd.any rfl Bb rfl) rfl<|G rfl<|Ao<|Ay rfl (fun p=>lj p (Z))<|fun p=>Ah (Ai (Ab (Ad (E (oA rfl) rfl (G rfl (Am ?_))))));exact Aq (n-(k+1)) _ Z ⟨k+1,rfl,rfl,N lh l5',rfl,Z⟩ Qs
 .refine Br<|Ab<|Ac<|U<|Qf FW rfl<|E (oG rfl CV Bd<|z _ b _) rfl<|Qf Nq rfl<|Ql rfl U3 (c1 _ b _)<|Qf Wc rfl<|Ql rfl Ct (c2 _ b _) ?_;refine E (As rfl call86 rfl (by have:=NP l v (.slice xa x.length xc) d x g (Q.up a).X.rd (Q.up a).X.len (Q.up a).X.ids (X.up a);rw[hx]at this;exact this _)) rfl ?_;refine G rfl<|G rfl<|Qg (oF FW rfl) rfl<|Qg (oG rfl CV Bd<|z _ b _) rfl<|Qg (oF Nq rfl) rfl<|Qg (oL rfl U3<|c1 _ b _) rfl<|Qg (oF Wn rfl) rfl<|Qg (oL rfl Ct<|c3 _ b _) rfl ?_;refine Qg (As rfl call86 rfl (by have:=NP l v (.slice ya y.length yc) d y g (Q.up a).X.rd (Q.up a).X.len (Q.up a).X.ids (Y.up a);rw[hy]at this;exact this _)) rfl ?_;refine Qg (Dg rfl rfl) rfl<|G rfl<|Ao<|AM rfl<|I<|Ac<|U<|Qf FW rfl<|E (oG rfl CV Bd<|z _ b _) rfl<|Qf Wc rfl<|Ql rfl Ct (c2 _ b _)<|Qc call87 rfl (FI v _ l x g (Q.up a).X (X.up a) bx)<|fun wx h6 ms6 l6 m=>?_;obtain⟨t,rfl,C⟩:=m;obtain⟨lx,CL,CR,_,_⟩:=C;have B:=RY CL;have L:=N b t;refine E (Aw CR.rd.rd.any rfl Ct rfl) rfl<|G rfl<|G rfl ?_;refine AY (t:=54) rfl (fun hs=>?_)<|fun hs=>?_
  .have r:¬lx.length=0:=Z
   have f:bz (l.map Ce.c) x=false:=by cases hb:bz (l.map Ce.c) x with|false=>rfl|true=>exact lj (B.1 hb) r
   refine Qk rfl<|Qk rfl<|Qk rfl<|Qk rfl<|Qk rfl<|Qk rfl<|Qk rfl<|G rfl<|Ao<|A4 rfl<|U<|G rfl<|Ao<|Aj<|Ae ?_;exact Ar rfl rfl (by rw[f];rfl)
  .have r:lx.length=0:=Z
   have A:bz (l.map Ce.c) x=true:=B.2 r;refine Qg (oF FW rfl) rfl<|Qg (oG rfl CV Bd<|z _ L _) rfl<|Qg (oF Wn rfl) rfl<|Qg (oL rfl Ct<|c3 _ L _) rfl<|Dz rfl rfl rfl rfl<|Qc call87 rfl (FI v _ l y h6 (Q.up<|N a t).X (Y.up<|N a t) by_)<|fun wy h7 ms7 l7 m=>?_;obtain⟨l7',rfl,C⟩:=m;obtain⟨ly,S,T,_,_⟩:=C;have K:=RY S;refine Qg (Aw T.rd.rd.any rfl Ct rfl) rfl<|Qg (CE rfl rfl rfl) rfl<|G rfl<|Ao ?_;refine Ay rfl (fun hs2=>?_)<|fun hs2=>?_
   .have s:¬ly.length=0:=Z
    have f:bz (l.map Ce.c) y=false:=by cases hb:bz (l.map Ce.c) y with|false=>rfl|true=>exact lj (K.1 hb) s
    refine U<|G rfl<|Ao<|Aj<|Ae ?_;exact Ar rfl rfl (by rw[A,f];rfl)
   .have s:ly.length=0:=Z
    have f:bz (l.map Ce.c) y=true:=K.2 s;refine I<|U<|G rfl<|Ao<|Aj ?_;exact Ar rfl rfl (by rw[A,f];rfl)
theorem Rn{B:Nat}:∀{ids xs:List Int},(∀x∈xs,Bq B x)->Bi (ids.zip xs)<=xs.length*2^B
 | [],xs,_=>by simp[Bi]
 | i::ids,[],_=>by simp[Bi]
 | i::ids,x::xs,h=>by have c:=Rn (ids:=ids) (xs:=xs) λy a=>h y (am _ a);have b:x.natAbs<2^B:=h x ao;rw[List.zip_cons_cons,DD,de,dq,gn];show x.natAbs+_<=_;omega
set_option exponentiation.threshold 4000000 in
theorem Xq{B n:Nat}{g:Nat->Int}{ids:List Int}(h:∀i,i<n->Bq B (g i))(j:n<=200)(f:B<=1999990):Bi (ids.zip (DC n g))<2^2000000:=by
 have a:=Rn (B:=B) (ids:=ids) (xs:=DC n g) λx e=>by obtain⟨i,d,rfl⟩:=ai.1 e;exact h i<|b6.1 d
 rw[Cc]at a;have b:n*2^B<2^8*2^B:=Nat.mul_lt_mul_of_pos_right Z (jc H);rw[<-jx]at b;have c:2^(8+B)<=2^2000000:=dn H Z;exact dr a<|b7 b c
theorem Afh(ids:List Int)(g:Int->Int):ids.map g=DC ids.length λi=>g (ids.getD i 0):=by
 refine ic λk=>?_;unfold DC;by_cases a:k<ids.length
 .simp[a,List.getD]
 .simp[fk,a]
theorem Aft{o:List Cl}{d:Int}{x y l:List Tm}(b:EL o d x=true)(e:EL o d y=true)(C:CanL l (λc=>cf x c-cf y c)):EL o d l=true:=by
 rw[Du]at *;intro c a;rw[C.cf_eq]at a;by_cases h:cf x c=0
 .exact e c Z
 .exact b c h
def Ai1(z:List Tm)(vc:Value)(m:Hp):Prop:=∃lo,OwnL D6 3 79 m vc lo/\CanL lo (cf z)/\lo.length<=z.length/\z.length<=1000/\(∀p∈z,Cb p.1)/\Bi z<2^2000000
def Ai4(r c:Nat)(ids0 ids1:List Int)(D C:Nat->Int)(S:FS)(w:Value)(m:Hp):Prop:=
 ((∀j,j<r->D j∣C j)/\∃vc,w=.tuple #[.agg #[.bool true,vc,.nl,.bool false,sv []],.w 0]/\Ai1 (ids1.zip (DC c λi=>sm c λq=>AP S.v i q*FK r D C q)) vc m) ∨
 (∃k,k<r/\¬D k∣C k/\(∀j,j<k->D j∣C j)/\∃vc,w=.tuple #[.agg #[.bool false,.nl,vc,.bool (decide (D k<0)),sv (Ba (D k).natAbs)],.w 0]/\Ai1 (ids0.zip (DC r (AP S.u k))) vc m)
theorem AaG(l:List Ce)(v:Value)(d:Int)(k:-5<=d/\d<=1000)(b:Hp)(i:RgC l)(j:RdC b v l)(n:l.length<=200)(g:(AZ (cn l) (d-1)).length<=200)(h:(AZ (cn l) d).length<=200) :
  FnT prog 43 #[.agg #[v],.w d] b [] (λw c a=>b.le c/\a=[]/\MW w c (AZ (cn l) (d-1)).length (AZ (cn l) d).length (Eb (AZ (cn l) (d-1)).length (AZ (cn l) d).length (HN (cn l) d))):=
 FnT.frz (Aau l v d k b i j n) λw c a ⟨q,ev,m,e,f,O⟩=>⟨m,[],e,λs p r=>⟨N q p,rfl,g,h,Ci _ _ _,ev,f,O.rdh r⟩⟩
set_option exponentiation.threshold 4000000 in
theorem C9(v vx vy:Value)(d:Int)(hd:0<=d/\d<=900)(x y:List Tm)(l:List Ce)(h:Hp)(Q:QsOk v h l)(hl:l.length<=200)(X:ChR vx h x)(Y:ChR vy h y)(hx:EL (l.map Ce.c) d x=true)(hy:EL (l.map Ce.c) d y=true)(bx:Bi (DV (A8 (l.map Ce.c)) x)<2^2000000)(by_:Bi (DV (A8 (l.map Ce.c)) y)<2^2000000)(zx:bz (l.map Ce.c) x=true)(zy:bz (l.map Ce.c) y=true)
  (hn:x.length+y.length<=100000) (ha:Bi x+Bi y<2^99) (r c:Nat) (a b:List Int) (s:AZ (cn l) d=a) (A:AZ (cn l) (d+1)=b) (hr:a.length=r) (T:b.length=c) (f:Nat->Nat->Int) (hF:HN (cn l) (d+1)=f) (hf:∀i j,i<r->j<c->Bq 33 (f i j)) (L:St) (hfp:D8 r c (min r c) 0 (QD r c f)=some L) (D C:Nat->Int) (hDe:SZ c L.S.d.flatten=D) (P:ubF L.S r (fun i=>cf x (a.getD i 0)-cf y (a.getD i 0))=C) (hD:∀k,k<r->(D k).natAbs<4294967296) :
  FnT prog 16 #[.agg #[v],.w d,vx,vy] h [] (fun w h' ms'=>h.le h'/\∃m,ms'=[m]/\L.S.Ok r c 660033/\Ai4 r c a b D C L.S w m):=by
 have ov:=Q.X.rd.q.rd.one;have hm0:=Q.many d;have hm1:=Q.many (d+1);have hr1:r<=100:=by rw[<-hr,<-s];exact hm0
 have hc1:c<=100:=by rw[<-T,<-A];exact hm1
 obtain⟨xa,xc,rfl,_⟩:=X.rd.rd.ex;obtain⟨ya,yc,rfl,_⟩:=Y.rd.rd.ex;refine Au func16 ntmps16 rfl rfl<|fun w0 hw0=>?_;simp only[AW];refine U<|AK [_] rfl rfl ξ rfl rfl rfl<|fun g4=>BJ [.bool false,.nl,.nl,.bool false,.es] rfl GH rfl rfl (fun g8=>G rfl (BF (E (oG rfl CV Bd (Seg.blk 1 rfl)) rfl (G rfl (G rfl (G rfl (E (AQ Aen [.nl,.w 0,.nl,.nl] [(0,_),(1,_),(2,_),(3,_)] [_,_,_,_] rfl F7 rfl rfl Qt rfl) rfl (BJ [.nl,.w 0,.nl,.nl] rfl F7 rfl rfl (fun g10=>?_)))))))));refine Sa 0 [_,_,_,_] F7 rfl (by simp[ov,AA]) ?_;refine Ao<|Ak 0 rfl fun h1 l1 hS10=>(Ak 1 rfl fun h2 l2 hS4=>?_);have e:=N l1 l2;have s4:=qT hS4;have s10:∀h',h2.le h'->∀ms,Seg h' ms (⟨g10,0,none⟩:Addr) [v,.w d,.slice xa x.length xc,.slice ya y.length yc]:=fun h' q ms=>((hS10.le l2).le q).any;have Q2:=Q.up e;have hwr:=Jv v (.slice xa x.length xc) (.slice ya y.length yc) d x y l h2 Q2 (X.up e) (Y.up e) hx hy bx by_;rw[zx,zy]at hwr;unfold qV at hwr;refine Ac<|U<|E (oG rfl U87 F7<|s10 _ (Bk) _) rfl<|E (As rfl call42 rfl<|hwr _) rfl<|G rfl<|BF<|G rfl<|G rfl<|Ao<|Ay rfl (fun hc=>lj hc σ)<|fun hc=>Ah (Ab (U (E (oG rfl CV Bd (s4 _ (Bk) _)) rfl (G rfl (E (oA rfl) rfl ?_)))));refine Qc call43 rfl (AaG l v (d+1) Z h2 Q.K Q2.X.rd hl (by rw[show d+1-1=d by omega];exact bl hm0 H)<|bl hm1 H)<|fun wm h3 ms3 l3 hF0=>?_;obtain⟨l3',rfl,hM⟩:=hF0;rw[show d+1-1=d by omega,s,A,hr,T,hF]at hM;have hM0:=hM;obtain⟨em,rfl,RM⟩:=hM0.ex;have om:=RM.rd.one;have l23:=l3';refine BJ [.w 0,.w 0,.nl] rfl BQ rfl rfl<|fun g12=>?_;refine Sa 0 [_,_,_] BQ rfl (by simp[ov,AA,om]) ?_;refine Ao<|Ak 0 rfl fun h4 l4 hS12=>?_;have B:=N l23 l4;have l04:=N e B;refine Ac<|AS (n:=10) (bs:=[W,W,W,lw,lw,lw,lw,lw,lw,lw]) [W,W,W] Cx V V rfl rfl<|Qp rfl (oG rfl CV Bd<|s4 _ B _)<|Qq rfl<|Qp rfl (oG rfl U87 F7<|s10 _ B _)<|Qo 3 rfl<|AE (pre:=[]) rfl call45 rfl (QR v _ _ d x y h4 ov (X.up l04) (Y.up l04) hn<|b7 ha<|dn H H) rfl rfl rfl rfl<|fun wd h5 ms5 l5 hF1=>?_;obtain⟨l5',rfl,dl,CD,CR,hda,hdn⟩:=hF1;have hcfd:∀c,cf dl c=cf x c-cf y c:=fun c=>CD.cf_eq c;refine Qa<|Qo 4 rfl<|AE (pre:=[]) rfl call44 rfl (Zv l v wd d dl h5 Q.K (Q.X.up<|N l04 l5') CR (Aft hx hy CD) a s Z) rfl rfl rfl rfl<|fun wv h6 ms6 l6 hF2=>?_;obtain⟨l6',rfl,vb,rfl,RB⟩:=hF2;have ob:=RB.rd.one;have t:=N l5' l6';refine Qa<|A7 5 39 V rfl (by assumption) rfl (Ap rfl rfl)<|A7 6 45 V rfl (by assumption) rfl (Bo rfl rfl rfl)<|A7 7 46 V rfl (by assumption) rfl (Bo rfl rfl rfl)<|Qo 8 rfl<|G rfl<|Qa<|Qo 9 rfl<|G rfl<|Qa<|Qe ?_;have l26:=N B t
 have hbv:a.map (cf dl)=DC r (fun i=>cf x (a.getD i 0)-cf y (a.getD i 0)):=by rw[Afh,hr];exact bh (DC r)<|funext fun i=>hcfd _
 rw[hbv]at RB
 have S:∀i,i<r->Bq 100 (cf x (a.getD i 0)-cf y (a.getD i 0)):=fun i _=>by have h1:=Dc x (a.getD i 0);have h2:=Dc y (a.getD i 0);show(cf x (a.getD i 0)-cf y (a.getD i 0)).natAbs<2^100;have:(2:Nat)^99<=2^100:=dn H H;omega
 have s12:=qT hS12;refine Ab<|Ac<|U<|E (oG rfl Iw BQ<|s12 _ t _) rfl<|G rfl<|Qc call46 rfl (Acy _ vb r c f _ L D C h6 (hM.up<|N l4 t) hf hfp RB S hDe P hD)<|fun ws h7 ms7 l7 hF3=>?_;obtain⟨u,rfl,O,hSol⟩:=hF3;have l27:=N l26 u;have l07:=N e l27;have l67:=u;rcases hSol with ⟨⟨k0,hk0,hn0⟩,rfl⟩|⟨n,vz,rfl,RZ⟩
 .refine G rfl<|G rfl<|G rfl<|G rfl<|G rfl<|BF<|G rfl<|Ao<|AM rfl<|I<|U<|E (oG rfl Iw BQ<|s12 _ (N t u) _) rfl<|G rfl<|Qc call48 rfl (Aas _ vb r c f _ L D C h7 (hM.up<|N l4<|N t u) hf hfp (RB.up u) S hDe P hD)<|fun wt h8 ms8 l8 hF4=>?_;obtain⟨l8',rfl,_,hRef⟩:=hF4;rcases hRef with ⟨k,hk,hnd,z,vu,rfl,RU⟩|⟨n,_⟩
  rotate_left
  .exact lj (n k0 hk0) hn0
  have ou:=RU.rd.one;have osx:=AA (Ba (D k).natAbs);refine G rfl<|G rfl<|G rfl<|G rfl<|BJ [.bool false,.es] rfl Av rfl rfl<|fun g20=>G rfl ?_;refine Sa 0 [_,_] Av rfl (by simp[ov,AA,om,ob,ou,osx]) ?_;refine G rfl<|Ao<|Ak 0 rfl fun h9 l9 hS20=>?_;have l29:=N l27 (N l8' l9);have l09:=N e l29;refine U<|E (oG rfl CV Bd<|s4 _ l29 _) rfl<|G rfl<|G rfl<|AE (pre:=[]) rfl call47 rfl (Adr l v vu d (DC r<|AP L.S.u k) h9 Q.K (Q.X.up l09) a s (RU.up l9) (by rw[Cc,hr]) Z<|Xq (fun i _=>O.bu k i) Z H) rfl rfl rfl rfl<|fun wo hA msA lA R=>?_;obtain⟨K,vo,lo,mo,rfl,rfl,g,M,lno⟩:=R;obtain⟨oa,oc,rfl,_⟩:=(g.rd (h:=hA) (ms:=[mo]) Mh).rd.ex;have gD:∀ms,Seg hA ms (⟨g20,0,none⟩:Addr) (Bg (D k)):=fun ms=>(hS20.le K).any;refine G rfl<|G rfl<|G rfl<|G rfl<|G rfl<|BF<|G rfl<|E (oG rfl Bn Av<|gD _) rfl<|E (AQ Afw [.bool false,.nl,.nl,.bool false,.es] [(2,_),(3,_)] [_,_,_,_,_] rfl GH rfl rfl Qt rfl) rfl ?_;refine Sa 1 [_,_,_,_,_] GH rfl (by simp[ov,AA,om,ob,ou,osx]) ?_;refine G rfl<|Ao<|Aj ?_;exact Ja (vs:=[_,_,_,_,_]) 1 rfl rfl rfl U35 rfl GH rfl rfl (⟨N l09 K,mo,rfl,O,.inr ⟨k,hk,hnd,z,_,rfl,lo,g,M,lno,by rw[List.length_zip];omega,fun p hp=>RgC.ids_mem Q.K (d:=d) (by rw[show((cn l).filter fun c=>decide (c.dim=d)).map Cl.id=a from s];exact(List.of_mem_zip hp).1),Xq (fun i _=>O.bu k i) Z H⟩⟩)
 .have oz:=RZ.rd.one
  have bY:∀i,Bq 1320600 (sm c fun q=>AP L.S.v i q*FK r D C q):=fun i=>by
   have hCk:∀k,k<r->Bq 660333 (C k):=fun k hk=>by rw[<-P];exact(Kz r fun q hq=>((O.bu k q).mul (S q hq)).mono (show 660033+100<=660133 by decide)).mono Z
   have bY:=Sg (D:=D) hCk;exact(Kz c fun q _=>((O.bv i q).mul (bY q)).mono (show 660033+(660333+1)<=1320400 by decide)).mono Z
  refine G rfl<|G rfl<|G rfl<|G rfl<|G rfl<|BF<|G rfl<|Ao<|A4 rfl<|U<|E (oG rfl CV Bd<|s4 _ l27 _) rfl<|G rfl<|E (oA rfl) rfl<|G rfl ?_;refine AE (pre:=[]) rfl call47 rfl (Adr l v vz (d+1) _ h7 Q.K (Q.X.up l07) b A RZ (by rw[Cc,T]) Z<|Xq (fun i _=>bY i) Z H) rfl rfl rfl rfl<|fun wo hA msA lA R=>?_;obtain⟨K,vo,lo,mo,rfl,rfl,g,M,lno⟩:=R;obtain⟨oa,oc,rfl,_⟩:=(g.rd (h:=hA) (ms:=[mo]) Mh).rd.ex;refine G rfl<|G rfl<|G rfl<|G rfl<|G rfl<|BF<|G rfl<|E (AQ Afw [.bool false,.nl,.nl,.bool false,.es] [(0,_),(1,_)] [_,_,_,_,_] rfl GH rfl rfl Qt rfl) rfl ?_;refine Sa 1 [_,_,_,_,_] GH rfl (by simp[Value.oneCell']) ?_;refine G rfl<|Ao<|Aj<|Ae ?_;exact Ja (vs:=[_,_,_,_,_]) 1 rfl rfl rfl U35 rfl GH rfl rfl (⟨N l07 K,mo,rfl,O,.inl ⟨n,_,rfl,lo,g,M,lno,by rw[List.length_zip];omega,fun p hp=>RgC.ids_mem Q.K (d:=d+1) (by rw[show((cn l).filter fun c=>decide (c.dim=d+1)).map Cl.id=b from A];exact(List.of_mem_zip hp).1),Xq (fun i _=>bY i) Z H⟩⟩)
noncomputable def PR(o:List Cl)(x y ch:List Tm):Bool:=@decide (∀c,cf (DV (A8 o) ch) c=cf x c-cf y c) (Classical.propDecidable _)
theorem E9(o:List Cl)(x y a:List Tm):PR o x y a=true<->∀c,cf (DV (A8 o) a) c=cf x c-cf y c:=@gk _ (Classical.propDecidable _)
theorem Rg{o:List Cl}{x y d a b:List Tm}(A:CanL a (cf (DV (A8 o) d)))(B:CanL b (λc=>cf x c-cf y c)):eqC a b=PR o x y d:=by rw[ki,Q6,E9];exact⟨λh c=>by rw[<-A.cf_eq,h c,B.cf_eq],λh c=>by rw[A.cf_eq,h c,B.cf_eq]⟩
theorem Ado(m a:Int)(s:m.natAbs<4294967296)(u:Sz a)(h:Hp)(c:List Hp):FnV prog 116 #[WD m,WD a] h c (.bool (decide (m∣a))):=by
 refine D9 ?_ c;have f:=AA (Ba m.natAbs);have d:=AA (Ba a.natAbs);have g:=AA (Ba (a/m).natAbs);have i:=AA (Ba (a%m).natAbs);have l:Sz m:=Sz.of (B:=32) s H;refine Au func116 ntmps116 Y Y<|λ_ _=>U<|AK [_,_] Y Y ξ Y Y Y<|λj=>AK [_,_] Y Y ξ Y Y Y<|λk=>J Y<|AH λB K r=>AH λt y p=>?_;have k:∀c,Seg t c (⟨k,0,none⟩:Addr) (Bg a):=λc=>(r.le y).any;have j:∀c,Seg t c (⟨j,0,none⟩:Addr) (Bg m):=λc=>p.any;refine X<|U<|E (oG Y Bn Av<|j _) Y<|E (As Y call60 Y<|Df m l _ _) Y<|J Y<|Ay Y (λn=>?_)<|λn=>?_
 .have b:m=0:=di.1 n;refine U<|E (oG Y Bn Av<|k _) Y<|E (As Y call60 Y<|Df a u _ _) Y<|G Y<|J Y<|Aj<|Ae<|Ar Y Y<|bh Value.bool<|fy.2 (by rw[b,Int.zero_dvd];exact di)
 .have b:m≠0:=λe=>n (by rw[e];rfl);have v:Sz (a%m):=Sz.of (B:=32) (dr (KM b) s) H;refine I<|U<|E (oG Y Bn Av<|k _) Y<|E (oG Y Bn Av<|j _) Y<|E (As Y call100 Y<|F5 a m u b s _ _) Y<|D Y Y<|D Y Y<|BJ [.bool false,.es] Y Av Y Y<|λz=>BJ [.bool false,.es] Y Av Y Y<|λA=>?_;refine Sa 1 [_,_] Av Y (by simp[f,d,g,i]) ?_;refine Sa 0 [_,_] Av Y (by simp[f,d,g,i]) ?_;refine G Y<|BF<|E (oG Y Bn Av<|Seg.blk 0 Y) Y<|E (As Y call60 Y<|Df (a%m) v _ _) Y<|G Y<|J Y<|Aj<|Ar Y Y<|bh Value.bool<|fy.2 (by rw[Int.dvd_iff_emod_eq_zero];exact di)
theorem Ab5(v vx vy vc:Value)(d:Int)(hd:0<=d/\d<=900)(x y b:List Tm)(l:List Ce)(h:Hp)(Q:CxS v h l)(X:ChR vx h x)(Y:ChR vy h y)(C:ChR vc h b)(hn:x.length+y.length<=100000)(ha:Bi x+Bi y<2^2000000)(B:Bi (DV (A8 (l.map Ce.c)) b)<2^2000000)(s:List Hp) :
  FnV prog 59 #[qV v d vx vy,vc] h s (.bool (EL (l.map Ce.c) (d+1) b&&PR (l.map Ce.c) x y b)):=by
 refine D9 ?_ s;have ov:=Q.rd.q.rd.one;obtain⟨xa,xc,rfl,_⟩:=X.rd.rd.ex;obtain⟨ya,yc,rfl,_⟩:=Y.rd.rd.ex;obtain⟨ca,cc,rfl,_⟩:=C.rd.rd.ex;unfold qV;refine Au func59 ntmps59 rfl rfl<|fun w0 hw0=>?_;simp only[AW];refine U<|AK [_,_,_,_] rfl rfl ξ rfl rfl rfl<|fun g2=>G rfl (Ao (AH fun n c e=>?_));have R:=qT e
 have z:∀K,n.le K->∀s,Seg K s (⟨g2,0,none⟩:Addr) [v]:=fun K q s i u O=>by
  rcases i with _|i
  .simp at O;subst O;exact((e 0 _ rfl).any).le q
  .simp at O
 have T:=qD 1 e rfl;have f:=NP l v (.slice ca b.length cc) (d+1) b n (Q.up c).rd Q.len Q.ids (C.up c);cases hb:EL (l.map Ce.c) (d+1) b
 all_goals rw[hb]at f
 .refine Ac<|AS (n:=17) (bs:=[W,W,W,W,W,W,W,lw,lw,lw,lw,lw,lw,lw,lw,lw,lw]) [W,W,W,W,W,W,W] Cx V V rfl rfl<|QF FW rfl<|Qp rfl (oG rfl CV Bd<|z _ (Bk) _)<|QF Nq rfl<|QL rfl U3 (T _ (Bk) _)<|Qp rfl (oA rfl)<|Qq rfl<|Qp rfl (As rfl call86 rfl<|f _)<|Qo 7 rfl<|G rfl<|Qw<|AO [8,10,12] V rfl<|Al rfl ?_ ?_;refine Qk rfl<|Qw<|AO [9,10,12] V rfl<|Al rfl ?_ ?_;refine Qk rfl<|Qw<|AO [10,12] V rfl<|Al rfl ?_ ?_;refine Qk rfl<|Qw<|AO [11,12] V rfl<|Al rfl ?_ ?_;refine Qk rfl<|Qw<|Qo 12 rfl<|Qk rfl<|Qw ?_
  rotate_left
  refine Al rfl ?_ ?_;refine Qk rfl<|Qw<|Qo 11 rfl<|Qk rfl<|Qw ?_
  rotate_left
  exact AN;refine Al rfl ?_ ?_;refine Qk rfl<|Qw<|Qo 10 rfl<|Qk rfl<|Qw<|Qo 11 rfl<|Qk rfl<|Qw ?_
  rotate_left
  exact AN;refine Al rfl ?_ ?_;refine Qk rfl<|Qw<|AO [9,12] V rfl<|Al rfl ?_ ?_;refine Qk rfl<|Qw<|AO [11,12] V rfl<|Al rfl ?_ ?_;refine Qk rfl<|Qw<|Qo 12 rfl<|Qk rfl<|Qw ?_
  rotate_left
  refine Al rfl ?_ ?_;refine Qk rfl<|Qw<|Qo 11 rfl<|Qk rfl<|Qw ?_
  rotate_left
  exact AN;refine Al rfl ?_ ?_;refine Qk rfl<|Qw<|Qo 9 rfl<|Qk rfl<|Qw<|Qo 11 rfl<|Qk rfl<|Qw ?_
  rotate_left
  exact AN;refine Al rfl ?_ ?_;refine Qk rfl<|Qw<|AO [9,10] V rfl<|Al rfl ?_ ?_;refine Qk rfl<|Qw<|Qo 10 rfl<|Qk rfl<|Qw<|Qo 11 rfl<|Qk rfl<|Qw ?_
  rotate_left
  refine Al rfl ?_ ?_;refine Qk rfl<|Qw<|Qo 9 rfl<|Qk rfl<|Qw<|Qo 11 rfl<|Qk rfl<|Qw ?_
  rotate_left
  exact AN;exact AN;refine Al rfl ?_ ?_;refine Qk rfl<|Qw<|AO [8,12] V rfl<|Al rfl ?_ ?_;refine Qk rfl<|Qw<|AO [9,12] V rfl<|Al rfl ?_ ?_;refine Qk rfl<|Qw<|AO [11,12] V rfl<|Al rfl ?_ ?_;refine Qk rfl<|Qw<|Qo 12 rfl<|Qk rfl<|Qw ?_
  rotate_left
  refine Al rfl ?_ ?_;refine Qk rfl<|Qw<|Qo 11 rfl<|Qk rfl<|Qw ?_
  rotate_left
  exact AN;refine Al rfl ?_ ?_;refine Qk rfl<|Qw<|Qo 9 rfl<|Qk rfl<|Qw<|Qo 11 rfl<|Qk rfl<|Qw ?_
  rotate_left
  exact AN;refine Al rfl ?_ ?_;refine Qk rfl<|Qw<|Qo 8 rfl<|Qk rfl<|Qw<|Qo 9 rfl<|Qk rfl<|Qw<|Qo 11 rfl<|Qk rfl<|Qw ?_
  rotate_left
  exact AN;refine Al rfl ?_ ?_;refine Qk rfl<|Qw<|AO [8,10] V rfl<|Al rfl ?_ ?_;refine Qk rfl<|Qw<|AO [9,10] V rfl<|Al rfl ?_ ?_;refine Qk rfl<|Qw<|Qo 10 rfl<|Qk rfl<|Qw<|Qo 11 rfl<|Qk rfl<|Qw ?_
  rotate_left
  refine Al rfl ?_ ?_;refine Qk rfl<|Qw<|Qo 9 rfl<|Qk rfl<|Qw<|Qo 11 rfl<|Qk rfl<|Qw ?_
  rotate_left
  exact AN;refine Al rfl ?_ ?_;refine Qk rfl<|Qw<|Qo 8 rfl<|Qk rfl<|Qw<|Qo 9 rfl<|Qk rfl<|Qw<|Qo 11 rfl<|Qk rfl<|Qw ?_
  rotate_left
  exact AN;exact AN
  all_goals
   refine Qo 13 rfl<|Qk rfl<|Qw<|Qo 14 rfl<|Qk rfl<|Qw<|Qo 15 rfl<|G rfl<|Qw<|Qo 16 rfl<|G rfl<|Qw<|Qe ?_
   (refine Ab ?_;refine Aj ?_;exact Ar rfl rfl rfl)
 .refine Ac<|AS (n:=17) (bs:=[W,W,W,W,W,W,W,lw,lw,lw,lw,lw,lw,lw,lw,lw,lw]) [W,W,W,W,W,W,W] Cx V V rfl rfl<|QF FW rfl<|Qp rfl (oG rfl CV Bd<|z _ (Bk) _)<|QF Nq rfl<|QL rfl U3 (T _ (Bk) _)<|Qp rfl (oA rfl)<|Qq rfl<|Qp rfl (As rfl call86 rfl<|f _)<|Qo 7 rfl<|G rfl<|Qw<|Bc 8 13 V rfl rfl rfl rfl rfl (Bk) rfl (oF FW rfl)<|Bc 10 15 V rfl rfl rfl rfl rfl (Bk) rfl (Ap rfl rfl)<|AO [9,12] V rfl<|Al rfl ?_ ?_;refine Qg (oG rfl CV Bd<|z _ (Bk) _) rfl<|Qw<|AO [11,12] V rfl<|Al rfl ?_ ?_;refine Dz rfl rfl rfl rfl<|AE (pre:=[]) rfl call87 rfl (FI v _ l b n (Q.up c) (C.up c) B) rfl rfl rfl rfl<|fun wb L t l2 p=>?_;obtain⟨a,rfl,j⟩:=p;obtain⟨P,A,g,_,_⟩:=j;obtain⟨S,m,rfl,_⟩:=g.rd.rd.ex;refine Qa<|Qo 12 rfl<|Qg (oG rfl U87 F7<|R _ (by assumption) _) rfl<|Qa ?_
  rotate_left
  refine Al rfl ?_ ?_;refine Qg (oG rfl U87 F7<|R _ (Bk) _) rfl<|Qw<|Qo 11 rfl<|Dz rfl rfl rfl rfl<|AE (pre:=[]) rfl call87 rfl (FI v _ l b n (Q.up c) (C.up c) B) rfl rfl rfl rfl<|fun wb L t l2 p=>?_;obtain⟨a,rfl,j⟩:=p;obtain⟨P,A,g,_,_⟩:=j;obtain⟨S,m,rfl,_⟩:=g.rd.rd.ex;refine Qa ?_
  rotate_left
  exact AN;refine Al rfl ?_ ?_;refine Qg (oG rfl U87 F7<|R _ (Bk) _) rfl<|Qw<|Qo 9 rfl<|Qg (oG rfl CV Bd<|z _ (Bk) _) rfl<|Qw<|Qo 11 rfl<|Dz rfl rfl rfl rfl<|AE (pre:=[]) rfl call87 rfl (FI v _ l b n (Q.up c) (C.up c) B) rfl rfl rfl rfl<|fun wb L t l2 p=>?_;obtain⟨a,rfl,j⟩:=p;obtain⟨P,A,g,_,_⟩:=j;obtain⟨S,m,rfl,_⟩:=g.rd.rd.ex;refine Qa ?_
  rotate_left
  exact AN
  all_goals
   refine Qo 13 rfl<|Dz rfl rfl rfl rfl<|AE (pre:=[]) rfl call45 rfl (QR v _ _ d x y L ov (X.up<|N c a) (Y.up<|N c a) hn ha) rfl rfl rfl rfl<|fun wd h3 ms3 l3 M=>?_;obtain⟨r,rfl,dl,CD,k,hda,hdn⟩:=M;obtain⟨da,dc,rfl,_⟩:=k.rd.rd.ex;have l13:=N a r;refine Qa<|Qo 14 rfl<|Qg (As rfl call113 rfl<|Zf _ _ P dl h3 (g.up r) k _) rfl<|Qa<|Qo 15 rfl<|G rfl<|Qa<|Qo 16 rfl<|G rfl<|Qa<|Qe ?_
   (refine Ab ?_;refine Aj ?_;exact Ar rfl rfl (by rw[Rg A CD];rfl))
noncomputable def Ut(o:List Cl)(m:Int)(co:List Tm):Bool:=@decide (∀c,m∣cf (GN (A8 o) co) c) (Classical.propDecidable _)
theorem Mu(o:List Cl)(m:Int)(a:List Tm):Ut o m a=true<->∀c,m∣cf (GN (A8 o) a) c:=@gk _ (Classical.propDecidable _)
theorem YG{o:List Cl}{m:Int}{a l:List Tm}(C:CanL l (cf (GN (A8 o) a))):(!(l.any λp=>!decide (m∣p.2)))=Ut o m a:=by
 have f:(!(l.any λp=>!decide (m∣p.2)))=true<->Ut o m a=true:=by
  rw[Mu];simp only[Bool.not_eq_true',kz,Bool.not_eq_false,Bool.not_not,jw,gk];constructor
  .intro h c;by_cases b:cf (GN (A8 o) a) c=0
   .rw[b];exact Int.dvd_zero m
   .have:=h _ (C.all c b);simpa using this
  .intro h p d;obtain⟨e,n⟩:=C.val p d;have:=h p.1;rw[<-e]at this;simp[this]
 cases ha:(!(l.any λp=>!decide (m∣p.2)))<;>cases hb:Ut o m a<;>simp_all
theorem SC{x y a:List Tm}(C:CanL a (λc=>cf x c-cf y c))(f:Int->Int):lin f a=lin f x-lin f y:=by
 have b:CanL a (cf (x++KL (-1) y)):=C.congr λc=>by rw[DQ,N7];omega
 have d:∀y:List Tm,lin f (KL (-1) y)=- lin f y:=λy=>by
  induction y with
  | nil=>rfl
  | cons p y ih=>
   show f p.1*(-1*p.2)+lin f (KL (-1) y)=-(f p.1*p.2+lin f y);rw[ih];have:f p.1*(-1*p.2)=-(f p.1*p.2):=by rw[i7,jh,Int.mul_neg]
   omega
 rw[b.lin_eq,D1,d];omega
theorem Agq(c:Nat)(m:Int)(j:m.natAbs<4294967296)(p:Tm)(k:Sz p.2)(h:Hp)(g:Seg h [] (⟨c,0,none⟩:Addr) (Bg m))(a:List Hp) :
  FnV prog 115 #[.agg (D6 p).toArray,.pt c] h a (.bool (decide (m∣p.2))):=by
 refine D9 ?_ a;have t:=AA (Ba p.2.natAbs);have s:=AA (Ba m.natAbs);refine Au func115 ntmps115 Y Y<|λ_ _=>U<|AK [_,_,_] Y Y ξ Y Y Y<|λb=>J Y<|AH λf r e=>?_
 have b:∀a,Seg f a ((⟨b,0,none⟩:Addr).add 1) (Bg p.2):=λa i v l=>by
  have:=(e (1+i) v (by rw[ij];exact l)).any (ms:=a)
  rwa [BD]
 have d:∀a,Seg f a (⟨c,0,none⟩:Addr) (Bg m):=λa=>(g.le r).any;refine U<|E (oG Y Bn Av<|d _) Y<|Qf Ic Y<|E (oG Y Bn Av<|b _) Y<|E (As Y call116 Y<|Ado m p.2 j k _ _) Y<|J Y<|Aj<|Ar Y Y<|Y
theorem Agd(a:Nat)(m:Int)(d:Sz m)(h:Hp)(c:Seg h [] (⟨a,0,none⟩:Addr) (Bg m))(b:List Hp) :
  FnV prog 117 #[.pt a] h b (.bool (decide (0<=m))):=by
 refine D9 ?_ b;have f:=AA (Ba m.natAbs);refine Au func117 ntmps117 Y Y<|λ_ _=>U<|G Y<|BF<|E (oG Y Bn Av<|c.any) Y<|E (As Y call60 Y<|Df m d _ _) Y<|G Y<|J Y<|Aj<|Ar Y Y<|bh Value.bool<|fy.2 ⟨λh=>Int.sign_nonneg_iff.1 h,λh=>Int.sign_nonneg_iff.2 h⟩
theorem Aeu(a c:Nat)(m:Int)(j:m.natAbs<4294967296)(p:Tm)(k:Sz p.2)(h:Hp)(i:Seg h [] (⟨a,0,none⟩:Addr) (Bg m))(g:Cell h [] (⟨c,0,none⟩:Addr) (.func (.func 115) #[] #[.pointer (some ⟨a,0,none⟩)]))(e:List Hp) :
  FnV prog 122 #[.agg (D6 p).toArray,.pt c] h e (.bool (!decide (m∣p.2))):=by
 refine D9 ?_ e;have n:=AA (Ba p.2.natAbs);refine Au func122 ntmps122 Y Y<|λ_ _=>U<|AK [_,_,_] Y Y ξ Y Y Y<|λs=>J Y<|AH λf d b=>U<|Ql Y AiC ((g.le d).any)<|E (oG Y U79 Cv<|b.any) Y<|E (CF Y Y (λr w=>call115 r w) Y<|Agq a m j p k f (i.le d) _) Y<|G Y<|J Y<|Aj<|Ar Y Y<|Y
variable {g3 g4 g5 g7:Nat} {v vx vy vc:Value} {d m:Int} {l:List Ce} {x y co:List Tm}
structure SepE(h:Hp)(g3 g4 g5 g7:Nat)(v vx vy vc:Value)(d m:Int)(l:List Ce)(x y co:List Tm):Prop where
 s3:Seg h [] (⟨g3,0,none⟩:Addr) [v,.w d,vx,vy]
 s4:Seg h [] (⟨g4,0,none⟩:Addr) [vc]
 s5:Seg h [] (⟨g5,0,none⟩:Addr) (Bg m)
 s7:Cell h [] (⟨g7,0,none⟩:Addr) (.func (.func 115) #[] #[.pt g5])
 Q:CxS v h l
 X:ChR vx h x
 Y:ChR vy h y
 C:ChR vc h co
 hn:x.length+y.length<=100000
 ha:Bi x+Bi y<2^2000000
 hc:Bi (GN (A8 (l.map Ce.c)) co)<2^2000000
 hp:Bi co*(Bi x+Bi y)<2^2000000
 hm:m.natAbs<4294967296
theorem Ag3(h:Hp)(E:SepE h g3 g4 g5 g7 v vx vy vc d m l x y co)(a:List Hp) :
  FnV prog 118 #[.pt g3,.pt g4] h a (.bool (EL (l.map Ce.c) d co)):=by
 refine D9 ?_ a;have k:=E.Q.rd.q.rd.one;have j:=E.C.rd.rd.one
 have c:∀a,Seg h a (⟨g3,0,none⟩:Addr) [v]:=λa i u b=>by
  rcases i with _|i
  .simp at b;subst b;exact(E.s3 0 _ Y).any
  .simp at b
 have e:=qC 1 E.s3 Y;have f:∀a,Cell h a (⟨g4,0,none⟩:Addr) vc:=λa=>(E.s4.at0 Y).any;refine Au func118 ntmps118 Y Y<|λ_ _=>U<|G Y<|BF<|Qf FW Y<|Qx (oG Y CV Bd<|c _) Y<|Qf Nq Y<|Ql Y U3 (e _)<|Ql Y Ct (f _)<|Qx (As Y call86 Y<|NP l v vc d co h E.Q.rd E.Q.len E.Q.ids E.C _) Y<|J Y<|Aj<|Ar Y Y<|Y
theorem Ahj(h:Hp)(E:SepE h g3 g4 g5 g7 v vx vy vc d m l x y co)(a:List Hp) :
  FnV prog 119 #[.pt g3,.pt g4,.pt g7] h a (.bool (Ut (l.map Ce.c) m co)):=by
 refine D9 ?_ a;have O:=E.Q.rd.q.rd.one;have M:=E.C.rd.rd.one
 have k:∀a,Seg h a (⟨g3,0,none⟩:Addr) [v]:=λa i u e=>by
  rcases i with _|i
  .simp at e;subst e;exact(E.s3 0 _ Y).any
  .simp at e
 have n:∀a,Cell h a (⟨g4,0,none⟩:Addr) vc:=fun a=>(E.s4.at0 rfl).any;refine Au func119 ntmps119 rfl rfl (fun Q z=>?_);simp only[AW];refine Ax (Qm rfl (BF (Qf FW rfl (Qx (oG rfl CV Bd (k _)) rfl (Ql rfl Ct (n _) (Qc call121 rfl (Pe v vc l co h E.Q E.C E.hc) (fun w f B L r=>?_)))))));obtain⟨b,rfl,g⟩:=r;obtain⟨A,j,c,_,_⟩:=g;have P:=c.rd.rd.one;refine Qx (BI rfl rfl rfl) rfl ?_;refine Qx (As rfl call120 rfl (Md A w 122 [.pointer (some ⟨g7,0,none⟩)] (fun p=>!decide (m∣p.2)) f c.rd (by have:=c.len;omega) (fun K w=>call122 K w) (fun s t a=>Aeu g5 g7 m E.hm s (c.sz t) f (E.s5.le b) (E.s7.le b) a) _)) rfl ?_;refine Qm rfl (Qm rfl (Ao (Aj ?_)));exact Ar rfl rfl (congrArg Value.bool (YG j))
theorem AgU(h:Hp)(E:SepE h g3 g4 g5 g7 v vx vy vc d m l x y co)(a:List Hp) :
  FnV prog 123 #[.pt g5,.pt g4,.pt g3] h a (.bool (!decide (m∣lin (cf co) x-lin (cf co) y))):=by
 refine D9 ?_ a;have M:=E.Q.rd.q.rd.one;have T:=E.C.rd.rd.one;have L:=AA (Ba m.natAbs);have c3:∀a,Seg h a (⟨g3,0,none⟩:Addr) [v,.w d,vx,vy]:=λa=>E.s3.any;have s:∀a,Seg h a (⟨g5,0,none⟩:Addr) (Bg m):=λa=>E.s5.any;have r:∀a,Cell h a (⟨g4,0,none⟩:Addr) vc:=λa=>(E.s4.at0 Y).any;refine Au func123 ntmps123 Y Y<|λ_ _=>U<|J Y<|X<|AS (n:=8) (bs:=[W,W,W,lw,lw,lw,lw,lw]) [W,W,W] Cx V V Y Y<|Qp Y (oG Y Bn Av<|s _)<|QL Y Ct (r _)<|Qp Y (oG Y U87 F7<|c3 _)<|Qo 3 Y<|AE (pre:=[]) Y call45 Y (QR v vx vy d x y h M E.X E.Y E.hn E.ha) Y Y Y Y<|λwd t B R g=>?_;obtain⟨e,rfl,f,p,b,j,u⟩:=g;obtain⟨O,P,rfl,_⟩:=b.rd.rd.ex;have c:Bi co*Bi f<2^2000000:=dr (i6 _ j) E.hp;refine Qa<|Qo 4 Y<|AE (pre:=[]) Y call124 Y (Z4 vc _ co f t (E.C.up e) b c) Y Y Y Y<|λwp Q K S i=>?_;obtain⟨n,rfl,rfl⟩:=i;have A:=N e n;have k:Sz (lin (cf co) f):=Mo (bl (MM (Dc co) _) (ak _)) c H;refine Qa<|Qo 5 Y<|Qx (As Y call116 Y<|Ado m (lin (cf co) f) E.hm k _ _) Y<|Qa<|A7 6 10 V Y (by assumption) Y (Dg Y Y)<|Qo 7 Y<|G Y<|Qa<|Qe<|Ab<|Aj ?_;exact Ar Y Y (by rw[SC p])
end
section
open Go.Lin Go.Wd Go.Sm Go.Ch
theorem SepE.up{h g:Hp}{b c e f:Nat}{v j k i:Value}{d m:Int}{l:List Ce}{x y a:List Tm}(E:SepE h b c e f v j k i d m l x y a)(q:h.le g):SepE g b c e f v j k i d m l x y a:=
 ⟨E.s3.le q,E.s4.le q,E.s5.le q,E.s7.le q,E.Q.up q,E.X.up q,E.Y.up q,E.C.up q,E.hn,E.ha,E.hc,E.hp,E.hm⟩
set_option exponentiation.threshold 4000000 in
theorem TM(v vx vy vc:Value)(d m:Int)(l:List Ce)(x y b:List Tm)(h:Hp)(Q:CxS v h l)(X:ChR vx h x)(Y:ChR vy h y)(C:ChR vc h b)(hn:x.length+y.length<=100000)(ha:Bi x+Bi y<2^2000000)(hc_:Bi (GN (A8 (l.map Ce.c)) b)<2^2000000)(hp:Bi b*(Bi x+Bi y)<2^2000000)(hm:m.natAbs<4294967296)(e:List Hp) :
  FnV prog 61 #[qV v d vx vy,vc,WD m] h e (.bool (decide (0<=m)&&(EL (l.map Ce.c) d b&&(Ut (l.map Ce.c) m b&&!decide (m∣lin (cf b) x-lin (cf b) y))))):=by
 refine D9 ?_ e;have ov:=Q.rd.q.rd.one;have hmS:Sz m:=Sz.of (B:=32) hm H;have osm:=AA (Ba m.natAbs);obtain⟨xa,xc,rfl,_⟩:=X.rd.rd.ex;obtain⟨ya,yc,rfl,_⟩:=Y.rd.rd.ex;obtain⟨ca,cc,rfl,_⟩:=C.rd.rd.ex;obtain⟨T,c⟩:∃T:Nat->Bool,T=fun k=>match k with|0=>decide (0<=m)|1=>EL (l.map Ce.c) d b|2=>Ut (l.map Ce.c) m b|_=>!decide (m∣lin (cf b) x-lin (cf b) y):=⟨_,rfl⟩
 have hTv:(decide (0<=m)&&(EL (l.map Ce.c) d b&&(Ut (l.map Ce.c) m b&&!decide (m∣lin (cf b) x-lin (cf b) y))))=(T 0&&(T 1&&(T 2&&T 3))):=by rw[c];rfl
 rw[hTv];unfold qV;refine Au func61 ntmps61 rfl rfl<|fun w0 hw0=>?_;simp only[AW];refine U<|AK [_,_,_,_] rfl rfl ξ rfl rfl rfl<|fun t=>AK [_] rfl rfl ξ rfl rfl rfl (fun u=>AK [_,_] rfl rfl ξ rfl rfl rfl (fun A=>G rfl (BF (Qx (BI rfl rfl rfl) rfl (BJ [.nilFunc] rfl AfK rfl rfl (fun P=>Bl 0 0 rfl AfK rfl rfl ξ rfl rfl H rfl rfl (Ao (Ak 0 rfl fun h1 l1 hS7=>(Ak 0 rfl fun h2 l2 hS5=>(Ak 0 rfl fun h3 l3 S=>(Ak 0 rfl fun h4 O R=>?_)))))))))));have r:=N l1 (N l2 (N l3 O));have E:SepE h4 t u A P v (.slice xa x.length xc) (.slice ya y.length yc) (.slice ca b.length cc) d m l x y b:=⟨R,S.le O,hS5.le (N l3 O),(hS7.at0 rfl).le (N l2 (N l3 O)),Q.up r,X.up r,Y.up r,C.up r,hn,ha,hc_,hp,hm⟩
 refine U<|Qx (BI rfl rfl rfl) rfl<|Qx (BI rfl rfl rfl) rfl<|Qx (BI rfl rfl rfl) rfl<|Qx (BI rfl rfl rfl) rfl<|AX [(0,_),(1,_),(2,_),(3,_)] [.nilFunc,.nilFunc,.nilFunc,.nilFunc] [_,_,_,_] rfl Aat Acg rfl Z V Qt rfl rfl rfl rfl<|fun i=>G rfl (Ao (AH fun h5 l5 B=>?_));have E:=E.up l5;have L:RdL cU 1 h5 [] (.slice (some ⟨i,0,none⟩) 4 4) [.func (.func 117) #[] #[.pt A],.func (.func 118) #[] #[.pt t,.pt u],.func (.func 119) #[] #[.pt t,.pt u,.pt P],.func (.func 123) #[] #[.pt A,.pt u,.pt t]]:=RdL.built B rfl rfl Hc H;refine Ac<|U<|G rfl<|Qx (EJ (ty:=168) rfl Aat rfl) rfl<|G rfl<|Ao<|Ag ?_;refine AC (fun q sl p K=>∃(k:Nat),4-k=q/\sl=[(17,.slice (some ⟨i,0,none⟩) 4 4),(18,.w 4),(19,.w k)]/\h5.le p/\K=[]/\k<=4/\∀j,j<k->T j=true) (4-0) _ ⟨0,rfl,rfl,Bk,rfl,Z,fun j M=>Z⟩ Qs ?_;rintro q sl p K ⟨k,rfl,rfl,n,rfl,hk,a⟩;refine U<|G rfl<|Ao<|Ac ?_;refine Ay rfl (fun hlt=>?_)<|fun hlt=>?_
 .rcases (Z:k=0\/k=1\/k=2\/k=3) with rfl|rfl|rfl|rfl
  .have s:∀e,Cell p e ((AJ (.slice (some ⟨i,0,none⟩) 4 4)).add (0*1)) (.func (.func 117) #[] #[.pt A]):=fun e=>((L.up n).any (ms:=e)).cell0 (j:=0) σ rfl;refine I<|Ac<|Ag<|U<|Qx (Cm (0) rfl Aat Acg rfl rfl Z Z) rfl<|Ql rfl U24 (s _)<|G rfl<|BF<|G rfl<|Qx (CF rfl rfl (fun z w=>call117 z w) rfl<|Agd A m hmS p (E.up n).s5 _) rfl<|G rfl<|Ao ?_;refine B1 rfl (fun g=>?_)<|fun g=>?_
   .have f:T 0=false:=by rw[c];revert g;cases h:(decide (0<=m))<;>simp_all
    refine U<|G rfl<|Ao<|Aj<|An<|Ae<|Ae<|An<|Ae<|Ar rfl rfl<|bh Value.bool (by simp[f])
   .have f:T 0=true:=by rw[c];revert g;cases h:(decide (0<=m))<;>simp_all
    refine Ah<|D2<|Ad<|Qx (oA rfl) rfl<|G rfl<|Am ?_;exact Aq (4-(0+1)) _ Z ⟨0+1,rfl,rfl,n,rfl,Z,fun j M=>by rcases (Z:j<0\/j=0) with h|rfl;exact a j h;exact f⟩ Qs
  .have s:∀e,Cell p e ((AJ (.slice (some ⟨i,0,none⟩) 4 4)).add (1*1)) (.func (.func 118) #[] #[.pt t,.pt u]):=fun e=>((L.up n).any (ms:=e)).cell0 (j:=1) σ rfl;refine I<|Ac<|Ag<|U<|Qx (Cm (1) rfl Aat Acg rfl rfl Z Z) rfl<|Ql rfl U24 (s _)<|G rfl<|BF<|G rfl<|Qx (CF rfl rfl (fun z w=>call118 z w) rfl<|Ag3 p (E.up n) _) rfl<|G rfl<|Ao ?_;refine B1 rfl (fun g=>?_)<|fun g=>?_
   .have f:T 1=false:=by rw[c];revert g;cases h:(EL (l.map Ce.c) d b)<;>simp_all
    refine U<|G rfl<|Ao<|Aj<|An<|Ae<|Ae<|An<|Ae<|Ar rfl rfl<|bh Value.bool (by simp[f])
   .have f:T 1=true:=by rw[c];revert g;cases h:(EL (l.map Ce.c) d b)<;>simp_all
    refine Ah<|D2<|Ad<|Qx (oA rfl) rfl<|G rfl<|Am ?_;exact Aq (4-(1+1)) _ Z ⟨1+1,rfl,rfl,n,rfl,Z,fun j M=>by rcases (Z:j<1\/j=1) with h|rfl;exact a j h;exact f⟩ Qs
  .have s:∀e,Cell p e ((AJ (.slice (some ⟨i,0,none⟩) 4 4)).add (2*1)) (.func (.func 119) #[] #[.pt t,.pt u,.pt P]):=fun e=>((L.up n).any (ms:=e)).cell0 (j:=2) σ rfl;refine I<|Ac<|Ag<|U<|Qx (Cm (2) rfl Aat Acg rfl rfl Z Z) rfl<|Ql rfl U24 (s _)<|G rfl<|BF<|G rfl<|Qx (CF rfl rfl (fun z w=>call119 z w) rfl<|Ahj p (E.up n) _) rfl<|G rfl<|Ao ?_;refine B1 rfl (fun g=>?_)<|fun g=>?_
   .have f:T 2=false:=by rw[c];revert g;cases h:(Ut (l.map Ce.c) m b)<;>simp_all
    refine U<|G rfl<|Ao<|Aj<|An<|Ae<|Ae<|An<|Ae<|Ar rfl rfl<|bh Value.bool (by simp[f])
   .have f:T 2=true:=by rw[c];revert g;cases h:(Ut (l.map Ce.c) m b)<;>simp_all
    refine Ah<|D2<|Ad<|Qx (oA rfl) rfl<|G rfl<|Am ?_;exact Aq (4-(2+1)) _ Z ⟨2+1,rfl,rfl,n,rfl,Z,fun j M=>by rcases (Z:j<2\/j=2) with h|rfl;exact a j h;exact f⟩ Qs
  .have s:∀e,Cell p e ((AJ (.slice (some ⟨i,0,none⟩) 4 4)).add (3*1)) (.func (.func 123) #[] #[.pt A,.pt u,.pt t]):=fun e=>((L.up n).any (ms:=e)).cell0 (j:=3) σ rfl;refine I<|Ac<|Ag<|U<|Qx (Cm (3) rfl Aat Acg rfl rfl Z Z) rfl<|Ql rfl U24 (s _)<|G rfl<|BF<|G rfl<|Qx (CF rfl rfl (fun z w=>call123 z w) rfl<|AgU p (E.up n) _) rfl<|G rfl<|Ao ?_;refine B1 rfl (fun g=>?_)<|fun g=>?_
   .have f:T 3=false:=by rw[c];revert g;cases h:(!decide (m∣lin (cf b) x-lin (cf b) y))<;>simp_all
    refine U<|G rfl<|Ao<|Aj<|An<|Ae<|Ae<|An<|Ae<|Ar rfl rfl<|bh Value.bool (by simp[f])
   .have f:T 3=true:=by rw[c];revert g;cases h:(!decide (m∣lin (cf b) x-lin (cf b) y))<;>simp_all
    refine Ah<|D2<|Ad<|Qx (oA rfl) rfl<|G rfl<|Am ?_;exact Aq (4-(3+1)) _ Z ⟨3+1,rfl,rfl,n,rfl,Z,fun j M=>by rcases (Z:j<3\/j=3) with h|rfl;exact a j h;exact f⟩ Qs
 .obtain rfl:k=4:=Z
  refine Br<|Ab<|U<|G rfl<|Ao<|Aj<|Ar rfl rfl<|bh Value.bool (by rw[a 0 H,a 1 H,a 2 H,a 3 H];rfl)
def VH(same:Bool)(vch vco:Value)(m:Int):Value:=.agg #[.bool same,vch,vco,.bool (decide (m<0)),sv (Ba m.natAbs)]
theorem Ps(v t u p g:Value)(d m:Int)(x y r c:List Tm)(l:List Ce)(h:Hp)(Q:QsOk v h l)(X:ChR t h x)(Y:ChR u h y)(M:ChR p h r)(C:ChR g h c)(hx:EL (l.map Ce.c) d x=true)(hy:EL (l.map Ce.c) d y=true)(bx:Bi (DV (A8 (l.map Ce.c)) x)<2^2000000)(by_:Bi (DV (A8 (l.map Ce.c)) y)<2^2000000)(zx:bz (l.map Ce.c) x=true)(zy:bz (l.map Ce.c) y=true)(hn:x.length+y.length<=100000)(T:Bi x+Bi y<2^2000000)(A:Bi (GN (A8 (l.map Ce.c)) c)<2^2000000)(hp:Bi c*(Bi x+Bi y)<2^2000000)(hm:m.natAbs<4294967296)(b:List Hp) :
  FnV prog 19 #[.agg #[v],.w d,t,u,VH false p g m] h b (.bool (decide (r.length=0)&&(decide (0<=m)&&(EL (l.map Ce.c) d c&&(Ut (l.map Ce.c) m c&&!decide (m∣lin (cf c) x-lin (cf c) y)))))):=by
 refine D9 ?_ b;have ov:=Q.X.rd.q.rd.one;have B:=AA (Ba m.natAbs);have e:=fun(h':Hp) (q:h.le h')=>TM v t u g d m l x y c h' (Q.X.up q) (X.up q) (Y.up q) (C.up q) hn T A hp hm;have f:=fun(h':Hp) (q:h.le h')=>Jv v t u d x y l h' (Q.up q) (X.up q) (Y.up q) hx hy bx by_;rw[zx,zy]at f;obtain⟨xa,xc,rfl,_⟩:=X.rd.rd.ex;obtain⟨ya,yc,rfl,_⟩:=Y.rd.rd.ex;obtain⟨ha_,hc2,rfl,_⟩:=M.rd.rd.ex;obtain⟨ca,cc,rfl,_⟩:=C.rd.rd.ex;unfold VH;unfold qV at e f;refine Au func19 ntmps19 rfl rfl<|fun w0 hw0=>?_;simp only[AW];refine U<|AK [_] rfl rfl ξ rfl rfl rfl<|fun g5=>AK [_,_,_,_,_] rfl rfl ξ rfl rfl rfl (fun S=>G rfl (BF (E (oG rfl CV Bd (Seg.blk 1 rfl)) rfl (G rfl (G rfl (G rfl (E (AQ Aen [.nl,.w 0,.nl,.nl] [(0,_),(1,_),(2,_),(3,_)] [_,_,_,_] rfl F7 rfl rfl Qt rfl) rfl (BJ [.nl,.w 0,.nl,.nl] rfl F7 rfl rfl (fun z=>?_)))))))));refine Sa 0 [_,_,_,_] F7 rfl (by simp[ov,B]) ?_;refine Ao<|Ak 0 rfl fun h1 l1 j=>(Ak 0 rfl fun s L a=>?_);have k:=N l1 L;have n:∀b,Seg s b (⟨z,0,none⟩:Addr) [v,.w d,.slice xa x.length xc,.slice ya y.length yc]:=fun b=>(j.le L).any;have O:=qC 0 a rfl;have P:=qC 1 a rfl;have R:=qC 2 a rfl
 have s9:∀b,Seg s b ((⟨S,0,none⟩:Addr).add 3) (Bg m):=fun b i v hv=>by
  have:=(a (3+i) v (by rw[ij];exact hv)).any (ms:=b)
  rwa [BD]
 refine Ac<|U<|E (oG rfl U87 F7<|n _) rfl<|E (As rfl call42 rfl<|f s k _) rfl<|G rfl<|Ao<|Ay rfl (fun K=>lj K σ)<|fun K=>Ah (Ab (Ac (U (Qf Kc rfl (Ql rfl U4 (O _) (Ao (AM rfl (Ah (Ab (U (Qf Jb rfl (Ql rfl Ct (P _) (E (EJ (ty:=30) rfl Ct rfl) rfl (G rfl (G rfl ?_)))))))))))))));refine AY (t:=45) rfl (fun hs=>?_)<|fun hs=>?_
 .refine Qg (oG rfl U87 F7<|n _) rfl<|Qg (oF Ke rfl) rfl<|Qg (oL rfl Ct<|R _) rfl<|Qg (oF LC rfl) rfl<|Qg (oG rfl Bn Av<|s9 _) rfl<|Qg (As rfl call61 rfl<|e s k _) rfl<|G rfl<|G rfl<|Ao<|Aj ?_;exact Ar rfl rfl (by rw[bp (show r.length=0 by omega)];rfl)
 .refine Qk rfl<|Qk rfl<|Qk rfl<|Qk rfl<|Qk rfl<|Qk rfl<|G rfl<|G rfl<|Ao<|Aj ?_;exact Ar rfl rfl (by rw[dx (show ¬r.length=0 by omega)];rfl)
theorem V8(v u z j r:Value)(d m:Int)(hd:0<=d/\d<=900)(x y c s:List Tm)(l:List Ce)(h:Hp)(Q:QsOk v h l)(X:ChR u h x)(Y:ChR z h y)(L:ChR j h c)(C:ChR r h s)(hx:EL (l.map Ce.c) d x=true)(hy:EL (l.map Ce.c) d y=true)(bx:Bi (DV (A8 (l.map Ce.c)) x)<2^2000000)(by_:Bi (DV (A8 (l.map Ce.c)) y)<2^2000000)(zx:bz (l.map Ce.c) x=true)(zy:bz (l.map Ce.c) y=true)(hn:x.length+y.length<=100000)(ha:Bi x+Bi y<2^2000000)(R:Bi (DV (A8 (l.map Ce.c)) c)<2^2000000)(hm:Sz m)(b:List Hp) :
  FnV prog 19 #[.agg #[v],.w d,u,z,VH true j r m] h b (.bool ((EL (l.map Ce.c) (d+1) c&&PR (l.map Ce.c) x y c)&&(decide (s.length=0)&&decide (m=0)))):=by
 refine D9 ?_ b;have ov:=Q.X.rd.q.rd.one;have B:=AA (Ba m.natAbs);have n:=fun(h':Hp) (q:h.le h')=>Ab5 v u z j d hd x y c l h' (Q.X.up q) (X.up q) (Y.up q) (L.up q) hn ha R;have f:=fun(h':Hp) (q:h.le h')=>Jv v u z d x y l h' (Q.up q) (X.up q) (Y.up q) hx hy bx by_;rw[zx,zy]at f;obtain⟨xa,xc,rfl,_⟩:=X.rd.rd.ex;obtain⟨ya,yc,rfl,_⟩:=Y.rd.rd.ex;obtain⟨ha_,hc2,rfl,_⟩:=L.rd.rd.ex;obtain⟨ca,cc,rfl,_⟩:=C.rd.rd.ex;unfold VH;unfold qV at n f;refine Au func19 ntmps19 rfl rfl<|fun w0 hw0=>?_;simp only[AW];refine U<|AK [_] rfl rfl ξ rfl rfl rfl<|fun g5=>AK [_,_,_,_,_] rfl rfl ξ rfl rfl rfl (fun g9=>G rfl (BF (E (oG rfl CV Bd (Seg.blk 1 rfl)) rfl (G rfl (G rfl (G rfl (E (AQ Aen [.nl,.w 0,.nl,.nl] [(0,_),(1,_),(2,_),(3,_)] [_,_,_,_] rfl F7 rfl rfl Qt rfl) rfl (BJ [.nl,.w 0,.nl,.nl] rfl F7 rfl rfl (fun A=>?_)))))))));refine Sa 0 [_,_,_,_] F7 rfl (by simp[ov,B]) ?_;refine Ao<|Ak 0 rfl fun h1 l1 k=>(Ak 0 rfl fun t P a=>?_);have p:=N l1 P;have g:∀b,Seg t b (⟨A,0,none⟩:Addr) [v,.w d,.slice xa x.length xc,.slice ya y.length yc]:=fun b=>(k.le P).any;have S:=qC 0 a rfl;have M:=qC 1 a rfl;have T:=qC 2 a rfl
 have s9:∀b,Seg t b ((⟨g9,0,none⟩:Addr).add 3) (Bg m):=fun b i v hv=>by
  have:=(a (3+i) v (by rw[ij];exact hv)).any (ms:=b)
  rwa [BD]
 have e:=n t p;refine Ac<|U<|E (oG rfl U87 F7<|g _) rfl<|E (As rfl call42 rfl<|f t p _) rfl<|G rfl<|Ao<|Ay rfl (fun O=>lj O σ)<|fun O=>Ah (Ab (Ac (U (Qf Kc rfl (Ql rfl U4 (S _) (Ao ?_))))));cases hb:(EL (l.map Ce.c) (d+1) c&&PR (l.map Ce.c) x y c)
 all_goals rw[hb]at e
 .refine A4 rfl<|U<|E (oG rfl U87 F7<|g _) rfl<|E (BI rfl rfl rfl) rfl<|G rfl<|BF<|G rfl<|Qf Jb rfl<|Ql rfl Ct (M _)<|E (CF rfl rfl (fun K w=>call59 K w) rfl<|e _) rfl<|G rfl<|Qk rfl<|Qk rfl<|Qk rfl<|Qk rfl<|G rfl<|G rfl<|Qk rfl<|Qk rfl<|Qk rfl<|Qk rfl<|G rfl<|G rfl<|Ao<|Aj<|Ae<|Ar rfl rfl<|rfl
 .refine A4 rfl<|U<|E (oG rfl U87 F7<|g _) rfl<|E (BI rfl rfl rfl) rfl<|G rfl<|BF<|G rfl<|Qf Jb rfl<|Ql rfl Ct (M _)<|E (CF rfl rfl (fun K w=>call59 K w) rfl<|e _) rfl<|G rfl<|Qg (oF Ke rfl) rfl<|Qg (oL rfl Ct<|T _) rfl<|Qg (EJ (ty:=30) rfl Ct rfl) rfl<|Qg (Cq rfl rfl rfl) rfl<|G rfl<|G rfl ?_;refine AY (t:=35) rfl (fun hs=>?_)<|fun hs=>?_
  .refine Qg (oF LC rfl) rfl<|Qg (oG rfl Bn Av<|s9 _) rfl<|Qg (As rfl call60 rfl<|Df m hm _ _) rfl<|Qg (Cq rfl rfl rfl) rfl<|G rfl<|G rfl<|Ao<|Aj<|Ae ?_;exact Ar rfl rfl (by rw[bp (show s.length=0 by omega)];exact bh Value.bool (by simp only[Bool.true_and];exact fy.2 di))
  .refine Qk rfl<|Qk rfl<|Qk rfl<|Qk rfl<|G rfl<|G rfl<|Ao<|Aj<|Ae ?_;exact Ar rfl rfl (by rw[dx (show ¬s.length=0 by omega)];rfl)
def iD(L:List Nat):List Int:=L.map Int.ofNat
theorem Ds(L:List Nat):(iD L).length=L.length:=by simp[iD]
theorem YW{L:List Nat}{k:Nat}(h:k<L.length):(iD L)[k]'(by rw[Ds];exact h)=(L[k]:Int):=by simp[iD]
theorem MY(v:Value)(L:List Nat)(h:Hp)(R:RdL cI 1 h [] v (iD L))(O:L.length<=1000000):FnT prog 125 #[v] h [] (λr d a=>h=d/\a=[]/\RdL cI 1 h [] r (iD (DK L))):=by
 refine Au func125 ntmps125 Y Y<|λ_ _=>U<|J Y<|X<|Ag ?_;refine AC (λq s d a=>∃(k:Nat) (w:Value),k=q/\s=[(0,w)]/\h=d/\a=[]/\k<=L.length/\RdL cI 1 h [] w (iD (L.take k))/\DK (L.take k)=DK L) L.length _ ⟨L.length,v,Y,Y,Y,Y,ak _,by rw[fz];exact R,by rw[fz]⟩ Qs ?_;rintro q s d a ⟨k,w,rfl,rfl,rfl,rfl,M,Rw,l⟩;have i:(iD (L.take k)).length=k:=by rw[Ds,bf];omega
 have f:Rd h [] w 1 k ((iD (L.take k)).flatMap cI):=by have:=Rw.rd;rwa [i]at this
 have P:=f.one;obtain⟨t,u,rfl,K⟩:=f.ex;refine X<|U<|G Y<|E (EJ (ty:=22) Y Bb Y) Y<|D Y Y<|AY (t:=6) Y (λm=>?_)<|λm=>?_
 .have A:0<k:=Z
  obtain⟨j,rfl⟩:∃j,k=j+1:=⟨k-1,Z⟩
  have g:j<L.length:=Z
  have b:L.take (j+1)=L.take j++[L[j]]:=ap g
  have y:∀n,Cell h n ((AJ (.slice t (j+1) u)).add (j*1)) (.w (L[j]:Int)):=λn=>by
   have z:j<(iD (L.take (j+1))).length:=Z
   have:=(Rw.any (ms:=n)).cell0 z (u:=.w (L[j]:Int)) (by rw[YW (by rw[bf];omega)];simp[cI]);exact this
  refine Qg (Ap Y Y) Y<|Qg (Ap Y Y) Y<|Qg (EJ (ty:=22) Y Bb Y) Y<|Qg (oS Y) Y<|Qg (BP (j) f.any Y Bb By Y Y) Y<|Qg (oL Y U3<|y _) Y<|Qg (Cq Y Y Y) Y<|J Y<|Ay Y (λp=>?_)<|λp=>?_
  .have c:L[j]=0:=Z
   have x:RdL cI 1 h [] (C6 1 (.slice t (j+1) u) 0 j) (iD (L.take j)):=by
    have:=Rw.sub_ (i:=0) (j:=j) Z Z;rw[js,ix]at this;have e:(iD (L.take (j+1))).take j=iD (L.take j):=by unfold iD;rw[<-List.map_take,List.take_take];congr 2;omega
    rwa [e]at this
   refine I<|Ag<|Ad<|D Y Y<|E (EJ (ty:=22) Y Bb Y) Y<|E (oS Y) Y<|E (DW (j) f.any Y Bb By Y Y Z Z) Y<|G Y<|Am<|Ai ?_;exact Aq j _ Z ⟨j,_,Y,Y,Y,Y,Z,x,by rw[<-l,b,c,Fz]⟩ Qs
  .have c:L[j]≠0:=λe=>p (by rw[e];rfl);refine C<|Ab<|U<|G Y<|J Y<|Aj ?_;exact Ar Y Y (⟨Y,Y,by rw[<-l,b,GG _ c,<-b];exact Rw⟩)
 .obtain rfl:k=0:=Z
  refine DM Y Y<|DM Y Y<|DM Y Y<|Qk Y<|J Y<|AM Y<|C<|Ab<|U<|G Y<|J Y<|Aj ?_;exact Ar Y Y (⟨Y,Y,by rw[<-l,List.take_zero];rw[List.take_zero]at Rw;exact Rw⟩)
theorem FJ(j:Nat):(256:Nat)^(2*j)=65536^j:=by rw[Nat.pow_mul]
theorem Gb{L:List Nat}{m j:Nat}(a:L.length=j)(b:val 65536 L=m%65536^j):val 65536 (L++[m/65536^j%65536])=m%65536^(j+1):=by rw[Ey,a,b,Nat.pow_succ,Nat.mod_mul];show _+65536^j*(m/65536^j%65536+65536*0)=_;rw[Nat.mul_zero,Nat.add_zero]
theorem HK(x:Int)(hx:Sz x)(h:Hp):FnT prog 63 #[WD x] h [] (λr k c=>h.le k/\c=[]/\RdL cI 1 k [] r (iD (dg 65536 x.natAbs))):=by
 have osx:=AA (Ba x.natAbs);obtain⟨m,hm⟩:∃m,x.natAbs=m:=⟨_,Y⟩
 obtain⟨n,v⟩:∃n,(Ba m).length=n:=⟨_,Y⟩
 have hnb:n<=400000:=by rw[<-v,<-hm];exact hx
 have e:m<256^n:=by have:=(Cp (b:=256) H n m).1 (by rw[<-FA,v];exact ak _);exact this
 unfold WD;rw[hm]at osx ⊢;refine Au func63 ntmps63 Y Y<|λ_ _=>U<|AK [_,_] Y Y ξ Y Y Y<|λA=>J Y<|AH λh1 l1 S=>?_;have Q:=qD 1 S Y;refine U<|G Y<|BF<|Qf EZ Y<|Ql Y U9 (Q _ (Bk) _)<|E (Ig n v Y U9 Y) Y<|J Y<|X<|U<|G Y<|J Y<|Ag<|BW ?_;refine AC (λq sl k c=>∃(j:Nat) (w:Value) (mo:Hp) (L:List Nat),n+2-2*j=q/\sl=[(1,.pt A),(3,w),(5,.w ((n:Int)-2*j))]/\h1=k/\c=[mo]/\2*j<=n+1/\L.length=j/\(∀a∈L,a<65536)/\val 65536 L=m%65536^j/\OwnL cI 1 3 mo w (iD L)) (n+2-0) [(1,.pt A),(3,.nl),(5,.w n)] ⟨0,_,_,[],Z,by rw[show(n:Int)-2*(0:Nat)=n by omega],Y,Y,Z,Y,by simp,by rw[jr,Nat.mod_one];rfl,OwnL.nil Bf⟩ Qs ?_;rintro q sl k c ⟨j,w,mo,L,rfl,rfl,rfl,rfl,hj,B,d,M,K⟩;have ow:=K.o1;have hol:(iD L).length<=1000000:=by rw[Ds];omega
 refine X<|U<|G Y<|J Y<|Ay Y (λhgt=>?_)<|λhgt=>?_
 .have hjn:2*j<n:=Z
  have t:n-1-2*j<(Ba m).length:=Z
  have P:=SP t;rw[v,show n-1-(n-1-2*j)=2*j by omega,FJ]at P;obtain⟨g,l⟩:∃g,((Ba m)[n-1-2*j]).toNat=g:=⟨_,Y⟩
  rw[l]at P;have ha0b:g<256:=Z
  refine I<|X<|Ag<|U<|Qf EZ Y<|Ql Y U9 (Q _ (Bk) _)<|G Y<|E (oS Y) Y ?_;refine E (DY (Jy (l:=Ba m) (n-1-2*j) Y U9 Y Y Z t) (by rw[l])) rfl ?_;refine E (RQ Y U5 U3 Y<|EO Z) Y<|J Y<|X<|U<|G Y<|J Y<|Ay Y (λs=>?_)<|λs=>?_
  .have u:n-2-2*j<(Ba m).length:=Z
   have b1:=SP u;rw[v,show n-1-(n-2-2*j)=2*j+1 by omega,Nat.pow_succ,FJ,<-Nat.div_div_eq_div_mul]at b1;obtain⟨i,p⟩:∃i,((Ba m)[n-2-2*j]).toNat=i:=⟨_,Y⟩
   rw[p]at b1;have ha1b:i<256:=Z
   have hd:g+256*i=m/65536^j%65536:=Z
   have y:(Value.w ((g:Int)+256*i))=.w ((m/65536^j%65536:Nat):Int):=by rw[<-hd];congr 1
   refine Ad<|G Y<|Qf EZ Y<|Ql Y U9 (Q _ (Bk) _)<|G Y<|E (oS Y) Y ?_;refine E (DY (Jy (l:=Ba m) (n-2-2*j) Y U9 Y Y Z u) (by rw[p])) rfl ?_;refine E (RQ Y U5 U3 Y<|EO Z) Y<|E (oM Y) Y<|E (DY (oA Y) y) Y<|G Y<|HM<|D Y Y<|AB [_] Y Bb By Y ξ Y Y Z Y Y Y<|λR=>AL 1 K (RdL.one Bf (x:=((m/65536^j%65536:Nat):Int)) Mh Y) Y Bb By Y Z Y Y Y BY (by simp only[ae];omega) (by simp only[ae];omega) rfl rfl rfl<|λz f b=>?_;have ow2:=b.o1;refine G Y<|Am<|D2<|Ad<|G Y<|E (oS Y) Y<|G Y<|Am<|AU ?_;exact Aq (n+2-2*(j+1)) [(1,.pt A),(3,z),(5,.w ((n:Int)-2*j-2))] Z ⟨j+1,z,f,L++[m/65536^j%65536],Y,by rw[show(n:Int)-2*j-2=n-2*(j+1:Nat) by omega],Y,Y,Z,by simp[B],λa T=>(bi.1 T).elim (d a) (λq=>by rw[bj.1 q];exact f6 _ H),Gb B M,by rw[show iD (L++[m/65536^j%65536])=iD L++[((m/65536^j%65536:Nat):Int)] by simp[iD]];exact b⟩ Qs
  .have hn1:n=2*j+1:=Z
   have hd:g=m/65536^j%65536:=by
    have:m/65536^j<256:=by rw[hn1,Nat.pow_succ,FJ]at e;exact Nat.div_lt_of_lt_mul e
    rw[P,dv this,dv Z]
   rw[hd];refine I<|Ad<|D Y Y<|AB [_] Y Bb By Y ξ Y Y Z Y Y Y<|λR=>AL 1 K (RdL.one Bf (x:=((m/65536^j%65536:Nat):Int)) Mh Y) Y Bb By Y Z Y Y Y BY (by simp only[ae];omega) (by simp only[ae];omega) rfl rfl rfl<|λz f b=>?_;have ow2:=b.o1;refine G Y<|Am<|D2<|Ad<|G Y<|E (oS Y) Y<|G Y<|Am<|AU ?_;exact Aq (n+2-2*(j+1)) [(1,.pt A),(3,z),(5,.w ((n:Int)-2*j-2))] Z ⟨j+1,z,f,L++[m/65536^j%65536],Y,by rw[show(n:Int)-2*j-2=n-2*(j+1:Nat) by omega],Y,Y,Z,by simp[B],λa T=>(bi.1 T).elim (d a) (λq=>by rw[bj.1 q];exact f6 _ H),Gb B M,by rw[show iD (L++[m/65536^j%65536])=iD L++[((m/65536^j%65536:Nat):Int)] by simp[iD]];exact b⟩ Qs
 .have hmj:m<65536^j:=by rw[<-FJ];exact b7 e<|dn H Z
  rw[dv hmj]at M;have hst:DK L=dg 65536 m:=by rw[DT H d,M]
  refine C<|Ab<|U<|G Y<|BX K λh2 l2 hR=>Qc call125 Y (MY w L h2 hR Z)<|λr h3 ms3 l3 hF=>?_;obtain⟨rfl,rfl,O⟩:=hF;rw[hst]at O;have or_:=O.rd.one;refine J Y<|Aj<|Ar Y Y (⟨N l1 l2,Y,O⟩)
theorem I8{n:Nat}(h:n≠0):Ba n=Ba (n/256)++[UInt8.ofNat (n%256)]:=by unfold Ba;rw[GB H h];simp
theorem Af5{b:Nat}(c:2<=b):∀(k n:Nat),(dg b n).getD k 0=n/b^k%b:=by
 intro k
 induction k with
 | zero=>
  intro n;by_cases a:n=0
  .subst a;simp[Ib]
  .rw[GB c a];simp
 | succ k ih=>
  intro n;by_cases a:n=0
  .subst a;simp[Ib]
  .rw[GB c a];show(dg b (n/b)).getD k 0=_;rw[ih,Nat.div_div_eq_div_mul,Nat.pow_succ,Nat.mul_comm b]
theorem Acd{b n i:Nat}(f:2<=b)(h:i<(dg b n).length):n/b^i≠0:=by
 have g:n≠0:=λe=>by subst e;simp[Ib]at h
 have a:=LS f g;have c:b^i<=b^((dg b n).length-1):=dn Z Z;have d:0<b^i:=jc Z;have:=Nat.div_pos (bl c a) d;omega
def WS(neg:Bool)(m:Nat):Value:=if m=0 then WD 0 else .agg #[.bool neg,sv (Ba m)]
theorem Uw{neg:Bool}{x:Int}(h:x≠0->neg=decide (x<0)):WS neg x.natAbs=WD x:=by
 unfold WS;by_cases e:x=0
 .subst e;rfl
 .rw[af Z,h e];rfl
theorem Hw(neg:Bool)(v:Value)(L:List Nat)(m:Nat)(h:Hp)(R:RdL cI 1 h [] v (iD L))(hn:L.length<=900000)(hl:∀a∈L,a<65536)(hv:val 65536 L=m):FnT prog 64 #[.bool neg,v] h [] (λr h' j=>h.le h'/\j=[]/\r=WS neg m):=by
 have hW:DK L=dg 65536 m:=by rw[DT H hl,hv]
 have hWl:(dg 65536 m).length<=L.length:=by rw[Cp H,<-hv];exact Kn H hl
 have ov:=R.rd.one;refine Au func64 ntmps64 Y Y<|λ_ _=>U<|BJ [.bool false,.es] Y Av Y Y<|λP=>BF<|G Y<|Qc call125 Y (MY v L h R Z)<|λr h1 ms1 l1 hF=>?_;obtain⟨rfl,rfl,RT⟩:=hF;rw[hW]at RT;obtain⟨n,hn2⟩:∃n,(dg 65536 m).length=n:=⟨_,Y⟩
 have l:Rd h [] r 1 n ((iD (dg 65536 m)).flatMap cI):=by have:=RT.rd;rwa [Ds,hn2]at this
 have or_:=RT.rd.one;refine J Y<|X<|U<|G Y<|E (Aw l.any Y Bb Y) Y<|J Y<|Ay Y (λhz=>?_)<|λhz=>?_
 .have z:m=0:=by have:(dg 65536 m)=[]:=gu.1 Z;exact(H9 H).1 this
  refine U<|E (AQ JP [.bool false,.es] [] [_,_] Y Av Y Y Qt Y) Y ?_;refine Sa 0 [_,_] Av Y (by simp[Value.oneCell']) ?_;refine Ao<|Aj<|Ae ?_;exact BC (vs:=[_,_]) 0 Y Y Bn Y Av Y Y (⟨Bk,Y,by rw[z];rfl⟩)
 .have hn0:n≠0:=λe=>hz (by rw[e];rfl);have z:m≠0:=λe=>hn0 (by rw[<-hn2,e];rfl)
  have hq0:m/65536^n=0:=by have:=(Cp (b:=65536) H n m).1 Z;exact gc this
  refine I<|U<|J Y<|X<|U<|G Y<|E (Aw l.any Y Bb Y) Y<|E (oS Y) Y<|J Y<|Ag<|BW ?_;refine AC (λq sl h' j=>∃(k:Nat) (w:Value) (mo:Hp),k=q/\sl=[(0,.bool neg),(1,r),(4,.pt P),(5,w),(6,.w ((k:Int)-1))]/\h=h'/\j=[mo,BE P 33 (Bg 0)]/\k<=n/\OwnL cU8 1 5 mo w (Ba (m/65536^k))) n _ ⟨n,_,_,Y,Y,Y,Y,ak _,by rw[hq0];exact OwnL.nil G6⟩ Qs ?_;rintro q sl h' j ⟨k,w,mo,rfl,rfl,rfl,rfl,hk,p⟩;have ow:=p.o1;refine X<|U<|G Y<|J Y<|Ay Y (λhge=>?_)<|λhge=>?_
  .obtain⟨i,rfl⟩:∃i,k=i+1:=⟨k-1,Z⟩
   have y:i<(dg 65536 m).length:=Z
   obtain⟨d,hd⟩:∃d,m/65536^i%65536=d:=⟨_,Y⟩
   obtain⟨s,u⟩:∃s,m/65536^i=s:=⟨_,Y⟩
   have K:s≠0:=by rw[<-u];exact Acd H y
   have M:m/65536^(i+1)=s/65536:=by rw[Nat.pow_succ,<-Nat.div_div_eq_div_mul,u]
   rw[M]at p;rw[u]at hd
   have O:∀ms,Cell h ms ((AJ r).add (i*1)) (.w (d:Int)):=λms=>by
    have h1:i<(iD (dg 65536 m)).length:=by rw[Ds];omega
    have:=(RT.any (ms:=ms)).cell0 h1 (u:=.w (d:Int)) (by rw[YW y];have:=Af5 (b:=65536) H i m;rw[u,hd]at this;simp[List.getD,y]at this;simp[cI,this]);exact this
   have hdb:d<65536:=Z
   have q1:((d:Int)/256)=((d/256:Nat):Int):=Z
   have q2:((d:Int)%256)=((d%256:Nat):Int):=Z
   have c8:IntKind.u8.wrap ((d:Int)/256)=(((UInt8.ofNat (d/256)).toNat:Nat):Int):=by rw[q1];simp[IntKind.wrap,IntKind.bits,IntKind.signed]
   have c0:IntKind.u8.wrap ((d:Int)%256)=(((UInt8.ofNat (d%256)).toNat:Nat):Int):=by rw[q2];simp[IntKind.wrap,IntKind.bits,IntKind.signed]
   have S:∀t,t<=s->(Ba t).length<=2000000:=λt ht=>by
    have h1:=Er (b:=256) H (bl ht (by rw[<-u];exact jq _ _):t<=m)
    have h2:(dg 256 m).length<=2*n:=(Cp (b:=256) H _ _).2 (by
     have:=(Cp (b:=65536) H n m).1 Z
     rwa [FJ])
    rw[FA];omega
   have hol1:=S (s/65536) (jq _ _);have f:=S (s/256) (jq _ _);refine I<|X<|Ag<|X<|U<|D Y Y<|E (Aw l.any Y Bb Y) Y<|E (oS Y) Y<|D Y Y<|AY (t:=25) Y (λhlt=>?_)<|λhlt=>?_
   .have hq:s/65536≠0:=by rw[<-M];exact Acd H Z
    have B:s/256≠0:=Z
    refine DM Y Y<|DM Y Y<|Qk Y<|J Y<|A4 Y<|Ad<|D Y Y<|G Y<|E (BP (i) l.any Y Bb By Y Y) Y<|Ql Y U3 (O _)<|E (Ek Y Y Y Z Z) Y<|E (Eu Y U3 U5 Y) Y<|AB [_] Y IK Y4 Y ξ Y Y Z Y Y Y<|λg39=>AL 1 p (RdL.one G6 (x:=UInt8.ofNat (d/256)) Mh Y) Y IK Y4 Y Z Y Y Y Jw (by simp only[ae];omega) (by simp only[ae];omega) rfl rfl rfl<|λw2 mo2 c=>?_;rw[show Ba (s/65536)++[UInt8.ofNat (d/256)]=Ba (s/256) by rw[I8 B,show s/256/256=s/65536 by omega,show s/256%256=d/256 by omega]]at c;have ow2:=c.o1;have A:=f;refine G Y<|HM<|D Y Y<|G Y<|E (BP (i) l.any Y Bb By Y Y) Y<|Ql Y U3 (O _)<|E (Eh Y Y Y Z Z) Y<|E (Ea c0 Y U3 U5 Y) Y<|AB [_] Y IK Y4 Y ξ Y Y Z Y Y Y<|λQ=>AL 2 c (RdL.one G6 (x:=UInt8.ofNat (d%256)) Mh Y) Y IK Y4 Y Z Y Y Y Jw (by simp only[ae];omega) (by simp only[ae];omega) rfl rfl rfl<|λx g b=>?_;rw[show Ba (s/256)++[UInt8.ofNat (d%256)]=Ba s by rw[I8 K,show d%256=s%256 by omega]]at b;have ow3:=b.o1;refine G Y<|Am<|D2<|Ad<|G Y<|E (oS Y) Y<|G Y<|Am<|AU<|AU ?_;exact Aq i [(0,.bool neg),(1,r),(4,.pt P),(5,x),(6,.w ((i:Int)+1-1-1))] Z ⟨i,x,g,Y,by rw[show(i:Int)+1-1-1=i-1 by omega],Y,Y,Z,by rw[u];exact b⟩ Qs
   .have hq:s/65536=0:=by
     rw[<-M];have:i+1=n:=Z
     rw[this];exact hq0
    refine Qg (Ap Y Y) Y<|Qg (Ap Y Y) Y<|Qg (BP (i) l.any Y Bb By Y Y) Y<|Qg (oL Y U3<|O _) Y<|Qg (NK Y Y Y) Y<|J Y<|Ay Y (λT=>?_)<|λT=>?_
    .have B:s/256≠0:=Z
     refine Ad<|D Y Y<|G Y<|E (BP (i) l.any Y Bb By Y Y) Y<|Ql Y U3 (O _)<|E (Ek Y Y Y Z Z) Y<|E (Ea c8 Y U3 U5 Y) Y<|AB [_] Y IK Y4 Y ξ Y Y Z Y Y Y<|λg39=>AL 1 p (RdL.one G6 (x:=UInt8.ofNat (d/256)) Mh Y) Y IK Y4 Y Z Y Y Y Jw (by simp only[ae];omega) (by simp only[ae];omega) rfl rfl rfl<|λw2 mo2 c=>?_;rw[show Ba (s/65536)++[UInt8.ofNat (d/256)]=Ba (s/256) by rw[I8 B,show s/256/256=s/65536 by omega,show s/256%256=d/256 by omega]]at c;have ow2:=c.o1;have A:=f;refine G Y<|HM<|D Y Y<|G Y<|E (BP (i) l.any Y Bb By Y Y) Y<|Ql Y U3 (O _)<|E (Eh Y Y Y Z Z) Y<|E (Ea c0 Y U3 U5 Y) Y<|AB [_] Y IK Y4 Y ξ Y Y Z Y Y Y<|λQ=>AL 2 c (RdL.one G6 (x:=UInt8.ofNat (d%256)) Mh Y) Y IK Y4 Y Z Y Y Y Jw (by simp only[ae];omega) (by simp only[ae];omega) rfl rfl rfl<|λx g b=>?_;rw[show Ba (s/256)++[UInt8.ofNat (d%256)]=Ba s by rw[I8 K,show d%256=s%256 by omega]]at b;have ow3:=b.o1;refine G Y<|Am<|D2<|Ad<|G Y<|E (oS Y) Y<|G Y<|Am<|AU<|AU ?_;exact Aq i [(0,.bool neg),(1,r),(4,.pt P),(5,x),(6,.w ((i:Int)+1-1-1))] Z ⟨i,x,g,Y,by rw[show(i:Int)+1-1-1=i-1 by omega],Y,Y,Z,by rw[u];exact b⟩ Qs
    .have e0:Ba (s/65536)=Ba (s/256):=by rw[show s/65536=0 by omega,show s/256=0 by omega]
     rw[e0]at p;have holw:=f;refine I<|Ad<|D Y Y<|G Y<|E (BP (i) l.any Y Bb By Y Y) Y<|Ql Y U3 (O _)<|E (Eh Y Y Y Z Z) Y<|E (Ea c0 Y U3 U5 Y) Y<|AB [_] Y IK Y4 Y ξ Y Y Z Y Y Y<|λQ=>AL 1 p (RdL.one G6 (x:=UInt8.ofNat (d%256)) Mh Y) Y IK Y4 Y Z Y Y Y Jw (by simp only[ae];omega) (by simp only[ae];omega) rfl rfl rfl<|λx g b=>?_;rw[show Ba (s/256)++[UInt8.ofNat (d%256)]=Ba s by rw[I8 K,show d%256=s%256 by omega]]at b;have ow3:=b.o1;refine G Y<|Am<|D2<|Ad<|G Y<|E (oS Y) Y<|G Y<|Am<|AU ?_;exact Aq i [(0,.bool neg),(1,r),(4,.pt P),(5,x),(6,.w ((i:Int)+1-1-1))] Z ⟨i,x,g,Y,by rw[show(i:Int)+1-1-1=i-1 by omega],Y,Y,Z,by rw[u];exact b⟩ Qs
  .obtain rfl:k=0:=Z
   rw[jr,Nat.div_one]at p;have hRb:=(p.rd (h:=h) (ms:=[mo,BE P 33 (Bg 0)]) (.head _)).rd;have osb:=AA (Ba m);refine C<|Ab<|U<|D Y Y<|E (Vs hRb Y Y IK U5 U9 Y) Y<|E (AQ JP [.bool false,.es] [(0,_),(1,_)] [_,_] Y Av Y Y Qt Y) Y ?_;refine Sa 1 [_,_] Av Y (by simp[ov,AA,or_,ow,osb]) ?_;refine Ao<|Aj<|AU ?_;exact BC (vs:=[_,_]) 0 Y Y Bn Y Av Y Y (⟨Bk,Y,by unfold WS;rw[af z]⟩)
theorem AcU(x:Int)(hx:Cb x)(h:Hp):FnT prog 25 #[.int .i64 x] h [] (λr s c=>h.le s/\c=[]/\r=WD x):=by
 obtain⟨m,hm⟩:∃m,x.natAbs=m:=⟨_,Y⟩
 have l:m<18446744073709551616:=by have:=hx.1;have:=hx.2;omega
 have S:WS (decide (x<0)) m=WD x:=by rw[<-hm];exact Uw λ_=>rfl
 have hx1:=hx.1;have hx2:=hx.2
 have hu:IntKind.u64.wrap x=if x<0 then x+18446744073709551616 else x:=by by_cases hn:x<0<;>simp[IntKind.wrap,IntKind.bits,IntKind.signed,hn]<;>omega
 refine Au func25 ntmps25 Y Y<|λw0 hw0=>?_;simp only[AW];by_cases d:x<0
 .rw[ah d]at hu;have hn2:IntKind.u64.wrap (-(x+18446744073709551616))=(m:Int):=by simp[IntKind.wrap,IntKind.bits,IntKind.signed];omega
  refine U<|BJ [.bool false,.es] Y Av Y Y<|λn=>BF<|G Y<|BF<|G Y<|E (Ea hu Y U3 FM Y) Y<|J Y<|X<|U<|G Y<|J Y<|Ay Y (λg=>?_)<|λg=>lj (d) g;refine Ad<|G Y<|E (Yr hn2 Y Y) Y<|J Y<|X<|Ag<|BW ?_;refine AC (λq sl s c=>∃(j p:Nat) (w:Value) (M:Hp) (L:List Nat),p=q/\sl=[(0,.w x),(2,.pt n),(3,w),(4,.int .u64 (p:Int))]/\h=s/\c=[M,BE n 33 (Bg 0)]/\p=m/65536^j/\L.length=j/\(j=0\/m/65536^(j-1)≠0)/\(∀a∈L,a<65536)/\val 65536 L=m%65536^j/\OwnL cI 1 3 M w (iD L)) m [(0,.w x),(2,.pt n),(3,.nl),(4,.int .u64 (m:Int))] ⟨0,m,_,_,[],Y,Y,Y,Y,by simp,rfl,.inl rfl,by simp,by rw[jr,Nat.mod_one];rfl,OwnL.nil Bf⟩ Qs ?_;rintro q sl s c ⟨j,p,w,M,L,rfl,rfl,rfl,rfl,k,R,y,i,B,u⟩
  have T:j<=4:=by
   rcases y with Q|Q
   .omega
   .refine ax λg=>Q<|gc<|b7 l ?_;exact bl (show 18446744073709551616<=65536^4 by decide)<|dn H Z
  have A:p<18446744073709551616:=by rw[k];exact dr (jq _ _) l
  have ow:=u.o1;have hol:(iD L).length<=1000000:=by rw[Ds];omega
  refine X<|U<|G Y<|J Y<|Ay Y (λv=>?_)<|λv=>?_
  .have b:p≠0:=Z
   have g:IntKind.i64.wrap (((p%65536:Nat):Int))=((p%65536:Nat):Int):=by
    obtain⟨t,ht⟩:∃t,p%65536=t:=⟨_,Y⟩
    have:t<65536:=Z
    rw[ht];simp[IntKind.wrap,IntKind.bits,IntKind.signed];omega
   refine Ah (Ab (Ag (Ax (Qm rfl (Qm rfl (Qx (QK (a:=p) (b:=65536) rfl rfl rfl (by decide)) rfl (Qx (Ea g rfl FM U3 rfl) rfl (AB [_] rfl Bb By rfl (by rfl) rfl rfl (by omega) rfl rfl rfl (fun g17=>AL 1 u (RdL.one Bf (x:=((p%65536:Nat):Int)) Mh rfl) rfl Bb By rfl (by omega) rfl rfl rfl BY (by simp only[length_singleton];omega) (by simp only[length_singleton];omega) rfl rfl rfl (fun w2 O f=>?_))))))))));have ow2:=f.o1;refine Qm rfl (HM (Qm rfl (Qx (QQ (a:=p) (b:=65536) rfl rfl rfl A (by decide)) rfl (Qm rfl (Am (Ai (AU ?_)))))));exact Aq (p/65536) _ (by omega) ⟨j+1,p/65536,w2,O,L++[p%65536],rfl,rfl,rfl,rfl,by rw[k,Nat.pow_succ,Nat.div_div_eq_div_mul],by simp[R],.inr (by rw[Nat.add_sub_cancel,<-k];exact b),fun a ha=>(List.mem_append.1 ha).elim (i a) (fun q=>by rw[List.mem_singleton.1 q];exact Nat.mod_lt _ (by decide)),by rw[k];exact Gb R B,by rw[show iD (L++[p%65536])=iD L++[((p%65536:Nat):Int)] by simp[iD]];exact f⟩ Qs
  .have b:p=0:=Z
   have z:m<65536^j:=by
    rw[k]at b;rcases Nat.div_eq_zero_iff.1 b with e|e
    .exact lj e<|Nat.ne_of_gt<|jc H
    .exact e
   rw[dv z]at B;refine C<|Ab<|U<|D Y Y<|G Y<|BX u λh2 l2 hR=>Qc call64 Y (Hw (decide<|x<0) w L m h2 hR Z i B)<|λr h3 ms3 l3 hF=>?_;obtain⟨K,rfl,rfl⟩:=hF;rw[S];have P:=AA (Ba x.natAbs);refine Sa 0 [_,_] Av Y (by simp[AA,ow,P]) ?_;refine Ao<|Aj<|BC (vs:=[_,_]) 0 Y Y Bn Y Av Y Y (⟨N l2 K,Y,Y⟩)
 .rw[af d]at hu;have hxm:x=(m:Int):=Z
  have hu2:IntKind.u64.wrap x=(m:Int):=by rw[hu,hxm]
  refine U<|BJ [.bool false,.es] Y Av Y Y<|λn=>BF<|G Y<|BF<|G Y<|E (Ea hu2 Y U3 FM Y) Y<|J Y<|X<|U<|G Y<|J Y<|Ay Y (λg=>lj g<|d)<|λg=>I<|X<|Ag<|BW ?_;refine AC (λq sl s c=>∃(j p:Nat) (w:Value) (M:Hp) (L:List Nat),p=q/\sl=[(0,.w x),(2,.pt n),(3,w),(4,.int .u64 (p:Int))]/\h=s/\c=[M,BE n 33 (Bg 0)]/\p=m/65536^j/\L.length=j/\(j=0\/m/65536^(j-1)≠0)/\(∀a∈L,a<65536)/\val 65536 L=m%65536^j/\OwnL cI 1 3 M w (iD L)) m [(0,.w x),(2,.pt n),(3,.nl),(4,.int .u64 (m:Int))] ⟨0,m,_,_,[],Y,Y,Y,Y,by simp,rfl,.inl rfl,by simp,by rw[jr,Nat.mod_one];rfl,OwnL.nil Bf⟩ Qs ?_;rintro q sl s c ⟨j,p,w,M,L,rfl,rfl,rfl,rfl,k,R,y,i,B,u⟩
  have T:j<=4:=by
   rcases y with Q|Q
   .omega
   .refine ax λg=>Q<|gc<|b7 l ?_;exact bl (show 18446744073709551616<=65536^4 by decide)<|dn H Z
  have A:p<18446744073709551616:=by rw[k];exact dr (jq _ _) l
  have ow:=u.o1;have hol:(iD L).length<=1000000:=by rw[Ds];omega
  refine X<|U<|G Y<|J Y<|Ay Y (λv=>?_)<|λv=>?_
  .have b:p≠0:=Z
   have g:IntKind.i64.wrap (((p%65536:Nat):Int))=((p%65536:Nat):Int):=by
    obtain⟨t,ht⟩:∃t,p%65536=t:=⟨_,Y⟩
    have:t<65536:=Z
    rw[ht];simp[IntKind.wrap,IntKind.bits,IntKind.signed];omega
   refine Ah (Ab (Ag (Ax (Qm rfl (Qm rfl (Qx (QK (a:=p) (b:=65536) rfl rfl rfl (by decide)) rfl (Qx (Ea g rfl FM U3 rfl) rfl (AB [_] rfl Bb By rfl (by rfl) rfl rfl (by omega) rfl rfl rfl (fun g17=>AL 1 u (RdL.one Bf (x:=((p%65536:Nat):Int)) Mh rfl) rfl Bb By rfl (by omega) rfl rfl rfl BY (by simp only[length_singleton];omega) (by simp only[length_singleton];omega) rfl rfl rfl (fun w2 O f=>?_))))))))));have ow2:=f.o1;refine Qm rfl (HM (Qm rfl (Qx (QQ (a:=p) (b:=65536) rfl rfl rfl A (by decide)) rfl (Qm rfl (Am (Ai (AU ?_)))))));exact Aq (p/65536) _ (by omega) ⟨j+1,p/65536,w2,O,L++[p%65536],rfl,rfl,rfl,rfl,by rw[k,Nat.pow_succ,Nat.div_div_eq_div_mul],by simp[R],.inr (by rw[Nat.add_sub_cancel,<-k];exact b),fun a ha=>(List.mem_append.1 ha).elim (i a) (fun q=>by rw[List.mem_singleton.1 q];exact Nat.mod_lt _ (by decide)),by rw[k];exact Gb R B,by rw[show iD (L++[p%65536])=iD L++[((p%65536:Nat):Int)] by simp[iD]];exact f⟩ Qs
  .have b:p=0:=Z
   have z:m<65536^j:=by
    rw[k]at b;rcases Nat.div_eq_zero_iff.1 b with e|e
    .exact lj e<|Nat.ne_of_gt<|jc H
    .exact e
   rw[dv z]at B;refine C<|Ab<|U<|D Y Y<|G Y<|BX u λh2 l2 hR=>Qc call64 Y (Hw (decide<|x<0) w L m h2 hR Z i B)<|λr h3 ms3 l3 hF=>?_;obtain⟨K,rfl,rfl⟩:=hF;rw[S];have P:=AA (Ba x.natAbs);refine Sa 0 [_,_] Av Y (by simp[AA,ow,P]) ?_;refine Ao<|Aj<|BC (vs:=[_,_]) 0 Y Y Bn Y Av Y Y (⟨N l2 K,Y,Y⟩)
theorem Afs{m:Nat}:(dg 65536 m).length=0<->m=0:=by rw[gu,H9 H]
theorem H3(x:Int)(b:Cb x)(h:Hp)(a:List Hp):FnV prog 25 #[.int .i64 x] h a (WD x):=D9 ((AcU x b h).mono λ_ _ _ h=>h.2.2) a
theorem H7(x:Int)(u:Sz x)(h:Hp)(b:List Hp):FnV prog 55 #[WD x] h b (.int .i64 x.sign):=by
 refine D9 ?_ b;have z:=AA (Ba x.natAbs);refine Au func55 ntmps55 Y Y<|λ_ _=>U<|AK [_,_] Y Y ξ Y Y Y<|λl=>J Y<|AH λj B d=>?_;have i:∀c,j.le c->∀b,Seg c b (⟨l,0,none⟩:Addr) (Bg x):=λc q b=>(d.any).le q;have n:∀c,j.le c->∀b,Cell c b ((⟨l,0,none⟩:Addr).add 0) (.bool (decide (x<0))):=λc q b=>((d 0 _ Y).any).le q;refine X<|U<|E (oG Y Bn Av<|i _ (Bk) _) Y<|Qc call63 Y (HK x u j)<|λr p v K s=>?_;obtain⟨k,rfl,R⟩:=s;have y:=R.rd.one;have A:Rd p [] r 1 (dg 65536 x.natAbs).length ((iD (dg 65536 x.natAbs)).flatMap cI):=by have:=R.rd;rwa [Ds]at this
 have f:=Afs (m:=x.natAbs);refine E (Aw A.any Y Bb Y) Y<|J Y<|Ay Y (λm=>?_)<|λm=>?_
 .have g:x=0:=by have:=f.1 Z;omega
  refine U<|J Y<|Aj<|Ae ?_;exact Ar Y Y (by rw[g];rfl)
 .have g:x≠0:=λe=>m (by have:=f.2 Z;omega);refine I<|X<|U<|Qf DI Y<|Ql Y U4 (n _ k _)<|Ao<|Ay Y (λa=>?_)<|λa=>?_
  .refine X<|Ad<|J Y<|Aj<|Ae ?_;exact Ar Y Y (by rw[Int.sign_eq_neg_one_of_neg a])
  .refine I<|U<|J Y<|Aj ?_;exact Ar Y Y (by rw[Int.sign_eq_one_of_pos Z])
def TD(x y:Nat):Int:=if x<y then -1 else if x=y then 0 else 1
theorem P7{x y b:Nat}(h:x/b<y/b):x<y:=by refine ax λa=>?_;have:=Nat.div_le_div_right (c:=b) (show y<=x by omega);omega
theorem FB{h:Hp}{v:Value}{x:Nat}(R:RdL cI 1 h [] v (iD (dg 65536 x))){i:Nat}(a:i<(dg 65536 x).length):∀b,Cell h b ((AJ v).add (i*1)) (.int .i64 ((x/65536^i%65536:Nat):Int)):=λb=>by
 have c:i<(iD (dg 65536 x)).length:=by rw[Ds];exact a
 refine(R.any (ms:=b)).cell0 c ?_;rw[YW a];have:=Af5 (b:=65536) H i x;simp[List.getD,a]at this;simp[cI,this]
theorem V3(m p:Value)(x y:Nat)(h:Hp)(B:RdL cI 1 h [] m (iD (dg 65536 x)))(K:RdL cI 1 h [] p (iD (dg 65536 y)))(hx:(dg 65536 x).length<=900000)(hy:(dg 65536 y).length<=900000)(P:List Hp):FnV prog 66 #[m,p] h P (.int .i64 (TD x y)):=by
 refine D9 ?_ P;obtain⟨n,O⟩:∃n,(dg 65536 x).length=n:=⟨_,Y⟩
 obtain⟨k,M⟩:∃k,(dg 65536 y).length=k:=⟨_,Y⟩
 have b:Rd h [] m 1 n ((iD (dg 65536 x)).flatMap cI):=by have:=B.rd;rwa [Ds,O]at this
 have l:Rd h [] p 1 k ((iD (dg 65536 y)).flatMap cI):=by have:=K.rd;rwa [Ds,M]at this
 have oa:=b.one;have ob:=l.one;refine Au func66 ntmps66 Y Y<|λ_ _=>U<|J Y<|X<|U<|G Y<|E (Aw b.any Y Bb Y) Y<|G Y<|E (Aw l.any Y Bb Y) Y<|J Y<|Ay Y (λA=>?_)<|λA=>?_
 .refine X<|U<|G Y<|E (Aw b.any Y Bb Y) Y<|G Y<|E (Aw l.any Y Bb Y) Y<|J Y<|Ay Y (λa=>?_)<|λa=>?_
  .have:x<y:=HG (b:=65536) H Z;refine U<|J Y<|Aj<|Ae<|Ae ?_;exact Ar Y Y (by unfold TD;rw[ah this])
  .have:y<x:=HG (b:=65536) H Z;refine I<|U<|J Y<|Aj<|Ae ?_;exact Ar Y Y (by unfold TD;rw[af Z,af Z])
 .obtain rfl:n=k:=Z
  have Q:∀x,(dg 65536 x).length=n->x/65536^n=0:=λx hx=>gc ((Cp (b:=65536) H n x).1 Z);refine I<|X<|U<|G Y<|E (Aw b.any Y Bb Y) Y<|E (oS Y) Y<|J Y<|Ag ?_;refine AC (λq R L g=>∃(j:Nat),j=q/\R=[(0,m),(1,p),(5,.w ((j:Int)-1))]/\h=L/\g=[]/\j<=n/\x/65536^j=y/65536^j) n _ ⟨n,Y,Y,Y,Y,ak _,by rw[Q x O,Q y M]⟩ Qs ?_;rintro q R L g ⟨j,rfl,rfl,rfl,rfl,hj,u⟩;refine X<|U<|G Y<|J Y<|Ay Y (λz=>?_)<|λz=>?_
  .obtain⟨i,rfl⟩:∃i,j=i+1:=⟨j-1,Z⟩
   obtain⟨s,c⟩:∃s,x/65536^i=s:=⟨_,Y⟩
   obtain⟨t,f⟩:∃t,y/65536^i=t:=⟨_,Y⟩
   rw[Nat.pow_succ,<-Nat.div_div_eq_div_mul,<-Nat.div_div_eq_div_mul,c,f]at u;have cA:=FB B (i:=i) Z;have cB:=FB K (i:=i) Z;rw[c]at cA;rw[f]at cB;obtain⟨d,S⟩:∃d,s%65536=d:=⟨_,Y⟩
   obtain⟨e,v⟩:∃e,t%65536=e:=⟨_,Y⟩
   rw[S]at cA;rw[v]at cB;refine I<|X<|Ag<|X<|BK 8 Cx V Y<|Wm Y<|Wm Y<|BS (BP (i) b.any Y Bb By Y Y) Y Y<|Wl Y U3 (cA _)<|Wm Y<|Wm Y<|BS (BP (i) l.any Y Bb By Y Y) Y Y<|Wl Y U3 (cB _)<|BB<|J Y<|Ay Y (λr=>?_)<|λr=>?_
   .refine X<|X<|BK 8 Cx V Y<|Wm Y<|Wm Y<|BS (BP (i) b.any Y Bb By Y Y) Y Y<|Wl Y U3 (cA _)<|Wm Y<|Wm Y<|BS (BP (i) l.any Y Bb By Y Y) Y Y<|Wl Y U3 (cB _)<|BB<|J Y<|Ay Y (λa=>?_)<|λa=>?_
    .have:x<y:=P7 (b:=65536^i) (by rw[c,f];omega);refine U<|J Y<|Aj<|Ae<|An<|Ae<|Ae<|An<|Ae ?_;exact Ar Y Y (by unfold TD;rw[ah this])
    .have:y<x:=P7 (b:=65536^i) (by rw[c,f];omega);refine I<|U<|J Y<|Aj<|An<|Ae<|Ae<|An<|Ae ?_;exact Ar Y Y (by unfold TD;rw[af Z,af Z])
   .refine Ah<|D2<|Ad<|G Y<|E (oS Y) Y<|G Y<|Am ?_;exact Aq i [(0,m),(1,p),(5,.w ((i:Int)+1-1-1))] Z ⟨i,Y,by rw[show(i:Int)+1-1-1=i-1 by omega],Y,Y,Z,by rw[c,f];omega⟩ Qs
  .obtain rfl:j=0:=Z
   rw[jr,Nat.div_one,Nat.div_one]at u;refine C<|Ab<|U<|J Y<|Aj ?_;exact Ar Y Y (by unfold TD;rw[af Z,ah u])
theorem Ie{L:List Nat}{x y i c c' xd yd d:Nat}(hL:L.length=i)(hv:val 65536 L+y%65536^i=x%65536^i+c*65536^i)(hxd:x/65536^i%65536=xd)(hyd:y/65536^i%65536=yd)(hd:d+yd+c=xd+c'*65536) :
  val 65536 (L++[d])+y%65536^(i+1)=x%65536^(i+1)+c'*65536^(i+1):=by
 rw[Ey,hL,Nat.pow_succ,Nat.mod_mul,Nat.mod_mul,hxd,hyd];obtain⟨P,hP⟩:∃P,65536^i=P:=⟨_,rfl⟩
 rw[hP]at hv ⊢;have h1:=congrArg (P*·) hd;simp only[Nat.mul_add]at h1;show val 65536 L+P*(d+65536*0)+_=_;rw[Nat.mul_zero,Nat.add_zero];have h2:c'*(P*65536)=P*(c'*65536):=by rw[Nat.mul_left_comm]
 have h3:c*P=P*c:=Nat.mul_comm _ _;omega
theorem K6{y i:Nat}(h:(dg 65536 y).length<=i):y/65536^i%65536=0:=by have:=(Cp (b:=65536) H i y).1 h;rw[gc this]
theorem Qu(va vb:Value)(x y:Nat)(h:Hp)(RA:RdL cI 1 h [] va (iD (dg 65536 x)))(RB:RdL cI 1 h [] vb (iD (dg 65536 y)))(hx:(dg 65536 x).length<=800000)(hy:(dg 65536 y).length<=800000)(hxy:y<=x):FnT prog 67 #[va,vb] h [] (λr Q z=>h.le Q/\z=[]/\RdL cI 1 Q [] r (iD (dg 65536 (x-y)))):=by
 obtain⟨n,hn⟩:∃n,(dg 65536 x).length=n:=⟨_,Y⟩
 obtain⟨k,hk⟩:∃k,(dg 65536 y).length=k:=⟨_,Y⟩
 have rA:Rd h [] va 1 n ((iD (dg 65536 x)).flatMap cI):=by have:=RA.rd;rwa [Ds,hn]at this
 have rB:Rd h [] vb 1 k ((iD (dg 65536 y)).flatMap cI):=by have:=RB.rd;rwa [Ds,hk]at this
 have oa:=rA.one;have ob:=rB.one;refine Au func67 ntmps67 Y Y<|λ_ _=>U<|G Y<|BF<|G Y<|BF<|J Y<|X<|U<|J Y<|Ag<|BW ?_;refine AC (λq sl Q z=>∃(i c:Nat) (w:Value) (mo:Hp) (L:List Nat),n-i=q/\sl=[(0,va),(1,vb),(5,w),(6,.w (c:Int)),(7,.w (i:Int))]/\h=Q/\z=[mo]/\i<=n/\c<=1/\L.length=i/\(∀a∈L,a<65536)/\val 65536 L+y%65536^i=x%65536^i+c*65536^i/\OwnL cI 1 3 mo w (iD L)) (n-0) _ ⟨0,0,_,_,[],Y,Y,Y,Y,Z,by decide,Y,by simp,by simp[Nat.mod_one];rfl,OwnL.nil Bf⟩ Qs ?_;rintro q sl Q z ⟨i,c,w,mo,L,rfl,rfl,rfl,rfl,hi,hc,v,l,P,O⟩;have ow:=O.o1;have hol:(iD L).length<=1000000:=by rw[Ds];omega
 refine X<|U<|D Y Y<|E (Aw rA.any Y Bb Y) Y<|J Y<|Ay Y (λhin=>?_)<|λhin=>?_
 .have hin':i<n:=Z
  have cA:=FB RA (i:=i) Z;obtain⟨t,s⟩:∃t,x/65536^i%65536=t:=⟨_,Y⟩
  obtain⟨u,m⟩:∃u,y/65536^i%65536=u:=⟨_,Y⟩
  have hxb:t<65536:=Z
  have hyb:u<65536:=Z
  rw[s]at cA;refine I<|X<|Ag<|U<|D Y Y<|E (BP (i) rA.any Y Bb By Y Y) Y<|Ql Y U3 (cA _)<|G Y<|E (oS Y) Y<|J Y<|X<|U<|D Y Y<|E (Aw rB.any Y Bb Y) Y<|J Y<|Ay Y (λhik=>?_)<|λhik=>?_
  .have cB:=FB RB (i:=i) Z;rw[m]at cB;refine Ad<|D Y Y<|G Y<|E (BP (i) rB.any Y Bb By Y Y) Y<|Ql Y U3 (cB _)<|E (oS Y) Y<|G Y<|BF<|J Y<|X<|U<|G Y<|J Y<|Ay Y (λp=>?_)<|λp=>?_
   .refine X<|Ad<|G Y<|E (oA Y) Y<|G Y<|HM<|G Y<|HM<|D Y Y<|AB [_] Y Bb By Y ξ Y Y Z Y Y Y<|λA=>?_;obtain⟨b,g⟩:∃b:Nat,(t:Int)-c-u+65536=(b:Int):=⟨(t+65536-c-u),Z⟩
    have f:b<65536:=Z
    rw[g];refine AL 1 O (RdL.one Bf (x:=(b:Int)) Mh Y) Y Bb By Y Z Y Y Y BY (by simp only[ae];omega) (by simp only[ae];omega) rfl rfl rfl<|λM j d=>?_;have K:=d.o1;refine G Y<|Am<|D2<|Ad<|G Y<|E (oA Y) Y<|G Y<|Am<|AU ?_;exact Aq (n-(i+1)) _ Z ⟨i+1,1,M,j,L++[b],Y,Y,Y,Y,Z,by decide,by simp[v],λa B=>(bi.1 B).elim (l a) (λq=>by rw[bj.1 q];exact f),Ie v P s m Z,by rw[show iD (L++[b])=iD L++[(b:Int)] by simp[iD]];exact d⟩ Qs
   .refine I<|Ad<|D Y Y<|AB [_] Y Bb By Y ξ Y Y Z Y Y Y<|λA=>?_;obtain⟨b,g⟩:∃b:Nat,(t:Int)-c-u=(b:Int):=⟨(t-c-u),Z⟩
    have f:b<65536:=Z
    rw[g];refine AL 1 O (RdL.one Bf (x:=(b:Int)) Mh Y) Y Bb By Y Z Y Y Y BY (by simp only[ae];omega) (by simp only[ae];omega) rfl rfl rfl<|λM j d=>?_;have K:=d.o1;refine G Y<|Am<|D2<|Ad<|G Y<|E (oA Y) Y<|G Y<|Am<|AU ?_;exact Aq (n-(i+1)) _ Z ⟨i+1,0,M,j,L++[b],Y,Y,Y,Y,Z,by decide,by simp[v],λa B=>(bi.1 B).elim (l a) (λq=>by rw[bj.1 q];exact f),Ie v P s m Z,by rw[show iD (L++[b])=iD L++[(b:Int)] by simp[iD]];exact d⟩ Qs
  .have hyd0:u=0:=by rw[<-m];exact K6 Z
   refine I<|U<|J Y<|X<|U<|G Y<|J Y<|Ay Y (λp=>?_)<|λp=>?_
   .refine X<|Ad<|G Y<|E (oA Y) Y<|G Y<|HM<|G Y<|HM<|D Y Y<|AB [_] Y Bb By Y ξ Y Y Z Y Y Y<|λA=>?_;obtain⟨b,g⟩:∃b:Nat,(t:Int)-c+65536=(b:Int):=⟨(t+65536-c-u),Z⟩
    have f:b<65536:=Z
    rw[g];refine AL 1 O (RdL.one Bf (x:=(b:Int)) Mh Y) Y Bb By Y Z Y Y Y BY (by simp only[ae];omega) (by simp only[ae];omega) rfl rfl rfl<|λM j d=>?_;have K:=d.o1;refine G Y<|Am<|D2<|Ad<|G Y<|E (oA Y) Y<|G Y<|Am<|AU ?_;exact Aq (n-(i+1)) _ Z ⟨i+1,1,M,j,L++[b],Y,Y,Y,Y,Z,by decide,by simp[v],λa B=>(bi.1 B).elim (l a) (λq=>by rw[bj.1 q];exact f),Ie v P s m Z,by rw[show iD (L++[b])=iD L++[(b:Int)] by simp[iD]];exact d⟩ Qs
   .refine I<|Ad<|D Y Y<|AB [_] Y Bb By Y ξ Y Y Z Y Y Y<|λA=>?_;obtain⟨b,g⟩:∃b:Nat,(t:Int)-c=(b:Int):=⟨(t-c-u),Z⟩
    have f:b<65536:=Z
    rw[g];refine AL 1 O (RdL.one Bf (x:=(b:Int)) Mh Y) Y Bb By Y Z Y Y Y BY (by simp only[ae];omega) (by simp only[ae];omega) rfl rfl rfl<|λM j d=>?_;have K:=d.o1;refine G Y<|Am<|D2<|Ad<|G Y<|E (oA Y) Y<|G Y<|Am<|AU ?_;exact Aq (n-(i+1)) _ Z ⟨i+1,0,M,j,L++[b],Y,Y,Y,Y,Z,by decide,by simp[v],λa B=>(bi.1 B).elim (l a) (λq=>by rw[bj.1 q];exact f),Ie v P s m Z,by rw[show iD (L++[b])=iD L++[(b:Int)] by simp[iD]];exact d⟩ Qs
 .obtain rfl:i=n:=Z
  have S:x%65536^i=x:=dv ((Cp (b:=65536) H i x).1 Z);have T:y%65536^i=y:=dv (dr hxy ((Cp (b:=65536) H i x).1 Z));have hLv:val 65536 L<65536^i:=by rw[<-v];exact Kn H l
  have hc0:c=0:=by
   rcases (Z:c=0\/c=1) with e|e
   .exact e
   .rw[S,T,e,gn]at P;omega
  have R:val 65536 L=x-y:=by rw[S,T,hc0,Nat.zero_mul]at P;omega
  have hst:DK L=dg 65536 (x-y):=by rw[DT H l,R]
  refine C<|Ab<|U<|G Y<|BX O λh2 l2 hR=>Qc call125 Y (MY w L h2 hR Z)<|λr h3 ms3 l3 hF=>?_;obtain⟨rfl,rfl,RT⟩:=hF;rw[hst]at RT;have or_:=RT.rd.one;refine J Y<|Aj<|Ar Y Y (⟨l2,Y,RT⟩)
theorem Jg{L:List Nat}{x y i c c' xd yd d:Nat}(hL:L.length=i)(hv:val 65536 L+c*65536^i=x%65536^i+y%65536^i)(hxd:x/65536^i%65536=xd)(hyd:y/65536^i%65536=yd)(hd:d+c'*65536=c+xd+yd) :
  val 65536 (L++[d])+c'*65536^(i+1)=x%65536^(i+1)+y%65536^(i+1):=by
 rw[Ey,hL,Nat.pow_succ,Nat.mod_mul,Nat.mod_mul,hxd,hyd];obtain⟨P,hP⟩:∃P,65536^i=P:=⟨_,rfl⟩
 rw[hP]at hv ⊢;have h1:=congrArg (P*·) hd;simp only[Nat.mul_add]at h1;show val 65536 L+P*(d+65536*0)+_=_;rw[Nat.mul_zero,Nat.add_zero];have h2:c'*(P*65536)=P*(c'*65536):=by rw[Nat.mul_left_comm]
 have h3:c*P=P*c:=Nat.mul_comm _ _;omega
theorem Adu(va vb:Value)(x y:Nat)(h:Hp)(RA:RdL cI 1 h [] va (iD (dg 65536 x)))(RB:RdL cI 1 h [] vb (iD (dg 65536 y)))(hx:(dg 65536 x).length<=400000)(hy:(dg 65536 y).length<=400000):FnT prog 65 #[va,vb] h [] (λr T u=>h.le T/\u=[]/\∃L:List Nat,RdL cI 1 T [] r (iD L)/\(∀a∈L,a<65536)/\val 65536 L=x+y/\L.length<=800001):=by
 obtain⟨n,hn⟩:∃n,(dg 65536 x).length=n:=⟨_,Y⟩
 obtain⟨k,hk⟩:∃k,(dg 65536 y).length=k:=⟨_,Y⟩
 have B:Rd h [] va 1 n ((iD (dg 65536 x)).flatMap cI):=by have:=RA.rd;rwa [Ds,hn]at this
 have K:Rd h [] vb 1 k ((iD (dg 65536 y)).flatMap cI):=by have:=RB.rd;rwa [Ds,hk]at this
 have oa:=B.one;have ob:=K.one;refine Au func65 ntmps65 Y Y<|λ_ _=>U<|G Y<|BF<|G Y<|BF<|J Y<|X<|U<|J Y<|Ag<|BW ?_;refine AC (λq sl T u=>∃(i c:Nat) (w:Value) (mo:Hp) (L:List Nat),2*(n+k-i)+c=q/\sl=[(0,va),(1,vb),(5,w),(6,.w (c:Int)),(7,.w (i:Int))]/\h=T/\u=[mo]/\i<=n+k+1/\c<=1/\L.length=i/\(∀a∈L,a<65536)/\val 65536 L+c*65536^i=x%65536^i+y%65536^i/\OwnL cI 1 3 mo w (iD L)/\(i=n+k+1->c=0)) (2*(n+k-0)+0) _ ⟨0,0,_,_,[],Y,Y,Y,Y,Z,by decide,Y,by simp,by simp[Nat.mod_one];rfl,OwnL.nil Bf,λe=>rfl⟩ Qs ?_;rintro q sl T u ⟨i,c,w,mo,L,rfl,rfl,rfl,rfl,hi,b,A,p,S,R,hlast⟩;have ow:=R.o1;have hol:(iD L).length<=1000000:=by rw[Ds];omega
 obtain⟨v,f⟩:∃v,x/65536^i%65536=v:=⟨_,Y⟩
 obtain⟨z,g⟩:∃z,y/65536^i%65536=z:=⟨_,Y⟩
 have hxb:v<65536:=Z
 have hyb:z<65536:=Z
 refine X<|U<|D Y Y<|E (Aw B.any Y Bb Y) Y<|D Y Y<|AY (t:=13) Y (λt=>?_)<|λt=>?_
 .have ha2:(i:Int)<n:=Z
  rcases Classical.em ((i:Int)<k) with j|j
  .have cA:=FB RA (i:=i) Z;rw[f]at cA;have cB:=FB RB (i:=i) Z;rw[g]at cB;refine DM Y Y<|DM Y Y<|D Y Y<|DM Y Y<|J Y<|A4 Y<|I<|X<|Ag<|U<|G Y<|J Y<|X<|U<|D Y Y<|E (Aw B.any Y Bb Y) Y<|J Y<|Ay Y (λb=>?_)<|λb=>lj (ha2) b;refine Ad<|D Y Y<|G Y<|E (BP (i) B.any Y Bb By Y Y) Y<|Ql Y U3 (cA _)<|E (oA Y) Y<|J Y<|X<|U<|D Y Y<|E (Aw K.any Y Bb Y) Y<|J Y<|Ay Y (λb=>?_)<|λb=>lj (j) b;refine Ad<|D Y Y<|G Y<|E (BP (i) K.any Y Bb By Y Y) Y<|Ql Y U3 (cB _)<|E (oA Y) Y<|G Y<|BF<|D Y Y<|E (Eh Y Y Y Z Z) Y<|AB [_] Y Bb By Y ξ Y Y Z Y Y Y<|λM=>?_;obtain⟨s,hs⟩:∃s:Nat,c+v+z=s:=⟨_,Y⟩
   have l:(c:Int)+v+z=(s:Int):=Z
   rw[l];have P:((s:Int)/65536)=((s/65536:Nat):Int):=Z
   have q2:((s:Int)%65536)=((s%65536:Nat):Int):=Z
   refine AL 1 R (RdL.one Bf (x:=((s%65536:Nat):Int)) Mh Y) Y Bb By Y Z Y Y Y BY (by simp only[ae];omega) (by simp only[ae];omega) rfl rfl rfl<|λQ m d=>?_;have O:=d.o1;refine G Y<|HM<|G Y<|E (DY (Ek Y Y Y Z Z)<|bh (Value.int .i64) P) Y<|G Y<|Am<|D2<|Ad<|G Y<|E (oA Y) Y<|G Y<|Am<|AU ?_;exact Aq (2*(n+k-(i+1))+s/65536) _ Z ⟨i+1,s/65536,Q,m,L++[s%65536],Y,Y,Y,Y,Z,Z,by simp[A],λa t=>(bi.1 t).elim (p a) (λq=>by rw[bj.1 q];exact f6 _ H),Jg A S f g Z,by rw[show iD (L++[s%65536])=iD L++[((s%65536:Nat):Int)] by simp[iD]];exact d,Z⟩ Qs
  .have cA:=FB RA (i:=i) Z;rw[f]at cA;have hyd0:z=0:=by rw[<-g];exact K6 Z
   refine DM Y Y<|DM Y Y<|D Y Y<|DM Y Y<|J Y<|A4 Y<|I<|X<|Ag<|U<|G Y<|J Y<|X<|U<|D Y Y<|E (Aw B.any Y Bb Y) Y<|J Y<|Ay Y (λb=>?_)<|λb=>lj (ha2) b;refine Ad<|D Y Y<|G Y<|E (BP (i) B.any Y Bb By Y Y) Y<|Ql Y U3 (cA _)<|E (oA Y) Y<|J Y<|X<|U<|D Y Y<|E (Aw K.any Y Bb Y) Y<|J Y<|Ay Y (λb=>lj b<|j)<|λb=>I<|U<|D Y Y<|E (Eh Y Y Y Z Z) Y<|AB [_] Y Bb By Y ξ Y Y Z Y Y Y<|λM=>?_;obtain⟨s,hs⟩:∃s:Nat,c+v=s:=⟨_,Y⟩
   have l:(c:Int)+v=(s:Int):=Z
   rw[l];have P:((s:Int)/65536)=((s/65536:Nat):Int):=Z
   have q2:((s:Int)%65536)=((s%65536:Nat):Int):=Z
   refine AL 1 R (RdL.one Bf (x:=((s%65536:Nat):Int)) Mh Y) Y Bb By Y Z Y Y Y BY (by simp only[ae];omega) (by simp only[ae];omega) rfl rfl rfl<|λQ m d=>?_;have O:=d.o1;refine G Y<|HM<|G Y<|E (DY (Ek Y Y Y Z Z)<|bh (Value.int .i64) P) Y<|G Y<|Am<|D2<|Ad<|G Y<|E (oA Y) Y<|G Y<|Am<|AU ?_;exact Aq (2*(n+k-(i+1))+s/65536) _ Z ⟨i+1,s/65536,Q,m,L++[s%65536],Y,Y,Y,Y,Z,Z,by simp[A],λa t=>(bi.1 t).elim (p a) (λq=>by rw[bj.1 q];exact f6 _ H),Jg A S f g Z,by rw[show iD (L++[s%65536])=iD L++[((s%65536:Nat):Int)] by simp[iD]];exact d,Z⟩ Qs
 .have ha2:¬(i:Int)<n:=Z
  refine Qg (Ap Y Y) Y<|Qg (Ap Y Y) Y<|Qg (Aw K.any Y Bb Y) Y<|Qg (Dw Y Y Y) Y<|D Y Y<|AY (t:=19) Y (λhb=>?_)<|λhb=>?_
  .have j:(i:Int)<k:=Z
   have hxd0:v=0:=by rw[<-f];exact K6 Z
   have cB:=FB RB (i:=i) Z;rw[g]at cB;refine DM Y Y<|J Y<|A4 Y<|I<|X<|Ag<|U<|G Y<|J Y<|X<|U<|D Y Y<|E (Aw B.any Y Bb Y) Y<|J Y<|Ay Y (λb=>lj b<|ha2)<|λb=>I<|X<|U<|D Y Y<|E (Aw K.any Y Bb Y) Y<|J Y<|Ay Y (λb=>?_)<|λb=>lj (j) b;refine Ad<|D Y Y<|G Y<|E (BP (i) K.any Y Bb By Y Y) Y<|Ql Y U3 (cB _)<|E (oA Y) Y<|G Y<|BF<|D Y Y<|E (Eh Y Y Y Z Z) Y<|AB [_] Y Bb By Y ξ Y Y Z Y Y Y<|λM=>?_;obtain⟨s,hs⟩:∃s:Nat,c+z=s:=⟨_,Y⟩
   have l:(c:Int)+z=(s:Int):=Z
   rw[l];have P:((s:Int)/65536)=((s/65536:Nat):Int):=Z
   have q2:((s:Int)%65536)=((s%65536:Nat):Int):=Z
   refine AL 1 R (RdL.one Bf (x:=((s%65536:Nat):Int)) Mh Y) Y Bb By Y Z Y Y Y BY (by simp only[ae];omega) (by simp only[ae];omega) rfl rfl rfl<|λQ m d=>?_;have O:=d.o1;refine G Y<|HM<|G Y<|E (DY (Ek Y Y Y Z Z)<|bh (Value.int .i64) P) Y<|G Y<|Am<|D2<|Ad<|G Y<|E (oA Y) Y<|G Y<|Am<|AU ?_;exact Aq (2*(n+k-(i+1))+s/65536) _ Z ⟨i+1,s/65536,Q,m,L++[s%65536],Y,Y,Y,Y,Z,Z,by simp[A],λa t=>(bi.1 t).elim (p a) (λq=>by rw[bj.1 q];exact f6 _ H),Jg A S f g Z,by rw[show iD (L++[s%65536])=iD L++[((s%65536:Nat):Int)] by simp[iD]];exact d,Z⟩ Qs
  .have j:¬(i:Int)<k:=Z
   have hxd0:v=0:=by rw[<-f];exact K6 Z
   have hyd0:z=0:=by rw[<-g];exact K6 Z
   refine Qg (Ap Y Y) Y<|Qg (CE Y Y Y) Y<|J Y<|Ay Y (λhcc=>?_)<|λhcc=>?_
   .refine I<|X<|Ag<|U<|G Y<|J Y<|X<|U<|D Y Y<|E (Aw B.any Y Bb Y) Y<|J Y<|Ay Y (λb=>lj b<|ha2)<|λb=>I<|X<|U<|D Y Y<|E (Aw K.any Y Bb Y) Y<|J Y<|Ay Y (λb=>lj b<|j)<|λb=>I<|U<|D Y Y<|E (Eh Y Y Y Z Z) Y<|AB [_] Y Bb By Y ξ Y Y Z Y Y Y<|λM=>?_;obtain⟨s,hs⟩:∃s:Nat,c=s:=⟨_,Y⟩
    have l:(c:Int)=(s:Int):=Z
    rw[l];have P:((s:Int)/65536)=((s/65536:Nat):Int):=Z
    have q2:((s:Int)%65536)=((s%65536:Nat):Int):=Z
    refine AL 1 R (RdL.one Bf (x:=((s%65536:Nat):Int)) Mh Y) Y Bb By Y Z Y Y Y BY (by simp only[ae];omega) (by simp only[ae];omega) rfl rfl rfl<|λQ m d=>?_;have O:=d.o1;refine G Y<|HM<|G Y<|E (DY (Ek Y Y Y Z Z)<|bh (Value.int .i64) P) Y<|G Y<|Am<|D2<|Ad<|G Y<|E (oA Y) Y<|G Y<|Am<|AU ?_;exact Aq (2*(n+k-(i+1))+s/65536) _ Z ⟨i+1,s/65536,Q,m,L++[s%65536],Y,Y,Y,Y,Z,Z,by simp[A],λa t=>(bi.1 t).elim (p a) (λq=>by rw[bj.1 q];exact f6 _ H),Jg A S f g Z,by rw[show iD (L++[s%65536])=iD L++[((s%65536:Nat):Int)] by simp[iD]];exact d,Z⟩ Qs
   .have hc0:c=0:=Z
    have hxm:x%65536^i=x:=dv ((Cp (b:=65536) H i x).1 Z);have hym:y%65536^i=y:=dv ((Cp (b:=65536) H i y).1 Z);rw[hxm,hym,hc0,Nat.zero_mul,gz]at S;refine C<|Ab<|U<|G Y<|J Y<|Aj<|Dr R λh2 l2 hR=>?_;exact Ar Y Y (⟨l2,Y,L,hR,p,S,Z⟩)
theorem Sz.d16{x:Int}(h:Sz x):(dg 65536 x.natAbs).length<=400000:=by have a:=(Cp (b:=256) H (Ba x.natAbs).length x.natAbs).1 (by rw[<-FA];exact ak _);refine bl ((Cp (b:=65536) H (Ba x.natAbs).length x.natAbs).2<|b7 a<|Nat.pow_le_pow_left H _) h
theorem Sk(m:Nat):∀a∈dg 65536 m,a<65536:=FG H m
theorem Ln(a b:Int)(ha:Sz a)(hb:Sz b)(h:Hp)(f:List Hp):FnV prog 22 #[WD a,WD b] h f (WD (a+b)):=by
 refine D9 (FnT.mono (post:=λr c ms'=>h.le c/\ms'=[]/\r=WD (a+b)) ?_ λ_ _ _ q=>q.2.2) f;have u:=AA (Ba a.natAbs);have v:=AA (Ba b.natAbs);have x:=AA (Ba (a+b).natAbs);have la:=ha.d16;have lb:=hb.d16;refine Au func22 ntmps22 Y Y<|λ_ _=>U<|AK [_,_] Y Y ξ Y Y Y<|λg2=>AK [_,_] Y Y ξ Y Y Y<|λg3=>BJ [.bool false,.es] Y Av Y Y<|λg4=>Ao<|Ak 1 Y λh1 l1 K=>Ak 1 Y λz l2 B=>?_;have l02:=N l1 l2;have s2:∀c,z.le c->∀f,Seg c f (⟨g2,0,none⟩:Addr) (Bg a):=λc q f=>(B.any).le q;have s3:∀c,z.le c->∀f,Seg c f (⟨g3,0,none⟩:Addr) (Bg b):=λc q f=>((K.le l2).any).le q;have c2:∀c,z.le c->∀f,Cell c f ((⟨g2,0,none⟩:Addr).add 0) (.bool (decide (a<0))):=λc q f=>((B 0 _ Y).any).le q;have c3:∀c,z.le c->∀f,Cell c f ((⟨g3,0,none⟩:Addr).add 0) (.bool (decide (b<0))):=λc q f=>(((K.le l2) 0 _ Y).any).le q;refine U<|E (oG Y Bn Av<|s2 _ (Bk) _) Y<|Qc call63 Y (HK a ha z)<|λva h3 ms3 l3 d=>?_;obtain⟨Q,rfl,p⟩:=d;refine G Y<|BF<|E (oG Y Bn Av<|s3 _ Q _) Y<|Qc call63 Y (HK b hb h3)<|λvb h4 ms4 l4 d=>?_;obtain⟨R,rfl,y⟩:=d;have p:=p.up R;have i:=N Q R;have t:=N l02 i;have oa:=p.rd.one;have ob:=y.rd.one;refine J Y<|X<|U<|Qf DI Y<|Ql Y U4 (c2 _ i _)<|Qf DI Y<|Ql Y U4 (c3 _ i _)<|E (Nt Y U4 Y Y) Y<|Ao<|Ay Y (λs=>?_)<|λs=>?_
 .have P:a<0<->b<0:=fy.1 s
  have M:WS (decide (a<0)) (a.natAbs+b.natAbs)=WD (a+b):=by rw[show a.natAbs+b.natAbs=(a+b).natAbs by omega];exact Uw λO=>fy.2 Z
  refine X<|AS (n:=7) (bs:=[W,W,W,W,lw,lw,lw]) [W,W,W,W] Cx V V Y Y<|QF DI Y<|QL Y U4 (c2 _ i _)<|Qq Y<|Qq Y<|Qo 4 Y<|AE (pre:=[]) Y call65 Y (Adu va vb a.natAbs b.natAbs h4 p y la lb) Y Y Y Y<|λvp A S l5 d=>?_;obtain⟨k,rfl,L,m,hLl,hLv,hLn⟩:=d;have op:=m.rd.one;refine Qa<|Qo 5 Y<|AE (pre:=[]) Y call64 Y (Hw (decide<|a<0) vp L (a.natAbs+b.natAbs) A m Z hLl hLv) Y Y Y Y<|λvw h6 T l6 d=>?_;obtain⟨l,rfl,rfl⟩:=d;have j:=N k l;rw[M];refine Qa<|Qo 6 Y ?_;refine Sa 0 [_,_] Av Y (by simp[u,v,x,AA,oa,ob]) ?_;refine Qa<|Qe<|Ab<|Aj<|Ae<|BC (vs:=[_,_]) 0 Y Y Bn Y Av Y Y (⟨N t j,Y,Y⟩)
 .have P:¬(a<0<->b<0):=λe=>s (fy.2 e);refine I<|X<|U<|D Y Y<|E (As Y call66 Y<|V3 va vb a.natAbs b.natAbs h4 p y Z Z _) Y<|J Y<|Ay Y (λg=>?_)<|λg=>?_
  .have n:b.natAbs<=a.natAbs:=by
    unfold TD at g;by_cases q:a.natAbs<b.natAbs
    .rw[ah q]at g;omega
    .omega
   have M:WS (decide (a<0)) (a.natAbs-b.natAbs)=WD (a+b):=by rw[show a.natAbs-b.natAbs=(a+b).natAbs by omega];exact Uw λO=>fy.2 Z
   refine X<|AS (n:=7) (bs:=[W,W,W,W,lw,lw,lw]) [W,W,W,W] Cx V V Y Y<|QF DI Y<|QL Y U4 (c2 _ i _)<|Qq Y<|Qq Y<|Qo 4 Y<|AE (pre:=[]) Y call67 Y (Qu va vb a.natAbs b.natAbs h4 p y Z Z n) Y Y Y Y<|λvp A S l5 d=>?_;obtain⟨k,rfl,m⟩:=d;have op:=m.rd.one;refine Qa<|Qo 5 Y<|AE (pre:=[]) Y call64 Y (Hw (decide<|a<0) vp _ (a.natAbs-b.natAbs) A m (by have:=Er (b:=65536) H (show a.natAbs-b.natAbs<=a.natAbs by omega);omega) (Sk _)<|Ki H _) Y Y Y Y<|λvw h6 T l6 d=>?_;obtain⟨l,rfl,rfl⟩:=d;have j:=N k l;rw[M];refine Qa<|Qo 6 Y ?_;refine Sa 0 [_,_] Av Y (by simp[u,v,x,AA,oa,ob]) ?_;refine Qa<|Qe<|Ab<|Aj<|Ae<|BC (vs:=[_,_]) 0 Y Y Bn Y Av Y Y (⟨N t j,Y,Y⟩)
  .have n:a.natAbs<b.natAbs:=by
    unfold TD at g;by_cases q:a.natAbs<b.natAbs
    .exact q
    .rw[af q]at g;split at g<;>omega
   have M:WS (decide (b<0)) (b.natAbs-a.natAbs)=WD (a+b):=by rw[show b.natAbs-a.natAbs=(a+b).natAbs by omega];exact Uw λO=>fy.2 Z
   refine I<|X<|AS (n:=7) (bs:=[W,W,W,W,lw,lw,lw]) [W,W,W,W] Cx V V Y Y<|QF DI Y<|QL Y U4 (c3 _ i _)<|Qq Y<|Qq Y<|Qo 4 Y<|AE (pre:=[]) Y call67 Y (Qu vb va b.natAbs a.natAbs h4 y p Z Z Z) Y Y Y Y<|λvp A S l5 d=>?_;obtain⟨k,rfl,m⟩:=d;have op:=m.rd.one;refine Qa<|Qo 5 Y<|AE (pre:=[]) Y call64 Y (Hw (decide<|b<0) vp _ (b.natAbs-a.natAbs) A m (by have:=Er (b:=65536) H (show b.natAbs-a.natAbs<=b.natAbs by omega);omega) (Sk _)<|Ki H _) Y Y Y Y<|λvw h6 T l6 d=>?_;obtain⟨l,rfl,rfl⟩:=d;have j:=N k l;rw[M];refine Qa<|Qo 6 Y ?_;refine Sa 0 [_,_] Av Y (by simp[u,v,x,AA,oa,ob]) ?_;refine Qa<|Qe<|Ab<|Aj<|BC (vs:=[_,_]) 0 Y Y Bn Y Av Y Y (⟨N t j,Y,Y⟩)
theorem AbV(a:List Nat)(j d:Nat):(iD a).set j (d:Int)=iD (a.set j d):=by unfold iD;rw[List.map_set];rfl
theorem Wz{v:List Nat}{x y i k c o a bk:Nat}(p:i+k<v.length)(r:v.getD (i+k) 0=o)(e:y/65536^k%65536=bk)
  (s:val 65536 v+c*65536^(i+k)=x%65536^i*y+a*(y%65536^k)*65536^i) :
  val 65536 (v.set (i+k) ((o+a*bk+c)%65536))+(o+a*bk+c)/65536*65536^(i+k+1)=x%65536^i*y+a*(y%65536^(k+1))*65536^i:=by
 have b:=Jk 65536 v (i+k) ((o+a*bk+c)%65536) p;rw[r]at b;have h:y%65536^(k+1)=y%65536^k+65536^k*bk:=by rw[Nat.pow_succ,Nat.mod_mul,e]
 obtain⟨d,g⟩:∃d,o+a*bk+c=d:=⟨_,Y⟩
 rw[g]at b ⊢;have j:=jf d 65536;rw[h,ip,dq]
 have l:a*(65536^k*bk)*65536^i=65536^(i+k)*(a*bk):=by rw[jx];ac_rfl
 rw[l];obtain⟨P,f⟩:∃P,65536^(i+k)=P:=⟨_,Y⟩
 rw[show 65536^(i+k+1)=P*65536 by rw[Nat.pow_succ,f]];rw[f]at b s ⊢;have m:=congrArg (P*·) j;have n:=congrArg (P*·) g;simp only[Nat.mul_add]at m n;have t:d/65536*(P*65536)=P*(65536*(d/65536)):=by rw[Nat.mul_comm,Nat.mul_assoc]
 have u:c*P=P*c:=ei _ _;omega
theorem ZT{Z:List Nat}{x y i k c ai:Nat}(hk:i+k<Z.length)(ho:Z.getD (i+k) 0=0)(hy:y%65536^k=y)(hai:x/65536^i%65536=ai)
  (hv:val 65536 Z+c*65536^(i+k)=x%65536^i*y+ai*(y%65536^k)*65536^i) :
  val 65536 (Z.set (i+k) c)=x%65536^(i+1)*y:=by
 have h1:=Jk 65536 Z (i+k) c hk;rw[ho,Nat.mul_zero,Nat.add_zero]at h1;rw[h1,Nat.pow_succ,Nat.mod_mul,hai,Nat.add_mul];rw[hy]at hv;have h2:65536^(i+k)*c=c*65536^(i+k):=Nat.mul_comm _ _;have h3:65536^i*ai*y=ai*y*65536^i:=by rw[Nat.mul_assoc,Nat.mul_comm]
 omega
theorem Aal(va vb:Value)(x y:Nat)(h:Hp)(RA:RdL cI 1 h [] va (iD (dg 65536 x)))(RB:RdL cI 1 h [] vb (iD (dg 65536 y)))(hx:(dg 65536 x).length<=400000)(hy:(dg 65536 y).length<=400000):FnT prog 70 #[va,vb] h [] (λr v f=>h.le v/\f=[]/\RdL cI 1 v [] r (iD (dg 65536 (x*y)))):=by
 obtain⟨n,hn⟩:∃n,(dg 65536 x).length=n:=⟨_,Y⟩
 obtain⟨p,hp⟩:∃p,(dg 65536 y).length=p:=⟨_,Y⟩
 have rA:Rd h [] va 1 n ((iD (dg 65536 x)).flatMap cI):=by have:=RA.rd;rwa [Ds,hn]at this
 have T:Rd h [] vb 1 p ((iD (dg 65536 y)).flatMap cI):=by have:=RB.rd;rwa [Ds,hp]at this
 have oa:=rA.one;have ob:=T.one;have hxn:x%65536^n=x:=dv ((Cp (b:=65536) H n x).1 ω);have hyp:y%65536^p=y:=dv ((Cp (b:=65536) H p y).1 ω);refine Au func70 ntmps70 Y Y<|λ_ _=>U<|G Y<|BF<|G Y<|E (Aw rA.any Y Bb Y) Y<|G Y<|E (Aw T.any Y Bb Y) Y<|E (oA Y) Y<|KK Bf ω (0:Int) (n:=n+p) Y Bb By Y Y Y ω ω ω ω Y Y Y<|λg15 ev m0 hev M=>?_;have oe:=M.o1;refine J Y<|X<|U<|J Y<|Ag ?_;refine AC (λq sl v f=>∃(i:Nat) (s:Hp) (Z:List Nat),n-i=q/\sl=[(0,va),(1,vb),(5,ev),(6,.w (i:Int))]/\h=v/\f=[s]/\i<=n/\Z.length=n+p/\(∀a∈Z,a<65536)/\(∀j,i+p<=j->Z.getD j 0=0)/\val 65536 Z=x%65536^i*y/\OwnL cI 1 3 s ev (iD Z)) (n-0) _ ⟨0,m0,replicate (n+p) 0,Y,Y,Y,Y,ω,by simp,λa O=>by rw[(kj.1 O).2];decide,λj _=>by simp[List.getD,List.getElem?_replicate];split<;>rfl,by rw[He,jr,Nat.mod_one,Nat.zero_mul],by rw[show iD (replicate (n+p) 0)=replicate (n+p) 0 by simp[iD]];exact M⟩ Qs ?_;rintro q sl v f ⟨i,moA,ZA,rfl,rfl,rfl,rfl,hi,hZA,z,u,B,L⟩;refine X<|U<|D Y Y<|E (Aw rA.any Y Bb Y) Y<|J Y<|Ay Y (λhin=>?_)<|λhin=>?_
 .have hin':i<n:=ω
  have cA:=FB RA (i:=i) ω;obtain⟨m,P⟩:∃m,x/65536^i%65536=m:=⟨_,Y⟩
  have haib:m<65536:=ω
  rw[P]at cA;refine I<|X<|Ag<|U<|J Y<|X<|U<|J Y<|Ag ?_;refine AC (λq sl v f=>∃(k c:Nat) (s:Hp) (Z:List Nat),p-k=q/\sl=[(0,va),(1,vb),(5,ev),(6,.w (i:Int)),(7,.w (c:Int)),(8,.w (k:Int))]/\h=v/\f=[s]/\k<=p/\c<65536/\Z.length=n+p/\(∀a∈Z,a<65536)/\(∀j,i+p<=j->Z.getD j 0=0)/\val 65536 Z+c*65536^(i+k)=x%65536^i*y+m*(y%65536^k)*65536^i/\OwnL cI 1 3 s ev (iD Z)) (p-0) _ ⟨0,0,moA,ZA,Y,Y,Y,Y,ω,by decide,hZA,z,u,by rw[B,jr,Nat.mod_one];simp,L⟩ Qs ?_;rintro q sl v f ⟨k,c,s,Z,rfl,rfl,rfl,rfl,hk,hc,hZ,A,e,hv,hO⟩;have rE:Rd h [s] ev 1 (n+p) ((iD Z).flatMap cI):=by have:=(hO.rd (h:=h) (ms:=[s]) Mh).rd;rwa [Ds,hZ]at this
  refine X<|U<|D Y Y<|E (Aw T.any Y Bb Y) Y<|J Y<|Ay Y (λhkp=>?_)<|λhkp=>?_
  .have hkp':k<p:=ω
   have cB:=FB RB (i:=k) ω;obtain⟨bk,Q⟩:∃bk,y/65536^k%65536=bk:=⟨_,Y⟩
   have hbb:bk<65536:=ω
   rw[Q]at cB;have b:i+k<Z.length:=ω
   obtain⟨o,ho⟩:∃o,Z.getD (i+k) 0=o:=⟨_,Y⟩
   have S:Z[i+k]=o:=by rw[<-ho];simp[List.getD,b]
   have hob:o<65536:=A o (S ▸ aq b)
   have cZ:Cell h [s] ((AJ ev).add ((i+k)*1)) (.w (o:Int)):=by
    have h1:i+k<(iD Z).length:=by rw[Ds];exact b
    exact(hO.rd (h:=h) (ms:=[s]) Mh).cell0 h1 (by rw[YW b,S];rfl)
   have hprod:m*bk<=65535*65535:=fx ω ω;have t:(m:Int)*bk=((m*bk:Nat):Int):=(dz m bk).symm;obtain⟨d,hd⟩:∃d:Nat,o+m*bk+c=d:=⟨_,Y⟩
   have hdI:(o:Int)+m*bk+c=(d:Int):=by rw[t];omega
   have l:=Wz b ho Q hv;rw[hd]at l;have hdb:d/65536<65536:=ω
   have q1:((d:Int)/65536)=((d/65536:Nat):Int):=ω
   have q2:((d:Int)%65536)=((d%65536:Nat):Int):=ω
   refine I<|X<|Ag<|X<|BK 17 Cx V Y<|Wm Y<|Wm Y<|Wm Y<|BS (oA Y) Y Y<|BS (BP (i+k) rE Y Bb By Y Y) Y Y<|Wl Y U3 (cZ)<|Wm Y<|Wm Y<|BS (BP (i) rA.any Y Bb By Y Y) Y Y<|Wl Y U3 (cA _)<|Wm Y<|Wm Y<|BS (BP (k) T.any Y Bb By Y Y) Y Y<|Wl Y U3 (cB _) ?_;refine BS (oM Y (by rw[t];omega)) rfl rfl ?_;refine BS (oA Y (by rw[t];omega)) rfl rfl ?_;refine Wm Y<|BB ?_;refine E (DY (oA Y (by rw[t];omega))<|bh (Value.int .i64) hdI) rfl ?_;refine G Y<|BF<|D Y Y<|G Y<|E (oA Y) Y<|G Y<|E (DY (Eh Y Y Y ω ω)<|bh (Value.int .i64) q2) Y<|E (BP (i+k) rE Y Bb By Y Y) Y ?_;refine Fm 0 (i+k) hO Y By Y Y Y (by rw[Ds];omega) rfl rfl<|λK g=>?_;rw[AbV]at g;refine HM<|G Y<|E (DY (Ek Y Y Y ω ω)<|bh (Value.int .i64) q1) Y<|G Y<|Am<|D2<|Ad<|G Y<|E (oA Y) Y<|G Y<|Am ?_;exact Aq (p-(k+1)) _ ω ⟨k+1,d/65536,K,Z.set (i+k) (d%65536),Y,Y,Y,Y,ω,hdb,by rw[fh];exact hZ,λa O=>(gy O).elim (A a) (λq=>by rw[q];exact f6 _ H),λj hj=>by rw[show(Z.set (i+k) (d%65536)).getD j 0=Z.getD j 0 by simp[List.getD,gh,show ¬i+k=j by omega]];exact e j hj,l,g⟩ Qs
  .obtain rfl:k=p:=ω
   have b:i+k<Z.length:=ω
   have R:=ZT b (e (i+k) (ak _)) hyp P hv;refine C<|Ab<|Ad<|D Y Y<|G Y<|E (Aw T.any Y Bb Y) Y<|E (oA Y) Y<|G Y<|E (BP (i+k) rE Y Bb By Y Y) Y ?_;refine Fm 0 (i+k) hO Y By Y Y Y (by rw[Ds];omega) rfl rfl<|λK g=>?_;rw[AbV]at g;refine Am<|D2<|Ad<|G Y<|E (oA Y) Y<|G Y<|Am ?_;exact Aq (n-(i+1)) _ ω ⟨i+1,K,Z.set (i+k) c,Y,Y,Y,Y,ω,by rw[fh];exact hZ,λa O=>(gy O).elim (A a) (λq=>by rw[q];exact hc),λj hj=>by rw[show(Z.set (i+k) c).getD j 0=Z.getD j 0 by simp[List.getD,gh,show ¬i+k=j by omega]];exact e j ω,R,g⟩ Qs
 .obtain rfl:i=n:=ω
  rw[hxn]at B;have hst:DK ZA=dg 65536 (x*y):=by rw[DT H z,B]
  refine C<|Ab<|U<|G Y<|BX L λh2 l2 hR=>Qc call125 Y (MY ev ZA h2 hR ω)<|λr h3 ms3 l3 hF=>?_;obtain⟨rfl,rfl,RT⟩:=hF;rw[hst]at RT;have or_:=RT.rd.one;refine J Y<|Aj<|Ar Y Y (⟨l2,Y,RT⟩)
theorem AaB{a b:Int}(h:a*b≠0):decide (decide (a<0)≠decide (b<0))=decide (a*b<0):=by
 have f:a≠0:=λe=>h (by rw[e,iu]);have g:b≠0:=λe=>h (by rw[e,j6]);rcases Int.lt_or_gt_of_ne f with c|c<;>rcases Int.lt_or_gt_of_ne g with d|d
 .have:=Int.mul_pos_of_neg_of_neg c d;simp[c,d,show ¬a*b<0 by omega]
 .have:=Int.mul_neg_of_neg_of_pos c d;simp[c,show ¬b<0 by omega,this]
 .have:=Int.mul_neg_of_pos_of_neg c d;simp[d,show ¬a<0 by omega,this]
 .have:=Int.mul_pos c d;simp[show ¬a<0 by omega,show ¬b<0 by omega,show ¬a*b<0 by omega]
theorem Ri(a b:Int)(O:Sz a)(P:Sz b)(h:Hp)(c:List Hp):FnV prog 26 #[WD a,WD b] h c (WD (a*b)):=by
 refine D9 (FnT.mono (post:=λr S v=>h.le S/\v=[]/\r=WD (a*b)) ?_ λ_ _ _ q=>q.2.2) c;have x:=AA (Ba a.natAbs);have y:=AA (Ba b.natAbs);have z:=AA (Ba (a*b).natAbs);have la:=O.d16;have lb:=P.d16
 have hW:WS (decide (decide (a<0)≠decide (b<0))) (a.natAbs*b.natAbs)=WD (a*b):=by rw[<-jv];exact Uw λj=>AaB j
 have Q:(dg 65536 (a.natAbs*b.natAbs)).length<=800000:=by have:=Ob (b:=65536) H a.natAbs b.natAbs;omega
 refine Au func26 ntmps26 Y Y<|λ_ _=>U<|AK [_,_] Y Y ξ Y Y Y<|λL=>AK [_,_] Y Y ξ Y Y Y<|λM=>BJ [.bool false,.es] Y Av Y Y<|λg4=>Ao<|Ak 1 Y λh1 l1 g=>Ak 1 Y λe l f=>?_;have k:=N l1 l;have s2:∀c,Seg e c (⟨L,0,none⟩:Addr) (Bg a):=λc=>f.any;have s3:∀c,Seg e c (⟨M,0,none⟩:Addr) (Bg b):=λc=>(g.le l).any;have R:∀c,Cell e c ((⟨L,0,none⟩:Addr).add 0) (.bool (decide (a<0))):=λc=>(f 0 _ Y).any;have c3:∀c,Cell e c ((⟨M,0,none⟩:Addr).add 0) (.bool (decide (b<0))):=λc=>((g.le l) 0 _ Y).any;refine X<|AS (n:=12) (bs:=[W,W,W,W,W,W,lw,W,lw,lw,lw,lw]) [W,W,W,W,W,W,lw,W] Cx V V Y Y<|QF DI Y<|QL Y U4 (R _)<|QF DI Y<|QL Y U4 (c3 _)<|Qp Y (I6 Y U4 Y Y)<|Qp Y (oG Y Bn Av<|s2 _)<|Qp Y (oG Y Bn Av<|s3 _)<|Qo 6 Y<|AE (pre:=[]) Y call63 Y (HK a O e) Y Y Y Y<|λva T ms3 l3 d=>?_;obtain⟨s,rfl,A⟩:=d;have oa:=A.rd.one;refine Qa<|Qo 8 Y<|AE (pre:=[]) Y call63 Y (HK b P T) Y Y Y Y<|λvb h4 ms4 l4 d=>?_;obtain⟨i,rfl,B⟩:=d;have ob:=B.rd.one;have m:=N s i;refine Qa<|Qo 9 Y<|AE (pre:=[]) Y call70 Y (Aal va vb a.natAbs b.natAbs h4 (A.up i) B la lb) Y Y Y Y<|λvp h5 ms5 l5 d=>?_;obtain⟨t,rfl,K⟩:=d;have op:=K.rd.one;have n:=N m t;refine Qa<|Qo 10 Y<|AE (pre:=[]) Y call64 Y (Hw (decide<|decide (a<0)≠decide (b<0)) vp _ (a.natAbs*b.natAbs) h5 K Z (Sk _)<|Ki H _) Y Y Y Y<|λvw h6 ms6 l6 d=>?_;obtain⟨u,rfl,rfl⟩:=d;have p:=N n u;rw[hW];refine Qa<|Qo 11 Y ?_;refine Sa 0 [_,_] Av Y (by simp[x,y,z,AA]) ?_;refine Qa<|Qe<|Ab<|Aj<|BC (vs:=[_,_]) 0 Y Y Bn Y Av Y Y (⟨N k p,Y,Y⟩)
theorem Ae9(m a:Int)(c:m=0)(l:Sz a)(h:Hp)(b:List Hp):FnV prog 112 #[WD m,WD a] h b (.bool (decide (m∣a))):=by
 refine D9 ?_ b;have s:=AA (Ba m.natAbs);have r:=AA (Ba a.natAbs);have d:Sz m:=by subst c;unfold Sz;decide
 refine Au func112 ntmps112 Y Y<|λ_ _=>U<|AK [_,_] Y Y ξ Y Y Y<|λe=>AK [_,_] Y Y ξ Y Y Y<|λf=>J Y<|AH λt u i=>AH λj p g=>?_;have f:∀b,Seg j b (⟨f,0,none⟩:Addr) (Bg a):=λb=>(i.le p).any;have e:∀b,Seg j b (⟨e,0,none⟩:Addr) (Bg m):=λb=>g.any;refine X<|U<|E (oG Y Bn Av<|e _) Y<|E (As Y call55 Y<|H7 m d _ _) Y<|J Y<|Ay Y (λk=>?_)<|λk=>lj ((by rw[c];decide)) k;refine U<|E (oG Y Bn Av<|f _) Y<|E (As Y call55 Y<|H7 a l _ _) Y<|G Y<|J Y<|Aj<|Ae<|Ar Y Y<|bh Value.bool<|fy.2 (by rw[c,Int.zero_dvd];exact di)
theorem AbH(m a:Int)(g:m=0)(j:Sz a)(h:Hp)(b:List Hp):FnV prog 57 #[WD m,WD a] h b (.bool (decide (m∣a))):=by refine D9 ?_ b;have p:=AA (Ba m.natAbs);have n:=AA (Ba a.natAbs);refine Au func57 ntmps57 Y Y<|λ_ _=>U<|AK [_,_] Y Y ξ Y Y Y<|λc=>AK [_,_] Y Y ξ Y Y Y<|λd=>J Y<|AH λr s f=>AH λi l e=>?_;have d:∀b,Seg i b (⟨d,0,none⟩:Addr) (Bg a):=λb=>(f.le l).any;have c:∀b,Seg i b (⟨c,0,none⟩:Addr) (Bg m):=λb=>e.any;refine U<|E (oG Y Bn Av<|c _) Y<|E (oG Y Bn Av<|d _) Y<|E (As Y call112 Y<|Ae9 m a g j _ _) Y<|J Y<|Aj<|Ar Y Y<|Y
theorem HE{h:Hp}{a:List Hp}{p:Addr}{t:Tm}(S:Seg h a p (D6 t)):Seg h a (p.add 1) (Bg t.2):=λi v b=>by
 have:=S (1+i) v (by rw[ij];exact b)
 rwa [BD]
theorem Gn{h:Hp}{a:List Hp}{p:Addr}{t:Tm}(S:Seg h a p (D6 t)):Cell h a (p.add 0) (.int .i64 t.1):=S 0 _ rfl
theorem W2(v:Value)(l:List Tm)(c:Int)(h:Hp)(R:ChR v h l)(b:List Hp):FnV prog 71 #[v,.int .i64 c] h b (WD (cf l c)):=by
 refine D9 ?_ b;obtain⟨n,L⟩:∃n,l.length=n:=⟨_,Y⟩
 have Q:n<=100000:=L ▸ R.len;have i:Rd h [] v 3 n (l.flatMap D6):=by have:=R.rd.rd;rwa [L]at this
 have M:=i.one;refine Au func71 ntmps71 Y Y<|λ_ _=>U<|BJ [.bool false,.es] Y Av Y Y<|λz=>BF<|BJ [.bool false,.es] Y Av Y Y<|λA=>Ao<|X<|U<|J Y<|Ag<|AC (λq O K e=>∃(k:Nat),n-k=q/\O=[(0,v),(1,.w c),(4,.pt z),(5,.pt A),(6,.w (k:Int))]/\h=K/\e=[BE A 33 (Bg (cf (l.take k) c)),BE z 33 (Bg 0)]/\k<=n) (n-0) _ ⟨0,Y,Y,Y,Y,Z⟩ Qs ?_;rintro q O K e ⟨k,rfl,rfl,rfl,rfl,T⟩;obtain⟨x,d⟩:∃x,cf (l.take k) c=x:=⟨_,Y⟩
 have s:Sz x:=by rw[<-d];exact Mo (bl (Dc _ _)<|Gw l k) R.abs H
 have f:=AA (Ba x.natAbs);rw[d];refine X<|U<|D Y Y<|E (Aw i.any Y Ct Y) Y<|J Y<|Ay Y (λm=>?_)<|λm=>?_
 .have P:k<n:=Z
  have a:k<l.length:=Z
  obtain⟨t,p⟩:∃t,l[k]=t:=⟨_,Y⟩
  have r:t∈l:=p ▸ aq a;have B:∀b,Seg h b ((AJ v).add (k*3)) (D6 t):=λb=>by rw[<-p];exact(R.rd.any (ms:=b)).seg a
  have g:cf (l.take (k+1)) c=x+if t.1=c then t.2 else 0:=by rw[ap a,p,DQ,d,CN,Ka];omega
  refine I<|X<|Ag<|U<|D Y Y<|E (BP (k) i.any Y Ct Cv Y Y) Y<|Qf Gr Y<|Ql Y U3 (Gn<|B _)<|G Y<|J Y<|Ay Y (λj=>?_)<|λj=>?_
  .have y:=AA (Ba t.2.natAbs);have u:=AA (Ba (x+t.2).natAbs);rw[ah j]at g;refine AS (n:=8) (bs:=[lw,W,W,W,W,W,lw,lw]) [lw,W,W,W,W,W] Cx V V Y Y<|Qq Y<|Qq Y<|Qp Y (BP (k) i.any Y Ct Cv Y Y)<|QF Ic Y<|Qp Y (oG Y Bn Av<|HE<|B _)<|Qo 0 Y<|E (oG Y Bn Av<|Seg.blk 0 Y) Y<|Qw<|Qo 6 Y<|E (As Y call22 Y<|Ln x t.2 s (R.sz r) _ _) Y<|Qw<|Qo 7 Y ?_;refine Sa 0 [_,_] Av Y (by simp[M,AA,f,y,u]) ?_;refine Qw<|Qe<|D2<|Ad<|G Y<|E (oA Y) Y<|G Y<|Am ?_;exact Aq (n-(k+1)) _ Z ⟨k+1,Y,Y,Y,by rw[g];rfl,Z⟩ Qs
  .rw[af j,il]at g;refine Ah<|D2<|Ad<|G Y<|E (oA Y) Y<|G Y<|Am ?_;exact Aq (n-(k+1)) _ Z ⟨k+1,Y,Y,Y,by rw[g],Z⟩ Qs
 .obtain rfl:k=n:=Z
  rw[show l.take k=l from bm Z]at d;refine C<|Ab<|U<|E (oG Y Bn Av<|Seg.blk 0 Y) Y ?_;refine Sa 1 [_,_] Av Y (by simp[M,AA,f]) ?_;refine Ao<|Aj<|AU ?_;exact BC (vs:=[_,_]) 0 Y Y Bn Y Av Y Y ((by rw[d];rfl))
def Gi(l:List Tm)(k d:Nat)(c n:Int):List Tm:=l.take k++(if n≠0 then [(c,n)] else [])++l.drop (k+d)
theorem Agp(v:Value)(l:List Tm)(c x:Int)(h:Hp)(R:ChR v h l)(hx:Sz x)(hc:Cb c)(hs:∀t∈l,Sz (t.2+x)) :
  FnT prog 62 #[v,.w c,WD x] h [] (λr O u=>h.le O/\u=[]/\∃k,k<=l.length/\(∀j (hj:j<l.length),j<k->l[j].1<c)/\((∃Q:k<l.length,l[k].1=c/\RdL D6 3 O [] r (Gi l k 1 c (l[k].2+x)))\/((∀Q:k<l.length,c<l[k].1)/\RdL D6 3 O [] r (Gi l k 0 c x)))):=by
 obtain⟨n,hn⟩:∃n,l.length=n:=⟨_,Y⟩
 have hnb:n<=100000:=hn ▸ R.len;have rL:Rd h [] v 3 n (l.flatMap D6):=by have:=R.rd.rd;rwa [hn]at this
 have ov:=rL.one;have osx:=AA (Ba x.natAbs);refine Au func62 ntmps62 Y Y<|λ_ _=>U<|AK [_,_] Y Y ξ Y Y Y<|λg5=>G Y<|BF<|J Y<|Bu (λsl O u=>∃k:Nat,sl=[(0,v),(1,.w c),(5,.pt g5),(7,.w (k:Int))]/\h=O/\u=[BE g5 33 (Bg x)]/\k<=n/\(∀j (hj:j<l.length),j<k->l[j].1<c)/\(∀Q:k<l.length,¬l[k].1<c)) ?_<|λs h S hI=>?_
 .refine Ag<|AC (λq sl O u=>∃(k:Nat),n-k=q/\sl=[(0,v),(1,.w c),(5,.pt g5),(7,.w (k:Int))]/\h=O/\u=[BE g5 33 (Bg x)]/\k<=n/\(∀j (hj:j<l.length),j<k->l[j].1<c)) (n-0) _ ⟨0,Y,Y,Y,Y,Z,λj _ hj=>Z⟩ Qs ?_;rintro q sl O u ⟨k,rfl,rfl,rfl,rfl,Q,d⟩;refine X<|U<|D Y Y<|E (Aw rL.any Y Ct Y) Y<|D Y Y<|AY (t:=14) Y (λhlt=>?_)<|λhlt=>?_
  .have z:k<l.length:=Z
   have gE:∀S,Seg h S ((AJ v).add (k*3)) (D6 l[k]):=λS=>(R.rd.any (ms:=S)).seg z;refine Qg (Ap Y Y) Y<|Qg (Ap Y Y) Y<|Qg (BP (k) rL.any Y Ct Cv Y Y) Y<|Qg (oF Gr Y) Y<|Qg (oL Y U3<|Gn<|gE _) Y<|Qg (Ap Y Y) Y<|Qg (Dw Y Y Y) Y<|J Y<|Ay Y (λhlc=>?_)<|λhlc=>?_
   .refine I<|Ag<|Ad<|G Y<|E (oA Y) Y<|G Y<|Am<|Ai ?_;exact Aq (n-(k+1)) _ Z ⟨k+1,Y,Y,Y,Y,Z,λj hj hjk=>by rcases (Z:j<k\/j=k) with q|rfl;exact d j hj q;exact hlc⟩ Qs
   .refine C<|AI _ ⟨k,Y,Y,Y,Q,d,λ_=>hlc⟩ Qs
  .refine DM Y Y<|DM Y Y<|DM Y Y<|Qk Y<|J Y<|AM Y<|C<|AI _ ⟨k,Y,Y,Y,Q,d,λq=>lj q Z⟩ Qs
 .obtain⟨k,rfl,rfl,rfl,Q,d,hge⟩:=hI
  have R1:RdL D6 3 h [] (C6 3 v 0 k) (l.take k):=by
   have:=R.rd.sub_ (i:=0) (j:=k) Z Z
   rwa [js,ix]at this
  refine U<|J Y<|BW<|U<|D Y Y<|G Y<|E (DW (k) rL.any Y Ct Cv Y Y Z Z) Y<|AL 0 (OwnL.nil EX) R1.any Y Ct Cv Y Z Y Y Y D3 (by simp only[fv,bf];omega) (by simp only[fv,bf];omega) rfl rfl rfl<|λv8 mo P=>?_;rw[aw]at P;have o8:=P.o1;refine G Y<|BF<|D Y Y<|E (Dm (k) rL.any Y Ct Cv Y Y Z Z) Y<|J Y ?_
  have M:RdL D6 3 h [] (C6 3 v k n) (l.drop k):=by
   have:=R.rd.sub_ (i:=k) (j:=n) Z Z
   rwa [bm (by rw[br];omega)]at this
  have h9l:(l.drop k).length=n-k:=by rw[br,hn]
  have r9:Rd h [] (C6 3 v k n) 3 (n-k) ((l.drop k).flatMap D6):=by have:=M.rd;rwa [h9l]at this
  refine X<|U<|G Y<|E (Aw r9.any Y Ct Y) Y<|D Y Y<|AY (t:=36) Y (λhlen=>?_)<|λhlen=>?_
  .have z:k<l.length:=Z
   obtain⟨t,ht⟩:∃t,l[k]=t:=⟨_,Y⟩
   have htm:t∈l:=ht ▸ aq z;have hd0:(l.drop k)[0]'Z=t:=by rw[kx];exact ht
   have gE:∀S,Seg h S ((AJ (C6 3 v k n)).add (0*3)) (D6 t):=λS=>by
    have:=(M.any (ms:=S)).seg (j:=0) Z
    rwa [hd0]at this
   refine Qg (Ap Y Y) Y<|Qg (BP (0) r9.any Y Ct Cv Y Y) Y<|Qg (oF Gr Y) Y<|Qg (oL Y U3<|Gn<|gE _) Y<|Qg (Ap Y Y) Y<|Qg (Cq Y Y Y) Y<|J Y<|Ay Y (λheq=>?_)<|λheq=>?_
   .have ost:=AA (Ba t.2.natAbs);have oss:=AA (Ba (t.2+x).natAbs);refine X<|AS (n:=7) (bs:=[W,W,W,W,lw,lw,lw]) [W,W,W,W] Cx V V Y Y<|Qq Y<|Qp Y (BP (0) r9.any Y Ct Cv Y Y)<|QF Ic Y<|Qp Y (oG Y Bn Av<|HE<|gE _)<|Qo 4 Y<|E (oG Y Bn Av<|Seg.blk 1 Y) Y<|Qw<|Qo 5 Y<|E (As Y call22 Y<|Ln t.2 x (R.sz htm) hx _ _) Y<|Qw<|Qo 6 Y ?_;refine Sa 1 [_,_] Av Y (by simp[ov,osx,AA,o8,ost,oss]) ?_;refine Qw<|Qe ?_
    have L:RdL D6 3 h [] (C6 3 (C6 3 v k n) 1 (n-k)) (l.drop (k+1)):=by
     have:=M.sub_ (i:=1) (j:=n-k) Z Z
     rwa [List.drop_drop,bm (by rw[br];omega)]at this
    have h10l:(l.drop (k+1)).length=n-k-1:=by rw[br];omega
    have r10:Rd h [] (C6 3 (C6 3 v k n) 1 (n-k)) 3 (n-k-1) ((l.drop (k+1)).flatMap D6):=by have:=L.rd;rwa [h10l]at this
    refine Ab<|Ad<|G Y<|E (Dm (1) r9.any Y Ct Cv Y Y Z Z) Y<|J Y ?_;obtain⟨p,i⟩:∃p,t.2+x=p:=⟨_,Y⟩
    have hxq:Sz p:=i ▸ hs t htm;rw[i];have osq:=AA (Ba p.natAbs);have T:=AA (Ba (p+0).natAbs);have o9:=L.rd.one;refine X<|U<|E (oG Y Bn Av<|Seg.blk 1 Y) Y<|E (As Y call55 Y<|H7 p hxq _ _) Y<|J Y<|Ay Y (λf=>?_)<|λf=>?_
    .have g:p≠0:=λe=>f (by rw[e];rfl);refine Ad<|D Y Y<|E (oG Y Bn Av<|Seg.blk 1 Y) Y<|E (AQ JP [.bool false,.es] [] [_,_] Y Av Y Y Qt Y) Y<|E (As Y call22 Y<|Ln p 0 hxq (by unfold Sz;decide) _ _) Y ?_;refine E (AQ ZI [.w 0,.bool false,.es] [(0,_),(1,_)] [_,_,_] Y Cv Y Y Qt Y) Y<|AB [_,_,_] Y Ct Cv Y ξ Y Y Z Y Y Y<|λg61=>AL 1 P (RdL.one EX (x:=((c,p+0):Tm)) Mh Y) Y Ct Cv Y Z Y Y Y D3 (by simp only[ae,bf];omega) (by simp only[ae,bf];omega) rfl rfl rfl<|λv9 mo9 m=>?_;have o99:=m.o1;refine G Y<|BF<|D Y Y<|AL 1 m (L).any Y Ct Cv Y Z Y Y Y D3 (by simp only[ag,ae,bf,br];omega) (by simp only[ag,ae,bf,br];omega) rfl rfl rfl<|λvA B a=>?_;have K:=a.o1;refine J Y<|Aj<|AU<|Dr a λh2 A b=>AU ?_;rw[show l.take k++[((c,p+0):Tm)]++l.drop (k+1)=Gi l k 1 c p by unfold Gi;rw[ah g,il]<;>rfl]at b;exact Ar Y Y (⟨A,Y,k,Z,d,.inl ⟨z,by rw[ht];exact heq,by rw[ht,i];exact b⟩⟩)
    ·have g:p=0:=Int.sign_eq_zero_iff_zero.1 (Classical.not_not.1 f);refine Ah (Ab (Ax (Qm rfl (Qm rfl (AL 0 P (L).any rfl Ct Cv rfl (by omega) rfl rfl rfl D3 (by simp only[length_append,length_take,length_drop];omega) (by simp only[length_append,length_take,length_drop];omega) rfl rfl rfl (fun vA B a=>?_))))));have K:=a.o1;refine Qm rfl (Ao (Aj (Dr a fun h2 A b=>(AU ?_))));rw[show l.take k++l.drop (k+1)=Gi l k 1 c p by unfold Gi;rw[if_neg (fun e=>e g),append_nil]<;>rfl]at b;exact Ar rfl rfl (⟨A,rfl,k,by omega,d,.inl ⟨z,by rw[ht];exact heq,by rw[ht,i];exact b⟩⟩)
   .have y:∀Q:k<l.length,c<l[k].1:=λq=>by have:=hge q;rw[ht]at this ⊢;omega
    obtain⟨p,i⟩:∃p,x=p:=⟨_,Y⟩
    have hxq:Sz p:=i ▸ hx;subst i;refine I ?_;have osq:=AA (Ba x.natAbs);have T:=AA (Ba (x+0).natAbs);have o9:=M.rd.one;refine X<|U<|E (oG Y Bn Av<|Seg.blk 1 Y) Y<|E (As Y call55 Y<|H7 x hx _ _) Y<|J Y<|Ay Y (λf=>?_)<|λf=>?_
    .have g:x≠0:=λe=>f (by rw[e];rfl);refine Ad<|D Y Y<|E (oG Y Bn Av<|Seg.blk 1 Y) Y<|E (AQ JP [.bool false,.es] [] [_,_] Y Av Y Y Qt Y) Y<|E (As Y call22 Y<|Ln x 0 hx (by unfold Sz;decide) _ _) Y ?_;refine E (AQ ZI [.w 0,.bool false,.es] [(0,_),(1,_)] [_,_,_] Y Cv Y Y Qt Y) Y<|AB [_,_,_] Y Ct Cv Y ξ Y Y Z Y Y Y<|λg61=>AL 1 P (RdL.one EX (x:=((c,x+0):Tm)) Mh Y) Y Ct Cv Y Z Y Y Y D3 (by simp only[ae,bf];omega) (by simp only[ae,bf];omega) rfl rfl rfl<|λv9 mo9 m=>?_;have o99:=m.o1;refine G Y<|BF<|D Y Y<|AL 1 m (M).any Y Ct Cv Y Z Y Y Y D3 (by simp only[ag,ae,bf,br];omega) (by simp only[ag,ae,bf,br];omega) rfl rfl rfl<|λvA B a=>?_;have K:=a.o1;refine J Y<|Aj<|AU<|Dr a λh2 A b=>AU ?_;rw[show l.take k++[((c,x+0):Tm)]++l.drop k=Gi l k 0 c x by unfold Gi;rw[ah g,il]<;>rfl]at b;exact Ar Y Y (⟨A,Y,k,Z,d,.inr ⟨y,b⟩⟩)
    ·have g:x=0:=Int.sign_eq_zero_iff_zero.1 (Classical.not_not.1 f);refine Ah (Ab (Ax (Qm rfl (Qm rfl (AL 0 P (M).any rfl Ct Cv rfl (by omega) rfl rfl rfl D3 (by simp only[length_append,length_take,length_drop];omega) (by simp only[length_append,length_take,length_drop];omega) rfl rfl rfl (fun vA B a=>?_))))));have K:=a.o1;refine Qm rfl (Ao (Aj (Dr a fun h2 A b=>(AU ?_))));rw[show l.take k++l.drop k=Gi l k 0 c x by unfold Gi;rw[if_neg (fun e=>e g),append_nil]<;>rfl]at b;exact Ar rfl rfl (⟨A,rfl,k,by omega,d,.inr ⟨y,b⟩⟩)
  .have y:∀Q:k<l.length,c<l[k].1:=λq=>lj q Z;refine DM Y Y<|DM Y Y<|DM Y Y<|J Y<|AM Y<|I ?_;have osq:=AA (Ba x.natAbs);have T:=AA (Ba (x+0).natAbs);have o9:=M.rd.one;refine X<|U<|E (oG Y Bn Av<|Seg.blk 1 Y) Y<|E (As Y call55 Y<|H7 x hx _ _) Y<|J Y<|Ay Y (λf=>?_)<|λf=>?_
   .have g:x≠0:=λe=>f (by rw[e];rfl);refine Ad<|D Y Y<|E (oG Y Bn Av<|Seg.blk 1 Y) Y<|E (AQ JP [.bool false,.es] [] [_,_] Y Av Y Y Qt Y) Y<|E (As Y call22 Y<|Ln x 0 hx (by unfold Sz;decide) _ _) Y ?_;refine E (AQ ZI [.w 0,.bool false,.es] [(0,_),(1,_)] [_,_,_] Y Cv Y Y Qt Y) Y<|AB [_,_,_] Y Ct Cv Y ξ Y Y Z Y Y Y<|λg61=>AL 1 P (RdL.one EX (x:=((c,x+0):Tm)) Mh Y) Y Ct Cv Y Z Y Y Y D3 (by simp only[ae,bf];omega) (by simp only[ae,bf];omega) rfl rfl rfl<|λv9 mo9 m=>?_;have o99:=m.o1;refine G Y<|BF<|D Y Y<|AL 1 m (M).any Y Ct Cv Y Z Y Y Y D3 (by simp only[ag,ae,bf,br];omega) (by simp only[ag,ae,bf,br];omega) rfl rfl rfl<|λvA B a=>?_;have K:=a.o1;refine J Y<|Aj<|AU<|Dr a λh2 A b=>AU ?_;rw[show l.take k++[((c,x+0):Tm)]++l.drop k=Gi l k 0 c x by unfold Gi;rw[ah g,il]<;>rfl]at b;exact Ar Y Y (⟨A,Y,k,Z,d,.inr ⟨y,b⟩⟩)
   ·have g:x=0:=Int.sign_eq_zero_iff_zero.1 (Classical.not_not.1 f);refine Ah (Ab (Ax (Qm rfl (Qm rfl (AL 0 P (M).any rfl Ct Cv rfl (by omega) rfl rfl rfl D3 (by simp only[length_append,length_take,length_drop];omega) (by simp only[length_append,length_take,length_drop];omega) rfl rfl rfl (fun vA B a=>?_))))));have K:=a.o1;refine Qm rfl (Ao (Aj (Dr a fun h2 A b=>(AU ?_))));rw[show l.take k++l.drop k=Gi l k 0 c x by unfold Gi;rw[if_neg (fun e=>e g),append_nil]<;>rfl]at b;exact Ar rfl rfl (⟨A,rfl,k,by omega,d,.inr ⟨y,b⟩⟩)
theorem XV(l:List Tm)(k:Nat):Bi l=Bi (l.take k)+Bi (l.drop k):=by rw[<-Bp,List.take_append_drop]
theorem Ac1(c n:Int):Bi (if n≠0 then [((c,n):Tm)] else [])<=n.natAbs:=by
 split
 .simp[Bi]
 .simp[Bi]
theorem UM(l:List Tm)(k d:Nat)(c n:Int)(a:k<=l.length):(Gi l k d c n).length<=l.length+1:=by unfold Gi;rw[ag,ag,bf,br];split<;>simp<;>omega
def CanV(f:Int->Int)(A N:Nat)(r:Value)(h:Hp):Prop:=∃l,CanL l f/\ChR r h l/\Bi l<=A/\l.length<=N
theorem CanV.up{f:Int->Int}{A N:Nat}{r:Value}{h d:Hp}(C:CanV f A N r h)(q:h.le d):CanV f A N r d:=by obtain⟨l,c,R,a,b⟩:=C;exact⟨l,c,R.up q,a,b⟩
theorem TH(v:Value)(l:List Tm)(f:Int->Int)(c x:Int)(h:Hp)(R:ChR v h l)(C:CanL l f)(hc:Cb c)(hN:l.length<100000)(L:Bi l+x.natAbs<2^2000000) :
  FnT prog 62 #[v,.w c,WD x] h [] (λr K O=>h.le K/\O=[]/\CanV (upd f c x) (Bi l+x.natAbs) (l.length+1) r K):=by
 have hx:Sz x:=Mo (n:=Bi l+x.natAbs) Z L H;have hs:∀t∈l,Sz (t.2+x):=λt ht=>Mo (n:=Bi l+x.natAbs) (by have:=HU ht;omega) L H;refine(Agp v l c x h R hx hc hs).mono λr K O ⟨q,e,k,P,z,hr⟩=>⟨q,e,?_⟩
 have fin:∀d n,(∀p∈Gi l k d c n,p.1=c\/p∈l)->Bi (Gi l k d c n)<=Bi l+x.natAbs->CanL (Gi l k d c n) (upd f c x)->RdL D6 3 K [] r (Gi l k d c n)->CanV (upd f c x) (Bi l+x.natAbs) (l.length+1) r K:=λd n g m Q h4=>
  ⟨_,Q,⟨h4,by have:=UM l k d c n P;omega,λp a=>(g p a).elim (λe=>e ▸ hc) (R.ids p),Z⟩,m,UM l k d c n P⟩
 have s:∀d n,∀p∈Gi l k d c n,p.1=c\/p∈l:=λd n p a=>by
  unfold Gi at a;rcases bi.1 a with a|a
  .rcases bi.1 a with a|a
   .exact .inr<|ge a
   .left;split at a
    .rw[bj.1 a]
    .cases a
  .exact .inr<|jd a
 rcases hr with ⟨y,M,S⟩|⟨i,S⟩
 .have u:l[k].2=f c:=by rw[<-M];exact(C.val _ (aq y)).1
  refine fin 1 _ (s _ _) ?_ (Uk C P z (λj b T=>by have:=SM C.srt y b Z;omega) (by rw[u]) (λj b g m=>by have e:j=k:=Z;subst e;exact M)) S;have A:=XV l k;rw[fw y,DD]at A;have B:=Ac1 c (l[k].2+x);have e3:=Int.natAbs_add_le l[k].2 x;unfold Gi;rw[Bp,Bp];revert A B e3;generalize Bi (if l[k].2+x≠0 then [((c,l[k].2+x):Tm)] else [])=z1;generalize (l[k].2+x).natAbs=z2;generalize l[k].2.natAbs=z3;generalize x.natAbs=z4;generalize Bi (l.take k)=z5;generalize Bi (l.drop (k+1))=z6;intro A B e3;omega
 .have u:f c=0:=by
   refine ax λhne=>?_;obtain⟨j,b,e⟩:=ef.1 (C.all c hne);rcases (Z:j<k\/j=k\/k<j) with g|rfl|g
   .have:=z j b g;rw[e]at this;exact lj this σ
   .have:=i b;rw[e]at this;exact lj this σ
   .have m:=SM C.srt (i:=k) Z b g;have Q:=i Z;rw[e]at m;have m:l[k].1<c:=m;omega
  refine fin 0 _ (s _ _) ?_ (Uk C P z (λj b T=>?_) (by rw[u,Int.zero_add])<|λj b g m=>Z) S
  .have A:=XV l k;have B:=Ac1 c x;unfold Gi;rw[Bp,Bp];show _+_+Bi (l.drop (k+0))<=_;rw[gz];revert A B;generalize Bi (if x≠0 then [((c,x):Tm)] else [])=z1;generalize x.natAbs=z4;generalize Bi (l.take k)=z5;generalize Bi (l.drop k)=z6;intro A B;omega
  .rcases (Z:j=k\/k<j) with rfl|g
   .exact i b
   .have m:=SM C.srt (i:=k) Z b g;have Q:=i Z;omega
theorem IZ:CanL [] (λ_=>0):=⟨List.Pairwise.nil,λp b=>(by cases b),λc a=>lj rfl a⟩
theorem N6(l:List Tm)(t:Tm):upd (cf l) t.1 t.2=cf (l++[t]):=by funext a;unfold upd;rw[DQ,CN,Ka];omega
set_option exponentiation.threshold 4000000 in
theorem El(h:Hp):ChR (.slice none 0 0) h []:=⟨⟨Rd.nil _ _ _,EX⟩,by decide,λp a=>(by cases a),by show 0<_;exact jc H⟩
theorem IF(v:Value)(l:List Tm)(h:Hp)(R:ChR v h l):FnT prog 21 #[v] h [] (λr a b=>h.le a/\b=[]/\CanR l r a):=by
 obtain⟨n,O⟩:∃n,l.length=n:=⟨_,Y⟩
 have hnb:n<=100000:=O ▸ R.len;have i:∀a,h.le a->Rd a [] v 3 n (l.flatMap D6):=λa q=>by have:=(R.rd.up q).rd;rwa [O]at this
 have ov:=(i _ (Bk)).one;refine Au func21 ntmps21 Y Y<|λ_ _=>U<|G Y<|BF<|J Y<|X<|U<|J Y<|Ag<|AC (λq P a b=>∃(k:Nat) (w:Value),n-k=q/\P=[(0,v),(3,w),(4,.w (k:Int))]/\h.le a/\b=[]/\k<=n/\CanV (cf (l.take k)) (Bi (l.take k)) k w a) (n-0) _ ⟨0,_,Y,Y,Bk,Y,Z,[],IZ,El _,fm _,fm _⟩ Qs ?_;rintro q P a b ⟨k,w,rfl,rfl,e,rfl,hk,g⟩;have ow:w.oneCell'=true:=by obtain⟨_,_,q,_⟩:=g;exact q.rd.rd.one
 refine X<|U<|D Y Y<|E (Aw (i _ e).any Y Ct Y) Y<|J Y<|Ay Y (λu=>?_)<|λu=>?_
 .have hkn:k<n:=Z
  have d:k<l.length:=Z
  obtain⟨t,x⟩:∃t,l[k]=t:=⟨_,Y⟩
  have y:t∈l:=x ▸ aq d;have f:l.take (k+1)=l.take k++[t]:=by rw[ap d,x]
  have K:∀B,Seg a B ((AJ v).add (k*3)) (D6 t):=λB=>by rw[<-x];exact((R.rd.up e).any (ms:=B)).seg d
  obtain⟨z,j,p,L,hb⟩:=g;have hbt:Bi (l.take (k+1))=Bi (l.take k)+t.2.natAbs:=by rw[f,Bp];rfl
  have hle:=Gw l (k+1);have M:=R.abs;refine I<|X<|Ag<|AS (n:=13) (bs:=[W,W,W,W,W,W,W,W,W,W,W,lw,lw]) [W,W,W,W,W,W,W,W,W,W,W] Cx V V Y Y<|Qq Y<|Qq Y<|Qq Y<|Qp Y (AR (k) (i _ e).any Y Ct Cv Y Y Z Z)<|QF Gr Y<|QL Y U3 (Gn<|K _)<|Qq Y<|Qq Y<|Qp Y (AR (k) (i _ e).any Y Ct Cv Y Y Z Z)<|QF Ic Y<|Qp Y (oG Y Bn Av<|HE<|K _)<|Qo 11 Y<|AE (pre:=[]) Y call62 Y (TH w z _ t.1 t.2 a p j (R.ids t y) Z Z) Y Y Y Y<|λQ h2 ms2 l2 S=>?_;obtain⟨A,rfl,c⟩:=S;have ow2:Q.oneCell'=true:=by obtain⟨_,_,q,_⟩:=c;exact q.rd.rd.one
  refine Qa<|Qo 12 Y<|G Y<|Qa<|Qe ?_;rw[N6,<-f]at c;obtain⟨l3,m,s,T,hb3⟩:=c;refine D2<|Ad<|G Y<|E (oA Y) Y<|G Y<|Am<|Aq (n-(k+1)) _ Z ⟨k+1,Q,Y,Y,N e A,Y,Z,l3,m,s,Z,Z⟩ Qs
 .obtain rfl:k=n:=Z
  rw[show l.take k=l from bm Z]at g;obtain⟨z,j,p,L,hb⟩:=g;refine C<|Ab<|U<|G Y<|J Y<|Aj<|Ar Y Y (⟨e,Y,z,j,p,L,Z⟩)
theorem OK(a:Int)(v:Value)(l:List Tm)(h:Hp)(R:ChR v h l)(O:Sz a)(ha_:a.natAbs*Bi l<2^2000000):FnT prog 31 #[WD a,v] h [] (λr b c=>h.le b/\c=[]/\CanR (KL a l) r b):=by
 obtain⟨n,hn⟩:∃n,l.length=n:=⟨_,Y⟩
 have hnb:n<=100000:=hn ▸ R.len;have s:∀b,h.le b->Rd b [] v 3 n (l.flatMap D6):=λb q=>by have:=(R.rd.up q).rd;rwa [hn]at this
 have ov:=(s _ (Bk)).one;have osn:=AA (Ba a.natAbs);refine Au func31 ntmps31 Y Y<|λ_ _=>U<|AK [_,_] Y Y ξ Y Y Y<|λT=>J Y<|AH λh0 l0 L=>?_;have K:∀b,h0.le b->∀g,Seg b g (⟨T,0,none⟩:Addr) (Bg a):=λb q g=>(L.any).le q;refine U<|J Y<|X<|U<|J Y<|Ag<|AC (λq sl b c=>∃(k:Nat) (w:Value),n-k=q/\sl=[(1,v),(2,.pt T),(5,w),(6,.w (k:Int))]/\h0.le b/\c=[]/\k<=n/\CanV (cf (KL a (l.take k))) (Bi (KL a (l.take k))) k w b) (n-0) _ ⟨0,_,Y,Y,Bk,Y,Z,[],IZ,El _,fm _,fm _⟩ Qs ?_;rintro q sl b c ⟨k,w,rfl,rfl,f,rfl,hk,p⟩;have m:=N l0 f;have ow:w.oneCell'=true:=by obtain⟨_,_,q,_⟩:=p;exact q.rd.rd.one
 refine X<|U<|D Y Y<|E (Aw (s _ m).any Y Ct Y) Y<|J Y<|Ay Y (λM=>?_)<|λM=>?_
 .have hkn:k<n:=Z
  have e:k<l.length:=Z
  obtain⟨t,P⟩:∃t,l[k]=t:=⟨_,Y⟩
  have j:t∈l:=P ▸ aq e;have A:l.take (k+1)=l.take k++[t]:=by rw[ap e,P]
  have gE:∀g,Seg b g ((AJ v).add (k*3)) (D6 t):=λg=>by rw[<-P];exact((R.rd.up m).any (ms:=g)).seg e
  obtain⟨Q,u,y,ha,hb⟩:=p;have i:KL a (l.take (k+1))=KL a (l.take k)++[(t.1,a*t.2)]:=by rw[A];simp[KL]
  have hbt:Bi (KL a (l.take (k+1)))=Bi (KL a (l.take k))+(a*t.2).natAbs:=by rw[i,Bp];rfl
  have hle:Bi (KL a (l.take (k+1)))<=a.natAbs*Bi l:=by rw[K0];exact i6 _<|Gw l<|k+1
  have osm:=AA (Ba (a*t.2).natAbs);have ost:=AA (Ba t.2.natAbs);refine I<|X<|Ag<|AS (n:=15) (bs:=[W,W,W,W,W,W,W,W,W,W,W,W,W,lw,lw]) [W,W,W,W,W,W,W,W,W,W,W,W,W] Cx V V Y Y<|Qq Y<|Qq Y<|Qq Y<|Qp Y (AR (k) (s _ m).any Y Ct Cv Y Y Z Z)<|QF Gr Y<|QL Y U3 (Gn<|gE _)<|Qp Y (oG Y Bn Av<|K _ f _)<|Qq Y<|Qq Y<|Qp Y (AR (k) (s _ m).any Y Ct Cv Y Y Z Z)<|QF Ic Y<|Qp Y (oG Y Bn Av<|HE<|gE _)<|Qp Y (As Y call26 Y<|Ri a t.2 O (R.sz j) _ _)<|Qo 13 Y<|AE (pre:=[]) Y call62 Y (TH w Q _ t.1 (a*t.2) b y u (R.ids t j) Z Z) Y Y Y Y<|λw2 h2 ms2 l2 hF=>?_;obtain⟨S,rfl,d⟩:=hF;have ow2:w2.oneCell'=true:=by obtain⟨_,_,q,_⟩:=d;exact q.rd.rd.one
  refine Qa<|Qo 14 Y<|G Y<|Qa<|Qe ?_;have B:upd (cf (KL a (l.take k))) t.1 (a*t.2)=cf (KL a (l.take (k+1))):=by rw[i];exact N6 _ (t.1,a*t.2)
  rw[B]at d;obtain⟨l3,x,z,ha3,hb3⟩:=d;refine D2<|Ad<|G Y<|E (oA Y) Y<|G Y<|Am<|Aq (n-(k+1)) _ Z ⟨k+1,w2,Y,Y,N f S,Y,Z,l3,x,z,Z,Z⟩ Qs
 .obtain rfl:k=n:=Z
  rw[show l.take k=l from bm Z]at p;obtain⟨Q,u,y,ha,hb⟩:=p;refine C<|Ab<|U<|G Y<|J Y<|Aj ?_;exact Ar Y Y (⟨m,Y,Q,u,y,ha,by rw[KL,bb];omega⟩)
theorem MC(v w:Value)(l k:List Tm)(h:Hp)(R:ChR v h l)(b:ChR w h k)(L:l.length+k.length<=100000)(m:Bi (l++k)<2^2000000):FnT prog 28 #[v,w] h [] (λr g f=>h.le g/\f=[]/\CanR (l++k) r g):=by
 have T:=R.rd.rd.one;have ow:=b.rd.rd.one;refine Au func28 ntmps28 rfl rfl<|λw0 u=>?_;simp only[AW];have s:=R.len;have n:=b.len;refine U<|G rfl<|BF ?_;refine AX [] [] [] rfl Ct Cv rfl Z V (by repeat (first|exact fu|refine⟨⟨by first|rfl|exact(R.rd.rd.any).cells|exact(b.rd.rd.any).cells|exact Rd.cells ‹_›|exact(RdL.rd ‹_›).cells,rfl,rfl⟩,?_⟩)) rfl rfl rfl rfl<|λB=>?_;refine G rfl<|AL 0 (OwnL.blk (el:=79) (F:=D6) (l:=[]) 0 EX rfl H) R.rd.any rfl Ct Cv rfl Z rfl rfl rfl D3 (by simp only[fv];omega) (by simp only[fv];omega) rfl rfl rfl<|λv7 O a=>?_;rw[aw]at a;have Q:=a.o1;refine G rfl<|AL 0 a b.rd.any rfl Ct Cv rfl Z rfl rfl rfl D3 Z Z rfl rfl rfl<|λA P c=>?_;have S:=c.o1;refine BX c λi x d=>?_;refine Qc call21 rfl (IF A (l++k) i ⟨d,by rw[ag];omega,λp t=>(bi.1 t).elim (R.ids p) (b.ids p),m⟩)<|λr K y M j=>?_;obtain⟨e,rfl,C⟩:=j;have z:r.oneCell'=true:=by obtain⟨_,_,q,_⟩:=C;exact q.rd.rd.one
 refine J Y<|Aj<|Ar Y Y (⟨N x e,Y,C⟩)
theorem Xi(v w:Value)(x y:List Tm)(h:Hp)(X:ChR v h x)(Y:ChR w h y)(hn:x.length+y.length<=100000)(T:Bi x+Bi y<2^2000000):FnT prog 50 #[v,w] h [] (fun r t p=>h.le t/\p=[]/\Aex x y r t):=by
 have ov:=X.rd.rd.one;have ow:=Y.rd.rd.one;have S:=AA (Ba (-1:Int).natAbs)
 have i:(-1:Int).natAbs*Bi y<2^2000000:=by show 1*Bi y<_;omega
 refine Au func50 ntmps50 rfl rfl<|fun w0 M=>?_;simp only[AW];refine U<|G rfl<|BF<|G rfl<|E (As rfl call25 rfl<|H3 (-1) H _ _) rfl<|G rfl<|Qc call31 rfl (OK (-1) w y h Y (PH H) i)<|fun z K P l2 l=>?_;obtain⟨j,rfl,n,B,s,b,f⟩:=l;have oz:=s.rd.rd.one;have u:Bi n<=Bi y:=by rw[K0]at b;exact bl b (by show 1*Bi y<=_;omega)
 have A:n.length<=y.length:=by rw[KL,bb]at f;exact f
 refine Qc call28 rfl (MC v z x n K (X.up j) s Z (by rw[Bp];omega))<|fun r L Q l3 l=>?_;obtain⟨m,rfl,O,k,a,d,g⟩:=l;have R:=a.rd.rd.one;have e:Aex x y r L:=⟨O,k.congr fun c=>by rw[DQ,B.cf_eq,N7];omega,a,by rw[Bp]at d;omega,by rw[ag]at g;omega⟩
 refine G rfl<|Ao<|Aj<|Ar rfl rfl (⟨N j m,rfl,e⟩)
end
end Go.Proofs.Q