/- A part of the proof. -/
import Derived.Test.YtodheebhahdepaaGreatDoorRH
set_option linter.unusedSimpArgs false
set_option linter.unusedVariables false
set_option linter.unusedSectionVars false
set_option maxRecDepth 100000
set_option maxHeartbeats 4000000

open List (length_map replicate nil_append cons_append length_range)
namespace Go.Proofs.Q
open Go.Proofs.Tryz
open Go.Eng Go.RowKit
section
open Go.Lin
theorem NS(M N:FM)(ev eu:Value)(h:Hp)(hOM:M.Ok)(hON:N.Ok)(hRM:RdL cI 1 h [] ev M.e)(hRN:RdL cI 1 h [] eu N.e)(hno:¬((M.Rt/\N.Rt/\M.p=N.p)/\M.cols=N.rows)) :
  FnT Tryz.prog 93 #[.agg #[.w M.p,.w M.rows,.w M.cols,ev],.agg #[.w N.p,.w N.rows,.w N.cols,eu]] h [] (λx _ _=>x=.tuple #[.agg #[.w 0,.w 0,.w 0,.nl],.bool false]):=by
 have o1:=hRM.rd.one;have o2:=hRN.rd.one;refine Au func93 ntmps93 Y Y (λw0 hw0=>?_);simp only[A6];refine Aq (AP [_,_,_,_] Y Y (by rfl) Y Y Y (λg2=>AP [_,_,_,_] Y Y (by rfl) Y Y Y (λg3=>Cx [.w 0,.w 0,.w 0,.nl] Y A4 Y Y (λg4=>Qm Y (Am (Ac (Aq (Qx (oG Y Dr A4 (Seg.blk 2 Y)) Y (Qx (oG Y Dr A4 (Seg.blk 1 Y)) Y (Qx (AH Y call151 Y (DW (NM M N ev eu h hOM hON hRM hRN) _)) Y (Qx (BW (DB Y Y) (aw Value.bool decide_not.symm)) Y (Qm Y ?_))))))))))));refine AL (t:=17) Y (λh1=>?_) (λh1=>?_)
 ·refine Qk Y (Qk Y (Qk Y (Qk Y (Qk Y (Qm Y (Am (A5 Y (Aq (Qx (Bb Kw [.w 0,.w 0,.w 0,.nl] [] [_,_,_,_] Y A4 Y Y Qt Y) Y ?_)))))))));refine Sa 0 [_,_,_,_] A4 Y (by simp[Value.oneCell']) ?_;refine Qm Y (Am (An (Ae (AZ 2 Y (AZ 1 Y ?_)))));exact Ed (vs:=[_,_,_,_]) 0 Y Y Y Dr Y A4 Y Y (Y)
 ·have h2:M.cols≠N.rows:=λe=>hno ⟨bk.1 h1,e⟩;refine Qg (oF BU Y) Y (Qg (oL Y U3 (Cell.blk 2 Y Y)) Y (Qg (oF CQ Y) Y (Qg (oL Y U3 (Cell.blk 1 Y Y)) Y (Qg (B8 Y Y Y) Y (Qm Y (Am ?_))))));refine Ao Y (λhc=>?_) (λhc=>jt (h2) hc);refine Aq (Qx (Bb Kw [.w 0,.w 0,.w 0,.nl] [] [_,_,_,_] Y A4 Y Y Qt Y) Y ?_);refine Sa 0 [_,_,_,_] A4 Y (by simp[Value.oneCell']) ?_;refine Qm Y (Am (An (Ae (AZ 2 Y (AZ 1 Y ?_)))));exact Ed (vs:=[_,_,_,_]) 0 Y Y Y Dr Y A4 Y Y (Y)
theorem Wu(M N:FM)(ev eu:Value)(h:Hp)(hOM:M.Ok)(hON:N.Ok)(hRM:RdL cI 1 h [] ev M.e)(hRN:RdL cI 1 h [] eu N.e)(ms:List Hp):FnV Tryz.prog 94 #[.agg #[.int .i64 M.p,.int .i64 M.rows,.int .i64 M.cols,ev],.agg #[.int .i64 N.p,.int .i64 N.rows,.int .i64 N.cols,eu]] h ms (.bool (decide ((M.Rt/\N.Rt/\M.p=N.p)/\M.rows=N.rows/\M.cols=N.cols/\M.e=N.e))):=by
 refine DW ?_ ms;have o1:=hRM.rd.one;have o2:=hRN.rd.one;refine Au func94 ntmps94 Y Y (λw0 hw0=>?_);simp only[A6];refine Aq (AP [_,_,_,_] Y Y (by rfl) Y Y Y (λg2=>AP [_,_,_,_] Y Y (by rfl) Y Y Y (λg3=>Qm Y (BM (Qx (oG Y Dr A4 (Seg.blk 1 Y)) Y (Qx (oG Y Dr A4 (Seg.blk 0 Y)) Y (Qx (AH Y call151 Y (DW (NM M N ev eu h hOM hON hRM hRN) _)) Y (Qm Y ?_))))))));refine AL (t:=8) Y (λh1=>?_) (λh1=>?_)
 ·refine Qg (oF CQ Y) Y (Qg (oL Y U3 (Cell.blk 1 Y Y)) Y (Qg (oF CQ Y) Y (Qg (oL Y U3 (Cell.blk 0 Y Y)) Y (Qg (CO Y Y Y) Y (Qm Y (Qm Y ?_))))));refine AL (t:=15) Y (λh2=>?_) (λh2=>?_)
  ·refine Qg (oF BU Y) Y (Qg (oL Y U3 (Cell.blk 1 Y Y)) Y (Qg (oF BU Y) Y (Qg (oL Y U3 (Cell.blk 0 Y Y)) Y (Qg (CO Y Y Y) Y (Qm Y (Qm Y ?_))))));refine AL (t:=22) Y (λh3=>?_) (λh3=>?_)
   ·refine Qg (oF Bl Y) Y (Qg (oL Y AN (Cell.blk 1 Y Y)) Y (Qg (oF Bl Y) Y (Qg (oL Y AN (Cell.blk 0 Y Y)) Y (Qg (AH Y call92 Y (Pd _ _ ev eu h hRM hRN _)) Y (Qm Y (Qm Y (Am (An ?_))))))));exact Ap Y Y (by congr 1;rw[ft];exact⟨λe=>⟨h1,h2,h3,e⟩,λe=>e.2.2.2⟩)
   ·refine Qk Y (Qk Y (Qk Y (Qk Y (Qk Y (Qm Y (Qm Y (Am (An ?_))))))));exact Ap Y Y (by rw[aj];exact λe=>h3 e.2.2.1)
  ·refine Qk Y (Qk Y (Qk Y (Qk Y (Qk Y (Qm Y (Qm Y (Qk Y (Qk Y (Qk Y (Qk Y (Qk Y (Qm Y (Qm Y (Am (An ?_)))))))))))))));exact Ap Y Y (by rw[aj];exact λe=>h2 e.2.1)
 ·refine Qk Y (Qk Y (Qk Y (Qk Y (Qk Y (Qm Y (Qm Y (Qk Y (Qk Y (Qk Y (Qk Y (Qk Y (Qm Y (Qm Y (Qk Y (Qk Y (Qk Y (Qk Y (Qk Y (Qm Y (Qm Y (Am (An ?_))))))))))))))))))))));exact Ap Y Y (by rw[aj];exact λe=>h1 e.1)
theorem Wa(M N:FM)(ev eu:Value)(h:Hp)(hOM:M.Ok)(hON:N.Ok)(hRM:RdL cI 1 h [] ev M.e)(hRN:RdL cI 1 h [] eu N.e)(ms:List Hp):FnV Tryz.prog 99 #[.agg #[.int .i64 M.p,.int .i64 M.rows,.int .i64 M.cols,ev],.agg #[.int .i64 N.p,.int .i64 N.rows,.int .i64 N.cols,eu]] h ms (.bool (decide ((M.Rt/\N.Rt/\M.p=N.p)/\M=N))):=by
 refine DW ?_ ms;have o1:=hRM.rd.one;have o2:=hRN.rd.one;refine Au func99 ntmps99 Y Y (λw0 hw0=>?_);simp only[A6];refine Aq (AP [_,_,_,_] Y Y (by rfl) Y Y Y (λg2=>AP [_,_,_,_] Y Y (by rfl) Y Y Y (λg3=>Qm Y (BM (Qx (oG Y Dr A4 (Seg.blk 1 Y)) Y (Qx (oG Y Dr A4 (Seg.blk 0 Y)) Y (Qx (AH Y call154 Y (DW (QI M N ev eu h hOM hON hRM hRN) _)) Y (Qm Y (BM (Qm Y (Qm Y ?_)))))))))));refine AL (t:=10) Y (λh1=>?_) (λh1=>?_)
 ·refine Qg (oG Y Dr A4 (Seg.blk 1 Y)) Y (Qg (oG Y Dr A4 (Seg.blk 0 Y)) Y (Qg (AH Y call155 Y (AbG M N ev eu h hRM hRN _)) Y (Qm Y (Qm Y (Am (An ?_))))));exact Ap Y Y (by congr 1;rw[ft];exact⟨λe=>⟨h1,e⟩,λe=>e.2⟩)
 ·refine Qk Y (Qk Y (Qk Y (Qm Y (Qm Y (Am (An ?_))))));exact Ap Y Y (by rw[aj];exact λe=>h1 e.1)
open Go.Sort Go.Srt
variable {p:Int} {S:List Ce} {g:Nat->Nat->Int}
theorem FZ(hP:IsP p)(hl:S.length<=400):RtM p S.length S.length (GP p S):=
 ⟨hP,hl,hl,λa _ b hb=>C8 (by have:=hP.1;omega) (Jn (by have:=hP.1;omega) S b _) a⟩
theorem L4{n:Nat}{e:List Int}(h:(⟨p,n,n,e⟩:FM).Rt):RtM p n n (EX (Eu n e))/\BV n n (EX (Eu n e))=e/\BV n n (JK n e)=e:=by
 obtain⟨h1,⟨_,_,h2,h3⟩,h4,h5⟩:=h
 have hl:e.length=n*n:=by
  have:((e.length:Nat):Int)=((n*n:Nat):Int):=by rw[da];exact h4
  exact Int.ofNat_inj.1 this
 have hm:=Yz hl;refine⟨⟨h1,by simp only at h2;omega,by simp only at h2;omega,λi hi j hj=>?_⟩,hm,(K5 hl).symm⟩;have hx:EX (Eu n e) i j∈e:=by rw[<-hm];exact mem_mat.2 ⟨i,j,hi,hj,by rw[hm]⟩
 exact h5 _ hx
theorem Iq{k:Nat}{f g':Nat->Nat->Int}{i j:Nat}(h:∀t,t<k->g t j=g' t j):D4 p k f g i j=D4 p k f g' i j:=by unfold D4;rw[Bw λt ht=>by rw[h t ht]]
theorem FnV.to{P:Program}{f:FuncId}{args:Array Value}{h:Hp}{ms:List Hp}{v v':Value}(k:FnV P f args h ms v)(e:v=v'):FnV P f args h ms v':=e ▸ k
def Xw(p:Int)(F:List (Int×Int))(S:List Ce)(o:List Int)(M N:FM)(B:List Br):Prop:=IsP p/\OB p S o M N/\B=Do (CN (Bn F)) S (Re S.length M.e) S.length
theorem Abp{mp mr mc:Int}{o me ne:List Int}(Q:OB p S o ⟨mp,mr,mc,me⟩ ⟨p,S.length,S.length,ne⟩)(e2:ne=BV S.length S.length g)(hM:RtM p S.length S.length (D4 p S.length (GP p S) g)):((FH p S.length S.length (D4 p S.length (GP p S) g)).Rt/\(⟨mp,mr,mc,me⟩:FM).Rt/\p=mp)/\(S.length:Int)=mr/\(S.length:Int)=mc/\BV S.length S.length (D4 p S.length (GP p S) g)=me:=by
 have h:=Q.pr;simp only[e2]at h
 have e:FH p S.length S.length (D4 p S.length (GP p S) (JK S.length (BV S.length S.length g)))=FH p S.length S.length (D4 p S.length (GP p S) g):=by unfold FH;rw[AW (g:=D4 p S.length (GP p S) g) λi hi j hj=>Iq λt ht=>Oy ht hj]
 rw[e]at h;rw[h];simp only[FH,FM.mk.injEq]at h;obtain⟨rfl,rfl,rfl,rfl⟩:=h;exact⟨⟨hM.rt,hM.rt,Y⟩,Y,Y,Y⟩
theorem TA{o me ne:List Int}(ho:o=Ev S)(hN:(⟨p,S.length,S.length,ne⟩:FM).Rt)(e2:ne=BV S.length S.length g)(q4:BV S.length S.length (D4 p S.length (GP p S) g)=me):OB p S o ⟨p,S.length,S.length,me⟩ ⟨p,S.length,S.length,ne⟩<->(∀k,k<S.length->EX (Eu S.length ne) k k=1/\∀i,k<i->i<S.length->EX (Eu S.length ne) i k=0)/\∀a b,a<b->b<S.length->0<=AR (Eu S.length me b)->AR (Eu S.length me b)≠AR (Eu S.length me a):=by
 constructor
 ·intro Q;exact⟨λk hk=>⟨by rw[GQ hk];exact Q.one k hk,λi h1 h2=>by rw[GQ h2];exact Q.aft k i h1 h2⟩,λa b h1 h2 h3=>Q.un a b h1 h2 h3⟩
 ·rintro⟨h1,h2⟩;refine⟨ho,hN,Y,Y,Y,?_,λj hj=>by have:=(h1 j hj).1;rwa [GQ hj]at this,λj i hij hi=>by have:=(h1 j ω).2 i hij hi;rwa [GQ hi]at this,h2⟩;unfold FH;rw[<-q4,e2,AW (g:=D4 p S.length (GP p S) g) λi hi j hj=>Iq λt ht=>Oy ht hj]
theorem Ve(l S:List Ce)(F:List (Int×Int))(v vf vo er ev vb:Value)(p mp mr mc np nr nc:Int)(me ne o:List Int)(B:List Br)(hp:Hp)(hK:RgC l)(hR:RdC hp v l)(hF:RdL cV 2 hp [] vf F)(hV:Ir F)(h0:DN (cn l) F=(0,0))(hl:l.length<=400)(H:SrtH F l S)(hI:∀c,BS (CN (Bn F) c))(hpI:BS p)(hOM:(⟨mp,mr,mc,me⟩:FM).Ok)(hON:(⟨np,nr,nc,ne⟩:FM).Ok)(hRo:RdL cI 1 hp [] vo o)(hRr:RdL cI 1 hp [] er me)(hRv:RdL cI 1 hp [] ev ne)(hRb:RdL IJ 6 hp [] vb B):FnT Tryz.prog 36 #[.agg #[v],vf,.int .i64 p,vo,.agg #[.int .i64 mp,.int .i64 mr,.int .i64 mc,er],.agg #[.int .i64 np,.int .i64 nr,.int .i64 nc,ev],vb] hp [] (λr _ _=>∃b:Bool,r=.bool b/\(b=true<->Xw p F S o ⟨mp,mr,mc,me⟩ ⟨np,nr,nc,ne⟩ B)):=by
 have o1:=hR.q.rd.one;have o2:=hF.rd.one;have o3:=hRo.rd.one;have o4:=hRr.rd.one;have o5:=hRv.rd.one;have o6:=hRb.rd.one;have hSn:S.length<=400:=by have:=H.len;omega
 refine Au func36 ntmps36 Y Y (λw0 hw0=>?_);simp only[A6];refine Aq (AP [_] Y Y (by rfl) Y Y Y (λg7=>AP [_,_,_,_] Y Y (by rfl) Y Y Y (λg11=>AP [_,_,_,_] Y Y (by rfl) Y Y Y (λg12=>Qm Y (Am (Ax λh1 l1 hS12=>(Ax λh2 l2 hS11=>(Ax λh3 l3 hS7=>?_))))))));have l13:=AE l1 (AE l2 l3);have hR:=hR.up l13;have hF:=hF.up l13;by_cases hP:¬IsP p
 ·have hE:Hg (cn l) F p≠0:=by unfold Hg;rw[h0,aa (λh=>h rfl),aa hP];decide
  have hb:=λms=>DW (Ua l F v vf p h3 hK hR hF hV hpI hE) ms;generalize Hg (cn l) F p=ee at *;refine Aq (Qx (oG Y CS A8 (Seg.any hS7)) Y (Qm Y (Qm Y (Qx (AH Y call91 Y (hb _)) Y (Qm Y (Qm Y (Qm Y (Qm Y (Qm Y (Am (Ac (Aq (Qm Y (Qx (BW (B8 Y Y Y) (aw Value.bool (ai hE))) Y (Qm Y (Qk Y (Qk Y (Qk Y (Qk Y (Qk Y (Qm Y (Am (A5 Y (Aq (Qm Y (Am (An (Ae ?_))))))))))))))))))))))))))));exact Ap Y Y (⟨false,Y,nofun,λq=>jt q.1 hP⟩)
 ·have hP:=bk.1 hP;refine Aq (Qx (oG Y CS A8 (Seg.any hS7)) Y (Qm Y (Qm Y (Qc call91 Y (QV l F v vf p h3 hK hR hF hV h0 hP hl) (λrB h4 ms4 l4 hB=>?_)))));obtain⟨l4',gm,gA,mA,bs',S',vc,vr,vv,Rs,Vs,mR,mV,rfl,rfl,hOA,lA,hQ,hRs,hVs,CR,CV,hperm,hsrt,hsds⟩:=hB;have hSS:S'.map Ce.c=S.map Ce.c:=SrtH.uniq H ⟨hperm,hsrt,H.G,H.mon⟩;have hlS:S'.length=S.length:=by have:=aw List.length hSS;simpa using this
  have lR:Rs.length=S.length:=by have:=CR.len;rw[af,ip]at this;omega
  have hC:∀h',mR.le h'->∀k,k<S.length->RdL cI 1 h' [] (Rs.getD k undef) (C5 p S k):=λh' lm k hk=>by have:=CR.rdh lm (k:=k) ω (by simpa using by omega);rw[List.getElem_map,List.getElem_range,LH hSS]at this;exact this
  refine Qm Y (Qm Y (Qm Y (Qm Y (Qm Y (Am (Ax λh5 l5 hSg=>(Bx λh6 l6 lmR=>(Bx λh7 l7 lmV=>?_))))))));have l47:=AE l5 (AE l6 l7);have l37:=AE l4' l47;have l17:=AE l13 l37;have hSg:=hSg.le (AE l6 l7);have hC:=hC h7 (AE lmR l7);have hQ:=hQ.up l47;have hRs:=hRs.up l47;have hsds:=λa ha=>(hsds a ha).up l47;have lA:=AE lA l47;have hRo:=hRo.up l17;have hRr:=hRr.up l17;have hRv:=hRv.up l17;have hRb:=hRb.up l17;have ovr:=hRs.rd.one;have hids:Ev S'=Ev S:=Mr hSS;refine Ac (Aq (Qm Y (Qx (BW (B8 Y Y Y) (aw Value.bool (aj λe=>e Y))) Y (Qm Y (Qg (Ar Y Y) Y (Qg (Ar Y Y) Y (NL Y Y Y Y (Qc call72 Y (Zc S' p gm gA vc vr vv (replicate 400 0) h7 hSg hQ hsds ω) (λro h8 ms8 l8 hQ8=>?_)))))))));obtain⟨l8',mo,rfl,hOo⟩:=hQ8;refine Ba hOo λh9 l9 hOo=>?_;have l79:=AE l8' l9;rw[hids]at hOo;have hRo:=hRo.up l79;have ooo:=hOo.rd.one;have hEq:=Pd _ _ vo ro h9 hRo hOo;by_cases ho:o≠Ev S
  ·refine Qg (AH Y call92 Y ((by have:=hEq [];rwa [aj ho]at this))) rfl ?_;refine Qg (DB Y Y) Y (Qm Y (Am (A5 Y (Aq (Qm Y (Am (An (Ae ?_))))))));exact Ap Y Y (⟨false,Y,nofun,λq=>jt q.2.1.ord ho⟩)
  ·have ho:=bk.1 ho;have e3:∀h',h9.le h'->∀ms,Cell h' ms (⟨gm,3,none⟩:Addr) vr:=λh' l' ms=>(Seg.all hSg 3 _ Y ms).le (AE l79 l');have e0:∀ms,Cell h9 ms (⟨gm,0,none⟩:Addr) (.w p):=λms=>(Seg.all hSg 0 _ Y ms).le l79;have l39:=AE l37 l79;have s11:∀h',h9.le h'->∀ms,Seg h' ms (⟨g11,0,none⟩:Addr) [.w mp,.w mr,.w mc,er]:=λh' l' ms=>(hS11.le (AE l3 (AE l39 l'))).any;have s12:∀h',h9.le h'->∀ms,Seg h' ms (⟨g12,0,none⟩:Addr) [.w np,.w nr,.w nc,ev]:=λh' l' ms=>(hS12.le (AE l2 (AE l3 (AE l39 l')))).any;have hRr:=hRr.up l79;have hRv:=hRv.up l79;have hRb:=hRb.up l79;have hln:o.length=S.length:=by rw[ho];unfold Ev;simp
   refine Qg (AH Y call92 Y ((by have:=hEq [];rwa [ai ho]at this))) rfl ?_;refine Qg (DB Y Y) Y (Qm Y (Am (AQ Y (Ah (Ad (Aq (Qm Y (Qx (As hRo.rd.any Y AN Y) Y (Qm Y (Am ?_))))))))));rw[hln];by_cases hm:¬(((FH p S.length S.length (GP p S)).Rt/\(⟨np,nr,nc,ne⟩:FM).Rt/\p=np)/\(S.length:Int)=nr)
   ·refine Bg (λsl h' ms'=>∃(g18:Nat),sl=[(6,vb),(11,.pt g11),(12,.pt g12),(15,.pt gm),(17,.w S.length),(18,.pt g18),(19,.bool false)]/\h9.le h'/\ms'=[Bh g18 65 [.w 0,.w 0,.w 0,.nl]]) ?_ (λs h ms hI=>?_)
    ·refine BK (n:=14) (bs:=[true,true,true,true,true,false,true,false,false,false,false,false,false,false]) [true,true,true,true,true,false,true] CT κ κ Y Y (Qq Y (Qq Y (Qq Y (QF E9 Y (QL Y CA (e3 _ (Da) _) (Qp Y (oG Y Dr A4 (s12 _ (Da) _)) ?_))))));unfold Fm;simp only[bl,ay];refine Bf [5,11] κ Y ?_;refine AD Y ?_ ?_
     ·refine Qc call73 Y (GO S.length p gm vr Rs (C5 p S) h9 e0 (hRs.up l79) lR hSn (λk hk=>(hC k hk).up l79) (λk hk=>Dw _ _ _ _)) (λrm h10 ms10 l10 hQ=>?_);obtain⟨l10',em,mm,rfl,rfl,hOm⟩:=hQ;change OwnL cI 1 3 mm em (BV S.length S.length (GP p S)) at hOm;refine Ba hOm λh11 l11 hRm=>?_;have l911:=AE l10' l11;refine Qa (Bf [7,11] κ Y ?_);refine AD Y ?_ ?_
      ·refine Qc call93 Y ((NS (FH p S.length S.length (GP p S)) ⟨np,nr,nc,ne⟩ em ev h11 (FZ hP hSn).ok hON hRm (hRv.up l911) hm).drops.le) (λrd h12 ms12 l12 hQ=>?_);obtain⟨l12',rfl,_,rfl⟩:=hQ;have l912:=AE l911 l12';refine Qa (Bd 8 44 κ Y (by assumption) Y (Ar Y Y) (Bd 9 53 κ Y (by assumption) Y (BX Y Y Y) (Bd 10 54 κ Y (by assumption) Y (BX Y Y Y) (Qo 11 Y (Cx [.w 0,.w 0,.w 0,.nl] Y A4 Y Y (λg18=>Qa (Qo 12 Y ?_)))))));refine Sa 0 [_,_,_,_] A4 Y (by simp[Value.oneCell']) ?_;refine Qa (Qo 13 Y (Qm Y (Qa (Qe ?_))));exact Az _ ⟨_,Y,l912,Y⟩ Qs
      refine AD Y ?_ ?_
      ·refine Cx [.w 0,.w 0,.w 0,.nl] Y A4 Y Y (λg18=>Qa (Qo 7 Y (Qc call93 Y ((NS (FH p S.length S.length (GP p S)) ⟨np,nr,nc,ne⟩ em ev h11 (FZ hP hSn).ok hON hRm (hRv.up l911) hm).drops.le) (λrd h12 ms12 l12 hQ=>?_))));obtain⟨l12',rfl,_,rfl⟩:=hQ;have l912:=AE l911 l12';refine Qa (Bd 8 44 κ Y (by assumption) Y (Ar Y Y) (Bd 9 53 κ Y (by assumption) Y (BX Y Y Y) (Bd 10 54 κ Y (by assumption) Y (BX Y Y Y) (Qo 12 Y ?_))));refine Sa 0 [_,_,_,_] A4 Y (by simp[Value.oneCell']) ?_;refine Qa (Qo 13 Y (Qm Y (Qa (Qe ?_))));exact Az _ ⟨_,Y,l912,Y⟩ Qs
      exact Be
     refine AD Y ?_ ?_
     ·refine Cx [.w 0,.w 0,.w 0,.nl] Y A4 Y Y (λg18=>Qw (Qo 5 Y (Qc call73 Y (GO S.length p gm vr Rs (C5 p S) h9 e0 (hRs.up l79) lR hSn (λk hk=>(hC k hk).up l79) (λk hk=>Dw _ _ _ _)) (λrm h10 ms10 l10 hQ=>?_))));obtain⟨l10',em,mm,rfl,rfl,hOm⟩:=hQ;change OwnL cI 1 3 mm em (BV S.length S.length (GP p S)) at hOm;refine Ba hOm λh11 l11 hRm=>?_;have l911:=AE l10' l11;refine Qa (Qo 7 Y (Qc call93 Y ((NS (FH p S.length S.length (GP p S)) ⟨np,nr,nc,ne⟩ em ev h11 (FZ hP hSn).ok hON hRm (hRv.up l911) hm).drops.le) (λrd h12 ms12 l12 hQ=>?_)));obtain⟨l12',rfl,_,rfl⟩:=hQ;have l912:=AE l911 l12';refine Qa (Bd 8 44 κ Y (by assumption) Y (Ar Y Y) (Bd 9 53 κ Y (by assumption) Y (BX Y Y Y) (Bd 10 54 κ Y (by assumption) Y (BX Y Y Y) (Qo 12 Y ?_))));refine Sa 0 [_,_,_,_] A4 Y (by simp[Value.oneCell']) ?_;refine Qa (Qo 13 Y (Qm Y (Qa (Qe ?_))));exact Az _ ⟨_,Y,l912,Y⟩ Qs
     exact Be
    ·obtain⟨g18,rfl,lh,rfl⟩:=hI;refine Ac (Aq (Qm Y (Qm Y (Qm Y (Qk Y (Qk Y (Qk Y (Qk Y (Qm Y (Qm Y (Qk Y (Qk Y (Qk Y (Qk Y (Qm Y (Am (A5 Y (Aq (Qm Y (Am (An (Ae ?_))))))))))))))))))))));exact Ap Y Y (⟨false,Y,nofun,λq=>jt ⟨⟨(FZ hP hSn).rt,q.2.1.rt,q.2.1.np.symm⟩,q.2.1.nr.symm⟩ hm⟩)
   ·have hm:=bk.1 hm;obtain⟨⟨_,hNr,hpe⟩,hnr⟩:=hm;subst hpe;subst hnr;obtain⟨r,c,g,e,hg⟩:=AbJ hNr;simp only[FH,FM.mk.injEq]at e;obtain⟨_,e1,rfl,e2⟩:=e;obtain rfl:r=S.length:=ω
    have hg:RtM p S.length c g:=hg;have oev:ev.oneCell'=true:=o5;refine Bg (λsl h' ms'=>∃(g18:Nat) (ew:Value),sl=[(6,vb),(11,.pt g11),(12,.pt g12),(15,.pt gm),(17,.w S.length),(18,.pt g18),(19,.bool true)]/\h9.le h'/\ms'=[Bh g18 65 [.w p,.w S.length,.w c,ew]]/\RdL cI 1 h' [] ew (BV S.length c (D4 p S.length (GP p S) g))) ?_ (λs h ms hI=>?_)
    ·refine BK (n:=14) (bs:=[true,true,true,true,true,false,true,false,false,false,false,false,false,false]) [true,true,true,true,true,false,true] CT κ κ Y Y (Qq Y (Qq Y (Qq Y (QF E9 Y (QL Y CA (e3 _ (Da) _) (Qp Y (oG Y Dr A4 (s12 _ (Da) _)) ?_))))));unfold Fm;simp only[bl,ay];refine Bf [5,11] κ Y ?_;refine AD Y ?_ ?_
     ·refine Qc call73 Y (GO S.length p gm vr Rs (C5 p S) h9 e0 (hRs.up l79) lR hSn (λk hk=>(hC k hk).up l79) (λk hk=>Dw _ _ _ _)) (λrm h10 ms10 l10 hQ=>?_);obtain⟨l10',em,mm,rfl,rfl,hOm⟩:=hQ;change OwnL cI 1 3 mm em (BV S.length S.length (GP p S)) at hOm;refine Ba hOm λh11 l11 hRm=>?_;have l911:=AE l10' l11;refine Qa (Bf [7,11] κ Y ?_);refine AD Y ?_ ?_
      ·refine Qc call93 Y (Om p S.length S.length c (GP p S) g em ev h11 (FZ hP hSn) hg hRm (by rw[<-e2];exact hRv.up l911)) (λrd h12 ms12 l12 hQ=>?_);obtain⟨rfl,_,rfl,ew,mw,rfl,rfl,hOw⟩:=hQ;refine Ba hOw λh13 l13 hRw=>?_;have l913:=AE l911 l13;have oew:ew.oneCell'=true:=hRw.rd.one;change RdL cI 1 _ [] ew (BV S.length c (D4 p S.length (GP p S) g)) at hRw;refine Qa (Bd 8 44 κ Y (by assumption) Y (Ar Y Y) (Bd 9 53 κ Y (by assumption) Y (BX Y Y Y) (Bd 10 54 κ Y (by assumption) Y (BX Y Y Y) (Qo 11 Y (Cx [.w 0,.w 0,.w 0,.nl] Y A4 Y Y (λg18=>Qa (Qo 12 Y ?_)))))));refine Sa 0 [_,_,_,_] A4 Y (by simp[o1,o2,o3,o4,o5,o6,ovr,ooo,oew]) ?_;refine Qa (Qo 13 Y (Qm Y (Qa (Qe ?_))));exact Az _ ⟨_,ew,Y,l913,Y,hRw⟩ Qs
      refine AD Y ?_ ?_
      ·refine Cx [.w 0,.w 0,.w 0,.nl] Y A4 Y Y (λg18=>Qa (Qo 7 Y ?_));refine Qc call93 Y (Om p S.length S.length c (GP p S) g em ev h11 (FZ hP hSn) hg hRm (by rw[<-e2];exact hRv.up l911)) (λrd h12 ms12 l12 hQ=>?_);obtain⟨rfl,_,rfl,ew,mw,rfl,rfl,hOw⟩:=hQ;refine Ba hOw λh13 l13 hRw=>?_;have l913:=AE l911 l13;have oew:ew.oneCell'=true:=hRw.rd.one;change RdL cI 1 _ [] ew (BV S.length c (D4 p S.length (GP p S) g)) at hRw;refine Qa (Bd 8 44 κ Y (by assumption) Y (Ar Y Y) (Bd 9 53 κ Y (by assumption) Y (BX Y Y Y) (Bd 10 54 κ Y (by assumption) Y (BX Y Y Y) (Qo 12 Y ?_))));refine Sa 0 [_,_,_,_] A4 Y (by simp[o1,o2,o3,o4,o5,o6,ovr,ooo,oew]) ?_;refine Qa (Qo 13 Y (Qm Y (Qa (Qe ?_))));exact Az _ ⟨_,ew,Y,l913,Y,hRw⟩ Qs
      exact Be
     refine AD Y ?_ ?_
     ·refine Cx [.w 0,.w 0,.w 0,.nl] Y A4 Y Y (λg18=>Qw (Qo 5 Y (Qc call73 Y (GO S.length p gm vr Rs (C5 p S) h9 e0 (hRs.up l79) lR hSn (λk hk=>(hC k hk).up l79) (λk hk=>Dw _ _ _ _)) (λrm h10 ms10 l10 hQ=>?_))));obtain⟨l10',em,mm,rfl,rfl,hOm⟩:=hQ;change OwnL cI 1 3 mm em (BV S.length S.length (GP p S)) at hOm;refine Ba hOm λh11 l11 hRm=>?_;have l911:=AE l10' l11;refine Qa (Qo 7 Y ?_);refine Qc call93 Y (Om p S.length S.length c (GP p S) g em ev h11 (FZ hP hSn) hg hRm (by rw[<-e2];exact hRv.up l911)) (λrd h12 ms12 l12 hQ=>?_);obtain⟨rfl,_,rfl,ew,mw,rfl,rfl,hOw⟩:=hQ;refine Ba hOw λh13 l13 hRw=>?_;have l913:=AE l911 l13;have oew:ew.oneCell'=true:=hRw.rd.one;change RdL cI 1 _ [] ew (BV S.length c (D4 p S.length (GP p S) g)) at hRw;refine Qa (Bd 8 44 κ Y (by assumption) Y (Ar Y Y) (Bd 9 53 κ Y (by assumption) Y (BX Y Y Y) (Bd 10 54 κ Y (by assumption) Y (BX Y Y Y) (Qo 12 Y ?_))));refine Sa 0 [_,_,_,_] A4 Y (by simp[o1,o2,o3,o4,o5,o6,ovr,ooo,oew]) ?_;refine Qa (Qo 13 Y (Qm Y (Qa (Qe ?_))));exact Az _ ⟨_,ew,Y,l913,Y,hRw⟩ Qs
     exact Be
    ·obtain⟨g18,ew,rfl,lh,rfl,hRw⟩:=hI;have oew:=hRw.rd.one;have hRr:=hRr.up lh;have hRv:=hRv.up lh;have hRb:=hRb.up lh;have c12:∀h',h9.le h'->∀ms,Cell h' ms (⟨g12,2,none⟩:Addr) (.w c):=λh' l' ms=>(Seg.all hS12 2 _ Y ms).le (AE l2 (AE l3 (AE l39 l')));by_cases hc:c≠S.length
     ·refine Ac (Aq (Qm Y (Qm Y (Qm Y (Qg (oF BU Y) Y (Qg (oL Y U3 (c12 _ (by assumption) _)) Y (Qg (Ar Y Y) Y (Qg (BW (B8 Y Y Y) (aw Value.bool (ai (λe=>hc (Int.ofNat_inj.1 e))))) Y (Qm Y (Qm Y (Qk Y (Qk Y (Qk Y (Qk Y (Qm Y (Am (A5 Y (Aq (Qm Y (Am (An (Ae ?_))))))))))))))))))))));exact Ap Y Y (⟨false,Y,nofun,λq=>jt q.2.1.nc (λe=>hc (Int.ofNat_inj.1 e))⟩)
     ·have hc:=bk.1 hc;subst hc;have hMl:=N3 (FZ hP hSn) hg;have hEq:=Wu (FH p S.length S.length (D4 p S.length (GP p S) g)) ⟨mp,mr,mc,me⟩ ew er _ hMl.ok hOM hRw hRr;by_cases hq:¬(((FH p S.length S.length (D4 p S.length (GP p S) g)).Rt/\(⟨mp,mr,mc,me⟩:FM).Rt/\p=mp)/\(S.length:Int)=mr/\(S.length:Int)=mc/\BV S.length S.length (D4 p S.length (GP p S) g)=me)
      ·refine Ac (Aq (Qm Y (Qm Y (Qm Y (Qg (oF BU Y) Y (Qg (oL Y U3 (c12 _ (by assumption) _)) Y (Qg (Ar Y Y) Y (Qg (BW (B8 Y Y Y) (aw Value.bool (aj λe=>e Y))) Y (Qm Y (Qm Y (Qg (oG Y Dr A4 (Seg.blk 0 Y)) Y (Qg (oG Y Dr A4 (s11 _ (by assumption) _)) Y (Qg (AH Y call94 Y (FnV.to (hEq _) (aw Value.bool (aj hq)))) Y (Qg (DB Y Y) Y (Qm Y (Am (A5 Y (Aq (Qm Y (Am (An (Ae ?_))))))))))))))))))))));exact Ap Y Y (⟨false,Y,nofun,λq=>jt (show _ from Abp q.2.1 e2 hMl) hq⟩)
      ·have hq:=bk.1 hq;obtain⟨⟨_,hMr,q1⟩,q2,q3,q4⟩:=hq;subst q1;subst q2;subst q3;refine Ac (Aq (Qm Y (Qm Y (Qm Y (Qg (oF BU Y) Y (Qg (oL Y U3 (c12 _ (by assumption) _)) Y (Qg (Ar Y Y) Y (Qg (BW (B8 Y Y Y) (aw Value.bool (aj λe=>e Y))) Y (Qm Y (Qm Y (Qg (oG Y Dr A4 (Seg.blk 0 Y)) Y (Qg (oG Y Dr A4 (s11 _ (by assumption) _)) Y (Qg (AH Y call94 Y (FnV.to (hEq _) (aw Value.bool (ai ⟨⟨hMl.rt,hMr,Y⟩,Y,Y,q4⟩)))) Y (Qg (DB Y Y) Y (Qm Y (Am (AQ Y (Ah (Ad (Aq (Qm Y (BM ?_))))))))))))))))))))));obtain⟨hVt,hVe,_⟩:=L4 hNr;obtain⟨hRt,hRe,_⟩:=L4 hMr;have hQ0:OB p S o ⟨p,S.length,S.length,me⟩ ⟨p,S.length,S.length,ne⟩<->(∀k,k<S.length->EX (Eu S.length ne) k k=1/\∀i,k<i->i<S.length->EX (Eu S.length ne) i k=0)/\∀a b,a<b->b<S.length->0<=AR (Eu S.length me b)->AR (Eu S.length me b)≠AR (Eu S.length me a):=TA ho hNr e2 q4;generalize hRR:Eu S.length me=R at *;generalize hVV:Eu S.length ne=V at *;rw[<-hRe]at hRr;rw[<-hVe]at hRv;have lenR:∀j,(R j).length=S.length:=λj=>by rw[<-hRR];exact Pg _ _ _
       refine Dh (K:=kN) (V:=vB) (Ok:=BS) Y Y Y Y (λgS mS hS0=>Qm Y (Am (Bj 1 Y λh14 l14 hS18=>(BT ?_))));have l914:=AE lh l14;have hRr:=hRr.up l14;have hRv:=hRv.up l14;have hRb:=hRb.up l14;refine Ac (Aq (Qm Y (Qm Y (Am (Ag ?_)))))
       refine Ay (λq sl h' ms'=>∃(j:Nat) (vl:Value) (ml mS:Hp) (T:List (Int×Bool)) (bs:List Nat),q=S.length-j/\sl=[(6,vb),(11,.pt g11),(12,.pt g12),(15,.pt gm),(17,.w S.length),(20,vl),(21,.map (some gS)),(70,.w S.length),(71,.w j)]/\h14.le h'/\ms'=[ml,mS]/\j<=S.length/\OwnL cI 1 3 ml vl ((List.range j).map λk=>AR (R k))/\C4 kN vB gS BS mS T bs/\NB T/\(∀x,x∈GH T<->∃k,k<j/\AR (R k)=x)/\(∀k,k<j->EX V k k=1/\∀i,k<i->i<S.length->EX V i k=0)/\∀a b,a<b->b<j->0<=AR (R b)->AR (R b)≠AR (R a))
        (S.length-0) _ ⟨0,_,Hp.emp,mS,[],[],rfl,rfl,Da,rfl,ω,OwnL.nil Bi,hS0,λp hp=>(nomatch hp),λx=>by simp,λk hk=>ω,λa b h1 h2=>ω⟩ Qs ?_
       rintro q sl h' ms' ⟨j,vl,ml,mS,T,bs,rfl,rfl,lh2,rfl,hj,hOl,hOS,hAT,hkT,hgd,hds⟩;refine Aq (Qm Y (Am (Ac ?_)));refine Ao Y (λhjl=>?_) (λhjl=>?_)
       ·have hjn:j<S.length:=ω
        have ovl:=hOl.o1;refine Ah (Ad (Ac (Ag (Aq (Qm Y (Qm Y (BM (Qm Y (CL (n:=S.length) Y AN A0 Y Y Y (by rfl) (by rfl) ω ω Y Y Y (λg75=>Qm Y (Am (Ac (Aq (Qm Y (Qm Y (Am (Ag ?_)))))))))))))))));have hOc:OwnL cI 1 3 (Bh g75 3 (replicate S.length (.w 0))) (.slice (some ⟨g75,0,none⟩) S.length S.length) (replicate S.length 0):=OwnL.rep S.length 0 ω;rw[<-UT R j S.length]at hOc;generalize hev:Value.slice (some ⟨g75,0,none⟩) S.length S.length=ec at *;generalize Bh g75 3 (replicate S.length (.w 0))=mc at *;have oec:=hOc.o1;have hRr':=hRr.up lh2;have hRv':=hRv.up lh2;have hnn:S.length*S.length<=160000:=by have:=dh hSn hSn;omega
        have e11:∀ms,Cell h' ms (⟨g11,3,none⟩:Addr) er:=λms=>(Seg.all hS11 3 _ Y ms).le (AE l3 (AE l39 (AE l914 lh2)));have e12:∀ms,Cell h' ms (⟨g12,3,none⟩:Addr) ev:=λms=>(Seg.all hS12 3 _ Y ms).le (AE l2 (AE l3 (AE l39 (AE l914 lh2))))
        refine Ay (λq sl h2 ms'=>∃(i:Nat) (mc:Hp),q=S.length-i/\sl=[(6,vb),(11,.pt g11),(12,.pt g12),(15,.pt gm),(17,.w S.length),(20,vl),(21,.map (some gS)),(22,.w j),(23,ec),(70,.w S.length),(71,.w j),(76,.w S.length),(77,.w i)]/\h'=h2/\ms'=[mc,ml,mS]/\i<=S.length/\OwnL cI 1 3 mc ec (Mx R j S.length i)/\∀a,a<i->(a=j->EX V a j=1)/\(j<a->EX V a j=0))
         (S.length-0) _ ⟨0,mc,rfl,rfl,rfl,rfl,ω,hOc,λa ha=>ω⟩ Qs ?_
        rintro q sl h2 ms' ⟨i,mc,rfl,rfl,rfl,rfl,hi,hOc,hgi⟩;have hOc':=hOc;refine Aq (Qm Y (Am (Ac ?_)));refine Ao Y (λhil=>?_) (λhil=>?_)
        ·have hin:i<S.length:=ω
         have hix:=Ds hin hjn;have hm1:(BV S.length S.length (EX R)).length=S.length*S.length:=BO _ _ _;have hm2:(BV S.length S.length (EX V)).length=S.length*S.length:=BO _ _ _;have hcl:=HG R j S.length i;have hc1:(((i*S.length+j:Nat)):Int)=(i:Int)*(S.length:Int)+j:=by rw[gj,da]
         have hk0:0<=(i:Int)*(S.length:Int):=dt ω ω;have cr:∀ms,Cell h' ms ((AG er).add ((i*S.length+j)*1)) (.w (EX R i j)):=λms=>(hRr'.any (ms:=ms)).ent hin hjn;have cv:∀ms,Cell h' ms ((AG ev).add ((i*S.length+j)*1)) (.w (EX V i j)):=λms=>(hRv'.any (ms:=ms)).ent hin hjn;refine Ah (Ad (Ac (Ag (Aq (Qm Y (Qm Y (BM (Qm Y (Qm Y (Qf Bl Y (Ql Y AN (e11 _) (Qm Y (Qm Y (Qx (oM Y) Y (Qm Y (Qx (oA Y) Y (Qx (AA ((i*S.length+j)) hRr'.rd.any Y AN A0 Y Y ω ω) Y (Ql Y U3 (cr _) (Qx (AA (i) (hOc'.rd (h:=h') (ms:=[mc,ml,mS]) Mh).rd Y AN A0 Y Y ω ω) Y (Ca (F:=cI) (f:=λx=>.w x) (a:=EX R i j) 0 i (λ_=>rfl) hOc Y A0 Y Y Y Y ω Y Y (λm2 hO2=>?_)))))))))))))))))))));rw[T8]at hO2;refine BM (Qm Y (Qm Y (Qm Y (Qm Y ?_))));refine AL (t:=95) Y (λhe=>?_) (λhe=>?_)
         ·have hij:i=j:=ω
          by_cases hv1:EX V i j≠1
          ·refine Qg (oF Bl Y) Y (Qg (oL Y AN (e12 _)) Y (Qg (Ar Y Y) Y (Qg (Ar Y Y) Y (Qg (oM Y) Y (Qg (Ar Y Y) Y (Qg (oA Y) Y (Qg (AA ((i*S.length+j)) hRv'.rd.any Y AN A0 Y Y ω ω) Y (Qg (oL Y U3 (cv _)) Y (Qg (BW (B8 Y Y Y) (aw Value.bool (ai hv1))) Y (Qm Y (Qm Y (Qk Y (Qk Y (Qk Y (Qk Y (A3 Y Y Y Y Y Y (A3 Y Y Y Y Y Y (A3 Y Y Y Y Y Y (A3 Y Y Y Y Y Y (A3 Y Y Y Y Y Y (A3 Y Y Y Y Y Y (A3 Y Y Y Y Y Y (A3 Y Y Y Y Y Y (A3 Y Y Y Y Y Y (A3 Y Y Y Y Y Y (Qk Y (Qm Y (Am (A5 Y (Aq (Qm Y (Am (An (Aj (Ae (Ae (Aj (Ae (Aj ?_)))))))))))))))))))))))))))))))))))))));refine Ae (Ae (Aj (Ae ?_)));exact Ap Y Y (⟨false,Y,nofun,λq=>jt ((hQ0.1 q.2.1).1 j hjn).1 (by rw[<-hij];rw[hij]at hv1 ⊢;exact hv1)⟩)
          ·have hv1:=bk.1 hv1;refine Qg (oF Bl Y) Y (Qg (oL Y AN (e12 _)) Y (Qg (Ar Y Y) Y (Qg (Ar Y Y) Y (Qg (oM Y) Y (Qg (Ar Y Y) Y (Qg (oA Y) Y (Qg (AA ((i*S.length+j)) hRv'.rd.any Y AN A0 Y Y ω ω) Y (Qg (oL Y U3 (cv _)) Y (Qg (BW (B8 Y Y Y) (aw Value.bool (aj λe=>e hv1))) Y (Qm Y (Qm Y (Qg (Ar Y Y) Y (Qg (Ar Y Y) Y (Qg (BW (Ct Y Y Y) (aw Value.bool (aj ω))) Y (Qg (Ar Y Y) Y (Qk Y (Qk Y (Qk Y (Qk Y (Qk Y (Qk Y (Qk Y (Qk Y (Qk Y (Qk Y (Qg (Ch Y Y Y) Y (Qm Y (Am (AQ Y (Ah (Ai (Ad (Ab (Qx (oA Y) Y (Qm Y (Ak ?_))))))))))))))))))))))))))))))))))));refine Al (S.length-(i+1)) _ ω ⟨i+1,m2,Y,Y,Y,Y,ω,hO2,λa ha=>?_⟩ Qs;rcases (ω:a<i\/a=i) with h|rfl
           ·exact hgi a h
           ·exact⟨λ_=>hv1,λh=>ω⟩
         ·refine Qk Y (Qk Y (Qk Y (Qk Y (Qk Y (Qk Y (Qk Y (Qk Y (Qk Y (Qk Y (Qm Y (Qm Y (Qg (Ar Y Y) Y (Qg (Ar Y Y) Y (Qg (Ct Y Y Y) Y (Qg (Ar Y Y) Y ?_)))))))))))))));refine AL (t:=111) Y (λhgt=>?_) (λhgt=>?_)
          ·by_cases hv0:EX V i j≠0
           ·refine Qg (oF Bl Y) Y (Qg (oL Y AN (e12 _)) Y (Qg (Ar Y Y) Y (Qg (Ar Y Y) Y (Qg (oM Y) Y (Qg (Ar Y Y) Y (Qg (oA Y) Y (Qg (AA ((i*S.length+j)) hRv'.rd.any Y AN A0 Y Y ω ω) Y (Qg (oL Y U3 (cv _)) Y (Qg (BW (B8 Y Y Y) (aw Value.bool (ai hv0))) Y (Qg (Cp Y Y Y) Y (Qm Y (Am (A5 Y (Aq (Qm Y (Am (An (Aj (Ae (Ae (Aj (Ae (Aj (Ae (Ae (Aj (Ae ?_)))))))))))))))))))))))))));exact Ap Y Y (⟨false,Y,nofun,λq=>jt (((hQ0.1 q.2.1).1 j hjn).2 i ω hin) hv0⟩)
           ·have hv0:=bk.1 hv0;refine Qg (oF Bl Y) Y (Qg (oL Y AN (e12 _)) Y (Qg (Ar Y Y) Y (Qg (Ar Y Y) Y (Qg (oM Y) Y (Qg (Ar Y Y) Y (Qg (oA Y) Y (Qg (AA ((i*S.length+j)) hRv'.rd.any Y AN A0 Y Y ω ω) Y (Qg (oL Y U3 (cv _)) Y (Qg (BW (B8 Y Y Y) (aw Value.bool (aj λe=>e hv0))) Y (Qg (Cp Y Y Y) Y (Qm Y (Am (AQ Y (Ah (Ai (Ad (Ab (Qx (oA Y) Y (Qm Y (Ak ?_))))))))))))))))))));refine Al (S.length-(i+1)) _ ω ⟨i+1,m2,Y,Y,Y,Y,ω,hO2,λa ha=>?_⟩ Qs;rcases (ω:a<i\/a=i) with h|rfl
            ·exact hgi a h
            ·exact⟨λh=>ω,λ_=>hv0⟩
          ·refine Qk Y (Qk Y (Qk Y (Qk Y (Qk Y (Qk Y (Qk Y (Qk Y (Qk Y (Qk Y (Qg (Ch Y Y Y) Y (Qm Y (Am (AQ Y (Ah (Ai (Ad (Ab (Qx (oA Y) Y (Qm Y (Ak ?_))))))))))))))))))));refine Al (S.length-(i+1)) _ ω ⟨i+1,m2,Y,Y,Y,Y,ω,hO2,λa ha=>?_⟩ Qs;rcases (ω:a<i\/a=i) with h|rfl
           ·exact hgi a h
           ·exact⟨λh=>ω,λh=>ω⟩
        ·obtain rfl:i=S.length:=ω
         rw[Ye R j (lenR j)]at hOc;refine A9 hOc λh16 l16 hRc=>?_;have hbd:=Dv (R j);have hlR:=lenR j;have hlI:BS (AR (R j)):=by unfold BS;omega
         refine Av (Aa (Aa (Af (Ad (Aq (Qm Y (Qx (AH Y call95 Y (RR ec (R j) h16 hRc ω _)) Y (Qm Y (Am ?_)))))))));by_cases hbad:0<=AR (R j)/\AR (R j)∈GH T
         ·obtain⟨hk0,hin⟩:=hbad;refine Ac (Aq (Qm Y (Qm Y (Qm Y ?_))));refine AL (t:=129) Y (λhk1=>?_) (λhk1=>?_)
          ·refine Qg (Ar Y Y) Y (Qg (Ar Y Y) Y ?_);refine Qg (BW (FJ (V:=vB) (z:=false) (AR (R j)) BA hOS σ rfl Vl Qz rfl rfl hlI) (by rw[Hs hAT,ai hin])) rfl ?_;refine Qm Y (Am (A5 Y (Aq (Qm Y (Am (An (Ae (Aj (Ae (Ae (Aj (Ae ?_))))))))))));obtain⟨k,hk,e⟩:=(hkT _).1 hin;exact Ap Y Y (⟨false,Y,nofun,λq=>jt e.symm ((hQ0.1 q.2.1).2 k j hk hjn hk0)⟩)
          ·exact jt hk0 hk1
         ·have hfr:0<=AR (R j)->AR (R j) ∉ GH T:=λh0 q=>hbad ⟨h0,q⟩;refine Bg (λsl h2 ms'=>sl=[(6,vb),(11,.pt g11),(12,.pt g12),(15,.pt gm),(17,.w S.length),(20,vl),(21,.map (some gS)),(25,.w (AR (R j))),(70,.w S.length),(71,.w j)]/\h16=h2/\ms'=[ml,mS]) ?_ (λs h ms hI=>?_)
          ·refine Ac (Ab (Qm Y (Qm Y (Qm Y ?_))));refine AL (t:=129) Y (λhk0=>?_) (λhk0=>?_)
           ·refine Qg (Ar Y Y) Y (Qg (Ar Y Y) Y ?_);refine Qg (BW (FJ (V:=vB) (z:=false) (AR (R j)) BA hOS σ rfl Vl Qz rfl rfl hlI) (by rw[Hs hAT,aj (hfr hk0)])) rfl ?_;refine Qm Y (Am (AQ Y (Ah ?_)));exact Az _ ⟨Y,Y,Y⟩ Qs
           ·refine Qk Y (Qk Y (Qk Y (Qm Y (Am (AQ Y (Ah ?_))))));exact Az _ ⟨Y,Y,Y⟩ Qs
          ·obtain⟨rfl,rfl,rfl⟩:=hI;refine Aq (Qm Y (Qm Y (B4 (V:=vB) (z:=undef) 1 (AR (R j)) true BA hOS Y Y Vl Y Y Y hlI Y Y (λmS' bs2 hOS'=>?_))));have hAT':=L5 hAT (AR (R j));refine Gl (Qm Y (Qm Y (Aw [_] Y AN A0 Y (by rfl) Y Y ω Y Y Y (λg138=>?_))));refine AU 1 hOl (RdL.one Bi (x:=AR (R j)) Mh Y) Y AN A0 Y ω Y Y Y B5 (by simp;omega) (by simp;omega) rfl rfl rfl (λvl2 ml2 hO2=>?_);refine Qm Y (Ak (Ai (Ad (Ab (Qx (oA Y) Y (Qm Y (Ak (AX ?_))))))));refine Al (S.length-(j+1)) _ ω ⟨j+1,vl2,ml2,mS',_,bs2,Y,Y,AE lh2 l16,Y,ω,by rw[Fs];exact hO2,hOS',hAT',λx=>?_,λk hk=>?_,λa b hab hb h0=>?_⟩ Qs
           ·rw[show(x∈GH (Dq T (AR (R j)) true))<->(x=AR (R j)\/x∈GH T) from Fj _ _ _ _,hkT x];constructor
            ·rintro(rfl|⟨k,hk,e⟩)
             ·exact⟨j,ω,Y⟩
             ·exact⟨k,ω,e⟩
            ·rintro⟨k,hk,e⟩;by_cases h:k=j
             ·exact .inl (by rw[<-e,h])
             ·exact .inr ⟨k,ω,e⟩
           ·rcases (ω:k<j\/k=j) with h|rfl
            ·exact hgd k h
            ·exact⟨(hgi k hjn).1 Y,λi h1 h2=>(hgi i h2).2 h1⟩
           ·rcases (ω:b<j\/b=j) with h|rfl
            ·exact hds a b hab h h0
            ·exact λe=>hfr h0 ((hkT _).2 ⟨a,hab,e.symm⟩)
       ·obtain rfl:j=S.length:=ω
        refine A9 hOl λh15 l15 hL=>?_;change RdL cI 1 h15 [] vl (DD S R) at hL;have l715:=AE l79 (AE l914 (AE lh2 l15))
        have hSi:∀a∈S',BS a.c.id:=λa ha=>by have hm:a.c∈cn l:=hperm.mem_iff.1 (ad.2 ⟨a,ha,Y⟩);have h2:=H.G.pos _ hm;have h3:=hK.ci hm;unfold BS;omega
        have hlt:∀x∈DD S R,x<(S.length:Int):=λx hx=>by
         obtain⟨k,_,rfl⟩:=ad.1 hx;have:=(Dv (R k)).2
         rwa [lenR k]at this
        have hRb:=hRb.up (AE lh2 l15);have ovl:vl.oneCell'=true:=hL.rd.one;refine Av (Aa (Aa (Af (Ad (Aq (Qm Y (Qm Y (Qm Y ?_))))))));refine Qc call52 Y (SA S' F (DD S R) p gm vl h15 ⟨gA,mA,bs',vc,vr,vv,_,hSg.le l715,hOA,AE lA l715,hQ.up l715⟩ (λa ha=>(hsds a ha).up l715) hL ω (by rw[Ji,hlS]) (λx hx=>by rw[hlS];exact hlt x hx) hSi hI) (λrb h16 ms16 l16 hQ=>?_);obtain⟨l16',mb,rfl,hOb⟩:=hQ;rw[hlS,Se hSS]at hOb;refine Ba hOb λh17 l17 hRb2=>?_;have hRb:=hRb.up (AE l16' l17);have orb:=hRb2.rd.one;refine Qx (AH Y call96 Y (VD _ _ _ _ _ hRb hRb2 _)) Y (Qm Y (Am (An ?_)));have hla:Re S.length me=DD S R:=by unfold Re DD;rw[hRR]
        have hfin:decide (B=Do (CN (Bn F)) S (DD S R) S.length)=true<->Xw p F S o ⟨p,S.length,S.length,me⟩ ⟨p,S.length,S.length,ne⟩ B:=by
         rw[decide_eq_true_iff];constructor
         ·intro e;refine⟨hP,hQ0.2 ⟨hgd,hds⟩,?_⟩;rw[hla];exact e
         ·intro q;have:=q.2.2
          rwa [hla]at this
        exact Ap Y Y (⟨_,Y,hfin⟩)
end
section
open Go.Lin Go.Sort Go.Srt
theorem AaN{p np nr nc:Int}{S:List Ce}{o ne:List Int}{M:FM}(Q:OB p S o M ⟨np,nr,nc,ne⟩):RtM p S.length S.length (JK S.length ne):=by obtain⟨_,h,e1,e2,e3,_,_,_,_⟩:=Q;simp only at e1 e2 e3;subst e1 e2 e3;obtain⟨R,_,_⟩:=L4 h;exact⟨R.pr,R.rl,R.cl,λi hi j hj=>by rw[<-GQ hi];exact R.en i hi j hj⟩
theorem Xj(l S:List Ce)(F:List (Int×Int))(v vf vo er ev:Value)(p mp mr mc np nr nc:Int)(me ne o:List Int)(hp:Hp)(hK:RgC l)(hR:RdC hp v l)(hF:RdL cV 2 hp [] vf F)(hn:(F.map Prod.fst).Nodup)(hl:l.length<=400)(H:SrtH F l S)(hP:IsP p)(hOM:(⟨mp,mr,mc,me⟩:FM).Ok)(hON:(⟨np,nr,nc,ne⟩:FM).Ok)(hRo:RdL cI 1 hp [] vo o)(hRr:RdL cI 1 hp [] er me)(hRv:RdL cI 1 hp [] ev ne):FnT Tryz.prog 38 #[.agg #[v],vf,.int .i64 p,vo,.agg #[.int .i64 mp,.int .i64 mr,.int .i64 mc,er],.agg #[.int .i64 np,.int .i64 nr,.int .i64 nc,ev]] hp [] (λr _ _=>∃b:Bool,r=.bool b/\(b=true<->OB p S o ⟨mp,mr,mc,me⟩ ⟨np,nr,nc,ne⟩)):=by
 have o1:=hR.q.rd.one;have o2:=hF.rd.one;have o3:=hRo.rd.one;have o4:=hRr.rd.one;have o5:=hRv.rd.one;have hSn:S.length<=400:=by have:=H.len;omega
 refine Au func38 ntmps38 Y Y (λw0 hw0=>?_);simp only[A6];refine Aq (AP [_] Y Y (by rfl) Y Y Y (λg6=>AP [_,_,_,_] Y Y (by rfl) Y Y Y (λg10=>AP [_,_,_,_] Y Y (by rfl) Y Y Y (λg11=>Qm Y (Am (Ax λh1 l1 hS11=>(Ax λh2 l2 hS10=>(Ax λh3 l3 hS6=>?_))))))));have l13:=AE l1 (AE l2 l3);have hR:=hR.up l13;have hF:=hF.up l13;refine Aq (Qx (oG Y CS A8 (Seg.any hS6)) Y (Qm Y (Qm Y (Qc call86 Y (Kc l F v vf p h3 hK hR hF hn H.mon hP hl) (λrm h4 ms4 l4 hQ=>?_)))));obtain⟨l4',S',H',em,mm,rfl,rfl,hOm⟩:=hQ;have hSS:S'.map Ce.c=S.map Ce.c:=SrtH.uniq H H';have hlS:S'.length=S.length:=by have:=aw List.length hSS;simpa using this
 change OwnL cI 1 3 mm em (BV S'.length S'.length λi j=>(C5 p S' j).getD i 0) at hOm;rw[hlS,AW (g:=GP p S) λa _ b _=>by rw[LH hSS];rfl]at hOm;rw[hlS];refine Ba hOm λh5 l5 hRm=>?_;have oem:=hRm.rd.one;refine Cx [.w 0,.w 0,.w 0,.nl] Y A4 Y Y (λg13=>?_);refine Sa 0 [_,_,_,_] A4 Y (by simp[o1,o2,o3,o4,o5,oem]) ?_;refine Am (Ax λh6 l6 hS13=>?_);have l36:=AE l4' (AE l5 l6);have l16:=AE l13 l36;have hR:=hR.up l36;have hF:=hF.up l36;have hRo:=hRo.up l16;have hRr:=hRr.up l16;have hRv:=hRv.up l16;have hRm:=hRm.up l6;have s6:∀h',h6.le h'->∀ms,Seg h' ms (⟨g6,0,none⟩:Addr) [v]:=λh' l' ms=>(hS6.le (AE l36 l')).any;have s10:∀h',h6.le h'->∀ms,Seg h' ms (⟨g10,0,none⟩:Addr) [.w mp,.w mr,.w mc,er]:=λh' l' ms=>(hS10.le (AE l3 (AE l36 l'))).any;have s11:∀h',h6.le h'->∀ms,Seg h' ms (⟨g11,0,none⟩:Addr) [.w np,.w nr,.w nc,ev]:=λh' l' ms=>(hS11.le (AE l2 (AE l3 (AE l36 l')))).any;have c132:∀ms,Cell h6 ms (⟨g13,2,none⟩:Addr) (.w S.length):=λms=>Seg.all hS13 2 _ Y ms;refine Aq (Qf BU Y (Ql Y U3 (c132 _) (Qm Y (BM (Qx (oG Y Dr A4 (s10 _ (Da) _)) Y (Qx (AH Y call97 Y (QO ⟨mp,mr,mc,me⟩ er _ hOM hRr _)) Y (Qm Y (BM (Qx (oG Y Dr A4 (s11 _ (Da) _)) Y (Qx (AH Y call97 Y (QO ⟨np,nr,nc,ne⟩ ev _ hON hRv _)) Y (Qm Y (Am (Ac (Aq (Qm Y (Qx (oG Y CS A8 (s6 _ (Da) _)) Y (Qm Y (Qc call90 Y (LW l F v vf h6 hK hR hF hn H.mon hl) (λro h7 ms7 l7 hQ=>?_)))))))))))))))))));obtain⟨l7',S2,mo,H2,rfl,hOo⟩:=hQ;have hS2:Ev S2=Ev S:=SrtH.ids H H2;rw[hS2]at hOo;refine Ba hOo λh8 l8 hRo2=>?_;have l68:=AE l7' l8;have oro:=hRo2.rd.one;have hRo:=hRo.up l68;have hRr:=hRr.up l68;have hRv:=hRv.up l68;have hRm:=hRm.up l68;have c110:∀ms,Cell h8 ms (⟨g11,0,none⟩:Addr) (.w np):=λms=>(Seg.all hS11 0 _ Y ms).le (AE l2 (AE l3 (AE l36 l68)));have c111:∀ms,Cell h8 ms (⟨g11,1,none⟩:Addr) (.w nr):=λms=>(Seg.all hS11 1 _ Y ms).le (AE l2 (AE l3 (AE l36 l68)));have c112:∀ms,Cell h8 ms (⟨g11,2,none⟩:Addr) (.w nc):=λms=>(Seg.all hS11 2 _ Y ms).le (AE l2 (AE l3 (AE l36 l68)));have s13:∀ms,Seg h8 ms (⟨g13,0,none⟩:Addr) [.w p,.w S.length,.w S.length,em]:=λms=>(hS13.le l68).any;refine Qx (AH Y call44 Y (KL _ _ _ _ _ hRo hRo2 _)) Y (Qx (BW (DB Y Y) (aw Value.bool decide_not.symm)) Y (Qm Y ?_));refine AL (t:=37) Y (λa1=>?_) (λa1=>?_)
 ·refine Qk Y (Qk Y (Qm Y (Qm Y (Qk Y (Qk Y (Qm Y (Qm Y (Qk Y (Qk Y (Qk Y (Qk Y (Qm Y (Qm Y (Qk Y (Qk Y (Qk Y (Qk Y (Qm Y (Qm Y (Qk Y (Qk Y (Qk Y (Qk Y (Qm Y (Am (A5 Y (Aq (Qm Y (Am (An (Ae ?_)))))))))))))))))))))))))))))));exact Ap Y Y (⟨false,Y,nofun,λq=>jt q.ord a1⟩)
 ·refine Qg (Ar Y Y) Y (Qg (BW (DB Y Y) (aw Value.bool decide_not.symm)) Y (Qm Y (Qm Y ?_)));refine AL (t:=41) Y (λa2=>?_) (λa2=>?_)
  ·refine Qk Y (Qk Y (Qm Y (Qm Y (Qk Y (Qk Y (Qk Y (Qk Y (Qm Y (Qm Y (Qk Y (Qk Y (Qk Y (Qk Y (Qm Y (Qm Y (Qk Y (Qk Y (Qk Y (Qk Y (Qm Y (Am (A5 Y (Aq (Qm Y (Am (An (Ae ?_)))))))))))))))))))))))))));exact Ap Y Y (⟨false,Y,nofun,λq=>jt (by rw[q.pr];exact(N3 (FZ hP hSn) (AaN q)).rt) a2⟩)
  ·refine Qg (Ar Y Y) Y (Qg (BW (DB Y Y) (aw Value.bool decide_not.symm)) Y (Qm Y (Qm Y ?_)));refine AL (t:=45) Y (λa3=>?_) (λa3=>?_)
   ·refine Qk Y (Qk Y (Qk Y (Qk Y (Qm Y (Qm Y (Qk Y (Qk Y (Qk Y (Qk Y (Qm Y (Qm Y (Qk Y (Qk Y (Qk Y (Qk Y (Qm Y (Am (A5 Y (Aq (Qm Y (Am (An (Ae ?_)))))))))))))))))))))));exact Ap Y Y (⟨false,Y,nofun,λq=>jt q.rt a3⟩)
   ·refine Qg (oF Cz Y) Y (Qg (oL Y U3 (c110 _)) Y (Qg (Ar Y Y) Y (Qg (B8 Y Y Y) Y (Qm Y (Qm Y ?_)))));refine AL (t:=51) Y (λa4=>?_) (λa4=>?_)
    ·refine Qk Y (Qk Y (Qk Y (Qk Y (Qm Y (Qm Y (Qk Y (Qk Y (Qk Y (Qk Y (Qm Y (Am (A5 Y (Aq (Qm Y (Am (An (Ae ?_)))))))))))))))));exact Ap Y Y (⟨false,Y,nofun,λq=>jt q.np a4⟩)
    ·refine Qg (oF CQ Y) Y (Qg (oL Y U3 (c111 _)) Y (Qg (Ar Y Y) Y (Qg (B8 Y Y Y) Y (Qm Y (Qm Y ?_)))));refine AL (t:=57) Y (λa5=>?_) (λa5=>?_)
     ·refine Qk Y (Qk Y (Qk Y (Qk Y (Qm Y (Am (A5 Y (Aq (Qm Y (Am (An (Ae ?_)))))))))));exact Ap Y Y (⟨false,Y,nofun,λq=>jt q.nr a5⟩)
     ·refine Qg (oF BU Y) Y (Qg (oL Y U3 (c112 _)) Y (Qg (Ar Y Y) Y (Qg (B8 Y Y Y) Y (Qm Y (Am ?_)))));refine Ao Y (λa6=>?_) (λa6=>?_)
      ·refine Ac (Ab (Qm Y (Am (An (Ae ?_)))));exact Ap Y Y (⟨false,Y,nofun,λq=>jt q.nc a6⟩)
      ·have a1:=bk.1 a1;have hMr:=bk.1 a2;have hNr:=bk.1 a3;obtain rfl:=bk.1 a4;obtain rfl:=bk.1 a5;obtain rfl:=bk.1 a6;obtain⟨hVt,hVe,_⟩:=L4 hNr;generalize hVV:Eu S.length ne=V at *;have hRv:RdL cI 1 h8 [] ev (BV S.length S.length (EX V)):=by rw[hVe];exact hRv
       refine Ah (Ad (Aq (Qx (oG Y Dr A4 (s13 _)) Y (Qx (oG Y Dr A4 (s11 _ (by assumption) _)) Y (Qc call98 Y (YE np S.length S.length S.length (GP np S) (EX V) em ev h8 (FZ hP hSn) hVt hRm hRv) (λrd h9 ms9 l9 hQ=>?_))))));obtain⟨rfl,_,rfl,ew,mw,rfl,rfl,hOw⟩:=hQ;change OwnL cI 1 3 mw ew (BV S.length S.length (D4 np S.length (GP np S) (EX V))) at hOw;refine Ba hOw λh10 l10 hRw=>?_;have oew:=hRw.rd.one;refine Qm Y (Qm Y (Qm Y (Cx [.w 0,.w 0,.w 0,.nl] Y A4 Y Y (λg17=>?_))));refine Sa 0 [_,_,_,_] A4 Y (by simp[o1,o2,o3,o4,o5,oem,oro,oew]) ?_;refine Qm Y (Am (Ax λh12 l12 hS17=>?_));have l812:=AE l10 l12;have l612:=AE l68 l812;have hRr:=hRr.up l812;have hRv:=hRv.up l812;have hRw:=hRw.up l12;have s17:∀ms,Seg h12 ms (⟨g17,0,none⟩:Addr) [.w np,.w S.length,.w S.length,ew]:=λms=>hS17.any;have hMl:=N3 (FZ hP hSn) hVt;have hEq:=Wa ⟨mp,mr,mc,me⟩ (FH np S.length S.length (D4 np S.length (GP np S) (EX V))) er ew h12 hOM hMl.ok hRr hRw;have hmm:D4 np S.length (GP np S) (JK S.length ne)=D4 np S.length (GP np S) (JK S.length ne):=rfl
       have hme:FH np S.length S.length (D4 np S.length (GP np S) (JK S.length ne))=FH np S.length S.length (D4 np S.length (GP np S) (EX V)):=by unfold FH;rw[AW (g:=D4 np S.length (GP np S) (EX V)) λi hi j hj=>Iq λt ht=>by rw[<-hVV,GQ ht]]
       by_cases hq:¬((⟨mp,mr,mc,me⟩:FM)=FH np S.length S.length (D4 np S.length (GP np S) (EX V)))
       ·refine Ac (Aq (Qx (oG Y Dr A4 (s10 _ (by assumption) _)) Y (Qx (oG Y Dr A4 (s17 _)) Y (Qx (AH Y call99 Y (FnV.to (hEq _) (aw Value.bool (aj λe=>hq e.2)))) Y (Qm Y (Am (A5 Y (Aq (Qm Y (Am (An (Ae ?_))))))))))));exact Ap Y Y (⟨false,Y,nofun,λq=>jt (q.pr.trans hme) hq⟩)
       ·have hq:=bk.1 hq;refine Ac (Aq (Qx (oG Y Dr A4 (s10 _ (by assumption) _)) Y (Qx (oG Y Dr A4 (s17 _)) Y ?_)));refine Qx (AH Y call99 Y (FnV.to (hEq _) (aw Value.bool (ai ⟨⟨by rw[hq];exact hMl.rt,hMl.rt,aw FM.p hq⟩,hq⟩)))) Y ?_;refine Qm Y (Am (AQ Y (Ah (Ad (Ac (Aq (Qm Y (Am (Ag ?_)))))))));simp only[FH,FM.mk.injEq]at hq;obtain⟨rfl,rfl,rfl,hq4⟩:=hq;obtain⟨hRt,hRe,_⟩:=L4 hMr;have hQ0:OB mp S o ⟨mp,S.length,S.length,me⟩ ⟨mp,S.length,S.length,ne⟩<->(∀k,k<S.length->EX (Eu S.length ne) k k=1/\∀i,k<i->i<S.length->EX (Eu S.length ne) i k=0)/\∀a b,a<b->b<S.length->0<=AR (Eu S.length me b)->AR (Eu S.length me b)≠AR (Eu S.length me a):=TA a1 hNr hVe.symm hq4.symm;generalize hRR:Eu S.length me=R at *;rw[hVV]at hQ0;rw[<-hRe]at hRr;have lenR:∀j,(R j).length=S.length:=λj=>by rw[<-hRR];exact Pg _ _ _
        have hls:∀k,k<S.length->∀ms,FnV Tryz.prog 88 #[.agg #[.w mp,.w S.length,.w S.length,er],.w k] h12 ms (.w (AR (R k))):=λk hk ms=>by
         have:=I4 mp S.length (EX R) er k h12 hRr hSn hk ms
         rwa [show(EK S.length λa=>EX R a k)=R k from JJ (lenR k)]at this
        have e11:∀ms,Cell h12 ms (⟨g11,3,none⟩:Addr) ev:=λms=>(Seg.all hS11 3 _ Y ms).le (AE l2 (AE l3 (AE l36 l612)));have hnn:S.length*S.length<=160000:=by have:=dh hSn hSn;omega
        have hm2:(BV S.length S.length (EX V)).length=S.length*S.length:=BO _ _ _;have cv:∀i j,i<S.length->j<S.length->∀ms,Cell h12 ms ((AG ev).add ((i*S.length+j)*1)) (.w (EX V i j)):=λi j hi hj ms=>(hRv.any (ms:=ms)).ent hi hj;have hc1:∀i j:Nat,(((i*S.length+j:Nat)):Int)=(i:Int)*(S.length:Int)+j:=λi j=>by rw[gj,da]
        refine Ay (λq sl h' ms'=>∃(j:Nat),q=S.length-j/\sl=[(10,.pt g10),(11,.pt g11),(14,.w S.length),(19,.w j)]/\h12=h'/\ms'=[]/\j<=S.length/\∀k,k<j->EX V k k=1/\∀i,k<i->i<S.length->EX V i k=0/\(0<=AR (R i)->AR (R i)≠AR (R k)))
         (S.length-0) _ ⟨0,rfl,rfl,rfl,rfl,ω,λk hk=>ω⟩ Qs ?_
        rintro q sl h' ms' ⟨j,rfl,rfl,rfl,rfl,hj,hgd⟩;refine Ac (Aq (Qm Y (Qm Y (Qm Y (Am ?_)))));refine Ao Y (λhjl=>?_) (λhjl=>?_)
        ·have hjn:j<S.length:=ω
         refine Ah (Ad (Ac (Ag (Ac (Aq (Qm Y (Qx (oA Y) Y (Qm Y (Am (Ag ?_))))))))))
         refine Ay (λq sl h' ms'=>∃(i:Nat),q=S.length-i/\sl=[(10,.pt g10),(11,.pt g11),(14,.w S.length),(19,.w j),(20,.w i)]/\h12=h'/\ms'=[]/\j+1<=i/\i<=S.length/\∀a,j<a->a<i->EX V a j=0/\(0<=AR (R a)->AR (R a)≠AR (R j)))
          (S.length-(j+1)) _ ⟨j+1,rfl,rfl,rfl,rfl,ω,ω,λa h1 h2=>ω⟩ Qs ?_
         rintro q sl h' ms' ⟨i,rfl,rfl,rfl,rfl,hij,hi,hgi⟩;refine Ac (Aq (Qm Y (Qm Y (Qm Y (Am ?_)))));refine Ao Y (λhil=>?_) (λhil=>?_)
         ·have hin:i<S.length:=ω
          have hix:=Ds hin hjn;have hci:=hc1 i j;have hk0:0<=(i:Int)*(S.length:Int):=dt ω ω;by_cases hv0:EX V i j≠0
          ·refine Ah (Ad (Ac (Ag (Ac (Bc 21 CT κ Y (Wf Bl Y (Wl Y AN (e11 _) (Wm Y (Wm Y (AM (oM Y) Y Y (Wm Y (AM (oA Y) Y Y (AM (AA ((i*S.length+j)) hRv.rd.any Y AN A0 Y Y ω ω) Y Y (Wl Y U3 (cv i j hin hjn _) (AM (BW (B8 Y Y Y) (aw Value.bool (ai hv0))) Y Y (Wm Y (AC Y Y Y Y Y (AC Y Y Y Y Y (AC Y Y Y Y Y (AC Y Y Y Y Y (AC Y Y Y Y Y (AY Y Y Y Y (AY Y Y Y Y (AY Y Y Y Y (AY Y Y Y Y (AY Y Y Y Y (A7 (A3 Y Y Y Y Y Y (A3 Y Y Y Y Y Y (Qk Y (Qm Y (Am (A5 Y (Aq (Qm Y (Am (An (Aj (Ae ?_)))))))))))))))))))))))))))))))))))))));refine Ae (Aj (Ae (Aj (Ae (Ae (Aj (Ae ?_)))))));exact Ap Y Y (⟨false,Y,nofun,λq=>jt (((hQ0.1 q).1 j hjn).2 i ω hin) hv0⟩)
          ·have hv0:=bk.1 hv0;refine Ah (Ad (Ac (Ag (Ac (Bc 21 CT κ Y (Wf Bl Y (Wl Y AN (e11 _) (Wm Y (Wm Y (AM (oM Y) Y Y (Wm Y (AM (oA Y) Y Y (AM (AA ((i*S.length+j)) hRv.rd.any Y AN A0 Y Y ω ω) Y Y (Wl Y U3 (cv i j hin hjn _) (AM (BW (B8 Y Y Y) (aw Value.bool (aj λe=>e hv0))) Y Y (Wm Y (AJ (oG Y Dr A4 (s10 _ (by assumption) _)) Y Y Y Y (AJ (Ar Y Y) Y Y Y Y (AJ (AH Y call88 Y (hls i hin _)) Y Y Y Y (AJ (HE Y Y Y) Y Y Y Y (AJ (Ar Y Y) Y Y Y Y ?_)))))))))))))))))))));refine CC (t:=100) Y (λhge=>?_) (λhge=>?_)
           ·by_cases hne:AR (R i)=AR (R j)
            ·refine AJ (oG Y Dr A4 (s10 _ (by assumption) _)) Y Y Y Y (AJ (Ar Y Y) Y Y Y Y (AJ (AH Y call88 Y (hls i hin _)) Y Y Y Y (AJ (oG Y Dr A4 (s10 _ (by assumption) _)) Y Y Y Y (AJ (Ar Y Y) Y Y Y Y (A7 (Qg (AH Y call88 Y (hls j hjn _)) Y (Qg (BW (CO Y Y Y) (aw Value.bool (ai hne))) Y (Qg (Cp Y Y Y) Y (Qm Y (Am (A5 Y (Aq (Qm Y (Am (An (Aj (Ae (Ae (Aj (Ae (Aj (Ae (Ae (Aj (Ae ?_)))))))))))))))))))))))));exact Ap Y Y (⟨false,Y,nofun,λq=>jt hne ((hQ0.1 q).2 j i ω hin hge)⟩)
            ·refine AJ (oG Y Dr A4 (s10 _ (by assumption) _)) Y Y Y Y (AJ (Ar Y Y) Y Y Y Y (AJ (AH Y call88 Y (hls i hin _)) Y Y Y Y (AJ (oG Y Dr A4 (s10 _ (by assumption) _)) Y Y Y Y (AJ (Ar Y Y) Y Y Y Y (A7 (Qg (AH Y call88 Y (hls j hjn _)) Y (Qg (BW (CO Y Y Y) (aw Value.bool (aj hne))) Y (Qg (Cp Y Y Y) Y (Qm Y (Am (AQ Y (Ah (Ai (Ad (Ab (Qm Y (Qx (oA Y) Y (Qm Y (Ak ?_)))))))))))))))))));refine Al (S.length-(i+1)) _ ω ⟨i+1,Y,Y,Y,Y,ω,ω,λa h1 h2=>?_⟩ Qs;rcases (ω:a<i\/a=i) with h|rfl
             ·exact hgi a h1 h
             ·exact⟨hv0,λ_=>hne⟩
           ·refine AC Y Y Y Y Y (AC Y Y Y Y Y (AC Y Y Y Y Y (AC Y Y Y Y Y (AC Y Y Y Y Y (A7 (Qk Y (Qk Y (Qg (Ch Y Y Y) Y (Qm Y (Am (AQ Y (Ah (Ai (Ad (Ab (Qm Y (Qx (oA Y) Y (Qm Y (Ak ?_)))))))))))))))))));refine Al (S.length-(i+1)) _ ω ⟨i+1,Y,Y,Y,Y,ω,ω,λa h1 h2=>?_⟩ Qs;rcases (ω:a<i\/a=i) with h|rfl
            ·exact hgi a h1 h
            ·exact⟨hv0,λh=>jt h hge⟩
         ·have hix:=Ds hjn hjn;have hci:=hc1 j j;have hk0:0<=(j:Int)*(S.length:Int):=dt ω ω;by_cases hv1:EX V j j≠1
          ·refine Av (Aa (Aa (Af (Ad (Aq (Qf Bl Y (Ql Y AN (e11 _) (Qm Y (Qm Y (Qx (oM Y) Y (Qm Y (Qx (oA Y) Y (Qx (AA ((j*S.length+j)) hRv.rd.any Y AN A0 Y Y ω ω) Y (Ql Y U3 (cv j j hjn hjn _) (Qx (BW (B8 Y Y Y) (aw Value.bool (ai hv1))) Y (Am (A5 Y (Aq (Qm Y (Am (An (Aj (Ae (Ae (Aj (Ae ?_))))))))))))))))))))))))));exact Ap Y Y (⟨false,Y,nofun,λq=>jt ((hQ0.1 q).1 j hjn).1 hv1⟩)
          ·have hv1:=bk.1 hv1;refine Av (Aa (Aa (Af (Ad (Aq (Qf Bl Y (Ql Y AN (e11 _) (Qm Y (Qm Y (Qx (oM Y) Y (Qm Y (Qx (oA Y) Y (Qx (AA ((j*S.length+j)) hRv.rd.any Y AN A0 Y Y ω ω) Y (Ql Y U3 (cv j j hjn hjn _) (Qx (BW (B8 Y Y Y) (aw Value.bool (aj λe=>e hv1))) Y (Am (AQ Y (Ah (Ai (Ad (Ab (Qm Y (Qx (oA Y) Y (Qm Y (Ak ?_)))))))))))))))))))))))));refine Al (S.length-(j+1)) _ ω ⟨j+1,Y,Y,Y,Y,ω,λk hk=>?_⟩ Qs;rcases (ω:k<j\/k=j) with h|rfl
           ·exact hgd k h
           ·exact⟨hv1,λa h1 h2=>hgi a h1 ω⟩
        ·refine Av (Aa (Aa (Af (Ad (Aq (Qm Y (Am (An ?_))))))));have hfin:true=true<->OB mp S o ⟨mp,S.length,S.length,me⟩ ⟨mp,S.length,S.length,ne⟩:=⟨λ_=>hQ0.2 ⟨λk hk=>⟨(hgd k ω).1,λi h1 h2=>((hgd k ω).2 i h1 h2).1⟩,λa b h1 h2 h3=>((hgd a ω).2 b h1 h2).2 h3⟩,λ_=>rfl⟩
         exact Ap Y Y (⟨true,Y,hfin⟩)
section
variable {p:Int} {F:List (Int×Int)} {l S:List Ce}
theorem SV(H:SrtH F l S){j i:Nat}(hj:j<S.length)(hi:j<=i):∀k,k<=(Cw S j).sd.length->(D8 p S j k).getD i 0=0
 | 0,_=>by show(replicate S.length (0:Int)).getD i 0=0;by_cases h:i<S.length<;>simp[List.getD,h]
 | k+1,hk=>by
  have ih:=SV H hj hi k ω;have hkl:k<(S.getD j default).c.sd.length:=by unfold Cw at hk;omega
  have hkl':k<(Cw S j).sd.length:=hkl;obtain⟨s,hs⟩:∃s,(Cw S j).sd[k]=s:=⟨_,Y⟩
  have hs':(S.getD j default).c.sd[k]=s:=hs
  have hcs:D8 p S j (k+1)=(D8 p S j k).set (pl S (j+1) s.1) ((s.2+p)%p):=by rw[<-hs'];exact H7 hkl
  have hsm:s∈(Cw S j).sd:=by rw[<-hs];exact List.getElem_mem hkl'
  obtain⟨m,hm,e1,e2⟩:=H.before hj hsm
  have hpl:pl S (j+1) s.1=m:=by rw[<-e1];exact RH H.nd ω ω
  rw[hcs,hpl]
  have hv:((D8 p S j k).set m ((s.2+p)%p)).getD i 0=(D8 p S j k).getD i 0:=by simp[List.getD,gc (show m≠i by omega)]
  rw[hv];exact ih
theorem Abl(H:SrtH F l S){i t:Nat}(ht:t<S.length)(hi:t<=i):GP p S i t=0:=SV H ht hi _ (au _)
theorem YT(H:SrtH F l S){o me ne:List Int}(Q:OB p S o ⟨p,S.length,S.length,me⟩ ⟨p,S.length,S.length,ne⟩){j:Nat}(hj:j<S.length):(Gv S.length (JK S.length me)).getD j 0<j:=by
 rw[MS _ hj];have hb:=Dv (EK S.length λi=>JK S.length me i j);by_cases h:AR (EK S.length λi=>JK S.length me i j)<0
 ·omega
 ·obtain⟨m,em⟩:∃m:Nat,AR (EK S.length λi=>JK S.length me i j)=m:=⟨(AR (EK S.length λi=>JK S.length me i j)).toNat,ω⟩
  obtain⟨h1,h2,h3⟩:=DI em;rw[em];rw[Cd]at h1
  have hlt:m<j:=by
   refine Nat.lt_of_not_le λhle=>h2 ?_;rw[ge,GY? h1,i9];have e:=Q.pr;simp only[FH,FM.mk.injEq]at e;rw[e.2.2.2,Oy h1 hj];unfold D4;rw[Gz λt ht=>?_,Int.zero_emod];by_cases htj:t<=j
   ·rw[Abl H ht ω,ix]
   ·rw[Q.aft j t ω ht,fh]
  omega
end
theorem RN(l S:List Ce)(F:List (Int×Int))(v vf vo er ev vb:Value)(p mp mr mc np nr nc:Int)(me ne o:List Int)(B:List Br)(hp:Hp)(hK:RgC l)(hR:RdC hp v l)(hF:RdL cV 2 hp [] vf F)(hV:Ir F)(hn:(F.map Prod.fst).Nodup)(hb:∀c,-2000000000<=CN (Bn F) c/\CN (Bn F) c<=2000000000)(h0:DN (cn l) F=(0,0))(hl:l.length<=400)(H:SrtH F l S)(hpI:BS p)(hOM:(⟨mp,mr,mc,me⟩:FM).Ok)(hON:(⟨np,nr,nc,ne⟩:FM).Ok)(hRo:RdL cI 1 hp [] vo o)(hRr:RdL cI 1 hp [] er me)(hRv:RdL cI 1 hp [] ev ne)(hRb:RdL IJ 6 hp [] vb B):FnT Tryz.prog 37 #[.agg #[v],vf,.int .i64 p,vo,.agg #[.int .i64 mp,.int .i64 mr,.int .i64 mc,er],.agg #[.int .i64 np,.int .i64 nr,.int .i64 nc,ev],vb] hp [] (λr _ _=>∃b:Bool,r=.bool b/\(b=true<->Xw p F S o ⟨mp,mr,mc,me⟩ ⟨np,nr,nc,ne⟩ B)):=by
 have o1:=hR.q.rd.one;have o2:=hF.rd.one;have o3:=hRo.rd.one;have o4:=hRr.rd.one;have o5:=hRv.rd.one;have o6:=hRb.rd.one;refine Au func37 ntmps37 Y Y (λw0 hw0=>?_);simp only[A6];refine Aq (AP [_] Y Y (by rfl) Y Y Y (λg7=>AP [_,_,_,_] Y Y (by rfl) Y Y Y (λg11=>AP [_,_,_,_] Y Y (by rfl) Y Y Y (λg12=>Qm Y (Am (Ax λh1 l1 hS12=>(Ax λh2 l2 hS11=>(Ax λh3 l3 hS7=>?_))))))));have l13:=AE l1 (AE l2 l3);have hR:=hR.up l13;have hF:=hF.up l13;have hRo:=hRo.up l13;have hRr:=hRr.up l13;have hRv:=hRv.up l13;have hRb:=hRb.up l13;have s7:∀h',h3.le h'->∀ms,Seg h' ms (⟨g7,0,none⟩:Addr) [v]:=λh' l' ms=>(hS7.le l').any;have s11:∀h',h3.le h'->∀ms,Seg h' ms (⟨g11,0,none⟩:Addr) [.w mp,.w mr,.w mc,er]:=λh' l' ms=>(hS11.le (AE l3 l')).any;have s12:∀h',h3.le h'->∀ms,Seg h' ms (⟨g12,0,none⟩:Addr) [.w np,.w nr,.w nc,ev]:=λh' l' ms=>(hS12.le (AE l2 (AE l3 l'))).any;have her:=λms=>DW (Ki l F v vf p h3 hK hR hF hV hpI hl) ms;by_cases hP:¬IsP p
 ·have hE:Hg (cn l) F p≠0:=by unfold Hg;rw[h0,aa (λh=>h rfl),aa hP];decide
  generalize Hg (cn l) F p=ee at *;refine Ac (Aq (Qx (oG Y CS A8 (s7 _ (Da) _)) Y (Qm Y (Qm Y (Qx (AH Y call85 Y (her _)) Y (Qm Y (Am ?_)))))));refine Ao Y (λhc=>?_) (λhc=>jt (hE) hc);refine Aq (Qm Y (Am (An (Ae ?_))));exact Ap Y Y (⟨false,Y,nofun,λq=>jt q.1 hP⟩)
 ·have hP:=bk.1 hP;rw[Tg h0 hP]at her;refine Ac (Aq (Qx (oG Y CS A8 (s7 _ (Da) _)) Y (Qm Y (Qm Y (Qx (AH Y call85 Y (her _)) Y (Qm Y (Am (Ao Y (λhc=>jt hc (λh=>h Y)) (λhc=>Ah (Ad (Aq (Qx (oG Y CS A8 (s7 _ (Da) _)) Y (Qm Y (Qm Y (Qm Y (Qx (oG Y Dr A4 (s11 _ (Da) _)) Y (Qx (oG Y Dr A4 (s12 _ (Da) _)) Y (Qc call38 Y ((Xj l S F v vf vo er ev p mp mr mc np nr nc me ne o h3 hK hR hF hn hl H hP hOM hON hRo hRr hRv).drops.le) (λrp h4 ms4 l4 hQ=>?_)))))))))))))))))));obtain⟨l4',rfl,_,b,rfl,hb2⟩:=hQ;have hR:=hR.up l4';have hF:=hF.up l4';have hRr:=hRr.up l4';have hRb:=hRb.up l4';refine Qm Y (Am ?_);cases b with
  | false=>
   refine Aq (Qm Y (Qm Y (Qk Y (Qk Y (Qk Y (Qk Y (Qk Y (Qk Y (Qm Y (Qm Y (Am (An ?_))))))))))));exact Ap Y Y (⟨false,Y,nofun,λq=>jt (hb2.2 q.2.1) δ⟩)
  | true=>
   have Q:=hb2.1 Y;have hpr:=Q.pr;simp only[FH,FM.mk.injEq]at hpr;obtain⟨rfl,rfl,rfl,hme⟩:=hpr;have e1:=Q.np;have e2:=Q.nr;have e3:=Q.nc;simp only at e1 e2 e3;subst e1 e2 e3;have hat:me=BV S.length S.length (JK S.length me):=K5 (by rw[hme,BO]);have hRr2:RdL cI 1 h4 [] er (BV S.length S.length (JK S.length me)):=by rw[<-hat];exact hRr
   refine Aq (Qm Y (Qm Y (Qg (Ar Y Y) Y (Qg (oG Y CS A8 (s7 _ (by assumption) _)) Y (Qg (Ar Y Y) Y (Qg (oG Y Dr A4 (s11 _ (by assumption) _)) Y (NL Y Y Y Y (Qc call53 Y (ML l S F v vf er np (JK S.length me) h4 hK hR hF hn hb H hl hRr2 (λj hj=>YT H Q hj)) (λrb h5 ms5 l5 hQ=>?_)))))))));obtain⟨l5',mb,rfl,hOb⟩:=hQ;refine Ba hOb λh6 l6 hRb2=>?_;have hRb:=hRb.up (AE l5' l6);have orb:=hRb2.rd.one;refine Qg (AH Y call17 Y (PQ _ _ _ _ _ hRb hRb2 _)) Y (Qm Y (Qm Y (Am (An ?_))))
   have hfin:decide (B=Do (CN (Bn F)) S (Gv S.length (JK S.length me)) S.length)=true<->Xw np F S o ⟨np,S.length,S.length,me⟩ ⟨np,S.length,S.length,ne⟩ B:=by rw[decide_eq_true_iff];exact⟨fun e=>⟨hP,Q,e⟩,fun q=>q.2.2⟩
   exact Ap Y Y (⟨_,Y,hfin⟩)
end
section
open Go.Lin
theorem MN(p:Int)(r c:Nat)(me:List Int)(er:Value)(q0 q1:Int)(hp:Hp)(hpb:2<=p/\p<=997)(hr:r<=400)(hc:c<=400)(hl:me.length<=160000)(hRr:RdL cI 1 hp [] er me)(h0:BS q0)(h1:BS q1):FnT Tryz.prog 35 #[.agg #[.int .i64 p,.int .i64 r,.int .i64 c,er],.agg #[.int .i64 q0,.int .i64 q1]] hp [] (λx h' ms'=>hp.le h'/\∃(p' r' c':Int) (e':List Int) (v':Value) (m:Hp),ms'=[m]/\x=.agg #[.int .i64 p',.int .i64 r',.int .i64 c',v']/\OwnL cI 1 3 m v' e'/\(⟨p',r',c',e'⟩:FM).Ok):=by
 have o1:=hRr.rd.one;refine Au func35 ntmps35 Y Y (λw0 hw0=>?_);simp only[A6];refine Aq (AP [_,_,_,_] Y Y (by rfl) Y Y Y (λg2=>AP [_,_] Y Y (by rfl) Y Y Y (λg3=>Cx [.w 0,.w 0,.w 0,.nl] Y A4 Y Y (λg4=>Am (Bj 2 Y λh2 l2 hS2=>(Bj 1 Y λh3 l3 hS3=>?_))))));have hRr:=hRr.up (AE l2 l3);have hS2:=hS2.le l3;have a0:∀ms,Cell h3 ms (⟨g2,0,none⟩:Addr) (.w p):=λms=>Seg.all hS2 0 _ Y ms;have a1:∀ms,Cell h3 ms (⟨g2,1,none⟩:Addr) (.w r):=λms=>Seg.all hS2 1 _ Y ms;have a2:∀ms,Cell h3 ms (⟨g2,2,none⟩:Addr) (.w c):=λms=>Seg.all hS2 2 _ Y ms;have a3:∀ms,Cell h3 ms (⟨g2,3,none⟩:Addr) er:=λms=>Seg.all hS2 3 _ Y ms;have b0:∀ms,Cell h3 ms (⟨g3,0,none⟩:Addr) (.w q0):=λms=>Seg.all hS3 0 _ Y ms;have b1:∀ms,Cell h3 ms (⟨g3,1,none⟩:Addr) (.w q1):=λms=>Seg.all hS3 1 _ Y ms;refine Bg (λsl h' ms'=>∃(g5:Nat) (v5:Value) (m5:Hp),sl=[(2,.pt g2),(3,.pt g3),(4,.pt g4),(5,.pt g5)]/\h3=h'/\ms'=[Bh g5 65 [.w p,.w r,.w c,v5],m5,Bh g4 65 [.w 0,.w 0,.w 0,.nl]]/\OwnL cI 1 3 m5 v5 me) ?_ (λs h ms hI=>?_)
 ·refine BK (n:=13) (bs:=[true,true,true,true,true,true,false,true,true,false,false,false,false]) [true,true,true,true,true,true,false,true,true] CT κ κ Y Y (QF Cz Y (QL Y U3 (a0 _) (QF CQ Y (QL Y U3 (a1 _) (QF BU Y (QL Y U3 (a2 _) (QF Bl Y (QL Y AN (a3 _) ?_))))))));unfold Fm;simp only[bl,ay];refine Bf [6,11] κ Y ?_;refine AD Y ?_ ?_
  ·refine AB [] [] [] rfl AN A0 rfl ω κ (by repeat (first|exact ff|refine⟨⟨by first|rfl|exact(hRr.rd.any).cells|exact Rd.cells ‹_›|exact(RdL.rd ‹_›).cells,rfl,rfl⟩,?_⟩)) rfl rfl rfl rfl (λg13=>?_);refine Qw (Bf [9,11] κ rfl ?_);refine AD rfl ?_ ?_
   ·refine AU 0 (DK g13 Bi) hRr.any Y AN A0 Y ω Y Y Y B5 (by simp;omega) (by simp;omega) rfl rfl rfl (λv5 m5 hO=>?_);rw[ay]at hO;obtain⟨a5,c5,rfl,_⟩:=(hO.rd (h:=h3) (ms:=[m5]) Mh).rd.ex;refine Qw (Bd 10 17 κ Y (Da) Y (Bb Kw [.w 0,.w 0,.w 0,.nl] [(0,_),(1,_),(2,_),(3,_)] [_,_,_,_] Y A4 Y Y Qt Y) (Qo 11 Y (Cx [.w 0,.w 0,.w 0,.nl] Y A4 Y Y (λg5=>Qw (Qo 12 Y ?_)))));refine Sa 0 [_,_,_,_] A4 Y (by simp[Value.oneCell']) ?_;refine Qw (Qe ?_);exact Az _ ⟨g5,_,m5,Y,Y,Y,hO⟩ Qs
   refine AD Y ?_ ?_
   ·refine Cx [.w 0,.w 0,.w 0,.nl] Y A4 Y Y (λg5=>Qw (Qo 9 Y ?_));refine AU 1 (DK g13 Bi) hRr.any Y AN A0 Y ω Y Y Y B5 (by simp;omega) (by simp;omega) rfl rfl rfl (λv5 m5 hO=>?_);rw[ay]at hO;obtain⟨a5,c5,rfl,_⟩:=(hO.rd (h:=h3) (ms:=[m5]) Mh).rd.ex;refine Qw (Bd 10 17 κ Y (Da) Y (Bb Kw [.w 0,.w 0,.w 0,.nl] [(0,_),(1,_),(2,_),(3,_)] [_,_,_,_] Y A4 Y Y Qt Y) (Qo 12 Y ?_));refine Sa 0 [_,_,_,_] A4 Y (by simp[Value.oneCell']) ?_;refine Qw (Qe ?_);exact Az _ ⟨g5,_,m5,Y,Y,Y,hO⟩ Qs
   exact Be
  refine AD Y ?_ ?_
  ·refine Cx [.w 0,.w 0,.w 0,.nl] rfl A4 rfl rfl (λg5=>Qw (Qo 6 rfl ?_));refine AB [] [] [] rfl AN A0 rfl ω κ (by repeat (first|exact ff|refine⟨⟨by first|rfl|exact(hRr.rd.any).cells|exact Rd.cells ‹_›|exact(RdL.rd ‹_›).cells,rfl,rfl⟩,?_⟩)) rfl rfl rfl rfl (λg13=>?_);refine Qw (Qo 9 rfl ?_);refine AU 0 (DK g13 Bi) hRr.any rfl AN A0 rfl ω rfl rfl rfl B5 (by simp;omega) (by simp;omega) rfl rfl rfl (λv5 m5 hO=>?_);rw[ay]at hO;obtain⟨a5,c5,rfl,_⟩:=(hO.rd (h:=h3) (ms:=[m5]) Mh).rd.ex;refine Qw (Bd 10 17 κ rfl (Da) rfl (Bb Kw [.w 0,.w 0,.w 0,.nl] [(0,_),(1,_),(2,_),(3,_)] [_,_,_,_] rfl A4 rfl rfl Qt rfl) (Qo 12 rfl ?_));refine Sa 1 [_,_,_,_] A4 rfl (by simp[Value.oneCell']) ?_;refine Qw (Qe ?_)
   (refine To ?_;exact Az _ ⟨g5,_,m5,Y,Y,Y,hO⟩ Qs)
  exact Be
 ·obtain⟨g5,v5,m5,rfl,rfl,rfl,hO⟩:=hI;have ov5:=hO.o1;have hmx:(0:Int)<max (me.length:Int) 1/\max (me.length:Int) 1<=160000:=ω
  obtain⟨k,hk⟩:∃k:Nat,q1%(max (me.length:Int) 1)=k:=⟨(q1%(max (me.length:Int) 1)).toNat,by have:=co q1 (show(max (me.length:Int) 1)≠0 by omega);omega⟩
  have hk1:(k:Int)<max (me.length:Int) 1:=by rw[<-hk];exact bw _ hmx.1
  have hmk:=D0 q1 (max (me.length:Int) 1) h1 ⟨ω,ω⟩ h3;rw[hk]at hmk;have hm9:=D0 q0 9 h0 δ h3;generalize q0%9=z9 at hm9;obtain⟨j,hj⟩:∃j:Nat,q1%3=j:=⟨(q1%3).toNat,ω⟩
  have hj1:j<3:=ω
  have hm3:=D0 q1 3 h1 δ h3;rw[hj]at hm3;have iI:∀{x:Int},-1000<=x->x<=4611686018427387904->BS x:=λh h'=>by unfold BS;omega
  refine Aq (Qx (Ci 1 Y U70 A0 Y Y Y ω) Y (Ql Y U3 (b1 _) (Qf Bl Y (Ql Y AN (a3 _) (Qx (As hRr.rd.any Y AN Y) Y (Qx (GU Y Y Y) Y (Qx (AH Y call34 Y (hmk _)) Y (Qm Y (Am ?_)))))))));refine Bg (λsl h' ms'=>∃(p' r' c':Int) (e':List Int) (v':Value) (m:Hp),sl=[(4,.pt g4),(5,.pt g5)]/\h3.le h'/\ms'=[m,Bh g4 65 [.w 0,.w 0,.w 0,.nl]]/\Seg h' [] ⟨g5,0,none⟩ [.w p',.w r',.w c',v']/\OwnL cI 1 3 m v' e'/\BS p'/\BS r'/\BS c') ?_ (λs h ms hI=>?_)
  ·refine Ac (Ab (Qx (Ci 0 Y U70 A0 Y Y Y ω) Y (Ql Y U3 (b0 _) (Qx (AH Y call34 Y (hm9 _)) Y (Am (Ag (Aq (Qm Y (Qm Y (Am ?_))))))))));refine Ao Y (λz0=>?_) (λz0=>?_)
   ·refine Ab (Qf CQ Y (Ql Y U3 (Cell.blk 0 Y Y) (Qx (oA Y) Y (Qf CQ Y ?_))));refine AO 0 _ Y A0 Y Y (by rfl) Y Y (by(simp;done)) rfl rfl ?_;refine Ak (Ai (Bo λk5 j5 f5=>?_));exact Az _ ⟨_,_,_,_,_,_,Y,j5,Y,f5,hO,iI ω ω,iI ω ω,iI ω ω⟩ Qs
   ·refine Ac (Ab (Qm Y (Qm Y (Am ?_))));refine Ao Y (λz1=>?_) (λz1=>?_)
    ·refine Ab (Qf BU Y (Ql Y U3 (Cell.blk 0 Y Y) (Qx (oS Y) Y (Qf BU Y ?_))));refine AO 0 _ Y A0 Y Y (by rfl) Y Y (by(simp;done)) rfl rfl ?_;refine Ak (Ai (Bo λk5 j5 f5=>?_));exact Az _ ⟨_,_,_,_,_,_,Y,j5,Y,f5,hO,iI ω ω,iI ω ω,iI ω ω⟩ Qs
    ·refine Ac (Ab (Qm Y (Qm Y (Am ?_))));refine Ao Y (λz2=>?_) (λz2=>?_)
     ·refine Ab (Qf Bl Y (Ql Y AN (Cell.blk 0 Y Y) (Aw [_] Y AN A0 Y (by rfl) Y Y ω Y Y Y (λg44=>?_))));refine AU 2 hO (OwnL.rd (OwnL.blk (g:=g44) (el:=3) (F:=cI) (l:=[0]) 1 Bi Y δ) Mh) Y AN A0 Y ω Y Y Y B5 (by simp;omega) (by simp;omega) rfl rfl rfl (λv6 m6 hO6=>?_);obtain⟨a6,c6,rfl,_⟩:=(hO6.rd (h:=h3) (ms:=[m6]) Mh).rd.ex;refine Qf Bl Y ?_;refine AO 1 _ Y CI Y Y (by rfl) Y Y (by(simp;done)) rfl rfl ?_;refine Ak (Ai (AZ 0 Y (Bo λk5 j5 f5=>?_)));exact Az _ ⟨_,_,_,_,_,_,Y,j5,Y,f5,hO6,iI ω ω,iI ω ω,iI ω ω⟩ Qs
     ·refine Ac (Ab (Qm Y (Qm Y (Am ?_))));refine Ao Y (λz3=>?_) (λz3=>?_)
      ·refine Ac (Ab (Qf CQ Y (Ql Y U3 (Cell.blk 0 Y Y) (Qx (J9 Y Y ω) Y (Qf CQ Y ?_)))));refine AO 0 _ Y A0 Y Y (by rfl) Y Y (by(simp;done)) rfl rfl ?_;refine Gl (Qf BU Y (Ql Y U3 (Cell.blk 0 Y Y) (Qx (J9 Y Y ω) Y (Qf BU Y ?_))));refine AO 0 _ Y A0 Y Y (by rfl) Y Y (by(simp;done)) rfl rfl ?_;refine Ak (Ai (Bo λk5 j5 f5=>?_));exact Az _ ⟨_,_,_,_,_,_,Y,j5,Y,f5,hO,iI ω ω,iI ω ω,iI ω ω⟩ Qs
      ·refine Ac (Ab (Qm Y (Qm Y (Am ?_))));refine Ao Y (λz4=>?_) (λz4=>?_)
       ·refine Ab (Qx (Ci 1 Y U70 A0 Y Y Y ω) Y (Ql Y U3 (b1 _) (Qf Cz Y ?_)));refine AO 0 _ Y A0 Y Y (by rfl) Y Y (by(simp;done)) rfl rfl ?_;refine Ak (Ai (Bo λk5 j5 f5=>?_));exact Az _ ⟨_,_,_,_,_,_,Y,j5,Y,f5,hO,h1,iI ω ω,iI ω ω⟩ Qs
       ·refine Ac (Ab (Qm Y (Qm Y (Am ?_))));refine Ao Y (λz5=>?_) (λz5=>?_)
        ·refine Ac (Ab (Qf Bl Y (Ql Y AN (Cell.blk 0 Y Y) (Qx (As (hO.rd (h:=h3) (ms:=[Bh g5 65 [.w p,.w r,.w c,v5],m5,Bh g4 65 [.w 0,.w 0,.w 0,.nl]]) (List.Mem.tail _ Mh)).rd Y AN Y) Y (Qm Y (Am ?_))))));refine Ao Y (λhn=>?_) (λhn=>?_)
         ·have hkl:k<me.length:=ω
          refine Ax λh4 l4 hS5=>?_;have a0:∀ms,Cell h4 ms (⟨g2,0,none⟩:Addr) (.w p):=λms=>(a0 ms).le l4;have b1:∀ms,Cell h4 ms (⟨g3,1,none⟩:Addr) (.w q1):=λms=>(b1 ms).le l4;have d3:∀ms,Cell h4 ms (⟨g5,3,none⟩:Addr) v5:=λms=>Seg.all hS5 3 _ Y ms;have hm3:=D0 q1 3 h1 δ h4;rw[hj]at hm3;refine BK (n:=16) (bs:=[true,true,true,true,true,true,true,true,false,true,true,true,false,false,true,false]) [true,true,true,true,true,true,true,true,false,true,true,true,false,false,true] CT κ κ Y Y (QF Bl Y (QL Y AN (d3 _) (Qq Y (QF Cz Y (QL Y U3 (a0 _) (QF Cz Y (QL Y U3 (a0 _) (Qp Y (oS Y) (Qp Y (Ci 1 Y U70 A0 Y Y Y ω) (QL Y U3 (b1 _) (Qp Y (AH Y call34 Y (hm3 _)) (Qp Y (Bk (k) (hO.rd (h:=h4) (ms:=[m5,Bh g4 65 [.w 0,.w 0,.w 0,.nl]]) Mh).rd Y AN A0 Y Y ω ω) ?_))))))))))));unfold Fm;simp only[bl,ay];refine Qo 8 Y (AB [(0,_),(1,_),(2,_)] [.w 0,.w 0,.w 0] [_,_,_] Y AN A0 Y ω κ Qt Y Y Y Y (λg76=>?_));have hL3:OwnL cI 1 3 (Bh g76 3 [.w (-1),.w p,.w (p-1)]) (.slice (some ⟨g76,0,none⟩) 3 3) [-1,p,p-1]:=OwnL.blk (g:=g76) (el:=3) (F:=cI) (l:=[-1,p,p-1]) 3 Bi Y δ;refine Qw (Bd 12 80 κ Y (Da) Y (Co (j) Y AN A0 Y Y ω ω) (Qo 13 Y (Ql Y U3 ((OwnL.rd (h:=h4) hL3 Mh).cell0 (j:=j) hj1 Y) (Qw (Qo 15 Y (Ca (F:=cI) (f:=λx=>.w x) (a:=([-1,p,p-1]:List Int)[j]) 1 k (λ_=>rfl) hO Y A0 Y Y Y Y ω Y Y (λm7 hO7=>Qw (Qe (AX ?_)))))))));exact Ai (Az _ ⟨_,_,_,_,_,_,Y,l4,Y,hS5,hO7,iI ω ω,iI ω ω,iI ω ω⟩ Qs)
         ·refine Ah (Ai (Bo λk5 j5 f5=>?_));exact Az _ ⟨_,_,_,_,_,_,Y,j5,Y,f5,hO,iI ω ω,iI ω ω,iI ω ω⟩ Qs
        ·refine Ac (Ab (Qm Y (Qm Y (Am ?_))));refine Ao Y (λz6=>?_) (λz6=>?_)
         ·refine Ac (Ab (Qf CQ Y ?_));refine AO 0 _ Y A0 Y Y (by rfl) Y Y (by(simp;done)) rfl rfl ?_;refine Gl (Qf BU Y ?_);refine AO 0 _ Y A0 Y Y (by rfl) Y Y (by(simp;done)) rfl rfl ?_;refine Ak (Ai (Bo λk5 j5 f5=>?_));exact Az _ ⟨_,_,_,_,_,_,Y,j5,Y,f5,hO,iI ω ω,iI ω ω,iI ω ω⟩ Qs
         ·refine Ac (Ab (Qm Y (Qm Y (Am ?_))));refine Ao Y (λz7=>?_) (λz7=>?_)
          ·refine Ab (Qf Cz Y ?_);refine AO 0 _ Y A0 Y Y (by rfl) Y Y (by(simp;done)) rfl rfl ?_;refine Ak (Ai (Bo λk5 j5 f5=>?_));exact Az _ ⟨_,_,_,_,_,_,Y,j5,Y,f5,hO,iI ω ω,iI ω ω,iI ω ω⟩ Qs
          ·refine Ah (Ai (Bo λk5 j5 f5=>?_));exact Az _ ⟨_,_,_,_,_,_,Y,j5,Y,f5,hO,iI ω ω,iI ω ω,iI ω ω⟩ Qs
  ·obtain⟨p',r',c',e',v',m,rfl,l5,rfl,f5,hO',i1,i2,i3⟩:=hI;have ov':=hO'.o1;refine Aq (Qx (oG Y Dr A4 (f5.any)) Y ?_);refine Sa 1 [_,_,_,_] A4 Y (by simp[ov']) ?_;refine Am (An ?_);exact BC (vs:=[_,_,_,_]) 1 Y Y Dr Y A4 Y Y (⟨AE l2 (AE l3 l5),p',r',c',e',v',m,Y,Y,hO',⟨i1,i2,i3⟩⟩)
end
section
open Go.Lin
variable {S:List Ce}
theorem AaG{S':List Ce}(h:S'.map Ce.c=S.map Ce.c)(i:Nat):(S'.getD i default).c=(S.getD i default).c:=by
 have e:∀S:List Ce,(S.getD i default).c=(S.map Ce.c).getD i (default:Ce).c:=λS=>by simp only[List.getD,gr];cases S[i]?<;>rfl
 rw[e,e,h]
theorem PY{S':List Ce}(f:Int->Int)(L:List Int)(h:S'.map Ce.c=S.map Ce.c)(n:Nat):Do f S' L n=Do f S L n:=by unfold Do;congr 1;funext m;unfold GV;simp only[AaG h]
def circC:List Cl:=[⟨1,0,[]⟩,⟨2,0,[]⟩,⟨3,1,[(1,-1),(2,1)]⟩,⟨4,1,[(1,-1),(2,1)]⟩]
def circF:List (Int×Int):=[(1,0),(2,1),(3,2),(4,5)]
def circB:List Br:=[⟨0,0,0,true,1,0⟩,⟨0,1,2,false,2,3⟩,⟨1,5,0,true,4,0⟩]
def circS:List Ce:=circC.map λc=>⟨c,undef⟩
theorem Nu:circS.map Ce.c=circC:=rfl
def LA(j i:Nat):Int:=if i=j\/(j=3/\i=2) then 1 else 0
def O4(j:Nat):Option Nat:=if j=2 then some 1 else none
theorem isP2:IsP 2:=⟨by decide,by decide,by decide⟩
theorem W5:Rdc 2 4 (DM circC) (dmo circC) (tr circC circC) LA O4:=by
 have h1:∀i,i<4->∀j,j<4->(2:Int)∣F2 4 (DM circC) (λk=>DM circC k j) i:=by decide
 have h2:∀i,i<4->∀j,j<4->¬(2:Int)∣DM circC i j->dmo circC j=dmo circC i+1:=by decide
 have h3:∀i,i<4->∀j,j<4->tr circC circC i=tr circC circC j->i=j:=by decide
 have h4:∀j,j<4->j<4/\¬(2:Int)∣LA j j/\∀i,i<4->¬(2:Int)∣LA j i->tr circC circC i<=tr circC circC j:=by decide
 have h5:∀j,j<4->∀i,i<4->¬(2:Int)∣LA j i->dmo circC i=dmo circC j:=by decide
 have h6:∀j,j<4->O4 j=none->∀i,i<4->(2:Int)∣F2 4 (DM circC) (LA j) i:=by decide
 have h7:¬(2:Int)∣F2 4 (DM circC) (LA 2) 1/\∀i,i<4->¬(2:Int)∣F2 4 (DM circC) (LA 2) i->tr circC circC i<=tr circC circC 1:=by decide
 have h8:∀j i,O4 j=some i->j=2/\i=1:=λj i h=>by
  unfold O4 at h;split at h
  ·rename_i e;exact⟨e,(di h).symm⟩
  ·cases h
 refine⟨isP2.fld,λi j hi hj=>h1 i hi j hj,λi j hi hj=>h2 i hi j hj,λi j hi hj=>h3 i hi j hj,λj hj=>h4 j hj,λj i hj hi=>h5 j hj i hi,λj hj=>h6 j hj,λj i hj h=>?_,λj j' i hj hj' h h'=>?_⟩
 ·obtain⟨rfl,rfl⟩:=h8 j i h;exact⟨by decide,h7.1,h7.2⟩
 ·rw[(h8 _ _ h).1,(h8 _ _ h').1]
theorem UG{l:List Ce}{R V:Nat->List Int}(H:PerH 2 circF l S R V)(hl:cn l=circC):Do (CN (Bn circF)) S (DD S R) S.length=circB:=by
 have hS:S.map Ce.c=circC:=by
  have h1:Ma (CN (Bn circF)) circS:=by unfold Ma;decide
  have:=XL (f:=CN (Bn circF)) (g:=CN (Bn circF)) (S:=circS) (S':=S) h1 H.P.srt (by rw[Nu,<-hl];exact H.P.perm.symm) δ λ_ _ _ _=>Iff.rfl;rw[this,Nu]
 have hn:S.length=4:=by have:=aw List.length hS;simpa[circC] using this
 have Q:=H.rdc;rw[hl,hn,hS]at Q
 have key:∀j,j<4->AR (R j)=if j=2 then 1 else -1:=λj hj=>by
  have e:=AaU Q W5 hj;have h1:=(Dv (R j)).1;have h2:=(Dv (R j)).2;rw[(H.col j ω).rl,hn]at h2;have ht:∀j,j<4->tr circC circC j=j:=by decide
  unfold Sb O4 at e;rw[hS,ht j hj]at e;by_cases h0:0<=AR (R j)
  ·rw[ac h0,ht _ ω]at e;split at e
   ·rename_i h;rw[ac h];have:=di e;omega
   ·cases e
  ·rw[aa h0]at e;split at e
   ·cases e
   ·rename_i h;rw[aa h];omega
 have hL:DD S R=[-1,-1,1,-1]:=by unfold DD;rw[hn];show [AR (R 0),AR (R 1),AR (R 2),AR (R 3)]=_;rw[key 0 ω,key 1 ω,key 2 ω,key 3 ω];rfl
 rw[hL,hn,PY (S:=circS) (S':=S) _ _ (by rw[hS,Nu]) 4];decide
end
section
variable {D:Int}
theorem ZO:O5 (FB 1)=circC:=by decide
theorem circ_rgtF:RgtF circC:=by
 have e:UE circC=circC:=by decide
 exact⟨by decide,by decide,by decide,λx hx=>by rw[<-e]at hx;obtain⟨y,_,rfl⟩:=ad.1 hx;exact⟨y,Y⟩,by decide,by decide⟩
theorem Md:DN circC circF=(0,0):=by decide
theorem TH:DN circC (circF.take 3)=(4,30):=by decide
theorem TI:DN circC [(1,0),(2,3),(3,2),(4,5)]=(3,44):=by decide
theorem Jj(F:List (Int×Int))(hF:F=circF\/F=circF.take 3\/F=[(1,0),(2,3),(3,2),(4,5)]):Ir F:=by rcases hF with rfl|rfl|rfl<;>exact⟨by decide,by decide⟩
theorem Mm:∀x∈circC,∀s∈x.sd,CN (Bn circF) s.1<=CN (Bn circF) x.id:=by decide
theorem circ_q:Y1 circC circF:=by
 have:=Yb circ_rgtF.rgt (λc=>CN (Bn circF) c) δ Mm;have e:(circC.map λx=>(x.id,CN (Bn circF) x.id))=circF:=by decide
 rwa [e]at this
theorem Wt{o:List Cl}(h:Me o D)(k:Int)(h1:∀c∈o,c.dim<=k)(h2:∃c∈o,c.dim=k)(h0:0<=k):D=k:=by
 obtain⟨a,b,c⟩:=h;obtain⟨y,hy,e⟩:=h2;have:=b y hy;rcases c with c|⟨z,hz,c⟩
 ·omega
 ·have:=h1 z hz;omega
theorem Z9{W:List Int}(hD:Me (Fo circF 1 circC) D)(hl:W.length=(D+1).toNat)(key:∀d:Nat,((circB.filter (Br.at d 1)).length:Int)=if d<(D+1).toNat then W.getD d 0 else 0):W=[2]:=by
 obtain rfl:=Wt hD 0 δ δ δ
 match W,hl with
 | [a],_=>
  have h:=key 0;have h2:((circB.filter (Br.at (0:Nat) 1)).length:Int)=2:=by decide
  rw[h2,ac δ]at h;rw[h];rfl
theorem Yk{W:List Int}(hD:Me (Fo circF 2 circC) D)(hl:W.length=(D+1).toNat)(key:∀d:Nat,((circB.filter (Br.at d 2)).length:Int)=if d<(D+1).toNat then W.getD d 0 else 0):W=[1,0]:=by
 obtain rfl:=Wt hD 1 δ δ δ
 match W,hl with
 | [a,b],_=>
  have h:=key 0;have h':=key 1;have h2:((circB.filter (Br.at (0:Nat) 2)).length:Int)=1:=by decide
  have h3:((circB.filter (Br.at (1:Nat) 2)).length:Int)=0:=by decide
  rw[h2,ac δ]at h;rw[h3,ac δ]at h';have e1:a=1:=h.symm;have e2:b=0:=h'.symm;rw[e1,e2]
theorem Uq(hp:Hp):FnT Tryz.prog 43 #[] hp [] (λr h' ms'=>hp.le h'/\∃gF mC A vC,r=.tuple #[.agg #[vC],.slice (some ⟨gF,0,none⟩) 4 4]/\ms'=[Bh gF 47 [.int .i64 1,.int .i64 0,.int .i64 2,.int .i64 1,.int .i64 3,.int .i64 2,.int .i64 4,.int .i64 5],mC]/\OwnL cC 3 52 mC vC A/\A.map Ce.c=O5 (FB 1)/\∀a∈A,RdL cD 2 h' [] a.v a.c.sd):=by show FnT _ _ (List.toArray []) _ _ _;refine Au func43 ntmps43 Y Y (λw0 hw0=>?_);simp only[A6];refine Aq (Cx [.slice none 0 0] Y A8 Y Y (λg0=>Qm Y (BM (Qc call45 Y (Jm 1 hp δ) (λrC h2 ms2 l2 hF=>?_)))));obtain⟨l2',mC,A,vC,rfl,rfl,hOC,hA,hsd⟩:=hF;have oC:=hOC.o1;refine Qx (Bb WK [.int .i64 0,.int .i64 0] [(0,_)] [_,_] Y Fv Y Y Qt Y) Y (Qx (Bb WK [.int .i64 0,.int .i64 0] [(0,_),(1,_)] [_,_] Y Fv Y Y Qt Y) Y (Qx (Bb WK [.int .i64 0,.int .i64 0] [(0,_),(1,_)] [_,_] Y Fv Y Y Qt Y) Y (Qx (Bb WK [.int .i64 0,.int .i64 0] [(0,_),(1,_)] [_,_] Y Fv Y Y Qt Y) Y (AB [(0,_),(2,_),(4,_),(6,_)] [.int .i64 0,.int .i64 0,.int .i64 0,.int .i64 0,.int .i64 0,.int .i64 0,.int .i64 0,.int .i64 0] [_,_,_,_,_,_,_,_] Y OU Fv Y ω κ Qt Y Y Y Y (λg7=>?_)))));refine Sa 2 [_] A8 Y (by simp[oC]) ?_;refine Qm Y (Am (An ?_));exact Ed (vs:=[_]) 2 Y Y Y CS Y A8 Y Y (⟨l2',_,mC,A,vC,Y,Y,hOC,hA,hsd⟩)
end
section
theorem Sg(h:Hp)(ms:List Hp):FnV Tryz.prog 12 #[] h ms (.bool true):=by
 refine FnV.weaken (h:=Hp.emp) (FnT.toV ?_) (Hp.emp_le h);show FnT _ _ (List.toArray []) _ _ _;refine Au func12 ntmps12 Y Y (λw0 hw0=>?_);simp only[A6];refine Aq (Qm Y (BM (Qc call43 Y (Uq Hp.emp) (λrC h2 ms2 l2 hF=>?_))));obtain⟨l2',gF,mC,A,vC,rfl,rfl,hOC,hA,hsd⟩:=hF;obtain⟨vF,hvF⟩:∃vF:Value,vF=.slice (some ⟨gF,0,none⟩) 4 4:=⟨_,Y⟩
 obtain⟨mF,hmF⟩:∃mF:Hp,mF=Bh gF 47 [.w 1,.w 0,.w 2,.w 1,.w 3,.w 2,.w 4,.w 5]:=⟨_,Y⟩
 rw[<-hvF,<-hmF];have hOF:OwnL cV 2 47 mF vF circF:=by rw[hmF,hvF];exact OwnL.blk (l:=circF) 4 Og Y δ
 have oC:=hOC.o1;have oF_:=hOF.o1;refine Qm Y (Qm Y (Qm Y (Cx [.nl] Y A8 Y Y (λg1=>?_))));refine Sa 0 [_] A8 Y (by simp[oC,oF_]) ?_;refine Qm Y (Am (Bj 0 Y λh3 l3 hS=>(BY 1 hOC Y λh4 l4 hC=>?_)));have hR:RdC h4 vC A:=⟨hC,λa ha=>(hsd a ha).up (AE l3 l4)⟩
 have hA:A.map Ce.c=circC:=by rw[hA];exact ZO
 have hFA:RgtF (A.map Ce.c):=by rw[hA];exact circ_rgtF
 have hcn:cn A=circC:=by rw[Wi hFA,hA]
 have hAl:A.length=4:=by have:=aw List.length hA;rwa [af]at this
 have hK:RgC A:=⟨hFA.rgt,λa ha=>by
  have h1:a.c∈circC:=by rw[<-hA];exact ad.2 ⟨a,ha,Y⟩
  have h2:∀c∈circC,c.id<=1000000:=by decide
  exact h2 _ h1⟩
 have hS:=hS.le l4;refine Aq (Qx (oG Y CS A8 (Seg.any hS)) Y (Qm Y ?_));refine Bs (pre:=[mF]) Y call15 Y (FnT.borrow (λhj l1 l2=>RQ A circF vC vF 2 hj hK (hR.up l1) (hOF.rdh l2) (Jj _ (.inl Y)) (λc=>by have:=circ_q.bI c;unfold BS;omega) (by rw[hcn];exact Md) isP2 ω)) Y Y Y Y (λra h5 ms5 l5 hQ=>?_);obtain⟨l5',hj5,k5,ms5',lj5,⟨lk5,S,Rf,Vf,va,ma,rfl,rfl,hOa,Pa⟩,_,rfl,_⟩:=hQ;have oa:=hOa.o1;have hR:=hR.up l5;have hS:=hS.le l5;have H:PerH 2 circF A S Rf Vf:=⟨Pa,isP2,hK.F.rgt,by rw[hcn];exact circ_q.mon⟩
 have hbt:=H.betti;have hbars:=UG H hcn;rw[hbars]at hOa hbt;rw[hcn]at hbt;refine Qm Y (Qm Y (Qm Y (Qm Y (Qm Y (Am (BY 1 hOa Y λh6 l6 hBa=>?_))))));have hR:=hR.up l6;have hS:=hS.le l6;refine Aq (Qx (oG Y CS A8 (Seg.any hS)) Y (Qm Y ?_));refine Bs (pre:=[mF]) Y call19 Y (FnT.borrow (λhj l1 l2=>Nh A circF vC vF 1 2 hj hK (hR.up l1) (hOF.rdh l2) (Jj _ (.inl Y)) (by rw[hcn];exact Md) (by rw[hcn];exact Mm) isP2 δ ω)) Y Y Y Y (λrb h7 ms7 l7 hQ=>?_);obtain⟨l7',hj7,k7,ms7',lj7,⟨lk7,D,rk,w1,m1,rfl,rfl,hO1,hD,hr0,hrk⟩,_,rfl,_⟩:=hQ;rw[hcn]at hO1 hD hrk;have e1:MO (Fo circF 1 circC) rk (D+1).toNat=[2]:=Z9 hD (by unfold MO;rw[af,ip]) (hbt 1 D rk hD hr0 hrk);rw[e1]at hO1;have ow1:=hO1.o1;refine Qm Y (Qm Y (Qm Y (Qm Y (Qm Y (Am (BY 1 hO1 Y λh8 l8 hW1=>?_))))));have l68:=AE l7 l8;have hR:=hR.up l68;have hS:=hS.le l68;refine Aq (Qx (oG Y CS A8 (Seg.any hS)) Y (Qm Y ?_));refine Bs (pre:=[mF]) Y call19 Y (FnT.borrow (λhj l1 l2=>Nh A circF vC vF 2 2 hj hK (hR.up l1) (hOF.rdh l2) (Jj _ (.inl Y)) (by rw[hcn];exact Md) (by rw[hcn];exact Mm) isP2 δ ω)) Y Y Y Y (λrd h9 ms9 l9 hQ=>?_);obtain⟨l9',hj9,k9,ms9',lj9,⟨lk9,D',rk',w2,m2,rfl,rfl,hO2,hD',hr0',hrk'⟩,_,rfl,_⟩:=hQ;rw[hcn]at hO2 hD' hrk';have e2:MO (Fo circF 2 circC) rk' (D'+1).toNat=[1,0]:=Yk hD' (by unfold MO;rw[af,ip]) (hbt 2 D' rk' hD' hr0' hrk');rw[e2]at hO2;have ow2:=hO2.o1;refine Qm Y (Qm Y (Qm Y (Qm Y (Qm Y (Am (BY 1 hO2 Y λh10 l10 hW2=>(Aq (Qx (Bb Wd [.w 0,.w 0,.w 0,.bool false,.w 0,.w 0] [(3,_),(4,_)] [_,_,_,_,_,_] Y D6 Y Y Qt Y) Y (Qx (Bb Wd [.w 0,.w 0,.w 0,.bool false,.w 0,.w 0] [(1,_),(2,_),(4,_),(5,_)] [_,_,_,_,_,_] Y D6 Y Y Qt Y) Y (Qx (Bb Wd [.w 0,.w 0,.w 0,.bool false,.w 0,.w 0] [(0,_),(1,_),(3,_),(4,_)] [_,_,_,_,_,_] Y D6 Y Y Qt Y) Y (AB [(0,_),(6,_),(12,_)] [.w 0,.w 0,.w 0,.bool false,.w 0,.w 0,.w 0,.w 0,.w 0,.bool false,.w 0,.w 0,.w 0,.w 0,.w 0,.bool false,.w 0,.w 0] [_,_,_,_,_,_,_,_,_,_,_,_,_,_,_,_,_,_] Y Ku D6 Y ω κ Qt Y Y Y Y (λg39=>Qm Y (Am (Bj 0 Y λh11 l11 hS39=>?_))))))))))))));have l811:=AE l9 (AE l10 l11);have hR:=hR.up l811;have hS:=hS.le l811;refine Ac (BK (n:=9) (bs:=[false,true,true,false,false,false,false,false,false]) [false,true,true] CT κ κ Y Y (Qq Y (Qp Y (Fl 3 (hOF.rd (h:=h11) (ms:=[mF]) Mh).rd Y OU Fv Y Y Y δ) ?_)));unfold Fm;simp only[bl,ay];refine Qo 0 Y (Qx (oG Y CS A8 (Seg.any hS)) Y (Qw (Qo 3 Y (Bs (pre:=[mF]) Y call24 Y (FnT.borrow (λhj l1 l2=>FF A (circF.take 3) vC (Cj 2 vF 0 3) hj hK (hR.up l1) (show RdL cV 2 hj [] (Cj 2 vF 0 3) (circF.take 3) from(hOF.rdh l2).sub_ (i:=0) (j:=3) δ δ) (Jj _ (.inr (.inl Y))))) Y Y Y Y (λrc h12 ms12 l12 hQ=>?_)))));obtain⟨l12',hj12,k12,ms12',lj12,hr12,_,rfl,_⟩:=hQ;rw[hcn,TH]at hr12;subst hr12;refine Qa (Bd 4 40 κ Y (by assumption) Y (Ar Y Y) (Bd 5 45 κ Y (by assumption) Y (BX Y Y Y) (Bd 6 46 κ Y (by assumption) Y (BX Y Y Y) (Qo 7 Y (Qm Y (Qa (Qo 8 Y (Qm Y (Qa (Qe (Ad ?_)))))))))));rw[hmF,hvF];refine Aq (Qm Y (Qx (Co 1 Y OU Fv Y Y Y ω) Y (Qf Rz Y ?_)));refine AO 0 3 Y A0 Y Y Y Y (by rw[B9]) δ rfl rfl ?_;simp only[List.set_cons_succ,List.set_cons_zero];refine Am (Ax λh13 l13 hSF=>?_);have l1113:=AE l12 l13;have hR:=hR.up l1113;have hS:=hS.le l1113;have hFB:RdL cV 2 h13 [] (.slice (some ⟨gF,0,none⟩) 4 4) [(1,0),(2,3),(3,2),(4,5)]:=⟨⟨_,4,Y,by decide,by decide,Y,λ_=>⟨_,Y,hSF⟩⟩,Og⟩
 refine Aq (Qx (oG Y CS A8 (Seg.any hS)) Y (Qm Y (Qc call24 Y (FF A [(1,0),(2,3),(3,2),(4,5)] vC _ h13 hK hR hFB (Jj _ (.inr (.inr Y)))) (λrd h14 ms14 l14 hQ=>?_))));rw[hcn,TI]at hQ;subst hQ;refine Qm Y (Qm Y (Qm Y (Qm Y (Qm Y (Am ?_)))));have hBa:=hBa.up (AE l68 (AE l811 (AE l1113 l14)));have hW1:=hW1.up (AE l811 (AE l1113 l14));have hW2:=hW2.up (AE l11 (AE l1113 l14));have hS39:=hS39.le (AE l1113 l14);have hB9:RdL IJ 6 h14 [] (.slice (some ⟨g39,0,none⟩) 3 3) circB:=⟨⟨_,3,Y,by decide,by decide,Y,λ_=>⟨_,Y,hS39⟩⟩,GI⟩
 refine Aq (Qm Y (Qx (BW (CO Y Y Y) (aw Value.bool (ai Y))) Y (Qm Y (Qg (Ar Y Y) Y (Qg (Ar Y Y) Y ?_)))));refine Qg (AH Y call17 Y ((by have:=PQ circB circB va _ h14 hBa hB9 (ms14++ms12'.append []);rwa [ai rfl]at this))) rfl ?_;refine Qm Y (Qm Y (Qg (Ar Y Y) Y (Qg (BW (CO Y Y Y) (aw Value.bool (ai Y))) Y (Qm Y (Qm Y (Qg (Ar Y Y) Y (Qg (BW (CO Y Y Y) (aw Value.bool (ai Y))) Y (Qm Y (Qm Y (Qg (Ar Y Y) Y (NL Y Y Y Y (Aw [_] Y AN A0 Y (by rfl) Y Y ω Y Y Y (λg73=>Ek λh15 l15 hS73=>?_)))))))))))));refine Qg (AH Y call44 Y ((by have:=KL [2] [2] w1 _ h15 (hW1.up l15) (QZ 1 Bi hS73) (ms14++ms12'.append []);rwa [ai rfl]at this))) rfl ?_;refine Qm Y (Qm Y (Qg (Ar Y Y) Y (NL Y Y Y Y (AB [(0,_),(1,_)] [.w 0,.w 0] [_,_] Y AN A0 Y ω κ Qt Y Y Y Y (λg78=>Ek λh16 l16 hS78=>?_)))));have hR2:RdL cI 1 h16 [] (.slice (some ⟨g78,0,none⟩) 2 2) [1,0]:=⟨⟨_,2,Y,by decide,by decide,Y,λ_=>⟨_,Y,hS78⟩⟩,Bi⟩
 refine Qg (AH Y call44 Y ((by have:=KL [1,0] [1,0] w2 _ h16 (hW2.up (AE l15 l16)) hR2 (ms14++ms12'.append []);rwa [ai rfl]at this))) rfl ?_;refine Qm Y (Qm Y (Qg (Ar Y Y) Y (Qg (BW (CO Y Y Y) (aw Value.bool (ai Y))) Y (Qm Y (Qm Y (Qg (Ar Y Y) Y (Qg (BW (CO Y Y Y) (aw Value.bool (ai Y))) Y (Qm Y (Qm Y (Qg (Ar Y Y) Y (Qg (BW (CO Y Y Y) (aw Value.bool (ai Y))) Y (Qm Y (Qm Y (Qg (Ar Y Y) Y (Qg (BW (CO Y Y Y) (aw Value.bool (ai Y))) Y (Qm Y (Qm Y (Am (An ?_)))))))))))))))))));exact Ap Y Y (Y)
open Go.Lin Go.Sort Go.Srt
theorem Yx(P:Prop):∃bb:Bool,bb=true<->P:=by
 classical exact⟨decide P,d6⟩
theorem Sk{r:Value}{P:Prop}{bb:Bool}(q:∃b:Bool,r=.bool b/\(b=true<->P))(h:bb=true<->P):r=.bool bb:=by obtain⟨b,rfl,hb⟩:=q;rw[Bool.eq_iff_iff.2 (hb.trans h.symm)]
theorem Xd(sp be:Nat)(q0 q1 q2 q3:Int)(L0 L:List Int)(G:List Nat)(v0 vG vL:Value)(hp:Hp)(hsp:sp<256)(hbe:be<256)(hq0:BS q0)(hq1:BS q1)(hq2:BS q2)(hq3:BS q3)(hG:∀g∈G,g<256)(hL0:RdL cI 1 hp [] v0 L0)(hRG:RdL (λg=>[.int .u8 (g:Nat)]) 1 hp [] vG G)(hL:RdL cI 1 hp [] vL L)(hLb:∀x∈L,BS x):FnT Tryz.prog 9 #[.agg #[.int .u8 sp,v0,vG,.int .u8 be],vL,.agg #[.int .i64 q0,.int .i64 q1,.int .i64 q2,.int .i64 q3]] hp [] (λr _ _=>r=.bool true):=by
 have o1:=hL0.rd.one;have o2:=hRG.rd.one;have o3:=hL.rd.one;refine Au func9 ntmps9 Y Y (λw0 hw0=>?_);simp only[A6];refine Aq (AP [_,_,_,_] Y Y (by rfl) Y Y Y (λg3=>AP [_,_,_,_] Y Y (by rfl) Y Y Y (λg5=>Qm Y (Am (Ax λh0 l0 hS5=>(Ax λh1 l1 hS=>?_))))));have hS5:=hS5.le l1;have l1:=AE l0 l1;have hL0:=hL0.up l1;have hRG:=hRG.up l1;have hL:=hL.up l1;refine Aq (Qx (AH Y call12 Y (Sg _ _)) Y (Qm Y (BM (Qx (oG Y U25 AcI (Seg.any hS)) Y (Qc call13 Y (RX sp be L0 G v0 vG h1 hsp hbe hG hL0 hRG) (λrc h2 ms2 l2 hQ=>?_))))));obtain⟨l2',mC,A,vC,rfl,rfl,hOC,hCQ,hsd⟩:=hQ;have oC:=hOC.o1;refine Cx [.nl] Y A8 Y Y (λg8=>?_);refine Sa 0 [_] A8 Y (by simp[o1,o2,o3,oC]) ?_;refine Am (Ax λh3 l3 hS8=>(A9 hOC λh4 l4 hC=>?_));have hR:RdC h4 vC A:=⟨hC,λa ha=>(hsd a ha).up (AE l3 l4)⟩
 have hK:RgC A:=hCQ.rg δ;have hG:=hK.F.rgt;have hA80:A.length<=80:=by have:=hCQ.n;rwa [af]at this
 have hdim:∀x∈cn A,0<=x.dim/\x.dim<=7:=λx hx=>by obtain⟨b,hb,rfl⟩:=Xi hx;exact⟨(hG.bds hx).1.1,hCQ.d b.c (ad.2 ⟨b,hb,Y⟩)⟩
 have l24:=AE l2 (AE l3 l4);have hL:=hL.up l24;have hS8:=hS8.le l4;refine Aq (Qx (oG Y CS A8 (Seg.any hS8)) Y (Qm Y (Qc call14 Y (TN A vC vL L 1 h4 hK hR hL hLb δ) (λrF h5 ms5 l5 hQ=>?_))));obtain⟨l5',mF,rfl,hOF⟩:=hQ;have qF_:Y1 (cn A) (Hw (cn A) L 1 (cn A).length):=Abz hG L 1 δ;generalize Hw (cn A) L 1 (cn A).length=F at hOF qF_;have oF_:=hOF.o1;refine Qm Y (Am (A9 hOF λh6 l6 hF=>?_));have l46:=AE l5 l6;have hR:=hR.up l46;have hS8:=hS8.le l46;have hS5:=hS5.le (AE l2' (AE l3 (AE l4 l46)));have hlF:F.length=A.length:=by have:=aw List.length qF_.fst;rw[af,af,Dg]at this;exact this
 have kF:∀q∈F,BS q.1:=λq hq=>by
  have hc:q.1∈(cn A).map Cl.id:=by rw[<-qF_.fst];exact ad.2 ⟨q,hq,Y⟩
  obtain⟨x,hx,e⟩:=ad.1 hc;have h1:=hG.pos x hx;have h2:=hK.ci hx;rw[<-e];unfold BS;omega
 have VF:Ir F:=⟨ω,kF⟩
 have iF:∀c,BS (CN (Bn F) c):=λc=>by have:=qF_.bI c;unfold BS;omega
 have hnd:(F.map Prod.fst).Nodup:=by rw[qF_.fst];exact hG.nd
 obtain⟨n3,hn3,hw3⟩:∃n3:Nat,n3<256/\IntKind.u8.wrap q3=n3:=⟨(q3%256).toNat,ω,by rw[show IntKind.u8.wrap q3=q3%256 from Y];omega⟩
 obtain⟨hP,hp2⟩:=AaK n3;obtain⟨p,hpe⟩:∃p:Int,(R8 n3:Int)=p:=⟨_,Y⟩
 rw[hpe]at hP hp2;have hp0:=hP.1;have hp9:=hP.2.1;have c50:∀h',h6.le h'->∀ms,Cell h' ms (⟨g5,0,none⟩:Addr) (.w q0):=λh' l' ms=>(Seg.all hS5 0 _ Y ms).le l';have c51:∀h',h6.le h'->∀ms,Cell h' ms (⟨g5,1,none⟩:Addr) (.w q1):=λh' l' ms=>(Seg.all hS5 1 _ Y ms).le l';have c52:∀h',h6.le h'->∀ms,Cell h' ms (⟨g5,2,none⟩:Addr) (.w q2):=λh' l' ms=>(Seg.all hS5 2 _ Y ms).le l';have c53:∀h',h6.le h'->∀ms,Cell h' ms (⟨g5,3,none⟩:Addr) (.w q3):=λh' l' ms=>(Seg.all hS5 3 _ Y ms).le l';refine Aq (Qx (Ci 3 Y Y3 A0 Y Y Y ω) Y (Ql Y U3 (c53 _ (Da) _) (Qx (Hj hw3 Y U3 U5 Y) Y ?_)));refine Qx (AH Y call18 Y ((by have:=UR n3 hn3 h6 [];rwa [hpe]at this))) rfl ?_;refine Qm Y (BM (Qx (oG Y CS A8 (Seg.any hS8)) Y (Qm Y (Qm Y (Qc call33 Y (Kn A F vC rF p h6 hK hR hF VF hnd qF_.chk qF_.mon hP ω) (λrr h13 ms13 l13 hQ=>?_))))));obtain⟨l13',S,R,V,vo,er,ev,mo,mr,mv,P,rfl,rfl,hOo,hOr,hOv⟩:=hQ;have oo:=hOo.o1;have or:=hOr.o1;have ov:=hOv.o1;have hR:=hR.up l13';have hF:=hF.up l13';have hS8:=hS8.le l13';refine Qm Y (Qm Y (Qm Y (Qm Y (Qm Y (Cx [.w 0,.w 0,.w 0,.nl] Y A4 Y Y (λg12=>Cx [.w 0,.w 0,.w 0,.nl] Y A4 Y Y (λg13=>Qm Y ?_)))))));refine Sa 1 [_,_,_,_] A4 Y (by simp[o1,o2,o3,oC,oF_,oo,or,ov]) ?_;refine Sa 0 [_,_,_,_] A4 Y (by simp[o1,o2,o3,oC,oF_,oo,or,ov]) ?_;refine Qm Y (BM (Qx (oG Y CS A8 (Seg.any hS8)) Y (Qm Y (Qm Y (Qc call16 Y (NV A F vC rF p h13 hK hR hF VF hnd qF_.bI qF_.chk qF_.mon hP ω) (λrp h14 ms14 l14 hQ=>?_))))));obtain⟨l14',S1,R1,V1,vb,mb,P1,rfl,rfl,hOb⟩:=hQ;have ob:=hOb.o1;have l6e:=AE l13' l14';have hR:=hR.up l14';have hF:=hF.up l14';have hS8:=hS8.le l14';have H0:PerH p F A S R V:=⟨P,hP,hG,qF_.mon⟩
 have hSn:S.length<=80:=by have:=P.perm.length_eq;rw[af,Dg]at this;omega
 have hlo:(Ev S).length=S.length:=by unfold Ev;simp
 generalize Ev S=O at *;have hmx:(0:Int)<max (O.length:Int) 1/\max (O.length:Int) 1<=80:=ω
 obtain⟨i,hi⟩:∃i:Nat,q1%(max (O.length:Int) 1)=i:=⟨(q1%(max (O.length:Int) 1)).toNat,by have:=co q1 (show(max (O.length:Int) 1)≠0 by omega);omega⟩
 obtain⟨j,hj⟩:∃j:Nat,q2%(max (O.length:Int) 1)=j:=⟨(q2%(max (O.length:Int) 1)).toNat,by have:=co q2 (show(max (O.length:Int) 1)≠0 by omega);omega⟩
 have hi1:(i:Int)<max (O.length:Int) 1:=by rw[<-hi];exact bw _ hmx.1
 have hj1:(j:Int)<max (O.length:Int) 1:=by rw[<-hj];exact bw _ hmx.1
 have hmi:=D0 q1 (max (O.length:Int) 1) hq1 ⟨ω,ω⟩ h14;have hmj:=D0 q2 (max (O.length:Int) 1) hq2 ⟨ω,ω⟩ h14;rw[hi]at hmi;rw[hj]at hmj;have hm9:=D0 q0 9 hq0 δ h14;generalize q0%9=z9 at hm9;have rRr:=H0.rtR (ω:S.length<=400);have rRv:=H0.rtV (ω:S.length<=400);change OwnL cI 1 3 mr er (BV S.length S.length (EX R)) at hOr;change OwnL cI 1 3 mv ev (BV S.length S.length (EX V)) at hOv;have iP:BS p:=⟨ω,ω⟩
 have hdb:∀b∈Do (CN (Bn F)) S1 (DD S1 R1) S1.length,-2000000000<=b.death/\b.death<=2000000000:=λb hb=>by
  obtain⟨a,_,ha⟩:=List.mem_flatMap.1 hb;unfold GV at ha;split at ha<;>split at ha
  ·rw[ao.1 ha];exact qF_.bI _
  ·exact jt ha σ
  ·rw[ao.1 ha];simp
  ·exact jt ha σ
 have nB:(Do (CN (Bn F)) S1 (DD S1 R1) S1.length).length<=80:=by have:=Jc (CN (Bn F)) S1 (DD S1 R1) S1.length;have:=P1.perm.length_eq;rw[af,Dg]at this;omega
 generalize Do (CN (Bn F)) S1 (DD S1 R1) S1.length=BB at *;have lmm:∀f:Nat->Nat->Int,(BV S.length S.length f).length=S.length*S.length:=λf=>BO _ _ _;have okR:(⟨p,S.length,S.length,BV S.length S.length (EX R)⟩:FM).Ok:=rRr.ok;have okV:(⟨p,S.length,S.length,BV S.length S.length (EX V)⟩:FM).Ok:=rRv.ok;refine Qm Y (Qm Y (Qm Y (Qm Y (Qm Y (BM (Qx (Ci 1 Y Y3 A0 Y Y Y ω) Y (Ql Y U3 (c51 _ l6e _) (Qm Y (Qx (As (hOo.rd (h:=h14) (List.Mem.tail _ (List.Mem.tail _ (List.Mem.tail _ Mh)))).rd Y AN Y) Y (Qx (GU Y Y Y) Y (Qx (AH Y call34 Y (hmi _)) Y (Qm Y (BM (Qx (Ci 2 Y Y3 A0 Y Y Y ω) Y (Ql Y U3 (c52 _ l6e _) (Qm Y (Qx (As (hOo.rd (h:=h14) (List.Mem.tail _ (List.Mem.tail _ (List.Mem.tail _ Mh)))).rd Y AN Y) Y (Qx (GU Y Y Y) Y (Qx (AH Y call34 Y (hmj _)) Y (Qm Y (Am ?_)))))))))))))))))))));refine Bg (λsl h' ms'=>∃(p' a1 a2 a3 b1 b2 b3:Int) (o' me ne:List Int) (B:List Br) (vo' er' ev' vb':Value),sl=[(7,.bool true),(8,.pt g8),(9,rF),(10,.w p'),(11,vo'),(12,.pt g12),(13,.pt g13),(15,vb')]/\h14.le h'/\ms'=[]/\Seg h' [] ⟨g12,0,none⟩ [.w a1,.w a2,.w a3,er']/\Seg h' [] ⟨g13,0,none⟩ [.w b1,.w b2,.w b3,ev']/\RdL cI 1 h' [] vo' o'/\RdL cI 1 h' [] er' me/\RdL cI 1 h' [] ev' ne/\RdL IJ 6 h' [] vb' B/\(⟨a1,a2,a3,me⟩:FM).Ok/\(⟨b1,b2,b3,ne⟩:FM).Ok/\BS p') ?_ (λs h ms hI=>?_)
 ·refine Ac (Ab (Qx (Ci 0 Y Y3 A0 Y Y Y ω) Y (Ql Y U3 (c50 _ l6e _) (Qx (AH Y call34 Y (hm9 _)) Y (Am (Ag (Aq (Qm Y (Qm Y (Am ?_))))))))));refine Ao Y (λz0=>?_) (λz0=>?_)
  ·refine Ac (Ab (Qm Y (Qx (As (hOo.rd (h:=h14) (List.Mem.tail _ (List.Mem.tail _ (List.Mem.tail _ Mh)))).rd Y AN Y) Y (Qm Y (Am ?_)))));refine Ao Y (λhn=>?_) (λhn=>?_)
   ·refine A9 hOb λk1 j1 fB=>(Ax λk2 j2 f13=>(Ax λk3 j3 f12=>?_))
    have z23:=AE j2 j3;have z13:=AE j1 z23;refine BY 1 hOv Y λk4 j4 fV=>(BY 1 hOr Y λk5 j5 fR=>?_)
    have z45:=AE j4 j5;have z35:=AE j3 z45;have z25:=AE j2 z35;have hi2:i<O.length:=ω
    have hj2:j<O.length:=ω
    have q1c:∀{x:Nat} (hx:x<O.length),Cell k5 [mo] ((AG vo).add (x*1)) (.w O[x]):=λhx=>(hOo.rd (h:=k5) (ms:=[mo]) Mh).cell0 hx Y;refine BK (n:=16) (bs:=[true,true,true,true,true,true,true,false,true,true,true,false,true,false,true,false]) [true,true,true,true,true,true,true,false,true,true,true,false,true,false,true] CT κ κ Y Y (Qq Y (Qq Y (Qq Y (Qq Y (Qq Y (Qq Y (Qp Y (Bk (j) (hOo.rd (h:=k5) (ms:=[mo]) Mh).rd Y AN A0 Y Y ω ω) (Qq Y (Qq Y (Qp Y (Bk (i) (hOo.rd (h:=k5) (ms:=[mo]) Mh).rd Y AN A0 Y Y ω ω) (Qp Y (Bk (i) (hOo.rd (h:=k5) (ms:=[mo]) Mh).rd Y AN A0 Y Y ω ω) (Qp Y (Bk (j) (hOo.rd (h:=k5) (ms:=[mo]) Mh).rd Y AN A0 Y Y ω ω) ?_))))))))))));unfold Fm;simp only[bl,ay];refine Bf [7,11] κ Y ?_;refine AD Y ?_ ?_
    ·refine Ql Y U3 (q1c hj2) (Qw (Qo 11 Y (Ql Y U3 (q1c hi2) (Qw (Qo 13 Y (BQ 0 i hOo Y A0 Y Y Y ω Y Y (λm1 O1=>Qw (Qo 15 Y ?_))))))));refine BQ 0 j O1 Y A0 Y Y Y (by rw[List.length_set];omega) rfl rfl (λm2 O2=>?_);refine Qw (Qe (AV O2 λk6 j6 fO=>?_));exact Ai (Az _ ⟨_,_,_,_,_,_,_,_,_,_,_,_,_,_,_,Y,AE j1 (AE z25 j6),Y,f12.le (AE z45 j6),f13.le (AE z35 j6),fO,fR.up j6,fV.up (AE j5 j6),fB.up (AE z25 j6),okR,okV,iP⟩ Qs)
    refine AD Y ?_ ?_
    ·refine Ql Y U3 (q1c hi2) (Qw (Qo 7 Y (Ql Y U3 (q1c hj2) (Qw (Qo 13 Y (BQ 0 i hOo Y A0 Y Y Y ω Y Y (λm1 O1=>Qw (Qo 15 Y ?_))))))));refine BQ 0 j O1 Y A0 Y Y Y (by rw[List.length_set];omega) rfl rfl (λm2 O2=>?_);refine Qw (Qe (AV O2 λk6 j6 fO=>?_));exact Ai (Az _ ⟨_,_,_,_,_,_,_,_,_,_,_,_,_,_,_,Y,AE j1 (AE z25 j6),Y,f12.le (AE z45 j6),f13.le (AE z35 j6),fO,fR.up j6,fV.up (AE j5 j6),fB.up (AE z25 j6),okR,okV,iP⟩ Qs)
    exact Be
   ·refine Ah (Ai (AV hOb λk1 j1 fB=>(Bo λk2 j2 f13=>(Bo λk3 j3 f12=>(AV hOo λk4 j4 fO=>(AV hOv λk5 j5 fV=>(AV hOr λk6 j6 fR=>?_)))))));have z56:=AE j5 j6;have z46:=AE j4 z56;have z36:=AE j3 z46;have z26:=AE j2 z36;exact Az _ ⟨_,_,_,_,_,_,_,_,_,_,_,_,_,_,_,Y,AE j1 z26,Y,f12.le z46,f13.le z36,fO.up z56,fR,fV.up j6,fB.up z26,okR,okV,iP⟩ Qs
  ·refine Ac (Ab (Qm Y (Qm Y (Am ?_))));refine Ao Y (λz1=>?_) (λz1=>?_)
   ·refine Ac (Ab (Qf Bl Y (Ql Y AN (Cell.blk 2 Y Y) (Qx (As (hOr.rd (h:=h14) (List.Mem.tail _ (List.Mem.tail _ (List.Mem.tail _ (List.Mem.tail _ (List.Mem.tail _ Mh)))))).rd Y AN Y) Y (Qm Y (Am ?_))))));refine Ao Y (λhn=>?_) (λhn=>?_)
    ·have hn0:0<S.length:=by
      rcases d8 S.length with h|h
      ·rw[lmm,h]at hn;simp at hn
      ·exact h
     have hi2:i<S.length:=ω
     have hj2:j<S.length:=ω
     have hix:=Ds hi2 hj2;have hci:(((i*S.length+j:Nat)):Int)=(i:Int)*(O.length:Int)+j:=by rw[gj,da,hlo]
     have hk0:0<=(i:Int)*(O.length:Int):=dt ω ω;have hnn:S.length*S.length<=6400:=by have:=dh hSn hSn;omega
     have hen:=rRr.en i hi2 j hj2;have hl2:=lmm (EX R);refine A9 hOb λk1 j1 fB=>(Ax λk2 j2 f13=>(Ax λk3 j3 f12=>?_))
     have z23:=AE j2 j3;have z13:=AE j1 z23;refine A9 hOo λk4 j4 fO=>(A9 hOv λk5 j5 fV=>?_)
     have z45:=AE j4 j5;have z35:=AE j3 z45;have z25:=AE j2 z35;have g12c:∀ms,Cell k5 ms (⟨g12,3,none⟩:Addr) er:=λms=>(Seg.all f12 3 _ Y ms).le z45;have qc:Cell k5 [mr] ((AG er).add ((i*S.length+j)*1)) (.w (EX R i j)):=(hOr.rd (h:=k5) (ms:=[mr]) Mh).ent hi2 hj2;refine BK (n:=23) (bs:=[true,true,true,true,true,true,true,true,true,true,true,true,true,true,true,true,true,false,false,true,false,true,false]) [true,true,true,true,true,true,true,true,true,true,true,true,true,true,true,true,true,false,false,true,false,true] CT κ κ Y Y (QF Bl Y (QL Y AN (g12c _) (Qq Y (Qq Y (Qp Y (As (fO.up j5).rd.any Y AN Y) (Qp Y (oM Y) (Qq Y (Qp Y (oA Y) (QF Bl Y (QL Y AN (g12c _) (Qq Y (Qq Y (Qp Y (As (fO.up j5).rd.any Y AN Y) (Qp Y (oM Y) (Qq Y (Qp Y (oA Y) (Qp Y (Bk ((i*S.length+j)) (hOr.rd (h:=k5) (ms:=[mr]) Mh).rd Y AN A0 Y Y ω ω) (Qq Y (Qp Y (Bk ((i*S.length+j)) (hOr.rd (h:=k5) (ms:=[mr]) Mh).rd Y AN A0 Y Y ω ω) ?_)))))))))))))))))));unfold Fm;simp only[bl,ay];refine Qo 17 Y (Ql Y U3 qc (Qw (Bd 18 105 κ Y (Da) Y (oA Y) (Bd 20 107 κ Y (Da) Y (BH Y Y Y ω ω) (Qo 22 Y (BQ 0 (i*S.length+j) hOr Y A0 Y Y Y ω Y Y (λm1 O1=>Qw (Qe (AV O1 λk6 j6 fR=>?_)))))))));exact Ai (Az _ ⟨_,_,_,_,_,_,_,_,_,_,_,_,_,_,_,Y,AE j1 (AE z25 j6),Y,f12.le (AE z45 j6),f13.le (AE z35 j6),fO.up (AE j5 j6),fR,fV.up j6,fB.up (AE z25 j6),⟨okR.p,okR.r,okR.c⟩,okV,iP⟩ Qs)
    ·refine Ah (Ai (AV hOb λk1 j1 fB=>(Bo λk2 j2 f13=>(Bo λk3 j3 f12=>(AV hOo λk4 j4 fO=>(AV hOv λk5 j5 fV=>(AV hOr λk6 j6 fR=>?_)))))));have z56:=AE j5 j6;have z46:=AE j4 z56;have z36:=AE j3 z46;have z26:=AE j2 z36;exact Az _ ⟨_,_,_,_,_,_,_,_,_,_,_,_,_,_,_,Y,AE j1 z26,Y,f12.le z46,f13.le z36,fO.up z56,fR,fV.up j6,fB.up z26,okR,okV,iP⟩ Qs
   ·refine Ac (Ab (Qm Y (Qm Y (Am ?_))));refine Ao Y (λz2=>?_) (λz2=>?_)
    ·refine Ac (Ab (Qf Bl Y (Ql Y AN (Cell.blk 1 Y Y) (Qx (As (hOv.rd (h:=h14) (List.Mem.tail _ (List.Mem.tail _ (List.Mem.tail _ (List.Mem.tail _ Mh))))).rd Y AN Y) Y (Qm Y (Am ?_))))));refine Ao Y (λhn=>?_) (λhn=>?_)
     ·have hn0:0<S.length:=by
       rcases d8 S.length with h|h
       ·rw[lmm,h]at hn;simp at hn
       ·exact h
      have hi2:i<S.length:=ω
      have hj2:j<S.length:=ω
      have hix:=Ds hi2 hj2;have hci:(((i*S.length+j:Nat)):Int)=(i:Int)*(O.length:Int)+j:=by rw[gj,da,hlo]
      have hk0:0<=(i:Int)*(O.length:Int):=dt ω ω;have hnn:S.length*S.length<=6400:=by have:=dh hSn hSn;omega
      have hen:=rRv.en i hi2 j hj2;have hl2:=lmm (EX V);refine A9 hOb λk1 j1 fB=>(Ax λk2 j2 f13=>(Ax λk3 j3 f12=>?_))
      have z23:=AE j2 j3;have z13:=AE j1 z23;refine A9 hOo λk4 j4 fO=>(BY 1 hOr Y λk5 j5 fR=>?_)
      have z45:=AE j4 j5;have z35:=AE j3 z45;have z25:=AE j2 z35;have g13c:∀ms,Cell k5 ms (⟨g13,3,none⟩:Addr) ev:=λms=>(Seg.all f13 3 _ Y ms).le z35;have qc:Cell k5 [mv] ((AG ev).add ((i*S.length+j)*1)) (.w (EX V i j)):=(hOv.rd (h:=k5) (ms:=[mv]) Mh).ent hi2 hj2;refine BK (n:=23) (bs:=[true,true,true,true,true,true,true,true,true,true,true,true,true,true,true,true,true,false,false,true,false,true,false]) [true,true,true,true,true,true,true,true,true,true,true,true,true,true,true,true,true,false,false,true,false,true] CT κ κ Y Y (QF Bl Y (QL Y AN (g13c _) (Qq Y (Qq Y (Qp Y (As (fO.up j5).rd.any Y AN Y) (Qp Y (oM Y) (Qq Y (Qp Y (oA Y) (QF Bl Y (QL Y AN (g13c _) (Qq Y (Qq Y (Qp Y (As (fO.up j5).rd.any Y AN Y) (Qp Y (oM Y) (Qq Y (Qp Y (oA Y) (Qp Y (Bk ((i*S.length+j)) (hOv.rd (h:=k5) (ms:=[mv]) Mh).rd Y AN A0 Y Y ω ω) (Qq Y (Qp Y (Bk ((i*S.length+j)) (hOv.rd (h:=k5) (ms:=[mv]) Mh).rd Y AN A0 Y Y ω ω) ?_)))))))))))))))))));unfold Fm;simp only[bl,ay];refine Qo 17 Y (Ql Y U3 qc (Qw (Bd 18 133 κ Y (Da) Y (oA Y) (Bd 20 135 κ Y (Da) Y (BH Y Y Y ω ω) (Qo 22 Y (BQ 0 (i*S.length+j) hOv Y A0 Y Y Y ω Y Y (λm1 O1=>Qw (Qe (AV O1 λk6 j6 fV=>?_)))))))));exact Ai (Az _ ⟨_,_,_,_,_,_,_,_,_,_,_,_,_,_,_,Y,AE j1 (AE z25 j6),Y,f12.le (AE z45 j6),f13.le (AE z35 j6),fO.up (AE j5 j6),fR.up j6,fV,fB.up (AE z25 j6),okR,⟨okV.p,okV.r,okV.c⟩,iP⟩ Qs)
     ·refine Ah (Ai (AV hOb λk1 j1 fB=>(Bo λk2 j2 f13=>(Bo λk3 j3 f12=>(AV hOo λk4 j4 fO=>(AV hOv λk5 j5 fV=>(AV hOr λk6 j6 fR=>?_)))))));have z56:=AE j5 j6;have z46:=AE j4 z56;have z36:=AE j3 z46;have z26:=AE j2 z36;exact Az _ ⟨_,_,_,_,_,_,_,_,_,_,_,_,_,_,_,Y,AE j1 z26,Y,f12.le z46,f13.le z36,fO.up z56,fR,fV.up j6,fB.up z26,okR,okV,iP⟩ Qs
    ·refine Ac (Ab (Qm Y (Qm Y (Am ?_))));refine Ao Y (λz3=>?_) (λz3=>?_)
     ·refine Ac (Ab (Qm Y (Qx (As (hOb.rd (h:=h14) Mh).rd Y Ku Y) Y (Qm Y (Am ?_)))));refine Ao Y (λhn=>?_) (λhn=>?_)
      ·have hn1:1<=BB.length:=ω
       refine Ab (Qm Y (Qx (C3 (1) (hOb.rd (h:=h14) Mh).rd Y Ku D6 Y Y ω ω) Y (Qm Y (Ak (Ai (AV hOb λk1 j1 fB=>(Bo λk2 j2 f13=>(Bo λk3 j3 f12=>(AV hOo λk4 j4 fO=>(AV hOv λk5 j5 fV=>(AV hOr λk6 j6 fR=>?_)))))))))));have z56:=AE j5 j6;have z46:=AE j4 z56;have z36:=AE j3 z46;have z26:=AE j2 z36;exact Az _ ⟨_,_,_,_,_,_,_,_,_,_,_,_,_,_,_,Y,AE j1 z26,Y,f12.le z46,f13.le z36,fO.up z56,fR,fV.up j6,(fB.up z26).sub_ hn1 (au _),okR,okV,iP⟩ Qs
      ·refine Ah (Ai (AV hOb λk1 j1 fB=>(Bo λk2 j2 f13=>(Bo λk3 j3 f12=>(AV hOo λk4 j4 fO=>(AV hOv λk5 j5 fV=>(AV hOr λk6 j6 fR=>?_)))))));have z56:=AE j5 j6;have z46:=AE j4 z56;have z36:=AE j3 z46;have z26:=AE j2 z36;exact Az _ ⟨_,_,_,_,_,_,_,_,_,_,_,_,_,_,_,Y,AE j1 z26,Y,f12.le z46,f13.le z36,fO.up z56,fR,fV.up j6,fB.up z26,okR,okV,iP⟩ Qs
     ·refine Ac (Ab (Qm Y (Qm Y (Am ?_))));refine Ao Y (λz4=>?_) (λz4=>?_)
      ·refine Ac (Ab (Qm Y (Qx (As (hOb.rd (h:=h14) Mh).rd Y Ku Y) Y (Qm Y (Am ?_)))));refine Ao Y (λhn=>?_) (λhn=>?_)
       ·have hn1:0<BB.length:=ω
        refine Bj 1 Y λk1 j1 f13=>(Bj 1 Y λk2 j2 f12=>(BY 1 hOo Y λk3 j3 fO=>(BY 1 hOv Y λk4 j4 fV=>(BY 1 hOr Y λk5 j5 fR=>?_))))
        have z45:=AE j4 j5;have z35:=AE j3 z45;have z25:=AE j2 z35;obtain⟨w,hw⟩:∃w:Nat,(i:Int)%(BB.length:Int)=w:=⟨((i:Int)%(BB.length:Int)).toNat,by have:=co (i:Int) (show(BB.length:Int)≠0 by omega);omega⟩
        have hwl:w<BB.length:=by have:=bw (i:Int) (show(0:Int)<BB.length by omega);omega
        have hdw:=hdb BB[w] (List.getElem_mem hwl);have qc:Cell k5 [mb] (((AG vb).add (w*6)).add 2) (.w BB[w].death):=((hOb.rd (h:=k5) (ms:=[mb]) Mh).seg hwl) 2 _ Y;refine Ab (Qm Y (Qm Y (Qm Y (Qx (As (hOb.rd (h:=k5) (ms:=[mb]) Mh).rd Y Ku Y) Y (Qx (BW (BH Y Y Y ω ω) (aw (Value.int .i64) hw)) Y (Qx (AA (w) (hOb.rd (h:=k5) (ms:=[mb]) Mh).rd Y Ku D6 Y Y ω ω) Y (Qf JP Y (Ql Y U3 (qc) (Qx (oA Y) Y (Qx (AA (w) (hOb.rd (h:=k5) (ms:=[mb]) Mh).rd Y Ku D6 Y Y ω ω) Y (Qf JP Y ?_)))))))))));refine IM 0 w 2 ⟨BB[w].dim,BB[w].birth,BB[w].death+1,BB[w].opn,BB[w].low,BB[w].high⟩ [.w (BB[w].death+1)] hOb Y A0 Y Y Y Y (λc hc=>by rw[ao.1 hc];rfl) rfl hwl δ rfl rfl rfl (λm6 hO6=>?_);refine Ak (Ai (AV hO6 λk6 j6 fB=>?_));exact Az _ ⟨_,_,_,_,_,_,_,_,_,_,_,_,_,_,_,Y,AE j1 (AE z25 j6),Y,f12.le (AE z35 j6),f13.le (AE z25 j6),fO.up (AE z45 j6),fR.up j6,fV.up (AE j5 j6),fB,okR,okV,iP⟩ Qs
       ·refine Ah (Ai (AV hOb λk1 j1 fB=>(Bo λk2 j2 f13=>(Bo λk3 j3 f12=>(AV hOo λk4 j4 fO=>(AV hOv λk5 j5 fV=>(AV hOr λk6 j6 fR=>?_)))))));have z56:=AE j5 j6;have z46:=AE j4 z56;have z36:=AE j3 z46;have z26:=AE j2 z36;exact Az _ ⟨_,_,_,_,_,_,_,_,_,_,_,_,_,_,_,Y,AE j1 z26,Y,f12.le z46,f13.le z36,fO.up z56,fR,fV.up j6,fB.up z26,okR,okV,iP⟩ Qs
      ·refine Ac (Ab (Qm Y (Qm Y (Am ?_))));refine Ao Y (λz5=>?_) (λz5=>?_)
       ·refine A9 hOb λk1 j1 fB=>(Ax λk2 j2 f13=>(BY 1 hOo Y λk3 j3 fO=>(BY 1 hOv Y λk4 j4 fV=>(BY 1 hOr Y λk5 j5 fR=>?_))))
        have z45:=AE j4 j5;have z35:=AE j3 z45;have z25:=AE j2 z35;have z15:=AE j1 z25;have hnn:S.length*S.length<=6400:=by have:=dh hSn hSn;omega
        refine Ab (Qx (oG Y Dr A4 (Seg.blk 0 Y)) Y (Qx (Ci 1 Y Y3 A0 Y Y Y ω) Y (Ql Y U3 (c51 _ (AE l6e z15) _) (Qx (Ci 2 Y Y3 A0 Y Y Y ω) Y (Ql Y U3 (c52 _ (AE l6e z15) _) (Qx (MH [.w 0,.w 0] [(0,[_]),(1,[_])] [_,_] Y U70 Ab0 Y A0 Y Qt Y) Y ?_))))));refine Qc call35 Y (MN p S.length S.length (BV S.length S.length (EX R)) er q1 q2 k5 ⟨hp0,hp9⟩ ω ω (by rw[lmm];omega) fR hq1 hq2) (λrbt h15 ms15 l15 hQ=>?_);obtain⟨l15',p',r',c',e',v',m',rfl,rfl,hOm,okm⟩:=hQ;obtain⟨a',c6',rfl,_⟩:=(hOm.rd (h:=h15) (ms:=[m']) Mh).rd.ex;refine Sa 1 [_,_,_,_] A4 Y (by simp[Value.oneCell']) ?_;refine Ak (Ai (AV hOm λk6 j6 fR2=>(Bo λk7 j7 f12=>?_)));have z57:=AE l15' (AE j6 j7);exact Az _ ⟨_,_,_,_,_,_,_,_,_,_,_,_,_,_,_,Y,AE z15 z57,Y,f12,f13.le (AE z35 z57),fO.up (AE z45 z57),fR2.up j7,fV.up (AE j5 z57),fB.up (AE z25 z57),okm,okV,iP⟩ Qs
       ·refine Ac (Ab (Qm Y (Qm Y (Am ?_))));refine Ao Y (λz6=>?_) (λz6=>?_)
        ·refine A9 hOb λk1 j1 fB=>(Bj 1 Y λk2 j2 f12=>(BY 1 hOo Y λk3 j3 fO=>(BY 1 hOv Y λk4 j4 fV=>(BY 1 hOr Y λk5 j5 fR=>?_))))
         have z45:=AE j4 j5;have z35:=AE j3 z45;have z25:=AE j2 z35;have z15:=AE j1 z25;have hnn:S.length*S.length<=6400:=by have:=dh hSn hSn;omega
         refine Ab (Qx (oG Y Dr A4 (Seg.blk 0 Y)) Y (Qx (Ci 1 Y Y3 A0 Y Y Y ω) Y (Ql Y U3 (c51 _ (AE l6e z15) _) (Qx (Ci 2 Y Y3 A0 Y Y Y ω) Y (Ql Y U3 (c52 _ (AE l6e z15) _) (Qx (MH [.w 0,.w 0] [(0,[_]),(1,[_])] [_,_] Y U70 Ab0 Y A0 Y Qt Y) Y ?_))))));refine Qc call35 Y (MN p S.length S.length (BV S.length S.length (EX V)) ev q1 q2 k5 ⟨hp0,hp9⟩ ω ω (by rw[lmm];omega) (fV.up j5) hq1 hq2) (λrbt h15 ms15 l15 hQ=>?_);obtain⟨l15',p',r',c',e',v',m',rfl,rfl,hOm,okm⟩:=hQ;obtain⟨a',c6',rfl,_⟩:=(hOm.rd (h:=h15) (ms:=[m']) Mh).rd.ex;refine Sa 1 [_,_,_,_] A4 Y (by simp[Value.oneCell']) ?_;refine Ak (Ai (AV hOm λk6 j6 fV2=>(Bo λk7 j7 f13=>?_)));have z57:=AE l15' (AE j6 j7);exact Az _ ⟨_,_,_,_,_,_,_,_,_,_,_,_,_,_,_,Y,AE z15 z57,Y,f12.le (AE z35 z57),f13,fO.up (AE z45 z57),fR.up z57,fV2.up j7,fB.up (AE z25 z57),okR,okm,iP⟩ Qs
        ·refine Ac (Ab (Qm Y (Qm Y (Am ?_))));refine Ao Y (λz7=>?_) (λz7=>?_)
         ·refine Ac (Ab (Qm Y (Qm Y (Qm Y (Am ?_)))));refine Ao Y (λhij=>?_) (λhij=>?_)
          ·refine A9 hOb λk1 j1 fB=>(Ax λk2 j2 f13=>(Ax λk3 j3 f12=>?_))
           have z23:=AE j2 j3;have z13:=AE j1 z23;refine A9 hOo λk4 j4 fO=>?_;have z34:=AE j3 j4;have z24:=AE j2 z34;have hn0:0<S.length:=ω
           have hi2:i<S.length:=ω
           have hj2:j<S.length:=ω
           have hnn:S.length*S.length<=6400:=by have:=dh hSn hSn;omega
           have g12c:∀ms,Cell k4 ms (⟨g12,3,none⟩:Addr) er:=λms=>(Seg.all f12 3 _ Y ms).le j4;have g13c:∀ms,Cell k4 ms (⟨g13,3,none⟩:Addr) ev:=λms=>(Seg.all f13 3 _ Y ms).le z34;refine Aq (Qm Y (Qx (As fO.rd.any Y AN Y) Y (Qm Y (BM (Qm Y (Am (Ag ?_)))))))
           refine Ay (λq sl h' ms'=>∃(k:Nat) (f g:Nat->Nat->Int) (mv mr:Hp),q=S.length-k/\sl=[(7,.bool true),(8,.pt g8),(9,rF),(10,.w p),(11,vo),(12,.pt g12),(13,.pt g13),(15,vb),(17,.w i),(18,.w j),(19,.w O.length),(20,.w k)]/\k4=h'/\ms'=[mv,mr]/\k<=S.length/\OwnL cI 1 3 mv ev (BV S.length S.length g)/\OwnL cI 1 3 mr er (BV S.length S.length f)/\InP p S.length S.length f/\InP p S.length S.length g)
            (S.length-0) _ ⟨0,_,_,mv,mr,rfl,rfl,rfl,rfl,ω,hOv,hOr,rRr.en,rRv.en⟩ Qs ?_
           rintro q sl h' ms' ⟨k,f,g,mv,mr,rfl,rfl,rfl,rfl,hk,hOv,hOr,inf,ing⟩;refine Ac (Aq (Qm Y (Qm Y (Qm Y (Am ?_)))));refine Ao Y (λhkl=>?_) (λhkl=>?_)
           ·have hkn:k<S.length:=ω
            have hix:=Ds hkn hj2;have hix2:=Ds hkn hi2;have hcj:(((k*S.length+j:Nat)):Int)=(k:Int)*(O.length:Int)+j:=by rw[gj,da,hlo]
            have hci:(((k*S.length+i:Nat)):Int)=(k:Int)*(O.length:Int)+i:=by rw[gj,da,hlo]
            have hk0:0<=(k:Int)*(O.length:Int):=dt ω ω;have hlf:=lmm f;have hlg:=lmm g;have b1:=inf k hkn j hj2;have b2:=inf k hkn i hi2;have b3:=ing k hkn j hj2;have b4:=ing k hkn i hi2;refine Ah (Ad ?_);refine Bg (λsl h' ms'=>∃(mv mr:Hp),sl=[(7,.bool true),(8,.pt g8),(9,rF),(10,.w p),(11,vo),(12,.pt g12),(13,.pt g13),(15,vb),(17,.w i),(18,.w j),(19,.w O.length),(20,.w k)]/\k4=h'/\ms'=[mv,mr]/\OwnL cI 1 3 mr er (BV S.length S.length (Fe f k j ((f k j+f k i)%p)))/\OwnL cI 1 3 mv ev (BV S.length S.length (Fe g k j ((g k j+g k i)%p)))) ?_ (λs h ms hI=>?_)
            ·refine Ag ?_;refine Bg (λsl h' ms'=>∃(mr:Hp),sl=[(7,.bool true),(8,.pt g8),(9,rF),(10,.w p),(11,vo),(12,.pt g12),(13,.pt g13),(15,vb),(17,.w i),(18,.w j),(19,.w O.length),(20,.w k)]/\k4=h'/\ms'=[mv,mr]/\OwnL cI 1 3 mr er (BV S.length S.length (Fe f k j ((f k j+f k i)%p)))) ?_ (λs h ms hI=>?_)
             ·have qa:Cell k4 [mv,mr] ((AG er).add ((k*S.length+j)*1)) (.w (f k j)):=(hOr.rd (h:=k4) (ms:=[mv,mr]) (List.Mem.tail _ Mh)).ent hkn hj2;have qb:Cell k4 [mv,mr] ((AG er).add ((k*S.length+i)*1)) (.w (f k i)):=(hOr.rd (h:=k4) (ms:=[mv,mr]) (List.Mem.tail _ Mh)).ent hkn hi2;refine BK (n:=30) (bs:=[true,true,true,true,true,true,true,true,true,true,true,true,true,true,true,false,true,true,true,true,true,true,true,true,false,false,true,false,true,false]) [true,true,true,true,true,true,true,true,true,true,true,true,true,true,true,false,true,true,true,true,true,true,true,true,false,false,true,false,true] CT κ κ Y Y (QF Bl Y (QL Y AN (g12c _) (Qq Y (Qq Y (Qp Y (oM Y) (Qq Y (Qp Y (oA Y) (QF Bl Y (QL Y AN (g12c _) (Qq Y (Qq Y (Qp Y (oM Y) (Qq Y (Qp Y (oA Y) (Qp Y (Bk ((k*S.length+j)) (hOr.rd (h:=k4) (ms:=[mv,mr]) (List.Mem.tail _ Mh)).rd Y AN A0 Y Y ω ω) (QF Bl Y (QL Y AN (g12c _) (Qq Y (Qq Y (Qp Y (oM Y) (Qq Y (Qp Y (oA Y) (Qp Y (Bk ((k*S.length+i)) (hOr.rd (h:=k4) (ms:=[mv,mr]) (List.Mem.tail _ Mh)).rd Y AN A0 Y Y ω ω) (Qq Y (Qp Y (Bk ((k*S.length+j)) (hOr.rd (h:=k4) (ms:=[mv,mr]) (List.Mem.tail _ Mh)).rd Y AN A0 Y Y ω ω) ?_)))))))))))))))))))))))));unfold Fm;simp only[bl,ay];refine Bf [15,24] κ Y ?_;refine AD Y ?_ ?_
              ·refine Ql Y U3 qa (Qw (Qo 24 Y (Ql Y U3 qb (Qw (Bd 25 215 κ Y (Da) Y (oA Y) (Bd 27 217 κ Y (Da) Y (BH Y Y Y ω ω) (Qo 29 Y (BQ 1 (k*S.length+j) hOr Y A0 Y Y Y ω Y Y (λm1 O1=>Qw (Qe ?_))))))))));exact Az _ ⟨m1,Y,Y,Y,by rw[DZ _ hj2]at O1;exact O1⟩ Qs
              refine AD Y ?_ ?_
              ·refine Ql Y U3 qb (Qw (Qo 15 Y (Ql Y U3 qa (Qw (Bd 25 215 κ Y (Da) Y (oA Y) (Bd 27 217 κ Y (Da) Y (BH Y Y Y ω ω) (Qo 29 Y (BQ 1 (k*S.length+j) hOr Y A0 Y Y Y ω Y Y (λm1 O1=>Qw (Qe ?_))))))))));exact Az _ ⟨m1,Y,Y,Y,by rw[DZ _ hj2]at O1;exact O1⟩ Qs
              exact Be
             ·obtain⟨mr,rfl,rfl,rfl,hOr⟩:=hI;have qa:Cell k4 [mv,mr] ((AG ev).add ((k*S.length+j)*1)) (.w (g k j)):=(hOv.rd (h:=k4) (ms:=[mv,mr]) Mh).ent hkn hj2;have qb:Cell k4 [mv,mr] ((AG ev).add ((k*S.length+i)*1)) (.w (g k i)):=(hOv.rd (h:=k4) (ms:=[mv,mr]) Mh).ent hkn hi2;refine BK (n:=30) (bs:=[true,true,true,true,true,true,true,true,true,true,true,true,true,true,true,false,true,true,true,true,true,true,true,true,false,false,true,false,true,false]) [true,true,true,true,true,true,true,true,true,true,true,true,true,true,true,false,true,true,true,true,true,true,true,true,false,false,true,false,true] CT κ κ Y Y (QF Bl Y (QL Y AN (g13c _) (Qq Y (Qq Y (Qp Y (oM Y) (Qq Y (Qp Y (oA Y) (QF Bl Y (QL Y AN (g13c _) (Qq Y (Qq Y (Qp Y (oM Y) (Qq Y (Qp Y (oA Y) (Qp Y (Bk ((k*S.length+j)) (hOv.rd (h:=k4) (ms:=[mv,mr]) Mh).rd Y AN A0 Y Y ω ω) (QF Bl Y (QL Y AN (g13c _) (Qq Y (Qq Y (Qp Y (oM Y) (Qq Y (Qp Y (oA Y) (Qp Y (Bk ((k*S.length+i)) (hOv.rd (h:=k4) (ms:=[mv,mr]) Mh).rd Y AN A0 Y Y ω ω) (Qq Y (Qp Y (Bk ((k*S.length+j)) (hOv.rd (h:=k4) (ms:=[mv,mr]) Mh).rd Y AN A0 Y Y ω ω) ?_)))))))))))))))))))))))));unfold Fm;simp only[bl,ay];refine Bf [15,24] κ Y ?_;refine AD Y ?_ ?_
              ·refine Ql Y U3 qa (Qw (Qo 24 Y (Ql Y U3 qb (Qw (Bd 25 244 κ Y (Da) Y (oA Y) (Bd 27 246 κ Y (Da) Y (BH Y Y Y ω ω) (Qo 29 Y (BQ 0 (k*S.length+j) hOv Y A0 Y Y Y ω Y Y (λm1 O1=>Qw (Qe ?_))))))))));exact Ai (Az _ ⟨m1,mr,Y,Y,Y,hOr,by rw[DZ _ hj2]at O1;exact O1⟩ Qs)
              refine AD Y ?_ ?_
              ·refine Ql Y U3 qb (Qw (Qo 15 Y (Ql Y U3 qa (Qw (Bd 25 244 κ Y (Da) Y (oA Y) (Bd 27 246 κ Y (Da) Y (BH Y Y Y ω ω) (Qo 29 Y (BQ 0 (k*S.length+j) hOv Y A0 Y Y Y ω Y Y (λm1 O1=>Qw (Qe ?_))))))))));exact Ai (Az _ ⟨m1,mr,Y,Y,Y,hOr,by rw[DZ _ hj2]at O1;exact O1⟩ Qs)
              exact Be
            ·obtain⟨mv,mr,rfl,rfl,rfl,hOr,hOv⟩:=hI;refine Ab (Qm Y (Qx (oA Y) Y (Qm Y (Ak ?_))));refine Al (S.length-(k+1)) _ ω ⟨k+1,_,_,mv,mr,Y,Y,Y,Y,ω,hOv,hOr,λa ha b hb=>?_,λa ha b hb=>?_⟩ Qs
             ·unfold Fe;split
              ·exact⟨co _ ω,bw _ ω⟩
              ·exact inf a ha b hb
             ·unfold Fe;split
              ·exact⟨co _ ω,bw _ ω⟩
              ·exact ing a ha b hb
           ·refine Av (Aa (Aa (Af (Ai (AV hOv λk5 j5 fV=>(AV hOr λk6 j6 fR=>?_))))));have z56:=AE j5 j6;have z26:=AE z24 z56;have z36:=AE z34 z56;exact Az _ ⟨_,_,_,_,_,_,_,_,_,_,_,_,_,_,_,Y,AE j1 z26,Y,f12.le (AE j4 z56),f13.le z36,fO.up z56,fR,fV.up j6,fB.up z26,⟨okR.p,okR.r,okR.c⟩,⟨okV.p,okV.r,okV.c⟩,iP⟩ Qs
          ·refine Ah (Ai (AV hOb λk1 j1 fB=>(Bo λk2 j2 f13=>(Bo λk3 j3 f12=>(AV hOo λk4 j4 fO=>(AV hOv λk5 j5 fV=>(AV hOr λk6 j6 fR=>?_)))))));have z56:=AE j5 j6;have z46:=AE j4 z56;have z36:=AE j3 z46;have z26:=AE j2 z36;exact Az _ ⟨_,_,_,_,_,_,_,_,_,_,_,_,_,_,_,Y,AE j1 z26,Y,f12.le z46,f13.le z36,fO.up z56,fR,fV.up j6,fB.up z26,okR,okV,iP⟩ Qs
         ·refine Ac (Ab (Qm Y (Qm Y (Am ?_))));refine Ao Y (λz8=>?_) (λz8=>?_)
          ·refine Ab (Qx (Ci 1 Y Y3 A0 Y Y Y ω) Y (Ql Y U3 (c51 _ l6e _) (Qm Y (Ak (Ai (AV hOb λk1 j1 fB=>(Bo λk2 j2 f13=>(Bo λk3 j3 f12=>(AV hOo λk4 j4 fO=>(AV hOv λk5 j5 fV=>(AV hOr λk6 j6 fR=>?_)))))))))));have z56:=AE j5 j6;have z46:=AE j4 z56;have z36:=AE j3 z46;have z26:=AE j2 z36;exact Az _ ⟨_,_,_,_,_,_,_,_,_,_,_,_,_,_,_,Y,AE j1 z26,Y,f12.le z46,f13.le z36,fO.up z56,fR,fV.up j6,fB.up z26,okR,okV,hq1⟩ Qs
          ·refine Ah (Ai (AV hOb λk1 j1 fB=>(Bo λk2 j2 f13=>(Bo λk3 j3 f12=>(AV hOo λk4 j4 fO=>(AV hOv λk5 j5 fV=>(AV hOr λk6 j6 fR=>?_)))))));have z56:=AE j5 j6;have z46:=AE j4 z56;have z36:=AE j3 z46;have z26:=AE j2 z36;exact Az _ ⟨_,_,_,_,_,_,_,_,_,_,_,_,_,_,_,Y,AE j1 z26,Y,f12.le z46,f13.le z36,fO.up z56,fR,fV.up j6,fB.up z26,okR,okV,iP⟩ Qs
 ·obtain⟨p',a1,a2,a3,b1,b2,b3,o',me,ne,B,vo',er',ev',vb',rfl,lz,rfl,f12,f13,fO,fR,fV,fB,okM,okN,iP'⟩:=hI;have hR:=hR.up lz;have hF:=hF.up lz;have hS8:=hS8.le lz;have HS:SrtH F A S:=P.srtH hG qF_.mon;have oo:=fO.rd.one;have ob:=fB.rd.one;obtain⟨bb,hbb⟩:=Yx (Xw p' F S o' ⟨a1,a2,a3,me⟩ ⟨b1,b2,b3,ne⟩ B);have kF:=λms=>DW ((Ve A S F vC rF vo' er' ev' vb' p' a1 a2 a3 b1 b2 b3 me ne o' B _ hK hR hF VF qF_.chk ω HS iF iP' okM okN fO fR fV fB).mono λr h' ms' q=>Sk q hbb) ms;have kG:=λms=>DW ((RN A S F vC rF vo' er' ev' vb' p' a1 a2 a3 b1 b2 b3 me ne o' B _ hK hR hF VF hnd qF_.bI qF_.chk ω HS iP' okM okN fO fR fV fB).mono λr h' ms' q=>Sk q hbb) ms;refine Ac (Bc 17 CT κ Y (Wm Y (Wm Y (AJ (oG Y CS A8 (Seg.any hS8)) Y Y Y Y (AJ (Ar Y Y) Y Y Y Y (AJ (Ar Y Y) Y Y Y Y (AJ (Ar Y Y) Y Y Y Y (AJ (oG Y Dr A4 (Seg.any f12)) Y Y Y Y (AJ (oG Y Dr A4 (Seg.any f13)) Y Y Y Y (AJ (Ar Y Y) Y Y Y Y (AJ (AH Y call36 Y (kF _)) Y Y Y Y (AJ (oG Y CS A8 (Seg.any hS8)) Y Y Y Y (AJ (Ar Y Y) Y Y Y Y (AJ (Ar Y Y) Y Y Y Y (AJ (Ar Y Y) Y Y Y Y (AJ (oG Y Dr A4 (Seg.any f12)) Y Y Y Y (AJ (oG Y Dr A4 (Seg.any f13)) Y Y Y Y (AJ (Ar Y Y) Y Y Y Y (A7 (Qg (AH Y call37 Y (kG _)) Y (Qg (Abd Y U4 Y Y) Y (Qm Y (Qm Y (Am (An ?_)))))))))))))))))))))))));exact Ap Y Y σ
end
section
open Go.Proofs.Tryz Go.ChangeShapes Go.WideShapes Go.ChangeAt Go.Deep
section
variable {H:Type} {enc:TypeId×Value->H} {w:World} {base:Nat} {spare:Nat->Bool} {held:Bool}
theorem N8{P:Program}{t:TypeId}{f0 f1 f2 f3:Field}{fuel:Nat}{cs:List Value}{x:DataW H×List MemPlace}(ht:P.underlying t=some (.struct #[f0,f1,f2,f3]))(h:DataW.trod enc P w base spare held fuel t cs=some x) :
  ∃y0 y1 y2 y3 n,cs.length=P.cellsOf t/\DataW.trod enc P w base spare held n f0.type ((cs.drop f0.offset).take (P.cellsOf f0.type))=some y0 ∧
   DataW.trod enc P w base spare held n f1.type ((cs.drop f1.offset).take (P.cellsOf f1.type))=some y1/\DataW.trod enc P w base spare held n f2.type ((cs.drop f2.offset).take (P.cellsOf f2.type))=some y2/\DataW.trod enc P w base spare held n f3.type ((cs.drop f3.offset).take (P.cellsOf f3.type))=some y3:=by
 obtain⟨xs,n,_,rfl,hl,hlen,hf⟩:=DataW.trod_struct ht h
 match xs,hlen with
 | [y0,y1,y2,y3],_=>exact⟨y0,y1,y2,y3,n,hl,by simpa using hf 0 f0 rfl,by simpa using hf 1 f1 rfl,by simpa using hf 2 f2 rfl,by simpa using hf 3 f3 rfl⟩
theorem NK(n:Nat)(cs:List Value)(y:DataW H×List MemPlace)(h:DataW.trod enc Tryz.prog w base spare held n 5 cs=some y):∃a:Nat,cs=[.int .u8 (a:Nat)]/\a<256:=by obtain⟨b,h1,_,h2⟩:=DataW.trod_int U5 h;have h3:=bounds_u8 h2;exact⟨b.toNat,by rw[h1,fd ω],ω⟩
theorem ZP{v:Value}{fuel:Nat}{x:DataW H×List MemPlace}(h:DataW.trod enc Tryz.prog w base spare held fuel 23 [v]=some x):∃l,RdL (λg:Nat=>[.int .u8 (g:Nat)]) 1 (whole w) [] v l/\∀a∈l,a<256:=
 QE WJ κ (λ_=>rfl) δ NK h
theorem Sf{v:Value}{r:Reach}{b0:Nat}{d:DataW H}{ps:List MemPlace}(hval:Value.okWide Tryz.prog w r b0 25 v)(h:DataW.Trod enc Tryz.prog w base spare held 25 v d ps):∃(sp be:Nat) (v0 vG:Value) (L:List Int) (G:List Nat),v=.agg #[.int .u8 sp,v0,vG,.int .u8 be]/\sp<256/\be<256/\(∀g∈G,g<256)/\RdL cI 1 (whole w) [] v0 L/\RdL (λg:Nat=>[.int .u8 (g:Nat)]) 1 (whole w) [] vG G:=by
 obtain⟨cs,rfl,hc⟩:=okWide_struct U25 hval;obtain⟨fuel,hf⟩:=h;obtain⟨y0,y1,y2,y3,n,h0,h1,h2,h3,h4⟩:=N8 U25 hf;have hc3:cs.size=4:=hc.trans κ;obtain⟨l⟩:=cs
 match l,hc3 with
 | [c0,c1,c2,c3],_=>
  have h1:DataW.trod enc Tryz.prog w base spare held n 5 [c0]=some y0:=h1;have h2:DataW.trod enc Tryz.prog w base spare held n 22 [c1]=some y1:=h2;have h3:DataW.trod enc Tryz.prog w base spare held n 23 [c2]=some y2:=h3;have h4:DataW.trod enc Tryz.prog w base spare held n 5 [c3]=some y3:=h4;obtain⟨sp,e0,w0⟩:=NK n _ _ h1;obtain⟨L,hR,hE⟩:=Th h2;obtain⟨G,hG,hI⟩:=ZP h3;obtain⟨be,e2,w2⟩:=NK n _ _ h4;simp only[List.cons.injEq,and_true]at e0 e2;subst e0 e2;exact⟨sp,be,c1,c2,L,G,Y,w0,w2,hI,hR,hG⟩
end
end
section
open Go.Eng Go.ChangeShapes Go.WideShapes Go.ChangeAt Go.RowKit Go.Deep
section
variable {H:Type} {enc:TypeId×Value->H} {w:World} {base:Nat} {spare:Nat->Bool} {held:Bool}
theorem Aat:Tryz.prog.underlying 75=some (.array 4 3):=by kernel_rfl
theorem UI{v:Value}{r:Reach}{b0:Nat}{d:DataW H}{ps:List MemPlace}(hval:Value.okWide Tryz.prog w r b0 75 v)(h:DataW.Trod enc Tryz.prog w base spare held 75 v d ps):∃a0 a1 a2 a3:Int,v=.agg #[.int .i64 a0,.int .i64 a1,.int .i64 a2,.int .i64 a3]/\BS a0/\BS a1/\BS a2/\BS a3:=by
 obtain⟨cs,rfl,hc⟩:∃cs,v=.agg cs/\cs.size=Tryz.prog.cellsOf 75:=by simp only[Value.okWide,Aat]at hval;obtain⟨cs,h1,h2,_⟩:=hval;exact⟨cs,h1,h2⟩
 obtain⟨fuel,hf⟩:=h;obtain⟨xs,m,_,_,_,hl,hx⟩:=DataW.trod_array Aat hf;have hc2:cs.size=4:=hc.trans κ;obtain⟨l⟩:=cs
 match l,hc2,xs,hl with
 | [c0,c1,c2,c3],_,[y0,y1,y2,y3],_=>
  have h0:DataW.trod enc Tryz.prog w base spare held m 3 [c0]=some y0:=hx 0 δ;have h1:DataW.trod enc Tryz.prog w base spare held m 3 [c1]=some y1:=hx 1 δ;have h2:DataW.trod enc Tryz.prog w base spare held m 3 [c2]=some y2:=hx 2 δ;have h3:DataW.trod enc Tryz.prog w base spare held m 3 [c3]=some y3:=hx 3 δ;obtain⟨a0,e0,w0⟩:=GF m _ _ h0;obtain⟨a1,e1,w1⟩:=GF m _ _ h1;obtain⟨a2,e2,w2⟩:=GF m _ _ h2;obtain⟨a3,e3,w3⟩:=GF m _ _ h3;obtain rfl:c0=.w a0:=by simpa[cI] using e0
  obtain rfl:c1=.w a1:=by simpa[cI] using e1
  obtain rfl:c2=.w a2:=by simpa[cI] using e2
  obtain rfl:c3=.w a3:=by simpa[cI] using e3
  exact⟨a0,a1,a2,a3,Y,w0,w1,w2,w3⟩
end
end
end Go.Proofs.Q