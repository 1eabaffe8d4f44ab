/- A part of the proof. -/
import Derived.Test.YtodheebhahdepaaGreatDoorPH
set_option linter.unusedSimpArgs false
set_option linter.unusedVariables false
set_option linter.unusedSectionVars false
set_option maxRecDepth 100000
set_option maxHeartbeats 4000000
open List (length_map replicate nil_append cons_append length_range)
namespace Go.Proofs.Q
open Go.Proofs.Tryz
open Go.Eng Go.RowKit Go.Lin Go.Sort Go.Srt
variable {h:Hp}
theorem ColsO.rdh{vs:List Value}{cs:List (List Int)}{m:Hp}(C:ColsO m vs cs)(hm:m.le h){k:Nat}(hv:k<vs.length)(hc:k<cs.length):RdL cI 1 h [] (vs.getD k undef) cs[k]:=by obtain⟨a,b,rfl,d,O,_⟩:=C.at_ hv hc;rw[show vs.getD k undef=vs[k] by simp[List.getD,hv]];exact O.rdh (AI (Hp.le_join _ _) hm)
theorem Wx{a:List Br}{va vb:Value}(hA:RdL JJ 6 h [] va a)(hB:RdL JJ 6 h [] vb a)(ms:List Hp):FnV Tryz.prog 96 #[va,vb] h ms (.bool true):=by
 have:=Xy a a va vb h hA hB ms
 rwa [ag rfl]at this
theorem Vz{p:Int}{r c:Nat}{f:Nat->Nat->Int}{ev eu:Value}(R:RtM p r c f)(hR:RdL cI 1 h [] ev (BN r c f))(hS:RdL cI 1 h [] eu (BN r c f))(ms:List Hp):FnV Tryz.prog 94 #[.agg #[.int .i64 p,.int .i64 r,.int .i64 c,ev],.agg #[.int .i64 p,.int .i64 r,.int .i64 c,eu]] h ms (.bool true):=by
 have:=Vo R R hR hS ms
 rwa [ag rfl]at this
theorem MY(l S:List Ce)(F:List (Int×Int))(R V:Nat->List Int)(v vf vo er ev vb:Value)(p:Int)(hp:Hp)(hK:RgC l)(hR:RdC hp v l)(hF:RdL cV 2 hp [] vf F)(hV:HJ F)(h0:DU (cn l) F=(0,0))(hl:l.length<=400)(H:PerH p F l S R V)(hI:∀c,BS (CF (Bj F) c))(hRo:RdL cI 1 hp [] vo (En S))(hRr:RdL cI 1 hp [] er (BN S.length S.length (Ga R)))(hRv:RdL cI 1 hp [] ev (BN S.length S.length (Ga V)))(hRb:RdL JJ 6 hp [] vb (Dc (CF (Bj F)) S (DC S R) S.length)):FnT Tryz.prog 36 #[.agg #[v],vf,.int .i64 p,vo,.agg #[.int .i64 p,.int .i64 S.length,.int .i64 S.length,er],.agg #[.int .i64 p,.int .i64 S.length,.int .i64 S.length,ev],vb] hp [] (λr _ _=>r=.bool true):=by
 have o1:=hR.q.rd.one;have o2:=hF.rd.one;have o3:=hRo.rd.one;have o4:=hRr.rd.one;have o5:=hRv.rd.one;have o6:=hRb.rd.one;have hP:=H.hp;have hSn:S.length<=400:=by have:=H.P.perm.length_eq;rw[af,C0]at this;omega
 refine Ao func36 ntmps36 Y Y (λw0 hw0=>?_);simp only[AX];refine Ap (AQ [_] Y Y (by rfl) Y Y Y (λg7=>AQ [_,_,_,_] Y Y (by rfl) Y Y Y (λg11=>AQ [_,_,_,_] Y Y (by rfl) Y Y Y (λg12=>Qm Y (Am (AA λh1 l1 hS12=>(AA λh2 l2 hS11=>(AA λh3 l3 hS7=>?_))))))));have l13:=AI l1 (AI l2 l3);have hR:=hR.up l13;have hF:=hF.up l13;refine Ap (Qx (oG Y CN A0 (Seg.any hS7)) Y (Qm Y (Qm Y (Qc call91 Y (OC l F v vf p h3 hK hR hF hV h0 hP hl) (λrB h4 ms4 l4 hB=>?_)))));obtain⟨l4',gm,gA,mA,bs',S',vc,vr,vv,Rs,Vs,mR,mV,rfl,rfl,hOA,lA,hQ,hRs,hVs,CR,CV,hperm,hsrt,hsds⟩:=hB;have hSS:S'.map Ce.c=S.map Ce.c:=SrtH.uniq (H.P.srtH H.G H.mon) ⟨hperm,hsrt,H.G,H.mon⟩;have hlS:S'.length=S.length:=by have:=bf List.length hSS;simpa using this
 have lR:Rs.length=S.length:=by have:=CR.len;rw[af,length_range]at this;omega
 have hC:∀h',mR.le h'->∀k,k<S.length->RdL cI 1 h' [] (Rs.getD k undef) (CZ p S k):=λh' lm k hk=>by have:=CR.rdh lm (k:=k) ω (by simpa using by omega);rw[List.getElem_map,List.getElem_range,L3 hSS]at this;exact this
 refine Qm Y (Qm Y (Qm Y (Qm Y (Qm Y (Am (AA λh5 l5 hSg=>(Bo λh6 l6 lmR=>(Bo λh7 l7 lmV=>?_))))))));have l47:=AI l5 (AI l6 l7);have l37:=AI l4' l47;have l17:=AI l13 l37;have hSg:=hSg.le (AI l6 l7);have hC:=hC h7 (AI lmR l7);have hQ:=hQ.up l47;have hRs:=hRs.up l47;have hsds:=λa ha=>(hsds a ha).up l47;have lA:=AI lA l47;have hRo:=hRo.up l17;have hRr:=hRr.up l17;have hRv:=hRv.up l17;have hRb:=hRb.up l17;have ovr:=hRs.rd.one;have hids:En S'=En S:=KM hSS;refine Ac (Ap (Qm Y (Qx (Cy (CI Y Y Y) (bf Value.bool (ah λe=>e Y))) Y (Qm Y (Qg (As Y Y) Y (Qg (As Y Y) Y (RI Y Y Y Y (Qc call72 Y (R3 S' p gm gA vc vr vv (replicate 400 0) h7 hSg hQ hsds ω) (λro h8 ms8 l8 hQ8=>?_)))))))));obtain⟨l8',mo,rfl,hOo⟩:=hQ8;refine A6 hOo λh9 l9 hOo=>?_;have l79:=AI l8' l9;rw[hids]at hOo;have hRo:=hRo.up l79;have ooo:=hOo.rd.one;have e3:∀h',h9.le h'->∀ms,Cell h' ms (⟨gm,3,none⟩:Addr) vr:=λh' l' ms=>(Seg.all hSg 3 _ Y ms).le (AI l79 l');have e0:∀ms,Cell h9 ms (⟨gm,0,none⟩:Addr) (.w p):=λms=>(Seg.all hSg 0 _ Y ms).le l79;have l39:=AI l37 l79;have s11:∀h',h9.le h'->∀ms,Seg h' ms (⟨g11,0,none⟩:Addr) [.w p,.w S.length,.w S.length,er]:=λh' l' ms=>(hS11.le (AI l3 (AI l39 l'))).any;have s12:∀h',h9.le h'->∀ms,Seg h' ms (⟨g12,0,none⟩:Addr) [.w p,.w S.length,.w S.length,ev]:=λh' l' ms=>(hS12.le (AI l2 (AI l3 (AI l39 l')))).any;have hRr:=hRr.up l79;have hRv:=hRv.up l79;have hRb:=hRb.up l79;have hln:(En S).length=S.length:=by unfold En;simp
 refine Qg (AG Y call92 Y ((by have:=Py _ _ vo ro h9 hRo hOo [];rwa [ag rfl]at this))) rfl ?_;refine Qg (Eo Y Y) Y (Qm Y (Am (AN Y (Ah (Ab (Ap (Qm Y (Qx (Av hRo.rd.any Y AP Y) Y (Qm Y (Am ?_))))))))));rw[hln];refine A9 (λsl h' ms'=>∃(g18:Nat) (ew:Value),sl=[(6,vb),(11,.pt g11),(12,.pt g12),(15,.pt gm),(17,.w S.length),(18,.pt g18),(19,.bool true)]/\h9.le h'/\ms'=[A8 g18 65 [.w p,.w S.length,.w S.length,ew]]/\RdL cI 1 h' [] ew (BN S.length S.length (Ga R))) ?_ (λs h ms hI=>?_)
 ·refine BL (n:=14) (bs:=[true,true,true,true,true,false,true,false,false,false,false,false,false,false]) [true,true,true,true,true,false,true] CT κ κ Y Y (Qq Y (Qq Y (Qq Y (QF ER Y (QL Y Ck (e3 _ (Dv) _) (Qp Y (oG Y D8 A7 (s12 _ (Dv) _)) ?_))))));unfold FS;simp only[bh,av];refine Ba [5,11] κ Y ?_;refine AD Y ?_ ?_
  ·refine Qc call73 Y (GQ S.length p gm vr Rs (CZ p S) h9 e0 (hRs.up l79) lR hSn (λk hk=>(hC k hk).up l79) (λk hk=>DR _ _ _ _)) (λrm h10 ms10 l10 hQ=>?_);obtain⟨l10',em,mm,rfl,rfl,hOm⟩:=hQ;change OwnL cI 1 3 mm em (BN S.length S.length (QO p S)) at hOm;refine A6 hOm λh11 l11 hRm=>?_;have l911:=AI l10' l11;refine Qa (Ba [7,11] κ Y ?_);refine AD Y ?_ ?_
   ·refine Qc call93 Y (Nf p S.length S.length S.length (QO p S) (Ga V) em ev h11 (H.rtD hSn) (H.rtV hSn) hRm (hRv.up l911)) (λrd h12 ms12 l12 hQ=>?_);obtain⟨rfl,_,rfl,ew,mw,rfl,rfl,hOw⟩:=hQ;refine A6 hOw λh13 l13 hRw=>?_;have l913:=AI l911 l13;have oew:ew.oneCell'=true:=hRw.rd.one;change RdL cI 1 _ [] ew (BN S.length S.length (L8 p S.length (QO p S) (Ga V))) at hRw;rw[H.mulM]at hRw;refine Qa (BU 8 44 κ Y (by assumption) Y (As Y Y) (BU 9 53 κ Y (by assumption) Y (Ct Y Y Y) (BU 10 54 κ Y (by assumption) Y (Ct Y Y Y) (Qo 11 Y (Cx [.w 0,.w 0,.w 0,.slice none 0 0] Y A7 Y Y (λg18=>Qa (Qo 12 Y ?_)))))));refine Sa 0 [_,_,_,_] A7 Y (by simp[o1,o2,o3,o4,o5,o6,ovr,ooo,oew]) ?_;refine Qa (Qo 13 Y (Qm Y (Qa (Qe ?_))));exact AE _ ⟨_,ew,Y,l913,Y,hRw⟩ Qs
   refine AD Y ?_ ?_
   ·refine Cx [.w 0,.w 0,.w 0,.slice none 0 0] Y A7 Y Y (λg18=>Qa (Qo 7 Y (Qc call93 Y (Nf p S.length S.length S.length (QO p S) (Ga V) em ev h11 (H.rtD hSn) (H.rtV hSn) hRm (hRv.up l911)) (λrd h12 ms12 l12 hQ=>?_))));obtain⟨rfl,_,rfl,ew,mw,rfl,rfl,hOw⟩:=hQ;refine A6 hOw λh13 l13 hRw=>?_;have l913:=AI l911 l13;have oew:ew.oneCell'=true:=hRw.rd.one;change RdL cI 1 _ [] ew (BN S.length S.length (L8 p S.length (QO p S) (Ga V))) at hRw;rw[H.mulM]at hRw;refine Qa (BU 8 44 κ Y (by assumption) Y (As Y Y) (BU 9 53 κ Y (by assumption) Y (Ct Y Y Y) (BU 10 54 κ Y (by assumption) Y (Ct Y Y Y) (Qo 12 Y ?_))));refine Sa 0 [_,_,_,_] A7 Y (by simp[o1,o2,o3,o4,o5,o6,ovr,ooo,oew]) ?_;refine Qa (Qo 13 Y (Qm Y (Qa (Qe ?_))));exact AE _ ⟨_,ew,Y,l913,Y,hRw⟩ Qs
   exact Bb
  refine AD Y ?_ ?_
  ·refine Cx [.w 0,.w 0,.w 0,.slice none 0 0] Y A7 Y Y (λg18=>Qw (Qo 5 Y (Qc call73 Y (GQ S.length p gm vr Rs (CZ p S) h9 e0 (hRs.up l79) lR hSn (λk hk=>(hC k hk).up l79) (λk hk=>DR _ _ _ _)) (λrm h10 ms10 l10 hQ=>?_))));obtain⟨l10',em,mm,rfl,rfl,hOm⟩:=hQ;change OwnL cI 1 3 mm em (BN S.length S.length (QO p S)) at hOm;refine A6 hOm λh11 l11 hRm=>?_;have l911:=AI l10' l11;refine Qa (Qo 7 Y (Qc call93 Y (Nf p S.length S.length S.length (QO p S) (Ga V) em ev h11 (H.rtD hSn) (H.rtV hSn) hRm (hRv.up l911)) (λrd h12 ms12 l12 hQ=>?_)));obtain⟨rfl,_,rfl,ew,mw,rfl,rfl,hOw⟩:=hQ;refine A6 hOw λh13 l13 hRw=>?_;have l913:=AI l911 l13;have oew:ew.oneCell'=true:=hRw.rd.one;change RdL cI 1 _ [] ew (BN S.length S.length (L8 p S.length (QO p S) (Ga V))) at hRw;rw[H.mulM]at hRw;refine Qa (BU 8 44 κ Y (by assumption) Y (As Y Y) (BU 9 53 κ Y (by assumption) Y (Ct Y Y Y) (BU 10 54 κ Y (by assumption) Y (Ct Y Y Y) (Qo 12 Y ?_))));refine Sa 0 [_,_,_,_] A7 Y (by simp[o1,o2,o3,o4,o5,o6,ovr,ooo,oew]) ?_;refine Qa (Qo 13 Y (Qm Y (Qa (Qe ?_))));exact AE _ ⟨_,ew,Y,l913,Y,hRw⟩ Qs
  exact Bb
 ·obtain⟨g18,ew,rfl,lh,rfl,hRw⟩:=hI;have oew:=hRw.rd.one;have hRr:=hRr.up lh;have hRv:=hRv.up lh;have hRb:=hRb.up lh;have c12:∀h',h9.le h'->∀ms,Cell h' ms (⟨g12,2,none⟩:Addr) (.w S.length):=λh' l' ms=>(Seg.all hS12 2 _ Y ms).le (AI l2 (AI l3 (AI l39 l')));refine Ac (Ap (Qm Y (Qm Y (Qm Y (Qg (oF B6 Y) Y (Qg (oL Y U3 (c12 _ (by assumption) _)) Y (Qg (As Y Y) Y (Qg (Cy (CI Y Y Y) (bf Value.bool (ah λe=>e Y))) Y (Qm Y (Qm Y (Qg (oG Y D8 A7 (Seg.blk 0 Y)) Y (Qg (oG Y D8 A7 (s11 _ (by assumption) _)) Y (Qg (AG Y call94 Y (Vz (H.rtR hSn) hRw hRr _)) Y (Qg (Eo Y Y) Y (Qm Y (Am (AN Y (Ah (Ab (Ap (Qm Y (BE (C7 (K:=kN) (V:=vB) (Ok:=BS) Y Y Y Y (λgS mS hS0=>Qm Y (Am (Bm 1 Y λh14 l14 hS18=>(BI ?_)))))))))))))))))))))))))));have l914:=AI lh l14;have hRr:=hRr.up l14;have hRv:=hRv.up l14;have hRb:=hRb.up l14;have oev:=hRv.rd.one;refine Ac (Ap (Qm Y (Qm Y (Am (Ag ?_)))))
  refine Ax (λq sl h' ms'=>∃(j:Nat) (vl:Value) (ml mS:Hp) (T:List (Int×Bool)) (bs:List Nat),q=S.length-j/\sl=[(6,vb),(11,.pt g11),(12,.pt g12),(15,.pt gm),(17,.w S.length),(20,vl),(21,.map (some gS)),(70,.w S.length),(71,.w j)]/\h14.le h'/\ms'=[ml,mS]/\j<=S.length/\OwnL cI 1 3 ml vl ((List.range j).map λk=>AU (R k))/\CQ kN vB gS BS mS T bs/\NS T/\∀x,x∈GF T<->∃k,k<j/\AU (R k)=x)
   (S.length-0) _ ⟨0,_,Hp.emp,mS,[],[],rfl,rfl,Dv,rfl,ω,OwnL.nil Bd,hS0,λp hp=>(nomatch hp),λx=>by simp⟩ Qs ?_
  rintro q sl h' ms' ⟨j,vl,ml,mS,T,bs,rfl,rfl,lh2,rfl,hj,hOl,hOS,hAT,hkT⟩;refine Ap (Qm Y (Am (Ac ?_)));refine Ar Y (λhjl=>?_) (λhjl=>?_)
  ·have hjn:j<S.length:=ω
   have ovl:=hOl.o1;refine Ah (Ab (Ac (Ag (Ap (Qm Y (Qm Y (BE (Qm Y (CA (n:=S.length) Y AP A3 Y Y Y (by rfl) (by rfl) ω ω Y Y Y (λg75=>Qm Y (Am (Ac (Ap (Qm Y (Qm Y (Am (Ag ?_)))))))))))))))));have hOc:OwnL cI 1 3 (A8 g75 3 (replicate S.length (.w 0))) (.slice (some ⟨g75,0,none⟩) S.length S.length) (replicate S.length 0):=OwnL.rep S.length 0 ω;rw[<-UB R j S.length]at hOc;generalize hev:Value.slice (some ⟨g75,0,none⟩) S.length S.length=ec at *;generalize A8 g75 3 (replicate S.length (.w 0))=mc at *;have oec:=hOc.o1;have hRr':=hRr.up lh2;have hRv':=hRv.up lh2;have hnn:S.length*S.length<=160000:=by have:=dd hSn hSn;omega
   have e11:∀ms,Cell h' ms (⟨g11,3,none⟩:Addr) er:=λms=>(Seg.all hS11 3 _ Y ms).le (AI l3 (AI l39 (AI l914 lh2)));have e12:∀ms,Cell h' ms (⟨g12,3,none⟩:Addr) ev:=λms=>(Seg.all hS12 3 _ Y ms).le (AI l2 (AI l3 (AI l39 (AI l914 lh2))))
   refine Ax (λq sl h2 ms'=>∃(i:Nat) (mc:Hp),q=S.length-i/\sl=[(6,vb),(11,.pt g11),(12,.pt g12),(15,.pt gm),(17,.w S.length),(20,vl),(21,.map (some gS)),(22,.w j),(23,ec),(70,.w S.length),(71,.w j),(76,.w S.length),(77,.w i)]/\h'=h2/\ms'=[mc,ml,mS]/\i<=S.length/\OwnL cI 1 3 mc ec (Ma R j S.length i))
    (S.length-0) _ ⟨0,mc,rfl,rfl,rfl,rfl,ω,hOc⟩ Qs ?_
   rintro q sl h2 ms' ⟨i,mc,rfl,rfl,rfl,rfl,hi,hOc⟩;have hOc':=hOc;refine Ap (Qm Y (Am (Ac ?_)));refine Ar Y (λhil=>?_) (λhil=>?_)
   ·have hin:i<S.length:=ω
    have hix:=DO hin hjn;have hm1:(BN S.length S.length (Ga R)).length=S.length*S.length:=BK _ _ _;have hm2:(BN S.length S.length (Ga V)).length=S.length*S.length:=BK _ _ _;have hcl:=He R j S.length i;have hc1:(((i*S.length+j:Nat)):Int)=(i:Int)*(S.length:Int)+j:=by rw[Int.natCast_add,Int.natCast_mul]
    have hk0:0<=(i:Int)*(S.length:Int):=Int.mul_nonneg ω ω;have cr:∀ms,Cell h' ms ((AF er).add ((i*S.length+j)*1)) (.w (Ga R i j)):=λms=>(hRr'.any (ms:=ms)).ent hin hjn;have cv:∀ms,Cell h' ms ((AF ev).add ((i*S.length+j)*1)) (.w (Ga V i j)):=λms=>(hRv'.any (ms:=ms)).ent hin hjn;refine Ah (Ab (Ac (Ag (Ap (Qm Y (Qm Y (BE (Qm Y (Qm Y (Qf BH Y (Ql Y AP (e11 _) (Qm Y (Qm Y (Qx (oM Y) Y (Qm Y (Qx (oA Y) Y (Qx (Az ((i*S.length+j)) hRr'.rd.any Y AP A3 Y Y ω ω) Y (Ql Y U3 (cr _) (Qx (Az (i) (hOc'.rd (h:=h') (ms:=[mc,ml,mS]) Mh).rd Y AP A3 Y Y ω ω) Y (B8 (F:=cI) (f:=λx=>.w x) (a:=Ga R i j) 0 i (λ_=>rfl) hOc Y A3 Y Y Y Y ω Y Y (λm2 hO2=>?_)))))))))))))))))))));rw[T7]at hO2;refine BE (Qm Y (Qm Y (Qm Y (Qm Y ?_))));refine AM (t:=95) Y (λhe=>?_) (λhe=>?_)
    ·have hij:i=j:=ω
     have hv1:Ga V i j=1:=by rw[hij];exact H.one_at hjn
     refine Qg (oF BH Y) Y (Qg (oL Y AP (e12 _)) Y (Qg (As Y Y) Y (Qg (As Y Y) Y (Qg (oM Y) Y (Qg (As Y Y) Y (Qg (oA Y) Y (Qg (Az ((i*S.length+j)) hRv'.rd.any Y AP A3 Y Y ω ω) Y (Qg (oL Y U3 (cv _)) Y (Qg (Cy (CI Y Y Y) (bf Value.bool (ah λe=>e hv1))) Y (Qm Y (Qm Y (Qg (As Y Y) Y (Qg (As Y Y) Y (Qg (Cy (Cf Y Y Y) (bf Value.bool (ah ω))) Y (Qg (As Y Y) Y (Qk Y (Qk Y (Qk Y (Qk Y (Qk Y (Qk Y (Qk Y (Qk Y (Qk Y (Qk Y (Qg (B9 Y Y Y) Y (Qm Y (Am (AN Y (Ah (Ai (Ab (Ad (Qx (oA Y) Y (Qm Y (Al ?_))))))))))))))))))))))))))))))))))));exact Ak (S.length-(i+1)) _ ω ⟨i+1,m2,Y,Y,Y,Y,ω,hO2⟩ Qs
    ·refine Qk Y (Qk Y (Qk Y (Qk Y (Qk Y (Qk Y (Qk Y (Qk Y (Qk Y (Qk Y (Qm Y (Qm Y (Qg (As Y Y) Y (Qg (As Y Y) Y (Qg (Cf Y Y Y) Y (Qg (As Y Y) Y ?_)))))))))))))));refine AM (t:=111) Y (λhgt=>?_) (λhgt=>?_)
     ·have hv0:Ga V i j=0:=H.aft_at hjn ω;refine Qg (oF BH Y) Y (Qg (oL Y AP (e12 _)) Y (Qg (As Y Y) Y (Qg (As Y Y) Y (Qg (oM Y) Y (Qg (As Y Y) Y (Qg (oA Y) Y (Qg (Az ((i*S.length+j)) hRv'.rd.any Y AP A3 Y Y ω ω) Y (Qg (oL Y U3 (cv _)) Y (Qg (Cy (CI Y Y Y) (bf Value.bool (ah λe=>e hv0))) Y (Qg (CE Y Y Y) Y (Qm Y (Am (AN Y (Ah (Ai (Ab (Ad (Qx (oA Y) Y (Qm Y (Al ?_))))))))))))))))))));exact Ak (S.length-(i+1)) _ ω ⟨i+1,m2,Y,Y,Y,Y,ω,hO2⟩ Qs
     ·refine Qk Y (Qk Y (Qk Y (Qk Y (Qk Y (Qk Y (Qk Y (Qk Y (Qk Y (Qk Y (Qg (B9 Y Y Y) Y (Qm Y (Am (AN Y (Ah (Ai (Ab (Ad (Qx (oA Y) Y (Qm Y (Al ?_))))))))))))))))))));exact Ak (S.length-(i+1)) _ ω ⟨i+1,m2,Y,Y,Y,Y,ω,hO2⟩ Qs
   ·obtain rfl:i=S.length:=ω
    rw[VG R j (H.lenR hjn)]at hOc;refine Bv hOc λh16 l16 hRc=>?_;have hbd:=Dl (R j);have hlR:=H.lenR hjn;have hlI:BS (AU (R j)):=by unfold BS;omega
    have hfr:0<=AU (R j)->AU (R j) ∉ GF T:=λh0 q=>by obtain⟨k,hk,e⟩:=(hkT _).1 q;have:=H.uniq hjn (ω:k<S.length) h0 e.symm;omega
    refine Aq (Aa (Aa (Af (Ab (Ap (Qm Y (Qx (AG Y call95 Y (QK ec (R j) h16 hRc ω _)) Y (Qm Y (Am ?_)))))))));refine A9 (λsl h2 ms'=>sl=[(6,vb),(11,.pt g11),(12,.pt g12),(15,.pt gm),(17,.w S.length),(20,vl),(21,.map (some gS)),(25,.w (AU (R j))),(70,.w S.length),(71,.w j)]/\h16=h2/\ms'=[ml,mS]) ?_ (λs h ms hI=>?_)
    ·refine Ac (Ad (Qm Y (Qm Y (Qm Y ?_))));refine AM (t:=129) Y (λhk0=>?_) (λhk0=>?_)
     ·refine Qg (As Y Y) Y (Qg (As Y Y) Y ?_);refine Qg (Cy (Gf (V:=vB) (z:=false) (AU (R j)) Bt hOS (by simp) rfl W0 Te rfl rfl hlI) (by rw[IW hAT,ah (hfr hk0)])) rfl ?_;refine Qm Y (Am (AN Y (Ah ?_)));exact AE _ ⟨Y,Y,Y⟩ Qs
     ·refine Qk Y (Qk Y (Qk Y (Qm Y (Am (AN Y (Ah ?_))))));exact AE _ ⟨Y,Y,Y⟩ Qs
    ·obtain⟨rfl,rfl,rfl⟩:=hI;refine Ap (Qm Y (Qm Y (BO (V:=vB) (z:=undef) 1 (AU (R j)) true Bt hOS Y Y W0 Y Y Y hlI Y Y (λmS' bs2 hOS'=>?_))));have hAT':=KK hAT (AU (R j));refine Gu (Qm Y (Qm Y (Aw [_] Y AP A3 Y (by rfl) Y Y ω Y Y Y (λg138=>?_))));refine AV 1 hOl (RdL.one Bd (x:=AU (R j)) Mh Y) Y AP A3 Y ω Y Y Y B7 (by simp;omega) (by simp;omega) rfl rfl rfl (λvl2 ml2 hO2=>?_);refine Qm Y (Al (Ai (Ab (Ad (Qx (oA Y) Y (Qm Y (Al (AR ?_))))))));refine Ak (S.length-(j+1)) _ ω ⟨j+1,vl2,ml2,mS',_,bs2,Y,Y,AI lh2 l16,Y,ω,by rw[Fc];exact hO2,hOS',hAT',λx=>?_⟩ Qs;rw[show(x∈GF (De T (AU (R j)) true))<->(x=AU (R j)\/x∈GF T) from E6 _ _ _ _,hkT x];constructor
     ·rintro(rfl|⟨k,hk,e⟩)
      ·exact⟨j,ω,Y⟩
      ·exact⟨k,ω,e⟩
     ·rintro⟨k,hk,e⟩;by_cases h:k=j
      ·exact .inl (by rw[<-e,h])
      ·exact .inr ⟨k,ω,e⟩
  ·obtain rfl:j=S.length:=ω
   refine Bv hOl λh15 l15 hL=>?_;change RdL cI 1 h15 [] vl (DC S R) at hL;have l715:=AI l79 (AI l914 (AI lh2 l15))
   have hSi:∀a∈S',BS a.c.id:=λa ha=>by have hm:a.c∈cn l:=hperm.mem_iff.1 (ai.2 ⟨a,ha,Y⟩);have h2:=H.G.pos _ hm;have h3:=hK.ci hm;unfold BS;omega
   have hRb:=hRb.up (AI lh2 l15);have ovl:vl.oneCell'=true:=hL.rd.one;refine Aq (Aa (Aa (Af (Ab (Ap (Qm Y (Qm Y (Qm Y ?_))))))));refine Qc call52 Y (Td S' F (DC S R) p gm vl h15 ⟨gA,mA,bs',vc,vr,vv,_,hSg.le l715,hOA,AI lA l715,hQ.up l715⟩ (λa ha=>(hsds a ha).up l715) hL ω (by rw[E4,hlS]) (λx hx=>by rw[hlS];exact H.P.lt x hx) hSi hI) (λrb h16 ms16 l16 hQ=>?_);obtain⟨l16',mb,rfl,hOb⟩:=hQ;rw[hlS,QT hSS]at hOb;refine A6 hOb λh17 l17 hRb2=>?_;have hRb:=hRb.up (AI l16' l17);have orb:=hRb2.rd.one;refine Qx (AG Y call96 Y (Wx hRb hRb2 _)) Y (Qm Y (Am (An ?_)));exact Au Y Y (Y)
end Go.Proofs.Q
namespace Go.Proofs.Q
open Go.Proofs.Tryz
open Go.Eng Go.RowKit Go.Lin Go.Sort Go.Srt
theorem QZ(l:List Ce)(F:List (Int×Int))(v vf:Value)(p:Int)(hp:Hp)(hK:RgC l)(hR:RdC hp v l)(hF:RdL cV 2 hp [] vf F)(hV:HJ F)(h0:DU (cn l) F=(0,0))(hP:IsP p)(hl:l.length<=400):FnT Tryz.prog 26 #[.agg #[v],vf,.int .i64 p] hp [] (λr h' ms'=>hp.le h'/\∃(S:List Ce) (R V:Nat->List Int) (vo er ev:Value) (mo mr mv:Hp),PersF p F l S R V/\r=.tuple #[vo,.agg #[.int .i64 p,.int .i64 S.length,.int .i64 S.length,er],.agg #[.int .i64 p,.int .i64 S.length,.int .i64 S.length,ev],.int .i64 0]/\ms'=[mv,mr,mo]/\OwnL cI 1 3 mo vo (En S)/\OwnL cI 1 3 mr er (BN S.length S.length λi j=>(R j).getD i 0)/\OwnL cI 1 3 mv ev (BN S.length S.length λi j=>(V j).getD i 0)):=by
 have o1:=hR.q.rd.one;have o2:=hF.rd.one;refine Ao func26 ntmps26 Y Y (λw0 hw0=>?_);simp only[AX];refine Ap (AQ [_] Y Y (by rfl) Y Y Y (λg3=>Qm Y (Cx [.w 0,.w 0,.w 0,.slice none 0 0] Y A7 Y Y (λg7=>Cx [.w 0,.w 0,.w 0,.slice none 0 0] Y A7 Y Y (λg8=>Qm Y (Am (Bm 2 Y λh1 l1 hS=>?_)))))));have hR:=hR.up l1;have hF:=hF.up l1;refine Ap (Qx (oG Y CN A0 (Seg.any hS)) Y (Qm Y (Qm Y (Qc call51 Y (MJ l F v vf p h1 hK hR hF hV h0 hP hl) (λrB h2 ms2 l2 hB=>?_)))));obtain⟨l2',gm,S,R,V,vl,ml,rfl,rfl,hO,M⟩:=hB;have P:=M.pers;have hSn:S.length<=400:=by have:=P.perm.length_eq;rw[af,C0]at this;omega
 have ovl:=hO.o1;refine Qm Y (Qm Y (Qm Y (Qm Y (Qm Y (Qm Y (Qm Y (Am (Ac (Ap (Qm Y (Qm Y (Am (Ar Y (λhc=>absurd hc (λh=>h Y)) (λhc=>Ah (Ab (Bv hO λh3 l3 hL=>?_))))))))))))))));obtain⟨gA,mA,bs,vc,vr,vv,Rs,Vs,la,a1,a2,a3,a4,a5,a6,a7,a8,a9,a10,A⟩:=M.ex;have hsd:=λa ha=>(M.sds a ha).up l3;have a1:=a1.le l3;have a4:=a4.up l3;have a5:=a5.up l3;have a6:=a6.up l3;have a9:=λk hk=>(a9 k hk).up l3;have a10:=λk hk=>(a10 k hk).up l3;have b0:∀h',h3.le h'->∀ms,Cell h' ms (⟨gm,0,none⟩:Addr) (.w p):=λh' l' ms=>(Seg.all a1 0 _ Y ms).le l';have b3:∀h',h3.le h'->∀ms,Cell h' ms (⟨gm,3,none⟩:Addr) vr:=λh' l' ms=>(Seg.all a1 3 _ Y ms).le l';have b4:∀h',h3.le h'->∀ms,Cell h' ms (⟨gm,4,none⟩:Addr) vv:=λh' l' ms=>(Seg.all a1 4 _ Y ms).le l';have l13:=AI l1 (AI l2' l3);refine Ac (BL (n:=18) (bs:=[true,false,true,true,true,true,true,false,true,true,true,true,true,false,false,false,false,false]) [true,false,true,true,true,true,true,false,true,true,true,true,true] CT κ κ Y Y (Qq Y (Qq Y (Qq Y (Qq Y (QF ER Y (QL Y Ck (b3 _ (Dv) _) (Qq Y (Qq Y (Qq Y (QF Ji Y (QL Y Ck (b4 _ (Dv) _) ?_))))))))))));unfold FS;simp only[bh,av];refine Qo 1 Y (Qc call72 Y (R3 S p gm gA vc vr vv la h3 a1 a4 hsd hSn) (λro h4 ms4 l4 hQ=>?_));obtain⟨l4',mo,rfl,hOo⟩:=hQ;refine Qa (Qo 7 Y (Qc call73 Y (GQ S.length p gm vr Rs R h4 (b0 h4 l4) (a5.up l4) a7 hSn (λk hk=>(a9 k hk).up l4) A.red.rl) (λrr h5 ms5 l5 hQ=>?_)));obtain⟨l5',er,mr,rfl,rfl,hOr⟩:=hQ;have l35:=AI l4 l5;refine Qa (Qo 13 Y (Qc call73 Y (GQ S.length p gm vv Vs V h5 (b0 h5 l35) (a6.up l35) a8 hSn (λk hk=>(a10 k hk).up l35) A.red.vl) (λrv h6 ms6 l6 hQ=>?_)));obtain⟨l6',ev,mv,rfl,rfl,hOv⟩:=hQ;have l36:=AI l35 l6;change OwnL cI 1 3 mr er (BN S.length S.length λi j=>(R j).getD i 0) at hOr;change OwnL cI 1 3 mv ev (BN S.length S.length λi j=>(V j).getD i 0) at hOv;have oer:=hOr.o1;have oev:=hOv.o1;refine Qa (Qo 14 Y (Qm Y (Qa (Qo 15 Y ?_))));refine Sa 4 [_,_,_,_] A7 Y (by simp[o1,o2,oer,oev]) ?_;refine Qa (Qo 16 Y ?_);refine Sa 3 [_,_,_,_] A7 Y (by simp[o1,o2,oer,oev]) ?_;refine Qa (Qo 17 Y (Qm Y (Qa (Qe (Ab (An ?_))))));exact PW (vs1:=[_,_,_,_]) (vs2:=[_,_,_,_]) 4 3 Y Y Y Y Y D8 Y A7 Y Y Y Y ⟨AI l13 (AI l35 l6'),S,R,V,ro,er,ev,mo,mr,mv,P,Y,Y,hOo,hOr,hOv⟩
end Go.Proofs.Q
namespace Go.Proofs.Q
open Go.Eng Go.RowKit Go.Lin Go.Sort Go.Srt
theorem Xc(l:List Br):(l.map λb=>(⟨b.dim,b.birth,if b.opn then b.death else b.death,b.opn,b.low,b.high⟩:Br))=l:=by
 have:(λb:Br=>(⟨b.dim,b.birth,if b.opn then b.death else b.death,b.opn,b.low,b.high⟩:Br))=id:=by funext b;cases b;simp
 rw[this,List.map_id]
theorem PersF.bars_same{p:Int}{F:List (Int×Int)}{l S S':List Ce}{R V R' V':Nat->List Int}(P:PersF p F l S R V)(P':PersF p F l S' R' V')(hP:IsP p)(G:Rgt (cn l))(hmon:∀x∈cn l,∀s∈x.sd,CF (Bj F) s.1<=CF (Bj F) x.id):Dc (CF (Bj F)) S' (DC S' R') S'.length=Dc (CF (Bj F)) S (DC S R) S.length:=by
 have H:PerH p F l S R V:=⟨P,hP,G,hmon⟩
 have H':PerH p F l S' R' V':=⟨P',hP,G,hmon⟩
 have:=H.bars_eq H' Y (λv=>v) (λ_ _=>rfl) (λ_ _ _ _=>Iff.rfl)
 rwa [Xc]at this
end Go.Proofs.Q
namespace Go.Proofs.Q
open Go.Eng Go.RowKit Go.Lin
variable {S:List Ce}
theorem Aay{S':List Ce}(h:S'.map Ce.c=S.map Ce.c)(i:Nat):(S'.getD i default).c=(S.getD i default).c:=by
 have e:∀S:List Ce,(S.getD i default).c=(S.map Ce.c).getD i (default:Ce).c:=λS=>by simp only[List.getD,List.getElem?_map];cases S[i]?<;>rfl
 rw[e,e,h]
theorem Pi{S':List Ce}(f:Int->Int)(L:List Int)(h:S'.map Ce.c=S.map Ce.c)(n:Nat):Dc f S' L n=Dc f S L n:=by unfold Dc;congr 1;funext m;unfold F1;simp only[Aay h]
def circC:List Cl:=[⟨1,0,[]⟩,⟨2,0,[]⟩,⟨3,1,[(1,-1),(2,1)]⟩,⟨4,1,[(1,-1),(2,1)]⟩]
def circF:List (Int×Int):=[(1,0),(2,1),(3,2),(4,5)]
def circB:List Br:=[⟨0,0,0,true,1,0⟩,⟨0,1,2,false,2,3⟩,⟨1,5,0,true,4,0⟩]
def circS:List Ce:=circC.map λc=>⟨c,undef⟩
theorem NV:circS.map Ce.c=circC:=rfl
def Lr(j i:Nat):Int:=if i=j\/(j=3/\i=2) then 1 else 0
def O4(j:Nat):Option Nat:=if j=2 then some 1 else none
theorem isP2:IsP 2:=⟨by decide,by decide,by decide⟩
theorem Wj:Rdc 2 4 (DM circC) (dmo circC) (tr circC circC) Lr O4:=by
 have h1:∀i,i<4->∀j,j<4->(2:Int)∣FK 4 (DM circC) (λk=>DM circC k j) i:=by decide
 have h2:∀i,i<4->∀j,j<4->¬(2:Int)∣DM circC i j->dmo circC j=dmo circC i+1:=by decide
 have h3:∀i,i<4->∀j,j<4->tr circC circC i=tr circC circC j->i=j:=by decide
 have h4:∀j,j<4->j<4/\¬(2:Int)∣Lr j j/\∀i,i<4->¬(2:Int)∣Lr j i->tr circC circC i<=tr circC circC j:=by decide
 have h5:∀j,j<4->∀i,i<4->¬(2:Int)∣Lr j i->dmo circC i=dmo circC j:=by decide
 have h6:∀j,j<4->O4 j=none->∀i,i<4->(2:Int)∣FK 4 (DM circC) (Lr j) i:=by decide
 have h7:¬(2:Int)∣FK 4 (DM circC) (Lr 2) 1/\∀i,i<4->¬(2:Int)∣FK 4 (DM circC) (Lr 2) i->tr circC circC i<=tr circC circC 1:=by decide
 have h8:∀j i,O4 j=some i->j=2/\i=1:=λj i h=>by
  unfold O4 at h;split at h
  ·rename_i e;exact⟨e,(de h).symm⟩
  ·cases h
 refine⟨isP2.fld,λi j hi hj=>h1 i hi j hj,λi j hi hj=>h2 i hi j hj,λi j hi hj=>h3 i hi j hj,λj hj=>h4 j hj,λj i hj hi=>h5 j hj i hi,λj hj=>h6 j hj,λj i hj h=>?_,λj j' i hj hj' h h'=>?_⟩
 ·obtain⟨rfl,rfl⟩:=h8 j i h;exact⟨by decide,h7.1,h7.2⟩
 ·rw[(h8 _ _ h).1,(h8 _ _ h').1]
theorem TR{l:List Ce}{R V:Nat->List Int}(H:PerH 2 circF l S R V)(hl:cn l=circC):Dc (CF (Bj circF)) S (DC S R) S.length=circB:=by
 have hS:S.map Ce.c=circC:=by
  have h1:K4 (CF (Bj circF)) circS:=by unfold K4;decide
  have:=Q4 (f:=CF (Bj circF)) (g:=CF (Bj circF)) (S:=circS) (S':=S) h1 H.P.srt (by rw[NV,<-hl];exact H.P.perm.symm) (by decide) λ_ _ _ _=>Iff.rfl;rw[this,NV]
 have hn:S.length=4:=by have:=bf List.length hS;simpa[circC] using this
 have Q:=H.rdc;rw[hl,hn,hS]at Q
 have key:∀j,j<4->AU (R j)=if j=2 then 1 else -1:=λj hj=>by
  have e:=VI Q Wj hj;have h1:=(Dl (R j)).1;have h2:=(Dl (R j)).2;rw[(H.col j ω).rl,hn]at h2;have ht:∀j,j<4->tr circC circC j=j:=by decide
  unfold OL O4 at e;rw[hS,ht j hj]at e;by_cases h0:0<=AU (R j)
  ·rw[ab h0,ht _ ω]at e;split at e
   ·rename_i h;rw[ab h];have:=de e;omega
   ·cases e
  ·rw[aa h0]at e;split at e
   ·cases e
   ·rename_i h;rw[aa h];omega
 have hL:DC S R=[-1,-1,1,-1]:=by unfold DC;rw[hn];show [AU (R 0),AU (R 1),AU (R 2),AU (R 3)]=_;rw[key 0 ω,key 1 ω,key 2 ω,key 3 ω];rfl
 rw[hL,hn,Pi (S:=circS) (S':=S) _ _ (by rw[hS,NV]) 4];decide
end Go.Proofs.Q
namespace Go.Proofs.Q
open Go.Proofs.Tryz
open Go.Eng Go.RowKit
variable {D:Int}
theorem Yw:OS (Fs 1)=circC:=by decide
theorem circ_rgtF:RgtF circC:=by
 have e:Tg circC=circC:=by decide
 exact⟨by decide,by decide,by decide,λx hx=>by rw[<-e]at hx;obtain⟨y,_,rfl⟩:=ai.1 hx;exact⟨y,Y⟩,by decide,by decide⟩
theorem Lc:DU circC circF=(0,0):=by decide
theorem Ur:DU circC (circF.take 3)=(4,30):=by decide
theorem Ug:DU circC [(1,0),(2,3),(3,2),(4,5)]=(3,44):=by decide
theorem Ir(F:List (Int×Int))(hF:F=circF\/F=circF.take 3\/F=[(1,0),(2,3),(3,2),(4,5)]):HJ F:=by rcases hF with rfl|rfl|rfl<;>exact⟨by decide,by decide⟩
theorem Lh:∀x∈circC,∀s∈x.sd,CF (Bj circF) s.1<=CF (Bj circF) x.id:=by decide
theorem circ_q:Vg circC circF:=by
 have:=Wy circ_rgtF.rgt (λc=>CF (Bj circF) c) (by decide) Lh;have e:(circC.map λx=>(x.id,CF (Bj circF) x.id))=circF:=by decide
 rwa [e]at this
theorem Xs{o:List Cl}(h:KV o D)(k:Int)(h1:∀c∈o,c.dim<=k)(h2:∃c∈o,c.dim=k)(h0:0<=k):D=k:=by
 obtain⟨a,b,c⟩:=h;obtain⟨y,hy,e⟩:=h2;have:=b y hy;rcases c with c|⟨z,hz,c⟩
 ·omega
 ·have:=h1 z hz;omega
theorem Yy{W:List Int}(hD:KV (Fa circF 1 circC) D)(hl:W.length=(D+1).toNat)(key:∀d:Nat,((circB.filter (Br.at d 1)).length:Int)=if d<(D+1).toNat then W.getD d 0 else 0):W=[2]:=by
 obtain rfl:=Xs hD 0 (by decide) (by decide) (by decide)
 match W,hl with
 | [a],_=>
  have h:=key 0;have h2:((circB.filter (Br.at (0:Nat) 1)).length:Int)=2:=by decide
  rw[h2,ab (by decide)]at h;rw[h];rfl
theorem YV{W:List Int}(hD:KV (Fa circF 2 circC) D)(hl:W.length=(D+1).toNat)(key:∀d:Nat,((circB.filter (Br.at d 2)).length:Int)=if d<(D+1).toNat then W.getD d 0 else 0):W=[1,0]:=by
 obtain rfl:=Xs hD 1 (by decide) (by decide) (by decide)
 match W,hl with
 | [a,b],_=>
  have h:=key 0;have h':=key 1;have h2:((circB.filter (Br.at (0:Nat) 2)).length:Int)=1:=by decide
  have h3:((circB.filter (Br.at (1:Nat) 2)).length:Int)=0:=by decide
  rw[h2,ab (by decide)]at h;rw[h3,ab (by decide)]at h';have e1:a=1:=h.symm;have e2:b=0:=h'.symm;rw[e1,e2]
theorem TA(hp:Hp):FnT Tryz.prog 43 #[] hp [] (λr h' ms'=>hp.le h'/\∃gF mC A vC,r=.tuple #[.agg #[vC],.slice (some ⟨gF,0,none⟩) 4 4]/\ms'=[A8 gF 47 [.int .i64 1,.int .i64 0,.int .i64 2,.int .i64 1,.int .i64 3,.int .i64 2,.int .i64 4,.int .i64 5],mC]/\OwnL cC 3 52 mC vC A/\A.map Ce.c=OS (Fs 1)/\∀a∈A,RdL cD 2 h' [] a.v a.c.sd):=by show FnT _ _ (List.toArray []) _ _ _;refine Ao func43 ntmps43 Y Y (λw0 hw0=>?_);simp only[AX];refine Ap (Cx [.slice none 0 0] Y A0 Y Y (λg0=>Qm Y (BE (Qc call45 Y (IM 1 hp (by decide)) (λrC h2 ms2 l2 hF=>?_)))));obtain⟨l2',mC,A,vC,rfl,rfl,hOC,hA,hsd⟩:=hF;have oC:=hOC.o1;refine Qx (Be Wd [.int .i64 0,.int .i64 0] [(0,_)] [_,_] Y Ff Y Y Qt Y) Y (Qx (Be Wd [.int .i64 0,.int .i64 0] [(0,_),(1,_)] [_,_] Y Ff Y Y Qt Y) Y (Qx (Be Wd [.int .i64 0,.int .i64 0] [(0,_),(1,_)] [_,_] Y Ff Y Y Qt Y) Y (Qx (Be Wd [.int .i64 0,.int .i64 0] [(0,_),(1,_)] [_,_] Y Ff Y Y Qt Y) Y (AB [(0,_),(2,_),(4,_),(6,_)] [.int .i64 0,.int .i64 0,.int .i64 0,.int .i64 0,.int .i64 0,.int .i64 0,.int .i64 0,.int .i64 0] [_,_,_,_,_,_,_,_] Y Oi Ff Y ω κ Qt Y Y Y Y (λg7=>?_)))));refine Sa 2 [_] A0 Y (by simp[oC]) ?_;refine Qm Y (Am (An ?_));exact EX (vs:=[_]) 2 Y Y Y CN Y A0 Y Y (⟨l2',_,mC,A,vC,Y,Y,hOC,hA,hsd⟩)
end Go.Proofs.Q

namespace Go.Proofs.Q
open Go.Proofs.Tryz
open Go.Eng Go.RowKit
theorem Q7(h:Hp)(ms:List Hp):FnV Tryz.prog 12 #[] h ms (.bool true):=by
 refine FnV.weaken (h:=Hp.emp) (FnT.toV ?_) (Hp.emp_le h);show FnT _ _ (List.toArray []) _ _ _;refine Ao func12 ntmps12 Y Y (λw0 hw0=>?_);simp only[AX];refine Ap (Qm Y (BE (Qc call43 Y (TA Hp.emp) (λrC h2 ms2 l2 hF=>?_))));obtain⟨l2',gF,mC,A,vC,rfl,rfl,hOC,hA,hsd⟩:=hF;obtain⟨vF,hvF⟩:∃vF:Value,vF=.slice (some ⟨gF,0,none⟩) 4 4:=⟨_,Y⟩
 obtain⟨mF,hmF⟩:∃mF:Hp,mF=A8 gF 47 [.w 1,.w 0,.w 2,.w 1,.w 3,.w 2,.w 4,.w 5]:=⟨_,Y⟩
 rw[<-hvF,<-hmF];have hOF:OwnL cV 2 47 mF vF circF:=by rw[hmF,hvF];exact OwnL.blk (l:=circF) 4 Nt Y (by decide)
 have oC:=hOC.o1;have oF_:=hOF.o1;refine Qm Y (Qm Y (Qm Y (Cx [.slice none 0 0] Y A0 Y Y (λg1=>?_))));refine Sa 0 [_] A0 Y (by simp[oC,oF_]) ?_;refine Qm Y (Am (Bm 0 Y λh3 l3 hS=>(FW 1 hOC Y λh4 l4 hC=>?_)));have hR:RdC h4 vC A:=⟨hC,λa ha=>(hsd a ha).up (AI l3 l4)⟩
 have hA:A.map Ce.c=circC:=by rw[hA];exact Yw
 have hFA:RgtF (A.map Ce.c):=by rw[hA];exact circ_rgtF
 have hcn:cn A=circC:=by rw[Xm hFA,hA]
 have hAl:A.length=4:=by have:=bf List.length hA;rwa [af]at this
 have hK:RgC A:=⟨hFA.rgt,λa ha=>by
  have h1:a.c∈circC:=by rw[<-hA];exact ai.2 ⟨a,ha,Y⟩
  have h2:∀c∈circC,c.id<=1000000:=by decide
  exact h2 _ h1⟩
 have hS:=hS.le l4;refine Ap (Qx (oG Y CN A0 (Seg.any hS)) Y (Qm Y ?_));refine Bf (pre:=[mF]) Y call15 Y (FnT.borrow (λhj l1 l2=>KC A circF vC vF 2 hj hK (hR.up l1) (hOF.rdh l2) (Ir _ (.inl Y)) (λc=>by have:=circ_q.bI c;unfold BS;omega) (by rw[hcn];exact Lc) isP2 ω)) Y Y Y Y (λra h5 ms5 l5 hQ=>?_);obtain⟨l5',hj5,k5,ms5',lj5,⟨lk5,S,Rf,Vf,va,ma,rfl,rfl,hOa,Pa⟩,_,rfl,_⟩:=hQ;have oa:=hOa.o1;have hR:=hR.up l5;have hS:=hS.le l5;have H:PerH 2 circF A S Rf Vf:=⟨Pa,isP2,hK.F.rgt,by rw[hcn];exact circ_q.mon⟩
 have hbt:=H.betti;have hbars:=TR H hcn;rw[hbars]at hOa hbt;rw[hcn]at hbt;refine Qm Y (Qm Y (Qm Y (Qm Y (Qm Y (Am (FW 1 hOa Y λh6 l6 hBa=>?_))))));have hR:=hR.up l6;have hS:=hS.le l6;refine Ap (Qx (oG Y CN A0 (Seg.any hS)) Y (Qm Y ?_));refine Bf (pre:=[mF]) Y call19 Y (FnT.borrow (λhj l1 l2=>MA A circF vC vF 1 2 hj hK (hR.up l1) (hOF.rdh l2) (Ir _ (.inl Y)) (by rw[hcn];exact Lc) (by rw[hcn];exact Lh) isP2 (by decide) ω)) Y Y Y Y (λrb h7 ms7 l7 hQ=>?_);obtain⟨l7',hj7,k7,ms7',lj7,⟨lk7,D,rk,w1,m1,rfl,rfl,hO1,hD,hr0,hrk⟩,_,rfl,_⟩:=hQ;rw[hcn]at hO1 hD hrk;have e1:MQ (Fa circF 1 circC) rk (D+1).toNat=[2]:=Yy hD (by unfold MQ;rw[af,length_range]) (hbt 1 D rk hD hr0 hrk);rw[e1]at hO1;have ow1:=hO1.o1;refine Qm Y (Qm Y (Qm Y (Qm Y (Qm Y (Am (FW 1 hO1 Y λh8 l8 hW1=>?_))))));have l68:=AI l7 l8;have hR:=hR.up l68;have hS:=hS.le l68;refine Ap (Qx (oG Y CN A0 (Seg.any hS)) Y (Qm Y ?_));refine Bf (pre:=[mF]) Y call19 Y (FnT.borrow (λhj l1 l2=>MA A circF vC vF 2 2 hj hK (hR.up l1) (hOF.rdh l2) (Ir _ (.inl Y)) (by rw[hcn];exact Lc) (by rw[hcn];exact Lh) isP2 (by decide) ω)) Y Y Y Y (λrd h9 ms9 l9 hQ=>?_);obtain⟨l9',hj9,k9,ms9',lj9,⟨lk9,D',rk',w2,m2,rfl,rfl,hO2,hD',hr0',hrk'⟩,_,rfl,_⟩:=hQ;rw[hcn]at hO2 hD' hrk';have e2:MQ (Fa circF 2 circC) rk' (D'+1).toNat=[1,0]:=YV hD' (by unfold MQ;rw[af,length_range]) (hbt 2 D' rk' hD' hr0' hrk');rw[e2]at hO2;have ow2:=hO2.o1;refine Qm Y (Qm Y (Qm Y (Qm Y (Qm Y (Am (FW 1 hO2 Y λh10 l10 hW2=>(Ap (Qx (Be Zi [.w 0,.w 0,.w 0,.bool false,.w 0,.w 0] [(3,_),(4,_)] [_,_,_,_,_,_] Y F6 Y Y Qt Y) Y (Qx (Be Zi [.w 0,.w 0,.w 0,.bool false,.w 0,.w 0] [(1,_),(2,_),(4,_),(5,_)] [_,_,_,_,_,_] Y F6 Y Y Qt Y) Y (Qx (Be Zi [.w 0,.w 0,.w 0,.bool false,.w 0,.w 0] [(0,_),(1,_),(3,_),(4,_)] [_,_,_,_,_,_] Y F6 Y Y Qt Y) Y (AB [(0,_),(6,_),(12,_)] [.w 0,.w 0,.w 0,.bool false,.w 0,.w 0,.w 0,.w 0,.w 0,.bool false,.w 0,.w 0,.w 0,.w 0,.w 0,.bool false,.w 0,.w 0] [_,_,_,_,_,_,_,_,_,_,_,_,_,_,_,_,_,_] Y QE F6 Y ω κ Qt Y Y Y Y (λg39=>Qm Y (Am (Bm 0 Y λh11 l11 hS39=>?_))))))))))))));have l811:=AI l9 (AI l10 l11);have hR:=hR.up l811;have hS:=hS.le l811;refine Ac (BL (n:=9) (bs:=[false,true,true,false,false,false,false,false,false]) [false,true,true] CT κ κ Y Y (Qq Y (Qp Y (EZ 3 (hOF.rd (h:=h11) (ms:=[mF]) Mh).rd Y Oi Ff Y Y Y (by decide)) ?_)));unfold FS;simp only[bh,av];refine Qo 0 Y (Qx (oG Y CN A0 (Seg.any hS)) Y (Qw (Qo 3 Y (Bf (pre:=[mF]) Y call24 Y (FnT.borrow (λhj l1 l2=>Gi A (circF.take 3) vC (B0 2 vF 0 3) hj hK (hR.up l1) (show RdL cV 2 hj [] (B0 2 vF 0 3) (circF.take 3) from(hOF.rdh l2).sub_ (i:=0) (j:=3) (by decide) (by decide)) (Ir _ (.inr (.inl Y))))) Y Y Y Y (λrc h12 ms12 l12 hQ=>?_)))));obtain⟨l12',hj12,k12,ms12',lj12,hr12,_,rfl,_⟩:=hQ;rw[hcn,Ur]at hr12;subst hr12;refine Qa (BU 4 40 κ Y (by assumption) Y (As Y Y) (BU 5 45 κ Y (by assumption) Y (Ct Y Y Y) (BU 6 46 κ Y (by assumption) Y (Ct Y Y Y) (Qo 7 Y (Qm Y (Qa (Qo 8 Y (Qm Y (Qa (Qe (Ab ?_)))))))))));rw[hmF,hvF];refine Ap (Qm Y (Qx (Ch 1 Y Oi Ff Y Y Y ω) Y (Qf RD Y ?_)));refine AY 0 3 Y A3 Y Y Y Y (by rw[BW]) (by decide) rfl rfl ?_;simp only[List.set_cons_succ,List.set_cons_zero];refine Am (AA λh13 l13 hSF=>?_);have l1113:=AI l12 l13;have hR:=hR.up l1113;have hS:=hS.le l1113;have hFB:RdL cV 2 h13 [] (.slice (some ⟨gF,0,none⟩) 4 4) [(1,0),(2,3),(3,2),(4,5)]:=⟨⟨_,4,Y,by decide,by decide,Y,λ_=>⟨_,Y,hSF⟩⟩,Nt⟩
 refine Ap (Qx (oG Y CN A0 (Seg.any hS)) Y (Qm Y (Qc call24 Y (Gi A [(1,0),(2,3),(3,2),(4,5)] vC _ h13 hK hR hFB (Ir _ (.inr (.inr Y)))) (λrd h14 ms14 l14 hQ=>?_))));rw[hcn,Ug]at hQ;subst hQ;refine Qm Y (Qm Y (Qm Y (Qm Y (Qm Y (Am ?_)))));have hBa:=hBa.up (AI l68 (AI l811 (AI l1113 l14)));have hW1:=hW1.up (AI l811 (AI l1113 l14));have hW2:=hW2.up (AI l11 (AI l1113 l14));have hS39:=hS39.le (AI l1113 l14);have hB9:RdL JJ 6 h14 [] (.slice (some ⟨g39,0,none⟩) 3 3) circB:=⟨⟨_,3,Y,by decide,by decide,Y,λ_=>⟨_,Y,hS39⟩⟩,Kw⟩
 refine Ap (Qm Y (Qx (Cy (CD Y Y Y) (bf Value.bool (ag Y))) Y (Qm Y (Qg (As Y Y) Y (Qg (As Y Y) Y ?_)))));refine Qg (AG Y call17 Y ((by have:=UY circB circB va _ h14 hBa hB9 (ms14++ms12'.append []);rwa [ag rfl]at this))) rfl ?_;refine Qm Y (Qm Y (Qg (As Y Y) Y (Qg (Cy (CD Y Y Y) (bf Value.bool (ag Y))) Y (Qm Y (Qm Y (Qg (As Y Y) Y (Qg (Cy (CD Y Y Y) (bf Value.bool (ag Y))) Y (Qm Y (Qm Y (Qg (As Y Y) Y (RI Y Y Y Y (Aw [_] Y AP A3 Y (by rfl) Y Y ω Y Y Y (λg73=>D3 λh15 l15 hS73=>?_)))))))))))));refine Qg (AG Y call44 Y ((by have:=Kn [2] [2] w1 _ h15 (hW1.up l15) (PD 1 Bd hS73) (ms14++ms12'.append []);rwa [ag rfl]at this))) rfl ?_;refine Qm Y (Qm Y (Qg (As Y Y) Y (RI Y Y Y Y (AB [(0,_),(1,_)] [.w 0,.w 0] [_,_] Y AP A3 Y ω κ Qt Y Y Y Y (λg78=>D3 λh16 l16 hS78=>?_)))));have hR2:RdL cI 1 h16 [] (.slice (some ⟨g78,0,none⟩) 2 2) [1,0]:=⟨⟨_,2,Y,by decide,by decide,Y,λ_=>⟨_,Y,hS78⟩⟩,Bd⟩
 refine Qg (AG Y call44 Y ((by have:=Kn [1,0] [1,0] w2 _ h16 (hW2.up (AI l15 l16)) hR2 (ms14++ms12'.append []);rwa [ag rfl]at this))) rfl ?_;refine Qm Y (Qm Y (Qg (As Y Y) Y (Qg (Cy (CD Y Y Y) (bf Value.bool (ag Y))) Y (Qm Y (Qm Y (Qg (As Y Y) Y (Qg (Cy (CD Y Y Y) (bf Value.bool (ag Y))) Y (Qm Y (Qm Y (Qg (As Y Y) Y (Qg (Cy (CD Y Y Y) (bf Value.bool (ag Y))) Y (Qm Y (Qm Y (Qg (As Y Y) Y (Qg (Cy (CD Y Y Y) (bf Value.bool (ag Y))) Y (Qm Y (Qm Y (Am (An ?_)))))))))))))))))));exact Au Y Y (Y)
open Go.Lin Go.Sort Go.Srt
section
variable {l:List Ce} {F:List (Int×Int)} {v vf:Value} {p:Int} {hp:Hp}
def AbA(p:Int)(F:List (Int×Int))(l:List Ce)(r:Value)(h:Hp):Prop:=∃(S:List Ce) (R V:Nat->List Int) (vo er ev:Value),PersF p F l S R V/\r=.tuple #[vo,.agg #[.int .i64 p,.int .i64 S.length,.int .i64 S.length,er],.agg #[.int .i64 p,.int .i64 S.length,.int .i64 S.length,ev],.int .i64 0]/\RdL cI 1 h [] vo (En S)/\RdL cI 1 h [] er (BN S.length S.length (Ga R))/\RdL cI 1 h [] ev (BN S.length S.length (Ga V))
theorem Ra(hK:RgC l)(hR:RdC hp v l)(hF:RdL cV 2 hp [] vf F)(hV:HJ F)(h0:DU (cn l) F=(0,0))(hP:IsP p)(hl:l.length<=400):FnT Tryz.prog 26 #[.agg #[v],vf,.int .i64 p] hp [] (λr h' ms'=>hp.le h'/\ms'=[]/\AbA p F l r h'):=
 ((QZ l F v vf p hp hK hR hF hV h0 hP hl).frz3 λr h' ms' q=>by
  obtain⟨h1,S,R,V,vo,er,ev,mo,mr,mv,P,e1,e2,a1,a2,a3⟩:=q
  exact⟨mv,mr,mo,e2,λh2 l0 l1 l2 l3=>⟨AI h1 l0,Y,S,R,V,vo,er,ev,P,e1,a1.rdh l3,a2.rdh l2,a3.rdh l1⟩⟩)
theorem PK(hK:RgC l)(hR:RdC hp v l)(hF:RdL cV 2 hp [] vf F)(hV:HJ F)(Q:Vg (cn l) F)(hP:IsP p)(hl:l.length<=400):FnT Tryz.prog 33 #[.agg #[v],vf,.int .i64 p] hp [] (λr h' ms'=>hp.le h'/\ms'=[]/\AbA p F l r h'):=
 ((ON l F v vf p hp hK hR hF hV (by rw[Q.fst];exact hK.F.rgt.nd) Q.chk Q.mon hP hl).frz3 λr h' ms' q=>by
  obtain⟨h1,S,R,V,vo,er,ev,mo,mr,mv,P,e1,e2,a1,a2,a3⟩:=q
  exact⟨mo,mv,mr,e2,λh2 l0 l1 l2 l3=>⟨AI h1 l0,Y,S,R,V,vo,er,ev,P,e1,a1.rdh l1,a2.rdh l3,a3.rdh l2⟩⟩)
theorem XG(hK:RgC l)(hR:RdC hp v l)(hF:RdL cV 2 hp [] vf F)(hV:HJ F)(hI:∀c,BS (CF (Bj F) c))(h0:DU (cn l) F=(0,0))(hP:IsP p)(hl:l.length<=400):FnT Tryz.prog 15 #[.agg #[v],vf,.int .i64 p] hp [] (λr h' ms'=>hp.le h'/\ms'=[]/\∃(S:List Ce) (R V:Nat->List Int) (vb:Value),r=.tuple #[vb,.int .i64 0]/\RdL JJ 6 h' [] vb (Dc (CF (Bj F)) S (DC S R) S.length)/\PersF p F l S R V):=
 ((KC l F v vf p hp hK hR hF hV hI h0 hP hl).frz1 λr h' ms' q=>by
  obtain⟨h1,S,R,V,vb,mb,e1,e2,a1,P⟩:=q
  exact⟨mb,e2,λh2 l0 l1=>⟨AI h1 l0,Y,S,R,V,vb,e1,a1.rdh l1,P⟩⟩)
end
theorem Qn(sp be n:Nat)(L0 L:List Int)(G:List Nat)(v0 vG vL:Value)(hp:Hp)(hsp:sp<256)(hbe:be<256)(hn:n<256)(hG:∀g∈G,g<256)(hL0:RdL cI 1 hp [] v0 L0)(hRG:RdL (λg=>[.int .u8 (g:Nat)]) 1 hp [] vG G)(hL:RdL cI 1 hp [] vL L)(hLb:∀x∈L,BS x):FnT Tryz.prog 10 #[.agg #[.int .u8 sp,v0,vG,.int .u8 be],vL,.int .u8 n] hp [] (λr _ _=>r=.bool true):=by
 have o1:=hL0.rd.one;have o2:=hRG.rd.one;have o3:=hL.rd.one;refine Ao func10 ntmps10 Y Y (λw0 hw0=>?_);simp only[AX];refine Ap (AQ [_,_,_,_] Y Y (by rfl) Y Y Y (λg3=>Qm Y (Am (AA λh1 l1 hS=>?_))));have hL0:=hL0.up l1;have hRG:=hRG.up l1;have hL:=hL.up l1;refine Ap (Qx (AG Y call12 Y (Q7 _ _)) Y (Qm Y (BE (Qx (oG Y U25 Acb (Seg.any hS)) Y (Qc call13 Y (QP sp be L0 G v0 vG h1 hsp hbe hG hL0 hRG) (λrc h2 ms2 l2 hQ=>?_))))));obtain⟨l2',mC,A,vC,rfl,rfl,hOC,hCQ,hsd⟩:=hQ;have oC:=hOC.o1;refine Cx [.slice none 0 0] Y A0 Y Y (λg8=>?_);refine Sa 0 [_] A0 Y (by simp[o1,o2,o3,oC]) ?_;refine Am (AA λh3 l3 hS8=>(Bv hOC λh4 l4 hC=>?_));have hR:RdC h4 vC A:=⟨hC,λa ha=>(hsd a ha).up (AI l3 l4)⟩
 have hK:RgC A:=hCQ.rg (by decide);have hG:=hK.F.rgt;have hA80:A.length<=80:=by have:=hCQ.n;rwa [af]at this
 have hdim:∀x∈cn A,0<=x.dim/\x.dim<=7:=λx hx=>by obtain⟨b,hb,rfl⟩:=V6 hx;exact⟨(hG.bds hx).1.1,hCQ.d b.c (ai.2 ⟨b,hb,Y⟩)⟩
 have l24:=AI l2 (AI l3 l4);have hL:=hL.up l24;have hS8:=hS8.le l4;refine Ap (Qx (oG Y CN A0 (Seg.any hS8)) Y (Qm Y (Qc call14 Y (TX A vC vL L 1 h4 hK hR hL hLb (by decide)) (λrF h5 ms5 l5 hQ=>?_))));obtain⟨l5',mF,rfl,hOF⟩:=hQ;have QF:Vg (cn A) (GZ (cn A) L 1 (cn A).length):=Aah hG L 1 (by decide);generalize GZ (cn A) L 1 (cn A).length=F at hOF QF;have oF_:=hOF.o1;refine Qm Y (Am (Bv hOF λh6 l6 hF=>?_));have l46:=AI l5 l6;have hR:=hR.up l46;have hS8:=hS8.le l46;have hlF:F.length=A.length:=by have:=bf List.length QF.fst;rw[af,af,C0]at this;exact this
 have kF:∀q∈F,BS q.1:=λq hq=>by
  have hc:q.1∈(cn A).map Cl.id:=by rw[<-QF.fst];exact ai.2 ⟨q,hq,Y⟩
  obtain⟨x,hx,e⟩:=ai.1 hc;have h1:=hG.pos x hx;have h2:=hK.ci hx;rw[<-e];unfold BS;omega
 have VF:HJ F:=⟨ω,kF⟩
 have iF:∀c,BS (CF (Bj F) c):=λc=>by have:=QF.bI c;unfold BS;omega
 obtain⟨hP,hp2⟩:=AaC n;obtain⟨p,hpe⟩:∃p:Int,(Rn n:Int)=p:=⟨_,Y⟩
 rw[hpe]at hP hp2;refine Ap (Qm Y ?_);refine Qx (AG Y call18 Y ((by have:=UI n hn h6 [];rwa [hpe]at this))) rfl ?_;refine Qm Y (BE (Qx (oG Y CN A0 (Seg.any hS8)) Y (Qm Y (Qm Y (Qc call26 Y (Ra hK hR hF VF QF.chk hP ω) (λrr h13 ms13 l13 hQ=>?_))))));obtain⟨l13',rfl,S,R,V,vo,er,ev,P,rfl,aO,aR,aV⟩:=hQ;have oo:vo.oneCell'=true:=aO.rd.one;have or:er.oneCell'=true:=aR.rd.one;have ov:ev.oneCell'=true:=aV.rd.one;refine Qm Y (Qm Y (Qm Y (Qm Y (Qm Y (Cx [.w 0,.w 0,.w 0,.slice none 0 0] Y A7 Y Y (λg12=>Cx [.w 0,.w 0,.w 0,.slice none 0 0] Y A7 Y Y (λg13=>Qm Y ?_)))))));refine Sa 1 [_,_,_,_] A7 Y (by simp[o1,o2,o3,oC,oF_,oo,or,ov]) ?_;refine Sa 0 [_,_,_,_] A7 Y (by simp[o1,o2,o3,oC,oF_,oo,or,ov]) ?_;refine Qm Y (Am (AA λh14 l14 hS13=>(AA λh15 l15 hS12=>?_)));have l6a:=AI l13' (AI l14 l15);have hS13:=hS13.le l15;have hR:=hR.up l6a;have hF:=hF.up l6a;have hS8:=hS8.le l6a;have aO:=aO.up (AI l14 l15);have aR:=aR.up (AI l14 l15);have aV:=aV.up (AI l14 l15);have oo:vo.oneCell'=true:=aO.rd.one;refine Ap (Qx (oG Y CN A0 (Seg.any hS8)) Y (Qm Y (Qm Y (Qc call15 Y (XG hK hR hF VF iF QF.chk hP ω) (λrp h16 ms16 l16 hQ=>?_)))));obtain⟨l16',rfl,S1,R1,V1,vb,rfl,aB,P1⟩:=hQ;have ob:vb.oneCell'=true:=aB.rd.one;have hR:=hR.up l16';have hF:=hF.up l16';have hS8:=hS8.le l16';have hS12:=hS12.le l16';have hS13:=hS13.le l16';have aO:=aO.up l16';have aR:=aR.up l16';have aV:=aV.up l16';refine Qm Y (Qm Y (Qm Y (Qm Y (Qm Y (BE (Qx (oG Y CN A0 (Seg.any hS8)) Y (Qm Y (Qm Y (Qc call33 Y (PK hK hR hF VF QF hP ω) (λrr2 h17 ms17 l17 hQ=>?_))))))))));obtain⟨l17',rfl,S2,R2,V2,vo2,er2,ev2,P2,rfl,aO2,aR2,aV2⟩:=hQ;have oo2:vo2.oneCell'=true:=aO2.rd.one;have or2:er2.oneCell'=true:=aR2.rd.one;have ov2:ev2.oneCell'=true:=aV2.rd.one;refine Qm Y (Qm Y (Qm Y (Qm Y (Qm Y (Cx [.w 0,.w 0,.w 0,.slice none 0 0] Y A7 Y Y (λg18=>Cx [.w 0,.w 0,.w 0,.slice none 0 0] Y A7 Y Y (λg19=>Qm Y ?_)))))));refine Sa 1 [_,_,_,_] A7 Y (by simp[o1,o2,o3,oC,oF_,oo,ob,oo2,or2,ov2]) ?_;refine Sa 0 [_,_,_,_] A7 Y (by simp[o1,o2,o3,oC,oF_,oo,ob,oo2,or2,ov2]) ?_;refine Qm Y (Am (AA λh18 l18 hS19=>(AA λh19 l19 hS18=>?_)));have l1819:=AI l18 l19;have lz:=AI l17' l1819;have hR:=hR.up lz;have hF:=hF.up lz;have hS8:=hS8.le lz;have hS12:=hS12.le lz;have hS13:=hS13.le lz;have hS19:=hS19.le l19;have aO:=aO.up lz;have aR:=aR.up lz;have aV:=aV.up lz;have aB:=aB.up lz;have aO2:=aO2.up l1819;have aR2:=aR2.up l1819;have aV2:=aV2.up l1819;have oo2:vo2.oneCell'=true:=aO2.rd.one;have ob:vb.oneCell'=true:=aB.rd.one;have H:PerH p F A S R V:=⟨P,hP,hG,QF.mon⟩
 have H2:PerH p F A S2 R2 V2:=⟨P2,hP,hG,QF.mon⟩
 have hnd:(F.map Prod.fst).Nodup:=by rw[QF.fst];exact hG.nd
 have aBa:RdL JJ 6 h19 [] vb (Dc (CF (Bj F)) S (DC S R) S.length):=by rw[PersF.bars_same P1 P hP hG QF.mon];exact aB
 have aBb:RdL JJ 6 h19 [] vb (Dc (CF (Bj F)) S2 (DC S2 R2) S2.length):=by rw[PersF.bars_same P1 P2 hP hG QF.mon];exact aB
 have kP:=λms=>DZ (WZ A S F R V vC rF vo er ev p h19 hK hR hF hnd ω H aO aR aV) ms;have kC:=λms=>DZ (MY A S F R V vC rF vo er ev vb p h19 hK hR hF VF QF.chk ω H iF aO aR aV aBa) ms;have kC2:=λms=>DZ (MY A S2 F R2 V2 vC rF vo2 er2 ev2 vb p h19 hK hR hF VF QF.chk ω H2 iF aO2 aR2 aV2 aBb) ms;refine Ap (Qm Y (Qm Y (Qg (As Y Y) Y (Qg (Cy (CD Y Y Y) (bf Value.bool (ag Y))) Y (Qm Y (Qm Y (Qg (oG Y CN A0 (Seg.any hS8)) Y (Qg (As Y Y) Y (Qg (As Y Y) Y (Qg (As Y Y) Y (Qg (oG Y D8 A7 (Seg.any hS12)) Y (Qg (oG Y D8 A7 (Seg.any hS13)) Y (Qg (AG Y call38 Y (kP _)) Y (Qm Y (Qm Y (Qg (oG Y CN A0 (Seg.any hS8)) Y (Qg (As Y Y) Y (Qg (As Y Y) Y (Qg (As Y Y) Y (Qg (oG Y D8 A7 (Seg.any hS12)) Y (Qg (oG Y D8 A7 (Seg.any hS13)) Y (Qg (As Y Y) Y (Qg (AG Y call36 Y (kC _)) Y (Qm Y (Qm Y (Qg (oG Y CN A0 (Seg.any hS8)) Y (Qg (As Y Y) Y (Qg (As Y Y) Y (Qg (As Y Y) Y (Qg (oG Y D8 A7 (Seg.any hS18)) Y (Qg (oG Y D8 A7 (Seg.any hS19)) Y (Qg (As Y Y) Y (Qg (AG Y call36 Y (kC2 _)) Y (Qm Y (Qm Y (Am (An ?_)))))))))))))))))))))))))))))))))))));exact Au Y Y (Y)
theorem N7(sp be:Nat)(x:Int)(L0 L:List Int)(G:List Nat)(v0 vG vL:Value)(hp:Hp)(hsp:sp<256)(hbe:be<256)(hx:0<=x/\x<=255)(hG:∀g∈G,g<256)(hL0:RdL cI 1 hp [] v0 L0)(hRG:RdL (λg=>[.int .u8 (g:Nat)]) 1 hp [] vG G)(hL:RdL cI 1 hp [] vL L)(hLb:∀x∈L,BS x):FnT Tryz.prog 10 #[.agg #[.int .u8 sp,v0,vG,.int .u8 be],vL,.int .u8 x] hp [] (λr _ _=>r=.bool true):=by
 obtain⟨n,rfl⟩:∃n:Nat,x=n:=⟨x.toNat,(Int.toNat_of_nonneg hx.1).symm⟩
 exact Qn sp be n L0 L G v0 vG vL hp hsp hbe ω hG hL0 hRG hL hLb
end Go.Proofs.Q
namespace Go.Proofs.Q
open Go.Proofs.Tryz
open Go.Eng Go.ChangeShapes Go.WideShapes Go.ChangeAt Go.RowKit Go.Deep
section
variable {H:Type} {enc:TypeId×Value->H} {w:World} {base:Nat} {spare:Nat->Bool} {held:Bool}
theorem Nr{P:Program}{t:TypeId}{f0 f1 f2 f3:Field}{fuel:Nat}{cs:List Value}{x:DataW H×List MemPlace}(ht:P.underlying t=some (.struct #[f0,f1,f2,f3]))(h:DataW.trod enc P w base spare held fuel t cs=some x) :
  ∃y0 y1 y2 y3 n,cs.length=P.cellsOf t/\DataW.trod enc P w base spare held n f0.type ((cs.drop f0.offset).take (P.cellsOf f0.type))=some y0 ∧
   DataW.trod enc P w base spare held n f1.type ((cs.drop f1.offset).take (P.cellsOf f1.type))=some y1/\DataW.trod enc P w base spare held n f2.type ((cs.drop f2.offset).take (P.cellsOf f2.type))=some y2/\DataW.trod enc P w base spare held n f3.type ((cs.drop f3.offset).take (P.cellsOf f3.type))=some y3:=by
 obtain⟨xs,n,_,rfl,hl,hlen,hf⟩:=DataW.trod_struct ht h
 match xs,hlen with
 | [y0,y1,y2,y3],_=>exact⟨y0,y1,y2,y3,n,hl,by simpa using hf 0 f0 rfl,by simpa using hf 1 f1 rfl,by simpa using hf 2 f2 rfl,by simpa using hf 3 f3 rfl⟩
theorem MZ(n:Nat)(cs:List Value)(y:DataW H×List MemPlace)(h:DataW.trod enc Tryz.prog w base spare held n 5 cs=some y):∃a:Nat,cs=[.int .u8 (a:Nat)]/\a<256:=by obtain⟨b,h1,_,h2⟩:=DataW.trod_int U5 h;have h3:=bounds_u8 h2;exact⟨b.toNat,by rw[h1,Int.toNat_of_nonneg ω],ω⟩
theorem YB{v:Value}{fuel:Nat}{x:DataW H×List MemPlace}(h:DataW.trod enc Tryz.prog w base spare held fuel 23 [v]=some x):∃l,RdL (λg:Nat=>[.int .u8 (g:Nat)]) 1 (whole w) [] v l/\∀a∈l,a<256:=
 OO WG κ (λ_=>rfl) (by decide) MZ h
theorem QS{v:Value}{r:Reach}{b0:Nat}{d:DataW H}{ps:List MemPlace}(hval:Value.okWide Tryz.prog w r b0 25 v)(h:DataW.Trod enc Tryz.prog w base spare held 25 v d ps):∃(sp be:Nat) (v0 vG:Value) (L:List Int) (G:List Nat),v=.agg #[.int .u8 sp,v0,vG,.int .u8 be]/\sp<256/\be<256/\(∀g∈G,g<256)/\RdL cI 1 (whole w) [] v0 L/\RdL (λg:Nat=>[.int .u8 (g:Nat)]) 1 (whole w) [] vG G:=by
 obtain⟨cs,rfl,hc⟩:=okWide_struct U25 hval;obtain⟨fuel,hf⟩:=h;obtain⟨y0,y1,y2,y3,n,h0,h1,h2,h3,h4⟩:=Nr U25 hf;have hc3:cs.size=4:=hc.trans κ;obtain⟨l⟩:=cs
 match l,hc3 with
 | [c0,c1,c2,c3],_=>
  have h1:DataW.trod enc Tryz.prog w base spare held n 5 [c0]=some y0:=h1;have h2:DataW.trod enc Tryz.prog w base spare held n 22 [c1]=some y1:=h2;have h3:DataW.trod enc Tryz.prog w base spare held n 23 [c2]=some y2:=h3;have h4:DataW.trod enc Tryz.prog w base spare held n 5 [c3]=some y3:=h4;obtain⟨sp,e0,w0⟩:=MZ n _ _ h1;obtain⟨L,hR,hE⟩:=R8 h2;obtain⟨G,hG,hI⟩:=YB h3;obtain⟨be,e2,w2⟩:=MZ n _ _ h4;simp only[List.cons.injEq,and_true]at e0 e2;subst e0 e2;exact⟨sp,be,c1,c2,L,G,Y,w0,w2,hI,hR,hG⟩
end
end Go.Proofs.Q
