/- A part of the proof. -/
import Derived.Test.YtodheebhahdepaaGreatDoorME
import Derived.Shelf.Strings.Trim
import Derived.Shelf.Small.Utf8
import Derived.Shelf.Small.Bits
import Derived.Shelf.Small.Strs
import Derived.Shelf.Small.Wraps
import Derived.Shelf.Strconv.Itoa0
import Derived.Shelf.Strings.Search1
import Derived.Shelf.Sort.Plain
import Derived.Shelf.Unicode.Decode
import Derived.Shelf.Strings.Runes
import Derived.Shelf.Strings.AsciiSet
import Derived.Shelf.Bits.Mul64
import Derived.Shelf.Unicode.DecodeSlow
import Derived.Shelf.Unicode.DecodeAny
import Derived.Shelf.Slices.Equal
import Derived.Ground.Names2Prog
import Derived.Shelf.Slices.Clone
import Derived.Shelf.Slices.CompactI
import Derived.Shelf.Slices.SearchI
import Derived.Shelf.Slices.Cells
import Derived.Shelf.Slices.In.SortNone
import Derived.Shelf.Slices.Empties
import Derived.Shelf.Slices.Empties2
import Derived.Ground.SlgnProg
import Derived.Shelf.SlicesE.Clone
import Derived.Test.YtodheebhahdepaaGreatDoorProg
import Derived.Sort.OwnSortedInts
import Derived.Lib.SlicesCompact
set_option linter.unusedSimpArgs false
set_option linter.unusedVariables false
set_option linter.unusedSectionVars false
set_option maxRecDepth 100000
set_option maxHeartbeats 4000000
open List (length_map getElem_mem replicate range length_append nil_append mem_cons cons_append append_nil length_set getElem_of_mem take_of_length_le)
namespace Go.Proofs.Q
open Go.Proofs.Tryz
open Go.Eng Go.RowKit Go.Lin Go.Sort Go.Srt
variable {e:Entry} {Q:Exit->Act->World->Prop} {ops:Array Oper} {s:AB} {h:Hp} {ms:List Hp}
def WJ(f:Int->Int)(S:List Ce):Prop:=S.Pairwise fun a b=>f a.c.id<f b.c.id\/(f a.c.id=f b.c.id/\(a.c.dim<b.c.dim\/(a.c.dim=b.c.dim/\a.c.id<=b.c.id)))
theorem Y2{f:Int->Int}{l:List CeI}(h:l.Pairwise fun a b=>¬Oy f b a<0):WJ f (l.map CeI.ce):=by unfold WJ;rw[List.pairwise_map];refine h.imp fun {a b} h=>?_;rw[Kr]at h;show f a.c.id<f b.c.id\/(f a.c.id=f b.c.id/\(a.c.dim<b.c.dim\/(a.c.dim=b.c.dim/\a.c.id<=b.c.id)));omega
def box0:List Value:=.int .i64 0::.slice none 0 0::.map none::.slice none 0 0::.slice none 0 0::replicate 400 (.int .i64 0)
theorem Wh(p:Int)(vA:Value)(gL:Nat):MV box0 [(0,[.int .i64 p]),(1,[vA]),(2,[.map (some gL)])]=FA p vA gL (.slice none 0 0) (.slice none 0 0) (replicate 400 0):=by unfold box0 FA;rw[List.map_replicate];rfl
theorem UE:box0.length=405:=by unfold box0;simp
theorem Aa5{v:Value}(h:v.oneCell'=true):∀a∈[v],∀c∈cU a,c.oneCell'=true:=fun a ha c hc=>by rw[List.mem_singleton.1 ha]at hc;rw[List.mem_singleton.1 (show c∈[v] from hc)];exact h
theorem GP{rest:List Oper}{o:Oper}{d g:Nat}{x y:Operand}{v q:Value}{m:Hp}{l:List Value}(i:Nat)(O:OwnL cU 1 22 m v l)(hm:A7 g 22 [q]∈ms)(hl:l.length<=400)(hP:e.P=Tryz.prog)(ho:o.op=.call { callee:=.builtin .append,args:=#[x,y],argTypes:=#[81,81] })
  (hx:ev s x=some v) (hy:ev s y=some (.slice (some ⟨g,0,none⟩) 1 1)) (hi:ms[i]?=some m) (hq:q.oneCell'=true) (hd:o.dst=some d) (hn:Nat.blt d e.n=true) (hg:o.guard=none) (K:∀v' m',OwnL cU 1 22 m' v' (l++[q])->WL e ops Q rest ((d,v')::s) h (ms.set i m')):WL e ops Q (o::rest) s h ms:=
 Bj i O (RdL.one NK (x:=q) hm rfl) ho (hP ▸ Ck) (hP ▸ Cw) rfl (by omega) hx hy hi (Aa5 hq) (by simp only[List.length_singleton];omega) (by simp only[List.length_singleton];omega) hd hn hg K
theorem FB{rest:List Oper}{o:Oper}{d n c:Nat}{x:Operand}{a:Option Addr}(hP:e.P=Tryz.prog)(ho:o.op=.buildSlice 81 1 #[(0,x)])(hx:ev s x=some (.slice a n c))(hd:o.dst=some d)(hn:Nat.blt d e.n=true)(hg:o.guard=none)(k:∀g,WL e ops Q rest ((d,.slice (some ⟨g,0,none⟩) 1 1)::s) h (A7 g 22 [.slice a n c]::ms)):WL e ops Q (o::rest) s h ms:=
 Aq [_] ho (hP ▸ Ck) (hP ▸ Cw) hx rfl rfl rfl (by simp) hd hn hg k
theorem Uq{h0:Hp}{n:Nat}{listed:Array Bool}(n2:Nat)(L2:Array Bool)(I:AB->List Hp->Prop)(k1:∀L s ms,L=L2->I s ms->WB e ops Q h0 n2 L s h ms)(k2:(∀L s ms,L=L2->I s ms->WB e ops Q h0 n2 L s h ms)->WB e ops Q h0 n listed s h ms):WB e ops Q h0 n listed s h ms:=k2 k1
theorem Ww(l:List Ce)(F:List (Int×Int))(v vf:Value)(p:Int)(hp:Hp)(hK:RgC l)(hR:RdC hp v l)(hF:RdL cV 2 hp [] vf F)(hV:QI F)(h0:HM (cn l) F=(0,0))(hP:IsP p)(hl:l.length<=400):FnT Tryz.prog 91 #[.agg #[v],vf,.int .i64 p] hp [] (fun r h' ms'=>hp.le h'/\∃(gm gA:Nat) (mA:Hp) (bs:List Nat) (S:List Ce) (vc vr vv:Value) (Rs Vs:List Value) (mR mV:Hp),r=.tuple #[.pointer (some ⟨gm,0,none⟩),.int .i64 0]/\ms'=[A7 gm 130 (FA p vc gA vr vv (replicate 400 0)),mR,mV]/\Ci kN kN gA BD mA (BQ F) bs/\mA.le h'/\RdL cC 3 h' [] vc S/\RdL cU 1 h' [] vr Rs/\RdL cU 1 h' [] vv Vs/\ColsO mR Rs ((range S.length).map (J5 p S))/\ColsO mV Vs ((range S.length).map (Fp S.length))/\(S.map Ce.c).Perm (cn l)/\WJ (Ed (BQ F)) S/\∀a∈S,RdL cD 2 h' [] a.v a.c.sd):=by
 have o1:=hR.q.rd.one;have o2:=hF.rd.one;have hp1:=hP.1;have hp2:=hP.2.1;have hG:=hK.F.rgt;refine Ao func91 ntmps91 rfl rfl (fun w0 hw0=>?_);simp only[AU];refine As (AS [_] rfl rfl (by rfl) rfl rfl rfl (fun g3=>Qm rfl (Qm rfl (An (Aw fun h1 l1 hS=>?_)))));have hR:=hR.up l1;have hF:=hF.up l1;have hck:=JF l F v vf h1 hK hR hF hV;rw[h0]at hck;refine Ac (As (Qx (oG rfl Dt A6 (Seg.any hS)) rfl (Qm rfl (Qx (AF rfl call24 rfl (F6 hck _)) rfl (Qm rfl (Qm rfl (Qm rfl (Qm rfl (Qm rfl (Bv (Qm rfl (Qm rfl (An (Au rfl (fun hc=>absurd hc (fun h=>h rfl)) (fun hc=>Ah (Ab (As (Qm rfl (Qx (oG rfl Dt A6 (Seg.any hS)) rfl (Qc call65 rfl (Jt l v _ hK hR) (fun rC h2 ms2 l2 hQ=>?_)))))))))))))))))))));obtain⟨l2',mC,A,vA,rfl,rfl,hOC,hAl,hsA⟩:=hQ;have hF:=hF.up l2;refine Qx (Em rfl Dt rfl Bs rfl rfl rfl) rfl (Qm rfl (Qc call66 rfl (Ju F vf _ hF hV.n hV.k) (fun rL h3 ms3 l3 hL=>?_)));obtain⟨l3',gL,mL,bL,rfl,rfl,hOL⟩:=hL;have hsA:=fun a ha=>(hsA a ha).up l3
 have hAid:∀a∈A,BD a.c.id:=fun a ha=>by
  have h1:a.c∈cn l:=by rw[<-hAl];exact List.mem_map.2 ⟨a,ha,rfl⟩
  have h2:=hG.pos _ h1;have h3:=hK.ci h1;unfold BD;omega
 obtain⟨A,rfl⟩:=WK A fun a ha=>⟨(hsA a ha).rd.one,hAid a ha⟩
 have hOC:=own_ceI.1 hOC;have ovA:=hOC.o1;have cvA:vA.cells=#[vA]:=(hOC.rd (h:=h3) (ms:=[mC]) Mh).rd.cells;refine Qx (A0 Aa3 box0 [(0,[_]),(1,[vA]),(2,[_])] (FA p vA gL (.slice none 0 0) (.slice none 0 0) (replicate 400 0)) rfl Abp (by kernel_rfl) rfl (by rw[UE];exact⟨⟨rfl,rfl,rfl⟩,⟨cvA,rfl,rfl⟩,⟨rfl,rfl,rfl⟩,trivial⟩) (Wh p vA gL)) rfl ?_;refine AS (FA p vA gL (.slice none 0 0) (.slice none 0 0) (replicate 400 0)) rfl rfl rfl rfl rfl rfl (fun g34=>CC [.pointer none] rfl Abo rfl rfl (fun g10=>AK 0 0 rfl Abo rfl rfl (by rfl) rfl rfl (by decide) rfl rfl (An (Aw fun h4 l4 hG10=>(EV 1 rfl (BE fun h5 l5 lL=>(GI fun h6 l6 lG dG LG=>?_)))))));have l36:=AJ l4 (AJ l5 l6);have hG6:=hG10.le (AJ l5 l6);have hS6:=Seg.ofLe lG;have e10:∀ms,Cell h6 ms (⟨g10,0,none⟩:Addr) (.pointer (some ⟨g34,0,none⟩)):=fun ms=>Seg.all hG6 0 _ rfl ms;have e1:∀ms,Cell h6 ms (⟨g34,1,none⟩:Addr) vA:=fun ms=>Seg.all hS6 1 _ rfl ms;have e2:∀ms,Cell h6 ms (⟨g34,2,none⟩:Addr) (.map (some gL)):=fun ms=>Seg.all hS6 2 _ rfl ms;have hAlen:A.length=l.length:=by have:=congrArg List.length hAl;rw[Ej]at this;simpa using this
 have hOC6:=hOC.rd (h:=h6) (ms:=[mC]) Mh;have hpv:=NA p h6 (by unfold BD;omega);rw[decide_eq_true hP]at hpv;refine Ac (Ae (As (Qm rfl (Qx (AF rfl call54 rfl (hpv _)) rfl (Qm rfl (Qm rfl (An (AQ rfl (As (Ql rfl Ug (e10 _) (Qm rfl (Qf FF rfl (Ql rfl Bs (e1 _) (Qx (Ar hOC6.rd rfl Bs rfl) rfl (Qm rfl (Qm rfl (An ?_)))))))))))))))));refine Au rfl (fun hc=>absurd hc (fun h=>by omega)) (fun hc=>?_);refine Ah (Ai (Ab (As (Ql rfl Ug (e10 _) (Qm rfl (Qf FF rfl (Ql rfl Bs (e1 _) (Qx (Bk rfl rfl rfl) rfl (A8 (pre:=[mC]) rfl call147 rfl (TQ (BQ F) gL g34 g10 mL bL A vA mC h6 e10 e2 hOL (AJ lL l6) hOC (by omega)) rfl rfl rfl rfl (fun _ h7 ms7 l7 hQ=>?_))))))))));obtain⟨rfl,A',mC',rfl,hOC',hpm,hsr⟩:=hQ;refine An (FL LG lG fun h7 q7 b7=>(EV 1 rfl (BN (own_ceI.2 hOC') fun h8 l8 hQ=>?_)));have l57:h5.le h7:=b7 _ l6 dG;have l58:=AJ l57 l8;have hG8:=hG10.le (AJ l5 l58);have lL8:=AJ lL l58;have l38:=AJ l4 (AJ l5 l58);have e10:∀ms,Cell h8 ms (⟨g10,0,none⟩:Addr) (.pointer (some ⟨g34,0,none⟩)):=fun ms=>Seg.all hG8 0 _ rfl ms;obtain⟨S,hSe⟩:∃S,A'.map CeI.ce=S:=⟨_,rfl⟩
 have hsrt:=Y2 hsr;have hSp:S.Perm (A.map CeI.ce):=by rw[<-hSe];exact hpm.map _
 have hSc:(S.map Ce.c).Perm (cn l):=by rw[<-hAl];exact hSp.map _
 have hSA:∀a∈S,RdL cD 2 h8 [] a.v a.c.sd:=fun a ha=>(hsA a (hSp.mem_iff.1 ha)).up l38;have hSi:∀a∈S,BD a.c.id:=fun a ha=>hAid a (hSp.mem_iff.1 ha)
 have hSs:∀a∈S,a.c.sd.length<=64/\∀s∈a.c.sd,BD s.1/\(s.2=1\/s.2=-1):=fun a ha=>by have h1:a.c∈cn l:=hSc.mem_iff.1 (List.mem_map.2 ⟨a,ha,rfl⟩);refine⟨(hK.F.bds h1).2.1,fun s hs=>⟨?_,hG.sgn _ h1 s hs⟩⟩;obtain⟨y,hy,e,_⟩:=hG.sid _ h1 s hs;have h2:=hG.pos _ hy;have h3:=hK.ci hy;rw[<-e];unfold BD;omega
 have hSn:S.length<=400:=by have:=hSc.length_eq;rw[length_map,Ej]at this;omega
 rw[hSe]at hsrt hQ;have ovA:=hQ.rd.one;refine As (CO (K:=kN) (V:=kN) (Ok:=BD) rfl rfl rfl rfl (fun gP mP hP0=>Qm rfl (An (BB (BB (BB (BB (Ac (As (Ql rfl Ug (e10 _) (Qm rfl (Qf FF rfl (Ql rfl Bs (Cell.blk 5 (k:=1) rfl rfl) (Qx (Ar hQ.rd.any rfl Bs rfl) rfl (Qm rfl (An (Ae ?_)))))))))))))))))
 refine Az (fun q sl h' ms'=>∃(j:Nat) (vr vv:Value) (mr mv mR mV mP:Hp) (Rs Vs:List Value) (bs:List Nat),q=S.length-j/\sl=[(2,.int .i64 p),(10,.pointer (some ⟨g10,0,none⟩)),(11,.map (some gP)),(56,vA),(57,.int .i64 S.length),(58,.int .i64 j)]/\h8.le h'/\ms'=[mr,mv,mR,mV,mP,A7 g34 130 (FA p vA gL vr vv (replicate 400 0))]/\j<=S.length/\Ci kN kN gP BD mP (D9 S j) bs/\OwnL cU 1 22 mr vr Rs/\OwnL cU 1 22 mv vv Vs/\ColsO mR Rs ((range j).map (J5 p S))/\ColsO mV Vs ((range j).map (Fp S.length))/\Rs.length=j/\Vs.length=j)
  (S.length-0) _ ⟨0,.slice none 0 0,.slice none 0 0,Hp.emp,Hp.emp,Hp.emp,Hp.emp,mP,[],[],[],rfl,rfl,CY,rfl,by omega,hP0,OwnL.nil NK,OwnL.nil NK,rfl,rfl,rfl,rfl⟩ Qs ?_
 rintro q sl h' ms' ⟨j,vr,vv,mr,mv,mR,mV,mP,Rs,Vs,bs,rfl,rfl,l9,rfl,hj,hO,Or,Ov,CR,CV,hRl,hVl⟩;have hQ:=hQ.up l9;have e10:∀ms,Cell h' ms (⟨g10,0,none⟩:Addr) (.pointer (some ⟨g34,0,none⟩)):=fun ms=>(e10 ms).le l9;have ovr:=Or.o1;have ovv:=Ov.o1;refine As (Qm rfl (An (Ac ?_)));refine Au rfl (fun hlt=>?_) (fun hlt=>?_)
 ·have hjl:j<S.length:=by omega
  obtain⟨x,hx⟩:∃x,S[j]=x:=⟨_,rfl⟩
  have hxm:x∈S:=by rw[<-hx];exact getElem_mem hjl
  have hgx:S.getD j default=x:=by simp[List.getD,hjl,hx]
  have hX:=(hSA x hxm).up l9;have oxv:=hX.rd.one;have hxI:=hSi x hxm;obtain⟨hxn,hxs⟩:=hSs x hxm;have hsx:∀ms,Seg h' ms ((AG vA).add (j*3)) (cC x):=fun ms=>by rw[<-hx];exact(hQ.any (ms:=ms)).seg hjl
  refine Ah (Ab ?_);refine A3 (fun sl h'' ms'=>∃(vr' vv' va vb:Value) (mr' mv' mc mo mP':Hp) (bs':List Nat),sl=[(2,.int .i64 p),(10,.pointer (some ⟨g10,0,none⟩)),(11,.map (some gP)),(56,vA),(57,.int .i64 S.length),(58,.int .i64 j)]/\h'.le h''/\ms'=[A7 g34 130 (FA p vA gL vr' vv' (replicate 400 0)),mP',mc,mo,mr',mv',mR,mV]/\Ci kN kN gP BD mP' (D9 S (j+1)) bs'/\OwnL cU 1 22 mr' vr' (Rs++[va])/\OwnL cU 1 22 mv' vv' (Vs++[vb])/\OwnL cI 1 3 mc va (J5 p S j)/\OwnL cI 1 3 mo vb (Fp S.length j)) ?_ (fun s h ms hI=>?_)
  ·refine Ae (As (Qm rfl (Qx (BS (j) hQ.rd.any rfl Bs AI rfl rfl) rfl (Qx (oG rfl Fb AI (hsx _)) rfl (CC [.int .i64 0,.int .i64 0,.slice none 0 0] rfl AI rfl rfl (fun g13=>Qm rfl ?_))))));refine Sa 0 [_,_,_] AI rfl (by simp[o1,o2,ovA,oxv,ovr,ovv]) ?_;refine An (Aw fun h10 l10 hS13=>?_);have e130:∀ms,Cell h10 ms (⟨g13,0,none⟩:Addr) (.int .i64 x.c.id):=fun ms=>Seg.all hS13 0 _ rfl ms;refine As (Qm rfl (Qf Bz rfl (Ql rfl U3 (e130 _) (Qm rfl (BJ (V:=kN) (z:=undef) 4 x.c.id (j:Int) Bi hO rfl rfl LV rfl rfl rfl hxI rfl rfl (fun mP' bs' hO'=>?_))))));have hpl:D9 S (j+1)=CQ (D9 S j) x.c.id (j:Int):=by rw[<-hgx];rfl
   rw[<-hpl]at hO';refine An (EV 5 rfl (GI fun h11 l11 lG dG LG=>(EV 4 rfl (GI fun h12 l12 lP dP LP=>?_))));have l912:=AJ l10 (AJ l11 l12);have hX:=hX.up l912;have hS12:=(Seg.ofLe lG).le l12;have e10':∀ms,Cell h12 ms (⟨g10,0,none⟩:Addr) (.pointer (some ⟨g34,0,none⟩)):=fun ms=>(e10 ms).le l912;have e11':∀ms,Cell h12 ms (⟨g34,1,none⟩:Addr) vA:=fun ms=>Seg.all hS12 1 _ rfl ms;have e132':∀ms,Cell h12 ms (⟨g13,2,none⟩:Addr) x.v:=fun ms=>((Seg.all hS13 2 _ rfl ms).le l11).le l12;have e130':∀ms,Cell h12 ms (⟨g13,0,none⟩:Addr) (.int .i64 x.c.id):=fun ms=>((e130 ms).le l11).le l12;have hQ12:=hQ.up l912;refine A3 (fun sl h' ms'=>∃ga gb:Nat,sl=[(2,.int .i64 p),(10,.pointer (some ⟨g10,0,none⟩)),(11,.map (some gP)),(12,.int .i64 j),(13,.pointer (some ⟨g13,0,none⟩)),(14,.slice (some ⟨ga,0,none⟩) S.length S.length),(15,.slice (some ⟨gb,0,none⟩) S.length S.length),(56,vA),(57,.int .i64 S.length),(58,.int .i64 j)]/\h12=h'/\ms'=[A7 ga 3 (replicate S.length (.int .i64 0)),A7 gb 3 (replicate S.length (.int .i64 0)),mr,mv,mR,mV]) ?_ (fun s h ms hI=>?_)
   ·refine BF (n:=14) (bs:=[true,true,true,true,true,false,true,true,true,true,true,false,false,false]) [true,true,true,true,true,false,true,true,true,true,true] CP (by kernel_rfl) (by kernel_rfl) rfl rfl (QL rfl Ug (e10' _) (Qq rfl (QF FF rfl (QL rfl Bs (e11' _) (Qp rfl (Ar hQ12.rd.any rfl Bs rfl) (QL rfl Ug (e10' _) (Qq rfl (QF FF rfl (QL rfl Bs (e11' _) (Qp rfl (Ar hQ12.rd.any rfl Bs rfl) ?_))))))))));unfold FN;simp only[cons_append,nil_append];refine Ba [5,11] (by kernel_rfl) rfl ?_;refine AD rfl ?_ ?_
    ·refine CM (n:=_) rfl AY Be rfl rfl rfl (by rfl) (by rfl) (by omega) (by omega) rfl rfl rfl (fun g72=>Qw (Ba [11,12] (by kernel_rfl) rfl ?_));refine AD rfl ?_ ?_
     ·refine CM (n:=_) rfl AY Be rfl rfl rfl (by rfl) (by rfl) (by omega) (by omega) rfl rfl rfl (fun g78=>Qw (Qo 12 rfl (Qm rfl (Qw (Qo 13 rfl (Qm rfl (Qw (Qe ?_))))))))
      (refine Hs (List.Perm.swap _ _ _) ?_;exact AA _ ⟨g72,g78,rfl,rfl,rfl⟩ Qs)
     refine AD rfl ?_ ?_
     ·refine Qm rfl (Qw (Qo 11 rfl (CM (n:=_) rfl AY Be rfl rfl rfl (by rfl) (by rfl) (by omega) (by omega) rfl rfl rfl (fun g78=>Qw (Qo 13 rfl (Qm rfl (Qw (Qe ?_))))))))
      (refine Hs (List.Perm.swap _ _ _) ?_;exact AA _ ⟨g72,g78,rfl,rfl,rfl⟩ Qs)
     exact Bb
    refine AD rfl ?_ ?_
    ·refine CM (n:=_) rfl AY Be rfl rfl rfl (by rfl) (by rfl) (by omega) (by omega) rfl rfl rfl (fun g78=>Qw (Qo 5 rfl (CM (n:=_) rfl AY Be rfl rfl rfl (by rfl) (by rfl) (by omega) (by omega) rfl rfl rfl (fun g72=>Qw (Qo 12 rfl (Qm rfl (Qw (Qo 13 rfl (Qm rfl (Qw (Qe ?_)))))))))));exact AA _ ⟨g72,g78,rfl,rfl,rfl⟩ Qs
    exact Bb
   ·obtain⟨ga,gb,rfl,rfl,rfl⟩:=hI;have hO1:OwnL cI 1 3 (A7 ga 3 (replicate S.length (.int .i64 0))) (.slice (some ⟨ga,0,none⟩) S.length S.length) (Ft p S j 0):=OwnL.rep _ 0 (by omega);have hO2:OwnL cI 1 3 (A7 gb 3 (replicate S.length (.int .i64 0))) (.slice (some ⟨gb,0,none⟩) S.length S.length) (replicate S.length 0):=OwnL.rep _ 0 (by omega);have hpP:0<j+1:=by omega
    refine Ac (As (Qf Bu rfl (Ql rfl BL (e132' _) (Qx (Ar hX.rd.any rfl BL rfl) rfl (Qm rfl (An (Ae ?_)))))))
    refine Az (fun q sl h' ms'=>∃(k:Nat) (mc:Hp),q=x.c.sd.length-k/\sl=[(2,.int .i64 p),(10,.pointer (some ⟨g10,0,none⟩)),(11,.map (some gP)),(12,.int .i64 j),(14,.slice (some ⟨ga,0,none⟩) S.length S.length),(15,.slice (some ⟨gb,0,none⟩) S.length S.length),(56,vA),(57,.int .i64 S.length),(58,.int .i64 j),(80,x.v),(81,.int .i64 x.c.sd.length),(82,.int .i64 k)]/\h12.le h'/\ms'=[mc,A7 gb 3 (replicate S.length (.int .i64 0)),mr,mv,mR,mV]/\k<=x.c.sd.length/\OwnL cI 1 3 mc (.slice (some ⟨ga,0,none⟩) S.length S.length) (Ft p S j k))
     (x.c.sd.length-0) _ ⟨0,_,rfl,rfl,CY,rfl,by omega,hO1⟩ Qs ?_
    rintro q sl h13 ms' ⟨k,mc,rfl,rfl,l13,rfl,hk,hOc⟩;have hX:=hX.up l13;refine As (Qm rfl (An (Ac ?_)));refine Au rfl (fun hlk=>?_) (fun hlk=>?_)
    ·have hkl:k<x.c.sd.length:=by omega
     obtain⟨s,hs⟩:∃s,x.c.sd[k]=s:=⟨_,rfl⟩
     have hsm:s∈x.c.sd:=by rw[<-hs];exact getElem_mem hkl
     obtain⟨hs1,hs2⟩:=hxs s hsm;have hss:∀ms,Seg h13 ms ((AG x.v).add (k*2)) (cD s):=fun ms=>by rw[<-hs];exact(hX.any (ms:=ms)).seg hkl
     have hplt:pl S (j+1) s.1<(Ft p S j k).length:=by rw[Gf];have:=Aa4 S hpP s.1;omega
     have hcs:Ft p S j (k+1)=(Ft p S j k).set (pl S (j+1) s.1) ((s.2+p)%p):=by
      have hkg:k<(S.getD j default).c.sd.length:=by rw[hgx];exact hkl
      rw[Mv hkg];have:(S.getD j default).c.sd[k]=s:=by simp only[hgx,hs]
      rw[this]
     rw[Gf]at hplt;refine Ah (Ab (Ac (Ae (As (Qx (BS (k) hX.rd.any rfl BL AH rfl rfl) rfl (Qx (oG rfl DJ AH (hss _)) rfl (CC [.int .i64 0,.int .i64 0] rfl AH rfl rfl (fun g17=>?_))))))));refine Sa 0 [_,_] AH rfl (by simp[Value.oneCell']) ?_;refine An (Aw fun h14 l14 hS17=>?_);have e170:∀ms,Cell h14 ms (⟨g17,0,none⟩:Addr) (.int .i64 s.1):=fun ms=>Seg.all hS17 0 _ rfl ms;have e171:∀ms,Cell h14 ms (⟨g17,1,none⟩:Addr) (.int .i64 s.2):=fun ms=>Seg.all hS17 1 _ rfl ms;refine Bc 11 CP (by kernel_rfl) rfl (Wm rfl (Wm rfl (Wf B4 rfl (Wl rfl U3 (e170 _) (AP (Cb (V:=kN) (z:=(0:Int)) (u:=((pl S (j+1) s.1:Nat):Int)) s.1 (Si S (j+1) s.1).symm Bi hO' (AJ lP (AJ l13 l14)) rfl LV HZ rfl rfl hs1) rfl rfl (Wf Cp rfl (Wl rfl U3 (e171 _) (Wm rfl (AP (oA rfl) rfl rfl (Wm rfl (AP (BV rfl rfl rfl (by omega) (by omega)) rfl rfl (AZ (Qx (Cs (pl S (j+1) s.1) rfl AY Be rfl rfl (by omega) (by omega)) rfl ?_)))))))))))));refine Dc 0 (pl S (j+1) s.1) hOc rfl Be rfl rfl rfl (by rw[Gf];exact hplt) rfl rfl (fun mc' hOc'=>?_);rw[<-hcs]at hOc';refine Aj (Ai (Ab (Ad (Qx (oA rfl) rfl (Qm rfl (Aj ?_))))));exact Ak (x.c.sd.length-(k+1)) _ (by omega) ⟨k+1,mc',rfl,rfl,AJ l13 l14,rfl,by omega,hOc'⟩ Qs
    ·obtain rfl:k=x.c.sd.length:=by omega
     refine Av (Aa (Aa (Af (Ab (As (Qm rfl (Qm rfl (Qx (Cs (j) rfl AY Be rfl rfl (by omega) (by omega)) rfl ?_))))))));refine Dc 1 j hO2 rfl Be rfl rfl rfl (by simp;omega) rfl rfl (fun mo' hO2'=>?_);refine An (FL LP (AJ lP l13) fun h14 q14 b14=>(FL LG (b14 _ (AJ lG (AJ l12 l13)) (FK lG dP)) fun h15 q15 b15=>?_));have l1015:h10.le h15:=b15 _ (b14 _ (AJ l11 (AJ l12 l13)) (FK l11 dP)) dG;have l915:=AJ l10 l1015;have e10:∀ms,Cell h15 ms (⟨g10,0,none⟩:Addr) (.pointer (some ⟨g34,0,none⟩)):=fun ms=>(e10 ms).le l915;have hcD:Ft p S j x.c.sd.length=J5 p S j:=by unfold J5;rw[hgx]
     rw[hcD]at hOc;refine BF (n:=22) (bs:=[true,true,true,true,true,false,true,false,false,true,true,true,false,true,false,false,true,true,false,true,true,false]) [true,true,true,true,true,false,true,false,false,true,true,true,false,true,false,false,true,true,false,true,true] CP (by kernel_rfl) (by kernel_rfl) rfl rfl (QL rfl Ug (e10 _) (QL rfl Ug (e10 _) (QL rfl Ug (e10 _) (Qq rfl (QF FJ rfl (Qq rfl (QL rfl Ug (e10 _) (Qq rfl (QF Kn rfl (Qq rfl (Qq rfl (QF FJ rfl (Qq rfl (QF Kn rfl ?_))))))))))))));unfold FN;simp only[cons_append,nil_append];refine Uq 17 #[true,true,true,true,true,true,true,true,true,true,true,true,true,true,true,false,true,true,false,true,true,false] (fun s ms=>∃B1 B2 gY v2 m2,ms=[B1,B2,A7 g34 130 (FA p vA gL vr vv (replicate 400 0)),mP',mc,mo',m2,mv,mR,mV]/\A7 gY 22 [.slice (some ⟨gb,0,none⟩) S.length S.length]∈[B1,B2]/\OwnL cU 1 22 m2 v2 (Rs++[.slice (some ⟨ga,0,none⟩) S.length S.length])/\Eng.Sub [(110,v2),(114,vv),(116,.slice (some ⟨gY,0,none⟩) 1 1),(119,.pointer (some ⟨g34,3,none⟩)),(121,.pointer (some ⟨g34,4,none⟩)),(2,.int .i64 p),(10,.pointer (some ⟨g10,0,none⟩)),(11,.map (some gP)),(56,vA),(57,.int .i64 S.length),(58,.int .i64 j)] s) ?_ (fun fin=>?_)
     ·rintro _ s ms rfl ⟨B1,B2,gY,v2,m2,rfl,hm,hO8,hS⟩;refine Qo 15 rfl (Zs hS (GP 7 Ov (List.mem_append_left _ hm) (by omega) rfl rfl rfl rfl rfl rfl rfl rfl rfl (fun v3 m3 hO9=>Qw (Qo 18 rfl ?_))));refine AK 2 3 rfl Wu rfl rfl hO8.o1 rfl rfl (by rw[Lv];omega) rfl rfl ?_;refine Qw (Qo 21 rfl ?_);refine AK 2 4 rfl Wu rfl rfl hO9.o1 rfl rfl (by rw[length_set,Lv];omega) rfl rfl ?_;refine Qw (Qe ?_);refine AN (AN (Ai ?_));exact AA _ ⟨v2,v3,_,_,m2,m3,mc,mo',mP',bs',rfl,l915,rfl,hO',hO8,hO9,hOc,hO2'⟩ Qs
     refine Ba [5,7,12,14] (by kernel_rfl) rfl ?_;refine AD rfl ?_ ?_
     ·refine Ql rfl Ck (Cell.blk 0 (k:=3) rfl rfl) (Qw (Ba [7,12,14] (by kernel_rfl) rfl ?_));refine AD rfl ?_ ?_
      ·refine FB rfl rfl rfl rfl rfl rfl (fun g109=>Qw (Ba [8,12,14] (by kernel_rfl) rfl ?_));refine AD rfl ?_ ?_
       ·refine GP 5 Or (.head _) (by omega) rfl rfl rfl rfl rfl rfl rfl rfl rfl (fun v2 m2 hO8=>Qw (Ba [12,14] (by kernel_rfl) rfl ?_));refine AD rfl ?_ ?_
        ·refine Ql rfl Ck (Cell.blk 1 (k:=4) rfl rfl) (Qw (Qo 14 rfl (FB rfl rfl rfl rfl rfl rfl (fun g116=>Qw ?_))));exact fin _ _ _ (by kernel_rfl) ⟨_,_,_,_,_,rfl,(.head _),hO8,Qs⟩
        refine AD rfl ?_ ?_
        ·refine FB rfl rfl rfl rfl rfl rfl (fun g116=>Qw (Qo 12 rfl (Ql rfl Ck (Cell.blk 2 (k:=4) rfl rfl) (Qw ?_))));exact fin _ _ _ (by kernel_rfl) ⟨_,_,_,_,_,rfl,(.head _),hO8,Qs⟩
        exact Bb
       refine AD rfl ?_ ?_
       ·refine Ql rfl Ck (Cell.blk 1 (k:=4) rfl rfl) (Qw (Ba [8,14] (by kernel_rfl) rfl ?_));refine AD rfl ?_ ?_
        ·refine GP 5 Or (.head _) (by omega) rfl rfl rfl rfl rfl rfl rfl rfl rfl (fun v2 m2 hO8=>Qw (Qo 14 rfl (FB rfl rfl rfl rfl rfl rfl (fun g116=>Qw ?_))));exact fin _ _ _ (by kernel_rfl) ⟨_,_,_,_,_,rfl,(.head _),hO8,Qs⟩
        refine AD rfl ?_ ?_
        ·refine FB rfl rfl rfl rfl rfl rfl (fun g116=>Qw (Qo 8 rfl (GP 6 Or (.tail _ (.head _)) (by omega) rfl rfl rfl rfl rfl rfl rfl rfl rfl (fun v2 m2 hO8=>Qw ?_))));exact fin _ _ _ (by kernel_rfl) ⟨_,_,_,_,_,rfl,(.head _),hO8,Qs⟩
        exact Bb
       refine AD rfl ?_ ?_
       ·refine FB rfl rfl rfl rfl rfl rfl (fun g116=>Qw (Ba [8,12] (by kernel_rfl) rfl ?_));refine AD rfl ?_ ?_
        ·refine GP 6 Or (.tail _ (.head _)) (by omega) rfl rfl rfl rfl rfl rfl rfl rfl rfl (fun v2 m2 hO8=>Qw (Qo 12 rfl (Ql rfl Ck (Cell.blk 2 (k:=4) rfl rfl) (Qw ?_))));exact fin _ _ _ (by kernel_rfl) ⟨_,_,_,_,_,rfl,(.head _),hO8,Qs⟩
        refine AD rfl ?_ ?_
        ·refine Ql rfl Ck (Cell.blk 2 (k:=4) rfl rfl) (Qw (Qo 8 rfl (GP 6 Or (.tail _ (.head _)) (by omega) rfl rfl rfl rfl rfl rfl rfl rfl rfl (fun v2 m2 hO8=>Qw ?_))));exact fin _ _ _ (by kernel_rfl) ⟨_,_,_,_,_,rfl,(.head _),hO8,Qs⟩
        exact Bb
       exact Bb
      refine AD rfl ?_ ?_
      ·refine Ql rfl Ck (Cell.blk 0 (k:=4) rfl rfl) (Qw (Ba [7,14] (by kernel_rfl) rfl ?_));refine AD rfl ?_ ?_
       ·refine FB rfl rfl rfl rfl rfl rfl (fun g109=>Qw (Ba [8,14] (by kernel_rfl) rfl ?_));refine AD rfl ?_ ?_
        ·refine GP 5 Or (.head _) (by omega) rfl rfl rfl rfl rfl rfl rfl rfl rfl (fun v2 m2 hO8=>Qw (Qo 14 rfl (FB rfl rfl rfl rfl rfl rfl (fun g116=>Qw ?_))));exact fin _ _ _ (by kernel_rfl) ⟨_,_,_,_,_,rfl,(.head _),hO8,Qs⟩
        refine AD rfl ?_ ?_
        ·refine FB rfl rfl rfl rfl rfl rfl (fun g116=>Qw (Qo 8 rfl (GP 6 Or (.tail _ (.head _)) (by omega) rfl rfl rfl rfl rfl rfl rfl rfl rfl (fun v2 m2 hO8=>Qw ?_))));exact fin _ _ _ (by kernel_rfl) ⟨_,_,_,_,_,rfl,(.head _),hO8,Qs⟩
        exact Bb
       refine AD rfl ?_ ?_
       ·refine FB rfl rfl rfl rfl rfl rfl (fun g116=>Qw (Qo 7 rfl (FB rfl rfl rfl rfl rfl rfl (fun g109=>Qw (Qo 8 rfl (GP 6 Or (.head _) (by omega) rfl rfl rfl rfl rfl rfl rfl rfl rfl (fun v2 m2 hO8=>Qw ?_)))))));exact fin _ _ _ (by kernel_rfl) ⟨_,_,_,_,_,rfl,(.tail _ (.head _)),hO8,Qs⟩
       exact Bb
      refine AD rfl ?_ ?_
      ·refine FB rfl rfl rfl rfl rfl rfl (fun g116=>Qw (Ba [7,12] (by kernel_rfl) rfl ?_));refine AD rfl ?_ ?_
       ·refine FB rfl rfl rfl rfl rfl rfl (fun g109=>Qw (Ba [8,12] (by kernel_rfl) rfl ?_));refine AD rfl ?_ ?_
        ·refine GP 6 Or (.head _) (by omega) rfl rfl rfl rfl rfl rfl rfl rfl rfl (fun v2 m2 hO8=>Qw (Qo 12 rfl (Ql rfl Ck (Cell.blk 2 (k:=4) rfl rfl) (Qw ?_))));exact fin _ _ _ (by kernel_rfl) ⟨_,_,_,_,_,rfl,(.tail _ (.head _)),hO8,Qs⟩
        refine AD rfl ?_ ?_
        ·refine Ql rfl Ck (Cell.blk 2 (k:=4) rfl rfl) (Qw (Qo 8 rfl (GP 6 Or (.head _) (by omega) rfl rfl rfl rfl rfl rfl rfl rfl rfl (fun v2 m2 hO8=>Qw ?_))));exact fin _ _ _ (by kernel_rfl) ⟨_,_,_,_,_,rfl,(.tail _ (.head _)),hO8,Qs⟩
        exact Bb
       refine AD rfl ?_ ?_
       ·refine Ql rfl Ck (Cell.blk 1 (k:=4) rfl rfl) (Qw (Qo 7 rfl (FB rfl rfl rfl rfl rfl rfl (fun g109=>Qw (Qo 8 rfl (GP 6 Or (.head _) (by omega) rfl rfl rfl rfl rfl rfl rfl rfl rfl (fun v2 m2 hO8=>Qw ?_)))))));exact fin _ _ _ (by kernel_rfl) ⟨_,_,_,_,_,rfl,(.tail _ (.head _)),hO8,Qs⟩
       exact Bb
      exact Bb
     refine AD rfl ?_ ?_
     ·refine FB rfl rfl rfl rfl rfl rfl (fun g109=>Qw (Ba [5,12,14] (by kernel_rfl) rfl ?_));refine AD rfl ?_ ?_
      ·refine Ql rfl Ck (Cell.blk 1 (k:=3) rfl rfl) (Qw (Ba [8,12,14] (by kernel_rfl) rfl ?_));refine AD rfl ?_ ?_
       ·refine GP 5 Or (.head _) (by omega) rfl rfl rfl rfl rfl rfl rfl rfl rfl (fun v2 m2 hO8=>Qw (Ba [12,14] (by kernel_rfl) rfl ?_));refine AD rfl ?_ ?_
        ·refine Ql rfl Ck (Cell.blk 1 (k:=4) rfl rfl) (Qw (Qo 14 rfl (FB rfl rfl rfl rfl rfl rfl (fun g116=>Qw ?_))));exact fin _ _ _ (by kernel_rfl) ⟨_,_,_,_,_,rfl,(.head _),hO8,Qs⟩
        refine AD rfl ?_ ?_
        ·refine FB rfl rfl rfl rfl rfl rfl (fun g116=>Qw (Qo 12 rfl (Ql rfl Ck (Cell.blk 2 (k:=4) rfl rfl) (Qw ?_))));exact fin _ _ _ (by kernel_rfl) ⟨_,_,_,_,_,rfl,(.head _),hO8,Qs⟩
        exact Bb
       refine AD rfl ?_ ?_
       ·refine Ql rfl Ck (Cell.blk 1 (k:=4) rfl rfl) (Qw (Ba [8,14] (by kernel_rfl) rfl ?_));refine AD rfl ?_ ?_
        ·refine GP 5 Or (.head _) (by omega) rfl rfl rfl rfl rfl rfl rfl rfl rfl (fun v2 m2 hO8=>Qw (Qo 14 rfl (FB rfl rfl rfl rfl rfl rfl (fun g116=>Qw ?_))));exact fin _ _ _ (by kernel_rfl) ⟨_,_,_,_,_,rfl,(.head _),hO8,Qs⟩
        refine AD rfl ?_ ?_
        ·refine FB rfl rfl rfl rfl rfl rfl (fun g116=>Qw (Qo 8 rfl (GP 6 Or (.tail _ (.head _)) (by omega) rfl rfl rfl rfl rfl rfl rfl rfl rfl (fun v2 m2 hO8=>Qw ?_))));exact fin _ _ _ (by kernel_rfl) ⟨_,_,_,_,_,rfl,(.head _),hO8,Qs⟩
        exact Bb
       refine AD rfl ?_ ?_
       ·refine FB rfl rfl rfl rfl rfl rfl (fun g116=>Qw (Ba [8,12] (by kernel_rfl) rfl ?_));refine AD rfl ?_ ?_
        ·refine GP 6 Or (.tail _ (.head _)) (by omega) rfl rfl rfl rfl rfl rfl rfl rfl rfl (fun v2 m2 hO8=>Qw (Qo 12 rfl (Ql rfl Ck (Cell.blk 2 (k:=4) rfl rfl) (Qw ?_))));exact fin _ _ _ (by kernel_rfl) ⟨_,_,_,_,_,rfl,(.head _),hO8,Qs⟩
        refine AD rfl ?_ ?_
        ·refine Ql rfl Ck (Cell.blk 2 (k:=4) rfl rfl) (Qw (Qo 8 rfl (GP 6 Or (.tail _ (.head _)) (by omega) rfl rfl rfl rfl rfl rfl rfl rfl rfl (fun v2 m2 hO8=>Qw ?_))));exact fin _ _ _ (by kernel_rfl) ⟨_,_,_,_,_,rfl,(.head _),hO8,Qs⟩
        exact Bb
       exact Bb
      refine AD rfl ?_ ?_
      ·refine Ql rfl Ck (Cell.blk 1 (k:=4) rfl rfl) (Qw (Ba [5,14] (by kernel_rfl) rfl ?_));refine AD rfl ?_ ?_
       ·refine Ql rfl Ck (Cell.blk 1 (k:=3) rfl rfl) (Qw (Ba [8,14] (by kernel_rfl) rfl ?_));refine AD rfl ?_ ?_
        ·refine GP 5 Or (.head _) (by omega) rfl rfl rfl rfl rfl rfl rfl rfl rfl (fun v2 m2 hO8=>Qw (Qo 14 rfl (FB rfl rfl rfl rfl rfl rfl (fun g116=>Qw ?_))));exact fin _ _ _ (by kernel_rfl) ⟨_,_,_,_,_,rfl,(.head _),hO8,Qs⟩
        refine AD rfl ?_ ?_
        ·refine FB rfl rfl rfl rfl rfl rfl (fun g116=>Qw (Qo 8 rfl (GP 6 Or (.tail _ (.head _)) (by omega) rfl rfl rfl rfl rfl rfl rfl rfl rfl (fun v2 m2 hO8=>Qw ?_))));exact fin _ _ _ (by kernel_rfl) ⟨_,_,_,_,_,rfl,(.head _),hO8,Qs⟩
        exact Bb
       refine AD rfl ?_ ?_
       ·refine FB rfl rfl rfl rfl rfl rfl (fun g116=>Qw (Qo 5 rfl (Ql rfl Ck (Cell.blk 2 (k:=3) rfl rfl) (Qw (Qo 8 rfl (GP 6 Or (.tail _ (.head _)) (by omega) rfl rfl rfl rfl rfl rfl rfl rfl rfl (fun v2 m2 hO8=>Qw ?_)))))));exact fin _ _ _ (by kernel_rfl) ⟨_,_,_,_,_,rfl,(.head _),hO8,Qs⟩
       exact Bb
      refine AD rfl ?_ ?_
      ·refine FB rfl rfl rfl rfl rfl rfl (fun g116=>Qw (Ba [5,12] (by kernel_rfl) rfl ?_));refine AD rfl ?_ ?_
       ·refine Ql rfl Ck (Cell.blk 2 (k:=3) rfl rfl) (Qw (Ba [8,12] (by kernel_rfl) rfl ?_));refine AD rfl ?_ ?_
        ·refine GP 6 Or (.tail _ (.head _)) (by omega) rfl rfl rfl rfl rfl rfl rfl rfl rfl (fun v2 m2 hO8=>Qw (Qo 12 rfl (Ql rfl Ck (Cell.blk 2 (k:=4) rfl rfl) (Qw ?_))));exact fin _ _ _ (by kernel_rfl) ⟨_,_,_,_,_,rfl,(.head _),hO8,Qs⟩
        refine AD rfl ?_ ?_
        ·refine Ql rfl Ck (Cell.blk 2 (k:=4) rfl rfl) (Qw (Qo 8 rfl (GP 6 Or (.tail _ (.head _)) (by omega) rfl rfl rfl rfl rfl rfl rfl rfl rfl (fun v2 m2 hO8=>Qw ?_))));exact fin _ _ _ (by kernel_rfl) ⟨_,_,_,_,_,rfl,(.head _),hO8,Qs⟩
        exact Bb
       refine AD rfl ?_ ?_
       ·refine Ql rfl Ck (Cell.blk 2 (k:=4) rfl rfl) (Qw (Qo 5 rfl (Ql rfl Ck (Cell.blk 2 (k:=3) rfl rfl) (Qw (Qo 8 rfl (GP 6 Or (.tail _ (.head _)) (by omega) rfl rfl rfl rfl rfl rfl rfl rfl rfl (fun v2 m2 hO8=>Qw ?_)))))));exact fin _ _ _ (by kernel_rfl) ⟨_,_,_,_,_,rfl,(.head _),hO8,Qs⟩
       exact Bb
      exact Bb
     refine AD rfl ?_ ?_
     ·refine Ql rfl Ck (Cell.blk 0 (k:=4) rfl rfl) (Qw (Ba [5,7,14] (by kernel_rfl) rfl ?_));refine AD rfl ?_ ?_
      ·refine Ql rfl Ck (Cell.blk 0 (k:=3) rfl rfl) (Qw (Ba [7,14] (by kernel_rfl) rfl ?_));refine AD rfl ?_ ?_
       ·refine FB rfl rfl rfl rfl rfl rfl (fun g109=>Qw (Ba [8,14] (by kernel_rfl) rfl ?_));refine AD rfl ?_ ?_
        ·refine GP 5 Or (.head _) (by omega) rfl rfl rfl rfl rfl rfl rfl rfl rfl (fun v2 m2 hO8=>Qw (Qo 14 rfl (FB rfl rfl rfl rfl rfl rfl (fun g116=>Qw ?_))));exact fin _ _ _ (by kernel_rfl) ⟨_,_,_,_,_,rfl,(.head _),hO8,Qs⟩
        refine AD rfl ?_ ?_
        ·refine FB rfl rfl rfl rfl rfl rfl (fun g116=>Qw (Qo 8 rfl (GP 6 Or (.tail _ (.head _)) (by omega) rfl rfl rfl rfl rfl rfl rfl rfl rfl (fun v2 m2 hO8=>Qw ?_))));exact fin _ _ _ (by kernel_rfl) ⟨_,_,_,_,_,rfl,(.head _),hO8,Qs⟩
        exact Bb
       refine AD rfl ?_ ?_
       ·refine FB rfl rfl rfl rfl rfl rfl (fun g116=>Qw (Qo 7 rfl (FB rfl rfl rfl rfl rfl rfl (fun g109=>Qw (Qo 8 rfl (GP 6 Or (.head _) (by omega) rfl rfl rfl rfl rfl rfl rfl rfl rfl (fun v2 m2 hO8=>Qw ?_)))))));exact fin _ _ _ (by kernel_rfl) ⟨_,_,_,_,_,rfl,(.tail _ (.head _)),hO8,Qs⟩
       exact Bb
      refine AD rfl ?_ ?_
      ·refine FB rfl rfl rfl rfl rfl rfl (fun g109=>Qw (Ba [5,14] (by kernel_rfl) rfl ?_));refine AD rfl ?_ ?_
       ·refine Ql rfl Ck (Cell.blk 1 (k:=3) rfl rfl) (Qw (Ba [8,14] (by kernel_rfl) rfl ?_));refine AD rfl ?_ ?_
        ·refine GP 5 Or (.head _) (by omega) rfl rfl rfl rfl rfl rfl rfl rfl rfl (fun v2 m2 hO8=>Qw (Qo 14 rfl (FB rfl rfl rfl rfl rfl rfl (fun g116=>Qw ?_))));exact fin _ _ _ (by kernel_rfl) ⟨_,_,_,_,_,rfl,(.head _),hO8,Qs⟩
        refine AD rfl ?_ ?_
        ·refine FB rfl rfl rfl rfl rfl rfl (fun g116=>Qw (Qo 8 rfl (GP 6 Or (.tail _ (.head _)) (by omega) rfl rfl rfl rfl rfl rfl rfl rfl rfl (fun v2 m2 hO8=>Qw ?_))));exact fin _ _ _ (by kernel_rfl) ⟨_,_,_,_,_,rfl,(.head _),hO8,Qs⟩
        exact Bb
       refine AD rfl ?_ ?_
       ·refine FB rfl rfl rfl rfl rfl rfl (fun g116=>Qw (Qo 5 rfl (Ql rfl Ck (Cell.blk 2 (k:=3) rfl rfl) (Qw (Qo 8 rfl (GP 6 Or (.tail _ (.head _)) (by omega) rfl rfl rfl rfl rfl rfl rfl rfl rfl (fun v2 m2 hO8=>Qw ?_)))))));exact fin _ _ _ (by kernel_rfl) ⟨_,_,_,_,_,rfl,(.head _),hO8,Qs⟩
       exact Bb
      refine AD rfl ?_ ?_
      ·refine FB rfl rfl rfl rfl rfl rfl (fun g116=>Qw (Ba [5,7] (by kernel_rfl) rfl ?_));refine AD rfl ?_ ?_
       ·refine Ql rfl Ck (Cell.blk 1 (k:=3) rfl rfl) (Qw (Qo 7 rfl (FB rfl rfl rfl rfl rfl rfl (fun g109=>Qw (Qo 8 rfl (GP 6 Or (.head _) (by omega) rfl rfl rfl rfl rfl rfl rfl rfl rfl (fun v2 m2 hO8=>Qw ?_)))))));exact fin _ _ _ (by kernel_rfl) ⟨_,_,_,_,_,rfl,(.tail _ (.head _)),hO8,Qs⟩
       refine AD rfl ?_ ?_
       ·refine FB rfl rfl rfl rfl rfl rfl (fun g109=>Qw (Qo 5 rfl (Ql rfl Ck (Cell.blk 2 (k:=3) rfl rfl) (Qw (Qo 8 rfl (GP 6 Or (.head _) (by omega) rfl rfl rfl rfl rfl rfl rfl rfl rfl (fun v2 m2 hO8=>Qw ?_)))))));exact fin _ _ _ (by kernel_rfl) ⟨_,_,_,_,_,rfl,(.tail _ (.head _)),hO8,Qs⟩
       exact Bb
      exact Bb
     refine AD rfl ?_ ?_
     ·refine FB rfl rfl rfl rfl rfl rfl (fun g116=>Qw (Ba [5,7,12] (by kernel_rfl) rfl ?_));refine AD rfl ?_ ?_
      ·refine Ql rfl Ck (Cell.blk 1 (k:=3) rfl rfl) (Qw (Ba [7,12] (by kernel_rfl) rfl ?_));refine AD rfl ?_ ?_
       ·refine FB rfl rfl rfl rfl rfl rfl (fun g109=>Qw (Ba [8,12] (by kernel_rfl) rfl ?_));refine AD rfl ?_ ?_
        ·refine GP 6 Or (.head _) (by omega) rfl rfl rfl rfl rfl rfl rfl rfl rfl (fun v2 m2 hO8=>Qw (Qo 12 rfl (Ql rfl Ck (Cell.blk 2 (k:=4) rfl rfl) (Qw ?_))));exact fin _ _ _ (by kernel_rfl) ⟨_,_,_,_,_,rfl,(.tail _ (.head _)),hO8,Qs⟩
        refine AD rfl ?_ ?_
        ·refine Ql rfl Ck (Cell.blk 2 (k:=4) rfl rfl) (Qw (Qo 8 rfl (GP 6 Or (.head _) (by omega) rfl rfl rfl rfl rfl rfl rfl rfl rfl (fun v2 m2 hO8=>Qw ?_))));exact fin _ _ _ (by kernel_rfl) ⟨_,_,_,_,_,rfl,(.tail _ (.head _)),hO8,Qs⟩
        exact Bb
       refine AD rfl ?_ ?_
       ·refine Ql rfl Ck (Cell.blk 1 (k:=4) rfl rfl) (Qw (Qo 7 rfl (FB rfl rfl rfl rfl rfl rfl (fun g109=>Qw (Qo 8 rfl (GP 6 Or (.head _) (by omega) rfl rfl rfl rfl rfl rfl rfl rfl rfl (fun v2 m2 hO8=>Qw ?_)))))));exact fin _ _ _ (by kernel_rfl) ⟨_,_,_,_,_,rfl,(.tail _ (.head _)),hO8,Qs⟩
       exact Bb
      refine AD rfl ?_ ?_
      ·refine FB rfl rfl rfl rfl rfl rfl (fun g109=>Qw (Ba [5,12] (by kernel_rfl) rfl ?_));refine AD rfl ?_ ?_
       ·refine Ql rfl Ck (Cell.blk 2 (k:=3) rfl rfl) (Qw (Ba [8,12] (by kernel_rfl) rfl ?_));refine AD rfl ?_ ?_
        ·refine GP 6 Or (.head _) (by omega) rfl rfl rfl rfl rfl rfl rfl rfl rfl (fun v2 m2 hO8=>Qw (Qo 12 rfl (Ql rfl Ck (Cell.blk 2 (k:=4) rfl rfl) (Qw ?_))));exact fin _ _ _ (by kernel_rfl) ⟨_,_,_,_,_,rfl,(.tail _ (.head _)),hO8,Qs⟩
        refine AD rfl ?_ ?_
        ·refine Ql rfl Ck (Cell.blk 2 (k:=4) rfl rfl) (Qw (Qo 8 rfl (GP 6 Or (.head _) (by omega) rfl rfl rfl rfl rfl rfl rfl rfl rfl (fun v2 m2 hO8=>Qw ?_))));exact fin _ _ _ (by kernel_rfl) ⟨_,_,_,_,_,rfl,(.tail _ (.head _)),hO8,Qs⟩
        exact Bb
       refine AD rfl ?_ ?_
       ·refine Ql rfl Ck (Cell.blk 2 (k:=4) rfl rfl) (Qw (Qo 5 rfl (Ql rfl Ck (Cell.blk 2 (k:=3) rfl rfl) (Qw (Qo 8 rfl (GP 6 Or (.head _) (by omega) rfl rfl rfl rfl rfl rfl rfl rfl rfl (fun v2 m2 hO8=>Qw ?_)))))));exact fin _ _ _ (by kernel_rfl) ⟨_,_,_,_,_,rfl,(.tail _ (.head _)),hO8,Qs⟩
       exact Bb
      refine AD rfl ?_ ?_
      ·refine Ql rfl Ck (Cell.blk 1 (k:=4) rfl rfl) (Qw (Ba [5,7] (by kernel_rfl) rfl ?_));refine AD rfl ?_ ?_
       ·refine Ql rfl Ck (Cell.blk 1 (k:=3) rfl rfl) (Qw (Qo 7 rfl (FB rfl rfl rfl rfl rfl rfl (fun g109=>Qw (Qo 8 rfl (GP 6 Or (.head _) (by omega) rfl rfl rfl rfl rfl rfl rfl rfl rfl (fun v2 m2 hO8=>Qw ?_)))))));exact fin _ _ _ (by kernel_rfl) ⟨_,_,_,_,_,rfl,(.tail _ (.head _)),hO8,Qs⟩
       refine AD rfl ?_ ?_
       ·refine FB rfl rfl rfl rfl rfl rfl (fun g109=>Qw (Qo 5 rfl (Ql rfl Ck (Cell.blk 2 (k:=3) rfl rfl) (Qw (Qo 8 rfl (GP 6 Or (.head _) (by omega) rfl rfl rfl rfl rfl rfl rfl rfl rfl (fun v2 m2 hO8=>Qw ?_)))))));exact fin _ _ _ (by kernel_rfl) ⟨_,_,_,_,_,rfl,(.tail _ (.head _)),hO8,Qs⟩
       exact Bb
      exact Bb
     exact Bb
  ·obtain⟨vr',vv',va,vb,mr',mv',mc,mo,mP',bs',rfl,l10,rfl,hO',Or',Ov',hOc,hOu⟩:=hI;refine Ad (Qx (oA rfl) rfl (Qm rfl (Aj (Eg fun hap=>?_))));simp only[List.pairwise_cons,mem_cons,List.not_mem_nil,or_false,forall_eq_or_imp,forall_eq]at hap;have d1:mR.disj mc:=Hp.disj_symm hap.2.2.1.2.2.2.1;have d2:mV.disj mo:=Hp.disj_symm hap.2.2.2.1.2.2.2;have CR':=CR.snoc hOc d1;have CV':=CV.snoc hOu d2;rw[<-GS]at CR' CV';refine CU 3 rfl (CU 7 rfl (Ez (CU 3 rfl (CU 6 rfl (Ez (CU 2 rfl (CU 3 rfl (CU 3 rfl (CU 3 rfl (CU 5 rfl (CU 5 rfl ?_)))))))))));exact Ak (S.length-(j+1)) _ (by omega) ⟨j+1,vr',vv',mr',mv',_,_,mP',_,_,bs',rfl,rfl,AJ l9 l10,rfl,by omega,hO',Or',Ov',CR',CV',by rw[length_append,hRl];rfl,by rw[length_append,hVl];rfl⟩ Qs
 ·obtain rfl:j=S.length:=by omega
  refine Av (Aa (Aa (Af (Ab (As (Ql rfl Ug (e10 _) (Qm rfl (Qm rfl (An (Am (GC Or fun h10 l10 hRr=>(GC Ov fun h11 l11 hRv=>(CU 2 rfl (AN (CU 2 rfl ?_)))))))))))))));have l911:=AJ l9 (AJ l10 l11);exact BC rfl rfl rfl (⟨AJ l1 (AJ l2 (AJ l3 (AJ l38 l911))),g34,gL,mL,bL,S,vA,vr,vv,Rs,Vs,mR,mV,rfl,rfl,hOL,AJ lL8 l911,hQ.up (AJ l10 l11),hRr.up l11,hRv,CR,CV,hSc,hsrt,fun a ha=>(hSA a ha).up l911⟩)
end Go.Proofs.Q
namespace Go.Proofs.Q
open Go.Proofs.Tryz
open Go.Eng Go.RowKit Go.Lin Go.Sort Go.Srt
variable {j n:Nat} {p:Int} {R V:Nat->List Int} {r v:List Int} {α:Type}
theorem Ops.congr{R' V':Nat->List Int}{r1 v1:List Int}(h:Ops p n j R V r v r1 v1)(hR:∀k,k<j->R k=R' k)(hV:∀k,k<j->V k=V' k):Ops p n j R' V' r v r1 v1:=by
 induction h with
 | refl=>exact .refl
 | step h hk hi h0 h1 h2 h3 ih=>
  rw[hR _ hk]at h3 ⊢;rw[hV _ hk];exact ih.step hk hi h0 h1 h2 h3
def upd(R:Nat->α)(j:Nat)(r:α)(k:Nat):α:=if k=j then r else R k
theorem F0(R:Nat->α)(j:Nat)(r:α):upd R j r j=r:=if_pos rfl
theorem EU(R:Nat->α){k:Nat}(r:α)(h:k≠j):upd R j r k=R k:=if_neg h
theorem Red.next{la la':List Int}(D:Red p n j R V la)(hn:n<=400)(lr:r.length=n)(lv:v.length=n)(rr:Lp p r)(rv:Lp p v)(hL:LaS j r la la'):Red p n (j+1) (upd R j r) (upd V j v) la':=by
 have hb:=KM r;have hlt:∀{k},k<j+1->k≠j->k<j:=fun h1 h2=>by omega
 refine⟨fun k hk=>?_,fun k hk=>?_,fun k hk=>?_,fun k hk=>?_,?_,fun i hi=>?_,fun k hk h0=>?_⟩
 ·by_cases e:k=j
  ·rw[e,F0];exact lr
  ·rw[EU _ _ e];exact D.rl k (hlt hk e)
 ·by_cases e:k=j
  ·rw[e,F0];exact lv
  ·rw[EU _ _ e];exact D.vl k (hlt hk e)
 ·by_cases e:k=j
  ·rw[e,F0];exact rr
  ·rw[EU _ _ e];exact D.rr k (hlt hk e)
 ·by_cases e:k=j
  ·rw[e,F0];exact rv
  ·rw[EU _ _ e];exact D.vr k (hlt hk e)
 ·rcases hL with ⟨_,rfl⟩|⟨_,_,rfl⟩
  ·exact D.ll
  ·rw[length_set];exact D.ll
 ·have hold:la.getD i 0=0\/∃k,k<j+1/\la.getD i 0=(k:Int)+1/\Bm (upd R j r k)=i:=by
   rcases D.a0 i hi with h|⟨k,hk,h1,h2⟩
   ·exact .inl h
   ·exact .inr ⟨k,by omega,h1,by rw[EU _ _ (by omega)];exact h2⟩
  rcases hL with ⟨_,rfl⟩|⟨h1,h2,rfl⟩
  ·exact hold
  ·by_cases e:(Bm r).toNat=i
   ·refine .inr ⟨j,by omega,?_,by rw[F0];omega⟩;simp[List.getD,e,D.ll,hi]
   ·rw[show(la.set (Bm r).toNat ((j:Int)+1)).getD i 0=la.getD i 0 by simp[List.getD,List.getElem?_set_ne e]];exact hold
 ·by_cases e:k=j
  ·rw[e,F0]at h0 ⊢;rcases hL with ⟨h1,_⟩|⟨h1,h2,rfl⟩
   ·omega
   ·have:(Bm r).toNat<la.length:=by rw[D.ll];omega
    simp[List.getD,this]
  ·rw[EU _ _ e]at h0 ⊢;have h3:=D.a1 k (hlt hk e) h0;rcases hL with ⟨_,rfl⟩|⟨h1,h2,rfl⟩
   ·exact h3
   ·have hne:(Bm r).toNat≠(Bm (R k)).toNat:=fun e=>by rw[e,h3]at h2;omega
    rw[show(la.set (Bm r).toNat ((j:Int)+1)).getD (Bm (R k)).toNat 0=la.getD (Bm (R k)).toNat 0 by simp[List.getD,List.getElem?_set_ne hne]];exact h3
theorem ColsO.head{vs:List Value}{cs:List (List Int)}{m:Hp}(h:ColsO m (vs.drop j) (cs.drop j))(hj:j<vs.length)(hc:j<cs.length):∃a b,m=a.join b/\a.disj b/\OwnL cI 1 3 a (vs.getD j undef) cs[j]/\ColsO b (vs.drop (j+1)) (cs.drop (j+1)):=by rw[List.drop_eq_getElem_cons hj,List.drop_eq_getElem_cons hc]at h;obtain⟨a,b,h1,h2,h3,h4⟩:=h;exact⟨a,b,h1,h2,by rw[show vs.getD j undef=vs[j] by simp[List.getD,hj]];exact h3,h4⟩
def Aa9(g:Nat):Value:=.func (.func 121) #[.pointer (some ⟨g,0,none⟩)] #[]
structure AllC(p:Int)(S:List Ce)(n j:Nat)(R V:Nat->List Int)(la:List Int):Prop where
 red:Red p n j R V la
 ops:∀k,k<j->Ops p n k R V (J5 p S k) (Fp n k) (R k) (V k)
theorem AllC.next{S:List Ce}{la la':List Int}(D:AllC p S n j R V la)(hn:n<=400)(lr:r.length=n)(lv:v.length=n)(rr:Lp p r)(rv:Lp p v)(hL:LaS j r la la')(hO:Ops p n j R V (J5 p S j) (Fp n j) r v):AllC p S n (j+1) (upd R j r) (upd V j v) la':=by
 refine⟨D.red.next hn lr lv rr rv hL,fun k hk=>?_⟩;have e1:∀i,i<j->R i=upd R j r i:=fun i hi=>(EU _ _ (by omega)).symm;have e2:∀i,i<j->V i=upd V j v i:=fun i hi=>(EU _ _ (by omega)).symm;by_cases e:k=j
 ·subst e;rw[F0,F0];exact hO.congr e1 e2
 ·have hk':k<j:=by omega
  rw[EU _ _ e,EU _ _ e];exact(D.ops k hk').congr (fun i hi=>e1 i (by omega)) (fun i hi=>e2 i (by omega))
theorem WC(p:Int)(S:List Ce)(n:Nat):AllC p S n 0 (fun _=>[]) (fun _=>[]) (replicate 400 0):=by
 refine⟨⟨fun k hk=>(by omega),fun k hk=>(by omega),fun k hk=>(by omega),fun k hk=>(by omega),by simp,fun i hi=>.inl ?_,fun k hk=>(by omega)⟩,fun k hk=>(by omega)⟩;have:∀m,i<m->(replicate m (0:Int)).getD i 0=0:=fun m h=>by simp[List.getD,h]
 exact this 400 hi
theorem YJ(p:Int)(S:List Ce)(g gA:Nat)(vc vr vv:Value)(Rs Vs:List Value)(mR mV h:Hp)(hp:IsP p)(hn:S.length<=400)(oc:vc.oneCell'=true)
  (hRs:RdL cU 1 h [] vr Rs) (hVs:RdL cU 1 h [] vv Vs) (CR:ColsO mR Rs ((range S.length).map (J5 p S))) (CV:ColsO mV Vs ((range S.length).map (Fp S.length))) :
  FnT Tryz.prog 120 #[.int .i64 S.length,Aa9 g] h [A7 g 130 (FA p vc gA vr vv (replicate 400 0)),mR,mV] (fun _ h' ms'=>h.le h'/\∃R V la,ms'=[A7 g 130 (FA p vc gA vr vv la)]/\AllC p S S.length S.length R V la/\(∀k,k<S.length->RdL cI 1 h' [] (Rs.getD k undef) (R k))/\∀k,k<S.length->RdL cI 1 h' [] (Vs.getD k undef) (V k)):=by
 have hp1:=hp.1;have lR:Rs.length=S.length:=by have:=CR.len;simpa using this
 have lV:Vs.length=S.length:=by have:=CV.len;simpa using this
 obtain⟨n,hSn⟩:∃n,S.length=n:=⟨_,rfl⟩
 rw[hSn]at hn CR CV lR lV ⊢;refine Ao func120 ntmps120 rfl rfl (fun w0 hw0=>?_);simp only[AU];refine As (Qm rfl (Qm rfl (An (Ae ?_))))
 refine Az (fun q sl h' ms'=>∃(j:Nat) (R V:Nat->List Int) (la:List Int) (mR mV:Hp),q=n-j/\sl=[(1,Aa9 g),(5,.int .i64 n),(6,.int .i64 j)]/\h.le h'/\ms'=[A7 g 130 (FA p vc gA vr vv la),mR,mV]/\j<=n/\ColsO mR (Rs.drop j) (((range n).map (J5 p S)).drop j)/\ColsO mV (Vs.drop j) (((range n).map (Fp n)).drop j)/\AllC p S n j R V la/\(∀k,k<j->RdL cI 1 h' [] (Rs.getD k undef) (R k))/\∀k,k<j->RdL cI 1 h' [] (Vs.getD k undef) (V k))
  (n-0) _ ⟨0,_,_,_,mR,mV,rfl,rfl,CY,rfl,by omega,CR,CV,WC p S n,fun k hk=>by omega,fun k hk=>by omega⟩ Qs ?_
 rintro q sl h' ms' ⟨j,R,V,la,mR,mV,rfl,rfl,l1,rfl,hj,CR,CV,A,hR,hV⟩;have hRs:=hRs.up l1;have hVs:=hVs.up l1;refine As (Qm rfl (An (Ac ?_)));refine Au rfl (fun hlt=>?_) (fun hlt=>?_)
 ·have hjn:j<n:=by omega
  obtain⟨a,b,rfl,dab,Oa,CR'⟩:=CR.head (by omega) (by simpa using hjn);obtain⟨c,d,rfl,dcd,Oc,CV'⟩:=CV.head (by omega) (by simpa using hjn);rw[List.getElem_map,List.getElem_range]at Oa Oc;refine EV 1 rfl (HC dab (EV 3 rfl (HC dcd (EV 2 rfl (EV 4 rfl (Ah (Ab (Ac (Ae (As (Qm rfl (Qm rfl (Gh (Qm rfl (Qm rfl ?_)))))))))))))));refine DC (pre:=[A7 g 130 (FA p vc gA vr vv la),a,c]) rfl rfl call121 rfl (SS p n j g gA vc vr vv Rs Vs R V la _ _ a c h' hp hn hjn hRs hVs lR lV hR hV A.red oc Oa Oc (by rw[show(J5 p S j).length=S.length from Gf _ _ _ _];exact hSn) (Mm n j) (N1 (by omega) S j _) (Te hp1 n j)) rfl rfl rfl rfl (fun v' h2 pre' l2 hF=>?_);obtain⟨l2',r',v2,la',a',c',rfl,Oa',Oc',hO,lr,lv,rr,rv,hL⟩:=hF;simp only[cons_append,nil_append,append_nil];refine MT 1 rfl (A4 Oa' fun h3 l3 hr'=>(MT 1 rfl (A4 Oc' fun h4 l4 hv'=>?_)));have l24:=AJ l3 l4;have l14:=AJ l2 l24;have A':=A.next hn lr lv rr rv hL hO
  have hR':∀k,k<j+1->RdL cI 1 h4 [] (Rs.getD k undef) (upd R j r' k):=fun k hk=>by
   by_cases e:k=j
   ·rw[e,F0];exact hr'.up l4
   ·rw[EU _ _ e];exact(hR k (by omega)).up l14
  have hV':∀k,k<j+1->RdL cI 1 h4 [] (Vs.getD k undef) (upd V j v2 k):=fun k hk=>by
   by_cases e:k=j
   ·rw[e,F0];exact hv'
   ·rw[EU _ _ e];exact(hV k (by omega)).up l14
  refine Aj (Ai (Ab (Ad (Qx (oA rfl) rfl (Qm rfl (Aj (CU 2 rfl (CU 1 rfl ?_))))))));exact Ak (n-(j+1)) _ (by omega) ⟨j+1,_,_,la',b,d,rfl,rfl,AJ l1 l14,rfl,by omega,CR',CV',A',hR',hV'⟩ Qs
 ·obtain rfl:j=n:=by omega
  refine Av (Aa (Aa (Af (CU 1 rfl (AN (CU 1 rfl (AN ?_)))))));exact BT rfl (⟨l1,R,V,la,rfl,A,hR,hV⟩)
end Go.Proofs.Q
namespace Go.Proofs.Q
open Go.Proofs.Tryz
open Go.Eng Go.RowKit Go.Lin Go.Sort Go.Srt
structure RedM(p:Int)(F:List (Int×Int))(l S:List Ce)(R V:Nat->List Int)(gm:Nat)(h:Hp):Prop where
 ex:∃(gA:Nat) (mA:Hp) (bs:List Nat) (vc vr vv:Value) (Rs Vs:List Value) (la:List Int),Seg h [] ⟨gm,0,none⟩ (FA p vc gA vr vv la)/\Ci kN kN gA BD mA (BQ F) bs/\mA.le h/\RdL cC 3 h [] vc S/\RdL cU 1 h [] vr Rs/\RdL cU 1 h [] vv Vs/\Rs.length=S.length/\Vs.length=S.length/\(∀k,k<S.length->RdL cI 1 h [] (Rs.getD k undef) (R k))/\(∀k,k<S.length->RdL cI 1 h [] (Vs.getD k undef) (V k))/\AllC p S S.length S.length R V la
 perm:(S.map Ce.c).Perm (cn l)
 srt:WJ (Ed (BQ F)) S
 sds:∀a∈S,RdL cD 2 h [] a.v a.c.sd
theorem T8(l:List Ce)(F:List (Int×Int))(v vf:Value)(p:Int)(hp:Hp)(hK:RgC l)(hR:RdC hp v l)(hF:RdL cV 2 hp [] vf F)(hV:QI F)(h0:HM (cn l) F=(0,0))(hP:IsP p)(hl:l.length<=400):FnT Tryz.prog 51 #[.agg #[v],vf,.int .i64 p] hp [] (fun r h' ms'=>hp.le h'/\∃(gm:Nat) (S:List Ce) (R V:Nat->List Int) (vl:Value) (ml:Hp),r=.tuple #[.pointer (some ⟨gm,0,none⟩),vl,.int .i64 0]/\ms'=[ml]/\OwnL cI 1 3 ml vl ((range S.length).map fun k=>Bm (R k))/\RedM p F l S R V gm h'):=by
 have o1:=hR.q.rd.one;have o2:=hF.rd.one;refine Ao func51 ntmps51 rfl rfl (fun w0 hw0=>?_);simp only[AU];refine As (AS [_] rfl rfl (by rfl) rfl rfl rfl (fun g3=>Qm rfl (Qm rfl (Qm rfl (An (Aw fun h1 l1 hS=>?_))))));have hR:=hR.up l1;have hF:=hF.up l1;refine As (Qx (oG rfl Dt A6 (Seg.any hS)) rfl (Qm rfl (Qm rfl (Qc call91 rfl (Ww l F v vf p h1 hK hR hF hV h0 hP hl) (fun rB h2 ms2 l2 hB=>?_)))));obtain⟨l2',gm,gA,mA,bs,S,vc,vr,vv,Rs,Vs,mR,mV,rfl,rfl,hOA,lA,hQ,hRs,hVs,CR,CV,hperm,hsrt,hsds⟩:=hB;have ovc:=hQ.rd.one;have lR:Rs.length=S.length:=by have:=CR.len;simpa using this
 have lV:Vs.length=S.length:=by have:=CV.len;simpa using this
 have hSn:S.length<=400:=by have:=hperm.length_eq;rw[length_map,Ej]at this;omega
 refine Qm rfl (Qm rfl (Qm rfl (Qm rfl (Qm rfl (An (Ac (As (Qm rfl (Qm rfl (An (Au rfl (fun hc=>absurd hc (fun h=>h rfl)) (fun hc=>Ah (Ab (As (Qm rfl (Qm rfl (Qf FF rfl (Ql rfl Bs (Cell.blk 0 (k:=1) rfl rfl) (Qx (Ar hQ.rd.any rfl Bs rfl) rfl (Qm rfl (Qx (Bk rfl rfl rfl) rfl (A8 (pre:=[A7 gm 130 (FA p vc gA vr vv (replicate 400 0)),mR,mV]) rfl call120 rfl (YJ p S gm gA vc vr vv Rs Vs mR mV h2 hP hSn ovc hRs hVs CR CV) rfl rfl rfl rfl (fun _ h3 ms3 l3 hE=>?_)))))))))))))))))))))));obtain⟨l3',R,V,la,rfl,A,hRR,hVV⟩:=hE;refine An (Aw fun h4 l4 hSg=>?_);have l24:=AJ l3 l4;have hQ:=hQ.up l24;have hRs:=hRs.up l24;have hVs:=hVs.up l24;have hRR:=fun k hk=>(hRR k hk).up l4;have hVV:=fun k hk=>(hVV k hk).up l4;have lA4:=AJ lA l24;have e3:∀ms,Cell h4 ms (⟨gm,3,none⟩:Addr) vr:=fun ms=>Seg.all hSg 3 _ rfl ms;have ovr:=hRs.rd.one;refine BB (As (Qm rfl (An (Ac (As (Qm rfl (Qm rfl (Qf FJ rfl (Ql rfl Ck (e3 _) (Qx (Ar hRs.rd.any rfl Ck rfl) rfl (Qm rfl (An (Ae ?_)))))))))))))
 refine Az (fun q sl h' ms'=>∃(j:Nat) (vl:Value) (ml:Hp),q=S.length-j/\sl=[(9,.pointer (some ⟨gm,0,none⟩)),(11,vl),(35,vr),(36,.int .i64 Rs.length),(37,.int .i64 j)]/\h4.le h'/\ms'=[ml]/\j<=S.length/\OwnL cI 1 3 ml vl ((range j).map fun k=>Bm (R k)))
  (S.length-0) _ ⟨0,_,Hp.emp,rfl,rfl,CY,rfl,by omega,OwnL.nil AV⟩ Qs ?_
 rintro q sl h' ms' ⟨j,vl,ml,rfl,rfl,l5,rfl,hj,hO⟩;have hRs:=hRs.up l5;have ovl:=hO.o1;refine As (Qm rfl (An (Ac ?_)));refine Au rfl (fun hlt=>?_) (fun hlt=>?_)
 ·have hjn:j<S.length:=by omega
  have hjR:j<Rs.length:=by omega
  have hRj:=(hRR j hjn).up l5;have orj:=hRj.rd.one;have cR:∀ms,Cell h' ms ((AG vr).add (j*1)) (Rs.getD j undef):=fun ms=>by rw[show Rs.getD j undef=Rs[j] by simp[List.getD,hjR]];exact(hRs.any (ms:=ms)).cell0 hjR rfl
  have hlj:=A.red.rl j hjn;refine Ah (Ab (Ac (Ae (As (Qx (BS (j) hRs.rd.any rfl Ck Cw rfl rfl) rfl (Ql rfl AY (cR _) (Qm rfl (Gh (Qm rfl (Qm rfl (Qx (AF rfl call95 rfl (Vd (Rs.getD j undef) (R j) h' hRj (by omega) _)) rfl (Aq [_] rfl AY Be rfl (by rfl) rfl rfl (by omega) rfl rfl rfl (fun g44=>?_)))))))))))));refine AM 1 hO (RdL.one AV (x:=Bm (R j)) Mh rfl) rfl AY Be rfl (by omega) rfl rfl rfl B5 (by simp;omega) (by simp;omega) rfl rfl rfl (fun vl2 ml2 hO2=>?_);refine Qm rfl (Aj (Ai (Ab (Ad (Qx (oA rfl) rfl (Qm rfl (Aj (AN ?_))))))));exact Ak (S.length-(j+1)) _ (by omega) ⟨j+1,vl2,ml2,rfl,rfl,l5,rfl,by omega,by rw[GS];exact hO2⟩ Qs
 ·obtain rfl:j=S.length:=by omega
  refine Av (Aa (Aa (Af (Ab (As (Qm rfl (Qm rfl (Qm rfl (Qm rfl (Qm rfl (An (Am ?_))))))))))));exact YI rfl rfl rfl rfl (⟨AJ l1 (AJ l2 (AJ l24 l5)),gm,S,R,V,vl,ml,rfl,rfl,hO,⟨gA,mA,bs,vc,vr,vv,Rs,Vs,la,hSg.le l5,hOA,AJ lA4 l5,hQ.up l5,hRs,hVs.up l5,lR,lV,fun k hk=>(hRR k hk).up l5,fun k hk=>(hVV k hk).up l5,A⟩,hperm,hsrt,fun a ha=>(hsds a ha).up (AJ l24 l5)⟩)
end Go.Proofs.Q
namespace Go.Proofs
open Go.Proofs.Tryz
open Go.Shelf
def Tryz.lays161_ren:Go.Shelf.Ren:=⟨fun|161=>231|231=>271|227=>272|233=>273|235=>274|228=>295|197=>296|151=>297|260=>306|152=>307|137=>310|119=>311|224=>312|225=>313|217=>314|266=>315|n=>n,fun|9=>9|4=>4|3=>3|5=>5|117=>303|116=>302|0=>0|124=>306|105=>329|21=>21|119=>339|46=>223|139=>342|138=>341|n=>n,fun|3=>0|4=>1|n=>n⟩
theorem Tryz.lays161:Go.Proofs.Lays.n161 prog Tryz.lays161_ren:={
 mixed:=by kernel_rfl
 f119:=func311.trans (congrArg some (by kernel_rfl))
 f137:=func310.trans (congrArg some (by kernel_rfl))
 f151:=func297.trans (congrArg some (by kernel_rfl))
 f152:=func307.trans (congrArg some (by kernel_rfl))
 f161:=func231.trans (congrArg some (by kernel_rfl))
 f197:=func296.trans (congrArg some (by kernel_rfl))
 f217:=func314.trans (congrArg some (by kernel_rfl))
 f224:=func312.trans (congrArg some (by kernel_rfl))
 f225:=func313.trans (congrArg some (by kernel_rfl))
 f227:=func272.trans (congrArg some (by kernel_rfl))
 f228:=func295.trans (congrArg some (by kernel_rfl))
 f231:=func271.trans (congrArg some (by kernel_rfl))
 f233:=func273.trans (congrArg some (by kernel_rfl))
 f235:=func274.trans (congrArg some (by kernel_rfl))
 f260:=func306.trans (congrArg some (by kernel_rfl))
 f266:=func315.trans (congrArg some (by kernel_rfl))
 t0:=underlying0
 a0:=isAgg0
 z0:=sizeOf0
 v0:=zeroValue0
 t3:=underlying3
 a3:=isAgg3
 z3:=sizeOf3
 v3:=zeroValue3
 t4:=underlying4
 a4:=isAgg4
 z4:=sizeOf4
 v4:=zeroValue4
 t5:=underlying5
 a5:=isAgg5
 z5:=sizeOf5
 v5:=zeroValue5
 t9:=underlying9
 a9:=isAgg9
 z9:=sizeOf9
 v9:=zeroValue9
 t21:=underlying21
 a21:=isAgg21
 z21:=sizeOf21
 v21:=zeroValue21
 t46:=underlying223
 a46:=isAgg223
 z46:=sizeOf223
 v46:=zeroValue223
 t105:=underlying329
 a105:=isAgg329
 z105:=sizeOf329
 v105:=zeroValue329
 t116:=underlying302
 a116:=isAgg302
 z116:=sizeOf302
 t117:=underlying303
 a117:=isAgg303
 z117:=sizeOf303
 v117:=zeroValue303
 t119:=underlying339
 a119:=isAgg339
 z119:=sizeOf339
 t124:=underlying306
 a124:=isAgg306
 z124:=sizeOf306
 v124:=zeroValue306
 t138:=underlying341
 a138:=isAgg341
 z138:=sizeOf341
 v138:=zeroValue341
 t139:=underlying342
 a139:=isAgg342
 z139:=sizeOf342
 v139:=zeroValue342
 g3:=by kernel_rfl
 g4:=by kernel_rfl }
open Go.RowKit in
theorem Tryz.strings_TrimLeft_one(s:ByteArray)(c:UInt8)(hc:c.toNat<128)(w:World) :
  Calls prog 231 #[.string s,.string ⟨#[c]⟩] w fun e w'=>e=.returned (.string ⟨(Lib.trimLeftB s.data.toList c).toArray⟩)/\w'=w:=Any.strings_TrimLeft_one Tryz.lays161 s c hc w
def Tryz.lays189_ren:Go.Shelf.Ren:=⟨fun|189=>158|125=>201|257=>204|128=>248|129=>249|294=>250|295=>251|296=>252|297=>253|298=>254|299=>255|216=>192|300=>256|301=>257|328=>285|329=>281|330=>282|331=>286|332=>287|215=>202|343=>301|n=>n,fun|28=>22|3=>3|46=>223|0=>0|51=>282|53=>222|4=>4|183=>276|182=>275|131=>124|5=>5|9=>9|218=>309|222=>313|228=>332|229=>333|n=>n,fun|n=>n⟩
theorem Tryz.lays189:Go.Proofs.Lays.n189 prog Tryz.lays189_ren:={
 mixed:=by kernel_rfl
 f125:=func201.trans (congrArg some (by kernel_rfl))
 f128:=func248.trans (congrArg some (by kernel_rfl))
 f129:=func249.trans (congrArg some (by kernel_rfl))
 f189:=func158.trans (congrArg some (by kernel_rfl))
 f215:=func202.trans (congrArg some (by kernel_rfl))
 f216:=func192.trans (congrArg some (by kernel_rfl))
 f257:=func204.trans (congrArg some (by kernel_rfl))
 f294:=func250.trans (congrArg some (by kernel_rfl))
 f295:=func251.trans (congrArg some (by kernel_rfl))
 f296:=func252.trans (congrArg some (by kernel_rfl))
 f297:=func253.trans (congrArg some (by kernel_rfl))
 f298:=func254.trans (congrArg some (by kernel_rfl))
 f299:=func255.trans (congrArg some (by kernel_rfl))
 f300:=func256.trans (congrArg some (by kernel_rfl))
 f301:=func257.trans (congrArg some (by kernel_rfl))
 f328:=func285.trans (congrArg some (by kernel_rfl))
 f329:=func281.trans (congrArg some (by kernel_rfl))
 f330:=func282.trans (congrArg some (by kernel_rfl))
 f331:=func286.trans (congrArg some (by kernel_rfl))
 f332:=func287.trans (congrArg some (by kernel_rfl))
 f343:=func301.trans (congrArg some (by kernel_rfl))
 t0:=underlying0
 a0:=isAgg0
 z0:=sizeOf0
 v0:=zeroValue0
 t3:=underlying3
 a3:=isAgg3
 z3:=sizeOf3
 v3:=zeroValue3
 t4:=underlying4
 a4:=isAgg4
 z4:=sizeOf4
 v4:=zeroValue4
 t5:=underlying5
 a5:=isAgg5
 z5:=sizeOf5
 v5:=zeroValue5
 t9:=underlying9
 a9:=isAgg9
 z9:=sizeOf9
 v9:=zeroValue9
 t28:=underlying22
 a28:=isAgg22
 z28:=sizeOf22
 v28:=zeroValue22
 t46:=underlying223
 a46:=isAgg223
 z46:=sizeOf223
 v46:=zeroValue223
 t51:=underlying282
 a51:=isAgg282
 z51:=sizeOf282
 v51:=zeroValue282
 t53:=underlying222
 a53:=isAgg222
 z53:=sizeOf222
 v53:=zeroValue222
 t131:=underlying124
 a131:=isAgg124
 z131:=sizeOf124
 v131:=zeroValue124
 t182:=underlying275
 a182:=isAgg275
 z182:=sizeOf275
 v182:=zeroValue275
 t183:=underlying276
 a183:=isAgg276
 z183:=sizeOf276
 v183:=zeroValue276
 t218:=underlying309
 a218:=isAgg309
 z218:=sizeOf309
 v218:=zeroValue309
 t222:=underlying313
 a222:=isAgg313
 z222:=sizeOf313
 v222:=zeroValue313
 t228:=underlying332
 a228:=isAgg332
 z228:=sizeOf332
 v228:=zeroValue332
 t229:=underlying333
 a229:=isAgg333
 z229:=sizeOf333
 v229:=zeroValue333 }
open Go.Sort Go.RowKit in
theorem Tryz.slices_Sort_int(blk off cap:Nat)(zs:List Int)(w:World)(hH:Holds (Value.int .i64) w blk off zs.toArray)(hblk:blk<w.heap.size)(hsz:zs.length<4611686018427387904) :
  Calls prog 158 #[.slice (some ⟨blk,off,none⟩) zs.length cap] w fun e w'=>
   e=.returned (.tuple #[])/\∃n os,w'=grow (putRow (Value.int .i64) (Sort.ahead w n) blk off (zs.mergeSort fun x y=>decide (x<=y)).toArray) os:=Any.slices_Sort_int Tryz.lays189 blk off cap zs w hH hblk hsz
def Tryz.lays212_ren:Go.Shelf.Ren:=⟨fun|212=>258|263=>288|264=>289|n=>n,fun|46=>223|51=>282|146=>317|53=>222|148=>319|n=>n,fun|n=>n⟩
theorem Tryz.lays212:Go.Proofs.Lays.n212 prog Tryz.lays212_ren:={
 mixed:=by kernel_rfl
 f212:=func258.trans (congrArg some (by kernel_rfl))
 f263:=func288.trans (congrArg some (by kernel_rfl))
 f264:=func289.trans (congrArg some (by kernel_rfl))
 t46:=underlying223
 a46:=isAgg223
 z46:=sizeOf223
 v46:=zeroValue223
 t51:=underlying282
 a51:=isAgg282
 z51:=sizeOf282
 v51:=zeroValue282
 t53:=underlying222
 a53:=isAgg222
 z53:=sizeOf222
 v53:=zeroValue222
 t146:=underlying317
 a146:=isAgg317
 z146:=sizeOf317
 v146:=zeroValue317
 t148:=underlying319
 a148:=isAgg319
 z148:=sizeOf319
 v148:=zeroValue319 }
open Go.RowKit Go.Lib in
theorem Tryz.bits_Mul(x y:Nat)(hx:x<18446744073709551616)(hy:y<18446744073709551616)(w:World) :
  Calls prog 258 #[.int .u64 x,.int .u64 y] w fun e w'=>e=.returned (.tuple #[.int .u64 ((x*y/18446744073709551616:Nat):Int),.int .u64 ((x*y%18446744073709551616:Nat):Int)])/\w'=w:=Any.bits_Mul Tryz.lays212 x y hx hy w
def Tryz.laysNm220_ren:Go.Shelf.Ren:=⟨fun|20=>164|n=>n,fun|22=>22|3=>3|4=>4|0=>0|n=>n,fun|n=>n⟩
theorem Tryz.laysNm220:Go.Proofs.Lays2.n20 prog Tryz.laysNm220_ren:={
 mixed:=by kernel_rfl
 f20:=func164.trans (congrArg some (by kernel_rfl))
 t0:=underlying0
 a0:=isAgg0
 z0:=sizeOf0
 v0:=zeroValue0
 t3:=underlying3
 a3:=isAgg3
 z3:=sizeOf3
 v3:=zeroValue3
 t4:=underlying4
 a4:=isAgg4
 z4:=sizeOf4
 v4:=zeroValue4
 t22:=underlying22
 a22:=isAgg22
 z22:=sizeOf22
 v22:=zeroValue22
 i3:=by kernel_rfl }
open Go.RowKit Go.Lib Go.Sort in
theorem Tryz.slices_Compact_int(blk off cap:Nat)(zs:List Int)(w:World)(hH:Holds (Value.int .i64) w blk off zs.toArray)(hsz:zs.length<=9223372036854775807)(hcap:zs.length<=cap) :
  Calls prog 164 #[.slice (some ⟨blk,off,none⟩) zs.length cap] w fun e w'=>e=.returned (.slice (some ⟨blk,off,none⟩) (Lib.compact zs).length cap)/\∃q,w'=putRow (Value.int .i64) (Sort.ahead w q) blk off (Lib.compact zs++replicate (zs.length-(Lib.compact zs).length) 0).toArray:=Any.slices_Compact_int Tryz.laysNm220 blk off cap zs w hH hsz hcap
open Go.RowKit Go.Lib Go.Sort in
theorem Tryz.slices_Compact_int_empty(a:Option Addr)(cap:Nat)(w:World) :
  Calls prog 164 #[.slice a 0 cap] w fun e w'=>e=.returned (.slice a 0 cap)/\w'=w:=Any.slices_Compact_int_empty Tryz.laysNm220 a cap w
def Tryz.laysNm225_ren:Go.Shelf.Ren:=⟨fun|25=>130|31=>192|32=>193|37=>202|n=>n,fun|22=>22|3=>3|4=>4|40=>223|0=>0|n=>n,fun|n=>n⟩
theorem Tryz.laysNm225:Go.Proofs.Lays2.n25 prog Tryz.laysNm225_ren:={
 mixed:=by kernel_rfl
 f25:=func130.trans (congrArg some (by kernel_rfl))
 f31:=func192.trans (congrArg some (by kernel_rfl))
 f32:=func193.trans (congrArg some (by kernel_rfl))
 f37:=func202.trans (congrArg some (by kernel_rfl))
 t0:=underlying0
 a0:=isAgg0
 z0:=sizeOf0
 v0:=zeroValue0
 t3:=underlying3
 a3:=isAgg3
 z3:=sizeOf3
 v3:=zeroValue3
 t4:=underlying4
 a4:=isAgg4
 z4:=sizeOf4
 v4:=zeroValue4
 t22:=underlying22
 a22:=isAgg22
 z22:=sizeOf22
 v22:=zeroValue22
 t40:=underlying223
 a40:=isAgg223
 z40:=sizeOf223
 v40:=zeroValue223 }
open Go.RowKit Go.Lib in
theorem Tryz.slices_BinarySearch_int(b off n c:Nat)(zs:List Int)(x:Int)(w:World)(hz:n<=zs.length)(hbig:n<4611686018427387904)(hc:∀j,j<zs.length->w.cell? ⟨b,off+j,none⟩=some (.int .i64 (zs.getD j 0)))(hs:(zs.take n).Pairwise (·<=·)) :
  Calls prog 130 #[.slice (some ⟨b,off,none⟩) n c,.int .i64 x] w fun e w'=>e=.returned (.tuple #[.int .i64 ((zs.take n).countP (·<x):Nat),.bool ((zs.take n).contains x)])/\∃q,w'=w.drewN q:=Any.slices_BinarySearch_int Tryz.laysNm225 b off n c zs x w hz hbig hc hs
open Go.RowKit Go.Lib in
theorem Tryz.slices_BinarySearch_int_empty(a:Option Addr)(c:Nat)(x:Int)(w:World) :
  Calls prog 130 #[.slice a 0 c,.int .i64 x] w fun e w'=>e=.returned (.tuple #[.int .i64 0,.bool false])/\w'=w:=Any.slices_BinarySearch_int_empty Tryz.laysNm225 a c x w
end Go.Proofs

namespace Go.Proofs.Q
open Go.Proofs.Tryz
open Go.Eng Go.RowKit Go.Sort
def Ee(l:List Int):List Int:=l.mergeSort fun x y=>decide (x<=y)
theorem Dn(l:List Int):(Ee l).Perm l:=List.mergeSort_perm l _
theorem Gu(l:List Int):(Ee l).Pairwise (·<=·):=by have:=List.pairwise_mergeSort (le:=fun x y:Int=>decide (x<=y)) (fun a b c=>by simp;omega) (fun a b=>by simp;omega) l;exact this.imp fun h=>by simpa using h
theorem CD(l:List Int):l.flatMap cI=l.map (Value.int .i64):=by
 induction l with
 | nil=>rfl
 | cons a l ih=>rw[List.flatMap_cons,List.map_cons,ih];rfl
theorem Ni(l:List Int)(v:Value)(m:Hp)(hO:OwnL cI 1 3 m v l)(hl:l.length<=2305843009213693951)(h:Hp) :
  FnT Tryz.prog 158 #[v] h [m] (fun _ h' ms'=>h=h'/\∃m',ms'=[m']/\OwnL cI 1 3 m' v (Ee l)):=by
 intro w hw;obtain⟨⟨e0,hown⟩,hF⟩:=hO;rcases hown with ⟨rfl,e1,rfl⟩|⟨g,cap,spare,rfl,rfl,e1,e2,e3⟩
 ·obtain rfl:l=[]:=List.length_eq_zero_iff.1 e1;refine(Any.slices_Sort_int_none Tryz.lays189 none 0 w).mono fun x w' ⟨hx,hw'⟩=>?_;subst hw';exact⟨_,h,[Hp.emp],hx,Ends.refl hw,rfl,_,rfl,by rw[(Dn []).eq_nil];exact OwnL.nil AV⟩
 ·have hcs:l.flatMap cI=l.map (Value.int .i64):=CD l;have hgw:w.heap[g]?=some (.cells (l.flatMap cI++spare).toArray 3 (0,0)):=hw.own _ (List.mem_singleton.2 rfl) g _ (Hp.one_self _ _);have hH:Holds (Value.int .i64) w g 0 l.toArray:=holds_of_blockI hgw (by rw[hcs];simp);have hlt:=(Array.getElem?_eq_some_iff.1 hgw).1;refine(Tryz.slices_Sort_int g 0 cap l w hH hlt (by omega)).mono fun x w' ⟨hx,q,os,hw'⟩=>?_;have htl:(Ee l).length=l.length:=(Dn l).length_eq;change w'=grow (putRow (Value.int .i64) (Sort.ahead w q) g 0 (Ee l).toArray) os at hw';have hb:=heap_sortedI (n:=q) (os:=os) (Ee l).toArray hgw;have hgr:=grownBy_sortedI (w:=w) (g:=g) (n:=q) (os:=os) (Ee l).toArray;have hdr:w.drawn<=w'.drawn:=by rw[hw'];exact Nat.le_add_right _ _
  rw[<-hw']at hb hgr
  have hpc:putCells (Value.int .i64) 0 (Ee l).toArray (l.flatMap cI++spare).toArray=((Ee l).flatMap cI++spare).toArray:=by
   apply Array.ext_getElem?;intro t;unfold putCells;rw[Array.getElem?_mapIdx,List.getElem?_toArray,List.getElem?_toArray,CD,CD];rcases Nat.lt_or_ge t l.length with h|h
   ·rw[List.getElem?_append_left (by simpa using h),List.getElem?_append_left (by simpa[htl] using h)];have h2:t<(Ee l).length:=by omega
    simp[h,h2]
   ·rw[List.getElem?_append_right (by simpa using h),List.getElem?_append_right (by simpa[htl] using h)];simp only[length_map,htl,List.size_toArray];cases spare[t-l.length]? with
    | none=>rfl
    | some u=>
     simp only[Option.map_some];rw[if_neg (by omega)]
  rw[hpc]at hb;have hE:=Ends.put (l':=(Ee l).flatMap cI++spare) (i:=0) (Ends.refl hw) rfl hgr.os ⟨hgr.tape,hdr⟩ hgr.output hgr.size (by simpa using hb) (fun k hk hne=>hgr.block k hk (fun e=>hne (by simpa using e)));refine⟨_,h,_,hx,hE,rfl,_,rfl,⟨?_,.inr ⟨g,cap,spare,?_,rfl,?_,?_,e3⟩⟩,hF⟩
  ·rw[CD];simp
  ·rw[htl]
  ·rw[length_append,A5 AV,htl,<-A5 AV l,<-length_append];exact e1
  ·rw[htl];exact e2
theorem Od(l:List Int)(x:Int):x∈Lib.compact l<->x∈l:=by
 have key:∀m,m<=l.length->∀j,j<m->l.toArray[j]! ∈ Lib.compactUpTo l.toArray m:=by
  intro m
  induction m with
  | zero=>intro _ j hj;omega
  | succ m ih=>
   intro hm j hj;rw[Lib.compactUpTo_succ,List.mem_append];by_cases hjm:j<m
   ·exact .inl (ih (by omega) j hjm)
   ·have:j=m:=by omega
    subst this;cases hk:Lib.keeps l.toArray j with
    | true=>right;simp
    | false=>
     left
     unfold Lib.keeps at hk
     have h0:0<j:=by
      rcases Nat.eq_zero_or_pos j with h|h
      ·subst h;simp at hk
      ·exact h
     have:l.toArray[j]! = l.toArray[j-1]!:=by simp at hk;simpa using hk.2
     rw[this];exact ih (by omega) (j-1) (by omega)
 constructor
 ·intro h;unfold Lib.compact Lib.compactUpTo at h;obtain⟨j,hj,rfl⟩:=List.mem_map.1 h;have hj':j<l.length:=by simpa using (List.mem_filter.1 hj).1
  simp[hj']
 ·intro h;obtain⟨j,hj,rfl⟩:=getElem_of_mem h;have:=key l.length (Nat.le_refl _) j hj;unfold Lib.compact;simpa[hj] using this
theorem EX(l:List Int):(Lib.compact l).Sublist l:=by
 unfold Lib.compact Lib.compactUpTo
 have h1:(range l.length).map (fun j=>l.toArray[j]!)=l:=by have:=Lib.range_map_get l.toArray;simpa using this
 have h2:=List.Sublist.map (fun j=>l.toArray[j]!) (List.filter_sublist (l:=range l.length) (p:=Lib.keeps l.toArray));rw[h1]at h2;exact h2
theorem QJ(l:List Int)(v:Value)(m:Hp)(hO:OwnL cI 1 3 m v l)(hl:l.length<=2305843009213693951)(h:Hp) :
  FnT Tryz.prog 164 #[v] h [m] (fun r h' ms'=>h=h'/\∃m',ms'=[m']/\OwnL cI 1 3 m' r (Lib.compact l)):=by
 intro w hw;have hle:(Lib.compact l).length<=l.length:=(EX l).length_le;obtain⟨⟨e0,hown⟩,hF⟩:=hO;rcases hown with ⟨rfl,e1,rfl⟩|⟨g,cap,spare,rfl,rfl,e1,e2,e3⟩
 ·obtain rfl:l=[]:=List.length_eq_zero_iff.1 e1;refine(Tryz.slices_Compact_int_empty none 0 w).mono fun x w' ⟨hx,hw'⟩=>?_;subst hw';exact⟨_,h,[Hp.emp],hx,Ends.refl hw,rfl,_,rfl,OwnL.nil AV⟩
 ·have hcs:l.flatMap cI=l.map (Value.int .i64):=CD l;have hgw:w.heap[g]?=some (.cells (l.flatMap cI++spare).toArray 3 (0,0)):=hw.own _ (List.mem_singleton.2 rfl) g _ (Hp.one_self _ _);have hH:Holds (Value.int .i64) w g 0 l.toArray:=holds_of_blockI hgw (by rw[hcs];simp);refine(Tryz.slices_Compact_int g 0 cap l w hH (by omega) e2).mono fun x w' ⟨hx,q,hw'⟩=>?_;generalize hts:Lib.compact l++replicate (l.length-(Lib.compact l).length) 0=ts at hw';have htl:ts.length=l.length:=by rw[<-hts];simp;omega
  have hb:=heap_sortedI (n:=q) (os:=#[]) ts.toArray hgw;have hgr:=grownBy_sortedI (w:=w) (g:=g) (n:=q) (os:=#[]) ts.toArray;rw[grow_empty]at hb hgr;have hdr:w.drawn<=w'.drawn:=by rw[hw'];exact Nat.le_add_right _ _
  rw[<-hw']at hb hgr;have htk:=take_putCellsI (l.flatMap cI++spare).toArray ts (by rw[hcs];simp;omega);have hsz:(putCells (Value.int .i64) 0 ts.toArray (l.flatMap cI++spare).toArray).size=cap*1:=by simp[putCells];simpa using e1
  generalize hpc:putCells (Value.int .i64) 0 ts.toArray (l.flatMap cI++spare).toArray=pc at hb htk hsz;have hE:=Ends.put (l':=pc.toList) (i:=0) (Ends.refl hw) rfl hgr.os ⟨hgr.tape,hdr⟩ hgr.output hgr.size (by simpa using hb) (fun k hk hne=>hgr.block k hk (fun e=>hne (by simpa using e)))
  have hk:pc.toList.take (Lib.compact l).length=(Lib.compact l).flatMap cI:=by
   have h1:pc.toList.take (Lib.compact l).length=(pc.toList.take ts.length).take (Lib.compact l).length:=by rw[List.take_take,Nat.min_eq_left (by omega)]
   rw[h1,htk,<-hts,List.map_append,List.take_left' (by simp),CD]
  refine⟨_,h,_,hx,hE,rfl,_,rfl,⟨?_,.inr ⟨g,cap,pc.toList.drop (Lib.compact l).length,rfl,?_,?_,by omega,e3⟩⟩,hF⟩
  ·rw[CD];simp
  ·rw[<-hk,List.take_append_drop]
  ·rw[<-hk,List.take_append_drop];simpa using hsz
end Go.Proofs.Q

namespace Go.Proofs.Q
open Go.Proofs.Tryz
open Go.Eng Go.RowKit
structure Br where
 dim:Int
 birth:Int
 death:Int
 opn:Bool
 low:Int
 high:Int
deriving DecidableEq
def GH(b:Br):List Value:=[.int .i64 b.dim,.int .i64 b.birth,.int .i64 b.death,.bool b.opn,.int .i64 b.low,.int .i64 b.high]
theorem GR:∀b,(GH b).length=6:=fun _=>rfl
theorem FD:∀a,∀c∈GH a,c.oneCell'=true:=fun a c hc=>by simp only[GH,mem_cons,List.not_mem_nil,or_false]at hc;rcases hc with rfl|rfl|rfl|rfl|rfl|rfl<;>rfl
structure J4(b:Br):Prop where
 b1:-1000000000000<=b.birth
 b2:b.birth<=1000000000000
 d1:-1000000000000<=b.death
 d2:b.death<=1000000000000
def Br.cnt(b:Br):Bool:=b.opn||decide (b.birth<b.death)
def Br.len(b:Br):Int:=b.death-b.birth
def FV(n:Int):Int:=max n (-n)
def Br.apart(x y:Br):Int:=2*max (FV (x.birth-y.birth)) (FV (x.death-y.death))
theorem Qn(a:Int)(ha:-9223372036854775807<=a/\a<=9223372036854775807)(h:Hp)(ms:List Hp):FnV Tryz.prog 159 #[.int .i64 a] h ms (.int .i64 (FV a)):=by refine FnV.weaken (FnT.toV ?_) (Hp.emp_le h);refine Ao func159 ntmps159 rfl rfl (fun w0 hw0=>?_);simp only[AU];refine As (Qm rfl (Bv (Qm rfl (Qm rfl (Qx (Qv rfl rfl (by omega)) rfl (Qx (GG rfl rfl rfl) rfl (Qm rfl (An (Am ?_)))))))));exact Ap rfl rfl (rfl)
theorem RZ{a:Int}{M:Int}(h:-M<=a/\a<=M):0<=FV a/\FV a<=M:=by unfold FV;omega
theorem Gv(a b:Int)(h:Hp)(ms:List Hp):FnV Tryz.prog 101 #[.int .i64 a,.int .i64 b] h ms (.agg (GH ⟨1,a,b,false,0,0⟩).toArray):=by refine FnV.weaken (FnT.toV ?_) (Hp.emp_le h);refine Ao func101 ntmps101 rfl rfl (fun w0 hw0=>?_);simp only[AU];refine As (CC [.int .i64 0,.int .i64 0,.int .i64 0,.bool false,.int .i64 0,.int .i64 0] rfl BW rfl rfl (fun g4=>Bv (Qm rfl (Qm rfl (Qx (A0 Aaw [.int .i64 0,.int .i64 0,.int .i64 0,.bool false,.int .i64 0,.int .i64 0] [(0,_),(1,_),(2,_)] [_,_,_,_,_,_] rfl BW rfl rfl Qt rfl) rfl ?_)))));refine Sa 0 [_,_,_,_,_,_] BW rfl (by simp[Value.oneCell']) ?_;refine An (Am ?_);refine RC rfl rfl Mo rfl BW rfl (Seg.blk 0 rfl) rfl
theorem Hx(a:Int)(h:Hp)(ms:List Hp):FnV Tryz.prog 102 #[.int .i64 a] h ms (.agg (GH ⟨1,a,0,true,0,0⟩).toArray):=by refine FnV.weaken (FnT.toV ?_) (Hp.emp_le h);refine Ao func102 ntmps102 rfl rfl (fun w0 hw0=>?_);simp only[AU];refine As (CC [.int .i64 0,.int .i64 0,.int .i64 0,.bool false,.int .i64 0,.int .i64 0] rfl BW rfl rfl (fun g2=>Bv (Qm rfl (Qx (A0 Aaw [.int .i64 0,.int .i64 0,.int .i64 0,.bool false,.int .i64 0,.int .i64 0] [(0,_),(1,_),(3,_)] [_,_,_,_,_,_] rfl BW rfl rfl Qt rfl) rfl ?_))));refine Sa 0 [_,_,_,_,_,_] BW rfl (by simp[Value.oneCell']) ?_;refine An (Am ?_);refine RC rfl rfl Mo rfl BW rfl (Seg.blk 0 rfl) rfl
theorem SF(b:Br)(h:Hp)(ms:List Hp):FnV Tryz.prog 161 #[.agg (GH b).toArray] h ms (.bool b.cnt):=by
 refine FnV.weaken (FnT.toV ?_) (Hp.emp_le h);refine Ao func161 ntmps161 rfl rfl (fun w0 hw0=>?_);simp only[AU];refine As (AS [_,_,_,_,_,_] rfl rfl (by rfl) rfl rfl rfl (fun g1=>Qm rfl (Bv (Qf Ij rfl (Ql rfl U4 (Cell.blk 0 rfl rfl) (Qm rfl ?_))))));refine De (t:=5) rfl (fun hs=>?_) (fun hs=>?_)
 ·refine Qk rfl (Qk rfl (Qk rfl (Qk rfl (Qk rfl (Qm rfl (Qm rfl (An (Am ?_))))))));exact Ap rfl rfl (by simp[Br.cnt,hs])
 ·refine Qg (oF Il rfl) rfl (Qg (oL rfl U3 (Cell.blk 0 rfl rfl)) rfl (Qg (oF Ib rfl) rfl (Qg (oL rfl U3 (Cell.blk 0 rfl rfl)) rfl (Qg (Cc rfl rfl rfl) rfl (Qm rfl (Qm rfl (An (Am ?_))))))));exact Ap rfl rfl (by simp[Br.cnt,hs])
theorem HA(b:Br)(hb:J4 b)(h:Hp)(ms:List Hp):FnV Tryz.prog 162 #[.agg (GH b).toArray] h ms (.int .i64 b.len):=by refine FnV.weaken (FnT.toV ?_) (Hp.emp_le h);obtain⟨b1,b2,b3,b4⟩:=hb;refine Ao func162 ntmps162 rfl rfl (fun w0 hw0=>?_);simp only[AU];refine As (AS [_,_,_,_,_,_] rfl rfl (by rfl) rfl rfl rfl (fun g1=>Qm rfl (Bv (Qf Il rfl (Ql rfl U3 (Cell.blk 0 rfl rfl) (Qf Ib rfl (Ql rfl U3 (Cell.blk 0 rfl rfl) (Qx (oS rfl) rfl (Qm rfl (An (Am ?_)))))))))));exact Ap rfl rfl (rfl)
theorem Ph(x y:Br)(hx:J4 x)(hy:J4 y)(h:Hp)(ms:List Hp):FnV Tryz.prog 163 #[.agg (GH x).toArray,.agg (GH y).toArray] h ms (.int .i64 (x.apart y)):=by refine FnV.weaken (FnT.toV ?_) (Hp.emp_le h);obtain⟨x1,x2,x3,x4⟩:=hx;obtain⟨y1,y2,y3,y4⟩:=hy;have hi1:=RZ (a:=x.birth-y.birth) (M:=2000000000000) (by omega);have hi2:=RZ (a:=x.death-y.death) (M:=2000000000000) (by omega);refine Ao func163 ntmps163 rfl rfl (fun w0 hw0=>?_);simp only[AU];refine As (AS [_,_,_,_,_,_] rfl rfl (by rfl) rfl rfl rfl (fun g2=>AS [_,_,_,_,_,_] rfl rfl (by rfl) rfl rfl rfl (fun g3=>Qm rfl (An (Ac (Bc 11 CP (by kernel_rfl) rfl (Wf Ib rfl (Wl rfl U3 (Cell.blk 1 rfl rfl) (Wf Ib rfl (Wl rfl U3 (Cell.blk 0 rfl rfl) (AP (oS rfl) rfl rfl (AP (AF rfl call159 rfl (Qn _ (by omega) _ _)) rfl rfl (Wf Il rfl (Wl rfl U3 (Cell.blk 1 rfl rfl) (Wf Il rfl (Wl rfl U3 (Cell.blk 0 rfl rfl) (AP (oS rfl) rfl rfl (AZ (Qx (AF rfl call159 rfl (Qn _ (by omega) _ _)) rfl (Qx (GG rfl rfl rfl) rfl (Qx (oM rfl) rfl (Qm rfl (An (Am ?_))))))))))))))))))))))));exact Ap rfl rfl (rfl)
theorem FH(l:List Br)(vl:Value)(cf:FuncId)(cs:List Value)(p:Br->Bool)(h:Hp)(hR:RdL GH 6 h [] vl l)(hl:l.length<=1000000000)
  (hc:∀xs w,(callFunc cf xs).run Tryz.prog w=.ok (.enter cf xs) w)
  (hp:∀b∈l,∀ms,FnV Tryz.prog cf ([]++[Value.agg (GH b).toArray]++cs).toArray h ms (.bool (p b))) :
  FnT Tryz.prog 112 #[vl,.func (.func cf) #[] cs.toArray] h [] (fun r h' ms'=>ms'=[]/\RdL GH 6 h' [] r (l.filter p)):=by
 refine Ao func112 ntmps112 rfl rfl (fun w0 hw0=>?_);simp only[AU];refine As (Qm rfl (Bv (Qm rfl (An (Ac (As (Qm rfl (Qx (Ar hR.rd.any rfl E0 rfl) rfl (Qm rfl (An (Ae (BB ?_))))))))))))
 refine Az (fun n s h' ms'=>∃(k:Nat) (v:Value) (m:Hp),n=l.length-k/\s=[(1,.func (.func cf) #[] cs.toArray),(8,vl),(9,.int .i64 l.length),(10,.int .i64 k),(5,v)]/\h'=h/\ms'=[m]/\k<=l.length/\OwnL GH 6 43 m v ((l.take k).filter p))
  (l.length-0) _ ⟨0,_,_,rfl,rfl,rfl,rfl,by omega,OwnL.nil GR⟩ Qs ?_
 rintro n s h' ms' ⟨k,v,m,rfl,rfl,rfl,rfl,hk,hO⟩;have hO2:=hO.own.1;refine As (Qm rfl (An (Ac ?_)));refine Au rfl (fun hlt=>?_) (fun hlt=>?_)
 ·have hlt':k<l.length:=by omega
  have hmem:l[k]∈l:=getElem_mem hlt';have hts:=F9 l p k hlt';refine Ah (Ab (Ac (Ae (As (Qx (AC _ hR.rd.any rfl E0 BW rfl rfl rfl (by omega)) rfl (Qx (oG rfl Mo BW (hR.any.seg hlt')) rfl (CC [.int .i64 0,.int .i64 0,.int .i64 0,.bool false,.int .i64 0,.int .i64 0] rfl BW rfl rfl (fun g7=>D1 0 _ rfl BW rfl rfl rfl (FD _) rfl (by rfl) (by rfl) rfl rfl (Bv (Qm rfl (Qx (oG rfl Mo BW (Seg.blk 0 rfl)) rfl (Qx (BX rfl rfl hc rfl (hp _ hmem _)) rfl (An ?_)))))))))))));refine Bq rfl (fun hpk=>?_) (fun hpk=>?_)
  ·refine Ad (Qm rfl (Qx (oG rfl Mo BW (Seg.blk 0 rfl)) rfl (Aq _ rfl E0 BW rfl (by rfl) (by rfl) rfl (by omega) rfl rfl rfl (fun g19=>?_))));have hfl:((l.take k).filter p).length<=k:=Nat.le_trans (List.length_filter_le _ _) (by rw[List.length_take];omega);refine AM 2 hO (RdL.one GR Mh rfl) rfl E0 BW rfl (by omega) rfl rfl rfl FD (by simp;omega) (by simp;omega) rfl rfl rfl (fun v' m' hO'=>?_);refine Qm rfl (Aj (Ai (Ab (Ad (Qx (oA rfl) rfl (Qm rfl (Aj ?_)))))));refine AN (AN ?_);refine Ak (l.length-(k+1)) _ (by omega) ⟨k+1,v',m',rfl,rfl,rfl,rfl,by omega,by rw[hts,if_pos hpk];exact hO'⟩ Qs
  ·refine Ah (Ai (Ab (Ad (Qx (oA rfl) rfl (Qm rfl (Aj (AN ?_)))))));refine Ak (l.length-(k+1)) _ (by omega) ⟨k+1,v,m,rfl,rfl,rfl,rfl,by omega,by rw[hts,if_neg (by simp[hpk]),append_nil];exact hO⟩ Qs
 ·refine Av (Aa (Aa (Af (Ab (As (Qm rfl (Qm rfl (An (Am ?_)))))))));have hkl:l.take k=l:=take_of_length_le (by omega);rw[hkl]at hO;refine GC hO (fun h' hle hR'=>?_);exact Ap rfl rfl (⟨rfl,hR'⟩)
theorem MQ(l:List Int)(vl:Value)(cf:FuncId)(cs:List Value)(p:Int->Bool)(h:Hp)(hR:RdL cI 1 h [] vl l)(hl:l.length<=1000000000)
  (hc:∀xs w,(callFunc cf xs).run Tryz.prog w=.ok (.enter cf xs) w)
  (hp:∀b∈l,∀ms,FnV Tryz.prog cf ([]++[Value.int .i64 b]++cs).toArray h ms (.bool (p b))) :
  FnT Tryz.prog 165 #[vl,.func (.func cf) #[] cs.toArray] h [] (fun r h' ms'=>h=h'/\∃m,ms'=[m]/\OwnL cI 1 3 m r (l.filter p)):=by
 refine Ao func165 ntmps165 rfl rfl (fun w0 hw0=>?_);simp only[AU];refine As (Qm rfl (Bv (Qm rfl (An (Ac (As (Qm rfl (Qx (Ar hR.rd.any rfl AY rfl) rfl (Qm rfl (An (Ae (BB ?_))))))))))))
 refine Az (fun n s h' ms'=>∃(k:Nat) (v:Value) (m:Hp),n=l.length-k/\s=[(1,.func (.func cf) #[] cs.toArray),(8,vl),(9,.int .i64 l.length),(10,.int .i64 k),(5,v)]/\h=h'/\ms'=[m]/\k<=l.length/\OwnL cI 1 3 m v ((l.take k).filter p))
  (l.length-0) _ ⟨0,_,_,rfl,rfl,rfl,rfl,by omega,OwnL.nil AV⟩ Qs ?_
 rintro n s h' ms' ⟨k,v,m,rfl,rfl,rfl,rfl,hk,hO⟩;have hO2:=hO.own.1;refine As (Qm rfl (An (Ac ?_)));refine Au rfl (fun hlt=>?_) (fun hlt=>?_)
 ·have hlt':k<l.length:=by omega
  have hmem:l[k]∈l:=getElem_mem hlt';have hts:=F9 l p k hlt';refine Ah (Ab (Ac (Ae (As (Qx (AC _ hR.rd.any rfl AY Be rfl rfl rfl (by omega)) rfl (Ql rfl U3 (hR.any.cell0 hlt' rfl) (Qm rfl (Bv (Qm rfl (Qm rfl (Qx (BX rfl rfl hc rfl (hp _ hmem _)) rfl (An ?_))))))))))));refine Bq rfl (fun hpk=>?_) (fun hpk=>?_)
  ·refine Ad (Qm rfl (Qm rfl (Aq [_] rfl AY Be rfl (by rfl) rfl rfl (by omega) rfl rfl rfl (fun g19=>?_))));have hfl:((l.take k).filter p).length<=k:=Nat.le_trans (List.length_filter_le _ _) (by rw[List.length_take];omega);refine AM 1 hO (RdL.one AV Mh rfl) rfl AY Be rfl (by omega) rfl rfl rfl B5 (by simp;omega) (by simp;omega) rfl rfl rfl (fun v' m' hO'=>?_);refine Qm rfl (Aj (Ai (Ab (Ad (Qx (oA rfl) rfl (Qm rfl (Aj (AN ?_))))))));refine Ak (l.length-(k+1)) _ (by omega) ⟨k+1,v',m',rfl,rfl,rfl,rfl,by omega,by rw[hts,if_pos hpk];exact hO'⟩ Qs
  ·refine Ah (Ai (Ab (Ad (Qx (oA rfl) rfl (Qm rfl (Aj ?_))))));refine Ak (l.length-(k+1)) _ (by omega) ⟨k+1,v,m,rfl,rfl,rfl,rfl,by omega,by rw[hts,if_neg (by simp[hpk]),append_nil];exact hO⟩ Qs
 ·refine Av (Aa (Aa (Af (Ab (As (Qm rfl (Qm rfl (An (Am ?_)))))))));have hkl:l.take k=l:=take_of_length_le (by omega);rw[hkl]at hO;exact Ap rfl rfl (⟨rfl,m,rfl,hO⟩)
def Br.openIn(dim:Int)(b:Br):Bool:=decide (b.dim=dim)&&b.opn
def Br.finIn(dim:Int)(b:Br):Bool:=decide (b.dim=dim)&&!b.opn&&b.cnt
theorem SU(b:Br)(gd:Nat)(dim:Int)(h:Hp)(hD:∀ms,Cell h ms ⟨gd,0,none⟩ (.int .i64 dim))(ms:List Hp):FnV Tryz.prog 157 ([]++[Value.agg (GH b).toArray]++[Value.pointer (some ⟨gd,0,none⟩)]).toArray h ms (.bool (b.openIn dim)):=by
 refine fun w hw=>(?_:FnV _ _ _ h [] _) w (hw.weaken (CY) (List.nil_sublist _));refine FnT.toV ?_;show FnT _ _ #[.agg (GH b).toArray,.pointer (some ⟨gd,0,none⟩)] _ _ _;refine Ao func157 ntmps157 rfl rfl (fun w0 hw0=>?_);simp only[AU];refine As (AS [_,_,_,_,_,_] rfl rfl (by rfl) rfl rfl rfl (fun g2=>Qm rfl (Bv (Qf QN rfl (Ql rfl U3 (Cell.blk 0 rfl rfl) (Ql rfl U3 (hD _) (Qm rfl (Qm rfl ?_))))))));refine AO (t:=8) rfl (fun hs=>?_) (fun hs=>?_)
 ·refine Qg (oF Ij rfl) rfl (Qg (oL rfl U4 (Cell.blk 0 rfl rfl)) rfl (Qm rfl (Qm rfl (An (Am ?_)))));exact Ap rfl rfl (by simp[Br.openIn,hs])
 ·refine Qk rfl (Qk rfl (Qm rfl (Qm rfl (An (Am ?_)))));exact Ap rfl rfl (by simp[Br.openIn,hs])
theorem O4(b:Br)(gd:Nat)(dim:Int)(h:Hp)(hD:∀ms,Cell h ms ⟨gd,0,none⟩ (.int .i64 dim))(ms:List Hp):FnV Tryz.prog 160 ([]++[Value.agg (GH b).toArray]++[Value.pointer (some ⟨gd,0,none⟩)]).toArray h ms (.bool (b.finIn dim)):=by
 refine fun w hw=>(?_:FnV _ _ _ h [] _) w (hw.weaken (CY) (List.nil_sublist _));refine FnT.toV ?_;show FnT _ _ #[.agg (GH b).toArray,.pointer (some ⟨gd,0,none⟩)] _ _ _;refine Ao func160 ntmps160 rfl rfl (fun w0 hw0=>?_);simp only[AU];refine As (AS [_,_,_,_,_,_] rfl rfl (by rfl) rfl rfl rfl (fun g2=>Qm rfl (Bv (Qf QN rfl (Ql rfl U3 (Cell.blk 0 rfl rfl) (Ql rfl U3 (hD _) (Qm rfl (Qm rfl ?_))))))));refine AO (t:=8) rfl (fun hs=>?_) (fun hs=>?_)
 ·refine Qg (oF Ij rfl) rfl (Qg (oL rfl U4 (Cell.blk 0 rfl rfl)) rfl (Qg (Es rfl rfl) rfl (Qm rfl (Qm rfl ?_))));refine De (t:=13) rfl (fun hs2=>?_) (fun hs2=>?_)
  ·refine Qg (oG rfl Mo BW (Seg.blk 0 rfl)) rfl (Qg (AF rfl call161 rfl (SF _ _ _)) rfl (Qm rfl (Qm rfl (An (Am ?_)))));exact Ap rfl rfl (by simp[Br.finIn,hs]at hs2 ⊢;simp[hs2])
  ·refine Qk rfl (Qk rfl (Qm rfl (Qm rfl (An (Am ?_)))));exact Ap rfl rfl (by simp[Br.finIn,hs]at hs2 ⊢;simp[hs2])
 ·refine Qk rfl (Qk rfl (Qk rfl (Qm rfl (Qm rfl (Qk rfl (Qk rfl (Qm rfl (Qm rfl (An (Am ?_))))))))));exact Ap rfl rfl (by simp[Br.finIn,hs])
theorem Yc(b:Int)(gd:Nat)(m:Int)(h:Hp)(hD:∀ms,Cell h ms ⟨gd,0,none⟩ (.int .i64 m))(ms:List Hp):FnV Tryz.prog 166 ([]++[Value.int .i64 b]++[Value.pointer (some ⟨gd,0,none⟩)]).toArray h ms (.bool (decide (m<=b))):=by refine fun w hw=>(?_:FnV _ _ _ h [] _) w (hw.weaken (CY) (List.nil_sublist _));refine FnT.toV ?_;show FnT _ _ #[.int .i64 b,.pointer (some ⟨gd,0,none⟩)] _ _ _;refine Ao func166 ntmps166 rfl rfl (fun w0 hw0=>?_);simp only[AU];refine As (Qm rfl (Bv (Qm rfl (Ql rfl U3 (hD _) (Qm rfl (Qm rfl (An (Am ?_))))))));exact Ap rfl rfl (rfl)
theorem FW{α β:Type}(f:α->β)(l:List α)(k:Nat)(hk:k<l.length):(l.take (k+1)).map f=(l.take k).map f++[f l[k]]:=by rw[List.take_succ_eq_append_getElem hk,List.map_append];rfl
def Bx(dim:Int)(l:List Br):List Int:=Ee ((l.filter (Br.openIn dim)).map Br.birth)
theorem Mq(l:List Br)(vl:Value)(gd:Nat)(dim:Int)(h:Hp)(hR:RdL GH 6 h [] vl l)(hl:l.length<=1000000000)(hD:Cell h [] ⟨gd,0,none⟩ (.int .i64 dim)) :
  FnT Tryz.prog 156 #[vl,.pointer (some ⟨gd,0,none⟩)] h [] (fun r h' ms'=>ms'=[]/\RdL cI 1 h' [] r (Bx dim l)):=by
 refine Ao func156 ntmps156 rfl rfl (fun w0 hw0=>?_);simp only[AU];refine As (Qm rfl (Bv (Qm rfl (An (Ac (As (Qm rfl (Qx (Bk rfl rfl rfl) rfl (Qc call112 rfl (FH l vl 157 [Value.pointer (some ⟨gd,0,none⟩)] (Br.openIn dim) h hR hl call157 (fun b _ ms=>SU b gd dim h (fun _=>hD.any) ms)) (fun v9 h9 ms9 hle9 hL=>?_))))))))));obtain⟨rfl,hR9⟩:=hL;simp only[nil_append];have hlf:(l.filter (Br.openIn dim)).length<=l.length:=List.length_filter_le _ _;unfold Bx;generalize hq:l.filter (Br.openIn dim)=q at hR9 hlf ⊢;refine Qx (Ar hR9.rd.any rfl E0 rfl) rfl (Qm rfl (An (Ae (BB ?_))))
 refine Az (fun n s h' ms'=>∃(k:Nat) (v:Value) (m:Hp),n=q.length-k/\s=[(9,v9),(10,.int .i64 q.length),(11,.int .i64 k),(4,v)]/\h9=h'/\ms'=[m]/\k<=q.length/\OwnL cI 1 3 m v ((q.take k).map Br.birth))
  (q.length-0) _ ⟨0,_,_,rfl,rfl,rfl,rfl,by omega,OwnL.nil AV⟩ Qs ?_
 rintro n s h' ms' ⟨k,v,m,rfl,rfl,rfl,rfl,hk,hO⟩;have hO2:=hO.own.1;refine As (Qm rfl (An (Ac ?_)));refine Au rfl (fun hlt=>?_) (fun hlt=>?_)
 ·have hlt':k<q.length:=by omega
  have hts:=FW Br.birth q k hlt';refine Ah (Ab (Ac (Ae (As (Qx (AC _ hR9.rd.any rfl E0 BW rfl rfl rfl (by omega)) rfl (Qx (oG rfl Mo BW (hR9.any.seg hlt')) rfl (CC [.int .i64 0,.int .i64 0,.int .i64 0,.bool false,.int .i64 0,.int .i64 0] rfl BW rfl rfl (fun g6=>D1 0 _ rfl BW rfl rfl rfl (FD _) rfl (by rfl) (by rfl) rfl rfl (Gh (Qm rfl (Qf Ib rfl (Ql rfl U3 (Cell.blk 0 rfl rfl) (Aq _ rfl AY Be rfl (by rfl) (by rfl) rfl (by omega) rfl rfl rfl (fun g18=>?_))))))))))))));refine AM 2 hO (RdL.one AV Mh rfl) rfl AY Be rfl (by omega) rfl rfl rfl B5 (by simp;omega) (by simp;omega) rfl rfl rfl (fun v' m' hO'=>?_);refine Qm rfl (Aj (Ai (Ab (Ad (Qx (oA rfl) rfl (Qm rfl (Aj ?_)))))));refine AN (AN ?_);refine Ak (q.length-(k+1)) _ (by omega) ⟨k+1,v',m',rfl,rfl,rfl,rfl,by omega,by rw[hts];exact hO'⟩ Qs
 ·have hkl:q.take k=q:=take_of_length_le (by omega);rw[hkl]at hO;refine Av (Aa (Aa (Af (Ab (As (Qm rfl ?_))))));refine A8 (pre:=[m]) rfl call158 rfl (Ni (q.map Br.birth) v m hO (by simp;omega) _) rfl rfl rfl rfl (fun _ _ _ _ hL=>?_);obtain⟨rfl,m2,rfl,hO3⟩:=hL;refine Bv (Qm rfl (Qm rfl (An (Am (GC hO3 (fun h' hle hR'=>?_))))));exact Ap rfl rfl (⟨rfl,hR'⟩)
theorem AaA(x y:Nat)(hx:x<18446744073709551616)(hy:y<18446744073709551616)(h:Hp)(ms:List Hp){x' y':Int}(ex:x'=x)(ey:y'=y) :
  FnV Tryz.prog 258 #[.int .u64 x',.int .u64 y'] h ms (.tuple #[.int .u64 ((x*y/18446744073709551616:Nat):Int),.int .u64 ((x*y%18446744073709551616:Nat):Int)]):=by
 subst ex ey;exact FnV.ofCalls fun w=>Tryz.bits_Mul x y hx hy w
theorem Uc(n k j:Nat)(a:Int)(h:k+j<=n) :
  ((replicate k (Value.int .i64 a)++replicate (n-k) (Value.int .i64 0)).take k++(replicate k (Value.int .i64 a)).take j++(replicate k (Value.int .i64 a)++replicate (n-k) (Value.int .i64 0)).drop (k+j))=replicate (k+min j k) (Value.int .i64 a)++replicate (n-(k+j)) (Value.int .i64 0):=by
 rw[List.take_left' (by simp),List.take_replicate,List.drop_append,List.drop_eq_nil_of_le (by simp),nil_append,List.drop_replicate,List.length_replicate,List.replicate_append_replicate];congr 2;omega
theorem TH(n:Nat)(hn:n<=1000000000)(vx:Value)(h:Hp)(hR:RdL cI 1 h [] vx [-1]){n':Int}(en:n'=n) :
  FnT Tryz.prog 206 #[vx,.int .i64 n'] h [] (fun r h' ms'=>h=h'/\∃m,ms'=[m]/\OwnL cI 1 3 m r (replicate n (-1))):=by
 subst en;have hm1:1*n/18446744073709551616=0:=by omega
 have hm2:1*n%18446744073709551616=n:=by omega
 refine Ao func206 ntmps206 rfl rfl (fun w0 hw0=>?_);simp only[AU];refine As (Qm rfl (An (Ac (As (Qm rfl (Qm rfl (An (Au rfl (fun hc=>absurd hc (by omega)) (fun hc=>Ah (Ab (As (Qm rfl (Qx (Ar hR.rd.any rfl AY rfl) rfl (Qx (Hz rfl U3 GJ rfl (Ds (by simp))) rfl (Qm rfl (Qx (Hz rfl U3 GJ rfl (Ds (by omega))) rfl (Qx (AF rfl call258 rfl (AaA 1 n (by omega) (by omega) _ _ (by simp) rfl)) rfl (Qm rfl ?_))))))))))))))))));rw[hm1,hm2];refine Qm rfl (Qm rfl (Qm rfl (Qm rfl (An (Ac (As (Qm rfl (Qm rfl (Qm rfl (AO (t:=23) rfl (fun hs=>absurd hs (by omega)) (fun hs=>Qg (Ay rfl rfl) rfl (Qg (Cc rfl rfl rfl) rfl (Qm rfl (An (Au rfl (fun hc=>absurd hc (by omega)) (fun hc=>Ah (Ab (As (Qm rfl (Qx (Hz rfl GJ U3 rfl (Da (by omega))) rfl (CM (n:=n) rfl AY Be rfl rfl rfl (by rfl) (by rfl) (by omega) (by omega) rfl rfl rfl (fun g30=>Qm rfl (Bv (Qm rfl (Qm rfl ?_)))))))))))))))))))))))));refine Pn (n:=min 1 n) 0 rfl AY Be rfl rfl rfl hR.rd.any (by simp) rfl rfl (by simp;omega) (fun c hc=>by simp[cI]at hc;subst hc;rfl) rfl rfl rfl ?_
 have e0:((replicate n (Value.int .i64 0)).take 0++([-1].flatMap cI).take (min 1 n)++(replicate n (Value.int .i64 0)).drop (0+min 1 n))=replicate (min 1 n) (Value.int .i64 (-1))++replicate (n-min 1 n) (Value.int .i64 0):=by
  rcases Nat.eq_zero_or_pos n with h0|h0
  ·subst h0;rfl
  ·rw[show min 1 n=1 by omega];simp[cI]
 rw[e0];refine Qm rfl (An (Ac (Ae ?_)))
 refine Az (fun q s h' ms'=>∃(k:Nat) (y:Int),q=n-k/\s=[(7,.slice (some ⟨g30,0,none⟩) n n),(8,.int .i64 y)]/\h=h'/\ms'=[A7 g30 3 (replicate k (Value.int .i64 (-1))++replicate (n-k) (Value.int .i64 0))]/\y=k/\k<=n/\(0<n->0<k))
  _ _ ⟨min 1 n,(min 1 n:Nat),rfl,rfl,rfl,rfl,rfl,by omega,by omega⟩ Qs ?_
 rintro q s h' ms' ⟨k,y,rfl,rfl,rfl,rfl,hy,hk,hk0⟩;refine Ac (As (Qm rfl (Qm rfl (Qx (NO (ty:=22) rfl AY rfl) rfl (Qm rfl (An ?_))))));refine Au rfl (fun hlt=>?_) (fun hlt=>?_)
 ·refine Ah (Ab (Ae (Dw 7 [true] CP (by kernel_rfl) (by kernel_rfl) (by kernel_rfl) (DZ rfl rfl rfl rfl (B8 rfl rfl) ?_))));refine⟨rfl,?_⟩;simp only[Eh,zap,cons_append,nil_append,List.take_succ_cons,List.take_zero,List.drop_succ_cons,List.drop_zero,List.take_nil,List.drop_nil];refine DU rfl rfl rfl (Wm rfl (Wm rfl (AP (QG k rfl AY Be rfl rfl hy (by omega)) rfl rfl (Wm rfl (Wm rfl (AP (QY k rfl AY Be rfl rfl hy (by omega)) rfl rfl (AZ ?_)))))))
  have hRd:Rd h [A7 g30 3 (replicate k (Value.int .i64 (-1))++replicate (n-k) (Value.int .i64 0))] (.slice (some ⟨g30,0,none⟩) k n) 1 k (replicate k (Value.int .i64 (-1))):=
   ⟨_,n,rfl,by omega,by omega,by simp,fun _=>⟨_,rfl,fun j v hv=>Cell.blk 0 rfl (by rw[List.getElem?_append_left (List.getElem?_eq_some_iff.1 hv).1];exact hv)⟩⟩
  refine Pn (a:=if n=k then⟨g30,0,none⟩ else(⟨g30,0,none⟩:Addr).add (k*1)) (n:=min k (n-k)) (of:=k) 0 rfl AY Be rfl rfl (by rw[if_neg (by omega)];simp[Addr.add];omega) hRd (by omega) rfl rfl (by simp;omega) (fun c hc=>by rw[(List.mem_replicate.1 hc).2];rfl) rfl rfl rfl ?_
  have e1:((replicate k (Value.int .i64 (-1))++replicate (n-k) (Value.int .i64 0)).take k++(replicate k (Value.int .i64 (-1))).take (min k (n-k))++(replicate k (Value.int .i64 (-1))++replicate (n-k) (Value.int .i64 0)).drop (k+min k (n-k)))=replicate (k+min k (n-k)) (Value.int .i64 (-1))++replicate (n-(k+min k (n-k))) (Value.int .i64 0):=by rw[Uc n k _ _ (by omega)];congr 2;omega
  rw[e1];refine Qx (oA rfl) rfl (Qm rfl (Aj (Hc (Ai ?_))));refine Ak (n-(k+min k (n-k))) _ (by omega) ⟨k+min k (n-k),y+(min k (n-k):Nat),rfl,rfl,rfl,rfl,by omega,by omega,by omega⟩ Qs
 ·obtain rfl:k=n:=by omega
  refine Av (Aa (Aa (Af (Ab (As (Qm rfl (Qm rfl (An (Am ?_)))))))));exact Ap rfl rfl (⟨rfl,_,rfl,⟨⟨by simp[CD],.inr ⟨g30,k,[],by simp,by simp[CD],by simp[CD],by simp,by omega⟩⟩,AV⟩⟩)
open Go.Kuhn
def Cq(la lb:List Br)(cost:Int)(i k:Nat):Bool:=
 if h:i<la.length/\k<lb.length then decide ((la[i]'h.1).apart (lb[k]'h.2)<=cost)
 else if h:i<la.length then decide (la[i].len<=cost)
 else if h:k<lb.length then decide (lb[k].len<=cost) else true
theorem Yy(la lb:List Br)(va vb:Value)(ga gb gc:Nat)(cost:Int)(h:Hp)(hRa:RdL GH 6 h [] va la)(hRb:RdL GH 6 h [] vb lb)(hla:la.length<=1000000)(hlb:lb.length<=1000000)(hA:∀b∈la,J4 b)(hB:∀b∈lb,J4 b)
  (ca:Cell h [] ⟨ga,0,none⟩ va) (cb:Cell h [] ⟨gb,0,none⟩ vb) (cc:Cell h [] ⟨gc,0,none⟩ (.int .i64 cost)) (i k:Nat) {i' k':Int} (ei:i'=i) (ek:k'=k) (ms:List Hp) :
  FnV Tryz.prog 205 ([]++[Value.int .i64 i',.int .i64 k']++[Value.pointer (some ⟨ga,0,none⟩),.pointer (some ⟨gb,0,none⟩),.pointer (some ⟨gc,0,none⟩)]).toArray h ms (.bool (Cq la lb cost i k)):=by
 subst ei ek;refine fun w hw=>(?_:FnV _ _ _ h [] _) w (hw.weaken (CY) (List.nil_sublist _));refine FnT.toV ?_;show FnT _ _ #[.int .i64 (i:Int),.int .i64 (k:Int),.pointer (some ⟨ga,0,none⟩),.pointer (some ⟨gb,0,none⟩),.pointer (some ⟨gc,0,none⟩)] _ _ _;refine Ao func205 ntmps205 rfl rfl (fun w0 hw0=>?_);simp only[AU];refine As (Qm rfl (An (Ac (Ae (As (Qm rfl (Ql rfl E0 (ca) (Qx (Ar hRa.rd rfl E0 rfl) rfl (Qm rfl (Qm rfl ?_))))))))));refine AO (t:=13) rfl (fun h1=>?_) (fun h1=>?_)
 ·refine Qg (Ay rfl rfl) rfl (Qg (oL rfl E0 (cb)) rfl (Qg (Ar hRb.rd rfl E0 rfl) rfl (Qg (Dv rfl rfl rfl) rfl (Qm rfl (Qm rfl (An ?_))))));refine Au rfl (fun h2=>?_) (fun h2=>?_)
  ·have h1':i<la.length:=by omega
   have h2':k<lb.length:=by omega
   refine Ac (Bc 10 CP (by kernel_rfl) rfl (Wl rfl E0 (ca) (Wm rfl (AP (BS i hRa.rd rfl E0 BW rfl rfl) rfl rfl (AP (oG rfl Mo BW (hRa.seg h1')) rfl rfl (Wl rfl E0 (cb) (Wm rfl (AP (BS k hRb.rd rfl E0 BW rfl rfl) rfl rfl (AP (oG rfl Mo BW (hRb.seg h2')) rfl rfl (AP (AF rfl call163 rfl (Ph _ _ (hA _ (getElem_mem h1')) (hB _ (getElem_mem h2')) _ _)) rfl rfl (Wl rfl U3 (cc) (AZ (Qm rfl (Qm rfl (An (Am (Al (Ag ?_))))))))))))))))));exact Ap rfl rfl (by unfold Cq;rw[dif_pos ⟨h1',h2'⟩])
  ·have h1':i<la.length:=by omega
   refine As (Qm rfl (Ql rfl E0 (ca) (Qx (Ar hRa.rd rfl E0 rfl) rfl (Qm rfl (Qm rfl (An ?_))))));refine Au rfl (fun hc=>?_) (fun hc=>absurd (h1) hc);refine Ac (Bc 6 CP (by kernel_rfl) rfl (Wl rfl E0 (ca) (Wm rfl (AP (BS i hRa.rd rfl E0 BW rfl rfl) rfl rfl (AP (oG rfl Mo BW (hRa.seg h1')) rfl rfl (AP (AF rfl call162 rfl (HA _ (hA _ (getElem_mem h1')) _ _)) rfl rfl (Wl rfl U3 (cc) (AZ (Qm rfl (Qm rfl (An (Am (Al (Ag ?_))))))))))))));exact Ap rfl rfl (by unfold Cq;rw[dif_neg (by omega),dif_pos h1'])
 ·refine Qk rfl (Qk rfl (Qk rfl (Qk rfl (Qm rfl (Qm rfl (An (AQ rfl (As (Qm rfl (Ql rfl E0 (ca) (Qx (Ar hRa.rd rfl E0 rfl) rfl (Qm rfl (Qm rfl (An (Au rfl (fun hc=>absurd hc (h1)) (fun hc=>As (Qm rfl (Ql rfl E0 (cb) (Qx (Ar hRb.rd rfl E0 rfl) rfl (Qm rfl (Qm rfl (An ?_))))))))))))))))))))));refine Au rfl (fun h3=>?_) (fun h3=>?_)
  ·have h3':k<lb.length:=by omega
   refine Ac (Bc 6 CP (by kernel_rfl) rfl (Wl rfl E0 (cb) (Wm rfl (AP (BS k hRb.rd rfl E0 BW rfl rfl) rfl rfl (AP (oG rfl Mo BW (hRb.seg h3')) rfl rfl (AP (AF rfl call162 rfl (HA _ (hB _ (getElem_mem h3')) _ _)) rfl rfl (Wl rfl U3 (cc) (AZ (Qm rfl (Qm rfl (An (Am (Al (Ag ?_))))))))))))));exact Ap rfl rfl (by unfold Cq;rw[dif_neg (by omega),dif_neg (by omega),dif_pos h3'])
  ·refine Ah (Ai (Ab (As (Qm rfl (An (Am ?_))))));exact Ap rfl rfl (by unfold Cq;rw[dif_neg (by omega),dif_neg (by omega),dif_neg (by omega)])
def AaI(fits:Nat->Nat->Bool)(nl n i:Nat)(seen:List Bool)(part:List Int)(h:Hp)(rest:List Hp)(vs vp:Value):Value->Hp->List Hp->Prop:=fun r h' ms'=>
 ∃(b:Bool) (m1 m2:Hp) (seen':List Bool) (part':List Int),r=.bool b/\h=h'/\ms'=rest++[m1,m2]/\OwnL cB 1 4 m1 vs seen'/\OwnL cI 1 3 m2 vp part'/\NC fits nl part'/\part'.length=part.length/\seen'.length=seen.length ∧
  (b=true->KT fits nl i seen part seen' part')/\(b=false->part'=part/\LI fits i n n seen part seen')
abbrev pA(g:Nat):Value:=.pointer (some ⟨g,0,none⟩)
abbrev Zh(ga gb gc:Nat):Value:=.func (.func 205) ([]:List Value).toArray [pA ga,pA gb,pA gc].toArray
abbrev Zo(g1 g2 g3 g4 g5:Nat):Value:=.func (.func 207) ([]:List Value).toArray [pA g1,pA g2,pA g3,pA g4,pA g5].toArray
theorem Xl(la lb:List Br)(va vb:Value)(ga gb gc g1 g2 g3 g4 g5:Nat)(cost:Int)(h:Hp)(hRa:RdL GH 6 h [] va la)(hRb:RdL GH 6 h [] vb lb)(hla:la.length<=1000000)(hlb:lb.length<=1000000)(hA:∀b∈la,J4 b)(hB:∀b∈lb,J4 b)
  (ca:Cell h [] ⟨ga,0,none⟩ va) (cb:Cell h [] ⟨gb,0,none⟩ vb) (cc:Cell h [] ⟨gc,0,none⟩ (.int .i64 cost)) (n:Nat) (hn:n=la.length+lb.length) (vs vp:Value)
  (c1:Cell h [] ⟨g1,0,none⟩ (.int .i64 n)) (c3:Cell h [] ⟨g3,0,none⟩ (Zh ga gb gc)) (c4:Cell h [] ⟨g4,0,none⟩ vp) (c5:Cell h [] ⟨g5,0,none⟩ (Zo g1 g2 g3 g4 g5)) (N:Nat) :
  ∀(i:Nat) (seen:List Bool) (part:List Int) (ms mp:Hp),Hn seen<=N->i<n->seen.length=n->part.length=n->NC (Cq la lb cost) n part->OwnL cB 1 4 ms vs seen->OwnL cI 1 3 mp vp part->∀{i':Int},i'=i →
  FnT Tryz.prog 207 ([]++[Value.int .i64 i']++[pA g1,pA g2,pA g3,pA g4,pA g5]).toArray h [A7 g2 160 [vs],ms,mp] (AaI (Cq la lb cost) n n i seen part h [A7 g2 160 [vs]] vs vp):=by
 induction N using Nat.strongRecOn with
 | _ N ih=>
 intro i seen part ms mp hN hi hsl hpl hK hS hP i' ei;subst ei;show FnT _ _ #[.int .i64 (i:Int),pA g1,pA g2,pA g3,pA g4,pA g5] _ _ _;refine Ao func207 ntmps207 rfl rfl (fun w0 hw0=>?_);simp only[AU];refine As (Qm rfl (An (Ac (As (Ql rfl U3 (c1.any) (Qm rfl (An (Ae ?_))))))))
 refine Az (fun q s h' ms'=>∃(k:Nat) (seen1:List Bool) (m1 mp1:Hp),q=n-k/\s=[(0,.int .i64 i),(1,pA g1),(2,pA g2),(3,pA g3),(4,pA g4),(5,pA g5),(9,.int .i64 n),(10,.int .i64 k)]/\h=h'/\ms'=[A7 g2 160 [vs],m1,mp1]/\k<=n/\OwnL cB 1 4 m1 vs seen1/\OwnL cI 1 3 mp1 vp part/\LI (Cq la lb cost) i n k seen part seen1)
  (n-0) _ ⟨0,seen,ms,mp,rfl,rfl,rfl,rfl,by omega,hS,hP,LI.start⟩ Qs ?_
 rintro q s h' ms' ⟨k,seen1,m1,mp1,rfl,rfl,rfl,rfl,hk,hS1,hP1,hL⟩;refine As (Qm rfl (An (Ac ?_)));refine Au rfl (fun hlt=>?_) (fun hlt=>?_)
 ·have hkn:k<n:=by omega
  have hks:k<seen1.length:=by rw[hL.slen];omega
  have hkp:k<part.length:=by omega
  have hRs:=OwnL.rd hS1 (h:=h) (ms:=[A7 g2 160 [vs],m1,mp1]) (.tail _ (.head _));refine Ah (Ab (Ac (Ae (As (Qm rfl (Qm rfl (An (Ac (As (Ql rfl W2 (Cell.blk0 0 rfl rfl) (Qm rfl (Qx (AC _ hRs.rd rfl W2 el4 rfl rfl rfl (by omega)) rfl (Ql rfl U4 (hRs.cell0 hks rfl) (Qm rfl ?_))))))))))))));refine De (t:=17) rfl (fun hsk=>?_) (fun hsk=>?_)
  ·refine Qk rfl (Qk rfl (Qk rfl (Qk rfl (Qk rfl (Qm rfl (An (Bn rfl (Av (Aa (Af (Ab (Ad (Qx (oA rfl) rfl (Qm rfl (Aj ?_)))))))))))))));refine Ak (n-(k+1)) _ (by omega) ⟨k+1,seen1,m1,mp1,rfl,rfl,rfl,rfl,by omega,hS1,hP1,hL.skip (.inl (by rw[List.getElem?_eq_getElem hks,hsk]))⟩ Qs
  ·refine Qg (oL rfl AbB (c3.any)) rfl (Qg (Ay rfl rfl) rfl (Qg (Ay rfl rfl) rfl (Qg (BX rfl rfl call205 rfl (Yy la lb va vb ga gb gc cost h hRa hRb hla hlb hA hB ca cb cc i k rfl rfl _)) rfl (Qg (Es rfl rfl) rfl (Qm rfl (An ?_))))));refine Bq rfl (fun hft=>?_) (fun hft=>?_)
   ·refine Av (Aa (Af (Ab (Ad (Qx (oA rfl) rfl (Qm rfl (Aj ?_)))))));refine Ak (n-(k+1)) _ (by omega) ⟨k+1,seen1,m1,mp1,rfl,rfl,rfl,rfl,by omega,hS1,hP1,hL.skip (.inr (by simpa using hft))⟩ Qs
   ·have hft':Cq la lb cost i k=true:=by simpa using hft
    have h0:seen1[k]?≠some true:=by rw[List.getElem?_eq_getElem hks,hsk];simp
    refine Ah (Ab (As (Ql rfl W2 (Cell.blk0 0 rfl rfl) (Qm rfl (Qx (AC _ hRs.rd rfl W2 el4 rfl rfl rfl (by omega)) rfl (CH (F:=cB) (f:=fun x=>.bool x) (a:=true) 1 k (fun _=>rfl) hS1 rfl el4 rfl rfl rfl rfl hks rfl rfl (fun m2 hS2=>?_)))))));have hRp:=OwnL.rd hP1 (h:=h) (ms:=[A7 g2 160 [vs],m2,mp1]) (.tail _ (.tail _ (.head _)));refine An (Ac (Bc 11 CP (by kernel_rfl) rfl (Wl rfl AY (c4.any) (Wm rfl (AP (AC _ hRp.rd rfl AY Be rfl rfl rfl (by omega)) rfl rfl (Wl rfl U3 (hRp.cell0 hkp rfl) (Wm rfl (Wm rfl ?_))))))));refine Ct (t:=32) rfl (fun hneg=>?_) (fun hneg=>?_)
    ·refine Ax rfl rfl rfl rfl rfl (Ax rfl rfl rfl rfl rfl (Ax rfl rfl rfl rfl rfl (Ax rfl rfl rfl rfl rfl (Ax rfl rfl rfl rfl rfl (AZ (Qk rfl (Qm rfl (An (Bn rfl (As (Ql rfl AY (c4.any) (Qm rfl (Qm rfl (Qx (AC _ hRp.rd rfl AY Be rfl rfl rfl (by omega)) rfl (CH (F:=cI) (f:=fun x=>.int .i64 x) (a:=(i:Int)) 2 k (fun _=>rfl) hP1 rfl Be rfl rfl rfl rfl hkp rfl rfl (fun m3 hP3=>Bv (Qm rfl (An (Am (Al (Ag (Ag (Al (Ag ?_))))))))))))))))))))))));have hT:=hL.free hK hi hkp hks h0 hft' hneg;exact Ap rfl rfl (⟨true,m2,m3,_,_,rfl,rfl,rfl,hS2,hP3,hT.pre,hT.plen,hT.slen,fun _=>hT,fun h=>(by cases h)⟩)
    ·obtain⟨p,hp,hpn,hpf⟩:∃p:Nat,part[k]=(p:Int)/\p<n/\Cq la lb cost p k=true:=by
      rcases hK k hkp with h1|h1
      ·omega
      ·exact h1
     have hp':part[k]?=some (p:Int):=by rw[List.getElem?_eq_getElem hkp,hp]
     have hu:Hn (seen1.set k true)<N:=by have u1:=Qu seen1 k hks hsk;have u2:=OO seen seen1 hL.slen hL.mono;omega
     refine AL (oL rfl Abl (c5.any)) rfl rfl rfl rfl (AL (oL rfl AY (c4.any)) rfl rfl rfl rfl (AL (Ay rfl rfl) rfl rfl rfl rfl (AL (AC _ hRp.rd rfl AY Be rfl rfl rfl (by omega)) rfl rfl rfl rfl (AL (oL rfl U3 (hRp.cell0 hkp rfl)) rfl rfl rfl rfl (AZ ?_)))));refine QO (pre:=[A7 g2 160 [vs],m2,mp1]) rfl rfl call207 rfl (ih _ hu p (seen1.set k true) part m2 mp1 (Nat.le_refl _) hpn (by rw[length_set,hL.slen];exact hsl) hpl hK hS2 hP1 hp) rfl rfl rfl rfl rfl rfl rfl (fun _ _ _ _ hF=>?_);obtain⟨b,m3,mp3,seen3,part3,rfl,rfl,rfl,hS3,hP3,hK3,hpl3,hsl3,hT,hFa⟩:=hF;simp only[cons_append,nil_append,append_nil];refine Qm rfl (An ?_);refine Bq rfl (fun hb=>?_) (fun hb=>?_)
     ·have hT:=hL.moved hi hkp hks h0 hft' hp' (hT hb);have hRp:=OwnL.rd hP3 (h:=h) (ms:=[A7 g2 160 [vs],m3,mp3]) (.tail _ (.tail _ (.head _)));have hkp3:k<part3.length:=by omega
      refine As (Ql rfl AY (c4.any) (Qm rfl (Qm rfl (Qx (AC _ hRp.rd rfl AY Be rfl rfl rfl (by omega)) rfl ?_))));refine CH (F:=cI) (f:=fun x=>.int .i64 x) (a:=(i:Int)) 2 k (fun _=>rfl) hP3 rfl Be rfl rfl rfl rfl (by rw[hpl3];exact hkp) rfl rfl (fun m4 hP4=>?_);refine Bv (Qm rfl (An (Am (Al (Ag (Ag (Al (Ag ?_))))))));exact Ap rfl rfl (⟨true,m3,m4,_,_,rfl,rfl,rfl,hS3,hP4,hT.pre,hT.plen,hT.slen,fun _=>hT,fun h=>(by cases h)⟩)
     ·obtain⟨rfl,hLF⟩:=hFa hb;refine Ah (Ai (Ab (Ad (Qx (oA rfl) rfl (Qm rfl (Aj ?_))))));refine Ak (n-(k+1)) _ (by omega) ⟨k+1,seen3,m3,mp3,rfl,rfl,rfl,rfl,by omega,hS3,hP3,hL.fail hks hp' hLF⟩ Qs
 ·obtain rfl:k=n:=by omega
  refine Av (Aa (Aa (Af (Ab (As (Qm rfl (An (Am ?_))))))));exact Ap rfl rfl (⟨false,m1,mp1,seen1,part,rfl,rfl,rfl,hS1,hP1,hK,rfl,hL.slen,fun h=>(by cases h),fun _=>⟨rfl,hL⟩⟩)
theorem YS(g n:Nat)(hn:n<=9223372036854775807):OwnL cB 1 4 (A7 g 4 (replicate n (Value.bool false))) (.slice (some ⟨g,0,none⟩) n n) (replicate n false):=
 ⟨⟨by rw[<-Q9];simp,.inr ⟨g,n,[],by simp,by rw[<-Q9];simp,by rw[<-Q9];simp,by simp,hn⟩⟩,ZB⟩
theorem Po(la lb:List Br)(va vb:Value)(cost:Int)(h:Hp)(hRa:RdL GH 6 h [] va la)(hRb:RdL GH 6 h [] vb lb)(hla:la.length<=1000000)(hlb:lb.length<=1000000)(hA:∀b∈la,J4 b)(hB:∀b∈lb,J4 b) :
  FnT Tryz.prog 167 #[va,vb,.int .i64 cost] h [] (fun r _ _=>∃b,r=.bool b/\(b=true->Pos (Cq la lb cost) (la.length+lb.length))/\(b=false->Neg (Cq la lb cost) (la.length+lb.length))):=by
 refine Ao func167 ntmps167 rfl rfl (fun w0 hw0=>?_);simp only[AU];refine As (AS [_] rfl rfl ((RdL.rd ‹_›).cells) rfl rfl rfl (fun g3=>AS [_] rfl rfl ((RdL.rd ‹_›).cells) rfl rfl rfl (fun g4=>AS [_] rfl rfl (by rfl) rfl rfl rfl (fun g5=>Qm rfl (Bv (Ql rfl E0 (Cell.blk0 2 rfl rfl) (Qx (Ar hRa.rd.any rfl E0 rfl) rfl (Ql rfl E0 (Cell.blk0 1 rfl rfl) (Qx (Ar hRb.rd.any rfl E0 rfl) rfl (Qx (oA rfl) rfl (CC [.int .i64 0] rfl Be rfl rfl (fun g7=>AK 0 0 rfl Be rfl rfl (by rfl) rfl rfl (by decide) rfl rfl (Bv (Qx (Bk rfl rfl rfl) rfl (CC [.nilFunc] rfl Zf rfl rfl (fun g8=>AK 0 0 rfl Zf rfl rfl (by rfl) rfl rfl (by decide) rfl rfl (Bv (Aq [_] rfl AY Be rfl (by rfl) rfl rfl (by omega) rfl rfl rfl (fun g19=>BA (fun h1 hle1 s19=>?_))))))))))))))))))));have hR19:RdL cI 1 h1 [] (.slice (some ⟨g19,0,none⟩) 1 1) [-1]:=⟨⟨_,1,rfl,by simp,by omega,rfl,fun _=>⟨_,rfl,s19⟩⟩,AV⟩
 obtain⟨n,hn⟩:∃n,n=la.length+lb.length:=⟨_,rfl⟩
 rw[<-hn];refine Ql rfl U3 (Cell.blk0 1 rfl rfl) (Qc call206 rfl (TH n (by omega) _ h1 hR19 (by omega)) (fun vp _ _ _ hL=>?_));obtain⟨rfl,mp,rfl,hP⟩:=hL;simp only[cons_append,nil_append];have hRp:=OwnL.rd hP (h:=h1) (ms:=[mp]) (.head _);refine CC [.slice none 0 0] rfl Cw rfl rfl (fun g9=>AK 0 0 rfl Cw rfl rfl ((RdL.rd ‹_›).one) rfl rfl (by decide) rfl rfl (Bv (CC [.slice none 0 0] rfl Zb rfl rfl (fun g10=>Bv (CC [.nilFunc] rfl Zi rfl rfl (fun g11=>Bv (Qx (Bk rfl rfl rfl) rfl (AK 0 0 rfl Zi rfl rfl (by rfl) rfl rfl (by decide) rfl rfl (An (DX 0 rfl (fun h2 l2 s11=>DX 1 rfl (fun h3 l3 s9=>DX 2 rfl (fun h4 l4 s8=>DX 2 rfl (fun h5 l5 s7=>DX 2 rfl (fun h6 l6 s5=>DX 2 rfl (fun h7 l7 s4=>DX 2 rfl (fun h8 l8 s3=>?_)))))))))))))))));have t3:=l8;have t4:=AJ l7 t3;have t5:=AJ l6 t4;have t6:=AJ l5 t5;have t7:=AJ l4 t6;have t8:=AJ l3 t7;have t9:=AJ l2 t8;have t10:=AJ hle1 t9;have ca:Cell h8 [] ⟨g3,0,none⟩ va:=s3.at0 rfl;have cb:Cell h8 [] ⟨g4,0,none⟩ vb:=(s4.at0 rfl).le t3;have cc:Cell h8 [] ⟨g5,0,none⟩ (.int .i64 cost):=(s5.at0 rfl).le t4;have c7:Cell h8 [] ⟨g7,0,none⟩ (.int .i64 n):=(s7.le t5).at0 (by rw[hn];simp);have c8:Cell h8 [] ⟨g8,0,none⟩ (Zh g3 g4 g5):=(s8.at0 rfl).le t6;have c9:Cell h8 [] ⟨g9,0,none⟩ vp:=(s9.at0 rfl).le t7;have c11:Cell h8 [] ⟨g11,0,none⟩ (Zo g7 g10 g8 g9 g11):=(s11.at0 rfl).le t8;have hRa':=hRa.up t10;have hRb':=hRb.up t10;clear s3 s4 s5 s7 s8 s9 s11 s19 hR19 t3 t4 t5 t6 t7 t8 t9 t10 l2 l3 l4 l5 l6 l7 l8 hle1
 try simp only[List.eraseIdx_cons_zero,List.eraseIdx_cons_succ]
 have hcnt:∀x:Nat,(replicate n (-1:Int)).count (x:Int)=if x<0 then 1 else 0:=fun x=>by rw[List.count_replicate,if_neg (by simp),if_neg (by omega)]
 have hK0:NC (Cq la lb cost) n (replicate n (-1)):=fun k hk=>.inl (by simp);refine Ac (As (Ql rfl U3 (c7.any) (Qm rfl (An (Ae ?_)))))
 refine Az (fun q s h' ms'=>∃(i:Nat) (part:List Int) (m:Hp) (vold:Value),q=n-i/\s=[(7,pA g7),(10,pA g10),(11,pA g11),(23,.int .i64 n),(24,.int .i64 i)]/\h8=h'/\ms'=[A7 g10 160 [vold],m]/\i<=n/\part.length=n/\OwnL cI 1 3 m vp part/\NC (Cq la lb cost) n part/\∀x:Nat,part.count (x:Int)=if x<i then 1 else 0)
  (n-0) _ ⟨0,_,mp,_,rfl,rfl,rfl,rfl,by omega,by simp,hP,hK0,hcnt⟩ Qs ?_
 clear hcnt hP hRp;rintro q s h' ms' ⟨i,part,m,vold,rfl,rfl,rfl,rfl,hi,hpl,hP,hK,hcnt⟩;clear hK0;refine As (Qm rfl (An (Ac ?_)));refine Au rfl (fun hlt=>?_) (fun hlt=>?_)
 ·refine Ah (Ab (Ac (Ae (As (Qm rfl (Qm rfl (Bv (Ql rfl U3 (c7.any) (CM (n:=n) rfl W2 el4 rfl rfl rfl (by rfl) (by rfl) (by omega) (by omega) rfl rfl rfl (fun g28=>?_))))))))));refine AK 1 0 rfl Zb rfl rfl (by rfl) rfl rfl (by(simp;done)) rfl rfl ?_;refine Bv (Ql rfl Abl (c11.any) (Qm rfl (Kg (List.Perm.swap _ _ _) (DC (pre:=[A7 g10 160 [.slice (some ⟨g28,0,none⟩) n n],A7 g28 4 (replicate n (Value.bool false)),m]) rfl rfl call207 rfl (Xl la lb va vb g3 g4 g5 g7 g10 g8 g9 g11 cost h8 hRa' hRb' hla hlb hA hB ca cb cc n hn _ vp c7 c8 c9 c11 _ i (replicate n false) part _ m (Nat.le_refl _) (by omega) (by simp) hpl hK (YS g28 n (by omega)) hP rfl) rfl rfl rfl rfl (fun _ _ _ _ hF=>?_)))));obtain⟨b,m1,m2,seen',part',rfl,rfl,rfl,hS1,hP1,hK1,hpl1,hsl1,hT,hFa⟩:=hF;simp only[cons_append,nil_append,append_nil];refine Qm rfl (An ?_);refine Bq rfl (fun hb=>?_) (fun hb=>?_)
  ·have hb':b=false:=by simpa using hb
   obtain⟨rfl,hL⟩:=hFa hb';refine As (Qm rfl (An (Am (Al (Ag (Ag (Al (Ag ?_))))))));exact Ap rfl rfl (⟨false,rfl,fun h=>(by cases h),fun _=>⟨i,part',seen',by omega,hpl,hK,hcnt,hL⟩⟩)
  ·have hb':b=true:=by simpa using hb
   have hT:=hT hb';refine Ah (Ai (Ab (Ad (Qx (oA rfl) rfl (Qm rfl (Aj ?_))))));refine Hs (ms':=[m1,A7 g10 160 [.slice (some ⟨g28,0,none⟩) n n],m2]) (List.Perm.swap _ _ _) (AN ?_);refine Ak (n-(i+1)) _ (by omega) ⟨i+1,part',m2,_,rfl,rfl,rfl,rfl,by omega,by omega,hP1,hK1,fun x=>?_⟩ Qs;rw[hT.cnt x,hcnt x];by_cases h1:x<i
   ·rw[if_pos h1,if_neg (by omega),if_pos (by omega)]
   ·by_cases h2:x=i
    ·rw[if_neg h1,if_pos h2,if_pos (by omega)]
    ·rw[if_neg h1,if_neg h2,if_neg (by omega)]
 ·obtain rfl:i=n:=by omega
  refine Av (Aa (Aa (Af (Ab (As (Qm rfl (An (Am ?_))))))));exact Ap rfl rfl (⟨true,rfl,fun _=>⟨part,hpl,hK,fun x hx=>by rw[hcnt x,if_pos hx]⟩,fun h=>by cases h⟩)
open Classical in
noncomputable def Xr(F:Nat->Nat->Bool)(n:Nat):Bool:=decide (Pos F n)
theorem QR(la lb:List Br)(va vb:Value)(cost:Int)(h:Hp)(hRa:RdL GH 6 h [] va la)(hRb:RdL GH 6 h [] vb lb)(hla:la.length<=1000000)(hlb:lb.length<=1000000)(hA:∀b∈la,J4 b)(hB:∀b∈lb,J4 b)(ms:List Hp) :
  FnV Tryz.prog 167 #[va,vb,.int .i64 cost] h ms (.bool (Xr (Cq la lb cost) (la.length+lb.length))):=by
 refine fun w hw=>(?_:FnV _ _ _ h [] _) w (hw.weaken (CY) (List.nil_sublist _));refine FnT.toV (FnT.mono (Po la lb va vb cost h hRa hRb hla hlb hA hB) ?_);rintro r h' ms' ⟨b,rfl,h1,h2⟩;unfold Xr;cases b with
 | true=>simp[h1 rfl]
 | false=>simp[OU (h2 rfl)]
def D5(l:List (Int×Int)):Int:=l.foldl (fun m p=>max m (2*FV (p.1-p.2))) 0
def CT(p q:List Br)(m:Int):List Int:=m::(p.flatMap fun x=>x.len::q.map x.apart)++q.map Br.len
def tried(p q:List Br)(m:Int):List Int:=Lib.compact ((Ee (CT p q m)).filter fun n=>decide (m<=n))
theorem MW(l:List (Int×Int))(p:Int×Int):D5 (l++[p])=max (D5 l) (2*FV (p.1-p.2)):=by simp[D5]
theorem OK(M:Int):∀(l:List (Int×Int)) (a:Int),0<=a->a<=M->(∀p∈l,2*FV (p.1-p.2)<=M)->0<=l.foldl (fun m p=>max m (2*FV (p.1-p.2))) a/\l.foldl (fun m p=>max m (2*FV (p.1-p.2))) a<=M
 | [],a,h1,h2,_=>⟨h1,h2⟩
 | p::l,a,h1,h2,h=>OK M l _ (by show 0<=max a _;omega) (by have:=h p (by simp);show max a (2*FV (p.1-p.2))<=M;omega) fun q hq=>h q (by simp[hq])
theorem K8(l:List (Int×Int))(h:∀p∈l,FV (p.1-p.2)<=2000000000000):0<=D5 l/\D5 l<=4000000000000:=
 OK 4000000000000 l 0 (by omega) (by omega) fun p hp=>by have:=h p hp;omega
theorem JY(dim:Int)(l:List Br)(h:∀b∈l,J4 b):∀x∈Bx dim l,-1000000000000<=x/\x<=1000000000000:=by intro x hx;have:=(Dn _).mem_iff.1 hx;obtain⟨b,hb,rfl⟩:=List.mem_map.1 this;have:=h b (List.mem_filter.1 hb).1;exact⟨this.b1,this.b2⟩
theorem It(dim:Int)(l:List Br):(Bx dim l).length<=l.length:=by unfold Bx;rw[(Dn _).length_eq,length_map];exact List.length_filter_le _ _
theorem XN(g:Nat)(x:Int):OwnL cI 1 3 (A7 g 3 [.int .i64 x]) (.slice (some ⟨g,0,none⟩) 1 1) [x]:=
 ⟨⟨rfl,.inr ⟨g,1,[],rfl,rfl,rfl,Nat.le_refl _,by omega⟩⟩,AV⟩
theorem Qz{p q:List Br}{c c':Int}(h:c<=c')(i k:Nat)(hf:Cq p q c i k=true):Cq p q c' i k=true:=by
 unfold Cq at *;split
 ·rename_i h1;rw[dif_pos h1]at hf;have:=of_decide_eq_true hf;exact decide_eq_true (by omega)
 ·rename_i h1;rw[dif_neg h1]at hf;split
  ·rename_i h2;rw[dif_pos h2]at hf;have:=of_decide_eq_true hf;exact decide_eq_true (by omega)
  ·rename_i h2;rw[dif_neg h2]at hf;split
   ·rename_i h3;rw[dif_pos h3]at hf;have:=of_decide_eq_true hf;exact decide_eq_true (by omega)
   ·rfl
theorem Sd(p q:List Br)(c:Int)(hp:∀b∈p,b.len<=c)(hq:∀b∈q,b.len<=c):Pos (Cq p q c) (p.length+q.length):=by
 refine⟨(range q.length).map (fun k=>((p.length+k:Nat):Int))++(range p.length).map (fun k:Nat=>(k:Int)),by simp;omega,fun k hk=>?_,fun x hx=>?_⟩
 ·right
  rw[List.getElem_append];split
  ·rename_i h1;have h1':k<q.length:=by simpa using h1
   refine⟨p.length+k,by simp,by omega,?_⟩;unfold Cq;rw[dif_neg (by omega),dif_neg (by omega),dif_pos h1'];exact decide_eq_true (hq _ (getElem_mem h1'))
  ·rename_i h1;have h1':q.length<=k:=by simpa using h1
   have h2':k-q.length<p.length:=by simp at hk;omega
   refine⟨k-q.length,by simp,by omega,?_⟩;unfold Cq;rw[dif_neg (by omega),dif_pos h2'];exact decide_eq_true (hp _ (getElem_mem h2'))
 ·have hn:((range q.length).map (fun k=>((p.length+k:Nat):Int))++(range p.length).map (fun k:Nat=>(k:Int))).Nodup:=by refine List.nodup_append.2 ⟨List.pairwise_map.2 (List.nodup_range.imp fun h e=>h (by omega)),List.pairwise_map.2 (List.nodup_range.imp fun h e=>h (by omega)),fun a ha b hb e=>?_⟩;obtain⟨i,hi,rfl⟩:=List.mem_map.1 ha;obtain⟨j,hj,rfl⟩:=List.mem_map.1 hb;simp at hi hj;omega
  have hm:(x:Int)∈(range q.length).map (fun k=>((p.length+k:Nat):Int))++(range p.length).map (fun k:Nat=>(k:Int)):=by
   rw[List.mem_append];rcases Nat.lt_or_ge x p.length with h|h
   ·exact .inr (List.mem_map.2 ⟨x,by simpa using h,rfl⟩)
   ·exact .inl (List.mem_map.2 ⟨x-p.length,by simp;omega,by simp;omega⟩)
  have h1:=List.nodup_iff_count.1 hn (x:Int);have h2:=List.count_pos_iff.2 hm;omega
def IsDist(p q:List Br)(L d:Int):Prop:=d∈CT p q L/\L<=d/\Pos (Cq p q d) (p.length+q.length)/\∀c∈CT p q L,L<=c->Pos (Cq p q c) (p.length+q.length)->d<=c
theorem SV(p q:List Br)(L c:Int):c∈tried p q L<->c∈CT p q L/\L<=c:=by unfold tried;rw[Od,List.mem_filter,(Dn _).mem_iff];simp
theorem Nd(p q:List Br)(L:Int):(tried p q L).Pairwise (·<=·):=by unfold tried;exact((Gu _).filter _).sublist (EX _)
theorem Md(p q:List Br)(L:Int):(∀b∈p,b.len∈CT p q L)/\(∀b∈q,b.len∈CT p q L):=by
 unfold CT;constructor
 ·intro b hb;refine List.mem_append_left _ (List.mem_cons_of_mem _ (List.mem_flatMap.2 ⟨b,hb,by simp⟩))
 ·intro b hb;exact List.mem_append_right _ (List.mem_map.2 ⟨b,hb,rfl⟩)
theorem H6{l:List Int}(h:l.Pairwise (·<=·)){i j:Nat}(hij:i<=j)(hj:j<l.length):l[i]'(by omega)<=l[j]:=by
 rcases Nat.lt_or_ge i j with h1|h1
 ·exact List.pairwise_iff_getElem.1 h i j (by omega) hj h1
 ·have:i=j:=by omega
  subst this;exact Int.le_refl _
theorem N4(la lb:List Br)(va vb:Value)(dim:Int)(h:Hp)(hRa:RdL GH 6 h [] va la)(hRb:RdL GH 6 h [] vb lb)(hla:la.length<=10000)(hlb:lb.length<=10000)(hA:∀b∈la,J4 b)(hB:∀b∈lb,J4 b) :
  FnT Tryz.prog 103 #[va,vb,.int .i64 dim] h [] (fun r _ _=>∃(d:Int) (e:Bool),r=.tuple #[.int .i64 d,.bool e]/\((Bx dim la).length≠(Bx dim lb).length->d=0/\e=false)/\((Bx dim la).length=(Bx dim lb).length->e=true/\IsDist (la.filter (Br.finIn dim)) (lb.filter (Br.finIn dim)) (D5 ((Bx dim la).zip (Bx dim lb))) d)):=by
 refine Ao func103 ntmps103 rfl rfl (fun w0 hw0=>?_);simp only[AU];refine As (AS [_] rfl rfl (by rfl) rfl rfl rfl (fun g5=>BA (fun h1 l1 s5=>?_)));have c5:Cell h1 [] ⟨g5,0,none⟩ (.int .i64 dim):=s5.at0 rfl;have hRa1:=hRa.up l1;have hRb1:=hRb.up l1;refine Qm rfl (Qm rfl (Bv (Qx (Bk rfl rfl rfl) rfl (Qm rfl (Bv (Qm rfl (Qm rfl (DC (pre:=[]) rfl rfl call156 rfl (Mq la va g5 dim h1 hRa1 (by omega) c5) rfl rfl rfl rfl (fun vx h2 _ l2 hL=>?_)))))))));obtain⟨rfl,hRx⟩:=hL;refine Qm rfl (Qm rfl (DC (pre:=[]) rfl rfl call156 rfl (Mq lb vb g5 dim h2 (hRb1.up l2) (by omega) (c5.le l2)) rfl rfl rfl rfl (fun vy h3 _ l3 hL=>?_)));obtain⟨rfl,hRy⟩:=hL;have hRx:=hRx.up l3;have hxb:=JY dim la hA;have hyb:=JY dim lb hB;have hxl:=It dim la;have hyl:=It dim lb;generalize hX:Bx dim la=X at hRx hxb hxl ⊢;generalize hY:Bx dim lb=Y at hRy hyb hyl ⊢;have c5:=c5.le (AJ l2 l3);have hRa1:=hRa1.up (AJ l2 l3);have hRb1:=hRb1.up (AJ l2 l3);clear s5 l1 hRa hRb l2 l3;refine Qm rfl (Qm rfl (An (Ac (As (Qm rfl (Qx (Ar hRx.rd.any rfl AY rfl) rfl (Qm rfl (Qx (Ar hRy.rd.any rfl AY rfl) rfl (Qm rfl (An ?_))))))))))
 have hZ:∀p∈X.zip Y,FV (p.1-p.2)<=2000000000000:=fun p hp=>by have h1:=hxb _ (List.of_mem_zip hp).1;have h2:=hyb _ (List.of_mem_zip hp).2;unfold FV;omega
 refine Au rfl (fun hne=>?_) (fun hne=>?_)
 ·refine Ac (Ad (Qm rfl (Qm rfl (An (Am (Ag ?_))))));exact BC rfl rfl rfl (⟨0,false,rfl,fun _=>⟨rfl,rfl⟩,fun h=>absurd h (by omega)⟩)
 ·have hlen:X.length=Y.length:=by omega
  refine Ah (Ab (As (CC [.int .i64 0] rfl Be rfl rfl (fun g11=>AK 0 0 rfl Be rfl rfl (by rfl) rfl rfl (by decide) rfl rfl (An (Ac (As (Qm rfl (Qx (Ar hRx.rd.any rfl AY rfl) rfl (Qm rfl (An (Ae ?_))))))))))))
  refine Az (fun q s h' ms'=>∃(k:Nat),q=X.length-k/\s=[(0,va),(1,vb),(5,.pointer (some ⟨g5,0,none⟩)),(9,vx),(10,vy),(11,.pointer (some ⟨g11,0,none⟩)),(39,.int .i64 X.length),(40,.int .i64 k)]/\h3=h'/\ms'=[A7 g11 3 [.int .i64 (D5 ((X.zip Y).take k))]]/\k<=X.length)
   (X.length-0) _ ⟨0,rfl,rfl,rfl,rfl,by omega⟩ Qs ?_
  rintro q s h' ms' ⟨k,rfl,rfl,rfl,rfl,hk⟩;refine As (Qm rfl (An (Ac ?_)));refine Au rfl (fun hlt=>?_) (fun hlt=>?_)
  ·have hkx:k<X.length:=by omega
   have hky:k<Y.length:=by omega
   have hkz:k<(X.zip Y).length:=by simp;omega
   have b1:=hxb _ (getElem_mem hkx);have b2:=hyb _ (getElem_mem hky);have b3:=K8 ((X.zip Y).take k) fun p hp=>hZ p (List.mem_of_mem_take hp);have b4:FV (X[k]-Y[k])<=2000000000000/\0<=FV (X[k]-Y[k]):=by unfold FV;omega
   have hst:(X.zip Y).take (k+1)=(X.zip Y).take k++[(X[k],Y[k])]:=by rw[List.take_succ_eq_append_getElem hkz];simp
   refine Ah (Ab (Ac (Ae (As (Qm rfl (Qm rfl (An (Bc 12 CP (by kernel_rfl) rfl (Wl rfl U3 (Cell.blk0 0 rfl rfl) (Wm rfl (Wm rfl (AP (AC _ hRx.rd.any rfl AY Be rfl rfl rfl (by omega)) rfl rfl (Wl rfl U3 (hRx.any.cell0 hkx rfl) (Wm rfl (Wm rfl (AP (AC _ hRy.rd.any rfl AY Be rfl rfl rfl (by omega)) rfl rfl (Wl rfl U3 (hRy.any.cell0 hky rfl) (AP (oS rfl) rfl rfl (AP (AF rfl call159 rfl (Qn _ (by omega) _ _)) rfl rfl (AP (oM rfl) rfl rfl (AZ (Qx (GG rfl rfl rfl) rfl ?_))))))))))))))))))))));refine AK 0 0 rfl Be rfl rfl (by rfl) rfl rfl (by(simp;done)) rfl rfl ?_;refine Aj (Ai (Ab (Ad (Qx (oA rfl) rfl (Qm rfl (Aj ?_))))));refine Ak (X.length-(k+1)) _ (by omega) ⟨k+1,rfl,rfl,rfl,by rw[hst,MW];rfl,by omega⟩ Qs
  ·have hkX:k=X.length:=by omega
   have htk:(X.zip Y).take k=X.zip Y:=take_of_length_le (by simp;omega);rw[htk];have b3:=K8 (X.zip Y) hZ;generalize D5 (X.zip Y)=L at b3 ⊢;refine Av (Aa (Aa (Af (Ab (Aw (fun h4 l4 s11=>?_))))));have c11:Cell h4 [] ⟨g11,0,none⟩ (.int .i64 L):=s11.at0 rfl;have c5:=c5.le l4;have hRa1:=hRa1.up l4;have hRb1:=hRb1.up l4;refine As (Qx (Bk rfl rfl rfl) rfl (Qm rfl (Bv (Qm rfl (Qm rfl (Qc call112 rfl (FH la va 160 [Value.pointer (some ⟨g5,0,none⟩)] (Br.finIn dim) h4 hRa1 (by omega) call160 (fun b _ ms=>O4 b g5 dim h4 (fun _=>c5.any) ms)) (fun vp h5 _ l5 hL=>?_)))))));obtain⟨rfl,hRp⟩:=hL;refine Qm rfl (Qm rfl (Qc call112 rfl (FH lb vb 160 [Value.pointer (some ⟨g5,0,none⟩)] (Br.finIn dim) h5 (hRb1.up l5) (by omega) call160 (fun b _ ms=>O4 b g5 dim h5 (fun _=>(c5.le l5).any) ms)) (fun vq h6 _ l6 hL=>?_)));obtain⟨rfl,hRq⟩:=hL;have hRp:=hRp.up l6;have c11:=c11.le (AJ l5 l6);have hp1:(la.filter (Br.finIn dim)).length<=la.length:=List.length_filter_le _ _;have hq1:(lb.filter (Br.finIn dim)).length<=lb.length:=List.length_filter_le _ _;have hpA:∀b∈la.filter (Br.finIn dim),J4 b:=fun b hb=>hA b (List.mem_filter.1 hb).1;have hqB:∀b∈lb.filter (Br.finIn dim),J4 b:=fun b hb=>hB b (List.mem_filter.1 hb).1;generalize la.filter (Br.finIn dim)=p at hRp hp1 hpA ⊢;generalize lb.filter (Br.finIn dim)=q at hRq hq1 hqB ⊢;refine Qm rfl (Qm rfl (Bv (Ql rfl U3 (c11.any) (Aq [_] rfl AY Be rfl (by rfl) rfl rfl (by omega) rfl rfl rfl (fun g65=>Qm rfl (An (Ac (As (Qm rfl (Qx (Ar hRp.rd.any rfl E0 rfl) rfl (Qm rfl (An (Ae ?_)))))))))))))
   refine Az (fun n s h' ms'=>∃(k:Nat) (v:Value) (m:Hp) (C:List Int),n=p.length-k/\s=[(11,.pointer (some ⟨g11,0,none⟩)),(14,vp),(15,vq),(16,v),(66,vp),(67,.int .i64 p.length),(68,.int .i64 k)]/\h6=h'/\ms'=[m]/\k<=p.length/\OwnL cI 1 3 m v C/\C=L::((p.take k).flatMap fun x=>x.len::q.map x.apart)/\C.length<=1+k*20000)
    (p.length-0) _ ⟨0,_,_,[L],rfl,rfl,rfl,rfl,by omega,XN _ _,rfl,by simp⟩ Qs ?_
   rintro n s h' ms' ⟨k,v,m,C,rfl,rfl,rfl,rfl,hk,hO,hC,hCl⟩;refine As (Qm rfl (An (Ac ?_)));refine Au rfl (fun hltp=>?_) (fun hltp=>?_)
   ·have hkp:k<p.length:=by omega
    have hbk:=hpA _ (getElem_mem hkp)
    have hts:(p.take (k+1)).flatMap (fun x=>x.len::q.map x.apart)=(p.take k).flatMap (fun x=>x.len::q.map x.apart)++(p[k].len::q.map p[k].apart):=by rw[List.take_succ_eq_append_getElem hkp,List.flatMap_append];simp
    refine Ah (Ab (Ac (Ae (As (Qx (AC _ hRp.rd.any rfl E0 BW rfl rfl rfl (by omega)) rfl (Qx (oG rfl Mo BW (hRp.any.seg hkp)) rfl (CC [.int .i64 0,.int .i64 0,.int .i64 0,.bool false,.int .i64 0,.int .i64 0] rfl BW rfl rfl (fun g18=>D1 0 _ rfl BW rfl rfl rfl (FD _) rfl (by rfl) (by rfl) rfl rfl (Bv (Qm rfl (Qx (oG rfl Mo BW (Seg.blk 0 rfl)) rfl (Qx (AF rfl call162 rfl (HA _ hbk _ _)) rfl (Aq [_] rfl AY Be rfl (by rfl) rfl rfl (by omega) rfl rfl rfl (fun g75=>?_))))))))))))));refine AM 2 hO (RdL.one AV Mh rfl) rfl AY Be rfl (by omega) rfl rfl rfl B5 (by simp;omega) (by simp;omega) rfl rfl rfl (fun v1 m1 hO1=>?_);refine Qm rfl (Bv (Qm rfl (Qx (Ar hRq.rd.any rfl E0 rfl) rfl (Qm rfl (An (Ae (Kq ?_)))))))
    refine Az (fun n s h' ms'=>∃(j:Nat) (v:Value) (m:Hp) (D:List Int),n=q.length-j/\s=[(11,.pointer (some ⟨g11,0,none⟩)),(14,vp),(15,vq),(16,v),(18,.pointer (some ⟨g18,0,none⟩)),(66,vp),(67,.int .i64 p.length),(68,.int .i64 k),(77,vq),(78,.int .i64 q.length),(79,.int .i64 j)]/\h6=h'/\ms'=[A7 g18 43 (GH p[k]),m]/\j<=q.length/\OwnL cI 1 3 m v D/\D=C++p[k].len::(q.take j).map p[k].apart/\D.length<=2+k*20000+j)
     (q.length-0) _ ⟨0,_,m1,_,rfl,rfl,rfl,rfl,by omega,hO1,rfl,by simp;omega⟩ Qs ?_
    clear hO hO1;rintro n s h' ms' ⟨j,v,m,D,rfl,rfl,rfl,rfl,hj,hO,hD,hDl⟩;refine As (Qm rfl (An (Ac ?_)));refine Au rfl (fun hltq=>?_) (fun hltq=>?_)
    ·have hjq:j<q.length:=by omega
     have hbj:=hqB _ (getElem_mem hjq);have htj:=FW p[k].apart q j hjq;refine Ah (Ab (Ac (Ae (As (Qx (AC _ hRq.rd.any rfl E0 BW rfl rfl rfl (by omega)) rfl (Qx (oG rfl Mo BW (hRq.any.seg hjq)) rfl (CC [.int .i64 0,.int .i64 0,.int .i64 0,.bool false,.int .i64 0,.int .i64 0] rfl BW rfl rfl (fun g20=>D1 0 _ rfl BW rfl rfl rfl (FD _) rfl (by rfl) (by rfl) rfl rfl (Gh (Qm rfl (Qx (oG rfl Mo BW (Seg.blk 1 rfl)) rfl (Qx (oG rfl Mo BW (Seg.blk 0 rfl)) rfl (Qx (AF rfl call163 rfl (Ph _ _ hbk hbj _ _)) rfl (Aq [_] rfl AY Be rfl (by rfl) rfl rfl (by omega) rfl rfl rfl (fun g87=>?_)))))))))))))));refine AM 3 hO (RdL.one AV Mh rfl) rfl AY Be rfl (by omega) rfl rfl rfl B5 (by simp;omega) (by simp;omega) rfl rfl rfl (fun v1 m1 hO1=>?_);refine Qm rfl (Aj (Ai (Ab (Ad (Qx (oA rfl) rfl (Qm rfl (Aj ?_)))))));refine AN (AN ?_);refine Ak (q.length-(j+1)) _ (by omega) ⟨j+1,v1,m1,_,rfl,rfl,rfl,rfl,by omega,hO1,by rw[hD,htj];simp,by simp;omega⟩ Qs
    ·rw[take_of_length_le (by omega)]at hD;refine Av (Aa (Aa (Af (Ai (Ab (Ad (Qx (oA rfl) rfl (Qm rfl (Aj (AN ?_))))))))));refine Ak (p.length-(k+1)) _ (by omega) ⟨k+1,v,m,D,rfl,rfl,rfl,rfl,by omega,hO,by rw[hD,hC,hts];simp,by omega⟩ Qs
   ·have hkP:k=p.length:=by omega
    rw[take_of_length_le (by omega)]at hC;refine Av (Aa (Aa (Af (Ab (Ac (As (Qm rfl (Qx (Ar hRq.rd.any rfl E0 rfl) rfl (Qm rfl (An (Ae ?_)))))))))))
    refine Az (fun n s h' ms'=>∃(j:Nat) (v:Value) (m:Hp) (D:List Int),n=q.length-j/\s=[(11,.pointer (some ⟨g11,0,none⟩)),(14,vp),(15,vq),(16,v),(91,vq),(92,.int .i64 q.length),(93,.int .i64 j)]/\h6=h'/\ms'=[m]/\j<=q.length/\OwnL cI 1 3 m v D/\D=C++(q.take j).map Br.len/\D.length<=1+k*20000+j)
     (q.length-0) _ ⟨0,v,m,C,rfl,rfl,rfl,rfl,by omega,hO,by simp,by omega⟩ Qs ?_
    clear hO;rintro n s h' ms' ⟨j,v,m,D,rfl,rfl,rfl,rfl,hj,hO,hD,hDl⟩;refine As (Qm rfl (An (Ac ?_)));refine Au rfl (fun hltq=>?_) (fun hltq=>?_)
    ·have hjq:j<q.length:=by omega
     have hbj:=hqB _ (getElem_mem hjq);have htj:=FW Br.len q j hjq;refine Ah (Ab (Ac (Ae (As (Qx (AC _ hRq.rd.any rfl E0 BW rfl rfl rfl (by omega)) rfl (Qx (oG rfl Mo BW (hRq.any.seg hjq)) rfl (CC [.int .i64 0,.int .i64 0,.int .i64 0,.bool false,.int .i64 0,.int .i64 0] rfl BW rfl rfl (fun g22=>D1 0 _ rfl BW rfl rfl rfl (FD _) rfl (by rfl) (by rfl) rfl rfl (Gh (Qm rfl (Qx (oG rfl Mo BW (Seg.blk 0 rfl)) rfl (Qx (AF rfl call162 rfl (HA _ hbj _ _)) rfl (Aq [_] rfl AY Be rfl (by rfl) rfl rfl (by omega) rfl rfl rfl (fun g100=>?_))))))))))))));refine AM 2 hO (RdL.one AV Mh rfl) rfl AY Be rfl (by omega) rfl rfl rfl B5 (by simp;omega) (by simp;omega) rfl rfl rfl (fun v1 m1 hO1=>?_);refine Qm rfl (Aj (Ai (Ab (Ad (Qx (oA rfl) rfl (Qm rfl (Aj ?_)))))));refine AN (AN ?_);refine Ak (q.length-(j+1)) _ (by omega) ⟨j+1,v1,m1,_,rfl,rfl,rfl,rfl,by omega,hO1,by rw[hD,htj];simp,by simp;omega⟩ Qs
    ·rw[take_of_length_le (by omega)]at hD;have hDc:D=CT p q L:=by rw[hD,hC];rfl
     refine Av (Aa (Aa (Af (Ab (As (Qm rfl (A8 (pre:=[m]) rfl call158 rfl (Ni D v m hO (by omega) _) rfl rfl rfl rfl (fun _ _ _ _ hL=>?_))))))));obtain⟨rfl,m2,rfl,hO2⟩:=hL;simp only[cons_append,nil_append,append_nil];have hsl:(Ee D).length=D.length:=(Dn D).length_eq;refine An (BN hO2 (fun h7 l7 hRs=>?_));have c11:=c11.le l7;refine As (Qm rfl (Qx (Bk rfl rfl rfl) rfl (Qc call165 rfl (MQ (Ee D) v 166 [Value.pointer (some ⟨g11,0,none⟩)] (fun n=>decide (L<=n)) h7 hRs (by omega) call166 (fun b _ ms=>Yc b g11 L h7 (fun _=>c11.any) ms)) (fun v17 _ _ _ hL=>?_))));obtain⟨rfl,m3,rfl,hO3⟩:=hL;have hfl:((Ee D).filter fun n=>decide (L<=n)).length<=(Ee D).length:=List.length_filter_le _ _;refine A8 (pre:=[m3]) rfl call164 rfl (QJ _ v17 m3 hO3 (by omega) _) rfl rfl rfl rfl (fun v18 _ _ _ hL=>?_);obtain⟨rfl,m4,rfl,hO4⟩:=hL;simp only[cons_append,nil_append,append_nil];have hT:Lib.compact ((Ee D).filter fun n=>decide (L<=n))=tried p q L:=by rw[hDc];rfl
     rw[hT]at hO4;have hTm:=SV p q L;have hTs:=Nd p q L
     have hTu:(tried p q L).length<=D.length:=by rw[<-hT];exact Nat.le_trans (EX _).length_le (by omega)
     generalize tried p q L=T at hO4 hTm hTs hTu;have hLc:L∈CT p q L:=by unfold CT;simp
     have hTl:0<T.length:=List.length_pos_of_mem ((hTm L).2 ⟨hLc,Int.le_refl _⟩);obtain⟨cl1,cl2⟩:=Md p q L
     have hmax:∀b:Int,b∈CT p q L->b<=T[T.length-1]:=fun b hb=>by
      rcases Int.lt_or_le b L with h1|h1
      ·have:=((hTm _).1 (getElem_mem (show T.length-1<T.length by omega))).2;omega
      ·obtain⟨j,hj,e⟩:=getElem_of_mem ((hTm b).2 ⟨hb,h1⟩);rw[<-e];exact H6 hTs (by omega) (by omega)
     have hlast:Pos (Cq p q T[T.length-1]) (p.length+q.length):=Sd p q _ (fun b hb=>hmax _ (cl1 b hb)) (fun b hb=>hmax _ (cl2 b hb))
     have hdone:∀d,d∈T->Pos (Cq p q d) (p.length+q.length)->(∀c∈T,Pos (Cq p q c) (p.length+q.length)->d<=c)->IsDist p q L d:=fun d h1 h2 h3=>
      ⟨((hTm d).1 h1).1,((hTm d).1 h1).2,h2,fun c h4 h5 h6=>h3 c ((hTm c).2 ⟨h4,h5⟩) h6⟩
     clear hmax cl1 cl2 hT hTm hLc;refine Qm rfl (An (BN hO4 (fun h8 l8 hRT=>?_)));have hRp:=hRp.up (AJ l7 l8);have hRq:=hRq.up (AJ l7 l8);refine As (Qm rfl (Qx (Ar hRT.rd rfl AY rfl) rfl (Qx (oS rfl) rfl (Qm rfl (Qm rfl (An (Ac (Ae ?_))))))))
     refine Az (fun n s h' ms'=>∃(lo hi:Nat) (x y:Int) (hhi:hi<T.length),n=hi-lo/\s=[(14,vp),(15,vq),(16,v18),(23,.int .i64 x),(24,.int .i64 y)]/\h8=h'/\ms'=[]/\x=lo/\y=hi/\lo<=hi/\(∀j (hj:j<lo) (hj':j<T.length),¬Pos (Cq p q T[j]) (p.length+q.length))/\Pos (Cq p q T[hi]) (p.length+q.length))
      (T.length-1-0) _ ⟨0,T.length-1,0,(T.length:Int)-1,by omega,rfl,rfl,rfl,rfl,rfl,by omega,by omega,fun j hj=>by omega,hlast⟩ Qs ?_
     rintro n s h' ms' ⟨lo,hi,x,y,hhi,rfl,rfl,rfl,rfl,hx,hy,hlo,hno,hyes⟩;refine Ac (As (Qm rfl (Qm rfl (Qm rfl (An ?_)))));refine Au rfl (fun hlh=>?_) (fun hlh=>?_)
     ·obtain⟨m,hm⟩:∃m,m=(lo+hi)/2:=⟨_,rfl⟩
      have hmT:m<T.length:=by omega
      refine Ah (Ab (Ae (As (Qm rfl (Qm rfl (Qx (oA rfl) rfl (Qx (FE rfl rfl rfl (by omega) (by omega)) rfl (Qm rfl (Bv (Qm rfl (Qm rfl (Qm rfl (Qm rfl (Qx (BS (m) hRT.rd rfl AY Be rfl rfl) rfl (Ql rfl U3 (hRT.cell0 hmT rfl) (Qx (AF rfl call167 rfl (QR p q vp vq _ h8 hRp hRq (by omega) (by omega) hpA hqB _)) rfl (An ?_)))))))))))))))));refine Bq rfl (fun hpo=>?_) (fun hpo=>?_)
      ·have hpo':Pos (Cq p q T[m]) (p.length+q.length):=by simpa[Xr] using hpo
       refine Ad (Qm rfl (Qm rfl (Aj (Ai ?_))));refine Ak (m-lo) _ (by omega) ⟨lo,m,x,(x+y)/2,hmT,rfl,rfl,rfl,rfl,hx,by omega,by omega,hno,hpo'⟩ Qs
      ·have hpo':¬Pos (Cq p q T[m]) (p.length+q.length):=by simpa[Xr] using hpo
       refine Ad (Qm rfl (Qx (oA rfl) rfl (Qm rfl (Aj (Ai ?_)))));refine Ak (hi-(m+1)) _ (by omega) ⟨m+1,hi,(x+y)/2+1,y,hhi,rfl,rfl,rfl,rfl,by omega,hy,by omega,fun j hj hj' hp=>hpo' (hp.mono (Qz (H6 hTs (by omega) hmT))),hyes⟩ Qs
     ·obtain rfl:lo=hi:=by omega
      have hID:=hdone _ (getElem_mem hhi) hyes fun c hc hp=>by
       obtain⟨j,hj,rfl⟩:=getElem_of_mem hc;rcases Nat.lt_or_ge j lo with h1|h1
       ·exact absurd hp (hno j h1 hj)
       ·exact H6 hTs h1 hj
      refine Av (Aa (Aa (Af (Ab (As (Qm rfl (Qm rfl (Qx (BS (lo) hRT.rd rfl AY Be rfl rfl) rfl (Ql rfl U3 (hRT.cell0 hhi rfl) (Qm rfl (Qm rfl (An (Am ?_)))))))))))));exact BC rfl rfl rfl (⟨T[lo],true,rfl,fun h=>absurd hlen h,fun _=>⟨rfl,hID⟩⟩)
end Go.Proofs.Q
namespace Go.Proofs.Q
open Go.Eng Go.RowKit Go.Kuhn
def put(x:Int):List Int->List Int
 | []=>[x]
 | y::l=>if y<=x then y::put x l else x::y::l
end Go.Proofs.Q

namespace Go.Proofs.Q
open Go.Kuhn
theorem WM{F:Nat->Nat->Bool}{nl:Nat}{part:List Int}(hK:NC F nl part){x:Nat}(h:0<part.count (x:Int)):∃k,part[k]?=some (x:Int)/\k<part.length/\F x k=true:=by
 obtain⟨k,hk,e⟩:=getElem_of_mem (List.count_pos_iff.1 h);refine⟨k,by rw[List.getElem?_eq_getElem hk,e],hk,?_⟩;rcases hK k hk with h1|⟨p,h1,_,h2⟩
 ·rw[e]at h1;omega
 ·rw[e]at h1;have:p=x:=by omega
  rwa [this]at h2
open Go.Eng Go.RowKit
theorem LJ:∀{l l':List Int},l.Pairwise (·<=·)->l'.Pairwise (·<=·)->l.Perm l'->l=l':=fun h h' p=>
 p.eq_of_pairwise (fun a b _ _ h1 h2=>by omega) h h'
theorem Ro:∀l:List Int,l≠[]->∃M∈l,∀c∈l,c<=M
 | [],h=>absurd rfl h
 | [a],_=>⟨a,by simp,by simp⟩
 | a::b::l,_=>by
  obtain⟨M,h1,h2⟩:=Ro (b::l) (by simp);rcases Int.le_total a M with h|h
  ·exact⟨M,by simp[h1],fun c hc=>by
    rcases List.mem_cons.1 hc with rfl|hc
    ·exact h
    ·exact h2 c hc⟩
  ·exact⟨a,by simp,fun c hc=>by
    rcases List.mem_cons.1 hc with rfl|hc
    ·exact Int.le_refl _
    ·have:=h2 c hc;omega⟩
open Go.Proofs.Tryz
theorem IsDist.unique{p q:List Br}{L d e:Int}(h:IsDist p q L d)(h':IsDist p q L e):d=e:=by obtain⟨a1,a2,a3,a4⟩:=h;obtain⟨b1,b2,b3,b4⟩:=h';have:=a4 e b1 b2 b3;have:=b4 d a1 a2 a3;omega
theorem R4:∀l:List Int,l≠[]->∃M∈l,∀c∈l,M<=c
 | [],h=>absurd rfl h
 | [a],_=>⟨a,by simp,by simp⟩
 | a::b::l,_=>by
  obtain⟨M,h1,h2⟩:=R4 (b::l) (by simp);rcases Int.le_total M a with h|h
  ·exact⟨M,by simp[h1],fun c hc=>by
    rcases List.mem_cons.1 hc with rfl|hc
    ·exact h
    ·exact h2 c hc⟩
  ·exact⟨a,by simp,fun c hc=>by
    rcases List.mem_cons.1 hc with rfl|hc
    ·exact Int.le_refl _
    ·have:=h2 c hc;omega⟩
theorem HU(p q:List Br)(L:Int):∃d,IsDist p q L d:=by
 classical
 obtain⟨cl1,cl2⟩:=Md p q L;have hLC:L∈CT p q L:=by unfold CT;simp
 obtain⟨M,hMC,hM⟩:∃M∈CT p q L,∀c∈CT p q L,c<=M:=Ro _ (List.ne_nil_of_mem hLC);have hlast:Pos (Cq p q M) (p.length+q.length):=Sd p q _ (fun b hb=>hM _ (cl1 b hb)) (fun b hb=>hM _ (cl2 b hb));obtain⟨d,h1,h2⟩:=R4 ((CT p q L).filter fun c=>decide (L<=c/\Pos (Cq p q c) (p.length+q.length))) (List.ne_nil_of_mem (List.mem_filter.2 ⟨hMC,by simpa using ⟨hM _ hLC,hlast⟩⟩));obtain⟨h3,h4⟩:=List.mem_filter.1 h1;have h4:=of_decide_eq_true h4;exact⟨d,h3,h4.1,h4.2,fun c hc h5 h6=>h2 c (List.mem_filter.2 ⟨hc,by simpa using ⟨h5,h6⟩⟩)⟩
noncomputable def dd(p q:List Br)(L:Int):Int:=(HU p q L).choose
theorem Abj(p q:List Br)(L:Int):IsDist p q L (dd p q L):=(HU p q L).choose_spec
noncomputable def Hd(dim:Int)(a b:List Br):Int×Bool:=
 if(Bx dim a).length=(Bx dim b).length then(dd (a.filter (Br.finIn dim)) (b.filter (Br.finIn dim)) (D5 ((Bx dim a).zip (Bx dim b))),true) else(0,false)
theorem Ll{dim:Int}{la lb:List Br}{d:Int}{e:Bool}(h1:(Bx dim la).length≠(Bx dim lb).length->d=0/\e=false)(h2:(Bx dim la).length=(Bx dim lb).length->e=true/\IsDist (la.filter (Br.finIn dim)) (lb.filter (Br.finIn dim)) (D5 ((Bx dim la).zip (Bx dim lb))) d):Hd dim la lb=(d,e):=by
 unfold Hd;split
 ·rename_i h;obtain⟨rfl,h3⟩:=h2 h;rw[h3.unique (Abj _ _ _)]
 ·rename_i h;obtain⟨rfl,rfl⟩:=h1 h;rfl
section
variable (la lb:List Br) (va vb:Value) (dim:Int) (h:Hp) (hRa:RdL GH 6 h [] va la) (hRb:RdL GH 6 h [] vb lb) (hla:la.length<=10000) (hlb:lb.length<=10000) (hA:∀b∈la,J4 b) (hB:∀b∈lb,J4 b) (ms:List Hp)
include hRa hRb hla hlb hA hB
theorem LK:FnV Tryz.prog 103 #[va,vb,.int .i64 dim] h ms (.tuple #[.int .i64 (Hd dim la lb).1,.bool (Hd dim la lb).2]):=by refine fun w hw=>(?_:FnV _ _ _ h [] _) w (hw.weaken (CY) (List.nil_sublist _));refine FnT.toV (FnT.mono (N4 la lb va vb dim h hRa hRb hla hlb hA hB) ?_);rintro r h' ms' ⟨d,e,rfl,h1,h2⟩;rw[Ll h1 h2]
theorem Ix(want:Int)(hd:Hd 1 la lb=(want,true)):FnV Tryz.prog 100 #[va,vb,.int .i64 want] h ms (.bool true):=by
 refine fun w hw=>(?_:FnV _ _ _ h [] _) w (hw.weaken (CY) (List.nil_sublist _));refine FnT.toV (Ao func100 ntmps100 rfl rfl (fun w0 hw0=>?_));simp only[AU];refine As (Qm rfl (Bv (Qm rfl (Qm rfl (Qx (AF rfl call103 rfl (LK la lb va vb 1 h hRa hRb hla hlb hA hB _)) rfl ?_)))));rw[hd];refine Qm rfl (Qm rfl (Qm rfl (Qm rfl (Qm rfl (Bv (Qm rfl (Qm rfl ?_)))))));refine De (t:=16) rfl (fun h1=>?_) (fun h1=>?_)
 ·refine Qg (Ay rfl rfl) rfl (Qg (Ay rfl rfl) rfl (Qg (DH rfl rfl rfl) rfl (Qm rfl (Qm rfl (An (Am ?_))))));exact Ap rfl rfl (by simp)
 ·cases h1
end
def Br.at(dim t:Int)(b:Br):Bool:=decide (b.dim=dim)&&decide (b.birth<=t)&&(b.opn||decide (t<b.death))
theorem AaT(b:Br)(g1 g2:Nat)(dim t:Int)(h:Hp)(hD:∀ms,Cell h ms ⟨g1,0,none⟩ (.int .i64 dim))(hT:∀ms,Cell h ms ⟨g2,0,none⟩ (.int .i64 t))(ms:List Hp):FnV Tryz.prog 113 ([]++[Value.agg (GH b).toArray]++[Value.pointer (some ⟨g1,0,none⟩),Value.pointer (some ⟨g2,0,none⟩)]).toArray h ms (.bool (b.at dim t)):=by
 refine fun w hw=>(?_:FnV _ _ _ h [] _) w (hw.weaken (CY) (List.nil_sublist _));refine FnT.toV ?_;show FnT _ _ #[.agg (GH b).toArray,.pointer (some ⟨g1,0,none⟩),.pointer (some ⟨g2,0,none⟩)] _ _ _;refine Ao func113 ntmps113 rfl rfl (fun w0 hw0=>?_);simp only[AU];refine As (AS [_,_,_,_,_,_] rfl rfl (by rfl) rfl rfl rfl (fun g3=>Qm rfl (Bv (Qf QN rfl (Ql rfl U3 (Cell.blk 0 rfl rfl) (Ql rfl U3 (hD _) (Qm rfl (Qm rfl ?_))))))));refine AO (t:=9) rfl (fun h1=>?_) (fun h1=>?_)
 ·refine Qg (oF Ib rfl) rfl (Qg (oL rfl U3 (Cell.blk 0 rfl rfl)) rfl (Qg (oL rfl U3 (hT _)) rfl (Qg (LA rfl rfl rfl) rfl (Qm rfl (Qm rfl ?_)))));refine AO (t:=15) rfl (fun h2=>?_) (fun h2=>?_)
  ·refine Qg (oF Ij rfl) rfl (Qg (oL rfl U4 (Cell.blk 0 rfl rfl)) rfl (Qg (Ay rfl rfl) rfl ?_));refine De (t:=18) rfl (fun h3=>?_) (fun h3=>?_)
   ·refine Qk rfl (Qk rfl (Qk rfl (Qk rfl (Qg (CA rfl rfl rfl) rfl (Qm rfl (Qm rfl (An (Am ?_))))))));exact Ap rfl rfl (by simp[Br.at,h1,h2,h3])
   ·refine Qg (oF Il rfl) rfl (Qg (oL rfl U3 (Cell.blk 0 rfl rfl)) rfl (Qg (oL rfl U3 (hT _)) rfl (Qg (Cc rfl rfl rfl) rfl (Qg (Cj rfl rfl rfl) rfl (Qm rfl (Qm rfl (An (Am ?_))))))));exact Ap rfl rfl (by simp[Br.at,h1,h2,h3])
  ·refine Qk rfl (Qk rfl (Qk rfl (AX rfl rfl rfl rfl rfl rfl (AX rfl rfl rfl rfl rfl rfl (AX rfl rfl rfl rfl rfl rfl (AX rfl rfl rfl rfl rfl rfl (Qk rfl (Qm rfl (Qm rfl (An (Am ?_)))))))))));exact Ap rfl rfl (by simp[Br.at,h1,h2])
 ·refine Qk rfl (Qk rfl (Qk rfl (Qk rfl (Qm rfl (Qm rfl (Qk rfl (Qk rfl (Qk rfl (AX rfl rfl rfl rfl rfl rfl (AX rfl rfl rfl rfl rfl rfl (AX rfl rfl rfl rfl rfl rfl (AX rfl rfl rfl rfl rfl rfl (Qk rfl (Qm rfl (Qm rfl (An (Am ?_)))))))))))))))));exact Ap rfl rfl (by simp[Br.at,h1])
theorem KN(l:List Br)(vl:Value)(dim t:Int)(h:Hp)(hR:RdL GH 6 h [] vl l)(hl:l.length<=1000000)(ms:List Hp) :
  FnV Tryz.prog 42 #[vl,.int .i64 dim,.int .i64 t] h ms (.int .i64 (l.filter (Br.at dim t)).length):=by
 refine fun w hw=>(?_:FnV _ _ _ h [] _) w (hw.weaken (CY) (List.nil_sublist _));refine FnT.toV (Ao func42 ntmps42 rfl rfl (fun w0 hw0=>?_));simp only[AU];refine As (AS [_] rfl rfl (by rfl) rfl rfl rfl (fun g4=>AS [_] rfl rfl (by rfl) rfl rfl rfl (fun g5=>KA 0 rfl (fun h1 l1 s1=>KA 0 rfl (fun h2 l2 s2=>?_)))));have c5:Cell h2 [] ⟨g5,0,none⟩ (.int .i64 t):=(s1.at0 rfl).le l2;have c4:Cell h2 [] ⟨g4,0,none⟩ (.int .i64 dim):=s2.at0 rfl;have hR:=hR.up (AJ l1 l2)
 try simp only[List.eraseIdx_cons_zero,List.eraseIdx_cons_succ]
 refine Qm rfl (Bv (Qm rfl (Qx (Bk rfl rfl rfl) rfl (Qc call112 rfl (FH l vl 113 [Value.pointer (some ⟨g4,0,none⟩),Value.pointer (some ⟨g5,0,none⟩)] (Br.at dim t) h2 hR (by omega) call113 (fun b _ ms=>AaT b g4 g5 dim t h2 (fun _=>c4.any) (fun _=>c5.any) ms)) (fun vp h3 _ l3 hL=>?_)))));obtain⟨rfl,hRp⟩:=hL;refine Qx (Ar hRp.rd.any rfl E0 rfl) rfl (Qm rfl (An (Am ?_)));exact Ap rfl rfl (rfl)
end Go.Proofs.Q

namespace Go.Proofs.Q
open Go.Eng Go.RowKit Go.Kuhn
theorem ND{F:Nat->Nat->Bool}{n:Nat}(h:Pos F n)(x:Nat)(hx:x<n):∃k,k<n/\F x k=true:=by obtain⟨part,hl,hK,hc⟩:=h;obtain⟨k,_,h2,h3⟩:=WM hK (x:=x) (by rw[hc x hx];decide);exact⟨k,by omega,h3⟩
theorem MS{F:Nat->Nat->Bool}(w:List Nat)(h1:∀x,x<w.length->x∈w)(h2:w.Nodup)(h3:∀k (hk:k<w.length),w[k]<w.length/\F w[k] k=true):Pos F w.length:=by
 refine⟨w.map fun x:Nat=>(x:Int),by simp,fun k hk=>?_,fun x hx=>?_⟩
 ·right
  have hk':k<w.length:=by simpa using hk
  exact⟨w[k],by simp,(h3 k hk').1,(h3 k hk').2⟩
 ·have hn:(w.map fun x:Nat=>(x:Int)).Nodup:=List.pairwise_map.2 (h2.imp fun h e=>h (by omega));have h4:=List.nodup_iff_count.1 hn (x:Int);have h5:=List.count_pos_iff.2 (List.mem_map.2 ⟨x,h1 x hx,rfl⟩:(x:Int)∈w.map fun x:Nat=>(x:Int));omega
theorem GM{dim:Int}{la lb:List Br}{X Y:List Int}{p q:List Br}{L d:Int}(hX:Bx dim la=X)(hY:Bx dim lb=Y)(hl:X.length=Y.length)(hp:la.filter (Br.finIn dim)=p)(hq:lb.filter (Br.finIn dim)=q)(hL:D5 (X.zip Y)=L)(hd:IsDist p q L d):Hd dim la lb=(d,true):=by
 refine Ll (fun h=>absurd (by rw[hX,hY];exact hl) h) fun _=>⟨rfl,?_⟩
 rw[hX,hY,hp,hq,hL];exact hd
theorem Jc{l l':List Int}(h:l.Perm l')(hs:l'.Pairwise (·<=·)):Ee l=l':=LJ (Gu l) hs ((Dn l).trans h)
theorem Dx{dim:Int}{l:List Br}(h:l.filter (Br.openIn dim)=[]):Bx dim l=[]:=by unfold Bx;rw[h];exact Jc (List.Perm.refl _) (by simp)
def fb(a b:Int):Br:=⟨1,a,b,false,0,0⟩
def ob(a:Int):Br:=⟨1,a,0,true,0,0⟩
theorem AaD:Hd 1 [fb 0 10] [fb 1 8]=(4,true):=by
 refine GM (X:=[]) (Y:=[]) (p:=[fb 0 10]) (q:=[fb 1 8]) (L:=0) (Dx (by decide)) (Dx (by decide)) rfl (by decide) (by decide) rfl ⟨by decide,by decide,?_,fun c hc h0 hp=>?_⟩
 ·exact MS [0,1] (by simp;omega) (by decide) (by decide)
 ·obtain⟨k,hk,h⟩:=ND hp 0 (by decide);have hk:k<2:=hk;rcases (by omega:k=0\/k=1) with rfl|rfl<;>simp[Cq,fb,Br.apart,Br.len,FV]at h<;>omega
theorem AaS:Hd 1 [fb 0 10] [fb 20 24]=(10,true):=by
 refine GM (X:=[]) (Y:=[]) (p:=[fb 0 10]) (q:=[fb 20 24]) (L:=0) (Dx (by decide)) (Dx (by decide)) rfl (by decide) (by decide) rfl ⟨by decide,by decide,?_,fun c hc h0 hp=>?_⟩
 ·exact MS [1,0] (by simp;omega) (by decide) (by decide)
 ·obtain⟨k,hk,h⟩:=ND hp 0 (by decide);have hk:k<2:=hk;rcases (by omega:k=0\/k=1) with rfl|rfl<;>simp[Cq,fb,Br.apart,Br.len,FV]at h<;>omega
theorem Aa1:Hd 1 [fb 0 3,fb 0 10] [fb 0 10]=(3,true):=by
 refine GM (X:=[]) (Y:=[]) (p:=[fb 0 3,fb 0 10]) (q:=[fb 0 10]) (L:=0) (Dx (by decide)) (Dx (by decide)) rfl (by decide) (by decide) rfl ⟨by decide,by decide,?_,fun c hc h0 hp=>?_⟩
 ·exact MS [1,0,2] (by simp;omega) (by decide) (by decide)
 ·obtain⟨k,hk,h⟩:=ND hp 0 (by decide);have hk:k<3:=hk;rcases (by omega:k=0\/k=1\/k=2) with rfl|rfl|rfl<;>simp[Cq,fb,Br.apart,Br.len,FV]at h<;>omega
theorem AaR:Hd 1 [ob 0,ob 5] [ob 7,ob 1]=(4,true):=by refine GM (X:=[0,5]) (Y:=[1,7]) (p:=[]) (q:=[]) (L:=4) (Jc (by decide) (by decide)) (Jc (by decide) (by decide)) rfl (by decide) (by decide) (by decide) ⟨by decide,by decide,?_,fun c hc h0 hp=>h0⟩;exact MS [] (by simp) (by decide) (by decide)
theorem Abg:Hd 1 [ob 0] [fb 0 10]=(0,false):=by refine Ll (fun _=>⟨rfl,rfl⟩) fun h=>?_;rw[Dx (l:=[fb 0 10]) (by decide)]at h;have:Bx 1 [ob 0]=[0]:=Jc (by decide) (by decide);rw[this]at h;cases h
theorem JU{a b:Int}(h:-1000<=a/\a<=1000/\-1000<=b/\b<=1000):J4 (fb a b):=⟨by show _<=a;omega,by show a<=_;omega,by show _<=b;omega,by show b<=_;omega⟩
theorem OM{a:Int}(h:-1000<=a/\a<=1000):J4 (ob a):=⟨by show _<=a;omega,by show a<=_;omega,by show(_:Int)<=0;omega,by show(0:Int)<=_;omega⟩
open Go.Proofs.Tryz
theorem Fu{h:Hp}{g:Nat}(l:List Br)(n c:Nat)(hn:n=l.length)(hc:n<=c/\c<=9223372036854775807){cs:List Value}(hcs:l.flatMap GH=cs)(s:Seg h [] ⟨g,0,none⟩ cs):RdL GH 6 h [] (.slice (some ⟨g,0,none⟩) n c) l:=by subst hn hcs;exact⟨⟨_,c,rfl,hc.1,hc.2,A5 GR l,fun _=>⟨_,rfl,s⟩⟩,GR⟩
theorem Zk{b:Br}(h:J4 b):∀x∈[b],J4 x:=by simpa using h
theorem ok2{b c:Br}(h:J4 b)(h':J4 c):∀x∈[b,c],J4 x:=by simp[h,h']
theorem Tn(h:Hp)(ms:List Hp):FnV Tryz.prog 39 #[] h ms (.bool true):=by
 refine FnV.weaken (h:=Hp.emp) (FnT.toV ?_) (Hp.emp_le h);show FnT _ _ (List.toArray []) _ _ _;refine Ao func39 ntmps39 rfl rfl (fun w0 hw0=>?_);simp only[AU];refine As (Qm rfl (Bv (Qx (AF rfl call101 rfl (Gv _ _ _ _)) rfl (Aq [_,_,_,_,_,_] rfl E0 BW rfl (by rfl) rfl rfl (by omega) rfl rfl rfl (fun g6=>BA (fun h1 l1 s1=>?_))))));have r1:=Fu [fb 0 10] 1 1 rfl (by omega) rfl s1;refine Qx (AF rfl call101 rfl (Gv _ _ _ _)) rfl (Aq [_,_,_,_,_,_] rfl E0 BW rfl (by rfl) rfl rfl (by omega) rfl rfl rfl (fun g8=>BA (fun h2 l2 s2=>?_)));have r2:=Fu [fb 1 8] 1 1 rfl (by omega) rfl s2;refine Qx (AF rfl call100 rfl (Ix [fb 0 10] [fb 1 8] _ _ h2 (r1.up l2) r2 (by decide) (by decide) (Zk (JU (by omega))) (Zk (JU (by omega))) _ _ AaD)) rfl (Qm rfl (Qg (AF rfl call101 rfl (Gv _ _ _ _)) rfl (LD rfl rfl rfl rfl (Aq [_,_,_,_,_,_] rfl E0 BW rfl (by rfl) rfl rfl (by omega) rfl rfl rfl (fun g12=>BA (fun h1 l1 s1=>?_))))));have r1:=Fu [fb 0 10] 1 1 rfl (by omega) rfl s1;refine Qg (AF rfl call101 rfl (Gv _ _ _ _)) rfl (LD rfl rfl rfl rfl (Aq [_,_,_,_,_,_] rfl E0 BW rfl (by rfl) rfl rfl (by omega) rfl rfl rfl (fun g14=>BA (fun h2 l2 s2=>?_))));have r2:=Fu [fb 20 24] 1 1 rfl (by omega) rfl s2;refine Qg (AF rfl call100 rfl (Ix [fb 0 10] [fb 20 24] _ _ h2 (r1.up l2) r2 (by decide) (by decide) (Zk (JU (by omega))) (Zk (JU (by omega))) _ _ AaS)) rfl (Qm rfl (Qm rfl (Bv (Qx (AF rfl call101 rfl (Gv _ _ _ _)) rfl (Qx (AF rfl call101 rfl (Gv _ _ _ _)) rfl (AE [(0,_),(6,_)] [.int .i64 0,.int .i64 0,.int .i64 0,.bool false,.int .i64 0,.int .i64 0,.int .i64 0,.int .i64 0,.int .i64 0,.bool false,.int .i64 0,.int .i64 0] [_,_,_,_,_,_,_,_,_,_,_,_] rfl E0 BW rfl (by omega) (by kernel_rfl) Qt rfl rfl rfl rfl (fun g19=>BA (fun h1 l1 s1=>?_))))))));have r1:=Fu [fb 0 3,fb 0 10] 2 2 rfl (by omega) rfl s1;refine Qx (AF rfl call101 rfl (Gv _ _ _ _)) rfl (Aq [_,_,_,_,_,_] rfl E0 BW rfl (by rfl) rfl rfl (by omega) rfl rfl rfl (fun g21=>BA (fun h2 l2 s2=>?_)));have r2:=Fu [fb 0 10] 1 1 rfl (by omega) rfl s2;refine Qx (AF rfl call100 rfl (Ix [fb 0 3,fb 0 10] [fb 0 10] _ _ h2 (r1.up l2) r2 (by decide) (by decide) (ok2 (JU (by omega)) (JU (by omega))) (Zk (JU (by omega))) _ _ Aa1)) rfl (Qm rfl (Qg (AF rfl call102 rfl (Hx _ _ _)) rfl (Qg (AF rfl call102 rfl (Hx _ _ _)) rfl (LD rfl rfl rfl rfl (AE [(0,_),(6,_)] [.int .i64 0,.int .i64 0,.int .i64 0,.bool false,.int .i64 0,.int .i64 0,.int .i64 0,.int .i64 0,.int .i64 0,.bool false,.int .i64 0,.int .i64 0] [_,_,_,_,_,_,_,_,_,_,_,_] rfl E0 BW rfl (by omega) (by kernel_rfl) Qt rfl rfl rfl rfl (fun g26=>BA (fun h1 l1 s1=>?_)))))));have r1:=Fu [ob 0,ob 5] 2 2 rfl (by omega) rfl s1;refine Qg (AF rfl call102 rfl (Hx _ _ _)) rfl (Qg (AF rfl call102 rfl (Hx _ _ _)) rfl (LD rfl rfl rfl rfl (AE [(0,_),(6,_)] [.int .i64 0,.int .i64 0,.int .i64 0,.bool false,.int .i64 0,.int .i64 0,.int .i64 0,.int .i64 0,.int .i64 0,.bool false,.int .i64 0,.int .i64 0] [_,_,_,_,_,_,_,_,_,_,_,_] rfl E0 BW rfl (by omega) (by kernel_rfl) Qt rfl rfl rfl rfl (fun g29=>BA (fun h2 l2 s2=>?_)))));have r2:=Fu [ob 7,ob 1] 2 2 rfl (by omega) rfl s2;refine Qg (AF rfl call100 rfl (Ix [ob 0,ob 5] [ob 7,ob 1] _ _ h2 (r1.up l2) r2 (by decide) (by decide) (ok2 (OM (by omega)) (OM (by omega))) (ok2 (OM (by omega)) (OM (by omega))) _ _ AaR)) rfl (Qm rfl (Qm rfl (Bv (Qx (AF rfl call102 rfl (Hx _ _ _)) rfl (Aq [_,_,_,_,_,_] rfl E0 BW rfl (by rfl) rfl rfl (by omega) rfl rfl rfl (fun g34=>BA (fun h1 l1 s1=>?_)))))));have r1:=Fu [ob 0] 1 1 rfl (by omega) rfl s1;refine Qx (AF rfl call101 rfl (Gv _ _ _ _)) rfl (Aq [_,_,_,_,_,_] rfl E0 BW rfl (by rfl) rfl rfl (by omega) rfl rfl rfl (fun g36=>BA (fun h2 l2 s2=>?_)));have r2:=Fu [fb 0 10] 1 1 rfl (by omega) rfl s2;refine Qx (AF rfl call103 rfl (LK [ob 0] [fb 0 10] _ _ 1 h2 (r1.up l2) r2 (by decide) (by decide) (Zk (OM (by omega))) (Zk (JU (by omega))) _)) rfl ?_;rw[Abg];refine Qm rfl (Qm rfl (Qm rfl (Qm rfl (Qm rfl (Bv (Qm rfl (Qm rfl (Qg (Ay rfl rfl) rfl (Qm rfl (Qm rfl (Qg (Ay rfl rfl) rfl (Qg (DH rfl rfl rfl) rfl (Qm rfl (Qm rfl ?_))))))))))))));refine AO (t:=48) rfl (fun hs=>?_) (fun hs=>absurd (rfl) hs);refine Qg (Ay rfl rfl) rfl (Qg (Es rfl rfl) rfl (Qm rfl (Qm rfl ?_)));refine De (t:=52) rfl (fun hz=>?_) (fun hz=>?_)
 ·refine Qg (AF rfl call101 rfl (Gv _ _ _ _)) rfl (Qg (AF rfl call102 rfl (Hx _ _ _)) rfl (LD rfl rfl rfl rfl (AE [(0,_),(6,_)] [.int .i64 0,.int .i64 0,.int .i64 0,.bool false,.int .i64 0,.int .i64 0,.int .i64 0,.int .i64 0,.int .i64 0,.bool false,.int .i64 0,.int .i64 0] [_,_,_,_,_,_,_,_,_,_,_,_] rfl E0 BW rfl (by omega) (by kernel_rfl) Qt rfl rfl rfl rfl (fun g55=>BA (fun h1 l1 s1=>?_)))));have r1:=Fu [fb 0 10,ob 3] 2 2 rfl (by omega) rfl s1;refine Qg (AF rfl call42 rfl (KN [fb 0 10,ob 3] _ 1 9 h1 r1 (by decide) _)) rfl (Qg (DH rfl rfl rfl) rfl (Qm rfl (Qm rfl (An (Am ?_)))));exact Ap rfl rfl (rfl)
 ·cases hz
end Go.Proofs.Q

namespace Go.Proofs.Q
open Go.Proofs.Tryz
open Go.Eng Go.RowKit Go.Lin Go.Sort Go.Srt
def C5(L:List Int):Nat->List (Int×Int)
 | 0=>[]
 | j+1=>if 0<=L.getD j 0 then CQ (C5 L j) (L.getD j 0) (j:Int) else C5 L j
theorem Gr{L:List Int}{i x:Int}:∀{n:Nat},Bf (C5 L n) i=some x->∃j:Nat,j<n/\x=j/\L.getD j 0=i/\0<=i
 | 0,h=>by simp[C5,Bf]at h
 | n+1,h=>by
  unfold C5 at h;split at h
  ·rename_i h0;rw[DD]at h;split at h
   ·rename_i e;cases h;exact⟨n,by omega,rfl,e.symm,by rw[e];exact h0⟩
   ·obtain⟨j,h1,h2⟩:=Gr h;exact⟨j,by omega,h2⟩
  ·obtain⟨j,h1,h2⟩:=Gr h;exact⟨j,by omega,h2⟩
theorem H4{L:List Int}{i:Int}:∀{n:Nat},Bf (C5 L n) i=none->∀j,j<n->0<=i->L.getD j 0≠i
 | 0,h,j,hj,_=>by omega
 | n+1,h,j,hj,h0=>by
  unfold C5 at h;split at h
  ·rw[DD]at h;split at h
   ·cases h
   ·rename_i e;rcases (by omega:j<n\/j=n) with h1|rfl
    ·exact H4 h j h1 h0
    ·exact fun q=>e q.symm
  ·rename_i hn;rcases (by omega:j<n\/j=n) with h1|rfl
   ·exact H4 h j h1 h0
   ·omega
def LY(f:Int->Int)(S:List Ce)(L:List Int)(i:Nat):List Br:=
 match Bf (C5 L L.length) (i:Int) with
 | some j=>if f (S.getD i default).c.id<f (S.getD j.toNat default).c.id then [⟨(S.getD i default).c.dim,f (S.getD i default).c.id,f (S.getD j.toNat default).c.id,false,(S.getD i default).c.id,(S.getD j.toNat default).c.id⟩] else []
 | none=>if L.getD i 0<0 then [⟨(S.getD i default).c.dim,f (S.getD i default).c.id,0,true,(S.getD i default).c.id,0⟩] else []
def Gg(f:Int->Int)(S:List Ce)(L:List Int)(n:Nat):List Br:=(range n).flatMap (LY f S L)
theorem Er(f:Int->Int)(S:List Ce)(L:List Int)(n:Nat):Gg f S L (n+1)=Gg f S L n++LY f S L n:=by unfold Gg;rw[List.range_succ,List.flatMap_append];simp
theorem Yk(f:Int->Int)(S:List Ce)(L:List Int)(i:Nat):(LY f S L i).length<=1:=by unfold LY;split<;>split<;>simp
theorem KX(f:Int->Int)(S:List Ce)(L:List Int):∀n,(Gg f S L n).length<=n
 | 0=>by simp[Gg]
 | n+1=>by rw[Er,length_append];have:=KX f S L n;have:=Yk f S L n;omega
theorem XD(l S:List Ce)(F:List (Int×Int))(R V:Nat->List Int)(L:List Int)(p:Int)(gm:Nat)(vl:Value)(hp:Hp)(M:RedM p F l S R V gm hp)(hL:RdL cI 1 hp [] vl L)(hn:S.length<=400)(hLn:L.length=S.length)(hLl:∀x∈L,x<S.length)(hi:∀a∈S,BD a.c.id)(hI:∀c,BD (Ed (BQ F) c)):FnT Tryz.prog 52 #[.pointer (some ⟨gm,0,none⟩),vl] hp [] (fun r h' ms'=>hp.le h'/\∃mb,ms'=[mb]/\OwnL GH 6 43 mb r (Gg (Ed (BQ F)) S L S.length)):=by
 obtain⟨gA,mA,bs,vc,vr,vv,Rs,Vs,la,hS,hO,lA,hQ,_⟩:=M.ex;have ol:=hL.rd.one;have oc:=hQ.rd.one;refine Ao func52 ntmps52 rfl rfl (fun w0 hw0=>?_);simp only[AU];refine As (Qm rfl (Bv (CO (K:=kN) (V:=kN) (Ok:=BD) rfl rfl rfl rfl (fun gE mE hE0=>Qm rfl (An ?_)))));refine A3 (fun sl h' ms'=>∃(mE:Hp) (bs:List Nat),sl=[(0,.pointer (some ⟨gm,0,none⟩)),(1,vl),(5,.map (some gE))]/\hp=h'/\ms'=[mE]/\Ci kN kN gE BD mE (C5 L L.length) bs) ?_ (fun s h ms hI=>?_)
 ·refine Ac (Ad (Qm rfl (Qx (Ar hL.rd.any rfl AY rfl) rfl (Qm rfl (An (Ae ?_))))))
  refine Az (fun q sl h' ms'=>∃(j:Nat) (mE:Hp) (bs:List Nat),q=L.length-j/\sl=[(0,.pointer (some ⟨gm,0,none⟩)),(1,vl),(5,.map (some gE)),(15,vl),(16,.int .i64 L.length),(17,.int .i64 j)]/\hp=h'/\ms'=[mE]/\j<=L.length/\Ci kN kN gE BD mE (C5 L j) bs)
   (L.length-0) _ ⟨0,mE,[],rfl,rfl,rfl,rfl,by omega,hE0⟩ Qs ?_
  rintro q sl h' ms' ⟨j,mE,bs,rfl,rfl,rfl,rfl,hj,hE⟩;refine As (Qm rfl (An (Ac ?_)));refine Au rfl (fun hlt=>?_) (fun hlt=>?_)
  ·have hjl:j<L.length:=by omega
   have cL:∀ms,Cell hp ms ((AG vl).add (j*1)) (.int .i64 (L.getD j 0)):=fun ms=>by rw[show L.getD j 0=L[j] by simp[List.getD,hjl]];exact(hL.any (ms:=ms)).cell0 hjl rfl
   have hLb:=hLl _ (getElem_mem hjl);rw[show L[j]=L.getD j 0 by simp[List.getD,hjl]]at hLb;refine Ah (Ab (Ac (Ae (As (Qm rfl (Qx (BS (j) hL.rd.any rfl AY Be rfl rfl) rfl (Ql rfl U3 (cL _) (Qm rfl (Qm rfl (Bv (Qm rfl (Qm rfl (An ?_)))))))))))));refine Au rfl (fun h0=>?_) (fun h0=>?_)
   ·have hs:C5 L (j+1)=CQ (C5 L j) (L.getD j 0) (j:Int):=by show(if 0<=L.getD j 0 then _ else _)=_;rw[if_pos h0]
    refine Ad (Qm rfl (Qm rfl (Qm rfl ?_)));refine BJ (V:=kN) (z:=undef) 0 (L.getD j 0) (j:Int) Bi hE rfl rfl LV rfl rfl rfl (by unfold BD;omega) rfl rfl (fun mE' bs' hE'=>?_);rw[<-hs]at hE';refine Aj (Ai (Ab (Ad (Qx (oA rfl) rfl (Qm rfl (Aj ?_))))));exact Ak (L.length-(j+1)) _ (by omega) ⟨j+1,mE',bs',rfl,rfl,rfl,rfl,by omega,hE'⟩ Qs
   ·have hs:C5 L (j+1)=C5 L j:=by show(if 0<=L.getD j 0 then _ else _)=_;rw[if_neg h0]
    rw[<-hs]at hE;refine Ah (Ai (Ab (Ad (Qx (oA rfl) rfl (Qm rfl (Aj ?_))))));exact Ak (L.length-(j+1)) _ (by omega) ⟨j+1,mE,bs,rfl,rfl,rfl,rfl,by omega,hE⟩ Qs
  ·obtain rfl:j=L.length:=by omega
   refine Av (Aa (Aa (Af ?_)));exact AA _ ⟨mE,bs,rfl,rfl,rfl,hE⟩ Qs
 ·obtain⟨mE,bsE,rfl,rfl,rfl,hE⟩:=hI;refine BE fun h1 l1 lE=>?_;have hS:=hS.le l1;have hQ:=hQ.up l1;have hL:=hL.up l1;have lA:=AJ lA l1;have e1:∀ms,Cell h1 ms (⟨gm,1,none⟩:Addr) vc:=fun ms=>Seg.all hS 1 _ rfl ms;refine BB (As (Qm rfl (An (Ac (As (Qm rfl (Qm rfl (Qf FF rfl (Ql rfl Bs (e1 _) (Qx (Ar hQ.rd.any rfl Bs rfl) rfl (Qm rfl (An (Ae ?_)))))))))))))
  refine Az (fun q sl h' ms'=>∃(i:Nat) (vb:Value) (mb:Hp),q=S.length-i/\sl=[(0,.pointer (some ⟨gm,0,none⟩)),(1,vl),(5,.map (some gE)),(8,vb),(31,vc),(32,.int .i64 S.length),(33,.int .i64 i)]/\h1.le h'/\ms'=[mb]/\i<=S.length/\OwnL GH 6 43 mb vb (Gg (Ed (BQ F)) S L i))
   (S.length-0) _ ⟨0,_,Hp.emp,rfl,rfl,CY,rfl,by omega,OwnL.nil GR⟩ Qs ?_
  rintro q sl h2 ms' ⟨i,vb,mb,rfl,rfl,l2,rfl,hi',hB⟩;have hS:=hS.le l2;have hQ:=hQ.up l2;have hL:=hL.up l2;have lA:=AJ lA l2;have lE:=AJ lE l2;have ovb:=hB.o1;refine As (Qm rfl (An (Ac ?_)));refine Au rfl (fun hlt=>?_) (fun hlt=>?_)
  ·have hil:i<S.length:=by omega
   obtain⟨x,hx⟩:∃x,S[i]=x:=⟨_,rfl⟩
   have hxm:x∈S:=by rw[<-hx];exact getElem_mem hil
   have hgx:S.getD i default=x:=by simp[List.getD,hil,hx]
   have hxI:=hi x hxm;have oxv:=(M.sds x hxm).rd.one;have hsx:∀ms,Seg h2 ms ((AG vc).add (i*3)) (cC x):=fun ms=>by rw[<-hx];exact(hQ.any (ms:=ms)).seg hil
   refine Ah (Ab (Ac (Ae (As (Qm rfl (Qx (BS (i) hQ.rd.any rfl Bs AI rfl rfl) rfl (Qx (oG rfl Fb AI (hsx _)) rfl (CC [.int .i64 0,.int .i64 0,.slice none 0 0] rfl AI rfl rfl (fun g10=>Qm rfl ?_)))))))));refine Sa 0 [_,_,_] AI rfl (by simp[ol,oc,oxv,ovb]) ?_;refine An (Aw fun h3 l3 hS10=>?_);have e100:∀ms,Cell h3 ms (⟨g10,0,none⟩:Addr) (.int .i64 x.c.id):=fun ms=>Seg.all hS10 0 _ rfl ms;have e101:∀ms,Cell h3 ms (⟨g10,1,none⟩:Addr) (.int .i64 x.c.dim):=fun ms=>Seg.all hS10 1 _ rfl ms;have hS3:=hS.le l3;have a1:∀ms,Cell h3 ms (⟨gm,1,none⟩:Addr) vc:=fun ms=>Seg.all hS3 1 _ rfl ms;have a2:∀ms,Cell h3 ms (⟨gm,2,none⟩:Addr) (.map (some gA)):=fun ms=>Seg.all hS3 2 _ rfl ms;have hfx:(Bf (BQ F) x.c.id).getD 0=Ed (BQ F) x.c.id:=rfl;obtain⟨f,hf⟩:∃f,Ed (BQ F)=f:=⟨_,rfl⟩
   rw[hf]at hfx hB;have hBl:=KX f S L i;obtain⟨bb,hbb⟩:∃bb,(Bf (C5 L L.length) (i:Int)).isSome=bb:=⟨_,rfl⟩
   obtain⟨u,hu⟩:∃u,(Bf (C5 L L.length) (i:Int)).getD 0=u:=⟨_,rfl⟩
   refine Ac (Bc 13 CP (by kernel_rfl) rfl (Wf BM rfl (Wl rfl U3 (e101 _) (Wm rfl (Wm rfl (Wf Kl rfl (Wl rfl LV (a2 _) (Wf Bz rfl (Wl rfl U3 (e100 _) (AP (show OX _ _ _ _ _ (.int .i64 (f x.c.id)) from Cb (V:=kN) (z:=(0:Int)) (u:=f x.c.id) x.c.id hfx Bi hO (AJ lA l3) rfl LV HZ rfl rfl hxI) rfl rfl (Wf Bz rfl (Wl rfl U3 (e100 _) (AP (A0 Aaw [.int .i64 0,.int .i64 0,.int .i64 0,.bool false,.int .i64 0,.int .i64 0] [(0,_),(1,_),(4,_)] [_,_,_,_,_,_] rfl BW rfl rfl Qt rfl) rfl rfl (WE (MC [.int .i64 0,.int .i64 0,.int .i64 0,.bool false,.int .i64 0,.int .i64 0] rfl BW rfl) rfl rfl (I3 (fun g11=>?_))))))))))))))));refine Sa 0 [_,_,_,_,_,_] BW rfl (by simp[Value.oneCell']) ?_;refine Bv (Qm rfl (Qm rfl ?_));refine Qx (D8 (V:=kN) (z:=(0:Int)) (i:Int) hu hbb Bi hE (AJ lE l3) rfl LV HZ rfl rfl (by unfold BD;omega)) rfl ?_;refine Qm rfl (Qm rfl (Qm rfl (Qm rfl (Qm rfl (An (Ac (Ae (As (Qm rfl (Qm rfl (An ?_)))))))))));refine Bq rfl (fun hb=>?_) (fun hb=>?_)
   ·obtain⟨j,hj⟩:∃j,Bf (C5 L L.length) (i:Int)=some j:=by rw[hb]at hbb;exact Option.isSome_iff_exists.1 hbb
    obtain⟨jn,hjn,rfl,hjL,_⟩:=Gr hj;rw[hj]at hu;obtain rfl:(jn:Int)=u:=hu;have hjS:jn<S.length:=by omega
    obtain⟨y,hy⟩:∃y,S[jn]=y:=⟨_,rfl⟩
    have hym:y∈S:=by rw[<-hy];exact getElem_mem hjS
    have hgy:S.getD jn default=y:=by simp[List.getD,hjS,hy]
    have hyI:=hi y hym
    have cy:∀ms,Cell h3 ms (((AG vc).add (jn*3)).add 0) (.int .i64 y.c.id):=fun ms=>by
     have:Seg h3 ms ((AG vc).add (jn*3)) (cC y):=by rw[<-hy];exact((hQ.up l3).any (ms:=ms)).seg hjS
     exact this 0 _ rfl
    have hfy:(Bf (BQ F) y.c.id).getD 0=f y.c.id:=by rw[<-hf];rfl
    have hbar:LY f S L i=if f x.c.id<f y.c.id then [⟨x.c.dim,f x.c.id,f y.c.id,false,x.c.id,y.c.id⟩] else []:=by unfold LY;rw[hj];simp only[Int.toNat_natCast,hgx,hgy]
    have hQ3:=hQ.up l3;refine As (Qm rfl (Qm rfl (Qf FF rfl (Ql rfl Bs (a1 _) (Qm rfl (Qx (BS (jn) hQ3.rd.any rfl Bs AI rfl rfl) rfl (Qf Bz rfl (Ql rfl U3 (cy _) (Qf UM rfl ?_)))))))));refine AK 0 _ rfl Be rfl rfl (by rfl) rfl rfl (by(simp;done)) rfl rfl ?_;refine An (Bc 6 CP (by kernel_rfl) rfl (Wm rfl (Wm rfl (Wf Kl rfl (Wl rfl LV (a2 _) (Wf UM rfl (Wl rfl U3 (Cell.blk 0 rfl rfl) (AZ (Qx (show OX _ _ _ _ _ (.int .i64 (f y.c.id)) from Cb (V:=kN) (z:=(0:Int)) (u:=f y.c.id) y.c.id hfy Bi hO (AJ lA l3) rfl LV HZ rfl rfl hyI) rfl (Qf Il rfl ?_))))))))));refine AK 0 _ rfl Be rfl rfl (by rfl) rfl rfl (by(simp;done)) rfl rfl ?_;refine Aj (Ai (Ab (As (Qf Ij rfl (Ql rfl U4 (Cell.blk 0 rfl rfl) (Qm rfl (Qg (oF Ib rfl) rfl (Qg (oL rfl U3 (Cell.blk 0 rfl rfl)) rfl (Qg (oF Il rfl) rfl (Qg (oL rfl U3 (Cell.blk 0 rfl rfl)) rfl (Qg (Dv rfl rfl rfl) rfl (Qm rfl (An ?_)))))))))))));refine Au rfl (fun hbd=>?_) (fun hbd=>?_)
    ·refine Ad (Qm rfl (Qx (oG rfl Mo BW (Seg.blk 0 rfl)) rfl (Aq [_,_,_,_,_,_] rfl E0 BW rfl (by rfl) rfl rfl (by omega) rfl rfl rfl (fun g93=>?_))));refine AM 2 hB (RdL.one GR (x:=⟨x.c.dim,f x.c.id,f y.c.id,false,x.c.id,y.c.id⟩) Mh rfl) rfl E0 BW rfl (by omega) rfl rfl rfl FD (by simp;omega) (by simp;omega) rfl rfl rfl (fun vb2 mb2 hB2=>?_);refine Qm rfl (Aj (Ai (Ab (Ad (Qx (oA rfl) rfl (Qm rfl (Aj (AN (AN ?_)))))))));exact Ak (S.length-(i+1)) _ (by omega) ⟨i+1,vb2,mb2,rfl,rfl,AJ l2 l3,rfl,by omega,by rw[hf,Er,hbar,if_pos hbd];exact hB2⟩ Qs
    ·refine Ah (Ai (Ab (Ad (Qx (oA rfl) rfl (Qm rfl (Aj (AN ?_)))))));exact Ak (S.length-(i+1)) _ (by omega) ⟨i+1,vb,mb,rfl,rfl,AJ l2 l3,rfl,by omega,by rw[hf,Er,hbar,if_neg hbd,append_nil];exact hB⟩ Qs
   ·have hj:Bf (C5 L L.length) (i:Int)=none:=by
     rw[hb]at hbb;cases h:Bf (C5 L L.length) (i:Int) with
     | none=>rfl
     | some j=>rw[h]at hbb;cases hbb
    have hil2:i<L.length:=by omega
    have hL3:=hL.up l3;have cL:∀ms,Cell h3 ms ((AG vl).add (i*1)) (.int .i64 (L.getD i 0)):=fun ms=>by rw[show L.getD i 0=L[i] by simp[List.getD,hil2]];exact(hL3.any (ms:=ms)).cell0 hil2 rfl
    have hbar:LY f S L i=if L.getD i 0<0 then [⟨x.c.dim,f x.c.id,0,true,x.c.id,0⟩] else []:=by unfold LY;rw[hj];simp only[hgx]
    refine As (Qm rfl (Qm rfl (Qx (BS (i) hL3.rd.any rfl AY Be rfl rfl) rfl (Ql rfl U3 (cL _) (Qm rfl (Qm rfl (An ?_)))))));refine Au rfl (fun hneg=>?_) (fun hneg=>?_)
    ·refine Ad (Qf Ij rfl ?_);refine AK 0 _ rfl el4 rfl rfl (by rfl) rfl rfl (by(simp;done)) rfl rfl ?_;refine Aj (Ai (Ab (As (Qf Ij rfl (Ql rfl U4 (Cell.blk 0 rfl rfl) (Qm rfl (Qk rfl (Qk rfl (Qk rfl (Qk rfl (Qk rfl (Qm rfl (An (Bn rfl (Ad (Qm rfl (Qx (oG rfl Mo BW (Seg.blk 0 rfl)) rfl (Aq [_,_,_,_,_,_] rfl E0 BW rfl (by rfl) rfl rfl (by omega) rfl rfl rfl (fun g93=>?_)))))))))))))))))));refine AM 2 hB (RdL.one GR (x:=⟨x.c.dim,f x.c.id,0,true,x.c.id,0⟩) Mh rfl) rfl E0 BW rfl (by omega) rfl rfl rfl FD (by simp;omega) (by simp;omega) rfl rfl rfl (fun vb2 mb2 hB2=>?_);refine Qm rfl (Aj (Ai (Ab (Ad (Qx (oA rfl) rfl (Qm rfl (Aj (AN (AN ?_)))))))));exact Ak (S.length-(i+1)) _ (by omega) ⟨i+1,vb2,mb2,rfl,rfl,AJ l2 l3,rfl,by omega,by rw[hf,Er,hbar,if_pos hneg];exact hB2⟩ Qs
    ·refine Av (Gz rfl (Aa (Af (Ab (Ad (Qx (oA rfl) rfl (Qm rfl (Aj (AN ?_)))))))));exact Ak (S.length-(i+1)) _ (by omega) ⟨i+1,vb,mb,rfl,rfl,AJ l2 l3,rfl,by omega,by rw[hf,Er,hbar,if_neg hneg,append_nil];exact hB⟩ Qs
  ·obtain rfl:i=S.length:=by omega
   refine Av (Aa (Aa (Af (Ab (As (Qm rfl (Qm rfl (An (Am ?_)))))))));exact Ap rfl rfl (⟨AJ l1 l2,mb,rfl,hB⟩)
structure PersF(p:Int)(F:List (Int×Int))(l S:List Ce)(R V:Nat->List Int):Prop where
 perm:(S.map Ce.c).Perm (cn l)
 srt:WJ (Ed (BQ F)) S
 all:∃la,AllC p S S.length S.length R V la
noncomputable def Fy(S:List Ce)(R:Nat->List Int):List Int:=(range S.length).map fun k=>Bm (R k)
theorem K9(S:List Ce)(R:Nat->List Int):(Fy S R).length=S.length:=by unfold Fy;simp
theorem Lu(S:List Ce)(R:Nat->List Int){k:Nat}(h:k<S.length):(Fy S R).getD k 0=Bm (R k):=by unfold Fy;simp[List.getD,h]
theorem RedM.pers{p:Int}{F:List (Int×Int)}{l S:List Ce}{R V:Nat->List Int}{gm:Nat}{h:Hp}(M:RedM p F l S R V gm h):PersF p F l S R V:=by obtain⟨gA,mA,bs,vc,vr,vv,Rs,Vs,la,_,_,_,_,_,_,_,_,_,_,A⟩:=M.ex;exact⟨M.perm,M.srt,la,A⟩
theorem PersF.lt{p:Int}{F:List (Int×Int)}{l S:List Ce}{R V:Nat->List Int}(P:PersF p F l S R V):∀x∈Fy S R,x<S.length:=fun x hx=>by obtain⟨la,A⟩:=P.all;unfold Fy at hx;obtain⟨k,hk,rfl⟩:=List.mem_map.1 hx;have h1:=(KM (R k)).2;rw[A.red.rl k (List.mem_range.1 hk)]at h1;exact h1
theorem P7(l:List Ce)(F:List (Int×Int))(v vf:Value)(p:Int)(hp:Hp)(hK:RgC l)(hR:RdC hp v l)(hF:RdL cV 2 hp [] vf F)(hV:QI F)(hI:∀c,BD (Ed (BQ F) c))(h0:HM (cn l) F=(0,0))(hP:IsP p)(hl:l.length<=400):FnT Tryz.prog 15 #[.agg #[v],vf,.int .i64 p] hp [] (fun r h' ms'=>hp.le h'/\∃(S:List Ce) (R V:Nat->List Int) (vb:Value) (mb:Hp),r=.tuple #[vb,.int .i64 0]/\ms'=[mb]/\OwnL GH 6 43 mb vb (Gg (Ed (BQ F)) S (Fy S R) S.length)/\PersF p F l S R V):=by
 have o1:=hR.q.rd.one;have o2:=hF.rd.one;refine Ao func15 ntmps15 rfl rfl (fun w0 hw0=>?_);simp only[AU];refine As (AS [_] rfl rfl (by rfl) rfl rfl rfl (fun g3=>Qm rfl (Qm rfl (An (Aw fun h1 l1 hS=>?_)))));have hR:=hR.up l1;have hF:=hF.up l1;refine As (Qx (oG rfl Dt A6 (Seg.any hS)) rfl (Qm rfl (Qm rfl (Qc call51 rfl (T8 l F v vf p h1 hK hR hF hV h0 hP hl) (fun rB h2 ms2 l2 hB=>?_)))));obtain⟨l2',gm,S,R,V,vl,ml,rfl,rfl,hO,M⟩:=hB;have P:=M.pers;have hSn:S.length<=400:=by have:=P.perm.length_eq;rw[length_map,Ej]at this;omega
 have ovl:=hO.o1;refine Qm rfl (Qm rfl (Qm rfl (Qm rfl (Qm rfl (Qm rfl (Qm rfl (An (Ac (As (Qm rfl (Qm rfl (An (Au rfl (fun hc=>absurd hc (fun h=>h rfl)) (fun hc=>Ah (Ab (BN hO fun h3 l3 hL=>?_))))))))))))))))
 have hSi:∀a∈S,BD a.c.id:=fun a ha=>by have h1:a.c∈cn l:=P.perm.mem_iff.1 (List.mem_map.2 ⟨a,ha,rfl⟩);have h2:=hK.F.rgt.pos _ h1;have h3:=hK.ci h1;unfold BD;omega
 have M3:RedM p F l S R V gm h3:=by obtain⟨gA,mA,bs,vc,vr,vv,Rs,Vs,la,a1,a2,a3,a4,a5,a6,a7,a8,a9,a10,A⟩:=M.ex;exact⟨⟨gA,mA,bs,vc,vr,vv,Rs,Vs,la,a1.le l3,a2,AJ a3 l3,a4.up l3,a5.up l3,a6.up l3,a7,a8,fun k hk=>(a9 k hk).up l3,fun k hk=>(a10 k hk).up l3,A⟩,M.perm,M.srt,fun a ha=>(M.sds a ha).up l3⟩
 refine As (Qm rfl (Qm rfl (Qc call52 rfl (XD l S F R V (Fy S R) p gm vl h3 M3 hL hSn (K9 S R) P.lt hSi hI) (fun rC h4 ms4 l4 hB=>?_))));obtain⟨l4',mb,rfl,hOb⟩:=hB;have ovb:=hOb.o1;refine Qm rfl (Qm rfl (An (Am ?_)));exact BC rfl rfl rfl (⟨AJ l1 (AJ l2 (AJ l3 l4)),S,R,V,rC,mb,rfl,rfl,hOb,P⟩)
end Go.Proofs.Q

namespace Go.Proofs.Q
open Go.Proofs.Tryz
open Go.Eng Go.RowKit Go.Lin
def JJ(rows cols:Int):Prop:=0<=rows/\0<=cols/\rows<=400/\cols<=400
instance (r c:Int):Decidable (JJ r c):=by unfold JJ;infer_instance
theorem UD(p r c:Int)(h:Hp)(hI:BD p):FnT Tryz.prog 185 #[.int .i64 p,.int .i64 r,.int .i64 c] h [] (fun x _ _=>x=.bool (decide (IsP p/\JJ r c))):=by
 refine Ao func185 ntmps185 rfl rfl (fun w0 hw0=>?_);simp only[AU];refine As (Qm rfl (Bv (Qm rfl (Qx (AF rfl call54 rfl (NA _ _ hI _)) rfl (Qm rfl ?_)))));refine AO (t:=9) rfl (fun hs=>?_) (fun hs=>?_)
 ·refine Qg (Ay rfl rfl) rfl (Qg (Ay rfl rfl) rfl (Qg (V1 rfl rfl rfl) rfl (Qg (Ky rfl rfl rfl) rfl (Qm rfl (Qm rfl ?_)))));refine AO (t:=15) rfl (fun hs2=>?_) (fun hs2=>?_)
  ·refine Qg (Ay rfl rfl) rfl (Qg (Ay rfl rfl) rfl (Qg (GG rfl rfl rfl) rfl (Qg (LA rfl rfl rfl) rfl (Qm rfl (Qm rfl (An (Am ?_)))))));exact Ap rfl rfl (by unfold JJ;congr 1;rw[decide_eq_decide];simp only[hs,true_and];omega)
  ·refine Qk rfl (Qk rfl (Qk rfl (Qk rfl (Qm rfl (Qm rfl (An (Am ?_)))))));exact Ap rfl rfl (by unfold JJ;rw[decide_eq_false];rintro⟨_,h1⟩;omega)
 ·refine Qk rfl (Qk rfl (Qk rfl (Qk rfl (Qm rfl (Qm rfl (Qk rfl (Qk rfl (Qk rfl (Qk rfl (Qm rfl (Qm rfl (An (Am ?_)))))))))))));exact Ap rfl rfl (by rw[decide_eq_false];exact fun h=>hs h.1)
theorem WT(p r c:Int)(h:Hp)(hI:BD p)(ms:List Hp):FnV Tryz.prog 185 #[.int .i64 p,.int .i64 r,.int .i64 c] h ms (.bool (decide (IsP p/\JJ r c))):=by refine fun w hw=>(?_:FnV _ _ _ h [] _) w (hw.weaken (CY) (List.nil_sublist _));exact FnT.toV (UD p r c h hI)
variable {l:List Int}
def Z2(l:List Int)(p:Int->Bool):Int:=match l.findIdx? p with|some i=>i|none=>-1
theorem Up{p:Int->Bool}{k:Nat}(hk:k<l.length)(hp:p l[k]=true)(hn:∀j (hj:j<k),p (l[j]'(by omega))=false):Z2 l p=k:=by
 unfold Z2
 have:l.findIdx? p=some k:=by rw[List.findIdx?_eq_some_iff_getElem];exact⟨hk,hp,fun j hj=>by simp[hn j hj]⟩
 rw[this]
theorem V7{p:Int->Bool}(hn:∀j (hj:j<l.length),p l[j]=false):Z2 l p=-1:=by
 unfold Z2
 have:l.findIdx? p=none:=by rw[List.findIdx?_eq_none_iff];intro x hx;obtain⟨j,hj,rfl⟩:=List.mem_iff_getElem.1 hx;exact hn j hj
 rw[this]
theorem XL(l:List Int)(p:Int->Bool):decide (0<=Z2 l p)=l.any p:=by
 unfold Z2;cases h:l.findIdx? p with
 | none=>rw[List.findIdx?_eq_none_iff]at h;simp;exact h
 | some i=>
  rw[List.findIdx?_eq_some_iff_getElem]at h;obtain⟨h1,h2,_⟩:=h;simp;exact⟨_,getElem_mem h1,h2⟩
theorem NP(l:List Int)(vl:Value)(cf:FuncId)(cs:List Value)(p:Int->Bool)(h:Hp)(hR:RdL cI 1 h [] vl l)
  (hc:∀xs w,(callFunc cf xs).run Tryz.prog w=.ok (.enter cf xs) w)
  (hp:∀b∈l,∀ms,FnV Tryz.prog cf ([]++[Value.int .i64 b]++cs).toArray h ms (.bool (p b))) :
  FnT Tryz.prog 269 #[vl,.func (.func cf) #[] cs.toArray] h [] (fun r _ _=>r=.int .i64 (Z2 l p)):=by
 have hl:=hR.len_le;refine Ao func269 ntmps269 rfl rfl (fun w0 hw0=>?_);simp only[AU];refine As (Qm rfl (An (Ac (As (Qm rfl (Qx (Ar hR.rd.any rfl AY rfl) rfl (Qm rfl (An (Ae ?_)))))))))
 refine Az (fun n s h' ms'=>∃(k:Nat),n=l.length-k/\s=[(0,vl),(1,.func (.func cf) #[] cs.toArray),(7,.int .i64 l.length),(8,.int .i64 k)]/\h=h'/\ms'=[]/\k<=l.length/\∀j (hj:j<l.length),j<k->p l[j]=false)
  (l.length-0) _ ⟨0,rfl,rfl,rfl,rfl,by omega,fun j hj h=>by omega⟩ Qs ?_
 rintro n s h' ms' ⟨k,rfl,rfl,rfl,rfl,hk,hno⟩;refine As (Qm rfl (An (Ac ?_)));refine Au rfl (fun hlt=>?_) (fun hlt=>?_)
 ·have hlt':k<l.length:=by omega
  refine Ah (Ab (Ac (Ae (As (Qm rfl (Qm rfl (Bv (Qm rfl (Qm rfl (Qm rfl (Qx (AC _ hR.rd.any rfl AY Be rfl rfl rfl (by omega)) rfl (Ql rfl U3 (hR.any.cell0 hlt' rfl) (Qx (BX rfl rfl hc rfl (hp _ (getElem_mem hlt') _)) rfl (An ?_))))))))))))));refine Bq rfl (fun hpk=>?_) (fun hpk=>?_)
  ·refine Ac (Ad (Qm rfl (Qm rfl (An (Am (Al (Ag (Ag (Al (Ag ?_))))))))));exact Ap rfl rfl (by rw[Up hlt' hpk fun j hj=>hno j _ hj])
  ·refine Ah (Ai (Ab (Ad (Qx (oA rfl) rfl (Qm rfl (Aj ?_))))));refine Ak (l.length-(k+1)) _ (by omega) ⟨k+1,rfl,rfl,rfl,rfl,by omega,fun j hj h1=>?_⟩ Qs;rcases (by omega:j<k\/j=k) with h2|rfl
   ·exact hno j hj h2
   ·exact hpk
 ·refine Av (Aa (Aa (Af (Ab (As (Qm rfl (An (Am ?_))))))));exact Ap rfl rfl (by rw[V7 fun j hj=>hno j hj (by omega)])
theorem J8(l:List Int)(vl:Value)(cf:FuncId)(cs:List Value)(p:Int->Bool)(h:Hp)(hR:RdL cI 1 h [] vl l)
  (hc:∀xs w,(callFunc cf xs).run Tryz.prog w=.ok (.enter cf xs) w)
  (hp:∀b∈l,∀ms,FnV Tryz.prog cf ([]++[Value.int .i64 b]++cs).toArray h ms (.bool (p b))) :
  FnT Tryz.prog 220 #[vl,.func (.func cf) #[] cs.toArray] h [] (fun r _ _=>r=.bool (l.any p)):=by
 refine Ao func220 ntmps220 rfl rfl (fun w0 hw0=>?_);simp only[AU];refine As (Qm rfl (Bv (Qm rfl (Qm rfl (Qx (AF rfl call269 rfl (F6 (NP l vl cf cs p h hR hc hp) _)) rfl (Qm rfl (Qm rfl (An (Am ?_)))))))));exact Ap rfl rfl (by rw[<-XL])
structure FM where
 p:Int
 rows:Int
 cols:Int
 e:List Int
def FM.nil:FM:=⟨0,0,0,[]⟩
def FM.Rt(M:FM):Prop:=IsP M.p/\JJ M.rows M.cols/\(M.e.length:Int)=M.rows*M.cols/\∀x∈M.e,0<=x/\x<M.p
instance (M:FM):Decidable M.Rt:=by unfold FM.Rt;infer_instance
structure FM.Ok(M:FM):Prop where
 p:BD M.p
 r:BD M.rows
 c:BD M.cols
def cM(M:FM)(ev:Value):List Value:=[.int .i64 M.p,.int .i64 M.rows,.int .i64 M.cols,ev]
theorem SJ(g:Nat)(n p:Int)(h:Hp)(hD:∀ms,Cell h ms ⟨g,0,none⟩ (.int .i64 p))(ms:List Hp):FnV Tryz.prog 221 ([]++[Value.int .i64 n]++[Value.pointer (some ⟨g,0,none⟩)]).toArray h ms (.bool (decide (n<0\/p<=n))):=by
 refine F6 ?_ ms;show FnT _ _ #[.int .i64 n,.pointer (some ⟨g,0,none⟩)] _ _ _;refine Ao func221 ntmps221 rfl rfl (fun w0 hw0=>?_);simp only[AU];refine As (Qm rfl (Bv (Qm rfl (Qm rfl (Qm rfl ?_)))));refine AO (t:=6) rfl (fun hs=>?_) (fun hs=>?_)
 ·refine Qk rfl (Qk rfl (Qk rfl (Qk rfl (Qm rfl (Qm rfl (An (Am ?_)))))));exact Ap rfl rfl (by rw[decide_eq_true];exact .inl hs)
 ·refine Qg (Ay rfl rfl) rfl (Qg (oF FU rfl) rfl (Qg (oL rfl U3 (hD _)) rfl (Qg (Ky rfl rfl rfl) rfl (Qm rfl (Qm rfl (An (Am ?_)))))));exact Ap rfl rfl (by congr 1;rw[decide_eq_decide];omega)
theorem Xs{p:Int}:(!l.any fun n=>decide (n<0\/p<=n))=decide (∀x∈l,0<=x/\x<p):=by rw[Bool.eq_iff_iff];simp only[Bool.not_eq_true',List.any_eq_false,decide_eq_true_eq];exact⟨fun h x hx=>by have:=h x hx;omega,fun h x hx=>by have:=h x hx;omega⟩
theorem Oh{r c:Int}(hF:JJ r c):0<=r*c/\r*c<=160000:=by obtain⟨h1,h2,h3,h4⟩:=hF;refine⟨Int.mul_nonneg h1 h2,?_⟩;have:=Int.mul_le_mul h3 h4 h2 (by omega:(0:Int)<=400);omega
theorem Wt(M:FM)(ev:Value)(h:Hp)(hO:M.Ok)(hR:RdL cI 1 h [] ev M.e):FnT Tryz.prog 183 #[.agg #[.int .i64 M.p,.int .i64 M.rows,.int .i64 M.cols,ev]] h [] (fun r _ _=>r=.bool (decide M.Rt)):=by
 have hl:=hR.len_le;refine Ao func183 ntmps183 rfl rfl (fun w0 hw0=>?_);simp only[AU];refine As (AS [_,_,_,_] rfl rfl (by rfl) rfl rfl rfl (fun g1=>Qm rfl (Bv (Qf FU rfl (Ql rfl U3 (Cell.blk 0 rfl rfl) (Qf No rfl (Ql rfl U3 (Cell.blk 0 rfl rfl) (Qf KL rfl (Ql rfl U3 (Cell.blk 0 rfl rfl) (Qx (AF rfl call185 rfl (WT _ _ _ _ hO.p _)) rfl (Qm rfl ?_)))))))))));refine AO (t:=10) rfl (fun hf=>?_) (fun hf=>?_)
 ·have hm:=Oh hf.2;refine Qg (oF Ia rfl) rfl (Qg (oL rfl AY (Cell.blk 0 rfl rfl)) rfl (Qg (Ar hR.rd.any rfl AY rfl) rfl (Qg (oF No rfl) rfl (Qg (oL rfl U3 (Cell.blk 0 rfl rfl)) rfl (Qg (oF KL rfl) rfl (Qg (oL rfl U3 (Cell.blk 0 rfl rfl)) rfl (Qg (oM rfl) rfl (Qg (DH rfl rfl rfl) rfl (Qm rfl (Qm rfl ?_))))))))));refine AO (t:=21) rfl (fun he=>?_) (fun he=>?_)
  ·refine Qg (oF Ia rfl) rfl (Qg (oL rfl AY (Cell.blk 0 rfl rfl)) rfl (BA fun h' hle hS=>?_));have hR:=hR.up hle;have hD:∀i v,(cM M ev)[i]?=some v->∀ms,Cell h' ms ((⟨g1,0,none⟩:Addr).add i) v:=fun i v hv ms=>(hS i v hv).any;have hD0:∀ms,Cell h' ms ⟨g1,0,none⟩ (.int .i64 M.p):=fun ms=>hD 0 _ rfl ms;refine Qg (Bk rfl rfl rfl) rfl (Qg (AF rfl call220 rfl (F6 (J8 M.e ev 221 [.pointer (some ⟨g1,0,none⟩)] (fun n=>decide (n<0\/M.p<=n)) h' hR call221 (fun b _ ms=>SJ g1 b M.p h' hD0 ms)) _)) rfl (Qg (Es rfl rfl) rfl (Qm rfl (Qm rfl (An (Am ?_))))));exact Ap rfl rfl (by rw[Xs];congr 1;rw[decide_eq_decide];unfold FM.Rt;exact⟨fun hx=>⟨hf.1,hf.2,he,hx⟩,fun hx=>hx.2.2.2⟩)
  ·refine Qk rfl (Qk rfl (Qk rfl (Qk rfl (Qk rfl (Qm rfl (Qm rfl (An (Am ?_))))))));exact Ap rfl rfl (by rw[decide_eq_false];exact fun hx=>he hx.2.2.1)
 ·refine Qk rfl (Qk rfl (Qk rfl (Qk rfl (Qk rfl (Qk rfl (Qk rfl (Qk rfl (Qk rfl (Qm rfl (Qm rfl (Qk rfl (Qk rfl (Qk rfl (Qk rfl (Qk rfl (Qm rfl (Qm rfl (An (Am ?_)))))))))))))))))));exact Ap rfl rfl (by rw[decide_eq_false];exact fun hx=>hf ⟨hx.1,hx.2.1⟩)
end Go.Proofs.Q

namespace Go.Proofs.Q
open Go.Proofs.Tryz
open Go.Eng Go.RowKit Go.Lin
def mkZ(p r c:Int):FM:=if IsP p/\JJ r c then⟨p,r,c,replicate (r*c).toNat 0⟩ else FM.nil
def mkM(p:Int)(r c:Nat)(f:Nat->Nat->Int):FM:=⟨p,r,c,DR r c f⟩
def Y6(r:Value)(ms:List Hp)(M:FM):Prop:=∃ev m,ms=[m]/\r=.agg #[.int .i64 M.p,.int .i64 M.rows,.int .i64 M.cols,ev]/\OwnL cI 1 3 m ev M.e
theorem Yh(p r c:Int)(h:Hp)(hI:BD p):FnT Tryz.prog 125 #[.int .i64 p,.int .i64 r,.int .i64 c] h [] (fun v h' ms'=>h=h'/\Y6 v ms' (mkZ p r c)):=by
 refine Ao func125 ntmps125 rfl rfl (fun w0 hw0=>?_);simp only[AU];refine As (CC [.int .i64 0,.int .i64 0,.int .i64 0,.slice none 0 0] rfl EK rfl rfl (fun g6=>An (Ac (As (Qm rfl (Qm rfl (Qm rfl (Qx (AF rfl call185 rfl (WT _ _ _ _ hI _)) rfl (Qm rfl (An ?_))))))))));refine Bq rfl (fun hf=>?_) (fun hf=>?_)
 ·have hf:¬(IsP p/\JJ r c):=of_decide_eq_false (by simpa only [Bool.not_eq_true'] using hf);refine As (Qx (A0 Abh [.int .i64 0,.int .i64 0,.int .i64 0,.slice none 0 0] [] [_,_,_,_] rfl EK rfl rfl Qt rfl) rfl ?_);refine Sa 0 [_,_,_,_] EK rfl (by simp[Value.oneCell']) ?_;refine An (Am (Ag (G1 ?_)));exact BU (vs:=[_,_,_,_]) 1 rfl rfl UZ rfl EK rfl rfl (⟨rfl,_,_,rfl,by unfold mkZ;rw[if_neg hf];rfl,by unfold mkZ;rw[if_neg hf];exact OwnL.nil AV⟩)
 ·have hf:IsP p/\JJ r c:=of_decide_eq_true (by simpa only [Bool.not_eq_false'] using hf);have hm:=Oh hf.2;obtain⟨n,hn⟩:∃n:Nat,r*c=n:=⟨(r*c).toNat,by omega⟩
  refine Ah (Ab (As (Qm rfl (Qm rfl (Qm rfl (Qm rfl (Qm rfl (Qx (oM rfl) rfl (CM (n:=n) rfl AY Be rfl rfl rfl (by omega) (by omega) (by omega) (by omega) rfl rfl rfl (fun g19=>Qx (A0 Abh [.int .i64 0,.int .i64 0,.int .i64 0,.slice none 0 0] [(0,_),(1,_),(2,_),(3,_)] [_,_,_,_] rfl EK rfl rfl Qt rfl) rfl ?_))))))))));refine Sa 1 [_,_,_,_] EK rfl (by simp[Value.oneCell']) ?_;refine An (Am ?_);exact BU (vs:=[_,_,_,_]) 1 rfl rfl UZ rfl EK rfl rfl (⟨rfl,_,_,rfl,by unfold mkZ;rw[if_pos hf],by unfold mkZ;rw[if_pos hf,hn];exact OwnL.rep n 0 (by omega)⟩)
variable {p:Int} {r c:Nat} {f:Nat->Nat->Int}
def InP(p:Int)(r c:Nat)(f:Nat->Nat->Int):Prop:=∀i,i<r->∀j,j<c->0<=f i j/\f i j<p
structure RtM(p:Int)(r c:Nat)(f:Nat->Nat->Int):Prop where
 pr:IsP p
 rl:r<=400
 cl:c<=400
 en:InP p r c f
theorem RtM.bd(R:RtM p r c f):2<=p/\p<=997:=⟨R.pr.1,R.pr.2.1⟩
theorem RtM.i64(R:RtM p r c f):BD p:=⟨by have:=R.bd;omega,by have:=R.bd;omega⟩
theorem RtM.ok(R:RtM p r c f):(mkM p r c f).Ok:=⟨R.i64,⟨by have:=R.rl;show _<=(r:Int);omega,by have:=R.rl;show(r:Int)<=_;omega⟩,⟨by have:=R.cl;show _<=(c:Int);omega,by have:=R.cl;show(c:Int)<=_;omega⟩⟩
theorem RtM.rt(R:RtM p r c f):(mkM p r c f).Rt:=by have h1:=R.rl;have h2:=R.cl;refine⟨R.pr,by unfold JJ mkM;simp only;omega,by simp[mkM,DS],fun x hx=>?_⟩;obtain⟨i,j,hi,hj,rfl⟩:=mem_mat.1 hx;exact R.en i hi j hj
theorem Y3{ev:Value}{h:Hp}(R:RtM p r c f)(hR:RdL cI 1 h [] ev (DR r c f))(ms:List Hp):FnV Tryz.prog 183 #[.agg #[.int .i64 p,.int .i64 r,.int .i64 c,ev]] h ms (.bool true):=by have:=F6 (Wt (mkM p r c f) ev h R.ok hR) ms;rw[decide_eq_true R.rt]at this;exact this
end Go.Proofs.Q

namespace Go.Proofs.Q
open Go.Proofs.Tryz
open Go.Eng Go.RowKit Go.Lin
def cR(p:Int)(r c:Nat)(ev:Value)(ov:List Value):List Value:=.int .i64 p::.int .i64 r::.int .i64 c::ev::ov
abbrev BR(g:Nat)(p:Int)(r c:Nat)(ev:Value)(ov:List Value):Hp:=A7 g 255 (cR p r c ev ov)
theorem JR(g:Nat)(p:Int)(r c:Nat)(f:Nat->Nat->Int)(ev:Value)(ov:List Value)(i:Nat)(h:Hp)(hS:Seg h [] ⟨g,0,none⟩ (cR p r c ev ov))(hR:RdL cI 1 h [] ev (DR r c f))(hi:i<r)(hr:r<=400)(hc:c<=800) :
  FnV Tryz.prog 223 #[.pointer (some ⟨g,0,none⟩),.int .i64 i] h [] (Cu 1 ev (i*c) ((i+1)*c)):=by
 refine FnT.toV ?_;have hA:=Seg.all hS;have hA0:=hA 0 _ rfl;have e1:(i+1)*c=i*c+c:=by rw[Nat.add_mul,Nat.one_mul]
 have b1:(i+1)*c<=r*c:=Nat.mul_le_mul_right c hi;have b2:r*c<=400*800:=Nat.mul_le_mul hr hc;have el:(DR r c f).length=r*c:=DS _ _ _;have e3:((i:Int)+1)*c=i*c+c:=by rw[Int.add_mul,Int.one_mul]
 have hz:∀a:Addr,(a.add 0).add 3=a.add 3:=fun a=>by rw[BZ]
 refine Ao func223 ntmps223 rfl rfl (fun w0 hw0=>?_);simp only[AU];refine As (Qm rfl (An (Ac (BF (n:=22) (bs:=[true,true,true,true,true,true,true,true,true,true,true,true,true,true,true,true,true,true,true,true,true,false]) [true,true,true,true,true,true,true,true,true,true,true,true,true,true,true,true,true,true,true,true,true] CP (by kernel_rfl) (by kernel_rfl) rfl rfl (Qq rfl (Qq rfl (QF FI rfl (QF Ia rfl (QL rfl AY (hA _ _ rfl _) (Qq rfl (Qq rfl (Qq rfl (QF FI rfl (QF KL rfl (QL rfl U3 (hA _ _ rfl _) (Qp rfl (oM rfl) (Qq rfl (Qp rfl (oA rfl) (Qq rfl (Qq rfl (QF FI rfl (QF KL rfl (QL rfl U3 (hA _ _ rfl _) (Qp rfl (oM rfl) (Qp rfl (Ng (i*c) ((i+1)*c) hR.rd.any rfl AY Be rfl rfl rfl (by omega) (by omega) (by omega) (by omega)) ?_)))))))))))))))))))))))));unfold FN;simp only[cons_append,nil_append];refine Qo 21 rfl (Qm rfl (Qw (Qe (Ab (Am ?_)))));exact Ap rfl rfl (rfl)
def turn(f:Nat->Nat->Int)(i:Nat)(G:Nat->Int)(k a b:Nat):Int:=if a=i/\b<k then G b else f a b
theorem turn_zero(f:Nat->Nat->Int)(i:Nat)(G:Nat->Int)(a b:Nat):turn f i G 0 a b=f a b:=if_neg (by omega)
theorem turn_at(f:Nat->Nat->Int)(i:Nat)(G:Nat->Int)(k:Nat):turn f i G k i k=f i k:=if_neg (by omega)
theorem turn_ne(f:Nat->Nat->Int)(i:Nat)(G:Nat->Int)(k a b:Nat)(h:a≠i):turn f i G k a b=f a b:=if_neg (by omega)
theorem turn_step(f:Nat->Nat->Int)(i:Nat)(G:Nat->Int)(k a b:Nat):Lr (turn f i G k) i k (G k) a b=turn f i G (k+1) a b:=by
 unfold Lr turn;by_cases h:a=i/\b=k
 ·rw[if_pos h,if_pos (by omega),h.2]
 ·rw[if_neg h];by_cases h2:a=i/\b<k
  ·rw[if_pos h2,if_pos (by omega)]
  ·rw[if_neg h2,if_neg (by omega)]
theorem turn_all(f:Nat->Nat->Int)(i:Nat)(G:Nat->Int)(c a b:Nat)(hb:b<c):turn f i G c a b=if a=i then G b else f a b:=by
 unfold turn;by_cases h:a=i
 ·rw[if_pos ⟨h,hb⟩,if_pos h]
 ·rw[if_neg (fun x=>h x.1),if_neg h]
theorem Oo(r c:Nat)(f:Nat->Nat->Int)(i:Nat)(G:Nat->Int)(ev:Value)(m:Hp)(cf:FuncId)(fs:List Value)(h:Hp)(hO:OwnL cI 1 3 m ev (DR r c f))(hi:i<r)(hr:r<=400)(hc:c<=800)
  (hcf:∀xs w,(callFunc cf xs).run Tryz.prog w=.ok (.enter cf xs) w)
  (hG:∀k,k<c->∀m',OwnL cI 1 3 m' ev (DR r c (turn f i G k))->FnV Tryz.prog cf (fs++[Value.int .i64 k,Value.int .i64 (f i k)]++[]).toArray h [m'] (.int .i64 (G k))) :
  FnT Tryz.prog 225 #[Cu 1 ev (i*c) ((i+1)*c),.func (.func cf) fs.toArray #[]] h [m] (fun x h' ms'=>h=h'/\∃m',ms'=[m']/\OwnL cI 1 3 m' ev (DR r c fun a b=>if a=i then G b else f a b)):=by
 have ec:=CI c (f i);refine Ao func225 ntmps225 rfl rfl (fun w0 hw0=>?_);simp only[AU];refine As (Qm rfl (Qx (Ar ((hO.rd (h:=h) (ms:=[m]) Mh).row hi).rd rfl AY rfl) rfl (Qm rfl (An (Ae ?_)))))
 refine Az (fun q s h' ms'=>∃(k:Nat) (m:Hp),q=c-k/\s=[(0,Cu 1 ev (i*c) ((i+1)*c)),(1,.func (.func cf) fs.toArray #[]),(6,Cu 1 ev (i*c) ((i+1)*c)),(7,.int .i64 ((G2 c (f i)).length:Nat)),(8,.int .i64 k)]/\h=h'/\ms'=[m]/\k<=c/\OwnL cI 1 3 m ev (DR r c (turn f i G k)))
  (c-0) _ ⟨0,m,rfl,rfl,rfl,rfl,by omega,by rw[Ca (fun a _ b _=>turn_zero f i G a b)];exact hO⟩ Qs ?_
 rintro q s h' ms' ⟨k,m,rfl,rfl,rfl,rfl,hk,hO⟩;refine As (Qm rfl (An (Ac ?_)));refine Au rfl (fun hlt=>?_) (fun hlt=>?_)
 ·have hkc:k<c:=by omega
  have ek:=CI c (turn f i G k i)
  have hcell:Cell h [m] ((AG (Cu 1 ev (i*c) ((i+1)*c))).add (k*1)) (.int .i64 (f i k)):=by have:=((hO.rd (h:=h) (ms:=[m]) Mh).row hi).ev hkc;rw[turn_at]at this;exact this
  refine Ah (Ab (Ac (Ae (As (Qm rfl (Qx (AC _ ((hO.rd (h:=h) (ms:=[m]) Mh).row hi).rd rfl AY Be rfl rfl rfl (by omega)) rfl (Ql rfl U3 (hcell) (Qm rfl (Qm rfl (Gh (Qm rfl (Qm rfl (Qm rfl (Qm rfl (Qm rfl (Qx (BX (cs:=[]) rfl rfl hcf rfl (hG k hkc m hO)) rfl (Qx (AC _ ((hO.rd (h:=h) (ms:=[m]) Mh).row hi).rd rfl AY Be rfl rfl rfl (by omega)) rfl (Gp 0 i k hO hi hkc rfl Be rfl rfl rfl rfl rfl (fun m' hO'=>Aj (Ai (Ab (Ad (Qx (oA rfl) rfl (Qm rfl (Aj ?_)))))))))))))))))))))))));refine Ak (c-(k+1)) _ (by omega) ⟨k+1,m',rfl,rfl,rfl,rfl,by omega,by rw[Ca (fun a _ b _=>turn_step f i G k a b)]at hO';exact hO'⟩ Qs
 ·refine Av (Aa (Aa (Af ?_)));obtain rfl:k=c:=by omega
  exact BT rfl (⟨rfl,m,rfl,by rw[Ca (fun a _ b hb=>turn_all f i G k a b hb)]at hO;exact hO⟩)
def swp(f:Nat->Nat->Int)(i j k a b:Nat):Int:=if b<k then f (HD i j a) b else f a b
theorem Py(f:Nat->Nat->Int)(i j k a b:Nat):Lr (Lr (swp f i j k) i k (f j k)) j k (f i k) a b=swp f i j (k+1) a b:=by
 unfold Lr swp HD;by_cases h1:a=j/\b=k
 ·obtain⟨rfl,rfl⟩:=h1;rw[if_pos ⟨rfl,rfl⟩,if_pos (by omega)];by_cases h2:a=i
  ·subst h2;rw[if_pos rfl]
  ·rw[if_neg h2,if_pos rfl]
 ·rw[if_neg h1];by_cases h2:a=i/\b=k
  ·obtain⟨rfl,rfl⟩:=h2;rw[if_pos ⟨rfl,rfl⟩,if_pos (by omega),if_pos rfl]
  ·rw[if_neg h2];by_cases h3:b<k
   ·simp only[h3,show b<k+1 by omega,if_true]
   ·by_cases h4:b<k+1
    ·have hbk:b=k:=by omega
     have hai:¬a=i:=fun e=>h2 ⟨e,hbk⟩;have haj:¬a=j:=fun e=>h1 ⟨e,hbk⟩;simp only[h3,h4,hai,haj,if_true,if_false]
    ·simp only[h3,h4,if_false]
theorem Zz(f:Nat->Nat->Int)(i j k a:Nat):swp f i j k a k=f a k:=if_neg (by omega)
theorem VN(f:Nat->Nat->Int)(i j a b:Nat):swp f i j 0 a b=f a b:=if_neg (by omega)
theorem X4(f:Nat->Nat->Int)(i j c a b:Nat)(hb:b<c):swp f i j c a b=f (HD i j a) b:=if_pos hb
theorem Ya(g:Nat)(p:Int)(r c:Nat)(f:Nat->Nat->Int)(ev:Value)(ov:List Value)(m:Hp)(i j:Nat)(h:Hp)(hO:OwnL cI 1 3 m ev (DR r c f))(hi:i<r)(hj:j<r)(hr:r<=400)(hc:c<=800) :
  FnT Tryz.prog 224 #[.pointer (some ⟨g,0,none⟩),.int .i64 i,.int .i64 j] h [BR g p r c ev ov,m] (fun x h' ms'=>h=h'/\∃m',ms'=[BR g p r c ev ov,m']/\OwnL cI 1 3 m' ev (DR r c fun a b=>f (HD i j a) b)):=by
 have hRi:=(hO.rd (h:=h) (ms:=[m]) Mh).row hi;have ec:=CI c (f i);refine Ao func224 ntmps224 rfl rfl (fun w0 hw0=>?_);simp only[AU];refine As (Qm rfl (Qm rfl (Qx (AF rfl call223 rfl (CB fun h' hl hm=>JR g p r c f ev ov _ h' (Seg.ofLe (hm _ Mh)) (hO.rdh (hm _ (List.Mem.tail _ Mh))) (by assumption) hr hc)) rfl (Qm rfl (Qm rfl (Qx (AF rfl call223 rfl (CB fun h' hl hm=>JR g p r c f ev ov _ h' (Seg.ofLe (hm _ Mh)) (hO.rdh (hm _ (List.Mem.tail _ Mh))) (by assumption) hr hc)) rfl (Qm rfl (Qm rfl (Bv (Qm rfl (Qx (FC hRi.rd rfl AY rfl) rfl (Qm rfl (An (Ae ?_))))))))))))))
 refine Az (fun q s h' ms'=>∃(k:Nat) (m:Hp),q=c-k/\s=[(6,Cu 1 ev (i*c) ((i+1)*c)),(7,Cu 1 ev (j*c) ((j+1)*c)),(16,.int .i64 ((G2 c (f i)).length:Nat)),(17,.int .i64 k)]/\h=h'/\ms'=[BR g p r c ev ov,m]/\k<=c/\OwnL cI 1 3 m ev (DR r c (swp f i j k)))
  (c-0) _ ⟨0,m,rfl,rfl,rfl,rfl,by omega,by rw[Ca (fun a _ b _=>VN f i j a b)];exact hO⟩ Qs ?_
 rintro q s h' ms' ⟨k,m,rfl,rfl,rfl,rfl,hk,hO⟩;have eci:=CI c (swp f i j k i);have ecj:=CI c (swp f i j k j);refine As (Qm rfl (An (Ac ?_)));refine Au rfl (fun hlt=>?_) (fun hlt=>?_)
 ·have hkc:k<c:=by omega
  have hR2:=fun i hi=>(hO.rd (h:=h) (ms:=[BR g p r c ev ov,m]) (List.Mem.tail _ Mh)).row (i:=i) hi
  have hcell:∀i (hi:i<r),Cell h [BR g p r c ev ov,m] ((AG (Cu 1 ev (i*c) ((i+1)*c))).add (k*1)) (.int .i64 (f i k)):=fun i hi=>by have:=(hR2 i hi).ev hkc;rw[Zz]at this;exact this
  refine Ah (Ab ?_);refine A3 (fun s h' ms'=>∃(m:Hp),s=[(6,Cu 1 ev (i*c) ((i+1)*c)),(7,Cu 1 ev (j*c) ((j+1)*c)),(16,.int .i64 ((G2 c (f i)).length:Nat)),(17,.int .i64 k)]/\h=h'/\ms'=[BR g p r c ev ov,m]/\OwnL cI 1 3 m ev (DR r c (swp f i j (k+1)))) ?_ (fun s h ms hI=>?_)
  ·refine Ae (As (Qm rfl (Qm rfl (An (BF (n:=16) (bs:=[true,true,true,true,true,true,true,false,true,true,true,false,true,false,true,false]) [true,true,true,true,true,true,true,false,true,true,true,false,true,false,true] CP (by kernel_rfl) (by kernel_rfl) rfl rfl (Qq rfl (Qq rfl (Qq rfl (Qq rfl (Qq rfl (Qq rfl (Qp rfl (BG _ (hR2 j hj).rd rfl AY Be rfl rfl rfl (by omega)) (Qq rfl (Qq rfl (Qp rfl (BG _ (hR2 i hi).rd rfl AY Be rfl rfl rfl (by omega)) (Qp rfl (BG _ (hR2 i hi).rd rfl AY Be rfl rfl rfl (by omega)) (Qp rfl (BG _ (hR2 j hj).rd rfl AY Be rfl rfl rfl (by omega)) ?_)))))))))))))))));unfold FN;simp only[cons_append,nil_append];refine Ba [7,11] (by kernel_rfl) rfl ?_;refine AD rfl ?_ ?_
   ·refine Ql rfl U3 (hcell j hj) (Qw (Qo 11 rfl (Ql rfl U3 (hcell i hi) (Qw (Qo 13 rfl (Gp 1 i k hO hi hkc rfl Be rfl rfl rfl rfl rfl (fun m1 hO1=>Qw (Qo 15 rfl (Gp 1 j k hO1 hj hkc rfl Be rfl rfl rfl rfl rfl (fun m2 hO2=>Qw (Qe (Ai ?_))))))))))));refine AA _ ⟨m2,rfl,rfl,rfl,by rw[Ca (fun a _ b _=>Py f i j k a b)]at hO2;exact hO2⟩ Qs
   refine AD rfl ?_ ?_
   ·refine Ql rfl U3 (hcell i hi) (Qw (Qo 7 rfl (Ql rfl U3 (hcell j hj) (Qw (Qo 13 rfl (Gp 1 i k hO hi hkc rfl Be rfl rfl rfl rfl rfl (fun m1 hO1=>Qw (Qo 15 rfl (Gp 1 j k hO1 hj hkc rfl Be rfl rfl rfl rfl rfl (fun m2 hO2=>Qw (Qe (Ai ?_))))))))))));refine AA _ ⟨m2,rfl,rfl,rfl,by rw[Ca (fun a _ b _=>Py f i j k a b)]at hO2;exact hO2⟩ Qs
   exact Bb
  obtain⟨m,rfl,rfl,rfl,hO⟩:=hI
  ·refine Ad (Qx (oA rfl) rfl (Qm rfl (Aj ?_)));refine Ak (c-(k+1)) _ (by omega) ⟨k+1,m,rfl,rfl,rfl,rfl,by omega,hO⟩ Qs
 ·refine Av (Aa (Aa (Af ?_)));obtain rfl:k=c:=by omega
  exact BT rfl (⟨rfl,m,rfl,by rw[Ca (fun a _ b hb=>X4 f i j k a b hb)]at hO;exact hO⟩)
variable {p:Int} {n:Nat} {ov:List Int}
theorem Kt{a b:Int}(ha:0<=a/\a<p)(hb:0<=b/\b<p)(hp:p<=997):0<=a*b/\a*b<=994009:=by refine⟨Int.mul_nonneg ha.1 hb.1,?_⟩;have:=Int.mul_le_mul (show a<=997 by omega) (show b<=997 by omega) hb.1 (by omega:(0:Int)<=997);omega
theorem Cg.pow{a b:Int}(h:Cg p a b):∀n:Nat,Cg p (a^n) (b^n)
 | 0=>Cg.of_eq (by rw[Int.pow_zero,Int.pow_zero])
 | n+1=>by rw[Int.pow_succ,Int.pow_succ];exact Cg.mul (Cg.pow h n) h
theorem Yq(hp:IsP p)(h1:1<=n)(hn:(n:Int)<p){out:Int}(ho:Cg p out ((n:Int)^(p.toNat-2))):(n:Int)*out%p=1:=by
 have h2:=hp.1;have hd:¬p.toNat∣n:=fun hd=>by have:=Nat.le_of_dvd (by omega) hd;omega
 have hf:=VE hp.prm hd
 have h3:Cg p ((n:Int)*out) ((n:Int)^(p.toNat-1)):=by have:=Cg.mul (Cg.refl p (n:Int)) ho;rw[show p.toNat-1=(p.toNat-2)+1 by omega,Int.pow_succ,Int.mul_comm _ (n:Int)];exact this
 have h4:(n:Int)^(p.toNat-1)%p=1:=by
  have h5:((n^(p.toNat-1)%p.toNat:Nat):Int)=1:=by rw[hf];rfl
  rw[Int.natCast_emod,Int.natCast_pow,Int.toNat_of_nonneg (by omega)]at h5;exact h5
 rw[Cg.iff_mod.1 h3,h4]
def Ovk(p:Int)(ov:List Int):Prop:=ov.length=998/\∀n (h:n<ov.length),ov[n]=0\/(0<ov[n]/\ov[n]<p/\(n:Int)*ov[n]%p=1)
theorem Aau{r c:Nat}{ev:Value}(hn:n<ov.length):(cR p r c ev (ov.flatMap cI))[4+n*1]?=some (.int .i64 ov[n]):=by have:=EP AV ov n hn 0 (.int .i64 ov[n]) rfl;rw[Nat.add_zero]at this;rw[show 4+n*1=n*1+4 by omega];exact this
theorem Aaj{r c:Nat}{ev:Value}(x:Int):(cR p r c ev (ov.flatMap cI)).set (4+n*1) (.int .i64 x)=cR p r c ev ((ov.set n x).flatMap cI):=by rw[show 4+n*1=n+1+1+1+1 by omega,<-Zu];rfl
theorem Ovk.set(H:Ovk p ov){x:Int}(h0:0<x)(h1:x<p)(h2:(n:Int)*x%p=1):Ovk p (ov.set n x):=by
 refine⟨by simp[H.1],fun k hk=>?_⟩;rw[List.getElem_set];by_cases e:n=k
 ·subst e;rw[if_pos rfl];exact .inr ⟨h0,h1,h2⟩
 ·rw[if_neg e];exact H.2 k (by simpa using hk)
theorem Pd(a:Int)(e:Nat):a^e=(a*a)^(e/2)*a^(e%2):=by
 conv=>lhs;rw[<-Nat.div_add_mod e 2,Int.pow_add,Int.pow_mul]
 rw[show a^2=a*a by rw[Int.pow_succ,Int.pow_succ,Int.pow_zero,Int.one_mul]]
theorem SZ(g:Nat)(p:Int)(r c:Nat)(ev:Value)(ov:List Int)(n:Nat)(h:Hp)(hp:IsP p)(hov:Ovk p ov)(h1n:1<=n)(hn:(n:Int)<p) :
  FnT Tryz.prog 226 #[.pointer (some ⟨g,0,none⟩),.int .i64 n] h [BR g p r c ev (ov.flatMap cI)] (fun x h' ms'=>h=h'/\∃(v:Int) (ov':List Int),x=.int .i64 v/\ms'=[BR g p r c ev (ov'.flatMap cI)]/\Ovk p ov'/\0<v/\v<p/\(n:Int)*v%p=1):=by
 have hb:2<=p/\p<=997:=⟨hp.1,hp.2.1⟩
 have hl:=hov.1;have hnl:n<ov.length:=by omega
 have hc:=hov.2 n hnl
 have hcell:Cell h [BR g p r c ev (ov.flatMap cI)] (((⟨g,0,none⟩:Addr).add 4).add (n*1)) (.int .i64 ov[n]):=by rw[BZ];exact Cell.blk 0 rfl (Aau hnl)
 have hP:∀ov':List Value,Cell h [BR g p r c ev ov'] (((⟨g,0,none⟩:Addr).add 0).add 0) (.int .i64 p):=fun ov'=>by rw[BZ];exact Cell.blk 0 rfl rfl
 refine Ao func226 ntmps226 rfl rfl (fun w0 hw0=>?_);simp only[AU];refine As (Qm rfl (An (Ac (As (Qm rfl (Qm rfl (Qm rfl (Qf NJ rfl (Qx (Ek (n) rfl Aad Be rfl rfl (by omega) (by omega)) rfl (Ql rfl U3 (hcell) (Qm rfl (An ?_))))))))))));refine Au rfl (fun hpos=>?_) (fun hpos=>?_)
 ·have hc:0<ov[n]/\ov[n]<p/\(n:Int)*ov[n]%p=1:=by
   rcases hc with h0|h0
   ·omega
   ·exact h0
  refine As (Qm rfl (Qm rfl (Qm rfl (Qf NJ rfl (Qx (Ek (n) rfl Aad Be rfl rfl (by omega) (by omega)) rfl (Ql rfl U3 (hcell) (Qm rfl (An (Am (Ag ?_))))))))));exact Ap rfl rfl (⟨rfl,_,ov,rfl,rfl,hov,hc.1,hc.2.1,hc.2.2⟩)
 ·refine Ah (Ab (As (Qm rfl (Qm rfl (Qm rfl (An (Ac (As (Qm rfl (Qm rfl (Qf FI rfl (Qf FU rfl (Ql rfl U3 (hP _) (Qx (oS rfl) rfl (Qm rfl (An (Ae ?_)))))))))))))))))
  refine Az (fun q s h' ms'=>∃(e:Nat) (out pw y:Int),q=e/\s=[(0,.pointer (some ⟨g,0,none⟩)),(1,.int .i64 n),(5,.int .i64 out),(6,.int .i64 pw),(7,.int .i64 y)]/\h=h'/\ms'=[BR g p r c ev (ov.flatMap cI)]/\y=e/\e<=1000/\0<=out/\out<p/\0<=pw/\pw<p/\Cg p (out*pw^e) ((n:Int)^(p.toNat-2)))
   (p.toNat-2) _ ⟨p.toNat-2,1,(n:Int),p-2,rfl,rfl,rfl,rfl,by omega,by omega,by omega,by omega,by omega,by omega,by rw[Int.one_mul];exact Cg.refl _ _⟩ Qs ?_
  rintro e s h' ms' ⟨e',out,pw,y,rfl,rfl,rfl,rfl,rfl,he,o1,o2,q1,q2,hcg⟩;have b1:=Kt ⟨o1,o2⟩ ⟨q1,q2⟩ hb.2;have b2:=Kt ⟨q1,q2⟩ ⟨q1,q2⟩ hb.2;have m1:=Int.emod_nonneg (out*pw) (show p≠0 by omega);have m2:=Int.emod_lt_of_pos (out*pw) (show 0<p by omega);have m3:=Int.emod_nonneg (pw*pw) (show p≠0 by omega);have m4:=Int.emod_lt_of_pos (pw*pw) (show 0<p by omega);have hh:Cg p ((pw*pw%p)^(e/2)) ((pw*pw)^(e/2)):=Cg.pow (Cg.mod _ _) _;refine Ac (As (Qm rfl (Qm rfl (An ?_))));refine Au rfl (fun hlt=>?_) (fun hlt=>?_)
  ·refine Ah (Ab (Ac (Ae (Ac (As (Qm rfl (Qx (WQ rfl rfl rfl (by omega)) rfl (Qm rfl (An ?_)))))))));refine Au rfl (fun hodd=>?_) (fun hodd=>?_)
   ·refine Ad (Qm rfl (Qm rfl (Qx (oM rfl) rfl (Qm rfl (Qm rfl (Qf FI rfl (Qf FU rfl (Ql rfl U3 (hP _) (Qx (BV rfl rfl rfl (by omega) (by omega)) rfl (Qm rfl (Gh (Qm rfl (Qm rfl (Qx (oM rfl) rfl (Qm rfl (Qm rfl (Qf FI rfl (Qf FU rfl (Ql rfl U3 (hP _) (Qx (BV rfl rfl rfl (by omega) (by omega)) rfl (Qm rfl (Aj (Ai (Ab (Ad (Qm rfl (Qx (NL (n:=1) rfl rfl rfl (by omega)) rfl (Qm rfl (Aj ?_)))))))))))))))))))))))))))));refine Ak (e/2) _ (by omega) ⟨e/2,out*pw%p,pw*pw%p,((e/2:Nat):Int),rfl,rfl,rfl,rfl,rfl,by omega,m1,m2,m3,m4,?_⟩ Qs;refine Cg.trans (Cg.mul (Cg.mod _ _) hh) (Cg.trans (Cg.of_eq ?_) hcg);rw[Pd pw e,show e%2=1 by omega,Int.pow_succ,Int.pow_zero,Int.one_mul,Int.mul_assoc,Int.mul_comm pw]
   ·refine Ah (Ab (Ad (Qm rfl (Qm rfl (Qx (oM rfl) rfl (Qm rfl (Qm rfl (Qf FI rfl (Qf FU rfl (Ql rfl U3 (hP _) (Qx (BV rfl rfl rfl (by omega) (by omega)) rfl (Qm rfl (Aj (Ai (Ab (Ad (Qm rfl (Qx (NL (n:=1) rfl rfl rfl (by omega)) rfl (Qm rfl (Aj ?_))))))))))))))))))));refine Ak (e/2) _ (by omega) ⟨e/2,out,pw*pw%p,((e/2:Nat):Int),rfl,rfl,rfl,rfl,rfl,by omega,o1,o2,m3,m4,?_⟩ Qs;refine Cg.trans (Cg.mul (Cg.refl _ _) hh) (Cg.trans (Cg.of_eq ?_) hcg);rw[Pd pw e,show e%2=0 by omega,Int.pow_zero,Int.mul_one]
  ·obtain rfl:e=0:=by omega
   rw[Int.pow_zero,Int.mul_one]at hcg;have hinv:=Yq hp h1n hn hcg
   have hout:0<out:=by
    rcases (by omega:out=0\/0<out) with h0|h0
    ·subst h0;simp at hinv
    ·exact h0
   refine Av (Aa (Aa (Af (Ab (As (Qm rfl (Qm rfl (Qm rfl (Qm rfl (Qf NJ rfl (Qx (Ek (n) rfl Aad Be rfl rfl (by omega) (by omega)) rfl ?_)))))))))));refine AK 0 (4+n*1) rfl Be rfl rfl rfl rfl (BZ _ _ _) (by show _<(_::_::_::_::_:List Value).length;simp only[List.length_cons,A5 AV,hl];omega) rfl rfl ?_;rw[Aaj];refine Bv (Qm rfl (Qm rfl (An (Am ?_))));exact Ap rfl rfl (⟨rfl,out,ov.set n out,rfl,rfl,hov.set hout o2 hinv,hout,o2,hinv⟩)
theorem Wg(g:Nat)(p:Int)(r c:Nat)(ev:Value)(ov:List Int)(n:Int)(h:Hp)(hp:IsP p)(hov:Ovk p ov)(h1n:1<=n)(hn:n<p) :
  FnT Tryz.prog 226 #[.pointer (some ⟨g,0,none⟩),.int .i64 n] h [BR g p r c ev (ov.flatMap cI)] (fun x h' ms'=>h=h'/\∃(v:Int) (ov':List Int),x=.int .i64 v/\ms'=[BR g p r c ev (ov'.flatMap cI)]/\Ovk p ov'/\0<v/\v<p/\n*v%p=1):=by
 obtain⟨k,rfl⟩:=Int.eq_ofNat_of_zero_le (show 0<=n by omega);exact SZ g p r c ev ov k h hp hov (by omega) hn
end Go.Proofs.Q
namespace Go.Proofs.Q
open Go.Proofs.Tryz
open Go.Eng Go.RowKit Go.Lin
theorem Xo(t p k n:Int)(h:Hp)(hp:IsP p)(hn:0<=n/\n<p)(ht:0<=t/\t<p)(ms:List Hp) :
  FnV Tryz.prog 227 #[.agg #[.slice none 0 0,.int .i64 t,.int .i64 p],.int .i64 k,.int .i64 n] h ms (.int .i64 (n*t%p)):=by
 refine F6 ?_ ms;have hb:2<=p/\p<=997:=⟨hp.1,hp.2.1⟩
 have b1:=Kt hn ht hb.2;refine Ao func227 ntmps227 rfl rfl (fun w0 hw0=>?_);simp only[AU];refine As (AS [_,_,_] rfl rfl (by rfl) rfl rfl rfl (fun g3=>Qm rfl (Bv (Qm rfl (Qf RY rfl (Ql rfl U3 (Cell.blk 0 rfl rfl) (Qx (oM rfl) rfl (Qf RX rfl (Ql rfl U3 (Cell.blk 0 rfl rfl) (Qx (BV rfl rfl rfl (by omega) (by omega)) rfl (Qm rfl (An (Am ?_)))))))))))));exact Ap rfl rfl (rfl)
theorem ZX(r c:Nat)(F:Nat->Nat->Int)(ev:Value)(at_ k:Nat)(t p n:Int)(h:Hp)(hR:RdL cI 1 h [] ev (DR r c F))(ha:at_<r)(hk:k<c)(hp:IsP p)(hn:0<=n/\n<p)(hF:0<=F at_ k/\F at_ k<p)(ht:0<=t/\t<p) :
  FnV Tryz.prog 228 #[.agg #[Cu 1 ev (at_*c) ((at_+1)*c),.int .i64 t,.int .i64 p],.int .i64 k,.int .i64 n] h [] (.int .i64 ((n+F at_ k*t)%p)):=by
 refine FnT.toV ?_;have hb:2<=p/\p<=997:=⟨hp.1,hp.2.1⟩
 have b1:=Kt hF ht hb.2;have hRa:=hR.row ha;have ea:=CI c (F at_);refine Ao func228 ntmps228 rfl rfl (fun w0 hw0=>?_);simp only[AU];refine As (AS [_,_,_] rfl rfl (by rfl) rfl rfl rfl (fun g3=>Qm rfl (An (Aw fun h' hle hS=>?_))));have hRa:=hRa.up hle;have hA:=Seg.all hS;have hA0:=hA 0 _ rfl;refine Ac (BF (n:=14) (bs:=[true,true,true,true,true,true,true,true,true,true,true,true,true,false]) [true,true,true,true,true,true,true,true,true,true,true,true,true] CP (by kernel_rfl) (by kernel_rfl) rfl rfl (Qq rfl (QF XC rfl (QL rfl AY (hA _ _ rfl _) (Qq rfl (Qp rfl (BS (k) hRa.rd.any rfl AY Be rfl rfl) (QL rfl U3 (hRa.any.ev hk) (QF RY rfl (QL rfl U3 (hA _ _ rfl _) (Qp rfl (oM rfl) (Qp rfl (oA rfl) (QF RX rfl (QL rfl U3 (hA _ _ rfl _) (Qp rfl (BV rfl rfl rfl (by omega) (by omega)) ?_))))))))))))));unfold FN;simp only[cons_append,nil_append];refine Qo 13 rfl (Qm rfl (Qw (Qe (Ab (Am ?_)))));exact Ap rfl rfl (rfl)
theorem UT(l:List Int)(v:Value)(h:Hp)(hR:RdL cI 1 h [] v l)(hl:l.length<=1000000):FnT Tryz.prog 222 #[v] h [] (fun x h' ms'=>h=h'/\∃m,ms'=[m]/\OwnL cI 1 3 m x l):=by
 refine Ao func222 ntmps222 rfl rfl (fun w0 hw0=>?_);simp only[AU];refine As (Qm rfl (An (Ac (As (Qm rfl (Qx (Lf hR.rd.any rfl AY rfl rfl) rfl (An ?_)))))));refine Bq rfl (fun hn=>?_) (fun hn=>?_)
 ·have h0:=Jn hR.rd hn;obtain rfl:l=[]:=List.eq_nil_of_length_eq_zero h0;refine As (Qm rfl (An (Am (Ag (G1 ?_)))));exact Ap rfl rfl (⟨rfl,_,rfl,OwnL.nil AV⟩)
 ·refine Ah (Ab (As ?_));refine AE [] [] [] rfl AY Be rfl (by omega) (by kernel_rfl) (by repeat (first|exact trivial|refine⟨⟨by first|rfl|exact(hR.rd.any).cells|exact Rd.cells ‹_›|exact(RdL.rd ‹_›).cells,rfl,rfl⟩,?_⟩)) rfl rfl rfl rfl (fun g5=>?_);refine Qm rfl ?_;have hO:OwnL cI 1 3 (A7 g5 3 []) (.slice (some ⟨g5,0,none⟩) 0 0) []:=OwnL.blk (l:=([]:List Int)) 0 AV rfl (by omega);refine AM 0 hO hR.any rfl AY Be rfl (by omega) rfl rfl rfl B5 (by simp;omega) (by simp;omega) rfl rfl rfl (fun v' m' hO'=>?_);refine Qm rfl (An (Am ?_));exact Ap rfl rfl (⟨rfl,m',rfl,hO'⟩)
theorem ZW{o:Oper}{s:AB}{h:Hp}{ms:List Hp}{x:Operand}{p:Int}{r c:Nat}{ev':Value}(ho:o.op=.build 255 #[(0,x)])(hx:ev s x=some (.agg #[.int .i64 p,.int .i64 r,.int .i64 c,ev']))(h1:ev'.oneCell'=true) :
  OX Tryz.prog o s h ms (.agg (cR p r c ev' (replicate 998 (.int .i64 0))).toArray):=
 A0 Abm ([.int .i64 0,.int .i64 0,.int .i64 0,.slice none 0 0]++replicate 998 (.int .i64 0)) [(0,[.int .i64 p,.int .i64 r,.int .i64 c,ev'])] _ (lp:=[(0,x)]) (vs:=[(0,.agg #[.int .i64 p,.int .i64 r,.int .i64 c,ev'])]) ho AaO (by kernel_rfl) (by simp only[Y4,hx]) ⟨⟨rfl,rfl,rfl⟩,trivial⟩ rfl
end Go.Proofs.Q
