/- A part of the proof. -/
import Derived.Test.YtmgaeedkcecckaaGreatDoorRD
import Derived.Shelf.Strings.Trim
import Derived.Shelf.Small.Utf8
import Derived.Shelf.Small.Bits
import Derived.Shelf.Small.Strs
import Derived.Shelf.Small.Wraps
import Derived.Shelf.Strconv.Itoa0
import Derived.Shelf.Strings.Search1
import Derived.Shelf.Sort.Plain
import Derived.Shelf.Unicode.Decode
import Derived.Shelf.Strings.Runes
import Derived.Shelf.Strings.AsciiSet
import Derived.Shelf.Unicode.DecodeSlow
import Derived.Shelf.Unicode.DecodeAny
import Derived.Ground.Names2Prog
import Derived.Shelf.Slices.SearchI
import Derived.Shelf.Slices.In.SortNone
import Derived.Shelf.Slices.Empties
import Derived.Test.YtmgaeedkcecckaaGreatDoorProg
set_option linter.unusedSimpArgs false
set_option linter.unusedVariables false
set_option linter.unusedSectionVars false
set_option maxRecDepth 100000
set_option maxHeartbeats 4000000

open List (length_map length_singleton getElem_mem replicate range length_append nil_append length_take mem_cons cons_append map_append pairwise_cons take_succ_eq_append_getElem append_nil map_map map_cons length_set take_length append_assoc getElem_map length_range take_zero drop_zero length_replicate sum_cons take_of_length_le not_mem_nil)
namespace Go.Proofs.Q
open Go.Proofs.Tryz
open Go.Eng Go.RowKit
section
theorem AeQ(w:World):(zeroValue 3).run Tryz.prog w=.ok (kN 0) w:=by rfl
structure AbG(U:List Cl)(x:Cl):Prop where
 n:x.sd.length<=64
 p:0<x.sd.length
 m:∀i,i<x.sd.length->(GF U (Bm x i).1).sd.length<=64
 s:∀s∈x.sd,Cd s.1/\(s.2=1\/s.2=-1)
 t:∀i,i<x.sd.length->∀r∈(GF U (Bm x i).1).sd,Cd r.1/\(r.2=1\/r.2=-1)
theorem Ab2{ν:Type}(T:List (Int×ν))(a:Int)(x:ν):(Dw T a x).length<=T.length+1:=by
 unfold Dw;split
 ·rw[be];omega
 ·simp
theorem U2:∀E:HA,(G5 E).length<=E.length:=EU (by simp[G5]) λE e ih=>by rw[Hh,af,ab];have:=Ab2 (G5 E) e.2.1 ((BJ (G5 E) e.2.1).getD []++[e.1]);omega
theorem Pr{U:List Cl}{x:Cl}{m:Nat}{e:Int×Int×Int}(h:e∈Kr U x m):∃i,i<m/\∃r∈(GF U (Bm x i).1).sd,e=((i:Int),r.1,(Bm x i).2*r.2):=by unfold Kr at h;obtain⟨i,hi,h⟩:=List.mem_flatMap.1 h;obtain⟨r,hr,rfl⟩:=ag.1 h;exact⟨i,cm.1 hi,r,hr,Y⟩
theorem AdB{U:List Cl}{x:Cl}(K:AbG U x){m:Nat}(hm:m<=x.sd.length){e:Int×Int×Int}(h:e∈Kr U x m):e.2.2=1\/e.2.2=-1:=by
 obtain⟨i,hi,r,hr,rfl⟩:=Pr h;have hi':i<x.sd.length:=ω
 have h1:=(K.t i hi' r hr).2;have h2:=(K.s (Bm x i) (by rw[Bj hi'];exact ao hi')).2;show(Bm x i).2*r.2=1\/(Bm x i).2*r.2=-1;rcases h1 with h1|h1<;>rcases h2 with h2|h2<;>rw[h1,h2]<;>decide
theorem W2(U:List Ce)(x:Ce)(g:Nat)(hp:Hp)(hT:RdT hp g U)(hX:RdL cD 2 hp [] x.v x.c.sd)(hK:AbG (U.map Ce.c) x.c):FnT Tryz.prog 135 #[.pointer (some ⟨g,0,none⟩),.agg (cC x).toArray] hp [] (λr _ _=>r=.int .i64 (YI (Kr (U.map Ce.c) x.c x.c.sd.length) x.c.sd.length)):=by
 have o2:=hX.rd.one;show FnT _ _ #[.pt g,.agg #[.w x.c.id,.w x.c.dim,x.v]] _ _ _;refine Ap func135 ntmps135 Y Y<|λw0 hw0=>?_;simp only[AR];refine Ar<|AK [_,_,_] Y Y (by rfl) Y Y Y<|λg3=>Qm Y<|Am<|AF λh1 l1 hS=>?_;obtain⟨gm,mMt,bst,vids,hSg,hMt,lmt,hVt,hsU⟩:=hT.up l1;have hX:=hX.up l1;have hA:=Seg.all hS;have a2:∀ms,Cell h1 ms (⟨g3,2,none⟩:Addr) x.v:=λms=>hA 2 _ Y ms;have eT:∀ms,Cell h1 ms (⟨g,0,none⟩:Addr) (.map (some gm)):=λms=>Seg.all hSg 0 _ Y ms;have hn64:=hK.n;refine Ar<|Dx (K:=kN) (V:=kN) (Ok:=Cd) Y Y Y Y<|λgA mA hA0=>Dx (K:=kN) (V:=P6) (Ok:=Cd) Y Y Y Y<|λgB mM hB0=>Qm Y<|Qm Y<|Am<|EG 1 Y<|BV ?_;have hMS0:=OwnMS.start hB0;refine Bv (λsl h' ms'=>∃(mB mA mM:Hp) (bs:List Nat),sl=[(3,.pt g3),(5,.map (some gA)),(6,.map (some gB))]/\h1.le h'/\ms'=[mB,mA,mM]/\CF kN kN gA Cd mA (Dt (Kr (U.map Ce.c) x.c x.c.sd.length)) bs/\OwnMS gB mM mB (G5 (Kr (U.map Ce.c) x.c x.c.sd.length))) ?_<|λs h ms hI=>?_
 ·refine Ac<|Ad<|Qf BU Y<|Ql Y Da (a2 _)<|Qx (Aq hX.rd.any Y Da Y) Y<|Qm Y<|Am<|Ag ?_
  refine AB (λq sl h' ms'=>∃(i:Nat) (mB mA mM:Hp) (bs:List Nat),q=x.c.sd.length-i/\sl=[(0,.pt g),(3,.pt g3),(5,.map (some gA)),(6,.map (some gB)),(21,x.v),(22,.w x.c.sd.length),(23,.w i)]/\h1.le h'/\ms'=[mB,mA,mM]/\i<=x.c.sd.length/\CF kN kN gA Cd mA (Dt (Kr (U.map Ce.c) x.c i)) bs/\OwnMS gB mM mB (G5 (Kr (U.map Ce.c) x.c i)))
   (x.c.sd.length-0) _ ⟨0,Hp.emp,mA,mM,[],rfl,rfl,BE,rfl,ω,hA0,hMS0⟩ Qs ?_
  rintro q sl h2 ms' ⟨i,mB,mA,mM,bs,rfl,rfl,l2,rfl,hi,hOA,hMS⟩;have hX:=hX.up l2;refine Ar<|Qm Y<|Am<|Ac ?_;refine Aw Y (λhlt=>?_)<|λhlt=>?_
  ·have hil:i<x.c.sd.length:=ω
   obtain⟨s,hs⟩:∃s,x.c.sd[i]=s:=⟨_,Y⟩
   have hsm:s∈x.c.sd:=by rw[<-hs];exact ao hil
   have hsA:Bm x.c i=s:=by rw[Bj hil,hs]
   have hsI:=hK.s s hsm;obtain⟨y,hy⟩:∃y,(BJ (GM U) s.1).getD default=y:=⟨_,Y⟩
   have hyc:GF (U.map Ce.c) s.1=y.c:=by rw[<-K7,hy]
   have hyR:=YV hsU s.1;rw[hy]at hyR;have hyR:=hyR.up l2;have oyv:=hyR.rd.one;have y64:=hK.m i hil;have yt:=hK.t i hil;rw[hsA,hyc]at y64 yt;have hE:=Pv (U.map Ce.c) x.c hK.m i hi;have hEs:∀e∈Kr (U.map Ce.c) x.c i,e.2.2=1\/e.2.2=-1:=λe he=>AdB hK hi he
   have hsucc:Kr (U.map Ce.c) x.c (i+1)=Kr (U.map Ce.c) x.c i++y.c.sd.map λr=>((i:Int),r.1,s.2*r.2):=by rw[QO];unfold Ze;rw[hsA,hyc]
   obtain⟨E,hEe⟩:∃E,Kr (U.map Ce.c) x.c i=E:=⟨_,Y⟩
   rw[hEe]at hOA hMS hE hEs hsucc;have hsx:∀ms,Seg h2 ms ((AH x.v).add (i*2)) (cD s):=λms=>by rw[<-hs];exact(hX.any (ms:=ms)).seg hil
   refine Ah<|Ab ?_;refine Bv (λsl h' ms'=>∃(mB mA mM:Hp) (bs:List Nat),sl=[(0,.pt g),(3,.pt g3),(5,.map (some gA)),(6,.map (some gB)),(21,x.v),(22,.w x.c.sd.length),(23,.w i)]/\h2.le h'/\ms'=[mB,mA,mM]/\CF kN kN gA Cd mA (Dt (Kr (U.map Ce.c) x.c (i+1))) bs/\OwnMS gB mM mB (G5 (Kr (U.map Ce.c) x.c (i+1)))) ?_<|λs h ms hI=>?_
   ·refine Ag<|Ar<|Qm Y<|Qx (BC (i) hX.rd.any Y Da BX Y Y) Y<|Qx (oG Y XM BX<|hsx _) Y<|BS [.w 0,.w 0] Y BX Y Y<|λg8=>Qm Y ?_;refine Sa 0 [_,_] BX Y (by simp[Value.oneCell']) ?_;refine Am<|AF λh3 l3 hS8=>?_;have e80:∀ms,Cell h3 ms (⟨g8,0,none⟩:Addr) (.w s.1):=λms=>Seg.all hS8 0 _ Y ms;have e81:∀ms,Cell h3 ms (⟨g8,1,none⟩:Addr) (.w s.2):=λms=>Seg.all hS8 1 _ Y ms;have l13:=AD l2 l3;have eT:∀ms,Cell h3 ms (⟨g,0,none⟩:Addr) (.map (some gm)):=λms=>(eT ms).le l13;have hyR:=hyR.up l3;refine Ac<|BB 10 CC κ Y<|Wm Y<|Wm Y<|Wf GH Y<|Wl Y I6 (eT _)<|Wf Dl Y<|Wl Y U3 (e80 _)<|BD (DH (V:=vC) (z:=(default:Ce)) s.1 hy BH hMt (AD lmt l13) Y I6 Oj Y Y hsI.1) Y Y<|BD (Hg Y Jz Y Da Y Y Y) Y Y<|BD (Aq hyR.rd.any Y Da Y) Y Y<|Wm Y<|Bu<|Am<|Ag ?_
    refine AB (λq sl h' ms'=>∃(k:Nat) (mB mA mM:Hp) (bs:List Nat),q=y.c.sd.length-k/\sl=[(0,.pt g),(3,.pt g3),(5,.map (some gA)),(6,.map (some gB)),(7,.w i),(8,.pt g8),(21,x.v),(22,.w x.c.sd.length),(23,.w i),(35,y.v),(36,.w y.c.sd.length),(37,.w k)]/\h3.le h'/\ms'=[mB,mA,mM]/\k<=y.c.sd.length/\CF kN kN gA Cd mA (Dt (E++(y.c.sd.take k).map λr=>((i:Int),r.1,s.2*r.2))) bs/\OwnMS gB mM mB (G5 (E++(y.c.sd.take k).map λr=>((i:Int),r.1,s.2*r.2))))
     (y.c.sd.length-0) _ ⟨0,mB,mA,mM,bs,rfl,rfl,BE,rfl,ω,by simpa using hOA,by simpa using hMS⟩ Qs ?_
    rintro q sl h4 ms' ⟨k,mB,mA,mM,bs,rfl,rfl,l4,rfl,hk,hOA,hMS⟩;have hyR:=hyR.up l4;have e81:∀ms,Cell h4 ms (⟨g8,1,none⟩:Addr) (.w s.2):=λms=>(e81 ms).le l4;refine Ar<|Qm Y<|Am<|Ac ?_;refine Aw Y (λhlk=>?_)<|λhlk=>?_
    ·have hkl:k<y.c.sd.length:=ω
     obtain⟨r,hr⟩:∃r,y.c.sd[k]=r:=⟨_,Y⟩
     have hrm:r∈y.c.sd:=by rw[<-hr];exact ao hkl
     have hrI:=yt r hrm;have hsr:∀ms,Seg h4 ms ((AH y.v).add (k*2)) (cD r):=λms=>by rw[<-hr];exact(hyR.any (ms:=ms)).seg hkl
     have hF':(E++(y.c.sd.take (k+1)).map λr=>((i:Int),r.1,s.2*r.2))=(E++(y.c.sd.take k).map λr=>((i:Int),r.1,s.2*r.2))++[((i:Int),r.1,s.2*r.2)]:=by rw[ak hkl,dd,hr,cz];rfl
     have hFl:(E++(y.c.sd.take k).map λr=>((i:Int),r.1,s.2*r.2)).length<=4200:=by rw[af,be,ay];omega
     have hmu:s.2*r.2=1\/s.2*r.2=-1:=by rcases hsI.2 with e|e<;>rcases hrI.2 with e'|e'<;>rw[e,e']<;>decide
     have hFs:∀e∈E++(y.c.sd.take k).map (λr=>((i:Int),r.1,s.2*r.2)),e.2.2=1\/e.2.2=-1:=λe he=>by
      rcases bj.1 he with he|he
      ·exact hEs e he
      ·obtain⟨r',hr',rfl⟩:=ag.1 he;have hrI':=yt r' (List.mem_of_mem_take hr');show s.2*r'.2=1\/s.2*r'.2=-1;rcases hsI.2 with e|e<;>rcases hrI'.2 with e'|e'<;>rw[e,e']<;>decide
     obtain⟨F,hF⟩:∃F,E++(y.c.sd.take k).map (λr=>((i:Int),r.1,s.2*r.2))=F:=⟨_,Y⟩
     rw[hF]at hOA hMS hFl hFs hF';obtain⟨v0,hv0⟩:∃v0,(BJ (Dt F) r.1).getD 0=v0:=⟨_,Y⟩
     have hb0:=AdX F r.1 hFs;rw[<-Ks,hv0]at hb0;have hs1:=Hx F ((i:Int),r.1,s.2*r.2);have hm1:=Hh F ((i:Int),r.1,s.2*r.2);simp only at hs1 hm1;rw[hv0]at hs1;refine Ah<|Ab ?_;refine Bv (λsl h' ms'=>∃(mB mA mM:Hp) (bs:List Nat),sl=[(0,.pt g),(3,.pt g3),(5,.map (some gA)),(6,.map (some gB)),(7,.w i),(8,.pt g8),(21,x.v),(22,.w x.c.sd.length),(23,.w i),(35,y.v),(36,.w y.c.sd.length),(37,.w k)]/\h4.le h'/\ms'=[mB,mA,mM]/\CF kN kN gA Cd mA (Dt (F++[((i:Int),r.1,s.2*r.2)])) bs/\OwnMS gB mM mB (G5 (F++[((i:Int),r.1,s.2*r.2)]))) ?_<|λs h ms hI=>?_
     ·refine Ag<|Ar<|Qx (BC (k) hyR.rd.any Y Da BX Y Y) Y<|Qx (oG Y XM BX<|hsr _) Y<|BS [.w 0,.w 0] Y BX Y Y<|λg10=>?_;refine Sa 0 [_,_] BX Y (by simp[Value.oneCell']) ?_;refine Am<|AF λh5 l5 hS10=>?_;have e81:∀ms,Cell h5 ms (⟨g8,1,none⟩:Addr) (.w s.2):=λms=>(e81 ms).le l5;have ea0:∀ms,Cell h5 ms (⟨g10,0,none⟩:Addr) (.w r.1):=λms=>Seg.all hS10 0 _ Y ms;have ea1:∀ms,Cell h5 ms (⟨g10,1,none⟩:Addr) (.w r.2):=λms=>Seg.all hS10 1 _ Y ms;refine Ar<|Qm Y<|Qf Dl Y<|Ql Y U3 (ea0 _)<|Qx (DR (V:=kN) (z:=(0:Int)) r.1 hv0 BH hOA σ rfl Aec AeQ rfl rfl hrI.1) rfl<|Qf Eg rfl<|Ql rfl U3 (e81 _)<|Qf Eg rfl<|Ql rfl U3 (ea1 _)<|Qx (oM rfl) rfl<|Qx (oA rfl) rfl<|C5 (V:=kN) (z:=undef) 1 r.1 (v0+s.2*r.2) BH hOA rfl rfl Aec rfl rfl rfl hrI.1 rfl rfl<|λmA' bs' hOA'=>?_;rw[<-hs1]at hOA';refine Am ?_;obtain⟨Tv,bv,v,m1,m2,hO,hv,rfl,hd,hO1,close⟩:=hMS.open r.1;refine K3 hd ?_;obtain⟨L,hL⟩:∃L,(BJ (G5 F) r.1).getD []=L:=⟨_,Y⟩
      have hLl:L.length<=4200:=by rw[<-hL,Rh,be];exact bl (fd _ _) hFl
      rw[hL]at hO1 hm1;have ov:=hO1.o1;refine AS (n:=11) (bs:=[ig,ig,ig,ig,ig,ig,ii,ig,ii,ii,ii]) [ig,ig,ig,ig,ig,ig,ii,ig] CC κ κ Y Y<|Qq Y<|QF Dl Y<|QL Y U3 (ea0 _)<|Qq Y<|QF Dl Y<|QL Y U3 (ea0 _)<|Qq Y ?_;unfold Dd;simp only[bh,ap];refine A4 [6,8] κ Y ?_;refine AA Y ?_ ?_;refine Qx (DR (V:=P6) (z:=(Value.nl)) r.1 hv BH hO σ rfl I4 LO rfl rfl hrI.1) rfl<|Qw<|Qo 8 rfl<|Ay [_] rfl AZ Bk rfl (by rfl) rfl rfl ω rfl rfl rfl<|λg59=>Qw ?_
      rotate_left
      refine AA Y ?_ ?_;refine Ay [_] Y AZ Bk Y (by rfl) Y Y ω Y Y Y<|λg59=>Qw<|Qo 6 Y<|Qx (DR (V:=P6) (z:=(Value.nl)) r.1 hv BH hO σ rfl I4 LO rfl rfl hrI.1) rfl<|Qw ?_
      rotate_left
      exact A5
      all_goals
       refine Qo 9 Y<|AJ 1 hO1 (RdL.one A8 (x:=(i:Int)) Mh Y) Y AZ Bk Y ω Y Y Y BT (by(try simp only[ab]);omega) (by(try simp only[ab]);omega) rfl rfl rfl<|λv9 m9 hO9=>?_;have ov9:=hO9.o1;refine Qw<|Qo 10 Y<|C5 (V:=P6) (z:=undef) 4 r.1 v9 BH hO Y Y I4 Y Y Y hrI.1 Y Y<|λmM' bs2 hM'=>Qw<|Qe<|AQ<|Hc λhap=>IJ ?_;have hdj:=(b7.1 hap).1 _ Mh;have hMS':=close v9 _ m9 mM' bs2 hdj hO9 hM';rw[<-hm1]at hMS';refine Ai ?_;exact AI _ ⟨_,mA',mM',bs',Y,l5,Y,hOA',hMS'⟩ Qs
     ·obtain⟨mB,mA,mM,bs,rfl,k4,rfl,hOA,hMS⟩:=hI;rw[<-hF']at hOA hMS;refine Ad<|Qx (oA Y) Y<|Qm Y<|An ?_;exact Ao (y.c.sd.length-(k+1)) _ ω ⟨k+1,mB,mA,mM,bs,Y,Y,AD l4 k4,Y,ω,hOA,hMS⟩ Qs
    ·obtain rfl:k=y.c.sd.length:=ω
     rw[fe,<-hsucc]at hOA hMS;refine Ax<|Aa<|Aa<|Af<|Ai ?_;exact AI _ ⟨mB,mA,mM,bs,Y,AD l3 l4,Y,hOA,hMS⟩ Qs
   ·obtain⟨mB,mA,mM,bs,rfl,k2,rfl,hOA,hMS⟩:=hI;refine Ad<|Qx (oA Y) Y<|Qm Y<|An ?_;exact Ao (x.c.sd.length-(i+1)) _ ω ⟨i+1,mB,mA,mM,bs,Y,Y,AD l2 k2,Y,ω,hOA,hMS⟩ Qs
  ·obtain rfl:i=x.c.sd.length:=ω
   refine Ax<|Aa<|Aa<|Af ?_;exact AI _ ⟨mB,mA,mM,bs,Y,l2,Y,hOA,hMS⟩ Qs
 ·obtain⟨mB,mA,mM,bs,rfl,l2,rfl,hOA,hMS⟩:=hI;have hEl:=Pv (U.map Ce.c) x.c hK.m x.c.sd.length (am _)
  have hEi:∀e∈Kr (U.map Ce.c) x.c x.c.sd.length,0<=e.1/\e.1<x.c.sd.length:=λe he=>by obtain⟨i,hi,r,_,rfl⟩:=Pr he;exact⟨by show 0<=(i:Int);omega,by show(i:Int)<_;omega⟩
  obtain⟨E,hE⟩:∃E,Kr (U.map Ce.c) x.c x.c.sd.length=E:=⟨_,Y⟩
  rw[hE]at hOA hMS hEl hEi ⊢;refine DA λh2 k2 fB=>DA λh3 k3 fA=>DA λh4 k4 fM=>?_
  have lB:=AD fB (AD k3 k4);have lA:=AD fA k4;have lh4:=AD l2 (AD k2 (AD k3 k4));refine Bv (λsl h' ms'=>sl=[(3,.pt g3),(6,.map (some gB))]/\h4=h'/\ms'=[]/\∀e∈E,EW E e.2.1=0) ?_<|λs h ms hI=>?_
  ·refine Ac<|Ad<|Qm Y<|IH hOA lA Y Aec Y Y Y Y<|λgi mi0 I0=>Am<|Ag ?_
   refine AB (λq sl h' ms'=>∃(vis:List Nat) (mi:Hp),q=(Dt E).length-vis.length/\sl=[(3,.pt g3),(6,.map (some gB)),(64,.pt gi)]/\h4=h'/\ms'=[mi]/\En gi gA mA mi bs vis/\∀j (hj:j<(Dt E).length),j∈vis->(Dt E)[j].2=0)
    ((Dt E).length-0) _ ⟨[],mi0,rfl,rfl,rfl,rfl,I0,λj hj h=>nomatch h⟩ Qs ?_
   rintro q sl h' ms' ⟨vis,mi,rfl,rfl,rfl,rfl,I,hz⟩;refine Ar ?_;refine J1 0 hOA I lA Y Y Y Y Y Y (λhall=>?_)<|λj hj mi' hjv I'=>?_
   ·refine Qm Y<|Am<|Ac<|AL Y<|Ax<|Aa<|Aa<|Af ?_
    have hzero:∀e∈E,EW E e.2.1=0:=λe he=>by obtain⟨l,v,hl⟩:=H8 ((Mp e.2.1 E).2 ⟨e,he,Y⟩);rw[<-Ks,ED (VY E) hl];obtain⟨h1,h2⟩:=br.1 hl;have:=hz l h1 (hall l h1);rw[h2]at this;exact this
    refine D4 0 Y ?_;exact AI _ ⟨Y,Y,Y,hzero⟩ Qs
   ·have hTj:(Dt E)[j].2=EW E (Dt E)[j].1:=by have hg:(Dt E)[j]?=some ((Dt E)[j].1,(Dt E)[j].2):=aj hj;rw[<-Ks,ED (VY E) hg];rfl
    refine Qm Y<|Am<|Ac<|AX Y<|Ah<|Ab<|Ag<|Ar<|Qx (Iz hOA I' lA σ hj rfl rfl) rfl<|Qm rfl<|Qm rfl<|Bp<|Qm rfl<|Qm rfl<|Am ?_;refine Aw Y (λhne=>?_)<|λhne=>?_
    ·have h24:YI E x.c.sd.length=24:=by unfold YI;rw[ah λw=>?_];obtain⟨e,he,h1⟩:=(Mp (Dt E)[j].1 E).1 (ag.2 ⟨_,ao hj,Y⟩);have:=w e he;rw[h1,<-hTj]at this;exact hne this
     refine Ar<|Qm Y<|Am<|Aj<|Ak<|Ae<|Ak<|Ae ?_;exact Al Y Y (by rw[h24])
    ·refine Ah<|Ai ?_;refine Ao ((Dt E).length-(vis.length+1)) _ ?_ ⟨vis++[j],mi',by simp,rfl,rfl,rfl,I',λi hi' hv=>?_⟩ Qs
     ·have hlt:vis.length<(Dt E).length:=by
       have h1:=Go.Kuhn.nodup_le (vis++[j]) (range (Dt E).length) I'.nodup λx hx=>by rw[cm,<-hOA.len];exact I'.lt x hx
       simp at h1;omega
      omega
     ·rcases bj.1 hv with hv|hv
      ·exact hz i hi' hv
      ·simp at hv;subst hv;exact ef.1 hne
  ·obtain⟨rfl,rfl,rfl,hzero⟩:=hI;obtain⟨Tv,bv,hOv,hKv,hRv,hRa⟩:=hMS.look lB;obtain⟨M,hM⟩:∃M,G5 E=M:=⟨_,Y⟩
   have hMn:=AdJ E;have hMk:=λc=>Wy c E;have hMg:=λc=>Rh c E;rw[hM]at hKv hRv hRa hMn hMk hMg;have hTl:Tv.length=M.length:=by have:=aw List.length hKv;simpa using this
   refine Ar<|Dx (K:=kN) (V:=P6) (Ok:=Cd) Y Y Y Y<|λgJ mJ hJ0=>BS [.map none] Y Ac2 Y Y<|λg13=>Bh 0 0 Y Ac2 Y Y (by rfl) Y Y δ Y Y<|Am<|AF λh5 k5 hS13=>?_;have e13:∀ms,Cell h5 ms (⟨g13,0,none⟩:Addr) (.map (some gJ)):=λms=>Seg.all hS13 0 _ Y ms;refine BV ?_;have hJS0:=OwnMS.start hJ0;have fM5:=AD fM k5
   let pr:Nat->Int×Int:=λj=>(((M.getD j (0,[])).2).getD 0 0,((M.getD j (0,[])).2).getD 1 0)
   refine Bv (λsl h' ms'=>∃(vis:List Nat) (mJB mJ:Hp),sl=[(3,.pt g3),(13,.pt g13)]/\h5=h'/\ms'=[mJB,mJ]/\OwnMS gJ mJ mJB (Fo (vis.map pr))/\vis.length<=M.length/\(∀j,j∈vis->j<M.length)/\(∀j,j<M.length->j∈vis)/\∀j (hj:j<M.length),M[j].2.length=2) ?_<|λs h ms hI=>?_
   ·refine Ac<|Ad<|Qm Y<|IH hOv fM5 Y I4 Y Y Y Y<|λgi mi0 I0=>Am<|Ag<|EG 1 Y ?_
    refine AB (λq sl h' ms'=>∃(vis:List Nat) (mi mJB mJ:Hp),q=M.length-vis.length/\sl=[(3,.pt g3),(13,.pt g13),(73,.pt gi)]/\h5=h'/\ms'=[mJB,mi,mJ]/\En gi gB mM mi bv vis/\OwnMS gJ mJ mJB (Fo (vis.map pr))/\∀j (hj:j<M.length),j∈vis->M[j].2.length=2)
     (M.length-0) _ ⟨[],mi0,Hp.emp,mJ,rfl,rfl,rfl,rfl,I0,hJS0,λj hj h=>nomatch h⟩ Qs ?_
    rintro q sl h' ms' ⟨vis,mi,mJB,mJ,rfl,rfl,rfl,rfl,I,hJS,hz⟩
    have hvl:∀{w:List Nat} {m':Hp},En gi gB mM m' bv w->w.length<=M.length/\∀j,j∈w->j<M.length:=λ{w m'} I=>by
     have hlt:∀x∈w,x<M.length:=λx hx=>by rw[<-hTl,<-hOv.len];exact I.lt x hx
     have h1:=Go.Kuhn.nodup_le w (range M.length) I.nodup λx hx=>cm.2 (hlt x hx);rw[length_range]at h1;exact⟨h1,hlt⟩
    refine Ar ?_;refine J1 1 hOv I fM5 Y Y Y Y Y Y (λhall=>?_)<|λj hj mi' hjv I'=>?_
    ·refine Qm Y<|Am<|Ac<|AL Y<|Ax<|Aa<|Aa<|Af<|D4 1 Y ?_;exact AI _ ⟨vis,mJB,mJ,Y,Y,Y,hJS,(hvl I).1,(hvl I).2,λj hj=>hall j ω,λj hj=>hz j hj<|hall j ω⟩ Qs
    ·have hjM:j<M.length:=ω
     have hRj:=(hRv j hj hjM).2.up k5
     have hcj:(BJ M M[j].1).getD []=M[j].2:=by have hg:M[j]?=some (M[j].1,M[j].2):=aj hjM;rw[ED hMn hg];rfl
     have hcE:=hMg M[j].1;rw[hcj]at hcE;obtain⟨v,hv⟩:∃v,Tv[j].2=v:=⟨_,Y⟩
     obtain⟨L,hL⟩:∃L,M[j].2=L:=⟨_,Y⟩
     rw[hv,hL]at hRj;have ov:=hRj.rd.one;have hLl:L.length<=4200:=by rw[<-hL,hcE,be];exact bl (fd _ _) ω
     refine Qm Y<|Am<|Ac<|AX Y<|Ah<|Ab<|Ag<|Ar<|Qx (Iz hOv I' fM5 σ hj rfl rfl) rfl ?_;rw[hv];refine Qm Y<|Qm Y<|Am<|Ac<|Ar<|Qm Y<|Qx (Aq hRj.rd.any Y AZ Y) Y<|Qm Y<|Am ?_;refine Aw Y (λhne=>?_)<|λhne=>?_
     ·have h25:YI E x.c.sd.length=25:=by unfold YI;rw[ae (λw=>w hzero),ah λw=>?_];obtain⟨e,he,h1⟩:=(hMk M[j].1).1 (ag.2 ⟨_,ao hjM,Y⟩);have:=w e he;rw[h1,Jj,<-be (f:=λe:Int×Int×Int=>e.1),<-hcE,hL]at this;exact hne ω
      refine Ar<|Qm Y<|Am<|Aj<|Ae<|Ak<|Ae<|Ak<|Ae ?_;exact Al Y Y (by rw[h25])
     ·have hL2:L.length=2:=ω
      obtain⟨a,b,rfl⟩:∃a b,L=[a,b]:=by
       match L,hL2 with
       | [a,b],_=>exact⟨a,b,Y⟩
      have hin:∀k∈[a,b],0<=k/\k<x.c.sd.length:=λk hk=>by rw[<-hL,hcE]at hk;obtain⟨e,he,rfl⟩:=ag.1 hk;exact hEi e (dh.1 he).1
      have ha:=hin a Mh;have hb:=hin b (List.mem_cons_of_mem _ Mh);have haI:Cd a:=by unfold Cd;omega
      have hbI:Cd b:=by unfold Cd;omega
      have hprj:pr j=(a,b):=by
       simp only[pr];have:M.getD j (0,[])=M[j]:=by simp[List.getD,hjM]
       rw[this,hL];rfl
      have hMl:M.length<=4200:=by rw[<-hM];have:=U2 E;omega
      have hPl:(vis.map pr).length<=4200:=by rw[be];have:=(hvl I).1;omega
      have hjl:=Oh (vis.map pr);have hsn:Fo ((vis++[j]).map pr)=FE (FE (Fo (vis.map pr)) a b) b a:=by rw[dd,List.map_singleton,Jh,hprj]
      have hj1:=Kk (Fo (vis.map pr)) a b _ hjl;obtain⟨T0,hT0⟩:∃T0,Fo (vis.map pr)=T0:=⟨_,Y⟩
      rw[hT0]at hJS hjl hsn hj1;have ca:∀ms,Cell h5 ms ((AH v).add (0*1)) (.w a):=λms=>(hRj.any (ms:=ms)).cell0 (j:=0) σ rfl;have cb:∀ms,Cell h5 ms ((AH v).add (1*1)) (.w b):=λms=>(hRj.any (ms:=ms)).cell0 (j:=1) σ rfl;refine Ah<|Ab ?_;obtain⟨Tv1,bv1,u,m1,m2,hO,hu,rfl,hd,hO1,close⟩:=hJS.open a;refine K3 hd ?_;obtain⟨L0,hL0⟩:∃L0,(BJ T0 a).getD []=L0:=⟨_,Y⟩
      have hL0l:L0.length<=10000:=by rw[<-hL0];have:=hjl a;omega
      rw[hL0]at hO1;have hjeq:FE T0 a b=Dw T0 a (L0++[b]):=by unfold FE;rw[hL0]
      have ou:=hO1.o1;refine Bv (λsl h' ms'=>∃(mJB mJ:Hp),sl=[(3,.pt g3),(13,.pt g13),(15,v),(73,.pt gi)]/\h5=h'/\ms'=[mJB,mi',mJ]/\OwnMS gJ mJ mJB (FE T0 a b)) ?_<|λs h ms hI=>?_
      ·refine AS (n:=15) (bs:=[ig,ig,ig,ig,ig,ig,ig,ig,ii,ig,ig,ig,ii,ii,ii]) [ig,ig,ig,ig,ig,ig,ig,ig,ii,ig,ig,ig] CC κ κ Y Y<|QL Y I4 (e13 _)<|Qq Y<|Qp Y (AM 0 hRj.rd.any Y AZ Bk Y Y Y ω)<|QL Y U3 (ca _)<|QL Y I4 (e13 _)<|Qq Y<|Qp Y (AM 0 hRj.rd.any Y AZ Bk Y Y Y ω)<|QL Y U3 (ca _)<|Qq Y<|Qp Y (AM 1 hRj.rd.any Y AZ Bk Y Y Y ω)<|QL Y U3 (cb _) ?_;unfold Dd;simp only[bh,ap];refine A4 [8,12] κ Y ?_;refine AA Y ?_ ?_;refine Qx (DR (V:=P6) (z:=(Value.nl)) a hu BH hO σ rfl I4 LO rfl rfl haI) rfl<|Qw<|Qo 12 rfl<|Ay [_] rfl AZ Bk rfl (by rfl) rfl rfl ω rfl rfl rfl<|λg93=>Qw ?_
       rotate_left
       refine AA Y ?_ ?_;refine Ay [_] Y AZ Bk Y (by rfl) Y Y ω Y Y Y<|λg93=>Qw<|Qo 8 Y<|Qx (DR (V:=P6) (z:=(Value.nl)) a hu BH hO σ rfl I4 LO rfl rfl haI) rfl<|Qw ?_
       rotate_left
       exact A5
       all_goals
        refine Qo 13 Y<|AJ 1 hO1 (RdL.one A8 (x:=b) Mh Y) Y AZ Bk Y ω Y Y Y BT (by(try simp only[ab]);omega) (by(try simp only[ab]);omega) rfl rfl rfl<|λv9 m9 hO9=>?_;have ov9:=hO9.o1;refine Qw<|Qo 14 Y<|C5 (V:=P6) (z:=undef) 4 a v9 BH hO Y Y I4 Y Y Y haI Y Y<|λmM' bs2 hM'=>Qw<|Qe<|AQ<|Hc λhap=>IJ ?_;have hdj:=(b7.1 hap).1 _ Mh;have hMS':=close v9 _ m9 mM' bs2 hdj hO9 hM';rw[<-hjeq]at hMS';exact AI _ ⟨_,mM',Y,Y,Y,hMS'⟩ Qs
      ·obtain⟨mJB,mJ,rfl,rfl,rfl,hJS⟩:=hI;obtain⟨T1,hT1⟩:∃T1,FE T0 a b=T1:=⟨_,Y⟩
       rw[hT1]at hJS hj1 hsn;obtain⟨Tv2,bv2,u2,m1,m2,hO,hu,rfl,hd,hO1,close⟩:=hJS.open b;refine K3 hd ?_;obtain⟨L1,hL1⟩:∃L1,(BJ T1 b).getD []=L1:=⟨_,Y⟩
       have hL1l:L1.length<=10000:=by rw[<-hL1];have:=hj1 b;omega
       rw[hL1]at hO1;have hjeq2:FE T1 b a=Dw T1 b (L1++[a]):=by unfold FE;rw[hL1]
       have ou2:=hO1.o1;refine AS (n:=15) (bs:=[ig,ig,ig,ig,ig,ig,ig,ig,ii,ig,ig,ig,ii,ii,ii]) [ig,ig,ig,ig,ig,ig,ig,ig,ii,ig,ig,ig] CC κ κ Y Y<|QL Y I4 (e13 _)<|Qq Y<|Qp Y (AM 1 hRj.rd.any Y AZ Bk Y Y Y ω)<|QL Y U3 (cb _)<|QL Y I4 (e13 _)<|Qq Y<|Qp Y (AM 1 hRj.rd.any Y AZ Bk Y Y Y ω)<|QL Y U3 (cb _)<|Qq Y<|Qp Y (AM 0 hRj.rd.any Y AZ Bk Y Y Y ω)<|QL Y U3 (ca _) ?_;unfold Dd;simp only[bh,ap];refine A4 [8,12] κ Y ?_;refine AA Y ?_ ?_;refine Qx (DR (V:=P6) (z:=(Value.nl)) b hu BH hO σ rfl I4 LO rfl rfl hbI) rfl<|Qw<|Qo 12 rfl<|Ay [_] rfl AZ Bk rfl (by rfl) rfl rfl ω rfl rfl rfl<|λg107=>Qw ?_
       rotate_left
       refine AA Y ?_ ?_;refine Ay [_] Y AZ Bk Y (by rfl) Y Y ω Y Y Y<|λg107=>Qw<|Qo 8 Y<|Qx (DR (V:=P6) (z:=(Value.nl)) b hu BH hO σ rfl I4 LO rfl rfl hbI) rfl<|Qw ?_
       rotate_left
       exact A5
       all_goals
        refine Qo 13 Y<|AJ 1 hO1 (RdL.one A8 (x:=a) Mh Y) Y AZ Bk Y ω Y Y Y BT (by(try simp only[ab]);omega) (by(try simp only[ab]);omega) rfl rfl rfl<|λv9 m9 hO9=>?_;have ov9:=hO9.o1;refine Qw<|Qo 14 Y<|C5 (V:=P6) (z:=undef) 4 b v9 BH hO Y Y I4 Y Y Y hbI Y Y<|λmM' bs2 hM'=>Qw<|Qe<|AQ<|Hc λhap=>IJ ?_;have hdj:=(b7.1 hap).1 _ Mh;have hMS':=close v9 _ m9 mM' bs2 hdj hO9 hM';rw[<-hjeq2,<-hsn]at hMS';refine Ai ?_;have hv':=(hvl I').1;rw[af,ab]at hv';exact Ao (M.length-(vis.length+1)) _ ω ⟨vis++[j],mi',_,mM',by simp,rfl,rfl,rfl,I',hMS',λi hi' hv=>by rcases bj.1 hv with hv|hv;exact hz i hi' hv;simp at hv;subst hv;rw[hL];rfl⟩ Qs
   ·obtain⟨vis,mJB,mJ,rfl,rfl,rfl,hJS,hv1,hv2,hv3,h2⟩:=hI;refine DA λh6 k6 fJB=>DA λh7 k7 fJ=>?_
    have fJB7:=AD fJB k7;have l57:=AD k6 k7;refine Ar<|Dx (K:=kN) (V:=vB) (Ok:=Cd) Y Y Y Y<|λgS mS hS0=>BS [.map none] Y AcC Y Y<|λg16=>Bh 0 0 Y AcC Y Y (by rfl) Y Y δ Y Y<|Am<|AF λh8 k8 hS16=>?_;have e16:∀ms,Cell h8 ms (⟨g16,0,none⟩:Addr) (.map (some gS)):=λms=>Seg.all hS16 0 _ Y ms;refine Ar<|BS [.nilFunc] Y AcV Y Y<|λg17=>Bp<|Qx (Bz Y Y Y) Y<|Bh 0 0 Y AcV Y Y (by rfl) Y Y δ Y Y<|Am<|AF λh9 k9 hS17=>?_;have e17:∀ms,Cell h9 ms (⟨g17,0,none⟩:Addr) (.func (.func 172) #[] #[.pt g16,.pt g13,.pt g17]):=λms=>Seg.all hS17 0 _ Y ms;obtain⟨P,hP⟩:∃P,vis.map pr=P:=⟨_,Y⟩
    rw[hP]at hJS
    have hpm:∀p,p∈P<->∃j,∃hj:j<M.length,M[j].2=[p.1,p.2]:=λp=>by
     rw[<-hP,ag]
     have hpj:∀j (hj:j<M.length),M[j].2=[(pr j).1,(pr j).2]:=λj hj=>by
      have e:M.getD j (0,[])=M[j]:=by simp[List.getD,hj]
      simp only[pr];rw[e];have hl:=h2 j hj
      match M[j].2,hl with
      | [a,b],_=>rfl
     constructor
     ·rintro⟨j,hj,rfl⟩;exact⟨j,hv2 j hj,hpj j _⟩
     ·rintro⟨j,hj,e⟩;refine⟨j,hv3 j hj,?_⟩;have:=hpj j hj;rw[e]at this;simp only[List.cons.injEq,and_true]at this;exact Prod.ext this.1.symm this.2.symm
    have hMj:∀j (hj:j<M.length),(E.filter λe=>decide (e.2.1=M[j].1)).map (λe=>e.1)=M[j].2:=λj hj=>by have hg:M[j]?=some (M[j].1,M[j].2):=aj hj;rw[<-hMg,ED hMn hg];rfl
    have hcnt:∀e∈E,Gz E e.2.1=2:=λe he=>by obtain⟨l,v,hl⟩:=H8 ((hMk e.2.1).2 ⟨e,he,Y⟩);obtain⟨h1,e1⟩:=br.1 hl;have h3:=hMj l h1;have h4:=h2 l h1;rw[<-h3,e1,be]at h4;rw[Jj];have h4:(E.filter λe'=>decide (e'.2.1=e.2.1)).length=2:=h4;omega
    have hJm:∀a k,k∈(BJ (Fo P) a).getD []<->∃c p q,(E.filter λe=>decide (e.2.1=c)).map (λe=>e.1)=[p,q]/\((a=p/\k=q)\/(a=q/\k=p)):=λa k=>by
     rw[WZ,hpm,hpm];constructor
     ·rintro(⟨j,hj,e⟩|⟨j,hj,e⟩)
      ·exact⟨M[j].1,a,k,by rw[hMj j hj,e],.inl ⟨rfl,rfl⟩⟩
      ·exact⟨M[j].1,k,a,by rw[hMj j hj,e],.inr ⟨rfl,rfl⟩⟩
     ·rintro⟨c,p,q,e,h⟩
      have hc:∃j,∃hj:j<M.length,M[j].2=[p,q]:=by
       have hm:c∈M.map Prod.fst:=(hMk c).2 (by
        have hpm:p∈(E.filter λe=>decide (e.2.1=c)).map (λe=>e.1):=by rw[e];exact Mh
        obtain⟨e',he',_⟩:=ag.1 hpm;obtain⟨h3,h4⟩:=dh.1 he'
        exact⟨e',h3,dq h4⟩)
       obtain⟨l,v,hl⟩:=H8 hm;obtain⟨h1,e1⟩:=br.1 hl;refine⟨l,h1,?_⟩;rw[<-hMj l h1,e1];exact e
      obtain⟨j,hj,e2⟩:=hc;rcases h with ⟨rfl,rfl⟩|⟨rfl,rfl⟩
      ·exact .inl ⟨j,hj,e2⟩
      ·exact .inr ⟨j,hj,e2⟩
    have hPl:P.length<=4200:=by rw[<-hP,be];have:=U2 E;rw[hM]at this;omega
    have V:AeD h9 gS gJ g16 g13 g17 mJ mJB (Fo P) (λa=>(BJ (Fo P) a).getD []) x.c.sd.length:=⟨λms=>(e16 ms).le k9,λms=>(e13 ms).le (AD l57 (AD k8 k9)),e17,hJS,AD fJ (AD k8 k9),AD fJB7 (AD k8 k9),λa=>rfl,λa k hk=>by
     obtain⟨c,p,q,e,h⟩:=(hJm a k).1 hk
     have hin:∀y∈[p,q],0<=y/\y<x.c.sd.length:=λy hy=>by rw[<-e]at hy;obtain⟨e',he',rfl⟩:=ag.1 hy;exact hEi e' (dh.1 he').1
     rcases h with ⟨_,rfl⟩|⟨_,rfl⟩
     ·exact hin _<|List.mem_cons_of_mem _ Mh
     ·exact hin _ Mh,λa=>by have:=Oh P a;show((BJ (Fo P) a).getD []).length<=_;omega,ω⟩
    refine Ar (Ql rfl AeR (e17 _) (E5 (pre:=[mS]) rfl rfl call172 rfl (Zh V (uns x.c.sd.length []+1) 0 [] [] mS hK.p hS0 (fun p hp=>nomatch hp) (Nat.lt_succ_self _)) rfl rfl rfl rfl (fun v' h' pre' l' hF=>?_)));obtain⟨rfl,m',T',bs',rfl,hO',hA',R⟩:=hF;simp only[cons_append,nil_append,append_nil];refine Am (Ac (Ar (Ql rfl Ta ((e16 _).le k9) (Qx (Aa6 hO' (by simp) rfl Ta rfl) rfl ?_))));have hX9:=hX.up (AD lh4 (AD k5 (AD l57 (AD k8 k9))))
    have hmem:∀y,y∈Jy T'<->Con E 0 y:=λy=>by
     rw[Acl hcnt hJm];constructor
     ·intro h;exact(R.new y h (λq=>nomatch q)).1.1
     ·intro h
      induction h with
      | refl=>exact R.me
      | step _ h3 ih=>exact(R.new _ ih (λq=>nomatch q)).1.2 _ h3
    have hlen:T'.length=x.c.sd.length<->(0<x.c.sd.length/\∀i:Nat,i<x.c.sd.length->Con E 0 i):=by
     have hnd:=hO'.keys
     have hsub:∀y∈Jy T',y∈(range x.c.sd.length).map λ(i:Nat)=>(i:Int):=λy hy=>by have:=(R.new y hy (λq=>nomatch q)).2;exact ag.2 ⟨y.toNat,cm.2 ω,ω⟩
     have hle:=Go.Kuhn.nodup_le _ _ hnd hsub;have hr:((range x.c.sd.length).map λ(i:Nat)=>(i:Int)).Nodup:=dz.2 (List.nodup_range.imp λh e=>h ω);constructor
     ·intro h;refine⟨hK.p,λi hi=>(hmem _).1 (aq λhn=>?_)⟩
      have h3:=Go.Kuhn.nodup_le ((i:Int)::Jy T') _ (fl.2 ⟨hn,hnd⟩) λy hy=>by
       rcases bg.1 hy with rfl|hy
       ·exact ag.2 ⟨i,cm.2 hi,Y⟩
       ·exact hsub y hy
      rw[List.length_cons,be,be,length_range]at h3;omega
     ·rintro⟨_,h⟩
      have h3:=Go.Kuhn.nodup_le _ (Jy T') hr λy hy=>by obtain⟨i,hi,rfl⟩:=ag.1 hy;exact(hmem _).2 (h i (cm.1 hi))
      rw[be,be,length_range]at h3;rw[be,be,length_range]at hle;omega
    refine Qf BU Y<|Ql Y Da (((hA 2 _ Y _).le<|AD lh4<|AD k5<|AD l57<|AD k8 k9))<|Qx (Aq hX9.rd.any Y Da Y) Y<|Qm Y<|Am ?_;refine Aw Y (λhne=>?_)<|λhne=>?_
    ·refine Ac<|Ad<|Qm Y<|Am<|Aj<|Ae ?_;exact Al Y Y (by unfold YI;rw[ae (λw=>w hzero),ae (λw=>w hcnt),ah (λw=>hne (by rw[hlen.2 w]))])
    ·refine Ah<|Ab<|Ar<|Qm Y<|Am<|Aj ?_;exact Al Y Y (by unfold YI;rw[ae (λw=>w hzero),ae (λw=>w hcnt),ae (λw=>w (hlen.1 ω))])
variable {U o:List Cl} {i:Nat}
theorem Hs{e:Entry}{Q:Exit->Act->World->Prop}{ops:Array Oper}{r:List Oper}{s:AE}{h:Hp}{ms:List Hp}(k:WL e ops Q r s h ms):∀pre:List Hp,WL e ops Q r s h (pre++ms)
 | []=>k
 | m::pre=>N6 0 rfl (Hs k pre)
def KH(o:List Cl)(i:Nat):Int:=if i=0 then 0 else(o.getD (i-1) default).id
def cA(U o:List Cl)(i:Nat):Option (Int×Int):=
 if(o.getD i default).id<=KH o i then some ((o.getD i default).id,20)
 else if EL U (o.getD i default)≠0 then some ((o.getD i default).id,EL U (o.getD i default)) else none
noncomputable def XF(U o:List Cl)(i:Nat):Option (Int×Int):=
 if 1<(o.getD i default).dim then
  if YI (Kr U (o.getD i default) (o.getD i default).sd.length) (o.getD i default).sd.length≠0 then some ((o.getD i default).id,YI (Kr U (o.getD i default) (o.getD i default).sd.length) (o.getD i default).sd.length) else none
 else none
noncomputable def Nc(U o:List Cl):Int×Int:=
 match (range o.length).findSome? (cA U o) with
 | some e=>e
 | none=>match (range o.length).findSome? (XF U o) with
  | some e=>e
  | none=>(0,0)
theorem ZU{e:Int×Int}(hi:i<o.length)(h:∀j,j<i->cA U o j=none)(he:cA U o i=some e):Nc U o=e:=by unfold Nc;rw[Gk h he o.length hi]
theorem Ad3{e:Int×Int}(hA:∀j,j<o.length->cA U o j=none)(hi:i<o.length)(h:∀j,j<i->XF U o j=none)(he:XF U o i=some e):Nc U o=e:=by unfold Nc;rw[El o.length hA,Gk h he o.length hi]
theorem ZV(hA:∀j,j<o.length->cA U o j=none)(hB:∀j,j<o.length->XF U o j=none):Nc U o=(0,0):=by unfold Nc;rw[El o.length hA,El o.length hB]
structure AeS(l:List Ce):Prop extends OfOk l where
 d:∀a∈l,Cd a.c.dim
 r:∀a∈l,∀s∈a.c.sd,Cd s.1/\Cd s.2
theorem NG{x:Cl}(h:EL U x=0):(0<=x.dim/\x.dim<=8)/\¬Cb x/\(∀i,i<x.sd.length->¬IY U x i)/\∀i,i<x.sd.length->¬B1 x i:=by
 unfold EL at h;split at h
 ·exact ie h δ
 rename_i h1;split at h
 ·exact ie h δ
 rename_i h2;split at h
 ·exact ie h δ
 rename_i h3;split at h
 ·exact ie h δ
 rename_i h4;exact⟨ω,h2,ef.1 h3,ef.1 h4⟩
theorem JK(h:i<o.length):o.getD i default=o[i]:=by simp[List.getD,h]
theorem VA(hi:i<o.length)(h:cA U o i=none):KH o i<o[i].id/\EL U o[i]=0:=by
 unfold cA at h;rw[JK hi]at h;split at h
 ·cases h
 ·rename_i h1;split at h
  ·cases h
  ·rename_i h2;exact⟨ω,ef.1 h2⟩
theorem Ady(h:∀j,j<o.length->cA U o j=none):o.Pairwise λa b=>a.id<b.id:=by
 have key:∀j (hj:j<o.length) i (hi:i<j),o[i].id<o[j].id:=λj=>by
  induction j with
  | zero=>intro hj i hi;omega
  | succ j ih=>
   intro hj i hi;have h1:=(VA hj (h _ hj)).1
   have h2:KH o (j+1)=o[j].id:=by unfold KH;rw[ae ω,Nat.add_sub_cancel,JK ω]
   rw[h2]at h1;rcases (ω:i<j\/i=j) with h3|rfl
   ·have:=ih ω i h3;omega
   ·exact h1
 rw[ct];intro i j hi hj hij;exact key j hj i hij
theorem AeM{l o1 o2:List Cl}(C1:CanO l o1)(C2:CanO l o2)(hU:∀y∈U,y∈o1)(hr:∀a∈l,∀s∈a.sd,Cd s.1/\Cd s.2)(hA:∀j,j<o2.length->cA U o2 j=none){x:Cl}(hx:x∈o2)(hd:1<x.dim):AbG U x:=by
 have hnd:(l.map Cl.id).Nodup:=C2.ids.nodup_iff.1 (TQ (Ady hA))
 have hf:∀y∈o2,EL U y=0:=λy hy=>by obtain⟨j,hj,rfl⟩:=List.getElem_of_mem hy;exact(VA hj (hA j hj)).2
 have hy2:∀y∈o2,y.sd.length<=64/\∀s∈y.sd,Cd s.1/\(s.2=1\/s.2=-1):=λy hy=>by obtain⟨h1,h2,h3,h4⟩:=NG (hf y hy);refine⟨by unfold Cb at h2;omega,λs hs=>?_⟩;obtain⟨i,hi,rfl⟩:=List.getElem_of_mem hs;have h5:=h4 i hi;unfold B1 at h5;rw[Bj hi]at h5;obtain⟨a,ha,_,_,hp⟩:=C2.sim.mem y hy;exact⟨(hr a ha _ (hp.mem_iff.1 (ao hi))).1,ω⟩
 have hyU:∀y∈U,y.sd.length<=64/\∀s∈y.sd,Cd s.1/\(s.2=1\/s.2=-1):=λy hy=>by obtain⟨a,ha,_,_,hp⟩:=C1.sim.mem y (hU y hy);obtain⟨y',hy',_,_,hp'⟩:=C2.sim.to hnd ha;obtain⟨h1,h2⟩:=hy2 y' hy';refine⟨by rw[hp.length_eq,<-hp'.length_eq];exact h1,λs hs=>h2 s (hp'.mem_iff.2 (hp.mem_iff.1 hs))⟩
 have hcel:∀c,(GF U c).sd.length<=64/\∀s∈(GF U c).sd,Cd s.1/\(s.2=1\/s.2=-1):=λc=>by
  unfold GF ZP;cases hc:U.find? λy=>decide (y.id=c) with
  | none=>exact⟨by simp[default,instInhabitedCl.default],λs hs=>by simp[default,instInhabitedCl.default]at hs⟩
  | some y=>exact hyU y<|List.mem_of_find?_eq_some hc
 obtain⟨h1,h2⟩:=hy2 x hx;obtain⟨_,h4,_,_⟩:=NG (hf x hx);exact⟨h1,by unfold Cb at h4;omega,λi _=>(hcel _).1,λs hs=>h2 s hs,λi _ r hr=>(hcel _).2 r hr⟩
theorem XD(l:List Ce)(v:Value)(hp:Hp)(hK:AeS l)(hR:RdC hp v l):FnT Tryz.prog 83 #[.agg #[v]] hp [] (λr _ _=>∃e,r=.tuple #[.int .i64 e.1,.int .i64 e.2]/\((4000<l.length/\e=(0,2))\/(l.length<=4000/\∃A1 A2:List Ce,CanO (l.map Ce.c) (A1.map Ce.c)/\CanO (l.map Ce.c) (A2.map Ce.c)/\e=Nc ((TC A1).map Ce.c) (A2.map Ce.c)))):=by
 have o1:=hR.q.rd.one;refine Ap func83 ntmps83 Y Y<|λw0 hw0=>?_;simp only[AR];refine Ar<|AK [_] Y Y (by rfl) Y Y Y<|λg1=>Qm Y<|Qm Y<|Am<|AF λh1 l1 hS=>?_;have hR:=hR.up l1;refine Ac<|Ar<|Qf Ct Y<|Ql Y B0 (Seg.all hS 0 _ Y _)<|Qx (Aq hR.q.rd.any Y B0 Y) Y<|Qm Y<|Am ?_;refine Aw Y (λh4=>?_)<|λh4=>?_
 ·refine Ac<|Ad<|Qm Y<|Qm Y<|Am<|Aj<|Ae ?_;exact Ck Y Y Y (⟨(0,2),Y,.inl ⟨ω,Y⟩⟩)
 ·refine Ah<|Ab<|Ar<|Qx (oG Y C9 Bd<|Seg.any hS) Y<|Qc call88 Y (Ac3 l v h1 hK.toOfOk hR)<|λrT h2 ms2 l2 hF=>?_;obtain⟨l2',rfl,g,A1,rfl,hC1,hT⟩:=hF;have hR2:=hR.up l2;have hS2:=hS.le l2;refine Qm Y<|Bp<|Qx (oG Y C9 Bd<|Seg.any hS2) Y<|Qc call133 Y (Ny l v h2 hK.toOrdC hR2)<|λrC h3 ms3 l3 hF=>?_;obtain⟨l3',mA,A2,vA,rfl,rfl,hOA,hC2,hsA⟩:=hF;refine Bt hOA λhq l4 hQ=>?_;have hsA:=λa ha=>(hsA a ha).up l4;have hT:=hT.up (AD l3 l4);have ovA:=hQ.rd.one
  have hU1:∀y∈(TC A1).map Ce.c,y∈A1.map Ce.c:=λy hy=>by
   obtain⟨a,ha,rfl⟩:=ag.1 hy;rcases Lo _ _ a ha with h|h
   ·cases h
   ·exact ag.2 ⟨a,h,Y⟩
  obtain⟨W,hW⟩:∃W,TC A1=W:=⟨_,Y⟩
  rw[hW]at hT hU1;have hol:A2.length=l.length:=by have:=hC2.len;rwa [be,be]at this
  have hln:=hK.n
  have hx2:∀a∈A2,∃b∈l,a.c.id=b.c.id/\a.c.dim=b.c.dim/\a.c.sd.Perm b.c.sd:=λa ha=>by obtain⟨y,hy,e1,e2,e3⟩:=hC2.sim.mem a.c (ag.2 ⟨a,ha,Y⟩);obtain⟨b,hb,rfl⟩:=ag.1 hy;exact⟨b,hb,e1,e2,e3⟩
  have hget:∀i (hi:i<A2.length),(A2.map Ce.c).getD i default=A2[i].c:=λi hi=>by simp[List.getD,hi]
  have hres:∀e,e=Nc (W.map Ce.c) (A2.map Ce.c)->(4000<l.length/\e=(0,2))\/(l.length<=4000/\∃A1 A2:List Ce,CanO (l.map Ce.c) (A1.map Ce.c)/\CanO (l.map Ce.c) (A2.map Ce.c)/\e=Nc ((TC A1).map Ce.c) (A2.map Ce.c)):=λe he=>.inr ⟨ω,A1,A2,hC1,hC2,by rw[he,hW]⟩;refine Qx (Hg Y C9 Y B0 Y Y Y) Y<|Qm Y<|Qm Y<|Am ?_;refine Bv (λsl h' ms'=>sl=[(4,.pt g),(6,vA)]/\hq.le h'/\ms'=[]/\∀j,j<A2.length->cA (W.map Ce.c) (A2.map Ce.c) j=none) ?_<|λs h ms hI=>?_
  ·refine Ac<|Ad<|Qm Y<|Qx (Aq hQ.rd.any Y B0 Y) Y<|Qm Y<|Am<|Ag ?_
   refine AB (λq sl h' ms'=>∃(i:Nat),q=A2.length-i/\sl=[(4,.pt g),(5,.w (KH (A2.map Ce.c) i)),(6,vA),(22,vA),(23,.w A2.length),(24,.w i)]/\hq.le h'/\ms'=[]/\i<=A2.length/\∀j,j<i->cA (W.map Ce.c) (A2.map Ce.c) j=none)
    (A2.length-0) _ ⟨0,rfl,rfl,BE,rfl,ω,λj h=>ω⟩ Qs ?_
   rintro q sl h5 ms' ⟨i,rfl,rfl,l5,rfl,hi,hno⟩;have hQ:=hQ.up l5;refine Ar<|Qm Y<|Am<|Ac ?_;refine Aw Y (λhlt=>?_)<|λhlt=>?_
   ·have hil:i<A2.length:=ω
    obtain⟨x,hx⟩:∃x,A2[i]=x:=⟨_,Y⟩
    have hxm:x∈A2:=by rw[<-hx];exact ao hil
    have hgx:=hget i hil;rw[hx]at hgx;obtain⟨b,hb,e1,e2,e3⟩:=hx2 x hxm;have hX:=(hsA x hxm).up l5;have hd:Cd x.c.dim:=by rw[e2];exact hK.d b hb
    have hn:x.c.sd.length<=1000000:=by rw[e3.length_eq];have:=hK.s b hb;omega
    have hr:∀s∈x.c.sd,Cd s.1/\Cd s.2:=λs hs=>hK.r b hb s (e3.mem_iff.1 hs);have oxv:=hX.rd.one
    have hl1:KH (A2.map Ce.c) (i+1)=x.c.id:=by unfold KH;rw[ae ω,Nat.add_sub_cancel,hgx]
    have hcl:i<(A2.map Ce.c).length:=by rw[be];exact hil
    have hsx:∀ms,Seg h5 ms ((AH vA).add (i*3)) (cC x):=λms=>by rw[<-hx];exact(hQ.any (ms:=ms)).seg hil
    refine Ah<|Ab<|Ac<|Ag<|Ar<|Qx (BC (i) hQ.rd.any Y B0 A3 Y Y) Y<|Qx (oG Y Jz A3<|hsx _) Y<|BS [.w 0,.w 0,.nl] Y A3 Y Y<|λg8=>?_;refine Sa 0 [_,_,_] A3 Y (by simp[o1,ovA,oxv]) ?_;refine Am<|AF λh6 l6 hS8=>?_;have e80:∀ms,Cell h6 ms (⟨g8,0,none⟩:Addr) (.w x.c.id):=λms=>Seg.all hS8 0 _ Y ms;have l56:=AD l5 l6;refine Ac<|Ar<|Qf BZ Y<|Ql Y U3 (e80 _)<|Qm Y<|Qm Y<|Am ?_;refine Aw Y (λhle=>?_)<|λhle=>?_
    ·have hch:=ZU (U:=W.map Ce.c) hcl hno (by unfold cA;rw[hgx,ah hle]);refine Ar<|Qf BZ Y<|Ql Y U3 (e80 _)<|Qm Y<|Qm Y<|Am<|Aj<|Ae<|Ak<|Ae<|Ae<|Ak<|Ae ?_;exact Ck Y Y Y (⟨_,Y,hres _ hch.symm⟩)
    ·refine Ah<|Ab<|Ar<|Qf BZ Y<|Ql Y U3 (e80 _)<|Qm Y<|Bp<|Qm Y<|Qx (oG Y Jz A3<|Seg.any hS8) Y<|Qc call134 Y (Ab1 W x g h6 (hT.up l56) (hX.up l6) hd hn hr)<|λrF h7 ms7 l7 hF=>?_;subst hF;refine Hs ?_ ms7;have e80:∀ms,Cell h7 ms (⟨g8,0,none⟩:Addr) (.w x.c.id):=λms=>(e80 ms).le l7;refine Qm Y<|Bp<|Qm Y<|Qm Y<|Am ?_;refine Aw Y (λhne=>?_)<|λhne=>?_
     ·have hch:=ZU (U:=W.map Ce.c) hcl hno (by unfold cA;rw[hgx,ae hle,ah hne]);refine Ar<|Qf BZ Y<|Ql Y U3 (e80 _)<|Qm Y<|Qm Y<|Qm Y<|Am<|Aj<|Ak<|Ae<|Ae<|Ak<|Ae ?_;exact Ck Y Y Y (⟨_,Y,hres _ hch.symm⟩)
     ·have hci:cA (W.map Ce.c) (A2.map Ce.c) i=none:=by unfold cA;rw[hgx,ae hle,ae hne]
      refine Ah<|Ai<|Ab<|Ad<|Qx (oA Y) Y<|Qm Y<|An ?_
      exact Ao (A2.length-(i+1)) _ ω ⟨i+1,Y,by rw[hl1],AD l56 l7,rfl,ω,λj hj=>by
       rcases (ω:j<i\/j=i) with h1|rfl
       ·exact hno j h1
       ·exact hci⟩ Qs
   ·obtain rfl:i=A2.length:=ω
    refine Ax<|Aa<|Aa<|Af ?_;exact AI _ ⟨Y,l5,Y,hno⟩ Qs
  ·obtain⟨rfl,l5,rfl,hno⟩:=hI;have hno':∀j,j<(A2.map Ce.c).length->cA (W.map Ce.c) (A2.map Ce.c) j=none:=λj hj=>hno j (by rwa [be]at hj);have hQ:=hQ.up l5;have hT:=hT.up l5;have hsA:=λa ha=>(hsA a ha).up l5;refine Ac<|Ar<|Qm Y<|Qx (Aq hQ.rd.any Y B0 Y) Y<|Qm Y<|Am<|Ag ?_
   refine AB (λq sl h' ms'=>∃(i:Nat),q=A2.length-i/\sl=[(4,.pt g),(45,vA),(46,.w A2.length),(47,.w i)]/\h.le h'/\ms'=[]/\i<=A2.length/\∀j,j<i->XF (W.map Ce.c) (A2.map Ce.c) j=none)
    (A2.length-0) _ ⟨0,rfl,rfl,BE,rfl,ω,λj h=>ω⟩ Qs ?_
   rintro q sl h6 ms' ⟨i,rfl,rfl,l6,rfl,hi,hnB⟩;have hQ:=hQ.up l6;refine Ar<|Qm Y<|Am<|Ac ?_;refine Aw Y (λhlt=>?_)<|λhlt=>?_
   ·have hil:i<A2.length:=ω
    obtain⟨x,hx⟩:∃x,A2[i]=x:=⟨_,Y⟩
    have hxm:x∈A2:=by rw[<-hx];exact ao hil
    have hgx:=hget i hil;rw[hx]at hgx;have hX:=(hsA x hxm).up l6;have oxv:=hX.rd.one;have hcl:i<(A2.map Ce.c).length:=by rw[be];exact hil
    have hsx:∀ms,Seg h6 ms ((AH vA).add (i*3)) (cC x):=λms=>by rw[<-hx];exact(hQ.any (ms:=ms)).seg hil
    have hstep:XF (W.map Ce.c) (A2.map Ce.c) i=none->∀j,j<i+1->XF (W.map Ce.c) (A2.map Ce.c) j=none:=λh j hj=>by
     rcases (ω:j<i\/j=i) with h1|rfl
     ·exact hnB j h1
     ·exact h
    refine Ah<|Ab<|Ac<|Ag<|Ar<|Qx (BC (i) hQ.rd.any Y B0 A3 Y Y) Y<|Qx (oG Y Jz A3<|hsx _) Y<|BS [.w 0,.w 0,.nl] Y A3 Y Y<|λg11=>?_;refine Sa 0 [_,_,_] A3 Y (by simp[o1,ovA,oxv]) ?_;refine Am<|AF λh7 l7 hS11=>?_;have e110:∀ms,Cell h7 ms (⟨g11,0,none⟩:Addr) (.w x.c.id):=λms=>Seg.all hS11 0 _ Y ms;have e111:∀ms,Cell h7 ms (⟨g11,1,none⟩:Addr) (.w x.c.dim):=λms=>Seg.all hS11 1 _ Y ms;have l67:=AD l6 l7;refine Ar<|Qf Cj Y<|Ql Y U3 (e111 _)<|Qm Y<|Am ?_;refine Aw Y (λhd=>?_)<|λhd=>?_
    ·have hAr:AbG (W.map Ce.c) x.c:=AeM hC1 hC2 hU1 (λa ha s hs=>by
      obtain⟨b,hb,rfl⟩:=ag.1 ha
      exact hK.r b hb s hs) hno' (ag.2 ⟨x,hxm,Y⟩) hd
     refine Ar<|Qm Y<|Qx (oG Y Jz A3<|Seg.any hS11) Y<|Qc call135 Y (W2 W x g h7 (hT.up l67) (hX.up l7) hAr)<|λrF h8 ms8 l8 hF=>?_;subst hF;refine Hs ?_ ms8;have e110:∀ms,Cell h8 ms (⟨g11,0,none⟩:Addr) (.w x.c.id):=λms=>(e110 ms).le l8;refine Qm Y<|Bp<|Qm Y<|Qm Y<|Am ?_;refine Aw Y (λhne=>?_)<|λhne=>?_
     ·have hch:=Ad3 (U:=W.map Ce.c) hno' hcl hnB (by unfold XF;rw[hgx,ah hd,ah hne]);refine Ar<|Qf BZ Y<|Ql Y U3 (e110 _)<|Qm Y<|Qm Y<|Qm Y<|Am<|Aj<|Ak<|Ae<|Ae<|Ak<|Ae ?_;exact Ck Y Y Y (⟨_,Y,hres _ hch.symm⟩)
     ·have hci:XF (W.map Ce.c) (A2.map Ce.c) i=none:=by unfold XF;rw[hgx,ah hd,ae hne]
      refine Ah<|Ai<|Ab<|Ad<|Qx (oA Y) Y<|Qm Y<|An ?_;exact Ao (A2.length-(i+1)) _ ω ⟨i+1,Y,Y,AD l67 l8,Y,ω,hstep hci⟩ Qs
    ·have hci:XF (W.map Ce.c) (A2.map Ce.c) i=none:=by unfold XF;rw[hgx,ae hd]
     refine Ah<|Ai<|Ab<|Ad<|Qx (oA Y) Y<|Qm Y<|An ?_;exact Ao (A2.length-(i+1)) _ ω ⟨i+1,Y,Y,l67,Y,ω,hstep hci⟩ Qs
   ·obtain rfl:i=A2.length:=ω
    have hch:=ZV hno' (λj hj=>hnB j (by rwa [be]at hj));refine Ax<|Aa<|Aa<|Af<|Ab<|Ar<|Qm Y<|Qm Y<|Am<|Aj ?_;exact Ck Y Y Y (⟨(0,0),Y,hres _ hch.symm⟩)
end
section
variable {l:List Ce} {x c:Cl} {o:List Cl}
theorem Yn(U:List Cl)(x:Cl):KR U x=(Kr U x x.sd.length).map λe=>((Bm x e.1.toNat).1,e.2):=by
 have hx:x.sd=(range x.sd.length).map (Bm x):=fw σ λj h1 h2=>by simp[Bj h1]
 unfold KR QW
 conv=>lhs;rw[hx]
 unfold Kr;rw[List.flatMap_map,List.map_flatMap];refine Hw λi hi=>?_;unfold Ze;rw[gg];exact gc λr _=>by simp
theorem ZL(E:HA)(f:Int->Int)(c:Int):EW (E.map λe=>(f e.1,e.2)) c=EW E c/\Gz (E.map λe=>(f e.1,e.2)) c=Gz E c:=by unfold EW Gz;rw[gg,gg];exact⟨Y,Y⟩
theorem Acd{U:List Cl}(G:GoodT (KR U x) x.sd)(hn:0<x.sd.length)(hd:(x.sd.map Prod.fst).Nodup):YI (Kr U x x.sd.length) x.sd.length=0:=by
 have hT:=Yn U x;obtain⟨E,hE⟩:∃E,Kr U x x.sd.length=E:=⟨_,Y⟩
 have hi:∀e∈E,∃i:Nat,i<x.sd.length/\e.1=(i:Int):=λe he=>by rw[<-hE]at he;obtain⟨i,hi,r,_,rfl⟩:=Pr he;exact⟨i,hi,Y⟩
 rw[hE]at hT ⊢;rw[hT]at G;have hsm:=λc=>ZL E (λk=>(Bm x k.toNat).1) c
 have h1:∀e∈E,EW E e.2.1=0:=λe he=>by have h:=G.sum ((Bm x e.1.toNat).1,e.2) (ag.2 ⟨e,he,Y⟩);rw[(hsm _).1]at h;exact h
 have h2:∀e∈E,Gz E e.2.1=2:=λe he=>by have h:=G.two ((Bm x e.1.toNat).1,e.2) (ag.2 ⟨e,he,Y⟩);rw[(hsm _).2]at h;exact h
 have hinj:∀i j:Nat,i<x.sd.length->j<x.sd.length->(Bm x i).1=(Bm x j).1->i=j:=λi j hi hj e=>by
  rcases gk i j with h|h|h
  ·exact ie e<|J0 hd i j h hj
  ·exact h
  ·exact ie e.symm<|J0 hd j i h hi
 have hcon:∀{u v:Int},Con (E.map λe=>((Bm x e.1.toNat).1,e.2)) u v->∀i:Nat,i<x.sd.length->u=(Bm x i).1->∃j:Nat,j<x.sd.length/\v=(Bm x j).1/\Con E i j:=λ{u v} h=>by
  induction h with
  | refl=>intro i hi e;exact⟨i,hi,e,.refl _⟩
  | @step b d c w w' _ m1 m2 ih=>
   intro i hi0 e;obtain⟨j,hj,e1,C⟩:=ih i hi0 e;obtain⟨p,hp,q1⟩:=ag.1 m1;obtain⟨p',hp',q2⟩:=ag.1 m2;obtain⟨k,hk,ek⟩:=hi p hp;obtain⟨k',hk',ek'⟩:=hi p' hp';rw[ek]at q1;rw[ek']at q2;have a1:=(Prod.mk.injEq _ _ _ _ ▸ q1:_/\_)
   have a2:=(Prod.mk.injEq _ _ _ _ ▸ q2:_/\_)
   obtain⟨b1,b2⟩:=a1;obtain⟨b1',b2'⟩:=a2;rw[Int.toNat_natCast]at b1 b1';have hkj:k=j:=hinj k j hk hj (by rw[b1,e1]);subst hkj;refine⟨k',hk',b1'.symm,.step C (c:=c) (w:=w) (w':=w') ?_ ?_⟩
   ·have:p=((k:Int),c,w):=by rw[<-ek,<-b2]
    rw[<-this];exact hp
   ·have:p'=((k':Int),c,w'):=by rw[<-ek',<-b2']
    rw[<-this];exact hp'
 have h3:0<x.sd.length/\∀i:Nat,i<x.sd.length->Con E 0 i:=by refine⟨hn,λi hi'=>?_⟩;have hc:=G.con (Bm x 0) (by rw[Bj hn];exact ao hn) (Bm x i) (by rw[Bj hi'];exact ao hi');obtain⟨j,hj,e,C⟩:=hcon hc 0 hn Y;rw[hinj i j hi' hj e];exact C
 unfold YI;rw[ae (λw=>w h1),ae (λw=>w h2),ae (λw=>w h3)]
theorem AcS:sgs x x.sd.length=(x.sd.map Prod.snd).sum:=by unfold sgs;rw[fe]
theorem Yg(R:Rgt o)(hx:x∈o):EL o x=0:=by
 have hb:∀i,i<x.sd.length->¬IY o x i:=λi hi q=>by
  obtain⟨y,hy,e1,e2⟩:=R.sid x hx _ (ao hi);unfold IY at q;rw[Bj hi,<-e1,ET R.nd hy,DT R.nd hy]at q;rcases q with q|q|⟨q1,q2⟩
  ·cases q
  ·exact q e2
  ·rw[e1,<-Bj hi]at q2;exact J0 (R.sds x hx) (i-1) i ω hi q2
 have hs:∀i,i<x.sd.length->¬B1 x i:=λi hi q=>by unfold B1 at q;rw[Bj hi]at q;have:=R.sgn x hx _ (ao hi);omega
 unfold EL
 rw[ae (by have:=R.dim x hx;omega),ae (R.num x hx),ae (λw=>w hb),ae (λw=>w hs),ae λq=>by
  have:=R.one x hx q.1;rw[AcS]at q
  exact q.2 this]
theorem X5(R:RgtF o):Nc o o=(0,0):=by
 have G:=R.rgt;refine ZV (λj hj=>?_) λj hj=>?_
 ·unfold cA;rw[JK hj,ae,ae]
  ·exact λq=>q<|Yg G<|ao hj
  ·unfold KH;split
   ·have:=G.pos _ (ao hj);omega
   ·rw[JK ω];have:=ct.1 R.inc (j-1) j ω hj ω;omega
 ·unfold XF;rw[JK hj];split
  ·rename_i hd;have hx:=ao hj;have hnum:=G.num _ hx;unfold Cb at hnum;rw[ae];exact λq=>q<|Acd (G.tab _ hx ω) ω<|G.sds _ hx
  ·rfl
structure RgC(l:List Ce):Prop where
 r:Rgt (l.map Ce.c)
 i:∀a∈l,a.c.id<=1000000
 o:OrdC l
def cn(l:List Ce):List Cl:=ordF (l.map Ce.c)
theorem Jg(l:List Ce):(cn l).length=l.length:=by unfold cn;rw[He,be]
theorem RgC.F(R:RgC l):RgtF (cn l):=R.r.ordF
theorem CanO.ord{l:List Cl}(C:CanO l o)(R:Rgt l):o=ordF l:=by
 have F:=R.ordF;have hp:=Ek l.length l (am _);obtain⟨l',h1,h2,h3⟩:=C.mem;have hinc:=F.inc
 have hm:(o.map Cl.id)=(ordF l).map Cl.id:=by refine Ir id (C.ids.trans ?_) (dz.2 C.inc)<|dz.2 hinc;have:=(hp.map Cl.id).symm;rw[gg]at this;exact this
 have hlen:o.length=(ordF l).length:=by have:=aw List.length hm;simpa using this
 refine fw hlen λi h1' h2'=>?_;obtain⟨a1,a2,a3,a4⟩:=h3 i h1' ω
 have e1:o[i].id=(ordF l)[i].id:=by have:=List.getElem_of_eq hm (i:=i) (by simpa using h1');simpa using this
 have hxl:l'[i]'ω∈l:=h1.mem_iff.1 (ao _);obtain⟨z,hz,ez⟩:=H0 (ao h2')
 have hzz:z=l'[i]'ω:=by
  have b1:=ET R.nd hz;have b2:=ET R.nd hxl;have:z.id=(l'[i]'ω).id:=by rw[<-a1,e1,ez];rfl
  rw[this,b2]at b1;exact(bf b1).symm
 have hs:o[i].sd=(ordF l)[i].sd:=by refine Ir Prod.fst (a3.trans ?_) a4<|F.sinc _<|ao h2';rw[ez,hzz];exact(Du _).symm
 have hd:o[i].dim=(ordF l)[i].dim:=by rw[a2,ez,hzz];rfl
 revert e1 hs hd;generalize o[i]=x;generalize (ordF l)[i]=y;cases x;cases y;intro e1 hs hd;simp only at e1 hs hd;rw[e1,hs,hd]
theorem Adm(h:c∈cn l):∃b∈l,c=b.c.can:=by obtain⟨a,ha,e⟩:=H0 h;obtain⟨b,hb,rfl⟩:=ag.1 ha;exact⟨b,hb,e⟩
theorem RgC.ci(R:RgC l)(h:c∈cn l):c.id<=1000000:=by obtain⟨b,hb,rfl⟩:=Adm h;exact R.i b hb
theorem RgC.cI(R:RgC l)(h:c∈cn l):Cd c.id:=by have:=R.ci h;have:=R.F.rgt.pos _ h;unfold Cd;omega
theorem Rgt.bds{l:List Cl}(R:Rgt l)(hx:x∈l):(0<=x.dim/\x.dim<=8)/\x.sd.length<=64:=by have h1:=R.dim x hx;have h2:=R.num x hx;unfold Cb at h2;omega
theorem RgC.pc(R:RgC l):AeS l:=by
 have G:=R.r;have hm:∀a∈l,a.c∈l.map Ce.c:=λa ha=>ag.2 ⟨a,ha,Y⟩;have hid:∀a∈l,Cd a.c.id:=λa ha=>by have:=G.pos _ (hm a ha);have:=R.i a ha;unfold Cd;omega
 refine⟨⟨R.o,hid⟩,λa ha=>?_,λa ha s hs=>?_⟩
 ·have:=(G.bds (hm a ha)).1;unfold Cd;omega
 ·obtain⟨y,hy,e,_⟩:=G.sid _ (hm a ha) s hs;obtain⟨b,hb,rfl⟩:=ag.1 hy;have h2:=G.sgn _ (hm a ha) s hs;rw[<-e];exact⟨hid b hb,by unfold Cd;omega⟩
theorem Ac0{A:List Ce}(h:A.map Ce.c=o)(hn:(o.map Cl.id).Nodup):(A.map λa=>a.c.id).Nodup:=by rw[<-h,gg]at hn;exact hn
theorem Xz(l:List Ce)(v:Value)(hp:Hp)(hK:RgC l)(hR:RdC hp v l):FnT Tryz.prog 83 #[.agg #[v]] hp [] (λr _ _=>r=.tuple #[.int .i64 0,.int .i64 0]):=by
 refine(XD l v hp hK.pc hR).mono λr _ _ h=>?_;obtain⟨e,rfl,h⟩:=h;have hn:=hK.r.n;rw[be]at hn;have hF:=hK.F;rcases h with ⟨h,_⟩|⟨_,A1,A2,C1,C2,rfl⟩
 ·omega
 ·have e1:=C1.ord hK.r;have e2:=C2.ord hK.r;rw[ZW (Ac0 e1 hF.rgt.nd),e1,e2];have:=X5 hF;unfold cn at this;rw[this]
theorem Ui(l:List Ce)(v:Value)(hp:Hp)(hK:RgC l)(hR:RdC hp v l):FnT Tryz.prog 88 #[.agg #[v]] hp [] (λr h' ms'=>hp.le h'/\ms'=[]/\∃g A,r=.pointer (some ⟨g,0,none⟩)/\A.map Ce.c=cn l/\RdT h' g A):=by refine(Ac3 l v hp hK.pc.toOfOk hR).mono λr h' ms' h=>?_;obtain⟨h1,h2,g,A,h3,h4,h5⟩:=h;have e:A.map Ce.c=cn l:=h4.ord hK.r;rw[ZW (Ac0 e hK.F.rgt.nd)]at h5;exact⟨h1,h2,g,A,h3,e,h5⟩
end
section
open Go.Lin Go.Wd
theorem Hl(l:List Nat)(v:Value)(h:Hp)(R:RdL CU 1 h [] v l)(hl:l.length<=10000000) :
  FnT Tryz.prog 165 #[v] h [] (λr h' ms'=>h.le h'/\ms'=[]/\RdL CU 1 h' [] r (De l)):=by
 refine Ap func165 ntmps165 Y Y<|λw0 hw0=>?_;simp only[AR];refine Ar<|Qm Y<|Am<|Ac<|Ag ?_
 refine AB (λq sl h' ms'=>∃(k:Nat) (u:Value),k=q/\sl=[(0,u),(2,.nl)]/\h=h'/\ms'=[]/\k<=l.length/\RdL CU 1 h [] u (l.take k)/\De (l.take k)=De l)
  l.length _ ⟨l.length,v,rfl,rfl,rfl,rfl,am _,by rw[fe];exact R,by rw[fe]⟩ Qs ?_
 rintro q sl h' ms' ⟨k,u,rfl,rfl,rfl,rfl,hk,hR,hs⟩;have hkl:(l.take k).length=k:=by rw[ay];omega
 refine Ac<|Ar<|Qm Y<|Qx (Aq hR.rd.any Y Cm Y) Y<|Qm Y<|Qm Y ?_;refine AU (t:=6) Y (λh1=>?_)<|λh1=>?_
 ·have hk0:0<k:=by have:=C7 h1;omega
  obtain⟨a,ha⟩:∃a,l[k-1]'ω=a:=⟨_,Y⟩
  have hkt:l.take k=l.take (k-1)++[a]:=by have:=ak (l:=l) (i:=k-1) ω;rw[ha,show k-1+1=k by omega]at this;exact this
  have hc:Cell h [] ((AH u).add ((k-1)*1)) (.int .u64 (a:Int)):=by
   have hk1:k-1<(l.take k).length:=ω
   have e:(l.take k)[k-1]=a:=by rw[ic];exact ha
   exact hR.cell0 hk1 (by rw[e];rfl)
  refine Qg (Au Y Y) Y<|Qg (Au Y Y) Y<|Qg (Aq hR.rd.any Y Cm Y) Y<|Qg (oS Y) Y<|Qg (BC (k-1) hR.rd.any Y Cm Cn Y Y) Y<|Qg (oL Y Fi<|hc) Y<|Qg (Cq Y Y Y) Y<|Qm Y<|Am ?_;refine Aw Y (λh2=>?_)<|λh2=>?_
  ·have ha0:a=0:=ω
   refine Ah<|Ab<|Ag<|Ad<|Qm Y<|Qm Y<|Qx (Aq hR.rd.any Y Cm Y) Y<|Qx (oS Y) Y<|Qx (DL (k-1) hR.rd.any Y Cm Cn Y Y ω ω) Y<|Qm Y<|An<|Ai ?_
   exact Ao (k-1) _ ω ⟨k-1,CP 1 u 0 (k-1),Y,Y,Y,Y,ω,by
    have:=RdL.sub_ hR (i:=0) (j:=k-1) ω (by rw[hkl];omega)
    simpa[List.take_take,fu (show k-1<=k by omega)] using this,by rw[<-hs,hkt,ha0,E0]⟩ Qs
  ·have ha0:a≠0:=ω
   refine Ax<|Aa<|Aa<|Af<|Ab<|Ar<|Qm Y<|Qm Y<|Am<|Aj ?_;exact Al Y Y (⟨BE,Y,by rw[<-hs,hkt,Gp _ ha0,<-hkt];exact hR⟩)
 ·have hk0:k=0:=ω
  subst hk0;refine Qk Y<|Qk Y<|Qk Y<|Qk Y<|Qk Y<|Qk Y<|Qk Y<|Qm Y<|Am<|AL Y<|Ax<|Aa<|Aa<|Af<|Ab<|Ar<|Qm Y<|Qm Y<|Am<|Aj ?_;exact Al Y Y (⟨BE,Y,by rw[<-hs];exact hR⟩)
theorem OwnL.repW{g:Nat}{el:TypeId}(n:Nat)(hn:n<=9223372036854775807):OwnL CU 1 el (BI g el (replicate n (.int .u64 0))) (.slice (some ⟨g,0,none⟩) n n) (replicate n 0):=by
 have e:replicate n (Value.int .u64 0)=(replicate n 0).flatMap CU:=by
  clear hn
  induction n with
  | zero=>rfl
  | succ n ih=>rw[List.replicate_succ,List.replicate_succ,ih];rfl
 rw[e];exact OwnL.blk n HX σ hn
abbrev dW(m:Nat):List Nat:=dg 4294967296 m
theorem AdK(m:Nat)(neg:Bool)(hm:(A7 m).length<=1000000)(h:Hp):FnT Tryz.prog 114 #[.agg #[.bool neg,sv (A7 m)]] h [] (λr h' ms'=>h.le h'/\ms'=[]/\RdL CU 1 h' [] r (dW m)):=by
 obtain⟨n,hn⟩:∃n,(A7 m).length=n:=⟨_,Y⟩
 obtain⟨L,hL⟩:∃L,(n+3)/4=L:=⟨_,Y⟩
 rw[hn]at hm;refine Ap func114 ntmps114 Y Y<|λw0 hw0=>?_;simp only[AR];refine Ar<|AK [_,_] Y Y (by rfl) Y Y Y<|λg1=>Qm Y<|Am<|AF λh1 l1 hS=>?_;have e1:∀ms,Cell h1 ms ((⟨g1,0,none⟩:Addr).add 1) (sv (A7 m)):=λms=>(hS 1 _ Y).any;refine Ar<|Qf EI Y<|Ql Y U9 (e1 _)<|Qx (HI n hn Y U9 Y) Y<|Qx (oA Y) Y<|Qx (oS Y) Y ?_;refine Qx (Dk (DC Y Y Y ω ω)<|aw (Value.int .i64) (show((n:Int)+4-1)/4=((L:Nat):Int) by omega)) Y ?_;refine Fb (n:=L) Y Cm Cn Y Y Y (by rfl) (by rfl) ω ω Y Y Y<|λg12=>Qm Y<|Am<|Ac<|Ar<|Qf EI Y<|Ql Y U9 (e1 _)<|Qx (HI n hn Y U9 Y) Y<|Qm Y<|Am<|Ag ?_;have hmn:m<256^n:=(BQ δ n m).1 (by rw[<-EV,hn];exact am _);refine AB (λq sl h' ms'=>∃(i:Nat) (mo:Hp) (lo:List Nat),n-i=q/\sl=[(1,.pt g1),(3,.slice (some ⟨g12,0,none⟩) L L),(15,.w (n:Int)),(16,.w i)]/\h1=h'/\ms'=[mo]/\i<=n/\OwnL CU 1 117 mo (.slice (some ⟨g12,0,none⟩) L L) lo/\lo.length=L/\(∀a,a∈lo->a<4294967296)/\val 4294967296 lo=m/256^(n-i)*256^(n-i)) n _ ⟨0,_,replicate L 0,Y,Y,Y,Y,ω,OwnL.repW L ω,by simp,by intro a ha;rw[(List.mem_replicate.1 ha).2];decide,by rw[Ey,Nat.sub_zero,fj hmn,Nat.zero_mul]⟩ Qs ?_;rintro q sl h' ms' ⟨i,mo,lo,rfl,rfl,rfl,rfl,hi,hO,hlL,hdl,hv⟩;refine Ar<|Qm Y<|Am<|Ac ?_;refine Aw Y (λhlt=>?_)<|λhlt=>?_
 ·obtain⟨k,hk⟩:∃k,n-1-i=k:=⟨_,Y⟩
  have hk1:n-i=k+1:=ω
  have hkL:k/4<lo.length:=ω
  have hb:i<(A7 m).length:=ω
  obtain⟨y,hy⟩:∃y,m/256^k%256=y:=⟨_,Y⟩
  have hy8:y<256:=by rw[<-hy];exact Nat.mod_lt _ δ
  have hby:(((A7 m)[i]).toNat:Int)=(y:Int):=by rw[OR hb,hn,hk,hy]
  obtain⟨d,hd⟩:∃d,lo.getD (k/4) 0=d:=⟨_,Y⟩
  have hde:lo[k/4]=d:=by rw[<-hd];simp[List.getD,hkL]
  have hd4:d<4294967296:=by rw[<-hde];exact hdl _<|ao hkL
  refine Ah<|Ab<|Ac<|Ag<|Ar<|Qm Y<|Qm Y<|Bp<|Qf EI Y<|Ql Y U9 (e1 _)<|Qx (HI n hn Y U9 Y) Y<|Qx (oS Y) Y<|Qm Y<|Qx (oS Y) Y<|Qm Y<|Am ?_;have hc:Cell h1 [mo] ((AH (.slice (some ⟨g12,0,none⟩) L L)).add (k/4*1)) (.int .u64 ((d:Nat):Int)):=(hO.rd (h:=h1) (ms:=[mo]) (.head _)).cell0 (j:=k/4) hkL (by rw[hde];rfl);have hkI:(n:Int)-1-i=(k:Int):=ω
  obtain⟨z,hz⟩:∃z,d ||| y*2^(8*(k%4))=z:=⟨_,Y⟩
  obtain⟨hs1,hs2⟩:=XZ (m:=m) (k:=k) (lo:=lo) (by rw[<-hk1];exact hv) hdl hkL z (by rw[hd,hy];exact hz.symm)
  have hyb:y*2^(8*(k%4))<18446744073709551616:=by
   have h3:k%4=0\/k%4=1\/k%4=2\/k%4=3:=ω
   rcases h3 with h3|h3|h3|h3<;>rw[h3]<;>simp only[Nat.reduceMul,Nat.reducePow]<;>omega
  refine BB 14 CC κ Y<|Wm Y<|Wm Y ?_;refine BD (Dk (DC Y Y Y ω ω)<|aw (Value.int .i64) (show((n:Int)-1-i)/4=((k/4:Nat):Int) by omega)) Y Y ?_;refine BD (Cf (k/4) Y Cm Cn Y Y ω ω) Y Y<|Wl Y Fi (hc)<|Wf EI Y<|Wl Y U9 (e1 _)<|Wm Y<|BD (IM (l:=A7 m) i Y U9 Y Y Y hb) Y Y ?_;refine BD (Pw (a:=((y:Nat):Int)) Y U5 Fi (by rw[<-hby];rfl)<|Ev ω) rfl rfl ?_;refine Wm Y<|BD (C6 Y Y Y ω ω) Y Y ?_;refine BD (Dk (oM Y)<|aw (Value.int .i64) (show 8*(((n:Int)-1-i)%4)=((8*(k%4):Nat):Int) by omega)) Y Y ?_;refine BD (Va (a:=y) (n:=8*(k%4)) (r:=((y*2^(8*(k%4)):Nat):Int)) (by rw[db hyb]) rfl rfl rfl ω) rfl rfl ?_;refine Bu ?_;refine Qx (YN (a:=d) (b:=y*2^(8*(k%4))) (r:=((z:Nat):Int)) (by rw[hz]) rfl rfl rfl ω hyb) rfl ?_;refine Qx (Cf (k/4) Y Cm Cn Y Y ω ω) Y<|CV (f:=λn:Nat=>Value.int .u64 (n:Int)) (a:=z) 0 (k/4) (λ_=>rfl) hO Y Cn Y Y Y Y hkL Y Y<|λm' hO'=>An<|Ai<|Ab<|Ad<|Qx (oA Y) Y<|Qm Y<|An ?_
  exact Ao (n-(i+1)) _ ω ⟨i+1,m',_,Y,Y,Y,Y,ω,hO',by rw[ff];exact hlL,λa ha=>by
   rcases List.mem_or_eq_of_mem_set ha with h|h
   ·exact hdl a h
   ·rw[h];exact hs2,by rw[show n-(i+1)=k by omega];exact hs1⟩ Qs
 ·have hin:i=n:=ω
  subst hin;rw[Nat.sub_self,Nat.pow_zero,Nat.div_one,gx]at hv;refine Ax<|Aa<|Aa<|Af<|Ab<|Cx hO λh2 l2 hR=>Ar<|Qm Y<|AC (pre:=[]) Y call165 Y (Hl lo _ h2 hR ω) Y Y Y Y<|λr h3 ms3 l3 hF=>?_;obtain⟨l3',rfl,hR3⟩:=hF;rw[C0 δ hdl,hv]at hR3;refine Qm Y<|Am<|Aj ?_;exact Al Y Y (⟨AD l1<|AD l2 l3',Y,hR3⟩)
end
section
open Go.Lin
def AdH(l:List Nat)(k:Nat):List Value:=[.int .i64 ((l.length:Int)-1-k),.int .u64 ((l.getD (l.length-1-k) 0:Nat):Int)]
theorem XB(g:Nat)(v:Value)(l:List Nat)(h:Hp)(hG:Seg h [] ⟨g,0,none⟩ [v])(hR:RdL CU 1 h [] v l)(hn2:l.length<=1000000):ItrS Tryz.prog 219 [.pointer (some ⟨g,0,none⟩)] h l.length (AdH l):=by
 intro lp X Y h1 ms hl hY h0;show FnT _ _ #[.func (.yield lp) #[] #[],.pt g] _ _ _;have hG:=hG.le hl;have hR:=hR.up hl;obtain⟨n,hn⟩:∃n,l.length=n:=⟨_,rfl⟩
 rw[hn]at hn2 hY;refine Ap func219 ntmps219 rfl rfl<|fun w0 hw0=>?_;simp only[AR];refine Ac<|Bw<|BR (oL rfl Cm ((hG.at0 rfl).any)) rfl rfl rfl<|BR (Aq hR.rd.any rfl Cm rfl) rfl rfl rfl<|BR (oS rfl) rfl rfl rfl<|BR (II rfl rfl) rfl rfl rfl<|CJ<|Ab<|Ag ?_
 refine AB (fun q s hh ms'=>∃(k:Nat),q=n-k/\s=[(0,.func (.yield lp) #[] #[]),(1,.pt g),(3,.w ((n:Int)-1-k))]/\h1.le hh/\k<=n/\X k hh ms')
  (n-0) [(0,.func (.yield lp) #[] #[]),(1,.pt g),(3,.w ((l.length:Int)-1))] ⟨0,rfl,by rw[hn,show((n:Int)-1-(0:Nat))=(n:Int)-1 by omega],BE,ω,h0⟩ Qs ?_
 rintro q s hh ms' ⟨k,rfl,rfl,lh,hk,hX⟩;refine Ac<|Ac<|Bw<|BR (Au rfl rfl) rfl rfl rfl<|BR (MZ rfl rfl rfl) rfl rfl rfl<|CJ<|Ab ?_;refine Aw rfl (fun hlt=>?_)<|fun hlt=>?_
 ·have hkn:k<n:=ω
  have hG2:=hG.le lh;have hR2:=hR.up lh;have hi:n-1-k<l.length:=ω
  have hc:∀ms,Cell hh ms ((AH v).add ((n-1-k)*1)) (.int .u64 ((l.getD (n-1-k) 0:Nat):Int)):=fun ms=>by rw[show l.getD (n-1-k) 0=l[n-1-k] by simp[List.getD,hi]];exact(hR2.any (ms:=ms)).cell0 hi rfl
  refine Ah<|Ab<|Ac<|Ag<|Ac<|Bw<|BR (Au rfl rfl) rfl rfl rfl<|BR (Au rfl rfl) rfl rfl rfl<|BR (oL rfl Cm ((hG2.at0 rfl).any)) rfl rfl rfl<|BR (Au rfl rfl) rfl rfl rfl<|BR (BC (n-1-k) hR2.rd.any rfl Cm Cn rfl rfl) rfl rfl rfl<|BR (oL rfl Fi<|hc _) rfl rfl rfl ?_;have hyk:=hY k hh ms' hkn lh hX;unfold AdH at hyk;rw[hn]at hyk;refine Ka rfl rfl rfl (hyk) rfl rfl rfl<|fun r h2 ms2 l2 hr=>?_;rcases hr with ⟨rfl,hX2⟩|⟨rfl,hX2⟩
  ·refine BR (Dn rfl rfl) rfl rfl rfl<|CJ<|Ab<|AL rfl<|Ah<|Ai<|Ab<|Bw<|BR (Au rfl rfl) rfl rfl rfl<|BR (oS rfl) rfl rfl rfl<|BR (II rfl rfl) rfl rfl rfl<|CJ ?_;refine Ao (n-(k+1)) [(0,.func (.yield lp) #[] #[]),(1,.pt g),(3,.w ((n:Int)-1-k-1))] ω ⟨k+1,rfl,by rw[show((n:Int)-1-k-1)=(n:Int)-1-(k+1:Nat) by omega],AD lh l2,ω,hX2⟩ Qs
  ·refine BR (Dn rfl rfl) rfl rfl rfl<|CJ<|Ab<|AX rfl<|Aj<|Ak<|Ae<|Ae<|Ak ?_;exact JJ rfl<|.inr ⟨k,ω,hX2⟩
 ·obtain rfl:k=n:=ω
  refine Ax<|Aa<|Aa<|Af ?_;exact Cv rfl<|.inl (by rw[hn];exact hX)
theorem Sw(v:Value)(n:Nat)(cs:List Value)(h:Hp)(hR:Rd h [] v 1 n cs):FnT Tryz.prog 177 #[v] h [] (λr h' ms'=>h=h'/\∃g,r=.func (.func 219) #[] #[.pointer (some ⟨g,0,none⟩)]/\ms'=[BI g 164 [v]]):=by refine Ap func177 ntmps177 Y Y<|λw0 hw0=>?_;simp only[AR];refine Ar<|AK [_] Y Y (Rd.cells ‹_›) Y Y Y<|λg1=>Qm Y<|Bp<|Qx (Bz Y Y Y) Y<|Qm Y<|Am<|Aj ?_;exact Al Y Y (⟨Y,_,Y,Y⟩)
end
end Go.Proofs.Q
namespace Go.Proofs
open Go.Proofs.Tryz
open Go.Shelf
def Tryz.lays161_ren:Go.Shelf.Ren:=⟨fun|161=>178|231=>220|227=>221|233=>222|235=>223|228=>245|197=>246|151=>247|260=>266|152=>267|137=>276|119=>277|224=>278|225=>279|217=>283|266=>284|n=>n,fun|9=>9|4=>4|3=>3|5=>5|117=>257|116=>256|0=>0|124=>260|105=>274|21=>21|119=>304|46=>183|139=>307|138=>306|n=>n,fun|3=>0|4=>1|n=>n⟩
theorem Tryz.lays161:Go.Proofs.Lays.n161 prog Tryz.lays161_ren:={
 mixed:=by kernel_rfl
 f119:=func277.trans (aw some κ)
 f137:=func276.trans (aw some κ)
 f151:=func247.trans (aw some κ)
 f152:=func267.trans (aw some κ)
 f161:=func178.trans (aw some κ)
 f197:=func246.trans (aw some κ)
 f217:=func283.trans (aw some κ)
 f224:=func278.trans (aw some κ)
 f225:=func279.trans (aw some κ)
 f227:=func221.trans (aw some κ)
 f228:=func245.trans (aw some κ)
 f231:=func220.trans (aw some κ)
 f233:=func222.trans (aw some κ)
 f235:=func223.trans (aw some κ)
 f260:=func266.trans (aw some κ)
 f266:=func284.trans (aw some κ)
 t0:=underlying0
 a0:=isAgg0
 z0:=sizeOf0
 v0:=zeroValue0
 t3:=underlying3
 a3:=isAgg3
 z3:=sizeOf3
 v3:=zeroValue3
 t4:=underlying4
 a4:=isAgg4
 z4:=sizeOf4
 v4:=zeroValue4
 t5:=underlying5
 a5:=isAgg5
 z5:=sizeOf5
 v5:=zeroValue5
 t9:=underlying9
 a9:=isAgg9
 z9:=sizeOf9
 v9:=zeroValue9
 t21:=underlying21
 a21:=isAgg21
 z21:=sizeOf21
 v21:=zeroValue21
 t46:=underlying183
 a46:=isAgg183
 z46:=sizeOf183
 v46:=zeroValue183
 t105:=underlying274
 a105:=isAgg274
 z105:=sizeOf274
 v105:=zeroValue274
 t116:=underlying256
 a116:=isAgg256
 z116:=sizeOf256
 t117:=underlying257
 a117:=isAgg257
 z117:=sizeOf257
 v117:=zeroValue257
 t119:=underlying304
 a119:=isAgg304
 z119:=sizeOf304
 t124:=underlying260
 a124:=isAgg260
 z124:=sizeOf260
 v124:=zeroValue260
 t138:=underlying306
 a138:=isAgg306
 z138:=sizeOf306
 v138:=zeroValue306
 t139:=underlying307
 a139:=isAgg307
 z139:=sizeOf307
 v139:=zeroValue307
 g3:=by kernel_rfl
 g4:=by kernel_rfl }
open Go.RowKit in
theorem Tryz.strings_TrimLeft_one(s:ByteArray)(c:UInt8)(hc:c.toNat<128)(w:World) :
 Calls prog 178 #[.string s,.string ⟨#[c]⟩] w λe w'=>e=.returned (.string ⟨(Lib.trimLeftB s.data.toList c).toArray⟩)/\w'=w:=Any.strings_TrimLeft_one Tryz.lays161 s c hc w
def Tryz.lays189_ren:Go.Shelf.Ren:=⟨fun|189=>197|125=>237|257=>236|128=>260|129=>261|294=>252|295=>253|296=>254|297=>255|298=>256|299=>257|216=>143|300=>258|301=>259|328=>269|329=>270|330=>271|331=>272|332=>273|215=>176|343=>280|n=>n,fun|28=>22|3=>3|46=>183|0=>0|51=>291|53=>117|4=>4|183=>285|182=>284|131=>128|5=>5|9=>9|218=>298|222=>302|228=>312|229=>313|n=>n,fun|n=>n⟩
theorem Tryz.lays189:Go.Proofs.Lays.n189 prog Tryz.lays189_ren:={
 mixed:=by kernel_rfl
 f125:=func237.trans (aw some κ)
 f128:=func260.trans (aw some κ)
 f129:=func261.trans (aw some κ)
 f189:=func197.trans (aw some κ)
 f215:=func176.trans (aw some κ)
 f216:=func143.trans (aw some κ)
 f257:=func236.trans (aw some κ)
 f294:=func252.trans (aw some κ)
 f295:=func253.trans (aw some κ)
 f296:=func254.trans (aw some κ)
 f297:=func255.trans (aw some κ)
 f298:=func256.trans (aw some κ)
 f299:=func257.trans (aw some κ)
 f300:=func258.trans (aw some κ)
 f301:=func259.trans (aw some κ)
 f328:=func269.trans (aw some κ)
 f329:=func270.trans (aw some κ)
 f330:=func271.trans (aw some κ)
 f331:=func272.trans (aw some κ)
 f332:=func273.trans (aw some κ)
 f343:=func280.trans (aw some κ)
 t0:=underlying0
 a0:=isAgg0
 z0:=sizeOf0
 v0:=zeroValue0
 t3:=underlying3
 a3:=isAgg3
 z3:=sizeOf3
 v3:=zeroValue3
 t4:=underlying4
 a4:=isAgg4
 z4:=sizeOf4
 v4:=zeroValue4
 t5:=underlying5
 a5:=isAgg5
 z5:=sizeOf5
 v5:=zeroValue5
 t9:=underlying9
 a9:=isAgg9
 z9:=sizeOf9
 v9:=zeroValue9
 t28:=underlying22
 a28:=isAgg22
 z28:=sizeOf22
 v28:=zeroValue22
 t46:=underlying183
 a46:=isAgg183
 z46:=sizeOf183
 v46:=zeroValue183
 t51:=underlying291
 a51:=isAgg291
 z51:=sizeOf291
 v51:=zeroValue291
 t53:=underlying117
 a53:=isAgg117
 z53:=sizeOf117
 v53:=zeroValue117
 t131:=underlying128
 a131:=isAgg128
 z131:=sizeOf128
 v131:=zeroValue128
 t182:=underlying284
 a182:=isAgg284
 z182:=sizeOf284
 v182:=zeroValue284
 t183:=underlying285
 a183:=isAgg285
 z183:=sizeOf285
 v183:=zeroValue285
 t218:=underlying298
 a218:=isAgg298
 z218:=sizeOf298
 v218:=zeroValue298
 t222:=underlying302
 a222:=isAgg302
 z222:=sizeOf302
 v222:=zeroValue302
 t228:=underlying312
 a228:=isAgg312
 z228:=sizeOf312
 v228:=zeroValue312
 t229:=underlying313
 a229:=isAgg313
 z229:=sizeOf313
 v229:=zeroValue313 }
open Go.Sort Go.RowKit in
theorem Tryz.slices_Sort_int(blk off cap:Nat)(zs:List Int)(w:World)(hH:Holds (Value.int .i64) w blk off zs.toArray)(hblk:blk<w.heap.size)(hsz:zs.length<4611686018427387904) :
 Calls prog 197 #[.slice (some ⟨blk,off,none⟩) zs.length cap] w λe w'=>
  e=.returned (.tuple #[])/\∃n os,w'=grow (putRow (Value.int .i64) (Sort.ahead w n) blk off (zs.mergeSort λx y=>decide (x<=y)).toArray) os:=Any.slices_Sort_int Tryz.lays189 blk off cap zs w hH hblk hsz
def Tryz.laysNm225_ren:Go.Shelf.Ren:=⟨fun|25=>90|31=>143|32=>144|37=>176|n=>n,fun|22=>22|3=>3|4=>4|40=>183|0=>0|n=>n,fun|n=>n⟩
theorem Tryz.laysNm225:Go.Proofs.Lays2.n25 prog Tryz.laysNm225_ren:={
 mixed:=by kernel_rfl
 f25:=func90.trans (aw some κ)
 f31:=func143.trans (aw some κ)
 f32:=func144.trans (aw some κ)
 f37:=func176.trans (aw some κ)
 t0:=underlying0
 a0:=isAgg0
 z0:=sizeOf0
 v0:=zeroValue0
 t3:=underlying3
 a3:=isAgg3
 z3:=sizeOf3
 v3:=zeroValue3
 t4:=underlying4
 a4:=isAgg4
 z4:=sizeOf4
 v4:=zeroValue4
 t22:=underlying22
 a22:=isAgg22
 z22:=sizeOf22
 v22:=zeroValue22
 t40:=underlying183
 a40:=isAgg183
 z40:=sizeOf183
 v40:=zeroValue183 }
open Go.RowKit Go.Lib in
theorem Tryz.slices_BinarySearch_int(b off n c:Nat)(zs:List Int)(x:Int)(w:World)(hz:n<=zs.length)(hbig:n<4611686018427387904)(hc:∀j,j<zs.length->w.cell? ⟨b,off+j,none⟩=some (.int .i64 (zs.getD j 0)))(hs:(zs.take n).Pairwise (·<=·)) :
 Calls prog 90 #[.slice (some ⟨b,off,none⟩) n c,.w x] w λe w'=>e=.returned (.tuple #[.w ((zs.take n).countP (·<x):Nat),.bool ((zs.take n).contains x)])/\∃q,w'=w.drewN q:=Any.slices_BinarySearch_int Tryz.laysNm225 b off n c zs x w hz hbig hc hs
open Go.RowKit Go.Lib in
theorem Tryz.slices_BinarySearch_int_empty(a:Option Addr)(c:Nat)(x:Int)(w:World) :
 Calls prog 90 #[.slice a 0 c,.w x] w λe w'=>e=.returned (.tuple #[.w 0,.bool false])/\w'=w:=Any.slices_BinarySearch_int_empty Tryz.laysNm225 a c x w
end Go.Proofs

namespace Go.Proofs.Q
open Go.Proofs.Tryz
open Go.Eng Go.RowKit
section
open Go.Lin Go.Wd
def bW(W:List Nat)(k:Nat):List UInt8:=(W.reverse.take k).flatMap ZH
theorem Abn(W:List Nat)(k:Nat)(hk:k<W.length):bW W (k+1)=bW W k++ZH (W.getD (W.length-1-k) 0):=by
 unfold bW;have hk2:k<W.reverse.length:=by simpa using hk
 rw[ak hk2,dx,List.getElem_reverse];have h3:W.length-1-k<W.length:=ω
 simp[List.getD,h3]
theorem Ad8(W:List Nat)(k:Nat)(hk:k<=W.length):(bW W k).length=4*k:=by unfold bW;rw[AbS,ay,List.length_reverse];omega
theorem IK:∀a:UInt8,∀c∈cU8 a,c.oneCell'=true:=λa c hc=>by unfold cU8 at hc;rw[bm]at hc;subst hc;rfl
theorem UR(l:List Nat)(neg:Bool)(v:Value)(n:Nat)(hn:val 4294967296 l=n)(hlw:∀a,a∈l->a<4294967296)(h:Hp)(R:RdL CU 1 h [] v l)(hl:l.length<=1000000) :
  FnT Tryz.prog 145 #[v,.bool neg] h [] (λr h' ms'=>h.le h'/\ms'=[]/\r=.agg #[.bool (neg&&decide (A7 n≠[])),sv (A7 n)]):=by
 have hs:De l=dW n:=by rw[C0 δ hlw,hn]
 have ov:=R.rd.one;refine E7 func145 ntmps145 Y Y<|λw0 hw0=>?_;simp only[AR];refine Ar<|BS [.bool false,.es] Y Az Y Y<|λg4=>Bp<|Qm Y<|Qc call165 Y (Hl l v h R ω)<|λr h1 ms1 l1 hF=>?_;obtain⟨l1',rfl,hR1⟩:=hF;rw[hs]at hR1;have or_:=hR1.rd.one;have hdl:∀a,a∈dW n->a<4294967296:=Fv δ n
 have hWl:(dW n).length<=l.length:=by rw[BQ δ,<-hn];exact Jm δ hlw
 have hWv:val 4294967296 (dW n)=n:=F5 δ n;revert hR1;generalize hW:dW n=W at hdl hWl hWv;intro hR1;refine Qm Y<|Bp<|Qm Y<|Qx (Aq hR1.rd.any Y Cm Y) Y<|Qx (oM Y) Y<|Yz (n:=0) (cp:=4*W.length) Y H5 WO Y Y Y Y ω ω ω ω Y Y Y<|λg14=>BS [.nl] Y Zo Y Y<|λg5=>Bh 0 0 Y Zo Y Y (by rfl) Y Y δ Y Y<|Am<|Ac<|Ar<|Qm Y<|Qc call177 Y (Sw r W.length _ h1 hR1.rd)<|λvf h2 ms2 l2 hF=>?_;obtain⟨rfl,gb,rfl,rfl⟩:=hF;refine Am<|Ag<|AF λh2 l2 hGb=>?_;have hR2:=hR1.up l2;have hI:=XB gb r W h2 hGb hR2 ω;refine Jb (λk hh ms=>∃bv m,ms=[BI g5 170 [bv],m,BI g4 33 [.bool false,.es]]/\OwnL cU8 1 5 m bv (bW W k)) (λk hh ms=>False) (λk s1 hh ms=>∃bv m,s1=[(1,.bool neg),(4,.pt g4),(5,.pt g5),(7,.int .u64 ((W.getD (W.length-1-k) 0:Nat):Int))]/\ms=[BI g5 170 [bv],m,BI g4 33 [.bool false,.es]]/\OwnL cU8 1 5 m bv (bW W k)) Y call219 hI (λk=>rfl) Y ?_ ?_ ?_ ?_ ?_
 ·exact⟨_,_,Y,⟨⟨by simp[bW],.inr ⟨g14,4*W.length,replicate (4*W.length) (.int .u8 0),rfl,by simp[bW],by simp[bW],by simp[bW],by show 4*W.length<=_;omega⟩⟩,GA⟩⟩
 ·rintro w1 k hh ms1 hk lh ⟨bv,m,rfl,hO⟩;rw[show AdH W k=[.w ((W.length:Int)-1-k),.int .u64 ((W.getD (W.length-1-k) 0:Nat):Int)] from Y];refine Be κ<|Qm Y<|An ?_;exact AI _ ⟨bv,m,Y,Y,hO⟩ Qs
 ·rintro w1 k s1 hh ms1 hk lh ⟨bv,m,rfl,rfl,hO⟩;have hbs:=Abn W k hk;have hbl:=Ad8 W k ω
  have hx:W.getD (W.length-1-k) 0<4294967296:=by
   have h3:W.length-1-k<W.length:=ω
   simp only[List.getD,aj h3,Option.getD_some];exact hdl _<|ao h3
  generalize W.getD (W.length-1-k) 0=x at *;have hb4:(ZH x).length=4:=rfl;have c24:IntKind.u8.wrap ((x/2^24:Nat):Int)=(((UInt8.ofNat (x/2^24)).toNat:Nat):Int):=by simp[IntKind.wrap,IntKind.bits,IntKind.signed]
  have c16:IntKind.u8.wrap ((x/2^16:Nat):Int)=(((UInt8.ofNat (x/2^16)).toNat:Nat):Int):=by simp[IntKind.wrap,IntKind.bits,IntKind.signed]
  have c8:IntKind.u8.wrap ((x/2^8:Nat):Int)=(((UInt8.ofNat (x/2^8)).toNat:Nat):Int):=by simp[IntKind.wrap,IntKind.bits,IntKind.signed]
  have c0:IntKind.u8.wrap (x:Int)=(((UInt8.ofNat x).toNat:Nat):Int):=by simp[IntKind.wrap,IntKind.bits,IntKind.signed]
  have ovb:=hO.o1;refine Eh<|Be κ<|Ql Y H5 (Cell.blk0 0 Y Y)<|Qm Y<|Qx (GG (n:=24) Y Y Y ω) Y<|Qx (DU c24 Y Fi U5 Y) Y<|Qm Y<|Qx (GG (n:=16) Y Y Y ω) Y<|Qx (DU c16 Y Fi U5 Y) Y<|Qm Y<|Qx (GG (n:=8) Y Y Y ω) Y<|Qx (DU c8 Y Fi U5 Y) Y<|Qm Y<|Qx (DU c0 Y Fi U5 Y) Y<|AO [(0,_),(1,_),(2,_),(3,_)] [.int .u8 0,.int .u8 0,.int .u8 0,.int .u8 0] [_,_,_,_] Y H5 WO Y ω κ Qt Y Y Y Y<|λg31=>Cs 2 hO (⟨Rd.blk (n:=4) (c:=4) Mh Y (am _) ω,GA⟩:RdL cU8 1 _ _ _ (ZH x)) Y H5 WO Y ω Y Y Y (λa _=>IK a) ω ω Y Y Y<|λv32 m' hO'=>?_;have ov32:=hO'.o1;refine Bh 1 0 Y Zo Y Y (by assumption) Y Y (by(simp;done)) rfl rfl ?_;refine An<|Ai<|AQ ?_;exact AI [] ⟨v32,m',Y,by rw[hbs];exact hO'⟩ ej
 ·rintro D hh ms1 lh ⟨bv,m,rfl,hO⟩;have hRb:=(hO.rd (h:=hh) (ms:=[BI g5 170 [bv],m,BI g4 33 [.bool false,.es]]++[Mk D]) (.tail _ (.head _))).rd
  have ht:Lib.trimLeftB (bW W W.length) 0=A7 n:=by have h5:=TO hdl;rw[hWv]at h5;unfold bW;rw[<-List.length_reverse,fe];exact h5
  have osv:(sv (A7 n)).oneCell'=true:=rfl;refine Ai<|Ab<|Ar<|Ql Y H5 (Cell.blk0 0 Y Y)<|Qx (Rx hRb Y Y H5 U5 U9 Y) Y ?_;refine Qx (As Y call178 Y<|FnV.ofCalls (v:=sv (A7 n)) (λw=>(Tryz.strings_TrimLeft_one ⟨(bW W W.length).toArray⟩ 0 δ w).mono λe w' h=>by rw[<-ht];exact h)) Y ?_;refine Qm Y<|Bp<|Qm Y<|Qm Y ?_;refine N9 (t:=37) Y (λhneg=>?_)<|λhneg=>?_
  ·refine Qg (Au Y Y) Y<|Qg (G7 (l':=[]) Y Y Y) Y<|Qm Y<|Qm Y<|Qx (AN Jp [.bool false,.es] [(0,_),(1,_)] [_,_] Y Az Y Y Qt Y) Y ?_;refine Sa 2 [_,_] Az Y (by simp[osv]) ?_;refine Am<|Aj ?_;refine AQ<|AQ ?_;refine FI 1 (.inr Y) Y ?_;exact Bx (vs:=[_,_]) 0 Y Y By Y Az Y Y (⟨AD l1' (AD l2 lh),Y,by rw[hneg];rfl⟩)
  ·refine Qk Y<|Qk Y<|Qm Y<|Qm Y<|Qx (AN Jp [.bool false,.es] [(0,_),(1,_)] [_,_] Y Az Y Y Qt Y) Y ?_;refine Sa 2 [_,_] Az Y (by simp[osv]) ?_;refine Am<|Aj ?_;refine AQ<|AQ ?_;refine FI 1 (.inr Y) Y ?_;exact Bx (vs:=[_,_]) 0 Y Y By Y Az Y Y (⟨AD l1' (AD l2 lh),Y,by rw[hneg];rfl⟩)
 ·rintro D k hh ms1 hk lh hF;exact hF.elim
variable {i:Nat}
theorem Rf{l:List Nat}(hi:i<l.length):l.getD i 0=l[i]:=by simp[List.getD,hi]
theorem rdW{h:Hp}{v:Value}{A:List Nat}(hA:RdL CU 1 h [] v A)(hi:i<A.length)(ms:List Hp):Cell h ms ((AH v).add (i*1)) (.int .u64 ((A.getD i 0:Nat):Int)):=
 (hA.any (ms:=ms)).cell0 (j:=i) hi (by rw[Rf hi];rfl)
theorem Afy{h:Hp}{v:Value}{A:List Nat}{m:Hp}{el:TypeId}(hO:OwnL CU 1 el m v A)(hi:i<A.length):Cell h [m] ((AH v).add (i*1)) (.int .u64 ((A.getD i 0:Nat):Int)):=
 (hO.rd (h:=h) (ms:=[m]) (.head _)).cell0 (j:=i) hi (by rw[Rf hi];rfl)
theorem EP(n:Nat):val 4294967296 (dW n)=n:=F5 δ n
theorem Vj(a b:Nat)(ha:(dW a).length<=10000000)(hb:(dW b).length<=10000000)(va vb:Value)(h:Hp)(hA:RdL CU 1 h [] va (dW a))(hB:RdL CU 1 h [] vb (dW b)) :
  FnT Tryz.prog 188 #[va,vb] h [] (λr _ _=>r=.w (Pq a b)):=by
 have rA:Rd h [] va 1 (dW a).length ((dW a).flatMap CU):=hA.rd;have rB:Rd h [] vb 1 (dW b).length ((dW b).flatMap CU):=hB.rd;obtain⟨n,hn⟩:∃n,(dW a).length=n:=⟨_,Y⟩
 refine Ap func188 ntmps188 Y Y<|λw0 hw0=>?_;simp only[AR];refine Ar<|Qm Y<|Am<|Ac<|Ag<|Ar<|Qm Y<|Qx (Aq rA.any Y Cm Y) Y<|Qm Y<|Qx (Aq rB.any Y Cm Y) Y<|Qm Y<|Qm Y<|Am ?_;refine Aw Y (λh1=>?_)<|λh1=>?_
 ·refine Ac<|Ad<|Qm Y<|Am<|Aj<|Ak<|Ae ?_;exact Al Y Y (by unfold Pq;rw[ah (Hf (b:=4294967296) δ (show(dW a).length<(dW b).length by omega))])
 ·refine Ac<|Ad<|Qm Y<|Qx (Aq rA.any Y Cm Y) Y<|Qm Y<|Qx (Aq rB.any Y Cm Y) Y<|Qm Y<|Qm Y<|Am ?_;refine Aw Y (λh2=>?_)<|λh2=>?_
  ·have hlt2:=Hf (b:=4294967296) (m:=b) (n:=a) δ (show(dW b).length<(dW a).length by omega);refine Ar<|Qm Y<|Am<|Aj<|Ak<|Ae ?_;exact Al Y Y (by unfold Pq;rw[ae ω,ah hlt2])
  ·have hl:(dW a).length=(dW b).length:=ω
   refine Ah<|Ai<|Ab<|Ac<|Ar<|Qm Y<|Qx (Aq rA.any Y Cm Y) Y<|Qx (oS Y) Y<|Qm Y<|Am<|Ag ?_;refine AB (λq sl h' ms'=>∃i:Nat,i=q/\sl=[(0,va),(1,vb),(5,.w ((i:Int)-1))]/\h=h'/\ms'=[]/\i<=n/\(dW a).drop i=(dW b).drop i) (dW a).length _ ⟨(dW a).length,Y,Y,Y,Y,ω,by rw[List.drop_of_length_le ω,List.drop_of_length_le ω]⟩ Qs ?_;rintro q sl h' ms' ⟨i,rfl,rfl,rfl,rfl,hi,hd⟩;refine Ac<|Ar<|Qm Y<|Qm Y<|Am ?_;refine Aw Y (λhlt=>?_)<|λhlt=>?_
   ·obtain⟨k,rfl⟩:∃k,i=k+1:=⟨i-1,ω⟩
    have hka:k<(dW a).length:=ω
    have hkb:k<(dW b).length:=ω
    obtain⟨x,hx⟩:∃x,(dW a).getD k 0=x:=⟨_,Y⟩
    obtain⟨y,hy⟩:∃y,(dW b).getD k 0=y:=⟨_,Y⟩
    have cA:=rdW hA hka;have cB:=rdW hB hkb;rw[hx]at cA;rw[hy]at cB;refine Ah<|Ab<|Ac<|Ag<|Ag<|Ac<|BB 8 CC κ Y<|Wm Y<|Wm Y<|BD (BC (k) rA.any Y Cm Cn Y Y) Y Y<|Wl Y Fi (cA _)<|Wm Y<|Wm Y<|BD (BC (k) rB.any Y Cm Cn Y Y) Y Y<|Wl Y Fi (cB _)<|Bu<|Qm Y<|Qm Y<|Am ?_;refine Aw Y (λh3=>?_)<|λh3=>?_
    ·have:=YU (b:=4294967296) δ (Fv δ a) (Fv δ b) hl hka hd (by rw[hx,hy];omega);rw[EP,EP]at this;refine Ar<|Qm Y<|Am<|Aj<|Ak<|Ak<|Ae<|Ae<|Ak<|Ae ?_;exact Al Y Y (by unfold Pq;rw[ah this])
    ·refine Ac<|BB 8 CC κ Y<|Wm Y<|Wm Y<|BD (BC (k) rA.any Y Cm Cn Y Y) Y Y<|Wl Y Fi (cA _)<|Wm Y<|Wm Y<|BD (BC (k) rB.any Y Cm Cn Y Y) Y Y<|Wl Y Fi (cB _)<|Bu<|Qm Y<|Qm Y<|Am ?_;refine Aw Y (λh4=>?_)<|λh4=>?_
     ·have:=YU (b:=4294967296) δ (Fv δ b) (Fv δ a) hl.symm hkb hd.symm (by rw[hx,hy];omega);rw[EP,EP]at this;refine Ar<|Qm Y<|Am<|Aj<|Ak<|Ak<|Ae<|Ae<|Ak<|Ae ?_;exact Al Y Y (by unfold Pq;rw[ae ω,ah this])
     ·refine Ah<|Ai<|Ai<|Ab<|Ad<|Qm Y<|Qx (oS Y) Y<|Qm Y<|An ?_
      exact Ao k [(0,va),(1,vb),(5,.w (((k+1:Nat):Int)-1-1))] ω ⟨k,Y,by rw[show((k+1:Nat):Int)-1-1=(k:Int)-1 by omega],Y,Y,ω,by
       rw[eo hka,eo hkb,hd,<-Rf hka,<-Rf hkb,hx,hy,show x=y by omega]⟩ Qs
   ·have hi0:i=0:=ω
    subst hi0;rw[drop_zero,drop_zero]at hd;have:=Zr δ hd;refine Ax<|Aa<|Aa<|Af<|Ab<|Ar<|Qm Y<|Am<|Aj ?_;exact Al Y Y (by unfold Pq;rw[ae ω,ae ω])
def WD(n:Int):Value:=.agg #[.bool (decide (n<0)),sv (A7 n.natAbs)]
theorem Ada{m:Nat}{neg:Bool}{n:Int}(h:n.natAbs=m)(hn:m≠0->neg=decide (n<0)):Value.agg #[.bool (neg&&decide (A7 m≠[])),sv (A7 m)]=WD n:=by
 unfold WD;rw[h];by_cases h0:m=0
 ·subst h0;have:n=0:=ω
  subst this;have e:A7 0=[]:=rfl;rw[e];simp
 ·have hb:A7 m≠[]:=λe=>h0 (bys_nil.1 e);rw[hn h0];simp[hb]
theorem Acb(n:Int)(hn:Cd n)(h:Hp):FnT Tryz.prog 95 #[.int .i64 n] h [] (λr h' ms'=>h.le h'/\ms'=[]/\r=WD n):=by
 obtain⟨m,hm⟩:∃m,n.natAbs=m:=⟨_,Y⟩
 have hm2:m<=9223372036854775808:=by have:=hn.1;have:=hn.2;omega
 refine Ap func95 ntmps95 Y Y<|λw0 hw0=>?_;simp only[AR];refine Ar<|BS [.bool false,.es] Y Az Y Y<|λg2=>Bp<|Qm Y<|Qx (Ec Y U3 Fi Y) Y<|Qm Y<|Am ?_;refine Bv (λsl h' ms'=>sl=[(0,.w n),(2,.pt g2),(3,.int .u64 (m:Int))]/\h=h'/\ms'=[BI g2 33 [.bool false,.es]]) ?_<|λs h ms hI=>?_
 ·have e9:IntKind.u64.wrap (-(IntKind.u64.wrap n))=(m:Int)\/¬n<0:=by
   by_cases h0:n<0
   ·refine .inl ?_;simp only[IntKind.wrap,IntKind.bits,IntKind.signed];simp;have:=hn.1;omega
   ·exact .inr h0
  refine Ar<|Qm Y<|Qm Y<|Am ?_;refine Aw Y (λhlt=>?_)<|λhlt=>?_
  ·have e9:IntKind.u64.wrap (-(IntKind.u64.wrap n))=(m:Int):=e9.resolve_right (λh=>h hlt);refine Ad<|Qm Y<|Qx (VW e9 Y Y) Y<|Qm Y<|An ?_;exact AI _ ⟨Y,Y,Y⟩ Qs
  ·have e3:IntKind.u64.wrap n=(m:Int):=by rw[Ev ω];omega
   refine Ah ?_;exact AI _ ⟨Y,Y,Y⟩ (by rw[<-e3];exact Qs)
 ·obtain⟨rfl,rfl,rfl⟩:=hI;refine Ar<|Qm Y<|Qx (IF IQ Y Y Y ω ω) Y<|Qm Y<|Qx (IA (n:=32) (r:=((m/4294967296:Nat):Int)) Y Y Y Y ω) Y<|AO [(0,_),(1,_)] [.int .u64 0,.int .u64 0] [_,_] Y Cm Cn Y ω κ Qt Y Y Y Y<|λg14=>Qm Y<|Qm Y<|Bg λh3 l3 hS=>?_;have hR:RdL CU 1 h3 [] (.slice (some ⟨g14,0,none⟩) 2 2) [m%4294967296,m/4294967296]:=⟨⟨⟨_,_,Y,am _,by decide,Y,λ_=>⟨_,Y,hS⟩⟩⟩,HX⟩
  have hv:val 4294967296 [m%4294967296,m/4294967296]=m:=by show m%4294967296+4294967296*(m/4294967296+4294967296*0)=m;omega
  refine Qc call145 Y (UR [m%4294967296,m/4294967296] (decide<|n<0) _ m hv (by intro a ha;simp only[bg,gz,gv]at ha;omega) h3 hR σ)<|λr h4 ms4 l4 hF=>?_;obtain⟨l4',rfl,rfl⟩:=hF;have osv:(sv (A7 m)).oneCell'=true:=rfl;refine Sa 0 [_,_] Az Y (by simp[osv]) ?_;refine Am<|Aj ?_;exact Bx (vs:=[_,_]) 0 Y Y By Y Az Y Y (⟨AD l3 l4',Y,Ada hm λ_=>rfl⟩)
theorem GU(n:Int)(hn:Cd n)(h:Hp)(ms:List Hp):FnV Tryz.prog 95 #[.int .i64 n] h ms (WD n):=DY ((Acb n hn h).mono λ_ _ _ h=>h.2.2) ms
theorem Acf(n:Int)(hn:-256<n/\n<256)(h:Hp)(ms:List Hp):FnV Tryz.prog 95 #[.int .i64 n] h ms (WD n):=GU n ⟨ω,ω⟩ h ms
end
section
open Go.Lin Go.Wd
theorem OJ(d:List Nat)(k x:Nat):(d++replicate (k+1) 0).set d.length x=(d++[x])++replicate k 0:=by rw[List.set_append_right _ _ (am _),Nat.sub_self,List.replicate_succ,List.set_cons_zero,cz];rfl
theorem GC{l:List Nat}(h:∀a,a∈l->a<4294967296)(i:Nat):l.getD i 0<4294967296:=by
 by_cases hi:i<l.length
 ·rw[Rf hi];exact h _<|ao hi
 ·simp[List.getD,hi]
theorem J8{d:List Nat}{x:Nat}(h:∀a,a∈d->a<4294967296)(hx:x<4294967296):∀a,a∈d++[x]->a<4294967296:=λa ha=>by
 rcases bj.1 ha with h'|h'
 ·exact h a h'
 ·rw[bm.1 h'];exact hx
theorem UY(a b:Nat)(va vb:Value)(h:Hp)(hA:RdL CU 1 h [] va (dW a))(hB:RdL CU 1 h [] vb (dW b))(ha:(dW a).length<=1000000)(hb:(dW b).length<=1000000) :
  FnT Tryz.prog 153 #[va,vb] h [] (fun r h' ms'=>h.le h'/\ms'=[]/\RdL CU 1 h' [] r (dW (a+b))):=by
 have rA:Rd h [] va 1 (dW a).length ((dW a).flatMap CU):=hA.rd;have rB:Rd h [] vb 1 (dW b).length ((dW b).flatMap CU):=hB.rd;refine Ap func153 ntmps153 rfl rfl<|fun w0 hw0=>?_;simp only[AR];refine Ar<|Qm rfl<|Am ?_;refine Bv (fun sl h' ms'=>∃(u w:Value) (X Y:List Nat),sl=[(0,u),(1,w)]/\h=h'/\ms'=[]/\RdL CU 1 h [] u X/\RdL CU 1 h [] w Y/\val 4294967296 X+val 4294967296 Y=a+b/\Y.length<=X.length/\X.length<=1000000/\(∀a,a∈X->a<4294967296)/\(∀a,a∈Y->a<4294967296)) ?_<|fun s h ms hI=>?_
 ·refine Ac<|Ad<|Qm rfl<|Qx (Aq rA.any rfl Cm rfl) rfl<|Qm rfl<|Qx (Aq rB.any rfl Cm rfl) rfl<|Qm rfl<|Am ?_;refine Aw rfl (fun h1=>?_)<|fun h1=>?_
  ·refine Ad<|Qm rfl<|Qm rfl<|Qm rfl<|Qm rfl<|An ?_;exact AI _ ⟨vb,va,dW b,dW a,rfl,rfl,rfl,hB,hA,by rw[EP,EP];omega,ω,hb,Fv δ b,Fv δ a⟩ Qs
  ·refine Ah ?_;exact AI _ ⟨va,vb,dW a,dW b,rfl,rfl,rfl,hA,hB,by rw[EP,EP],ω,ha,Fv δ a,Fv δ b⟩ Qs
 ·obtain⟨u,w,X,Y,rfl,rfl,rfl,hX,hY,hv,hXY,hXl,lX,lY⟩:=hI;obtain⟨n,hn⟩:∃n,X.length=n:=⟨_,rfl⟩
  refine Ar<|Qm rfl<|Qx (Aq hX.rd.any rfl Cm rfl) rfl<|Qx (oA rfl) rfl<|Fb (n:=X.length+1) rfl Cm Cn rfl rfl rfl (by rfl) (by rfl) ω ω rfl rfl rfl<|fun g19=>Qm rfl (Bp (Qm rfl (Am (Ac (Ar (Qm rfl (Qx (Aq hX.rd.any rfl Cm rfl) rfl (Qm rfl (Am (Ag ?_))))))))));refine AB (fun q sl h' ms'=>∃(i c:Nat) (mo:Hp) (d:List Nat),n-i=q/\sl=[(0,u),(1,w),(5,.slice (some ⟨g19,0,none⟩) (X.length+1) (X.length+1)),(6,.int .u64 (c:Int)),(21,.w ((X.length:Nat):Int)),(22,.w i)]/\h=h'/\ms'=[mo]/\i<=n/\OwnL CU 1 117 mo (.slice (some ⟨g19,0,none⟩) (X.length+1) (X.length+1)) (d++replicate (n+1-i) 0)/\d.length=i/\(∀a,a∈d->a<4294967296)/\c<=1/\val 4294967296 d+4294967296^i*c=val 4294967296 (X.take i)+val 4294967296 (Y.take i)) n _ ⟨0,0,_,[],rfl,rfl,rfl,rfl,ω,by rw[<-hn,ap,Nat.sub_zero];exact OwnL.repW _ ω,rfl,(nofun),ω,rfl⟩ Qs ?_;rintro q sl h' ms' ⟨i,c,mo,d,rfl,rfl,rfl,rfl,hi,hO,hdl,hd,hc,hinv⟩;refine Ar<|Qm rfl<|Am<|Ac ?_;refine Aw rfl (fun hlt=>?_)<|fun hlt=>?_
  ·have hiX:i<X.length:=ω
   obtain⟨x,hx⟩:∃x,X.getD i 0=x:=⟨_,rfl⟩
   obtain⟨y,hy⟩:∃y,Y.getD i 0=y:=⟨_,rfl⟩
   have hx4:x<4294967296:=by rw[<-hx];exact GC lX i
   have hy4:y<4294967296:=by rw[<-hy];exact GC lY i
   have cA:=rdW hX hiX;rw[hx]at cA;obtain⟨s,hs⟩:∃s,x+c+y=s:=⟨_,rfl⟩
   have hst:=XR (b:=4294967296) δ hdl hinv s (by rw[hx,hy];exact hs.symm);have hlen:(d++replicate (n+1-i) 0).length=n+1:=by rw[af,length_replicate];omega
   have hset:(d++replicate (n+1-i) 0).set i (s%4294967296)=(d++[s%4294967296])++replicate (n+1-(i+1)) 0:=by rw[<-hdl,show n+1-d.length=(n+1-(d.length+1))+1 by omega,OJ]
   refine Ah<|Ab<|Ac<|Ag<|Ar<|Qm rfl<|Qm rfl<|Bp<|Qm rfl<|Qm rfl<|Qx (BC (i) hX.rd.any rfl Cm Cn rfl rfl) rfl<|Ql rfl Fi (cA _)<|Qm rfl ?_;refine Qx (Lc (a:=x) (b:=c) (r:=((x+c:Nat):Int)) (by rw[Ev ω];omega) rfl rfl rfl) rfl ?_;refine Qm rfl<|Am<|Ac<|Ar<|Qm rfl<|Qm rfl<|Qx (Aq hY.rd.any rfl Cm rfl) rfl<|Qm rfl<|Am ?_;refine Aw rfl (fun h2=>?_)<|fun h2=>?_
   ·have cB:=rdW hY (show i<Y.length by omega);rw[hy]at cB;refine Ad<|Qm rfl<|Qm rfl<|Qm rfl<|Qx (BC (i) hY.rd.any rfl Cm Cn rfl rfl) rfl<|Ql rfl Fi (cB _) ?_;refine Qx (Lc (a:=x+c) (b:=y) (r:=((s:Nat):Int)) (by rw[Ev ω];omega) rfl rfl rfl) rfl ?_;refine Qm rfl<|GX<|Qm rfl<|Qm rfl<|Qm rfl<|Qx (IF IQ rfl rfl rfl ω ω) rfl<|Qm rfl<|Qx (IA (n:=32) (r:=((s/4294967296:Nat):Int)) rfl rfl rfl rfl ω) rfl<|Qx (Cf (i) rfl Cm Cn rfl rfl ω ω) rfl<|CV (f:=fun n:Nat=>Value.int .u64 (n:Int)) (a:=s%4294967296) 0 i (fun _=>rfl) hO rfl Cn rfl rfl rfl rfl ω rfl rfl<|fun m' hO'=>Qm rfl (An (Ai (Ab (Ad (Qx (oA rfl) rfl (Qm rfl (An ?_)))))));exact Ao (n-(i+1)) _ ω ⟨i+1,s/4294967296,m',_,rfl,rfl,rfl,rfl,ω,by rw[<-hset];exact hO',by rw[af,hdl];rfl,J8 hd (Nat.mod_lt _ δ),ω,hst⟩ Qs
   ·have hy0:y=0:=by rw[<-hy];simp[List.getD,show ¬i<Y.length by omega]
    obtain rfl:x+c=s:=ω
    refine Ah<|Ab<|Ad<|Qm rfl<|Qm rfl<|Qm rfl<|Qx (IF IQ rfl rfl rfl ω ω) rfl<|Qm rfl<|Qx (IA (n:=32) (r:=(((x+c)/4294967296:Nat):Int)) rfl rfl rfl rfl ω) rfl<|Qx (Cf (i) rfl Cm Cn rfl rfl ω ω) rfl<|CV (f:=fun n:Nat=>Value.int .u64 (n:Int)) (a:=(x+c)%4294967296) 0 i (fun _=>rfl) hO rfl Cn rfl rfl rfl rfl ω rfl rfl<|fun m' hO'=>Qm rfl (An (Ai (Ab (Ad (Qx (oA rfl) rfl (Qm rfl (An ?_)))))));exact Ao (n-(i+1)) _ ω ⟨i+1,(x+c)/4294967296,m',_,rfl,rfl,rfl,rfl,ω,by rw[<-hset];exact hO',by rw[af,hdl];rfl,J8 hd (Nat.mod_lt _ δ),ω,hst⟩ Qs
  ·obtain rfl:i=n:=ω
   have hlen:(d++replicate (i+1-i) 0).length=i+1:=by rw[af,length_replicate];omega
   have hset:(d++replicate (i+1-i) 0).set i c=d++[c]:=by have:=OJ d 0 c;rw[List.replicate_zero,append_nil,hdl]at this;rw[show i+1-i=0+1 by omega];exact this
   refine Ax<|Aa<|Aa<|Af<|Ab<|Ar<|Qm rfl<|Qm rfl<|Qx (Aq hX.rd.any rfl Cm rfl) rfl<|Qm rfl<|Qx (Cf (i) rfl Cm Cn rfl rfl ω ω) rfl<|CV (f:=fun n:Nat=>Value.int .u64 (n:Int)) (a:=c) 0 i (fun _=>rfl) hO rfl Cn rfl rfl rfl rfl ω rfl rfl<|fun m' hO'=>Am ?_;rw[hset]at hO';refine Cx hO' fun h2 l2 hR=>(Ar (Qm rfl ?_))
   have hvv:val 4294967296 (d++[c])=a+b:=by rw[MI,hdl,hinv,take_of_length_le ω,take_of_length_le ω];exact hv
   refine Qc call165 rfl (Hl (d++[c]) _ h2 hR (by rw[af];show d.length+1<=_;omega))<|fun r h3 ms3 l3 hF=>?_;obtain⟨l3',rfl,hR3⟩:=hF;rw[C0 δ (J8 hd ω),hvv]at hR3;refine Qm rfl<|Am<|Aj ?_;exact Al rfl rfl (⟨AD l2 l3',rfl,hR3⟩)
theorem PT(a b:Nat)(hab:b<=a)(va vb:Value)(h:Hp)(hX:RdL CU 1 h [] va (dW a))(hY:RdL CU 1 h [] vb (dW b))(ha:(dW a).length<=1000000) :
  FnT Tryz.prog 154 #[va,vb] h [] (fun r h' ms'=>h.le h'/\ms'=[]/\RdL CU 1 h' [] r (dW (a-b))):=by
 have hl:=DJ (b:=4294967296) δ hab;have lX:∀x,x∈dW a->x<4294967296:=Fv δ a;have lY:∀x,x∈dW b->x<4294967296:=Fv δ b;have vX:=EP a;have vY:=EP b;revert hX hY lX lY vX vY;generalize hXe:dW a=X at ha;generalize hYe:dW b=Y;intro hX hY lX lY vX vY;have hYX:Y.length<=X.length:=by rw[<-hXe,<-hYe];exact hl
 obtain⟨n,hn⟩:∃n,X.length=n:=⟨_,rfl⟩
 refine Ap func154 ntmps154 rfl rfl<|fun w0 hw0=>?_;simp only[AR];refine Ar<|Qm rfl<|Bp<|Qm rfl<|Qx (Aq hX.rd.any rfl Cm rfl) rfl<|Fb (n:=X.length) rfl Cm Cn rfl rfl rfl (by rfl) (by rfl) ω ω rfl rfl rfl<|fun g11=>Qm rfl (Bp (Qm rfl (Am (Ac (Ar (Qm rfl (Qx (Aq hX.rd.any rfl Cm rfl) rfl (Qm rfl (Am (Ag ?_))))))))));refine AB (fun q sl h' ms'=>∃(i c:Nat) (mo:Hp) (d:List Nat),n-i=q/\sl=[(0,va),(1,vb),(5,.slice (some ⟨g11,0,none⟩) X.length X.length),(6,.int .u64 (c:Int)),(13,.w ((X.length:Nat):Int)),(14,.w i)]/\h=h'/\ms'=[mo]/\i<=n/\OwnL CU 1 117 mo (.slice (some ⟨g11,0,none⟩) X.length X.length) (d++replicate (n-i) 0)/\d.length=i/\(∀a,a∈d->a<4294967296)/\c<=1/\val 4294967296 d+val 4294967296 (Y.take i)=val 4294967296 (X.take i)+4294967296^i*c) n _ ⟨0,0,_,[],rfl,rfl,rfl,rfl,ω,by rw[<-hn,ap,Nat.sub_zero];exact OwnL.repW _ ω,rfl,(nofun),ω,rfl⟩ Qs ?_;rintro q sl h' ms' ⟨i,c,mo,d,rfl,rfl,rfl,rfl,hi,hO,hdl,hd,hc,hinv⟩;refine Ar<|Qm rfl<|Am<|Ac ?_;refine Aw rfl (fun hlt=>?_)<|fun hlt=>?_
 ·have hiX:i<X.length:=ω
  obtain⟨x,hx⟩:∃x,X.getD i 0=x:=⟨_,rfl⟩
  obtain⟨y,hy⟩:∃y,Y.getD i 0=y:=⟨_,rfl⟩
  have hx4:x<4294967296:=by rw[<-hx];exact GC lX i
  have hy4:y<4294967296:=by rw[<-hy];exact GC lY i
  have cA:=rdW hX hiX;rw[hx]at cA;obtain⟨s,hs⟩:∃s,(x+18446744073709551616-c-y)%18446744073709551616=s:=⟨_,rfl⟩
  have hst:=AaJ (b:=4294967296) δ (e:=s/9223372036854775808) (s:=s%4294967296) hdl hinv (by rw[hx,hy];omega);have hlen:(d++replicate (n-i) 0).length=n:=by rw[af,length_replicate];omega
  have hset:(d++replicate (n-i) 0).set i (s%4294967296)=(d++[s%4294967296])++replicate (n-(i+1)) 0:=by rw[<-hdl,show n-d.length=(n-(d.length+1))+1 by omega,OJ]
  obtain⟨s1,hs1⟩:∃s1,(x+18446744073709551616-c)%18446744073709551616=s1:=⟨_,rfl⟩
  refine Ah<|Ab<|Ac<|Ag<|Ar<|Qm rfl<|Qm rfl<|Bp<|Qm rfl<|Qm rfl<|Qx (BC (i) hX.rd.any rfl Cm Cn rfl rfl) rfl<|Ql rfl Fi (cA _)<|Qm rfl ?_;refine Qx (Vf (a:=x) (b:=c) (r:=((s1:Nat):Int)) (by simp only[IntKind.wrap,IntKind.bits,IntKind.signed];simp;omega) rfl rfl rfl) rfl ?_;refine Qm rfl<|Am<|Ac<|Ar<|Qm rfl<|Qm rfl<|Qx (Aq hY.rd.any rfl Cm rfl) rfl<|Qm rfl<|Am ?_;refine Aw rfl (fun h2=>?_)<|fun h2=>?_
  ·have cB:=rdW hY (show i<Y.length by omega);rw[hy]at cB;refine Ad<|Qm rfl<|Qm rfl<|Qm rfl<|Qx (BC (i) hY.rd.any rfl Cm Cn rfl rfl) rfl<|Ql rfl Fi (cB _) ?_;refine Qx (Vf (a:=s1) (b:=y) (r:=((s:Nat):Int)) (by simp only[IntKind.wrap,IntKind.bits,IntKind.signed];simp;omega) rfl rfl rfl) rfl ?_;refine Qm rfl<|GX<|Qm rfl<|Qm rfl<|Qm rfl<|Qx (IF IQ rfl rfl rfl ω ω) rfl<|Qm rfl<|Qx (IA (n:=63) (r:=((s/9223372036854775808:Nat):Int)) rfl rfl rfl rfl ω) rfl<|Qx (Cf (i) rfl Cm Cn rfl rfl ω ω) rfl<|CV (f:=fun n:Nat=>Value.int .u64 (n:Int)) (a:=s%4294967296) 0 i (fun _=>rfl) hO rfl Cn rfl rfl rfl rfl ω rfl rfl<|fun m' hO'=>Qm rfl (An (Ai (Ab (Ad (Qx (oA rfl) rfl (Qm rfl (An ?_)))))));exact Ao (n-(i+1)) _ ω ⟨i+1,s/9223372036854775808,m',_,rfl,rfl,rfl,rfl,ω,by rw[<-hset];exact hO',by rw[af,hdl];rfl,J8 hd (Nat.mod_lt _ δ),ω,hst⟩ Qs
  ·have hy0:y=0:=by rw[<-hy];simp[List.getD,show ¬i<Y.length by omega]
   obtain rfl:s1=s:=ω
   refine Ah<|Ab<|Ad<|Qm rfl<|Qm rfl<|Qm rfl<|Qx (IF IQ rfl rfl rfl ω ω) rfl<|Qm rfl<|Qx (IA (n:=63) (r:=((s1/9223372036854775808:Nat):Int)) rfl rfl rfl rfl ω) rfl<|Qx (Cf (i) rfl Cm Cn rfl rfl ω ω) rfl<|CV (f:=fun n:Nat=>Value.int .u64 (n:Int)) (a:=s1%4294967296) 0 i (fun _=>rfl) hO rfl Cn rfl rfl rfl rfl ω rfl rfl<|fun m' hO'=>Qm rfl (An (Ai (Ab (Ad (Qx (oA rfl) rfl (Qm rfl (An ?_)))))));exact Ao (n-(i+1)) _ ω ⟨i+1,s1/9223372036854775808,m',_,rfl,rfl,rfl,rfl,ω,by rw[<-hset];exact hO',by rw[af,hdl];rfl,J8 hd (Nat.mod_lt _ δ),ω,hst⟩ Qs
 ·obtain rfl:i=n:=ω
  refine Ax (Aa (Aa (Af (Ab ?_))));rw[Nat.sub_self,List.replicate_zero,append_nil]at hO;refine Cx hO fun h2 l2 hR=>(Ar (Qm rfl ?_))
  have hvv:val 4294967296 d=a-b:=by
   rw[take_of_length_le ω,take_of_length_le ω,vX,vY]at hinv;have h9:=Jm (b:=4294967296) δ hd;rw[hdl]at h9
   have hc0:c=0:=by
    rcases (show c=0\/c=1 by omega) with h|h
    ·exact h
    ·subst h;rw[gx]at hinv;omega
   subst hc0;rw[Nat.mul_zero]at hinv;omega
  refine Qc call165 rfl (Hl d _ h2 hR ω)<|fun r h3 ms3 l3 hF=>?_;obtain⟨l3',rfl,hR3⟩:=hF;rw[C0 δ hd,hvv]at hR3;refine Qm rfl<|Am<|Aj ?_;exact Al rfl rfl (⟨AD l2 l3',rfl,hR3⟩)
variable {x:Nat}
theorem Tf{o:List Nat}{i:Nat}(h:∀a,a∈o->a<4294967296)(hx:x<4294967296):∀a,a∈o.set i x->a<4294967296:=λa ha=>by
 rcases List.mem_or_eq_of_mem_set ha with h'|h'
 ·exact h a h'
 ·rw[h'];exact hx
theorem QS{o:List Nat}{i j:Nat}(h:i≠j):(o.set i x).getD j 0=o.getD j 0:=by simp[List.getD,List.getElem?_set,h]
theorem Aan{y:Nat}(hx:x<4294967296)(hy:y<4294967296):IntKind.u64.wrap ((x:Int)*(y:Int))=((x*y:Nat):Int):=by have:x*y<=4294967295*4294967295:=ep ω ω;rw[<-fv,Ev ω]
theorem Abh(a b:Nat)(va vb:Value)(h:Hp)(hA:RdL CU 1 h [] va (dW a))(hB:RdL CU 1 h [] vb (dW b))(ha:(dW a).length<=1000000)(hb:(dW b).length<=1000000) :
  FnT Tryz.prog 175 #[va,vb] h [] (λr h' ms'=>h.le h'/\ms'=[]/\RdL CU 1 h' [] r (dW (a*b))):=by
 have lA:∀x,x∈dW a->x<4294967296:=Fv δ a;have lB:∀x,x∈dW b->x<4294967296:=Fv δ b;have vA:=EP a;have vB:=EP b;revert hA hB lA lB vA vB;generalize dW a=A at ha;generalize dW b=B at hb;intro hA hB lA lB vA vB;obtain⟨n,hn⟩:∃n,A.length=n:=⟨_,Y⟩
 obtain⟨p,hp⟩:∃p,B.length=p:=⟨_,Y⟩
 refine Ap func175 ntmps175 Y Y<|λw0 hw0=>?_;simp only[AR];refine Ar<|Qm Y<|Bp<|Qm Y<|Qx (Aq hA.rd.any Y Cm Y) Y<|Qm Y<|Qx (Aq hB.rd.any Y Cm Y) Y<|Qx (oA Y) Y<|Fb (n:=A.length+B.length) Y Cm Cn Y Y Y (by rfl) (by rfl) ω ω Y Y Y<|λg17=>Qm Y<|Am<|Ac<|Ar<|Qm Y<|Qx (Aq hA.rd.any Y Cm Y) Y<|Qm Y<|Am<|Ag ?_;refine AB (λq sl h' ms'=>∃(i:Nat) (mo:Hp) (o:List Nat),n-i=q/\sl=[(1,vb),(5,.slice (some ⟨g17,0,none⟩) (A.length+B.length) (A.length+B.length)),(18,va),(19,.w ((A.length:Nat):Int)),(20,.w i)]/\h=h'/\ms'=[mo]/\i<=n/\OwnL CU 1 117 mo (.slice (some ⟨g17,0,none⟩) (A.length+B.length) (A.length+B.length)) o/\o.length=A.length+B.length/\(∀a,a∈o->a<4294967296)/\val 4294967296 o=val 4294967296 (A.take i)*val 4294967296 B/\∀j,i+p<=j->o.getD j 0=0) n _ ⟨0,_,replicate (A.length+B.length) 0,Y,Y,Y,Y,ω,OwnL.repW _ ω,by simp,by intro a ha;rw[(List.mem_replicate.1 ha).2];decide,by rw[Ey];simp[val],by intro j hj;simp[List.getD,List.getElem?_replicate];split<;>rfl⟩ Qs ?_;rintro q sl h' ms' ⟨i,mo,o,rfl,rfl,rfl,rfl,hi,hO,hol,hod,hov,hoz⟩;refine Ar<|Qm Y<|Am<|Ac ?_;refine Aw Y (λhlt=>?_)<|λhlt=>?_
 ·have hiA:i<A.length:=ω
  obtain⟨x,hx⟩:∃x,A.getD i 0=x:=⟨_,Y⟩
  have hx4:x<4294967296:=by rw[<-hx];exact GC lA i
  have cA:=rdW hA hiA;rw[hx]at cA;refine Ah<|Ab<|Ac<|Ag<|Ar<|Qm Y<|Qx (BC (i) hA.rd.any Y Cm Cn Y Y) Y<|Ql Y Fi (cA _)<|Qm Y<|Qm Y<|Bp<|Qm Y<|Am<|Ac<|Ar<|Qm Y<|Qx (Aq hB.rd.any Y Cm Y) Y<|Qm Y<|Am<|Ag ?_;refine AB (λq sl h' ms'=>∃(k c:Nat) (m1:Hp) (o1:List Nat),p-k=q/\sl=[(1,vb),(5,.slice (some ⟨g17,0,none⟩) (A.length+B.length) (A.length+B.length)),(6,.w i),(7,.int .u64 (x:Int)),(8,.int .u64 (c:Int)),(18,va),(19,.w ((A.length:Nat):Int)),(20,.w i),(25,vb),(26,.w ((B.length:Nat):Int)),(27,.w k)]/\h=h'/\ms'=[m1]/\k<=p/\OwnL CU 1 117 m1 (.slice (some ⟨g17,0,none⟩) (A.length+B.length) (A.length+B.length)) o1/\o1.length=A.length+B.length/\(∀a,a∈o1->a<4294967296)/\c<4294967296/\val 4294967296 o1+4294967296^(i+k)*c=val 4294967296 (A.take i)*val 4294967296 B+4294967296^i*(x*val 4294967296 (B.take k))/\∀j,i+p<=j->o1.getD j 0=0) p _ ⟨0,0,mo,o,Y,Y,Y,Y,ω,hO,hol,hod,ω,by rw[hov];simp[val],hoz⟩ Qs ?_;rintro q sl h' ms' ⟨k,c,m1,o1,rfl,rfl,rfl,rfl,hk,hO1,hol1,hod1,hc,hov1,hoz1⟩;refine Ar<|Qm Y<|Am<|Ac ?_;refine Aw Y (λhlt2=>?_)<|λhlt2=>?_
  ·have hkB:k<B.length:=ω
   have hik:i+k<o1.length:=ω
   obtain⟨y,hy⟩:∃y,B.getD k 0=y:=⟨_,Y⟩
   obtain⟨z,hz⟩:∃z,o1.getD (i+k) 0=z:=⟨_,Y⟩
   have hy4:y<4294967296:=by rw[<-hy];exact GC lB k
   have hz4:z<4294967296:=by rw[<-hz];exact GC hod1 _
   have hxy:x*y<=4294967295*4294967295:=ep ω ω;have hwm:=Aan hx4 hy4;have cB:=rdW hB hkB;rw[hy]at cB;have cO:=Afy (h:=h) hO1 hik;rw[hz]at cO;obtain⟨xy,hxye⟩:∃xy,x*y=xy:=⟨_,Y⟩
   obtain⟨s,hs⟩:∃s,z+xy+c=s:=⟨_,Y⟩
   have hst:=Aaz (b:=4294967296) δ hik hov1 (s:=s) (by rw[hz,hy,hxye];exact hs.symm);rw[hxye]at hwm hxy;have hs2:s/4294967296<4294967296:=ω
   refine Ah<|Ab<|Ac<|Ag<|Ar<|Qm Y<|Qx (BC (k) hB.rd.any Y Cm Cn Y Y) Y<|Ql Y Fi (cB _)<|Qm Y<|Qm Y<|Bp<|Qm Y<|Qm Y<|Qm Y<|Qx (oA Y) Y<|Qx (Cf (i+k) Y Cm Cn Y Y ω ω) Y<|Ql Y Fi (cO)<|Qm Y<|Qm Y<|Qx (Dk (UU Y Y Y)<|aw (Value.int .u64) hwm) Y ?_;refine Qx (Lc (a:=z) (b:=xy) (r:=((z+xy:Nat):Int)) (by rw[Ev ω];omega) rfl rfl rfl) rfl ?_;refine Qm Y ?_;refine Qx (Lc (a:=z+xy) (b:=c) (r:=((s:Nat):Int)) (by rw[Ev ω];omega) rfl rfl rfl) rfl ?_;refine Qm Y<|GX<|Qm Y<|Qm Y<|Qm Y<|Qx (oA Y) Y<|Qm Y<|Qx (IF IQ Y Y Y ω ω) Y<|Qm Y<|Qx (IA (n:=32) (r:=((s/4294967296:Nat):Int)) Y Y Y Y ω) Y<|Qx (Cf (i+k) Y Cm Cn Y Y ω ω) Y<|CV (f:=λn:Nat=>Value.int .u64 (n:Int)) (a:=s%4294967296) 0 (i+k) (λ_=>rfl) hO1 Y Cn Y Y Y Y hik Y Y<|λm' hO'=>Qm Y<|An<|Ai<|Ab<|Ad<|Qx (oA Y) Y<|Qm Y<|An ?_;exact Ao (p-(k+1)) _ ω ⟨k+1,s/4294967296,m',_,Y,Y,Y,Y,ω,hO',by rw[ff];exact hol1,Tf hod1 (Nat.mod_lt _ δ),hs2,hst,λj hj=>by rw[QS ω];exact hoz1 j hj⟩ Qs
  ·have hkp:k=B.length:=ω
   have hil:i+B.length<o1.length:=ω
   have he:=AaW (b:=4294967296) δ (o:=o1) (x:=A) (y:=B) (i:=i) (c:=c) hil (hoz1 _ ω) (by rw[hx,<-hkp];exact hov1);refine Ax<|Aa<|Aa<|Af<|Ab<|Ad<|Qm Y<|Qm Y<|Qm Y<|Qx (Aq hB.rd.any Y Cm Y) Y<|Qx (oA Y) Y<|Qm Y<|Qx (Cf (i+B.length) Y Cm Cn Y Y ω ω) Y<|CV (f:=λn:Nat=>Value.int .u64 (n:Int)) (a:=c) 0 (i+B.length) (λ_=>rfl) hO1 Y Cn Y Y Y Y hil Y Y<|λm' hO'=>An<|Ai<|Ab<|Ad<|Qx (oA Y) Y<|Qm Y<|An ?_;exact Ao (n-(i+1)) _ ω ⟨i+1,m',_,Y,Y,Y,Y,ω,hO',by rw[ff];exact hol1,Tf hod1 hc,he,λj hj=>by rw[QS ω];exact hoz1 j ω⟩ Qs
 ·obtain rfl:i=n:=ω
  refine Ax<|Aa<|Aa<|Af<|Ab<|Cx hO λh2 l2 hR=>Ar<|Qm Y<|Qc call165 Y (Hl o _ h2 hR ω)<|λr h3 ms3 l3 hF=>?_;obtain⟨l3',rfl,hR3⟩:=hF;rw[C0 δ hod,hov,take_of_length_le ω,vA,vB]at hR3;refine Qm Y<|Am<|Aj ?_;exact Al Y Y (⟨AD l2 l3',Y,hR3⟩)
end
section
open Go.Lin Go.Wd
theorem Aco{r x:Nat}(hx:x<4294967296):r*4294967296 ||| x=r*4294967296+x:=by have:=Nat.shiftLeft_add_eq_or_of_lt (show x<2^32 from hx) r;rw[Nat.shiftLeft_eq]at this;exact this.symm
theorem YB(a k:Nat)(hk:k≠0)(hk2:k<4294967296)(va:Value)(h:Hp)(hA:RdL CU 1 h [] va (dW a))(ha:(dW a).length<=1000000) :
  FnT Tryz.prog 189 #[va,.int .u64 (k:Int)] h [] (λr h' ms'=>h.le h'/\ms'=[]/\∃q,r=.tuple #[q,.int .u64 ((a%k:Nat):Int)]/\RdL CU 1 h' [] q (dW (a/k))):=by
 have lA:∀x,x∈dW a->x<4294967296:=Fv δ a;have vA:=EP a;revert hA lA vA;generalize dW a=A at ha;intro hA lA vA;obtain⟨n,hn⟩:∃n,A.length=n:=⟨_,Y⟩
 refine Ap func189 ntmps189 Y Y<|λw0 hw0=>?_;simp only[AR];refine Ar<|Qm Y<|Qm Y<|Bp<|Qm Y<|Qx (Aq hA.rd.any Y Cm Y) Y<|Fb (n:=A.length) Y Cm Cn Y Y Y (by rfl) (by rfl) ω ω Y Y Y<|λg11=>Qm Y<|Bp<|Qm Y<|Am<|Ac<|Ar<|Qm Y<|Qx (Aq hA.rd.any Y Cm Y) Y<|Qx (oS Y) Y<|Qm Y<|Am<|Ag ?_;refine AB (λq sl h' ms'=>∃(i r:Nat) (mo:Hp) (o:List Nat),i=q/\sl=[(0,va),(1,.int .u64 (k:Int)),(6,.slice (some ⟨g11,0,none⟩) A.length A.length),(7,.int .u64 (r:Int)),(8,.w ((i:Int)-1))]/\h=h'/\ms'=[mo]/\i<=A.length/\OwnL CU 1 117 mo (.slice (some ⟨g11,0,none⟩) A.length A.length) o/\o.length=A.length/\(∀x,x∈o->x<4294967296)/\r<k/\val 4294967296 (o.drop i)*k+r=val 4294967296 (A.drop i)) A.length _ ⟨A.length,0,_,replicate A.length 0,Y,Y,Y,Y,ω,OwnL.repW _ ω,by simp,by intro a ha;rw[(List.mem_replicate.1 ha).2];decide,ω,by rw[List.drop_of_length_le σ,List.drop_of_length_le ω];simp[val]⟩ Qs ?_;rintro q sl h' ms' ⟨i,r,mo,o,rfl,rfl,rfl,rfl,hi,hO,hol,hod,hr,hinv⟩;refine Ac<|Ar<|Qm Y<|Qm Y<|Am ?_;refine Aw Y (λhlt=>?_)<|λhlt=>?_
 ·obtain⟨j,rfl⟩:∃j,i=j+1:=⟨i-1,ω⟩
  have hj:j<A.length:=ω
  obtain⟨x,hx⟩:∃x,A.getD j 0=x:=⟨_,Y⟩
  have hx4:x<4294967296:=by rw[<-hx];exact GC lA j
  have cA:=rdW hA hj;rw[hx]at cA;have hst:=T6 (b:=4294967296) δ hk (show j<o.length by omega) hinv;rw[hx]at hst;have hlw:=ZC (b:=4294967296) hr hx4;obtain⟨s,hs⟩:∃s,r*4294967296+x=s:=⟨_,Y⟩
  rw[hs]at hst hlw
  have e20:((r*2^32%18446744073709551616:Nat):Int)=((r*4294967296:Nat):Int):=by rw[show(2:Nat)^32=4294967296 from Y,db ω]
  have e25:((r*4294967296 ||| x:Nat):Int)=(s:Int):=by rw[Aco hx4,hs]
  refine Ah<|Ab<|Ac<|Ag<|Ar<|Qm Y<|Qx (Va (a:=r) e20 Y Y Y ω) Y<|Qm Y<|Qm Y<|Qx (BC (j) hA.rd.any Y Cm Cn Y Y) Y<|Ql Y Fi (cA _)<|Qx (YN e25 Y Y Y ω ω) Y<|Qm Y<|Am<|AS (n:=11) (bs:=[ig,ig,ig,ig,ig,ig,ig,ig,ig,ii,ii]) [ig,ig,ig,ig,ig,ig,ig,ig,ig] CC κ κ Y Y<|Qq Y<|Qq Y<|Qq Y<|Qq Y<|Qp Y (OK (a:=s) (b:=k) Y Y Y ω ω)<|Qq Y<|Qq Y<|Qp Y (Pu (a:=s) (b:=k) Y Y Y ω)<|Qp Y (Cf (j) Y Cm Cn Y Y ω ω) ?_;unfold Dd;simp only[bh,ap];refine Qo 9 Y<|CV (f:=λn:Nat=>Value.int .u64 (n:Int)) (a:=s/k) 0 j (λ_=>rfl) hO Y Cn Y Y Y Y ω Y Y<|λm' hO'=>Qw<|Qo 10 Y<|Qm Y<|Qw<|Qe<|Ai<|Ab<|Ad<|Qm Y<|Qx (oS Y) Y<|Qm Y<|An ?_;exact Ao j [(0,va),(1,.int .u64 (k:Int)),(6,.slice (some ⟨g11,0,none⟩) A.length A.length),(7,.int .u64 ((s%k:Nat):Int)),(8,.w (((j+1:Nat):Int)-1-1))] ω ⟨j,s%k,m',_,Y,by rw[show((j+1:Nat):Int)-1-1=(j:Int)-1 by omega],Y,Y,ω,hO',by rw[ff];exact hol,Tf hod hlw,Nat.mod_lt _ ω,hst⟩ Qs
 ·have hi0:i=0:=ω
  subst hi0;rw[drop_zero,drop_zero,vA]at hinv
  have hq:val 4294967296 o=a/k:=by rw[<-hinv,Nat.add_comm,Nat.add_mul_div_right _ _ ω,fj hr,Nat.zero_add]
  have hrr:r=a%k:=by rw[<-hinv,Nat.add_comm,Nat.add_mul_mod_self_right,db hr]
  refine Ax<|Aa<|Aa<|Af<|Ab<|Cx hO λh2 l2 hR=>Ar<|Qm Y<|Qc call165 Y (Hl o _ h2 hR ω)<|λr h3 ms3 l3 hF=>?_;obtain⟨l3',rfl,hR3⟩:=hF;rw[C0 δ hod,hq]at hR3;refine Qm Y<|Qm Y<|Qm Y<|Am<|Aj ?_;exact Ck Y Y Y (⟨AD l2 l3',Y,_,by rw[<-hrr],hR3⟩)
theorem AcL(h:Hp)(ms:List Hp):RdL CU 1 h ms (.slice none 0 0) []:=⟨⟨⟨none,0,rfl,am _,by decide,rfl,λh=>ie h δ⟩⟩,HX⟩
theorem PG{k:Nat}(hk:k≠0)(hk2:k<4294967296):dW k=[k]:=XV δ hk hk2
theorem AcE(a k:Nat)(hk:k≠0)(hk2:k<4294967296)(va vb:Value)(h:Hp)(hA:RdL CU 1 h [] va (dW a))(hB:RdL CU 1 h [] vb (dW k))(ha:(dW a).length<=1000000) :
  FnT Tryz.prog 152 #[va,vb] h [] (λr h' ms'=>h.le h'/\ms'=[]/\∃q u,r=.tuple #[q,u]/\RdL CU 1 h' [] q (dW (a/k))/\RdL CU 1 h' [] u (dW (a%k))):=by
 have hB1:RdL CU 1 h [] vb [k]:=by rw[<-PG hk hk2];exact hB
 have rB:Rd h [] vb 1 1 ([k].flatMap CU):=hB1.rd;have cB:∀ms,Cell h ms ((AH vb).add (0*1)) (.int .u64 (k:Int)):=λms=>(hB1.any (ms:=ms)).cell0 (j:=0) σ rfl;have oa:=hA.rd.one;have ob:=hB.rd.one;refine Ap func152 ntmps152 Y Y<|λw0 hw0=>?_;simp only[AR];refine Ar<|Qm Y<|Qm Y<|Am<|Ac<|Ar<|Qm Y<|Qm Y ?_;refine Qx (As Y call188 Y<|DY (Vj a k ω (by rw[PG hk hk2];simp) va vb h hA hB) _) rfl ?_;refine Qm Y<|Am ?_;refine Aw Y (λh1=>?_)<|λh1=>?_
 ·have hlt:a<k:=by
   unfold Pq at h1;rcases f6 a k with h|h
   ·exact h
   ·rw[ae ω]at h1;split at h1<;>omega
  refine Ar<|Qm Y<|Qm Y<|Qm Y<|Am<|Aj<|Ae ?_;exact Ck Y Y Y (⟨BE,Y,_,_,Y,by rw[fj hlt];exact AcL _ _,by rw[db hlt];exact hA⟩)
 ·refine Ah<|Ab<|Ac<|Ar<|Qm Y<|Qx (Aq rB.any Y Cm Y) Y<|Qm Y<|Am ?_;refine Aw Y (λh2=>?_)<|λh2=>?_
  ·refine Ac<|Ad<|Qm Y<|Qm Y<|Qx (AM 0 rB.any Y Cm Cn Y Y Y ω) Y<|Ql Y Fi (cB _)<|Qc call189 Y (YB a k hk hk2 va h hA ha)<|λr h3 ms3 l3 hF=>?_;obtain⟨l3',rfl,q,rfl,hq⟩:=hF;have oq:=hq.rd.one;refine Qm Y<|Qm Y<|Qm Y<|Qm Y<|Qm Y<|Bp<|Qm Y<|Qm Y<|Ay [_] Y Cm Cn Y (by rfl) Y Y ω Y Y Y<|λg37=>Bg λh4 l4 hS=>?_;have hR:RdL CU 1 h4 [] (.slice (some ⟨g37,0,none⟩) 1 1) [a%k]:=⟨⟨⟨_,_,Y,am _,by decide,Y,λ_=>⟨_,Y,hS⟩⟩⟩,HX⟩
   refine Qc call165 Y (Hl [a%k] _ h4 hR σ)<|λr h5 ms5 l5 hF=>?_;obtain⟨l5',rfl,hR5⟩:=hF;have hm:=Nat.mod_lt a (show 0<k by omega);rw[C0 (b:=4294967296) δ (by intro x hx;rw[bm.1 hx];omega),show val 4294967296 [a%k]=a%k from Nat.add_zero _]at hR5;have or_:=hR5.rd.one;refine Qm Y<|Qm Y<|Am<|Aj<|Ae ?_;exact Ck Y Y Y (⟨AD l3'<|AD l4 l5',Y,_,_,Y,(hq.up l4).up l5',hR5⟩)
  ·exact ie δ h2
def Sz(n:Int):Prop:=(A7 n.natAbs).length<=400000
theorem Aet(n:Nat):(dW n).length<=(A7 n).length:=by rw[EV,BQ δ];have h1:=(BQ (b:=256) δ (dg 256 n).length n).1 (am _);exact b6 h1<|Nat.pow_le_pow_left δ _
theorem Sz.w{n:Int}(h:Sz n):(dW n.natAbs).length<=400000:=bl (Aet _) h
theorem H6(n:Int)(hn:Sz n)(h:Hp):FnT Tryz.prog 114 #[WD n] h [] (λr h' ms'=>h.le h'/\ms'=[]/\RdL CU 1 h' [] r (dW n.natAbs)):=
 AdK n.natAbs _ (bl hn δ) h
theorem Gn(n:Nat)(neg:Bool)(x:Int)(v:Value)(hx:x.natAbs=n)(hn:n≠0->neg=decide (x<0))(h:Hp)(R:RdL CU 1 h [] v (dW n))(hl:(dW n).length<=1000000) :
  FnT Tryz.prog 145 #[v,.bool neg] h [] (λr h' ms'=>h.le h'/\ms'=[]/\r=WD x):=
 (UR (dW n) neg v n (EP n) (Fv δ n) h R hl).mono λ_ _ _ q=>⟨q.1,q.2.1,by rw[q.2.2];exact Ada hx hn⟩
theorem Ads(a:Int)(ha:Sz a)(h:Hp):FnT Tryz.prog 231 #[WD a] h [] (λr h' ms'=>h.le h'/\ms'=[]/\r=WD (-a)):=by have osa:(sv (A7 a.natAbs)).oneCell'=true:=rfl;refine Ap func231 ntmps231 Y Y<|λw0 hw0=>?_;simp only[AR];refine Ar<|AK [_,_] Y Y (by rfl) Y Y Y<|λg1=>BS [.bool false,.string ByteArray.empty] Y Az Y Y<|λg2=>Am<|Av 1 Y λh1 l1 hS=>?_;have gS:∀ms,Seg h1 ms (⟨g1,0,none⟩:Addr) [.bool (decide (a<0)),sv (A7 a.natAbs)]:=λms=>hS.any;have e1:∀ms,Cell h1 ms ((⟨g1,0,none⟩:Addr).add 0) (.bool (decide (a<0))):=λms=>(hS 0 _ Y).any;have osn:(sv (A7 (-a).natAbs)).oneCell'=true:=rfl;refine Ac<|AS (n:=7) (bs:=[true,false,true,true,true,false,false]) [true,false,true,true,true] CC κ κ Y Y<|Qp Y (oG Y By Az<|gS _)<|QF C4 Y<|QL Y U4 (e1 _)<|Qq Y ?_;unfold Dd;simp only[bh,ap];refine Qo 1 Y<|Qc call114 Y (H6 a ha h1)<|λu h3 ms3 l3 hF=>?_;obtain⟨l3',rfl,hA⟩:=hF;refine Qa<|Qo 5 Y ?_;refine Qc call145 Y (Gn a.natAbs _ (-a) u ω (λh0=>by by_cases q:a<0<;>simp[q]<;>omega) h3 hA<|bl ha.w δ)<|λr h4 ms4 l4 hF=>?_;obtain⟨l4',rfl,rfl⟩:=hF;have l14:=AD l3' l4';refine Qa<|Qo 6 Y ?_;refine Sa 0 [_,_] Az Y (by simp[osa,osn]) ?_;refine Qa<|Qe<|Ab<|Aj ?_;exact Bx (vs:=[_,_]) 0 Y Y By Y Az Y Y (⟨AD l1 l14,Y,Y⟩)
theorem LX(n:Int)(hn:Sz n)(h:Hp)(ms:List Hp):FnV Tryz.prog 231 #[WD n] h ms (WD (-n)):=DY ((Ads n hn h).mono λ_ _ _ h=>h.2.2) ms
theorem Aeo(a b:Int)(ha:Sz a)(hb:Sz b)(h:Hp):FnT Tryz.prog 141 #[WD a,WD b] h [] (λr h' ms'=>h.le h'/\ms'=[]/\r=WD (a*b)):=by
 have osa:(sv (A7 a.natAbs)).oneCell'=true:=rfl;have osb:(sv (A7 b.natAbs)).oneCell'=true:=rfl;have osr:(sv (A7 (a*b).natAbs)).oneCell'=true:=rfl
 have hln:(dW (a.natAbs*b.natAbs)).length<=1000000:=by have h1:=M4 (b:=4294967296) δ a.natAbs b.natAbs;have h2:(dg 4294967296 a.natAbs).length<=400000:=ha.w;have h3:(dg 4294967296 b.natAbs).length<=400000:=hb.w;show(dg 4294967296 _).length<=_;omega
 have hsg:a.natAbs*b.natAbs≠0->decide (decide (a<0)≠decide (b<0))=decide (a*b<0):=λh0=>by
  have h1:a≠0:=by rintro rfl;simp at h0
  have h2:b≠0:=by rintro rfl;simp at h0
  rcases Int.lt_or_lt_of_ne h1 with p|p<;>rcases Int.lt_or_lt_of_ne h2 with q|q
  ·have:=Int.mul_pos_of_neg_of_neg p q;simp[p,q];omega
  ·have:=Int.mul_neg_of_neg_of_pos p q;simp[p,this];omega
  ·have:=Int.mul_neg_of_pos_of_neg p q;simp[q,this];omega
  ·have:=Int.mul_pos p q;have e1:¬a<0:=ω
   have e2:¬b<0:=ω
   have e3:¬a*b<0:=ω
   simp[e1,e2,e3]
 refine Ap func141 ntmps141 Y Y<|λw0 hw0=>?_;simp only[AR];refine Ar<|AK [_,_] Y Y (by rfl) Y Y Y<|λg2=>AK [_,_] Y Y (by rfl) Y Y Y<|λg3=>BS [.bool false,.es] Y Az Y Y<|λg4=>Am<|Av 1 Y λh1 l1 hS3=>Av 1 Y λh2 l2 hS2=>?_;have gS2:∀ms,Seg h2 ms (⟨g2,0,none⟩:Addr) [.bool (decide (a<0)),sv (A7 a.natAbs)]:=λms=>hS2.any;have gS3:∀ms,Seg h2 ms (⟨g3,0,none⟩:Addr) [.bool (decide (b<0)),sv (A7 b.natAbs)]:=λms=>(hS3.le l2).any;have e2:∀ms,Cell h2 ms ((⟨g2,0,none⟩:Addr).add 0) (.bool (decide (a<0))):=λms=>(hS2 0 _ Y).any;have e3:∀ms,Cell h2 ms ((⟨g3,0,none⟩:Addr).add 0) (.bool (decide (b<0))):=λms=>((hS3.le l2) 0 _ Y).any;refine Ac<|AS (n:=12) (bs:=[ig,ii,ig,ii,ii,ig,ig,ig,ig,ig,ii,ii]) [ig,ii,ig,ii,ii,ig,ig,ig,ig,ig] CC κ κ Y Y<|Qp Y (oG Y By Az<|gS2 _)<|Qp Y (oG Y By Az<|gS3 _)<|QF C4 Y<|QL Y U4 (e2 _)<|QF C4 Y<|QL Y U4 (e3 _)<|Qp Y (OF Y U4 Y Y) ?_;unfold Dd;simp only[bh,ap];refine Qo 1 Y<|Qc call114 Y (H6 a ha h2)<|λu h3 ms3 l3 hF=>?_;obtain⟨l3',rfl,hA⟩:=hF;refine Qa<|Qo 3 Y<|Qc call114 Y (H6 b hb h3)<|λv h4 ms4 l4 hF=>?_;obtain⟨l4',rfl,hB⟩:=hF;have l24:=AD l3' l4';refine Qa<|Qo 4 Y<|Qc call175 Y (Abh a.natAbs b.natAbs u v h4 (hA.up l4') hB (bl ha.w δ)<|bl hb.w δ)<|λt h5 ms5 l5 hF=>?_;obtain⟨l5',rfl,hC⟩:=hF;have l25:=AD l24 l5';refine Qa<|Qo 10 Y<|Qc call145 Y (Gn _ _ (a*b) t (Int.natAbs_mul a b) hsg h5 hC hln)<|λr h6 ms6 l6 hF=>?_;obtain⟨l6',rfl,rfl⟩:=hF;have l26:=AD l25 l6';refine Qa<|Qo 11 Y ?_;refine Sa 0 [_,_] Az Y (by simp[osa,osb,osr]) ?_;refine Qa<|Qe<|Ab<|Aj ?_;exact Bx (vs:=[_,_]) 0 Y Y By Y Az Y Y (⟨AD l1<|AD l2 l26,Y,Y⟩)
theorem JN(a b:Int)(ha:Sz a)(hb:Sz b)(h:Hp)(ms:List Hp):FnV Tryz.prog 141 #[WD a,WD b] h ms (WD (a*b)):=DY ((Aeo a b ha hb h).mono λ_ _ _ h=>h.2.2) ms
theorem AdI(a b:Int)(ha:Sz a)(hb:Sz b)(h:Hp):FnT Tryz.prog 156 #[WD a,WD b] h [] (λr h' ms'=>h.le h'/\ms'=[]/\r=WD (a+b)):=by
 have osa:(sv (A7 a.natAbs)).oneCell'=true:=rfl;have osb:(sv (A7 b.natAbs)).oneCell'=true:=rfl;have osr:(sv (A7 (a+b).natAbs)).oneCell'=true:=rfl;refine Ap func156 ntmps156 Y Y<|λw0 hw0=>?_;simp only[AR];refine Ar<|AK [_,_] Y Y (by rfl) Y Y Y<|λg2=>AK [_,_] Y Y (by rfl) Y Y Y<|λg3=>BS [.bool false,.es] Y Az Y Y<|λg4=>Am<|Av 1 Y λh1 l1 hS3=>Av 1 Y λh2 l2 hS2=>?_;have gS2:∀ms,Seg h2 ms (⟨g2,0,none⟩:Addr) [.bool (decide (a<0)),sv (A7 a.natAbs)]:=λms=>hS2.any;have gS3:∀ms,Seg h2 ms (⟨g3,0,none⟩:Addr) [.bool (decide (b<0)),sv (A7 b.natAbs)]:=λms=>(hS3.le l2).any;refine Ac<|AS (n:=6) (bs:=[ig,ii,ig,ii,ii,ii]) [ig,ii,ig] CC κ κ Y Y<|Qp Y (oG Y By Az<|gS2 _)<|Qp Y (oG Y By Az<|gS3 _) ?_;unfold Dd;simp only[bh,ap];refine Qo 1 Y<|Qc call114 Y (H6 a ha h2)<|λu h3 ms3 l3 hF=>?_;obtain⟨l3',rfl,hA⟩:=hF;refine Qa<|Qo 3 Y<|Qc call114 Y (H6 b hb h3)<|λv h4 ms4 l4 hF=>?_;obtain⟨l4',rfl,hB⟩:=hF;have l24:=AD l3' l4';refine Qa<|Qo 4 Y<|Qm Y<|Qa<|Qo 5 Y<|Qm Y<|Qa<|Qe ?_;have hA4:=hA.up l4';have oa:=hA4.rd.one;have ob:=hB.rd.one;have e2:∀ms,Cell h4 ms ((⟨g2,0,none⟩:Addr).add 0) (.bool (decide (a<0))):=λms=>((hS2 0 _ Y).any).le l24;have e3:∀ms,Cell h4 ms ((⟨g3,0,none⟩:Addr).add 0) (.bool (decide (b<0))):=λms=>(((hS3.le l2) 0 _ Y).any).le l24;have haw:=ha.w;have hbw:=hb.w
 have hla:∀n,n<=a.natAbs+b.natAbs->(dW n).length<=1000000:=λn hn=>by have h1:=DJ (b:=4294967296) δ hn;have h2:=LG (b:=4294967296) δ a.natAbs b.natAbs;have h3:(dg 4294967296 a.natAbs).length<=400000:=haw;have h4:(dg 4294967296 b.natAbs).length<=400000:=hbw;show(dg 4294967296 _).length<=_;omega
 refine Ab<|Ac<|Ag<|Ar<|Qf C4 Y<|Ql Y U4 (e2 _)<|Qf C4 Y<|Ql Y U4 (e3 _)<|Qx (Kj Y U4 Y Y) Y<|Qm Y<|Am ?_;refine Aw Y (λhs=>?_)<|λhs=>?_
 ·have hs':(a<0)=(b<0):=by simpa using hs
  refine Ac<|AS (n:=7) (bs:=[ig,ig,ii,ig,ig,ii,ii]) [ig,ig,ii,ig,ig] CC κ κ Y Y<|Qq Y<|Qq Y<|QF C4 Y<|QL Y U4 (e2 _) ?_;unfold Dd;simp only[bh,ap];refine Qo 2 Y<|Qc call153 Y (UY a.natAbs b.natAbs u v h4 hA4 hB (bl haw δ)<|bl hbw δ)<|λt h5 ms5 l5 hF=>?_;obtain⟨l5',rfl,hC⟩:=hF;have l25:=AD l24 l5';refine Qa<|Qo 5 Y ?_;refine Qc call145 Y (Gn _ _ (a+b) t (by by_cases q:a<0<;>simp[q]at hs'<;>omega) (λh0=>by by_cases q:a<0<;>simp[q]at hs' ⊢<;>omega) h5 hC<|hla _<|am _)<|λr h6 ms6 l6 hF=>?_;obtain⟨l6',rfl,rfl⟩:=hF;have l26:=AD l5' l6';refine Qa<|Qo 6 Y ?_;refine Sa 0 [_,_] Az Y (by simp[osa,osb,osr,oa,ob]) ?_;refine Qa<|Qe<|Ab<|Aj<|Ak<|Ae ?_;exact Bx (vs:=[_,_]) 0 Y Y By Y Az Y Y (⟨AD l1<|AD l2<|AD l24 l26,Y,Y⟩)
 ·have hs':¬(a<0<->b<0):=λq=>hs (by simpa using q);refine Ar<|Qm Y<|Qm Y<|Qx (As Y call188 Y<|DY (Vj a.natAbs b.natAbs (bl haw δ) (bl hbw δ) u v h4 hA4 hB) _) Y<|Qm Y<|Qm Y<|Am ?_;refine Aw Y (λhc=>?_)<|λhc=>?_
  ·have hlt:a.natAbs<b.natAbs:=by
    unfold Pq at hc;rcases f6 a.natAbs b.natAbs with h|h
    ·exact h
    ·rw[ae ω]at hc;split at hc<;>omega
   refine Ac<|AS (n:=7) (bs:=[ig,ig,ii,ig,ig,ii,ii]) [ig,ig,ii,ig,ig] CC κ κ Y Y<|Qq Y<|Qq Y<|QF C4 Y<|QL Y U4 (e3 _) ?_;unfold Dd;simp only[bh,ap];refine Qo 2 Y<|Qc call154 Y (PT b.natAbs a.natAbs ω v u h4 hB hA4<|bl hbw δ)<|λt h5 ms5 l5 hF=>?_;obtain⟨l5',rfl,hC⟩:=hF;refine Qa<|Qo 5 Y ?_;refine Qc call145 Y (Gn _ _ (a+b) t (by by_cases q:a<0<;>simp[q]at hs'<;>omega) (λh0=>by by_cases q:a<0<;>simp[q]at hs' ⊢<;>omega) h5 hC<|hla _ ω)<|λr h6 ms6 l6 hF=>?_;obtain⟨l6',rfl,rfl⟩:=hF;have l26:=AD l5' l6';refine Qa<|Qo 6 Y ?_;refine Sa 0 [_,_] Az Y (by simp[osa,osb,osr,oa,ob]) ?_;refine Qa<|Qe<|Ab<|Aj<|Ak<|Ae ?_;exact Bx (vs:=[_,_]) 0 Y Y By Y Az Y Y (⟨AD l1<|AD l2<|AD l24 l26,Y,Y⟩)
  ·have hge:b.natAbs<=a.natAbs:=by
    unfold Pq at hc;rcases f6 a.natAbs b.natAbs with h|h
    ·rw[ah h]at hc;exact ie δ hc
    ·exact h
   refine Ah<|Ai<|Ab<|Ac<|AS (n:=7) (bs:=[ig,ig,ii,ig,ig,ii,ii]) [ig,ig,ii,ig,ig] CC κ κ Y Y<|Qq Y<|Qq Y<|QF C4 Y<|QL Y U4 (e2 _) ?_;unfold Dd;simp only[bh,ap];refine Qo 2 Y<|Qc call154 Y (PT a.natAbs b.natAbs hge u v h4 hA4 hB<|bl haw δ)<|λt h5 ms5 l5 hF=>?_;obtain⟨l5',rfl,hC⟩:=hF;refine Qa<|Qo 5 Y ?_;refine Qc call145 Y (Gn _ _ (a+b) t (by by_cases q:a<0<;>simp[q]at hs'<;>omega) (λh0=>by by_cases q:a<0<;>simp[q]at hs' ⊢<;>omega) h5 hC<|hla _ ω)<|λr h6 ms6 l6 hF=>?_;obtain⟨l6',rfl,rfl⟩:=hF;have l26:=AD l5' l6';refine Qa<|Qo 6 Y ?_;refine Sa 0 [_,_] Az Y (by simp[osa,osb,osr,oa,ob]) ?_;refine Qa<|Qe<|Ab<|Aj ?_;exact Bx (vs:=[_,_]) 0 Y Y By Y Az Y Y (⟨AD l1<|AD l2<|AD l24 l26,Y,Y⟩)
theorem N1(a b:Int)(ha:Sz a)(hb:Sz b)(h:Hp)(ms:List Hp):FnV Tryz.prog 156 #[WD a,WD b] h ms (WD (a+b)):=DY ((AdI a b ha hb h).mono λ_ _ _ h=>h.2.2) ms
theorem Aa8(a:Int)(ha:Sz a)(h:Hp):FnT Tryz.prog 60 #[WD a] h [] (λr _ _=>r=.int .i64 a.sign):=by
 have osa:(sv (A7 a.natAbs)).oneCell'=true:=rfl;refine Ap func60 ntmps60 Y Y<|λw0 hw0=>?_;simp only[AR];refine Ar<|AK [_,_] Y Y (by rfl) Y Y Y<|λg1=>Qm Y<|Am<|Ac<|Ag<|Av 0 Y λh1 l1 hS=>?_;have gS:∀ms,Seg h1 ms (⟨g1,0,none⟩:Addr) [.bool (decide (a<0)),sv (A7 a.natAbs)]:=λms=>hS.any;refine Ar<|Qx (oG Y By Az<|gS _) Y<|Qc call114 Y (H6 a ha h1)<|λu h3 ms3 l3 hF=>?_;obtain⟨l3',rfl,hA⟩:=hF;have e1:∀ms,Cell h3 ms ((⟨g1,0,none⟩:Addr).add 0) (.bool (decide (a<0))):=λms=>((hS 0 _ Y).any).le l3';refine Qx (Aq hA.rd.any Y Cm Y) Y<|Qm Y<|Qm Y<|Am ?_;refine Aw Y (λhz=>?_)<|λhz=>?_
 ·have h0:a.natAbs=0:=(GZ (b:=4294967296) δ).1 (de (show(dW a.natAbs).length=0 by omega));obtain rfl:a=0:=ω
  refine Ar<|Qm Y<|Am<|Aj<|Ak<|Ae ?_;exact Al Y Y<|Y
 ·have h0:a≠0:=by rintro rfl;exact hz Y
  refine Ar<|Qf C4 Y<|Ql Y U4 (e1 _)<|Qm Y<|Am ?_;refine Aw Y (λhn=>?_)<|λhn=>?_
  ·refine Ac<|Ad<|Qm Y<|Am<|Aj<|Ak<|Ae ?_;exact Al Y Y (by rw[Int.sign_eq_neg_one_of_neg hn])
  ·refine Ah<|Ai<|Ab<|Ar<|Qm Y<|Am<|Aj ?_;exact Al Y Y (by rw[Int.sign_eq_one_of_pos ω])
theorem Et(a:Int)(ha:Sz a)(h:Hp)(ms:List Hp):FnV Tryz.prog 60 #[WD a] h ms (.int .i64 a.sign):=DY (Aa8 a ha h) ms
theorem ZN{a:Int}{m k:Nat}(hk:0<k)(ha:a.natAbs=m) :
  (a/(k:Int)=if a<0 then(if m%k=0 then -((m/k:Nat):Int) else -((m/k+1:Nat):Int)) else((m/k:Nat):Int))/\a%(k:Int)=if a<0/\m%k≠0 then((k-m%k:Nat):Int) else((m%k:Nat):Int):=by
 have hm:=Nat.mod_add_div m k;have hl:=Nat.mod_lt m hk;generalize m%k=r at *;generalize hq:m/k=q at *;have hm':(r:Int)+(k:Int)*(q:Int)=(m:Int):=by exact_mod_cast hm
 by_cases h0:a<0
 ·rw[ah h0];by_cases hr:r=0
  ·subst hr;rw[ah rfl,ae σ];exact(Int.ediv_emod_unique ω).2 ⟨by rw[Int.mul_neg];omega,ω,ω⟩
  ·rw[ae hr,ah ⟨h0,hr⟩];exact(Int.ediv_emod_unique ω).2 ⟨by rw[Int.mul_neg,Int.natCast_add,Int.mul_add];omega,ω,ω⟩
 ·rw[ae h0,ae (by simp[h0])];exact(Int.ediv_emod_unique ω).2 ⟨ω,ω,ω⟩
theorem J6{a b:Int}{m k:Nat}(hb:b≠0)(ha:a.natAbs=m)(hk:b.natAbs=k) :
  ((a/b).natAbs=if a<0/\m%k≠0 then m/k+1 else m/k)/\((a/b)≠0->decide (decide (a<0)≠decide (b<0))=decide (a/b<0))/\(a%b).natAbs=(if a<0/\m%k≠0 then k-m%k else m%k)/\0<=a%b:=by
 have hk0:0<k:=ω
 obtain⟨h1,h2⟩:=ZN hk0 ha;have hnn:0<=a%b:=Int.emod_nonneg a hb
 have hm2:a%b=a%(k:Int):=by
  rcases Int.lt_or_lt_of_ne hb with q|q
  ·rw[show b=-(k:Int) by omega,Int.emod_neg]
  ·rw[show b=(k:Int) by omega]
 have hd2:a/b=if b<0 then -(a/(k:Int)) else a/(k:Int):=by
  rcases Int.lt_or_lt_of_ne hb with q|q
  ·rw[ah q,show b=-(k:Int) by omega,Int.ediv_neg]
  ·rw[ae ω,show b=(k:Int) by omega]
 have hlt:=Nat.mod_lt m hk0;generalize m%k=R at *;generalize m/k=Q at *;refine⟨?_,λh0=>?_,?_,hnn⟩
 ·rw[hd2,h1];by_cases p:a<0<;>by_cases r:R=0<;>by_cases q:b<0<;>simp[p,q,r]<;>omega
 ·rw[hd2,h1]at h0 ⊢;by_cases p:a<0<;>by_cases r:R=0<;>by_cases q:b<0<;>simp[p,q,r]at h0 ⊢<;>omega
 ·rw[hm2,h2];by_cases p:a<0<;>by_cases r:R=0<;>simp[p,r]
theorem AdS(a b:Int)(ha:Sz a)(hb:b≠0)(hb2:b.natAbs<4294967296)(h:Hp) :
  FnT Tryz.prog 100 #[WD a,WD b] h [] (λr h' ms'=>h.le h'/\ms'=[]/\r=.tuple #[WD (a/b),WD (a%b),.bool true]):=by
 have osa:(sv (A7 a.natAbs)).oneCell'=true:=rfl;have osb:(sv (A7 b.natAbs)).oneCell'=true:=rfl;have osq:(sv (A7 (a/b).natAbs)).oneCell'=true:=rfl;have osr:(sv (A7 (a%b).natAbs)).oneCell'=true:=rfl;obtain⟨m,hm⟩:∃m,a.natAbs=m:=⟨_,Y⟩
 obtain⟨k,hk⟩:∃k,b.natAbs=k:=⟨_,Y⟩
 obtain⟨hd1,hd2,hd3,hd4⟩:=J6 hb hm hk;have hk0:k≠0:=ω
 have hSb:Sz b:=by show(A7 b.natAbs).length<=400000;rw[EV,hk];have:=(BQ (b:=256) δ 4 k).2 (by rw[<-hk];exact hb2);omega
 have haw:=ha.w;refine Ap func100 ntmps100 Y Y<|λw0 hw0=>?_;simp only[AR];refine Ar<|AK [_,_] Y Y (by rfl) Y Y Y<|λg2=>AK [_,_] Y Y (by rfl) Y Y Y<|λg3=>BS [.bool false,.es] Y Az Y Y<|λg4=>BS [.bool false,.es] Y Az Y Y<|λg5=>Qm Y<|Am<|Av 2 Y λh1 l1 hS3=>Av 2 Y λh2 l2 hS2=>?_;have gS2:∀ms,Seg h2 ms (⟨g2,0,none⟩:Addr) [.bool (decide (a<0)),sv (A7 a.natAbs)]:=λms=>hS2.any;have gS3:∀ms,Seg h2 ms (⟨g3,0,none⟩:Addr) [.bool (decide (b<0)),sv (A7 b.natAbs)]:=λms=>(hS3.le l2).any;refine Ac<|AS (n:=6) (bs:=[ig,ii,ig,ii,ii,ii]) [ig,ii,ig] CC κ κ Y Y<|Qp Y (oG Y By Az<|gS2 _)<|Qp Y (oG Y By Az<|gS3 _) ?_;unfold Dd;simp only[bh,ap];refine Qo 1 Y<|Qc call114 Y (H6 a ha h2)<|λu h3 ms3 l3 hF=>?_;obtain⟨l3',rfl,hA⟩:=hF;rw[hm]at hA;refine Qa<|Qo 3 Y<|Qc call114 Y (H6 b hSb h3)<|λv h4 ms4 l4 hF=>?_;obtain⟨l4',rfl,hB⟩:=hF;rw[hk]at hB;have l24:=AD l3' l4';refine Qa<|Qo 4 Y<|Qm Y<|Qa<|Qo 5 Y<|Qm Y<|Qa<|Qe ?_;rw[hm]at haw;have hA4:=hA.up l4';have rB:Rd h4 [] v 1 (dW k).length ((dW k).flatMap CU):=hB.rd;have oa:=hA4.rd.one;have ob:=hB.rd.one;refine Ab<|Ac<|Ar<|Qm Y<|Qx (Aq rB.any Y Cm Y) Y<|Qm Y<|Am ?_;refine Aw Y (λhz=>?_)<|λhz=>?_
 ·exact ie ((GZ (b:=4294967296) δ).1<|de (show(dW k).length=0 by omega)) hk0
 ·refine Ah<|Ab<|Ar<|Qm Y<|Qm Y<|Qc call152 Y (AcE m k hk0 ω u v h4 hA4 hB<|bl haw δ)<|λr h5 ms5 l5 hF=>?_;obtain⟨l5',rfl,q,w,rfl,hQ,hU⟩:=hF;have oq:=hQ.rd.one;have ou:=hU.rd.one;have hB5:=hB.up l5';have l25:=AD l24 l5';have e2:∀ms,Cell h5 ms ((⟨g2,0,none⟩:Addr).add 0) (.bool (decide (a<0))):=λms=>((hS2 0 _ Y).any).le l25;have e3:∀ms,Cell h5 ms ((⟨g3,0,none⟩:Addr).add 0) (.bool (decide (b<0))):=λms=>((hS3.le l2) 0 _ Y).any.le l25;have hmk:(dW (m/k)).length<=400000:=bl (DJ (b:=4294967296) δ (Nat.div_le_self m k)) haw;have hk4:k<4294967296:=ω
  have hmm:m%k<k:=Nat.mod_lt _ ω;refine Qm Y<|Qm Y<|Qm Y<|Qm Y<|Qm Y<|Am ?_;refine Bv (λsl h' ms'=>∃(q' u':Value),sl=[(2,.pt g2),(3,.pt g3),(4,.pt g4),(5,.pt g5),(9,q'),(10,u')]/\h5.le h'/\ms'=[BI g5 33 [.bool false,.es],BI g4 33 [.bool false,.es]]/\RdL CU 1 h' [] q' (dW (a/b).natAbs)/\RdL CU 1 h' [] u' (dW (a%b).natAbs)) ?_<|λs h ms hI=>?_
  ·refine Ac<|Ad<|Qf C4 Y<|Ql Y U4 (e2 _)<|Qm Y ?_;refine AU (t:=28) Y (λhneg=>?_)<|λhneg=>?_
   ·refine Qg (Au Y Y) Y<|Qg (Aq hU.rd.any Y Cm Y) Y<|Qg (Ci Y Y Y) Y<|Qm Y<|Am ?_;refine Aw Y (λh3=>?_)<|λh3=>?_
    ·have h0:m%k≠0:=by intro h0;rw[h0]at h3;exact ie h3 δ
     rw[ah ⟨hneg,h0⟩]at hd1 hd3;refine Ad<|Qm Y<|Ay [_] Y Cm Cn Y (by rfl) Y Y ω Y Y Y<|λg34=>Bg λh6 l6 hS1=>?_;have hR1:RdL CU 1 h6 [] (.slice (some ⟨g34,0,none⟩) 1 1) (dW 1):=⟨⟨⟨_,_,Y,am _,by decide,Y,λ_=>⟨_,Y,hS1⟩⟩⟩,HX⟩
     refine Qc call153 Y (UY (m/k) 1 q _ h6 (hQ.up l6) hR1 (bl hmk δ) δ)<|λx h7 ms7 l7 hF=>?_;obtain⟨l7',rfl,hX⟩:=hF;have ox:=hX.rd.one;refine Qm Y<|Qm Y ?_;refine Qc call154 Y (PT k (m%k) ω v w h7 ((hB5.up l6).up l7') ((hU.up l6).up l7') (by rw[PG hk0 hk4];simp))<|λy h8 ms8 l8 hF=>?_;obtain⟨l8',rfl,hY⟩:=hF;refine Qm Y<|Qm Y<|An ?_;exact AI _ ⟨x,y,Y,AD l6 (AD l7' l8'),Y,by rw[hd1];exact hX.up l8',by rw[hd3];exact hY⟩ Qs
    ·have h0:m%k=0:=by refine aq λh0=>h3 ?_;rw[PG h0 ω];simp
     rw[ae (by simp[h0])]at hd1 hd3;refine Ah ?_;exact AI _ ⟨q,w,Y,BE,Y,by rw[hd1];exact hQ,by rw[hd3];exact hU⟩ Qs
   ·rw[ae (by simp[hneg])]at hd1 hd3;refine Qk Y<|Qk Y<|Qk Y<|Qm Y<|Am<|AL Y<|Ah ?_;exact AI _ ⟨q,w,Y,BE,Y,by rw[hd1];exact hQ,by rw[hd3];exact hU⟩ Qs
  ·obtain⟨q',u',rfl,l6,rfl,hQ',hU'⟩:=hI;have oq':=hQ'.rd.one;have ou':=hU'.rd.one
   have hql:(dW (a/b).natAbs).length<=1000000:=by
    have h1:(a/b).natAbs<=m/k+1:=by rw[hd1];split<;>omega
    have h2:=DJ (b:=4294967296) δ h1;have h3:=LG (b:=4294967296) δ (m/k) 1;have h4:(dg 4294967296 (m/k)).length<=400000:=hmk;have h5:(dg 4294967296 1).length<=1:=by decide
    show(dg 4294967296 _).length<=_;omega
   have hrl:(dW (a%b).natAbs).length<=1000000:=by
    have h1:(a%b).natAbs<4294967296^1:=by rw[hd3];split<;>omega
    have:=(BQ (b:=4294967296) δ 1 _).2 h1;show(dg 4294967296 _).length<=_;omega
   refine Ar<|Qm Y<|Qf C4 Y<|Ql Y U4 ((e2 _).le l6)<|Qf C4 Y<|Ql Y U4 ((e3 _).le l6)<|Qx (OF Y U4 Y Y) Y<|Qc call145 Y (Gn _ _ (a/b) q' Y (λh0=>hd2 ω) _ hQ' hql)<|λx1 h7 ms7 l7 hF=>?_;obtain⟨l7',rfl,rfl⟩:=hF;refine Qm Y<|Qc call145 Y (Gn _ false (a%b) u' Y (λh0=>(cg ω).symm) h7 (hU'.up l7') hrl)<|λx2 h8 ms8 l8 hF=>?_;obtain⟨l8',rfl,rfl⟩:=hF;refine Sa 1 [_,_] Az Y (by simp[osa,osb,oq',ou',osq,osr]) ?_;refine Sa 0 [_,_] Az Y (by simp[osa,osb,oq',ou',osq,osr]) ?_;refine Qm Y<|Am<|Aj<|Es 1 Y ?_;exact RD (vs:=[_,_]) (vs2:=[_,_]) Y Y Y Y By Y Az Y Y ⟨AD l1<|AD l2<|AD l25<|AD l6<|AD l7' l8',Y,Y⟩
theorem Np(a b:Int)(ha:Sz a)(hb:b≠0)(hb2:b.natAbs<4294967296)(h:Hp)(ms:List Hp):FnV Tryz.prog 100 #[WD a,WD b] h ms (.tuple #[WD (a/b),WD (a%b),.bool true]):=DY ((AdS a b ha hb hb2 h).mono λ_ _ _ h=>h.2.2) ms
end
section
open Go.Lin Go.Wd
def cU(v:Value):List Value:=[v]
theorem GO:∀v,(cU v).length=1:=λ_=>rfl
def Bi(n:Int):List Value:=[.bool (decide (n<0)),sv (A7 n.natAbs)]
theorem Fa:∀n,(Bi n).length=2:=λ_=>rfl
theorem ES:∀a:Int,∀c∈Bi a,c.oneCell'=true:=λa c hc=>by unfold Bi at hc;simp only[bg,gz,gv]at hc;rcases hc with rfl|rfl<;>rfl
theorem Ov{l:List Int}{k n:Nat}(hk:k<n)(hl:l.length=n):(l.take k++replicate (n-k) 0).set k (l[k]'ω)=l.take (k+1)++replicate (n-(k+1)) 0:=by
 have h1:(l.take k).length=k:=by rw[ay];omega
 have h2:replicate (n-k) (0:Int)=0::replicate (n-(k+1)) 0:=by rw[<-List.replicate_succ];congr 1;omega
 rw[List.set_append_right _ _ ω,h1,Nat.sub_self,h2,List.set_cons_zero,ak ω,cz];rfl
def Qd(v:Value)(ms:List Hp)(r c:Nat)(L:List Int):Prop:=∃ev m,ms=[m]/\v=.agg #[.int .i64 r,.int .i64 c,ev]/\OwnL Bi 2 33 m ev L
theorem RW(r c:Nat)(hr:r<=200)(hc:c<=200)(h:Hp):FnT Tryz.prog 142 #[.int .i64 r,.int .i64 c] h [] (λv _ _=>v=.bool true):=by
 refine Ap func142 ntmps142 Y Y<|λw0 hw0=>?_;simp only[AR];refine Ar<|Qm Y<|Bp<|Qm Y<|Qm Y<|Qx (Um Y Y Y) Y<|Qm Y<|Qm Y ?_;refine AU (t:=9) Y (λh1=>?_)<|λh1=>?_
 ·refine Qg (Au Y Y) Y<|Qg (Au Y Y) Y<|Qg (PR Y Y Y) Y<|Qg (TS Y Y Y) Y<|Qm Y<|Qm Y<|Am<|Aj ?_;exact Al Y Y (by rw[bq];omega)
 ·exact ie ω h1
theorem J7(r c:Nat)(hr:r<=200)(hc:c<=200)(h:Hp):FnT Tryz.prog 89 #[.int .i64 r,.int .i64 c] h [] (λv h' ms'=>h=h'/\Qd v ms' r c (replicate (r*c) 0)):=by have hrc:r*c<=40000:=ep hr hc;have hmi:(r:Int)*c=((r*c:Nat):Int):=(fv r c).symm;refine Ap func89 ntmps89 Y Y<|λw0 hw0=>?_;simp only[AR];refine Ar<|BS [.int .i64 0,.int .i64 0,.slice none 0 0] Y BL Y Y<|λg4=>Am<|Ac<|Ar<|Qm Y<|Qm Y<|Qx (As Y call142 Y<|DY (RW r c hr hc h) _) Y<|Qm Y<|Am<|AL Y<|Ah<|Ab<|Ar<|Qm Y<|Qm Y<|Qm Y<|Qm Y<|Qx (oM Y) Y<|Ha Fa ω (0:Int) (n:=r*c) Y CE Az Y Y Y ω ω ω ω Y Y Y<|λg15 ev m hev hO=>?_;subst hev;refine Qx (AN Aed [.int .i64 0,.int .i64 0,.slice none 0 0] [(0,_),(1,_),(2,_)] [_,_,_] Y BL Y Y Qt Y) Y ?_;refine Sa 1 [_,_,_] BL Y (by simp[Value.oneCell']) ?_;refine Am<|Aj ?_;exact Bx (vs:=[_,_,_]) 1 Y Y HR Y BL Y Y (⟨Y,_,m,Y,Y,hO⟩)
def W9(f:Nat->Nat->Int)(k t a b:Nat):Int:=if a<k\/(a=k/\b<t) then f a b else 0
theorem Aaw(f:Nat->Nat->Int)(k t:Nat){r c:Nat}:DW r c (OS (W9 f k t) k t (f k t))=DW r c (W9 f k (t+1)):=by
 refine CT λa _ b _=>?_;unfold OS W9;by_cases h:a=k/\b=t
 ·obtain⟨rfl,rfl⟩:=h;rw[ah ⟨rfl,rfl⟩,ah ω]
 ·rw[ae h];by_cases h2:a<k\/(a=k/\b<t)
  ·rw[ah h2,ah ω]
  ·rw[ae h2,ae ω]
theorem AbA(f:Nat->Nat->Int)(k:Nat){r c:Nat}:DW r c (W9 f k c)=DW r c (W9 f (k+1) 0):=by
 refine CT λa _ b hb=>?_;unfold W9;by_cases h2:a<k\/(a=k/\b<c)
 ·rw[ah h2,ah ω]
 ·rw[ae h2,ae ω]
theorem Adu(r c:Nat)(hr0:0<r)(hr:r<=200)(hc:c<=200)(f:Nat->Nat->Int)(hb:∀i,i<r->∀j,j<c->-256<f i j/\f i j<256)(Rs:List Value)(lR:Rs.length=r)(v:Value)(h:Hp)(hv:RdL cU 1 h [] v Rs)(hRs:∀i,i<r->RdL cI 1 h [] (Rs.getD i undef) (Dr c (f i))) :
  FnT Tryz.prog 91 #[v] h [] (λw h' ms'=>h.le h'/\Qd w ms' r c (DW r c f)):=by
 have hrc:r*c<=40000:=ep hr hc;have ov:=hv.rd.one;have rv:Rd h [] v 1 r (Rs.flatMap cU):=by have:=hv.rd;rwa [lR]at this
 refine Ap func91 ntmps91 Y Y<|λw0 hw0=>?_;simp only[AR];refine Ar<|BS [.w 0,.w 0,.nl] Y BL Y Y<|λg2=>Bp<|Qm Y<|Am<|Ac<|Ar<|Qm Y<|Qx (Aq rv.any Y Jx Y) Y<|Qm Y<|Am<|Ag ?_;refine AB (λq sl h' ms'=>∃(i:Nat),r-i=q/\sl=[(0,v),(2,.pt g2),(3,.w ((if i=0 then 0 else c:Nat):Int)),(11,v),(12,.w (r:Int)),(13,.w i)]/\h=h'/\ms'=[BI g2 91 [.w 0,.w 0,.nl]]/\i<=r) (r-0) _ ⟨0,Y,Y,Y,Y,ω⟩ Qs ?_;rintro q sl h' ms' ⟨i,rfl,rfl,rfl,rfl,hi⟩;refine Ar<|Qm Y<|Am<|Ac ?_;refine Aw Y (λhlt=>?_)<|λhlt=>?_
 ·have hir:i<r:=ω
  have hiR:i<Rs.length:=ω
  obtain⟨ri,hri⟩:∃ri,Rs.getD i undef=ri:=⟨_,Y⟩
  have hRi:=hRs i hir;rw[hri]at hRi;have cR:∀ms,Cell h ms ((AH v).add (i*1)) ri:=λms=>(hv.any (ms:=ms)).cell0 hiR (by rw[<-hri];simp[List.getD,hiR,cU]);have rri:Rd h [] ri 1 c ((Dr c (f i)).flatMap cI):=by have:=hRi.rd;rwa [B7]at this
  have ori:=rri.one;refine Ah<|Ab<|Ac<|Ag<|Ar<|Qx (BC (i) rv.any Y Jx FA Y Y) Y<|Ql Y AZ (cR _)<|Qm Y<|GX<|Qm Y<|Qm Y<|Qx (Aq rri.any Y AZ Y) Y<|Qx (PR Y Y Y) Y<|Qm Y<|An<|Ai<|Ab<|Ad<|Qx (oA Y) Y<|Qm Y<|An ?_
  have hmx:max ((if i=0 then 0 else c:Nat):Int) (c:Int)=((if i+1=0 then 0 else c:Nat):Int):=by rw[ae (show ¬i+1=0 by omega)];split<;>omega
  rw[hmx];exact Ao (r-(i+1)) _ ω ⟨i+1,Y,Y,Y,Y,ω⟩ Qs
 ·have hir:i=r:=ω
  subst hir;rw[ae ω];refine Ax<|Aa<|Aa<|Af<|Ab<|Ar<|Qm Y<|Qx (Aq rv.any Y Jx Y) Y<|Qm Y<|Qc call89 Y (J7 i c hr hc h)<|λz h2 ms2 l2 hF=>?_;obtain⟨rfl,ev,m,rfl,rfl,hO⟩:=hF;have oe:=hO.o1;have re:Rd h [m] ev 2 (i*c) ((replicate (i*c) (0:Int)).flatMap Bi):=by have:=(hO.rd (h:=h) (ms:=[m]) Mh).rd;rwa [length_replicate]at this
  refine BS [.w 0,.w 0,.nl] Y BL Y Y<|λg6=>?_;refine Sa 0 [_,_,_] BL Y (by simp[ov,oe]) ?_;refine Am<|AF λh3 l3 hS6=>?_;have e6:∀ms,Cell h3 ms ((⟨g6,0,none⟩:Addr).add 2) ev:=λms=>(hS6 2 _ Y).any;have gS6:∀ms,Seg h3 ms (⟨g6,0,none⟩:Addr) [.w i,.w c,ev]:=λms=>hS6.any;refine Ac<|Ar<|Qf Gb Y<|Ql Y CE (e6 _)<|Qx (Lk re Y CE Y) Y<|Qm Y<|Am ?_;refine Aw Y (λhz=>?_)<|λhz=>?_
  ·have hz':i*c=0:=ω
   have hL:replicate (i*c) (0:Int)=DW i c f:=by have h1:=Ca i c f;rw[hz']at h1;rw[hz',fm.1 h1];rfl
   rw[hL]at hO;refine Ar<|Qx (oG Y HR BL<|gS6 _) Y ?_;refine Sa 1 [_,_,_] BL Y (by simp[ov,oe]) ?_;refine Am<|Aj<|Ae ?_;exact Bx (vs:=[_,_,_]) 1 Y Y HR Y BL Y Y (⟨l3,ev,m,Y,Y,hO⟩)
  ·refine Ah<|Ab ?_;have rv3:=rv.le l3;refine Ac<|Ar<|Qm Y<|Qx (Aq rv3.any Y Jx Y) Y<|Qm Y<|Am<|Ag ?_
   refine AB (λq sl h' ms'=>∃(k:Nat) (mo:Hp),i-k=q/\sl=[(0,v),(2,.pt g2),(3,.w c),(6,.pt g6),(31,v),(32,.w i),(33,.w k)]/\h3.le h'/\ms'=[mo,BI g2 91 [.w 0,.w 0,.nl]]/\k<=i/\OwnL Bi 2 33 mo ev (DW i c (W9 f k 0))) (i-0) _ ⟨0,_,Y,Y,BE,Y,ω,by
    have:DW i c (W9 f 0 0)=replicate (i*c) 0:=by rw[PL];refine CT λa _ b _=>?_;unfold W9;rw[ae ω]
    rw[this];exact hO⟩ Qs ?_
   rintro q sl h' ms' ⟨k,mo,rfl,rfl,lh,rfl,hk,hO⟩;have rv4:=rv3.le lh;refine Ar<|Qm Y<|Am<|Ac ?_;refine Aw Y (λhlt=>?_)<|λhlt=>?_
   ·have hki:k<i:=ω
    have hkR:k<Rs.length:=ω
    obtain⟨rk,hrk⟩:∃rk,Rs.getD k undef=rk:=⟨_,Y⟩
    have hRk:=hRs k hki;rw[hrk]at hRk;have hRk4:=hRk.up (AD l3 lh);have cR:∀ms,Cell h' ms ((AH v).add (k*1)) rk:=λms=>((hv.any (ms:=ms)).cell0 hkR (by rw[<-hrk];simp[List.getD,hkR,cU])).le (AD l3 lh);have rrk:Rd h' [] rk 1 c ((Dr c (f k)).flatMap cI):=by have:=hRk4.rd;rwa [B7]at this
    have ork:=rrk.one;refine Ah<|Ab<|Ac<|Ag<|Ar<|Qm Y<|Qx (BC (k) rv4.any Y Jx FA Y Y) Y<|Ql Y AZ (cR _)<|Qm Y<|Qm Y<|Bp<|Qm Y<|Qx (Aq rrk.any Y AZ Y) Y<|Qm Y<|Am<|Ag ?_;refine AB (λq sl hh ms'=>∃(t:Nat) (mo:Hp),c-t=q/\sl=[(0,v),(2,.pt g2),(3,.w c),(6,.pt g6),(31,v),(32,.w i),(33,.w k),(7,.w k),(38,rk),(39,.w c),(40,.w t)]/\h'.le hh/\ms'=[mo,BI g2 91 [.w 0,.w 0,.nl]]/\t<=c/\OwnL Bi 2 33 mo ev (DW i c (W9 f k t))) (c-0) _ ⟨0,mo,Y,Y,BE,Y,ω,hO⟩ Qs ?_;rintro q sl hh ms' ⟨t,mo,rfl,rfl,lhh,rfl,ht,hO⟩;have lhh':=AD lh lhh;refine Ar<|Qm Y<|Am<|Ac ?_;refine Aw Y (λhlt2=>?_)<|λhlt2=>?_
    ·have htc:t<c:=ω
     have htv:t<(Dr c (f k)).length:=by rw[B7];exact htc
     have cX:∀ms,Cell hh ms ((AH rk).add (t*1)) (.w (f k t)):=λms=>((hRk4.any (ms:=ms)).cell0 htv (by simp[Dr,cI])).le lhh;have e6:∀ms,Cell hh ms ((⟨g6,0,none⟩:Addr).add 2) ev:=λms=>(e6 ms).le lhh';have hix:k*c+t<i*c:=LS hki htc;have hcast:(k:Int)*c=((k*c:Nat):Int):=(fv k c).symm;have reo:Rd hh [mo] ev 2 (i*c) ((DW i c (W9 f k t)).flatMap Bi):=by have:=(hO.rd (h:=hh) (ms:=[mo]) Mh).rd;rwa [Ca]at this
     refine Ah<|Ab<|Ac<|Ag<|Ar<|Qm Y<|Qx (AM (t) (rrk.le lhh).any Y AZ Bk Y Y ω ω) Y<|Ql Y U3 (cX _)<|Qm Y<|Qm Y<|Am<|BB 9 CC κ Y<|Wf Gb Y<|Wl Y CE (e6 _)<|Wm Y<|Wm Y<|BD (oM Y) Y Y<|Wm Y<|BD (oA Y) Y Y<|Wm Y<|BD (As Y call95 Y<|Acf (f k t) (hb k hki t htc) _ _) Y Y<|Bu<|Qx (Ba (k*c+t) reo Y CE Az Y Y ω ω) Y ?_;refine EF 0 (k*c+t) (f k t) hO Y Az Y Y Y (ES _) Y (by rw[Ca];exact hix) Y Y<|λmo' hO'=>?_;rw[PS _ htc,Aaw]at hO';refine An<|Ai<|Ab<|Ad<|Qx (oA Y) Y<|Qm Y<|An ?_;exact Ao (c-(t+1)) _ ω ⟨t+1,mo',Y,Y,lhh,Y,ω,hO'⟩ Qs
    ·have htc:t=c:=ω
     subst htc;rw[AbA]at hO;refine Ax<|Aa<|Aa<|Af<|Ai<|Ab<|Ad<|Qx (oA Y) Y<|Qm Y<|An ?_;exact Ao (i-(k+1)) _ ω ⟨k+1,mo,Y,Y,lhh',Y,ω,hO⟩ Qs
   ·have hki:k=i:=ω
    subst hki;have gS6:∀ms,Seg h' ms (⟨g6,0,none⟩:Addr) [.w k,.w c,ev]:=λms=>(gS6 ms).le lh;refine Ax<|Aa<|Aa<|Af<|Ab<|Ar<|Qx (oG Y HR BL<|gS6 _) Y ?_;refine Sa 1 [_,_,_] BL Y (by simp[ov,oe]) ?_;refine Am<|Aj ?_;have hL:DW k c (W9 f k 0)=DW k c f:=CT λa ha b _=>by unfold W9;rw[ah (.inl ha)]
    rw[hL]at hO;exact Bx (vs:=[_,_,_]) 1 Y Y HR Y BL Y Y (⟨AD l3 lh,ev,mo,Y,Y,hO⟩)
theorem MX:∀{U:List Ce},(U.map λa=>a.c.id).Nodup->∀{x:Ce},x∈U->BJ (GM U) x.c.id=some x
 | [],_,x,hx=>by cases hx
 | a::U,hn,x,hx=>by
  rw[dr,fl]at hn;unfold BJ GM;rw[dr,List.find?_cons];by_cases h:a.c.id=x.c.id
  ·have:a=x:=by
    rcases bg.1 hx with e|e
    ·exact e.symm
    ·exact ie (ag.2 ⟨x,e,h.symm⟩) hn.1
   subst this;simp
  ·have hx':x∈U:=by
    rcases bg.1 hx with e|e
    ·exact ie (by rw[e]) h
    ·exact e
   have:=MX hn.2 hx';unfold BJ GM at this;simp only[h];simpa using this
theorem AcR(g:Nat)(U:List Ce)(cf:FuncId)(cs:List Value)(pr:Cl->Bool)(h:Hp)(R:RdT h g U)(hnd:(U.map λa=>a.c.id).Nodup)(hid:∀a∈U,Cd a.c.id)(hn:U.length<=1000000)
  (hc:∀xs w,(callFunc cf xs).run Tryz.prog w=.ok (.enter cf xs) w)
  (hp:∀a∈U,∀h',h.le h'->∀ms,FnV Tryz.prog cf ([]++[Value.agg (cC a).toArray]++cs).toArray h' ms (.bool (pr a.c))) :
  FnT Tryz.prog 173 #[.pt g,.func (.func cf) #[] cs.toArray] h [] (λr h' ms'=>h.le h'/\∃v m,r=.agg #[v]/\ms'=[m]/\OwnL cC 3 50 m v (U.filter λa=>pr a.c)):=by
 obtain⟨gm,mT,bs,vids,hS,hM,lM,hV,hsd⟩:=R;have ovi:=hV.rd.one;have hVl:(U.map λa=>a.c.id).length=U.length:=by rw[be]
 have rV:Rd h [] vids 1 U.length ((U.map λa=>a.c.id).flatMap cI):=by have:=hV.rd;rwa [hVl]at this
 have e0:∀ms,Cell h ms ((⟨g,0,none⟩:Addr).add 0) (.map (some gm)):=λms=>(hS 0 _ Y).any;have e1:∀ms,Cell h ms ((⟨g,0,none⟩:Addr).add 1) vids:=λms=>(hS 1 _ Y).any;refine Ap func173 ntmps173 Y Y<|λw0 hw0=>?_;simp only[AR];refine Ar<|BS [.nl] Y Bd Y Y<|λg4=>Bp<|BS [.nl] Y Bd Y Y<|λg5=>Am<|Ac<|Ar<|Qm Y<|Qm Y<|Qf Ot Y<|Ql Y AZ (e1 _)<|Qx (Aq rV.any Y AZ Y) Y<|Qm Y<|Am<|Ag<|BV ?_
 refine AB (λq sl h' ms'=>∃(i:Nat) (vo:Value) (mo:Hp),U.length-i=q/\sl=[(0,.pt g),(1,.func (.func cf) #[] cs.toArray),(4,.pt g4),(5,.pt g5),(11,vids),(12,.w U.length),(13,.w i)]/\h.le h'/\ms'=[mo,BI g5 27 [vo],BI g4 27 [.nl]]/\i<=U.length/\OwnL cC 3 50 mo vo ((U.take i).filter λa=>pr a.c))
  (U.length-0) _ ⟨0,_,Hp.emp,rfl,rfl,BE,rfl,ω,OwnL.nil DP⟩ Qs ?_
 rintro q sl h' ms' ⟨i,vo,mo,rfl,rfl,lh,rfl,hi,hO⟩;have e0:∀ms,Cell h' ms ((⟨g,0,none⟩:Addr).add 0) (.map (some gm)):=λms=>(e0 ms).le lh;have hV4:=hV.up lh;have rV4:=rV.le lh;have ovo:=hO.o1;refine Ar<|Qm Y<|Am<|Ac ?_;refine Aw Y (λhlt=>?_)<|λhlt=>?_
 ·have hiU:i<U.length:=ω
  obtain⟨x,hx⟩:∃x,U[i]=x:=⟨_,Y⟩
  have hxm:x∈U:=by rw[<-hx];exact ao hiU
  have hxi:=hid x hxm;have oxv:=(hsd x hxm).rd.one;have cI_:∀ms,Cell h' ms ((AH vids).add (i*1)) (.w x.c.id):=λms=>(hV4.any (ms:=ms)).cell0 (j:=i) (by rw[hVl];exact hiU) (by rw[gl,hx];rfl);have hg1:(BJ (GM U) x.c.id).getD default=x:=by rw[MX hnd hxm];rfl
  refine Ah<|Ab ?_;refine Bv (λsl h'' ms'=>∃(vo':Value) (mo':Hp),sl=[(0,.pt g),(1,.func (.func cf) #[] cs.toArray),(4,.pt g4),(5,.pt g5),(11,vids),(12,.w U.length),(13,.w i)]/\h'=h''/\ms'=[mo',BI g5 27 [vo'],BI g4 27 [.nl]]/\OwnL cC 3 50 mo' vo' ((U.take (i+1)).filter λa=>pr a.c)) ?_<|λs h ms hI=>?_
  ·have htk:U.take (i+1)=U.take i++[x]:=by rw[<-hx];exact ak hiU
   rw[htk,List.filter_append];refine Ag<|Ar<|Qx (BC (i) rV4.any Y AZ Bk Y Y) Y<|Ql Y U3 (cI_ _)<|Qm Y<|Bp<|Qm Y<|Qm Y<|Qm Y<|Qf GH Y<|Ql Y I6 (e0 _)<|Qm Y<|Qx (DH (V:=vC) (z:=(default:Ce)) (u:=x) x.c.id hg1 BH hM (AD lM lh) Y I6 Oj Y Y hxi) Y<|Qx (Cy Y Y hc Y<|hp x hxm h' lh _) Y<|Am ?_;refine BW Y (λhpx=>?_)<|λhpx=>?_
   ·have hf:[x].filter (λa=>pr a.c)=[x]:=by simp[hpx]
    rw[hf];have hol:((U.take i).filter λa=>pr a.c).length<=1000000:=bl (fd _ _) (by rw[ay];omega);refine AS (n:=12) (bs:=[ig,ii,ig,ig,ig,ig,ig,ig,ii,ii,ig,ii]) [ig,ii,ig,ig,ig,ig,ig,ig,ii,ii,ig] CC κ κ Y Y<|QF Ct Y<|Qq Y<|Qq Y<|QF GH Y<|QL Y I6 (e0 _)<|Qq Y<|Qp Y (DH (V:=vC) (z:=(default:Ce)) (u:=x) x.c.id hg1 BH hM (AD lM lh) Y I6 Oj Y Y hxi)<|QF Ct Y ?_;unfold Dd;simp only[bh,ap];refine A4 [1,8] κ Y ?_;refine AA Y ?_ ?_
    ·refine Ql Y B0 (Cell.blk 1 Y Y)<|Qw<|Qo 8 Y<|Ay [_,_,_] Y B0 A3 Y (by rfl) Y Y ω Y Y Y<|λg33=>Qw<|Qo 9 Y ?_;refine Cs 1 hO (RdL.one DP (x:=x) Mh Y) Y B0 A3 Y ω Y Y Y (GS (l:=[x]) (λy hy=>by rw[bm.1 hy];exact hsd x hxm)) (by simp only[ab];omega) (by simp only[ab];omega) rfl rfl rfl<|λv6 m6 hO6=>?_;have ov6:=hO6.o1;refine Qw<|Qo 11 Y<|Bh 2 0 Y AcH Y Y ov6 Y Y σ rfl rfl<|Qw<|Qe ?_;refine Ai<|AQ ?_;exact AI _ ⟨v6,m6,Y,Y,Y,hO6⟩ Qs
    refine AA Y ?_ ?_
    ·refine Ay [_,_,_] Y B0 A3 Y (by rfl) Y Y ω Y Y Y<|λg33=>Qw<|Qo 1 Y<|Ql Y B0 (Cell.blk 2 Y Y)<|Qw<|Qo 9 Y ?_;refine Cs 1 hO (RdL.one DP (x:=x) Mh Y) Y B0 A3 Y ω Y Y Y (GS (l:=[x]) (λy hy=>by rw[bm.1 hy];exact hsd x hxm)) (by simp only[ab];omega) (by simp only[ab];omega) rfl rfl rfl<|λv6 m6 hO6=>?_;have ov6:=hO6.o1;refine Qw<|Qo 11 Y<|Bh 2 0 Y AcH Y Y ov6 Y Y σ rfl rfl<|Qw<|Qe ?_;refine Ai<|AQ ?_;exact AI _ ⟨v6,m6,Y,Y,Y,hO6⟩ Qs
    exact A5
   ·have hf:[x].filter (λa=>pr a.c)=[]:=by simp[hpx]
    rw[hf,append_nil];refine Ah (Ai ?_);exact AI _ ⟨vo,mo,rfl,rfl,rfl,hO⟩ Qs
  ·obtain⟨vo',mo',rfl,rfl,rfl,hO'⟩:=hI;refine Ad<|Qx (oA Y) Y<|Qm Y<|An ?_;exact Ao (U.length-(i+1)) _ ω ⟨i+1,vo',mo',Y,Y,lh,Y,ω,hO'⟩ Qs
 ·have hiU:i=U.length:=ω
  subst hiU;rw[fe]at hO;refine Ax<|Aa<|Aa<|Af<|Ab<|Ar<|Qx (oG Y C9 Bd<|Seg.blk 1 Y) Y ?_;refine Sa 2 [_] Bd Y (by simp[ovi,ovo]) ?_;refine Am<|Aj<|Es 1 Y<|AQ ?_;exact Bx (vs:=[_]) 1 Y Y C9 Y Bd Y Y (⟨lh,vo,mo,Y,Y,hO⟩)
theorem YF(g:Nat)(U:List Ce)(cf:FuncId)(cs:List Value)(pr:Cl->Bool)(h:Hp)(R:RdT h g U)(hnd:(U.map λa=>a.c.id).Nodup)(hid:∀a∈U,Cd a.c.id)(hn:U.length<=1000000)
  (hc:∀xs w,(callFunc cf xs).run Tryz.prog w=.ok (.enter cf xs) w)
  (hp:∀a∈U,∀h',h.le h'->∀ms,FnV Tryz.prog cf ([]++[Value.agg (cC a).toArray]++cs).toArray h' ms (.bool (pr a.c))) :
  FnT Tryz.prog 136 #[.pt g,.func (.func cf) #[] cs.toArray] h [] (λr h' ms'=>h.le h'/\∃m,ms'=[m]/\OwnL cI 1 3 m r ((U.filter λa=>pr a.c).map λa=>a.c.id)):=by
 refine Ap func136 ntmps136 Y Y<|λw0 hw0=>?_;simp only[AR];refine Ar<|Qm Y<|Bp<|Qm Y<|Am<|Ac<|Ar<|Qm Y<|Qm Y<|Qc call173 Y (AcR g U cf cs pr h R hnd hid hn hc hp)<|λr h1 ms1 l1 hF=>?_;obtain⟨l1',v,m,rfl,rfl,hO⟩:=hF;refine Bt hO λh2 l2 hQ=>?_;obtain⟨W,hW⟩:∃W,(U.filter λa=>pr a.c)=W:=⟨_,Y⟩
 rw[hW]at hQ;have hWl:W.length<=1000000:=by rw[<-hW];exact bl (fd _ _) hn
 have hov:∀x∈W,x.v.oneCell'=true:=λx hx=>by obtain⟨gm,mT,bs,vids,hS,hM,lM,hV,hsd⟩:=R;rw[<-hW]at hx;exact(hsd x (dh.1 hx).1).rd.one
 have ov:=hQ.rd.one;refine Qx (Hg Y C9 Y B0 Y Y Y) Y<|Qx (Aq hQ.rd.any Y B0 Y) Y<|Qm Y<|Am<|Ag<|BV ?_
 refine AB (λq sl h' ms'=>∃(i:Nat) (vo:Value) (mo:Hp),W.length-i=q/\sl=[(5,vo),(11,v),(12,.w W.length),(13,.w i)]/\h2.le h'/\ms'=[mo]/\i<=W.length/\OwnL cI 1 3 mo vo ((W.take i).map λa=>a.c.id))
  (W.length-0) _ ⟨0,_,Hp.emp,rfl,rfl,BE,rfl,ω,OwnL.nil A8⟩ Qs ?_
 rintro q sl h' ms' ⟨i,vo,mo,rfl,rfl,lh,rfl,hi,hO⟩;have hQ4:=hQ.up lh;have ovo:=hO.o1;refine Ar<|Qm Y<|Am<|Ac ?_;refine Aw Y (λhlt=>?_)<|λhlt=>?_
 ·have hiW:i<W.length:=ω
  obtain⟨x,hx⟩:∃x,W[i]=x:=⟨_,Y⟩
  have oxv:=hov x (by rw[<-hx];exact ao hiW);have gX:∀ms,Seg h' ms ((AH v).add (i*3)) (cC x):=λms=>by rw[<-hx];exact(hQ4.any (ms:=ms)).seg hiW
  have htk:(W.take (i+1)).map (λa=>a.c.id)=(W.take i).map (λa=>a.c.id)++[x.c.id]:=by rw[ak hiW,dd,hx];rfl
  have hol:((W.take i).map λa=>a.c.id).length<=1000000:=by rw[be,ay];omega
  refine Ah<|Ab<|Ac<|Ag<|Ar<|Qx (BC (i) hQ4.rd.any Y B0 A3 Y Y) Y<|Qx (oG Y Jz A3<|gX _) Y<|BS [.w 0,.w 0,.nl] Y A3 Y Y<|λg7=>?_;refine Sa 0 [_,_,_] A3 Y (by simp[ov,ovo,oxv]) ?_;refine GX<|Qm Y<|Qf BZ Y<|Ql Y U3 (Cell.blk 0 Y Y)<|Ay [_] Y AZ Bk Y (by rfl) Y Y ω Y Y Y<|λg20=>AJ 2 hO (RdL.one A8 (x:=x.c.id) Mh Y) Y AZ Bk Y ω Y Y Y BT (by simp only[ab];omega) (by simp only[ab];omega) rfl rfl rfl<|λv6 m6 hO6=>?_;rw[<-htk]at hO6;have ov6:=hO6.o1;refine Qm Y<|An<|Ai<|Ab<|Ad<|Qx (oA Y) Y<|Qm Y<|An ?_;refine AQ<|AQ ?_;exact Ao (W.length-(i+1)) _ ω ⟨i+1,v6,m6,Y,Y,lh,Y,ω,hO6⟩ Qs
 ·have hiW:i=W.length:=ω
  subst hiW;rw[fe]at hO;refine Ax<|Aa<|Aa<|Af<|Ab<|Ar<|Qm Y<|Qm Y<|Am<|Aj ?_;exact Al Y Y (⟨AD l1' (AD l2 lh),mo,Y,by rw[hW];exact hO⟩)
theorem Abg(x:Ce)(gd:Nat)(d:Int)(h:Hp)(hD:∀ms,Cell h ms (⟨gd,0,none⟩:Addr) (.int .i64 d))(ox:x.v.oneCell'=true) :
  FnT Tryz.prog 137 #[.agg (cC x).toArray,.pt gd] h [] (λr _ _=>r=.bool (decide (x.c.dim=d))):=by
 refine Ap func137 ntmps137 Y Y<|λw0 hw0=>?_;simp only[AR];refine Ar<|AK [_,_,_] Y Y (by rfl) Y Y Y<|λg2=>Qm Y<|Am<|AF λh1 l1 hS=>?_;have e1:∀ms,Cell h1 ms ((⟨g2,0,none⟩:Addr).add 1) (.w x.c.dim):=λms=>(hS 1 _ Y).any;have e2:∀ms,Cell h1 ms (⟨gd,0,none⟩:Addr) (.w d):=λms=>(hD ms).le l1;refine Ar<|Qf Cj Y<|Ql Y U3 (e1 _)<|Ql Y U3 (e2 _)<|Qm Y<|Qm Y<|Am<|Aj ?_;exact Al Y Y<|Y
theorem Us(l:List Ce)(v:Value)(d:Int)(hp:Hp)(hK:RgC l)(hR:RdC hp v l) :
  FnT Tryz.prog 85 #[.agg #[v],.w d] hp [] (λr h' ms'=>hp.le h'/\∃m,ms'=[m]/\OwnL cI 1 3 m r (((cn l).filter λc=>decide (c.dim=d)).map Cl.id)):=by
 have ov:=hR.q.rd.one;refine Ap func85 ntmps85 Y Y<|λw0 hw0=>?_;simp only[AR];refine Ar<|AK [_] Y Y (by rfl) Y Y Y<|λg2=>AK [_] Y Y (by rfl) Y Y Y<|λg3=>Qm Y<|Am<|Av 1 Y λh1 l1 hS2=>AF λh2 l2 hS3=>?_;have hR2:=(hR.up l1).up l2;have gS2:∀ms,Seg h2 ms (⟨g2,0,none⟩:Addr) [v]:=λms=>(hS2.le l2).any;refine Ar<|Qx (oG Y C9 Bd<|gS2 _) Y<|Qc call88 Y (Ui l v h2 hK hR2)<|λr h3 ms3 l3 hF=>?_;obtain⟨l3',rfl,g,A,rfl,hA,hT⟩:=hF;have hO:=hK.pc.toOfOk;have hAl:A.length=l.length:=by have:=aw List.length hA;rwa [be,Jg]at this
 have hAid:(A.map λa=>a.c.id)=(cn l).map Cl.id:=by rw[<-hA,gg];rfl
 have hnd:(A.map λa=>a.c.id).Nodup:=by rw[hAid];exact hK.F.rgt.nd
 have hid:∀a∈A,Cd a.c.id:=λa ha=>by
  have h1:a.c∈cn l:=by rw[<-hA];exact ag.2 ⟨a,ha,Y⟩
  exact hK.cI h1
 have hov:∀a∈A,a.v.oneCell'=true:=λa ha=>by obtain⟨gm,mT,bs,vids,hS,hM,lM,hV,hsd⟩:=hT;exact(hsd a ha).rd.one
 have eD:∀h',h3.le h'->∀ms,Cell h' ms (⟨g3,0,none⟩:Addr) (.w d):=λh' lh ms=>((hS3 0 _ Y).any.le l3').le lh;refine Qx (Bz Y Y Y) Y ?_;refine Qc call136 Y (YF g A 137 [.pt g3] (λc=>decide<|c.dim=d) h3 hT hnd hid (by rw[hAl];exact hO.n) call137<|λa ha h' lh ms=>DY (Abg a g3 d h' (eD h' lh)<|hov a ha) ms)<|λr h4 ms4 l4 hF=>?_;obtain⟨l4',m,rfl,hOm⟩:=hF
 have e:(A.filter λa=>decide (a.c.dim=d)).map (λa=>a.c.id)=((cn l).filter λc=>decide (c.dim=d)).map Cl.id:=by rw[<-hA,List.filter_map,gg];rfl
 rw[e]at hOm;refine Qm Y<|Am<|Aj ?_;exact Al Y Y (⟨AD l1<|AD l2<|AD l3' l4',m,Y,hOm⟩)
theorem Aej(A:List Ce)(j:Nat)(hj:j<(GM A).length):(GM A)[j].2=A[j]'(by unfold GM at hj;rwa [be]at hj):=by simp only[GM,gl]
def Ae2(o:List Cl)(D:Int):Prop:=-1<=D/\(∀c∈o,c.dim<=D)/\(D=-1\/∃c∈o,c.dim=D)
theorem AdG(l:List Ce)(v:Value)(hp:Hp)(hK:RgC l)(hR:RdC hp v l) :
  FnT Tryz.prog 84 #[.agg #[v]] hp [] (λr h' ms'=>hp.le h'/\ms'=[]/\∃D,r=.w D/\Ae2 (cn l) D):=by
 have ov:=hR.q.rd.one;refine Ap func84 ntmps84 Y Y<|λw0 hw0=>?_;simp only[AR];refine Ar<|AK [_] Y Y (by rfl) Y Y Y<|λg1=>Qm Y<|Am<|AF λh1 l1 hS1=>?_;have hR1:=hR.up l1;have gS1:∀ms,Seg h1 ms (⟨g1,0,none⟩:Addr) [v]:=λms=>hS1.any;refine Ar<|Qm Y<|Am<|Ac<|Ar<|Qx (oG Y C9 Bd<|gS1 _) Y<|Qc call88 Y (Ui l v h1 hK hR1)<|λr h3 ms3 l3 hF=>?_;obtain⟨l3',rfl,g,A,rfl,hA,gm,mT,bs,vids,hS,hM,lM,hV,hsd⟩:=hF;have e0:∀ms,Cell h3 ms ((⟨g,0,none⟩:Addr).add 0) (.map (some gm)):=λms=>(hS 0 _ Y).any;have hTl:(GM A).length=A.length:=by unfold GM;rw[be]
 refine Qm Y<|Qf GH Y<|Ql Y I6 (e0 _)<|IH hM lM Y I6 Y Y Y Y<|λgi mi0 I0=>Am<|Ag ?_
 refine AB (λq sl h' ms'=>∃(vis:List Nat) (mi:Hp) (D:Int),A.length-vis.length=q/\sl=[(3,.w D),(11,.pt gi)]/\h3=h'/\ms'=[mi]/\En gi gm mT mi bs vis/\-1<=D/\(∀j (hj:j<A.length),j∈vis->A[j].c.dim<=D)/\(D=-1\/∃a∈A,a.c.dim=D))
  (A.length-0) _ ⟨[],mi0,-1,rfl,rfl,rfl,rfl,I0,ω,λj hj h=>(nomatch h),.inl rfl⟩ Qs ?_
 rintro q sl h' ms' ⟨vis,mi,D,rfl,rfl,rfl,rfl,I,hD1,hDv,hDe⟩;refine Ar ?_;refine J1 0 hM I lM Y Y Y Y Y Y (λhall=>?_)<|λj hj mi' hjv I'=>?_
 ·refine Qm Y<|Am<|Ac<|AL Y<|Ax<|Aa<|Aa<|Af<|Ab<|Ar<|Qm Y<|Qm Y<|Am<|Aj<|AQ ?_;exact Al Y Y (⟨AD l1 l3',Y,D,Y,hD1,λc hc=>by rw[<-hA]at hc;obtain⟨a,ha,rfl⟩:=ag.1 hc;obtain⟨j,hj,rfl⟩:=dm.1 ha;exact hDv j hj (hall j (by rw[hTl];exact hj)),by rcases hDe with h|⟨a,ha,h⟩;exact .inl h;exact .inr ⟨a.c,by rw[<-hA];exact ag.2 ⟨a,ha,Y⟩,h⟩⟩)
 ·have hjA:j<A.length:=ω
  have hTj:(GM A)[j].2=A[j]:=Aej A j hj;obtain⟨x,hx⟩:∃x,A[j]=x:=⟨_,Y⟩
  have hxm:x∈A:=by rw[<-hx];exact ao hjA
  have oxv:=(hsd x hxm).rd.one;refine Qm Y<|Am<|Ac<|AX Y<|Ah<|Ab<|Ag<|Ar<|Qx (Iz hM I' lM σ hj rfl rfl) rfl ?_;rw[hTj,hx];refine Qm Y<|BS [.w 0,.w 0,.nl] Y A3 Y Y<|λg5=>?_;refine Sa 0 [_,_,_] A3 Y (by simp[ov,oxv]) ?_;refine GX<|Qm Y<|Qf Cj Y<|Ql Y U3 (Cell.blk 0 Y Y)<|Qx (PR Y Y Y) Y<|Qm Y<|An<|Ai<|AQ ?_;refine Ao (A.length-(vis.length+1)) _ ?_ ⟨vis++[j],mi',max D x.c.dim,by simp,rfl,rfl,rfl,I',ω,λi hi' hv=>?_,?_⟩ Qs
  ·have hlt:vis.length<(GM A).length:=by
    have h1:=Go.Kuhn.nodup_le (vis++[j]) (range (GM A).length) I'.nodup λx hx=>by rw[cm,<-hM.len];exact I'.lt x hx
    simp at h1;omega
   omega
  ·rcases bj.1 hv with hv|hv
   ·have:=hDv i hi' hv;omega
   ·simp at hv;subst hv;rw[hx];omega
  ·rcases (ω:max D x.c.dim=D\/max D x.c.dim=x.c.dim) with e|e
   ·rw[e];exact hDe
   ·rw[e];exact .inr ⟨x,hxm,Y⟩
end
section
open Go.Lin Go.Wd
def sgn(sd:List (Int×Int))(c:Int):Int:=(sd.map λs=>if s.1=c then s.2 else 0).sum
theorem Lg(c:Int):sgn [] c=0:=rfl
theorem LD(s:Int×Int)(sd:List (Int×Int))(c:Int):sgn (s::sd) c=(if s.1=c then s.2 else 0)+sgn sd c:=by unfold sgn;rw[dr,sum_cons]
theorem SN(s:Int×Int)(sd:List (Int×Int))(c:Int):sgn (sd++[s]) c=sgn sd c+if s.1=c then s.2 else 0:=by unfold sgn;simp
theorem Mc{c:Int}:∀{sd:List (Int×Int)},(∀s∈sd,s.1≠c)->sgn sd c=0
 | [],_=>rfl
 | s::sd,h=>by rw[LD,ae (h s Mh),Mc λs hs=>h s (List.Mem.tail _ hs)];rfl
theorem Zb{c:Int}{sd:List (Int×Int)}(h:sgn sd c≠0):∃s∈sd,s.1=c:=aq λq=>h (Mc λs hs e=>q ⟨s,hs,e⟩)
theorem Adt{o:List Cl}(hn:(o.map Cl.id).Nodup){i j:Nat}(hi:i<o.length)(hj:j<o.length)(h:(o.getD i default).id=(o.getD j default).id):i=j:=by
 rw[show o.getD i default=o[i] by simp[List.getD,hi],show o.getD j default=o[j] by simp[List.getD,hj]]at h;have hp:=ct.1 hn;rcases gk i j with h1|h1|h1
 ·have:=hp i j (by simpa using hi) (by simpa using hj) h1;simp only[gl]at this;exact ie h this
 ·exact h1
 ·have:=hp j i (by simpa using hj) (by simpa using hi) h1;simp only[gl]at this;exact ie h.symm this
theorem MY(L:Int->List (Int×Int))(c:Int):∀s:List (Int×Int),EW (QW L s) c=(s.map λa=>a.2*sgn (L a.1) c).sum
 | []=>rfl
 | a::s=>by
  have ih:=MY L c s;unfold EW QW at *;rw[List.flatMap_cons,dd,List.sum_append,ih,dr,sum_cons];congr 1
  have:∀l:List (Int×Int),((l.map λr=>(a.1,r.1,a.2*r.2)).map λ(e:Int×Int×Int)=>if e.2.1=c then e.2.2 else 0).sum=a.2*sgn l c:=λl=>by
   induction l with
   | nil=>simp[sgn]
   | cons r l ih=>
    rw[dr,dr,sum_cons,ih,LD,Int.mul_add];congr 1;show(if r.1=c then a.2*r.2 else 0)=_;split
    ·rfl
    ·rw[gu]
  exact this _
theorem Sf{α:Type}{h:α->Int}:∀{l:List α},(∀s∈l,h s=0)->(l.map h).sum=0
 | [],_=>rfl
 | a::l,hl=>by rw[dr,sum_cons,hl a Mh,Sf λs hs=>hl s (List.Mem.tail _ hs)];rfl
theorem Wb{o:List Cl}{j:Nat}(hj:j<o.length):o.getD j default∈o:=by rw[show o.getD j default=o[j] by simp[List.getD,hj]];exact ao hj
def Shp(v:Value)(n:Nat):Prop:=(v=.slice none 0 0/\n=0)\/∃g c,v=.slice (some ⟨g,0,none⟩) n c
theorem Vx{α:Type}{F:α->List Value}{sz:Nat}{el:TypeId}{m:Hp}{v:Value}{l:List α}(O:OwnL F sz el m v l):Shp v l.length:=by
 obtain⟨⟨_,h⟩,_⟩:=O;rcases h with ⟨h1,h2,_⟩|⟨g,cap,spare,h1,_⟩
 ·exact .inl ⟨h1,h2⟩
 ·exact .inr ⟨g,cap,h1⟩
theorem Afq(zs:List Int)(v:Value)(x:Int)(h:Hp)(hR:RdL cI 1 h [] v zs)(hv:Shp v zs.length)(hs:zs.Pairwise (·<=·))(hn:zs.length<=1000000)(ms:List Hp) :
  FnV Tryz.prog 90 #[v,.w x] h ms (.tuple #[.w ((zs.countP (·<x):Nat):Int),.bool (zs.contains x)]):=by
 intro w hw;rcases hv with ⟨rfl,h0⟩|⟨g,c,rfl⟩
 ·obtain rfl:zs=[]:=fm.1 h0;exact(Tryz.slices_BinarySearch_int_empty none 0 x w).mono λe w' ⟨h1,h2⟩=>⟨by rw[h1];rfl,by rw[h2];exact Ext.refl _⟩
 ·refine(Tryz.slices_BinarySearch_int g 0 zs.length c zs x w (am _) ω (λj hj=>?_) (by rw[fe];exact hs)).mono λe w' ⟨h1,q,h2⟩=>⟨by rw[h1,fe],by rw[h2];exact⟨Y,⟨Y,Nat.le_add_right _ _⟩,Y,am _,λ_ _=>rfl⟩⟩
  have hc:=(hR.any (ms:=ms)).cell0 hj (u:=.w zs[j]) Y;have:=hw.cell hc;rw[show(AH (.slice (some ⟨g,0,none⟩) zs.length c)).add (j*1)=(⟨g,0+j,none⟩:Addr) by simp only[AH,Addr.add,gx];split<;>simp_all]at this;simpa[List.getD,hj] using this
theorem S6:∀{zs:List Int},zs.Pairwise (· < ·)->∀{x:Int} {i:Nat} (hi:i<zs.length),zs[i]=x->zs.countP (·<x)=i
 | [],_,x,i,hi,_=>by simp at hi
 | a::zs,hp,x,i,hi,he=>by
  rw[pairwise_cons]at hp;cases i with
  | zero=>
   simp at he;subst he;rw[List.countP_cons,ae σ];rw[List.countP_eq_zero.2 λb hb=>by have:=hp.1 b hb;simp;omega]
  | succ i=>
   have hi':i<zs.length:=by simpa using hi
   have he':zs[i]=x:=by simpa using he
   have:=hp.1 _ (ao hi');rw[List.countP_cons,ah (by simp;omega),S6 hp.2 hi' he']
end
section
open Go.Lin
def ColsO:Hp->List Value->List (List Int)->Prop
 | m,[],[]=>m=Hp.emp
 | m,v::vs,c::cs=>∃a b,m=a.join b/\a.disj b/\OwnL cI 1 3 a v c/\ColsO b vs cs
 | _,_,_=>False
theorem ColsO.snoc{v:Value}{c:List Int}{b:Hp}(O:OwnL cI 1 3 b v c):∀{vs:List Value} {cs:List (List Int)} {m:Hp},ColsO m vs cs->m.disj b->ColsO (m.join b) (vs++[v]) (cs++[c])
 | [],[],m,h,hd=>by have h:m=Hp.emp:=h;subst h;exact⟨b,Hp.emp,by rw[Hp.join_emp,Hp.emp_join],λg=>.inr rfl,O,rfl⟩
 | _::_,_::_,m,⟨a,b',e,hd',O',h⟩,hd=>by subst e;refine⟨a,b'.join b,Hp.join_assoc _ _ _,?_,O',h.snoc O (Hp.disj_right hd)⟩;exact Hp.disj_symm<|Hp.disj_join (Hp.disj_symm hd')<|Hp.disj_symm<|Hp.disj_left hd
 | [],_::_,_,h,_=>h.elim
 | _::_,[],_,h,_=>h.elim
theorem Nx{a b c:Hp}(h:a.disj b):a.join (b.join c)=b.join (a.join c):=by rw[<-Hp.join_assoc,<-Hp.join_assoc,Hp.join_comm h]
theorem ColsO.at_:∀{vs:List Value} {cs:List (List Int)} {m:Hp},ColsO m vs cs->∀{i:Nat} (hv:i<vs.length) (hc:i<cs.length),∃a b,m=a.join b/\a.disj b/\OwnL cI 1 3 a vs[i] cs[i]/\∀a' c',a'.disj b->OwnL cI 1 3 a' vs[i] c'->ColsO (a'.join b) vs (cs.set i c')
 | [],_,_,_,i,hv,_=>by simp at hv
 | _::_,[],_,h,_,_,_=>h.elim
 | v::vs,c::cs,m,⟨a,b,e,hd,O,C⟩,0,_,_=>⟨a,b,e,hd,O,λa' c' hd' O'=>⟨a',b,rfl,hd',O',C⟩⟩
 | v::vs,c::cs,m,⟨a0,b0,e,hd,O,C⟩,i+1,hv,hc=>by
  obtain⟨a,b,e2,hd2,O2,K⟩:=C.at_ (i:=i) (by simpa using hv) (by simpa using hc);subst e2;obtain⟨h0a,h0b⟩:=Hp.disj_of_join hd;refine⟨a,a0.join b,by rw[e];exact Nx h0a,?_,O2,λa' c' hd' O'=>?_⟩
  ·exact Hp.disj_symm<|Hp.disj_join h0a<|Hp.disj_symm hd2
  ·obtain⟨k0,kb⟩:=Hp.disj_of_join hd';refine⟨a0,a'.join b,Nx k0,?_,O,K a' c' kb O'⟩;exact Hp.disj_symm<|Hp.disj_join k0<|Hp.disj_symm h0b
open Go.Wd
variable {r c k:Nat} {B:Nat->Nat->Int} {sd:List (Int×Int)} {rows:List Int}
def EA(B:Nat->Nat->Int)(sd:List (Int×Int))(rows:List Int)(k j i b:Nat):Int:=if b<k then B i b else if b=k then sgn (sd.take j) (rows.getD i 0) else 0
def BK(r c:Nat)(F:Nat->Nat->Int):List (List Int):=(range r).map λi=>Dr c (F i)
theorem Dq(r c:Nat)(F:Nat->Nat->Int):(BK r c F).length=r:=by simp[BK]
theorem Fh{F G:Nat->Nat->Int}(h:∀i,i<r->∀b,b<c->F i b=G i b):BK r c F=BK r c G:=by unfold BK;refine gc λi hi=>Nv λb hb=>h i (cm.1 hi) b hb
theorem Uo(r c:Nat)(B:Nat->Nat->Int)(sd:List (Int×Int))(rows:List Int):BK r c (EA B sd rows 0 0)=replicate r (replicate c 0):=by
 have h1:BK r c (EA B sd rows 0 0)=BK r c λ_ _=>0:=Fh λi _ b _=>by unfold EA;rw[ae ω,take_zero,Lg,ite_self]
 rw[h1];unfold BK Dr;rw[List.map_const',length_range,List.map_const',length_range]
theorem KF{sd':List (Int×Int)}:BK r c (EA B sd rows k 0)=BK r c (EA B sd' rows k 0):=
 Fh λi _ b _=>by unfold EA;rw[take_zero,take_zero]
theorem T4(hB:∀i,i<r->B i k=sgn sd (rows.getD i 0)):BK r c (EA B sd rows k sd.length)=BK r c (EA B sd rows (k+1) 0):=
 Fh λi hi b _=>by
  unfold EA;rw[fe,take_zero,Lg,ite_self];by_cases h1:b<k
  ·rw[ah h1,ah ω]
  ·by_cases h2:b=k
   ·subst h2;rw[ae h1,ah rfl,ah ω,hB i hi]
   ·rw[ae h1,ae h2,ae ω]
theorem Wg:BK r c (EA B sd rows c 0)=BK r c B:=
 Fh λi _ b hb=>by unfold EA;rw[ah hb]
theorem YQ{j:Nat}(hr:rows.length=r)(hj:j<sd.length)(h:sd[j].1 ∉ rows):BK r c (EA B sd rows k (j+1))=BK r c (EA B sd rows k j):=
 Fh λi hi b _=>by
  unfold EA;have hi':i<rows.length:=ω
  have hne:¬sd[j].1=rows.getD i 0:=λe=>h (by rw[e];simp[List.getD,hi']);rw[ak hj,SN,ae hne,fz]
theorem WT{j i0:Nat}(hr:rows.length=r)(hn:rows.Nodup)(hj:j<sd.length)(hi0:i0<r)(hk:k<c)(h:rows[i0]'ω=sd[j].1) :
  BK r c (EA B sd rows k (j+1))=(BK r c (EA B sd rows k j)).set i0 ((Dr c (EA B sd rows k j i0)).set k (EA B sd rows k j i0 k+sd[j].2)):=by
 refine fw (by rw[ff,Dq,Dq]) λi h1 h2=>?_;have hi:i<r:=by rwa [Dq]at h1
 have hi':i<rows.length:=ω
 rw[List.getElem_set];have e1:∀(F:Nat->Nat->Int) (h:i<(BK r c F).length),(BK r c F)[i]=Dr c (F i):=λF h=>by simp[BK]
 have es:sgn (sd.take (j+1)) (rows.getD i 0)=sgn (sd.take j) (rows.getD i 0)+if sd[j].1=rows.getD i 0 then sd[j].2 else 0:=by rw[ak hj,SN]
 have eg:rows.getD i 0=rows[i]:=by simp[List.getD,hi']
 split
 ·rename_i e;subst e;rw[e1];refine fw (by simp[Dr]) λb hb1 hb2=>?_;rw[List.getElem_set];have hbc:b<c:=by simpa[Dr] using hb1
  have ev:∀(F:Nat->Int) (h:b<(Dr c F).length),(Dr c F)[b]=F b:=λF h=>by simp[Dr]
  rw[ev];split
  ·rename_i e;subst e;unfold EA;rw[ae ω,ah rfl,ae ω,ah rfl,es,eg,ah h.symm]
  ·rename_i e;rw[ev];unfold EA;rw[ae (show ¬b=k from λq=>e q.symm),ae (show ¬b=k from λq=>e q.symm)]
 ·rename_i e;rw[e1,e1];refine Nv λb hb=>?_;unfold EA
  have hne:¬sd[j].1=rows.getD i 0:=λq=>e (by
   rw[<-h,eg]at q
   exact(List.getElem_inj hn).1 q)
  rw[es,ae hne,fz]
end
section
open Go.Lin Go.Wd
def A9(o:List Cl)(d:Int):List Int:=(o.filter λc=>decide (c.dim=d)).map Cl.id
theorem Gr(o:List Cl)(d:Int):(A9 o d).length<=o.length:=by unfold A9;rw[be];exact fd _ _
theorem P7{o:List Cl}(h:RgtF o)(d:Int):(A9 o d).Pairwise (· < ·):=by unfold A9;rw[dz];exact h.inc.sublist List.filter_sublist
theorem Uy:∀l:List Value,l.flatMap cU=l
 | []=>rfl
 | a::l=>by rw[List.flatMap_cons,Uy l];rfl
theorem Pi:∀(sd:List (Int×Int)) (c:Int),(∀s∈sd,s.2=1\/s.2=-1)->-(sd.length:Int)<=sgn sd c/\sgn sd c<=sd.length
 | [],c,_=>by rw[Lg];simp
 | s::sd,c,h=>by have ih:=Pi sd c λs hs=>h s (List.mem_cons_of_mem _ hs);have h1:=h s List.mem_cons_self;rw[LD,List.length_cons];split<;>omega
def I7(o:List Cl)(d:Int)(i k:Nat):Int:=sgn (GF o ((A9 o d).getD k 0)).sd ((A9 o (d-1)).getD i 0)
theorem Xw(l:List Ce)(v:Value)(d:Int)(hd:-5<=d/\d<=1000)(hp:Hp)(hK:RgC l)(hR:RdC hp v l)(hn:l.length<=200) :
  FnT Tryz.prog 43 #[.agg #[v],.w d] hp [] (λw h' ms'=>hp.le h'/\Qd w ms' (A9 (cn l) (d-1)).length (A9 (cn l) d).length (DW (A9 (cn l) (d-1)).length (A9 (cn l) d).length (I7 (cn l) d))):=by
 have ov:=hR.q.rd.one;refine Ap func43 ntmps43 Y Y<|λw0 hw0=>?_;simp only[AR];refine Ar<|AK [_] Y Y (by rfl) Y Y Y<|λg2=>BS [.w 0,.w 0,.nl] Y BL Y Y<|λg4=>Am<|Av 1 Y λh1 l1 hS2=>?_;have hR1:=hR.up l1;have gS2:∀ms,Seg h1 ms (⟨g2,0,none⟩:Addr) [v]:=λms=>hS2.any;refine Ar<|Qx (oG Y C9 Bd<|gS2 _) Y<|Qc call88 Y (Ui l v h1 hK hR1)<|λr h3 ms3 l3 hF=>?_;obtain⟨l3',rfl,g,A,rfl,hA,hT⟩:=hF;have hR3:=hR1.up l3';have gS2:∀ms,Seg h3 ms (⟨g2,0,none⟩:Addr) [v]:=λms=>(hS2.le l3').any;refine Qm Y<|Am<|Ac<|AS (n:=9) (bs:=[ig,ig,ig,ii,ig,ig,ii,ii,ii]) [ig,ig,ig,ii,ig,ig] CC κ κ Y Y<|Qp Y (oG Y C9 Bd<|gS2 _)<|Qq Y<|Qp Y (oS Y)<|Qp Y (oG Y C9 Bd<|gS2 _)<|Qq Y ?_;unfold Dd;simp only[bh,ap];refine Qo 3 Y<|Qc call85 Y (Us l v (d-1) h3 hK hR3)<|λra h4 ms4 l4 hF=>?_;obtain⟨l4',ma,rfl,hOa⟩:=hF;have shA:=Vx hOa;refine Bt hOa λh5 l5 hRa=>?_;have l35:=AD l4' l5;refine Qa<|Qo 6 Y<|Qc call85 Y (Us l v d h5 hK<|hR3.up l35)<|λrb h6 ms6 l6 hF=>?_;obtain⟨l6',mb,rfl,hOb⟩:=hF;have shB:=Vx hOb;refine Bt hOb λh7 l7 hRb=>?_;have l57:=AD l6' l7;have l37:=AD l35 l57;refine Qa<|Qo 7 Y<|Qm Y<|Qa<|Qo 8 Y<|Qm Y<|Qa<|Qe ?_;have hRa7:=hRa.up l57;obtain⟨o,ho⟩:∃o,cn l=o:=⟨_,Y⟩
 have hol:o.length=l.length:=by rw[<-ho,Jg]
 have hrg:RgtF o:=by rw[<-ho];exact hK.F
 change RdL cI 1 h7 [] ra (A9 (cn l) (d-1)) at hRa7;change RdL cI 1 h7 [] rb (A9 (cn l) d) at hRb;rw[ho]at hRa7 hRb ⊢;obtain⟨r,hr⟩:∃r,(A9 o (d-1)).length=r:=⟨_,Y⟩
 obtain⟨c,hc⟩:∃c,(A9 o d).length=c:=⟨_,Y⟩
 have hr2:r<=200:=by have:=Gr o (d-1);omega
 have hc2:c<=200:=by have:=Gr o d;omega
 rw[hr,hc];have rA:Rd h7 [] ra 1 r ((A9 o (d-1)).flatMap cI):=by have:=hRa7.rd;rwa [hr]at this
 have rB:Rd h7 [] rb 1 c ((A9 o d).flatMap cI):=by have:=hRb.rd;rwa [hc]at this
 have oa:=rA.one;have ob:=rB.one;have lh7:=AD l1 (AD l3' l37);refine Ab<|Ac<|Ar<|Qm Y<|Qx (Aq rA.any Y AZ Y) Y<|Qm Y<|Qm Y ?_;refine AU (t:=28) Y (λh1=>?_)<|λh1=>?_
 ·exact ie h1 ω
 ·refine Qg (Au Y Y) Y<|Qg (Aq rB.any Y AZ Y) Y<|Qg (Ci Y Y Y) Y<|Qm Y<|Am ?_;refine Aw Y (λh2=>?_)<|λh2=>?_
  ·exact ie h2 ω
  ·refine Ah<|Ab<|Ac<|Ar<|Qm Y<|Qx (Aq rA.any Y AZ Y) Y<|Qm Y<|Am ?_;refine Aw Y (λh3=>?_)<|λh3=>?_
   ·have hr0:r=0:=ω
    subst hr0;refine Ar<|Qm Y<|Qx (Aq rB.any Y AZ Y) Y<|Qc call89 Y (J7 0 c ω hc2 h7)<|λz h8 ms8 l8 hF=>?_;obtain⟨rfl,ev,m,rfl,rfl,hO⟩:=hF;have oe:=hO.o1;have hL:replicate (0*c) (0:Int)=DW 0 c (I7 o d):=by simp[DW]
    rw[hL]at hO;refine Sa 1 [_,_,_] BL Y (by simp[ov,oa,ob,oe]) ?_;refine Am<|Aj<|Ae ?_;exact Bx (vs:=[_,_,_]) 1 Y Y HR Y BL Y Y (⟨lh7,ev,m,Y,Y,hO⟩)
   ·refine Ah<|Ab<|Ar<|Qm Y<|Qx (Aq rA.any Y AZ Y) Y<|Fb (n:=r) Y Jx FA Y Y Y (by rfl) (by rfl) ω ω Y Y Y<|λg42=>Qm Y<|Am<|Ac<|Ar<|Qm Y<|Qx (D6 (ty:=83) Y Jx Y) Y<|Qm Y<|Am<|Ag ?_
    have hO0:OwnL cU 1 22 (BI g42 22 (replicate r (.nl))) (.slice (some ⟨g42,0,none⟩) r r) ([]++replicate r (.nl)):=by
     rw[ap];have:=OwnL.blk (F:=cU) (el:=22) (g:=g42) (l:=replicate r (Value.nl)) r GO σ ω
     rwa [Uy]at this
    refine BV ?_
    refine AB (λq sl h' ms'=>∃(i:Nat) (Rs:List Value) (mR mo:Hp),r-i=q/\sl=[(4,.pt g4),(5,.pt g),(6,ra),(7,rb),(8,.slice (some ⟨g42,0,none⟩) r r),(44,.w r),(45,.w i)]/\h7=h'/\ms'=[mR,mo,BI g4 91 [.w 0,.w 0,.nl]]/\i<=r/\OwnL cU 1 22 mo (.slice (some ⟨g42,0,none⟩) r r) (Rs++replicate (r-i) (.nl))/\Rs.length=i/\ColsO mR Rs (replicate i (replicate c 0)))
     (r-0) _ ⟨0,[],Hp.emp,_,rfl,rfl,rfl,rfl,ω,hO0,rfl,rfl⟩ Qs ?_
    rintro q sl h' ms' ⟨i,Rs,mR,mo,rfl,rfl,rfl,rfl,hi,hO,hRl,hCR⟩;refine Ar<|Qm Y<|Am<|Ac ?_;refine Aw Y (λhlt=>?_)<|λhlt=>?_
    ·have hir:i<r:=ω
     refine Ah<|Ab<|Ac<|Ag<|Ar<|Qm Y<|Qm Y<|GX<|Qm Y<|Qm Y<|Qm Y<|Qx (Aq rB.any Y AZ Y) Y<|Fb (n:=c) Y AZ Bk Y Y Y (by rfl) (by rfl) ω ω Y Y Y<|λg52=>Qx (Cf (i) Y Jx FA Y Y ω ω) Y ?_
     have hset:(Rs++replicate (r-i) (Value.nl)).set i (.slice (some ⟨g52,0,none⟩) c c)=(Rs++[.slice (some ⟨g52,0,none⟩) c c])++replicate (r-(i+1)) (Value.nl):=by rw[List.set_append_right _ _ ω,hRl,Nat.sub_self,show r-i=(r-(i+1))+1 by omega,List.replicate_succ,List.set_cons_zero,cz];rfl
     refine CV (f:=λv:Value=>v) (a:=.slice (some ⟨g52,0,none⟩) c c) 2 i (λ_=>rfl) hO Y FA Y Y Y Y (by rw[af,length_replicate];omega) rfl rfl<|λmo' hO'=>?_;rw[hset]at hO';refine An<|Ai<|Ab<|Ad<|Qx (oA Y) Y<|Qm Y<|An<|Hc λhap=>?_;have hap:[BI g52 3 (replicate c (.w 0)),mR,mo',BI g4 91 [.w 0,.w 0,.nl]].Pairwise Hp.disj:=hap;simp only[pairwise_cons,bg,gz,gv,forall_eq_or_imp,forall_eq]at hap;have hC':=hCR.snoc (OwnL.rep (g:=g52) (el:=3) c 0 ω) (Hp.disj_symm hap.1.1);have hrs:replicate i (replicate c (0:Int))++[replicate c 0]=replicate (i+1) (replicate c 0):=(List.replicate_succ' ..).symm;rw[hrs]at hC';refine Es 1 Y<|IJ ?_;exact Ao (r-(i+1)) _ ω ⟨i+1,_,_,mo',Y,Y,Y,Y,ω,hO',by rw[af,hRl];rfl,hC'⟩ Qs
    ·have hir:i=r:=ω
     subst hir;refine Ax (Aa (Aa (Af (Ab (EG 1 rfl (Cx hO fun h8 l8 hL=>?_))))));rw[Nat.sub_self,List.replicate_zero,append_nil]at hL;have rB8:=rB.le l8;have rA8:=rA.le l8;refine Ac (Ar (Qm rfl (Qx (Aq rB8.any rfl AZ rfl) rfl (Qm rfl (Am (Ag ?_))))));have hCR0:ColsO mR Rs (BK i c (EA (I7 o d) [] (A9 o (d-1)) 0 0)):=by rw[Uo];exact hCR
     refine AB (λq sl h' ms'=>∃(k:Nat) (mR:Hp),c-k=q/\sl=[(4,.pt g4),(5,.pt g),(6,ra),(8,.slice (some ⟨g42,0,none⟩) i i),(55,rb),(56,.w c),(57,.w k)]/\h8.le h'/\ms'=[mR,BI g4 91 [.w 0,.w 0,.nl]]/\k<=c/\ColsO mR Rs (BK i c (EA (I7 o d) [] (A9 o (d-1)) k 0)))
      (c-0) _ ⟨0,mR,rfl,rfl,BE,rfl,ω,hCR0⟩ Qs ?_
     rintro q sl h9 ms' ⟨k,mR,rfl,rfl,l9,rfl,hk,hC⟩;refine Ar<|Qm Y<|Am<|Ac ?_;refine Aw Y (λhlt2=>?_)<|λhlt2=>?_
     ·have hkc:k<c:=ω
      have hkL:k<(A9 o d).length:=ω
      obtain⟨y,hy⟩:∃y,(A9 o d).getD k 0=y:=⟨_,Y⟩
      have hyg:(A9 o d)[k]=y:=by rw[<-hy];simp[List.getD,hkL]
      have hB9:=(hRb.up l8).up l9;have cB:∀ms,Cell h9 ms ((AH rb).add (k*1)) (.w y):=λms=>(hB9.any (ms:=ms)).cell0 hkL (by rw[hyg];rfl);obtain⟨gm,mT,bs,vids,hS,hM,lM,hV,hsd⟩:=hT;have l39:=AD l37 (AD l8 l9);have e0:∀ms,Cell h9 ms ((⟨g,0,none⟩:Addr).add 0) (.map (some gm)):=λms=>((hS 0 _ Y).any).le l39;have hAo:A.map Ce.c=o:=by rw[hA,ho]
      have hAid:(A.map λa=>a.c.id)=o.map Cl.id:=by rw[<-hAo,gg];rfl
      have hnd:(A.map λa=>a.c.id).Nodup:=by rw[hAid];exact hrg.rgt.nd
      obtain⟨a,haA,hay⟩:∃a,a∈A/\a.c.id=y:=by
       have h1:y∈A9 o d:=by rw[<-hyg];exact ao hkL
       unfold A9 at h1;obtain⟨cl,h2,h3⟩:=ag.1 h1;have h4:cl∈A.map Ce.c:=by rw[hAo];exact(dh.1 h2).1
       obtain⟨a,h5,rfl⟩:=ag.1 h4;exact⟨a,h5,h3⟩
      have hga:BJ (GM A) y=some a:=by rw[<-hay];exact MX hnd haA
      have hga1:(BJ (GM A) y).getD default=a:=by rw[hga];rfl
      have hyI:Cd y:=by
       have h1:a.c∈cn l:=by rw[<-hA];exact ag.2 ⟨a,haA,Y⟩
       rw[<-hay];exact hK.cI h1
      have hcel:GF o y=a.c:=by have:=K7 A y;rw[hAo,hga1]at this;exact this.symm
      have hsa:=(hsd a haA).up l39;have oav:=hsa.rd.one;refine Ah<|Ab<|Ac<|Ag<|Ar<|Qm Y<|Qx (AM (k) (rB8.le l9).any Y AZ Bk Y Y ω ω) Y<|Ql Y U3 (cB _)<|Qm Y<|Qm Y<|Bp<|Qm Y<|Qm Y<|Qf GH Y<|Ql Y I6 (e0 _)<|Qm Y<|Qx (DH (V:=vC) (z:=(default:Ce)) (u:=a) y hga1 BH hM (AD lM l39) Y I6 Oj Y Y hyI) Y<|Qx (Hg Y Jz Y Da Y Y Y) Y<|Qx (Aq hsa.rd.any Y Da Y) Y<|Qm Y<|Am<|Ag ?_;have hao:a.c∈o:=by rw[<-hAo];exact ag.2 ⟨a,haA,Y⟩
      have hsl:a.c.sd.length<=64:=(hrg.bds hao).2.1;have hsg:=hrg.rgt.sgn _ hao
      refine AB (λq sl h' ms'=>∃(j:Nat) (mR:Hp),a.c.sd.length-j=q/\sl=[(4,.pt g4),(5,.pt g),(6,ra),(8,.slice (some ⟨g42,0,none⟩) i i),(10,.w k),(55,rb),(56,.w c),(57,.w k),(68,a.v),(69,.w a.c.sd.length),(70,.w j)]/\h9.le h'/\ms'=[mR,BI g4 91 [.w 0,.w 0,.nl]]/\j<=a.c.sd.length/\ColsO mR Rs (BK i c (EA (I7 o d) a.c.sd (A9 o (d-1)) k j)))
       (a.c.sd.length-0) _ ⟨0,mR,rfl,rfl,BE,rfl,ω,by rw[KF (sd':=[])];exact hC⟩ Qs ?_
      rintro q sl h11 ms' ⟨j,mR,rfl,rfl,l11,rfl,hj,hC⟩;have hsa11:=hsa.up l11;refine Ar<|Qm Y<|Am<|Ac ?_;refine Aw Y (λhlt3=>?_)<|λhlt3=>?_
      ·have hjl:j<a.c.sd.length:=ω
       obtain⟨s,hs⟩:∃s,a.c.sd[j]=s:=⟨_,Y⟩
       have gS:∀ms,Seg h11 ms ((AH a.v).add (j*2)) (cD s):=λms=>by rw[<-hs];exact(hsa11.any (ms:=ms)).seg hjl
       refine Ah<|Ab ?_;refine Bv (λsl h'' ms'=>∃mR':Hp,sl=[(4,.pt g4),(5,.pt g),(6,ra),(8,.slice (some ⟨g42,0,none⟩) i i),(10,.w k),(55,rb),(56,.w c),(57,.w k),(68,a.v),(69,.w a.c.sd.length),(70,.w j)]/\h11.le h''/\ms'=[mR',BI g4 91 [.w 0,.w 0,.nl]]/\ColsO mR' Rs (BK i c (EA (I7 o d) a.c.sd (A9 o (d-1)) k (j+1)))) ?_<|λs h ms hI=>?_
       ·refine Ag<|Ar<|Qx (BC (j) hsa11.rd.any Y Da BX Y Y) Y<|Qx (oG Y XM BX<|gS _) Y<|BS [.w 0,.w 0] Y BX Y Y<|λg13=>?_;refine Sa 0 [_,_] BX Y (by simp[Value.oneCell']) ?_;refine Am<|AF λh12 l12 hS13=>?_;have l712:=AD l8 (AD l9 (AD l11 l12));have hRa12:=hRa7.up l712;have e130:∀ms,Cell h12 ms ((⟨g13,0,none⟩:Addr).add 0) (.w s.1):=λms=>(hS13 0 _ Y).any;have e131:∀ms,Cell h12 ms ((⟨g13,0,none⟩:Addr).add 1) (.w s.2):=λms=>(hS13 1 _ Y).any;have hinc:=P7 hrg (d-1);change Shp ra (A9 (cn l) (d-1)).length at shA;rw[ho]at shA;refine Ar<|Qm Y<|Qf Dl Y<|Ql Y U3 (e130 _)<|Qx (As Y call90 Y<|Afq (A9 o<|d-1) ra s.1 h12 hRa12 shA (hinc.imp λh=>Int.le_of_lt h) ω _) Y<|Qm Y<|Qm Y<|Qm Y<|Qm Y<|Qm Y<|Bp<|Qm Y<|Am ?_;refine BW Y (λhfd=>?_)<|λhfd=>?_
        ·have hmem:s.1∈A9 o (d-1):=by simpa using hfd
         obtain⟨i0,hi0,he0⟩:=dm.1 hmem;have hi0i:i0<i:=ω
         have hcnt:(A9 o (d-1)).countP (·<s.1)=i0:=S6 hinc hi0 he0;rw[hcnt];have hv0:i0<Rs.length:=ω
         obtain⟨a1,b1,e1,dab,O1,K⟩:=hC.at_ (i:=i0) hv0 (by rw[Dq];exact hi0i);subst e1;obtain⟨ρ,hρ⟩:∃ρ,Rs[i0]=ρ:=⟨_,Y⟩
         rw[hρ]at O1 K;have er:(BK i c (EA (I7 o d) a.c.sd (A9 o (d-1)) k j))[i0]'(by rw[Dq];exact hi0i)=Dr c (EA (I7 o d) a.c.sd (A9 o (d-1)) k j i0):=by simp[BK]
         rw[er]at O1;refine K3 dab ?_;have cL:∀ms,Cell h12 ms ((AH (.slice (some ⟨g42,0,none⟩) i i)).add (i0*1)) ρ:=λms=>((hL.any (ms:=ms)).cell0 hv0 (by rw[hρ];rfl)).le (AD l9 (AD l11 l12));have hkv:k<(Dr c (EA (I7 o d) a.c.sd (A9 o (d-1)) k j i0)).length:=by rw[B7];exact hkc
         have cX:∀ms,a1∈ms->Cell h12 ms ((AH ρ).add (k*1)) (.w (EA (I7 o d) a.c.sd (A9 o (d-1)) k j i0 k)):=λms hm=>(O1.rd (h:=h12) hm).cell0 hkv (by simp[Dr,cI]);have rρ:Rd h12 [a1] ρ 1 c ((Dr c (EA (I7 o d) a.c.sd (A9 o (d-1)) k j i0)).flatMap cI):=by have:=(O1.rd (h:=h12) (ms:=[a1]) Mh).rd;rwa [B7]at this
         have hbd:=Pi (a.c.sd.take j) ((A9 o (d-1)).getD i0 0) λs hs=>hsg s (List.mem_of_mem_take hs);have hbe:EA (I7 o d) a.c.sd (A9 o (d-1)) k j i0 k=sgn (a.c.sd.take j) ((A9 o (d-1)).getD i0 0):=by unfold EA;rw[ae ω,ah rfl]
         have htl:(a.c.sd.take j).length<=64:=by rw[ay];omega
         have hs2:=hsg s (by rw[<-hs];exact ao hjl);have oρ:=rρ.one;refine BB 9 CC κ Y<|Wm Y<|Wm Y<|BD (Cf (i0) Y Jx FA Y Y ω ω) Y Y<|Wl Y AZ (cL _)<|Wm Y<|BD (Ba (k) rρ Y AZ Bk Y Y ω ω) Y Y<|Wl Y U3 (cX _ Mh)<|Wf Eg Y<|Wl Y U3 (e131 _)<|Bu<|Qx (oA Y) Y<|Qx (Ba (k) rρ Y AZ Bk Y Y ω ω) Y<|D3 0 k O1 Y Bk Y Y Y hkv Y Y<|λa1' O1'=>An<|Ai<|Hc λhap=>?_;have hap:[a1',b1,BI g4 91 [.w 0,.w 0,.nl]].Pairwise Hp.disj:=hap;simp only[pairwise_cons,bg,gz,gv,forall_eq_or_imp,forall_eq]at hap;have hC':=K a1' _ hap.1.1 O1';have hyes:=WT (B:=I7 o d) hr (hinc.imp λh=>Int.ne_of_lt h) hjl hi0i hkc (by rw[he0,hs]);rw[hs]at hyes;rw[<-hyes]at hC';refine IJ ?_;exact AI _ ⟨_,Y,l12,Y,hC'⟩ Qs
        ·have hmem:s.1 ∉ A9 o (d-1):=by simpa using hfd
         rw[<-hs]at hmem;rw[<-YQ (B:=I7 o d) hr hjl hmem]at hC;refine Ah<|Ai ?_;exact AI _ ⟨mR,Y,l12,Y,hC⟩ Qs
       ·obtain⟨mR',rfl,l12,rfl,hC'⟩:=hI;refine Ad<|Qx (oA Y) Y<|Qm Y<|An ?_;exact Ao (a.c.sd.length-(j+1)) _ ω ⟨j+1,mR',Y,Y,AD l11 l12,Y,ω,hC'⟩ Qs
      ·have hjl:j=a.c.sd.length:=ω
       subst hjl;have hB:∀i',i'<i->I7 o d i' k=sgn a.c.sd ((A9 o (d-1)).getD i' 0):=λi' _=>by unfold I7;rw[hy,hcel]
       rw[T4 hB,KF (sd':=[])]at hC;refine Ax<|Aa<|Aa<|Af<|Ai<|Ab<|Ad<|Qx (oA Y) Y<|Qm Y<|An ?_;exact Ao (c-(k+1)) _ ω ⟨k+1,mR,Y,Y,AD l9 l11,Y,ω,hC⟩ Qs
     ·have hkc:k=c:=ω
      subst hkc;rw[Wg]at hC;refine Ax<|Aa<|Aa<|Af<|Ab<|DA λh10 l10 lm=>?_
      have hRr:∀i',i'<i->RdL cI 1 h10 [] (Rs.getD i' undef) (Dr k (I7 o d i')):=λi' hi'=>by
       have hv:i'<Rs.length:=ω
       obtain⟨a1,b1,e1,dab,O1,_⟩:=hC.at_ (i:=i') hv (by rw[Dq];exact hi');have er:(BK i k (I7 o d))[i']'(by rw[Dq];exact hi')=Dr k (I7 o d i'):=by simp[BK]
       rw[er]at O1;have hle:a1.le h10:=AD (by rw[e1];exact Hp.le_join _ _) lm;have:=O1.rdh (ms:=[]) hle
       rwa [show Rs.getD i' undef=Rs[i'] by simp[List.getD,hv]]
      have hAo:A.map Ce.c=o:=by rw[hA,ho]
      have hb:∀i',i'<i->∀j,j<k->-256<I7 o d i' j/\I7 o d i' j<256:=λi' _ j _=>by
       unfold I7;obtain⟨y,hy⟩:∃y,(A9 o d).getD j 0=y:=⟨_,Y⟩
       rw[hy];have h1:=K7 A y;rw[hAo]at h1;rw[<-h1];cases hg:BJ (GM A) y with
       | none=>exact(by decide:-256<(0:Int)/\(0:Int)<256)
       | some z=>
        have hz:z.c∈o:=by rw[<-hAo];exact ag.2 ⟨z,UF hg,Y⟩
        have h2:=Pi z.c.sd ((A9 o (d-1)).getD i' 0) (hrg.rgt.sgn _ hz);have h3:=(hrg.bds hz).2.1;simp only[Option.getD_some];omega
      have hi0:0<i:=ω
      refine Ar<|Qm Y<|Qc call91 Y (Adu i k hi0 hr2 hc2 (I7 o d) hb Rs hRl _ h10 (hL.up<|AD l9 l10) hRr)<|λz h13 ms13 l13 hF=>?_;obtain⟨l13',ev,m,rfl,rfl,hO⟩:=hF;have oe:=hO.o1;refine Sa 1 [_,_,_] BL Y (by simp[ov,oa,ob,oe]) ?_;refine Am<|Aj ?_;exact Bx (vs:=[_,_,_]) 1 Y Y HR Y BL Y Y (⟨AD lh7<|AD l8<|AD l9<|AD l10 l13',ev,m,Y,Y,hO⟩)
theorem UK(n:Int)(h:Hp)(ms:List Hp):FnV Tryz.prog 195 #[WD n] h ms (.bool (decide (n=0))):=by refine DY ?_ ms;have osn:(sv (A7 n.natAbs)).oneCell'=true:=rfl;have e:decide (A7 n.natAbs=[])=decide (n=0):=fa.2 (by rw[bys_nil];omega);refine Ap func195 ntmps195 Y Y<|λw0 hw0=>?_;simp only[AR];refine Ar<|AK [_,_] Y Y (by rfl) Y Y Y<|λg1=>Qm Y<|Bp<|Qf EI Y<|Ql Y U9 (Cell.blk 0 Y Y)<|Qx (Dk (Lr (l':=[]) Y Y Y)<|aw Value.bool e) Y<|Qm Y<|Am<|Aj ?_;exact Al Y Y<|Y
theorem Z0(n:Int)(h:Hp)(ms:List Hp):FnV Tryz.prog 225 ([]++[Value.agg (Bi n).toArray]++[]).toArray h ms (.bool false):=by
 refine DY ?_ ms;show FnT _ _ #[WD n] _ _ _;have osn:(sv (A7 n.natAbs)).oneCell'=true:=rfl;refine Ap func225 ntmps225 Y Y<|λw0 hw0=>?_;simp only[AR];by_cases h0:n=0
 ·have e5:A7 n.natAbs=[]:=bys_nil.2 ω;refine Ar<|AK [_,_] Y Y (by rfl) Y Y Y<|λg1=>Qm Y<|Bp<|Qf EI Y<|Ql Y U9 (Cell.blk 0 Y Y)<|Qx (Lr (l':=[]) Y Y Y) Y<|Qm Y ?_;refine AU (t:=6) Y (λhs=>?_)<|λhs=>ie (e5) hs;refine Qg (oF C4 Y) Y<|Qg (oL Y U4<|Cell.blk 0 Y Y) Y<|Qm Y<|Qm Y<|AU (t:=10) Y (λhs=>ie hs<|ω)<|λhs=>Qg (oF EI Y) Y<|Qg (oL Y U9<|Cell.blk 0 Y Y) Y<|Qg (G7 (l':=[]) Y Y Y) Y<|Qg (Au Y Y) Y<|AU (t:=14) Y (λhs=>ie hs ((λh=>h e5)))<|λhs=>Qk Y<|Qk Y<|Qk Y<|Qk Y<|Qg (CA Y Y Y) Y<|Qm Y<|Qm Y<|Am<|Aj ?_;exact Al Y Y<|Y
 ·obtain⟨b,l,hb,hb0⟩:=AaC (m:=n.natAbs) ω;have e5:¬A7 n.natAbs=[]:=by rw[hb];simp
  refine Ar<|AK [_,_] Y Y (by rfl) Y Y Y<|λg1=>Qm Y<|Bp<|Qf EI Y<|Ql Y U9 (Cell.blk 0 Y Y)<|Qx (Lr (l':=[]) Y Y Y) Y<|Qm Y<|AU (t:=6) Y (λhs=>ie hs<|e5)<|λhs=>Qk Y<|Qk Y<|Qm Y<|Qm Y<|Qg (oF EI Y) Y<|Qg (oL Y U9<|Cell.blk 0 Y Y) Y<|Qg (G7 (l':=[]) Y Y Y) Y<|Qg (Au Y Y) Y ?_;refine AU (t:=14) Y (λhs=>?_)<|λhs=>ie (e5) hs;refine Qg (oF EI Y) Y<|Qg (oL Y U9<|Cell.blk 0 Y Y) Y ?_;refine Qg (IM (l:=A7 n.natAbs) 0 Y U9 Y Y Y (by rw[hb];simp)) rfl ?_;refine Qg (Cq Y Y Y) Y<|Qg (CS Y Y Y) Y<|Qm Y<|Qm Y<|Am<|Aj ?_;have e18:¬(((A7 n.natAbs)[0]'(by rw[hb];simp)).toNat:Int)=0:=by simp[hb];omega
  exact Al Y Y (by(rw[cg e18]))
def Ut(l:List (Int))(p:Int->Bool):Int:=match l.findIdx? p with|some k=>k|none=>-1
theorem Xn{l:List (Int)}{p:Int->Bool}{k:Nat}(hk:k<l.length)(h:p l[k]=true)(hn:∀j (hj:j<l.length),j<k->p l[j]=false):Ut l p=k:=by unfold Ut;rw[ia.2 ⟨hk,h,λj hj=>by rw[hn j ω hj];decide⟩]
theorem XG{l:List (Int)}{p:Int->Bool}(h:∀j (hj:j<l.length),p l[j]=false):Ut l p=-1:=by unfold Ut;rw[List.findIdx?_eq_none_iff.2 λx hx=>by obtain⟨j,hj,rfl⟩:=List.getElem_of_mem hx;exact h j hj]
theorem Zm(l:List (Int))(p:Int->Bool):decide (0<=Ut l p)=l.any p:=by
 unfold Ut;cases h:l.findIdx? p with
 | none=>
  rw[List.findIdx?_eq_none_iff]at h;have:l.any p=false:=List.any_eq_false.2 λx hx=>by rw[h x hx];decide
  rw[this];rfl
 | some k=>
  obtain⟨hk,h1,_⟩:=ia.1 h;have:l.any p=true:=List.any_eq_true.2 ⟨_,ao hk,h1⟩;rw[this];exact bq (show(0:Int)<=(k:Int) by omega)
theorem Wo(l:List (Int))(vl:Value)(cf:FuncId)(cs:List Value)(pr:Int->Bool)(h:Hp)(hR:RdL Bi 2 h [] vl l)(hn:l.length<=1000000)
  (hc:∀xs w,(callFunc cf xs).run Tryz.prog w=.ok (.enter cf xs) w)
  (hp:∀s∈l,∀ms,FnV Tryz.prog cf ([]++[Value.agg (Bi s).toArray]++cs).toArray h ms (.bool (pr s))) :
  FnT Tryz.prog 248 #[vl,.func (.func cf) #[] cs.toArray] h [] (λr _ _=>r=.w (Ut l pr)):=by
 have o1:=hR.rd.one;refine Ap func248 ntmps248 Y Y<|λw0 hw0=>?_;simp only[AR];refine Ar<|Qm Y<|Am<|Ac<|Ar<|Qm Y<|Qx (Aq hR.rd.any Y CE Y) Y<|Qm Y<|Am<|Ag ?_
 refine AB (λq s h' ms'=>∃(k:Nat),q=l.length-k/\s=[(0,vl),(1,.func (.func cf) #[] cs.toArray),(7,.w l.length),(8,.w k)]/\h=h'/\ms'=[]/\k<=l.length/\∀j (hj:j<l.length),j<k->pr l[j]=false)
  (l.length-0) _ ⟨0,rfl,rfl,rfl,rfl,ω,λj _ hj=>ω⟩ Qs ?_
 rintro q s h' ms' ⟨k,rfl,rfl,rfl,rfl,hk,hno⟩;refine Ar<|Qm Y<|Am<|Ac ?_;refine Aw Y (λhlt=>?_)<|λhlt=>?_
 ·have hkn:k<l.length:=ω
  have hsx:∀ms,Seg h ms ((AH vl).add (k*2)) (Bi l[k]):=λms=>(hR.any (ms:=ms)).seg hkn;have osn:(sv (A7 (l[k]).natAbs)).oneCell'=true:=rfl;refine Ah<|Ab<|Ac<|Ag<|Ar<|Qm Y<|Qm Y<|Bp<|Qm Y<|Qm Y<|Qm Y<|Qx (BC (k) hR.rd.any Y CE Az Y Y) Y<|Qx (oG Y By Az<|hsx _) Y<|Qx (Cy Y Y hc Y<|hp _ (ao hkn) _) Y<|Am ?_;refine BW Y (λhpk=>?_)<|λhpk=>?_
  ·refine Ac<|Ad<|Qm Y<|Qm Y<|Am<|Aj<|Ak<|Ae<|Ae<|Ak<|Ae ?_;exact Al Y Y (by rw[Xn hkn hpk hno])
  ·refine Ah<|Ai<|Ab<|Ad<|Qx (oA Y) Y<|Qm Y<|An ?_;refine Ao (l.length-(k+1)) _ ω ⟨k+1,Y,Y,Y,Y,ω,λj hj hjk=>?_⟩ Qs;rcases (ω:j<k\/j=k) with h2|rfl
   ·exact hno j hj h2
   ·exact hpk
 ·obtain rfl:k=l.length:=ω
  refine Ax<|Aa<|Aa<|Af<|Ab<|Ar<|Qm Y<|Am<|Aj ?_;exact Al Y Y (by rw[XG λj hj=>hno j hj hj])
theorem RC(l:List (Int))(vl:Value)(cf:FuncId)(cs:List Value)(pr:Int->Bool)(h:Hp)(hR:RdL Bi 2 h [] vl l)(hn:l.length<=1000000)
  (hc:∀xs w,(callFunc cf xs).run Tryz.prog w=.ok (.enter cf xs) w)
  (hp:∀s∈l,∀ms,FnV Tryz.prog cf ([]++[Value.agg (Bi s).toArray]++cs).toArray h ms (.bool (pr s))) (ms:List Hp) :
  FnV Tryz.prog 224 #[vl,.func (.func cf) #[] cs.toArray] h ms (.bool (l.any pr)):=by
 refine DY ?_ ms;refine Ap func224 ntmps224 Y Y<|λw0 hw0=>?_;simp only[AR];refine Ar<|Qm Y<|Bp<|Qm Y<|Qm Y<|Qx (As Y call248 Y<|DY (Wo l vl cf cs pr h hR hn hc hp) _) Y<|Qm Y<|Qm Y<|Am<|Aj ?_;exact Al Y Y (by rw[<-Zm])
theorem SG(l:List Int)(v:Value)(h:Hp)(hR:RdL Bi 2 h [] v l)(hn:l.length<=1000000)(ms:List Hp):FnV Tryz.prog 179 #[v] h ms (.bool true):=by
 refine DY ?_ ms;have o1:=hR.rd.one;have e:l.any (λ_=>false)=false:=by simp
 refine Ap func179 ntmps179 Y Y<|λw0 hw0=>?_;simp only[AR];refine Ar<|Qm Y<|Bp<|Qm Y<|Qx (As Y call224 Y<|RC l v 225 [] (λ_=>false) h hR hn (λxs w=>call225 xs w) (λs _ ms=>Z0 s h ms) _) Y<|Qm Y<|Qm Y<|Am<|Aj ?_;exact Al Y Y (by rw[e];rfl)
structure MW(v:Value)(h:Hp)(r c:Nat)(L:List Int):Prop where
 hr:r<=200
 hc:c<=200
 len:L.length=r*c
 ex:∃ev,v=.agg #[.w r,.w c,ev]/\RdL Bi 2 h [] ev L
theorem MW.up{v:Value}{h h':Hp}{r c:Nat}{L:List Int}(M:MW v h r c L)(l:h.le h'):MW v h' r c L:=
 ⟨M.hr,M.hc,M.len,by obtain⟨ev,e,R⟩:=M.ex;exact⟨ev,e,R.up l⟩⟩
theorem MW.le{v:Value}{h:Hp}{r c:Nat}{L:List Int}(M:MW v h r c L):L.length<=40000:=by rw[M.len];exact ep M.hr M.hc
theorem Ib(v:Value)(r c:Nat)(L:List Int)(h:Hp)(M:MW v h r c L)(ms:List Hp):FnV Tryz.prog 146 #[v] h ms (.bool true):=by
 refine DY ?_ ms;obtain⟨ev,rfl,R⟩:=M.ex;have hr:=M.hr;have hc:=M.hc;have hl:=M.len;have hle:=M.le;have o1:=R.rd.one;have rE:Rd h [] ev 2 L.length (L.flatMap Bi):=R.rd;have e16:((r:Int)*(c:Int))=((L.length:Nat):Int):=by rw[hl,fv]
 refine Ap func146 ntmps146 Y Y<|λw0 hw0=>?_;simp only[AR];refine Ar<|AK [_,_,_] Y Y (by rfl) Y Y Y<|λg1=>Qm Y<|Bp<|Qf EH Y<|Ql Y U3 (Cell.blk 0 Y Y)<|Qf Do Y<|Ql Y U3 (Cell.blk 0 Y Y)<|Qx (As Y call142 Y<|DY (RW r c hr hc h) _) Y<|Qm Y<|Qg (oF Gb Y) Y<|Qg (oL Y CE<|Cell.blk 0 Y Y) Y<|Qg (Aq rE.any Y CE Y) Y<|Qg (oF EH Y) Y<|Qg (oL Y U3<|Cell.blk 0 Y Y) Y<|Qg (oF Do Y) Y<|Qg (oL Y U3<|Cell.blk 0 Y Y) Y<|Qg (Dk (oM Y)<|aw (Value.int .i64) e16) Y<|Qg (Cq Y Y Y) Y<|Qm Y<|Qm Y ?_;refine AU (t:=19) Y (λhs=>?_)<|λhs=>ie (Y) hs;refine Qg (oF Gb Y) Y<|Qg (oL Y CE<|Cell.blk 0 Y Y) Y<|Qg (As Y call179 Y<|SG L ev h R ω _) Y<|Qm Y<|Qm Y<|Am<|Aj ?_;exact Al Y Y<|Y
theorem AeB(v:Value)(r c i j:Nat)(L:List Int)(h:Hp)(M:MW v h r c L)(hi:i<r)(hj:j<c)(ms:List Hp):FnV Tryz.prog 151 #[v,.int .i64 i,.int .i64 j] h ms (WD (L.getD (i*c+j) 0)):=by
 refine DY ?_ ms;obtain⟨ev,rfl,R⟩:=M.ex;have hr:=M.hr;have hc:=M.hc;have hl:=M.len;have hle:=M.le;have o1:=R.rd.one;have rE:Rd h [] ev 2 L.length (L.flatMap Bi):=R.rd
 have hic:i*c+j<L.length:=by rw[hl];have:(i+1)*c<=r*c:=du _ hi;rw[cw]at this;omega
 have e34:((i:Int)*(c:Int))=((i*c:Nat):Int):=(fv i c).symm
 have hg:∀ms,Seg h ms ((AH ev).add ((i*c+j)*2)) (Bi (L.getD (i*c+j) 0)):=λms=>by rw[show L.getD (i*c+j) 0=L[i*c+j] by simp[List.getD,hic]];exact(R.any (ms:=ms)).seg hic
 generalize L.getD (i*c+j) 0=x at *;have osx:(sv (A7 x.natAbs)).oneCell'=true:=rfl;refine Ap func151 ntmps151 Y Y<|λw0 hw0=>?_;simp only[AR];refine Ar<|AK [_,_,_] Y Y (by rfl) Y Y Y<|λg3=>BS [.bool false,.es] Y Az Y Y<|λg6=>Am<|Ac<|Ar<|Qx (oG Y HR BL<|Seg.blk 1 Y) Y<|Qx (As Y call146 Y<|Ib _ r c L h M _) Y<|Qm Y<|Qm Y<|Qg (Au Y Y) Y<|Qg (Au Y Y) Y<|Qg (Um Y Y Y) Y<|Qg (Dy Y Y Y) Y<|Qm Y<|Qm Y<|AU (t:=16) Y (λhs=>ie hs<|ω)<|λhs=>Qg (Au Y Y) Y<|Qg (oF EH Y) Y<|Qg (oL Y U3<|Cell.blk 1 Y Y) Y<|Qg (MZ Y Y Y) Y<|Qm Y<|Qm Y<|AU (t:=22) Y (λhs=>ie hs<|ω)<|λhs=>Qg (Au Y Y) Y<|Qg (oF Do Y) Y<|Qg (oL Y U3<|Cell.blk 1 Y Y) Y<|Qg (MZ Y Y Y) Y<|Qm Y<|Am<|Aw Y (λhc=>ie hc<|ω)<|λhc=>Ah<|Ab<|Ar<|Qf Gb Y<|Ql Y CE (Cell.blk 1 Y Y)<|Qm Y<|Qf Do Y<|Ql Y U3 (Cell.blk 1 Y Y) ?_;refine Qx (Dk (oM Y (by rw[e34];omega))<|aw (Value.int .i64) e34) rfl ?_;refine Qm Y<|Qx (oA Y) Y<|Qx (BC (i*c+j) rE.any Y CE Az Y Y) Y<|Qx (oG Y By Az<|hg _) Y ?_;refine Sa 0 [_,_] Az Y (by simp[o1,osx]) ?_;refine Am<|Aj ?_;exact Bx (vs:=[_,_]) 0 Y Y By Y Az Y Y<|Y
end
end Go.Proofs.Q