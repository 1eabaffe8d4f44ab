/- A part of the proof. -/
import Derived.Test.YtodheebhahdepaaGreatDoorRD
import Derived.Shelf.SlGeneric
import Derived.Ground.SlsfProg
import Derived.Shelf.SlSortCmp.WholeK
import Derived.Shelf.SlSortCmp.NoneTotal
import Derived.Test.YtodheebhahdepaaGreatDoorProg
import Derived.Shelf.Strings.Trim
import Derived.Shelf.Small.Utf8
import Derived.Shelf.Small.Bits
import Derived.Shelf.Small.Strs
import Derived.Shelf.Small.Wraps
import Derived.Shelf.Strconv.Itoa0
import Derived.Shelf.Strings.Search1
import Derived.Shelf.Sort.Plain
import Derived.Shelf.Unicode.Decode
import Derived.Shelf.Strings.Runes
import Derived.Shelf.Strings.AsciiSet
import Derived.Shelf.Bits.Mul64
import Derived.Shelf.Unicode.DecodeSlow
import Derived.Shelf.Unicode.DecodeAny
import Derived.Shelf.Slices.Equal
import Derived.Ground.Names2Prog
import Derived.Shelf.Slices.Clone
import Derived.Shelf.Slices.CompactI
import Derived.Shelf.Slices.SearchI
import Derived.Shelf.Slices.Cells
import Derived.Shelf.Slices.In.SortNone
import Derived.Shelf.Slices.Empties
import Derived.Shelf.Slices.Empties2
import Derived.Ground.SlgnProg
import Derived.Shelf.SlicesE.Clone
import Derived.Sort.OwnSortedInts
import Derived.Lib.SlicesCompact
set_option linter.unusedSimpArgs false
set_option linter.unusedVariables false
set_option linter.unusedSectionVars false
set_option maxRecDepth 100000
set_option maxHeartbeats 4000000

open List (length_map length_singleton getElem_mem replicate range length_append nil_append length_take mem_cons cons_append map_append append_nil map_map map_cons length_set getElem_of_mem take_length length_range not_mem_nil)
namespace Go.Proofs.Q
open Go.Proofs.Tryz
open Go.Eng Go.RowKit
section
theorem Ij(w:World):(zeroValue 3).run Tryz.prog w=.ok (kN 0) w:=by rfl
structure Zf(U:List Cl)(x:Cl):Prop where
 n:x.sd.length<=64
 p:0<x.sd.length
 m:∀i,i<x.sd.length->(GJ U (BD x i).1).sd.length<=64
 s:∀s∈x.sd,BS s.1/\(s.2=1\/s.2=-1)
 t:∀i,i<x.sd.length->∀r∈(GJ U (BD x i).1).sd,BS r.1/\(r.2=1\/r.2=-1)
theorem YB{ν:Type}(T:List (Int×ν))(a:Int)(x:ν):(Dq T a x).length<=T.length+1:=by
 unfold Dq;split
 ·rw[af];omega
 ·simp
theorem TB:∀E:Gy,(Gf E).length<=E.length:=DP (by simp[Gf]) λE e ih=>by rw[Gx,ag,ab];have:=YB (Gf E) e.2.1 ((Bz (Gf E) e.2.1).getD []++[e.1]);omega
theorem N9{U:List Cl}{x:Cl}{m:Nat}{e:Int×Int×Int}(h:e∈J4 U x m):∃i,i<m/\∃r∈(GJ U (BD x i).1).sd,e=((i:Int),r.1,(BD x i).2*r.2):=by unfold J4 at h;obtain⟨i,hi,h⟩:=List.mem_flatMap.1 h;obtain⟨r,hr,rfl⟩:=ad.1 h;exact⟨i,bi.1 hi,r,hr,Y⟩
theorem AaP{U:List Cl}{x:Cl}(K:Zf U x){m:Nat}(hm:m<=x.sd.length){e:Int×Int×Int}(h:e∈J4 U x m):e.2.2=1\/e.2.2=-1:=by
 obtain⟨i,hi,r,hr,rfl⟩:=N9 h;have hi':i<x.sd.length:=ω
 have h1:=(K.t i hi' r hr).2;have h2:=(K.s (BD x i) (by rw[By hi'];exact ae hi')).2;show(BD x i).2*r.2=1\/(BD x i).2*r.2=-1;rcases h1 with h1|h1<;>rcases h2 with h2|h2<;>rw[h1,h2]<;>decide
theorem UP(U:List Ce)(x:Ce)(g:Nat)(hp:Hp)(hT:RdT hp g U)(hX:RdL cD 2 hp [] x.v x.c.sd)(hK:Zf (U.map Ce.c) x.c):FnT Tryz.prog 77 #[.pointer (some ⟨g,0,none⟩),.agg (cC x).toArray] hp [] (λr _ _=>r=.int .i64 (XV (J4 (U.map Ce.c) x.c x.c.sd.length) x.c.sd.length)):=by
 have o2:=hX.rd.one;show FnT _ _ #[.pt g,.agg #[.w x.c.id,.w x.c.dim,x.v]] _ _ _;refine Au func77 ntmps77 Y Y (λw0 hw0=>?_);simp only[A6];refine Aq (AP [_,_,_] Y Y (by rfl) Y Y Y (λg3=>Qm Y (Am (Ax λh1 l1 hS=>?_))));obtain⟨gm,mMt,bst,vids,hSg,hMt,lmt,hVt,hsU⟩:=hT.up l1;have hX:=hX.up l1;have hA:=Seg.all hS;have a2:∀ms,Cell h1 ms (⟨g3,2,none⟩:Addr) x.v:=λms=>hA 2 _ Y ms;have eT:∀ms,Cell h1 ms (⟨g,0,none⟩:Addr) (.map (some gm)):=λms=>Seg.all hSg 0 _ Y ms;have hn64:=hK.n;refine Aq (Dh (K:=kN) (V:=kN) (Ok:=BS) Y Y Y Y (λgA mA hA0=>Dh (K:=kN) (V:=MC) (Ok:=BS) Y Y Y Y (λgB mM hB0=>Qm Y (Qm Y (Am (EC 1 Y (BT ?_)))))));have hMS0:=OwnMS.start hB0;refine Bg (λsl h' ms'=>∃(mB mA mM:Hp) (bs:List Nat),sl=[(3,.pt g3),(5,.map (some gA)),(6,.map (some gB))]/\h1.le h'/\ms'=[mB,mA,mM]/\C4 kN kN gA BS mA (Dd (J4 (U.map Ce.c) x.c x.c.sd.length)) bs/\OwnMS gB mM mB (Gf (J4 (U.map Ce.c) x.c x.c.sd.length))) ?_ (λs h ms hI=>?_)
 ·refine Ac (Ab (Qf BI Y (Ql Y Cf (a2 _) (Qx (As hX.rd.any Y Cf Y) Y (Qm Y (Am (Ag ?_)))))))
  refine Ay (λq sl h' ms'=>∃(i:Nat) (mB mA mM:Hp) (bs:List Nat),q=x.c.sd.length-i/\sl=[(0,.pt g),(3,.pt g3),(5,.map (some gA)),(6,.map (some gB)),(21,x.v),(22,.w x.c.sd.length),(23,.w i)]/\h1.le h'/\ms'=[mB,mA,mM]/\i<=x.c.sd.length/\C4 kN kN gA BS mA (Dd (J4 (U.map Ce.c) x.c i)) bs/\OwnMS gB mM mB (Gf (J4 (U.map Ce.c) x.c i)))
   (x.c.sd.length-0) _ ⟨0,Hp.emp,mA,mM,[],rfl,rfl,Da,rfl,ω,hA0,hMS0⟩ Qs ?_
  rintro q sl h2 ms' ⟨i,mB,mA,mM,bs,rfl,rfl,l2,rfl,hi,hOA,hMS⟩;have hX:=hX.up l2;refine Aq (Qm Y (Am (Ac ?_)));refine Ao Y (λhlt=>?_) (λhlt=>?_)
  ·have hil:i<x.c.sd.length:=ω
   obtain⟨s,hs⟩:∃s,x.c.sd[i]=s:=⟨_,Y⟩
   have hsm:s∈x.c.sd:=by rw[<-hs];exact ae hil
   have hsA:BD x.c i=s:=by rw[By hil,hs]
   have hsI:=hK.s s hsm;obtain⟨y,hy⟩:∃y,(Bz (F3 U) s.1).getD default=y:=⟨_,Y⟩
   have hyc:GJ (U.map Ce.c) s.1=y.c:=by rw[<-Jw,hy]
   have hyR:=Rn hsU s.1;rw[hy]at hyR;have hyR:=hyR.up l2;have oyv:=hyR.rd.one;have y64:=hK.m i hil;have yt:=hK.t i hil;rw[hsA,hyc]at y64 yt;have hE:=NI (U.map Ce.c) x.c hK.m i hi;have hEs:∀e∈J4 (U.map Ce.c) x.c i,e.2.2=1\/e.2.2=-1:=λe he=>AaP hK hi he
   have hsucc:J4 (U.map Ce.c) x.c (i+1)=J4 (U.map Ce.c) x.c i++y.c.sd.map λr=>((i:Int),r.1,s.2*r.2):=by rw[QG];unfold VI;rw[hsA,hyc]
   obtain⟨E,hEe⟩:∃E,J4 (U.map Ce.c) x.c i=E:=⟨_,Y⟩
   rw[hEe]at hOA hMS hE hEs hsucc;have hsx:∀ms,Seg h2 ms ((AG x.v).add (i*2)) (cD s):=λms=>by rw[<-hs];exact(hX.any (ms:=ms)).seg hil
   refine Ah (Ad ?_);refine Bg (λsl h' ms'=>∃(mB mA mM:Hp) (bs:List Nat),sl=[(0,.pt g),(3,.pt g3),(5,.map (some gA)),(6,.map (some gB)),(21,x.v),(22,.w x.c.sd.length),(23,.w i)]/\h2.le h'/\ms'=[mB,mA,mM]/\C4 kN kN gA BS mA (Dd (J4 (U.map Ce.c) x.c (i+1))) bs/\OwnMS gB mM mB (Gf (J4 (U.map Ce.c) x.c (i+1)))) ?_ (λs h ms hI=>?_)
   ·refine Ag (Aq (Qm Y (Qx (BN (i) hX.rd.any Y Cf AS Y Y) Y (Qx (oG Y Eh AS (hsx _)) Y (Cx [.w 0,.w 0] Y AS Y Y (λg8=>Qm Y ?_))))));refine Sa 0 [_,_] AS Y (by simp[Value.oneCell']) ?_;refine Am (Ax λh3 l3 hS8=>?_);have e80:∀ms,Cell h3 ms (⟨g8,0,none⟩:Addr) (.w s.1):=λms=>Seg.all hS8 0 _ Y ms;have e81:∀ms,Cell h3 ms (⟨g8,1,none⟩:Addr) (.w s.2):=λms=>Seg.all hS8 1 _ Y ms;have l13:=AE l2 l3;have eT:∀ms,Cell h3 ms (⟨g,0,none⟩:Addr) (.map (some gm)):=λms=>(eT ms).le l13;have hyR:=hyR.up l3;refine Ac (Bc 10 CT κ Y (Wm Y (Wm Y (Wf FC Y (Wl Y Hf (eT _) (Wf Cm Y (Wl Y U3 (e80 _) (AM (Cy (V:=vC) (z:=(default:Ce)) s.1 hy BA hMt (AE lmt l13) Y Hf LZ Y Y hsI.1) Y Y (AM (Er Y Ey Y Cf Y Y Y) Y Y (AM (As hyR.rd.any Y Cf Y) Y Y (Wm Y (A7 (Am (Ag ?_))))))))))))))
    refine Ay (λq sl h' ms'=>∃(k:Nat) (mB mA mM:Hp) (bs:List Nat),q=y.c.sd.length-k/\sl=[(0,.pt g),(3,.pt g3),(5,.map (some gA)),(6,.map (some gB)),(7,.w i),(8,.pt g8),(21,x.v),(22,.w x.c.sd.length),(23,.w i),(35,y.v),(36,.w y.c.sd.length),(37,.w k)]/\h3.le h'/\ms'=[mB,mA,mM]/\k<=y.c.sd.length/\C4 kN kN gA BS mA (Dd (E++(y.c.sd.take k).map λr=>((i:Int),r.1,s.2*r.2))) bs/\OwnMS gB mM mB (Gf (E++(y.c.sd.take k).map λr=>((i:Int),r.1,s.2*r.2))))
     (y.c.sd.length-0) _ ⟨0,mB,mA,mM,bs,rfl,rfl,Da,rfl,ω,by simpa using hOA,by simpa using hMS⟩ Qs ?_
    rintro q sl h4 ms' ⟨k,mB,mA,mM,bs,rfl,rfl,l4,rfl,hk,hOA,hMS⟩;have hyR:=hyR.up l4;have e81:∀ms,Cell h4 ms (⟨g8,1,none⟩:Addr) (.w s.2):=λms=>(e81 ms).le l4;refine Aq (Qm Y (Am (Ac ?_)));refine Ao Y (λhlk=>?_) (λhlk=>?_)
    ·have hkl:k<y.c.sd.length:=ω
     obtain⟨r,hr⟩:∃r,y.c.sd[k]=r:=⟨_,Y⟩
     have hrm:r∈y.c.sd:=by rw[<-hr];exact ae hkl
     have hrI:=yt r hrm;have hsr:∀ms,Seg h4 ms ((AG y.v).add (k*2)) (cD r):=λms=>by rw[<-hr];exact(hyR.any (ms:=ms)).seg hkl
     have hF':(E++(y.c.sd.take (k+1)).map λr=>((i:Int),r.1,s.2*r.2))=(E++(y.c.sd.take k).map λr=>((i:Int),r.1,s.2*r.2))++[((i:Int),r.1,s.2*r.2)]:=by rw[ak hkl,bm,hr,bp];rfl
     have hFl:(E++(y.c.sd.take k).map λr=>((i:Int),r.1,s.2*r.2)).length<=4200:=by rw[ag,af,av];omega
     have hmu:s.2*r.2=1\/s.2*r.2=-1:=by rcases hsI.2 with e|e<;>rcases hrI.2 with e'|e'<;>rw[e,e']<;>decide
     have hFs:∀e∈E++(y.c.sd.take k).map (λr=>((i:Int),r.1,s.2*r.2)),e.2.2=1\/e.2.2=-1:=λe he=>by
      rcases bf.1 he with he|he
      ·exact hEs e he
      ·obtain⟨r',hr',rfl⟩:=ad.1 he;have hrI':=yt r' (List.mem_of_mem_take hr');show s.2*r'.2=1\/s.2*r'.2=-1;rcases hsI.2 with e|e<;>rcases hrI'.2 with e'|e'<;>rw[e,e']<;>decide
     obtain⟨F,hF⟩:∃F,E++(y.c.sd.take k).map (λr=>((i:Int),r.1,s.2*r.2))=F:=⟨_,Y⟩
     rw[hF]at hOA hMS hFl hFs hF';obtain⟨v0,hv0⟩:∃v0,(Bz (Dd F) r.1).getD 0=v0:=⟨_,Y⟩
     have hb0:=AaQ F r.1 hFs;rw[<-JW,hv0]at hb0;have hs1:=G3 F ((i:Int),r.1,s.2*r.2);have hm1:=Gx F ((i:Int),r.1,s.2*r.2);simp only at hs1 hm1;rw[hv0]at hs1;refine Ah (Ad ?_);refine Bg (λsl h' ms'=>∃(mB mA mM:Hp) (bs:List Nat),sl=[(0,.pt g),(3,.pt g3),(5,.map (some gA)),(6,.map (some gB)),(7,.w i),(8,.pt g8),(21,x.v),(22,.w x.c.sd.length),(23,.w i),(35,y.v),(36,.w y.c.sd.length),(37,.w k)]/\h4.le h'/\ms'=[mB,mA,mM]/\C4 kN kN gA BS mA (Dd (F++[((i:Int),r.1,s.2*r.2)])) bs/\OwnMS gB mM mB (Gf (F++[((i:Int),r.1,s.2*r.2)]))) ?_ (λs h ms hI=>?_)
     ·refine Ag (Aq (Qx (BN (k) hyR.rd.any Y Cf AS Y Y) Y (Qx (oG Y Eh AS (hsr _)) Y (Cx [.w 0,.w 0] Y AS Y Y (λg10=>?_)))));refine Sa 0 [_,_] AS Y (by simp[Value.oneCell']) ?_;refine Am (Ax λh5 l5 hS10=>?_);have e81:∀ms,Cell h5 ms (⟨g8,1,none⟩:Addr) (.w s.2):=λms=>(e81 ms).le l5;have ea0:∀ms,Cell h5 ms (⟨g10,0,none⟩:Addr) (.w r.1):=λms=>Seg.all hS10 0 _ Y ms;have ea1:∀ms,Cell h5 ms (⟨g10,1,none⟩:Addr) (.w r.2):=λms=>Seg.all hS10 1 _ Y ms;refine Aq (Qm Y (Qf Cm Y (Ql Y U3 (ea0 _) (Qx (Em (V:=kN) (z:=(0:Int)) r.1 hv0 BA hOA σ rfl Mu Ij rfl rfl hrI.1) rfl (Qf Dt rfl (Ql rfl U3 (e81 _) (Qf Dt rfl (Ql rfl U3 (ea1 _) (Qx (oM rfl) rfl (Qx (oA rfl) rfl (B4 (V:=kN) (z:=undef) 1 r.1 (v0+s.2*r.2) BA hOA rfl rfl Mu rfl rfl rfl hrI.1 rfl rfl (λmA' bs' hOA'=>?_))))))))))));rw[<-hs1]at hOA';refine Am ?_;obtain⟨Tv,bv,v,m1,m2,hO,hv,rfl,hd,hO1,close⟩:=hMS.open r.1;refine HI hd ?_;obtain⟨L,hL⟩:∃L,(Bz (Gf F) r.1).getD []=L:=⟨_,Y⟩
      have hLl:L.length<=4200:=by rw[<-hL,P7,af];exact dc (dp _ _) hFl
      rw[hL]at hO1 hm1;have ov:=hO1.o1;refine BK (n:=11) (bs:=[true,true,true,true,true,true,false,true,false,false,false]) [true,true,true,true,true,true,false,true] CT κ κ Y Y (Qq Y (QF Cm Y (QL Y U3 (ea0 _) (Qq Y (QF Cm Y (QL Y U3 (ea0 _) (Qq Y ?_)))))));unfold Fm;simp only[bl,ay];refine Bf [6,8] κ Y ?_;refine AD Y ?_ ?_
      ·refine Qx (Em (V:=MC) (z:=(Value.nl)) r.1 hv BA hO σ rfl G2 K3 rfl rfl hrI.1) rfl (Qw (Qo 8 rfl (Aw [_] rfl AN A0 rfl (by rfl) rfl rfl ω rfl rfl rfl (λg59=>Qw (Qo 9 rfl (AU 1 hO1 (RdL.one Bi (x:=(i:Int)) Mh rfl) rfl AN A0 rfl ω rfl rfl rfl B5 (by(try simp only[ab]);omega) (by(try simp only[ab]);omega) rfl rfl rfl (λv9 m9 hO9=>?_)))))));have ov9:=hO9.o1;refine Qw (Qo 10 Y (B4 (V:=MC) (z:=undef) 4 r.1 v9 BA hO Y Y G2 Y Y Y hrI.1 Y Y (λmM' bs2 hM'=>Qw (Qe (AX (EB λhap=>(E6 ?_)))))));have hdj:=(bj.1 hap).1 _ Mh;have hMS':=close v9 _ m9 mM' bs2 hdj hO9 hM';rw[<-hm1]at hMS';refine Ai ?_;exact Az _ ⟨_,mA',mM',bs',Y,l5,Y,hOA',hMS'⟩ Qs
      refine AD Y ?_ ?_
      ·refine Aw [_] Y AN A0 Y (by rfl) Y Y ω Y Y Y (λg59=>Qw (Qo 6 Y (Qx (Em (V:=MC) (z:=(Value.nl)) r.1 hv BA hO σ rfl G2 K3 rfl rfl hrI.1) rfl (Qw (Qo 9 rfl (AU 1 hO1 (RdL.one Bi (x:=(i:Int)) Mh rfl) rfl AN A0 rfl ω rfl rfl rfl B5 (by(try simp only[ab]);omega) (by(try simp only[ab]);omega) rfl rfl rfl (λv9 m9 hO9=>?_)))))));have ov9:=hO9.o1;refine Qw (Qo 10 Y (B4 (V:=MC) (z:=undef) 4 r.1 v9 BA hO Y Y G2 Y Y Y hrI.1 Y Y (λmM' bs2 hM'=>Qw (Qe (AX (EB λhap=>(E6 ?_)))))));have hdj:=(bj.1 hap).1 _ Mh;have hMS':=close v9 _ m9 mM' bs2 hdj hO9 hM';rw[<-hm1]at hMS';refine Ai ?_;exact Az _ ⟨_,mA',mM',bs',Y,l5,Y,hOA',hMS'⟩ Qs
      exact Be
     ·obtain⟨mB,mA,mM,bs,rfl,k4,rfl,hOA,hMS⟩:=hI;rw[<-hF']at hOA hMS;refine Ab (Qx (oA Y) Y (Qm Y (Ak ?_)));exact Al (y.c.sd.length-(k+1)) _ ω ⟨k+1,mB,mA,mM,bs,Y,Y,AE l4 k4,Y,ω,hOA,hMS⟩ Qs
    ·obtain rfl:k=y.c.sd.length:=ω
     rw[ct,<-hsucc]at hOA hMS;refine Av (Aa (Aa (Af (Ai ?_))));exact Az _ ⟨mB,mA,mM,bs,Y,AE l3 l4,Y,hOA,hMS⟩ Qs
   ·obtain⟨mB,mA,mM,bs,rfl,k2,rfl,hOA,hMS⟩:=hI;refine Ab (Qx (oA Y) Y (Qm Y (Ak ?_)));exact Al (x.c.sd.length-(i+1)) _ ω ⟨i+1,mB,mA,mM,bs,Y,Y,AE l2 k2,Y,ω,hOA,hMS⟩ Qs
  ·obtain rfl:i=x.c.sd.length:=ω
   refine Av (Aa (Aa (Af ?_)));exact Az _ ⟨mB,mA,mM,bs,Y,l2,Y,hOA,hMS⟩ Qs
 ·obtain⟨mB,mA,mM,bs,rfl,l2,rfl,hOA,hMS⟩:=hI;have hEl:=NI (U.map Ce.c) x.c hK.m x.c.sd.length (au _)
  have hEi:∀e∈J4 (U.map Ce.c) x.c x.c.sd.length,0<=e.1/\e.1<x.c.sd.length:=λe he=>by obtain⟨i,hi,r,_,rfl⟩:=N9 he;exact⟨by show 0<=(i:Int);omega,by show(i:Int)<_;omega⟩
  obtain⟨E,hE⟩:∃E,J4 (U.map Ce.c) x.c x.c.sd.length=E:=⟨_,Y⟩
  rw[hE]at hOA hMS hEl hEi ⊢;refine Bx λh2 k2 fB=>(Bx λh3 k3 fA=>(Bx λh4 k4 fM=>?_))
  have lB:=AE fB (AE k3 k4);have lA:=AE fA k4;have lh4:=AE l2 (AE k2 (AE k3 k4));refine Bg (λsl h' ms'=>sl=[(3,.pt g3),(6,.map (some gB))]/\h4=h'/\ms'=[]/\∀e∈E,EF E e.2.1=0) ?_ (λs h ms hI=>?_)
  ·refine Ac (Ab (Qm Y (JN hOA lA Y Mu Y Y Y Y (λgi mi0 I0=>Am (Ag ?_)))))
   refine Ay (λq sl h' ms'=>∃(vis:List Nat) (mi:Hp),q=(Dd E).length-vis.length/\sl=[(3,.pt g3),(6,.map (some gB)),(64,.pt gi)]/\h4=h'/\ms'=[mi]/\Ig gi gA mA mi bs vis/\∀j (hj:j<(Dd E).length),j∈vis->(Dd E)[j].2=0)
    ((Dd E).length-0) _ ⟨[],mi0,rfl,rfl,rfl,rfl,I0,λj hj h=>nomatch h⟩ Qs ?_
   rintro q sl h' ms' ⟨vis,mi,rfl,rfl,rfl,rfl,I,hz⟩;refine Aq ?_;refine Ln 0 hOA I lA Y Y Y Y Y Y (λhall=>?_) (λj hj mi' hjv I'=>?_)
   ·refine Qm Y (Am (Ac (AQ Y (Av (Aa (Aa (Af ?_)))))))
    have hzero:∀e∈E,EF E e.2.1=0:=λe he=>by obtain⟨l,v,hl⟩:=Hx ((L3 e.2.1 E).2 ⟨e,he,Y⟩);rw[<-JW,EG (SX E) hl];obtain⟨h1,h2⟩:=bg.1 hl;have:=hz l h1 (hall l h1);rw[h2]at this;exact this
    refine AZ 0 Y ?_;exact Az _ ⟨Y,Y,Y,hzero⟩ Qs
   ·have hTj:(Dd E)[j].2=EF E (Dd E)[j].1:=by have hg:(Dd E)[j]?=some ((Dd E)[j].1,(Dd E)[j].2):=ah hj;rw[<-JW,EG (SX E) hg];rfl
    refine Qm Y (Am (Ac (A5 Y (Ah (Ad (Ag (Aq (Qx (Kb hOA I' lA σ hj rfl rfl) rfl (Qm rfl (Qm rfl (BM (Qm rfl (Qm rfl (Am ?_))))))))))))));refine Ao Y (λhne=>?_) (λhne=>?_)
    ·have h24:XV E x.c.sd.length=24:=by unfold XV;rw[ac λw=>?_];obtain⟨e,he,h1⟩:=(L3 (Dd E)[j].1 E).1 (ad.2 ⟨_,ae hj,Y⟩);have:=w e he;rw[h1,<-hTj]at this;exact hne this
     refine Aq (Qm Y (Am (An (Aj (Ae (Aj (Ae ?_)))))));exact Ap Y Y (by rw[h24])
    ·refine Ah (Ai ?_);refine Al ((Dd E).length-(vis.length+1)) _ ?_ ⟨vis++[j],mi',by simp,rfl,rfl,rfl,I',λi hi' hv=>?_⟩ Qs
     ·have hlt:vis.length<(Dd E).length:=by
       have h1:=Go.Kuhn.nodup_le (vis++[j]) (range (Dd E).length) I'.nodup λx hx=>by rw[bi,<-hOA.len];exact I'.lt x hx
       simp at h1;omega
      omega
     ·rcases bf.1 hv with hv|hv
      ·exact hz i hi' hv
      ·simp at hv;subst hv;exact bk.1 hne
  ·obtain⟨rfl,rfl,rfl,hzero⟩:=hI;obtain⟨Tv,bv,hOv,hKv,hRv,hRa⟩:=hMS.look lB;obtain⟨M,hM⟩:∃M,Gf E=M:=⟨_,Y⟩
   have hMn:=Abn E;have hMk:=λc=>TO c E;have hMg:=λc=>P7 c E;rw[hM]at hKv hRv hRa hMn hMk hMg;have hTl:Tv.length=M.length:=by have:=aw List.length hKv;simpa using this
   refine Aq (Dh (K:=kN) (V:=MC) (Ok:=BS) Y Y Y Y (λgJ mJ hJ0=>Cx [.map none] Y Aar Y Y (λg13=>AO 0 0 Y Aar Y Y (by rfl) Y Y δ Y Y (Am (Ax λh5 k5 hS13=>?_)))));have e13:∀ms,Cell h5 ms (⟨g13,0,none⟩:Addr) (.map (some gJ)):=λms=>Seg.all hS13 0 _ Y ms;refine BT ?_;have hJS0:=OwnMS.start hJ0;have fM5:=AE fM k5
   let pr:Nat->Int×Int:=λj=>(((M.getD j (0,[])).2).getD 0 0,((M.getD j (0,[])).2).getD 1 0)
   refine Bg (λsl h' ms'=>∃(vis:List Nat) (mJB mJ:Hp),sl=[(3,.pt g3),(13,.pt g13)]/\h5=h'/\ms'=[mJB,mJ]/\OwnMS gJ mJ mJB (Fi (vis.map pr))/\vis.length<=M.length/\(∀j,j∈vis->j<M.length)/\(∀j,j<M.length->j∈vis)/\∀j (hj:j<M.length),M[j].2.length=2) ?_ (λs h ms hI=>?_)
   ·refine Ac (Ab (Qm Y (JN hOv fM5 Y G2 Y Y Y Y (λgi mi0 I0=>Am (Ag (EC 1 Y ?_))))))
    refine Ay (λq sl h' ms'=>∃(vis:List Nat) (mi mJB mJ:Hp),q=M.length-vis.length/\sl=[(3,.pt g3),(13,.pt g13),(73,.pt gi)]/\h5=h'/\ms'=[mJB,mi,mJ]/\Ig gi gB mM mi bv vis/\OwnMS gJ mJ mJB (Fi (vis.map pr))/\∀j (hj:j<M.length),j∈vis->M[j].2.length=2)
     (M.length-0) _ ⟨[],mi0,Hp.emp,mJ,rfl,rfl,rfl,rfl,I0,hJS0,λj hj h=>nomatch h⟩ Qs ?_
    rintro q sl h' ms' ⟨vis,mi,mJB,mJ,rfl,rfl,rfl,rfl,I,hJS,hz⟩
    have hvl:∀{w:List Nat} {m':Hp},Ig gi gB mM m' bv w->w.length<=M.length/\∀j,j∈w->j<M.length:=λ{w m'} I=>by
     have hlt:∀x∈w,x<M.length:=λx hx=>by rw[<-hTl,<-hOv.len];exact I.lt x hx
     have h1:=Go.Kuhn.nodup_le w (range M.length) I.nodup λx hx=>bi.2 (hlt x hx);rw[ip]at h1;exact⟨h1,hlt⟩
    refine Aq ?_;refine Ln 1 hOv I fM5 Y Y Y Y Y Y (λhall=>?_) (λj hj mi' hjv I'=>?_)
    ·refine Qm Y (Am (Ac (AQ Y (Av (Aa (Aa (Af (AZ 1 Y ?_))))))));exact Az _ ⟨vis,mJB,mJ,Y,Y,Y,hJS,(hvl I).1,(hvl I).2,λj hj=>hall j ω,λj hj=>hz j hj (hall j ω)⟩ Qs
    ·have hjM:j<M.length:=ω
     have hRj:=(hRv j hj hjM).2.up k5
     have hcj:(Bz M M[j].1).getD []=M[j].2:=by have hg:M[j]?=some (M[j].1,M[j].2):=ah hjM;rw[EG hMn hg];rfl
     have hcE:=hMg M[j].1;rw[hcj]at hcE;obtain⟨v,hv⟩:∃v,Tv[j].2=v:=⟨_,Y⟩
     obtain⟨L,hL⟩:∃L,M[j].2=L:=⟨_,Y⟩
     rw[hv,hL]at hRj;have ov:=hRj.rd.one;have hLl:L.length<=4200:=by rw[<-hL,hcE,af];exact dc (dp _ _) ω
     refine Qm Y (Am (Ac (A5 Y (Ah (Ad (Ag (Aq (Qx (Kb hOv I' fM5 σ hj rfl rfl) rfl ?_))))))));rw[hv];refine Qm Y (Qm Y (Am (Ac (Aq (Qm Y (Qx (As hRj.rd.any Y AN Y) Y (Qm Y (Am ?_))))))));refine Ao Y (λhne=>?_) (λhne=>?_)
     ·have h25:XV E x.c.sd.length=25:=by unfold XV;rw[aa (λw=>w hzero),ac λw=>?_];obtain⟨e,he,h1⟩:=(hMk M[j].1).1 (ad.2 ⟨_,ae hjM,Y⟩);have:=w e he;rw[h1,Is,<-af (f:=λe:Int×Int×Int=>e.1),<-hcE,hL]at this;exact hne ω
      refine Aq (Qm Y (Am (An (Ae (Aj (Ae (Aj (Ae ?_))))))));exact Ap Y Y (by rw[h25])
     ·have hL2:L.length=2:=ω
      obtain⟨a,b,rfl⟩:∃a b,L=[a,b]:=by
       match L,hL2 with
       | [a,b],_=>exact⟨a,b,Y⟩
      have hin:∀k∈[a,b],0<=k/\k<x.c.sd.length:=λk hk=>by rw[<-hL,hcE]at hk;obtain⟨e,he,rfl⟩:=ad.1 hk;exact hEi e (br.1 he).1
      have ha:=hin a Mh;have hb:=hin b (List.mem_cons_of_mem _ Mh);have haI:BS a:=by unfold BS;omega
      have hbI:BS b:=by unfold BS;omega
      have hprj:pr j=(a,b):=by
       simp only[pr];have:M.getD j (0,[])=M[j]:=by simp[List.getD,hjM]
       rw[this,hL];rfl
      have hMl:M.length<=4200:=by rw[<-hM];have:=TB E;omega
      have hPl:(vis.map pr).length<=4200:=by rw[af];have:=(hvl I).1;omega
      have hjl:=M6 (vis.map pr);have hsn:Fi ((vis++[j]).map pr)=Fw (Fw (Fi (vis.map pr)) a b) b a:=by rw[bm,List.map_singleton,IA,hprj]
      have hj1:=JR (Fi (vis.map pr)) a b _ hjl;obtain⟨T0,hT0⟩:∃T0,Fi (vis.map pr)=T0:=⟨_,Y⟩
      rw[hT0]at hJS hjl hsn hj1;have ca:∀ms,Cell h5 ms ((AG v).add (0*1)) (.w a):=λms=>(hRj.any (ms:=ms)).cell0 (j:=0) σ rfl;have cb:∀ms,Cell h5 ms ((AG v).add (1*1)) (.w b):=λms=>(hRj.any (ms:=ms)).cell0 (j:=1) σ rfl;refine Ah (Ad ?_);obtain⟨Tv1,bv1,u,m1,m2,hO,hu,rfl,hd,hO1,close⟩:=hJS.open a;refine HI hd ?_;obtain⟨L0,hL0⟩:∃L0,(Bz T0 a).getD []=L0:=⟨_,Y⟩
      have hL0l:L0.length<=10000:=by rw[<-hL0];have:=hjl a;omega
      rw[hL0]at hO1;have hjeq:Fw T0 a b=Dq T0 a (L0++[b]):=by unfold Fw;rw[hL0]
      have ou:=hO1.o1;refine Bg (λsl h' ms'=>∃(mJB mJ:Hp),sl=[(3,.pt g3),(13,.pt g13),(15,v),(73,.pt gi)]/\h5=h'/\ms'=[mJB,mi',mJ]/\OwnMS gJ mJ mJB (Fw T0 a b)) ?_ (λs h ms hI=>?_)
      ·refine BK (n:=15) (bs:=[true,true,true,true,true,true,true,true,false,true,true,true,false,false,false]) [true,true,true,true,true,true,true,true,false,true,true,true] CT κ κ Y Y (QL Y G2 (e13 _) (Qq Y (Qp Y (AA 0 hRj.rd.any Y AN A0 Y Y Y ω) (QL Y U3 (ca _) (QL Y G2 (e13 _) (Qq Y (Qp Y (AA 0 hRj.rd.any Y AN A0 Y Y Y ω) (QL Y U3 (ca _) (Qq Y (Qp Y (AA 1 hRj.rd.any Y AN A0 Y Y Y ω) (QL Y U3 (cb _) ?_)))))))))));unfold Fm;simp only[bl,ay];refine Bf [8,12] κ Y ?_;refine AD Y ?_ ?_
       ·refine Qx (Em (V:=MC) (z:=(Value.nl)) a hu BA hO σ rfl G2 K3 rfl rfl haI) rfl (Qw (Qo 12 rfl (Aw [_] rfl AN A0 rfl (by rfl) rfl rfl ω rfl rfl rfl (λg93=>Qw (Qo 13 rfl (AU 1 hO1 (RdL.one Bi (x:=b) Mh rfl) rfl AN A0 rfl ω rfl rfl rfl B5 (by(try simp only[ab]);omega) (by(try simp only[ab]);omega) rfl rfl rfl (λv9 m9 hO9=>?_)))))));have ov9:=hO9.o1;refine Qw (Qo 14 Y (B4 (V:=MC) (z:=undef) 4 a v9 BA hO Y Y G2 Y Y Y haI Y Y (λmM' bs2 hM'=>Qw (Qe (AX (EB λhap=>(E6 ?_)))))));have hdj:=(bj.1 hap).1 _ Mh;have hMS':=close v9 _ m9 mM' bs2 hdj hO9 hM';rw[<-hjeq]at hMS';exact Az _ ⟨_,mM',Y,Y,Y,hMS'⟩ Qs
       refine AD Y ?_ ?_
       ·refine Aw [_] Y AN A0 Y (by rfl) Y Y ω Y Y Y (λg93=>Qw (Qo 8 Y (Qx (Em (V:=MC) (z:=(Value.nl)) a hu BA hO σ rfl G2 K3 rfl rfl haI) rfl (Qw (Qo 13 rfl (AU 1 hO1 (RdL.one Bi (x:=b) Mh rfl) rfl AN A0 rfl ω rfl rfl rfl B5 (by(try simp only[ab]);omega) (by(try simp only[ab]);omega) rfl rfl rfl (λv9 m9 hO9=>?_)))))));have ov9:=hO9.o1;refine Qw (Qo 14 Y (B4 (V:=MC) (z:=undef) 4 a v9 BA hO Y Y G2 Y Y Y haI Y Y (λmM' bs2 hM'=>Qw (Qe (AX (EB λhap=>(E6 ?_)))))));have hdj:=(bj.1 hap).1 _ Mh;have hMS':=close v9 _ m9 mM' bs2 hdj hO9 hM';rw[<-hjeq]at hMS';exact Az _ ⟨_,mM',Y,Y,Y,hMS'⟩ Qs
       exact Be
      ·obtain⟨mJB,mJ,rfl,rfl,rfl,hJS⟩:=hI;obtain⟨T1,hT1⟩:∃T1,Fw T0 a b=T1:=⟨_,Y⟩
       rw[hT1]at hJS hj1 hsn;obtain⟨Tv2,bv2,u2,m1,m2,hO,hu,rfl,hd,hO1,close⟩:=hJS.open b;refine HI hd ?_;obtain⟨L1,hL1⟩:∃L1,(Bz T1 b).getD []=L1:=⟨_,Y⟩
       have hL1l:L1.length<=10000:=by rw[<-hL1];have:=hj1 b;omega
       rw[hL1]at hO1;have hjeq2:Fw T1 b a=Dq T1 b (L1++[a]):=by unfold Fw;rw[hL1]
       have ou2:=hO1.o1;refine BK (n:=15) (bs:=[true,true,true,true,true,true,true,true,false,true,true,true,false,false,false]) [true,true,true,true,true,true,true,true,false,true,true,true] CT κ κ Y Y (QL Y G2 (e13 _) (Qq Y (Qp Y (AA 1 hRj.rd.any Y AN A0 Y Y Y ω) (QL Y U3 (cb _) (QL Y G2 (e13 _) (Qq Y (Qp Y (AA 1 hRj.rd.any Y AN A0 Y Y Y ω) (QL Y U3 (cb _) (Qq Y (Qp Y (AA 0 hRj.rd.any Y AN A0 Y Y Y ω) (QL Y U3 (ca _) ?_)))))))))));unfold Fm;simp only[bl,ay];refine Bf [8,12] κ Y ?_;refine AD Y ?_ ?_
       ·refine Qx (Em (V:=MC) (z:=(Value.nl)) b hu BA hO σ rfl G2 K3 rfl rfl hbI) rfl (Qw (Qo 12 rfl (Aw [_] rfl AN A0 rfl (by rfl) rfl rfl ω rfl rfl rfl (λg107=>Qw (Qo 13 rfl (AU 1 hO1 (RdL.one Bi (x:=a) Mh rfl) rfl AN A0 rfl ω rfl rfl rfl B5 (by(try simp only[ab]);omega) (by(try simp only[ab]);omega) rfl rfl rfl (λv9 m9 hO9=>?_)))))));have ov9:=hO9.o1;refine Qw (Qo 14 Y (B4 (V:=MC) (z:=undef) 4 b v9 BA hO Y Y G2 Y Y Y hbI Y Y (λmM' bs2 hM'=>Qw (Qe (AX (EB λhap=>(E6 ?_)))))));have hdj:=(bj.1 hap).1 _ Mh;have hMS':=close v9 _ m9 mM' bs2 hdj hO9 hM';rw[<-hjeq2,<-hsn]at hMS';refine Ai ?_;have hv':=(hvl I').1;rw[ag,ab]at hv';exact Al (M.length-(vis.length+1)) _ ω ⟨vis++[j],mi',_,mM',by simp,rfl,rfl,rfl,I',hMS',λi hi' hv=>by rcases bf.1 hv with hv|hv;exact hz i hi' hv;simp at hv;subst hv;rw[hL];rfl⟩ Qs
       refine AD Y ?_ ?_
       ·refine Aw [_] Y AN A0 Y (by rfl) Y Y ω Y Y Y (λg107=>Qw (Qo 8 Y (Qx (Em (V:=MC) (z:=(Value.nl)) b hu BA hO σ rfl G2 K3 rfl rfl hbI) rfl (Qw (Qo 13 rfl (AU 1 hO1 (RdL.one Bi (x:=a) Mh rfl) rfl AN A0 rfl ω rfl rfl rfl B5 (by(try simp only[ab]);omega) (by(try simp only[ab]);omega) rfl rfl rfl (λv9 m9 hO9=>?_)))))));have ov9:=hO9.o1;refine Qw (Qo 14 Y (B4 (V:=MC) (z:=undef) 4 b v9 BA hO Y Y G2 Y Y Y hbI Y Y (λmM' bs2 hM'=>Qw (Qe (AX (EB λhap=>(E6 ?_)))))));have hdj:=(bj.1 hap).1 _ Mh;have hMS':=close v9 _ m9 mM' bs2 hdj hO9 hM';rw[<-hjeq2,<-hsn]at hMS';refine Ai ?_;have hv':=(hvl I').1;rw[ag,ab]at hv';exact Al (M.length-(vis.length+1)) _ ω ⟨vis++[j],mi',_,mM',by simp,rfl,rfl,rfl,I',hMS',λi hi' hv=>by rcases bf.1 hv with hv|hv;exact hz i hi' hv;simp at hv;subst hv;rw[hL];rfl⟩ Qs
       exact Be
   ·obtain⟨vis,mJB,mJ,rfl,rfl,rfl,hJS,hv1,hv2,hv3,h2⟩:=hI;refine Bx λh6 k6 fJB=>(Bx λh7 k7 fJ=>?_)
    have fJB7:=AE fJB k7;have l57:=AE k6 k7;refine Aq (Dh (K:=kN) (V:=vB) (Ok:=BS) Y Y Y Y (λgS mS hS0=>Cx [.map none] Y Acw Y Y (λg16=>AO 0 0 Y Acw Y Y (by rfl) Y Y δ Y Y (Am (Ax λh8 k8 hS16=>?_)))));have e16:∀ms,Cell h8 ms (⟨g16,0,none⟩:Addr) (.map (some gS)):=λms=>Seg.all hS16 0 _ Y ms;refine Aq (Cx [.nilFunc] Y Aax Y Y (λg17=>BM (Qx (Cc Y Y Y) Y (AO 0 0 Y Aax Y Y (by rfl) Y Y δ Y Y (Am (Ax λh9 k9 hS17=>?_))))));have e17:∀ms,Cell h9 ms (⟨g17,0,none⟩:Addr) (.func (.func 142) #[] #[.pt g16,.pt g13,.pt g17]):=λms=>Seg.all hS17 0 _ Y ms;obtain⟨P,hP⟩:∃P,vis.map pr=P:=⟨_,Y⟩
    rw[hP]at hJS
    have hpm:∀p,p∈P<->∃j,∃hj:j<M.length,M[j].2=[p.1,p.2]:=λp=>by
     rw[<-hP,ad]
     have hpj:∀j (hj:j<M.length),M[j].2=[(pr j).1,(pr j).2]:=λj hj=>by
      have e:M.getD j (0,[])=M[j]:=by simp[List.getD,hj]
      simp only[pr];rw[e];have hl:=h2 j hj
      match M[j].2,hl with
      | [a,b],_=>rfl
     constructor
     ·rintro⟨j,hj,rfl⟩;exact⟨j,hv2 j hj,hpj j _⟩
     ·rintro⟨j,hj,e⟩;refine⟨j,hv3 j hj,?_⟩;have:=hpj j hj;rw[e]at this;simp only[List.cons.injEq,and_true]at this;exact Prod.ext this.1.symm this.2.symm
    have hMj:∀j (hj:j<M.length),(E.filter λe=>decide (e.2.1=M[j].1)).map (λe=>e.1)=M[j].2:=λj hj=>by have hg:M[j]?=some (M[j].1,M[j].2):=ah hj;rw[<-hMg,EG hMn hg];rfl
    have hcnt:∀e∈E,FL E e.2.1=2:=λe he=>by obtain⟨l,v,hl⟩:=Hx ((hMk e.2.1).2 ⟨e,he,Y⟩);obtain⟨h1,e1⟩:=bg.1 hl;have h3:=hMj l h1;have h4:=h2 l h1;rw[<-h3,e1,af]at h4;rw[Is];have h4:(E.filter λe'=>decide (e'.2.1=e.2.1)).length=2:=h4;omega
    have hJm:∀a k,k∈(Bz (Fi P) a).getD []<->∃c p q,(E.filter λe=>decide (e.2.1=c)).map (λe=>e.1)=[p,q]/\((a=p/\k=q)\/(a=q/\k=p)):=λa k=>by
     rw[UD,hpm,hpm];constructor
     ·rintro(⟨j,hj,e⟩|⟨j,hj,e⟩)
      ·exact⟨M[j].1,a,k,by rw[hMj j hj,e],.inl ⟨rfl,rfl⟩⟩
      ·exact⟨M[j].1,k,a,by rw[hMj j hj,e],.inr ⟨rfl,rfl⟩⟩
     ·rintro⟨c,p,q,e,h⟩
      have hc:∃j,∃hj:j<M.length,M[j].2=[p,q]:=by
       have hm:c∈M.map Prod.fst:=(hMk c).2 (by
        have hpm:p∈(E.filter λe=>decide (e.2.1=c)).map (λe=>e.1):=by rw[e];exact Mh
        obtain⟨e',he',_⟩:=ad.1 hpm;obtain⟨h3,h4⟩:=br.1 he'
        exact⟨e',h3,bz h4⟩)
       obtain⟨l,v,hl⟩:=Hx hm;obtain⟨h1,e1⟩:=bg.1 hl;refine⟨l,h1,?_⟩;rw[<-hMj l h1,e1];exact e
      obtain⟨j,hj,e2⟩:=hc;rcases h with ⟨rfl,rfl⟩|⟨rfl,rfl⟩
      ·exact .inl ⟨j,hj,e2⟩
      ·exact .inr ⟨j,hj,e2⟩
    have hPl:P.length<=4200:=by rw[<-hP,af];have:=TB E;rw[hM]at this;omega
    have V:Aca h9 gS gJ g16 g13 g17 mJ mJB (Fi P) (λa=>(Bz (Fi P) a).getD []) x.c.sd.length:=⟨λms=>(e16 ms).le k9,λms=>(e13 ms).le (AE l57 (AE k8 k9)),e17,hJS,AE fJ (AE k8 k9),AE fJB7 (AE k8 k9),λa=>rfl,λa k hk=>by
     obtain⟨c,p,q,e,h⟩:=(hJm a k).1 hk
     have hin:∀y∈[p,q],0<=y/\y<x.c.sd.length:=λy hy=>by rw[<-e]at hy;obtain⟨e',he',rfl⟩:=ad.1 hy;exact hEi e' (br.1 he').1
     rcases h with ⟨_,rfl⟩|⟨_,rfl⟩
     ·exact hin _ (List.mem_cons_of_mem _ Mh)
     ·exact hin _ Mh,λa=>by have:=M6 P a;show((Bz (Fi P) a).getD []).length<=_;omega,ω⟩
    refine Aq (Ql Y Ab4 (e17 _) (H6 (pre:=[mS]) Y Y call142 Y (XZ V (uns x.c.sd.length []+1) 0 [] [] mS hK.p hS0 (λp hp=>nomatch hp) (Nat.lt_succ_self _)) Y Y Y Y (λv' h' pre' l' hF=>?_)));obtain⟨rfl,m',T',bs',rfl,hO',hA',R⟩:=hF;simp only[bl,ay,eo];refine Am (Ac (Aq (Ql Y Vl ((e16 _).le k9) (Qx (Aac hO' σ rfl Vl rfl) rfl ?_))));have hX9:=hX.up (AE lh4 (AE k5 (AE l57 (AE k8 k9))))
    have hmem:∀y,y∈GH T'<->Con E 0 y:=λy=>by
     rw[Yw hcnt hJm];constructor
     ·intro h;exact(R.new y h (λq=>nomatch q)).1.1
     ·intro h
      induction h with
      | refl=>exact R.me
      | step _ h3 ih=>exact(R.new _ ih (λq=>nomatch q)).1.2 _ h3
    have hlen:T'.length=x.c.sd.length<->(0<x.c.sd.length/\∀i:Nat,i<x.c.sd.length->Con E 0 i):=by
     have hnd:=hO'.keys
     have hsub:∀y∈GH T',y∈(range x.c.sd.length).map λ(i:Nat)=>(i:Int):=λy hy=>by have:=(R.new y hy (λq=>nomatch q)).2;exact ad.2 ⟨y.toNat,bi.2 ω,ω⟩
     have hle:=Go.Kuhn.nodup_le _ _ hnd hsub;have hr:((range x.c.sd.length).map λ(i:Nat)=>(i:Int)).Nodup:=cm.2 (ig.imp λh e=>h ω);constructor
     ·intro h;refine⟨hK.p,λi hi=>(hmem _).1 (bc λhn=>?_)⟩
      have h3:=Go.Kuhn.nodup_le ((i:Int)::GH T') _ (gw.2 ⟨hn,hnd⟩) λy hy=>by
       rcases aq.1 hy with rfl|hy
       ·exact ad.2 ⟨i,bi.2 hi,Y⟩
       ·exact hsub y hy
      rw[List.length_cons,af,af,ip]at h3;omega
     ·rintro⟨_,h⟩
      have h3:=Go.Kuhn.nodup_le _ (GH T') hr λy hy=>by obtain⟨i,hi,rfl⟩:=ad.1 hy;exact(hmem _).2 (h i (bi.1 hi))
      rw[af,af,ip]at h3;rw[af,af,ip]at hle;omega
    refine Qf BI Y (Ql Y Cf (((hA 2 _ Y _).le (AE lh4 (AE k5 (AE l57 (AE k8 k9)))))) (Qx (As hX9.rd.any Y Cf Y) Y (Qm Y (Am ?_))));refine Ao Y (λhne=>?_) (λhne=>?_)
    ·refine Ac (Ab (Qm Y (Am (An (Ae ?_)))));exact Ap Y Y (by unfold XV;rw[aa (λw=>w hzero),aa (λw=>w hcnt),ac (λw=>hne (by rw[hlen.2 w]))])
    ·refine Ah (Ad (Aq (Qm Y (Am (An ?_)))));exact Ap Y Y (by unfold XV;rw[aa (λw=>w hzero),aa (λw=>w hcnt),aa (λw=>w (hlen.1 ω))])
variable {U o:List Cl} {i:Nat}
theorem E1{e:Entry}{Q:Exit->Act->World->Prop}{ops:Array Oper}{r:List Oper}{s:AF}{h:Hp}{ms:List Hp}(k:WL e ops Q r s h ms):∀pre:List Hp,WL e ops Q r s h (pre++ms)
 | []=>k
 | m::pre=>UL 0 rfl (E1 k pre)
def Kp(o:List Cl)(i:Nat):Int:=if i=0 then 0 else(o.getD (i-1) default).id
def cA(U o:List Cl)(i:Nat):Option (Int×Int):=
 if(o.getD i default).id<=Kp o i then some ((o.getD i default).id,20)
 else if Ep U (o.getD i default)≠0 then some ((o.getD i default).id,Ep U (o.getD i default)) else none
noncomputable def Ul(U o:List Cl)(i:Nat):Option (Int×Int):=
 if 1<(o.getD i default).dim then
  if XV (J4 U (o.getD i default) (o.getD i default).sd.length) (o.getD i default).sd.length≠0 then some ((o.getD i default).id,XV (J4 U (o.getD i default) (o.getD i default).sd.length) (o.getD i default).sd.length) else none
 else none
noncomputable def MA(U o:List Cl):Int×Int:=
 match (range o.length).findSome? (cA U o) with
 | some e=>e
 | none=>match (range o.length).findSome? (Ul U o) with
  | some e=>e
  | none=>(0,0)
theorem V3{e:Int×Int}(hi:i<o.length)(h:∀j,j<i->cA U o j=none)(he:cA U o i=some e):MA U o=e:=by unfold MA;rw[DU h he o.length hi]
theorem AbI{e:Int×Int}(hA:∀j,j<o.length->cA U o j=none)(hi:i<o.length)(h:∀j,j<i->Ul U o j=none)(he:Ul U o i=some e):MA U o=e:=by unfold MA;rw[CH o.length hA,DU h he o.length hi]
theorem Wg(hA:∀j,j<o.length->cA U o j=none)(hB:∀j,j<o.length->Ul U o j=none):MA U o=(0,0):=by unfold MA;rw[CH o.length hA,CH o.length hB]
structure Ab2(l:List Ce):Prop extends OfOk l where
 d:∀a∈l,BS a.c.dim
 r:∀a∈l,∀s∈a.c.sd,BS s.1/\BS s.2
theorem MG{x:Cl}(h:Ep U x=0):(0<=x.dim/\x.dim<=8)/\¬Cb x/\(∀i,i<x.sd.length->¬Ie U x i)/\∀i,i<x.sd.length->¬B0 x i:=by
 unfold Ep at h;split at h
 ·exact jt h δ
 rename_i h1;split at h
 ·exact jt h δ
 rename_i h2;split at h
 ·exact jt h δ
 rename_i h3;split at h
 ·exact jt h δ
 rename_i h4;exact⟨ω,h2,bk.1 h3,bk.1 h4⟩
theorem Jb(h:i<o.length):o.getD i default=o[i]:=by simp[List.getD,h]
theorem Ti(hi:i<o.length)(h:cA U o i=none):Kp o i<o[i].id/\Ep U o[i]=0:=by
 unfold cA at h;rw[Jb hi]at h;split at h
 ·cases h
 ·rename_i h1;split at h
  ·cases h
  ·rename_i h2;exact⟨ω,bk.1 h2⟩
theorem Abu(h:∀j,j<o.length->cA U o j=none):o.Pairwise λa b=>a.id<b.id:=by
 have key:∀j (hj:j<o.length) i (hi:i<j),o[i].id<o[j].id:=λj=>by
  induction j with
  | zero=>intro hj i hi;omega
  | succ j ih=>
   intro hj i hi;have h1:=(Ti hj (h _ hj)).1
   have h2:Kp o (j+1)=o[j].id:=by unfold Kp;rw[aa ω,ie,Jb ω]
   rw[h2]at h1;rcases (ω:i<j\/i=j) with h3|rfl
   ·have:=ih ω i h3;omega
   ·exact h1
 rw[ax];intro i j hi hj hij;exact key j hj i hij
theorem Acq{l o1 o2:List Cl}(C1:CanO l o1)(C2:CanO l o2)(hU:∀y∈U,y∈o1)(hr:∀a∈l,∀s∈a.sd,BS s.1/\BS s.2)(hA:∀j,j<o2.length->cA U o2 j=none){x:Cl}(hx:x∈o2)(hd:1<x.dim):Zf U x:=by
 have hnd:(l.map Cl.id).Nodup:=C2.ids.nodup_iff.1 (Oq (Abu hA))
 have hf:∀y∈o2,Ep U y=0:=λy hy=>by obtain⟨j,hj,rfl⟩:=df hy;exact(Ti hj (hA j hj)).2
 have hy2:∀y∈o2,y.sd.length<=64/\∀s∈y.sd,BS s.1/\(s.2=1\/s.2=-1):=λy hy=>by obtain⟨h1,h2,h3,h4⟩:=MG (hf y hy);refine⟨by unfold Cb at h2;omega,λs hs=>?_⟩;obtain⟨i,hi,rfl⟩:=df hs;have h5:=h4 i hi;unfold B0 at h5;rw[By hi]at h5;obtain⟨a,ha,_,_,hp⟩:=C2.sim.mem y hy;exact⟨(hr a ha _ (hp.mem_iff.1 (ae hi))).1,ω⟩
 have hyU:∀y∈U,y.sd.length<=64/\∀s∈y.sd,BS s.1/\(s.2=1\/s.2=-1):=λy hy=>by obtain⟨a,ha,_,_,hp⟩:=C1.sim.mem y (hU y hy);obtain⟨y',hy',_,_,hp'⟩:=C2.sim.to hnd ha;obtain⟨h1,h2⟩:=hy2 y' hy';refine⟨by rw[hp.length_eq,<-hp'.length_eq];exact h1,λs hs=>h2 s (hp'.mem_iff.2 (hp.mem_iff.1 hs))⟩
 have hcel:∀c,(GJ U c).sd.length<=64/\∀s∈(GJ U c).sd,BS s.1/\(s.2=1\/s.2=-1):=λc=>by
  unfold GJ MR;cases hc:U.find? λy=>decide (y.id=c) with
  | none=>exact⟨by simp[default,instInhabitedCl.default],λs hs=>by simp[default,instInhabitedCl.default]at hs⟩
  | some y=>exact hyU y (gn hc)
 obtain⟨h1,h2⟩:=hy2 x hx;obtain⟨_,h4,_,_⟩:=MG (hf x hx);exact⟨h1,by unfold Cb at h4;omega,λi _=>(hcel _).1,λs hs=>h2 s hs,λi _ r hr=>(hcel _).2 r hr⟩
theorem Vg(l:List Ce)(v:Value)(hp:Hp)(hK:Ab2 l)(hR:RdC hp v l):FnT Tryz.prog 28 #[.agg #[v]] hp [] (λr _ _=>∃e,r=.tuple #[.int .i64 e.1,.int .i64 e.2]/\((4000<l.length/\e=(0,2))\/(l.length<=4000/\∃A1 A2:List Ce,CanO (l.map Ce.c) (A1.map Ce.c)/\CanO (l.map Ce.c) (A2.map Ce.c)/\e=MA ((Rc A1).map Ce.c) (A2.map Ce.c)))):=by
 have o1:=hR.q.rd.one;refine Au func28 ntmps28 Y Y (λw0 hw0=>?_);simp only[A6];refine Aq (AP [_] Y Y (by rfl) Y Y Y (λg1=>Qm Y (Qm Y (Am (Ax λh1 l1 hS=>?_)))));have hR:=hR.up l1;refine Ac (Aq (Qf Cr Y (Ql Y Bm (Seg.all hS 0 _ Y _) (Qx (As hR.q.rd.any Y Bm Y) Y (Qm Y (Am ?_))))));refine Ao Y (λh4=>?_) (λh4=>?_)
 ·refine Ac (Ab (Qm Y (Qm Y (Am (An (Ae ?_))))));exact BE Y Y Y (⟨(0,2),Y,.inl ⟨ω,Y⟩⟩)
 ·refine Ah (Ad (Aq (Qx (oG Y CS A8 (Seg.any hS)) Y (Qc call64 Y (Aap l v h1 hK.toOfOk hR) (λrT h2 ms2 l2 hF=>?_)))));obtain⟨l2',rfl,g,A1,rfl,hC1,hT⟩:=hF;have hR2:=hR.up l2;have hS2:=hS.le l2;refine Qm Y (BM (Qx (oG Y CS A8 (Seg.any hS2)) Y (Qc call65 Y (JT l v h2 hK.n hK.s hR2) (λrC h3 ms3 l3 hF=>?_))));obtain⟨l3',mA,A2,vA,rfl,rfl,hOA,hC2,hsA⟩:=hF;refine Ba hOA λhq l4 hQ=>?_;have hsA:=λa ha=>(hsA a ha).up l4;have hT:=hT.up (AE l3 l4);have ovA:=hQ.rd.one
  have hU1:∀y∈(Rc A1).map Ce.c,y∈A1.map Ce.c:=λy hy=>by
   obtain⟨a,ha,rfl⟩:=ad.1 hy;rcases KC _ _ a ha with h|h
   ·cases h
   ·exact ad.2 ⟨a,h,Y⟩
  obtain⟨W,hW⟩:∃W,Rc A1=W:=⟨_,Y⟩
  rw[hW]at hT hU1;have hol:A2.length=l.length:=by have:=hC2.len;rwa [af,af]at this
  have hln:=hK.n
  have hx2:∀a∈A2,∃b∈l,a.c.id=b.c.id/\a.c.dim=b.c.dim/\a.c.sd.Perm b.c.sd:=λa ha=>by obtain⟨y,hy,e1,e2,e3⟩:=hC2.sim.mem a.c (ad.2 ⟨a,ha,Y⟩);obtain⟨b,hb,rfl⟩:=ad.1 hy;exact⟨b,hb,e1,e2,e3⟩
  have hget:∀i (hi:i<A2.length),(A2.map Ce.c).getD i default=A2[i].c:=λi hi=>by simp[List.getD,hi]
  have hres:∀e,e=MA (W.map Ce.c) (A2.map Ce.c)->(4000<l.length/\e=(0,2))\/(l.length<=4000/\∃A1 A2:List Ce,CanO (l.map Ce.c) (A1.map Ce.c)/\CanO (l.map Ce.c) (A2.map Ce.c)/\e=MA ((Rc A1).map Ce.c) (A2.map Ce.c)):=λe he=>.inr ⟨ω,A1,A2,hC1,hC2,by rw[he,hW]⟩;refine Qx (Er Y CS Y Bm Y Y Y) Y (Qm Y (Qm Y (Am ?_)));refine Bg (λsl h' ms'=>sl=[(4,.pt g),(6,vA)]/\hq.le h'/\ms'=[]/\∀j,j<A2.length->cA (W.map Ce.c) (A2.map Ce.c) j=none) ?_ (λs h ms hI=>?_)
  ·refine Ac (Ab (Qm Y (Qx (As hQ.rd.any Y Bm Y) Y (Qm Y (Am (Ag ?_))))))
   refine Ay (λq sl h' ms'=>∃(i:Nat),q=A2.length-i/\sl=[(4,.pt g),(5,.w (Kp (A2.map Ce.c) i)),(6,vA),(22,vA),(23,.w A2.length),(24,.w i)]/\hq.le h'/\ms'=[]/\i<=A2.length/\∀j,j<i->cA (W.map Ce.c) (A2.map Ce.c) j=none)
    (A2.length-0) _ ⟨0,rfl,rfl,Da,rfl,ω,λj h=>ω⟩ Qs ?_
   rintro q sl h5 ms' ⟨i,rfl,rfl,l5,rfl,hi,hno⟩;have hQ:=hQ.up l5;refine Aq (Qm Y (Am (Ac ?_)));refine Ao Y (λhlt=>?_) (λhlt=>?_)
   ·have hil:i<A2.length:=ω
    obtain⟨x,hx⟩:∃x,A2[i]=x:=⟨_,Y⟩
    have hxm:x∈A2:=by rw[<-hx];exact ae hil
    have hgx:=hget i hil;rw[hx]at hgx;obtain⟨b,hb,e1,e2,e3⟩:=hx2 x hxm;have hX:=(hsA x hxm).up l5;have hd:BS x.c.dim:=by rw[e2];exact hK.d b hb
    have hn:x.c.sd.length<=1000000:=by rw[e3.length_eq];exact hK.s b hb
    have hr:∀s∈x.c.sd,BS s.1/\BS s.2:=λs hs=>hK.r b hb s (e3.mem_iff.1 hs);have oxv:=hX.rd.one
    have hl1:Kp (A2.map Ce.c) (i+1)=x.c.id:=by unfold Kp;rw[aa ω,ie,hgx]
    have hcl:i<(A2.map Ce.c).length:=by rw[af];exact hil
    have hsx:∀ms,Seg h5 ms ((AG vA).add (i*3)) (cC x):=λms=>by rw[<-hx];exact(hQ.any (ms:=ms)).seg hil
    refine Ah (Ad (Ac (Ag (Aq (Qx (BN (i) hQ.rd.any Y Bm AI Y Y) Y (Qx (oG Y Ey AI (hsx _)) Y (Cx [.w 0,.w 0,.nl] Y AI Y Y (λg8=>?_))))))));refine Sa 0 [_,_,_] AI Y (by simp[o1,ovA,oxv]) ?_;refine Am (Ax λh6 l6 hS8=>?_);have e80:∀ms,Cell h6 ms (⟨g8,0,none⟩:Addr) (.w x.c.id):=λms=>Seg.all hS8 0 _ Y ms;have l56:=AE l5 l6;refine Ac (Aq (Qf Bq Y (Ql Y U3 (e80 _) (Qm Y (Qm Y (Am ?_))))));refine Ao Y (λhle=>?_) (λhle=>?_)
    ·have hch:=V3 (U:=W.map Ce.c) hcl hno (by unfold cA;rw[hgx,ac hle]);refine Aq (Qf Bq Y (Ql Y U3 (e80 _) (Qm Y (Qm Y (Am (An (Ae (Aj (Ae (Ae (Aj (Ae ?_))))))))))));exact BE Y Y Y (⟨_,Y,hres _ hch.symm⟩)
    ·refine Ah (Ad (Aq (Qf Bq Y (Ql Y U3 (e80 _) (Qm Y (BM (Qm Y (Qx (oG Y Ey AI (Seg.any hS8)) Y (Qc call76 Y (Zr W x g h6 (hT.up l56) (hX.up l6) hd hn hr) (λrF h7 ms7 l7 hF=>?_))))))))));subst hF;refine E1 ?_ ms7;have e80:∀ms,Cell h7 ms (⟨g8,0,none⟩:Addr) (.w x.c.id):=λms=>(e80 ms).le l7;refine Qm Y (BM (Qm Y (Qm Y (Am ?_))));refine Ao Y (λhne=>?_) (λhne=>?_)
     ·have hch:=V3 (U:=W.map Ce.c) hcl hno (by unfold cA;rw[hgx,aa hle,ac hne]);refine Aq (Qf Bq Y (Ql Y U3 (e80 _) (Qm Y (Qm Y (Qm Y (Am (An (Aj (Ae (Ae (Aj (Ae ?_))))))))))));exact BE Y Y Y (⟨_,Y,hres _ hch.symm⟩)
     ·have hci:cA (W.map Ce.c) (A2.map Ce.c) i=none:=by unfold cA;rw[hgx,aa hle,aa hne]
      refine Ah (Ai (Ad (Ab (Qx (oA Y) Y (Qm Y (Ak ?_))))))
      exact Al (A2.length-(i+1)) _ ω ⟨i+1,Y,by rw[hl1],AE l56 l7,rfl,ω,λj hj=>by
       rcases (ω:j<i\/j=i) with h1|rfl
       ·exact hno j h1
       ·exact hci⟩ Qs
   ·obtain rfl:i=A2.length:=ω
    refine Av (Aa (Aa (Af ?_)));exact Az _ ⟨Y,l5,Y,hno⟩ Qs
  ·obtain⟨rfl,l5,rfl,hno⟩:=hI;have hno':∀j,j<(A2.map Ce.c).length->cA (W.map Ce.c) (A2.map Ce.c) j=none:=λj hj=>hno j (by rwa [af]at hj);have hQ:=hQ.up l5;have hT:=hT.up l5;have hsA:=λa ha=>(hsA a ha).up l5;refine Ac (Aq (Qm Y (Qx (As hQ.rd.any Y Bm Y) Y (Qm Y (Am (Ag ?_))))))
   refine Ay (λq sl h' ms'=>∃(i:Nat),q=A2.length-i/\sl=[(4,.pt g),(45,vA),(46,.w A2.length),(47,.w i)]/\h.le h'/\ms'=[]/\i<=A2.length/\∀j,j<i->Ul (W.map Ce.c) (A2.map Ce.c) j=none)
    (A2.length-0) _ ⟨0,rfl,rfl,Da,rfl,ω,λj h=>ω⟩ Qs ?_
   rintro q sl h6 ms' ⟨i,rfl,rfl,l6,rfl,hi,hnB⟩;have hQ:=hQ.up l6;refine Aq (Qm Y (Am (Ac ?_)));refine Ao Y (λhlt=>?_) (λhlt=>?_)
   ·have hil:i<A2.length:=ω
    obtain⟨x,hx⟩:∃x,A2[i]=x:=⟨_,Y⟩
    have hxm:x∈A2:=by rw[<-hx];exact ae hil
    have hgx:=hget i hil;rw[hx]at hgx;have hX:=(hsA x hxm).up l6;have oxv:=hX.rd.one;have hcl:i<(A2.map Ce.c).length:=by rw[af];exact hil
    have hsx:∀ms,Seg h6 ms ((AG vA).add (i*3)) (cC x):=λms=>by rw[<-hx];exact(hQ.any (ms:=ms)).seg hil
    have hstep:Ul (W.map Ce.c) (A2.map Ce.c) i=none->∀j,j<i+1->Ul (W.map Ce.c) (A2.map Ce.c) j=none:=λh j hj=>by
     rcases (ω:j<i\/j=i) with h1|rfl
     ·exact hnB j h1
     ·exact h
    refine Ah (Ad (Ac (Ag (Aq (Qx (BN (i) hQ.rd.any Y Bm AI Y Y) Y (Qx (oG Y Ey AI (hsx _)) Y (Cx [.w 0,.w 0,.nl] Y AI Y Y (λg11=>?_))))))));refine Sa 0 [_,_,_] AI Y (by simp[o1,ovA,oxv]) ?_;refine Am (Ax λh7 l7 hS11=>?_);have e110:∀ms,Cell h7 ms (⟨g11,0,none⟩:Addr) (.w x.c.id):=λms=>Seg.all hS11 0 _ Y ms;have e111:∀ms,Cell h7 ms (⟨g11,1,none⟩:Addr) (.w x.c.dim):=λms=>Seg.all hS11 1 _ Y ms;have l67:=AE l6 l7;refine Aq (Qf BZ Y (Ql Y U3 (e111 _) (Qm Y (Am ?_))));refine Ao Y (λhd=>?_) (λhd=>?_)
    ·have hAr:Zf (W.map Ce.c) x.c:=Acq hC1 hC2 hU1 (λa ha s hs=>by
      obtain⟨b,hb,rfl⟩:=ad.1 ha
      exact hK.r b hb s hs) hno' (ad.2 ⟨x,hxm,Y⟩) hd
     refine Aq (Qm Y (Qx (oG Y Ey AI (Seg.any hS11)) Y (Qc call77 Y (UP W x g h7 (hT.up l67) (hX.up l7) hAr) (λrF h8 ms8 l8 hF=>?_))));subst hF;refine E1 ?_ ms8;have e110:∀ms,Cell h8 ms (⟨g11,0,none⟩:Addr) (.w x.c.id):=λms=>(e110 ms).le l8;refine Qm Y (BM (Qm Y (Qm Y (Am ?_))));refine Ao Y (λhne=>?_) (λhne=>?_)
     ·have hch:=AbI (U:=W.map Ce.c) hno' hcl hnB (by unfold Ul;rw[hgx,ac hd,ac hne]);refine Aq (Qf Bq Y (Ql Y U3 (e110 _) (Qm Y (Qm Y (Qm Y (Am (An (Aj (Ae (Ae (Aj (Ae ?_))))))))))));exact BE Y Y Y (⟨_,Y,hres _ hch.symm⟩)
     ·have hci:Ul (W.map Ce.c) (A2.map Ce.c) i=none:=by unfold Ul;rw[hgx,ac hd,aa hne]
      refine Ah (Ai (Ad (Ab (Qx (oA Y) Y (Qm Y (Ak ?_))))));exact Al (A2.length-(i+1)) _ ω ⟨i+1,Y,Y,AE l67 l8,Y,ω,hstep hci⟩ Qs
    ·have hci:Ul (W.map Ce.c) (A2.map Ce.c) i=none:=by unfold Ul;rw[hgx,aa hd]
     refine Ah (Ai (Ad (Ab (Qx (oA Y) Y (Qm Y (Ak ?_))))));exact Al (A2.length-(i+1)) _ ω ⟨i+1,Y,Y,l67,Y,ω,hstep hci⟩ Qs
   ·obtain rfl:i=A2.length:=ω
    have hch:=Wg hno' (λj hj=>hnB j (by rwa [af]at hj));refine Av (Aa (Aa (Af (Ad (Aq (Qm Y (Qm Y (Am (An ?_)))))))));exact BE Y Y Y (⟨(0,0),Y,hres _ hch.symm⟩)
end
section
variable {l:List Ce} {o:List Cl} {x c:Cl}
theorem Xt(U:List Cl)(x:Cl):F4 U x=(J4 U x x.sd.length).map λe=>((BD x e.1.toNat).1,e.2):=by
 have hx:x.sd=(range x.sd.length).map (BD x):=dq σ λj h1 h2=>by simp[By h1]
 unfold F4 Lq
 conv=>lhs;rw[hx]
 unfold J4;rw[List.flatMap_map,List.map_flatMap];refine El λi hi=>?_;unfold VI;rw[fk];exact fc λr _=>by simp
theorem Vu(E:Gy)(f:Int->Int)(c:Int):EF (E.map λe=>(f e.1,e.2)) c=EF E c/\FL (E.map λe=>(f e.1,e.2)) c=FL E c:=by unfold EF FL;rw[fk,fk];exact⟨Y,Y⟩
theorem Z8{U:List Cl}(G:GoodT (F4 U x) x.sd)(hn:0<x.sd.length)(hd:(x.sd.map Prod.fst).Nodup):XV (J4 U x x.sd.length) x.sd.length=0:=by
 have hT:=Xt U x;obtain⟨E,hE⟩:∃E,J4 U x x.sd.length=E:=⟨_,Y⟩
 have hi:∀e∈E,∃i:Nat,i<x.sd.length/\e.1=(i:Int):=λe he=>by rw[<-hE]at he;obtain⟨i,hi,r,_,rfl⟩:=N9 he;exact⟨i,hi,Y⟩
 rw[hE]at hT ⊢;rw[hT]at G;have hsm:=λc=>Vu E (λk=>(BD x k.toNat).1) c
 have h1:∀e∈E,EF E e.2.1=0:=λe he=>by have h:=G.sum ((BD x e.1.toNat).1,e.2) (ad.2 ⟨e,he,Y⟩);rw[(hsm _).1]at h;exact h
 have h2:∀e∈E,FL E e.2.1=2:=λe he=>by have h:=G.two ((BD x e.1.toNat).1,e.2) (ad.2 ⟨e,he,Y⟩);rw[(hsm _).2]at h;exact h
 have hinj:∀i j:Nat,i<x.sd.length->j<x.sd.length->(BD x i).1=(BD x j).1->i=j:=λi j hi hj e=>by
  rcases dy i j with h|h|h
  ·exact jt e (IS hd i j h hj)
  ·exact h
  ·exact jt e.symm (IS hd j i h hi)
 have hcon:∀{u v:Int},Con (E.map λe=>((BD x e.1.toNat).1,e.2)) u v->∀i:Nat,i<x.sd.length->u=(BD x i).1->∃j:Nat,j<x.sd.length/\v=(BD x j).1/\Con E i j:=λ{u v} h=>by
  induction h with
  | refl=>intro i hi e;exact⟨i,hi,e,.refl _⟩
  | @step b d c w w' _ m1 m2 ih=>
   intro i hi0 e;obtain⟨j,hj,e1,C⟩:=ih i hi0 e;obtain⟨p,hp,q1⟩:=ad.1 m1;obtain⟨p',hp',q2⟩:=ad.1 m2;obtain⟨k,hk,ek⟩:=hi p hp;obtain⟨k',hk',ek'⟩:=hi p' hp';rw[ek]at q1;rw[ek']at q2;have a1:=(Prod.mk.injEq _ _ _ _ ▸ q1:_/\_)
   have a2:=(Prod.mk.injEq _ _ _ _ ▸ q2:_/\_)
   obtain⟨b1,b2⟩:=a1;obtain⟨b1',b2'⟩:=a2;rw[de]at b1 b1';have hkj:k=j:=hinj k j hk hj (by rw[b1,e1]);subst hkj;refine⟨k',hk',b1'.symm,.step C (c:=c) (w:=w) (w':=w') ?_ ?_⟩
   ·have:p=((k:Int),c,w):=by rw[<-ek,<-b2]
    rw[<-this];exact hp
   ·have:p'=((k':Int),c,w'):=by rw[<-ek',<-b2']
    rw[<-this];exact hp'
 have h3:0<x.sd.length/\∀i:Nat,i<x.sd.length->Con E 0 i:=by refine⟨hn,λi hi'=>?_⟩;have hc:=G.con (BD x 0) (by rw[By hn];exact ae hn) (BD x i) (by rw[By hi'];exact ae hi');obtain⟨j,hj,e,C⟩:=hcon hc 0 hn Y;rw[hinj i j hi' hj e];exact C
 unfold XV;rw[aa (λw=>w h1),aa (λw=>w h2),aa (λw=>w h3)]
theorem ZX:Yj x x.sd.length=(x.sd.map Prod.snd).sum:=by unfold Yj;rw[ct]
theorem We(R:Rgt o)(hx:x∈o):Ep o x=0:=by
 have hb:∀i,i<x.sd.length->¬Ie o x i:=λi hi q=>by
  obtain⟨y,hy,e1,e2⟩:=R.sid x hx _ (ae hi);unfold Ie at q;rw[By hi,<-e1,DG R.nd hy,De R.nd hy]at q;rcases q with q|q|⟨q1,q2⟩
  ·cases q
  ·exact q e2
  ·rw[e1,<-By hi]at q2;exact IS (R.sds x hx) (i-1) i ω hi q2
 have hs:∀i,i<x.sd.length->¬B0 x i:=λi hi q=>by unfold B0 at q;rw[By hi]at q;have:=R.sgn x hx _ (ae hi);omega
 unfold Ep
 rw[aa (by have:=R.dim x hx;omega),aa (R.num x hx),aa (λw=>w hb),aa (λw=>w hs),aa λq=>by
  have:=R.one x hx q.1;rw[ZX]at q
  exact q.2 this]
theorem Xy(R:RgtF o):MA o o=(0,0):=by
 have G:=R.rgt;refine Wg (λj hj=>?_) λj hj=>?_
 ·unfold cA;rw[Jb hj,aa,aa]
  ·exact λq=>q (We G (ae hj))
  ·unfold Kp;split
   ·have:=G.pos _ (ae hj);omega
   ·rw[Jb ω];have:=ax.1 R.inc (j-1) j ω hj ω;omega
 ·unfold Ul;rw[Jb hj];split
  ·rename_i hd;have hx:=ae hj;have hnum:=G.num _ hx;unfold Cb at hnum;rw[aa];exact λq=>q (Z8 (G.tab _ hx ω) ω (G.sds _ hx))
  ·rfl
structure RgC(l:List Ce):Prop where
 r:Rgt (l.map Ce.c)
 i:∀a∈l,a.c.id<=1000000
def cn(l:List Ce):List Cl:=ordF (l.map Ce.c)
theorem Dg(l:List Ce):(cn l).length=l.length:=by unfold cn;rw[Fh,af]
theorem RgC.F(R:RgC l):RgtF (cn l):=R.r.ordF
theorem CanO.ord{l:List Cl}(C:CanO l o)(R:Rgt l):o=ordF l:=by
 have F:=R.ordF;have hp:=Dy l.length l (au _);obtain⟨l',h1,h2,h3⟩:=C.mem;have hinc:=F.inc
 have hm:(o.map Cl.id)=(ordF l).map Cl.id:=by refine DL id (C.ids.trans ?_) (cm.2 C.inc) (cm.2 hinc);have:=(hp.map Cl.id).symm;rw[fk]at this;exact this
 have hlen:o.length=(ordF l).length:=by have:=aw List.length hm;simpa using this
 refine dq hlen λi h1' h2'=>?_;obtain⟨a1,a2,a3,a4⟩:=h3 i h1' ω
 have e1:o[i].id=(ordF l)[i].id:=by have:=List.getElem_of_eq hm (i:=i) (by simpa using h1');simpa using this
 have hxl:l'[i]'ω∈l:=h1.mem_iff.1 (ae _);obtain⟨z,hz,ez⟩:=HH (ae h2')
 have hzz:z=l'[i]'ω:=by
  have b1:=DG R.nd hz;have b2:=DG R.nd hxl;have:z.id=(l'[i]'ω).id:=by rw[<-a1,e1,ez];rfl
  rw[this,b2]at b1;exact(di b1).symm
 have hs:o[i].sd=(ordF l)[i].sd:=by refine DL Prod.fst (a3.trans ?_) a4 (F.sinc _ (ae h2'));rw[ez,hzz];exact(B7 _).symm
 have hd:o[i].dim=(ordF l)[i].dim:=by rw[a2,ez,hzz];rfl
 revert e1 hs hd;generalize o[i]=x;generalize (ordF l)[i]=y;cases x;cases y;intro e1 hs hd;simp only at e1 hs hd;rw[e1,hs,hd]
theorem RgtF.ordF(R:RgtF o):ordF o=o:=by
 have e1:o.map Cl.can=o:=by
  have:∀l:List Cl,(∀x∈l,x∈o)->l.map Cl.can=l:=λl=>by
   induction l with
   | nil=>intro _;rfl
   | cons a l ih=>
    intro h;have e:Cu a.sd=a.sd:=DL Prod.fst (B7 _) (F1 _) (R.sinc a (h a Mh));rw[fl,ih λx hx=>h x (List.mem_cons_of_mem _ hx)];unfold Cl.can;rw[e]
  exact this o λx hx=>hx
 have h2:=Dy o.length o (au _);rw[e1]at h2;exact DL Cl.id h2 (DS _ _ (au _)) R.inc
theorem Wi(R:RgtF (l.map Ce.c)):cn l=l.map Ce.c:=R.ordF
theorem Xi(h:c∈cn l):∃b∈l,c=b.c.can:=by obtain⟨a,ha,e⟩:=HH h;obtain⟨b,hb,rfl⟩:=ad.1 ha;exact⟨b,hb,e⟩
theorem RgC.ci(R:RgC l)(h:c∈cn l):c.id<=1000000:=by obtain⟨b,hb,rfl⟩:=Xi h;exact R.i b hb
theorem RgC.cI(R:RgC l)(h:c∈cn l):BS c.id:=by have:=R.ci h;have:=R.F.rgt.pos _ h;unfold BS;omega
theorem Rgt.bds{l:List Cl}(R:Rgt l)(hx:x∈l):(0<=x.dim/\x.dim<=8)/\x.sd.length<=64:=by have h1:=R.dim x hx;have h2:=R.num x hx;unfold Cb at h2;omega
theorem RgC.pc(R:RgC l):Ab2 l:=by
 have G:=R.r;have hm:∀a∈l,a.c∈l.map Ce.c:=λa ha=>ad.2 ⟨a,ha,Y⟩;have hid:∀a∈l,BS a.c.id:=λa ha=>by have:=G.pos _ (hm a ha);have:=R.i a ha;unfold BS;omega
 have hn:=G.n;rw[af]at hn;refine⟨⟨ω,λa ha=>?_,hid⟩,λa ha=>?_,λa ha s hs=>?_⟩
 ·have:=(G.bds (hm a ha)).2;omega
 ·have:=(G.bds (hm a ha)).1;unfold BS;omega
 ·obtain⟨y,hy,e,_⟩:=G.sid _ (hm a ha) s hs;obtain⟨b,hb,rfl⟩:=ad.1 hy;have h2:=G.sgn _ (hm a ha) s hs;rw[<-e];exact⟨hid b hb,by unfold BS;omega⟩
theorem Aay{A:List Ce}(h:A.map Ce.c=o)(hn:(o.map Cl.id).Nodup):(A.map λa=>a.c.id).Nodup:=by rw[<-h,fk]at hn;exact hn
theorem Nq(l:List Ce)(v:Value)(hp:Hp)(hK:RgC l)(hR:RdC hp v l):FnT Tryz.prog 28 #[.agg #[v]] hp [] (λr _ _=>r=.tuple #[.int .i64 0,.int .i64 0]):=by
 refine(Vg l v hp hK.pc hR).mono λr _ _ h=>?_;obtain⟨e,rfl,h⟩:=h;have hn:=hK.r.n;rw[af]at hn;have hF:=hK.F;rcases h with ⟨h,_⟩|⟨_,A1,A2,C1,C2,rfl⟩
 ·omega
 ·have e1:=C1.ord hK.r;have e2:=C2.ord hK.r;rw[WX (Aay e1 hF.rgt.nd),e1,e2];have:=Xy hF;unfold cn at this;rw[this]
theorem HY(l:List Ce)(v:Value)(hp:Hp)(hK:RgC l)(hR:RdC hp v l):FnT Tryz.prog 65 #[.agg #[v]] hp [] (λr h' ms'=>hp.le h'/\∃m A v',ms'=[m]/\r=.agg #[v']/\OwnL cC 3 52 m v' A/\A.map Ce.c=cn l/\∀a∈A,RdL cD 2 h' [] a.v a.c.sd):=by refine(JT l v hp hK.pc.n hK.pc.s hR).mono λr h' ms' h=>?_;obtain⟨h1,m,A,v',h2,h3,h4,h5,h6⟩:=h;exact⟨h1,m,A,v',h2,h3,h4,h5.ord hK.r,h6⟩
theorem Ou(l:List Ce)(v:Value)(hp:Hp)(hK:RgC l)(hR:RdC hp v l):FnT Tryz.prog 64 #[.agg #[v]] hp [] (λr h' ms'=>hp.le h'/\ms'=[]/\∃g A,r=.pointer (some ⟨g,0,none⟩)/\A.map Ce.c=cn l/\RdT h' g A):=by refine(Aap l v hp hK.pc.toOfOk hR).mono λr h' ms' h=>?_;obtain⟨h1,h2,g,A,h3,h4,h5⟩:=h;have e:A.map Ce.c=cn l:=h4.ord hK.r;rw[WX (Aay e hK.F.rgt.nd)]at h5;exact⟨h1,h2,g,A,h3,e,h5⟩
theorem Ws(l:List Ce)(v:Value)(i:Int)(hp:Hp)(hK:RgC l)(hi:BS i)(hR:RdC hp v l):FnT Tryz.prog 21 #[.agg #[v],.int .i64 i] hp [] (λr h' ms'=>hp.le h'/\∃y,r=.tuple #[vC y,.bool (MR (cn l) i).isSome]/\y.c=GJ (cn l) i/\RdL cD 2 h' [] y.v y.c.sd):=by
 have o1:=hR.q.rd.one;refine Au func21 ntmps21 Y Y (λw0 hw0=>?_);simp only[A6];refine Aq (AP [_] Y Y (by rfl) Y Y Y (λg2=>Cx [.w 0,.w 0,.nl] Y AI Y Y (λg4=>Qm Y (Am (Bj 1 Y λh1 l1 hS=>?_)))));have hR:=hR.up l1;refine Aq (Qx (oG Y CS A8 (Seg.any hS)) Y (Qc call64 Y (Ou l v h1 hK hR) (λrT h2 ms2 l2 hF=>?_)));obtain⟨l2',rfl,g,A,rfl,hA,gm,mMt,bst,vids,hSg,hMt,lmt,hVt,hsU⟩:=hF;have eT:∀ms,Cell h2 ms (⟨g,0,none⟩:Addr) (.map (some gm)):=λms=>Seg.all hSg 0 _ Y ms;obtain⟨y,hy⟩:∃y,(Bz (F3 A) i).getD default=y:=⟨_,Y⟩
 obtain⟨bb,hbb⟩:∃bb,(Bz (F3 A) i).isSome=bb:=⟨_,Y⟩
 have hyR:=Rn hsU i;rw[hy]at hyR;have hbb':(MR (cn l) i).isSome=bb:=by rw[<-hA,<-Pt];exact hbb
 have hyc:y.c=GJ (cn l) i:=by rw[<-hA,<-Jw,hy]
 have oy:=hyR.rd.one;refine Qm Y (Qf FC Y (Ql Y Hf (eT _) (Qm Y (Qx (Fz (V:=vC) (z:=(default:Ce)) i hy hbb BA hMt lmt Y Hf LZ Y Y hi) Y (Qm Y (Qm Y (Qm Y (Cx [.w 0,.w 0,.nl] Y AI Y Y (λg6=>?_)))))))));refine Sa 0 [_,_,_] AI Y (by simp[o1,oy]) ?_;refine Qm Y (BM (Qx (oG Y Ey AI (Seg.blk 0 Y)) Y (Qm Y ?_)));refine Sa 1 [_,_,_] AI Y (by simp[o1,oy]) ?_;refine Qm Y (Am (An ?_));exact Ed (vs:=[_,_,_]) 1 Y Y Y Ey Y AI Y Y (⟨AE l1 l2,y,by rw[hbb'];rfl,hyc,hyR⟩)
end
section
def cV(p:Int×Int):List Value:=[.int .i64 p.1,.int .i64 p.2]
theorem Og:∀p,(cV p).length=2:=λ_=>rfl
theorem Abb:∀a,∀c∈cV a,c.oneCell'=true:=λa c hc=>by simp only[cV,aq,iz,jf]at hc;rcases hc with rfl|rfl<;>rfl
def Bn(F:List (Int×Int)):List (Int×Int):=F.foldl (λT p=>Dq T p.1 p.2) []
theorem J0(F:List (Int×Int))(p:Int×Int):Bn (F++[p])=Dq (Bn F) p.1 p.2:=by unfold Bn;rw[List.foldl_append];rfl
def He(F:List (Int×Int))(c:Int):Int:=(Bz (Bn F) c).getD 0
theorem MY(c:Int):∀F:List (Int×Int),c∈(Bn F).map Prod.fst<->c∈F.map Prod.fst:=DP (by simp[Bn]) λF p ih=>by rw[J0,Fj,ih,bm,bf];simp only[fl,List.map_nil,ao];exact⟨λq=>q.symm,λq=>q.symm⟩
theorem P8{c x:Int}:∀{F:List (Int×Int)},(F.map Prod.fst).Nodup->(c,x)∈F->He F c=x:=λ{F}=>by
 revert F
 have:∀F:List (Int×Int),(F.map Prod.fst).Nodup->(c,x)∈F->He F c=x:=DP (λ_ h=>nomatch h) λF p ih hn hm=>by
  rw[bm,jh]at hn;unfold He;rw[J0,Di];rcases bf.1 hm with hm|hm
  ·have hne:c≠p.1:=λe=>hn.2.2 c (ad.2 ⟨_,hm,Y⟩) p.1 σ e;rw[aa hne];exact ih hn.1 hm
  ·rw[<-ao.1 hm,ac rfl];rfl
 exact λ{F}=>this F
theorem HP(F:List (Int×Int))(v:Value)(h:Hp)(hR:RdL cV 2 h [] v F)(hn:F.length<=1000000)(hk:∀p∈F,BS p.1):FnT Tryz.prog 66 #[v] h [] (λr h' ms'=>h.le h'/\∃g m bs,r=.map (some g)/\ms'=[m]/\C4 kN kN g BS m (Bn F) bs):=by
 have o1:=hR.rd.one;refine Au func66 ntmps66 Y Y (λw0 hw0=>?_);simp only[A6];refine Aq (Qm Y (BM (Dh (K:=kN) (V:=kN) (Ok:=BS) Y Y Y Y (λgA mA hA0=>Qm Y (Am (Ac (Aq (Qm Y (Qx (As hR.rd.any Y OU Y) Y (Qm Y (Am (Ag ?_))))))))))))
 refine Ay (λq sl h' ms'=>∃(i:Nat) (mA:Hp) (bs:List Nat),q=F.length-i/\sl=[(3,.map (some gA)),(7,v),(8,.w F.length),(9,.w i)]/\h.le h'/\ms'=[mA]/\i<=F.length/\C4 kN kN gA BS mA (Bn (F.take i)) bs)
  (F.length-0) _ ⟨0,mA,[],rfl,rfl,Da,rfl,ω,hA0⟩ Qs ?_
 rintro q sl h2 ms' ⟨i,mA,bs,rfl,rfl,l2,rfl,hi,hO⟩;have hR:=hR.up l2;refine Aq (Qm Y (Am (Ac ?_)));refine Ao Y (λhlt=>?_) (λhlt=>?_)
 ·have hil:i<F.length:=ω
  obtain⟨p,hp⟩:∃p,F[i]=p:=⟨_,Y⟩
  have hpI:BS p.1:=hk p (by rw[<-hp];exact ae hil);have hsx:∀ms,Seg h2 ms ((AG v).add (i*2)) (cV p):=λms=>by rw[<-hp];exact(hR.any (ms:=ms)).seg hil
  have hs:=J0 (F.take i) p;rw[<-hp,<-ak hil,hp]at hs;refine Ah (Ad (Ac (Ag (Aq (Qx (BN (i) hR.rd.any Y OU Fv Y Y) Y (Qx (oG Y U47 Fv (hsx _)) Y (Cx [.w 0,.w 0] Y Fv Y Y (λg5=>?_))))))));refine Sa 0 [_,_] Fv Y (by simp[Value.oneCell']) ?_;refine Am (Ax λh3 l3 hS5=>?_);have e0:∀ms,Cell h3 ms (⟨g5,0,none⟩:Addr) (.w p.1):=λms=>Seg.all hS5 0 _ Y ms;have e1:∀ms,Cell h3 ms (⟨g5,1,none⟩:Addr) (.w p.2):=λms=>Seg.all hS5 1 _ Y ms;refine Ab (Qm Y (Qf FW Y (Ql Y U3 (e0 _) (Qf Rz Y (Ql Y U3 (e1 _) (B4 (V:=kN) (z:=undef) 0 p.1 p.2 BA hO Y Y Mu Y Y Y hpI Y Y (λmA' bs' hO'=>?_)))))));rw[<-hs]at hO';refine Ak (Ai (Ad (Ab (Qx (oA Y) Y (Qm Y (Ak ?_))))));exact Al (F.length-(i+1)) _ ω ⟨i+1,mA',bs',Y,Y,AE l2 l3,Y,ω,hO'⟩ Qs
 ·obtain rfl:i=F.length:=ω
  rw[ct]at hO;refine Av (Aa (Aa (Af (Ad (Aq (Qm Y (Qm Y (Am (An ?_)))))))));exact Ap Y Y (⟨l2,gA,mA,bs,Y,Y,hO⟩)
def Ob(l:List (Int×Int))(pr:Int×Int->Bool):Int:=match l.findIdx? pr with|some k=>(k:Int)|none=>-1
theorem TR{l:List (Int×Int)}{pr:Int×Int->Bool}{k:Nat}(hk:k<l.length)(h:pr l[k]=true)(hno:∀j (hj:j<l.length),j<k->pr l[j]=false):Ob l pr=k:=by unfold Ob;have:l.findIdx? pr=some k:=ia.2 ⟨hk,h,λj hj=>by rw[hno j ω hj];simp⟩;rw[this]
theorem TX{l:List (Int×Int)}{pr:Int×Int->Bool}(hno:∀j (hj:j<l.length),pr l[j]=false):Ob l pr=-1:=by
 unfold Ob
 have:l.findIdx? pr=none:=iu.2 λx hx=>by obtain⟨j,hj,rfl⟩:=df hx;exact hno j hj
 rw[this]
theorem Xo(l:List (Int×Int))(pr:Int×Int->Bool):0<=Ob l pr<->∃s∈l,pr s=true:=by
 unfold Ob;cases h:l.findIdx? pr with
 | none=>
  rw[iu]at h;constructor
  ·intro q;exact jt q δ
  ·rintro⟨s,hs,q⟩;rw[h s hs]at q;cases q
 | some k=>
  obtain⟨hk,h1,_⟩:=ia.1 h;exact⟨λ_=>⟨_,ae hk,h1⟩,λ_=>by show(0:Int)<=(k:Int);omega⟩
theorem Ue(l:List (Int×Int))(vl:Value)(cf:FuncId)(cs:List Value)(pr:Int×Int->Bool)(h:Hp)(hR:RdL cD 2 h [] vl l)(hn:l.length<=1000000)
  (hc:∀xs w,(callFunc cf xs).run Tryz.prog w=.ok (.enter cf xs) w)
  (hp:∀s∈l,∀ms,FnV Tryz.prog cf ([]++[Value.agg (cD s).toArray]++cs).toArray h ms (.bool (pr s))) :
  FnT Tryz.prog 138 #[vl,.func (.func cf) #[] cs.toArray] h [] (λr _ _=>r=.w (Ob l pr)):=by
 have o1:=hR.rd.one;refine Au func138 ntmps138 Y Y (λw0 hw0=>?_);simp only[A6];refine Aq (Qm Y (Am (Ac (Aq (Qm Y (Qx (As hR.rd.any Y Cf Y) Y (Qm Y (Am (Ag ?_)))))))))
 refine Ay (λq s h' ms'=>∃(k:Nat),q=l.length-k/\s=[(0,vl),(1,.func (.func cf) #[] cs.toArray),(7,.w l.length),(8,.w k)]/\h=h'/\ms'=[]/\k<=l.length/\∀j (hj:j<l.length),j<k->pr l[j]=false)
  (l.length-0) _ ⟨0,rfl,rfl,rfl,rfl,ω,λj _ hj=>ω⟩ Qs ?_
 rintro q s h' ms' ⟨k,rfl,rfl,rfl,rfl,hk,hno⟩;refine Aq (Qm Y (Am (Ac ?_)));refine Ao Y (λhlt=>?_) (λhlt=>?_)
 ·have hkn:k<l.length:=ω
  have hsx:∀ms,Seg h ms ((AG vl).add (k*2)) (cD l[k]):=λms=>(hR.any (ms:=ms)).seg hkn;refine Ah (Ad (Ac (Ag (Aq (Qm Y (Qm Y (BM (Qm Y (Qm Y (Qm Y (Qx (BN (k) hR.rd.any Y Cf AS Y Y) Y (Qx (oG Y Eh AS (hsx _)) Y (Qx (CE Y Y hc Y (hp _ (ae hkn) _)) Y (Am ?_))))))))))))));refine BG Y (λhpk=>?_) (λhpk=>?_)
  ·refine Ac (Ab (Qm Y (Qm Y (Am (An (Aj (Ae (Ae (Aj (Ae ?_))))))))));exact Ap Y Y (by rw[TR hkn hpk hno])
  ·refine Ah (Ai (Ad (Ab (Qx (oA Y) Y (Qm Y (Ak ?_))))));refine Al (l.length-(k+1)) _ ω ⟨k+1,Y,Y,Y,Y,ω,λj hj hjk=>?_⟩ Qs;rcases (ω:j<k\/j=k) with h2|rfl
   ·exact hno j hj h2
   ·exact hpk
 ·obtain rfl:k=l.length:=ω
  refine Av (Aa (Aa (Af (Ad (Aq (Qm Y (Am (An ?_))))))));exact Ap Y Y (by rw[TX λj hj=>hno j hj hj])
theorem Nt(l:List (Int×Int))(vl:Value)(cf:FuncId)(cs:List Value)(pr:Int×Int->Bool)(h:Hp)(hR:RdL cD 2 h [] vl l)(hn:l.length<=1000000)
  (hc:∀xs w,(callFunc cf xs).run Tryz.prog w=.ok (.enter cf xs) w)
  (hp:∀s∈l,∀ms,FnV Tryz.prog cf ([]++[Value.agg (cD s).toArray]++cs).toArray h ms (.bool (pr s))) (ms:List Hp) :
  FnV Tryz.prog 67 #[vl,.func (.func cf) #[] cs.toArray] h ms (.bool (decide (0<=Ob l pr))):=by
 refine DW ?_ ms;refine Au func67 ntmps67 Y Y (λw0 hw0=>?_);simp only[A6];refine Aq (Qm Y (BM (Qm Y (Qm Y (Qx (AH Y call138 Y (DW (Ue l vl cf cs pr h hR hn hc hp) _)) Y (Qm Y (Qm Y (Am (An ?_)))))))));exact Ap Y Y (Y)
theorem W4(F:List (Int×Int))(s:Int×Int)(i:Int)(g1 g2 gA:Nat)(mA:Hp)(bs:List Nat)(h:Hp)(hO:C4 kN kN gA BS mA (Bn F) bs)(lA:mA.le h)(h1:∀ms,Cell h ms (⟨g1,0,none⟩:Addr) (.map (some gA)))(h2:∀ms,Cell h ms (⟨g2,0,none⟩:Addr) (.int .i64 i))(hi:BS i)(hs:BS s.1)(ms:List Hp) :
  FnV Tryz.prog 68 ([]++[Value.agg (cD s).toArray]++[Value.pt g1,.pt g2]).toArray h ms (.bool (decide (He F s.1>He F i))):=by
 refine DW ?_ ms;show FnT _ _ #[.agg #[.w s.1,.w s.2],.pt g1,.pt g2] _ _ _;refine Au func68 ntmps68 Y Y (λw0 hw0=>?_);simp only[A6];refine Aq (AP [_,_] Y Y (by rfl) Y Y Y (λg3=>Qm Y (Am (Ax λh3 l3 hS=>?_))));have e0:∀ms,Cell h3 ms (⟨g3,0,none⟩:Addr) (.w s.1):=λms=>Seg.all hS 0 _ Y ms;have h1:∀ms,Cell h3 ms (⟨g1,0,none⟩:Addr) (.map (some gA)):=λms=>(h1 ms).le l3;have h2:∀ms,Cell h3 ms (⟨g2,0,none⟩:Addr) (.w i):=λms=>(h2 ms).le l3;refine Aq (Ql Y Mu (h1 _) (Qf Cm Y (Ql Y U3 (e0 _) (Qx (Cy (V:=kN) (z:=(0:Int)) (u:=He F s.1) s.1 Y BA hO (AE lA l3) Y Mu Ij Y Y hs) Y (Ql Y Mu (h1 _) (Qf Bq Y (Ql Y U3 (h2 _) (Qx (Cy (V:=kN) (z:=(0:Int)) (u:=He F i) i Y BA hO (AE lA l3) Y Mu Ij Y Y hi) Y (Qm Y (Qm Y (Am (An ?_))))))))))));exact Ap Y Y (Y)
variable {o:List Cl} {F:List (Int×Int)} {i:Nat} {e:Int×Int}
def fA(o:List Cl)(F:List (Int×Int))(i:Nat):Option (Int×Int):=
 if(MR o (F.getD i (0,0)).1).isSome=false then some ((F.getD i (0,0)).1,30)
 else if(F.getD i (0,0)).1∈(F.take i).map Prod.fst then some ((F.getD i (0,0)).1,54) else none
def fB(o:List Cl)(F:List (Int×Int))(i:Nat):Option (Int×Int):=
 if(o.getD i default).id ∉ F.map Prod.fst then some ((o.getD i default).id,30) else none
def upS(o:List Cl)(F:List (Int×Int))(i:Nat):Prop:=∃s∈(o.getD i default).sd,He F s.1>He F (o.getD i default).id
instance (o:List Cl) (F:List (Int×Int)) (i:Nat):Decidable (upS o F i):=by unfold upS;infer_instance
def fC(o:List Cl)(F:List (Int×Int))(i:Nat):Option (Int×Int):=
 if upS o F i then some ((o.getD i default).id,44) else none
def DN(o:List Cl)(F:List (Int×Int)):Int×Int:=
 match (range F.length).findSome? (fA o F) with
 | some e=>e
 | none=>match (range o.length).findSome? (fB o F) with
  | some e=>e
  | none=>match (range o.length).findSome? (fC o F) with
   | some e=>e
   | none=>(0,0)
theorem NR(hi:i<F.length)(h:∀j,j<i->fA o F j=none)(he:fA o F i=some e):DN o F=e:=by unfold DN;rw[DU h he F.length hi]
theorem XA(hA:∀j,j<F.length->fA o F j=none)(hi:i<o.length)(h:∀j,j<i->fB o F j=none)(he:fB o F i=some e):DN o F=e:=by unfold DN;rw[CH F.length hA,DU h he o.length hi]
theorem Wq(hA:∀j,j<F.length->fA o F j=none)(hB:∀j,j<o.length->fB o F j=none)(hi:i<o.length)(h:∀j,j<i->fC o F j=none)(he:fC o F i=some e):DN o F=e:=by unfold DN;rw[CH F.length hA,CH o.length hB,DU h he o.length hi]
theorem R5(hA:∀j,j<F.length->fA o F j=none)(hB:∀j,j<o.length->fB o F j=none)(hC:∀j,j<o.length->fC o F j=none):DN o F=(0,0):=by unfold DN;rw[CH F.length hA,CH o.length hB,CH o.length hC]
structure Ir(F:List (Int×Int)):Prop where
 n:F.length<=1000000
 k:∀p∈F,BS p.1
theorem FF(l:List Ce)(F:List (Int×Int))(v vf:Value)(hp:Hp)(hK:RgC l)(hR:RdC hp v l)(hF:RdL cV 2 hp [] vf F)(hV:Ir F):FnT Tryz.prog 24 #[.agg #[v],vf] hp [] (λr _ _=>r=.tuple #[.int .i64 (DN (cn l) F).1,.int .i64 (DN (cn l) F).2]):=by
 have o1:=hR.q.rd.one;have o2:=hF.rd.one;have hG:=hK.F.rgt;have hFn:=hV.n;have hln:l.length<=4000:=by have:=hG.n;rwa [Dg]at this
 refine Au func24 ntmps24 Y Y (λw0 hw0=>?_);simp only[A6];refine Aq (AP [_] Y Y (by rfl) Y Y Y (λg2=>Qm Y (Qm Y (Am (Ax λh1 l1 hS=>?_)))));have hR:=hR.up l1;have hF:=hF.up l1;refine Ac (Aq (Qx (oG Y CS A8 (Seg.any hS)) Y (Qx (AH Y call28 Y (DW (Nq l v h1 hK hR) _)) Y (Qm Y (Qm Y (Qm Y (Qm Y (Qm Y (BM (Qm Y (Qm Y (Am (Ao Y (λhc=>jt hc (λh=>h Y)) (λhc=>Ah (Ad (Aq (Dh (K:=kN) (V:=vB) (Ok:=BS) Y Y Y Y (λgS mS hS0=>Qm Y (Am ?_)))))))))))))))))));refine Bg (λsl h' ms'=>∃(mS:Hp) (TS:List (Int×Bool)) (bs:List Nat),sl=[(1,vf),(2,.pt g2),(8,.map (some gS))]/\h1.le h'/\ms'=[mS]/\C4 kN vB gS BS mS TS bs/\NB TS/\(∀x,x∈GH TS<->x∈F.map Prod.fst)/\∀j,j<F.length->fA (cn l) F j=none) ?_ (λs h ms hI=>?_)
 ·refine Ac (Ab (Qm Y (Qx (As hF.rd.any Y OU Y) Y (Qm Y (Am (Ag ?_))))))
  refine Ay (λq sl h' ms'=>∃(i:Nat) (mS:Hp) (TS:List (Int×Bool)) (bs:List Nat),q=F.length-i/\sl=[(1,vf),(2,.pt g2),(8,.map (some gS)),(29,vf),(30,.w F.length),(31,.w i)]/\h1.le h'/\ms'=[mS]/\i<=F.length/\C4 kN vB gS BS mS TS bs/\NB TS/\(∀x,x∈GH TS<->x∈(F.take i).map Prod.fst)/\∀j,j<i->fA (cn l) F j=none)
   (F.length-0) _ ⟨0,mS,[],[],rfl,rfl,Da,rfl,ω,hS0,λp hp=>(nomatch hp),λx=>by simp,λj h=>ω⟩ Qs ?_
  rintro q sl h2 ms' ⟨i,mS,TS,bs,rfl,rfl,l2,rfl,hi,hO,hA,hk,hno⟩;have hF:=hF.up l2;refine Aq (Qm Y (Am (Ac ?_)));refine Ao Y (λhlt=>?_) (λhlt=>?_)
  ·have hil:i<F.length:=ω
   obtain⟨p,hp⟩:∃p,F[i]=p:=⟨_,Y⟩
   have hgp:F.getD i (0,0)=p:=by simp[List.getD,hil,hp]
   have hpI:BS p.1:=hV.k p (by rw[<-hp];exact ae hil);have hsx:∀ms,Seg h2 ms ((AG vf).add (i*2)) (cV p):=λms=>by rw[<-hp];exact(hF.any (ms:=ms)).seg hil
   have hS2:=hS.le l2;refine Ah (Ad (Ac (Ag (Aq (Qx (BN (i) hF.rd.any Y OU Fv Y Y) Y (Qx (oG Y U47 Fv (hsx _)) Y (Cx [.w 0,.w 0] Y Fv Y Y (λg10=>?_))))))));refine Sa 0 [_,_] Fv Y (by simp[Value.oneCell']) ?_;refine Am (Ax λh3 l3 hS10=>?_);have e0:∀ms,Cell h3 ms (⟨g10,0,none⟩:Addr) (.w p.1):=λms=>Seg.all hS10 0 _ Y ms;have hS3:=hS2.le l3;have l13:=AE l2 l3;refine Ac (Aq (Qx (oG Y CS A8 (Seg.any hS3)) Y (Qf FW Y (Ql Y U3 (e0 _) (Qc call21 Y (Ws l v p.1 h3 hK hpI (hR.up l13)) (λrF h4 ms4 l4 hQ=>?_))))));obtain⟨l4',y,rfl,hyc,hyR⟩:=hQ;refine E1 ?_ ms4;have oy:=hyR.rd.one;have e0:∀ms,Cell h4 ms (⟨g10,0,none⟩:Addr) (.w p.1):=λms=>(e0 ms).le l4;have l14:=AE l13 l4;obtain⟨bb,hbb⟩:∃bb,(MR (cn l) p.1).isSome=bb:=⟨_,Y⟩
   rw[hbb];refine Qm Y (Qm Y (Qm Y (Cx [.w 0,.w 0,.nl] Y AI Y Y (λg11=>?_))));refine Sa 0 [_,_,_] AI Y (by simp[o1,o2,oy]) ?_;refine Qm Y (BM (Qm Y (Qm Y (Am ?_))));refine BG Y (λhn=>?_) (λhn=>?_)
   ·have hbf:bb=false:=by cases bb<;>simp at hn ⊢
    have hch:=NR (o:=cn l) hil hno (by unfold fA;rw[hgp,hbb,ac hbf]);refine Aq (Qf FW Y (Ql Y U3 (e0 _) (Qm Y (Qm Y (Am (An (Ae (Aj (Ae (Ae (Aj (Ae ?_))))))))))));exact BE Y Y Y (by rw[hch])
   ·have hbt:¬bb=false:=by cases bb<;>simp at hn ⊢
    refine Ah (Ad (Ac (Aq (Qm Y (Qf FW Y (Ql Y U3 (e0 _) (Qx (FJ (V:=vB) (z:=false) p.1 BA hO σ rfl Vl Qz rfl rfl hpI) rfl ?_)))))));rw[Hs hA];refine Am ?_;refine BG Y (λhin=>?_) (λhin=>?_)
    ·have him:p.1∈GH TS:=bz hin;have hch:=NR (o:=cn l) hil hno (by unfold fA;rw[hgp,hbb,aa hbt,ac ((hk _).1 him)]);refine Aq (Qf FW Y (Ql Y U3 (e0 _) (Qm Y (Qm Y (Am (An (Ae (Aj (Ae (Ae (Aj (Ae ?_))))))))))));exact BE Y Y Y (by rw[hch])
    ·have him:p.1 ∉ GH TS:=λq=>by rw[ai q]at hin;cases hin
     have hci:fA (cn l) F i=none:=by unfold fA;rw[hgp,hbb,aa hbt,aa λq=>him ((hk _).2 q)]
     have hk':∀x,x∈GH (Dq TS p.1 true)<->x∈(F.take (i+1)).map Prod.fst:=λx=>by rw[ak hil,hp,bm,bf,fl,List.map_nil,ao,<-hk x,Fj];exact⟨λq=>q.symm,λq=>q.symm⟩
     refine Ah (Ad (Ab (Qm Y (Qf FW Y (Ql Y U3 (e0 _) (B4 (V:=vB) (z:=undef) 1 p.1 true BA hO Y Y Vl Y Y Y hpI Y Y (λmS' bs' hO'=>Ak (Ai (Ad (Ab (Qx (oA Y) Y (Qm Y (Ak (AX ?_))))))))))))))
     exact Al (F.length-(i+1)) _ ω ⟨i+1,mS',_,bs',Y,Y,AE l13 l4,Y,ω,hO',L5 hA p.1,hk',λj hj=>by
      rcases (ω:j<i\/j=i) with h1|rfl
      ·exact hno j h1
      ·exact hci⟩ Qs
  ·obtain rfl:i=F.length:=ω
   rw[ct]at hk;refine Av (Aa (Aa (Af ?_)));exact Az _ ⟨mS,TS,bs,Y,l2,Y,hO,hA,hk,hno⟩ Qs
 ·obtain⟨mS,TS,bs,rfl,l2,rfl,hO,hA,hk,hno⟩:=hI;have hR:=hR.up l2;have hF:=hF.up l2;have hS2:=hS.le l2;refine Aq (Qx (oG Y CS A8 (Seg.any hS2)) Y (Qc call65 Y (HY l v _ hK hR) (λrC h3 ms3 l3 hQ=>?_)));obtain⟨l3',mA,A,vA,rfl,rfl,hOA,hAl,hsA⟩:=hQ;refine Ba hOA λhq l4 hQ=>?_;have hsA:=λa ha=>(hsA a ha).up l4;have hF:=hF.up (AE l3 l4);have ovA:=hQ.rd.one;have hol:(cn l).length=A.length:=by rw[<-hAl,af]
  have hAn:A.length<=4000:=by rw[<-hol,Dg];exact hln
  have hget:∀i (hi:i<A.length),(cn l).getD i default=A[i].c:=λi hi=>by rw[<-hAl];simp[List.getD,hi]
  have hpos:=hG.pos;obtain⟨o,ho⟩:∃o,cn l=o:=⟨_,Y⟩
  have hAI:∀a∈A,BS a.c.id:=λa ha=>by
   have h1:a.c∈cn l:=by rw[<-hAl];exact ad.2 ⟨a,ha,Y⟩
   have h2:=hpos _ h1;have h3:=hK.ci h1;unfold BS;omega
  have hAs:∀a∈A,a.c.sd.length<=64/\∀s∈a.c.sd,BS s.1:=λa ha=>by
   have h1:a.c∈cn l:=by rw[<-hAl];exact ad.2 ⟨a,ha,Y⟩
   refine⟨(hK.F.bds h1).2.1,λs hs=>?_⟩;obtain⟨y,hy,e,_⟩:=hG.sid _ h1 s hs;have h2:=hpos _ hy;have h3:=hK.ci hy;rw[<-e];unfold BS;omega
  rw[ho]at hol hno hget ⊢;refine Qx (Er Y CS Y Bm Y Y Y) Y (Qm Y (Am ?_));refine Bg (λsl h' ms'=>∃(mS:Hp),sl=[(1,vf),(13,vA)]/\hq.le h'/\ms'=[mS]/\∀j,j<A.length->fB o F j=none) ?_ (λs h ms hI=>?_)
  ·refine Ac (Ab (Qm Y (Qx (As hQ.rd.any Y Bm Y) Y (Qm Y (Am (Ag ?_))))))
   refine Ay (λq sl h' ms'=>∃(i:Nat),q=A.length-i/\sl=[(1,vf),(8,.map (some gS)),(13,vA),(59,vA),(60,.w A.length),(61,.w i)]/\hq.le h'/\ms'=[mS]/\i<=A.length/\∀j,j<i->fB o F j=none)
    (A.length-0) _ ⟨0,rfl,rfl,Da,rfl,ω,λj h=>ω⟩ Qs ?_
   rintro q sl h5 ms' ⟨i,rfl,rfl,l5,rfl,hi,hnB⟩;have hQ:=hQ.up l5;refine Aq (Qm Y (Am (Ac ?_)));refine Ao Y (λhlt=>?_) (λhlt=>?_)
   ·have hil:i<A.length:=ω
    obtain⟨x,hx⟩:∃x,A[i]=x:=⟨_,Y⟩
    have hxm:x∈A:=by rw[<-hx];exact ae hil
    have hgx:=hget i hil;rw[hx]at hgx;have hX:=(hsA x hxm).up l5;have oxv:=hX.rd.one;have hxI:=hAI x hxm;have hsx:∀ms,Seg h5 ms ((AG vA).add (i*3)) (cC x):=λms=>by rw[<-hx];exact(hQ.any (ms:=ms)).seg hil
    refine Ah (Ad (Ac (Ag (Aq (Qx (BN (i) hQ.rd.any Y Bm AI Y Y) Y (Qx (oG Y Ey AI (hsx _)) Y (Cx [.w 0,.w 0,.nl] Y AI Y Y (λg15=>?_))))))));refine Sa 0 [_,_,_] AI Y (by simp[o1,o2,ovA,oxv]) ?_;refine Am (Ax λh6 l6 hS8=>?_);have e80:∀ms,Cell h6 ms (⟨g15,0,none⟩:Addr) (.w x.c.id):=λms=>Seg.all hS8 0 _ Y ms;refine Aq (Qm Y (Qf Bq Y (Ql Y U3 (e80 _) (Qx (FJ (V:=vB) (z:=false) x.c.id BA hO σ rfl Vl Qz rfl rfl hxI) rfl ?_))));rw[Hs hA];refine Qm Y (Am ?_);refine BG Y (λhin=>?_) (λhin=>?_)
    ·have hni:x.c.id ∉ F.map Prod.fst:=λq=>by rw[ai ((hk _).2 q)]at hin;cases hin
     have hch:=XA (o:=o) (F:=F) hno (by rw[hol];exact hil) hnB (by unfold fB;rw[hgx,ac hni]);refine Aq (Qf Bq Y (Ql Y U3 (e80 _) (Qm Y (Qm Y (Am (An (Aj (Ae (Ae (Aj (Ae ?_)))))))))));exact BE Y Y Y (by rw[hch])
    ·have hni:x.c.id∈F.map Prod.fst:=bc λq=>by rw[aj λw=>q ((hk _).1 w)]at hin;cases hin
     have hci:fB o F i=none:=by unfold fB;rw[hgx,aa λq=>q hni]
     refine Ah (Ai (Ad (Ab (Qx (oA Y) Y (Qm Y (Ak ?_))))))
     exact Al (A.length-(i+1)) _ ω ⟨i+1,Y,Y,AE l5 l6,Y,ω,λj hj=>by
      rcases (ω:j<i\/j=i) with h1|rfl
      ·exact hnB j h1
      ·exact hci⟩ Qs
   ·obtain rfl:i=A.length:=ω
    refine Av (Aa (Aa (Af ?_)));exact Az _ ⟨mS,Y,l5,Y,hnB⟩ Qs
  ·obtain⟨mS,rfl,l5,rfl,hnB⟩:=hI;have hQ:=hQ.up l5;have hF:=hF.up l5;have hsA:=λa ha=>(hsA a ha).up l5;refine Aq (Qm Y (Qc call66 Y (HP F vf _ hF hV.n hV.k) (λrL h6 ms6 l6 hL=>?_)));obtain⟨l6',gL,mL,bL,rfl,rfl,hOL⟩:=hL;refine Cx [.map none] Y Yr Y Y (λg16=>AO 0 0 Y Yr Y Y (by rfl) Y Y δ Y Y (Am (Ax λh7 l7 hS7=>(Bx λh8 l8 k8=>?_))));have e16:∀ms,Cell h8 ms (⟨g16,0,none⟩:Addr) (.map (some gL)):=λms=>(Seg.all hS7 0 _ Y ms).le l8;have l58:=AE l6 (AE l7 l8);have hQ:=hQ.up l58;have hsA:=λa ha=>(hsA a ha).up l58;refine Ac (Aq (Qm Y (Qx (As hQ.rd.any Y Bm Y) Y (Qm Y (Am (Ag ?_))))))
   refine Ay (λq sl h' ms'=>∃(i:Nat),q=A.length-i/\sl=[(16,.pt g16),(75,vA),(76,.w A.length),(77,.w i)]/\h8.le h'/\ms'=[mS]/\i<=A.length/\∀j,j<i->fC o F j=none)
    (A.length-0) _ ⟨0,rfl,rfl,Da,rfl,ω,λj h=>ω⟩ Qs ?_
   rintro q sl h9 ms' ⟨i,rfl,rfl,l9,rfl,hi,hnC⟩;have hQ:=hQ.up l9;have e16:∀ms,Cell h9 ms (⟨g16,0,none⟩:Addr) (.map (some gL)):=λms=>(e16 ms).le l9;have k9:=AE k8 l9;refine Aq (Qm Y (Am (Ac ?_)));refine Ao Y (λhlt=>?_) (λhlt=>?_)
   ·have hil:i<A.length:=ω
    obtain⟨x,hx⟩:∃x,A[i]=x:=⟨_,Y⟩
    have hxm:x∈A:=by rw[<-hx];exact ae hil
    have hgx:=hget i hil;rw[hx]at hgx;have hX:=(hsA x hxm).up l9;have oxv:=hX.rd.one;have hxI:=hAI x hxm;obtain⟨hxn,hxs⟩:=hAs x hxm;have hsx:∀ms,Seg h9 ms ((AG vA).add (i*3)) (cC x):=λms=>by rw[<-hx];exact(hQ.any (ms:=ms)).seg hil
    refine Ah (Ad (Ac (Ag (Aq (Qx (BN (i) hQ.rd.any Y Bm AI Y Y) Y (Qx (oG Y Ey AI (hsx _)) Y (Cx [.w 0,.w 0,.nl] Y AI Y Y (λg18=>?_))))))));refine Sa 0 [_,_,_] AI Y (by simp[o1,o2,ovA,oxv]) ?_;refine Am (Ax λh10 l10 hS10=>?_);have e10:∀ms,Cell h10 ms (⟨g18,0,none⟩:Addr) (.w x.c.id):=λms=>Seg.all hS10 0 _ Y ms;have e12:∀ms,Cell h10 ms (⟨g18,2,none⟩:Addr) x.v:=λms=>Seg.all hS10 2 _ Y ms;have hX:=hX.up l10;have hct:=λms=>Nt x.c.sd x.v 68 [Value.pt g16,.pt g18] (λs=>decide (He F s.1>He F x.c.id)) h10 hX ω (λ_ _=>rfl) (λs hs ms=>W4 F s x.c.id g16 g18 gL mL bL h10 hOL (AE k9 l10) (λms=>(e16 ms).le l10) e10 hxI (hxs s hs) ms) ms;obtain⟨bb,hbb⟩:∃bb,decide (0<=Ob x.c.sd λs=>decide (He F s.1>He F x.c.id))=bb:=⟨_,Y⟩
    have hub:bb=true<->upS o F i:=by rw[<-hbb,decide_eq_true_iff,Xo];unfold upS;rw[hgx];exact⟨fun⟨s,h1,h2⟩=>⟨s,h1,of_decide_eq_true h2⟩,fun⟨s,h1,h2⟩=>⟨s,h1,decide_eq_true h2⟩⟩
    rw[hbb]at hct;refine Aq (Qf BI Y (Ql Y Cf (e12 _) (Qx (Cc Y Y Y) Y (Qx (AH Y call67 Y (hct _)) Y (Am ?_)))));refine BG Y (λhin=>?_) (λhin=>?_)
    ·have hch:=Wq (o:=o) (F:=F) hno (by rw[hol];exact hnB) (by rw[hol];exact hil) hnC (by unfold fC;rw[hgx,ac (hub.1 hin)]);refine Aq (Qf Bq Y (Ql Y U3 (e10 _) (Qm Y (Qm Y (Am (An (Aj (Ae (Ae (Aj (Ae ?_)))))))))));exact BE Y Y Y (by rw[hch])
    ·have hci:fC o F i=none:=by unfold fC;rw[aa λq=>by rw[hub.2 q]at hin;cases hin]
     refine Ah (Ai (Ad (Ab (Qx (oA Y) Y (Qm Y (Ak ?_))))))
     exact Al (A.length-(i+1)) _ ω ⟨i+1,Y,Y,AE l9 l10,Y,ω,λj hj=>by
      rcases (ω:j<i\/j=i) with h1|rfl
      ·exact hnC j h1
      ·exact hci⟩ Qs
   ·obtain rfl:i=A.length:=ω
    have hch:=R5 (o:=o) (F:=F) hno (by rw[hol];exact hnB) (by rw[hol];exact hnC);refine Av (Aa (Aa (Af (Ad (Aq (Qm Y (Qm Y (Am (An ?_)))))))));exact BE Y Y Y (by rw[hch])
end
section
open Go.Lin
variable {p:Int}
def IsP(p:Int):Prop:=2<=p/\p<=997/\∀k,k<p.toNat->2<=k->p.toNat%k≠0
instance (p:Int):Decidable (IsP p):=by unfold IsP;infer_instance
theorem IsP.prm(h:IsP p):Prm p.toNat:=by obtain⟨h1,h2,h3⟩:=h;refine JE ω λk hk hkk=>h3 k ?_ hk;have:2*k<=k*k:=d7 k hk;omega
theorem IsP.fld(h:IsP p):E5 p:=by
 have:=h.prm.fld
 rwa [fd (by have:=h.1;omega)]at this
theorem Nv(h2:2<=p)(h9:p<=997)(j:Nat)(hj:p<(j:Int)*j)(h:∀k,2<=k->k<j->p.toNat%k≠0):IsP p:=by
 refine⟨h2,h9,λk hk h2k he=>?_⟩
 have hp:Prm p.toNat:=by
  refine JE ω λk hk hkk=>h k hk (Nat.lt_of_not_le λhle=>?_);have h1:j*j<=k*k:=dh hle hle;have h2:((j*j:Nat):Int)=(j:Int)*j:=by simp
  omega
 rcases hp.2 k (Nat.dvd_of_mod_eq_zero he) with h|h<;>omega
theorem Tw(hp:0<=p)(k:Nat)(hk:0<k):p%(k:Int)=((p.toNat%k:Nat):Int):=by rw[Int.natCast_emod,fd hp]
theorem Xf(p:Int)(h:Hp)(hI:BS p):FnT Tryz.prog 54 #[.int .i64 p] h [] (λr _ _=>r=.bool (decide (IsP p))):=by
 have hI1:=hI.1;have hI2:=hI.2;refine Au func54 ntmps54 Y Y (λw0 hw0=>?_);simp only[A6];refine Aq (Qm Y (Am (Ac (Aq (Qm Y (Qm Y (Qm Y ?_)))))));refine AL (t:=6) Y (λhs=>?_) (λhs=>?_)
 ·refine Qk Y (Qk Y (Qm Y (Am (A5 Y (Aq (Qm Y (Am (An (Ae ?_)))))))));exact Ap Y Y (by rw[aj];exact λh=>jt h.1 ω)
 ·refine Qg (Ar Y Y) Y (Qg (Ct Y Y Y) Y (Qm Y (Am ?_)));refine Ao Y (λhs2=>?_) (λhs2=>?_)
  ·refine Ac (Ab (Qm Y (Am (An (Ae ?_)))));exact Ap Y Y (by rw[aj];exact λh=>jt h.2.1 ω)
  ·refine Ah (Ad (Ac (Aq (Qm Y (Am (Ag ?_))))))
   refine Ay (λn s h' ms'=>∃(k:Nat),n=1000-k/\s=[(0,.w p),(3,.w k)]/\h=h'/\ms'=[]/\2<=k/\k<=1000/\∀j,2<=j->j<k->p.toNat%j≠0)
    (1000-2) _ ⟨2,rfl,rfl,rfl,rfl,ω,ω,λj h1 h2=>ω⟩ Qs ?_
   rintro n s h' ms' ⟨k,rfl,rfl,rfl,rfl,h2,hk,hno⟩
   have hkk:(k:Int)*k<=1000*1000:=by
    have h1:k*k<=1000*1000:=dh hk hk;have h2:((k*k:Nat):Int)=(k:Int)*k:=by simp
    omega
   have hkk0:0<=(k:Int)*k:=dt ω ω;have hk4:2*(k:Int)<=(k:Int)*k:=Int.mul_le_mul_of_nonneg_right ω ω;refine Ac (Aq (Qm Y (Qm Y (Qx (oM Y) Y (Qm Y (Qm Y (Am ?_)))))));refine Ao Y (λhlt=>?_) (λhlt=>?_)
   ·refine Ah (Ad (Ac (Ag (Aq (Qm Y (Qm Y (Qx (BH Y Y Y ω ω) Y (Qm Y (Am ?_)))))))));have hm:=Tw (p:=p) ω k ω;refine Ao Y (λhz=>?_) (λhz=>?_)
    ·refine Ac (Ab (Qm Y (Am (An (Aj (Ae (Ae (Aj (Ae ?_)))))))));exact Ap Y Y (by rw[aj];exact λh=>jt (show p.toNat%k=0 by omega) (h.2.2 k ω h2))
    ·refine Ah (Ai (Ad (Ab (Qm Y (Qx (oA Y) Y (Qm Y (Ak ?_)))))));refine Al (1000-(k+1)) _ ω ⟨k+1,Y,Y,Y,Y,ω,ω,λj h1 h3=>?_⟩ Qs;rcases (ω:j<k\/j=k) with h4|h4
     ·exact hno j h1 h4
     ·subst h4;omega
   ·refine Av (Aa (Aa (Af (Ad (Aq (Qm Y (Am (An ?_))))))));exact Ap Y Y (by rw[ai];exact Nv ω ω k ω hno)
theorem KX(p:Int)(h:Hp)(hI:BS p)(ms:List Hp):FnV Tryz.prog 54 #[.int .i64 p] h ms (.bool (decide (IsP p))):=by refine λw hw=>(?_:FnV _ _ _ h [] _) w (hw.weaken (Da) (List.nil_sublist _));exact FnT.toV (Xf p h hI)
def IsLast(l:List Int)(r:Int):Prop:=(∃(i:Nat) (hi:i<l.length),r=i/\l[i]≠0/\∀j (hj:j<l.length),i<j->l[j]=0)\/(r=-1/\∀j (hj:j<l.length),l[j]=0)
def Abc(l:List Int)(k:Nat):List Value:=[.int .i64 ((l.length:Int)-1-k),.int .i64 (l.getD (l.length-1-k) 0)]
theorem VY(g:Nat)(v:Value)(l:List Int)(h:Hp)(hG:Seg h [] ⟨g,0,none⟩ [v])(hR:RdL cI 1 h [] v l)(hn2:l.length<=1000000):Abs Tryz.prog 203 [.pointer (some ⟨g,0,none⟩)] h l.length (Abc l):=by
 intro lp X Y h1 ms hl hY h0;show FnT _ _ #[.func (.yield lp) #[] #[],.pt g] _ _ _;have hG:=hG.le hl;have hR:=hR.up hl;obtain⟨n,hn⟩:∃n,l.length=n:=⟨_,rfl⟩
 rw[hn]at hn2 hY;refine Au func203 ntmps203 rfl rfl (fun w0 hw0=>?_);simp only[A6];refine Ac (DJ (DV (oL rfl AN ((hG.at0 rfl).any)) rfl rfl rfl (DV (As hR.rd.any rfl AN rfl) rfl rfl rfl (DV (oS rfl) rfl rfl rfl (DV (GD rfl rfl) rfl rfl rfl (Gk (Ad (Ag ?_))))))))
 refine Ay (fun q s hh ms'=>∃(k:Nat),q=n-k/\s=[(0,.func (.yield lp) #[] #[]),(1,.pt g),(3,.w ((n:Int)-1-k))]/\h1.le hh/\k<=n/\X k hh ms')
  (n-0) [(0,.func (.yield lp) #[] #[]),(1,.pt g),(3,.w ((l.length:Int)-1))] ⟨0,rfl,by rw[hn,show((n:Int)-1-(0:Nat))=(n:Int)-1 by omega],Da,ω,h0⟩ Qs ?_
 rintro q s hh ms' ⟨k,rfl,rfl,lh,hk,hX⟩;refine Ac (Ac (DJ (DV (Ar rfl rfl) rfl rfl rfl (DV (HE rfl rfl rfl) rfl rfl rfl (Gk (Ad ?_))))));refine Ao rfl (fun hlt=>?_) (fun hlt=>?_)
 ·have hkn:k<n:=ω
  have hG2:=hG.le lh;have hR2:=hR.up lh;have hi:n-1-k<l.length:=ω
  have hc:∀ms,Cell hh ms ((AG v).add ((n-1-k)*1)) (.w (l.getD (n-1-k) 0)):=fun ms=>by rw[show l.getD (n-1-k) 0=l[n-1-k] by simp[List.getD,hi]];exact(hR2.any (ms:=ms)).cell0 hi rfl
  refine Ah (Ad (Ac (Ag (Ac (DJ (DV (Ar rfl rfl) rfl rfl rfl (DV (Ar rfl rfl) rfl rfl rfl (DV (oL rfl AN ((hG2.at0 rfl).any)) rfl rfl rfl (DV (Ar rfl rfl) rfl rfl rfl (DV (BN (n-1-k) hR2.rd.any rfl AN A0 rfl rfl) rfl rfl rfl (DV (oL rfl U3 (hc _)) rfl rfl rfl ?_)))))))))));have hyk:=hY k hh ms' hkn lh hX;unfold Abc at hyk;rw[hn]at hyk;refine QP rfl rfl rfl (hyk) rfl rfl rfl (fun r h2 ms2 l2 hr=>?_);rcases hr with ⟨rfl,hX2⟩|⟨rfl,hX2⟩
  ·refine DV (DB rfl rfl) rfl rfl rfl (Gk (Ad (AQ rfl (Ah (Ai (Ad (DJ (DV (Ar rfl rfl) rfl rfl rfl (DV (oS rfl) rfl rfl rfl (DV (GD rfl rfl) rfl rfl rfl (Gk ?_)))))))))));refine Al (n-(k+1)) [(0,.func (.yield lp) #[] #[]),(1,.pt g),(3,.w ((n:Int)-1-k-1))] ω ⟨k+1,rfl,by rw[show((n:Int)-1-k-1)=(n:Int)-1-(k+1:Nat) by omega],AE lh l2,ω,hX2⟩ Qs
  ·refine DV (DB rfl rfl) rfl rfl rfl (Gk (Ad (A5 rfl (An (Aj (Ae (Ae (Aj ?_))))))));exact F6 rfl (.inr ⟨k,ω,hX2⟩)
 ·obtain rfl:k=n:=ω
  refine Av (Aa (Aa (Af ?_)));exact Cq rfl (.inl (by rw[hn];exact hX))
theorem RW(v:Value)(n:Nat)(cs:List Value)(h:Hp)(hR:Rd h [] v 1 n cs):FnT Tryz.prog 152 #[v] h [] (λr h' ms'=>h=h'/\∃g,r=.func (.func 203) #[] #[.pointer (some ⟨g,0,none⟩)]/\ms'=[Bh g 22 [v]]):=by refine Au func152 ntmps152 Y Y (λw0 hw0=>?_);simp only[A6];refine Aq (AP [_] Y Y (Rd.cells ‹_›) Y Y Y (λg1=>Qm Y (BM (Qx (Cc Y Y Y) Y (Qm Y (Am (An ?_)))))));exact Ap Y Y (⟨Y,_,Y,Y⟩)
end
section
open Go.Lin
theorem IsLast.uniq{l:List Int}{x y:Int}(h1:IsLast l x)(h2:IsLast l y):x=y:=by
 rcases h1 with ⟨i,hi,rfl,q1,q2⟩|⟨rfl,q⟩<;>rcases h2 with ⟨j,hj,rfl,r1,r2⟩|⟨rfl,r⟩
 ·rcases dy i j with h|h|h
  ·exact jt (q2 j hj h) r1
  ·rw[h]
  ·exact jt (r2 i hi h) q1
 ·exact jt (r i hi) q1
 ·exact jt (q j hj) r1
 ·rfl
theorem IsLast.ex(l:List Int):∃x,IsLast l x:=by
 have key:∀n,n<=l.length->(∃(i:Nat) (hi:i<l.length),i<n/\l[i]≠0/\∀j (hj:j<l.length),i<j->j<n->l[j]=0)\/∀j (hj:j<l.length),j<n->l[j]=0:=λn=>by
  induction n with
  | zero=>intro _;exact .inr λj _ h=>ω
  | succ n ih=>
   intro hn;by_cases h0:l[n]=0
   ·rcases ih ω with ⟨i,hi,h1,h2,h3⟩|h
    ·refine .inl ⟨i,hi,ω,h2,λj hj h4 h5=>?_⟩;rcases (ω:j<n\/j=n) with h6|rfl
     ·exact h3 j hj h4 h6
     ·exact h0
    ·refine .inr λj hj h5=>?_;rcases (ω:j<n\/j=n) with h6|rfl
     ·exact h j hj h6
     ·exact h0
   ·exact .inl ⟨n,ω,ω,h0,λj hj h4 h5=>ω⟩
 rcases key l.length (au _) with ⟨i,hi,_,h2,h3⟩|h
 ·exact⟨i,.inl ⟨i,hi,Y,h2,λj hj h4=>h3 j hj h4 hj⟩⟩
 ·exact⟨-1,.inr ⟨Y,λj hj=>h j hj hj⟩⟩
noncomputable def AR(l:List Int):Int:=Classical.choose (IsLast.ex l)
theorem Ja(l:List Int):IsLast l (AR l):=Classical.choose_spec (IsLast.ex l)
theorem I3{l:List Int}{x:Int}(h:IsLast l x):AR l=x:=(Ja l).uniq h
theorem Dv(l:List Int):-1<=AR l/\AR l<l.length:=by rcases Ja l with ⟨i,hi,e,_⟩|⟨e,_⟩<;>rw[e]<;>omega
theorem ZL(v:Value)(l:List Int)(h:Hp)(hR:RdL cI 1 h [] v l)(hn:l.length<=1000000):FnT Tryz.prog 95 #[v] h [] (λr _ _=>r=.int .i64 (AR l)):=by
 have ov:=hR.rd.one;refine Nk func95 ntmps95 Y Y (λw0 hw0=>?_);simp only[A6];refine Aq (Cx [.w 0] Y A0 Y Y (λg2=>Am (Ac (Aq (Qm Y (Qc call152 Y (RW v l.length _ h hR.rd) (λvf h10 ms10 l10 hF=>?_)))))));obtain⟨rfl,gb,rfl,rfl⟩:=hF;refine Am (Ag (Ax λh2 l2 hGb=>?_));have hR:=hR.up l2;have hI:=VY gb v l h2 hGb hR hn;refine Io (λk hh ms=>ms=[Bh g2 3 [.w 0]]/\∀j (hj:j<l.length),l.length-k<=j->l[j]=0) (λk hh ms=>ms=[Bh g2 3 [.w ((l.length:Int)-1-k)]]/\IsLast l ((l.length:Int)-1-k)) (λk s1 hh ms=>s1=[(2,.pt g2),(3,.w ((l.length:Int)-1-k)),(4,.w (l.getD (l.length-1-k) 0))]/\ms=[Bh g2 3 [.w 0]]/\∀j (hj:j<l.length),l.length-k<=j->l[j]=0) Y call203 hI (λk=>rfl) Y ?_ ?_ ?_ ?_ ?_
 ·exact⟨Y,λj hj h=>ω⟩
 ·rintro w1 k hh ms1 hk lh ⟨rfl,hz⟩;rw[show Abc l k=[.w ((l.length:Int)-1-k),.w (l.getD (l.length-1-k) 0)] from Y];refine RU (ES κ (Qm Y (Ak (Lk (ES κ (Qm Y (Ak ?_)))))));exact Az _ ⟨Y,Y,hz⟩ Qs
 ·rintro w1 k s1 hh ms1 hk lh ⟨rfl,rfl,hz⟩;have hi:l.length-1-k<l.length:=ω
  have eg:l.getD (l.length-1-k) 0=l[l.length-1-k]:=by simp[List.getD,hi]
  refine PE (RU (ES κ (Qm Y (Qm Y (Ak (Lk ?_))))));refine Acz Y (λhne=>?_) (λhne=>?_)
  ·refine RU (ES κ (Qm Y (AO 0 0 Y A0 Y Y (by rfl) Y Y δ Y Y (Ak (Lk (AbK (Aj ?_)))))));refine YF [] ⟨Y,.inl ⟨l.length-1-k,hi,ω,by rw[<-eg];exact hne,λj hj hlt=>hz j hj ω⟩⟩ ff
  ·refine Aae (Ai ?_);refine Az [] ⟨Y,λj hj hle=>?_⟩ ff;rcases (ω:l.length-k<=j\/j=l.length-1-k) with h1|rfl
   ·exact hz j hj h1
   ·rw[<-eg];exact bk.1 hne
 ·rintro D hh ms1 lh ⟨rfl,hz⟩;refine Ai (Ad (Aq (AO 0 0 Y A0 Y Y (by rfl) Y Y δ Y Y (Am (An (KA 1 (.inr Y) Y ?_))))));exact Nc Y Y U3 Y 0 Y (by rw[I3 (.inr ⟨rfl,λj hj=>hz j hj ω⟩)])
 ·rintro D k hh ms1 hk lh ⟨rfl,hL⟩;refine KA 1 (.inr Y) Y ?_;exact Nc Y Y U3 Y 0 Y (by rw[I3 hL])
theorem RR(v:Value)(l:List Int)(h:Hp)(hR:RdL cI 1 h [] v l)(hn:l.length<=1000000)(ms:List Hp):FnV Tryz.prog 95 #[v] h ms (.int .i64 (AR l)):=DW (ZL v l h hR hn) ms
variable {p n t:Int} {i:Nat}
def FN(p n:Int):Int:=match (range p.toNat).find? (λk:Nat=>decide (1<=k/\n*(k:Int)%p=1)) with|some k=>(k:Int)|none=>1
theorem LY{k:Nat}(h1:1<=k)(hk:(k:Int)<p)(h:n*(k:Int)%p=1)(hno:∀j:Nat,1<=j->j<k->n*(j:Int)%p≠1):FN p n=k:=by
 unfold FN
 have:(range p.toNat).find? (λk:Nat=>decide (1<=k/\n*(k:Int)%p=1))=some k:=List.find?_range_eq_some.2 ⟨ai ⟨h1,h⟩,bi.2 ω,λj hj=>by
  rw[aj λq=>hno j q.1 hj q.2];rfl⟩
 rw[this]
theorem Ls(hno:∀j:Nat,1<=j->(j:Int)<p->n*(j:Int)%p≠1):FN p n=1:=by
 unfold FN
 have:(range p.toNat).find? (λk:Nat=>decide (1<=k/\n*(k:Int)%p=1))=none:=ii.2 λj hj=>by have:=bi.1 hj;rw[aj λq=>hno j q.1 ω q.2];decide
 rw[this]
theorem PH(hp:2<=p)(n:Int):1<=FN p n/\FN p n<p:=by
 unfold FN;split
 ·rename_i k h;obtain⟨h1,h2,_⟩:=List.find?_range_eq_some.1 h;have:=bz h1;have:=bi.1 h2;omega
 ·omega
theorem Nl(h:IsP p)(h0:0<n)(hn:n<p):n*FN p n%p=1:=by
 have h2:=h.1
 obtain⟨w,hw⟩:=h.fld.inv n λ⟨c,e⟩=>by have h1:c<1:=Int.lt_of_mul_lt_mul_left (show p*c<p*1 by omega) ω;have h3:0<c:=Int.lt_of_mul_lt_mul_left (show p*0<p*c by omega) ω;omega
 have hw:w*n%p=1:=by rw[fa];have h3:=Int.emod_eq_emod_iff_emod_sub_eq_zero.2 (Int.emod_eq_zero_of_dvd hw);rw[h3,gt ω ω]
 have h5:=co w (show p≠0 by omega);have h6:=bw w (show 0<p by omega)
 have h4:n*(((w%p).toNat:Nat):Int)%p=1:=by rw[fd h5,Int.mul_emod,Int.emod_emod_of_dvd w (Int.dvd_refl p),<-Int.mul_emod,fa];exact hw
 have h7:1<=(w%p).toNat:=by refine Nat.one_le_iff_ne_zero.2 λe=>?_;rw[e]at h4;simp at h4
 unfold FN;split
 ·rename_i k h;exact(bz (List.find?_range_eq_some.1 h).1).2
 ·rename_i h;have:=ii.1 h (w%p).toNat (bi.2 ω);exact jt (ai ⟨h7,h4⟩) this
def EJ(p:Int)(a b:List Int)(t:Int):List Int:=List.zipWith (λx y=>(x+t*y)%p) a b
theorem Ea{a b:List Int}(h:a.length=b.length):(EJ p a b t).length=a.length:=by unfold EJ;rw[List.length_zipWith];omega
theorem Pv{a b:List Int}(h:i<(EJ p a b t).length)(ha:i<a.length)(hb:i<b.length):(EJ p a b t)[i]=(a[i]+t*b[i])%p:=by simp[EJ]
theorem X4{α:Type}(A B:List α)(hl:A.length=B.length)(hi:i<A.length):(A.take i++B.drop i).set i A[i]=A.take (i+1)++B.drop (i+1):=by
 have hlt:(A.take i).length=i:=by rw[av];omega
 rw[List.set_append,aa ω,hlt,Nat.sub_self,d9 (show i<B.length by omega),List.set_cons_zero,ak hi,bp];rfl
theorem XO{α:Type}(A B:List α)(hl:A.length=B.length)(hi:i<A.length):(A.take i++B.drop i)[i]'(by rw[ag,av,List.length_drop];omega)=B[i]:=by
 have hlt:(A.take i).length=i:=by rw[av];omega
 rw[List.getElem_append_right ω];simp[hlt]
def JM(p:Int)(l:List Int):Prop:=∀x∈l,0<=x/\x<p
theorem Jx(hp:0<p)(a b:List Int):JM p (EJ p a b t):=λx hx=>by unfold EJ at hx;obtain⟨i,hi,rfl⟩:=df hx;rw[List.getElem_zipWith];exact⟨co _ ω,bw _ hp⟩
theorem YK(p n:Int)(g:Nat)(h:Hp)(hG:∀ms,Cell h ms (⟨g,0,none⟩:Addr) (.int .i64 p))(hp:2<=p/\p<=997)(hn:0<=n/\n<p):FnT Tryz.prog 177 #[.pointer (some ⟨g,0,none⟩),.int .i64 n] h [] (λr _ _=>r=.int .i64 (FN p n)):=by
 refine Au func177 ntmps177 Y Y (λw0 hw0=>?_);simp only[A6];refine Aq (Qm Y (Am (Ac (Aq (Qm Y (Am (Ag ?_)))))))
 refine Ay (λq sl h' ms'=>∃(k:Nat),q=p.toNat-k/\sl=[(0,.pt g),(1,.w n),(5,.w k)]/\h=h'/\ms'=[]/\1<=k/\(k:Int)<=p/\∀j:Nat,1<=j->j<k->n*(j:Int)%p≠1)
  (p.toNat-1) _ ⟨1,rfl,rfl,rfl,rfl,ω,ω,λj h1 h2=>ω⟩ Qs ?_
 rintro q sl h' ms' ⟨k,rfl,rfl,rfl,rfl,h1,hk,hno⟩;have hnk:0<=n*(k:Int)/\n*(k:Int)<=997*997:=⟨dt hn.1 ω,jb ω ω ω ω⟩
 refine Ac (Aq (Qm Y (Qm Y (Qm Y (Qf Ia Y (Ql Y U3 (hG _) (Qm Y (Am ?_))))))));refine Ao Y (λhlt=>?_) (λhlt=>?_)
 ·refine Ah (Ad (Ac (Ag (Aq (Qm Y (Qm Y (Qx (oM Y) Y (Qm Y (Qm Y (Qf Ia Y (Ql Y U3 (hG _) (Qx (BH Y Y Y ω ω) Y (Qm Y (Am ?_))))))))))))));refine Ao Y (λhe=>?_) (λhe=>?_)
  ·refine Ac (Ab (Qm Y (Qm Y (Am (An (Aj (Ae (Ae (Aj (Ae ?_))))))))));exact Ap Y Y (by rw[LY h1 hlt he hno])
  ·refine Ah (Ai (Ad (Ab (Qm Y (Qx (oA Y) Y (Qm Y (Ak ?_)))))));refine Al (p.toNat-(k+1)) _ ω ⟨k+1,Y,Y,Y,Y,ω,ω,λj h3 h4=>?_⟩ Qs;rcases (ω:j<k\/j=k) with h5|rfl
   ·exact hno j h3 h5
   ·exact he
 ·have hkp:(k:Int)=p:=ω
  refine Av (Aa (Aa (Af (Ad (Aq (Qm Y (Am (An ?_))))))));exact Ap Y Y (by rw[Ls λj h3 h4=>hno j h3 ω])
theorem Aa3(p n:Int)(g:Nat)(h:Hp)(hG:∀ms,Cell h ms (⟨g,0,none⟩:Addr) (.int .i64 p))(hp:2<=p/\p<=997)(hn:0<=n/\n<p)(ms:List Hp):FnV Tryz.prog 177 #[.pointer (some ⟨g,0,none⟩),.int .i64 n] h ms (.int .i64 (FN p n)):=DW (YK p n g h hG hp hn) ms
theorem X6(p t:Int)(g:Nat)(a b:List Int)(va vb:Value)(m h:Hp)(hG:∀ms,Cell h ms (⟨g,0,none⟩:Addr) (.int .i64 p))(hp:2<=p/\p<=997)(ht:0<=t/\t<p)(hA:OwnL cI 1 3 m va a)(hB:RdL cI 1 h [] vb b)(hl:a.length=b.length)(hn:a.length<=1000000)(ra:JM p a)(rb:JM p b) :
  FnT Tryz.prog 178 #[.pt g,va,vb,.w t] h [m] (λ_ h' ms'=>h=h'/\∃m',ms'=[m']/\OwnL cI 1 3 m' va (EJ p a b t)):=by
 have oa:=hA.o1;have ob:=hB.rd.one;obtain⟨C,hC⟩:∃C,EJ p a b t=C:=⟨_,Y⟩
 have hCl:C.length=a.length:=by rw[<-hC];exact Ea hl
 refine Au func178 ntmps178 Y Y (λw0 hw0=>?_);simp only[A6];refine Aq (Qm Y (Qx (As hB.rd.any Y AN Y) Y (Qm Y (Am (Ag ?_)))))
 refine Ay (λq sl h' ms'=>∃(i:Nat) (m:Hp),q=b.length-i/\sl=[(0,.pt g),(1,va),(3,.w t),(10,vb),(11,.w b.length),(12,.w i)]/\h=h'/\ms'=[m]/\i<=b.length/\OwnL cI 1 3 m va (C.take i++a.drop i))
  (b.length-0) _ ⟨0,m,rfl,rfl,rfl,rfl,ω,by simpa using hA⟩ Qs ?_
 rintro q sl h' ms' ⟨i,m,rfl,rfl,rfl,rfl,hi,hO⟩;refine Aq (Qm Y (Am (Ac ?_)));refine Ao Y (λhlt=>?_) (λhlt=>?_)
 ·have hib:i<b.length:=ω
  have hia:i<a.length:=ω
  have hiC:i<C.length:=ω
  have hlen:(C.take i++a.drop i).length=a.length:=by rw[ag,av,List.length_drop];omega
  have hiO:i<(C.take i++a.drop i).length:=ω
  have r1:=ra _ (ae hia);have r2:=rb _ (ae hib);have hCi:C[i]=(a[i]+t*b[i])%p:=by subst hC;exact Pv _ hia hib
  have hset:=X4 C a hCl hiC;rw[hCi]at hset
  have ca:∀ms,m∈ms->Cell h ms ((AG va).add (i*1)) (.w a[i]):=λms hm=>by
   have:=(hO.rd (h:=h) (ms:=ms) hm).cell0 hiO Y
   rwa [XO C a hCl hiC]at this
  have cb:∀ms,Cell h ms ((AG vb).add (i*1)) (.w b[i]):=λms=>(hB.any (ms:=ms)).cell0 hib Y;obtain⟨x,hx⟩:∃x,a[i]=x:=⟨_,Y⟩
  obtain⟨y,hy⟩:∃y,b[i]=y:=⟨_,Y⟩
  rw[hx]at r1 ca hset;rw[hy]at r2 cb hset;have hty:0<=t*y/\t*y<=997*997:=⟨dt ht.1 r2.1,jb ω ω ω ω⟩
  refine Ah (Ad (Ac (Ag (Aq (Qm Y (Qx (BN (i) hB.rd.any Y AN A0 Y Y) Y (Ql Y U3 (cb _) (Qm Y (Qm Y (Am (Eb 14 [true,true] CT κ κ κ (Ew Y Y Y Y (CB Y Y) (Ew Y Y Y Y (CB Y Y) ?_)))))))))))));refine⟨Y,?_⟩;simp only[E3,zap,bl,ay,List.take_succ_cons,List.take_zero,List.drop_succ_cons,List.drop_zero,i6,i7];refine Ex Y Y Y (Ex Y Y Y (Wm Y (Wm Y (AM (AA (i) (hO.rd (h:=h) (ms:=[m]) Mh).rd Y AN A0 Y Y ω ω) Y Y (Wl Y U3 (ca _ Mh) (Wm Y (Wm Y (AM (oM Y) Y Y (AM (oA Y) Y Y (Wm Y (Wm Y (Wf Ia Y (Wl Y U3 (hG _) (A7 (Qx (BH Y Y Y ω ω) Y (Qx (AA (i) (hO.rd (h:=h) (ms:=[m]) Mh).rd Y AN A0 Y Y ω ω) Y (BQ 0 i hO Y A0 Y Y Y hiO Y Y (λm' hO'=>?_))))))))))))))))));rw[hset]at hO';refine Ak (Il (Ai (Ad (Ab (Qx (oA Y) Y (Qm Y (Ak ?_)))))));exact Al (b.length-(i+1)) _ ω ⟨i+1,m',Y,Y,Y,Y,ω,hO'⟩ Qs
 ·obtain rfl:i=b.length:=ω
  rw[List.drop_eq_nil_of_le ω,eo,<-hl,<-hCl,ct]at hO;rw[hC];refine Av (Aa (Aa (Af ?_)));exact Cq Y (⟨Y,m,Y,hO⟩)
end
section
open Go.Lin
variable {p:Int}
def cU(v:Value):List Value:=[v]
theorem Ny:∀v,(cU v).length=1:=λ_=>rfl
def EI(p:Int)(vc:Value)(gA:Nat)(vr vv:Value)(la:List Int):List Value:=.int .i64 p::vc::.map (some gA)::vr::vv::la.map λn=>.int .i64 n
inductive Ops (p:Int) (n j:Nat) (R V:Nat->List Int) (r v:List Int):List Int->List Int->Prop
 | refl:Ops p n j R V r v r v
 | step {r1 v1:List Int} {k i:Nat} {t:Int}:Ops p n j R V r v r1 v1->k<j->i<n->0<=t->t<p->r1.getD i 0≠0->(R k).getD i 0≠0->Ops p n j R V r v (EJ p r1 (R k) t) (EJ p v1 (V k) t)
structure Red(p:Int)(n j:Nat)(R V:Nat->List Int)(la:List Int):Prop where
 rl:∀k,k<j->(R k).length=n
 vl:∀k,k<j->(V k).length=n
 rr:∀k,k<j->JM p (R k)
 vr:∀k,k<j->JM p (V k)
 ll:la.length=400
 a0:∀i,i<400->la.getD i 0=0\/∃k,k<j/\la.getD i 0=(k:Int)+1/\AR (R k)=i
 a1:∀k,k<j->0<=AR (R k)->la.getD (AR (R k)).toNat 0=(k:Int)+1
def LaS(j:Nat)(r':List Int)(la la':List Int):Prop:=(AR r'<0/\la'=la)\/(0<=AR r'/\la.getD (AR r').toNat 0=0/\la'=la.set (AR r').toNat ((j:Int)+1))
theorem DI{l:List Int}{i:Nat}(h:AR l=i):i<l.length/\l.getD i 0≠0/\∀j,i<j->l.getD j 0=0:=by
 rcases Ja l with ⟨k,hk,e,h1,h2⟩|⟨e,_⟩
 ·obtain rfl:i=k:=ω
  refine⟨hk,by simpa[List.getD,hk] using h1,λj hj=>?_⟩;by_cases hjl:j<l.length
  ·simpa[List.getD,hjl] using h2 j hjl hj
  ·simp[List.getD,cu (show l.length<=j by omega)]
 ·omega
theorem C8(hp:0<p){l:List Int}(h:JM p l)(i:Nat):0<=l.getD i 0/\l.getD i 0<p:=by
 by_cases hi:i<l.length
 ·have:=h _ (ae hi);simpa[List.getD,hi] using this
 ·simp[List.getD,cu (show l.length<=i by omega),hp]
theorem Eo{t:Int}{a b:List Int}(hl:a.length=b.length)(i:Nat):(EJ p a b t).getD i 0=(a.getD i 0+t*b.getD i 0)%p:=by
 by_cases hi:i<a.length
 ·have h2:i<b.length:=ω
  have h3:i<(EJ p a b t).length:=by rw[Ea hl];exact hi
  have:=Pv h3 hi h2;simp only[List.getD,ah h3,ah hi,ah h2,i9,this]
 ·have h3:¬i<(EJ p a b t).length:=by rw[Ea hl];exact hi
  simp[List.getD,cu (show a.length<=i by omega),cu (show b.length<=i by omega),cu (show(EJ p a b t).length<=i by omega)]
theorem Ace{x b w:Int}(h:b*w%p=1)(hp:0<p):(x+((p-x)*w%p)*b)%p=0:=by
 have h1:=Int.emod_add_mul_ediv (b*w) p;have h2:=Int.emod_add_mul_ediv ((p-x)*w) p;rw[h]at h1;refine Int.emod_eq_zero_of_dvd ⟨1+(p-x)*(b*w/p)-((p-x)*w/p)*b,?_⟩;generalize b*w/p=q1 at h1 ⊢;generalize (p-x)*w/p=q2 at h2 ⊢;have e:(p-x)*w%p=(p-x)*w-p*q2:=ω
 rw[e];have e2:b*w=1+p*q1:=h1.symm
 have e3:((p-x)*w-p*q2)*b=(p-x)*(b*w)-p*(q2*b):=by rw[Int.sub_mul,ep,fa w b,ep]
 rw[e3,e2,Int.mul_sub,Int.mul_add,Int.mul_one,Int.mul_add,Int.mul_one];have e4:p*((p-x)*q1)=(p-x)*(p*q1):=by rw[<-ep,<-ep,fa p]
 rw[e4];omega
theorem Nj{t:Int}{a b:List Int}{i:Nat}(hl:a.length=b.length)(ha:AR a=i)(hb:AR b=i)(h:(a.getD i 0+t*b.getD i 0)%p=0):AR (EJ p a b t)<i:=by
 obtain⟨h1,h2,h3⟩:=DI ha;obtain⟨h4,h5,h6⟩:=DI hb
 have hz:∀j,i<=j->(EJ p a b t).getD j 0=0:=λj hj=>by
  rw[Eo hl];rcases (ω:j=i\/i<j) with rfl|h7
  ·exact h
  ·rw[h3 j h7,h6 j h7];simp
 refine Int.not_le.1 λhle=>?_;obtain⟨k,hk⟩:=il (show 0<=AR (EJ p a b t) by omega);obtain⟨_,h8,_⟩:=DI hk;exact h8 (hz k ω)
theorem La(p:Int)(vc:Value)(gA:Nat)(vr vv:Value)(la:List Int):(EI p vc gA vr vv la).length=5+la.length:=by unfold EI;simp;omega
theorem X3(p:Int)(vc:Value)(gA:Nat)(vr vv:Value)(la:List Int)(i:Nat)(x:Int):(EI p vc gA vr vv la).set (5+i) (.int .i64 x)=EI p vc gA vr vv (la.set i x):=by unfold EI;rw[show 5+i=i+1+1+1+1+1 by omega];simp only[List.set_cons_succ,List.map_set]
theorem TZ(la:List Int)(i:Nat)(hi:i<la.length):(la.map λn=>Value.int .i64 n)[i]?=some (.int .i64 (la.getD i 0)):=by simp[List.getD,hi]
theorem Uh(p:Int)(n j:Nat)(g gA:Nat)(vc vr vv:Value)(Rs Vs:List Value)(R V:Nat->List Int)(la r v:List Int)(mr mv h:Hp)(hp:IsP p)(hn:n<=400)(hj:j<n)
  (hRs:RdL cU 1 h [] vr Rs) (hVs:RdL cU 1 h [] vv Vs) (lR:Rs.length=n) (lV:Vs.length=n) (hR:∀k,k<j->RdL cI 1 h [] (Rs.getD k undef) (R k)) (hV:∀k,k<j->RdL cI 1 h [] (Vs.getD k undef) (V k)) (D:Red p n j R V la) (oc:vc.oneCell'=true)
  (Or:OwnL cI 1 3 mr (Rs.getD j undef) r) (Ov:OwnL cI 1 3 mv (Vs.getD j undef) v) (lr:r.length=n) (lv:v.length=n) (rr:JM p r) (rv:JM p v) :
  FnT Tryz.prog 121 #[.pt g,.w j] h [Bh g 130 (EI p vc gA vr vv la),mr,mv] (λ_ h' ms'=>h.le h'/\∃r' v' la' mr' mv',ms'=[Bh g 130 (EI p vc gA vr vv la'),mr',mv']/\OwnL cI 1 3 mr' (Rs.getD j undef) r'/\OwnL cI 1 3 mv' (Vs.getD j undef) v'/\Ops p n j R V r v r' v'/\r'.length=n/\v'.length=n/\JM p r'/\JM p v'/\LaS j r' la la'):=by
 have hp1:=hp.1;have hp9:=hp.2.1;refine Au func121 ntmps121 Y Y (λw0 hw0=>?_);simp only[A6];refine GW λh1 l1 lG dG LG=>?_;have hRs:=hRs.up l1;have hVs:=hVs.up l1;have hR:=λk hk=>(hR k hk).up l1;have hV:=λk hk=>(hV k hk).up l1;have hS:=Seg.ofLe lG;have oR:=hRs.rd.one;have oV:=hVs.rd.one;refine Ag ?_
 refine Ay (λq sl h' ms'=>∃(r' v':List Int) (mr mv:Hp),q=(AR r'+1).toNat/\sl=[(0,.pt g),(1,.w j)]/\h1.le h'/\ms'=[mr,mv]/\OwnL cI 1 3 mr (Rs.getD j undef) r'/\OwnL cI 1 3 mv (Vs.getD j undef) v'/\Ops p n j R V r v r' v'/\r'.length=n/\v'.length=n/\JM p r'/\JM p v')
  _ _ ⟨r,v,mr,mv,rfl,rfl,Da,rfl,Or,Ov,.refl,lr,lv,rr,rv⟩ Qs ?_
 rintro q sl h2 ms' ⟨r1,v1,mr,mv,rfl,rfl,l2,rfl,Or,Ov,hO,lr,lv,rr,rv⟩;have hRs:=hRs.up l2;have hVs:=hVs.up l2;have hR:=λk hk=>(hR k hk).up l2;have hV:=λk hk=>(hV k hk).up l2;have hS:=hS.le l2;refine GW λh3 l3 lM dM LM=>?_;have Rr:RdL cI 1 h3 [] (Rs.getD j undef) r1:=Or.rdh (h:=h3) (ms:=[]) lM;have hRs3:=hRs.up l3;have hVs3:=hVs.up l3;have hS3:=hS.le l3;have hjR:j<Rs.length:=ω
 have hjV:j<Vs.length:=ω
 have eR:Rs.getD j undef=Rs[j]:=by simp[List.getD,hjR]
 have eV:Vs.getD j undef=Vs[j]:=by simp[List.getD,hjV]
 have a0:∀ms,Cell h3 ms (⟨g,0,none⟩:Addr) (.w p):=λms=>Seg.all hS3 0 _ Y ms;have a3:∀ms,Cell h3 ms (⟨g,3,none⟩:Addr) vr:=λms=>Seg.all hS3 3 _ Y ms;have a4:∀ms,Cell h3 ms (⟨g,4,none⟩:Addr) vv:=λms=>Seg.all hS3 4 _ Y ms;have cR:∀ms,Cell h3 ms ((AG vr).add (j*1)) (Rs.getD j undef):=λms=>by rw[eR];exact(hRs3.any (ms:=ms)).cell0 hjR Y
 have orj:=Rr.rd.one;refine Ag (Aq (Qm Y (Qm Y (Qf E9 Y (Ql Y CA (a3 _) (Qm Y (Qx (BN (j) hRs3.rd.any Y CA CI Y Y) Y (Ql Y AN (cR _) (Qx (AH Y call95 Y (RR (Rs.getD j undef) r1 h3 Rr ω _)) Y (Qm Y (Am (Ac (Aq (Qm Y (Qm Y (Am ?_))))))))))))))));refine Ao Y (λhneg=>?_) (λhneg=>?_)
 ·refine An (Ae (Aj (Ae (Aj (S5 LM lM λh4 l4 b4=>(S5 LG (b4 _ (AE lG (AE l2 l3)) (Gb (AE lG l2) dM)) λh5 l5 b5=>?_))))));have l05:h.le h5:=b5 _ (b4 _ (AE l1 (AE l2 l3)) (Gb (AE l1 l2) dM)) dG;exact F6 Y (⟨l05,r1,v1,la,mr,mv,Y,Or,Ov,hO,lr,lv,rr,rv,.inl ⟨hneg,Y⟩⟩)
 ·obtain⟨i,hi⟩:=il (show 0<=AR r1 by omega);obtain⟨hi1,hi2,hi3⟩:=DI hi;have hin:i<400:=ω
  have hla:=D.ll
  have cL:∀ms,Cell h3 ms ((⟨g,5,none⟩:Addr).add (i*1)) (.w (la.getD i 0)):=λms=>by
   have:(EI p vc gA vr vv la)[5+i]?=some (.w (la.getD i 0)):=by unfold EI;rw[show 5+i=i+1+1+1+1+1 by omega];simp only[List.getElem?_cons_succ];exact TZ la i ω
   have:=Seg.all hS3 (5+i) _ this ms;show Cell h3 ms (((⟨g,0,none⟩:Addr).add 5).add (i*1)) _;rw[B9,jk];exact this
  rw[hi];have hl0:=D.a0 i hin;obtain⟨li,hli⟩:∃li,la.getD i 0=li:=⟨_,Y⟩
  rw[hli]at cL hl0
  have hlb:0<=li/\li<=400:=by rcases hl0 with h|⟨k,hk,h,_⟩<;>omega
  refine Ah (Ad (Aq (Qm Y (Qm Y (Qm Y (Qf TD Y (Qx (Ci (i) Y Acb A0 Y Y ω ω) Y (Ql Y U3 (cL _) (Qx (oS Y) Y (Qm Y (Am (Ac (Aq (Qm Y (Qm Y (Am ?_))))))))))))))));refine Ao Y (λhk0=>?_) (λhk0=>?_)
  ·have hl00:li=0:=by rcases hl0 with h|⟨k,hk,h,_⟩<;>omega
   refine Ga LM lM λh4 l4 b4=>?_;have lG4:=b4 _ (AE lG (AE l2 l3)) (Gb (AE lG l2) dM);refine Ga LG lG4 λh5 l5 b5=>?_;have l05:h.le h5:=b5 _ (b4 _ (AE l1 (AE l2 l3)) (Gb (AE l1 l2) dM)) dG;refine Aq (Qm Y (Qm Y (Qm Y (Qx (oA Y) Y (Qm Y (Qf TD Y (Qx (Ci (i) Y Acb A0 Y Y ω ω) Y ?_)))))));refine AO 0 (5+i) Y A0 Y Y Y Y (by rw[jk];exact B9 (⟨g,0,none⟩:Addr) 5 i) (by rw[La];omega) rfl rfl ?_;rw[X3];refine Am (An (Ae (Aj (Ae (Aj ?_)))));exact F6 Y (⟨l05,r1,v1,la.set i ((j:Int)+1),mr,mv,Y,Or,Ov,hO,lr,lv,rr,rv,.inr ⟨ω,by rw[hi,de,hli,hl00],by rw[hi,de]⟩⟩)
  ·obtain⟨k,hkj,rfl,hlk⟩:∃k,k<j/\li=(k:Int)+1/\AR (R k)=i:=by
    rcases hl0 with h|h
    ·omega
    ·exact h
   have hkR:k<Rs.length:=ω
   have hkV:k<Vs.length:=ω
   have eRk:Rs.getD k undef=Rs[k]:=by simp[List.getD,hkR]
   have eVk:Vs.getD k undef=Vs[k]:=by simp[List.getD,hkV]
   have hRk:=(hR k hkj).up l3;have hVk:=(hV k hkj).up l3;have lRk:=D.rl k hkj;have lVk:=D.vl k hkj;obtain⟨hk1,hk2,_⟩:=DI hlk;have cRk:∀ms,Cell h3 ms ((AG vr).add (k*1)) (Rs.getD k undef):=λms=>by rw[eRk];exact(hRs3.any (ms:=ms)).cell0 hkR Y
   have cx:∀ms,Cell h3 ms ((AG (Rs.getD j undef)).add (i*1)) (.w (r1.getD i 0)):=λms=>by rw[show r1.getD i 0=r1[i] by simp[List.getD,hi1]];exact(Rr.any (ms:=ms)).cell0 hi1 Y
   have cb:∀ms,Cell h3 ms ((AG (Rs.getD k undef)).add (i*1)) (.w ((R k).getD i 0)):=λms=>by rw[show(R k).getD i 0=(R k)[i] by simp[List.getD,hk1]];exact(hRk.any (ms:=ms)).cell0 hk1 Y
   have bx:=C8 ω rr i;have bb:=C8 ω (D.rr k hkj) i;obtain⟨x,hx⟩:∃x,r1.getD i 0=x:=⟨_,Y⟩
   obtain⟨b,hb⟩:∃b,(R k).getD i 0=b:=⟨_,Y⟩
   rw[hx]at cx bx hi2;rw[hb]at cb bb hk2;have hinv:=Nl hp (show 0<b by omega) bb.2;have hwb:=PH hp1 b;obtain⟨w,hw⟩:∃w,FN p b=w:=⟨_,Y⟩
   rw[hw]at hinv hwb;have hpw:0<=(p-x)*w/\(p-x)*w<=997*997:=⟨dt ω ω,jb ω ω ω ω⟩
   have hkill:=Ace (x:=x) hinv (show 0<p by omega);have hov:=Aa3 p b g h3 a0 ⟨hp1,hp9⟩ ⟨bb.1,bb.2⟩;rw[hw]at hov;have ht0:=co ((p-x)*w) (show p≠0 by omega);have ht1:=bw ((p-x)*w) (show 0<p by omega);have ork:=hRk.rd.one;have ovj:(Vs.getD j undef).oneCell'=true:=Ov.o1;have ovk:=hVk.rd.one;refine Ah (Ad (Ac (Bc 32 CT κ Y (Wm Y (Wm Y (Wf Ia Y (Wl Y U3 (a0 _) (Wm Y (Wm Y (Wf E9 Y (Wl Y CA (a3 _) (Wm Y (AM (BN (j) hRs3.rd.any Y CA CI Y Y) Y Y (Wl Y AN (cR _) (Wm Y (AM (BN (i) Rr.rd.any Y AN A0 Y Y) Y Y (Wl Y U3 (cx _) (AM (oS Y) Y Y (Wm Y (Wm Y (Wm Y (Wf E9 Y (Wl Y CA (a3 _) (Wm Y (AM (BN (k) hRs3.rd.any Y CA CI Y Y) Y Y (Wl Y AN (cRk _) (Wm Y (AM (BN (i) hRk.rd.any Y AN A0 Y Y) Y Y (Wl Y U3 (cb _) (AM (AH Y call177 Y (hov _)) Y Y (AM (oM Y) Y Y (Wm Y (Wm Y (Wf Ia Y (Wl Y U3 (a0 _) (A7 (Qx (BH Y Y Y ω ω) Y (Qm Y (Am ?_)))))))))))))))))))))))))))))))))))))));obtain⟨t,ht⟩:∃t,(p-x)*w%p=t:=⟨_,Y⟩
   rw[ht]at hkill ht0 ht1 ⊢;refine Ga LM lM λh4 l4 b4=>?_;have l24:=b4 _ l3 dM;have hRs:=hRs.up l24;have hVs:=hVs.up l24;have hRk:=(hR k hkj).up l24;have hVk:=(hV k hkj).up l24;have hS:=hS.le l24;have a0:∀ms,Cell h4 ms (⟨g,0,none⟩:Addr) (.w p):=λms=>Seg.all hS 0 _ Y ms;have a3:∀ms,Cell h4 ms (⟨g,3,none⟩:Addr) vr:=λms=>Seg.all hS 3 _ Y ms;have a4:∀ms,Cell h4 ms (⟨g,4,none⟩:Addr) vv:=λms=>Seg.all hS 4 _ Y ms;have cR:∀ms,Cell h4 ms ((AG vr).add (j*1)) (Rs.getD j undef):=λms=>by rw[eR];exact(hRs.any (ms:=ms)).cell0 hjR Y
   have cRk:∀ms,Cell h4 ms ((AG vr).add (k*1)) (Rs.getD k undef):=λms=>by rw[eRk];exact(hRs.any (ms:=ms)).cell0 hkR Y
   have cV:∀ms,Cell h4 ms ((AG vv).add (j*1)) (Vs.getD j undef):=λms=>by rw[eV];exact(hVs.any (ms:=ms)).cell0 hjV Y
   have cVk:∀ms,Cell h4 ms ((AG vv).add (k*1)) (Vs.getD k undef):=λms=>by rw[eVk];exact(hVs.any (ms:=ms)).cell0 hkV Y
   refine Ac (Bc 16 CT κ Y (Wm Y (Wm Y (Wm Y (Wf E9 Y (Wl Y CA (a3 _) (Wm Y (AM (BN (j) hRs.rd.any Y CA CI Y Y) Y Y (Wl Y AN (cR _) (Wm Y (Wm Y (Wf E9 Y (Wl Y CA (a3 _) (Wm Y (AM (BN (k) hRs.rd.any Y CA CI Y Y) Y Y (Wl Y AN (cRk _) (Wm Y (A7 (Bs (pre:=[mr]) Y call178 Y (X6 p t g r1 (R k) _ _ mr h4 a0 ⟨hp1,hp9⟩ ⟨ht0,ht1⟩ Or hRk ω ω rr (D.rr k hkj)) Y Y Y Y (λ_ h5 ms5 l5 hF=>?_))))))))))))))))))));obtain⟨rfl,mr',rfl,Or'⟩:=hF;refine Am (Bc 16 CT κ Y (Wm Y (Wm Y (Wm Y (Wf KP Y (Wl Y CA (a4 _) (Wm Y (AM (BN (j) hVs.rd.any Y CA CI Y Y) Y Y (Wl Y AN (cV _) (Wm Y (Wm Y (Wf KP Y (Wl Y CA (a4 _) (Wm Y (AM (BN (k) hVs.rd.any Y CA CI Y Y) Y Y (Wl Y AN (cVk _) (Wm Y (A7 (N5 1 Y (Bs (pre:=[mv]) Y call178 Y (X6 p t g v1 (V k) _ _ mv h4 a0 ⟨hp1,hp9⟩ ⟨ht0,ht1⟩ Ov hVk ω ω rv (D.vr k hkj)) Y Y Y Y (λ_ h6 ms6 l6 hF=>?_)))))))))))))))))))));obtain⟨rfl,mv',rfl,Ov'⟩:=hF;have hll:r1.length=(R k).length:=ω
   have hlv:v1.length=(V k).length:=ω
   have hless:=Nj (p:=p) (t:=t) hll hi hlk (by rw[hx,hb];exact hkill);have hO':=hO.step (t:=t) hkj (show i<n by omega) ht0 ht1 (by rw[hx];exact hi2) (by rw[hb];exact hk2);have hpp:0<p:=ω
   refine Ak (Ai (CY 1 Y ?_));exact Al (AR (EJ p r1 (R k) t)+1).toNat _ ω ⟨_,_,mr',mv',Y,Y,AE l2 l24,Y,Or',Ov',hO',by rw[Ea hll];exact lr,by rw[Ea hlv];exact lv,Jx hpp _ _,Jx hpp _ _⟩ Qs
end
end Go.Proofs.Q
namespace Go.Proofs
open Go.Proofs.Tryz
open Go.Shelf
def Tryz.laysSlF06_ren:Go.Shelf.Ren:=⟨fun|6=>147|15=>201|14=>200|28=>248|29=>249|20=>240|21=>241|22=>242|23=>243|24=>244|25=>245|26=>246|27=>247|46=>280|47=>281|48=>282|49=>283|50=>284|57=>300|n=>n,fun|22=>27|24=>52|25=>192|3=>3|39=>223|0=>0|53=>282|55=>222|4=>4|46=>276|45=>275|50=>124|5=>5|9=>9|66=>309|70=>313|76=>332|77=>333|n=>n,fun|n=>n⟩
theorem Tryz.laysSlF06:Go.Proofs.SlLaysF0.n6 prog Tryz.laysSlF06_ren:={
 mixed:=by kernel_rfl
 f6:=⟨f147.name,by decide,func147.trans (aw some κ)⟩
 f14:=⟨f200.name,by decide,func200.trans (aw some κ)⟩
 f15:=func201.trans (aw some κ)
 f20:=⟨f240.name,by decide,func240.trans (aw some κ)⟩
 f21:=⟨f241.name,by decide,func241.trans (aw some κ)⟩
 f22:=⟨f242.name,by decide,func242.trans (aw some κ)⟩
 f23:=⟨f243.name,by decide,func243.trans (aw some κ)⟩
 f24:=⟨f244.name,by decide,func244.trans (aw some κ)⟩
 f25:=⟨f245.name,by decide,func245.trans (aw some κ)⟩
 f26:=⟨f246.name,by decide,func246.trans (aw some κ)⟩
 f27:=⟨f247.name,by decide,func247.trans (aw some κ)⟩
 f28:=func248.trans (aw some κ)
 f29:=func249.trans (aw some κ)
 f46:=⟨f280.name,by decide,func280.trans (aw some κ)⟩
 f47:=func281.trans (aw some κ)
 f48:=func282.trans (aw some κ)
 f49:=⟨f283.name,by decide,func283.trans (aw some κ)⟩
 f50:=⟨f284.name,by decide,func284.trans (aw some κ)⟩
 f57:=⟨f300.name,by decide,func300.trans (aw some κ)⟩
 t0:=underlying0
 a0:=isAgg0
 z0:=sizeOf0
 v0:=zeroValue0
 t3:=underlying3
 a3:=isAgg3
 z3:=sizeOf3
 v3:=zeroValue3
 t4:=underlying4
 a4:=isAgg4
 z4:=sizeOf4
 v4:=zeroValue4
 t5:=underlying5
 a5:=isAgg5
 z5:=sizeOf5
 v5:=zeroValue5
 t9:=underlying9
 a9:=isAgg9
 z9:=sizeOf9
 v9:=zeroValue9
 t22:=underlying27
 a22:=isAgg27
 z22:=sizeOf27
 v22:=zeroValue27
 t25:=underlying192
 a25:=isAgg192
 z25:=sizeOf192
 v25:=zeroValue192
 t39:=underlying223
 a39:=isAgg223
 z39:=sizeOf223
 v39:=zeroValue223
 t45:=underlying275
 a45:=isAgg275
 z45:=sizeOf275
 v45:=zeroValue275
 t46:=underlying276
 a46:=isAgg276
 z46:=sizeOf276
 v46:=zeroValue276
 t50:=underlying124
 a50:=isAgg124
 z50:=sizeOf124
 v50:=zeroValue124
 t53:=underlying282
 a53:=isAgg282
 z53:=sizeOf282
 v53:=zeroValue282
 t55:=underlying222
 a55:=isAgg222
 z55:=sizeOf222
 v55:=zeroValue222
 t66:=underlying309
 a66:=isAgg309
 z66:=sizeOf309
 v66:=zeroValue309
 t70:=underlying313
 a70:=isAgg313
 z70:=sizeOf313
 v70:=zeroValue313
 t76:=underlying332
 a76:=isAgg332
 z76:=sizeOf332
 v76:=zeroValue332
 t77:=underlying333
 a77:=isAgg333
 z77:=sizeOf333
 v77:=zeroValue333 }
end Go.Proofs

namespace Go.Proofs.Q
open Go.Proofs.Tryz
open Go.Eng Go.RowKit
section
open Go.Lin Go.Sort Go.Srt
def AbQ(l:List Int)(r:Int):Prop:=(∃(i:Nat) (hi:i<l.length),r=l[i]/\l[i]≠0/\∀j (hj:j<l.length),j<i->l[j]=0)\/(r=0/\∀j (hj:j<l.length),l[j]=0)
def or3(a b c:Int):Int:=if a≠0 then a else if b≠0 then b else c
theorem Aa7{a b c r:Int}(h:AbQ [a,b,c] r):r=or3 a b c:=by
 unfold or3;rcases h with ⟨i,hi,rfl,h1,h2⟩|⟨rfl,h⟩
 ·have hi:i<3:=hi;rcases (ω:i=0\/i=1\/i=2) with rfl|rfl|rfl
  ·have h1:a≠0:=h1;show a=_;rw[ac h1]
  ·have h1:b≠0:=h1;have h3:a=0:=h2 0 σ δ;show b=_;rw[aa (λq=>q h3),ac h1]
  ·have h3:a=0:=h2 0 σ δ;have h4:b=0:=h2 1 σ δ;show c=_;rw[aa (λq=>q h3),aa (λq=>q h4)]
 ·have h3:a=0:=h 0 σ;have h4:b=0:=h 1 σ;have h5:c=0:=h 2 σ;rw[aa (λq=>q h3),aa (λq=>q h4),h5]
structure CeI where
 c:Cl
 v:Value
 one:v.oneCell'=true
 i:BS c.id
instance:Inhabited CeI:=⟨⟨default,.slice none 0 0,rfl,by decide⟩⟩
def CeI.ce(a:CeI):Ce:=⟨a.c,a.v⟩
def Kt(a:CeI):List Value:=[.int .i64 a.c.id,.int .i64 a.c.dim,a.v]
theorem Ee:∀a,(Kt a).length=3:=λ_=>rfl
theorem Oz(s:CeI):∀c∈Kt s,c.oneCell'=true:=λc hc=>by
 simp only[Kt,aq,iz,jf]at hc;rcases hc with rfl|rfl|rfl
 ·rfl
 ·rfl
 ·exact s.one
theorem RB(l:List CeI):(l.map CeI.ce).flatMap cC=l.flatMap Kt:=by rw[List.flatMap_map];rfl
theorem RO:∀A:List Ce,(∀a∈A,a.v.oneCell'=true/\BS a.c.id)->∃l:List CeI,l.map CeI.ce=A
 | [],_=>⟨[],rfl⟩
 | a::A,h=>by obtain⟨l,hl⟩:=RO A λb hb=>h b (List.Mem.tail _ hb);exact⟨⟨a.c,a.v,(h a Mh).1,(h a Mh).2⟩::l,by rw[fl,hl];rfl⟩
theorem own_ceI{m:Hp}{v:Value}{l:List CeI}:OwnL cC 3 52 m v (l.map CeI.ce)<->OwnL Kt 3 52 m v l:=by
 constructor
 ·intro O;have h:=O.own;rw[RB,af]at h;exact⟨h,Ee⟩
 ·intro O;refine⟨?_,λ_=>rfl⟩;rw[RB,af];exact O.own
def L6(f:Int->Int)(x y:CeI):Int:=or3 (c3 (f x.c.id) (f y.c.id)) (c3 x.c.dim y.c.dim) (c3 x.c.id y.c.id)
theorem JA(f:Int->Int)(x y:CeI):L6 f x y<0<->f x.c.id<f y.c.id\/(f x.c.id=f y.c.id/\(x.c.dim<y.c.dim\/(x.c.dim=y.c.dim/\x.c.id<y.c.id))):=by
 unfold L6 or3 c3
 repeat' split
 all_goals omega
theorem Pb(f:Int->Int):SWO (ltOf (L6 f)):=by
 refine⟨λx=>?_,λx y z h1 h2=>?_,λx y z h1 h2=>?_⟩
 ·unfold ltOf;rw[gy,JA];omega
 ·unfold ltOf at *;rw[decide_eq_true_iff,JA]at *;omega
 ·unfold ltOf at *;rw[gy,JA]at *;omega
theorem Acx(v:Value)(l:List Int)(h:Hp)(hR:RdL cI 1 h [] v l)(hn:l.length<=1000000):FnT Tryz.prog 149 #[v] h [] (λr _ _=>∃x,r=.int .i64 x/\AbQ l x):=by
 have o1:=hR.rd.one;refine Au func149 ntmps149 Y Y (λw0 hw0=>?_);simp only[A6];refine Aq (Qm Y (BM (Qm Y (Am (Ac (Aq (Qm Y (Qx (As hR.rd.any Y AN Y) Y (Qm Y (Am (Ag ?_)))))))))))
 refine Ay (λq s h' ms'=>∃(k:Nat),q=l.length-k/\s=[(3,.w 0),(6,v),(7,.w l.length),(8,.w k)]/\h=h'/\ms'=[]/\k<=l.length/\∀j (hj:j<l.length),j<k->l[j]=0)
  (l.length-0) _ ⟨0,rfl,rfl,rfl,rfl,ω,λj _ hj=>ω⟩ Qs ?_
 rintro q s h' ms' ⟨k,rfl,rfl,rfl,rfl,hk,hno⟩;refine Aq (Qm Y (Am (Ac ?_)));refine Ao Y (λhlt=>?_) (λhlt=>?_)
 ·have hkn:k<l.length:=ω
  have ck:∀ms,Cell h ms ((AG v).add (k*1)) (.w l[k]):=λms=>(hR.any (ms:=ms)).cell0 hkn Y;refine Ah (Ad (Ac (Ag (Aq (Qx (BN (k) hR.rd.any Y AN A0 Y Y) Y (Ql Y U3 (ck _) (Qm Y (BM (Qm Y (Qm Y (Qm Y (Am ?_))))))))))));refine Ao Y (λhz=>?_) (λhz=>?_)
  ·refine Ac (Ab (Qm Y (Qm Y (Am (An (Aj (Ae (Ae (Aj (Ae ?_))))))))));exact Ap Y Y (⟨_,Y,.inl ⟨k,hkn,Y,hz,hno⟩⟩)
  ·refine Ah (Ai (Ad (Ab (Qx (oA Y) Y (Qm Y (Ak ?_))))));refine Al (l.length-(k+1)) _ ω ⟨k+1,Y,Y,Y,Y,ω,λj hj hjk=>?_⟩ Qs;rcases (ω:j<k\/j=k) with h2|rfl
   ·exact hno j hj h2
   ·exact bk.1 hz
 ·obtain rfl:k=l.length:=ω
  refine Av (Aa (Aa (Af (Ad (Aq (Qm Y (Qm Y (Am (An ?_)))))))));exact Ap Y Y (⟨_,Y,.inr ⟨Y,λj hj=>hno j hj hj⟩⟩)
theorem AcN(g:Nat)(a b c:Int)(h:Hp)(ms:List Hp)(hm:Bh g 3 [.int .i64 a,.int .i64 b,.int .i64 c]∈ms):FnV Tryz.prog 149 #[.slice (some ⟨g,0,none⟩) 3 3] h ms (.int .i64 (or3 a b c)):=
 CF λh' _ hl=>DW ((Acx _ [a,b,c] h' ((OwnL.blk (g:=g) (el:=3) (F:=cI) (l:=[a,b,c]) 3 Bi rfl δ).rdh (h:=h') (ms:=[]) (hl _ hm)) σ).mono λr _ _ ⟨x,e,hx⟩=>by rw[e,Aa7 hx]) []
theorem AbY(T:List (Int×Int))(gA gm g:Nat)(mA:Hp)(bs:List Nat)(x y:CeI)(h:Hp)(e10:∀ms,Cell h ms (⟨g,0,none⟩:Addr) (.pointer (some ⟨gm,0,none⟩)))(e2:∀ms,Cell h ms (⟨gm,2,none⟩:Addr) (.map (some gA)))(O:C4 kN kN gA BS mA T bs)(lA:mA.le h)(ms:List Hp) :
  FnV Tryz.prog 148 #[.agg (Kt x).toArray,.agg (Kt y).toArray,.pt g] h ms (.w (L6 (λc=>(Bz T c).getD 0) x y)):=by
 refine DW ?_ ms;have o1:=x.one;have o2:=y.one;show FnT _ _ #[.agg #[.w x.c.id,.w x.c.dim,x.v],.agg #[.w y.c.id,.w y.c.dim,y.v],.pt g] _ _ _;refine Au func148 ntmps148 Y Y (λw0 hw0=>?_);simp only[A6];refine Aq (AP [_,_,_] Y Y (by rfl) Y Y Y (λg3=>AP [_,_,_] Y Y (by rfl) Y Y Y (λg4=>Qm Y (Am (Ax λh1 l1 hG4=>(Ax λh2 l2 hG3=>?_))))));have hG4:=hG4.le l2;have l12:=AE l1 l2;have e10:∀ms,Cell h2 ms (⟨g,0,none⟩:Addr) (.pt gm):=λms=>(e10 ms).le l12;have e2:∀ms,Cell h2 ms (⟨gm,2,none⟩:Addr) (.map (some gA)):=λms=>(e2 ms).le l12;have e30:∀ms,Cell h2 ms (⟨g3,0,none⟩:Addr) (.w x.c.id):=λms=>Seg.all hG3 0 _ Y ms;have e31:∀ms,Cell h2 ms (⟨g3,1,none⟩:Addr) (.w x.c.dim):=λms=>Seg.all hG3 1 _ Y ms;have e40:∀ms,Cell h2 ms (⟨g4,0,none⟩:Addr) (.w y.c.id):=λms=>Seg.all hG4 0 _ Y ms;have e41:∀ms,Cell h2 ms (⟨g4,1,none⟩:Addr) (.w y.c.dim):=λms=>Seg.all hG4 1 _ Y ms;refine Ac (Bc 24 CT κ Y (Wl Y Vi (e10 _) (Wm Y (Wf KV Y (Wl Y Mu (e2 _) (Wf Bq Y (Wl Y U3 (e30 _) (AM (Cy (V:=kN) (z:=(0:Int)) (u:=(Bz T x.c.id).getD 0) x.c.id Y BA O (AE lA l12) Y Mu Ij Y Y x.i) Y Y (Wl Y Vi (e10 _) (Wm Y (Wf KV Y (Wl Y Mu (e2 _) (Wf Bq Y (Wl Y U3 (e40 _) (AM (Cy (V:=kN) (z:=(0:Int)) (u:=(Bz T y.c.id).getD 0) y.c.id Y BA O (AE lA l12) Y Mu Ij Y Y y.i) Y Y (AM (AH Y call150 Y (GB _ _ _ _)) Y Y (Wf BZ Y (Wl Y U3 (e31 _) (Wf BZ Y (Wl Y U3 (e41 _) (AM (AH Y call150 Y (GB _ _ _ _)) Y Y (Wf Bq Y (Wl Y U3 (e30 _) (Wf Bq Y (Wl Y U3 (e40 _) (A7 (Qx (AH Y call150 Y (GB _ _ _ _)) Y (AB [(0,_),(1,_),(2,_)] [.w 0,.w 0,.w 0] [_,_,_] Y AN A0 Y ω κ Qt Y Y Y Y (λg31=>?_)))))))))))))))))))))))))))));refine Qx (AH Y call149 Y (AcN _ _ _ _ _ _ (by repeat (first|exact Mh|refine List.Mem.tail _ ?_)))) Y ?_;refine Qm Y (Am (An ?_));exact Ap Y Y (Y)
def CN(T:List (Int×Int))(c:Int):Int:=(Bz T c).getD 0
theorem T4(T:List (Int×Int))(gA gm g0:Nat)(mA:Hp)(bs:List Nat)(l:List CeI)(v:Value)(m h:Hp)(e10:∀ms,Cell h ms (⟨g0,0,none⟩:Addr) (.pointer (some ⟨gm,0,none⟩)))(e2:∀ms,Cell h ms (⟨gm,2,none⟩:Addr) (.map (some gA)))(OA:C4 kN kN gA BS mA T bs)(lA:mA.le h)(O:OwnL Kt 3 52 m v l)(hl:l.length<=1000000) :
  FnT Tryz.prog 147 #[v,.func (.func 148) #[] #[.pt g0]] h [m] (λ_ h' ms'=>h=h'/\∃(l':List CeI) (m':Hp),ms'=[m']/\OwnL Kt 3 52 m' v l'/\l'.Perm l/\l'.Pairwise λa b=>¬L6 (CN T) b a<0):=by
 intro w hw;obtain⟨⟨h1,h2⟩,hF⟩:=O;rcases h2 with ⟨rfl,h4,rfl⟩|⟨g,cap,spare,rfl,rfl,e1,e2',e3⟩
 ·obtain rfl:l=[]:=gz.1 h4;refine(AnyF.slices_SortFunc_none Tryz.laysSlF06 none 0 (.func (.func 148) #[] #[.pt g0]) w).mono λx w' ⟨e,ew⟩=>?_;subst ew;exact⟨_,h,[Hp.emp],e,Ends.refl hw,Y,[],Hp.emp,Y,OwnL.nil Ee,ik _,List.Pairwise.nil⟩
 ·have hg:w.heap[g]?=some (.cells (l.toArray.toList.flatMap Kt++spare).toArray 52 (0,0)):=hw.own _ (ao.2 Y) g _ (Hp.one_self _ _);have hlt:=(ba.1 hg).1
  have hlays:CmpLays Tryz.prog 148 #[.pt g0] Kt 3 (L6 (CN T)) g 0 l.toArray.size w:=λmm os dk hs x y=>by have hE:=M1 (enc:=Kt) (n:=mm) (el:=52) Ee ω l.toArray dk hs spare os hw;exact(AbY T gA gm g0 mA bs x y h e10 e2 OA lA [] _ (hE.st.weaken (Da) (List.nil_sublist _))).mono λ_ _ ⟨e,h⟩=>⟨e,h.grown⟩
  refine(AnyQ.slices_SortFunc Tryz.laysSlF06 3 Tryz.isAgg52 Tryz.sizeOf52 Kt Ee Oz (L6 (CN T)) (Pb _) 148 #[.pt g0] g 0 cap l.toArray w call148 hlays (TY Ee ω l.toArray spare hg) hlt (by simp;omega)).mono λx w' ⟨e,d',n,os,P,S,ew⟩=>?_;subst ew;have hsz:d'.size=l.length:=by have:=P.1;simpa using this
  have hE:=M1 (enc:=Kt) (n:=n) (el:=52) Ee ω l.toArray d' (by simpa using hsz) spare os hw;refine⟨_,h,_,e,hE,Y,d'.toList,_,Y,⟨⟨?_,.inr ⟨g,cap,spare,?_,Y,?_,?_,e3⟩⟩,Ee⟩,?_,?_⟩
  ·exact Bv Ee _
  ·have:d'.toList.length=l.length:=by rw[gq,hsz]
   rw[this]
  ·rw[ag,Bv Ee,gq,hsz,<-Bv Ee l,<-ag];exact e1
  ·rw[gq,hsz];exact e2'
  ·have h:=P.2.2;have q1:d'.extract 0 l.toArray.size=d':=by rw[<-P.1];simp
   have q2:l.toArray.extract 0 l.toArray.size=l.toArray:=by simp
   rw[q1,q2]at h;exact h
  ·rw[ax];intro i j hi hj hij;have hi':i<d'.size:=by simpa using hi
   have hj':j<d'.size:=by simpa using hj
   have h:=S i j ω hij (by simp;omega);have q1:d'[i]! = d'[i]:=by simp[hi']
   have q2:d'[j]! = d'[j]:=by simp[hj']
   rw[q1,q2]at h;exact of_decide_eq_false h
end
section
open Go.Lin Go.Sort Go.Srt
variable {p:Int} {S:List Ce} {i j:Nat}
def ColsO:Hp->List Value->List (List Int)->Prop
 | m,[],[]=>m=Hp.emp
 | m,v::vs,c::cs=>∃a b,m=a.join b/\a.disj b/\OwnL cI 1 3 a v c/\ColsO b vs cs
 | _,_,_=>False
theorem ColsO.len:∀{vs:List Value} {cs:List (List Int)} {m:Hp},ColsO m vs cs->vs.length=cs.length
 | [],[],_,_=>rfl
 | _::_,_::_,_,⟨_,_,_,_,_,h⟩=>by simp[h.len]
 | [],_::_,_,h=>h.elim
 | _::_,[],_,h=>h.elim
theorem ColsO.snoc{v:Value}{c:List Int}{b:Hp}(O:OwnL cI 1 3 b v c):∀{vs:List Value} {cs:List (List Int)} {m:Hp},ColsO m vs cs->m.disj b->ColsO (m.join b) (vs++[v]) (cs++[c])
 | [],[],m,h,hd=>by have h:m=Hp.emp:=h;subst h;exact⟨b,Hp.emp,by rw[Hp.join_emp,Hp.emp_join],λg=>.inr rfl,O,rfl⟩
 | _::_,_::_,m,⟨a,b',e,hd',O',h⟩,hd=>by subst e;refine⟨a,b'.join b,Hp.join_assoc _ _ _,?_,O',h.snoc O (Hp.disj_right hd)⟩;exact Hp.disj_symm (Hp.disj_join (Hp.disj_symm hd') (Hp.disj_symm (Hp.disj_left hd)))
 | [],_::_,_,h,_=>h.elim
 | _::_,[],_,h,_=>h.elim
def DO(S:List Ce):Nat->List (Int×Int)
 | 0=>[]
 | j+1=>Dq (DO S j) (S.getD j default).c.id (j:Int)
theorem It(S:List Ce)(c:Int):∀j,0<=(Bz (DO S j) c).getD 0/\(0<j->(Bz (DO S j) c).getD 0<j)
 | 0=>by simp[DO,Bz]
 | j+1=>by
  have ih:=It S c j;unfold DO;rw[Di];split
  ·simp only[i9];omega
  ·refine⟨ih.1,λ_=>?_⟩;rcases d8 j with rfl|h
   ·simp[DO,Bz]
   ·have:=ih.2 h;omega
theorem Mq(hn:(S.map λa=>a.c.id).Nodup)(hi:i<S.length):∀j,i<j->j<=S.length->Bz (DO S j) S[i].c.id=some (i:Int)
 | 0,h,_=>ω
 | j+1,h,hj=>by
  unfold DO;rw[Di];have ej:S.getD j default=S[j]:=by simp[List.getD,show j<S.length from by omega]
  rw[ej];split
  ·rename_i e
   have h1:i=j:=by have h2:=ax.1 hn;refine bc λhne=>?_;have h3:=h2 i j (by simpa using hi) (by simp;omega) ω;simp only[List.getElem_map]at h3;exact h3 e
   rw[h1]
  ·rename_i e;rcases (ω:i<j\/i=j) with h1|rfl
   ·exact Mq hn hi j h1 ω
   ·exact jt Y e
def pl(S:List Ce)(j:Nat)(c:Int):Nat:=((Bz (DO S j) c).getD 0).toNat
theorem SD(S:List Ce)(j:Nat)(c:Int):((pl S j c:Nat):Int)=(Bz (DO S j) c).getD 0:=fd (It S c j).1
theorem AcB(S:List Ce)(hj:0<j)(c:Int):pl S j c<j:=by have h1:=(It S c j).2 hj;have h2:=SD S j c;omega
theorem RH(hn:(S.map λa=>a.c.id).Nodup)(hij:i<j)(hj:j<=S.length):pl S j (S.getD i default).c.id=i:=by
 have hi:i<S.length:=ω
 unfold pl;rw[show S.getD i default=S[i] by simp[List.getD,hi],Mq hn hi j hij hj];rfl
def D8(p:Int)(S:List Ce)(j k:Nat):List Int:=((S.getD j default).c.sd.take k).foldl (λc s=>c.set (pl S (j+1) s.1) ((s.2+p)%p)) (replicate S.length 0)
def C5(p:Int)(S:List Ce)(j:Nat):List Int:=D8 p S j (S.getD j default).c.sd.length
def C0(n j:Nat):List Int:=(replicate n 0).set j 1
theorem H7{k:Nat}(hk:k<(S.getD j default).c.sd.length):D8 p S j (k+1)=(D8 p S j k).set (pl S (j+1) ((S.getD j default).c.sd[k]).1) (((S.getD j default).c.sd[k].2+p)%p):=by unfold D8;rw[ak hk,List.foldl_append];rfl
theorem Dw(p:Int)(S:List Ce)(j k:Nat):(D8 p S j k).length=S.length:=by
 unfold D8
 have:∀(l:List (Int×Int)) (c:List Int),(l.foldl (λc s=>c.set (pl S (j+1) s.1) ((s.2+p)%p)) c).length=c.length:=λl=>by
  induction l with
  | nil=>intro c;rfl
  | cons a l ih=>intro c;rw[jg,ih,e8]
 rw[this,List.length_replicate]
theorem Sn{x:Int}{l:List Int}(h:JM p l)(hx:0<=x/\x<p):JM p (l.set i x):=λy hy=>by
 rcases List.mem_or_eq_of_mem_set hy with h1|rfl
 ·exact h y h1
 ·exact hx
theorem Ta(hp:0<p)(n:Nat):JM p (replicate n 0):=λy hy=>by rw[(List.mem_replicate.1 hy).2];omega
theorem Jn(hp:0<p)(S:List Ce)(j k:Nat):JM p (D8 p S j k):=by
 unfold D8
 have:∀(l:List (Int×Int)) (c:List Int),JM p c->JM p (l.foldl (λc s=>c.set (pl S (j+1) s.1) ((s.2+p)%p)) c):=λl=>by
  induction l with
  | nil=>intro c h;exact h
  | cons a l ih=>intro c h;exact ih _ (Sn h ⟨co _ ω,bw _ hp⟩)
 exact this _ _ (Ta hp _)
theorem JZ(n j:Nat):(C0 n j).length=n:=by unfold C0;simp
theorem MP(hp:2<=p)(n j:Nat):JM p (C0 n j):=Sn (Ta ω n) ω
theorem Fs{α:Type}(f:Nat->α)(j:Nat):(range (j+1)).map f=(range j).map f++[f j]:=by rw[List.range_succ,bm];rfl
end
section
open Go.Lin Go.Sort Go.Srt
variable {e:Entry} {Q:Exit->Act->World->Prop} {ops:Array Oper} {s:AF} {h:Hp} {ms:List Hp}
def Ma(f:Int->Int)(S:List Ce):Prop:=S.Pairwise λa b=>f a.c.id<f b.c.id\/(f a.c.id=f b.c.id/\(a.c.dim<b.c.dim\/(a.c.dim=b.c.dim/\a.c.id<=b.c.id)))
theorem Tk{f:Int->Int}{l:List CeI}(h:l.Pairwise λa b=>¬L6 f b a<0):Ma f (l.map CeI.ce):=by unfold Ma;rw[cm];refine h.imp λ{a b} h=>?_;rw[JA]at h;show f a.c.id<f b.c.id\/(f a.c.id=f b.c.id/\(a.c.dim<b.c.dim\/(a.c.dim=b.c.dim/\a.c.id<=b.c.id)));omega
def box0:List Value:=.int .i64 0::.slice none 0 0::.map none::.slice none 0 0::.slice none 0 0::replicate 400 (.int .i64 0)
theorem PL(p:Int)(vA:Value)(gL:Nat):OG box0 [(0,[.int .i64 p]),(1,[vA]),(2,[.map (some gL)])]=EI p vA gL (.slice none 0 0) (.slice none 0 0) (replicate 400 0):=by unfold box0 EI;rw[List.map_replicate];rfl
theorem PF:box0.length=405:=by unfold box0;simp
theorem Ab8{v:Value}(h:v.oneCell'=true):∀a∈[v],∀c∈cU a,c.oneCell'=true:=λa ha c hc=>by rw[ao.1 ha]at hc;rw[ao.1 (show c∈[v] from hc)];exact h
theorem G6{rest:List Oper}{o:Oper}{d g:Nat}{x y:Operand}{v q:Value}{m:Hp}{l:List Value}(i:Nat)(O:OwnL cU 1 22 m v l)(hm:Bh g 22 [q]∈ms)(hl:l.length<=400)(hP:e.P=Tryz.prog)(ho:o.op=.call { callee:=.builtin .append,args:=#[x,y],argTypes:=#[81,81] })
  (hx:ev s x=some v) (hy:ev s y=some (.slice (some ⟨g,0,none⟩) 1 1)) (hi:ms[i]?=some m) (hq:q.oneCell'=true) (hd:o.dst=some d) (hn:Nat.blt d e.n=true) (hg:o.guard=none) (K:∀v' m',OwnL cU 1 22 m' v' (l++[q])->WL e ops Q rest ((d,v')::s) h (ms.set i m')):WL e ops Q (o::rest) s h ms:=
 Bp i O (RdL.one Ny (x:=q) hm rfl) ho (hP ▸ CA) (hP ▸ CI) rfl ω hx hy hi (Ab8 hq) (by simp only[ab];omega) (by simp only[ab];omega) hd hn hg K
theorem F8{rest:List Oper}{o:Oper}{d n c:Nat}{x:Operand}{a:Option Addr}(hP:e.P=Tryz.prog)(ho:o.op=.buildSlice 81 1 #[(0,x)])(hx:ev s x=some (.slice a n c))(hd:o.dst=some d)(hn:Nat.blt d e.n=true)(hg:o.guard=none)(k:∀g,WL e ops Q rest ((d,.slice (some ⟨g,0,none⟩) 1 1)::s) h (Bh g 22 [.slice a n c]::ms)):WL e ops Q (o::rest) s h ms:=
 Aw [_] ho (hP ▸ CA) (hP ▸ CI) hx rfl rfl rfl σ hd hn hg k
theorem Wx{h0:Hp}{n:Nat}{listed:Array Bool}(n2:Nat)(L2:Array Bool)(I:AF->List Hp->Prop)(k1:∀L s ms,L=L2->I s ms->WB e ops Q h0 n2 L s h ms)(k2:(∀L s ms,L=L2->I s ms->WB e ops Q h0 n2 L s h ms)->WB e ops Q h0 n listed s h ms):WB e ops Q h0 n listed s h ms:=k2 k1
theorem QV(l:List Ce)(F:List (Int×Int))(v vf:Value)(p:Int)(hp:Hp)(hK:RgC l)(hR:RdC hp v l)(hF:RdL cV 2 hp [] vf F)(hV:Ir F)(h0:DN (cn l) F=(0,0))(hP:IsP p)(hl:l.length<=400):FnT Tryz.prog 91 #[.agg #[v],vf,.int .i64 p] hp [] (λr h' ms'=>hp.le h'/\∃(gm gA:Nat) (mA:Hp) (bs:List Nat) (S:List Ce) (vc vr vv:Value) (Rs Vs:List Value) (mR mV:Hp),r=.tuple #[.pointer (some ⟨gm,0,none⟩),.int .i64 0]/\ms'=[Bh gm 130 (EI p vc gA vr vv (replicate 400 0)),mR,mV]/\C4 kN kN gA BS mA (Bn F) bs/\mA.le h'/\RdL cC 3 h' [] vc S/\RdL cU 1 h' [] vr Rs/\RdL cU 1 h' [] vv Vs/\ColsO mR Rs ((range S.length).map (C5 p S))/\ColsO mV Vs ((range S.length).map (C0 S.length))/\(S.map Ce.c).Perm (cn l)/\Ma (CN (Bn F)) S/\∀a∈S,RdL cD 2 h' [] a.v a.c.sd):=by
 have o1:=hR.q.rd.one;have o2:=hF.rd.one;have hp1:=hP.1;have hp2:=hP.2.1;have hG:=hK.F.rgt;refine Au func91 ntmps91 Y Y (λw0 hw0=>?_);simp only[A6];refine Aq (AP [_] Y Y (by rfl) Y Y Y (λg3=>Qm Y (Qm Y (Am (Ax λh1 l1 hS=>?_)))));have hR:=hR.up l1;have hF:=hF.up l1;have hck:=FF l F v vf h1 hK hR hF hV;rw[h0]at hck;refine Ac (Aq (Qx (oG Y CS A8 (Seg.any hS)) Y (Qm Y (Qx (AH Y call24 Y (DW hck _)) Y (Qm Y (Qm Y (Qm Y (Qm Y (Qm Y (BM (Qm Y (Qm Y (Am (Ao Y (λhc=>jt hc (λh=>h Y)) (λhc=>Ah (Ad (Aq (Qm Y (Qx (oG Y CS A8 (Seg.any hS)) Y (Qc call65 Y (HY l v _ hK hR) (λrC h2 ms2 l2 hQ=>?_)))))))))))))))))))));obtain⟨l2',mC,A,vA,rfl,rfl,hOC,hAl,hsA⟩:=hQ;have hF:=hF.up l2;refine Qx (Er Y CS Y Bm Y Y Y) Y (Qm Y (Qc call66 Y (HP F vf _ hF hV.n hV.k) (λrL h3 ms3 l3 hL=>?_)));obtain⟨l3',gL,mL,bL,rfl,rfl,hOL⟩:=hL;have hsA:=λa ha=>(hsA a ha).up l3
 have hAid:∀a∈A,BS a.c.id:=λa ha=>by
  have h1:a.c∈cn l:=by rw[<-hAl];exact ad.2 ⟨a,ha,Y⟩
  have h2:=hG.pos _ h1;have h3:=hK.ci h1;unfold BS;omega
 obtain⟨A,rfl⟩:=RO A λa ha=>⟨(hsA a ha).rd.one,hAid a ha⟩
 have hOC:=own_ceI.1 hOC;have ovA:=hOC.o1;have cvA:vA.cells=#[vA]:=(hOC.rd (h:=h3) (ms:=[mC]) Mh).rd.cells;refine Qx (Bb AaD box0 [(0,[_]),(1,[vA]),(2,[_])] (EI p vA gL (.nl) (.nl) (replicate 400 0)) Y AaC κ Y (by rw[PF];exact⟨⟨Y,Y,Y⟩,⟨cvA,Y,Y⟩,⟨Y,Y,Y⟩,ff⟩) (PL p vA gL)) Y ?_;refine AP (EI p vA gL (.nl) (.nl) (replicate 400 0)) Y Y Y Y Y Y (λg34=>Cx [.pointer none] Y Ym Y Y (λg10=>AO 0 0 Y Ym Y Y (by rfl) Y Y δ Y Y (Am (Ax λh4 l4 hG10=>(EC 1 Y (Bx λh5 l5 lL=>(GW λh6 l6 lG dG LG=>?_)))))));have l36:=AE l4 (AE l5 l6);have hG6:=hG10.le (AE l5 l6);have hS6:=Seg.ofLe lG;have e10:∀ms,Cell h6 ms (⟨g10,0,none⟩:Addr) (.pt g34):=λms=>Seg.all hG6 0 _ Y ms;have e1:∀ms,Cell h6 ms (⟨g34,1,none⟩:Addr) vA:=λms=>Seg.all hS6 1 _ Y ms;have e2:∀ms,Cell h6 ms (⟨g34,2,none⟩:Addr) (.map (some gL)):=λms=>Seg.all hS6 2 _ Y ms;have hAlen:A.length=l.length:=by have:=aw List.length hAl;rw[Dg]at this;simpa using this
 have hOC6:=hOC.rd (h:=h6) (ms:=[mC]) Mh;have hpv:=KX p h6 (by unfold BS;omega);rw[ai hP]at hpv;refine Ac (Ag (Aq (Qm Y (Qx (AH Y call54 Y (hpv _)) Y (Qm Y (Qm Y (Am (AQ Y (Aq (Ql Y Vi (e10 _) (Qm Y (Qf Fx Y (Ql Y Bm (e1 _) (Qx (As hOC6.rd Y Bm Y) Y (Qm Y (Qm Y (Am ?_)))))))))))))))));refine Ao Y (λhc=>jt hc (λh=>ω)) (λhc=>?_);refine Ah (Ai (Ad (Aq (Ql Y Vi (e10 _) (Qm Y (Qf Fx Y (Ql Y Bm (e1 _) (Qx (Cc Y Y Y) Y (Bs (pre:=[mC]) Y call147 Y (T4 (Bn F) gL g34 g10 mL bL A vA mC h6 e10 e2 hOL (AE lL l6) hOC ω) Y Y Y Y (λ_ h7 ms7 l7 hQ=>?_))))))))));obtain⟨rfl,A',mC',rfl,hOC',hpm,hsr⟩:=hQ;refine Am (Ga LG lG λh7 q7 b7=>(EC 1 Y (A9 (own_ceI.2 hOC') λh8 l8 hQ=>?_)));have l57:h5.le h7:=b7 _ l6 dG;have l58:=AE l57 l8;have hG8:=hG10.le (AE l5 l58);have lL8:=AE lL l58;have l38:=AE l4 (AE l5 l58);have e10:∀ms,Cell h8 ms (⟨g10,0,none⟩:Addr) (.pt g34):=λms=>Seg.all hG8 0 _ Y ms;obtain⟨S,hSe⟩:∃S,A'.map CeI.ce=S:=⟨_,Y⟩
 have hsrt:=Tk hsr;have hSp:S.Perm (A.map CeI.ce):=by rw[<-hSe];exact hpm.map _
 have hSc:(S.map Ce.c).Perm (cn l):=by rw[<-hAl];exact hSp.map _
 have hSA:∀a∈S,RdL cD 2 h8 [] a.v a.c.sd:=λa ha=>(hsA a (hSp.mem_iff.1 ha)).up l38;have hSi:∀a∈S,BS a.c.id:=λa ha=>hAid a (hSp.mem_iff.1 ha)
 have hSs:∀a∈S,a.c.sd.length<=64/\∀s∈a.c.sd,BS s.1/\(s.2=1\/s.2=-1):=λa ha=>by have h1:a.c∈cn l:=hSc.mem_iff.1 (ad.2 ⟨a,ha,Y⟩);refine⟨(hK.F.bds h1).2.1,λs hs=>⟨?_,hG.sgn _ h1 s hs⟩⟩;obtain⟨y,hy,e,_⟩:=hG.sid _ h1 s hs;have h2:=hG.pos _ hy;have h3:=hK.ci hy;rw[<-e];unfold BS;omega
 have hSn:S.length<=400:=by have:=hSc.length_eq;rw[af,Dg]at this;omega
 rw[hSe]at hsrt hQ;have ovA:=hQ.rd.one;refine Aq (Dh (K:=kN) (V:=kN) (Ok:=BS) Y Y Y Y (λgP mP hP0=>Qm Y (Am (BT (BT (BT (BT (Ac (Aq (Ql Y Vi (e10 _) (Qm Y (Qf Fx Y (Ql Y Bm (Cell.blk 5 (k:=1) Y Y) (Qx (As hQ.rd.any Y Bm Y) Y (Qm Y (Am (Ag ?_)))))))))))))))))
 refine Ay (λq sl h' ms'=>∃(j:Nat) (vr vv:Value) (mr mv mR mV mP:Hp) (Rs Vs:List Value) (bs:List Nat),q=S.length-j/\sl=[(2,.w p),(10,.pt g10),(11,.map (some gP)),(56,vA),(57,.w S.length),(58,.w j)]/\h8.le h'/\ms'=[mr,mv,mR,mV,mP,Bh g34 130 (EI p vA gL vr vv (replicate 400 0))]/\j<=S.length/\C4 kN kN gP BS mP (DO S j) bs/\OwnL cU 1 22 mr vr Rs/\OwnL cU 1 22 mv vv Vs/\ColsO mR Rs ((range j).map (C5 p S))/\ColsO mV Vs ((range j).map (C0 S.length))/\Rs.length=j/\Vs.length=j)
  (S.length-0) _ ⟨0,.nl,.nl,Hp.emp,Hp.emp,Hp.emp,Hp.emp,mP,[],[],[],rfl,rfl,Da,rfl,ω,hP0,OwnL.nil Ny,OwnL.nil Ny,rfl,rfl,rfl,rfl⟩ Qs ?_
 rintro q sl h' ms' ⟨j,vr,vv,mr,mv,mR,mV,mP,Rs,Vs,bs,rfl,rfl,l9,rfl,hj,hO,Or,Ov,CR,CV,hRl,hVl⟩;have hQ:=hQ.up l9;have e10:∀ms,Cell h' ms (⟨g10,0,none⟩:Addr) (.pt g34):=λms=>(e10 ms).le l9;have ovr:=Or.o1;have ovv:=Ov.o1;refine Aq (Qm Y (Am (Ac ?_)));refine Ao Y (λhlt=>?_) (λhlt=>?_)
 ·have hjl:j<S.length:=ω
  obtain⟨x,hx⟩:∃x,S[j]=x:=⟨_,Y⟩
  have hxm:x∈S:=by rw[<-hx];exact ae hjl
  have hgx:S.getD j default=x:=by simp[List.getD,hjl,hx]
  have hX:=(hSA x hxm).up l9;have oxv:=hX.rd.one;have hxI:=hSi x hxm;obtain⟨hxn,hxs⟩:=hSs x hxm;have hsx:∀ms,Seg h' ms ((AG vA).add (j*3)) (cC x):=λms=>by rw[<-hx];exact(hQ.any (ms:=ms)).seg hjl
  refine Ah (Ad ?_);refine Bg (λsl h'' ms'=>∃(vr' vv' va vb:Value) (mr' mv' mc mo mP':Hp) (bs':List Nat),sl=[(2,.w p),(10,.pt g10),(11,.map (some gP)),(56,vA),(57,.w S.length),(58,.w j)]/\h'.le h''/\ms'=[Bh g34 130 (EI p vA gL vr' vv' (replicate 400 0)),mP',mc,mo,mr',mv',mR,mV]/\C4 kN kN gP BS mP' (DO S (j+1)) bs'/\OwnL cU 1 22 mr' vr' (Rs++[va])/\OwnL cU 1 22 mv' vv' (Vs++[vb])/\OwnL cI 1 3 mc va (C5 p S j)/\OwnL cI 1 3 mo vb (C0 S.length j)) ?_ (λs h ms hI=>?_)
  ·refine Ag (Aq (Qm Y (Qx (BN (j) hQ.rd.any Y Bm AI Y Y) Y (Qx (oG Y Ey AI (hsx _)) Y (Cx [.w 0,.w 0,.nl] Y AI Y Y (λg13=>Qm Y ?_))))));refine Sa 0 [_,_,_] AI Y (by simp[o1,o2,ovA,oxv,ovr,ovv]) ?_;refine Am (Ax λh10 l10 hS13=>?_);have e130:∀ms,Cell h10 ms (⟨g13,0,none⟩:Addr) (.w x.c.id):=λms=>Seg.all hS13 0 _ Y ms;refine Aq (Qm Y (Qf Bq Y (Ql Y U3 (e130 _) (Qm Y (B4 (V:=kN) (z:=undef) 4 x.c.id (j:Int) BA hO Y Y Mu Y Y Y hxI Y Y (λmP' bs' hO'=>?_))))));have hpl:DO S (j+1)=Dq (DO S j) x.c.id (j:Int):=by rw[<-hgx];rfl
   rw[<-hpl]at hO';refine Am (EC 5 Y (GW λh11 l11 lG dG LG=>(EC 4 Y (GW λh12 l12 lP dP LP=>?_))));have l912:=AE l10 (AE l11 l12);have hX:=hX.up l912;have hS12:=(Seg.ofLe lG).le l12;have e10':∀ms,Cell h12 ms (⟨g10,0,none⟩:Addr) (.pt g34):=λms=>(e10 ms).le l912;have e11':∀ms,Cell h12 ms (⟨g34,1,none⟩:Addr) vA:=λms=>Seg.all hS12 1 _ Y ms;have e132':∀ms,Cell h12 ms (⟨g13,2,none⟩:Addr) x.v:=λms=>((Seg.all hS13 2 _ Y ms).le l11).le l12;have e130':∀ms,Cell h12 ms (⟨g13,0,none⟩:Addr) (.w x.c.id):=λms=>((e130 ms).le l11).le l12;have hQ12:=hQ.up l912;refine Bg (λsl h' ms'=>∃ga gb:Nat,sl=[(2,.w p),(10,.pt g10),(11,.map (some gP)),(12,.w j),(13,.pt g13),(14,.slice (some ⟨ga,0,none⟩) S.length S.length),(15,.slice (some ⟨gb,0,none⟩) S.length S.length),(56,vA),(57,.w S.length),(58,.w j)]/\h12=h'/\ms'=[Bh ga 3 (replicate S.length (.w 0)),Bh gb 3 (replicate S.length (.w 0)),mr,mv,mR,mV]) ?_ (λs h ms hI=>?_)
   ·refine BK (n:=14) (bs:=[true,true,true,true,true,false,true,true,true,true,true,false,false,false]) [true,true,true,true,true,false,true,true,true,true,true] CT κ κ Y Y (QL Y Vi (e10' _) (Qq Y (QF Fx Y (QL Y Bm (e11' _) (Qp Y (As hQ12.rd.any Y Bm Y) (QL Y Vi (e10' _) (Qq Y (QF Fx Y (QL Y Bm (e11' _) (Qp Y (As hQ12.rd.any Y Bm Y) ?_))))))))));unfold Fm;simp only[bl,ay];refine Bf [5,11] κ Y ?_;refine AD Y ?_ ?_
    ·refine CL (n:=_) Y AN A0 Y Y Y (by rfl) (by rfl) ω ω Y Y Y (λg72=>Qw (Bf [11,12] κ Y ?_));refine AD Y ?_ ?_
     ·refine CL (n:=_) Y AN A0 Y Y Y (by rfl) (by rfl) ω ω Y Y Y (λg78=>Qw (Qo 12 Y (Qm Y (Qw (Qo 13 Y (Qm Y (Qw (Qe ?_))))))))
      (refine JD (List.Perm.swap _ _ _) ?_;exact Az _ ⟨g72,g78,Y,Y,Y⟩ Qs)
     refine AD Y ?_ ?_
     ·refine Qm Y (Qw (Qo 11 Y (CL (n:=_) Y AN A0 Y Y Y (by rfl) (by rfl) ω ω Y Y Y (λg78=>Qw (Qo 13 Y (Qm Y (Qw (Qe ?_))))))))
      (refine JD (List.Perm.swap _ _ _) ?_;exact Az _ ⟨g72,g78,Y,Y,Y⟩ Qs)
     exact Be
    refine AD Y ?_ ?_
    ·refine CL (n:=_) Y AN A0 Y Y Y (by rfl) (by rfl) ω ω Y Y Y (λg78=>Qw (Qo 5 Y (CL (n:=_) Y AN A0 Y Y Y (by rfl) (by rfl) ω ω Y Y Y (λg72=>Qw (Qo 12 Y (Qm Y (Qw (Qo 13 Y (Qm Y (Qw (Qe ?_)))))))))));exact Az _ ⟨g72,g78,Y,Y,Y⟩ Qs
    exact Be
   ·obtain⟨ga,gb,rfl,rfl,rfl⟩:=hI;have hO1:OwnL cI 1 3 (Bh ga 3 (replicate S.length (.w 0))) (.slice (some ⟨ga,0,none⟩) S.length S.length) (D8 p S j 0):=OwnL.rep _ 0 ω;have hO2:OwnL cI 1 3 (Bh gb 3 (replicate S.length (.w 0))) (.slice (some ⟨gb,0,none⟩) S.length S.length) (replicate S.length 0):=OwnL.rep _ 0 ω;have hpP:0<j+1:=ω
    refine Ac (Aq (Qf BI Y (Ql Y Cf (e132' _) (Qx (As hX.rd.any Y Cf Y) Y (Qm Y (Am (Ag ?_)))))))
    refine Ay (λq sl h' ms'=>∃(k:Nat) (mc:Hp),q=x.c.sd.length-k/\sl=[(2,.w p),(10,.pt g10),(11,.map (some gP)),(12,.w j),(14,.slice (some ⟨ga,0,none⟩) S.length S.length),(15,.slice (some ⟨gb,0,none⟩) S.length S.length),(56,vA),(57,.w S.length),(58,.w j),(80,x.v),(81,.w x.c.sd.length),(82,.w k)]/\h12.le h'/\ms'=[mc,Bh gb 3 (replicate S.length (.w 0)),mr,mv,mR,mV]/\k<=x.c.sd.length/\OwnL cI 1 3 mc (.slice (some ⟨ga,0,none⟩) S.length S.length) (D8 p S j k))
     (x.c.sd.length-0) _ ⟨0,_,rfl,rfl,Da,rfl,ω,hO1⟩ Qs ?_
    rintro q sl h13 ms' ⟨k,mc,rfl,rfl,l13,rfl,hk,hOc⟩;have hX:=hX.up l13;refine Aq (Qm Y (Am (Ac ?_)));refine Ao Y (λhlk=>?_) (λhlk=>?_)
    ·have hkl:k<x.c.sd.length:=ω
     obtain⟨s,hs⟩:∃s,x.c.sd[k]=s:=⟨_,Y⟩
     have hsm:s∈x.c.sd:=by rw[<-hs];exact ae hkl
     obtain⟨hs1,hs2⟩:=hxs s hsm;have hss:∀ms,Seg h13 ms ((AG x.v).add (k*2)) (cD s):=λms=>by rw[<-hs];exact(hX.any (ms:=ms)).seg hkl
     have hplt:pl S (j+1) s.1<(D8 p S j k).length:=by rw[Dw];have:=AcB S hpP s.1;omega
     have hcs:D8 p S j (k+1)=(D8 p S j k).set (pl S (j+1) s.1) ((s.2+p)%p):=by
      have hkg:k<(S.getD j default).c.sd.length:=by rw[hgx];exact hkl
      rw[H7 hkg];have:(S.getD j default).c.sd[k]=s:=by simp only[hgx,hs]
      rw[this]
     rw[Dw]at hplt;refine Ah (Ad (Ac (Ag (Aq (Qx (BN (k) hX.rd.any Y Cf AS Y Y) Y (Qx (oG Y Eh AS (hss _)) Y (Cx [.w 0,.w 0] Y AS Y Y (λg17=>?_))))))));refine Sa 0 [_,_] AS Y (by simp[Value.oneCell']) ?_;refine Am (Ax λh14 l14 hS17=>?_);have e170:∀ms,Cell h14 ms (⟨g17,0,none⟩:Addr) (.w s.1):=λms=>Seg.all hS17 0 _ Y ms;have e171:∀ms,Cell h14 ms (⟨g17,1,none⟩:Addr) (.w s.2):=λms=>Seg.all hS17 1 _ Y ms;refine Bc 11 CT κ Y (Wm Y (Wm Y (Wf Cm Y (Wl Y U3 (e170 _) (AM (Cy (V:=kN) (z:=(0:Int)) (u:=((pl S (j+1) s.1:Nat):Int)) s.1 (SD S (j+1) s.1).symm BA hO' (AE lP (AE l13 l14)) Y Mu Ij Y Y hs1) Y Y (Wf Dt Y (Wl Y U3 (e171 _) (Wm Y (AM (oA Y) Y Y (Wm Y (AM (BH Y Y Y ω ω) Y Y (A7 (Qx (Co (pl S (j+1) s.1) Y AN A0 Y Y ω ω) Y ?_)))))))))))));refine BQ 0 (pl S (j+1) s.1) hOc Y A0 Y Y Y (by rw[Dw];exact hplt) Y Y (λmc' hOc'=>?_);rw[<-hcs]at hOc';refine Ak (Ai (Ad (Ab (Qx (oA Y) Y (Qm Y (Ak ?_))))));exact Al (x.c.sd.length-(k+1)) _ ω ⟨k+1,mc',Y,Y,AE l13 l14,Y,ω,hOc'⟩ Qs
    ·obtain rfl:k=x.c.sd.length:=ω
     refine Av (Aa (Aa (Af (Ad (Aq (Qm Y (Qm Y (Qx (Co (j) Y AN A0 Y Y ω ω) Y ?_))))))));refine BQ 1 j hO2 Y A0 Y Y Y (by simp;omega) rfl rfl (λmo' hO2'=>?_);refine Am (Ga LP (AE lP l13) λh14 q14 b14=>(Ga LG (b14 _ (AE lG (AE l12 l13)) (Gb lG dP)) λh15 q15 b15=>?_));have l1015:h10.le h15:=b15 _ (b14 _ (AE l11 (AE l12 l13)) (Gb l11 dP)) dG;have l915:=AE l10 l1015;have e10:∀ms,Cell h15 ms (⟨g10,0,none⟩:Addr) (.pt g34):=λms=>(e10 ms).le l915;have hcD:D8 p S j x.c.sd.length=C5 p S j:=by unfold C5;rw[hgx]
     rw[hcD]at hOc;refine BK (n:=22) (bs:=[true,true,true,true,true,false,true,false,false,true,true,true,false,true,false,false,true,true,false,true,true,false]) [true,true,true,true,true,false,true,false,false,true,true,true,false,true,false,false,true,true,false,true,true] CT κ κ Y Y (QL Y Vi (e10 _) (QL Y Vi (e10 _) (QL Y Vi (e10 _) (Qq Y (QF E9 Y (Qq Y (QL Y Vi (e10 _) (Qq Y (QF KP Y (Qq Y (Qq Y (QF E9 Y (Qq Y (QF KP Y ?_))))))))))))));unfold Fm;simp only[bl,ay];refine Wx 17 #[true,true,true,true,true,true,true,true,true,true,true,true,true,true,true,false,true,true,false,true,true,false] (λs ms=>∃B1 B2 gY v2 m2,ms=[B1,B2,Bh g34 130 (EI p vA gL vr vv (replicate 400 0)),mP',mc,mo',m2,mv,mR,mV]/\Bh gY 22 [.slice (some ⟨gb,0,none⟩) S.length S.length]∈[B1,B2]/\OwnL cU 1 22 m2 v2 (Rs++[.slice (some ⟨ga,0,none⟩) S.length S.length])/\Eng.Sub [(110,v2),(114,vv),(116,.slice (some ⟨gY,0,none⟩) 1 1),(119,.pointer (some ⟨g34,3,none⟩)),(121,.pointer (some ⟨g34,4,none⟩)),(2,.w p),(10,.pt g10),(11,.map (some gP)),(56,vA),(57,.w S.length),(58,.w j)] s) ?_ (λfin=>?_)
     ·rintro _ s ms rfl ⟨B1,B2,gY,v2,m2,rfl,hm,hO8,hS⟩;refine Qo 15 Y (AbP hS (G6 7 Ov (List.mem_append_left _ hm) ω Y Y Y Y Y Y Y Y Y (λv3 m3 hO9=>Qw (Qo 18 Y ?_))));refine AO 2 3 Y Acp Y Y hO8.o1 Y Y (by rw[La];omega) rfl rfl ?_;refine Qw (Qo 21 Y ?_);refine AO 2 4 Y Acp Y Y hO9.o1 Y Y (by rw[e8,La];omega) rfl rfl ?_;refine Qw (Qe ?_);refine AX (AX (Ai ?_));exact Az _ ⟨v2,v3,_,_,m2,m3,mc,mo',mP',bs',Y,l915,Y,hO',hO8,hO9,hOc,hO2'⟩ Qs
     refine Bf [5,7,12,14] κ Y ?_;refine AD Y ?_ ?_
     ·refine Ql Y CA (Cell.blk 0 (k:=3) Y Y) (Qw (Bf [7,12,14] κ Y ?_));refine AD Y ?_ ?_
      ·refine F8 Y Y Y Y Y Y (λg109=>Qw (Bf [8,12,14] κ Y ?_));refine AD Y ?_ ?_
       ·refine G6 5 Or (.head _) ω Y Y Y Y Y Y Y Y Y (λv2 m2 hO8=>Qw (Bf [12,14] κ Y ?_));refine AD Y ?_ ?_
        ·refine Ql Y CA (Cell.blk 1 (k:=4) Y Y) (Qw (Qo 14 Y (F8 Y Y Y Y Y Y (λg116=>Qw ?_))));exact fin _ _ _ κ ⟨_,_,_,_,_,Y,(.head _),hO8,Qs⟩
        refine AD Y ?_ ?_
        ·refine F8 Y Y Y Y Y Y (λg116=>Qw (Qo 12 Y (Ql Y CA (Cell.blk 2 (k:=4) Y Y) (Qw ?_))));exact fin _ _ _ κ ⟨_,_,_,_,_,Y,(.head _),hO8,Qs⟩
        exact Be
       refine AD Y ?_ ?_
       ·refine Ql Y CA (Cell.blk 1 (k:=4) Y Y) (Qw (Bf [8,14] κ Y ?_));refine AD Y ?_ ?_
        ·refine G6 5 Or (.head _) ω Y Y Y Y Y Y Y Y Y (λv2 m2 hO8=>Qw (Qo 14 Y (F8 Y Y Y Y Y Y (λg116=>Qw ?_))));exact fin _ _ _ κ ⟨_,_,_,_,_,Y,(.head _),hO8,Qs⟩
        refine AD Y ?_ ?_
        ·refine F8 Y Y Y Y Y Y (λg116=>Qw (Qo 8 Y (G6 6 Or (.tail _ (.head _)) ω Y Y Y Y Y Y Y Y Y (λv2 m2 hO8=>Qw ?_))));exact fin _ _ _ κ ⟨_,_,_,_,_,Y,(.head _),hO8,Qs⟩
        exact Be
       refine AD Y ?_ ?_
       ·refine F8 Y Y Y Y Y Y (λg116=>Qw (Bf [8,12] κ Y ?_));refine AD Y ?_ ?_
        ·refine G6 6 Or (.tail _ (.head _)) ω Y Y Y Y Y Y Y Y Y (λv2 m2 hO8=>Qw (Qo 12 Y (Ql Y CA (Cell.blk 2 (k:=4) Y Y) (Qw ?_))));exact fin _ _ _ κ ⟨_,_,_,_,_,Y,(.head _),hO8,Qs⟩
        refine AD Y ?_ ?_
        ·refine Ql Y CA (Cell.blk 2 (k:=4) Y Y) (Qw (Qo 8 Y (G6 6 Or (.tail _ (.head _)) ω Y Y Y Y Y Y Y Y Y (λv2 m2 hO8=>Qw ?_))));exact fin _ _ _ κ ⟨_,_,_,_,_,Y,(.head _),hO8,Qs⟩
        exact Be
       exact Be
      refine AD Y ?_ ?_
      ·refine Ql Y CA (Cell.blk 0 (k:=4) Y Y) (Qw (Bf [7,14] κ Y ?_));refine AD Y ?_ ?_
       ·refine F8 Y Y Y Y Y Y (λg109=>Qw (Bf [8,14] κ Y ?_));refine AD Y ?_ ?_
        ·refine G6 5 Or (.head _) ω Y Y Y Y Y Y Y Y Y (λv2 m2 hO8=>Qw (Qo 14 Y (F8 Y Y Y Y Y Y (λg116=>Qw ?_))));exact fin _ _ _ κ ⟨_,_,_,_,_,Y,(.head _),hO8,Qs⟩
        refine AD Y ?_ ?_
        ·refine F8 Y Y Y Y Y Y (λg116=>Qw (Qo 8 Y (G6 6 Or (.tail _ (.head _)) ω Y Y Y Y Y Y Y Y Y (λv2 m2 hO8=>Qw ?_))));exact fin _ _ _ κ ⟨_,_,_,_,_,Y,(.head _),hO8,Qs⟩
        exact Be
       refine AD Y ?_ ?_
       ·refine F8 Y Y Y Y Y Y (λg116=>Qw (Qo 7 Y (F8 Y Y Y Y Y Y (λg109=>Qw (Qo 8 Y (G6 6 Or (.head _) ω Y Y Y Y Y Y Y Y Y (λv2 m2 hO8=>Qw ?_)))))));exact fin _ _ _ κ ⟨_,_,_,_,_,Y,(.tail _ (.head _)),hO8,Qs⟩
       exact Be
      refine AD Y ?_ ?_
      ·refine F8 Y Y Y Y Y Y (λg116=>Qw (Bf [7,12] κ Y ?_));refine AD Y ?_ ?_
       ·refine F8 Y Y Y Y Y Y (λg109=>Qw (Bf [8,12] κ Y ?_));refine AD Y ?_ ?_
        ·refine G6 6 Or (.head _) ω Y Y Y Y Y Y Y Y Y (λv2 m2 hO8=>Qw (Qo 12 Y (Ql Y CA (Cell.blk 2 (k:=4) Y Y) (Qw ?_))));exact fin _ _ _ κ ⟨_,_,_,_,_,Y,(.tail _ (.head _)),hO8,Qs⟩
        refine AD Y ?_ ?_
        ·refine Ql Y CA (Cell.blk 2 (k:=4) Y Y) (Qw (Qo 8 Y (G6 6 Or (.head _) ω Y Y Y Y Y Y Y Y Y (λv2 m2 hO8=>Qw ?_))));exact fin _ _ _ κ ⟨_,_,_,_,_,Y,(.tail _ (.head _)),hO8,Qs⟩
        exact Be
       refine AD Y ?_ ?_
       ·refine Ql Y CA (Cell.blk 1 (k:=4) Y Y) (Qw (Qo 7 Y (F8 Y Y Y Y Y Y (λg109=>Qw (Qo 8 Y (G6 6 Or (.head _) ω Y Y Y Y Y Y Y Y Y (λv2 m2 hO8=>Qw ?_)))))));exact fin _ _ _ κ ⟨_,_,_,_,_,Y,(.tail _ (.head _)),hO8,Qs⟩
       exact Be
      exact Be
     refine AD Y ?_ ?_
     ·refine F8 Y Y Y Y Y Y (λg109=>Qw (Bf [5,12,14] κ Y ?_));refine AD Y ?_ ?_
      ·refine Ql Y CA (Cell.blk 1 (k:=3) Y Y) (Qw (Bf [8,12,14] κ Y ?_));refine AD Y ?_ ?_
       ·refine G6 5 Or (.head _) ω Y Y Y Y Y Y Y Y Y (λv2 m2 hO8=>Qw (Bf [12,14] κ Y ?_));refine AD Y ?_ ?_
        ·refine Ql Y CA (Cell.blk 1 (k:=4) Y Y) (Qw (Qo 14 Y (F8 Y Y Y Y Y Y (λg116=>Qw ?_))));exact fin _ _ _ κ ⟨_,_,_,_,_,Y,(.head _),hO8,Qs⟩
        refine AD Y ?_ ?_
        ·refine F8 Y Y Y Y Y Y (λg116=>Qw (Qo 12 Y (Ql Y CA (Cell.blk 2 (k:=4) Y Y) (Qw ?_))));exact fin _ _ _ κ ⟨_,_,_,_,_,Y,(.head _),hO8,Qs⟩
        exact Be
       refine AD Y ?_ ?_
       ·refine Ql Y CA (Cell.blk 1 (k:=4) Y Y) (Qw (Bf [8,14] κ Y ?_));refine AD Y ?_ ?_
        ·refine G6 5 Or (.head _) ω Y Y Y Y Y Y Y Y Y (λv2 m2 hO8=>Qw (Qo 14 Y (F8 Y Y Y Y Y Y (λg116=>Qw ?_))));exact fin _ _ _ κ ⟨_,_,_,_,_,Y,(.head _),hO8,Qs⟩
        refine AD Y ?_ ?_
        ·refine F8 Y Y Y Y Y Y (λg116=>Qw (Qo 8 Y (G6 6 Or (.tail _ (.head _)) ω Y Y Y Y Y Y Y Y Y (λv2 m2 hO8=>Qw ?_))));exact fin _ _ _ κ ⟨_,_,_,_,_,Y,(.head _),hO8,Qs⟩
        exact Be
       refine AD Y ?_ ?_
       ·refine F8 Y Y Y Y Y Y (λg116=>Qw (Bf [8,12] κ Y ?_));refine AD Y ?_ ?_
        ·refine G6 6 Or (.tail _ (.head _)) ω Y Y Y Y Y Y Y Y Y (λv2 m2 hO8=>Qw (Qo 12 Y (Ql Y CA (Cell.blk 2 (k:=4) Y Y) (Qw ?_))));exact fin _ _ _ κ ⟨_,_,_,_,_,Y,(.head _),hO8,Qs⟩
        refine AD Y ?_ ?_
        ·refine Ql Y CA (Cell.blk 2 (k:=4) Y Y) (Qw (Qo 8 Y (G6 6 Or (.tail _ (.head _)) ω Y Y Y Y Y Y Y Y Y (λv2 m2 hO8=>Qw ?_))));exact fin _ _ _ κ ⟨_,_,_,_,_,Y,(.head _),hO8,Qs⟩
        exact Be
       exact Be
      refine AD Y ?_ ?_
      ·refine Ql Y CA (Cell.blk 1 (k:=4) Y Y) (Qw (Bf [5,14] κ Y ?_));refine AD Y ?_ ?_
       ·refine Ql Y CA (Cell.blk 1 (k:=3) Y Y) (Qw (Bf [8,14] κ Y ?_));refine AD Y ?_ ?_
        ·refine G6 5 Or (.head _) ω Y Y Y Y Y Y Y Y Y (λv2 m2 hO8=>Qw (Qo 14 Y (F8 Y Y Y Y Y Y (λg116=>Qw ?_))));exact fin _ _ _ κ ⟨_,_,_,_,_,Y,(.head _),hO8,Qs⟩
        refine AD Y ?_ ?_
        ·refine F8 Y Y Y Y Y Y (λg116=>Qw (Qo 8 Y (G6 6 Or (.tail _ (.head _)) ω Y Y Y Y Y Y Y Y Y (λv2 m2 hO8=>Qw ?_))));exact fin _ _ _ κ ⟨_,_,_,_,_,Y,(.head _),hO8,Qs⟩
        exact Be
       refine AD Y ?_ ?_
       ·refine F8 Y Y Y Y Y Y (λg116=>Qw (Qo 5 Y (Ql Y CA (Cell.blk 2 (k:=3) Y Y) (Qw (Qo 8 Y (G6 6 Or (.tail _ (.head _)) ω Y Y Y Y Y Y Y Y Y (λv2 m2 hO8=>Qw ?_)))))));exact fin _ _ _ κ ⟨_,_,_,_,_,Y,(.head _),hO8,Qs⟩
       exact Be
      refine AD Y ?_ ?_
      ·refine F8 Y Y Y Y Y Y (λg116=>Qw (Bf [5,12] κ Y ?_));refine AD Y ?_ ?_
       ·refine Ql Y CA (Cell.blk 2 (k:=3) Y Y) (Qw (Bf [8,12] κ Y ?_));refine AD Y ?_ ?_
        ·refine G6 6 Or (.tail _ (.head _)) ω Y Y Y Y Y Y Y Y Y (λv2 m2 hO8=>Qw (Qo 12 Y (Ql Y CA (Cell.blk 2 (k:=4) Y Y) (Qw ?_))));exact fin _ _ _ κ ⟨_,_,_,_,_,Y,(.head _),hO8,Qs⟩
        refine AD Y ?_ ?_
        ·refine Ql Y CA (Cell.blk 2 (k:=4) Y Y) (Qw (Qo 8 Y (G6 6 Or (.tail _ (.head _)) ω Y Y Y Y Y Y Y Y Y (λv2 m2 hO8=>Qw ?_))));exact fin _ _ _ κ ⟨_,_,_,_,_,Y,(.head _),hO8,Qs⟩
        exact Be
       refine AD Y ?_ ?_
       ·refine Ql Y CA (Cell.blk 2 (k:=4) Y Y) (Qw (Qo 5 Y (Ql Y CA (Cell.blk 2 (k:=3) Y Y) (Qw (Qo 8 Y (G6 6 Or (.tail _ (.head _)) ω Y Y Y Y Y Y Y Y Y (λv2 m2 hO8=>Qw ?_)))))));exact fin _ _ _ κ ⟨_,_,_,_,_,Y,(.head _),hO8,Qs⟩
       exact Be
      exact Be
     refine AD Y ?_ ?_
     ·refine Ql Y CA (Cell.blk 0 (k:=4) Y Y) (Qw (Bf [5,7,14] κ Y ?_));refine AD Y ?_ ?_
      ·refine Ql Y CA (Cell.blk 0 (k:=3) Y Y) (Qw (Bf [7,14] κ Y ?_));refine AD Y ?_ ?_
       ·refine F8 Y Y Y Y Y Y (λg109=>Qw (Bf [8,14] κ Y ?_));refine AD Y ?_ ?_
        ·refine G6 5 Or (.head _) ω Y Y Y Y Y Y Y Y Y (λv2 m2 hO8=>Qw (Qo 14 Y (F8 Y Y Y Y Y Y (λg116=>Qw ?_))));exact fin _ _ _ κ ⟨_,_,_,_,_,Y,(.head _),hO8,Qs⟩
        refine AD Y ?_ ?_
        ·refine F8 Y Y Y Y Y Y (λg116=>Qw (Qo 8 Y (G6 6 Or (.tail _ (.head _)) ω Y Y Y Y Y Y Y Y Y (λv2 m2 hO8=>Qw ?_))));exact fin _ _ _ κ ⟨_,_,_,_,_,Y,(.head _),hO8,Qs⟩
        exact Be
       refine AD Y ?_ ?_
       ·refine F8 Y Y Y Y Y Y (λg116=>Qw (Qo 7 Y (F8 Y Y Y Y Y Y (λg109=>Qw (Qo 8 Y (G6 6 Or (.head _) ω Y Y Y Y Y Y Y Y Y (λv2 m2 hO8=>Qw ?_)))))));exact fin _ _ _ κ ⟨_,_,_,_,_,Y,(.tail _ (.head _)),hO8,Qs⟩
       exact Be
      refine AD Y ?_ ?_
      ·refine F8 Y Y Y Y Y Y (λg109=>Qw (Bf [5,14] κ Y ?_));refine AD Y ?_ ?_
       ·refine Ql Y CA (Cell.blk 1 (k:=3) Y Y) (Qw (Bf [8,14] κ Y ?_));refine AD Y ?_ ?_
        ·refine G6 5 Or (.head _) ω Y Y Y Y Y Y Y Y Y (λv2 m2 hO8=>Qw (Qo 14 Y (F8 Y Y Y Y Y Y (λg116=>Qw ?_))));exact fin _ _ _ κ ⟨_,_,_,_,_,Y,(.head _),hO8,Qs⟩
        refine AD Y ?_ ?_
        ·refine F8 Y Y Y Y Y Y (λg116=>Qw (Qo 8 Y (G6 6 Or (.tail _ (.head _)) ω Y Y Y Y Y Y Y Y Y (λv2 m2 hO8=>Qw ?_))));exact fin _ _ _ κ ⟨_,_,_,_,_,Y,(.head _),hO8,Qs⟩
        exact Be
       refine AD Y ?_ ?_
       ·refine F8 Y Y Y Y Y Y (λg116=>Qw (Qo 5 Y (Ql Y CA (Cell.blk 2 (k:=3) Y Y) (Qw (Qo 8 Y (G6 6 Or (.tail _ (.head _)) ω Y Y Y Y Y Y Y Y Y (λv2 m2 hO8=>Qw ?_)))))));exact fin _ _ _ κ ⟨_,_,_,_,_,Y,(.head _),hO8,Qs⟩
       exact Be
      refine AD Y ?_ ?_
      ·refine F8 Y Y Y Y Y Y (λg116=>Qw (Bf [5,7] κ Y ?_));refine AD Y ?_ ?_
       ·refine Ql Y CA (Cell.blk 1 (k:=3) Y Y) (Qw (Qo 7 Y (F8 Y Y Y Y Y Y (λg109=>Qw (Qo 8 Y (G6 6 Or (.head _) ω Y Y Y Y Y Y Y Y Y (λv2 m2 hO8=>Qw ?_)))))));exact fin _ _ _ κ ⟨_,_,_,_,_,Y,(.tail _ (.head _)),hO8,Qs⟩
       refine AD Y ?_ ?_
       ·refine F8 Y Y Y Y Y Y (λg109=>Qw (Qo 5 Y (Ql Y CA (Cell.blk 2 (k:=3) Y Y) (Qw (Qo 8 Y (G6 6 Or (.head _) ω Y Y Y Y Y Y Y Y Y (λv2 m2 hO8=>Qw ?_)))))));exact fin _ _ _ κ ⟨_,_,_,_,_,Y,(.tail _ (.head _)),hO8,Qs⟩
       exact Be
      exact Be
     refine AD Y ?_ ?_
     ·refine F8 Y Y Y Y Y Y (λg116=>Qw (Bf [5,7,12] κ Y ?_));refine AD Y ?_ ?_
      ·refine Ql Y CA (Cell.blk 1 (k:=3) Y Y) (Qw (Bf [7,12] κ Y ?_));refine AD Y ?_ ?_
       ·refine F8 Y Y Y Y Y Y (λg109=>Qw (Bf [8,12] κ Y ?_));refine AD Y ?_ ?_
        ·refine G6 6 Or (.head _) ω Y Y Y Y Y Y Y Y Y (λv2 m2 hO8=>Qw (Qo 12 Y (Ql Y CA (Cell.blk 2 (k:=4) Y Y) (Qw ?_))));exact fin _ _ _ κ ⟨_,_,_,_,_,Y,(.tail _ (.head _)),hO8,Qs⟩
        refine AD Y ?_ ?_
        ·refine Ql Y CA (Cell.blk 2 (k:=4) Y Y) (Qw (Qo 8 Y (G6 6 Or (.head _) ω Y Y Y Y Y Y Y Y Y (λv2 m2 hO8=>Qw ?_))));exact fin _ _ _ κ ⟨_,_,_,_,_,Y,(.tail _ (.head _)),hO8,Qs⟩
        exact Be
       refine AD Y ?_ ?_
       ·refine Ql Y CA (Cell.blk 1 (k:=4) Y Y) (Qw (Qo 7 Y (F8 Y Y Y Y Y Y (λg109=>Qw (Qo 8 Y (G6 6 Or (.head _) ω Y Y Y Y Y Y Y Y Y (λv2 m2 hO8=>Qw ?_)))))));exact fin _ _ _ κ ⟨_,_,_,_,_,Y,(.tail _ (.head _)),hO8,Qs⟩
       exact Be
      refine AD Y ?_ ?_
      ·refine F8 Y Y Y Y Y Y (λg109=>Qw (Bf [5,12] κ Y ?_));refine AD Y ?_ ?_
       ·refine Ql Y CA (Cell.blk 2 (k:=3) Y Y) (Qw (Bf [8,12] κ Y ?_));refine AD Y ?_ ?_
        ·refine G6 6 Or (.head _) ω Y Y Y Y Y Y Y Y Y (λv2 m2 hO8=>Qw (Qo 12 Y (Ql Y CA (Cell.blk 2 (k:=4) Y Y) (Qw ?_))));exact fin _ _ _ κ ⟨_,_,_,_,_,Y,(.tail _ (.head _)),hO8,Qs⟩
        refine AD Y ?_ ?_
        ·refine Ql Y CA (Cell.blk 2 (k:=4) Y Y) (Qw (Qo 8 Y (G6 6 Or (.head _) ω Y Y Y Y Y Y Y Y Y (λv2 m2 hO8=>Qw ?_))));exact fin _ _ _ κ ⟨_,_,_,_,_,Y,(.tail _ (.head _)),hO8,Qs⟩
        exact Be
       refine AD Y ?_ ?_
       ·refine Ql Y CA (Cell.blk 2 (k:=4) Y Y) (Qw (Qo 5 Y (Ql Y CA (Cell.blk 2 (k:=3) Y Y) (Qw (Qo 8 Y (G6 6 Or (.head _) ω Y Y Y Y Y Y Y Y Y (λv2 m2 hO8=>Qw ?_)))))));exact fin _ _ _ κ ⟨_,_,_,_,_,Y,(.tail _ (.head _)),hO8,Qs⟩
       exact Be
      refine AD Y ?_ ?_
      ·refine Ql Y CA (Cell.blk 1 (k:=4) Y Y) (Qw (Bf [5,7] κ Y ?_));refine AD Y ?_ ?_
       ·refine Ql Y CA (Cell.blk 1 (k:=3) Y Y) (Qw (Qo 7 Y (F8 Y Y Y Y Y Y (λg109=>Qw (Qo 8 Y (G6 6 Or (.head _) ω Y Y Y Y Y Y Y Y Y (λv2 m2 hO8=>Qw ?_)))))));exact fin _ _ _ κ ⟨_,_,_,_,_,Y,(.tail _ (.head _)),hO8,Qs⟩
       refine AD Y ?_ ?_
       ·refine F8 Y Y Y Y Y Y (λg109=>Qw (Qo 5 Y (Ql Y CA (Cell.blk 2 (k:=3) Y Y) (Qw (Qo 8 Y (G6 6 Or (.head _) ω Y Y Y Y Y Y Y Y Y (λv2 m2 hO8=>Qw ?_)))))));exact fin _ _ _ κ ⟨_,_,_,_,_,Y,(.tail _ (.head _)),hO8,Qs⟩
       exact Be
      exact Be
     exact Be
  ·obtain⟨vr',vv',va,vb,mr',mv',mc,mo,mP',bs',rfl,l10,rfl,hO',Or',Ov',hOc,hOu⟩:=hI;refine Ab (Qx (oA Y) Y (Qm Y (Ak (EB λhap=>?_))));simp only[bj,aq,iz,jf,forall_eq_or_imp,forall_eq]at hap;have d1:mR.disj mc:=Hp.disj_symm hap.2.2.1.2.2.2.1;have d2:mV.disj mo:=Hp.disj_symm hap.2.2.2.1.2.2.2;have CR':=CR.snoc hOc d1;have CV':=CV.snoc hOu d2;rw[<-Fs]at CR' CV';refine CY 3 Y (CY 7 Y (E6 (CY 3 Y (CY 6 Y (E6 (CY 2 Y (CY 3 Y (CY 3 Y (CY 3 Y (CY 5 Y (CY 5 Y ?_)))))))))));exact Al (S.length-(j+1)) _ ω ⟨j+1,vr',vv',mr',mv',_,_,mP',_,_,bs',Y,Y,AE l9 l10,Y,ω,hO',Or',Ov',CR',CV',by rw[ag,hRl];rfl,by rw[ag,hVl];rfl⟩ Qs
 ·obtain rfl:j=S.length:=ω
  refine Av (Aa (Aa (Af (Ad (Aq (Ql Y Vi (e10 _) (Qm Y (Qm Y (Am (An (AV Or λh10 l10 hRr=>(AV Ov λh11 l11 hRv=>(CY 2 Y (AX (CY 2 Y ?_)))))))))))))));have l911:=AE l9 (AE l10 l11);exact BE Y Y Y (⟨AE l1 (AE l2 (AE l3 (AE l38 l911))),g34,gL,mL,bL,S,vA,vr,vv,Rs,Vs,mR,mV,Y,Y,hOL,AE lL8 l911,hQ.up (AE l10 l11),hRr.up l11,hRv,CR,CV,hSc,hsrt,λa ha=>(hSA a ha).up l911⟩)
end
section
open Go.Lin Go.Sort Go.Srt
variable {j n:Nat} {p:Int} {R V:Nat->List Int} {r v:List Int} {α:Type}
theorem Ops.congr{R' V':Nat->List Int}{r1 v1:List Int}(h:Ops p n j R V r v r1 v1)(hR:∀k,k<j->R k=R' k)(hV:∀k,k<j->V k=V' k):Ops p n j R' V' r v r1 v1:=by
 induction h with
 | refl=>exact .refl
 | step h hk hi h0 h1 h2 h3 ih=>
  rw[hR _ hk]at h3 ⊢;rw[hV _ hk];exact ih.step hk hi h0 h1 h2 h3
def upd(R:Nat->α)(j:Nat)(r:α)(k:Nat):α:=if k=j then r else R k
theorem FP(R:Nat->α)(j:Nat)(r:α):upd R j r j=r:=ac rfl
theorem EZ(R:Nat->α){k:Nat}(r:α)(h:k≠j):upd R j r k=R k:=aa h
theorem Red.next{la la':List Int}(D:Red p n j R V la)(hn:n<=400)(lr:r.length=n)(lv:v.length=n)(rr:JM p r)(rv:JM p v)(hL:LaS j r la la'):Red p n (j+1) (upd R j r) (upd V j v) la':=by
 have hb:=Dv r;have hlt:∀{k},k<j+1->k≠j->k<j:=λh1 h2=>ω
 refine⟨λk hk=>?_,λk hk=>?_,λk hk=>?_,λk hk=>?_,?_,λi hi=>?_,λk hk h0=>?_⟩
 ·by_cases e:k=j
  ·rw[e,FP];exact lr
  ·rw[EZ _ _ e];exact D.rl k (hlt hk e)
 ·by_cases e:k=j
  ·rw[e,FP];exact lv
  ·rw[EZ _ _ e];exact D.vl k (hlt hk e)
 ·by_cases e:k=j
  ·rw[e,FP];exact rr
  ·rw[EZ _ _ e];exact D.rr k (hlt hk e)
 ·by_cases e:k=j
  ·rw[e,FP];exact rv
  ·rw[EZ _ _ e];exact D.vr k (hlt hk e)
 ·rcases hL with ⟨_,rfl⟩|⟨_,_,rfl⟩
  ·exact D.ll
  ·rw[e8];exact D.ll
 ·have hold:la.getD i 0=0\/∃k,k<j+1/\la.getD i 0=(k:Int)+1/\AR (upd R j r k)=i:=by
   rcases D.a0 i hi with h|⟨k,hk,h1,h2⟩
   ·exact .inl h
   ·exact .inr ⟨k,ω,h1,by rw[EZ _ _ ω];exact h2⟩
  rcases hL with ⟨_,rfl⟩|⟨h1,h2,rfl⟩
  ·exact hold
  ·by_cases e:(AR r).toNat=i
   ·refine .inr ⟨j,ω,?_,by rw[FP];omega⟩;simp[List.getD,e,D.ll,hi]
   ·rw[show(la.set (AR r).toNat ((j:Int)+1)).getD i 0=la.getD i 0 by simp[List.getD,gc e]];exact hold
 ·by_cases e:k=j
  ·rw[e,FP]at h0 ⊢;rcases hL with ⟨h1,_⟩|⟨h1,h2,rfl⟩
   ·omega
   ·have:(AR r).toNat<la.length:=by rw[D.ll];omega
    simp[List.getD,this]
  ·rw[EZ _ _ e]at h0 ⊢;have h3:=D.a1 k (hlt hk e) h0;rcases hL with ⟨_,rfl⟩|⟨h1,h2,rfl⟩
   ·exact h3
   ·have hne:(AR r).toNat≠(AR (R k)).toNat:=λe=>by rw[e,h3]at h2;omega
    rw[show(la.set (AR r).toNat ((j:Int)+1)).getD (AR (R k)).toNat 0=la.getD (AR (R k)).toNat 0 by simp[List.getD,gc hne]];exact h3
theorem ColsO.head{vs:List Value}{cs:List (List Int)}{m:Hp}(h:ColsO m (vs.drop j) (cs.drop j))(hj:j<vs.length)(hc:j<cs.length):∃a b,m=a.join b/\a.disj b/\OwnL cI 1 3 a (vs.getD j undef) cs[j]/\ColsO b (vs.drop (j+1)) (cs.drop (j+1)):=by rw[d9 hj,d9 hc]at h;obtain⟨a,b,h1,h2,h3,h4⟩:=h;exact⟨a,b,h1,h2,by rw[show vs.getD j undef=vs[j] by simp[List.getD,hj]];exact h3,h4⟩
def Ab1(g:Nat):Value:=.func (.func 121) #[.pointer (some ⟨g,0,none⟩)] #[]
structure AllC(p:Int)(S:List Ce)(n j:Nat)(R V:Nat->List Int)(la:List Int):Prop where
 red:Red p n j R V la
 ops:∀k,k<j->Ops p n k R V (C5 p S k) (C0 n k) (R k) (V k)
theorem AllC.next{S:List Ce}{la la':List Int}(D:AllC p S n j R V la)(hn:n<=400)(lr:r.length=n)(lv:v.length=n)(rr:JM p r)(rv:JM p v)(hL:LaS j r la la')(hO:Ops p n j R V (C5 p S j) (C0 n j) r v):AllC p S n (j+1) (upd R j r) (upd V j v) la':=by
 refine⟨D.red.next hn lr lv rr rv hL,λk hk=>?_⟩;have e1:∀i,i<j->R i=upd R j r i:=λi hi=>(EZ _ _ ω).symm;have e2:∀i,i<j->V i=upd V j v i:=λi hi=>(EZ _ _ ω).symm;by_cases e:k=j
 ·subst e;rw[FP,FP];exact hO.congr e1 e2
 ·have hk':k<j:=ω
  rw[EZ _ _ e,EZ _ _ e];exact(D.ops k hk').congr (λi hi=>e1 i ω) (λi hi=>e2 i ω)
theorem Py(p:Int)(S:List Ce)(n:Nat):AllC p S n 0 (λ_=>[]) (λ_=>[]) (replicate 400 0):=by
 refine⟨⟨λk hk=>ω,λk hk=>ω,λk hk=>ω,λk hk=>ω,by simp,λi hi=>.inl ?_,λk hk=>ω⟩,λk hk=>ω⟩;have:∀m,i<m->(replicate m (0:Int)).getD i 0=0:=λm h=>by simp[List.getD,h]
 exact this 400 hi
theorem YJ(p:Int)(S:List Ce)(g gA:Nat)(vc vr vv:Value)(Rs Vs:List Value)(mR mV h:Hp)(hp:IsP p)(hn:S.length<=400)(oc:vc.oneCell'=true)
  (hRs:RdL cU 1 h [] vr Rs) (hVs:RdL cU 1 h [] vv Vs) (CR:ColsO mR Rs ((range S.length).map (C5 p S))) (CV:ColsO mV Vs ((range S.length).map (C0 S.length))) :
  FnT Tryz.prog 120 #[.w S.length,Ab1 g] h [Bh g 130 (EI p vc gA vr vv (replicate 400 0)),mR,mV] (λ_ h' ms'=>h.le h'/\∃R V la,ms'=[Bh g 130 (EI p vc gA vr vv la)]/\AllC p S S.length S.length R V la/\(∀k,k<S.length->RdL cI 1 h' [] (Rs.getD k undef) (R k))/\∀k,k<S.length->RdL cI 1 h' [] (Vs.getD k undef) (V k)):=by
 have hp1:=hp.1;have lR:Rs.length=S.length:=by have:=CR.len;simpa using this
 have lV:Vs.length=S.length:=by have:=CV.len;simpa using this
 obtain⟨n,hSn⟩:∃n,S.length=n:=⟨_,Y⟩
 rw[hSn]at hn CR CV lR lV ⊢;refine Au func120 ntmps120 Y Y (λw0 hw0=>?_);simp only[A6];refine Aq (Qm Y (Qm Y (Am (Ag ?_))))
 refine Ay (λq sl h' ms'=>∃(j:Nat) (R V:Nat->List Int) (la:List Int) (mR mV:Hp),q=n-j/\sl=[(1,Ab1 g),(5,.w n),(6,.w j)]/\h.le h'/\ms'=[Bh g 130 (EI p vc gA vr vv la),mR,mV]/\j<=n/\ColsO mR (Rs.drop j) (((range n).map (C5 p S)).drop j)/\ColsO mV (Vs.drop j) (((range n).map (C0 n)).drop j)/\AllC p S n j R V la/\(∀k,k<j->RdL cI 1 h' [] (Rs.getD k undef) (R k))/\∀k,k<j->RdL cI 1 h' [] (Vs.getD k undef) (V k))
  (n-0) _ ⟨0,_,_,_,mR,mV,rfl,rfl,Da,rfl,ω,CR,CV,Py p S n,λk hk=>ω,λk hk=>ω⟩ Qs ?_
 rintro q sl h' ms' ⟨j,R,V,la,mR,mV,rfl,rfl,l1,rfl,hj,CR,CV,A,hR,hV⟩;have hRs:=hRs.up l1;have hVs:=hVs.up l1;refine Aq (Qm Y (Am (Ac ?_)));refine Ao Y (λhlt=>?_) (λhlt=>?_)
 ·have hjn:j<n:=ω
  obtain⟨a,b,rfl,dab,Oa,CR'⟩:=CR.head ω (by simpa using hjn);obtain⟨c,d,rfl,dcd,Oc,CV'⟩:=CV.head ω (by simpa using hjn);rw[List.getElem_map,List.getElem_range]at Oa Oc;refine EC 1 Y (HI dab (EC 3 Y (HI dcd (EC 2 Y (EC 4 Y (Ah (Ad (Ac (Ag (Aq (Qm Y (Qm Y (Gl (Qm Y (Qm Y ?_)))))))))))))));refine H6 (pre:=[Bh g 130 (EI p vc gA vr vv la),a,c]) Y Y call121 Y (Uh p n j g gA vc vr vv Rs Vs R V la _ _ a c h' hp hn hjn hRs hVs lR lV hR hV A.red oc Oa Oc (by rw[show(C5 p S j).length=S.length from Dw _ _ _ _];exact hSn) (JZ n j) (Jn ω S j _) (MP hp1 n j)) Y Y Y Y (λv' h2 pre' l2 hF=>?_);obtain⟨l2',r',v2,la',a',c',rfl,Oa',Oc',hO,lr,lv,rr,rv,hL⟩:=hF;simp only[bl,ay,eo];refine N5 1 Y (Ba Oa' λh3 l3 hr'=>(N5 1 Y (Ba Oc' λh4 l4 hv'=>?_)));have l24:=AE l3 l4;have l14:=AE l2 l24;have A':=A.next hn lr lv rr rv hL hO
  have hR':∀k,k<j+1->RdL cI 1 h4 [] (Rs.getD k undef) (upd R j r' k):=λk hk=>by
   by_cases e:k=j
   ·rw[e,FP];exact hr'.up l4
   ·rw[EZ _ _ e];exact(hR k ω).up l14
  have hV':∀k,k<j+1->RdL cI 1 h4 [] (Vs.getD k undef) (upd V j v2 k):=λk hk=>by
   by_cases e:k=j
   ·rw[e,FP];exact hv'
   ·rw[EZ _ _ e];exact(hV k ω).up l14
  refine Ak (Ai (Ad (Ab (Qx (oA Y) Y (Qm Y (Ak (CY 2 Y (CY 1 Y ?_))))))));exact Al (n-(j+1)) _ ω ⟨j+1,_,_,la',b,d,Y,Y,AE l1 l14,Y,ω,CR',CV',A',hR',hV'⟩ Qs
 ·obtain rfl:j=n:=ω
  refine Av (Aa (Aa (Af (CY 1 Y (AX (CY 1 Y (AX ?_)))))));exact Cq Y (⟨l1,R,V,la,Y,A,hR,hV⟩)
end
section
open Go.Lin Go.Sort Go.Srt
structure RedM(p:Int)(F:List (Int×Int))(l S:List Ce)(R V:Nat->List Int)(gm:Nat)(h:Hp):Prop where
 ex:∃(gA:Nat) (mA:Hp) (bs:List Nat) (vc vr vv:Value) (Rs Vs:List Value) (la:List Int),Seg h [] ⟨gm,0,none⟩ (EI p vc gA vr vv la)/\C4 kN kN gA BS mA (Bn F) bs/\mA.le h/\RdL cC 3 h [] vc S/\RdL cU 1 h [] vr Rs/\RdL cU 1 h [] vv Vs/\Rs.length=S.length/\Vs.length=S.length/\(∀k,k<S.length->RdL cI 1 h [] (Rs.getD k undef) (R k))/\(∀k,k<S.length->RdL cI 1 h [] (Vs.getD k undef) (V k))/\AllC p S S.length S.length R V la
 perm:(S.map Ce.c).Perm (cn l)
 srt:Ma (CN (Bn F)) S
 sds:∀a∈S,RdL cD 2 h [] a.v a.c.sd
theorem UC(l:List Ce)(F:List (Int×Int))(v vf:Value)(p:Int)(hp:Hp)(hK:RgC l)(hR:RdC hp v l)(hF:RdL cV 2 hp [] vf F)(hV:Ir F)(h0:DN (cn l) F=(0,0))(hP:IsP p)(hl:l.length<=400):FnT Tryz.prog 51 #[.agg #[v],vf,.int .i64 p] hp [] (λr h' ms'=>hp.le h'/\∃(gm:Nat) (S:List Ce) (R V:Nat->List Int) (vl:Value) (ml:Hp),r=.tuple #[.pointer (some ⟨gm,0,none⟩),vl,.int .i64 0]/\ms'=[ml]/\OwnL cI 1 3 ml vl ((range S.length).map λk=>AR (R k))/\RedM p F l S R V gm h'):=by
 have o1:=hR.q.rd.one;have o2:=hF.rd.one;refine Au func51 ntmps51 Y Y (λw0 hw0=>?_);simp only[A6];refine Aq (AP [_] Y Y (by rfl) Y Y Y (λg3=>Qm Y (Qm Y (Qm Y (Am (Ax λh1 l1 hS=>?_))))));have hR:=hR.up l1;have hF:=hF.up l1;refine Aq (Qx (oG Y CS A8 (Seg.any hS)) Y (Qm Y (Qm Y (Qc call91 Y (QV l F v vf p h1 hK hR hF hV h0 hP hl) (λrB h2 ms2 l2 hB=>?_)))));obtain⟨l2',gm,gA,mA,bs,S,vc,vr,vv,Rs,Vs,mR,mV,rfl,rfl,hOA,lA,hQ,hRs,hVs,CR,CV,hperm,hsrt,hsds⟩:=hB;have ovc:=hQ.rd.one;have lR:Rs.length=S.length:=by have:=CR.len;simpa using this
 have lV:Vs.length=S.length:=by have:=CV.len;simpa using this
 have hSn:S.length<=400:=by have:=hperm.length_eq;rw[af,Dg]at this;omega
 refine Qm Y (Qm Y (Qm Y (Qm Y (Qm Y (Am (Ac (Aq (Qm Y (Qm Y (Am (Ao Y (λhc=>jt hc (λh=>h Y)) (λhc=>Ah (Ad (Aq (Qm Y (Qm Y (Qf Fx Y (Ql Y Bm (Cell.blk 0 (k:=1) Y Y) (Qx (As hQ.rd.any Y Bm Y) Y (Qm Y (Qx (Cc Y Y Y) Y (Bs (pre:=[Bh gm 130 (EI p vc gA vr vv (replicate 400 0)),mR,mV]) Y call120 Y (YJ p S gm gA vc vr vv Rs Vs mR mV h2 hP hSn ovc hRs hVs CR CV) Y Y Y Y (λ_ h3 ms3 l3 hE=>?_)))))))))))))))))))))));obtain⟨l3',R,V,la,rfl,A,hRR,hVV⟩:=hE;refine Am (Ax λh4 l4 hSg=>?_);have l24:=AE l3 l4;have hQ:=hQ.up l24;have hRs:=hRs.up l24;have hVs:=hVs.up l24;have hRR:=λk hk=>(hRR k hk).up l4;have hVV:=λk hk=>(hVV k hk).up l4;have lA4:=AE lA l24;have e3:∀ms,Cell h4 ms (⟨gm,3,none⟩:Addr) vr:=λms=>Seg.all hSg 3 _ Y ms;have ovr:=hRs.rd.one;refine BT (Aq (Qm Y (Am (Ac (Aq (Qm Y (Qm Y (Qf E9 Y (Ql Y CA (e3 _) (Qx (As hRs.rd.any Y CA Y) Y (Qm Y (Am (Ag ?_)))))))))))))
 refine Ay (λq sl h' ms'=>∃(j:Nat) (vl:Value) (ml:Hp),q=S.length-j/\sl=[(9,.pt gm),(11,vl),(35,vr),(36,.w Rs.length),(37,.w j)]/\h4.le h'/\ms'=[ml]/\j<=S.length/\OwnL cI 1 3 ml vl ((range j).map λk=>AR (R k)))
  (S.length-0) _ ⟨0,_,Hp.emp,rfl,rfl,Da,rfl,ω,OwnL.nil Bi⟩ Qs ?_
 rintro q sl h' ms' ⟨j,vl,ml,rfl,rfl,l5,rfl,hj,hO⟩;have hRs:=hRs.up l5;have ovl:=hO.o1;refine Aq (Qm Y (Am (Ac ?_)));refine Ao Y (λhlt=>?_) (λhlt=>?_)
 ·have hjn:j<S.length:=ω
  have hjR:j<Rs.length:=ω
  have hRj:=(hRR j hjn).up l5;have orj:=hRj.rd.one;have cR:∀ms,Cell h' ms ((AG vr).add (j*1)) (Rs.getD j undef):=λms=>by rw[show Rs.getD j undef=Rs[j] by simp[List.getD,hjR]];exact(hRs.any (ms:=ms)).cell0 hjR Y
  have hlj:=A.red.rl j hjn;refine Ah (Ad (Ac (Ag (Aq (Qx (BN (j) hRs.rd.any Y CA CI Y Y) Y (Ql Y AN (cR _) (Qm Y (Gl (Qm Y (Qm Y (Qx (AH Y call95 Y (RR (Rs.getD j undef) (R j) h' hRj ω _)) Y (Aw [_] Y AN A0 Y (by rfl) Y Y ω Y Y Y (λg44=>?_)))))))))))));refine AU 1 hO (RdL.one Bi (x:=AR (R j)) Mh Y) Y AN A0 Y ω Y Y Y B5 (by simp;omega) (by simp;omega) rfl rfl rfl (λvl2 ml2 hO2=>?_);refine Qm Y (Ak (Ai (Ad (Ab (Qx (oA Y) Y (Qm Y (Ak (AX ?_))))))));exact Al (S.length-(j+1)) _ ω ⟨j+1,vl2,ml2,Y,Y,l5,Y,ω,by rw[Fs];exact hO2⟩ Qs
 ·obtain rfl:j=S.length:=ω
  refine Av (Aa (Aa (Af (Ad (Aq (Qm Y (Qm Y (Qm Y (Qm Y (Qm Y (Am (An ?_))))))))))));exact Yl Y Y Y Y (⟨AE l1 (AE l2 (AE l24 l5)),gm,S,R,V,vl,ml,Y,Y,hO,⟨gA,mA,bs,vc,vr,vv,Rs,Vs,la,hSg.le l5,hOA,AE lA4 l5,hQ.up l5,hRs,hVs.up l5,lR,lV,λk hk=>(hRR k hk).up l5,λk hk=>(hVV k hk).up l5,A⟩,hperm,hsrt,λa ha=>(hsds a ha).up (AE l24 l5)⟩)
end
end Go.Proofs.Q
namespace Go.Proofs
open Go.Proofs.Tryz
open Go.Shelf
def Tryz.lays161_ren:Go.Shelf.Ren:=⟨fun|161=>231|231=>271|227=>272|233=>273|235=>274|228=>295|197=>296|151=>297|260=>306|152=>307|137=>310|119=>311|224=>312|225=>313|217=>314|266=>315|n=>n,fun|9=>9|4=>4|3=>3|5=>5|117=>303|116=>302|0=>0|124=>306|105=>329|21=>21|119=>339|46=>223|139=>342|138=>341|n=>n,fun|3=>0|4=>1|n=>n⟩
theorem Tryz.lays161:Go.Proofs.Lays.n161 prog Tryz.lays161_ren:={
 mixed:=by kernel_rfl
 f119:=func311.trans (aw some κ)
 f137:=func310.trans (aw some κ)
 f151:=func297.trans (aw some κ)
 f152:=func307.trans (aw some κ)
 f161:=func231.trans (aw some κ)
 f197:=func296.trans (aw some κ)
 f217:=func314.trans (aw some κ)
 f224:=func312.trans (aw some κ)
 f225:=func313.trans (aw some κ)
 f227:=func272.trans (aw some κ)
 f228:=func295.trans (aw some κ)
 f231:=func271.trans (aw some κ)
 f233:=func273.trans (aw some κ)
 f235:=func274.trans (aw some κ)
 f260:=func306.trans (aw some κ)
 f266:=func315.trans (aw some κ)
 t0:=underlying0
 a0:=isAgg0
 z0:=sizeOf0
 v0:=zeroValue0
 t3:=underlying3
 a3:=isAgg3
 z3:=sizeOf3
 v3:=zeroValue3
 t4:=underlying4
 a4:=isAgg4
 z4:=sizeOf4
 v4:=zeroValue4
 t5:=underlying5
 a5:=isAgg5
 z5:=sizeOf5
 v5:=zeroValue5
 t9:=underlying9
 a9:=isAgg9
 z9:=sizeOf9
 v9:=zeroValue9
 t21:=underlying21
 a21:=isAgg21
 z21:=sizeOf21
 v21:=zeroValue21
 t46:=underlying223
 a46:=isAgg223
 z46:=sizeOf223
 v46:=zeroValue223
 t105:=underlying329
 a105:=isAgg329
 z105:=sizeOf329
 v105:=zeroValue329
 t116:=underlying302
 a116:=isAgg302
 z116:=sizeOf302
 t117:=underlying303
 a117:=isAgg303
 z117:=sizeOf303
 v117:=zeroValue303
 t119:=underlying339
 a119:=isAgg339
 z119:=sizeOf339
 t124:=underlying306
 a124:=isAgg306
 z124:=sizeOf306
 v124:=zeroValue306
 t138:=underlying341
 a138:=isAgg341
 z138:=sizeOf341
 v138:=zeroValue341
 t139:=underlying342
 a139:=isAgg342
 z139:=sizeOf342
 v139:=zeroValue342
 g3:=by kernel_rfl
 g4:=by kernel_rfl }
open Go.RowKit in
theorem Tryz.strings_TrimLeft_one(s:ByteArray)(c:UInt8)(hc:c.toNat<128)(w:World) :
 Calls prog 231 #[.string s,.string ⟨#[c]⟩] w λe w'=>e=.returned (.string ⟨(Lib.trimLeftB s.data.toList c).toArray⟩)/\w'=w:=Any.strings_TrimLeft_one Tryz.lays161 s c hc w
def Tryz.laysNm225_ren:Go.Shelf.Ren:=⟨fun|25=>130|31=>192|32=>193|37=>202|n=>n,fun|22=>22|3=>3|4=>4|40=>223|0=>0|n=>n,fun|n=>n⟩
theorem Tryz.laysNm225:Go.Proofs.Lays2.n25 prog Tryz.laysNm225_ren:={
 mixed:=by kernel_rfl
 f25:=func130.trans (aw some κ)
 f31:=func192.trans (aw some κ)
 f32:=func193.trans (aw some κ)
 f37:=func202.trans (aw some κ)
 t0:=underlying0
 a0:=isAgg0
 z0:=sizeOf0
 v0:=zeroValue0
 t3:=underlying3
 a3:=isAgg3
 z3:=sizeOf3
 v3:=zeroValue3
 t4:=underlying4
 a4:=isAgg4
 z4:=sizeOf4
 v4:=zeroValue4
 t22:=underlying22
 a22:=isAgg22
 z22:=sizeOf22
 v22:=zeroValue22
 t40:=underlying223
 a40:=isAgg223
 z40:=sizeOf223
 v40:=zeroValue223 }
open Go.RowKit Go.Lib in
theorem Tryz.slices_BinarySearch_int(b off n c:Nat)(zs:List Int)(x:Int)(w:World)(hz:n<=zs.length)(hbig:n<4611686018427387904)(hc:∀j,j<zs.length->w.cell? ⟨b,off+j,none⟩=some (.int .i64 (zs.getD j 0)))(hs:(zs.take n).Pairwise (·<=·)) :
 Calls prog 130 #[.slice (some ⟨b,off,none⟩) n c,.w x] w λe w'=>e=.returned (.tuple #[.w ((zs.take n).countP (·<x):Nat),.bool ((zs.take n).contains x)])/\∃q,w'=w.drewN q:=Any.slices_BinarySearch_int Tryz.laysNm225 b off n c zs x w hz hbig hc hs
open Go.RowKit Go.Lib in
theorem Tryz.slices_BinarySearch_int_empty(a:Option Addr)(c:Nat)(x:Int)(w:World) :
 Calls prog 130 #[.slice a 0 c,.w x] w λe w'=>e=.returned (.tuple #[.w 0,.bool false])/\w'=w:=Any.slices_BinarySearch_int_empty Tryz.laysNm225 a c x w
end Go.Proofs

namespace Go.Proofs.Q
open Go.Eng Go.RowKit
structure Br where
 dim:Int
 birth:Int
 death:Int
 opn:Bool
 low:Int
 high:Int
deriving DecidableEq
def IJ(b:Br):List Value:=[.int .i64 b.dim,.int .i64 b.birth,.int .i64 b.death,.bool b.opn,.int .i64 b.low,.int .i64 b.high]
theorem GI:∀b,(IJ b).length=6:=λ_=>rfl
theorem KG:∀a,∀c∈IJ a,c.oneCell'=true:=λa c hc=>by simp only[IJ,aq,iz,jf]at hc;rcases hc with rfl|rfl|rfl|rfl|rfl|rfl<;>rfl
open Go.Kuhn
theorem S7(g n:Nat)(hn:n<=9223372036854775807):OwnL cB 1 4 (Bh g 4 (replicate n (Value.bool false))) (.slice (some ⟨g,0,none⟩) n n) (replicate n false):=
 ⟨⟨by rw[<-Rv];simp,.inr ⟨g,n,[],by simp,by rw[<-Rv];simp,by rw[<-Rv];simp,by simp,hn⟩⟩,Abx⟩
def put(x:Int):List Int->List Int
 | []=>[x]
 | y::l=>if y<=x then y::put x l else x::y::l
def Br.at(dim t:Int)(b:Br):Bool:=decide (b.dim=dim)&&decide (b.birth<=t)&&(b.opn||decide (t<b.death))
def fb(a b:Int):Br:=⟨1,a,b,false,0,0⟩
end Go.Proofs.Q