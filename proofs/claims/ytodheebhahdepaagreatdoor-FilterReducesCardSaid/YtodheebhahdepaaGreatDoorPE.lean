/- A part of the proof. -/
import Derived.Test.YtodheebhahdepaaGreatDoorPD
import Derived.Shelf.SlGeneric
import Derived.Ground.SlsfProg
import Derived.Shelf.SlSortCmp.WholeK
import Derived.Shelf.SlSortCmp.NoneTotal
import Derived.Test.YtodheebhahdepaaGreatDoorProg
import Derived.Shelf.Strings.Trim
import Derived.Shelf.Small.Utf8
import Derived.Shelf.Small.Bits
import Derived.Shelf.Small.Strs
import Derived.Shelf.Small.Wraps
import Derived.Shelf.Strconv.Itoa0
import Derived.Shelf.Strings.Search1
import Derived.Shelf.Sort.Plain
import Derived.Shelf.Unicode.Decode
import Derived.Shelf.Strings.Runes
import Derived.Shelf.Strings.AsciiSet
import Derived.Shelf.Bits.Mul64
import Derived.Shelf.Unicode.DecodeSlow
import Derived.Shelf.Unicode.DecodeAny
import Derived.Shelf.Slices.Equal
import Derived.Ground.Names2Prog
import Derived.Shelf.Slices.Clone
import Derived.Shelf.Slices.CompactI
import Derived.Shelf.Slices.SearchI
import Derived.Shelf.Slices.Cells
import Derived.Shelf.Slices.In.SortNone
import Derived.Shelf.Slices.Empties
import Derived.Shelf.Slices.Empties2
import Derived.Ground.SlgnProg
import Derived.Shelf.SlicesE.Clone
import Derived.Sort.OwnSortedInts
import Derived.Lib.SlicesCompact
set_option linter.unusedSimpArgs false
set_option linter.unusedVariables false
set_option linter.unusedSectionVars false
set_option maxRecDepth 100000
set_option maxHeartbeats 4000000

open List (length_map length_singleton getElem_mem replicate range length_append nil_append length_take mem_cons cons_append map_append append_nil map_map map_cons length_set getElem_of_mem take_length length_range not_mem_nil)
namespace Go.Proofs.Q
open Go.Proofs.Tryz
open Go.Eng Go.RowKit
theorem HQ(w:World):(zeroValue 3).run Tryz.prog w=.ok (kN 0) w:=by rfl
structure YR(U:List Cl)(x:Cl):Prop where
 n:x.sd.length<=64
 p:0<x.sd.length
 m:∀i,i<x.sd.length->(GR U (Bw x i).1).sd.length<=64
 s:∀s∈x.sd,BS s.1/\(s.2=1\/s.2=-1)
 t:∀i,i<x.sd.length->∀r∈(GR U (Bw x i).1).sd,BS r.1/\(r.2=1\/r.2=-1)
theorem ZD{ν:Type}(T:List (Int×ν))(a:Int)(x:ν):(De T a x).length<=T.length+1:=by
 unfold De;split
 ·rw[af];omega
 ·simp
theorem RZ:∀E:Gp,(F0 E).length<=E.length:=DE (by simp[F0]) λE e ih=>by rw[Gc,ad,ac];have:=ZD (F0 E) e.2.1 ((Bp (F0 E) e.2.1).getD []++[e.1]);omega
theorem Ni{U:List Cl}{x:Cl}{m:Nat}{e:Int×Int×Int}(h:e∈JL U x m):∃i,i<m/\∃r∈(GR U (Bw x i).1).sd,e=((i:Int),r.1,(Bw x i).2*r.2):=by unfold JL at h;obtain⟨i,hi,h⟩:=List.mem_flatMap.1 h;obtain⟨r,hr,rfl⟩:=ai.1 h;exact⟨i,ba.1 hi,r,hr,Y⟩
theorem AaA{U:List Cl}{x:Cl}(K:YR U x){m:Nat}(hm:m<=x.sd.length){e:Int×Int×Int}(h:e∈JL U x m):e.2.2=1\/e.2.2=-1:=by
 obtain⟨i,hi,r,hr,rfl⟩:=Ni h;have hi':i<x.sd.length:=ω
 have h1:=(K.t i hi' r hr).2;have h2:=(K.s (Bw x i) (by rw[Bs hi'];exact ae hi')).2;show(Bw x i).2*r.2=1\/(Bw x i).2*r.2=-1;rcases h1 with h1|h1<;>rcases h2 with h2|h2<;>rw[h1,h2]<;>decide
theorem Um(U:List Ce)(x:Ce)(g:Nat)(hp:Hp)(hT:RdT hp g U)(hX:RdL cD 2 hp [] x.v x.c.sd)(hK:YR (U.map Ce.c) x.c):FnT Tryz.prog 77 #[.pointer (some ⟨g,0,none⟩),.agg (cC x).toArray] hp [] (λr _ _=>r=.int .i64 (VK (JL (U.map Ce.c) x.c x.c.sd.length) x.c.sd.length)):=by
 have o2:=hX.rd.one;show FnT _ _ #[.pt g,.agg #[.w x.c.id,.w x.c.dim,x.v]] _ _ _;refine Ao func77 ntmps77 Y Y (λw0 hw0=>?_);simp only[AX];refine Ap (AQ [_,_,_] Y Y (by rfl) Y Y Y (λg3=>Qm Y (Am (AA λh1 l1 hS=>?_))));obtain⟨gm,mMt,bst,vids,hSg,hMt,lmt,hVt,hsU⟩:=hT.up l1;have hX:=hX.up l1;have hA:=Seg.all hS;have a2:∀ms,Cell h1 ms (⟨g3,2,none⟩:Addr) x.v:=λms=>hA 2 _ Y ms;have eT:∀ms,Cell h1 ms (⟨g,0,none⟩:Addr) (.map (some gm)):=λms=>Seg.all hSg 0 _ Y ms;have hn64:=hK.n;refine Ap (C7 (K:=kN) (V:=kN) (Ok:=BS) Y Y Y Y (λgA mA hA0=>C7 (K:=kN) (V:=Mf) (Ok:=BS) Y Y Y Y (λgB mM hB0=>Qm Y (Qm Y (Am (Eh 1 Y (BI ?_)))))));have hMS0:=OwnMS.start hB0;refine A9 (λsl h' ms'=>∃(mB mA mM:Hp) (bs:List Nat),sl=[(3,.pt g3),(5,.map (some gA)),(6,.map (some gB))]/\h1.le h'/\ms'=[mB,mA,mM]/\CQ kN kN gA BS mA (C5 (JL (U.map Ce.c) x.c x.c.sd.length)) bs/\OwnMS gB mM mB (F0 (JL (U.map Ce.c) x.c x.c.sd.length))) ?_ (λs h ms hI=>?_)
 ·refine Ac (Ad (Qf BA Y (Ql Y BZ (a2 _) (Qx (Av hX.rd.any Y BZ Y) Y (Qm Y (Am (Ag ?_)))))))
  refine Ax (λq sl h' ms'=>∃(i:Nat) (mB mA mM:Hp) (bs:List Nat),q=x.c.sd.length-i/\sl=[(0,.pt g),(3,.pt g3),(5,.map (some gA)),(6,.map (some gB)),(21,x.v),(22,.w x.c.sd.length),(23,.w i)]/\h1.le h'/\ms'=[mB,mA,mM]/\i<=x.c.sd.length/\CQ kN kN gA BS mA (C5 (JL (U.map Ce.c) x.c i)) bs/\OwnMS gB mM mB (F0 (JL (U.map Ce.c) x.c i)))
   (x.c.sd.length-0) _ ⟨0,Hp.emp,mA,mM,[],rfl,rfl,Dv,rfl,ω,hA0,hMS0⟩ Qs ?_
  rintro q sl h2 ms' ⟨i,mB,mA,mM,bs,rfl,rfl,l2,rfl,hi,hOA,hMS⟩;have hX:=hX.up l2;refine Ap (Qm Y (Am (Ac ?_)));refine Ar Y (λhlt=>?_) (λhlt=>?_)
  ·have hil:i<x.c.sd.length:=ω
   obtain⟨s,hs⟩:∃s,x.c.sd[i]=s:=⟨_,Y⟩
   have hsm:s∈x.c.sd:=by rw[<-hs];exact ae hil
   have hsA:Bw x.c i=s:=by rw[Bs hil,hs]
   have hsI:=hK.s s hsm;obtain⟨y,hy⟩:∃y,(Bp (FN U) s.1).getD default=y:=⟨_,Y⟩
   have hyc:GR (U.map Ce.c) s.1=y.c:=by rw[<-IS,hy]
   have hyR:=Rb hsU s.1;rw[hy]at hyR;have hyR:=hyR.up l2;have oyv:=hyR.rd.one;have y64:=hK.m i hil;have yt:=hK.t i hil;rw[hsA,hyc]at y64 yt;have hE:=Nk (U.map Ce.c) x.c hK.m i hi;have hEs:∀e∈JL (U.map Ce.c) x.c i,e.2.2=1\/e.2.2=-1:=λe he=>AaA hK hi he
   have hsucc:JL (U.map Ce.c) x.c (i+1)=JL (U.map Ce.c) x.c i++y.c.sd.map λr=>((i:Int),r.1,s.2*r.2):=by rw[Ph];unfold Xx;rw[hsA,hyc]
   obtain⟨E,hEe⟩:∃E,JL (U.map Ce.c) x.c i=E:=⟨_,Y⟩
   rw[hEe]at hOA hMS hE hEs hsucc;have hsx:∀ms,Seg h2 ms ((AF x.v).add (i*2)) (cD s):=λms=>by rw[<-hs];exact(hX.any (ms:=ms)).seg hil
   refine Ah (Ab ?_);refine A9 (λsl h' ms'=>∃(mB mA mM:Hp) (bs:List Nat),sl=[(0,.pt g),(3,.pt g3),(5,.map (some gA)),(6,.map (some gB)),(21,x.v),(22,.w x.c.sd.length),(23,.w i)]/\h2.le h'/\ms'=[mB,mA,mM]/\CQ kN kN gA BS mA (C5 (JL (U.map Ce.c) x.c (i+1))) bs/\OwnMS gB mM mB (F0 (JL (U.map Ce.c) x.c (i+1)))) ?_ (λs h ms hI=>?_)
   ·refine Ag (Ap (Qm Y (Qx (BG (i) hX.rd.any Y BZ AO Y Y) Y (Qx (oG Y D4 AO (hsx _)) Y (Cx [.w 0,.w 0] Y AO Y Y (λg8=>Qm Y ?_))))));refine Sa 0 [_,_] AO Y (by simp[Value.oneCell']) ?_;refine Am (AA λh3 l3 hS8=>?_);have e80:∀ms,Cell h3 ms (⟨g8,0,none⟩:Addr) (.w s.1):=λms=>Seg.all hS8 0 _ Y ms;have e81:∀ms,Cell h3 ms (⟨g8,1,none⟩:Addr) (.w s.2):=λms=>Seg.all hS8 1 _ Y ms;have l13:=AI l2 l3;have eT:∀ms,Cell h3 ms (⟨g,0,none⟩:Addr) (.map (some gm)):=λms=>(eT ms).le l13;have hyR:=hyR.up l3;refine Ac (A5 10 CT κ Y (Wm Y (Wm Y (Wf Fo Y (Wl Y GX (eT _) (Wf B4 Y (Wl Y U3 (e80 _) (AL (Cj (V:=vC) (z:=(default:Ce)) s.1 hy Bt hMt (AI lmt l13) Y GX KZ Y Y hsI.1) Y Y (AL (EE Y Ef Y BZ Y Y Y) Y Y (AL (Av hyR.rd.any Y BZ Y) Y Y (Wm Y (AZ (Am (Ag ?_))))))))))))))
    refine Ax (λq sl h' ms'=>∃(k:Nat) (mB mA mM:Hp) (bs:List Nat),q=y.c.sd.length-k/\sl=[(0,.pt g),(3,.pt g3),(5,.map (some gA)),(6,.map (some gB)),(7,.w i),(8,.pt g8),(21,x.v),(22,.w x.c.sd.length),(23,.w i),(35,y.v),(36,.w y.c.sd.length),(37,.w k)]/\h3.le h'/\ms'=[mB,mA,mM]/\k<=y.c.sd.length/\CQ kN kN gA BS mA (C5 (E++(y.c.sd.take k).map λr=>((i:Int),r.1,s.2*r.2))) bs/\OwnMS gB mM mB (F0 (E++(y.c.sd.take k).map λr=>((i:Int),r.1,s.2*r.2))))
     (y.c.sd.length-0) _ ⟨0,mB,mA,mM,bs,rfl,rfl,Dv,rfl,ω,by simpa using hOA,by simpa using hMS⟩ Qs ?_
    rintro q sl h4 ms' ⟨k,mB,mA,mM,bs,rfl,rfl,l4,rfl,hk,hOA,hMS⟩;have hyR:=hyR.up l4;have e81:∀ms,Cell h4 ms (⟨g8,1,none⟩:Addr) (.w s.2):=λms=>(e81 ms).le l4;refine Ap (Qm Y (Am (Ac ?_)));refine Ar Y (λhlk=>?_) (λhlk=>?_)
    ·have hkl:k<y.c.sd.length:=ω
     obtain⟨r,hr⟩:∃r,y.c.sd[k]=r:=⟨_,Y⟩
     have hrm:r∈y.c.sd:=by rw[<-hr];exact ae hkl
     have hrI:=yt r hrm;have hsr:∀ms,Seg h4 ms ((AF y.v).add (k*2)) (cD r):=λms=>by rw[<-hr];exact(hyR.any (ms:=ms)).seg hkl
     have hF':(E++(y.c.sd.take (k+1)).map λr=>((i:Int),r.1,s.2*r.2))=(E++(y.c.sd.take k).map λr=>((i:Int),r.1,s.2*r.2))++[((i:Int),r.1,s.2*r.2)]:=by rw[List.take_succ_eq_append_getElem hkl,bg,hr,List.append_assoc];rfl
     have hFl:(E++(y.c.sd.take k).map λr=>((i:Int),r.1,s.2*r.2)).length<=4200:=by rw[ad,af,ao];omega
     have hmu:s.2*r.2=1\/s.2*r.2=-1:=by rcases hsI.2 with e|e<;>rcases hrI.2 with e'|e'<;>rw[e,e']<;>decide
     have hFs:∀e∈E++(y.c.sd.take k).map (λr=>((i:Int),r.1,s.2*r.2)),e.2.2=1\/e.2.2=-1:=λe he=>by
      rcases aq.1 he with he|he
      ·exact hEs e he
      ·obtain⟨r',hr',rfl⟩:=ai.1 he;have hrI':=yt r' (List.mem_of_mem_take hr');show s.2*r'.2=1\/s.2*r'.2=-1;rcases hsI.2 with e|e<;>rcases hrI'.2 with e'|e'<;>rw[e,e']<;>decide
     obtain⟨F,hF⟩:∃F,E++(y.c.sd.take k).map (λr=>((i:Int),r.1,s.2*r.2))=F:=⟨_,Y⟩
     rw[hF]at hOA hMS hFl hFs hF';obtain⟨v0,hv0⟩:∃v0,(Bp (C5 F) r.1).getD 0=v0:=⟨_,Y⟩
     have hb0:=Aa9 F r.1 hFs;rw[<-Jp,hv0]at hb0;have hs1:=GM F ((i:Int),r.1,s.2*r.2);have hm1:=Gc F ((i:Int),r.1,s.2*r.2);simp only at hs1 hm1;rw[hv0]at hs1;refine Ah (Ab ?_);refine A9 (λsl h' ms'=>∃(mB mA mM:Hp) (bs:List Nat),sl=[(0,.pt g),(3,.pt g3),(5,.map (some gA)),(6,.map (some gB)),(7,.w i),(8,.pt g8),(21,x.v),(22,.w x.c.sd.length),(23,.w i),(35,y.v),(36,.w y.c.sd.length),(37,.w k)]/\h4.le h'/\ms'=[mB,mA,mM]/\CQ kN kN gA BS mA (C5 (F++[((i:Int),r.1,s.2*r.2)])) bs/\OwnMS gB mM mB (F0 (F++[((i:Int),r.1,s.2*r.2)]))) ?_ (λs h ms hI=>?_)
     ·refine Ag (Ap (Qx (BG (k) hyR.rd.any Y BZ AO Y Y) Y (Qx (oG Y D4 AO (hsr _)) Y (Cx [.w 0,.w 0] Y AO Y Y (λg10=>?_)))));refine Sa 0 [_,_] AO Y (by simp[Value.oneCell']) ?_;refine Am (AA λh5 l5 hS10=>?_);have e81:∀ms,Cell h5 ms (⟨g8,1,none⟩:Addr) (.w s.2):=λms=>(e81 ms).le l5;have ea0:∀ms,Cell h5 ms (⟨g10,0,none⟩:Addr) (.w r.1):=λms=>Seg.all hS10 0 _ Y ms;have ea1:∀ms,Cell h5 ms (⟨g10,1,none⟩:Addr) (.w r.2):=λms=>Seg.all hS10 1 _ Y ms;refine Ap (Qm Y (Qf B4 Y (Ql Y U3 (ea0 _) (Qx (D6 (V:=kN) (z:=(0:Int)) r.1 hv0 Bt hOA (by simp) rfl L5 HQ rfl rfl hrI.1) rfl (Qf Dh rfl (Ql rfl U3 (e81 _) (Qf Dh rfl (Ql rfl U3 (ea1 _) (Qx (oM rfl) rfl (Qx (oA rfl) rfl (BO (V:=kN) (z:=undef) 1 r.1 (v0+s.2*r.2) Bt hOA rfl rfl L5 rfl rfl rfl hrI.1 rfl rfl (λmA' bs' hOA'=>?_))))))))))));rw[<-hs1]at hOA';refine Am ?_;obtain⟨Tv,bv,v,m1,m2,hO,hv,rfl,hd,hO1,close⟩:=hMS.open r.1;refine Hx hd ?_;obtain⟨L,hL⟩:∃L,(Bp (F0 F) r.1).getD []=L:=⟨_,Y⟩
      have hLl:L.length<=4200:=by rw[<-hL,OU,af];exact Nat.le_trans (List.length_filter_le _ _) hFl
      rw[hL]at hO1 hm1;have ov:=hO1.o1;refine BL (n:=11) (bs:=[true,true,true,true,true,true,false,true,false,false,false]) [true,true,true,true,true,true,false,true] CT κ κ Y Y (Qq Y (QF B4 Y (QL Y U3 (ea0 _) (Qq Y (QF B4 Y (QL Y U3 (ea0 _) (Qq Y ?_)))))));unfold FS;simp only[bh,av];refine Ba [6,8] κ Y ?_;refine AD Y ?_ ?_
      ·refine Qx (D6 (V:=Mf) (z:=(Value.slice none 0 0)) r.1 hv Bt hO (by simp) rfl GB Lz rfl rfl hrI.1) rfl (Qw (Qo 8 rfl (Aw [_] rfl AP A3 rfl (by rfl) rfl rfl ω rfl rfl rfl (λg59=>Qw (Qo 9 rfl (AV 1 hO1 (RdL.one Bd (x:=(i:Int)) Mh rfl) rfl AP A3 rfl ω rfl rfl rfl B7 (by(try simp only[ac]);omega) (by(try simp only[ac]);omega) rfl rfl rfl (λv9 m9 hO9=>?_)))))));have ov9:=hO9.o1;refine Qw (Qo 10 Y (BO (V:=Mf) (z:=undef) 4 r.1 v9 Bt hO Y Y GB Y Y Y hrI.1 Y Y (λmM' bs2 hM'=>Qw (Qe (AR (Ep λhap=>(ET ?_)))))));have hdj:=(bm.1 hap).1 _ Mh;have hMS':=close v9 _ m9 mM' bs2 hdj hO9 hM';rw[<-hm1]at hMS';refine Ai ?_;exact AE _ ⟨_,mA',mM',bs',Y,l5,Y,hOA',hMS'⟩ Qs
      refine AD Y ?_ ?_
      ·refine Aw [_] Y AP A3 Y (by rfl) Y Y ω Y Y Y (λg59=>Qw (Qo 6 Y (Qx (D6 (V:=Mf) (z:=(Value.slice none 0 0)) r.1 hv Bt hO (by simp) rfl GB Lz rfl rfl hrI.1) rfl (Qw (Qo 9 rfl (AV 1 hO1 (RdL.one Bd (x:=(i:Int)) Mh rfl) rfl AP A3 rfl ω rfl rfl rfl B7 (by(try simp only[ac]);omega) (by(try simp only[ac]);omega) rfl rfl rfl (λv9 m9 hO9=>?_)))))));have ov9:=hO9.o1;refine Qw (Qo 10 Y (BO (V:=Mf) (z:=undef) 4 r.1 v9 Bt hO Y Y GB Y Y Y hrI.1 Y Y (λmM' bs2 hM'=>Qw (Qe (AR (Ep λhap=>(ET ?_)))))));have hdj:=(bm.1 hap).1 _ Mh;have hMS':=close v9 _ m9 mM' bs2 hdj hO9 hM';rw[<-hm1]at hMS';refine Ai ?_;exact AE _ ⟨_,mA',mM',bs',Y,l5,Y,hOA',hMS'⟩ Qs
      exact Bb
     ·obtain⟨mB,mA,mM,bs,rfl,k4,rfl,hOA,hMS⟩:=hI;rw[<-hF']at hOA hMS;refine Ad (Qx (oA Y) Y (Qm Y (Al ?_)));exact Ak (y.c.sd.length-(k+1)) _ ω ⟨k+1,mB,mA,mM,bs,Y,Y,AI l4 k4,Y,ω,hOA,hMS⟩ Qs
    ·obtain rfl:k=y.c.sd.length:=ω
     rw[ct,<-hsucc]at hOA hMS;refine Aq (Aa (Aa (Af (Ai ?_))));exact AE _ ⟨mB,mA,mM,bs,Y,AI l3 l4,Y,hOA,hMS⟩ Qs
   ·obtain⟨mB,mA,mM,bs,rfl,k2,rfl,hOA,hMS⟩:=hI;refine Ad (Qx (oA Y) Y (Qm Y (Al ?_)));exact Ak (x.c.sd.length-(i+1)) _ ω ⟨i+1,mB,mA,mM,bs,Y,Y,AI l2 k2,Y,ω,hOA,hMS⟩ Qs
  ·obtain rfl:i=x.c.sd.length:=ω
   refine Aq (Aa (Aa (Af ?_)));exact AE _ ⟨mB,mA,mM,bs,Y,l2,Y,hOA,hMS⟩ Qs
 ·obtain⟨mB,mA,mM,bs,rfl,l2,rfl,hOA,hMS⟩:=hI;have hEl:=Nk (U.map Ce.c) x.c hK.m x.c.sd.length (ay _)
  have hEi:∀e∈JL (U.map Ce.c) x.c x.c.sd.length,0<=e.1/\e.1<x.c.sd.length:=λe he=>by obtain⟨i,hi,r,_,rfl⟩:=Ni he;exact⟨by show 0<=(i:Int);omega,by show(i:Int)<_;omega⟩
  obtain⟨E,hE⟩:∃E,JL (U.map Ce.c) x.c x.c.sd.length=E:=⟨_,Y⟩
  rw[hE]at hOA hMS hEl hEi ⊢;refine Bo λh2 k2 fB=>(Bo λh3 k3 fA=>(Bo λh4 k4 fM=>?_))
  have lB:=AI fB (AI k3 k4);have lA:=AI fA k4;have lh4:=AI l2 (AI k2 (AI k3 k4));refine A9 (λsl h' ms'=>sl=[(3,.pt g3),(6,.map (some gB))]/\h4=h'/\ms'=[]/\∀e∈E,El E e.2.1=0) ?_ (λs h ms hI=>?_)
  ·refine Ac (Ad (Qm Y (JO hOA lA Y L5 Y Y Y Y (λgi mi0 I0=>Am (Ag ?_)))))
   refine Ax (λq sl h' ms'=>∃(vis:List Nat) (mi:Hp),q=(C5 E).length-vis.length/\sl=[(3,.pt g3),(6,.map (some gB)),(64,.pt gi)]/\h4=h'/\ms'=[mi]/\HP gi gA mA mi bs vis/\∀j (hj:j<(C5 E).length),j∈vis->(C5 E)[j].2=0)
    ((C5 E).length-0) _ ⟨[],mi0,rfl,rfl,rfl,rfl,I0,λj hj h=>nomatch h⟩ Qs ?_
   rintro q sl h' ms' ⟨vis,mi,rfl,rfl,rfl,rfl,I,hz⟩;refine Ap ?_;refine LD 0 hOA I lA Y Y Y Y Y Y (λhall=>?_) (λj hj mi' hjv I'=>?_)
   ·refine Qm Y (Am (Ac (AN Y (Aq (Aa (Aa (Af ?_)))))))
    have hzero:∀e∈E,El E e.2.1=0:=λe he=>by obtain⟨l,v,hl⟩:=G9 ((KG e.2.1 E).2 ⟨e,he,Y⟩);rw[<-Jp,Ej (SV E) hl];obtain⟨h1,h2⟩:=List.getElem?_eq_some_iff.1 hl;have:=hz l h1 (hall l h1);rw[h2]at this;exact this
    refine A4 0 Y ?_;exact AE _ ⟨Y,Y,Y,hzero⟩ Qs
   ·have hTj:(C5 E)[j].2=El E (C5 E)[j].1:=by have hg:(C5 E)[j]?=some ((C5 E)[j].1,(C5 E)[j].2):=co hj;rw[<-Jp,Ej (SV E) hg];rfl
    refine Qm Y (Am (Ac (Bu Y (Ah (Ab (Ag (Ap (Qx (Jn hOA I' lA (by simp) hj rfl rfl) rfl (Qm rfl (Qm rfl (BE (Qm rfl (Qm rfl (Am ?_))))))))))))));refine Ar Y (λhne=>?_) (λhne=>?_)
    ·have h24:VK E x.c.sd.length=24:=by unfold VK;rw[ab λw=>?_];obtain⟨e,he,h1⟩:=(KG (C5 E)[j].1 E).1 (ai.2 ⟨_,ae hj,Y⟩);have:=w e he;rw[h1,<-hTj]at this;exact hne this
     refine Ap (Qm Y (Am (An (Aj (Ae (Aj (Ae ?_)))))));exact Au Y Y (by rw[h24])
    ·refine Ah (Ai ?_);refine Ak ((C5 E).length-(vis.length+1)) _ ?_ ⟨vis++[j],mi',by simp,rfl,rfl,rfl,I',λi hi' hv=>?_⟩ Qs
     ·have hlt:vis.length<(C5 E).length:=by
       have h1:=Go.Kuhn.nodup_le (vis++[j]) (range (C5 E).length) I'.nodup λx hx=>by rw[ba,<-hOA.len];exact I'.lt x hx
       simp at h1;omega
      omega
     ·rcases aq.1 hv with hv|hv
      ·exact hz i hi' hv
      ·simp at hv;subst hv;exact Classical.not_not.1 hne
  ·obtain⟨rfl,rfl,rfl,hzero⟩:=hI;obtain⟨Tv,bv,hOv,hKv,hRv,hRa⟩:=hMS.look lB;obtain⟨M,hM⟩:∃M,F0 E=M:=⟨_,Y⟩
   have hMn:=AaX E;have hMk:=λc=>Ux c E;have hMg:=λc=>OU c E;rw[hM]at hKv hRv hRa hMn hMk hMg;have hTl:Tv.length=M.length:=by have:=bf List.length hKv;simpa using this
   refine Ap (C7 (K:=kN) (V:=Mf) (Ok:=BS) Y Y Y Y (λgJ mJ hJ0=>Cx [.map none] Y Z6 Y Y (λg13=>AY 0 0 Y Z6 Y Y (by rfl) Y Y (by decide) Y Y (Am (AA λh5 k5 hS13=>?_)))));have e13:∀ms,Cell h5 ms (⟨g13,0,none⟩:Addr) (.map (some gJ)):=λms=>Seg.all hS13 0 _ Y ms;refine BI ?_;have hJS0:=OwnMS.start hJ0;have fM5:=AI fM k5
   let pr:Nat->Int×Int:=λj=>(((M.getD j (0,[])).2).getD 0 0,((M.getD j (0,[])).2).getD 1 0)
   refine A9 (λsl h' ms'=>∃(vis:List Nat) (mJB mJ:Hp),sl=[(3,.pt g3),(13,.pt g13)]/\h5=h'/\ms'=[mJB,mJ]/\OwnMS gJ mJ mJB (E2 (vis.map pr))/\vis.length<=M.length/\(∀j,j∈vis->j<M.length)/\(∀j,j<M.length->j∈vis)/\∀j (hj:j<M.length),M[j].2.length=2) ?_ (λs h ms hI=>?_)
   ·refine Ac (Ad (Qm Y (JO hOv fM5 Y GB Y Y Y Y (λgi mi0 I0=>Am (Ag (Eh 1 Y ?_))))))
    refine Ax (λq sl h' ms'=>∃(vis:List Nat) (mi mJB mJ:Hp),q=M.length-vis.length/\sl=[(3,.pt g3),(13,.pt g13),(73,.pt gi)]/\h5=h'/\ms'=[mJB,mi,mJ]/\HP gi gB mM mi bv vis/\OwnMS gJ mJ mJB (E2 (vis.map pr))/\∀j (hj:j<M.length),j∈vis->M[j].2.length=2)
     (M.length-0) _ ⟨[],mi0,Hp.emp,mJ,rfl,rfl,rfl,rfl,I0,hJS0,λj hj h=>nomatch h⟩ Qs ?_
    rintro q sl h' ms' ⟨vis,mi,mJB,mJ,rfl,rfl,rfl,rfl,I,hJS,hz⟩
    have hvl:∀{w:List Nat} {m':Hp},HP gi gB mM m' bv w->w.length<=M.length/\∀j,j∈w->j<M.length:=λ{w m'} I=>by
     have hlt:∀x∈w,x<M.length:=λx hx=>by rw[<-hTl,<-hOv.len];exact I.lt x hx
     have h1:=Go.Kuhn.nodup_le w (range M.length) I.nodup λx hx=>ba.2 (hlt x hx);rw[length_range]at h1;exact⟨h1,hlt⟩
    refine Ap ?_;refine LD 1 hOv I fM5 Y Y Y Y Y Y (λhall=>?_) (λj hj mi' hjv I'=>?_)
    ·refine Qm Y (Am (Ac (AN Y (Aq (Aa (Aa (Af (A4 1 Y ?_))))))));exact AE _ ⟨vis,mJB,mJ,Y,Y,Y,hJS,(hvl I).1,(hvl I).2,λj hj=>hall j ω,λj hj=>hz j hj (hall j ω)⟩ Qs
    ·have hjM:j<M.length:=ω
     have hRj:=(hRv j hj hjM).2.up k5
     have hcj:(Bp M M[j].1).getD []=M[j].2:=by have hg:M[j]?=some (M[j].1,M[j].2):=co hjM;rw[Ej hMn hg];rfl
     have hcE:=hMg M[j].1;rw[hcj]at hcE;obtain⟨v,hv⟩:∃v,Tv[j].2=v:=⟨_,Y⟩
     obtain⟨L,hL⟩:∃L,M[j].2=L:=⟨_,Y⟩
     rw[hv,hL]at hRj;have ov:=hRj.rd.one;have hLl:L.length<=4200:=by rw[<-hL,hcE,af];exact Nat.le_trans (List.length_filter_le _ _) ω
     refine Qm Y (Am (Ac (Bu Y (Ah (Ab (Ag (Ap (Qx (Jn hOv I' fM5 (by simp) hj rfl rfl) rfl ?_))))))));rw[hv];refine Qm Y (Qm Y (Am (Ac (Ap (Qm Y (Qx (Av hRj.rd.any Y AP Y) Y (Qm Y (Am ?_))))))));refine Ar Y (λhne=>?_) (λhne=>?_)
     ·have h25:VK E x.c.sd.length=25:=by unfold VK;rw[aa (λw=>w hzero),ab λw=>?_];obtain⟨e,he,h1⟩:=(hMk M[j].1).1 (ai.2 ⟨_,ae hjM,Y⟩);have:=w e he;rw[h1,Ig,<-af (f:=λe:Int×Int×Int=>e.1),<-hcE,hL]at this;exact hne ω
      refine Ap (Qm Y (Am (An (Ae (Aj (Ae (Aj (Ae ?_))))))));exact Au Y Y (by rw[h25])
     ·have hL2:L.length=2:=ω
      obtain⟨a,b,rfl⟩:∃a b,L=[a,b]:=by
       match L,hL2 with
       | [a,b],_=>exact⟨a,b,Y⟩
      have hin:∀k∈[a,b],0<=k/\k<x.c.sd.length:=λk hk=>by rw[<-hL,hcE]at hk;obtain⟨e,he,rfl⟩:=ai.1 hk;exact hEi e (di.1 he).1
      have ha:=hin a Mh;have hb:=hin b (List.mem_cons_of_mem _ Mh);have haI:BS a:=by unfold BS;omega
      have hbI:BS b:=by unfold BS;omega
      have hprj:pr j=(a,b):=by
       simp only[pr];have:M.getD j (0,[])=M[j]:=by simp[List.getD,hjM]
       rw[this,hL];rfl
      have hMl:M.length<=4200:=by rw[<-hM];have:=RZ E;omega
      have hPl:(vis.map pr).length<=4200:=by rw[af];have:=(hvl I).1;omega
      have hjl:=MO (vis.map pr);have hsn:E2 ((vis++[j]).map pr)=Fh (Fh (E2 (vis.map pr)) a b) b a:=by rw[bg,List.map_singleton,Ie,hprj]
      have hj1:=JN (E2 (vis.map pr)) a b _ hjl;obtain⟨T0,hT0⟩:∃T0,E2 (vis.map pr)=T0:=⟨_,Y⟩
      rw[hT0]at hJS hjl hsn hj1;have ca:∀ms,Cell h5 ms ((AF v).add (0*1)) (.w a):=λms=>(hRj.any (ms:=ms)).cell0 (j:=0) (by simp) rfl;have cb:∀ms,Cell h5 ms ((AF v).add (1*1)) (.w b):=λms=>(hRj.any (ms:=ms)).cell0 (j:=1) (by simp) rfl;refine Ah (Ab ?_);obtain⟨Tv1,bv1,u,m1,m2,hO,hu,rfl,hd,hO1,close⟩:=hJS.open a;refine Hx hd ?_;obtain⟨L0,hL0⟩:∃L0,(Bp T0 a).getD []=L0:=⟨_,Y⟩
      have hL0l:L0.length<=10000:=by rw[<-hL0];have:=hjl a;omega
      rw[hL0]at hO1;have hjeq:Fh T0 a b=De T0 a (L0++[b]):=by unfold Fh;rw[hL0]
      have ou:=hO1.o1;refine A9 (λsl h' ms'=>∃(mJB mJ:Hp),sl=[(3,.pt g3),(13,.pt g13),(15,v),(73,.pt gi)]/\h5=h'/\ms'=[mJB,mi',mJ]/\OwnMS gJ mJ mJB (Fh T0 a b)) ?_ (λs h ms hI=>?_)
      ·refine BL (n:=15) (bs:=[true,true,true,true,true,true,true,true,false,true,true,true,false,false,false]) [true,true,true,true,true,true,true,true,false,true,true,true] CT κ κ Y Y (QL Y GB (e13 _) (Qq Y (Qp Y (Az 0 hRj.rd.any Y AP A3 Y Y Y ω) (QL Y U3 (ca _) (QL Y GB (e13 _) (Qq Y (Qp Y (Az 0 hRj.rd.any Y AP A3 Y Y Y ω) (QL Y U3 (ca _) (Qq Y (Qp Y (Az 1 hRj.rd.any Y AP A3 Y Y Y ω) (QL Y U3 (cb _) ?_)))))))))));unfold FS;simp only[bh,av];refine Ba [8,12] κ Y ?_;refine AD Y ?_ ?_
       ·refine Qx (D6 (V:=Mf) (z:=(Value.slice none 0 0)) a hu Bt hO (by simp) rfl GB Lz rfl rfl haI) rfl (Qw (Qo 12 rfl (Aw [_] rfl AP A3 rfl (by rfl) rfl rfl ω rfl rfl rfl (λg93=>Qw (Qo 13 rfl (AV 1 hO1 (RdL.one Bd (x:=b) Mh rfl) rfl AP A3 rfl ω rfl rfl rfl B7 (by(try simp only[ac]);omega) (by(try simp only[ac]);omega) rfl rfl rfl (λv9 m9 hO9=>?_)))))));have ov9:=hO9.o1;refine Qw (Qo 14 Y (BO (V:=Mf) (z:=undef) 4 a v9 Bt hO Y Y GB Y Y Y haI Y Y (λmM' bs2 hM'=>Qw (Qe (AR (Ep λhap=>(ET ?_)))))));have hdj:=(bm.1 hap).1 _ Mh;have hMS':=close v9 _ m9 mM' bs2 hdj hO9 hM';rw[<-hjeq]at hMS';exact AE _ ⟨_,mM',Y,Y,Y,hMS'⟩ Qs
       refine AD Y ?_ ?_
       ·refine Aw [_] Y AP A3 Y (by rfl) Y Y ω Y Y Y (λg93=>Qw (Qo 8 Y (Qx (D6 (V:=Mf) (z:=(Value.slice none 0 0)) a hu Bt hO (by simp) rfl GB Lz rfl rfl haI) rfl (Qw (Qo 13 rfl (AV 1 hO1 (RdL.one Bd (x:=b) Mh rfl) rfl AP A3 rfl ω rfl rfl rfl B7 (by(try simp only[ac]);omega) (by(try simp only[ac]);omega) rfl rfl rfl (λv9 m9 hO9=>?_)))))));have ov9:=hO9.o1;refine Qw (Qo 14 Y (BO (V:=Mf) (z:=undef) 4 a v9 Bt hO Y Y GB Y Y Y haI Y Y (λmM' bs2 hM'=>Qw (Qe (AR (Ep λhap=>(ET ?_)))))));have hdj:=(bm.1 hap).1 _ Mh;have hMS':=close v9 _ m9 mM' bs2 hdj hO9 hM';rw[<-hjeq]at hMS';exact AE _ ⟨_,mM',Y,Y,Y,hMS'⟩ Qs
       exact Bb
      ·obtain⟨mJB,mJ,rfl,rfl,rfl,hJS⟩:=hI;obtain⟨T1,hT1⟩:∃T1,Fh T0 a b=T1:=⟨_,Y⟩
       rw[hT1]at hJS hj1 hsn;obtain⟨Tv2,bv2,u2,m1,m2,hO,hu,rfl,hd,hO1,close⟩:=hJS.open b;refine Hx hd ?_;obtain⟨L1,hL1⟩:∃L1,(Bp T1 b).getD []=L1:=⟨_,Y⟩
       have hL1l:L1.length<=10000:=by rw[<-hL1];have:=hj1 b;omega
       rw[hL1]at hO1;have hjeq2:Fh T1 b a=De T1 b (L1++[a]):=by unfold Fh;rw[hL1]
       have ou2:=hO1.o1;refine BL (n:=15) (bs:=[true,true,true,true,true,true,true,true,false,true,true,true,false,false,false]) [true,true,true,true,true,true,true,true,false,true,true,true] CT κ κ Y Y (QL Y GB (e13 _) (Qq Y (Qp Y (Az 1 hRj.rd.any Y AP A3 Y Y Y ω) (QL Y U3 (cb _) (QL Y GB (e13 _) (Qq Y (Qp Y (Az 1 hRj.rd.any Y AP A3 Y Y Y ω) (QL Y U3 (cb _) (Qq Y (Qp Y (Az 0 hRj.rd.any Y AP A3 Y Y Y ω) (QL Y U3 (ca _) ?_)))))))))));unfold FS;simp only[bh,av];refine Ba [8,12] κ Y ?_;refine AD Y ?_ ?_
       ·refine Qx (D6 (V:=Mf) (z:=(Value.slice none 0 0)) b hu Bt hO (by simp) rfl GB Lz rfl rfl hbI) rfl (Qw (Qo 12 rfl (Aw [_] rfl AP A3 rfl (by rfl) rfl rfl ω rfl rfl rfl (λg107=>Qw (Qo 13 rfl (AV 1 hO1 (RdL.one Bd (x:=a) Mh rfl) rfl AP A3 rfl ω rfl rfl rfl B7 (by(try simp only[ac]);omega) (by(try simp only[ac]);omega) rfl rfl rfl (λv9 m9 hO9=>?_)))))));have ov9:=hO9.o1;refine Qw (Qo 14 Y (BO (V:=Mf) (z:=undef) 4 b v9 Bt hO Y Y GB Y Y Y hbI Y Y (λmM' bs2 hM'=>Qw (Qe (AR (Ep λhap=>(ET ?_)))))));have hdj:=(bm.1 hap).1 _ Mh;have hMS':=close v9 _ m9 mM' bs2 hdj hO9 hM';rw[<-hjeq2,<-hsn]at hMS';refine Ai ?_;have hv':=(hvl I').1;rw[ad,ac]at hv';exact Ak (M.length-(vis.length+1)) _ ω ⟨vis++[j],mi',_,mM',by simp,rfl,rfl,rfl,I',hMS',λi hi' hv=>by rcases aq.1 hv with hv|hv;exact hz i hi' hv;simp at hv;subst hv;rw[hL];rfl⟩ Qs
       refine AD Y ?_ ?_
       ·refine Aw [_] Y AP A3 Y (by rfl) Y Y ω Y Y Y (λg107=>Qw (Qo 8 Y (Qx (D6 (V:=Mf) (z:=(Value.slice none 0 0)) b hu Bt hO (by simp) rfl GB Lz rfl rfl hbI) rfl (Qw (Qo 13 rfl (AV 1 hO1 (RdL.one Bd (x:=a) Mh rfl) rfl AP A3 rfl ω rfl rfl rfl B7 (by(try simp only[ac]);omega) (by(try simp only[ac]);omega) rfl rfl rfl (λv9 m9 hO9=>?_)))))));have ov9:=hO9.o1;refine Qw (Qo 14 Y (BO (V:=Mf) (z:=undef) 4 b v9 Bt hO Y Y GB Y Y Y hbI Y Y (λmM' bs2 hM'=>Qw (Qe (AR (Ep λhap=>(ET ?_)))))));have hdj:=(bm.1 hap).1 _ Mh;have hMS':=close v9 _ m9 mM' bs2 hdj hO9 hM';rw[<-hjeq2,<-hsn]at hMS';refine Ai ?_;have hv':=(hvl I').1;rw[ad,ac]at hv';exact Ak (M.length-(vis.length+1)) _ ω ⟨vis++[j],mi',_,mM',by simp,rfl,rfl,rfl,I',hMS',λi hi' hv=>by rcases aq.1 hv with hv|hv;exact hz i hi' hv;simp at hv;subst hv;rw[hL];rfl⟩ Qs
       exact Bb
   ·obtain⟨vis,mJB,mJ,rfl,rfl,rfl,hJS,hv1,hv2,hv3,h2⟩:=hI;refine Bo λh6 k6 fJB=>(Bo λh7 k7 fJ=>?_)
    have fJB7:=AI fJB k7;have l57:=AI k6 k7;refine Ap (C7 (K:=kN) (V:=vB) (Ok:=BS) Y Y Y Y (λgS mS hS0=>Cx [.map none] Y AbL Y Y (λg16=>AY 0 0 Y AbL Y Y (by rfl) Y Y (by decide) Y Y (Am (AA λh8 k8 hS16=>?_)))));have e16:∀ms,Cell h8 ms (⟨g16,0,none⟩:Addr) (.map (some gS)):=λms=>Seg.all hS16 0 _ Y ms;refine Ap (Cx [.nilFunc] Y Z2 Y Y (λg17=>BE (Qx (BY Y Y Y) Y (AY 0 0 Y Z2 Y Y (by rfl) Y Y (by decide) Y Y (Am (AA λh9 k9 hS17=>?_))))));have e17:∀ms,Cell h9 ms (⟨g17,0,none⟩:Addr) (.func (.func 142) #[] #[.pt g16,.pt g13,.pt g17]):=λms=>Seg.all hS17 0 _ Y ms;obtain⟨P,hP⟩:∃P,vis.map pr=P:=⟨_,Y⟩
    rw[hP]at hJS
    have hpm:∀p,p∈P<->∃j,∃hj:j<M.length,M[j].2=[p.1,p.2]:=λp=>by
     rw[<-hP,ai]
     have hpj:∀j (hj:j<M.length),M[j].2=[(pr j).1,(pr j).2]:=λj hj=>by
      have e:M.getD j (0,[])=M[j]:=by simp[List.getD,hj]
      simp only[pr];rw[e];have hl:=h2 j hj
      match M[j].2,hl with
      | [a,b],_=>rfl
     constructor
     ·rintro⟨j,hj,rfl⟩;exact⟨j,hv2 j hj,hpj j _⟩
     ·rintro⟨j,hj,e⟩;refine⟨j,hv3 j hj,?_⟩;have:=hpj j hj;rw[e]at this;simp only[List.cons.injEq,and_true]at this;exact Prod.ext this.1.symm this.2.symm
    have hMj:∀j (hj:j<M.length),(E.filter λe=>decide (e.2.1=M[j].1)).map (λe=>e.1)=M[j].2:=λj hj=>by have hg:M[j]?=some (M[j].1,M[j].2):=co hj;rw[<-hMg,Ej hMn hg];rfl
    have hcnt:∀e∈E,FJ E e.2.1=2:=λe he=>by obtain⟨l,v,hl⟩:=G9 ((hMk e.2.1).2 ⟨e,he,Y⟩);obtain⟨h1,e1⟩:=List.getElem?_eq_some_iff.1 hl;have h3:=hMj l h1;have h4:=h2 l h1;rw[<-h3,e1,af]at h4;rw[Ig];have h4:(E.filter λe'=>decide (e'.2.1=e.2.1)).length=2:=h4;omega
    have hJm:∀a k,k∈(Bp (E2 P) a).getD []<->∃c p q,(E.filter λe=>decide (e.2.1=c)).map (λe=>e.1)=[p,q]/\((a=p/\k=q)\/(a=q/\k=p)):=λa k=>by
     rw[Ub,hpm,hpm];constructor
     ·rintro(⟨j,hj,e⟩|⟨j,hj,e⟩)
      ·exact⟨M[j].1,a,k,by rw[hMj j hj,e],.inl ⟨rfl,rfl⟩⟩
      ·exact⟨M[j].1,k,a,by rw[hMj j hj,e],.inr ⟨rfl,rfl⟩⟩
     ·rintro⟨c,p,q,e,h⟩
      have hc:∃j,∃hj:j<M.length,M[j].2=[p,q]:=by
       have hm:c∈M.map Prod.fst:=(hMk c).2 (by
        have hpm:p∈(E.filter λe=>decide (e.2.1=c)).map (λe=>e.1):=by rw[e];exact Mh
        obtain⟨e',he',_⟩:=ai.1 hpm;obtain⟨h3,h4⟩:=di.1 he'
        exact⟨e',h3,bw h4⟩)
       obtain⟨l,v,hl⟩:=G9 hm;obtain⟨h1,e1⟩:=List.getElem?_eq_some_iff.1 hl;refine⟨l,h1,?_⟩;rw[<-hMj l h1,e1];exact e
      obtain⟨j,hj,e2⟩:=hc;rcases h with ⟨rfl,rfl⟩|⟨rfl,rfl⟩
      ·exact .inl ⟨j,hj,e2⟩
      ·exact .inr ⟨j,hj,e2⟩
    have hPl:P.length<=4200:=by rw[<-hP,af];have:=RZ E;rw[hM]at this;omega
    have V:AbK h9 gS gJ g16 g13 g17 mJ mJB (E2 P) (λa=>(Bp (E2 P) a).getD []) x.c.sd.length:=⟨λms=>(e16 ms).le k9,λms=>(e13 ms).le (AI l57 (AI k8 k9)),e17,hJS,AI fJ (AI k8 k9),AI fJB7 (AI k8 k9),λa=>rfl,λa k hk=>by
     obtain⟨c,p,q,e,h⟩:=(hJm a k).1 hk
     have hin:∀y∈[p,q],0<=y/\y<x.c.sd.length:=λy hy=>by rw[<-e]at hy;obtain⟨e',he',rfl⟩:=ai.1 hy;exact hEi e' (di.1 he').1
     rcases h with ⟨_,rfl⟩|⟨_,rfl⟩
     ·exact hin _ (List.mem_cons_of_mem _ Mh)
     ·exact hin _ Mh,λa=>by have:=MO P a;show((Bp (E2 P) a).getD []).length<=_;omega,ω⟩
    refine Ap (Ql Y AbN (e17 _) (HC (pre:=[mS]) Y Y call142 Y (Xn V (uns x.c.sd.length []+1) 0 [] [] mS hK.p hS0 (λp hp=>nomatch hp) (Nat.lt_succ_self _)) Y Y Y Y (λv' h' pre' l' hF=>?_)));obtain⟨rfl,m',T',bs',rfl,hO',hA',R⟩:=hF;simp only[bh,av,append_nil];refine Am (Ac (Ap (Ql Y W0 ((e16 _).le k9) (Qx (YH hO' (by simp) rfl W0 rfl) rfl ?_))));have hX9:=hX.up (AI lh4 (AI k5 (AI l57 (AI k8 k9))))
    have hmem:∀y,y∈GF T'<->Con E 0 y:=λy=>by
     rw[Zc hcnt hJm];constructor
     ·intro h;exact(R.new y h (λq=>nomatch q)).1.1
     ·intro h
      induction h with
      | refl=>exact R.me
      | step _ h3 ih=>exact(R.new _ ih (λq=>nomatch q)).1.2 _ h3
    have hlen:T'.length=x.c.sd.length<->(0<x.c.sd.length/\∀i:Nat,i<x.c.sd.length->Con E 0 i):=by
     have hnd:=hO'.keys
     have hsub:∀y∈GF T',y∈(range x.c.sd.length).map λ(i:Nat)=>(i:Int):=λy hy=>by have:=(R.new y hy (λq=>nomatch q)).2;exact ai.2 ⟨y.toNat,ba.2 ω,ω⟩
     have hle:=Go.Kuhn.nodup_le _ _ hnd hsub;have hr:((range x.c.sd.length).map λ(i:Nat)=>(i:Int)).Nodup:=List.pairwise_map.2 (List.nodup_range.imp λh e=>h ω);constructor
     ·intro h;refine⟨hK.p,λi hi=>(hmem _).1 (ax λhn=>?_)⟩
      have h3:=Go.Kuhn.nodup_le ((i:Int)::GF T') _ (dh.2 ⟨hn,hnd⟩) λy hy=>by
       rcases aj.1 hy with rfl|hy
       ·exact ai.2 ⟨i,ba.2 hi,Y⟩
       ·exact hsub y hy
      rw[List.length_cons,af,af,length_range]at h3;omega
     ·rintro⟨_,h⟩
      have h3:=Go.Kuhn.nodup_le _ (GF T') hr λy hy=>by obtain⟨i,hi,rfl⟩:=ai.1 hy;exact(hmem _).2 (h i (ba.1 hi))
      rw[af,af,length_range]at h3;rw[af,af,length_range]at hle;omega
    refine Qf BA Y (Ql Y BZ (((hA 2 _ Y _).le (AI lh4 (AI k5 (AI l57 (AI k8 k9)))))) (Qx (Av hX9.rd.any Y BZ Y) Y (Qm Y (Am ?_))));refine Ar Y (λhne=>?_) (λhne=>?_)
    ·refine Ac (Ad (Qm Y (Am (An (Ae ?_)))));exact Au Y Y (by unfold VK;rw[aa (λw=>w hzero),aa (λw=>w hcnt),ab (λw=>hne (by rw[hlen.2 w]))])
    ·refine Ah (Ab (Ap (Qm Y (Am (An ?_)))));exact Au Y Y (by unfold VK;rw[aa (λw=>w hzero),aa (λw=>w hcnt),aa (λw=>w (hlen.1 ω))])
variable {U o:List Cl} {i:Nat}
theorem EB{e:Entry}{Q:Exit->Act->World->Prop}{ops:Array Oper}{r:List Oper}{s:AC}{h:Hp}{ms:List Hp}(k:WL e ops Q r s h ms):∀pre:List Hp,WL e ops Q r s h (pre++ms)
 | []=>k
 | m::pre=>TQ 0 rfl (EB k pre)
def JP(o:List Cl)(i:Nat):Int:=if i=0 then 0 else(o.getD (i-1) default).id
def cA(U o:List Cl)(i:Nat):Option (Int×Int):=
 if(o.getD i default).id<=JP o i then some ((o.getD i default).id,20)
 else if D7 U (o.getD i default)≠0 then some ((o.getD i default).id,D7 U (o.getD i default)) else none
noncomputable def Uy(U o:List Cl)(i:Nat):Option (Int×Int):=
 if 1<(o.getD i default).dim then
  if VK (JL U (o.getD i default) (o.getD i default).sd.length) (o.getD i default).sd.length≠0 then some ((o.getD i default).id,VK (JL U (o.getD i default) (o.getD i default).sd.length) (o.getD i default).sd.length) else none
 else none
noncomputable def Me(U o:List Cl):Int×Int:=
 match (range o.length).findSome? (cA U o) with
 | some e=>e
 | none=>match (range o.length).findSome? (Uy U o) with
  | some e=>e
  | none=>(0,0)
theorem UQ{e:Int×Int}(hi:i<o.length)(h:∀j,j<i->cA U o j=none)(he:cA U o i=some e):Me U o=e:=by unfold Me;rw[DB h he o.length hi]
theorem AaQ{e:Int×Int}(hA:∀j,j<o.length->cA U o j=none)(hi:i<o.length)(h:∀j,j<i->Uy U o j=none)(he:Uy U o i=some e):Me U o=e:=by unfold Me;rw[Cv o.length hA,DB h he o.length hi]
theorem XD(hA:∀j,j<o.length->cA U o j=none)(hB:∀j,j<o.length->Uy U o j=none):Me U o=(0,0):=by unfold Me;rw[Cv o.length hA,Cv o.length hB]
structure Abu(l:List Ce):Prop extends OfOk l where
 d:∀a∈l,BS a.c.dim
 r:∀a∈l,∀s∈a.c.sd,BS s.1/\BS s.2
theorem Mm{x:Cl}(h:D7 U x=0):(0<=x.dim/\x.dim<=8)/\¬BX x/\(∀i,i<x.sd.length->¬HL U x i)/\∀i,i<x.sd.length->¬BP x i:=by
 unfold D7 at h;split at h
 ·exact absurd h (by decide)
 rename_i h1;split at h
 ·exact absurd h (by decide)
 rename_i h2;split at h
 ·exact absurd h (by decide)
 rename_i h3;split at h
 ·exact absurd h (by decide)
 rename_i h4;exact⟨ω,h2,Classical.not_not.1 h3,Classical.not_not.1 h4⟩
theorem Jb(h:i<o.length):o.getD i default=o[i]:=by simp[List.getD,h]
theorem SK(hi:i<o.length)(h:cA U o i=none):JP o i<o[i].id/\D7 U o[i]=0:=by
 unfold cA at h;rw[Jb hi]at h;split at h
 ·cases h
 ·rename_i h1;split at h
  ·cases h
  ·rename_i h2;exact⟨ω,Classical.not_not.1 h2⟩
theorem Aab(h:∀j,j<o.length->cA U o j=none):o.Pairwise λa b=>a.id<b.id:=by
 have key:∀j (hj:j<o.length) i (hi:i<j),o[i].id<o[j].id:=λj=>by
  induction j with
  | zero=>intro hj i hi;omega
  | succ j ih=>
   intro hj i hi;have h1:=(SK hj (h _ hj)).1
   have h2:JP o (j+1)=o[j].id:=by unfold JP;rw[aa ω,Nat.add_sub_cancel,Jb ω]
   rw[h2]at h1;rcases (ω:i<j\/i=j) with h3|rfl
   ·have:=ih ω i h3;omega
   ·exact h1
 rw[aw];intro i j hi hj hij;exact key j hj i hij
theorem Abf{l o1 o2:List Cl}(C1:CanO l o1)(C2:CanO l o2)(hU:∀y∈U,y∈o1)(hr:∀a∈l,∀s∈a.sd,BS s.1/\BS s.2)(hA:∀j,j<o2.length->cA U o2 j=none){x:Cl}(hx:x∈o2)(hd:1<x.dim):YR U x:=by
 have hnd:(l.map Cl.id).Nodup:=C2.ids.nodup_iff.1 (M9 (Aab hA))
 have hf:∀y∈o2,D7 U y=0:=λy hy=>by obtain⟨j,hj,rfl⟩:=getElem_of_mem hy;exact(SK hj (hA j hj)).2
 have hy2:∀y∈o2,y.sd.length<=64/\∀s∈y.sd,BS s.1/\(s.2=1\/s.2=-1):=λy hy=>by obtain⟨h1,h2,h3,h4⟩:=Mm (hf y hy);refine⟨by unfold BX at h2;omega,λs hs=>?_⟩;obtain⟨i,hi,rfl⟩:=getElem_of_mem hs;have h5:=h4 i hi;unfold BP at h5;rw[Bs hi]at h5;obtain⟨a,ha,_,_,hp⟩:=C2.sim.mem y hy;exact⟨(hr a ha _ (hp.mem_iff.1 (ae hi))).1,ω⟩
 have hyU:∀y∈U,y.sd.length<=64/\∀s∈y.sd,BS s.1/\(s.2=1\/s.2=-1):=λy hy=>by obtain⟨a,ha,_,_,hp⟩:=C1.sim.mem y (hU y hy);obtain⟨y',hy',_,_,hp'⟩:=C2.sim.to hnd ha;obtain⟨h1,h2⟩:=hy2 y' hy';refine⟨by rw[hp.length_eq,<-hp'.length_eq];exact h1,λs hs=>h2 s (hp'.mem_iff.2 (hp.mem_iff.1 hs))⟩
 have hcel:∀c,(GR U c).sd.length<=64/\∀s∈(GR U c).sd,BS s.1/\(s.2=1\/s.2=-1):=λc=>by
  unfold GR Mr;cases hc:U.find? λy=>decide (y.id=c) with
  | none=>exact⟨by simp[default,instInhabitedCl.default],λs hs=>by simp[default,instInhabitedCl.default]at hs⟩
  | some y=>exact hyU y (List.mem_of_find?_eq_some hc)
 obtain⟨h1,h2⟩:=hy2 x hx;obtain⟨_,h4,_,_⟩:=Mm (hf x hx);exact⟨h1,by unfold BX at h4;omega,λi _=>(hcel _).1,λs hs=>h2 s hs,λi _ r hr=>(hcel _).2 r hr⟩
theorem Ts(l:List Ce)(v:Value)(hp:Hp)(hK:Abu l)(hR:RdC hp v l):FnT Tryz.prog 28 #[.agg #[v]] hp [] (λr _ _=>∃e,r=.tuple #[.int .i64 e.1,.int .i64 e.2]/\((4000<l.length/\e=(0,2))\/(l.length<=4000/\∃A1 A2:List Ce,CanO (l.map Ce.c) (A1.map Ce.c)/\CanO (l.map Ce.c) (A2.map Ce.c)/\e=Me ((RB A1).map Ce.c) (A2.map Ce.c)))):=by
 have o1:=hR.q.rd.one;refine Ao func28 ntmps28 Y Y (λw0 hw0=>?_);simp only[AX];refine Ap (AQ [_] Y Y (by rfl) Y Y Y (λg1=>Qm Y (Qm Y (Am (AA λh1 l1 hS=>?_)))));have hR:=hR.up l1;refine Ac (Ap (Qf Cc Y (Ql Y Bi (Seg.all hS 0 _ Y _) (Qx (Av hR.q.rd.any Y Bi Y) Y (Qm Y (Am ?_))))));refine Ar Y (λh4=>?_) (λh4=>?_)
 ·refine Ac (Ad (Qm Y (Qm Y (Am (An (Ae ?_))))));exact BC Y Y Y (⟨(0,2),Y,.inl ⟨ω,Y⟩⟩)
 ·refine Ah (Ab (Ap (Qx (oG Y CN A0 (Seg.any hS)) Y (Qc call64 Y (Z9 l v h1 hK.toOfOk hR) (λrT h2 ms2 l2 hF=>?_)))));obtain⟨l2',rfl,g,A1,rfl,hC1,hT⟩:=hF;have hR2:=hR.up l2;have hS2:=hS.le l2;refine Qm Y (BE (Qx (oG Y CN A0 (Seg.any hS2)) Y (Qc call65 Y (Jy l v h2 hK.n hK.s hR2) (λrC h3 ms3 l3 hF=>?_))));obtain⟨l3',mA,A2,vA,rfl,rfl,hOA,hC2,hsA⟩:=hF;refine A6 hOA λhq l4 hQ=>?_;have hsA:=λa ha=>(hsA a ha).up l4;have hT:=hT.up (AI l3 l4);have ovA:=hQ.rd.one
  have hU1:∀y∈(RB A1).map Ce.c,y∈A1.map Ce.c:=λy hy=>by
   obtain⟨a,ha,rfl⟩:=ai.1 hy;rcases Kg _ _ a ha with h|h
   ·cases h
   ·exact ai.2 ⟨a,h,Y⟩
  obtain⟨W,hW⟩:∃W,RB A1=W:=⟨_,Y⟩
  rw[hW]at hT hU1;have hol:A2.length=l.length:=by have:=hC2.len;rwa [af,af]at this
  have hln:=hK.n
  have hx2:∀a∈A2,∃b∈l,a.c.id=b.c.id/\a.c.dim=b.c.dim/\a.c.sd.Perm b.c.sd:=λa ha=>by obtain⟨y,hy,e1,e2,e3⟩:=hC2.sim.mem a.c (ai.2 ⟨a,ha,Y⟩);obtain⟨b,hb,rfl⟩:=ai.1 hy;exact⟨b,hb,e1,e2,e3⟩
  have hget:∀i (hi:i<A2.length),(A2.map Ce.c).getD i default=A2[i].c:=λi hi=>by simp[List.getD,hi]
  have hres:∀e,e=Me (W.map Ce.c) (A2.map Ce.c)->(4000<l.length/\e=(0,2))\/(l.length<=4000/\∃A1 A2:List Ce,CanO (l.map Ce.c) (A1.map Ce.c)/\CanO (l.map Ce.c) (A2.map Ce.c)/\e=Me ((RB A1).map Ce.c) (A2.map Ce.c)):=λe he=>.inr ⟨ω,A1,A2,hC1,hC2,by rw[he,hW]⟩;refine Qx (EE Y CN Y Bi Y Y Y) Y (Qm Y (Qm Y (Am ?_)));refine A9 (λsl h' ms'=>sl=[(4,.pt g),(6,vA)]/\hq.le h'/\ms'=[]/\∀j,j<A2.length->cA (W.map Ce.c) (A2.map Ce.c) j=none) ?_ (λs h ms hI=>?_)
  ·refine Ac (Ad (Qm Y (Qx (Av hQ.rd.any Y Bi Y) Y (Qm Y (Am (Ag ?_))))))
   refine Ax (λq sl h' ms'=>∃(i:Nat),q=A2.length-i/\sl=[(4,.pt g),(5,.w (JP (A2.map Ce.c) i)),(6,vA),(22,vA),(23,.w A2.length),(24,.w i)]/\hq.le h'/\ms'=[]/\i<=A2.length/\∀j,j<i->cA (W.map Ce.c) (A2.map Ce.c) j=none)
    (A2.length-0) _ ⟨0,rfl,rfl,Dv,rfl,ω,λj h=>ω⟩ Qs ?_
   rintro q sl h5 ms' ⟨i,rfl,rfl,l5,rfl,hi,hno⟩;have hQ:=hQ.up l5;refine Ap (Qm Y (Am (Ac ?_)));refine Ar Y (λhlt=>?_) (λhlt=>?_)
   ·have hil:i<A2.length:=ω
    obtain⟨x,hx⟩:∃x,A2[i]=x:=⟨_,Y⟩
    have hxm:x∈A2:=by rw[<-hx];exact ae hil
    have hgx:=hget i hil;rw[hx]at hgx;obtain⟨b,hb,e1,e2,e3⟩:=hx2 x hxm;have hX:=(hsA x hxm).up l5;have hd:BS x.c.dim:=by rw[e2];exact hK.d b hb
    have hn:x.c.sd.length<=1000000:=by rw[e3.length_eq];exact hK.s b hb
    have hr:∀s∈x.c.sd,BS s.1/\BS s.2:=λs hs=>hK.r b hb s (e3.mem_iff.1 hs);have oxv:=hX.rd.one
    have hl1:JP (A2.map Ce.c) (i+1)=x.c.id:=by unfold JP;rw[aa ω,Nat.add_sub_cancel,hgx]
    have hcl:i<(A2.map Ce.c).length:=by rw[af];exact hil
    have hsx:∀ms,Seg h5 ms ((AF vA).add (i*3)) (cC x):=λms=>by rw[<-hx];exact(hQ.any (ms:=ms)).seg hil
    refine Ah (Ab (Ac (Ag (Ap (Qx (BG (i) hQ.rd.any Y Bi AH Y Y) Y (Qx (oG Y Ef AH (hsx _)) Y (Cx [.w 0,.w 0,.slice none 0 0] Y AH Y Y (λg8=>?_))))))));refine Sa 0 [_,_,_] AH Y (by simp[o1,ovA,oxv]) ?_;refine Am (AA λh6 l6 hS8=>?_);have e80:∀ms,Cell h6 ms (⟨g8,0,none⟩:Addr) (.w x.c.id):=λms=>Seg.all hS8 0 _ Y ms;have l56:=AI l5 l6;refine Ac (Ap (Qf Bn Y (Ql Y U3 (e80 _) (Qm Y (Qm Y (Am ?_))))));refine Ar Y (λhle=>?_) (λhle=>?_)
    ·have hch:=UQ (U:=W.map Ce.c) hcl hno (by unfold cA;rw[hgx,ab hle]);refine Ap (Qf Bn Y (Ql Y U3 (e80 _) (Qm Y (Qm Y (Am (An (Ae (Aj (Ae (Ae (Aj (Ae ?_))))))))))));exact BC Y Y Y (⟨_,Y,hres _ hch.symm⟩)
    ·refine Ah (Ab (Ap (Qf Bn Y (Ql Y U3 (e80 _) (Qm Y (BE (Qm Y (Qx (oG Y Ef AH (Seg.any hS8)) Y (Qc call76 Y (Y5 W x g h6 (hT.up l56) (hX.up l6) hd hn hr) (λrF h7 ms7 l7 hF=>?_))))))))));subst hF;refine EB ?_ ms7;have e80:∀ms,Cell h7 ms (⟨g8,0,none⟩:Addr) (.w x.c.id):=λms=>(e80 ms).le l7;refine Qm Y (BE (Qm Y (Qm Y (Am ?_))));refine Ar Y (λhne=>?_) (λhne=>?_)
     ·have hch:=UQ (U:=W.map Ce.c) hcl hno (by unfold cA;rw[hgx,aa hle,ab hne]);refine Ap (Qf Bn Y (Ql Y U3 (e80 _) (Qm Y (Qm Y (Qm Y (Am (An (Aj (Ae (Ae (Aj (Ae ?_))))))))))));exact BC Y Y Y (⟨_,Y,hres _ hch.symm⟩)
     ·have hci:cA (W.map Ce.c) (A2.map Ce.c) i=none:=by unfold cA;rw[hgx,aa hle,aa hne]
      refine Ah (Ai (Ab (Ad (Qx (oA Y) Y (Qm Y (Al ?_))))))
      exact Ak (A2.length-(i+1)) _ ω ⟨i+1,Y,by rw[hl1],AI l56 l7,rfl,ω,λj hj=>by
       rcases (ω:j<i\/j=i) with h1|rfl
       ·exact hno j h1
       ·exact hci⟩ Qs
   ·obtain rfl:i=A2.length:=ω
    refine Aq (Aa (Aa (Af ?_)));exact AE _ ⟨Y,l5,Y,hno⟩ Qs
  ·obtain⟨rfl,l5,rfl,hno⟩:=hI;have hno':∀j,j<(A2.map Ce.c).length->cA (W.map Ce.c) (A2.map Ce.c) j=none:=λj hj=>hno j (by rwa [af]at hj);have hQ:=hQ.up l5;have hT:=hT.up l5;have hsA:=λa ha=>(hsA a ha).up l5;refine Ac (Ap (Qm Y (Qx (Av hQ.rd.any Y Bi Y) Y (Qm Y (Am (Ag ?_))))))
   refine Ax (λq sl h' ms'=>∃(i:Nat),q=A2.length-i/\sl=[(4,.pt g),(45,vA),(46,.w A2.length),(47,.w i)]/\h.le h'/\ms'=[]/\i<=A2.length/\∀j,j<i->Uy (W.map Ce.c) (A2.map Ce.c) j=none)
    (A2.length-0) _ ⟨0,rfl,rfl,Dv,rfl,ω,λj h=>ω⟩ Qs ?_
   rintro q sl h6 ms' ⟨i,rfl,rfl,l6,rfl,hi,hnB⟩;have hQ:=hQ.up l6;refine Ap (Qm Y (Am (Ac ?_)));refine Ar Y (λhlt=>?_) (λhlt=>?_)
   ·have hil:i<A2.length:=ω
    obtain⟨x,hx⟩:∃x,A2[i]=x:=⟨_,Y⟩
    have hxm:x∈A2:=by rw[<-hx];exact ae hil
    have hgx:=hget i hil;rw[hx]at hgx;have hX:=(hsA x hxm).up l6;have oxv:=hX.rd.one;have hcl:i<(A2.map Ce.c).length:=by rw[af];exact hil
    have hsx:∀ms,Seg h6 ms ((AF vA).add (i*3)) (cC x):=λms=>by rw[<-hx];exact(hQ.any (ms:=ms)).seg hil
    have hstep:Uy (W.map Ce.c) (A2.map Ce.c) i=none->∀j,j<i+1->Uy (W.map Ce.c) (A2.map Ce.c) j=none:=λh j hj=>by
     rcases (ω:j<i\/j=i) with h1|rfl
     ·exact hnB j h1
     ·exact h
    refine Ah (Ab (Ac (Ag (Ap (Qx (BG (i) hQ.rd.any Y Bi AH Y Y) Y (Qx (oG Y Ef AH (hsx _)) Y (Cx [.w 0,.w 0,.slice none 0 0] Y AH Y Y (λg11=>?_))))))));refine Sa 0 [_,_,_] AH Y (by simp[o1,ovA,oxv]) ?_;refine Am (AA λh7 l7 hS11=>?_);have e110:∀ms,Cell h7 ms (⟨g11,0,none⟩:Addr) (.w x.c.id):=λms=>Seg.all hS11 0 _ Y ms;have e111:∀ms,Cell h7 ms (⟨g11,1,none⟩:Addr) (.w x.c.dim):=λms=>Seg.all hS11 1 _ Y ms;have l67:=AI l6 l7;refine Ap (Qf BT Y (Ql Y U3 (e111 _) (Qm Y (Am ?_))));refine Ar Y (λhd=>?_) (λhd=>?_)
    ·have hAr:YR (W.map Ce.c) x.c:=Abf hC1 hC2 hU1 (λa ha s hs=>by
      obtain⟨b,hb,rfl⟩:=ai.1 ha
      exact hK.r b hb s hs) hno' (ai.2 ⟨x,hxm,Y⟩) hd
     refine Ap (Qm Y (Qx (oG Y Ef AH (Seg.any hS11)) Y (Qc call77 Y (Um W x g h7 (hT.up l67) (hX.up l7) hAr) (λrF h8 ms8 l8 hF=>?_))));subst hF;refine EB ?_ ms8;have e110:∀ms,Cell h8 ms (⟨g11,0,none⟩:Addr) (.w x.c.id):=λms=>(e110 ms).le l8;refine Qm Y (BE (Qm Y (Qm Y (Am ?_))));refine Ar Y (λhne=>?_) (λhne=>?_)
     ·have hch:=AaQ (U:=W.map Ce.c) hno' hcl hnB (by unfold Uy;rw[hgx,ab hd,ab hne]);refine Ap (Qf Bn Y (Ql Y U3 (e110 _) (Qm Y (Qm Y (Qm Y (Am (An (Aj (Ae (Ae (Aj (Ae ?_))))))))))));exact BC Y Y Y (⟨_,Y,hres _ hch.symm⟩)
     ·have hci:Uy (W.map Ce.c) (A2.map Ce.c) i=none:=by unfold Uy;rw[hgx,ab hd,aa hne]
      refine Ah (Ai (Ab (Ad (Qx (oA Y) Y (Qm Y (Al ?_))))));exact Ak (A2.length-(i+1)) _ ω ⟨i+1,Y,Y,AI l67 l8,Y,ω,hstep hci⟩ Qs
    ·have hci:Uy (W.map Ce.c) (A2.map Ce.c) i=none:=by unfold Uy;rw[hgx,aa hd]
     refine Ah (Ai (Ab (Ad (Qx (oA Y) Y (Qm Y (Al ?_))))));exact Ak (A2.length-(i+1)) _ ω ⟨i+1,Y,Y,l67,Y,ω,hstep hci⟩ Qs
   ·obtain rfl:i=A2.length:=ω
    have hch:=XD hno' (λj hj=>hnB j (by rwa [af]at hj));refine Aq (Aa (Aa (Af (Ab (Ap (Qm Y (Qm Y (Am (An ?_)))))))));exact BC Y Y Y (⟨(0,0),Y,hres _ hch.symm⟩)
end Go.Proofs.Q
namespace Go.Proofs.Q
open Go.Proofs.Tryz
open Go.Eng Go.RowKit
variable {l:List Ce} {o:List Cl} {x c:Cl}
theorem XQ(U:List Cl)(x:Cl):FL U x=(JL U x x.sd.length).map λe=>((Bw x e.1.toNat).1,e.2):=by
 have hx:x.sd=(range x.sd.length).map (Bw x):=bo (by simp) λj h1 h2=>by simp[Bs h1]
 unfold FL LR
 conv=>lhs;rw[hx]
 unfold JL;rw[List.flatMap_map,List.map_flatMap];refine D1 λi hi=>?_;unfold Xx;rw[map_map];exact List.map_congr_left λr _=>by simp
theorem U7(E:Gp)(f:Int->Int)(c:Int):El (E.map λe=>(f e.1,e.2)) c=El E c/\FJ (E.map λe=>(f e.1,e.2)) c=FJ E c:=by unfold El FJ;rw[map_map,map_map];exact⟨Y,Y⟩
theorem ZC{U:List Cl}(G:GoodT (FL U x) x.sd)(hn:0<x.sd.length)(hd:(x.sd.map Prod.fst).Nodup):VK (JL U x x.sd.length) x.sd.length=0:=by
 have hT:=XQ U x;obtain⟨E,hE⟩:∃E,JL U x x.sd.length=E:=⟨_,Y⟩
 have hi:∀e∈E,∃i:Nat,i<x.sd.length/\e.1=(i:Int):=λe he=>by rw[<-hE]at he;obtain⟨i,hi,r,_,rfl⟩:=Ni he;exact⟨i,hi,Y⟩
 rw[hE]at hT ⊢;rw[hT]at G;have hsm:=λc=>U7 E (λk=>(Bw x k.toNat).1) c
 have h1:∀e∈E,El E e.2.1=0:=λe he=>by have h:=G.sum ((Bw x e.1.toNat).1,e.2) (ai.2 ⟨e,he,Y⟩);rw[(hsm _).1]at h;exact h
 have h2:∀e∈E,FJ E e.2.1=2:=λe he=>by have h:=G.two ((Bw x e.1.toNat).1,e.2) (ai.2 ⟨e,he,Y⟩);rw[(hsm _).2]at h;exact h
 have hinj:∀i j:Nat,i<x.sd.length->j<x.sd.length->(Bw x i).1=(Bw x j).1->i=j:=λi j hi hj e=>by
  rcases Nat.lt_trichotomy i j with h|h|h
  ·exact absurd e (IH hd i j h hj)
  ·exact h
  ·exact absurd e.symm (IH hd j i h hi)
 have hcon:∀{u v:Int},Con (E.map λe=>((Bw x e.1.toNat).1,e.2)) u v->∀i:Nat,i<x.sd.length->u=(Bw x i).1->∃j:Nat,j<x.sd.length/\v=(Bw x j).1/\Con E i j:=λ{u v} h=>by
  induction h with
  | refl=>intro i hi e;exact⟨i,hi,e,.refl _⟩
  | @step b d c w w' _ m1 m2 ih=>
   intro i hi0 e;obtain⟨j,hj,e1,C⟩:=ih i hi0 e;obtain⟨p,hp,q1⟩:=ai.1 m1;obtain⟨p',hp',q2⟩:=ai.1 m2;obtain⟨k,hk,ek⟩:=hi p hp;obtain⟨k',hk',ek'⟩:=hi p' hp';rw[ek]at q1;rw[ek']at q2;have a1:=(Prod.mk.injEq _ _ _ _ ▸ q1:_/\_)
   have a2:=(Prod.mk.injEq _ _ _ _ ▸ q2:_/\_)
   obtain⟨b1,b2⟩:=a1;obtain⟨b1',b2'⟩:=a2;rw[bu]at b1 b1';have hkj:k=j:=hinj k j hk hj (by rw[b1,e1]);subst hkj;refine⟨k',hk',b1'.symm,.step C (c:=c) (w:=w) (w':=w') ?_ ?_⟩
   ·have:p=((k:Int),c,w):=by rw[<-ek,<-b2]
    rw[<-this];exact hp
   ·have:p'=((k':Int),c,w'):=by rw[<-ek',<-b2']
    rw[<-this];exact hp'
 have h3:0<x.sd.length/\∀i:Nat,i<x.sd.length->Con E 0 i:=by refine⟨hn,λi hi'=>?_⟩;have hc:=G.con (Bw x 0) (by rw[Bs hn];exact ae hn) (Bw x i) (by rw[Bs hi'];exact ae hi');obtain⟨j,hj,e,C⟩:=hcon hc 0 hn Y;rw[hinj i j hi' hj e];exact C
 unfold VK;rw[aa (λw=>w h1),aa (λw=>w h2),aa (λw=>w h3)]
theorem Yo:XY x x.sd.length=(x.sd.map Prod.snd).sum:=by unfold XY;rw[ct]
theorem Wk(R:Rgt o)(hx:x∈o):D7 o x=0:=by
 have hb:∀i,i<x.sd.length->¬HL o x i:=λi hi q=>by
  obtain⟨y,hy,e1,e2⟩:=R.sid x hx _ (ae hi);unfold HL at q;rw[Bs hi,<-e1,Dt R.nd hy,C6 R.nd hy]at q;rcases q with q|q|⟨q1,q2⟩
  ·cases q
  ·exact q e2
  ·rw[e1,<-Bs hi]at q2;exact IH (R.sds x hx) (i-1) i ω hi q2
 have hs:∀i,i<x.sd.length->¬BP x i:=λi hi q=>by unfold BP at q;rw[Bs hi]at q;have:=R.sgn x hx _ (ae hi);omega
 unfold D7
 rw[aa (by have:=R.dim x hx;omega),aa (R.num x hx),aa (λw=>w hb),aa (λw=>w hs),aa λq=>by
  have:=R.one x hx q.1;rw[Yo]at q
  exact q.2 this]
theorem VL(R:RgtF o):Me o o=(0,0):=by
 have G:=R.rgt;refine XD (λj hj=>?_) λj hj=>?_
 ·unfold cA;rw[Jb hj,aa,aa]
  ·exact λq=>q (Wk G (ae hj))
  ·unfold JP;split
   ·have:=G.pos _ (ae hj);omega
   ·rw[Jb ω];have:=aw.1 R.inc (j-1) j ω hj ω;omega
 ·unfold Uy;rw[Jb hj];split
  ·rename_i hd;have hx:=ae hj;have hnum:=G.num _ hx;unfold BX at hnum;rw[aa];exact λq=>q (ZC (G.tab _ hx ω) ω (G.sds _ hx))
  ·rfl
structure RgC(l:List Ce):Prop where
 r:Rgt (l.map Ce.c)
 i:∀a∈l,a.c.id<=1000000
def cn(l:List Ce):List Cl:=ordF (l.map Ce.c)
theorem C0(l:List Ce):(cn l).length=l.length:=by unfold cn;rw[E1,af]
theorem RgC.F(R:RgC l):RgtF (cn l):=R.r.ordF
theorem CanO.ord{l:List Cl}(C:CanO l o)(R:Rgt l):o=ordF l:=by
 have F:=R.ordF;have hp:=Dn l.length l (ay _);obtain⟨l',h1,h2,h3⟩:=C.mem;have hinc:=F.inc
 have hm:(o.map Cl.id)=(ordF l).map Cl.id:=by refine Dz id (C.ids.trans ?_) (List.pairwise_map.2 C.inc) (List.pairwise_map.2 hinc);have:=(hp.map Cl.id).symm;rw[map_map]at this;exact this
 have hlen:o.length=(ordF l).length:=by have:=bf List.length hm;simpa using this
 refine bo hlen λi h1' h2'=>?_;obtain⟨a1,a2,a3,a4⟩:=h3 i h1' ω
 have e1:o[i].id=(ordF l)[i].id:=by have:=List.getElem_of_eq hm (i:=i) (by simpa using h1');simpa using this
 have hxl:l'[i]'ω∈l:=h1.mem_iff.1 (ae _);obtain⟨z,hz,ez⟩:=G6 (ae h2')
 have hzz:z=l'[i]'ω:=by
  have b1:=Dt R.nd hz;have b2:=Dt R.nd hxl;have:z.id=(l'[i]'ω).id:=by rw[<-a1,e1,ez];rfl
  rw[this,b2]at b1;exact(de b1).symm
 have hs:o[i].sd=(ordF l)[i].sd:=by refine Dz Prod.fst (a3.trans ?_) a4 (F.sinc _ (ae h2'));rw[ez,hzz];exact(Cm _).symm
 have hd:o[i].dim=(ordF l)[i].dim:=by rw[a2,ez,hzz];rfl
 revert e1 hs hd;generalize o[i]=x;generalize (ordF l)[i]=y;cases x;cases y;intro e1 hs hd;simp only at e1 hs hd;rw[e1,hs,hd]
theorem RgtF.ordF(R:RgtF o):ordF o=o:=by
 have e1:o.map Cl.can=o:=by
  have:∀l:List Cl,(∀x∈l,x∈o)->l.map Cl.can=l:=λl=>by
   induction l with
   | nil=>intro _;rfl
   | cons a l ih=>
    intro h;have e:CU a.sd=a.sd:=Dz Prod.fst (Cm _) (Gv _) (R.sinc a (h a Mh));rw[map_cons,ih λx hx=>h x (List.mem_cons_of_mem _ hx)];unfold Cl.can;rw[e]
  exact this o λx hx=>hx
 have h2:=Dn o.length o (ay _);rw[e1]at h2;exact Dz Cl.id h2 (Dx _ _ (ay _)) R.inc
theorem Xm(R:RgtF (l.map Ce.c)):cn l=l.map Ce.c:=R.ordF
theorem V6(h:c∈cn l):∃b∈l,c=b.c.can:=by obtain⟨a,ha,e⟩:=G6 h;obtain⟨b,hb,rfl⟩:=ai.1 ha;exact⟨b,hb,e⟩
theorem RgC.ci(R:RgC l)(h:c∈cn l):c.id<=1000000:=by obtain⟨b,hb,rfl⟩:=V6 h;exact R.i b hb
theorem RgC.cI(R:RgC l)(h:c∈cn l):BS c.id:=by have:=R.ci h;have:=R.F.rgt.pos _ h;unfold BS;omega
theorem Rgt.bds{l:List Cl}(R:Rgt l)(hx:x∈l):(0<=x.dim/\x.dim<=8)/\x.sd.length<=64:=by have h1:=R.dim x hx;have h2:=R.num x hx;unfold BX at h2;omega
theorem RgC.pc(R:RgC l):Abu l:=by
 have G:=R.r;have hm:∀a∈l,a.c∈l.map Ce.c:=λa ha=>ai.2 ⟨a,ha,Y⟩;have hid:∀a∈l,BS a.c.id:=λa ha=>by have:=G.pos _ (hm a ha);have:=R.i a ha;unfold BS;omega
 have hn:=G.n;rw[af]at hn;refine⟨⟨ω,λa ha=>?_,hid⟩,λa ha=>?_,λa ha s hs=>?_⟩
 ·have:=(G.bds (hm a ha)).2;omega
 ·have:=(G.bds (hm a ha)).1;unfold BS;omega
 ·obtain⟨y,hy,e,_⟩:=G.sid _ (hm a ha) s hs;obtain⟨b,hb,rfl⟩:=ai.1 hy;have h2:=G.sgn _ (hm a ha) s hs;rw[<-e];exact⟨hid b hb,by unfold BS;omega⟩
theorem ZU{A:List Ce}(h:A.map Ce.c=o)(hn:(o.map Cl.id).Nodup):(A.map λa=>a.c.id).Nodup:=by rw[<-h,map_map]at hn;exact hn
theorem MM(l:List Ce)(v:Value)(hp:Hp)(hK:RgC l)(hR:RdC hp v l):FnT Tryz.prog 28 #[.agg #[v]] hp [] (λr _ _=>r=.tuple #[.int .i64 0,.int .i64 0]):=by
 refine(Ts l v hp hK.pc hR).mono λr _ _ h=>?_;obtain⟨e,rfl,h⟩:=h;have hn:=hK.r.n;rw[af]at hn;have hF:=hK.F;rcases h with ⟨h,_⟩|⟨_,A1,A2,C1,C2,rfl⟩
 ·omega
 ·have e1:=C1.ord hK.r;have e2:=C2.ord hK.r;rw[Vk (ZU e1 hF.rgt.nd),e1,e2];have:=VL hF;unfold cn at this;rw[this]
theorem JA(l:List Ce)(v:Value)(hp:Hp)(hK:RgC l)(hR:RdC hp v l):FnT Tryz.prog 65 #[.agg #[v]] hp [] (λr h' ms'=>hp.le h'/\∃m A v',ms'=[m]/\r=.agg #[v']/\OwnL cC 3 52 m v' A/\A.map Ce.c=cn l/\∀a∈A,RdL cD 2 h' [] a.v a.c.sd):=by refine(Jy l v hp hK.pc.n hK.pc.s hR).mono λr h' ms' h=>?_;obtain⟨h1,m,A,v',h2,h3,h4,h5,h6⟩:=h;exact⟨h1,m,A,v',h2,h3,h4,h5.ord hK.r,h6⟩
theorem Oe(l:List Ce)(v:Value)(hp:Hp)(hK:RgC l)(hR:RdC hp v l):FnT Tryz.prog 64 #[.agg #[v]] hp [] (λr h' ms'=>hp.le h'/\ms'=[]/\∃g A,r=.pointer (some ⟨g,0,none⟩)/\A.map Ce.c=cn l/\RdT h' g A):=by refine(Z9 l v hp hK.pc.toOfOk hR).mono λr h' ms' h=>?_;obtain⟨h1,h2,g,A,h3,h4,h5⟩:=h;have e:A.map Ce.c=cn l:=h4.ord hK.r;rw[Vk (ZU e hK.F.rgt.nd)]at h5;exact⟨h1,h2,g,A,h3,e,h5⟩
theorem VQ(l:List Ce)(v:Value)(i:Int)(hp:Hp)(hK:RgC l)(hi:BS i)(hR:RdC hp v l):FnT Tryz.prog 21 #[.agg #[v],.int .i64 i] hp [] (λr h' ms'=>hp.le h'/\∃y,r=.tuple #[vC y,.bool (Mr (cn l) i).isSome]/\y.c=GR (cn l) i/\RdL cD 2 h' [] y.v y.c.sd):=by
 have o1:=hR.q.rd.one;refine Ao func21 ntmps21 Y Y (λw0 hw0=>?_);simp only[AX];refine Ap (AQ [_] Y Y (by rfl) Y Y Y (λg2=>Cx [.w 0,.w 0,.slice none 0 0] Y AH Y Y (λg4=>Qm Y (Am (Bm 1 Y λh1 l1 hS=>?_)))));have hR:=hR.up l1;refine Ap (Qx (oG Y CN A0 (Seg.any hS)) Y (Qc call64 Y (Oe l v h1 hK hR) (λrT h2 ms2 l2 hF=>?_)));obtain⟨l2',rfl,g,A,rfl,hA,gm,mMt,bst,vids,hSg,hMt,lmt,hVt,hsU⟩:=hF;have eT:∀ms,Cell h2 ms (⟨g,0,none⟩:Addr) (.map (some gm)):=λms=>Seg.all hSg 0 _ Y ms;obtain⟨y,hy⟩:∃y,(Bp (FN A) i).getD default=y:=⟨_,Y⟩
 obtain⟨bb,hbb⟩:∃bb,(Bp (FN A) i).isSome=bb:=⟨_,Y⟩
 have hyR:=Rb hsU i;rw[hy]at hyR;have hbb':(Mr (cn l) i).isSome=bb:=by rw[<-hA,<-P8];exact hbb
 have hyc:y.c=GR (cn l) i:=by rw[<-hA,<-IS,hy]
 have oy:=hyR.rd.one;refine Qm Y (Qf Fo Y (Ql Y GX (eT _) (Qm Y (Qx (Fl (V:=vC) (z:=(default:Ce)) i hy hbb Bt hMt lmt Y GX KZ Y Y hi) Y (Qm Y (Qm Y (Qm Y (Cx [.w 0,.w 0,.slice none 0 0] Y AH Y Y (λg6=>?_)))))))));refine Sa 0 [_,_,_] AH Y (by simp[o1,oy]) ?_;refine Qm Y (BE (Qx (oG Y Ef AH (Seg.blk 0 Y)) Y (Qm Y ?_)));refine Sa 1 [_,_,_] AH Y (by simp[o1,oy]) ?_;refine Qm Y (Am (An ?_));exact EX (vs:=[_,_,_]) 1 Y Y Y Ef Y AH Y Y (⟨AI l1 l2,y,by rw[hbb'];rfl,hyc,hyR⟩)
end Go.Proofs.Q

namespace Go.Proofs.Q
open Go.Proofs.Tryz
open Go.Eng Go.RowKit
def cV(p:Int×Int):List Value:=[.int .i64 p.1,.int .i64 p.2]
theorem Nt:∀p,(cV p).length=2:=λ_=>rfl
theorem AaD:∀a,∀c∈cV a,c.oneCell'=true:=λa c hc=>by simp only[cV,mem_cons,not_mem_nil,or_false]at hc;rcases hc with rfl|rfl<;>rfl
def Bj(F:List (Int×Int)):List (Int×Int):=F.foldl (λT p=>De T p.1 p.2) []
theorem Jk(F:List (Int×Int))(p:Int×Int):Bj (F++[p])=De (Bj F) p.1 p.2:=by unfold Bj;rw[List.foldl_append];rfl
def GY(F:List (Int×Int))(c:Int):Int:=(Bp (Bj F) c).getD 0
theorem MB(c:Int):∀F:List (Int×Int),c∈(Bj F).map Prod.fst<->c∈F.map Prod.fst:=DE (by simp[Bj]) λF p ih=>by rw[Jk,E6,ih,bg,aq];simp only[map_cons,List.map_nil,ak];exact⟨λq=>q.symm,λq=>q.symm⟩
theorem OR{c x:Int}:∀{F:List (Int×Int)},(F.map Prod.fst).Nodup->(c,x)∈F->GY F c=x:=λ{F}=>by
 revert F
 have:∀F:List (Int×Int),(F.map Prod.fst).Nodup->(c,x)∈F->GY F c=x:=DE (λ_ h=>nomatch h) λF p ih hn hm=>by
  rw[bg,List.nodup_append]at hn;unfold GY;rw[Jk,DJ];rcases aq.1 hm with hm|hm
  ·have hne:c≠p.1:=λe=>hn.2.2 c (ai.2 ⟨_,hm,Y⟩) p.1 (by simp) e;rw[aa hne];exact ih hn.1 hm
  ·rw[<-ak.1 hm,ab rfl];rfl
 exact λ{F}=>this F
theorem Jt(F:List (Int×Int))(v:Value)(h:Hp)(hR:RdL cV 2 h [] v F)(hn:F.length<=1000000)(hk:∀p∈F,BS p.1):FnT Tryz.prog 66 #[v] h [] (λr h' ms'=>h.le h'/\∃g m bs,r=.map (some g)/\ms'=[m]/\CQ kN kN g BS m (Bj F) bs):=by
 have o1:=hR.rd.one;refine Ao func66 ntmps66 Y Y (λw0 hw0=>?_);simp only[AX];refine Ap (Qm Y (BE (C7 (K:=kN) (V:=kN) (Ok:=BS) Y Y Y Y (λgA mA hA0=>Qm Y (Am (Ac (Ap (Qm Y (Qx (Av hR.rd.any Y Oi Y) Y (Qm Y (Am (Ag ?_))))))))))))
 refine Ax (λq sl h' ms'=>∃(i:Nat) (mA:Hp) (bs:List Nat),q=F.length-i/\sl=[(3,.map (some gA)),(7,v),(8,.w F.length),(9,.w i)]/\h.le h'/\ms'=[mA]/\i<=F.length/\CQ kN kN gA BS mA (Bj (F.take i)) bs)
  (F.length-0) _ ⟨0,mA,[],rfl,rfl,Dv,rfl,ω,hA0⟩ Qs ?_
 rintro q sl h2 ms' ⟨i,mA,bs,rfl,rfl,l2,rfl,hi,hO⟩;have hR:=hR.up l2;refine Ap (Qm Y (Am (Ac ?_)));refine Ar Y (λhlt=>?_) (λhlt=>?_)
 ·have hil:i<F.length:=ω
  obtain⟨p,hp⟩:∃p,F[i]=p:=⟨_,Y⟩
  have hpI:BS p.1:=hk p (by rw[<-hp];exact ae hil);have hsx:∀ms,Seg h2 ms ((AF v).add (i*2)) (cV p):=λms=>by rw[<-hp];exact(hR.any (ms:=ms)).seg hil
  have hs:=Jk (F.take i) p;rw[<-hp,<-List.take_succ_eq_append_getElem hil,hp]at hs;refine Ah (Ab (Ac (Ag (Ap (Qx (BG (i) hR.rd.any Y Oi Ff Y Y) Y (Qx (oG Y U47 Ff (hsx _)) Y (Cx [.w 0,.w 0] Y Ff Y Y (λg5=>?_))))))));refine Sa 0 [_,_] Ff Y (by simp[Value.oneCell']) ?_;refine Am (AA λh3 l3 hS5=>?_);have e0:∀ms,Cell h3 ms (⟨g5,0,none⟩:Addr) (.w p.1):=λms=>Seg.all hS5 0 _ Y ms;have e1:∀ms,Cell h3 ms (⟨g5,1,none⟩:Addr) (.w p.2):=λms=>Seg.all hS5 1 _ Y ms;refine Ad (Qm Y (Qf FB Y (Ql Y U3 (e0 _) (Qf RD Y (Ql Y U3 (e1 _) (BO (V:=kN) (z:=undef) 0 p.1 p.2 Bt hO Y Y L5 Y Y Y hpI Y Y (λmA' bs' hO'=>?_)))))));rw[<-hs]at hO';refine Al (Ai (Ab (Ad (Qx (oA Y) Y (Qm Y (Al ?_))))));exact Ak (F.length-(i+1)) _ ω ⟨i+1,mA',bs',Y,Y,AI l2 l3,Y,ω,hO'⟩ Qs
 ·obtain rfl:i=F.length:=ω
  rw[ct]at hO;refine Aq (Aa (Aa (Af (Ab (Ap (Qm Y (Qm Y (Am (An ?_)))))))));exact Au Y Y (⟨l2,gA,mA,bs,Y,Y,hO⟩)
def N6(l:List (Int×Int))(pr:Int×Int->Bool):Int:=match l.findIdx? pr with|some k=>(k:Int)|none=>-1
theorem Tk{l:List (Int×Int)}{pr:Int×Int->Bool}{k:Nat}(hk:k<l.length)(h:pr l[k]=true)(hno:∀j (hj:j<l.length),j<k->pr l[j]=false):N6 l pr=k:=by unfold N6;have:l.findIdx? pr=some k:=List.findIdx?_eq_some_iff_getElem.2 ⟨hk,h,λj hj=>by rw[hno j ω hj];simp⟩;rw[this]
theorem Uf{l:List (Int×Int)}{pr:Int×Int->Bool}(hno:∀j (hj:j<l.length),pr l[j]=false):N6 l pr=-1:=by
 unfold N6
 have:l.findIdx? pr=none:=List.findIdx?_eq_none_iff.2 λx hx=>by obtain⟨j,hj,rfl⟩:=getElem_of_mem hx;exact hno j hj
 rw[this]
theorem WY(l:List (Int×Int))(pr:Int×Int->Bool):0<=N6 l pr<->∃s∈l,pr s=true:=by
 unfold N6;cases h:l.findIdx? pr with
 | none=>
  rw[List.findIdx?_eq_none_iff]at h;constructor
  ·intro q;exact absurd q (by decide)
  ·rintro⟨s,hs,q⟩;rw[h s hs]at q;cases q
 | some k=>
  obtain⟨hk,h1,_⟩:=List.findIdx?_eq_some_iff_getElem.1 h;exact⟨λ_=>⟨_,ae hk,h1⟩,λ_=>by show(0:Int)<=(k:Int);omega⟩
theorem Tl(l:List (Int×Int))(vl:Value)(cf:FuncId)(cs:List Value)(pr:Int×Int->Bool)(h:Hp)(hR:RdL cD 2 h [] vl l)(hn:l.length<=1000000)
  (hc:∀xs w,(callFunc cf xs).run Tryz.prog w=.ok (.enter cf xs) w)
  (hp:∀s∈l,∀ms,FnV Tryz.prog cf ([]++[Value.agg (cD s).toArray]++cs).toArray h ms (.bool (pr s))) :
  FnT Tryz.prog 138 #[vl,.func (.func cf) #[] cs.toArray] h [] (λr _ _=>r=.w (N6 l pr)):=by
 have o1:=hR.rd.one;refine Ao func138 ntmps138 Y Y (λw0 hw0=>?_);simp only[AX];refine Ap (Qm Y (Am (Ac (Ap (Qm Y (Qx (Av hR.rd.any Y BZ Y) Y (Qm Y (Am (Ag ?_)))))))))
 refine Ax (λq s h' ms'=>∃(k:Nat),q=l.length-k/\s=[(0,vl),(1,.func (.func cf) #[] cs.toArray),(7,.w l.length),(8,.w k)]/\h=h'/\ms'=[]/\k<=l.length/\∀j (hj:j<l.length),j<k->pr l[j]=false)
  (l.length-0) _ ⟨0,rfl,rfl,rfl,rfl,ω,λj _ hj=>ω⟩ Qs ?_
 rintro q s h' ms' ⟨k,rfl,rfl,rfl,rfl,hk,hno⟩;refine Ap (Qm Y (Am (Ac ?_)));refine Ar Y (λhlt=>?_) (λhlt=>?_)
 ·have hkn:k<l.length:=ω
  have hsx:∀ms,Seg h ms ((AF vl).add (k*2)) (cD l[k]):=λms=>(hR.any (ms:=ms)).seg hkn;refine Ah (Ab (Ac (Ag (Ap (Qm Y (Qm Y (BE (Qm Y (Qm Y (Qm Y (Qx (BG (k) hR.rd.any Y BZ AO Y Y) Y (Qx (oG Y D4 AO (hsx _)) Y (Qx (Co Y Y hc Y (hp _ (ae hkn) _)) Y (Am ?_))))))))))))));refine Bz Y (λhpk=>?_) (λhpk=>?_)
  ·refine Ac (Ad (Qm Y (Qm Y (Am (An (Aj (Ae (Ae (Aj (Ae ?_))))))))));exact Au Y Y (by rw[Tk hkn hpk hno])
  ·refine Ah (Ai (Ab (Ad (Qx (oA Y) Y (Qm Y (Al ?_))))));refine Ak (l.length-(k+1)) _ ω ⟨k+1,Y,Y,Y,Y,ω,λj hj hjk=>?_⟩ Qs;rcases (ω:j<k\/j=k) with h2|rfl
   ·exact hno j hj h2
   ·exact hpk
 ·obtain rfl:k=l.length:=ω
  refine Aq (Aa (Aa (Af (Ab (Ap (Qm Y (Am (An ?_))))))));exact Au Y Y (by rw[Uf λj hj=>hno j hj hj])
theorem Na(l:List (Int×Int))(vl:Value)(cf:FuncId)(cs:List Value)(pr:Int×Int->Bool)(h:Hp)(hR:RdL cD 2 h [] vl l)(hn:l.length<=1000000)
  (hc:∀xs w,(callFunc cf xs).run Tryz.prog w=.ok (.enter cf xs) w)
  (hp:∀s∈l,∀ms,FnV Tryz.prog cf ([]++[Value.agg (cD s).toArray]++cs).toArray h ms (.bool (pr s))) (ms:List Hp) :
  FnV Tryz.prog 67 #[vl,.func (.func cf) #[] cs.toArray] h ms (.bool (decide (0<=N6 l pr))):=by
 refine DZ ?_ ms;refine Ao func67 ntmps67 Y Y (λw0 hw0=>?_);simp only[AX];refine Ap (Qm Y (BE (Qm Y (Qm Y (Qx (AG Y call138 Y (DZ (Tl l vl cf cs pr h hR hn hc hp) _)) Y (Qm Y (Qm Y (Am (An ?_)))))))));exact Au Y Y (Y)
theorem WN(F:List (Int×Int))(s:Int×Int)(i:Int)(g1 g2 gA:Nat)(mA:Hp)(bs:List Nat)(h:Hp)(hO:CQ kN kN gA BS mA (Bj F) bs)(lA:mA.le h)(h1:∀ms,Cell h ms (⟨g1,0,none⟩:Addr) (.map (some gA)))(h2:∀ms,Cell h ms (⟨g2,0,none⟩:Addr) (.int .i64 i))(hi:BS i)(hs:BS s.1)(ms:List Hp) :
  FnV Tryz.prog 68 ([]++[Value.agg (cD s).toArray]++[Value.pt g1,.pt g2]).toArray h ms (.bool (decide (GY F s.1>GY F i))):=by
 refine DZ ?_ ms;show FnT _ _ #[.agg #[.w s.1,.w s.2],.pt g1,.pt g2] _ _ _;refine Ao func68 ntmps68 Y Y (λw0 hw0=>?_);simp only[AX];refine Ap (AQ [_,_] Y Y (by rfl) Y Y Y (λg3=>Qm Y (Am (AA λh3 l3 hS=>?_))));have e0:∀ms,Cell h3 ms (⟨g3,0,none⟩:Addr) (.w s.1):=λms=>Seg.all hS 0 _ Y ms;have h1:∀ms,Cell h3 ms (⟨g1,0,none⟩:Addr) (.map (some gA)):=λms=>(h1 ms).le l3;have h2:∀ms,Cell h3 ms (⟨g2,0,none⟩:Addr) (.w i):=λms=>(h2 ms).le l3;refine Ap (Ql Y L5 (h1 _) (Qf B4 Y (Ql Y U3 (e0 _) (Qx (Cj (V:=kN) (z:=(0:Int)) (u:=GY F s.1) s.1 Y Bt hO (AI lA l3) Y L5 HQ Y Y hs) Y (Ql Y L5 (h1 _) (Qf Bn Y (Ql Y U3 (h2 _) (Qx (Cj (V:=kN) (z:=(0:Int)) (u:=GY F i) i Y Bt hO (AI lA l3) Y L5 HQ Y Y hi) Y (Qm Y (Qm Y (Am (An ?_))))))))))));exact Au Y Y (Y)
variable {o:List Cl} {F:List (Int×Int)} {i:Nat} {e:Int×Int}
def fA(o:List Cl)(F:List (Int×Int))(i:Nat):Option (Int×Int):=
 if(Mr o (F.getD i (0,0)).1).isSome=false then some ((F.getD i (0,0)).1,30)
 else if(F.getD i (0,0)).1∈(F.take i).map Prod.fst then some ((F.getD i (0,0)).1,54) else none
def fB(o:List Cl)(F:List (Int×Int))(i:Nat):Option (Int×Int):=
 if(o.getD i default).id ∉ F.map Prod.fst then some ((o.getD i default).id,30) else none
def upS(o:List Cl)(F:List (Int×Int))(i:Nat):Prop:=∃s∈(o.getD i default).sd,GY F s.1>GY F (o.getD i default).id
instance (o:List Cl) (F:List (Int×Int)) (i:Nat):Decidable (upS o F i):=by unfold upS;infer_instance
def fC(o:List Cl)(F:List (Int×Int))(i:Nat):Option (Int×Int):=
 if upS o F i then some ((o.getD i default).id,44) else none
def DU(o:List Cl)(F:List (Int×Int)):Int×Int:=
 match (range F.length).findSome? (fA o F) with
 | some e=>e
 | none=>match (range o.length).findSome? (fB o F) with
  | some e=>e
  | none=>match (range o.length).findSome? (fC o F) with
   | some e=>e
   | none=>(0,0)
theorem NP(hi:i<F.length)(h:∀j,j<i->fA o F j=none)(he:fA o F i=some e):DU o F=e:=by unfold DU;rw[DB h he F.length hi]
theorem XF(hA:∀j,j<F.length->fA o F j=none)(hi:i<o.length)(h:∀j,j<i->fB o F j=none)(he:fB o F i=some e):DU o F=e:=by unfold DU;rw[Cv F.length hA,DB h he o.length hi]
theorem XM(hA:∀j,j<F.length->fA o F j=none)(hB:∀j,j<o.length->fB o F j=none)(hi:i<o.length)(h:∀j,j<i->fC o F j=none)(he:fC o F i=some e):DU o F=e:=by unfold DU;rw[Cv F.length hA,Cv o.length hB,DB h he o.length hi]
theorem QN(hA:∀j,j<F.length->fA o F j=none)(hB:∀j,j<o.length->fB o F j=none)(hC:∀j,j<o.length->fC o F j=none):DU o F=(0,0):=by unfold DU;rw[Cv F.length hA,Cv o.length hB,Cv o.length hC]
structure HJ(F:List (Int×Int)):Prop where
 n:F.length<=1000000
 k:∀p∈F,BS p.1
theorem Gi(l:List Ce)(F:List (Int×Int))(v vf:Value)(hp:Hp)(hK:RgC l)(hR:RdC hp v l)(hF:RdL cV 2 hp [] vf F)(hV:HJ F):FnT Tryz.prog 24 #[.agg #[v],vf] hp [] (λr _ _=>r=.tuple #[.int .i64 (DU (cn l) F).1,.int .i64 (DU (cn l) F).2]):=by
 have o1:=hR.q.rd.one;have o2:=hF.rd.one;have hG:=hK.F.rgt;have hFn:=hV.n;have hln:l.length<=4000:=by have:=hG.n;rwa [C0]at this
 refine Ao func24 ntmps24 Y Y (λw0 hw0=>?_);simp only[AX];refine Ap (AQ [_] Y Y (by rfl) Y Y Y (λg2=>Qm Y (Qm Y (Am (AA λh1 l1 hS=>?_)))));have hR:=hR.up l1;have hF:=hF.up l1;refine Ac (Ap (Qx (oG Y CN A0 (Seg.any hS)) Y (Qx (AG Y call28 Y (DZ (MM l v h1 hK hR) _)) Y (Qm Y (Qm Y (Qm Y (Qm Y (Qm Y (BE (Qm Y (Qm Y (Am (Ar Y (λhc=>absurd hc (λh=>h Y)) (λhc=>Ah (Ab (Ap (C7 (K:=kN) (V:=vB) (Ok:=BS) Y Y Y Y (λgS mS hS0=>Qm Y (Am ?_)))))))))))))))))));refine A9 (λsl h' ms'=>∃(mS:Hp) (TS:List (Int×Bool)) (bs:List Nat),sl=[(1,vf),(2,.pt g2),(8,.map (some gS))]/\h1.le h'/\ms'=[mS]/\CQ kN vB gS BS mS TS bs/\NS TS/\(∀x,x∈GF TS<->x∈F.map Prod.fst)/\∀j,j<F.length->fA (cn l) F j=none) ?_ (λs h ms hI=>?_)
 ·refine Ac (Ad (Qm Y (Qx (Av hF.rd.any Y Oi Y) Y (Qm Y (Am (Ag ?_))))))
  refine Ax (λq sl h' ms'=>∃(i:Nat) (mS:Hp) (TS:List (Int×Bool)) (bs:List Nat),q=F.length-i/\sl=[(1,vf),(2,.pt g2),(8,.map (some gS)),(29,vf),(30,.w F.length),(31,.w i)]/\h1.le h'/\ms'=[mS]/\i<=F.length/\CQ kN vB gS BS mS TS bs/\NS TS/\(∀x,x∈GF TS<->x∈(F.take i).map Prod.fst)/\∀j,j<i->fA (cn l) F j=none)
   (F.length-0) _ ⟨0,mS,[],[],rfl,rfl,Dv,rfl,ω,hS0,λp hp=>(nomatch hp),λx=>by simp,λj h=>ω⟩ Qs ?_
  rintro q sl h2 ms' ⟨i,mS,TS,bs,rfl,rfl,l2,rfl,hi,hO,hA,hk,hno⟩;have hF:=hF.up l2;refine Ap (Qm Y (Am (Ac ?_)));refine Ar Y (λhlt=>?_) (λhlt=>?_)
  ·have hil:i<F.length:=ω
   obtain⟨p,hp⟩:∃p,F[i]=p:=⟨_,Y⟩
   have hgp:F.getD i (0,0)=p:=by simp[List.getD,hil,hp]
   have hpI:BS p.1:=hV.k p (by rw[<-hp];exact ae hil);have hsx:∀ms,Seg h2 ms ((AF vf).add (i*2)) (cV p):=λms=>by rw[<-hp];exact(hF.any (ms:=ms)).seg hil
   have hS2:=hS.le l2;refine Ah (Ab (Ac (Ag (Ap (Qx (BG (i) hF.rd.any Y Oi Ff Y Y) Y (Qx (oG Y U47 Ff (hsx _)) Y (Cx [.w 0,.w 0] Y Ff Y Y (λg10=>?_))))))));refine Sa 0 [_,_] Ff Y (by simp[Value.oneCell']) ?_;refine Am (AA λh3 l3 hS10=>?_);have e0:∀ms,Cell h3 ms (⟨g10,0,none⟩:Addr) (.w p.1):=λms=>Seg.all hS10 0 _ Y ms;have hS3:=hS2.le l3;have l13:=AI l2 l3;refine Ac (Ap (Qx (oG Y CN A0 (Seg.any hS3)) Y (Qf FB Y (Ql Y U3 (e0 _) (Qc call21 Y (VQ l v p.1 h3 hK hpI (hR.up l13)) (λrF h4 ms4 l4 hQ=>?_))))));obtain⟨l4',y,rfl,hyc,hyR⟩:=hQ;refine EB ?_ ms4;have oy:=hyR.rd.one;have e0:∀ms,Cell h4 ms (⟨g10,0,none⟩:Addr) (.w p.1):=λms=>(e0 ms).le l4;have l14:=AI l13 l4;obtain⟨bb,hbb⟩:∃bb,(Mr (cn l) p.1).isSome=bb:=⟨_,Y⟩
   rw[hbb];refine Qm Y (Qm Y (Qm Y (Cx [.w 0,.w 0,.slice none 0 0] Y AH Y Y (λg11=>?_))));refine Sa 0 [_,_,_] AH Y (by simp[o1,o2,oy]) ?_;refine Qm Y (BE (Qm Y (Qm Y (Am ?_))));refine Bz Y (λhn=>?_) (λhn=>?_)
   ·have hbf:bb=false:=by cases bb<;>simp at hn ⊢
    have hch:=NP (o:=cn l) hil hno (by unfold fA;rw[hgp,hbb,ab hbf]);refine Ap (Qf FB Y (Ql Y U3 (e0 _) (Qm Y (Qm Y (Am (An (Ae (Aj (Ae (Ae (Aj (Ae ?_))))))))))));exact BC Y Y Y (by rw[hch])
   ·have hbt:¬bb=false:=by cases bb<;>simp at hn ⊢
    refine Ah (Ab (Ac (Ap (Qm Y (Qf FB Y (Ql Y U3 (e0 _) (Qx (Gf (V:=vB) (z:=false) p.1 Bt hO (by simp) rfl W0 Te rfl rfl hpI) rfl ?_)))))));rw[IW hA];refine Am ?_;refine Bz Y (λhin=>?_) (λhin=>?_)
    ·have him:p.1∈GF TS:=bw hin;have hch:=NP (o:=cn l) hil hno (by unfold fA;rw[hgp,hbb,aa hbt,ab ((hk _).1 him)]);refine Ap (Qf FB Y (Ql Y U3 (e0 _) (Qm Y (Qm Y (Am (An (Ae (Aj (Ae (Ae (Aj (Ae ?_))))))))))));exact BC Y Y Y (by rw[hch])
    ·have him:p.1 ∉ GF TS:=λq=>by rw[ag q]at hin;cases hin
     have hci:fA (cn l) F i=none:=by unfold fA;rw[hgp,hbb,aa hbt,aa λq=>him ((hk _).2 q)]
     have hk':∀x,x∈GF (De TS p.1 true)<->x∈(F.take (i+1)).map Prod.fst:=λx=>by rw[List.take_succ_eq_append_getElem hil,hp,bg,aq,map_cons,List.map_nil,ak,<-hk x,E6];exact⟨λq=>q.symm,λq=>q.symm⟩
     refine Ah (Ab (Ad (Qm Y (Qf FB Y (Ql Y U3 (e0 _) (BO (V:=vB) (z:=undef) 1 p.1 true Bt hO Y Y W0 Y Y Y hpI Y Y (λmS' bs' hO'=>Al (Ai (Ab (Ad (Qx (oA Y) Y (Qm Y (Al (AR ?_))))))))))))))
     exact Ak (F.length-(i+1)) _ ω ⟨i+1,mS',_,bs',Y,Y,AI l13 l4,Y,ω,hO',KK hA p.1,hk',λj hj=>by
      rcases (ω:j<i\/j=i) with h1|rfl
      ·exact hno j h1
      ·exact hci⟩ Qs
  ·obtain rfl:i=F.length:=ω
   rw[ct]at hk;refine Aq (Aa (Aa (Af ?_)));exact AE _ ⟨mS,TS,bs,Y,l2,Y,hO,hA,hk,hno⟩ Qs
 ·obtain⟨mS,TS,bs,rfl,l2,rfl,hO,hA,hk,hno⟩:=hI;have hR:=hR.up l2;have hF:=hF.up l2;have hS2:=hS.le l2;refine Ap (Qx (oG Y CN A0 (Seg.any hS2)) Y (Qc call65 Y (JA l v _ hK hR) (λrC h3 ms3 l3 hQ=>?_)));obtain⟨l3',mA,A,vA,rfl,rfl,hOA,hAl,hsA⟩:=hQ;refine A6 hOA λhq l4 hQ=>?_;have hsA:=λa ha=>(hsA a ha).up l4;have hF:=hF.up (AI l3 l4);have ovA:=hQ.rd.one;have hol:(cn l).length=A.length:=by rw[<-hAl,af]
  have hAn:A.length<=4000:=by rw[<-hol,C0];exact hln
  have hget:∀i (hi:i<A.length),(cn l).getD i default=A[i].c:=λi hi=>by rw[<-hAl];simp[List.getD,hi]
  have hpos:=hG.pos;obtain⟨o,ho⟩:∃o,cn l=o:=⟨_,Y⟩
  have hAI:∀a∈A,BS a.c.id:=λa ha=>by
   have h1:a.c∈cn l:=by rw[<-hAl];exact ai.2 ⟨a,ha,Y⟩
   have h2:=hpos _ h1;have h3:=hK.ci h1;unfold BS;omega
  have hAs:∀a∈A,a.c.sd.length<=64/\∀s∈a.c.sd,BS s.1:=λa ha=>by
   have h1:a.c∈cn l:=by rw[<-hAl];exact ai.2 ⟨a,ha,Y⟩
   refine⟨(hK.F.bds h1).2.1,λs hs=>?_⟩;obtain⟨y,hy,e,_⟩:=hG.sid _ h1 s hs;have h2:=hpos _ hy;have h3:=hK.ci hy;rw[<-e];unfold BS;omega
  rw[ho]at hol hno hget ⊢;refine Qx (EE Y CN Y Bi Y Y Y) Y (Qm Y (Am ?_));refine A9 (λsl h' ms'=>∃(mS:Hp),sl=[(1,vf),(13,vA)]/\hq.le h'/\ms'=[mS]/\∀j,j<A.length->fB o F j=none) ?_ (λs h ms hI=>?_)
  ·refine Ac (Ad (Qm Y (Qx (Av hQ.rd.any Y Bi Y) Y (Qm Y (Am (Ag ?_))))))
   refine Ax (λq sl h' ms'=>∃(i:Nat),q=A.length-i/\sl=[(1,vf),(8,.map (some gS)),(13,vA),(59,vA),(60,.w A.length),(61,.w i)]/\hq.le h'/\ms'=[mS]/\i<=A.length/\∀j,j<i->fB o F j=none)
    (A.length-0) _ ⟨0,rfl,rfl,Dv,rfl,ω,λj h=>ω⟩ Qs ?_
   rintro q sl h5 ms' ⟨i,rfl,rfl,l5,rfl,hi,hnB⟩;have hQ:=hQ.up l5;refine Ap (Qm Y (Am (Ac ?_)));refine Ar Y (λhlt=>?_) (λhlt=>?_)
   ·have hil:i<A.length:=ω
    obtain⟨x,hx⟩:∃x,A[i]=x:=⟨_,Y⟩
    have hxm:x∈A:=by rw[<-hx];exact ae hil
    have hgx:=hget i hil;rw[hx]at hgx;have hX:=(hsA x hxm).up l5;have oxv:=hX.rd.one;have hxI:=hAI x hxm;have hsx:∀ms,Seg h5 ms ((AF vA).add (i*3)) (cC x):=λms=>by rw[<-hx];exact(hQ.any (ms:=ms)).seg hil
    refine Ah (Ab (Ac (Ag (Ap (Qx (BG (i) hQ.rd.any Y Bi AH Y Y) Y (Qx (oG Y Ef AH (hsx _)) Y (Cx [.w 0,.w 0,.slice none 0 0] Y AH Y Y (λg15=>?_))))))));refine Sa 0 [_,_,_] AH Y (by simp[o1,o2,ovA,oxv]) ?_;refine Am (AA λh6 l6 hS8=>?_);have e80:∀ms,Cell h6 ms (⟨g15,0,none⟩:Addr) (.w x.c.id):=λms=>Seg.all hS8 0 _ Y ms;refine Ap (Qm Y (Qf Bn Y (Ql Y U3 (e80 _) (Qx (Gf (V:=vB) (z:=false) x.c.id Bt hO (by simp) rfl W0 Te rfl rfl hxI) rfl ?_))));rw[IW hA];refine Qm Y (Am ?_);refine Bz Y (λhin=>?_) (λhin=>?_)
    ·have hni:x.c.id ∉ F.map Prod.fst:=λq=>by rw[ag ((hk _).2 q)]at hin;cases hin
     have hch:=XF (o:=o) (F:=F) hno (by rw[hol];exact hil) hnB (by unfold fB;rw[hgx,ab hni]);refine Ap (Qf Bn Y (Ql Y U3 (e80 _) (Qm Y (Qm Y (Am (An (Aj (Ae (Ae (Aj (Ae ?_)))))))))));exact BC Y Y Y (by rw[hch])
    ·have hni:x.c.id∈F.map Prod.fst:=ax λq=>by rw[ah λw=>q ((hk _).1 w)]at hin;cases hin
     have hci:fB o F i=none:=by unfold fB;rw[hgx,aa λq=>q hni]
     refine Ah (Ai (Ab (Ad (Qx (oA Y) Y (Qm Y (Al ?_))))))
     exact Ak (A.length-(i+1)) _ ω ⟨i+1,Y,Y,AI l5 l6,Y,ω,λj hj=>by
      rcases (ω:j<i\/j=i) with h1|rfl
      ·exact hnB j h1
      ·exact hci⟩ Qs
   ·obtain rfl:i=A.length:=ω
    refine Aq (Aa (Aa (Af ?_)));exact AE _ ⟨mS,Y,l5,Y,hnB⟩ Qs
  ·obtain⟨mS,rfl,l5,rfl,hnB⟩:=hI;have hQ:=hQ.up l5;have hF:=hF.up l5;have hsA:=λa ha=>(hsA a ha).up l5;refine Ap (Qm Y (Qc call66 Y (Jt F vf _ hF hV.n hV.k) (λrL h6 ms6 l6 hL=>?_)));obtain⟨l6',gL,mL,bL,rfl,rfl,hOL⟩:=hL;refine Cx [.map none] Y YN Y Y (λg16=>AY 0 0 Y YN Y Y (by rfl) Y Y (by decide) Y Y (Am (AA λh7 l7 hS7=>(Bo λh8 l8 k8=>?_))));have e16:∀ms,Cell h8 ms (⟨g16,0,none⟩:Addr) (.map (some gL)):=λms=>(Seg.all hS7 0 _ Y ms).le l8;have l58:=AI l6 (AI l7 l8);have hQ:=hQ.up l58;have hsA:=λa ha=>(hsA a ha).up l58;refine Ac (Ap (Qm Y (Qx (Av hQ.rd.any Y Bi Y) Y (Qm Y (Am (Ag ?_))))))
   refine Ax (λq sl h' ms'=>∃(i:Nat),q=A.length-i/\sl=[(16,.pt g16),(75,vA),(76,.w A.length),(77,.w i)]/\h8.le h'/\ms'=[mS]/\i<=A.length/\∀j,j<i->fC o F j=none)
    (A.length-0) _ ⟨0,rfl,rfl,Dv,rfl,ω,λj h=>ω⟩ Qs ?_
   rintro q sl h9 ms' ⟨i,rfl,rfl,l9,rfl,hi,hnC⟩;have hQ:=hQ.up l9;have e16:∀ms,Cell h9 ms (⟨g16,0,none⟩:Addr) (.map (some gL)):=λms=>(e16 ms).le l9;have k9:=AI k8 l9;refine Ap (Qm Y (Am (Ac ?_)));refine Ar Y (λhlt=>?_) (λhlt=>?_)
   ·have hil:i<A.length:=ω
    obtain⟨x,hx⟩:∃x,A[i]=x:=⟨_,Y⟩
    have hxm:x∈A:=by rw[<-hx];exact ae hil
    have hgx:=hget i hil;rw[hx]at hgx;have hX:=(hsA x hxm).up l9;have oxv:=hX.rd.one;have hxI:=hAI x hxm;obtain⟨hxn,hxs⟩:=hAs x hxm;have hsx:∀ms,Seg h9 ms ((AF vA).add (i*3)) (cC x):=λms=>by rw[<-hx];exact(hQ.any (ms:=ms)).seg hil
    refine Ah (Ab (Ac (Ag (Ap (Qx (BG (i) hQ.rd.any Y Bi AH Y Y) Y (Qx (oG Y Ef AH (hsx _)) Y (Cx [.w 0,.w 0,.slice none 0 0] Y AH Y Y (λg18=>?_))))))));refine Sa 0 [_,_,_] AH Y (by simp[o1,o2,ovA,oxv]) ?_;refine Am (AA λh10 l10 hS10=>?_);have e10:∀ms,Cell h10 ms (⟨g18,0,none⟩:Addr) (.w x.c.id):=λms=>Seg.all hS10 0 _ Y ms;have e12:∀ms,Cell h10 ms (⟨g18,2,none⟩:Addr) x.v:=λms=>Seg.all hS10 2 _ Y ms;have hX:=hX.up l10;have hct:=λms=>Na x.c.sd x.v 68 [Value.pt g16,.pt g18] (λs=>decide (GY F s.1>GY F x.c.id)) h10 hX ω (λ_ _=>rfl) (λs hs ms=>WN F s x.c.id g16 g18 gL mL bL h10 hOL (AI k9 l10) (λms=>(e16 ms).le l10) e10 hxI (hxs s hs) ms) ms;obtain⟨bb,hbb⟩:∃bb,decide (0<=N6 x.c.sd λs=>decide (GY F s.1>GY F x.c.id))=bb:=⟨_,Y⟩
    have hub:bb=true<->upS o F i:=by rw[<-hbb,decide_eq_true_iff,WY];unfold upS;rw[hgx];exact⟨λ⟨s,h1,h2⟩=>⟨s,h1,bw h2⟩,λ⟨s,h1,h2⟩=>⟨s,h1,ag h2⟩⟩
    rw[hbb]at hct;refine Ap (Qf BA Y (Ql Y BZ (e12 _) (Qx (BY Y Y Y) Y (Qx (AG Y call67 Y (hct _)) Y (Am ?_)))));refine Bz Y (λhin=>?_) (λhin=>?_)
    ·have hch:=XM (o:=o) (F:=F) hno (by rw[hol];exact hnB) (by rw[hol];exact hil) hnC (by unfold fC;rw[hgx,ab (hub.1 hin)]);refine Ap (Qf Bn Y (Ql Y U3 (e10 _) (Qm Y (Qm Y (Am (An (Aj (Ae (Ae (Aj (Ae ?_)))))))))));exact BC Y Y Y (by rw[hch])
    ·have hci:fC o F i=none:=by unfold fC;rw[aa λq=>by rw[hub.2 q]at hin;cases hin]
     refine Ah (Ai (Ab (Ad (Qx (oA Y) Y (Qm Y (Al ?_))))))
     exact Ak (A.length-(i+1)) _ ω ⟨i+1,Y,Y,AI l9 l10,Y,ω,λj hj=>by
      rcases (ω:j<i\/j=i) with h1|rfl
      ·exact hnC j h1
      ·exact hci⟩ Qs
   ·obtain rfl:i=A.length:=ω
    have hch:=QN (o:=o) (F:=F) hno (by rw[hol];exact hnB) (by rw[hol];exact hnC);refine Aq (Aa (Aa (Af (Ab (Ap (Qm Y (Qm Y (Am (An ?_)))))))));exact BC Y Y Y (by rw[hch])
end Go.Proofs.Q
namespace Go.Proofs.Q
open Go.Proofs.Tryz
open Go.Eng Go.RowKit Go.Lin
variable {p:Int}
def IsP(p:Int):Prop:=2<=p/\p<=997/\∀k,k<p.toNat->2<=k->p.toNat%k≠0
instance (p:Int):Decidable (IsP p):=by unfold IsP;infer_instance
theorem IsP.prm(h:IsP p):Prm p.toNat:=by obtain⟨h1,h2,h3⟩:=h;refine Im ω λk hk hkk=>h3 k ?_ hk;have:2*k<=k*k:=Nat.mul_le_mul_right k hk;omega
theorem IsP.fld(h:IsP p):EO p:=by
 have:=h.prm.fld
 rwa [Int.toNat_of_nonneg (by have:=h.1;omega)]at this
theorem Ny(h2:2<=p)(h9:p<=997)(j:Nat)(hj:p<(j:Int)*j)(h:∀k,2<=k->k<j->p.toNat%k≠0):IsP p:=by
 refine⟨h2,h9,λk hk h2k he=>?_⟩
 have hp:Prm p.toNat:=by
  refine Im ω λk hk hkk=>h k hk (Nat.lt_of_not_le λhle=>?_);have h1:j*j<=k*k:=dd hle hle;have h2:((j*j:Nat):Int)=(j:Int)*j:=by simp
  omega
 rcases hp.2 k (Nat.dvd_of_mod_eq_zero he) with h|h<;>omega
theorem Sk(hp:0<=p)(k:Nat)(hk:0<k):p%(k:Int)=((p.toNat%k:Nat):Int):=by rw[Int.natCast_emod,Int.toNat_of_nonneg hp]
theorem U0(p:Int)(h:Hp)(hI:BS p):FnT Tryz.prog 54 #[.int .i64 p] h [] (λr _ _=>r=.bool (decide (IsP p))):=by
 have hI1:=hI.1;have hI2:=hI.2;refine Ao func54 ntmps54 Y Y (λw0 hw0=>?_);simp only[AX];refine Ap (Qm Y (Am (Ac (Ap (Qm Y (Qm Y (Qm Y ?_)))))));refine AM (t:=6) Y (λhs=>?_) (λhs=>?_)
 ·refine Qk Y (Qk Y (Qm Y (Am (Bu Y (Ap (Qm Y (Am (An (Ae ?_)))))))));exact Au Y Y (by rw[ah];exact λh=>absurd h.1 ω)
 ·refine Qg (As Y Y) Y (Qg (Cf Y Y Y) Y (Qm Y (Am ?_)));refine Ar Y (λhs2=>?_) (λhs2=>?_)
  ·refine Ac (Ad (Qm Y (Am (An (Ae ?_)))));exact Au Y Y (by rw[ah];exact λh=>absurd h.2.1 ω)
  ·refine Ah (Ab (Ac (Ap (Qm Y (Am (Ag ?_))))))
   refine Ax (λn s h' ms'=>∃(k:Nat),n=1000-k/\s=[(0,.w p),(3,.w k)]/\h=h'/\ms'=[]/\2<=k/\k<=1000/\∀j,2<=j->j<k->p.toNat%j≠0)
    (1000-2) _ ⟨2,rfl,rfl,rfl,rfl,ω,ω,λj h1 h2=>ω⟩ Qs ?_
   rintro n s h' ms' ⟨k,rfl,rfl,rfl,rfl,h2,hk,hno⟩
   have hkk:(k:Int)*k<=1000*1000:=by
    have h1:k*k<=1000*1000:=dd hk hk;have h2:((k*k:Nat):Int)=(k:Int)*k:=by simp
    omega
   have hkk0:0<=(k:Int)*k:=Int.mul_nonneg ω ω;have hk4:2*(k:Int)<=(k:Int)*k:=Int.mul_le_mul_of_nonneg_right ω ω;refine Ac (Ap (Qm Y (Qm Y (Qx (oM Y) Y (Qm Y (Qm Y (Am ?_)))))));refine Ar Y (λhlt=>?_) (λhlt=>?_)
   ·refine Ah (Ab (Ac (Ag (Ap (Qm Y (Qm Y (Qx (BJ Y Y Y ω ω) Y (Qm Y (Am ?_)))))))));have hm:=Sk (p:=p) ω k ω;refine Ar Y (λhz=>?_) (λhz=>?_)
    ·refine Ac (Ad (Qm Y (Am (An (Aj (Ae (Ae (Aj (Ae ?_)))))))));exact Au Y Y (by rw[ah];exact λh=>absurd (show p.toNat%k=0 by omega) (h.2.2 k ω h2))
    ·refine Ah (Ai (Ab (Ad (Qm Y (Qx (oA Y) Y (Qm Y (Al ?_)))))));refine Ak (1000-(k+1)) _ ω ⟨k+1,Y,Y,Y,Y,ω,ω,λj h1 h3=>?_⟩ Qs;rcases (ω:j<k\/j=k) with h4|h4
     ·exact hno j h1 h4
     ·subst h4;omega
   ·refine Aq (Aa (Aa (Af (Ab (Ap (Qm Y (Am (An ?_))))))));exact Au Y Y (by rw[ag];exact Ny ω ω k ω hno)
theorem Nn(p:Int)(h:Hp)(hI:BS p)(ms:List Hp):FnV Tryz.prog 54 #[.int .i64 p] h ms (.bool (decide (IsP p))):=by refine λw hw=>(?_:FnV _ _ _ h [] _) w (hw.weaken (Dv) (List.nil_sublist _));exact FnT.toV (U0 p h hI)
def IsLast(l:List Int)(r:Int):Prop:=(∃(i:Nat) (hi:i<l.length),r=i/\l[i]≠0/\∀j (hj:j<l.length),i<j->l[j]=0)\/(r=-1/\∀j (hj:j<l.length),l[j]=0)
def Aau(l:List Int)(k:Nat):List Value:=[.int .i64 ((l.length:Int)-1-k),.int .i64 (l.getD (l.length-1-k) 0)]
theorem WC(g:Nat)(v:Value)(l:List Int)(h:Hp)(hG:Seg h [] ⟨g,0,none⟩ [v])(hR:RdL cI 1 h [] v l)(hn2:l.length<=1000000):AaL Tryz.prog 203 [.pointer (some ⟨g,0,none⟩)] h l.length (Aau l):=by
 intro lp X Y h1 ms hl hY h0;show FnT _ _ #[.func (.yield lp) #[] #[],.pt g] _ _ _;have hG:=hG.le hl;have hR:=hR.up hl;obtain⟨n,hn⟩:∃n,l.length=n:=⟨_,rfl⟩
 rw[hn]at hn2 hY;refine Ao func203 ntmps203 rfl rfl (fun w0 hw0=>?_);simp only[AX];refine Ac (DA (DH (oL rfl AP ((hG.at0 rfl).any)) rfl rfl rfl (DH (Av hR.rd.any rfl AP rfl) rfl rfl rfl (DH (oS rfl) rfl rfl rfl (DH (Gs rfl rfl) rfl rfl rfl (F5 (Ab (Ag ?_))))))))
 refine Ax (fun q s hh ms'=>∃(k:Nat),q=n-k/\s=[(0,.func (.yield lp) #[] #[]),(1,.pt g),(3,.w ((n:Int)-1-k))]/\h1.le hh/\k<=n/\X k hh ms')
  (n-0) [(0,.func (.yield lp) #[] #[]),(1,.pt g),(3,.w ((l.length:Int)-1))] ⟨0,rfl,by rw[hn,show((n:Int)-1-(0:Nat))=(n:Int)-1 by omega],Dv,ω,h0⟩ Qs ?_
 rintro q s hh ms' ⟨k,rfl,rfl,lh,hk,hX⟩;refine Ac (Ac (DA (DH (As rfl rfl) rfl rfl rfl (DH (Hd rfl rfl rfl) rfl rfl rfl (F5 (Ab ?_))))));refine Ar rfl (fun hlt=>?_) (fun hlt=>?_)
 ·have hkn:k<n:=ω
  have hG2:=hG.le lh;have hR2:=hR.up lh;have hi:n-1-k<l.length:=ω
  have hc:∀ms,Cell hh ms ((AF v).add ((n-1-k)*1)) (.w (l.getD (n-1-k) 0)):=fun ms=>by rw[show l.getD (n-1-k) 0=l[n-1-k] by simp[List.getD,hi]];exact(hR2.any (ms:=ms)).cell0 hi rfl
  refine Ah (Ab (Ac (Ag (Ac (DA (DH (As rfl rfl) rfl rfl rfl (DH (As rfl rfl) rfl rfl rfl (DH (oL rfl AP ((hG2.at0 rfl).any)) rfl rfl rfl (DH (As rfl rfl) rfl rfl rfl (DH (BG (n-1-k) hR2.rd.any rfl AP A3 rfl rfl) rfl rfl rfl (DH (oL rfl U3 (hc _)) rfl rfl rfl ?_)))))))))));have hyk:=hY k hh ms' hkn lh hX;unfold Aau at hyk;rw[hn]at hyk;refine O8 rfl rfl rfl (hyk) rfl rfl rfl (fun r h2 ms2 l2 hr=>?_);rcases hr with ⟨rfl,hX2⟩|⟨rfl,hX2⟩
  ·refine DH (Eo rfl rfl) rfl rfl rfl (F5 (Ab (AN rfl (Ah (Ai (Ab (DA (DH (As rfl rfl) rfl rfl rfl (DH (oS rfl) rfl rfl rfl (DH (Gs rfl rfl) rfl rfl rfl (F5 ?_)))))))))));refine Ak (n-(k+1)) [(0,.func (.yield lp) #[] #[]),(1,.pt g),(3,.w ((n:Int)-1-k-1))] ω ⟨k+1,rfl,by rw[show((n:Int)-1-k-1)=(n:Int)-1-(k+1:Nat) by omega],AI lh l2,ω,hX2⟩ Qs
  ·refine DH (Eo rfl rfl) rfl rfl rfl (F5 (Ab (Bu rfl (An (Aj (Ae (Ae (Aj ?_))))))));exact FQ rfl (.inr ⟨k,ω,hX2⟩)
 ·obtain rfl:k=n:=ω
  refine Aq (Aa (Aa (Af ?_)));exact Cb rfl (.inl (by rw[hn];exact hX))
theorem QR(v:Value)(n:Nat)(cs:List Value)(h:Hp)(hR:Rd h [] v 1 n cs):FnT Tryz.prog 152 #[v] h [] (λr h' ms'=>h=h'/\∃g,r=.func (.func 203) #[] #[.pointer (some ⟨g,0,none⟩)]/\ms'=[A8 g 22 [v]]):=by refine Ao func152 ntmps152 Y Y (λw0 hw0=>?_);simp only[AX];refine Ap (AQ [_] Y Y (Rd.cells ‹_›) Y Y Y (λg1=>Qm Y (BE (Qx (BY Y Y Y) Y (Qm Y (Am (An ?_)))))));exact Au Y Y (⟨Y,_,Y,Y⟩)
end Go.Proofs.Q

namespace Go.Proofs.Q
open Go.Proofs.Tryz
open Go.Eng Go.RowKit Go.Lin
theorem IsLast.uniq{l:List Int}{x y:Int}(h1:IsLast l x)(h2:IsLast l y):x=y:=by
 rcases h1 with ⟨i,hi,rfl,q1,q2⟩|⟨rfl,q⟩<;>rcases h2 with ⟨j,hj,rfl,r1,r2⟩|⟨rfl,r⟩
 ·rcases Nat.lt_trichotomy i j with h|h|h
  ·exact absurd (q2 j hj h) r1
  ·rw[h]
  ·exact absurd (r2 i hi h) q1
 ·exact absurd (r i hi) q1
 ·exact absurd (q j hj) r1
 ·rfl
theorem IsLast.ex(l:List Int):∃x,IsLast l x:=by
 have key:∀n,n<=l.length->(∃(i:Nat) (hi:i<l.length),i<n/\l[i]≠0/\∀j (hj:j<l.length),i<j->j<n->l[j]=0)\/∀j (hj:j<l.length),j<n->l[j]=0:=λn=>by
  induction n with
  | zero=>intro _;exact .inr λj _ h=>ω
  | succ n ih=>
   intro hn;by_cases h0:l[n]=0
   ·rcases ih ω with ⟨i,hi,h1,h2,h3⟩|h
    ·refine .inl ⟨i,hi,ω,h2,λj hj h4 h5=>?_⟩;rcases (ω:j<n\/j=n) with h6|rfl
     ·exact h3 j hj h4 h6
     ·exact h0
    ·refine .inr λj hj h5=>?_;rcases (ω:j<n\/j=n) with h6|rfl
     ·exact h j hj h6
     ·exact h0
   ·exact .inl ⟨n,ω,ω,h0,λj hj h4 h5=>ω⟩
 rcases key l.length (ay _) with ⟨i,hi,_,h2,h3⟩|h
 ·exact⟨i,.inl ⟨i,hi,Y,h2,λj hj h4=>h3 j hj h4 hj⟩⟩
 ·exact⟨-1,.inr ⟨Y,λj hj=>h j hj hj⟩⟩
noncomputable def AU(l:List Int):Int:=Classical.choose (IsLast.ex l)
theorem I5(l:List Int):IsLast l (AU l):=Classical.choose_spec (IsLast.ex l)
theorem Jd{l:List Int}{x:Int}(h:IsLast l x):AU l=x:=(I5 l).uniq h
theorem Dl(l:List Int):-1<=AU l/\AU l<l.length:=by rcases I5 l with ⟨i,hi,e,_⟩|⟨e,_⟩<;>rw[e]<;>omega
theorem Yk(v:Value)(l:List Int)(h:Hp)(hR:RdL cI 1 h [] v l)(hn:l.length<=1000000):FnT Tryz.prog 95 #[v] h [] (λr _ _=>r=.int .i64 (AU l)):=by
 have ov:=hR.rd.one;refine MN func95 ntmps95 Y Y (λw0 hw0=>?_);simp only[AX];refine Ap (Cx [.w 0] Y A3 Y Y (λg2=>Am (Ac (Ap (Qm Y (Qc call152 Y (QR v l.length _ h hR.rd) (λvf h10 ms10 l10 hF=>?_)))))));obtain⟨rfl,gb,rfl,rfl⟩:=hF;refine Am (Ag (AA λh2 l2 hGb=>?_));have hR:=hR.up l2;have hI:=WC gb v l h2 hGb hR hn;refine HR (λk hh ms=>ms=[A8 g2 3 [.w 0]]/\∀j (hj:j<l.length),l.length-k<=j->l[j]=0) (λk hh ms=>ms=[A8 g2 3 [.w ((l.length:Int)-1-k)]]/\IsLast l ((l.length:Int)-1-k)) (λk s1 hh ms=>s1=[(2,.pt g2),(3,.w ((l.length:Int)-1-k)),(4,.w (l.getD (l.length-1-k) 0))]/\ms=[A8 g2 3 [.w 0]]/\∀j (hj:j<l.length),l.length-k<=j->l[j]=0) Y call203 hI (λk=>rfl) Y ?_ ?_ ?_ ?_ ?_
 ·exact⟨Y,λj hj h=>ω⟩
 ·rintro w1 k hh ms1 hk lh ⟨rfl,hz⟩;rw[show Aau l k=[.w ((l.length:Int)-1-k),.w (l.getD (l.length-1-k) 0)] from Y];refine QJ (EG κ (Qm Y (Al (Lb (EG κ (Qm Y (Al ?_)))))));exact AE _ ⟨Y,Y,hz⟩ Qs
 ·rintro w1 k s1 hh ms1 hk lh ⟨rfl,rfl,hz⟩;have hi:l.length-1-k<l.length:=ω
  have eg:l.getD (l.length-1-k) 0=l[l.length-1-k]:=by simp[List.getD,hi]
  refine OM (QJ (EG κ (Qm Y (Qm Y (Al (Lb ?_))))));refine Abj Y (λhne=>?_) (λhne=>?_)
  ·refine QJ (EG κ (Qm Y (AY 0 0 Y A3 Y Y (by rfl) Y Y (by decide) Y Y (Al (Lb (AaF (Aj ?_)))))));refine ZN [] ⟨Y,.inl ⟨l.length-1-k,hi,ω,by rw[<-eg];exact hne,λj hj hlt=>hz j hj ω⟩⟩ trivial
  ·refine Y1 (Ai ?_);refine AE [] ⟨Y,λj hj hle=>?_⟩ trivial;rcases (ω:l.length-k<=j\/j=l.length-1-k) with h1|rfl
   ·exact hz j hj h1
   ·rw[<-eg];exact Classical.not_not.1 hne
 ·rintro D hh ms1 lh ⟨rfl,hz⟩;refine Ai (Ab (Ap (AY 0 0 Y A3 Y Y (by rfl) Y Y (by decide) Y Y (Am (An (Kt 1 (.inr Y) Y ?_))))));exact MG Y Y U3 Y 0 Y (by rw[Jd (.inr ⟨rfl,λj hj=>hz j hj ω⟩)])
 ·rintro D k hh ms1 hk lh ⟨rfl,hL⟩;refine Kt 1 (.inr Y) Y ?_;exact MG Y Y U3 Y 0 Y (by rw[Jd hL])
theorem QK(v:Value)(l:List Int)(h:Hp)(hR:RdL cI 1 h [] v l)(hn:l.length<=1000000)(ms:List Hp):FnV Tryz.prog 95 #[v] h ms (.int .i64 (AU l)):=DZ (Yk v l h hR hn) ms
variable {p n t:Int} {i:Nat}
def FC(p n:Int):Int:=match (range p.toNat).find? (λk:Nat=>decide (1<=k/\n*(k:Int)%p=1)) with|some k=>(k:Int)|none=>1
theorem KN{k:Nat}(h1:1<=k)(hk:(k:Int)<p)(h:n*(k:Int)%p=1)(hno:∀j:Nat,1<=j->j<k->n*(j:Int)%p≠1):FC p n=k:=by
 unfold FC
 have:(range p.toNat).find? (λk:Nat=>decide (1<=k/\n*(k:Int)%p=1))=some k:=List.find?_range_eq_some.2 ⟨ag ⟨h1,h⟩,ba.2 ω,λj hj=>by
  rw[ah λq=>hno j q.1 hj q.2];rfl⟩
 rw[this]
theorem LJ(hno:∀j:Nat,1<=j->(j:Int)<p->n*(j:Int)%p≠1):FC p n=1:=by
 unfold FC
 have:(range p.toNat).find? (λk:Nat=>decide (1<=k/\n*(k:Int)%p=1))=none:=List.find?_eq_none.2 λj hj=>by have:=ba.1 hj;rw[ah λq=>hno j q.1 ω q.2];decide
 rw[this]
theorem PY(hp:2<=p)(n:Int):1<=FC p n/\FC p n<p:=by
 unfold FC;split
 ·rename_i k h;obtain⟨h1,h2,_⟩:=List.find?_range_eq_some.1 h;have:=bw h1;have:=ba.1 h2;omega
 ·omega
theorem ML(h:IsP p)(h0:0<n)(hn:n<p):n*FC p n%p=1:=by
 have h2:=h.1
 obtain⟨w,hw⟩:=h.fld.inv n λ⟨c,e⟩=>by have h1:c<1:=Int.lt_of_mul_lt_mul_left (show p*c<p*1 by omega) ω;have h3:0<c:=Int.lt_of_mul_lt_mul_left (show p*0<p*c by omega) ω;omega
 have hw:w*n%p=1:=by rw[cu];have h3:=Int.emod_eq_emod_iff_emod_sub_eq_zero.2 (Int.emod_eq_zero_of_dvd hw);rw[h3,Int.emod_eq_of_lt ω ω]
 have h5:=da w (show p≠0 by omega);have h6:=dc w (show 0<p by omega)
 have h4:n*(((w%p).toNat:Nat):Int)%p=1:=by rw[Int.toNat_of_nonneg h5,Int.mul_emod,Int.emod_emod_of_dvd w (Int.dvd_refl p),<-Int.mul_emod,cu];exact hw
 have h7:1<=(w%p).toNat:=by refine Nat.one_le_iff_ne_zero.2 λe=>?_;rw[e]at h4;simp at h4
 unfold FC;split
 ·rename_i k h;exact(bw (List.find?_range_eq_some.1 h).1).2
 ·rename_i h;have:=List.find?_eq_none.1 h (w%p).toNat (ba.2 ω);exact absurd (ag ⟨h7,h4⟩) this
def Eu(p:Int)(a b:List Int)(t:Int):List Int:=List.zipWith (λx y=>(x+t*y)%p) a b
theorem DS{a b:List Int}(h:a.length=b.length):(Eu p a b t).length=a.length:=by unfold Eu;rw[List.length_zipWith];omega
theorem Ot{a b:List Int}(h:i<(Eu p a b t).length)(ha:i<a.length)(hb:i<b.length):(Eu p a b t)[i]=(a[i]+t*b[i])%p:=by simp[Eu]
theorem WI{α:Type}(A B:List α)(hl:A.length=B.length)(hi:i<A.length):(A.take i++B.drop i).set i A[i]=A.take (i+1)++B.drop (i+1):=by
 have hlt:(A.take i).length=i:=by rw[ao];omega
 rw[List.set_append,aa ω,hlt,Nat.sub_self,List.drop_eq_getElem_cons (show i<B.length by omega),List.set_cons_zero,List.take_succ_eq_append_getElem hi,List.append_assoc];rfl
theorem XR{α:Type}(A B:List α)(hl:A.length=B.length)(hi:i<A.length):(A.take i++B.drop i)[i]'(by rw[ad,ao,List.length_drop];omega)=B[i]:=by
 have hlt:(A.take i).length=i:=by rw[ao];omega
 rw[List.getElem_append_right ω];simp[hlt]
def Jo(p:Int)(l:List Int):Prop:=∀x∈l,0<=x/\x<p
theorem Iq(hp:0<p)(a b:List Int):Jo p (Eu p a b t):=λx hx=>by unfold Eu at hx;obtain⟨i,hi,rfl⟩:=getElem_of_mem hx;rw[List.getElem_zipWith];exact⟨da _ ω,dc _ hp⟩
theorem Yn(p n:Int)(g:Nat)(h:Hp)(hG:∀ms,Cell h ms (⟨g,0,none⟩:Addr) (.int .i64 p))(hp:2<=p/\p<=997)(hn:0<=n/\n<p):FnT Tryz.prog 177 #[.pointer (some ⟨g,0,none⟩),.int .i64 n] h [] (λr _ _=>r=.int .i64 (FC p n)):=by
 refine Ao func177 ntmps177 Y Y (λw0 hw0=>?_);simp only[AX];refine Ap (Qm Y (Am (Ac (Ap (Qm Y (Am (Ag ?_)))))))
 refine Ax (λq sl h' ms'=>∃(k:Nat),q=p.toNat-k/\sl=[(0,.pt g),(1,.w n),(5,.w k)]/\h=h'/\ms'=[]/\1<=k/\(k:Int)<=p/\∀j:Nat,1<=j->j<k->n*(j:Int)%p≠1)
  (p.toNat-1) _ ⟨1,rfl,rfl,rfl,rfl,ω,ω,λj h1 h2=>ω⟩ Qs ?_
 rintro q sl h' ms' ⟨k,rfl,rfl,rfl,rfl,h1,hk,hno⟩;have hnk:0<=n*(k:Int)/\n*(k:Int)<=997*997:=⟨Int.mul_nonneg hn.1 ω,Int.mul_le_mul ω ω ω ω⟩
 refine Ac (Ap (Qm Y (Qm Y (Qm Y (Qf HI Y (Ql Y U3 (hG _) (Qm Y (Am ?_))))))));refine Ar Y (λhlt=>?_) (λhlt=>?_)
 ·refine Ah (Ab (Ac (Ag (Ap (Qm Y (Qm Y (Qx (oM Y) Y (Qm Y (Qm Y (Qf HI Y (Ql Y U3 (hG _) (Qx (BJ Y Y Y ω ω) Y (Qm Y (Am ?_))))))))))))));refine Ar Y (λhe=>?_) (λhe=>?_)
  ·refine Ac (Ad (Qm Y (Qm Y (Am (An (Aj (Ae (Ae (Aj (Ae ?_))))))))));exact Au Y Y (by rw[KN h1 hlt he hno])
  ·refine Ah (Ai (Ab (Ad (Qm Y (Qx (oA Y) Y (Qm Y (Al ?_)))))));refine Ak (p.toNat-(k+1)) _ ω ⟨k+1,Y,Y,Y,Y,ω,ω,λj h3 h4=>?_⟩ Qs;rcases (ω:j<k\/j=k) with h5|rfl
   ·exact hno j h3 h5
   ·exact he
 ·have hkp:(k:Int)=p:=ω
  refine Aq (Aa (Aa (Af (Ab (Ap (Qm Y (Am (An ?_))))))));exact Au Y Y (by rw[LJ λj h3 h4=>hno j h3 ω])
theorem Aaw(p n:Int)(g:Nat)(h:Hp)(hG:∀ms,Cell h ms (⟨g,0,none⟩:Addr) (.int .i64 p))(hp:2<=p/\p<=997)(hn:0<=n/\n<p)(ms:List Hp):FnV Tryz.prog 177 #[.pointer (some ⟨g,0,none⟩),.int .i64 n] h ms (.int .i64 (FC p n)):=DZ (Yn p n g h hG hp hn) ms
theorem Xe(p t:Int)(g:Nat)(a b:List Int)(va vb:Value)(m h:Hp)(hG:∀ms,Cell h ms (⟨g,0,none⟩:Addr) (.int .i64 p))(hp:2<=p/\p<=997)(ht:0<=t/\t<p)(hA:OwnL cI 1 3 m va a)(hB:RdL cI 1 h [] vb b)(hl:a.length=b.length)(hn:a.length<=1000000)(ra:Jo p a)(rb:Jo p b) :
  FnT Tryz.prog 178 #[.pt g,va,vb,.w t] h [m] (λ_ h' ms'=>h=h'/\∃m',ms'=[m']/\OwnL cI 1 3 m' va (Eu p a b t)):=by
 have oa:=hA.o1;have ob:=hB.rd.one;obtain⟨C,hC⟩:∃C,Eu p a b t=C:=⟨_,Y⟩
 have hCl:C.length=a.length:=by rw[<-hC];exact DS hl
 refine Ao func178 ntmps178 Y Y (λw0 hw0=>?_);simp only[AX];refine Ap (Qm Y (Qx (Av hB.rd.any Y AP Y) Y (Qm Y (Am (Ag ?_)))))
 refine Ax (λq sl h' ms'=>∃(i:Nat) (m:Hp),q=b.length-i/\sl=[(0,.pt g),(1,va),(3,.w t),(10,vb),(11,.w b.length),(12,.w i)]/\h=h'/\ms'=[m]/\i<=b.length/\OwnL cI 1 3 m va (C.take i++a.drop i))
  (b.length-0) _ ⟨0,m,rfl,rfl,rfl,rfl,ω,by simpa using hA⟩ Qs ?_
 rintro q sl h' ms' ⟨i,m,rfl,rfl,rfl,rfl,hi,hO⟩;refine Ap (Qm Y (Am (Ac ?_)));refine Ar Y (λhlt=>?_) (λhlt=>?_)
 ·have hib:i<b.length:=ω
  have hia:i<a.length:=ω
  have hiC:i<C.length:=ω
  have hlen:(C.take i++a.drop i).length=a.length:=by rw[ad,ao,List.length_drop];omega
  have hiO:i<(C.take i++a.drop i).length:=ω
  have r1:=ra _ (ae hia);have r2:=rb _ (ae hib);have hCi:C[i]=(a[i]+t*b[i])%p:=by subst hC;exact Ot _ hia hib
  have hset:=WI C a hCl hiC;rw[hCi]at hset
  have ca:∀ms,m∈ms->Cell h ms ((AF va).add (i*1)) (.w a[i]):=λms hm=>by
   have:=(hO.rd (h:=h) (ms:=ms) hm).cell0 hiO Y
   rwa [XR C a hCl hiC]at this
  have cb:∀ms,Cell h ms ((AF vb).add (i*1)) (.w b[i]):=λms=>(hB.any (ms:=ms)).cell0 hib Y;obtain⟨x,hx⟩:∃x,a[i]=x:=⟨_,Y⟩
  obtain⟨y,hy⟩:∃y,b[i]=y:=⟨_,Y⟩
  rw[hx]at r1 ca hset;rw[hy]at r2 cb hset;have hty:0<=t*y/\t*y<=997*997:=⟨Int.mul_nonneg ht.1 r2.1,Int.mul_le_mul ω ω ω ω⟩
  refine Ah (Ab (Ac (Ag (Ap (Qm Y (Qx (BG (i) hB.rd.any Y AP A3 Y Y) Y (Ql Y U3 (cb _) (Qm Y (Qm Y (Am (DV 14 [true,true] CT κ κ κ (Ed Y Y Y Y (Cn Y Y) (Ed Y Y Y Y (Cn Y Y) ?_)))))))))))));refine⟨Y,?_⟩;simp only[EL,zap,bh,av,List.take_succ_cons,List.take_zero,List.drop_succ_cons,List.drop_zero,List.take_nil,List.drop_nil];refine Ee Y Y Y (Ee Y Y Y (Wm Y (Wm Y (AL (Az (i) (hO.rd (h:=h) (ms:=[m]) Mh).rd Y AP A3 Y Y ω ω) Y Y (Wl Y U3 (ca _ Mh) (Wm Y (Wm Y (AL (oM Y) Y Y (AL (oA Y) Y Y (Wm Y (Wm Y (Wf HI Y (Wl Y U3 (hG _) (AZ (Qx (BJ Y Y Y ω ω) Y (Qx (Az (i) (hO.rd (h:=h) (ms:=[m]) Mh).rd Y AP A3 Y Y ω ω) Y (CP 0 i hO Y A3 Y Y Y hiO Y Y (λm' hO'=>?_))))))))))))))))));rw[hset]at hO';refine Al (HT (Ai (Ab (Ad (Qx (oA Y) Y (Qm Y (Al ?_)))))));exact Ak (b.length-(i+1)) _ ω ⟨i+1,m',Y,Y,Y,Y,ω,hO'⟩ Qs
 ·obtain rfl:i=b.length:=ω
  rw[List.drop_eq_nil_of_le ω,append_nil,<-hl,<-hCl,ct]at hO;rw[hC];refine Aq (Aa (Aa (Af ?_)));exact Cb Y (⟨Y,m,Y,hO⟩)
end Go.Proofs.Q
namespace Go.Proofs.Q
open Go.Proofs.Tryz
open Go.Eng Go.RowKit Go.Lin
variable {p:Int}
def cU(v:Value):List Value:=[v]
theorem Nc:∀v,(cU v).length=1:=λ_=>rfl
def EU(p:Int)(vc:Value)(gA:Nat)(vr vv:Value)(la:List Int):List Value:=.int .i64 p::vc::.map (some gA)::vr::vv::la.map λn=>.int .i64 n
inductive Ops (p:Int) (n j:Nat) (R V:Nat->List Int) (r v:List Int):List Int->List Int->Prop
 | refl:Ops p n j R V r v r v
 | step {r1 v1:List Int} {k i:Nat} {t:Int}:Ops p n j R V r v r1 v1->k<j->i<n->0<=t->t<p->r1.getD i 0≠0->(R k).getD i 0≠0->Ops p n j R V r v (Eu p r1 (R k) t) (Eu p v1 (V k) t)
structure Red(p:Int)(n j:Nat)(R V:Nat->List Int)(la:List Int):Prop where
 rl:∀k,k<j->(R k).length=n
 vl:∀k,k<j->(V k).length=n
 rr:∀k,k<j->Jo p (R k)
 vr:∀k,k<j->Jo p (V k)
 ll:la.length=400
 a0:∀i,i<400->la.getD i 0=0\/∃k,k<j/\la.getD i 0=(k:Int)+1/\AU (R k)=i
 a1:∀k,k<j->0<=AU (R k)->la.getD (AU (R k)).toNat 0=(k:Int)+1
def LaS(j:Nat)(r':List Int)(la la':List Int):Prop:=(AU r'<0/\la'=la)\/(0<=AU r'/\la.getD (AU r').toNat 0=0/\la'=la.set (AU r').toNat ((j:Int)+1))
theorem DP{l:List Int}{i:Nat}(h:AU l=i):i<l.length/\l.getD i 0≠0/\∀j,i<j->l.getD j 0=0:=by
 rcases I5 l with ⟨k,hk,e,h1,h2⟩|⟨e,_⟩
 ·obtain rfl:i=k:=ω
  refine⟨hk,by simpa[List.getD,hk] using h1,λj hj=>?_⟩;by_cases hjl:j<l.length
  ·simpa[List.getD,hjl] using h2 j hjl hj
  ·simp[List.getD,List.getElem?_eq_none (show l.length<=j by omega)]
 ·omega
theorem CJ(hp:0<p){l:List Int}(h:Jo p l)(i:Nat):0<=l.getD i 0/\l.getD i 0<p:=by
 by_cases hi:i<l.length
 ·have:=h _ (ae hi);simpa[List.getD,hi] using this
 ·simp[List.getD,List.getElem?_eq_none (show l.length<=i by omega),hp]
theorem Ec{t:Int}{a b:List Int}(hl:a.length=b.length)(i:Nat):(Eu p a b t).getD i 0=(a.getD i 0+t*b.getD i 0)%p:=by
 by_cases hi:i<a.length
 ·have h2:i<b.length:=ω
  have h3:i<(Eu p a b t).length:=by rw[DS hl];exact hi
  have:=Ot h3 hi h2;simp only[List.getD,co h3,co hi,co h2,Option.getD_some,this]
 ·have h3:¬i<(Eu p a b t).length:=by rw[DS hl];exact hi
  simp[List.getD,List.getElem?_eq_none (show a.length<=i by omega),List.getElem?_eq_none (show b.length<=i by omega),List.getElem?_eq_none (show(Eu p a b t).length<=i by omega)]
theorem Abg{x b w:Int}(h:b*w%p=1)(hp:0<p):(x+((p-x)*w%p)*b)%p=0:=by
 have h1:=Int.emod_add_mul_ediv (b*w) p;have h2:=Int.emod_add_mul_ediv ((p-x)*w) p;rw[h]at h1;refine Int.emod_eq_zero_of_dvd ⟨1+(p-x)*(b*w/p)-((p-x)*w/p)*b,?_⟩;generalize b*w/p=q1 at h1 ⊢;generalize (p-x)*w/p=q2 at h2 ⊢;have e:(p-x)*w%p=(p-x)*w-p*q2:=ω
 rw[e];have e2:b*w=1+p*q1:=h1.symm
 have e3:((p-x)*w-p*q2)*b=(p-x)*(b*w)-p*(q2*b):=by rw[Int.sub_mul,cz,cu w b,cz]
 rw[e3,e2,Int.mul_sub,Int.mul_add,Int.mul_one,Int.mul_add,Int.mul_one];have e4:p*((p-x)*q1)=(p-x)*(p*q1):=by rw[<-cz,<-cz,cu p]
 rw[e4];omega
theorem MH{t:Int}{a b:List Int}{i:Nat}(hl:a.length=b.length)(ha:AU a=i)(hb:AU b=i)(h:(a.getD i 0+t*b.getD i 0)%p=0):AU (Eu p a b t)<i:=by
 obtain⟨h1,h2,h3⟩:=DP ha;obtain⟨h4,h5,h6⟩:=DP hb
 have hz:∀j,i<=j->(Eu p a b t).getD j 0=0:=λj hj=>by
  rw[Ec hl];rcases (ω:j=i\/i<j) with rfl|h7
  ·exact h
  ·rw[h3 j h7,h6 j h7];simp
 refine Int.not_le.1 λhle=>?_;obtain⟨k,hk⟩:=Int.eq_ofNat_of_zero_le (show 0<=AU (Eu p a b t) by omega);obtain⟨_,h8,_⟩:=DP hk;exact h8 (hz k ω)
theorem LZ(p:Int)(vc:Value)(gA:Nat)(vr vv:Value)(la:List Int):(EU p vc gA vr vv la).length=5+la.length:=by unfold EU;simp;omega
theorem Xh(p:Int)(vc:Value)(gA:Nat)(vr vv:Value)(la:List Int)(i:Nat)(x:Int):(EU p vc gA vr vv la).set (5+i) (.int .i64 x)=EU p vc gA vr vv (la.set i x):=by unfold EU;rw[show 5+i=i+1+1+1+1+1 by omega];simp only[List.set_cons_succ,List.map_set]
theorem T4(la:List Int)(i:Nat)(hi:i<la.length):(la.map λn=>Value.int .i64 n)[i]?=some (.int .i64 (la.getD i 0)):=by simp[List.getD,hi]
theorem T5(p:Int)(n j:Nat)(g gA:Nat)(vc vr vv:Value)(Rs Vs:List Value)(R V:Nat->List Int)(la r v:List Int)(mr mv h:Hp)(hp:IsP p)(hn:n<=400)(hj:j<n)
  (hRs:RdL cU 1 h [] vr Rs) (hVs:RdL cU 1 h [] vv Vs) (lR:Rs.length=n) (lV:Vs.length=n) (hR:∀k,k<j->RdL cI 1 h [] (Rs.getD k undef) (R k)) (hV:∀k,k<j->RdL cI 1 h [] (Vs.getD k undef) (V k)) (D:Red p n j R V la) (oc:vc.oneCell'=true)
  (Or:OwnL cI 1 3 mr (Rs.getD j undef) r) (Ov:OwnL cI 1 3 mv (Vs.getD j undef) v) (lr:r.length=n) (lv:v.length=n) (rr:Jo p r) (rv:Jo p v) :
  FnT Tryz.prog 121 #[.pt g,.w j] h [A8 g 130 (EU p vc gA vr vv la),mr,mv] (λ_ h' ms'=>h.le h'/\∃r' v' la' mr' mv',ms'=[A8 g 130 (EU p vc gA vr vv la'),mr',mv']/\OwnL cI 1 3 mr' (Rs.getD j undef) r'/\OwnL cI 1 3 mv' (Vs.getD j undef) v'/\Ops p n j R V r v r' v'/\r'.length=n/\v'.length=n/\Jo p r'/\Jo p v'/\LaS j r' la la'):=by
 have hp1:=hp.1;have hp9:=hp.2.1;refine Ao func121 ntmps121 Y Y (λw0 hw0=>?_);simp only[AX];refine GS λh1 l1 lG dG LG=>?_;have hRs:=hRs.up l1;have hVs:=hVs.up l1;have hR:=λk hk=>(hR k hk).up l1;have hV:=λk hk=>(hV k hk).up l1;have hS:=Seg.ofLe lG;have oR:=hRs.rd.one;have oV:=hVs.rd.one;refine Ag ?_
 refine Ax (λq sl h' ms'=>∃(r' v':List Int) (mr mv:Hp),q=(AU r'+1).toNat/\sl=[(0,.pt g),(1,.w j)]/\h1.le h'/\ms'=[mr,mv]/\OwnL cI 1 3 mr (Rs.getD j undef) r'/\OwnL cI 1 3 mv (Vs.getD j undef) v'/\Ops p n j R V r v r' v'/\r'.length=n/\v'.length=n/\Jo p r'/\Jo p v')
  _ _ ⟨r,v,mr,mv,rfl,rfl,Dv,rfl,Or,Ov,.refl,lr,lv,rr,rv⟩ Qs ?_
 rintro q sl h2 ms' ⟨r1,v1,mr,mv,rfl,rfl,l2,rfl,Or,Ov,hO,lr,lv,rr,rv⟩;have hRs:=hRs.up l2;have hVs:=hVs.up l2;have hR:=λk hk=>(hR k hk).up l2;have hV:=λk hk=>(hV k hk).up l2;have hS:=hS.le l2;refine GS λh3 l3 lM dM LM=>?_;have Rr:RdL cI 1 h3 [] (Rs.getD j undef) r1:=Or.rdh (h:=h3) (ms:=[]) lM;have hRs3:=hRs.up l3;have hVs3:=hVs.up l3;have hS3:=hS.le l3;have hjR:j<Rs.length:=ω
 have hjV:j<Vs.length:=ω
 have eR:Rs.getD j undef=Rs[j]:=by simp[List.getD,hjR]
 have eV:Vs.getD j undef=Vs[j]:=by simp[List.getD,hjV]
 have a0:∀ms,Cell h3 ms (⟨g,0,none⟩:Addr) (.w p):=λms=>Seg.all hS3 0 _ Y ms;have a3:∀ms,Cell h3 ms (⟨g,3,none⟩:Addr) vr:=λms=>Seg.all hS3 3 _ Y ms;have a4:∀ms,Cell h3 ms (⟨g,4,none⟩:Addr) vv:=λms=>Seg.all hS3 4 _ Y ms;have cR:∀ms,Cell h3 ms ((AF vr).add (j*1)) (Rs.getD j undef):=λms=>by rw[eR];exact(hRs3.any (ms:=ms)).cell0 hjR Y
 have orj:=Rr.rd.one;refine Ag (Ap (Qm Y (Qm Y (Qf ER Y (Ql Y Ck (a3 _) (Qm Y (Qx (BG (j) hRs3.rd.any Y Ck Cz Y Y) Y (Ql Y AP (cR _) (Qx (AG Y call95 Y (QK (Rs.getD j undef) r1 h3 Rr ω _)) Y (Qm Y (Am (Ac (Ap (Qm Y (Qm Y (Am ?_))))))))))))))));refine Ar Y (λhneg=>?_) (λhneg=>?_)
 ·refine An (Ae (Aj (Ae (Aj (SF LM lM λh4 l4 b4=>(SF LG (b4 _ (AI lG (AI l2 l3)) (FV (AI lG l2) dM)) λh5 l5 b5=>?_))))));have l05:h.le h5:=b5 _ (b4 _ (AI l1 (AI l2 l3)) (FV (AI l1 l2) dM)) dG;exact FQ Y (⟨l05,r1,v1,la,mr,mv,Y,Or,Ov,hO,lr,lv,rr,rv,.inl ⟨hneg,Y⟩⟩)
 ·obtain⟨i,hi⟩:=Int.eq_ofNat_of_zero_le (show 0<=AU r1 by omega);obtain⟨hi1,hi2,hi3⟩:=DP hi;have hin:i<400:=ω
  have hla:=D.ll
  have cL:∀ms,Cell h3 ms ((⟨g,5,none⟩:Addr).add (i*1)) (.w (la.getD i 0)):=λms=>by
   have:(EU p vc gA vr vv la)[5+i]?=some (.w (la.getD i 0)):=by unfold EU;rw[show 5+i=i+1+1+1+1+1 by omega];simp only[List.getElem?_cons_succ];exact T4 la i ω
   have:=Seg.all hS3 (5+i) _ this ms;show Cell h3 ms (((⟨g,0,none⟩:Addr).add 5).add (i*1)) _;rw[BW,Nat.mul_one];exact this
  rw[hi];have hl0:=D.a0 i hin;obtain⟨li,hli⟩:∃li,la.getD i 0=li:=⟨_,Y⟩
  rw[hli]at cL hl0
  have hlb:0<=li/\li<=400:=by rcases hl0 with h|⟨k,hk,h,_⟩<;>omega
  refine Ah (Ab (Ap (Qm Y (Qm Y (Qm Y (Qf Sg Y (Qx (Gh (i) Y Abo A3 Y Y ω ω) Y (Ql Y U3 (cL _) (Qx (oS Y) Y (Qm Y (Am (Ac (Ap (Qm Y (Qm Y (Am ?_))))))))))))))));refine Ar Y (λhk0=>?_) (λhk0=>?_)
  ·have hl00:li=0:=by rcases hl0 with h|⟨k,hk,h,_⟩<;>omega
   refine FX LM lM λh4 l4 b4=>?_;have lG4:=b4 _ (AI lG (AI l2 l3)) (FV (AI lG l2) dM);refine FX LG lG4 λh5 l5 b5=>?_;have l05:h.le h5:=b5 _ (b4 _ (AI l1 (AI l2 l3)) (FV (AI l1 l2) dM)) dG;refine Ap (Qm Y (Qm Y (Qm Y (Qx (oA Y) Y (Qm Y (Qf Sg Y (Qx (Gh (i) Y Abo A3 Y Y ω ω) Y ?_)))))));refine AY 0 (5+i) Y A3 Y Y Y Y (by rw[Nat.mul_one];exact BW (⟨g,0,none⟩:Addr) 5 i) (by rw[LZ];omega) rfl rfl ?_;rw[Xh];refine Am (An (Ae (Aj (Ae (Aj ?_)))));exact FQ Y (⟨l05,r1,v1,la.set i ((j:Int)+1),mr,mv,Y,Or,Ov,hO,lr,lv,rr,rv,.inr ⟨ω,by rw[hi,bu,hli,hl00],by rw[hi,bu]⟩⟩)
  ·obtain⟨k,hkj,rfl,hlk⟩:∃k,k<j/\li=(k:Int)+1/\AU (R k)=i:=by
    rcases hl0 with h|h
    ·omega
    ·exact h
   have hkR:k<Rs.length:=ω
   have hkV:k<Vs.length:=ω
   have eRk:Rs.getD k undef=Rs[k]:=by simp[List.getD,hkR]
   have eVk:Vs.getD k undef=Vs[k]:=by simp[List.getD,hkV]
   have hRk:=(hR k hkj).up l3;have hVk:=(hV k hkj).up l3;have lRk:=D.rl k hkj;have lVk:=D.vl k hkj;obtain⟨hk1,hk2,_⟩:=DP hlk;have cRk:∀ms,Cell h3 ms ((AF vr).add (k*1)) (Rs.getD k undef):=λms=>by rw[eRk];exact(hRs3.any (ms:=ms)).cell0 hkR Y
   have cx:∀ms,Cell h3 ms ((AF (Rs.getD j undef)).add (i*1)) (.w (r1.getD i 0)):=λms=>by rw[show r1.getD i 0=r1[i] by simp[List.getD,hi1]];exact(Rr.any (ms:=ms)).cell0 hi1 Y
   have cb:∀ms,Cell h3 ms ((AF (Rs.getD k undef)).add (i*1)) (.w ((R k).getD i 0)):=λms=>by rw[show(R k).getD i 0=(R k)[i] by simp[List.getD,hk1]];exact(hRk.any (ms:=ms)).cell0 hk1 Y
   have bx:=CJ ω rr i;have bb:=CJ ω (D.rr k hkj) i;obtain⟨x,hx⟩:∃x,r1.getD i 0=x:=⟨_,Y⟩
   obtain⟨b,hb⟩:∃b,(R k).getD i 0=b:=⟨_,Y⟩
   rw[hx]at cx bx hi2;rw[hb]at cb bb hk2;have hinv:=ML hp (show 0<b by omega) bb.2;have hwb:=PY hp1 b;obtain⟨w,hw⟩:∃w,FC p b=w:=⟨_,Y⟩
   rw[hw]at hinv hwb;have hpw:0<=(p-x)*w/\(p-x)*w<=997*997:=⟨Int.mul_nonneg ω ω,Int.mul_le_mul ω ω ω ω⟩
   have hkill:=Abg (x:=x) hinv (show 0<p by omega);have hov:=Aaw p b g h3 a0 ⟨hp1,hp9⟩ ⟨bb.1,bb.2⟩;rw[hw]at hov;have ht0:=da ((p-x)*w) (show p≠0 by omega);have ht1:=dc ((p-x)*w) (show 0<p by omega);have ork:=hRk.rd.one;have ovj:(Vs.getD j undef).oneCell'=true:=Ov.o1;have ovk:=hVk.rd.one;refine Ah (Ab (Ac (A5 32 CT κ Y (Wm Y (Wm Y (Wf HI Y (Wl Y U3 (a0 _) (Wm Y (Wm Y (Wf ER Y (Wl Y Ck (a3 _) (Wm Y (AL (BG (j) hRs3.rd.any Y Ck Cz Y Y) Y Y (Wl Y AP (cR _) (Wm Y (AL (BG (i) Rr.rd.any Y AP A3 Y Y) Y Y (Wl Y U3 (cx _) (AL (oS Y) Y Y (Wm Y (Wm Y (Wm Y (Wf ER Y (Wl Y Ck (a3 _) (Wm Y (AL (BG (k) hRs3.rd.any Y Ck Cz Y Y) Y Y (Wl Y AP (cRk _) (Wm Y (AL (BG (i) hRk.rd.any Y AP A3 Y Y) Y Y (Wl Y U3 (cb _) (AL (AG Y call177 Y (hov _)) Y Y (AL (oM Y) Y Y (Wm Y (Wm Y (Wf HI Y (Wl Y U3 (a0 _) (AZ (Qx (BJ Y Y Y ω ω) Y (Qm Y (Am ?_)))))))))))))))))))))))))))))))))))))));obtain⟨t,ht⟩:∃t,(p-x)*w%p=t:=⟨_,Y⟩
   rw[ht]at hkill ht0 ht1 ⊢;refine FX LM lM λh4 l4 b4=>?_;have l24:=b4 _ l3 dM;have hRs:=hRs.up l24;have hVs:=hVs.up l24;have hRk:=(hR k hkj).up l24;have hVk:=(hV k hkj).up l24;have hS:=hS.le l24;have a0:∀ms,Cell h4 ms (⟨g,0,none⟩:Addr) (.w p):=λms=>Seg.all hS 0 _ Y ms;have a3:∀ms,Cell h4 ms (⟨g,3,none⟩:Addr) vr:=λms=>Seg.all hS 3 _ Y ms;have a4:∀ms,Cell h4 ms (⟨g,4,none⟩:Addr) vv:=λms=>Seg.all hS 4 _ Y ms;have cR:∀ms,Cell h4 ms ((AF vr).add (j*1)) (Rs.getD j undef):=λms=>by rw[eR];exact(hRs.any (ms:=ms)).cell0 hjR Y
   have cRk:∀ms,Cell h4 ms ((AF vr).add (k*1)) (Rs.getD k undef):=λms=>by rw[eRk];exact(hRs.any (ms:=ms)).cell0 hkR Y
   have cV:∀ms,Cell h4 ms ((AF vv).add (j*1)) (Vs.getD j undef):=λms=>by rw[eV];exact(hVs.any (ms:=ms)).cell0 hjV Y
   have cVk:∀ms,Cell h4 ms ((AF vv).add (k*1)) (Vs.getD k undef):=λms=>by rw[eVk];exact(hVs.any (ms:=ms)).cell0 hkV Y
   refine Ac (A5 16 CT κ Y (Wm Y (Wm Y (Wm Y (Wf ER Y (Wl Y Ck (a3 _) (Wm Y (AL (BG (j) hRs.rd.any Y Ck Cz Y Y) Y Y (Wl Y AP (cR _) (Wm Y (Wm Y (Wf ER Y (Wl Y Ck (a3 _) (Wm Y (AL (BG (k) hRs.rd.any Y Ck Cz Y Y) Y Y (Wl Y AP (cRk _) (Wm Y (AZ (Bf (pre:=[mr]) Y call178 Y (Xe p t g r1 (R k) _ _ mr h4 a0 ⟨hp1,hp9⟩ ⟨ht0,ht1⟩ Or hRk ω ω rr (D.rr k hkj)) Y Y Y Y (λ_ h5 ms5 l5 hF=>?_))))))))))))))))))));obtain⟨rfl,mr',rfl,Or'⟩:=hF;refine Am (A5 16 CT κ Y (Wm Y (Wm Y (Wm Y (Wf Ji Y (Wl Y Ck (a4 _) (Wm Y (AL (BG (j) hVs.rd.any Y Ck Cz Y Y) Y Y (Wl Y AP (cV _) (Wm Y (Wm Y (Wf Ji Y (Wl Y Ck (a4 _) (Wm Y (AL (BG (k) hVs.rd.any Y Ck Cz Y Y) Y Y (Wl Y AP (cVk _) (Wm Y (AZ (Nj 1 Y (Bf (pre:=[mv]) Y call178 Y (Xe p t g v1 (V k) _ _ mv h4 a0 ⟨hp1,hp9⟩ ⟨ht0,ht1⟩ Ov hVk ω ω rv (D.vr k hkj)) Y Y Y Y (λ_ h6 ms6 l6 hF=>?_)))))))))))))))))))));obtain⟨rfl,mv',rfl,Ov'⟩:=hF;have hll:r1.length=(R k).length:=ω
   have hlv:v1.length=(V k).length:=ω
   have hless:=MH (p:=p) (t:=t) hll hi hlk (by rw[hx,hb];exact hkill);have hO':=hO.step (t:=t) hkj (show i<n by omega) ht0 ht1 (by rw[hx];exact hi2) (by rw[hb];exact hk2);have hpp:0<p:=ω
   refine Al (Ai (CM 1 Y ?_));exact Ak (AU (Eu p r1 (R k) t)+1).toNat _ ω ⟨_,_,mr',mv',Y,Y,AI l2 l24,Y,Or',Ov',hO',by rw[DS hll];exact lr,by rw[DS hlv];exact lv,Iq hpp _ _,Iq hpp _ _⟩ Qs
end Go.Proofs.Q
namespace Go.Proofs
open Go.Proofs.Tryz
open Go.Shelf
def Tryz.laysSlF06_ren:Go.Shelf.Ren:=⟨fun|6=>147|15=>201|14=>200|28=>248|29=>249|20=>240|21=>241|22=>242|23=>243|24=>244|25=>245|26=>246|27=>247|46=>280|47=>281|48=>282|49=>283|50=>284|57=>300|n=>n,fun|22=>27|24=>52|25=>192|3=>3|39=>223|0=>0|53=>282|55=>222|4=>4|46=>276|45=>275|50=>124|5=>5|9=>9|66=>309|70=>313|76=>332|77=>333|n=>n,fun|n=>n⟩
theorem Tryz.laysSlF06:Go.Proofs.SlLaysF0.n6 prog Tryz.laysSlF06_ren:={
  mixed:=by kernel_rfl
  f6:=⟨f147.name,by decide,func147.trans (bf some κ)⟩
  f14:=⟨f200.name,by decide,func200.trans (bf some κ)⟩
  f15:=func201.trans (bf some κ)
  f20:=⟨f240.name,by decide,func240.trans (bf some κ)⟩
  f21:=⟨f241.name,by decide,func241.trans (bf some κ)⟩
  f22:=⟨f242.name,by decide,func242.trans (bf some κ)⟩
  f23:=⟨f243.name,by decide,func243.trans (bf some κ)⟩
  f24:=⟨f244.name,by decide,func244.trans (bf some κ)⟩
  f25:=⟨f245.name,by decide,func245.trans (bf some κ)⟩
  f26:=⟨f246.name,by decide,func246.trans (bf some κ)⟩
  f27:=⟨f247.name,by decide,func247.trans (bf some κ)⟩
  f28:=func248.trans (bf some κ)
  f29:=func249.trans (bf some κ)
  f46:=⟨f280.name,by decide,func280.trans (bf some κ)⟩
  f47:=func281.trans (bf some κ)
  f48:=func282.trans (bf some κ)
  f49:=⟨f283.name,by decide,func283.trans (bf some κ)⟩
  f50:=⟨f284.name,by decide,func284.trans (bf some κ)⟩
  f57:=⟨f300.name,by decide,func300.trans (bf some κ)⟩
  t0:=underlying0
  a0:=isAgg0
  z0:=sizeOf0
  v0:=zeroValue0
  t3:=underlying3
  a3:=isAgg3
  z3:=sizeOf3
  v3:=zeroValue3
  t4:=underlying4
  a4:=isAgg4
  z4:=sizeOf4
  v4:=zeroValue4
  t5:=underlying5
  a5:=isAgg5
  z5:=sizeOf5
  v5:=zeroValue5
  t9:=underlying9
  a9:=isAgg9
  z9:=sizeOf9
  v9:=zeroValue9
  t22:=underlying27
  a22:=isAgg27
  z22:=sizeOf27
  v22:=zeroValue27
  t25:=underlying192
  a25:=isAgg192
  z25:=sizeOf192
  v25:=zeroValue192
  t39:=underlying223
  a39:=isAgg223
  z39:=sizeOf223
  v39:=zeroValue223
  t45:=underlying275
  a45:=isAgg275
  z45:=sizeOf275
  v45:=zeroValue275
  t46:=underlying276
  a46:=isAgg276
  z46:=sizeOf276
  v46:=zeroValue276
  t50:=underlying124
  a50:=isAgg124
  z50:=sizeOf124
  v50:=zeroValue124
  t53:=underlying282
  a53:=isAgg282
  z53:=sizeOf282
  v53:=zeroValue282
  t55:=underlying222
  a55:=isAgg222
  z55:=sizeOf222
  v55:=zeroValue222
  t66:=underlying309
  a66:=isAgg309
  z66:=sizeOf309
  v66:=zeroValue309
  t70:=underlying313
  a70:=isAgg313
  z70:=sizeOf313
  v70:=zeroValue313
  t76:=underlying332
  a76:=isAgg332
  z76:=sizeOf332
  v76:=zeroValue332
  t77:=underlying333
  a77:=isAgg333
  z77:=sizeOf333
  v77:=zeroValue333 }
end Go.Proofs

namespace Go.Proofs.Q
open Go.Proofs.Tryz
open Go.Eng Go.RowKit Go.Lin Go.Sort Go.Srt
def Abi(l:List Int)(r:Int):Prop:=(∃(i:Nat) (hi:i<l.length),r=l[i]/\l[i]≠0/\∀j (hj:j<l.length),j<i->l[j]=0)\/(r=0/\∀j (hj:j<l.length),l[j]=0)
def or3(a b c:Int):Int:=if a≠0 then a else if b≠0 then b else c
theorem Aaf{a b c r:Int}(h:Abi [a,b,c] r):r=or3 a b c:=by
 unfold or3;rcases h with ⟨i,hi,rfl,h1,h2⟩|⟨rfl,h⟩
 ·have hi:i<3:=hi;rcases (ω:i=0\/i=1\/i=2) with rfl|rfl|rfl
  ·have h1:a≠0:=h1;show a=_;rw[ab h1]
  ·have h1:b≠0:=h1;have h3:a=0:=h2 0 (by simp) (by decide);show b=_;rw[aa (λq=>q h3),ab h1]
  ·have h3:a=0:=h2 0 (by simp) (by decide);have h4:b=0:=h2 1 (by simp) (by decide);show c=_;rw[aa (λq=>q h3),aa (λq=>q h4)]
 ·have h3:a=0:=h 0 (by simp);have h4:b=0:=h 1 (by simp);have h5:c=0:=h 2 (by simp);rw[aa (λq=>q h3),aa (λq=>q h4),h5]
structure CeI where
 c:Cl
 v:Value
 one:v.oneCell'=true
 i:BS c.id
instance:Inhabited CeI:=⟨⟨default,.slice none 0 0,rfl,by decide⟩⟩
def CeI.ce(a:CeI):Ce:=⟨a.c,a.v⟩
def JR(a:CeI):List Value:=[.int .i64 a.c.id,.int .i64 a.c.dim,a.v]
theorem D0:∀a,(JR a).length=3:=λ_=>rfl
theorem Ng(s:CeI):∀c∈JR s,c.oneCell'=true:=λc hc=>by
 simp only[JR,mem_cons,not_mem_nil,or_false]at hc;rcases hc with rfl|rfl|rfl
 ·rfl
 ·rfl
 ·exact s.one
theorem RF(l:List CeI):(l.map CeI.ce).flatMap cC=l.flatMap JR:=by rw[List.flatMap_map];rfl
theorem Rj:∀A:List Ce,(∀a∈A,a.v.oneCell'=true/\BS a.c.id)->∃l:List CeI,l.map CeI.ce=A
 | [],_=>⟨[],rfl⟩
 | a::A,h=>by obtain⟨l,hl⟩:=Rj A λb hb=>h b (List.Mem.tail _ hb);exact⟨⟨a.c,a.v,(h a Mh).1,(h a Mh).2⟩::l,by rw[map_cons,hl];rfl⟩
theorem own_ceI{m:Hp}{v:Value}{l:List CeI}:OwnL cC 3 52 m v (l.map CeI.ce)<->OwnL JR 3 52 m v l:=by
 constructor
 ·intro O;have h:=O.own;rw[RF,af]at h;exact⟨h,D0⟩
 ·intro O;refine⟨?_,λ_=>rfl⟩;rw[RF,af];exact O.own
def Lx(f:Int->Int)(x y:CeI):Int:=or3 (c3 (f x.c.id) (f y.c.id)) (c3 x.c.dim y.c.dim) (c3 x.c.id y.c.id)
theorem Ix(f:Int->Int)(x y:CeI):Lx f x y<0<->f x.c.id<f y.c.id\/(f x.c.id=f y.c.id/\(x.c.dim<y.c.dim\/(x.c.dim=y.c.dim/\x.c.id<y.c.id))):=by
 unfold Lx or3 c3
 repeat' split
 all_goals omega
theorem P0(f:Int->Int):SWO (ltOf (Lx f)):=by
 refine⟨λx=>?_,λx y z h1 h2=>?_,λx y z h1 h2=>?_⟩
 ·unfold ltOf;rw[decide_eq_false_iff_not,Ix];omega
 ·unfold ltOf at *;rw[decide_eq_true_iff,Ix]at *;omega
 ·unfold ltOf at *;rw[decide_eq_false_iff_not,Ix]at *;omega
theorem AbT(v:Value)(l:List Int)(h:Hp)(hR:RdL cI 1 h [] v l)(hn:l.length<=1000000):FnT Tryz.prog 149 #[v] h [] (λr _ _=>∃x,r=.int .i64 x/\Abi l x):=by
 have o1:=hR.rd.one;refine Ao func149 ntmps149 Y Y (λw0 hw0=>?_);simp only[AX];refine Ap (Qm Y (BE (Qm Y (Am (Ac (Ap (Qm Y (Qx (Av hR.rd.any Y AP Y) Y (Qm Y (Am (Ag ?_)))))))))))
 refine Ax (λq s h' ms'=>∃(k:Nat),q=l.length-k/\s=[(3,.w 0),(6,v),(7,.w l.length),(8,.w k)]/\h=h'/\ms'=[]/\k<=l.length/\∀j (hj:j<l.length),j<k->l[j]=0)
  (l.length-0) _ ⟨0,rfl,rfl,rfl,rfl,ω,λj _ hj=>ω⟩ Qs ?_
 rintro q s h' ms' ⟨k,rfl,rfl,rfl,rfl,hk,hno⟩;refine Ap (Qm Y (Am (Ac ?_)));refine Ar Y (λhlt=>?_) (λhlt=>?_)
 ·have hkn:k<l.length:=ω
  have ck:∀ms,Cell h ms ((AF v).add (k*1)) (.w l[k]):=λms=>(hR.any (ms:=ms)).cell0 hkn Y;refine Ah (Ab (Ac (Ag (Ap (Qx (BG (k) hR.rd.any Y AP A3 Y Y) Y (Ql Y U3 (ck _) (Qm Y (BE (Qm Y (Qm Y (Qm Y (Am ?_))))))))))));refine Ar Y (λhz=>?_) (λhz=>?_)
  ·refine Ac (Ad (Qm Y (Qm Y (Am (An (Aj (Ae (Ae (Aj (Ae ?_))))))))));exact Au Y Y (⟨_,Y,.inl ⟨k,hkn,Y,hz,hno⟩⟩)
  ·refine Ah (Ai (Ab (Ad (Qx (oA Y) Y (Qm Y (Al ?_))))));refine Ak (l.length-(k+1)) _ ω ⟨k+1,Y,Y,Y,Y,ω,λj hj hjk=>?_⟩ Qs;rcases (ω:j<k\/j=k) with h2|rfl
   ·exact hno j hj h2
   ·exact Classical.not_not.1 hz
 ·obtain rfl:k=l.length:=ω
  refine Aq (Aa (Aa (Af (Ab (Ap (Qm Y (Qm Y (Am (An ?_)))))))));exact Au Y Y (⟨_,Y,.inr ⟨Y,λj hj=>hno j hj hj⟩⟩)
theorem Ab8(g:Nat)(a b c:Int)(h:Hp)(ms:List Hp)(hm:A8 g 3 [.int .i64 a,.int .i64 b,.int .i64 c]∈ms):FnV Tryz.prog 149 #[.slice (some ⟨g,0,none⟩) 3 3] h ms (.int .i64 (or3 a b c)):=
 Cr λh' _ hl=>DZ ((AbT _ [a,b,c] h' ((OwnL.blk (g:=g) (el:=3) (F:=cI) (l:=[a,b,c]) 3 Bd rfl (by decide)).rdh (h:=h') (ms:=[]) (hl _ hm)) (by simp)).mono λr _ _ ⟨x,e,hx⟩=>by rw[e,Aaf hx]) []
theorem Abq(T:List (Int×Int))(gA gm g:Nat)(mA:Hp)(bs:List Nat)(x y:CeI)(h:Hp)(e10:∀ms,Cell h ms (⟨g,0,none⟩:Addr) (.pointer (some ⟨gm,0,none⟩)))(e2:∀ms,Cell h ms (⟨gm,2,none⟩:Addr) (.map (some gA)))(O:CQ kN kN gA BS mA T bs)(lA:mA.le h)(ms:List Hp) :
  FnV Tryz.prog 148 #[.agg (JR x).toArray,.agg (JR y).toArray,.pt g] h ms (.w (Lx (λc=>(Bp T c).getD 0) x y)):=by
 refine DZ ?_ ms;have o1:=x.one;have o2:=y.one;show FnT _ _ #[.agg #[.w x.c.id,.w x.c.dim,x.v],.agg #[.w y.c.id,.w y.c.dim,y.v],.pt g] _ _ _;refine Ao func148 ntmps148 Y Y (λw0 hw0=>?_);simp only[AX];refine Ap (AQ [_,_,_] Y Y (by rfl) Y Y Y (λg3=>AQ [_,_,_] Y Y (by rfl) Y Y Y (λg4=>Qm Y (Am (AA λh1 l1 hG4=>(AA λh2 l2 hG3=>?_))))));have hG4:=hG4.le l2;have l12:=AI l1 l2;have e10:∀ms,Cell h2 ms (⟨g,0,none⟩:Addr) (.pt gm):=λms=>(e10 ms).le l12;have e2:∀ms,Cell h2 ms (⟨gm,2,none⟩:Addr) (.map (some gA)):=λms=>(e2 ms).le l12;have e30:∀ms,Cell h2 ms (⟨g3,0,none⟩:Addr) (.w x.c.id):=λms=>Seg.all hG3 0 _ Y ms;have e31:∀ms,Cell h2 ms (⟨g3,1,none⟩:Addr) (.w x.c.dim):=λms=>Seg.all hG3 1 _ Y ms;have e40:∀ms,Cell h2 ms (⟨g4,0,none⟩:Addr) (.w y.c.id):=λms=>Seg.all hG4 0 _ Y ms;have e41:∀ms,Cell h2 ms (⟨g4,1,none⟩:Addr) (.w y.c.dim):=λms=>Seg.all hG4 1 _ Y ms;refine Ac (A5 24 CT κ Y (Wl Y UM (e10 _) (Wm Y (Wf Km Y (Wl Y L5 (e2 _) (Wf Bn Y (Wl Y U3 (e30 _) (AL (Cj (V:=kN) (z:=(0:Int)) (u:=(Bp T x.c.id).getD 0) x.c.id Y Bt O (AI lA l12) Y L5 HQ Y Y x.i) Y Y (Wl Y UM (e10 _) (Wm Y (Wf Km Y (Wl Y L5 (e2 _) (Wf Bn Y (Wl Y U3 (e40 _) (AL (Cj (V:=kN) (z:=(0:Int)) (u:=(Bp T y.c.id).getD 0) y.c.id Y Bt O (AI lA l12) Y L5 HQ Y Y y.i) Y Y (AL (AG Y call150 Y (Gl _ _ _ _)) Y Y (Wf BT Y (Wl Y U3 (e31 _) (Wf BT Y (Wl Y U3 (e41 _) (AL (AG Y call150 Y (Gl _ _ _ _)) Y Y (Wf Bn Y (Wl Y U3 (e30 _) (Wf Bn Y (Wl Y U3 (e40 _) (AZ (Qx (AG Y call150 Y (Gl _ _ _ _)) Y (AB [(0,_),(1,_),(2,_)] [.w 0,.w 0,.w 0] [_,_,_] Y AP A3 Y ω κ Qt Y Y Y Y (λg31=>?_)))))))))))))))))))))))))))));refine Qx (AG Y call149 Y (Ab8 _ _ _ _ _ _ (by repeat (first|exact Mh|refine List.Mem.tail _ ?_)))) Y ?_;refine Qm Y (Am (An ?_));exact Au Y Y (Y)
def CF(T:List (Int×Int))(c:Int):Int:=(Bp T c).getD 0
theorem Tn(T:List (Int×Int))(gA gm g0:Nat)(mA:Hp)(bs:List Nat)(l:List CeI)(v:Value)(m h:Hp)(e10:∀ms,Cell h ms (⟨g0,0,none⟩:Addr) (.pointer (some ⟨gm,0,none⟩)))(e2:∀ms,Cell h ms (⟨gm,2,none⟩:Addr) (.map (some gA)))(OA:CQ kN kN gA BS mA T bs)(lA:mA.le h)(O:OwnL JR 3 52 m v l)(hl:l.length<=1000000) :
  FnT Tryz.prog 147 #[v,.func (.func 148) #[] #[.pt g0]] h [m] (λ_ h' ms'=>h=h'/\∃(l':List CeI) (m':Hp),ms'=[m']/\OwnL JR 3 52 m' v l'/\l'.Perm l/\l'.Pairwise λa b=>¬Lx (CF T) b a<0):=by
 intro w hw;obtain⟨⟨h1,h2⟩,hF⟩:=O;rcases h2 with ⟨rfl,h4,rfl⟩|⟨g,cap,spare,rfl,rfl,e1,e2',e3⟩
 ·obtain rfl:l=[]:=List.length_eq_zero_iff.1 h4;refine(AnyF.slices_SortFunc_none Tryz.laysSlF06 none 0 (.func (.func 148) #[] #[.pt g0]) w).mono λx w' ⟨e,ew⟩=>?_;subst ew;exact⟨_,h,[Hp.emp],e,Ends.refl hw,Y,[],Hp.emp,Y,OwnL.nil D0,List.Perm.refl _,List.Pairwise.nil⟩
 ·have hg:w.heap[g]?=some (.cells (l.toArray.toList.flatMap JR++spare).toArray 52 (0,0)):=hw.own _ (ak.2 Y) g _ (Hp.one_self _ _);have hlt:=(Array.getElem?_eq_some_iff.1 hg).1
  have hlays:CmpLays Tryz.prog 148 #[.pt g0] JR 3 (Lx (CF T)) g 0 l.toArray.size w:=λmm os dk hs x y=>by have hE:=MC (enc:=JR) (n:=mm) (el:=52) D0 ω l.toArray dk hs spare os hw;exact(Abq T gA gm g0 mA bs x y h e10 e2 OA lA [] _ (hE.st.weaken (Dv) (List.nil_sublist _))).mono λ_ _ ⟨e,h⟩=>⟨e,h.grown⟩
  refine(AnyQ.slices_SortFunc Tryz.laysSlF06 3 Tryz.isAgg52 Tryz.sizeOf52 JR D0 Ng (Lx (CF T)) (P0 _) 148 #[.pt g0] g 0 cap l.toArray w call148 hlays (T8 D0 ω l.toArray spare hg) hlt (by simp;omega)).mono λx w' ⟨e,d',n,os,P,S,ew⟩=>?_;subst ew;have hsz:d'.size=l.length:=by have:=P.1;simpa using this
  have hE:=MC (enc:=JR) (n:=n) (el:=52) D0 ω l.toArray d' (by simpa using hsz) spare os hw;refine⟨_,h,_,e,hE,Y,d'.toList,_,Y,⟨⟨?_,.inr ⟨g,cap,spare,?_,Y,?_,?_,e3⟩⟩,D0⟩,?_,?_⟩
  ·exact Bk D0 _
  ·have:d'.toList.length=l.length:=by rw[Array.length_toList,hsz]
   rw[this]
  ·rw[ad,Bk D0,Array.length_toList,hsz,<-Bk D0 l,<-ad];exact e1
  ·rw[Array.length_toList,hsz];exact e2'
  ·have h:=P.2.2;have q1:d'.extract 0 l.toArray.size=d':=by rw[<-P.1];simp
   have q2:l.toArray.extract 0 l.toArray.size=l.toArray:=by simp
   rw[q1,q2]at h;exact h
  ·rw[aw];intro i j hi hj hij;have hi':i<d'.size:=by simpa using hi
   have hj':j<d'.size:=by simpa using hj
   have h:=S i j ω hij (by simp;omega);have q1:d'[i]! = d'[i]:=by simp[hi']
   have q2:d'[j]! = d'[j]:=by simp[hj']
   rw[q1,q2]at h;exact of_decide_eq_false h
end Go.Proofs.Q
namespace Go.Proofs.Q
open Go.Eng Go.RowKit Go.Lin Go.Sort Go.Srt
variable {p:Int} {S:List Ce} {i j:Nat}
def ColsO:Hp->List Value->List (List Int)->Prop
 | m,[],[]=>m=Hp.emp
 | m,v::vs,c::cs=>∃a b,m=a.join b/\a.disj b/\OwnL cI 1 3 a v c/\ColsO b vs cs
 | _,_,_=>False
theorem ColsO.len:∀{vs:List Value} {cs:List (List Int)} {m:Hp},ColsO m vs cs->vs.length=cs.length
 | [],[],_,_=>rfl
 | _::_,_::_,_,⟨_,_,_,_,_,h⟩=>by simp[h.len]
 | [],_::_,_,h=>h.elim
 | _::_,[],_,h=>h.elim
theorem ColsO.snoc{v:Value}{c:List Int}{b:Hp}(O:OwnL cI 1 3 b v c):∀{vs:List Value} {cs:List (List Int)} {m:Hp},ColsO m vs cs->m.disj b->ColsO (m.join b) (vs++[v]) (cs++[c])
 | [],[],m,h,hd=>by have h:m=Hp.emp:=h;subst h;exact⟨b,Hp.emp,by rw[Hp.join_emp,Hp.emp_join],λg=>.inr rfl,O,rfl⟩
 | _::_,_::_,m,⟨a,b',e,hd',O',h⟩,hd=>by subst e;refine⟨a,b'.join b,Hp.join_assoc _ _ _,?_,O',h.snoc O (Hp.disj_right hd)⟩;exact Hp.disj_symm (Hp.disj_join (Hp.disj_symm hd') (Hp.disj_symm (Hp.disj_left hd)))
 | [],_::_,_,h,_=>h.elim
 | _::_,[],_,h,_=>h.elim
def DG(S:List Ce):Nat->List (Int×Int)
 | 0=>[]
 | j+1=>De (DG S j) (S.getD j default).c.id (j:Int)
theorem HY(S:List Ce)(c:Int):∀j,0<=(Bp (DG S j) c).getD 0/\(0<j->(Bp (DG S j) c).getD 0<j)
 | 0=>by simp[DG,Bp]
 | j+1=>by
  have ih:=HY S c j;unfold DG;rw[DJ];split
  ·simp only[Option.getD_some];omega
  ·refine⟨ih.1,λ_=>?_⟩;rcases Nat.eq_zero_or_pos j with rfl|h
   ·simp[DG,Bp]
   ·have:=ih.2 h;omega
theorem KQ(hn:(S.map λa=>a.c.id).Nodup)(hi:i<S.length):∀j,i<j->j<=S.length->Bp (DG S j) S[i].c.id=some (i:Int)
 | 0,h,_=>ω
 | j+1,h,hj=>by
  unfold DG;rw[DJ];have ej:S.getD j default=S[j]:=by simp[List.getD,show j<S.length from by omega]
  rw[ej];split
  ·rename_i e
   have h1:i=j:=by have h2:=aw.1 hn;refine ax λhne=>?_;have h3:=h2 i j (by simpa using hi) (by simp;omega) ω;simp only[List.getElem_map]at h3;exact h3 e
   rw[h1]
  ·rename_i e;rcases (ω:i<j\/i=j) with h1|rfl
   ·exact KQ hn hi j h1 ω
   ·exact absurd Y e
def pl(S:List Ce)(j:Nat)(c:Int):Nat:=((Bp (DG S j) c).getD 0).toNat
theorem SE(S:List Ce)(j:Nat)(c:Int):((pl S j c:Nat):Int)=(Bp (DG S j) c).getD 0:=Int.toNat_of_nonneg (HY S c j).1
theorem AbE(S:List Ce)(hj:0<j)(c:Int):pl S j c<j:=by have h1:=(HY S c j).2 hj;have h2:=SE S j c;omega
theorem Xr(hn:(S.map λa=>a.c.id).Nodup)(hij:i<j)(hj:j<=S.length):pl S j (S.getD i default).c.id=i:=by
 have hi:i<S.length:=ω
 unfold pl;rw[show S.getD i default=S[i] by simp[List.getD,hi],KQ hn hi j hij hj];rfl
def EI(p:Int)(S:List Ce)(j k:Nat):List Int:=((S.getD j default).c.sd.take k).foldl (λc s=>c.set (pl S (j+1) s.1) ((s.2+p)%p)) (replicate S.length 0)
def CZ(p:Int)(S:List Ce)(j:Nat):List Int:=EI p S j (S.getD j default).c.sd.length
def CO(n j:Nat):List Int:=(replicate n 0).set j 1
theorem JE{k:Nat}(hk:k<(S.getD j default).c.sd.length):EI p S j (k+1)=(EI p S j k).set (pl S (j+1) ((S.getD j default).c.sd[k]).1) (((S.getD j default).c.sd[k].2+p)%p):=by unfold EI;rw[List.take_succ_eq_append_getElem hk,List.foldl_append];rfl
theorem DR(p:Int)(S:List Ce)(j k:Nat):(EI p S j k).length=S.length:=by
 unfold EI
 have:∀(l:List (Int×Int)) (c:List Int),(l.foldl (λc s=>c.set (pl S (j+1) s.1) ((s.2+p)%p)) c).length=c.length:=λl=>by
  induction l with
  | nil=>intro c;rfl
  | cons a l ih=>intro c;rw[List.foldl_cons,ih,bz]
 rw[this,List.length_replicate]
theorem SZ{x:Int}{l:List Int}(h:Jo p l)(hx:0<=x/\x<p):Jo p (l.set i x):=λy hy=>by
 rcases List.mem_or_eq_of_mem_set hy with h1|rfl
 ·exact h y h1
 ·exact hx
theorem SI(hp:0<p)(n:Nat):Jo p (replicate n 0):=λy hy=>by rw[(List.mem_replicate.1 hy).2];omega
theorem Iv(hp:0<p)(S:List Ce)(j k:Nat):Jo p (EI p S j k):=by
 unfold EI
 have:∀(l:List (Int×Int)) (c:List Int),Jo p c->Jo p (l.foldl (λc s=>c.set (pl S (j+1) s.1) ((s.2+p)%p)) c):=λl=>by
  induction l with
  | nil=>intro c h;exact h
  | cons a l ih=>intro c h;exact ih _ (SZ h ⟨da _ ω,dc _ hp⟩)
 exact this _ _ (SI hp _)
theorem Js(n j:Nat):(CO n j).length=n:=by unfold CO;simp
theorem Mn(hp:2<=p)(n j:Nat):Jo p (CO n j):=SZ (SI ω n) ω
theorem Fc{α:Type}(f:Nat->α)(j:Nat):(range (j+1)).map f=(range j).map f++[f j]:=by rw[List.range_succ,bg];rfl
end Go.Proofs.Q
namespace Go.Proofs.Q
open Go.Proofs.Tryz
open Go.Eng Go.RowKit Go.Lin Go.Sort Go.Srt
variable {e:Entry} {Q:Exit->Act->World->Prop} {ops:Array Oper} {s:AC} {h:Hp} {ms:List Hp}
def K4(f:Int->Int)(S:List Ce):Prop:=S.Pairwise λa b=>f a.c.id<f b.c.id\/(f a.c.id=f b.c.id/\(a.c.dim<b.c.dim\/(a.c.dim=b.c.dim/\a.c.id<=b.c.id)))
theorem Ss{f:Int->Int}{l:List CeI}(h:l.Pairwise λa b=>¬Lx f b a<0):K4 f (l.map CeI.ce):=by unfold K4;rw[List.pairwise_map];refine h.imp λ{a b} h=>?_;rw[Ix]at h;show f a.c.id<f b.c.id\/(f a.c.id=f b.c.id/\(a.c.dim<b.c.dim\/(a.c.dim=b.c.dim/\a.c.id<=b.c.id)));omega
def box0:List Value:=.int .i64 0::.slice none 0 0::.map none::.slice none 0 0::.slice none 0 0::replicate 400 (.int .i64 0)
theorem W4(p:Int)(vA:Value)(gL:Nat):Pf box0 [(0,[.int .i64 p]),(1,[vA]),(2,[.map (some gL)])]=EU p vA gL (.slice none 0 0) (.slice none 0 0) (replicate 400 0):=by unfold box0 EU;rw[List.map_replicate];rfl
theorem VD:box0.length=405:=by unfold box0;simp
theorem Abn{v:Value}(h:v.oneCell'=true):∀a∈[v],∀c∈cU a,c.oneCell'=true:=λa ha c hc=>by rw[ak.1 ha]at hc;rw[ak.1 (show c∈[v] from hc)];exact h
theorem GD{rest:List Oper}{o:Oper}{d g:Nat}{x y:Operand}{v q:Value}{m:Hp}{l:List Value}(i:Nat)(O:OwnL cU 1 22 m v l)(hm:A8 g 22 [q]∈ms)(hl:l.length<=400)(hP:e.P=Tryz.prog)(ho:o.op=.call { callee:=.builtin .append,args:=#[x,y],argTypes:=#[81,81] })
  (hx:ev s x=some v) (hy:ev s y=some (.slice (some ⟨g,0,none⟩) 1 1)) (hi:ms[i]?=some m) (hq:q.oneCell'=true) (hd:o.dst=some d) (hn:Nat.blt d e.n=true) (hg:o.guard=none) (K:∀v' m',OwnL cU 1 22 m' v' (l++[q])->WL e ops Q rest ((d,v')::s) h (ms.set i m')):WL e ops Q (o::rest) s h ms:=
 Bg i O (RdL.one Nc (x:=q) hm rfl) ho (hP ▸ Ck) (hP ▸ Cz) rfl ω hx hy hi (Abn hq) (by simp only[ac];omega) (by simp only[ac];omega) hd hn hg K
theorem FP{rest:List Oper}{o:Oper}{d n c:Nat}{x:Operand}{a:Option Addr}(hP:e.P=Tryz.prog)(ho:o.op=.buildSlice 81 1 #[(0,x)])(hx:ev s x=some (.slice a n c))(hd:o.dst=some d)(hn:Nat.blt d e.n=true)(hg:o.guard=none)(k:∀g,WL e ops Q rest ((d,.slice (some ⟨g,0,none⟩) 1 1)::s) h (A8 g 22 [.slice a n c]::ms)):WL e ops Q (o::rest) s h ms:=
 Aw [_] ho (hP ▸ Ck) (hP ▸ Cz) hx rfl rfl rfl (by simp) hd hn hg k
theorem Xt{h0:Hp}{n:Nat}{listed:Array Bool}(n2:Nat)(L2:Array Bool)(I:AC->List Hp->Prop)(k1:∀L s ms,L=L2->I s ms->WB e ops Q h0 n2 L s h ms)(k2:(∀L s ms,L=L2->I s ms->WB e ops Q h0 n2 L s h ms)->WB e ops Q h0 n listed s h ms):WB e ops Q h0 n listed s h ms:=k2 k1
theorem OC(l:List Ce)(F:List (Int×Int))(v vf:Value)(p:Int)(hp:Hp)(hK:RgC l)(hR:RdC hp v l)(hF:RdL cV 2 hp [] vf F)(hV:HJ F)(h0:DU (cn l) F=(0,0))(hP:IsP p)(hl:l.length<=400):FnT Tryz.prog 91 #[.agg #[v],vf,.int .i64 p] hp [] (λr h' ms'=>hp.le h'/\∃(gm gA:Nat) (mA:Hp) (bs:List Nat) (S:List Ce) (vc vr vv:Value) (Rs Vs:List Value) (mR mV:Hp),r=.tuple #[.pointer (some ⟨gm,0,none⟩),.int .i64 0]/\ms'=[A8 gm 130 (EU p vc gA vr vv (replicate 400 0)),mR,mV]/\CQ kN kN gA BS mA (Bj F) bs/\mA.le h'/\RdL cC 3 h' [] vc S/\RdL cU 1 h' [] vr Rs/\RdL cU 1 h' [] vv Vs/\ColsO mR Rs ((range S.length).map (CZ p S))/\ColsO mV Vs ((range S.length).map (CO S.length))/\(S.map Ce.c).Perm (cn l)/\K4 (CF (Bj F)) S/\∀a∈S,RdL cD 2 h' [] a.v a.c.sd):=by
 have o1:=hR.q.rd.one;have o2:=hF.rd.one;have hp1:=hP.1;have hp2:=hP.2.1;have hG:=hK.F.rgt;refine Ao func91 ntmps91 Y Y (λw0 hw0=>?_);simp only[AX];refine Ap (AQ [_] Y Y (by rfl) Y Y Y (λg3=>Qm Y (Qm Y (Am (AA λh1 l1 hS=>?_)))));have hR:=hR.up l1;have hF:=hF.up l1;have hck:=Gi l F v vf h1 hK hR hF hV;rw[h0]at hck;refine Ac (Ap (Qx (oG Y CN A0 (Seg.any hS)) Y (Qm Y (Qx (AG Y call24 Y (DZ hck _)) Y (Qm Y (Qm Y (Qm Y (Qm Y (Qm Y (BE (Qm Y (Qm Y (Am (Ar Y (λhc=>absurd hc (λh=>h Y)) (λhc=>Ah (Ab (Ap (Qm Y (Qx (oG Y CN A0 (Seg.any hS)) Y (Qc call65 Y (JA l v _ hK hR) (λrC h2 ms2 l2 hQ=>?_)))))))))))))))))))));obtain⟨l2',mC,A,vA,rfl,rfl,hOC,hAl,hsA⟩:=hQ;have hF:=hF.up l2;refine Qx (EE Y CN Y Bi Y Y Y) Y (Qm Y (Qc call66 Y (Jt F vf _ hF hV.n hV.k) (λrL h3 ms3 l3 hL=>?_)));obtain⟨l3',gL,mL,bL,rfl,rfl,hOL⟩:=hL;have hsA:=λa ha=>(hsA a ha).up l3
 have hAid:∀a∈A,BS a.c.id:=λa ha=>by
  have h1:a.c∈cn l:=by rw[<-hAl];exact ai.2 ⟨a,ha,Y⟩
  have h2:=hG.pos _ h1;have h3:=hK.ci h1;unfold BS;omega
 obtain⟨A,rfl⟩:=Rj A λa ha=>⟨(hsA a ha).rd.one,hAid a ha⟩
 have hOC:=own_ceI.1 hOC;have ovA:=hOC.o1;have cvA:vA.cells=#[vA]:=(hOC.rd (h:=h3) (ms:=[mC]) Mh).rd.cells;refine Qx (Be Abp box0 [(0,[_]),(1,[vA]),(2,[_])] (EU p vA gL (.slice none 0 0) (.slice none 0 0) (replicate 400 0)) Y AbO κ Y (by rw[VD];exact⟨⟨Y,Y,Y⟩,⟨cvA,Y,Y⟩,⟨Y,Y,Y⟩,trivial⟩) (W4 p vA gL)) Y ?_;refine AQ (EU p vA gL (.slice none 0 0) (.slice none 0 0) (replicate 400 0)) Y Y Y Y Y Y (λg34=>Cx [.pointer none] Y Abm Y Y (λg10=>AY 0 0 Y Abm Y Y (by rfl) Y Y (by decide) Y Y (Am (AA λh4 l4 hG10=>(Eh 1 Y (Bo λh5 l5 lL=>(GS λh6 l6 lG dG LG=>?_)))))));have l36:=AI l4 (AI l5 l6);have hG6:=hG10.le (AI l5 l6);have hS6:=Seg.ofLe lG;have e10:∀ms,Cell h6 ms (⟨g10,0,none⟩:Addr) (.pt g34):=λms=>Seg.all hG6 0 _ Y ms;have e1:∀ms,Cell h6 ms (⟨g34,1,none⟩:Addr) vA:=λms=>Seg.all hS6 1 _ Y ms;have e2:∀ms,Cell h6 ms (⟨g34,2,none⟩:Addr) (.map (some gL)):=λms=>Seg.all hS6 2 _ Y ms;have hAlen:A.length=l.length:=by have:=bf List.length hAl;rw[C0]at this;simpa using this
 have hOC6:=hOC.rd (h:=h6) (ms:=[mC]) Mh;have hpv:=Nn p h6 (by unfold BS;omega);rw[ag hP]at hpv;refine Ac (Ag (Ap (Qm Y (Qx (AG Y call54 Y (hpv _)) Y (Qm Y (Qm Y (Am (AN Y (Ap (Ql Y UM (e10 _) (Qm Y (Qf Fq Y (Ql Y Bi (e1 _) (Qx (Av hOC6.rd Y Bi Y) Y (Qm Y (Qm Y (Am ?_)))))))))))))))));refine Ar Y (λhc=>absurd hc (λh=>ω)) (λhc=>?_);refine Ah (Ai (Ab (Ap (Ql Y UM (e10 _) (Qm Y (Qf Fq Y (Ql Y Bi (e1 _) (Qx (BY Y Y Y) Y (Bf (pre:=[mC]) Y call147 Y (Tn (Bj F) gL g34 g10 mL bL A vA mC h6 e10 e2 hOL (AI lL l6) hOC ω) Y Y Y Y (λ_ h7 ms7 l7 hQ=>?_))))))))));obtain⟨rfl,A',mC',rfl,hOC',hpm,hsr⟩:=hQ;refine Am (FX LG lG λh7 q7 b7=>(Eh 1 Y (Bv (own_ceI.2 hOC') λh8 l8 hQ=>?_)));have l57:h5.le h7:=b7 _ l6 dG;have l58:=AI l57 l8;have hG8:=hG10.le (AI l5 l58);have lL8:=AI lL l58;have l38:=AI l4 (AI l5 l58);have e10:∀ms,Cell h8 ms (⟨g10,0,none⟩:Addr) (.pt g34):=λms=>Seg.all hG8 0 _ Y ms;obtain⟨S,hSe⟩:∃S,A'.map CeI.ce=S:=⟨_,Y⟩
 have hsrt:=Ss hsr;have hSp:S.Perm (A.map CeI.ce):=by rw[<-hSe];exact hpm.map _
 have hSc:(S.map Ce.c).Perm (cn l):=by rw[<-hAl];exact hSp.map _
 have hSA:∀a∈S,RdL cD 2 h8 [] a.v a.c.sd:=λa ha=>(hsA a (hSp.mem_iff.1 ha)).up l38;have hSi:∀a∈S,BS a.c.id:=λa ha=>hAid a (hSp.mem_iff.1 ha)
 have hSs:∀a∈S,a.c.sd.length<=64/\∀s∈a.c.sd,BS s.1/\(s.2=1\/s.2=-1):=λa ha=>by have h1:a.c∈cn l:=hSc.mem_iff.1 (ai.2 ⟨a,ha,Y⟩);refine⟨(hK.F.bds h1).2.1,λs hs=>⟨?_,hG.sgn _ h1 s hs⟩⟩;obtain⟨y,hy,e,_⟩:=hG.sid _ h1 s hs;have h2:=hG.pos _ hy;have h3:=hK.ci hy;rw[<-e];unfold BS;omega
 have hSn:S.length<=400:=by have:=hSc.length_eq;rw[af,C0]at this;omega
 rw[hSe]at hsrt hQ;have ovA:=hQ.rd.one;refine Ap (C7 (K:=kN) (V:=kN) (Ok:=BS) Y Y Y Y (λgP mP hP0=>Qm Y (Am (BI (BI (BI (BI (Ac (Ap (Ql Y UM (e10 _) (Qm Y (Qf Fq Y (Ql Y Bi (Cell.blk 5 (k:=1) Y Y) (Qx (Av hQ.rd.any Y Bi Y) Y (Qm Y (Am (Ag ?_)))))))))))))))))
 refine Ax (λq sl h' ms'=>∃(j:Nat) (vr vv:Value) (mr mv mR mV mP:Hp) (Rs Vs:List Value) (bs:List Nat),q=S.length-j/\sl=[(2,.w p),(10,.pt g10),(11,.map (some gP)),(56,vA),(57,.w S.length),(58,.w j)]/\h8.le h'/\ms'=[mr,mv,mR,mV,mP,A8 g34 130 (EU p vA gL vr vv (replicate 400 0))]/\j<=S.length/\CQ kN kN gP BS mP (DG S j) bs/\OwnL cU 1 22 mr vr Rs/\OwnL cU 1 22 mv vv Vs/\ColsO mR Rs ((range j).map (CZ p S))/\ColsO mV Vs ((range j).map (CO S.length))/\Rs.length=j/\Vs.length=j)
  (S.length-0) _ ⟨0,.slice none 0 0,.slice none 0 0,Hp.emp,Hp.emp,Hp.emp,Hp.emp,mP,[],[],[],rfl,rfl,Dv,rfl,ω,hP0,OwnL.nil Nc,OwnL.nil Nc,rfl,rfl,rfl,rfl⟩ Qs ?_
 rintro q sl h' ms' ⟨j,vr,vv,mr,mv,mR,mV,mP,Rs,Vs,bs,rfl,rfl,l9,rfl,hj,hO,Or,Ov,CR,CV,hRl,hVl⟩;have hQ:=hQ.up l9;have e10:∀ms,Cell h' ms (⟨g10,0,none⟩:Addr) (.pt g34):=λms=>(e10 ms).le l9;have ovr:=Or.o1;have ovv:=Ov.o1;refine Ap (Qm Y (Am (Ac ?_)));refine Ar Y (λhlt=>?_) (λhlt=>?_)
 ·have hjl:j<S.length:=ω
  obtain⟨x,hx⟩:∃x,S[j]=x:=⟨_,Y⟩
  have hxm:x∈S:=by rw[<-hx];exact ae hjl
  have hgx:S.getD j default=x:=by simp[List.getD,hjl,hx]
  have hX:=(hSA x hxm).up l9;have oxv:=hX.rd.one;have hxI:=hSi x hxm;obtain⟨hxn,hxs⟩:=hSs x hxm;have hsx:∀ms,Seg h' ms ((AF vA).add (j*3)) (cC x):=λms=>by rw[<-hx];exact(hQ.any (ms:=ms)).seg hjl
  refine Ah (Ab ?_);refine A9 (λsl h'' ms'=>∃(vr' vv' va vb:Value) (mr' mv' mc mo mP':Hp) (bs':List Nat),sl=[(2,.w p),(10,.pt g10),(11,.map (some gP)),(56,vA),(57,.w S.length),(58,.w j)]/\h'.le h''/\ms'=[A8 g34 130 (EU p vA gL vr' vv' (replicate 400 0)),mP',mc,mo,mr',mv',mR,mV]/\CQ kN kN gP BS mP' (DG S (j+1)) bs'/\OwnL cU 1 22 mr' vr' (Rs++[va])/\OwnL cU 1 22 mv' vv' (Vs++[vb])/\OwnL cI 1 3 mc va (CZ p S j)/\OwnL cI 1 3 mo vb (CO S.length j)) ?_ (λs h ms hI=>?_)
  ·refine Ag (Ap (Qm Y (Qx (BG (j) hQ.rd.any Y Bi AH Y Y) Y (Qx (oG Y Ef AH (hsx _)) Y (Cx [.w 0,.w 0,.slice none 0 0] Y AH Y Y (λg13=>Qm Y ?_))))));refine Sa 0 [_,_,_] AH Y (by simp[o1,o2,ovA,oxv,ovr,ovv]) ?_;refine Am (AA λh10 l10 hS13=>?_);have e130:∀ms,Cell h10 ms (⟨g13,0,none⟩:Addr) (.w x.c.id):=λms=>Seg.all hS13 0 _ Y ms;refine Ap (Qm Y (Qf Bn Y (Ql Y U3 (e130 _) (Qm Y (BO (V:=kN) (z:=undef) 4 x.c.id (j:Int) Bt hO Y Y L5 Y Y Y hxI Y Y (λmP' bs' hO'=>?_))))));have hpl:DG S (j+1)=De (DG S j) x.c.id (j:Int):=by rw[<-hgx];rfl
   rw[<-hpl]at hO';refine Am (Eh 5 Y (GS λh11 l11 lG dG LG=>(Eh 4 Y (GS λh12 l12 lP dP LP=>?_))));have l912:=AI l10 (AI l11 l12);have hX:=hX.up l912;have hS12:=(Seg.ofLe lG).le l12;have e10':∀ms,Cell h12 ms (⟨g10,0,none⟩:Addr) (.pt g34):=λms=>(e10 ms).le l912;have e11':∀ms,Cell h12 ms (⟨g34,1,none⟩:Addr) vA:=λms=>Seg.all hS12 1 _ Y ms;have e132':∀ms,Cell h12 ms (⟨g13,2,none⟩:Addr) x.v:=λms=>((Seg.all hS13 2 _ Y ms).le l11).le l12;have e130':∀ms,Cell h12 ms (⟨g13,0,none⟩:Addr) (.w x.c.id):=λms=>((e130 ms).le l11).le l12;have hQ12:=hQ.up l912;refine A9 (λsl h' ms'=>∃ga gb:Nat,sl=[(2,.w p),(10,.pt g10),(11,.map (some gP)),(12,.w j),(13,.pt g13),(14,.slice (some ⟨ga,0,none⟩) S.length S.length),(15,.slice (some ⟨gb,0,none⟩) S.length S.length),(56,vA),(57,.w S.length),(58,.w j)]/\h12=h'/\ms'=[A8 ga 3 (replicate S.length (.w 0)),A8 gb 3 (replicate S.length (.w 0)),mr,mv,mR,mV]) ?_ (λs h ms hI=>?_)
   ·refine BL (n:=14) (bs:=[true,true,true,true,true,false,true,true,true,true,true,false,false,false]) [true,true,true,true,true,false,true,true,true,true,true] CT κ κ Y Y (QL Y UM (e10' _) (Qq Y (QF Fq Y (QL Y Bi (e11' _) (Qp Y (Av hQ12.rd.any Y Bi Y) (QL Y UM (e10' _) (Qq Y (QF Fq Y (QL Y Bi (e11' _) (Qp Y (Av hQ12.rd.any Y Bi Y) ?_))))))))));unfold FS;simp only[bh,av];refine Ba [5,11] κ Y ?_;refine AD Y ?_ ?_
    ·refine CA (n:=_) Y AP A3 Y Y Y (by rfl) (by rfl) ω ω Y Y Y (λg72=>Qw (Ba [11,12] κ Y ?_));refine AD Y ?_ ?_
     ·refine CA (n:=_) Y AP A3 Y Y Y (by rfl) (by rfl) ω ω Y Y Y (λg78=>Qw (Qo 12 Y (Qm Y (Qw (Qo 13 Y (Qm Y (Qw (Qe ?_))))))))
      (refine IT (List.Perm.swap _ _ _) ?_;exact AE _ ⟨g72,g78,Y,Y,Y⟩ Qs)
     refine AD Y ?_ ?_
     ·refine Qm Y (Qw (Qo 11 Y (CA (n:=_) Y AP A3 Y Y Y (by rfl) (by rfl) ω ω Y Y Y (λg78=>Qw (Qo 13 Y (Qm Y (Qw (Qe ?_))))))))
      (refine IT (List.Perm.swap _ _ _) ?_;exact AE _ ⟨g72,g78,Y,Y,Y⟩ Qs)
     exact Bb
    refine AD Y ?_ ?_
    ·refine CA (n:=_) Y AP A3 Y Y Y (by rfl) (by rfl) ω ω Y Y Y (λg78=>Qw (Qo 5 Y (CA (n:=_) Y AP A3 Y Y Y (by rfl) (by rfl) ω ω Y Y Y (λg72=>Qw (Qo 12 Y (Qm Y (Qw (Qo 13 Y (Qm Y (Qw (Qe ?_)))))))))));exact AE _ ⟨g72,g78,Y,Y,Y⟩ Qs
    exact Bb
   ·obtain⟨ga,gb,rfl,rfl,rfl⟩:=hI;have hO1:OwnL cI 1 3 (A8 ga 3 (replicate S.length (.w 0))) (.slice (some ⟨ga,0,none⟩) S.length S.length) (EI p S j 0):=OwnL.rep _ 0 ω;have hO2:OwnL cI 1 3 (A8 gb 3 (replicate S.length (.w 0))) (.slice (some ⟨gb,0,none⟩) S.length S.length) (replicate S.length 0):=OwnL.rep _ 0 ω;have hpP:0<j+1:=ω
    refine Ac (Ap (Qf BA Y (Ql Y BZ (e132' _) (Qx (Av hX.rd.any Y BZ Y) Y (Qm Y (Am (Ag ?_)))))))
    refine Ax (λq sl h' ms'=>∃(k:Nat) (mc:Hp),q=x.c.sd.length-k/\sl=[(2,.w p),(10,.pt g10),(11,.map (some gP)),(12,.w j),(14,.slice (some ⟨ga,0,none⟩) S.length S.length),(15,.slice (some ⟨gb,0,none⟩) S.length S.length),(56,vA),(57,.w S.length),(58,.w j),(80,x.v),(81,.w x.c.sd.length),(82,.w k)]/\h12.le h'/\ms'=[mc,A8 gb 3 (replicate S.length (.w 0)),mr,mv,mR,mV]/\k<=x.c.sd.length/\OwnL cI 1 3 mc (.slice (some ⟨ga,0,none⟩) S.length S.length) (EI p S j k))
     (x.c.sd.length-0) _ ⟨0,_,rfl,rfl,Dv,rfl,ω,hO1⟩ Qs ?_
    rintro q sl h13 ms' ⟨k,mc,rfl,rfl,l13,rfl,hk,hOc⟩;have hX:=hX.up l13;refine Ap (Qm Y (Am (Ac ?_)));refine Ar Y (λhlk=>?_) (λhlk=>?_)
    ·have hkl:k<x.c.sd.length:=ω
     obtain⟨s,hs⟩:∃s,x.c.sd[k]=s:=⟨_,Y⟩
     have hsm:s∈x.c.sd:=by rw[<-hs];exact ae hkl
     obtain⟨hs1,hs2⟩:=hxs s hsm;have hss:∀ms,Seg h13 ms ((AF x.v).add (k*2)) (cD s):=λms=>by rw[<-hs];exact(hX.any (ms:=ms)).seg hkl
     have hplt:pl S (j+1) s.1<(EI p S j k).length:=by rw[DR];have:=AbE S hpP s.1;omega
     have hcs:EI p S j (k+1)=(EI p S j k).set (pl S (j+1) s.1) ((s.2+p)%p):=by
      have hkg:k<(S.getD j default).c.sd.length:=by rw[hgx];exact hkl
      rw[JE hkg];have:(S.getD j default).c.sd[k]=s:=by simp only[hgx,hs]
      rw[this]
     rw[DR]at hplt;refine Ah (Ab (Ac (Ag (Ap (Qx (BG (k) hX.rd.any Y BZ AO Y Y) Y (Qx (oG Y D4 AO (hss _)) Y (Cx [.w 0,.w 0] Y AO Y Y (λg17=>?_))))))));refine Sa 0 [_,_] AO Y (by simp[Value.oneCell']) ?_;refine Am (AA λh14 l14 hS17=>?_);have e170:∀ms,Cell h14 ms (⟨g17,0,none⟩:Addr) (.w s.1):=λms=>Seg.all hS17 0 _ Y ms;have e171:∀ms,Cell h14 ms (⟨g17,1,none⟩:Addr) (.w s.2):=λms=>Seg.all hS17 1 _ Y ms;refine A5 11 CT κ Y (Wm Y (Wm Y (Wf B4 Y (Wl Y U3 (e170 _) (AL (Cj (V:=kN) (z:=(0:Int)) (u:=((pl S (j+1) s.1:Nat):Int)) s.1 (SE S (j+1) s.1).symm Bt hO' (AI lP (AI l13 l14)) Y L5 HQ Y Y hs1) Y Y (Wf Dh Y (Wl Y U3 (e171 _) (Wm Y (AL (oA Y) Y Y (Wm Y (AL (BJ Y Y Y ω ω) Y Y (AZ (Qx (Ch (pl S (j+1) s.1) Y AP A3 Y Y ω ω) Y ?_)))))))))))));refine CP 0 (pl S (j+1) s.1) hOc Y A3 Y Y Y (by rw[DR];exact hplt) Y Y (λmc' hOc'=>?_);rw[<-hcs]at hOc';refine Al (Ai (Ab (Ad (Qx (oA Y) Y (Qm Y (Al ?_))))));exact Ak (x.c.sd.length-(k+1)) _ ω ⟨k+1,mc',Y,Y,AI l13 l14,Y,ω,hOc'⟩ Qs
    ·obtain rfl:k=x.c.sd.length:=ω
     refine Aq (Aa (Aa (Af (Ab (Ap (Qm Y (Qm Y (Qx (Ch (j) Y AP A3 Y Y ω ω) Y ?_))))))));refine CP 1 j hO2 Y A3 Y Y Y (by simp;omega) rfl rfl (λmo' hO2'=>?_);refine Am (FX LP (AI lP l13) λh14 q14 b14=>(FX LG (b14 _ (AI lG (AI l12 l13)) (FV lG dP)) λh15 q15 b15=>?_));have l1015:h10.le h15:=b15 _ (b14 _ (AI l11 (AI l12 l13)) (FV l11 dP)) dG;have l915:=AI l10 l1015;have e10:∀ms,Cell h15 ms (⟨g10,0,none⟩:Addr) (.pt g34):=λms=>(e10 ms).le l915;have hcD:EI p S j x.c.sd.length=CZ p S j:=by unfold CZ;rw[hgx]
     rw[hcD]at hOc;refine BL (n:=22) (bs:=[true,true,true,true,true,false,true,false,false,true,true,true,false,true,false,false,true,true,false,true,true,false]) [true,true,true,true,true,false,true,false,false,true,true,true,false,true,false,false,true,true,false,true,true] CT κ κ Y Y (QL Y UM (e10 _) (QL Y UM (e10 _) (QL Y UM (e10 _) (Qq Y (QF ER Y (Qq Y (QL Y UM (e10 _) (Qq Y (QF Ji Y (Qq Y (Qq Y (QF ER Y (Qq Y (QF Ji Y ?_))))))))))))));unfold FS;simp only[bh,av];refine Xt 17 #[true,true,true,true,true,true,true,true,true,true,true,true,true,true,true,false,true,true,false,true,true,false] (λs ms=>∃B1 B2 gY v2 m2,ms=[B1,B2,A8 g34 130 (EU p vA gL vr vv (replicate 400 0)),mP',mc,mo',m2,mv,mR,mV]/\A8 gY 22 [.slice (some ⟨gb,0,none⟩) S.length S.length]∈[B1,B2]/\OwnL cU 1 22 m2 v2 (Rs++[.slice (some ⟨ga,0,none⟩) S.length S.length])/\Eng.Sub [(110,v2),(114,vv),(116,.slice (some ⟨gY,0,none⟩) 1 1),(119,.pointer (some ⟨g34,3,none⟩)),(121,.pointer (some ⟨g34,4,none⟩)),(2,.w p),(10,.pt g10),(11,.map (some gP)),(56,vA),(57,.w S.length),(58,.w j)] s) ?_ (λfin=>?_)
     ·rintro _ s ms rfl ⟨B1,B2,gY,v2,m2,rfl,hm,hO8,hS⟩;refine Qo 15 Y (Aad hS (GD 7 Ov (List.mem_append_left _ hm) ω Y Y Y Y Y Y Y Y Y (λv3 m3 hO9=>Qw (Qo 18 Y ?_))));refine AY 2 3 Y Abx Y Y hO8.o1 Y Y (by rw[LZ];omega) rfl rfl ?_;refine Qw (Qo 21 Y ?_);refine AY 2 4 Y Abx Y Y hO9.o1 Y Y (by rw[bz,LZ];omega) rfl rfl ?_;refine Qw (Qe ?_);refine AR (AR (Ai ?_));exact AE _ ⟨v2,v3,_,_,m2,m3,mc,mo',mP',bs',Y,l915,Y,hO',hO8,hO9,hOc,hO2'⟩ Qs
     refine Ba [5,7,12,14] κ Y ?_;refine AD Y ?_ ?_
     ·refine Ql Y Ck (Cell.blk 0 (k:=3) Y Y) (Qw (Ba [7,12,14] κ Y ?_));refine AD Y ?_ ?_
      ·refine FP Y Y Y Y Y Y (λg109=>Qw (Ba [8,12,14] κ Y ?_));refine AD Y ?_ ?_
       ·refine GD 5 Or (.head _) ω Y Y Y Y Y Y Y Y Y (λv2 m2 hO8=>Qw (Ba [12,14] κ Y ?_));refine AD Y ?_ ?_
        ·refine Ql Y Ck (Cell.blk 1 (k:=4) Y Y) (Qw (Qo 14 Y (FP Y Y Y Y Y Y (λg116=>Qw ?_))));exact fin _ _ _ κ ⟨_,_,_,_,_,Y,(.head _),hO8,Qs⟩
        refine AD Y ?_ ?_
        ·refine FP Y Y Y Y Y Y (λg116=>Qw (Qo 12 Y (Ql Y Ck (Cell.blk 2 (k:=4) Y Y) (Qw ?_))));exact fin _ _ _ κ ⟨_,_,_,_,_,Y,(.head _),hO8,Qs⟩
        exact Bb
       refine AD Y ?_ ?_
       ·refine Ql Y Ck (Cell.blk 1 (k:=4) Y Y) (Qw (Ba [8,14] κ Y ?_));refine AD Y ?_ ?_
        ·refine GD 5 Or (.head _) ω Y Y Y Y Y Y Y Y Y (λv2 m2 hO8=>Qw (Qo 14 Y (FP Y Y Y Y Y Y (λg116=>Qw ?_))));exact fin _ _ _ κ ⟨_,_,_,_,_,Y,(.head _),hO8,Qs⟩
        refine AD Y ?_ ?_
        ·refine FP Y Y Y Y Y Y (λg116=>Qw (Qo 8 Y (GD 6 Or (.tail _ (.head _)) ω Y Y Y Y Y Y Y Y Y (λv2 m2 hO8=>Qw ?_))));exact fin _ _ _ κ ⟨_,_,_,_,_,Y,(.head _),hO8,Qs⟩
        exact Bb
       refine AD Y ?_ ?_
       ·refine FP Y Y Y Y Y Y (λg116=>Qw (Ba [8,12] κ Y ?_));refine AD Y ?_ ?_
        ·refine GD 6 Or (.tail _ (.head _)) ω Y Y Y Y Y Y Y Y Y (λv2 m2 hO8=>Qw (Qo 12 Y (Ql Y Ck (Cell.blk 2 (k:=4) Y Y) (Qw ?_))));exact fin _ _ _ κ ⟨_,_,_,_,_,Y,(.head _),hO8,Qs⟩
        refine AD Y ?_ ?_
        ·refine Ql Y Ck (Cell.blk 2 (k:=4) Y Y) (Qw (Qo 8 Y (GD 6 Or (.tail _ (.head _)) ω Y Y Y Y Y Y Y Y Y (λv2 m2 hO8=>Qw ?_))));exact fin _ _ _ κ ⟨_,_,_,_,_,Y,(.head _),hO8,Qs⟩
        exact Bb
       exact Bb
      refine AD Y ?_ ?_
      ·refine Ql Y Ck (Cell.blk 0 (k:=4) Y Y) (Qw (Ba [7,14] κ Y ?_));refine AD Y ?_ ?_
       ·refine FP Y Y Y Y Y Y (λg109=>Qw (Ba [8,14] κ Y ?_));refine AD Y ?_ ?_
        ·refine GD 5 Or (.head _) ω Y Y Y Y Y Y Y Y Y (λv2 m2 hO8=>Qw (Qo 14 Y (FP Y Y Y Y Y Y (λg116=>Qw ?_))));exact fin _ _ _ κ ⟨_,_,_,_,_,Y,(.head _),hO8,Qs⟩
        refine AD Y ?_ ?_
        ·refine FP Y Y Y Y Y Y (λg116=>Qw (Qo 8 Y (GD 6 Or (.tail _ (.head _)) ω Y Y Y Y Y Y Y Y Y (λv2 m2 hO8=>Qw ?_))));exact fin _ _ _ κ ⟨_,_,_,_,_,Y,(.head _),hO8,Qs⟩
        exact Bb
       refine AD Y ?_ ?_
       ·refine FP Y Y Y Y Y Y (λg116=>Qw (Qo 7 Y (FP Y Y Y Y Y Y (λg109=>Qw (Qo 8 Y (GD 6 Or (.head _) ω Y Y Y Y Y Y Y Y Y (λv2 m2 hO8=>Qw ?_)))))));exact fin _ _ _ κ ⟨_,_,_,_,_,Y,(.tail _ (.head _)),hO8,Qs⟩
       exact Bb
      refine AD Y ?_ ?_
      ·refine FP Y Y Y Y Y Y (λg116=>Qw (Ba [7,12] κ Y ?_));refine AD Y ?_ ?_
       ·refine FP Y Y Y Y Y Y (λg109=>Qw (Ba [8,12] κ Y ?_));refine AD Y ?_ ?_
        ·refine GD 6 Or (.head _) ω Y Y Y Y Y Y Y Y Y (λv2 m2 hO8=>Qw (Qo 12 Y (Ql Y Ck (Cell.blk 2 (k:=4) Y Y) (Qw ?_))));exact fin _ _ _ κ ⟨_,_,_,_,_,Y,(.tail _ (.head _)),hO8,Qs⟩
        refine AD Y ?_ ?_
        ·refine Ql Y Ck (Cell.blk 2 (k:=4) Y Y) (Qw (Qo 8 Y (GD 6 Or (.head _) ω Y Y Y Y Y Y Y Y Y (λv2 m2 hO8=>Qw ?_))));exact fin _ _ _ κ ⟨_,_,_,_,_,Y,(.tail _ (.head _)),hO8,Qs⟩
        exact Bb
       refine AD Y ?_ ?_
       ·refine Ql Y Ck (Cell.blk 1 (k:=4) Y Y) (Qw (Qo 7 Y (FP Y Y Y Y Y Y (λg109=>Qw (Qo 8 Y (GD 6 Or (.head _) ω Y Y Y Y Y Y Y Y Y (λv2 m2 hO8=>Qw ?_)))))));exact fin _ _ _ κ ⟨_,_,_,_,_,Y,(.tail _ (.head _)),hO8,Qs⟩
       exact Bb
      exact Bb
     refine AD Y ?_ ?_
     ·refine FP Y Y Y Y Y Y (λg109=>Qw (Ba [5,12,14] κ Y ?_));refine AD Y ?_ ?_
      ·refine Ql Y Ck (Cell.blk 1 (k:=3) Y Y) (Qw (Ba [8,12,14] κ Y ?_));refine AD Y ?_ ?_
       ·refine GD 5 Or (.head _) ω Y Y Y Y Y Y Y Y Y (λv2 m2 hO8=>Qw (Ba [12,14] κ Y ?_));refine AD Y ?_ ?_
        ·refine Ql Y Ck (Cell.blk 1 (k:=4) Y Y) (Qw (Qo 14 Y (FP Y Y Y Y Y Y (λg116=>Qw ?_))));exact fin _ _ _ κ ⟨_,_,_,_,_,Y,(.head _),hO8,Qs⟩
        refine AD Y ?_ ?_
        ·refine FP Y Y Y Y Y Y (λg116=>Qw (Qo 12 Y (Ql Y Ck (Cell.blk 2 (k:=4) Y Y) (Qw ?_))));exact fin _ _ _ κ ⟨_,_,_,_,_,Y,(.head _),hO8,Qs⟩
        exact Bb
       refine AD Y ?_ ?_
       ·refine Ql Y Ck (Cell.blk 1 (k:=4) Y Y) (Qw (Ba [8,14] κ Y ?_));refine AD Y ?_ ?_
        ·refine GD 5 Or (.head _) ω Y Y Y Y Y Y Y Y Y (λv2 m2 hO8=>Qw (Qo 14 Y (FP Y Y Y Y Y Y (λg116=>Qw ?_))));exact fin _ _ _ κ ⟨_,_,_,_,_,Y,(.head _),hO8,Qs⟩
        refine AD Y ?_ ?_
        ·refine FP Y Y Y Y Y Y (λg116=>Qw (Qo 8 Y (GD 6 Or (.tail _ (.head _)) ω Y Y Y Y Y Y Y Y Y (λv2 m2 hO8=>Qw ?_))));exact fin _ _ _ κ ⟨_,_,_,_,_,Y,(.head _),hO8,Qs⟩
        exact Bb
       refine AD Y ?_ ?_
       ·refine FP Y Y Y Y Y Y (λg116=>Qw (Ba [8,12] κ Y ?_));refine AD Y ?_ ?_
        ·refine GD 6 Or (.tail _ (.head _)) ω Y Y Y Y Y Y Y Y Y (λv2 m2 hO8=>Qw (Qo 12 Y (Ql Y Ck (Cell.blk 2 (k:=4) Y Y) (Qw ?_))));exact fin _ _ _ κ ⟨_,_,_,_,_,Y,(.head _),hO8,Qs⟩
        refine AD Y ?_ ?_
        ·refine Ql Y Ck (Cell.blk 2 (k:=4) Y Y) (Qw (Qo 8 Y (GD 6 Or (.tail _ (.head _)) ω Y Y Y Y Y Y Y Y Y (λv2 m2 hO8=>Qw ?_))));exact fin _ _ _ κ ⟨_,_,_,_,_,Y,(.head _),hO8,Qs⟩
        exact Bb
       exact Bb
      refine AD Y ?_ ?_
      ·refine Ql Y Ck (Cell.blk 1 (k:=4) Y Y) (Qw (Ba [5,14] κ Y ?_));refine AD Y ?_ ?_
       ·refine Ql Y Ck (Cell.blk 1 (k:=3) Y Y) (Qw (Ba [8,14] κ Y ?_));refine AD Y ?_ ?_
        ·refine GD 5 Or (.head _) ω Y Y Y Y Y Y Y Y Y (λv2 m2 hO8=>Qw (Qo 14 Y (FP Y Y Y Y Y Y (λg116=>Qw ?_))));exact fin _ _ _ κ ⟨_,_,_,_,_,Y,(.head _),hO8,Qs⟩
        refine AD Y ?_ ?_
        ·refine FP Y Y Y Y Y Y (λg116=>Qw (Qo 8 Y (GD 6 Or (.tail _ (.head _)) ω Y Y Y Y Y Y Y Y Y (λv2 m2 hO8=>Qw ?_))));exact fin _ _ _ κ ⟨_,_,_,_,_,Y,(.head _),hO8,Qs⟩
        exact Bb
       refine AD Y ?_ ?_
       ·refine FP Y Y Y Y Y Y (λg116=>Qw (Qo 5 Y (Ql Y Ck (Cell.blk 2 (k:=3) Y Y) (Qw (Qo 8 Y (GD 6 Or (.tail _ (.head _)) ω Y Y Y Y Y Y Y Y Y (λv2 m2 hO8=>Qw ?_)))))));exact fin _ _ _ κ ⟨_,_,_,_,_,Y,(.head _),hO8,Qs⟩
       exact Bb
      refine AD Y ?_ ?_
      ·refine FP Y Y Y Y Y Y (λg116=>Qw (Ba [5,12] κ Y ?_));refine AD Y ?_ ?_
       ·refine Ql Y Ck (Cell.blk 2 (k:=3) Y Y) (Qw (Ba [8,12] κ Y ?_));refine AD Y ?_ ?_
        ·refine GD 6 Or (.tail _ (.head _)) ω Y Y Y Y Y Y Y Y Y (λv2 m2 hO8=>Qw (Qo 12 Y (Ql Y Ck (Cell.blk 2 (k:=4) Y Y) (Qw ?_))));exact fin _ _ _ κ ⟨_,_,_,_,_,Y,(.head _),hO8,Qs⟩
        refine AD Y ?_ ?_
        ·refine Ql Y Ck (Cell.blk 2 (k:=4) Y Y) (Qw (Qo 8 Y (GD 6 Or (.tail _ (.head _)) ω Y Y Y Y Y Y Y Y Y (λv2 m2 hO8=>Qw ?_))));exact fin _ _ _ κ ⟨_,_,_,_,_,Y,(.head _),hO8,Qs⟩
        exact Bb
       refine AD Y ?_ ?_
       ·refine Ql Y Ck (Cell.blk 2 (k:=4) Y Y) (Qw (Qo 5 Y (Ql Y Ck (Cell.blk 2 (k:=3) Y Y) (Qw (Qo 8 Y (GD 6 Or (.tail _ (.head _)) ω Y Y Y Y Y Y Y Y Y (λv2 m2 hO8=>Qw ?_)))))));exact fin _ _ _ κ ⟨_,_,_,_,_,Y,(.head _),hO8,Qs⟩
       exact Bb
      exact Bb
     refine AD Y ?_ ?_
     ·refine Ql Y Ck (Cell.blk 0 (k:=4) Y Y) (Qw (Ba [5,7,14] κ Y ?_));refine AD Y ?_ ?_
      ·refine Ql Y Ck (Cell.blk 0 (k:=3) Y Y) (Qw (Ba [7,14] κ Y ?_));refine AD Y ?_ ?_
       ·refine FP Y Y Y Y Y Y (λg109=>Qw (Ba [8,14] κ Y ?_));refine AD Y ?_ ?_
        ·refine GD 5 Or (.head _) ω Y Y Y Y Y Y Y Y Y (λv2 m2 hO8=>Qw (Qo 14 Y (FP Y Y Y Y Y Y (λg116=>Qw ?_))));exact fin _ _ _ κ ⟨_,_,_,_,_,Y,(.head _),hO8,Qs⟩
        refine AD Y ?_ ?_
        ·refine FP Y Y Y Y Y Y (λg116=>Qw (Qo 8 Y (GD 6 Or (.tail _ (.head _)) ω Y Y Y Y Y Y Y Y Y (λv2 m2 hO8=>Qw ?_))));exact fin _ _ _ κ ⟨_,_,_,_,_,Y,(.head _),hO8,Qs⟩
        exact Bb
       refine AD Y ?_ ?_
       ·refine FP Y Y Y Y Y Y (λg116=>Qw (Qo 7 Y (FP Y Y Y Y Y Y (λg109=>Qw (Qo 8 Y (GD 6 Or (.head _) ω Y Y Y Y Y Y Y Y Y (λv2 m2 hO8=>Qw ?_)))))));exact fin _ _ _ κ ⟨_,_,_,_,_,Y,(.tail _ (.head _)),hO8,Qs⟩
       exact Bb
      refine AD Y ?_ ?_
      ·refine FP Y Y Y Y Y Y (λg109=>Qw (Ba [5,14] κ Y ?_));refine AD Y ?_ ?_
       ·refine Ql Y Ck (Cell.blk 1 (k:=3) Y Y) (Qw (Ba [8,14] κ Y ?_));refine AD Y ?_ ?_
        ·refine GD 5 Or (.head _) ω Y Y Y Y Y Y Y Y Y (λv2 m2 hO8=>Qw (Qo 14 Y (FP Y Y Y Y Y Y (λg116=>Qw ?_))));exact fin _ _ _ κ ⟨_,_,_,_,_,Y,(.head _),hO8,Qs⟩
        refine AD Y ?_ ?_
        ·refine FP Y Y Y Y Y Y (λg116=>Qw (Qo 8 Y (GD 6 Or (.tail _ (.head _)) ω Y Y Y Y Y Y Y Y Y (λv2 m2 hO8=>Qw ?_))));exact fin _ _ _ κ ⟨_,_,_,_,_,Y,(.head _),hO8,Qs⟩
        exact Bb
       refine AD Y ?_ ?_
       ·refine FP Y Y Y Y Y Y (λg116=>Qw (Qo 5 Y (Ql Y Ck (Cell.blk 2 (k:=3) Y Y) (Qw (Qo 8 Y (GD 6 Or (.tail _ (.head _)) ω Y Y Y Y Y Y Y Y Y (λv2 m2 hO8=>Qw ?_)))))));exact fin _ _ _ κ ⟨_,_,_,_,_,Y,(.head _),hO8,Qs⟩
       exact Bb
      refine AD Y ?_ ?_
      ·refine FP Y Y Y Y Y Y (λg116=>Qw (Ba [5,7] κ Y ?_));refine AD Y ?_ ?_
       ·refine Ql Y Ck (Cell.blk 1 (k:=3) Y Y) (Qw (Qo 7 Y (FP Y Y Y Y Y Y (λg109=>Qw (Qo 8 Y (GD 6 Or (.head _) ω Y Y Y Y Y Y Y Y Y (λv2 m2 hO8=>Qw ?_)))))));exact fin _ _ _ κ ⟨_,_,_,_,_,Y,(.tail _ (.head _)),hO8,Qs⟩
       refine AD Y ?_ ?_
       ·refine FP Y Y Y Y Y Y (λg109=>Qw (Qo 5 Y (Ql Y Ck (Cell.blk 2 (k:=3) Y Y) (Qw (Qo 8 Y (GD 6 Or (.head _) ω Y Y Y Y Y Y Y Y Y (λv2 m2 hO8=>Qw ?_)))))));exact fin _ _ _ κ ⟨_,_,_,_,_,Y,(.tail _ (.head _)),hO8,Qs⟩
       exact Bb
      exact Bb
     refine AD Y ?_ ?_
     ·refine FP Y Y Y Y Y Y (λg116=>Qw (Ba [5,7,12] κ Y ?_));refine AD Y ?_ ?_
      ·refine Ql Y Ck (Cell.blk 1 (k:=3) Y Y) (Qw (Ba [7,12] κ Y ?_));refine AD Y ?_ ?_
       ·refine FP Y Y Y Y Y Y (λg109=>Qw (Ba [8,12] κ Y ?_));refine AD Y ?_ ?_
        ·refine GD 6 Or (.head _) ω Y Y Y Y Y Y Y Y Y (λv2 m2 hO8=>Qw (Qo 12 Y (Ql Y Ck (Cell.blk 2 (k:=4) Y Y) (Qw ?_))));exact fin _ _ _ κ ⟨_,_,_,_,_,Y,(.tail _ (.head _)),hO8,Qs⟩
        refine AD Y ?_ ?_
        ·refine Ql Y Ck (Cell.blk 2 (k:=4) Y Y) (Qw (Qo 8 Y (GD 6 Or (.head _) ω Y Y Y Y Y Y Y Y Y (λv2 m2 hO8=>Qw ?_))));exact fin _ _ _ κ ⟨_,_,_,_,_,Y,(.tail _ (.head _)),hO8,Qs⟩
        exact Bb
       refine AD Y ?_ ?_
       ·refine Ql Y Ck (Cell.blk 1 (k:=4) Y Y) (Qw (Qo 7 Y (FP Y Y Y Y Y Y (λg109=>Qw (Qo 8 Y (GD 6 Or (.head _) ω Y Y Y Y Y Y Y Y Y (λv2 m2 hO8=>Qw ?_)))))));exact fin _ _ _ κ ⟨_,_,_,_,_,Y,(.tail _ (.head _)),hO8,Qs⟩
       exact Bb
      refine AD Y ?_ ?_
      ·refine FP Y Y Y Y Y Y (λg109=>Qw (Ba [5,12] κ Y ?_));refine AD Y ?_ ?_
       ·refine Ql Y Ck (Cell.blk 2 (k:=3) Y Y) (Qw (Ba [8,12] κ Y ?_));refine AD Y ?_ ?_
        ·refine GD 6 Or (.head _) ω Y Y Y Y Y Y Y Y Y (λv2 m2 hO8=>Qw (Qo 12 Y (Ql Y Ck (Cell.blk 2 (k:=4) Y Y) (Qw ?_))));exact fin _ _ _ κ ⟨_,_,_,_,_,Y,(.tail _ (.head _)),hO8,Qs⟩
        refine AD Y ?_ ?_
        ·refine Ql Y Ck (Cell.blk 2 (k:=4) Y Y) (Qw (Qo 8 Y (GD 6 Or (.head _) ω Y Y Y Y Y Y Y Y Y (λv2 m2 hO8=>Qw ?_))));exact fin _ _ _ κ ⟨_,_,_,_,_,Y,(.tail _ (.head _)),hO8,Qs⟩
        exact Bb
       refine AD Y ?_ ?_
       ·refine Ql Y Ck (Cell.blk 2 (k:=4) Y Y) (Qw (Qo 5 Y (Ql Y Ck (Cell.blk 2 (k:=3) Y Y) (Qw (Qo 8 Y (GD 6 Or (.head _) ω Y Y Y Y Y Y Y Y Y (λv2 m2 hO8=>Qw ?_)))))));exact fin _ _ _ κ ⟨_,_,_,_,_,Y,(.tail _ (.head _)),hO8,Qs⟩
       exact Bb
      refine AD Y ?_ ?_
      ·refine Ql Y Ck (Cell.blk 1 (k:=4) Y Y) (Qw (Ba [5,7] κ Y ?_));refine AD Y ?_ ?_
       ·refine Ql Y Ck (Cell.blk 1 (k:=3) Y Y) (Qw (Qo 7 Y (FP Y Y Y Y Y Y (λg109=>Qw (Qo 8 Y (GD 6 Or (.head _) ω Y Y Y Y Y Y Y Y Y (λv2 m2 hO8=>Qw ?_)))))));exact fin _ _ _ κ ⟨_,_,_,_,_,Y,(.tail _ (.head _)),hO8,Qs⟩
       refine AD Y ?_ ?_
       ·refine FP Y Y Y Y Y Y (λg109=>Qw (Qo 5 Y (Ql Y Ck (Cell.blk 2 (k:=3) Y Y) (Qw (Qo 8 Y (GD 6 Or (.head _) ω Y Y Y Y Y Y Y Y Y (λv2 m2 hO8=>Qw ?_)))))));exact fin _ _ _ κ ⟨_,_,_,_,_,Y,(.tail _ (.head _)),hO8,Qs⟩
       exact Bb
      exact Bb
     exact Bb
  ·obtain⟨vr',vv',va,vb,mr',mv',mc,mo,mP',bs',rfl,l10,rfl,hO',Or',Ov',hOc,hOu⟩:=hI;refine Ad (Qx (oA Y) Y (Qm Y (Al (Ep λhap=>?_))));simp only[bm,mem_cons,not_mem_nil,or_false,forall_eq_or_imp,forall_eq]at hap;have d1:mR.disj mc:=Hp.disj_symm hap.2.2.1.2.2.2.1;have d2:mV.disj mo:=Hp.disj_symm hap.2.2.2.1.2.2.2;have CR':=CR.snoc hOc d1;have CV':=CV.snoc hOu d2;rw[<-Fc]at CR' CV';refine CM 3 Y (CM 7 Y (ET (CM 3 Y (CM 6 Y (ET (CM 2 Y (CM 3 Y (CM 3 Y (CM 3 Y (CM 5 Y (CM 5 Y ?_)))))))))));exact Ak (S.length-(j+1)) _ ω ⟨j+1,vr',vv',mr',mv',_,_,mP',_,_,bs',Y,Y,AI l9 l10,Y,ω,hO',Or',Ov',CR',CV',by rw[ad,hRl];rfl,by rw[ad,hVl];rfl⟩ Qs
 ·obtain rfl:j=S.length:=ω
  refine Aq (Aa (Aa (Af (Ab (Ap (Ql Y UM (e10 _) (Qm Y (Qm Y (Am (An (Ld Or λh10 l10 hRr=>(Ld Ov λh11 l11 hRv=>(CM 2 Y (AR (CM 2 Y ?_)))))))))))))));have l911:=AI l9 (AI l10 l11);exact BC Y Y Y (⟨AI l1 (AI l2 (AI l3 (AI l38 l911))),g34,gL,mL,bL,S,vA,vr,vv,Rs,Vs,mR,mV,Y,Y,hOL,AI lL8 l911,hQ.up (AI l10 l11),hRr.up l11,hRv,CR,CV,hSc,hsrt,λa ha=>(hSA a ha).up l911⟩)
end Go.Proofs.Q
namespace Go.Proofs.Q
open Go.Proofs.Tryz
open Go.Eng Go.RowKit Go.Lin Go.Sort Go.Srt
variable {j n:Nat} {p:Int} {R V:Nat->List Int} {r v:List Int} {α:Type}
theorem Ops.congr{R' V':Nat->List Int}{r1 v1:List Int}(h:Ops p n j R V r v r1 v1)(hR:∀k,k<j->R k=R' k)(hV:∀k,k<j->V k=V' k):Ops p n j R' V' r v r1 v1:=by
 induction h with
 | refl=>exact .refl
 | step h hk hi h0 h1 h2 h3 ih=>
  rw[hR _ hk]at h3 ⊢;rw[hV _ hk];exact ih.step hk hi h0 h1 h2 h3
def upd(R:Nat->α)(j:Nat)(r:α)(k:Nat):α:=if k=j then r else R k
theorem Fw(R:Nat->α)(j:Nat)(r:α):upd R j r j=r:=ab rfl
theorem EF(R:Nat->α){k:Nat}(r:α)(h:k≠j):upd R j r k=R k:=aa h
theorem Red.next{la la':List Int}(D:Red p n j R V la)(hn:n<=400)(lr:r.length=n)(lv:v.length=n)(rr:Jo p r)(rv:Jo p v)(hL:LaS j r la la'):Red p n (j+1) (upd R j r) (upd V j v) la':=by
 have hb:=Dl r;have hlt:∀{k},k<j+1->k≠j->k<j:=λh1 h2=>ω
 refine⟨λk hk=>?_,λk hk=>?_,λk hk=>?_,λk hk=>?_,?_,λi hi=>?_,λk hk h0=>?_⟩
 ·by_cases e:k=j
  ·rw[e,Fw];exact lr
  ·rw[EF _ _ e];exact D.rl k (hlt hk e)
 ·by_cases e:k=j
  ·rw[e,Fw];exact lv
  ·rw[EF _ _ e];exact D.vl k (hlt hk e)
 ·by_cases e:k=j
  ·rw[e,Fw];exact rr
  ·rw[EF _ _ e];exact D.rr k (hlt hk e)
 ·by_cases e:k=j
  ·rw[e,Fw];exact rv
  ·rw[EF _ _ e];exact D.vr k (hlt hk e)
 ·rcases hL with ⟨_,rfl⟩|⟨_,_,rfl⟩
  ·exact D.ll
  ·rw[bz];exact D.ll
 ·have hold:la.getD i 0=0\/∃k,k<j+1/\la.getD i 0=(k:Int)+1/\AU (upd R j r k)=i:=by
   rcases D.a0 i hi with h|⟨k,hk,h1,h2⟩
   ·exact .inl h
   ·exact .inr ⟨k,ω,h1,by rw[EF _ _ ω];exact h2⟩
  rcases hL with ⟨_,rfl⟩|⟨h1,h2,rfl⟩
  ·exact hold
  ·by_cases e:(AU r).toNat=i
   ·refine .inr ⟨j,ω,?_,by rw[Fw];omega⟩;simp[List.getD,e,D.ll,hi]
   ·rw[show(la.set (AU r).toNat ((j:Int)+1)).getD i 0=la.getD i 0 by simp[List.getD,List.getElem?_set_ne e]];exact hold
 ·by_cases e:k=j
  ·rw[e,Fw]at h0 ⊢;rcases hL with ⟨h1,_⟩|⟨h1,h2,rfl⟩
   ·omega
   ·have:(AU r).toNat<la.length:=by rw[D.ll];omega
    simp[List.getD,this]
  ·rw[EF _ _ e]at h0 ⊢;have h3:=D.a1 k (hlt hk e) h0;rcases hL with ⟨_,rfl⟩|⟨h1,h2,rfl⟩
   ·exact h3
   ·have hne:(AU r).toNat≠(AU (R k)).toNat:=λe=>by rw[e,h3]at h2;omega
    rw[show(la.set (AU r).toNat ((j:Int)+1)).getD (AU (R k)).toNat 0=la.getD (AU (R k)).toNat 0 by simp[List.getD,List.getElem?_set_ne hne]];exact h3
theorem ColsO.head{vs:List Value}{cs:List (List Int)}{m:Hp}(h:ColsO m (vs.drop j) (cs.drop j))(hj:j<vs.length)(hc:j<cs.length):∃a b,m=a.join b/\a.disj b/\OwnL cI 1 3 a (vs.getD j undef) cs[j]/\ColsO b (vs.drop (j+1)) (cs.drop (j+1)):=by rw[List.drop_eq_getElem_cons hj,List.drop_eq_getElem_cons hc]at h;obtain⟨a,b,h1,h2,h3,h4⟩:=h;exact⟨a,b,h1,h2,by rw[show vs.getD j undef=vs[j] by simp[List.getD,hj]];exact h3,h4⟩
def Abv(g:Nat):Value:=.func (.func 121) #[.pointer (some ⟨g,0,none⟩)] #[]
structure AllC(p:Int)(S:List Ce)(n j:Nat)(R V:Nat->List Int)(la:List Int):Prop where
 red:Red p n j R V la
 ops:∀k,k<j->Ops p n k R V (CZ p S k) (CO n k) (R k) (V k)
theorem AllC.next{S:List Ce}{la la':List Int}(D:AllC p S n j R V la)(hn:n<=400)(lr:r.length=n)(lv:v.length=n)(rr:Jo p r)(rv:Jo p v)(hL:LaS j r la la')(hO:Ops p n j R V (CZ p S j) (CO n j) r v):AllC p S n (j+1) (upd R j r) (upd V j v) la':=by
 refine⟨D.red.next hn lr lv rr rv hL,λk hk=>?_⟩;have e1:∀i,i<j->R i=upd R j r i:=λi hi=>(EF _ _ ω).symm;have e2:∀i,i<j->V i=upd V j v i:=λi hi=>(EF _ _ ω).symm;by_cases e:k=j
 ·subst e;rw[Fw,Fw];exact hO.congr e1 e2
 ·have hk':k<j:=ω
  rw[EF _ _ e,EF _ _ e];exact(D.ops k hk').congr (λi hi=>e1 i ω) (λi hi=>e2 i ω)
theorem P6(p:Int)(S:List Ce)(n:Nat):AllC p S n 0 (λ_=>[]) (λ_=>[]) (replicate 400 0):=by
 refine⟨⟨λk hk=>ω,λk hk=>ω,λk hk=>ω,λk hk=>ω,by simp,λi hi=>.inl ?_,λk hk=>ω⟩,λk hk=>ω⟩;have:∀m,i<m->(replicate m (0:Int)).getD i 0=0:=λm h=>by simp[List.getD,h]
 exact this 400 hi
theorem Y3(p:Int)(S:List Ce)(g gA:Nat)(vc vr vv:Value)(Rs Vs:List Value)(mR mV h:Hp)(hp:IsP p)(hn:S.length<=400)(oc:vc.oneCell'=true)
  (hRs:RdL cU 1 h [] vr Rs) (hVs:RdL cU 1 h [] vv Vs) (CR:ColsO mR Rs ((range S.length).map (CZ p S))) (CV:ColsO mV Vs ((range S.length).map (CO S.length))) :
  FnT Tryz.prog 120 #[.w S.length,Abv g] h [A8 g 130 (EU p vc gA vr vv (replicate 400 0)),mR,mV] (λ_ h' ms'=>h.le h'/\∃R V la,ms'=[A8 g 130 (EU p vc gA vr vv la)]/\AllC p S S.length S.length R V la/\(∀k,k<S.length->RdL cI 1 h' [] (Rs.getD k undef) (R k))/\∀k,k<S.length->RdL cI 1 h' [] (Vs.getD k undef) (V k)):=by
 have hp1:=hp.1;have lR:Rs.length=S.length:=by have:=CR.len;simpa using this
 have lV:Vs.length=S.length:=by have:=CV.len;simpa using this
 obtain⟨n,hSn⟩:∃n,S.length=n:=⟨_,Y⟩
 rw[hSn]at hn CR CV lR lV ⊢;refine Ao func120 ntmps120 Y Y (λw0 hw0=>?_);simp only[AX];refine Ap (Qm Y (Qm Y (Am (Ag ?_))))
 refine Ax (λq sl h' ms'=>∃(j:Nat) (R V:Nat->List Int) (la:List Int) (mR mV:Hp),q=n-j/\sl=[(1,Abv g),(5,.w n),(6,.w j)]/\h.le h'/\ms'=[A8 g 130 (EU p vc gA vr vv la),mR,mV]/\j<=n/\ColsO mR (Rs.drop j) (((range n).map (CZ p S)).drop j)/\ColsO mV (Vs.drop j) (((range n).map (CO n)).drop j)/\AllC p S n j R V la/\(∀k,k<j->RdL cI 1 h' [] (Rs.getD k undef) (R k))/\∀k,k<j->RdL cI 1 h' [] (Vs.getD k undef) (V k))
  (n-0) _ ⟨0,_,_,_,mR,mV,rfl,rfl,Dv,rfl,ω,CR,CV,P6 p S n,λk hk=>ω,λk hk=>ω⟩ Qs ?_
 rintro q sl h' ms' ⟨j,R,V,la,mR,mV,rfl,rfl,l1,rfl,hj,CR,CV,A,hR,hV⟩;have hRs:=hRs.up l1;have hVs:=hVs.up l1;refine Ap (Qm Y (Am (Ac ?_)));refine Ar Y (λhlt=>?_) (λhlt=>?_)
 ·have hjn:j<n:=ω
  obtain⟨a,b,rfl,dab,Oa,CR'⟩:=CR.head ω (by simpa using hjn);obtain⟨c,d,rfl,dcd,Oc,CV'⟩:=CV.head ω (by simpa using hjn);rw[List.getElem_map,List.getElem_range]at Oa Oc;refine Eh 1 Y (Hx dab (Eh 3 Y (Hx dcd (Eh 2 Y (Eh 4 Y (Ah (Ab (Ac (Ag (Ap (Qm Y (Qm Y (Gu (Qm Y (Qm Y ?_)))))))))))))));refine HC (pre:=[A8 g 130 (EU p vc gA vr vv la),a,c]) Y Y call121 Y (T5 p n j g gA vc vr vv Rs Vs R V la _ _ a c h' hp hn hjn hRs hVs lR lV hR hV A.red oc Oa Oc (by rw[show(CZ p S j).length=S.length from DR _ _ _ _];exact hSn) (Js n j) (Iv ω S j _) (Mn hp1 n j)) Y Y Y Y (λv' h2 pre' l2 hF=>?_);obtain⟨l2',r',v2,la',a',c',rfl,Oa',Oc',hO,lr,lv,rr,rv,hL⟩:=hF;simp only[bh,av,append_nil];refine Nj 1 Y (A6 Oa' λh3 l3 hr'=>(Nj 1 Y (A6 Oc' λh4 l4 hv'=>?_)));have l24:=AI l3 l4;have l14:=AI l2 l24;have A':=A.next hn lr lv rr rv hL hO
  have hR':∀k,k<j+1->RdL cI 1 h4 [] (Rs.getD k undef) (upd R j r' k):=λk hk=>by
   by_cases e:k=j
   ·rw[e,Fw];exact hr'.up l4
   ·rw[EF _ _ e];exact(hR k ω).up l14
  have hV':∀k,k<j+1->RdL cI 1 h4 [] (Vs.getD k undef) (upd V j v2 k):=λk hk=>by
   by_cases e:k=j
   ·rw[e,Fw];exact hv'
   ·rw[EF _ _ e];exact(hV k ω).up l14
  refine Al (Ai (Ab (Ad (Qx (oA Y) Y (Qm Y (Al (CM 2 Y (CM 1 Y ?_))))))));exact Ak (n-(j+1)) _ ω ⟨j+1,_,_,la',b,d,Y,Y,AI l1 l14,Y,ω,CR',CV',A',hR',hV'⟩ Qs
 ·obtain rfl:j=n:=ω
  refine Aq (Aa (Aa (Af (CM 1 Y (AR (CM 1 Y (AR ?_)))))));exact Cb Y (⟨l1,R,V,la,Y,A,hR,hV⟩)
end Go.Proofs.Q
namespace Go.Proofs.Q
open Go.Proofs.Tryz
open Go.Eng Go.RowKit Go.Lin Go.Sort Go.Srt
structure RedM(p:Int)(F:List (Int×Int))(l S:List Ce)(R V:Nat->List Int)(gm:Nat)(h:Hp):Prop where
 ex:∃(gA:Nat) (mA:Hp) (bs:List Nat) (vc vr vv:Value) (Rs Vs:List Value) (la:List Int),Seg h [] ⟨gm,0,none⟩ (EU p vc gA vr vv la)/\CQ kN kN gA BS mA (Bj F) bs/\mA.le h/\RdL cC 3 h [] vc S/\RdL cU 1 h [] vr Rs/\RdL cU 1 h [] vv Vs/\Rs.length=S.length/\Vs.length=S.length/\(∀k,k<S.length->RdL cI 1 h [] (Rs.getD k undef) (R k))/\(∀k,k<S.length->RdL cI 1 h [] (Vs.getD k undef) (V k))/\AllC p S S.length S.length R V la
 perm:(S.map Ce.c).Perm (cn l)
 srt:K4 (CF (Bj F)) S
 sds:∀a∈S,RdL cD 2 h [] a.v a.c.sd
theorem MJ(l:List Ce)(F:List (Int×Int))(v vf:Value)(p:Int)(hp:Hp)(hK:RgC l)(hR:RdC hp v l)(hF:RdL cV 2 hp [] vf F)(hV:HJ F)(h0:DU (cn l) F=(0,0))(hP:IsP p)(hl:l.length<=400):FnT Tryz.prog 51 #[.agg #[v],vf,.int .i64 p] hp [] (λr h' ms'=>hp.le h'/\∃(gm:Nat) (S:List Ce) (R V:Nat->List Int) (vl:Value) (ml:Hp),r=.tuple #[.pointer (some ⟨gm,0,none⟩),vl,.int .i64 0]/\ms'=[ml]/\OwnL cI 1 3 ml vl ((range S.length).map λk=>AU (R k))/\RedM p F l S R V gm h'):=by
 have o1:=hR.q.rd.one;have o2:=hF.rd.one;refine Ao func51 ntmps51 Y Y (λw0 hw0=>?_);simp only[AX];refine Ap (AQ [_] Y Y (by rfl) Y Y Y (λg3=>Qm Y (Qm Y (Qm Y (Am (AA λh1 l1 hS=>?_))))));have hR:=hR.up l1;have hF:=hF.up l1;refine Ap (Qx (oG Y CN A0 (Seg.any hS)) Y (Qm Y (Qm Y (Qc call91 Y (OC l F v vf p h1 hK hR hF hV h0 hP hl) (λrB h2 ms2 l2 hB=>?_)))));obtain⟨l2',gm,gA,mA,bs,S,vc,vr,vv,Rs,Vs,mR,mV,rfl,rfl,hOA,lA,hQ,hRs,hVs,CR,CV,hperm,hsrt,hsds⟩:=hB;have ovc:=hQ.rd.one;have lR:Rs.length=S.length:=by have:=CR.len;simpa using this
 have lV:Vs.length=S.length:=by have:=CV.len;simpa using this
 have hSn:S.length<=400:=by have:=hperm.length_eq;rw[af,C0]at this;omega
 refine Qm Y (Qm Y (Qm Y (Qm Y (Qm Y (Am (Ac (Ap (Qm Y (Qm Y (Am (Ar Y (λhc=>absurd hc (λh=>h Y)) (λhc=>Ah (Ab (Ap (Qm Y (Qm Y (Qf Fq Y (Ql Y Bi (Cell.blk 0 (k:=1) Y Y) (Qx (Av hQ.rd.any Y Bi Y) Y (Qm Y (Qx (BY Y Y Y) Y (Bf (pre:=[A8 gm 130 (EU p vc gA vr vv (replicate 400 0)),mR,mV]) Y call120 Y (Y3 p S gm gA vc vr vv Rs Vs mR mV h2 hP hSn ovc hRs hVs CR CV) Y Y Y Y (λ_ h3 ms3 l3 hE=>?_)))))))))))))))))))))));obtain⟨l3',R,V,la,rfl,A,hRR,hVV⟩:=hE;refine Am (AA λh4 l4 hSg=>?_);have l24:=AI l3 l4;have hQ:=hQ.up l24;have hRs:=hRs.up l24;have hVs:=hVs.up l24;have hRR:=λk hk=>(hRR k hk).up l4;have hVV:=λk hk=>(hVV k hk).up l4;have lA4:=AI lA l24;have e3:∀ms,Cell h4 ms (⟨gm,3,none⟩:Addr) vr:=λms=>Seg.all hSg 3 _ Y ms;have ovr:=hRs.rd.one;refine BI (Ap (Qm Y (Am (Ac (Ap (Qm Y (Qm Y (Qf ER Y (Ql Y Ck (e3 _) (Qx (Av hRs.rd.any Y Ck Y) Y (Qm Y (Am (Ag ?_)))))))))))))
 refine Ax (λq sl h' ms'=>∃(j:Nat) (vl:Value) (ml:Hp),q=S.length-j/\sl=[(9,.pt gm),(11,vl),(35,vr),(36,.w Rs.length),(37,.w j)]/\h4.le h'/\ms'=[ml]/\j<=S.length/\OwnL cI 1 3 ml vl ((range j).map λk=>AU (R k)))
  (S.length-0) _ ⟨0,_,Hp.emp,rfl,rfl,Dv,rfl,ω,OwnL.nil Bd⟩ Qs ?_
 rintro q sl h' ms' ⟨j,vl,ml,rfl,rfl,l5,rfl,hj,hO⟩;have hRs:=hRs.up l5;have ovl:=hO.o1;refine Ap (Qm Y (Am (Ac ?_)));refine Ar Y (λhlt=>?_) (λhlt=>?_)
 ·have hjn:j<S.length:=ω
  have hjR:j<Rs.length:=ω
  have hRj:=(hRR j hjn).up l5;have orj:=hRj.rd.one;have cR:∀ms,Cell h' ms ((AF vr).add (j*1)) (Rs.getD j undef):=λms=>by rw[show Rs.getD j undef=Rs[j] by simp[List.getD,hjR]];exact(hRs.any (ms:=ms)).cell0 hjR Y
  have hlj:=A.red.rl j hjn;refine Ah (Ab (Ac (Ag (Ap (Qx (BG (j) hRs.rd.any Y Ck Cz Y Y) Y (Ql Y AP (cR _) (Qm Y (Gu (Qm Y (Qm Y (Qx (AG Y call95 Y (QK (Rs.getD j undef) (R j) h' hRj ω _)) Y (Aw [_] Y AP A3 Y (by rfl) Y Y ω Y Y Y (λg44=>?_)))))))))))));refine AV 1 hO (RdL.one Bd (x:=AU (R j)) Mh Y) Y AP A3 Y ω Y Y Y B7 (by simp;omega) (by simp;omega) rfl rfl rfl (λvl2 ml2 hO2=>?_);refine Qm Y (Al (Ai (Ab (Ad (Qx (oA Y) Y (Qm Y (Al (AR ?_))))))));exact Ak (S.length-(j+1)) _ ω ⟨j+1,vl2,ml2,Y,Y,l5,Y,ω,by rw[Fc];exact hO2⟩ Qs
 ·obtain rfl:j=S.length:=ω
  refine Aq (Aa (Aa (Af (Ab (Ap (Qm Y (Qm Y (Qm Y (Qm Y (Qm Y (Am (An ?_))))))))))));exact YX Y Y Y Y (⟨AI l1 (AI l2 (AI l24 l5)),gm,S,R,V,vl,ml,Y,Y,hO,⟨gA,mA,bs,vc,vr,vv,Rs,Vs,la,hSg.le l5,hOA,AI lA4 l5,hQ.up l5,hRs,hVs.up l5,lR,lV,λk hk=>(hRR k hk).up l5,λk hk=>(hVV k hk).up l5,A⟩,hperm,hsrt,λa ha=>(hsds a ha).up (AI l24 l5)⟩)
end Go.Proofs.Q
namespace Go.Proofs
open Go.Proofs.Tryz
open Go.Shelf
def Tryz.lays161_ren:Go.Shelf.Ren:=⟨fun|161=>231|231=>271|227=>272|233=>273|235=>274|228=>295|197=>296|151=>297|260=>306|152=>307|137=>310|119=>311|224=>312|225=>313|217=>314|266=>315|n=>n,fun|9=>9|4=>4|3=>3|5=>5|117=>303|116=>302|0=>0|124=>306|105=>329|21=>21|119=>339|46=>223|139=>342|138=>341|n=>n,fun|3=>0|4=>1|n=>n⟩
theorem Tryz.lays161:Go.Proofs.Lays.n161 prog Tryz.lays161_ren:={
 mixed:=by kernel_rfl
 f119:=func311.trans (bf some κ)
 f137:=func310.trans (bf some κ)
 f151:=func297.trans (bf some κ)
 f152:=func307.trans (bf some κ)
 f161:=func231.trans (bf some κ)
 f197:=func296.trans (bf some κ)
 f217:=func314.trans (bf some κ)
 f224:=func312.trans (bf some κ)
 f225:=func313.trans (bf some κ)
 f227:=func272.trans (bf some κ)
 f228:=func295.trans (bf some κ)
 f231:=func271.trans (bf some κ)
 f233:=func273.trans (bf some κ)
 f235:=func274.trans (bf some κ)
 f260:=func306.trans (bf some κ)
 f266:=func315.trans (bf some κ)
 t0:=underlying0
 a0:=isAgg0
 z0:=sizeOf0
 v0:=zeroValue0
 t3:=underlying3
 a3:=isAgg3
 z3:=sizeOf3
 v3:=zeroValue3
 t4:=underlying4
 a4:=isAgg4
 z4:=sizeOf4
 v4:=zeroValue4
 t5:=underlying5
 a5:=isAgg5
 z5:=sizeOf5
 v5:=zeroValue5
 t9:=underlying9
 a9:=isAgg9
 z9:=sizeOf9
 v9:=zeroValue9
 t21:=underlying21
 a21:=isAgg21
 z21:=sizeOf21
 v21:=zeroValue21
 t46:=underlying223
 a46:=isAgg223
 z46:=sizeOf223
 v46:=zeroValue223
 t105:=underlying329
 a105:=isAgg329
 z105:=sizeOf329
 v105:=zeroValue329
 t116:=underlying302
 a116:=isAgg302
 z116:=sizeOf302
 t117:=underlying303
 a117:=isAgg303
 z117:=sizeOf303
 v117:=zeroValue303
 t119:=underlying339
 a119:=isAgg339
 z119:=sizeOf339
 t124:=underlying306
 a124:=isAgg306
 z124:=sizeOf306
 v124:=zeroValue306
 t138:=underlying341
 a138:=isAgg341
 z138:=sizeOf341
 v138:=zeroValue341
 t139:=underlying342
 a139:=isAgg342
 z139:=sizeOf342
 v139:=zeroValue342
 g3:=by kernel_rfl
 g4:=by kernel_rfl }
open Go.RowKit in
theorem Tryz.strings_TrimLeft_one(s:ByteArray)(c:UInt8)(hc:c.toNat<128)(w:World) :
  Calls prog 231 #[.string s,.string ⟨#[c]⟩] w λe w'=>e=.returned (.string ⟨(Lib.trimLeftB s.data.toList c).toArray⟩)/\w'=w:=Any.strings_TrimLeft_one Tryz.lays161 s c hc w
def Tryz.laysNm225_ren:Go.Shelf.Ren:=⟨fun|25=>130|31=>192|32=>193|37=>202|n=>n,fun|22=>22|3=>3|4=>4|40=>223|0=>0|n=>n,fun|n=>n⟩
theorem Tryz.laysNm225:Go.Proofs.Lays2.n25 prog Tryz.laysNm225_ren:={
 mixed:=by kernel_rfl
 f25:=func130.trans (bf some κ)
 f31:=func192.trans (bf some κ)
 f32:=func193.trans (bf some κ)
 f37:=func202.trans (bf some κ)
 t0:=underlying0
 a0:=isAgg0
 z0:=sizeOf0
 v0:=zeroValue0
 t3:=underlying3
 a3:=isAgg3
 z3:=sizeOf3
 v3:=zeroValue3
 t4:=underlying4
 a4:=isAgg4
 z4:=sizeOf4
 v4:=zeroValue4
 t22:=underlying22
 a22:=isAgg22
 z22:=sizeOf22
 v22:=zeroValue22
 t40:=underlying223
 a40:=isAgg223
 z40:=sizeOf223
 v40:=zeroValue223 }
open Go.RowKit Go.Lib in
theorem Tryz.slices_BinarySearch_int(b off n c:Nat)(zs:List Int)(x:Int)(w:World)(hz:n<=zs.length)(hbig:n<4611686018427387904)(hc:∀j,j<zs.length->w.cell? ⟨b,off+j,none⟩=some (.int .i64 (zs.getD j 0)))(hs:(zs.take n).Pairwise (·<=·)) :
  Calls prog 130 #[.slice (some ⟨b,off,none⟩) n c,.w x] w λe w'=>e=.returned (.tuple #[.w ((zs.take n).countP (·<x):Nat),.bool ((zs.take n).contains x)])/\∃q,w'=w.drewN q:=Any.slices_BinarySearch_int Tryz.laysNm225 b off n c zs x w hz hbig hc hs
open Go.RowKit Go.Lib in
theorem Tryz.slices_BinarySearch_int_empty(a:Option Addr)(c:Nat)(x:Int)(w:World) :
  Calls prog 130 #[.slice a 0 c,.w x] w λe w'=>e=.returned (.tuple #[.w 0,.bool false])/\w'=w:=Any.slices_BinarySearch_int_empty Tryz.laysNm225 a c x w
end Go.Proofs

namespace Go.Proofs.Q
open Go.Eng Go.RowKit
structure Br where
 dim:Int
 birth:Int
 death:Int
 opn:Bool
 low:Int
 high:Int
deriving DecidableEq
def JJ(b:Br):List Value:=[.int .i64 b.dim,.int .i64 b.birth,.int .i64 b.death,.bool b.opn,.int .i64 b.low,.int .i64 b.high]
theorem Kw:∀b,(JJ b).length=6:=λ_=>rfl
theorem RW:∀a,∀c∈JJ a,c.oneCell'=true:=λa c hc=>by simp only[JJ,mem_cons,not_mem_nil,or_false]at hc;rcases hc with rfl|rfl|rfl|rfl|rfl|rfl<;>rfl
open Go.Kuhn
theorem Sb(g n:Nat)(hn:n<=9223372036854775807):OwnL cB 1 4 (A8 g 4 (replicate n (Value.bool false))) (.slice (some ⟨g,0,none⟩) n n) (replicate n false):=
 ⟨⟨by rw[<-Ro];simp,.inr ⟨g,n,[],by simp,by rw[<-Ro];simp,by rw[<-Ro];simp,by simp,hn⟩⟩,AaH⟩
def put(x:Int):List Int->List Int
 | []=>[x]
 | y::l=>if y<=x then y::put x l else x::y::l
def Br.at(dim t:Int)(b:Br):Bool:=decide (b.dim=dim)&&decide (b.birth<=t)&&(b.opn||decide (t<b.death))
def fb(a b:Int):Br:=⟨1,a,b,false,0,0⟩
end Go.Proofs.Q
