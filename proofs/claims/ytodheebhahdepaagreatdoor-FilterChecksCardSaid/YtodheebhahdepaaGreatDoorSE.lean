/- A part of the proof. -/
import Derived.Test.YtodheebhahdepaaGreatDoorSD
import Derived.Shelf.SlGeneric
import Derived.Ground.SlsfProg
import Derived.Shelf.SlSortCmp.WholeK
import Derived.Shelf.SlSortCmp.NoneTotal
import Derived.Test.YtodheebhahdepaaGreatDoorProg
import Derived.Shelf.Strings.Trim
import Derived.Shelf.Small.Utf8
import Derived.Shelf.Small.Bits
import Derived.Shelf.Small.Strs
import Derived.Shelf.Small.Wraps
import Derived.Shelf.Strconv.Itoa0
import Derived.Shelf.Strings.Search1
import Derived.Shelf.Sort.Plain
import Derived.Shelf.Unicode.Decode
import Derived.Shelf.Strings.Runes
import Derived.Shelf.Strings.AsciiSet
import Derived.Shelf.Bits.Mul64
import Derived.Shelf.Unicode.DecodeSlow
import Derived.Shelf.Unicode.DecodeAny
import Derived.Shelf.Slices.Equal
import Derived.Ground.Names2Prog
import Derived.Shelf.Slices.Clone
import Derived.Shelf.Slices.CompactI
import Derived.Shelf.Slices.SearchI
import Derived.Shelf.Slices.Cells
import Derived.Shelf.Slices.In.SortNone
import Derived.Shelf.Slices.Empties
import Derived.Shelf.Slices.Empties2
import Derived.Ground.SlgnProg
import Derived.Shelf.SlicesE.Clone
import Derived.Sort.OwnSortedInts
import Derived.Lib.SlicesCompact
set_option linter.unusedSimpArgs false
set_option linter.unusedVariables false
set_option linter.unusedSectionVars false
set_option maxRecDepth 100000
set_option maxHeartbeats 4000000

open List (length_map length_singleton getElem_mem replicate range length_append nil_append length_take mem_cons cons_append map_append append_nil map_map map_cons length_set getElem_of_mem take_length length_range not_mem_nil)
namespace Go.Proofs.Q
open Go.Proofs.Tryz
open Go.Eng Go.RowKit
theorem HH(w:World):(zeroValue 3).run Tryz.prog w=.ok (kN 0) w:=by rfl
structure YL(U:List Cl)(x:Cl):Prop where
 n:x.sd.length<=64
 p:0<x.sd.length
 m:∀i,i<x.sd.length->(Gg U (Bp x i).1).sd.length<=64
 s:∀s∈x.sd,BH s.1/\(s.2=1\/s.2=-1)
 t:∀i,i<x.sd.length->∀r∈(Gg U (Bp x i).1).sd,BH r.1/\(r.2=1\/r.2=-1)
theorem Xl{ν:Type}(T:List (Int×ν))(a:Int)(x:ν):(C4 T a x).length<=T.length+1:=by
 unfold C4;split
 ·rw[length_map];omega
 ·simp
theorem Sc:∀E:FV,(FG E).length<=E.length:=C6 (by simp[FG]) fun E e ih=>by rw[FU,length_append,length_singleton];have:=Xl (FG E) e.2.1 ((Bi (FG E) e.2.1).getD []++[e.1]);omega
theorem NB{U:List Cl}{x:Cl}{m:Nat}{e:Int×Int×Int}(h:e∈Ju U x m):∃i,i<m/\∃r∈(Gg U (Bp x i).1).sd,e=((i:Int),r.1,(Bp x i).2*r.2):=by unfold Ju at h;obtain⟨i,hi,h⟩:=List.mem_flatMap.1 h;obtain⟨r,hr,rfl⟩:=List.mem_map.1 h;exact⟨i,List.mem_range.1 hi,r,hr,rfl⟩
theorem Aaa{U:List Cl}{x:Cl}(K:YL U x){m:Nat}(hm:m<=x.sd.length){e:Int×Int×Int}(h:e∈Ju U x m):e.2.2=1\/e.2.2=-1:=by
 obtain⟨i,hi,r,hr,rfl⟩:=NB h;have hi':i<x.sd.length:=by omega
 have h1:=(K.t i hi' r hr).2;have h2:=(K.s (Bp x i) (by rw[Bj hi'];exact getElem_mem hi')).2;show(Bp x i).2*r.2=1\/(Bp x i).2*r.2=-1;rcases h1 with h1|h1<;>rcases h2 with h2|h2<;>rw[h1,h2]<;>decide
theorem SG(U:List Ce)(x:Ce)(g:Nat)(hp:Hp)(hT:RdT hp g U)(hX:RdL cD 2 hp [] x.v x.c.sd)(hK:YL (U.map Ce.c) x.c):FnT Tryz.prog 77 #[.pointer (some ⟨g,0,none⟩),.agg (cC x).toArray] hp [] (fun r _ _=>r=.int .i64 (Wb (Ju (U.map Ce.c) x.c x.c.sd.length) x.c.sd.length)):=by
 have o2:=hX.rd.one;show FnT _ _ #[.pointer (some ⟨g,0,none⟩),.agg #[.int .i64 x.c.id,.int .i64 x.c.dim,x.v]] _ _ _;refine Ap func77 ntmps77 rfl rfl (fun w0 hw0=>?_);simp only[AX];refine As (AV [_,_,_] rfl rfl (by rfl) rfl rfl rfl (fun g3=>Qm rfl (Am (AC fun h1 l1 hS=>?_))));obtain⟨gm,mMt,bst,vids,hSg,hMt,lmt,hVt,hsU⟩:=hT.up l1;have hX:=hX.up l1;have hA:=Seg.all hS;have a2:∀ms,Cell h1 ms (⟨g3,2,none⟩:Addr) x.v:=fun ms=>hA 2 _ rfl ms;have eT:∀ms,Cell h1 ms (⟨g,0,none⟩:Addr) (.map (some gm)):=fun ms=>Seg.all hSg 0 _ rfl ms;have hn64:=hK.n;refine As (C3 (K:=kN) (V:=kN) (Ok:=BH) rfl rfl rfl rfl (fun gA mA hA0=>C3 (K:=kN) (V:=Ly) (Ok:=BH) rfl rfl rfl rfl (fun gB mM hB0=>Qm rfl (Qm rfl (Am (DZ 1 rfl (BJ ?_)))))));have hMS0:=OwnMS.start hB0;refine A9 (fun sl h' ms'=>∃(mB mA mM:Hp) (bs:List Nat),sl=[(3,.pointer (some ⟨g3,0,none⟩)),(5,.map (some gA)),(6,.map (some gB))]/\h1.le h'/\ms'=[mB,mA,mM]/\CO kN kN gA BH mA (CQ (Ju (U.map Ce.c) x.c x.c.sd.length)) bs/\OwnMS gB mM mB (FG (Ju (U.map Ce.c) x.c x.c.sd.length))) ?_ (fun s h ms hI=>?_)
 ·refine Ac (Ad (Qf BB rfl (Ql rfl BZ (a2 _) (Qx (Ar hX.rd.any rfl BZ rfl) rfl (Qm rfl (Am (Ag ?_)))))))
  refine Ay (fun q sl h' ms'=>∃(i:Nat) (mB mA mM:Hp) (bs:List Nat),q=x.c.sd.length-i/\sl=[(0,.pointer (some ⟨g,0,none⟩)),(3,.pointer (some ⟨g3,0,none⟩)),(5,.map (some gA)),(6,.map (some gB)),(21,x.v),(22,.int .i64 x.c.sd.length),(23,.int .i64 i)]/\h1.le h'/\ms'=[mB,mA,mM]/\i<=x.c.sd.length/\CO kN kN gA BH mA (CQ (Ju (U.map Ce.c) x.c i)) bs/\OwnMS gB mM mB (FG (Ju (U.map Ce.c) x.c i)))
   (x.c.sd.length-0) _ ⟨0,Hp.emp,mA,mM,[],rfl,rfl,C9,rfl,by omega,hA0,hMS0⟩ Qs ?_
  rintro q sl h2 ms' ⟨i,mB,mA,mM,bs,rfl,rfl,l2,rfl,hi,hOA,hMS⟩;have hX:=hX.up l2;refine As (Qm rfl (Am (Ac ?_)));refine Aq rfl (fun hlt=>?_) (fun hlt=>?_)
  ·have hil:i<x.c.sd.length:=by omega
   obtain⟨s,hs⟩:∃s,x.c.sd[i]=s:=⟨_,rfl⟩
   have hsm:s∈x.c.sd:=by rw[<-hs];exact getElem_mem hil
   have hsA:Bp x.c i=s:=by rw[Bj hil,hs]
   have hsI:=hK.s s hsm;obtain⟨y,hy⟩:∃y,(Bi (Fs U) s.1).getD default=y:=⟨_,rfl⟩
   have hyc:Gg (U.map Ce.c) s.1=y.c:=by rw[<-Iw,hy]
   have hyR:=QR hsU s.1;rw[hy]at hyR;have hyR:=hyR.up l2;have oyv:=hyR.rd.one;have y64:=hK.m i hil;have yt:=hK.t i hil;rw[hsA,hyc]at y64 yt;have hE:=Nx (U.map Ce.c) x.c hK.m i hi;have hEs:∀e∈Ju (U.map Ce.c) x.c i,e.2.2=1\/e.2.2=-1:=fun e he=>Aaa hK hi he
   have hsucc:Ju (U.map Ce.c) x.c (i+1)=Ju (U.map Ce.c) x.c i++y.c.sd.map fun r=>((i:Int),r.1,s.2*r.2):=by rw[OB];unfold Uz;rw[hsA,hyc]
   obtain⟨E,hEe⟩:∃E,Ju (U.map Ce.c) x.c i=E:=⟨_,rfl⟩
   rw[hEe]at hOA hMS hE hEs hsucc;have hsx:∀ms,Seg h2 ms ((AF x.v).add (i*2)) (cD s):=fun ms=>by rw[<-hs];exact(hX.any (ms:=ms)).seg hil
   refine Ah (Ab ?_);refine A9 (fun sl h' ms'=>∃(mB mA mM:Hp) (bs:List Nat),sl=[(0,.pointer (some ⟨g,0,none⟩)),(3,.pointer (some ⟨g3,0,none⟩)),(5,.map (some gA)),(6,.map (some gB)),(21,x.v),(22,.int .i64 x.c.sd.length),(23,.int .i64 i)]/\h2.le h'/\ms'=[mB,mA,mM]/\CO kN kN gA BH mA (CQ (Ju (U.map Ce.c) x.c (i+1))) bs/\OwnMS gB mM mB (FG (Ju (U.map Ce.c) x.c (i+1)))) ?_ (fun s h ms hI=>?_)
   ·refine Ag (As (Qm rfl (Qx (BF (i) hX.rd.any rfl BZ AM rfl rfl) rfl (Qx (oG rfl DX AM (hsx _)) rfl (Cz [.int .i64 0,.int .i64 0] rfl AM rfl rfl (fun g8=>Qm rfl ?_))))));refine Sa 0 [_,_] AM rfl (by simp[Value.oneCell']) ?_;refine Am (AC fun h3 l3 hS8=>?_);have e80:∀ms,Cell h3 ms (⟨g8,0,none⟩:Addr) (.int .i64 s.1):=fun ms=>Seg.all hS8 0 _ rfl ms;have e81:∀ms,Cell h3 ms (⟨g8,1,none⟩:Addr) (.int .i64 s.2):=fun ms=>Seg.all hS8 1 _ rfl ms;have l13:=AJ l2 l3;have eT:∀ms,Cell h3 ms (⟨g,0,none⟩:Addr) (.map (some gm)):=fun ms=>(eT ms).le l13;have hyR:=hyR.up l3;refine Ac (Bc 10 CS (by kernel_rfl) rfl (Wm rfl (Wm rfl (Wf E4 rfl (Wl rfl GJ (eT _) (Wf B6 rfl (Wl rfl U3 (e80 _) (AR (Cf (V:=vC) (z:=(default:Ce)) s.1 hy Bs hMt (AJ lmt l13) rfl GJ KR rfl rfl hsI.1) rfl rfl (AR (DD rfl Ef rfl BZ rfl rfl rfl) rfl rfl (AR (Ar hyR.rd.any rfl BZ rfl) rfl rfl (Wm rfl (AY (Am (Ag ?_))))))))))))))
    refine Ay (fun q sl h' ms'=>∃(k:Nat) (mB mA mM:Hp) (bs:List Nat),q=y.c.sd.length-k/\sl=[(0,.pointer (some ⟨g,0,none⟩)),(3,.pointer (some ⟨g3,0,none⟩)),(5,.map (some gA)),(6,.map (some gB)),(7,.int .i64 i),(8,.pointer (some ⟨g8,0,none⟩)),(21,x.v),(22,.int .i64 x.c.sd.length),(23,.int .i64 i),(35,y.v),(36,.int .i64 y.c.sd.length),(37,.int .i64 k)]/\h3.le h'/\ms'=[mB,mA,mM]/\k<=y.c.sd.length/\CO kN kN gA BH mA (CQ (E++(y.c.sd.take k).map fun r=>((i:Int),r.1,s.2*r.2))) bs/\OwnMS gB mM mB (FG (E++(y.c.sd.take k).map fun r=>((i:Int),r.1,s.2*r.2))))
     (y.c.sd.length-0) _ ⟨0,mB,mA,mM,bs,rfl,rfl,C9,rfl,by omega,by simpa using hOA,by simpa using hMS⟩ Qs ?_
    rintro q sl h4 ms' ⟨k,mB,mA,mM,bs,rfl,rfl,l4,rfl,hk,hOA,hMS⟩;have hyR:=hyR.up l4;have e81:∀ms,Cell h4 ms (⟨g8,1,none⟩:Addr) (.int .i64 s.2):=fun ms=>(e81 ms).le l4;refine As (Qm rfl (Am (Ac ?_)));refine Aq rfl (fun hlk=>?_) (fun hlk=>?_)
    ·have hkl:k<y.c.sd.length:=by omega
     obtain⟨r,hr⟩:∃r,y.c.sd[k]=r:=⟨_,rfl⟩
     have hrm:r∈y.c.sd:=by rw[<-hr];exact getElem_mem hkl
     have hrI:=yt r hrm;have hsr:∀ms,Seg h4 ms ((AF y.v).add (k*2)) (cD r):=fun ms=>by rw[<-hr];exact(hyR.any (ms:=ms)).seg hkl
     have hF':(E++(y.c.sd.take (k+1)).map fun r=>((i:Int),r.1,s.2*r.2))=(E++(y.c.sd.take k).map fun r=>((i:Int),r.1,s.2*r.2))++[((i:Int),r.1,s.2*r.2)]:=by rw[List.take_succ_eq_append_getElem hkl,map_append,hr,List.append_assoc];rfl
     have hFl:(E++(y.c.sd.take k).map fun r=>((i:Int),r.1,s.2*r.2)).length<=4200:=by rw[length_append,length_map,length_take];omega
     have hmu:s.2*r.2=1\/s.2*r.2=-1:=by rcases hsI.2 with e|e<;>rcases hrI.2 with e'|e'<;>rw[e,e']<;>decide
     have hFs:∀e∈E++(y.c.sd.take k).map (fun r=>((i:Int),r.1,s.2*r.2)),e.2.2=1\/e.2.2=-1:=fun e he=>by
      rcases List.mem_append.1 he with he|he
      ·exact hEs e he
      ·obtain⟨r',hr',rfl⟩:=List.mem_map.1 he;have hrI':=yt r' (List.mem_of_mem_take hr');show s.2*r'.2=1\/s.2*r'.2=-1;rcases hsI.2 with e|e<;>rcases hrI'.2 with e'|e'<;>rw[e,e']<;>decide
     obtain⟨F,hF⟩:∃F,E++(y.c.sd.take k).map (fun r=>((i:Int),r.1,s.2*r.2))=F:=⟨_,rfl⟩
     rw[hF]at hOA hMS hFl hFs hF';obtain⟨v0,hv0⟩:∃v0,(Bi (CQ F) r.1).getD 0=v0:=⟨_,rfl⟩
     have hb0:=ZA F r.1 hFs;rw[<-Je,hv0]at hb0;have hs1:=Gz F ((i:Int),r.1,s.2*r.2);have hm1:=FU F ((i:Int),r.1,s.2*r.2);simp only at hs1 hm1;rw[hv0]at hs1;refine Ah (Ab ?_);refine A9 (fun sl h' ms'=>∃(mB mA mM:Hp) (bs:List Nat),sl=[(0,.pointer (some ⟨g,0,none⟩)),(3,.pointer (some ⟨g3,0,none⟩)),(5,.map (some gA)),(6,.map (some gB)),(7,.int .i64 i),(8,.pointer (some ⟨g8,0,none⟩)),(21,x.v),(22,.int .i64 x.c.sd.length),(23,.int .i64 i),(35,y.v),(36,.int .i64 y.c.sd.length),(37,.int .i64 k)]/\h4.le h'/\ms'=[mB,mA,mM]/\CO kN kN gA BH mA (CQ (F++[((i:Int),r.1,s.2*r.2)])) bs/\OwnMS gB mM mB (FG (F++[((i:Int),r.1,s.2*r.2)]))) ?_ (fun s h ms hI=>?_)
     ·refine Ag (As (Qx (BF (k) hyR.rd.any rfl BZ AM rfl rfl) rfl (Qx (oG rfl DX AM (hsr _)) rfl (Cz [.int .i64 0,.int .i64 0] rfl AM rfl rfl (fun g10=>?_)))));refine Sa 0 [_,_] AM rfl (by simp[Value.oneCell']) ?_;refine Am (AC fun h5 l5 hS10=>?_);have e81:∀ms,Cell h5 ms (⟨g8,1,none⟩:Addr) (.int .i64 s.2):=fun ms=>(e81 ms).le l5;have ea0:∀ms,Cell h5 ms (⟨g10,0,none⟩:Addr) (.int .i64 r.1):=fun ms=>Seg.all hS10 0 _ rfl ms;have ea1:∀ms,Cell h5 ms (⟨g10,1,none⟩:Addr) (.int .i64 r.2):=fun ms=>Seg.all hS10 1 _ rfl ms;refine As (Qm rfl (Qf B6 rfl (Ql rfl U3 (ea0 _) (Qx (DO (V:=kN) (z:=(0:Int)) r.1 hv0 Bs hOA (by simp) rfl Lw HH rfl rfl hrI.1) rfl (Qf Dn rfl (Ql rfl U3 (e81 _) (Qf Dn rfl (Ql rfl U3 (ea1 _) (Qx (oM rfl) rfl (Qx (oA rfl) rfl (BU (V:=kN) (z:=undef) 1 r.1 (v0+s.2*r.2) Bs hOA rfl rfl Lw rfl rfl rfl hrI.1 rfl rfl (fun mA' bs' hOA'=>?_))))))))))));rw[<-hs1]at hOA';refine Am ?_;obtain⟨Tv,bv,v,m1,m2,hO,hv,rfl,hd,hO1,close⟩:=hMS.open r.1;refine Hl hd ?_;obtain⟨L,hL⟩:∃L,(Bi (FG F) r.1).getD []=L:=⟨_,rfl⟩
      have hLl:L.length<=4200:=by rw[<-hL,Pm,length_map];exact Nat.le_trans (List.length_filter_le _ _) hFl
      rw[hL]at hO1 hm1;have ov:=hO1.o1;refine BG (n:=11) (bs:=[true,true,true,true,true,true,false,true,false,false,false]) [true,true,true,true,true,true,false,true] CS (by kernel_rfl) (by kernel_rfl) rfl rfl (Qq rfl (QF B6 rfl (QL rfl U3 (ea0 _) (Qq rfl (QF B6 rfl (QL rfl U3 (ea0 _) (Qq rfl ?_)))))));unfold Ft;simp only[cons_append,nil_append];refine A4 [6,8] (by kernel_rfl) rfl ?_;refine AA rfl ?_ ?_
      ·refine Qx (DO (V:=Ly) (z:=(Value.slice none 0 0)) r.1 hv Bs hO (by simp) rfl Gl KN rfl rfl hrI.1) rfl (Qw (Qo 8 rfl (Ao [_] rfl AU A6 rfl (by rfl) rfl rfl (by omega) rfl rfl rfl (fun g59=>Qw (Qo 9 rfl (AO 1 hO1 (RdL.one Bg (x:=(i:Int)) Mh rfl) rfl AU A6 rfl (by omega) rfl rfl rfl Cb (by(try simp only[length_singleton]);omega) (by(try simp only[length_singleton]);omega) rfl rfl rfl (fun v9 m9 hO9=>?_)))))));have ov9:=hO9.o1;refine Qw (Qo 10 rfl (BU (V:=Ly) (z:=undef) 4 r.1 v9 Bs hO rfl rfl Gl rfl rfl rfl hrI.1 rfl rfl (fun mM' bs2 hM'=>Qw (Qe (AN (D9 fun hap=>(Ex ?_)))))));have hdj:=(List.pairwise_cons.1 hap).1 _ Mh;have hMS':=close v9 _ m9 mM' bs2 hdj hO9 hM';rw[<-hm1]at hMS';refine Ai ?_;exact AD _ ⟨_,mA',mM',bs',rfl,l5,rfl,hOA',hMS'⟩ Qs
      refine AA rfl ?_ ?_
      ·refine Ao [_] rfl AU A6 rfl (by rfl) rfl rfl (by omega) rfl rfl rfl (fun g59=>Qw (Qo 6 rfl (Qx (DO (V:=Ly) (z:=(Value.slice none 0 0)) r.1 hv Bs hO (by simp) rfl Gl KN rfl rfl hrI.1) rfl (Qw (Qo 9 rfl (AO 1 hO1 (RdL.one Bg (x:=(i:Int)) Mh rfl) rfl AU A6 rfl (by omega) rfl rfl rfl Cb (by(try simp only[length_singleton]);omega) (by(try simp only[length_singleton]);omega) rfl rfl rfl (fun v9 m9 hO9=>?_)))))));have ov9:=hO9.o1;refine Qw (Qo 10 rfl (BU (V:=Ly) (z:=undef) 4 r.1 v9 Bs hO rfl rfl Gl rfl rfl rfl hrI.1 rfl rfl (fun mM' bs2 hM'=>Qw (Qe (AN (D9 fun hap=>(Ex ?_)))))));have hdj:=(List.pairwise_cons.1 hap).1 _ Mh;have hMS':=close v9 _ m9 mM' bs2 hdj hO9 hM';rw[<-hm1]at hMS';refine Ai ?_;exact AD _ ⟨_,mA',mM',bs',rfl,l5,rfl,hOA',hMS'⟩ Qs
      exact A5
     ·obtain⟨mB,mA,mM,bs,rfl,k4,rfl,hOA,hMS⟩:=hI;rw[<-hF']at hOA hMS;refine Ad (Qx (oA rfl) rfl (Qm rfl (Ak ?_)));exact Al (y.c.sd.length-(k+1)) _ (by omega) ⟨k+1,mB,mA,mM,bs,rfl,rfl,AJ l4 k4,rfl,by omega,hOA,hMS⟩ Qs
    ·obtain rfl:k=y.c.sd.length:=by omega
     rw[take_length,<-hsucc]at hOA hMS;refine Av (Aa (Aa (Af (Ai ?_))));exact AD _ ⟨mB,mA,mM,bs,rfl,AJ l3 l4,rfl,hOA,hMS⟩ Qs
   ·obtain⟨mB,mA,mM,bs,rfl,k2,rfl,hOA,hMS⟩:=hI;refine Ad (Qx (oA rfl) rfl (Qm rfl (Ak ?_)));exact Al (x.c.sd.length-(i+1)) _ (by omega) ⟨i+1,mB,mA,mM,bs,rfl,rfl,AJ l2 k2,rfl,by omega,hOA,hMS⟩ Qs
  ·obtain rfl:i=x.c.sd.length:=by omega
   refine Av (Aa (Aa (Af ?_)));exact AD _ ⟨mB,mA,mM,bs,rfl,l2,rfl,hOA,hMS⟩ Qs
 ·obtain⟨mB,mA,mM,bs,rfl,l2,rfl,hOA,hMS⟩:=hI;have hEl:=Nx (U.map Ce.c) x.c hK.m x.c.sd.length (Nat.le_refl _)
  have hEi:∀e∈Ju (U.map Ce.c) x.c x.c.sd.length,0<=e.1/\e.1<x.c.sd.length:=fun e he=>by obtain⟨i,hi,r,_,rfl⟩:=NB he;exact⟨by show 0<=(i:Int);omega,by show(i:Int)<_;omega⟩
  obtain⟨E,hE⟩:∃E,Ju (U.map Ce.c) x.c x.c.sd.length=E:=⟨_,rfl⟩
  rw[hE]at hOA hMS hEl hEi ⊢;refine Bq fun h2 k2 fB=>(Bq fun h3 k3 fA=>(Bq fun h4 k4 fM=>?_))
  have lB:=AJ fB (AJ k3 k4);have lA:=AJ fA k4;have lh4:=AJ l2 (AJ k2 (AJ k3 k4));refine A9 (fun sl h' ms'=>sl=[(3,.pointer (some ⟨g3,0,none⟩)),(6,.map (some gB))]/\h4=h'/\ms'=[]/\∀e∈E,D1 E e.2.1=0) ?_ (fun s h ms hI=>?_)
  ·refine Ac (Ad (Qm rfl (Jf hOA lA rfl Lw rfl rfl rfl rfl (fun gi mi0 I0=>Am (Ag ?_)))))
   refine Ay (fun q sl h' ms'=>∃(vis:List Nat) (mi:Hp),q=(CQ E).length-vis.length/\sl=[(3,.pointer (some ⟨g3,0,none⟩)),(6,.map (some gB)),(64,.pointer (some ⟨gi,0,none⟩))]/\h4=h'/\ms'=[mi]/\HI gi gA mA mi bs vis/\∀j (hj:j<(CQ E).length),j∈vis->(CQ E)[j].2=0)
    ((CQ E).length-0) _ ⟨[],mi0,rfl,rfl,rfl,rfl,I0,fun j hj h=>nomatch h⟩ Qs ?_
   rintro q sl h' ms' ⟨vis,mi,rfl,rfl,rfl,rfl,I,hz⟩;refine As ?_;refine Lg 0 hOA I lA rfl rfl rfl rfl rfl rfl (fun hall=>?_) (fun j hj mi' hjv I'=>?_)
   ·refine Qm rfl (Am (Ac (AP rfl (Av (Aa (Aa (Af ?_)))))))
    have hzero:∀e∈E,D1 E e.2.1=0:=fun e he=>by obtain⟨l,v,hl⟩:=GQ ((Ln e.2.1 E).2 ⟨e,he,rfl⟩);rw[<-Je,D5 (Sf E) hl];obtain⟨h1,h2⟩:=List.getElem?_eq_some_iff.1 hl;have:=hz l h1 (hall l h1);rw[h2]at this;exact this
    refine A8 0 rfl ?_;exact AD _ ⟨rfl,rfl,rfl,hzero⟩ Qs
   ·have hTj:(CQ E)[j].2=D1 E (CQ E)[j].1:=by have hg:(CQ E)[j]?=some ((CQ E)[j].1,(CQ E)[j].2):=List.getElem?_eq_getElem hj;rw[<-Je,D5 (Sf E) hg];rfl
    refine Qm rfl (Am (Ac (BE rfl (Ah (Ab (Ag (As (Qx (Jo hOA I' lA (by simp) hj rfl rfl) rfl (Qm rfl (Qm rfl (BK (Qm rfl (Qm rfl (Am ?_))))))))))))));refine Aq rfl (fun hne=>?_) (fun hne=>?_)
    ·have h24:Wb E x.c.sd.length=24:=by unfold Wb;rw[if_pos fun w=>?_];obtain⟨e,he,h1⟩:=(Ln (CQ E)[j].1 E).1 (List.mem_map.2 ⟨_,getElem_mem hj,rfl⟩);have:=w e he;rw[h1,<-hTj]at this;exact hne this
     refine As (Qm rfl (Am (An (Aj (Ae (Aj (Ae ?_)))))));exact Az rfl rfl (by rw[h24])
    ·refine Ah (Ai ?_);refine Al ((CQ E).length-(vis.length+1)) _ ?_ ⟨vis++[j],mi',by simp,rfl,rfl,rfl,I',fun i hi' hv=>?_⟩ Qs
     ·have hlt:vis.length<(CQ E).length:=by
       have h1:=Go.Kuhn.nodup_le (vis++[j]) (range (CQ E).length) I'.nodup fun x hx=>by rw[List.mem_range,<-hOA.len];exact I'.lt x hx
       simp at h1;omega
      omega
     ·rcases List.mem_append.1 hv with hv|hv
      ·exact hz i hi' hv
      ·simp at hv;subst hv;exact Classical.not_not.1 hne
  ·obtain⟨rfl,rfl,rfl,hzero⟩:=hI;obtain⟨Tv,bv,hOv,hKv,hRv,hRa⟩:=hMS.look lB;obtain⟨M,hM⟩:∃M,FG E=M:=⟨_,rfl⟩
   have hMn:=Z1 E;have hMk:=fun c=>SX c E;have hMg:=fun c=>Pm c E;rw[hM]at hKv hRv hRa hMn hMk hMg;have hTl:Tv.length=M.length:=by have:=congrArg List.length hKv;simpa using this
   refine As (C3 (K:=kN) (V:=Ly) (Ok:=BH) rfl rfl rfl rfl (fun gJ mJ hJ0=>Cz [.map none] rfl Zm rfl rfl (fun g13=>AS 0 0 rfl Zm rfl rfl (by rfl) rfl rfl (by decide) rfl rfl (Am (AC fun h5 k5 hS13=>?_)))));have e13:∀ms,Cell h5 ms (⟨g13,0,none⟩:Addr) (.map (some gJ)):=fun ms=>Seg.all hS13 0 _ rfl ms;refine BJ ?_;have hJS0:=OwnMS.start hJ0;have fM5:=AJ fM k5
   let pr:Nat->Int×Int:=fun j=>(((M.getD j (0,[])).2).getD 0 0,((M.getD j (0,[])).2).getD 1 0)
   refine A9 (fun sl h' ms'=>∃(vis:List Nat) (mJB mJ:Hp),sl=[(3,.pointer (some ⟨g3,0,none⟩)),(13,.pointer (some ⟨g13,0,none⟩))]/\h5=h'/\ms'=[mJB,mJ]/\OwnMS gJ mJ mJB (EB (vis.map pr))/\vis.length<=M.length/\(∀j,j∈vis->j<M.length)/\(∀j,j<M.length->j∈vis)/\∀j (hj:j<M.length),M[j].2.length=2) ?_ (fun s h ms hI=>?_)
   ·refine Ac (Ad (Qm rfl (Jf hOv fM5 rfl Gl rfl rfl rfl rfl (fun gi mi0 I0=>Am (Ag (DZ 1 rfl ?_))))))
    refine Ay (fun q sl h' ms'=>∃(vis:List Nat) (mi mJB mJ:Hp),q=M.length-vis.length/\sl=[(3,.pointer (some ⟨g3,0,none⟩)),(13,.pointer (some ⟨g13,0,none⟩)),(73,.pointer (some ⟨gi,0,none⟩))]/\h5=h'/\ms'=[mJB,mi,mJ]/\HI gi gB mM mi bv vis/\OwnMS gJ mJ mJB (EB (vis.map pr))/\∀j (hj:j<M.length),j∈vis->M[j].2.length=2)
     (M.length-0) _ ⟨[],mi0,Hp.emp,mJ,rfl,rfl,rfl,rfl,I0,hJS0,fun j hj h=>nomatch h⟩ Qs ?_
    rintro q sl h' ms' ⟨vis,mi,mJB,mJ,rfl,rfl,rfl,rfl,I,hJS,hz⟩
    have hvl:∀{w:List Nat} {m':Hp},HI gi gB mM m' bv w->w.length<=M.length/\∀j,j∈w->j<M.length:=fun {w m'} I=>by
     have hlt:∀x∈w,x<M.length:=fun x hx=>by rw[<-hTl,<-hOv.len];exact I.lt x hx
     have h1:=Go.Kuhn.nodup_le w (range M.length) I.nodup fun x hx=>List.mem_range.2 (hlt x hx);rw[length_range]at h1;exact⟨h1,hlt⟩
    refine As ?_;refine Lg 1 hOv I fM5 rfl rfl rfl rfl rfl rfl (fun hall=>?_) (fun j hj mi' hjv I'=>?_)
    ·refine Qm rfl (Am (Ac (AP rfl (Av (Aa (Aa (Af (A8 1 rfl ?_))))))));exact AD _ ⟨vis,mJB,mJ,rfl,rfl,rfl,hJS,(hvl I).1,(hvl I).2,fun j hj=>hall j (by omega),fun j hj=>hz j hj (hall j (by omega))⟩ Qs
    ·have hjM:j<M.length:=by omega
     have hRj:=(hRv j hj hjM).2.up k5
     have hcj:(Bi M M[j].1).getD []=M[j].2:=by have hg:M[j]?=some (M[j].1,M[j].2):=List.getElem?_eq_getElem hjM;rw[D5 hMn hg];rfl
     have hcE:=hMg M[j].1;rw[hcj]at hcE;obtain⟨v,hv⟩:∃v,Tv[j].2=v:=⟨_,rfl⟩
     obtain⟨L,hL⟩:∃L,M[j].2=L:=⟨_,rfl⟩
     rw[hv,hL]at hRj;have ov:=hRj.rd.one;have hLl:L.length<=4200:=by rw[<-hL,hcE,length_map];exact Nat.le_trans (List.length_filter_le _ _) (by omega)
     refine Qm rfl (Am (Ac (BE rfl (Ah (Ab (Ag (As (Qx (Jo hOv I' fM5 (by simp) hj rfl rfl) rfl ?_))))))));rw[hv];refine Qm rfl (Qm rfl (Am (Ac (As (Qm rfl (Qx (Ar hRj.rd.any rfl AU rfl) rfl (Qm rfl (Am ?_))))))));refine Aq rfl (fun hne=>?_) (fun hne=>?_)
     ·have h25:Wb E x.c.sd.length=25:=by unfold Wb;rw[if_neg (fun w=>w hzero),if_pos fun w=>?_];obtain⟨e,he,h1⟩:=(hMk M[j].1).1 (List.mem_map.2 ⟨_,getElem_mem hjM,rfl⟩);have:=w e he;rw[h1,H4,<-length_map (f:=fun e:Int×Int×Int=>e.1),<-hcE,hL]at this;exact hne (by omega)
      refine As (Qm rfl (Am (An (Ae (Aj (Ae (Aj (Ae ?_))))))));exact Az rfl rfl (by rw[h25])
     ·have hL2:L.length=2:=by omega
      obtain⟨a,b,rfl⟩:∃a b,L=[a,b]:=by
       match L,hL2 with
       | [a,b],_=>exact⟨a,b,rfl⟩
      have hin:∀k∈[a,b],0<=k/\k<x.c.sd.length:=fun k hk=>by rw[<-hL,hcE]at hk;obtain⟨e,he,rfl⟩:=List.mem_map.1 hk;exact hEi e (List.mem_filter.1 he).1
      have ha:=hin a Mh;have hb:=hin b (List.mem_cons_of_mem _ Mh);have haI:BH a:=by unfold BH;omega
      have hbI:BH b:=by unfold BH;omega
      have hprj:pr j=(a,b):=by
       simp only[pr];have:M.getD j (0,[])=M[j]:=by simp[List.getD,hjM]
       rw[this,hL];rfl
      have hMl:M.length<=4200:=by rw[<-hM];have:=Sc E;omega
      have hPl:(vis.map pr).length<=4200:=by rw[length_map];have:=(hvl I).1;omega
      have hjl:=LX (vis.map pr);have hsn:EB ((vis++[j]).map pr)=EU (EU (EB (vis.map pr)) a b) b a:=by rw[map_append,List.map_singleton,H6,hprj]
      have hj1:=I7 (EB (vis.map pr)) a b _ hjl;obtain⟨T0,hT0⟩:∃T0,EB (vis.map pr)=T0:=⟨_,rfl⟩
      rw[hT0]at hJS hjl hsn hj1;have ca:∀ms,Cell h5 ms ((AF v).add (0*1)) (.int .i64 a):=fun ms=>(hRj.any (ms:=ms)).cell0 (j:=0) (by simp) rfl;have cb:∀ms,Cell h5 ms ((AF v).add (1*1)) (.int .i64 b):=fun ms=>(hRj.any (ms:=ms)).cell0 (j:=1) (by simp) rfl;refine Ah (Ab ?_);obtain⟨Tv1,bv1,u,m1,m2,hO,hu,rfl,hd,hO1,close⟩:=hJS.open a;refine Hl hd ?_;obtain⟨L0,hL0⟩:∃L0,(Bi T0 a).getD []=L0:=⟨_,rfl⟩
      have hL0l:L0.length<=10000:=by rw[<-hL0];have:=hjl a;omega
      rw[hL0]at hO1;have hjeq:EU T0 a b=C4 T0 a (L0++[b]):=by unfold EU;rw[hL0]
      have ou:=hO1.o1;refine A9 (fun sl h' ms'=>∃(mJB mJ:Hp),sl=[(3,.pointer (some ⟨g3,0,none⟩)),(13,.pointer (some ⟨g13,0,none⟩)),(15,v),(73,.pointer (some ⟨gi,0,none⟩))]/\h5=h'/\ms'=[mJB,mi',mJ]/\OwnMS gJ mJ mJB (EU T0 a b)) ?_ (fun s h ms hI=>?_)
      ·refine BG (n:=15) (bs:=[true,true,true,true,true,true,true,true,false,true,true,true,false,false,false]) [true,true,true,true,true,true,true,true,false,true,true,true] CS (by kernel_rfl) (by kernel_rfl) rfl rfl (QL rfl Gl (e13 _) (Qq rfl (Qp rfl (AE 0 hRj.rd.any rfl AU A6 rfl rfl rfl (by omega)) (QL rfl U3 (ca _) (QL rfl Gl (e13 _) (Qq rfl (Qp rfl (AE 0 hRj.rd.any rfl AU A6 rfl rfl rfl (by omega)) (QL rfl U3 (ca _) (Qq rfl (Qp rfl (AE 1 hRj.rd.any rfl AU A6 rfl rfl rfl (by omega)) (QL rfl U3 (cb _) ?_)))))))))));unfold Ft;simp only[cons_append,nil_append];refine A4 [8,12] (by kernel_rfl) rfl ?_;refine AA rfl ?_ ?_
       ·refine Qx (DO (V:=Ly) (z:=(Value.slice none 0 0)) a hu Bs hO (by simp) rfl Gl KN rfl rfl haI) rfl (Qw (Qo 12 rfl (Ao [_] rfl AU A6 rfl (by rfl) rfl rfl (by omega) rfl rfl rfl (fun g93=>Qw (Qo 13 rfl (AO 1 hO1 (RdL.one Bg (x:=b) Mh rfl) rfl AU A6 rfl (by omega) rfl rfl rfl Cb (by(try simp only[length_singleton]);omega) (by(try simp only[length_singleton]);omega) rfl rfl rfl (fun v9 m9 hO9=>?_)))))));have ov9:=hO9.o1;refine Qw (Qo 14 rfl (BU (V:=Ly) (z:=undef) 4 a v9 Bs hO rfl rfl Gl rfl rfl rfl haI rfl rfl (fun mM' bs2 hM'=>Qw (Qe (AN (D9 fun hap=>(Ex ?_)))))));have hdj:=(List.pairwise_cons.1 hap).1 _ Mh;have hMS':=close v9 _ m9 mM' bs2 hdj hO9 hM';rw[<-hjeq]at hMS';exact AD _ ⟨_,mM',rfl,rfl,rfl,hMS'⟩ Qs
       refine AA rfl ?_ ?_
       ·refine Ao [_] rfl AU A6 rfl (by rfl) rfl rfl (by omega) rfl rfl rfl (fun g93=>Qw (Qo 8 rfl (Qx (DO (V:=Ly) (z:=(Value.slice none 0 0)) a hu Bs hO (by simp) rfl Gl KN rfl rfl haI) rfl (Qw (Qo 13 rfl (AO 1 hO1 (RdL.one Bg (x:=b) Mh rfl) rfl AU A6 rfl (by omega) rfl rfl rfl Cb (by(try simp only[length_singleton]);omega) (by(try simp only[length_singleton]);omega) rfl rfl rfl (fun v9 m9 hO9=>?_)))))));have ov9:=hO9.o1;refine Qw (Qo 14 rfl (BU (V:=Ly) (z:=undef) 4 a v9 Bs hO rfl rfl Gl rfl rfl rfl haI rfl rfl (fun mM' bs2 hM'=>Qw (Qe (AN (D9 fun hap=>(Ex ?_)))))));have hdj:=(List.pairwise_cons.1 hap).1 _ Mh;have hMS':=close v9 _ m9 mM' bs2 hdj hO9 hM';rw[<-hjeq]at hMS';exact AD _ ⟨_,mM',rfl,rfl,rfl,hMS'⟩ Qs
       exact A5
      ·obtain⟨mJB,mJ,rfl,rfl,rfl,hJS⟩:=hI;obtain⟨T1,hT1⟩:∃T1,EU T0 a b=T1:=⟨_,rfl⟩
       rw[hT1]at hJS hj1 hsn;obtain⟨Tv2,bv2,u2,m1,m2,hO,hu,rfl,hd,hO1,close⟩:=hJS.open b;refine Hl hd ?_;obtain⟨L1,hL1⟩:∃L1,(Bi T1 b).getD []=L1:=⟨_,rfl⟩
       have hL1l:L1.length<=10000:=by rw[<-hL1];have:=hj1 b;omega
       rw[hL1]at hO1;have hjeq2:EU T1 b a=C4 T1 b (L1++[a]):=by unfold EU;rw[hL1]
       have ou2:=hO1.o1;refine BG (n:=15) (bs:=[true,true,true,true,true,true,true,true,false,true,true,true,false,false,false]) [true,true,true,true,true,true,true,true,false,true,true,true] CS (by kernel_rfl) (by kernel_rfl) rfl rfl (QL rfl Gl (e13 _) (Qq rfl (Qp rfl (AE 1 hRj.rd.any rfl AU A6 rfl rfl rfl (by omega)) (QL rfl U3 (cb _) (QL rfl Gl (e13 _) (Qq rfl (Qp rfl (AE 1 hRj.rd.any rfl AU A6 rfl rfl rfl (by omega)) (QL rfl U3 (cb _) (Qq rfl (Qp rfl (AE 0 hRj.rd.any rfl AU A6 rfl rfl rfl (by omega)) (QL rfl U3 (ca _) ?_)))))))))));unfold Ft;simp only[cons_append,nil_append];refine A4 [8,12] (by kernel_rfl) rfl ?_;refine AA rfl ?_ ?_
       ·refine Qx (DO (V:=Ly) (z:=(Value.slice none 0 0)) b hu Bs hO (by simp) rfl Gl KN rfl rfl hbI) rfl (Qw (Qo 12 rfl (Ao [_] rfl AU A6 rfl (by rfl) rfl rfl (by omega) rfl rfl rfl (fun g107=>Qw (Qo 13 rfl (AO 1 hO1 (RdL.one Bg (x:=a) Mh rfl) rfl AU A6 rfl (by omega) rfl rfl rfl Cb (by(try simp only[length_singleton]);omega) (by(try simp only[length_singleton]);omega) rfl rfl rfl (fun v9 m9 hO9=>?_)))))));have ov9:=hO9.o1;refine Qw (Qo 14 rfl (BU (V:=Ly) (z:=undef) 4 b v9 Bs hO rfl rfl Gl rfl rfl rfl hbI rfl rfl (fun mM' bs2 hM'=>Qw (Qe (AN (D9 fun hap=>(Ex ?_)))))));have hdj:=(List.pairwise_cons.1 hap).1 _ Mh;have hMS':=close v9 _ m9 mM' bs2 hdj hO9 hM';rw[<-hjeq2,<-hsn]at hMS';refine Ai ?_;have hv':=(hvl I').1;rw[length_append,length_singleton]at hv';exact Al (M.length-(vis.length+1)) _ (by omega) ⟨vis++[j],mi',_,mM',by simp,rfl,rfl,rfl,I',hMS',fun i hi' hv=>by rcases List.mem_append.1 hv with hv|hv;exact hz i hi' hv;simp at hv;subst hv;rw[hL];rfl⟩ Qs
       refine AA rfl ?_ ?_
       ·refine Ao [_] rfl AU A6 rfl (by rfl) rfl rfl (by omega) rfl rfl rfl (fun g107=>Qw (Qo 8 rfl (Qx (DO (V:=Ly) (z:=(Value.slice none 0 0)) b hu Bs hO (by simp) rfl Gl KN rfl rfl hbI) rfl (Qw (Qo 13 rfl (AO 1 hO1 (RdL.one Bg (x:=a) Mh rfl) rfl AU A6 rfl (by omega) rfl rfl rfl Cb (by(try simp only[length_singleton]);omega) (by(try simp only[length_singleton]);omega) rfl rfl rfl (fun v9 m9 hO9=>?_)))))));have ov9:=hO9.o1;refine Qw (Qo 14 rfl (BU (V:=Ly) (z:=undef) 4 b v9 Bs hO rfl rfl Gl rfl rfl rfl hbI rfl rfl (fun mM' bs2 hM'=>Qw (Qe (AN (D9 fun hap=>(Ex ?_)))))));have hdj:=(List.pairwise_cons.1 hap).1 _ Mh;have hMS':=close v9 _ m9 mM' bs2 hdj hO9 hM';rw[<-hjeq2,<-hsn]at hMS';refine Ai ?_;have hv':=(hvl I').1;rw[length_append,length_singleton]at hv';exact Al (M.length-(vis.length+1)) _ (by omega) ⟨vis++[j],mi',_,mM',by simp,rfl,rfl,rfl,I',hMS',fun i hi' hv=>by rcases List.mem_append.1 hv with hv|hv;exact hz i hi' hv;simp at hv;subst hv;rw[hL];rfl⟩ Qs
       exact A5
   ·obtain⟨vis,mJB,mJ,rfl,rfl,rfl,hJS,hv1,hv2,hv3,h2⟩:=hI;refine Bq fun h6 k6 fJB=>(Bq fun h7 k7 fJ=>?_)
    have fJB7:=AJ fJB k7;have l57:=AJ k6 k7;refine As (C3 (K:=kN) (V:=vB) (Ok:=BH) rfl rfl rfl rfl (fun gS mS hS0=>Cz [.map none] rfl AaL rfl rfl (fun g16=>AS 0 0 rfl AaL rfl rfl (by rfl) rfl rfl (by decide) rfl rfl (Am (AC fun h8 k8 hS16=>?_)))));have e16:∀ms,Cell h8 ms (⟨g16,0,none⟩:Addr) (.map (some gS)):=fun ms=>Seg.all hS16 0 _ rfl ms;refine As (Cz [.nilFunc] rfl Zp rfl rfl (fun g17=>BK (Qx (BW rfl rfl rfl) rfl (AS 0 0 rfl Zp rfl rfl (by rfl) rfl rfl (by decide) rfl rfl (Am (AC fun h9 k9 hS17=>?_))))));have e17:∀ms,Cell h9 ms (⟨g17,0,none⟩:Addr) (.func (.func 142) #[] #[.pointer (some ⟨g16,0,none⟩),.pointer (some ⟨g13,0,none⟩),.pointer (some ⟨g17,0,none⟩)]):=fun ms=>Seg.all hS17 0 _ rfl ms;obtain⟨P,hP⟩:∃P,vis.map pr=P:=⟨_,rfl⟩
    rw[hP]at hJS
    have hpm:∀p,p∈P<->∃j,∃hj:j<M.length,M[j].2=[p.1,p.2]:=fun p=>by
     rw[<-hP,List.mem_map]
     have hpj:∀j (hj:j<M.length),M[j].2=[(pr j).1,(pr j).2]:=fun j hj=>by
      have e:M.getD j (0,[])=M[j]:=by simp[List.getD,hj]
      simp only[pr];rw[e];have hl:=h2 j hj
      match M[j].2,hl with
      | [a,b],_=>rfl
     constructor
     ·rintro⟨j,hj,rfl⟩;exact⟨j,hv2 j hj,hpj j _⟩
     ·rintro⟨j,hj,e⟩;refine⟨j,hv3 j hj,?_⟩;have:=hpj j hj;rw[e]at this;simp only[List.cons.injEq,and_true]at this;exact Prod.ext this.1.symm this.2.symm
    have hMj:∀j (hj:j<M.length),(E.filter fun e=>decide (e.2.1=M[j].1)).map (fun e=>e.1)=M[j].2:=fun j hj=>by have hg:M[j]?=some (M[j].1,M[j].2):=List.getElem?_eq_getElem hj;rw[<-hMg,D5 hMn hg];rfl
    have hcnt:∀e∈E,Fi E e.2.1=2:=fun e he=>by obtain⟨l,v,hl⟩:=GQ ((hMk e.2.1).2 ⟨e,he,rfl⟩);obtain⟨h1,e1⟩:=List.getElem?_eq_some_iff.1 hl;have h3:=hMj l h1;have h4:=h2 l h1;rw[<-h3,e1,length_map]at h4;rw[H4];have h4:(E.filter fun e'=>decide (e'.2.1=e.2.1)).length=2:=h4;omega
    have hJm:∀a k,k∈(Bi (EB P) a).getD []<->∃c p q,(E.filter fun e=>decide (e.2.1=c)).map (fun e=>e.1)=[p,q]/\((a=p/\k=q)\/(a=q/\k=p)):=fun a k=>by
     rw[TM,hpm,hpm];constructor
     ·rintro(⟨j,hj,e⟩|⟨j,hj,e⟩)
      ·exact⟨M[j].1,a,k,by rw[hMj j hj,e],.inl ⟨rfl,rfl⟩⟩
      ·exact⟨M[j].1,k,a,by rw[hMj j hj,e],.inr ⟨rfl,rfl⟩⟩
     ·rintro⟨c,p,q,e,h⟩
      have hc:∃j,∃hj:j<M.length,M[j].2=[p,q]:=by
       have hm:c∈M.map Prod.fst:=(hMk c).2 (by
        have hpm:p∈(E.filter fun e=>decide (e.2.1=c)).map (fun e=>e.1):=by rw[e];exact Mh
        obtain⟨e',he',_⟩:=List.mem_map.1 hpm;obtain⟨h3,h4⟩:=List.mem_filter.1 he'
        exact⟨e',h3,of_decide_eq_true h4⟩)
       obtain⟨l,v,hl⟩:=GQ hm;obtain⟨h1,e1⟩:=List.getElem?_eq_some_iff.1 hl;refine⟨l,h1,?_⟩;rw[<-hMj l h1,e1];exact e
      obtain⟨j,hj,e2⟩:=hc;rcases h with ⟨rfl,rfl⟩|⟨rfl,rfl⟩
      ·exact .inl ⟨j,hj,e2⟩
      ·exact .inr ⟨j,hj,e2⟩
    have hPl:P.length<=4200:=by rw[<-hP,length_map];have:=Sc E;rw[hM]at this;omega
    have V:AaC h9 gS gJ g16 g13 g17 mJ mJB (EB P) (fun a=>(Bi (EB P) a).getD []) x.c.sd.length:=⟨fun ms=>(e16 ms).le k9,fun ms=>(e13 ms).le (AJ l57 (AJ k8 k9)),e17,hJS,AJ fJ (AJ k8 k9),AJ fJB7 (AJ k8 k9),fun a=>rfl,fun a k hk=>by
     obtain⟨c,p,q,e,h⟩:=(hJm a k).1 hk
     have hin:∀y∈[p,q],0<=y/\y<x.c.sd.length:=fun y hy=>by rw[<-e]at hy;obtain⟨e',he',rfl⟩:=List.mem_map.1 hy;exact hEi e' (List.mem_filter.1 he').1
     rcases h with ⟨_,rfl⟩|⟨_,rfl⟩
     ·exact hin _ (List.mem_cons_of_mem _ Mh)
     ·exact hin _ Mh,fun a=>by have:=LX P a;show((Bi (EB P) a).getD []).length<=_;omega,by omega⟩
    refine As (Ql rfl Aa7 (e17 _) (Hg (pre:=[mS]) rfl rfl call142 rfl (VK V (ZY x.c.sd.length []+1) 0 [] [] mS hK.p hS0 (fun p hp=>nomatch hp) (Nat.lt_succ_self _)) rfl rfl rfl rfl (fun v' h' pre' l' hF=>?_)));obtain⟨rfl,m',T',bs',rfl,hO',hA',R⟩:=hF;simp only[cons_append,nil_append,append_nil];refine Am (Ac (As (Ql rfl Yh ((e16 _).le k9) (Qx (Yt hO' (by simp) rfl Yh rfl) rfl ?_))));have hX9:=hX.up (AJ lh4 (AJ k5 (AJ l57 (AJ k8 k9))))
    have hmem:∀y,y∈Hd T'<->Con E 0 y:=fun y=>by
     rw[X1 hcnt hJm];constructor
     ·intro h;exact(R.new y h (fun q=>nomatch q)).1.1
     ·intro h
      induction h with
      | refl=>exact R.me
      | step _ h3 ih=>exact(R.new _ ih (fun q=>nomatch q)).1.2 _ h3
    have hlen:T'.length=x.c.sd.length<->(0<x.c.sd.length/\∀i:Nat,i<x.c.sd.length->Con E 0 i):=by
     have hnd:=hO'.keys
     have hsub:∀y∈Hd T',y∈(range x.c.sd.length).map fun(i:Nat)=>(i:Int):=fun y hy=>by have:=(R.new y hy (fun q=>nomatch q)).2;exact List.mem_map.2 ⟨y.toNat,List.mem_range.2 (by omega),by omega⟩
     have hle:=Go.Kuhn.nodup_le _ _ hnd hsub;have hr:((range x.c.sd.length).map fun(i:Nat)=>(i:Int)).Nodup:=List.pairwise_map.2 (List.nodup_range.imp fun h e=>h (by omega));constructor
     ·intro h;refine⟨hK.p,fun i hi=>(hmem _).1 (Classical.byContradiction fun hn=>?_)⟩
      have h3:=Go.Kuhn.nodup_le ((i:Int)::Hd T') _ (List.nodup_cons.2 ⟨hn,hnd⟩) fun y hy=>by
       rcases List.mem_cons.1 hy with rfl|hy
       ·exact List.mem_map.2 ⟨i,List.mem_range.2 hi,rfl⟩
       ·exact hsub y hy
      rw[List.length_cons,length_map,length_map,length_range]at h3;omega
     ·rintro⟨_,h⟩
      have h3:=Go.Kuhn.nodup_le _ (Hd T') hr fun y hy=>by obtain⟨i,hi,rfl⟩:=List.mem_map.1 hy;exact(hmem _).2 (h i (List.mem_range.1 hi))
      rw[length_map,length_map,length_range]at h3;rw[length_map,length_map,length_range]at hle;omega
    refine Qf BB rfl (Ql rfl BZ (((hA 2 _ rfl _).le (AJ lh4 (AJ k5 (AJ l57 (AJ k8 k9)))))) (Qx (Ar hX9.rd.any rfl BZ rfl) rfl (Qm rfl (Am ?_))));refine Aq rfl (fun hne=>?_) (fun hne=>?_)
    ·refine Ac (Ad (Qm rfl (Am (An (Ae ?_)))));exact Az rfl rfl (by unfold Wb;rw[if_neg (fun w=>w hzero),if_neg (fun w=>w hcnt),if_pos (fun w=>hne (by rw[hlen.2 w]))])
    ·refine Ah (Ab (As (Qm rfl (Am (An ?_)))));exact Az rfl rfl (by unfold Wb;rw[if_neg (fun w=>w hzero),if_neg (fun w=>w hcnt),if_neg (fun w=>w (hlen.1 (by omega)))])
variable {U o:List Cl} {i:Nat}
theorem Em{e:Entry}{Q:Exit->Act->World->Prop}{ops:Array Oper}{r:List Oper}{s:AB}{h:Hp}{ms:List Hp}(k:WL e ops Q r s h ms):∀pre:List Hp,WL e ops Q r s h (pre++ms)
 | []=>k
 | m::pre=>S5 0 rfl (Em k pre)
def JI(o:List Cl)(i:Nat):Int:=if i=0 then 0 else(o.getD (i-1) default).id
def cA(U o:List Cl)(i:Nat):Option (Int×Int):=
 if(o.getD i default).id<=JI o i then some ((o.getD i default).id,20)
 else if DT U (o.getD i default)≠0 then some ((o.getD i default).id,DT U (o.getD i default)) else none
noncomputable def Tk(U o:List Cl)(i:Nat):Option (Int×Int):=
 if 1<(o.getD i default).dim then
  if Wb (Ju U (o.getD i default) (o.getD i default).sd.length) (o.getD i default).sd.length≠0 then some ((o.getD i default).id,Wb (Ju U (o.getD i default) (o.getD i default).sd.length) (o.getD i default).sd.length) else none
 else none
noncomputable def LA(U o:List Cl):Int×Int:=
 match (range o.length).findSome? (cA U o) with
 | some e=>e
 | none=>match (range o.length).findSome? (Tk U o) with
  | some e=>e
  | none=>(0,0)
theorem Ws{e:Int×Int}(hi:i<o.length)(h:∀j,j<i->cA U o j=none)(he:cA U o i=some e):LA U o=e:=by unfold LA;rw[Dx h he o.length hi]
theorem ZD{e:Int×Int}(hA:∀j,j<o.length->cA U o j=none)(hi:i<o.length)(h:∀j,j<i->Tk U o j=none)(he:Tk U o i=some e):LA U o=e:=by unfold LA;rw[Co o.length hA,Dx h he o.length hi]
theorem Ui(hA:∀j,j<o.length->cA U o j=none)(hB:∀j,j<o.length->Tk U o j=none):LA U o=(0,0):=by unfold LA;rw[Co o.length hA,Co o.length hB]
structure AaO(l:List Ce):Prop extends OfOk l where
 d:∀a∈l,BH a.c.dim
 r:∀a∈l,∀s∈a.c.sd,BH s.1/\BH s.2
theorem Mc{x:Cl}(h:DT U x=0):(0<=x.dim/\x.dim<=8)/\¬BV x/\(∀i,i<x.sd.length->¬HG U x i)/\∀i,i<x.sd.length->¬BN x i:=by
 unfold DT at h;split at h
 ·exact absurd h (by decide)
 rename_i h1;split at h
 ·exact absurd h (by decide)
 rename_i h2;split at h
 ·exact absurd h (by decide)
 rename_i h3;split at h
 ·exact absurd h (by decide)
 rename_i h4;exact⟨by omega,h2,Classical.not_not.1 h3,Classical.not_not.1 h4⟩
theorem Ig(h:i<o.length):o.getD i default=o[i]:=by simp[List.getD,h]
theorem RU(hi:i<o.length)(h:cA U o i=none):JI o i<o[i].id/\DT U o[i]=0:=by
 unfold cA at h;rw[Ig hi]at h;split at h
 ·cases h
 ·rename_i h1;split at h
  ·cases h
  ·rename_i h2;exact⟨by omega,Classical.not_not.1 h2⟩
theorem ZF(h:∀j,j<o.length->cA U o j=none):o.Pairwise fun a b=>a.id<b.id:=by
 have key:∀j (hj:j<o.length) i (hi:i<j),o[i].id<o[j].id:=fun j=>by
  induction j with
  | zero=>intro hj i hi;omega
  | succ j ih=>
   intro hj i hi;have h1:=(RU hj (h _ hj)).1
   have h2:JI o (j+1)=o[j].id:=by unfold JI;rw[if_neg (by omega),Nat.add_sub_cancel,Ig (by omega)]
   rw[h2]at h1;rcases (by omega:i<j\/i=j) with h3|rfl
   ·have:=ih (by omega) i h3;omega
   ·exact h1
 rw[List.pairwise_iff_getElem];intro i j hi hj hij;exact key j hj i hij
theorem AaK{l o1 o2:List Cl}(C1:CanO l o1)(C2:CanO l o2)(hU:∀y∈U,y∈o1)(hr:∀a∈l,∀s∈a.sd,BH s.1/\BH s.2)(hA:∀j,j<o2.length->cA U o2 j=none){x:Cl}(hx:x∈o2)(hd:1<x.dim):YL U x:=by
 have hnd:(l.map Cl.id).Nodup:=C2.ids.nodup_iff.1 (MP (ZF hA))
 have hf:∀y∈o2,DT U y=0:=fun y hy=>by obtain⟨j,hj,rfl⟩:=getElem_of_mem hy;exact(RU hj (hA j hj)).2
 have hy2:∀y∈o2,y.sd.length<=64/\∀s∈y.sd,BH s.1/\(s.2=1\/s.2=-1):=fun y hy=>by obtain⟨h1,h2,h3,h4⟩:=Mc (hf y hy);refine⟨by unfold BV at h2;omega,fun s hs=>?_⟩;obtain⟨i,hi,rfl⟩:=getElem_of_mem hs;have h5:=h4 i hi;unfold BN at h5;rw[Bj hi]at h5;obtain⟨a,ha,_,_,hp⟩:=C2.sim.mem y hy;exact⟨(hr a ha _ (hp.mem_iff.1 (getElem_mem hi))).1,by omega⟩
 have hyU:∀y∈U,y.sd.length<=64/\∀s∈y.sd,BH s.1/\(s.2=1\/s.2=-1):=fun y hy=>by obtain⟨a,ha,_,_,hp⟩:=C1.sim.mem y (hU y hy);obtain⟨y',hy',_,_,hp'⟩:=C2.sim.to hnd ha;obtain⟨h1,h2⟩:=hy2 y' hy';refine⟨by rw[hp.length_eq,<-hp'.length_eq];exact h1,fun s hs=>h2 s (hp'.mem_iff.2 (hp.mem_iff.1 hs))⟩
 have hcel:∀c,(Gg U c).sd.length<=64/\∀s∈(Gg U c).sd,BH s.1/\(s.2=1\/s.2=-1):=fun c=>by
  unfold Gg LW;cases hc:U.find? fun y=>decide (y.id=c) with
  | none=>exact⟨by simp[default,instInhabitedCl.default],fun s hs=>by simp[default,instInhabitedCl.default]at hs⟩
  | some y=>exact hyU y (List.mem_of_find?_eq_some hc)
 obtain⟨h1,h2⟩:=hy2 x hx;obtain⟨_,h4,_,_⟩:=Mc (hf x hx);exact⟨h1,by unfold BV at h4;omega,fun i _=>(hcel _).1,fun s hs=>h2 s hs,fun i _ r hr=>(hcel _).2 r hr⟩
theorem Th(l:List Ce)(v:Value)(hp:Hp)(hK:AaO l)(hR:RdC hp v l):FnT Tryz.prog 28 #[.agg #[v]] hp [] (fun r _ _=>∃e,r=.tuple #[.int .i64 e.1,.int .i64 e.2]/\((4000<l.length/\e=(0,2))\/(l.length<=4000/\∃A1 A2:List Ce,CanO (l.map Ce.c) (A1.map Ce.c)/\CanO (l.map Ce.c) (A2.map Ce.c)/\e=LA ((P9 A1).map Ce.c) (A2.map Ce.c)))):=by
 have o1:=hR.q.rd.one;refine Ap func28 ntmps28 rfl rfl (fun w0 hw0=>?_);simp only[AX];refine As (AV [_] rfl rfl (by rfl) rfl rfl rfl (fun g1=>Qm rfl (Qm rfl (Am (AC fun h1 l1 hS=>?_)))));have hR:=hR.up l1;refine Ac (As (Qf B8 rfl (Ql rfl Bh (Seg.all hS 0 _ rfl _) (Qx (Ar hR.q.rd.any rfl Bh rfl) rfl (Qm rfl (Am ?_))))));refine Aq rfl (fun h4=>?_) (fun h4=>?_)
 ·refine Ac (Ad (Qm rfl (Qm rfl (Am (An (Ae ?_))))));exact Bo rfl rfl rfl (⟨(0,2),rfl,.inl ⟨by omega,rfl⟩⟩)
 ·refine Ah (Ab (As (Qx (oG rfl CF AW (Seg.any hS)) rfl (Qc call64 rfl (Y5 l v h1 hK.toOfOk hR) (fun rT h2 ms2 l2 hF=>?_)))));obtain⟨l2',rfl,g,A1,rfl,hC1,hT⟩:=hF;have hR2:=hR.up l2;have hS2:=hS.le l2;refine Qm rfl (BK (Qx (oG rfl CF AW (Seg.any hS2)) rfl (Qc call65 rfl (Jc l v h2 hK.n hK.s hR2) (fun rC h3 ms3 l3 hF=>?_))));obtain⟨l3',mA,A2,vA,rfl,rfl,hOA,hC2,hsA⟩:=hF;refine BA hOA fun hq l4 hQ=>?_;have hsA:=fun a ha=>(hsA a ha).up l4;have hT:=hT.up (AJ l3 l4);have ovA:=hQ.rd.one
  have hU1:∀y∈(P9 A1).map Ce.c,y∈A1.map Ce.c:=fun y hy=>by
   obtain⟨a,ha,rfl⟩:=List.mem_map.1 hy;rcases JQ _ _ a ha with h|h
   ·cases h
   ·exact List.mem_map.2 ⟨a,h,rfl⟩
  obtain⟨W,hW⟩:∃W,P9 A1=W:=⟨_,rfl⟩
  rw[hW]at hT hU1;have hol:A2.length=l.length:=by have:=hC2.len;rwa [length_map,length_map]at this
  have hln:=hK.n
  have hx2:∀a∈A2,∃b∈l,a.c.id=b.c.id/\a.c.dim=b.c.dim/\a.c.sd.Perm b.c.sd:=fun a ha=>by obtain⟨y,hy,e1,e2,e3⟩:=hC2.sim.mem a.c (List.mem_map.2 ⟨a,ha,rfl⟩);obtain⟨b,hb,rfl⟩:=List.mem_map.1 hy;exact⟨b,hb,e1,e2,e3⟩
  have hget:∀i (hi:i<A2.length),(A2.map Ce.c).getD i default=A2[i].c:=fun i hi=>by simp[List.getD,hi]
  have hres:∀e,e=LA (W.map Ce.c) (A2.map Ce.c)->(4000<l.length/\e=(0,2))\/(l.length<=4000/\∃A1 A2:List Ce,CanO (l.map Ce.c) (A1.map Ce.c)/\CanO (l.map Ce.c) (A2.map Ce.c)/\e=LA ((P9 A1).map Ce.c) (A2.map Ce.c)):=fun e he=>.inr ⟨by omega,A1,A2,hC1,hC2,by rw[he,hW]⟩;refine Qx (DD rfl CF rfl Bh rfl rfl rfl) rfl (Qm rfl (Qm rfl (Am ?_)));refine A9 (fun sl h' ms'=>sl=[(4,.pointer (some ⟨g,0,none⟩)),(6,vA)]/\hq.le h'/\ms'=[]/\∀j,j<A2.length->cA (W.map Ce.c) (A2.map Ce.c) j=none) ?_ (fun s h ms hI=>?_)
  ·refine Ac (Ad (Qm rfl (Qx (Ar hQ.rd.any rfl Bh rfl) rfl (Qm rfl (Am (Ag ?_))))))
   refine Ay (fun q sl h' ms'=>∃(i:Nat),q=A2.length-i/\sl=[(4,.pointer (some ⟨g,0,none⟩)),(5,.int .i64 (JI (A2.map Ce.c) i)),(6,vA),(22,vA),(23,.int .i64 A2.length),(24,.int .i64 i)]/\hq.le h'/\ms'=[]/\i<=A2.length/\∀j,j<i->cA (W.map Ce.c) (A2.map Ce.c) j=none)
    (A2.length-0) _ ⟨0,rfl,rfl,C9,rfl,by omega,fun j h=>by omega⟩ Qs ?_
   rintro q sl h5 ms' ⟨i,rfl,rfl,l5,rfl,hi,hno⟩;have hQ:=hQ.up l5;refine As (Qm rfl (Am (Ac ?_)));refine Aq rfl (fun hlt=>?_) (fun hlt=>?_)
   ·have hil:i<A2.length:=by omega
    obtain⟨x,hx⟩:∃x,A2[i]=x:=⟨_,rfl⟩
    have hxm:x∈A2:=by rw[<-hx];exact getElem_mem hil
    have hgx:=hget i hil;rw[hx]at hgx;obtain⟨b,hb,e1,e2,e3⟩:=hx2 x hxm;have hX:=(hsA x hxm).up l5;have hd:BH x.c.dim:=by rw[e2];exact hK.d b hb
    have hn:x.c.sd.length<=1000000:=by rw[e3.length_eq];exact hK.s b hb
    have hr:∀s∈x.c.sd,BH s.1/\BH s.2:=fun s hs=>hK.r b hb s (e3.mem_iff.1 hs);have oxv:=hX.rd.one
    have hl1:JI (A2.map Ce.c) (i+1)=x.c.id:=by unfold JI;rw[if_neg (by omega),Nat.add_sub_cancel,hgx]
    have hcl:i<(A2.map Ce.c).length:=by rw[length_map];exact hil
    have hsx:∀ms,Seg h5 ms ((AF vA).add (i*3)) (cC x):=fun ms=>by rw[<-hx];exact(hQ.any (ms:=ms)).seg hil
    refine Ah (Ab (Ac (Ag (As (Qx (BF (i) hQ.rd.any rfl Bh AI rfl rfl) rfl (Qx (oG rfl Ef AI (hsx _)) rfl (Cz [.int .i64 0,.int .i64 0,.slice none 0 0] rfl AI rfl rfl (fun g8=>?_))))))));refine Sa 0 [_,_,_] AI rfl (by simp[o1,ovA,oxv]) ?_;refine Am (AC fun h6 l6 hS8=>?_);have e80:∀ms,Cell h6 ms (⟨g8,0,none⟩:Addr) (.int .i64 x.c.id):=fun ms=>Seg.all hS8 0 _ rfl ms;have l56:=AJ l5 l6;refine Ac (As (Qf Bt rfl (Ql rfl U3 (e80 _) (Qm rfl (Qm rfl (Am ?_))))));refine Aq rfl (fun hle=>?_) (fun hle=>?_)
    ·have hch:=Ws (U:=W.map Ce.c) hcl hno (by unfold cA;rw[hgx,if_pos hle]);refine As (Qf Bt rfl (Ql rfl U3 (e80 _) (Qm rfl (Qm rfl (Am (An (Ae (Aj (Ae (Ae (Aj (Ae ?_))))))))))));exact Bo rfl rfl rfl (⟨_,rfl,hres _ hch.symm⟩)
    ·refine Ah (Ab (As (Qf Bt rfl (Ql rfl U3 (e80 _) (Qm rfl (BK (Qm rfl (Qx (oG rfl Ef AI (Seg.any hS8)) rfl (Qc call76 rfl (Yf W x g h6 (hT.up l56) (hX.up l6) hd hn hr) (fun rF h7 ms7 l7 hF=>?_))))))))));subst hF;refine Em ?_ ms7;have e80:∀ms,Cell h7 ms (⟨g8,0,none⟩:Addr) (.int .i64 x.c.id):=fun ms=>(e80 ms).le l7;refine Qm rfl (BK (Qm rfl (Qm rfl (Am ?_))));refine Aq rfl (fun hne=>?_) (fun hne=>?_)
     ·have hch:=Ws (U:=W.map Ce.c) hcl hno (by unfold cA;rw[hgx,if_neg hle,if_pos hne]);refine As (Qf Bt rfl (Ql rfl U3 (e80 _) (Qm rfl (Qm rfl (Qm rfl (Am (An (Aj (Ae (Ae (Aj (Ae ?_))))))))))));exact Bo rfl rfl rfl (⟨_,rfl,hres _ hch.symm⟩)
     ·have hci:cA (W.map Ce.c) (A2.map Ce.c) i=none:=by unfold cA;rw[hgx,if_neg hle,if_neg hne]
      refine Ah (Ai (Ab (Ad (Qx (oA rfl) rfl (Qm rfl (Ak ?_))))))
      exact Al (A2.length-(i+1)) _ (by omega) ⟨i+1,rfl,by rw[hl1],AJ l56 l7,rfl,by omega,fun j hj=>by
       rcases (by omega:j<i\/j=i) with h1|rfl
       ·exact hno j h1
       ·exact hci⟩ Qs
   ·obtain rfl:i=A2.length:=by omega
    refine Av (Aa (Aa (Af ?_)));exact AD _ ⟨rfl,l5,rfl,hno⟩ Qs
  ·obtain⟨rfl,l5,rfl,hno⟩:=hI;have hno':∀j,j<(A2.map Ce.c).length->cA (W.map Ce.c) (A2.map Ce.c) j=none:=fun j hj=>hno j (by rwa [length_map]at hj);have hQ:=hQ.up l5;have hT:=hT.up l5;have hsA:=fun a ha=>(hsA a ha).up l5;refine Ac (As (Qm rfl (Qx (Ar hQ.rd.any rfl Bh rfl) rfl (Qm rfl (Am (Ag ?_))))))
   refine Ay (fun q sl h' ms'=>∃(i:Nat),q=A2.length-i/\sl=[(4,.pointer (some ⟨g,0,none⟩)),(45,vA),(46,.int .i64 A2.length),(47,.int .i64 i)]/\h.le h'/\ms'=[]/\i<=A2.length/\∀j,j<i->Tk (W.map Ce.c) (A2.map Ce.c) j=none)
    (A2.length-0) _ ⟨0,rfl,rfl,C9,rfl,by omega,fun j h=>by omega⟩ Qs ?_
   rintro q sl h6 ms' ⟨i,rfl,rfl,l6,rfl,hi,hnB⟩;have hQ:=hQ.up l6;refine As (Qm rfl (Am (Ac ?_)));refine Aq rfl (fun hlt=>?_) (fun hlt=>?_)
   ·have hil:i<A2.length:=by omega
    obtain⟨x,hx⟩:∃x,A2[i]=x:=⟨_,rfl⟩
    have hxm:x∈A2:=by rw[<-hx];exact getElem_mem hil
    have hgx:=hget i hil;rw[hx]at hgx;have hX:=(hsA x hxm).up l6;have oxv:=hX.rd.one;have hcl:i<(A2.map Ce.c).length:=by rw[length_map];exact hil
    have hsx:∀ms,Seg h6 ms ((AF vA).add (i*3)) (cC x):=fun ms=>by rw[<-hx];exact(hQ.any (ms:=ms)).seg hil
    have hstep:Tk (W.map Ce.c) (A2.map Ce.c) i=none->∀j,j<i+1->Tk (W.map Ce.c) (A2.map Ce.c) j=none:=fun h j hj=>by
     rcases (by omega:j<i\/j=i) with h1|rfl
     ·exact hnB j h1
     ·exact h
    refine Ah (Ab (Ac (Ag (As (Qx (BF (i) hQ.rd.any rfl Bh AI rfl rfl) rfl (Qx (oG rfl Ef AI (hsx _)) rfl (Cz [.int .i64 0,.int .i64 0,.slice none 0 0] rfl AI rfl rfl (fun g11=>?_))))))));refine Sa 0 [_,_,_] AI rfl (by simp[o1,ovA,oxv]) ?_;refine Am (AC fun h7 l7 hS11=>?_);have e110:∀ms,Cell h7 ms (⟨g11,0,none⟩:Addr) (.int .i64 x.c.id):=fun ms=>Seg.all hS11 0 _ rfl ms;have e111:∀ms,Cell h7 ms (⟨g11,1,none⟩:Addr) (.int .i64 x.c.dim):=fun ms=>Seg.all hS11 1 _ rfl ms;have l67:=AJ l6 l7;refine As (Qf BY rfl (Ql rfl U3 (e111 _) (Qm rfl (Am ?_))));refine Aq rfl (fun hd=>?_) (fun hd=>?_)
    ·have hAr:YL (W.map Ce.c) x.c:=AaK hC1 hC2 hU1 (fun a ha s hs=>by
      obtain⟨b,hb,rfl⟩:=List.mem_map.1 ha
      exact hK.r b hb s hs) hno' (List.mem_map.2 ⟨x,hxm,rfl⟩) hd
     refine As (Qm rfl (Qx (oG rfl Ef AI (Seg.any hS11)) rfl (Qc call77 rfl (SG W x g h7 (hT.up l67) (hX.up l7) hAr) (fun rF h8 ms8 l8 hF=>?_))));subst hF;refine Em ?_ ms8;have e110:∀ms,Cell h8 ms (⟨g11,0,none⟩:Addr) (.int .i64 x.c.id):=fun ms=>(e110 ms).le l8;refine Qm rfl (BK (Qm rfl (Qm rfl (Am ?_))));refine Aq rfl (fun hne=>?_) (fun hne=>?_)
     ·have hch:=ZD (U:=W.map Ce.c) hno' hcl hnB (by unfold Tk;rw[hgx,if_pos hd,if_pos hne]);refine As (Qf Bt rfl (Ql rfl U3 (e110 _) (Qm rfl (Qm rfl (Qm rfl (Am (An (Aj (Ae (Ae (Aj (Ae ?_))))))))))));exact Bo rfl rfl rfl (⟨_,rfl,hres _ hch.symm⟩)
     ·have hci:Tk (W.map Ce.c) (A2.map Ce.c) i=none:=by unfold Tk;rw[hgx,if_pos hd,if_neg hne]
      refine Ah (Ai (Ab (Ad (Qx (oA rfl) rfl (Qm rfl (Ak ?_))))));exact Al (A2.length-(i+1)) _ (by omega) ⟨i+1,rfl,rfl,AJ l67 l8,rfl,by omega,hstep hci⟩ Qs
    ·have hci:Tk (W.map Ce.c) (A2.map Ce.c) i=none:=by unfold Tk;rw[hgx,if_neg hd]
     refine Ah (Ai (Ab (Ad (Qx (oA rfl) rfl (Qm rfl (Ak ?_))))));exact Al (A2.length-(i+1)) _ (by omega) ⟨i+1,rfl,rfl,l67,rfl,by omega,hstep hci⟩ Qs
   ·obtain rfl:i=A2.length:=by omega
    have hch:=Ui hno' (fun j hj=>hnB j (by rwa [length_map]at hj));refine Av (Aa (Aa (Af (Ab (As (Qm rfl (Qm rfl (Am (An ?_)))))))));exact Bo rfl rfl rfl (⟨(0,0),rfl,hres _ hch.symm⟩)
end Go.Proofs.Q
namespace Go.Proofs.Q
open Go.Proofs.Tryz
open Go.Eng Go.RowKit
variable {l:List Ce} {o:List Cl} {x c:Cl}
theorem WN(U:List Cl)(x:Cl):Fu U x=(Ju U x x.sd.length).map fun e=>((Bp x e.1.toNat).1,e.2):=by
 have hx:x.sd=(range x.sd.length).map (Bp x):=List.ext_getElem (by simp) fun j h1 h2=>by simp[Bj h1]
 unfold Fu KV
 conv=>lhs;rw[hx]
 unfold Ju;rw[List.flatMap_map,List.map_flatMap];refine DQ fun i hi=>?_;unfold Uz;rw[map_map];exact List.map_congr_left fun r _=>by simp
theorem Ut(E:FV)(f:Int->Int)(c:Int):D1 (E.map fun e=>(f e.1,e.2)) c=D1 E c/\Fi (E.map fun e=>(f e.1,e.2)) c=Fi E c:=by unfold D1 Fi;rw[map_map,map_map];exact⟨rfl,rfl⟩
theorem Yd{U:List Cl}(G:GoodT (Fu U x) x.sd)(hn:0<x.sd.length)(hd:(x.sd.map Prod.fst).Nodup):Wb (Ju U x x.sd.length) x.sd.length=0:=by
 have hT:=WN U x;obtain⟨E,hE⟩:∃E,Ju U x x.sd.length=E:=⟨_,rfl⟩
 have hi:∀e∈E,∃i:Nat,i<x.sd.length/\e.1=(i:Int):=fun e he=>by rw[<-hE]at he;obtain⟨i,hi,r,_,rfl⟩:=NB he;exact⟨i,hi,rfl⟩
 rw[hE]at hT ⊢;rw[hT]at G;have hsm:=fun c=>Ut E (fun k=>(Bp x k.toNat).1) c
 have h1:∀e∈E,D1 E e.2.1=0:=fun e he=>by have h:=G.sum ((Bp x e.1.toNat).1,e.2) (List.mem_map.2 ⟨e,he,rfl⟩);rw[(hsm _).1]at h;exact h
 have h2:∀e∈E,Fi E e.2.1=2:=fun e he=>by have h:=G.two ((Bp x e.1.toNat).1,e.2) (List.mem_map.2 ⟨e,he,rfl⟩);rw[(hsm _).2]at h;exact h
 have hinj:∀i j:Nat,i<x.sd.length->j<x.sd.length->(Bp x i).1=(Bp x j).1->i=j:=fun i j hi hj e=>by
  rcases Nat.lt_trichotomy i j with h|h|h
  ·exact absurd e (I4 hd i j h hj)
  ·exact h
  ·exact absurd e.symm (I4 hd j i h hi)
 have hcon:∀{u v:Int},Con (E.map fun e=>((Bp x e.1.toNat).1,e.2)) u v->∀i:Nat,i<x.sd.length->u=(Bp x i).1->∃j:Nat,j<x.sd.length/\v=(Bp x j).1/\Con E i j:=fun {u v} h=>by
  induction h with
  | refl=>intro i hi e;exact⟨i,hi,e,.refl _⟩
  | @step b d c w w' _ m1 m2 ih=>
   intro i hi0 e;obtain⟨j,hj,e1,C⟩:=ih i hi0 e;obtain⟨p,hp,q1⟩:=List.mem_map.1 m1;obtain⟨p',hp',q2⟩:=List.mem_map.1 m2;obtain⟨k,hk,ek⟩:=hi p hp;obtain⟨k',hk',ek'⟩:=hi p' hp';rw[ek]at q1;rw[ek']at q2;have a1:=(Prod.mk.injEq _ _ _ _ ▸ q1:_/\_)
   have a2:=(Prod.mk.injEq _ _ _ _ ▸ q2:_/\_)
   obtain⟨b1,b2⟩:=a1;obtain⟨b1',b2'⟩:=a2;rw[Int.toNat_natCast]at b1 b1';have hkj:k=j:=hinj k j hk hj (by rw[b1,e1]);subst hkj;refine⟨k',hk',b1'.symm,.step C (c:=c) (w:=w) (w':=w') ?_ ?_⟩
   ·have:p=((k:Int),c,w):=by rw[<-ek,<-b2]
    rw[<-this];exact hp
   ·have:p'=((k':Int),c,w'):=by rw[<-ek',<-b2']
    rw[<-this];exact hp'
 have h3:0<x.sd.length/\∀i:Nat,i<x.sd.length->Con E 0 i:=by refine⟨hn,fun i hi'=>?_⟩;have hc:=G.con (Bp x 0) (by rw[Bj hn];exact getElem_mem hn) (Bp x i) (by rw[Bj hi'];exact getElem_mem hi');obtain⟨j,hj,e,C⟩:=hcon hc 0 hn rfl;rw[hinj i j hi' hj e];exact C
 unfold Wb;rw[if_neg (fun w=>w h1),if_neg (fun w=>w h2),if_neg (fun w=>w h3)]
theorem Xf:W5 x x.sd.length=(x.sd.map Prod.snd).sum:=by unfold W5;rw[take_length]
theorem VF(R:Rgt o)(hx:x∈o):DT o x=0:=by
 have hb:∀i,i<x.sd.length->¬HG o x i:=fun i hi q=>by
  obtain⟨y,hy,e1,e2⟩:=R.sid x hx _ (getElem_mem hi);unfold HG at q;rw[Bj hi,<-e1,Dk R.nd hy,CP R.nd hy]at q;rcases q with q|q|⟨q1,q2⟩
  ·cases q
  ·exact q e2
  ·rw[e1,<-Bj hi]at q2;exact I4 (R.sds x hx) (i-1) i (by omega) hi q2
 have hs:∀i,i<x.sd.length->¬BN x i:=fun i hi q=>by unfold BN at q;rw[Bj hi]at q;have:=R.sgn x hx _ (getElem_mem hi);omega
 unfold DT
 rw[if_neg (by have:=R.dim x hx;omega),if_neg (R.num x hx),if_neg (fun w=>w hb),if_neg (fun w=>w hs),if_neg fun q=>by
  have:=R.one x hx q.1;rw[Xf]at q
  exact q.2 this]
theorem Vk(R:RgtF o):LA o o=(0,0):=by
 have G:=R.rgt;refine Ui (fun j hj=>?_) fun j hj=>?_
 ·unfold cA;rw[Ig hj,if_neg,if_neg]
  ·exact fun q=>q (VF G (getElem_mem hj))
  ·unfold JI;split
   ·have:=G.pos _ (getElem_mem hj);omega
   ·rw[Ig (by omega)];have:=List.pairwise_iff_getElem.1 R.inc (j-1) j (by omega) hj (by omega);omega
 ·unfold Tk;rw[Ig hj];split
  ·rename_i hd;have hx:=getElem_mem hj;have hnum:=G.num _ hx;unfold BV at hnum;rw[if_neg];exact fun q=>q (Yd (G.tab _ hx (by omega)) (by omega) (G.sds _ hx))
  ·rfl
structure RgC(l:List Ce):Prop where
 r:Rgt (l.map Ce.c)
 i:∀a∈l,a.c.id<=1000000
def cn(l:List Ce):List Cl:=ordF (l.map Ce.c)
theorem Ds(l:List Ce):(cn l).length=l.length:=by unfold cn;rw[E8,length_map]
theorem RgC.F(R:RgC l):RgtF (cn l):=R.r.ordF
theorem CanO.ord{l:List Cl}(C:CanO l o)(R:Rgt l):o=ordF l:=by
 have F:=R.ordF;have hp:=Db l.length l (Nat.le_refl _);obtain⟨l',h1,h2,h3⟩:=C.mem;have hinc:=F.inc
 have hm:(o.map Cl.id)=(ordF l).map Cl.id:=by refine Dq id (C.ids.trans ?_) (List.pairwise_map.2 C.inc) (List.pairwise_map.2 hinc);have:=(hp.map Cl.id).symm;rw[map_map]at this;exact this
 have hlen:o.length=(ordF l).length:=by have:=congrArg List.length hm;simpa using this
 refine List.ext_getElem hlen fun i h1' h2'=>?_;obtain⟨a1,a2,a3,a4⟩:=h3 i h1' (by omega)
 have e1:o[i].id=(ordF l)[i].id:=by have:=List.getElem_of_eq hm (i:=i) (by simpa using h1');simpa using this
 have hxl:l'[i]'(by omega)∈l:=h1.mem_iff.1 (getElem_mem _);obtain⟨z,hz,ez⟩:=G3 (getElem_mem h2')
 have hzz:z=l'[i]'(by omega):=by
  have b1:=Dk R.nd hz;have b2:=Dk R.nd hxl;have:z.id=(l'[i]'(by omega)).id:=by rw[<-a1,e1,ez];rfl
  rw[this,b2]at b1;exact(Option.some.inj b1).symm
 have hs:o[i].sd=(ordF l)[i].sd:=by refine Dq Prod.fst (a3.trans ?_) a4 (F.sinc _ (getElem_mem h2'));rw[ez,hzz];exact(BQ _).symm
 have hd:o[i].dim=(ordF l)[i].dim:=by rw[a2,ez,hzz];rfl
 revert e1 hs hd;generalize o[i]=x;generalize (ordF l)[i]=y;cases x;cases y;intro e1 hs hd;simp only at e1 hs hd;rw[e1,hs,hd]
theorem RgtF.ordF(R:RgtF o):ordF o=o:=by
 have e1:o.map Cl.can=o:=by
  have:∀l:List Cl,(∀x∈l,x∈o)->l.map Cl.can=l:=fun l=>by
   induction l with
   | nil=>intro _;rfl
   | cons a l ih=>
    intro h;have e:Ca a.sd=a.sd:=Dq Prod.fst (BQ _) (Fa _) (R.sinc a (h a Mh));rw[map_cons,ih fun x hx=>h x (List.mem_cons_of_mem _ hx)];unfold Cl.can;rw[e]
  exact this o fun x hx=>hx
 have h2:=Db o.length o (Nat.le_refl _);rw[e1]at h2;exact Dq Cl.id h2 (Du _ _ (Nat.le_refl _)) R.inc
theorem Wr(R:RgtF (l.map Ce.c)):cn l=l.map Ce.c:=R.ordF
theorem Vm(h:c∈cn l):∃b∈l,c=b.c.can:=by obtain⟨a,ha,e⟩:=G3 h;obtain⟨b,hb,rfl⟩:=List.mem_map.1 ha;exact⟨b,hb,e⟩
theorem RgC.ci(R:RgC l)(h:c∈cn l):c.id<=1000000:=by obtain⟨b,hb,rfl⟩:=Vm h;exact R.i b hb
theorem RgC.cI(R:RgC l)(h:c∈cn l):BH c.id:=by have:=R.ci h;have:=R.F.rgt.pos _ h;unfold BH;omega
theorem Rgt.bds{l:List Cl}(R:Rgt l)(hx:x∈l):(0<=x.dim/\x.dim<=8)/\x.sd.length<=64:=by have h1:=R.dim x hx;have h2:=R.num x hx;unfold BV at h2;omega
theorem RgC.pc(R:RgC l):AaO l:=by
 have G:=R.r;have hm:∀a∈l,a.c∈l.map Ce.c:=fun a ha=>List.mem_map.2 ⟨a,ha,rfl⟩;have hid:∀a∈l,BH a.c.id:=fun a ha=>by have:=G.pos _ (hm a ha);have:=R.i a ha;unfold BH;omega
 have hn:=G.n;rw[length_map]at hn;refine⟨⟨by omega,fun a ha=>?_,hid⟩,fun a ha=>?_,fun a ha s hs=>?_⟩
 ·have:=(G.bds (hm a ha)).2;omega
 ·have:=(G.bds (hm a ha)).1;unfold BH;omega
 ·obtain⟨y,hy,e,_⟩:=G.sid _ (hm a ha) s hs;obtain⟨b,hb,rfl⟩:=List.mem_map.1 hy;have h2:=G.sgn _ (hm a ha) s hs;rw[<-e];exact⟨hid b hb,by unfold BH;omega⟩
theorem Zk{A:List Ce}(h:A.map Ce.c=o)(hn:(o.map Cl.id).Nodup):(A.map fun a=>a.c.id).Nodup:=by rw[<-h,map_map]at hn;exact hn
theorem L9(l:List Ce)(v:Value)(hp:Hp)(hK:RgC l)(hR:RdC hp v l):FnT Tryz.prog 28 #[.agg #[v]] hp [] (fun r _ _=>r=.tuple #[.int .i64 0,.int .i64 0]):=by
 refine(Th l v hp hK.pc hR).mono fun r _ _ h=>?_;obtain⟨e,rfl,h⟩:=h;have hn:=hK.r.n;rw[length_map]at hn;have hF:=hK.F;rcases h with ⟨h,_⟩|⟨_,A1,A2,C1,C2,rfl⟩
 ·omega
 ·have e1:=C1.ord hK.r;have e2:=C2.ord hK.r;rw[Wi (Zk e1 hF.rgt.nd),e1,e2];have:=Vk hF;unfold cn at this;rw[this]
theorem Hm(l:List Ce)(v:Value)(hp:Hp)(hK:RgC l)(hR:RdC hp v l):FnT Tryz.prog 65 #[.agg #[v]] hp [] (fun r h' ms'=>hp.le h'/\∃m A v',ms'=[m]/\r=.agg #[v']/\OwnL cC 3 52 m v' A/\A.map Ce.c=cn l/\∀a∈A,RdL cD 2 h' [] a.v a.c.sd):=by refine(Jc l v hp hK.pc.n hK.pc.s hR).mono fun r h' ms' h=>?_;obtain⟨h1,m,A,v',h2,h3,h4,h5,h6⟩:=h;exact⟨h1,m,A,v',h2,h3,h4,h5.ord hK.r,h6⟩
theorem Nv(l:List Ce)(v:Value)(hp:Hp)(hK:RgC l)(hR:RdC hp v l):FnT Tryz.prog 64 #[.agg #[v]] hp [] (fun r h' ms'=>hp.le h'/\ms'=[]/\∃g A,r=.pointer (some ⟨g,0,none⟩)/\A.map Ce.c=cn l/\RdT h' g A):=by refine(Y5 l v hp hK.pc.toOfOk hR).mono fun r h' ms' h=>?_;obtain⟨h1,h2,g,A,h3,h4,h5⟩:=h;have e:A.map Ce.c=cn l:=h4.ord hK.r;rw[Wi (Zk e hK.F.rgt.nd)]at h5;exact⟨h1,h2,g,A,h3,e,h5⟩
theorem Vc(l:List Ce)(v:Value)(i:Int)(hp:Hp)(hK:RgC l)(hi:BH i)(hR:RdC hp v l):FnT Tryz.prog 21 #[.agg #[v],.int .i64 i] hp [] (fun r h' ms'=>hp.le h'/\∃y,r=.tuple #[vC y,.bool (LW (cn l) i).isSome]/\y.c=Gg (cn l) i/\RdL cD 2 h' [] y.v y.c.sd):=by
 have o1:=hR.q.rd.one;refine Ap func21 ntmps21 rfl rfl (fun w0 hw0=>?_);simp only[AX];refine As (AV [_] rfl rfl (by rfl) rfl rfl rfl (fun g2=>Cz [.int .i64 0,.int .i64 0,.slice none 0 0] rfl AI rfl rfl (fun g4=>Qm rfl (Am (Bm 1 rfl fun h1 l1 hS=>?_)))));have hR:=hR.up l1;refine As (Qx (oG rfl CF AW (Seg.any hS)) rfl (Qc call64 rfl (Nv l v h1 hK hR) (fun rT h2 ms2 l2 hF=>?_)));obtain⟨l2',rfl,g,A,rfl,hA,gm,mMt,bst,vids,hSg,hMt,lmt,hVt,hsU⟩:=hF;have eT:∀ms,Cell h2 ms (⟨g,0,none⟩:Addr) (.map (some gm)):=fun ms=>Seg.all hSg 0 _ rfl ms;obtain⟨y,hy⟩:∃y,(Bi (Fs A) i).getD default=y:=⟨_,rfl⟩
 obtain⟨bb,hbb⟩:∃bb,(Bi (Fs A) i).isSome=bb:=⟨_,rfl⟩
 have hyR:=QR hsU i;rw[hy]at hyR;have hbb':(LW (cn l) i).isSome=bb:=by rw[<-hA,<-NV];exact hbb
 have hyc:y.c=Gg (cn l) i:=by rw[<-hA,<-Iw,hy]
 have oy:=hyR.rd.one;refine Qm rfl (Qf E4 rfl (Ql rfl GJ (eT _) (Qm rfl (Qx (E1 (V:=vC) (z:=(default:Ce)) i hy hbb Bs hMt lmt rfl GJ KR rfl rfl hi) rfl (Qm rfl (Qm rfl (Qm rfl (Cz [.int .i64 0,.int .i64 0,.slice none 0 0] rfl AI rfl rfl (fun g6=>?_)))))))));refine Sa 0 [_,_,_] AI rfl (by simp[o1,oy]) ?_;refine Qm rfl (BK (Qx (oG rfl Ef AI (Seg.blk 0 rfl)) rfl (Qm rfl ?_)));refine Sa 1 [_,_,_] AI rfl (by simp[o1,oy]) ?_;refine Qm rfl (Am (An ?_));exact FY (vs:=[_,_,_]) 1 rfl rfl rfl Ef rfl AI rfl rfl (⟨AJ l1 l2,y,by rw[hbb'];rfl,hyc,hyR⟩)
end Go.Proofs.Q

namespace Go.Proofs.Q
open Go.Proofs.Tryz
open Go.Eng Go.RowKit
def cV(p:Int×Int):List Value:=[.int .i64 p.1,.int .i64 p.2]
theorem Ib:∀p,(cV p).length=2:=fun _=>rfl
theorem H5:∀a,∀c∈cV a,c.oneCell'=true:=fun a c hc=>by simp only[cV,mem_cons,not_mem_nil,or_false]at hc;rcases hc with rfl|rfl<;>rfl
def BD(F:List (Int×Int)):List (Int×Int):=F.foldl (fun T p=>C4 T p.1 p.2) []
theorem Hq(F:List (Int×Int))(p:Int×Int):BD (F++[p])=C4 (BD F) p.1 p.2:=by unfold BD;rw[List.foldl_append];rfl
def Fv(F:List (Int×Int))(c:Int):Int:=(Bi (BD F) c).getD 0
theorem Mq(c:Int):∀F:List (Int×Int),c∈(BD F).map Prod.fst<->c∈F.map Prod.fst:=C6 (by simp[BD]) fun F p ih=>by rw[Hq,Fg,ih,map_append,List.mem_append];simp only[map_cons,List.map_nil,List.mem_singleton];exact⟨fun q=>q.symm,fun q=>q.symm⟩
theorem Lb{c x:Int}:∀{F:List (Int×Int)},(F.map Prod.fst).Nodup->(c,x)∈F->Fv F c=x:=fun {F}=>by
 revert F
 have:∀F:List (Int×Int),(F.map Prod.fst).Nodup->(c,x)∈F->Fv F c=x:=C6 (fun _ h=>nomatch h) fun F p ih hn hm=>by
  rw[map_append,List.nodup_append]at hn;unfold Fv;rw[Hq,Dd];rcases List.mem_append.1 hm with hm|hm
  ·have hne:c≠p.1:=fun e=>hn.2.2 c (List.mem_map.2 ⟨_,hm,rfl⟩) p.1 (by simp) e;rw[if_neg hne];exact ih hn.1 hm
  ·rw[<-List.mem_singleton.1 hm,if_pos rfl];rfl
 exact fun {F}=>this F
theorem Hf(F:List (Int×Int))(v:Value)(h:Hp)(hR:RdL cV 2 h [] v F)(hn:F.length<=1000000)(hk:∀p∈F,BH p.1):FnT Tryz.prog 66 #[v] h [] (fun r h' ms'=>h.le h'/\∃g m bs,r=.map (some g)/\ms'=[m]/\CO kN kN g BH m (BD F) bs):=by
 have o1:=hR.rd.one;refine Ap func66 ntmps66 rfl rfl (fun w0 hw0=>?_);simp only[AX];refine As (Qm rfl (BK (C3 (K:=kN) (V:=kN) (Ok:=BH) rfl rfl rfl rfl (fun gA mA hA0=>Qm rfl (Am (Ac (As (Qm rfl (Qx (Ar hR.rd.any rfl FP rfl) rfl (Qm rfl (Am (Ag ?_))))))))))))
 refine Ay (fun q sl h' ms'=>∃(i:Nat) (mA:Hp) (bs:List Nat),q=F.length-i/\sl=[(3,.map (some gA)),(7,v),(8,.int .i64 F.length),(9,.int .i64 i)]/\h.le h'/\ms'=[mA]/\i<=F.length/\CO kN kN gA BH mA (BD (F.take i)) bs)
  (F.length-0) _ ⟨0,mA,[],rfl,rfl,C9,rfl,by omega,hA0⟩ Qs ?_
 rintro q sl h2 ms' ⟨i,mA,bs,rfl,rfl,l2,rfl,hi,hO⟩;have hR:=hR.up l2;refine As (Qm rfl (Am (Ac ?_)));refine Aq rfl (fun hlt=>?_) (fun hlt=>?_)
 ·have hil:i<F.length:=by omega
  obtain⟨p,hp⟩:∃p,F[i]=p:=⟨_,rfl⟩
  have hpI:BH p.1:=hk p (by rw[<-hp];exact getElem_mem hil);have hsx:∀ms,Seg h2 ms ((AF v).add (i*2)) (cV p):=fun ms=>by rw[<-hp];exact(hR.any (ms:=ms)).seg hil
  have hs:=Hq (F.take i) p;rw[<-hp,<-List.take_succ_eq_append_getElem hil,hp]at hs;refine Ah (Ab (Ac (Ag (As (Qx (BF (i) hR.rd.any rfl FP Cx rfl rfl) rfl (Qx (oG rfl U47 Cx (hsx _)) rfl (Cz [.int .i64 0,.int .i64 0] rfl Cx rfl rfl (fun g5=>?_))))))));refine Sa 0 [_,_] Cx rfl (by simp[Value.oneCell']) ?_;refine Am (AC fun h3 l3 hS5=>?_);have e0:∀ms,Cell h3 ms (⟨g5,0,none⟩:Addr) (.int .i64 p.1):=fun ms=>Seg.all hS5 0 _ rfl ms;have e1:∀ms,Cell h3 ms (⟨g5,1,none⟩:Addr) (.int .i64 p.2):=fun ms=>Seg.all hS5 1 _ rfl ms;refine Ad (Qm rfl (Qf EJ rfl (Ql rfl U3 (e0 _) (Qf MF rfl (Ql rfl U3 (e1 _) (BU (V:=kN) (z:=undef) 0 p.1 p.2 Bs hO rfl rfl Lw rfl rfl rfl hpI rfl rfl (fun mA' bs' hO'=>?_)))))));rw[<-hs]at hO';refine Ak (Ai (Ab (Ad (Qx (oA rfl) rfl (Qm rfl (Ak ?_))))));exact Al (F.length-(i+1)) _ (by omega) ⟨i+1,mA',bs',rfl,rfl,AJ l2 l3,rfl,by omega,hO'⟩ Qs
 ·obtain rfl:i=F.length:=by omega
  rw[take_length]at hO;refine Av (Aa (Aa (Af (Ab (As (Qm rfl (Qm rfl (Am (An ?_)))))))));exact Az rfl rfl (⟨l2,gA,mA,bs,rfl,rfl,hO⟩)
def NA(l:List (Int×Int))(pr:Int×Int->Bool):Int:=match l.findIdx? pr with|some k=>(k:Int)|none=>-1
theorem TP{l:List (Int×Int)}{pr:Int×Int->Bool}{k:Nat}(hk:k<l.length)(h:pr l[k]=true)(hno:∀j (hj:j<l.length),j<k->pr l[j]=false):NA l pr=k:=by unfold NA;have:l.findIdx? pr=some k:=List.findIdx?_eq_some_iff_getElem.2 ⟨hk,h,fun j hj=>by rw[hno j (by omega) hj];simp⟩;rw[this]
theorem SH{l:List (Int×Int)}{pr:Int×Int->Bool}(hno:∀j (hj:j<l.length),pr l[j]=false):NA l pr=-1:=by
 unfold NA
 have:l.findIdx? pr=none:=List.findIdx?_eq_none_iff.2 fun x hx=>by obtain⟨j,hj,rfl⟩:=getElem_of_mem hx;exact hno j hj
 rw[this]
theorem VJ(l:List (Int×Int))(pr:Int×Int->Bool):0<=NA l pr<->∃s∈l,pr s=true:=by
 unfold NA;cases h:l.findIdx? pr with
 | none=>
  rw[List.findIdx?_eq_none_iff]at h;constructor
  ·intro q;exact absurd q (by decide)
  ·rintro⟨s,hs,q⟩;rw[h s hs]at q;cases q
 | some k=>
  obtain⟨hk,h1,_⟩:=List.findIdx?_eq_some_iff_getElem.1 h;exact⟨fun _=>⟨_,getElem_mem hk,h1⟩,fun _=>by show(0:Int)<=(k:Int);omega⟩
theorem Sz(l:List (Int×Int))(vl:Value)(cf:FuncId)(cs:List Value)(pr:Int×Int->Bool)(h:Hp)(hR:RdL cD 2 h [] vl l)(hn:l.length<=1000000)
  (hc:∀xs w,(callFunc cf xs).run Tryz.prog w=.ok (.enter cf xs) w)
  (hp:∀s∈l,∀ms,FnV Tryz.prog cf ([]++[Value.agg (cD s).toArray]++cs).toArray h ms (.bool (pr s))) :
  FnT Tryz.prog 138 #[vl,.func (.func cf) #[] cs.toArray] h [] (fun r _ _=>r=.int .i64 (NA l pr)):=by
 have o1:=hR.rd.one;refine Ap func138 ntmps138 rfl rfl (fun w0 hw0=>?_);simp only[AX];refine As (Qm rfl (Am (Ac (As (Qm rfl (Qx (Ar hR.rd.any rfl BZ rfl) rfl (Qm rfl (Am (Ag ?_)))))))))
 refine Ay (fun q s h' ms'=>∃(k:Nat),q=l.length-k/\s=[(0,vl),(1,.func (.func cf) #[] cs.toArray),(7,.int .i64 l.length),(8,.int .i64 k)]/\h=h'/\ms'=[]/\k<=l.length/\∀j (hj:j<l.length),j<k->pr l[j]=false)
  (l.length-0) _ ⟨0,rfl,rfl,rfl,rfl,by omega,fun j _ hj=>by omega⟩ Qs ?_
 rintro q s h' ms' ⟨k,rfl,rfl,rfl,rfl,hk,hno⟩;refine As (Qm rfl (Am (Ac ?_)));refine Aq rfl (fun hlt=>?_) (fun hlt=>?_)
 ·have hkn:k<l.length:=by omega
  have hsx:∀ms,Seg h ms ((AF vl).add (k*2)) (cD l[k]):=fun ms=>(hR.any (ms:=ms)).seg hkn;refine Ah (Ab (Ac (Ag (As (Qm rfl (Qm rfl (BK (Qm rfl (Qm rfl (Qm rfl (Qx (BF (k) hR.rd.any rfl BZ AM rfl rfl) rfl (Qx (oG rfl DX AM (hsx _)) rfl (Qx (Cj rfl rfl hc rfl (hp _ (getElem_mem hkn) _)) rfl (Am ?_))))))))))))));refine Bz rfl (fun hpk=>?_) (fun hpk=>?_)
  ·refine Ac (Ad (Qm rfl (Qm rfl (Am (An (Aj (Ae (Ae (Aj (Ae ?_))))))))));exact Az rfl rfl (by rw[TP hkn hpk hno])
  ·refine Ah (Ai (Ab (Ad (Qx (oA rfl) rfl (Qm rfl (Ak ?_))))));refine Al (l.length-(k+1)) _ (by omega) ⟨k+1,rfl,rfl,rfl,rfl,by omega,fun j hj hjk=>?_⟩ Qs;rcases (by omega:j<k\/j=k) with h2|rfl
   ·exact hno j hj h2
   ·exact hpk
 ·obtain rfl:k=l.length:=by omega
  refine Av (Aa (Aa (Af (Ab (As (Qm rfl (Am (An ?_))))))));exact Az rfl rfl (by rw[SH fun j hj=>hno j hj hj])
theorem M5(l:List (Int×Int))(vl:Value)(cf:FuncId)(cs:List Value)(pr:Int×Int->Bool)(h:Hp)(hR:RdL cD 2 h [] vl l)(hn:l.length<=1000000)
  (hc:∀xs w,(callFunc cf xs).run Tryz.prog w=.ok (.enter cf xs) w)
  (hp:∀s∈l,∀ms,FnV Tryz.prog cf ([]++[Value.agg (cD s).toArray]++cs).toArray h ms (.bool (pr s))) (ms:List Hp) :
  FnV Tryz.prog 67 #[vl,.func (.func cf) #[] cs.toArray] h ms (.bool (decide (0<=NA l pr))):=by
 refine EO ?_ ms;refine Ap func67 ntmps67 rfl rfl (fun w0 hw0=>?_);simp only[AX];refine As (Qm rfl (BK (Qm rfl (Qm rfl (Qx (AL rfl call138 rfl (EO (Sz l vl cf cs pr h hR hn hc hp) _)) rfl (Qm rfl (Qm rfl (Am (An ?_)))))))));exact Az rfl rfl (rfl)
theorem Vd(F:List (Int×Int))(s:Int×Int)(i:Int)(g1 g2 gA:Nat)(mA:Hp)(bs:List Nat)(h:Hp)(hO:CO kN kN gA BH mA (BD F) bs)(lA:mA.le h)(h1:∀ms,Cell h ms (⟨g1,0,none⟩:Addr) (.map (some gA)))(h2:∀ms,Cell h ms (⟨g2,0,none⟩:Addr) (.int .i64 i))(hi:BH i)(hs:BH s.1)(ms:List Hp) :
  FnV Tryz.prog 68 ([]++[Value.agg (cD s).toArray]++[Value.pointer (some ⟨g1,0,none⟩),.pointer (some ⟨g2,0,none⟩)]).toArray h ms (.bool (decide (Fv F s.1>Fv F i))):=by
 refine EO ?_ ms;show FnT _ _ #[.agg #[.int .i64 s.1,.int .i64 s.2],.pointer (some ⟨g1,0,none⟩),.pointer (some ⟨g2,0,none⟩)] _ _ _;refine Ap func68 ntmps68 rfl rfl (fun w0 hw0=>?_);simp only[AX];refine As (AV [_,_] rfl rfl (by rfl) rfl rfl rfl (fun g3=>Qm rfl (Am (AC fun h3 l3 hS=>?_))));have e0:∀ms,Cell h3 ms (⟨g3,0,none⟩:Addr) (.int .i64 s.1):=fun ms=>Seg.all hS 0 _ rfl ms;have h1:∀ms,Cell h3 ms (⟨g1,0,none⟩:Addr) (.map (some gA)):=fun ms=>(h1 ms).le l3;have h2:∀ms,Cell h3 ms (⟨g2,0,none⟩:Addr) (.int .i64 i):=fun ms=>(h2 ms).le l3;refine As (Ql rfl Lw (h1 _) (Qf B6 rfl (Ql rfl U3 (e0 _) (Qx (Cf (V:=kN) (z:=(0:Int)) (u:=Fv F s.1) s.1 rfl Bs hO (AJ lA l3) rfl Lw HH rfl rfl hs) rfl (Ql rfl Lw (h1 _) (Qf Bt rfl (Ql rfl U3 (h2 _) (Qx (Cf (V:=kN) (z:=(0:Int)) (u:=Fv F i) i rfl Bs hO (AJ lA l3) rfl Lw HH rfl rfl hi) rfl (Qm rfl (Qm rfl (Am (An ?_))))))))))));exact Az rfl rfl (rfl)
variable {o:List Cl} {F:List (Int×Int)} {i:Nat} {e:Int×Int}
def fA(o:List Cl)(F:List (Int×Int))(i:Nat):Option (Int×Int):=
 if(LW o (F.getD i (0,0)).1).isSome=false then some ((F.getD i (0,0)).1,30)
 else if(F.getD i (0,0)).1∈(F.take i).map Prod.fst then some ((F.getD i (0,0)).1,54) else none
def fB(o:List Cl)(F:List (Int×Int))(i:Nat):Option (Int×Int):=
 if(o.getD i default).id ∉ F.map Prod.fst then some ((o.getD i default).id,30) else none
def YR(o:List Cl)(F:List (Int×Int))(i:Nat):Prop:=∃s∈(o.getD i default).sd,Fv F s.1>Fv F (o.getD i default).id
instance (o:List Cl) (F:List (Int×Int)) (i:Nat):Decidable (YR o F i):=by unfold YR;infer_instance
def fC(o:List Cl)(F:List (Int×Int))(i:Nat):Option (Int×Int):=
 if YR o F i then some ((o.getD i default).id,44) else none
def Cy(o:List Cl)(F:List (Int×Int)):Int×Int:=
 match (range F.length).findSome? (fA o F) with
 | some e=>e
 | none=>match (range o.length).findSome? (fB o F) with
  | some e=>e
  | none=>match (range o.length).findSome? (fC o F) with
   | some e=>e
   | none=>(0,0)
theorem Ns(hi:i<F.length)(h:∀j,j<i->fA o F j=none)(he:fA o F i=some e):Cy o F=e:=by unfold Cy;rw[Dx h he F.length hi]
theorem UT(hA:∀j,j<F.length->fA o F j=none)(hi:i<o.length)(h:∀j,j<i->fB o F j=none)(he:fB o F i=some e):Cy o F=e:=by unfold Cy;rw[Co F.length hA,Dx h he o.length hi]
theorem W2(hA:∀j,j<F.length->fA o F j=none)(hB:∀j,j<o.length->fB o F j=none)(hi:i<o.length)(h:∀j,j<i->fC o F j=none)(he:fC o F i=some e):Cy o F=e:=by unfold Cy;rw[Co F.length hA,Co o.length hB,Dx h he o.length hi]
theorem MX(hA:∀j,j<F.length->fA o F j=none)(hB:∀j,j<o.length->fB o F j=none)(hC:∀j,j<o.length->fC o F j=none):Cy o F=(0,0):=by unfold Cy;rw[Co F.length hA,Co o.length hB,Co o.length hC]
structure Gs(F:List (Int×Int)):Prop where
 n:F.length<=1000000
 k:∀p∈F,BH p.1
theorem Dc(l:List Ce)(F:List (Int×Int))(v vf:Value)(hp:Hp)(hK:RgC l)(hR:RdC hp v l)(hF:RdL cV 2 hp [] vf F)(hV:Gs F):FnT Tryz.prog 24 #[.agg #[v],vf] hp [] (fun r _ _=>r=.tuple #[.int .i64 (Cy (cn l) F).1,.int .i64 (Cy (cn l) F).2]):=by
 have o1:=hR.q.rd.one;have o2:=hF.rd.one;have hG:=hK.F.rgt;have hFn:=hV.n;have hln:l.length<=4000:=by have:=hG.n;rwa [Ds]at this
 refine Ap func24 ntmps24 rfl rfl (fun w0 hw0=>?_);simp only[AX];refine As (AV [_] rfl rfl (by rfl) rfl rfl rfl (fun g2=>Qm rfl (Qm rfl (Am (AC fun h1 l1 hS=>?_)))));have hR:=hR.up l1;have hF:=hF.up l1;refine Ac (As (Qx (oG rfl CF AW (Seg.any hS)) rfl (Qx (AL rfl call28 rfl (EO (L9 l v h1 hK hR) _)) rfl (Qm rfl (Qm rfl (Qm rfl (Qm rfl (Qm rfl (BK (Qm rfl (Qm rfl (Am (Aq rfl (fun hc=>absurd hc (fun h=>h rfl)) (fun hc=>Ah (Ab (As (C3 (K:=kN) (V:=vB) (Ok:=BH) rfl rfl rfl rfl (fun gS mS hS0=>Qm rfl (Am ?_)))))))))))))))))));refine A9 (fun sl h' ms'=>∃(mS:Hp) (TS:List (Int×Bool)) (bs:List Nat),sl=[(1,vf),(2,.pointer (some ⟨g2,0,none⟩)),(8,.map (some gS))]/\h1.le h'/\ms'=[mS]/\CO kN vB gS BH mS TS bs/\Om TS/\(∀x,x∈Hd TS<->x∈F.map Prod.fst)/\∀j,j<F.length->fA (cn l) F j=none) ?_ (fun s h ms hI=>?_)
 ·refine Ac (Ad (Qm rfl (Qx (Ar hF.rd.any rfl FP rfl) rfl (Qm rfl (Am (Ag ?_))))))
  refine Ay (fun q sl h' ms'=>∃(i:Nat) (mS:Hp) (TS:List (Int×Bool)) (bs:List Nat),q=F.length-i/\sl=[(1,vf),(2,.pointer (some ⟨g2,0,none⟩)),(8,.map (some gS)),(29,vf),(30,.int .i64 F.length),(31,.int .i64 i)]/\h1.le h'/\ms'=[mS]/\i<=F.length/\CO kN vB gS BH mS TS bs/\Om TS/\(∀x,x∈Hd TS<->x∈(F.take i).map Prod.fst)/\∀j,j<i->fA (cn l) F j=none)
   (F.length-0) _ ⟨0,mS,[],[],rfl,rfl,C9,rfl,by omega,hS0,fun p hp=>(nomatch hp),fun x=>by simp,fun j h=>by omega⟩ Qs ?_
  rintro q sl h2 ms' ⟨i,mS,TS,bs,rfl,rfl,l2,rfl,hi,hO,hA,hk,hno⟩;have hF:=hF.up l2;refine As (Qm rfl (Am (Ac ?_)));refine Aq rfl (fun hlt=>?_) (fun hlt=>?_)
  ·have hil:i<F.length:=by omega
   obtain⟨p,hp⟩:∃p,F[i]=p:=⟨_,rfl⟩
   have hgp:F.getD i (0,0)=p:=by simp[List.getD,hil,hp]
   have hpI:BH p.1:=hV.k p (by rw[<-hp];exact getElem_mem hil);have hsx:∀ms,Seg h2 ms ((AF vf).add (i*2)) (cV p):=fun ms=>by rw[<-hp];exact(hF.any (ms:=ms)).seg hil
   have hS2:=hS.le l2;refine Ah (Ab (Ac (Ag (As (Qx (BF (i) hF.rd.any rfl FP Cx rfl rfl) rfl (Qx (oG rfl U47 Cx (hsx _)) rfl (Cz [.int .i64 0,.int .i64 0] rfl Cx rfl rfl (fun g10=>?_))))))));refine Sa 0 [_,_] Cx rfl (by simp[Value.oneCell']) ?_;refine Am (AC fun h3 l3 hS10=>?_);have e0:∀ms,Cell h3 ms (⟨g10,0,none⟩:Addr) (.int .i64 p.1):=fun ms=>Seg.all hS10 0 _ rfl ms;have hS3:=hS2.le l3;have l13:=AJ l2 l3;refine Ac (As (Qx (oG rfl CF AW (Seg.any hS3)) rfl (Qf EJ rfl (Ql rfl U3 (e0 _) (Qc call21 rfl (Vc l v p.1 h3 hK hpI (hR.up l13)) (fun rF h4 ms4 l4 hQ=>?_))))));obtain⟨l4',y,rfl,hyc,hyR⟩:=hQ;refine Em ?_ ms4;have oy:=hyR.rd.one;have e0:∀ms,Cell h4 ms (⟨g10,0,none⟩:Addr) (.int .i64 p.1):=fun ms=>(e0 ms).le l4;have l14:=AJ l13 l4;obtain⟨bb,hbb⟩:∃bb,(LW (cn l) p.1).isSome=bb:=⟨_,rfl⟩
   rw[hbb];refine Qm rfl (Qm rfl (Qm rfl (Cz [.int .i64 0,.int .i64 0,.slice none 0 0] rfl AI rfl rfl (fun g11=>?_))));refine Sa 0 [_,_,_] AI rfl (by simp[o1,o2,oy]) ?_;refine Qm rfl (BK (Qm rfl (Qm rfl (Am ?_))));refine Bz rfl (fun hn=>?_) (fun hn=>?_)
   ·have hbf:bb=false:=by cases bb<;>simp at hn ⊢
    have hch:=Ns (o:=cn l) hil hno (by unfold fA;rw[hgp,hbb,if_pos hbf]);refine As (Qf EJ rfl (Ql rfl U3 (e0 _) (Qm rfl (Qm rfl (Am (An (Ae (Aj (Ae (Ae (Aj (Ae ?_))))))))))));exact Bo rfl rfl rfl (by rw[hch])
   ·have hbt:¬bb=false:=by cases bb<;>simp at hn ⊢
    refine Ah (Ab (Ac (As (Qm rfl (Qf EJ rfl (Ql rfl U3 (e0 _) (Qx (HC (V:=vB) (z:=false) p.1 Bs hO (by simp) rfl Yh UP rfl rfl hpI) rfl ?_)))))));rw[Ke hA];refine Am ?_;refine Bz rfl (fun hin=>?_) (fun hin=>?_)
    ·have him:p.1∈Hd TS:=of_decide_eq_true hin;have hch:=Ns (o:=cn l) hil hno (by unfold fA;rw[hgp,hbb,if_neg hbt,if_pos ((hk _).1 him)]);refine As (Qf EJ rfl (Ql rfl U3 (e0 _) (Qm rfl (Qm rfl (Am (An (Ae (Aj (Ae (Ae (Aj (Ae ?_))))))))))));exact Bo rfl rfl rfl (by rw[hch])
    ·have him:p.1 ∉ Hd TS:=fun q=>by rw[decide_eq_true q]at hin;cases hin
     have hci:fA (cn l) F i=none:=by unfold fA;rw[hgp,hbb,if_neg hbt,if_neg fun q=>him ((hk _).2 q)]
     have hk':∀x,x∈Hd (C4 TS p.1 true)<->x∈(F.take (i+1)).map Prod.fst:=fun x=>by rw[List.take_succ_eq_append_getElem hil,hp,map_append,List.mem_append,map_cons,List.map_nil,List.mem_singleton,<-hk x,Fg];exact⟨fun q=>q.symm,fun q=>q.symm⟩
     refine Ah (Ab (Ad (Qm rfl (Qf EJ rfl (Ql rfl U3 (e0 _) (BU (V:=vB) (z:=undef) 1 p.1 true Bs hO rfl rfl Yh rfl rfl rfl hpI rfl rfl (fun mS' bs' hO'=>Ak (Ai (Ab (Ad (Qx (oA rfl) rfl (Qm rfl (Ak (AN ?_))))))))))))))
     exact Al (F.length-(i+1)) _ (by omega) ⟨i+1,mS',_,bs',rfl,rfl,AJ l13 l4,rfl,by omega,hO',OG hA p.1,hk',fun j hj=>by
      rcases (by omega:j<i\/j=i) with h1|rfl
      ·exact hno j h1
      ·exact hci⟩ Qs
  ·obtain rfl:i=F.length:=by omega
   rw[take_length]at hk;refine Av (Aa (Aa (Af ?_)));exact AD _ ⟨mS,TS,bs,rfl,l2,rfl,hO,hA,hk,hno⟩ Qs
 ·obtain⟨mS,TS,bs,rfl,l2,rfl,hO,hA,hk,hno⟩:=hI;have hR:=hR.up l2;have hF:=hF.up l2;have hS2:=hS.le l2;refine As (Qx (oG rfl CF AW (Seg.any hS2)) rfl (Qc call65 rfl (Hm l v _ hK hR) (fun rC h3 ms3 l3 hQ=>?_)));obtain⟨l3',mA,A,vA,rfl,rfl,hOA,hAl,hsA⟩:=hQ;refine BA hOA fun hq l4 hQ=>?_;have hsA:=fun a ha=>(hsA a ha).up l4;have hF:=hF.up (AJ l3 l4);have ovA:=hQ.rd.one;have hol:(cn l).length=A.length:=by rw[<-hAl,length_map]
  have hAn:A.length<=4000:=by rw[<-hol,Ds];exact hln
  have hget:∀i (hi:i<A.length),(cn l).getD i default=A[i].c:=fun i hi=>by rw[<-hAl];simp[List.getD,hi]
  have hpos:=hG.pos;obtain⟨o,ho⟩:∃o,cn l=o:=⟨_,rfl⟩
  have hAI:∀a∈A,BH a.c.id:=fun a ha=>by
   have h1:a.c∈cn l:=by rw[<-hAl];exact List.mem_map.2 ⟨a,ha,rfl⟩
   have h2:=hpos _ h1;have h3:=hK.ci h1;unfold BH;omega
  have hAs:∀a∈A,a.c.sd.length<=64/\∀s∈a.c.sd,BH s.1:=fun a ha=>by
   have h1:a.c∈cn l:=by rw[<-hAl];exact List.mem_map.2 ⟨a,ha,rfl⟩
   refine⟨(hK.F.bds h1).2.1,fun s hs=>?_⟩;obtain⟨y,hy,e,_⟩:=hG.sid _ h1 s hs;have h2:=hpos _ hy;have h3:=hK.ci hy;rw[<-e];unfold BH;omega
  rw[ho]at hol hno hget ⊢;refine Qx (DD rfl CF rfl Bh rfl rfl rfl) rfl (Qm rfl (Am ?_));refine A9 (fun sl h' ms'=>∃(mS:Hp),sl=[(1,vf),(13,vA)]/\hq.le h'/\ms'=[mS]/\∀j,j<A.length->fB o F j=none) ?_ (fun s h ms hI=>?_)
  ·refine Ac (Ad (Qm rfl (Qx (Ar hQ.rd.any rfl Bh rfl) rfl (Qm rfl (Am (Ag ?_))))))
   refine Ay (fun q sl h' ms'=>∃(i:Nat),q=A.length-i/\sl=[(1,vf),(8,.map (some gS)),(13,vA),(59,vA),(60,.int .i64 A.length),(61,.int .i64 i)]/\hq.le h'/\ms'=[mS]/\i<=A.length/\∀j,j<i->fB o F j=none)
    (A.length-0) _ ⟨0,rfl,rfl,C9,rfl,by omega,fun j h=>by omega⟩ Qs ?_
   rintro q sl h5 ms' ⟨i,rfl,rfl,l5,rfl,hi,hnB⟩;have hQ:=hQ.up l5;refine As (Qm rfl (Am (Ac ?_)));refine Aq rfl (fun hlt=>?_) (fun hlt=>?_)
   ·have hil:i<A.length:=by omega
    obtain⟨x,hx⟩:∃x,A[i]=x:=⟨_,rfl⟩
    have hxm:x∈A:=by rw[<-hx];exact getElem_mem hil
    have hgx:=hget i hil;rw[hx]at hgx;have hX:=(hsA x hxm).up l5;have oxv:=hX.rd.one;have hxI:=hAI x hxm;have hsx:∀ms,Seg h5 ms ((AF vA).add (i*3)) (cC x):=fun ms=>by rw[<-hx];exact(hQ.any (ms:=ms)).seg hil
    refine Ah (Ab (Ac (Ag (As (Qx (BF (i) hQ.rd.any rfl Bh AI rfl rfl) rfl (Qx (oG rfl Ef AI (hsx _)) rfl (Cz [.int .i64 0,.int .i64 0,.slice none 0 0] rfl AI rfl rfl (fun g15=>?_))))))));refine Sa 0 [_,_,_] AI rfl (by simp[o1,o2,ovA,oxv]) ?_;refine Am (AC fun h6 l6 hS8=>?_);have e80:∀ms,Cell h6 ms (⟨g15,0,none⟩:Addr) (.int .i64 x.c.id):=fun ms=>Seg.all hS8 0 _ rfl ms;refine As (Qm rfl (Qf Bt rfl (Ql rfl U3 (e80 _) (Qx (HC (V:=vB) (z:=false) x.c.id Bs hO (by simp) rfl Yh UP rfl rfl hxI) rfl ?_))));rw[Ke hA];refine Qm rfl (Am ?_);refine Bz rfl (fun hin=>?_) (fun hin=>?_)
    ·have hni:x.c.id ∉ F.map Prod.fst:=fun q=>by rw[decide_eq_true ((hk _).2 q)]at hin;cases hin
     have hch:=UT (o:=o) (F:=F) hno (by rw[hol];exact hil) hnB (by unfold fB;rw[hgx,if_pos hni]);refine As (Qf Bt rfl (Ql rfl U3 (e80 _) (Qm rfl (Qm rfl (Am (An (Aj (Ae (Ae (Aj (Ae ?_)))))))))));exact Bo rfl rfl rfl (by rw[hch])
    ·have hni:x.c.id∈F.map Prod.fst:=Classical.byContradiction fun q=>by rw[decide_eq_false fun w=>q ((hk _).1 w)]at hin;cases hin
     have hci:fB o F i=none:=by unfold fB;rw[hgx,if_neg fun q=>q hni]
     refine Ah (Ai (Ab (Ad (Qx (oA rfl) rfl (Qm rfl (Ak ?_))))))
     exact Al (A.length-(i+1)) _ (by omega) ⟨i+1,rfl,rfl,AJ l5 l6,rfl,by omega,fun j hj=>by
      rcases (by omega:j<i\/j=i) with h1|rfl
      ·exact hnB j h1
      ·exact hci⟩ Qs
   ·obtain rfl:i=A.length:=by omega
    refine Av (Aa (Aa (Af ?_)));exact AD _ ⟨mS,rfl,l5,rfl,hnB⟩ Qs
  ·obtain⟨mS,rfl,l5,rfl,hnB⟩:=hI;have hQ:=hQ.up l5;have hF:=hF.up l5;have hsA:=fun a ha=>(hsA a ha).up l5;refine As (Qm rfl (Qc call66 rfl (Hf F vf _ hF hV.n hV.k) (fun rL h6 ms6 l6 hL=>?_)));obtain⟨l6',gL,mL,bL,rfl,rfl,hOL⟩:=hL;refine Cz [.map none] rfl Yv rfl rfl (fun g16=>AS 0 0 rfl Yv rfl rfl (by rfl) rfl rfl (by decide) rfl rfl (Am (AC fun h7 l7 hS7=>(Bq fun h8 l8 k8=>?_))));have e16:∀ms,Cell h8 ms (⟨g16,0,none⟩:Addr) (.map (some gL)):=fun ms=>(Seg.all hS7 0 _ rfl ms).le l8;have l58:=AJ l6 (AJ l7 l8);have hQ:=hQ.up l58;have hsA:=fun a ha=>(hsA a ha).up l58;refine Ac (As (Qm rfl (Qx (Ar hQ.rd.any rfl Bh rfl) rfl (Qm rfl (Am (Ag ?_))))))
   refine Ay (fun q sl h' ms'=>∃(i:Nat),q=A.length-i/\sl=[(16,.pointer (some ⟨g16,0,none⟩)),(75,vA),(76,.int .i64 A.length),(77,.int .i64 i)]/\h8.le h'/\ms'=[mS]/\i<=A.length/\∀j,j<i->fC o F j=none)
    (A.length-0) _ ⟨0,rfl,rfl,C9,rfl,by omega,fun j h=>by omega⟩ Qs ?_
   rintro q sl h9 ms' ⟨i,rfl,rfl,l9,rfl,hi,hnC⟩;have hQ:=hQ.up l9;have e16:∀ms,Cell h9 ms (⟨g16,0,none⟩:Addr) (.map (some gL)):=fun ms=>(e16 ms).le l9;have k9:=AJ k8 l9;refine As (Qm rfl (Am (Ac ?_)));refine Aq rfl (fun hlt=>?_) (fun hlt=>?_)
   ·have hil:i<A.length:=by omega
    obtain⟨x,hx⟩:∃x,A[i]=x:=⟨_,rfl⟩
    have hxm:x∈A:=by rw[<-hx];exact getElem_mem hil
    have hgx:=hget i hil;rw[hx]at hgx;have hX:=(hsA x hxm).up l9;have oxv:=hX.rd.one;have hxI:=hAI x hxm;obtain⟨hxn,hxs⟩:=hAs x hxm;have hsx:∀ms,Seg h9 ms ((AF vA).add (i*3)) (cC x):=fun ms=>by rw[<-hx];exact(hQ.any (ms:=ms)).seg hil
    refine Ah (Ab (Ac (Ag (As (Qx (BF (i) hQ.rd.any rfl Bh AI rfl rfl) rfl (Qx (oG rfl Ef AI (hsx _)) rfl (Cz [.int .i64 0,.int .i64 0,.slice none 0 0] rfl AI rfl rfl (fun g18=>?_))))))));refine Sa 0 [_,_,_] AI rfl (by simp[o1,o2,ovA,oxv]) ?_;refine Am (AC fun h10 l10 hS10=>?_);have e10:∀ms,Cell h10 ms (⟨g18,0,none⟩:Addr) (.int .i64 x.c.id):=fun ms=>Seg.all hS10 0 _ rfl ms;have e12:∀ms,Cell h10 ms (⟨g18,2,none⟩:Addr) x.v:=fun ms=>Seg.all hS10 2 _ rfl ms;have hX:=hX.up l10;have hct:=fun ms=>M5 x.c.sd x.v 68 [Value.pointer (some ⟨g16,0,none⟩),.pointer (some ⟨g18,0,none⟩)] (fun s=>decide (Fv F s.1>Fv F x.c.id)) h10 hX (by omega) (fun _ _=>rfl) (fun s hs ms=>Vd F s x.c.id g16 g18 gL mL bL h10 hOL (AJ k9 l10) (fun ms=>(e16 ms).le l10) e10 hxI (hxs s hs) ms) ms;obtain⟨bb,hbb⟩:∃bb,decide (0<=NA x.c.sd fun s=>decide (Fv F s.1>Fv F x.c.id))=bb:=⟨_,rfl⟩
    have hub:bb=true<->YR o F i:=by rw[<-hbb,decide_eq_true_iff,VJ];unfold YR;rw[hgx];exact⟨fun⟨s,h1,h2⟩=>⟨s,h1,of_decide_eq_true h2⟩,fun⟨s,h1,h2⟩=>⟨s,h1,decide_eq_true h2⟩⟩
    rw[hbb]at hct;refine As (Qf BB rfl (Ql rfl BZ (e12 _) (Qx (BW rfl rfl rfl) rfl (Qx (AL rfl call67 rfl (hct _)) rfl (Am ?_)))));refine Bz rfl (fun hin=>?_) (fun hin=>?_)
    ·have hch:=W2 (o:=o) (F:=F) hno (by rw[hol];exact hnB) (by rw[hol];exact hil) hnC (by unfold fC;rw[hgx,if_pos (hub.1 hin)]);refine As (Qf Bt rfl (Ql rfl U3 (e10 _) (Qm rfl (Qm rfl (Am (An (Aj (Ae (Ae (Aj (Ae ?_)))))))))));exact Bo rfl rfl rfl (by rw[hch])
    ·have hci:fC o F i=none:=by unfold fC;rw[if_neg fun q=>by rw[hub.2 q]at hin;cases hin]
     refine Ah (Ai (Ab (Ad (Qx (oA rfl) rfl (Qm rfl (Ak ?_))))))
     exact Al (A.length-(i+1)) _ (by omega) ⟨i+1,rfl,rfl,AJ l9 l10,rfl,by omega,fun j hj=>by
      rcases (by omega:j<i\/j=i) with h1|rfl
      ·exact hnC j h1
      ·exact hci⟩ Qs
   ·obtain rfl:i=A.length:=by omega
    have hch:=MX (o:=o) (F:=F) hno (by rw[hol];exact hnB) (by rw[hol];exact hnC);refine Av (Aa (Aa (Af (Ab (As (Qm rfl (Qm rfl (Am (An ?_)))))))));exact Bo rfl rfl rfl (by rw[hch])
end Go.Proofs.Q
namespace Go.Proofs.Q
open Go.Proofs.Tryz
open Go.Eng Go.RowKit Go.Lin
variable {p:Int}
def IsP(p:Int):Prop:=2<=p/\p<=997/\∀k,k<p.toNat->2<=k->p.toNat%k≠0
instance (p:Int):Decidable (IsP p):=by unfold IsP;infer_instance
theorem IsP.prm(h:IsP p):Prm p.toNat:=by obtain⟨h1,h2,h3⟩:=h;refine Iz (by omega) fun k hk hkk=>h3 k ?_ hk;have:2*k<=k*k:=Nat.mul_le_mul_right k hk;omega
theorem IsP.fld(h:IsP p):Ez p:=by
 have:=h.prm.fld
 rwa [Int.toNat_of_nonneg (by have:=h.1;omega)]at this
theorem NF(h2:2<=p)(h9:p<=997)(j:Nat)(hj:p<(j:Int)*j)(h:∀k,2<=k->k<j->p.toNat%k≠0):IsP p:=by
 refine⟨h2,h9,fun k hk h2k he=>?_⟩
 have hp:Prm p.toNat:=by
  refine Iz (by omega) fun k hk hkk=>h k hk (Nat.lt_of_not_le fun hle=>?_);have h1:j*j<=k*k:=Nat.mul_le_mul hle hle;have h2:((j*j:Nat):Int)=(j:Int)*j:=by simp
  omega
 rcases hp.2 k (Nat.dvd_of_mod_eq_zero he) with h|h<;>omega
theorem Xc(hp:0<=p)(k:Nat)(hk:0<k):p%(k:Int)=((p.toNat%k:Nat):Int):=by rw[Int.natCast_emod,Int.toNat_of_nonneg hp]
theorem UC(p:Int)(h:Hp)(hI:BH p):FnT Tryz.prog 54 #[.int .i64 p] h [] (fun r _ _=>r=.bool (decide (IsP p))):=by
 have hI1:=hI.1;have hI2:=hI.2;refine Ap func54 ntmps54 rfl rfl (fun w0 hw0=>?_);simp only[AX];refine As (Qm rfl (Am (Ac (As (Qm rfl (Qm rfl (Qm rfl ?_)))))));refine AQ (t:=6) rfl (fun hs=>?_) (fun hs=>?_)
 ·refine Qk rfl (Qk rfl (Qm rfl (Am (BE rfl (As (Qm rfl (Am (An (Ae ?_)))))))));exact Az rfl rfl (by rw[decide_eq_false];exact fun h=>absurd h.1 (by omega))
 ·refine Qg (Au rfl rfl) rfl (Qg (Cw rfl rfl rfl) rfl (Qm rfl (Am ?_)));refine Aq rfl (fun hs2=>?_) (fun hs2=>?_)
  ·refine Ac (Ad (Qm rfl (Am (An (Ae ?_)))));exact Az rfl rfl (by rw[decide_eq_false];exact fun h=>absurd h.2.1 (by omega))
  ·refine Ah (Ab (Ac (As (Qm rfl (Am (Ag ?_))))))
   refine Ay (fun n s h' ms'=>∃(k:Nat),n=1000-k/\s=[(0,.int .i64 p),(3,.int .i64 k)]/\h=h'/\ms'=[]/\2<=k/\k<=1000/\∀j,2<=j->j<k->p.toNat%j≠0)
    (1000-2) _ ⟨2,rfl,rfl,rfl,rfl,by omega,by omega,fun j h1 h2=>by omega⟩ Qs ?_
   rintro n s h' ms' ⟨k,rfl,rfl,rfl,rfl,h2,hk,hno⟩
   have hkk:(k:Int)*k<=1000*1000:=by
    have h1:k*k<=1000*1000:=Nat.mul_le_mul hk hk;have h2:((k*k:Nat):Int)=(k:Int)*k:=by simp
    omega
   have hkk0:0<=(k:Int)*k:=Int.mul_nonneg (by omega) (by omega);have hk4:2*(k:Int)<=(k:Int)*k:=Int.mul_le_mul_of_nonneg_right (by omega) (by omega);refine Ac (As (Qm rfl (Qm rfl (Qx (oM rfl) rfl (Qm rfl (Qm rfl (Am ?_)))))));refine Aq rfl (fun hlt=>?_) (fun hlt=>?_)
   ·refine Ah (Ab (Ac (Ag (As (Qm rfl (Qm rfl (Qx (Cc rfl rfl rfl (by omega) (by omega)) rfl (Qm rfl (Am ?_)))))))));have hm:=Xc (p:=p) (by omega) k (by omega);refine Aq rfl (fun hz=>?_) (fun hz=>?_)
    ·refine Ac (Ad (Qm rfl (Am (An (Aj (Ae (Ae (Aj (Ae ?_)))))))));exact Az rfl rfl (by rw[decide_eq_false];exact fun h=>absurd (show p.toNat%k=0 by omega) (h.2.2 k (by omega) h2))
    ·refine Ah (Ai (Ab (Ad (Qm rfl (Qx (oA rfl) rfl (Qm rfl (Ak ?_)))))));refine Al (1000-(k+1)) _ (by omega) ⟨k+1,rfl,rfl,rfl,rfl,by omega,by omega,fun j h1 h3=>?_⟩ Qs;rcases (by omega:j<k\/j=k) with h4|h4
     ·exact hno j h1 h4
     ·subst h4;omega
   ·refine Av (Aa (Aa (Af (Ab (As (Qm rfl (Am (An ?_))))))));exact Az rfl rfl (by rw[decide_eq_true];exact NF (by omega) (by omega) k (by omega) hno)
theorem J6(p:Int)(h:Hp)(hI:BH p)(ms:List Hp):FnV Tryz.prog 54 #[.int .i64 p] h ms (.bool (decide (IsP p))):=by refine fun w hw=>(?_:FnV _ _ _ h [] _) w (hw.weaken (C9) (List.nil_sublist _));exact FnT.toV (UC p h hI)
def IsLast(l:List Int)(r:Int):Prop:=(∃(i:Nat) (hi:i<l.length),r=i/\l[i]≠0/\∀j (hj:j<l.length),i<j->l[j]=0)\/(r=-1/\∀j (hj:j<l.length),l[j]=0)
def Zs(l:List Int)(k:Nat):List Value:=[.int .i64 ((l.length:Int)-1-k),.int .i64 (l.getD (l.length-1-k) 0)]
theorem Un(g:Nat)(v:Value)(l:List Int)(h:Hp)(hG:Seg h [] ⟨g,0,none⟩ [v])(hR:RdL cI 1 h [] v l)(hn2:l.length<=1000000):Z7 Tryz.prog 203 [.pointer (some ⟨g,0,none⟩)] h l.length (Zs l):=by
 intro lp X Y h1 ms hl hY h0;show FnT _ _ #[.func (.yield lp) #[] #[],.pointer (some ⟨g,0,none⟩)] _ _ _;have hG:=hG.le hl;have hR:=hR.up hl;obtain⟨n,hn⟩:∃n,l.length=n:=⟨_,rfl⟩
 rw[hn]at hn2 hY;refine Ap func203 ntmps203 rfl rfl (fun w0 hw0=>?_);simp only[AX];refine Ac (Dt (DB (oL rfl AU ((hG.at0 rfl).any)) rfl rfl rfl (DB (Ar hR.rd.any rfl AU rfl) rfl rfl rfl (DB (oS rfl) rfl rfl rfl (DB (F3 rfl rfl) rfl rfl rfl (FK (Ab (Ag ?_))))))))
 refine Ay (fun q s hh ms'=>∃(k:Nat),q=n-k/\s=[(0,.func (.yield lp) #[] #[]),(1,.pointer (some ⟨g,0,none⟩)),(3,.int .i64 ((n:Int)-1-k))]/\h1.le hh/\k<=n/\X k hh ms')
  (n-0) [(0,.func (.yield lp) #[] #[]),(1,.pointer (some ⟨g,0,none⟩)),(3,.int .i64 ((l.length:Int)-1))] ⟨0,rfl,by rw[hn,show((n:Int)-1-(0:Nat))=(n:Int)-1 by omega],C9,by omega,h0⟩ Qs ?_
 rintro q s hh ms' ⟨k,rfl,rfl,lh,hk,hX⟩;refine Ac (Ac (Dt (DB (Au rfl rfl) rfl rfl rfl (DB (Lc rfl rfl rfl) rfl rfl rfl (FK (Ab ?_))))));refine Aq rfl (fun hlt=>?_) (fun hlt=>?_)
 ·have hkn:k<n:=by omega
  have hG2:=hG.le lh;have hR2:=hR.up lh;have hi:n-1-k<l.length:=by omega
  have hc:∀ms,Cell hh ms ((AF v).add ((n-1-k)*1)) (.int .i64 (l.getD (n-1-k) 0)):=fun ms=>by rw[show l.getD (n-1-k) 0=l[n-1-k] by simp[List.getD,hi]];exact(hR2.any (ms:=ms)).cell0 hi rfl
  refine Ah (Ab (Ac (Ag (Ac (Dt (DB (Au rfl rfl) rfl rfl rfl (DB (Au rfl rfl) rfl rfl rfl (DB (oL rfl AU ((hG2.at0 rfl).any)) rfl rfl rfl (DB (Au rfl rfl) rfl rfl rfl (DB (BF (n-1-k) hR2.rd.any rfl AU A6 rfl rfl) rfl rfl rfl (DB (oL rfl U3 (hc _)) rfl rfl rfl ?_)))))))))));have hyk:=hY k hh ms' hkn lh hX;unfold Zs at hyk;rw[hn]at hyk;refine OK rfl rfl rfl (hyk) rfl rfl rfl (fun r h2 ms2 l2 hr=>?_);rcases hr with ⟨rfl,hX2⟩|⟨rfl,hX2⟩
  ·refine DB (G6 rfl rfl) rfl rfl rfl (FK (Ab (AP rfl (Ah (Ai (Ab (Dt (DB (Au rfl rfl) rfl rfl rfl (DB (oS rfl) rfl rfl rfl (DB (F3 rfl rfl) rfl rfl rfl (FK ?_)))))))))));refine Al (n-(k+1)) [(0,.func (.yield lp) #[] #[]),(1,.pointer (some ⟨g,0,none⟩)),(3,.int .i64 ((n:Int)-1-k-1))] (by omega) ⟨k+1,rfl,by rw[show((n:Int)-1-k-1)=(n:Int)-1-(k+1:Nat) by omega],AJ lh l2,by omega,hX2⟩ Qs
  ·refine DB (G6 rfl rfl) rfl rfl rfl (FK (Ab (BE rfl (An (Aj (Ae (Ae (Aj ?_))))))));exact FB rfl (.inr ⟨k,by omega,hX2⟩)
 ·obtain rfl:k=n:=by omega
  refine Av (Aa (Aa (Af ?_)));exact B7 rfl (.inl (by rw[hn];exact hX))
theorem QX(v:Value)(n:Nat)(cs:List Value)(h:Hp)(hR:Rd h [] v 1 n cs):FnT Tryz.prog 152 #[v] h [] (fun r h' ms'=>h=h'/\∃g,r=.func (.func 203) #[] #[.pointer (some ⟨g,0,none⟩)]/\ms'=[Bn g 22 [v]]):=by refine Ap func152 ntmps152 rfl rfl (fun w0 hw0=>?_);simp only[AX];refine As (AV [_] rfl rfl (Rd.cells ‹_›) rfl rfl rfl (fun g1=>Qm rfl (BK (Qx (BW rfl rfl rfl) rfl (Qm rfl (Am (An ?_)))))));exact Az rfl rfl (⟨rfl,_,rfl,rfl⟩)
end Go.Proofs.Q

namespace Go.Proofs.Q
open Go.Proofs.Tryz
open Go.Eng Go.RowKit Go.Lin
theorem IsLast.uniq{l:List Int}{x y:Int}(h1:IsLast l x)(h2:IsLast l y):x=y:=by
 rcases h1 with ⟨i,hi,rfl,q1,q2⟩|⟨rfl,q⟩<;>rcases h2 with ⟨j,hj,rfl,r1,r2⟩|⟨rfl,r⟩
 ·rcases Nat.lt_trichotomy i j with h|h|h
  ·exact absurd (q2 j hj h) r1
  ·rw[h]
  ·exact absurd (r2 i hi h) q1
 ·exact absurd (r i hi) q1
 ·exact absurd (q j hj) r1
 ·rfl
theorem IsLast.ex(l:List Int):∃x,IsLast l x:=by
 have key:∀n,n<=l.length->(∃(i:Nat) (hi:i<l.length),i<n/\l[i]≠0/\∀j (hj:j<l.length),i<j->j<n->l[j]=0)\/∀j (hj:j<l.length),j<n->l[j]=0:=fun n=>by
  induction n with
  | zero=>intro _;exact .inr fun j _ h=>by omega
  | succ n ih=>
   intro hn;by_cases h0:l[n]=0
   ·rcases ih (by omega) with ⟨i,hi,h1,h2,h3⟩|h
    ·refine .inl ⟨i,hi,by omega,h2,fun j hj h4 h5=>?_⟩;rcases (by omega:j<n\/j=n) with h6|rfl
     ·exact h3 j hj h4 h6
     ·exact h0
    ·refine .inr fun j hj h5=>?_;rcases (by omega:j<n\/j=n) with h6|rfl
     ·exact h j hj h6
     ·exact h0
   ·exact .inl ⟨n,by omega,by omega,h0,fun j hj h4 h5=>by omega⟩
 rcases key l.length (Nat.le_refl _) with ⟨i,hi,_,h2,h3⟩|h
 ·exact⟨i,.inl ⟨i,hi,rfl,h2,fun j hj h4=>h3 j hj h4 hj⟩⟩
 ·exact⟨-1,.inr ⟨rfl,fun j hj=>h j hj hj⟩⟩
noncomputable def Bl(l:List Int):Int:=Classical.choose (IsLast.ex l)
theorem IZ(l:List Int):IsLast l (Bl l):=Classical.choose_spec (IsLast.ex l)
theorem N3{l:List Int}{x:Int}(h:IsLast l x):Bl l=x:=(IZ l).uniq h
theorem GZ(l:List Int):-1<=Bl l/\Bl l<l.length:=by rcases IZ l with ⟨i,hi,e,_⟩|⟨e,_⟩<;>rw[e]<;>omega
theorem Xr(v:Value)(l:List Int)(h:Hp)(hR:RdL cI 1 h [] v l)(hn:l.length<=1000000):FnT Tryz.prog 95 #[v] h [] (fun r _ _=>r=.int .i64 (Bl l)):=by
 have ov:=hR.rd.one;refine LO func95 ntmps95 rfl rfl (fun w0 hw0=>?_);simp only[AX];refine As (Cz [.int .i64 0] rfl A6 rfl rfl (fun g2=>Am (Ac (As (Qm rfl (Qc call152 rfl (QX v l.length _ h hR.rd) (fun vf h10 ms10 l10 hF=>?_)))))));obtain⟨rfl,gb,rfl,rfl⟩:=hF;refine Am (Ag (AC fun h2 l2 hGb=>?_));have hR:=hR.up l2;have hI:=Un gb v l h2 hGb hR hn;refine HR (fun k hh ms=>ms=[Bn g2 3 [.int .i64 0]]/\∀j (hj:j<l.length),l.length-k<=j->l[j]=0) (fun k hh ms=>ms=[Bn g2 3 [.int .i64 ((l.length:Int)-1-k)]]/\IsLast l ((l.length:Int)-1-k)) (fun k s1 hh ms=>s1=[(2,.pointer (some ⟨g2,0,none⟩)),(3,.int .i64 ((l.length:Int)-1-k)),(4,.int .i64 (l.getD (l.length-1-k) 0))]/\ms=[Bn g2 3 [.int .i64 0]]/\∀j (hj:j<l.length),l.length-k<=j->l[j]=0) rfl call203 hI (fun k=>rfl) rfl ?_ ?_ ?_ ?_ ?_
 ·exact⟨rfl,fun j hj h=>by omega⟩
 ·rintro w1 k hh ms1 hk lh ⟨rfl,hz⟩;rw[show Zs l k=[.int .i64 ((l.length:Int)-1-k),.int .i64 (l.getD (l.length-1-k) 0)] from rfl];refine QQ (Es (by kernel_rfl) (Qm rfl (Ak (Ku (Es (by kernel_rfl) (Qm rfl (Ak ?_)))))));exact AD _ ⟨rfl,rfl,hz⟩ Qs
 ·rintro w1 k s1 hh ms1 hk lh ⟨rfl,rfl,hz⟩;have hi:l.length-1-k<l.length:=by omega
  have eg:l.getD (l.length-1-k) 0=l[l.length-1-k]:=by simp[List.getD,hi]
  refine O6 (QQ (Es (by kernel_rfl) (Qm rfl (Qm rfl (Ak (Ku ?_))))));refine AaF rfl (fun hne=>?_) (fun hne=>?_)
  ·refine QQ (Es (by kernel_rfl) (Qm rfl (AS 0 0 rfl A6 rfl rfl (by rfl) rfl rfl (by decide) rfl rfl (Ak (Ku (ZK (Aj ?_)))))));refine YG [] ⟨rfl,.inl ⟨l.length-1-k,hi,by omega,by rw[<-eg];exact hne,fun j hj hlt=>hz j hj (by omega)⟩⟩ trivial
  ·refine XY (Ai ?_);refine AD [] ⟨rfl,fun j hj hle=>?_⟩ trivial;rcases (by omega:l.length-k<=j\/j=l.length-1-k) with h1|rfl
   ·exact hz j hj h1
   ·rw[<-eg];exact Classical.not_not.1 hne
 ·rintro D hh ms1 lh ⟨rfl,hz⟩;refine Ai (Ab (As (AS 0 0 rfl A6 rfl rfl (by rfl) rfl rfl (by decide) rfl rfl (Am (An (J5 1 (.inr rfl) rfl ?_))))));exact Mw rfl rfl U3 rfl 0 rfl (by rw[N3 (.inr ⟨rfl,fun j hj=>hz j hj (by omega)⟩)])
 ·rintro D k hh ms1 hk lh ⟨rfl,hL⟩;refine J5 1 (.inr rfl) rfl ?_;exact Mw rfl rfl U3 rfl 0 rfl (by rw[N3 hL])
theorem US(v:Value)(l:List Int)(h:Hp)(hR:RdL cI 1 h [] v l)(hn:l.length<=1000000)(ms:List Hp):FnV Tryz.prog 95 #[v] h ms (.int .i64 (Bl l)):=EO (Xr v l h hR hn) ms
variable {p n t:Int} {i:Nat}
def GD(p n:Int):Int:=match (range p.toNat).find? (fun k:Nat=>decide (1<=k/\n*(k:Int)%p=1)) with|some k=>(k:Int)|none=>1
theorem Q5{k:Nat}(h1:1<=k)(hk:(k:Int)<p)(h:n*(k:Int)%p=1)(hno:∀j:Nat,1<=j->j<k->n*(j:Int)%p≠1):GD p n=k:=by
 unfold GD
 have:(range p.toNat).find? (fun k:Nat=>decide (1<=k/\n*(k:Int)%p=1))=some k:=List.find?_range_eq_some.2 ⟨decide_eq_true ⟨h1,h⟩,List.mem_range.2 (by omega),fun j hj=>by
  rw[decide_eq_false fun q=>hno j q.1 hj q.2];rfl⟩
 rw[this]
theorem Qi(hno:∀j:Nat,1<=j->(j:Int)<p->n*(j:Int)%p≠1):GD p n=1:=by
 unfold GD
 have:(range p.toNat).find? (fun k:Nat=>decide (1<=k/\n*(k:Int)%p=1))=none:=List.find?_eq_none.2 fun j hj=>by have:=List.mem_range.1 hj;rw[decide_eq_false fun q=>hno j q.1 (by omega) q.2];decide
 rw[this]
theorem WZ(hp:2<=p)(n:Int):1<=GD p n/\GD p n<p:=by
 unfold GD;split
 ·rename_i k h;obtain⟨h1,h2,_⟩:=List.find?_range_eq_some.1 h;have:=of_decide_eq_true h1;have:=List.mem_range.1 h2;omega
 ·omega
theorem S6(h:IsP p)(h0:0<n)(hn:n<p):n*GD p n%p=1:=by
 have h2:=h.1
 obtain⟨w,hw⟩:=h.fld.inv n fun⟨c,e⟩=>by have h1:c<1:=Int.lt_of_mul_lt_mul_left (show p*c<p*1 by omega) (by omega);have h3:0<c:=Int.lt_of_mul_lt_mul_left (show p*0<p*c by omega) (by omega);omega
 have hw:w*n%p=1:=by rw[Int.mul_comm];have h3:=Int.emod_eq_emod_iff_emod_sub_eq_zero.2 (Int.emod_eq_zero_of_dvd hw);rw[h3,Int.emod_eq_of_lt (by omega) (by omega)]
 have h5:=Int.emod_nonneg w (show p≠0 by omega);have h6:=Int.emod_lt_of_pos w (show 0<p by omega)
 have h4:n*(((w%p).toNat:Nat):Int)%p=1:=by rw[Int.toNat_of_nonneg h5,Int.mul_emod,Int.emod_emod_of_dvd w (Int.dvd_refl p),<-Int.mul_emod,Int.mul_comm];exact hw
 have h7:1<=(w%p).toNat:=by refine Nat.one_le_iff_ne_zero.2 fun e=>?_;rw[e]at h4;simp at h4
 unfold GD;split
 ·rename_i k h;exact(of_decide_eq_true (List.find?_range_eq_some.1 h).1).2
 ·rename_i h;have:=List.find?_eq_none.1 h (w%p).toNat (List.mem_range.2 (by omega));exact absurd (decide_eq_true ⟨h7,h4⟩) this
def FL(p:Int)(a b:List Int)(t:Int):List Int:=List.zipWith (fun x y=>(x+t*y)%p) a b
theorem E7{a b:List Int}(h:a.length=b.length):(FL p a b t).length=a.length:=by unfold FL;rw[List.length_zipWith];omega
theorem OS{a b:List Int}(h:i<(FL p a b t).length)(ha:i<a.length)(hb:i<b.length):(FL p a b t)[i]=(a[i]+t*b[i])%p:=by simp[FL]
theorem Uk{α:Type}(A B:List α)(hl:A.length=B.length)(hi:i<A.length):(A.take i++B.drop i).set i A[i]=A.take (i+1)++B.drop (i+1):=by
 have hlt:(A.take i).length=i:=by rw[length_take];omega
 rw[List.set_append,if_neg (by omega),hlt,Nat.sub_self,List.drop_eq_getElem_cons (show i<B.length by omega),List.set_cons_zero,List.take_succ_eq_append_getElem hi,List.append_assoc];rfl
theorem V0{α:Type}(A B:List α)(hl:A.length=B.length)(hi:i<A.length):(A.take i++B.drop i)[i]'(by rw[length_append,length_take,List.length_drop];omega)=B[i]:=by
 have hlt:(A.take i).length=i:=by rw[length_take];omega
 rw[List.getElem_append_right (by omega)];simp[hlt]
def KF(p:Int)(l:List Int):Prop:=∀x∈l,0<=x/\x<p
theorem Of(hp:0<p)(a b:List Int):KF p (FL p a b t):=fun x hx=>by unfold FL at hx;obtain⟨i,hi,rfl⟩:=getElem_of_mem hx;rw[List.getElem_zipWith];exact⟨Int.emod_nonneg _ (by omega),Int.emod_lt_of_pos _ hp⟩
theorem XN(p n:Int)(g:Nat)(h:Hp)(hG:∀ms,Cell h ms (⟨g,0,none⟩:Addr) (.int .i64 p))(hp:2<=p/\p<=997)(hn:0<=n/\n<p):FnT Tryz.prog 177 #[.pointer (some ⟨g,0,none⟩),.int .i64 n] h [] (fun r _ _=>r=.int .i64 (GD p n)):=by
 refine Ap func177 ntmps177 rfl rfl (fun w0 hw0=>?_);simp only[AX];refine As (Qm rfl (Am (Ac (As (Qm rfl (Am (Ag ?_)))))))
 refine Ay (fun q sl h' ms'=>∃(k:Nat),q=p.toNat-k/\sl=[(0,.pointer (some ⟨g,0,none⟩)),(1,.int .i64 n),(5,.int .i64 k)]/\h=h'/\ms'=[]/\1<=k/\(k:Int)<=p/\∀j:Nat,1<=j->j<k->n*(j:Int)%p≠1)
  (p.toNat-1) _ ⟨1,rfl,rfl,rfl,rfl,by omega,by omega,fun j h1 h2=>by omega⟩ Qs ?_
 rintro q sl h' ms' ⟨k,rfl,rfl,rfl,rfl,h1,hk,hno⟩;have hnk:0<=n*(k:Int)/\n*(k:Int)<=997*997:=⟨Int.mul_nonneg hn.1 (by omega),Int.mul_le_mul (by omega) (by omega) (by omega) (by omega)⟩
 refine Ac (As (Qm rfl (Qm rfl (Qm rfl (Qf Hw rfl (Ql rfl U3 (hG _) (Qm rfl (Am ?_))))))));refine Aq rfl (fun hlt=>?_) (fun hlt=>?_)
 ·refine Ah (Ab (Ac (Ag (As (Qm rfl (Qm rfl (Qx (oM rfl) rfl (Qm rfl (Qm rfl (Qf Hw rfl (Ql rfl U3 (hG _) (Qx (Cc rfl rfl rfl (by omega) (by omega)) rfl (Qm rfl (Am ?_))))))))))))));refine Aq rfl (fun he=>?_) (fun he=>?_)
  ·refine Ac (Ad (Qm rfl (Qm rfl (Am (An (Aj (Ae (Ae (Aj (Ae ?_))))))))));exact Az rfl rfl (by rw[Q5 h1 hlt he hno])
  ·refine Ah (Ai (Ab (Ad (Qm rfl (Qx (oA rfl) rfl (Qm rfl (Ak ?_)))))));refine Al (p.toNat-(k+1)) _ (by omega) ⟨k+1,rfl,rfl,rfl,rfl,by omega,by omega,fun j h3 h4=>?_⟩ Qs;rcases (by omega:j<k\/j=k) with h5|rfl
   ·exact hno j h3 h5
   ·exact he
 ·have hkp:(k:Int)=p:=by omega
  refine Av (Aa (Aa (Af (Ab (As (Qm rfl (Am (An ?_))))))));exact Az rfl rfl (by rw[Qi fun j h3 h4=>hno j h3 (by omega)])
theorem Aam(p n:Int)(g:Nat)(h:Hp)(hG:∀ms,Cell h ms (⟨g,0,none⟩:Addr) (.int .i64 p))(hp:2<=p/\p<=997)(hn:0<=n/\n<p)(ms:List Hp):FnV Tryz.prog 177 #[.pointer (some ⟨g,0,none⟩),.int .i64 n] h ms (.int .i64 (GD p n)):=EO (XN p n g h hG hp hn) ms
theorem VV(p t:Int)(g:Nat)(a b:List Int)(va vb:Value)(m h:Hp)(hG:∀ms,Cell h ms (⟨g,0,none⟩:Addr) (.int .i64 p))(hp:2<=p/\p<=997)(ht:0<=t/\t<p)(hA:OwnL cI 1 3 m va a)(hB:RdL cI 1 h [] vb b)(hl:a.length=b.length)(hn:a.length<=1000000)(ra:KF p a)(rb:KF p b) :
  FnT Tryz.prog 178 #[.pointer (some ⟨g,0,none⟩),va,vb,.int .i64 t] h [m] (fun _ h' ms'=>h=h'/\∃m',ms'=[m']/\OwnL cI 1 3 m' va (FL p a b t)):=by
 have oa:=hA.o1;have ob:=hB.rd.one;obtain⟨C,hC⟩:∃C,FL p a b t=C:=⟨_,rfl⟩
 have hCl:C.length=a.length:=by rw[<-hC];exact E7 hl
 refine Ap func178 ntmps178 rfl rfl (fun w0 hw0=>?_);simp only[AX];refine As (Qm rfl (Qx (Ar hB.rd.any rfl AU rfl) rfl (Qm rfl (Am (Ag ?_)))))
 refine Ay (fun q sl h' ms'=>∃(i:Nat) (m:Hp),q=b.length-i/\sl=[(0,.pointer (some ⟨g,0,none⟩)),(1,va),(3,.int .i64 t),(10,vb),(11,.int .i64 b.length),(12,.int .i64 i)]/\h=h'/\ms'=[m]/\i<=b.length/\OwnL cI 1 3 m va (C.take i++a.drop i))
  (b.length-0) _ ⟨0,m,rfl,rfl,rfl,rfl,by omega,by simpa using hA⟩ Qs ?_
 rintro q sl h' ms' ⟨i,m,rfl,rfl,rfl,rfl,hi,hO⟩;refine As (Qm rfl (Am (Ac ?_)));refine Aq rfl (fun hlt=>?_) (fun hlt=>?_)
 ·have hib:i<b.length:=by omega
  have hia:i<a.length:=by omega
  have hiC:i<C.length:=by omega
  have hlen:(C.take i++a.drop i).length=a.length:=by rw[length_append,length_take,List.length_drop];omega
  have hiO:i<(C.take i++a.drop i).length:=by omega
  have r1:=ra _ (getElem_mem hia);have r2:=rb _ (getElem_mem hib);have hCi:C[i]=(a[i]+t*b[i])%p:=by subst hC;exact OS _ hia hib
  have hset:=Uk C a hCl hiC;rw[hCi]at hset
  have ca:∀ms,m∈ms->Cell h ms ((AF va).add (i*1)) (.int .i64 a[i]):=fun ms hm=>by
   have:=(hO.rd (h:=h) (ms:=ms) hm).cell0 hiO rfl
   rwa [V0 C a hCl hiC]at this
  have cb:∀ms,Cell h ms ((AF vb).add (i*1)) (.int .i64 b[i]):=fun ms=>(hB.any (ms:=ms)).cell0 hib rfl;obtain⟨x,hx⟩:∃x,a[i]=x:=⟨_,rfl⟩
  obtain⟨y,hy⟩:∃y,b[i]=y:=⟨_,rfl⟩
  rw[hx]at r1 ca hset;rw[hy]at r2 cb hset;have hty:0<=t*y/\t*y<=997*997:=⟨Int.mul_nonneg ht.1 r2.1,Int.mul_le_mul (by omega) (by omega) (by omega) (by omega)⟩
  refine Ah (Ab (Ac (Ag (As (Qm rfl (Qx (BF (i) hB.rd.any rfl AU A6 rfl rfl) rfl (Ql rfl U3 (cb _) (Qm rfl (Qm rfl (Am (DJ 14 [true,true] CS (by kernel_rfl) (by kernel_rfl) (by kernel_rfl) (DW rfl rfl rfl rfl (Ci rfl rfl) (DW rfl rfl rfl rfl (Ci rfl rfl) ?_)))))))))))));refine⟨rfl,?_⟩;simp only[Ed,zap,cons_append,nil_append,List.take_succ_cons,List.take_zero,List.drop_succ_cons,List.drop_zero,List.take_nil,List.drop_nil];refine DY rfl rfl rfl (DY rfl rfl rfl (Wm rfl (Wm rfl (AR (AE (i) (hO.rd (h:=h) (ms:=[m]) Mh).rd rfl AU A6 rfl rfl (by omega) (by omega)) rfl rfl (Wl rfl U3 (ca _ Mh) (Wm rfl (Wm rfl (AR (oM rfl) rfl rfl (AR (oA rfl) rfl rfl (Wm rfl (Wm rfl (Wf Hw rfl (Wl rfl U3 (hG _) (AY (Qx (Cc rfl rfl rfl (by omega) (by omega)) rfl (Qx (AE (i) (hO.rd (h:=h) (ms:=[m]) Mh).rd rfl AU A6 rfl rfl (by omega) (by omega)) rfl (De 0 i hO rfl A6 rfl rfl rfl hiO rfl rfl (fun m' hO'=>?_))))))))))))))))));rw[hset]at hO';refine Ak (HQ (Ai (Ab (Ad (Qx (oA rfl) rfl (Qm rfl (Ak ?_)))))));exact Al (b.length-(i+1)) _ (by omega) ⟨i+1,m',rfl,rfl,rfl,rfl,by omega,hO'⟩ Qs
 ·obtain rfl:i=b.length:=by omega
  rw[List.drop_eq_nil_of_le (by omega),append_nil,<-hl,<-hCl,take_length]at hO;rw[hC];refine Av (Aa (Aa (Af ?_)));exact B7 rfl (⟨rfl,m,rfl,hO⟩)
end Go.Proofs.Q
namespace Go.Proofs.Q
open Go.Proofs.Tryz
open Go.Eng Go.RowKit Go.Lin
variable {p:Int}
def cU(v:Value):List Value:=[v]
theorem Km:∀v,(cU v).length=1:=fun _=>rfl
def EG(p:Int)(vc:Value)(gA:Nat)(vr vv:Value)(la:List Int):List Value:=.int .i64 p::vc::.map (some gA)::vr::vv::la.map fun n=>.int .i64 n
inductive Ops (p:Int) (n j:Nat) (R V:Nat->List Int) (r v:List Int):List Int->List Int->Prop
 | refl:Ops p n j R V r v r v
 | step {r1 v1:List Int} {k i:Nat} {t:Int}:Ops p n j R V r v r1 v1->k<j->i<n->0<=t->t<p->r1.getD i 0≠0->(R k).getD i 0≠0->Ops p n j R V r v (FL p r1 (R k) t) (FL p v1 (V k) t)
structure Red(p:Int)(n j:Nat)(R V:Nat->List Int)(la:List Int):Prop where
 rl:∀k,k<j->(R k).length=n
 vl:∀k,k<j->(V k).length=n
 rr:∀k,k<j->KF p (R k)
 vr:∀k,k<j->KF p (V k)
 ll:la.length=400
 a0:∀i,i<400->la.getD i 0=0\/∃k,k<j/\la.getD i 0=(k:Int)+1/\Bl (R k)=i
 a1:∀k,k<j->0<=Bl (R k)->la.getD (Bl (R k)).toNat 0=(k:Int)+1
def LaS(j:Nat)(r':List Int)(la la':List Int):Prop:=(Bl r'<0/\la'=la)\/(0<=Bl r'/\la.getD (Bl r').toNat 0=0/\la'=la.set (Bl r').toNat ((j:Int)+1))
theorem ED{l:List Int}{i:Nat}(h:Bl l=i):i<l.length/\l.getD i 0≠0/\∀j,i<j->l.getD j 0=0:=by
 rcases IZ l with ⟨k,hk,e,h1,h2⟩|⟨e,_⟩
 ·obtain rfl:i=k:=by omega
  refine⟨hk,by simpa[List.getD,hk] using h1,fun j hj=>?_⟩;by_cases hjl:j<l.length
  ·simpa[List.getD,hjl] using h2 j hjl hj
  ·simp[List.getD,List.getElem?_eq_none (show l.length<=j by omega)]
 ·omega
theorem FQ(hp:0<p){l:List Int}(h:KF p l)(i:Nat):0<=l.getD i 0/\l.getD i 0<p:=by
 by_cases hi:i<l.length
 ·have:=h _ (getElem_mem hi);simpa[List.getD,hi] using this
 ·simp[List.getD,List.getElem?_eq_none (show l.length<=i by omega),hp]
theorem Eo{t:Int}{a b:List Int}(hl:a.length=b.length)(i:Nat):(FL p a b t).getD i 0=(a.getD i 0+t*b.getD i 0)%p:=by
 by_cases hi:i<a.length
 ·have h2:i<b.length:=by omega
  have h3:i<(FL p a b t).length:=by rw[E7 hl];exact hi
  have:=OS h3 hi h2;simp only[List.getD,List.getElem?_eq_getElem h3,List.getElem?_eq_getElem hi,List.getElem?_eq_getElem h2,Option.getD_some,this]
 ·have h3:¬i<(FL p a b t).length:=by rw[E7 hl];exact hi
  simp[List.getD,List.getElem?_eq_none (show a.length<=i by omega),List.getElem?_eq_none (show b.length<=i by omega),List.getElem?_eq_none (show(FL p a b t).length<=i by omega)]
theorem Abr{x b w:Int}(h:b*w%p=1)(hp:0<p):(x+((p-x)*w%p)*b)%p=0:=by
 have h1:=Int.emod_add_mul_ediv (b*w) p;have h2:=Int.emod_add_mul_ediv ((p-x)*w) p;rw[h]at h1;refine Int.emod_eq_zero_of_dvd ⟨1+(p-x)*(b*w/p)-((p-x)*w/p)*b,?_⟩;generalize b*w/p=q1 at h1 ⊢;generalize (p-x)*w/p=q2 at h2 ⊢;have e:(p-x)*w%p=(p-x)*w-p*q2:=by omega
 rw[e];have e2:b*w=1+p*q1:=h1.symm
 have e3:((p-x)*w-p*q2)*b=(p-x)*(b*w)-p*(q2*b):=by rw[Int.sub_mul,Int.mul_assoc,Int.mul_comm w b,Int.mul_assoc]
 rw[e3,e2,Int.mul_sub,Int.mul_add,Int.mul_one,Int.mul_add,Int.mul_one];have e4:p*((p-x)*q1)=(p-x)*(p*q1):=by rw[<-Int.mul_assoc,<-Int.mul_assoc,Int.mul_comm p]
 rw[e4];omega
theorem SJ{t:Int}{a b:List Int}{i:Nat}(hl:a.length=b.length)(ha:Bl a=i)(hb:Bl b=i)(h:(a.getD i 0+t*b.getD i 0)%p=0):Bl (FL p a b t)<i:=by
 obtain⟨h1,h2,h3⟩:=ED ha;obtain⟨h4,h5,h6⟩:=ED hb
 have hz:∀j,i<=j->(FL p a b t).getD j 0=0:=fun j hj=>by
  rw[Eo hl];rcases (by omega:j=i\/i<j) with rfl|h7
  ·exact h
  ·rw[h3 j h7,h6 j h7];simp
 refine Int.not_le.1 fun hle=>?_;obtain⟨k,hk⟩:=Int.eq_ofNat_of_zero_le (show 0<=Bl (FL p a b t) by omega);obtain⟨_,h8,_⟩:=ED hk;exact h8 (hz k (by omega))
theorem KE(p:Int)(vc:Value)(gA:Nat)(vr vv:Value)(la:List Int):(EG p vc gA vr vv la).length=5+la.length:=by unfold EG;simp;omega
theorem VM(p:Int)(vc:Value)(gA:Nat)(vr vv:Value)(la:List Int)(i:Nat)(x:Int):(EG p vc gA vr vv la).set (5+i) (.int .i64 x)=EG p vc gA vr vv (la.set i x):=by unfold EG;rw[show 5+i=i+1+1+1+1+1 by omega];simp only[List.set_cons_succ,List.map_set]
theorem SD(la:List Int)(i:Nat)(hi:i<la.length):(la.map fun n=>Value.int .i64 n)[i]?=some (.int .i64 (la.getD i 0)):=by simp[List.getD,hi]
theorem TF(p:Int)(n j:Nat)(g gA:Nat)(vc vr vv:Value)(Rs Vs:List Value)(R V:Nat->List Int)(la r v:List Int)(mr mv h:Hp)(hp:IsP p)(hn:n<=400)(hj:j<n)
  (hRs:RdL cU 1 h [] vr Rs) (hVs:RdL cU 1 h [] vv Vs) (lR:Rs.length=n) (lV:Vs.length=n) (hR:∀k,k<j->RdL cI 1 h [] (Rs.getD k undef) (R k)) (hV:∀k,k<j->RdL cI 1 h [] (Vs.getD k undef) (V k)) (D:Red p n j R V la) (oc:vc.oneCell'=true)
  (Or:OwnL cI 1 3 mr (Rs.getD j undef) r) (Ov:OwnL cI 1 3 mv (Vs.getD j undef) v) (lr:r.length=n) (lv:v.length=n) (rr:KF p r) (rv:KF p v) :
  FnT Tryz.prog 121 #[.pointer (some ⟨g,0,none⟩),.int .i64 j] h [Bn g 130 (EG p vc gA vr vv la),mr,mv] (fun _ h' ms'=>h.le h'/\∃r' v' la' mr' mv',ms'=[Bn g 130 (EG p vc gA vr vv la'),mr',mv']/\OwnL cI 1 3 mr' (Rs.getD j undef) r'/\OwnL cI 1 3 mv' (Vs.getD j undef) v'/\Ops p n j R V r v r' v'/\r'.length=n/\v'.length=n/\KF p r'/\KF p v'/\LaS j r' la la'):=by
 have hp1:=hp.1;have hp9:=hp.2.1;refine Ap func121 ntmps121 rfl rfl (fun w0 hw0=>?_);simp only[AX];refine Gy fun h1 l1 lG dG LG=>?_;have hRs:=hRs.up l1;have hVs:=hVs.up l1;have hR:=fun k hk=>(hR k hk).up l1;have hV:=fun k hk=>(hV k hk).up l1;have hS:=Seg.ofLe lG;have oR:=hRs.rd.one;have oV:=hVs.rd.one;refine Ag ?_
 refine Ay (fun q sl h' ms'=>∃(r' v':List Int) (mr mv:Hp),q=(Bl r'+1).toNat/\sl=[(0,.pointer (some ⟨g,0,none⟩)),(1,.int .i64 j)]/\h1.le h'/\ms'=[mr,mv]/\OwnL cI 1 3 mr (Rs.getD j undef) r'/\OwnL cI 1 3 mv (Vs.getD j undef) v'/\Ops p n j R V r v r' v'/\r'.length=n/\v'.length=n/\KF p r'/\KF p v')
  _ _ ⟨r,v,mr,mv,rfl,rfl,C9,rfl,Or,Ov,.refl,lr,lv,rr,rv⟩ Qs ?_
 rintro q sl h2 ms' ⟨r1,v1,mr,mv,rfl,rfl,l2,rfl,Or,Ov,hO,lr,lv,rr,rv⟩;have hRs:=hRs.up l2;have hVs:=hVs.up l2;have hR:=fun k hk=>(hR k hk).up l2;have hV:=fun k hk=>(hV k hk).up l2;have hS:=hS.le l2;refine Gy fun h3 l3 lM dM LM=>?_;have Rr:RdL cI 1 h3 [] (Rs.getD j undef) r1:=Or.rdh (h:=h3) (ms:=[]) lM;have hRs3:=hRs.up l3;have hVs3:=hVs.up l3;have hS3:=hS.le l3;have hjR:j<Rs.length:=by omega
 have hjV:j<Vs.length:=by omega
 have eR:Rs.getD j undef=Rs[j]:=by simp[List.getD,hjR]
 have eV:Vs.getD j undef=Vs[j]:=by simp[List.getD,hjV]
 have a0:∀ms,Cell h3 ms (⟨g,0,none⟩:Addr) (.int .i64 p):=fun ms=>Seg.all hS3 0 _ rfl ms;have a3:∀ms,Cell h3 ms (⟨g,3,none⟩:Addr) vr:=fun ms=>Seg.all hS3 3 _ rfl ms;have a4:∀ms,Cell h3 ms (⟨g,4,none⟩:Addr) vv:=fun ms=>Seg.all hS3 4 _ rfl ms;have cR:∀ms,Cell h3 ms ((AF vr).add (j*1)) (Rs.getD j undef):=fun ms=>by rw[eR];exact(hRs3.any (ms:=ms)).cell0 hjR rfl
 have orj:=Rr.rd.one;refine Ag (As (Qm rfl (Qm rfl (Qf EV rfl (Ql rfl Ch (a3 _) (Qm rfl (Qx (BF (j) hRs3.rd.any rfl Ch Cr rfl rfl) rfl (Ql rfl AU (cR _) (Qx (AL rfl call95 rfl (US (Rs.getD j undef) r1 h3 Rr (by omega) _)) rfl (Qm rfl (Am (Ac (As (Qm rfl (Qm rfl (Am ?_))))))))))))))));refine Aq rfl (fun hneg=>?_) (fun hneg=>?_)
 ·refine An (Ae (Aj (Ae (Aj (RT LM lM fun h4 l4 b4=>(RT LG (b4 _ (AJ lG (AJ l2 l3)) (Fz (AJ lG l2) dM)) fun h5 l5 b5=>?_))))));have l05:h.le h5:=b5 _ (b4 _ (AJ l1 (AJ l2 l3)) (Fz (AJ l1 l2) dM)) dG;exact FB rfl (⟨l05,r1,v1,la,mr,mv,rfl,Or,Ov,hO,lr,lv,rr,rv,.inl ⟨hneg,rfl⟩⟩)
 ·obtain⟨i,hi⟩:=Int.eq_ofNat_of_zero_le (show 0<=Bl r1 by omega);obtain⟨hi1,hi2,hi3⟩:=ED hi;have hin:i<400:=by omega
  have hla:=D.ll
  have cL:∀ms,Cell h3 ms ((⟨g,5,none⟩:Addr).add (i*1)) (.int .i64 (la.getD i 0)):=fun ms=>by
   have:(EG p vc gA vr vv la)[5+i]?=some (.int .i64 (la.getD i 0)):=by unfold EG;rw[show 5+i=i+1+1+1+1+1 by omega];simp only[List.getElem?_cons_succ];exact SD la i (by omega)
   have:=Seg.all hS3 (5+i) _ this ms;show Cell h3 ms (((⟨g,0,none⟩:Addr).add 5).add (i*1)) _;rw[BT,Nat.mul_one];exact this
  rw[hi];have hl0:=D.a0 i hin;obtain⟨li,hli⟩:∃li,la.getD i 0=li:=⟨_,rfl⟩
  rw[hli]at cL hl0
  have hlb:0<=li/\li<=400:=by rcases hl0 with h|⟨k,hk,h,_⟩<;>omega
  refine Ah (Ab (As (Qm rfl (Qm rfl (Qm rfl (Qf R8 rfl (Qx (B5 (i) rfl AaU A6 rfl rfl (by omega) (by omega)) rfl (Ql rfl U3 (cL _) (Qx (oS rfl) rfl (Qm rfl (Am (Ac (As (Qm rfl (Qm rfl (Am ?_))))))))))))))));refine Aq rfl (fun hk0=>?_) (fun hk0=>?_)
  ·have hl00:li=0:=by rcases hl0 with h|⟨k,hk,h,_⟩<;>omega
   refine Fy LM lM fun h4 l4 b4=>?_;have lG4:=b4 _ (AJ lG (AJ l2 l3)) (Fz (AJ lG l2) dM);refine Fy LG lG4 fun h5 l5 b5=>?_;have l05:h.le h5:=b5 _ (b4 _ (AJ l1 (AJ l2 l3)) (Fz (AJ l1 l2) dM)) dG;refine As (Qm rfl (Qm rfl (Qm rfl (Qx (oA rfl) rfl (Qm rfl (Qf R8 rfl (Qx (B5 (i) rfl AaU A6 rfl rfl (by omega) (by omega)) rfl ?_)))))));refine AS 0 (5+i) rfl A6 rfl rfl rfl rfl (by rw[Nat.mul_one];exact BT (⟨g,0,none⟩:Addr) 5 i) (by rw[KE];omega) rfl rfl ?_;rw[VM];refine Am (An (Ae (Aj (Ae (Aj ?_)))));exact FB rfl (⟨l05,r1,v1,la.set i ((j:Int)+1),mr,mv,rfl,Or,Ov,hO,lr,lv,rr,rv,.inr ⟨by omega,by rw[hi,Int.toNat_natCast,hli,hl00],by rw[hi,Int.toNat_natCast]⟩⟩)
  ·obtain⟨k,hkj,rfl,hlk⟩:∃k,k<j/\li=(k:Int)+1/\Bl (R k)=i:=by
    rcases hl0 with h|h
    ·omega
    ·exact h
   have hkR:k<Rs.length:=by omega
   have hkV:k<Vs.length:=by omega
   have eRk:Rs.getD k undef=Rs[k]:=by simp[List.getD,hkR]
   have eVk:Vs.getD k undef=Vs[k]:=by simp[List.getD,hkV]
   have hRk:=(hR k hkj).up l3;have hVk:=(hV k hkj).up l3;have lRk:=D.rl k hkj;have lVk:=D.vl k hkj;obtain⟨hk1,hk2,_⟩:=ED hlk;have cRk:∀ms,Cell h3 ms ((AF vr).add (k*1)) (Rs.getD k undef):=fun ms=>by rw[eRk];exact(hRs3.any (ms:=ms)).cell0 hkR rfl
   have cx:∀ms,Cell h3 ms ((AF (Rs.getD j undef)).add (i*1)) (.int .i64 (r1.getD i 0)):=fun ms=>by rw[show r1.getD i 0=r1[i] by simp[List.getD,hi1]];exact(Rr.any (ms:=ms)).cell0 hi1 rfl
   have cb:∀ms,Cell h3 ms ((AF (Rs.getD k undef)).add (i*1)) (.int .i64 ((R k).getD i 0)):=fun ms=>by rw[show(R k).getD i 0=(R k)[i] by simp[List.getD,hk1]];exact(hRk.any (ms:=ms)).cell0 hk1 rfl
   have bx:=FQ (by omega) rr i;have bb:=FQ (by omega) (D.rr k hkj) i;obtain⟨x,hx⟩:∃x,r1.getD i 0=x:=⟨_,rfl⟩
   obtain⟨b,hb⟩:∃b,(R k).getD i 0=b:=⟨_,rfl⟩
   rw[hx]at cx bx hi2;rw[hb]at cb bb hk2;have hinv:=S6 hp (show 0<b by omega) bb.2;have hwb:=WZ hp1 b;obtain⟨w,hw⟩:∃w,GD p b=w:=⟨_,rfl⟩
   rw[hw]at hinv hwb;have hpw:0<=(p-x)*w/\(p-x)*w<=997*997:=⟨Int.mul_nonneg (by omega) (by omega),Int.mul_le_mul (by omega) (by omega) (by omega) (by omega)⟩
   have hkill:=Abr (x:=x) hinv (show 0<p by omega);have hov:=Aam p b g h3 a0 ⟨hp1,hp9⟩ ⟨bb.1,bb.2⟩;rw[hw]at hov;have ht0:=Int.emod_nonneg ((p-x)*w) (show p≠0 by omega);have ht1:=Int.emod_lt_of_pos ((p-x)*w) (show 0<p by omega);have ork:=hRk.rd.one;have ovj:(Vs.getD j undef).oneCell'=true:=Ov.o1;have ovk:=hVk.rd.one;refine Ah (Ab (Ac (Bc 32 CS (by kernel_rfl) rfl (Wm rfl (Wm rfl (Wf Hw rfl (Wl rfl U3 (a0 _) (Wm rfl (Wm rfl (Wf EV rfl (Wl rfl Ch (a3 _) (Wm rfl (AR (BF (j) hRs3.rd.any rfl Ch Cr rfl rfl) rfl rfl (Wl rfl AU (cR _) (Wm rfl (AR (BF (i) Rr.rd.any rfl AU A6 rfl rfl) rfl rfl (Wl rfl U3 (cx _) (AR (oS rfl) rfl rfl (Wm rfl (Wm rfl (Wm rfl (Wf EV rfl (Wl rfl Ch (a3 _) (Wm rfl (AR (BF (k) hRs3.rd.any rfl Ch Cr rfl rfl) rfl rfl (Wl rfl AU (cRk _) (Wm rfl (AR (BF (i) hRk.rd.any rfl AU A6 rfl rfl) rfl rfl (Wl rfl U3 (cb _) (AR (AL rfl call177 rfl (hov _)) rfl rfl (AR (oM rfl) rfl rfl (Wm rfl (Wm rfl (Wf Hw rfl (Wl rfl U3 (a0 _) (AY (Qx (Cc rfl rfl rfl (by omega) (by omega)) rfl (Qm rfl (Am ?_)))))))))))))))))))))))))))))))))))))));obtain⟨t,ht⟩:∃t,(p-x)*w%p=t:=⟨_,rfl⟩
   rw[ht]at hkill ht0 ht1 ⊢;refine Fy LM lM fun h4 l4 b4=>?_;have l24:=b4 _ l3 dM;have hRs:=hRs.up l24;have hVs:=hVs.up l24;have hRk:=(hR k hkj).up l24;have hVk:=(hV k hkj).up l24;have hS:=hS.le l24;have a0:∀ms,Cell h4 ms (⟨g,0,none⟩:Addr) (.int .i64 p):=fun ms=>Seg.all hS 0 _ rfl ms;have a3:∀ms,Cell h4 ms (⟨g,3,none⟩:Addr) vr:=fun ms=>Seg.all hS 3 _ rfl ms;have a4:∀ms,Cell h4 ms (⟨g,4,none⟩:Addr) vv:=fun ms=>Seg.all hS 4 _ rfl ms;have cR:∀ms,Cell h4 ms ((AF vr).add (j*1)) (Rs.getD j undef):=fun ms=>by rw[eR];exact(hRs.any (ms:=ms)).cell0 hjR rfl
   have cRk:∀ms,Cell h4 ms ((AF vr).add (k*1)) (Rs.getD k undef):=fun ms=>by rw[eRk];exact(hRs.any (ms:=ms)).cell0 hkR rfl
   have cV:∀ms,Cell h4 ms ((AF vv).add (j*1)) (Vs.getD j undef):=fun ms=>by rw[eV];exact(hVs.any (ms:=ms)).cell0 hjV rfl
   have cVk:∀ms,Cell h4 ms ((AF vv).add (k*1)) (Vs.getD k undef):=fun ms=>by rw[eVk];exact(hVs.any (ms:=ms)).cell0 hkV rfl
   refine Ac (Bc 16 CS (by kernel_rfl) rfl (Wm rfl (Wm rfl (Wm rfl (Wf EV rfl (Wl rfl Ch (a3 _) (Wm rfl (AR (BF (j) hRs.rd.any rfl Ch Cr rfl rfl) rfl rfl (Wl rfl AU (cR _) (Wm rfl (Wm rfl (Wf EV rfl (Wl rfl Ch (a3 _) (Wm rfl (AR (BF (k) hRs.rd.any rfl Ch Cr rfl rfl) rfl rfl (Wl rfl AU (cRk _) (Wm rfl (AY (Bb (pre:=[mr]) rfl call178 rfl (VV p t g r1 (R k) _ _ mr h4 a0 ⟨hp1,hp9⟩ ⟨ht0,ht1⟩ Or hRk (by omega) (by omega) rr (D.rr k hkj)) rfl rfl rfl rfl (fun _ h5 ms5 l5 hF=>?_))))))))))))))))))));obtain⟨rfl,mr',rfl,Or'⟩:=hF;refine Am (Bc 16 CS (by kernel_rfl) rfl (Wm rfl (Wm rfl (Wm rfl (Wf Ij rfl (Wl rfl Ch (a4 _) (Wm rfl (AR (BF (j) hVs.rd.any rfl Ch Cr rfl rfl) rfl rfl (Wl rfl AU (cV _) (Wm rfl (Wm rfl (Wf Ij rfl (Wl rfl Ch (a4 _) (Wm rfl (AR (BF (k) hVs.rd.any rfl Ch Cr rfl rfl) rfl rfl (Wl rfl AU (cVk _) (Wm rfl (AY (ME 1 rfl (Bb (pre:=[mv]) rfl call178 rfl (VV p t g v1 (V k) _ _ mv h4 a0 ⟨hp1,hp9⟩ ⟨ht0,ht1⟩ Ov hVk (by omega) (by omega) rv (D.vr k hkj)) rfl rfl rfl rfl (fun _ h6 ms6 l6 hF=>?_)))))))))))))))))))));obtain⟨rfl,mv',rfl,Ov'⟩:=hF;have hll:r1.length=(R k).length:=by omega
   have hlv:v1.length=(V k).length:=by omega
   have hless:=SJ (p:=p) (t:=t) hll hi hlk (by rw[hx,hb];exact hkill);have hO':=hO.step (t:=t) hkj (show i<n by omega) ht0 ht1 (by rw[hx];exact hi2) (by rw[hb];exact hk2);have hpp:0<p:=by omega
   refine Ak (Ai (CB 1 rfl ?_));exact Al (Bl (FL p r1 (R k) t)+1).toNat _ (by omega) ⟨_,_,mr',mv',rfl,rfl,AJ l2 l24,rfl,Or',Ov',hO',by rw[E7 hll];exact lr,by rw[E7 hlv];exact lv,Of hpp _ _,Of hpp _ _⟩ Qs
end Go.Proofs.Q
namespace Go.Proofs
open Go.Proofs.Tryz
open Go.Shelf
def Tryz.laysSlF06_ren:Go.Shelf.Ren:=⟨fun|6=>147|15=>201|14=>200|28=>248|29=>249|20=>240|21=>241|22=>242|23=>243|24=>244|25=>245|26=>246|27=>247|46=>280|47=>281|48=>282|49=>283|50=>284|57=>300|n=>n,fun|22=>27|24=>52|25=>192|3=>3|39=>223|0=>0|53=>282|55=>222|4=>4|46=>276|45=>275|50=>124|5=>5|9=>9|66=>309|70=>313|76=>332|77=>333|n=>n,fun|n=>n⟩
theorem Tryz.laysSlF06:Go.Proofs.SlLaysF0.n6 prog Tryz.laysSlF06_ren:={
  mixed:=by kernel_rfl
  f6:=⟨f147.name,by decide,func147.trans (congrArg some (by kernel_rfl))⟩
  f14:=⟨f200.name,by decide,func200.trans (congrArg some (by kernel_rfl))⟩
  f15:=func201.trans (congrArg some (by kernel_rfl))
  f20:=⟨f240.name,by decide,func240.trans (congrArg some (by kernel_rfl))⟩
  f21:=⟨f241.name,by decide,func241.trans (congrArg some (by kernel_rfl))⟩
  f22:=⟨f242.name,by decide,func242.trans (congrArg some (by kernel_rfl))⟩
  f23:=⟨f243.name,by decide,func243.trans (congrArg some (by kernel_rfl))⟩
  f24:=⟨f244.name,by decide,func244.trans (congrArg some (by kernel_rfl))⟩
  f25:=⟨f245.name,by decide,func245.trans (congrArg some (by kernel_rfl))⟩
  f26:=⟨f246.name,by decide,func246.trans (congrArg some (by kernel_rfl))⟩
  f27:=⟨f247.name,by decide,func247.trans (congrArg some (by kernel_rfl))⟩
  f28:=func248.trans (congrArg some (by kernel_rfl))
  f29:=func249.trans (congrArg some (by kernel_rfl))
  f46:=⟨f280.name,by decide,func280.trans (congrArg some (by kernel_rfl))⟩
  f47:=func281.trans (congrArg some (by kernel_rfl))
  f48:=func282.trans (congrArg some (by kernel_rfl))
  f49:=⟨f283.name,by decide,func283.trans (congrArg some (by kernel_rfl))⟩
  f50:=⟨f284.name,by decide,func284.trans (congrArg some (by kernel_rfl))⟩
  f57:=⟨f300.name,by decide,func300.trans (congrArg some (by kernel_rfl))⟩
  t0:=underlying0
  a0:=isAgg0
  z0:=sizeOf0
  v0:=zeroValue0
  t3:=underlying3
  a3:=isAgg3
  z3:=sizeOf3
  v3:=zeroValue3
  t4:=underlying4
  a4:=isAgg4
  z4:=sizeOf4
  v4:=zeroValue4
  t5:=underlying5
  a5:=isAgg5
  z5:=sizeOf5
  v5:=zeroValue5
  t9:=underlying9
  a9:=isAgg9
  z9:=sizeOf9
  v9:=zeroValue9
  t22:=underlying27
  a22:=isAgg27
  z22:=sizeOf27
  v22:=zeroValue27
  t25:=underlying192
  a25:=isAgg192
  z25:=sizeOf192
  v25:=zeroValue192
  t39:=underlying223
  a39:=isAgg223
  z39:=sizeOf223
  v39:=zeroValue223
  t45:=underlying275
  a45:=isAgg275
  z45:=sizeOf275
  v45:=zeroValue275
  t46:=underlying276
  a46:=isAgg276
  z46:=sizeOf276
  v46:=zeroValue276
  t50:=underlying124
  a50:=isAgg124
  z50:=sizeOf124
  v50:=zeroValue124
  t53:=underlying282
  a53:=isAgg282
  z53:=sizeOf282
  v53:=zeroValue282
  t55:=underlying222
  a55:=isAgg222
  z55:=sizeOf222
  v55:=zeroValue222
  t66:=underlying309
  a66:=isAgg309
  z66:=sizeOf309
  v66:=zeroValue309
  t70:=underlying313
  a70:=isAgg313
  z70:=sizeOf313
  v70:=zeroValue313
  t76:=underlying332
  a76:=isAgg332
  z76:=sizeOf332
  v76:=zeroValue332
  t77:=underlying333
  a77:=isAgg333
  z77:=sizeOf333
  v77:=zeroValue333 }
end Go.Proofs

namespace Go.Proofs.Q
open Go.Proofs.Tryz
open Go.Eng Go.RowKit Go.Lin Go.Sort Go.Srt
def AaX(l:List Int)(r:Int):Prop:=(∃(i:Nat) (hi:i<l.length),r=l[i]/\l[i]≠0/\∀j (hj:j<l.length),j<i->l[j]=0)\/(r=0/\∀j (hj:j<l.length),l[j]=0)
def or3(a b c:Int):Int:=if a≠0 then a else if b≠0 then b else c
theorem Aar{a b c r:Int}(h:AaX [a,b,c] r):r=or3 a b c:=by
 unfold or3;rcases h with ⟨i,hi,rfl,h1,h2⟩|⟨rfl,h⟩
 ·have hi:i<3:=hi;rcases (by omega:i=0\/i=1\/i=2) with rfl|rfl|rfl
  ·have h1:a≠0:=h1;show a=_;rw[if_pos h1]
  ·have h1:b≠0:=h1;have h3:a=0:=h2 0 (by simp) (by decide);show b=_;rw[if_neg (fun q=>q h3),if_pos h1]
  ·have h3:a=0:=h2 0 (by simp) (by decide);have h4:b=0:=h2 1 (by simp) (by decide);show c=_;rw[if_neg (fun q=>q h3),if_neg (fun q=>q h4)]
 ·have h3:a=0:=h 0 (by simp);have h4:b=0:=h 1 (by simp);have h5:c=0:=h 2 (by simp);rw[if_neg (fun q=>q h3),if_neg (fun q=>q h4),h5]
structure CeI where
 c:Cl
 v:Value
 one:v.oneCell'=true
 i:BH c.id
instance:Inhabited CeI:=⟨⟨default,.slice none 0 0,rfl,by decide⟩⟩
def CeI.ce(a:CeI):Ce:=⟨a.c,a.v⟩
def RB(a:CeI):List Value:=[.int .i64 a.c.id,.int .i64 a.c.dim,a.v]
theorem Ew:∀a,(RB a).length=3:=fun _=>rfl
theorem Xa(s:CeI):∀c∈RB s,c.oneCell'=true:=fun c hc=>by
 simp only[RB,mem_cons,not_mem_nil,or_false]at hc;rcases hc with rfl|rfl|rfl
 ·rfl
 ·rfl
 ·exact s.one
theorem WC(l:List CeI):(l.map CeI.ce).flatMap cC=l.flatMap RB:=by rw[List.flatMap_map];rfl
theorem UW:∀A:List Ce,(∀a∈A,a.v.oneCell'=true/\BH a.c.id)->∃l:List CeI,l.map CeI.ce=A
 | [],_=>⟨[],rfl⟩
 | a::A,h=>by obtain⟨l,hl⟩:=UW A fun b hb=>h b (List.Mem.tail _ hb);exact⟨⟨a.c,a.v,(h a Mh).1,(h a Mh).2⟩::l,by rw[map_cons,hl];rfl⟩
theorem own_ceI{m:Hp}{v:Value}{l:List CeI}:OwnL cC 3 52 m v (l.map CeI.ce)<->OwnL RB 3 52 m v l:=by
 constructor
 ·intro O;have h:=O.own;rw[WC,length_map]at h;exact⟨h,Ew⟩
 ·intro O;refine⟨?_,fun _=>rfl⟩;rw[WC,length_map];exact O.own
def Od(f:Int->Int)(x y:CeI):Int:=or3 (c3 (f x.c.id) (f y.c.id)) (c3 x.c.dim y.c.dim) (c3 x.c.id y.c.id)
theorem JT(f:Int->Int)(x y:CeI):Od f x y<0<->f x.c.id<f y.c.id\/(f x.c.id=f y.c.id/\(x.c.dim<y.c.dim\/(x.c.dim=y.c.dim/\x.c.id<y.c.id))):=by
 unfold Od or3 c3
 repeat' split
 all_goals omega
theorem Uh(f:Int->Int):SWO (ltOf (Od f)):=by
 refine⟨fun x=>?_,fun x y z h1 h2=>?_,fun x y z h1 h2=>?_⟩
 ·unfold ltOf;rw[decide_eq_false_iff_not,JT];omega
 ·unfold ltOf at *;rw[decide_eq_true_iff,JT]at *;omega
 ·unfold ltOf at *;rw[decide_eq_false_iff_not,JT]at *;omega
theorem AaR(v:Value)(l:List Int)(h:Hp)(hR:RdL cI 1 h [] v l)(hn:l.length<=1000000):FnT Tryz.prog 149 #[v] h [] (fun r _ _=>∃x,r=.int .i64 x/\AaX l x):=by
 have o1:=hR.rd.one;refine Ap func149 ntmps149 rfl rfl (fun w0 hw0=>?_);simp only[AX];refine As (Qm rfl (BK (Qm rfl (Am (Ac (As (Qm rfl (Qx (Ar hR.rd.any rfl AU rfl) rfl (Qm rfl (Am (Ag ?_)))))))))))
 refine Ay (fun q s h' ms'=>∃(k:Nat),q=l.length-k/\s=[(3,.int .i64 0),(6,v),(7,.int .i64 l.length),(8,.int .i64 k)]/\h=h'/\ms'=[]/\k<=l.length/\∀j (hj:j<l.length),j<k->l[j]=0)
  (l.length-0) _ ⟨0,rfl,rfl,rfl,rfl,by omega,fun j _ hj=>by omega⟩ Qs ?_
 rintro q s h' ms' ⟨k,rfl,rfl,rfl,rfl,hk,hno⟩;refine As (Qm rfl (Am (Ac ?_)));refine Aq rfl (fun hlt=>?_) (fun hlt=>?_)
 ·have hkn:k<l.length:=by omega
  have ck:∀ms,Cell h ms ((AF v).add (k*1)) (.int .i64 l[k]):=fun ms=>(hR.any (ms:=ms)).cell0 hkn rfl;refine Ah (Ab (Ac (Ag (As (Qx (BF (k) hR.rd.any rfl AU A6 rfl rfl) rfl (Ql rfl U3 (ck _) (Qm rfl (BK (Qm rfl (Qm rfl (Qm rfl (Am ?_))))))))))));refine Aq rfl (fun hz=>?_) (fun hz=>?_)
  ·refine Ac (Ad (Qm rfl (Qm rfl (Am (An (Aj (Ae (Ae (Aj (Ae ?_))))))))));exact Az rfl rfl (⟨_,rfl,.inl ⟨k,hkn,rfl,hz,hno⟩⟩)
  ·refine Ah (Ai (Ab (Ad (Qx (oA rfl) rfl (Qm rfl (Ak ?_))))));refine Al (l.length-(k+1)) _ (by omega) ⟨k+1,rfl,rfl,rfl,rfl,by omega,fun j hj hjk=>?_⟩ Qs;rcases (by omega:j<k\/j=k) with h2|rfl
   ·exact hno j hj h2
   ·exact Classical.not_not.1 hz
 ·obtain rfl:k=l.length:=by omega
  refine Av (Aa (Aa (Af (Ab (As (Qm rfl (Qm rfl (Am (An ?_)))))))));exact Az rfl rfl (⟨_,rfl,.inr ⟨rfl,fun j hj=>hno j hj hj⟩⟩)
theorem Abj(g:Nat)(a b c:Int)(h:Hp)(ms:List Hp)(hm:Bn g 3 [.int .i64 a,.int .i64 b,.int .i64 c]∈ms):FnV Tryz.prog 149 #[.slice (some ⟨g,0,none⟩) 3 3] h ms (.int .i64 (or3 a b c)):=
 CH fun h' _ hl=>EO ((AaR _ [a,b,c] h' ((OwnL.blk (g:=g) (el:=3) (F:=cI) (l:=[a,b,c]) 3 Bg rfl (by decide)).rdh (h:=h') (ms:=[]) (hl _ hm)) (by simp)).mono fun r _ _ ⟨x,e,hx⟩=>by rw[e,Aar hx]) []
theorem AaH(T:List (Int×Int))(gA gm g:Nat)(mA:Hp)(bs:List Nat)(x y:CeI)(h:Hp)(e10:∀ms,Cell h ms (⟨g,0,none⟩:Addr) (.pointer (some ⟨gm,0,none⟩)))(e2:∀ms,Cell h ms (⟨gm,2,none⟩:Addr) (.map (some gA)))(O:CO kN kN gA BH mA T bs)(lA:mA.le h)(ms:List Hp) :
  FnV Tryz.prog 148 #[.agg (RB x).toArray,.agg (RB y).toArray,.pointer (some ⟨g,0,none⟩)] h ms (.int .i64 (Od (fun c=>(Bi T c).getD 0) x y)):=by
 refine EO ?_ ms;have o1:=x.one;have o2:=y.one;show FnT _ _ #[.agg #[.int .i64 x.c.id,.int .i64 x.c.dim,x.v],.agg #[.int .i64 y.c.id,.int .i64 y.c.dim,y.v],.pointer (some ⟨g,0,none⟩)] _ _ _;refine Ap func148 ntmps148 rfl rfl (fun w0 hw0=>?_);simp only[AX];refine As (AV [_,_,_] rfl rfl (by rfl) rfl rfl rfl (fun g3=>AV [_,_,_] rfl rfl (by rfl) rfl rfl rfl (fun g4=>Qm rfl (Am (AC fun h1 l1 hG4=>(AC fun h2 l2 hG3=>?_))))));have hG4:=hG4.le l2;have l12:=AJ l1 l2;have e10:∀ms,Cell h2 ms (⟨g,0,none⟩:Addr) (.pointer (some ⟨gm,0,none⟩)):=fun ms=>(e10 ms).le l12;have e2:∀ms,Cell h2 ms (⟨gm,2,none⟩:Addr) (.map (some gA)):=fun ms=>(e2 ms).le l12;have e30:∀ms,Cell h2 ms (⟨g3,0,none⟩:Addr) (.int .i64 x.c.id):=fun ms=>Seg.all hG3 0 _ rfl ms;have e31:∀ms,Cell h2 ms (⟨g3,1,none⟩:Addr) (.int .i64 x.c.dim):=fun ms=>Seg.all hG3 1 _ rfl ms;have e40:∀ms,Cell h2 ms (⟨g4,0,none⟩:Addr) (.int .i64 y.c.id):=fun ms=>Seg.all hG4 0 _ rfl ms;have e41:∀ms,Cell h2 ms (⟨g4,1,none⟩:Addr) (.int .i64 y.c.dim):=fun ms=>Seg.all hG4 1 _ rfl ms;refine Ac (Bc 24 CS (by kernel_rfl) rfl (Wl rfl T4 (e10 _) (Wm rfl (Wf JY rfl (Wl rfl Lw (e2 _) (Wf Bt rfl (Wl rfl U3 (e30 _) (AR (Cf (V:=kN) (z:=(0:Int)) (u:=(Bi T x.c.id).getD 0) x.c.id rfl Bs O (AJ lA l12) rfl Lw HH rfl rfl x.i) rfl rfl (Wl rfl T4 (e10 _) (Wm rfl (Wf JY rfl (Wl rfl Lw (e2 _) (Wf Bt rfl (Wl rfl U3 (e40 _) (AR (Cf (V:=kN) (z:=(0:Int)) (u:=(Bi T y.c.id).getD 0) y.c.id rfl Bs O (AJ lA l12) rfl Lw HH rfl rfl y.i) rfl rfl (AR (AL rfl call150 rfl (F1 _ _ _ _)) rfl rfl (Wf BY rfl (Wl rfl U3 (e31 _) (Wf BY rfl (Wl rfl U3 (e41 _) (AR (AL rfl call150 rfl (F1 _ _ _ _)) rfl rfl (Wf Bt rfl (Wl rfl U3 (e30 _) (Wf Bt rfl (Wl rfl U3 (e40 _) (AY (Qx (AL rfl call150 rfl (F1 _ _ _ _)) rfl (Ax [(0,_),(1,_),(2,_)] [.int .i64 0,.int .i64 0,.int .i64 0] [_,_,_] rfl AU A6 rfl (by omega) (by kernel_rfl) Qt rfl rfl rfl rfl (fun g31=>?_)))))))))))))))))))))))))))));refine Qx (AL rfl call149 rfl (Abj _ _ _ _ _ _ (by repeat (first|exact Mh|refine List.Mem.tail _ ?_)))) rfl ?_;refine Qm rfl (Am (An ?_));exact Az rfl rfl (rfl)
def Dz(T:List (Int×Int))(c:Int):Int:=(Bi T c).getD 0
theorem SB(T:List (Int×Int))(gA gm g0:Nat)(mA:Hp)(bs:List Nat)(l:List CeI)(v:Value)(m h:Hp)(e10:∀ms,Cell h ms (⟨g0,0,none⟩:Addr) (.pointer (some ⟨gm,0,none⟩)))(e2:∀ms,Cell h ms (⟨gm,2,none⟩:Addr) (.map (some gA)))(OA:CO kN kN gA BH mA T bs)(lA:mA.le h)(O:OwnL RB 3 52 m v l)(hl:l.length<=1000000) :
  FnT Tryz.prog 147 #[v,.func (.func 148) #[] #[.pointer (some ⟨g0,0,none⟩)]] h [m] (fun _ h' ms'=>h=h'/\∃(l':List CeI) (m':Hp),ms'=[m']/\OwnL RB 3 52 m' v l'/\l'.Perm l/\l'.Pairwise fun a b=>¬Od (Dz T) b a<0):=by
 intro w hw;obtain⟨⟨h1,h2⟩,hF⟩:=O;rcases h2 with ⟨rfl,h4,rfl⟩|⟨g,cap,spare,rfl,rfl,e1,e2',e3⟩
 ·obtain rfl:l=[]:=List.length_eq_zero_iff.1 h4;refine(AnyF.slices_SortFunc_none Tryz.laysSlF06 none 0 (.func (.func 148) #[] #[.pointer (some ⟨g0,0,none⟩)]) w).mono fun x w' ⟨e,ew⟩=>?_;subst ew;exact⟨_,h,[Hp.emp],e,Ends.refl hw,rfl,[],Hp.emp,rfl,OwnL.nil Ew,List.Perm.refl _,List.Pairwise.nil⟩
 ·have hg:w.heap[g]?=some (.cells (l.toArray.toList.flatMap RB++spare).toArray 52 (0,0)):=hw.own _ (List.mem_singleton.2 rfl) g _ (Hp.one_self _ _);have hlt:=(Array.getElem?_eq_some_iff.1 hg).1
  have hlays:CmpLays Tryz.prog 148 #[.pointer (some ⟨g0,0,none⟩)] RB 3 (Od (Dz T)) g 0 l.toArray.size w:=fun mm os dk hs x y=>by have hE:=L7 (enc:=RB) (n:=mm) (el:=52) Ew (by omega) l.toArray dk hs spare os hw;exact(AaH T gA gm g0 mA bs x y h e10 e2 OA lA [] _ (hE.st.weaken (C9) (List.nil_sublist _))).mono fun _ _ ⟨e,h⟩=>⟨e,h.grown⟩
  refine(AnyQ.slices_SortFunc Tryz.laysSlF06 3 Tryz.isAgg52 Tryz.sizeOf52 RB Ew Xa (Od (Dz T)) (Uh _) 148 #[.pointer (some ⟨g0,0,none⟩)] g 0 cap l.toArray w call148 hlays (SO Ew (by omega) l.toArray spare hg) hlt (by simp;omega)).mono fun x w' ⟨e,d',n,os,P,S,ew⟩=>?_;subst ew;have hsz:d'.size=l.length:=by have:=P.1;simpa using this
  have hE:=L7 (enc:=RB) (n:=n) (el:=52) Ew (by omega) l.toArray d' (by simpa using hsz) spare os hw;refine⟨_,h,_,e,hE,rfl,d'.toList,_,rfl,⟨⟨?_,.inr ⟨g,cap,spare,?_,rfl,?_,?_,e3⟩⟩,Ew⟩,?_,?_⟩
  ·exact Bf Ew _
  ·have:d'.toList.length=l.length:=by rw[Array.length_toList,hsz]
   rw[this]
  ·rw[length_append,Bf Ew,Array.length_toList,hsz,<-Bf Ew l,<-length_append];exact e1
  ·rw[Array.length_toList,hsz];exact e2'
  ·have h:=P.2.2;have q1:d'.extract 0 l.toArray.size=d':=by rw[<-P.1];simp
   have q2:l.toArray.extract 0 l.toArray.size=l.toArray:=by simp
   rw[q1,q2]at h;exact h
  ·rw[List.pairwise_iff_getElem];intro i j hi hj hij;have hi':i<d'.size:=by simpa using hi
   have hj':j<d'.size:=by simpa using hj
   have h:=S i j (by omega) hij (by simp;omega);have q1:d'[i]! = d'[i]:=by simp[hi']
   have q2:d'[j]! = d'[j]:=by simp[hj']
   rw[q1,q2]at h;exact of_decide_eq_false h
end Go.Proofs.Q
namespace Go.Proofs.Q
open Go.Eng Go.RowKit Go.Lin Go.Sort Go.Srt
variable {p:Int} {S:List Ce} {i j:Nat}
def ColsO:Hp->List Value->List (List Int)->Prop
 | m,[],[]=>m=Hp.emp
 | m,v::vs,c::cs=>∃a b,m=a.join b/\a.disj b/\OwnL cI 1 3 a v c/\ColsO b vs cs
 | _,_,_=>False
theorem ColsO.len:∀{vs:List Value} {cs:List (List Int)} {m:Hp},ColsO m vs cs->vs.length=cs.length
 | [],[],_,_=>rfl
 | _::_,_::_,_,⟨_,_,_,_,_,h⟩=>by simp[h.len]
 | [],_::_,_,h=>h.elim
 | _::_,[],_,h=>h.elim
theorem ColsO.snoc{v:Value}{c:List Int}{b:Hp}(O:OwnL cI 1 3 b v c):∀{vs:List Value} {cs:List (List Int)} {m:Hp},ColsO m vs cs->m.disj b->ColsO (m.join b) (vs++[v]) (cs++[c])
 | [],[],m,h,hd=>by have h:m=Hp.emp:=h;subst h;exact⟨b,Hp.emp,by rw[Hp.join_emp,Hp.emp_join],fun g=>.inr rfl,O,rfl⟩
 | _::_,_::_,m,⟨a,b',e,hd',O',h⟩,hd=>by subst e;refine⟨a,b'.join b,Hp.join_assoc _ _ _,?_,O',h.snoc O (Hp.disj_right hd)⟩;exact Hp.disj_symm (Hp.disj_join (Hp.disj_symm hd') (Hp.disj_symm (Hp.disj_left hd)))
 | [],_::_,_,h,_=>h.elim
 | _::_,[],_,h,_=>h.elim
def D7(S:List Ce):Nat->List (Int×Int)
 | 0=>[]
 | j+1=>C4 (D7 S j) (S.getD j default).c.id (j:Int)
theorem HY(S:List Ce)(c:Int):∀j,0<=(Bi (D7 S j) c).getD 0/\(0<j->(Bi (D7 S j) c).getD 0<j)
 | 0=>by simp[D7,Bi]
 | j+1=>by
  have ih:=HY S c j;unfold D7;rw[Dd];split
  ·simp only[Option.getD_some];omega
  ·refine⟨ih.1,fun _=>?_⟩;rcases Nat.eq_zero_or_pos j with rfl|h
   ·simp[D7,Bi]
   ·have:=ih.2 h;omega
theorem KK(hn:(S.map fun a=>a.c.id).Nodup)(hi:i<S.length):∀j,i<j->j<=S.length->Bi (D7 S j) S[i].c.id=some (i:Int)
 | 0,h,_=>by omega
 | j+1,h,hj=>by
  unfold D7;rw[Dd];have ej:S.getD j default=S[j]:=by simp[List.getD,show j<S.length from by omega]
  rw[ej];split
  ·rename_i e
   have h1:i=j:=by have h2:=List.pairwise_iff_getElem.1 hn;refine Classical.byContradiction fun hne=>?_;have h3:=h2 i j (by simpa using hi) (by simp;omega) (by omega);simp only[List.getElem_map]at h3;exact h3 e
   rw[h1]
  ·rename_i e;rcases (by omega:i<j\/i=j) with h1|rfl
   ·exact KK hn hi j h1 (by omega)
   ·exact absurd rfl e
def pl(S:List Ce)(j:Nat)(c:Int):Nat:=((Bi (D7 S j) c).getD 0).toNat
theorem R9(S:List Ce)(j:Nat)(c:Int):((pl S j c:Nat):Int)=(Bi (D7 S j) c).getD 0:=Int.toNat_of_nonneg (HY S c j).1
theorem AaZ(S:List Ce)(hj:0<j)(c:Int):pl S j c<j:=by have h1:=(HY S c j).2 hj;have h2:=R9 S j c;omega
theorem Z5(hn:(S.map fun a=>a.c.id).Nodup)(hij:i<j)(hj:j<=S.length):pl S j (S.getD i default).c.id=i:=by
 have hi:i<S.length:=by omega
 unfold pl;rw[show S.getD i default=S[i] by simp[List.getD,hi],KK hn hi j hij hj];rfl
def Fc(p:Int)(S:List Ce)(j k:Nat):List Int:=((S.getD j default).c.sd.take k).foldl (fun c s=>c.set (pl S (j+1) s.1) ((s.2+p)%p)) (replicate S.length 0)
def JM(p:Int)(S:List Ce)(j:Nat):List Int:=Fc p S j (S.getD j default).c.sd.length
def Fb(n j:Nat):List Int:=(replicate n 0).set j 1
theorem Me{k:Nat}(hk:k<(S.getD j default).c.sd.length):Fc p S j (k+1)=(Fc p S j k).set (pl S (j+1) ((S.getD j default).c.sd[k]).1) (((S.getD j default).c.sd[k].2+p)%p):=by unfold Fc;rw[List.take_succ_eq_append_getElem hk,List.foldl_append];rfl
theorem FX(p:Int)(S:List Ce)(j k:Nat):(Fc p S j k).length=S.length:=by
 unfold Fc
 have:∀(l:List (Int×Int)) (c:List Int),(l.foldl (fun c s=>c.set (pl S (j+1) s.1) ((s.2+p)%p)) c).length=c.length:=fun l=>by
  induction l with
  | nil=>intro c;rfl
  | cons a l ih=>intro c;rw[List.foldl_cons,ih,length_set]
 rw[this,List.length_replicate]
theorem Rx{x:Int}{l:List Int}(h:KF p l)(hx:0<=x/\x<p):KF p (l.set i x):=fun y hy=>by
 rcases List.mem_or_eq_of_mem_set hy with h1|rfl
 ·exact h y h1
 ·exact hx
theorem RL(hp:0<p)(n:Nat):KF p (replicate n 0):=fun y hy=>by rw[(List.mem_replicate.1 hy).2];omega
theorem N7(hp:0<p)(S:List Ce)(j k:Nat):KF p (Fc p S j k):=by
 unfold Fc
 have:∀(l:List (Int×Int)) (c:List Int),KF p c->KF p (l.foldl (fun c s=>c.set (pl S (j+1) s.1) ((s.2+p)%p)) c):=fun l=>by
  induction l with
  | nil=>intro c h;exact h
  | cons a l ih=>intro c h;exact ih _ (Rx h ⟨Int.emod_nonneg _ (by omega),Int.emod_lt_of_pos _ hp⟩)
 exact this _ _ (RL hp _)
theorem Ms(n j:Nat):(Fb n j).length=n:=by unfold Fb;simp
theorem SF(hp:2<=p)(n j:Nat):KF p (Fb n j):=Rx (RL (by omega) n) (by omega)
theorem GC{α:Type}(f:Nat->α)(j:Nat):(range (j+1)).map f=(range j).map f++[f j]:=by rw[List.range_succ,map_append];rfl
end Go.Proofs.Q
namespace Go.Proofs.Q
open Go.Proofs.Tryz
open Go.Eng Go.RowKit Go.Lin Go.Sort Go.Srt
variable {e:Entry} {Q:Exit->Act->World->Prop} {ops:Array Oper} {s:AB} {h:Hp} {ms:List Hp}
def NI(f:Int->Int)(S:List Ce):Prop:=S.Pairwise fun a b=>f a.c.id<f b.c.id\/(f a.c.id=f b.c.id/\(a.c.dim<b.c.dim\/(a.c.dim=b.c.dim/\a.c.id<=b.c.id)))
theorem Yp{f:Int->Int}{l:List CeI}(h:l.Pairwise fun a b=>¬Od f b a<0):NI f (l.map CeI.ce):=by unfold NI;rw[List.pairwise_map];refine h.imp fun {a b} h=>?_;rw[JT]at h;show f a.c.id<f b.c.id\/(f a.c.id=f b.c.id/\(a.c.dim<b.c.dim\/(a.c.dim=b.c.dim/\a.c.id<=b.c.id)));omega
def box0:List Value:=.int .i64 0::.slice none 0 0::.map none::.slice none 0 0::.slice none 0 0::replicate 400 (.int .i64 0)
theorem Pq(p:Int)(vA:Value)(gL:Nat):M6 box0 [(0,[.int .i64 p]),(1,[vA]),(2,[.map (some gL)])]=EG p vA gL (.slice none 0 0) (.slice none 0 0) (replicate 400 0):=by unfold box0 EG;rw[List.map_replicate];rfl
theorem OJ:box0.length=405:=by unfold box0;simp
theorem Aaz{v:Value}(h:v.oneCell'=true):∀a∈[v],∀c∈cU a,c.oneCell'=true:=fun a ha c hc=>by rw[List.mem_singleton.1 ha]at hc;rw[List.mem_singleton.1 (show c∈[v] from hc)];exact h
theorem Gu{rest:List Oper}{o:Oper}{d g:Nat}{x y:Operand}{v q:Value}{m:Hp}{l:List Value}(i:Nat)(O:OwnL cU 1 22 m v l)(hm:Bn g 22 [q]∈ms)(hl:l.length<=400)(hP:e.P=Tryz.prog)(ho:o.op=.call { callee:=.builtin .append,args:=#[x,y],argTypes:=#[81,81] })
  (hx:ev s x=some v) (hy:ev s y=some (.slice (some ⟨g,0,none⟩) 1 1)) (hi:ms[i]?=some m) (hq:q.oneCell'=true) (hd:o.dst=some d) (hn:Nat.blt d e.n=true) (hg:o.guard=none) (K:∀v' m',OwnL cU 1 22 m' v' (l++[q])->WL e ops Q rest ((d,v')::s) h (ms.set i m')):WL e ops Q (o::rest) s h ms:=
 Bd i O (RdL.one Km (x:=q) hm rfl) ho (hP ▸ Ch) (hP ▸ Cr) rfl (by omega) hx hy hi (Aaz hq) (by simp only[length_singleton];omega) (by simp only[length_singleton];omega) hd hn hg K
theorem FA{rest:List Oper}{o:Oper}{d n c:Nat}{x:Operand}{a:Option Addr}(hP:e.P=Tryz.prog)(ho:o.op=.buildSlice 81 1 #[(0,x)])(hx:ev s x=some (.slice a n c))(hd:o.dst=some d)(hn:Nat.blt d e.n=true)(hg:o.guard=none)(k:∀g,WL e ops Q rest ((d,.slice (some ⟨g,0,none⟩) 1 1)::s) h (Bn g 22 [.slice a n c]::ms)):WL e ops Q (o::rest) s h ms:=
 Ao [_] ho (hP ▸ Ch) (hP ▸ Cr) hx rfl rfl rfl (by simp) hd hn hg k
theorem VY{h0:Hp}{n:Nat}{listed:Array Bool}(n2:Nat)(L2:Array Bool)(I:AB->List Hp->Prop)(k1:∀L s ms,L=L2->I s ms->WB e ops Q h0 n2 L s h ms)(k2:(∀L s ms,L=L2->I s ms->WB e ops Q h0 n2 L s h ms)->WB e ops Q h0 n listed s h ms):WB e ops Q h0 n listed s h ms:=k2 k1
theorem Wj(l:List Ce)(F:List (Int×Int))(v vf:Value)(p:Int)(hp:Hp)(hK:RgC l)(hR:RdC hp v l)(hF:RdL cV 2 hp [] vf F)(hV:Gs F)(h0:Cy (cn l) F=(0,0))(hP:IsP p)(hl:l.length<=400):FnT Tryz.prog 91 #[.agg #[v],vf,.int .i64 p] hp [] (fun r h' ms'=>hp.le h'/\∃(gm gA:Nat) (mA:Hp) (bs:List Nat) (S:List Ce) (vc vr vv:Value) (Rs Vs:List Value) (mR mV:Hp),r=.tuple #[.pointer (some ⟨gm,0,none⟩),.int .i64 0]/\ms'=[Bn gm 130 (EG p vc gA vr vv (replicate 400 0)),mR,mV]/\CO kN kN gA BH mA (BD F) bs/\mA.le h'/\RdL cC 3 h' [] vc S/\RdL cU 1 h' [] vr Rs/\RdL cU 1 h' [] vv Vs/\ColsO mR Rs ((range S.length).map (JM p S))/\ColsO mV Vs ((range S.length).map (Fb S.length))/\(S.map Ce.c).Perm (cn l)/\NI (Dz (BD F)) S/\∀a∈S,RdL cD 2 h' [] a.v a.c.sd):=by
 have o1:=hR.q.rd.one;have o2:=hF.rd.one;have hp1:=hP.1;have hp2:=hP.2.1;have hG:=hK.F.rgt;refine Ap func91 ntmps91 rfl rfl (fun w0 hw0=>?_);simp only[AX];refine As (AV [_] rfl rfl (by rfl) rfl rfl rfl (fun g3=>Qm rfl (Qm rfl (Am (AC fun h1 l1 hS=>?_)))));have hR:=hR.up l1;have hF:=hF.up l1;have hck:=Dc l F v vf h1 hK hR hF hV;rw[h0]at hck;refine Ac (As (Qx (oG rfl CF AW (Seg.any hS)) rfl (Qm rfl (Qx (AL rfl call24 rfl (EO hck _)) rfl (Qm rfl (Qm rfl (Qm rfl (Qm rfl (Qm rfl (BK (Qm rfl (Qm rfl (Am (Aq rfl (fun hc=>absurd hc (fun h=>h rfl)) (fun hc=>Ah (Ab (As (Qm rfl (Qx (oG rfl CF AW (Seg.any hS)) rfl (Qc call65 rfl (Hm l v _ hK hR) (fun rC h2 ms2 l2 hQ=>?_)))))))))))))))))))));obtain⟨l2',mC,A,vA,rfl,rfl,hOC,hAl,hsA⟩:=hQ;have hF:=hF.up l2;refine Qx (DD rfl CF rfl Bh rfl rfl rfl) rfl (Qm rfl (Qc call66 rfl (Hf F vf _ hF hV.n hV.k) (fun rL h3 ms3 l3 hL=>?_)));obtain⟨l3',gL,mL,bL,rfl,rfl,hOL⟩:=hL;have hsA:=fun a ha=>(hsA a ha).up l3
 have hAid:∀a∈A,BH a.c.id:=fun a ha=>by
  have h1:a.c∈cn l:=by rw[<-hAl];exact List.mem_map.2 ⟨a,ha,rfl⟩
  have h2:=hG.pos _ h1;have h3:=hK.ci h1;unfold BH;omega
 obtain⟨A,rfl⟩:=UW A fun a ha=>⟨(hsA a ha).rd.one,hAid a ha⟩
 have hOC:=own_ceI.1 hOC;have ovA:=hOC.o1;have cvA:vA.cells=#[vA]:=(hOC.rd (h:=h3) (ms:=[mC]) Mh).rd.cells;refine Qx (A3 Zh box0 [(0,[_]),(1,[vA]),(2,[_])] (EG p vA gL (.slice none 0 0) (.slice none 0 0) (replicate 400 0)) rfl Zi (by kernel_rfl) rfl (by rw[OJ];exact⟨⟨rfl,rfl,rfl⟩,⟨cvA,rfl,rfl⟩,⟨rfl,rfl,rfl⟩,trivial⟩) (Pq p vA gL)) rfl ?_;refine AV (EG p vA gL (.slice none 0 0) (.slice none 0 0) (replicate 400 0)) rfl rfl rfl rfl rfl rfl (fun g34=>Cz [.pointer none] rfl Xe rfl rfl (fun g10=>AS 0 0 rfl Xe rfl rfl (by rfl) rfl rfl (by decide) rfl rfl (Am (AC fun h4 l4 hG10=>(DZ 1 rfl (Bq fun h5 l5 lL=>(Gy fun h6 l6 lG dG LG=>?_)))))));have l36:=AJ l4 (AJ l5 l6);have hG6:=hG10.le (AJ l5 l6);have hS6:=Seg.ofLe lG;have e10:∀ms,Cell h6 ms (⟨g10,0,none⟩:Addr) (.pointer (some ⟨g34,0,none⟩)):=fun ms=>Seg.all hG6 0 _ rfl ms;have e1:∀ms,Cell h6 ms (⟨g34,1,none⟩:Addr) vA:=fun ms=>Seg.all hS6 1 _ rfl ms;have e2:∀ms,Cell h6 ms (⟨g34,2,none⟩:Addr) (.map (some gL)):=fun ms=>Seg.all hS6 2 _ rfl ms;have hAlen:A.length=l.length:=by have:=congrArg List.length hAl;rw[Ds]at this;simpa using this
 have hOC6:=hOC.rd (h:=h6) (ms:=[mC]) Mh;have hpv:=J6 p h6 (by unfold BH;omega);rw[decide_eq_true hP]at hpv;refine Ac (Ag (As (Qm rfl (Qx (AL rfl call54 rfl (hpv _)) rfl (Qm rfl (Qm rfl (Am (AP rfl (As (Ql rfl T4 (e10 _) (Qm rfl (Qf E3 rfl (Ql rfl Bh (e1 _) (Qx (Ar hOC6.rd rfl Bh rfl) rfl (Qm rfl (Qm rfl (Am ?_)))))))))))))))));refine Aq rfl (fun hc=>absurd hc (fun h=>by omega)) (fun hc=>?_);refine Ah (Ai (Ab (As (Ql rfl T4 (e10 _) (Qm rfl (Qf E3 rfl (Ql rfl Bh (e1 _) (Qx (BW rfl rfl rfl) rfl (Bb (pre:=[mC]) rfl call147 rfl (SB (BD F) gL g34 g10 mL bL A vA mC h6 e10 e2 hOL (AJ lL l6) hOC (by omega)) rfl rfl rfl rfl (fun _ h7 ms7 l7 hQ=>?_))))))))));obtain⟨rfl,A',mC',rfl,hOC',hpm,hsr⟩:=hQ;refine Am (Fy LG lG fun h7 q7 b7=>(DZ 1 rfl (Bu (own_ceI.2 hOC') fun h8 l8 hQ=>?_)));have l57:h5.le h7:=b7 _ l6 dG;have l58:=AJ l57 l8;have hG8:=hG10.le (AJ l5 l58);have lL8:=AJ lL l58;have l38:=AJ l4 (AJ l5 l58);have e10:∀ms,Cell h8 ms (⟨g10,0,none⟩:Addr) (.pointer (some ⟨g34,0,none⟩)):=fun ms=>Seg.all hG8 0 _ rfl ms;obtain⟨S,hSe⟩:∃S,A'.map CeI.ce=S:=⟨_,rfl⟩
 have hsrt:=Yp hsr;have hSp:S.Perm (A.map CeI.ce):=by rw[<-hSe];exact hpm.map _
 have hSc:(S.map Ce.c).Perm (cn l):=by rw[<-hAl];exact hSp.map _
 have hSA:∀a∈S,RdL cD 2 h8 [] a.v a.c.sd:=fun a ha=>(hsA a (hSp.mem_iff.1 ha)).up l38;have hSi:∀a∈S,BH a.c.id:=fun a ha=>hAid a (hSp.mem_iff.1 ha)
 have hSs:∀a∈S,a.c.sd.length<=64/\∀s∈a.c.sd,BH s.1/\(s.2=1\/s.2=-1):=fun a ha=>by have h1:a.c∈cn l:=hSc.mem_iff.1 (List.mem_map.2 ⟨a,ha,rfl⟩);refine⟨(hK.F.bds h1).2.1,fun s hs=>⟨?_,hG.sgn _ h1 s hs⟩⟩;obtain⟨y,hy,e,_⟩:=hG.sid _ h1 s hs;have h2:=hG.pos _ hy;have h3:=hK.ci hy;rw[<-e];unfold BH;omega
 have hSn:S.length<=400:=by have:=hSc.length_eq;rw[length_map,Ds]at this;omega
 rw[hSe]at hsrt hQ;have ovA:=hQ.rd.one;refine As (C3 (K:=kN) (V:=kN) (Ok:=BH) rfl rfl rfl rfl (fun gP mP hP0=>Qm rfl (Am (BJ (BJ (BJ (BJ (Ac (As (Ql rfl T4 (e10 _) (Qm rfl (Qf E3 rfl (Ql rfl Bh (Cell.blk 5 (k:=1) rfl rfl) (Qx (Ar hQ.rd.any rfl Bh rfl) rfl (Qm rfl (Am (Ag ?_)))))))))))))))))
 refine Ay (fun q sl h' ms'=>∃(j:Nat) (vr vv:Value) (mr mv mR mV mP:Hp) (Rs Vs:List Value) (bs:List Nat),q=S.length-j/\sl=[(2,.int .i64 p),(10,.pointer (some ⟨g10,0,none⟩)),(11,.map (some gP)),(56,vA),(57,.int .i64 S.length),(58,.int .i64 j)]/\h8.le h'/\ms'=[mr,mv,mR,mV,mP,Bn g34 130 (EG p vA gL vr vv (replicate 400 0))]/\j<=S.length/\CO kN kN gP BH mP (D7 S j) bs/\OwnL cU 1 22 mr vr Rs/\OwnL cU 1 22 mv vv Vs/\ColsO mR Rs ((range j).map (JM p S))/\ColsO mV Vs ((range j).map (Fb S.length))/\Rs.length=j/\Vs.length=j)
  (S.length-0) _ ⟨0,.slice none 0 0,.slice none 0 0,Hp.emp,Hp.emp,Hp.emp,Hp.emp,mP,[],[],[],rfl,rfl,C9,rfl,by omega,hP0,OwnL.nil Km,OwnL.nil Km,rfl,rfl,rfl,rfl⟩ Qs ?_
 rintro q sl h' ms' ⟨j,vr,vv,mr,mv,mR,mV,mP,Rs,Vs,bs,rfl,rfl,l9,rfl,hj,hO,Or,Ov,CR,CV,hRl,hVl⟩;have hQ:=hQ.up l9;have e10:∀ms,Cell h' ms (⟨g10,0,none⟩:Addr) (.pointer (some ⟨g34,0,none⟩)):=fun ms=>(e10 ms).le l9;have ovr:=Or.o1;have ovv:=Ov.o1;refine As (Qm rfl (Am (Ac ?_)));refine Aq rfl (fun hlt=>?_) (fun hlt=>?_)
 ·have hjl:j<S.length:=by omega
  obtain⟨x,hx⟩:∃x,S[j]=x:=⟨_,rfl⟩
  have hxm:x∈S:=by rw[<-hx];exact getElem_mem hjl
  have hgx:S.getD j default=x:=by simp[List.getD,hjl,hx]
  have hX:=(hSA x hxm).up l9;have oxv:=hX.rd.one;have hxI:=hSi x hxm;obtain⟨hxn,hxs⟩:=hSs x hxm;have hsx:∀ms,Seg h' ms ((AF vA).add (j*3)) (cC x):=fun ms=>by rw[<-hx];exact(hQ.any (ms:=ms)).seg hjl
  refine Ah (Ab ?_);refine A9 (fun sl h'' ms'=>∃(vr' vv' va vb:Value) (mr' mv' mc mo mP':Hp) (bs':List Nat),sl=[(2,.int .i64 p),(10,.pointer (some ⟨g10,0,none⟩)),(11,.map (some gP)),(56,vA),(57,.int .i64 S.length),(58,.int .i64 j)]/\h'.le h''/\ms'=[Bn g34 130 (EG p vA gL vr' vv' (replicate 400 0)),mP',mc,mo,mr',mv',mR,mV]/\CO kN kN gP BH mP' (D7 S (j+1)) bs'/\OwnL cU 1 22 mr' vr' (Rs++[va])/\OwnL cU 1 22 mv' vv' (Vs++[vb])/\OwnL cI 1 3 mc va (JM p S j)/\OwnL cI 1 3 mo vb (Fb S.length j)) ?_ (fun s h ms hI=>?_)
  ·refine Ag (As (Qm rfl (Qx (BF (j) hQ.rd.any rfl Bh AI rfl rfl) rfl (Qx (oG rfl Ef AI (hsx _)) rfl (Cz [.int .i64 0,.int .i64 0,.slice none 0 0] rfl AI rfl rfl (fun g13=>Qm rfl ?_))))));refine Sa 0 [_,_,_] AI rfl (by simp[o1,o2,ovA,oxv,ovr,ovv]) ?_;refine Am (AC fun h10 l10 hS13=>?_);have e130:∀ms,Cell h10 ms (⟨g13,0,none⟩:Addr) (.int .i64 x.c.id):=fun ms=>Seg.all hS13 0 _ rfl ms;refine As (Qm rfl (Qf Bt rfl (Ql rfl U3 (e130 _) (Qm rfl (BU (V:=kN) (z:=undef) 4 x.c.id (j:Int) Bs hO rfl rfl Lw rfl rfl rfl hxI rfl rfl (fun mP' bs' hO'=>?_))))));have hpl:D7 S (j+1)=C4 (D7 S j) x.c.id (j:Int):=by rw[<-hgx];rfl
   rw[<-hpl]at hO';refine Am (DZ 5 rfl (Gy fun h11 l11 lG dG LG=>(DZ 4 rfl (Gy fun h12 l12 lP dP LP=>?_))));have l912:=AJ l10 (AJ l11 l12);have hX:=hX.up l912;have hS12:=(Seg.ofLe lG).le l12;have e10':∀ms,Cell h12 ms (⟨g10,0,none⟩:Addr) (.pointer (some ⟨g34,0,none⟩)):=fun ms=>(e10 ms).le l912;have e11':∀ms,Cell h12 ms (⟨g34,1,none⟩:Addr) vA:=fun ms=>Seg.all hS12 1 _ rfl ms;have e132':∀ms,Cell h12 ms (⟨g13,2,none⟩:Addr) x.v:=fun ms=>((Seg.all hS13 2 _ rfl ms).le l11).le l12;have e130':∀ms,Cell h12 ms (⟨g13,0,none⟩:Addr) (.int .i64 x.c.id):=fun ms=>((e130 ms).le l11).le l12;have hQ12:=hQ.up l912;refine A9 (fun sl h' ms'=>∃ga gb:Nat,sl=[(2,.int .i64 p),(10,.pointer (some ⟨g10,0,none⟩)),(11,.map (some gP)),(12,.int .i64 j),(13,.pointer (some ⟨g13,0,none⟩)),(14,.slice (some ⟨ga,0,none⟩) S.length S.length),(15,.slice (some ⟨gb,0,none⟩) S.length S.length),(56,vA),(57,.int .i64 S.length),(58,.int .i64 j)]/\h12=h'/\ms'=[Bn ga 3 (replicate S.length (.int .i64 0)),Bn gb 3 (replicate S.length (.int .i64 0)),mr,mv,mR,mV]) ?_ (fun s h ms hI=>?_)
   ·refine BG (n:=14) (bs:=[true,true,true,true,true,false,true,true,true,true,true,false,false,false]) [true,true,true,true,true,false,true,true,true,true,true] CS (by kernel_rfl) (by kernel_rfl) rfl rfl (QL rfl T4 (e10' _) (Qq rfl (QF E3 rfl (QL rfl Bh (e11' _) (Qp rfl (Ar hQ12.rd.any rfl Bh rfl) (QL rfl T4 (e10' _) (Qq rfl (QF E3 rfl (QL rfl Bh (e11' _) (Qp rfl (Ar hQ12.rd.any rfl Bh rfl) ?_))))))))));unfold Ft;simp only[cons_append,nil_append];refine A4 [5,11] (by kernel_rfl) rfl ?_;refine AA rfl ?_ ?_
    ·refine CD (n:=_) rfl AU A6 rfl rfl rfl (by rfl) (by rfl) (by omega) (by omega) rfl rfl rfl (fun g72=>Qw (A4 [11,12] (by kernel_rfl) rfl ?_));refine AA rfl ?_ ?_
     ·refine CD (n:=_) rfl AU A6 rfl rfl rfl (by rfl) (by rfl) (by omega) (by omega) rfl rfl rfl (fun g78=>Qw (Qo 12 rfl (Qm rfl (Qw (Qo 13 rfl (Qm rfl (Qw (Qe ?_))))))))
      (refine Ir (List.Perm.swap _ _ _) ?_;exact AD _ ⟨g72,g78,rfl,rfl,rfl⟩ Qs)
     refine AA rfl ?_ ?_
     ·refine Qm rfl (Qw (Qo 11 rfl (CD (n:=_) rfl AU A6 rfl rfl rfl (by rfl) (by rfl) (by omega) (by omega) rfl rfl rfl (fun g78=>Qw (Qo 13 rfl (Qm rfl (Qw (Qe ?_))))))))
      (refine Ir (List.Perm.swap _ _ _) ?_;exact AD _ ⟨g72,g78,rfl,rfl,rfl⟩ Qs)
     exact A5
    refine AA rfl ?_ ?_
    ·refine CD (n:=_) rfl AU A6 rfl rfl rfl (by rfl) (by rfl) (by omega) (by omega) rfl rfl rfl (fun g78=>Qw (Qo 5 rfl (CD (n:=_) rfl AU A6 rfl rfl rfl (by rfl) (by rfl) (by omega) (by omega) rfl rfl rfl (fun g72=>Qw (Qo 12 rfl (Qm rfl (Qw (Qo 13 rfl (Qm rfl (Qw (Qe ?_)))))))))));exact AD _ ⟨g72,g78,rfl,rfl,rfl⟩ Qs
    exact A5
   ·obtain⟨ga,gb,rfl,rfl,rfl⟩:=hI;have hO1:OwnL cI 1 3 (Bn ga 3 (replicate S.length (.int .i64 0))) (.slice (some ⟨ga,0,none⟩) S.length S.length) (Fc p S j 0):=OwnL.rep _ 0 (by omega);have hO2:OwnL cI 1 3 (Bn gb 3 (replicate S.length (.int .i64 0))) (.slice (some ⟨gb,0,none⟩) S.length S.length) (replicate S.length 0):=OwnL.rep _ 0 (by omega);have hpP:0<j+1:=by omega
    refine Ac (As (Qf BB rfl (Ql rfl BZ (e132' _) (Qx (Ar hX.rd.any rfl BZ rfl) rfl (Qm rfl (Am (Ag ?_)))))))
    refine Ay (fun q sl h' ms'=>∃(k:Nat) (mc:Hp),q=x.c.sd.length-k/\sl=[(2,.int .i64 p),(10,.pointer (some ⟨g10,0,none⟩)),(11,.map (some gP)),(12,.int .i64 j),(14,.slice (some ⟨ga,0,none⟩) S.length S.length),(15,.slice (some ⟨gb,0,none⟩) S.length S.length),(56,vA),(57,.int .i64 S.length),(58,.int .i64 j),(80,x.v),(81,.int .i64 x.c.sd.length),(82,.int .i64 k)]/\h12.le h'/\ms'=[mc,Bn gb 3 (replicate S.length (.int .i64 0)),mr,mv,mR,mV]/\k<=x.c.sd.length/\OwnL cI 1 3 mc (.slice (some ⟨ga,0,none⟩) S.length S.length) (Fc p S j k))
     (x.c.sd.length-0) _ ⟨0,_,rfl,rfl,C9,rfl,by omega,hO1⟩ Qs ?_
    rintro q sl h13 ms' ⟨k,mc,rfl,rfl,l13,rfl,hk,hOc⟩;have hX:=hX.up l13;refine As (Qm rfl (Am (Ac ?_)));refine Aq rfl (fun hlk=>?_) (fun hlk=>?_)
    ·have hkl:k<x.c.sd.length:=by omega
     obtain⟨s,hs⟩:∃s,x.c.sd[k]=s:=⟨_,rfl⟩
     have hsm:s∈x.c.sd:=by rw[<-hs];exact getElem_mem hkl
     obtain⟨hs1,hs2⟩:=hxs s hsm;have hss:∀ms,Seg h13 ms ((AF x.v).add (k*2)) (cD s):=fun ms=>by rw[<-hs];exact(hX.any (ms:=ms)).seg hkl
     have hplt:pl S (j+1) s.1<(Fc p S j k).length:=by rw[FX];have:=AaZ S hpP s.1;omega
     have hcs:Fc p S j (k+1)=(Fc p S j k).set (pl S (j+1) s.1) ((s.2+p)%p):=by
      have hkg:k<(S.getD j default).c.sd.length:=by rw[hgx];exact hkl
      rw[Me hkg];have:(S.getD j default).c.sd[k]=s:=by simp only[hgx,hs]
      rw[this]
     rw[FX]at hplt;refine Ah (Ab (Ac (Ag (As (Qx (BF (k) hX.rd.any rfl BZ AM rfl rfl) rfl (Qx (oG rfl DX AM (hss _)) rfl (Cz [.int .i64 0,.int .i64 0] rfl AM rfl rfl (fun g17=>?_))))))));refine Sa 0 [_,_] AM rfl (by simp[Value.oneCell']) ?_;refine Am (AC fun h14 l14 hS17=>?_);have e170:∀ms,Cell h14 ms (⟨g17,0,none⟩:Addr) (.int .i64 s.1):=fun ms=>Seg.all hS17 0 _ rfl ms;have e171:∀ms,Cell h14 ms (⟨g17,1,none⟩:Addr) (.int .i64 s.2):=fun ms=>Seg.all hS17 1 _ rfl ms;refine Bc 11 CS (by kernel_rfl) rfl (Wm rfl (Wm rfl (Wf B6 rfl (Wl rfl U3 (e170 _) (AR (Cf (V:=kN) (z:=(0:Int)) (u:=((pl S (j+1) s.1:Nat):Int)) s.1 (R9 S (j+1) s.1).symm Bs hO' (AJ lP (AJ l13 l14)) rfl Lw HH rfl rfl hs1) rfl rfl (Wf Dn rfl (Wl rfl U3 (e171 _) (Wm rfl (AR (oA rfl) rfl rfl (Wm rfl (AR (Cc rfl rfl rfl (by omega) (by omega)) rfl rfl (AY (Qx (BM (pl S (j+1) s.1) rfl AU A6 rfl rfl (by omega) (by omega)) rfl ?_)))))))))))));refine De 0 (pl S (j+1) s.1) hOc rfl A6 rfl rfl rfl (by rw[FX];exact hplt) rfl rfl (fun mc' hOc'=>?_);rw[<-hcs]at hOc';refine Ak (Ai (Ab (Ad (Qx (oA rfl) rfl (Qm rfl (Ak ?_))))));exact Al (x.c.sd.length-(k+1)) _ (by omega) ⟨k+1,mc',rfl,rfl,AJ l13 l14,rfl,by omega,hOc'⟩ Qs
    ·obtain rfl:k=x.c.sd.length:=by omega
     refine Av (Aa (Aa (Af (Ab (As (Qm rfl (Qm rfl (Qx (BM (j) rfl AU A6 rfl rfl (by omega) (by omega)) rfl ?_))))))));refine De 1 j hO2 rfl A6 rfl rfl rfl (by simp;omega) rfl rfl (fun mo' hO2'=>?_);refine Am (Fy LP (AJ lP l13) fun h14 q14 b14=>(Fy LG (b14 _ (AJ lG (AJ l12 l13)) (Fz lG dP)) fun h15 q15 b15=>?_));have l1015:h10.le h15:=b15 _ (b14 _ (AJ l11 (AJ l12 l13)) (Fz l11 dP)) dG;have l915:=AJ l10 l1015;have e10:∀ms,Cell h15 ms (⟨g10,0,none⟩:Addr) (.pointer (some ⟨g34,0,none⟩)):=fun ms=>(e10 ms).le l915;have hcD:Fc p S j x.c.sd.length=JM p S j:=by unfold JM;rw[hgx]
     rw[hcD]at hOc;refine BG (n:=22) (bs:=[true,true,true,true,true,false,true,false,false,true,true,true,false,true,false,false,true,true,false,true,true,false]) [true,true,true,true,true,false,true,false,false,true,true,true,false,true,false,false,true,true,false,true,true] CS (by kernel_rfl) (by kernel_rfl) rfl rfl (QL rfl T4 (e10 _) (QL rfl T4 (e10 _) (QL rfl T4 (e10 _) (Qq rfl (QF EV rfl (Qq rfl (QL rfl T4 (e10 _) (Qq rfl (QF Ij rfl (Qq rfl (Qq rfl (QF EV rfl (Qq rfl (QF Ij rfl ?_))))))))))))));unfold Ft;simp only[cons_append,nil_append];refine VY 17 #[true,true,true,true,true,true,true,true,true,true,true,true,true,true,true,false,true,true,false,true,true,false] (fun s ms=>∃B1 B2 gY v2 m2,ms=[B1,B2,Bn g34 130 (EG p vA gL vr vv (replicate 400 0)),mP',mc,mo',m2,mv,mR,mV]/\Bn gY 22 [.slice (some ⟨gb,0,none⟩) S.length S.length]∈[B1,B2]/\OwnL cU 1 22 m2 v2 (Rs++[.slice (some ⟨ga,0,none⟩) S.length S.length])/\Eng.Sub [(110,v2),(114,vv),(116,.slice (some ⟨gY,0,none⟩) 1 1),(119,.pointer (some ⟨g34,3,none⟩)),(121,.pointer (some ⟨g34,4,none⟩)),(2,.int .i64 p),(10,.pointer (some ⟨g10,0,none⟩)),(11,.map (some gP)),(56,vA),(57,.int .i64 S.length),(58,.int .i64 j)] s) ?_ (fun fin=>?_)
     ·rintro _ s ms rfl ⟨B1,B2,gY,v2,m2,rfl,hm,hO8,hS⟩;refine Qo 15 rfl (Zu hS (Gu 7 Ov (List.mem_append_left _ hm) (by omega) rfl rfl rfl rfl rfl rfl rfl rfl rfl (fun v3 m3 hO9=>Qw (Qo 18 rfl ?_))));refine AS 2 3 rfl AaQ rfl rfl hO8.o1 rfl rfl (by rw[KE];omega) rfl rfl ?_;refine Qw (Qo 21 rfl ?_);refine AS 2 4 rfl AaQ rfl rfl hO9.o1 rfl rfl (by rw[length_set,KE];omega) rfl rfl ?_;refine Qw (Qe ?_);refine AN (AN (Ai ?_));exact AD _ ⟨v2,v3,_,_,m2,m3,mc,mo',mP',bs',rfl,l915,rfl,hO',hO8,hO9,hOc,hO2'⟩ Qs
     refine A4 [5,7,12,14] (by kernel_rfl) rfl ?_;refine AA rfl ?_ ?_
     ·refine Ql rfl Ch (Cell.blk 0 (k:=3) rfl rfl) (Qw (A4 [7,12,14] (by kernel_rfl) rfl ?_));refine AA rfl ?_ ?_
      ·refine FA rfl rfl rfl rfl rfl rfl (fun g109=>Qw (A4 [8,12,14] (by kernel_rfl) rfl ?_));refine AA rfl ?_ ?_
       ·refine Gu 5 Or (.head _) (by omega) rfl rfl rfl rfl rfl rfl rfl rfl rfl (fun v2 m2 hO8=>Qw (A4 [12,14] (by kernel_rfl) rfl ?_));refine AA rfl ?_ ?_
        ·refine Ql rfl Ch (Cell.blk 1 (k:=4) rfl rfl) (Qw (Qo 14 rfl (FA rfl rfl rfl rfl rfl rfl (fun g116=>Qw ?_))));exact fin _ _ _ (by kernel_rfl) ⟨_,_,_,_,_,rfl,(.head _),hO8,Qs⟩
        refine AA rfl ?_ ?_
        ·refine FA rfl rfl rfl rfl rfl rfl (fun g116=>Qw (Qo 12 rfl (Ql rfl Ch (Cell.blk 2 (k:=4) rfl rfl) (Qw ?_))));exact fin _ _ _ (by kernel_rfl) ⟨_,_,_,_,_,rfl,(.head _),hO8,Qs⟩
        exact A5
       refine AA rfl ?_ ?_
       ·refine Ql rfl Ch (Cell.blk 1 (k:=4) rfl rfl) (Qw (A4 [8,14] (by kernel_rfl) rfl ?_));refine AA rfl ?_ ?_
        ·refine Gu 5 Or (.head _) (by omega) rfl rfl rfl rfl rfl rfl rfl rfl rfl (fun v2 m2 hO8=>Qw (Qo 14 rfl (FA rfl rfl rfl rfl rfl rfl (fun g116=>Qw ?_))));exact fin _ _ _ (by kernel_rfl) ⟨_,_,_,_,_,rfl,(.head _),hO8,Qs⟩
        refine AA rfl ?_ ?_
        ·refine FA rfl rfl rfl rfl rfl rfl (fun g116=>Qw (Qo 8 rfl (Gu 6 Or (.tail _ (.head _)) (by omega) rfl rfl rfl rfl rfl rfl rfl rfl rfl (fun v2 m2 hO8=>Qw ?_))));exact fin _ _ _ (by kernel_rfl) ⟨_,_,_,_,_,rfl,(.head _),hO8,Qs⟩
        exact A5
       refine AA rfl ?_ ?_
       ·refine FA rfl rfl rfl rfl rfl rfl (fun g116=>Qw (A4 [8,12] (by kernel_rfl) rfl ?_));refine AA rfl ?_ ?_
        ·refine Gu 6 Or (.tail _ (.head _)) (by omega) rfl rfl rfl rfl rfl rfl rfl rfl rfl (fun v2 m2 hO8=>Qw (Qo 12 rfl (Ql rfl Ch (Cell.blk 2 (k:=4) rfl rfl) (Qw ?_))));exact fin _ _ _ (by kernel_rfl) ⟨_,_,_,_,_,rfl,(.head _),hO8,Qs⟩
        refine AA rfl ?_ ?_
        ·refine Ql rfl Ch (Cell.blk 2 (k:=4) rfl rfl) (Qw (Qo 8 rfl (Gu 6 Or (.tail _ (.head _)) (by omega) rfl rfl rfl rfl rfl rfl rfl rfl rfl (fun v2 m2 hO8=>Qw ?_))));exact fin _ _ _ (by kernel_rfl) ⟨_,_,_,_,_,rfl,(.head _),hO8,Qs⟩
        exact A5
       exact A5
      refine AA rfl ?_ ?_
      ·refine Ql rfl Ch (Cell.blk 0 (k:=4) rfl rfl) (Qw (A4 [7,14] (by kernel_rfl) rfl ?_));refine AA rfl ?_ ?_
       ·refine FA rfl rfl rfl rfl rfl rfl (fun g109=>Qw (A4 [8,14] (by kernel_rfl) rfl ?_));refine AA rfl ?_ ?_
        ·refine Gu 5 Or (.head _) (by omega) rfl rfl rfl rfl rfl rfl rfl rfl rfl (fun v2 m2 hO8=>Qw (Qo 14 rfl (FA rfl rfl rfl rfl rfl rfl (fun g116=>Qw ?_))));exact fin _ _ _ (by kernel_rfl) ⟨_,_,_,_,_,rfl,(.head _),hO8,Qs⟩
        refine AA rfl ?_ ?_
        ·refine FA rfl rfl rfl rfl rfl rfl (fun g116=>Qw (Qo 8 rfl (Gu 6 Or (.tail _ (.head _)) (by omega) rfl rfl rfl rfl rfl rfl rfl rfl rfl (fun v2 m2 hO8=>Qw ?_))));exact fin _ _ _ (by kernel_rfl) ⟨_,_,_,_,_,rfl,(.head _),hO8,Qs⟩
        exact A5
       refine AA rfl ?_ ?_
       ·refine FA rfl rfl rfl rfl rfl rfl (fun g116=>Qw (Qo 7 rfl (FA rfl rfl rfl rfl rfl rfl (fun g109=>Qw (Qo 8 rfl (Gu 6 Or (.head _) (by omega) rfl rfl rfl rfl rfl rfl rfl rfl rfl (fun v2 m2 hO8=>Qw ?_)))))));exact fin _ _ _ (by kernel_rfl) ⟨_,_,_,_,_,rfl,(.tail _ (.head _)),hO8,Qs⟩
       exact A5
      refine AA rfl ?_ ?_
      ·refine FA rfl rfl rfl rfl rfl rfl (fun g116=>Qw (A4 [7,12] (by kernel_rfl) rfl ?_));refine AA rfl ?_ ?_
       ·refine FA rfl rfl rfl rfl rfl rfl (fun g109=>Qw (A4 [8,12] (by kernel_rfl) rfl ?_));refine AA rfl ?_ ?_
        ·refine Gu 6 Or (.head _) (by omega) rfl rfl rfl rfl rfl rfl rfl rfl rfl (fun v2 m2 hO8=>Qw (Qo 12 rfl (Ql rfl Ch (Cell.blk 2 (k:=4) rfl rfl) (Qw ?_))));exact fin _ _ _ (by kernel_rfl) ⟨_,_,_,_,_,rfl,(.tail _ (.head _)),hO8,Qs⟩
        refine AA rfl ?_ ?_
        ·refine Ql rfl Ch (Cell.blk 2 (k:=4) rfl rfl) (Qw (Qo 8 rfl (Gu 6 Or (.head _) (by omega) rfl rfl rfl rfl rfl rfl rfl rfl rfl (fun v2 m2 hO8=>Qw ?_))));exact fin _ _ _ (by kernel_rfl) ⟨_,_,_,_,_,rfl,(.tail _ (.head _)),hO8,Qs⟩
        exact A5
       refine AA rfl ?_ ?_
       ·refine Ql rfl Ch (Cell.blk 1 (k:=4) rfl rfl) (Qw (Qo 7 rfl (FA rfl rfl rfl rfl rfl rfl (fun g109=>Qw (Qo 8 rfl (Gu 6 Or (.head _) (by omega) rfl rfl rfl rfl rfl rfl rfl rfl rfl (fun v2 m2 hO8=>Qw ?_)))))));exact fin _ _ _ (by kernel_rfl) ⟨_,_,_,_,_,rfl,(.tail _ (.head _)),hO8,Qs⟩
       exact A5
      exact A5
     refine AA rfl ?_ ?_
     ·refine FA rfl rfl rfl rfl rfl rfl (fun g109=>Qw (A4 [5,12,14] (by kernel_rfl) rfl ?_));refine AA rfl ?_ ?_
      ·refine Ql rfl Ch (Cell.blk 1 (k:=3) rfl rfl) (Qw (A4 [8,12,14] (by kernel_rfl) rfl ?_));refine AA rfl ?_ ?_
       ·refine Gu 5 Or (.head _) (by omega) rfl rfl rfl rfl rfl rfl rfl rfl rfl (fun v2 m2 hO8=>Qw (A4 [12,14] (by kernel_rfl) rfl ?_));refine AA rfl ?_ ?_
        ·refine Ql rfl Ch (Cell.blk 1 (k:=4) rfl rfl) (Qw (Qo 14 rfl (FA rfl rfl rfl rfl rfl rfl (fun g116=>Qw ?_))));exact fin _ _ _ (by kernel_rfl) ⟨_,_,_,_,_,rfl,(.head _),hO8,Qs⟩
        refine AA rfl ?_ ?_
        ·refine FA rfl rfl rfl rfl rfl rfl (fun g116=>Qw (Qo 12 rfl (Ql rfl Ch (Cell.blk 2 (k:=4) rfl rfl) (Qw ?_))));exact fin _ _ _ (by kernel_rfl) ⟨_,_,_,_,_,rfl,(.head _),hO8,Qs⟩
        exact A5
       refine AA rfl ?_ ?_
       ·refine Ql rfl Ch (Cell.blk 1 (k:=4) rfl rfl) (Qw (A4 [8,14] (by kernel_rfl) rfl ?_));refine AA rfl ?_ ?_
        ·refine Gu 5 Or (.head _) (by omega) rfl rfl rfl rfl rfl rfl rfl rfl rfl (fun v2 m2 hO8=>Qw (Qo 14 rfl (FA rfl rfl rfl rfl rfl rfl (fun g116=>Qw ?_))));exact fin _ _ _ (by kernel_rfl) ⟨_,_,_,_,_,rfl,(.head _),hO8,Qs⟩
        refine AA rfl ?_ ?_
        ·refine FA rfl rfl rfl rfl rfl rfl (fun g116=>Qw (Qo 8 rfl (Gu 6 Or (.tail _ (.head _)) (by omega) rfl rfl rfl rfl rfl rfl rfl rfl rfl (fun v2 m2 hO8=>Qw ?_))));exact fin _ _ _ (by kernel_rfl) ⟨_,_,_,_,_,rfl,(.head _),hO8,Qs⟩
        exact A5
       refine AA rfl ?_ ?_
       ·refine FA rfl rfl rfl rfl rfl rfl (fun g116=>Qw (A4 [8,12] (by kernel_rfl) rfl ?_));refine AA rfl ?_ ?_
        ·refine Gu 6 Or (.tail _ (.head _)) (by omega) rfl rfl rfl rfl rfl rfl rfl rfl rfl (fun v2 m2 hO8=>Qw (Qo 12 rfl (Ql rfl Ch (Cell.blk 2 (k:=4) rfl rfl) (Qw ?_))));exact fin _ _ _ (by kernel_rfl) ⟨_,_,_,_,_,rfl,(.head _),hO8,Qs⟩
        refine AA rfl ?_ ?_
        ·refine Ql rfl Ch (Cell.blk 2 (k:=4) rfl rfl) (Qw (Qo 8 rfl (Gu 6 Or (.tail _ (.head _)) (by omega) rfl rfl rfl rfl rfl rfl rfl rfl rfl (fun v2 m2 hO8=>Qw ?_))));exact fin _ _ _ (by kernel_rfl) ⟨_,_,_,_,_,rfl,(.head _),hO8,Qs⟩
        exact A5
       exact A5
      refine AA rfl ?_ ?_
      ·refine Ql rfl Ch (Cell.blk 1 (k:=4) rfl rfl) (Qw (A4 [5,14] (by kernel_rfl) rfl ?_));refine AA rfl ?_ ?_
       ·refine Ql rfl Ch (Cell.blk 1 (k:=3) rfl rfl) (Qw (A4 [8,14] (by kernel_rfl) rfl ?_));refine AA rfl ?_ ?_
        ·refine Gu 5 Or (.head _) (by omega) rfl rfl rfl rfl rfl rfl rfl rfl rfl (fun v2 m2 hO8=>Qw (Qo 14 rfl (FA rfl rfl rfl rfl rfl rfl (fun g116=>Qw ?_))));exact fin _ _ _ (by kernel_rfl) ⟨_,_,_,_,_,rfl,(.head _),hO8,Qs⟩
        refine AA rfl ?_ ?_
        ·refine FA rfl rfl rfl rfl rfl rfl (fun g116=>Qw (Qo 8 rfl (Gu 6 Or (.tail _ (.head _)) (by omega) rfl rfl rfl rfl rfl rfl rfl rfl rfl (fun v2 m2 hO8=>Qw ?_))));exact fin _ _ _ (by kernel_rfl) ⟨_,_,_,_,_,rfl,(.head _),hO8,Qs⟩
        exact A5
       refine AA rfl ?_ ?_
       ·refine FA rfl rfl rfl rfl rfl rfl (fun g116=>Qw (Qo 5 rfl (Ql rfl Ch (Cell.blk 2 (k:=3) rfl rfl) (Qw (Qo 8 rfl (Gu 6 Or (.tail _ (.head _)) (by omega) rfl rfl rfl rfl rfl rfl rfl rfl rfl (fun v2 m2 hO8=>Qw ?_)))))));exact fin _ _ _ (by kernel_rfl) ⟨_,_,_,_,_,rfl,(.head _),hO8,Qs⟩
       exact A5
      refine AA rfl ?_ ?_
      ·refine FA rfl rfl rfl rfl rfl rfl (fun g116=>Qw (A4 [5,12] (by kernel_rfl) rfl ?_));refine AA rfl ?_ ?_
       ·refine Ql rfl Ch (Cell.blk 2 (k:=3) rfl rfl) (Qw (A4 [8,12] (by kernel_rfl) rfl ?_));refine AA rfl ?_ ?_
        ·refine Gu 6 Or (.tail _ (.head _)) (by omega) rfl rfl rfl rfl rfl rfl rfl rfl rfl (fun v2 m2 hO8=>Qw (Qo 12 rfl (Ql rfl Ch (Cell.blk 2 (k:=4) rfl rfl) (Qw ?_))));exact fin _ _ _ (by kernel_rfl) ⟨_,_,_,_,_,rfl,(.head _),hO8,Qs⟩
        refine AA rfl ?_ ?_
        ·refine Ql rfl Ch (Cell.blk 2 (k:=4) rfl rfl) (Qw (Qo 8 rfl (Gu 6 Or (.tail _ (.head _)) (by omega) rfl rfl rfl rfl rfl rfl rfl rfl rfl (fun v2 m2 hO8=>Qw ?_))));exact fin _ _ _ (by kernel_rfl) ⟨_,_,_,_,_,rfl,(.head _),hO8,Qs⟩
        exact A5
       refine AA rfl ?_ ?_
       ·refine Ql rfl Ch (Cell.blk 2 (k:=4) rfl rfl) (Qw (Qo 5 rfl (Ql rfl Ch (Cell.blk 2 (k:=3) rfl rfl) (Qw (Qo 8 rfl (Gu 6 Or (.tail _ (.head _)) (by omega) rfl rfl rfl rfl rfl rfl rfl rfl rfl (fun v2 m2 hO8=>Qw ?_)))))));exact fin _ _ _ (by kernel_rfl) ⟨_,_,_,_,_,rfl,(.head _),hO8,Qs⟩
       exact A5
      exact A5
     refine AA rfl ?_ ?_
     ·refine Ql rfl Ch (Cell.blk 0 (k:=4) rfl rfl) (Qw (A4 [5,7,14] (by kernel_rfl) rfl ?_));refine AA rfl ?_ ?_
      ·refine Ql rfl Ch (Cell.blk 0 (k:=3) rfl rfl) (Qw (A4 [7,14] (by kernel_rfl) rfl ?_));refine AA rfl ?_ ?_
       ·refine FA rfl rfl rfl rfl rfl rfl (fun g109=>Qw (A4 [8,14] (by kernel_rfl) rfl ?_));refine AA rfl ?_ ?_
        ·refine Gu 5 Or (.head _) (by omega) rfl rfl rfl rfl rfl rfl rfl rfl rfl (fun v2 m2 hO8=>Qw (Qo 14 rfl (FA rfl rfl rfl rfl rfl rfl (fun g116=>Qw ?_))));exact fin _ _ _ (by kernel_rfl) ⟨_,_,_,_,_,rfl,(.head _),hO8,Qs⟩
        refine AA rfl ?_ ?_
        ·refine FA rfl rfl rfl rfl rfl rfl (fun g116=>Qw (Qo 8 rfl (Gu 6 Or (.tail _ (.head _)) (by omega) rfl rfl rfl rfl rfl rfl rfl rfl rfl (fun v2 m2 hO8=>Qw ?_))));exact fin _ _ _ (by kernel_rfl) ⟨_,_,_,_,_,rfl,(.head _),hO8,Qs⟩
        exact A5
       refine AA rfl ?_ ?_
       ·refine FA rfl rfl rfl rfl rfl rfl (fun g116=>Qw (Qo 7 rfl (FA rfl rfl rfl rfl rfl rfl (fun g109=>Qw (Qo 8 rfl (Gu 6 Or (.head _) (by omega) rfl rfl rfl rfl rfl rfl rfl rfl rfl (fun v2 m2 hO8=>Qw ?_)))))));exact fin _ _ _ (by kernel_rfl) ⟨_,_,_,_,_,rfl,(.tail _ (.head _)),hO8,Qs⟩
       exact A5
      refine AA rfl ?_ ?_
      ·refine FA rfl rfl rfl rfl rfl rfl (fun g109=>Qw (A4 [5,14] (by kernel_rfl) rfl ?_));refine AA rfl ?_ ?_
       ·refine Ql rfl Ch (Cell.blk 1 (k:=3) rfl rfl) (Qw (A4 [8,14] (by kernel_rfl) rfl ?_));refine AA rfl ?_ ?_
        ·refine Gu 5 Or (.head _) (by omega) rfl rfl rfl rfl rfl rfl rfl rfl rfl (fun v2 m2 hO8=>Qw (Qo 14 rfl (FA rfl rfl rfl rfl rfl rfl (fun g116=>Qw ?_))));exact fin _ _ _ (by kernel_rfl) ⟨_,_,_,_,_,rfl,(.head _),hO8,Qs⟩
        refine AA rfl ?_ ?_
        ·refine FA rfl rfl rfl rfl rfl rfl (fun g116=>Qw (Qo 8 rfl (Gu 6 Or (.tail _ (.head _)) (by omega) rfl rfl rfl rfl rfl rfl rfl rfl rfl (fun v2 m2 hO8=>Qw ?_))));exact fin _ _ _ (by kernel_rfl) ⟨_,_,_,_,_,rfl,(.head _),hO8,Qs⟩
        exact A5
       refine AA rfl ?_ ?_
       ·refine FA rfl rfl rfl rfl rfl rfl (fun g116=>Qw (Qo 5 rfl (Ql rfl Ch (Cell.blk 2 (k:=3) rfl rfl) (Qw (Qo 8 rfl (Gu 6 Or (.tail _ (.head _)) (by omega) rfl rfl rfl rfl rfl rfl rfl rfl rfl (fun v2 m2 hO8=>Qw ?_)))))));exact fin _ _ _ (by kernel_rfl) ⟨_,_,_,_,_,rfl,(.head _),hO8,Qs⟩
       exact A5
      refine AA rfl ?_ ?_
      ·refine FA rfl rfl rfl rfl rfl rfl (fun g116=>Qw (A4 [5,7] (by kernel_rfl) rfl ?_));refine AA rfl ?_ ?_
       ·refine Ql rfl Ch (Cell.blk 1 (k:=3) rfl rfl) (Qw (Qo 7 rfl (FA rfl rfl rfl rfl rfl rfl (fun g109=>Qw (Qo 8 rfl (Gu 6 Or (.head _) (by omega) rfl rfl rfl rfl rfl rfl rfl rfl rfl (fun v2 m2 hO8=>Qw ?_)))))));exact fin _ _ _ (by kernel_rfl) ⟨_,_,_,_,_,rfl,(.tail _ (.head _)),hO8,Qs⟩
       refine AA rfl ?_ ?_
       ·refine FA rfl rfl rfl rfl rfl rfl (fun g109=>Qw (Qo 5 rfl (Ql rfl Ch (Cell.blk 2 (k:=3) rfl rfl) (Qw (Qo 8 rfl (Gu 6 Or (.head _) (by omega) rfl rfl rfl rfl rfl rfl rfl rfl rfl (fun v2 m2 hO8=>Qw ?_)))))));exact fin _ _ _ (by kernel_rfl) ⟨_,_,_,_,_,rfl,(.tail _ (.head _)),hO8,Qs⟩
       exact A5
      exact A5
     refine AA rfl ?_ ?_
     ·refine FA rfl rfl rfl rfl rfl rfl (fun g116=>Qw (A4 [5,7,12] (by kernel_rfl) rfl ?_));refine AA rfl ?_ ?_
      ·refine Ql rfl Ch (Cell.blk 1 (k:=3) rfl rfl) (Qw (A4 [7,12] (by kernel_rfl) rfl ?_));refine AA rfl ?_ ?_
       ·refine FA rfl rfl rfl rfl rfl rfl (fun g109=>Qw (A4 [8,12] (by kernel_rfl) rfl ?_));refine AA rfl ?_ ?_
        ·refine Gu 6 Or (.head _) (by omega) rfl rfl rfl rfl rfl rfl rfl rfl rfl (fun v2 m2 hO8=>Qw (Qo 12 rfl (Ql rfl Ch (Cell.blk 2 (k:=4) rfl rfl) (Qw ?_))));exact fin _ _ _ (by kernel_rfl) ⟨_,_,_,_,_,rfl,(.tail _ (.head _)),hO8,Qs⟩
        refine AA rfl ?_ ?_
        ·refine Ql rfl Ch (Cell.blk 2 (k:=4) rfl rfl) (Qw (Qo 8 rfl (Gu 6 Or (.head _) (by omega) rfl rfl rfl rfl rfl rfl rfl rfl rfl (fun v2 m2 hO8=>Qw ?_))));exact fin _ _ _ (by kernel_rfl) ⟨_,_,_,_,_,rfl,(.tail _ (.head _)),hO8,Qs⟩
        exact A5
       refine AA rfl ?_ ?_
       ·refine Ql rfl Ch (Cell.blk 1 (k:=4) rfl rfl) (Qw (Qo 7 rfl (FA rfl rfl rfl rfl rfl rfl (fun g109=>Qw (Qo 8 rfl (Gu 6 Or (.head _) (by omega) rfl rfl rfl rfl rfl rfl rfl rfl rfl (fun v2 m2 hO8=>Qw ?_)))))));exact fin _ _ _ (by kernel_rfl) ⟨_,_,_,_,_,rfl,(.tail _ (.head _)),hO8,Qs⟩
       exact A5
      refine AA rfl ?_ ?_
      ·refine FA rfl rfl rfl rfl rfl rfl (fun g109=>Qw (A4 [5,12] (by kernel_rfl) rfl ?_));refine AA rfl ?_ ?_
       ·refine Ql rfl Ch (Cell.blk 2 (k:=3) rfl rfl) (Qw (A4 [8,12] (by kernel_rfl) rfl ?_));refine AA rfl ?_ ?_
        ·refine Gu 6 Or (.head _) (by omega) rfl rfl rfl rfl rfl rfl rfl rfl rfl (fun v2 m2 hO8=>Qw (Qo 12 rfl (Ql rfl Ch (Cell.blk 2 (k:=4) rfl rfl) (Qw ?_))));exact fin _ _ _ (by kernel_rfl) ⟨_,_,_,_,_,rfl,(.tail _ (.head _)),hO8,Qs⟩
        refine AA rfl ?_ ?_
        ·refine Ql rfl Ch (Cell.blk 2 (k:=4) rfl rfl) (Qw (Qo 8 rfl (Gu 6 Or (.head _) (by omega) rfl rfl rfl rfl rfl rfl rfl rfl rfl (fun v2 m2 hO8=>Qw ?_))));exact fin _ _ _ (by kernel_rfl) ⟨_,_,_,_,_,rfl,(.tail _ (.head _)),hO8,Qs⟩
        exact A5
       refine AA rfl ?_ ?_
       ·refine Ql rfl Ch (Cell.blk 2 (k:=4) rfl rfl) (Qw (Qo 5 rfl (Ql rfl Ch (Cell.blk 2 (k:=3) rfl rfl) (Qw (Qo 8 rfl (Gu 6 Or (.head _) (by omega) rfl rfl rfl rfl rfl rfl rfl rfl rfl (fun v2 m2 hO8=>Qw ?_)))))));exact fin _ _ _ (by kernel_rfl) ⟨_,_,_,_,_,rfl,(.tail _ (.head _)),hO8,Qs⟩
       exact A5
      refine AA rfl ?_ ?_
      ·refine Ql rfl Ch (Cell.blk 1 (k:=4) rfl rfl) (Qw (A4 [5,7] (by kernel_rfl) rfl ?_));refine AA rfl ?_ ?_
       ·refine Ql rfl Ch (Cell.blk 1 (k:=3) rfl rfl) (Qw (Qo 7 rfl (FA rfl rfl rfl rfl rfl rfl (fun g109=>Qw (Qo 8 rfl (Gu 6 Or (.head _) (by omega) rfl rfl rfl rfl rfl rfl rfl rfl rfl (fun v2 m2 hO8=>Qw ?_)))))));exact fin _ _ _ (by kernel_rfl) ⟨_,_,_,_,_,rfl,(.tail _ (.head _)),hO8,Qs⟩
       refine AA rfl ?_ ?_
       ·refine FA rfl rfl rfl rfl rfl rfl (fun g109=>Qw (Qo 5 rfl (Ql rfl Ch (Cell.blk 2 (k:=3) rfl rfl) (Qw (Qo 8 rfl (Gu 6 Or (.head _) (by omega) rfl rfl rfl rfl rfl rfl rfl rfl rfl (fun v2 m2 hO8=>Qw ?_)))))));exact fin _ _ _ (by kernel_rfl) ⟨_,_,_,_,_,rfl,(.tail _ (.head _)),hO8,Qs⟩
       exact A5
      exact A5
     exact A5
  ·obtain⟨vr',vv',va,vb,mr',mv',mc,mo,mP',bs',rfl,l10,rfl,hO',Or',Ov',hOc,hOu⟩:=hI;refine Ad (Qx (oA rfl) rfl (Qm rfl (Ak (D9 fun hap=>?_))));simp only[List.pairwise_cons,mem_cons,not_mem_nil,or_false,forall_eq_or_imp,forall_eq]at hap;have d1:mR.disj mc:=Hp.disj_symm hap.2.2.1.2.2.2.1;have d2:mV.disj mo:=Hp.disj_symm hap.2.2.2.1.2.2.2;have CR':=CR.snoc hOc d1;have CV':=CV.snoc hOu d2;rw[<-GC]at CR' CV';refine CB 3 rfl (CB 7 rfl (Ex (CB 3 rfl (CB 6 rfl (Ex (CB 2 rfl (CB 3 rfl (CB 3 rfl (CB 3 rfl (CB 5 rfl (CB 5 rfl ?_)))))))))));exact Al (S.length-(j+1)) _ (by omega) ⟨j+1,vr',vv',mr',mv',_,_,mP',_,_,bs',rfl,rfl,AJ l9 l10,rfl,by omega,hO',Or',Ov',CR',CV',by rw[length_append,hRl];rfl,by rw[length_append,hVl];rfl⟩ Qs
 ·obtain rfl:j=S.length:=by omega
  refine Av (Aa (Aa (Af (Ab (As (Ql rfl T4 (e10 _) (Qm rfl (Qm rfl (Am (An (K3 Or fun h10 l10 hRr=>(K3 Ov fun h11 l11 hRv=>(CB 2 rfl (AN (CB 2 rfl ?_)))))))))))))));have l911:=AJ l9 (AJ l10 l11);exact Bo rfl rfl rfl (⟨AJ l1 (AJ l2 (AJ l3 (AJ l38 l911))),g34,gL,mL,bL,S,vA,vr,vv,Rs,Vs,mR,mV,rfl,rfl,hOL,AJ lL8 l911,hQ.up (AJ l10 l11),hRr.up l11,hRv,CR,CV,hSc,hsrt,fun a ha=>(hSA a ha).up l911⟩)
end Go.Proofs.Q
namespace Go.Proofs.Q
open Go.Proofs.Tryz
open Go.Eng Go.RowKit Go.Lin Go.Sort Go.Srt
variable {j n:Nat} {p:Int} {R V:Nat->List Int} {r v:List Int} {α:Type}
theorem Ops.congr{R' V':Nat->List Int}{r1 v1:List Int}(h:Ops p n j R V r v r1 v1)(hR:∀k,k<j->R k=R' k)(hV:∀k,k<j->V k=V' k):Ops p n j R' V' r v r1 v1:=by
 induction h with
 | refl=>exact .refl
 | step h hk hi h0 h1 h2 h3 ih=>
  rw[hR _ hk]at h3 ⊢;rw[hV _ hk];exact ih.step hk hi h0 h1 h2 h3
def upd(R:Nat->α)(j:Nat)(r:α)(k:Nat):α:=if k=j then r else R k
theorem FJ(R:Nat->α)(j:Nat)(r:α):upd R j r j=r:=if_pos rfl
theorem EN(R:Nat->α){k:Nat}(r:α)(h:k≠j):upd R j r k=R k:=if_neg h
theorem Red.next{la la':List Int}(D:Red p n j R V la)(hn:n<=400)(lr:r.length=n)(lv:v.length=n)(rr:KF p r)(rv:KF p v)(hL:LaS j r la la'):Red p n (j+1) (upd R j r) (upd V j v) la':=by
 have hb:=GZ r;have hlt:∀{k},k<j+1->k≠j->k<j:=fun h1 h2=>by omega
 refine⟨fun k hk=>?_,fun k hk=>?_,fun k hk=>?_,fun k hk=>?_,?_,fun i hi=>?_,fun k hk h0=>?_⟩
 ·by_cases e:k=j
  ·rw[e,FJ];exact lr
  ·rw[EN _ _ e];exact D.rl k (hlt hk e)
 ·by_cases e:k=j
  ·rw[e,FJ];exact lv
  ·rw[EN _ _ e];exact D.vl k (hlt hk e)
 ·by_cases e:k=j
  ·rw[e,FJ];exact rr
  ·rw[EN _ _ e];exact D.rr k (hlt hk e)
 ·by_cases e:k=j
  ·rw[e,FJ];exact rv
  ·rw[EN _ _ e];exact D.vr k (hlt hk e)
 ·rcases hL with ⟨_,rfl⟩|⟨_,_,rfl⟩
  ·exact D.ll
  ·rw[length_set];exact D.ll
 ·have hold:la.getD i 0=0\/∃k,k<j+1/\la.getD i 0=(k:Int)+1/\Bl (upd R j r k)=i:=by
   rcases D.a0 i hi with h|⟨k,hk,h1,h2⟩
   ·exact .inl h
   ·exact .inr ⟨k,by omega,h1,by rw[EN _ _ (by omega)];exact h2⟩
  rcases hL with ⟨_,rfl⟩|⟨h1,h2,rfl⟩
  ·exact hold
  ·by_cases e:(Bl r).toNat=i
   ·refine .inr ⟨j,by omega,?_,by rw[FJ];omega⟩;simp[List.getD,e,D.ll,hi]
   ·rw[show(la.set (Bl r).toNat ((j:Int)+1)).getD i 0=la.getD i 0 by simp[List.getD,List.getElem?_set_ne e]];exact hold
 ·by_cases e:k=j
  ·rw[e,FJ]at h0 ⊢;rcases hL with ⟨h1,_⟩|⟨h1,h2,rfl⟩
   ·omega
   ·have:(Bl r).toNat<la.length:=by rw[D.ll];omega
    simp[List.getD,this]
  ·rw[EN _ _ e]at h0 ⊢;have h3:=D.a1 k (hlt hk e) h0;rcases hL with ⟨_,rfl⟩|⟨h1,h2,rfl⟩
   ·exact h3
   ·have hne:(Bl r).toNat≠(Bl (R k)).toNat:=fun e=>by rw[e,h3]at h2;omega
    rw[show(la.set (Bl r).toNat ((j:Int)+1)).getD (Bl (R k)).toNat 0=la.getD (Bl (R k)).toNat 0 by simp[List.getD,List.getElem?_set_ne hne]];exact h3
theorem ColsO.head{vs:List Value}{cs:List (List Int)}{m:Hp}(h:ColsO m (vs.drop j) (cs.drop j))(hj:j<vs.length)(hc:j<cs.length):∃a b,m=a.join b/\a.disj b/\OwnL cI 1 3 a (vs.getD j undef) cs[j]/\ColsO b (vs.drop (j+1)) (cs.drop (j+1)):=by rw[List.drop_eq_getElem_cons hj,List.drop_eq_getElem_cons hc]at h;obtain⟨a,b,h1,h2,h3,h4⟩:=h;exact⟨a,b,h1,h2,by rw[show vs.getD j undef=vs[j] by simp[List.getD,hj]];exact h3,h4⟩
def AaE(g:Nat):Value:=.func (.func 121) #[.pointer (some ⟨g,0,none⟩)] #[]
structure AllC(p:Int)(S:List Ce)(n j:Nat)(R V:Nat->List Int)(la:List Int):Prop where
 red:Red p n j R V la
 ops:∀k,k<j->Ops p n k R V (JM p S k) (Fb n k) (R k) (V k)
theorem AllC.next{S:List Ce}{la la':List Int}(D:AllC p S n j R V la)(hn:n<=400)(lr:r.length=n)(lv:v.length=n)(rr:KF p r)(rv:KF p v)(hL:LaS j r la la')(hO:Ops p n j R V (JM p S j) (Fb n j) r v):AllC p S n (j+1) (upd R j r) (upd V j v) la':=by
 refine⟨D.red.next hn lr lv rr rv hL,fun k hk=>?_⟩;have e1:∀i,i<j->R i=upd R j r i:=fun i hi=>(EN _ _ (by omega)).symm;have e2:∀i,i<j->V i=upd V j v i:=fun i hi=>(EN _ _ (by omega)).symm;by_cases e:k=j
 ·subst e;rw[FJ,FJ];exact hO.congr e1 e2
 ·have hk':k<j:=by omega
  rw[EN _ _ e,EN _ _ e];exact(D.ops k hk').congr (fun i hi=>e1 i (by omega)) (fun i hi=>e2 i (by omega))
theorem We(p:Int)(S:List Ce)(n:Nat):AllC p S n 0 (fun _=>[]) (fun _=>[]) (replicate 400 0):=by
 refine⟨⟨fun k hk=>(by omega),fun k hk=>(by omega),fun k hk=>(by omega),fun k hk=>(by omega),by simp,fun i hi=>.inl ?_,fun k hk=>(by omega)⟩,fun k hk=>(by omega)⟩;have:∀m,i<m->(replicate m (0:Int)).getD i 0=0:=fun m h=>by simp[List.getD,h]
 exact this 400 hi
theorem X5(p:Int)(S:List Ce)(g gA:Nat)(vc vr vv:Value)(Rs Vs:List Value)(mR mV h:Hp)(hp:IsP p)(hn:S.length<=400)(oc:vc.oneCell'=true)
  (hRs:RdL cU 1 h [] vr Rs) (hVs:RdL cU 1 h [] vv Vs) (CR:ColsO mR Rs ((range S.length).map (JM p S))) (CV:ColsO mV Vs ((range S.length).map (Fb S.length))) :
  FnT Tryz.prog 120 #[.int .i64 S.length,AaE g] h [Bn g 130 (EG p vc gA vr vv (replicate 400 0)),mR,mV] (fun _ h' ms'=>h.le h'/\∃R V la,ms'=[Bn g 130 (EG p vc gA vr vv la)]/\AllC p S S.length S.length R V la/\(∀k,k<S.length->RdL cI 1 h' [] (Rs.getD k undef) (R k))/\∀k,k<S.length->RdL cI 1 h' [] (Vs.getD k undef) (V k)):=by
 have hp1:=hp.1;have lR:Rs.length=S.length:=by have:=CR.len;simpa using this
 have lV:Vs.length=S.length:=by have:=CV.len;simpa using this
 obtain⟨n,hSn⟩:∃n,S.length=n:=⟨_,rfl⟩
 rw[hSn]at hn CR CV lR lV ⊢;refine Ap func120 ntmps120 rfl rfl (fun w0 hw0=>?_);simp only[AX];refine As (Qm rfl (Qm rfl (Am (Ag ?_))))
 refine Ay (fun q sl h' ms'=>∃(j:Nat) (R V:Nat->List Int) (la:List Int) (mR mV:Hp),q=n-j/\sl=[(1,AaE g),(5,.int .i64 n),(6,.int .i64 j)]/\h.le h'/\ms'=[Bn g 130 (EG p vc gA vr vv la),mR,mV]/\j<=n/\ColsO mR (Rs.drop j) (((range n).map (JM p S)).drop j)/\ColsO mV (Vs.drop j) (((range n).map (Fb n)).drop j)/\AllC p S n j R V la/\(∀k,k<j->RdL cI 1 h' [] (Rs.getD k undef) (R k))/\∀k,k<j->RdL cI 1 h' [] (Vs.getD k undef) (V k))
  (n-0) _ ⟨0,_,_,_,mR,mV,rfl,rfl,C9,rfl,by omega,CR,CV,We p S n,fun k hk=>by omega,fun k hk=>by omega⟩ Qs ?_
 rintro q sl h' ms' ⟨j,R,V,la,mR,mV,rfl,rfl,l1,rfl,hj,CR,CV,A,hR,hV⟩;have hRs:=hRs.up l1;have hVs:=hVs.up l1;refine As (Qm rfl (Am (Ac ?_)));refine Aq rfl (fun hlt=>?_) (fun hlt=>?_)
 ·have hjn:j<n:=by omega
  obtain⟨a,b,rfl,dab,Oa,CR'⟩:=CR.head (by omega) (by simpa using hjn);obtain⟨c,d,rfl,dcd,Oc,CV'⟩:=CV.head (by omega) (by simpa using hjn);rw[List.getElem_map,List.getElem_range]at Oa Oc;refine DZ 1 rfl (Hl dab (DZ 3 rfl (Hl dcd (DZ 2 rfl (DZ 4 rfl (Ah (Ab (Ac (Ag (As (Qm rfl (Qm rfl (Gm (Qm rfl (Qm rfl ?_)))))))))))))));refine Hg (pre:=[Bn g 130 (EG p vc gA vr vv la),a,c]) rfl rfl call121 rfl (TF p n j g gA vc vr vv Rs Vs R V la _ _ a c h' hp hn hjn hRs hVs lR lV hR hV A.red oc Oa Oc (by rw[show(JM p S j).length=S.length from FX _ _ _ _];exact hSn) (Ms n j) (N7 (by omega) S j _) (SF hp1 n j)) rfl rfl rfl rfl (fun v' h2 pre' l2 hF=>?_);obtain⟨l2',r',v2,la',a',c',rfl,Oa',Oc',hO,lr,lv,rr,rv,hL⟩:=hF;simp only[cons_append,nil_append,append_nil];refine ME 1 rfl (BA Oa' fun h3 l3 hr'=>(ME 1 rfl (BA Oc' fun h4 l4 hv'=>?_)));have l24:=AJ l3 l4;have l14:=AJ l2 l24;have A':=A.next hn lr lv rr rv hL hO
  have hR':∀k,k<j+1->RdL cI 1 h4 [] (Rs.getD k undef) (upd R j r' k):=fun k hk=>by
   by_cases e:k=j
   ·rw[e,FJ];exact hr'.up l4
   ·rw[EN _ _ e];exact(hR k (by omega)).up l14
  have hV':∀k,k<j+1->RdL cI 1 h4 [] (Vs.getD k undef) (upd V j v2 k):=fun k hk=>by
   by_cases e:k=j
   ·rw[e,FJ];exact hv'
   ·rw[EN _ _ e];exact(hV k (by omega)).up l14
  refine Ak (Ai (Ab (Ad (Qx (oA rfl) rfl (Qm rfl (Ak (CB 2 rfl (CB 1 rfl ?_))))))));exact Al (n-(j+1)) _ (by omega) ⟨j+1,_,_,la',b,d,rfl,rfl,AJ l1 l14,rfl,by omega,CR',CV',A',hR',hV'⟩ Qs
 ·obtain rfl:j=n:=by omega
  refine Av (Aa (Aa (Af (CB 1 rfl (AN (CB 1 rfl (AN ?_)))))));exact B7 rfl (⟨l1,R,V,la,rfl,A,hR,hV⟩)
end Go.Proofs.Q
namespace Go.Proofs.Q
open Go.Proofs.Tryz
open Go.Eng Go.RowKit Go.Lin Go.Sort Go.Srt
structure RedM(p:Int)(F:List (Int×Int))(l S:List Ce)(R V:Nat->List Int)(gm:Nat)(h:Hp):Prop where
 ex:∃(gA:Nat) (mA:Hp) (bs:List Nat) (vc vr vv:Value) (Rs Vs:List Value) (la:List Int),Seg h [] ⟨gm,0,none⟩ (EG p vc gA vr vv la)/\CO kN kN gA BH mA (BD F) bs/\mA.le h/\RdL cC 3 h [] vc S/\RdL cU 1 h [] vr Rs/\RdL cU 1 h [] vv Vs/\Rs.length=S.length/\Vs.length=S.length/\(∀k,k<S.length->RdL cI 1 h [] (Rs.getD k undef) (R k))/\(∀k,k<S.length->RdL cI 1 h [] (Vs.getD k undef) (V k))/\AllC p S S.length S.length R V la
 perm:(S.map Ce.c).Perm (cn l)
 srt:NI (Dz (BD F)) S
 sds:∀a∈S,RdL cD 2 h [] a.v a.c.sd
theorem L4(l:List Ce)(F:List (Int×Int))(v vf:Value)(p:Int)(hp:Hp)(hK:RgC l)(hR:RdC hp v l)(hF:RdL cV 2 hp [] vf F)(hV:Gs F)(h0:Cy (cn l) F=(0,0))(hP:IsP p)(hl:l.length<=400):FnT Tryz.prog 51 #[.agg #[v],vf,.int .i64 p] hp [] (fun r h' ms'=>hp.le h'/\∃(gm:Nat) (S:List Ce) (R V:Nat->List Int) (vl:Value) (ml:Hp),r=.tuple #[.pointer (some ⟨gm,0,none⟩),vl,.int .i64 0]/\ms'=[ml]/\OwnL cI 1 3 ml vl ((range S.length).map fun k=>Bl (R k))/\RedM p F l S R V gm h'):=by
 have o1:=hR.q.rd.one;have o2:=hF.rd.one;refine Ap func51 ntmps51 rfl rfl (fun w0 hw0=>?_);simp only[AX];refine As (AV [_] rfl rfl (by rfl) rfl rfl rfl (fun g3=>Qm rfl (Qm rfl (Qm rfl (Am (AC fun h1 l1 hS=>?_))))));have hR:=hR.up l1;have hF:=hF.up l1;refine As (Qx (oG rfl CF AW (Seg.any hS)) rfl (Qm rfl (Qm rfl (Qc call91 rfl (Wj l F v vf p h1 hK hR hF hV h0 hP hl) (fun rB h2 ms2 l2 hB=>?_)))));obtain⟨l2',gm,gA,mA,bs,S,vc,vr,vv,Rs,Vs,mR,mV,rfl,rfl,hOA,lA,hQ,hRs,hVs,CR,CV,hperm,hsrt,hsds⟩:=hB;have ovc:=hQ.rd.one;have lR:Rs.length=S.length:=by have:=CR.len;simpa using this
 have lV:Vs.length=S.length:=by have:=CV.len;simpa using this
 have hSn:S.length<=400:=by have:=hperm.length_eq;rw[length_map,Ds]at this;omega
 refine Qm rfl (Qm rfl (Qm rfl (Qm rfl (Qm rfl (Am (Ac (As (Qm rfl (Qm rfl (Am (Aq rfl (fun hc=>absurd hc (fun h=>h rfl)) (fun hc=>Ah (Ab (As (Qm rfl (Qm rfl (Qf E3 rfl (Ql rfl Bh (Cell.blk 0 (k:=1) rfl rfl) (Qx (Ar hQ.rd.any rfl Bh rfl) rfl (Qm rfl (Qx (BW rfl rfl rfl) rfl (Bb (pre:=[Bn gm 130 (EG p vc gA vr vv (replicate 400 0)),mR,mV]) rfl call120 rfl (X5 p S gm gA vc vr vv Rs Vs mR mV h2 hP hSn ovc hRs hVs CR CV) rfl rfl rfl rfl (fun _ h3 ms3 l3 hE=>?_)))))))))))))))))))))));obtain⟨l3',R,V,la,rfl,A,hRR,hVV⟩:=hE;refine Am (AC fun h4 l4 hSg=>?_);have l24:=AJ l3 l4;have hQ:=hQ.up l24;have hRs:=hRs.up l24;have hVs:=hVs.up l24;have hRR:=fun k hk=>(hRR k hk).up l4;have hVV:=fun k hk=>(hVV k hk).up l4;have lA4:=AJ lA l24;have e3:∀ms,Cell h4 ms (⟨gm,3,none⟩:Addr) vr:=fun ms=>Seg.all hSg 3 _ rfl ms;have ovr:=hRs.rd.one;refine BJ (As (Qm rfl (Am (Ac (As (Qm rfl (Qm rfl (Qf EV rfl (Ql rfl Ch (e3 _) (Qx (Ar hRs.rd.any rfl Ch rfl) rfl (Qm rfl (Am (Ag ?_)))))))))))))
 refine Ay (fun q sl h' ms'=>∃(j:Nat) (vl:Value) (ml:Hp),q=S.length-j/\sl=[(9,.pointer (some ⟨gm,0,none⟩)),(11,vl),(35,vr),(36,.int .i64 Rs.length),(37,.int .i64 j)]/\h4.le h'/\ms'=[ml]/\j<=S.length/\OwnL cI 1 3 ml vl ((range j).map fun k=>Bl (R k)))
  (S.length-0) _ ⟨0,_,Hp.emp,rfl,rfl,C9,rfl,by omega,OwnL.nil Bg⟩ Qs ?_
 rintro q sl h' ms' ⟨j,vl,ml,rfl,rfl,l5,rfl,hj,hO⟩;have hRs:=hRs.up l5;have ovl:=hO.o1;refine As (Qm rfl (Am (Ac ?_)));refine Aq rfl (fun hlt=>?_) (fun hlt=>?_)
 ·have hjn:j<S.length:=by omega
  have hjR:j<Rs.length:=by omega
  have hRj:=(hRR j hjn).up l5;have orj:=hRj.rd.one;have cR:∀ms,Cell h' ms ((AF vr).add (j*1)) (Rs.getD j undef):=fun ms=>by rw[show Rs.getD j undef=Rs[j] by simp[List.getD,hjR]];exact(hRs.any (ms:=ms)).cell0 hjR rfl
  have hlj:=A.red.rl j hjn;refine Ah (Ab (Ac (Ag (As (Qx (BF (j) hRs.rd.any rfl Ch Cr rfl rfl) rfl (Ql rfl AU (cR _) (Qm rfl (Gm (Qm rfl (Qm rfl (Qx (AL rfl call95 rfl (US (Rs.getD j undef) (R j) h' hRj (by omega) _)) rfl (Ao [_] rfl AU A6 rfl (by rfl) rfl rfl (by omega) rfl rfl rfl (fun g44=>?_)))))))))))));refine AO 1 hO (RdL.one Bg (x:=Bl (R j)) Mh rfl) rfl AU A6 rfl (by omega) rfl rfl rfl Cb (by simp;omega) (by simp;omega) rfl rfl rfl (fun vl2 ml2 hO2=>?_);refine Qm rfl (Ak (Ai (Ab (Ad (Qx (oA rfl) rfl (Qm rfl (Ak (AN ?_))))))));exact Al (S.length-(j+1)) _ (by omega) ⟨j+1,vl2,ml2,rfl,rfl,l5,rfl,by omega,by rw[GC];exact hO2⟩ Qs
 ·obtain rfl:j=S.length:=by omega
  refine Av (Aa (Aa (Af (Ab (As (Qm rfl (Qm rfl (Qm rfl (Qm rfl (Qm rfl (Am (An ?_))))))))))));exact Rh rfl rfl rfl rfl (⟨AJ l1 (AJ l2 (AJ l24 l5)),gm,S,R,V,vl,ml,rfl,rfl,hO,⟨gA,mA,bs,vc,vr,vv,Rs,Vs,la,hSg.le l5,hOA,AJ lA4 l5,hQ.up l5,hRs,hVs.up l5,lR,lV,fun k hk=>(hRR k hk).up l5,fun k hk=>(hVV k hk).up l5,A⟩,hperm,hsrt,fun a ha=>(hsds a ha).up (AJ l24 l5)⟩)
end Go.Proofs.Q
namespace Go.Proofs
open Go.Proofs.Tryz
open Go.Shelf
def Tryz.lays161_ren:Go.Shelf.Ren:=⟨fun|161=>231|231=>271|227=>272|233=>273|235=>274|228=>295|197=>296|151=>297|260=>306|152=>307|137=>310|119=>311|224=>312|225=>313|217=>314|266=>315|n=>n,fun|9=>9|4=>4|3=>3|5=>5|117=>303|116=>302|0=>0|124=>306|105=>329|21=>21|119=>339|46=>223|139=>342|138=>341|n=>n,fun|3=>0|4=>1|n=>n⟩
theorem Tryz.lays161:Go.Proofs.Lays.n161 prog Tryz.lays161_ren:={
 mixed:=by kernel_rfl
 f119:=func311.trans (congrArg some (by kernel_rfl))
 f137:=func310.trans (congrArg some (by kernel_rfl))
 f151:=func297.trans (congrArg some (by kernel_rfl))
 f152:=func307.trans (congrArg some (by kernel_rfl))
 f161:=func231.trans (congrArg some (by kernel_rfl))
 f197:=func296.trans (congrArg some (by kernel_rfl))
 f217:=func314.trans (congrArg some (by kernel_rfl))
 f224:=func312.trans (congrArg some (by kernel_rfl))
 f225:=func313.trans (congrArg some (by kernel_rfl))
 f227:=func272.trans (congrArg some (by kernel_rfl))
 f228:=func295.trans (congrArg some (by kernel_rfl))
 f231:=func271.trans (congrArg some (by kernel_rfl))
 f233:=func273.trans (congrArg some (by kernel_rfl))
 f235:=func274.trans (congrArg some (by kernel_rfl))
 f260:=func306.trans (congrArg some (by kernel_rfl))
 f266:=func315.trans (congrArg some (by kernel_rfl))
 t0:=underlying0
 a0:=isAgg0
 z0:=sizeOf0
 v0:=zeroValue0
 t3:=underlying3
 a3:=isAgg3
 z3:=sizeOf3
 v3:=zeroValue3
 t4:=underlying4
 a4:=isAgg4
 z4:=sizeOf4
 v4:=zeroValue4
 t5:=underlying5
 a5:=isAgg5
 z5:=sizeOf5
 v5:=zeroValue5
 t9:=underlying9
 a9:=isAgg9
 z9:=sizeOf9
 v9:=zeroValue9
 t21:=underlying21
 a21:=isAgg21
 z21:=sizeOf21
 v21:=zeroValue21
 t46:=underlying223
 a46:=isAgg223
 z46:=sizeOf223
 v46:=zeroValue223
 t105:=underlying329
 a105:=isAgg329
 z105:=sizeOf329
 v105:=zeroValue329
 t116:=underlying302
 a116:=isAgg302
 z116:=sizeOf302
 t117:=underlying303
 a117:=isAgg303
 z117:=sizeOf303
 v117:=zeroValue303
 t119:=underlying339
 a119:=isAgg339
 z119:=sizeOf339
 t124:=underlying306
 a124:=isAgg306
 z124:=sizeOf306
 v124:=zeroValue306
 t138:=underlying341
 a138:=isAgg341
 z138:=sizeOf341
 v138:=zeroValue341
 t139:=underlying342
 a139:=isAgg342
 z139:=sizeOf342
 v139:=zeroValue342
 g3:=by kernel_rfl
 g4:=by kernel_rfl }
open Go.RowKit in
theorem Tryz.strings_TrimLeft_one(s:ByteArray)(c:UInt8)(hc:c.toNat<128)(w:World) :
  Calls prog 231 #[.string s,.string ⟨#[c]⟩] w fun e w'=>e=.returned (.string ⟨(Lib.trimLeftB s.data.toList c).toArray⟩)/\w'=w:=Any.strings_TrimLeft_one Tryz.lays161 s c hc w
def Tryz.laysNm225_ren:Go.Shelf.Ren:=⟨fun|25=>130|31=>192|32=>193|37=>202|n=>n,fun|22=>22|3=>3|4=>4|40=>223|0=>0|n=>n,fun|n=>n⟩
theorem Tryz.laysNm225:Go.Proofs.Lays2.n25 prog Tryz.laysNm225_ren:={
 mixed:=by kernel_rfl
 f25:=func130.trans (congrArg some (by kernel_rfl))
 f31:=func192.trans (congrArg some (by kernel_rfl))
 f32:=func193.trans (congrArg some (by kernel_rfl))
 f37:=func202.trans (congrArg some (by kernel_rfl))
 t0:=underlying0
 a0:=isAgg0
 z0:=sizeOf0
 v0:=zeroValue0
 t3:=underlying3
 a3:=isAgg3
 z3:=sizeOf3
 v3:=zeroValue3
 t4:=underlying4
 a4:=isAgg4
 z4:=sizeOf4
 v4:=zeroValue4
 t22:=underlying22
 a22:=isAgg22
 z22:=sizeOf22
 v22:=zeroValue22
 t40:=underlying223
 a40:=isAgg223
 z40:=sizeOf223
 v40:=zeroValue223 }
open Go.RowKit Go.Lib in
theorem Tryz.slices_BinarySearch_int(b off n c:Nat)(zs:List Int)(x:Int)(w:World)(hz:n<=zs.length)(hbig:n<4611686018427387904)(hc:∀j,j<zs.length->w.cell? ⟨b,off+j,none⟩=some (.int .i64 (zs.getD j 0)))(hs:(zs.take n).Pairwise (·<=·)) :
  Calls prog 130 #[.slice (some ⟨b,off,none⟩) n c,.int .i64 x] w fun e w'=>e=.returned (.tuple #[.int .i64 ((zs.take n).countP (·<x):Nat),.bool ((zs.take n).contains x)])/\∃q,w'=w.drewN q:=Any.slices_BinarySearch_int Tryz.laysNm225 b off n c zs x w hz hbig hc hs
open Go.RowKit Go.Lib in
theorem Tryz.slices_BinarySearch_int_empty(a:Option Addr)(c:Nat)(x:Int)(w:World) :
  Calls prog 130 #[.slice a 0 c,.int .i64 x] w fun e w'=>e=.returned (.tuple #[.int .i64 0,.bool false])/\w'=w:=Any.slices_BinarySearch_int_empty Tryz.laysNm225 a c x w
end Go.Proofs

namespace Go.Proofs.Q
open Go.Eng Go.RowKit
structure Br where
 dim:Int
 birth:Int
 death:Int
 opn:Bool
 low:Int
 high:Int
deriving DecidableEq
def Ps(b:Br):List Value:=[.int .i64 b.dim,.int .i64 b.birth,.int .i64 b.death,.bool b.opn,.int .i64 b.low,.int .i64 b.high]
theorem J8:∀b,(Ps b).length=6:=fun _=>rfl
theorem R7:∀a,∀c∈Ps a,c.oneCell'=true:=fun a c hc=>by simp only[Ps,mem_cons,not_mem_nil,or_false]at hc;rcases hc with rfl|rfl|rfl|rfl|rfl|rfl<;>rfl
open Go.Kuhn
theorem R3(g n:Nat)(hn:n<=9223372036854775807):OwnL cB 1 4 (Bn g 4 (replicate n (Value.bool false))) (.slice (some ⟨g,0,none⟩) n n) (replicate n false):=
 ⟨⟨by rw[<-Qr];simp,.inr ⟨g,n,[],by simp,by rw[<-Qr];simp,by rw[<-Qr];simp,by simp,hn⟩⟩,Aak⟩
def put(x:Int):List Int->List Int
 | []=>[x]
 | y::l=>if y<=x then y::put x l else x::y::l
def Br.at(dim t:Int)(b:Br):Bool:=decide (b.dim=dim)&&decide (b.birth<=t)&&(b.opn||decide (t<b.death))
def fb(a b:Int):Br:=⟨1,a,b,false,0,0⟩
end Go.Proofs.Q
