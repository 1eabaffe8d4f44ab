/- A part of the proof. -/
import Derived.Test.YtodheebhahdepaaGreatDoorUD
import Derived.Shelf.SlGeneric
import Derived.Ground.SlsfProg
import Derived.Shelf.SlSortCmp.WholeK
import Derived.Shelf.SlSortCmp.NoneTotal
import Derived.Test.YtodheebhahdepaaGreatDoorProg
import Derived.Shelf.Strings.Trim
import Derived.Shelf.Small.Utf8
import Derived.Shelf.Small.Bits
import Derived.Shelf.Small.Strs
import Derived.Shelf.Small.Wraps
import Derived.Shelf.Strconv.Itoa0
import Derived.Shelf.Strings.Search1
import Derived.Shelf.Sort.Plain
import Derived.Shelf.Unicode.Decode
import Derived.Shelf.Strings.Runes
import Derived.Shelf.Strings.AsciiSet
import Derived.Shelf.Bits.Mul64
import Derived.Shelf.Unicode.DecodeSlow
import Derived.Shelf.Unicode.DecodeAny
import Derived.Shelf.Slices.Equal
import Derived.Ground.Names2Prog
import Derived.Shelf.Slices.Clone
import Derived.Shelf.Slices.CompactI
import Derived.Shelf.Slices.SearchI
import Derived.Shelf.Slices.Cells
import Derived.Shelf.Slices.In.SortNone
import Derived.Shelf.Slices.Empties
import Derived.Shelf.Slices.Empties2
import Derived.Ground.SlgnProg
import Derived.Shelf.SlicesE.Clone
import Derived.Sort.OwnSortedInts
import Derived.Lib.SlicesCompact
set_option linter.unusedSimpArgs false
set_option linter.unusedVariables false
set_option linter.unusedSectionVars false
set_option maxRecDepth 100000
set_option maxHeartbeats 4000000

open List (length_map length_singleton getElem_mem replicate range length_append nil_append length_take mem_cons cons_append map_append append_nil map_map map_cons length_set getElem_of_mem take_length length_range not_mem_nil)
namespace Go.Proofs.Q
open Go.Proofs.Tryz
open Go.Eng Go.RowKit
theorem HJ(w:World):(zeroValue 3).run Tryz.prog w=.ok (kN 0) w:=by rfl
structure X3(U:List Cl)(x:Cl):Prop where
 n:x.sd.length<=64
 p:0<x.sd.length
 m:∀i,i<x.sd.length->(FZ U (Bv x i).1).sd.length<=64
 s:∀s∈x.sd,BP s.1/\(s.2=1\/s.2=-1)
 t:∀i,i<x.sd.length->∀r∈(FZ U (Bv x i).1).sd,BP r.1/\(r.2=1\/r.2=-1)
theorem Xo{ν:Type}(T:List (Int×ν))(a:Int)(x:ν):(C0 T a x).length<=T.length+1:=by
 unfold C0;split
 ·rw[length_map];omega
 ·simp
theorem RN:∀E:Gd,(FY E).length<=E.length:=Dt (by simp[FY]) λE e ih=>by rw[F3,length_append,length_singleton];have:=Xo (FY E) e.2.1 ((Bj (FY E) e.2.1).getD []++[e.1]);omega
theorem ML{U:List Cl}{x:Cl}{m:Nat}{e:Int×Int×Int}(h:e∈I7 U x m):∃i,i<m/\∃r∈(FZ U (Bv x i).1).sd,e=((i:Int),r.1,(Bv x i).2*r.2):=by unfold I7 at h;obtain⟨i,hi,h⟩:=List.mem_flatMap.1 h;obtain⟨r,hr,rfl⟩:=List.mem_map.1 h;exact⟨i,List.mem_range.1 hi,r,hr,Y⟩
theorem ZP{U:List Cl}{x:Cl}(K:X3 U x){m:Nat}(hm:m<=x.sd.length){e:Int×Int×Int}(h:e∈I7 U x m):e.2.2=1\/e.2.2=-1:=by
 obtain⟨i,hi,r,hr,rfl⟩:=ML h;have hi':i<x.sd.length:=by omega
 have h1:=(K.t i hi' r hr).2;have h2:=(K.s (Bv x i) (by rw[Bp hi'];exact getElem_mem hi')).2;show(Bv x i).2*r.2=1\/(Bv x i).2*r.2=-1;rcases h1 with h1|h1<;>rcases h2 with h2|h2<;>rw[h1,h2]<;>decide
theorem Sk(U:List Ce)(x:Ce)(g:Nat)(hp:Hp)(hT:RdT hp g U)(hX:RdL cD 2 hp [] x.v x.c.sd)(hK:X3 (U.map Ce.c) x.c):FnT Tryz.prog 77 #[.pointer (some ⟨g,0,none⟩),.agg (cC x).toArray] hp [] (λr _ _=>r=.int .i64 (UV (I7 (U.map Ce.c) x.c x.c.sd.length) x.c.sd.length)):=by
 have o2:=hX.rd.one;show FnT _ _ #[.pointer (some ⟨g,0,none⟩),.agg #[.int .i64 x.c.id,.int .i64 x.c.dim,x.v]] _ _ _;refine Av func77 ntmps77 Y Y (λw0 hw0=>?_);simp only[A3];refine Aw (AY [_,_,_] Y Y (by rfl) Y Y Y (λg3=>Qm Y (Ap (AB λh1 l1 hS=>?_))));obtain⟨gm,mMt,bst,vids,hSg,hMt,lmt,hVt,hsU⟩:=hT.up l1;have hX:=hX.up l1;have hA:=Seg.all hS;have a2:∀ms,Cell h1 ms (⟨g3,2,none⟩:Addr) x.v:=λms=>hA 2 _ Y ms;have eT:∀ms,Cell h1 ms (⟨g,0,none⟩:Addr) (.map (some gm)):=λms=>Seg.all hSg 0 _ Y ms;have hn64:=hK.n;refine Aw (CX (K:=kN) (V:=kN) (Ok:=BP) Y Y Y Y (λgA mA hA0=>CX (K:=kN) (V:=Lv) (Ok:=BP) Y Y Y Y (λgB mM hB0=>Qm Y (Qm Y (Ap (DT 1 Y (BO ?_)))))));have hMS0:=OwnMS.start hB0;refine A8 (λsl h' ms'=>∃(mB mA mM:Hp) (bs:List Nat),sl=[(3,.pointer (some ⟨g3,0,none⟩)),(5,.map (some gA)),(6,.map (some gB))]/\h1.le h'/\ms'=[mB,mA,mM]/\CC kN kN gA BP mA (CT (I7 (U.map Ce.c) x.c x.c.sd.length)) bs/\OwnMS gB mM mB (FY (I7 (U.map Ce.c) x.c x.c.sd.length))) ?_ (λs h ms hI=>?_)
 ·refine Ac (Ad (Qf Bs Y (Ql Y BQ (a2 _) (Qx (As hX.rd.any Y BQ Y) Y (Qm Y (Ap (Ah ?_)))))))
  refine AD (λq sl h' ms'=>∃(i:Nat) (mB mA mM:Hp) (bs:List Nat),q=x.c.sd.length-i/\sl=[(0,.pointer (some ⟨g,0,none⟩)),(3,.pointer (some ⟨g3,0,none⟩)),(5,.map (some gA)),(6,.map (some gB)),(21,x.v),(22,.int .i64 x.c.sd.length),(23,.int .i64 i)]/\h1.le h'/\ms'=[mB,mA,mM]/\i<=x.c.sd.length/\CC kN kN gA BP mA (CT (I7 (U.map Ce.c) x.c i)) bs/\OwnMS gB mM mB (FY (I7 (U.map Ce.c) x.c i)))
   (x.c.sd.length-0) _ ⟨0,Hp.emp,mA,mM,[],rfl,rfl,B8,rfl,by omega,hA0,hMS0⟩ Qs ?_
  rintro q sl h2 ms' ⟨i,mB,mA,mM,bs,rfl,rfl,l2,rfl,hi,hOA,hMS⟩;have hX:=hX.up l2;refine Aw (Qm Y (Ap (Ac ?_)));refine Ax Y (λhlt=>?_) (λhlt=>?_)
  ·have hil:i<x.c.sd.length:=by omega
   obtain⟨s,hs⟩:∃s,x.c.sd[i]=s:=⟨_,Y⟩
   have hsm:s∈x.c.sd:=by rw[<-hs];exact getElem_mem hil
   have hsA:Bv x.c i=s:=by rw[Bp hil,hs]
   have hsI:=hK.s s hsm;obtain⟨y,hy⟩:∃y,(Bj (E4 U) s.1).getD default=y:=⟨_,Y⟩
   have hyc:FZ (U.map Ce.c) s.1=y.c:=by rw[<-Hm,hy]
   have hyR:=Mr hsU s.1;rw[hy]at hyR;have hyR:=hyR.up l2;have oyv:=hyR.rd.one;have y64:=hK.m i hil;have yt:=hK.t i hil;rw[hsA,hyc]at y64 yt;have hE:=MO (U.map Ce.c) x.c hK.m i hi;have hEs:∀e∈I7 (U.map Ce.c) x.c i,e.2.2=1\/e.2.2=-1:=λe he=>ZP hK hi he
   have hsucc:I7 (U.map Ce.c) x.c (i+1)=I7 (U.map Ce.c) x.c i++y.c.sd.map λr=>((i:Int),r.1,s.2*r.2):=by rw[OD];unfold UD;rw[hsA,hyc]
   obtain⟨E,hEe⟩:∃E,I7 (U.map Ce.c) x.c i=E:=⟨_,Y⟩
   rw[hEe]at hOA hMS hE hEs hsucc;have hsx:∀ms,Seg h2 ms ((AJ x.v).add (i*2)) (cD s):=λms=>by rw[<-hs];exact(hX.any (ms:=ms)).seg hil
   refine Aj (Ab ?_);refine A8 (λsl h' ms'=>∃(mB mA mM:Hp) (bs:List Nat),sl=[(0,.pointer (some ⟨g,0,none⟩)),(3,.pointer (some ⟨g3,0,none⟩)),(5,.map (some gA)),(6,.map (some gB)),(21,x.v),(22,.int .i64 x.c.sd.length),(23,.int .i64 i)]/\h2.le h'/\ms'=[mB,mA,mM]/\CC kN kN gA BP mA (CT (I7 (U.map Ce.c) x.c (i+1))) bs/\OwnMS gB mM mB (FY (I7 (U.map Ce.c) x.c (i+1)))) ?_ (λs h ms hI=>?_)
   ·refine Ah (Aw (Qm Y (Qx (BH (i) hX.rd.any Y BQ AQ Y Y) Y (Qx (oG Y Du AQ (hsx _)) Y (By [.int .i64 0,.int .i64 0] Y AQ Y Y (λg8=>Qm Y ?_))))));refine Sa 0 [_,_] AQ Y (by simp[Value.oneCell']) ?_;refine Ap (AB λh3 l3 hS8=>?_);have e80:∀ms,Cell h3 ms (⟨g8,0,none⟩:Addr) (.int .i64 s.1):=λms=>Seg.all hS8 0 _ Y ms;have e81:∀ms,Cell h3 ms (⟨g8,1,none⟩:Addr) (.int .i64 s.2):=λms=>Seg.all hS8 1 _ Y ms;have l13:=AI l2 l3;have eT:∀ms,Cell h3 ms (⟨g,0,none⟩:Addr) (.map (some gm)):=λms=>(eT ms).le l13;have hyR:=hyR.up l3;refine Ac (Bc 10 CZ (by kernel_rfl) Y (Wm Y (Wm Y (Wf DO Y (Wl Y EY (eT _) (Wf B6 Y (Wl Y U3 (e80 _) (AW (B9 (V:=vC) (z:=(default:Ce)) s.1 hy Bh hMt (AI lmt l13) Y EY HK Y Y hsI.1) Y Y (AW (Cp Y D1 Y BQ Y Y Y) Y Y (AW (As hyR.rd.any Y BQ Y) Y Y (Wm Y (A4 (Ap (Ah ?_))))))))))))))
    refine AD (λq sl h' ms'=>∃(k:Nat) (mB mA mM:Hp) (bs:List Nat),q=y.c.sd.length-k/\sl=[(0,.pointer (some ⟨g,0,none⟩)),(3,.pointer (some ⟨g3,0,none⟩)),(5,.map (some gA)),(6,.map (some gB)),(7,.int .i64 i),(8,.pointer (some ⟨g8,0,none⟩)),(21,x.v),(22,.int .i64 x.c.sd.length),(23,.int .i64 i),(35,y.v),(36,.int .i64 y.c.sd.length),(37,.int .i64 k)]/\h3.le h'/\ms'=[mB,mA,mM]/\k<=y.c.sd.length/\CC kN kN gA BP mA (CT (E++(y.c.sd.take k).map λr=>((i:Int),r.1,s.2*r.2))) bs/\OwnMS gB mM mB (FY (E++(y.c.sd.take k).map λr=>((i:Int),r.1,s.2*r.2))))
     (y.c.sd.length-0) _ ⟨0,mB,mA,mM,bs,rfl,rfl,B8,rfl,by omega,by simpa using hOA,by simpa using hMS⟩ Qs ?_
    rintro q sl h4 ms' ⟨k,mB,mA,mM,bs,rfl,rfl,l4,rfl,hk,hOA,hMS⟩;have hyR:=hyR.up l4;have e81:∀ms,Cell h4 ms (⟨g8,1,none⟩:Addr) (.int .i64 s.2):=λms=>(e81 ms).le l4;refine Aw (Qm Y (Ap (Ac ?_)));refine Ax Y (λhlk=>?_) (λhlk=>?_)
    ·have hkl:k<y.c.sd.length:=by omega
     obtain⟨r,hr⟩:∃r,y.c.sd[k]=r:=⟨_,Y⟩
     have hrm:r∈y.c.sd:=by rw[<-hr];exact getElem_mem hkl
     have hrI:=yt r hrm;have hsr:∀ms,Seg h4 ms ((AJ y.v).add (k*2)) (cD r):=λms=>by rw[<-hr];exact(hyR.any (ms:=ms)).seg hkl
     have hF':(E++(y.c.sd.take (k+1)).map λr=>((i:Int),r.1,s.2*r.2))=(E++(y.c.sd.take k).map λr=>((i:Int),r.1,s.2*r.2))++[((i:Int),r.1,s.2*r.2)]:=by rw[List.take_succ_eq_append_getElem hkl,map_append,hr,List.append_assoc];rfl
     have hFl:(E++(y.c.sd.take k).map λr=>((i:Int),r.1,s.2*r.2)).length<=4200:=by rw[length_append,length_map,length_take];omega
     have hmu:s.2*r.2=1\/s.2*r.2=-1:=by rcases hsI.2 with e|e<;>rcases hrI.2 with e'|e'<;>rw[e,e']<;>decide
     have hFs:∀e∈E++(y.c.sd.take k).map (λr=>((i:Int),r.1,s.2*r.2)),e.2.2=1\/e.2.2=-1:=λe he=>by
      rcases List.mem_append.1 he with he|he
      ·exact hEs e he
      ·obtain⟨r',hr',rfl⟩:=List.mem_map.1 he;have hrI':=yt r' (List.mem_of_mem_take hr');show s.2*r'.2=1\/s.2*r'.2=-1;rcases hsI.2 with e|e<;>rcases hrI'.2 with e'|e'<;>rw[e,e']<;>decide
     obtain⟨F,hF⟩:∃F,E++(y.c.sd.take k).map (λr=>((i:Int),r.1,s.2*r.2))=F:=⟨_,Y⟩
     rw[hF]at hOA hMS hFl hFs hF';obtain⟨v0,hv0⟩:∃v0,(Bj (CT F) r.1).getD 0=v0:=⟨_,Y⟩
     have hb0:=Aah F r.1 hFs;rw[<-I8,hv0]at hb0;have hs1:=GF F ((i:Int),r.1,s.2*r.2);have hm1:=F3 F ((i:Int),r.1,s.2*r.2);simp only at hs1 hm1;rw[hv0]at hs1;refine Aj (Ab ?_);refine A8 (λsl h' ms'=>∃(mB mA mM:Hp) (bs:List Nat),sl=[(0,.pointer (some ⟨g,0,none⟩)),(3,.pointer (some ⟨g3,0,none⟩)),(5,.map (some gA)),(6,.map (some gB)),(7,.int .i64 i),(8,.pointer (some ⟨g8,0,none⟩)),(21,x.v),(22,.int .i64 x.c.sd.length),(23,.int .i64 i),(35,y.v),(36,.int .i64 y.c.sd.length),(37,.int .i64 k)]/\h4.le h'/\ms'=[mB,mA,mM]/\CC kN kN gA BP mA (CT (F++[((i:Int),r.1,s.2*r.2)])) bs/\OwnMS gB mM mB (FY (F++[((i:Int),r.1,s.2*r.2)]))) ?_ (λs h ms hI=>?_)
     ·refine Ah (Aw (Qx (BH (k) hyR.rd.any Y BQ AQ Y Y) Y (Qx (oG Y Du AQ (hsr _)) Y (By [.int .i64 0,.int .i64 0] Y AQ Y Y (λg10=>?_)))));refine Sa 0 [_,_] AQ Y (by simp[Value.oneCell']) ?_;refine Ap (AB λh5 l5 hS10=>?_);have e81:∀ms,Cell h5 ms (⟨g8,1,none⟩:Addr) (.int .i64 s.2):=λms=>(e81 ms).le l5;have ea0:∀ms,Cell h5 ms (⟨g10,0,none⟩:Addr) (.int .i64 r.1):=λms=>Seg.all hS10 0 _ Y ms;have ea1:∀ms,Cell h5 ms (⟨g10,1,none⟩:Addr) (.int .i64 r.2):=λms=>Seg.all hS10 1 _ Y ms;refine Aw (Qm Y (Qf B6 Y (Ql Y U3 (ea0 _) (Qx (DV (V:=kN) (z:=(0:Int)) r.1 hv0 Bh hOA (by simp) rfl Ll HJ rfl rfl hrI.1) rfl (Qf Di rfl (Ql rfl U3 (e81 _) (Qf Di rfl (Ql rfl U3 (ea1 _) (Qx (oM rfl) rfl (Qx (oA rfl) rfl (BS (V:=kN) (z:=undef) 1 r.1 (v0+s.2*r.2) Bh hOA rfl rfl Ll rfl rfl rfl hrI.1 rfl rfl (λmA' bs' hOA'=>?_))))))))))));rw[<-hs1]at hOA';refine Ap ?_;obtain⟨Tv,bv,v,m1,m2,hO,hv,rfl,hd,hO1,close⟩:=hMS.open r.1;refine Hi hd ?_;obtain⟨L,hL⟩:∃L,(Bj (FY F) r.1).getD []=L:=⟨_,Y⟩
      have hLl:L.length<=4200:=by rw[<-hL,ON,length_map];exact Nat.le_trans (List.length_filter_le _ _) hFl
      rw[hL]at hO1 hm1;have ov:=hO1.o1;refine BK (n:=11) (bs:=[true,true,true,true,true,true,false,true,false,false,false]) [true,true,true,true,true,true,false,true] CZ (by kernel_rfl) (by kernel_rfl) Y Y (Qq Y (QF B6 Y (QL Y U3 (ea0 _) (Qq Y (QF B6 Y (QL Y U3 (ea0 _) (Qq Y ?_)))))));unfold FK;simp only[cons_append,nil_append];refine AG [6,8] (by kernel_rfl) Y ?_;refine Ai Y ?_ ?_
      ·refine Qx (DV (V:=Lv) (z:=(Value.slice none 0 0)) r.1 hv Bh hO (by simp) rfl Gs K6 rfl rfl hrI.1) rfl (Qw (Qo 8 rfl (Ar [_] rfl A0 Ba rfl (by rfl) rfl rfl (by omega) rfl rfl rfl (λg59=>Qw (Qo 9 rfl (AZ 1 hO1 (RdL.one Bl (x:=(i:Int)) Mh rfl) rfl A0 Ba rfl (by omega) rfl rfl rfl Ck (by(try simp only[length_singleton]);omega) (by(try simp only[length_singleton]);omega) rfl rfl rfl (λv9 m9 hO9=>?_)))))));have ov9:=hO9.o1;refine Qw (Qo 10 Y (BS (V:=Lv) (z:=undef) 4 r.1 v9 Bh hO Y Y Gs Y Y Y hrI.1 Y Y (λmM' bs2 hM'=>Qw (Qe (AS (D8 λhap=>(Ez ?_)))))));have hdj:=(List.pairwise_cons.1 hap).1 _ Mh;have hMS':=close v9 _ m9 mM' bs2 hdj hO9 hM';rw[<-hm1]at hMS';refine Ak ?_;exact Ao _ ⟨_,mA',mM',bs',Y,l5,Y,hOA',hMS'⟩ Qs
      refine Ai Y ?_ ?_
      ·refine Ar [_] Y A0 Ba Y (by rfl) Y Y (by omega) Y Y Y (λg59=>Qw (Qo 6 Y (Qx (DV (V:=Lv) (z:=(Value.slice none 0 0)) r.1 hv Bh hO (by simp) rfl Gs K6 rfl rfl hrI.1) rfl (Qw (Qo 9 rfl (AZ 1 hO1 (RdL.one Bl (x:=(i:Int)) Mh rfl) rfl A0 Ba rfl (by omega) rfl rfl rfl Ck (by(try simp only[length_singleton]);omega) (by(try simp only[length_singleton]);omega) rfl rfl rfl (λv9 m9 hO9=>?_)))))));have ov9:=hO9.o1;refine Qw (Qo 10 Y (BS (V:=Lv) (z:=undef) 4 r.1 v9 Bh hO Y Y Gs Y Y Y hrI.1 Y Y (λmM' bs2 hM'=>Qw (Qe (AS (D8 λhap=>(Ez ?_)))))));have hdj:=(List.pairwise_cons.1 hap).1 _ Mh;have hMS':=close v9 _ m9 mM' bs2 hdj hO9 hM';rw[<-hm1]at hMS';refine Ak ?_;exact Ao _ ⟨_,mA',mM',bs',Y,l5,Y,hOA',hMS'⟩ Qs
      exact AH
     ·obtain⟨mB,mA,mM,bs,rfl,k4,rfl,hOA,hMS⟩:=hI;rw[<-hF']at hOA hMS;refine Ad (Qx (oA Y) Y (Qm Y (An ?_)));exact Am (y.c.sd.length-(k+1)) _ (by omega) ⟨k+1,mB,mA,mM,bs,Y,Y,AI l4 k4,Y,by omega,hOA,hMS⟩ Qs
    ·obtain rfl:k=y.c.sd.length:=by omega
     rw[take_length,<-hsucc]at hOA hMS;refine Ay (Aa (Aa (Ag (Ak ?_))));exact Ao _ ⟨mB,mA,mM,bs,Y,AI l3 l4,Y,hOA,hMS⟩ Qs
   ·obtain⟨mB,mA,mM,bs,rfl,k2,rfl,hOA,hMS⟩:=hI;refine Ad (Qx (oA Y) Y (Qm Y (An ?_)));exact Am (x.c.sd.length-(i+1)) _ (by omega) ⟨i+1,mB,mA,mM,bs,Y,Y,AI l2 k2,Y,by omega,hOA,hMS⟩ Qs
  ·obtain rfl:i=x.c.sd.length:=by omega
   refine Ay (Aa (Aa (Ag ?_)));exact Ao _ ⟨mB,mA,mM,bs,Y,l2,Y,hOA,hMS⟩ Qs
 ·obtain⟨mB,mA,mM,bs,rfl,l2,rfl,hOA,hMS⟩:=hI;have hEl:=MO (U.map Ce.c) x.c hK.m x.c.sd.length (Nat.le_refl _)
  have hEi:∀e∈I7 (U.map Ce.c) x.c x.c.sd.length,0<=e.1/\e.1<x.c.sd.length:=λe he=>by obtain⟨i,hi,r,_,rfl⟩:=ML he;exact⟨by show 0<=(i:Int);omega,by show(i:Int)<_;omega⟩
  obtain⟨E,hE⟩:∃E,I7 (U.map Ce.c) x.c x.c.sd.length=E:=⟨_,Y⟩
  rw[hE]at hOA hMS hEl hEi ⊢;refine Bt λh2 k2 fB=>(Bt λh3 k3 fA=>(Bt λh4 k4 fM=>?_))
  have lB:=AI fB (AI k3 k4);have lA:=AI fA k4;have lh4:=AI l2 (AI k2 (AI k3 k4));refine A8 (λsl h' ms'=>sl=[(3,.pointer (some ⟨g3,0,none⟩)),(6,.map (some gB))]/\h4=h'/\ms'=[]/\∀e∈E,Eb E e.2.1=0) ?_ (λs h ms hI=>?_)
  ·refine Ac (Ad (Qm Y (Hv hOA lA Y Ll Y Y Y Y (λgi mi0 I0=>Ap (Ah ?_)))))
   refine AD (λq sl h' ms'=>∃(vis:List Nat) (mi:Hp),q=(CT E).length-vis.length/\sl=[(3,.pointer (some ⟨g3,0,none⟩)),(6,.map (some gB)),(64,.pointer (some ⟨gi,0,none⟩))]/\h4=h'/\ms'=[mi]/\He gi gA mA mi bs vis/\∀j (hj:j<(CT E).length),j∈vis->(CT E)[j].2=0)
    ((CT E).length-0) _ ⟨[],mi0,rfl,rfl,rfl,rfl,I0,λj hj h=>nomatch h⟩ Qs ?_
   rintro q sl h' ms' ⟨vis,mi,rfl,rfl,rfl,rfl,I,hz⟩;refine Aw ?_;refine IM 0 hOA I lA Y Y Y Y Y Y (λhall=>?_) (λj hj mi' hjv I'=>?_)
   ·refine Qm Y (Ap (Ac (AV Y (Ay (Aa (Aa (Ag ?_)))))))
    have hzero:∀e∈E,Eb E e.2.1=0:=λe he=>by obtain⟨l,v,hl⟩:=G0 ((KI e.2.1 E).2 ⟨e,he,Y⟩);rw[<-I8,Ed (QI E) hl];obtain⟨h1,h2⟩:=List.getElem?_eq_some_iff.1 hl;have:=hz l h1 (hall l h1);rw[h2]at this;exact this
    refine Bd 0 Y ?_;exact Ao _ ⟨Y,Y,Y,hzero⟩ Qs
   ·have hTj:(CT E)[j].2=Eb E (CT E)[j].1:=by have hg:(CT E)[j]?=some ((CT E)[j].1,(CT E)[j].2):=List.getElem?_eq_getElem hj;rw[<-I8,Ed (QI E) hg];rfl
    refine Qm Y (Ap (Ac (BD Y (Aj (Ab (Ah (Aw (Qx (Hu hOA I' lA (by simp) hj rfl rfl) rfl (Qm rfl (Qm rfl (BN (Qm rfl (Qm rfl (Ap ?_))))))))))))));refine Ax Y (λhne=>?_) (λhne=>?_)
    ·have h24:UV E x.c.sd.length=24:=by unfold UV;rw[if_pos λw=>?_];obtain⟨e,he,h1⟩:=(KI (CT E)[j].1 E).1 (List.mem_map.2 ⟨_,getElem_mem hj,Y⟩);have:=w e he;rw[h1,<-hTj]at this;exact hne this
     refine Aw (Qm Y (Ap (Aq (Al (Ae (Al (Ae ?_)))))));exact Az Y Y (by rw[h24])
    ·refine Aj (Ak ?_);refine Am ((CT E).length-(vis.length+1)) _ ?_ ⟨vis++[j],mi',by simp,rfl,rfl,rfl,I',λi hi' hv=>?_⟩ Qs
     ·have hlt:vis.length<(CT E).length:=by
       have h1:=Go.Kuhn.nodup_le (vis++[j]) (range (CT E).length) I'.nodup λx hx=>by rw[List.mem_range,<-hOA.len];exact I'.lt x hx
       simp at h1;omega
      omega
     ·rcases List.mem_append.1 hv with hv|hv
      ·exact hz i hi' hv
      ·simp at hv;subst hv;exact Classical.not_not.1 hne
  ·obtain⟨rfl,rfl,rfl,hzero⟩:=hI;obtain⟨Tv,bv,hOv,hKv,hRv,hRa⟩:=hMS.look lB;obtain⟨M,hM⟩:∃M,FY E=M:=⟨_,Y⟩
   have hMn:=ZV E;have hMk:=λc=>Su c E;have hMg:=λc=>ON c E;rw[hM]at hKv hRv hRa hMn hMk hMg;have hTl:Tv.length=M.length:=by have:=congrArg List.length hKv;simpa using this
   refine Aw (CX (K:=kN) (V:=Lv) (Ok:=BP) Y Y Y Y (λgJ mJ hJ0=>By [.map none] Y Y5 Y Y (λg13=>Af 0 0 Y Y5 Y Y (by rfl) Y Y (by decide) Y Y (Ap (AB λh5 k5 hS13=>?_)))));have e13:∀ms,Cell h5 ms (⟨g13,0,none⟩:Addr) (.map (some gJ)):=λms=>Seg.all hS13 0 _ Y ms;refine BO ?_;have hJS0:=OwnMS.start hJ0;have fM5:=AI fM k5
   let pr:Nat->Int×Int:=λj=>(((M.getD j (0,[])).2).getD 0 0,((M.getD j (0,[])).2).getD 1 0)
   refine A8 (λsl h' ms'=>∃(vis:List Nat) (mJB mJ:Hp),sl=[(3,.pointer (some ⟨g3,0,none⟩)),(13,.pointer (some ⟨g13,0,none⟩))]/\h5=h'/\ms'=[mJB,mJ]/\OwnMS gJ mJ mJB (EG (vis.map pr))/\vis.length<=M.length/\(∀j,j∈vis->j<M.length)/\(∀j,j<M.length->j∈vis)/\∀j (hj:j<M.length),M[j].2.length=2) ?_ (λs h ms hI=>?_)
   ·refine Ac (Ad (Qm Y (Hv hOv fM5 Y Gs Y Y Y Y (λgi mi0 I0=>Ap (Ah (DT 1 Y ?_))))))
    refine AD (λq sl h' ms'=>∃(vis:List Nat) (mi mJB mJ:Hp),q=M.length-vis.length/\sl=[(3,.pointer (some ⟨g3,0,none⟩)),(13,.pointer (some ⟨g13,0,none⟩)),(73,.pointer (some ⟨gi,0,none⟩))]/\h5=h'/\ms'=[mJB,mi,mJ]/\He gi gB mM mi bv vis/\OwnMS gJ mJ mJB (EG (vis.map pr))/\∀j (hj:j<M.length),j∈vis->M[j].2.length=2)
     (M.length-0) _ ⟨[],mi0,Hp.emp,mJ,rfl,rfl,rfl,rfl,I0,hJS0,λj hj h=>nomatch h⟩ Qs ?_
    rintro q sl h' ms' ⟨vis,mi,mJB,mJ,rfl,rfl,rfl,rfl,I,hJS,hz⟩
    have hvl:∀{w:List Nat} {m':Hp},He gi gB mM m' bv w->w.length<=M.length/\∀j,j∈w->j<M.length:=λ{w m'} I=>by
     have hlt:∀x∈w,x<M.length:=λx hx=>by rw[<-hTl,<-hOv.len];exact I.lt x hx
     have h1:=Go.Kuhn.nodup_le w (range M.length) I.nodup λx hx=>List.mem_range.2 (hlt x hx);rw[length_range]at h1;exact⟨h1,hlt⟩
    refine Aw ?_;refine IM 1 hOv I fM5 Y Y Y Y Y Y (λhall=>?_) (λj hj mi' hjv I'=>?_)
    ·refine Qm Y (Ap (Ac (AV Y (Ay (Aa (Aa (Ag (Bd 1 Y ?_))))))));exact Ao _ ⟨vis,mJB,mJ,Y,Y,Y,hJS,(hvl I).1,(hvl I).2,λj hj=>hall j (by omega),λj hj=>hz j hj (hall j (by omega))⟩ Qs
    ·have hjM:j<M.length:=by omega
     have hRj:=(hRv j hj hjM).2.up k5
     have hcj:(Bj M M[j].1).getD []=M[j].2:=by have hg:M[j]?=some (M[j].1,M[j].2):=List.getElem?_eq_getElem hjM;rw[Ed hMn hg];rfl
     have hcE:=hMg M[j].1;rw[hcj]at hcE;obtain⟨v,hv⟩:∃v,Tv[j].2=v:=⟨_,Y⟩
     obtain⟨L,hL⟩:∃L,M[j].2=L:=⟨_,Y⟩
     rw[hv,hL]at hRj;have ov:=hRj.rd.one;have hLl:L.length<=4200:=by rw[<-hL,hcE,length_map];exact Nat.le_trans (List.length_filter_le _ _) (by omega)
     refine Qm Y (Ap (Ac (BD Y (Aj (Ab (Ah (Aw (Qx (Hu hOv I' fM5 (by simp) hj rfl rfl) rfl ?_))))))));rw[hv];refine Qm Y (Qm Y (Ap (Ac (Aw (Qm Y (Qx (As hRj.rd.any Y A0 Y) Y (Qm Y (Ap ?_))))))));refine Ax Y (λhne=>?_) (λhne=>?_)
     ·have h25:UV E x.c.sd.length=25:=by unfold UV;rw[if_neg (λw=>w hzero),if_pos λw=>?_];obtain⟨e,he,h1⟩:=(hMk M[j].1).1 (List.mem_map.2 ⟨_,getElem_mem hjM,Y⟩);have:=w e he;rw[h1,HZ,<-length_map (f:=λe:Int×Int×Int=>e.1),<-hcE,hL]at this;exact hne (by omega)
      refine Aw (Qm Y (Ap (Aq (Ae (Al (Ae (Al (Ae ?_))))))));exact Az Y Y (by rw[h25])
     ·have hL2:L.length=2:=by omega
      obtain⟨a,b,rfl⟩:∃a b,L=[a,b]:=by
       match L,hL2 with
       | [a,b],_=>exact⟨a,b,Y⟩
      have hin:∀k∈[a,b],0<=k/\k<x.c.sd.length:=λk hk=>by rw[<-hL,hcE]at hk;obtain⟨e,he,rfl⟩:=List.mem_map.1 hk;exact hEi e (List.mem_filter.1 he).1
      have ha:=hin a Mh;have hb:=hin b (List.mem_cons_of_mem _ Mh);have haI:BP a:=by unfold BP;omega
      have hbI:BP b:=by unfold BP;omega
      have hprj:pr j=(a,b):=by
       simp only[pr];have:M.getD j (0,[])=M[j]:=by simp[List.getD,hjM]
       rw[this,hL];rfl
      have hMl:M.length<=4200:=by rw[<-hM];have:=RN E;omega
      have hPl:(vis.map pr).length<=4200:=by rw[length_map];have:=(hvl I).1;omega
      have hjl:=LD (vis.map pr);have hsn:EG ((vis++[j]).map pr)=EW (EW (EG (vis.map pr)) a b) b a:=by rw[map_append,List.map_singleton,HN,hprj]
      have hj1:=I3 (EG (vis.map pr)) a b _ hjl;obtain⟨T0,hT0⟩:∃T0,EG (vis.map pr)=T0:=⟨_,Y⟩
      rw[hT0]at hJS hjl hsn hj1;have ca:∀ms,Cell h5 ms ((AJ v).add (0*1)) (.int .i64 a):=λms=>(hRj.any (ms:=ms)).cell0 (j:=0) (by simp) rfl;have cb:∀ms,Cell h5 ms ((AJ v).add (1*1)) (.int .i64 b):=λms=>(hRj.any (ms:=ms)).cell0 (j:=1) (by simp) rfl;refine Aj (Ab ?_);obtain⟨Tv1,bv1,u,m1,m2,hO,hu,rfl,hd,hO1,close⟩:=hJS.open a;refine Hi hd ?_;obtain⟨L0,hL0⟩:∃L0,(Bj T0 a).getD []=L0:=⟨_,Y⟩
      have hL0l:L0.length<=10000:=by rw[<-hL0];have:=hjl a;omega
      rw[hL0]at hO1;have hjeq:EW T0 a b=C0 T0 a (L0++[b]):=by unfold EW;rw[hL0]
      have ou:=hO1.o1;refine A8 (λsl h' ms'=>∃(mJB mJ:Hp),sl=[(3,.pointer (some ⟨g3,0,none⟩)),(13,.pointer (some ⟨g13,0,none⟩)),(15,v),(73,.pointer (some ⟨gi,0,none⟩))]/\h5=h'/\ms'=[mJB,mi',mJ]/\OwnMS gJ mJ mJB (EW T0 a b)) ?_ (λs h ms hI=>?_)
      ·refine BK (n:=15) (bs:=[true,true,true,true,true,true,true,true,false,true,true,true,false,false,false]) [true,true,true,true,true,true,true,true,false,true,true,true] CZ (by kernel_rfl) (by kernel_rfl) Y Y (QL Y Gs (e13 _) (Qq Y (Qp Y (AM 0 hRj.rd.any Y A0 Ba Y Y Y (by omega)) (QL Y U3 (ca _) (QL Y Gs (e13 _) (Qq Y (Qp Y (AM 0 hRj.rd.any Y A0 Ba Y Y Y (by omega)) (QL Y U3 (ca _) (Qq Y (Qp Y (AM 1 hRj.rd.any Y A0 Ba Y Y Y (by omega)) (QL Y U3 (cb _) ?_)))))))))));unfold FK;simp only[cons_append,nil_append];refine AG [8,12] (by kernel_rfl) Y ?_;refine Ai Y ?_ ?_
       ·refine Qx (DV (V:=Lv) (z:=(Value.slice none 0 0)) a hu Bh hO (by simp) rfl Gs K6 rfl rfl haI) rfl (Qw (Qo 12 rfl (Ar [_] rfl A0 Ba rfl (by rfl) rfl rfl (by omega) rfl rfl rfl (λg93=>Qw (Qo 13 rfl (AZ 1 hO1 (RdL.one Bl (x:=b) Mh rfl) rfl A0 Ba rfl (by omega) rfl rfl rfl Ck (by(try simp only[length_singleton]);omega) (by(try simp only[length_singleton]);omega) rfl rfl rfl (λv9 m9 hO9=>?_)))))));have ov9:=hO9.o1;refine Qw (Qo 14 Y (BS (V:=Lv) (z:=undef) 4 a v9 Bh hO Y Y Gs Y Y Y haI Y Y (λmM' bs2 hM'=>Qw (Qe (AS (D8 λhap=>(Ez ?_)))))));have hdj:=(List.pairwise_cons.1 hap).1 _ Mh;have hMS':=close v9 _ m9 mM' bs2 hdj hO9 hM';rw[<-hjeq]at hMS';exact Ao _ ⟨_,mM',Y,Y,Y,hMS'⟩ Qs
       refine Ai Y ?_ ?_
       ·refine Ar [_] Y A0 Ba Y (by rfl) Y Y (by omega) Y Y Y (λg93=>Qw (Qo 8 Y (Qx (DV (V:=Lv) (z:=(Value.slice none 0 0)) a hu Bh hO (by simp) rfl Gs K6 rfl rfl haI) rfl (Qw (Qo 13 rfl (AZ 1 hO1 (RdL.one Bl (x:=b) Mh rfl) rfl A0 Ba rfl (by omega) rfl rfl rfl Ck (by(try simp only[length_singleton]);omega) (by(try simp only[length_singleton]);omega) rfl rfl rfl (λv9 m9 hO9=>?_)))))));have ov9:=hO9.o1;refine Qw (Qo 14 Y (BS (V:=Lv) (z:=undef) 4 a v9 Bh hO Y Y Gs Y Y Y haI Y Y (λmM' bs2 hM'=>Qw (Qe (AS (D8 λhap=>(Ez ?_)))))));have hdj:=(List.pairwise_cons.1 hap).1 _ Mh;have hMS':=close v9 _ m9 mM' bs2 hdj hO9 hM';rw[<-hjeq]at hMS';exact Ao _ ⟨_,mM',Y,Y,Y,hMS'⟩ Qs
       exact AH
      ·obtain⟨mJB,mJ,rfl,rfl,rfl,hJS⟩:=hI;obtain⟨T1,hT1⟩:∃T1,EW T0 a b=T1:=⟨_,Y⟩
       rw[hT1]at hJS hj1 hsn;obtain⟨Tv2,bv2,u2,m1,m2,hO,hu,rfl,hd,hO1,close⟩:=hJS.open b;refine Hi hd ?_;obtain⟨L1,hL1⟩:∃L1,(Bj T1 b).getD []=L1:=⟨_,Y⟩
       have hL1l:L1.length<=10000:=by rw[<-hL1];have:=hj1 b;omega
       rw[hL1]at hO1;have hjeq2:EW T1 b a=C0 T1 b (L1++[a]):=by unfold EW;rw[hL1]
       have ou2:=hO1.o1;refine BK (n:=15) (bs:=[true,true,true,true,true,true,true,true,false,true,true,true,false,false,false]) [true,true,true,true,true,true,true,true,false,true,true,true] CZ (by kernel_rfl) (by kernel_rfl) Y Y (QL Y Gs (e13 _) (Qq Y (Qp Y (AM 1 hRj.rd.any Y A0 Ba Y Y Y (by omega)) (QL Y U3 (cb _) (QL Y Gs (e13 _) (Qq Y (Qp Y (AM 1 hRj.rd.any Y A0 Ba Y Y Y (by omega)) (QL Y U3 (cb _) (Qq Y (Qp Y (AM 0 hRj.rd.any Y A0 Ba Y Y Y (by omega)) (QL Y U3 (ca _) ?_)))))))))));unfold FK;simp only[cons_append,nil_append];refine AG [8,12] (by kernel_rfl) Y ?_;refine Ai Y ?_ ?_
       ·refine Qx (DV (V:=Lv) (z:=(Value.slice none 0 0)) b hu Bh hO (by simp) rfl Gs K6 rfl rfl hbI) rfl (Qw (Qo 12 rfl (Ar [_] rfl A0 Ba rfl (by rfl) rfl rfl (by omega) rfl rfl rfl (λg107=>Qw (Qo 13 rfl (AZ 1 hO1 (RdL.one Bl (x:=a) Mh rfl) rfl A0 Ba rfl (by omega) rfl rfl rfl Ck (by(try simp only[length_singleton]);omega) (by(try simp only[length_singleton]);omega) rfl rfl rfl (λv9 m9 hO9=>?_)))))));have ov9:=hO9.o1;refine Qw (Qo 14 Y (BS (V:=Lv) (z:=undef) 4 b v9 Bh hO Y Y Gs Y Y Y hbI Y Y (λmM' bs2 hM'=>Qw (Qe (AS (D8 λhap=>(Ez ?_)))))));have hdj:=(List.pairwise_cons.1 hap).1 _ Mh;have hMS':=close v9 _ m9 mM' bs2 hdj hO9 hM';rw[<-hjeq2,<-hsn]at hMS';refine Ak ?_;have hv':=(hvl I').1;rw[length_append,length_singleton]at hv';exact Am (M.length-(vis.length+1)) _ (by omega) ⟨vis++[j],mi',_,mM',by simp,rfl,rfl,rfl,I',hMS',λi hi' hv=>by rcases List.mem_append.1 hv with hv|hv;exact hz i hi' hv;simp at hv;subst hv;rw[hL];rfl⟩ Qs
       refine Ai Y ?_ ?_
       ·refine Ar [_] Y A0 Ba Y (by rfl) Y Y (by omega) Y Y Y (λg107=>Qw (Qo 8 Y (Qx (DV (V:=Lv) (z:=(Value.slice none 0 0)) b hu Bh hO (by simp) rfl Gs K6 rfl rfl hbI) rfl (Qw (Qo 13 rfl (AZ 1 hO1 (RdL.one Bl (x:=a) Mh rfl) rfl A0 Ba rfl (by omega) rfl rfl rfl Ck (by(try simp only[length_singleton]);omega) (by(try simp only[length_singleton]);omega) rfl rfl rfl (λv9 m9 hO9=>?_)))))));have ov9:=hO9.o1;refine Qw (Qo 14 Y (BS (V:=Lv) (z:=undef) 4 b v9 Bh hO Y Y Gs Y Y Y hbI Y Y (λmM' bs2 hM'=>Qw (Qe (AS (D8 λhap=>(Ez ?_)))))));have hdj:=(List.pairwise_cons.1 hap).1 _ Mh;have hMS':=close v9 _ m9 mM' bs2 hdj hO9 hM';rw[<-hjeq2,<-hsn]at hMS';refine Ak ?_;have hv':=(hvl I').1;rw[length_append,length_singleton]at hv';exact Am (M.length-(vis.length+1)) _ (by omega) ⟨vis++[j],mi',_,mM',by simp,rfl,rfl,rfl,I',hMS',λi hi' hv=>by rcases List.mem_append.1 hv with hv|hv;exact hz i hi' hv;simp at hv;subst hv;rw[hL];rfl⟩ Qs
       exact AH
   ·obtain⟨vis,mJB,mJ,rfl,rfl,rfl,hJS,hv1,hv2,hv3,h2⟩:=hI;refine Bt λh6 k6 fJB=>(Bt λh7 k7 fJ=>?_)
    have fJB7:=AI fJB k7;have l57:=AI k6 k7;refine Aw (CX (K:=kN) (V:=vB) (Ok:=BP) Y Y Y Y (λgS mS hS0=>By [.map none] Y XS Y Y (λg16=>Af 0 0 Y XS Y Y (by rfl) Y Y (by decide) Y Y (Ap (AB λh8 k8 hS16=>?_)))));have e16:∀ms,Cell h8 ms (⟨g16,0,none⟩:Addr) (.map (some gS)):=λms=>Seg.all hS16 0 _ Y ms;refine Aw (By [.nilFunc] Y Rc Y Y (λg17=>BN (Qx (BM Y Y Y) Y (Af 0 0 Y Rc Y Y (by rfl) Y Y (by decide) Y Y (Ap (AB λh9 k9 hS17=>?_))))));have e17:∀ms,Cell h9 ms (⟨g17,0,none⟩:Addr) (.func (.func 142) #[] #[.pointer (some ⟨g16,0,none⟩),.pointer (some ⟨g13,0,none⟩),.pointer (some ⟨g17,0,none⟩)]):=λms=>Seg.all hS17 0 _ Y ms;obtain⟨P,hP⟩:∃P,vis.map pr=P:=⟨_,Y⟩
    rw[hP]at hJS
    have hpm:∀p,p∈P<->∃j,∃hj:j<M.length,M[j].2=[p.1,p.2]:=λp=>by
     rw[<-hP,List.mem_map]
     have hpj:∀j (hj:j<M.length),M[j].2=[(pr j).1,(pr j).2]:=λj hj=>by
      have e:M.getD j (0,[])=M[j]:=by simp[List.getD,hj]
      simp only[pr];rw[e];have hl:=h2 j hj
      match M[j].2,hl with
      | [a,b],_=>rfl
     constructor
     ·rintro⟨j,hj,rfl⟩;exact⟨j,hv2 j hj,hpj j _⟩
     ·rintro⟨j,hj,e⟩;refine⟨j,hv3 j hj,?_⟩;have:=hpj j hj;rw[e]at this;simp only[List.cons.injEq,and_true]at this;exact Prod.ext this.1.symm this.2.symm
    have hMj:∀j (hj:j<M.length),(E.filter λe=>decide (e.2.1=M[j].1)).map (λe=>e.1)=M[j].2:=λj hj=>by have hg:M[j]?=some (M[j].1,M[j].2):=List.getElem?_eq_getElem hj;rw[<-hMg,Ed hMn hg];rfl
    have hcnt:∀e∈E,Fq E e.2.1=2:=λe he=>by obtain⟨l,v,hl⟩:=G0 ((hMk e.2.1).2 ⟨e,he,Y⟩);obtain⟨h1,e1⟩:=List.getElem?_eq_some_iff.1 hl;have h3:=hMj l h1;have h4:=h2 l h1;rw[<-h3,e1,length_map]at h4;rw[HZ];have h4:(E.filter λe'=>decide (e'.2.1=e.2.1)).length=2:=h4;omega
    have hJm:∀a k,k∈(Bj (EG P) a).getD []<->∃c p q,(E.filter λe=>decide (e.2.1=c)).map (λe=>e.1)=[p,q]/\((a=p/\k=q)\/(a=q/\k=p)):=λa k=>by
     rw[SX,hpm,hpm];constructor
     ·rintro(⟨j,hj,e⟩|⟨j,hj,e⟩)
      ·exact⟨M[j].1,a,k,by rw[hMj j hj,e],.inl ⟨rfl,rfl⟩⟩
      ·exact⟨M[j].1,k,a,by rw[hMj j hj,e],.inr ⟨rfl,rfl⟩⟩
     ·rintro⟨c,p,q,e,h⟩
      have hc:∃j,∃hj:j<M.length,M[j].2=[p,q]:=by
       have hm:c∈M.map Prod.fst:=(hMk c).2 (by
        have hpm:p∈(E.filter λe=>decide (e.2.1=c)).map (λe=>e.1):=by rw[e];exact Mh
        obtain⟨e',he',_⟩:=List.mem_map.1 hpm;obtain⟨h3,h4⟩:=List.mem_filter.1 he'
        exact⟨e',h3,of_decide_eq_true h4⟩)
       obtain⟨l,v,hl⟩:=G0 hm;obtain⟨h1,e1⟩:=List.getElem?_eq_some_iff.1 hl;refine⟨l,h1,?_⟩;rw[<-hMj l h1,e1];exact e
      obtain⟨j,hj,e2⟩:=hc;rcases h with ⟨rfl,rfl⟩|⟨rfl,rfl⟩
      ·exact .inl ⟨j,hj,e2⟩
      ·exact .inr ⟨j,hj,e2⟩
    have hPl:P.length<=4200:=by rw[<-hP,length_map];have:=RN E;rw[hM]at this;omega
    have V:Aao h9 gS gJ g16 g13 g17 mJ mJB (EG P) (λa=>(Bj (EG P) a).getD []) x.c.sd.length:=⟨λms=>(e16 ms).le k9,λms=>(e13 ms).le (AI l57 (AI k8 k9)),e17,hJS,AI fJ (AI k8 k9),AI fJB7 (AI k8 k9),λa=>rfl,λa k hk=>by
     obtain⟨c,p,q,e,h⟩:=(hJm a k).1 hk
     have hin:∀y∈[p,q],0<=y/\y<x.c.sd.length:=λy hy=>by rw[<-e]at hy;obtain⟨e',he',rfl⟩:=List.mem_map.1 hy;exact hEi e' (List.mem_filter.1 he').1
     rcases h with ⟨_,rfl⟩|⟨_,rfl⟩
     ·exact hin _ (List.mem_cons_of_mem _ Mh)
     ·exact hin _ Mh,λa=>by have:=LD P a;show((Bj (EG P) a).getD []).length<=_;omega,by omega⟩
    refine Aw (Ql Y W9 (e17 _) (E7 (pre:=[mS]) Y Y call142 Y (UH V (ZG x.c.sd.length []+1) 0 [] [] mS hK.p hS0 (λp hp=>nomatch hp) (Nat.lt_succ_self _)) Y Y Y Y (λv' h' pre' l' hF=>?_)));obtain⟨rfl,m',T',bs',rfl,hO',hA',R⟩:=hF;simp only[cons_append,nil_append,append_nil];refine Ap (Ac (Aw (Ql Y PL ((e16 _).le k9) (Qx (XZ hO' (by simp) rfl PL rfl) rfl ?_))));have hX9:=hX.up (AI lh4 (AI k5 (AI l57 (AI k8 k9))))
    have hmem:∀y,y∈DH T'<->Con E 0 y:=λy=>by
     rw[Xd hcnt hJm];constructor
     ·intro h;exact(R.new y h (λq=>nomatch q)).1.1
     ·intro h
      induction h with
      | refl=>exact R.me
      | step _ h3 ih=>exact(R.new _ ih (λq=>nomatch q)).1.2 _ h3
    have hlen:T'.length=x.c.sd.length<->(0<x.c.sd.length/\∀i:Nat,i<x.c.sd.length->Con E 0 i):=by
     have hnd:=hO'.keys
     have hsub:∀y∈DH T',y∈(range x.c.sd.length).map λ(i:Nat)=>(i:Int):=λy hy=>by have:=(R.new y hy (λq=>nomatch q)).2;exact List.mem_map.2 ⟨y.toNat,List.mem_range.2 (by omega),by omega⟩
     have hle:=Go.Kuhn.nodup_le _ _ hnd hsub;have hr:((range x.c.sd.length).map λ(i:Nat)=>(i:Int)).Nodup:=List.pairwise_map.2 (List.nodup_range.imp λh e=>h (by omega));constructor
     ·intro h;refine⟨hK.p,λi hi=>(hmem _).1 (Classical.byContradiction λhn=>?_)⟩
      have h3:=Go.Kuhn.nodup_le ((i:Int)::DH T') _ (List.nodup_cons.2 ⟨hn,hnd⟩) λy hy=>by
       rcases List.mem_cons.1 hy with rfl|hy
       ·exact List.mem_map.2 ⟨i,List.mem_range.2 hi,Y⟩
       ·exact hsub y hy
      rw[List.length_cons,length_map,length_map,length_range]at h3;omega
     ·rintro⟨_,h⟩
      have h3:=Go.Kuhn.nodup_le _ (DH T') hr λy hy=>by obtain⟨i,hi,rfl⟩:=List.mem_map.1 hy;exact(hmem _).2 (h i (List.mem_range.1 hi))
      rw[length_map,length_map,length_range]at h3;rw[length_map,length_map,length_range]at hle;omega
    refine Qf Bs Y (Ql Y BQ (((hA 2 _ Y _).le (AI lh4 (AI k5 (AI l57 (AI k8 k9)))))) (Qx (As hX9.rd.any Y BQ Y) Y (Qm Y (Ap ?_))));refine Ax Y (λhne=>?_) (λhne=>?_)
    ·refine Ac (Ad (Qm Y (Ap (Aq (Ae ?_)))));exact Az Y Y (by unfold UV;rw[if_neg (λw=>w hzero),if_neg (λw=>w hcnt),if_pos (λw=>hne (by rw[hlen.2 w]))])
    ·refine Aj (Ab (Aw (Qm Y (Ap (Aq ?_)))));exact Az Y Y (by unfold UV;rw[if_neg (λw=>w hzero),if_neg (λw=>w hcnt),if_neg (λw=>w (hlen.1 (by omega)))])
variable {U o:List Cl} {i:Nat}
theorem Ew{e:Entry}{Q:Exit->Act->World->Prop}{ops:Array Oper}{r:List Oper}{s:AF}{h:Hp}{ms:List Hp}(k:WL e ops Q r s h ms):∀pre:List Hp,WL e ops Q r s h (pre++ms)
 | []=>k
 | m::pre=>Sr 0 rfl (Ew k pre)
def JC(o:List Cl)(i:Nat):Int:=if i=0 then 0 else(o.getD (i-1) default).id
def cA(U o:List Cl)(i:Nat):Option (Int×Int):=
 if(o.getD i default).id<=JC o i then some ((o.getD i default).id,20)
 else if D0 U (o.getD i default)≠0 then some ((o.getD i default).id,D0 U (o.getD i default)) else none
noncomputable def Tw(U o:List Cl)(i:Nat):Option (Int×Int):=
 if 1<(o.getD i default).dim then
  if UV (I7 U (o.getD i default) (o.getD i default).sd.length) (o.getD i default).sd.length≠0 then some ((o.getD i default).id,UV (I7 U (o.getD i default) (o.getD i default).sd.length) (o.getD i default).sd.length) else none
 else none
noncomputable def Lm(U o:List Cl):Int×Int:=
 match (range o.length).findSome? (cA U o) with
 | some e=>e
 | none=>match (range o.length).findSome? (Tw U o) with
  | some e=>e
  | none=>(0,0)
theorem TO{e:Int×Int}(hi:i<o.length)(h:∀j,j<i->cA U o j=none)(he:cA U o i=some e):Lm U o=e:=by unfold Lm;rw[Dp h he o.length hi]
theorem Aaf{e:Int×Int}(hA:∀j,j<o.length->cA U o j=none)(hi:i<o.length)(h:∀j,j<i->Tw U o j=none)(he:Tw U o i=some e):Lm U o=e:=by unfold Lm;rw[Cq o.length hA,Dp h he o.length hi]
theorem Vh(hA:∀j,j<o.length->cA U o j=none)(hB:∀j,j<o.length->Tw U o j=none):Lm U o=(0,0):=by unfold Lm;rw[Cq o.length hA,Cq o.length hB]
structure AaG(l:List Ce):Prop extends OfOk l where
 d:∀a∈l,BP a.c.dim
 r:∀a∈l,∀s∈a.c.sd,BP s.1/\BP s.2
theorem L5{x:Cl}(h:D0 U x=0):(0<=x.dim/\x.dim<=8)/\¬B0 x/\(∀i,i<x.sd.length->¬Hz U x i)/\∀i,i<x.sd.length->¬BT x i:=by
 unfold D0 at h;split at h
 ·exact absurd h (by decide)
 rename_i h1;split at h
 ·exact absurd h (by decide)
 rename_i h2;split at h
 ·exact absurd h (by decide)
 rename_i h3;split at h
 ·exact absurd h (by decide)
 rename_i h4;exact⟨by omega,h2,Classical.not_not.1 h3,Classical.not_not.1 h4⟩
theorem IP(h:i<o.length):o.getD i default=o[i]:=by simp[List.getD,h]
theorem RR(hi:i<o.length)(h:cA U o i=none):JC o i<o[i].id/\D0 U o[i]=0:=by
 unfold cA at h;rw[IP hi]at h;split at h
 ·cases h
 ·rename_i h1;split at h
  ·cases h
  ·rename_i h2;exact⟨by omega,Classical.not_not.1 h2⟩
theorem ZA(h:∀j,j<o.length->cA U o j=none):o.Pairwise λa b=>a.id<b.id:=by
 have key:∀j (hj:j<o.length) i (hi:i<j),o[i].id<o[j].id:=λj=>by
  induction j with
  | zero=>intro hj i hi;omega
  | succ j ih=>
   intro hj i hi;have h1:=(RR hj (h _ hj)).1
   have h2:JC o (j+1)=o[j].id:=by unfold JC;rw[if_neg (by omega),Nat.add_sub_cancel,IP (by omega)]
   rw[h2]at h1;rcases (by omega:i<j\/i=j) with h3|rfl
   ·have:=ih (by omega) i h3;omega
   ·exact h1
 rw[List.pairwise_iff_getElem];intro i j hi hj hij;exact key j hj i hij
theorem AaZ{l o1 o2:List Cl}(C1:CanO l o1)(C2:CanO l o2)(hU:∀y∈U,y∈o1)(hr:∀a∈l,∀s∈a.sd,BP s.1/\BP s.2)(hA:∀j,j<o2.length->cA U o2 j=none){x:Cl}(hx:x∈o2)(hd:1<x.dim):X3 U x:=by
 have hnd:(l.map Cl.id).Nodup:=C2.ids.nodup_iff.1 (MZ (ZA hA))
 have hf:∀y∈o2,D0 U y=0:=λy hy=>by obtain⟨j,hj,rfl⟩:=getElem_of_mem hy;exact(RR hj (hA j hj)).2
 have hy2:∀y∈o2,y.sd.length<=64/\∀s∈y.sd,BP s.1/\(s.2=1\/s.2=-1):=λy hy=>by obtain⟨h1,h2,h3,h4⟩:=L5 (hf y hy);refine⟨by unfold B0 at h2;omega,λs hs=>?_⟩;obtain⟨i,hi,rfl⟩:=getElem_of_mem hs;have h5:=h4 i hi;unfold BT at h5;rw[Bp hi]at h5;obtain⟨a,ha,_,_,hp⟩:=C2.sim.mem y hy;exact⟨(hr a ha _ (hp.mem_iff.1 (getElem_mem hi))).1,by omega⟩
 have hyU:∀y∈U,y.sd.length<=64/\∀s∈y.sd,BP s.1/\(s.2=1\/s.2=-1):=λy hy=>by obtain⟨a,ha,_,_,hp⟩:=C1.sim.mem y (hU y hy);obtain⟨y',hy',_,_,hp'⟩:=C2.sim.to hnd ha;obtain⟨h1,h2⟩:=hy2 y' hy';refine⟨by rw[hp.length_eq,<-hp'.length_eq];exact h1,λs hs=>h2 s (hp'.mem_iff.2 (hp.mem_iff.1 hs))⟩
 have hcel:∀c,(FZ U c).sd.length<=64/\∀s∈(FZ U c).sd,BP s.1/\(s.2=1\/s.2=-1):=λc=>by
  unfold FZ H7;cases hc:U.find? λy=>decide (y.id=c) with
  | none=>exact⟨by simp[default,instInhabitedCl.default],λs hs=>by simp[default,instInhabitedCl.default]at hs⟩
  | some y=>exact hyU y (List.mem_of_find?_eq_some hc)
 obtain⟨h1,h2⟩:=hy2 x hx;obtain⟨_,h4,_,_⟩:=L5 (hf x hx);exact⟨h1,by unfold B0 at h4;omega,λi _=>(hcel _).1,λs hs=>h2 s hs,λi _ r hr=>(hcel _).2 r hr⟩
theorem Tp(l:List Ce)(v:Value)(hp:Hp)(hK:AaG l)(hR:RdC hp v l):FnT Tryz.prog 28 #[.agg #[v]] hp [] (λr _ _=>∃e,r=.tuple #[.int .i64 e.1,.int .i64 e.2]/\((4000<l.length/\e=(0,2))\/(l.length<=4000/\∃A1 A2:List Ce,CanO (l.map Ce.c) (A1.map Ce.c)/\CanO (l.map Ce.c) (A2.map Ce.c)/\e=Lm ((Qn A1).map Ce.c) (A2.map Ce.c)))):=by
 have o1:=hR.q.rd.one;refine Av func28 ntmps28 Y Y (λw0 hw0=>?_);simp only[A3];refine Aw (AY [_] Y Y (by rfl) Y Y Y (λg1=>Qm Y (Qm Y (Ap (AB λh1 l1 hS=>?_)))));have hR:=hR.up l1;refine Ac (Aw (Qf B3 Y (Ql Y A9 (Seg.all hS 0 _ Y _) (Qx (As hR.q.rd.any Y A9 Y) Y (Qm Y (Ap ?_))))));refine Ax Y (λh4=>?_) (λh4=>?_)
 ·refine Ac (Ad (Qm Y (Qm Y (Ap (Aq (Ae ?_))))));exact BA Y Y Y (⟨(0,2),Y,.inl ⟨by omega,Y⟩⟩)
 ·refine Aj (Ab (Aw (Qx (oG Y BJ AO (Seg.any hS)) Y (Qc call64 Y (Y3 l v h1 hK.toOfOk hR) (λrT h2 ms2 l2 hF=>?_)))));obtain⟨l2',rfl,g,A1,rfl,hC1,hT⟩:=hF;have hR2:=hR.up l2;have hS2:=hS.le l2;refine Qm Y (BN (Qx (oG Y BJ AO (Seg.any hS2)) Y (Qc call65 Y (Jo l v h2 hK.n hK.s hR2) (λrC h3 ms3 l3 hF=>?_))));obtain⟨l3',mA,A2,vA,rfl,rfl,hOA,hC2,hsA⟩:=hF;refine A5 hOA λhq l4 hQ=>?_;have hsA:=λa ha=>(hsA a ha).up l4;have hT:=hT.up (AI l3 l4);have ovA:=hQ.rd.one
  have hU1:∀y∈(Qn A1).map Ce.c,y∈A1.map Ce.c:=λy hy=>by
   obtain⟨a,ha,rfl⟩:=List.mem_map.1 hy;rcases JV _ _ a ha with h|h
   ·cases h
   ·exact List.mem_map.2 ⟨a,h,Y⟩
  obtain⟨W,hW⟩:∃W,Qn A1=W:=⟨_,Y⟩
  rw[hW]at hT hU1;have hol:A2.length=l.length:=by have:=hC2.len;rwa [length_map,length_map]at this
  have hln:=hK.n
  have hx2:∀a∈A2,∃b∈l,a.c.id=b.c.id/\a.c.dim=b.c.dim/\a.c.sd.Perm b.c.sd:=λa ha=>by obtain⟨y,hy,e1,e2,e3⟩:=hC2.sim.mem a.c (List.mem_map.2 ⟨a,ha,Y⟩);obtain⟨b,hb,rfl⟩:=List.mem_map.1 hy;exact⟨b,hb,e1,e2,e3⟩
  have hget:∀i (hi:i<A2.length),(A2.map Ce.c).getD i default=A2[i].c:=λi hi=>by simp[List.getD,hi]
  have hres:∀e,e=Lm (W.map Ce.c) (A2.map Ce.c)->(4000<l.length/\e=(0,2))\/(l.length<=4000/\∃A1 A2:List Ce,CanO (l.map Ce.c) (A1.map Ce.c)/\CanO (l.map Ce.c) (A2.map Ce.c)/\e=Lm ((Qn A1).map Ce.c) (A2.map Ce.c)):=λe he=>.inr ⟨by omega,A1,A2,hC1,hC2,by rw[he,hW]⟩;refine Qx (Cp Y BJ Y A9 Y Y Y) Y (Qm Y (Qm Y (Ap ?_)));refine A8 (λsl h' ms'=>sl=[(4,.pointer (some ⟨g,0,none⟩)),(6,vA)]/\hq.le h'/\ms'=[]/\∀j,j<A2.length->cA (W.map Ce.c) (A2.map Ce.c) j=none) ?_ (λs h ms hI=>?_)
  ·refine Ac (Ad (Qm Y (Qx (As hQ.rd.any Y A9 Y) Y (Qm Y (Ap (Ah ?_))))))
   refine AD (λq sl h' ms'=>∃(i:Nat),q=A2.length-i/\sl=[(4,.pointer (some ⟨g,0,none⟩)),(5,.int .i64 (JC (A2.map Ce.c) i)),(6,vA),(22,vA),(23,.int .i64 A2.length),(24,.int .i64 i)]/\hq.le h'/\ms'=[]/\i<=A2.length/\∀j,j<i->cA (W.map Ce.c) (A2.map Ce.c) j=none)
    (A2.length-0) _ ⟨0,rfl,rfl,B8,rfl,by omega,λj h=>by omega⟩ Qs ?_
   rintro q sl h5 ms' ⟨i,rfl,rfl,l5,rfl,hi,hno⟩;have hQ:=hQ.up l5;refine Aw (Qm Y (Ap (Ac ?_)));refine Ax Y (λhlt=>?_) (λhlt=>?_)
   ·have hil:i<A2.length:=by omega
    obtain⟨x,hx⟩:∃x,A2[i]=x:=⟨_,Y⟩
    have hxm:x∈A2:=by rw[<-hx];exact getElem_mem hil
    have hgx:=hget i hil;rw[hx]at hgx;obtain⟨b,hb,e1,e2,e3⟩:=hx2 x hxm;have hX:=(hsA x hxm).up l5;have hd:BP x.c.dim:=by rw[e2];exact hK.d b hb
    have hn:x.c.sd.length<=1000000:=by rw[e3.length_eq];exact hK.s b hb
    have hr:∀s∈x.c.sd,BP s.1/\BP s.2:=λs hs=>hK.r b hb s (e3.mem_iff.1 hs);have oxv:=hX.rd.one
    have hl1:JC (A2.map Ce.c) (i+1)=x.c.id:=by unfold JC;rw[if_neg (by omega),Nat.add_sub_cancel,hgx]
    have hcl:i<(A2.map Ce.c).length:=by rw[length_map];exact hil
    have hsx:∀ms,Seg h5 ms ((AJ vA).add (i*3)) (cC x):=λms=>by rw[<-hx];exact(hQ.any (ms:=ms)).seg hil
    refine Aj (Ab (Ac (Ah (Aw (Qx (BH (i) hQ.rd.any Y A9 AL Y Y) Y (Qx (oG Y D1 AL (hsx _)) Y (By [.int .i64 0,.int .i64 0,.slice none 0 0] Y AL Y Y (λg8=>?_))))))));refine Sa 0 [_,_,_] AL Y (by simp[o1,ovA,oxv]) ?_;refine Ap (AB λh6 l6 hS8=>?_);have e80:∀ms,Cell h6 ms (⟨g8,0,none⟩:Addr) (.int .i64 x.c.id):=λms=>Seg.all hS8 0 _ Y ms;have l56:=AI l5 l6;refine Ac (Aw (Qf Bq Y (Ql Y U3 (e80 _) (Qm Y (Qm Y (Ap ?_))))));refine Ax Y (λhle=>?_) (λhle=>?_)
    ·have hch:=TO (U:=W.map Ce.c) hcl hno (by unfold cA;rw[hgx,if_pos hle]);refine Aw (Qf Bq Y (Ql Y U3 (e80 _) (Qm Y (Qm Y (Ap (Aq (Ae (Al (Ae (Ae (Al (Ae ?_))))))))))));exact BA Y Y Y (⟨_,Y,hres _ hch.symm⟩)
    ·refine Aj (Ab (Aw (Qf Bq Y (Ql Y U3 (e80 _) (Qm Y (BN (Qm Y (Qx (oG Y D1 AL (Seg.any hS8)) Y (Qc call76 Y (Ye W x g h6 (hT.up l56) (hX.up l6) hd hn hr) (λrF h7 ms7 l7 hF=>?_))))))))));subst hF;refine Ew ?_ ms7;have e80:∀ms,Cell h7 ms (⟨g8,0,none⟩:Addr) (.int .i64 x.c.id):=λms=>(e80 ms).le l7;refine Qm Y (BN (Qm Y (Qm Y (Ap ?_))));refine Ax Y (λhne=>?_) (λhne=>?_)
     ·have hch:=TO (U:=W.map Ce.c) hcl hno (by unfold cA;rw[hgx,if_neg hle,if_pos hne]);refine Aw (Qf Bq Y (Ql Y U3 (e80 _) (Qm Y (Qm Y (Qm Y (Ap (Aq (Al (Ae (Ae (Al (Ae ?_))))))))))));exact BA Y Y Y (⟨_,Y,hres _ hch.symm⟩)
     ·have hci:cA (W.map Ce.c) (A2.map Ce.c) i=none:=by unfold cA;rw[hgx,if_neg hle,if_neg hne]
      refine Aj (Ak (Ab (Ad (Qx (oA Y) Y (Qm Y (An ?_))))))
      exact Am (A2.length-(i+1)) _ (by omega) ⟨i+1,Y,by rw[hl1],AI l56 l7,rfl,by omega,λj hj=>by
       rcases (by omega:j<i\/j=i) with h1|rfl
       ·exact hno j h1
       ·exact hci⟩ Qs
   ·obtain rfl:i=A2.length:=by omega
    refine Ay (Aa (Aa (Ag ?_)));exact Ao _ ⟨Y,l5,Y,hno⟩ Qs
  ·obtain⟨rfl,l5,rfl,hno⟩:=hI;have hno':∀j,j<(A2.map Ce.c).length->cA (W.map Ce.c) (A2.map Ce.c) j=none:=λj hj=>hno j (by rwa [length_map]at hj);have hQ:=hQ.up l5;have hT:=hT.up l5;have hsA:=λa ha=>(hsA a ha).up l5;refine Ac (Aw (Qm Y (Qx (As hQ.rd.any Y A9 Y) Y (Qm Y (Ap (Ah ?_))))))
   refine AD (λq sl h' ms'=>∃(i:Nat),q=A2.length-i/\sl=[(4,.pointer (some ⟨g,0,none⟩)),(45,vA),(46,.int .i64 A2.length),(47,.int .i64 i)]/\h.le h'/\ms'=[]/\i<=A2.length/\∀j,j<i->Tw (W.map Ce.c) (A2.map Ce.c) j=none)
    (A2.length-0) _ ⟨0,rfl,rfl,B8,rfl,by omega,λj h=>by omega⟩ Qs ?_
   rintro q sl h6 ms' ⟨i,rfl,rfl,l6,rfl,hi,hnB⟩;have hQ:=hQ.up l6;refine Aw (Qm Y (Ap (Ac ?_)));refine Ax Y (λhlt=>?_) (λhlt=>?_)
   ·have hil:i<A2.length:=by omega
    obtain⟨x,hx⟩:∃x,A2[i]=x:=⟨_,Y⟩
    have hxm:x∈A2:=by rw[<-hx];exact getElem_mem hil
    have hgx:=hget i hil;rw[hx]at hgx;have hX:=(hsA x hxm).up l6;have oxv:=hX.rd.one;have hcl:i<(A2.map Ce.c).length:=by rw[length_map];exact hil
    have hsx:∀ms,Seg h6 ms ((AJ vA).add (i*3)) (cC x):=λms=>by rw[<-hx];exact(hQ.any (ms:=ms)).seg hil
    have hstep:Tw (W.map Ce.c) (A2.map Ce.c) i=none->∀j,j<i+1->Tw (W.map Ce.c) (A2.map Ce.c) j=none:=λh j hj=>by
     rcases (by omega:j<i\/j=i) with h1|rfl
     ·exact hnB j h1
     ·exact h
    refine Aj (Ab (Ac (Ah (Aw (Qx (BH (i) hQ.rd.any Y A9 AL Y Y) Y (Qx (oG Y D1 AL (hsx _)) Y (By [.int .i64 0,.int .i64 0,.slice none 0 0] Y AL Y Y (λg11=>?_))))))));refine Sa 0 [_,_,_] AL Y (by simp[o1,ovA,oxv]) ?_;refine Ap (AB λh7 l7 hS11=>?_);have e110:∀ms,Cell h7 ms (⟨g11,0,none⟩:Addr) (.int .i64 x.c.id):=λms=>Seg.all hS11 0 _ Y ms;have e111:∀ms,Cell h7 ms (⟨g11,1,none⟩:Addr) (.int .i64 x.c.dim):=λms=>Seg.all hS11 1 _ Y ms;have l67:=AI l6 l7;refine Aw (Qf BV Y (Ql Y U3 (e111 _) (Qm Y (Ap ?_))));refine Ax Y (λhd=>?_) (λhd=>?_)
    ·have hAr:X3 (W.map Ce.c) x.c:=AaZ hC1 hC2 hU1 (λa ha s hs=>by
      obtain⟨b,hb,rfl⟩:=List.mem_map.1 ha
      exact hK.r b hb s hs) hno' (List.mem_map.2 ⟨x,hxm,Y⟩) hd
     refine Aw (Qm Y (Qx (oG Y D1 AL (Seg.any hS11)) Y (Qc call77 Y (Sk W x g h7 (hT.up l67) (hX.up l7) hAr) (λrF h8 ms8 l8 hF=>?_))));subst hF;refine Ew ?_ ms8;have e110:∀ms,Cell h8 ms (⟨g11,0,none⟩:Addr) (.int .i64 x.c.id):=λms=>(e110 ms).le l8;refine Qm Y (BN (Qm Y (Qm Y (Ap ?_))));refine Ax Y (λhne=>?_) (λhne=>?_)
     ·have hch:=Aaf (U:=W.map Ce.c) hno' hcl hnB (by unfold Tw;rw[hgx,if_pos hd,if_pos hne]);refine Aw (Qf Bq Y (Ql Y U3 (e110 _) (Qm Y (Qm Y (Qm Y (Ap (Aq (Al (Ae (Ae (Al (Ae ?_))))))))))));exact BA Y Y Y (⟨_,Y,hres _ hch.symm⟩)
     ·have hci:Tw (W.map Ce.c) (A2.map Ce.c) i=none:=by unfold Tw;rw[hgx,if_pos hd,if_neg hne]
      refine Aj (Ak (Ab (Ad (Qx (oA Y) Y (Qm Y (An ?_))))));exact Am (A2.length-(i+1)) _ (by omega) ⟨i+1,Y,Y,AI l67 l8,Y,by omega,hstep hci⟩ Qs
    ·have hci:Tw (W.map Ce.c) (A2.map Ce.c) i=none:=by unfold Tw;rw[hgx,if_neg hd]
     refine Aj (Ak (Ab (Ad (Qx (oA Y) Y (Qm Y (An ?_))))));exact Am (A2.length-(i+1)) _ (by omega) ⟨i+1,Y,Y,l67,Y,by omega,hstep hci⟩ Qs
   ·obtain rfl:i=A2.length:=by omega
    have hch:=Vh hno' (λj hj=>hnB j (by rwa [length_map]at hj));refine Ay (Aa (Aa (Ag (Ab (Aw (Qm Y (Qm Y (Ap (Aq ?_)))))))));exact BA Y Y Y (⟨(0,0),Y,hres _ hch.symm⟩)
end Go.Proofs.Q
namespace Go.Proofs.Q
open Go.Proofs.Tryz
open Go.Eng Go.RowKit
variable {l:List Ce} {o:List Cl} {x c:Cl}
theorem TR(U:List Cl)(x:Cl):Fy U x=(I7 U x x.sd.length).map λe=>((Bv x e.1.toNat).1,e.2):=by
 have hx:x.sd=(range x.sd.length).map (Bv x):=List.ext_getElem (by simp) λj h1 h2=>by simp[Bp h1]
 unfold Fy Kh
 conv=>lhs;rw[hx]
 unfold I7;rw[List.flatMap_map,List.map_flatMap];refine DW λi hi=>?_;unfold UD;rw[map_map];exact List.map_congr_left λr _=>by simp
theorem VD(E:Gd)(f:Int->Int)(c:Int):Eb (E.map λe=>(f e.1,e.2)) c=Eb E c/\Fq (E.map λe=>(f e.1,e.2)) c=Fq E c:=by unfold Eb Fq;rw[map_map,map_map];exact⟨Y,Y⟩
theorem Yn{U:List Cl}(G:GoodT (Fy U x) x.sd)(hn:0<x.sd.length)(hd:(x.sd.map Prod.fst).Nodup):UV (I7 U x x.sd.length) x.sd.length=0:=by
 have hT:=TR U x;obtain⟨E,hE⟩:∃E,I7 U x x.sd.length=E:=⟨_,Y⟩
 have hi:∀e∈E,∃i:Nat,i<x.sd.length/\e.1=(i:Int):=λe he=>by rw[<-hE]at he;obtain⟨i,hi,r,_,rfl⟩:=ML he;exact⟨i,hi,Y⟩
 rw[hE]at hT ⊢;rw[hT]at G;have hsm:=λc=>VD E (λk=>(Bv x k.toNat).1) c
 have h1:∀e∈E,Eb E e.2.1=0:=λe he=>by have h:=G.sum ((Bv x e.1.toNat).1,e.2) (List.mem_map.2 ⟨e,he,Y⟩);rw[(hsm _).1]at h;exact h
 have h2:∀e∈E,Fq E e.2.1=2:=λe he=>by have h:=G.two ((Bv x e.1.toNat).1,e.2) (List.mem_map.2 ⟨e,he,Y⟩);rw[(hsm _).2]at h;exact h
 have hinj:∀i j:Nat,i<x.sd.length->j<x.sd.length->(Bv x i).1=(Bv x j).1->i=j:=λi j hi hj e=>by
  rcases Nat.lt_trichotomy i j with h|h|h
  ·exact absurd e (IC hd i j h hj)
  ·exact h
  ·exact absurd e.symm (IC hd j i h hi)
 have hcon:∀{u v:Int},Con (E.map λe=>((Bv x e.1.toNat).1,e.2)) u v->∀i:Nat,i<x.sd.length->u=(Bv x i).1->∃j:Nat,j<x.sd.length/\v=(Bv x j).1/\Con E i j:=λ{u v} h=>by
  induction h with
  | refl=>intro i hi e;exact⟨i,hi,e,.refl _⟩
  | @step b d c w w' _ m1 m2 ih=>
   intro i hi0 e;obtain⟨j,hj,e1,C⟩:=ih i hi0 e;obtain⟨p,hp,q1⟩:=List.mem_map.1 m1;obtain⟨p',hp',q2⟩:=List.mem_map.1 m2;obtain⟨k,hk,ek⟩:=hi p hp;obtain⟨k',hk',ek'⟩:=hi p' hp';rw[ek]at q1;rw[ek']at q2;have a1:=(Prod.mk.injEq _ _ _ _ ▸ q1:_/\_)
   have a2:=(Prod.mk.injEq _ _ _ _ ▸ q2:_/\_)
   obtain⟨b1,b2⟩:=a1;obtain⟨b1',b2'⟩:=a2;rw[Int.toNat_natCast]at b1 b1';have hkj:k=j:=hinj k j hk hj (by rw[b1,e1]);subst hkj;refine⟨k',hk',b1'.symm,.step C (c:=c) (w:=w) (w':=w') ?_ ?_⟩
   ·have:p=((k:Int),c,w):=by rw[<-ek,<-b2]
    rw[<-this];exact hp
   ·have:p'=((k':Int),c,w'):=by rw[<-ek',<-b2']
    rw[<-this];exact hp'
 have h3:0<x.sd.length/\∀i:Nat,i<x.sd.length->Con E 0 i:=by refine⟨hn,λi hi'=>?_⟩;have hc:=G.con (Bv x 0) (by rw[Bp hn];exact getElem_mem hn) (Bv x i) (by rw[Bp hi'];exact getElem_mem hi');obtain⟨j,hj,e,C⟩:=hcon hc 0 hn Y;rw[hinj i j hi' hj e];exact C
 unfold UV;rw[if_neg (λw=>w h1),if_neg (λw=>w h2),if_neg (λw=>w h3)]
theorem Yw:WI x x.sd.length=(x.sd.map Prod.snd).sum:=by unfold WI;rw[take_length]
theorem Wo(R:Rgt o)(hx:x∈o):D0 o x=0:=by
 have hb:∀i,i<x.sd.length->¬Hz o x i:=λi hi q=>by
  obtain⟨y,hy,e1,e2⟩:=R.sid x hx _ (getElem_mem hi);unfold Hz at q;rw[Bp hi,<-e1,Dh R.nd hy,CS R.nd hy]at q;rcases q with q|q|⟨q1,q2⟩
  ·cases q
  ·exact q e2
  ·rw[e1,<-Bp hi]at q2;exact IC (R.sds x hx) (i-1) i (by omega) hi q2
 have hs:∀i,i<x.sd.length->¬BT x i:=λi hi q=>by unfold BT at q;rw[Bp hi]at q;have:=R.sgn x hx _ (getElem_mem hi);omega
 unfold D0
 rw[if_neg (by have:=R.dim x hx;omega),if_neg (R.num x hx),if_neg (λw=>w hb),if_neg (λw=>w hs),if_neg λq=>by
  have:=R.one x hx q.1;rw[Yw]at q
  exact q.2 this]
theorem UJ(R:RgtF o):Lm o o=(0,0):=by
 have G:=R.rgt;refine Vh (λj hj=>?_) λj hj=>?_
 ·unfold cA;rw[IP hj,if_neg,if_neg]
  ·exact λq=>q (Wo G (getElem_mem hj))
  ·unfold JC;split
   ·have:=G.pos _ (getElem_mem hj);omega
   ·rw[IP (by omega)];have:=List.pairwise_iff_getElem.1 R.inc (j-1) j (by omega) hj (by omega);omega
 ·unfold Tw;rw[IP hj];split
  ·rename_i hd;have hx:=getElem_mem hj;have hnum:=G.num _ hx;unfold B0 at hnum;rw[if_neg];exact λq=>q (Yn (G.tab _ hx (by omega)) (by omega) (G.sds _ hx))
  ·rfl
structure RgC(l:List Ce):Prop where
 r:Rgt (l.map Ce.c)
 i:∀a∈l,a.c.id<=1000000
def cn(l:List Ce):List Cl:=ordF (l.map Ce.c)
theorem C6(l:List Ce):(cn l).length=l.length:=by unfold cn;rw[Fc,length_map]
theorem RgC.F(R:RgC l):RgtF (cn l):=R.r.ordF
theorem CanO.ord{l:List Cl}(C:CanO l o)(R:Rgt l):o=ordF l:=by
 have F:=R.ordF;have hp:=Dc l.length l (Nat.le_refl _);obtain⟨l',h1,h2,h3⟩:=C.mem;have hinc:=F.inc
 have hm:(o.map Cl.id)=(ordF l).map Cl.id:=by refine Dr id (C.ids.trans ?_) (List.pairwise_map.2 C.inc) (List.pairwise_map.2 hinc);have:=(hp.map Cl.id).symm;rw[map_map]at this;exact this
 have hlen:o.length=(ordF l).length:=by have:=congrArg List.length hm;simpa using this
 refine List.ext_getElem hlen λi h1' h2'=>?_;obtain⟨a1,a2,a3,a4⟩:=h3 i h1' (by omega)
 have e1:o[i].id=(ordF l)[i].id:=by have:=List.getElem_of_eq hm (i:=i) (by simpa using h1');simpa using this
 have hxl:l'[i]'(by omega)∈l:=h1.mem_iff.1 (getElem_mem _);obtain⟨z,hz,ez⟩:=G7 (getElem_mem h2')
 have hzz:z=l'[i]'(by omega):=by
  have b1:=Dh R.nd hz;have b2:=Dh R.nd hxl;have:z.id=(l'[i]'(by omega)).id:=by rw[<-a1,e1,ez];rfl
  rw[this,b2]at b1;exact(Option.some.inj b1).symm
 have hs:o[i].sd=(ordF l)[i].sd:=by refine Dr Prod.fst (a3.trans ?_) a4 (F.sinc _ (getElem_mem h2'));rw[ez,hzz];exact(BY _).symm
 have hd:o[i].dim=(ordF l)[i].dim:=by rw[a2,ez,hzz];rfl
 revert e1 hs hd;generalize o[i]=x;generalize (ordF l)[i]=y;cases x;cases y;intro e1 hs hd;simp only at e1 hs hd;rw[e1,hs,hd]
theorem RgtF.ordF(R:RgtF o):ordF o=o:=by
 have e1:o.map Cl.can=o:=by
  have:∀l:List Cl,(∀x∈l,x∈o)->l.map Cl.can=l:=λl=>by
   induction l with
   | nil=>intro _;rfl
   | cons a l ih=>
    intro h;have e:Cd a.sd=a.sd:=Dr Prod.fst (BY _) (E8 _) (R.sinc a (h a Mh));rw[map_cons,ih λx hx=>h x (List.mem_cons_of_mem _ hx)];unfold Cl.can;rw[e]
  exact this o λx hx=>hx
 have h2:=Dc o.length o (Nat.le_refl _);rw[e1]at h2;exact Dr Cl.id h2 (Dx _ _ (Nat.le_refl _)) R.inc
theorem Nl(R:RgtF (l.map Ce.c)):cn l=l.map Ce.c:=R.ordF
theorem Uk(h:c∈cn l):∃b∈l,c=b.c.can:=by obtain⟨a,ha,e⟩:=G7 h;obtain⟨b,hb,rfl⟩:=List.mem_map.1 ha;exact⟨b,hb,e⟩
theorem RgC.ci(R:RgC l)(h:c∈cn l):c.id<=1000000:=by obtain⟨b,hb,rfl⟩:=Uk h;exact R.i b hb
theorem RgC.cI(R:RgC l)(h:c∈cn l):BP c.id:=by have:=R.ci h;have:=R.F.rgt.pos _ h;unfold BP;omega
theorem Rgt.bds{l:List Cl}(R:Rgt l)(hx:x∈l):(0<=x.dim/\x.dim<=8)/\x.sd.length<=64:=by have h1:=R.dim x hx;have h2:=R.num x hx;unfold B0 at h2;omega
theorem RgC.pc(R:RgC l):AaG l:=by
 have G:=R.r;have hm:∀a∈l,a.c∈l.map Ce.c:=λa ha=>List.mem_map.2 ⟨a,ha,Y⟩;have hid:∀a∈l,BP a.c.id:=λa ha=>by have:=G.pos _ (hm a ha);have:=R.i a ha;unfold BP;omega
 have hn:=G.n;rw[length_map]at hn;refine⟨⟨by omega,λa ha=>?_,hid⟩,λa ha=>?_,λa ha s hs=>?_⟩
 ·have:=(G.bds (hm a ha)).2;omega
 ·have:=(G.bds (hm a ha)).1;unfold BP;omega
 ·obtain⟨y,hy,e,_⟩:=G.sid _ (hm a ha) s hs;obtain⟨b,hb,rfl⟩:=List.mem_map.1 hy;have h2:=G.sgn _ (hm a ha) s hs;rw[<-e];exact⟨hid b hb,by unfold BP;omega⟩
theorem YQ{A:List Ce}(h:A.map Ce.c=o)(hn:(o.map Cl.id).Nodup):(A.map λa=>a.c.id).Nodup:=by rw[<-h,map_map]at hn;exact hn
theorem I6(l:List Ce)(v:Value)(hp:Hp)(hK:RgC l)(hR:RdC hp v l):FnT Tryz.prog 28 #[.agg #[v]] hp [] (λr _ _=>r=.tuple #[.int .i64 0,.int .i64 0]):=by
 refine(Tp l v hp hK.pc hR).mono λr _ _ h=>?_;obtain⟨e,rfl,h⟩:=h;have hn:=hK.r.n;rw[length_map]at hn;have hF:=hK.F;rcases h with ⟨h,_⟩|⟨_,A1,A2,C1,C2,rfl⟩
 ·omega
 ·have e1:=C1.ord hK.r;have e2:=C2.ord hK.r;rw[Ur (YQ e1 hF.rgt.nd),e1,e2];have:=UJ hF;unfold cn at this;rw[this]
theorem Dz(l:List Ce)(v:Value)(hp:Hp)(hK:RgC l)(hR:RdC hp v l):FnT Tryz.prog 65 #[.agg #[v]] hp [] (λr h' ms'=>hp.le h'/\∃m A v',ms'=[m]/\r=.agg #[v']/\OwnL cC 3 52 m v' A/\A.map Ce.c=cn l/\∀a∈A,RdL cD 2 h' [] a.v a.c.sd):=by refine(Jo l v hp hK.pc.n hK.pc.s hR).mono λr h' ms' h=>?_;obtain⟨h1,m,A,v',h2,h3,h4,h5,h6⟩:=h;exact⟨h1,m,A,v',h2,h3,h4,h5.ord hK.r,h6⟩
theorem AK(l:List Ce)(v:Value)(hp:Hp)(hK:RgC l)(hR:RdC hp v l):FnT Tryz.prog 64 #[.agg #[v]] hp [] (λr h' ms'=>hp.le h'/\ms'=[]/\∃g A,r=.pointer (some ⟨g,0,none⟩)/\A.map Ce.c=cn l/\RdT h' g A):=by refine(Y3 l v hp hK.pc.toOfOk hR).mono λr h' ms' h=>?_;obtain⟨h1,h2,g,A,h3,h4,h5⟩:=h;have e:A.map Ce.c=cn l:=h4.ord hK.r;rw[Ur (YQ e hK.F.rgt.nd)]at h5;exact⟨h1,h2,g,A,h3,e,h5⟩
theorem UZ(l:List Ce)(v:Value)(i:Int)(hp:Hp)(hK:RgC l)(hi:BP i)(hR:RdC hp v l):FnT Tryz.prog 21 #[.agg #[v],.int .i64 i] hp [] (λr h' ms'=>hp.le h'/\∃y,r=.tuple #[vC y,.bool (H7 (cn l) i).isSome]/\y.c=FZ (cn l) i/\RdL cD 2 h' [] y.v y.c.sd):=by
 have o1:=hR.q.rd.one;refine Av func21 ntmps21 Y Y (λw0 hw0=>?_);simp only[A3];refine Aw (AY [_] Y Y (by rfl) Y Y Y (λg2=>By [.int .i64 0,.int .i64 0,.slice none 0 0] Y AL Y Y (λg4=>Qm Y (Ap (Bk 1 Y λh1 l1 hS=>?_)))));have hR:=hR.up l1;refine Aw (Qx (oG Y BJ AO (Seg.any hS)) Y (Qc call64 Y (AK l v h1 hK hR) (λrT h2 ms2 l2 hF=>?_)));obtain⟨l2',rfl,g,A,rfl,hA,gm,mMt,bst,vids,hSg,hMt,lmt,hVt,hsU⟩:=hF;have eT:∀ms,Cell h2 ms (⟨g,0,none⟩:Addr) (.map (some gm)):=λms=>Seg.all hSg 0 _ Y ms;obtain⟨y,hy⟩:∃y,(Bj (E4 A) i).getD default=y:=⟨_,Y⟩
 obtain⟨bb,hbb⟩:∃bb,(Bj (E4 A) i).isSome=bb:=⟨_,Y⟩
 have hyR:=Mr hsU i;rw[hy]at hyR;have hbb':(H7 (cn l) i).isSome=bb:=by rw[<-hA,<-KH];exact hbb
 have hyc:y.c=FZ (cn l) i:=by rw[<-hA,<-Hm,hy]
 have oy:=hyR.rd.one;refine Qm Y (Qf DO Y (Ql Y EY (eT _) (Qm Y (Qx (DD (V:=vC) (z:=(default:Ce)) i hy hbb Bh hMt lmt Y EY HK Y Y hi) Y (Qm Y (Qm Y (Qm Y (By [.int .i64 0,.int .i64 0,.slice none 0 0] Y AL Y Y (λg6=>?_)))))))));refine Sa 0 [_,_,_] AL Y (by simp[o1,oy]) ?_;refine Qm Y (BN (Qx (oG Y D1 AL (Seg.blk 0 Y)) Y (Qm Y ?_)));refine Sa 1 [_,_,_] AL Y (by simp[o1,oy]) ?_;refine Qm Y (Ap (Aq ?_));exact Gh (vs:=[_,_,_]) 1 Y Y Y D1 Y AL Y Y (⟨AI l1 l2,y,by rw[hbb'];rfl,hyc,hyR⟩)
end Go.Proofs.Q

namespace Go.Proofs.Q
open Go.Proofs.Tryz
open Go.Eng Go.RowKit
def cV(p:Int×Int):List Value:=[.int .i64 p.1,.int .i64 p.2]
theorem M8:∀p,(cV p).length=2:=λ_=>rfl
theorem Za:∀a,∀c∈cV a,c.oneCell'=true:=λa c hc=>by simp only[cV,mem_cons,not_mem_nil,or_false]at hc;rcases hc with rfl|rfl<;>rfl
def BI(F:List (Int×Int)):List (Int×Int):=F.foldl (λT p=>C0 T p.1 p.2) []
theorem I9(F:List (Int×Int))(p:Int×Int):BI (F++[p])=C0 (BI F) p.1 p.2:=by unfold BI;rw[List.foldl_append];rfl
def GO(F:List (Int×Int))(c:Int):Int:=(Bj (BI F) c).getD 0
theorem LN(c:Int):∀F:List (Int×Int),c∈(BI F).map Prod.fst<->c∈F.map Prod.fst:=Dt (by simp[BI]) λF p ih=>by rw[I9,DJ,ih,map_append,List.mem_append];simp only[map_cons,List.map_nil,List.mem_singleton];exact⟨λq=>q.symm,λq=>q.symm⟩
theorem Kt{c x:Int}:∀{F:List (Int×Int)},(F.map Prod.fst).Nodup->(c,x)∈F->GO F c=x:=λ{F}=>by
 revert F
 have:∀F:List (Int×Int),(F.map Prod.fst).Nodup->(c,x)∈F->GO F c=x:=Dt (λ_ h=>nomatch h) λF p ih hn hm=>by
  rw[map_append,List.nodup_append]at hn;unfold GO;rw[I9,DB];rcases List.mem_append.1 hm with hm|hm
  ·have hne:c≠p.1:=λe=>hn.2.2 c (List.mem_map.2 ⟨_,hm,Y⟩) p.1 (by simp) e;rw[if_neg hne];exact ih hn.1 hm
  ·rw[<-List.mem_singleton.1 hm,if_pos rfl];rfl
 exact λ{F}=>this F
theorem Je(F:List (Int×Int))(v:Value)(h:Hp)(hR:RdL cV 2 h [] v F)(hn:F.length<=1000000)(hk:∀p∈F,BP p.1):FnT Tryz.prog 66 #[v] h [] (λr h' ms'=>h.le h'/\∃g m bs,r=.map (some g)/\ms'=[m]/\CC kN kN g BP m (BI F) bs):=by
 have o1:=hR.rd.one;refine Av func66 ntmps66 Y Y (λw0 hw0=>?_);simp only[A3];refine Aw (Qm Y (BN (CX (K:=kN) (V:=kN) (Ok:=BP) Y Y Y Y (λgA mA hA0=>Qm Y (Ap (Ac (Aw (Qm Y (Qx (As hR.rd.any Y Ny Y) Y (Qm Y (Ap (Ah ?_))))))))))))
 refine AD (λq sl h' ms'=>∃(i:Nat) (mA:Hp) (bs:List Nat),q=F.length-i/\sl=[(3,.map (some gA)),(7,v),(8,.int .i64 F.length),(9,.int .i64 i)]/\h.le h'/\ms'=[mA]/\i<=F.length/\CC kN kN gA BP mA (BI (F.take i)) bs)
  (F.length-0) _ ⟨0,mA,[],rfl,rfl,B8,rfl,by omega,hA0⟩ Qs ?_
 rintro q sl h2 ms' ⟨i,mA,bs,rfl,rfl,l2,rfl,hi,hO⟩;have hR:=hR.up l2;refine Aw (Qm Y (Ap (Ac ?_)));refine Ax Y (λhlt=>?_) (λhlt=>?_)
 ·have hil:i<F.length:=by omega
  obtain⟨p,hp⟩:∃p,F[i]=p:=⟨_,Y⟩
  have hpI:BP p.1:=hk p (by rw[<-hp];exact getElem_mem hil);have hsx:∀ms,Seg h2 ms ((AJ v).add (i*2)) (cV p):=λms=>by rw[<-hp];exact(hR.any (ms:=ms)).seg hil
  have hs:=I9 (F.take i) p;rw[<-hp,<-List.take_succ_eq_append_getElem hil,hp]at hs;refine Aj (Ab (Ac (Ah (Aw (Qx (BH (i) hR.rd.any Y Ny EV Y Y) Y (Qx (oG Y U47 EV (hsx _)) Y (By [.int .i64 0,.int .i64 0] Y EV Y Y (λg5=>?_))))))));refine Sa 0 [_,_] EV Y (by simp[Value.oneCell']) ?_;refine Ap (AB λh3 l3 hS5=>?_);have e0:∀ms,Cell h3 ms (⟨g5,0,none⟩:Addr) (.int .i64 p.1):=λms=>Seg.all hS5 0 _ Y ms;have e1:∀ms,Cell h3 ms (⟨g5,1,none⟩:Addr) (.int .i64 p.2):=λms=>Seg.all hS5 1 _ Y ms;refine Ad (Qm Y (Qf Fl Y (Ql Y U3 (e0 _) (Qf Pz Y (Ql Y U3 (e1 _) (BS (V:=kN) (z:=undef) 0 p.1 p.2 Bh hO Y Y Ll Y Y Y hpI Y Y (λmA' bs' hO'=>?_)))))));rw[<-hs]at hO';refine An (Ak (Ab (Ad (Qx (oA Y) Y (Qm Y (An ?_))))));exact Am (F.length-(i+1)) _ (by omega) ⟨i+1,mA',bs',Y,Y,AI l2 l3,Y,by omega,hO'⟩ Qs
 ·obtain rfl:i=F.length:=by omega
  rw[take_length]at hO;refine Ay (Aa (Aa (Ag (Ab (Aw (Qm Y (Qm Y (Ap (Aq ?_)))))))));exact Az Y Y (⟨l2,gA,mA,bs,Y,Y,hO⟩)
def Nv(l:List (Int×Int))(pr:Int×Int->Bool):Int:=match l.findIdx? pr with|some k=>(k:Int)|none=>-1
theorem SD{l:List (Int×Int)}{pr:Int×Int->Bool}{k:Nat}(hk:k<l.length)(h:pr l[k]=true)(hno:∀j (hj:j<l.length),j<k->pr l[j]=false):Nv l pr=k:=by unfold Nv;have:l.findIdx? pr=some k:=List.findIdx?_eq_some_iff_getElem.2 ⟨hk,h,λj hj=>by rw[hno j (by omega) hj];simp⟩;rw[this]
theorem To{l:List (Int×Int)}{pr:Int×Int->Bool}(hno:∀j (hj:j<l.length),pr l[j]=false):Nv l pr=-1:=by
 unfold Nv
 have:l.findIdx? pr=none:=List.findIdx?_eq_none_iff.2 λx hx=>by obtain⟨j,hj,rfl⟩:=getElem_of_mem hx;exact hno j hj
 rw[this]
theorem UW(l:List (Int×Int))(pr:Int×Int->Bool):0<=Nv l pr<->∃s∈l,pr s=true:=by
 unfold Nv;cases h:l.findIdx? pr with
 | none=>
  rw[List.findIdx?_eq_none_iff]at h;constructor
  ·intro q;exact absurd q (by decide)
  ·rintro⟨s,hs,q⟩;rw[h s hs]at q;cases q
 | some k=>
  obtain⟨hk,h1,_⟩:=List.findIdx?_eq_some_iff_getElem.1 h;exact⟨λ_=>⟨_,getElem_mem hk,h1⟩,λ_=>by show(0:Int)<=(k:Int);omega⟩
theorem Te(l:List (Int×Int))(vl:Value)(cf:FuncId)(cs:List Value)(pr:Int×Int->Bool)(h:Hp)(hR:RdL cD 2 h [] vl l)(hn:l.length<=1000000)
  (hc:∀xs w,(callFunc cf xs).run Tryz.prog w=.ok (.enter cf xs) w)
  (hp:∀s∈l,∀ms,FnV Tryz.prog cf ([]++[Value.agg (cD s).toArray]++cs).toArray h ms (.bool (pr s))) :
  FnT Tryz.prog 138 #[vl,.func (.func cf) #[] cs.toArray] h [] (λr _ _=>r=.int .i64 (Nv l pr)):=by
 have o1:=hR.rd.one;refine Av func138 ntmps138 Y Y (λw0 hw0=>?_);simp only[A3];refine Aw (Qm Y (Ap (Ac (Aw (Qm Y (Qx (As hR.rd.any Y BQ Y) Y (Qm Y (Ap (Ah ?_)))))))))
 refine AD (λq s h' ms'=>∃(k:Nat),q=l.length-k/\s=[(0,vl),(1,.func (.func cf) #[] cs.toArray),(7,.int .i64 l.length),(8,.int .i64 k)]/\h=h'/\ms'=[]/\k<=l.length/\∀j (hj:j<l.length),j<k->pr l[j]=false)
  (l.length-0) _ ⟨0,rfl,rfl,rfl,rfl,by omega,λj _ hj=>by omega⟩ Qs ?_
 rintro q s h' ms' ⟨k,rfl,rfl,rfl,rfl,hk,hno⟩;refine Aw (Qm Y (Ap (Ac ?_)));refine Ax Y (λhlt=>?_) (λhlt=>?_)
 ·have hkn:k<l.length:=by omega
  have hsx:∀ms,Seg h ms ((AJ vl).add (k*2)) (cD l[k]):=λms=>(hR.any (ms:=ms)).seg hkn;refine Aj (Ab (Ac (Ah (Aw (Qm Y (Qm Y (BN (Qm Y (Qm Y (Qm Y (Qx (BH (k) hR.rd.any Y BQ AQ Y Y) Y (Qx (oG Y Du AQ (hsx _)) Y (Qx (Ch Y Y hc Y (hp _ (getElem_mem hkn) _)) Y (Ap ?_))))))))))))));refine Bz Y (λhpk=>?_) (λhpk=>?_)
  ·refine Ac (Ad (Qm Y (Qm Y (Ap (Aq (Al (Ae (Ae (Al (Ae ?_))))))))));exact Az Y Y (by rw[SD hkn hpk hno])
  ·refine Aj (Ak (Ab (Ad (Qx (oA Y) Y (Qm Y (An ?_))))));refine Am (l.length-(k+1)) _ (by omega) ⟨k+1,Y,Y,Y,Y,by omega,λj hj hjk=>?_⟩ Qs;rcases (by omega:j<k\/j=k) with h2|rfl
   ·exact hno j hj h2
   ·exact hpk
 ·obtain rfl:k=l.length:=by omega
  refine Ay (Aa (Aa (Ag (Ab (Aw (Qm Y (Ap (Aq ?_))))))));exact Az Y Y (by rw[To λj hj=>hno j hj hj])
theorem M5(l:List (Int×Int))(vl:Value)(cf:FuncId)(cs:List Value)(pr:Int×Int->Bool)(h:Hp)(hR:RdL cD 2 h [] vl l)(hn:l.length<=1000000)
  (hc:∀xs w,(callFunc cf xs).run Tryz.prog w=.ok (.enter cf xs) w)
  (hp:∀s∈l,∀ms,FnV Tryz.prog cf ([]++[Value.agg (cD s).toArray]++cs).toArray h ms (.bool (pr s))) (ms:List Hp) :
  FnV Tryz.prog 67 #[vl,.func (.func cf) #[] cs.toArray] h ms (.bool (decide (0<=Nv l pr))):=by
 refine EX ?_ ms;refine Av func67 ntmps67 Y Y (λw0 hw0=>?_);simp only[A3];refine Aw (Qm Y (BN (Qm Y (Qm Y (Qx (AR Y call138 Y (EX (Te l vl cf cs pr h hR hn hc hp) _)) Y (Qm Y (Qm Y (Ap (Aq ?_)))))))));exact Az Y Y (Y)
theorem U0(F:List (Int×Int))(s:Int×Int)(i:Int)(g1 g2 gA:Nat)(mA:Hp)(bs:List Nat)(h:Hp)(hO:CC kN kN gA BP mA (BI F) bs)(lA:mA.le h)(h1:∀ms,Cell h ms (⟨g1,0,none⟩:Addr) (.map (some gA)))(h2:∀ms,Cell h ms (⟨g2,0,none⟩:Addr) (.int .i64 i))(hi:BP i)(hs:BP s.1)(ms:List Hp) :
  FnV Tryz.prog 68 ([]++[Value.agg (cD s).toArray]++[Value.pointer (some ⟨g1,0,none⟩),.pointer (some ⟨g2,0,none⟩)]).toArray h ms (.bool (decide (GO F s.1>GO F i))):=by
 refine EX ?_ ms;show FnT _ _ #[.agg #[.int .i64 s.1,.int .i64 s.2],.pointer (some ⟨g1,0,none⟩),.pointer (some ⟨g2,0,none⟩)] _ _ _;refine Av func68 ntmps68 Y Y (λw0 hw0=>?_);simp only[A3];refine Aw (AY [_,_] Y Y (by rfl) Y Y Y (λg3=>Qm Y (Ap (AB λh3 l3 hS=>?_))));have e0:∀ms,Cell h3 ms (⟨g3,0,none⟩:Addr) (.int .i64 s.1):=λms=>Seg.all hS 0 _ Y ms;have h1:∀ms,Cell h3 ms (⟨g1,0,none⟩:Addr) (.map (some gA)):=λms=>(h1 ms).le l3;have h2:∀ms,Cell h3 ms (⟨g2,0,none⟩:Addr) (.int .i64 i):=λms=>(h2 ms).le l3;refine Aw (Ql Y Ll (h1 _) (Qf B6 Y (Ql Y U3 (e0 _) (Qx (B9 (V:=kN) (z:=(0:Int)) (u:=GO F s.1) s.1 Y Bh hO (AI lA l3) Y Ll HJ Y Y hs) Y (Ql Y Ll (h1 _) (Qf Bq Y (Ql Y U3 (h2 _) (Qx (B9 (V:=kN) (z:=(0:Int)) (u:=GO F i) i Y Bh hO (AI lA l3) Y Ll HJ Y Y hi) Y (Qm Y (Qm Y (Ap (Aq ?_))))))))))));exact Az Y Y (Y)
variable {o:List Cl} {F:List (Int×Int)} {i:Nat} {e:Int×Int}
def fA(o:List Cl)(F:List (Int×Int))(i:Nat):Option (Int×Int):=
 if(H7 o (F.getD i (0,0)).1).isSome=false then some ((F.getD i (0,0)).1,30)
 else if(F.getD i (0,0)).1∈(F.take i).map Prod.fst then some ((F.getD i (0,0)).1,54) else none
def fB(o:List Cl)(F:List (Int×Int))(i:Nat):Option (Int×Int):=
 if(o.getD i default).id ∉ F.map Prod.fst then some ((o.getD i default).id,30) else none
def YY(o:List Cl)(F:List (Int×Int))(i:Nat):Prop:=∃s∈(o.getD i default).sd,GO F s.1>GO F (o.getD i default).id
instance (o:List Cl) (F:List (Int×Int)) (i:Nat):Decidable (YY o F i):=by unfold YY;infer_instance
def fC(o:List Cl)(F:List (Int×Int))(i:Nat):Option (Int×Int):=
 if YY o F i then some ((o.getD i default).id,44) else none
def Fz(o:List Cl)(F:List (Int×Int)):Int×Int:=
 match (range F.length).findSome? (fA o F) with
 | some e=>e
 | none=>match (range o.length).findSome? (fB o F) with
  | some e=>e
  | none=>match (range o.length).findSome? (fC o F) with
   | some e=>e
   | none=>(0,0)
theorem MM(hi:i<F.length)(h:∀j,j<i->fA o F j=none)(he:fA o F i=some e):Fz o F=e:=by unfold Fz;rw[Dp h he F.length hi]
theorem UF(hA:∀j,j<F.length->fA o F j=none)(hi:i<o.length)(h:∀j,j<i->fB o F j=none)(he:fB o F i=some e):Fz o F=e:=by unfold Fz;rw[Cq F.length hA,Dp h he o.length hi]
theorem TZ(hA:∀j,j<F.length->fA o F j=none)(hB:∀j,j<o.length->fB o F j=none)(hi:i<o.length)(h:∀j,j<i->fC o F j=none)(he:fC o F i=some e):Fz o F=e:=by unfold Fz;rw[Cq F.length hA,Cq o.length hB,Dp h he o.length hi]
theorem Pq(hA:∀j,j<F.length->fA o F j=none)(hB:∀j,j<o.length->fB o F j=none)(hC:∀j,j<o.length->fC o F j=none):Fz o F=(0,0):=by unfold Fz;rw[Cq F.length hA,Cq o.length hB,Cq o.length hC]
structure Ls(F:List (Int×Int)):Prop where
 n:F.length<=1000000
 k:∀p∈F,BP p.1
theorem F8(l:List Ce)(F:List (Int×Int))(v vf:Value)(hp:Hp)(hK:RgC l)(hR:RdC hp v l)(hF:RdL cV 2 hp [] vf F)(hV:Ls F):FnT Tryz.prog 24 #[.agg #[v],vf] hp [] (λr _ _=>r=.tuple #[.int .i64 (Fz (cn l) F).1,.int .i64 (Fz (cn l) F).2]):=by
 have o1:=hR.q.rd.one;have o2:=hF.rd.one;have hG:=hK.F.rgt;have hFn:=hV.n;have hln:l.length<=4000:=by have:=hG.n;rwa [C6]at this
 refine Av func24 ntmps24 Y Y (λw0 hw0=>?_);simp only[A3];refine Aw (AY [_] Y Y (by rfl) Y Y Y (λg2=>Qm Y (Qm Y (Ap (AB λh1 l1 hS=>?_)))));have hR:=hR.up l1;have hF:=hF.up l1;refine Ac (Aw (Qx (oG Y BJ AO (Seg.any hS)) Y (Qx (AR Y call28 Y (EX (I6 l v h1 hK hR) _)) Y (Qm Y (Qm Y (Qm Y (Qm Y (Qm Y (BN (Qm Y (Qm Y (Ap (Ax Y (λhc=>absurd hc (λh=>h Y)) (λhc=>Aj (Ab (Aw (CX (K:=kN) (V:=vB) (Ok:=BP) Y Y Y Y (λgS mS hS0=>Qm Y (Ap ?_)))))))))))))))))));refine A8 (λsl h' ms'=>∃(mS:Hp) (TS:List (Int×Bool)) (bs:List Nat),sl=[(1,vf),(2,.pointer (some ⟨g2,0,none⟩)),(8,.map (some gS))]/\h1.le h'/\ms'=[mS]/\CC kN vB gS BP mS TS bs/\JH TS/\(∀x,x∈DH TS<->x∈F.map Prod.fst)/\∀j,j<F.length->fA (cn l) F j=none) ?_ (λs h ms hI=>?_)
 ·refine Ac (Ad (Qm Y (Qx (As hF.rd.any Y Ny Y) Y (Qm Y (Ap (Ah ?_))))))
  refine AD (λq sl h' ms'=>∃(i:Nat) (mS:Hp) (TS:List (Int×Bool)) (bs:List Nat),q=F.length-i/\sl=[(1,vf),(2,.pointer (some ⟨g2,0,none⟩)),(8,.map (some gS)),(29,vf),(30,.int .i64 F.length),(31,.int .i64 i)]/\h1.le h'/\ms'=[mS]/\i<=F.length/\CC kN vB gS BP mS TS bs/\JH TS/\(∀x,x∈DH TS<->x∈(F.take i).map Prod.fst)/\∀j,j<i->fA (cn l) F j=none)
   (F.length-0) _ ⟨0,mS,[],[],rfl,rfl,B8,rfl,by omega,hS0,λp hp=>(nomatch hp),λx=>by simp,λj h=>by omega⟩ Qs ?_
  rintro q sl h2 ms' ⟨i,mS,TS,bs,rfl,rfl,l2,rfl,hi,hO,hA,hk,hno⟩;have hF:=hF.up l2;refine Aw (Qm Y (Ap (Ac ?_)));refine Ax Y (λhlt=>?_) (λhlt=>?_)
  ·have hil:i<F.length:=by omega
   obtain⟨p,hp⟩:∃p,F[i]=p:=⟨_,Y⟩
   have hgp:F.getD i (0,0)=p:=by simp[List.getD,hil,hp]
   have hpI:BP p.1:=hV.k p (by rw[<-hp];exact getElem_mem hil);have hsx:∀ms,Seg h2 ms ((AJ vf).add (i*2)) (cV p):=λms=>by rw[<-hp];exact(hF.any (ms:=ms)).seg hil
   have hS2:=hS.le l2;refine Aj (Ab (Ac (Ah (Aw (Qx (BH (i) hF.rd.any Y Ny EV Y Y) Y (Qx (oG Y U47 EV (hsx _)) Y (By [.int .i64 0,.int .i64 0] Y EV Y Y (λg10=>?_))))))));refine Sa 0 [_,_] EV Y (by simp[Value.oneCell']) ?_;refine Ap (AB λh3 l3 hS10=>?_);have e0:∀ms,Cell h3 ms (⟨g10,0,none⟩:Addr) (.int .i64 p.1):=λms=>Seg.all hS10 0 _ Y ms;have hS3:=hS2.le l3;have l13:=AI l2 l3;refine Ac (Aw (Qx (oG Y BJ AO (Seg.any hS3)) Y (Qf Fl Y (Ql Y U3 (e0 _) (Qc call21 Y (UZ l v p.1 h3 hK hpI (hR.up l13)) (λrF h4 ms4 l4 hQ=>?_))))));obtain⟨l4',y,rfl,hyc,hyR⟩:=hQ;refine Ew ?_ ms4;have oy:=hyR.rd.one;have e0:∀ms,Cell h4 ms (⟨g10,0,none⟩:Addr) (.int .i64 p.1):=λms=>(e0 ms).le l4;have l14:=AI l13 l4;obtain⟨bb,hbb⟩:∃bb,(H7 (cn l) p.1).isSome=bb:=⟨_,Y⟩
   rw[hbb];refine Qm Y (Qm Y (Qm Y (By [.int .i64 0,.int .i64 0,.slice none 0 0] Y AL Y Y (λg11=>?_))));refine Sa 0 [_,_,_] AL Y (by simp[o1,o2,oy]) ?_;refine Qm Y (BN (Qm Y (Qm Y (Ap ?_))));refine Bz Y (λhn=>?_) (λhn=>?_)
   ·have hbf:bb=false:=by cases bb<;>simp at hn ⊢
    have hch:=MM (o:=cn l) hil hno (by unfold fA;rw[hgp,hbb,if_pos hbf]);refine Aw (Qf Fl Y (Ql Y U3 (e0 _) (Qm Y (Qm Y (Ap (Aq (Ae (Al (Ae (Ae (Al (Ae ?_))))))))))));exact BA Y Y Y (by rw[hch])
   ·have hbt:¬bb=false:=by cases bb<;>simp at hn ⊢
    refine Aj (Ab (Ac (Aw (Qm Y (Qf Fl Y (Ql Y U3 (e0 _) (Qx (F5 (V:=vB) (z:=false) p.1 Bh hO (by simp) rfl PL Rp rfl rfl hpI) rfl ?_)))))));rw[Ij hA];refine Ap ?_;refine Bz Y (λhin=>?_) (λhin=>?_)
    ·have him:p.1∈DH TS:=of_decide_eq_true hin;have hch:=MM (o:=cn l) hil hno (by unfold fA;rw[hgp,hbb,if_neg hbt,if_pos ((hk _).1 him)]);refine Aw (Qf Fl Y (Ql Y U3 (e0 _) (Qm Y (Qm Y (Ap (Aq (Ae (Al (Ae (Ae (Al (Ae ?_))))))))))));exact BA Y Y Y (by rw[hch])
    ·have him:p.1 ∉ DH TS:=λq=>by rw[decide_eq_true q]at hin;cases hin
     have hci:fA (cn l) F i=none:=by unfold fA;rw[hgp,hbb,if_neg hbt,if_neg λq=>him ((hk _).2 q)]
     have hk':∀x,x∈DH (C0 TS p.1 true)<->x∈(F.take (i+1)).map Prod.fst:=λx=>by rw[List.take_succ_eq_append_getElem hil,hp,map_append,List.mem_append,map_cons,List.map_nil,List.mem_singleton,<-hk x,DJ];exact⟨λq=>q.symm,λq=>q.symm⟩
     refine Aj (Ab (Ad (Qm Y (Qf Fl Y (Ql Y U3 (e0 _) (BS (V:=vB) (z:=undef) 1 p.1 true Bh hO Y Y PL Y Y Y hpI Y Y (λmS' bs' hO'=>An (Ak (Ab (Ad (Qx (oA Y) Y (Qm Y (An (AS ?_))))))))))))))
     exact Am (F.length-(i+1)) _ (by omega) ⟨i+1,mS',_,bs',Y,Y,AI l13 l4,Y,by omega,hO',Kf hA p.1,hk',λj hj=>by
      rcases (by omega:j<i\/j=i) with h1|rfl
      ·exact hno j h1
      ·exact hci⟩ Qs
  ·obtain rfl:i=F.length:=by omega
   rw[take_length]at hk;refine Ay (Aa (Aa (Ag ?_)));exact Ao _ ⟨mS,TS,bs,Y,l2,Y,hO,hA,hk,hno⟩ Qs
 ·obtain⟨mS,TS,bs,rfl,l2,rfl,hO,hA,hk,hno⟩:=hI;have hR:=hR.up l2;have hF:=hF.up l2;have hS2:=hS.le l2;refine Aw (Qx (oG Y BJ AO (Seg.any hS2)) Y (Qc call65 Y (Dz l v _ hK hR) (λrC h3 ms3 l3 hQ=>?_)));obtain⟨l3',mA,A,vA,rfl,rfl,hOA,hAl,hsA⟩:=hQ;refine A5 hOA λhq l4 hQ=>?_;have hsA:=λa ha=>(hsA a ha).up l4;have hF:=hF.up (AI l3 l4);have ovA:=hQ.rd.one;have hol:(cn l).length=A.length:=by rw[<-hAl,length_map]
  have hAn:A.length<=4000:=by rw[<-hol,C6];exact hln
  have hget:∀i (hi:i<A.length),(cn l).getD i default=A[i].c:=λi hi=>by rw[<-hAl];simp[List.getD,hi]
  have hpos:=hG.pos;obtain⟨o,ho⟩:∃o,cn l=o:=⟨_,Y⟩
  have hAI:∀a∈A,BP a.c.id:=λa ha=>by
   have h1:a.c∈cn l:=by rw[<-hAl];exact List.mem_map.2 ⟨a,ha,Y⟩
   have h2:=hpos _ h1;have h3:=hK.ci h1;unfold BP;omega
  have hAs:∀a∈A,a.c.sd.length<=64/\∀s∈a.c.sd,BP s.1:=λa ha=>by
   have h1:a.c∈cn l:=by rw[<-hAl];exact List.mem_map.2 ⟨a,ha,Y⟩
   refine⟨(hK.F.bds h1).2.1,λs hs=>?_⟩;obtain⟨y,hy,e,_⟩:=hG.sid _ h1 s hs;have h2:=hpos _ hy;have h3:=hK.ci hy;rw[<-e];unfold BP;omega
  rw[ho]at hol hno hget ⊢;refine Qx (Cp Y BJ Y A9 Y Y Y) Y (Qm Y (Ap ?_));refine A8 (λsl h' ms'=>∃(mS:Hp),sl=[(1,vf),(13,vA)]/\hq.le h'/\ms'=[mS]/\∀j,j<A.length->fB o F j=none) ?_ (λs h ms hI=>?_)
  ·refine Ac (Ad (Qm Y (Qx (As hQ.rd.any Y A9 Y) Y (Qm Y (Ap (Ah ?_))))))
   refine AD (λq sl h' ms'=>∃(i:Nat),q=A.length-i/\sl=[(1,vf),(8,.map (some gS)),(13,vA),(59,vA),(60,.int .i64 A.length),(61,.int .i64 i)]/\hq.le h'/\ms'=[mS]/\i<=A.length/\∀j,j<i->fB o F j=none)
    (A.length-0) _ ⟨0,rfl,rfl,B8,rfl,by omega,λj h=>by omega⟩ Qs ?_
   rintro q sl h5 ms' ⟨i,rfl,rfl,l5,rfl,hi,hnB⟩;have hQ:=hQ.up l5;refine Aw (Qm Y (Ap (Ac ?_)));refine Ax Y (λhlt=>?_) (λhlt=>?_)
   ·have hil:i<A.length:=by omega
    obtain⟨x,hx⟩:∃x,A[i]=x:=⟨_,Y⟩
    have hxm:x∈A:=by rw[<-hx];exact getElem_mem hil
    have hgx:=hget i hil;rw[hx]at hgx;have hX:=(hsA x hxm).up l5;have oxv:=hX.rd.one;have hxI:=hAI x hxm;have hsx:∀ms,Seg h5 ms ((AJ vA).add (i*3)) (cC x):=λms=>by rw[<-hx];exact(hQ.any (ms:=ms)).seg hil
    refine Aj (Ab (Ac (Ah (Aw (Qx (BH (i) hQ.rd.any Y A9 AL Y Y) Y (Qx (oG Y D1 AL (hsx _)) Y (By [.int .i64 0,.int .i64 0,.slice none 0 0] Y AL Y Y (λg15=>?_))))))));refine Sa 0 [_,_,_] AL Y (by simp[o1,o2,ovA,oxv]) ?_;refine Ap (AB λh6 l6 hS8=>?_);have e80:∀ms,Cell h6 ms (⟨g15,0,none⟩:Addr) (.int .i64 x.c.id):=λms=>Seg.all hS8 0 _ Y ms;refine Aw (Qm Y (Qf Bq Y (Ql Y U3 (e80 _) (Qx (F5 (V:=vB) (z:=false) x.c.id Bh hO (by simp) rfl PL Rp rfl rfl hxI) rfl ?_))));rw[Ij hA];refine Qm Y (Ap ?_);refine Bz Y (λhin=>?_) (λhin=>?_)
    ·have hni:x.c.id ∉ F.map Prod.fst:=λq=>by rw[decide_eq_true ((hk _).2 q)]at hin;cases hin
     have hch:=UF (o:=o) (F:=F) hno (by rw[hol];exact hil) hnB (by unfold fB;rw[hgx,if_pos hni]);refine Aw (Qf Bq Y (Ql Y U3 (e80 _) (Qm Y (Qm Y (Ap (Aq (Al (Ae (Ae (Al (Ae ?_)))))))))));exact BA Y Y Y (by rw[hch])
    ·have hni:x.c.id∈F.map Prod.fst:=Classical.byContradiction λq=>by rw[decide_eq_false λw=>q ((hk _).1 w)]at hin;cases hin
     have hci:fB o F i=none:=by unfold fB;rw[hgx,if_neg λq=>q hni]
     refine Aj (Ak (Ab (Ad (Qx (oA Y) Y (Qm Y (An ?_))))))
     exact Am (A.length-(i+1)) _ (by omega) ⟨i+1,Y,Y,AI l5 l6,Y,by omega,λj hj=>by
      rcases (by omega:j<i\/j=i) with h1|rfl
      ·exact hnB j h1
      ·exact hci⟩ Qs
   ·obtain rfl:i=A.length:=by omega
    refine Ay (Aa (Aa (Ag ?_)));exact Ao _ ⟨mS,Y,l5,Y,hnB⟩ Qs
  ·obtain⟨mS,rfl,l5,rfl,hnB⟩:=hI;have hQ:=hQ.up l5;have hF:=hF.up l5;have hsA:=λa ha=>(hsA a ha).up l5;refine Aw (Qm Y (Qc call66 Y (Je F vf _ hF hV.n hV.k) (λrL h6 ms6 l6 hL=>?_)));obtain⟨l6',gL,mL,bL,rfl,rfl,hOL⟩:=hL;refine By [.map none] Y Yu Y Y (λg16=>Af 0 0 Y Yu Y Y (by rfl) Y Y (by decide) Y Y (Ap (AB λh7 l7 hS7=>(Bt λh8 l8 k8=>?_))));have e16:∀ms,Cell h8 ms (⟨g16,0,none⟩:Addr) (.map (some gL)):=λms=>(Seg.all hS7 0 _ Y ms).le l8;have l58:=AI l6 (AI l7 l8);have hQ:=hQ.up l58;have hsA:=λa ha=>(hsA a ha).up l58;refine Ac (Aw (Qm Y (Qx (As hQ.rd.any Y A9 Y) Y (Qm Y (Ap (Ah ?_))))))
   refine AD (λq sl h' ms'=>∃(i:Nat),q=A.length-i/\sl=[(16,.pointer (some ⟨g16,0,none⟩)),(75,vA),(76,.int .i64 A.length),(77,.int .i64 i)]/\h8.le h'/\ms'=[mS]/\i<=A.length/\∀j,j<i->fC o F j=none)
    (A.length-0) _ ⟨0,rfl,rfl,B8,rfl,by omega,λj h=>by omega⟩ Qs ?_
   rintro q sl h9 ms' ⟨i,rfl,rfl,l9,rfl,hi,hnC⟩;have hQ:=hQ.up l9;have e16:∀ms,Cell h9 ms (⟨g16,0,none⟩:Addr) (.map (some gL)):=λms=>(e16 ms).le l9;have k9:=AI k8 l9;refine Aw (Qm Y (Ap (Ac ?_)));refine Ax Y (λhlt=>?_) (λhlt=>?_)
   ·have hil:i<A.length:=by omega
    obtain⟨x,hx⟩:∃x,A[i]=x:=⟨_,Y⟩
    have hxm:x∈A:=by rw[<-hx];exact getElem_mem hil
    have hgx:=hget i hil;rw[hx]at hgx;have hX:=(hsA x hxm).up l9;have oxv:=hX.rd.one;have hxI:=hAI x hxm;obtain⟨hxn,hxs⟩:=hAs x hxm;have hsx:∀ms,Seg h9 ms ((AJ vA).add (i*3)) (cC x):=λms=>by rw[<-hx];exact(hQ.any (ms:=ms)).seg hil
    refine Aj (Ab (Ac (Ah (Aw (Qx (BH (i) hQ.rd.any Y A9 AL Y Y) Y (Qx (oG Y D1 AL (hsx _)) Y (By [.int .i64 0,.int .i64 0,.slice none 0 0] Y AL Y Y (λg18=>?_))))))));refine Sa 0 [_,_,_] AL Y (by simp[o1,o2,ovA,oxv]) ?_;refine Ap (AB λh10 l10 hS10=>?_);have e10:∀ms,Cell h10 ms (⟨g18,0,none⟩:Addr) (.int .i64 x.c.id):=λms=>Seg.all hS10 0 _ Y ms;have e12:∀ms,Cell h10 ms (⟨g18,2,none⟩:Addr) x.v:=λms=>Seg.all hS10 2 _ Y ms;have hX:=hX.up l10;have hct:=λms=>M5 x.c.sd x.v 68 [Value.pointer (some ⟨g16,0,none⟩),.pointer (some ⟨g18,0,none⟩)] (λs=>decide (GO F s.1>GO F x.c.id)) h10 hX (by omega) (λ_ _=>rfl) (λs hs ms=>U0 F s x.c.id g16 g18 gL mL bL h10 hOL (AI k9 l10) (λms=>(e16 ms).le l10) e10 hxI (hxs s hs) ms) ms;obtain⟨bb,hbb⟩:∃bb,decide (0<=Nv x.c.sd λs=>decide (GO F s.1>GO F x.c.id))=bb:=⟨_,Y⟩
    have hub:bb=true<->YY o F i:=by rw[<-hbb,decide_eq_true_iff,UW];unfold YY;rw[hgx];exact⟨λ⟨s,h1,h2⟩=>⟨s,h1,of_decide_eq_true h2⟩,λ⟨s,h1,h2⟩=>⟨s,h1,decide_eq_true h2⟩⟩
    rw[hbb]at hct;refine Aw (Qf Bs Y (Ql Y BQ (e12 _) (Qx (BM Y Y Y) Y (Qx (AR Y call67 Y (hct _)) Y (Ap ?_)))));refine Bz Y (λhin=>?_) (λhin=>?_)
    ·have hch:=TZ (o:=o) (F:=F) hno (by rw[hol];exact hnB) (by rw[hol];exact hil) hnC (by unfold fC;rw[hgx,if_pos (hub.1 hin)]);refine Aw (Qf Bq Y (Ql Y U3 (e10 _) (Qm Y (Qm Y (Ap (Aq (Al (Ae (Ae (Al (Ae ?_)))))))))));exact BA Y Y Y (by rw[hch])
    ·have hci:fC o F i=none:=by unfold fC;rw[if_neg λq=>by rw[hub.2 q]at hin;cases hin]
     refine Aj (Ak (Ab (Ad (Qx (oA Y) Y (Qm Y (An ?_))))))
     exact Am (A.length-(i+1)) _ (by omega) ⟨i+1,Y,Y,AI l9 l10,Y,by omega,λj hj=>by
      rcases (by omega:j<i\/j=i) with h1|rfl
      ·exact hnC j h1
      ·exact hci⟩ Qs
   ·obtain rfl:i=A.length:=by omega
    have hch:=Pq (o:=o) (F:=F) hno (by rw[hol];exact hnB) (by rw[hol];exact hnC);refine Ay (Aa (Aa (Ag (Ab (Aw (Qm Y (Qm Y (Ap (Aq ?_)))))))));exact BA Y Y Y (by rw[hch])
end Go.Proofs.Q
namespace Go.Proofs.Q
open Go.Proofs.Tryz
open Go.Eng Go.RowKit Go.Lin
variable {p:Int}
def IsP(p:Int):Prop:=2<=p/\p<=997/\∀k,k<p.toNat->2<=k->p.toNat%k≠0
instance (p:Int):Decidable (IsP p):=by unfold IsP;infer_instance
theorem IsP.prm(h:IsP p):Prm p.toNat:=by obtain⟨h1,h2,h3⟩:=h;refine IA (by omega) λk hk hkk=>h3 k ?_ hk;have:2*k<=k*k:=Nat.mul_le_mul_right k hk;omega
theorem IsP.fld(h:IsP p):EC p:=by
 have:=h.prm.fld
 rwa [Int.toNat_of_nonneg (by have:=h.1;omega)]at this
theorem MU(h2:2<=p)(h9:p<=997)(j:Nat)(hj:p<(j:Int)*j)(h:∀k,2<=k->k<j->p.toNat%k≠0):IsP p:=by
 refine⟨h2,h9,λk hk h2k he=>?_⟩
 have hp:Prm p.toNat:=by
  refine IA (by omega) λk hk hkk=>h k hk (Nat.lt_of_not_le λhle=>?_);have h1:j*j<=k*k:=Nat.mul_le_mul hle hle;have h2:((j*j:Nat):Int)=(j:Int)*j:=by simp
  omega
 rcases hp.2 k (Nat.dvd_of_mod_eq_zero he) with h|h<;>omega
theorem XA(hp:0<=p)(k:Nat)(hk:0<k):p%(k:Int)=((p.toNat%k:Nat):Int):=by rw[Int.natCast_emod,Int.toNat_of_nonneg hp]
theorem WC(p:Int)(h:Hp)(hI:BP p):FnT Tryz.prog 54 #[.int .i64 p] h [] (λr _ _=>r=.bool (decide (IsP p))):=by
 have hI1:=hI.1;have hI2:=hI.2;refine Av func54 ntmps54 Y Y (λw0 hw0=>?_);simp only[A3];refine Aw (Qm Y (Ap (Ac (Aw (Qm Y (Qm Y (Qm Y ?_)))))));refine AU (t:=6) Y (λhs=>?_) (λhs=>?_)
 ·refine Qk Y (Qk Y (Qm Y (Ap (BD Y (Aw (Qm Y (Ap (Aq (Ae ?_)))))))));exact Az Y Y (by rw[decide_eq_false];exact λh=>absurd h.1 (by omega))
 ·refine Qg (AC Y Y) Y (Qg (CA Y Y Y) Y (Qm Y (Ap ?_)));refine Ax Y (λhs2=>?_) (λhs2=>?_)
  ·refine Ac (Ad (Qm Y (Ap (Aq (Ae ?_)))));exact Az Y Y (by rw[decide_eq_false];exact λh=>absurd h.2.1 (by omega))
  ·refine Aj (Ab (Ac (Aw (Qm Y (Ap (Ah ?_))))))
   refine AD (λn s h' ms'=>∃(k:Nat),n=1000-k/\s=[(0,.int .i64 p),(3,.int .i64 k)]/\h=h'/\ms'=[]/\2<=k/\k<=1000/\∀j,2<=j->j<k->p.toNat%j≠0)
    (1000-2) _ ⟨2,rfl,rfl,rfl,rfl,by omega,by omega,λj h1 h2=>by omega⟩ Qs ?_
   rintro n s h' ms' ⟨k,rfl,rfl,rfl,rfl,h2,hk,hno⟩
   have hkk:(k:Int)*k<=1000*1000:=by
    have h1:k*k<=1000*1000:=Nat.mul_le_mul hk hk;have h2:((k*k:Nat):Int)=(k:Int)*k:=by simp
    omega
   have hkk0:0<=(k:Int)*k:=Int.mul_nonneg (by omega) (by omega);have hk4:2*(k:Int)<=(k:Int)*k:=Int.mul_le_mul_of_nonneg_right (by omega) (by omega);refine Ac (Aw (Qm Y (Qm Y (Qx (oM Y) Y (Qm Y (Qm Y (Ap ?_)))))));refine Ax Y (λhlt=>?_) (λhlt=>?_)
   ·refine Aj (Ab (Ac (Ah (Aw (Qm Y (Qm Y (Qx (Cf Y Y Y (by omega) (by omega)) Y (Qm Y (Ap ?_)))))))));have hm:=XA (p:=p) (by omega) k (by omega);refine Ax Y (λhz=>?_) (λhz=>?_)
    ·refine Ac (Ad (Qm Y (Ap (Aq (Al (Ae (Ae (Al (Ae ?_)))))))));exact Az Y Y (by rw[decide_eq_false];exact λh=>absurd (show p.toNat%k=0 by omega) (h.2.2 k (by omega) h2))
    ·refine Aj (Ak (Ab (Ad (Qm Y (Qx (oA Y) Y (Qm Y (An ?_)))))));refine Am (1000-(k+1)) _ (by omega) ⟨k+1,Y,Y,Y,Y,by omega,by omega,λj h1 h3=>?_⟩ Qs;rcases (by omega:j<k\/j=k) with h4|h4
     ·exact hno j h1 h4
     ·subst h4;omega
   ·refine Ay (Aa (Aa (Ag (Ab (Aw (Qm Y (Ap (Aq ?_))))))));exact Az Y Y (by rw[decide_eq_true];exact MU (by omega) (by omega) k (by omega) hno)
theorem My(p:Int)(h:Hp)(hI:BP p)(ms:List Hp):FnV Tryz.prog 54 #[.int .i64 p] h ms (.bool (decide (IsP p))):=by refine λw hw=>(?_:FnV _ _ _ h [] _) w (hw.weaken (B8) (List.nil_sublist _));exact FnT.toV (WC p h hI)
def IsLast(l:List Int)(r:Int):Prop:=(∃(i:Nat) (hi:i<l.length),r=i/\l[i]≠0/\∀j (hj:j<l.length),i<j->l[j]=0)\/(r=-1/\∀j (hj:j<l.length),l[j]=0)
def Zh(l:List Int)(k:Nat):List Value:=[.int .i64 ((l.length:Int)-1-k),.int .i64 (l.getD (l.length-1-k) 0)]
theorem VJ(g:Nat)(v:Value)(l:List Int)(h:Hp)(hG:Seg h [] ⟨g,0,none⟩ [v])(hR:RdL cI 1 h [] v l)(hn2:l.length<=1000000):Aag Tryz.prog 203 [.pointer (some ⟨g,0,none⟩)] h l.length (Zh l):=by
 intro lp X Y h1 ms hl hY h0;show FnT _ _ #[.func (.yield lp) #[] #[],.pointer (some ⟨g,0,none⟩)] _ _ _;have hG:=hG.le hl;have hR:=hR.up hl;obtain⟨n,hn⟩:∃n,l.length=n:=⟨_,rfl⟩
 rw[hn]at hn2 hY;refine Av func203 ntmps203 rfl rfl (fun w0 hw0=>?_);simp only[A3];refine Ac (Dq (DA (oL rfl A0 ((hG.at0 rfl).any)) rfl rfl rfl (DA (As hR.rd.any rfl A0 rfl) rfl rfl rfl (DA (oS rfl) rfl rfl rfl (DA (F1 rfl rfl) rfl rfl rfl (FQ (Ab (Ah ?_))))))))
 refine AD (fun q s hh ms'=>∃(k:Nat),q=n-k/\s=[(0,.func (.yield lp) #[] #[]),(1,.pointer (some ⟨g,0,none⟩)),(3,.int .i64 ((n:Int)-1-k))]/\h1.le hh/\k<=n/\X k hh ms')
  (n-0) [(0,.func (.yield lp) #[] #[]),(1,.pointer (some ⟨g,0,none⟩)),(3,.int .i64 ((l.length:Int)-1))] ⟨0,rfl,by rw[hn,show((n:Int)-1-(0:Nat))=(n:Int)-1 by omega],B8,by omega,h0⟩ Qs ?_
 rintro q s hh ms' ⟨k,rfl,rfl,lh,hk,hX⟩;refine Ac (Ac (Dq (DA (AC rfl rfl) rfl rfl rfl (DA (KJ rfl rfl rfl) rfl rfl rfl (FQ (Ab ?_))))));refine Ax rfl (fun hlt=>?_) (fun hlt=>?_)
 ·have hkn:k<n:=by omega
  have hG2:=hG.le lh;have hR2:=hR.up lh;have hi:n-1-k<l.length:=by omega
  have hc:∀ms,Cell hh ms ((AJ v).add ((n-1-k)*1)) (.int .i64 (l.getD (n-1-k) 0)):=fun ms=>by rw[show l.getD (n-1-k) 0=l[n-1-k] by simp[List.getD,hi]];exact(hR2.any (ms:=ms)).cell0 hi rfl
  refine Aj (Ab (Ac (Ah (Ac (Dq (DA (AC rfl rfl) rfl rfl rfl (DA (AC rfl rfl) rfl rfl rfl (DA (oL rfl A0 ((hG2.at0 rfl).any)) rfl rfl rfl (DA (AC rfl rfl) rfl rfl rfl (DA (BH (n-1-k) hR2.rd.any rfl A0 Ba rfl rfl) rfl rfl rfl (DA (oL rfl U3 (hc _)) rfl rfl rfl ?_)))))))))));have hyk:=hY k hh ms' hkn lh hX;unfold Zh at hyk;rw[hn]at hyk;refine N6 rfl rfl rfl (hyk) rfl rfl rfl (fun r h2 ms2 l2 hr=>?_);rcases hr with ⟨rfl,hX2⟩|⟨rfl,hX2⟩
  ·refine DA (Gj rfl rfl) rfl rfl rfl (FQ (Ab (AV rfl (Aj (Ak (Ab (Dq (DA (AC rfl rfl) rfl rfl rfl (DA (oS rfl) rfl rfl rfl (DA (F1 rfl rfl) rfl rfl rfl (FQ ?_)))))))))));refine Am (n-(k+1)) [(0,.func (.yield lp) #[] #[]),(1,.pointer (some ⟨g,0,none⟩)),(3,.int .i64 ((n:Int)-1-k-1))] (by omega) ⟨k+1,rfl,by rw[show((n:Int)-1-k-1)=(n:Int)-1-(k+1:Nat) by omega],AI lh l2,by omega,hX2⟩ Qs
  ·refine DA (Gj rfl rfl) rfl rfl rfl (FQ (Ab (BD rfl (Aq (Al (Ae (Ae (Al ?_))))))));exact EE rfl (.inr ⟨k,by omega,hX2⟩)
 ·obtain rfl:k=n:=by omega
  refine Ay (Aa (Aa (Ag ?_)));exact B7 rfl (.inl (by rw[hn];exact hX))
theorem PK(v:Value)(n:Nat)(cs:List Value)(h:Hp)(hR:Rd h [] v 1 n cs):FnT Tryz.prog 152 #[v] h [] (λr h' ms'=>h=h'/\∃g,r=.func (.func 203) #[] #[.pointer (some ⟨g,0,none⟩)]/\ms'=[Bw g 22 [v]]):=by refine Av func152 ntmps152 Y Y (λw0 hw0=>?_);simp only[A3];refine Aw (AY [_] Y Y (Rd.cells ‹_›) Y Y Y (λg1=>Qm Y (BN (Qx (BM Y Y Y) Y (Qm Y (Ap (Aq ?_)))))));exact Az Y Y (⟨Y,_,Y,Y⟩)
end Go.Proofs.Q

namespace Go.Proofs.Q
open Go.Proofs.Tryz
open Go.Eng Go.RowKit Go.Lin
theorem IsLast.uniq{l:List Int}{x y:Int}(h1:IsLast l x)(h2:IsLast l y):x=y:=by
 rcases h1 with ⟨i,hi,rfl,q1,q2⟩|⟨rfl,q⟩<;>rcases h2 with ⟨j,hj,rfl,r1,r2⟩|⟨rfl,r⟩
 ·rcases Nat.lt_trichotomy i j with h|h|h
  ·exact absurd (q2 j hj h) r1
  ·rw[h]
  ·exact absurd (r2 i hi h) q1
 ·exact absurd (r i hi) q1
 ·exact absurd (q j hj) r1
 ·rfl
theorem IsLast.ex(l:List Int):∃x,IsLast l x:=by
 have key:∀n,n<=l.length->(∃(i:Nat) (hi:i<l.length),i<n/\l[i]≠0/\∀j (hj:j<l.length),i<j->j<n->l[j]=0)\/∀j (hj:j<l.length),j<n->l[j]=0:=λn=>by
  induction n with
  | zero=>intro _;exact .inr λj _ h=>by omega
  | succ n ih=>
   intro hn;by_cases h0:l[n]=0
   ·rcases ih (by omega) with ⟨i,hi,h1,h2,h3⟩|h
    ·refine .inl ⟨i,hi,by omega,h2,λj hj h4 h5=>?_⟩;rcases (by omega:j<n\/j=n) with h6|rfl
     ·exact h3 j hj h4 h6
     ·exact h0
    ·refine .inr λj hj h5=>?_;rcases (by omega:j<n\/j=n) with h6|rfl
     ·exact h j hj h6
     ·exact h0
   ·exact .inl ⟨n,by omega,by omega,h0,λj hj h4 h5=>by omega⟩
 rcases key l.length (Nat.le_refl _) with ⟨i,hi,_,h2,h3⟩|h
 ·exact⟨i,.inl ⟨i,hi,Y,h2,λj hj h4=>h3 j hj h4 hj⟩⟩
 ·exact⟨-1,.inr ⟨Y,λj hj=>h j hj hj⟩⟩
noncomputable def Bn(l:List Int):Int:=Classical.choose (IsLast.ex l)
theorem IQ(l:List Int):IsLast l (Bn l):=Classical.choose_spec (IsLast.ex l)
theorem NS{l:List Int}{x:Int}(h:IsLast l x):Bn l=x:=(IQ l).uniq h
theorem G8(l:List Int):-1<=Bn l/\Bn l<l.length:=by rcases IQ l with ⟨i,hi,e,_⟩|⟨e,_⟩<;>rw[e]<;>omega
theorem Yj(v:Value)(l:List Int)(h:Hp)(hR:RdL cI 1 h [] v l)(hn:l.length<=1000000):FnT Tryz.prog 95 #[v] h [] (λr _ _=>r=.int .i64 (Bn l)):=by
 have ov:=hR.rd.one;refine LZ func95 ntmps95 Y Y (λw0 hw0=>?_);simp only[A3];refine Aw (By [.int .i64 0] Y Ba Y Y (λg2=>Ap (Ac (Aw (Qm Y (Qc call152 Y (PK v l.length _ h hR.rd) (λvf h10 ms10 l10 hF=>?_)))))));obtain⟨rfl,gb,rfl,rfl⟩:=hF;refine Ap (Ah (AB λh2 l2 hGb=>?_));have hR:=hR.up l2;have hI:=VJ gb v l h2 hGb hR hn;refine HE (λk hh ms=>ms=[Bw g2 3 [.int .i64 0]]/\∀j (hj:j<l.length),l.length-k<=j->l[j]=0) (λk hh ms=>ms=[Bw g2 3 [.int .i64 ((l.length:Int)-1-k)]]/\IsLast l ((l.length:Int)-1-k)) (λk s1 hh ms=>s1=[(2,.pointer (some ⟨g2,0,none⟩)),(3,.int .i64 ((l.length:Int)-1-k)),(4,.int .i64 (l.getD (l.length-1-k) 0))]/\ms=[Bw g2 3 [.int .i64 0]]/\∀j (hj:j<l.length),l.length-k<=j->l[j]=0) Y call203 hI (λk=>rfl) Y ?_ ?_ ?_ ?_ ?_
 ·exact⟨Y,λj hj h=>by omega⟩
 ·rintro w1 k hh ms1 hk lh ⟨rfl,hz⟩;rw[show Zh l k=[.int .i64 ((l.length:Int)-1-k),.int .i64 (l.getD (l.length-1-k) 0)] from Y];refine PI (Eu (by kernel_rfl) (Qm Y (An (Ku (Eu (by kernel_rfl) (Qm Y (An ?_)))))));exact Ao _ ⟨Y,Y,hz⟩ Qs
 ·rintro w1 k s1 hh ms1 hk lh ⟨rfl,rfl,hz⟩;have hi:l.length-1-k<l.length:=by omega
  have eg:l.getD (l.length-1-k) 0=l[l.length-1-k]:=by simp[List.getD,hi]
  refine NP (PI (Eu (by kernel_rfl) (Qm Y (Qm Y (An (Ku ?_))))));refine Aas Y (λhne=>?_) (λhne=>?_)
  ·refine PI (Eu (by kernel_rfl) (Qm Y (Af 0 0 Y Ba Y Y (by rfl) Y Y (by decide) Y Y (An (Ku (Aaa (Al ?_)))))));refine YC [] ⟨Y,.inl ⟨l.length-1-k,hi,by omega,by rw[<-eg];exact hne,λj hj hlt=>hz j hj (by omega)⟩⟩ trivial
  ·refine Yb (Ak ?_);refine Ao [] ⟨Y,λj hj hle=>?_⟩ trivial;rcases (by omega:l.length-k<=j\/j=l.length-1-k) with h1|rfl
   ·exact hz j hj h1
   ·rw[<-eg];exact Classical.not_not.1 hne
 ·rintro D hh ms1 lh ⟨rfl,hz⟩;refine Ak (Ab (Aw (Af 0 0 Y Ba Y Y (by rfl) Y Y (by decide) Y Y (Ap (Aq (JM 1 (.inr Y) Y ?_))))));exact L7 Y Y U3 Y 0 Y (by rw[NS (.inr ⟨rfl,λj hj=>hz j hj (by omega)⟩)])
 ·rintro D k hh ms1 hk lh ⟨rfl,hL⟩;refine JM 1 (.inr Y) Y ?_;exact L7 Y Y U3 Y 0 Y (by rw[NS hL])
theorem VR(v:Value)(l:List Int)(h:Hp)(hR:RdL cI 1 h [] v l)(hn:l.length<=1000000)(ms:List Hp):FnV Tryz.prog 95 #[v] h ms (.int .i64 (Bn l)):=EX (Yj v l h hR hn) ms
variable {p n t:Int} {i:Nat}
def GL(p n:Int):Int:=match (range p.toNat).find? (λk:Nat=>decide (1<=k/\n*(k:Int)%p=1)) with|some k=>(k:Int)|none=>1
theorem PP{k:Nat}(h1:1<=k)(hk:(k:Int)<p)(h:n*(k:Int)%p=1)(hno:∀j:Nat,1<=j->j<k->n*(j:Int)%p≠1):GL p n=k:=by
 unfold GL
 have:(range p.toNat).find? (λk:Nat=>decide (1<=k/\n*(k:Int)%p=1))=some k:=List.find?_range_eq_some.2 ⟨decide_eq_true ⟨h1,h⟩,List.mem_range.2 (by omega),λj hj=>by
  rw[decide_eq_false λq=>hno j q.1 hj q.2];rfl⟩
 rw[this]
theorem PR(hno:∀j:Nat,1<=j->(j:Int)<p->n*(j:Int)%p≠1):GL p n=1:=by
 unfold GL
 have:(range p.toNat).find? (λk:Nat=>decide (1<=k/\n*(k:Int)%p=1))=none:=List.find?_eq_none.2 λj hj=>by have:=List.mem_range.1 hj;rw[decide_eq_false λq=>hno j q.1 (by omega) q.2];decide
 rw[this]
theorem Ud(hp:2<=p)(n:Int):1<=GL p n/\GL p n<p:=by
 unfold GL;split
 ·rename_i k h;obtain⟨h1,h2,_⟩:=List.find?_range_eq_some.1 h;have:=of_decide_eq_true h1;have:=List.mem_range.1 h2;omega
 ·omega
theorem Tu(h:IsP p)(h0:0<n)(hn:n<p):n*GL p n%p=1:=by
 have h2:=h.1
 obtain⟨w,hw⟩:=h.fld.inv n λ⟨c,e⟩=>by have h1:c<1:=Int.lt_of_mul_lt_mul_left (show p*c<p*1 by omega) (by omega);have h3:0<c:=Int.lt_of_mul_lt_mul_left (show p*0<p*c by omega) (by omega);omega
 have hw:w*n%p=1:=by rw[Int.mul_comm];have h3:=Int.emod_eq_emod_iff_emod_sub_eq_zero.2 (Int.emod_eq_zero_of_dvd hw);rw[h3,Int.emod_eq_of_lt (by omega) (by omega)]
 have h5:=Int.emod_nonneg w (show p≠0 by omega);have h6:=Int.emod_lt_of_pos w (show 0<p by omega)
 have h4:n*(((w%p).toNat:Nat):Int)%p=1:=by rw[Int.toNat_of_nonneg h5,Int.mul_emod,Int.emod_emod_of_dvd w (Int.dvd_refl p),<-Int.mul_emod,Int.mul_comm];exact hw
 have h7:1<=(w%p).toNat:=by refine Nat.one_le_iff_ne_zero.2 λe=>?_;rw[e]at h4;simp at h4
 unfold GL;split
 ·rename_i k h;exact(of_decide_eq_true (List.find?_range_eq_some.1 h).1).2
 ·rename_i h;have:=List.find?_eq_none.1 h (w%p).toNat (List.mem_range.2 (by omega));exact absurd (decide_eq_true ⟨h7,h4⟩) this
def FX(p:Int)(a b:List Int)(t:Int):List Int:=List.zipWith (λx y=>(x+t*y)%p) a b
theorem Fu{a b:List Int}(h:a.length=b.length):(FX p a b t).length=a.length:=by unfold FX;rw[List.length_zipWith];omega
theorem ND{a b:List Int}(h:i<(FX p a b t).length)(ha:i<a.length)(hb:i<b.length):(FX p a b t)[i]=(a[i]+t*b[i])%p:=by simp[FX]
theorem V1{α:Type}(A B:List α)(hl:A.length=B.length)(hi:i<A.length):(A.take i++B.drop i).set i A[i]=A.take (i+1)++B.drop (i+1):=by
 have hlt:(A.take i).length=i:=by rw[length_take];omega
 rw[List.set_append,if_neg (by omega),hlt,Nat.sub_self,List.drop_eq_getElem_cons (show i<B.length by omega),List.set_cons_zero,List.take_succ_eq_append_getElem hi,List.append_assoc];rfl
theorem U8{α:Type}(A B:List α)(hl:A.length=B.length)(hi:i<A.length):(A.take i++B.drop i)[i]'(by rw[length_append,length_take,List.length_drop];omega)=B[i]:=by
 have hlt:(A.take i).length=i:=by rw[length_take];omega
 rw[List.getElem_append_right (by omega)];simp[hlt]
def KP(p:Int)(l:List Int):Prop:=∀x∈l,0<=x/\x<p
theorem NN(hp:0<p)(a b:List Int):KP p (FX p a b t):=λx hx=>by unfold FX at hx;obtain⟨i,hi,rfl⟩:=getElem_of_mem hx;rw[List.getElem_zipWith];exact⟨Int.emod_nonneg _ (by omega),Int.emod_lt_of_pos _ hp⟩
theorem Xj(p n:Int)(g:Nat)(h:Hp)(hG:∀ms,Cell h ms (⟨g,0,none⟩:Addr) (.int .i64 p))(hp:2<=p/\p<=997)(hn:0<=n/\n<p):FnT Tryz.prog 177 #[.pointer (some ⟨g,0,none⟩),.int .i64 n] h [] (λr _ _=>r=.int .i64 (GL p n)):=by
 refine Av func177 ntmps177 Y Y (λw0 hw0=>?_);simp only[A3];refine Aw (Qm Y (Ap (Ac (Aw (Qm Y (Ap (Ah ?_)))))))
 refine AD (λq sl h' ms'=>∃(k:Nat),q=p.toNat-k/\sl=[(0,.pointer (some ⟨g,0,none⟩)),(1,.int .i64 n),(5,.int .i64 k)]/\h=h'/\ms'=[]/\1<=k/\(k:Int)<=p/\∀j:Nat,1<=j->j<k->n*(j:Int)%p≠1)
  (p.toNat-1) _ ⟨1,rfl,rfl,rfl,rfl,by omega,by omega,λj h1 h2=>by omega⟩ Qs ?_
 rintro q sl h' ms' ⟨k,rfl,rfl,rfl,rfl,h1,hk,hno⟩;have hnk:0<=n*(k:Int)/\n*(k:Int)<=997*997:=⟨Int.mul_nonneg hn.1 (by omega),Int.mul_le_mul (by omega) (by omega) (by omega) (by omega)⟩
 refine Ac (Aw (Qm Y (Qm Y (Qm Y (Qf Ik Y (Ql Y U3 (hG _) (Qm Y (Ap ?_))))))));refine Ax Y (λhlt=>?_) (λhlt=>?_)
 ·refine Aj (Ab (Ac (Ah (Aw (Qm Y (Qm Y (Qx (oM Y) Y (Qm Y (Qm Y (Qf Ik Y (Ql Y U3 (hG _) (Qx (Cf Y Y Y (by omega) (by omega)) Y (Qm Y (Ap ?_))))))))))))));refine Ax Y (λhe=>?_) (λhe=>?_)
  ·refine Ac (Ad (Qm Y (Qm Y (Ap (Aq (Al (Ae (Ae (Al (Ae ?_))))))))));exact Az Y Y (by rw[PP h1 hlt he hno])
  ·refine Aj (Ak (Ab (Ad (Qm Y (Qx (oA Y) Y (Qm Y (An ?_)))))));refine Am (p.toNat-(k+1)) _ (by omega) ⟨k+1,Y,Y,Y,Y,by omega,by omega,λj h3 h4=>?_⟩ Qs;rcases (by omega:j<k\/j=k) with h5|rfl
   ·exact hno j h3 h5
   ·exact he
 ·have hkp:(k:Int)=p:=by omega
  refine Ay (Aa (Aa (Ag (Ab (Aw (Qm Y (Ap (Aq ?_))))))));exact Az Y Y (by rw[PR λj h3 h4=>hno j h3 (by omega)])
theorem Z0(p n:Int)(g:Nat)(h:Hp)(hG:∀ms,Cell h ms (⟨g,0,none⟩:Addr) (.int .i64 p))(hp:2<=p/\p<=997)(hn:0<=n/\n<p)(ms:List Hp):FnV Tryz.prog 177 #[.pointer (some ⟨g,0,none⟩),.int .i64 n] h ms (.int .i64 (GL p n)):=EX (Xj p n g h hG hp hn) ms
theorem VT(p t:Int)(g:Nat)(a b:List Int)(va vb:Value)(m h:Hp)(hG:∀ms,Cell h ms (⟨g,0,none⟩:Addr) (.int .i64 p))(hp:2<=p/\p<=997)(ht:0<=t/\t<p)(hA:OwnL cI 1 3 m va a)(hB:RdL cI 1 h [] vb b)(hl:a.length=b.length)(hn:a.length<=1000000)(ra:KP p a)(rb:KP p b) :
  FnT Tryz.prog 178 #[.pointer (some ⟨g,0,none⟩),va,vb,.int .i64 t] h [m] (λ_ h' ms'=>h=h'/\∃m',ms'=[m']/\OwnL cI 1 3 m' va (FX p a b t)):=by
 have oa:=hA.o1;have ob:=hB.rd.one;obtain⟨C,hC⟩:∃C,FX p a b t=C:=⟨_,Y⟩
 have hCl:C.length=a.length:=by rw[<-hC];exact Fu hl
 refine Av func178 ntmps178 Y Y (λw0 hw0=>?_);simp only[A3];refine Aw (Qm Y (Qx (As hB.rd.any Y A0 Y) Y (Qm Y (Ap (Ah ?_)))))
 refine AD (λq sl h' ms'=>∃(i:Nat) (m:Hp),q=b.length-i/\sl=[(0,.pointer (some ⟨g,0,none⟩)),(1,va),(3,.int .i64 t),(10,vb),(11,.int .i64 b.length),(12,.int .i64 i)]/\h=h'/\ms'=[m]/\i<=b.length/\OwnL cI 1 3 m va (C.take i++a.drop i))
  (b.length-0) _ ⟨0,m,rfl,rfl,rfl,rfl,by omega,by simpa using hA⟩ Qs ?_
 rintro q sl h' ms' ⟨i,m,rfl,rfl,rfl,rfl,hi,hO⟩;refine Aw (Qm Y (Ap (Ac ?_)));refine Ax Y (λhlt=>?_) (λhlt=>?_)
 ·have hib:i<b.length:=by omega
  have hia:i<a.length:=by omega
  have hiC:i<C.length:=by omega
  have hlen:(C.take i++a.drop i).length=a.length:=by rw[length_append,length_take,List.length_drop];omega
  have hiO:i<(C.take i++a.drop i).length:=by omega
  have r1:=ra _ (getElem_mem hia);have r2:=rb _ (getElem_mem hib);have hCi:C[i]=(a[i]+t*b[i])%p:=by subst hC;exact ND _ hia hib
  have hset:=V1 C a hCl hiC;rw[hCi]at hset
  have ca:∀ms,m∈ms->Cell h ms ((AJ va).add (i*1)) (.int .i64 a[i]):=λms hm=>by
   have:=(hO.rd (h:=h) (ms:=ms) hm).cell0 hiO Y
   rwa [U8 C a hCl hiC]at this
  have cb:∀ms,Cell h ms ((AJ vb).add (i*1)) (.int .i64 b[i]):=λms=>(hB.any (ms:=ms)).cell0 hib Y;obtain⟨x,hx⟩:∃x,a[i]=x:=⟨_,Y⟩
  obtain⟨y,hy⟩:∃y,b[i]=y:=⟨_,Y⟩
  rw[hx]at r1 ca hset;rw[hy]at r2 cb hset;have hty:0<=t*y/\t*y<=997*997:=⟨Int.mul_nonneg ht.1 r2.1,Int.mul_le_mul (by omega) (by omega) (by omega) (by omega)⟩
  refine Aj (Ab (Ac (Ah (Aw (Qm Y (Qx (BH (i) hB.rd.any Y A0 Ba Y Y) Y (Ql Y U3 (cb _) (Qm Y (Qm Y (Ap (DN 14 [true,true] CZ (by kernel_rfl) (by kernel_rfl) (by kernel_rfl) (D4 Y Y Y Y (Cm Y Y) (D4 Y Y Y Y (Cm Y Y) ?_)))))))))))));refine⟨Y,?_⟩;simp only[Ej,zap,cons_append,nil_append,List.take_succ_cons,List.take_zero,List.drop_succ_cons,List.drop_zero,List.take_nil,List.drop_nil];refine D3 Y Y Y (D3 Y Y Y (Wm Y (Wm Y (AW (AM (i) (hO.rd (h:=h) (ms:=[m]) Mh).rd Y A0 Ba Y Y (by omega) (by omega)) Y Y (Wl Y U3 (ca _ Mh) (Wm Y (Wm Y (AW (oM Y) Y Y (AW (oA Y) Y Y (Wm Y (Wm Y (Wf Ik Y (Wl Y U3 (hG _) (A4 (Qx (Cf Y Y Y (by omega) (by omega)) Y (Qx (AM (i) (hO.rd (h:=h) (ms:=[m]) Mh).rd Y A0 Ba Y Y (by omega) (by omega)) Y (De 0 i hO Y Ba Y Y Y hiO Y Y (λm' hO'=>?_))))))))))))))))));rw[hset]at hO';refine An (HG (Ak (Ab (Ad (Qx (oA Y) Y (Qm Y (An ?_)))))));exact Am (b.length-(i+1)) _ (by omega) ⟨i+1,m',Y,Y,Y,Y,by omega,hO'⟩ Qs
 ·obtain rfl:i=b.length:=by omega
  rw[List.drop_eq_nil_of_le (by omega),append_nil,<-hl,<-hCl,take_length]at hO;rw[hC];refine Ay (Aa (Aa (Ag ?_)));exact B7 Y (⟨Y,m,Y,hO⟩)
end Go.Proofs.Q
namespace Go.Proofs.Q
open Go.Proofs.Tryz
open Go.Eng Go.RowKit Go.Lin
variable {p:Int}
def cU(v:Value):List Value:=[v]
theorem MD:∀v,(cU v).length=1:=λ_=>rfl
def Fb(p:Int)(vc:Value)(gA:Nat)(vr vv:Value)(la:List Int):List Value:=.int .i64 p::vc::.map (some gA)::vr::vv::la.map λn=>.int .i64 n
inductive Ops (p:Int) (n j:Nat) (R V:Nat->List Int) (r v:List Int):List Int->List Int->Prop
 | refl:Ops p n j R V r v r v
 | step {r1 v1:List Int} {k i:Nat} {t:Int}:Ops p n j R V r v r1 v1->k<j->i<n->0<=t->t<p->r1.getD i 0≠0->(R k).getD i 0≠0->Ops p n j R V r v (FX p r1 (R k) t) (FX p v1 (V k) t)
structure Red(p:Int)(n j:Nat)(R V:Nat->List Int)(la:List Int):Prop where
 rl:∀k,k<j->(R k).length=n
 vl:∀k,k<j->(V k).length=n
 rr:∀k,k<j->KP p (R k)
 vr:∀k,k<j->KP p (V k)
 ll:la.length=400
 a0:∀i,i<400->la.getD i 0=0\/∃k,k<j/\la.getD i 0=(k:Int)+1/\Bn (R k)=i
 a1:∀k,k<j->0<=Bn (R k)->la.getD (Bn (R k)).toNat 0=(k:Int)+1
def LaS(j:Nat)(r':List Int)(la la':List Int):Prop:=(Bn r'<0/\la'=la)\/(0<=Bn r'/\la.getD (Bn r').toNat 0=0/\la'=la.set (Bn r').toNat ((j:Int)+1))
theorem EH{l:List Int}{i:Nat}(h:Bn l=i):i<l.length/\l.getD i 0≠0/\∀j,i<j->l.getD j 0=0:=by
 rcases IQ l with ⟨k,hk,e,h1,h2⟩|⟨e,_⟩
 ·obtain rfl:i=k:=by omega
  refine⟨hk,by simpa[List.getD,hk] using h1,λj hj=>?_⟩;by_cases hjl:j<l.length
  ·simpa[List.getD,hjl] using h2 j hjl hj
  ·simp[List.getD,List.getElem?_eq_none (show l.length<=j by omega)]
 ·omega
theorem Gb(hp:0<p){l:List Int}(h:KP p l)(i:Nat):0<=l.getD i 0/\l.getD i 0<p:=by
 by_cases hi:i<l.length
 ·have:=h _ (getElem_mem hi);simpa[List.getD,hi] using this
 ·simp[List.getD,List.getElem?_eq_none (show l.length<=i by omega),hp]
theorem Em{t:Int}{a b:List Int}(hl:a.length=b.length)(i:Nat):(FX p a b t).getD i 0=(a.getD i 0+t*b.getD i 0)%p:=by
 by_cases hi:i<a.length
 ·have h2:i<b.length:=by omega
  have h3:i<(FX p a b t).length:=by rw[Fu hl];exact hi
  have:=ND h3 hi h2;simp only[List.getD,List.getElem?_eq_getElem h3,List.getElem?_eq_getElem hi,List.getElem?_eq_getElem h2,Option.getD_some,this]
 ·have h3:¬i<(FX p a b t).length:=by rw[Fu hl];exact hi
  simp[List.getD,List.getElem?_eq_none (show a.length<=i by omega),List.getElem?_eq_none (show b.length<=i by omega),List.getElem?_eq_none (show(FX p a b t).length<=i by omega)]
theorem Aa8{x b w:Int}(h:b*w%p=1)(hp:0<p):(x+((p-x)*w%p)*b)%p=0:=by
 have h1:=Int.emod_add_mul_ediv (b*w) p;have h2:=Int.emod_add_mul_ediv ((p-x)*w) p;rw[h]at h1;refine Int.emod_eq_zero_of_dvd ⟨1+(p-x)*(b*w/p)-((p-x)*w/p)*b,?_⟩;generalize b*w/p=q1 at h1 ⊢;generalize (p-x)*w/p=q2 at h2 ⊢;have e:(p-x)*w%p=(p-x)*w-p*q2:=by omega
 rw[e];have e2:b*w=1+p*q1:=h1.symm
 have e3:((p-x)*w-p*q2)*b=(p-x)*(b*w)-p*(q2*b):=by rw[Int.sub_mul,Int.mul_assoc,Int.mul_comm w b,Int.mul_assoc]
 rw[e3,e2,Int.mul_sub,Int.mul_add,Int.mul_one,Int.mul_add,Int.mul_one];have e4:p*((p-x)*q1)=(p-x)*(p*q1):=by rw[<-Int.mul_assoc,<-Int.mul_assoc,Int.mul_comm p]
 rw[e4];omega
theorem Tm{t:Int}{a b:List Int}{i:Nat}(hl:a.length=b.length)(ha:Bn a=i)(hb:Bn b=i)(h:(a.getD i 0+t*b.getD i 0)%p=0):Bn (FX p a b t)<i:=by
 obtain⟨h1,h2,h3⟩:=EH ha;obtain⟨h4,h5,h6⟩:=EH hb
 have hz:∀j,i<=j->(FX p a b t).getD j 0=0:=λj hj=>by
  rw[Em hl];rcases (by omega:j=i\/i<j) with rfl|h7
  ·exact h
  ·rw[h3 j h7,h6 j h7];simp
 refine Int.not_le.1 λhle=>?_;obtain⟨k,hk⟩:=Int.eq_ofNat_of_zero_le (show 0<=Bn (FX p a b t) by omega);obtain⟨_,h8,_⟩:=EH hk;exact h8 (hz k (by omega))
theorem KV(p:Int)(vc:Value)(gA:Nat)(vr vv:Value)(la:List Int):(Fb p vc gA vr vv la).length=5+la.length:=by unfold Fb;simp;omega
theorem Uu(p:Int)(vc:Value)(gA:Nat)(vr vv:Value)(la:List Int)(i:Nat)(x:Int):(Fb p vc gA vr vv la).set (5+i) (.int .i64 x)=Fb p vc gA vr vv (la.set i x):=by unfold Fb;rw[show 5+i=i+1+1+1+1+1 by omega];simp only[List.set_cons_succ,List.map_set]
theorem S6(la:List Int)(i:Nat)(hi:i<la.length):(la.map λn=>Value.int .i64 n)[i]?=some (.int .i64 (la.getD i 0)):=by simp[List.getD,hi]
theorem SA(p:Int)(n j:Nat)(g gA:Nat)(vc vr vv:Value)(Rs Vs:List Value)(R V:Nat->List Int)(la r v:List Int)(mr mv h:Hp)(hp:IsP p)(hn:n<=400)(hj:j<n)
  (hRs:RdL cU 1 h [] vr Rs) (hVs:RdL cU 1 h [] vv Vs) (lR:Rs.length=n) (lV:Vs.length=n) (hR:∀k,k<j->RdL cI 1 h [] (Rs.getD k undef) (R k)) (hV:∀k,k<j->RdL cI 1 h [] (Vs.getD k undef) (V k)) (D:Red p n j R V la) (oc:vc.oneCell'=true)
  (Or:OwnL cI 1 3 mr (Rs.getD j undef) r) (Ov:OwnL cI 1 3 mv (Vs.getD j undef) v) (lr:r.length=n) (lv:v.length=n) (rr:KP p r) (rv:KP p v) :
  FnT Tryz.prog 121 #[.pointer (some ⟨g,0,none⟩),.int .i64 j] h [Bw g 130 (Fb p vc gA vr vv la),mr,mv] (λ_ h' ms'=>h.le h'/\∃r' v' la' mr' mv',ms'=[Bw g 130 (Fb p vc gA vr vv la'),mr',mv']/\OwnL cI 1 3 mr' (Rs.getD j undef) r'/\OwnL cI 1 3 mv' (Vs.getD j undef) v'/\Ops p n j R V r v r' v'/\r'.length=n/\v'.length=n/\KP p r'/\KP p v'/\LaS j r' la la'):=by
 have hp1:=hp.1;have hp9:=hp.2.1;refine Av func121 ntmps121 Y Y (λw0 hw0=>?_);simp only[A3];refine Gn λh1 l1 lG dG LG=>?_;have hRs:=hRs.up l1;have hVs:=hVs.up l1;have hR:=λk hk=>(hR k hk).up l1;have hV:=λk hk=>(hV k hk).up l1;have hS:=Seg.ofLe lG;have oR:=hRs.rd.one;have oV:=hVs.rd.one;refine Ah ?_
 refine AD (λq sl h' ms'=>∃(r' v':List Int) (mr mv:Hp),q=(Bn r'+1).toNat/\sl=[(0,.pointer (some ⟨g,0,none⟩)),(1,.int .i64 j)]/\h1.le h'/\ms'=[mr,mv]/\OwnL cI 1 3 mr (Rs.getD j undef) r'/\OwnL cI 1 3 mv (Vs.getD j undef) v'/\Ops p n j R V r v r' v'/\r'.length=n/\v'.length=n/\KP p r'/\KP p v')
  _ _ ⟨r,v,mr,mv,rfl,rfl,B8,rfl,Or,Ov,.refl,lr,lv,rr,rv⟩ Qs ?_
 rintro q sl h2 ms' ⟨r1,v1,mr,mv,rfl,rfl,l2,rfl,Or,Ov,hO,lr,lv,rr,rv⟩;have hRs:=hRs.up l2;have hVs:=hVs.up l2;have hR:=λk hk=>(hR k hk).up l2;have hV:=λk hk=>(hV k hk).up l2;have hS:=hS.le l2;refine Gn λh3 l3 lM dM LM=>?_;have Rr:RdL cI 1 h3 [] (Rs.getD j undef) r1:=Or.rdh (h:=h3) (ms:=[]) lM;have hRs3:=hRs.up l3;have hVs3:=hVs.up l3;have hS3:=hS.le l3;have hjR:j<Rs.length:=by omega
 have hjV:j<Vs.length:=by omega
 have eR:Rs.getD j undef=Rs[j]:=by simp[List.getD,hjR]
 have eV:Vs.getD j undef=Vs[j]:=by simp[List.getD,hjV]
 have a0:∀ms,Cell h3 ms (⟨g,0,none⟩:Addr) (.int .i64 p):=λms=>Seg.all hS3 0 _ Y ms;have a3:∀ms,Cell h3 ms (⟨g,3,none⟩:Addr) vr:=λms=>Seg.all hS3 3 _ Y ms;have a4:∀ms,Cell h3 ms (⟨g,4,none⟩:Addr) vv:=λms=>Seg.all hS3 4 _ Y ms;have cR:∀ms,Cell h3 ms ((AJ vr).add (j*1)) (Rs.getD j undef):=λms=>by rw[eR];exact(hRs3.any (ms:=ms)).cell0 hjR Y
 have orj:=Rr.rd.one;refine Ah (Aw (Qm Y (Qm Y (Qf FJ Y (Ql Y Cu (a3 _) (Qm Y (Qx (BH (j) hRs3.rd.any Y Cu Cw Y Y) Y (Ql Y A0 (cR _) (Qx (AR Y call95 Y (VR (Rs.getD j undef) r1 h3 Rr (by omega) _)) Y (Qm Y (Ap (Ac (Aw (Qm Y (Qm Y (Ap ?_))))))))))))))));refine Ax Y (λhneg=>?_) (λhneg=>?_)
 ·refine Aq (Ae (Al (Ae (Al (RD LM lM λh4 l4 b4=>(RD LG (b4 _ (AI lG (AI l2 l3)) (FB (AI lG l2) dM)) λh5 l5 b5=>?_))))));have l05:h.le h5:=b5 _ (b4 _ (AI l1 (AI l2 l3)) (FB (AI l1 l2) dM)) dG;exact EE Y (⟨l05,r1,v1,la,mr,mv,Y,Or,Ov,hO,lr,lv,rr,rv,.inl ⟨hneg,Y⟩⟩)
 ·obtain⟨i,hi⟩:=Int.eq_ofNat_of_zero_le (show 0<=Bn r1 by omega);obtain⟨hi1,hi2,hi3⟩:=EH hi;have hin:i<400:=by omega
  have hla:=D.ll
  have cL:∀ms,Cell h3 ms ((⟨g,5,none⟩:Addr).add (i*1)) (.int .i64 (la.getD i 0)):=λms=>by
   have:(Fb p vc gA vr vv la)[5+i]?=some (.int .i64 (la.getD i 0)):=by unfold Fb;rw[show 5+i=i+1+1+1+1+1 by omega];simp only[List.getElem?_cons_succ];exact S6 la i (by omega)
   have:=Seg.all hS3 (5+i) _ this ms;show Cell h3 ms (((⟨g,0,none⟩:Addr).add 5).add (i*1)) _;rw[BZ,Nat.mul_one];exact this
  rw[hi];have hl0:=D.a0 i hin;obtain⟨li,hli⟩:∃li,la.getD i 0=li:=⟨_,Y⟩
  rw[hli]at cL hl0
  have hlb:0<=li/\li<=400:=by rcases hl0 with h|⟨k,hk,h,_⟩<;>omega
  refine Aj (Ab (Aw (Qm Y (Qm Y (Qm Y (Qf Rh Y (Qx (CH (i) Y AaD Ba Y Y (by omega) (by omega)) Y (Ql Y U3 (cL _) (Qx (oS Y) Y (Qm Y (Ap (Ac (Aw (Qm Y (Qm Y (Ap ?_))))))))))))))));refine Ax Y (λhk0=>?_) (λhk0=>?_)
  ·have hl00:li=0:=by rcases hl0 with h|⟨k,hk,h,_⟩<;>omega
   refine FI LM lM λh4 l4 b4=>?_;have lG4:=b4 _ (AI lG (AI l2 l3)) (FB (AI lG l2) dM);refine FI LG lG4 λh5 l5 b5=>?_;have l05:h.le h5:=b5 _ (b4 _ (AI l1 (AI l2 l3)) (FB (AI l1 l2) dM)) dG;refine Aw (Qm Y (Qm Y (Qm Y (Qx (oA Y) Y (Qm Y (Qf Rh Y (Qx (CH (i) Y AaD Ba Y Y (by omega) (by omega)) Y ?_)))))));refine Af 0 (5+i) Y Ba Y Y Y Y (by rw[Nat.mul_one];exact BZ (⟨g,0,none⟩:Addr) 5 i) (by rw[KV];omega) rfl rfl ?_;rw[Uu];refine Ap (Aq (Ae (Al (Ae (Al ?_)))));exact EE Y (⟨l05,r1,v1,la.set i ((j:Int)+1),mr,mv,Y,Or,Ov,hO,lr,lv,rr,rv,.inr ⟨by omega,by rw[hi,Int.toNat_natCast,hli,hl00],by rw[hi,Int.toNat_natCast]⟩⟩)
  ·obtain⟨k,hkj,rfl,hlk⟩:∃k,k<j/\li=(k:Int)+1/\Bn (R k)=i:=by
    rcases hl0 with h|h
    ·omega
    ·exact h
   have hkR:k<Rs.length:=by omega
   have hkV:k<Vs.length:=by omega
   have eRk:Rs.getD k undef=Rs[k]:=by simp[List.getD,hkR]
   have eVk:Vs.getD k undef=Vs[k]:=by simp[List.getD,hkV]
   have hRk:=(hR k hkj).up l3;have hVk:=(hV k hkj).up l3;have lRk:=D.rl k hkj;have lVk:=D.vl k hkj;obtain⟨hk1,hk2,_⟩:=EH hlk;have cRk:∀ms,Cell h3 ms ((AJ vr).add (k*1)) (Rs.getD k undef):=λms=>by rw[eRk];exact(hRs3.any (ms:=ms)).cell0 hkR Y
   have cx:∀ms,Cell h3 ms ((AJ (Rs.getD j undef)).add (i*1)) (.int .i64 (r1.getD i 0)):=λms=>by rw[show r1.getD i 0=r1[i] by simp[List.getD,hi1]];exact(Rr.any (ms:=ms)).cell0 hi1 Y
   have cb:∀ms,Cell h3 ms ((AJ (Rs.getD k undef)).add (i*1)) (.int .i64 ((R k).getD i 0)):=λms=>by rw[show(R k).getD i 0=(R k)[i] by simp[List.getD,hk1]];exact(hRk.any (ms:=ms)).cell0 hk1 Y
   have bx:=Gb (by omega) rr i;have bb:=Gb (by omega) (D.rr k hkj) i;obtain⟨x,hx⟩:∃x,r1.getD i 0=x:=⟨_,Y⟩
   obtain⟨b,hb⟩:∃b,(R k).getD i 0=b:=⟨_,Y⟩
   rw[hx]at cx bx hi2;rw[hb]at cb bb hk2;have hinv:=Tu hp (show 0<b by omega) bb.2;have hwb:=Ud hp1 b;obtain⟨w,hw⟩:∃w,GL p b=w:=⟨_,Y⟩
   rw[hw]at hinv hwb;have hpw:0<=(p-x)*w/\(p-x)*w<=997*997:=⟨Int.mul_nonneg (by omega) (by omega),Int.mul_le_mul (by omega) (by omega) (by omega) (by omega)⟩
   have hkill:=Aa8 (x:=x) hinv (show 0<p by omega);have hov:=Z0 p b g h3 a0 ⟨hp1,hp9⟩ ⟨bb.1,bb.2⟩;rw[hw]at hov;have ht0:=Int.emod_nonneg ((p-x)*w) (show p≠0 by omega);have ht1:=Int.emod_lt_of_pos ((p-x)*w) (show 0<p by omega);have ork:=hRk.rd.one;have ovj:(Vs.getD j undef).oneCell'=true:=Ov.o1;have ovk:=hVk.rd.one;refine Aj (Ab (Ac (Bc 32 CZ (by kernel_rfl) Y (Wm Y (Wm Y (Wf Ik Y (Wl Y U3 (a0 _) (Wm Y (Wm Y (Wf FJ Y (Wl Y Cu (a3 _) (Wm Y (AW (BH (j) hRs3.rd.any Y Cu Cw Y Y) Y Y (Wl Y A0 (cR _) (Wm Y (AW (BH (i) Rr.rd.any Y A0 Ba Y Y) Y Y (Wl Y U3 (cx _) (AW (oS Y) Y Y (Wm Y (Wm Y (Wm Y (Wf FJ Y (Wl Y Cu (a3 _) (Wm Y (AW (BH (k) hRs3.rd.any Y Cu Cw Y Y) Y Y (Wl Y A0 (cRk _) (Wm Y (AW (BH (i) hRk.rd.any Y A0 Ba Y Y) Y Y (Wl Y U3 (cb _) (AW (AR Y call177 Y (hov _)) Y Y (AW (oM Y) Y Y (Wm Y (Wm Y (Wf Ik Y (Wl Y U3 (a0 _) (A4 (Qx (Cf Y Y Y (by omega) (by omega)) Y (Qm Y (Ap ?_)))))))))))))))))))))))))))))))))))))));obtain⟨t,ht⟩:∃t,(p-x)*w%p=t:=⟨_,Y⟩
   rw[ht]at hkill ht0 ht1 ⊢;refine FI LM lM λh4 l4 b4=>?_;have l24:=b4 _ l3 dM;have hRs:=hRs.up l24;have hVs:=hVs.up l24;have hRk:=(hR k hkj).up l24;have hVk:=(hV k hkj).up l24;have hS:=hS.le l24;have a0:∀ms,Cell h4 ms (⟨g,0,none⟩:Addr) (.int .i64 p):=λms=>Seg.all hS 0 _ Y ms;have a3:∀ms,Cell h4 ms (⟨g,3,none⟩:Addr) vr:=λms=>Seg.all hS 3 _ Y ms;have a4:∀ms,Cell h4 ms (⟨g,4,none⟩:Addr) vv:=λms=>Seg.all hS 4 _ Y ms;have cR:∀ms,Cell h4 ms ((AJ vr).add (j*1)) (Rs.getD j undef):=λms=>by rw[eR];exact(hRs.any (ms:=ms)).cell0 hjR Y
   have cRk:∀ms,Cell h4 ms ((AJ vr).add (k*1)) (Rs.getD k undef):=λms=>by rw[eRk];exact(hRs.any (ms:=ms)).cell0 hkR Y
   have cV:∀ms,Cell h4 ms ((AJ vv).add (j*1)) (Vs.getD j undef):=λms=>by rw[eV];exact(hVs.any (ms:=ms)).cell0 hjV Y
   have cVk:∀ms,Cell h4 ms ((AJ vv).add (k*1)) (Vs.getD k undef):=λms=>by rw[eVk];exact(hVs.any (ms:=ms)).cell0 hkV Y
   refine Ac (Bc 16 CZ (by kernel_rfl) Y (Wm Y (Wm Y (Wm Y (Wf FJ Y (Wl Y Cu (a3 _) (Wm Y (AW (BH (j) hRs.rd.any Y Cu Cw Y Y) Y Y (Wl Y A0 (cR _) (Wm Y (Wm Y (Wf FJ Y (Wl Y Cu (a3 _) (Wm Y (AW (BH (k) hRs.rd.any Y Cu Cw Y Y) Y Y (Wl Y A0 (cRk _) (Wm Y (A4 (Bb (pre:=[mr]) Y call178 Y (VT p t g r1 (R k) _ _ mr h4 a0 ⟨hp1,hp9⟩ ⟨ht0,ht1⟩ Or hRk (by omega) (by omega) rr (D.rr k hkj)) Y Y Y Y (λ_ h5 ms5 l5 hF=>?_))))))))))))))))))));obtain⟨rfl,mr',rfl,Or'⟩:=hF;refine Ap (Bc 16 CZ (by kernel_rfl) Y (Wm Y (Wm Y (Wm Y (Wf JW Y (Wl Y Cu (a4 _) (Wm Y (AW (BH (j) hVs.rd.any Y Cu Cw Y Y) Y Y (Wl Y A0 (cV _) (Wm Y (Wm Y (Wf JW Y (Wl Y Cu (a4 _) (Wm Y (AW (BH (k) hVs.rd.any Y Cu Cw Y Y) Y Y (Wl Y A0 (cVk _) (Wm Y (A4 (MS 1 Y (Bb (pre:=[mv]) Y call178 Y (VT p t g v1 (V k) _ _ mv h4 a0 ⟨hp1,hp9⟩ ⟨ht0,ht1⟩ Ov hVk (by omega) (by omega) rv (D.vr k hkj)) Y Y Y Y (λ_ h6 ms6 l6 hF=>?_)))))))))))))))))))));obtain⟨rfl,mv',rfl,Ov'⟩:=hF;have hll:r1.length=(R k).length:=by omega
   have hlv:v1.length=(V k).length:=by omega
   have hless:=Tm (p:=p) (t:=t) hll hi hlk (by rw[hx,hb];exact hkill);have hO':=hO.step (t:=t) hkj (show i<n by omega) ht0 ht1 (by rw[hx];exact hi2) (by rw[hb];exact hk2);have hpp:0<p:=by omega
   refine An (Ak (CD 1 Y ?_));exact Am (Bn (FX p r1 (R k) t)+1).toNat _ (by omega) ⟨_,_,mr',mv',Y,Y,AI l2 l24,Y,Or',Ov',hO',by rw[Fu hll];exact lr,by rw[Fu hlv];exact lv,NN hpp _ _,NN hpp _ _⟩ Qs
end Go.Proofs.Q
namespace Go.Proofs
open Go.Proofs.Tryz
open Go.Shelf
def Tryz.laysSlF06_ren:Go.Shelf.Ren:=⟨fun|6=>147|15=>201|14=>200|28=>248|29=>249|20=>240|21=>241|22=>242|23=>243|24=>244|25=>245|26=>246|27=>247|46=>280|47=>281|48=>282|49=>283|50=>284|57=>300|n=>n,fun|22=>27|24=>52|25=>192|3=>3|39=>223|0=>0|53=>282|55=>222|4=>4|46=>276|45=>275|50=>124|5=>5|9=>9|66=>309|70=>313|76=>332|77=>333|n=>n,fun|n=>n⟩
theorem Tryz.laysSlF06:Go.Proofs.SlLaysF0.n6 prog Tryz.laysSlF06_ren:={
  mixed:=by kernel_rfl
  f6:=⟨f147.name,by decide,func147.trans (congrArg some (by kernel_rfl))⟩
  f14:=⟨f200.name,by decide,func200.trans (congrArg some (by kernel_rfl))⟩
  f15:=func201.trans (congrArg some (by kernel_rfl))
  f20:=⟨f240.name,by decide,func240.trans (congrArg some (by kernel_rfl))⟩
  f21:=⟨f241.name,by decide,func241.trans (congrArg some (by kernel_rfl))⟩
  f22:=⟨f242.name,by decide,func242.trans (congrArg some (by kernel_rfl))⟩
  f23:=⟨f243.name,by decide,func243.trans (congrArg some (by kernel_rfl))⟩
  f24:=⟨f244.name,by decide,func244.trans (congrArg some (by kernel_rfl))⟩
  f25:=⟨f245.name,by decide,func245.trans (congrArg some (by kernel_rfl))⟩
  f26:=⟨f246.name,by decide,func246.trans (congrArg some (by kernel_rfl))⟩
  f27:=⟨f247.name,by decide,func247.trans (congrArg some (by kernel_rfl))⟩
  f28:=func248.trans (congrArg some (by kernel_rfl))
  f29:=func249.trans (congrArg some (by kernel_rfl))
  f46:=⟨f280.name,by decide,func280.trans (congrArg some (by kernel_rfl))⟩
  f47:=func281.trans (congrArg some (by kernel_rfl))
  f48:=func282.trans (congrArg some (by kernel_rfl))
  f49:=⟨f283.name,by decide,func283.trans (congrArg some (by kernel_rfl))⟩
  f50:=⟨f284.name,by decide,func284.trans (congrArg some (by kernel_rfl))⟩
  f57:=⟨f300.name,by decide,func300.trans (congrArg some (by kernel_rfl))⟩
  t0:=underlying0
  a0:=isAgg0
  z0:=sizeOf0
  v0:=zeroValue0
  t3:=underlying3
  a3:=isAgg3
  z3:=sizeOf3
  v3:=zeroValue3
  t4:=underlying4
  a4:=isAgg4
  z4:=sizeOf4
  v4:=zeroValue4
  t5:=underlying5
  a5:=isAgg5
  z5:=sizeOf5
  v5:=zeroValue5
  t9:=underlying9
  a9:=isAgg9
  z9:=sizeOf9
  v9:=zeroValue9
  t22:=underlying27
  a22:=isAgg27
  z22:=sizeOf27
  v22:=zeroValue27
  t25:=underlying192
  a25:=isAgg192
  z25:=sizeOf192
  v25:=zeroValue192
  t39:=underlying223
  a39:=isAgg223
  z39:=sizeOf223
  v39:=zeroValue223
  t45:=underlying275
  a45:=isAgg275
  z45:=sizeOf275
  v45:=zeroValue275
  t46:=underlying276
  a46:=isAgg276
  z46:=sizeOf276
  v46:=zeroValue276
  t50:=underlying124
  a50:=isAgg124
  z50:=sizeOf124
  v50:=zeroValue124
  t53:=underlying282
  a53:=isAgg282
  z53:=sizeOf282
  v53:=zeroValue282
  t55:=underlying222
  a55:=isAgg222
  z55:=sizeOf222
  v55:=zeroValue222
  t66:=underlying309
  a66:=isAgg309
  z66:=sizeOf309
  v66:=zeroValue309
  t70:=underlying313
  a70:=isAgg313
  z70:=sizeOf313
  v70:=zeroValue313
  t76:=underlying332
  a76:=isAgg332
  z76:=sizeOf332
  v76:=zeroValue332
  t77:=underlying333
  a77:=isAgg333
  z77:=sizeOf333
  v77:=zeroValue333 }
end Go.Proofs

namespace Go.Proofs.Q
open Go.Proofs.Tryz
open Go.Eng Go.RowKit Go.Lin Go.Sort Go.Srt
def AaW(l:List Int)(r:Int):Prop:=(∃(i:Nat) (hi:i<l.length),r=l[i]/\l[i]≠0/\∀j (hj:j<l.length),j<i->l[j]=0)\/(r=0/\∀j (hj:j<l.length),l[j]=0)
def or3(a b c:Int):Int:=if a≠0 then a else if b≠0 then b else c
theorem ZI{a b c r:Int}(h:AaW [a,b,c] r):r=or3 a b c:=by
 unfold or3;rcases h with ⟨i,hi,rfl,h1,h2⟩|⟨rfl,h⟩
 ·have hi:i<3:=hi;rcases (by omega:i=0\/i=1\/i=2) with rfl|rfl|rfl
  ·have h1:a≠0:=h1;show a=_;rw[if_pos h1]
  ·have h1:b≠0:=h1;have h3:a=0:=h2 0 (by simp) (by decide);show b=_;rw[if_neg (λq=>q h3),if_pos h1]
  ·have h3:a=0:=h2 0 (by simp) (by decide);have h4:b=0:=h2 1 (by simp) (by decide);show c=_;rw[if_neg (λq=>q h3),if_neg (λq=>q h4)]
 ·have h3:a=0:=h 0 (by simp);have h4:b=0:=h 1 (by simp);have h5:c=0:=h 2 (by simp);rw[if_neg (λq=>q h3),if_neg (λq=>q h4),h5]
structure CeI where
 c:Cl
 v:Value
 one:v.oneCell'=true
 i:BP c.id
instance:Inhabited CeI:=⟨⟨default,.slice none 0 0,rfl,by decide⟩⟩
def CeI.ce(a:CeI):Ce:=⟨a.c,a.v⟩
def QW(a:CeI):List Value:=[.int .i64 a.c.id,.int .i64 a.c.dim,a.v]
theorem Ey:∀a,(QW a).length=3:=λ_=>rfl
theorem Yh(s:CeI):∀c∈QW s,c.oneCell'=true:=λc hc=>by
 simp only[QW,mem_cons,not_mem_nil,or_false]at hc;rcases hc with rfl|rfl|rfl
 ·rfl
 ·rfl
 ·exact s.one
theorem Uc(l:List CeI):(l.map CeI.ce).flatMap cC=l.flatMap QW:=by rw[List.flatMap_map];rfl
theorem Uf:∀A:List Ce,(∀a∈A,a.v.oneCell'=true/\BP a.c.id)->∃l:List CeI,l.map CeI.ce=A
 | [],_=>⟨[],rfl⟩
 | a::A,h=>by obtain⟨l,hl⟩:=Uf A λb hb=>h b (List.Mem.tail _ hb);exact⟨⟨a.c,a.v,(h a Mh).1,(h a Mh).2⟩::l,by rw[map_cons,hl];rfl⟩
theorem own_ceI{m:Hp}{v:Value}{l:List CeI}:OwnL cC 3 52 m v (l.map CeI.ce)<->OwnL QW 3 52 m v l:=by
 constructor
 ·intro O;have h:=O.own;rw[Uc,length_map]at h;exact⟨h,Ey⟩
 ·intro O;refine⟨?_,λ_=>rfl⟩;rw[Uc,length_map];exact O.own
def Pc(f:Int->Int)(x y:CeI):Int:=or3 (c3 (f x.c.id) (f y.c.id)) (c3 x.c.dim y.c.dim) (c3 x.c.id y.c.id)
theorem JK(f:Int->Int)(x y:CeI):Pc f x y<0<->f x.c.id<f y.c.id\/(f x.c.id=f y.c.id/\(x.c.dim<y.c.dim\/(x.c.dim=y.c.dim/\x.c.id<y.c.id))):=by
 unfold Pc or3 c3
 repeat' split
 all_goals omega
theorem V4(f:Int->Int):SWO (ltOf (Pc f)):=by
 refine⟨λx=>?_,λx y z h1 h2=>?_,λx y z h1 h2=>?_⟩
 ·unfold ltOf;rw[decide_eq_false_iff_not,JK];omega
 ·unfold ltOf at *;rw[decide_eq_true_iff,JK]at *;omega
 ·unfold ltOf at *;rw[decide_eq_false_iff_not,JK]at *;omega
theorem Aaq(v:Value)(l:List Int)(h:Hp)(hR:RdL cI 1 h [] v l)(hn:l.length<=1000000):FnT Tryz.prog 149 #[v] h [] (λr _ _=>∃x,r=.int .i64 x/\AaW l x):=by
 have o1:=hR.rd.one;refine Av func149 ntmps149 Y Y (λw0 hw0=>?_);simp only[A3];refine Aw (Qm Y (BN (Qm Y (Ap (Ac (Aw (Qm Y (Qx (As hR.rd.any Y A0 Y) Y (Qm Y (Ap (Ah ?_)))))))))))
 refine AD (λq s h' ms'=>∃(k:Nat),q=l.length-k/\s=[(3,.int .i64 0),(6,v),(7,.int .i64 l.length),(8,.int .i64 k)]/\h=h'/\ms'=[]/\k<=l.length/\∀j (hj:j<l.length),j<k->l[j]=0)
  (l.length-0) _ ⟨0,rfl,rfl,rfl,rfl,by omega,λj _ hj=>by omega⟩ Qs ?_
 rintro q s h' ms' ⟨k,rfl,rfl,rfl,rfl,hk,hno⟩;refine Aw (Qm Y (Ap (Ac ?_)));refine Ax Y (λhlt=>?_) (λhlt=>?_)
 ·have hkn:k<l.length:=by omega
  have ck:∀ms,Cell h ms ((AJ v).add (k*1)) (.int .i64 l[k]):=λms=>(hR.any (ms:=ms)).cell0 hkn Y;refine Aj (Ab (Ac (Ah (Aw (Qx (BH (k) hR.rd.any Y A0 Ba Y Y) Y (Ql Y U3 (ck _) (Qm Y (BN (Qm Y (Qm Y (Qm Y (Ap ?_))))))))))));refine Ax Y (λhz=>?_) (λhz=>?_)
  ·refine Ac (Ad (Qm Y (Qm Y (Ap (Aq (Al (Ae (Ae (Al (Ae ?_))))))))));exact Az Y Y (⟨_,Y,.inl ⟨k,hkn,Y,hz,hno⟩⟩)
  ·refine Aj (Ak (Ab (Ad (Qx (oA Y) Y (Qm Y (An ?_))))));refine Am (l.length-(k+1)) _ (by omega) ⟨k+1,Y,Y,Y,Y,by omega,λj hj hjk=>?_⟩ Qs;rcases (by omega:j<k\/j=k) with h2|rfl
   ·exact hno j hj h2
   ·exact Classical.not_not.1 hz
 ·obtain rfl:k=l.length:=by omega
  refine Ay (Aa (Aa (Ag (Ab (Aw (Qm Y (Qm Y (Ap (Aq ?_)))))))));exact Az Y Y (⟨_,Y,.inr ⟨Y,λj hj=>hno j hj hj⟩⟩)
theorem Abf(g:Nat)(a b c:Int)(h:Hp)(ms:List Hp)(hm:Bw g 3 [.int .i64 a,.int .i64 b,.int .i64 c]∈ms):FnV Tryz.prog 149 #[.slice (some ⟨g,0,none⟩) 3 3] h ms (.int .i64 (or3 a b c)):=
 CG λh' _ hl=>EX ((Aaq _ [a,b,c] h' ((OwnL.blk (g:=g) (el:=3) (F:=cI) (l:=[a,b,c]) 3 Bl rfl (by decide)).rdh (h:=h') (ms:=[]) (hl _ hm)) (by simp)).mono λr _ _ ⟨x,e,hx⟩=>by rw[e,ZI hx]) []
theorem AaF(T:List (Int×Int))(gA gm g:Nat)(mA:Hp)(bs:List Nat)(x y:CeI)(h:Hp)(e10:∀ms,Cell h ms (⟨g,0,none⟩:Addr) (.pointer (some ⟨gm,0,none⟩)))(e2:∀ms,Cell h ms (⟨gm,2,none⟩:Addr) (.map (some gA)))(O:CC kN kN gA BP mA T bs)(lA:mA.le h)(ms:List Hp) :
  FnV Tryz.prog 148 #[.agg (QW x).toArray,.agg (QW y).toArray,.pointer (some ⟨g,0,none⟩)] h ms (.int .i64 (Pc (λc=>(Bj T c).getD 0) x y)):=by
 refine EX ?_ ms;have o1:=x.one;have o2:=y.one;show FnT _ _ #[.agg #[.int .i64 x.c.id,.int .i64 x.c.dim,x.v],.agg #[.int .i64 y.c.id,.int .i64 y.c.dim,y.v],.pointer (some ⟨g,0,none⟩)] _ _ _;refine Av func148 ntmps148 Y Y (λw0 hw0=>?_);simp only[A3];refine Aw (AY [_,_,_] Y Y (by rfl) Y Y Y (λg3=>AY [_,_,_] Y Y (by rfl) Y Y Y (λg4=>Qm Y (Ap (AB λh1 l1 hG4=>(AB λh2 l2 hG3=>?_))))));have hG4:=hG4.le l2;have l12:=AI l1 l2;have e10:∀ms,Cell h2 ms (⟨g,0,none⟩:Addr) (.pointer (some ⟨gm,0,none⟩)):=λms=>(e10 ms).le l12;have e2:∀ms,Cell h2 ms (⟨gm,2,none⟩:Addr) (.map (some gA)):=λms=>(e2 ms).le l12;have e30:∀ms,Cell h2 ms (⟨g3,0,none⟩:Addr) (.int .i64 x.c.id):=λms=>Seg.all hG3 0 _ Y ms;have e31:∀ms,Cell h2 ms (⟨g3,1,none⟩:Addr) (.int .i64 x.c.dim):=λms=>Seg.all hG3 1 _ Y ms;have e40:∀ms,Cell h2 ms (⟨g4,0,none⟩:Addr) (.int .i64 y.c.id):=λms=>Seg.all hG4 0 _ Y ms;have e41:∀ms,Cell h2 ms (⟨g4,1,none⟩:Addr) (.int .i64 y.c.dim):=λms=>Seg.all hG4 1 _ Y ms;refine Ac (Bc 24 CZ (by kernel_rfl) Y (Wl Y TE (e10 _) (Wm Y (Wf J1 Y (Wl Y Ll (e2 _) (Wf Bq Y (Wl Y U3 (e30 _) (AW (B9 (V:=kN) (z:=(0:Int)) (u:=(Bj T x.c.id).getD 0) x.c.id Y Bh O (AI lA l12) Y Ll HJ Y Y x.i) Y Y (Wl Y TE (e10 _) (Wm Y (Wf J1 Y (Wl Y Ll (e2 _) (Wf Bq Y (Wl Y U3 (e40 _) (AW (B9 (V:=kN) (z:=(0:Int)) (u:=(Bj T y.c.id).getD 0) y.c.id Y Bh O (AI lA l12) Y Ll HJ Y Y y.i) Y Y (AW (AR Y call150 Y (Gc _ _ _ _)) Y Y (Wf BV Y (Wl Y U3 (e31 _) (Wf BV Y (Wl Y U3 (e41 _) (AW (AR Y call150 Y (Gc _ _ _ _)) Y Y (Wf Bq Y (Wl Y U3 (e30 _) (Wf Bq Y (Wl Y U3 (e40 _) (A4 (Qx (AR Y call150 Y (Gc _ _ _ _)) Y (AA [(0,_),(1,_),(2,_)] [.int .i64 0,.int .i64 0,.int .i64 0] [_,_,_] Y A0 Ba Y (by omega) (by kernel_rfl) Qt Y Y Y Y (λg31=>?_)))))))))))))))))))))))))))));refine Qx (AR Y call149 Y (Abf _ _ _ _ _ _ (by repeat (first|exact Mh|refine List.Mem.tail _ ?_)))) Y ?_;refine Qm Y (Ap (Aq ?_));exact Az Y Y (Y)
def Dn(T:List (Int×Int))(c:Int):Int:=(Bj T c).getD 0
theorem R5(T:List (Int×Int))(gA gm g0:Nat)(mA:Hp)(bs:List Nat)(l:List CeI)(v:Value)(m h:Hp)(e10:∀ms,Cell h ms (⟨g0,0,none⟩:Addr) (.pointer (some ⟨gm,0,none⟩)))(e2:∀ms,Cell h ms (⟨gm,2,none⟩:Addr) (.map (some gA)))(OA:CC kN kN gA BP mA T bs)(lA:mA.le h)(O:OwnL QW 3 52 m v l)(hl:l.length<=1000000) :
  FnT Tryz.prog 147 #[v,.func (.func 148) #[] #[.pointer (some ⟨g0,0,none⟩)]] h [m] (λ_ h' ms'=>h=h'/\∃(l':List CeI) (m':Hp),ms'=[m']/\OwnL QW 3 52 m' v l'/\l'.Perm l/\l'.Pairwise λa b=>¬Pc (Dn T) b a<0):=by
 intro w hw;obtain⟨⟨h1,h2⟩,hF⟩:=O;rcases h2 with ⟨rfl,h4,rfl⟩|⟨g,cap,spare,rfl,rfl,e1,e2',e3⟩
 ·obtain rfl:l=[]:=List.length_eq_zero_iff.1 h4;refine(AnyF.slices_SortFunc_none Tryz.laysSlF06 none 0 (.func (.func 148) #[] #[.pointer (some ⟨g0,0,none⟩)]) w).mono λx w' ⟨e,ew⟩=>?_;subst ew;exact⟨_,h,[Hp.emp],e,Ends.refl hw,Y,[],Hp.emp,Y,OwnL.nil Ey,List.Perm.refl _,List.Pairwise.nil⟩
 ·have hg:w.heap[g]?=some (.cells (l.toArray.toList.flatMap QW++spare).toArray 52 (0,0)):=hw.own _ (List.mem_singleton.2 Y) g _ (Hp.one_self _ _);have hlt:=(Array.getElem?_eq_some_iff.1 hg).1
  have hlays:CmpLays Tryz.prog 148 #[.pointer (some ⟨g0,0,none⟩)] QW 3 (Pc (Dn T)) g 0 l.toArray.size w:=λmm os dk hs x y=>by have hE:=LH (enc:=QW) (n:=mm) (el:=52) Ey (by omega) l.toArray dk hs spare os hw;exact(AaF T gA gm g0 mA bs x y h e10 e2 OA lA [] _ (hE.st.weaken (B8) (List.nil_sublist _))).mono λ_ _ ⟨e,h⟩=>⟨e,h.grown⟩
  refine(AnyQ.slices_SortFunc Tryz.laysSlF06 3 Tryz.isAgg52 Tryz.sizeOf52 QW Ey Yh (Pc (Dn T)) (V4 _) 148 #[.pointer (some ⟨g0,0,none⟩)] g 0 cap l.toArray w call148 hlays (SZ Ey (by omega) l.toArray spare hg) hlt (by simp;omega)).mono λx w' ⟨e,d',n,os,P,S,ew⟩=>?_;subst ew;have hsz:d'.size=l.length:=by have:=P.1;simpa using this
  have hE:=LH (enc:=QW) (n:=n) (el:=52) Ey (by omega) l.toArray d' (by simpa using hsz) spare os hw;refine⟨_,h,_,e,hE,Y,d'.toList,_,Y,⟨⟨?_,.inr ⟨g,cap,spare,?_,Y,?_,?_,e3⟩⟩,Ey⟩,?_,?_⟩
  ·exact Bg Ey _
  ·have:d'.toList.length=l.length:=by rw[Array.length_toList,hsz]
   rw[this]
  ·rw[length_append,Bg Ey,Array.length_toList,hsz,<-Bg Ey l,<-length_append];exact e1
  ·rw[Array.length_toList,hsz];exact e2'
  ·have h:=P.2.2;have q1:d'.extract 0 l.toArray.size=d':=by rw[<-P.1];simp
   have q2:l.toArray.extract 0 l.toArray.size=l.toArray:=by simp
   rw[q1,q2]at h;exact h
  ·rw[List.pairwise_iff_getElem];intro i j hi hj hij;have hi':i<d'.size:=by simpa using hi
   have hj':j<d'.size:=by simpa using hj
   have h:=S i j (by omega) hij (by simp;omega);have q1:d'[i]! = d'[i]:=by simp[hi']
   have q2:d'[j]! = d'[j]:=by simp[hj']
   rw[q1,q2]at h;exact of_decide_eq_false h
end Go.Proofs.Q
namespace Go.Proofs.Q
open Go.Eng Go.RowKit Go.Lin Go.Sort Go.Srt
variable {p:Int} {S:List Ce} {i j:Nat}
def ColsO:Hp->List Value->List (List Int)->Prop
 | m,[],[]=>m=Hp.emp
 | m,v::vs,c::cs=>∃a b,m=a.join b/\a.disj b/\OwnL cI 1 3 a v c/\ColsO b vs cs
 | _,_,_=>False
theorem ColsO.len:∀{vs:List Value} {cs:List (List Int)} {m:Hp},ColsO m vs cs->vs.length=cs.length
 | [],[],_,_=>rfl
 | _::_,_::_,_,⟨_,_,_,_,_,h⟩=>by simp[h.len]
 | [],_::_,_,h=>h.elim
 | _::_,[],_,h=>h.elim
theorem ColsO.snoc{v:Value}{c:List Int}{b:Hp}(O:OwnL cI 1 3 b v c):∀{vs:List Value} {cs:List (List Int)} {m:Hp},ColsO m vs cs->m.disj b->ColsO (m.join b) (vs++[v]) (cs++[c])
 | [],[],m,h,hd=>by have h:m=Hp.emp:=h;subst h;exact⟨b,Hp.emp,by rw[Hp.join_emp,Hp.emp_join],λg=>.inr rfl,O,rfl⟩
 | _::_,_::_,m,⟨a,b',e,hd',O',h⟩,hd=>by subst e;refine⟨a,b'.join b,Hp.join_assoc _ _ _,?_,O',h.snoc O (Hp.disj_right hd)⟩;exact Hp.disj_symm (Hp.disj_join (Hp.disj_symm hd') (Hp.disj_symm (Hp.disj_left hd)))
 | [],_::_,_,h,_=>h.elim
 | _::_,[],_,h,_=>h.elim
def Ea(S:List Ce):Nat->List (Int×Int)
 | 0=>[]
 | j+1=>C0 (Ea S j) (S.getD j default).c.id (j:Int)
theorem HX(S:List Ce)(c:Int):∀j,0<=(Bj (Ea S j) c).getD 0/\(0<j->(Bj (Ea S j) c).getD 0<j)
 | 0=>by simp[Ea,Bj]
 | j+1=>by
  have ih:=HX S c j;unfold Ea;rw[DB];split
  ·simp only[Option.getD_some];omega
  ·refine⟨ih.1,λ_=>?_⟩;rcases Nat.eq_zero_or_pos j with rfl|h
   ·simp[Ea,Bj]
   ·have:=ih.2 h;omega
theorem Ky(hn:(S.map λa=>a.c.id).Nodup)(hi:i<S.length):∀j,i<j->j<=S.length->Bj (Ea S j) S[i].c.id=some (i:Int)
 | 0,h,_=>by omega
 | j+1,h,hj=>by
  unfold Ea;rw[DB];have ej:S.getD j default=S[j]:=by simp[List.getD,show j<S.length from by omega]
  rw[ej];split
  ·rename_i e
   have h1:i=j:=by have h2:=List.pairwise_iff_getElem.1 hn;refine Classical.byContradiction λhne=>?_;have h3:=h2 i j (by simpa using hi) (by simp;omega) (by omega);simp only[List.getElem_map]at h3;exact h3 e
   rw[h1]
  ·rename_i e;rcases (by omega:i<j\/i=j) with h1|rfl
   ·exact Ky hn hi j h1 (by omega)
   ·exact absurd Y e
def pl(S:List Ce)(j:Nat)(c:Int):Nat:=((Bj (Ea S j) c).getD 0).toNat
theorem Q6(S:List Ce)(j:Nat)(c:Int):((pl S j c:Nat):Int)=(Bj (Ea S j) c).getD 0:=Int.toNat_of_nonneg (HX S c j).1
theorem AaA(S:List Ce)(hj:0<j)(c:Int):pl S j c<j:=by have h1:=(HX S c j).2 hj;have h2:=Q6 S j c;omega
theorem Aai(hn:(S.map λa=>a.c.id).Nodup)(hij:i<j)(hj:j<=S.length):pl S j (S.getD i default).c.id=i:=by
 have hi:i<S.length:=by omega
 unfold pl;rw[show S.getD i default=S[i] by simp[List.getD,hi],Ky hn hi j hij hj];rfl
def Ff(p:Int)(S:List Ce)(j k:Nat):List Int:=((S.getD j default).c.sd.take k).foldl (λc s=>c.set (pl S (j+1) s.1) ((s.2+p)%p)) (replicate S.length 0)
def JF(p:Int)(S:List Ce)(j:Nat):List Int:=Ff p S j (S.getD j default).c.sd.length
def Fv(n j:Nat):List Int:=(replicate n 0).set j 1
theorem Mi{k:Nat}(hk:k<(S.getD j default).c.sd.length):Ff p S j (k+1)=(Ff p S j k).set (pl S (j+1) ((S.getD j default).c.sd[k]).1) (((S.getD j default).c.sd[k].2+p)%p):=by unfold Ff;rw[List.take_succ_eq_append_getElem hk,List.foldl_append];rfl
theorem F6(p:Int)(S:List Ce)(j k:Nat):(Ff p S j k).length=S.length:=by
 unfold Ff
 have:∀(l:List (Int×Int)) (c:List Int),(l.foldl (λc s=>c.set (pl S (j+1) s.1) ((s.2+p)%p)) c).length=c.length:=λl=>by
  induction l with
  | nil=>intro c;rfl
  | cons a l ih=>intro c;rw[List.foldl_cons,ih,length_set]
 rw[this,List.length_replicate]
theorem RQ{x:Int}{l:List Int}(h:KP p l)(hx:0<=x/\x<p):KP p (l.set i x):=λy hy=>by
 rcases List.mem_or_eq_of_mem_set hy with h1|rfl
 ·exact h y h1
 ·exact hx
theorem RT(hp:0<p)(n:Nat):KP p (replicate n 0):=λy hy=>by rw[(List.mem_replicate.1 hy).2];omega
theorem O6(hp:0<p)(S:List Ce)(j k:Nat):KP p (Ff p S j k):=by
 unfold Ff
 have:∀(l:List (Int×Int)) (c:List Int),KP p c->KP p (l.foldl (λc s=>c.set (pl S (j+1) s.1) ((s.2+p)%p)) c):=λl=>by
  induction l with
  | nil=>intro c h;exact h
  | cons a l ih=>intro c h;exact ih _ (RQ h ⟨Int.emod_nonneg _ (by omega),Int.emod_lt_of_pos _ hp⟩)
 exact this _ _ (RT hp _)
theorem LS(n j:Nat):(Fv n j).length=n:=by unfold Fv;simp
theorem SM(hp:2<=p)(n j:Nat):KP p (Fv n j):=RQ (RT (by omega) n) (by omega)
theorem GJ{α:Type}(f:Nat->α)(j:Nat):(range (j+1)).map f=(range j).map f++[f j]:=by rw[List.range_succ,map_append];rfl
end Go.Proofs.Q
namespace Go.Proofs.Q
open Go.Proofs.Tryz
open Go.Eng Go.RowKit Go.Lin Go.Sort Go.Srt
variable {e:Entry} {Q:Exit->Act->World->Prop} {ops:Array Oper} {s:AF} {h:Hp} {ms:List Hp}
def Nw(f:Int->Int)(S:List Ce):Prop:=S.Pairwise λa b=>f a.c.id<f b.c.id\/(f a.c.id=f b.c.id/\(a.c.dim<b.c.dim\/(a.c.dim=b.c.dim/\a.c.id<=b.c.id)))
theorem Xu{f:Int->Int}{l:List CeI}(h:l.Pairwise λa b=>¬Pc f b a<0):Nw f (l.map CeI.ce):=by unfold Nw;rw[List.pairwise_map];refine h.imp λ{a b} h=>?_;rw[JK]at h;show f a.c.id<f b.c.id\/(f a.c.id=f b.c.id/\(a.c.dim<b.c.dim\/(a.c.dim=b.c.dim/\a.c.id<=b.c.id)));omega
def box0:List Value:=.int .i64 0::.slice none 0 0::.map none::.slice none 0 0::.slice none 0 0::replicate 400 (.int .i64 0)
theorem VG(p:Int)(vA:Value)(gL:Nat):Ou box0 [(0,[.int .i64 p]),(1,[vA]),(2,[.map (some gL)])]=Fb p vA gL (.slice none 0 0) (.slice none 0 0) (replicate 400 0):=by unfold box0 Fb;rw[List.map_replicate];rfl
theorem T5:box0.length=405:=by unfold box0;simp
theorem Aav{v:Value}(h:v.oneCell'=true):∀a∈[v],∀c∈cU a,c.oneCell'=true:=λa ha c hc=>by rw[List.mem_singleton.1 ha]at hc;rw[List.mem_singleton.1 (show c∈[v] from hc)];exact h
theorem Gp{rest:List Oper}{o:Oper}{d g:Nat}{x y:Operand}{v q:Value}{m:Hp}{l:List Value}(i:Nat)(O:OwnL cU 1 22 m v l)(hm:Bw g 22 [q]∈ms)(hl:l.length<=400)(hP:e.P=Tryz.prog)(ho:o.op=.call { callee:=.builtin .append,args:=#[x,y],argTypes:=#[81,81] })
  (hx:ev s x=some v) (hy:ev s y=some (.slice (some ⟨g,0,none⟩) 1 1)) (hi:ms[i]?=some m) (hq:q.oneCell'=true) (hd:o.dst=some d) (hn:Nat.blt d e.n=true) (hg:o.guard=none) (K:∀v' m',OwnL cU 1 22 m' v' (l++[q])->WL e ops Q rest ((d,v')::s) h (ms.set i m')):WL e ops Q (o::rest) s h ms:=
 A6 i O (RdL.one MD (x:=q) hm rfl) ho (hP ▸ Cu) (hP ▸ Cw) rfl (by omega) hx hy hi (Aav hq) (by simp only[length_singleton];omega) (by simp only[length_singleton];omega) hd hn hg K
theorem Fw{rest:List Oper}{o:Oper}{d n c:Nat}{x:Operand}{a:Option Addr}(hP:e.P=Tryz.prog)(ho:o.op=.buildSlice 81 1 #[(0,x)])(hx:ev s x=some (.slice a n c))(hd:o.dst=some d)(hn:Nat.blt d e.n=true)(hg:o.guard=none)(k:∀g,WL e ops Q rest ((d,.slice (some ⟨g,0,none⟩) 1 1)::s) h (Bw g 22 [.slice a n c]::ms)):WL e ops Q (o::rest) s h ms:=
 Ar [_] ho (hP ▸ Cu) (hP ▸ Cw) hx rfl rfl rfl (by simp) hd hn hg k
theorem Uj{h0:Hp}{n:Nat}{listed:Array Bool}(n2:Nat)(L2:Array Bool)(I:AF->List Hp->Prop)(k1:∀L s ms,L=L2->I s ms->WB e ops Q h0 n2 L s h ms)(k2:(∀L s ms,L=L2->I s ms->WB e ops Q h0 n2 L s h ms)->WB e ops Q h0 n listed s h ms):WB e ops Q h0 n listed s h ms:=k2 k1
theorem VM(l:List Ce)(F:List (Int×Int))(v vf:Value)(p:Int)(hp:Hp)(hK:RgC l)(hR:RdC hp v l)(hF:RdL cV 2 hp [] vf F)(hV:Ls F)(h0:Fz (cn l) F=(0,0))(hP:IsP p)(hl:l.length<=400):FnT Tryz.prog 91 #[.agg #[v],vf,.int .i64 p] hp [] (λr h' ms'=>hp.le h'/\∃(gm gA:Nat) (mA:Hp) (bs:List Nat) (S:List Ce) (vc vr vv:Value) (Rs Vs:List Value) (mR mV:Hp),r=.tuple #[.pointer (some ⟨gm,0,none⟩),.int .i64 0]/\ms'=[Bw gm 130 (Fb p vc gA vr vv (replicate 400 0)),mR,mV]/\CC kN kN gA BP mA (BI F) bs/\mA.le h'/\RdL cC 3 h' [] vc S/\RdL cU 1 h' [] vr Rs/\RdL cU 1 h' [] vv Vs/\ColsO mR Rs ((range S.length).map (JF p S))/\ColsO mV Vs ((range S.length).map (Fv S.length))/\(S.map Ce.c).Perm (cn l)/\Nw (Dn (BI F)) S/\∀a∈S,RdL cD 2 h' [] a.v a.c.sd):=by
 have o1:=hR.q.rd.one;have o2:=hF.rd.one;have hp1:=hP.1;have hp2:=hP.2.1;have hG:=hK.F.rgt;refine Av func91 ntmps91 Y Y (λw0 hw0=>?_);simp only[A3];refine Aw (AY [_] Y Y (by rfl) Y Y Y (λg3=>Qm Y (Qm Y (Ap (AB λh1 l1 hS=>?_)))));have hR:=hR.up l1;have hF:=hF.up l1;have hck:=F8 l F v vf h1 hK hR hF hV;rw[h0]at hck;refine Ac (Aw (Qx (oG Y BJ AO (Seg.any hS)) Y (Qm Y (Qx (AR Y call24 Y (EX hck _)) Y (Qm Y (Qm Y (Qm Y (Qm Y (Qm Y (BN (Qm Y (Qm Y (Ap (Ax Y (λhc=>absurd hc (λh=>h Y)) (λhc=>Aj (Ab (Aw (Qm Y (Qx (oG Y BJ AO (Seg.any hS)) Y (Qc call65 Y (Dz l v _ hK hR) (λrC h2 ms2 l2 hQ=>?_)))))))))))))))))))));obtain⟨l2',mC,A,vA,rfl,rfl,hOC,hAl,hsA⟩:=hQ;have hF:=hF.up l2;refine Qx (Cp Y BJ Y A9 Y Y Y) Y (Qm Y (Qc call66 Y (Je F vf _ hF hV.n hV.k) (λrL h3 ms3 l3 hL=>?_)));obtain⟨l3',gL,mL,bL,rfl,rfl,hOL⟩:=hL;have hsA:=λa ha=>(hsA a ha).up l3
 have hAid:∀a∈A,BP a.c.id:=λa ha=>by
  have h1:a.c∈cn l:=by rw[<-hAl];exact List.mem_map.2 ⟨a,ha,Y⟩
  have h2:=hG.pos _ h1;have h3:=hK.ci h1;unfold BP;omega
 obtain⟨A,rfl⟩:=Uf A λa ha=>⟨(hsA a ha).rd.one,hAid a ha⟩
 have hOC:=own_ceI.1 hOC;have ovA:=hOC.o1;have cvA:vA.cells=#[vA]:=(hOC.rd (h:=h3) (ms:=[mC]) Mh).rd.cells;refine Qx (Bm AaQ box0 [(0,[_]),(1,[vA]),(2,[_])] (Fb p vA gL (.slice none 0 0) (.slice none 0 0) (replicate 400 0)) Y Aau (by kernel_rfl) Y (by rw[T5];exact⟨⟨Y,Y,Y⟩,⟨cvA,Y,Y⟩,⟨Y,Y,Y⟩,trivial⟩) (VG p vA gL)) Y ?_;refine AY (Fb p vA gL (.slice none 0 0) (.slice none 0 0) (replicate 400 0)) Y Y Y Y Y Y (λg34=>By [.pointer none] Y AaO Y Y (λg10=>Af 0 0 Y AaO Y Y (by rfl) Y Y (by decide) Y Y (Ap (AB λh4 l4 hG10=>(DT 1 Y (Bt λh5 l5 lL=>(Gn λh6 l6 lG dG LG=>?_)))))));have l36:=AI l4 (AI l5 l6);have hG6:=hG10.le (AI l5 l6);have hS6:=Seg.ofLe lG;have e10:∀ms,Cell h6 ms (⟨g10,0,none⟩:Addr) (.pointer (some ⟨g34,0,none⟩)):=λms=>Seg.all hG6 0 _ Y ms;have e1:∀ms,Cell h6 ms (⟨g34,1,none⟩:Addr) vA:=λms=>Seg.all hS6 1 _ Y ms;have e2:∀ms,Cell h6 ms (⟨g34,2,none⟩:Addr) (.map (some gL)):=λms=>Seg.all hS6 2 _ Y ms;have hAlen:A.length=l.length:=by have:=congrArg List.length hAl;rw[C6]at this;simpa using this
 have hOC6:=hOC.rd (h:=h6) (ms:=[mC]) Mh;have hpv:=My p h6 (by unfold BP;omega);rw[decide_eq_true hP]at hpv;refine Ac (Ah (Aw (Qm Y (Qx (AR Y call54 Y (hpv _)) Y (Qm Y (Qm Y (Ap (AV Y (Aw (Ql Y TE (e10 _) (Qm Y (Qf FD Y (Ql Y A9 (e1 _) (Qx (As hOC6.rd Y A9 Y) Y (Qm Y (Qm Y (Ap ?_)))))))))))))))));refine Ax Y (λhc=>absurd hc (λh=>by omega)) (λhc=>?_);refine Aj (Ak (Ab (Aw (Ql Y TE (e10 _) (Qm Y (Qf FD Y (Ql Y A9 (e1 _) (Qx (BM Y Y Y) Y (Bb (pre:=[mC]) Y call147 Y (R5 (BI F) gL g34 g10 mL bL A vA mC h6 e10 e2 hOL (AI lL l6) hOC (by omega)) Y Y Y Y (λ_ h7 ms7 l7 hQ=>?_))))))))));obtain⟨rfl,A',mC',rfl,hOC',hpm,hsr⟩:=hQ;refine Ap (FI LG lG λh7 q7 b7=>(DT 1 Y (Bu (own_ceI.2 hOC') λh8 l8 hQ=>?_)));have l57:h5.le h7:=b7 _ l6 dG;have l58:=AI l57 l8;have hG8:=hG10.le (AI l5 l58);have lL8:=AI lL l58;have l38:=AI l4 (AI l5 l58);have e10:∀ms,Cell h8 ms (⟨g10,0,none⟩:Addr) (.pointer (some ⟨g34,0,none⟩)):=λms=>Seg.all hG8 0 _ Y ms;obtain⟨S,hSe⟩:∃S,A'.map CeI.ce=S:=⟨_,Y⟩
 have hsrt:=Xu hsr;have hSp:S.Perm (A.map CeI.ce):=by rw[<-hSe];exact hpm.map _
 have hSc:(S.map Ce.c).Perm (cn l):=by rw[<-hAl];exact hSp.map _
 have hSA:∀a∈S,RdL cD 2 h8 [] a.v a.c.sd:=λa ha=>(hsA a (hSp.mem_iff.1 ha)).up l38;have hSi:∀a∈S,BP a.c.id:=λa ha=>hAid a (hSp.mem_iff.1 ha)
 have hSs:∀a∈S,a.c.sd.length<=64/\∀s∈a.c.sd,BP s.1/\(s.2=1\/s.2=-1):=λa ha=>by have h1:a.c∈cn l:=hSc.mem_iff.1 (List.mem_map.2 ⟨a,ha,Y⟩);refine⟨(hK.F.bds h1).2.1,λs hs=>⟨?_,hG.sgn _ h1 s hs⟩⟩;obtain⟨y,hy,e,_⟩:=hG.sid _ h1 s hs;have h2:=hG.pos _ hy;have h3:=hK.ci hy;rw[<-e];unfold BP;omega
 have hSn:S.length<=400:=by have:=hSc.length_eq;rw[length_map,C6]at this;omega
 rw[hSe]at hsrt hQ;have ovA:=hQ.rd.one;refine Aw (CX (K:=kN) (V:=kN) (Ok:=BP) Y Y Y Y (λgP mP hP0=>Qm Y (Ap (BO (BO (BO (BO (Ac (Aw (Ql Y TE (e10 _) (Qm Y (Qf FD Y (Ql Y A9 (Cell.blk 5 (k:=1) Y Y) (Qx (As hQ.rd.any Y A9 Y) Y (Qm Y (Ap (Ah ?_)))))))))))))))))
 refine AD (λq sl h' ms'=>∃(j:Nat) (vr vv:Value) (mr mv mR mV mP:Hp) (Rs Vs:List Value) (bs:List Nat),q=S.length-j/\sl=[(2,.int .i64 p),(10,.pointer (some ⟨g10,0,none⟩)),(11,.map (some gP)),(56,vA),(57,.int .i64 S.length),(58,.int .i64 j)]/\h8.le h'/\ms'=[mr,mv,mR,mV,mP,Bw g34 130 (Fb p vA gL vr vv (replicate 400 0))]/\j<=S.length/\CC kN kN gP BP mP (Ea S j) bs/\OwnL cU 1 22 mr vr Rs/\OwnL cU 1 22 mv vv Vs/\ColsO mR Rs ((range j).map (JF p S))/\ColsO mV Vs ((range j).map (Fv S.length))/\Rs.length=j/\Vs.length=j)
  (S.length-0) _ ⟨0,.slice none 0 0,.slice none 0 0,Hp.emp,Hp.emp,Hp.emp,Hp.emp,mP,[],[],[],rfl,rfl,B8,rfl,by omega,hP0,OwnL.nil MD,OwnL.nil MD,rfl,rfl,rfl,rfl⟩ Qs ?_
 rintro q sl h' ms' ⟨j,vr,vv,mr,mv,mR,mV,mP,Rs,Vs,bs,rfl,rfl,l9,rfl,hj,hO,Or,Ov,CR,CV,hRl,hVl⟩;have hQ:=hQ.up l9;have e10:∀ms,Cell h' ms (⟨g10,0,none⟩:Addr) (.pointer (some ⟨g34,0,none⟩)):=λms=>(e10 ms).le l9;have ovr:=Or.o1;have ovv:=Ov.o1;refine Aw (Qm Y (Ap (Ac ?_)));refine Ax Y (λhlt=>?_) (λhlt=>?_)
 ·have hjl:j<S.length:=by omega
  obtain⟨x,hx⟩:∃x,S[j]=x:=⟨_,Y⟩
  have hxm:x∈S:=by rw[<-hx];exact getElem_mem hjl
  have hgx:S.getD j default=x:=by simp[List.getD,hjl,hx]
  have hX:=(hSA x hxm).up l9;have oxv:=hX.rd.one;have hxI:=hSi x hxm;obtain⟨hxn,hxs⟩:=hSs x hxm;have hsx:∀ms,Seg h' ms ((AJ vA).add (j*3)) (cC x):=λms=>by rw[<-hx];exact(hQ.any (ms:=ms)).seg hjl
  refine Aj (Ab ?_);refine A8 (λsl h'' ms'=>∃(vr' vv' va vb:Value) (mr' mv' mc mo mP':Hp) (bs':List Nat),sl=[(2,.int .i64 p),(10,.pointer (some ⟨g10,0,none⟩)),(11,.map (some gP)),(56,vA),(57,.int .i64 S.length),(58,.int .i64 j)]/\h'.le h''/\ms'=[Bw g34 130 (Fb p vA gL vr' vv' (replicate 400 0)),mP',mc,mo,mr',mv',mR,mV]/\CC kN kN gP BP mP' (Ea S (j+1)) bs'/\OwnL cU 1 22 mr' vr' (Rs++[va])/\OwnL cU 1 22 mv' vv' (Vs++[vb])/\OwnL cI 1 3 mc va (JF p S j)/\OwnL cI 1 3 mo vb (Fv S.length j)) ?_ (λs h ms hI=>?_)
  ·refine Ah (Aw (Qm Y (Qx (BH (j) hQ.rd.any Y A9 AL Y Y) Y (Qx (oG Y D1 AL (hsx _)) Y (By [.int .i64 0,.int .i64 0,.slice none 0 0] Y AL Y Y (λg13=>Qm Y ?_))))));refine Sa 0 [_,_,_] AL Y (by simp[o1,o2,ovA,oxv,ovr,ovv]) ?_;refine Ap (AB λh10 l10 hS13=>?_);have e130:∀ms,Cell h10 ms (⟨g13,0,none⟩:Addr) (.int .i64 x.c.id):=λms=>Seg.all hS13 0 _ Y ms;refine Aw (Qm Y (Qf Bq Y (Ql Y U3 (e130 _) (Qm Y (BS (V:=kN) (z:=undef) 4 x.c.id (j:Int) Bh hO Y Y Ll Y Y Y hxI Y Y (λmP' bs' hO'=>?_))))));have hpl:Ea S (j+1)=C0 (Ea S j) x.c.id (j:Int):=by rw[<-hgx];rfl
   rw[<-hpl]at hO';refine Ap (DT 5 Y (Gn λh11 l11 lG dG LG=>(DT 4 Y (Gn λh12 l12 lP dP LP=>?_))));have l912:=AI l10 (AI l11 l12);have hX:=hX.up l912;have hS12:=(Seg.ofLe lG).le l12;have e10':∀ms,Cell h12 ms (⟨g10,0,none⟩:Addr) (.pointer (some ⟨g34,0,none⟩)):=λms=>(e10 ms).le l912;have e11':∀ms,Cell h12 ms (⟨g34,1,none⟩:Addr) vA:=λms=>Seg.all hS12 1 _ Y ms;have e132':∀ms,Cell h12 ms (⟨g13,2,none⟩:Addr) x.v:=λms=>((Seg.all hS13 2 _ Y ms).le l11).le l12;have e130':∀ms,Cell h12 ms (⟨g13,0,none⟩:Addr) (.int .i64 x.c.id):=λms=>((e130 ms).le l11).le l12;have hQ12:=hQ.up l912;refine A8 (λsl h' ms'=>∃ga gb:Nat,sl=[(2,.int .i64 p),(10,.pointer (some ⟨g10,0,none⟩)),(11,.map (some gP)),(12,.int .i64 j),(13,.pointer (some ⟨g13,0,none⟩)),(14,.slice (some ⟨ga,0,none⟩) S.length S.length),(15,.slice (some ⟨gb,0,none⟩) S.length S.length),(56,vA),(57,.int .i64 S.length),(58,.int .i64 j)]/\h12=h'/\ms'=[Bw ga 3 (replicate S.length (.int .i64 0)),Bw gb 3 (replicate S.length (.int .i64 0)),mr,mv,mR,mV]) ?_ (λs h ms hI=>?_)
   ·refine BK (n:=14) (bs:=[true,true,true,true,true,false,true,true,true,true,true,false,false,false]) [true,true,true,true,true,false,true,true,true,true,true] CZ (by kernel_rfl) (by kernel_rfl) Y Y (QL Y TE (e10' _) (Qq Y (QF FD Y (QL Y A9 (e11' _) (Qp Y (As hQ12.rd.any Y A9 Y) (QL Y TE (e10' _) (Qq Y (QF FD Y (QL Y A9 (e11' _) (Qp Y (As hQ12.rd.any Y A9 Y) ?_))))))))));unfold FK;simp only[cons_append,nil_append];refine AG [5,11] (by kernel_rfl) Y ?_;refine Ai Y ?_ ?_
    ·refine CQ (n:=_) Y A0 Ba Y Y Y (by rfl) (by rfl) (by omega) (by omega) Y Y Y (λg72=>Qw (AG [11,12] (by kernel_rfl) Y ?_));refine Ai Y ?_ ?_
     ·refine CQ (n:=_) Y A0 Ba Y Y Y (by rfl) (by rfl) (by omega) (by omega) Y Y Y (λg78=>Qw (Qo 12 Y (Qm Y (Qw (Qo 13 Y (Qm Y (Qw (Qe ?_))))))))
      (refine IR (List.Perm.swap _ _ _) ?_;exact Ao _ ⟨g72,g78,Y,Y,Y⟩ Qs)
     refine Ai Y ?_ ?_
     ·refine Qm Y (Qw (Qo 11 Y (CQ (n:=_) Y A0 Ba Y Y Y (by rfl) (by rfl) (by omega) (by omega) Y Y Y (λg78=>Qw (Qo 13 Y (Qm Y (Qw (Qe ?_))))))))
      (refine IR (List.Perm.swap _ _ _) ?_;exact Ao _ ⟨g72,g78,Y,Y,Y⟩ Qs)
     exact AH
    refine Ai Y ?_ ?_
    ·refine CQ (n:=_) Y A0 Ba Y Y Y (by rfl) (by rfl) (by omega) (by omega) Y Y Y (λg78=>Qw (Qo 5 Y (CQ (n:=_) Y A0 Ba Y Y Y (by rfl) (by rfl) (by omega) (by omega) Y Y Y (λg72=>Qw (Qo 12 Y (Qm Y (Qw (Qo 13 Y (Qm Y (Qw (Qe ?_)))))))))));exact Ao _ ⟨g72,g78,Y,Y,Y⟩ Qs
    exact AH
   ·obtain⟨ga,gb,rfl,rfl,rfl⟩:=hI;have hO1:OwnL cI 1 3 (Bw ga 3 (replicate S.length (.int .i64 0))) (.slice (some ⟨ga,0,none⟩) S.length S.length) (Ff p S j 0):=OwnL.rep _ 0 (by omega);have hO2:OwnL cI 1 3 (Bw gb 3 (replicate S.length (.int .i64 0))) (.slice (some ⟨gb,0,none⟩) S.length S.length) (replicate S.length 0):=OwnL.rep _ 0 (by omega);have hpP:0<j+1:=by omega
    refine Ac (Aw (Qf Bs Y (Ql Y BQ (e132' _) (Qx (As hX.rd.any Y BQ Y) Y (Qm Y (Ap (Ah ?_)))))))
    refine AD (λq sl h' ms'=>∃(k:Nat) (mc:Hp),q=x.c.sd.length-k/\sl=[(2,.int .i64 p),(10,.pointer (some ⟨g10,0,none⟩)),(11,.map (some gP)),(12,.int .i64 j),(14,.slice (some ⟨ga,0,none⟩) S.length S.length),(15,.slice (some ⟨gb,0,none⟩) S.length S.length),(56,vA),(57,.int .i64 S.length),(58,.int .i64 j),(80,x.v),(81,.int .i64 x.c.sd.length),(82,.int .i64 k)]/\h12.le h'/\ms'=[mc,Bw gb 3 (replicate S.length (.int .i64 0)),mr,mv,mR,mV]/\k<=x.c.sd.length/\OwnL cI 1 3 mc (.slice (some ⟨ga,0,none⟩) S.length S.length) (Ff p S j k))
     (x.c.sd.length-0) _ ⟨0,_,rfl,rfl,B8,rfl,by omega,hO1⟩ Qs ?_
    rintro q sl h13 ms' ⟨k,mc,rfl,rfl,l13,rfl,hk,hOc⟩;have hX:=hX.up l13;refine Aw (Qm Y (Ap (Ac ?_)));refine Ax Y (λhlk=>?_) (λhlk=>?_)
    ·have hkl:k<x.c.sd.length:=by omega
     obtain⟨s,hs⟩:∃s,x.c.sd[k]=s:=⟨_,Y⟩
     have hsm:s∈x.c.sd:=by rw[<-hs];exact getElem_mem hkl
     obtain⟨hs1,hs2⟩:=hxs s hsm;have hss:∀ms,Seg h13 ms ((AJ x.v).add (k*2)) (cD s):=λms=>by rw[<-hs];exact(hX.any (ms:=ms)).seg hkl
     have hplt:pl S (j+1) s.1<(Ff p S j k).length:=by rw[F6];have:=AaA S hpP s.1;omega
     have hcs:Ff p S j (k+1)=(Ff p S j k).set (pl S (j+1) s.1) ((s.2+p)%p):=by
      have hkg:k<(S.getD j default).c.sd.length:=by rw[hgx];exact hkl
      rw[Mi hkg];have:(S.getD j default).c.sd[k]=s:=by simp only[hgx,hs]
      rw[this]
     rw[F6]at hplt;refine Aj (Ab (Ac (Ah (Aw (Qx (BH (k) hX.rd.any Y BQ AQ Y Y) Y (Qx (oG Y Du AQ (hss _)) Y (By [.int .i64 0,.int .i64 0] Y AQ Y Y (λg17=>?_))))))));refine Sa 0 [_,_] AQ Y (by simp[Value.oneCell']) ?_;refine Ap (AB λh14 l14 hS17=>?_);have e170:∀ms,Cell h14 ms (⟨g17,0,none⟩:Addr) (.int .i64 s.1):=λms=>Seg.all hS17 0 _ Y ms;have e171:∀ms,Cell h14 ms (⟨g17,1,none⟩:Addr) (.int .i64 s.2):=λms=>Seg.all hS17 1 _ Y ms;refine Bc 11 CZ (by kernel_rfl) Y (Wm Y (Wm Y (Wf B6 Y (Wl Y U3 (e170 _) (AW (B9 (V:=kN) (z:=(0:Int)) (u:=((pl S (j+1) s.1:Nat):Int)) s.1 (Q6 S (j+1) s.1).symm Bh hO' (AI lP (AI l13 l14)) Y Ll HJ Y Y hs1) Y Y (Wf Di Y (Wl Y U3 (e171 _) (Wm Y (AW (oA Y) Y Y (Wm Y (AW (Cf Y Y Y (by omega) (by omega)) Y Y (A4 (Qx (Cn (pl S (j+1) s.1) Y A0 Ba Y Y (by omega) (by omega)) Y ?_)))))))))))));refine De 0 (pl S (j+1) s.1) hOc Y Ba Y Y Y (by rw[F6];exact hplt) Y Y (λmc' hOc'=>?_);rw[<-hcs]at hOc';refine An (Ak (Ab (Ad (Qx (oA Y) Y (Qm Y (An ?_))))));exact Am (x.c.sd.length-(k+1)) _ (by omega) ⟨k+1,mc',Y,Y,AI l13 l14,Y,by omega,hOc'⟩ Qs
    ·obtain rfl:k=x.c.sd.length:=by omega
     refine Ay (Aa (Aa (Ag (Ab (Aw (Qm Y (Qm Y (Qx (Cn (j) Y A0 Ba Y Y (by omega) (by omega)) Y ?_))))))));refine De 1 j hO2 Y Ba Y Y Y (by simp;omega) rfl rfl (λmo' hO2'=>?_);refine Ap (FI LP (AI lP l13) λh14 q14 b14=>(FI LG (b14 _ (AI lG (AI l12 l13)) (FB lG dP)) λh15 q15 b15=>?_));have l1015:h10.le h15:=b15 _ (b14 _ (AI l11 (AI l12 l13)) (FB l11 dP)) dG;have l915:=AI l10 l1015;have e10:∀ms,Cell h15 ms (⟨g10,0,none⟩:Addr) (.pointer (some ⟨g34,0,none⟩)):=λms=>(e10 ms).le l915;have hcD:Ff p S j x.c.sd.length=JF p S j:=by unfold JF;rw[hgx]
     rw[hcD]at hOc;refine BK (n:=22) (bs:=[true,true,true,true,true,false,true,false,false,true,true,true,false,true,false,false,true,true,false,true,true,false]) [true,true,true,true,true,false,true,false,false,true,true,true,false,true,false,false,true,true,false,true,true] CZ (by kernel_rfl) (by kernel_rfl) Y Y (QL Y TE (e10 _) (QL Y TE (e10 _) (QL Y TE (e10 _) (Qq Y (QF FJ Y (Qq Y (QL Y TE (e10 _) (Qq Y (QF JW Y (Qq Y (Qq Y (QF FJ Y (Qq Y (QF JW Y ?_))))))))))))));unfold FK;simp only[cons_append,nil_append];refine Uj 17 #[true,true,true,true,true,true,true,true,true,true,true,true,true,true,true,false,true,true,false,true,true,false] (λs ms=>∃B1 B2 gY v2 m2,ms=[B1,B2,Bw g34 130 (Fb p vA gL vr vv (replicate 400 0)),mP',mc,mo',m2,mv,mR,mV]/\Bw gY 22 [.slice (some ⟨gb,0,none⟩) S.length S.length]∈[B1,B2]/\OwnL cU 1 22 m2 v2 (Rs++[.slice (some ⟨ga,0,none⟩) S.length S.length])/\Eng.Sub [(110,v2),(114,vv),(116,.slice (some ⟨gY,0,none⟩) 1 1),(119,.pointer (some ⟨g34,3,none⟩)),(121,.pointer (some ⟨g34,4,none⟩)),(2,.int .i64 p),(10,.pointer (some ⟨g10,0,none⟩)),(11,.map (some gP)),(56,vA),(57,.int .i64 S.length),(58,.int .i64 j)] s) ?_ (λfin=>?_)
     ·rintro _ s ms rfl ⟨B1,B2,gY,v2,m2,rfl,hm,hO8,hS⟩;refine Qo 15 Y (ZJ hS (Gp 7 Ov (List.mem_append_left _ hm) (by omega) Y Y Y Y Y Y Y Y Y (λv3 m3 hO9=>Qw (Qo 18 Y ?_))));refine Af 2 3 Y Aat Y Y hO8.o1 Y Y (by rw[KV];omega) rfl rfl ?_;refine Qw (Qo 21 Y ?_);refine Af 2 4 Y Aat Y Y hO9.o1 Y Y (by rw[length_set,KV];omega) rfl rfl ?_;refine Qw (Qe ?_);refine AS (AS (Ak ?_));exact Ao _ ⟨v2,v3,_,_,m2,m3,mc,mo',mP',bs',Y,l915,Y,hO',hO8,hO9,hOc,hO2'⟩ Qs
     refine AG [5,7,12,14] (by kernel_rfl) Y ?_;refine Ai Y ?_ ?_
     ·refine Ql Y Cu (Cell.blk 0 (k:=3) Y Y) (Qw (AG [7,12,14] (by kernel_rfl) Y ?_));refine Ai Y ?_ ?_
      ·refine Fw Y Y Y Y Y Y (λg109=>Qw (AG [8,12,14] (by kernel_rfl) Y ?_));refine Ai Y ?_ ?_
       ·refine Gp 5 Or (.head _) (by omega) Y Y Y Y Y Y Y Y Y (λv2 m2 hO8=>Qw (AG [12,14] (by kernel_rfl) Y ?_));refine Ai Y ?_ ?_
        ·refine Ql Y Cu (Cell.blk 1 (k:=4) Y Y) (Qw (Qo 14 Y (Fw Y Y Y Y Y Y (λg116=>Qw ?_))));exact fin _ _ _ (by kernel_rfl) ⟨_,_,_,_,_,Y,(.head _),hO8,Qs⟩
        refine Ai Y ?_ ?_
        ·refine Fw Y Y Y Y Y Y (λg116=>Qw (Qo 12 Y (Ql Y Cu (Cell.blk 2 (k:=4) Y Y) (Qw ?_))));exact fin _ _ _ (by kernel_rfl) ⟨_,_,_,_,_,Y,(.head _),hO8,Qs⟩
        exact AH
       refine Ai Y ?_ ?_
       ·refine Ql Y Cu (Cell.blk 1 (k:=4) Y Y) (Qw (AG [8,14] (by kernel_rfl) Y ?_));refine Ai Y ?_ ?_
        ·refine Gp 5 Or (.head _) (by omega) Y Y Y Y Y Y Y Y Y (λv2 m2 hO8=>Qw (Qo 14 Y (Fw Y Y Y Y Y Y (λg116=>Qw ?_))));exact fin _ _ _ (by kernel_rfl) ⟨_,_,_,_,_,Y,(.head _),hO8,Qs⟩
        refine Ai Y ?_ ?_
        ·refine Fw Y Y Y Y Y Y (λg116=>Qw (Qo 8 Y (Gp 6 Or (.tail _ (.head _)) (by omega) Y Y Y Y Y Y Y Y Y (λv2 m2 hO8=>Qw ?_))));exact fin _ _ _ (by kernel_rfl) ⟨_,_,_,_,_,Y,(.head _),hO8,Qs⟩
        exact AH
       refine Ai Y ?_ ?_
       ·refine Fw Y Y Y Y Y Y (λg116=>Qw (AG [8,12] (by kernel_rfl) Y ?_));refine Ai Y ?_ ?_
        ·refine Gp 6 Or (.tail _ (.head _)) (by omega) Y Y Y Y Y Y Y Y Y (λv2 m2 hO8=>Qw (Qo 12 Y (Ql Y Cu (Cell.blk 2 (k:=4) Y Y) (Qw ?_))));exact fin _ _ _ (by kernel_rfl) ⟨_,_,_,_,_,Y,(.head _),hO8,Qs⟩
        refine Ai Y ?_ ?_
        ·refine Ql Y Cu (Cell.blk 2 (k:=4) Y Y) (Qw (Qo 8 Y (Gp 6 Or (.tail _ (.head _)) (by omega) Y Y Y Y Y Y Y Y Y (λv2 m2 hO8=>Qw ?_))));exact fin _ _ _ (by kernel_rfl) ⟨_,_,_,_,_,Y,(.head _),hO8,Qs⟩
        exact AH
       exact AH
      refine Ai Y ?_ ?_
      ·refine Ql Y Cu (Cell.blk 0 (k:=4) Y Y) (Qw (AG [7,14] (by kernel_rfl) Y ?_));refine Ai Y ?_ ?_
       ·refine Fw Y Y Y Y Y Y (λg109=>Qw (AG [8,14] (by kernel_rfl) Y ?_));refine Ai Y ?_ ?_
        ·refine Gp 5 Or (.head _) (by omega) Y Y Y Y Y Y Y Y Y (λv2 m2 hO8=>Qw (Qo 14 Y (Fw Y Y Y Y Y Y (λg116=>Qw ?_))));exact fin _ _ _ (by kernel_rfl) ⟨_,_,_,_,_,Y,(.head _),hO8,Qs⟩
        refine Ai Y ?_ ?_
        ·refine Fw Y Y Y Y Y Y (λg116=>Qw (Qo 8 Y (Gp 6 Or (.tail _ (.head _)) (by omega) Y Y Y Y Y Y Y Y Y (λv2 m2 hO8=>Qw ?_))));exact fin _ _ _ (by kernel_rfl) ⟨_,_,_,_,_,Y,(.head _),hO8,Qs⟩
        exact AH
       refine Ai Y ?_ ?_
       ·refine Fw Y Y Y Y Y Y (λg116=>Qw (Qo 7 Y (Fw Y Y Y Y Y Y (λg109=>Qw (Qo 8 Y (Gp 6 Or (.head _) (by omega) Y Y Y Y Y Y Y Y Y (λv2 m2 hO8=>Qw ?_)))))));exact fin _ _ _ (by kernel_rfl) ⟨_,_,_,_,_,Y,(.tail _ (.head _)),hO8,Qs⟩
       exact AH
      refine Ai Y ?_ ?_
      ·refine Fw Y Y Y Y Y Y (λg116=>Qw (AG [7,12] (by kernel_rfl) Y ?_));refine Ai Y ?_ ?_
       ·refine Fw Y Y Y Y Y Y (λg109=>Qw (AG [8,12] (by kernel_rfl) Y ?_));refine Ai Y ?_ ?_
        ·refine Gp 6 Or (.head _) (by omega) Y Y Y Y Y Y Y Y Y (λv2 m2 hO8=>Qw (Qo 12 Y (Ql Y Cu (Cell.blk 2 (k:=4) Y Y) (Qw ?_))));exact fin _ _ _ (by kernel_rfl) ⟨_,_,_,_,_,Y,(.tail _ (.head _)),hO8,Qs⟩
        refine Ai Y ?_ ?_
        ·refine Ql Y Cu (Cell.blk 2 (k:=4) Y Y) (Qw (Qo 8 Y (Gp 6 Or (.head _) (by omega) Y Y Y Y Y Y Y Y Y (λv2 m2 hO8=>Qw ?_))));exact fin _ _ _ (by kernel_rfl) ⟨_,_,_,_,_,Y,(.tail _ (.head _)),hO8,Qs⟩
        exact AH
       refine Ai Y ?_ ?_
       ·refine Ql Y Cu (Cell.blk 1 (k:=4) Y Y) (Qw (Qo 7 Y (Fw Y Y Y Y Y Y (λg109=>Qw (Qo 8 Y (Gp 6 Or (.head _) (by omega) Y Y Y Y Y Y Y Y Y (λv2 m2 hO8=>Qw ?_)))))));exact fin _ _ _ (by kernel_rfl) ⟨_,_,_,_,_,Y,(.tail _ (.head _)),hO8,Qs⟩
       exact AH
      exact AH
     refine Ai Y ?_ ?_
     ·refine Fw Y Y Y Y Y Y (λg109=>Qw (AG [5,12,14] (by kernel_rfl) Y ?_));refine Ai Y ?_ ?_
      ·refine Ql Y Cu (Cell.blk 1 (k:=3) Y Y) (Qw (AG [8,12,14] (by kernel_rfl) Y ?_));refine Ai Y ?_ ?_
       ·refine Gp 5 Or (.head _) (by omega) Y Y Y Y Y Y Y Y Y (λv2 m2 hO8=>Qw (AG [12,14] (by kernel_rfl) Y ?_));refine Ai Y ?_ ?_
        ·refine Ql Y Cu (Cell.blk 1 (k:=4) Y Y) (Qw (Qo 14 Y (Fw Y Y Y Y Y Y (λg116=>Qw ?_))));exact fin _ _ _ (by kernel_rfl) ⟨_,_,_,_,_,Y,(.head _),hO8,Qs⟩
        refine Ai Y ?_ ?_
        ·refine Fw Y Y Y Y Y Y (λg116=>Qw (Qo 12 Y (Ql Y Cu (Cell.blk 2 (k:=4) Y Y) (Qw ?_))));exact fin _ _ _ (by kernel_rfl) ⟨_,_,_,_,_,Y,(.head _),hO8,Qs⟩
        exact AH
       refine Ai Y ?_ ?_
       ·refine Ql Y Cu (Cell.blk 1 (k:=4) Y Y) (Qw (AG [8,14] (by kernel_rfl) Y ?_));refine Ai Y ?_ ?_
        ·refine Gp 5 Or (.head _) (by omega) Y Y Y Y Y Y Y Y Y (λv2 m2 hO8=>Qw (Qo 14 Y (Fw Y Y Y Y Y Y (λg116=>Qw ?_))));exact fin _ _ _ (by kernel_rfl) ⟨_,_,_,_,_,Y,(.head _),hO8,Qs⟩
        refine Ai Y ?_ ?_
        ·refine Fw Y Y Y Y Y Y (λg116=>Qw (Qo 8 Y (Gp 6 Or (.tail _ (.head _)) (by omega) Y Y Y Y Y Y Y Y Y (λv2 m2 hO8=>Qw ?_))));exact fin _ _ _ (by kernel_rfl) ⟨_,_,_,_,_,Y,(.head _),hO8,Qs⟩
        exact AH
       refine Ai Y ?_ ?_
       ·refine Fw Y Y Y Y Y Y (λg116=>Qw (AG [8,12] (by kernel_rfl) Y ?_));refine Ai Y ?_ ?_
        ·refine Gp 6 Or (.tail _ (.head _)) (by omega) Y Y Y Y Y Y Y Y Y (λv2 m2 hO8=>Qw (Qo 12 Y (Ql Y Cu (Cell.blk 2 (k:=4) Y Y) (Qw ?_))));exact fin _ _ _ (by kernel_rfl) ⟨_,_,_,_,_,Y,(.head _),hO8,Qs⟩
        refine Ai Y ?_ ?_
        ·refine Ql Y Cu (Cell.blk 2 (k:=4) Y Y) (Qw (Qo 8 Y (Gp 6 Or (.tail _ (.head _)) (by omega) Y Y Y Y Y Y Y Y Y (λv2 m2 hO8=>Qw ?_))));exact fin _ _ _ (by kernel_rfl) ⟨_,_,_,_,_,Y,(.head _),hO8,Qs⟩
        exact AH
       exact AH
      refine Ai Y ?_ ?_
      ·refine Ql Y Cu (Cell.blk 1 (k:=4) Y Y) (Qw (AG [5,14] (by kernel_rfl) Y ?_));refine Ai Y ?_ ?_
       ·refine Ql Y Cu (Cell.blk 1 (k:=3) Y Y) (Qw (AG [8,14] (by kernel_rfl) Y ?_));refine Ai Y ?_ ?_
        ·refine Gp 5 Or (.head _) (by omega) Y Y Y Y Y Y Y Y Y (λv2 m2 hO8=>Qw (Qo 14 Y (Fw Y Y Y Y Y Y (λg116=>Qw ?_))));exact fin _ _ _ (by kernel_rfl) ⟨_,_,_,_,_,Y,(.head _),hO8,Qs⟩
        refine Ai Y ?_ ?_
        ·refine Fw Y Y Y Y Y Y (λg116=>Qw (Qo 8 Y (Gp 6 Or (.tail _ (.head _)) (by omega) Y Y Y Y Y Y Y Y Y (λv2 m2 hO8=>Qw ?_))));exact fin _ _ _ (by kernel_rfl) ⟨_,_,_,_,_,Y,(.head _),hO8,Qs⟩
        exact AH
       refine Ai Y ?_ ?_
       ·refine Fw Y Y Y Y Y Y (λg116=>Qw (Qo 5 Y (Ql Y Cu (Cell.blk 2 (k:=3) Y Y) (Qw (Qo 8 Y (Gp 6 Or (.tail _ (.head _)) (by omega) Y Y Y Y Y Y Y Y Y (λv2 m2 hO8=>Qw ?_)))))));exact fin _ _ _ (by kernel_rfl) ⟨_,_,_,_,_,Y,(.head _),hO8,Qs⟩
       exact AH
      refine Ai Y ?_ ?_
      ·refine Fw Y Y Y Y Y Y (λg116=>Qw (AG [5,12] (by kernel_rfl) Y ?_));refine Ai Y ?_ ?_
       ·refine Ql Y Cu (Cell.blk 2 (k:=3) Y Y) (Qw (AG [8,12] (by kernel_rfl) Y ?_));refine Ai Y ?_ ?_
        ·refine Gp 6 Or (.tail _ (.head _)) (by omega) Y Y Y Y Y Y Y Y Y (λv2 m2 hO8=>Qw (Qo 12 Y (Ql Y Cu (Cell.blk 2 (k:=4) Y Y) (Qw ?_))));exact fin _ _ _ (by kernel_rfl) ⟨_,_,_,_,_,Y,(.head _),hO8,Qs⟩
        refine Ai Y ?_ ?_
        ·refine Ql Y Cu (Cell.blk 2 (k:=4) Y Y) (Qw (Qo 8 Y (Gp 6 Or (.tail _ (.head _)) (by omega) Y Y Y Y Y Y Y Y Y (λv2 m2 hO8=>Qw ?_))));exact fin _ _ _ (by kernel_rfl) ⟨_,_,_,_,_,Y,(.head _),hO8,Qs⟩
        exact AH
       refine Ai Y ?_ ?_
       ·refine Ql Y Cu (Cell.blk 2 (k:=4) Y Y) (Qw (Qo 5 Y (Ql Y Cu (Cell.blk 2 (k:=3) Y Y) (Qw (Qo 8 Y (Gp 6 Or (.tail _ (.head _)) (by omega) Y Y Y Y Y Y Y Y Y (λv2 m2 hO8=>Qw ?_)))))));exact fin _ _ _ (by kernel_rfl) ⟨_,_,_,_,_,Y,(.head _),hO8,Qs⟩
       exact AH
      exact AH
     refine Ai Y ?_ ?_
     ·refine Ql Y Cu (Cell.blk 0 (k:=4) Y Y) (Qw (AG [5,7,14] (by kernel_rfl) Y ?_));refine Ai Y ?_ ?_
      ·refine Ql Y Cu (Cell.blk 0 (k:=3) Y Y) (Qw (AG [7,14] (by kernel_rfl) Y ?_));refine Ai Y ?_ ?_
       ·refine Fw Y Y Y Y Y Y (λg109=>Qw (AG [8,14] (by kernel_rfl) Y ?_));refine Ai Y ?_ ?_
        ·refine Gp 5 Or (.head _) (by omega) Y Y Y Y Y Y Y Y Y (λv2 m2 hO8=>Qw (Qo 14 Y (Fw Y Y Y Y Y Y (λg116=>Qw ?_))));exact fin _ _ _ (by kernel_rfl) ⟨_,_,_,_,_,Y,(.head _),hO8,Qs⟩
        refine Ai Y ?_ ?_
        ·refine Fw Y Y Y Y Y Y (λg116=>Qw (Qo 8 Y (Gp 6 Or (.tail _ (.head _)) (by omega) Y Y Y Y Y Y Y Y Y (λv2 m2 hO8=>Qw ?_))));exact fin _ _ _ (by kernel_rfl) ⟨_,_,_,_,_,Y,(.head _),hO8,Qs⟩
        exact AH
       refine Ai Y ?_ ?_
       ·refine Fw Y Y Y Y Y Y (λg116=>Qw (Qo 7 Y (Fw Y Y Y Y Y Y (λg109=>Qw (Qo 8 Y (Gp 6 Or (.head _) (by omega) Y Y Y Y Y Y Y Y Y (λv2 m2 hO8=>Qw ?_)))))));exact fin _ _ _ (by kernel_rfl) ⟨_,_,_,_,_,Y,(.tail _ (.head _)),hO8,Qs⟩
       exact AH
      refine Ai Y ?_ ?_
      ·refine Fw Y Y Y Y Y Y (λg109=>Qw (AG [5,14] (by kernel_rfl) Y ?_));refine Ai Y ?_ ?_
       ·refine Ql Y Cu (Cell.blk 1 (k:=3) Y Y) (Qw (AG [8,14] (by kernel_rfl) Y ?_));refine Ai Y ?_ ?_
        ·refine Gp 5 Or (.head _) (by omega) Y Y Y Y Y Y Y Y Y (λv2 m2 hO8=>Qw (Qo 14 Y (Fw Y Y Y Y Y Y (λg116=>Qw ?_))));exact fin _ _ _ (by kernel_rfl) ⟨_,_,_,_,_,Y,(.head _),hO8,Qs⟩
        refine Ai Y ?_ ?_
        ·refine Fw Y Y Y Y Y Y (λg116=>Qw (Qo 8 Y (Gp 6 Or (.tail _ (.head _)) (by omega) Y Y Y Y Y Y Y Y Y (λv2 m2 hO8=>Qw ?_))));exact fin _ _ _ (by kernel_rfl) ⟨_,_,_,_,_,Y,(.head _),hO8,Qs⟩
        exact AH
       refine Ai Y ?_ ?_
       ·refine Fw Y Y Y Y Y Y (λg116=>Qw (Qo 5 Y (Ql Y Cu (Cell.blk 2 (k:=3) Y Y) (Qw (Qo 8 Y (Gp 6 Or (.tail _ (.head _)) (by omega) Y Y Y Y Y Y Y Y Y (λv2 m2 hO8=>Qw ?_)))))));exact fin _ _ _ (by kernel_rfl) ⟨_,_,_,_,_,Y,(.head _),hO8,Qs⟩
       exact AH
      refine Ai Y ?_ ?_
      ·refine Fw Y Y Y Y Y Y (λg116=>Qw (AG [5,7] (by kernel_rfl) Y ?_));refine Ai Y ?_ ?_
       ·refine Ql Y Cu (Cell.blk 1 (k:=3) Y Y) (Qw (Qo 7 Y (Fw Y Y Y Y Y Y (λg109=>Qw (Qo 8 Y (Gp 6 Or (.head _) (by omega) Y Y Y Y Y Y Y Y Y (λv2 m2 hO8=>Qw ?_)))))));exact fin _ _ _ (by kernel_rfl) ⟨_,_,_,_,_,Y,(.tail _ (.head _)),hO8,Qs⟩
       refine Ai Y ?_ ?_
       ·refine Fw Y Y Y Y Y Y (λg109=>Qw (Qo 5 Y (Ql Y Cu (Cell.blk 2 (k:=3) Y Y) (Qw (Qo 8 Y (Gp 6 Or (.head _) (by omega) Y Y Y Y Y Y Y Y Y (λv2 m2 hO8=>Qw ?_)))))));exact fin _ _ _ (by kernel_rfl) ⟨_,_,_,_,_,Y,(.tail _ (.head _)),hO8,Qs⟩
       exact AH
      exact AH
     refine Ai Y ?_ ?_
     ·refine Fw Y Y Y Y Y Y (λg116=>Qw (AG [5,7,12] (by kernel_rfl) Y ?_));refine Ai Y ?_ ?_
      ·refine Ql Y Cu (Cell.blk 1 (k:=3) Y Y) (Qw (AG [7,12] (by kernel_rfl) Y ?_));refine Ai Y ?_ ?_
       ·refine Fw Y Y Y Y Y Y (λg109=>Qw (AG [8,12] (by kernel_rfl) Y ?_));refine Ai Y ?_ ?_
        ·refine Gp 6 Or (.head _) (by omega) Y Y Y Y Y Y Y Y Y (λv2 m2 hO8=>Qw (Qo 12 Y (Ql Y Cu (Cell.blk 2 (k:=4) Y Y) (Qw ?_))));exact fin _ _ _ (by kernel_rfl) ⟨_,_,_,_,_,Y,(.tail _ (.head _)),hO8,Qs⟩
        refine Ai Y ?_ ?_
        ·refine Ql Y Cu (Cell.blk 2 (k:=4) Y Y) (Qw (Qo 8 Y (Gp 6 Or (.head _) (by omega) Y Y Y Y Y Y Y Y Y (λv2 m2 hO8=>Qw ?_))));exact fin _ _ _ (by kernel_rfl) ⟨_,_,_,_,_,Y,(.tail _ (.head _)),hO8,Qs⟩
        exact AH
       refine Ai Y ?_ ?_
       ·refine Ql Y Cu (Cell.blk 1 (k:=4) Y Y) (Qw (Qo 7 Y (Fw Y Y Y Y Y Y (λg109=>Qw (Qo 8 Y (Gp 6 Or (.head _) (by omega) Y Y Y Y Y Y Y Y Y (λv2 m2 hO8=>Qw ?_)))))));exact fin _ _ _ (by kernel_rfl) ⟨_,_,_,_,_,Y,(.tail _ (.head _)),hO8,Qs⟩
       exact AH
      refine Ai Y ?_ ?_
      ·refine Fw Y Y Y Y Y Y (λg109=>Qw (AG [5,12] (by kernel_rfl) Y ?_));refine Ai Y ?_ ?_
       ·refine Ql Y Cu (Cell.blk 2 (k:=3) Y Y) (Qw (AG [8,12] (by kernel_rfl) Y ?_));refine Ai Y ?_ ?_
        ·refine Gp 6 Or (.head _) (by omega) Y Y Y Y Y Y Y Y Y (λv2 m2 hO8=>Qw (Qo 12 Y (Ql Y Cu (Cell.blk 2 (k:=4) Y Y) (Qw ?_))));exact fin _ _ _ (by kernel_rfl) ⟨_,_,_,_,_,Y,(.tail _ (.head _)),hO8,Qs⟩
        refine Ai Y ?_ ?_
        ·refine Ql Y Cu (Cell.blk 2 (k:=4) Y Y) (Qw (Qo 8 Y (Gp 6 Or (.head _) (by omega) Y Y Y Y Y Y Y Y Y (λv2 m2 hO8=>Qw ?_))));exact fin _ _ _ (by kernel_rfl) ⟨_,_,_,_,_,Y,(.tail _ (.head _)),hO8,Qs⟩
        exact AH
       refine Ai Y ?_ ?_
       ·refine Ql Y Cu (Cell.blk 2 (k:=4) Y Y) (Qw (Qo 5 Y (Ql Y Cu (Cell.blk 2 (k:=3) Y Y) (Qw (Qo 8 Y (Gp 6 Or (.head _) (by omega) Y Y Y Y Y Y Y Y Y (λv2 m2 hO8=>Qw ?_)))))));exact fin _ _ _ (by kernel_rfl) ⟨_,_,_,_,_,Y,(.tail _ (.head _)),hO8,Qs⟩
       exact AH
      refine Ai Y ?_ ?_
      ·refine Ql Y Cu (Cell.blk 1 (k:=4) Y Y) (Qw (AG [5,7] (by kernel_rfl) Y ?_));refine Ai Y ?_ ?_
       ·refine Ql Y Cu (Cell.blk 1 (k:=3) Y Y) (Qw (Qo 7 Y (Fw Y Y Y Y Y Y (λg109=>Qw (Qo 8 Y (Gp 6 Or (.head _) (by omega) Y Y Y Y Y Y Y Y Y (λv2 m2 hO8=>Qw ?_)))))));exact fin _ _ _ (by kernel_rfl) ⟨_,_,_,_,_,Y,(.tail _ (.head _)),hO8,Qs⟩
       refine Ai Y ?_ ?_
       ·refine Fw Y Y Y Y Y Y (λg109=>Qw (Qo 5 Y (Ql Y Cu (Cell.blk 2 (k:=3) Y Y) (Qw (Qo 8 Y (Gp 6 Or (.head _) (by omega) Y Y Y Y Y Y Y Y Y (λv2 m2 hO8=>Qw ?_)))))));exact fin _ _ _ (by kernel_rfl) ⟨_,_,_,_,_,Y,(.tail _ (.head _)),hO8,Qs⟩
       exact AH
      exact AH
     exact AH
  ·obtain⟨vr',vv',va,vb,mr',mv',mc,mo,mP',bs',rfl,l10,rfl,hO',Or',Ov',hOc,hOu⟩:=hI;refine Ad (Qx (oA Y) Y (Qm Y (An (D8 λhap=>?_))));simp only[List.pairwise_cons,mem_cons,not_mem_nil,or_false,forall_eq_or_imp,forall_eq]at hap;have d1:mR.disj mc:=Hp.disj_symm hap.2.2.1.2.2.2.1;have d2:mV.disj mo:=Hp.disj_symm hap.2.2.2.1.2.2.2;have CR':=CR.snoc hOc d1;have CV':=CV.snoc hOu d2;rw[<-GJ]at CR' CV';refine CD 3 Y (CD 7 Y (Ez (CD 3 Y (CD 6 Y (Ez (CD 2 Y (CD 3 Y (CD 3 Y (CD 3 Y (CD 5 Y (CD 5 Y ?_)))))))))));exact Am (S.length-(j+1)) _ (by omega) ⟨j+1,vr',vv',mr',mv',_,_,mP',_,_,bs',Y,Y,AI l9 l10,Y,by omega,hO',Or',Ov',CR',CV',by rw[length_append,hRl];rfl,by rw[length_append,hVl];rfl⟩ Qs
 ·obtain rfl:j=S.length:=by omega
  refine Ay (Aa (Aa (Ag (Ab (Aw (Ql Y TE (e10 _) (Qm Y (Qm Y (Ap (Aq (Kc Or λh10 l10 hRr=>(Kc Ov λh11 l11 hRv=>(CD 2 Y (AS (CD 2 Y ?_)))))))))))))));have l911:=AI l9 (AI l10 l11);exact BA Y Y Y (⟨AI l1 (AI l2 (AI l3 (AI l38 l911))),g34,gL,mL,bL,S,vA,vr,vv,Rs,Vs,mR,mV,Y,Y,hOL,AI lL8 l911,hQ.up (AI l10 l11),hRr.up l11,hRv,CR,CV,hSc,hsrt,λa ha=>(hSA a ha).up l911⟩)
end Go.Proofs.Q
namespace Go.Proofs.Q
open Go.Proofs.Tryz
open Go.Eng Go.RowKit Go.Lin Go.Sort Go.Srt
variable {j n:Nat} {p:Int} {R V:Nat->List Int} {r v:List Int} {α:Type}
theorem Ops.congr{R' V':Nat->List Int}{r1 v1:List Int}(h:Ops p n j R V r v r1 v1)(hR:∀k,k<j->R k=R' k)(hV:∀k,k<j->V k=V' k):Ops p n j R' V' r v r1 v1:=by
 induction h with
 | refl=>exact .refl
 | step h hk hi h0 h1 h2 h3 ih=>
  rw[hR _ hk]at h3 ⊢;rw[hV _ hk];exact ih.step hk hi h0 h1 h2 h3
def upd(R:Nat->α)(j:Nat)(r:α)(k:Nat):α:=if k=j then r else R k
theorem FT(R:Nat->α)(j:Nat)(r:α):upd R j r j=r:=if_pos rfl
theorem ES(R:Nat->α){k:Nat}(r:α)(h:k≠j):upd R j r k=R k:=if_neg h
theorem Red.next{la la':List Int}(D:Red p n j R V la)(hn:n<=400)(lr:r.length=n)(lv:v.length=n)(rr:KP p r)(rv:KP p v)(hL:LaS j r la la'):Red p n (j+1) (upd R j r) (upd V j v) la':=by
 have hb:=G8 r;have hlt:∀{k},k<j+1->k≠j->k<j:=λh1 h2=>by omega
 refine⟨λk hk=>?_,λk hk=>?_,λk hk=>?_,λk hk=>?_,?_,λi hi=>?_,λk hk h0=>?_⟩
 ·by_cases e:k=j
  ·rw[e,FT];exact lr
  ·rw[ES _ _ e];exact D.rl k (hlt hk e)
 ·by_cases e:k=j
  ·rw[e,FT];exact lv
  ·rw[ES _ _ e];exact D.vl k (hlt hk e)
 ·by_cases e:k=j
  ·rw[e,FT];exact rr
  ·rw[ES _ _ e];exact D.rr k (hlt hk e)
 ·by_cases e:k=j
  ·rw[e,FT];exact rv
  ·rw[ES _ _ e];exact D.vr k (hlt hk e)
 ·rcases hL with ⟨_,rfl⟩|⟨_,_,rfl⟩
  ·exact D.ll
  ·rw[length_set];exact D.ll
 ·have hold:la.getD i 0=0\/∃k,k<j+1/\la.getD i 0=(k:Int)+1/\Bn (upd R j r k)=i:=by
   rcases D.a0 i hi with h|⟨k,hk,h1,h2⟩
   ·exact .inl h
   ·exact .inr ⟨k,by omega,h1,by rw[ES _ _ (by omega)];exact h2⟩
  rcases hL with ⟨_,rfl⟩|⟨h1,h2,rfl⟩
  ·exact hold
  ·by_cases e:(Bn r).toNat=i
   ·refine .inr ⟨j,by omega,?_,by rw[FT];omega⟩;simp[List.getD,e,D.ll,hi]
   ·rw[show(la.set (Bn r).toNat ((j:Int)+1)).getD i 0=la.getD i 0 by simp[List.getD,List.getElem?_set_ne e]];exact hold
 ·by_cases e:k=j
  ·rw[e,FT]at h0 ⊢;rcases hL with ⟨h1,_⟩|⟨h1,h2,rfl⟩
   ·omega
   ·have:(Bn r).toNat<la.length:=by rw[D.ll];omega
    simp[List.getD,this]
  ·rw[ES _ _ e]at h0 ⊢;have h3:=D.a1 k (hlt hk e) h0;rcases hL with ⟨_,rfl⟩|⟨h1,h2,rfl⟩
   ·exact h3
   ·have hne:(Bn r).toNat≠(Bn (R k)).toNat:=λe=>by rw[e,h3]at h2;omega
    rw[show(la.set (Bn r).toNat ((j:Int)+1)).getD (Bn (R k)).toNat 0=la.getD (Bn (R k)).toNat 0 by simp[List.getD,List.getElem?_set_ne hne]];exact h3
theorem ColsO.head{vs:List Value}{cs:List (List Int)}{m:Hp}(h:ColsO m (vs.drop j) (cs.drop j))(hj:j<vs.length)(hc:j<cs.length):∃a b,m=a.join b/\a.disj b/\OwnL cI 1 3 a (vs.getD j undef) cs[j]/\ColsO b (vs.drop (j+1)) (cs.drop (j+1)):=by rw[List.drop_eq_getElem_cons hj,List.drop_eq_getElem_cons hc]at h;obtain⟨a,b,h1,h2,h3,h4⟩:=h;exact⟨a,b,h1,h2,by rw[show vs.getD j undef=vs[j] by simp[List.getD,hj]];exact h3,h4⟩
def Aap(g:Nat):Value:=.func (.func 121) #[.pointer (some ⟨g,0,none⟩)] #[]
structure AllC(p:Int)(S:List Ce)(n j:Nat)(R V:Nat->List Int)(la:List Int):Prop where
 red:Red p n j R V la
 ops:∀k,k<j->Ops p n k R V (JF p S k) (Fv n k) (R k) (V k)
theorem AllC.next{S:List Ce}{la la':List Int}(D:AllC p S n j R V la)(hn:n<=400)(lr:r.length=n)(lv:v.length=n)(rr:KP p r)(rv:KP p v)(hL:LaS j r la la')(hO:Ops p n j R V (JF p S j) (Fv n j) r v):AllC p S n (j+1) (upd R j r) (upd V j v) la':=by
 refine⟨D.red.next hn lr lv rr rv hL,λk hk=>?_⟩;have e1:∀i,i<j->R i=upd R j r i:=λi hi=>(ES _ _ (by omega)).symm;have e2:∀i,i<j->V i=upd V j v i:=λi hi=>(ES _ _ (by omega)).symm;by_cases e:k=j
 ·subst e;rw[FT,FT];exact hO.congr e1 e2
 ·have hk':k<j:=by omega
  rw[ES _ _ e,ES _ _ e];exact(D.ops k hk').congr (λi hi=>e1 i (by omega)) (λi hi=>e2 i (by omega))
theorem V5(p:Int)(S:List Ce)(n:Nat):AllC p S n 0 (λ_=>[]) (λ_=>[]) (replicate 400 0):=by
 refine⟨⟨λk hk=>(by omega),λk hk=>(by omega),λk hk=>(by omega),λk hk=>(by omega),by simp,λi hi=>.inl ?_,λk hk=>(by omega)⟩,λk hk=>(by omega)⟩;have:∀m,i<m->(replicate m (0:Int)).getD i 0=0:=λm h=>by simp[List.getD,h]
 exact this 400 hi
theorem W7(p:Int)(S:List Ce)(g gA:Nat)(vc vr vv:Value)(Rs Vs:List Value)(mR mV h:Hp)(hp:IsP p)(hn:S.length<=400)(oc:vc.oneCell'=true)
  (hRs:RdL cU 1 h [] vr Rs) (hVs:RdL cU 1 h [] vv Vs) (CR:ColsO mR Rs ((range S.length).map (JF p S))) (CV:ColsO mV Vs ((range S.length).map (Fv S.length))) :
  FnT Tryz.prog 120 #[.int .i64 S.length,Aap g] h [Bw g 130 (Fb p vc gA vr vv (replicate 400 0)),mR,mV] (λ_ h' ms'=>h.le h'/\∃R V la,ms'=[Bw g 130 (Fb p vc gA vr vv la)]/\AllC p S S.length S.length R V la/\(∀k,k<S.length->RdL cI 1 h' [] (Rs.getD k undef) (R k))/\∀k,k<S.length->RdL cI 1 h' [] (Vs.getD k undef) (V k)):=by
 have hp1:=hp.1;have lR:Rs.length=S.length:=by have:=CR.len;simpa using this
 have lV:Vs.length=S.length:=by have:=CV.len;simpa using this
 obtain⟨n,hSn⟩:∃n,S.length=n:=⟨_,Y⟩
 rw[hSn]at hn CR CV lR lV ⊢;refine Av func120 ntmps120 Y Y (λw0 hw0=>?_);simp only[A3];refine Aw (Qm Y (Qm Y (Ap (Ah ?_))))
 refine AD (λq sl h' ms'=>∃(j:Nat) (R V:Nat->List Int) (la:List Int) (mR mV:Hp),q=n-j/\sl=[(1,Aap g),(5,.int .i64 n),(6,.int .i64 j)]/\h.le h'/\ms'=[Bw g 130 (Fb p vc gA vr vv la),mR,mV]/\j<=n/\ColsO mR (Rs.drop j) (((range n).map (JF p S)).drop j)/\ColsO mV (Vs.drop j) (((range n).map (Fv n)).drop j)/\AllC p S n j R V la/\(∀k,k<j->RdL cI 1 h' [] (Rs.getD k undef) (R k))/\∀k,k<j->RdL cI 1 h' [] (Vs.getD k undef) (V k))
  (n-0) _ ⟨0,_,_,_,mR,mV,rfl,rfl,B8,rfl,by omega,CR,CV,V5 p S n,λk hk=>by omega,λk hk=>by omega⟩ Qs ?_
 rintro q sl h' ms' ⟨j,R,V,la,mR,mV,rfl,rfl,l1,rfl,hj,CR,CV,A,hR,hV⟩;have hRs:=hRs.up l1;have hVs:=hVs.up l1;refine Aw (Qm Y (Ap (Ac ?_)));refine Ax Y (λhlt=>?_) (λhlt=>?_)
 ·have hjn:j<n:=by omega
  obtain⟨a,b,rfl,dab,Oa,CR'⟩:=CR.head (by omega) (by simpa using hjn);obtain⟨c,d,rfl,dcd,Oc,CV'⟩:=CV.head (by omega) (by simpa using hjn);rw[List.getElem_map,List.getElem_range]at Oa Oc;refine DT 1 Y (Hi dab (DT 3 Y (Hi dcd (DT 2 Y (DT 4 Y (Aj (Ab (Ac (Ah (Aw (Qm Y (Qm Y (GH (Qm Y (Qm Y ?_)))))))))))))));refine E7 (pre:=[Bw g 130 (Fb p vc gA vr vv la),a,c]) Y Y call121 Y (SA p n j g gA vc vr vv Rs Vs R V la _ _ a c h' hp hn hjn hRs hVs lR lV hR hV A.red oc Oa Oc (by rw[show(JF p S j).length=S.length from F6 _ _ _ _];exact hSn) (LS n j) (O6 (by omega) S j _) (SM hp1 n j)) Y Y Y Y (λv' h2 pre' l2 hF=>?_);obtain⟨l2',r',v2,la',a',c',rfl,Oa',Oc',hO,lr,lv,rr,rv,hL⟩:=hF;simp only[cons_append,nil_append,append_nil];refine MS 1 Y (A5 Oa' λh3 l3 hr'=>(MS 1 Y (A5 Oc' λh4 l4 hv'=>?_)));have l24:=AI l3 l4;have l14:=AI l2 l24;have A':=A.next hn lr lv rr rv hL hO
  have hR':∀k,k<j+1->RdL cI 1 h4 [] (Rs.getD k undef) (upd R j r' k):=λk hk=>by
   by_cases e:k=j
   ·rw[e,FT];exact hr'.up l4
   ·rw[ES _ _ e];exact(hR k (by omega)).up l14
  have hV':∀k,k<j+1->RdL cI 1 h4 [] (Vs.getD k undef) (upd V j v2 k):=λk hk=>by
   by_cases e:k=j
   ·rw[e,FT];exact hv'
   ·rw[ES _ _ e];exact(hV k (by omega)).up l14
  refine An (Ak (Ab (Ad (Qx (oA Y) Y (Qm Y (An (CD 2 Y (CD 1 Y ?_))))))));exact Am (n-(j+1)) _ (by omega) ⟨j+1,_,_,la',b,d,Y,Y,AI l1 l14,Y,by omega,CR',CV',A',hR',hV'⟩ Qs
 ·obtain rfl:j=n:=by omega
  refine Ay (Aa (Aa (Ag (CD 1 Y (AS (CD 1 Y (AS ?_)))))));exact B7 Y (⟨l1,R,V,la,Y,A,hR,hV⟩)
end Go.Proofs.Q
namespace Go.Proofs.Q
open Go.Proofs.Tryz
open Go.Eng Go.RowKit Go.Lin Go.Sort Go.Srt
structure RedM(p:Int)(F:List (Int×Int))(l S:List Ce)(R V:Nat->List Int)(gm:Nat)(h:Hp):Prop where
 ex:∃(gA:Nat) (mA:Hp) (bs:List Nat) (vc vr vv:Value) (Rs Vs:List Value) (la:List Int),Seg h [] ⟨gm,0,none⟩ (Fb p vc gA vr vv la)/\CC kN kN gA BP mA (BI F) bs/\mA.le h/\RdL cC 3 h [] vc S/\RdL cU 1 h [] vr Rs/\RdL cU 1 h [] vv Vs/\Rs.length=S.length/\Vs.length=S.length/\(∀k,k<S.length->RdL cI 1 h [] (Rs.getD k undef) (R k))/\(∀k,k<S.length->RdL cI 1 h [] (Vs.getD k undef) (V k))/\AllC p S S.length S.length R V la
 perm:(S.map Ce.c).Perm (cn l)
 srt:Nw (Dn (BI F)) S
 sds:∀a∈S,RdL cD 2 h [] a.v a.c.sd
theorem Sf(l:List Ce)(F:List (Int×Int))(v vf:Value)(p:Int)(hp:Hp)(hK:RgC l)(hR:RdC hp v l)(hF:RdL cV 2 hp [] vf F)(hV:Ls F)(h0:Fz (cn l) F=(0,0))(hP:IsP p)(hl:l.length<=400):FnT Tryz.prog 51 #[.agg #[v],vf,.int .i64 p] hp [] (λr h' ms'=>hp.le h'/\∃(gm:Nat) (S:List Ce) (R V:Nat->List Int) (vl:Value) (ml:Hp),r=.tuple #[.pointer (some ⟨gm,0,none⟩),vl,.int .i64 0]/\ms'=[ml]/\OwnL cI 1 3 ml vl ((range S.length).map λk=>Bn (R k))/\RedM p F l S R V gm h'):=by
 have o1:=hR.q.rd.one;have o2:=hF.rd.one;refine Av func51 ntmps51 Y Y (λw0 hw0=>?_);simp only[A3];refine Aw (AY [_] Y Y (by rfl) Y Y Y (λg3=>Qm Y (Qm Y (Qm Y (Ap (AB λh1 l1 hS=>?_))))));have hR:=hR.up l1;have hF:=hF.up l1;refine Aw (Qx (oG Y BJ AO (Seg.any hS)) Y (Qm Y (Qm Y (Qc call91 Y (VM l F v vf p h1 hK hR hF hV h0 hP hl) (λrB h2 ms2 l2 hB=>?_)))));obtain⟨l2',gm,gA,mA,bs,S,vc,vr,vv,Rs,Vs,mR,mV,rfl,rfl,hOA,lA,hQ,hRs,hVs,CR,CV,hperm,hsrt,hsds⟩:=hB;have ovc:=hQ.rd.one;have lR:Rs.length=S.length:=by have:=CR.len;simpa using this
 have lV:Vs.length=S.length:=by have:=CV.len;simpa using this
 have hSn:S.length<=400:=by have:=hperm.length_eq;rw[length_map,C6]at this;omega
 refine Qm Y (Qm Y (Qm Y (Qm Y (Qm Y (Ap (Ac (Aw (Qm Y (Qm Y (Ap (Ax Y (λhc=>absurd hc (λh=>h Y)) (λhc=>Aj (Ab (Aw (Qm Y (Qm Y (Qf FD Y (Ql Y A9 (Cell.blk 0 (k:=1) Y Y) (Qx (As hQ.rd.any Y A9 Y) Y (Qm Y (Qx (BM Y Y Y) Y (Bb (pre:=[Bw gm 130 (Fb p vc gA vr vv (replicate 400 0)),mR,mV]) Y call120 Y (W7 p S gm gA vc vr vv Rs Vs mR mV h2 hP hSn ovc hRs hVs CR CV) Y Y Y Y (λ_ h3 ms3 l3 hE=>?_)))))))))))))))))))))));obtain⟨l3',R,V,la,rfl,A,hRR,hVV⟩:=hE;refine Ap (AB λh4 l4 hSg=>?_);have l24:=AI l3 l4;have hQ:=hQ.up l24;have hRs:=hRs.up l24;have hVs:=hVs.up l24;have hRR:=λk hk=>(hRR k hk).up l4;have hVV:=λk hk=>(hVV k hk).up l4;have lA4:=AI lA l24;have e3:∀ms,Cell h4 ms (⟨gm,3,none⟩:Addr) vr:=λms=>Seg.all hSg 3 _ Y ms;have ovr:=hRs.rd.one;refine BO (Aw (Qm Y (Ap (Ac (Aw (Qm Y (Qm Y (Qf FJ Y (Ql Y Cu (e3 _) (Qx (As hRs.rd.any Y Cu Y) Y (Qm Y (Ap (Ah ?_)))))))))))))
 refine AD (λq sl h' ms'=>∃(j:Nat) (vl:Value) (ml:Hp),q=S.length-j/\sl=[(9,.pointer (some ⟨gm,0,none⟩)),(11,vl),(35,vr),(36,.int .i64 Rs.length),(37,.int .i64 j)]/\h4.le h'/\ms'=[ml]/\j<=S.length/\OwnL cI 1 3 ml vl ((range j).map λk=>Bn (R k)))
  (S.length-0) _ ⟨0,_,Hp.emp,rfl,rfl,B8,rfl,by omega,OwnL.nil Bl⟩ Qs ?_
 rintro q sl h' ms' ⟨j,vl,ml,rfl,rfl,l5,rfl,hj,hO⟩;have hRs:=hRs.up l5;have ovl:=hO.o1;refine Aw (Qm Y (Ap (Ac ?_)));refine Ax Y (λhlt=>?_) (λhlt=>?_)
 ·have hjn:j<S.length:=by omega
  have hjR:j<Rs.length:=by omega
  have hRj:=(hRR j hjn).up l5;have orj:=hRj.rd.one;have cR:∀ms,Cell h' ms ((AJ vr).add (j*1)) (Rs.getD j undef):=λms=>by rw[show Rs.getD j undef=Rs[j] by simp[List.getD,hjR]];exact(hRs.any (ms:=ms)).cell0 hjR Y
  have hlj:=A.red.rl j hjn;refine Aj (Ab (Ac (Ah (Aw (Qx (BH (j) hRs.rd.any Y Cu Cw Y Y) Y (Ql Y A0 (cR _) (Qm Y (GH (Qm Y (Qm Y (Qx (AR Y call95 Y (VR (Rs.getD j undef) (R j) h' hRj (by omega) _)) Y (Ar [_] Y A0 Ba Y (by rfl) Y Y (by omega) Y Y Y (λg44=>?_)))))))))))));refine AZ 1 hO (RdL.one Bl (x:=Bn (R j)) Mh Y) Y A0 Ba Y (by omega) Y Y Y Ck (by simp;omega) (by simp;omega) rfl rfl rfl (λvl2 ml2 hO2=>?_);refine Qm Y (An (Ak (Ab (Ad (Qx (oA Y) Y (Qm Y (An (AS ?_))))))));exact Am (S.length-(j+1)) _ (by omega) ⟨j+1,vl2,ml2,Y,Y,l5,Y,by omega,by rw[GJ];exact hO2⟩ Qs
 ·obtain rfl:j=S.length:=by omega
  refine Ay (Aa (Aa (Ag (Ab (Aw (Qm Y (Qm Y (Qm Y (Qm Y (Qm Y (Ap (Aq ?_))))))))))));exact W5 Y Y Y Y (⟨AI l1 (AI l2 (AI l24 l5)),gm,S,R,V,vl,ml,Y,Y,hO,⟨gA,mA,bs,vc,vr,vv,Rs,Vs,la,hSg.le l5,hOA,AI lA4 l5,hQ.up l5,hRs,hVs.up l5,lR,lV,λk hk=>(hRR k hk).up l5,λk hk=>(hVV k hk).up l5,A⟩,hperm,hsrt,λa ha=>(hsds a ha).up (AI l24 l5)⟩)
end Go.Proofs.Q
namespace Go.Proofs
open Go.Proofs.Tryz
open Go.Shelf
def Tryz.lays161_ren:Go.Shelf.Ren:=⟨fun|161=>231|231=>271|227=>272|233=>273|235=>274|228=>295|197=>296|151=>297|260=>306|152=>307|137=>310|119=>311|224=>312|225=>313|217=>314|266=>315|n=>n,fun|9=>9|4=>4|3=>3|5=>5|117=>303|116=>302|0=>0|124=>306|105=>329|21=>21|119=>339|46=>223|139=>342|138=>341|n=>n,fun|3=>0|4=>1|n=>n⟩
theorem Tryz.lays161:Go.Proofs.Lays.n161 prog Tryz.lays161_ren:={
 mixed:=by kernel_rfl
 f119:=func311.trans (congrArg some (by kernel_rfl))
 f137:=func310.trans (congrArg some (by kernel_rfl))
 f151:=func297.trans (congrArg some (by kernel_rfl))
 f152:=func307.trans (congrArg some (by kernel_rfl))
 f161:=func231.trans (congrArg some (by kernel_rfl))
 f197:=func296.trans (congrArg some (by kernel_rfl))
 f217:=func314.trans (congrArg some (by kernel_rfl))
 f224:=func312.trans (congrArg some (by kernel_rfl))
 f225:=func313.trans (congrArg some (by kernel_rfl))
 f227:=func272.trans (congrArg some (by kernel_rfl))
 f228:=func295.trans (congrArg some (by kernel_rfl))
 f231:=func271.trans (congrArg some (by kernel_rfl))
 f233:=func273.trans (congrArg some (by kernel_rfl))
 f235:=func274.trans (congrArg some (by kernel_rfl))
 f260:=func306.trans (congrArg some (by kernel_rfl))
 f266:=func315.trans (congrArg some (by kernel_rfl))
 t0:=underlying0
 a0:=isAgg0
 z0:=sizeOf0
 v0:=zeroValue0
 t3:=underlying3
 a3:=isAgg3
 z3:=sizeOf3
 v3:=zeroValue3
 t4:=underlying4
 a4:=isAgg4
 z4:=sizeOf4
 v4:=zeroValue4
 t5:=underlying5
 a5:=isAgg5
 z5:=sizeOf5
 v5:=zeroValue5
 t9:=underlying9
 a9:=isAgg9
 z9:=sizeOf9
 v9:=zeroValue9
 t21:=underlying21
 a21:=isAgg21
 z21:=sizeOf21
 v21:=zeroValue21
 t46:=underlying223
 a46:=isAgg223
 z46:=sizeOf223
 v46:=zeroValue223
 t105:=underlying329
 a105:=isAgg329
 z105:=sizeOf329
 v105:=zeroValue329
 t116:=underlying302
 a116:=isAgg302
 z116:=sizeOf302
 t117:=underlying303
 a117:=isAgg303
 z117:=sizeOf303
 v117:=zeroValue303
 t119:=underlying339
 a119:=isAgg339
 z119:=sizeOf339
 t124:=underlying306
 a124:=isAgg306
 z124:=sizeOf306
 v124:=zeroValue306
 t138:=underlying341
 a138:=isAgg341
 z138:=sizeOf341
 v138:=zeroValue341
 t139:=underlying342
 a139:=isAgg342
 z139:=sizeOf342
 v139:=zeroValue342
 g3:=by kernel_rfl
 g4:=by kernel_rfl }
open Go.RowKit in
theorem Tryz.strings_TrimLeft_one(s:ByteArray)(c:UInt8)(hc:c.toNat<128)(w:World) :
  Calls prog 231 #[.string s,.string ⟨#[c]⟩] w λe w'=>e=.returned (.string ⟨(Lib.trimLeftB s.data.toList c).toArray⟩)/\w'=w:=Any.strings_TrimLeft_one Tryz.lays161 s c hc w
def Tryz.laysNm225_ren:Go.Shelf.Ren:=⟨fun|25=>130|31=>192|32=>193|37=>202|n=>n,fun|22=>22|3=>3|4=>4|40=>223|0=>0|n=>n,fun|n=>n⟩
theorem Tryz.laysNm225:Go.Proofs.Lays2.n25 prog Tryz.laysNm225_ren:={
 mixed:=by kernel_rfl
 f25:=func130.trans (congrArg some (by kernel_rfl))
 f31:=func192.trans (congrArg some (by kernel_rfl))
 f32:=func193.trans (congrArg some (by kernel_rfl))
 f37:=func202.trans (congrArg some (by kernel_rfl))
 t0:=underlying0
 a0:=isAgg0
 z0:=sizeOf0
 v0:=zeroValue0
 t3:=underlying3
 a3:=isAgg3
 z3:=sizeOf3
 v3:=zeroValue3
 t4:=underlying4
 a4:=isAgg4
 z4:=sizeOf4
 v4:=zeroValue4
 t22:=underlying22
 a22:=isAgg22
 z22:=sizeOf22
 v22:=zeroValue22
 t40:=underlying223
 a40:=isAgg223
 z40:=sizeOf223
 v40:=zeroValue223 }
open Go.RowKit Go.Lib in
theorem Tryz.slices_BinarySearch_int(b off n c:Nat)(zs:List Int)(x:Int)(w:World)(hz:n<=zs.length)(hbig:n<4611686018427387904)(hc:∀j,j<zs.length->w.cell? ⟨b,off+j,none⟩=some (.int .i64 (zs.getD j 0)))(hs:(zs.take n).Pairwise (·<=·)) :
  Calls prog 130 #[.slice (some ⟨b,off,none⟩) n c,.int .i64 x] w λe w'=>e=.returned (.tuple #[.int .i64 ((zs.take n).countP (·<x):Nat),.bool ((zs.take n).contains x)])/\∃q,w'=w.drewN q:=Any.slices_BinarySearch_int Tryz.laysNm225 b off n c zs x w hz hbig hc hs
open Go.RowKit Go.Lib in
theorem Tryz.slices_BinarySearch_int_empty(a:Option Addr)(c:Nat)(x:Int)(w:World) :
  Calls prog 130 #[.slice a 0 c,.int .i64 x] w λe w'=>e=.returned (.tuple #[.int .i64 0,.bool false])/\w'=w:=Any.slices_BinarySearch_int_empty Tryz.laysNm225 a c x w
end Go.Proofs

namespace Go.Proofs.Q
open Go.Eng Go.RowKit
structure Br where
 dim:Int
 birth:Int
 death:Int
 opn:Bool
 low:Int
 high:Int
deriving DecidableEq
def OG(b:Br):List Value:=[.int .i64 b.dim,.int .i64 b.birth,.int .i64 b.death,.bool b.opn,.int .i64 b.low,.int .i64 b.high]
theorem JT:∀b,(OG b).length=6:=λ_=>rfl
theorem QK:∀a,∀c∈OG a,c.oneCell'=true:=λa c hc=>by simp only[OG,mem_cons,not_mem_nil,or_false]at hc;rcases hc with rfl|rfl|rfl|rfl|rfl|rfl<;>rfl
open Go.Kuhn
theorem Rm(g n:Nat)(hn:n<=9223372036854775807):OwnL cB 1 4 (Bw g 4 (replicate n (Value.bool false))) (.slice (some ⟨g,0,none⟩) n n) (replicate n false):=
 ⟨⟨by rw[<-Qj];simp,.inr ⟨g,n,[],by simp,by rw[<-Qj];simp,by rw[<-Qj];simp,by simp,hn⟩⟩,Ze⟩
def put(x:Int):List Int->List Int
 | []=>[x]
 | y::l=>if y<=x then y::put x l else x::y::l
def Br.at(dim t:Int)(b:Br):Bool:=decide (b.dim=dim)&&decide (b.birth<=t)&&(b.opn||decide (t<b.death))
def fb(a b:Int):Br:=⟨1,a,b,false,0,0⟩
end Go.Proofs.Q
