/- A part of the proof. -/
import Derived.Test.YtodheebhahdepaaGreatDoorQD
import Derived.Shelf.SlGeneric
import Derived.Ground.SlsfProg
import Derived.Shelf.SlSortCmp.WholeK
import Derived.Shelf.SlSortCmp.NoneTotal
import Derived.Test.YtodheebhahdepaaGreatDoorProg
import Derived.Shelf.Strings.Trim
import Derived.Shelf.Small.Utf8
import Derived.Shelf.Small.Bits
import Derived.Shelf.Small.Strs
import Derived.Shelf.Small.Wraps
import Derived.Shelf.Strconv.Itoa0
import Derived.Shelf.Strings.Search1
import Derived.Shelf.Sort.Plain
import Derived.Shelf.Unicode.Decode
import Derived.Shelf.Strings.Runes
import Derived.Shelf.Strings.AsciiSet
import Derived.Shelf.Bits.Mul64
import Derived.Shelf.Unicode.DecodeSlow
import Derived.Shelf.Unicode.DecodeAny
import Derived.Shelf.Slices.Equal
import Derived.Ground.Names2Prog
import Derived.Shelf.Slices.Clone
import Derived.Shelf.Slices.CompactI
import Derived.Shelf.Slices.SearchI
import Derived.Shelf.Slices.Cells
import Derived.Shelf.Slices.In.SortNone
import Derived.Shelf.Slices.Empties
import Derived.Shelf.Slices.Empties2
import Derived.Ground.SlgnProg
import Derived.Shelf.SlicesE.Clone
import Derived.Sort.OwnSortedInts
import Derived.Lib.SlicesCompact
set_option linter.unusedSimpArgs false
set_option linter.unusedVariables false
set_option linter.unusedSectionVars false
set_option maxRecDepth 100000
set_option maxHeartbeats 4000000
open List (length_map length_singleton getElem_mem replicate range length_append nil_append length_take mem_cons cons_append append_nil map_cons length_set take_length not_mem_nil)
namespace Go.Proofs.Q
open Go.Proofs.Tryz
open Go.Eng Go.RowKit
variable {o:List Cl} {F:List (Int×Int)} {i:Nat} {e:Int×Int}
def fA(o:List Cl)(F:List (Int×Int))(i:Nat):Option (Int×Int):=
 if(OQ o (F.getD i (0,0)).1).isSome=false then some ((F.getD i (0,0)).1,30)
 else if(F.getD i (0,0)).1∈(F.take i).map Prod.fst then some ((F.getD i (0,0)).1,54) else none
def fB(o:List Cl)(F:List (Int×Int))(i:Nat):Option (Int×Int):=
 if(o.getD i default).id ∉ F.map Prod.fst then some ((o.getD i default).id,30) else none
def upS(o:List Cl)(F:List (Int×Int))(i:Nat):Prop:=∃s∈(o.getD i default).sd,Ie F s.1>Ie F (o.getD i default).id
instance (o:List Cl) (F:List (Int×Int)) (i:Nat):Decidable (upS o F i):=by unfold upS;infer_instance
def fC(o:List Cl)(F:List (Int×Int))(i:Nat):Option (Int×Int):=
 if upS o F i then some ((o.getD i default).id,44) else none
def F9(o:List Cl)(F:List (Int×Int)):Int×Int:=
 match (range F.length).findSome? (fA o F) with
 | some e=>e
 | none=>match (range o.length).findSome? (fB o F) with
  | some e=>e
  | none=>match (range o.length).findSome? (fC o F) with
   | some e=>e
   | none=>(0,0)
theorem Uv(hi:i<F.length)(h:∀j,j<i->fA o F j=none)(he:fA o F i=some e):F9 o F=e:=by unfold F9;rw[Eb h he F.length hi]
theorem Zh(hA:∀j,j<F.length->fA o F j=none)(hi:i<o.length)(h:∀j,j<i->fB o F j=none)(he:fB o F i=some e):F9 o F=e:=by unfold F9;rw[CF F.length hA,Eb h he o.length hi]
theorem Y8(hA:∀j,j<F.length->fA o F j=none)(hB:∀j,j<o.length->fB o F j=none)(hi:i<o.length)(h:∀j,j<i->fC o F j=none)(he:fC o F i=some e):F9 o F=e:=by unfold F9;rw[CF F.length hA,CF o.length hB,Eb h he o.length hi]
theorem UM(hA:∀j,j<F.length->fA o F j=none)(hB:∀j,j<o.length->fB o F j=none)(hC:∀j,j<o.length->fC o F j=none):F9 o F=(0,0):=by unfold F9;rw[CF F.length hA,CF o.length hB,CF o.length hC]
structure NM(F:List (Int×Int)):Prop where
 n:F.length<=1000000
 k:∀p∈F,BC p.1
theorem FL(l:List Ce)(F:List (Int×Int))(v vf:Value)(hp:Hp)(hK:RgC l)(hR:RdC hp v l)(hF:RdL cV 2 hp [] vf F)(hV:NM F):FnT Tryz.prog 24 #[.agg #[v],vf] hp [] (fun r _ _=>r=.tuple #[.int .i64 (F9 (cn l) F).1,.int .i64 (F9 (cn l) F).2]):=by
 have o1:=hR.q.rd.one;have o2:=hF.rd.one;have hG:=hK.F.rgt;have hFn:=hV.n;have hln:l.length<=4000:=by have:=hG.n;rwa [Dy]at this
 refine Ap func24 ntmps24 rfl rfl (fun w0 hw0=>?_);simp only[AU];refine Au (AX [_] rfl rfl (by rfl) rfl rfl rfl (fun g2=>Qm rfl (Qm rfl (Al (AD fun h1 l1 hS=>?_)))));have hR:=hR.up l1;have hF:=hF.up l1;refine Ac (Au (Qx (oG rfl CM AV (Seg.any hS)) rfl (Qx (AO rfl call28 rfl (Gf (Lx l v h1 hK hR) _)) rfl (Qm rfl (Qm rfl (Qm rfl (Qm rfl (Qm rfl (BL (Qm rfl (Qm rfl (Al (Av rfl (fun hc=>absurd hc (fun h=>h rfl)) (fun hc=>Ag (Ab (Au (Cp (K:=kN) (V:=vB) (Ok:=BC) rfl rfl rfl rfl (fun gS mS hS0=>Qm rfl (Al ?_)))))))))))))))))));refine Bb (fun sl h' ms'=>∃(mS:Hp) (TS:List (Int×Bool)) (bs:List Nat),sl=[(1,vf),(2,.pointer (some ⟨g2,0,none⟩)),(8,.map (some gS))]/\h1.le h'/\ms'=[mS]/\Cn kN vB gS BC mS TS bs/\MY TS/\(∀x,x∈FG TS<->x∈F.map Prod.fst)/\∀j,j<F.length->fA (cn l) F j=none) ?_ (fun s h ms hI=>?_)
 ·refine Ac (Ad (Qm rfl (Qx (Ar hF.rd.any rfl S8 rfl) rfl (Qm rfl (Al (Af ?_))))))
  refine Ax (fun q sl h' ms'=>∃(i:Nat) (mS:Hp) (TS:List (Int×Bool)) (bs:List Nat),q=F.length-i/\sl=[(1,vf),(2,.pointer (some ⟨g2,0,none⟩)),(8,.map (some gS)),(29,vf),(30,.int .i64 F.length),(31,.int .i64 i)]/\h1.le h'/\ms'=[mS]/\i<=F.length/\Cn kN vB gS BC mS TS bs/\MY TS/\(∀x,x∈FG TS<->x∈(F.take i).map Prod.fst)/\∀j,j<i->fA (cn l) F j=none)
   (F.length-0) _ ⟨0,mS,[],[],rfl,rfl,DU,rfl,by omega,hS0,fun p hp=>(nomatch hp),fun x=>by simp,fun j h=>by omega⟩ Qs ?_
  rintro q sl h2 ms' ⟨i,mS,TS,bs,rfl,rfl,l2,rfl,hi,hO,hA,hk,hno⟩;have hF:=hF.up l2;refine Au (Qm rfl (Al (Ac ?_)));refine Av rfl (fun hlt=>?_) (fun hlt=>?_)
  ·have hil:i<F.length:=by omega
   obtain⟨p,hp⟩:∃p,F[i]=p:=⟨_,rfl⟩
   have hgp:F.getD i (0,0)=p:=by simp[List.getD,hil,hp]
   have hpI:BC p.1:=hV.k p (by rw[<-hp];exact getElem_mem hil);have hsx:∀ms,Seg h2 ms ((AF vf).add (i*2)) (cV p):=fun ms=>by rw[<-hp];exact(hF.any (ms:=ms)).seg hil
   have hS2:=hS.le l2;refine Ag (Ab (Ac (Af (Au (Qx (BU (i) hF.rd.any rfl S8 Fz rfl rfl) rfl (Qx (oG rfl U47 Fz (hsx _)) rfl (CN [.int .i64 0,.int .i64 0] rfl Fz rfl rfl (fun g10=>?_))))))));refine Sa 0 [_,_] Fz rfl (by simp[Value.oneCell']) ?_;refine Al (AD fun h3 l3 hS10=>?_);have e0:∀ms,Cell h3 ms (⟨g10,0,none⟩:Addr) (.int .i64 p.1):=fun ms=>Seg.all hS10 0 _ rfl ms;have hS3:=hS2.le l3;have l13:=AI l2 l3;refine Ac (Au (Qx (oG rfl CM AV (Seg.any hS3)) rfl (Qf Hu rfl (Ql rfl U3 (e0 _) (Qc call21 rfl (KD l v p.1 h3 hK hpI (hR.up l13)) (fun rF h4 ms4 l4 hQ=>?_))))));obtain⟨l4',y,rfl,hyc,hyR⟩:=hQ;refine D0 ?_ ms4;have oy:=hyR.rd.one;have e0:∀ms,Cell h4 ms (⟨g10,0,none⟩:Addr) (.int .i64 p.1):=fun ms=>(e0 ms).le l4;have l14:=AI l13 l4;obtain⟨bb,hbb⟩:∃bb,(OQ (cn l) p.1).isSome=bb:=⟨_,rfl⟩
   rw[hbb];refine Qm rfl (Qm rfl (Qm rfl (CN [.int .i64 0,.int .i64 0,.slice none 0 0] rfl AH rfl rfl (fun g11=>?_))));refine Sa 0 [_,_,_] AH rfl (by simp[o1,o2,oy]) ?_;refine Qm rfl (BL (Qm rfl (Qm rfl (Al ?_))));refine Bu rfl (fun hn=>?_) (fun hn=>?_)
   ·have hbf:bb=false:=by cases bb<;>simp at hn ⊢
    have hch:=Uv (o:=cn l) hil hno (by unfold fA;rw[hgp,hbb,if_pos hbf]);refine Au (Qf Hu rfl (Ql rfl U3 (e0 _) (Qm rfl (Qm rfl (Al (Ao (Ah (Am (Ah (Ah (Am (Ah ?_))))))))))));exact BP rfl rfl rfl (by rw[hch])
   ·have hbt:¬bb=false:=by cases bb<;>simp at hn ⊢
    refine Ag (Ab (Ac (Au (Qm rfl (Qf Hu rfl (Ql rfl U3 (e0 _) (Qx (EK (V:=vB) (z:=false) p.1 A0 hO (by simp) rfl RX OL rfl rfl hpI) rfl ?_)))))));rw[Gs hA];refine Al ?_;refine Bu rfl (fun hin=>?_) (fun hin=>?_)
    ·have him:p.1∈FG TS:=of_decide_eq_true hin;have hch:=Uv (o:=cn l) hil hno (by unfold fA;rw[hgp,hbb,if_neg hbt,if_pos ((hk _).1 him)]);refine Au (Qf Hu rfl (Ql rfl U3 (e0 _) (Qm rfl (Qm rfl (Al (Ao (Ah (Am (Ah (Ah (Am (Ah ?_))))))))))));exact BP rfl rfl rfl (by rw[hch])
    ·have him:p.1 ∉ FG TS:=fun q=>by rw[decide_eq_true q]at hin;cases hin
     have hci:fA (cn l) F i=none:=by unfold fA;rw[hgp,hbb,if_neg hbt,if_neg fun q=>him ((hk _).2 q)]
     have hk':∀x,x∈FG (CC TS p.1 true)<->x∈(F.take (i+1)).map Prod.fst:=fun x=>by rw[List.take_succ_eq_append_getElem hil,hp,List.map_append,List.mem_append,map_cons,List.map_nil,List.mem_singleton,<-hk x,DP];exact⟨fun q=>q.symm,fun q=>q.symm⟩
     refine Ag (Ab (Ad (Qm rfl (Qf Hu rfl (Ql rfl U3 (e0 _) (Bv (V:=vB) (z:=undef) 1 p.1 true A0 hO rfl rfl RX rfl rfl rfl hpI rfl rfl (fun mS' bs' hO'=>Aj (Ai (Ab (Ad (Qx (oA rfl) rfl (Qm rfl (Aj (AL ?_))))))))))))))
     exact Ak (F.length-(i+1)) _ (by omega) ⟨i+1,mS',_,bs',rfl,rfl,AI l13 l4,rfl,by omega,hO',HL hA p.1,hk',fun j hj=>by
      rcases (by omega:j<i\/j=i) with h1|rfl
      ·exact hno j h1
      ·exact hci⟩ Qs
  ·obtain rfl:i=F.length:=by omega
   rw[take_length]at hk;refine As (Aa (Aa (Ae ?_)));exact AC _ ⟨mS,TS,bs,rfl,l2,rfl,hO,hA,hk,hno⟩ Qs
 ·obtain⟨mS,TS,bs,rfl,l2,rfl,hO,hA,hk,hno⟩:=hI;have hR:=hR.up l2;have hF:=hF.up l2;have hS2:=hS.le l2;refine Au (Qx (oG rfl CM AV (Seg.any hS2)) rfl (Qc call65 rfl (IG l v _ hK hR) (fun rC h3 ms3 l3 hQ=>?_)));obtain⟨l3',mA,A,vA,rfl,rfl,hOA,hAl,hsA⟩:=hQ;refine Bw hOA fun hq l4 hQ=>?_;have hsA:=fun a ha=>(hsA a ha).up l4;have hF:=hF.up (AI l3 l4);have ovA:=hQ.rd.one;have hol:(cn l).length=A.length:=by rw[<-hAl,length_map]
  have hAn:A.length<=4000:=by rw[<-hol,Dy];exact hln
  have hget:∀i (hi:i<A.length),(cn l).getD i default=A[i].c:=fun i hi=>by rw[<-hAl];simp[List.getD,hi]
  have hpos:=hG.pos;obtain⟨o,ho⟩:∃o,cn l=o:=⟨_,rfl⟩
  have hAI:∀a∈A,BC a.c.id:=fun a ha=>by
   have h1:a.c∈cn l:=by rw[<-hAl];exact List.mem_map.2 ⟨a,ha,rfl⟩
   have h2:=hpos _ h1;have h3:=hK.ci h1;unfold BC;omega
  have hAs:∀a∈A,a.c.sd.length<=64/\∀s∈a.c.sd,BC s.1:=fun a ha=>by
   have h1:a.c∈cn l:=by rw[<-hAl];exact List.mem_map.2 ⟨a,ha,rfl⟩
   refine⟨(hK.F.bds h1).2.1,fun s hs=>?_⟩;obtain⟨y,hy,e,_⟩:=hG.sid _ h1 s hs;have h2:=hpos _ hy;have h3:=hK.ci hy;rw[<-e];unfold BC;omega
  rw[ho]at hol hno hget ⊢;refine Qx (D8 rfl CM rfl Bk rfl rfl rfl) rfl (Qm rfl (Al ?_));refine Bb (fun sl h' ms'=>∃(mS:Hp),sl=[(1,vf),(13,vA)]/\hq.le h'/\ms'=[mS]/\∀j,j<A.length->fB o F j=none) ?_ (fun s h ms hI=>?_)
  ·refine Ac (Ad (Qm rfl (Qx (Ar hQ.rd.any rfl Bk rfl) rfl (Qm rfl (Al (Af ?_))))))
   refine Ax (fun q sl h' ms'=>∃(i:Nat),q=A.length-i/\sl=[(1,vf),(8,.map (some gS)),(13,vA),(59,vA),(60,.int .i64 A.length),(61,.int .i64 i)]/\hq.le h'/\ms'=[mS]/\i<=A.length/\∀j,j<i->fB o F j=none)
    (A.length-0) _ ⟨0,rfl,rfl,DU,rfl,by omega,fun j h=>by omega⟩ Qs ?_
   rintro q sl h5 ms' ⟨i,rfl,rfl,l5,rfl,hi,hnB⟩;have hQ:=hQ.up l5;refine Au (Qm rfl (Al (Ac ?_)));refine Av rfl (fun hlt=>?_) (fun hlt=>?_)
   ·have hil:i<A.length:=by omega
    obtain⟨x,hx⟩:∃x,A[i]=x:=⟨_,rfl⟩
    have hxm:x∈A:=by rw[<-hx];exact getElem_mem hil
    have hgx:=hget i hil;rw[hx]at hgx;have hX:=(hsA x hxm).up l5;have oxv:=hX.rd.one;have hxI:=hAI x hxm;have hsx:∀ms,Seg h5 ms ((AF vA).add (i*3)) (cC x):=fun ms=>by rw[<-hx];exact(hQ.any (ms:=ms)).seg hil
    refine Ag (Ab (Ac (Af (Au (Qx (BU (i) hQ.rd.any rfl Bk AH rfl rfl) rfl (Qx (oG rfl EL AH (hsx _)) rfl (CN [.int .i64 0,.int .i64 0,.slice none 0 0] rfl AH rfl rfl (fun g15=>?_))))))));refine Sa 0 [_,_,_] AH rfl (by simp[o1,o2,ovA,oxv]) ?_;refine Al (AD fun h6 l6 hS8=>?_);have e80:∀ms,Cell h6 ms (⟨g15,0,none⟩:Addr) (.int .i64 x.c.id):=fun ms=>Seg.all hS8 0 _ rfl ms;refine Au (Qm rfl (Qf By rfl (Ql rfl U3 (e80 _) (Qx (EK (V:=vB) (z:=false) x.c.id A0 hO (by simp) rfl RX OL rfl rfl hxI) rfl ?_))));rw[Gs hA];refine Qm rfl (Al ?_);refine Bu rfl (fun hin=>?_) (fun hin=>?_)
    ·have hni:x.c.id ∉ F.map Prod.fst:=fun q=>by rw[decide_eq_true ((hk _).2 q)]at hin;cases hin
     have hch:=Zh (o:=o) (F:=F) hno (by rw[hol];exact hil) hnB (by unfold fB;rw[hgx,if_pos hni]);refine Au (Qf By rfl (Ql rfl U3 (e80 _) (Qm rfl (Qm rfl (Al (Ao (Am (Ah (Ah (Am (Ah ?_)))))))))));exact BP rfl rfl rfl (by rw[hch])
    ·have hni:x.c.id∈F.map Prod.fst:=Classical.byContradiction fun q=>by rw[decide_eq_false fun w=>q ((hk _).1 w)]at hin;cases hin
     have hci:fB o F i=none:=by unfold fB;rw[hgx,if_neg fun q=>q hni]
     refine Ag (Ai (Ab (Ad (Qx (oA rfl) rfl (Qm rfl (Aj ?_))))))
     exact Ak (A.length-(i+1)) _ (by omega) ⟨i+1,rfl,rfl,AI l5 l6,rfl,by omega,fun j hj=>by
      rcases (by omega:j<i\/j=i) with h1|rfl
      ·exact hnB j h1
      ·exact hci⟩ Qs
   ·obtain rfl:i=A.length:=by omega
    refine As (Aa (Aa (Ae ?_)));exact AC _ ⟨mS,rfl,l5,rfl,hnB⟩ Qs
  ·obtain⟨mS,rfl,l5,rfl,hnB⟩:=hI;have hQ:=hQ.up l5;have hF:=hF.up l5;have hsA:=fun a ha=>(hsA a ha).up l5;refine Au (Qm rfl (Qc call66 rfl (IT F vf _ hF hV.n hV.k) (fun rL h6 ms6 l6 hL=>?_)));obtain⟨l6',gL,mL,bL,rfl,rfl,hOL⟩:=hL;refine CN [.map none] rfl Ww rfl rfl (fun g16=>AK 0 0 rfl Ww rfl rfl (by rfl) rfl rfl (by decide) rfl rfl (Al (AD fun h7 l7 hS7=>(Bd fun h8 l8 k8=>?_))));have e16:∀ms,Cell h8 ms (⟨g16,0,none⟩:Addr) (.map (some gL)):=fun ms=>(Seg.all hS7 0 _ rfl ms).le l8;have l58:=AI l6 (AI l7 l8);have hQ:=hQ.up l58;have hsA:=fun a ha=>(hsA a ha).up l58;refine Ac (Au (Qm rfl (Qx (Ar hQ.rd.any rfl Bk rfl) rfl (Qm rfl (Al (Af ?_))))))
   refine Ax (fun q sl h' ms'=>∃(i:Nat),q=A.length-i/\sl=[(16,.pointer (some ⟨g16,0,none⟩)),(75,vA),(76,.int .i64 A.length),(77,.int .i64 i)]/\h8.le h'/\ms'=[mS]/\i<=A.length/\∀j,j<i->fC o F j=none)
    (A.length-0) _ ⟨0,rfl,rfl,DU,rfl,by omega,fun j h=>by omega⟩ Qs ?_
   rintro q sl h9 ms' ⟨i,rfl,rfl,l9,rfl,hi,hnC⟩;have hQ:=hQ.up l9;have e16:∀ms,Cell h9 ms (⟨g16,0,none⟩:Addr) (.map (some gL)):=fun ms=>(e16 ms).le l9;have k9:=AI k8 l9;refine Au (Qm rfl (Al (Ac ?_)));refine Av rfl (fun hlt=>?_) (fun hlt=>?_)
   ·have hil:i<A.length:=by omega
    obtain⟨x,hx⟩:∃x,A[i]=x:=⟨_,rfl⟩
    have hxm:x∈A:=by rw[<-hx];exact getElem_mem hil
    have hgx:=hget i hil;rw[hx]at hgx;have hX:=(hsA x hxm).up l9;have oxv:=hX.rd.one;have hxI:=hAI x hxm;obtain⟨hxn,hxs⟩:=hAs x hxm;have hsx:∀ms,Seg h9 ms ((AF vA).add (i*3)) (cC x):=fun ms=>by rw[<-hx];exact(hQ.any (ms:=ms)).seg hil
    refine Ag (Ab (Ac (Af (Au (Qx (BU (i) hQ.rd.any rfl Bk AH rfl rfl) rfl (Qx (oG rfl EL AH (hsx _)) rfl (CN [.int .i64 0,.int .i64 0,.slice none 0 0] rfl AH rfl rfl (fun g18=>?_))))))));refine Sa 0 [_,_,_] AH rfl (by simp[o1,o2,ovA,oxv]) ?_;refine Al (AD fun h10 l10 hS10=>?_);have e10:∀ms,Cell h10 ms (⟨g18,0,none⟩:Addr) (.int .i64 x.c.id):=fun ms=>Seg.all hS10 0 _ rfl ms;have e12:∀ms,Cell h10 ms (⟨g18,2,none⟩:Addr) x.v:=fun ms=>Seg.all hS10 2 _ rfl ms;have hX:=hX.up l10;have hct:=fun ms=>L8 x.c.sd x.v 68 [Value.pointer (some ⟨g16,0,none⟩),.pointer (some ⟨g18,0,none⟩)] (fun s=>decide (Ie F s.1>Ie F x.c.id)) h10 hX (by omega) (fun _ _=>rfl) (fun s hs ms=>T3 F s x.c.id g16 g18 gL mL bL h10 hOL (AI k9 l10) (fun ms=>(e16 ms).le l10) e10 hxI (hxs s hs) ms) ms;obtain⟨bb,hbb⟩:∃bb,decide (0<=MH x.c.sd fun s=>decide (Ie F s.1>Ie F x.c.id))=bb:=⟨_,rfl⟩
    have hub:bb=true<->upS o F i:=by rw[<-hbb,decide_eq_true_iff,Vc];unfold upS;rw[hgx];exact⟨fun⟨s,h1,h2⟩=>⟨s,h1,of_decide_eq_true h2⟩,fun⟨s,h1,h2⟩=>⟨s,h1,decide_eq_true h2⟩⟩
    rw[hbb]at hct;refine Au (Qf B5 rfl (Ql rfl Cu (e12 _) (Qx (BH rfl rfl rfl) rfl (Qx (AO rfl call67 rfl (hct _)) rfl (Al ?_)))));refine Bu rfl (fun hin=>?_) (fun hin=>?_)
    ·have hch:=Y8 (o:=o) (F:=F) hno (by rw[hol];exact hnB) (by rw[hol];exact hil) hnC (by unfold fC;rw[hgx,if_pos (hub.1 hin)]);refine Au (Qf By rfl (Ql rfl U3 (e10 _) (Qm rfl (Qm rfl (Al (Ao (Am (Ah (Ah (Am (Ah ?_)))))))))));exact BP rfl rfl rfl (by rw[hch])
    ·have hci:fC o F i=none:=by unfold fC;rw[if_neg fun q=>by rw[hub.2 q]at hin;cases hin]
     refine Ag (Ai (Ab (Ad (Qx (oA rfl) rfl (Qm rfl (Aj ?_))))))
     exact Ak (A.length-(i+1)) _ (by omega) ⟨i+1,rfl,rfl,AI l9 l10,rfl,by omega,fun j hj=>by
      rcases (by omega:j<i\/j=i) with h1|rfl
      ·exact hnC j h1
      ·exact hci⟩ Qs
   ·obtain rfl:i=A.length:=by omega
    have hch:=UM (o:=o) (F:=F) hno (by rw[hol];exact hnB) (by rw[hol];exact hnC);refine As (Aa (Aa (Ae (Ab (Au (Qm rfl (Qm rfl (Al (Ao ?_)))))))));exact BP rfl rfl rfl (by rw[hch])
end Go.Proofs.Q
namespace Go.Proofs.Q
open Go.Proofs.Tryz
open Go.Eng Go.RowKit Go.Lin
variable {p:Int}
def IsP(p:Int):Prop:=2<=p/\p<=997/\∀k,k<p.toNat->2<=k->p.toNat%k≠0
instance (p:Int):Decidable (IsP p):=by unfold IsP;infer_instance
theorem IsP.prm(h:IsP p):Prm p.toNat:=by obtain⟨h1,h2,h3⟩:=h;refine HS (by omega) fun k hk hkk=>h3 k ?_ hk;have:2*k<=k*k:=Nat.mul_le_mul_right k hk;omega
theorem IsP.fld(h:IsP p):DZ p:=by
 have:=h.prm.fld
 rwa [Int.toNat_of_nonneg (by have:=h.1;omega)]at this
theorem MS(h2:2<=p)(h9:p<=997)(j:Nat)(hj:p<(j:Int)*j)(h:∀k,2<=k->k<j->p.toNat%k≠0):IsP p:=by
 refine⟨h2,h9,fun k hk h2k he=>?_⟩
 have hp:Prm p.toNat:=by
  refine HS (by omega) fun k hk hkk=>h k hk (Nat.lt_of_not_le fun hle=>?_);have h1:j*j<=k*k:=Nat.mul_le_mul hle hle;have h2:((j*j:Nat):Int)=(j:Int)*j:=by simp
  omega
 rcases hp.2 k (Nat.dvd_of_mod_eq_zero he) with h|h<;>omega
theorem W9(hp:0<=p)(k:Nat)(hk:0<k):p%(k:Int)=((p.toNat%k:Nat):Int):=by rw[Int.natCast_emod,Int.toNat_of_nonneg hp]
theorem Vx(p:Int)(h:Hp)(hI:BC p):FnT Tryz.prog 54 #[.int .i64 p] h [] (fun r _ _=>r=.bool (decide (IsP p))):=by
 have hI1:=hI.1;have hI2:=hI.2;refine Ap func54 ntmps54 rfl rfl (fun w0 hw0=>?_);simp only[AU];refine Au (Qm rfl (Al (Ac (Au (Qm rfl (Qm rfl (Qm rfl ?_)))))));refine AS (t:=6) rfl (fun hs=>?_) (fun hs=>?_)
 ·refine Qk rfl (Qk rfl (Qm rfl (Al (B3 rfl (Au (Qm rfl (Al (Ao (Ah ?_)))))))));exact Az rfl rfl (by rw[decide_eq_false];exact fun h=>absurd h.1 (by omega))
 ·refine Qg (AA rfl rfl) rfl (Qg (CK rfl rfl rfl) rfl (Qm rfl (Al ?_)));refine Av rfl (fun hs2=>?_) (fun hs2=>?_)
  ·refine Ac (Ad (Qm rfl (Al (Ao (Ah ?_)))));exact Az rfl rfl (by rw[decide_eq_false];exact fun h=>absurd h.2.1 (by omega))
  ·refine Ag (Ab (Ac (Au (Qm rfl (Al (Af ?_))))))
   refine Ax (fun n s h' ms'=>∃(k:Nat),n=1000-k/\s=[(0,.int .i64 p),(3,.int .i64 k)]/\h=h'/\ms'=[]/\2<=k/\k<=1000/\∀j,2<=j->j<k->p.toNat%j≠0)
    (1000-2) _ ⟨2,rfl,rfl,rfl,rfl,by omega,by omega,fun j h1 h2=>by omega⟩ Qs ?_
   rintro n s h' ms' ⟨k,rfl,rfl,rfl,rfl,h2,hk,hno⟩
   have hkk:(k:Int)*k<=1000*1000:=by
    have h1:k*k<=1000*1000:=Nat.mul_le_mul hk hk;have h2:((k*k:Nat):Int)=(k:Int)*k:=by simp
    omega
   have hkk0:0<=(k:Int)*k:=Int.mul_nonneg (by omega) (by omega);have hk4:2*(k:Int)<=(k:Int)*k:=Int.mul_le_mul_of_nonneg_right (by omega) (by omega);refine Ac (Au (Qm rfl (Qm rfl (Qx (oM rfl) rfl (Qm rfl (Qm rfl (Al ?_)))))));refine Av rfl (fun hlt=>?_) (fun hlt=>?_)
   ·refine Ag (Ab (Ac (Af (Au (Qm rfl (Qm rfl (Qx (BM rfl rfl rfl (by omega) (by omega)) rfl (Qm rfl (Al ?_)))))))));have hm:=W9 (p:=p) (by omega) k (by omega);refine Av rfl (fun hz=>?_) (fun hz=>?_)
    ·refine Ac (Ad (Qm rfl (Al (Ao (Am (Ah (Ah (Am (Ah ?_)))))))));exact Az rfl rfl (by rw[decide_eq_false];exact fun h=>absurd (show p.toNat%k=0 by omega) (h.2.2 k (by omega) h2))
    ·refine Ag (Ai (Ab (Ad (Qm rfl (Qx (oA rfl) rfl (Qm rfl (Aj ?_)))))));refine Ak (1000-(k+1)) _ (by omega) ⟨k+1,rfl,rfl,rfl,rfl,by omega,by omega,fun j h1 h3=>?_⟩ Qs;rcases (by omega:j<k\/j=k) with h4|h4
     ·exact hno j h1 h4
     ·subst h4;omega
   ·refine As (Aa (Aa (Ae (Ab (Au (Qm rfl (Al (Ao ?_))))))));exact Az rfl rfl (by rw[decide_eq_true];exact MS (by omega) (by omega) k (by omega) hno)
theorem Mm(p:Int)(h:Hp)(hI:BC p)(ms:List Hp):FnV Tryz.prog 54 #[.int .i64 p] h ms (.bool (decide (IsP p))):=by refine fun w hw=>(?_:FnV _ _ _ h [] _) w (hw.weaken (DU) (List.nil_sublist _));exact FnT.toV (Vx p h hI)
def IsLast(l:List Int)(r:Int):Prop:=(∃(i:Nat) (hi:i<l.length),r=i/\l[i]≠0/\∀j (hj:j<l.length),i<j->l[j]=0)\/(r=-1/\∀j (hj:j<l.length),l[j]=0)
def Zs(l:List Int)(k:Nat):List Value:=[.int .i64 ((l.length:Int)-1-k),.int .i64 (l.getD (l.length-1-k) 0)]
theorem S9(g:Nat)(v:Value)(l:List Int)(h:Hp)(hG:Seg h [] ⟨g,0,none⟩ [v])(hR:RdL cI 1 h [] v l)(hn2:l.length<=1000000):YO Tryz.prog 203 [.pointer (some ⟨g,0,none⟩)] h l.length (Zs l):=by
 intro lp X Y h1 ms hl hY h0;show FnT _ _ #[.func (.yield lp) #[] #[],.pointer (some ⟨g,0,none⟩)] _ _ _;have hG:=hG.le hl;have hR:=hR.up hl;obtain⟨n,hn⟩:∃n,l.length=n:=⟨_,rfl⟩
 rw[hn]at hn2 hY;refine Ap func203 ntmps203 rfl rfl (fun w0 hw0=>?_);simp only[AU];refine Ac (Da (Dh (oL rfl AR ((hG.at0 rfl).any)) rfl rfl rfl (Dh (Ar hR.rd.any rfl AR rfl) rfl rfl rfl (Dh (oS rfl) rfl rfl rfl (Dh (FC rfl rfl) rfl rfl rfl (Fk (Ab (Af ?_))))))))
 refine Ax (fun q s hh ms'=>∃(k:Nat),q=n-k/\s=[(0,.func (.yield lp) #[] #[]),(1,.pointer (some ⟨g,0,none⟩)),(3,.int .i64 ((n:Int)-1-k))]/\h1.le hh/\k<=n/\X k hh ms')
  (n-0) [(0,.func (.yield lp) #[] #[]),(1,.pointer (some ⟨g,0,none⟩)),(3,.int .i64 ((l.length:Int)-1))] ⟨0,rfl,by rw[hn,show((n:Int)-1-(0:Nat))=(n:Int)-1 by omega],DU,by omega,h0⟩ Qs ?_
 rintro q s hh ms' ⟨k,rfl,rfl,lh,hk,hX⟩;refine Ac (Ac (Da (Dh (AA rfl rfl) rfl rfl rfl (Dh (IS rfl rfl rfl) rfl rfl rfl (Fk (Ab ?_))))));refine Av rfl (fun hlt=>?_) (fun hlt=>?_)
 ·have hkn:k<n:=by omega
  have hG2:=hG.le lh;have hR2:=hR.up lh;have hi:n-1-k<l.length:=by omega
  have hc:∀ms,Cell hh ms ((AF v).add ((n-1-k)*1)) (.int .i64 (l.getD (n-1-k) 0)):=fun ms=>by rw[show l.getD (n-1-k) 0=l[n-1-k] by simp[List.getD,hi]];exact(hR2.any (ms:=ms)).cell0 hi rfl
  refine Ag (Ab (Ac (Af (Ac (Da (Dh (AA rfl rfl) rfl rfl rfl (Dh (AA rfl rfl) rfl rfl rfl (Dh (oL rfl AR ((hG2.at0 rfl).any)) rfl rfl rfl (Dh (AA rfl rfl) rfl rfl rfl (Dh (BU (n-1-k) hR2.rd.any rfl AR Be rfl rfl) rfl rfl rfl (Dh (oL rfl U3 (hc _)) rfl rfl rfl ?_)))))))))));have hyk:=hY k hh ms' hkn lh hX;unfold Zs at hyk;rw[hn]at hyk;refine N5 rfl rfl rfl (hyk) rfl rfl rfl (fun r h2 ms2 l2 hr=>?_);rcases hr with ⟨rfl,hX2⟩|⟨rfl,hX2⟩
  ·refine Dh (GL rfl rfl) rfl rfl rfl (Fk (Ab (AM rfl (Ag (Ai (Ab (Da (Dh (AA rfl rfl) rfl rfl rfl (Dh (oS rfl) rfl rfl rfl (Dh (FC rfl rfl) rfl rfl rfl (Fk ?_)))))))))));refine Ak (n-(k+1)) [(0,.func (.yield lp) #[] #[]),(1,.pointer (some ⟨g,0,none⟩)),(3,.int .i64 ((n:Int)-1-k-1))] (by omega) ⟨k+1,rfl,by rw[show((n:Int)-1-k-1)=(n:Int)-1-(k+1:Nat) by omega],AI lh l2,by omega,hX2⟩ Qs
  ·refine Dh (GL rfl rfl) rfl rfl rfl (Fk (Ab (B3 rfl (Ao (Am (Ah (Ah (Am ?_))))))));exact Fg rfl (.inr ⟨k,by omega,hX2⟩)
 ·obtain rfl:k=n:=by omega
  refine As (Aa (Aa (Ae ?_)));exact BO rfl (.inl (by rw[hn];exact hX))
theorem Px(v:Value)(n:Nat)(cs:List Value)(h:Hp)(hR:Rd h [] v 1 n cs):FnT Tryz.prog 152 #[v] h [] (fun r h' ms'=>h=h'/\∃g,r=.func (.func 203) #[] #[.pointer (some ⟨g,0,none⟩)]/\ms'=[Bi g 22 [v]]):=by refine Ap func152 ntmps152 rfl rfl (fun w0 hw0=>?_);simp only[AU];refine Au (AX [_] rfl rfl (Rd.cells ‹_›) rfl rfl rfl (fun g1=>Qm rfl (BL (Qx (BH rfl rfl rfl) rfl (Qm rfl (Al (Ao ?_)))))));exact Az rfl rfl (⟨rfl,_,rfl,rfl⟩)
end Go.Proofs.Q

namespace Go.Proofs.Q
open Go.Proofs.Tryz
open Go.Eng Go.RowKit Go.Lin
theorem IsLast.uniq{l:List Int}{x y:Int}(h1:IsLast l x)(h2:IsLast l y):x=y:=by
 rcases h1 with ⟨i,hi,rfl,q1,q2⟩|⟨rfl,q⟩<;>rcases h2 with ⟨j,hj,rfl,r1,r2⟩|⟨rfl,r⟩
 ·rcases Nat.lt_trichotomy i j with h|h|h
  ·exact absurd (q2 j hj h) r1
  ·rw[h]
  ·exact absurd (r2 i hi h) q1
 ·exact absurd (r i hi) q1
 ·exact absurd (q j hj) r1
 ·rfl
theorem IsLast.ex(l:List Int):∃x,IsLast l x:=by
 have key:∀n,n<=l.length->(∃(i:Nat) (hi:i<l.length),i<n/\l[i]≠0/\∀j (hj:j<l.length),i<j->j<n->l[j]=0)\/∀j (hj:j<l.length),j<n->l[j]=0:=fun n=>by
  induction n with
  | zero=>intro _;exact .inr fun j _ h=>by omega
  | succ n ih=>
   intro hn;by_cases h0:l[n]=0
   ·rcases ih (by omega) with ⟨i,hi,h1,h2,h3⟩|h
    ·refine .inl ⟨i,hi,by omega,h2,fun j hj h4 h5=>?_⟩;rcases (by omega:j<n\/j=n) with h6|rfl
     ·exact h3 j hj h4 h6
     ·exact h0
    ·refine .inr fun j hj h5=>?_;rcases (by omega:j<n\/j=n) with h6|rfl
     ·exact h j hj h6
     ·exact h0
   ·exact .inl ⟨n,by omega,by omega,h0,fun j hj h4 h5=>by omega⟩
 rcases key l.length (Nat.le_refl _) with ⟨i,hi,_,h2,h3⟩|h
 ·exact⟨i,.inl ⟨i,hi,rfl,h2,fun j hj h4=>h3 j hj h4 hj⟩⟩
 ·exact⟨-1,.inr ⟨rfl,fun j hj=>h j hj hj⟩⟩
noncomputable def A3(l:List Int):Int:=Classical.choose (IsLast.ex l)
theorem HU(l:List Int):IsLast l (A3 l):=Classical.choose_spec (IsLast.ex l)
theorem Oy{l:List Int}{x:Int}(h:IsLast l x):A3 l=x:=(HU l).uniq h
theorem Gw(l:List Int):-1<=A3 l/\A3 l<l.length:=by rcases HU l with ⟨i,hi,e,_⟩|⟨e,_⟩<;>rw[e]<;>omega
theorem Xt(v:Value)(l:List Int)(h:Hp)(hR:RdL cI 1 h [] v l)(hn:l.length<=1000000):FnT Tryz.prog 95 #[v] h [] (fun r _ _=>r=.int .i64 (A3 l)):=by
 have ov:=hR.rd.one;refine LQ func95 ntmps95 rfl rfl (fun w0 hw0=>?_);simp only[AU];refine Au (CN [.int .i64 0] rfl Be rfl rfl (fun g2=>Al (Ac (Au (Qm rfl (Qc call152 rfl (Px v l.length _ h hR.rd) (fun vf h10 ms10 l10 hF=>?_)))))));obtain⟨rfl,gb,rfl,rfl⟩:=hF;refine Al (Af (AD fun h2 l2 hGb=>?_));have hR:=hR.up l2;have hI:=S9 gb v l h2 hGb hR hn;refine Hb (fun k hh ms=>ms=[Bi g2 3 [.int .i64 0]]/\∀j (hj:j<l.length),l.length-k<=j->l[j]=0) (fun k hh ms=>ms=[Bi g2 3 [.int .i64 ((l.length:Int)-1-k)]]/\IsLast l ((l.length:Int)-1-k)) (fun k s1 hh ms=>s1=[(2,.pointer (some ⟨g2,0,none⟩)),(3,.int .i64 ((l.length:Int)-1-k)),(4,.int .i64 (l.getD (l.length-1-k) 0))]/\ms=[Bi g2 3 [.int .i64 0]]/\∀j (hj:j<l.length),l.length-k<=j->l[j]=0) rfl call203 hI (fun k=>rfl) rfl ?_ ?_ ?_ ?_ ?_
 ·exact⟨rfl,fun j hj h=>by omega⟩
 ·rintro w1 k hh ms1 hk lh ⟨rfl,hz⟩;rw[show Zs l k=[.int .i64 ((l.length:Int)-1-k),.int .i64 (l.getD (l.length-1-k) 0)] from rfl];refine Pq (D3 (by kernel_rfl) (Qm rfl (Aj (J8 (D3 (by kernel_rfl) (Qm rfl (Aj ?_)))))));exact AC _ ⟨rfl,rfl,hz⟩ Qs
 ·rintro w1 k s1 hh ms1 hk lh ⟨rfl,rfl,hz⟩;have hi:l.length-1-k<l.length:=by omega
  have eg:l.getD (l.length-1-k) 0=l[l.length-1-k]:=by simp[List.getD,hi]
  refine NZ (Pq (D3 (by kernel_rfl) (Qm rfl (Qm rfl (Aj (J8 ?_))))));refine Aaa rfl (fun hne=>?_) (fun hne=>?_)
  ·refine Pq (D3 (by kernel_rfl) (Qm rfl (AK 0 0 rfl Be rfl rfl (by rfl) rfl rfl (by decide) rfl rfl (Aj (J8 (Y4 (Am ?_)))))));refine WK [] ⟨rfl,.inl ⟨l.length-1-k,hi,by omega,by rw[<-eg];exact hne,fun j hj hlt=>hz j hj (by omega)⟩⟩ trivial
  ·refine Wi (Ai ?_);refine AC [] ⟨rfl,fun j hj hle=>?_⟩ trivial;rcases (by omega:l.length-k<=j\/j=l.length-1-k) with h1|rfl
   ·exact hz j hj h1
   ·rw[<-eg];exact Classical.not_not.1 hne
 ·rintro D hh ms1 lh ⟨rfl,hz⟩;refine Ai (Ab (Au (AK 0 0 rfl Be rfl rfl (by rfl) rfl rfl (by decide) rfl rfl (Al (Ao (JA 1 (.inr rfl) rfl ?_))))));exact Lv rfl rfl U3 rfl 0 rfl (by rw[Oy (.inr ⟨rfl,fun j hj=>hz j hj (by omega)⟩)])
 ·rintro D k hh ms1 hk lh ⟨rfl,hL⟩;refine JA 1 (.inr rfl) rfl ?_;exact Lv rfl rfl U3 rfl 0 rfl (by rw[Oy hL])
theorem Uu(v:Value)(l:List Int)(h:Hp)(hR:RdL cI 1 h [] v l)(hn:l.length<=1000000)(ms:List Hp):FnV Tryz.prog 95 #[v] h ms (.int .i64 (A3 l)):=Gf (Xt v l h hR hn) ms
variable {p n t:Int} {i:Nat}
def Gh(p n:Int):Int:=match (range p.toNat).find? (fun k:Nat=>decide (1<=k/\n*(k:Int)%p=1)) with|some k=>(k:Int)|none=>1
theorem O9{k:Nat}(h1:1<=k)(hk:(k:Int)<p)(h:n*(k:Int)%p=1)(hno:∀j:Nat,1<=j->j<k->n*(j:Int)%p≠1):Gh p n=k:=by
 unfold Gh
 have:(range p.toNat).find? (fun k:Nat=>decide (1<=k/\n*(k:Int)%p=1))=some k:=List.find?_range_eq_some.2 ⟨decide_eq_true ⟨h1,h⟩,List.mem_range.2 (by omega),fun j hj=>by
  rw[decide_eq_false fun q=>hno j q.1 hj q.2];rfl⟩
 rw[this]
theorem O8(hno:∀j:Nat,1<=j->(j:Int)<p->n*(j:Int)%p≠1):Gh p n=1:=by
 unfold Gh
 have:(range p.toNat).find? (fun k:Nat=>decide (1<=k/\n*(k:Int)%p=1))=none:=List.find?_eq_none.2 fun j hj=>by have:=List.mem_range.1 hj;rw[decide_eq_false fun q=>hno j q.1 (by omega) q.2];decide
 rw[this]
theorem Ue(hp:2<=p)(n:Int):1<=Gh p n/\Gh p n<p:=by
 unfold Gh;split
 ·rename_i k h;obtain⟨h1,h2,_⟩:=List.find?_range_eq_some.1 h;have:=of_decide_eq_true h1;have:=List.mem_range.1 h2;omega
 ·omega
theorem R3(h:IsP p)(h0:0<n)(hn:n<p):n*Gh p n%p=1:=by
 have h2:=h.1
 obtain⟨w,hw⟩:=h.fld.inv n fun⟨c,e⟩=>by have h1:c<1:=Int.lt_of_mul_lt_mul_left (show p*c<p*1 by omega) (by omega);have h3:0<c:=Int.lt_of_mul_lt_mul_left (show p*0<p*c by omega) (by omega);omega
 have hw:w*n%p=1:=by rw[Int.mul_comm];have h3:=Int.emod_eq_emod_iff_emod_sub_eq_zero.2 (Int.emod_eq_zero_of_dvd hw);rw[h3,Int.emod_eq_of_lt (by omega) (by omega)]
 have h5:=Int.emod_nonneg w (show p≠0 by omega);have h6:=Int.emod_lt_of_pos w (show 0<p by omega)
 have h4:n*(((w%p).toNat:Nat):Int)%p=1:=by rw[Int.toNat_of_nonneg h5,Int.mul_emod,Int.emod_emod_of_dvd w (Int.dvd_refl p),<-Int.mul_emod,Int.mul_comm];exact hw
 have h7:1<=(w%p).toNat:=by refine Nat.one_le_iff_ne_zero.2 fun e=>?_;rw[e]at h4;simp at h4
 unfold Gh;split
 ·rename_i k h;exact(of_decide_eq_true (List.find?_range_eq_some.1 h).1).2
 ·rename_i h;have:=List.find?_eq_none.1 h (w%p).toNat (List.mem_range.2 (by omega));exact absurd (decide_eq_true ⟨h7,h4⟩) this
def Ft(p:Int)(a b:List Int)(t:Int):List Int:=List.zipWith (fun x y=>(x+t*y)%p) a b
theorem ET{a b:List Int}(h:a.length=b.length):(Ft p a b t).length=a.length:=by unfold Ft;rw[List.length_zipWith];omega
theorem NY{a b:List Int}(h:i<(Ft p a b t).length)(ha:i<a.length)(hb:i<b.length):(Ft p a b t)[i]=(a[i]+t*b[i])%p:=by simp[Ft]
theorem Ud{α:Type}(A B:List α)(hl:A.length=B.length)(hi:i<A.length):(A.take i++B.drop i).set i A[i]=A.take (i+1)++B.drop (i+1):=by
 have hlt:(A.take i).length=i:=by rw[length_take];omega
 rw[List.set_append,if_neg (by omega),hlt,Nat.sub_self,List.drop_eq_getElem_cons (show i<B.length by omega),List.set_cons_zero,List.take_succ_eq_append_getElem hi,List.append_assoc];rfl
theorem Uk{α:Type}(A B:List α)(hl:A.length=B.length)(hi:i<A.length):(A.take i++B.drop i)[i]'(by rw[length_append,length_take,List.length_drop];omega)=B[i]:=by
 have hlt:(A.take i).length=i:=by rw[length_take];omega
 rw[List.getElem_append_right (by omega)];simp[hlt]
def Kg(p:Int)(l:List Int):Prop:=∀x∈l,0<=x/\x<p
theorem NK(hp:0<p)(a b:List Int):Kg p (Ft p a b t):=fun x hx=>by unfold Ft at hx;obtain⟨i,hi,rfl⟩:=List.getElem_of_mem hx;rw[List.getElem_zipWith];exact⟨Int.emod_nonneg _ (by omega),Int.emod_lt_of_pos _ hp⟩
theorem Wd(p n:Int)(g:Nat)(h:Hp)(hG:∀ms,Cell h ms (⟨g,0,none⟩:Addr) (.int .i64 p))(hp:2<=p/\p<=997)(hn:0<=n/\n<p):FnT Tryz.prog 177 #[.pointer (some ⟨g,0,none⟩),.int .i64 n] h [] (fun r _ _=>r=.int .i64 (Gh p n)):=by
 refine Ap func177 ntmps177 rfl rfl (fun w0 hw0=>?_);simp only[AU];refine Au (Qm rfl (Al (Ac (Au (Qm rfl (Al (Af ?_)))))))
 refine Ax (fun q sl h' ms'=>∃(k:Nat),q=p.toNat-k/\sl=[(0,.pointer (some ⟨g,0,none⟩)),(1,.int .i64 n),(5,.int .i64 k)]/\h=h'/\ms'=[]/\1<=k/\(k:Int)<=p/\∀j:Nat,1<=j->j<k->n*(j:Int)%p≠1)
  (p.toNat-1) _ ⟨1,rfl,rfl,rfl,rfl,by omega,by omega,fun j h1 h2=>by omega⟩ Qs ?_
 rintro q sl h' ms' ⟨k,rfl,rfl,rfl,rfl,h1,hk,hno⟩;have hnk:0<=n*(k:Int)/\n*(k:Int)<=997*997:=⟨Int.mul_nonneg hn.1 (by omega),Int.mul_le_mul (by omega) (by omega) (by omega) (by omega)⟩
 refine Ac (Au (Qm rfl (Qm rfl (Qm rfl (Qf It rfl (Ql rfl U3 (hG _) (Qm rfl (Al ?_))))))));refine Av rfl (fun hlt=>?_) (fun hlt=>?_)
 ·refine Ag (Ab (Ac (Af (Au (Qm rfl (Qm rfl (Qx (oM rfl) rfl (Qm rfl (Qm rfl (Qf It rfl (Ql rfl U3 (hG _) (Qx (BM rfl rfl rfl (by omega) (by omega)) rfl (Qm rfl (Al ?_))))))))))))));refine Av rfl (fun he=>?_) (fun he=>?_)
  ·refine Ac (Ad (Qm rfl (Qm rfl (Al (Ao (Am (Ah (Ah (Am (Ah ?_))))))))));exact Az rfl rfl (by rw[O9 h1 hlt he hno])
  ·refine Ag (Ai (Ab (Ad (Qm rfl (Qx (oA rfl) rfl (Qm rfl (Aj ?_)))))));refine Ak (p.toNat-(k+1)) _ (by omega) ⟨k+1,rfl,rfl,rfl,rfl,by omega,by omega,fun j h3 h4=>?_⟩ Qs;rcases (by omega:j<k\/j=k) with h5|rfl
   ·exact hno j h3 h5
   ·exact he
 ·have hkp:(k:Int)=p:=by omega
  refine As (Aa (Aa (Ae (Ab (Au (Qm rfl (Al (Ao ?_))))))));exact Az rfl rfl (by rw[O8 fun j h3 h4=>hno j h3 (by omega)])
theorem YF(p n:Int)(g:Nat)(h:Hp)(hG:∀ms,Cell h ms (⟨g,0,none⟩:Addr) (.int .i64 p))(hp:2<=p/\p<=997)(hn:0<=n/\n<p)(ms:List Hp):FnV Tryz.prog 177 #[.pointer (some ⟨g,0,none⟩),.int .i64 n] h ms (.int .i64 (Gh p n)):=Gf (Wd p n g h hG hp hn) ms
theorem VQ(p t:Int)(g:Nat)(a b:List Int)(va vb:Value)(m h:Hp)(hG:∀ms,Cell h ms (⟨g,0,none⟩:Addr) (.int .i64 p))(hp:2<=p/\p<=997)(ht:0<=t/\t<p)(hA:OwnL cI 1 3 m va a)(hB:RdL cI 1 h [] vb b)(hl:a.length=b.length)(hn:a.length<=1000000)(ra:Kg p a)(rb:Kg p b) :
  FnT Tryz.prog 178 #[.pointer (some ⟨g,0,none⟩),va,vb,.int .i64 t] h [m] (fun _ h' ms'=>h=h'/\∃m',ms'=[m']/\OwnL cI 1 3 m' va (Ft p a b t)):=by
 have oa:=hA.o1;have ob:=hB.rd.one;obtain⟨C,hC⟩:∃C,Ft p a b t=C:=⟨_,rfl⟩
 have hCl:C.length=a.length:=by rw[<-hC];exact ET hl
 refine Ap func178 ntmps178 rfl rfl (fun w0 hw0=>?_);simp only[AU];refine Au (Qm rfl (Qx (Ar hB.rd.any rfl AR rfl) rfl (Qm rfl (Al (Af ?_)))))
 refine Ax (fun q sl h' ms'=>∃(i:Nat) (m:Hp),q=b.length-i/\sl=[(0,.pointer (some ⟨g,0,none⟩)),(1,va),(3,.int .i64 t),(10,vb),(11,.int .i64 b.length),(12,.int .i64 i)]/\h=h'/\ms'=[m]/\i<=b.length/\OwnL cI 1 3 m va (C.take i++a.drop i))
  (b.length-0) _ ⟨0,m,rfl,rfl,rfl,rfl,by omega,by simpa using hA⟩ Qs ?_
 rintro q sl h' ms' ⟨i,m,rfl,rfl,rfl,rfl,hi,hO⟩;refine Au (Qm rfl (Al (Ac ?_)));refine Av rfl (fun hlt=>?_) (fun hlt=>?_)
 ·have hib:i<b.length:=by omega
  have hia:i<a.length:=by omega
  have hiC:i<C.length:=by omega
  have hlen:(C.take i++a.drop i).length=a.length:=by rw[length_append,length_take,List.length_drop];omega
  have hiO:i<(C.take i++a.drop i).length:=by omega
  have r1:=ra _ (getElem_mem hia);have r2:=rb _ (getElem_mem hib);have hCi:C[i]=(a[i]+t*b[i])%p:=by subst hC;exact NY _ hia hib
  have hset:=Ud C a hCl hiC;rw[hCi]at hset
  have ca:∀ms,m∈ms->Cell h ms ((AF va).add (i*1)) (.int .i64 a[i]):=fun ms hm=>by
   have:=(hO.rd (h:=h) (ms:=ms) hm).cell0 hiO rfl
   rwa [Uk C a hCl hiC]at this
  have cb:∀ms,Cell h ms ((AF vb).add (i*1)) (.int .i64 b[i]):=fun ms=>(hB.any (ms:=ms)).cell0 hib rfl;obtain⟨x,hx⟩:∃x,a[i]=x:=⟨_,rfl⟩
  obtain⟨y,hy⟩:∃y,b[i]=y:=⟨_,rfl⟩
  rw[hx]at r1 ca hset;rw[hy]at r2 cb hset;have hty:0<=t*y/\t*y<=997*997:=⟨Int.mul_nonneg ht.1 r2.1,Int.mul_le_mul (by omega) (by omega) (by omega) (by omega)⟩
  refine Ag (Ab (Ac (Af (Au (Qm rfl (Qx (BU (i) hB.rd.any rfl AR Be rfl rfl) rfl (Ql rfl U3 (cb _) (Qm rfl (Qm rfl (Al (DL 14 [true,true] CY (by kernel_rfl) (by kernel_rfl) (by kernel_rfl) (DX rfl rfl rfl rfl (Cf rfl rfl) (DX rfl rfl rfl rfl (Cf rfl rfl) ?_)))))))))))));refine⟨rfl,?_⟩;simp only[Em,zap,cons_append,nil_append,List.take_succ_cons,List.take_zero,List.drop_succ_cons,List.drop_zero,List.take_nil,List.drop_nil];refine DW rfl rfl rfl (DW rfl rfl rfl (Wm rfl (Wm rfl (AP (AB (i) (hO.rd (h:=h) (ms:=[m]) Mh).rd rfl AR Be rfl rfl (by omega) (by omega)) rfl rfl (Wl rfl U3 (ca _ Mh) (Wm rfl (Wm rfl (AP (oM rfl) rfl rfl (AP (oA rfl) rfl rfl (Wm rfl (Wm rfl (Wf It rfl (Wl rfl U3 (hG _) (Bc (Qx (BM rfl rfl rfl (by omega) (by omega)) rfl (Qx (AB (i) (hO.rd (h:=h) (ms:=[m]) Mh).rd rfl AR Be rfl rfl (by omega) (by omega)) rfl (EO 0 i hO rfl Be rfl rfl rfl hiO rfl rfl (fun m' hO'=>?_))))))))))))))))));rw[hset]at hO';refine Aj (Iq (Ai (Ab (Ad (Qx (oA rfl) rfl (Qm rfl (Aj ?_)))))));exact Ak (b.length-(i+1)) _ (by omega) ⟨i+1,m',rfl,rfl,rfl,rfl,by omega,hO'⟩ Qs
 ·obtain rfl:i=b.length:=by omega
  rw[List.drop_eq_nil_of_le (by omega),append_nil,<-hl,<-hCl,take_length]at hO;rw[hC];refine As (Aa (Aa (Ae ?_)));exact BO rfl (⟨rfl,m,rfl,hO⟩)
end Go.Proofs.Q
namespace Go.Proofs.Q
open Go.Proofs.Tryz
open Go.Eng Go.RowKit Go.Lin
variable {p:Int}
def cU(v:Value):List Value:=[v]
theorem Mn:∀v,(cU v).length=1:=fun _=>rfl
def ES(p:Int)(vc:Value)(gA:Nat)(vr vv:Value)(la:List Int):List Value:=.int .i64 p::vc::.map (some gA)::vr::vv::la.map fun n=>.int .i64 n
inductive Ops (p:Int) (n j:Nat) (R V:Nat->List Int) (r v:List Int):List Int->List Int->Prop
 | refl:Ops p n j R V r v r v
 | step {r1 v1:List Int} {k i:Nat} {t:Int}:Ops p n j R V r v r1 v1->k<j->i<n->0<=t->t<p->r1.getD i 0≠0->(R k).getD i 0≠0->Ops p n j R V r v (Ft p r1 (R k) t) (Ft p v1 (V k) t)
structure Red(p:Int)(n j:Nat)(R V:Nat->List Int)(la:List Int):Prop where
 rl:∀k,k<j->(R k).length=n
 vl:∀k,k<j->(V k).length=n
 rr:∀k,k<j->Kg p (R k)
 vr:∀k,k<j->Kg p (V k)
 ll:la.length=400
 a0:∀i,i<400->la.getD i 0=0\/∃k,k<j/\la.getD i 0=(k:Int)+1/\A3 (R k)=i
 a1:∀k,k<j->0<=A3 (R k)->la.getD (A3 (R k)).toNat 0=(k:Int)+1
def LaS(j:Nat)(r':List Int)(la la':List Int):Prop:=(A3 r'<0/\la'=la)\/(0<=A3 r'/\la.getD (A3 r').toNat 0=0/\la'=la.set (A3 r').toNat ((j:Int)+1))
theorem Er{l:List Int}{i:Nat}(h:A3 l=i):i<l.length/\l.getD i 0≠0/\∀j,i<j->l.getD j 0=0:=by
 rcases HU l with ⟨k,hk,e,h1,h2⟩|⟨e,_⟩
 ·obtain rfl:i=k:=by omega
  refine⟨hk,by simpa[List.getD,hk] using h1,fun j hj=>?_⟩;by_cases hjl:j<l.length
  ·simpa[List.getD,hjl] using h2 j hjl hj
  ·simp[List.getD,List.getElem?_eq_none (show l.length<=j by omega)]
 ·omega
theorem FE(hp:0<p){l:List Int}(h:Kg p l)(i:Nat):0<=l.getD i 0/\l.getD i 0<p:=by
 by_cases hi:i<l.length
 ·have:=h _ (getElem_mem hi);simpa[List.getD,hi] using this
 ·simp[List.getD,List.getElem?_eq_none (show l.length<=i by omega),hp]
theorem Ef{t:Int}{a b:List Int}(hl:a.length=b.length)(i:Nat):(Ft p a b t).getD i 0=(a.getD i 0+t*b.getD i 0)%p:=by
 by_cases hi:i<a.length
 ·have h2:i<b.length:=by omega
  have h3:i<(Ft p a b t).length:=by rw[ET hl];exact hi
  have:=NY h3 hi h2;simp only[List.getD,List.getElem?_eq_getElem h3,List.getElem?_eq_getElem hi,List.getElem?_eq_getElem h2,Option.getD_some,this]
 ·have h3:¬i<(Ft p a b t).length:=by rw[ET hl];exact hi
  simp[List.getD,List.getElem?_eq_none (show a.length<=i by omega),List.getElem?_eq_none (show b.length<=i by omega),List.getElem?_eq_none (show(Ft p a b t).length<=i by omega)]
theorem AaJ{x b w:Int}(h:b*w%p=1)(hp:0<p):(x+((p-x)*w%p)*b)%p=0:=by
 have h1:=Int.emod_add_mul_ediv (b*w) p;have h2:=Int.emod_add_mul_ediv ((p-x)*w) p;rw[h]at h1;refine Int.emod_eq_zero_of_dvd ⟨1+(p-x)*(b*w/p)-((p-x)*w/p)*b,?_⟩;generalize b*w/p=q1 at h1 ⊢;generalize (p-x)*w/p=q2 at h2 ⊢;have e:(p-x)*w%p=(p-x)*w-p*q2:=by omega
 rw[e];have e2:b*w=1+p*q1:=h1.symm
 have e3:((p-x)*w-p*q2)*b=(p-x)*(b*w)-p*(q2*b):=by rw[Int.sub_mul,Int.mul_assoc,Int.mul_comm w b,Int.mul_assoc]
 rw[e3,e2,Int.mul_sub,Int.mul_add,Int.mul_one,Int.mul_add,Int.mul_one];have e4:p*((p-x)*q1)=(p-x)*(p*q1):=by rw[<-Int.mul_assoc,<-Int.mul_assoc,Int.mul_comm p]
 rw[e4];omega
theorem RT{t:Int}{a b:List Int}{i:Nat}(hl:a.length=b.length)(ha:A3 a=i)(hb:A3 b=i)(h:(a.getD i 0+t*b.getD i 0)%p=0):A3 (Ft p a b t)<i:=by
 obtain⟨h1,h2,h3⟩:=Er ha;obtain⟨h4,h5,h6⟩:=Er hb
 have hz:∀j,i<=j->(Ft p a b t).getD j 0=0:=fun j hj=>by
  rw[Ef hl];rcases (by omega:j=i\/i<j) with rfl|h7
  ·exact h
  ·rw[h3 j h7,h6 j h7];simp
 refine Int.not_le.1 fun hle=>?_;obtain⟨k,hk⟩:=Int.eq_ofNat_of_zero_le (show 0<=A3 (Ft p a b t) by omega);obtain⟨_,h8,_⟩:=Er hk;exact h8 (hz k (by omega))
theorem KG(p:Int)(vc:Value)(gA:Nat)(vr vv:Value)(la:List Int):(ES p vc gA vr vv la).length=5+la.length:=by unfold ES;simp;omega
theorem Vh(p:Int)(vc:Value)(gA:Nat)(vr vv:Value)(la:List Int)(i:Nat)(x:Int):(ES p vc gA vr vv la).set (5+i) (.int .i64 x)=ES p vc gA vr vv (la.set i x):=by unfold ES;rw[show 5+i=i+1+1+1+1+1 by omega];simp only[List.set_cons_succ,List.map_set]
theorem Se(la:List Int)(i:Nat)(hi:i<la.length):(la.map fun n=>Value.int .i64 n)[i]?=some (.int .i64 (la.getD i 0)):=by simp[List.getD,hi]
theorem RA(p:Int)(n j:Nat)(g gA:Nat)(vc vr vv:Value)(Rs Vs:List Value)(R V:Nat->List Int)(la r v:List Int)(mr mv h:Hp)(hp:IsP p)(hn:n<=400)(hj:j<n)
  (hRs:RdL cU 1 h [] vr Rs) (hVs:RdL cU 1 h [] vv Vs) (lR:Rs.length=n) (lV:Vs.length=n) (hR:∀k,k<j->RdL cI 1 h [] (Rs.getD k undef) (R k)) (hV:∀k,k<j->RdL cI 1 h [] (Vs.getD k undef) (V k)) (D:Red p n j R V la) (oc:vc.oneCell'=true)
  (Or:OwnL cI 1 3 mr (Rs.getD j undef) r) (Ov:OwnL cI 1 3 mv (Vs.getD j undef) v) (lr:r.length=n) (lv:v.length=n) (rr:Kg p r) (rv:Kg p v) :
  FnT Tryz.prog 121 #[.pointer (some ⟨g,0,none⟩),.int .i64 j] h [Bi g 130 (ES p vc gA vr vv la),mr,mv] (fun _ h' ms'=>h.le h'/\∃r' v' la' mr' mv',ms'=[Bi g 130 (ES p vc gA vr vv la'),mr',mv']/\OwnL cI 1 3 mr' (Rs.getD j undef) r'/\OwnL cI 1 3 mv' (Vs.getD j undef) v'/\Ops p n j R V r v r' v'/\r'.length=n/\v'.length=n/\Kg p r'/\Kg p v'/\LaS j r' la la'):=by
 have hp1:=hp.1;have hp9:=hp.2.1;refine Ap func121 ntmps121 rfl rfl (fun w0 hw0=>?_);simp only[AU];refine F2 fun h1 l1 lG dG LG=>?_;have hRs:=hRs.up l1;have hVs:=hVs.up l1;have hR:=fun k hk=>(hR k hk).up l1;have hV:=fun k hk=>(hV k hk).up l1;have hS:=Seg.ofLe lG;have oR:=hRs.rd.one;have oV:=hVs.rd.one;refine Af ?_
 refine Ax (fun q sl h' ms'=>∃(r' v':List Int) (mr mv:Hp),q=(A3 r'+1).toNat/\sl=[(0,.pointer (some ⟨g,0,none⟩)),(1,.int .i64 j)]/\h1.le h'/\ms'=[mr,mv]/\OwnL cI 1 3 mr (Rs.getD j undef) r'/\OwnL cI 1 3 mv (Vs.getD j undef) v'/\Ops p n j R V r v r' v'/\r'.length=n/\v'.length=n/\Kg p r'/\Kg p v')
  _ _ ⟨r,v,mr,mv,rfl,rfl,DU,rfl,Or,Ov,.refl,lr,lv,rr,rv⟩ Qs ?_
 rintro q sl h2 ms' ⟨r1,v1,mr,mv,rfl,rfl,l2,rfl,Or,Ov,hO,lr,lv,rr,rv⟩;have hRs:=hRs.up l2;have hVs:=hVs.up l2;have hR:=fun k hk=>(hR k hk).up l2;have hV:=fun k hk=>(hV k hk).up l2;have hS:=hS.le l2;refine F2 fun h3 l3 lM dM LM=>?_;have Rr:RdL cI 1 h3 [] (Rs.getD j undef) r1:=Or.rdh (h:=h3) (ms:=[]) lM;have hRs3:=hRs.up l3;have hVs3:=hVs.up l3;have hS3:=hS.le l3;have hjR:j<Rs.length:=by omega
 have hjV:j<Vs.length:=by omega
 have eR:Rs.getD j undef=Rs[j]:=by simp[List.getD,hjR]
 have eV:Vs.getD j undef=Vs[j]:=by simp[List.getD,hjV]
 have a0:∀ms,Cell h3 ms (⟨g,0,none⟩:Addr) (.int .i64 p):=fun ms=>Seg.all hS3 0 _ rfl ms;have a3:∀ms,Cell h3 ms (⟨g,3,none⟩:Addr) vr:=fun ms=>Seg.all hS3 3 _ rfl ms;have a4:∀ms,Cell h3 ms (⟨g,4,none⟩:Addr) vv:=fun ms=>Seg.all hS3 4 _ rfl ms;have cR:∀ms,Cell h3 ms ((AF vr).add (j*1)) (Rs.getD j undef):=fun ms=>by rw[eR];exact(hRs3.any (ms:=ms)).cell0 hjR rfl
 have orj:=Rr.rd.one;refine Af (Au (Qm rfl (Qm rfl (Qf E8 rfl (Ql rfl B7 (a3 _) (Qm rfl (Qx (BU (j) hRs3.rd.any rfl B7 Cb rfl rfl) rfl (Ql rfl AR (cR _) (Qx (AO rfl call95 rfl (Uu (Rs.getD j undef) r1 h3 Rr (by omega) _)) rfl (Qm rfl (Al (Ac (Au (Qm rfl (Qm rfl (Al ?_))))))))))))))));refine Av rfl (fun hneg=>?_) (fun hneg=>?_)
 ·refine Ao (Ah (Am (Ah (Am (QD LM lM fun h4 l4 b4=>(QD LG (b4 _ (AI lG (AI l2 l3)) (Fe (AI lG l2) dM)) fun h5 l5 b5=>?_))))));have l05:h.le h5:=b5 _ (b4 _ (AI l1 (AI l2 l3)) (Fe (AI l1 l2) dM)) dG;exact Fg rfl (⟨l05,r1,v1,la,mr,mv,rfl,Or,Ov,hO,lr,lv,rr,rv,.inl ⟨hneg,rfl⟩⟩)
 ·obtain⟨i,hi⟩:=Int.eq_ofNat_of_zero_le (show 0<=A3 r1 by omega);obtain⟨hi1,hi2,hi3⟩:=Er hi;have hin:i<400:=by omega
  have hla:=D.ll
  have cL:∀ms,Cell h3 ms ((⟨g,5,none⟩:Addr).add (i*1)) (.int .i64 (la.getD i 0)):=fun ms=>by
   have:(ES p vc gA vr vv la)[5+i]?=some (.int .i64 (la.getD i 0)):=by unfold ES;rw[show 5+i=i+1+1+1+1+1 by omega];simp only[List.getElem?_cons_succ];exact Se la i (by omega)
   have:=Seg.all hS3 (5+i) _ this ms;show Cell h3 ms (((⟨g,0,none⟩:Addr).add 5).add (i*1)) _;rw[BD,Nat.mul_one];exact this
  rw[hi];have hl0:=D.a0 i hin;obtain⟨li,hli⟩:∃li,la.getD i 0=li:=⟨_,rfl⟩
  rw[hli]at cL hl0
  have hlb:0<=li/\li<=400:=by rcases hl0 with h|⟨k,hk,h,_⟩<;>omega
  refine Ag (Ab (Au (Qm rfl (Qm rfl (Qm rfl (Qf Rj rfl (Qx (FF (i) rfl Aau Be rfl rfl (by omega) (by omega)) rfl (Ql rfl U3 (cL _) (Qx (oS rfl) rfl (Qm rfl (Al (Ac (Au (Qm rfl (Qm rfl (Al ?_))))))))))))))));refine Av rfl (fun hk0=>?_) (fun hk0=>?_)
  ·have hl00:li=0:=by rcases hl0 with h|⟨k,hk,h,_⟩<;>omega
   refine Fj LM lM fun h4 l4 b4=>?_;have lG4:=b4 _ (AI lG (AI l2 l3)) (Fe (AI lG l2) dM);refine Fj LG lG4 fun h5 l5 b5=>?_;have l05:h.le h5:=b5 _ (b4 _ (AI l1 (AI l2 l3)) (Fe (AI l1 l2) dM)) dG;refine Au (Qm rfl (Qm rfl (Qm rfl (Qx (oA rfl) rfl (Qm rfl (Qf Rj rfl (Qx (FF (i) rfl Aau Be rfl rfl (by omega) (by omega)) rfl ?_)))))));refine AK 0 (5+i) rfl Be rfl rfl rfl rfl (by rw[Nat.mul_one];exact BD (⟨g,0,none⟩:Addr) 5 i) (by rw[KG];omega) rfl rfl ?_;rw[Vh];refine Al (Ao (Ah (Am (Ah (Am ?_)))));exact Fg rfl (⟨l05,r1,v1,la.set i ((j:Int)+1),mr,mv,rfl,Or,Ov,hO,lr,lv,rr,rv,.inr ⟨by omega,by rw[hi,Int.toNat_natCast,hli,hl00],by rw[hi,Int.toNat_natCast]⟩⟩)
  ·obtain⟨k,hkj,rfl,hlk⟩:∃k,k<j/\li=(k:Int)+1/\A3 (R k)=i:=by
    rcases hl0 with h|h
    ·omega
    ·exact h
   have hkR:k<Rs.length:=by omega
   have hkV:k<Vs.length:=by omega
   have eRk:Rs.getD k undef=Rs[k]:=by simp[List.getD,hkR]
   have eVk:Vs.getD k undef=Vs[k]:=by simp[List.getD,hkV]
   have hRk:=(hR k hkj).up l3;have hVk:=(hV k hkj).up l3;have lRk:=D.rl k hkj;have lVk:=D.vl k hkj;obtain⟨hk1,hk2,_⟩:=Er hlk;have cRk:∀ms,Cell h3 ms ((AF vr).add (k*1)) (Rs.getD k undef):=fun ms=>by rw[eRk];exact(hRs3.any (ms:=ms)).cell0 hkR rfl
   have cx:∀ms,Cell h3 ms ((AF (Rs.getD j undef)).add (i*1)) (.int .i64 (r1.getD i 0)):=fun ms=>by rw[show r1.getD i 0=r1[i] by simp[List.getD,hi1]];exact(Rr.any (ms:=ms)).cell0 hi1 rfl
   have cb:∀ms,Cell h3 ms ((AF (Rs.getD k undef)).add (i*1)) (.int .i64 ((R k).getD i 0)):=fun ms=>by rw[show(R k).getD i 0=(R k)[i] by simp[List.getD,hk1]];exact(hRk.any (ms:=ms)).cell0 hk1 rfl
   have bx:=FE (by omega) rr i;have bb:=FE (by omega) (D.rr k hkj) i;obtain⟨x,hx⟩:∃x,r1.getD i 0=x:=⟨_,rfl⟩
   obtain⟨b,hb⟩:∃b,(R k).getD i 0=b:=⟨_,rfl⟩
   rw[hx]at cx bx hi2;rw[hb]at cb bb hk2;have hinv:=R3 hp (show 0<b by omega) bb.2;have hwb:=Ue hp1 b;obtain⟨w,hw⟩:∃w,Gh p b=w:=⟨_,rfl⟩
   rw[hw]at hinv hwb;have hpw:0<=(p-x)*w/\(p-x)*w<=997*997:=⟨Int.mul_nonneg (by omega) (by omega),Int.mul_le_mul (by omega) (by omega) (by omega) (by omega)⟩
   have hkill:=AaJ (x:=x) hinv (show 0<p by omega);have hov:=YF p b g h3 a0 ⟨hp1,hp9⟩ ⟨bb.1,bb.2⟩;rw[hw]at hov;have ht0:=Int.emod_nonneg ((p-x)*w) (show p≠0 by omega);have ht1:=Int.emod_lt_of_pos ((p-x)*w) (show 0<p by omega);have ork:=hRk.rd.one;have ovj:(Vs.getD j undef).oneCell'=true:=Ov.o1;have ovk:=hVk.rd.one;refine Ag (Ab (Ac (Bg 32 CY (by kernel_rfl) rfl (Wm rfl (Wm rfl (Wf It rfl (Wl rfl U3 (a0 _) (Wm rfl (Wm rfl (Wf E8 rfl (Wl rfl B7 (a3 _) (Wm rfl (AP (BU (j) hRs3.rd.any rfl B7 Cb rfl rfl) rfl rfl (Wl rfl AR (cR _) (Wm rfl (AP (BU (i) Rr.rd.any rfl AR Be rfl rfl) rfl rfl (Wl rfl U3 (cx _) (AP (oS rfl) rfl rfl (Wm rfl (Wm rfl (Wm rfl (Wf E8 rfl (Wl rfl B7 (a3 _) (Wm rfl (AP (BU (k) hRs3.rd.any rfl B7 Cb rfl rfl) rfl rfl (Wl rfl AR (cRk _) (Wm rfl (AP (BU (i) hRk.rd.any rfl AR Be rfl rfl) rfl rfl (Wl rfl U3 (cb _) (AP (AO rfl call177 rfl (hov _)) rfl rfl (AP (oM rfl) rfl rfl (Wm rfl (Wm rfl (Wf It rfl (Wl rfl U3 (a0 _) (Bc (Qx (BM rfl rfl rfl (by omega) (by omega)) rfl (Qm rfl (Al ?_)))))))))))))))))))))))))))))))))))))));obtain⟨t,ht⟩:∃t,(p-x)*w%p=t:=⟨_,rfl⟩
   rw[ht]at hkill ht0 ht1 ⊢;refine Fj LM lM fun h4 l4 b4=>?_;have l24:=b4 _ l3 dM;have hRs:=hRs.up l24;have hVs:=hVs.up l24;have hRk:=(hR k hkj).up l24;have hVk:=(hV k hkj).up l24;have hS:=hS.le l24;have a0:∀ms,Cell h4 ms (⟨g,0,none⟩:Addr) (.int .i64 p):=fun ms=>Seg.all hS 0 _ rfl ms;have a3:∀ms,Cell h4 ms (⟨g,3,none⟩:Addr) vr:=fun ms=>Seg.all hS 3 _ rfl ms;have a4:∀ms,Cell h4 ms (⟨g,4,none⟩:Addr) vv:=fun ms=>Seg.all hS 4 _ rfl ms;have cR:∀ms,Cell h4 ms ((AF vr).add (j*1)) (Rs.getD j undef):=fun ms=>by rw[eR];exact(hRs.any (ms:=ms)).cell0 hjR rfl
   have cRk:∀ms,Cell h4 ms ((AF vr).add (k*1)) (Rs.getD k undef):=fun ms=>by rw[eRk];exact(hRs.any (ms:=ms)).cell0 hkR rfl
   have cV:∀ms,Cell h4 ms ((AF vv).add (j*1)) (Vs.getD j undef):=fun ms=>by rw[eV];exact(hVs.any (ms:=ms)).cell0 hjV rfl
   have cVk:∀ms,Cell h4 ms ((AF vv).add (k*1)) (Vs.getD k undef):=fun ms=>by rw[eVk];exact(hVs.any (ms:=ms)).cell0 hkV rfl
   refine Ac (Bg 16 CY (by kernel_rfl) rfl (Wm rfl (Wm rfl (Wm rfl (Wf E8 rfl (Wl rfl B7 (a3 _) (Wm rfl (AP (BU (j) hRs.rd.any rfl B7 Cb rfl rfl) rfl rfl (Wl rfl AR (cR _) (Wm rfl (Wm rfl (Wf E8 rfl (Wl rfl B7 (a3 _) (Wm rfl (AP (BU (k) hRs.rd.any rfl B7 Cb rfl rfl) rfl rfl (Wl rfl AR (cRk _) (Wm rfl (Bc (AY (pre:=[mr]) rfl call178 rfl (VQ p t g r1 (R k) _ _ mr h4 a0 ⟨hp1,hp9⟩ ⟨ht0,ht1⟩ Or hRk (by omega) (by omega) rr (D.rr k hkj)) rfl rfl rfl rfl (fun _ h5 ms5 l5 hF=>?_))))))))))))))))))));obtain⟨rfl,mr',rfl,Or'⟩:=hF;refine Al (Bg 16 CY (by kernel_rfl) rfl (Wm rfl (Wm rfl (Wm rfl (Wf JI rfl (Wl rfl B7 (a4 _) (Wm rfl (AP (BU (j) hVs.rd.any rfl B7 Cb rfl rfl) rfl rfl (Wl rfl AR (cV _) (Wm rfl (Wm rfl (Wf JI rfl (Wl rfl B7 (a4 _) (Wm rfl (AP (BU (k) hVs.rd.any rfl B7 Cb rfl rfl) rfl rfl (Wl rfl AR (cVk _) (Wm rfl (Bc (MK 1 rfl (AY (pre:=[mv]) rfl call178 rfl (VQ p t g v1 (V k) _ _ mv h4 a0 ⟨hp1,hp9⟩ ⟨ht0,ht1⟩ Ov hVk (by omega) (by omega) rv (D.vr k hkj)) rfl rfl rfl rfl (fun _ h6 ms6 l6 hF=>?_)))))))))))))))))))));obtain⟨rfl,mv',rfl,Ov'⟩:=hF;have hll:r1.length=(R k).length:=by omega
   have hlv:v1.length=(V k).length:=by omega
   have hless:=RT (p:=p) (t:=t) hll hi hlk (by rw[hx,hb];exact hkill);have hO':=hO.step (t:=t) hkj (show i<n by omega) ht0 ht1 (by rw[hx];exact hi2) (by rw[hb];exact hk2);have hpp:0<p:=by omega
   refine Aj (Ai (Ck 1 rfl ?_));exact Ak (A3 (Ft p r1 (R k) t)+1).toNat _ (by omega) ⟨_,_,mr',mv',rfl,rfl,AI l2 l24,rfl,Or',Ov',hO',by rw[ET hll];exact lr,by rw[ET hlv];exact lv,NK hpp _ _,NK hpp _ _⟩ Qs
end Go.Proofs.Q
namespace Go.Proofs
open Go.Proofs.Tryz
open Go.Shelf
def Tryz.laysSlF06_ren:Go.Shelf.Ren:=⟨fun|6=>147|15=>201|14=>200|28=>248|29=>249|20=>240|21=>241|22=>242|23=>243|24=>244|25=>245|26=>246|27=>247|46=>280|47=>281|48=>282|49=>283|50=>284|57=>300|n=>n,fun|22=>27|24=>52|25=>192|3=>3|39=>223|0=>0|53=>282|55=>222|4=>4|46=>276|45=>275|50=>124|5=>5|9=>9|66=>309|70=>313|76=>332|77=>333|n=>n,fun|n=>n⟩
theorem Tryz.laysSlF06:Go.Proofs.SlLaysF0.n6 prog Tryz.laysSlF06_ren:={
  mixed:=by kernel_rfl
  f6:=⟨f147.name,by decide,func147.trans (congrArg some (by kernel_rfl))⟩
  f14:=⟨f200.name,by decide,func200.trans (congrArg some (by kernel_rfl))⟩
  f15:=func201.trans (congrArg some (by kernel_rfl))
  f20:=⟨f240.name,by decide,func240.trans (congrArg some (by kernel_rfl))⟩
  f21:=⟨f241.name,by decide,func241.trans (congrArg some (by kernel_rfl))⟩
  f22:=⟨f242.name,by decide,func242.trans (congrArg some (by kernel_rfl))⟩
  f23:=⟨f243.name,by decide,func243.trans (congrArg some (by kernel_rfl))⟩
  f24:=⟨f244.name,by decide,func244.trans (congrArg some (by kernel_rfl))⟩
  f25:=⟨f245.name,by decide,func245.trans (congrArg some (by kernel_rfl))⟩
  f26:=⟨f246.name,by decide,func246.trans (congrArg some (by kernel_rfl))⟩
  f27:=⟨f247.name,by decide,func247.trans (congrArg some (by kernel_rfl))⟩
  f28:=func248.trans (congrArg some (by kernel_rfl))
  f29:=func249.trans (congrArg some (by kernel_rfl))
  f46:=⟨f280.name,by decide,func280.trans (congrArg some (by kernel_rfl))⟩
  f47:=func281.trans (congrArg some (by kernel_rfl))
  f48:=func282.trans (congrArg some (by kernel_rfl))
  f49:=⟨f283.name,by decide,func283.trans (congrArg some (by kernel_rfl))⟩
  f50:=⟨f284.name,by decide,func284.trans (congrArg some (by kernel_rfl))⟩
  f57:=⟨f300.name,by decide,func300.trans (congrArg some (by kernel_rfl))⟩
  t0:=underlying0
  a0:=isAgg0
  z0:=sizeOf0
  v0:=zeroValue0
  t3:=underlying3
  a3:=isAgg3
  z3:=sizeOf3
  v3:=zeroValue3
  t4:=underlying4
  a4:=isAgg4
  z4:=sizeOf4
  v4:=zeroValue4
  t5:=underlying5
  a5:=isAgg5
  z5:=sizeOf5
  v5:=zeroValue5
  t9:=underlying9
  a9:=isAgg9
  z9:=sizeOf9
  v9:=zeroValue9
  t22:=underlying27
  a22:=isAgg27
  z22:=sizeOf27
  v22:=zeroValue27
  t25:=underlying192
  a25:=isAgg192
  z25:=sizeOf192
  v25:=zeroValue192
  t39:=underlying223
  a39:=isAgg223
  z39:=sizeOf223
  v39:=zeroValue223
  t45:=underlying275
  a45:=isAgg275
  z45:=sizeOf275
  v45:=zeroValue275
  t46:=underlying276
  a46:=isAgg276
  z46:=sizeOf276
  v46:=zeroValue276
  t50:=underlying124
  a50:=isAgg124
  z50:=sizeOf124
  v50:=zeroValue124
  t53:=underlying282
  a53:=isAgg282
  z53:=sizeOf282
  v53:=zeroValue282
  t55:=underlying222
  a55:=isAgg222
  z55:=sizeOf222
  v55:=zeroValue222
  t66:=underlying309
  a66:=isAgg309
  z66:=sizeOf309
  v66:=zeroValue309
  t70:=underlying313
  a70:=isAgg313
  z70:=sizeOf313
  v70:=zeroValue313
  t76:=underlying332
  a76:=isAgg332
  z76:=sizeOf332
  v76:=zeroValue332
  t77:=underlying333
  a77:=isAgg333
  z77:=sizeOf333
  v77:=zeroValue333 }
end Go.Proofs

namespace Go.Proofs.Q
open Go.Proofs.Tryz
open Go.Eng Go.RowKit Go.Lin Go.Sort Go.Srt
def ZM(l:List Int)(r:Int):Prop:=(∃(i:Nat) (hi:i<l.length),r=l[i]/\l[i]≠0/\∀j (hj:j<l.length),j<i->l[j]=0)\/(r=0/\∀j (hj:j<l.length),l[j]=0)
def ZY(a b c:Int):Int:=if a≠0 then a else if b≠0 then b else c
theorem YA{a b c r:Int}(h:ZM [a,b,c] r):r=ZY a b c:=by
 unfold ZY;rcases h with ⟨i,hi,rfl,h1,h2⟩|⟨rfl,h⟩
 ·have hi:i<3:=hi;rcases (by omega:i=0\/i=1\/i=2) with rfl|rfl|rfl
  ·have h1:a≠0:=h1;show a=_;rw[if_pos h1]
  ·have h1:b≠0:=h1;have h3:a=0:=h2 0 (by simp) (by decide);show b=_;rw[if_neg (fun q=>q h3),if_pos h1]
  ·have h3:a=0:=h2 0 (by simp) (by decide);have h4:b=0:=h2 1 (by simp) (by decide);show c=_;rw[if_neg (fun q=>q h3),if_neg (fun q=>q h4)]
 ·have h3:a=0:=h 0 (by simp);have h4:b=0:=h 1 (by simp);have h5:c=0:=h 2 (by simp);rw[if_neg (fun q=>q h3),if_neg (fun q=>q h4),h5]
structure CeI where
 c:Cl
 v:Value
 one:v.oneCell'=true
 i:BC c.id
instance:Inhabited CeI:=⟨⟨default,.slice none 0 0,rfl,by decide⟩⟩
def CeI.ce(a:CeI):Ce:=⟨a.c,a.v⟩
def Ri(a:CeI):List Value:=[.int .i64 a.c.id,.int .i64 a.c.dim,a.v]
theorem Eh:∀a,(Ri a).length=3:=fun _=>rfl
theorem XQ(s:CeI):∀c∈Ri s,c.oneCell'=true:=fun c hc=>by
 simp only[Ri,mem_cons,not_mem_nil,or_false]at hc;rcases hc with rfl|rfl|rfl
 ·rfl
 ·rfl
 ·exact s.one
theorem UW(l:List CeI):(l.map CeI.ce).flatMap cC=l.flatMap Ri:=by rw[List.flatMap_map];rfl
theorem VO:∀A:List Ce,(∀a∈A,a.v.oneCell'=true/\BC a.c.id)->∃l:List CeI,l.map CeI.ce=A
 | [],_=>⟨[],rfl⟩
 | a::A,h=>by obtain⟨l,hl⟩:=VO A fun b hb=>h b (List.Mem.tail _ hb);exact⟨⟨a.c,a.v,(h a Mh).1,(h a Mh).2⟩::l,by rw[map_cons,hl];rfl⟩
theorem own_ceI{m:Hp}{v:Value}{l:List CeI}:OwnL cC 3 52 m v (l.map CeI.ce)<->OwnL Ri 3 52 m v l:=by
 constructor
 ·intro O;have h:=O.own;rw[UW,length_map]at h;exact⟨h,Eh⟩
 ·intro O;refine⟨?_,fun _=>rfl⟩;rw[UW,length_map];exact O.own
def OO(f:Int->Int)(x y:CeI):Int:=ZY (c3 (f x.c.id) (f y.c.id)) (c3 x.c.dim y.c.dim) (c3 x.c.id y.c.id)
theorem JD(f:Int->Int)(x y:CeI):OO f x y<0<->f x.c.id<f y.c.id\/(f x.c.id=f y.c.id/\(x.c.dim<y.c.dim\/(x.c.dim=y.c.dim/\x.c.id<y.c.id))):=by
 unfold OO ZY c3
 repeat' split
 all_goals omega
theorem UP(f:Int->Int):SWO (ltOf (OO f)):=by
 refine⟨fun x=>?_,fun x y z h1 h2=>?_,fun x y z h1 h2=>?_⟩
 ·unfold ltOf;rw[decide_eq_false_iff_not,JD];omega
 ·unfold ltOf at *;rw[decide_eq_true_iff,JD]at *;omega
 ·unfold ltOf at *;rw[decide_eq_false_iff_not,JD]at *;omega
theorem Z0(v:Value)(l:List Int)(h:Hp)(hR:RdL cI 1 h [] v l)(hn:l.length<=1000000):FnT Tryz.prog 149 #[v] h [] (fun r _ _=>∃x,r=.int .i64 x/\ZM l x):=by
 have o1:=hR.rd.one;refine Ap func149 ntmps149 rfl rfl (fun w0 hw0=>?_);simp only[AU];refine Au (Qm rfl (BL (Qm rfl (Al (Ac (Au (Qm rfl (Qx (Ar hR.rd.any rfl AR rfl) rfl (Qm rfl (Al (Af ?_)))))))))))
 refine Ax (fun q s h' ms'=>∃(k:Nat),q=l.length-k/\s=[(3,.int .i64 0),(6,v),(7,.int .i64 l.length),(8,.int .i64 k)]/\h=h'/\ms'=[]/\k<=l.length/\∀j (hj:j<l.length),j<k->l[j]=0)
  (l.length-0) _ ⟨0,rfl,rfl,rfl,rfl,by omega,fun j _ hj=>by omega⟩ Qs ?_
 rintro q s h' ms' ⟨k,rfl,rfl,rfl,rfl,hk,hno⟩;refine Au (Qm rfl (Al (Ac ?_)));refine Av rfl (fun hlt=>?_) (fun hlt=>?_)
 ·have hkn:k<l.length:=by omega
  have ck:∀ms,Cell h ms ((AF v).add (k*1)) (.int .i64 l[k]):=fun ms=>(hR.any (ms:=ms)).cell0 hkn rfl;refine Ag (Ab (Ac (Af (Au (Qx (BU (k) hR.rd.any rfl AR Be rfl rfl) rfl (Ql rfl U3 (ck _) (Qm rfl (BL (Qm rfl (Qm rfl (Qm rfl (Al ?_))))))))))));refine Av rfl (fun hz=>?_) (fun hz=>?_)
  ·refine Ac (Ad (Qm rfl (Qm rfl (Al (Ao (Am (Ah (Ah (Am (Ah ?_))))))))));exact Az rfl rfl (⟨_,rfl,.inl ⟨k,hkn,rfl,hz,hno⟩⟩)
  ·refine Ag (Ai (Ab (Ad (Qx (oA rfl) rfl (Qm rfl (Aj ?_))))));refine Ak (l.length-(k+1)) _ (by omega) ⟨k+1,rfl,rfl,rfl,rfl,by omega,fun j hj hjk=>?_⟩ Qs;rcases (by omega:j<k\/j=k) with h2|rfl
   ·exact hno j hj h2
   ·exact Classical.not_not.1 hz
 ·obtain rfl:k=l.length:=by omega
  refine As (Aa (Aa (Ae (Ab (Au (Qm rfl (Qm rfl (Al (Ao ?_)))))))));exact Az rfl rfl (⟨_,rfl,.inr ⟨rfl,fun j hj=>hno j hj hj⟩⟩)
theorem AaG(g:Nat)(a b c:Int)(h:Hp)(ms:List Hp)(hm:Bi g 3 [.int .i64 a,.int .i64 b,.int .i64 c]∈ms):FnV Tryz.prog 149 #[.slice (some ⟨g,0,none⟩) 3 3] h ms (.int .i64 (ZY a b c)):=
 Co fun h' _ hl=>Gf ((Z0 _ [a,b,c] h' ((OwnL.blk (g:=g) (el:=3) (F:=cI) (l:=[a,b,c]) 3 Bl rfl (by decide)).rdh (h:=h') (ms:=[]) (hl _ hm)) (by simp)).mono fun r _ _ ⟨x,e,hx⟩=>by rw[e,YA hx]) []
theorem Aao(T:List (Int×Int))(gA gm g:Nat)(mA:Hp)(bs:List Nat)(x y:CeI)(h:Hp)(e10:∀ms,Cell h ms (⟨g,0,none⟩:Addr) (.pointer (some ⟨gm,0,none⟩)))(e2:∀ms,Cell h ms (⟨gm,2,none⟩:Addr) (.map (some gA)))(O:Cn kN kN gA BC mA T bs)(lA:mA.le h)(ms:List Hp) :
  FnV Tryz.prog 148 #[.agg (Ri x).toArray,.agg (Ri y).toArray,.pointer (some ⟨g,0,none⟩)] h ms (.int .i64 (OO (fun c=>(A9 T c).getD 0) x y)):=by
 refine Gf ?_ ms;have o1:=x.one;have o2:=y.one;show FnT _ _ #[.agg #[.int .i64 x.c.id,.int .i64 x.c.dim,x.v],.agg #[.int .i64 y.c.id,.int .i64 y.c.dim,y.v],.pointer (some ⟨g,0,none⟩)] _ _ _;refine Ap func148 ntmps148 rfl rfl (fun w0 hw0=>?_);simp only[AU];refine Au (AX [_,_,_] rfl rfl (by rfl) rfl rfl rfl (fun g3=>AX [_,_,_] rfl rfl (by rfl) rfl rfl rfl (fun g4=>Qm rfl (Al (AD fun h1 l1 hG4=>(AD fun h2 l2 hG3=>?_))))));have hG4:=hG4.le l2;have l12:=AI l1 l2;have e10:∀ms,Cell h2 ms (⟨g,0,none⟩:Addr) (.pointer (some ⟨gm,0,none⟩)):=fun ms=>(e10 ms).le l12;have e2:∀ms,Cell h2 ms (⟨gm,2,none⟩:Addr) (.map (some gA)):=fun ms=>(e2 ms).le l12;have e30:∀ms,Cell h2 ms (⟨g3,0,none⟩:Addr) (.int .i64 x.c.id):=fun ms=>Seg.all hG3 0 _ rfl ms;have e31:∀ms,Cell h2 ms (⟨g3,1,none⟩:Addr) (.int .i64 x.c.dim):=fun ms=>Seg.all hG3 1 _ rfl ms;have e40:∀ms,Cell h2 ms (⟨g4,0,none⟩:Addr) (.int .i64 y.c.id):=fun ms=>Seg.all hG4 0 _ rfl ms;have e41:∀ms,Cell h2 ms (⟨g4,1,none⟩:Addr) (.int .i64 y.c.dim):=fun ms=>Seg.all hG4 1 _ rfl ms;refine Ac (Bg 24 CY (by kernel_rfl) rfl (Wl rfl S6 (e10 _) (Wm rfl (Wf JP rfl (Wl rfl Jq (e2 _) (Wf By rfl (Wl rfl U3 (e30 _) (AP (BI (V:=kN) (z:=(0:Int)) (u:=(A9 T x.c.id).getD 0) x.c.id rfl A0 O (AI lA l12) rfl Jq Gg rfl rfl x.i) rfl rfl (Wl rfl S6 (e10 _) (Wm rfl (Wf JP rfl (Wl rfl Jq (e2 _) (Wf By rfl (Wl rfl U3 (e40 _) (AP (BI (V:=kN) (z:=(0:Int)) (u:=(A9 T y.c.id).getD 0) y.c.id rfl A0 O (AI lA l12) rfl Jq Gg rfl rfl y.i) rfl rfl (AP (AO rfl call150 rfl (FK _ _ _ _)) rfl rfl (Wf Cw rfl (Wl rfl U3 (e31 _) (Wf Cw rfl (Wl rfl U3 (e41 _) (AP (AO rfl call150 rfl (FK _ _ _ _)) rfl rfl (Wf By rfl (Wl rfl U3 (e30 _) (Wf By rfl (Wl rfl U3 (e40 _) (Bc (Qx (AO rfl call150 rfl (FK _ _ _ _)) rfl (Aq [(0,_),(1,_),(2,_)] [.int .i64 0,.int .i64 0,.int .i64 0] [_,_,_] rfl AR Be rfl (by omega) (by kernel_rfl) Qt rfl rfl rfl rfl (fun g31=>?_)))))))))))))))))))))))))))));refine Qx (AO rfl call149 rfl (AaG _ _ _ _ _ _ (by repeat (first|exact Mh|refine List.Mem.tail _ ?_)))) rfl ?_;refine Qm rfl (Al (Ao ?_));exact Az rfl rfl (rfl)
def CJ(T:List (Int×Int))(c:Int):Int:=(A9 T c).getD 0
theorem Sl(T:List (Int×Int))(gA gm g0:Nat)(mA:Hp)(bs:List Nat)(l:List CeI)(v:Value)(m h:Hp)(e10:∀ms,Cell h ms (⟨g0,0,none⟩:Addr) (.pointer (some ⟨gm,0,none⟩)))(e2:∀ms,Cell h ms (⟨gm,2,none⟩:Addr) (.map (some gA)))(OA:Cn kN kN gA BC mA T bs)(lA:mA.le h)(O:OwnL Ri 3 52 m v l)(hl:l.length<=1000000) :
  FnT Tryz.prog 147 #[v,.func (.func 148) #[] #[.pointer (some ⟨g0,0,none⟩)]] h [m] (fun _ h' ms'=>h=h'/\∃(l':List CeI) (m':Hp),ms'=[m']/\OwnL Ri 3 52 m' v l'/\l'.Perm l/\l'.Pairwise fun a b=>¬OO (CJ T) b a<0):=by
 intro w hw;obtain⟨⟨h1,h2⟩,hF⟩:=O;rcases h2 with ⟨rfl,h4,rfl⟩|⟨g,cap,spare,rfl,rfl,e1,e2',e3⟩
 ·obtain rfl:l=[]:=List.length_eq_zero_iff.1 h4;refine(AnyF.slices_SortFunc_none Tryz.laysSlF06 none 0 (.func (.func 148) #[] #[.pointer (some ⟨g0,0,none⟩)]) w).mono fun x w' ⟨e,ew⟩=>?_;subst ew;exact⟨_,h,[Hp.emp],e,Ends.refl hw,rfl,[],Hp.emp,rfl,OwnL.nil Eh,List.Perm.refl _,List.Pairwise.nil⟩
 ·have hg:w.heap[g]?=some (.cells (l.toArray.toList.flatMap Ri++spare).toArray 52 (0,0)):=hw.own _ (List.mem_singleton.2 rfl) g _ (Hp.one_self _ _);have hlt:=(Array.getElem?_eq_some_iff.1 hg).1
  have hlays:CmpLays Tryz.prog 148 #[.pointer (some ⟨g0,0,none⟩)] Ri 3 (OO (CJ T)) g 0 l.toArray.size w:=fun mm os dk hs x y=>by have hE:=Lk (enc:=Ri) (n:=mm) (el:=52) Eh (by omega) l.toArray dk hs spare os hw;exact(Aao T gA gm g0 mA bs x y h e10 e2 OA lA [] _ (hE.st.weaken (DU) (List.nil_sublist _))).mono fun _ _ ⟨e,h⟩=>⟨e,h.grown⟩
  refine(AnyQ.slices_SortFunc Tryz.laysSlF06 3 Tryz.isAgg52 Tryz.sizeOf52 Ri Eh XQ (OO (CJ T)) (UP _) 148 #[.pointer (some ⟨g0,0,none⟩)] g 0 cap l.toArray w call148 hlays (Ro Eh (by omega) l.toArray spare hg) hlt (by simp;omega)).mono fun x w' ⟨e,d',n,os,P,S,ew⟩=>?_;subst ew;have hsz:d'.size=l.length:=by have:=P.1;simpa using this
  have hE:=Lk (enc:=Ri) (n:=n) (el:=52) Eh (by omega) l.toArray d' (by simpa using hsz) spare os hw;refine⟨_,h,_,e,hE,rfl,d'.toList,_,rfl,⟨⟨?_,.inr ⟨g,cap,spare,?_,rfl,?_,?_,e3⟩⟩,Eh⟩,?_,?_⟩
  ·exact A7 Eh _
  ·have:d'.toList.length=l.length:=by rw[Array.length_toList,hsz]
   rw[this]
  ·rw[length_append,A7 Eh,Array.length_toList,hsz,<-A7 Eh l,<-length_append];exact e1
  ·rw[Array.length_toList,hsz];exact e2'
  ·have h:=P.2.2;have q1:d'.extract 0 l.toArray.size=d':=by rw[<-P.1];simp
   have q2:l.toArray.extract 0 l.toArray.size=l.toArray:=by simp
   rw[q1,q2]at h;exact h
  ·rw[List.pairwise_iff_getElem];intro i j hi hj hij;have hi':i<d'.size:=by simpa using hi
   have hj':j<d'.size:=by simpa using hj
   have h:=S i j (by omega) hij (by simp;omega);have q1:d'[i]! = d'[i]:=by simp[hi']
   have q2:d'[j]! = d'[j]:=by simp[hj']
   rw[q1,q2]at h;exact of_decide_eq_false h
end Go.Proofs.Q
namespace Go.Proofs.Q
open Go.Eng Go.RowKit Go.Lin Go.Sort Go.Srt
variable {p:Int} {S:List Ce} {i j:Nat}
def ColsO:Hp->List Value->List (List Int)->Prop
 | m,[],[]=>m=Hp.emp
 | m,v::vs,c::cs=>∃a b,m=a.join b/\a.disj b/\OwnL cI 1 3 a v c/\ColsO b vs cs
 | _,_,_=>False
theorem ColsO.len:∀{vs:List Value} {cs:List (List Int)} {m:Hp},ColsO m vs cs->vs.length=cs.length
 | [],[],_,_=>rfl
 | _::_,_::_,_,⟨_,_,_,_,_,h⟩=>by simp[h.len]
 | [],_::_,_,h=>h.elim
 | _::_,[],_,h=>h.elim
theorem ColsO.snoc{v:Value}{c:List Int}{b:Hp}(O:OwnL cI 1 3 b v c):∀{vs:List Value} {cs:List (List Int)} {m:Hp},ColsO m vs cs->m.disj b->ColsO (m.join b) (vs++[v]) (cs++[c])
 | [],[],m,h,hd=>by have h:m=Hp.emp:=h;subst h;exact⟨b,Hp.emp,by rw[Hp.join_emp,Hp.emp_join],fun g=>.inr rfl,O,rfl⟩
 | _::_,_::_,m,⟨a,b',e,hd',O',h⟩,hd=>by subst e;refine⟨a,b'.join b,Hp.join_assoc _ _ _,?_,O',h.snoc O (Hp.disj_right hd)⟩;exact Hp.disj_symm (Hp.disj_join (Hp.disj_symm hd') (Hp.disj_symm (Hp.disj_left hd)))
 | [],_::_,_,h,_=>h.elim
 | _::_,[],_,h,_=>h.elim
def DQ(S:List Ce):Nat->List (Int×Int)
 | 0=>[]
 | j+1=>CC (DQ S j) (S.getD j default).c.id (j:Int)
theorem HF(S:List Ce)(c:Int):∀j,0<=(A9 (DQ S j) c).getD 0/\(0<j->(A9 (DQ S j) c).getD 0<j)
 | 0=>by simp[DQ,A9]
 | j+1=>by
  have ih:=HF S c j;unfold DQ;rw[Dg];split
  ·simp only[Option.getD_some];omega
  ·refine⟨ih.1,fun _=>?_⟩;rcases Nat.eq_zero_or_pos j with rfl|h
   ·simp[DQ,A9]
   ·have:=ih.2 h;omega
theorem KE(hn:(S.map fun a=>a.c.id).Nodup)(hi:i<S.length):∀j,i<j->j<=S.length->A9 (DQ S j) S[i].c.id=some (i:Int)
 | 0,h,_=>by omega
 | j+1,h,hj=>by
  unfold DQ;rw[Dg];have ej:S.getD j default=S[j]:=by simp[List.getD,show j<S.length from by omega]
  rw[ej];split
  ·rename_i e
   have h1:i=j:=by have h2:=List.pairwise_iff_getElem.1 hn;refine Classical.byContradiction fun hne=>?_;have h3:=h2 i j (by simpa using hi) (by simp;omega) (by omega);simp only[List.getElem_map]at h3;exact h3 e
   rw[h1]
  ·rename_i e;rcases (by omega:i<j\/i=j) with h1|rfl
   ·exact KE hn hi j h1 (by omega)
   ·exact absurd rfl e
def pl(S:List Ce)(j:Nat)(c:Int):Nat:=((A9 (DQ S j) c).getD 0).toNat
theorem QP(S:List Ce)(j:Nat)(c:Int):((pl S j c:Nat):Int)=(A9 (DQ S j) c).getD 0:=Int.toNat_of_nonneg (HF S c j).1
theorem ZJ(S:List Ce)(hj:0<j)(c:Int):pl S j c<j:=by have h1:=(HF S c j).2 hj;have h2:=QP S j c;omega
theorem Zc(hn:(S.map fun a=>a.c.id).Nodup)(hij:i<j)(hj:j<=S.length):pl S j (S.getD i default).c.id=i:=by
 have hi:i<S.length:=by omega
 unfold pl;rw[show S.getD i default=S[i] by simp[List.getD,hi],KE hn hi j hij hj];rfl
def EY(p:Int)(S:List Ce)(j k:Nat):List Int:=((S.getD j default).c.sd.take k).foldl (fun c s=>c.set (pl S (j+1) s.1) ((s.2+p)%p)) (replicate S.length 0)
def Js(p:Int)(S:List Ce)(j:Nat):List Int:=EY p S j (S.getD j default).c.sd.length
def EX(n j:Nat):List Int:=(replicate n 0).set j 1
theorem Lw{k:Nat}(hk:k<(S.getD j default).c.sd.length):EY p S j (k+1)=(EY p S j k).set (pl S (j+1) ((S.getD j default).c.sd[k]).1) (((S.getD j default).c.sd[k].2+p)%p):=by unfold EY;rw[List.take_succ_eq_append_getElem hk,List.foldl_append];rfl
theorem Fv(p:Int)(S:List Ce)(j k:Nat):(EY p S j k).length=S.length:=by
 unfold EY
 have:∀(l:List (Int×Int)) (c:List Int),(l.foldl (fun c s=>c.set (pl S (j+1) s.1) ((s.2+p)%p)) c).length=c.length:=fun l=>by
  induction l with
  | nil=>intro c;rfl
  | cons a l ih=>intro c;rw[List.foldl_cons,ih,length_set]
 rw[this,List.length_replicate]
theorem Q3{x:Int}{l:List Int}(h:Kg p l)(hx:0<=x/\x<p):Kg p (l.set i x):=fun y hy=>by
 rcases List.mem_or_eq_of_mem_set hy with h1|rfl
 ·exact h y h1
 ·exact hx
theorem Rh(hp:0<p)(n:Nat):Kg p (replicate n 0):=fun y hy=>by rw[(List.mem_replicate.1 hy).2];omega
theorem NW(hp:0<p)(S:List Ce)(j k:Nat):Kg p (EY p S j k):=by
 unfold EY
 have:∀(l:List (Int×Int)) (c:List Int),Kg p c->Kg p (l.foldl (fun c s=>c.set (pl S (j+1) s.1) ((s.2+p)%p)) c):=fun l=>by
  induction l with
  | nil=>intro c h;exact h
  | cons a l ih=>intro c h;exact ih _ (Q3 h ⟨Int.emod_nonneg _ (by omega),Int.emod_lt_of_pos _ hp⟩)
 exact this _ _ (Rh hp _)
theorem LV(n j:Nat):(EX n j).length=n:=by unfold EX;simp
theorem SA(hp:2<=p)(n j:Nat):Kg p (EX n j):=Q3 (Rh (by omega) n) (by omega)
theorem Gj{α:Type}(f:Nat->α)(j:Nat):(range (j+1)).map f=(range j).map f++[f j]:=by rw[List.range_succ,List.map_append];rfl
end Go.Proofs.Q
namespace Go.Proofs.Q
open Go.Proofs.Tryz
open Go.Eng Go.RowKit Go.Lin Go.Sort Go.Srt
variable {e:Entry} {Q:Exit->Act->World->Prop} {ops:Array Oper} {s:Aw} {h:Hp} {ms:List Hp}
def MW(f:Int->Int)(S:List Ce):Prop:=S.Pairwise fun a b=>f a.c.id<f b.c.id\/(f a.c.id=f b.c.id/\(a.c.dim<b.c.dim\/(a.c.dim=b.c.dim/\a.c.id<=b.c.id)))
theorem XG{f:Int->Int}{l:List CeI}(h:l.Pairwise fun a b=>¬OO f b a<0):MW f (l.map CeI.ce):=by unfold MW;rw[List.pairwise_map];refine h.imp fun {a b} h=>?_;rw[JD]at h;show f a.c.id<f b.c.id\/(f a.c.id=f b.c.id/\(a.c.dim<b.c.dim\/(a.c.dim=b.c.dim/\a.c.id<=b.c.id)));omega
def box0:List Value:=.int .i64 0::.slice none 0 0::.map none::.slice none 0 0::.slice none 0 0::replicate 400 (.int .i64 0)
theorem Ve(p:Int)(vA:Value)(gL:Nat):OD box0 [(0,[.int .i64 p]),(1,[vA]),(2,[.map (some gL)])]=ES p vA gL (.slice none 0 0) (.slice none 0 0) (replicate 400 0):=by unfold box0 ES;rw[List.map_replicate];rfl
theorem TU:box0.length=405:=by unfold box0;simp
theorem Aaf{v:Value}(h:v.oneCell'=true):∀a∈[v],∀c∈cU a,c.oneCell'=true:=fun a ha c hc=>by rw[List.mem_singleton.1 ha]at hc;rw[List.mem_singleton.1 (show c∈[v] from hc)];exact h
theorem F8{rest:List Oper}{o:Oper}{d g:Nat}{x y:Operand}{v q:Value}{m:Hp}{l:List Value}(i:Nat)(O:OwnL cU 1 22 m v l)(hm:Bi g 22 [q]∈ms)(hl:l.length<=400)(hP:e.P=Tryz.prog)(ho:o.op=.call { callee:=.builtin .append,args:=#[x,y],argTypes:=#[81,81] })
  (hx:ev s x=some v) (hy:ev s y=some (.slice (some ⟨g,0,none⟩) 1 1)) (hi:ms[i]?=some m) (hq:q.oneCell'=true) (hd:o.dst=some d) (hn:Nat.blt d e.n=true) (hg:o.guard=none) (K:∀v' m',OwnL cU 1 22 m' v' (l++[q])->WL e ops Q rest ((d,v')::s) h (ms.set i m')):WL e ops Q (o::rest) s h ms:=
 AZ i O (RdL.one Mn (x:=q) hm rfl) ho (hP ▸ B7) (hP ▸ Cb) rfl (by omega) hx hy hi (Aaf hq) (by simp only[length_singleton];omega) (by simp only[length_singleton];omega) hd hn hg K
theorem Fi{rest:List Oper}{o:Oper}{d n c:Nat}{x:Operand}{a:Option Addr}(hP:e.P=Tryz.prog)(ho:o.op=.buildSlice 81 1 #[(0,x)])(hx:ev s x=some (.slice a n c))(hd:o.dst=some d)(hn:Nat.blt d e.n=true)(hg:o.guard=none)(k:∀g,WL e ops Q rest ((d,.slice (some ⟨g,0,none⟩) 1 1)::s) h (Bi g 22 [.slice a n c]::ms)):WL e ops Q (o::rest) s h ms:=
 An [_] ho (hP ▸ B7) (hP ▸ Cb) hx rfl rfl rfl (by simp) hd hn hg k
theorem Uf{h0:Hp}{n:Nat}{listed:Array Bool}(n2:Nat)(L2:Array Bool)(I:Aw->List Hp->Prop)(k1:∀L s ms,L=L2->I s ms->WB e ops Q h0 n2 L s h ms)(k2:(∀L s ms,L=L2->I s ms->WB e ops Q h0 n2 L s h ms)->WB e ops Q h0 n listed s h ms):WB e ops Q h0 n listed s h ms:=k2 k1
theorem UT(l:List Ce)(F:List (Int×Int))(v vf:Value)(p:Int)(hp:Hp)(hK:RgC l)(hR:RdC hp v l)(hF:RdL cV 2 hp [] vf F)(hV:NM F)(h0:F9 (cn l) F=(0,0))(hP:IsP p)(hl:l.length<=400):FnT Tryz.prog 91 #[.agg #[v],vf,.int .i64 p] hp [] (fun r h' ms'=>hp.le h'/\∃(gm gA:Nat) (mA:Hp) (bs:List Nat) (S:List Ce) (vc vr vv:Value) (Rs Vs:List Value) (mR mV:Hp),r=.tuple #[.pointer (some ⟨gm,0,none⟩),.int .i64 0]/\ms'=[Bi gm 130 (ES p vc gA vr vv (replicate 400 0)),mR,mV]/\Cn kN kN gA BC mA (Bj F) bs/\mA.le h'/\RdL cC 3 h' [] vc S/\RdL cU 1 h' [] vr Rs/\RdL cU 1 h' [] vv Vs/\ColsO mR Rs ((range S.length).map (Js p S))/\ColsO mV Vs ((range S.length).map (EX S.length))/\(S.map Ce.c).Perm (cn l)/\MW (CJ (Bj F)) S/\∀a∈S,RdL cD 2 h' [] a.v a.c.sd):=by
 have o1:=hR.q.rd.one;have o2:=hF.rd.one;have hp1:=hP.1;have hp2:=hP.2.1;have hG:=hK.F.rgt;refine Ap func91 ntmps91 rfl rfl (fun w0 hw0=>?_);simp only[AU];refine Au (AX [_] rfl rfl (by rfl) rfl rfl rfl (fun g3=>Qm rfl (Qm rfl (Al (AD fun h1 l1 hS=>?_)))));have hR:=hR.up l1;have hF:=hF.up l1;have hck:=FL l F v vf h1 hK hR hF hV;rw[h0]at hck;refine Ac (Au (Qx (oG rfl CM AV (Seg.any hS)) rfl (Qm rfl (Qx (AO rfl call24 rfl (Gf hck _)) rfl (Qm rfl (Qm rfl (Qm rfl (Qm rfl (Qm rfl (BL (Qm rfl (Qm rfl (Al (Av rfl (fun hc=>absurd hc (fun h=>h rfl)) (fun hc=>Ag (Ab (Au (Qm rfl (Qx (oG rfl CM AV (Seg.any hS)) rfl (Qc call65 rfl (IG l v _ hK hR) (fun rC h2 ms2 l2 hQ=>?_)))))))))))))))))))));obtain⟨l2',mC,A,vA,rfl,rfl,hOC,hAl,hsA⟩:=hQ;have hF:=hF.up l2;refine Qx (D8 rfl CM rfl Bk rfl rfl rfl) rfl (Qm rfl (Qc call66 rfl (IT F vf _ hF hV.n hV.k) (fun rL h3 ms3 l3 hL=>?_)));obtain⟨l3',gL,mL,bL,rfl,rfl,hOL⟩:=hL;have hsA:=fun a ha=>(hsA a ha).up l3
 have hAid:∀a∈A,BC a.c.id:=fun a ha=>by
  have h1:a.c∈cn l:=by rw[<-hAl];exact List.mem_map.2 ⟨a,ha,rfl⟩
  have h2:=hG.pos _ h1;have h3:=hK.ci h1;unfold BC;omega
 obtain⟨A,rfl⟩:=VO A fun a ha=>⟨(hsA a ha).rd.one,hAid a ha⟩
 have hOC:=own_ceI.1 hOC;have ovA:=hOC.o1;have cvA:vA.cells=#[vA]:=(hOC.rd (h:=h3) (ms:=[mC]) Mh).rd.cells;refine Qx (Bf Z6 box0 [(0,[_]),(1,[vA]),(2,[_])] (ES p vA gL (.slice none 0 0) (.slice none 0 0) (replicate 400 0)) rfl ZS (by kernel_rfl) rfl (by rw[TU];exact⟨⟨rfl,rfl,rfl⟩,⟨cvA,rfl,rfl⟩,⟨rfl,rfl,rfl⟩,trivial⟩) (Ve p vA gL)) rfl ?_;refine AX (ES p vA gL (.slice none 0 0) (.slice none 0 0) (replicate 400 0)) rfl rfl rfl rfl rfl rfl (fun g34=>CN [.pointer none] rfl Z8 rfl rfl (fun g10=>AK 0 0 rfl Z8 rfl rfl (by rfl) rfl rfl (by decide) rfl rfl (Al (AD fun h4 l4 hG10=>(DN 1 rfl (Bd fun h5 l5 lL=>(F2 fun h6 l6 lG dG LG=>?_)))))));have l36:=AI l4 (AI l5 l6);have hG6:=hG10.le (AI l5 l6);have hS6:=Seg.ofLe lG;have e10:∀ms,Cell h6 ms (⟨g10,0,none⟩:Addr) (.pointer (some ⟨g34,0,none⟩)):=fun ms=>Seg.all hG6 0 _ rfl ms;have e1:∀ms,Cell h6 ms (⟨g34,1,none⟩:Addr) vA:=fun ms=>Seg.all hS6 1 _ rfl ms;have e2:∀ms,Cell h6 ms (⟨g34,2,none⟩:Addr) (.map (some gL)):=fun ms=>Seg.all hS6 2 _ rfl ms;have hAlen:A.length=l.length:=by have:=congrArg List.length hAl;rw[Dy]at this;simpa using this
 have hOC6:=hOC.rd (h:=h6) (ms:=[mC]) Mh;have hpv:=Mm p h6 (by unfold BC;omega);rw[decide_eq_true hP]at hpv;refine Ac (Af (Au (Qm rfl (Qx (AO rfl call54 rfl (hpv _)) rfl (Qm rfl (Qm rfl (Al (AM rfl (Au (Ql rfl S6 (e10 _) (Qm rfl (Qf E9 rfl (Ql rfl Bk (e1 _) (Qx (Ar hOC6.rd rfl Bk rfl) rfl (Qm rfl (Qm rfl (Al ?_)))))))))))))))));refine Av rfl (fun hc=>absurd hc (fun h=>by omega)) (fun hc=>?_);refine Ag (Ai (Ab (Au (Ql rfl S6 (e10 _) (Qm rfl (Qf E9 rfl (Ql rfl Bk (e1 _) (Qx (BH rfl rfl rfl) rfl (AY (pre:=[mC]) rfl call147 rfl (Sl (Bj F) gL g34 g10 mL bL A vA mC h6 e10 e2 hOL (AI lL l6) hOC (by omega)) rfl rfl rfl rfl (fun _ h7 ms7 l7 hQ=>?_))))))))));obtain⟨rfl,A',mC',rfl,hOC',hpm,hsr⟩:=hQ;refine Al (Fj LG lG fun h7 q7 b7=>(DN 1 rfl (Bq (own_ceI.2 hOC') fun h8 l8 hQ=>?_)));have l57:h5.le h7:=b7 _ l6 dG;have l58:=AI l57 l8;have hG8:=hG10.le (AI l5 l58);have lL8:=AI lL l58;have l38:=AI l4 (AI l5 l58);have e10:∀ms,Cell h8 ms (⟨g10,0,none⟩:Addr) (.pointer (some ⟨g34,0,none⟩)):=fun ms=>Seg.all hG8 0 _ rfl ms;obtain⟨S,hSe⟩:∃S,A'.map CeI.ce=S:=⟨_,rfl⟩
 have hsrt:=XG hsr;have hSp:S.Perm (A.map CeI.ce):=by rw[<-hSe];exact hpm.map _
 have hSc:(S.map Ce.c).Perm (cn l):=by rw[<-hAl];exact hSp.map _
 have hSA:∀a∈S,RdL cD 2 h8 [] a.v a.c.sd:=fun a ha=>(hsA a (hSp.mem_iff.1 ha)).up l38;have hSi:∀a∈S,BC a.c.id:=fun a ha=>hAid a (hSp.mem_iff.1 ha)
 have hSs:∀a∈S,a.c.sd.length<=64/\∀s∈a.c.sd,BC s.1/\(s.2=1\/s.2=-1):=fun a ha=>by have h1:a.c∈cn l:=hSc.mem_iff.1 (List.mem_map.2 ⟨a,ha,rfl⟩);refine⟨(hK.F.bds h1).2.1,fun s hs=>⟨?_,hG.sgn _ h1 s hs⟩⟩;obtain⟨y,hy,e,_⟩:=hG.sid _ h1 s hs;have h2:=hG.pos _ hy;have h3:=hK.ci hy;rw[<-e];unfold BC;omega
 have hSn:S.length<=400:=by have:=hSc.length_eq;rw[length_map,Dy]at this;omega
 rw[hSe]at hsrt hQ;have ovA:=hQ.rd.one;refine Au (Cp (K:=kN) (V:=kN) (Ok:=BC) rfl rfl rfl rfl (fun gP mP hP0=>Qm rfl (Al (BG (BG (BG (BG (Ac (Au (Ql rfl S6 (e10 _) (Qm rfl (Qf E9 rfl (Ql rfl Bk (Cell.blk 5 (k:=1) rfl rfl) (Qx (Ar hQ.rd.any rfl Bk rfl) rfl (Qm rfl (Al (Af ?_)))))))))))))))))
 refine Ax (fun q sl h' ms'=>∃(j:Nat) (vr vv:Value) (mr mv mR mV mP:Hp) (Rs Vs:List Value) (bs:List Nat),q=S.length-j/\sl=[(2,.int .i64 p),(10,.pointer (some ⟨g10,0,none⟩)),(11,.map (some gP)),(56,vA),(57,.int .i64 S.length),(58,.int .i64 j)]/\h8.le h'/\ms'=[mr,mv,mR,mV,mP,Bi g34 130 (ES p vA gL vr vv (replicate 400 0))]/\j<=S.length/\Cn kN kN gP BC mP (DQ S j) bs/\OwnL cU 1 22 mr vr Rs/\OwnL cU 1 22 mv vv Vs/\ColsO mR Rs ((range j).map (Js p S))/\ColsO mV Vs ((range j).map (EX S.length))/\Rs.length=j/\Vs.length=j)
  (S.length-0) _ ⟨0,.slice none 0 0,.slice none 0 0,Hp.emp,Hp.emp,Hp.emp,Hp.emp,mP,[],[],[],rfl,rfl,DU,rfl,by omega,hP0,OwnL.nil Mn,OwnL.nil Mn,rfl,rfl,rfl,rfl⟩ Qs ?_
 rintro q sl h' ms' ⟨j,vr,vv,mr,mv,mR,mV,mP,Rs,Vs,bs,rfl,rfl,l9,rfl,hj,hO,Or,Ov,CR,CV,hRl,hVl⟩;have hQ:=hQ.up l9;have e10:∀ms,Cell h' ms (⟨g10,0,none⟩:Addr) (.pointer (some ⟨g34,0,none⟩)):=fun ms=>(e10 ms).le l9;have ovr:=Or.o1;have ovv:=Ov.o1;refine Au (Qm rfl (Al (Ac ?_)));refine Av rfl (fun hlt=>?_) (fun hlt=>?_)
 ·have hjl:j<S.length:=by omega
  obtain⟨x,hx⟩:∃x,S[j]=x:=⟨_,rfl⟩
  have hxm:x∈S:=by rw[<-hx];exact getElem_mem hjl
  have hgx:S.getD j default=x:=by simp[List.getD,hjl,hx]
  have hX:=(hSA x hxm).up l9;have oxv:=hX.rd.one;have hxI:=hSi x hxm;obtain⟨hxn,hxs⟩:=hSs x hxm;have hsx:∀ms,Seg h' ms ((AF vA).add (j*3)) (cC x):=fun ms=>by rw[<-hx];exact(hQ.any (ms:=ms)).seg hjl
  refine Ag (Ab ?_);refine Bb (fun sl h'' ms'=>∃(vr' vv' va vb:Value) (mr' mv' mc mo mP':Hp) (bs':List Nat),sl=[(2,.int .i64 p),(10,.pointer (some ⟨g10,0,none⟩)),(11,.map (some gP)),(56,vA),(57,.int .i64 S.length),(58,.int .i64 j)]/\h'.le h''/\ms'=[Bi g34 130 (ES p vA gL vr' vv' (replicate 400 0)),mP',mc,mo,mr',mv',mR,mV]/\Cn kN kN gP BC mP' (DQ S (j+1)) bs'/\OwnL cU 1 22 mr' vr' (Rs++[va])/\OwnL cU 1 22 mv' vv' (Vs++[vb])/\OwnL cI 1 3 mc va (Js p S j)/\OwnL cI 1 3 mo vb (EX S.length j)) ?_ (fun s h ms hI=>?_)
  ·refine Af (Au (Qm rfl (Qx (BU (j) hQ.rd.any rfl Bk AH rfl rfl) rfl (Qx (oG rfl EL AH (hsx _)) rfl (CN [.int .i64 0,.int .i64 0,.slice none 0 0] rfl AH rfl rfl (fun g13=>Qm rfl ?_))))));refine Sa 0 [_,_,_] AH rfl (by simp[o1,o2,ovA,oxv,ovr,ovv]) ?_;refine Al (AD fun h10 l10 hS13=>?_);have e130:∀ms,Cell h10 ms (⟨g13,0,none⟩:Addr) (.int .i64 x.c.id):=fun ms=>Seg.all hS13 0 _ rfl ms;refine Au (Qm rfl (Qf By rfl (Ql rfl U3 (e130 _) (Qm rfl (Bv (V:=kN) (z:=undef) 4 x.c.id (j:Int) A0 hO rfl rfl Jq rfl rfl rfl hxI rfl rfl (fun mP' bs' hO'=>?_))))));have hpl:DQ S (j+1)=CC (DQ S j) x.c.id (j:Int):=by rw[<-hgx];rfl
   rw[<-hpl]at hO';refine Al (DN 5 rfl (F2 fun h11 l11 lG dG LG=>(DN 4 rfl (F2 fun h12 l12 lP dP LP=>?_))));have l912:=AI l10 (AI l11 l12);have hX:=hX.up l912;have hS12:=(Seg.ofLe lG).le l12;have e10':∀ms,Cell h12 ms (⟨g10,0,none⟩:Addr) (.pointer (some ⟨g34,0,none⟩)):=fun ms=>(e10 ms).le l912;have e11':∀ms,Cell h12 ms (⟨g34,1,none⟩:Addr) vA:=fun ms=>Seg.all hS12 1 _ rfl ms;have e132':∀ms,Cell h12 ms (⟨g13,2,none⟩:Addr) x.v:=fun ms=>((Seg.all hS13 2 _ rfl ms).le l11).le l12;have e130':∀ms,Cell h12 ms (⟨g13,0,none⟩:Addr) (.int .i64 x.c.id):=fun ms=>((e130 ms).le l11).le l12;have hQ12:=hQ.up l912;refine Bb (fun sl h' ms'=>∃ga gb:Nat,sl=[(2,.int .i64 p),(10,.pointer (some ⟨g10,0,none⟩)),(11,.map (some gP)),(12,.int .i64 j),(13,.pointer (some ⟨g13,0,none⟩)),(14,.slice (some ⟨ga,0,none⟩) S.length S.length),(15,.slice (some ⟨gb,0,none⟩) S.length S.length),(56,vA),(57,.int .i64 S.length),(58,.int .i64 j)]/\h12=h'/\ms'=[Bi ga 3 (replicate S.length (.int .i64 0)),Bi gb 3 (replicate S.length (.int .i64 0)),mr,mv,mR,mV]) ?_ (fun s h ms hI=>?_)
   ·refine BE (n:=14) (bs:=[true,true,true,true,true,false,true,true,true,true,true,false,false,false]) [true,true,true,true,true,false,true,true,true,true,true] CY (by kernel_rfl) (by kernel_rfl) rfl rfl (QL rfl S6 (e10' _) (Qq rfl (QF E9 rfl (QL rfl Bk (e11' _) (Qp rfl (Ar hQ12.rd.any rfl Bk rfl) (QL rfl S6 (e10' _) (Qq rfl (QF E9 rfl (QL rfl Bk (e11' _) (Qp rfl (Ar hQ12.rd.any rfl Bk rfl) ?_))))))))));unfold Fy;simp only[cons_append,nil_append];refine A5 [5,11] (by kernel_rfl) rfl ?_;refine Ay rfl ?_ ?_
    ·refine CB (n:=_) rfl AR Be rfl rfl rfl (by rfl) (by rfl) (by omega) (by omega) rfl rfl rfl (fun g72=>Qw (A5 [11,12] (by kernel_rfl) rfl ?_));refine Ay rfl ?_ ?_
     ·refine CB (n:=_) rfl AR Be rfl rfl rfl (by rfl) (by rfl) (by omega) (by omega) rfl rfl rfl (fun g78=>Qw (Qo 12 rfl (Qm rfl (Qw (Qo 13 rfl (Qm rfl (Qw (Qe ?_))))))))
      (refine JJ (List.Perm.swap _ _ _) ?_;exact AC _ ⟨g72,g78,rfl,rfl,rfl⟩ Qs)
     refine Ay rfl ?_ ?_
     ·refine Qm rfl (Qw (Qo 11 rfl (CB (n:=_) rfl AR Be rfl rfl rfl (by rfl) (by rfl) (by omega) (by omega) rfl rfl rfl (fun g78=>Qw (Qo 13 rfl (Qm rfl (Qw (Qe ?_))))))))
      (refine JJ (List.Perm.swap _ _ _) ?_;exact AC _ ⟨g72,g78,rfl,rfl,rfl⟩ Qs)
     exact A4
    refine Ay rfl ?_ ?_
    ·refine CB (n:=_) rfl AR Be rfl rfl rfl (by rfl) (by rfl) (by omega) (by omega) rfl rfl rfl (fun g78=>Qw (Qo 5 rfl (CB (n:=_) rfl AR Be rfl rfl rfl (by rfl) (by rfl) (by omega) (by omega) rfl rfl rfl (fun g72=>Qw (Qo 12 rfl (Qm rfl (Qw (Qo 13 rfl (Qm rfl (Qw (Qe ?_)))))))))));exact AC _ ⟨g72,g78,rfl,rfl,rfl⟩ Qs
    exact A4
   ·obtain⟨ga,gb,rfl,rfl,rfl⟩:=hI;have hO1:OwnL cI 1 3 (Bi ga 3 (replicate S.length (.int .i64 0))) (.slice (some ⟨ga,0,none⟩) S.length S.length) (EY p S j 0):=OwnL.rep _ 0 (by omega);have hO2:OwnL cI 1 3 (Bi gb 3 (replicate S.length (.int .i64 0))) (.slice (some ⟨gb,0,none⟩) S.length S.length) (replicate S.length 0):=OwnL.rep _ 0 (by omega);have hpP:0<j+1:=by omega
    refine Ac (Au (Qf B5 rfl (Ql rfl Cu (e132' _) (Qx (Ar hX.rd.any rfl Cu rfl) rfl (Qm rfl (Al (Af ?_)))))))
    refine Ax (fun q sl h' ms'=>∃(k:Nat) (mc:Hp),q=x.c.sd.length-k/\sl=[(2,.int .i64 p),(10,.pointer (some ⟨g10,0,none⟩)),(11,.map (some gP)),(12,.int .i64 j),(14,.slice (some ⟨ga,0,none⟩) S.length S.length),(15,.slice (some ⟨gb,0,none⟩) S.length S.length),(56,vA),(57,.int .i64 S.length),(58,.int .i64 j),(80,x.v),(81,.int .i64 x.c.sd.length),(82,.int .i64 k)]/\h12.le h'/\ms'=[mc,Bi gb 3 (replicate S.length (.int .i64 0)),mr,mv,mR,mV]/\k<=x.c.sd.length/\OwnL cI 1 3 mc (.slice (some ⟨ga,0,none⟩) S.length S.length) (EY p S j k))
     (x.c.sd.length-0) _ ⟨0,_,rfl,rfl,DU,rfl,by omega,hO1⟩ Qs ?_
    rintro q sl h13 ms' ⟨k,mc,rfl,rfl,l13,rfl,hk,hOc⟩;have hX:=hX.up l13;refine Au (Qm rfl (Al (Ac ?_)));refine Av rfl (fun hlk=>?_) (fun hlk=>?_)
    ·have hkl:k<x.c.sd.length:=by omega
     obtain⟨s,hs⟩:∃s,x.c.sd[k]=s:=⟨_,rfl⟩
     have hsm:s∈x.c.sd:=by rw[<-hs];exact getElem_mem hkl
     obtain⟨hs1,hs2⟩:=hxs s hsm;have hss:∀ms,Seg h13 ms ((AF x.v).add (k*2)) (cD s):=fun ms=>by rw[<-hs];exact(hX.any (ms:=ms)).seg hkl
     have hplt:pl S (j+1) s.1<(EY p S j k).length:=by rw[Fv];have:=ZJ S hpP s.1;omega
     have hcs:EY p S j (k+1)=(EY p S j k).set (pl S (j+1) s.1) ((s.2+p)%p):=by
      have hkg:k<(S.getD j default).c.sd.length:=by rw[hgx];exact hkl
      rw[Lw hkg];have:(S.getD j default).c.sd[k]=s:=by simp only[hgx,hs]
      rw[this]
     rw[Fv]at hplt;refine Ag (Ab (Ac (Af (Au (Qx (BU (k) hX.rd.any rfl Cu AJ rfl rfl) rfl (Qx (oG rfl DE AJ (hss _)) rfl (CN [.int .i64 0,.int .i64 0] rfl AJ rfl rfl (fun g17=>?_))))))));refine Sa 0 [_,_] AJ rfl (by simp[Value.oneCell']) ?_;refine Al (AD fun h14 l14 hS17=>?_);have e170:∀ms,Cell h14 ms (⟨g17,0,none⟩:Addr) (.int .i64 s.1):=fun ms=>Seg.all hS17 0 _ rfl ms;have e171:∀ms,Cell h14 ms (⟨g17,1,none⟩:Addr) (.int .i64 s.2):=fun ms=>Seg.all hS17 1 _ rfl ms;refine Bg 11 CY (by kernel_rfl) rfl (Wm rfl (Wm rfl (Wf Cy rfl (Wl rfl U3 (e170 _) (AP (BI (V:=kN) (z:=(0:Int)) (u:=((pl S (j+1) s.1:Nat):Int)) s.1 (QP S (j+1) s.1).symm A0 hO' (AI lP (AI l13 l14)) rfl Jq Gg rfl rfl hs1) rfl rfl (Wf Fa rfl (Wl rfl U3 (e171 _) (Wm rfl (AP (oA rfl) rfl rfl (Wm rfl (AP (BM rfl rfl rfl (by omega) (by omega)) rfl rfl (Bc (Qx (BF (pl S (j+1) s.1) rfl AR Be rfl rfl (by omega) (by omega)) rfl ?_)))))))))))));refine EO 0 (pl S (j+1) s.1) hOc rfl Be rfl rfl rfl (by rw[Fv];exact hplt) rfl rfl (fun mc' hOc'=>?_);rw[<-hcs]at hOc';refine Aj (Ai (Ab (Ad (Qx (oA rfl) rfl (Qm rfl (Aj ?_))))));exact Ak (x.c.sd.length-(k+1)) _ (by omega) ⟨k+1,mc',rfl,rfl,AI l13 l14,rfl,by omega,hOc'⟩ Qs
    ·obtain rfl:k=x.c.sd.length:=by omega
     refine As (Aa (Aa (Ae (Ab (Au (Qm rfl (Qm rfl (Qx (BF (j) rfl AR Be rfl rfl (by omega) (by omega)) rfl ?_))))))));refine EO 1 j hO2 rfl Be rfl rfl rfl (by simp;omega) rfl rfl (fun mo' hO2'=>?_);refine Al (Fj LP (AI lP l13) fun h14 q14 b14=>(Fj LG (b14 _ (AI lG (AI l12 l13)) (Fe lG dP)) fun h15 q15 b15=>?_));have l1015:h10.le h15:=b15 _ (b14 _ (AI l11 (AI l12 l13)) (Fe l11 dP)) dG;have l915:=AI l10 l1015;have e10:∀ms,Cell h15 ms (⟨g10,0,none⟩:Addr) (.pointer (some ⟨g34,0,none⟩)):=fun ms=>(e10 ms).le l915;have hcD:EY p S j x.c.sd.length=Js p S j:=by unfold Js;rw[hgx]
     rw[hcD]at hOc;refine BE (n:=22) (bs:=[true,true,true,true,true,false,true,false,false,true,true,true,false,true,false,false,true,true,false,true,true,false]) [true,true,true,true,true,false,true,false,false,true,true,true,false,true,false,false,true,true,false,true,true] CY (by kernel_rfl) (by kernel_rfl) rfl rfl (QL rfl S6 (e10 _) (QL rfl S6 (e10 _) (QL rfl S6 (e10 _) (Qq rfl (QF E8 rfl (Qq rfl (QL rfl S6 (e10 _) (Qq rfl (QF JI rfl (Qq rfl (Qq rfl (QF E8 rfl (Qq rfl (QF JI rfl ?_))))))))))))));unfold Fy;simp only[cons_append,nil_append];refine Uf 17 #[true,true,true,true,true,true,true,true,true,true,true,true,true,true,true,false,true,true,false,true,true,false] (fun s ms=>∃B1 B2 gY v2 m2,ms=[B1,B2,Bi g34 130 (ES p vA gL vr vv (replicate 400 0)),mP',mc,mo',m2,mv,mR,mV]/\Bi gY 22 [.slice (some ⟨gb,0,none⟩) S.length S.length]∈[B1,B2]/\OwnL cU 1 22 m2 v2 (Rs++[.slice (some ⟨ga,0,none⟩) S.length S.length])/\Eng.Sub [(110,v2),(114,vv),(116,.slice (some ⟨gY,0,none⟩) 1 1),(119,.pointer (some ⟨g34,3,none⟩)),(121,.pointer (some ⟨g34,4,none⟩)),(2,.int .i64 p),(10,.pointer (some ⟨g10,0,none⟩)),(11,.map (some gP)),(56,vA),(57,.int .i64 S.length),(58,.int .i64 j)] s) ?_ (fun fin=>?_)
     ·rintro _ s ms rfl ⟨B1,B2,gY,v2,m2,rfl,hm,hO8,hS⟩;refine Qo 15 rfl (Y6 hS (F8 7 Ov (List.mem_append_left _ hm) (by omega) rfl rfl rfl rfl rfl rfl rfl rfl rfl (fun v3 m3 hO9=>Qw (Qo 18 rfl ?_))));refine AK 2 3 rfl Aae rfl rfl hO8.o1 rfl rfl (by rw[KG];omega) rfl rfl ?_;refine Qw (Qo 21 rfl ?_);refine AK 2 4 rfl Aae rfl rfl hO9.o1 rfl rfl (by rw[length_set,KG];omega) rfl rfl ?_;refine Qw (Qe ?_);refine AL (AL (Ai ?_));exact AC _ ⟨v2,v3,_,_,m2,m3,mc,mo',mP',bs',rfl,l915,rfl,hO',hO8,hO9,hOc,hO2'⟩ Qs
     refine A5 [5,7,12,14] (by kernel_rfl) rfl ?_;refine Ay rfl ?_ ?_
     ·refine Ql rfl B7 (Cell.blk 0 (k:=3) rfl rfl) (Qw (A5 [7,12,14] (by kernel_rfl) rfl ?_));refine Ay rfl ?_ ?_
      ·refine Fi rfl rfl rfl rfl rfl rfl (fun g109=>Qw (A5 [8,12,14] (by kernel_rfl) rfl ?_));refine Ay rfl ?_ ?_
       ·refine F8 5 Or (.head _) (by omega) rfl rfl rfl rfl rfl rfl rfl rfl rfl (fun v2 m2 hO8=>Qw (A5 [12,14] (by kernel_rfl) rfl ?_));refine Ay rfl ?_ ?_
        ·refine Ql rfl B7 (Cell.blk 1 (k:=4) rfl rfl) (Qw (Qo 14 rfl (Fi rfl rfl rfl rfl rfl rfl (fun g116=>Qw ?_))));exact fin _ _ _ (by kernel_rfl) ⟨_,_,_,_,_,rfl,(.head _),hO8,Qs⟩
        refine Ay rfl ?_ ?_
        ·refine Fi rfl rfl rfl rfl rfl rfl (fun g116=>Qw (Qo 12 rfl (Ql rfl B7 (Cell.blk 2 (k:=4) rfl rfl) (Qw ?_))));exact fin _ _ _ (by kernel_rfl) ⟨_,_,_,_,_,rfl,(.head _),hO8,Qs⟩
        exact A4
       refine Ay rfl ?_ ?_
       ·refine Ql rfl B7 (Cell.blk 1 (k:=4) rfl rfl) (Qw (A5 [8,14] (by kernel_rfl) rfl ?_));refine Ay rfl ?_ ?_
        ·refine F8 5 Or (.head _) (by omega) rfl rfl rfl rfl rfl rfl rfl rfl rfl (fun v2 m2 hO8=>Qw (Qo 14 rfl (Fi rfl rfl rfl rfl rfl rfl (fun g116=>Qw ?_))));exact fin _ _ _ (by kernel_rfl) ⟨_,_,_,_,_,rfl,(.head _),hO8,Qs⟩
        refine Ay rfl ?_ ?_
        ·refine Fi rfl rfl rfl rfl rfl rfl (fun g116=>Qw (Qo 8 rfl (F8 6 Or (.tail _ (.head _)) (by omega) rfl rfl rfl rfl rfl rfl rfl rfl rfl (fun v2 m2 hO8=>Qw ?_))));exact fin _ _ _ (by kernel_rfl) ⟨_,_,_,_,_,rfl,(.head _),hO8,Qs⟩
        exact A4
       refine Ay rfl ?_ ?_
       ·refine Fi rfl rfl rfl rfl rfl rfl (fun g116=>Qw (A5 [8,12] (by kernel_rfl) rfl ?_));refine Ay rfl ?_ ?_
        ·refine F8 6 Or (.tail _ (.head _)) (by omega) rfl rfl rfl rfl rfl rfl rfl rfl rfl (fun v2 m2 hO8=>Qw (Qo 12 rfl (Ql rfl B7 (Cell.blk 2 (k:=4) rfl rfl) (Qw ?_))));exact fin _ _ _ (by kernel_rfl) ⟨_,_,_,_,_,rfl,(.head _),hO8,Qs⟩
        refine Ay rfl ?_ ?_
        ·refine Ql rfl B7 (Cell.blk 2 (k:=4) rfl rfl) (Qw (Qo 8 rfl (F8 6 Or (.tail _ (.head _)) (by omega) rfl rfl rfl rfl rfl rfl rfl rfl rfl (fun v2 m2 hO8=>Qw ?_))));exact fin _ _ _ (by kernel_rfl) ⟨_,_,_,_,_,rfl,(.head _),hO8,Qs⟩
        exact A4
       exact A4
      refine Ay rfl ?_ ?_
      ·refine Ql rfl B7 (Cell.blk 0 (k:=4) rfl rfl) (Qw (A5 [7,14] (by kernel_rfl) rfl ?_));refine Ay rfl ?_ ?_
       ·refine Fi rfl rfl rfl rfl rfl rfl (fun g109=>Qw (A5 [8,14] (by kernel_rfl) rfl ?_));refine Ay rfl ?_ ?_
        ·refine F8 5 Or (.head _) (by omega) rfl rfl rfl rfl rfl rfl rfl rfl rfl (fun v2 m2 hO8=>Qw (Qo 14 rfl (Fi rfl rfl rfl rfl rfl rfl (fun g116=>Qw ?_))));exact fin _ _ _ (by kernel_rfl) ⟨_,_,_,_,_,rfl,(.head _),hO8,Qs⟩
        refine Ay rfl ?_ ?_
        ·refine Fi rfl rfl rfl rfl rfl rfl (fun g116=>Qw (Qo 8 rfl (F8 6 Or (.tail _ (.head _)) (by omega) rfl rfl rfl rfl rfl rfl rfl rfl rfl (fun v2 m2 hO8=>Qw ?_))));exact fin _ _ _ (by kernel_rfl) ⟨_,_,_,_,_,rfl,(.head _),hO8,Qs⟩
        exact A4
       refine Ay rfl ?_ ?_
       ·refine Fi rfl rfl rfl rfl rfl rfl (fun g116=>Qw (Qo 7 rfl (Fi rfl rfl rfl rfl rfl rfl (fun g109=>Qw (Qo 8 rfl (F8 6 Or (.head _) (by omega) rfl rfl rfl rfl rfl rfl rfl rfl rfl (fun v2 m2 hO8=>Qw ?_)))))));exact fin _ _ _ (by kernel_rfl) ⟨_,_,_,_,_,rfl,(.tail _ (.head _)),hO8,Qs⟩
       exact A4
      refine Ay rfl ?_ ?_
      ·refine Fi rfl rfl rfl rfl rfl rfl (fun g116=>Qw (A5 [7,12] (by kernel_rfl) rfl ?_));refine Ay rfl ?_ ?_
       ·refine Fi rfl rfl rfl rfl rfl rfl (fun g109=>Qw (A5 [8,12] (by kernel_rfl) rfl ?_));refine Ay rfl ?_ ?_
        ·refine F8 6 Or (.head _) (by omega) rfl rfl rfl rfl rfl rfl rfl rfl rfl (fun v2 m2 hO8=>Qw (Qo 12 rfl (Ql rfl B7 (Cell.blk 2 (k:=4) rfl rfl) (Qw ?_))));exact fin _ _ _ (by kernel_rfl) ⟨_,_,_,_,_,rfl,(.tail _ (.head _)),hO8,Qs⟩
        refine Ay rfl ?_ ?_
        ·refine Ql rfl B7 (Cell.blk 2 (k:=4) rfl rfl) (Qw (Qo 8 rfl (F8 6 Or (.head _) (by omega) rfl rfl rfl rfl rfl rfl rfl rfl rfl (fun v2 m2 hO8=>Qw ?_))));exact fin _ _ _ (by kernel_rfl) ⟨_,_,_,_,_,rfl,(.tail _ (.head _)),hO8,Qs⟩
        exact A4
       refine Ay rfl ?_ ?_
       ·refine Ql rfl B7 (Cell.blk 1 (k:=4) rfl rfl) (Qw (Qo 7 rfl (Fi rfl rfl rfl rfl rfl rfl (fun g109=>Qw (Qo 8 rfl (F8 6 Or (.head _) (by omega) rfl rfl rfl rfl rfl rfl rfl rfl rfl (fun v2 m2 hO8=>Qw ?_)))))));exact fin _ _ _ (by kernel_rfl) ⟨_,_,_,_,_,rfl,(.tail _ (.head _)),hO8,Qs⟩
       exact A4
      exact A4
     refine Ay rfl ?_ ?_
     ·refine Fi rfl rfl rfl rfl rfl rfl (fun g109=>Qw (A5 [5,12,14] (by kernel_rfl) rfl ?_));refine Ay rfl ?_ ?_
      ·refine Ql rfl B7 (Cell.blk 1 (k:=3) rfl rfl) (Qw (A5 [8,12,14] (by kernel_rfl) rfl ?_));refine Ay rfl ?_ ?_
       ·refine F8 5 Or (.head _) (by omega) rfl rfl rfl rfl rfl rfl rfl rfl rfl (fun v2 m2 hO8=>Qw (A5 [12,14] (by kernel_rfl) rfl ?_));refine Ay rfl ?_ ?_
        ·refine Ql rfl B7 (Cell.blk 1 (k:=4) rfl rfl) (Qw (Qo 14 rfl (Fi rfl rfl rfl rfl rfl rfl (fun g116=>Qw ?_))));exact fin _ _ _ (by kernel_rfl) ⟨_,_,_,_,_,rfl,(.head _),hO8,Qs⟩
        refine Ay rfl ?_ ?_
        ·refine Fi rfl rfl rfl rfl rfl rfl (fun g116=>Qw (Qo 12 rfl (Ql rfl B7 (Cell.blk 2 (k:=4) rfl rfl) (Qw ?_))));exact fin _ _ _ (by kernel_rfl) ⟨_,_,_,_,_,rfl,(.head _),hO8,Qs⟩
        exact A4
       refine Ay rfl ?_ ?_
       ·refine Ql rfl B7 (Cell.blk 1 (k:=4) rfl rfl) (Qw (A5 [8,14] (by kernel_rfl) rfl ?_));refine Ay rfl ?_ ?_
        ·refine F8 5 Or (.head _) (by omega) rfl rfl rfl rfl rfl rfl rfl rfl rfl (fun v2 m2 hO8=>Qw (Qo 14 rfl (Fi rfl rfl rfl rfl rfl rfl (fun g116=>Qw ?_))));exact fin _ _ _ (by kernel_rfl) ⟨_,_,_,_,_,rfl,(.head _),hO8,Qs⟩
        refine Ay rfl ?_ ?_
        ·refine Fi rfl rfl rfl rfl rfl rfl (fun g116=>Qw (Qo 8 rfl (F8 6 Or (.tail _ (.head _)) (by omega) rfl rfl rfl rfl rfl rfl rfl rfl rfl (fun v2 m2 hO8=>Qw ?_))));exact fin _ _ _ (by kernel_rfl) ⟨_,_,_,_,_,rfl,(.head _),hO8,Qs⟩
        exact A4
       refine Ay rfl ?_ ?_
       ·refine Fi rfl rfl rfl rfl rfl rfl (fun g116=>Qw (A5 [8,12] (by kernel_rfl) rfl ?_));refine Ay rfl ?_ ?_
        ·refine F8 6 Or (.tail _ (.head _)) (by omega) rfl rfl rfl rfl rfl rfl rfl rfl rfl (fun v2 m2 hO8=>Qw (Qo 12 rfl (Ql rfl B7 (Cell.blk 2 (k:=4) rfl rfl) (Qw ?_))));exact fin _ _ _ (by kernel_rfl) ⟨_,_,_,_,_,rfl,(.head _),hO8,Qs⟩
        refine Ay rfl ?_ ?_
        ·refine Ql rfl B7 (Cell.blk 2 (k:=4) rfl rfl) (Qw (Qo 8 rfl (F8 6 Or (.tail _ (.head _)) (by omega) rfl rfl rfl rfl rfl rfl rfl rfl rfl (fun v2 m2 hO8=>Qw ?_))));exact fin _ _ _ (by kernel_rfl) ⟨_,_,_,_,_,rfl,(.head _),hO8,Qs⟩
        exact A4
       exact A4
      refine Ay rfl ?_ ?_
      ·refine Ql rfl B7 (Cell.blk 1 (k:=4) rfl rfl) (Qw (A5 [5,14] (by kernel_rfl) rfl ?_));refine Ay rfl ?_ ?_
       ·refine Ql rfl B7 (Cell.blk 1 (k:=3) rfl rfl) (Qw (A5 [8,14] (by kernel_rfl) rfl ?_));refine Ay rfl ?_ ?_
        ·refine F8 5 Or (.head _) (by omega) rfl rfl rfl rfl rfl rfl rfl rfl rfl (fun v2 m2 hO8=>Qw (Qo 14 rfl (Fi rfl rfl rfl rfl rfl rfl (fun g116=>Qw ?_))));exact fin _ _ _ (by kernel_rfl) ⟨_,_,_,_,_,rfl,(.head _),hO8,Qs⟩
        refine Ay rfl ?_ ?_
        ·refine Fi rfl rfl rfl rfl rfl rfl (fun g116=>Qw (Qo 8 rfl (F8 6 Or (.tail _ (.head _)) (by omega) rfl rfl rfl rfl rfl rfl rfl rfl rfl (fun v2 m2 hO8=>Qw ?_))));exact fin _ _ _ (by kernel_rfl) ⟨_,_,_,_,_,rfl,(.head _),hO8,Qs⟩
        exact A4
       refine Ay rfl ?_ ?_
       ·refine Fi rfl rfl rfl rfl rfl rfl (fun g116=>Qw (Qo 5 rfl (Ql rfl B7 (Cell.blk 2 (k:=3) rfl rfl) (Qw (Qo 8 rfl (F8 6 Or (.tail _ (.head _)) (by omega) rfl rfl rfl rfl rfl rfl rfl rfl rfl (fun v2 m2 hO8=>Qw ?_)))))));exact fin _ _ _ (by kernel_rfl) ⟨_,_,_,_,_,rfl,(.head _),hO8,Qs⟩
       exact A4
      refine Ay rfl ?_ ?_
      ·refine Fi rfl rfl rfl rfl rfl rfl (fun g116=>Qw (A5 [5,12] (by kernel_rfl) rfl ?_));refine Ay rfl ?_ ?_
       ·refine Ql rfl B7 (Cell.blk 2 (k:=3) rfl rfl) (Qw (A5 [8,12] (by kernel_rfl) rfl ?_));refine Ay rfl ?_ ?_
        ·refine F8 6 Or (.tail _ (.head _)) (by omega) rfl rfl rfl rfl rfl rfl rfl rfl rfl (fun v2 m2 hO8=>Qw (Qo 12 rfl (Ql rfl B7 (Cell.blk 2 (k:=4) rfl rfl) (Qw ?_))));exact fin _ _ _ (by kernel_rfl) ⟨_,_,_,_,_,rfl,(.head _),hO8,Qs⟩
        refine Ay rfl ?_ ?_
        ·refine Ql rfl B7 (Cell.blk 2 (k:=4) rfl rfl) (Qw (Qo 8 rfl (F8 6 Or (.tail _ (.head _)) (by omega) rfl rfl rfl rfl rfl rfl rfl rfl rfl (fun v2 m2 hO8=>Qw ?_))));exact fin _ _ _ (by kernel_rfl) ⟨_,_,_,_,_,rfl,(.head _),hO8,Qs⟩
        exact A4
       refine Ay rfl ?_ ?_
       ·refine Ql rfl B7 (Cell.blk 2 (k:=4) rfl rfl) (Qw (Qo 5 rfl (Ql rfl B7 (Cell.blk 2 (k:=3) rfl rfl) (Qw (Qo 8 rfl (F8 6 Or (.tail _ (.head _)) (by omega) rfl rfl rfl rfl rfl rfl rfl rfl rfl (fun v2 m2 hO8=>Qw ?_)))))));exact fin _ _ _ (by kernel_rfl) ⟨_,_,_,_,_,rfl,(.head _),hO8,Qs⟩
       exact A4
      exact A4
     refine Ay rfl ?_ ?_
     ·refine Ql rfl B7 (Cell.blk 0 (k:=4) rfl rfl) (Qw (A5 [5,7,14] (by kernel_rfl) rfl ?_));refine Ay rfl ?_ ?_
      ·refine Ql rfl B7 (Cell.blk 0 (k:=3) rfl rfl) (Qw (A5 [7,14] (by kernel_rfl) rfl ?_));refine Ay rfl ?_ ?_
       ·refine Fi rfl rfl rfl rfl rfl rfl (fun g109=>Qw (A5 [8,14] (by kernel_rfl) rfl ?_));refine Ay rfl ?_ ?_
        ·refine F8 5 Or (.head _) (by omega) rfl rfl rfl rfl rfl rfl rfl rfl rfl (fun v2 m2 hO8=>Qw (Qo 14 rfl (Fi rfl rfl rfl rfl rfl rfl (fun g116=>Qw ?_))));exact fin _ _ _ (by kernel_rfl) ⟨_,_,_,_,_,rfl,(.head _),hO8,Qs⟩
        refine Ay rfl ?_ ?_
        ·refine Fi rfl rfl rfl rfl rfl rfl (fun g116=>Qw (Qo 8 rfl (F8 6 Or (.tail _ (.head _)) (by omega) rfl rfl rfl rfl rfl rfl rfl rfl rfl (fun v2 m2 hO8=>Qw ?_))));exact fin _ _ _ (by kernel_rfl) ⟨_,_,_,_,_,rfl,(.head _),hO8,Qs⟩
        exact A4
       refine Ay rfl ?_ ?_
       ·refine Fi rfl rfl rfl rfl rfl rfl (fun g116=>Qw (Qo 7 rfl (Fi rfl rfl rfl rfl rfl rfl (fun g109=>Qw (Qo 8 rfl (F8 6 Or (.head _) (by omega) rfl rfl rfl rfl rfl rfl rfl rfl rfl (fun v2 m2 hO8=>Qw ?_)))))));exact fin _ _ _ (by kernel_rfl) ⟨_,_,_,_,_,rfl,(.tail _ (.head _)),hO8,Qs⟩
       exact A4
      refine Ay rfl ?_ ?_
      ·refine Fi rfl rfl rfl rfl rfl rfl (fun g109=>Qw (A5 [5,14] (by kernel_rfl) rfl ?_));refine Ay rfl ?_ ?_
       ·refine Ql rfl B7 (Cell.blk 1 (k:=3) rfl rfl) (Qw (A5 [8,14] (by kernel_rfl) rfl ?_));refine Ay rfl ?_ ?_
        ·refine F8 5 Or (.head _) (by omega) rfl rfl rfl rfl rfl rfl rfl rfl rfl (fun v2 m2 hO8=>Qw (Qo 14 rfl (Fi rfl rfl rfl rfl rfl rfl (fun g116=>Qw ?_))));exact fin _ _ _ (by kernel_rfl) ⟨_,_,_,_,_,rfl,(.head _),hO8,Qs⟩
        refine Ay rfl ?_ ?_
        ·refine Fi rfl rfl rfl rfl rfl rfl (fun g116=>Qw (Qo 8 rfl (F8 6 Or (.tail _ (.head _)) (by omega) rfl rfl rfl rfl rfl rfl rfl rfl rfl (fun v2 m2 hO8=>Qw ?_))));exact fin _ _ _ (by kernel_rfl) ⟨_,_,_,_,_,rfl,(.head _),hO8,Qs⟩
        exact A4
       refine Ay rfl ?_ ?_
       ·refine Fi rfl rfl rfl rfl rfl rfl (fun g116=>Qw (Qo 5 rfl (Ql rfl B7 (Cell.blk 2 (k:=3) rfl rfl) (Qw (Qo 8 rfl (F8 6 Or (.tail _ (.head _)) (by omega) rfl rfl rfl rfl rfl rfl rfl rfl rfl (fun v2 m2 hO8=>Qw ?_)))))));exact fin _ _ _ (by kernel_rfl) ⟨_,_,_,_,_,rfl,(.head _),hO8,Qs⟩
       exact A4
      refine Ay rfl ?_ ?_
      ·refine Fi rfl rfl rfl rfl rfl rfl (fun g116=>Qw (A5 [5,7] (by kernel_rfl) rfl ?_));refine Ay rfl ?_ ?_
       ·refine Ql rfl B7 (Cell.blk 1 (k:=3) rfl rfl) (Qw (Qo 7 rfl (Fi rfl rfl rfl rfl rfl rfl (fun g109=>Qw (Qo 8 rfl (F8 6 Or (.head _) (by omega) rfl rfl rfl rfl rfl rfl rfl rfl rfl (fun v2 m2 hO8=>Qw ?_)))))));exact fin _ _ _ (by kernel_rfl) ⟨_,_,_,_,_,rfl,(.tail _ (.head _)),hO8,Qs⟩
       refine Ay rfl ?_ ?_
       ·refine Fi rfl rfl rfl rfl rfl rfl (fun g109=>Qw (Qo 5 rfl (Ql rfl B7 (Cell.blk 2 (k:=3) rfl rfl) (Qw (Qo 8 rfl (F8 6 Or (.head _) (by omega) rfl rfl rfl rfl rfl rfl rfl rfl rfl (fun v2 m2 hO8=>Qw ?_)))))));exact fin _ _ _ (by kernel_rfl) ⟨_,_,_,_,_,rfl,(.tail _ (.head _)),hO8,Qs⟩
       exact A4
      exact A4
     refine Ay rfl ?_ ?_
     ·refine Fi rfl rfl rfl rfl rfl rfl (fun g116=>Qw (A5 [5,7,12] (by kernel_rfl) rfl ?_));refine Ay rfl ?_ ?_
      ·refine Ql rfl B7 (Cell.blk 1 (k:=3) rfl rfl) (Qw (A5 [7,12] (by kernel_rfl) rfl ?_));refine Ay rfl ?_ ?_
       ·refine Fi rfl rfl rfl rfl rfl rfl (fun g109=>Qw (A5 [8,12] (by kernel_rfl) rfl ?_));refine Ay rfl ?_ ?_
        ·refine F8 6 Or (.head _) (by omega) rfl rfl rfl rfl rfl rfl rfl rfl rfl (fun v2 m2 hO8=>Qw (Qo 12 rfl (Ql rfl B7 (Cell.blk 2 (k:=4) rfl rfl) (Qw ?_))));exact fin _ _ _ (by kernel_rfl) ⟨_,_,_,_,_,rfl,(.tail _ (.head _)),hO8,Qs⟩
        refine Ay rfl ?_ ?_
        ·refine Ql rfl B7 (Cell.blk 2 (k:=4) rfl rfl) (Qw (Qo 8 rfl (F8 6 Or (.head _) (by omega) rfl rfl rfl rfl rfl rfl rfl rfl rfl (fun v2 m2 hO8=>Qw ?_))));exact fin _ _ _ (by kernel_rfl) ⟨_,_,_,_,_,rfl,(.tail _ (.head _)),hO8,Qs⟩
        exact A4
       refine Ay rfl ?_ ?_
       ·refine Ql rfl B7 (Cell.blk 1 (k:=4) rfl rfl) (Qw (Qo 7 rfl (Fi rfl rfl rfl rfl rfl rfl (fun g109=>Qw (Qo 8 rfl (F8 6 Or (.head _) (by omega) rfl rfl rfl rfl rfl rfl rfl rfl rfl (fun v2 m2 hO8=>Qw ?_)))))));exact fin _ _ _ (by kernel_rfl) ⟨_,_,_,_,_,rfl,(.tail _ (.head _)),hO8,Qs⟩
       exact A4
      refine Ay rfl ?_ ?_
      ·refine Fi rfl rfl rfl rfl rfl rfl (fun g109=>Qw (A5 [5,12] (by kernel_rfl) rfl ?_));refine Ay rfl ?_ ?_
       ·refine Ql rfl B7 (Cell.blk 2 (k:=3) rfl rfl) (Qw (A5 [8,12] (by kernel_rfl) rfl ?_));refine Ay rfl ?_ ?_
        ·refine F8 6 Or (.head _) (by omega) rfl rfl rfl rfl rfl rfl rfl rfl rfl (fun v2 m2 hO8=>Qw (Qo 12 rfl (Ql rfl B7 (Cell.blk 2 (k:=4) rfl rfl) (Qw ?_))));exact fin _ _ _ (by kernel_rfl) ⟨_,_,_,_,_,rfl,(.tail _ (.head _)),hO8,Qs⟩
        refine Ay rfl ?_ ?_
        ·refine Ql rfl B7 (Cell.blk 2 (k:=4) rfl rfl) (Qw (Qo 8 rfl (F8 6 Or (.head _) (by omega) rfl rfl rfl rfl rfl rfl rfl rfl rfl (fun v2 m2 hO8=>Qw ?_))));exact fin _ _ _ (by kernel_rfl) ⟨_,_,_,_,_,rfl,(.tail _ (.head _)),hO8,Qs⟩
        exact A4
       refine Ay rfl ?_ ?_
       ·refine Ql rfl B7 (Cell.blk 2 (k:=4) rfl rfl) (Qw (Qo 5 rfl (Ql rfl B7 (Cell.blk 2 (k:=3) rfl rfl) (Qw (Qo 8 rfl (F8 6 Or (.head _) (by omega) rfl rfl rfl rfl rfl rfl rfl rfl rfl (fun v2 m2 hO8=>Qw ?_)))))));exact fin _ _ _ (by kernel_rfl) ⟨_,_,_,_,_,rfl,(.tail _ (.head _)),hO8,Qs⟩
       exact A4
      refine Ay rfl ?_ ?_
      ·refine Ql rfl B7 (Cell.blk 1 (k:=4) rfl rfl) (Qw (A5 [5,7] (by kernel_rfl) rfl ?_));refine Ay rfl ?_ ?_
       ·refine Ql rfl B7 (Cell.blk 1 (k:=3) rfl rfl) (Qw (Qo 7 rfl (Fi rfl rfl rfl rfl rfl rfl (fun g109=>Qw (Qo 8 rfl (F8 6 Or (.head _) (by omega) rfl rfl rfl rfl rfl rfl rfl rfl rfl (fun v2 m2 hO8=>Qw ?_)))))));exact fin _ _ _ (by kernel_rfl) ⟨_,_,_,_,_,rfl,(.tail _ (.head _)),hO8,Qs⟩
       refine Ay rfl ?_ ?_
       ·refine Fi rfl rfl rfl rfl rfl rfl (fun g109=>Qw (Qo 5 rfl (Ql rfl B7 (Cell.blk 2 (k:=3) rfl rfl) (Qw (Qo 8 rfl (F8 6 Or (.head _) (by omega) rfl rfl rfl rfl rfl rfl rfl rfl rfl (fun v2 m2 hO8=>Qw ?_)))))));exact fin _ _ _ (by kernel_rfl) ⟨_,_,_,_,_,rfl,(.tail _ (.head _)),hO8,Qs⟩
       exact A4
      exact A4
     exact A4
  ·obtain⟨vr',vv',va,vb,mr',mv',mc,mo,mP',bs',rfl,l10,rfl,hO',Or',Ov',hOc,hOu⟩:=hI;refine Ad (Qx (oA rfl) rfl (Qm rfl (Aj (DG fun hap=>?_))));simp only[List.pairwise_cons,mem_cons,not_mem_nil,or_false,forall_eq_or_imp,forall_eq]at hap;have d1:mR.disj mc:=Hp.disj_symm hap.2.2.1.2.2.2.1;have d2:mV.disj mo:=Hp.disj_symm hap.2.2.2.1.2.2.2;have CR':=CR.snoc hOc d1;have CV':=CV.snoc hOu d2;rw[<-Gj]at CR' CV';refine Ck 3 rfl (Ck 7 rfl (Ej (Ck 3 rfl (Ck 6 rfl (Ej (Ck 2 rfl (Ck 3 rfl (Ck 3 rfl (Ck 3 rfl (Ck 5 rfl (Ck 5 rfl ?_)))))))))));exact Ak (S.length-(j+1)) _ (by omega) ⟨j+1,vr',vv',mr',mv',_,_,mP',_,_,bs',rfl,rfl,AI l9 l10,rfl,by omega,hO',Or',Ov',CR',CV',by rw[length_append,hRl];rfl,by rw[length_append,hVl];rfl⟩ Qs
 ·obtain rfl:j=S.length:=by omega
  refine As (Aa (Aa (Ae (Ab (Au (Ql rfl S6 (e10 _) (Qm rfl (Qm rfl (Al (Ao (JW Or fun h10 l10 hRr=>(JW Ov fun h11 l11 hRv=>(Ck 2 rfl (AL (Ck 2 rfl ?_)))))))))))))));have l911:=AI l9 (AI l10 l11);exact BP rfl rfl rfl (⟨AI l1 (AI l2 (AI l3 (AI l38 l911))),g34,gL,mL,bL,S,vA,vr,vv,Rs,Vs,mR,mV,rfl,rfl,hOL,AI lL8 l911,hQ.up (AI l10 l11),hRr.up l11,hRv,CR,CV,hSc,hsrt,fun a ha=>(hSA a ha).up l911⟩)
end Go.Proofs.Q
namespace Go.Proofs.Q
open Go.Proofs.Tryz
open Go.Eng Go.RowKit Go.Lin Go.Sort Go.Srt
variable {j n:Nat} {p:Int} {R V:Nat->List Int} {r v:List Int} {α:Type}
theorem Ops.congr{R' V':Nat->List Int}{r1 v1:List Int}(h:Ops p n j R V r v r1 v1)(hR:∀k,k<j->R k=R' k)(hV:∀k,k<j->V k=V' k):Ops p n j R' V' r v r1 v1:=by
 induction h with
 | refl=>exact .refl
 | step h hk hi h0 h1 h2 h3 ih=>
  rw[hR _ hk]at h3 ⊢;rw[hV _ hk];exact ih.step hk hi h0 h1 h2 h3
def upd(R:Nat->α)(j:Nat)(r:α)(k:Nat):α:=if k=j then r else R k
theorem Fm(R:Nat->α)(j:Nat)(r:α):upd R j r j=r:=if_pos rfl
theorem Ey(R:Nat->α){k:Nat}(r:α)(h:k≠j):upd R j r k=R k:=if_neg h
theorem Red.next{la la':List Int}(D:Red p n j R V la)(hn:n<=400)(lr:r.length=n)(lv:v.length=n)(rr:Kg p r)(rv:Kg p v)(hL:LaS j r la la'):Red p n (j+1) (upd R j r) (upd V j v) la':=by
 have hb:=Gw r;have hlt:∀{k},k<j+1->k≠j->k<j:=fun h1 h2=>by omega
 refine⟨fun k hk=>?_,fun k hk=>?_,fun k hk=>?_,fun k hk=>?_,?_,fun i hi=>?_,fun k hk h0=>?_⟩
 ·by_cases e:k=j
  ·rw[e,Fm];exact lr
  ·rw[Ey _ _ e];exact D.rl k (hlt hk e)
 ·by_cases e:k=j
  ·rw[e,Fm];exact lv
  ·rw[Ey _ _ e];exact D.vl k (hlt hk e)
 ·by_cases e:k=j
  ·rw[e,Fm];exact rr
  ·rw[Ey _ _ e];exact D.rr k (hlt hk e)
 ·by_cases e:k=j
  ·rw[e,Fm];exact rv
  ·rw[Ey _ _ e];exact D.vr k (hlt hk e)
 ·rcases hL with ⟨_,rfl⟩|⟨_,_,rfl⟩
  ·exact D.ll
  ·rw[length_set];exact D.ll
 ·have hold:la.getD i 0=0\/∃k,k<j+1/\la.getD i 0=(k:Int)+1/\A3 (upd R j r k)=i:=by
   rcases D.a0 i hi with h|⟨k,hk,h1,h2⟩
   ·exact .inl h
   ·exact .inr ⟨k,by omega,h1,by rw[Ey _ _ (by omega)];exact h2⟩
  rcases hL with ⟨_,rfl⟩|⟨h1,h2,rfl⟩
  ·exact hold
  ·by_cases e:(A3 r).toNat=i
   ·refine .inr ⟨j,by omega,?_,by rw[Fm];omega⟩;simp[List.getD,e,D.ll,hi]
   ·rw[show(la.set (A3 r).toNat ((j:Int)+1)).getD i 0=la.getD i 0 by simp[List.getD,List.getElem?_set_ne e]];exact hold
 ·by_cases e:k=j
  ·rw[e,Fm]at h0 ⊢;rcases hL with ⟨h1,_⟩|⟨h1,h2,rfl⟩
   ·omega
   ·have:(A3 r).toNat<la.length:=by rw[D.ll];omega
    simp[List.getD,this]
  ·rw[Ey _ _ e]at h0 ⊢;have h3:=D.a1 k (hlt hk e) h0;rcases hL with ⟨_,rfl⟩|⟨h1,h2,rfl⟩
   ·exact h3
   ·have hne:(A3 r).toNat≠(A3 (R k)).toNat:=fun e=>by rw[e,h3]at h2;omega
    rw[show(la.set (A3 r).toNat ((j:Int)+1)).getD (A3 (R k)).toNat 0=la.getD (A3 (R k)).toNat 0 by simp[List.getD,List.getElem?_set_ne hne]];exact h3
theorem ColsO.head{vs:List Value}{cs:List (List Int)}{m:Hp}(h:ColsO m (vs.drop j) (cs.drop j))(hj:j<vs.length)(hc:j<cs.length):∃a b,m=a.join b/\a.disj b/\OwnL cI 1 3 a (vs.getD j undef) cs[j]/\ColsO b (vs.drop (j+1)) (cs.drop (j+1)):=by rw[List.drop_eq_getElem_cons hj,List.drop_eq_getElem_cons hc]at h;obtain⟨a,b,h1,h2,h3,h4⟩:=h;exact⟨a,b,h1,h2,by rw[show vs.getD j undef=vs[j] by simp[List.getD,hj]];exact h3,h4⟩
def ZT(g:Nat):Value:=.func (.func 121) #[.pointer (some ⟨g,0,none⟩)] #[]
structure AllC(p:Int)(S:List Ce)(n j:Nat)(R V:Nat->List Int)(la:List Int):Prop where
 red:Red p n j R V la
 ops:∀k,k<j->Ops p n k R V (Js p S k) (EX n k) (R k) (V k)
theorem AllC.next{S:List Ce}{la la':List Int}(D:AllC p S n j R V la)(hn:n<=400)(lr:r.length=n)(lv:v.length=n)(rr:Kg p r)(rv:Kg p v)(hL:LaS j r la la')(hO:Ops p n j R V (Js p S j) (EX n j) r v):AllC p S n (j+1) (upd R j r) (upd V j v) la':=by
 refine⟨D.red.next hn lr lv rr rv hL,fun k hk=>?_⟩;have e1:∀i,i<j->R i=upd R j r i:=fun i hi=>(Ey _ _ (by omega)).symm;have e2:∀i,i<j->V i=upd V j v i:=fun i hi=>(Ey _ _ (by omega)).symm;by_cases e:k=j
 ·subst e;rw[Fm,Fm];exact hO.congr e1 e2
 ·have hk':k<j:=by omega
  rw[Ey _ _ e,Ey _ _ e];exact(D.ops k hk').congr (fun i hi=>e1 i (by omega)) (fun i hi=>e2 i (by omega))
theorem VE(p:Int)(S:List Ce)(n:Nat):AllC p S n 0 (fun _=>[]) (fun _=>[]) (replicate 400 0):=by
 refine⟨⟨fun k hk=>(by omega),fun k hk=>(by omega),fun k hk=>(by omega),fun k hk=>(by omega),by simp,fun i hi=>.inl ?_,fun k hk=>(by omega)⟩,fun k hk=>(by omega)⟩;have:∀m,i<m->(replicate m (0:Int)).getD i 0=0:=fun m h=>by simp[List.getD,h]
 exact this 400 hi
theorem X5(p:Int)(S:List Ce)(g gA:Nat)(vc vr vv:Value)(Rs Vs:List Value)(mR mV h:Hp)(hp:IsP p)(hn:S.length<=400)(oc:vc.oneCell'=true)
  (hRs:RdL cU 1 h [] vr Rs) (hVs:RdL cU 1 h [] vv Vs) (CR:ColsO mR Rs ((range S.length).map (Js p S))) (CV:ColsO mV Vs ((range S.length).map (EX S.length))) :
  FnT Tryz.prog 120 #[.int .i64 S.length,ZT g] h [Bi g 130 (ES p vc gA vr vv (replicate 400 0)),mR,mV] (fun _ h' ms'=>h.le h'/\∃R V la,ms'=[Bi g 130 (ES p vc gA vr vv la)]/\AllC p S S.length S.length R V la/\(∀k,k<S.length->RdL cI 1 h' [] (Rs.getD k undef) (R k))/\∀k,k<S.length->RdL cI 1 h' [] (Vs.getD k undef) (V k)):=by
 have hp1:=hp.1;have lR:Rs.length=S.length:=by have:=CR.len;simpa using this
 have lV:Vs.length=S.length:=by have:=CV.len;simpa using this
 obtain⟨n,hSn⟩:∃n,S.length=n:=⟨_,rfl⟩
 rw[hSn]at hn CR CV lR lV ⊢;refine Ap func120 ntmps120 rfl rfl (fun w0 hw0=>?_);simp only[AU];refine Au (Qm rfl (Qm rfl (Al (Af ?_))))
 refine Ax (fun q sl h' ms'=>∃(j:Nat) (R V:Nat->List Int) (la:List Int) (mR mV:Hp),q=n-j/\sl=[(1,ZT g),(5,.int .i64 n),(6,.int .i64 j)]/\h.le h'/\ms'=[Bi g 130 (ES p vc gA vr vv la),mR,mV]/\j<=n/\ColsO mR (Rs.drop j) (((range n).map (Js p S)).drop j)/\ColsO mV (Vs.drop j) (((range n).map (EX n)).drop j)/\AllC p S n j R V la/\(∀k,k<j->RdL cI 1 h' [] (Rs.getD k undef) (R k))/\∀k,k<j->RdL cI 1 h' [] (Vs.getD k undef) (V k))
  (n-0) _ ⟨0,_,_,_,mR,mV,rfl,rfl,DU,rfl,by omega,CR,CV,VE p S n,fun k hk=>by omega,fun k hk=>by omega⟩ Qs ?_
 rintro q sl h' ms' ⟨j,R,V,la,mR,mV,rfl,rfl,l1,rfl,hj,CR,CV,A,hR,hV⟩;have hRs:=hRs.up l1;have hVs:=hVs.up l1;refine Au (Qm rfl (Al (Ac ?_)));refine Av rfl (fun hlt=>?_) (fun hlt=>?_)
 ·have hjn:j<n:=by omega
  obtain⟨a,b,rfl,dab,Oa,CR'⟩:=CR.head (by omega) (by simpa using hjn);obtain⟨c,d,rfl,dcd,Oc,CV'⟩:=CV.head (by omega) (by simpa using hjn);rw[List.getElem_map,List.getElem_range]at Oa Oc;refine DN 1 rfl (G5 dab (DN 3 rfl (G5 dcd (DN 2 rfl (DN 4 rfl (Ag (Ab (Ac (Af (Au (Qm rfl (Qm rfl (Gn (Qm rfl (Qm rfl ?_)))))))))))))));refine GX (pre:=[Bi g 130 (ES p vc gA vr vv la),a,c]) rfl rfl call121 rfl (RA p n j g gA vc vr vv Rs Vs R V la _ _ a c h' hp hn hjn hRs hVs lR lV hR hV A.red oc Oa Oc (by rw[show(Js p S j).length=S.length from Fv _ _ _ _];exact hSn) (LV n j) (NW (by omega) S j _) (SA hp1 n j)) rfl rfl rfl rfl (fun v' h2 pre' l2 hF=>?_);obtain⟨l2',r',v2,la',a',c',rfl,Oa',Oc',hO,lr,lv,rr,rv,hL⟩:=hF;simp only[cons_append,nil_append,append_nil];refine MK 1 rfl (Bw Oa' fun h3 l3 hr'=>(MK 1 rfl (Bw Oc' fun h4 l4 hv'=>?_)));have l24:=AI l3 l4;have l14:=AI l2 l24;have A':=A.next hn lr lv rr rv hL hO
  have hR':∀k,k<j+1->RdL cI 1 h4 [] (Rs.getD k undef) (upd R j r' k):=fun k hk=>by
   by_cases e:k=j
   ·rw[e,Fm];exact hr'.up l4
   ·rw[Ey _ _ e];exact(hR k (by omega)).up l14
  have hV':∀k,k<j+1->RdL cI 1 h4 [] (Vs.getD k undef) (upd V j v2 k):=fun k hk=>by
   by_cases e:k=j
   ·rw[e,Fm];exact hv'
   ·rw[Ey _ _ e];exact(hV k (by omega)).up l14
  refine Aj (Ai (Ab (Ad (Qx (oA rfl) rfl (Qm rfl (Aj (Ck 2 rfl (Ck 1 rfl ?_))))))));exact Ak (n-(j+1)) _ (by omega) ⟨j+1,_,_,la',b,d,rfl,rfl,AI l1 l14,rfl,by omega,CR',CV',A',hR',hV'⟩ Qs
 ·obtain rfl:j=n:=by omega
  refine As (Aa (Aa (Ae (Ck 1 rfl (AL (Ck 1 rfl (AL ?_)))))));exact BO rfl (⟨l1,R,V,la,rfl,A,hR,hV⟩)
end Go.Proofs.Q
namespace Go.Proofs.Q
open Go.Proofs.Tryz
open Go.Eng Go.RowKit Go.Lin Go.Sort Go.Srt
structure RedM(p:Int)(F:List (Int×Int))(l S:List Ce)(R V:Nat->List Int)(gm:Nat)(h:Hp):Prop where
 ex:∃(gA:Nat) (mA:Hp) (bs:List Nat) (vc vr vv:Value) (Rs Vs:List Value) (la:List Int),Seg h [] ⟨gm,0,none⟩ (ES p vc gA vr vv la)/\Cn kN kN gA BC mA (Bj F) bs/\mA.le h/\RdL cC 3 h [] vc S/\RdL cU 1 h [] vr Rs/\RdL cU 1 h [] vv Vs/\Rs.length=S.length/\Vs.length=S.length/\(∀k,k<S.length->RdL cI 1 h [] (Rs.getD k undef) (R k))/\(∀k,k<S.length->RdL cI 1 h [] (Vs.getD k undef) (V k))/\AllC p S S.length S.length R V la
 perm:(S.map Ce.c).Perm (cn l)
 srt:MW (CJ (Bj F)) S
 sds:∀a∈S,RdL cD 2 h [] a.v a.c.sd
theorem Ry(l:List Ce)(F:List (Int×Int))(v vf:Value)(p:Int)(hp:Hp)(hK:RgC l)(hR:RdC hp v l)(hF:RdL cV 2 hp [] vf F)(hV:NM F)(h0:F9 (cn l) F=(0,0))(hP:IsP p)(hl:l.length<=400):FnT Tryz.prog 51 #[.agg #[v],vf,.int .i64 p] hp [] (fun r h' ms'=>hp.le h'/\∃(gm:Nat) (S:List Ce) (R V:Nat->List Int) (vl:Value) (ml:Hp),r=.tuple #[.pointer (some ⟨gm,0,none⟩),vl,.int .i64 0]/\ms'=[ml]/\OwnL cI 1 3 ml vl ((range S.length).map fun k=>A3 (R k))/\RedM p F l S R V gm h'):=by
 have o1:=hR.q.rd.one;have o2:=hF.rd.one;refine Ap func51 ntmps51 rfl rfl (fun w0 hw0=>?_);simp only[AU];refine Au (AX [_] rfl rfl (by rfl) rfl rfl rfl (fun g3=>Qm rfl (Qm rfl (Qm rfl (Al (AD fun h1 l1 hS=>?_))))));have hR:=hR.up l1;have hF:=hF.up l1;refine Au (Qx (oG rfl CM AV (Seg.any hS)) rfl (Qm rfl (Qm rfl (Qc call91 rfl (UT l F v vf p h1 hK hR hF hV h0 hP hl) (fun rB h2 ms2 l2 hB=>?_)))));obtain⟨l2',gm,gA,mA,bs,S,vc,vr,vv,Rs,Vs,mR,mV,rfl,rfl,hOA,lA,hQ,hRs,hVs,CR,CV,hperm,hsrt,hsds⟩:=hB;have ovc:=hQ.rd.one;have lR:Rs.length=S.length:=by have:=CR.len;simpa using this
 have lV:Vs.length=S.length:=by have:=CV.len;simpa using this
 have hSn:S.length<=400:=by have:=hperm.length_eq;rw[length_map,Dy]at this;omega
 refine Qm rfl (Qm rfl (Qm rfl (Qm rfl (Qm rfl (Al (Ac (Au (Qm rfl (Qm rfl (Al (Av rfl (fun hc=>absurd hc (fun h=>h rfl)) (fun hc=>Ag (Ab (Au (Qm rfl (Qm rfl (Qf E9 rfl (Ql rfl Bk (Cell.blk 0 (k:=1) rfl rfl) (Qx (Ar hQ.rd.any rfl Bk rfl) rfl (Qm rfl (Qx (BH rfl rfl rfl) rfl (AY (pre:=[Bi gm 130 (ES p vc gA vr vv (replicate 400 0)),mR,mV]) rfl call120 rfl (X5 p S gm gA vc vr vv Rs Vs mR mV h2 hP hSn ovc hRs hVs CR CV) rfl rfl rfl rfl (fun _ h3 ms3 l3 hE=>?_)))))))))))))))))))))));obtain⟨l3',R,V,la,rfl,A,hRR,hVV⟩:=hE;refine Al (AD fun h4 l4 hSg=>?_);have l24:=AI l3 l4;have hQ:=hQ.up l24;have hRs:=hRs.up l24;have hVs:=hVs.up l24;have hRR:=fun k hk=>(hRR k hk).up l4;have hVV:=fun k hk=>(hVV k hk).up l4;have lA4:=AI lA l24;have e3:∀ms,Cell h4 ms (⟨gm,3,none⟩:Addr) vr:=fun ms=>Seg.all hSg 3 _ rfl ms;have ovr:=hRs.rd.one;refine BG (Au (Qm rfl (Al (Ac (Au (Qm rfl (Qm rfl (Qf E8 rfl (Ql rfl B7 (e3 _) (Qx (Ar hRs.rd.any rfl B7 rfl) rfl (Qm rfl (Al (Af ?_)))))))))))))
 refine Ax (fun q sl h' ms'=>∃(j:Nat) (vl:Value) (ml:Hp),q=S.length-j/\sl=[(9,.pointer (some ⟨gm,0,none⟩)),(11,vl),(35,vr),(36,.int .i64 Rs.length),(37,.int .i64 j)]/\h4.le h'/\ms'=[ml]/\j<=S.length/\OwnL cI 1 3 ml vl ((range j).map fun k=>A3 (R k)))
  (S.length-0) _ ⟨0,_,Hp.emp,rfl,rfl,DU,rfl,by omega,OwnL.nil Bl⟩ Qs ?_
 rintro q sl h' ms' ⟨j,vl,ml,rfl,rfl,l5,rfl,hj,hO⟩;have hRs:=hRs.up l5;have ovl:=hO.o1;refine Au (Qm rfl (Al (Ac ?_)));refine Av rfl (fun hlt=>?_) (fun hlt=>?_)
 ·have hjn:j<S.length:=by omega
  have hjR:j<Rs.length:=by omega
  have hRj:=(hRR j hjn).up l5;have orj:=hRj.rd.one;have cR:∀ms,Cell h' ms ((AF vr).add (j*1)) (Rs.getD j undef):=fun ms=>by rw[show Rs.getD j undef=Rs[j] by simp[List.getD,hjR]];exact(hRs.any (ms:=ms)).cell0 hjR rfl
  have hlj:=A.red.rl j hjn;refine Ag (Ab (Ac (Af (Au (Qx (BU (j) hRs.rd.any rfl B7 Cb rfl rfl) rfl (Ql rfl AR (cR _) (Qm rfl (Gn (Qm rfl (Qm rfl (Qx (AO rfl call95 rfl (Uu (Rs.getD j undef) (R j) h' hRj (by omega) _)) rfl (An [_] rfl AR Be rfl (by rfl) rfl rfl (by omega) rfl rfl rfl (fun g44=>?_)))))))))))));refine AQ 1 hO (RdL.one Bl (x:=A3 (R j)) Mh rfl) rfl AR Be rfl (by omega) rfl rfl rfl Cm (by simp;omega) (by simp;omega) rfl rfl rfl (fun vl2 ml2 hO2=>?_);refine Qm rfl (Aj (Ai (Ab (Ad (Qx (oA rfl) rfl (Qm rfl (Aj (AL ?_))))))));exact Ak (S.length-(j+1)) _ (by omega) ⟨j+1,vl2,ml2,rfl,rfl,l5,rfl,by omega,by rw[Gj];exact hO2⟩ Qs
 ·obtain rfl:j=S.length:=by omega
  refine As (Aa (Aa (Ae (Ab (Au (Qm rfl (Qm rfl (Qm rfl (Qm rfl (Qm rfl (Al (Ao ?_))))))))))));exact WW rfl rfl rfl rfl (⟨AI l1 (AI l2 (AI l24 l5)),gm,S,R,V,vl,ml,rfl,rfl,hO,⟨gA,mA,bs,vc,vr,vv,Rs,Vs,la,hSg.le l5,hOA,AI lA4 l5,hQ.up l5,hRs,hVs.up l5,lR,lV,fun k hk=>(hRR k hk).up l5,fun k hk=>(hVV k hk).up l5,A⟩,hperm,hsrt,fun a ha=>(hsds a ha).up (AI l24 l5)⟩)
end Go.Proofs.Q
namespace Go.Proofs
open Go.Proofs.Tryz
open Go.Shelf
def Tryz.lays161_ren:Go.Shelf.Ren:=⟨fun|161=>231|231=>271|227=>272|233=>273|235=>274|228=>295|197=>296|151=>297|260=>306|152=>307|137=>310|119=>311|224=>312|225=>313|217=>314|266=>315|n=>n,fun|9=>9|4=>4|3=>3|5=>5|117=>303|116=>302|0=>0|124=>306|105=>329|21=>21|119=>339|46=>223|139=>342|138=>341|n=>n,fun|3=>0|4=>1|n=>n⟩
theorem Tryz.lays161:Go.Proofs.Lays.n161 prog Tryz.lays161_ren:={
 mixed:=by kernel_rfl
 f119:=func311.trans (congrArg some (by kernel_rfl))
 f137:=func310.trans (congrArg some (by kernel_rfl))
 f151:=func297.trans (congrArg some (by kernel_rfl))
 f152:=func307.trans (congrArg some (by kernel_rfl))
 f161:=func231.trans (congrArg some (by kernel_rfl))
 f197:=func296.trans (congrArg some (by kernel_rfl))
 f217:=func314.trans (congrArg some (by kernel_rfl))
 f224:=func312.trans (congrArg some (by kernel_rfl))
 f225:=func313.trans (congrArg some (by kernel_rfl))
 f227:=func272.trans (congrArg some (by kernel_rfl))
 f228:=func295.trans (congrArg some (by kernel_rfl))
 f231:=func271.trans (congrArg some (by kernel_rfl))
 f233:=func273.trans (congrArg some (by kernel_rfl))
 f235:=func274.trans (congrArg some (by kernel_rfl))
 f260:=func306.trans (congrArg some (by kernel_rfl))
 f266:=func315.trans (congrArg some (by kernel_rfl))
 t0:=underlying0
 a0:=isAgg0
 z0:=sizeOf0
 v0:=zeroValue0
 t3:=underlying3
 a3:=isAgg3
 z3:=sizeOf3
 v3:=zeroValue3
 t4:=underlying4
 a4:=isAgg4
 z4:=sizeOf4
 v4:=zeroValue4
 t5:=underlying5
 a5:=isAgg5
 z5:=sizeOf5
 v5:=zeroValue5
 t9:=underlying9
 a9:=isAgg9
 z9:=sizeOf9
 v9:=zeroValue9
 t21:=underlying21
 a21:=isAgg21
 z21:=sizeOf21
 v21:=zeroValue21
 t46:=underlying223
 a46:=isAgg223
 z46:=sizeOf223
 v46:=zeroValue223
 t105:=underlying329
 a105:=isAgg329
 z105:=sizeOf329
 v105:=zeroValue329
 t116:=underlying302
 a116:=isAgg302
 z116:=sizeOf302
 t117:=underlying303
 a117:=isAgg303
 z117:=sizeOf303
 v117:=zeroValue303
 t119:=underlying339
 a119:=isAgg339
 z119:=sizeOf339
 t124:=underlying306
 a124:=isAgg306
 z124:=sizeOf306
 v124:=zeroValue306
 t138:=underlying341
 a138:=isAgg341
 z138:=sizeOf341
 v138:=zeroValue341
 t139:=underlying342
 a139:=isAgg342
 z139:=sizeOf342
 v139:=zeroValue342
 g3:=by kernel_rfl
 g4:=by kernel_rfl }
open Go.RowKit in
theorem Tryz.strings_TrimLeft_one(s:ByteArray)(c:UInt8)(hc:c.toNat<128)(w:World) :
  Calls prog 231 #[.string s,.string ⟨#[c]⟩] w fun e w'=>e=.returned (.string ⟨(Lib.trimLeftB s.data.toList c).toArray⟩)/\w'=w:=Any.strings_TrimLeft_one Tryz.lays161 s c hc w
def Tryz.laysNm225_ren:Go.Shelf.Ren:=⟨fun|25=>130|31=>192|32=>193|37=>202|n=>n,fun|22=>22|3=>3|4=>4|40=>223|0=>0|n=>n,fun|n=>n⟩
theorem Tryz.laysNm225:Go.Proofs.Lays2.n25 prog Tryz.laysNm225_ren:={
 mixed:=by kernel_rfl
 f25:=func130.trans (congrArg some (by kernel_rfl))
 f31:=func192.trans (congrArg some (by kernel_rfl))
 f32:=func193.trans (congrArg some (by kernel_rfl))
 f37:=func202.trans (congrArg some (by kernel_rfl))
 t0:=underlying0
 a0:=isAgg0
 z0:=sizeOf0
 v0:=zeroValue0
 t3:=underlying3
 a3:=isAgg3
 z3:=sizeOf3
 v3:=zeroValue3
 t4:=underlying4
 a4:=isAgg4
 z4:=sizeOf4
 v4:=zeroValue4
 t22:=underlying22
 a22:=isAgg22
 z22:=sizeOf22
 v22:=zeroValue22
 t40:=underlying223
 a40:=isAgg223
 z40:=sizeOf223
 v40:=zeroValue223 }
open Go.RowKit Go.Lib in
theorem Tryz.slices_BinarySearch_int(b off n c:Nat)(zs:List Int)(x:Int)(w:World)(hz:n<=zs.length)(hbig:n<4611686018427387904)(hc:∀j,j<zs.length->w.cell? ⟨b,off+j,none⟩=some (.int .i64 (zs.getD j 0)))(hs:(zs.take n).Pairwise (·<=·)) :
  Calls prog 130 #[.slice (some ⟨b,off,none⟩) n c,.int .i64 x] w fun e w'=>e=.returned (.tuple #[.int .i64 ((zs.take n).countP (·<x):Nat),.bool ((zs.take n).contains x)])/\∃q,w'=w.drewN q:=Any.slices_BinarySearch_int Tryz.laysNm225 b off n c zs x w hz hbig hc hs
open Go.RowKit Go.Lib in
theorem Tryz.slices_BinarySearch_int_empty(a:Option Addr)(c:Nat)(x:Int)(w:World) :
  Calls prog 130 #[.slice a 0 c,.int .i64 x] w fun e w'=>e=.returned (.tuple #[.int .i64 0,.bool false])/\w'=w:=Any.slices_BinarySearch_int_empty Tryz.laysNm225 a c x w
end Go.Proofs

namespace Go.Proofs.Q
open Go.Eng Go.RowKit
structure Br where
 dim:Int
 birth:Int
 death:Int
 opn:Bool
 low:Int
 high:Int
deriving DecidableEq
def Nh(b:Br):List Value:=[.int .i64 b.dim,.int .i64 b.birth,.int .i64 b.death,.bool b.opn,.int .i64 b.low,.int .i64 b.high]
theorem JC:∀b,(Nh b).length=6:=fun _=>rfl
theorem Q6:∀a,∀c∈Nh a,c.oneCell'=true:=fun a c hc=>by simp only[Nh,mem_cons,not_mem_nil,or_false]at hc;rcases hc with rfl|rfl|rfl|rfl|rfl|rfl<;>rfl
open Go.Kuhn
theorem P6(g n:Nat)(hn:n<=9223372036854775807):OwnL cB 1 4 (Bi g 4 (replicate n (Value.bool false))) (.slice (some ⟨g,0,none⟩) n n) (replicate n false):=
 ⟨⟨by rw[<-OW];simp,.inr ⟨g,n,[],by simp,by rw[<-OW];simp,by rw[<-OW];simp,by simp,hn⟩⟩,Zb⟩
theorem UK(g n:Nat)(a:Int)(hn:n<=9223372036854775807):OwnL cI 1 3 (Bi g 3 (replicate n (Value.int .i64 a))) (.slice (some ⟨g,0,none⟩) n n) (replicate n a):=
 ⟨⟨by rw[<-K1];simp,.inr ⟨g,n,[],by simp,by rw[<-K1];simp,by rw[<-K1];simp,by simp,hn⟩⟩,Bl⟩
def put(x:Int):List Int->List Int
 | []=>[x]
 | y::l=>if y<=x then y::put x l else x::y::l
def Br.at(dim t:Int)(b:Br):Bool:=decide (b.dim=dim)&&decide (b.birth<=t)&&(b.opn||decide (t<b.death))
end Go.Proofs.Q

namespace Go.Proofs.Q
open Go.Proofs.Tryz
open Go.Eng Go.RowKit Go.Lin Go.Sort Go.Srt
def CP(L:List Int):Nat->List (Int×Int)
 | 0=>[]
 | j+1=>if 0<=L.getD j 0 then CC (CP L j) (L.getD j 0) (j:Int) else CP L j
theorem F3{L:List Int}{i x:Int}:∀{n:Nat},A9 (CP L n) i=some x->∃j:Nat,j<n/\x=j/\L.getD j 0=i/\0<=i
 | 0,h=>by simp[CP,A9]at h
 | n+1,h=>by
  unfold CP at h;split at h
  ·rename_i h0;rw[Dg]at h;split at h
   ·rename_i e;cases h;exact⟨n,by omega,rfl,e.symm,by rw[e];exact h0⟩
   ·obtain⟨j,h1,h2⟩:=F3 h;exact⟨j,by omega,h2⟩
  ·obtain⟨j,h1,h2⟩:=F3 h;exact⟨j,by omega,h2⟩
theorem Hs{L:List Int}{i:Int}:∀{n:Nat},A9 (CP L n) i=none->∀j,j<n->0<=i->L.getD j 0≠i
 | 0,h,j,hj,_=>by omega
 | n+1,h,j,hj,h0=>by
  unfold CP at h;split at h
  ·rw[Dg]at h;split at h
   ·cases h
   ·rename_i e;rcases (by omega:j<n\/j=n) with h1|rfl
    ·exact Hs h j h1 h0
    ·exact fun q=>e q.symm
  ·rename_i hn;rcases (by omega:j<n\/j=n) with h1|rfl
   ·exact Hs h j h1 h0
   ·omega
def Hl(f:Int->Int)(S:List Ce)(L:List Int)(i:Nat):List Br:=
 match A9 (CP L L.length) (i:Int) with
 | some j=>if f (S.getD i default).c.id<f (S.getD j.toNat default).c.id then [⟨(S.getD i default).c.dim,f (S.getD i default).c.id,f (S.getD j.toNat default).c.id,false,(S.getD i default).c.id,(S.getD j.toNat default).c.id⟩] else []
 | none=>if L.getD i 0<0 then [⟨(S.getD i default).c.dim,f (S.getD i default).c.id,0,true,(S.getD i default).c.id,0⟩] else []
def CS(f:Int->Int)(S:List Ce)(L:List Int)(n:Nat):List Br:=(range n).flatMap (Hl f S L)
theorem D9(f:Int->Int)(S:List Ce)(L:List Int)(n:Nat):CS f S L (n+1)=CS f S L n++Hl f S L n:=by unfold CS;rw[List.range_succ,List.flatMap_append];simp
theorem L9(f:Int->Int)(S:List Ce)(L:List Int)(i:Nat):(Hl f S L i).length<=1:=by unfold Hl;split<;>split<;>simp
theorem JZ(f:Int->Int)(S:List Ce)(L:List Int):∀n,(CS f S L n).length<=n
 | 0=>by simp[CS]
 | n+1=>by rw[D9,length_append];have:=JZ f S L n;have:=L9 f S L n;omega
theorem We(l S:List Ce)(F:List (Int×Int))(R V:Nat->List Int)(L:List Int)(p:Int)(gm:Nat)(vl:Value)(hp:Hp)(M:RedM p F l S R V gm hp)(hL:RdL cI 1 hp [] vl L)(hn:S.length<=400)(hLn:L.length=S.length)(hLl:∀x∈L,x<S.length)(hi:∀a∈S,BC a.c.id)(hI:∀c,BC (CJ (Bj F) c)):FnT Tryz.prog 52 #[.pointer (some ⟨gm,0,none⟩),vl] hp [] (fun r h' ms'=>hp.le h'/\∃mb,ms'=[mb]/\OwnL Nh 6 43 mb r (CS (CJ (Bj F)) S L S.length)):=by
 obtain⟨gA,mA,bs,vc,vr,vv,Rs,Vs,la,hS,hO,lA,hQ,_⟩:=M.ex;have ol:=hL.rd.one;have oc:=hQ.rd.one;refine Ap func52 ntmps52 rfl rfl (fun w0 hw0=>?_);simp only[AU];refine Au (Qm rfl (BL (Cp (K:=kN) (V:=kN) (Ok:=BC) rfl rfl rfl rfl (fun gE mE hE0=>Qm rfl (Al ?_)))));refine Bb (fun sl h' ms'=>∃(mE:Hp) (bs:List Nat),sl=[(0,.pointer (some ⟨gm,0,none⟩)),(1,vl),(5,.map (some gE))]/\hp=h'/\ms'=[mE]/\Cn kN kN gE BC mE (CP L L.length) bs) ?_ (fun s h ms hI=>?_)
 ·refine Ac (Ad (Qm rfl (Qx (Ar hL.rd.any rfl AR rfl) rfl (Qm rfl (Al (Af ?_))))))
  refine Ax (fun q sl h' ms'=>∃(j:Nat) (mE:Hp) (bs:List Nat),q=L.length-j/\sl=[(0,.pointer (some ⟨gm,0,none⟩)),(1,vl),(5,.map (some gE)),(15,vl),(16,.int .i64 L.length),(17,.int .i64 j)]/\hp=h'/\ms'=[mE]/\j<=L.length/\Cn kN kN gE BC mE (CP L j) bs)
   (L.length-0) _ ⟨0,mE,[],rfl,rfl,rfl,rfl,by omega,hE0⟩ Qs ?_
  rintro q sl h' ms' ⟨j,mE,bs,rfl,rfl,rfl,rfl,hj,hE⟩;refine Au (Qm rfl (Al (Ac ?_)));refine Av rfl (fun hlt=>?_) (fun hlt=>?_)
  ·have hjl:j<L.length:=by omega
   have cL:∀ms,Cell hp ms ((AF vl).add (j*1)) (.int .i64 (L.getD j 0)):=fun ms=>by rw[show L.getD j 0=L[j] by simp[List.getD,hjl]];exact(hL.any (ms:=ms)).cell0 hjl rfl
   have hLb:=hLl _ (getElem_mem hjl);rw[show L[j]=L.getD j 0 by simp[List.getD,hjl]]at hLb;refine Ag (Ab (Ac (Af (Au (Qm rfl (Qx (BU (j) hL.rd.any rfl AR Be rfl rfl) rfl (Ql rfl U3 (cL _) (Qm rfl (Qm rfl (BL (Qm rfl (Qm rfl (Al ?_)))))))))))));refine Av rfl (fun h0=>?_) (fun h0=>?_)
   ·have hs:CP L (j+1)=CC (CP L j) (L.getD j 0) (j:Int):=by show(if 0<=L.getD j 0 then _ else _)=_;rw[if_pos h0]
    refine Ad (Qm rfl (Qm rfl (Qm rfl ?_)));refine Bv (V:=kN) (z:=undef) 0 (L.getD j 0) (j:Int) A0 hE rfl rfl Jq rfl rfl rfl (by unfold BC;omega) rfl rfl (fun mE' bs' hE'=>?_);rw[<-hs]at hE';refine Aj (Ai (Ab (Ad (Qx (oA rfl) rfl (Qm rfl (Aj ?_))))));exact Ak (L.length-(j+1)) _ (by omega) ⟨j+1,mE',bs',rfl,rfl,rfl,rfl,by omega,hE'⟩ Qs
   ·have hs:CP L (j+1)=CP L j:=by show(if 0<=L.getD j 0 then _ else _)=_;rw[if_neg h0]
    rw[<-hs]at hE;refine Ag (Ai (Ab (Ad (Qx (oA rfl) rfl (Qm rfl (Aj ?_))))));exact Ak (L.length-(j+1)) _ (by omega) ⟨j+1,mE,bs,rfl,rfl,rfl,rfl,by omega,hE⟩ Qs
  ·obtain rfl:j=L.length:=by omega
   refine As (Aa (Aa (Ae ?_)));exact AC _ ⟨mE,bs,rfl,rfl,rfl,hE⟩ Qs
 ·obtain⟨mE,bsE,rfl,rfl,rfl,hE⟩:=hI;refine Bd fun h1 l1 lE=>?_;have hS:=hS.le l1;have hQ:=hQ.up l1;have hL:=hL.up l1;have lA:=AI lA l1;have e1:∀ms,Cell h1 ms (⟨gm,1,none⟩:Addr) vc:=fun ms=>Seg.all hS 1 _ rfl ms;refine BG (Au (Qm rfl (Al (Ac (Au (Qm rfl (Qm rfl (Qf E9 rfl (Ql rfl Bk (e1 _) (Qx (Ar hQ.rd.any rfl Bk rfl) rfl (Qm rfl (Al (Af ?_)))))))))))))
  refine Ax (fun q sl h' ms'=>∃(i:Nat) (vb:Value) (mb:Hp),q=S.length-i/\sl=[(0,.pointer (some ⟨gm,0,none⟩)),(1,vl),(5,.map (some gE)),(8,vb),(31,vc),(32,.int .i64 S.length),(33,.int .i64 i)]/\h1.le h'/\ms'=[mb]/\i<=S.length/\OwnL Nh 6 43 mb vb (CS (CJ (Bj F)) S L i))
   (S.length-0) _ ⟨0,_,Hp.emp,rfl,rfl,DU,rfl,by omega,OwnL.nil JC⟩ Qs ?_
  rintro q sl h2 ms' ⟨i,vb,mb,rfl,rfl,l2,rfl,hi',hB⟩;have hS:=hS.le l2;have hQ:=hQ.up l2;have hL:=hL.up l2;have lA:=AI lA l2;have lE:=AI lE l2;have ovb:=hB.o1;refine Au (Qm rfl (Al (Ac ?_)));refine Av rfl (fun hlt=>?_) (fun hlt=>?_)
  ·have hil:i<S.length:=by omega
   obtain⟨x,hx⟩:∃x,S[i]=x:=⟨_,rfl⟩
   have hxm:x∈S:=by rw[<-hx];exact getElem_mem hil
   have hgx:S.getD i default=x:=by simp[List.getD,hil,hx]
   have hxI:=hi x hxm;have oxv:=(M.sds x hxm).rd.one;have hsx:∀ms,Seg h2 ms ((AF vc).add (i*3)) (cC x):=fun ms=>by rw[<-hx];exact(hQ.any (ms:=ms)).seg hil
   refine Ag (Ab (Ac (Af (Au (Qm rfl (Qx (BU (i) hQ.rd.any rfl Bk AH rfl rfl) rfl (Qx (oG rfl EL AH (hsx _)) rfl (CN [.int .i64 0,.int .i64 0,.slice none 0 0] rfl AH rfl rfl (fun g10=>Qm rfl ?_)))))))));refine Sa 0 [_,_,_] AH rfl (by simp[ol,oc,oxv,ovb]) ?_;refine Al (AD fun h3 l3 hS10=>?_);have e100:∀ms,Cell h3 ms (⟨g10,0,none⟩:Addr) (.int .i64 x.c.id):=fun ms=>Seg.all hS10 0 _ rfl ms;have e101:∀ms,Cell h3 ms (⟨g10,1,none⟩:Addr) (.int .i64 x.c.dim):=fun ms=>Seg.all hS10 1 _ rfl ms;have hS3:=hS.le l3;have a1:∀ms,Cell h3 ms (⟨gm,1,none⟩:Addr) vc:=fun ms=>Seg.all hS3 1 _ rfl ms;have a2:∀ms,Cell h3 ms (⟨gm,2,none⟩:Addr) (.map (some gA)):=fun ms=>Seg.all hS3 2 _ rfl ms;have hfx:(A9 (Bj F) x.c.id).getD 0=CJ (Bj F) x.c.id:=rfl;obtain⟨f,hf⟩:∃f,CJ (Bj F)=f:=⟨_,rfl⟩
   rw[hf]at hfx hB;have hBl:=JZ f S L i;obtain⟨bb,hbb⟩:∃bb,(A9 (CP L L.length) (i:Int)).isSome=bb:=⟨_,rfl⟩
   obtain⟨u,hu⟩:∃u,(A9 (CP L L.length) (i:Int)).getD 0=u:=⟨_,rfl⟩
   refine Ac (Bg 13 CY (by kernel_rfl) rfl (Wf Cw rfl (Wl rfl U3 (e101 _) (Wm rfl (Wm rfl (Wf JP rfl (Wl rfl Jq (a2 _) (Wf By rfl (Wl rfl U3 (e100 _) (AP (show OX _ _ _ _ _ (.int .i64 (f x.c.id)) from BI (V:=kN) (z:=(0:Int)) (u:=f x.c.id) x.c.id hfx A0 hO (AI lA l3) rfl Jq Gg rfl rfl hxI) rfl rfl (Wf By rfl (Wl rfl U3 (e100 _) (AP (Bf Yb [.int .i64 0,.int .i64 0,.int .i64 0,.bool false,.int .i64 0,.int .i64 0] [(0,_),(1,_),(4,_)] [_,_,_,_,_,_] rfl E6 rfl rfl Qt rfl) rfl rfl (UF (LZ [.int .i64 0,.int .i64 0,.int .i64 0,.bool false,.int .i64 0,.int .i64 0] rfl E6 rfl) rfl rfl (HJ (fun g11=>?_))))))))))))))));refine Sa 0 [_,_,_,_,_,_] E6 rfl (by simp[Value.oneCell']) ?_;refine BL (Qm rfl (Qm rfl ?_));refine Qx (EC (V:=kN) (z:=(0:Int)) (i:Int) hu hbb A0 hE (AI lE l3) rfl Jq Gg rfl rfl (by unfold BC;omega)) rfl ?_;refine Qm rfl (Qm rfl (Qm rfl (Qm rfl (Qm rfl (Al (Ac (Af (Au (Qm rfl (Qm rfl (Al ?_)))))))))));refine Bu rfl (fun hb=>?_) (fun hb=>?_)
   ·obtain⟨j,hj⟩:∃j,A9 (CP L L.length) (i:Int)=some j:=by rw[hb]at hbb;exact Option.isSome_iff_exists.1 hbb
    obtain⟨jn,hjn,rfl,hjL,_⟩:=F3 hj;rw[hj]at hu;obtain rfl:(jn:Int)=u:=hu;have hjS:jn<S.length:=by omega
    obtain⟨y,hy⟩:∃y,S[jn]=y:=⟨_,rfl⟩
    have hym:y∈S:=by rw[<-hy];exact getElem_mem hjS
    have hgy:S.getD jn default=y:=by simp[List.getD,hjS,hy]
    have hyI:=hi y hym
    have cy:∀ms,Cell h3 ms (((AF vc).add (jn*3)).add 0) (.int .i64 y.c.id):=fun ms=>by
     have:Seg h3 ms ((AF vc).add (jn*3)) (cC y):=by rw[<-hy];exact((hQ.up l3).any (ms:=ms)).seg hjS
     exact this 0 _ rfl
    have hfy:(A9 (Bj F) y.c.id).getD 0=f y.c.id:=by rw[<-hf];rfl
    have hbar:Hl f S L i=if f x.c.id<f y.c.id then [⟨x.c.dim,f x.c.id,f y.c.id,false,x.c.id,y.c.id⟩] else []:=by unfold Hl;rw[hj];simp only[Int.toNat_natCast,hgx,hgy]
    have hQ3:=hQ.up l3;refine Au (Qm rfl (Qm rfl (Qf E9 rfl (Ql rfl Bk (a1 _) (Qm rfl (Qx (BU (jn) hQ3.rd.any rfl Bk AH rfl rfl) rfl (Qf By rfl (Ql rfl U3 (cy _) (Qf HE rfl ?_)))))))));refine AK 0 _ rfl Be rfl rfl (by rfl) rfl rfl (by(simp;done)) rfl rfl ?_;refine Al (Bg 6 CY (by kernel_rfl) rfl (Wm rfl (Wm rfl (Wf JP rfl (Wl rfl Jq (a2 _) (Wf HE rfl (Wl rfl U3 (Cell.blk 0 rfl rfl) (Bc (Qx (show OX _ _ _ _ _ (.int .i64 (f y.c.id)) from BI (V:=kN) (z:=(0:Int)) (u:=f y.c.id) y.c.id hfy A0 hO (AI lA l3) rfl Jq Gg rfl rfl hyI) rfl (Qf J7 rfl ?_))))))))));refine AK 0 _ rfl Be rfl rfl (by rfl) rfl rfl (by(simp;done)) rfl rfl ?_;refine Aj (Ai (Ab (Au (Qf Mt rfl (Ql rfl U4 (Cell.blk 0 rfl rfl) (Qm rfl (Qg (oF Ko rfl) rfl (Qg (oL rfl U3 (Cell.blk 0 rfl rfl)) rfl (Qg (oF J7 rfl) rfl (Qg (oL rfl U3 (Cell.blk 0 rfl rfl)) rfl (Qg (CZ rfl rfl rfl) rfl (Qm rfl (Al ?_)))))))))))));refine Av rfl (fun hbd=>?_) (fun hbd=>?_)
    ·refine Ad (Qm rfl (Qx (oG rfl U43 E6 (Seg.blk 0 rfl)) rfl (An [_,_,_,_,_,_] rfl Sb E6 rfl (by rfl) rfl rfl (by omega) rfl rfl rfl (fun g93=>?_))));refine AQ 2 hB (RdL.one JC (x:=⟨x.c.dim,f x.c.id,f y.c.id,false,x.c.id,y.c.id⟩) Mh rfl) rfl Sb E6 rfl (by omega) rfl rfl rfl Q6 (by simp;omega) (by simp;omega) rfl rfl rfl (fun vb2 mb2 hB2=>?_);refine Qm rfl (Aj (Ai (Ab (Ad (Qx (oA rfl) rfl (Qm rfl (Aj (AL (AL ?_)))))))));exact Ak (S.length-(i+1)) _ (by omega) ⟨i+1,vb2,mb2,rfl,rfl,AI l2 l3,rfl,by omega,by rw[hf,D9,hbar,if_pos hbd];exact hB2⟩ Qs
    ·refine Ag (Ai (Ab (Ad (Qx (oA rfl) rfl (Qm rfl (Aj (AL ?_)))))));exact Ak (S.length-(i+1)) _ (by omega) ⟨i+1,vb,mb,rfl,rfl,AI l2 l3,rfl,by omega,by rw[hf,D9,hbar,if_neg hbd,append_nil];exact hB⟩ Qs
   ·have hj:A9 (CP L L.length) (i:Int)=none:=by
     rw[hb]at hbb;cases h:A9 (CP L L.length) (i:Int) with
     | none=>rfl
     | some j=>rw[h]at hbb;cases hbb
    have hil2:i<L.length:=by omega
    have hL3:=hL.up l3;have cL:∀ms,Cell h3 ms ((AF vl).add (i*1)) (.int .i64 (L.getD i 0)):=fun ms=>by rw[show L.getD i 0=L[i] by simp[List.getD,hil2]];exact(hL3.any (ms:=ms)).cell0 hil2 rfl
    have hbar:Hl f S L i=if L.getD i 0<0 then [⟨x.c.dim,f x.c.id,0,true,x.c.id,0⟩] else []:=by unfold Hl;rw[hj];simp only[hgx]
    refine Au (Qm rfl (Qm rfl (Qx (BU (i) hL3.rd.any rfl AR Be rfl rfl) rfl (Ql rfl U3 (cL _) (Qm rfl (Qm rfl (Al ?_)))))));refine Av rfl (fun hneg=>?_) (fun hneg=>?_)
    ·refine Ad (Qf Mt rfl ?_);refine AK 0 _ rfl V4 rfl rfl (by rfl) rfl rfl (by(simp;done)) rfl rfl ?_;refine Aj (Ai (Ab (Au (Qf Mt rfl (Ql rfl U4 (Cell.blk 0 rfl rfl) (Qm rfl (Qk rfl (Qk rfl (Qk rfl (Qk rfl (Qk rfl (Qm rfl (Al (B3 rfl (Ad (Qm rfl (Qx (oG rfl U43 E6 (Seg.blk 0 rfl)) rfl (An [_,_,_,_,_,_] rfl Sb E6 rfl (by rfl) rfl rfl (by omega) rfl rfl rfl (fun g93=>?_)))))))))))))))))));refine AQ 2 hB (RdL.one JC (x:=⟨x.c.dim,f x.c.id,0,true,x.c.id,0⟩) Mh rfl) rfl Sb E6 rfl (by omega) rfl rfl rfl Q6 (by simp;omega) (by simp;omega) rfl rfl rfl (fun vb2 mb2 hB2=>?_);refine Qm rfl (Aj (Ai (Ab (Ad (Qx (oA rfl) rfl (Qm rfl (Aj (AL (AL ?_)))))))));exact Ak (S.length-(i+1)) _ (by omega) ⟨i+1,vb2,mb2,rfl,rfl,AI l2 l3,rfl,by omega,by rw[hf,D9,hbar,if_pos hneg];exact hB2⟩ Qs
    ·refine As (Ga rfl (Aa (Ae (Ab (Ad (Qx (oA rfl) rfl (Qm rfl (Aj (AL ?_)))))))));exact Ak (S.length-(i+1)) _ (by omega) ⟨i+1,vb,mb,rfl,rfl,AI l2 l3,rfl,by omega,by rw[hf,D9,hbar,if_neg hneg,append_nil];exact hB⟩ Qs
  ·obtain rfl:i=S.length:=by omega
   refine As (Aa (Aa (Ae (Ab (Au (Qm rfl (Qm rfl (Al (Ao ?_)))))))));exact Az rfl rfl (⟨AI l1 l2,mb,rfl,hB⟩)
structure PersF(p:Int)(F:List (Int×Int))(l S:List Ce)(R V:Nat->List Int):Prop where
 perm:(S.map Ce.c).Perm (cn l)
 srt:MW (CJ (Bj F)) S
 all:∃la,AllC p S S.length S.length R V la
noncomputable def C8(S:List Ce)(R:Nat->List Int):List Int:=(range S.length).map fun k=>A3 (R k)
theorem Kb(S:List Ce)(R:Nat->List Int):(C8 S R).length=S.length:=by unfold C8;simp
theorem If(S:List Ce)(R:Nat->List Int){k:Nat}(h:k<S.length):(C8 S R).getD k 0=A3 (R k):=by unfold C8;simp[List.getD,h]
theorem RedM.pers{p:Int}{F:List (Int×Int)}{l S:List Ce}{R V:Nat->List Int}{gm:Nat}{h:Hp}(M:RedM p F l S R V gm h):PersF p F l S R V:=by obtain⟨gA,mA,bs,vc,vr,vv,Rs,Vs,la,_,_,_,_,_,_,_,_,_,_,A⟩:=M.ex;exact⟨M.perm,M.srt,la,A⟩
theorem PersF.lt{p:Int}{F:List (Int×Int)}{l S:List Ce}{R V:Nat->List Int}(P:PersF p F l S R V):∀x∈C8 S R,x<S.length:=fun x hx=>by obtain⟨la,A⟩:=P.all;unfold C8 at hx;obtain⟨k,hk,rfl⟩:=List.mem_map.1 hx;have h1:=(Gw (R k)).2;rw[A.red.rl k (List.mem_range.1 hk)]at h1;exact h1
theorem K7(l:List Ce)(F:List (Int×Int))(v vf:Value)(p:Int)(hp:Hp)(hK:RgC l)(hR:RdC hp v l)(hF:RdL cV 2 hp [] vf F)(hV:NM F)(hI:∀c,BC (CJ (Bj F) c))(h0:F9 (cn l) F=(0,0))(hP:IsP p)(hl:l.length<=400):FnT Tryz.prog 15 #[.agg #[v],vf,.int .i64 p] hp [] (fun r h' ms'=>hp.le h'/\∃(S:List Ce) (R V:Nat->List Int) (vb:Value) (mb:Hp),r=.tuple #[vb,.int .i64 0]/\ms'=[mb]/\OwnL Nh 6 43 mb vb (CS (CJ (Bj F)) S (C8 S R) S.length)/\PersF p F l S R V):=by
 have o1:=hR.q.rd.one;have o2:=hF.rd.one;refine Ap func15 ntmps15 rfl rfl (fun w0 hw0=>?_);simp only[AU];refine Au (AX [_] rfl rfl (by rfl) rfl rfl rfl (fun g3=>Qm rfl (Qm rfl (Al (AD fun h1 l1 hS=>?_)))));have hR:=hR.up l1;have hF:=hF.up l1;refine Au (Qx (oG rfl CM AV (Seg.any hS)) rfl (Qm rfl (Qm rfl (Qc call51 rfl (Ry l F v vf p h1 hK hR hF hV h0 hP hl) (fun rB h2 ms2 l2 hB=>?_)))));obtain⟨l2',gm,S,R,V,vl,ml,rfl,rfl,hO,M⟩:=hB;have P:=M.pers;have hSn:S.length<=400:=by have:=P.perm.length_eq;rw[length_map,Dy]at this;omega
 have ovl:=hO.o1;refine Qm rfl (Qm rfl (Qm rfl (Qm rfl (Qm rfl (Qm rfl (Qm rfl (Al (Ac (Au (Qm rfl (Qm rfl (Al (Av rfl (fun hc=>absurd hc (fun h=>h rfl)) (fun hc=>Ag (Ab (Bq hO fun h3 l3 hL=>?_))))))))))))))))
 have hSi:∀a∈S,BC a.c.id:=fun a ha=>by have h1:a.c∈cn l:=P.perm.mem_iff.1 (List.mem_map.2 ⟨a,ha,rfl⟩);have h2:=hK.F.rgt.pos _ h1;have h3:=hK.ci h1;unfold BC;omega
 have M3:RedM p F l S R V gm h3:=by obtain⟨gA,mA,bs,vc,vr,vv,Rs,Vs,la,a1,a2,a3,a4,a5,a6,a7,a8,a9,a10,A⟩:=M.ex;exact⟨⟨gA,mA,bs,vc,vr,vv,Rs,Vs,la,a1.le l3,a2,AI a3 l3,a4.up l3,a5.up l3,a6.up l3,a7,a8,fun k hk=>(a9 k hk).up l3,fun k hk=>(a10 k hk).up l3,A⟩,M.perm,M.srt,fun a ha=>(M.sds a ha).up l3⟩
 refine Au (Qm rfl (Qm rfl (Qc call52 rfl (We l S F R V (C8 S R) p gm vl h3 M3 hL hSn (Kb S R) P.lt hSi hI) (fun rC h4 ms4 l4 hB=>?_))));obtain⟨l4',mb,rfl,hOb⟩:=hB;have ovb:=hOb.o1;refine Qm rfl (Qm rfl (Al (Ao ?_)));exact BP rfl rfl rfl (⟨AI l1 (AI l2 (AI l3 l4)),S,R,V,rC,mb,rfl,rfl,hOb,P⟩)
end Go.Proofs.Q

namespace Go.Proofs.Q
open Go.Proofs.Tryz
open Go.Eng Go.RowKit Go.Lin
def ID(rows cols:Int):Prop:=0<=rows/\0<=cols/\rows<=400/\cols<=400
instance (r c:Int):Decidable (ID r c):=by unfold ID;infer_instance
theorem Vo(p r c:Int)(h:Hp)(hI:BC p):FnT Tryz.prog 185 #[.int .i64 p,.int .i64 r,.int .i64 c] h [] (fun x _ _=>x=.bool (decide (IsP p/\ID r c))):=by
 refine Ap func185 ntmps185 rfl rfl (fun w0 hw0=>?_);simp only[AU];refine Au (Qm rfl (BL (Qm rfl (Qx (AO rfl call54 rfl (Mm _ _ hI _)) rfl (Qm rfl ?_)))));refine AS (t:=9) rfl (fun hs=>?_) (fun hs=>?_)
 ·refine Qg (AA rfl rfl) rfl (Qg (AA rfl rfl) rfl (Qg (PS rfl rfl rfl) rfl (Qg (IS rfl rfl rfl) rfl (Qm rfl (Qm rfl ?_)))));refine AS (t:=15) rfl (fun hs2=>?_) (fun hs2=>?_)
  ·refine Qg (AA rfl rfl) rfl (Qg (AA rfl rfl) rfl (Qg (IX rfl rfl rfl) rfl (Qg (Mq rfl rfl rfl) rfl (Qm rfl (Qm rfl (Al (Ao ?_)))))));exact Az rfl rfl (by unfold ID;congr 1;rw[decide_eq_decide];simp only[hs,true_and];omega)
  ·refine Qk rfl (Qk rfl (Qk rfl (Qk rfl (Qm rfl (Qm rfl (Al (Ao ?_)))))));exact Az rfl rfl (by unfold ID;rw[decide_eq_false];rintro⟨_,h1⟩;omega)
 ·refine Qk rfl (Qk rfl (Qk rfl (Qk rfl (Qm rfl (Qm rfl (Qk rfl (Qk rfl (Qk rfl (Qk rfl (Qm rfl (Qm rfl (Al (Ao ?_)))))))))))));exact Az rfl rfl (by rw[decide_eq_false];exact fun h=>hs h.1)
theorem UD(p r c:Int)(h:Hp)(hI:BC p)(ms:List Hp):FnV Tryz.prog 185 #[.int .i64 p,.int .i64 r,.int .i64 c] h ms (.bool (decide (IsP p/\ID r c))):=by refine fun w hw=>(?_:FnV _ _ _ h [] _) w (hw.weaken (DU) (List.nil_sublist _));exact FnT.toV (Vo p r c h hI)
variable {l:List Int}
def ZF(l:List Int)(p:Int->Bool):Int:=match l.findIdx? p with|some i=>i|none=>-1
theorem Uq{p:Int->Bool}{k:Nat}(hk:k<l.length)(hp:p l[k]=true)(hn:∀j (hj:j<k),p (l[j]'(by omega))=false):ZF l p=k:=by
 unfold ZF
 have:l.findIdx? p=some k:=by rw[List.findIdx?_eq_some_iff_getElem];exact⟨hk,hp,fun j hj=>by simp[hn j hj]⟩
 rw[this]
theorem Tz{p:Int->Bool}(hn:∀j (hj:j<l.length),p l[j]=false):ZF l p=-1:=by
 unfold ZF
 have:l.findIdx? p=none:=by rw[List.findIdx?_eq_none_iff];intro x hx;obtain⟨j,hj,rfl⟩:=List.mem_iff_getElem.1 hx;exact hn j hj
 rw[this]
theorem XW(l:List Int)(p:Int->Bool):decide (0<=ZF l p)=l.any p:=by
 unfold ZF;cases h:l.findIdx? p with
 | none=>rw[List.findIdx?_eq_none_iff]at h;simp;exact h
 | some i=>
  rw[List.findIdx?_eq_some_iff_getElem]at h;obtain⟨h1,h2,_⟩:=h;simp;exact⟨_,getElem_mem h1,h2⟩
theorem MU(l:List Int)(vl:Value)(cf:FuncId)(cs:List Value)(p:Int->Bool)(h:Hp)(hR:RdL cI 1 h [] vl l)
  (hc:∀xs w,(callFunc cf xs).run Tryz.prog w=.ok (.enter cf xs) w)
  (hp:∀b∈l,∀ms,FnV Tryz.prog cf ([]++[Value.int .i64 b]++cs).toArray h ms (.bool (p b))) :
  FnT Tryz.prog 269 #[vl,.func (.func cf) #[] cs.toArray] h [] (fun r _ _=>r=.int .i64 (ZF l p)):=by
 have hl:=hR.len_le;refine Ap func269 ntmps269 rfl rfl (fun w0 hw0=>?_);simp only[AU];refine Au (Qm rfl (Al (Ac (Au (Qm rfl (Qx (Ar hR.rd.any rfl AR rfl) rfl (Qm rfl (Al (Af ?_)))))))))
 refine Ax (fun n s h' ms'=>∃(k:Nat),n=l.length-k/\s=[(0,vl),(1,.func (.func cf) #[] cs.toArray),(7,.int .i64 l.length),(8,.int .i64 k)]/\h=h'/\ms'=[]/\k<=l.length/\∀j (hj:j<l.length),j<k->p l[j]=false)
  (l.length-0) _ ⟨0,rfl,rfl,rfl,rfl,by omega,fun j hj h=>by omega⟩ Qs ?_
 rintro n s h' ms' ⟨k,rfl,rfl,rfl,rfl,hk,hno⟩;refine Au (Qm rfl (Al (Ac ?_)));refine Av rfl (fun hlt=>?_) (fun hlt=>?_)
 ·have hlt':k<l.length:=by omega
  refine Ag (Ab (Ac (Af (Au (Qm rfl (Qm rfl (BL (Qm rfl (Qm rfl (Qm rfl (Qx (AB _ hR.rd.any rfl AR Be rfl rfl rfl (by omega)) rfl (Ql rfl U3 (hR.any.cell0 hlt' rfl) (Qx (BY rfl rfl hc rfl (hp _ (getElem_mem hlt') _)) rfl (Al ?_))))))))))))));refine Bu rfl (fun hpk=>?_) (fun hpk=>?_)
  ·refine Ac (Ad (Qm rfl (Qm rfl (Al (Ao (Am (Ah (Ah (Am (Ah ?_))))))))));exact Az rfl rfl (by rw[Uq hlt' hpk fun j hj=>hno j _ hj])
  ·refine Ag (Ai (Ab (Ad (Qx (oA rfl) rfl (Qm rfl (Aj ?_))))));refine Ak (l.length-(k+1)) _ (by omega) ⟨k+1,rfl,rfl,rfl,rfl,by omega,fun j hj h1=>?_⟩ Qs;rcases (by omega:j<k\/j=k) with h2|rfl
   ·exact hno j hj h2
   ·exact hpk
 ·refine As (Aa (Aa (Ae (Ab (Au (Qm rfl (Al (Ao ?_))))))));exact Az rfl rfl (by rw[Tz fun j hj=>hno j hj (by omega)])
theorem Jp(l:List Int)(vl:Value)(cf:FuncId)(cs:List Value)(p:Int->Bool)(h:Hp)(hR:RdL cI 1 h [] vl l)
  (hc:∀xs w,(callFunc cf xs).run Tryz.prog w=.ok (.enter cf xs) w)
  (hp:∀b∈l,∀ms,FnV Tryz.prog cf ([]++[Value.int .i64 b]++cs).toArray h ms (.bool (p b))) :
  FnT Tryz.prog 220 #[vl,.func (.func cf) #[] cs.toArray] h [] (fun r _ _=>r=.bool (l.any p)):=by
 refine Ap func220 ntmps220 rfl rfl (fun w0 hw0=>?_);simp only[AU];refine Au (Qm rfl (BL (Qm rfl (Qm rfl (Qx (AO rfl call269 rfl (Gf (MU l vl cf cs p h hR hc hp) _)) rfl (Qm rfl (Qm rfl (Al (Ao ?_)))))))));exact Az rfl rfl (by rw[<-XW])
structure FM where
 p:Int
 rows:Int
 cols:Int
 e:List Int
def FM.nil:FM:=⟨0,0,0,[]⟩
def FM.Rt(M:FM):Prop:=IsP M.p/\ID M.rows M.cols/\(M.e.length:Int)=M.rows*M.cols/\∀x∈M.e,0<=x/\x<M.p
instance (M:FM):Decidable M.Rt:=by unfold FM.Rt;infer_instance
structure FM.Ok(M:FM):Prop where
 p:BC M.p
 r:BC M.rows
 c:BC M.cols
def cM(M:FM)(ev:Value):List Value:=[.int .i64 M.p,.int .i64 M.rows,.int .i64 M.cols,ev]
theorem Sk(g:Nat)(n p:Int)(h:Hp)(hD:∀ms,Cell h ms ⟨g,0,none⟩ (.int .i64 p))(ms:List Hp):FnV Tryz.prog 221 ([]++[Value.int .i64 n]++[Value.pointer (some ⟨g,0,none⟩)]).toArray h ms (.bool (decide (n<0\/p<=n))):=by
 refine Gf ?_ ms;show FnT _ _ #[.int .i64 n,.pointer (some ⟨g,0,none⟩)] _ _ _;refine Ap func221 ntmps221 rfl rfl (fun w0 hw0=>?_);simp only[AU];refine Au (Qm rfl (BL (Qm rfl (Qm rfl (Qm rfl ?_)))));refine AS (t:=6) rfl (fun hs=>?_) (fun hs=>?_)
 ·refine Qk rfl (Qk rfl (Qk rfl (Qk rfl (Qm rfl (Qm rfl (Al (Ao ?_)))))));exact Az rfl rfl (by rw[decide_eq_true];exact .inl hs)
 ·refine Qg (AA rfl rfl) rfl (Qg (oF Fp rfl) rfl (Qg (oL rfl U3 (hD _)) rfl (Qg (IS rfl rfl rfl) rfl (Qm rfl (Qm rfl (Al (Ao ?_)))))));exact Az rfl rfl (by congr 1;rw[decide_eq_decide];omega)
theorem XR{p:Int}:(!l.any fun n=>decide (n<0\/p<=n))=decide (∀x∈l,0<=x/\x<p):=by rw[Bool.eq_iff_iff];simp only[Bool.not_eq_true',List.any_eq_false,decide_eq_true_eq];exact⟨fun h x hx=>by have:=h x hx;omega,fun h x hx=>by have:=h x hx;omega⟩
theorem N7{r c:Int}(hF:ID r c):0<=r*c/\r*c<=160000:=by obtain⟨h1,h2,h3,h4⟩:=hF;refine⟨Int.mul_nonneg h1 h2,?_⟩;have:=Int.mul_le_mul h3 h4 h2 (by omega:(0:Int)<=400);omega
theorem UC(M:FM)(ev:Value)(h:Hp)(hO:M.Ok)(hR:RdL cI 1 h [] ev M.e):FnT Tryz.prog 183 #[.agg #[.int .i64 M.p,.int .i64 M.rows,.int .i64 M.cols,ev]] h [] (fun r _ _=>r=.bool (decide M.Rt)):=by
 have hl:=hR.len_le;refine Ap func183 ntmps183 rfl rfl (fun w0 hw0=>?_);simp only[AU];refine Au (AX [_,_,_,_] rfl rfl (by rfl) rfl rfl rfl (fun g1=>Qm rfl (BL (Qf Fp rfl (Ql rfl U3 (Cell.blk 0 rfl rfl) (Qf MQ rfl (Ql rfl U3 (Cell.blk 0 rfl rfl) (Qf J5 rfl (Ql rfl U3 (Cell.blk 0 rfl rfl) (Qx (AO rfl call185 rfl (UD _ _ _ _ hO.p _)) rfl (Qm rfl ?_)))))))))));refine AS (t:=10) rfl (fun hf=>?_) (fun hf=>?_)
 ·have hm:=N7 hf.2;refine Qg (oF Ho rfl) rfl (Qg (oL rfl AR (Cell.blk 0 rfl rfl)) rfl (Qg (Ar hR.rd.any rfl AR rfl) rfl (Qg (oF MQ rfl) rfl (Qg (oL rfl U3 (Cell.blk 0 rfl rfl)) rfl (Qg (oF J5 rfl) rfl (Qg (oL rfl U3 (Cell.blk 0 rfl rfl)) rfl (Qg (oM rfl) rfl (Qg (Du rfl rfl rfl) rfl (Qm rfl (Qm rfl ?_))))))))));refine AS (t:=21) rfl (fun he=>?_) (fun he=>?_)
  ·refine Qg (oF Ho rfl) rfl (Qg (oL rfl AR (Cell.blk 0 rfl rfl)) rfl (Dx fun h' hle hS=>?_));have hR:=hR.up hle;have hD:∀i v,(cM M ev)[i]?=some v->∀ms,Cell h' ms ((⟨g1,0,none⟩:Addr).add i) v:=fun i v hv ms=>(hS i v hv).any;have hD0:∀ms,Cell h' ms ⟨g1,0,none⟩ (.int .i64 M.p):=fun ms=>hD 0 _ rfl ms;refine Qg (BH rfl rfl rfl) rfl (Qg (AO rfl call220 rfl (Gf (Jp M.e ev 221 [.pointer (some ⟨g1,0,none⟩)] (fun n=>decide (n<0\/M.p<=n)) h' hR call221 (fun b _ ms=>Sk g1 b M.p h' hD0 ms)) _)) rfl (Qg (GL rfl rfl) rfl (Qm rfl (Qm rfl (Al (Ao ?_))))));exact Az rfl rfl (by rw[XR];congr 1;rw[decide_eq_decide];unfold FM.Rt;exact⟨fun hx=>⟨hf.1,hf.2,he,hx⟩,fun hx=>hx.2.2.2⟩)
  ·refine Qk rfl (Qk rfl (Qk rfl (Qk rfl (Qk rfl (Qm rfl (Qm rfl (Al (Ao ?_))))))));exact Az rfl rfl (by rw[decide_eq_false];exact fun hx=>he hx.2.2.1)
 ·refine Qk rfl (Qk rfl (Qk rfl (Qk rfl (Qk rfl (Qk rfl (Qk rfl (Qk rfl (Qk rfl (Qm rfl (Qm rfl (Qk rfl (Qk rfl (Qk rfl (Qk rfl (Qk rfl (Qm rfl (Qm rfl (Al (Ao ?_)))))))))))))))))));exact Az rfl rfl (by rw[decide_eq_false];exact fun hx=>hf ⟨hx.1,hx.2.1⟩)
end Go.Proofs.Q

namespace Go.Proofs.Q
open Go.Proofs.Tryz
open Go.Eng Go.RowKit Go.Lin
def ZB(p r c:Int):FM:=if IsP p/\ID r c then⟨p,r,c,replicate (r*c).toNat 0⟩ else FM.nil
def mkM(p:Int)(r c:Nat)(f:Nat->Nat->Int):FM:=⟨p,r,c,Dq r c f⟩
def Yp(r:Value)(ms:List Hp)(M:FM):Prop:=∃ev m,ms=[m]/\r=.agg #[.int .i64 M.p,.int .i64 M.rows,.int .i64 M.cols,ev]/\OwnL cI 1 3 m ev M.e
theorem X3(p r c:Int)(h:Hp)(hI:BC p):FnT Tryz.prog 125 #[.int .i64 p,.int .i64 r,.int .i64 c] h [] (fun v h' ms'=>h=h'/\Yp v ms' (ZB p r c)):=by
 refine Ap func125 ntmps125 rfl rfl (fun w0 hw0=>?_);simp only[AU];refine Au (CN [.int .i64 0,.int .i64 0,.int .i64 0,.slice none 0 0] rfl Ep rfl rfl (fun g6=>Al (Ac (Au (Qm rfl (Qm rfl (Qm rfl (Qx (AO rfl call185 rfl (UD _ _ _ _ hI _)) rfl (Qm rfl (Al ?_))))))))));refine Bu rfl (fun hf=>?_) (fun hf=>?_)
 ·have hf:¬(IsP p/\ID r c):=of_decide_eq_false (by simpa only [Bool.not_eq_true'] using hf);refine Au (Qx (Bf ZQ [.int .i64 0,.int .i64 0,.int .i64 0,.slice none 0 0] [] [_,_,_,_] rfl Ep rfl rfl Qt rfl) rfl ?_);refine Sa 0 [_,_,_,_] Ep rfl (by simp[Value.oneCell']) ?_;refine Al (Ao (Ah (Ma ?_)));exact Bs (vs:=[_,_,_,_]) 1 rfl rfl TT rfl Ep rfl rfl (⟨rfl,_,_,rfl,by unfold ZB;rw[if_neg hf];rfl,by unfold ZB;rw[if_neg hf];exact OwnL.nil Bl⟩)
 ·have hf:IsP p/\ID r c:=of_decide_eq_true (by simpa only [Bool.not_eq_false'] using hf);have hm:=N7 hf.2;obtain⟨n,hn⟩:∃n:Nat,r*c=n:=⟨(r*c).toNat,by omega⟩
  refine Ag (Ab (Au (Qm rfl (Qm rfl (Qm rfl (Qm rfl (Qm rfl (Qx (oM rfl) rfl (CB (n:=n) rfl AR Be rfl rfl rfl (by omega) (by omega) (by omega) (by omega) rfl rfl rfl (fun g19=>Qx (Bf ZQ [.int .i64 0,.int .i64 0,.int .i64 0,.slice none 0 0] [(0,_),(1,_),(2,_),(3,_)] [_,_,_,_] rfl Ep rfl rfl Qt rfl) rfl ?_))))))))));refine Sa 1 [_,_,_,_] Ep rfl (by simp[Value.oneCell']) ?_;refine Al (Ao ?_);exact Bs (vs:=[_,_,_,_]) 1 rfl rfl TT rfl Ep rfl rfl (⟨rfl,_,_,rfl,by unfold ZB;rw[if_pos hf],by unfold ZB;rw[if_pos hf,hn];exact OwnL.rep n 0 (by omega)⟩)
variable {p:Int} {r c:Nat} {f:Nat->Nat->Int}
def InP(p:Int)(r c:Nat)(f:Nat->Nat->Int):Prop:=∀i,i<r->∀j,j<c->0<=f i j/\f i j<p
structure RtM(p:Int)(r c:Nat)(f:Nat->Nat->Int):Prop where
 pr:IsP p
 rl:r<=400
 cl:c<=400
 en:InP p r c f
theorem RtM.bd(R:RtM p r c f):2<=p/\p<=997:=⟨R.pr.1,R.pr.2.1⟩
theorem RtM.i64(R:RtM p r c f):BC p:=⟨by have:=R.bd;omega,by have:=R.bd;omega⟩
theorem RtM.ok(R:RtM p r c f):(mkM p r c f).Ok:=⟨R.i64,⟨by have:=R.rl;show _<=(r:Int);omega,by have:=R.rl;show(r:Int)<=_;omega⟩,⟨by have:=R.cl;show _<=(c:Int);omega,by have:=R.cl;show(c:Int)<=_;omega⟩⟩
theorem RtM.rt(R:RtM p r c f):(mkM p r c f).Rt:=by have h1:=R.rl;have h2:=R.cl;refine⟨R.pr,by unfold ID mkM;simp only;omega,by simp[mkM,Ds],fun x hx=>?_⟩;obtain⟨i,j,hi,hj,rfl⟩:=mem_mat.1 hx;exact R.en i hi j hj
theorem Xg{ev:Value}{h:Hp}(R:RtM p r c f)(hR:RdL cI 1 h [] ev (Dq r c f))(ms:List Hp):FnV Tryz.prog 183 #[.agg #[.int .i64 p,.int .i64 r,.int .i64 c,ev]] h ms (.bool true):=by have:=Gf (UC (mkM p r c f) ev h R.ok hR) ms;rw[decide_eq_true R.rt]at this;exact this
end Go.Proofs.Q

namespace Go.Proofs.Q
open Go.Proofs.Tryz
open Go.Eng Go.RowKit Go.Lin
def cR(p:Int)(r c:Nat)(ev:Value)(ov:List Value):List Value:=.int .i64 p::.int .i64 r::.int .i64 c::ev::ov
abbrev BR(g:Nat)(p:Int)(r c:Nat)(ev:Value)(ov:List Value):Hp:=Bi g 255 (cR p r c ev ov)
theorem Ja(g:Nat)(p:Int)(r c:Nat)(f:Nat->Nat->Int)(ev:Value)(ov:List Value)(i:Nat)(h:Hp)(hS:Seg h [] ⟨g,0,none⟩ (cR p r c ev ov))(hR:RdL cI 1 h [] ev (Dq r c f))(hi:i<r)(hr:r<=400)(hc:c<=800) :
  FnV Tryz.prog 223 #[.pointer (some ⟨g,0,none⟩),.int .i64 i] h [] (BS 1 ev (i*c) ((i+1)*c)):=by
 refine FnT.toV ?_;have hA:=Seg.all hS;have hA0:=hA 0 _ rfl;have e1:(i+1)*c=i*c+c:=by rw[Nat.add_mul,Nat.one_mul]
 have b1:(i+1)*c<=r*c:=Nat.mul_le_mul_right c hi;have b2:r*c<=400*800:=Nat.mul_le_mul hr hc;have el:(Dq r c f).length=r*c:=Ds _ _ _;have e3:((i:Int)+1)*c=i*c+c:=by rw[Int.add_mul,Int.one_mul]
 have hz:∀a:Addr,(a.add 0).add 3=a.add 3:=fun a=>by rw[BD]
 refine Ap func223 ntmps223 rfl rfl (fun w0 hw0=>?_);simp only[AU];refine Au (Qm rfl (Al (Ac (BE (n:=22) (bs:=[true,true,true,true,true,true,true,true,true,true,true,true,true,true,true,true,true,true,true,true,true,false]) [true,true,true,true,true,true,true,true,true,true,true,true,true,true,true,true,true,true,true,true,true] CY (by kernel_rfl) (by kernel_rfl) rfl rfl (Qq rfl (Qq rfl (QF Ff rfl (QF Ho rfl (QL rfl AR (hA _ _ rfl _) (Qq rfl (Qq rfl (Qq rfl (QF Ff rfl (QF J5 rfl (QL rfl U3 (hA _ _ rfl _) (Qp rfl (oM rfl) (Qq rfl (Qp rfl (oA rfl) (Qq rfl (Qq rfl (QF Ff rfl (QF J5 rfl (QL rfl U3 (hA _ _ rfl _) (Qp rfl (oM rfl) (Qp rfl (ML (i*c) ((i+1)*c) hR.rd.any rfl AR Be rfl rfl rfl (by omega) (by omega) (by omega) (by omega)) ?_)))))))))))))))))))))))));unfold Fy;simp only[cons_append,nil_append];refine Qo 21 rfl (Qm rfl (Qw (Qe (Ab (Ao ?_)))));exact Az rfl rfl (rfl)
def turn(f:Nat->Nat->Int)(i:Nat)(G:Nat->Int)(k a b:Nat):Int:=if a=i/\b<k then G b else f a b
theorem turn_zero(f:Nat->Nat->Int)(i:Nat)(G:Nat->Int)(a b:Nat):turn f i G 0 a b=f a b:=if_neg (by omega)
theorem turn_at(f:Nat->Nat->Int)(i:Nat)(G:Nat->Int)(k:Nat):turn f i G k i k=f i k:=if_neg (by omega)
theorem turn_ne(f:Nat->Nat->Int)(i:Nat)(G:Nat->Int)(k a b:Nat)(h:a≠i):turn f i G k a b=f a b:=if_neg (by omega)
theorem turn_step(f:Nat->Nat->Int)(i:Nat)(G:Nat->Int)(k a b:Nat):Ks (turn f i G k) i k (G k) a b=turn f i G (k+1) a b:=by
 unfold Ks turn;by_cases h:a=i/\b=k
 ·rw[if_pos h,if_pos (by omega),h.2]
 ·rw[if_neg h];by_cases h2:a=i/\b<k
  ·rw[if_pos h2,if_pos (by omega)]
  ·rw[if_neg h2,if_neg (by omega)]
theorem turn_all(f:Nat->Nat->Int)(i:Nat)(G:Nat->Int)(c a b:Nat)(hb:b<c):turn f i G c a b=if a=i then G b else f a b:=by
 unfold turn;by_cases h:a=i
 ·rw[if_pos ⟨h,hb⟩,if_pos h]
 ·rw[if_neg (fun x=>h x.1),if_neg h]
theorem Oq(r c:Nat)(f:Nat->Nat->Int)(i:Nat)(G:Nat->Int)(ev:Value)(m:Hp)(cf:FuncId)(fs:List Value)(h:Hp)(hO:OwnL cI 1 3 m ev (Dq r c f))(hi:i<r)(hr:r<=400)(hc:c<=800)
  (hcf:∀xs w,(callFunc cf xs).run Tryz.prog w=.ok (.enter cf xs) w)
  (hG:∀k,k<c->∀m',OwnL cI 1 3 m' ev (Dq r c (turn f i G k))->FnV Tryz.prog cf (fs++[Value.int .i64 k,Value.int .i64 (f i k)]++[]).toArray h [m'] (.int .i64 (G k))) :
  FnT Tryz.prog 225 #[BS 1 ev (i*c) ((i+1)*c),.func (.func cf) fs.toArray #[]] h [m] (fun x h' ms'=>h=h'/\∃m',ms'=[m']/\OwnL cI 1 3 m' ev (Dq r c fun a b=>if a=i then G b else f a b)):=by
 have ec:=Ct c (f i);refine Ap func225 ntmps225 rfl rfl (fun w0 hw0=>?_);simp only[AU];refine Au (Qm rfl (Qx (Ar ((hO.rd (h:=h) (ms:=[m]) Mh).row hi).rd rfl AR rfl) rfl (Qm rfl (Al (Af ?_)))))
 refine Ax (fun q s h' ms'=>∃(k:Nat) (m:Hp),q=c-k/\s=[(0,BS 1 ev (i*c) ((i+1)*c)),(1,.func (.func cf) fs.toArray #[]),(6,BS 1 ev (i*c) ((i+1)*c)),(7,.int .i64 ((Gy c (f i)).length:Nat)),(8,.int .i64 k)]/\h=h'/\ms'=[m]/\k<=c/\OwnL cI 1 3 m ev (Dq r c (turn f i G k)))
  (c-0) _ ⟨0,m,rfl,rfl,rfl,rfl,by omega,by rw[BV (fun a _ b _=>turn_zero f i G a b)];exact hO⟩ Qs ?_
 rintro q s h' ms' ⟨k,m,rfl,rfl,rfl,rfl,hk,hO⟩;refine Au (Qm rfl (Al (Ac ?_)));refine Av rfl (fun hlt=>?_) (fun hlt=>?_)
 ·have hkc:k<c:=by omega
  have ek:=Ct c (turn f i G k i)
  have hcell:Cell h [m] ((AF (BS 1 ev (i*c) ((i+1)*c))).add (k*1)) (.int .i64 (f i k)):=by have:=((hO.rd (h:=h) (ms:=[m]) Mh).row hi).ev hkc;rw[turn_at]at this;exact this
  refine Ag (Ab (Ac (Af (Au (Qm rfl (Qx (AB _ ((hO.rd (h:=h) (ms:=[m]) Mh).row hi).rd rfl AR Be rfl rfl rfl (by omega)) rfl (Ql rfl U3 (hcell) (Qm rfl (Qm rfl (Gn (Qm rfl (Qm rfl (Qm rfl (Qm rfl (Qm rfl (Qx (BY (cs:=[]) rfl rfl hcf rfl (hG k hkc m hO)) rfl (Qx (AB _ ((hO.rd (h:=h) (ms:=[m]) Mh).row hi).rd rfl AR Be rfl rfl rfl (by omega)) rfl (FP 0 i k hO hi hkc rfl Be rfl rfl rfl rfl rfl (fun m' hO'=>Aj (Ai (Ab (Ad (Qx (oA rfl) rfl (Qm rfl (Aj ?_)))))))))))))))))))))))));refine Ak (c-(k+1)) _ (by omega) ⟨k+1,m',rfl,rfl,rfl,rfl,by omega,by rw[BV (fun a _ b _=>turn_step f i G k a b)]at hO';exact hO'⟩ Qs
 ·refine As (Aa (Aa (Ae ?_)));obtain rfl:k=c:=by omega
  exact BO rfl (⟨rfl,m,rfl,by rw[BV (fun a _ b hb=>turn_all f i G k a b hb)]at hO;exact hO⟩)
def swp(f:Nat->Nat->Int)(i j k a b:Nat):Int:=if b<k then f (G0 i j a) b else f a b
theorem NP(f:Nat->Nat->Int)(i j k a b:Nat):Ks (Ks (swp f i j k) i k (f j k)) j k (f i k) a b=swp f i j (k+1) a b:=by
 unfold Ks swp G0;by_cases h1:a=j/\b=k
 ·obtain⟨rfl,rfl⟩:=h1;rw[if_pos ⟨rfl,rfl⟩,if_pos (by omega)];by_cases h2:a=i
  ·subst h2;rw[if_pos rfl]
  ·rw[if_neg h2,if_pos rfl]
 ·rw[if_neg h1];by_cases h2:a=i/\b=k
  ·obtain⟨rfl,rfl⟩:=h2;rw[if_pos ⟨rfl,rfl⟩,if_pos (by omega),if_pos rfl]
  ·rw[if_neg h2];by_cases h3:b<k
   ·simp only[h3,show b<k+1 by omega,if_true]
   ·by_cases h4:b<k+1
    ·have hbk:b=k:=by omega
     have hai:¬a=i:=fun e=>h2 ⟨e,hbk⟩;have haj:¬a=j:=fun e=>h1 ⟨e,hbk⟩;simp only[h3,h4,hai,haj,if_true,if_false]
    ·simp only[h3,h4,if_false]
theorem Yz(f:Nat->Nat->Int)(i j k a:Nat):swp f i j k a k=f a k:=if_neg (by omega)
theorem TB(f:Nat->Nat->Int)(i j a b:Nat):swp f i j 0 a b=f a b:=if_neg (by omega)
theorem XU(f:Nat->Nat->Int)(i j c a b:Nat)(hb:b<c):swp f i j c a b=f (G0 i j a) b:=if_pos hb
theorem Wv(g:Nat)(p:Int)(r c:Nat)(f:Nat->Nat->Int)(ev:Value)(ov:List Value)(m:Hp)(i j:Nat)(h:Hp)(hO:OwnL cI 1 3 m ev (Dq r c f))(hi:i<r)(hj:j<r)(hr:r<=400)(hc:c<=800) :
  FnT Tryz.prog 224 #[.pointer (some ⟨g,0,none⟩),.int .i64 i,.int .i64 j] h [BR g p r c ev ov,m] (fun x h' ms'=>h=h'/\∃m',ms'=[BR g p r c ev ov,m']/\OwnL cI 1 3 m' ev (Dq r c fun a b=>f (G0 i j a) b)):=by
 have hRi:=(hO.rd (h:=h) (ms:=[m]) Mh).row hi;have ec:=Ct c (f i);refine Ap func224 ntmps224 rfl rfl (fun w0 hw0=>?_);simp only[AU];refine Au (Qm rfl (Qm rfl (Qx (AO rfl call223 rfl (Co fun h' hl hm=>Ja g p r c f ev ov _ h' (Seg.ofLe (hm _ Mh)) (hO.rdh (hm _ (List.Mem.tail _ Mh))) (by assumption) hr hc)) rfl (Qm rfl (Qm rfl (Qx (AO rfl call223 rfl (Co fun h' hl hm=>Ja g p r c f ev ov _ h' (Seg.ofLe (hm _ Mh)) (hO.rdh (hm _ (List.Mem.tail _ Mh))) (by assumption) hr hc)) rfl (Qm rfl (Qm rfl (BL (Qm rfl (Qx (DO hRi.rd rfl AR rfl) rfl (Qm rfl (Al (Af ?_))))))))))))))
 refine Ax (fun q s h' ms'=>∃(k:Nat) (m:Hp),q=c-k/\s=[(6,BS 1 ev (i*c) ((i+1)*c)),(7,BS 1 ev (j*c) ((j+1)*c)),(16,.int .i64 ((Gy c (f i)).length:Nat)),(17,.int .i64 k)]/\h=h'/\ms'=[BR g p r c ev ov,m]/\k<=c/\OwnL cI 1 3 m ev (Dq r c (swp f i j k)))
  (c-0) _ ⟨0,m,rfl,rfl,rfl,rfl,by omega,by rw[BV (fun a _ b _=>TB f i j a b)];exact hO⟩ Qs ?_
 rintro q s h' ms' ⟨k,m,rfl,rfl,rfl,rfl,hk,hO⟩;have eci:=Ct c (swp f i j k i);have ecj:=Ct c (swp f i j k j);refine Au (Qm rfl (Al (Ac ?_)));refine Av rfl (fun hlt=>?_) (fun hlt=>?_)
 ·have hkc:k<c:=by omega
  have hR2:=fun i hi=>(hO.rd (h:=h) (ms:=[BR g p r c ev ov,m]) (List.Mem.tail _ Mh)).row (i:=i) hi
  have hcell:∀i (hi:i<r),Cell h [BR g p r c ev ov,m] ((AF (BS 1 ev (i*c) ((i+1)*c))).add (k*1)) (.int .i64 (f i k)):=fun i hi=>by have:=(hR2 i hi).ev hkc;rw[Yz]at this;exact this
  refine Ag (Ab ?_);refine Bb (fun s h' ms'=>∃(m:Hp),s=[(6,BS 1 ev (i*c) ((i+1)*c)),(7,BS 1 ev (j*c) ((j+1)*c)),(16,.int .i64 ((Gy c (f i)).length:Nat)),(17,.int .i64 k)]/\h=h'/\ms'=[BR g p r c ev ov,m]/\OwnL cI 1 3 m ev (Dq r c (swp f i j (k+1)))) ?_ (fun s h ms hI=>?_)
  ·refine Af (Au (Qm rfl (Qm rfl (Al (BE (n:=16) (bs:=[true,true,true,true,true,true,true,false,true,true,true,false,true,false,true,false]) [true,true,true,true,true,true,true,false,true,true,true,false,true,false,true] CY (by kernel_rfl) (by kernel_rfl) rfl rfl (Qq rfl (Qq rfl (Qq rfl (Qq rfl (Qq rfl (Qq rfl (Qp rfl (CI _ (hR2 j hj).rd rfl AR Be rfl rfl rfl (by omega)) (Qq rfl (Qq rfl (Qp rfl (CI _ (hR2 i hi).rd rfl AR Be rfl rfl rfl (by omega)) (Qp rfl (CI _ (hR2 i hi).rd rfl AR Be rfl rfl rfl (by omega)) (Qp rfl (CI _ (hR2 j hj).rd rfl AR Be rfl rfl rfl (by omega)) ?_)))))))))))))))));unfold Fy;simp only[cons_append,nil_append];refine A5 [7,11] (by kernel_rfl) rfl ?_;refine Ay rfl ?_ ?_
   ·refine Ql rfl U3 (hcell j hj) (Qw (Qo 11 rfl (Ql rfl U3 (hcell i hi) (Qw (Qo 13 rfl (FP 1 i k hO hi hkc rfl Be rfl rfl rfl rfl rfl (fun m1 hO1=>Qw (Qo 15 rfl (FP 1 j k hO1 hj hkc rfl Be rfl rfl rfl rfl rfl (fun m2 hO2=>Qw (Qe (Ai ?_))))))))))));refine AC _ ⟨m2,rfl,rfl,rfl,by rw[BV (fun a _ b _=>NP f i j k a b)]at hO2;exact hO2⟩ Qs
   refine Ay rfl ?_ ?_
   ·refine Ql rfl U3 (hcell i hi) (Qw (Qo 7 rfl (Ql rfl U3 (hcell j hj) (Qw (Qo 13 rfl (FP 1 i k hO hi hkc rfl Be rfl rfl rfl rfl rfl (fun m1 hO1=>Qw (Qo 15 rfl (FP 1 j k hO1 hj hkc rfl Be rfl rfl rfl rfl rfl (fun m2 hO2=>Qw (Qe (Ai ?_))))))))))));refine AC _ ⟨m2,rfl,rfl,rfl,by rw[BV (fun a _ b _=>NP f i j k a b)]at hO2;exact hO2⟩ Qs
   exact A4
  obtain⟨m,rfl,rfl,rfl,hO⟩:=hI
  ·refine Ad (Qx (oA rfl) rfl (Qm rfl (Aj ?_)));refine Ak (c-(k+1)) _ (by omega) ⟨k+1,m,rfl,rfl,rfl,rfl,by omega,hO⟩ Qs
 ·refine As (Aa (Aa (Ae ?_)));obtain rfl:k=c:=by omega
  exact BO rfl (⟨rfl,m,rfl,by rw[BV (fun a _ b hb=>XU f i j k a b hb)]at hO;exact hO⟩)
variable {p:Int} {n:Nat} {ov:List Int}
theorem JB{a b:Int}(ha:0<=a/\a<p)(hb:0<=b/\b<p)(hp:p<=997):0<=a*b/\a*b<=994009:=by refine⟨Int.mul_nonneg ha.1 hb.1,?_⟩;have:=Int.mul_le_mul (show a<=997 by omega) (show b<=997 by omega) hb.1 (by omega:(0:Int)<=997);omega
theorem Cg.pow{a b:Int}(h:Cg p a b):∀n:Nat,Cg p (a^n) (b^n)
 | 0=>Cg.of_eq (by rw[Int.pow_zero,Int.pow_zero])
 | n+1=>by rw[Int.pow_succ,Int.pow_succ];exact Cg.mul (Cg.pow h n) h
theorem XX(hp:IsP p)(h1:1<=n)(hn:(n:Int)<p){out:Int}(ho:Cg p out ((n:Int)^(p.toNat-2))):(n:Int)*out%p=1:=by
 have h2:=hp.1;have hd:¬p.toNat∣n:=fun hd=>by have:=Nat.le_of_dvd (by omega) hd;omega
 have hf:=U1 hp.prm hd
 have h3:Cg p ((n:Int)*out) ((n:Int)^(p.toNat-1)):=by have:=Cg.mul (Cg.refl p (n:Int)) ho;rw[show p.toNat-1=(p.toNat-2)+1 by omega,Int.pow_succ,Int.mul_comm _ (n:Int)];exact this
 have h4:(n:Int)^(p.toNat-1)%p=1:=by
  have h5:((n^(p.toNat-1)%p.toNat:Nat):Int)=1:=by rw[hf];rfl
  rw[Int.natCast_emod,Int.natCast_pow,Int.toNat_of_nonneg (by omega)]at h5;exact h5
 rw[Cg.iff_mod.1 h3,h4]
def Ovk(p:Int)(ov:List Int):Prop:=ov.length=998/\∀n (h:n<ov.length),ov[n]=0\/(0<ov[n]/\ov[n]<p/\(n:Int)*ov[n]%p=1)
theorem Y9{r c:Nat}{ev:Value}(hn:n<ov.length):(cR p r c ev (ov.flatMap cI))[4+n*1]?=some (.int .i64 ov[n]):=by have:=Et Bl ov n hn 0 (.int .i64 ov[n]) rfl;rw[Nat.add_zero]at this;rw[show 4+n*1=n*1+4 by omega];exact this
theorem YW{r c:Nat}{ev:Value}(x:Int):(cR p r c ev (ov.flatMap cI)).set (4+n*1) (.int .i64 x)=cR p r c ev ((ov.set n x).flatMap cI):=by rw[show 4+n*1=n+1+1+1+1 by omega,<-YP];rfl
theorem Ovk.set(H:Ovk p ov){x:Int}(h0:0<x)(h1:x<p)(h2:(n:Int)*x%p=1):Ovk p (ov.set n x):=by
 refine⟨by simp[H.1],fun k hk=>?_⟩;rw[List.getElem_set];by_cases e:n=k
 ·subst e;rw[if_pos rfl];exact .inr ⟨h0,h1,h2⟩
 ·rw[if_neg e];exact H.2 k (by simpa using hk)
theorem N3(a:Int)(e:Nat):a^e=(a*a)^(e/2)*a^(e%2):=by
 conv=>lhs;rw[<-Nat.div_add_mod e 2,Int.pow_add,Int.pow_mul]
 rw[show a^2=a*a by rw[Int.pow_succ,Int.pow_succ,Int.pow_zero,Int.one_mul]]
theorem R0(g:Nat)(p:Int)(r c:Nat)(ev:Value)(ov:List Int)(n:Nat)(h:Hp)(hp:IsP p)(hov:Ovk p ov)(h1n:1<=n)(hn:(n:Int)<p) :
  FnT Tryz.prog 226 #[.pointer (some ⟨g,0,none⟩),.int .i64 n] h [BR g p r c ev (ov.flatMap cI)] (fun x h' ms'=>h=h'/\∃(v:Int) (ov':List Int),x=.int .i64 v/\ms'=[BR g p r c ev (ov'.flatMap cI)]/\Ovk p ov'/\0<v/\v<p/\(n:Int)*v%p=1):=by
 have hb:2<=p/\p<=997:=⟨hp.1,hp.2.1⟩
 have hl:=hov.1;have hnl:n<ov.length:=by omega
 have hc:=hov.2 n hnl
 have hcell:Cell h [BR g p r c ev (ov.flatMap cI)] (((⟨g,0,none⟩:Addr).add 4).add (n*1)) (.int .i64 ov[n]):=by rw[BD];exact Cell.blk 0 rfl (Y9 hnl)
 have hP:∀ov':List Value,Cell h [BR g p r c ev ov'] (((⟨g,0,none⟩:Addr).add 0).add 0) (.int .i64 p):=fun ov'=>by rw[BD];exact Cell.blk 0 rfl rfl
 refine Ap func226 ntmps226 rfl rfl (fun w0 hw0=>?_);simp only[AU];refine Au (Qm rfl (Al (Ac (Au (Qm rfl (Qm rfl (Qm rfl (Qf MR rfl (Qx (FF (n) rfl Zp Be rfl rfl (by omega) (by omega)) rfl (Ql rfl U3 (hcell) (Qm rfl (Al ?_))))))))))));refine Av rfl (fun hpos=>?_) (fun hpos=>?_)
 ·have hc:0<ov[n]/\ov[n]<p/\(n:Int)*ov[n]%p=1:=by
   rcases hc with h0|h0
   ·omega
   ·exact h0
  refine Au (Qm rfl (Qm rfl (Qm rfl (Qf MR rfl (Qx (FF (n) rfl Zp Be rfl rfl (by omega) (by omega)) rfl (Ql rfl U3 (hcell) (Qm rfl (Al (Ao (Ah ?_))))))))));exact Az rfl rfl (⟨rfl,_,ov,rfl,rfl,hov,hc.1,hc.2.1,hc.2.2⟩)
 ·refine Ag (Ab (Au (Qm rfl (Qm rfl (Qm rfl (Al (Ac (Au (Qm rfl (Qm rfl (Qf Ff rfl (Qf Fp rfl (Ql rfl U3 (hP _) (Qx (oS rfl) rfl (Qm rfl (Al (Af ?_)))))))))))))))))
  refine Ax (fun q s h' ms'=>∃(e:Nat) (out pw y:Int),q=e/\s=[(0,.pointer (some ⟨g,0,none⟩)),(1,.int .i64 n),(5,.int .i64 out),(6,.int .i64 pw),(7,.int .i64 y)]/\h=h'/\ms'=[BR g p r c ev (ov.flatMap cI)]/\y=e/\e<=1000/\0<=out/\out<p/\0<=pw/\pw<p/\Cg p (out*pw^e) ((n:Int)^(p.toNat-2)))
   (p.toNat-2) _ ⟨p.toNat-2,1,(n:Int),p-2,rfl,rfl,rfl,rfl,by omega,by omega,by omega,by omega,by omega,by omega,by rw[Int.one_mul];exact Cg.refl _ _⟩ Qs ?_
  rintro e s h' ms' ⟨e',out,pw,y,rfl,rfl,rfl,rfl,rfl,he,o1,o2,q1,q2,hcg⟩;have b1:=JB ⟨o1,o2⟩ ⟨q1,q2⟩ hb.2;have b2:=JB ⟨q1,q2⟩ ⟨q1,q2⟩ hb.2;have m1:=Int.emod_nonneg (out*pw) (show p≠0 by omega);have m2:=Int.emod_lt_of_pos (out*pw) (show 0<p by omega);have m3:=Int.emod_nonneg (pw*pw) (show p≠0 by omega);have m4:=Int.emod_lt_of_pos (pw*pw) (show 0<p by omega);have hh:Cg p ((pw*pw%p)^(e/2)) ((pw*pw)^(e/2)):=Cg.pow (Cg.mod _ _) _;refine Ac (Au (Qm rfl (Qm rfl (Al ?_))));refine Av rfl (fun hlt=>?_) (fun hlt=>?_)
  ·refine Ag (Ab (Ac (Af (Ac (Au (Qm rfl (Qx (VN rfl rfl rfl (by omega)) rfl (Qm rfl (Al ?_)))))))));refine Av rfl (fun hodd=>?_) (fun hodd=>?_)
   ·refine Ad (Qm rfl (Qm rfl (Qx (oM rfl) rfl (Qm rfl (Qm rfl (Qf Ff rfl (Qf Fp rfl (Ql rfl U3 (hP _) (Qx (BM rfl rfl rfl (by omega) (by omega)) rfl (Qm rfl (Gn (Qm rfl (Qm rfl (Qx (oM rfl) rfl (Qm rfl (Qm rfl (Qf Ff rfl (Qf Fp rfl (Ql rfl U3 (hP _) (Qx (BM rfl rfl rfl (by omega) (by omega)) rfl (Qm rfl (Aj (Ai (Ab (Ad (Qm rfl (Qx (L7 (n:=1) rfl rfl rfl (by omega)) rfl (Qm rfl (Aj ?_)))))))))))))))))))))))))))));refine Ak (e/2) _ (by omega) ⟨e/2,out*pw%p,pw*pw%p,((e/2:Nat):Int),rfl,rfl,rfl,rfl,rfl,by omega,m1,m2,m3,m4,?_⟩ Qs;refine Cg.trans (Cg.mul (Cg.mod _ _) hh) (Cg.trans (Cg.of_eq ?_) hcg);rw[N3 pw e,show e%2=1 by omega,Int.pow_succ,Int.pow_zero,Int.one_mul,Int.mul_assoc,Int.mul_comm pw]
   ·refine Ag (Ab (Ad (Qm rfl (Qm rfl (Qx (oM rfl) rfl (Qm rfl (Qm rfl (Qf Ff rfl (Qf Fp rfl (Ql rfl U3 (hP _) (Qx (BM rfl rfl rfl (by omega) (by omega)) rfl (Qm rfl (Aj (Ai (Ab (Ad (Qm rfl (Qx (L7 (n:=1) rfl rfl rfl (by omega)) rfl (Qm rfl (Aj ?_))))))))))))))))))));refine Ak (e/2) _ (by omega) ⟨e/2,out,pw*pw%p,((e/2:Nat):Int),rfl,rfl,rfl,rfl,rfl,by omega,o1,o2,m3,m4,?_⟩ Qs;refine Cg.trans (Cg.mul (Cg.refl _ _) hh) (Cg.trans (Cg.of_eq ?_) hcg);rw[N3 pw e,show e%2=0 by omega,Int.pow_zero,Int.mul_one]
  ·obtain rfl:e=0:=by omega
   rw[Int.pow_zero,Int.mul_one]at hcg;have hinv:=XX hp h1n hn hcg
   have hout:0<out:=by
    rcases (by omega:out=0\/0<out) with h0|h0
    ·subst h0;simp at hinv
    ·exact h0
   refine As (Aa (Aa (Ae (Ab (Au (Qm rfl (Qm rfl (Qm rfl (Qm rfl (Qf MR rfl (Qx (FF (n) rfl Zp Be rfl rfl (by omega) (by omega)) rfl ?_)))))))))));refine AK 0 (4+n*1) rfl Be rfl rfl rfl rfl (BD _ _ _) (by show _<(_::_::_::_::_:List Value).length;simp only[List.length_cons,A7 Bl,hl];omega) rfl rfl ?_;rw[YW];refine BL (Qm rfl (Qm rfl (Al (Ao ?_))));exact Az rfl rfl (⟨rfl,out,ov.set n out,rfl,rfl,hov.set hout o2 hinv,hout,o2,hinv⟩)
theorem Te(g:Nat)(p:Int)(r c:Nat)(ev:Value)(ov:List Int)(n:Int)(h:Hp)(hp:IsP p)(hov:Ovk p ov)(h1n:1<=n)(hn:n<p) :
  FnT Tryz.prog 226 #[.pointer (some ⟨g,0,none⟩),.int .i64 n] h [BR g p r c ev (ov.flatMap cI)] (fun x h' ms'=>h=h'/\∃(v:Int) (ov':List Int),x=.int .i64 v/\ms'=[BR g p r c ev (ov'.flatMap cI)]/\Ovk p ov'/\0<v/\v<p/\n*v%p=1):=by
 obtain⟨k,rfl⟩:=Int.eq_ofNat_of_zero_le (show 0<=n by omega);exact R0 g p r c ev ov k h hp hov (by omega) hn
end Go.Proofs.Q

namespace Go.Proofs.Q
open Go.Proofs.Tryz
open Go.Eng Go.RowKit Go.Lin
theorem X1(t p k n:Int)(h:Hp)(hp:IsP p)(hn:0<=n/\n<p)(ht:0<=t/\t<p)(ms:List Hp) :
  FnV Tryz.prog 227 #[.agg #[.slice none 0 0,.int .i64 t,.int .i64 p],.int .i64 k,.int .i64 n] h ms (.int .i64 (n*t%p)):=by
 refine Gf ?_ ms;have hb:2<=p/\p<=997:=⟨hp.1,hp.2.1⟩
 have b1:=JB hn ht hb.2;refine Ap func227 ntmps227 rfl rfl (fun w0 hw0=>?_);simp only[AU];refine Au (AX [_,_,_] rfl rfl (by rfl) rfl rfl rfl (fun g3=>Qm rfl (BL (Qm rfl (Qf P5 rfl (Ql rfl U3 (Cell.blk 0 rfl rfl) (Qx (oM rfl) rfl (Qf PV rfl (Ql rfl U3 (Cell.blk 0 rfl rfl) (Qx (BM rfl rfl rfl (by omega) (by omega)) rfl (Qm rfl (Al (Ao ?_)))))))))))));exact Az rfl rfl (rfl)
theorem Yw(r c:Nat)(F:Nat->Nat->Int)(ev:Value)(at_ k:Nat)(t p n:Int)(h:Hp)(hR:RdL cI 1 h [] ev (Dq r c F))(ha:at_<r)(hk:k<c)(hp:IsP p)(hn:0<=n/\n<p)(hF:0<=F at_ k/\F at_ k<p)(ht:0<=t/\t<p) :
  FnV Tryz.prog 228 #[.agg #[BS 1 ev (at_*c) ((at_+1)*c),.int .i64 t,.int .i64 p],.int .i64 k,.int .i64 n] h [] (.int .i64 ((n+F at_ k*t)%p)):=by
 refine FnT.toV ?_;have hb:2<=p/\p<=997:=⟨hp.1,hp.2.1⟩
 have b1:=JB hF ht hb.2;have hRa:=hR.row ha;have ea:=Ct c (F at_);refine Ap func228 ntmps228 rfl rfl (fun w0 hw0=>?_);simp only[AU];refine Au (AX [_,_,_] rfl rfl (by rfl) rfl rfl rfl (fun g3=>Qm rfl (Al (AD fun h' hle hS=>?_))));have hRa:=hRa.up hle;have hA:=Seg.all hS;have hA0:=hA 0 _ rfl;refine Ac (BE (n:=14) (bs:=[true,true,true,true,true,true,true,true,true,true,true,true,true,false]) [true,true,true,true,true,true,true,true,true,true,true,true,true] CY (by kernel_rfl) (by kernel_rfl) rfl rfl (Qq rfl (QF WG rfl (QL rfl AR (hA _ _ rfl _) (Qq rfl (Qp rfl (BU (k) hRa.rd.any rfl AR Be rfl rfl) (QL rfl U3 (hRa.any.ev hk) (QF P5 rfl (QL rfl U3 (hA _ _ rfl _) (Qp rfl (oM rfl) (Qp rfl (oA rfl) (QF PV rfl (QL rfl U3 (hA _ _ rfl _) (Qp rfl (BM rfl rfl rfl (by omega) (by omega)) ?_))))))))))))));unfold Fy;simp only[cons_append,nil_append];refine Qo 13 rfl (Qm rfl (Qw (Qe (Ab (Ao ?_)))));exact Az rfl rfl (rfl)
theorem V2(l:List Int)(v:Value)(h:Hp)(hR:RdL cI 1 h [] v l)(hl:l.length<=1000000):FnT Tryz.prog 222 #[v] h [] (fun x h' ms'=>h=h'/\∃m,ms'=[m]/\OwnL cI 1 3 m x l):=by
 refine Ap func222 ntmps222 rfl rfl (fun w0 hw0=>?_);simp only[AU];refine Au (Qm rfl (Al (Ac (Au (Qm rfl (Qx (Kp hR.rd.any rfl AR rfl rfl) rfl (Al ?_)))))));refine Bu rfl (fun hn=>?_) (fun hn=>?_)
 ·have h0:=I4 hR.rd hn;obtain rfl:l=[]:=List.eq_nil_of_length_eq_zero h0;refine Au (Qm rfl (Al (Ao (Ah (Ma ?_)))));exact Az rfl rfl (⟨rfl,_,rfl,OwnL.nil Bl⟩)
 ·refine Ag (Ab (Au ?_));refine Aq [] [] [] rfl AR Be rfl (by omega) (by kernel_rfl) (by repeat (first|exact trivial|refine⟨⟨by first|rfl|exact(hR.rd.any).cells|exact Rd.cells ‹_›|exact(RdL.rd ‹_›).cells,rfl,rfl⟩,?_⟩)) rfl rfl rfl rfl (fun g5=>?_);refine Qm rfl ?_;have hO:OwnL cI 1 3 (Bi g5 3 []) (.slice (some ⟨g5,0,none⟩) 0 0) []:=OwnL.blk (l:=([]:List Int)) 0 Bl rfl (by omega);refine AQ 0 hO hR.any rfl AR Be rfl (by omega) rfl rfl rfl Cm (by simp;omega) (by simp;omega) rfl rfl rfl (fun v' m' hO'=>?_);refine Qm rfl (Al (Ao ?_));exact Az rfl rfl (⟨rfl,m',rfl,hO'⟩)
theorem YM{o:Oper}{s:Aw}{h:Hp}{ms:List Hp}{x:Operand}{p:Int}{r c:Nat}{ev':Value}(ho:o.op=.build 255 #[(0,x)])(hx:ev s x=some (.agg #[.int .i64 p,.int .i64 r,.int .i64 c,ev']))(h1:ev'.oneCell'=true) :
  OX Tryz.prog o s h ms (.agg (cR p r c ev' (replicate 998 (.int .i64 0))).toArray):=
 Bf ZI ([.int .i64 0,.int .i64 0,.int .i64 0,.slice none 0 0]++replicate 998 (.int .i64 0)) [(0,[.int .i64 p,.int .i64 r,.int .i64 c,ev'])] _ (lp:=[(0,x)]) (vs:=[(0,.agg #[.int .i64 p,.int .i64 r,.int .i64 c,ev'])]) ho Z9 (by kernel_rfl) (by simp only[Yt,hx]) ⟨⟨rfl,rfl,rfl⟩,trivial⟩ rfl
def V7(pv:List Nat):List Int:=pv.map fun(k:Nat)=>(k:Int)
theorem MN(pv:List Nat):(V7 pv).length=pv.length:=by simp[V7]
theorem T4{h:Hp}{ms:List Hp}{m2:Hp}{vp:Value}{pv:List Nat}(O:OwnL cI 1 3 m2 vp (V7 pv))(hm:m2∈ms):Rd h ms vp 1 pv.length ((V7 pv).flatMap cI):=by
 have:=(O.rd (h:=h) hm).rd
 rwa [MN]at this
theorem AaC(p:Int):Ovk p (replicate 998 0):=⟨List.length_replicate,fun n hn=>.inl (List.getElem_replicate _)⟩
def LH(p:Int)(t i j:Nat)(v:Int)(F:Nat->Nat->Int)(k a b:Nat):Int:=if a<k then PJ p t i j v F a b else D4 p t i v F a b
theorem Yg(p:Int)(t i j:Nat)(v:Int)(F:Nat->Nat->Int)(k b:Nat):LH p t i j v F k t b=D4 p t i v F t b:=by
 unfold LH;split
 ·unfold PJ;rw[if_pos rfl]
 ·rfl
theorem Q8(p:Int)(t i j:Nat)(v:Int)(F:Nat->Nat->Int)(k b:Nat):LH p t i j v F k k b=D4 p t i v F k b:=if_neg (by omega)
theorem UX(p:Int)(t i j:Nat)(v:Int)(F:Nat->Nat->Int)(k a b:Nat)(hk:k≠t):(if a=k then(D4 p t i v F k b+D4 p t i v F t b*(p-D4 p t i v F k j))%p else LH p t i j v F k a b)=LH p t i j v F (k+1) a b:=by
 unfold LH;by_cases h:a=k
 ·subst h;rw[if_pos rfl,if_pos (by omega)];unfold PJ;rw[if_neg hk]
 ·rw[if_neg h];by_cases h2:a<k
  ·rw[if_pos h2,if_pos (by omega)]
  ·rw[if_neg h2,if_neg (by omega)]
theorem NH(p:Int)(t i j:Nat)(v:Int)(F:Nat->Nat->Int)(k a b:Nat)(h:k=t\/(D4 p t i v F k j=0/\0<=D4 p t i v F k b/\D4 p t i v F k b<p)):LH p t i j v F k a b=LH p t i j v F (k+1) a b:=by
 unfold LH;by_cases h1:a<k
 ·rw[if_pos h1,if_pos (by omega)]
 ·rw[if_neg h1];by_cases h2:a=k
  ·subst h2;rw[if_pos (by omega)];unfold PJ;rcases h with rfl|⟨h3,h4,h5⟩
   ·rw[if_pos rfl]
   ·by_cases h6:a=t
    ·rw[if_pos h6,h6]
    ·rw[if_neg h6,h3,Int.sub_zero,Int.add_mul_emod_self_right,Int.emod_eq_of_lt h4 h5]
  ·rw[if_neg (by omega)]
theorem Tj(p:Int)(t i j:Nat)(v:Int)(F:Nat->Nat->Int)(a b:Nat):(if a=t then F (G0 t i t) b*v%p else F (G0 t i a) b)=LH p t i j v F 0 a b:=by unfold LH D4;rw[if_neg (show ¬a<0 by omega)]
theorem Xf(p:Int)(t i j:Nat)(v:Int)(F:Nat->Nat->Int)(r a b:Nat)(ha:a<r):LH p t i j v F r a b=PJ p t i j v F a b:=if_pos ha
theorem Zg{p:Int}(hp:2<=p){r c t i:Nat}{v:Int}{F:Nat->Nat->Int}(ht:t<r)(hi:i<r)(hF:∀a,a<r->∀b,b<c->0<=F a b/\F a b<p)(a:Nat)(ha:a<r)(b:Nat)(hb:b<c):0<=D4 p t i v F a b/\D4 p t i v F a b<p:=by
 unfold D4;split
 ·exact⟨Int.emod_nonneg _ (by omega),Int.emod_lt_of_pos _ (by omega)⟩
 ·exact hF _ (GN ht hi ha) b hb
theorem TG(pv:List Nat)(j:Nat):V7 pv++[(j:Int)]=V7 (pv++[j]):=by simp[V7]
theorem WJ{h:Hp}{ms:List Hp}{g:Nat}{p:Int}{r c:Nat}{ev:Value}{ov:List Value}(hm:ms[0]?=some (BR g p r c ev ov)):Seg h ms ((⟨g,0,none⟩:Addr).add 0) [.int .i64 p,.int .i64 r,.int .i64 c,ev]:=fun k u hu=>by
 rw[BD,Nat.zero_add];refine Cell.blk 0 hm ?_;rcases k with _|_|_|_|k
 ·exact hu
 ·exact hu
 ·exact hu
 ·exact hu
 ·simp at hu
structure Ech(p:Int)(r c:Nat)(f F:Nat->Nat->Int)(pv:List Nat):Prop where
 red:Go.Lin.Red p r c f F pv c
theorem PM(p:Int)(r c:Nat)(f:Nat->Nat->Int)(ev:Value)(h:Hp)(hp:IsP p)(hr:r<=400)(hc:c<=800)(hf:InP p r c f)(hR:RdL cI 1 h [] ev (Dq r c f)) :
  FnT Tryz.prog 184 #[.agg #[.int .i64 p,.int .i64 r,.int .i64 c,ev]] h [] (fun x h' ms'=>h.le h'/\∃(F:Nat->Nat->Int) (pv:List Nat) (eu vp:Value) (m m2:Hp),x=.tuple #[.agg #[.int .i64 p,.int .i64 r,.int .i64 c,eu],vp]/\ms'=[m,m2]/\OwnL cI 1 3 m eu (Dq r c F)/\OwnL cI 1 3 m2 vp (V7 pv)/\Ech p r c f F pv):=by
 have hb:2<=p/\p<=997:=⟨hp.1,hp.2.1⟩
 have e1:=hR.rd.one;have b2:r*c<=400*800:=Nat.mul_le_mul hr hc;have el:(Dq r c f).length=r*c:=Ds _ _ _;refine Ap func184 ntmps184 rfl rfl (fun w0 hw0=>?_);simp only[AU];refine Au (AX [_,_,_,_] rfl rfl (by rfl) rfl rfl rfl (fun g1=>CN [.int .i64 0,.int .i64 0,.int .i64 0,.slice none 0 0] rfl Ep rfl rfl (fun g2=>Qm rfl (Al (UE (Au (Qf Ho rfl (Ql rfl AR (Cell.blk 1 rfl rfl) (Qc call222 rfl (V2 (Dq r c f) ev h hR (by omega)) (fun eu h1 ms1 l1 hF=>?_))))))))));obtain⟨rfl,m,rfl,hO⟩:=hF;have e2:=hO.o1;refine Qf Ho rfl ?_;refine AK 2 _ rfl Cb rfl rfl (by assumption) rfl rfl (by(simp;done)) rfl rfl ?_;refine Al (Bo 2 rfl fun h' hle hS=>?_);have hA:=Seg.all hS;have hA0:=hA 0 _ rfl;refine Au (Qx (oG rfl TT Ep (Seg.any hS)) rfl (Qx (YM rfl rfl e2) rfl (AX (cR p r c eu (replicate 998 (.int .i64 0))) rfl rfl rfl rfl rfl rfl (fun g17=>?_))));rw[K1];refine Qm rfl (BL (Qm rfl (Al (Ac (Vk (Ab (BG (H6 (ms':=[BR g17 p r c eu ((replicate 998 0).flatMap cI),m,Hp.emp,Bi g2 65 [.int .i64 0,.int .i64 0,.int .i64 0,.slice none 0 0]]) ((List.Perm.swap _ _ _).trans ((List.Perm.swap _ _ _).cons _)) (Ac (Au (Qf J5 rfl (Ql rfl U3 (hA _ _ rfl _) (Qm rfl (Al (Af ?_)))))))))))))))
 refine Ax (fun q s hh ms'=>∃(j:Nat) (F:Nat->Nat->Int) (pv:List Nat) (vp:Value) (ov:List Int) (m m2:Hp),q=c-j/\s=[(1,.pointer (some ⟨g1,0,none⟩)),(2,.pointer (some ⟨g2,0,none⟩)),(4,.pointer (some ⟨g17,0,none⟩)),(5,vp),(19,.int .i64 c),(20,.int .i64 j)]/\h'=hh/\ms'=[BR g17 p r c eu (ov.flatMap cI),m,m2,Bi g2 65 [.int .i64 0,.int .i64 0,.int .i64 0,.slice none 0 0]]/\j<=c/\OwnL cI 1 3 m eu (Dq r c F)/\OwnL cI 1 3 m2 vp (V7 pv)/\Go.Lin.Red p r c f F pv j/\Ovk p ov)
  (c-0) _ ⟨0,f,[],_,replicate 998 0,m,_,rfl,rfl,rfl,rfl,by omega,hO,OwnL.nil Bl,Go.Lin.Red.start hf,AaC p⟩ Qs ?_
 rintro q s hh ms' ⟨j,F,pv,vp,ov,m,m2,rfl,rfl,rfl,rfl,hj,hO,hO2,hRed,hov⟩;have hP:=fun ms hm=>T4 (h:=h') (ms:=ms) hO2 hm;have ovp:=(hP [m2] Mh).one;have hlr:=hRed.len;refine Au (Qm rfl (Al (Ac ?_)));refine Av rfl (fun hlt=>?_) (fun hlt=>?_)
 ·have hjc:j<c:=by omega
  refine Ag (Ab (Ac (Af (Au (Qm rfl (Qm rfl (BL (Qm rfl (Qx (Ar (hP _ (List.Mem.tail _ (List.Mem.tail _ Mh))) rfl AR rfl) rfl (Qm rfl (BL (Qm rfl (Qm rfl (Al (Af ?_)))))))))))))))
  refine Ax (fun q s hh ms'=>∃(i:Nat),q=r-i/\s=[(1,.pointer (some ⟨g1,0,none⟩)),(2,.pointer (some ⟨g2,0,none⟩)),(4,.pointer (some ⟨g17,0,none⟩)),(5,vp),(6,.int .i64 j),(7,.int .i64 pv.length),(8,.int .i64 i),(19,.int .i64 c),(20,.int .i64 j)]/\h'=hh/\ms'=[BR g17 p r c eu (ov.flatMap cI),m,m2,Bi g2 65 [.int .i64 0,.int .i64 0,.int .i64 0,.slice none 0 0]]/\pv.length<=i/\i<=r/\∀a,pv.length<=a->a<i->F a j=0)
   (r-pv.length) _ ⟨pv.length,rfl,rfl,rfl,rfl,by omega,by omega,fun a h1 h2=>by omega⟩ Qs ?_
  rintro q s hh ms' ⟨i,rfl,rfl,rfl,rfl,hli,hir,hno⟩;have hRow:=fun i hi=>(hO.rd (h:=h') (ms:=[m]) Mh).row (i:=i) hi;have hcell:∀i,i<r->∀ms,m∈ms->Cell h' ms ((AF (BS 1 eu (i*c) ((i+1)*c))).add (j*1)) (.int .i64 (F i j)):=fun i hi ms hm=>((hO.rd (h:=h') hm).row hi).ev hjc;refine Ac (Au (Qm rfl (Qf MQ rfl (Ql rfl U3 (hA _ _ rfl _) (Qm rfl (Al ?_))))));refine Av rfl (fun hlt2=>?_) (fun hlt2=>?_)
  ·have hi:i<r:=by omega
   have ec:=Ct c (F i);refine Ag (Ab (Ac (Af (Ac (Au (Qm rfl (Qm rfl (Qx (AO rfl call223 rfl (Co fun h' hl hm=>Ja g17 p r c F eu _ _ h' (Seg.ofLe (hm _ Mh)) (hO.rdh (hm _ (List.Mem.tail _ Mh))) (by assumption) hr hc)) rfl (Qm rfl (Qx (CI (j) (hRow i hi).rd rfl AR Be rfl rfl (by omega) (by omega)) rfl (Ql rfl U3 (hcell i hi _ (List.Mem.tail _ Mh)) (Qm rfl (Al ?_)))))))))))));refine Av rfl (fun hz=>?_) (fun hz=>?_)
   ·refine As (Aa (Ae (Ab (Ad (Qm rfl (Qx (oA rfl) rfl (Qm rfl (Aj ?_))))))));refine Ak (r-(i+1)) _ (by omega) ⟨i+1,rfl,rfl,rfl,rfl,by omega,by omega,fun a h1 h2=>?_⟩ Qs;rcases (by omega:a<i\/a=i) with h3|rfl
    ·exact hno a h1 h3
    ·exact hz
   ·have ht:pv.length<r:=by omega
    refine Ag (Ab (Au (Qm rfl (Qm rfl (Qm rfl ?_)))));have hFi:=hRed.bd i hi j hjc;have hd0:=hRed.bd;have hsi:G0 pv.length i pv.length=i:=by simp[G0]
    refine AY (pre:=[BR g17 p r c eu (ov.flatMap cI),m]) rfl call224 rfl (Wv g17 p r c F eu _ m pv.length i h' hO ht hi hr hc) rfl rfl rfl rfl (fun x h2 ms2 l2 hF=>?_);obtain⟨rfl,m,rfl,hO⟩:=hF
    have hcell1:∀ms,m∈ms->Cell h' ms ((AF (BS 1 eu (pv.length*c) ((pv.length+1)*c))).add (j*1)) (.int .i64 (F i j)):=fun ms hm=>by have:=((hO.rd (h:=h') hm).row ht).ev hjc;rw[hsi]at this;exact this
    have hRow1:=fun i hi=>(hO.rd (h:=h') (ms:=[m]) Mh).row (i:=i) hi;have ec1:=Ct c (fun b=>F (G0 pv.length i pv.length) b);refine Al (Ac (BE (n:=16) (bs:=[true,true,false,true,true,true,false,true,false,false,false,true,true,false,false,false]) [true,true,false,true,true,true,false,true,false,false,false,true,true] CY (by kernel_rfl) (by kernel_rfl) rfl rfl (Qq rfl (Qq rfl (Qq rfl (Qq rfl (Qq rfl (Qq rfl (QF Fp rfl (QL rfl U3 (hA0 _) ?_))))))))));unfold Fy;simp only[cons_append,nil_append];refine Qo 2 rfl (Qx (AO rfl call223 rfl (Co fun h' hl hm=>Ja g17 p r c (fun a b=>F (G0 pv.length i a) b) eu _ _ h' (Seg.ofLe (hm _ Mh)) (hO.rdh (hm _ (List.Mem.tail _ Mh))) (by assumption) hr hc)) rfl (Qw (Qo 6 rfl (Qx (AO rfl call223 rfl (Co fun h' hl hm=>Ja g17 p r c (fun a b=>F (G0 pv.length i a) b) eu _ _ h' (Seg.ofLe (hm _ Mh)) (hO.rdh (hm _ (List.Mem.tail _ Mh))) (by assumption) hr hc)) rfl (Qw (Qo 8 rfl (Qx (CI (j) (hRow1 pv.length ht).rd rfl AR Be rfl rfl (by omega) (by omega)) rfl (Qw (Qo 9 rfl (Ql rfl U3 (hcell1 _ (List.Mem.tail _ Mh)) (Qw (Qo 10 rfl (AY (pre:=[BR g17 p r c eu (ov.flatMap cI)]) rfl call226 rfl (Te g17 p r c eu ov (F i j) h' hp hov (by omega) (by omega)) rfl rfl rfl rfl (fun x h2 ms2 l2 hv=>?_))))))))))))));obtain⟨rfl,v,ov,rfl,rfl,hov,hv0,hvp,hv1⟩:=hv;refine Qw (Qo 13 rfl ?_);refine Qx (Bf Ye [.slice none 0 0,.int .i64 0,.int .i64 0] [(0,_),(1,_),(2,_)] [_,_,_] rfl Yl rfl rfl (by repeat (first|exact trivial|refine⟨⟨rfl,rfl,rfl⟩,?_⟩|refine⟨⟨((hRow1 pv.length ht).rd).cells,rfl,rfl⟩,?_⟩)) rfl) rfl ?_;refine Qw (Qo 14 rfl (Qx (BH rfl rfl rfl) rfl (Qw (Qo 15 rfl (JN ?_)))));refine AY (pre:=[m]) rfl call225 rfl (Oq r c (fun a b=>F (G0 pv.length i a) b) pv.length (fun b=>F (G0 pv.length i pv.length) b*v%p) eu m 227 [.agg #[.slice none 0 0,.int .i64 v,.int .i64 p]] h' hO ht hr hc call227 (fun k hk m' hO'=>X1 v p k _ h' hp (hd0 _ (by rw[hsi];exact hi) k hk) ⟨Int.le_of_lt hv0,hvp⟩ _)) rfl rfl rfl rfl (fun x h2 ms2 l2 hE=>?_);obtain⟨rfl,m,rfl,hO⟩:=hE;refine JN (Qw (Qe (Ab (Ac (Au (Qf MQ rfl (Ql rfl U3 (hA _ _ rfl _) (Qm rfl (Al (Af ?_))))))))));have hb2:=Zg (v:=v) hb.1 ht hi hd0
    refine Ax (fun q s hh ms'=>∃(k:Nat) (m:Hp),q=r-k/\s=[(1,.pointer (some ⟨g1,0,none⟩)),(2,.pointer (some ⟨g2,0,none⟩)),(4,.pointer (some ⟨g17,0,none⟩)),(5,vp),(6,.int .i64 j),(7,.int .i64 pv.length),(19,.int .i64 c),(20,.int .i64 j),(60,.int .i64 r),(61,.int .i64 k)]/\h'=hh/\ms'=[BR g17 p r c eu (ov.flatMap cI),m,m2,Bi g2 65 [.int .i64 0,.int .i64 0,.int .i64 0,.slice none 0 0]]/\k<=r/\OwnL cI 1 3 m eu (Dq r c (LH p pv.length i j v F k)))
     (r-0) _ ⟨0,m,rfl,rfl,rfl,rfl,by omega,by rw[BV (fun a _ b _=>Tj p pv.length i j v F a b)]at hO;exact hO⟩ Qs ?_
    rintro q s hh ms' ⟨k,m,rfl,rfl,rfl,rfl,hkr,hO⟩;have hcell2:∀a,a<r->∀ms,m∈ms->Cell h' ms ((AF (BS 1 eu (a*c) ((a+1)*c))).add (j*1)) (.int .i64 (LH p pv.length i j v F k a j)):=fun a ha ms hm=>((hO.rd (h:=h') hm).row ha).ev hjc;have hRow2:=fun i hi=>(hO.rd (h:=h') (ms:=[m]) Mh).row (i:=i) hi;refine Au (Qm rfl (Al (Ac ?_)));refine Av rfl (fun hltk=>?_) (fun hltk=>?_)
    ·have hk:k<r:=by omega
     have eck:=Ct c (LH p pv.length i j v F k k);have hn:=hb2 k hk j hjc;have hkk:=Q8 p pv.length i j v F k;refine Ag (Ab (Ac (Af (Au (Qm rfl (Qm rfl (BL (Qm rfl (Qm rfl (Qx (AO rfl call223 rfl (Co fun h' hl hm=>Ja g17 p r c (LH p pv.length i j v F k) eu _ _ h' (Seg.ofLe (hm _ Mh)) (hO.rdh (hm _ (List.Mem.tail _ Mh))) (by assumption) hr hc)) rfl (Qm rfl (Qx (CI (j) (hRow2 k hk).rd rfl AR Be rfl rfl (by omega) (by omega)) rfl (Ql rfl U3 ((hkk j ▸ hcell2 k hk _ (List.Mem.tail _ Mh))) (Qm rfl (BL (Qm rfl (Qm rfl (Qm rfl (Qm rfl ?_)))))))))))))))))));refine AS (t:=73) rfl (fun hkt=>?_) (fun hkt=>?_)
     ·have hkt':k≠pv.length:=by omega
      refine Qg (AA rfl rfl) rfl (Qg (CK rfl rfl rfl) rfl (Qm rfl (Al ?_)));refine Av rfl (fun hn0=>?_) (fun hn0=>?_)
      ·refine BE (n:=15) (bs:=[true,true,false,true,true,false,true,true,true,true,true,true,false,false,false]) [true,true,false,true,true,false,true,true,true,true,true,true] CY (by kernel_rfl) (by kernel_rfl) rfl rfl (Qq rfl (Qq rfl (Qq rfl (Qq rfl (QF Fp rfl (QL rfl U3 (hA0 _) (Qq rfl (Qp rfl (oS rfl) (QF Fp rfl (QL rfl U3 (hA0 _) ?_))))))))));unfold Fy;simp only[cons_append,nil_append];refine Qo 2 rfl (Qx (AO rfl call223 rfl (Co fun h' hl hm=>Ja g17 p r c (LH p pv.length i j v F k) eu _ _ h' (Seg.ofLe (hm _ Mh)) (hO.rdh (hm _ (List.Mem.tail _ Mh))) (by assumption) hr hc)) rfl (Qw (Qo 5 rfl (Qx (AO rfl call223 rfl (Co fun h' hl hm=>Ja g17 p r c (LH p pv.length i j v F k) eu _ _ h' (Seg.ofLe (hm _ Mh)) (hO.rdh (hm _ (List.Mem.tail _ Mh))) (by assumption) hr hc)) rfl (Qw (Qo 12 rfl ?_))))));refine Qx (Bf Ye [.slice none 0 0,.int .i64 0,.int .i64 0] [(0,_),(1,_),(2,_)] [_,_,_] rfl Yl rfl rfl (by repeat (first|exact trivial|refine⟨⟨rfl,rfl,rfl⟩,?_⟩|refine⟨⟨((hRow2 pv.length ht).rd).cells,rfl,rfl⟩,?_⟩)) rfl) rfl ?_;refine Qw (Qo 13 rfl (Qx (BH rfl rfl rfl) rfl (Qw (Qo 14 rfl (JN ?_)))));refine AY (pre:=[m]) rfl call225 rfl (Oq r c (LH p pv.length i j v F k) k (fun b=>(D4 p pv.length i v F k b+D4 p pv.length i v F pv.length b*(p-D4 p pv.length i v F k j))%p) eu m 228 [.agg #[BS 1 eu (pv.length*c) ((pv.length+1)*c),.int .i64 (p-D4 p pv.length i v F k j),.int .i64 p]] h' hO hk hr hc call228 (fun b hbc m' hO'=>Co fun h'' hl hm=>by have:=Yw r c _ eu pv.length b (p-D4 p pv.length i v F k j) p (LH p pv.length i j v F k k b) h'' (hO'.rdh (hm _ Mh)) ht hbc hp (by rw[Q8];exact hb2 k hk b hbc) (by rw[turn_ne _ _ _ _ _ _ (Ne.symm hkt'),Yg];exact hb2 _ ht b hbc) (by omega);rw[turn_ne _ _ _ _ _ _ (Ne.symm hkt'),Yg,Q8]at this;rw[Q8];exact this)) rfl rfl rfl rfl (fun x h2 ms2 l2 hE=>?_);obtain⟨rfl,m,rfl,hO⟩:=hE;refine JN (Qw (Qe (Ai (Ab (Ad (Qx (oA rfl) rfl (Qm rfl (Aj ?_))))))));refine Ak (r-(k+1)) _ (by omega) ⟨k+1,m,rfl,rfl,rfl,rfl,by omega,by rw[BV (fun a _ b _=>UX p pv.length i j v F k a b hkt')]at hO;exact hO⟩ Qs
      ·refine Ag (Ai (Ab (Ad (Qx (oA rfl) rfl (Qm rfl (Aj ?_))))));refine Ak (r-(k+1)) _ (by omega) ⟨k+1,m,rfl,rfl,rfl,rfl,by omega,?_⟩ Qs;rw[BV (fun a _ b hbc=>NH p pv.length i j v F k a b (.inr ⟨by omega,hb2 k hk b hbc⟩))]at hO;exact hO
     ·refine Qk rfl (Qk rfl (Qm rfl (Al (AM rfl (Ag (Ai (Ab (Ad (Qx (oA rfl) rfl (Qm rfl (Aj ?_)))))))))));refine Ak (r-(k+1)) _ (by omega) ⟨k+1,m,rfl,rfl,rfl,rfl,by omega,?_⟩ Qs;rw[BV (fun a _ b hbc=>NH p pv.length i j v F k a b (.inl (by omega)))]at hO;exact hO
    ·obtain rfl:k=r:=by omega
     refine As (Aa (Aa (Ae (Ab (Au (Qm rfl (Qm rfl (An [_] rfl AR Be rfl (by rfl) rfl rfl (by omega) rfl rfl rfl (fun g95=>AQ 3 hO2 (RdL.one Bl Mh rfl) rfl AR Be rfl (by omega) rfl rfl rfl Cm (by simp only[MN,length_singleton];omega) (by simp only[MN,length_singleton];omega) rfl rfl rfl (fun vp' m2' hO2'=>?_))))))))));rw[TG]at hO2';refine Qm rfl (Al (As (Ga rfl (Aa (Aa (Ga rfl (Ae (Ab (Ad (Qx (oA rfl) rfl (Qm rfl (Aj (AL ?_)))))))))))));refine Ak (c-(j+1)) _ (by omega) ⟨j+1,PJ p pv.length i j v F,pv++[j],vp',ov,m,m2',rfl,rfl,rfl,rfl,by omega,by rw[BV (fun a ha b _=>Xf p pv.length i j v F k a b ha)]at hO;exact hO,hO2',hRed.step hb.1 hi hli hjc hv1,hov⟩ Qs
  ·refine As (Aa (Aa (Ae (Ai (Ab (Ad (Qx (oA rfl) rfl (Qm rfl (Aj ?_)))))))));refine Ak (c-(j+1)) _ (by omega) ⟨j+1,F,pv,vp,ov,m,m2,rfl,rfl,rfl,rfl,by omega,hO,hO2,hRed.skip fun a ha hl=>hno a hl (by omega),hov⟩ Qs
 ·obtain rfl:j=c:=by omega
  refine As (Aa (Aa (Ae (Ab (Au (Qm rfl (Qm rfl (Qf Ff rfl (Qx (oG rfl TT Ep (WJ rfl)) rfl (Qm rfl ?_))))))))));refine Sa 3 [_,_,_,_] Ep rfl (by simp[e2]) ?_;refine Qm rfl (Al (Ao (Nd (AL ?_))));exact H7 (vs:=[_,_,_,_]) 2 rfl rfl rfl TT rfl Ep rfl rfl (⟨AI l1 hle,F,pv,eu,vp,m,m2,rfl,rfl,hO,hO2,⟨hRed⟩⟩)
theorem Pj(p:Int)(r c:Nat)(f:Nat->Nat->Int)(ev:Value)(h:Hp)(R:RtM p r c f)(hR:RdL cI 1 h [] ev (Dq r c f)) :
  FnT Tryz.prog 124 #[.agg #[.int .i64 p,.int .i64 r,.int .i64 c,ev]] h [] (fun x h' ms'=>h.le h'/\∃(F:Nat->Nat->Int) (pv:List Nat) (eu vp:Value) (m m2:Hp),x=.tuple #[.agg #[.int .i64 p,.int .i64 r,.int .i64 c,eu],vp]/\ms'=[m,m2]/\OwnL cI 1 3 m eu (Dq r c F)/\OwnL cI 1 3 m2 vp (V7 pv)/\Ech p r c f F pv):=by
 refine Ap func124 ntmps124 rfl rfl (fun w0 hw0=>?_);simp only[AU];refine Au (AX [_,_,_,_] rfl rfl (by rfl) rfl rfl rfl (fun g1=>CN [.int .i64 0,.int .i64 0,.int .i64 0,.slice none 0 0] rfl Ep rfl rfl (fun g2=>Qm rfl (Al (Ac (Au (Qx (oG rfl TT Ep (Seg.blk 1 rfl)) rfl (Qx (AO rfl call183 rfl (Xg R hR _)) rfl (Qm rfl (Al (AM rfl (Ag (Ab (Au (Qx (oG rfl TT Ep (Seg.blk 1 rfl)) rfl ?_)))))))))))))));refine Qc call184 rfl (PM p r c f ev h R.pr R.rl (by have:=R.cl;omega) R.en hR) (fun x h1 ms1 l1 hF=>?_);obtain⟨l2,F,pv,eu,vp,m,m2,rfl,rfl,hO,hO2,hE⟩:=hF;have oe:=hO.o1;refine Qm rfl (Qm rfl ?_);refine Sa 2 [_,_,_,_] Ep rfl (by simp[oe]) ?_;refine Qm rfl (Al (Ao (A8 3 rfl ?_)));exact H7 (vs:=[_,_,_,_]) 2 rfl rfl rfl TT rfl Ep rfl rfl (⟨l1,F,pv,eu,vp,m,m2,rfl,rfl,hO,hO2,hE⟩)
theorem Us(p:Int)(r c:Nat)(f:Nat->Nat->Int)(ev:Value)(h:Hp)(R:RtM p r c f)(hR:RdL cI 1 h [] ev (Dq r c f)) :
  FnT Tryz.prog 59 #[.agg #[.int .i64 p,.int .i64 r,.int .i64 c,ev]] h [] (fun x h' ms'=>h.le h'/\ms'=[]/\∃(F:Nat->Nat->Int) (pv:List Nat),x=.int .i64 pv.length/\Ech p r c f F pv):=by
 refine Ap func59 ntmps59 rfl rfl (fun w0 hw0=>?_);simp only[AU];refine Au (AX [_,_,_,_] rfl rfl (by rfl) rfl rfl rfl (fun g1=>Qm rfl (BL (Qx (oG rfl TT Ep (Seg.blk 0 rfl)) rfl (Qc call124 rfl (Pj p r c f ev h R hR) (fun x h1 ms1 l1 hF=>?_))))));obtain⟨l2,F,pv,eu,vp,m,m2,rfl,rfl,hO,hO2,hE⟩:=hF;have oe:=hO.o1;refine Qm rfl (Qm rfl (Qm rfl (CN [.int .i64 0,.int .i64 0,.int .i64 0,.slice none 0 0] rfl Ep rfl rfl (fun g3=>?_))));refine Sa 0 [_,_,_,_] Ep rfl (by simp[oe]) ?_;refine Qm rfl (BL (Qm rfl (Qx (DO (T4 (h:=h) (ms:=[m2]) hO2 Mh) rfl AR rfl) rfl (Qm rfl (Al (Ao (A8 3 rfl (A8 2 rfl (A8 1 rfl (A8 0 rfl ?_))))))))));exact Az rfl rfl (⟨l1,rfl,F,pv,rfl,hE⟩)
def FJ(l:List Nat):List Nat:=(l.reverse.dropWhile (·==0)).reverse
theorem KQ(l:List Nat):FJ (l++[0])=FJ l:=by simp[FJ]
theorem EV{a:Nat}(l:List Nat)(h:a≠0):FJ (l++[a])=l++[a]:=by simp[FJ,h]
theorem Fc(l:List Nat)(v:Value)(h:Hp)(R:RdL Ca 1 h [] v l)(hl:l.length<=1000000) :
  FnT Tryz.prog 229 #[v] h [] (fun r h' ms'=>h.le h'/\ms'=[]/\RdL Ca 1 h' [] r (FJ l)):=by
 refine Ap func229 ntmps229 rfl rfl (fun w0 hw0=>?_);simp only[AU];refine Au (Qm rfl (Al (Ac (Af ?_))))
 refine Ax (fun q sl h' ms'=>∃(k:Nat) (u:Value),k=q/\sl=[(0,u),(2,.slice none 0 0)]/\h=h'/\ms'=[]/\k<=l.length/\RdL Ca 1 h [] u (l.take k)/\FJ (l.take k)=FJ l)
  l.length _ ⟨l.length,v,rfl,rfl,rfl,rfl,Nat.le_refl _,by rw[take_length];exact R,by rw[take_length]⟩ Qs ?_
 rintro q sl h' ms' ⟨k,u,rfl,rfl,rfl,rfl,hk,hR,hs⟩;have hkl:(l.take k).length=k:=by rw[length_take];omega
 refine Ac (Au (Qm rfl (Qx (Ar hR.rd.any rfl BJ rfl) rfl (Qm rfl (Qm rfl ?_)))));refine AS (t:=6) rfl (fun h1=>?_) (fun h1=>?_)
 ·have hk0:0<k:=by have:=EI h1;omega
  obtain⟨a,ha⟩:∃a,l[k-1]'(by omega)=a:=⟨_,rfl⟩
  have hkt:l.take k=l.take (k-1)++[a]:=by have:=List.take_succ_eq_append_getElem (l:=l) (i:=k-1) (by omega);rw[ha,show k-1+1=k by omega]at this;exact this
  have hc:Cell h [] ((AF u).add ((k-1)*1)) (.int .u64 (a:Int)):=by
   have hk1:k-1<(l.take k).length:=by omega
   have e:(l.take k)[k-1]=a:=by rw[List.getElem_take];exact ha
   exact hR.cell0 hk1 (by rw[e];rfl)
  refine Qg (AA rfl rfl) rfl (Qg (AA rfl rfl) rfl (Qg (Ar hR.rd.any rfl BJ rfl) rfl (Qg (oS rfl) rfl (Qg (BU (k-1) hR.rd.any rfl BJ B6 rfl rfl) rfl (Qg (oL rfl Fl (hc)) rfl (Qg (Du rfl rfl rfl) rfl (Qm rfl (Al ?_))))))));refine Av rfl (fun h2=>?_) (fun h2=>?_)
  ·have ha0:a=0:=by omega
   refine Ag (Ab (Af (Ad (Qm rfl (Qm rfl (Qx (Ar hR.rd.any rfl BJ rfl) rfl (Qx (oS rfl) rfl (Qx (E7 (k-1) hR.rd.any rfl BJ B6 rfl rfl (by omega) (by omega)) rfl (Qm rfl (Aj (Ai ?_)))))))))))
   exact Ak (k-1) _ (by omega) ⟨k-1,BS 1 u 0 (k-1),rfl,rfl,rfl,rfl,by omega,by
    have:=RdL.sub_ hR (i:=0) (j:=k-1) (by omega) (by rw[hkl];omega)
    simpa[List.take_take,Nat.min_eq_left (show k-1<=k by omega)] using this,by rw[<-hs,hkt,ha0,KQ]⟩ Qs
  ·have ha0:a≠0:=by omega
   refine As (Aa (Aa (Ae (Ab (Au (Qm rfl (Qm rfl (Al (Ao ?_)))))))));exact Az rfl rfl (⟨DU,rfl,by rw[<-hs,hkt,EV _ ha0,<-hkt];exact hR⟩)
 ·have hk0:k=0:=by omega
  subst hk0;refine Qk rfl (Qk rfl (Qk rfl (Qk rfl (Qk rfl (Qk rfl (Qk rfl (Qm rfl (Al (AM rfl (As (Aa (Aa (Ae (Ab (Au (Qm rfl (Qm rfl (Al (Ao ?_)))))))))))))))))));exact Az rfl rfl (⟨DU,rfl,by rw[<-hs];exact hR⟩)
end Go.Proofs.Q
