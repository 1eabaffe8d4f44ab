/- A part of the proof. -/
import Derived.Test.YtodheebhahdepaaGreatDoorMD
import Derived.Shelf.SlGeneric
import Derived.Ground.SlsfProg
import Derived.Shelf.SlSortCmp.WholeK
import Derived.Shelf.SlSortCmp.NoneTotal
import Derived.Test.YtodheebhahdepaaGreatDoorProg
set_option linter.unusedSimpArgs false
set_option linter.unusedVariables false
set_option linter.unusedSectionVars false
set_option maxRecDepth 100000
set_option maxHeartbeats 4000000
open List (length_map length_singleton getElem_mem replicate range length_append nil_append length_take mem_cons mem_singleton cons_append map_append mem_append mem_cons_of_mem take_succ_eq_append_getElem append_nil map_map map_cons length_set getElem_of_mem take_length append_assoc getElem_map length_cons length_range foldl_append flatMap_map sum_cons not_mem_nil)
namespace Go.Proofs.Q
open Go.Proofs.Tryz
open Go.Eng Go.RowKit
variable {l o:List Cl} {v:Value} {oi:List CeO}
structure CanO(l o:List Cl):Prop where
 ids:(o.map Cl.id).Perm (l.map Cl.id)
 inc:o.Pairwise fun a b=>a.id<=b.id
 mem:∃l':List Cl,l'.Perm l/\o.length=l'.length/\∀i (h:i<o.length) (h':i<l'.length),o[i].id=l'[i].id/\o[i].dim=l'[i].dim/\o[i].sd.Perm l'[i].sd/\o[i].sd.Pairwise fun a b=>a.1<=b.1
theorem CanO.len(C:CanO l o):o.length=l.length:=by obtain⟨l',h1,h2,_⟩:=C.mem;rw[h2,h1.length_eq]
theorem CanO.sim(C:CanO l o):SimC l o:=by obtain⟨l',h1,h2,h3⟩:=C.mem;refine⟨C.len,C.ids,fun x' hx'=>?_⟩;obtain⟨i,hi,rfl⟩:=getElem_of_mem hx';obtain⟨a,b,c,_⟩:=h3 i hi (by omega);exact⟨_,h1.mem_iff.1 (getElem_mem (by omega)),a,b,c⟩
theorem Dm{α:Type}(k:α->Int):∀{l l':List α},l.Perm l'->(l.Pairwise fun a b=>k a<=k b)->(l'.Pairwise fun a b=>k a<k b)->l=l'
 | [],l',h,_,_=>(List.nil_perm.1 h).symm
 | a::l,[],h,_,_=>absurd h.length_eq (by simp)
 | a::l,b::l',h,h1,h2=>by
  obtain⟨h3,h4⟩:=List.pairwise_cons.1 h1;obtain⟨h5,h6⟩:=List.pairwise_cons.1 h2;have hb:b∈a::l:=h.mem_iff.2 Mh;have ha:a∈b::l':=h.mem_iff.1 Mh
  have e:a=b:=by
   rcases List.mem_cons.1 ha with e|ha
   ·exact e
   ·have g1:=h5 a ha;rcases List.mem_cons.1 hb with e|hb
    ·exact e.symm
    ·have g2:=h3 b hb;omega
  subst e;rw[Dm k ((List.perm_cons a).1 h) h4 h6]
theorem RgtF.sinc(R:RgtF o):∀x∈o,x.sd.Pairwise fun a b=>a.1<b.1:=fun x hx=>by
 obtain⟨y,e⟩:=R.can x hx;have h1:x.sd.Pairwise fun a b=>a.1<=b.1:=by rw[e];exact Gs _
 have h2:=List.pairwise_map.1 (R.rgt.sds x hx);exact(h1.and h2).imp fun h=>by omega
theorem exO:∀{l:List Ce},(∀a∈l,a.v.oneCell'=true)->∃lo:List CeO,lo.map (fun e=>(⟨e.c,e.v⟩:Ce))=l
 | [],_=>⟨[],rfl⟩
 | a::l,h=>by obtain⟨lo,e⟩:=exO fun b hb=>h b (mem_cons_of_mem _ hb);exact⟨⟨a.c,a.v,h a Mh⟩::lo,by rw[map_cons,e]⟩
def Lj(e:CeO):Ce:=⟨e.c,e.v⟩
theorem Jj(lo:List CeO):(lo.map Lj).flatMap cC=lo.flatMap HT:=by rw[flatMap_map];rfl
theorem ZI{lo:List CeO}{h:Hp}{ms:List Hp}(R:RdL cC 3 h ms v (lo.map Lj)):RdL HT 3 h ms v lo:=⟨by have:=R.rd;rwa [Jj,length_map]at this,Kf⟩
theorem Wa{lo:List CeO}{m:Hp}(O:OwnL HT 3 52 m v lo):OwnL cC 3 52 m v (lo.map Lj):=⟨by have:=O.own;rwa [Jj,length_map],B3⟩
def StpO(o oi:List CeO)(i:Nat):Prop:=oi.length=o.length/\∀j (h:j<oi.length) (h':j<o.length),oi[j].c.id=o[j].c.id/\oi[j].c.dim=o[j].c.dim/\oi[j].c.sd.Perm o[j].c.sd/\(j<i->oi[j].c.sd.Pairwise fun a b=>a.1<=b.1)
theorem StpO.start(o:List CeO):StpO o o 0:=⟨rfl,fun j h h'=>⟨rfl,rfl,List.Perm.refl _,fun q=>absurd q (by omega)⟩⟩
theorem StpO.step{o:List CeO}{i:Nat}(S:StpO o oi i)(hi:i<oi.length){s:List (Int×Int)}(hp:s.Perm oi[i].c.sd)(hs:s.Pairwise fun a b=>a.1<=b.1){hv:v.oneCell'=true}:StpO o (oi.set i ⟨⟨oi[i].c.id,oi[i].c.dim,s⟩,v,hv⟩) (i+1):=by
 refine⟨by rw[length_set];exact S.1,fun j h h'=>?_⟩;rw[length_set]at h;obtain⟨a,b,c,d⟩:=S.2 j h h';by_cases e:i=j
 ·subst e;simp only[List.getElem_set_self];exact⟨a,b,hp.trans c,fun _=>hs⟩
 ·simp only[List.getElem_set_ne e];exact⟨a,b,c,fun q=>d (by omega)⟩
theorem StpO.can{o:List CeO}(S:StpO o oi o.length)(hp:(o.map CeO.c).Perm l)(hi:o.Pairwise fun a b=>a.c.id<=b.c.id):CanO l (oi.map CeO.c):=by
 have hl:=S.1
 have hid:(oi.map CeO.c).map Cl.id=(o.map CeO.c).map Cl.id:=List.ext_getElem (by simp[hl]) fun i h1 h2=>by simp only[getElem_map];exact(S.2 i (by simpa using h1) (by simpa using h2)).1
 refine⟨by rw[hid];exact hp.map _,?_,o.map CeO.c,hp,by simp[hl],fun i h h'=>?_⟩
 ·refine List.pairwise_map.2 ?_;rw[List.pairwise_iff_getElem]at hi ⊢;intro i j h1 h2 hij;have:=hi i j (by omega) (by omega) hij;have e1:=(S.2 i h1 (by omega)).1;have e2:=(S.2 j h2 (by omega)).1;omega
 ·rw[length_map]at h h';simp only[getElem_map];obtain⟨a,b,c,d⟩:=S.2 i h h';exact⟨a,b,c,d h'⟩
theorem Ut{i:Nat}{a b:CeO}(h:a∈oi.set i b):a=b\/a∈oi:=(List.mem_or_eq_of_mem_set h).symm
theorem Jl(l:List Ce)(v:Value)(hp:Hp)(hn:l.length<=1000000)(hs:∀a∈l,a.c.sd.length<=1000000)(hR:RdC hp v l):FnT Tryz.prog 65 #[.agg #[v]] hp [] (fun r h' ms'=>hp.le h'/\∃m A v',ms'=[m]/\r=.agg #[v']/\OwnL cC 3 52 m v' A/\CanO (l.map Ce.c) (A.map Ce.c)/\∀a∈A,RdL cD 2 h' [] a.v a.c.sd):=by
 have o1:=hR.q.rd.one;obtain⟨lo,e⟩:=exO (fun a ha=>(hR.s a ha).rd.one);have e:lo.map Lj=l:=e;refine Ao func65 ntmps65 rfl rfl (fun w0 hw0=>?_);simp only[AU];refine As (AS [_] rfl rfl (by rfl) rfl rfl rfl (fun g1=>CC [.slice none 0 0] rfl A6 rfl rfl (fun g2=>An (BH 1 rfl fun h1 l1 hS=>?_))));have hR:=hR.up l1;have hA:=Seg.all hS;have c0:∀ms,Cell h1 ms (⟨g1,0,none⟩:Addr) v:=fun ms=>hA 0 _ rfl ms;have hRo:RdL HT 3 h1 [] v lo:=ZI (by rw[e];exact hR.q);have hlo:lo.length=l.length:=by rw[<-e,length_map]
 refine As (Qf B6 rfl (Ql rfl Bs (c0 _) (Qc call134 rfl (QH lo v h1 hRo (by omega)) (fun r h2 ms2 l2 hF=>?_))));obtain⟨l2',m,o,rfl,hO,hP,hI⟩:=hF;have ovr:=hO.o1;have hol:o.length=l.length:=by rw[hP.length_eq,hlo]
 have hRs:∀a∈o,RdL cD 2 h2 [] a.v a.c.sd/\a.c.sd.length<=1000000:=fun a ha=>by
  have:Lj a∈l:=by rw[<-e];exact List.mem_map.2 ⟨a,hP.mem_iff.1 ha,rfl⟩
  exact⟨(hR.s _ this).up l2,hs _ this⟩
 refine Qm rfl (An (Ac (As (Qm rfl (Qx (Ar (hO.rd Mh).rd rfl Bs rfl) rfl (Qm rfl (An (Ae ?_))))))))
 refine Az (fun q sl h' ms'=>∃(i:Nat) (m:Hp) (oi:List CeO),q=o.length-i/\sl=[(2,.pointer (some ⟨g2,0,none⟩)),(3,r),(9,.int .i64 o.length),(10,.int .i64 i)]/\h2.le h'/\ms'=[m,A7 g2 29 [.slice none 0 0]]/\i<=o.length/\OwnL HT 3 52 m r oi/\StpO o oi i/\∀a∈oi,RdL cD 2 h' [] a.v a.c.sd/\a.c.sd.length<=1000000)
  (o.length-0) _ ⟨0,m,o,rfl,rfl,CY,rfl,by omega,hO,StpO.start o,hRs⟩ Qs ?_
 rintro q sl h3 ms' ⟨i,m,oi,rfl,rfl,l3,rfl,hi,hO,hSt,hRs⟩;have ovr:=hO.o1;have hoil:=hSt.1;refine As (Qm rfl (An (Ac ?_)));refine Au rfl (fun hlt=>?_) (fun hlt=>?_)
 ·have hil:i<oi.length:=by omega
  obtain⟨hRi,hRn⟩:=hRs _ (getElem_mem hil);have c2:∀ms,m∈ms->Cell h3 ms (((AG r).add (i*3)).add 2) oi[i].v:=fun ms hm=>(hO.rd hm).cell hil (f:=2) rfl;have ovi:=hRi.rd.one;refine Ah (Ab (Ac (Ae (As (Qm rfl (Qm rfl (Gh (Qm rfl (Qm rfl (Qm rfl (Qm rfl (Qx (AC (i) (hO.rd Mh).rd rfl Bs AI rfl rfl (by omega) (by omega)) rfl (Qf Bu rfl (Ql rfl BL (c2 _ Mh) (Qc call136 rfl (PW oi[i].c.sd oi[i].v h3 hRi hRn) (fun rS h4 ms4 l4 hF=>?_))))))))))))))));obtain⟨l4',mS,s,rfl,hOS,hPS,hIS⟩:=hF;refine A4 hOS fun h5 l5 hRS=>?_;have ovS:=hRS.rd.one;refine Qx (AC (i) (hO.rd Mh).rd rfl Bs AI rfl rfl (by omega) (by omega)) rfl (Qf Bu rfl ?_);refine NG 0 i 2 ⟨⟨oi[i].c.id,oi[i].c.dim,s⟩,rS,ovS⟩ [rS] hO rfl Pb rfl rfl hRS.rd.cells rfl (fun c hc=>by rw[List.mem_singleton.1 hc];exact ovS) rfl hil (by omega) rfl rfl rfl (fun m' hO'=>?_);refine Aj (Ai (Ab (Ad (Qx (oA rfl) rfl (Qm rfl (Aj ?_))))))
  exact Ak (o.length-(i+1)) _ (by omega) ⟨i+1,m',_,rfl,rfl,AJ l3 (AJ l4 l5),rfl,by omega,hO',hSt.step hil hPS hIS,fun a ha=>by
   rcases Ut ha with rfl|ha
   ·exact⟨hRS,by show s.length<=_;rw[hPS.length_eq];exact hRn⟩
   ·exact⟨(hRs a ha).1.up (AJ l4 l5),(hRs a ha).2⟩⟩ Qs
 ·obtain rfl:i=o.length:=by omega
  have hcan:CanO (l.map Ce.c) (oi.map CeO.c):=hSt.can (by rw[<-e,map_map];exact hP.map _) hI;have hOe:=Wa hO
  have hfin:∀a∈oi.map Lj,RdL cD 2 h3 [] a.v a.c.sd:=fun a ha=>by obtain⟨b,hb,rfl⟩:=List.mem_map.1 ha;exact(hRs b hb).1
  have hmm:(oi.map Lj).map Ce.c=oi.map CeO.c:=by rw[map_map];rfl
  obtain⟨ar,cr,rfl,_⟩:=(hO.rd (h:=h3) (ms:=[m]) Mh).rd.ex;refine Av (Aa (Aa (Af (Ab (As (Qm rfl (Qx (A0 Q5 [.slice none 0 0] [(0,_)] [_] rfl A6 rfl rfl Qt rfl) rfl ?_)))))));refine Sa 1 [_] A6 rfl (by simp[Value.oneCell']) ?_;refine An (Am ?_);exact BU (vs:=[_]) 1 rfl rfl Dt rfl A6 rfl rfl (⟨AJ l1 (AJ l2 l3),m,oi.map Lj,_,rfl,rfl,hOe,by rw[hmm];exact hcan,hfin⟩)
end Go.Proofs.Q
namespace Go.Proofs.Q
open Go.Proofs.Tryz
open Go.Eng Go.RowKit
def kN(a:Int):Value:=.int .i64 a
theorem Bi:MX Tryz.prog 3 kN BD where
 law:=Maps.int_keyed U3
 inj:=fun a b h=>by unfold kN at h;simpa using h
 key:=fun b h=>⟨_,Maps.keyOf_int_mk U3 (WalkArith.wf_i64 h)⟩
def vC(a:Ce):Value:=.agg (cC a).toArray
theorem JS(w:World):(zeroValue 52).run Tryz.prog w=.ok (vC default) w:=by rfl
theorem FK{a h m:Hp}(hl:a.le h)(hd:h.disj m):a.disj m:=fun g=>by
 rcases hd g with e|e
 ·left
  cases ha:a g with
  | none=>rfl
  | some o=>rw[hl g o ha]at e;cases e
 ·exact .inr e
def PM(U:List Ce)(a:Ce):List Ce:=if a.c.id∈U.map (fun b=>b.c.id) then U else U++[a]
def Qr(A:List Ce):List Ce:=A.foldl PM []
theorem US{A:List Ce}{i:Nat}(hi:i<A.length):Qr (A.take (i+1))=PM (Qr (A.take i)) A[i]:=by unfold Qr;rw[take_succ_eq_append_getElem hi,foldl_append];rfl
theorem Kj:∀(A U:List Ce),∀a∈A.foldl PM U,a∈U\/a∈A
 | [],U,a,h=>.inl h
 | b::A,U,a,h=>by
  rcases Kj A (PM U b) a h with h|h
  ·unfold PM at h;split at h
   ·exact .inl h
   ·rcases List.mem_append.1 h with h|h
    ·exact .inl h
    ·rw[List.mem_singleton.1 h];exact .inr Mh
  ·exact .inr (mem_cons_of_mem _ h)
theorem Sl:∀(A U:List Ce),((U++A).map fun a=>a.c.id).Nodup->A.foldl PM U=U++A
 | [],U,_=>by simp
 | a::A,U,h=>by
  have e:PM U a=U++[a]:=by unfold PM;rw[if_neg];intro hm;rw[map_append,List.nodup_append]at h;exact h.2.2 _ hm _ (by simp) rfl
  rw[List.foldl_cons,e,Sl A (U++[a]) (by rwa [append_assoc])];simp
theorem UV{A:List Ce}(h:(A.map fun a=>a.c.id).Nodup):Qr A=A:=by have:=Sl A [] (by simpa using h);simpa[Qr] using this
theorem Uy:∀(A U:List Ce),(A.foldl PM U).length<=U.length+A.length
 | [],U=>by simp
 | a::A,U=>by
  have h1:=Uy A (PM U a);have h2:(PM U a).length<=U.length+1:=by unfold PM;split<;>simp
  rw[List.foldl_cons,length_cons];omega
def Fo(U:List Ce):List (Int×Ce):=U.map fun a=>(a.c.id,a)
theorem Of(U:List Ce):(Fo U).map Prod.fst=U.map fun a=>a.c.id:=by unfold Fo;rw[map_map];rfl
theorem X6{U:List Ce}{i:Int}{b:Bool}(h:(Bf (Fo U) i).isSome=b):i∈U.map (fun a=>a.c.id)<->b=true:=by
 subst h;rw[<-Of];constructor
 ·intro hm;cases hg:Bf (Fo U) i with
  | some _=>rfl
  | none=>
   exfalso;unfold Bf at hg;rw[Option.map_eq_none_iff,List.find?_eq_none]at hg;obtain⟨p,hp,e⟩:=List.mem_map.1 hm;have:=hg p hp;simp[e]at this
 ·intro hs;refine Classical.byContradiction fun hm=>?_;rw[Dd hm]at hs;cases hs
def RdT(h:Hp)(g:Nat)(U:List Ce):Prop:=∃gm m bs vids,Seg h [] ⟨g,0,none⟩ [.map (some gm),vids]/\Ci kN vC gm BD m (Fo U) bs/\m.le h/\RdL cI 1 h [] vids (U.map fun a=>a.c.id)/\∀a∈U,RdL cD 2 h [] a.v a.c.sd
theorem RdT.up{h h':Hp}{g:Nat}{U:List Ce}(R:RdT h g U)(l:h.le h'):RdT h' g U:=by obtain⟨gm,m,bs,vids,h1,h2,h3,h4,h5⟩:=R;exact⟨gm,m,bs,vids,h1.le l,h2,AJ h3 l,h4.up l,fun a ha=>(h5 a ha).up l⟩
structure OfOk(l:List Ce):Prop where
 n:l.length<=1000000
 s:∀a∈l,a.c.sd.length<=1000000
 i:∀a∈l,BD a.c.id
theorem Zg(l:List Ce)(v:Value)(hp:Hp)(hK:OfOk l)(hR:RdC hp v l):FnT Tryz.prog 64 #[.agg #[v]] hp [] (fun r h' ms'=>hp.le h'/\ms'=[]/\∃g A,r=.pointer (some ⟨g,0,none⟩)/\CanO (l.map Ce.c) (A.map Ce.c)/\RdT h' g (Qr A)):=by
 have o1:=hR.q.rd.one;refine Ao func64 ntmps64 rfl rfl (fun w0 hw0=>?_);simp only[AU];refine As (AS [_] rfl rfl (by rfl) rfl rfl rfl (fun g1=>Qm rfl (An (Aw fun h1 l1 hS=>?_))));have hR:=hR.up l1;have hA:=Seg.all hS;refine BB (As (CO (K:=kN) (V:=vC) (Ok:=BD) rfl rfl rfl rfl (fun gm mM hM=>Qx (A0 Abc [.map none,.slice none 0 0] [(0,_)] [_,_] rfl Abw rfl rfl Qt rfl) rfl (AS [_,_] rfl rfl (by rfl) rfl rfl rfl (fun g10=>Qm rfl (An (Ac (As (Qx (oG rfl Dt A6 (Seg.any hS)) rfl (Qc call65 rfl (Jl l v h1 hK.n hK.s hR) (fun rC h2 ms2 l2 hF=>?_)))))))))));obtain⟨l2',mA,A,vA,rfl,rfl,hOA,hC,hsA⟩:=hF;refine A4 hOA fun h3 l3 hQ=>?_;have hsA:=fun a ha=>(hsA a ha).up l3;have ovA:=hQ.rd.one;have hAl:A.length=l.length:=by have:=hC.len;rwa [length_map,length_map]at this
 have hAn:A.length<=1000000:=by rw[hAl];exact hK.n
 refine Qx (Em rfl Dt rfl Bs rfl rfl rfl) rfl (Qx (Ar hQ.rd.any rfl Bs rfl) rfl (Qm rfl (An (Ae ?_))))
 refine Az (fun q sl h' ms'=>∃(i:Nat) (vI:Value) (mI mM:Hp) (bs:List Nat),q=A.length-i/\sl=[(3,.pointer (some ⟨g10,0,none⟩)),(13,vA),(14,.int .i64 A.length),(15,.int .i64 i)]/\h3.le h'/\ms'=[A7 g10 115 [.map (some gm),vI],mM,mI]/\i<=A.length/\Ci kN vC gm BD mM (Fo (Qr (A.take i))) bs/\OwnL cI 1 3 mI vI ((Qr (A.take i)).map fun a=>a.c.id))
  (A.length-0) _ ⟨0,_,Hp.emp,mM,[],rfl,rfl,CY,rfl,by omega,hM,OwnL.nil AV⟩ Qs ?_
 rintro q sl h4 ms' ⟨i,vI,mI,mM,bs,rfl,rfl,l4,rfl,hi,hM,hOI⟩;have hQ:=hQ.up l4;refine As (Qm rfl (An (Ac ?_)));refine Au rfl (fun hlt=>?_) (fun hlt=>?_)
 ·have hil:i<A.length:=by omega
  obtain⟨x,hx⟩:∃x,A[i]=x:=⟨_,rfl⟩
  have hxm:x∈A:=by rw[<-hx];exact getElem_mem hil
  have hU:=US hil;rw[hx]at hU;obtain⟨U,hUe⟩:∃U,Qr (A.take i)=U:=⟨_,rfl⟩
  rw[hUe]at hM hOI hU;have oxv:=(hsA x hxm).rd.one;have hsx:∀ms,Seg h4 ms ((AG vA).add (i*3)) (cC x):=fun ms=>by rw[<-hx];exact(hQ.any (ms:=ms)).seg hil
  have ovI:=hOI.o1;obtain⟨bb,hbb⟩:∃bb,(Bf (Fo U) x.c.id).isSome=bb:=⟨_,rfl⟩
  have hin:=X6 hbb;refine Ah (Ab ?_);refine A3 (fun sl h' ms'=>∃(vI:Value) (mI mM:Hp) (bs:List Nat),sl=[(3,.pointer (some ⟨g10,0,none⟩)),(13,vA),(14,.int .i64 A.length),(15,.int .i64 i)]/\h4.le h'/\ms'=[A7 g10 115 [.map (some gm),vI],mM,mI]/\Ci kN vC gm BD mM (Fo (PM U x)) bs/\OwnL cI 1 3 mI vI ((PM U x).map fun a=>a.c.id)) ?_ (fun s h ms hI=>?_)
  ·refine Ae (As (Qx (BS (i) hQ.rd.any rfl Bs AI rfl rfl) rfl (Qx (oG rfl Fb AI (hsx _)) rfl (CC [.int .i64 0,.int .i64 0,.slice none 0 0] rfl AI rfl rfl (fun g5=>?_)))));refine Sa 0 [_,_,_] AI rfl (by simp[o1,ovA,oxv,ovI]) ?_;refine An (Aw fun h5 l5 hS5=>?_);have e5:=Seg.all hS5;have e50:∀ms,Cell h5 ms (⟨g5,0,none⟩:Addr) (.int .i64 x.c.id):=fun ms=>e5 0 _ rfl ms;refine GI fun h6 l6 lB dB LB=>(GI fun h7 l7 lM dM LM=>?_)
   have e10:=Seg.all (Seg.ofLe (AJ lB l7));have e50':∀ms,Cell h7 ms (⟨g5,0,none⟩:Addr) (.int .i64 x.c.id):=fun ms=>(e50 ms).le (AJ l6 l7);have e100:∀ms,Cell h7 ms (⟨g10,0,none⟩:Addr) (.map (some gm)):=fun ms=>e10 0 _ rfl ms
   have hid:BD x.c.id:=by obtain⟨y,hy,e,_⟩:=hC.sim.mem x.c (List.mem_map.2 ⟨x,hxm,rfl⟩);obtain⟨z,hz,rfl⟩:=List.mem_map.1 hy;rw[e];exact hK.i z hz
   obtain⟨y,hy⟩:∃y,(Bf (Fo U) x.c.id).getD default=y:=⟨_,rfl⟩
   have oyv:y.v.oneCell'=true:=by
    rw[<-hy];cases hg:Bf (Fo U) x.c.id with
    | none=>rfl
    | some z=>
     unfold Bf at hg;obtain⟨p,hp,rfl⟩:=Option.map_eq_some_iff.1 hg;obtain⟨a,ha,rfl⟩:=List.mem_map.1 (List.mem_of_find?_eq_some hp);have ha:a∈Qr (A.take i):=by rw[hUe];exact ha
     rcases Kj _ _ a ha with h|h
     ·cases h
     ·exact(hsA a (List.mem_of_mem_take h)).rd.one
   refine A3 (fun sl h' ms'=>∃g6:Nat,sl=[(3,.pointer (some ⟨g10,0,none⟩)),(5,.pointer (some ⟨g5,0,none⟩)),(7,.bool bb),(13,vA),(14,.int .i64 A.length),(15,.int .i64 i)]/\h7=h'/\ms'=[A7 g6 52 (cC y),mI]) ?_ (fun s h ms hI=>?_)
   ·refine BF (n:=13) (bs:=[true,true,true,true,true,true,true,true,true,true,false,false,false]) [true,true,true,true,true,true,true,true,true,true] CP (by kernel_rfl) (by kernel_rfl) rfl rfl (Qq rfl (Qq rfl (QF Ey rfl (QL rfl Gb (e100 _) (QF Bz rfl (QL rfl U3 (e50' _) (Qp rfl (D8 (V:=vC) (z:=(default:Ce)) x.c.id hy hbb Bi hM lM rfl Gb JS rfl rfl hid) (Qq rfl (Qq rfl (Qq rfl ?_))))))))));unfold FN;simp only[cons_append,nil_append];refine Qo 10 rfl (CC [.int .i64 0,.int .i64 0,.slice none 0 0] rfl AI rfl rfl (fun g6=>Qw (Qo 11 rfl ?_)));refine Sa 0 [_,_,_] AI rfl (by simp[o1,ovA,oxv,ovI,oyv]) ?_;refine Qw (Qo 12 rfl (Qm rfl (Qw (Qe ?_))));exact AA _ ⟨g6,rfl,rfl,rfl⟩ Qs
   ·obtain⟨g6,rfl,rfl,rfl⟩:=hI;refine Kq (FL LM lM fun h8 q8 b8=>?_);have lB8:(A7 g10 115 [.map (some gm),vI]).le h8:=b8 _ (AJ lB l7) (FK lB dM);refine FL LB lB8 fun h9 q9 b9=>?_;have l59:h5.le h9:=b9 _ (b8 _ (AJ l6 l7) (FK l6 dM)) dB;have l39:h3.le h9:=AJ l4 (AJ l5 l59);have e50:∀ms,Cell h9 ms (⟨g5,0,none⟩:Addr) (.int .i64 x.c.id):=fun ms=>(e50 ms).le l59;have hS9:=hS5.le l59;refine As (Qm rfl (Qm rfl (An ?_)));refine Bq rfl (fun hn=>?_) (fun hn=>?_)
    ·have hbf:bb=false:=by cases bb<;>simp at hn ⊢
     have hni:x.c.id ∉ U.map fun a=>a.c.id:=fun q=>by rw[hin.1 q]at hbf;cases hbf
     have hUU:PM U x=U++[x]:=if_neg hni
     have hset:CQ (Fo U) x.c.id x=Fo (U++[x]):=by unfold CQ;rw[if_neg (by rw[Of];exact hni)];unfold Fo;rw[map_append];rfl
     have hUl:U.length<=i:=by rw[<-hUe];exact Nat.le_trans (Uy _ []) (by simp;omega)
     rw[hUU];refine A3 (fun sl h' ms'=>∃(mM:Hp) (bs:List Nat),sl=[(3,.pointer (some ⟨g10,0,none⟩)),(5,.pointer (some ⟨g5,0,none⟩)),(13,vA),(14,.int .i64 A.length),(15,.int .i64 i)]/\h9=h'/\ms'=[A7 g10 115 [.map (some gm),vI],mM,mI]/\Ci kN vC gm BD mM (Fo (U++[x])) bs) ?_ (fun s h ms hI=>?_)
     ·refine BF (n:=8) (bs:=[true,true,true,false,true,true,true,false]) [true,true,true,false,true,true,true] CP (by kernel_rfl) (by kernel_rfl) rfl rfl (Qq rfl (Qq rfl (QF Ey rfl (QF Bz rfl (QL rfl U3 (e50 _) (Qp rfl (oG rfl Fb AI (Seg.any hS9)) ?_))))));unfold FN;simp only[cons_append,nil_append];refine Qo 3 rfl (Ql rfl Gb (Cell.blk 0 rfl rfl) (Qw (Qo 7 rfl (BJ (V:=vC) (z:=undef) 1 x.c.id x Bi hM rfl rfl Gb rfl rfl rfl hid rfl rfl (fun mM' bs' hM'=>Qw (Qe ?_))))));rw[hset]at hM';exact AA _ ⟨mM',bs',rfl,rfl,rfl,hM'⟩ Qs
     ·obtain⟨mM,bs,rfl,rfl,rfl,hM⟩:=hI;refine BF (n:=12) (bs:=[true,true,true,true,false,true,true,false,false,true,true,false]) [true,true,true,true,false,true,true,false,false,true,true] CP (by kernel_rfl) (by kernel_rfl) rfl rfl (Qq rfl (Qq rfl (Qq rfl (QF Nc rfl (QF Bz rfl (QL rfl U3 (e50 _) (Qq rfl (QF Nc rfl ?_))))))));unfold FN;simp only[cons_append,nil_append];refine Ba [4,7] (by kernel_rfl) rfl ?_;refine AD rfl ?_ ?_
      ·refine Ql rfl AY (Cell.blk 0 rfl rfl) (Qw (Qo 7 rfl (Aq [_] rfl AY Be rfl (by rfl) rfl rfl (by omega) rfl rfl rfl (fun g45=>Qw (Qo 8 rfl (AM 3 hOI (RdL.one AV (x:=x.c.id) Mh rfl) rfl AY Be rfl (by omega) rfl rfl rfl B5 (by(try simp only[length_singleton,length_map]);omega) (by(try simp only[length_singleton,length_map]);omega) rfl rfl rfl (fun vI2 mI2 hOI2=>?_)))))));have ovI2:=hOI2.o1;refine Qw (Qo 11 rfl ?_);refine AK 1 _ rfl Cw rfl rfl (by assumption) rfl rfl (by(simp;done)) rfl rfl ?_;refine Qw (Qe ?_);rw[show(U.map fun a=>a.c.id)++[x.c.id]=(U++[x]).map fun a=>a.c.id by rw[map_append];rfl]at hOI2;refine AN (Ai ?_);exact AA _ ⟨vI2,mI2,mM,bs,rfl,AJ l5 l59,rfl,hM,hOI2⟩ Qs
      refine AD rfl ?_ ?_
      ·refine Aq [_] rfl AY Be rfl (by rfl) rfl rfl (by omega) rfl rfl rfl (fun g45=>Qw (Qo 4 rfl (Ql rfl AY (Cell.blk 1 rfl rfl) (Qw (Qo 8 rfl (AM 3 hOI (RdL.one AV (x:=x.c.id) Mh rfl) rfl AY Be rfl (by omega) rfl rfl rfl B5 (by(try simp only[length_singleton,length_map]);omega) (by(try simp only[length_singleton,length_map]);omega) rfl rfl rfl (fun vI2 mI2 hOI2=>?_)))))));have ovI2:=hOI2.o1;refine Qw (Qo 11 rfl ?_);refine AK 1 _ rfl Cw rfl rfl (by assumption) rfl rfl (by(simp;done)) rfl rfl ?_;refine Qw (Qe ?_);rw[show(U.map fun a=>a.c.id)++[x.c.id]=(U++[x]).map fun a=>a.c.id by rw[map_append];rfl]at hOI2;refine AN (Ai ?_);exact AA _ ⟨vI2,mI2,mM,bs,rfl,AJ l5 l59,rfl,hM,hOI2⟩ Qs
      exact Bb
    ·have hbt:bb=true:=by cases bb<;>simp at hn ⊢
     have hUU:PM U x=U:=if_pos (hin.2 hbt);rw[hUU];refine Ah (Ai ?_);exact AA _ ⟨vI,mI,mM,bs,rfl,AJ l5 l59,rfl,hM,hOI⟩ Qs
  ·obtain⟨vI,mI,mM,bs,rfl,k9,rfl,hM,hOI⟩:=hI;refine Ad (Qx (oA rfl) rfl (Qm rfl (Aj ?_)));exact Ak (A.length-(i+1)) _ (by omega) ⟨i+1,vI,mI,mM,bs,rfl,rfl,AJ l4 k9,rfl,by omega,by rw[hU];exact hM,by rw[hU];exact hOI⟩ Qs
 ·obtain rfl:i=A.length:=by omega
  rw[take_length]at hM hOI;refine Av (Aa (Aa (Af (Ab (As (Qm rfl (Qm rfl (An (Am (H8 fun h5 l5 k5=>(H8 fun h6 l6 k6=>(H8 fun h7 l7 k7=>?_))))))))))))
  have hT:RdT h7 g10 (Qr A):=⟨gm,mM,bs,vI,Seg.ofLe (AJ k5 (AJ l6 l7)),hM,AJ k6 l7,hOI.rdh k7,fun a ha=>by
   rcases Kj _ _ a ha with h|h
   ·cases h
   ·exact(hsA a h).up (AJ l4 (AJ l5 (AJ l6 l7)))⟩
  exact Ap rfl rfl (⟨AJ l1 (AJ l2 (AJ l3 (AJ l4 (AJ l5 (AJ l6 l7))))),rfl,g10,A,rfl,hC,hT⟩)
end Go.Proofs.Q
namespace Go.Proofs.Q
open Go.Eng Go.RowKit
variable {gM:Nat} {mM:Hp}
def LZ(v:Value):Value:=v
structure OwnMS(gM:Nat)(mM mB:Hp)(T:List (Int×List Int)):Prop where
 ex:∃(Tv:List (Int×Value)) (bs:List Nat),Ci kN LZ gM BD mM Tv bs/\Tv.map Prod.fst=T.map Prod.fst/\Bag T.length (fun l m=>∃p,Tv[l]?=some p/\OwnL cI 1 3 m p.2 ((T.map Prod.snd).getD l [])) mB
theorem OwnMS.start(O:Ci kN LZ gM BD mM ([]:List (Int×Value)) []):OwnMS gM mM Hp.emp []:=⟨[],[],O,rfl,Bag.zero _⟩
theorem Hk{ν:Type}{T:List (Int×ν)}{a:Int}(h:a∈T.map Prod.fst):∃(l:Nat) (x:ν),T[l]?=some (a,x):=by obtain⟨p,hp,rfl⟩:=List.mem_map.1 h;obtain⟨l,hl,e⟩:=getElem_of_mem hp;exact⟨l,p.2,by rw[List.getElem?_eq_getElem hl,e]⟩
theorem Mx{ν μ:Type}{T:List (Int×ν)}{T':List (Int×μ)}(h:T'.map Prod.fst=T.map Prod.fst){l:Nat}{a:Int}{x:ν}(e:T[l]?=some (a,x)):∃y,T'[l]?=some (a,y):=by
 have h1:(T'.map Prod.fst)[l]?=(T.map Prod.fst)[l]?:=by rw[h]
 rw[List.getElem?_map,List.getElem?_map,e]at h1;cases h2:T'[l]? with
 | none=>rw[h2]at h1;cases h1
 | some p=>
  rw[h2]at h1;have:p.1=a:=Option.some.inj h1;exact⟨p.2,by rw[<-this]⟩
theorem OwnMS.open{mB:Hp}{T:List (Int×List Int)}(M:OwnMS gM mM mB T)(a:Int):∃(Tv:List (Int×Value)) (bs:List Nat) (v:Value) (m1 m2:Hp),Ci kN LZ gM BD mM Tv bs/\(Bf Tv a).getD (.slice none 0 0)=v/\mB=m1.join m2/\m1.disj m2/\OwnL cI 1 3 m1 v ((Bf T a).getD []) ∧
  ∀v' L' m1' mM' bs',m1'.disj m2->OwnL cI 1 3 m1' v' L'->Ci kN LZ gM BD mM' (CQ Tv a v') bs'->OwnMS gM mM' (m1'.join m2) (CQ T a L'):=by
 obtain⟨Tv,bs,hO,hK,hB⟩:=M.ex;have hnd:(T.map Prod.fst).Nodup:=by rw[<-hK];exact hO.keys
 have hlen:Tv.length=T.length:=by have:=congrArg List.length hK;simpa using this
 by_cases ha:a∈T.map Prod.fst
 ·obtain⟨l,L,hl⟩:=Hk ha;obtain⟨v,hv⟩:=Mx hK hl;have hlT:l<T.length:=(List.getElem?_eq_some_iff.1 hl).1;obtain⟨m1,m2,e,hd,⟨p,hp,hO1⟩,hrest,hclose⟩:=hB.open hlT;have hpv:p=(a,v):=by rw[hv]at hp;exact(Option.some.inj hp).symm
  subst hpv;have hL:(T.map Prod.snd).getD l []=L:=by simp[List.getD,hl]
  rw[hL]at hO1;refine⟨Tv,bs,v,m1,m2,hO,by rw[D7 hO.keys hv];rfl,e,hd,by rw[D7 hnd hl];exact hO1,fun v' L' m1' mM' bs' hd' hO' hM'=>?_⟩;rw[I1 hO.keys hv]at hM';rw[I1 hnd hl];refine⟨_,bs',hM',by rw[List.map_set,List.map_set,hK],?_⟩;rw[length_set];have hlv:l<Tv.length:=by omega
  refine hclose _ m1' hd' ⟨(a,v'),by rw[List.getElem?_set_self hlv],?_⟩ fun k hk hne x hx=>?_
  ·have:((T.set l (a,L')).map Prod.snd).getD l []=L':=by simp[List.getD,hlT]
   rw[this];exact hO'
  ·obtain⟨p,hp,hx⟩:=hx;refine⟨p,by rw[List.getElem?_set_ne (Ne.symm hne)];exact hp,?_⟩
   have:((T.set l (a,L')).map Prod.snd).getD k []=(T.map Prod.snd).getD k []:=by rw[List.map_set];simp only[List.getD_eq_getElem?_getD];rw[List.getElem?_set_ne (Ne.symm hne)]
   rw[this];exact hx
 ·have haV:a ∉ Tv.map Prod.fst:=by rw[hK];exact ha
  refine⟨Tv,bs,.slice none 0 0,Hp.emp,mB,hO,by rw[Dd haV];rfl,(Hp.emp_join mB).symm,fun g=>.inl rfl,by rw[Dd ha];exact OwnL.nil AV,fun v' L' m1' mM' bs' hd' hO' hM'=>?_⟩;have e1:CQ Tv a v'=Tv++[(a,v')]:=if_neg haV;have e2:CQ T a L'=T++[(a,L')]:=if_neg ha;rw[e1]at hM';rw[e2,Hp.join_comm hd'];refine⟨_,bs',hM',by rw[map_append,map_append,hK];rfl,?_⟩;rw[length_append];refine Bag.snoc (hB.mono fun l hl x hx=>?_) ⟨(a,v'),by rw[<-hlen];simp,?_⟩ (Hp.disj_symm hd')
  ·obtain⟨p,hp,hx⟩:=hx;refine⟨p,by rw[List.getElem?_append_left (by omega)];exact hp,?_⟩
   have:((T++[(a,L')]).map Prod.snd).getD l []=(T.map Prod.snd).getD l []:=by rw[map_append];simp only[List.getD_eq_getElem?_getD];rw[List.getElem?_append_left (by simpa using hl)]
   rw[this];exact hx
  ·have:((T++[(a,L')]).map Prod.snd).getD T.length []=L':=by simp[List.getD]
   rw[this];exact hO'
theorem OwnMS.look{mB h:Hp}{T:List (Int×List Int)}(M:OwnMS gM mM mB T)(hB:mB.le h):∃(Tv:List (Int×Value)) (bs:List Nat),Ci kN LZ gM BD mM Tv bs/\Tv.map Prod.fst=T.map Prod.fst/\(∀l (h1:l<Tv.length) (h2:l<T.length),Tv[l].1=T[l].1/\RdL cI 1 h [] Tv[l].2 T[l].2)/\∀a,RdL cI 1 h [] ((Bf Tv a).getD (.slice none 0 0)) ((Bf T a).getD []):=by
 obtain⟨Tv,bs,hO,hK,hG⟩:=M.ex;have hnd:(T.map Prod.fst).Nodup:=by rw[<-hK];exact hO.keys
 have hat:∀l (h1:l<Tv.length) (h2:l<T.length),Tv[l].1=T[l].1/\RdL cI 1 h [] Tv[l].2 T[l].2:=fun l h1 h2=>by
  obtain⟨x,hx,p,hp,hO1⟩:=hG.all l h2;rw[List.getElem?_eq_getElem h1]at hp;have:=Option.some.inj hp;subst this;have h3:(Tv.map Prod.fst)[l]?=(T.map Prod.fst)[l]?:=by rw[hK]
  rw[List.getElem?_map,List.getElem?_map,List.getElem?_eq_getElem h1,List.getElem?_eq_getElem h2]at h3;refine⟨Option.some.inj h3,?_⟩;have h4:(T.map Prod.snd).getD l []=T[l].2:=by simp[List.getD,h2]
  rw[h4]at hO1;exact hO1.rdh (AJ hx hB)
 refine⟨Tv,bs,hO,hK,hat,fun a=>?_⟩;by_cases ha:a∈T.map Prod.fst
 ·obtain⟨l,L,hl⟩:=Hk ha;obtain⟨v,hv⟩:=Mx hK hl;rw[D7 hO.keys hv,D7 hnd hl];obtain⟨h1,e1⟩:=List.getElem?_eq_some_iff.1 hv;obtain⟨h2,e2⟩:=List.getElem?_eq_some_iff.1 hl;have:=(hat l h1 h2).2;rw[e1,e2]at this;exact this
 ·rw[Dd ha,Dd (by rw[hK];exact ha)];exact⟨Rd.nil _ _ _,AV⟩
end Go.Proofs.Q
namespace Go.Proofs.Q
open Go.Proofs.Tryz
open Go.Eng Go.RowKit
def HP(U:List Cl)(x:Cl)(i:Nat):Prop:=(J7 U (Bl x i).1).isSome=false\/(Gn U (Bl x i).1).dim≠x.dim-1\/(0<i/\(Bl x (i-1)).1=(Bl x i).1)
instance (U:List Cl) (x:Cl) (i:Nat):Decidable (HP U x i):=by unfold HP;infer_instance
def Xi(x:Cl)(i:Nat):Int:=((x.sd.take i).map Prod.snd).sum
theorem UJ{x:Cl}{i:Nat}(h:i<x.sd.length):Xi x (i+1)=Xi x i+x.sd[i].2:=by unfold Xi;rw[take_succ_eq_append_getElem h,map_append,List.sum_append];simp
def D0(U:List Cl)(x:Cl):Int:=
 if x.dim<0\/8<x.dim then 21
 else if BP x then 22
 else if ¬∀i,i<x.sd.length->¬HP U x i then 22
 else if ¬∀i,i<x.sd.length->¬BK x i then 23
 else if x.dim=1/\Xi x x.sd.length≠0 then 23 else 0
theorem RN(U:List Ce)(c:Int):(Bf (Fo U) c).map Ce.c=J7 (U.map Ce.c) c:=by unfold Bf Fo J7;rw[List.find?_map,List.find?_map,Option.map_map,Option.map_map];rfl
theorem Ht(U:List Ce)(c:Int):((Bf (Fo U) c).getD default).c=Gn (U.map Ce.c) c:=by unfold Gn;rw[<-RN];cases Bf (Fo U) c<;>rfl
theorem K7(U:List Ce)(c:Int):(Bf (Fo U) c).isSome=(J7 (U.map Ce.c) c).isSome:=by rw[<-RN];cases Bf (Fo U) c<;>rfl
theorem RR{U:List Ce}{c:Int}{y:Ce}(h:Bf (Fo U) c=some y):y∈U:=by unfold Bf at h;obtain⟨p,hp,rfl⟩:=Option.map_eq_some_iff.1 h;obtain⟨a,ha,rfl⟩:=List.mem_map.1 (List.mem_of_find?_eq_some hp);exact ha
theorem MZ{h:Hp}{U:List Ce}(hs:∀a∈U,RdL cD 2 h [] a.v a.c.sd)(c:Int):RdL cD 2 h [] ((Bf (Fo U) c).getD default).v ((Bf (Fo U) c).getD default).c.sd:=by
 cases hg:Bf (Fo U) c with
 | none=>exact⟨Rd.nil _ _ _,CK⟩
 | some y=>exact hs y (RR hg)
theorem XR(U:List Ce)(x:Ce)(g:Nat)(hp:Hp)(hT:RdT hp g U)(hX:RdL cD 2 hp [] x.v x.c.sd)(hd:BD x.c.dim)(hn:x.c.sd.length<=1000000)(hi:∀s∈x.c.sd,BD s.1/\BD s.2):FnT Tryz.prog 76 #[.pointer (some ⟨g,0,none⟩),.agg (cC x).toArray] hp [] (fun r _ _=>r=.int .i64 (D0 (U.map Ce.c) x.c)):=by
 have o2:=hX.rd.one;show FnT _ _ #[.pointer (some ⟨g,0,none⟩),.agg #[.int .i64 x.c.id,.int .i64 x.c.dim,x.v]] _ _ _;refine Ao func76 ntmps76 rfl rfl (fun w0 hw0=>?_);simp only[AU];refine As (AS [_,_,_] rfl rfl (by rfl) rfl rfl rfl (fun g3=>Qm rfl (An (Aw fun h1 l1 hS=>?_))));have hT:=hT.up l1;have hX:=hX.up l1;have hA:=Seg.all hS;have a0:∀ms,Cell h1 ms (⟨g3,0,none⟩:Addr) (.int .i64 x.c.id):=fun ms=>hA 0 _ rfl ms;have a1:∀ms,Cell h1 ms (⟨g3,1,none⟩:Addr) (.int .i64 x.c.dim):=fun ms=>hA 1 _ rfl ms;have a2:∀ms,Cell h1 ms (⟨g3,2,none⟩:Addr) x.v:=fun ms=>hA 2 _ rfl ms;have hd1:=hd.1;have hd2:=hd.2;refine As (Qf Bu rfl (Ql rfl BL (a2 _) (Qx (Ar hX.rd.any rfl BL rfl) rfl (Qm rfl (An ?_)))));refine A3 (fun sl h' ms'=>sl=[(0,.pointer (some ⟨g,0,none⟩)),(3,.pointer (some ⟨g3,0,none⟩))]/\h1=h'/\ms'=[]/\(0<=x.c.dim/\x.c.dim<=8)/\¬BP x.c) ?_ (fun s h ms hI=>?_)
 ·refine Ae (As (Qf BM rfl (Ql rfl U3 (a1 _) (Qm rfl (Qm rfl ?_)))));refine AO (t:=20) rfl (fun q1=>?_) (fun q1=>?_)
  ·refine Qk rfl (Qk rfl (Qk rfl (Qm rfl (Qm rfl (An (Bn rfl (As (Qm rfl (An (Am (Al (Ag ?_))))))))))));exact Ap rfl rfl (by unfold D0;rw[if_pos (.inl q1)])
  ·refine Qg (oF BM rfl) rfl (Qg (oL rfl U3 (a1 _)) rfl (Qg (Cc rfl rfl rfl) rfl (Qm rfl (Qm rfl (An ?_)))));refine Au rfl (fun q2=>?_) (fun q2=>?_)
   ·refine Ac (Ad (Qm rfl (An (Am (Al (Ag ?_))))));exact Ap rfl rfl (by unfold D0;rw[if_pos (.inr q2)])
   ·have hdb:0<=x.c.dim/\x.c.dim<=8:=by omega
    have e21:¬(x.c.dim<0\/8<x.c.dim):=by omega
    have e22:BP x.c->D0 (U.map Ce.c) x.c=22:=fun h=>by unfold D0;rw[if_neg e21,if_pos h]
    refine As (Qf BM rfl (Ql rfl U3 (a1 _) (Qm rfl (Qm rfl ?_))));refine AO (t:=29) rfl (fun r0=>?_) (fun r0=>?_)
    ·refine Qg (Ay rfl rfl) rfl (Qg (Cc rfl rfl rfl) rfl (Qm rfl (Qm rfl ?_)));refine AO (t:=33) rfl (fun r1=>?_) (fun r1=>?_)
     ·refine Qk rfl (Qk rfl (Qk rfl (Qk rfl (AX rfl rfl rfl rfl rfl rfl (AX rfl rfl rfl rfl rfl rfl (Qk rfl (Qm rfl (Qm rfl (Qk rfl (Qk rfl (Qk rfl (Qk rfl (AX rfl rfl rfl rfl rfl rfl (AX rfl rfl rfl rfl rfl rfl (AX rfl rfl rfl rfl rfl rfl (AX rfl rfl rfl rfl rfl rfl (AX rfl rfl rfl rfl rfl rfl (AX rfl rfl rfl rfl rfl rfl (Qk rfl (Qm rfl (Qm rfl (An (Bn rfl (As (Qm rfl (An (Am (Al (Ag ?_)))))))))))))))))))))))))))));exact Ap rfl rfl (by rw[e22 (.inl ⟨r0,by omega⟩)])
     ·refine Qg (oF BM rfl) rfl (Qg (oL rfl U3 (a1 _)) rfl (Qg (DH rfl rfl rfl) rfl (Qg (Ay rfl rfl) rfl (AO (t:=37) rfl (fun hs=>absurd hs (by omega)) (fun hs=>Qk rfl (Qk rfl (Qg (Cj rfl rfl rfl) rfl (Qm rfl (Qm rfl (Qg (oF BM rfl) rfl (Qg (oL rfl U3 (a1 _)) rfl (Qg (Cc rfl rfl rfl) rfl (Qg (Ay rfl rfl) rfl (AO (t:=46) rfl (fun hs=>absurd hs (by omega)) (fun hs=>Qk rfl (Qk rfl (Qk rfl (AX rfl rfl rfl rfl rfl rfl (AX rfl rfl rfl rfl rfl rfl (Qk rfl (Qg (Cj rfl rfl rfl) rfl (Qm rfl (Qm rfl (An (AQ rfl (Ah (Ai ?_)))))))))))))))))))))))))));exact AA _ ⟨rfl,rfl,rfl,hdb,fun q=>by unfold BP at q;omega⟩ Qs
    ·refine Qk rfl (Qk rfl (Qm rfl (Qm rfl (Qg (oF BM rfl) rfl (Qg (oL rfl U3 (a1 _)) rfl (Qg (DH rfl rfl rfl) rfl (Qg (Ay rfl rfl) rfl ?_)))))));refine AO (t:=37) rfl (fun r2=>?_) (fun r2=>?_)
     ·refine Qg (Ay rfl rfl) rfl (Qg (EZ rfl rfl rfl) rfl (Qg (CA rfl rfl rfl) rfl (Qm rfl (Qm rfl ?_))));refine AO (t:=42) rfl (fun r3=>?_) (fun r3=>?_)
      ·refine Qk rfl (Qk rfl (Qk rfl (Qk rfl (AX rfl rfl rfl rfl rfl rfl (AX rfl rfl rfl rfl rfl rfl (AX rfl rfl rfl rfl rfl rfl (AX rfl rfl rfl rfl rfl rfl (AX rfl rfl rfl rfl rfl rfl (AX rfl rfl rfl rfl rfl rfl (Qk rfl (Qm rfl (Qm rfl (An (Bn rfl (As (Qm rfl (An (Am (Al (Ag ?_))))))))))))))))))));exact Ap rfl rfl (by rw[e22 (.inr (.inl ⟨r2,by omega⟩))])
      ·refine Qg (oF BM rfl) rfl (Qg (oL rfl U3 (a1 _)) rfl (Qg (Cc rfl rfl rfl) rfl (Qg (Ay rfl rfl) rfl (AO (t:=46) rfl (fun hs=>absurd hs (by omega)) (fun hs=>Qk rfl (Qk rfl (Qk rfl (AX rfl rfl rfl rfl rfl rfl (AX rfl rfl rfl rfl rfl rfl (Qk rfl (Qg (Cj rfl rfl rfl) rfl (Qm rfl (Qm rfl (An (AQ rfl (Ah (Ai ?_)))))))))))))))));exact AA _ ⟨rfl,rfl,rfl,hdb,fun q=>by unfold BP at q;omega⟩ Qs
     ·refine Qk rfl (Qk rfl (Qg (Cj rfl rfl rfl) rfl (Qm rfl (Qm rfl (Qg (oF BM rfl) rfl (Qg (oL rfl U3 (a1 _)) rfl (Qg (Cc rfl rfl rfl) rfl (Qg (Ay rfl rfl) rfl ?_))))))));refine AO (t:=46) rfl (fun hs=>?_) (fun hs=>absurd (by omega) hs);refine Qg (Ay rfl rfl) rfl (Qg (Dv rfl rfl rfl) rfl (Qg (Ay rfl rfl) rfl ?_));refine AO (t:=49) rfl (fun r4=>?_) (fun r4=>?_)
      ·refine Qk rfl (Qk rfl (Qg (CA rfl rfl rfl) rfl (Qg (CA rfl rfl rfl) rfl (Qm rfl (Qm rfl (An (Bn rfl (As (Qm rfl (An (Am (Al (Ag ?_)))))))))))));exact Ap rfl rfl (by rw[e22 (.inr (.inr ⟨by omega,by omega⟩))])
      ·refine Qg (Ay rfl rfl) rfl (Qg (Cc rfl rfl rfl) rfl (Qg (Cj rfl rfl rfl) rfl (Qg (CA rfl rfl rfl) rfl (Qm rfl (Qm rfl (An ?_))))));refine Au rfl (fun r5=>?_) (fun r5=>?_)
       ·refine Ac (Ad (Qm rfl (An (Am (Al (Ag ?_))))));exact Ap rfl rfl (by rw[e22 (.inr (.inr ⟨by omega,by omega⟩))])
       ·refine Ah (Ai ?_);exact AA _ ⟨rfl,rfl,rfl,hdb,fun q=>by unfold BP at q;omega⟩ Qs
 ·obtain⟨rfl,rfl,rfl,hdb,hnb⟩:=hI;have e21:¬(x.c.dim<0\/8<x.c.dim):=by omega
  have e22:∀i,i<x.c.sd.length->HP (U.map Ce.c) x.c i->D0 (U.map Ce.c) x.c=22:=fun i h q=>by unfold D0;rw[if_neg e21,if_neg hnb,if_pos fun w=>w i h q]
  obtain⟨gm,mM,bs,vids,hSg,hM,lm,hV,hsU⟩:=hT;refine A3 (fun sl h' ms'=>sl=[(0,.pointer (some ⟨g,0,none⟩)),(3,.pointer (some ⟨g3,0,none⟩))]/\h1.le h'/\ms'=[]/\∀i,i<x.c.sd.length->¬HP (U.map Ce.c) x.c i) ?_ (fun s h ms hI=>?_)
  ·refine Ac (Ad (Qf Bu rfl (Ql rfl BL (a2 _) (Qx (Ar hX.rd.any rfl BL rfl) rfl (Qm rfl (An (Ae ?_)))))))
   refine Az (fun q sl h' ms'=>∃(i:Nat),q=x.c.sd.length-i/\sl=[(0,.pointer (some ⟨g,0,none⟩)),(3,.pointer (some ⟨g3,0,none⟩)),(56,x.v),(57,.int .i64 x.c.sd.length),(58,.int .i64 i)]/\h1.le h'/\ms'=[]/\i<=x.c.sd.length/\∀j,j<i->¬HP (U.map Ce.c) x.c j)
    (x.c.sd.length-0) _ ⟨0,rfl,rfl,CY,rfl,by omega,fun j h=>by omega⟩ Qs ?_
   rintro q sl h2 ms' ⟨i,rfl,rfl,l2,rfl,hil,hno⟩;have hX:=hX.up l2;refine As (Qm rfl (An (Ac ?_)));refine Au rfl (fun hlt=>?_) (fun hlt=>?_)
   ·have hil:i<x.c.sd.length:=by omega
    obtain⟨s,hs⟩:∃s,x.c.sd[i]=s:=⟨_,rfl⟩
    have hsA:Bl x.c i=s:=by rw[Bh hil,hs]
    have hsI:=hi s (by rw[<-hs];exact getElem_mem hil);have hsx:∀ms,Seg h2 ms ((AG x.v).add (i*2)) (cD s):=fun ms=>by rw[<-hs];exact(hX.any (ms:=ms)).seg hil
    refine Ah (Ab (Ac (Ae (As (Qm rfl (Qx (BS (i) hX.rd.any rfl BL AH rfl rfl) rfl (Qx (oG rfl DJ AH (hsx _)) rfl (CC [.int .i64 0,.int .i64 0] rfl AH rfl rfl (fun g7=>Qm rfl ?_)))))))));refine Sa 0 [_,_] AH rfl (by simp[Value.oneCell']) ?_;refine An (Aw fun h3 l3 hS7=>?_);have hX:=hX.up l3;have l13:=AJ l2 l3;have e7:=Seg.all hS7;have e70:∀ms,Cell h3 ms (⟨g7,0,none⟩:Addr) (.int .i64 s.1):=fun ms=>e7 0 _ rfl ms;have eT:∀ms,Cell h3 ms (⟨g,0,none⟩:Addr) (.map (some gm)):=fun ms=>(Seg.all hSg 0 _ rfl ms).le l13;obtain⟨bb,hbb⟩:∃bb,(Bf (Fo U) s.1).isSome=bb:=⟨_,rfl⟩
    obtain⟨y,hy⟩:∃y,(Bf (Fo U) s.1).getD default=y:=⟨_,rfl⟩
    have hyr:=MZ hsU s.1;rw[hy]at hyr;have oyv:=hyr.rd.one;have hbb':(J7 (U.map Ce.c) s.1).isSome=bb:=by rw[<-K7];exact hbb
    have hyc:Gn (U.map Ce.c) s.1=y.c:=by rw[<-Ht,hy]
    refine A3 (fun sl h' ms'=>∃g8:Nat,sl=[(0,.pointer (some ⟨g,0,none⟩)),(3,.pointer (some ⟨g3,0,none⟩)),(6,.int .i64 i),(7,.pointer (some ⟨g7,0,none⟩)),(8,.pointer (some ⟨g8,0,none⟩)),(9,.bool bb),(56,x.v),(57,.int .i64 x.c.sd.length),(58,.int .i64 i)]/\h3=h'/\ms'=[A7 g8 52 (cC y)]) ?_ (fun s h ms hI=>?_)
    ·refine BF (n:=13) (bs:=[true,true,true,true,true,true,true,true,true,true,false,false,false]) [true,true,true,true,true,true,true,true,true,true] CP (by kernel_rfl) (by kernel_rfl) rfl rfl (Qq rfl (Qq rfl (QF Ey rfl (QL rfl Gb (eT _) (QF B4 rfl (QL rfl U3 (e70 _) (Qp rfl (D8 (V:=vC) (z:=(default:Ce)) s.1 hy hbb Bi hM (AJ lm l13) rfl Gb JS rfl rfl hsI.1) (Qq rfl (Qq rfl (Qq rfl ?_))))))))));unfold FN;simp only[cons_append,nil_append];refine Qo 10 rfl (CC [.int .i64 0,.int .i64 0,.slice none 0 0] rfl AI rfl rfl (fun g8=>Qw (Qo 11 rfl ?_)));refine Sa 0 [_,_,_] AI rfl (by simp[o2,oyv]) ?_;refine Qw (Qo 12 rfl (Qm rfl (Qw (Qe ?_))));exact AA _ ⟨g8,rfl,rfl,rfl⟩ Qs
    ·obtain⟨g8,rfl,rfl,rfl⟩:=hI;refine Aw fun h4 l4 hS8=>?_;have hX:=hX.up l4;have e70:∀ms,Cell h4 ms (⟨g7,0,none⟩:Addr) (.int .i64 s.1):=fun ms=>(e70 ms).le l4;have e81:∀ms,Cell h4 ms (⟨g8,1,none⟩:Addr) (.int .i64 y.c.dim):=fun ms=>Seg.all hS8 1 _ rfl ms;have l14:=AJ l13 l4;have b1:∀ms,Cell h4 ms (⟨g3,1,none⟩:Addr) (.int .i64 x.c.dim):=fun ms=>(a1 ms).le l14;have b2:∀ms,Cell h4 ms (⟨g3,2,none⟩:Addr) x.v:=fun ms=>(a2 ms).le l14
     have hbad:HP (U.map Ce.c) x.c i<->bb=false\/y.c.dim≠x.c.dim-1\/(0<i/\(Bl x.c (i-1)).1=s.1):=by unfold HP;rw[hsA,hbb',hyc]
     have hstep:¬HP (U.map Ce.c) x.c i->∀j,j<i+1->¬HP (U.map Ce.c) x.c j:=fun h j hj=>by
      rcases (by omega:j<i\/j=i) with h1|rfl
      ·exact hno j h1
      ·exact h
     refine Ac (Bc 23 CP (by kernel_rfl) rfl (Wm rfl (Wm rfl (Wm rfl ?_))));refine SH (t:=75) rfl (fun c1=>?_) (fun c1=>?_)
     ·have hbf:bb=false:=by cases bb<;>simp at c1 ⊢
      refine Ax rfl rfl rfl rfl rfl (Ax rfl rfl rfl rfl rfl (Ax rfl rfl rfl rfl rfl (Ax rfl rfl rfl rfl rfl (Ax rfl rfl rfl rfl rfl (Ax rfl rfl rfl rfl rfl (Wm rfl (Wm rfl (Ax rfl rfl rfl rfl rfl (Ax rfl rfl rfl rfl rfl (Ax rfl rfl rfl rfl rfl (AR rfl rfl rfl rfl (AR rfl rfl rfl rfl (AR rfl rfl rfl rfl (AR rfl rfl rfl rfl (AR rfl rfl rfl rfl (AR rfl rfl rfl rfl (AR rfl rfl rfl rfl (AR rfl rfl rfl rfl (AR rfl rfl rfl rfl (AZ (AX rfl rfl rfl rfl rfl rfl (Qk rfl (Qm rfl (An (Bn rfl (As (Qm rfl (An (Am (Al (Ag (Ag (Al (Ag ?_))))))))))))))))))))))))))))))))));exact Ap rfl rfl (by rw[e22 i hil (hbad.2 (.inl hbf))])
     ·have hbt:bb=true:=by cases bb<;>simp at c1 ⊢
      refine AL (oF BM rfl) rfl rfl rfl rfl (AL (oL rfl U3 (e81 _)) rfl rfl rfl rfl (AL (oF BM rfl) rfl rfl rfl rfl (AL (oL rfl U3 (b1 _)) rfl rfl rfl rfl (AL (oS rfl) rfl rfl rfl rfl (AL (EZ rfl rfl rfl) rfl rfl rfl rfl (Wm rfl (Wm rfl ?_)))))));refine Ct (t:=83) rfl (fun c2=>?_) (fun c2=>?_)
      ·refine Ax rfl rfl rfl rfl rfl (Ax rfl rfl rfl rfl rfl (Ax rfl rfl rfl rfl rfl (AR rfl rfl rfl rfl (AR rfl rfl rfl rfl (AR rfl rfl rfl rfl (AR rfl rfl rfl rfl (AR rfl rfl rfl rfl (AR rfl rfl rfl rfl (AR rfl rfl rfl rfl (AR rfl rfl rfl rfl (AR rfl rfl rfl rfl (AZ (AX rfl rfl rfl rfl rfl rfl (Qk rfl (Qm rfl (An (Bn rfl (As (Qm rfl (An (Am (Al (Ag (Ag (Al (Ag ?_))))))))))))))))))))))))));exact Ap rfl rfl (by rw[e22 i hil (hbad.2 (.inr (.inl c2)))])
      ·refine AL (Ay rfl rfl) rfl rfl rfl rfl (AL (Cc rfl rfl rfl) rfl rfl rfl rfl (AL (Ay rfl rfl) rfl rfl rfl rfl ?_));refine Ct (t:=86) rfl (fun c3=>?_) (fun c3=>?_)
       ·have hi1:i-1<x.c.sd.length:=by omega
        obtain⟨s',hs'⟩:∃s',x.c.sd[i-1]=s':=⟨_,rfl⟩
        have hsA':Bl x.c (i-1)=s':=by rw[Bh hi1,hs']
        have r0:∀ms,Cell h4 ms ((AG x.v).add ((i-1)*2)) (.int .i64 s'.1):=fun ms=>by rw[<-hs'];exact(hX.any (ms:=ms)).cell0 hi1 rfl
        refine AL (oF Bu rfl) rfl rfl rfl rfl (AL (oL rfl BL (b2 _)) rfl rfl rfl rfl (AL (Ay rfl rfl) rfl rfl rfl rfl (AL (oS rfl) rfl rfl rfl rfl (AL (BS (i-1) hX.rd.any rfl BL AH rfl rfl) rfl rfl rfl rfl (AL (oF B4 rfl) rfl rfl rfl rfl (AL (oL rfl U3 (r0 _)) rfl rfl rfl rfl (AL (oF B4 rfl) rfl rfl rfl rfl (AL (oL rfl U3 (e70 _)) rfl rfl rfl rfl (AZ (Qg (DH rfl rfl rfl) rfl (Qg (CA rfl rfl rfl) rfl (Qm rfl (An ?_)))))))))))));refine Au rfl (fun c4=>?_) (fun c4=>?_)
        ·refine Ac (Ad (Qm rfl (An (Am (Al (Ag (Ag (Al (Ag ?_)))))))));exact Ap rfl rfl (by rw[e22 i hil (hbad.2 (.inr (.inr ⟨by omega,by rw[hsA'];exact c4⟩)))])
        ·have hok:¬HP (U.map Ce.c) x.c i:=fun q=>by
          rcases hbad.1 q with q|q|⟨_,q⟩
          ·rw[hbt]at q;cases q
          ·exact c2 q
          ·rw[hsA']at q;exact c4 q
         refine Ah (Ai (Ab (Ad (Qx (oA rfl) rfl (Qm rfl (Aj ?_))))));exact Ak (x.c.sd.length-(i+1)) _ (by omega) ⟨i+1,rfl,rfl,l14,rfl,by omega,hstep hok⟩ Qs
       ·have hok:¬HP (U.map Ce.c) x.c i:=fun q=>by
         rcases hbad.1 q with q|q|⟨q,_⟩
         ·rw[hbt]at q;cases q
         ·exact c2 q
         ·omega
        refine Ax rfl rfl rfl rfl rfl (Ax rfl rfl rfl rfl rfl (Ax rfl rfl rfl rfl rfl (Ax rfl rfl rfl rfl rfl (Ax rfl rfl rfl rfl rfl (Ax rfl rfl rfl rfl rfl (Ax rfl rfl rfl rfl rfl (Ax rfl rfl rfl rfl rfl (Ax rfl rfl rfl rfl rfl (AZ (Qk rfl (Qg (Cj rfl rfl rfl) rfl (Qm rfl (An (AQ rfl (Ah (Ai (Ab (Ad (Qx (oA rfl) rfl (Qm rfl (Aj ?_)))))))))))))))))))));exact Ak (x.c.sd.length-(i+1)) _ (by omega) ⟨i+1,rfl,rfl,l14,rfl,by omega,hstep hok⟩ Qs
   ·obtain rfl:i=x.c.sd.length:=by omega
    refine Av (Aa (Aa (Af ?_)));exact AA _ ⟨rfl,l2,rfl,hno⟩ Qs
  ·obtain⟨rfl,l2,rfl,hno⟩:=hI;have hX:=hX.up l2;have B7:¬¬∀i,i<x.c.sd.length->¬HP (U.map Ce.c) x.c i:=fun q=>q hno
   have e23:∀i,i<x.c.sd.length->BK x.c i->D0 (U.map Ce.c) x.c=23:=fun i h q=>by unfold D0;rw[if_neg e21,if_neg hnb,if_neg B7,if_pos fun w=>w i h q]
   have b1:∀ms,Cell h ms (⟨g3,1,none⟩:Addr) (.int .i64 x.c.dim):=fun ms=>(a1 ms).le l2;have b2:∀ms,Cell h ms (⟨g3,2,none⟩:Addr) x.v:=fun ms=>(a2 ms).le l2;refine As (Qm rfl (An (Ac (As (Qf Bu rfl (Ql rfl BL (b2 _) (Qx (Ar hX.rd.any rfl BL rfl) rfl (Qm rfl (An (Ae ?_))))))))))
   refine Az (fun q sl h' ms'=>∃(i:Nat),q=x.c.sd.length-i/\sl=[(3,.pointer (some ⟨g3,0,none⟩)),(10,.int .i64 (Xi x.c i)),(101,x.v),(102,.int .i64 x.c.sd.length),(103,.int .i64 i)]/\h.le h'/\ms'=[]/\i<=x.c.sd.length/\(-(i:Int)<=Xi x.c i/\Xi x.c i<=i)/\∀j,j<i->¬BK x.c j)
    (x.c.sd.length-0) _ ⟨0,rfl,rfl,CY,rfl,by omega,by simp[Xi],fun j h=>by omega⟩ Qs ?_
   rintro q sl h3 ms' ⟨i,rfl,rfl,l3,rfl,hil,hsb,hns⟩;have hX:=hX.up l3;have b1:∀ms,Cell h3 ms (⟨g3,1,none⟩:Addr) (.int .i64 x.c.dim):=fun ms=>(b1 ms).le l3;refine As (Qm rfl (An (Ac ?_)));refine Au rfl (fun hlt=>?_) (fun hlt=>?_)
   ·have hil:i<x.c.sd.length:=by omega
    obtain⟨s,hs⟩:∃s,x.c.sd[i]=s:=⟨_,rfl⟩
    have hsA:Bl x.c i=s:=by rw[Bh hil,hs]
    have hsI:=(hi s (by rw[<-hs];exact getElem_mem hil)).2;have hsx:∀ms,Seg h3 ms ((AG x.v).add (i*2)) (cD s):=fun ms=>by rw[<-hs];exact(hX.any (ms:=ms)).seg hil
    have hss:=UJ hil;rw[hs]at hss;have hbs:BK x.c i<->s.2≠1/\s.2≠-1:=by unfold BK;rw[hsA]
    have hstep:¬BK x.c i->∀j,j<i+1->¬BK x.c j:=fun h j hj=>by
     rcases (by omega:j<i\/j=i) with h1|rfl
     ·exact hns j h1
     ·exact h
    refine Ah (Ab (Ac (Ae (As (Qx (BS (i) hX.rd.any rfl BL AH rfl rfl) rfl (Qx (oG rfl DJ AH (hsx _)) rfl (CC [.int .i64 0,.int .i64 0] rfl AH rfl rfl (fun g12=>?_))))))));refine Sa 0 [_,_] AH rfl (by simp[Value.oneCell']) ?_;refine An (Aw fun h4 l4 hS12=>?_);have e12:∀ms,Cell h4 ms (⟨g12,1,none⟩:Addr) (.int .i64 s.2):=fun ms=>Seg.all hS12 1 _ rfl ms;refine Ac (As (Qf Cp rfl (Ql rfl U3 (e12 _) (Qm rfl (Qm rfl ?_)))));refine AO (t:=110) rfl (fun c1=>?_) (fun c1=>?_)
    ·refine Qg (oF Cp rfl) rfl (Qg (oL rfl U3 (e12 _)) rfl (Qg (EZ rfl rfl rfl) rfl (Qm rfl (An ?_))));refine Au rfl (fun c2=>?_) (fun c2=>?_)
     ·refine Ac (Ad (Qm rfl (An (Am (Ag (Al (Ag (Ag (Al (Ag ?_))))))))));exact Ap rfl rfl (by rw[e23 i hil (hbs.2 ⟨c1,c2⟩)])
     ·have hok:¬BK x.c i:=fun q=>c2 (hbs.1 q).2;have h2:s.2=-1:=by omega
      refine Ah (Ab (Ad (Qm rfl (Qf Cp rfl (Ql rfl U3 (e12 _) (Qx (oA rfl) rfl (Qm rfl (Aj (Ai (Ab (Ad (Qx (oA rfl) rfl (Qm rfl (Aj ?_))))))))))))));exact Ak (x.c.sd.length-(i+1)) _ (by omega) ⟨i+1,rfl,by rw[hss],AJ l3 l4,rfl,by omega,by rw[hss];omega,hstep hok⟩ Qs
    ·have h2:s.2=1:=by omega
     have hok:¬BK x.c i:=fun q=>(hbs.1 q).1 h2;refine Qk rfl (Qk rfl (Qk rfl (Qm rfl (An (AQ rfl (Ah (Ab (Ad (Qm rfl (Qf Cp rfl (Ql rfl U3 (e12 _) (Qx (oA rfl) rfl (Qm rfl (Aj (Ai (Ab (Ad (Qx (oA rfl) rfl (Qm rfl (Aj ?_))))))))))))))))))));exact Ak (x.c.sd.length-(i+1)) _ (by omega) ⟨i+1,rfl,by rw[hss],AJ l3 l4,rfl,by omega,by rw[hss];omega,hstep hok⟩ Qs
   ·obtain rfl:i=x.c.sd.length:=by omega
    have hs0:¬¬∀i,i<x.c.sd.length->¬BK x.c i:=fun q=>q hns;refine Av (Aa (Aa (Af (Ab (Ac (As (Qf BM rfl (Ql rfl U3 (b1 _) (Qm rfl (Qm rfl ?_))))))))));refine AO (t:=123) rfl (fun c1=>?_) (fun c1=>?_)
    ·refine Qg (Ay rfl rfl) rfl (Qg (EZ rfl rfl rfl) rfl (Qm rfl (An ?_)));refine Au rfl (fun c2=>?_) (fun c2=>?_)
     ·refine Ac (Ad (Qm rfl (An (Am (Ag ?_)))));exact Ap rfl rfl (by unfold D0;rw[if_neg e21,if_neg hnb,if_neg B7,if_neg hs0,if_pos ⟨c1,c2⟩])
     ·refine Ah (Ab (As (Qm rfl (An (Am ?_)))));exact Ap rfl rfl (by unfold D0;rw[if_neg e21,if_neg hnb,if_neg B7,if_neg hs0,if_neg fun q=>c2 q.2])
    ·refine Qk rfl (Qk rfl (Qm rfl (An (AQ rfl (Ah (Ab (As (Qm rfl (An (Am ?_))))))))));exact Ap rfl rfl (by unfold D0;rw[if_neg e21,if_neg hnb,if_neg B7,if_neg hs0,if_neg fun q=>c1 q.1])
end Go.Proofs.Q

namespace Go.Proofs.Q
open Go.Eng Go.RowKit
def U6(U:List Cl)(x:Cl)(i:Nat):F4:=(Gn U (Bl x i).1).sd.map fun r=>((i:Int),r.1,(Bl x i).2*r.2)
def JK(U:List Cl)(x:Cl)(m:Nat):F4:=(range m).flatMap (U6 U x)
theorem OV(U:List Cl)(x:Cl)(m:Nat):JK U x (m+1)=JK U x m++U6 U x m:=by unfold JK;rw[List.range_succ,List.flatMap_append];simp
theorem Nj(U:List Cl)(x:Cl)(h:∀i,i<x.sd.length->(Gn U (Bl x i).1).sd.length<=64):∀m,m<=x.sd.length->(JK U x m).length<=64*m
 | 0,_=>by simp[JK]
 | m+1,hm=>by have:=Nj U x h m (by omega);have:=h m (by omega);rw[OV,length_append];unfold U6;rw[length_map];omega
def CL(E:F4):List (Int×Int):=E.foldl (fun T e=>CQ T e.2.1 ((Bf T e.2.1).getD 0+e.2.2)) []
def FQ(E:F4):List (Int×List Int):=E.foldl (fun T e=>CQ T e.2.1 ((Bf T e.2.1).getD []++[e.1])) []
theorem GD(E:F4)(e:Int×Int×Int):CL (E++[e])=CQ (CL E) e.2.1 ((Bf (CL E) e.2.1).getD 0+e.2.2):=by unfold CL;rw[foldl_append];rfl
theorem Gk(E:F4)(e:Int×Int×Int):FQ (E++[e])=CQ (FQ E) e.2.1 ((Bf (FQ E) e.2.1).getD []++[e.1]):=by unfold FQ;rw[foldl_append];rfl
theorem C6{α:Type}{P:List α->Prop}(h0:P [])(h1:∀l a,P l->P (l++[a]))(l:List α):P l:=by
 have:∀r:List α,P r.reverse:=fun r=>by
  induction r with
  | nil=>exact h0
  | cons a r ih=>rw[List.reverse_cons];exact h1 _ _ ih
 have:=this l.reverse
 rwa [List.reverse_reverse]at this
theorem Jy(c:Int):∀E:F4,(Bf (CL E) c).getD 0=D6 E c:=C6 rfl fun E e ih=>by
 rw[GD,DD,Mg];by_cases h:c=e.2.1
 ·subst h;rw[if_pos rfl,if_pos rfl,<-ih];rfl
 ·rw[if_neg h,if_neg (fun q=>h q.symm),ih,Int.add_zero]
theorem DN{ν:Type}(T:List (Int×ν))(a:Int)(x:ν)(c:Int):c∈(CQ T a x).map Prod.fst<->c=a\/c∈T.map Prod.fst:=by
 unfold CQ;split
 ·rename_i h
  have e:(T.map fun p=>if p.1=a then(a,x) else p).map Prod.fst=T.map Prod.fst:=by
   rw[map_map];refine List.map_congr_left fun p _=>?_;show(if p.1=a then(a,x) else p).1=p.1;by_cases q:p.1=a
   ·rw[if_pos q];exact q.symm
   ·rw[if_neg q]
  rw[e];exact⟨.inr,fun q=>by rcases q with rfl|q;exact h;exact q⟩
 ·rw[map_append,mem_append];simp only[map_cons,List.map_nil,mem_singleton];exact⟨fun q=>q.symm,fun q=>q.symm⟩
theorem LC(c:Int):∀E:F4,c∈(CL E).map Prod.fst<->∃e∈E,e.2.1=c:=C6 ⟨fun h=>by simp[CL]at h,fun⟨e,he,_⟩=>by cases he⟩ fun E e ih=>by
 rw[GD,DN,ih];constructor
 ·rintro(rfl|⟨e',he,h⟩)
  ·exact⟨e,List.mem_append_right _ Mh,rfl⟩
  ·exact⟨e',List.mem_append_left _ he,h⟩
 ·rintro⟨e',he,h⟩;rcases List.mem_append.1 he with he|he
  ·exact .inr ⟨e',he,h⟩
  ·rw[List.mem_singleton.1 he]at h;exact .inl h.symm
theorem Tw(c:Int):∀E:F4,c∈(FQ E).map Prod.fst<->∃e∈E,e.2.1=c:=C6 ⟨fun h=>by simp[FQ]at h,fun⟨e,he,_⟩=>by cases he⟩ fun E e ih=>by
 rw[Gk,DN,ih];constructor
 ·rintro(rfl|⟨e',he,h⟩)
  ·exact⟨e,List.mem_append_right _ Mh,rfl⟩
  ·exact⟨e',List.mem_append_left _ he,h⟩
 ·rintro⟨e',he,h⟩;rcases List.mem_append.1 he with he|he
  ·exact .inr ⟨e',he,h⟩
  ·rw[List.mem_singleton.1 he]at h;exact .inl h.symm
theorem Ow(c:Int):∀E:F4,(Bf (FQ E) c).getD []=(E.filter fun e=>decide (e.2.1=c)).map fun e=>e.1:=C6 rfl fun E e ih=>by
 rw[Gk,DD,List.filter_append,map_append,<-ih];by_cases h:c=e.2.1
 ·subst h;rw[if_pos rfl];simp
 ·rw[if_neg h];simp[Ne.symm h]
theorem Ip(E:F4)(c:Int):Fs E c=((E.filter fun e=>decide (e.2.1=c)).length:Int):=by
 induction E with
 | nil=>rfl
 | cons e E ih=>
  unfold Fs at *;rw[map_cons,sum_cons,ih,List.filter_cons];by_cases h:e.2.1=c
  ·simp[h];omega
  ·simp[h]
theorem ZF(E:F4)(c:Int)(h:∀e∈E,e.2.2=1\/e.2.2=-1):-(E.length:Int)<=D6 E c/\D6 E c<=E.length:=by
 induction E with
 | nil=>exact⟨Int.le_refl _,Int.le_refl _⟩
 | cons e E ih=>
  have h1:=ih fun e he=>h e (mem_cons_of_mem _ he);have h2:=h e Mh;unfold D6 at *;rw[map_cons,sum_cons,length_cons];split<;>omega
theorem Sv(E:F4):((CL E).map Prod.fst).Nodup:=by refine C6 (P:=fun E=>((CL E).map Prod.fst).Nodup) (by simp[CL]) (fun E e ih=>?_) E;rw[GD];exact HK ih _ _
theorem Z7(E:F4):((FQ E).map Prod.fst).Nodup:=by refine C6 (P:=fun E=>((FQ E).map Prod.fst).Nodup) (by simp[FQ]) (fun E e ih=>?_) E;rw[Gk];exact HK ih _ _
def E1(T:List (Int×List Int))(a b:Int):List (Int×List Int):=CQ T a ((Bf T a).getD []++[b])
def EO(P:List (Int×Int)):List (Int×List Int):=P.foldl (fun T p=>E1 (E1 T p.1 p.2) p.2 p.1) []
theorem Io(P:List (Int×Int))(p:Int×Int):EO (P++[p])=E1 (E1 (EO P) p.1 p.2) p.2 p.1:=by unfold EO;rw[foldl_append];rfl
theorem MG(T:List (Int×List Int))(a b c k:Int):k∈(Bf (E1 T a b) c).getD []<->k∈(Bf T c).getD []\/(c=a/\k=b):=by
 unfold E1;rw[DD];by_cases h:c=a
 ·subst h;simp
 ·simp[h]
theorem SM(c k:Int):∀P:List (Int×Int),k∈(Bf (EO P) c).getD []<->(c,k)∈P\/(k,c)∈P:=C6 ⟨fun h=>by simp[EO,Bf]at h,fun h=>by simp at h⟩ fun P p ih=>by
 rw[Io,MG,MG,ih,mem_append,mem_append,mem_singleton,mem_singleton];constructor
 ·rintro((h|⟨rfl,rfl⟩)|⟨rfl,rfl⟩)
  ·rcases h with h|h
   ·exact .inl (.inl h)
   ·exact .inr (.inl h)
  ·exact .inl (.inr rfl)
  ·exact .inr (.inr rfl)
 ·rintro((h|rfl)|(h|rfl))
  ·exact .inl (.inl (.inl h))
  ·exact .inl (.inr ⟨rfl,rfl⟩)
  ·exact .inl (.inl (.inr h))
  ·exact .inr ⟨rfl,rfl⟩
theorem Jv(T:List (Int×List Int))(a b:Int)(B:Nat)(h:∀c,((Bf T c).getD []).length<=B):∀c,((Bf (E1 T a b) c).getD []).length<=B+1:=fun c=>by
 unfold E1;rw[DD];have h1:=h c;by_cases e:c=a
 ·subst e;simp;omega
 ·rw[if_neg e];omega
theorem ME:∀P:List (Int×Int),∀c,((Bf (EO P) c).getD []).length<=2*P.length:=C6 (fun c=>by simp[EO,Bf]) fun P p ih c=>by rw[Io,length_append,length_singleton];have:=Jv _ p.2 p.1 _ (Jv _ p.1 p.2 _ ih) c;omega
inductive Rch (J:Int->List Int):Int->Int->Prop
 | refl (a:Int):Rch J a a
 | step {a b k:Int}:Rch J a b->k∈J b->Rch J a k
theorem Rch.trans{J:Int->List Int}{a b c:Int}(h:Rch J a b)(h':Rch J b c):Rch J a c:=by
 induction h' with
 | refl=>exact h
 | step _ h1 ih=>exact .step ih h1
theorem Ys{E:F4}(h2:∀e∈E,Fs E e.2.1=2){J:Int->List Int}(hJ:∀a k,k∈J a<->∃c p q,(E.filter fun e=>decide (e.2.1=c)).map (fun e=>e.1)=[p,q]/\((a=p/\k=q)\/(a=q/\k=p)))(a b:Int):Con E a b<->Rch J a b:=by
 have hin:∀{c p:Int} {l},(E.filter fun e=>decide (e.2.1=c)).map (fun e=>e.1)=l->p∈l->∃w,(p,c,w)∈E:=fun {c p l} e hp=>by rw[<-e]at hp;obtain⟨x,hx,rfl⟩:=List.mem_map.1 hp;obtain⟨h3,h4⟩:=List.mem_filter.1 hx;have h4:=of_decide_eq_true h4;exact⟨x.2.2,by rw[<-h4];exact h3⟩
 constructor
 ·intro h
  induction h with
  | refl=>exact .refl _
  | @step b d c w w' _ h3 h4 ih=>
   have hc:=h2 _ h3;rw[Ip]at hc;obtain⟨L,hL⟩:∃L,(E.filter fun e=>decide (e.2.1=c)).map (fun e=>e.1)=L:=⟨_,rfl⟩
   have hl:L.length=2:=by rw[<-hL,length_map];have hc:((E.filter fun e=>decide (e.2.1=c)).length:Int)=2:=hc;omega
   match L,hl with
   | [p,q],_=>
    have m1:b∈[p,q]:=by rw[<-hL];exact List.mem_map.2 ⟨_,List.mem_filter.2 ⟨h3,decide_eq_true rfl⟩,rfl⟩
    have m2:d∈[p,q]:=by rw[<-hL];exact List.mem_map.2 ⟨_,List.mem_filter.2 ⟨h4,decide_eq_true rfl⟩,rfl⟩
    simp only[mem_cons,not_mem_nil,or_false]at m1 m2;by_cases e:b=d
    ·subst e;exact ih
    ·refine .step ih ((hJ b d).2 ⟨c,p,q,hL,?_⟩);rcases m1 with m1|m1<;>rcases m2 with m2|m2
     ·exact absurd (m1.trans m2.symm) e
     ·exact .inl ⟨m1,m2⟩
     ·exact .inr ⟨m1,m2⟩
     ·exact absurd (m1.trans m2.symm) e
 ·intro h
  induction h with
  | refl=>exact .refl _
  | @step b k _ h3 ih=>
   obtain⟨c,p,q,hL,h4⟩:=(hJ b k).1 h3;obtain⟨w1,m1⟩:=hin hL Mh;obtain⟨w2,m2⟩:=hin hL (mem_cons_of_mem _ Mh);rcases h4 with ⟨rfl,rfl⟩|⟨rfl,rfl⟩
   ·exact .step ih m1 m2
   ·exact .step ih m2 m1
noncomputable def WO(E:F4)(n:Nat):Int:=
 open Classical in
 if ¬∀e∈E,D6 E e.2.1=0 then 24
 else if ¬∀e∈E,Fs E e.2.1=2 then 25
 else if ¬(0<n/\∀i:Nat,i<n->Con E 0 i) then 25 else 0
open Go.Proofs.Tryz
variable {T:List (Int×Bool)} {n:Nat}
def vB(b:Bool):Value:=.bool b
theorem Sw(w:World):(zeroValue 4).run Tryz.prog w=.ok (vB false) w:=by rfl
theorem K3(w:World):(zeroValue 22).run Tryz.prog w=.ok (LZ (.slice none 0 0)) w:=by rfl
abbrev DB(T:List (Int×Bool)):List Int:=T.map Prod.fst
def J9(T:List (Int×Bool)):Prop:=∀p∈T,p.2=true
theorem Ja(h:J9 T)(a:Int):(Bf T a).getD false=decide (a∈DB T):=by
 by_cases ha:a∈DB T
 ·rw[decide_eq_true ha];cases hg:Bf T a with
  | none=>
   exfalso;unfold Bf at hg;rw[Option.map_eq_none_iff,List.find?_eq_none]at hg;obtain⟨p,hp,e⟩:=List.mem_map.1 ha;have:=hg p hp;simp[e]at this
  | some b=>
   unfold Bf at hg;obtain⟨p,hp,rfl⟩:=Option.map_eq_some_iff.1 hg;exact h p (List.mem_of_find?_eq_some hp)
 ·rw[decide_eq_false ha,Dd ha];rfl
theorem Lc(h:J9 T)(a:Int):J9 (CQ T a true):=fun p hp=>by
 unfold CQ at hp;split at hp
 ·obtain⟨q,hq,rfl⟩:=List.mem_map.1 hp;split
  ·rfl
  ·exact h q hq
 ·rcases List.mem_append.1 hp with hp|hp
  ·exact h p hp
  ·rw[List.mem_singleton.1 hp]
def ZZ(n:Nat)(T:List (Int×Bool)):Nat:=((range n).filter fun(j:Nat)=>decide ((j:Int) ∉ DB T)).length
theorem U7{T':List (Int×Bool)}(h:∀x∈DB T,x∈DB T'):ZZ n T'<=ZZ n T:=by refine Go.Kuhn.nodup_le _ _ (List.Pairwise.filter _ List.nodup_range) fun x hx=>?_;obtain⟨h1,h2⟩:=List.mem_filter.1 hx;exact List.mem_filter.2 ⟨h1,decide_eq_true fun q=>of_decide_eq_true h2 (h _ q)⟩
theorem ZL{i:Nat}(hi:i<n)(hn:(i:Int) ∉ DB T)(b:Bool):ZZ n (CQ T (i:Int) b)+1<=ZZ n T:=by
 have h1:(i::(range n).filter fun(j:Nat)=>decide ((j:Int) ∉ DB (CQ T (i:Int) b))).Nodup:=by refine List.nodup_cons.2 ⟨fun q=>?_,List.Pairwise.filter _ List.nodup_range⟩;have:=of_decide_eq_true (List.mem_filter.1 q).2;exact this ((DN T _ _ _).2 (.inl rfl))
 have h2:=Go.Kuhn.nodup_le _ ((range n).filter fun(j:Nat)=>decide ((j:Int) ∉ DB T)) h1 fun x hx=>by
  rcases List.mem_cons.1 hx with rfl|hx
  ·exact List.mem_filter.2 ⟨List.mem_range.2 hi,decide_eq_true hn⟩
  ·obtain⟨h3,h4⟩:=List.mem_filter.1 hx;exact List.mem_filter.2 ⟨h3,decide_eq_true fun q=>of_decide_eq_true h4 ((DN T _ _ _).2 (.inr q))⟩
 unfold ZZ;rw[length_cons]at h2;exact h2
structure Abf(J:Int->List Int)(n:Nat)(T T':List (Int×Bool))(i:Int):Prop where
 sub:∀x∈DB T,x∈DB T'
 me:i∈DB T'
 new:∀x∈DB T',x ∉ DB T->(Rch J i x/\∀k∈J x,k∈DB T')/\0<=x/\x<n
structure Abq(h:Hp)(gS gJ g16 g13 g17:Nat)(mM mB:Hp)(TJ:List (Int×List Int))(J:Int->List Int)(n:Nat):Prop where
 s:∀ms,Cell h ms (⟨g16,0,none⟩:Addr) (.map (some gS))
 j:∀ms,Cell h ms (⟨g13,0,none⟩:Addr) (.map (some gJ))
 f:∀ms,Cell h ms (⟨g17,0,none⟩:Addr) (.func (.func 142) #[] #[.pointer (some ⟨g16,0,none⟩),.pointer (some ⟨g13,0,none⟩),.pointer (some ⟨g17,0,none⟩)])
 m:OwnMS gJ mM mB TJ
 lM:mM.le h
 lB:mB.le h
 e:∀a,J a=(Bf TJ a).getD []
 nb:∀a,∀k∈J a,0<=k/\k<n
 l:∀a,(J a).length<=1000000
 b:n<=1000000
theorem UF{h:Hp}{gS gJ g16 g13 g17:Nat}{mM mB:Hp}{TJ:List (Int×List Int)}{J:Int->List Int}(V:Abq h gS gJ g16 g13 g17 mM mB TJ J n):∀(F:Nat) (i:Nat) (T:List (Int×Bool)) (bs:List Nat) (mS:Hp),i<n->Ci kN vB gS BD mS T bs->J9 T->ZZ n T<F->FnT Tryz.prog 142 #[.int .i64 i,.pointer (some ⟨g16,0,none⟩),.pointer (some ⟨g13,0,none⟩),.pointer (some ⟨g17,0,none⟩)] h [mS] (fun _ h' ms'=>h=h'/\∃mS' T' bs',ms'=[mS']/\Ci kN vB gS BD mS' T' bs'/\J9 T'/\Abf J n T T' i):=by
 intro F
 induction F with
 | zero=>
  intro i T bs mS hi hO hA hF;omega
 | succ F ih=>
  intro i T bs mS hi hO hA hF;have hb:=V.b;have hiI:BD (i:Int):=by unfold BD;omega
  have hs1:=V.s;have hj1:=V.j;have hf1:=V.f;refine Ao func142 ntmps142 rfl rfl (fun w0 hw0=>?_);simp only[AU];refine As (Ql rfl PK (hs1 _) (Qm rfl (Qx (F3 (V:=vB) (z:=false) (i:Int) Bi hO (by simp) rfl PK Sw rfl rfl hiI) rfl ?_)));rw[Ja hA];refine Qm rfl (An ?_);refine Bq rfl (fun hn=>?_) (fun hn=>?_)
  ·have hni:(i:Int) ∉ DB T:=fun q=>by rw[decide_eq_true q]at hn;cases hn
   obtain⟨Tv,bsv,hMv,hKv,_,hRv⟩:=V.m.look V.lB;obtain⟨vL,hvL⟩:∃vL,(Bf Tv (i:Int)).getD (.slice none 0 0)=vL:=⟨_,rfl⟩
   have hRL:=hRv (i:Int);rw[hvL,<-V.e]at hRL;have ovL:=hRL.rd.one;have hLl:=V.l (i:Int);have hLn:=V.nb (i:Int);obtain⟨L,hL⟩:∃L,J (i:Int)=L:=⟨_,rfl⟩
   rw[hL]at hRL hLl hLn;refine As (Ql rfl PK (hs1 _) (Qm rfl (BJ (V:=vB) (z:=undef) 0 (i:Int) true Bi hO rfl rfl PK rfl rfl rfl hiI rfl rfl (fun mS1 FB hO1=>?_))));have hA1:=Lc hA (i:Int);have hU1:=ZL hi hni true;obtain⟨T1,hT1⟩:∃T1,CQ T (i:Int) true=T1:=⟨_,rfl⟩
   have hk1:∀x,x∈DB T1<->x=(i:Int)\/x∈DB T:=fun x=>by rw[<-hT1];exact DN T _ _ x
   rw[hT1]at hO1 hA1 hU1;refine Bv (Ql rfl GA (hj1 _) (Qm rfl (Qx (LL (V:=LZ) (z:=(Value.slice none 0 0)) (i:Int) Bi hMv V.lM rfl GA K3 rfl rfl hiI) rfl ?_)));rw[hvL];refine Qx (Ar hRL.rd.any rfl AY rfl) rfl (Qm rfl (An (Ae ?_)))
   refine Az (fun q sl h' ms'=>∃(t:Nat) (Tt:List (Int×Bool)) (bt:List Nat) (mt:Hp),q=L.length-t/\sl=[(3,.pointer (some ⟨g17,0,none⟩)),(15,vL),(16,.int .i64 L.length),(17,.int .i64 t)]/\h=h'/\ms'=[mt]/\t<=L.length/\Ci kN vB gS BD mt Tt bt/\J9 Tt/\(∀x∈DB T1,x∈DB Tt)/\(∀x∈DB Tt,x ∉ DB T1->(Rch J i x/\∀k∈J x,k∈DB Tt)/\0<=x/\x<n)/\∀j (hj:j<L.length),j<t->L[j]∈DB Tt)
    (L.length-0) _ ⟨0,T1,FB,mS1,rfl,rfl,rfl,rfl,by omega,hO1,hA1,fun x hx=>hx,fun x h1 h2=>absurd h1 h2,fun j hj h=>by omega⟩ Qs ?_
   rintro q sl h' ms' ⟨t,Tt,bt,mt,rfl,rfl,rfl,rfl,htl,hOt,hAt,hsub,hnew,hdone⟩;refine As (Qm rfl (An (Ac ?_)));refine Au rfl (fun hlt=>?_) (fun hlt=>?_)
   ·have htl:t<L.length:=by omega
    obtain⟨k,hk⟩:∃k,L[t]=k:=⟨_,rfl⟩
    have hkm:k∈L:=by rw[<-hk];exact getElem_mem htl
    obtain⟨hk0,hkn⟩:=hLn k hkm;obtain⟨kn,rfl⟩:=Int.eq_ofNat_of_zero_le hk0;have ck:∀ms,Cell h ms ((AG vL).add (t*1)) (.int .i64 (kn:Int)):=fun ms=>by rw[<-hk];exact(hRL.any (ms:=ms)).cell0 htl rfl
    refine Ah (Ab (Ac (Ae (As (Qx (BS (t) hRL.rd.any rfl AY Be rfl rfl) rfl (Ql rfl U3 (ck _) (Qm rfl (Gh (Ql rfl XZ (hf1 _) (Qm rfl ?_))))))))));refine DC (pre:=[mt]) rfl rfl call142 rfl (ih kn Tt bt mt (by omega) hOt hAt (by have:=U7 (n:=n) hsub;omega)) rfl rfl rfl rfl (fun v' h' pre' l' hF=>?_);obtain⟨rfl,m2,T2,b2,rfl,hO2,hA2,R2⟩:=hF;simp only[cons_append,nil_append,append_nil];have hrk:Rch J i (kn:Int):=.step (.refl _) (by rw[hL];exact hkm);refine Aj (Ai (Ab (Ad (Qx (oA rfl) rfl (Qm rfl (Aj ?_))))))
    exact Ak (L.length-(t+1)) _ (by omega) ⟨t+1,T2,b2,m2,rfl,rfl,rfl,rfl,by omega,hO2,hA2,fun x hx=>R2.sub x (hsub x hx),fun x h1 h2=>by
     by_cases hx:x∈DB Tt
     ·obtain⟨⟨q1,q2⟩,q3⟩:=hnew x hx h2;exact⟨⟨q1,fun k hk=>R2.sub k (q2 k hk)⟩,q3⟩
     ·obtain⟨⟨q1,q2⟩,q3⟩:=R2.new x h1 hx;exact⟨⟨hrk.trans q1,q2⟩,q3⟩,fun j hj hjt=>by
     rcases (by omega:j<t\/j=t) with h1|rfl
     ·exact R2.sub _ (hdone j hj h1)
     ·rw[hk];exact R2.me⟩ Qs
   ·obtain rfl:t=L.length:=by omega
    have hV:Abf J n T Tt i:=by
     have B7:∀k∈J (i:Int),k∈DB Tt:=fun k hk=>by rw[hL]at hk;obtain⟨j,hj,rfl⟩:=getElem_of_mem hk;exact hdone j hj hj
     refine⟨fun x hx=>hsub x ((hk1 x).2 (.inr hx)),hsub _ ((hk1 _).2 (.inl rfl)),fun x h1 h2=>?_⟩;by_cases hx:x=(i:Int)
     ·subst hx;exact⟨⟨.refl _,B7⟩,by omega,by omega⟩
     ·exact hnew x h1 fun q=>by
       rcases (hk1 x).1 q with q|q
       ·exact hx q
       ·exact h2 q
    refine Av (Aa (Aa (Af ?_)));exact BT rfl (⟨rfl,mt,Tt,bt,rfl,hOt,hAt,hV⟩)
  ·have him:(i:Int)∈DB T:=Classical.byContradiction fun q=>by rw[decide_eq_false q]at hn;cases hn
   refine Ah ?_;exact BT rfl (⟨rfl,mS,T,bs,rfl,hO,hA,fun x hx=>hx,him,fun x h1 h2=>absurd h1 h2⟩)
end Go.Proofs.Q

namespace Go.Proofs.Q
open Go.Proofs.Tryz
open Go.Eng Go.RowKit
theorem HZ(w:World):(zeroValue 3).run Tryz.prog w=.ok (kN 0) w:=by rfl
structure YM(U:List Cl)(x:Cl):Prop where
 n:x.sd.length<=64
 p:0<x.sd.length
 m:∀i,i<x.sd.length->(Gn U (Bl x i).1).sd.length<=64
 s:∀s∈x.sd,BD s.1/\(s.2=1\/s.2=-1)
 t:∀i,i<x.sd.length->∀r∈(Gn U (Bl x i).1).sd,BD r.1/\(r.2=1\/r.2=-1)
theorem Yp{ν:Type}(T:List (Int×ν))(a:Int)(x:ν):(CQ T a x).length<=T.length+1:=by
 unfold CQ;split
 ·rw[length_map];omega
 ·simp
theorem RO:∀E:F4,(FQ E).length<=E.length:=C6 (by simp[FQ]) fun E e ih=>by rw[Gk,length_append,length_singleton];have:=Yp (FQ E) e.2.1 ((Bf (FQ E) e.2.1).getD []++[e.1]);omega
theorem NB{U:List Cl}{x:Cl}{m:Nat}{e:Int×Int×Int}(h:e∈JK U x m):∃i,i<m/\∃r∈(Gn U (Bl x i).1).sd,e=((i:Int),r.1,(Bl x i).2*r.2):=by unfold JK at h;obtain⟨i,hi,h⟩:=List.mem_flatMap.1 h;obtain⟨r,hr,rfl⟩:=List.mem_map.1 h;exact⟨i,List.mem_range.1 hi,r,hr,rfl⟩
theorem Zx{U:List Cl}{x:Cl}(K:YM U x){m:Nat}(hm:m<=x.sd.length){e:Int×Int×Int}(h:e∈JK U x m):e.2.2=1\/e.2.2=-1:=by
 obtain⟨i,hi,r,hr,rfl⟩:=NB h;have hi':i<x.sd.length:=by omega
 have h1:=(K.t i hi' r hr).2;have h2:=(K.s (Bl x i) (by rw[Bh hi'];exact getElem_mem hi')).2;show(Bl x i).2*r.2=1\/(Bl x i).2*r.2=-1;rcases h1 with h1|h1<;>rcases h2 with h2|h2<;>rw[h1,h2]<;>decide
theorem S5(U:List Ce)(x:Ce)(g:Nat)(hp:Hp)(hT:RdT hp g U)(hX:RdL cD 2 hp [] x.v x.c.sd)(hK:YM (U.map Ce.c) x.c):FnT Tryz.prog 77 #[.pointer (some ⟨g,0,none⟩),.agg (cC x).toArray] hp [] (fun r _ _=>r=.int .i64 (WO (JK (U.map Ce.c) x.c x.c.sd.length) x.c.sd.length)):=by
 have o2:=hX.rd.one;show FnT _ _ #[.pointer (some ⟨g,0,none⟩),.agg #[.int .i64 x.c.id,.int .i64 x.c.dim,x.v]] _ _ _;refine Ao func77 ntmps77 rfl rfl (fun w0 hw0=>?_);simp only[AU];refine As (AS [_,_,_] rfl rfl (by rfl) rfl rfl rfl (fun g3=>Qm rfl (An (Aw fun h1 l1 hS=>?_))));obtain⟨gm,mMt,bst,vids,hSg,hMt,lmt,hVt,hsU⟩:=hT.up l1;have hX:=hX.up l1;have hA:=Seg.all hS;have a2:∀ms,Cell h1 ms (⟨g3,2,none⟩:Addr) x.v:=fun ms=>hA 2 _ rfl ms;have eT:∀ms,Cell h1 ms (⟨g,0,none⟩:Addr) (.map (some gm)):=fun ms=>Seg.all hSg 0 _ rfl ms;have hn64:=hK.n;refine As (CO (K:=kN) (V:=kN) (Ok:=BD) rfl rfl rfl rfl (fun gA mA hA0=>CO (K:=kN) (V:=LZ) (Ok:=BD) rfl rfl rfl rfl (fun gB mM hB0=>Qm rfl (Qm rfl (An (EV 1 rfl (BB ?_)))))));have hMS0:=OwnMS.start hB0;refine A3 (fun sl h' ms'=>∃(mB mA mM:Hp) (bs:List Nat),sl=[(3,.pointer (some ⟨g3,0,none⟩)),(5,.map (some gA)),(6,.map (some gB))]/\h1.le h'/\ms'=[mB,mA,mM]/\Ci kN kN gA BD mA (CL (JK (U.map Ce.c) x.c x.c.sd.length)) bs/\OwnMS gB mM mB (FQ (JK (U.map Ce.c) x.c x.c.sd.length))) ?_ (fun s h ms hI=>?_)
 ·refine Ac (Ad (Qf Bu rfl (Ql rfl BL (a2 _) (Qx (Ar hX.rd.any rfl BL rfl) rfl (Qm rfl (An (Ae ?_)))))))
  refine Az (fun q sl h' ms'=>∃(i:Nat) (mB mA mM:Hp) (bs:List Nat),q=x.c.sd.length-i/\sl=[(0,.pointer (some ⟨g,0,none⟩)),(3,.pointer (some ⟨g3,0,none⟩)),(5,.map (some gA)),(6,.map (some gB)),(21,x.v),(22,.int .i64 x.c.sd.length),(23,.int .i64 i)]/\h1.le h'/\ms'=[mB,mA,mM]/\i<=x.c.sd.length/\Ci kN kN gA BD mA (CL (JK (U.map Ce.c) x.c i)) bs/\OwnMS gB mM mB (FQ (JK (U.map Ce.c) x.c i)))
   (x.c.sd.length-0) _ ⟨0,Hp.emp,mA,mM,[],rfl,rfl,CY,rfl,by omega,hA0,hMS0⟩ Qs ?_
  rintro q sl h2 ms' ⟨i,mB,mA,mM,bs,rfl,rfl,l2,rfl,hi,hOA,hMS⟩;have hX:=hX.up l2;refine As (Qm rfl (An (Ac ?_)));refine Au rfl (fun hlt=>?_) (fun hlt=>?_)
  ·have hil:i<x.c.sd.length:=by omega
   obtain⟨s,hs⟩:∃s,x.c.sd[i]=s:=⟨_,rfl⟩
   have hsm:s∈x.c.sd:=by rw[<-hs];exact getElem_mem hil
   have hsA:Bl x.c i=s:=by rw[Bh hil,hs]
   have hsI:=hK.s s hsm;obtain⟨y,hy⟩:∃y,(Bf (Fo U) s.1).getD default=y:=⟨_,rfl⟩
   have hyc:Gn (U.map Ce.c) s.1=y.c:=by rw[<-Ht,hy]
   have hyR:=MZ hsU s.1;rw[hy]at hyR;have hyR:=hyR.up l2;have oyv:=hyR.rd.one;have y64:=hK.m i hil;have yt:=hK.t i hil;rw[hsA,hyc]at y64 yt;have hE:=Nj (U.map Ce.c) x.c hK.m i hi;have hEs:∀e∈JK (U.map Ce.c) x.c i,e.2.2=1\/e.2.2=-1:=fun e he=>Zx hK hi he
   have hsucc:JK (U.map Ce.c) x.c (i+1)=JK (U.map Ce.c) x.c i++y.c.sd.map fun r=>((i:Int),r.1,s.2*r.2):=by rw[OV];unfold U6;rw[hsA,hyc]
   obtain⟨E,hEe⟩:∃E,JK (U.map Ce.c) x.c i=E:=⟨_,rfl⟩
   rw[hEe]at hOA hMS hE hEs hsucc;have hsx:∀ms,Seg h2 ms ((AG x.v).add (i*2)) (cD s):=fun ms=>by rw[<-hs];exact(hX.any (ms:=ms)).seg hil
   refine Ah (Ab ?_);refine A3 (fun sl h' ms'=>∃(mB mA mM:Hp) (bs:List Nat),sl=[(0,.pointer (some ⟨g,0,none⟩)),(3,.pointer (some ⟨g3,0,none⟩)),(5,.map (some gA)),(6,.map (some gB)),(21,x.v),(22,.int .i64 x.c.sd.length),(23,.int .i64 i)]/\h2.le h'/\ms'=[mB,mA,mM]/\Ci kN kN gA BD mA (CL (JK (U.map Ce.c) x.c (i+1))) bs/\OwnMS gB mM mB (FQ (JK (U.map Ce.c) x.c (i+1)))) ?_ (fun s h ms hI=>?_)
   ·refine Ae (As (Qm rfl (Qx (BS (i) hX.rd.any rfl BL AH rfl rfl) rfl (Qx (oG rfl DJ AH (hsx _)) rfl (CC [.int .i64 0,.int .i64 0] rfl AH rfl rfl (fun g8=>Qm rfl ?_))))));refine Sa 0 [_,_] AH rfl (by simp[Value.oneCell']) ?_;refine An (Aw fun h3 l3 hS8=>?_);have e80:∀ms,Cell h3 ms (⟨g8,0,none⟩:Addr) (.int .i64 s.1):=fun ms=>Seg.all hS8 0 _ rfl ms;have e81:∀ms,Cell h3 ms (⟨g8,1,none⟩:Addr) (.int .i64 s.2):=fun ms=>Seg.all hS8 1 _ rfl ms;have l13:=AJ l2 l3;have eT:∀ms,Cell h3 ms (⟨g,0,none⟩:Addr) (.map (some gm)):=fun ms=>(eT ms).le l13;have hyR:=hyR.up l3;refine Ac (Bc 10 CP (by kernel_rfl) rfl (Wm rfl (Wm rfl (Wf Ey rfl (Wl rfl Gb (eT _) (Wf B4 rfl (Wl rfl U3 (e80 _) (AP (Cb (V:=vC) (z:=(default:Ce)) s.1 hy Bi hMt (AJ lmt l13) rfl Gb JS rfl rfl hsI.1) rfl rfl (AP (Em rfl Fb rfl BL rfl rfl rfl) rfl rfl (AP (Ar hyR.rd.any rfl BL rfl) rfl rfl (Wm rfl (AZ (An (Ae ?_))))))))))))))
    refine Az (fun q sl h' ms'=>∃(k:Nat) (mB mA mM:Hp) (bs:List Nat),q=y.c.sd.length-k/\sl=[(0,.pointer (some ⟨g,0,none⟩)),(3,.pointer (some ⟨g3,0,none⟩)),(5,.map (some gA)),(6,.map (some gB)),(7,.int .i64 i),(8,.pointer (some ⟨g8,0,none⟩)),(21,x.v),(22,.int .i64 x.c.sd.length),(23,.int .i64 i),(35,y.v),(36,.int .i64 y.c.sd.length),(37,.int .i64 k)]/\h3.le h'/\ms'=[mB,mA,mM]/\k<=y.c.sd.length/\Ci kN kN gA BD mA (CL (E++(y.c.sd.take k).map fun r=>((i:Int),r.1,s.2*r.2))) bs/\OwnMS gB mM mB (FQ (E++(y.c.sd.take k).map fun r=>((i:Int),r.1,s.2*r.2))))
     (y.c.sd.length-0) _ ⟨0,mB,mA,mM,bs,rfl,rfl,CY,rfl,by omega,by simpa using hOA,by simpa using hMS⟩ Qs ?_
    rintro q sl h4 ms' ⟨k,mB,mA,mM,bs,rfl,rfl,l4,rfl,hk,hOA,hMS⟩;have hyR:=hyR.up l4;have e81:∀ms,Cell h4 ms (⟨g8,1,none⟩:Addr) (.int .i64 s.2):=fun ms=>(e81 ms).le l4;refine As (Qm rfl (An (Ac ?_)));refine Au rfl (fun hlk=>?_) (fun hlk=>?_)
    ·have hkl:k<y.c.sd.length:=by omega
     obtain⟨r,hr⟩:∃r,y.c.sd[k]=r:=⟨_,rfl⟩
     have hrm:r∈y.c.sd:=by rw[<-hr];exact getElem_mem hkl
     have hrI:=yt r hrm;have hsr:∀ms,Seg h4 ms ((AG y.v).add (k*2)) (cD r):=fun ms=>by rw[<-hr];exact(hyR.any (ms:=ms)).seg hkl
     have hF':(E++(y.c.sd.take (k+1)).map fun r=>((i:Int),r.1,s.2*r.2))=(E++(y.c.sd.take k).map fun r=>((i:Int),r.1,s.2*r.2))++[((i:Int),r.1,s.2*r.2)]:=by rw[take_succ_eq_append_getElem hkl,map_append,hr,append_assoc];rfl
     have hFl:(E++(y.c.sd.take k).map fun r=>((i:Int),r.1,s.2*r.2)).length<=4200:=by rw[length_append,length_map,length_take];omega
     have hmu:s.2*r.2=1\/s.2*r.2=-1:=by rcases hsI.2 with e|e<;>rcases hrI.2 with e'|e'<;>rw[e,e']<;>decide
     have hFs:∀e∈E++(y.c.sd.take k).map (fun r=>((i:Int),r.1,s.2*r.2)),e.2.2=1\/e.2.2=-1:=fun e he=>by
      rcases List.mem_append.1 he with he|he
      ·exact hEs e he
      ·obtain⟨r',hr',rfl⟩:=List.mem_map.1 he;have hrI':=yt r' (List.mem_of_mem_take hr');show s.2*r'.2=1\/s.2*r'.2=-1;rcases hsI.2 with e|e<;>rcases hrI'.2 with e'|e'<;>rw[e,e']<;>decide
     obtain⟨F,hF⟩:∃F,E++(y.c.sd.take k).map (fun r=>((i:Int),r.1,s.2*r.2))=F:=⟨_,rfl⟩
     rw[hF]at hOA hMS hFl hFs hF';obtain⟨v0,hv0⟩:∃v0,(Bf (CL F) r.1).getD 0=v0:=⟨_,rfl⟩
     have hb0:=ZF F r.1 hFs;rw[<-Jy,hv0]at hb0;have hs1:=GD F ((i:Int),r.1,s.2*r.2);have hm1:=Gk F ((i:Int),r.1,s.2*r.2);simp only at hs1 hm1;rw[hv0]at hs1;refine Ah (Ab ?_);refine A3 (fun sl h' ms'=>∃(mB mA mM:Hp) (bs:List Nat),sl=[(0,.pointer (some ⟨g,0,none⟩)),(3,.pointer (some ⟨g3,0,none⟩)),(5,.map (some gA)),(6,.map (some gB)),(7,.int .i64 i),(8,.pointer (some ⟨g8,0,none⟩)),(21,x.v),(22,.int .i64 x.c.sd.length),(23,.int .i64 i),(35,y.v),(36,.int .i64 y.c.sd.length),(37,.int .i64 k)]/\h4.le h'/\ms'=[mB,mA,mM]/\Ci kN kN gA BD mA (CL (F++[((i:Int),r.1,s.2*r.2)])) bs/\OwnMS gB mM mB (FQ (F++[((i:Int),r.1,s.2*r.2)]))) ?_ (fun s h ms hI=>?_)
     ·refine Ae (As (Qx (BS (k) hyR.rd.any rfl BL AH rfl rfl) rfl (Qx (oG rfl DJ AH (hsr _)) rfl (CC [.int .i64 0,.int .i64 0] rfl AH rfl rfl (fun g10=>?_)))));refine Sa 0 [_,_] AH rfl (by simp[Value.oneCell']) ?_;refine An (Aw fun h5 l5 hS10=>?_);have e81:∀ms,Cell h5 ms (⟨g8,1,none⟩:Addr) (.int .i64 s.2):=fun ms=>(e81 ms).le l5;have ea0:∀ms,Cell h5 ms (⟨g10,0,none⟩:Addr) (.int .i64 r.1):=fun ms=>Seg.all hS10 0 _ rfl ms;have ea1:∀ms,Cell h5 ms (⟨g10,1,none⟩:Addr) (.int .i64 r.2):=fun ms=>Seg.all hS10 1 _ rfl ms;refine As (Qm rfl (Qf B4 rfl (Ql rfl U3 (ea0 _) (Qx (DY (V:=kN) (z:=(0:Int)) r.1 hv0 Bi hOA (by simp) rfl LV HZ rfl rfl hrI.1) rfl (Qf Cp rfl (Ql rfl U3 (e81 _) (Qf Cp rfl (Ql rfl U3 (ea1 _) (Qx (oM rfl) rfl (Qx (oA rfl) rfl (BJ (V:=kN) (z:=undef) 1 r.1 (v0+s.2*r.2) Bi hOA rfl rfl LV rfl rfl rfl hrI.1 rfl rfl (fun mA' bs' hOA'=>?_))))))))))));rw[<-hs1]at hOA';refine An ?_;obtain⟨Tv,bv,v,m1,m2,hO,hv,rfl,hd,hO1,close⟩:=hMS.open r.1;refine HC hd ?_;obtain⟨L,hL⟩:∃L,(Bf (FQ F) r.1).getD []=L:=⟨_,rfl⟩
      have hLl:L.length<=4200:=by rw[<-hL,Ow,length_map];exact Nat.le_trans (List.length_filter_le _ _) hFl
      rw[hL]at hO1 hm1;have ov:=hO1.o1;refine BF (n:=11) (bs:=[true,true,true,true,true,true,false,true,false,false,false]) [true,true,true,true,true,true,false,true] CP (by kernel_rfl) (by kernel_rfl) rfl rfl (Qq rfl (QF B4 rfl (QL rfl U3 (ea0 _) (Qq rfl (QF B4 rfl (QL rfl U3 (ea0 _) (Qq rfl ?_)))))));unfold FN;simp only[cons_append,nil_append];refine Ba [6,8] (by kernel_rfl) rfl ?_;refine AD rfl ?_ ?_
      ·refine Qx (DY (V:=LZ) (z:=(Value.slice none 0 0)) r.1 hv Bi hO (by simp) rfl GA K3 rfl rfl hrI.1) rfl (Qw (Qo 8 rfl (Aq [_] rfl AY Be rfl (by rfl) rfl rfl (by omega) rfl rfl rfl (fun g59=>Qw (Qo 9 rfl (AM 1 hO1 (RdL.one AV (x:=(i:Int)) Mh rfl) rfl AY Be rfl (by omega) rfl rfl rfl B5 (by(try simp only[length_singleton]);omega) (by(try simp only[length_singleton]);omega) rfl rfl rfl (fun v9 m9 hO9=>?_)))))));have ov9:=hO9.o1;refine Qw (Qo 10 rfl (BJ (V:=LZ) (z:=undef) 4 r.1 v9 Bi hO rfl rfl GA rfl rfl rfl hrI.1 rfl rfl (fun mM' bs2 hM'=>Qw (Qe (AN (Eg fun hap=>(Ez ?_)))))));have hdj:=(List.pairwise_cons.1 hap).1 _ Mh;have hMS':=close v9 _ m9 mM' bs2 hdj hO9 hM';rw[<-hm1]at hMS';refine Ai ?_;exact AA _ ⟨_,mA',mM',bs',rfl,l5,rfl,hOA',hMS'⟩ Qs
      refine AD rfl ?_ ?_
      ·refine Aq [_] rfl AY Be rfl (by rfl) rfl rfl (by omega) rfl rfl rfl (fun g59=>Qw (Qo 6 rfl (Qx (DY (V:=LZ) (z:=(Value.slice none 0 0)) r.1 hv Bi hO (by simp) rfl GA K3 rfl rfl hrI.1) rfl (Qw (Qo 9 rfl (AM 1 hO1 (RdL.one AV (x:=(i:Int)) Mh rfl) rfl AY Be rfl (by omega) rfl rfl rfl B5 (by(try simp only[length_singleton]);omega) (by(try simp only[length_singleton]);omega) rfl rfl rfl (fun v9 m9 hO9=>?_)))))));have ov9:=hO9.o1;refine Qw (Qo 10 rfl (BJ (V:=LZ) (z:=undef) 4 r.1 v9 Bi hO rfl rfl GA rfl rfl rfl hrI.1 rfl rfl (fun mM' bs2 hM'=>Qw (Qe (AN (Eg fun hap=>(Ez ?_)))))));have hdj:=(List.pairwise_cons.1 hap).1 _ Mh;have hMS':=close v9 _ m9 mM' bs2 hdj hO9 hM';rw[<-hm1]at hMS';refine Ai ?_;exact AA _ ⟨_,mA',mM',bs',rfl,l5,rfl,hOA',hMS'⟩ Qs
      exact Bb
     ·obtain⟨mB,mA,mM,bs,rfl,k4,rfl,hOA,hMS⟩:=hI;rw[<-hF']at hOA hMS;refine Ad (Qx (oA rfl) rfl (Qm rfl (Aj ?_)));exact Ak (y.c.sd.length-(k+1)) _ (by omega) ⟨k+1,mB,mA,mM,bs,rfl,rfl,AJ l4 k4,rfl,by omega,hOA,hMS⟩ Qs
    ·obtain rfl:k=y.c.sd.length:=by omega
     rw[take_length,<-hsucc]at hOA hMS;refine Av (Aa (Aa (Af (Ai ?_))));exact AA _ ⟨mB,mA,mM,bs,rfl,AJ l3 l4,rfl,hOA,hMS⟩ Qs
   ·obtain⟨mB,mA,mM,bs,rfl,k2,rfl,hOA,hMS⟩:=hI;refine Ad (Qx (oA rfl) rfl (Qm rfl (Aj ?_)));exact Ak (x.c.sd.length-(i+1)) _ (by omega) ⟨i+1,mB,mA,mM,bs,rfl,rfl,AJ l2 k2,rfl,by omega,hOA,hMS⟩ Qs
  ·obtain rfl:i=x.c.sd.length:=by omega
   refine Av (Aa (Aa (Af ?_)));exact AA _ ⟨mB,mA,mM,bs,rfl,l2,rfl,hOA,hMS⟩ Qs
 ·obtain⟨mB,mA,mM,bs,rfl,l2,rfl,hOA,hMS⟩:=hI;have hEl:=Nj (U.map Ce.c) x.c hK.m x.c.sd.length (Nat.le_refl _)
  have hEi:∀e∈JK (U.map Ce.c) x.c x.c.sd.length,0<=e.1/\e.1<x.c.sd.length:=fun e he=>by obtain⟨i,hi,r,_,rfl⟩:=NB he;exact⟨by show 0<=(i:Int);omega,by show(i:Int)<_;omega⟩
  obtain⟨E,hE⟩:∃E,JK (U.map Ce.c) x.c x.c.sd.length=E:=⟨_,rfl⟩
  rw[hE]at hOA hMS hEl hEi ⊢;refine BE fun h2 k2 fB=>(BE fun h3 k3 fA=>(BE fun h4 k4 fM=>?_))
  have lB:=AJ fB (AJ k3 k4);have lA:=AJ fA k4;have lh4:=AJ l2 (AJ k2 (AJ k3 k4));refine A3 (fun sl h' ms'=>sl=[(3,.pointer (some ⟨g3,0,none⟩)),(6,.map (some gB))]/\h4=h'/\ms'=[]/\∀e∈E,D6 E e.2.1=0) ?_ (fun s h ms hI=>?_)
  ·refine Ac (Ad (Qm rfl (Hv hOA lA rfl LV rfl rfl rfl rfl (fun gi mi0 I0=>An (Ae ?_)))))
   refine Az (fun q sl h' ms'=>∃(vis:List Nat) (mi:Hp),q=(CL E).length-vis.length/\sl=[(3,.pointer (some ⟨g3,0,none⟩)),(6,.map (some gB)),(64,.pointer (some ⟨gi,0,none⟩))]/\h4=h'/\ms'=[mi]/\G8 gi gA mA mi bs vis/\∀j (hj:j<(CL E).length),j∈vis->(CL E)[j].2=0)
    ((CL E).length-0) _ ⟨[],mi0,rfl,rfl,rfl,rfl,I0,fun j hj h=>nomatch h⟩ Qs ?_
   rintro q sl h' ms' ⟨vis,mi,rfl,rfl,rfl,rfl,I,hz⟩;refine As ?_;refine Iv 0 hOA I lA rfl rfl rfl rfl rfl rfl (fun B7=>?_) (fun j hj mi' hjv I'=>?_)
   ·refine Qm rfl (An (Ac (AQ rfl (Av (Aa (Aa (Af ?_)))))))
    have hzero:∀e∈E,D6 E e.2.1=0:=fun e he=>by obtain⟨l,v,hl⟩:=Hk ((LC e.2.1 E).2 ⟨e,he,rfl⟩);rw[<-Jy,D7 (Sv E) hl];obtain⟨h1,h2⟩:=List.getElem?_eq_some_iff.1 hl;have:=hz l h1 (B7 l h1);rw[h2]at this;exact this
    refine Bp 0 rfl ?_;exact AA _ ⟨rfl,rfl,rfl,hzero⟩ Qs
   ·have hTj:(CL E)[j].2=D6 E (CL E)[j].1:=by have hg:(CL E)[j]?=some ((CL E)[j].1,(CL E)[j].2):=List.getElem?_eq_getElem hj;rw[<-Jy,D7 (Sv E) hg];rfl
    refine Qm rfl (An (Ac (Bn rfl (Ah (Ab (Ae (As (Qx (HH hOA I' lA (by simp) hj rfl rfl) rfl (Qm rfl (Qm rfl (Bv (Qm rfl (Qm rfl (An ?_))))))))))))));refine Au rfl (fun hne=>?_) (fun hne=>?_)
    ·have h24:WO E x.c.sd.length=24:=by unfold WO;rw[if_pos fun w=>?_];obtain⟨e,he,h1⟩:=(LC (CL E)[j].1 E).1 (List.mem_map.2 ⟨_,getElem_mem hj,rfl⟩);have:=w e he;rw[h1,<-hTj]at this;exact hne this
     refine As (Qm rfl (An (Am (Al (Ag (Al (Ag ?_)))))));exact Ap rfl rfl (by rw[h24])
    ·refine Ah (Ai ?_);refine Ak ((CL E).length-(vis.length+1)) _ ?_ ⟨vis++[j],mi',by simp,rfl,rfl,rfl,I',fun i hi' hv=>?_⟩ Qs
     ·have hlt:vis.length<(CL E).length:=by
       have h1:=Go.Kuhn.nodup_le (vis++[j]) (range (CL E).length) I'.nodup fun x hx=>by rw[List.mem_range,<-hOA.len];exact I'.lt x hx
       simp at h1;omega
      omega
     ·rcases List.mem_append.1 hv with hv|hv
      ·exact hz i hi' hv
      ·simp at hv;subst hv;exact Classical.not_not.1 hne
  ·obtain⟨rfl,rfl,rfl,hzero⟩:=hI;obtain⟨Tv,bv,hOv,hKv,hRv,hRa⟩:=hMS.look lB;obtain⟨M,hM⟩:∃M,FQ E=M:=⟨_,rfl⟩
   have hMn:=Z7 E;have hMk:=fun c=>Tw c E;have hMg:=fun c=>Ow c E;rw[hM]at hKv hRv hRa hMn hMk hMg;have hTl:Tv.length=M.length:=by have:=congrArg List.length hKv;simpa using this
   refine As (CO (K:=kN) (V:=LZ) (Ok:=BD) rfl rfl rfl rfl (fun gJ mJ hJ0=>CC [.map none] rfl Y8 rfl rfl (fun g13=>AK 0 0 rfl Y8 rfl rfl (by rfl) rfl rfl (by decide) rfl rfl (An (Aw fun h5 k5 hS13=>?_)))));have e13:∀ms,Cell h5 ms (⟨g13,0,none⟩:Addr) (.map (some gJ)):=fun ms=>Seg.all hS13 0 _ rfl ms;refine BB ?_;have hJS0:=OwnMS.start hJ0;have fM5:=AJ fM k5
   let pr:Nat->Int×Int:=fun j=>(((M.getD j (0,[])).2).getD 0 0,((M.getD j (0,[])).2).getD 1 0)
   refine A3 (fun sl h' ms'=>∃(vis:List Nat) (mJB mJ:Hp),sl=[(3,.pointer (some ⟨g3,0,none⟩)),(13,.pointer (some ⟨g13,0,none⟩))]/\h5=h'/\ms'=[mJB,mJ]/\OwnMS gJ mJ mJB (EO (vis.map pr))/\vis.length<=M.length/\(∀j,j∈vis->j<M.length)/\(∀j,j<M.length->j∈vis)/\∀j (hj:j<M.length),M[j].2.length=2) ?_ (fun s h ms hI=>?_)
   ·refine Ac (Ad (Qm rfl (Hv hOv fM5 rfl GA rfl rfl rfl rfl (fun gi mi0 I0=>An (Ae (EV 1 rfl ?_))))))
    refine Az (fun q sl h' ms'=>∃(vis:List Nat) (mi mJB mJ:Hp),q=M.length-vis.length/\sl=[(3,.pointer (some ⟨g3,0,none⟩)),(13,.pointer (some ⟨g13,0,none⟩)),(73,.pointer (some ⟨gi,0,none⟩))]/\h5=h'/\ms'=[mJB,mi,mJ]/\G8 gi gB mM mi bv vis/\OwnMS gJ mJ mJB (EO (vis.map pr))/\∀j (hj:j<M.length),j∈vis->M[j].2.length=2)
     (M.length-0) _ ⟨[],mi0,Hp.emp,mJ,rfl,rfl,rfl,rfl,I0,hJS0,fun j hj h=>nomatch h⟩ Qs ?_
    rintro q sl h' ms' ⟨vis,mi,mJB,mJ,rfl,rfl,rfl,rfl,I,hJS,hz⟩
    have hvl:∀{w:List Nat} {m':Hp},G8 gi gB mM m' bv w->w.length<=M.length/\∀j,j∈w->j<M.length:=fun {w m'} I=>by
     have hlt:∀x∈w,x<M.length:=fun x hx=>by rw[<-hTl,<-hOv.len];exact I.lt x hx
     have h1:=Go.Kuhn.nodup_le w (range M.length) I.nodup fun x hx=>List.mem_range.2 (hlt x hx);rw[length_range]at h1;exact⟨h1,hlt⟩
    refine As ?_;refine Iv 1 hOv I fM5 rfl rfl rfl rfl rfl rfl (fun B7=>?_) (fun j hj mi' hjv I'=>?_)
    ·refine Qm rfl (An (Ac (AQ rfl (Av (Aa (Aa (Af (Bp 1 rfl ?_))))))));exact AA _ ⟨vis,mJB,mJ,rfl,rfl,rfl,hJS,(hvl I).1,(hvl I).2,fun j hj=>B7 j (by omega),fun j hj=>hz j hj (B7 j (by omega))⟩ Qs
    ·have hjM:j<M.length:=by omega
     have hRj:=(hRv j hj hjM).2.up k5
     have hcj:(Bf M M[j].1).getD []=M[j].2:=by have hg:M[j]?=some (M[j].1,M[j].2):=List.getElem?_eq_getElem hjM;rw[D7 hMn hg];rfl
     have hcE:=hMg M[j].1;rw[hcj]at hcE;obtain⟨v,hv⟩:∃v,Tv[j].2=v:=⟨_,rfl⟩
     obtain⟨L,hL⟩:∃L,M[j].2=L:=⟨_,rfl⟩
     rw[hv,hL]at hRj;have ov:=hRj.rd.one;have hLl:L.length<=4200:=by rw[<-hL,hcE,length_map];exact Nat.le_trans (List.length_filter_le _ _) (by omega)
     refine Qm rfl (An (Ac (Bn rfl (Ah (Ab (Ae (As (Qx (HH hOv I' fM5 (by simp) hj rfl rfl) rfl ?_))))))));rw[hv];refine Qm rfl (Qm rfl (An (Ac (As (Qm rfl (Qx (Ar hRj.rd.any rfl AY rfl) rfl (Qm rfl (An ?_))))))));refine Au rfl (fun hne=>?_) (fun hne=>?_)
     ·have h25:WO E x.c.sd.length=25:=by unfold WO;rw[if_neg (fun w=>w hzero),if_pos fun w=>?_];obtain⟨e,he,h1⟩:=(hMk M[j].1).1 (List.mem_map.2 ⟨_,getElem_mem hjM,rfl⟩);have:=w e he;rw[h1,Ip,<-length_map (f:=fun e:Int×Int×Int=>e.1),<-hcE,hL]at this;exact hne (by omega)
      refine As (Qm rfl (An (Am (Ag (Al (Ag (Al (Ag ?_))))))));exact Ap rfl rfl (by rw[h25])
     ·have hL2:L.length=2:=by omega
      obtain⟨a,b,rfl⟩:∃a b,L=[a,b]:=by
       match L,hL2 with
       | [a,b],_=>exact⟨a,b,rfl⟩
      have hin:∀k∈[a,b],0<=k/\k<x.c.sd.length:=fun k hk=>by rw[<-hL,hcE]at hk;obtain⟨e,he,rfl⟩:=List.mem_map.1 hk;exact hEi e (List.mem_filter.1 he).1
      have ha:=hin a Mh;have hb:=hin b (mem_cons_of_mem _ Mh);have haI:BD a:=by unfold BD;omega
      have hbI:BD b:=by unfold BD;omega
      have hprj:pr j=(a,b):=by
       simp only[pr];have:M.getD j (0,[])=M[j]:=by simp[List.getD,hjM]
       rw[this,hL];rfl
      have hMl:M.length<=4200:=by rw[<-hM];have:=RO E;omega
      have hPl:(vis.map pr).length<=4200:=by rw[length_map];have:=(hvl I).1;omega
      have hjl:=ME (vis.map pr);have hsn:EO ((vis++[j]).map pr)=E1 (E1 (EO (vis.map pr)) a b) b a:=by rw[map_append,List.map_singleton,Io,hprj]
      have hj1:=Jv (EO (vis.map pr)) a b _ hjl;obtain⟨T0,hT0⟩:∃T0,EO (vis.map pr)=T0:=⟨_,rfl⟩
      rw[hT0]at hJS hjl hsn hj1;have ca:∀ms,Cell h5 ms ((AG v).add (0*1)) (.int .i64 a):=fun ms=>(hRj.any (ms:=ms)).cell0 (j:=0) (by simp) rfl;have cb:∀ms,Cell h5 ms ((AG v).add (1*1)) (.int .i64 b):=fun ms=>(hRj.any (ms:=ms)).cell0 (j:=1) (by simp) rfl;refine Ah (Ab ?_);obtain⟨Tv1,bv1,u,m1,m2,hO,hu,rfl,hd,hO1,close⟩:=hJS.open a;refine HC hd ?_;obtain⟨L0,hL0⟩:∃L0,(Bf T0 a).getD []=L0:=⟨_,rfl⟩
      have hL0l:L0.length<=10000:=by rw[<-hL0];have:=hjl a;omega
      rw[hL0]at hO1;have hjeq:E1 T0 a b=CQ T0 a (L0++[b]):=by unfold E1;rw[hL0]
      have ou:=hO1.o1;refine A3 (fun sl h' ms'=>∃(mJB mJ:Hp),sl=[(3,.pointer (some ⟨g3,0,none⟩)),(13,.pointer (some ⟨g13,0,none⟩)),(15,v),(73,.pointer (some ⟨gi,0,none⟩))]/\h5=h'/\ms'=[mJB,mi',mJ]/\OwnMS gJ mJ mJB (E1 T0 a b)) ?_ (fun s h ms hI=>?_)
      ·refine BF (n:=15) (bs:=[true,true,true,true,true,true,true,true,false,true,true,true,false,false,false]) [true,true,true,true,true,true,true,true,false,true,true,true] CP (by kernel_rfl) (by kernel_rfl) rfl rfl (QL rfl GA (e13 _) (Qq rfl (Qp rfl (AC 0 hRj.rd.any rfl AY Be rfl rfl rfl (by omega)) (QL rfl U3 (ca _) (QL rfl GA (e13 _) (Qq rfl (Qp rfl (AC 0 hRj.rd.any rfl AY Be rfl rfl rfl (by omega)) (QL rfl U3 (ca _) (Qq rfl (Qp rfl (AC 1 hRj.rd.any rfl AY Be rfl rfl rfl (by omega)) (QL rfl U3 (cb _) ?_)))))))))));unfold FN;simp only[cons_append,nil_append];refine Ba [8,12] (by kernel_rfl) rfl ?_;refine AD rfl ?_ ?_
       ·refine Qx (DY (V:=LZ) (z:=(Value.slice none 0 0)) a hu Bi hO (by simp) rfl GA K3 rfl rfl haI) rfl (Qw (Qo 12 rfl (Aq [_] rfl AY Be rfl (by rfl) rfl rfl (by omega) rfl rfl rfl (fun g93=>Qw (Qo 13 rfl (AM 1 hO1 (RdL.one AV (x:=b) Mh rfl) rfl AY Be rfl (by omega) rfl rfl rfl B5 (by(try simp only[length_singleton]);omega) (by(try simp only[length_singleton]);omega) rfl rfl rfl (fun v9 m9 hO9=>?_)))))));have ov9:=hO9.o1;refine Qw (Qo 14 rfl (BJ (V:=LZ) (z:=undef) 4 a v9 Bi hO rfl rfl GA rfl rfl rfl haI rfl rfl (fun mM' bs2 hM'=>Qw (Qe (AN (Eg fun hap=>(Ez ?_)))))));have hdj:=(List.pairwise_cons.1 hap).1 _ Mh;have hMS':=close v9 _ m9 mM' bs2 hdj hO9 hM';rw[<-hjeq]at hMS';exact AA _ ⟨_,mM',rfl,rfl,rfl,hMS'⟩ Qs
       refine AD rfl ?_ ?_
       ·refine Aq [_] rfl AY Be rfl (by rfl) rfl rfl (by omega) rfl rfl rfl (fun g93=>Qw (Qo 8 rfl (Qx (DY (V:=LZ) (z:=(Value.slice none 0 0)) a hu Bi hO (by simp) rfl GA K3 rfl rfl haI) rfl (Qw (Qo 13 rfl (AM 1 hO1 (RdL.one AV (x:=b) Mh rfl) rfl AY Be rfl (by omega) rfl rfl rfl B5 (by(try simp only[length_singleton]);omega) (by(try simp only[length_singleton]);omega) rfl rfl rfl (fun v9 m9 hO9=>?_)))))));have ov9:=hO9.o1;refine Qw (Qo 14 rfl (BJ (V:=LZ) (z:=undef) 4 a v9 Bi hO rfl rfl GA rfl rfl rfl haI rfl rfl (fun mM' bs2 hM'=>Qw (Qe (AN (Eg fun hap=>(Ez ?_)))))));have hdj:=(List.pairwise_cons.1 hap).1 _ Mh;have hMS':=close v9 _ m9 mM' bs2 hdj hO9 hM';rw[<-hjeq]at hMS';exact AA _ ⟨_,mM',rfl,rfl,rfl,hMS'⟩ Qs
       exact Bb
      ·obtain⟨mJB,mJ,rfl,rfl,rfl,hJS⟩:=hI;obtain⟨T1,hT1⟩:∃T1,E1 T0 a b=T1:=⟨_,rfl⟩
       rw[hT1]at hJS hj1 hsn;obtain⟨Tv2,bv2,u2,m1,m2,hO,hu,rfl,hd,hO1,close⟩:=hJS.open b;refine HC hd ?_;obtain⟨L1,hL1⟩:∃L1,(Bf T1 b).getD []=L1:=⟨_,rfl⟩
       have hL1l:L1.length<=10000:=by rw[<-hL1];have:=hj1 b;omega
       rw[hL1]at hO1;have hjeq2:E1 T1 b a=CQ T1 b (L1++[a]):=by unfold E1;rw[hL1]
       have ou2:=hO1.o1;refine BF (n:=15) (bs:=[true,true,true,true,true,true,true,true,false,true,true,true,false,false,false]) [true,true,true,true,true,true,true,true,false,true,true,true] CP (by kernel_rfl) (by kernel_rfl) rfl rfl (QL rfl GA (e13 _) (Qq rfl (Qp rfl (AC 1 hRj.rd.any rfl AY Be rfl rfl rfl (by omega)) (QL rfl U3 (cb _) (QL rfl GA (e13 _) (Qq rfl (Qp rfl (AC 1 hRj.rd.any rfl AY Be rfl rfl rfl (by omega)) (QL rfl U3 (cb _) (Qq rfl (Qp rfl (AC 0 hRj.rd.any rfl AY Be rfl rfl rfl (by omega)) (QL rfl U3 (ca _) ?_)))))))))));unfold FN;simp only[cons_append,nil_append];refine Ba [8,12] (by kernel_rfl) rfl ?_;refine AD rfl ?_ ?_
       ·refine Qx (DY (V:=LZ) (z:=(Value.slice none 0 0)) b hu Bi hO (by simp) rfl GA K3 rfl rfl hbI) rfl (Qw (Qo 12 rfl (Aq [_] rfl AY Be rfl (by rfl) rfl rfl (by omega) rfl rfl rfl (fun g107=>Qw (Qo 13 rfl (AM 1 hO1 (RdL.one AV (x:=a) Mh rfl) rfl AY Be rfl (by omega) rfl rfl rfl B5 (by(try simp only[length_singleton]);omega) (by(try simp only[length_singleton]);omega) rfl rfl rfl (fun v9 m9 hO9=>?_)))))));have ov9:=hO9.o1;refine Qw (Qo 14 rfl (BJ (V:=LZ) (z:=undef) 4 b v9 Bi hO rfl rfl GA rfl rfl rfl hbI rfl rfl (fun mM' bs2 hM'=>Qw (Qe (AN (Eg fun hap=>(Ez ?_)))))));have hdj:=(List.pairwise_cons.1 hap).1 _ Mh;have hMS':=close v9 _ m9 mM' bs2 hdj hO9 hM';rw[<-hjeq2,<-hsn]at hMS';refine Ai ?_;have hv':=(hvl I').1;rw[length_append,length_singleton]at hv';exact Ak (M.length-(vis.length+1)) _ (by omega) ⟨vis++[j],mi',_,mM',by simp,rfl,rfl,rfl,I',hMS',fun i hi' hv=>by rcases List.mem_append.1 hv with hv|hv;exact hz i hi' hv;simp at hv;subst hv;rw[hL];rfl⟩ Qs
       refine AD rfl ?_ ?_
       ·refine Aq [_] rfl AY Be rfl (by rfl) rfl rfl (by omega) rfl rfl rfl (fun g107=>Qw (Qo 8 rfl (Qx (DY (V:=LZ) (z:=(Value.slice none 0 0)) b hu Bi hO (by simp) rfl GA K3 rfl rfl hbI) rfl (Qw (Qo 13 rfl (AM 1 hO1 (RdL.one AV (x:=a) Mh rfl) rfl AY Be rfl (by omega) rfl rfl rfl B5 (by(try simp only[length_singleton]);omega) (by(try simp only[length_singleton]);omega) rfl rfl rfl (fun v9 m9 hO9=>?_)))))));have ov9:=hO9.o1;refine Qw (Qo 14 rfl (BJ (V:=LZ) (z:=undef) 4 b v9 Bi hO rfl rfl GA rfl rfl rfl hbI rfl rfl (fun mM' bs2 hM'=>Qw (Qe (AN (Eg fun hap=>(Ez ?_)))))));have hdj:=(List.pairwise_cons.1 hap).1 _ Mh;have hMS':=close v9 _ m9 mM' bs2 hdj hO9 hM';rw[<-hjeq2,<-hsn]at hMS';refine Ai ?_;have hv':=(hvl I').1;rw[length_append,length_singleton]at hv';exact Ak (M.length-(vis.length+1)) _ (by omega) ⟨vis++[j],mi',_,mM',by simp,rfl,rfl,rfl,I',hMS',fun i hi' hv=>by rcases List.mem_append.1 hv with hv|hv;exact hz i hi' hv;simp at hv;subst hv;rw[hL];rfl⟩ Qs
       exact Bb
   ·obtain⟨vis,mJB,mJ,rfl,rfl,rfl,hJS,hv1,hv2,hv3,h2⟩:=hI;refine BE fun h6 k6 fJB=>(BE fun h7 k7 fJ=>?_)
    have fJB7:=AJ fJB k7;have l57:=AJ k6 k7;refine As (CO (K:=kN) (V:=vB) (Ok:=BD) rfl rfl rfl rfl (fun gS mS hS0=>CC [.map none] rfl YK rfl rfl (fun g16=>AK 0 0 rfl YK rfl rfl (by rfl) rfl rfl (by decide) rfl rfl (An (Aw fun h8 k8 hS16=>?_)))));have e16:∀ms,Cell h8 ms (⟨g16,0,none⟩:Addr) (.map (some gS)):=fun ms=>Seg.all hS16 0 _ rfl ms;refine As (CC [.nilFunc] rfl Sz rfl rfl (fun g17=>Bv (Qx (Bk rfl rfl rfl) rfl (AK 0 0 rfl Sz rfl rfl (by rfl) rfl rfl (by decide) rfl rfl (An (Aw fun h9 k9 hS17=>?_))))));have e17:∀ms,Cell h9 ms (⟨g17,0,none⟩:Addr) (.func (.func 142) #[] #[.pointer (some ⟨g16,0,none⟩),.pointer (some ⟨g13,0,none⟩),.pointer (some ⟨g17,0,none⟩)]):=fun ms=>Seg.all hS17 0 _ rfl ms;obtain⟨P,hP⟩:∃P,vis.map pr=P:=⟨_,rfl⟩
    rw[hP]at hJS
    have hpm:∀p,p∈P<->∃j,∃hj:j<M.length,M[j].2=[p.1,p.2]:=fun p=>by
     rw[<-hP,List.mem_map]
     have hpj:∀j (hj:j<M.length),M[j].2=[(pr j).1,(pr j).2]:=fun j hj=>by
      have e:M.getD j (0,[])=M[j]:=by simp[List.getD,hj]
      simp only[pr];rw[e];have hl:=h2 j hj
      match M[j].2,hl with
      | [a,b],_=>rfl
     constructor
     ·rintro⟨j,hj,rfl⟩;exact⟨j,hv2 j hj,hpj j _⟩
     ·rintro⟨j,hj,e⟩;refine⟨j,hv3 j hj,?_⟩;have:=hpj j hj;rw[e]at this;simp only[List.cons.injEq,and_true]at this;exact Prod.ext this.1.symm this.2.symm
    have hMj:∀j (hj:j<M.length),(E.filter fun e=>decide (e.2.1=M[j].1)).map (fun e=>e.1)=M[j].2:=fun j hj=>by have hg:M[j]?=some (M[j].1,M[j].2):=List.getElem?_eq_getElem hj;rw[<-hMg,D7 hMn hg];rfl
    have hcnt:∀e∈E,Fs E e.2.1=2:=fun e he=>by obtain⟨l,v,hl⟩:=Hk ((hMk e.2.1).2 ⟨e,he,rfl⟩);obtain⟨h1,e1⟩:=List.getElem?_eq_some_iff.1 hl;have h3:=hMj l h1;have h4:=h2 l h1;rw[<-h3,e1,length_map]at h4;rw[Ip];have h4:(E.filter fun e'=>decide (e'.2.1=e.2.1)).length=2:=h4;omega
    have hJm:∀a k,k∈(Bf (EO P) a).getD []<->∃c p q,(E.filter fun e=>decide (e.2.1=c)).map (fun e=>e.1)=[p,q]/\((a=p/\k=q)\/(a=q/\k=p)):=fun a k=>by
     rw[SM,hpm,hpm];constructor
     ·rintro(⟨j,hj,e⟩|⟨j,hj,e⟩)
      ·exact⟨M[j].1,a,k,by rw[hMj j hj,e],.inl ⟨rfl,rfl⟩⟩
      ·exact⟨M[j].1,k,a,by rw[hMj j hj,e],.inr ⟨rfl,rfl⟩⟩
     ·rintro⟨c,p,q,e,h⟩
      have hc:∃j,∃hj:j<M.length,M[j].2=[p,q]:=by
       have hm:c∈M.map Prod.fst:=(hMk c).2 (by
        have hpm:p∈(E.filter fun e=>decide (e.2.1=c)).map (fun e=>e.1):=by rw[e];exact Mh
        obtain⟨e',he',_⟩:=List.mem_map.1 hpm;obtain⟨h3,h4⟩:=List.mem_filter.1 he'
        exact⟨e',h3,of_decide_eq_true h4⟩)
       obtain⟨l,v,hl⟩:=Hk hm;obtain⟨h1,e1⟩:=List.getElem?_eq_some_iff.1 hl;refine⟨l,h1,?_⟩;rw[<-hMj l h1,e1];exact e
      obtain⟨j,hj,e2⟩:=hc;rcases h with ⟨rfl,rfl⟩|⟨rfl,rfl⟩
      ·exact .inl ⟨j,hj,e2⟩
      ·exact .inr ⟨j,hj,e2⟩
    have hPl:P.length<=4200:=by rw[<-hP,length_map];have:=RO E;rw[hM]at this;omega
    have V:Abq h9 gS gJ g16 g13 g17 mJ mJB (EO P) (fun a=>(Bf (EO P) a).getD []) x.c.sd.length:=⟨fun ms=>(e16 ms).le k9,fun ms=>(e13 ms).le (AJ l57 (AJ k8 k9)),e17,hJS,AJ fJ (AJ k8 k9),AJ fJB7 (AJ k8 k9),fun a=>rfl,fun a k hk=>by
     obtain⟨c,p,q,e,h⟩:=(hJm a k).1 hk
     have hin:∀y∈[p,q],0<=y/\y<x.c.sd.length:=fun y hy=>by rw[<-e]at hy;obtain⟨e',he',rfl⟩:=List.mem_map.1 hy;exact hEi e' (List.mem_filter.1 he').1
     rcases h with ⟨_,rfl⟩|⟨_,rfl⟩
     ·exact hin _ (mem_cons_of_mem _ Mh)
     ·exact hin _ Mh,fun a=>by have:=ME P a;show((Bf (EO P) a).getD []).length<=_;omega,by omega⟩
    refine As (Ql rfl XZ (e17 _) (DC (pre:=[mS]) rfl rfl call142 rfl (UF V (ZZ x.c.sd.length []+1) 0 [] [] mS hK.p hS0 (fun p hp=>nomatch hp) (Nat.lt_succ_self _)) rfl rfl rfl rfl (fun v' h' pre' l' hF=>?_)));obtain⟨rfl,m',T',bs',rfl,hO',hA',R⟩:=hF;simp only[cons_append,nil_append,append_nil];refine An (Ac (As (Ql rfl PK ((e16 _).le k9) (Qx (Xm hO' (by simp) rfl PK rfl) rfl ?_))));have hX9:=hX.up (AJ lh4 (AJ k5 (AJ l57 (AJ k8 k9))))
    have hmem:∀y,y∈DB T'<->Con E 0 y:=fun y=>by
     rw[Ys hcnt hJm];constructor
     ·intro h;exact(R.new y h (fun q=>nomatch q)).1.1
     ·intro h
      induction h with
      | refl=>exact R.me
      | step _ h3 ih=>exact(R.new _ ih (fun q=>nomatch q)).1.2 _ h3
    have hlen:T'.length=x.c.sd.length<->(0<x.c.sd.length/\∀i:Nat,i<x.c.sd.length->Con E 0 i):=by
     have hnd:=hO'.keys
     have hsub:∀y∈DB T',y∈(range x.c.sd.length).map fun(i:Nat)=>(i:Int):=fun y hy=>by have:=(R.new y hy (fun q=>nomatch q)).2;exact List.mem_map.2 ⟨y.toNat,List.mem_range.2 (by omega),by omega⟩
     have hle:=Go.Kuhn.nodup_le _ _ hnd hsub;have hr:((range x.c.sd.length).map fun(i:Nat)=>(i:Int)).Nodup:=List.pairwise_map.2 (List.nodup_range.imp fun h e=>h (by omega));constructor
     ·intro h;refine⟨hK.p,fun i hi=>(hmem _).1 (Classical.byContradiction fun hn=>?_)⟩
      have h3:=Go.Kuhn.nodup_le ((i:Int)::DB T') _ (List.nodup_cons.2 ⟨hn,hnd⟩) fun y hy=>by
       rcases List.mem_cons.1 hy with rfl|hy
       ·exact List.mem_map.2 ⟨i,List.mem_range.2 hi,rfl⟩
       ·exact hsub y hy
      rw[length_cons,length_map,length_map,length_range]at h3;omega
     ·rintro⟨_,h⟩
      have h3:=Go.Kuhn.nodup_le _ (DB T') hr fun y hy=>by obtain⟨i,hi,rfl⟩:=List.mem_map.1 hy;exact(hmem _).2 (h i (List.mem_range.1 hi))
      rw[length_map,length_map,length_range]at h3;rw[length_map,length_map,length_range]at hle;omega
    refine Qf Bu rfl (Ql rfl BL (((hA 2 _ rfl _).le (AJ lh4 (AJ k5 (AJ l57 (AJ k8 k9)))))) (Qx (Ar hX9.rd.any rfl BL rfl) rfl (Qm rfl (An ?_))));refine Au rfl (fun hne=>?_) (fun hne=>?_)
    ·refine Ac (Ad (Qm rfl (An (Am (Ag ?_)))));exact Ap rfl rfl (by unfold WO;rw[if_neg (fun w=>w hzero),if_neg (fun w=>w hcnt),if_pos (fun w=>hne (by rw[hlen.2 w]))])
    ·refine Ah (Ab (As (Qm rfl (An (Am ?_)))));exact Ap rfl rfl (by unfold WO;rw[if_neg (fun w=>w hzero),if_neg (fun w=>w hcnt),if_neg (fun w=>w (hlen.1 (by omega)))])
variable {U o:List Cl} {i:Nat}
theorem Gy{e:Entry}{Q:Exit->Act->World->Prop}{ops:Array Oper}{r:List Oper}{s:AB}{h:Hp}{ms:List Hp}(k:WL e ops Q r s h ms):∀pre:List Hp,WL e ops Q r s h (pre++ms)
 | []=>k
 | m::pre=>T9 0 rfl (Gy k pre)
def JZ(o:List Cl)(i:Nat):Int:=if i=0 then 0 else(o.getD (i-1) default).id
def cA(U o:List Cl)(i:Nat):Option (Int×Int):=
 if(o.getD i default).id<=JZ o i then some ((o.getD i default).id,20)
 else if D0 U (o.getD i default)≠0 then some ((o.getD i default).id,D0 U (o.getD i default)) else none
noncomputable def TE(U o:List Cl)(i:Nat):Option (Int×Int):=
 if 1<(o.getD i default).dim then
  if WO (JK U (o.getD i default) (o.getD i default).sd.length) (o.getD i default).sd.length≠0 then some ((o.getD i default).id,WO (JK U (o.getD i default) (o.getD i default).sd.length) (o.getD i default).sd.length) else none
 else none
noncomputable def L7(U o:List Cl):Int×Int:=
 match (range o.length).findSome? (cA U o) with
 | some e=>e
 | none=>match (range o.length).findSome? (TE U o) with
  | some e=>e
  | none=>(0,0)
theorem Uk{e:Int×Int}(hi:i<o.length)(h:∀j,j<i->cA U o j=none)(he:cA U o i=some e):L7 U o=e:=by unfold L7;rw[DA h he o.length hi]
theorem Z4{e:Int×Int}(hA:∀j,j<o.length->cA U o j=none)(hi:i<o.length)(h:∀j,j<i->TE U o j=none)(he:TE U o i=some e):L7 U o=e:=by unfold L7;rw[Cz o.length hA,DA h he o.length hi]
theorem VR(hA:∀j,j<o.length->cA U o j=none)(hB:∀j,j<o.length->TE U o j=none):L7 U o=(0,0):=by unfold L7;rw[Cz o.length hA,Cz o.length hB]
structure Abu(l:List Ce):Prop extends OfOk l where
 d:∀a∈l,BD a.c.dim
 r:∀a∈l,∀s∈a.c.sd,BD s.1/\BD s.2
theorem MA{x:Cl}(h:D0 U x=0):(0<=x.dim/\x.dim<=8)/\¬BP x/\(∀i,i<x.sd.length->¬HP U x i)/\∀i,i<x.sd.length->¬BK x i:=by
 unfold D0 at h;split at h
 ·exact absurd h (by decide)
 rename_i h1;split at h
 ·exact absurd h (by decide)
 rename_i h2;split at h
 ·exact absurd h (by decide)
 rename_i h3;split at h
 ·exact absurd h (by decide)
 rename_i h4;exact⟨by omega,h2,Classical.not_not.1 h3,Classical.not_not.1 h4⟩
theorem IB(h:i<o.length):o.getD i default=o[i]:=by simp[List.getD,h]
theorem RF(hi:i<o.length)(h:cA U o i=none):JZ o i<o[i].id/\D0 U o[i]=0:=by
 unfold cA at h;rw[IB hi]at h;split at h
 ·cases h
 ·rename_i h1;split at h
  ·cases h
  ·rename_i h2;exact⟨by omega,Classical.not_not.1 h2⟩
theorem Zv(h:∀j,j<o.length->cA U o j=none):o.Pairwise fun a b=>a.id<b.id:=by
 have key:∀j (hj:j<o.length) i (hi:i<j),o[i].id<o[j].id:=fun j=>by
  induction j with
  | zero=>intro hj i hi;omega
  | succ j ih=>
   intro hj i hi;have h1:=(RF hj (h _ hj)).1
   have h2:JZ o (j+1)=o[j].id:=by unfold JZ;rw[if_neg (by omega),Nat.add_sub_cancel,IB (by omega)]
   rw[h2]at h1;rcases (by omega:i<j\/i=j) with h3|rfl
   ·have:=ih (by omega) i h3;omega
   ·exact h1
 rw[List.pairwise_iff_getElem];intro i j hi hj hij;exact key j hj i hij
theorem AaH{l o1 o2:List Cl}(C1:CanO l o1)(C2:CanO l o2)(hU:∀y∈U,y∈o1)(hr:∀a∈l,∀s∈a.sd,BD s.1/\BD s.2)(hA:∀j,j<o2.length->cA U o2 j=none){x:Cl}(hx:x∈o2)(hd:1<x.dim):YM U x:=by
 have hnd:(l.map Cl.id).Nodup:=C2.ids.nodup_iff.1 (QS (Zv hA))
 have hf:∀y∈o2,D0 U y=0:=fun y hy=>by obtain⟨j,hj,rfl⟩:=getElem_of_mem hy;exact(RF hj (hA j hj)).2
 have hy2:∀y∈o2,y.sd.length<=64/\∀s∈y.sd,BD s.1/\(s.2=1\/s.2=-1):=fun y hy=>by obtain⟨h1,h2,h3,h4⟩:=MA (hf y hy);refine⟨by unfold BP at h2;omega,fun s hs=>?_⟩;obtain⟨i,hi,rfl⟩:=getElem_of_mem hs;have h5:=h4 i hi;unfold BK at h5;rw[Bh hi]at h5;obtain⟨a,ha,_,_,hp⟩:=C2.sim.mem y hy;exact⟨(hr a ha _ (hp.mem_iff.1 (getElem_mem hi))).1,by omega⟩
 have hyU:∀y∈U,y.sd.length<=64/\∀s∈y.sd,BD s.1/\(s.2=1\/s.2=-1):=fun y hy=>by obtain⟨a,ha,_,_,hp⟩:=C1.sim.mem y (hU y hy);obtain⟨y',hy',_,_,hp'⟩:=C2.sim.to hnd ha;obtain⟨h1,h2⟩:=hy2 y' hy';refine⟨by rw[hp.length_eq,<-hp'.length_eq];exact h1,fun s hs=>h2 s (hp'.mem_iff.2 (hp.mem_iff.1 hs))⟩
 have hcel:∀c,(Gn U c).sd.length<=64/\∀s∈(Gn U c).sd,BD s.1/\(s.2=1\/s.2=-1):=fun c=>by
  unfold Gn J7;cases hc:U.find? fun y=>decide (y.id=c) with
  | none=>exact⟨by simp[default,instInhabitedCl.default],fun s hs=>by simp[default,instInhabitedCl.default]at hs⟩
  | some y=>exact hyU y (List.mem_of_find?_eq_some hc)
 obtain⟨h1,h2⟩:=hy2 x hx;obtain⟨_,h4,_,_⟩:=MA (hf x hx);exact⟨h1,by unfold BP at h4;omega,fun i _=>(hcel _).1,fun s hs=>h2 s hs,fun i _ r hr=>(hcel _).2 r hr⟩
theorem Tg(l:List Ce)(v:Value)(hp:Hp)(hK:Abu l)(hR:RdC hp v l):FnT Tryz.prog 28 #[.agg #[v]] hp [] (fun r _ _=>∃e,r=.tuple #[.int .i64 e.1,.int .i64 e.2]/\((4000<l.length/\e=(0,2))\/(l.length<=4000/\∃A1 A2:List Ce,CanO (l.map Ce.c) (A1.map Ce.c)/\CanO (l.map Ce.c) (A2.map Ce.c)/\e=L7 ((Qr A1).map Ce.c) (A2.map Ce.c)))):=by
 have o1:=hR.q.rd.one;refine Ao func28 ntmps28 rfl rfl (fun w0 hw0=>?_);simp only[AU];refine As (AS [_] rfl rfl (by rfl) rfl rfl rfl (fun g1=>Qm rfl (Qm rfl (An (Aw fun h1 l1 hS=>?_)))));have hR:=hR.up l1;refine Ac (As (Qf B6 rfl (Ql rfl Bs (Seg.all hS 0 _ rfl _) (Qx (Ar hR.q.rd.any rfl Bs rfl) rfl (Qm rfl (An ?_))))));refine Au rfl (fun h4=>?_) (fun h4=>?_)
 ·refine Ac (Ad (Qm rfl (Qm rfl (An (Am (Ag ?_))))));exact BC rfl rfl rfl (⟨(0,2),rfl,.inl ⟨by omega,rfl⟩⟩)
 ·refine Ah (Ab (As (Qx (oG rfl Dt A6 (Seg.any hS)) rfl (Qc call64 rfl (Zg l v h1 hK.toOfOk hR) (fun rT h2 ms2 l2 hF=>?_)))));obtain⟨l2',rfl,g,A1,rfl,hC1,hT⟩:=hF;have hR2:=hR.up l2;have hS2:=hS.le l2;refine Qm rfl (Bv (Qx (oG rfl Dt A6 (Seg.any hS2)) rfl (Qc call65 rfl (Jl l v h2 hK.n hK.s hR2) (fun rC h3 ms3 l3 hF=>?_))));obtain⟨l3',mA,A2,vA,rfl,rfl,hOA,hC2,hsA⟩:=hF;refine A4 hOA fun hq l4 hQ=>?_;have hsA:=fun a ha=>(hsA a ha).up l4;have hT:=hT.up (AJ l3 l4);have ovA:=hQ.rd.one
  have hU1:∀y∈(Qr A1).map Ce.c,y∈A1.map Ce.c:=fun y hy=>by
   obtain⟨a,ha,rfl⟩:=List.mem_map.1 hy;rcases Kj _ _ a ha with h|h
   ·cases h
   ·exact List.mem_map.2 ⟨a,h,rfl⟩
  obtain⟨W,hW⟩:∃W,Qr A1=W:=⟨_,rfl⟩
  rw[hW]at hT hU1;have hol:A2.length=l.length:=by have:=hC2.len;rwa [length_map,length_map]at this
  have hln:=hK.n
  have hx2:∀a∈A2,∃b∈l,a.c.id=b.c.id/\a.c.dim=b.c.dim/\a.c.sd.Perm b.c.sd:=fun a ha=>by obtain⟨y,hy,e1,e2,e3⟩:=hC2.sim.mem a.c (List.mem_map.2 ⟨a,ha,rfl⟩);obtain⟨b,hb,rfl⟩:=List.mem_map.1 hy;exact⟨b,hb,e1,e2,e3⟩
  have hget:∀i (hi:i<A2.length),(A2.map Ce.c).getD i default=A2[i].c:=fun i hi=>by simp[List.getD,hi]
  have hres:∀e,e=L7 (W.map Ce.c) (A2.map Ce.c)->(4000<l.length/\e=(0,2))\/(l.length<=4000/\∃A1 A2:List Ce,CanO (l.map Ce.c) (A1.map Ce.c)/\CanO (l.map Ce.c) (A2.map Ce.c)/\e=L7 ((Qr A1).map Ce.c) (A2.map Ce.c)):=fun e he=>.inr ⟨by omega,A1,A2,hC1,hC2,by rw[he,hW]⟩;refine Qx (Em rfl Dt rfl Bs rfl rfl rfl) rfl (Qm rfl (Qm rfl (An ?_)));refine A3 (fun sl h' ms'=>sl=[(4,.pointer (some ⟨g,0,none⟩)),(6,vA)]/\hq.le h'/\ms'=[]/\∀j,j<A2.length->cA (W.map Ce.c) (A2.map Ce.c) j=none) ?_ (fun s h ms hI=>?_)
  ·refine Ac (Ad (Qm rfl (Qx (Ar hQ.rd.any rfl Bs rfl) rfl (Qm rfl (An (Ae ?_))))))
   refine Az (fun q sl h' ms'=>∃(i:Nat),q=A2.length-i/\sl=[(4,.pointer (some ⟨g,0,none⟩)),(5,.int .i64 (JZ (A2.map Ce.c) i)),(6,vA),(22,vA),(23,.int .i64 A2.length),(24,.int .i64 i)]/\hq.le h'/\ms'=[]/\i<=A2.length/\∀j,j<i->cA (W.map Ce.c) (A2.map Ce.c) j=none)
    (A2.length-0) _ ⟨0,rfl,rfl,CY,rfl,by omega,fun j h=>by omega⟩ Qs ?_
   rintro q sl h5 ms' ⟨i,rfl,rfl,l5,rfl,hi,hno⟩;have hQ:=hQ.up l5;refine As (Qm rfl (An (Ac ?_)));refine Au rfl (fun hlt=>?_) (fun hlt=>?_)
   ·have hil:i<A2.length:=by omega
    obtain⟨x,hx⟩:∃x,A2[i]=x:=⟨_,rfl⟩
    have hxm:x∈A2:=by rw[<-hx];exact getElem_mem hil
    have hgx:=hget i hil;rw[hx]at hgx;obtain⟨b,hb,e1,e2,e3⟩:=hx2 x hxm;have hX:=(hsA x hxm).up l5;have hd:BD x.c.dim:=by rw[e2];exact hK.d b hb
    have hn:x.c.sd.length<=1000000:=by rw[e3.length_eq];exact hK.s b hb
    have hr:∀s∈x.c.sd,BD s.1/\BD s.2:=fun s hs=>hK.r b hb s (e3.mem_iff.1 hs);have oxv:=hX.rd.one
    have hl1:JZ (A2.map Ce.c) (i+1)=x.c.id:=by unfold JZ;rw[if_neg (by omega),Nat.add_sub_cancel,hgx]
    have hcl:i<(A2.map Ce.c).length:=by rw[length_map];exact hil
    have hsx:∀ms,Seg h5 ms ((AG vA).add (i*3)) (cC x):=fun ms=>by rw[<-hx];exact(hQ.any (ms:=ms)).seg hil
    refine Ah (Ab (Ac (Ae (As (Qx (BS (i) hQ.rd.any rfl Bs AI rfl rfl) rfl (Qx (oG rfl Fb AI (hsx _)) rfl (CC [.int .i64 0,.int .i64 0,.slice none 0 0] rfl AI rfl rfl (fun g8=>?_))))))));refine Sa 0 [_,_,_] AI rfl (by simp[o1,ovA,oxv]) ?_;refine An (Aw fun h6 l6 hS8=>?_);have e80:∀ms,Cell h6 ms (⟨g8,0,none⟩:Addr) (.int .i64 x.c.id):=fun ms=>Seg.all hS8 0 _ rfl ms;have l56:=AJ l5 l6;refine Ac (As (Qf Bz rfl (Ql rfl U3 (e80 _) (Qm rfl (Qm rfl (An ?_))))));refine Au rfl (fun hle=>?_) (fun hle=>?_)
    ·have hch:=Uk (U:=W.map Ce.c) hcl hno (by unfold cA;rw[hgx,if_pos hle]);refine As (Qf Bz rfl (Ql rfl U3 (e80 _) (Qm rfl (Qm rfl (An (Am (Ag (Al (Ag (Ag (Al (Ag ?_))))))))))));exact BC rfl rfl rfl (⟨_,rfl,hres _ hch.symm⟩)
    ·refine Ah (Ab (As (Qf Bz rfl (Ql rfl U3 (e80 _) (Qm rfl (Bv (Qm rfl (Qx (oG rfl Fb AI (Seg.any hS8)) rfl (Qc call76 rfl (XR W x g h6 (hT.up l56) (hX.up l6) hd hn hr) (fun rF h7 ms7 l7 hF=>?_))))))))));subst hF;refine Gy ?_ ms7;have e80:∀ms,Cell h7 ms (⟨g8,0,none⟩:Addr) (.int .i64 x.c.id):=fun ms=>(e80 ms).le l7;refine Qm rfl (Bv (Qm rfl (Qm rfl (An ?_))));refine Au rfl (fun hne=>?_) (fun hne=>?_)
     ·have hch:=Uk (U:=W.map Ce.c) hcl hno (by unfold cA;rw[hgx,if_neg hle,if_pos hne]);refine As (Qf Bz rfl (Ql rfl U3 (e80 _) (Qm rfl (Qm rfl (Qm rfl (An (Am (Al (Ag (Ag (Al (Ag ?_))))))))))));exact BC rfl rfl rfl (⟨_,rfl,hres _ hch.symm⟩)
     ·have hci:cA (W.map Ce.c) (A2.map Ce.c) i=none:=by unfold cA;rw[hgx,if_neg hle,if_neg hne]
      refine Ah (Ai (Ab (Ad (Qx (oA rfl) rfl (Qm rfl (Aj ?_))))))
      exact Ak (A2.length-(i+1)) _ (by omega) ⟨i+1,rfl,by rw[hl1],AJ l56 l7,rfl,by omega,fun j hj=>by
       rcases (by omega:j<i\/j=i) with h1|rfl
       ·exact hno j h1
       ·exact hci⟩ Qs
   ·obtain rfl:i=A2.length:=by omega
    refine Av (Aa (Aa (Af ?_)));exact AA _ ⟨rfl,l5,rfl,hno⟩ Qs
  ·obtain⟨rfl,l5,rfl,hno⟩:=hI;have hno':∀j,j<(A2.map Ce.c).length->cA (W.map Ce.c) (A2.map Ce.c) j=none:=fun j hj=>hno j (by rwa [length_map]at hj);have hQ:=hQ.up l5;have hT:=hT.up l5;have hsA:=fun a ha=>(hsA a ha).up l5;refine Ac (As (Qm rfl (Qx (Ar hQ.rd.any rfl Bs rfl) rfl (Qm rfl (An (Ae ?_))))))
   refine Az (fun q sl h' ms'=>∃(i:Nat),q=A2.length-i/\sl=[(4,.pointer (some ⟨g,0,none⟩)),(45,vA),(46,.int .i64 A2.length),(47,.int .i64 i)]/\h.le h'/\ms'=[]/\i<=A2.length/\∀j,j<i->TE (W.map Ce.c) (A2.map Ce.c) j=none)
    (A2.length-0) _ ⟨0,rfl,rfl,CY,rfl,by omega,fun j h=>by omega⟩ Qs ?_
   rintro q sl h6 ms' ⟨i,rfl,rfl,l6,rfl,hi,hnB⟩;have hQ:=hQ.up l6;refine As (Qm rfl (An (Ac ?_)));refine Au rfl (fun hlt=>?_) (fun hlt=>?_)
   ·have hil:i<A2.length:=by omega
    obtain⟨x,hx⟩:∃x,A2[i]=x:=⟨_,rfl⟩
    have hxm:x∈A2:=by rw[<-hx];exact getElem_mem hil
    have hgx:=hget i hil;rw[hx]at hgx;have hX:=(hsA x hxm).up l6;have oxv:=hX.rd.one;have hcl:i<(A2.map Ce.c).length:=by rw[length_map];exact hil
    have hsx:∀ms,Seg h6 ms ((AG vA).add (i*3)) (cC x):=fun ms=>by rw[<-hx];exact(hQ.any (ms:=ms)).seg hil
    have hstep:TE (W.map Ce.c) (A2.map Ce.c) i=none->∀j,j<i+1->TE (W.map Ce.c) (A2.map Ce.c) j=none:=fun h j hj=>by
     rcases (by omega:j<i\/j=i) with h1|rfl
     ·exact hnB j h1
     ·exact h
    refine Ah (Ab (Ac (Ae (As (Qx (BS (i) hQ.rd.any rfl Bs AI rfl rfl) rfl (Qx (oG rfl Fb AI (hsx _)) rfl (CC [.int .i64 0,.int .i64 0,.slice none 0 0] rfl AI rfl rfl (fun g11=>?_))))))));refine Sa 0 [_,_,_] AI rfl (by simp[o1,ovA,oxv]) ?_;refine An (Aw fun h7 l7 hS11=>?_);have e110:∀ms,Cell h7 ms (⟨g11,0,none⟩:Addr) (.int .i64 x.c.id):=fun ms=>Seg.all hS11 0 _ rfl ms;have e111:∀ms,Cell h7 ms (⟨g11,1,none⟩:Addr) (.int .i64 x.c.dim):=fun ms=>Seg.all hS11 1 _ rfl ms;have l67:=AJ l6 l7;refine As (Qf BM rfl (Ql rfl U3 (e111 _) (Qm rfl (An ?_))));refine Au rfl (fun hd=>?_) (fun hd=>?_)
    ·have hAr:YM (W.map Ce.c) x.c:=AaH hC1 hC2 hU1 (fun a ha s hs=>by
      obtain⟨b,hb,rfl⟩:=List.mem_map.1 ha
      exact hK.r b hb s hs) hno' (List.mem_map.2 ⟨x,hxm,rfl⟩) hd
     refine As (Qm rfl (Qx (oG rfl Fb AI (Seg.any hS11)) rfl (Qc call77 rfl (S5 W x g h7 (hT.up l67) (hX.up l7) hAr) (fun rF h8 ms8 l8 hF=>?_))));subst hF;refine Gy ?_ ms8;have e110:∀ms,Cell h8 ms (⟨g11,0,none⟩:Addr) (.int .i64 x.c.id):=fun ms=>(e110 ms).le l8;refine Qm rfl (Bv (Qm rfl (Qm rfl (An ?_))));refine Au rfl (fun hne=>?_) (fun hne=>?_)
     ·have hch:=Z4 (U:=W.map Ce.c) hno' hcl hnB (by unfold TE;rw[hgx,if_pos hd,if_pos hne]);refine As (Qf Bz rfl (Ql rfl U3 (e110 _) (Qm rfl (Qm rfl (Qm rfl (An (Am (Al (Ag (Ag (Al (Ag ?_))))))))))));exact BC rfl rfl rfl (⟨_,rfl,hres _ hch.symm⟩)
     ·have hci:TE (W.map Ce.c) (A2.map Ce.c) i=none:=by unfold TE;rw[hgx,if_pos hd,if_neg hne]
      refine Ah (Ai (Ab (Ad (Qx (oA rfl) rfl (Qm rfl (Aj ?_))))));exact Ak (A2.length-(i+1)) _ (by omega) ⟨i+1,rfl,rfl,AJ l67 l8,rfl,by omega,hstep hci⟩ Qs
    ·have hci:TE (W.map Ce.c) (A2.map Ce.c) i=none:=by unfold TE;rw[hgx,if_neg hd]
     refine Ah (Ai (Ab (Ad (Qx (oA rfl) rfl (Qm rfl (Aj ?_))))));exact Ak (A2.length-(i+1)) _ (by omega) ⟨i+1,rfl,rfl,l67,rfl,by omega,hstep hci⟩ Qs
   ·obtain rfl:i=A2.length:=by omega
    have hch:=VR hno' (fun j hj=>hnB j (by rwa [length_map]at hj));refine Av (Aa (Aa (Af (Ab (As (Qm rfl (Qm rfl (An (Am ?_)))))))));exact BC rfl rfl rfl (⟨(0,0),rfl,hres _ hch.symm⟩)
end Go.Proofs.Q
namespace Go.Proofs.Q
open Go.Proofs.Tryz
open Go.Eng Go.RowKit
variable {l:List Ce} {o:List Cl} {x c:Cl}
theorem Um(U:List Cl)(x:Cl):FZ U x=(JK U x x.sd.length).map fun e=>((Bl x e.1.toNat).1,e.2):=by
 have hx:x.sd=(range x.sd.length).map (Bl x):=List.ext_getElem (by simp) fun j h1 h2=>by simp[Bh h1]
 unfold FZ Lk
 conv=>lhs;rw[hx]
 unfold JK;rw[flatMap_map,List.map_flatMap];refine Ep fun i hi=>?_;unfold U6;rw[map_map];exact List.map_congr_left fun r _=>by simp
theorem Xc(E:F4)(f:Int->Int)(c:Int):D6 (E.map fun e=>(f e.1,e.2)) c=D6 E c/\Fs (E.map fun e=>(f e.1,e.2)) c=Fs E c:=by unfold D6 Fs;rw[map_map,map_map];exact⟨rfl,rfl⟩
theorem YT{U:List Cl}(G:GoodT (FZ U x) x.sd)(hn:0<x.sd.length)(hd:(x.sd.map Prod.fst).Nodup):WO (JK U x x.sd.length) x.sd.length=0:=by
 have hT:=Um U x;obtain⟨E,hE⟩:∃E,JK U x x.sd.length=E:=⟨_,rfl⟩
 have hi:∀e∈E,∃i:Nat,i<x.sd.length/\e.1=(i:Int):=fun e he=>by rw[<-hE]at he;obtain⟨i,hi,r,_,rfl⟩:=NB he;exact⟨i,hi,rfl⟩
 rw[hE]at hT ⊢;rw[hT]at G;have hsm:=fun c=>Xc E (fun k=>(Bl x k.toNat).1) c
 have h1:∀e∈E,D6 E e.2.1=0:=fun e he=>by have h:=G.sum ((Bl x e.1.toNat).1,e.2) (List.mem_map.2 ⟨e,he,rfl⟩);rw[(hsm _).1]at h;exact h
 have h2:∀e∈E,Fs E e.2.1=2:=fun e he=>by have h:=G.two ((Bl x e.1.toNat).1,e.2) (List.mem_map.2 ⟨e,he,rfl⟩);rw[(hsm _).2]at h;exact h
 have hinj:∀i j:Nat,i<x.sd.length->j<x.sd.length->(Bl x i).1=(Bl x j).1->i=j:=fun i j hi hj e=>by
  rcases Nat.lt_trichotomy i j with h|h|h
  ·exact absurd e (IJ hd i j h hj)
  ·exact h
  ·exact absurd e.symm (IJ hd j i h hi)
 have hcon:∀{u v:Int},Con (E.map fun e=>((Bl x e.1.toNat).1,e.2)) u v->∀i:Nat,i<x.sd.length->u=(Bl x i).1->∃j:Nat,j<x.sd.length/\v=(Bl x j).1/\Con E i j:=fun {u v} h=>by
  induction h with
  | refl=>intro i hi e;exact⟨i,hi,e,.refl _⟩
  | @step b d c w w' _ m1 m2 ih=>
   intro i hi0 e;obtain⟨j,hj,e1,C⟩:=ih i hi0 e;obtain⟨p,hp,q1⟩:=List.mem_map.1 m1;obtain⟨p',hp',q2⟩:=List.mem_map.1 m2;obtain⟨k,hk,ek⟩:=hi p hp;obtain⟨k',hk',ek'⟩:=hi p' hp';rw[ek]at q1;rw[ek']at q2;have a1:=(Prod.mk.injEq _ _ _ _ ▸ q1:_/\_)
   have a2:=(Prod.mk.injEq _ _ _ _ ▸ q2:_/\_)
   obtain⟨b1,b2⟩:=a1;obtain⟨b1',b2'⟩:=a2;rw[Int.toNat_natCast]at b1 b1';have hkj:k=j:=hinj k j hk hj (by rw[b1,e1]);subst hkj;refine⟨k',hk',b1'.symm,.step C (c:=c) (w:=w) (w':=w') ?_ ?_⟩
   ·have:p=((k:Int),c,w):=by rw[<-ek,<-b2]
    rw[<-this];exact hp
   ·have:p'=((k':Int),c,w'):=by rw[<-ek',<-b2']
    rw[<-this];exact hp'
 have h3:0<x.sd.length/\∀i:Nat,i<x.sd.length->Con E 0 i:=by refine⟨hn,fun i hi'=>?_⟩;have hc:=G.con (Bl x 0) (by rw[Bh hn];exact getElem_mem hn) (Bl x i) (by rw[Bh hi'];exact getElem_mem hi');obtain⟨j,hj,e,C⟩:=hcon hc 0 hn rfl;rw[hinj i j hi' hj e];exact C
 unfold WO;rw[if_neg (fun w=>w h1),if_neg (fun w=>w h2),if_neg (fun w=>w h3)]
theorem YH:Xi x x.sd.length=(x.sd.map Prod.snd).sum:=by unfold Xi;rw[take_length]
theorem Vn(R:Rgt o)(hx:x∈o):D0 o x=0:=by
 have hb:∀i,i<x.sd.length->¬HP o x i:=fun i hi q=>by
  obtain⟨y,hy,e1,e2⟩:=R.sid x hx _ (getElem_mem hi);unfold HP at q;rw[Bh hi,<-e1,EF R.nd hy,C3 R.nd hy]at q;rcases q with q|q|⟨q1,q2⟩
  ·cases q
  ·exact q e2
  ·rw[e1,<-Bh hi]at q2;exact IJ (R.sds x hx) (i-1) i (by omega) hi q2
 have hs:∀i,i<x.sd.length->¬BK x i:=fun i hi q=>by unfold BK at q;rw[Bh hi]at q;have:=R.sgn x hx _ (getElem_mem hi);omega
 unfold D0
 rw[if_neg (by have:=R.dim x hx;omega),if_neg (R.num x hx),if_neg (fun w=>w hb),if_neg (fun w=>w hs),if_neg fun q=>by
  have:=R.one x hx q.1;rw[YH]at q
  exact q.2 this]
theorem Vg(R:RgtF o):L7 o o=(0,0):=by
 have G:=R.rgt;refine VR (fun j hj=>?_) fun j hj=>?_
 ·unfold cA;rw[IB hj,if_neg,if_neg]
  ·exact fun q=>q (Vn G (getElem_mem hj))
  ·unfold JZ;split
   ·have:=G.pos _ (getElem_mem hj);omega
   ·rw[IB (by omega)];have:=List.pairwise_iff_getElem.1 R.inc (j-1) j (by omega) hj (by omega);omega
 ·unfold TE;rw[IB hj];split
  ·rename_i hd;have hx:=getElem_mem hj;have hnum:=G.num _ hx;unfold BP at hnum;rw[if_neg];exact fun q=>q (YT (G.tab _ hx (by omega)) (by omega) (G.sds _ hx))
  ·rfl
structure RgC(l:List Ce):Prop where
 r:Rgt (l.map Ce.c)
 i:∀a∈l,a.c.id<=1000000
def cn(l:List Ce):List Cl:=ordF (l.map Ce.c)
theorem Ej(l:List Ce):(cn l).length=l.length:=by unfold cn;rw[Gi,length_map]
theorem RgC.F(R:RgC l):RgtF (cn l):=R.r.ordF
theorem CanO.ord{l:List Cl}(C:CanO l o)(R:Rgt l):o=ordF l:=by
 have F:=R.ordF;have hp:=DE l.length l (Nat.le_refl _);obtain⟨l',h1,h2,h3⟩:=C.mem;have hinc:=F.inc
 have hm:(o.map Cl.id)=(ordF l).map Cl.id:=by refine Dm id (C.ids.trans ?_) (List.pairwise_map.2 C.inc) (List.pairwise_map.2 hinc);have:=(hp.map Cl.id).symm;rw[map_map]at this;exact this
 have hlen:o.length=(ordF l).length:=by have:=congrArg List.length hm;simpa using this
 refine List.ext_getElem hlen fun i h1' h2'=>?_;obtain⟨a1,a2,a3,a4⟩:=h3 i h1' (by omega)
 have e1:o[i].id=(ordF l)[i].id:=by have:=List.getElem_of_eq hm (i:=i) (by simpa using h1');simpa using this
 have hxl:l'[i]'(by omega)∈l:=h1.mem_iff.1 (getElem_mem _);obtain⟨z,hz,ez⟩:=Ea (getElem_mem h2')
 have hzz:z=l'[i]'(by omega):=by
  have b1:=EF R.nd hz;have b2:=EF R.nd hxl;have:z.id=(l'[i]'(by omega)).id:=by rw[<-a1,e1,ez];rfl
  rw[this,b2]at b1;exact(Option.some.inj b1).symm
 have hs:o[i].sd=(ordF l)[i].sd:=by refine Dm Prod.fst (a3.trans ?_) a4 (F.sinc _ (getElem_mem h2'));rw[ez,hzz];exact(Cr _).symm
 have hd:o[i].dim=(ordF l)[i].dim:=by rw[a2,ez,hzz];rfl
 revert e1 hs hd;generalize o[i]=x;generalize (ordF l)[i]=y;cases x;cases y;intro e1 hs hd;simp only at e1 hs hd;rw[e1,hs,hd]
theorem RgtF.ordF(R:RgtF o):ordF o=o:=by
 have e1:o.map Cl.can=o:=by
  have:∀l:List Cl,(∀x∈l,x∈o)->l.map Cl.can=l:=fun l=>by
   induction l with
   | nil=>intro _;rfl
   | cons a l ih=>
    intro h;have e:CF a.sd=a.sd:=Dm Prod.fst (Cr _) (Gs _) (R.sinc a (h a Mh));rw[map_cons,ih fun x hx=>h x (mem_cons_of_mem _ hx)];unfold Cl.can;rw[e]
  exact this o fun x hx=>hx
 have h2:=DE o.length o (Nat.le_refl _);rw[e1]at h2;exact Dm Cl.id h2 (C0 _ _ (Nat.le_refl _)) R.inc
theorem Q7(R:RgtF (l.map Ce.c)):cn l=l.map Ce.c:=R.ordF
theorem Z8(h:c∈cn l):∃b∈l,c=b.c.can:=by obtain⟨a,ha,e⟩:=Ea h;obtain⟨b,hb,rfl⟩:=List.mem_map.1 ha;exact⟨b,hb,e⟩
theorem RgC.ci(R:RgC l)(h:c∈cn l):c.id<=1000000:=by obtain⟨b,hb,rfl⟩:=Z8 h;exact R.i b hb
theorem RgC.cI(R:RgC l)(h:c∈cn l):BD c.id:=by have:=R.ci h;have:=R.F.rgt.pos _ h;unfold BD;omega
theorem Rgt.bds{l:List Cl}(R:Rgt l)(hx:x∈l):(0<=x.dim/\x.dim<=8)/\x.sd.length<=64:=by have h1:=R.dim x hx;have h2:=R.num x hx;unfold BP at h2;omega
theorem RgC.pc(R:RgC l):Abu l:=by
 have G:=R.r;have hm:∀a∈l,a.c∈l.map Ce.c:=fun a ha=>List.mem_map.2 ⟨a,ha,rfl⟩;have hid:∀a∈l,BD a.c.id:=fun a ha=>by have:=G.pos _ (hm a ha);have:=R.i a ha;unfold BD;omega
 have hn:=G.n;rw[length_map]at hn;refine⟨⟨by omega,fun a ha=>?_,hid⟩,fun a ha=>?_,fun a ha s hs=>?_⟩
 ·have:=(G.bds (hm a ha)).2;omega
 ·have:=(G.bds (hm a ha)).1;unfold BD;omega
 ·obtain⟨y,hy,e,_⟩:=G.sid _ (hm a ha) s hs;obtain⟨b,hb,rfl⟩:=List.mem_map.1 hy;have h2:=G.sgn _ (hm a ha) s hs;rw[<-e];exact⟨hid b hb,by unfold BD;omega⟩
theorem Zq{A:List Ce}(h:A.map Ce.c=o)(hn:(o.map Cl.id).Nodup):(A.map fun a=>a.c.id).Nodup:=by rw[<-h,map_map]at hn;exact hn
theorem Mn(l:List Ce)(v:Value)(hp:Hp)(hK:RgC l)(hR:RdC hp v l):FnT Tryz.prog 28 #[.agg #[v]] hp [] (fun r _ _=>r=.tuple #[.int .i64 0,.int .i64 0]):=by
 refine(Tg l v hp hK.pc hR).mono fun r _ _ h=>?_;obtain⟨e,rfl,h⟩:=h;have hn:=hK.r.n;rw[length_map]at hn;have hF:=hK.F;rcases h with ⟨h,_⟩|⟨_,A1,A2,C1,C2,rfl⟩
 ·omega
 ·have e1:=C1.ord hK.r;have e2:=C2.ord hK.r;rw[UV (Zq e1 hF.rgt.nd),e1,e2];have:=Vg hF;unfold cn at this;rw[this]
theorem Jt(l:List Ce)(v:Value)(hp:Hp)(hK:RgC l)(hR:RdC hp v l):FnT Tryz.prog 65 #[.agg #[v]] hp [] (fun r h' ms'=>hp.le h'/\∃m A v',ms'=[m]/\r=.agg #[v']/\OwnL cC 3 52 m v' A/\A.map Ce.c=cn l/\∀a∈A,RdL cD 2 h' [] a.v a.c.sd):=by refine(Jl l v hp hK.pc.n hK.pc.s hR).mono fun r h' ms' h=>?_;obtain⟨h1,m,A,v',h2,h3,h4,h5,h6⟩:=h;exact⟨h1,m,A,v',h2,h3,h4,h5.ord hK.r,h6⟩
theorem K0(l:List Ce)(v:Value)(hp:Hp)(hK:RgC l)(hR:RdC hp v l):FnT Tryz.prog 64 #[.agg #[v]] hp [] (fun r h' ms'=>hp.le h'/\ms'=[]/\∃g A,r=.pointer (some ⟨g,0,none⟩)/\A.map Ce.c=cn l/\RdT h' g A):=by refine(Zg l v hp hK.pc.toOfOk hR).mono fun r h' ms' h=>?_;obtain⟨h1,h2,g,A,h3,h4,h5⟩:=h;have e:A.map Ce.c=cn l:=h4.ord hK.r;rw[UV (Zq e hK.F.rgt.nd)]at h5;exact⟨h1,h2,g,A,h3,e,h5⟩
theorem UY(l:List Ce)(v:Value)(i:Int)(hp:Hp)(hK:RgC l)(hi:BD i)(hR:RdC hp v l):FnT Tryz.prog 21 #[.agg #[v],.int .i64 i] hp [] (fun r h' ms'=>hp.le h'/\∃y,r=.tuple #[vC y,.bool (J7 (cn l) i).isSome]/\y.c=Gn (cn l) i/\RdL cD 2 h' [] y.v y.c.sd):=by
 have o1:=hR.q.rd.one;refine Ao func21 ntmps21 rfl rfl (fun w0 hw0=>?_);simp only[AU];refine As (AS [_] rfl rfl (by rfl) rfl rfl rfl (fun g2=>CC [.int .i64 0,.int .i64 0,.slice none 0 0] rfl AI rfl rfl (fun g4=>Qm rfl (An (BH 1 rfl fun h1 l1 hS=>?_)))));have hR:=hR.up l1;refine As (Qx (oG rfl Dt A6 (Seg.any hS)) rfl (Qc call64 rfl (K0 l v h1 hK hR) (fun rT h2 ms2 l2 hF=>?_)));obtain⟨l2',rfl,g,A,rfl,hA,gm,mMt,bst,vids,hSg,hMt,lmt,hVt,hsU⟩:=hF;have eT:∀ms,Cell h2 ms (⟨g,0,none⟩:Addr) (.map (some gm)):=fun ms=>Seg.all hSg 0 _ rfl ms;obtain⟨y,hy⟩:∃y,(Bf (Fo A) i).getD default=y:=⟨_,rfl⟩
 obtain⟨bb,hbb⟩:∃bb,(Bf (Fo A) i).isSome=bb:=⟨_,rfl⟩
 have hyR:=MZ hsU i;rw[hy]at hyR;have hbb':(J7 (cn l) i).isSome=bb:=by rw[<-hA,<-K7];exact hbb
 have hyc:y.c=Gn (cn l) i:=by rw[<-hA,<-Ht,hy]
 have oy:=hyR.rd.one;refine Qm rfl (Qf Ey rfl (Ql rfl Gb (eT _) (Qm rfl (Qx (D8 (V:=vC) (z:=(default:Ce)) i hy hbb Bi hMt lmt rfl Gb JS rfl rfl hi) rfl (Qm rfl (Qm rfl (Qm rfl (CC [.int .i64 0,.int .i64 0,.slice none 0 0] rfl AI rfl rfl (fun g6=>?_)))))))));refine Sa 0 [_,_,_] AI rfl (by simp[o1,oy]) ?_;refine Qm rfl (Bv (Qx (oG rfl Fb AI (Seg.blk 0 rfl)) rfl (Qm rfl ?_)));refine Sa 1 [_,_,_] AI rfl (by simp[o1,oy]) ?_;refine Qm rfl (An (Am ?_));exact Lw (vs:=[_,_,_]) 1 rfl rfl rfl Fb rfl AI rfl rfl (⟨AJ l1 l2,y,by rw[hbb'];rfl,hyc,hyR⟩)
end Go.Proofs.Q

namespace Go.Proofs.Q
open Go.Proofs.Tryz
open Go.Eng Go.RowKit
def cV(p:Int×Int):List Value:=[.int .i64 p.1,.int .i64 p.2]
theorem Vk:∀p,(cV p).length=2:=fun _=>rfl
theorem Aal:∀a,∀c∈cV a,c.oneCell'=true:=fun a c hc=>by simp only[cV,mem_cons,not_mem_nil,or_false]at hc;rcases hc with rfl|rfl<;>rfl
def BQ(F:List (Int×Int)):List (Int×Int):=F.foldl (fun T p=>CQ T p.1 p.2) []
theorem JM(F:List (Int×Int))(p:Int×Int):BQ (F++[p])=CQ (BQ F) p.1 p.2:=by unfold BQ;rw[foldl_append];rfl
def IS(F:List (Int×Int))(c:Int):Int:=(Bf (BQ F) c).getD 0
theorem SY(c:Int):∀F:List (Int×Int),c∈(BQ F).map Prod.fst<->c∈F.map Prod.fst:=C6 (by simp[BQ]) fun F p ih=>by rw[JM,DN,ih,map_append,mem_append];simp only[map_cons,List.map_nil,mem_singleton];exact⟨fun q=>q.symm,fun q=>q.symm⟩
theorem WW{c x:Int}:∀{F:List (Int×Int)},(F.map Prod.fst).Nodup->(c,x)∈F->IS F c=x:=fun {F}=>by
 revert F
 have:∀F:List (Int×Int),(F.map Prod.fst).Nodup->(c,x)∈F->IS F c=x:=C6 (fun _ h=>nomatch h) fun F p ih hn hm=>by
  rw[map_append,List.nodup_append]at hn;unfold IS;rw[JM,DD];rcases List.mem_append.1 hm with hm|hm
  ·have hne:c≠p.1:=fun e=>hn.2.2 c (List.mem_map.2 ⟨_,hm,rfl⟩) p.1 (by simp) e;rw[if_neg hne];exact ih hn.1 hm
  ·rw[<-List.mem_singleton.1 hm,if_pos rfl];rfl
 exact fun {F}=>this F
theorem Ju(F:List (Int×Int))(v:Value)(h:Hp)(hR:RdL cV 2 h [] v F)(hn:F.length<=1000000)(hk:∀p∈F,BD p.1):FnT Tryz.prog 66 #[v] h [] (fun r h' ms'=>h.le h'/\∃g m bs,r=.map (some g)/\ms'=[m]/\Ci kN kN g BD m (BQ F) bs):=by
 have o1:=hR.rd.one;refine Ao func66 ntmps66 rfl rfl (fun w0 hw0=>?_);simp only[AU];refine As (Qm rfl (Bv (CO (K:=kN) (V:=kN) (Ok:=BD) rfl rfl rfl rfl (fun gA mA hA0=>Qm rfl (An (Ac (As (Qm rfl (Qx (Ar hR.rd.any rfl U31 rfl) rfl (Qm rfl (An (Ae ?_))))))))))))
 refine Az (fun q sl h' ms'=>∃(i:Nat) (mA:Hp) (bs:List Nat),q=F.length-i/\sl=[(3,.map (some gA)),(7,v),(8,.int .i64 F.length),(9,.int .i64 i)]/\h.le h'/\ms'=[mA]/\i<=F.length/\Ci kN kN gA BD mA (BQ (F.take i)) bs)
  (F.length-0) _ ⟨0,mA,[],rfl,rfl,CY,rfl,by omega,hA0⟩ Qs ?_
 rintro q sl h2 ms' ⟨i,mA,bs,rfl,rfl,l2,rfl,hi,hO⟩;have hR:=hR.up l2;refine As (Qm rfl (An (Ac ?_)));refine Au rfl (fun hlt=>?_) (fun hlt=>?_)
 ·have hil:i<F.length:=by omega
  obtain⟨p,hp⟩:∃p,F[i]=p:=⟨_,rfl⟩
  have hpI:BD p.1:=hk p (by rw[<-hp];exact getElem_mem hil);have hsx:∀ms,Seg h2 ms ((AG v).add (i*2)) (cV p):=fun ms=>by rw[<-hp];exact(hR.any (ms:=ms)).seg hil
  have hs:=JM (F.take i) p;rw[<-hp,<-take_succ_eq_append_getElem hil,hp]at hs;refine Ah (Ab (Ac (Ae (As (Qx (BS (i) hR.rd.any rfl U31 Lb rfl rfl) rfl (Qx (oG rfl U47 Lb (hsx _)) rfl (CC [.int .i64 0,.int .i64 0] rfl Lb rfl rfl (fun g5=>?_))))))));refine Sa 0 [_,_] Lb rfl (by simp[Value.oneCell']) ?_;refine An (Aw fun h3 l3 hS5=>?_);have e0:∀ms,Cell h3 ms (⟨g5,0,none⟩:Addr) (.int .i64 p.1):=fun ms=>Seg.all hS5 0 _ rfl ms;have e1:∀ms,Cell h3 ms (⟨g5,1,none⟩:Addr) (.int .i64 p.2):=fun ms=>Seg.all hS5 1 _ rfl ms;refine Ad (Qm rfl (Qf JB rfl (Ql rfl U3 (e0 _) (Qf Aat rfl (Ql rfl U3 (e1 _) (BJ (V:=kN) (z:=undef) 0 p.1 p.2 Bi hO rfl rfl LV rfl rfl rfl hpI rfl rfl (fun mA' bs' hO'=>?_)))))));rw[<-hs]at hO';refine Aj (Ai (Ab (Ad (Qx (oA rfl) rfl (Qm rfl (Aj ?_))))));exact Ak (F.length-(i+1)) _ (by omega) ⟨i+1,mA',bs',rfl,rfl,AJ l2 l3,rfl,by omega,hO'⟩ Qs
 ·obtain rfl:i=F.length:=by omega
  rw[take_length]at hO;refine Av (Aa (Aa (Af (Ab (As (Qm rfl (Qm rfl (An (Am ?_)))))))));exact Ap rfl rfl (⟨l2,gA,mA,bs,rfl,rfl,hO⟩)
def M5(l:List (Int×Int))(pr:Int×Int->Bool):Int:=match l.findIdx? pr with|some k=>(k:Int)|none=>-1
theorem Ua{l:List (Int×Int)}{pr:Int×Int->Bool}{k:Nat}(hk:k<l.length)(h:pr l[k]=true)(hno:∀j (hj:j<l.length),j<k->pr l[j]=false):M5 l pr=k:=by unfold M5;have:l.findIdx? pr=some k:=List.findIdx?_eq_some_iff_getElem.2 ⟨hk,h,fun j hj=>by rw[hno j (by omega) hj];simp⟩;rw[this]
theorem Tr{l:List (Int×Int)}{pr:Int×Int->Bool}(hno:∀j (hj:j<l.length),pr l[j]=false):M5 l pr=-1:=by
 unfold M5
 have:l.findIdx? pr=none:=List.findIdx?_eq_none_iff.2 fun x hx=>by obtain⟨j,hj,rfl⟩:=getElem_of_mem hx;exact hno j hj
 rw[this]
theorem WX(l:List (Int×Int))(pr:Int×Int->Bool):0<=M5 l pr<->∃s∈l,pr s=true:=by
 unfold M5;cases h:l.findIdx? pr with
 | none=>
  rw[List.findIdx?_eq_none_iff]at h;constructor
  ·intro q;exact absurd q (by decide)
  ·rintro⟨s,hs,q⟩;rw[h s hs]at q;cases q
 | some k=>
  obtain⟨hk,h1,_⟩:=List.findIdx?_eq_some_iff_getElem.1 h;exact⟨fun _=>⟨_,getElem_mem hk,h1⟩,fun _=>by show(0:Int)<=(k:Int);omega⟩
theorem TA(l:List (Int×Int))(vl:Value)(cf:FuncId)(cs:List Value)(pr:Int×Int->Bool)(h:Hp)(hR:RdL cD 2 h [] vl l)(hn:l.length<=1000000)
  (hc:∀xs w,(callFunc cf xs).run Tryz.prog w=.ok (.enter cf xs) w)
  (hp:∀s∈l,∀ms,FnV Tryz.prog cf ([]++[Value.agg (cD s).toArray]++cs).toArray h ms (.bool (pr s))) :
  FnT Tryz.prog 138 #[vl,.func (.func cf) #[] cs.toArray] h [] (fun r _ _=>r=.int .i64 (M5 l pr)):=by
 have o1:=hR.rd.one;refine Ao func138 ntmps138 rfl rfl (fun w0 hw0=>?_);simp only[AU];refine As (Qm rfl (An (Ac (As (Qm rfl (Qx (Ar hR.rd.any rfl BL rfl) rfl (Qm rfl (An (Ae ?_)))))))))
 refine Az (fun q s h' ms'=>∃(k:Nat),q=l.length-k/\s=[(0,vl),(1,.func (.func cf) #[] cs.toArray),(7,.int .i64 l.length),(8,.int .i64 k)]/\h=h'/\ms'=[]/\k<=l.length/\∀j (hj:j<l.length),j<k->pr l[j]=false)
  (l.length-0) _ ⟨0,rfl,rfl,rfl,rfl,by omega,fun j _ hj=>by omega⟩ Qs ?_
 rintro q s h' ms' ⟨k,rfl,rfl,rfl,rfl,hk,hno⟩;refine As (Qm rfl (An (Ac ?_)));refine Au rfl (fun hlt=>?_) (fun hlt=>?_)
 ·have hkn:k<l.length:=by omega
  have hsx:∀ms,Seg h ms ((AG vl).add (k*2)) (cD l[k]):=fun ms=>(hR.any (ms:=ms)).seg hkn;refine Ah (Ab (Ac (Ae (As (Qm rfl (Qm rfl (Bv (Qm rfl (Qm rfl (Qm rfl (Qx (BS (k) hR.rd.any rfl BL AH rfl rfl) rfl (Qx (oG rfl DJ AH (hsx _)) rfl (Qx (BX rfl rfl hc rfl (hp _ (getElem_mem hkn) _)) rfl (An ?_))))))))))))));refine Bq rfl (fun hpk=>?_) (fun hpk=>?_)
  ·refine Ac (Ad (Qm rfl (Qm rfl (An (Am (Al (Ag (Ag (Al (Ag ?_))))))))));exact Ap rfl rfl (by rw[Ua hkn hpk hno])
  ·refine Ah (Ai (Ab (Ad (Qx (oA rfl) rfl (Qm rfl (Aj ?_))))));refine Ak (l.length-(k+1)) _ (by omega) ⟨k+1,rfl,rfl,rfl,rfl,by omega,fun j hj hjk=>?_⟩ Qs;rcases (by omega:j<k\/j=k) with h2|rfl
   ·exact hno j hj h2
   ·exact hpk
 ·obtain rfl:k=l.length:=by omega
  refine Av (Aa (Aa (Af (Ab (As (Qm rfl (An (Am ?_))))))));exact Ap rfl rfl (by rw[Tr fun j hj=>hno j hj hj])
theorem MK(l:List (Int×Int))(vl:Value)(cf:FuncId)(cs:List Value)(pr:Int×Int->Bool)(h:Hp)(hR:RdL cD 2 h [] vl l)(hn:l.length<=1000000)
  (hc:∀xs w,(callFunc cf xs).run Tryz.prog w=.ok (.enter cf xs) w)
  (hp:∀s∈l,∀ms,FnV Tryz.prog cf ([]++[Value.agg (cD s).toArray]++cs).toArray h ms (.bool (pr s))) (ms:List Hp) :
  FnV Tryz.prog 67 #[vl,.func (.func cf) #[] cs.toArray] h ms (.bool (decide (0<=M5 l pr))):=by
 refine F6 ?_ ms;refine Ao func67 ntmps67 rfl rfl (fun w0 hw0=>?_);simp only[AU];refine As (Qm rfl (Bv (Qm rfl (Qm rfl (Qx (AF rfl call138 rfl (F6 (TA l vl cf cs pr h hR hn hc hp) _)) rfl (Qm rfl (Qm rfl (An (Am ?_)))))))));exact Ap rfl rfl (rfl)
theorem V2(F:List (Int×Int))(s:Int×Int)(i:Int)(g1 g2 gA:Nat)(mA:Hp)(bs:List Nat)(h:Hp)(hO:Ci kN kN gA BD mA (BQ F) bs)(lA:mA.le h)(h1:∀ms,Cell h ms (⟨g1,0,none⟩:Addr) (.map (some gA)))(h2:∀ms,Cell h ms (⟨g2,0,none⟩:Addr) (.int .i64 i))(hi:BD i)(hs:BD s.1)(ms:List Hp) :
  FnV Tryz.prog 68 ([]++[Value.agg (cD s).toArray]++[Value.pointer (some ⟨g1,0,none⟩),.pointer (some ⟨g2,0,none⟩)]).toArray h ms (.bool (decide (IS F s.1>IS F i))):=by
 refine F6 ?_ ms;show FnT _ _ #[.agg #[.int .i64 s.1,.int .i64 s.2],.pointer (some ⟨g1,0,none⟩),.pointer (some ⟨g2,0,none⟩)] _ _ _;refine Ao func68 ntmps68 rfl rfl (fun w0 hw0=>?_);simp only[AU];refine As (AS [_,_] rfl rfl (by rfl) rfl rfl rfl (fun g3=>Qm rfl (An (Aw fun h3 l3 hS=>?_))));have e0:∀ms,Cell h3 ms (⟨g3,0,none⟩:Addr) (.int .i64 s.1):=fun ms=>Seg.all hS 0 _ rfl ms;have h1:∀ms,Cell h3 ms (⟨g1,0,none⟩:Addr) (.map (some gA)):=fun ms=>(h1 ms).le l3;have h2:∀ms,Cell h3 ms (⟨g2,0,none⟩:Addr) (.int .i64 i):=fun ms=>(h2 ms).le l3;refine As (Ql rfl LV (h1 _) (Qf B4 rfl (Ql rfl U3 (e0 _) (Qx (Cb (V:=kN) (z:=(0:Int)) (u:=IS F s.1) s.1 rfl Bi hO (AJ lA l3) rfl LV HZ rfl rfl hs) rfl (Ql rfl LV (h1 _) (Qf Bz rfl (Ql rfl U3 (h2 _) (Qx (Cb (V:=kN) (z:=(0:Int)) (u:=IS F i) i rfl Bi hO (AJ lA l3) rfl LV HZ rfl rfl hi) rfl (Qm rfl (Qm rfl (An (Am ?_))))))))))));exact Ap rfl rfl (rfl)
variable {o:List Cl} {F:List (Int×Int)} {i:Nat} {e:Int×Int}
def fA(o:List Cl)(F:List (Int×Int))(i:Nat):Option (Int×Int):=
 if(J7 o (F.getD i (0,0)).1).isSome=false then some ((F.getD i (0,0)).1,30)
 else if(F.getD i (0,0)).1∈(F.take i).map Prod.fst then some ((F.getD i (0,0)).1,54) else none
def fB(o:List Cl)(F:List (Int×Int))(i:Nat):Option (Int×Int):=
 if(o.getD i default).id ∉ F.map Prod.fst then some ((o.getD i default).id,30) else none
def upS(o:List Cl)(F:List (Int×Int))(i:Nat):Prop:=∃s∈(o.getD i default).sd,IS F s.1>IS F (o.getD i default).id
instance (o:List Cl) (F:List (Int×Int)) (i:Nat):Decidable (upS o F i):=by unfold upS;infer_instance
def fC(o:List Cl)(F:List (Int×Int))(i:Nat):Option (Int×Int):=
 if upS o F i then some ((o.getD i default).id,44) else none
def HM(o:List Cl)(F:List (Int×Int)):Int×Int:=
 match (range F.length).findSome? (fA o F) with
 | some e=>e
 | none=>match (range o.length).findSome? (fB o F) with
  | some e=>e
  | none=>match (range o.length).findSome? (fC o F) with
   | some e=>e
   | none=>(0,0)
theorem Vo(hi:i<F.length)(h:∀j,j<i->fA o F j=none)(he:fA o F i=some e):HM o F=e:=by unfold HM;rw[DA h he F.length hi]
theorem Aaa(hA:∀j,j<F.length->fA o F j=none)(hi:i<o.length)(h:∀j,j<i->fB o F j=none)(he:fB o F i=some e):HM o F=e:=by unfold HM;rw[Cz F.length hA,DA h he o.length hi]
theorem Z1(hA:∀j,j<F.length->fA o F j=none)(hB:∀j,j<o.length->fB o F j=none)(hi:i<o.length)(h:∀j,j<i->fC o F j=none)(he:fC o F i=some e):HM o F=e:=by unfold HM;rw[Cz F.length hA,Cz o.length hB,DA h he o.length hi]
theorem Uw(hA:∀j,j<F.length->fA o F j=none)(hB:∀j,j<o.length->fB o F j=none)(hC:∀j,j<o.length->fC o F j=none):HM o F=(0,0):=by unfold HM;rw[Cz F.length hA,Cz o.length hB,Cz o.length hC]
structure QI(F:List (Int×Int)):Prop where
 n:F.length<=1000000
 k:∀p∈F,BD p.1
theorem JF(l:List Ce)(F:List (Int×Int))(v vf:Value)(hp:Hp)(hK:RgC l)(hR:RdC hp v l)(hF:RdL cV 2 hp [] vf F)(hV:QI F):FnT Tryz.prog 24 #[.agg #[v],vf] hp [] (fun r _ _=>r=.tuple #[.int .i64 (HM (cn l) F).1,.int .i64 (HM (cn l) F).2]):=by
 have o1:=hR.q.rd.one;have o2:=hF.rd.one;have hG:=hK.F.rgt;have hFn:=hV.n;have hln:l.length<=4000:=by have:=hG.n;rwa [Ej]at this
 refine Ao func24 ntmps24 rfl rfl (fun w0 hw0=>?_);simp only[AU];refine As (AS [_] rfl rfl (by rfl) rfl rfl rfl (fun g2=>Qm rfl (Qm rfl (An (Aw fun h1 l1 hS=>?_)))));have hR:=hR.up l1;have hF:=hF.up l1;refine Ac (As (Qx (oG rfl Dt A6 (Seg.any hS)) rfl (Qx (AF rfl call28 rfl (F6 (Mn l v h1 hK hR) _)) rfl (Qm rfl (Qm rfl (Qm rfl (Qm rfl (Qm rfl (Bv (Qm rfl (Qm rfl (An (Au rfl (fun hc=>absurd hc (fun h=>h rfl)) (fun hc=>Ah (Ab (As (CO (K:=kN) (V:=vB) (Ok:=BD) rfl rfl rfl rfl (fun gS mS hS0=>Qm rfl (An ?_)))))))))))))))))));refine A3 (fun sl h' ms'=>∃(mS:Hp) (TS:List (Int×Bool)) (bs:List Nat),sl=[(1,vf),(2,.pointer (some ⟨g2,0,none⟩)),(8,.map (some gS))]/\h1.le h'/\ms'=[mS]/\Ci kN vB gS BD mS TS bs/\J9 TS/\(∀x,x∈DB TS<->x∈F.map Prod.fst)/\∀j,j<F.length->fA (cn l) F j=none) ?_ (fun s h ms hI=>?_)
 ·refine Ac (Ad (Qm rfl (Qx (Ar hF.rd.any rfl U31 rfl) rfl (Qm rfl (An (Ae ?_))))))
  refine Az (fun q sl h' ms'=>∃(i:Nat) (mS:Hp) (TS:List (Int×Bool)) (bs:List Nat),q=F.length-i/\sl=[(1,vf),(2,.pointer (some ⟨g2,0,none⟩)),(8,.map (some gS)),(29,vf),(30,.int .i64 F.length),(31,.int .i64 i)]/\h1.le h'/\ms'=[mS]/\i<=F.length/\Ci kN vB gS BD mS TS bs/\J9 TS/\(∀x,x∈DB TS<->x∈(F.take i).map Prod.fst)/\∀j,j<i->fA (cn l) F j=none)
   (F.length-0) _ ⟨0,mS,[],[],rfl,rfl,CY,rfl,by omega,hS0,fun p hp=>(nomatch hp),fun x=>by simp,fun j h=>by omega⟩ Qs ?_
  rintro q sl h2 ms' ⟨i,mS,TS,bs,rfl,rfl,l2,rfl,hi,hO,hA,hk,hno⟩;have hF:=hF.up l2;refine As (Qm rfl (An (Ac ?_)));refine Au rfl (fun hlt=>?_) (fun hlt=>?_)
  ·have hil:i<F.length:=by omega
   obtain⟨p,hp⟩:∃p,F[i]=p:=⟨_,rfl⟩
   have hgp:F.getD i (0,0)=p:=by simp[List.getD,hil,hp]
   have hpI:BD p.1:=hV.k p (by rw[<-hp];exact getElem_mem hil);have hsx:∀ms,Seg h2 ms ((AG vf).add (i*2)) (cV p):=fun ms=>by rw[<-hp];exact(hF.any (ms:=ms)).seg hil
   have hS2:=hS.le l2;refine Ah (Ab (Ac (Ae (As (Qx (BS (i) hF.rd.any rfl U31 Lb rfl rfl) rfl (Qx (oG rfl U47 Lb (hsx _)) rfl (CC [.int .i64 0,.int .i64 0] rfl Lb rfl rfl (fun g10=>?_))))))));refine Sa 0 [_,_] Lb rfl (by simp[Value.oneCell']) ?_;refine An (Aw fun h3 l3 hS10=>?_);have e0:∀ms,Cell h3 ms (⟨g10,0,none⟩:Addr) (.int .i64 p.1):=fun ms=>Seg.all hS10 0 _ rfl ms;have hS3:=hS2.le l3;have l13:=AJ l2 l3;refine Ac (As (Qx (oG rfl Dt A6 (Seg.any hS3)) rfl (Qf JB rfl (Ql rfl U3 (e0 _) (Qc call21 rfl (UY l v p.1 h3 hK hpI (hR.up l13)) (fun rF h4 ms4 l4 hQ=>?_))))));obtain⟨l4',y,rfl,hyc,hyR⟩:=hQ;refine Gy ?_ ms4;have oy:=hyR.rd.one;have e0:∀ms,Cell h4 ms (⟨g10,0,none⟩:Addr) (.int .i64 p.1):=fun ms=>(e0 ms).le l4;have l14:=AJ l13 l4;obtain⟨bb,hbb⟩:∃bb,(J7 (cn l) p.1).isSome=bb:=⟨_,rfl⟩
   rw[hbb];refine Qm rfl (Qm rfl (Qm rfl (CC [.int .i64 0,.int .i64 0,.slice none 0 0] rfl AI rfl rfl (fun g11=>?_))));refine Sa 0 [_,_,_] AI rfl (by simp[o1,o2,oy]) ?_;refine Qm rfl (Bv (Qm rfl (Qm rfl (An ?_))));refine Bq rfl (fun hn=>?_) (fun hn=>?_)
   ·have hbf:bb=false:=by cases bb<;>simp at hn ⊢
    have hch:=Vo (o:=cn l) hil hno (by unfold fA;rw[hgp,hbb,if_pos hbf]);refine As (Qf JB rfl (Ql rfl U3 (e0 _) (Qm rfl (Qm rfl (An (Am (Ag (Al (Ag (Ag (Al (Ag ?_))))))))))));exact BC rfl rfl rfl (by rw[hch])
   ·have hbt:¬bb=false:=by cases bb<;>simp at hn ⊢
    refine Ah (Ab (Ac (As (Qm rfl (Qf JB rfl (Ql rfl U3 (e0 _) (Qx (F3 (V:=vB) (z:=false) p.1 Bi hO (by simp) rfl PK Sw rfl rfl hpI) rfl ?_)))))));rw[Ja hA];refine An ?_;refine Bq rfl (fun hin=>?_) (fun hin=>?_)
    ·have him:p.1∈DB TS:=of_decide_eq_true hin;have hch:=Vo (o:=cn l) hil hno (by unfold fA;rw[hgp,hbb,if_neg hbt,if_pos ((hk _).1 him)]);refine As (Qf JB rfl (Ql rfl U3 (e0 _) (Qm rfl (Qm rfl (An (Am (Ag (Al (Ag (Ag (Al (Ag ?_))))))))))));exact BC rfl rfl rfl (by rw[hch])
    ·have him:p.1 ∉ DB TS:=fun q=>by rw[decide_eq_true q]at hin;cases hin
     have hci:fA (cn l) F i=none:=by unfold fA;rw[hgp,hbb,if_neg hbt,if_neg fun q=>him ((hk _).2 q)]
     have hk':∀x,x∈DB (CQ TS p.1 true)<->x∈(F.take (i+1)).map Prod.fst:=fun x=>by rw[take_succ_eq_append_getElem hil,hp,map_append,mem_append,map_cons,List.map_nil,mem_singleton,<-hk x,DN];exact⟨fun q=>q.symm,fun q=>q.symm⟩
     refine Ah (Ab (Ad (Qm rfl (Qf JB rfl (Ql rfl U3 (e0 _) (BJ (V:=vB) (z:=undef) 1 p.1 true Bi hO rfl rfl PK rfl rfl rfl hpI rfl rfl (fun mS' bs' hO'=>Aj (Ai (Ab (Ad (Qx (oA rfl) rfl (Qm rfl (Aj (AN ?_))))))))))))))
     exact Ak (F.length-(i+1)) _ (by omega) ⟨i+1,mS',_,bs',rfl,rfl,AJ l13 l4,rfl,by omega,hO',Lc hA p.1,hk',fun j hj=>by
      rcases (by omega:j<i\/j=i) with h1|rfl
      ·exact hno j h1
      ·exact hci⟩ Qs
  ·obtain rfl:i=F.length:=by omega
   rw[take_length]at hk;refine Av (Aa (Aa (Af ?_)));exact AA _ ⟨mS,TS,bs,rfl,l2,rfl,hO,hA,hk,hno⟩ Qs
 ·obtain⟨mS,TS,bs,rfl,l2,rfl,hO,hA,hk,hno⟩:=hI;have hR:=hR.up l2;have hF:=hF.up l2;have hS2:=hS.le l2;refine As (Qx (oG rfl Dt A6 (Seg.any hS2)) rfl (Qc call65 rfl (Jt l v _ hK hR) (fun rC h3 ms3 l3 hQ=>?_)));obtain⟨l3',mA,A,vA,rfl,rfl,hOA,hAl,hsA⟩:=hQ;refine A4 hOA fun hq l4 hQ=>?_;have hsA:=fun a ha=>(hsA a ha).up l4;have hF:=hF.up (AJ l3 l4);have ovA:=hQ.rd.one;have hol:(cn l).length=A.length:=by rw[<-hAl,length_map]
  have hAn:A.length<=4000:=by rw[<-hol,Ej];exact hln
  have hget:∀i (hi:i<A.length),(cn l).getD i default=A[i].c:=fun i hi=>by rw[<-hAl];simp[List.getD,hi]
  have hpos:=hG.pos;obtain⟨o,ho⟩:∃o,cn l=o:=⟨_,rfl⟩
  have hAI:∀a∈A,BD a.c.id:=fun a ha=>by
   have h1:a.c∈cn l:=by rw[<-hAl];exact List.mem_map.2 ⟨a,ha,rfl⟩
   have h2:=hpos _ h1;have h3:=hK.ci h1;unfold BD;omega
  have hAs:∀a∈A,a.c.sd.length<=64/\∀s∈a.c.sd,BD s.1:=fun a ha=>by
   have h1:a.c∈cn l:=by rw[<-hAl];exact List.mem_map.2 ⟨a,ha,rfl⟩
   refine⟨(hK.F.bds h1).2.1,fun s hs=>?_⟩;obtain⟨y,hy,e,_⟩:=hG.sid _ h1 s hs;have h2:=hpos _ hy;have h3:=hK.ci hy;rw[<-e];unfold BD;omega
  rw[ho]at hol hno hget ⊢;refine Qx (Em rfl Dt rfl Bs rfl rfl rfl) rfl (Qm rfl (An ?_));refine A3 (fun sl h' ms'=>∃(mS:Hp),sl=[(1,vf),(13,vA)]/\hq.le h'/\ms'=[mS]/\∀j,j<A.length->fB o F j=none) ?_ (fun s h ms hI=>?_)
  ·refine Ac (Ad (Qm rfl (Qx (Ar hQ.rd.any rfl Bs rfl) rfl (Qm rfl (An (Ae ?_))))))
   refine Az (fun q sl h' ms'=>∃(i:Nat),q=A.length-i/\sl=[(1,vf),(8,.map (some gS)),(13,vA),(59,vA),(60,.int .i64 A.length),(61,.int .i64 i)]/\hq.le h'/\ms'=[mS]/\i<=A.length/\∀j,j<i->fB o F j=none)
    (A.length-0) _ ⟨0,rfl,rfl,CY,rfl,by omega,fun j h=>by omega⟩ Qs ?_
   rintro q sl h5 ms' ⟨i,rfl,rfl,l5,rfl,hi,hnB⟩;have hQ:=hQ.up l5;refine As (Qm rfl (An (Ac ?_)));refine Au rfl (fun hlt=>?_) (fun hlt=>?_)
   ·have hil:i<A.length:=by omega
    obtain⟨x,hx⟩:∃x,A[i]=x:=⟨_,rfl⟩
    have hxm:x∈A:=by rw[<-hx];exact getElem_mem hil
    have hgx:=hget i hil;rw[hx]at hgx;have hX:=(hsA x hxm).up l5;have oxv:=hX.rd.one;have hxI:=hAI x hxm;have hsx:∀ms,Seg h5 ms ((AG vA).add (i*3)) (cC x):=fun ms=>by rw[<-hx];exact(hQ.any (ms:=ms)).seg hil
    refine Ah (Ab (Ac (Ae (As (Qx (BS (i) hQ.rd.any rfl Bs AI rfl rfl) rfl (Qx (oG rfl Fb AI (hsx _)) rfl (CC [.int .i64 0,.int .i64 0,.slice none 0 0] rfl AI rfl rfl (fun g15=>?_))))))));refine Sa 0 [_,_,_] AI rfl (by simp[o1,o2,ovA,oxv]) ?_;refine An (Aw fun h6 l6 hS8=>?_);have e80:∀ms,Cell h6 ms (⟨g15,0,none⟩:Addr) (.int .i64 x.c.id):=fun ms=>Seg.all hS8 0 _ rfl ms;refine As (Qm rfl (Qf Bz rfl (Ql rfl U3 (e80 _) (Qx (F3 (V:=vB) (z:=false) x.c.id Bi hO (by simp) rfl PK Sw rfl rfl hxI) rfl ?_))));rw[Ja hA];refine Qm rfl (An ?_);refine Bq rfl (fun hin=>?_) (fun hin=>?_)
    ·have hni:x.c.id ∉ F.map Prod.fst:=fun q=>by rw[decide_eq_true ((hk _).2 q)]at hin;cases hin
     have hch:=Aaa (o:=o) (F:=F) hno (by rw[hol];exact hil) hnB (by unfold fB;rw[hgx,if_pos hni]);refine As (Qf Bz rfl (Ql rfl U3 (e80 _) (Qm rfl (Qm rfl (An (Am (Al (Ag (Ag (Al (Ag ?_)))))))))));exact BC rfl rfl rfl (by rw[hch])
    ·have hni:x.c.id∈F.map Prod.fst:=Classical.byContradiction fun q=>by rw[decide_eq_false fun w=>q ((hk _).1 w)]at hin;cases hin
     have hci:fB o F i=none:=by unfold fB;rw[hgx,if_neg fun q=>q hni]
     refine Ah (Ai (Ab (Ad (Qx (oA rfl) rfl (Qm rfl (Aj ?_))))))
     exact Ak (A.length-(i+1)) _ (by omega) ⟨i+1,rfl,rfl,AJ l5 l6,rfl,by omega,fun j hj=>by
      rcases (by omega:j<i\/j=i) with h1|rfl
      ·exact hnB j h1
      ·exact hci⟩ Qs
   ·obtain rfl:i=A.length:=by omega
    refine Av (Aa (Aa (Af ?_)));exact AA _ ⟨mS,rfl,l5,rfl,hnB⟩ Qs
  ·obtain⟨mS,rfl,l5,rfl,hnB⟩:=hI;have hQ:=hQ.up l5;have hF:=hF.up l5;have hsA:=fun a ha=>(hsA a ha).up l5;refine As (Qm rfl (Qc call66 rfl (Ju F vf _ hF hV.n hV.k) (fun rL h6 ms6 l6 hL=>?_)));obtain⟨l6',gL,mL,bL,rfl,rfl,hOL⟩:=hL;refine CC [.map none] rfl X5 rfl rfl (fun g16=>AK 0 0 rfl X5 rfl rfl (by rfl) rfl rfl (by decide) rfl rfl (An (Aw fun h7 l7 hS7=>(BE fun h8 l8 k8=>?_))));have e16:∀ms,Cell h8 ms (⟨g16,0,none⟩:Addr) (.map (some gL)):=fun ms=>(Seg.all hS7 0 _ rfl ms).le l8;have l58:=AJ l6 (AJ l7 l8);have hQ:=hQ.up l58;have hsA:=fun a ha=>(hsA a ha).up l58;refine Ac (As (Qm rfl (Qx (Ar hQ.rd.any rfl Bs rfl) rfl (Qm rfl (An (Ae ?_))))))
   refine Az (fun q sl h' ms'=>∃(i:Nat),q=A.length-i/\sl=[(16,.pointer (some ⟨g16,0,none⟩)),(75,vA),(76,.int .i64 A.length),(77,.int .i64 i)]/\h8.le h'/\ms'=[mS]/\i<=A.length/\∀j,j<i->fC o F j=none)
    (A.length-0) _ ⟨0,rfl,rfl,CY,rfl,by omega,fun j h=>by omega⟩ Qs ?_
   rintro q sl h9 ms' ⟨i,rfl,rfl,l9,rfl,hi,hnC⟩;have hQ:=hQ.up l9;have e16:∀ms,Cell h9 ms (⟨g16,0,none⟩:Addr) (.map (some gL)):=fun ms=>(e16 ms).le l9;have k9:=AJ k8 l9;refine As (Qm rfl (An (Ac ?_)));refine Au rfl (fun hlt=>?_) (fun hlt=>?_)
   ·have hil:i<A.length:=by omega
    obtain⟨x,hx⟩:∃x,A[i]=x:=⟨_,rfl⟩
    have hxm:x∈A:=by rw[<-hx];exact getElem_mem hil
    have hgx:=hget i hil;rw[hx]at hgx;have hX:=(hsA x hxm).up l9;have oxv:=hX.rd.one;have hxI:=hAI x hxm;obtain⟨hxn,hxs⟩:=hAs x hxm;have hsx:∀ms,Seg h9 ms ((AG vA).add (i*3)) (cC x):=fun ms=>by rw[<-hx];exact(hQ.any (ms:=ms)).seg hil
    refine Ah (Ab (Ac (Ae (As (Qx (BS (i) hQ.rd.any rfl Bs AI rfl rfl) rfl (Qx (oG rfl Fb AI (hsx _)) rfl (CC [.int .i64 0,.int .i64 0,.slice none 0 0] rfl AI rfl rfl (fun g18=>?_))))))));refine Sa 0 [_,_,_] AI rfl (by simp[o1,o2,ovA,oxv]) ?_;refine An (Aw fun h10 l10 hS10=>?_);have e10:∀ms,Cell h10 ms (⟨g18,0,none⟩:Addr) (.int .i64 x.c.id):=fun ms=>Seg.all hS10 0 _ rfl ms;have e12:∀ms,Cell h10 ms (⟨g18,2,none⟩:Addr) x.v:=fun ms=>Seg.all hS10 2 _ rfl ms;have hX:=hX.up l10;have hct:=fun ms=>MK x.c.sd x.v 68 [Value.pointer (some ⟨g16,0,none⟩),.pointer (some ⟨g18,0,none⟩)] (fun s=>decide (IS F s.1>IS F x.c.id)) h10 hX (by omega) (fun _ _=>rfl) (fun s hs ms=>V2 F s x.c.id g16 g18 gL mL bL h10 hOL (AJ k9 l10) (fun ms=>(e16 ms).le l10) e10 hxI (hxs s hs) ms) ms;obtain⟨bb,hbb⟩:∃bb,decide (0<=M5 x.c.sd fun s=>decide (IS F s.1>IS F x.c.id))=bb:=⟨_,rfl⟩
    have hub:bb=true<->upS o F i:=by rw[<-hbb,decide_eq_true_iff,WX];unfold upS;rw[hgx];exact⟨fun⟨s,h1,h2⟩=>⟨s,h1,of_decide_eq_true h2⟩,fun⟨s,h1,h2⟩=>⟨s,h1,decide_eq_true h2⟩⟩
    rw[hbb]at hct;refine As (Qf Bu rfl (Ql rfl BL (e12 _) (Qx (Bk rfl rfl rfl) rfl (Qx (AF rfl call67 rfl (hct _)) rfl (An ?_)))));refine Bq rfl (fun hin=>?_) (fun hin=>?_)
    ·have hch:=Z1 (o:=o) (F:=F) hno (by rw[hol];exact hnB) (by rw[hol];exact hil) hnC (by unfold fC;rw[hgx,if_pos (hub.1 hin)]);refine As (Qf Bz rfl (Ql rfl U3 (e10 _) (Qm rfl (Qm rfl (An (Am (Al (Ag (Ag (Al (Ag ?_)))))))))));exact BC rfl rfl rfl (by rw[hch])
    ·have hci:fC o F i=none:=by unfold fC;rw[if_neg fun q=>by rw[hub.2 q]at hin;cases hin]
     refine Ah (Ai (Ab (Ad (Qx (oA rfl) rfl (Qm rfl (Aj ?_))))))
     exact Ak (A.length-(i+1)) _ (by omega) ⟨i+1,rfl,rfl,AJ l9 l10,rfl,by omega,fun j hj=>by
      rcases (by omega:j<i\/j=i) with h1|rfl
      ·exact hnC j h1
      ·exact hci⟩ Qs
   ·obtain rfl:i=A.length:=by omega
    have hch:=Uw (o:=o) (F:=F) hno (by rw[hol];exact hnB) (by rw[hol];exact hnC);refine Av (Aa (Aa (Af (Ab (As (Qm rfl (Qm rfl (An (Am ?_)))))))));exact BC rfl rfl rfl (by rw[hch])
end Go.Proofs.Q
namespace Go.Proofs.Q
open Go.Proofs.Tryz
open Go.Eng Go.RowKit Go.Lin
variable {p:Int}
def IsP(p:Int):Prop:=2<=p/\p<=997/\∀k,k<p.toNat->2<=k->p.toNat%k≠0
instance (p:Int):Decidable (IsP p):=by unfold IsP;infer_instance
theorem IsP.prm(h:IsP p):Prm p.toNat:=by obtain⟨h1,h2,h3⟩:=h;refine IU (by omega) fun k hk hkk=>h3 k ?_ hk;have:2*k<=k*k:=Nat.mul_le_mul_right k hk;omega
theorem IsP.fld(h:IsP p):EC p:=by
 have:=h.prm.fld
 rwa [Int.toNat_of_nonneg (by have:=h.1;omega)]at this
theorem MR(h2:2<=p)(h9:p<=997)(j:Nat)(hj:p<(j:Int)*j)(h:∀k,2<=k->k<j->p.toNat%k≠0):IsP p:=by
 refine⟨h2,h9,fun k hk h2k he=>?_⟩
 have hp:Prm p.toNat:=by
  refine IU (by omega) fun k hk hkk=>h k hk (Nat.lt_of_not_le fun hle=>?_);have h1:j*j<=k*k:=Nat.mul_le_mul hle hle;have h2:((j*j:Nat):Int)=(j:Int)*j:=by simp
  omega
 rcases hp.2 k (Nat.dvd_of_mod_eq_zero he) with h|h<;>omega
theorem Yw(hp:0<=p)(k:Nat)(hk:0<k):p%(k:Int)=((p.toNat%k:Nat):Int):=by rw[Int.natCast_emod,Int.toNat_of_nonneg hp]
theorem VV(p:Int)(h:Hp)(hI:BD p):FnT Tryz.prog 54 #[.int .i64 p] h [] (fun r _ _=>r=.bool (decide (IsP p))):=by
 have hI1:=hI.1;have hI2:=hI.2;refine Ao func54 ntmps54 rfl rfl (fun w0 hw0=>?_);simp only[AU];refine As (Qm rfl (An (Ac (As (Qm rfl (Qm rfl (Qm rfl ?_)))))));refine AO (t:=6) rfl (fun hs=>?_) (fun hs=>?_)
 ·refine Qk rfl (Qk rfl (Qm rfl (An (Bn rfl (As (Qm rfl (An (Am (Ag ?_)))))))));exact Ap rfl rfl (by rw[decide_eq_false];exact fun h=>absurd h.1 (by omega))
 ·refine Qg (Ay rfl rfl) rfl (Qg (Cc rfl rfl rfl) rfl (Qm rfl (An ?_)));refine Au rfl (fun hs2=>?_) (fun hs2=>?_)
  ·refine Ac (Ad (Qm rfl (An (Am (Ag ?_)))));exact Ap rfl rfl (by rw[decide_eq_false];exact fun h=>absurd h.2.1 (by omega))
  ·refine Ah (Ab (Ac (As (Qm rfl (An (Ae ?_))))))
   refine Az (fun n s h' ms'=>∃(k:Nat),n=1000-k/\s=[(0,.int .i64 p),(3,.int .i64 k)]/\h=h'/\ms'=[]/\2<=k/\k<=1000/\∀j,2<=j->j<k->p.toNat%j≠0)
    (1000-2) _ ⟨2,rfl,rfl,rfl,rfl,by omega,by omega,fun j h1 h2=>by omega⟩ Qs ?_
   rintro n s h' ms' ⟨k,rfl,rfl,rfl,rfl,h2,hk,hno⟩
   have hkk:(k:Int)*k<=1000*1000:=by
    have h1:k*k<=1000*1000:=Nat.mul_le_mul hk hk;have h2:((k*k:Nat):Int)=(k:Int)*k:=by simp
    omega
   have hkk0:0<=(k:Int)*k:=Int.mul_nonneg (by omega) (by omega);have hk4:2*(k:Int)<=(k:Int)*k:=Int.mul_le_mul_of_nonneg_right (by omega) (by omega);refine Ac (As (Qm rfl (Qm rfl (Qx (oM rfl) rfl (Qm rfl (Qm rfl (An ?_)))))));refine Au rfl (fun hlt=>?_) (fun hlt=>?_)
   ·refine Ah (Ab (Ac (Ae (As (Qm rfl (Qm rfl (Qx (BV rfl rfl rfl (by omega) (by omega)) rfl (Qm rfl (An ?_)))))))));have hm:=Yw (p:=p) (by omega) k (by omega);refine Au rfl (fun hz=>?_) (fun hz=>?_)
    ·refine Ac (Ad (Qm rfl (An (Am (Al (Ag (Ag (Al (Ag ?_)))))))));exact Ap rfl rfl (by rw[decide_eq_false];exact fun h=>absurd (show p.toNat%k=0 by omega) (h.2.2 k (by omega) h2))
    ·refine Ah (Ai (Ab (Ad (Qm rfl (Qx (oA rfl) rfl (Qm rfl (Aj ?_)))))));refine Ak (1000-(k+1)) _ (by omega) ⟨k+1,rfl,rfl,rfl,rfl,by omega,by omega,fun j h1 h3=>?_⟩ Qs;rcases (by omega:j<k\/j=k) with h4|h4
     ·exact hno j h1 h4
     ·subst h4;omega
   ·refine Av (Aa (Aa (Af (Ab (As (Qm rfl (An (Am ?_))))))));exact Ap rfl rfl (by rw[decide_eq_true];exact MR (by omega) (by omega) k (by omega) hno)
theorem NA(p:Int)(h:Hp)(hI:BD p)(ms:List Hp):FnV Tryz.prog 54 #[.int .i64 p] h ms (.bool (decide (IsP p))):=by refine fun w hw=>(?_:FnV _ _ _ h [] _) w (hw.weaken (CY) (List.nil_sublist _));exact FnT.toV (VV p h hI)
def IsLast(l:List Int)(r:Int):Prop:=(∃(i:Nat) (hi:i<l.length),r=i/\l[i]≠0/\∀j (hj:j<l.length),i<j->l[j]=0)\/(r=-1/\∀j (hj:j<l.length),l[j]=0)
def Zt(l:List Int)(k:Nat):List Value:=[.int .i64 ((l.length:Int)-1-k),.int .i64 (l.getD (l.length-1-k) 0)]
theorem Vv(g:Nat)(v:Value)(l:List Int)(h:Hp)(hG:Seg h [] ⟨g,0,none⟩ [v])(hR:RdL cI 1 h [] v l)(hn2:l.length<=1000000):ZN Tryz.prog 203 [.pointer (some ⟨g,0,none⟩)] h l.length (Zt l):=by
 intro lp X Y h1 ms hl hY h0;show FnT _ _ #[.func (.yield lp) #[] #[],.pointer (some ⟨g,0,none⟩)] _ _ _;have hG:=hG.le hl;have hR:=hR.up hl;obtain⟨n,hn⟩:∃n,l.length=n:=⟨_,rfl⟩
 rw[hn]at hn2 hY;refine Ao func203 ntmps203 rfl rfl (fun w0 hw0=>?_);simp only[AU];refine Ac (C4 (Dh (oL rfl AY ((hG.at0 rfl).any)) rfl rfl rfl (Dh (Ar hR.rd.any rfl AY rfl) rfl rfl rfl (Dh (oS rfl) rfl rfl rfl (Dh (F1 rfl rfl) rfl rfl rfl (Fh (Ab (Ae ?_))))))))
 refine Az (fun q s hh ms'=>∃(k:Nat),q=n-k/\s=[(0,.func (.yield lp) #[] #[]),(1,.pointer (some ⟨g,0,none⟩)),(3,.int .i64 ((n:Int)-1-k))]/\h1.le hh/\k<=n/\X k hh ms')
  (n-0) [(0,.func (.yield lp) #[] #[]),(1,.pointer (some ⟨g,0,none⟩)),(3,.int .i64 ((l.length:Int)-1))] ⟨0,rfl,by rw[hn,show((n:Int)-1-(0:Nat))=(n:Int)-1 by omega],CY,by omega,h0⟩ Qs ?_
 rintro q s hh ms' ⟨k,rfl,rfl,lh,hk,hX⟩;refine Ac (Ac (C4 (Dh (Ay rfl rfl) rfl rfl rfl (Dh (Ky rfl rfl rfl) rfl rfl rfl (Fh (Ab ?_))))));refine Au rfl (fun hlt=>?_) (fun hlt=>?_)
 ·have hkn:k<n:=by omega
  have hG2:=hG.le lh;have hR2:=hR.up lh;have hi:n-1-k<l.length:=by omega
  have hc:∀ms,Cell hh ms ((AG v).add ((n-1-k)*1)) (.int .i64 (l.getD (n-1-k) 0)):=fun ms=>by rw[show l.getD (n-1-k) 0=l[n-1-k] by simp[List.getD,hi]];exact(hR2.any (ms:=ms)).cell0 hi rfl
  refine Ah (Ab (Ac (Ae (Ac (C4 (Dh (Ay rfl rfl) rfl rfl rfl (Dh (Ay rfl rfl) rfl rfl rfl (Dh (oL rfl AY ((hG2.at0 rfl).any)) rfl rfl rfl (Dh (Ay rfl rfl) rfl rfl rfl (Dh (BS (n-1-k) hR2.rd.any rfl AY Be rfl rfl) rfl rfl rfl (Dh (oL rfl U3 (hc _)) rfl rfl rfl ?_)))))))))));have hyk:=hY k hh ms' hkn lh hX;unfold Zt at hyk;rw[hn]at hyk;refine OP rfl rfl rfl (hyk) rfl rfl rfl (fun r h2 ms2 l2 hr=>?_);rcases hr with ⟨rfl,hX2⟩|⟨rfl,hX2⟩
  ·refine Dh (Es rfl rfl) rfl rfl rfl (Fh (Ab (AQ rfl (Ah (Ai (Ab (C4 (Dh (Ay rfl rfl) rfl rfl rfl (Dh (oS rfl) rfl rfl rfl (Dh (F1 rfl rfl) rfl rfl rfl (Fh ?_)))))))))));refine Ak (n-(k+1)) [(0,.func (.yield lp) #[] #[]),(1,.pointer (some ⟨g,0,none⟩)),(3,.int .i64 ((n:Int)-1-k-1))] (by omega) ⟨k+1,rfl,by rw[show((n:Int)-1-k-1)=(n:Int)-1-(k+1:Nat) by omega],AJ lh l2,by omega,hX2⟩ Qs
  ·refine Dh (Es rfl rfl) rfl rfl rfl (Fh (Ab (Bn rfl (Am (Al (Ag (Ag (Al ?_))))))));exact ED rfl (.inr ⟨k,by omega,hX2⟩)
 ·obtain rfl:k=n:=by omega
  refine Av (Aa (Aa (Af ?_)));exact BT rfl (.inl (by rw[hn];exact hX))
theorem PR(v:Value)(n:Nat)(cs:List Value)(h:Hp)(hR:Rd h [] v 1 n cs):FnT Tryz.prog 152 #[v] h [] (fun r h' ms'=>h=h'/\∃g,r=.func (.func 203) #[] #[.pointer (some ⟨g,0,none⟩)]/\ms'=[A7 g 22 [v]]):=by refine Ao func152 ntmps152 rfl rfl (fun w0 hw0=>?_);simp only[AU];refine As (AS [_] rfl rfl (Rd.cells ‹_›) rfl rfl rfl (fun g1=>Qm rfl (Bv (Qx (Bk rfl rfl rfl) rfl (Qm rfl (An (Am ?_)))))));exact Ap rfl rfl (⟨rfl,_,rfl,rfl⟩)
end Go.Proofs.Q

namespace Go.Proofs.Q
open Go.Proofs.Tryz
open Go.Eng Go.RowKit Go.Lin
theorem IsLast.uniq{l:List Int}{x y:Int}(h1:IsLast l x)(h2:IsLast l y):x=y:=by
 rcases h1 with ⟨i,hi,rfl,q1,q2⟩|⟨rfl,q⟩<;>rcases h2 with ⟨j,hj,rfl,r1,r2⟩|⟨rfl,r⟩
 ·rcases Nat.lt_trichotomy i j with h|h|h
  ·exact absurd (q2 j hj h) r1
  ·rw[h]
  ·exact absurd (r2 i hi h) q1
 ·exact absurd (r i hi) q1
 ·exact absurd (q j hj) r1
 ·rfl
theorem IsLast.ex(l:List Int):∃x,IsLast l x:=by
 have key:∀n,n<=l.length->(∃(i:Nat) (hi:i<l.length),i<n/\l[i]≠0/\∀j (hj:j<l.length),i<j->j<n->l[j]=0)\/∀j (hj:j<l.length),j<n->l[j]=0:=fun n=>by
  induction n with
  | zero=>intro _;exact .inr fun j _ h=>by omega
  | succ n ih=>
   intro hn;by_cases h0:l[n]=0
   ·rcases ih (by omega) with ⟨i,hi,h1,h2,h3⟩|h
    ·refine .inl ⟨i,hi,by omega,h2,fun j hj h4 h5=>?_⟩;rcases (by omega:j<n\/j=n) with h6|rfl
     ·exact h3 j hj h4 h6
     ·exact h0
    ·refine .inr fun j hj h5=>?_;rcases (by omega:j<n\/j=n) with h6|rfl
     ·exact h j hj h6
     ·exact h0
   ·exact .inl ⟨n,by omega,by omega,h0,fun j hj h4 h5=>by omega⟩
 rcases key l.length (Nat.le_refl _) with ⟨i,hi,_,h2,h3⟩|h
 ·exact⟨i,.inl ⟨i,hi,rfl,h2,fun j hj h4=>h3 j hj h4 hj⟩⟩
 ·exact⟨-1,.inr ⟨rfl,fun j hj=>h j hj hj⟩⟩
noncomputable def Bm(l:List Int):Int:=Classical.choose (IsLast.ex l)
theorem IM(l:List Int):IsLast l (Bm l):=Classical.choose_spec (IsLast.ex l)
theorem PE{l:List Int}{x:Int}(h:IsLast l x):Bm l=x:=(IM l).uniq h
theorem KM(l:List Int):-1<=Bm l/\Bm l<l.length:=by rcases IM l with ⟨i,hi,e,_⟩|⟨e,_⟩<;>rw[e]<;>omega
theorem XJ(v:Value)(l:List Int)(h:Hp)(hR:RdL cI 1 h [] v l)(hn:l.length<=1000000):FnT Tryz.prog 95 #[v] h [] (fun r _ _=>r=.int .i64 (Bm l)):=by
 have ov:=hR.rd.one;refine Jk func95 ntmps95 rfl rfl (fun w0 hw0=>?_);simp only[AU];refine As (CC [.int .i64 0] rfl Be rfl rfl (fun g2=>An (Ac (As (Qm rfl (Qc call152 rfl (PR v l.length _ h hR.rd) (fun vf h10 ms10 l10 hF=>?_)))))));obtain⟨rfl,gb,rfl,rfl⟩:=hF;refine An (Ae (Aw fun h2 l2 hGb=>?_));have hR:=hR.up l2;have hI:=Vv gb v l h2 hGb hR hn;refine HS (fun k hh ms=>ms=[A7 g2 3 [.int .i64 0]]/\∀j (hj:j<l.length),l.length-k<=j->l[j]=0) (fun k hh ms=>ms=[A7 g2 3 [.int .i64 ((l.length:Int)-1-k)]]/\IsLast l ((l.length:Int)-1-k)) (fun k s1 hh ms=>s1=[(2,.pointer (some ⟨g2,0,none⟩)),(3,.int .i64 ((l.length:Int)-1-k)),(4,.int .i64 (l.getD (l.length-1-k) 0))]/\ms=[A7 g2 3 [.int .i64 0]]/\∀j (hj:j<l.length),l.length-k<=j->l[j]=0) rfl call203 hI (fun k=>rfl) rfl ?_ ?_ ?_ ?_ ?_
 ·exact⟨rfl,fun j hj h=>by omega⟩
 ·rintro w1 k hh ms1 hk lh ⟨rfl,hz⟩;rw[show Zt l k=[.int .i64 ((l.length:Int)-1-k),.int .i64 (l.getD (l.length-1-k) 0)] from rfl];refine QM (Do (by kernel_rfl) (Qm rfl (Aj (Lm (Do (by kernel_rfl) (Qm rfl (Aj ?_)))))));exact AA _ ⟨rfl,rfl,hz⟩ Qs
 ·rintro w1 k s1 hh ms1 hk lh ⟨rfl,rfl,hz⟩;have hi:l.length-1-k<l.length:=by omega
  have eg:l.getD (l.length-1-k) 0=l[l.length-1-k]:=by simp[List.getD,hi]
  refine KK (QM (Do (by kernel_rfl) (Qm rfl (Qm rfl (Aj (Lm ?_))))));refine AaJ rfl (fun hne=>?_) (fun hne=>?_)
  ·refine QM (Do (by kernel_rfl) (Qm rfl (AK 0 0 rfl Be rfl rfl (by rfl) rfl rfl (by decide) rfl rfl (Aj (Lm (ZG (Al ?_)))))));refine YV [] ⟨rfl,.inl ⟨l.length-1-k,hi,by omega,by rw[<-eg];exact hne,fun j hj hlt=>hz j hj (by omega)⟩⟩ trivial
  ·refine XE (Ai ?_);refine AA [] ⟨rfl,fun j hj hle=>?_⟩ trivial;rcases (by omega:l.length-k<=j\/j=l.length-1-k) with h1|rfl
   ·exact hz j hj h1
   ·rw[<-eg];exact Classical.not_not.1 hne
 ·rintro D hh ms1 lh ⟨rfl,hz⟩;refine Ai (Ab (As (AK 0 0 rfl Be rfl rfl (by rfl) rfl rfl (by decide) rfl rfl (An (Am (I4 1 (.inr rfl) rfl ?_))))));exact Mb rfl rfl U3 rfl 0 rfl (by rw[PE (.inr ⟨rfl,fun j hj=>hz j hj (by omega)⟩)])
 ·rintro D k hh ms1 hk lh ⟨rfl,hL⟩;refine I4 1 (.inr rfl) rfl ?_;exact Mb rfl rfl U3 rfl 0 rfl (by rw[PE hL])
theorem Vd(v:Value)(l:List Int)(h:Hp)(hR:RdL cI 1 h [] v l)(hn:l.length<=1000000)(ms:List Hp):FnV Tryz.prog 95 #[v] h ms (.int .i64 (Bm l)):=F6 (XJ v l h hR hn) ms
variable {p n t:Int} {i:Nat}
def GU(p n:Int):Int:=match (range p.toNat).find? (fun k:Nat=>decide (1<=k/\n*(k:Int)%p=1)) with|some k=>(k:Int)|none=>1
theorem Qy{k:Nat}(h1:1<=k)(hk:(k:Int)<p)(h:n*(k:Int)%p=1)(hno:∀j:Nat,1<=j->j<k->n*(j:Int)%p≠1):GU p n=k:=by
 unfold GU
 have:(range p.toNat).find? (fun k:Nat=>decide (1<=k/\n*(k:Int)%p=1))=some k:=List.find?_range_eq_some.2 ⟨decide_eq_true ⟨h1,h⟩,List.mem_range.2 (by omega),fun j hj=>by
  rw[decide_eq_false fun q=>hno j q.1 hj q.2];rfl⟩
 rw[this]
theorem Rc(hno:∀j:Nat,1<=j->(j:Int)<p->n*(j:Int)%p≠1):GU p n=1:=by
 unfold GU
 have:(range p.toNat).find? (fun k:Nat=>decide (1<=k/\n*(k:Int)%p=1))=none:=List.find?_eq_none.2 fun j hj=>by have:=List.mem_range.1 hj;rw[decide_eq_false fun q=>hno j q.1 (by omega) q.2];decide
 rw[this]
theorem UU(hp:2<=p)(n:Int):1<=GU p n/\GU p n<p:=by
 unfold GU;split
 ·rename_i k h;obtain⟨h1,h2,_⟩:=List.find?_range_eq_some.1 h;have:=of_decide_eq_true h1;have:=List.mem_range.1 h2;omega
 ·omega
theorem TF(h:IsP p)(h0:0<n)(hn:n<p):n*GU p n%p=1:=by
 have h2:=h.1
 obtain⟨w,hw⟩:=h.fld.inv n fun⟨c,e⟩=>by have h1:c<1:=Int.lt_of_mul_lt_mul_left (show p*c<p*1 by omega) (by omega);have h3:0<c:=Int.lt_of_mul_lt_mul_left (show p*0<p*c by omega) (by omega);omega
 have hw:w*n%p=1:=by rw[Int.mul_comm];have h3:=Int.emod_eq_emod_iff_emod_sub_eq_zero.2 (Int.emod_eq_zero_of_dvd hw);rw[h3,Int.emod_eq_of_lt (by omega) (by omega)]
 have h5:=Int.emod_nonneg w (show p≠0 by omega);have h6:=Int.emod_lt_of_pos w (show 0<p by omega)
 have h4:n*(((w%p).toNat:Nat):Int)%p=1:=by rw[Int.toNat_of_nonneg h5,Int.mul_emod,Int.emod_emod_of_dvd w (Int.dvd_refl p),<-Int.mul_emod,Int.mul_comm];exact hw
 have h7:1<=(w%p).toNat:=by refine Nat.one_le_iff_ne_zero.2 fun e=>?_;rw[e]at h4;simp at h4
 unfold GU;split
 ·rename_i k h;exact(of_decide_eq_true (List.find?_range_eq_some.1 h).1).2
 ·rename_i h;have:=List.find?_eq_none.1 h (w%p).toNat (List.mem_range.2 (by omega));exact absurd (decide_eq_true ⟨h7,h4⟩) this
def FP(p:Int)(a b:List Int)(t:Int):List Int:=List.zipWith (fun x y=>(x+t*y)%p) a b
theorem Fl{a b:List Int}(h:a.length=b.length):(FP p a b t).length=a.length:=by unfold FP;rw[List.length_zipWith];omega
theorem NY{a b:List Int}(h:i<(FP p a b t).length)(ha:i<a.length)(hb:i<b.length):(FP p a b t)[i]=(a[i]+t*b[i])%p:=by simp[FP]
theorem Vz{α:Type}(A B:List α)(hl:A.length=B.length)(hi:i<A.length):(A.take i++B.drop i).set i A[i]=A.take (i+1)++B.drop (i+1):=by
 have hlt:(A.take i).length=i:=by rw[length_take];omega
 rw[List.set_append,if_neg (by omega),hlt,Nat.sub_self,List.drop_eq_getElem_cons (show i<B.length by omega),List.set_cons_zero,take_succ_eq_append_getElem hi,append_assoc];rfl
theorem Wd{α:Type}(A B:List α)(hl:A.length=B.length)(hi:i<A.length):(A.take i++B.drop i)[i]'(by rw[length_append,length_take,List.length_drop];omega)=B[i]:=by
 have hlt:(A.take i).length=i:=by rw[length_take];omega
 rw[List.getElem_append_right (by omega)];simp[hlt]
def Lp(p:Int)(l:List Int):Prop:=∀x∈l,0<=x/\x<p
theorem Pz(hp:0<p)(a b:List Int):Lp p (FP p a b t):=fun x hx=>by unfold FP at hx;obtain⟨i,hi,rfl⟩:=getElem_of_mem hx;rw[List.getElem_zipWith];exact⟨Int.emod_nonneg _ (by omega),Int.emod_lt_of_pos _ hp⟩
theorem XI(p n:Int)(g:Nat)(h:Hp)(hG:∀ms,Cell h ms (⟨g,0,none⟩:Addr) (.int .i64 p))(hp:2<=p/\p<=997)(hn:0<=n/\n<p):FnT Tryz.prog 177 #[.pointer (some ⟨g,0,none⟩),.int .i64 n] h [] (fun r _ _=>r=.int .i64 (GU p n)):=by
 refine Ao func177 ntmps177 rfl rfl (fun w0 hw0=>?_);simp only[AU];refine As (Qm rfl (An (Ac (As (Qm rfl (An (Ae ?_)))))))
 refine Az (fun q sl h' ms'=>∃(k:Nat),q=p.toNat-k/\sl=[(0,.pointer (some ⟨g,0,none⟩)),(1,.int .i64 n),(5,.int .i64 k)]/\h=h'/\ms'=[]/\1<=k/\(k:Int)<=p/\∀j:Nat,1<=j->j<k->n*(j:Int)%p≠1)
  (p.toNat-1) _ ⟨1,rfl,rfl,rfl,rfl,by omega,by omega,fun j h1 h2=>by omega⟩ Qs ?_
 rintro q sl h' ms' ⟨k,rfl,rfl,rfl,rfl,h1,hk,hno⟩;have hnk:0<=n*(k:Int)/\n*(k:Int)<=997*997:=⟨Int.mul_nonneg hn.1 (by omega),Int.mul_le_mul (by omega) (by omega) (by omega) (by omega)⟩
 refine Ac (As (Qm rfl (Qm rfl (Qm rfl (Qf IQ rfl (Ql rfl U3 (hG _) (Qm rfl (An ?_))))))));refine Au rfl (fun hlt=>?_) (fun hlt=>?_)
 ·refine Ah (Ab (Ac (Ae (As (Qm rfl (Qm rfl (Qx (oM rfl) rfl (Qm rfl (Qm rfl (Qf IQ rfl (Ql rfl U3 (hG _) (Qx (BV rfl rfl rfl (by omega) (by omega)) rfl (Qm rfl (An ?_))))))))))))));refine Au rfl (fun he=>?_) (fun he=>?_)
  ·refine Ac (Ad (Qm rfl (Qm rfl (An (Am (Al (Ag (Ag (Al (Ag ?_))))))))));exact Ap rfl rfl (by rw[Qy h1 hlt he hno])
  ·refine Ah (Ai (Ab (Ad (Qm rfl (Qx (oA rfl) rfl (Qm rfl (Aj ?_)))))));refine Ak (p.toNat-(k+1)) _ (by omega) ⟨k+1,rfl,rfl,rfl,rfl,by omega,by omega,fun j h3 h4=>?_⟩ Qs;rcases (by omega:j<k\/j=k) with h5|rfl
   ·exact hno j h3 h5
   ·exact he
 ·have hkp:(k:Int)=p:=by omega
  refine Av (Aa (Aa (Af (Ab (As (Qm rfl (An (Am ?_))))))));exact Ap rfl rfl (by rw[Rc fun j h3 h4=>hno j h3 (by omega)])
theorem ZT(p n:Int)(g:Nat)(h:Hp)(hG:∀ms,Cell h ms (⟨g,0,none⟩:Addr) (.int .i64 p))(hp:2<=p/\p<=997)(hn:0<=n/\n<p)(ms:List Hp):FnV Tryz.prog 177 #[.pointer (some ⟨g,0,none⟩),.int .i64 n] h ms (.int .i64 (GU p n)):=F6 (XI p n g h hG hp hn) ms
theorem UI(p t:Int)(g:Nat)(a b:List Int)(va vb:Value)(m h:Hp)(hG:∀ms,Cell h ms (⟨g,0,none⟩:Addr) (.int .i64 p))(hp:2<=p/\p<=997)(ht:0<=t/\t<p)(hA:OwnL cI 1 3 m va a)(hB:RdL cI 1 h [] vb b)(hl:a.length=b.length)(hn:a.length<=1000000)(ra:Lp p a)(rb:Lp p b) :
  FnT Tryz.prog 178 #[.pointer (some ⟨g,0,none⟩),va,vb,.int .i64 t] h [m] (fun _ h' ms'=>h=h'/\∃m',ms'=[m']/\OwnL cI 1 3 m' va (FP p a b t)):=by
 have oa:=hA.o1;have ob:=hB.rd.one;obtain⟨C,hC⟩:∃C,FP p a b t=C:=⟨_,rfl⟩
 have hCl:C.length=a.length:=by rw[<-hC];exact Fl hl
 refine Ao func178 ntmps178 rfl rfl (fun w0 hw0=>?_);simp only[AU];refine As (Qm rfl (Qx (Ar hB.rd.any rfl AY rfl) rfl (Qm rfl (An (Ae ?_)))))
 refine Az (fun q sl h' ms'=>∃(i:Nat) (m:Hp),q=b.length-i/\sl=[(0,.pointer (some ⟨g,0,none⟩)),(1,va),(3,.int .i64 t),(10,vb),(11,.int .i64 b.length),(12,.int .i64 i)]/\h=h'/\ms'=[m]/\i<=b.length/\OwnL cI 1 3 m va (C.take i++a.drop i))
  (b.length-0) _ ⟨0,m,rfl,rfl,rfl,rfl,by omega,by simpa using hA⟩ Qs ?_
 rintro q sl h' ms' ⟨i,m,rfl,rfl,rfl,rfl,hi,hO⟩;refine As (Qm rfl (An (Ac ?_)));refine Au rfl (fun hlt=>?_) (fun hlt=>?_)
 ·have hib:i<b.length:=by omega
  have hia:i<a.length:=by omega
  have hiC:i<C.length:=by omega
  have hlen:(C.take i++a.drop i).length=a.length:=by rw[length_append,length_take,List.length_drop];omega
  have hiO:i<(C.take i++a.drop i).length:=by omega
  have r1:=ra _ (getElem_mem hia);have r2:=rb _ (getElem_mem hib);have hCi:C[i]=(a[i]+t*b[i])%p:=by subst hC;exact NY _ hia hib
  have hset:=Vz C a hCl hiC;rw[hCi]at hset
  have ca:∀ms,m∈ms->Cell h ms ((AG va).add (i*1)) (.int .i64 a[i]):=fun ms hm=>by
   have:=(hO.rd (h:=h) (ms:=ms) hm).cell0 hiO rfl
   rwa [Wd C a hCl hiC]at this
  have cb:∀ms,Cell h ms ((AG vb).add (i*1)) (.int .i64 b[i]):=fun ms=>(hB.any (ms:=ms)).cell0 hib rfl;obtain⟨x,hx⟩:∃x,a[i]=x:=⟨_,rfl⟩
  obtain⟨y,hy⟩:∃y,b[i]=y:=⟨_,rfl⟩
  rw[hx]at r1 ca hset;rw[hy]at r2 cb hset;have hty:0<=t*y/\t*y<=997*997:=⟨Int.mul_nonneg ht.1 r2.1,Int.mul_le_mul (by omega) (by omega) (by omega) (by omega)⟩
  refine Ah (Ab (Ac (Ae (As (Qm rfl (Qx (BS (i) hB.rd.any rfl AY Be rfl rfl) rfl (Ql rfl U3 (cb _) (Qm rfl (Qm rfl (An (Dw 14 [true,true] CP (by kernel_rfl) (by kernel_rfl) (by kernel_rfl) (DZ rfl rfl rfl rfl (B8 rfl rfl) (DZ rfl rfl rfl rfl (B8 rfl rfl) ?_)))))))))))));refine⟨rfl,?_⟩;simp only[Eh,zap,cons_append,nil_append,List.take_succ_cons,List.take_zero,List.drop_succ_cons,List.drop_zero,List.take_nil,List.drop_nil];refine DU rfl rfl rfl (DU rfl rfl rfl (Wm rfl (Wm rfl (AP (AC (i) (hO.rd (h:=h) (ms:=[m]) Mh).rd rfl AY Be rfl rfl (by omega) (by omega)) rfl rfl (Wl rfl U3 (ca _ Mh) (Wm rfl (Wm rfl (AP (oM rfl) rfl rfl (AP (oA rfl) rfl rfl (Wm rfl (Wm rfl (Wf IQ rfl (Wl rfl U3 (hG _) (AZ (Qx (BV rfl rfl rfl (by omega) (by omega)) rfl (Qx (AC (i) (hO.rd (h:=h) (ms:=[m]) Mh).rd rfl AY Be rfl rfl (by omega) (by omega)) rfl (Dc 0 i hO rfl Be rfl rfl rfl hiO rfl rfl (fun m' hO'=>?_))))))))))))))))));rw[hset]at hO';refine Aj (Hc (Ai (Ab (Ad (Qx (oA rfl) rfl (Qm rfl (Aj ?_)))))));exact Ak (b.length-(i+1)) _ (by omega) ⟨i+1,m',rfl,rfl,rfl,rfl,by omega,hO'⟩ Qs
 ·obtain rfl:i=b.length:=by omega
  rw[List.drop_eq_nil_of_le (by omega),append_nil,<-hl,<-hCl,take_length]at hO;rw[hC];refine Av (Aa (Aa (Af ?_)));exact BT rfl (⟨rfl,m,rfl,hO⟩)
end Go.Proofs.Q
namespace Go.Proofs.Q
open Go.Proofs.Tryz
open Go.Eng Go.RowKit Go.Lin
variable {p:Int}
def cU(v:Value):List Value:=[v]
theorem NK:∀v,(cU v).length=1:=fun _=>rfl
def FA(p:Int)(vc:Value)(gA:Nat)(vr vv:Value)(la:List Int):List Value:=.int .i64 p::vc::.map (some gA)::vr::vv::la.map fun n=>.int .i64 n
inductive Ops (p:Int) (n j:Nat) (R V:Nat->List Int) (r v:List Int):List Int->List Int->Prop
 | refl:Ops p n j R V r v r v
 | step {r1 v1:List Int} {k i:Nat} {t:Int}:Ops p n j R V r v r1 v1->k<j->i<n->0<=t->t<p->r1.getD i 0≠0->(R k).getD i 0≠0->Ops p n j R V r v (FP p r1 (R k) t) (FP p v1 (V k) t)
structure Red(p:Int)(n j:Nat)(R V:Nat->List Int)(la:List Int):Prop where
 rl:∀k,k<j->(R k).length=n
 vl:∀k,k<j->(V k).length=n
 rr:∀k,k<j->Lp p (R k)
 vr:∀k,k<j->Lp p (V k)
 ll:la.length=400
 a0:∀i,i<400->la.getD i 0=0\/∃k,k<j/\la.getD i 0=(k:Int)+1/\Bm (R k)=i
 a1:∀k,k<j->0<=Bm (R k)->la.getD (Bm (R k)).toNat 0=(k:Int)+1
def LaS(j:Nat)(r':List Int)(la la':List Int):Prop:=(Bm r'<0/\la'=la)\/(0<=Bm r'/\la.getD (Bm r').toNat 0=0/\la'=la.set (Bm r').toNat ((j:Int)+1))
theorem EH{l:List Int}{i:Nat}(h:Bm l=i):i<l.length/\l.getD i 0≠0/\∀j,i<j->l.getD j 0=0:=by
 rcases IM l with ⟨k,hk,e,h1,h2⟩|⟨e,_⟩
 ·obtain rfl:i=k:=by omega
  refine⟨hk,by simpa[List.getD,hk] using h1,fun j hj=>?_⟩;by_cases hjl:j<l.length
  ·simpa[List.getD,hjl] using h2 j hjl hj
  ·simp[List.getD,List.getElem?_eq_none (show l.length<=j by omega)]
 ·omega
theorem Gm(hp:0<p){l:List Int}(h:Lp p l)(i:Nat):0<=l.getD i 0/\l.getD i 0<p:=by
 by_cases hi:i<l.length
 ·have:=h _ (getElem_mem hi);simpa[List.getD,hi] using this
 ·simp[List.getD,List.getElem?_eq_none (show l.length<=i by omega),hp]
theorem Ev{t:Int}{a b:List Int}(hl:a.length=b.length)(i:Nat):(FP p a b t).getD i 0=(a.getD i 0+t*b.getD i 0)%p:=by
 by_cases hi:i<a.length
 ·have h2:i<b.length:=by omega
  have h3:i<(FP p a b t).length:=by rw[Fl hl];exact hi
  have:=NY h3 hi h2;simp only[List.getD,List.getElem?_eq_getElem h3,List.getElem?_eq_getElem hi,List.getElem?_eq_getElem h2,Option.getD_some,this]
 ·have h3:¬i<(FP p a b t).length:=by rw[Fl hl];exact hi
  simp[List.getD,List.getElem?_eq_none (show a.length<=i by omega),List.getElem?_eq_none (show b.length<=i by omega),List.getElem?_eq_none (show(FP p a b t).length<=i by omega)]
theorem AbF{x b w:Int}(h:b*w%p=1)(hp:0<p):(x+((p-x)*w%p)*b)%p=0:=by
 have h1:=Int.emod_add_mul_ediv (b*w) p;have h2:=Int.emod_add_mul_ediv ((p-x)*w) p;rw[h]at h1;refine Int.emod_eq_zero_of_dvd ⟨1+(p-x)*(b*w/p)-((p-x)*w/p)*b,?_⟩;generalize b*w/p=q1 at h1 ⊢;generalize (p-x)*w/p=q2 at h2 ⊢;have e:(p-x)*w%p=(p-x)*w-p*q2:=by omega
 rw[e];have e2:b*w=1+p*q1:=h1.symm
 have e3:((p-x)*w-p*q2)*b=(p-x)*(b*w)-p*(q2*b):=by rw[Int.sub_mul,Int.mul_assoc,Int.mul_comm w b,Int.mul_assoc]
 rw[e3,e2,Int.mul_sub,Int.mul_add,Int.mul_one,Int.mul_add,Int.mul_one];have e4:p*((p-x)*q1)=(p-x)*(p*q1):=by rw[<-Int.mul_assoc,<-Int.mul_assoc,Int.mul_comm p]
 rw[e4];omega
theorem TR{t:Int}{a b:List Int}{i:Nat}(hl:a.length=b.length)(ha:Bm a=i)(hb:Bm b=i)(h:(a.getD i 0+t*b.getD i 0)%p=0):Bm (FP p a b t)<i:=by
 obtain⟨h1,h2,h3⟩:=EH ha;obtain⟨h4,h5,h6⟩:=EH hb
 have hz:∀j,i<=j->(FP p a b t).getD j 0=0:=fun j hj=>by
  rw[Ev hl];rcases (by omega:j=i\/i<j) with rfl|h7
  ·exact h
  ·rw[h3 j h7,h6 j h7];simp
 refine Int.not_le.1 fun hle=>?_;obtain⟨k,hk⟩:=Int.eq_ofNat_of_zero_le (show 0<=Bm (FP p a b t) by omega);obtain⟨_,h8,_⟩:=EH hk;exact h8 (hz k (by omega))
theorem Lv(p:Int)(vc:Value)(gA:Nat)(vr vv:Value)(la:List Int):(FA p vc gA vr vv la).length=5+la.length:=by unfold FA;simp;omega
theorem Wi(p:Int)(vc:Value)(gA:Nat)(vr vv:Value)(la:List Int)(i:Nat)(x:Int):(FA p vc gA vr vv la).set (5+i) (.int .i64 x)=FA p vc gA vr vv (la.set i x):=by unfold FA;rw[show 5+i=i+1+1+1+1+1 by omega];simp only[List.set_cons_succ,List.map_set]
theorem TI(la:List Int)(i:Nat)(hi:i<la.length):(la.map fun n=>Value.int .i64 n)[i]?=some (.int .i64 (la.getD i 0)):=by simp[List.getD,hi]
theorem SS(p:Int)(n j:Nat)(g gA:Nat)(vc vr vv:Value)(Rs Vs:List Value)(R V:Nat->List Int)(la r v:List Int)(mr mv h:Hp)(hp:IsP p)(hn:n<=400)(hj:j<n)
  (hRs:RdL cU 1 h [] vr Rs) (hVs:RdL cU 1 h [] vv Vs) (lR:Rs.length=n) (lV:Vs.length=n) (hR:∀k,k<j->RdL cI 1 h [] (Rs.getD k undef) (R k)) (hV:∀k,k<j->RdL cI 1 h [] (Vs.getD k undef) (V k)) (D:Red p n j R V la) (oc:vc.oneCell'=true)
  (Or:OwnL cI 1 3 mr (Rs.getD j undef) r) (Ov:OwnL cI 1 3 mv (Vs.getD j undef) v) (lr:r.length=n) (lv:v.length=n) (rr:Lp p r) (rv:Lp p v) :
  FnT Tryz.prog 121 #[.pointer (some ⟨g,0,none⟩),.int .i64 j] h [A7 g 130 (FA p vc gA vr vv la),mr,mv] (fun _ h' ms'=>h.le h'/\∃r' v' la' mr' mv',ms'=[A7 g 130 (FA p vc gA vr vv la'),mr',mv']/\OwnL cI 1 3 mr' (Rs.getD j undef) r'/\OwnL cI 1 3 mv' (Vs.getD j undef) v'/\Ops p n j R V r v r' v'/\r'.length=n/\v'.length=n/\Lp p r'/\Lp p v'/\LaS j r' la la'):=by
 have hp1:=hp.1;have hp9:=hp.2.1;refine Ao func121 ntmps121 rfl rfl (fun w0 hw0=>?_);simp only[AU];refine GI fun h1 l1 lG dG LG=>?_;have hRs:=hRs.up l1;have hVs:=hVs.up l1;have hR:=fun k hk=>(hR k hk).up l1;have hV:=fun k hk=>(hV k hk).up l1;have hS:=Seg.ofLe lG;have oR:=hRs.rd.one;have oV:=hVs.rd.one;refine Ae ?_
 refine Az (fun q sl h' ms'=>∃(r' v':List Int) (mr mv:Hp),q=(Bm r'+1).toNat/\sl=[(0,.pointer (some ⟨g,0,none⟩)),(1,.int .i64 j)]/\h1.le h'/\ms'=[mr,mv]/\OwnL cI 1 3 mr (Rs.getD j undef) r'/\OwnL cI 1 3 mv (Vs.getD j undef) v'/\Ops p n j R V r v r' v'/\r'.length=n/\v'.length=n/\Lp p r'/\Lp p v')
  _ _ ⟨r,v,mr,mv,rfl,rfl,CY,rfl,Or,Ov,.refl,lr,lv,rr,rv⟩ Qs ?_
 rintro q sl h2 ms' ⟨r1,v1,mr,mv,rfl,rfl,l2,rfl,Or,Ov,hO,lr,lv,rr,rv⟩;have hRs:=hRs.up l2;have hVs:=hVs.up l2;have hR:=fun k hk=>(hR k hk).up l2;have hV:=fun k hk=>(hV k hk).up l2;have hS:=hS.le l2;refine GI fun h3 l3 lM dM LM=>?_;have Rr:RdL cI 1 h3 [] (Rs.getD j undef) r1:=Or.rdh (h:=h3) (ms:=[]) lM;have hRs3:=hRs.up l3;have hVs3:=hVs.up l3;have hS3:=hS.le l3;have hjR:j<Rs.length:=by omega
 have hjV:j<Vs.length:=by omega
 have eR:Rs.getD j undef=Rs[j]:=by simp[List.getD,hjR]
 have eV:Vs.getD j undef=Vs[j]:=by simp[List.getD,hjV]
 have a0:∀ms,Cell h3 ms (⟨g,0,none⟩:Addr) (.int .i64 p):=fun ms=>Seg.all hS3 0 _ rfl ms;have a3:∀ms,Cell h3 ms (⟨g,3,none⟩:Addr) vr:=fun ms=>Seg.all hS3 3 _ rfl ms;have a4:∀ms,Cell h3 ms (⟨g,4,none⟩:Addr) vv:=fun ms=>Seg.all hS3 4 _ rfl ms;have cR:∀ms,Cell h3 ms ((AG vr).add (j*1)) (Rs.getD j undef):=fun ms=>by rw[eR];exact(hRs3.any (ms:=ms)).cell0 hjR rfl
 have orj:=Rr.rd.one;refine Ae (As (Qm rfl (Qm rfl (Qf FJ rfl (Ql rfl Ck (a3 _) (Qm rfl (Qx (BS (j) hRs3.rd.any rfl Ck Cw rfl rfl) rfl (Ql rfl AY (cR _) (Qx (AF rfl call95 rfl (Vd (Rs.getD j undef) r1 h3 Rr (by omega) _)) rfl (Qm rfl (An (Ac (As (Qm rfl (Qm rfl (An ?_))))))))))))))));refine Au rfl (fun hneg=>?_) (fun hneg=>?_)
 ·refine Am (Ag (Al (Ag (Al (RU LM lM fun h4 l4 b4=>(RU LG (b4 _ (AJ lG (AJ l2 l3)) (FK (AJ lG l2) dM)) fun h5 l5 b5=>?_))))));have l05:h.le h5:=b5 _ (b4 _ (AJ l1 (AJ l2 l3)) (FK (AJ l1 l2) dM)) dG;exact ED rfl (⟨l05,r1,v1,la,mr,mv,rfl,Or,Ov,hO,lr,lv,rr,rv,.inl ⟨hneg,rfl⟩⟩)
 ·obtain⟨i,hi⟩:=Int.eq_ofNat_of_zero_le (show 0<=Bm r1 by omega);obtain⟨hi1,hi2,hi3⟩:=EH hi;have hin:i<400:=by omega
  have hla:=D.ll
  have cL:∀ms,Cell h3 ms ((⟨g,5,none⟩:Addr).add (i*1)) (.int .i64 (la.getD i 0)):=fun ms=>by
   have:(FA p vc gA vr vv la)[5+i]?=some (.int .i64 (la.getD i 0)):=by unfold FA;rw[show 5+i=i+1+1+1+1+1 by omega];simp only[List.getElem?_cons_succ];exact TI la i (by omega)
   have:=Seg.all hS3 (5+i) _ this ms;show Cell h3 ms (((⟨g,0,none⟩:Addr).add 5).add (i*1)) _;rw[BZ,Nat.mul_one];exact this
  rw[hi];have hl0:=D.a0 i hin;obtain⟨li,hli⟩:∃li,la.getD i 0=li:=⟨_,rfl⟩
  rw[hli]at cL hl0
  have hlb:0<=li/\li<=400:=by rcases hl0 with h|⟨k,hk,h,_⟩<;>omega
  refine Ah (Ab (As (Qm rfl (Qm rfl (Qm rfl (Qf RT rfl (Qx (Ek (i) rfl AaG Be rfl rfl (by omega) (by omega)) rfl (Ql rfl U3 (cL _) (Qx (oS rfl) rfl (Qm rfl (An (Ac (As (Qm rfl (Qm rfl (An ?_))))))))))))))));refine Au rfl (fun hk0=>?_) (fun hk0=>?_)
  ·have hl00:li=0:=by rcases hl0 with h|⟨k,hk,h,_⟩<;>omega
   refine FL LM lM fun h4 l4 b4=>?_;have lG4:=b4 _ (AJ lG (AJ l2 l3)) (FK (AJ lG l2) dM);refine FL LG lG4 fun h5 l5 b5=>?_;have l05:h.le h5:=b5 _ (b4 _ (AJ l1 (AJ l2 l3)) (FK (AJ l1 l2) dM)) dG;refine As (Qm rfl (Qm rfl (Qm rfl (Qx (oA rfl) rfl (Qm rfl (Qf RT rfl (Qx (Ek (i) rfl AaG Be rfl rfl (by omega) (by omega)) rfl ?_)))))));refine AK 0 (5+i) rfl Be rfl rfl rfl rfl (by rw[Nat.mul_one];exact BZ (⟨g,0,none⟩:Addr) 5 i) (by rw[Lv];omega) rfl rfl ?_;rw[Wi];refine An (Am (Ag (Al (Ag (Al ?_)))));exact ED rfl (⟨l05,r1,v1,la.set i ((j:Int)+1),mr,mv,rfl,Or,Ov,hO,lr,lv,rr,rv,.inr ⟨by omega,by rw[hi,Int.toNat_natCast,hli,hl00],by rw[hi,Int.toNat_natCast]⟩⟩)
  ·obtain⟨k,hkj,rfl,hlk⟩:∃k,k<j/\li=(k:Int)+1/\Bm (R k)=i:=by
    rcases hl0 with h|h
    ·omega
    ·exact h
   have hkR:k<Rs.length:=by omega
   have hkV:k<Vs.length:=by omega
   have eRk:Rs.getD k undef=Rs[k]:=by simp[List.getD,hkR]
   have eVk:Vs.getD k undef=Vs[k]:=by simp[List.getD,hkV]
   have hRk:=(hR k hkj).up l3;have hVk:=(hV k hkj).up l3;have lRk:=D.rl k hkj;have lVk:=D.vl k hkj;obtain⟨hk1,hk2,_⟩:=EH hlk;have cRk:∀ms,Cell h3 ms ((AG vr).add (k*1)) (Rs.getD k undef):=fun ms=>by rw[eRk];exact(hRs3.any (ms:=ms)).cell0 hkR rfl
   have cx:∀ms,Cell h3 ms ((AG (Rs.getD j undef)).add (i*1)) (.int .i64 (r1.getD i 0)):=fun ms=>by rw[show r1.getD i 0=r1[i] by simp[List.getD,hi1]];exact(Rr.any (ms:=ms)).cell0 hi1 rfl
   have cb:∀ms,Cell h3 ms ((AG (Rs.getD k undef)).add (i*1)) (.int .i64 ((R k).getD i 0)):=fun ms=>by rw[show(R k).getD i 0=(R k)[i] by simp[List.getD,hk1]];exact(hRk.any (ms:=ms)).cell0 hk1 rfl
   have bx:=Gm (by omega) rr i;have bb:=Gm (by omega) (D.rr k hkj) i;obtain⟨x,hx⟩:∃x,r1.getD i 0=x:=⟨_,rfl⟩
   obtain⟨b,hb⟩:∃b,(R k).getD i 0=b:=⟨_,rfl⟩
   rw[hx]at cx bx hi2;rw[hb]at cb bb hk2;have hinv:=TF hp (show 0<b by omega) bb.2;have hwb:=UU hp1 b;obtain⟨w,hw⟩:∃w,GU p b=w:=⟨_,rfl⟩
   rw[hw]at hinv hwb;have hpw:0<=(p-x)*w/\(p-x)*w<=997*997:=⟨Int.mul_nonneg (by omega) (by omega),Int.mul_le_mul (by omega) (by omega) (by omega) (by omega)⟩
   have hkill:=AbF (x:=x) hinv (show 0<p by omega);have hov:=ZT p b g h3 a0 ⟨hp1,hp9⟩ ⟨bb.1,bb.2⟩;rw[hw]at hov;have ht0:=Int.emod_nonneg ((p-x)*w) (show p≠0 by omega);have ht1:=Int.emod_lt_of_pos ((p-x)*w) (show 0<p by omega);have ork:=hRk.rd.one;have ovj:(Vs.getD j undef).oneCell'=true:=Ov.o1;have ovk:=hVk.rd.one;refine Ah (Ab (Ac (Bc 32 CP (by kernel_rfl) rfl (Wm rfl (Wm rfl (Wf IQ rfl (Wl rfl U3 (a0 _) (Wm rfl (Wm rfl (Wf FJ rfl (Wl rfl Ck (a3 _) (Wm rfl (AP (BS (j) hRs3.rd.any rfl Ck Cw rfl rfl) rfl rfl (Wl rfl AY (cR _) (Wm rfl (AP (BS (i) Rr.rd.any rfl AY Be rfl rfl) rfl rfl (Wl rfl U3 (cx _) (AP (oS rfl) rfl rfl (Wm rfl (Wm rfl (Wm rfl (Wf FJ rfl (Wl rfl Ck (a3 _) (Wm rfl (AP (BS (k) hRs3.rd.any rfl Ck Cw rfl rfl) rfl rfl (Wl rfl AY (cRk _) (Wm rfl (AP (BS (i) hRk.rd.any rfl AY Be rfl rfl) rfl rfl (Wl rfl U3 (cb _) (AP (AF rfl call177 rfl (hov _)) rfl rfl (AP (oM rfl) rfl rfl (Wm rfl (Wm rfl (Wf IQ rfl (Wl rfl U3 (a0 _) (AZ (Qx (BV rfl rfl rfl (by omega) (by omega)) rfl (Qm rfl (An ?_)))))))))))))))))))))))))))))))))))))));obtain⟨t,ht⟩:∃t,(p-x)*w%p=t:=⟨_,rfl⟩
   rw[ht]at hkill ht0 ht1 ⊢;refine FL LM lM fun h4 l4 b4=>?_;have l24:=b4 _ l3 dM;have hRs:=hRs.up l24;have hVs:=hVs.up l24;have hRk:=(hR k hkj).up l24;have hVk:=(hV k hkj).up l24;have hS:=hS.le l24;have a0:∀ms,Cell h4 ms (⟨g,0,none⟩:Addr) (.int .i64 p):=fun ms=>Seg.all hS 0 _ rfl ms;have a3:∀ms,Cell h4 ms (⟨g,3,none⟩:Addr) vr:=fun ms=>Seg.all hS 3 _ rfl ms;have a4:∀ms,Cell h4 ms (⟨g,4,none⟩:Addr) vv:=fun ms=>Seg.all hS 4 _ rfl ms;have cR:∀ms,Cell h4 ms ((AG vr).add (j*1)) (Rs.getD j undef):=fun ms=>by rw[eR];exact(hRs.any (ms:=ms)).cell0 hjR rfl
   have cRk:∀ms,Cell h4 ms ((AG vr).add (k*1)) (Rs.getD k undef):=fun ms=>by rw[eRk];exact(hRs.any (ms:=ms)).cell0 hkR rfl
   have cV:∀ms,Cell h4 ms ((AG vv).add (j*1)) (Vs.getD j undef):=fun ms=>by rw[eV];exact(hVs.any (ms:=ms)).cell0 hjV rfl
   have cVk:∀ms,Cell h4 ms ((AG vv).add (k*1)) (Vs.getD k undef):=fun ms=>by rw[eVk];exact(hVs.any (ms:=ms)).cell0 hkV rfl
   refine Ac (Bc 16 CP (by kernel_rfl) rfl (Wm rfl (Wm rfl (Wm rfl (Wf FJ rfl (Wl rfl Ck (a3 _) (Wm rfl (AP (BS (j) hRs.rd.any rfl Ck Cw rfl rfl) rfl rfl (Wl rfl AY (cR _) (Wm rfl (Wm rfl (Wf FJ rfl (Wl rfl Ck (a3 _) (Wm rfl (AP (BS (k) hRs.rd.any rfl Ck Cw rfl rfl) rfl rfl (Wl rfl AY (cRk _) (Wm rfl (AZ (A8 (pre:=[mr]) rfl call178 rfl (UI p t g r1 (R k) _ _ mr h4 a0 ⟨hp1,hp9⟩ ⟨ht0,ht1⟩ Or hRk (by omega) (by omega) rr (D.rr k hkj)) rfl rfl rfl rfl (fun _ h5 ms5 l5 hF=>?_))))))))))))))))))));obtain⟨rfl,mr',rfl,Or'⟩:=hF;refine An (Bc 16 CP (by kernel_rfl) rfl (Wm rfl (Wm rfl (Wm rfl (Wf Kn rfl (Wl rfl Ck (a4 _) (Wm rfl (AP (BS (j) hVs.rd.any rfl Ck Cw rfl rfl) rfl rfl (Wl rfl AY (cV _) (Wm rfl (Wm rfl (Wf Kn rfl (Wl rfl Ck (a4 _) (Wm rfl (AP (BS (k) hVs.rd.any rfl Ck Cw rfl rfl) rfl rfl (Wl rfl AY (cVk _) (Wm rfl (AZ (MT 1 rfl (A8 (pre:=[mv]) rfl call178 rfl (UI p t g v1 (V k) _ _ mv h4 a0 ⟨hp1,hp9⟩ ⟨ht0,ht1⟩ Ov hVk (by omega) (by omega) rv (D.vr k hkj)) rfl rfl rfl rfl (fun _ h6 ms6 l6 hF=>?_)))))))))))))))))))));obtain⟨rfl,mv',rfl,Ov'⟩:=hF;have hll:r1.length=(R k).length:=by omega
   have hlv:v1.length=(V k).length:=by omega
   have hless:=TR (p:=p) (t:=t) hll hi hlk (by rw[hx,hb];exact hkill);have hO':=hO.step (t:=t) hkj (show i<n by omega) ht0 ht1 (by rw[hx];exact hi2) (by rw[hb];exact hk2);have hpp:0<p:=by omega
   refine Aj (Ai (CU 1 rfl ?_));exact Ak (Bm (FP p r1 (R k) t)+1).toNat _ (by omega) ⟨_,_,mr',mv',rfl,rfl,AJ l2 l24,rfl,Or',Ov',hO',by rw[Fl hll];exact lr,by rw[Fl hlv];exact lv,Pz hpp _ _,Pz hpp _ _⟩ Qs
end Go.Proofs.Q
namespace Go.Proofs
open Go.Proofs.Tryz
open Go.Shelf
def Tryz.laysSlF06_ren:Go.Shelf.Ren:=⟨fun|6=>147|15=>201|14=>200|28=>248|29=>249|20=>240|21=>241|22=>242|23=>243|24=>244|25=>245|26=>246|27=>247|46=>280|47=>281|48=>282|49=>283|50=>284|57=>300|n=>n,fun|22=>27|24=>52|25=>192|3=>3|39=>223|0=>0|53=>282|55=>222|4=>4|46=>276|45=>275|50=>124|5=>5|9=>9|66=>309|70=>313|76=>332|77=>333|n=>n,fun|n=>n⟩
theorem Tryz.laysSlF06:Go.Proofs.SlLaysF0.n6 prog Tryz.laysSlF06_ren:={
  mixed:=by kernel_rfl
  f6:=⟨f147.name,by decide,func147.trans (congrArg some (by kernel_rfl))⟩
  f14:=⟨f200.name,by decide,func200.trans (congrArg some (by kernel_rfl))⟩
  f15:=func201.trans (congrArg some (by kernel_rfl))
  f20:=⟨f240.name,by decide,func240.trans (congrArg some (by kernel_rfl))⟩
  f21:=⟨f241.name,by decide,func241.trans (congrArg some (by kernel_rfl))⟩
  f22:=⟨f242.name,by decide,func242.trans (congrArg some (by kernel_rfl))⟩
  f23:=⟨f243.name,by decide,func243.trans (congrArg some (by kernel_rfl))⟩
  f24:=⟨f244.name,by decide,func244.trans (congrArg some (by kernel_rfl))⟩
  f25:=⟨f245.name,by decide,func245.trans (congrArg some (by kernel_rfl))⟩
  f26:=⟨f246.name,by decide,func246.trans (congrArg some (by kernel_rfl))⟩
  f27:=⟨f247.name,by decide,func247.trans (congrArg some (by kernel_rfl))⟩
  f28:=func248.trans (congrArg some (by kernel_rfl))
  f29:=func249.trans (congrArg some (by kernel_rfl))
  f46:=⟨f280.name,by decide,func280.trans (congrArg some (by kernel_rfl))⟩
  f47:=func281.trans (congrArg some (by kernel_rfl))
  f48:=func282.trans (congrArg some (by kernel_rfl))
  f49:=⟨f283.name,by decide,func283.trans (congrArg some (by kernel_rfl))⟩
  f50:=⟨f284.name,by decide,func284.trans (congrArg some (by kernel_rfl))⟩
  f57:=⟨f300.name,by decide,func300.trans (congrArg some (by kernel_rfl))⟩
  t0:=underlying0
  a0:=isAgg0
  z0:=sizeOf0
  v0:=zeroValue0
  t3:=underlying3
  a3:=isAgg3
  z3:=sizeOf3
  v3:=zeroValue3
  t4:=underlying4
  a4:=isAgg4
  z4:=sizeOf4
  v4:=zeroValue4
  t5:=underlying5
  a5:=isAgg5
  z5:=sizeOf5
  v5:=zeroValue5
  t9:=underlying9
  a9:=isAgg9
  z9:=sizeOf9
  v9:=zeroValue9
  t22:=underlying27
  a22:=isAgg27
  z22:=sizeOf27
  v22:=zeroValue27
  t25:=underlying192
  a25:=isAgg192
  z25:=sizeOf192
  v25:=zeroValue192
  t39:=underlying223
  a39:=isAgg223
  z39:=sizeOf223
  v39:=zeroValue223
  t45:=underlying275
  a45:=isAgg275
  z45:=sizeOf275
  v45:=zeroValue275
  t46:=underlying276
  a46:=isAgg276
  z46:=sizeOf276
  v46:=zeroValue276
  t50:=underlying124
  a50:=isAgg124
  z50:=sizeOf124
  v50:=zeroValue124
  t53:=underlying282
  a53:=isAgg282
  z53:=sizeOf282
  v53:=zeroValue282
  t55:=underlying222
  a55:=isAgg222
  z55:=sizeOf222
  v55:=zeroValue222
  t66:=underlying309
  a66:=isAgg309
  z66:=sizeOf309
  v66:=zeroValue309
  t70:=underlying313
  a70:=isAgg313
  z70:=sizeOf313
  v70:=zeroValue313
  t76:=underlying332
  a76:=isAgg332
  z76:=sizeOf332
  v76:=zeroValue332
  t77:=underlying333
  a77:=isAgg333
  z77:=sizeOf333
  v77:=zeroValue333 }
end Go.Proofs

namespace Go.Proofs.Q
open Go.Proofs.Tryz
open Go.Eng Go.RowKit Go.Lin Go.Sort Go.Srt
def Aba(l:List Int)(r:Int):Prop:=(∃(i:Nat) (hi:i<l.length),r=l[i]/\l[i]≠0/\∀j (hj:j<l.length),j<i->l[j]=0)\/(r=0/\∀j (hj:j<l.length),l[j]=0)
def or3(a b c:Int):Int:=if a≠0 then a else if b≠0 then b else c
theorem ZO{a b c r:Int}(h:Aba [a,b,c] r):r=or3 a b c:=by
 unfold or3;rcases h with ⟨i,hi,rfl,h1,h2⟩|⟨rfl,h⟩
 ·have hi:i<3:=hi;rcases (by omega:i=0\/i=1\/i=2) with rfl|rfl|rfl
  ·have h1:a≠0:=h1;show a=_;rw[if_pos h1]
  ·have h1:b≠0:=h1;have h3:a=0:=h2 0 (by simp) (by decide);show b=_;rw[if_neg (fun q=>q h3),if_pos h1]
  ·have h3:a=0:=h2 0 (by simp) (by decide);have h4:b=0:=h2 1 (by simp) (by decide);show c=_;rw[if_neg (fun q=>q h3),if_neg (fun q=>q h4)]
 ·have h3:a=0:=h 0 (by simp);have h4:b=0:=h 1 (by simp);have h5:c=0:=h 2 (by simp);rw[if_neg (fun q=>q h3),if_neg (fun q=>q h4),h5]
structure CeI where
 c:Cl
 v:Value
 one:v.oneCell'=true
 i:BD c.id
instance:Inhabited CeI:=⟨⟨default,.slice none 0 0,rfl,by decide⟩⟩
def CeI.ce(a:CeI):Ce:=⟨a.c,a.v⟩
def Rl(a:CeI):List Value:=[.int .i64 a.c.id,.int .i64 a.c.dim,a.v]
theorem EB:∀a,(Rl a).length=3:=fun _=>rfl
theorem XB(s:CeI):∀c∈Rl s,c.oneCell'=true:=fun c hc=>by
 simp only[Rl,mem_cons,not_mem_nil,or_false]at hc;rcases hc with rfl|rfl|rfl
 ·rfl
 ·rfl
 ·exact s.one
theorem VD(l:List CeI):(l.map CeI.ce).flatMap cC=l.flatMap Rl:=by rw[flatMap_map];rfl
theorem WK:∀A:List Ce,(∀a∈A,a.v.oneCell'=true/\BD a.c.id)->∃l:List CeI,l.map CeI.ce=A
 | [],_=>⟨[],rfl⟩
 | a::A,h=>by obtain⟨l,hl⟩:=WK A fun b hb=>h b (List.Mem.tail _ hb);exact⟨⟨a.c,a.v,(h a Mh).1,(h a Mh).2⟩::l,by rw[map_cons,hl];rfl⟩
theorem own_ceI{m:Hp}{v:Value}{l:List CeI}:OwnL cC 3 52 m v (l.map CeI.ce)<->OwnL Rl 3 52 m v l:=by
 constructor
 ·intro O;have h:=O.own;rw[VD,length_map]at h;exact⟨h,EB⟩
 ·intro O;refine⟨?_,fun _=>rfl⟩;rw[VD,length_map];exact O.own
def Oy(f:Int->Int)(x y:CeI):Int:=or3 (c3 (f x.c.id) (f y.c.id)) (c3 x.c.dim y.c.dim) (c3 x.c.id y.c.id)
theorem Kr(f:Int->Int)(x y:CeI):Oy f x y<0<->f x.c.id<f y.c.id\/(f x.c.id=f y.c.id/\(x.c.dim<y.c.dim\/(x.c.dim=y.c.dim/\x.c.id<y.c.id))):=by
 unfold Oy or3 c3
 repeat' split
 all_goals omega
theorem VK(f:Int->Int):SWO (ltOf (Oy f)):=by
 refine⟨fun x=>?_,fun x y z h1 h2=>?_,fun x y z h1 h2=>?_⟩
 ·unfold ltOf;rw[decide_eq_false_iff_not,Kr];omega
 ·unfold ltOf at *;rw[decide_eq_true_iff,Kr]at *;omega
 ·unfold ltOf at *;rw[decide_eq_false_iff_not,Kr]at *;omega
theorem AaU(v:Value)(l:List Int)(h:Hp)(hR:RdL cI 1 h [] v l)(hn:l.length<=1000000):FnT Tryz.prog 149 #[v] h [] (fun r _ _=>∃x,r=.int .i64 x/\Aba l x):=by
 have o1:=hR.rd.one;refine Ao func149 ntmps149 rfl rfl (fun w0 hw0=>?_);simp only[AU];refine As (Qm rfl (Bv (Qm rfl (An (Ac (As (Qm rfl (Qx (Ar hR.rd.any rfl AY rfl) rfl (Qm rfl (An (Ae ?_)))))))))))
 refine Az (fun q s h' ms'=>∃(k:Nat),q=l.length-k/\s=[(3,.int .i64 0),(6,v),(7,.int .i64 l.length),(8,.int .i64 k)]/\h=h'/\ms'=[]/\k<=l.length/\∀j (hj:j<l.length),j<k->l[j]=0)
  (l.length-0) _ ⟨0,rfl,rfl,rfl,rfl,by omega,fun j _ hj=>by omega⟩ Qs ?_
 rintro q s h' ms' ⟨k,rfl,rfl,rfl,rfl,hk,hno⟩;refine As (Qm rfl (An (Ac ?_)));refine Au rfl (fun hlt=>?_) (fun hlt=>?_)
 ·have hkn:k<l.length:=by omega
  have ck:∀ms,Cell h ms ((AG v).add (k*1)) (.int .i64 l[k]):=fun ms=>(hR.any (ms:=ms)).cell0 hkn rfl;refine Ah (Ab (Ac (Ae (As (Qx (BS (k) hR.rd.any rfl AY Be rfl rfl) rfl (Ql rfl U3 (ck _) (Qm rfl (Bv (Qm rfl (Qm rfl (Qm rfl (An ?_))))))))))));refine Au rfl (fun hz=>?_) (fun hz=>?_)
  ·refine Ac (Ad (Qm rfl (Qm rfl (An (Am (Al (Ag (Ag (Al (Ag ?_))))))))));exact Ap rfl rfl (⟨_,rfl,.inl ⟨k,hkn,rfl,hz,hno⟩⟩)
  ·refine Ah (Ai (Ab (Ad (Qx (oA rfl) rfl (Qm rfl (Aj ?_))))));refine Ak (l.length-(k+1)) _ (by omega) ⟨k+1,rfl,rfl,rfl,rfl,by omega,fun j hj hjk=>?_⟩ Qs;rcases (by omega:j<k\/j=k) with h2|rfl
   ·exact hno j hj h2
   ·exact Classical.not_not.1 hz
 ·obtain rfl:k=l.length:=by omega
  refine Av (Aa (Aa (Af (Ab (As (Qm rfl (Qm rfl (An (Am ?_)))))))));exact Ap rfl rfl (⟨_,rfl,.inr ⟨rfl,fun j hj=>hno j hj hj⟩⟩)
theorem AbG(g:Nat)(a b c:Int)(h:Hp)(ms:List Hp)(hm:A7 g 3 [.int .i64 a,.int .i64 b,.int .i64 c]∈ms):FnV Tryz.prog 149 #[.slice (some ⟨g,0,none⟩) 3 3] h ms (.int .i64 (or3 a b c)):=
 CB fun h' _ hl=>F6 ((AaU _ [a,b,c] h' ((OwnL.blk (g:=g) (el:=3) (F:=cI) (l:=[a,b,c]) 3 AV rfl (by decide)).rdh (h:=h') (ms:=[]) (hl _ hm)) (by simp)).mono fun r _ _ ⟨x,e,hx⟩=>by rw[e,ZO hx]) []
theorem AaN(T:List (Int×Int))(gA gm g:Nat)(mA:Hp)(bs:List Nat)(x y:CeI)(h:Hp)(e10:∀ms,Cell h ms (⟨g,0,none⟩:Addr) (.pointer (some ⟨gm,0,none⟩)))(e2:∀ms,Cell h ms (⟨gm,2,none⟩:Addr) (.map (some gA)))(O:Ci kN kN gA BD mA T bs)(lA:mA.le h)(ms:List Hp) :
  FnV Tryz.prog 148 #[.agg (Rl x).toArray,.agg (Rl y).toArray,.pointer (some ⟨g,0,none⟩)] h ms (.int .i64 (Oy (fun c=>(Bf T c).getD 0) x y)):=by
 refine F6 ?_ ms;have o1:=x.one;have o2:=y.one;show FnT _ _ #[.agg #[.int .i64 x.c.id,.int .i64 x.c.dim,x.v],.agg #[.int .i64 y.c.id,.int .i64 y.c.dim,y.v],.pointer (some ⟨g,0,none⟩)] _ _ _;refine Ao func148 ntmps148 rfl rfl (fun w0 hw0=>?_);simp only[AU];refine As (AS [_,_,_] rfl rfl (by rfl) rfl rfl rfl (fun g3=>AS [_,_,_] rfl rfl (by rfl) rfl rfl rfl (fun g4=>Qm rfl (An (Aw fun h1 l1 hG4=>(Aw fun h2 l2 hG3=>?_))))));have hG4:=hG4.le l2;have l12:=AJ l1 l2;have e10:∀ms,Cell h2 ms (⟨g,0,none⟩:Addr) (.pointer (some ⟨gm,0,none⟩)):=fun ms=>(e10 ms).le l12;have e2:∀ms,Cell h2 ms (⟨gm,2,none⟩:Addr) (.map (some gA)):=fun ms=>(e2 ms).le l12;have e30:∀ms,Cell h2 ms (⟨g3,0,none⟩:Addr) (.int .i64 x.c.id):=fun ms=>Seg.all hG3 0 _ rfl ms;have e31:∀ms,Cell h2 ms (⟨g3,1,none⟩:Addr) (.int .i64 x.c.dim):=fun ms=>Seg.all hG3 1 _ rfl ms;have e40:∀ms,Cell h2 ms (⟨g4,0,none⟩:Addr) (.int .i64 y.c.id):=fun ms=>Seg.all hG4 0 _ rfl ms;have e41:∀ms,Cell h2 ms (⟨g4,1,none⟩:Addr) (.int .i64 y.c.dim):=fun ms=>Seg.all hG4 1 _ rfl ms;refine Ac (Bc 24 CP (by kernel_rfl) rfl (Wl rfl Ug (e10 _) (Wm rfl (Wf Kl rfl (Wl rfl LV (e2 _) (Wf Bz rfl (Wl rfl U3 (e30 _) (AP (Cb (V:=kN) (z:=(0:Int)) (u:=(Bf T x.c.id).getD 0) x.c.id rfl Bi O (AJ lA l12) rfl LV HZ rfl rfl x.i) rfl rfl (Wl rfl Ug (e10 _) (Wm rfl (Wf Kl rfl (Wl rfl LV (e2 _) (Wf Bz rfl (Wl rfl U3 (e40 _) (AP (Cb (V:=kN) (z:=(0:Int)) (u:=(Bf T y.c.id).getD 0) y.c.id rfl Bi O (AJ lA l12) rfl LV HZ rfl rfl y.i) rfl rfl (AP (AF rfl call150 rfl (F7 _ _ _ _)) rfl rfl (Wf BM rfl (Wl rfl U3 (e31 _) (Wf BM rfl (Wl rfl U3 (e41 _) (AP (AF rfl call150 rfl (F7 _ _ _ _)) rfl rfl (Wf Bz rfl (Wl rfl U3 (e30 _) (Wf Bz rfl (Wl rfl U3 (e40 _) (AZ (Qx (AF rfl call150 rfl (F7 _ _ _ _)) rfl (AE [(0,_),(1,_),(2,_)] [.int .i64 0,.int .i64 0,.int .i64 0] [_,_,_] rfl AY Be rfl (by omega) (by kernel_rfl) Qt rfl rfl rfl rfl (fun g31=>?_)))))))))))))))))))))))))))));refine Qx (AF rfl call149 rfl (AbG _ _ _ _ _ _ (by repeat (first|exact Mh|refine List.Mem.tail _ ?_)))) rfl ?_;refine Qm rfl (An (Am ?_));exact Ap rfl rfl (rfl)
def Ed(T:List (Int×Int))(c:Int):Int:=(Bf T c).getD 0
theorem TQ(T:List (Int×Int))(gA gm g0:Nat)(mA:Hp)(bs:List Nat)(l:List CeI)(v:Value)(m h:Hp)(e10:∀ms,Cell h ms (⟨g0,0,none⟩:Addr) (.pointer (some ⟨gm,0,none⟩)))(e2:∀ms,Cell h ms (⟨gm,2,none⟩:Addr) (.map (some gA)))(OA:Ci kN kN gA BD mA T bs)(lA:mA.le h)(O:OwnL Rl 3 52 m v l)(hl:l.length<=1000000) :
  FnT Tryz.prog 147 #[v,.func (.func 148) #[] #[.pointer (some ⟨g0,0,none⟩)]] h [m] (fun _ h' ms'=>h=h'/\∃(l':List CeI) (m':Hp),ms'=[m']/\OwnL Rl 3 52 m' v l'/\l'.Perm l/\l'.Pairwise fun a b=>¬Oy (Ed T) b a<0):=by
 intro w hw;obtain⟨⟨h1,h2⟩,hF⟩:=O;rcases h2 with ⟨rfl,h4,rfl⟩|⟨g,cap,spare,rfl,rfl,e1,e2',e3⟩
 ·obtain rfl:l=[]:=List.length_eq_zero_iff.1 h4;refine(AnyF.slices_SortFunc_none Tryz.laysSlF06 none 0 (.func (.func 148) #[] #[.pointer (some ⟨g0,0,none⟩)]) w).mono fun x w' ⟨e,ew⟩=>?_;subst ew;exact⟨_,h,[Hp.emp],e,Ends.refl hw,rfl,[],Hp.emp,rfl,OwnL.nil EB,List.Perm.refl _,List.Pairwise.nil⟩
 ·have hg:w.heap[g]?=some (.cells (l.toArray.toList.flatMap Rl++spare).toArray 52 (0,0)):=hw.own _ (List.mem_singleton.2 rfl) g _ (Hp.one_self _ _);have hlt:=(Array.getElem?_eq_some_iff.1 hg).1
  have hlays:CmpLays Tryz.prog 148 #[.pointer (some ⟨g0,0,none⟩)] Rl 3 (Oy (Ed T)) g 0 l.toArray.size w:=fun mm os dk hs x y=>by have hE:=Mi (enc:=Rl) (n:=mm) (el:=52) EB (by omega) l.toArray dk hs spare os hw;exact(AaN T gA gm g0 mA bs x y h e10 e2 OA lA [] _ (hE.st.weaken (CY) (List.nil_sublist _))).mono fun _ _ ⟨e,h⟩=>⟨e,h.grown⟩
  refine(AnyQ.slices_SortFunc Tryz.laysSlF06 3 Tryz.isAgg52 Tryz.sizeOf52 Rl EB XB (Oy (Ed T)) (VK _) 148 #[.pointer (some ⟨g0,0,none⟩)] g 0 cap l.toArray w call148 hlays (TP EB (by omega) l.toArray spare hg) hlt (by simp;omega)).mono fun x w' ⟨e,d',n,os,P,S,ew⟩=>?_;subst ew;have hsz:d'.size=l.length:=by have:=P.1;simpa using this
  have hE:=Mi (enc:=Rl) (n:=n) (el:=52) EB (by omega) l.toArray d' (by simpa using hsz) spare os hw;refine⟨_,h,_,e,hE,rfl,d'.toList,_,rfl,⟨⟨?_,.inr ⟨g,cap,spare,?_,rfl,?_,?_,e3⟩⟩,EB⟩,?_,?_⟩
  ·exact A5 EB _
  ·have:d'.toList.length=l.length:=by rw[Array.length_toList,hsz]
   rw[this]
  ·rw[length_append,A5 EB,Array.length_toList,hsz,<-A5 EB l,<-length_append];exact e1
  ·rw[Array.length_toList,hsz];exact e2'
  ·have h:=P.2.2;have q1:d'.extract 0 l.toArray.size=d':=by rw[<-P.1];simp
   have q2:l.toArray.extract 0 l.toArray.size=l.toArray:=by simp
   rw[q1,q2]at h;exact h
  ·rw[List.pairwise_iff_getElem];intro i j hi hj hij;have hi':i<d'.size:=by simpa using hi
   have hj':j<d'.size:=by simpa using hj
   have h:=S i j (by omega) hij (by simp;omega);have q1:d'[i]! = d'[i]:=by simp[hi']
   have q2:d'[j]! = d'[j]:=by simp[hj']
   rw[q1,q2]at h;exact of_decide_eq_false h
end Go.Proofs.Q
namespace Go.Proofs.Q
open Go.Eng Go.RowKit Go.Lin Go.Sort Go.Srt
variable {p:Int} {S:List Ce} {i j:Nat}
def ColsO:Hp->List Value->List (List Int)->Prop
 | m,[],[]=>m=Hp.emp
 | m,v::vs,c::cs=>∃a b,m=a.join b/\a.disj b/\OwnL cI 1 3 a v c/\ColsO b vs cs
 | _,_,_=>False
theorem ColsO.len:∀{vs:List Value} {cs:List (List Int)} {m:Hp},ColsO m vs cs->vs.length=cs.length
 | [],[],_,_=>rfl
 | _::_,_::_,_,⟨_,_,_,_,_,h⟩=>by simp[h.len]
 | [],_::_,_,h=>h.elim
 | _::_,[],_,h=>h.elim
theorem ColsO.snoc{v:Value}{c:List Int}{b:Hp}(O:OwnL cI 1 3 b v c):∀{vs:List Value} {cs:List (List Int)} {m:Hp},ColsO m vs cs->m.disj b->ColsO (m.join b) (vs++[v]) (cs++[c])
 | [],[],m,h,hd=>by have h:m=Hp.emp:=h;subst h;exact⟨b,Hp.emp,by rw[Hp.join_emp,Hp.emp_join],fun g=>.inr rfl,O,rfl⟩
 | _::_,_::_,m,⟨a,b',e,hd',O',h⟩,hd=>by subst e;refine⟨a,b'.join b,Hp.join_assoc _ _ _,?_,O',h.snoc O (Hp.disj_right hd)⟩;exact Hp.disj_symm (Hp.disj_join (Hp.disj_symm hd') (Hp.disj_symm (Hp.disj_left hd)))
 | [],_::_,_,h,_=>h.elim
 | _::_,[],_,h,_=>h.elim
def D9(S:List Ce):Nat->List (Int×Int)
 | 0=>[]
 | j+1=>CQ (D9 S j) (S.getD j default).c.id (j:Int)
theorem Ie(S:List Ce)(c:Int):∀j,0<=(Bf (D9 S j) c).getD 0/\(0<j->(Bf (D9 S j) c).getD 0<j)
 | 0=>by simp[D9,Bf]
 | j+1=>by
  have ih:=Ie S c j;unfold D9;rw[DD];split
  ·simp only[Option.getD_some];omega
  ·refine⟨ih.1,fun _=>?_⟩;rcases Nat.eq_zero_or_pos j with rfl|h
   ·simp[D9,Bf]
   ·have:=ih.2 h;omega
theorem KV(hn:(S.map fun a=>a.c.id).Nodup)(hi:i<S.length):∀j,i<j->j<=S.length->Bf (D9 S j) S[i].c.id=some (i:Int)
 | 0,h,_=>by omega
 | j+1,h,hj=>by
  unfold D9;rw[DD];have ej:S.getD j default=S[j]:=by simp[List.getD,show j<S.length from by omega]
  rw[ej];split
  ·rename_i e
   have h1:i=j:=by have h2:=List.pairwise_iff_getElem.1 hn;refine Classical.byContradiction fun hne=>?_;have h3:=h2 i j (by simpa using hi) (by simp;omega) (by omega);simp only[getElem_map]at h3;exact h3 e
   rw[h1]
  ·rename_i e;rcases (by omega:i<j\/i=j) with h1|rfl
   ·exact KV hn hi j h1 (by omega)
   ·exact absurd rfl e
def pl(S:List Ce)(j:Nat)(c:Int):Nat:=((Bf (D9 S j) c).getD 0).toNat
theorem Si(S:List Ce)(j:Nat)(c:Int):((pl S j c:Nat):Int)=(Bf (D9 S j) c).getD 0:=Int.toNat_of_nonneg (Ie S c j).1
theorem Aa4(S:List Ce)(hj:0<j)(c:Int):pl S j c<j:=by have h1:=(Ie S c j).2 hj;have h2:=Si S j c;omega
theorem ZU(hn:(S.map fun a=>a.c.id).Nodup)(hij:i<j)(hj:j<=S.length):pl S j (S.getD i default).c.id=i:=by
 have hi:i<S.length:=by omega
 unfold pl;rw[show S.getD i default=S[i] by simp[List.getD,hi],KV hn hi j hij hj];rfl
def Ft(p:Int)(S:List Ce)(j k:Nat):List Int:=((S.getD j default).c.sd.take k).foldl (fun c s=>c.set (pl S (j+1) s.1) ((s.2+p)%p)) (replicate S.length 0)
def J5(p:Int)(S:List Ce)(j:Nat):List Int:=Ft p S j (S.getD j default).c.sd.length
def Fp(n j:Nat):List Int:=(replicate n 0).set j 1
theorem Mv{k:Nat}(hk:k<(S.getD j default).c.sd.length):Ft p S j (k+1)=(Ft p S j k).set (pl S (j+1) ((S.getD j default).c.sd[k]).1) (((S.getD j default).c.sd[k].2+p)%p):=by unfold Ft;rw[take_succ_eq_append_getElem hk,foldl_append];rfl
theorem Gf(p:Int)(S:List Ce)(j k:Nat):(Ft p S j k).length=S.length:=by
 unfold Ft
 have:∀(l:List (Int×Int)) (c:List Int),(l.foldl (fun c s=>c.set (pl S (j+1) s.1) ((s.2+p)%p)) c).length=c.length:=fun l=>by
  induction l with
  | nil=>intro c;rfl
  | cons a l ih=>intro c;rw[List.foldl_cons,ih,length_set]
 rw[this,List.length_replicate]
theorem Rk{x:Int}{l:List Int}(h:Lp p l)(hx:0<=x/\x<p):Lp p (l.set i x):=fun y hy=>by
 rcases List.mem_or_eq_of_mem_set hy with h1|rfl
 ·exact h y h1
 ·exact hx
theorem Sm(hp:0<p)(n:Nat):Lp p (replicate n 0):=fun y hy=>by rw[(List.mem_replicate.1 hy).2];omega
theorem N1(hp:0<p)(S:List Ce)(j k:Nat):Lp p (Ft p S j k):=by
 unfold Ft
 have:∀(l:List (Int×Int)) (c:List Int),Lp p c->Lp p (l.foldl (fun c s=>c.set (pl S (j+1) s.1) ((s.2+p)%p)) c):=fun l=>by
  induction l with
  | nil=>intro c h;exact h
  | cons a l ih=>intro c h;exact ih _ (Rk h ⟨Int.emod_nonneg _ (by omega),Int.emod_lt_of_pos _ hp⟩)
 exact this _ _ (Sm hp _)
theorem Mm(n j:Nat):(Fp n j).length=n:=by unfold Fp;simp
theorem Te(hp:2<=p)(n j:Nat):Lp p (Fp n j):=Rk (Sm (by omega) n) (by omega)
theorem GS{α:Type}(f:Nat->α)(j:Nat):(range (j+1)).map f=(range j).map f++[f j]:=by rw[List.range_succ,map_append];rfl
end Go.Proofs.Q
