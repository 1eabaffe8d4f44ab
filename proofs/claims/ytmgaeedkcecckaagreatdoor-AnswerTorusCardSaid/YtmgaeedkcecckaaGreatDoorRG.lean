/- A part of the proof. -/
import Derived.Test.YtmgaeedkcecckaaGreatDoorRF
import Derived.Laws.StructEq
import Derived.ChangeKeysEq
set_option linter.unusedSimpArgs false
set_option linter.unusedVariables false
set_option linter.unusedSectionVars false
set_option maxRecDepth 100000
set_option maxHeartbeats 4000000

open List (length_map length_singleton getElem_mem length_append nil_append length_take mem_cons cons_append map_append take_succ_eq_append_getElem append_nil map_cons take_length filter_append take_zero take_of_length_le)
namespace Go.Proofs.Q
open Go.Proofs.Tryz
open Go.Eng Go.RowKit
section
open Go.Lin Go.Wd Go.Sm Go.Ch
def DQ(p:Tm):List Value:=.int .i64 p.1::Bi p.2
theorem EC:∀p,(DQ p).length=3:=λ_=>rfl
theorem DO(p:Tm):∀c∈DQ p,c.oneCell'=true:=λc hc=>by
 rcases bg.1 hc with rfl|hc
 ·rfl
 ·exact ES p.2 c hc
theorem MS(w:World):(zeroValue 33).run Tryz.prog w=.ok (WD 0) w:=by rfl
theorem KM{B n:Nat}{x:Int}(h:x.natAbs<=n)(hn:n<2^B)(hB:B<=3000000):Sz x:=Sz.of (B:=B) (Nat.lt_of_le_of_lt h hn) hB
theorem Ke(gT:Nat)(m:Hp)(T:List Tm)(bs:List Nat)(c n:Int)(hc:Cd c)(hn:Sz n)(ht:Sz (tv T c))(O:CF kN WD gT Cd m T bs)(h:Hp) :
  FnT Tryz.prog 102 #[.map (some gT),.w c,WD n] h [m] (λ_ h' ms'=>h=h'/\∃m' bs',ms'=[m']/\CF kN WD gT Cd m' (JO T c n) bs'):=by
 have osn:(sv (A7 n.natAbs)).oneCell'=true:=rfl;have ost:(sv (A7 (tv T c).natAbs)).oneCell'=true:=rfl;have oss:(sv (A7 (tv T c+n).natAbs)).oneCell'=true:=rfl;refine Ap func102 ntmps102 Y Y<|λw0 hw0=>?_;simp only[AR];refine Ar<|AK [_,_] Y Y (by rfl) Y Y Y<|λg5=>GX<|Qm Y<|Qm Y<|Qm Y<|Qm Y<|Qx (Kt (V:=WD) (z:=(0:Int)) c BH O (.tail _<|.head _) Y HQ MS Y Y hc) Y<|Qx (oG Y By Az<|Seg.blk 0 Y) Y<|Qx (As Y call156 Y<|N1 (tv T c) n ht hn _ _) Y<|C5 (V:=WD) (z:=undef) 1 c (tv T c+n) BH O Y Y HQ Y Y Y hc Y Y<|λm' bs' O'=>An<|AQ ?_;exact Cv Y (⟨Y,m',bs',Y,O'⟩)
structure ChR(v:Value)(h:Hp)(l:List Tm):Prop where
 rd:RdL DQ 3 h [] v l
 len:l.length<=100000
 ids:∀p∈l,Cd p.1
 abs:Bf l<2^2000000
theorem ChR.up{v:Value}{h h':Hp}{l:List Tm}(R:ChR v h l)(q:h.le h'):ChR v h' l:=⟨R.rd.up q,R.len,R.ids,R.abs⟩
theorem ChR.sz{v:Value}{h:Hp}{l:List Tm}(R:ChR v h l){p:Tm}(hp:p∈l):Sz p.2:=KM (HE hp) R.abs δ
theorem F8(l:List Tm)(k:Nat):Bf (l.take k)<=Bf l:=by have:=aw Bf (dp k l);rw[Bn]at this;omega
theorem Ng(ls:List (List Tm))(i:Nat)(k:Nat):Bf ((ls.take i).flatten++(ls.getD i []).take k)<=Bf ls.flatten:=by
 have h1:ls.flatten=(ls.take i).flatten++(ls.drop i).flatten:=by rw[<-List.flatten_append,dp]
 rw[h1,Bn,Bn]
 have h2:Bf ((ls.getD i []).take k)<=Bf (ls.drop i).flatten:=by
  by_cases hi:i<ls.length
  ·rw[eo hi,List.flatten_cons,Bn];have:=F8 (ls.getD i []) k;rw[show ls.getD i []=ls[i] by simp[List.getD,hi]]at this ⊢;omega
  ·rw[show ls.getD i []=[] by simp[List.getD,hi]];simp[Bf]
 omega
set_option exponentiation.threshold 4000000 in
theorem HF(v:Value)(vs:List Value)(ls:List (List Tm))(h:Hp)(R:RdL cU 1 h [] v vs)(hl:vs.length=ls.length)(hn:ls.length<=1000)(H:∀i (hi:i<vs.length),ChR vs[i] h (ls.getD i []))(hA:Bf ls.flatten<2^2000000) :
  FnT Tryz.prog 92 #[v] h [] (λr h' ms'=>h.le h'/\∃gT m bs,r=.map (some gT)/\ms'=[m]/\CF kN WD gT Cd m (Ja ls.flatten) bs):=by
 obtain⟨n,hnn⟩:∃n,ls.length=n:=⟨_,Y⟩
 have rV:∀h',h.le h'->Rd h' [] v 1 n (vs.flatMap cU):=λh' l=>by have:=(R.up l).rd;rwa [hl,hnn]at this
 have ov:=R.rd.one;refine Ap func92 ntmps92 Y Y<|λw0 hw0=>?_;simp only[AR];refine Ar<|Qm Y<|Bp<|Dx (K:=kN) (V:=WD) (Ok:=Cd) Y Y Y Y<|λgT m0 O0=>Qm Y<|Am<|Ac<|Ar<|Qm Y<|Qx (Aq (rV _<|BE).any Y O5 Y) Y<|Qm Y<|Am<|Ag ?_;refine AB (λq sl h' ms'=>∃(i:Nat) (m:Hp) (bs:List Nat),n-i=q/\sl=[(3,.map (some gT)),(9,v),(10,.w n),(11,.w i)]/\h.le h'/\ms'=[m]/\i<=n/\CF kN WD gT Cd m (Ja (ls.take i).flatten) bs) (n-0) _ ⟨0,m0,[],Y,Y,BE,Y,ω,O0⟩ Qs ?_;rintro q sl h' ms' ⟨i,m,bs,rfl,rfl,lh,rfl,hi,hO⟩;refine Ar<|Qm Y<|Am<|Ac ?_;refine Aw Y (λhlt=>?_)<|λhlt=>?_
 ·have hin:i<n:=ω
  have hiv:i<vs.length:=ω
  obtain⟨w,hw⟩:∃w,vs[i]=w:=⟨_,Y⟩
  obtain⟨l,hli⟩:∃l,ls.getD i []=l:=⟨_,Y⟩
  have Hi:=(H i hiv).up lh;rw[hw,hli]at Hi
  have cE:∀ms,Cell h' ms ((AH v).add (i*1)) w:=λms=>by rw[<-hw];exact((R.up lh).any (ms:=ms)).cell0 hiv Y
  obtain⟨p,hp⟩:∃p,l.length=p:=⟨_,Y⟩
  have hpl:p<=100000:=by rw[<-hp];exact Hi.len
  have rW:∀h2,h'.le h2->Rd h2 [] w 3 p (l.flatMap DQ):=λh2 q=>by have:=(Hi.rd.up q).rd;rwa [hp]at this
  have ow:=Hi.rd.rd.one;refine Ah<|Ab<|Ac<|Ag<|Ar<|Qx (AM (i) (rV _ lh).any Y O5 SD Y Y ω ω) Y<|Ql Y CN (cE _)<|Qm Y<|Bp<|Qm Y<|Qx (Aq (rW _<|BE).any Y CN Y) Y<|Qm Y<|Am<|Ag ?_
  have hbd:∀k,Bf ((ls.take i).flatten++l.take k)<2^2000000:=λk=>by have:=Ng ls i k;rw[hli]at this;omega
  refine AB (fun q sl h2 ms'=>∃(k:Nat) (m:Hp) (bs:List Nat),p-k=q/\sl=[(3,.map (some gT)),(9,v),(10,.int .i64 n),(11,.int .i64 i),(15,w),(16,.int .i64 p),(17,.int .i64 k)]/\h'.le h2/\ms'=[m]/\k<=p/\CF kN WD gT Cd m (Ja ((ls.take i).flatten++l.take k)) bs) (p-0) _ ⟨0,m,bs,rfl,rfl,BE,rfl,by omega,by rw[take_zero,append_nil];exact hO⟩ Qs ?_;rintro q sl h2 ms' ⟨k,m,bs,rfl,rfl,l2,rfl,hk,hO⟩;refine Ar (Qm rfl (Am (Ac ?_)));refine Aw rfl (fun hlt2=>?_) (fun hlt2=>?_)
  ·have hkp:k<p:=ω
   have hkl:k<l.length:=ω
   obtain⟨t,ht⟩:∃t,l[k]=t:=⟨_,Y⟩
   have htm:t∈l:=ht ▸ ao hkl;have gE:∀ms,Seg h2 ms ((AH w).add (k*3)) (DQ t):=λms=>by rw[<-ht];exact((Hi.rd.up l2).any (ms:=ms)).seg hkl
   have ost:(sv (A7 t.2.natAbs)).oneCell'=true:=rfl;have etk:l.take (k+1)=l.take k++[t]:=by rw[ak hkl,ht]
   refine Ah<|Ab<|Ac<|Ag<|Ar<|Qx (AM (k) (rW _ l2).any Y CN Co Y Y ω ω) Y<|Qx (oG Y U79 Co<|gE _) Y<|BS [.w 0,.bool false,.es] Y Co Y Y<|λg7=>?_;refine Sa 0 [_,_,_] Co Y (by simp[ov,ow,ost]) ?_;refine Am<|AF λh3 l3 hS7=>?_
   have sg7:∀ms,Seg h3 ms ((⟨g7,0,none⟩:Addr).add 1) (Bi t.2):=λms i v hv=>by
    have:=(hS7 (1+i) v (by rw[Nat.add_comm];exact hv)).any (ms:=ms)
    rwa [BF]
   have c7:∀ms,Cell h3 ms ((⟨g7,0,none⟩:Addr).add 0) (.w t.1):=λms=>(hS7 0 _ Y).any;refine Ad<|Qm Y<|Qf Ga Y<|Ql Y U3 (c7 _)<|Qf GY Y<|Qx (oG Y By Az<|sg7 _) Y ?_;refine AC (pre:=[m]) Y call102 Y (Ke gT m _ bs t.1 t.2 (Hi.ids t htm) (Hi.sz htm) (KM (bl (by rw[E9];exact CW _ _)<|Nat.le_of_lt<|hbd k) (show 2^2000000<2^2000001 from Nat.pow_lt_pow_right δ δ) δ) hO h3) Y Y Y Y<|λz h4 ms4 l4 hF=>?_;obtain⟨rfl,m',bs',rfl,hO'⟩:=hF;rw[<-JQ,cz,<-etk]at hO';refine An<|Ai<|Ab<|Ad<|Qx (oA Y) Y<|Qm Y<|An ?_;exact Ao (p-(k+1)) _ ω ⟨k+1,m',bs',Y,Y,AD l2 l3,Y,ω,hO'⟩ Qs
  ·obtain rfl:k=p:=ω
   have e1:(ls.take i).flatten++l.take k=(ls.take (i+1)).flatten:=by
    have hil:i<ls.length:=ω
    rw[take_of_length_le (show l.length<=k by omega),take_succ_eq_append_getElem hil,List.flatten_append,List.flatten_cons,List.flatten_nil,append_nil,<-hli];simp[List.getD,hil]
   rw[e1]at hO;refine Ax<|Aa<|Aa<|Af<|Ai<|Ab<|Ad<|Qx (oA Y) Y<|Qm Y<|An ?_;exact Ao (n-(i+1)) _ ω ⟨i+1,m,bs,Y,Y,AD lh l2,Y,ω,hO⟩ Qs
 ·obtain rfl:i=n:=ω
  rw[show ls.take i=ls from take_of_length_le ω]at hO;refine Ax<|Aa<|Aa<|Af<|Ab<|Ar<|Qm Y<|Qm Y<|Am<|Aj ?_;exact Al Y Y (⟨lh,gT,m,bs,Y,Y,hO⟩)
def JM(T:List Tm)(ks:List Int):List Tm:=(ks.filter λc=>decide (tv T c≠0)).map λc=>(c,tv T c)
theorem MH(T:List Tm)(ks:List Int)(c:Int):JM T (ks++[c])=JM T ks++if tv T c≠0 then [(c,tv T c)] else []:=by unfold JM;rw[filter_append,dd];congr 1;by_cases h:tv T c=0<;>simp[h]
theorem Nt(T:List Tm)(ks:List Int):(JM T ks).length<=ks.length:=by unfold JM;rw[be];exact fd _ _
theorem WI{T:List Tm}{c:Int}(h:c ∉ T.map Prod.fst):tv T c=0:=by unfold tv;rw[DZ h];rfl
theorem Xc{T:List Tm}{ks:List Int}(hp:ks.Perm (T.map Prod.fst))(hs:ks.Pairwise (·<=·))(hn:(T.map Prod.fst).Nodup):CanL (JM T ks) (tv T):=by
 have hn':ks.Nodup:=hp.nodup_iff.2 hn
 have hlt:ks.Pairwise (· < ·):=by have:=List.Pairwise.and hs hn';exact this.imp λ⟨a,b⟩=>ω
 refine⟨?_,λp hp'=>?_,λc hc=>?_⟩
 ·unfold JM;exact dz.2 ((hlt.filter _).imp id)
 ·obtain⟨c,hc,rfl⟩:=ag.1 hp';exact⟨Y,dq (dh.1 hc).2⟩
 ·refine ag.2 ⟨c,dh.2 ⟨hp.mem_iff.2 ?_,bq hc⟩,Y⟩;exact aq λh=>hc<|WI h
theorem Mb(gT:Nat)(m:Hp)(T:List Tm)(bs:List Nat)(h:Hp)(O:CF kN WD gT Cd m T bs)(hm:m.le h)(hT:T.length<=1000000)(hS:∀c,Sz (tv T c)) :
  FnT Tryz.prog 103 #[.map (some gT)] h [] (λr h' ms'=>h.le h'/\∃l m',ms'=[m']/\OwnL DQ 3 79 m' r l/\CanL l (tv T)/\l.length<=T.length):=by
 refine Ap func103 ntmps103 Y Y<|λw0 hw0=>?_;simp only[AR];refine Ar<|Qm Y<|Bp<|Qm Y<|Am<|Ac<|Ar<|Qm Y<|Qc call158 Y (Acg (some gT) h)<|λvf h1 ms1 l1 hF=>?_;obtain⟨rfl,g1,rfl,rfl⟩:=hF;refine Bg λh2 l2 hS1=>?_;have hm2:=AD hm l2;refine Qc call157 Y (Ti g1 gT m T bs h2 hS1 O hm2 hT)<|λvk h3 ms3 l3 hF=>?_;obtain⟨l3',ks,mk,rfl,Ok,hp,hs⟩:=hF;refine Bt Ok λh4 l4 RK=>?_;have l04:=AD l2 (AD l3' l4);obtain⟨n,hn⟩:∃n,ks.length=n:=⟨_,Y⟩
 have hnT:n=T.length:=by rw[<-hn,hp.length_eq,be]
 have rK:∀h',h4.le h'->Rd h' [] vk 1 n (ks.flatMap cI):=λh' l=>by have:=(RK.up l).rd;rwa [hn]at this
 have ok:=RK.rd.one;refine Qx (Aq (rK _<|BE).any Y AZ Y) Y<|Qm Y<|Am<|Ag<|BV ?_;refine AB (λq sl h' ms'=>∃(k:Nat) (w:Value) (mo:Hp),n-k=q/\sl=[(0,.map (some gT)),(3,w),(8,vk),(9,.w n),(10,.w k)]/\h4.le h'/\ms'=[mo]/\k<=n/\OwnL DQ 3 79 mo w (JM T (ks.take k))) (n-0) _ ⟨0,_,_,Y,Y,BE,Y,ω,OwnL.nil EC⟩ Qs ?_;rintro q sl h' ms' ⟨k,w,mo,rfl,rfl,lh,rfl,hk,hO⟩;have ow:=hO.o1;have hm':=AD hm (AD l04 lh);have hol:(JM T (ks.take k)).length<=1000000:=bl (Nt _ _) (by rw[ay];omega);refine Ar<|Qm Y<|Am<|Ac ?_;refine Aw Y (λhlt=>?_)<|λhlt=>?_
 ·have hkn:k<n:=ω
  have hkl:k<ks.length:=ω
  obtain⟨c,hc⟩:∃c,ks[k]=c:=⟨_,Y⟩
  have hcT:c∈T.map Prod.fst:=hp.mem_iff.1 (hc ▸ ao hkl)
  have hcI:Cd c:=by obtain⟨p,hp1,hp2⟩:=ag.1 hcT;exact hp2 ▸ O.ok p hp1
  have etk:ks.take (k+1)=ks.take k++[c]:=by rw[ak hkl,hc]
  have cE:∀ms,Cell h' ms ((AH vk).add (k*1)) (.w c):=λms=>by rw[<-hc];exact((RK.up lh).any (ms:=ms)).cell0 hkl Y
  have ost:(sv (A7 (tv T c).natAbs)).oneCell'=true:=rfl;refine Ah<|Ab<|Ac<|Ag<|Ar<|Qx (AM (k) (rK _ lh).any Y AZ Bk Y Y ω ω) Y<|Ql Y U3 (cE _)<|Qm Y<|Bp<|Qm Y<|Qm Y<|Qx (Gh (V:=WD) (z:=(0:Int)) c BH O hm' Y HQ MS Y Y hcI) Y<|Qx (As Y call60 Y<|Et (tv T c) (hS c) _ _) Y<|Qm Y<|Am ?_;refine Aw Y (λhne=>?_)<|λhne=>?_
  ·have hz:tv T c≠0:=λe=>hne (by rw[e];rfl);refine Ad<|Qm Y<|Qm Y<|Qm Y<|Qm Y<|Qx (Gh (V:=WD) (z:=(0:Int)) c BH O hm' Y HQ MS Y Y hcI) Y<|Qx (AN WX [.w 0,.bool false,.es] [(0,_),(1,_)] [_,_,_] Y Co Y Y Qt Y) Y<|Ay [_,_,_] Y CN Co Y (by rfl) Y Y ω Y Y Y<|λg25=>AJ 1 hO (RdL.one EC (x:=((c,tv T c):Tm)) Mh Y) Y CN Co Y ω Y Y Y DO (by simp only[ab];omega) (by simp only[ab];omega) rfl rfl rfl<|λw2 mo2 hO2=>?_;have ow2:=hO2.o1;refine Qm Y<|An<|Ai<|Ab<|Ad<|Qx (oA Y) Y<|Qm Y<|An<|AQ ?_;exact Ao (n-(k+1)) _ ω ⟨k+1,w2,mo2,Y,Y,lh,Y,ω,by rw[etk,MH,ah hz];exact hO2⟩ Qs
  ·have hz:tv T c=0:=by have:=ef.1 hne;exact Int.sign_eq_zero_iff_zero.1 this
   refine Ah (Ai (Ab (Ad (Qx (oA rfl) rfl (Qm rfl (An ?_))))));exact Ao (n-(k+1)) _ (by omega) ⟨k+1,w,mo,rfl,rfl,lh,rfl,by omega,by rw[etk,MH,if_neg (fun h=>h hz),append_nil];exact hO⟩ Qs
 ·obtain rfl:k=n:=ω
  rw[show ks.take k=ks from take_of_length_le ω]at hO;refine Ax<|Aa<|Aa<|Af<|Ab<|Ar<|Qm Y<|Qm Y<|Am<|Aj ?_;exact Al Y Y (⟨AD l04 lh,_,mo,Y,hO,Xc hp hs O.keys,by rw[<-hnT,<-hn];exact Nt _ _⟩)
theorem AaH{ls:List Tm}(hA:Bf ls<2^2000000)(c:Int):Sz (tv (Ja ls) c):=by rw[E9];exact KM (CW _ _) hA δ
theorem TH(v:Value)(l:List Tm)(h:Hp)(R:ChR v h l):FnT Tryz.prog 138 #[v] h [] (λr h' ms'=>h.le h'/\∃l' m',ms'=[m']/\OwnL DQ 3 79 m' r l'/\CanL l' (cf l)/\l'.length<=l.length):=by
 obtain⟨a,cc,rfl,_⟩:=R.rd.rd.ex;refine Ap func138 ntmps138 Y Y<|λw0 hw0=>?_;simp only[AR];refine Ar<|Qm Y<|Bp<|Qm Y<|Ay [_] Y O5 SD Y (by rfl) Y Y ω Y Y Y<|λg4=>Bg λh2 l2 hS=>?_;have hfl:([l]:List (List Tm)).flatten=l:=by simp
 refine Qc call92 Y (HF _ [_] [l] h2 (RdL.built hS Y Y GO δ) Y σ (λi hi=>by rcases i with _|i;exact R.up l2;simp at hi) (by rw[hfl];exact R.abs))<|λvm h3 ms3 l3 hF=>?_;obtain⟨l3',gT,m,bs,rfl,rfl,O⟩:=hF;rw[hfl]at O;refine Cr λh4 l4 lm=>?_;refine Qc call103 Y (Mb gT m _ bs h4 O lm (bl (IV l) (by have:=R.len;omega))<|AaH R.abs)<|λw h5 ms5 l5 hF=>?_;obtain⟨l5',l',m',rfl,OL,C,hlen⟩:=hF;have ow:=OL.o1;refine Qm Y<|Am<|Aj ?_;exact Al Y Y (⟨AD l2<|AD l3'<|AD l4 l5',l',m',Y,OL,C.congr<|E9 l,bl hlen<|IV l⟩)
def CanR(L:List Tm)(r:Value)(h:Hp):Prop:=∃l,CanL l (cf L)/\ChR r h l/\Bf l<=Bf L/\l.length<=L.length
theorem CanR.of{L l:List Tm}{r:Value}{h:Hp}(C:CanL l (cf L))(R:RdL DQ 3 h [] r l)(hl:L.length<=100000)(hi:∀p∈L,Cd p.1)(ha:Bf L<2^2000000)(hn:l.length<=L.length):CanR L r h:=
 ⟨l,C,⟨R,ω,λp hp=>by
  obtain⟨q,hq,e⟩:=ag.1 (C.ids hp)
  exact e ▸ hi q hq,Nat.lt_of_le_of_lt C.abl_le ha⟩,C.abl_le,hn⟩
theorem IW(v:Value)(l:List Tm)(h:Hp)(R:ChR v h l):FnT Tryz.prog 138 #[v] h [] (λr h' ms'=>h.le h'/\ms'=[]/\CanR l r h'):=
 FnT.frz (TH v l h R) λr h' ms' ⟨q,l',m',e,OL,C,hn⟩=>⟨m',[],e,λh2 l2 lm=>⟨AD q l2,rfl,CanR.of C (OL.rdh lm) R.len R.ids R.abs hn⟩⟩
theorem Vn(gT:Nat)(m:Hp)(T L:List Tm)(bs:List Nat)(h:Hp)(O:CF kN WD gT Cd m T bs)(hTL:∀c,tv T c=cf L c)(hTn:T.length<=L.length)(hm:m.le h)(hl:L.length<=100000)(hi:∀p∈L,Cd p.1)(ha:Bf L<2^2000000) :
  FnT Tryz.prog 103 #[.map (some gT)] h [] (λr h' ms'=>h.le h'/\ms'=[]/\CanR L r h'):=
 FnT.frz (Mb gT m T bs h O hm (bl hTn ω) (λc=>by rw[hTL];exact KM (CW _ _) ha δ)) λr h' ms' ⟨q,l',m',e,OL,C,hn⟩=>⟨m',[],e,λh2 l2 lm=>⟨AD q l2,Y,CanR.of (C.congr hTL) (OL.rdh lm) hl hi ha (bl hn hTn)⟩⟩
theorem Om(gT:Nat)(m:Hp)(L:List Tm)(bs:List Nat)(h:Hp)(O:CF kN WD gT Cd m (Ja L) bs)(hm:m.le h)(hl:L.length<=100000)(hi:∀p∈L,Cd p.1)(ha:Bf L<2^2000000) :
  FnT Tryz.prog 103 #[.map (some gT)] h [] (λr h' ms'=>h.le h'/\ms'=[]/\CanR L r h'):=
 Vn gT m (Ja L) L bs h O (E9 L) (IV L) hm hl hi ha
theorem Xx(v w:Value)(l k:List Tm)(h:Hp)(R:ChR v h l)(R2:ChR w h k)(hn:l.length+k.length<=100000)(ha:Bf (l++k)<2^2000000):FnT Tryz.prog 93 #[v,w] h [] (λr h' ms'=>h.le h'/\ms'=[]/\CanR (l++k) r h'):=by
 obtain⟨a,cc,rfl,_⟩:=R.rd.rd.ex;obtain⟨a2,cc2,rfl,_⟩:=R2.rd.rd.ex;refine Ap func93 ntmps93 Y Y<|λw0 hw0=>?_;simp only[AR];refine Ar<|Qm Y<|Bp<|Qm Y<|Qm Y<|AO [(0,_),(1,_)] [.nl,.nl] [_,_] Y O5 SD Y ω κ Qt Y Y Y Y<|λg7=>Bg λh2 l2 hS=>?_;have hfl:([l,k]:List (List Tm)).flatten=l++k:=by simp
 refine Qc call92 Y (HF _ [_,_] [l,k] h2 (RdL.built hS Y Y GO δ) Y σ (λi hi=>by rcases i with _|_|i;exact R.up l2;exact R2.up l2;simp at hi;omega) (by rw[hfl];exact ha))<|λvm h3 ms3 l3 hF=>?_;obtain⟨l3',gT,m,bs,rfl,rfl,O⟩:=hF;rw[hfl]at O;refine Cr λh4 l4 lm=>?_;refine Qc call103 Y (Om gT m _ bs h4 O lm (by rw[af];omega) (λp hp=>(bj.1 hp).elim (R.ids p)<|R2.ids p) ha)<|λz h5 ms5 l5 hF=>?_;obtain⟨l5',rfl,C⟩:=hF;have oz:z.oneCell'=true:=by obtain⟨_,_,q,_⟩:=C;exact q.rd.rd.one
 refine Qm Y<|Am<|Aj ?_;exact Al Y Y (⟨AD l2<|AD l3'<|AD l4 l5',Y,C⟩)
variable {T:List Tm} {n:Int} {vis:List Nat} {j:Nat}
def Kg(n:Int)(l:List Tm):List Tm:=l.map λp=>(p.1,n*p.2)
theorem MD(n:Int)(l:List Tm)(c:Int):cf (Kg n l) c=n*cf l c:=by
 induction l with
 | nil=>simp[Kg,FB]
 | cons p l ih=>
  show cf ((p.1,n*p.2)::Kg n l) c=_;rw[CI,CI,ih,Int.mul_add];congr 1;show(if p.1=c then n*p.2 else 0)=_;split<;>simp
theorem JC(n:Int)(l:List Tm):Bf (Kg n l)=n.natAbs*Bf l:=by
 induction l with
 | nil=>simp[Kg,Bf]
 | cons p l ih=>
  show Bf ((p.1,n*p.2)::Kg n l)=_;rw[Dv,Dv,ih,Nat.mul_add,Int.natAbs_mul]
def M6(n:Int)(T:List Tm)(vis:List Nat):List Tm:=T.mapIdx λj p=>(p.1,if j∈vis then n*p.2 else p.2)
theorem Iu(n:Int)(T:List Tm)(vis:List Nat):(M6 n T vis).length=T.length:=by simp[M6]
theorem AbR(n:Int)(T:List Tm):M6 n T []=T:=by refine List.ext_getElem? λk=>?_;simp[M6,List.getElem?_mapIdx]
theorem Zv(hj:j<T.length):(M6 n T vis)[j]'(by rw[Iu];exact hj)=(T[j].1,if j∈vis then n*T[j].2 else T[j].2):=by simp[M6]
theorem Acy(hj:j<T.length):(M6 n T vis).set j (T[j].1,n*T[j].2)=M6 n T (vis++[j]):=by
 refine List.ext_getElem? λk=>?_;rw[List.getElem?_set,Iu];by_cases e:j=k
 ·subst e;rw[ah rfl,ah hj];simp[M6,hj]
 ·rw[ae e];simp only[M6,List.getElem?_mapIdx,bj,bm];have:(k∈vis\/k=j)<->k∈vis:=⟨λh=>h.resolve_right λq=>e q.symm,.inl⟩
  simp only[this]
theorem YO(n:Int)(T:List Tm)(vis:List Nat):(M6 n T vis).map Prod.fst=T.map Prod.fst:=by refine List.ext_getElem? λk=>?_;simp only[M6,fk,List.getElem?_mapIdx,Option.map_map];cases T[k]?<;>rfl
theorem XX(n:Int)(T:List Tm)(c:Int):BJ (T.map λp=>(p.1,n*p.2)) c=(BJ T c).map (n*·):=by
 unfold BJ
 induction T with
 | nil=>rfl
 | cons p T ih=>
  rw[dr,List.find?_cons,List.find?_cons];by_cases e:p.1=c
  ·simp[e]
  ·simp only[e,decide_false];exact ih
theorem Abd(h:∀j,j<T.length->j∈vis)(c:Int):tv (M6 n T vis) c=n*tv T c:=by
 have e:M6 n T vis=T.map λp=>(p.1,n*p.2):=by
  refine List.ext_getElem? λk=>?_;simp only[M6,List.getElem?_mapIdx,fk];by_cases hk:k<T.length
  ·simp[h k hk,hk]
  ·simp[eq,hk]
 unfold tv;rw[e,XX];cases BJ T c<;>simp
theorem AeW(hn:(T.map Prod.fst).Nodup)(hj:j<T.length):tv T T[j].1=T[j].2:=by unfold tv;rw[ED hn (j:=j) (a:=T[j].1) (x:=T[j].2) (by simp[hj])];rfl
theorem TB(n:Int)(v:Value)(l:List Tm)(h:Hp)(R:ChR v h l)(hn:Sz n)(ha:n.natAbs*Bf l<2^2000000):FnT Tryz.prog 94 #[WD n,v] h [] (λr h' ms'=>h.le h'/\ms'=[]/\CanR (Kg n l) r h'):=by
 obtain⟨a,cc,rfl,_⟩:=R.rd.rd.ex;have osn:(sv (A7 n.natAbs)).oneCell'=true:=rfl;refine Ap func94 ntmps94 Y Y<|λw0 hw0=>?_;simp only[AR];refine Ar<|AK [_,_] Y Y (by rfl) Y Y Y<|λg2=>Qm Y<|Am<|AF λh1 l1 hS2=>?_;have hfl:([l]:List (List Tm)).flatten=l:=by simp
 refine Ar<|Qm Y<|Ay [_] Y O5 SD Y (by rfl) Y Y ω Y Y Y<|λg9=>Bg λh2 l2 hS=>?_;have l02:=AD l1 l2;refine Qc call92 Y (HF _ [_] [l] h2 (RdL.built hS Y Y GO δ) Y σ (λi hi=>by rcases i with _|i;exact R.up l02;simp at hi) (by rw[hfl];exact R.abs))<|λvm h3 ms3 l3 hF=>?_;obtain⟨l3',gT,m,bs,rfl,rfl,O⟩:=hF;rw[hfl]at O;have l13:=AD l2 l3';obtain⟨T,hT⟩:∃T,Ja l=T:=⟨_,Y⟩
 have hTn:T.length<=l.length:=hT ▸ IV l;rw[hT]at O;refine Qm Y<|Am<|Ac<|Ar<|Qm Y<|Aak O σ rfl HQ rfl rfl rfl rfl<|λgi mi I0=>Am<|Ag ?_
 refine AB (λq s hh ms'=>∃(vis:List Nat) (mi m':Hp),q=T.length-vis.length/\s=[(2,.pt g2),(5,.map (some gT)),(12,.pt gi)]/\h3.le hh/\ms'=[mi,m']/\CF kN WD gT Cd m' (M6 n T vis) bs/\En gi gT m' mi bs vis)
  (T.length-0) _ ⟨[],mi,m,rfl,rfl,BE,rfl,by rw[AbR];exact O,I0⟩ Qs ?_
 rintro q s hh ms' ⟨vis,mi,m',rfl,rfl,lh,rfl,O',I⟩;have lh1:=AD l13 lh;refine Ar ?_;refine Abf 0 O' I σ rfl rfl rfl rfl rfl rfl (λhall=>?_)<|λj hj mi' hjv I'=>?_
 ·refine Qm Y<|Am<|Ac<|AL Y<|Ax<|Aa<|Aa<|Af<|Ab<|Ar<|Qm Y<|N6 0 Y<|Cr λh4 l4 lm=>?_;have hall':∀j,j<T.length->j∈vis:=λj hj=>hall j (by rw[Iu];exact hj);refine Qc call103 Y (Vn gT m' (M6 n T vis) (Kg n l) bs h4 O' (λc=>by rw[Abd hall',<-hT,E9,MD]) (by rw[Iu,Kg,be];exact hTn) lm (by rw[Kg,be];exact R.len) (λp hp=>by obtain⟨q,hq,rfl⟩:=ag.1 hp;exact R.ids q hq) (by rw[JC];exact ha))<|λw h5 ms5 l5 hF=>?_;obtain⟨l5',rfl,C⟩:=hF;have oz:w.oneCell'=true:=by obtain⟨_,_,q,_⟩:=C;exact q.rd.rd.one
  refine Qm Y<|Am<|Aj ?_;exact Al Y Y (⟨AD l1<|AD lh1<|AD l4 l5',Y,C⟩)
 ·refine Qm Y<|Am<|Ac ?_;have hjT:j<T.length:=by rw[Iu]at hj;exact hj
  obtain⟨c,hc⟩:∃c,T[j].1=c:=⟨_,Y⟩
  obtain⟨x,hx⟩:∃x,T[j].2=x:=⟨_,Y⟩
  have htx:tv T c=x:=by rw[<-hc,<-hx];exact AeW O.keys hjT
  have hxs:Sz x:=by rw[<-htx,<-hT];exact AaH R.abs c
  have hcT:c∈T.map Prod.fst:=hc ▸ List.mem_map_of_mem (ao hjT);have hcI:Cd c:=hc ▸ O.ok _ (ao hjT);have heq:(.tuple #[kN ((M6 n T vis)[j]'hj).1,WD ((M6 n T vis)[j]'hj).2]:Value)=.tuple #[.w c,WD x]:=by rw[Zv hjT,ae hjv,hc,hx];rfl
  have osx:(sv (A7 x.natAbs)).oneCell'=true:=rfl;have osm:(sv (A7 (n*x).natAbs)).oneCell'=true:=rfl;refine AX Y<|Ah<|Ab<|Ag<|Ar<|Qx (Dk (Yo O' I' σ σ hj rfl rfl) heq) rfl<|Qm rfl<|Qm rfl<|BS [.bool false,.es] rfl Az rfl rfl<|λg7=>Qm rfl ?_;refine Sa 0 [_,_] Az Y (by simp[osn,osx,osm]) ?_;refine Am<|AF λh6 l6 hS7=>?_;have l26:=AD (AD l13 lh) l6;have sg2:∀ms,Seg h6 ms (⟨g2,0,none⟩:Addr) (Bi n):=λms=>(hS2.le l26).any;refine Ad<|Qm Y<|Qm Y<|Qx (oG Y By Az<|sg2 _) Y<|Qx (oG Y By Az<|hS7.any) Y<|Qx (As Y call141 Y<|JN n x hn hxs _ _) Y ?_;refine WE (V:=WD) (z:=undef) 1 c (n*x) BH O' (by rw[YO];exact hcT) Y Y HQ Y Y Y hcI Y Y<|λm2 O2 I2=>?_
  have e2:Dw (M6 n T vis) c (n*x)=M6 n T (vis++[j]):=by
   have e3:(M6 n T vis)[j]?=some (c,x):=by rw[aj hj,Zv hjT,ae hjv,hc,hx]
   rw[FH O'.keys e3,<-hc,<-hx,Acy hjT]
  rw[e2]at O2
  have hlen:(vis++[j]).length<=T.length:=by have:=I'.nodup.length_le_of_subset (l₂:=List.range T.length) λx hx=>cm.2 (by have:=I'.lt x hx;rw[O'.len,Iu]at this;exact this);simpa using this
  rw[af,ab]at hlen;refine An<|Ai ?_;exact Ao (T.length-(vis++[j]).length) _ (by rw[af,ab];omega) ⟨vis++[j],mi',m2,rfl,rfl,AD lh l6,rfl,O2,I2 _ _ _ I'⟩ Qs
end
section
open Go.Lin Go.Wd Go.Sm Go.Ch
def Td(l:List (Int×Int))(p:Int×Int->Bool):Int:=match l.findIdx? p with|some k=>k|none=>-1
theorem We{l:List (Int×Int)}{p:Int×Int->Bool}{k:Nat}(hk:k<l.length)(h:p l[k]=true)(hn:∀j (hj:j<l.length),j<k->p l[j]=false):Td l p=k:=by unfold Td;rw[ia.2 ⟨hk,h,λj hj=>by rw[hn j ω hj];decide⟩]
theorem WH{l:List (Int×Int)}{p:Int×Int->Bool}(h:∀j (hj:j<l.length),p l[j]=false):Td l p=-1:=by unfold Td;rw[List.findIdx?_eq_none_iff.2 λx hx=>by obtain⟨j,hj,rfl⟩:=List.getElem_of_mem hx;exact h j hj]
theorem Zc(l:List (Int×Int))(p:Int×Int->Bool):decide (0<=Td l p)=l.any p:=by
 unfold Td;cases h:l.findIdx? p with
 | none=>
  rw[List.findIdx?_eq_none_iff]at h;have:l.any p=false:=List.any_eq_false.2 λx hx=>by rw[h x hx];decide
  rw[this];rfl
 | some k=>
  obtain⟨hk,h1,_⟩:=ia.1 h;have:l.any p=true:=List.any_eq_true.2 ⟨_,ao hk,h1⟩;rw[this];exact bq (show(0:Int)<=(k:Int) by omega)
theorem XA(l:List (Int×Int))(vl:Value)(cf:FuncId)(cs:List Value)(pr:Int×Int->Bool)(h:Hp)(hR:RdL DQ 3 h [] vl l)(hn:l.length<=1000000)
  (hc:∀xs w,(callFunc cf xs).run Tryz.prog w=.ok (.enter cf xs) w)
  (hp:∀s∈l,∀ms,FnV Tryz.prog cf ([]++[Value.agg (DQ s).toArray]++cs).toArray h ms (.bool (pr s))) :
  FnT Tryz.prog 166 #[vl,.func (.func cf) #[] cs.toArray] h [] (λr _ _=>r=.w (Td l pr)):=by
 have o1:=hR.rd.one;refine Ap func166 ntmps166 Y Y<|λw0 hw0=>?_;simp only[AR];refine Ar<|Qm Y<|Am<|Ac<|Ar<|Qm Y<|Qx (Aq hR.rd.any Y CN Y) Y<|Qm Y<|Am<|Ag ?_
 refine AB (λq s h' ms'=>∃(k:Nat),q=l.length-k/\s=[(0,vl),(1,.func (.func cf) #[] cs.toArray),(7,.w l.length),(8,.w k)]/\h=h'/\ms'=[]/\k<=l.length/\∀j (hj:j<l.length),j<k->pr l[j]=false)
  (l.length-0) _ ⟨0,rfl,rfl,rfl,rfl,ω,λj _ hj=>ω⟩ Qs ?_
 rintro q s h' ms' ⟨k,rfl,rfl,rfl,rfl,hk,hno⟩;refine Ar<|Qm Y<|Am<|Ac ?_;refine Aw Y (λhlt=>?_)<|λhlt=>?_
 ·have hkn:k<l.length:=ω
  have hsx:∀ms,Seg h ms ((AH vl).add (k*3)) (DQ l[k]):=λms=>(hR.any (ms:=ms)).seg hkn;have osx:(sv (A7 (l[k]).2.natAbs)).oneCell'=true:=rfl;refine Ah<|Ab<|Ac<|Ag<|Ar<|Qm Y<|Qm Y<|Bp<|Qm Y<|Qm Y<|Qm Y<|Qx (BC (k) hR.rd.any Y CN Co Y Y) Y<|Qx (oG Y U79 Co<|hsx _) Y<|Qx (Cy Y Y hc Y<|hp _ (ao hkn) _) Y<|Am ?_;refine BW Y (λhpk=>?_)<|λhpk=>?_
  ·refine Ac<|Ad<|Qm Y<|Qm Y<|Am<|Aj<|Ak<|Ae<|Ae<|Ak<|Ae ?_;exact Al Y Y (by rw[We hkn hpk hno])
  ·refine Ah<|Ai<|Ab<|Ad<|Qx (oA Y) Y<|Qm Y<|An ?_;refine Ao (l.length-(k+1)) _ ω ⟨k+1,Y,Y,Y,Y,ω,λj hj hjk=>?_⟩ Qs;rcases (ω:j<k\/j=k) with h2|rfl
   ·exact hno j hj h2
   ·exact hpk
 ·obtain rfl:k=l.length:=ω
  refine Ax<|Aa<|Aa<|Af<|Ab<|Ar<|Qm Y<|Am<|Aj ?_;exact Al Y Y (by rw[WH λj hj=>hno j hj hj])
theorem KI(l:List (Int×Int))(vl:Value)(cf:FuncId)(cs:List Value)(pr:Int×Int->Bool)(h:Hp)(hR:RdL DQ 3 h [] vl l)(hn:l.length<=1000000)
  (hc:∀xs w,(callFunc cf xs).run Tryz.prog w=.ok (.enter cf xs) w)
  (hp:∀s∈l,∀ms,FnV Tryz.prog cf ([]++[Value.agg (DQ s).toArray]++cs).toArray h ms (.bool (pr s))) (ms:List Hp) :
  FnV Tryz.prog 120 #[vl,.func (.func cf) #[] cs.toArray] h ms (.bool (l.any pr)):=by
 refine DY ?_ ms;refine Ap func120 ntmps120 Y Y<|λw0 hw0=>?_;simp only[AR];refine Ar<|Qm Y<|Bp<|Qm Y<|Qm Y<|Qx (As Y call166 Y<|DY (XA l vl cf cs pr h hR hn hc hp) _) Y<|Qm Y<|Qm Y<|Am<|Aj ?_;exact Al Y Y (by rw[<-Zc])
def TU(T:List (Int×Bool))(c:Int):Bool:=(BJ T c).getD false
def inS(T:List (Int×Bool))(dim:Int)(x:Cl):List (Int×Bool):=Dw T x.id (TU T x.id||decide (x.dim=dim))
def inT(o:List Cl)(dim:Int):List (Int×Bool):=o.foldl (λT x=>inS T dim x) []
theorem RH(o:List Cl)(dim:Int)(x:Cl):inT (o++[x]) dim=inS (inT o dim) dim x:=by unfold inT;rw[List.foldl_append];rfl
def HS(o:List Cl)(dim c:Int):Bool:=o.any λx=>decide (x.id=c)&&decide (x.dim=dim)
theorem Aek(T:List (Int×Bool))(dim:Int)(x:Cl)(c:Int):TU (inS T dim x) c=(TU T c||(decide (x.id=c)&&decide (x.dim=dim))):=by
 unfold inS
 have:TU (Dw T x.id (TU T x.id||decide (x.dim=dim))) c=if c=x.id then(TU T x.id||decide (x.dim=dim)) else TU T c:=by unfold TU;rw[FW];split<;>rfl
 rw[this];by_cases e:c=x.id
 ·rw[ah e,e];simp
 ·rw[ae e,cg (λq=>e q.symm)];simp
theorem Ael(o:List Cl)(dim c:Int):TU (inT o dim) c=HS o dim c:=by
 have key:∀(o:List Cl) (T:List (Int×Bool)),TU (o.foldl (λT x=>inS T dim x) T) c=(TU T c||HS o dim c):=by
  intro o
  induction o with
  | nil=>intro T;simp[HS]
  | cons x o ih=>
   intro T;rw[ge,ih,Aek];show _=(TU T c||((decide (x.id=c)&&decide (x.dim=dim))||HS o dim c));rw[Bool.or_assoc]
 have:=key o [];unfold inT;rw[this];rfl
noncomputable def Eb(o:List Cl)(dim:Int)(L:List Tm):Bool:=@decide (∀c,cf L c≠0->HS o dim c=true) (Classical.propDecidable _)
theorem CQ(o:List Cl)(dim:Int)(L:List Tm):Eb o dim L=true<->∀c,cf L c≠0->HS o dim c=true:=@fq _ (Classical.propDecidable _)
theorem PB{o:List Cl}{dim:Int}{L l:List Tm}(C:CanL l (cf L)):(!(l.any λp=>!HS o dim p.1))=Eb o dim L:=by
 have h1:(!(l.any λp=>!HS o dim p.1))=true<->Eb o dim L=true:=by
  rw[CQ];simp only[Bool.not_eq_true',List.any_eq_false,Bool.not_eq_false,Bool.not_not,Bool.not_eq_true];constructor
  ·intro h c hc;have:=h _ (C.all c hc);simpa using this
  ·intro h p hp;obtain⟨e,n⟩:=C.val p hp;have:=h p.1 (e ▸ n);simp[this]
 cases ha:(!(l.any λp=>!HS o dim p.1))<;>cases hb:Eb o dim L<;>simp_all
theorem AeT(g7 gS:Nat)(m:Hp)(T:List (Int×Bool))(bs:List Nat)(h:Hp)(hS:Cell h [] (⟨g7,0,none⟩:Addr) (.map (some gS)))(O:CF kN vB gS Cd m T bs)(hm:m.le h)(p:Tm)(hp:Cd p.1)(ms:List Hp) :
  FnV Tryz.prog 139 #[.agg (DQ p).toArray,.pt g7] h ms (.bool (!TU T p.1)):=by
 refine DY ?_ ms;have osp:(sv (A7 p.2.natAbs)).oneCell'=true:=rfl;refine Ap func139 ntmps139 Y Y<|λw0 hw0=>?_;simp only[AR];refine Ar<|AK [_,_,_] Y Y (by rfl) Y Y Y<|λg2=>Qm Y<|Bp<|Ql Y Ta (hS.any)<|Qf Ga Y<|Ql Y U3 (Cell.blk 0 Y Y)<|Qx (Gh (V:=vB) (z:=false) p.1 BH O hm Y Ta UT Y Y hp) Y<|Qm Y<|Qm Y<|Am<|Aj ?_;exact Al Y Y<|Y
theorem L2(l:List Ce)(v va:Value)(dim:Int)(a:List Tm)(h:Hp)(hR:RdC h v l)(hn:l.length<=1000)(hI:∀x∈l,Cd x.c.id)(A:ChR va h a)(ms:List Hp):FnV Tryz.prog 86 #[.agg #[v],.int .i64 dim,va] h ms (.bool (Eb (l.map Ce.c) dim a)):=by
 refine DY ?_ ms;have ov:=hR.q.rd.one;obtain⟨aa,ac,rfl,_⟩:=A.rd.rd.ex;refine Ap func86 ntmps86 Y Y<|λw0 hw0=>?_;simp only[AR];refine Ar<|AK [_] Y Y (by rfl) Y Y Y<|λg3=>Qm Y<|Am<|AF λh1 l1 hS3=>?_;have c3:∀h',h1.le h'->∀ms,Cell h' ms ((⟨g3,0,none⟩:Addr).add 0) v:=λh' l ms=>((hS3 0 _ Y).any).le l;refine Ar<|Dx (K:=kN) (V:=vB) (Ok:=Cd) Y Y Y Y<|λgS m0 O0=>BS [.map none] Y AcC Y Y<|λg7=>Bh 0 0 Y AcC Y Y (by rfl) Y Y δ Y Y<|Am<|Av 0 Y λh2 l2 hS7=>?_;have c7:∀h',h2.le h'->∀ms,Cell h' ms (⟨g7,0,none⟩:Addr) (.map (some gS)):=λh' l ms=>((hS7.at0 Y).any).le l;have l02:=AD l1 l2;obtain⟨n,hnn⟩:∃n,l.length=n:=⟨_,Y⟩
 have rV:∀h',h2.le h'->Rd h' [] v 3 n (l.flatMap cC):=λh' q=>by have:=((hR.up l02).q.up q).rd;rwa [hnn]at this
 refine Ac<|Ar<|Qf Ct Y<|Ql Y B0 (c3 _ l2 _)<|Qx (Aq (rV _<|BE).any Y B0 Y) Y<|Qm Y<|Am<|Ag ?_;refine AB (λq sl h' ms'=>∃(k:Nat) (m:Hp) (bs:List Nat),n-k=q/\sl=[(1,.w dim),(2,.slice aa a.length ac),(7,.pt g7),(12,v),(13,.w n),(14,.w k)]/\h2.le h'/\ms'=[m]/\k<=n/\CF kN vB gS Cd m (inT ((l.map Ce.c).take k) dim) bs) (n-0) _ ⟨0,m0,[],Y,Y,BE,Y,ω,O0⟩ Qs ?_;rintro q sl h' ms' ⟨k,m,bs,rfl,rfl,lh,rfl,hk,O⟩;refine Ar<|Qm Y<|Am<|Ac ?_;refine Aw Y (λhlt=>?_)<|λhlt=>?_
 ·have hkn:k<n:=ω
  have hkl:k<l.length:=ω
  obtain⟨x,hx⟩:∃x,l[k]=x:=⟨_,Y⟩
  have hxm:x∈l:=hx ▸ ao hkl;have hxI:=hI x hxm;have ox:=(hR.s x hxm).rd.one;have gE:∀ms,Seg h' ms ((AH v).add (k*3)) (cC x):=λms=>by rw[<-hx];exact(((hR.up l02).q.up lh).any (ms:=ms)).seg hkl
  have etk:(l.map Ce.c).take (k+1)=(l.map Ce.c).take k++[x.c]:=by rw[ak (by simpa using hkl),List.getElem_map,hx]
  obtain⟨u,hu⟩:∃u,(BJ (inT ((l.map Ce.c).take k) dim) x.c.id).getD false=u:=⟨_,Y⟩
  refine Ah<|Ab<|Ac<|Ag<|Ar<|Qx (AM (k) (rV _ lh).any Y B0 A3 Y Y ω ω) Y<|Qx (oG Y Jz A3<|gE _) Y<|BS [.w 0,.w 0,.nl] Y A3 Y Y<|λg9=>?_;refine Sa 0 [_,_,_] A3 Y (by simp[ov,ox]) ?_;refine Am<|AF λh5 l5 hS9=>?_;have lh5:=AD lh l5;have c9:∀ms,Cell h5 ms ((⟨g9,0,none⟩:Addr).add 0) (.w x.c.id):=λms=>(hS9 0 _ Y).any;have d9:∀ms,Cell h5 ms ((⟨g9,0,none⟩:Addr).add 1) (.w x.c.dim):=λms=>(hS9 1 _ Y).any;cases u
  ·refine Ad<|Ql Y Ta (c7 _ lh5 _)<|Qf BZ Y<|Ql Y U3 (c9 _)<|Ql Y Ta (c7 _ lh5 _)<|Qf BZ Y<|Ql Y U3 (c9 _)<|Qx (DR (V:=vB) (z:=false) x.c.id hu BH O (.head _) Y Ta UT Y Y hxI) Y<|Qm Y<|Qg (oF Cj Y) Y<|Qg (oL Y U3<|d9 _) Y<|Qg (Au Y Y) Y<|Qg (Cq Y Y Y) Y<|Qm Y<|C5 (V:=vB) (z:=undef) 0 x.c.id (decide<|x.c.dim=dim) BH O Y Y Ta Y Y Y hxI Y Y<|λm' bs' O'=>?_
   have e2:Dw (inT ((l.map Ce.c).take k) dim) x.c.id (decide (x.c.dim=dim))=inT ((l.map Ce.c).take (k+1)) dim:=by rw[etk,RH];unfold inS TU;rw[hu];rfl
   rw[e2]at O';refine An<|Ai<|Ab<|Ad<|Qx (oA Y) Y<|Qm Y<|An ?_;exact Ao (n-(k+1)) _ ω ⟨k+1,m',bs',Y,Y,lh5,Y,ω,O'⟩ Qs
  ·refine Ad<|Ql Y Ta (c7 _ lh5 _)<|Qf BZ Y<|Ql Y U3 (c9 _)<|Ql Y Ta (c7 _ lh5 _)<|Qf BZ Y<|Ql Y U3 (c9 _)<|Qx (DR (V:=vB) (z:=false) x.c.id hu BH O (.head _) Y Ta UT Y Y hxI) Y<|Qm Y<|Qk Y<|Qk Y<|Qk Y<|Qk Y<|Qm Y<|C5 (V:=vB) (z:=undef) 0 x.c.id true BH O Y Y Ta Y Y Y hxI Y Y<|λm' bs' O'=>?_
   have e2:Dw (inT ((l.map Ce.c).take k) dim) x.c.id true=inT ((l.map Ce.c).take (k+1)) dim:=by rw[etk,RH];unfold inS TU;rw[hu];rfl
   rw[e2]at O';refine An<|Ai<|Ab<|Ad<|Qx (oA Y) Y<|Qm Y<|An ?_;exact Ao (n-(k+1)) _ ω ⟨k+1,m',bs',Y,Y,lh5,Y,ω,O'⟩ Qs
 ·subst hnn;obtain rfl:k=l.length:=ω
  rw[show(l.map Ce.c).take l.length=l.map Ce.c from take_of_length_le σ]at O;have lhx:=AD l02 lh;refine Ax<|Aa<|Aa<|Af<|Ab<|Ar<|Qm Y<|Cr λh6 l6 lm=>?_;have l06:=AD lhx l6;refine Qc call138 Y (IW _ a h6<|A.up l06)<|λw h8 ms8 l8 hF=>?_;obtain⟨l8',rfl,C⟩:=hF;obtain⟨l',CL,CR,_,_⟩:=C;have ow:=CR.rd.rd.one;refine Qx (Bz Y Y Y) Y ?_;refine Qx (As Y call120 Y<|KI l' w 139 [.pt g7] (λp=>!HS (l.map Ce.c) dim p.1) h8 CR.rd (by have:=CR.len;omega) (λxs w=>call139 xs w) (λs hs ms=>by have:=AeT g7 gS m _ bs h8 (c7 _ (AD lh (AD l6 l8')) _) O (AD lm l8') s (CR.ids s hs) ms;rw[Ael]at this;exact this) _) Y ?_;refine Qm Y<|Qm Y<|Am<|Aj ?_;exact Al Y Y<|aw Value.bool<|PB CL
def AY(o:List Cl):List (Int×(Int×Int)):=o.flatMap λx=>x.sd.map λs=>(x.id,s)
theorem Kq(o:List Cl)(x:Cl):AY (o++[x])=AY o++x.sd.map λs=>(x.id,s):=by unfold AY;rw[dx];simp
theorem AbK{o:List Cl}{i j:Nat}(hi:i<o.length)(hj:j<(o[i]).sd.length):(AY o)[(AY (o.take i)).length+j]?=some ((o[i]).id,(o[i]).sd[j]):=by
 have h1:AY o=AY (o.take i)++AY (o.drop i):=by unfold AY;rw[<-dx,dp]
 rw[h1,List.getElem?_append_right ω,Nat.add_sub_cancel_left,eo hi];show((o[i].sd.map λs=>(o[i].id,s))++AY (o.drop (i+1)))[j]?=_;rw[d5 (by simpa using hj)];simp[hj]
def MT(o:List Cl)(k:Nat):List Value:=[.int .i64 ((AY o).getD k default).1,.agg (cD ((AY o).getD k default).2).toArray]
theorem N3(g:Nat)(v:Value)(l:List Ce)(h:Hp)(hG:Cell h [] ((⟨g,0,none⟩:Addr).add 0) v)(hR:RdC h v l)(hn:l.length<=1000)(hsn:∀x∈l,x.c.sd.length<=1000):Itr Tryz.prog 174 [.pointer (some ⟨g,0,none⟩)] h (AY (l.map Ce.c)).length (MT (l.map Ce.c)):=by
 intro lp X h1 ms hl hY h0;show FnT _ _ #[.func (.yield lp) #[] #[],.pt g] _ _ _;obtain⟨o,ho⟩:∃o,l.map Ce.c=o:=⟨_,Y⟩
 rw[ho]at hY ⊢;obtain⟨n,hnn⟩:∃n,l.length=n:=⟨_,Y⟩
 have hon:o.length=n:=by rw[<-ho,be,hnn]
 have hG:=hG.le hl;have hR:=hR.up hl;have ov:=hR.q.rd.one;have c0:∀ms,Cell h1 ms ((⟨g,0,none⟩:Addr).add 0) v:=λms=>hG.any;have rV:∀h',h1.le h'->Rd h' [] v 3 n (l.flatMap cC):=λh' q=>by have:=(hR.q.up q).rd;rwa [hnn]at this
 refine Ap func174 ntmps174 Y Y<|λw0 hw0=>?_;simp only[AR];refine Ac<|Bw<|BR (oF Ct Y) Y Y Y<|BR (oL Y B0<|c0 _) Y Y Y<|BR (Aq (rV _<|BE).any Y B0 Y) Y Y Y<|BR (Au Y Y) Y Y Y<|CJ<|Ab<|Ag ?_
 refine AB (λq s hh ms'=>∃(i:Nat),q=n-i/\s=[(0,.func (.yield lp) #[] #[]),(8,v),(9,.w n),(10,.w i)]/\h1.le hh/\i<=n/\X (AY (o.take i)).length hh ms')
  (n-0) _ ⟨0,rfl,rfl,BE,ω,h0⟩ Qs ?_
 rintro q s hh ms' ⟨i,rfl,rfl,lh,hi,hX⟩;refine Ac<|Bw<|BR (Dy Y Y Y) Y Y Y<|CJ<|Ab<|Ac ?_;refine Aw Y (λhlt=>?_)<|λhlt=>?_
 ·have hin:i<n:=ω
  have hil:i<l.length:=ω
  have hio:i<o.length:=ω
  obtain⟨x,hx⟩:∃x,l[i]=x:=⟨_,Y⟩
  have hox:o[i]=x.c:=by subst ho;rw[List.getElem_map,hx]
  have hxm:x∈l:=hx ▸ ao hil;have Rs:=(hR.s x hxm).up lh;have ox:=Rs.rd.one;obtain⟨p,hp⟩:∃p,x.c.sd.length=p:=⟨_,Y⟩
  have hpn:p<=1000:=hp ▸ hsn x hxm;have rS:∀h',hh.le h'->Rd h' [] x.v 2 p (x.c.sd.flatMap cD):=λh' q=>by have:=(Rs.up q).rd;rwa [hp]at this
  have gE:∀ms,Seg hh ms ((AH v).add (i*3)) (cC x):=λms=>by rw[<-hx];exact((hR.q.up lh).any (ms:=ms)).seg hil
  have etk:(AY (o.take (i+1))).length=(AY (o.take i)).length+p:=by rw[ak hio,hox,Kq,af,be,hp]
  have etn:(AY (o.take (i+1))).length<=(AY o).length:=by
   have h1:AY o=AY (o.take (i+1))++AY (o.drop (i+1)):=by unfold AY;rw[<-dx,dp]
   rw[h1,af];omega
  refine Ah<|Ab<|Ac<|Ag<|Ar<|Qx (AM (i) (rV _ lh).any Y B0 A3 Y Y ω ω) Y<|Qx (oG Y Jz A3<|gE _) Y<|BS [.w 0,.w 0,.nl] Y A3 Y Y<|λg4=>?_;refine Sa 0 [_,_,_] A3 Y (by simp[ov,ox]) ?_;refine Am<|Ac<|Bw<|BR (oF BU Y) Y Y Y<|BR (oL Y Da<|Cell.blk 0 Y Y) Y Y Y<|BR (Aq (rS _<|BE).any Y Da Y) Y Y Y<|BR (Au Y Y) Y Y Y<|CJ<|Ab<|Ag ?_
  refine AB (λq s h2 ms'=>∃(j:Nat) (ms0:List Hp),q=p-j/\s=[(0,.func (.yield lp) #[] #[]),(4,.pt g4),(8,v),(9,.w n),(10,.w i),(15,x.v),(16,.w p),(17,.w j)]/\hh.le h2/\j<=p/\ms'=BI g4 50 (cC x)::ms0/\X ((AY (o.take i)).length+j) h2 ms0)
   (p-0) _ ⟨0,_,rfl,rfl,BE,ω,rfl,hX⟩ Qs ?_
  rintro q s h2 ms' ⟨j,ms0,rfl,rfl,l2,hj,rfl,hX⟩;refine Ac<|Bw<|BR (Dy Y Y Y) Y Y Y<|CJ<|Ab<|Ac ?_;refine Aw Y (λhlt2=>?_)<|λhlt2=>?_
  ·have hjp:j<p:=ω
   have hjs:j<x.c.sd.length:=ω
   obtain⟨y,hy⟩:∃y,x.c.sd[j]=y:=⟨_,Y⟩
   have gS:∀ms,Seg h2 ms ((AH x.v).add (j*2)) (cD y):=λms=>by rw[<-hy];exact((Rs.up l2).any (ms:=ms)).seg hjs
   have hkN:(AY (o.take i)).length+j<(AY o).length:=ω
   have hYk:=hY _ h2 ms0 hkN (AD lh l2) hX;have hjo:j<(o[i]).sd.length:=by rw[hox];exact hjs
   have heq:(AY o).getD ((AY (o.take i)).length+j) default=(x.c.id,y):=by have:=AbK hio hjo;simp only[List.getD,this,Option.getD_some];subst hy;simp only[hox]
   rw[show MT o ((AY (o.take i)).length+j)=[.w x.c.id,.agg (cD y).toArray] by unfold MT;rw[heq]]at hYk;refine Ah<|Ab<|Ac<|Ag<|Ar<|Qx (AM (j) (rS _ l2).any Y Da BX Y Y ω ω) Y<|Qx (oG Y XM BX<|gS _) Y<|BS [.w 0,.w 0] Y BX Y Y<|λg6=>?_;refine Sa 0 [_,_] BX Y (by simp[Value.oneCell']) ?_;refine Am<|Ac<|Bw<|BR (Au Y Y) Y Y Y<|BR (oF BZ Y) Y Y Y<|BR (oL Y U3<|Cell.blk 1 Y Y) Y Y Y<|BR (oG Y XM BX<|Seg.blk 0 Y) Y Y Y<|Pk<|NR (pre:=ms0) (fr:=[BI g4 50 (cC x)]) (List.perm_append_comm (l₁:=[BI g4 50 (cC x)])) Y Y Y hYk Y Y Y<|λr h3 ms2 l3 hr=>?_;obtain⟨rfl,hX2⟩:=hr;refine BR (Dn Y Y) Y Y Y<|CJ<|Ab<|AL Y<|Ah<|Ai<|Ab<|Bw<|BR (oA Y) Y Y Y<|BR (Au Y Y) Y Y Y<|CJ<|Iv (List.perm_append_comm (l₂:=[BI g4 50 (cC x)])) ?_;exact Ao (p-(j+1)) _ ω ⟨j+1,ms2,Y,Y,AD l2 l3,ω,Y,by rw[<-Nat.add_assoc];exact hX2⟩ Qs
  ·obtain rfl:j=p:=ω
   rw[<-etk]at hX;refine Ax<|Aa<|Aa<|Af<|Ai<|Ab<|Bw<|BR (oA Y) Y Y Y<|BR (Au Y Y) Y Y Y<|CJ<|AQ ?_;exact Ao (n-(i+1)) _ ω ⟨i+1,Y,Y,AD lh l2,ω,hX⟩ Qs
 ·obtain rfl:i=n:=ω
  refine Ax<|Aa<|Aa<|Af ?_;exact Cv Y (by rw[<-take_of_length_le (l:=o) (i:=i) ω];exact hX)
def DB(S:List (Int×(Int×Int)))(a:List Tm):List Tm:=(S.filter λp=>decide (cf a p.1≠0)).map λp=>(p.2.1,cf a p.1*p.2.2)
theorem LW(S:List (Int×(Int×Int)))(a:List Tm)(p:Int×(Int×Int)):DB (S++[p]) a=DB S a++if cf a p.1≠0 then [(p.2.1,cf a p.1*p.2.2)] else []:=by unfold DB;rw[filter_append,dd];congr 1;by_cases h:cf a p.1=0<;>simp[h]
theorem MK(S S2:List (Int×(Int×Int)))(a:List Tm):DB (S++S2) a=DB S a++DB S2 a:=by unfold DB;rw[filter_append,dd]
theorem QE(S:List (Int×(Int×Int)))(a:List Tm)(k:Nat):Bf (DB (S.take k) a)<=Bf (DB S a):=by
 have h:DB S a=DB (S.take k) a++DB (S.drop k) a:=by rw[<-MK,dp]
 rw[h,Bn];omega
theorem Ab3(S:List (Int×(Int×Int)))(a:List Tm):(DB S a).length<=S.length:=by unfold DB;rw[be];exact fd _ _
structure CxS(v:Value)(h:Hp)(l:List Ce):Prop where
 rd:RdC h v l
 len:l.length<=1000
 sdn:∀x∈l,x.c.sd.length<=1000
 tot:(AY (l.map Ce.c)).length<=100000
 ids:∀x∈l,Cd x.c.id
 sds:∀x∈l,∀s∈x.c.sd,Cd s.1/\Cd s.2
theorem CxS.up{v:Value}{h h':Hp}{l:List Ce}(X:CxS v h l)(q:h.le h'):CxS v h' l:=⟨X.rd.up q,X.len,X.sdn,X.tot,X.ids,X.sds⟩
theorem CxS.mem{v:Value}{h:Hp}{l:List Ce}(X:CxS v h l){p:Int×(Int×Int)}(hp:p∈AY (l.map Ce.c)):Cd p.1/\Cd p.2.1/\Cd p.2.2:=by obtain⟨c,hc,h2⟩:=List.mem_flatMap.1 hp;obtain⟨x,hx,rfl⟩:=ag.1 hc;obtain⟨s,hs,rfl⟩:=ag.1 h2;exact⟨X.ids x hx,X.sds x hx s hs⟩
theorem neW{x:Int}:decide (A7 x.natAbs≠[])=decide (x≠0):=by
 by_cases h:x=0
 ·subst h;simp[bys_nil]
 ·have:A7 x.natAbs≠[]:=λe=>h (by have:=bys_nil.1 e;omega);simp[h,this]
theorem N7{n:Int}(h:Cd n):Sz n:=Sz.of (B:=64) (show n.natAbs<2^64 by have:=h.1;have:=h.2;omega) δ
theorem Vk(v:Value)(n:Nat)(cs:List Value)(h:Hp)(hR:Rd h [] v 3 n cs):FnT Tryz.prog 140 #[.agg #[v]] h [] (λr h' ms'=>h=h'/\∃g,r=.func (.func 174) #[] #[.pointer (some ⟨g,0,none⟩)]/\ms'=[BI g 27 [v]]):=by have ov:=hR.one;refine Ap func140 ntmps140 Y Y<|λw0 hw0=>?_;simp only[AR];refine Ar<|AK [_] Y Y (by rfl) Y Y Y<|λg1=>Qm Y<|Bp<|Qx (Bz Y Y Y) Y<|Qm Y<|Am<|Aj ?_;exact Al Y Y (⟨Y,_,Y,Y⟩)
theorem Fu(v va:Value)(l:List Ce)(a:List Tm)(h:Hp)(X:CxS v h l)(A:ChR va h a)(hB:Bf (DB (AY (l.map Ce.c)) a)<2^2000000) :
  FnT Tryz.prog 87 #[.agg #[v],va] h [] (λr h' ms'=>h.le h'/\ms'=[]/\CanR (DB (AY (l.map Ce.c)) a) r h'):=by
 have ov:=X.rd.q.rd.one;obtain⟨aa,ac,rfl,_⟩:=A.rd.rd.ex;refine E7 func87 ntmps87 Y Y<|λw0 hw0=>?_;simp only[AR];refine Ar<|AK [_] Y Y (by rfl) Y Y Y<|λg2=>Qm Y<|Am<|AF λh1 l1 hS2=>?_;have hfl:([a]:List (List Tm)).flatten=a:=by simp
 refine Ar<|Qm Y<|Ay [_] Y O5 SD Y (by rfl) Y Y ω Y Y Y<|λg11=>Bg λh2 l2 hS=>?_;have l02:=AD l1 l2;refine Qc call92 Y (HF _ [_] [a] h2 (RdL.built hS Y Y GO δ) Y σ (λi hi=>by rcases i with _|i;exact A.up l02;simp at hi) (by rw[hfl];exact A.abs))<|λvm h3 ms3 l3 hF=>?_;obtain⟨l3',gT,m,bs,rfl,rfl,O⟩:=hF;rw[hfl]at O;refine Cr λh4 l4 lm=>Dx (K:=kN) (V:=WD) (Ok:=Cd) Y Y Y Y<|λgO m0 O0=>BS [.map none] Y KL Y Y<|λg5=>BS [.map none] Y KL Y Y<|λg6=>Bh 1 0 Y KL Y Y (by rfl) Y Y δ Y Y<|Bh 0 0 Y KL Y Y (by rfl) Y Y δ Y Y<|Am<|Av 0 Y λh5 l5 hS6=>Av 0 Y λh6 l6 hS5=>?_
 have l46:=AD l5 l6;have l06:=AD l02 (AD l3' (AD l4 l46));have c5:∀h',h6.le h'->∀ms,Cell h' ms (⟨g5,0,none⟩:Addr) (.map (some gT)):=λh' l ms=>((hS5.at0 Y).any).le l;have c6:∀h',h6.le h'->∀ms,Cell h' ms (⟨g6,0,none⟩:Addr) (.map (some gO)):=λh' l ms=>((hS6.at0 Y).any).le (AD l6 l);have s2:∀ms,Seg h6 ms (⟨g2,0,none⟩:Addr) [v]:=λms=>(hS2.le (AD l2 (AD l3' (AD l4 l46)))).any;have X6:=X.up l06;refine Ac<|Ar<|Qx (oG Y C9 Bd<|s2 _) Y<|Qc call140 Y (Vk v _ _ h6 X6.rd.q.rd)<|λvf h7 ms7 l7 hF=>?_;obtain⟨rfl,gs,rfl,rfl⟩:=hF;refine Am<|Ag<|AF λh8 l8 hGs=>?_;have X8:=X6.up l8;have l08:=AD l06 l8;have hm8:=AD lm (AD l46 l8);have hI:=N3 gs v l h8 (hGs 0 _ Y) X8.rd X8.len X8.sdn;obtain⟨S,hS_⟩:∃S,AY (l.map Ce.c)=S:=⟨_,Y⟩
 have hSt:S.length<=100000:=hS_ ▸ X.tot;have hSm:∀p∈S,Cd p.1/\Cd p.2.1/\Cd p.2.2:=λp hp=>X.mem (hS_ ▸ hp);rw[hS_]at hB ⊢ hI;refine FG (λk hh ms=>∃mo bo,ms=[mo]/\CF kN WD gO Cd mo (Ja (DB (S.take k) a)) bo) (λk s1 hh ms=>∃g8 mo bo,s1=[(5,.pt g5),(6,.pt g6),(7,.w (S.getD k default).1),(8,.pt g8)]/\ms=[mo]/\CF kN WD gO Cd mo (Ja (DB (S.take k) a)) bo/\Seg hh [] (⟨g8,0,none⟩:Addr) (cD (S.getD k default).2)) Y call174 hI (λk=>rfl) Y ?_ ?_ ?_ ?_
 ·exact⟨m0,[],Y,O0⟩
 ·rintro w1 k hh ms1 hk lh ⟨mo,bo,rfl,hO⟩;rw[show MT (l.map Ce.c) k=[.w (S.getD k default).1,.agg (cD (S.getD k default).2).toArray] by unfold MT;rw[hS_]];refine Df<|Be κ<|Qm Y<|An<|B5<|Be κ<|BS [.w 0,.w 0] Y BX Y Y<|λg8=>?_;refine Sa 0 [_,_] BX Y (by simp[Value.oneCell']) ?_;refine An<|Hz λh9 l9 hS8=>?_;exact AI _ ⟨_,mo,bo,Y,Y,hO,hS8⟩ Qs
 ·rintro w1 k s1 hh ms1 hk lh ⟨g8,mo,bo,rfl,rfl,hO,hS8⟩;obtain⟨p,hp⟩:∃p,S.getD k default=p:=⟨_,Y⟩
  have hpS:S[k]=p:=by rw[<-hp];simp[List.getD,hk]
  have hpm:p∈S:=hpS ▸ ao hk;have hpI:=hSm p hpm;have etk:S.take (k+1)=S.take k++[p]:=by rw[ak hk,hpS]
  rw[hp]at hS8 ⊢;obtain⟨x,hx⟩:∃x,cf a p.1=x:=⟨_,Y⟩
  have hxk:(BJ (Ja a) p.1).getD 0=x:=by rw[<-hx];exact E9 a p.1
  have hxs:Sz x:=by rw[<-hx];exact KM (CW _ _) A.abs δ
  have osx:(sv (A7 x.natAbs)).oneCell'=true:=rfl;have oss:(sv (A7 p.2.2.natAbs)).oneCell'=true:=rfl;have osm:(sv (A7 (x*p.2.2).natAbs)).oneCell'=true:=rfl;have hm:=AD hm8 lh;refine Eh<|Df<|Be κ<|Ql Y HQ (c5 _ (AD l8 lh) _)<|Qm Y<|Qx (DH (V:=WD) (z:=(0:Int)) p.1 hxk BH O hm Y HQ MS Y Y hpI.1) Y<|BS [.bool false,.es] Y Az Y Y<|λg9=>?_;refine Sa 0 [_,_] Az Y (by simp[ov,osx,oss,osm]) ?_;refine An<|B5<|Mr λh9 l9 hS9=>?_;have lh9:=AD (AD l8 lh) l9;have d9:∀ms,Cell h9 ms ((⟨g9,0,none⟩:Addr).add 1) (sv (A7 x.natAbs)):=λms=>(hS9 1 _ Y).any;refine Df<|Be κ<|Qf EI Y<|Ql Y U9 (d9 _)<|Qx (Dk (G7 (l':=[]) Y Y Y)<|aw Value.bool neW) Y<|An<|B5 ?_;refine Ly Y (λhne=>?_)<|λhne=>?_
  ·have e8:∀ms,Cell h9 ms ((⟨g8,0,none⟩:Addr).add 0) (.w p.2.1):=λms=>((hS8 0 _ Y).any).le l9;have f8:∀ms,Cell h9 ms ((⟨g8,0,none⟩:Addr).add 1) (.w p.2.2):=λms=>((hS8 1 _ Y).any).le l9
   have hbd:Bf (DB (S.take k) a++[(p.2.1,x*p.2.2)])<=Bf (DB S a):=by have:=QE S a (k+1);rw[etk,LW,hx,ah hne]at this;exact this
   have hps:Sz (x*p.2.2):=KM (HE (l:=DB (S.take k) a++[(p.2.1,x*p.2.2)]) (p:=(p.2.1,x*p.2.2)) σ) (Nat.lt_of_le_of_lt hbd hB) δ
   have hts:Sz (tv (Ja (DB (S.take k) a)) p.2.1):=by rw[E9];exact KM (CW _ _) (Nat.lt_of_le_of_lt (QE S a k) hB) δ
   refine JS (n:=9) (bs:=[ig,ig,ig,ig,ig,ig,ig,ig,ii]) [ig,ig,ig,ig,ig,ig,ig,ig] CC κ κ Y Y κ<|QL Y HQ (c6 _ lh9 _)<|QF Dl Y<|QL Y U3 (e8 _)<|Qp Y (oG Y By Az<|hS9.any)<|QF Eg Y<|QL Y U3 (f8 _)<|Qp Y (As Y call95 Y<|GU p.2.2 hpI.2.2 _ _)<|Qp Y (As Y call141 Y<|JN x p.2.2 hxs (N7 hpI.2.2) _ _) ?_;unfold Dd;simp only[bh,ap];refine Qo 8 Y<|AC (pre:=[mo]) Y call102 Y (Ke gO mo _ bo p.2.1 (x*p.2.2) hpI.2.1 hps hts hO h9) Y Y Y Y<|λz h10 ms10 l10 hF=>?_;obtain⟨rfl,mo',bo',rfl,hO'⟩:=hF;refine Qw<|Qe<|Ai ?_;exact AI [] ⟨mo',bo',Y,by rw[etk,LW,hx,ah hne,JQ];exact hO'⟩ ej
  ·refine Ho (Ai ?_);exact AI [] ⟨mo,bo,rfl,by rw[etk,LW,hx,if_neg hne,append_nil];exact hO⟩ trivial
 ·rintro D' hh ms1 lh ⟨mo,bo,rfl,hO⟩;rw[take_of_length_le (show S.length<=S.length from am _)]at hO;have lhh:=AD l8 lh;refine Ai<|Ab<|Ar<|Ql Y HQ (c6 _ lhh _)<|Cr λh9 l9 lm9=>?_;refine Qc call103 Y (Om gO mo _ bo h9 hO lm9 (bl (Ab3 S a) hSt) (λq hq=>by obtain⟨r,hr,rfl⟩:=ag.1 hq;exact(hSm r (dh.1 hr).1).2.1) hB)<|λw hA msA lA hF=>?_;obtain⟨lA',rfl,C⟩:=hF;have oz:w.oneCell'=true:=by obtain⟨_,_,q,_⟩:=C;exact q.rd.rd.one
  refine Qm Y<|Am<|Aj<|FI 0 (.inr Y) Y ?_;exact Al Y Y (⟨AD l08<|AD lh<|AD l9 lA',Y,C⟩)
def Gl(S:List (Int×(Int×Int)))(a:List Tm):List Tm:=(S.filter λp=>decide (cf a p.2.1≠0)).map λp=>(p.1,cf a p.2.1*p.2.2)
theorem L5(S:List (Int×(Int×Int)))(a:List Tm)(p:Int×(Int×Int)):Gl (S++[p]) a=Gl S a++if cf a p.2.1≠0 then [(p.1,cf a p.2.1*p.2.2)] else []:=by unfold Gl;rw[filter_append,dd];congr 1;by_cases h:cf a p.2.1=0<;>simp[h]
theorem Ma(S S2:List (Int×(Int×Int)))(a:List Tm):Gl (S++S2) a=Gl S a++Gl S2 a:=by unfold Gl;rw[filter_append,dd]
theorem QK(S:List (Int×(Int×Int)))(a:List Tm)(k:Nat):Bf (Gl (S.take k) a)<=Bf (Gl S a):=by
 have h:Gl S a=Gl (S.take k) a++Gl (S.drop k) a:=by rw[<-Ma,dp]
 rw[h,Bn];omega
theorem Abz(S:List (Int×(Int×Int)))(a:List Tm):(Gl S a).length<=S.length:=by unfold Gl;rw[be];exact fd _ _
theorem Nk(v va:Value)(l:List Ce)(a:List Tm)(h:Hp)(X:CxS v h l)(A:ChR va h a)(hB:Bf (Gl (AY (l.map Ce.c)) a)<2^2000000) :
  FnT Tryz.prog 121 #[.agg #[v],va] h [] (λr h' ms'=>h.le h'/\ms'=[]/\CanR (Gl (AY (l.map Ce.c)) a) r h'):=by
 have ov:=X.rd.q.rd.one;obtain⟨aa,ac,rfl,_⟩:=A.rd.rd.ex;refine E7 func121 ntmps121 Y Y<|λw0 hw0=>?_;simp only[AR];refine Ar<|AK [_] Y Y (by rfl) Y Y Y<|λg2=>Qm Y<|Am<|AF λh1 l1 hS2=>?_;have hfl:([a]:List (List Tm)).flatten=a:=by simp
 refine Ar<|Qm Y<|Ay [_] Y O5 SD Y (by rfl) Y Y ω Y Y Y<|λg11=>Bg λh2 l2 hS=>?_;have l02:=AD l1 l2;refine Qc call92 Y (HF _ [_] [a] h2 (RdL.built hS Y Y GO δ) Y σ (λi hi=>by rcases i with _|i;exact A.up l02;simp at hi) (by rw[hfl];exact A.abs))<|λvm h3 ms3 l3 hF=>?_;obtain⟨l3',gT,m,bs,rfl,rfl,O⟩:=hF;rw[hfl]at O;refine Cr λh4 l4 lm=>Dx (K:=kN) (V:=WD) (Ok:=Cd) Y Y Y Y<|λgO m0 O0=>BS [.map none] Y KL Y Y<|λg5=>BS [.map none] Y KL Y Y<|λg6=>Bh 1 0 Y KL Y Y (by rfl) Y Y δ Y Y<|Bh 0 0 Y KL Y Y (by rfl) Y Y δ Y Y<|Am<|Av 0 Y λh5 l5 hS6=>Av 0 Y λh6 l6 hS5=>?_
 have l46:=AD l5 l6;have l06:=AD l02 (AD l3' (AD l4 l46));have c5:∀h',h6.le h'->∀ms,Cell h' ms (⟨g5,0,none⟩:Addr) (.map (some gT)):=λh' l ms=>((hS5.at0 Y).any).le l;have c6:∀h',h6.le h'->∀ms,Cell h' ms (⟨g6,0,none⟩:Addr) (.map (some gO)):=λh' l ms=>((hS6.at0 Y).any).le (AD l6 l);have s2:∀ms,Seg h6 ms (⟨g2,0,none⟩:Addr) [v]:=λms=>(hS2.le (AD l2 (AD l3' (AD l4 l46)))).any;have X6:=X.up l06;refine Ac<|Ar<|Qx (oG Y C9 Bd<|s2 _) Y<|Qc call140 Y (Vk v _ _ h6 X6.rd.q.rd)<|λvf h7 ms7 l7 hF=>?_;obtain⟨rfl,gs,rfl,rfl⟩:=hF;refine Am<|Ag<|AF λh8 l8 hGs=>?_;have X8:=X6.up l8;have l08:=AD l06 l8;have hm8:=AD lm (AD l46 l8);have hI:=N3 gs v l h8 (hGs 0 _ Y) X8.rd X8.len X8.sdn;obtain⟨S,hS_⟩:∃S,AY (l.map Ce.c)=S:=⟨_,Y⟩
 have hSt:S.length<=100000:=hS_ ▸ X.tot;have hSm:∀p∈S,Cd p.1/\Cd p.2.1/\Cd p.2.2:=λp hp=>X.mem (hS_ ▸ hp);rw[hS_]at hB ⊢ hI;refine FG (λk hh ms=>∃mo bo,ms=[mo]/\CF kN WD gO Cd mo (Ja (Gl (S.take k) a)) bo) (λk s1 hh ms=>∃g8 mo bo,s1=[(5,.pt g5),(6,.pt g6),(7,.w (S.getD k default).1),(8,.pt g8)]/\ms=[mo]/\CF kN WD gO Cd mo (Ja (Gl (S.take k) a)) bo/\Seg hh [] (⟨g8,0,none⟩:Addr) (cD (S.getD k default).2)) Y call174 hI (λk=>rfl) Y ?_ ?_ ?_ ?_
 ·exact⟨m0,[],Y,O0⟩
 ·rintro w1 k hh ms1 hk lh ⟨mo,bo,rfl,hO⟩;rw[show MT (l.map Ce.c) k=[.w (S.getD k default).1,.agg (cD (S.getD k default).2).toArray] by unfold MT;rw[hS_]];refine Df<|Be κ<|Qm Y<|An<|B5<|Be κ<|BS [.w 0,.w 0] Y BX Y Y<|λg8=>?_;refine Sa 0 [_,_] BX Y (by simp[Value.oneCell']) ?_;refine An<|Hz λh9 l9 hS8=>?_;exact AI _ ⟨_,mo,bo,Y,Y,hO,hS8⟩ Qs
 ·rintro w1 k s1 hh ms1 hk lh ⟨g8,mo,bo,rfl,rfl,hO,hS8⟩;obtain⟨p,hp⟩:∃p,S.getD k default=p:=⟨_,Y⟩
  have hpS:S[k]=p:=by rw[<-hp];simp[List.getD,hk]
  have hpm:p∈S:=hpS ▸ ao hk;have hpI:=hSm p hpm;have etk:S.take (k+1)=S.take k++[p]:=by rw[ak hk,hpS]
  rw[hp]at hS8 ⊢;obtain⟨x,hx⟩:∃x,cf a p.2.1=x:=⟨_,Y⟩
  have hxk:(BJ (Ja a) p.2.1).getD 0=x:=by rw[<-hx];exact E9 a p.2.1
  have hxs:Sz x:=by rw[<-hx];exact KM (CW _ _) A.abs δ
  have osx:(sv (A7 x.natAbs)).oneCell'=true:=rfl;have oss:(sv (A7 p.2.2.natAbs)).oneCell'=true:=rfl;have osm:(sv (A7 (x*p.2.2).natAbs)).oneCell'=true:=rfl;have hm:=AD hm8 lh;have e80:∀ms,Cell hh ms ((⟨g8,0,none⟩:Addr).add 0) (.w p.2.1):=λms=>(hS8 0 _ Y).any;refine Eh<|Df<|Be κ<|Ql Y HQ (c5 _ (AD l8 lh) _)<|Qf Dl Y<|Ql Y U3 (e80 _)<|Qx (DH (V:=WD) (z:=(0:Int)) p.2.1 hxk BH O hm Y HQ MS Y Y hpI.2.1) Y<|BS [.bool false,.es] Y Az Y Y<|λg9=>?_;refine Sa 0 [_,_] Az Y (by simp[ov,osx,oss,osm]) ?_;refine An<|B5<|Mr λh9 l9 hS9=>?_;have lh9:=AD (AD l8 lh) l9;have d9:∀ms,Cell h9 ms ((⟨g9,0,none⟩:Addr).add 1) (sv (A7 x.natAbs)):=λms=>(hS9 1 _ Y).any;refine Df<|Be κ<|Qf EI Y<|Ql Y U9 (d9 _)<|Qx (Dk (G7 (l':=[]) Y Y Y)<|aw Value.bool neW) Y<|An<|B5 ?_;refine Ly Y (λhne=>?_)<|λhne=>?_
  ·have e8:∀ms,Cell h9 ms ((⟨g8,0,none⟩:Addr).add 0) (.w p.2.1):=λms=>((hS8 0 _ Y).any).le l9;have f8:∀ms,Cell h9 ms ((⟨g8,0,none⟩:Addr).add 1) (.w p.2.2):=λms=>((hS8 1 _ Y).any).le l9
   have hbd:Bf (Gl (S.take k) a++[(p.1,x*p.2.2)])<=Bf (Gl S a):=by have:=QK S a (k+1);rw[etk,L5,hx,ah hne]at this;exact this
   have hps:Sz (x*p.2.2):=KM (HE (l:=Gl (S.take k) a++[(p.1,x*p.2.2)]) (p:=(p.1,x*p.2.2)) σ) (Nat.lt_of_le_of_lt hbd hB) δ
   have hts:Sz (tv (Ja (Gl (S.take k) a)) p.1):=by rw[E9];exact KM (CW _ _) (Nat.lt_of_le_of_lt (QK S a k) hB) δ
   refine JS (n:=8) (bs:=[ig,ig,ig,ig,ig,ig,ig,ii]) [ig,ig,ig,ig,ig,ig,ig] CC κ κ Y Y κ<|QL Y HQ (c6 _ lh9 _)<|Qq Y<|Qp Y (oG Y By Az<|hS9.any)<|QF Eg Y<|QL Y U3 (f8 _)<|Qp Y (As Y call95 Y<|GU p.2.2 hpI.2.2 _ _)<|Qp Y (As Y call141 Y<|JN x p.2.2 hxs (N7 hpI.2.2) _ _) ?_;unfold Dd;simp only[bh,ap];refine Qo 7 Y<|AC (pre:=[mo]) Y call102 Y (Ke gO mo _ bo p.1 (x*p.2.2) hpI.1 hps hts hO h9) Y Y Y Y<|λz h10 ms10 l10 hF=>?_;obtain⟨rfl,mo',bo',rfl,hO'⟩:=hF;refine Qw<|Qe<|Ai ?_;exact AI [] ⟨mo',bo',Y,by rw[etk,L5,hx,ah hne,JQ];exact hO'⟩ ej
  ·refine Ho (Ai ?_);exact AI [] ⟨mo,bo,rfl,by rw[etk,L5,hx,if_neg hne,append_nil];exact hO⟩ trivial
 ·rintro D' hh ms1 lh ⟨mo,bo,rfl,hO⟩;rw[take_of_length_le (show S.length<=S.length from am _)]at hO;have lhh:=AD l8 lh;refine Ai<|Ab<|Ar<|Ql Y HQ (c6 _ lhh _)<|Cr λh9 l9 lm9=>?_;refine Qc call103 Y (Om gO mo _ bo h9 hO lm9 (bl (Abz S a) hSt) (λq hq=>by obtain⟨r,hr,rfl⟩:=ag.1 hq;exact(hSm r (dh.1 hr).1).1) hB)<|λw hA msA lA hF=>?_;obtain⟨lA',rfl,C⟩:=hF;have oz:w.oneCell'=true:=by obtain⟨_,_,q,_⟩:=C;exact q.rd.rd.one
  refine Qm Y<|Am<|Aj<|FI 0 (.inr Y) Y ?_;exact Al Y Y (⟨AD l08<|AD lh<|AD l9 lA',Y,C⟩)
theorem LZ{P:Program}{d:Nat}(X Y:Array Value)(w:World):∀(fs:List Field) (os:List (TypeId×Nat×Bool)),fs.map (fun f=>(decide (f.name ≠ "_"),f.type,f.offset))=os.map (fun o=>(true,o.1,o.2.1))->(∀o∈os,∃a b,(part o.1 X o.2.1).run P w=.ok a w/\(part o.1 Y o.2.1).run P w=.ok b w/\(Op.equalIn (d+1) o.1 a b).run P w=.ok o.2.2 w)->(Op.eqFields (d+1) X Y fs).run P w=.ok (os.all fun o=>o.2.2) w
 | [],[],_,_=>by simp[Op.eqFields]
 | [],o::os,h,_=>by simp at h
 | f::fs,[],h,_=>by simp at h
 | f::fs,o::os,h,hc=>by
  simp only[dr,List.cons.injEq,Prod.mk.injEq]at h;obtain⟨⟨h1,h2,h3⟩,h4⟩:=h;have ih:=LZ (d:=d) X Y w fs os h4 fun a ha=>hc a (List.mem_cons_of_mem _ ha);obtain⟨a,b,c1,c2,he⟩:=hc o Mh;unfold Op.eqFields;rw[ah (dq h1),h2,h3];simp only[Sem.run_bind,c1,c2,Result.andThen_ok,he];cases e:o.2.2
  ·simp[e]
  ·simp[e,ih]
theorem AeZ:(Tryz.prog.fieldsOf 33).toList.map (λf=>(decide (f.name ≠ "_"),f.type,f.offset))=[(4,0),(9,1)].map (λo=>(true,o.1,o.2)):=by kernel_rfl
theorem AeX:(Tryz.prog.fieldsOf 79).toList.map (λf=>(decide (f.name ≠ "_"),f.type,f.offset))=[(3,0),(33,1)].map (λo=>(true,o.1,o.2)):=by kernel_rfl
theorem pk3:Tryz.prog.plainKey 3=true:=by kernel_rfl
theorem pk4:Tryz.prog.plainKey 4=true:=by kernel_rfl
theorem pk9:Tryz.prog.plainKey 9=true:=by kernel_rfl
theorem egT:Tryz.prog.eqGuardType Tryz.prog.depth 79=false:=by kernel_rfl
theorem Afi:Tryz.prog.underlying 79=some (.struct (Tryz.prog.fieldsOf 79)):=by kernel_rfl
theorem Ae8:Tryz.prog.underlying 33=some (.struct (Tryz.prog.fieldsOf 33)):=by kernel_rfl
theorem Afp:Tryz.prog.stoodInHeld 79=false:=by kernel_rfl
theorem Afh:Tryz.prog.stoodInHeld 33=false:=by kernel_rfl
theorem Aba{m n:Nat}(h:A7 m=A7 n):m=n:=by
 have h1:∀m,(A7 m).reverse.map UInt8.toNat=dg 256 m:=λm=>by
  unfold A7;rw[<-List.map_reverse,List.reverse_reverse,List.map_map]
  conv=>rhs;rw[<-List.map_id (dg 256 m)]
  refine gc λa ha=>?_;have:=Fv (b:=256) δ m a ha;simp;omega
 exact Zr (b:=256) δ (by rw[<-h1,<-h1,h])
theorem Xe{x y:Int}:(decide (x<0)=decide (y<0)/\A7 x.natAbs=A7 y.natAbs)<->x=y:=by
 constructor
 ·intro ⟨h1,h2⟩;have h3:x.natAbs=y.natAbs:=Aba h2;have h4:x<0<->y<0:=fa.1 h1;omega
 ·rintro rfl;exact⟨Y,Y⟩
theorem Acr(d:Nat)(x y:Int)(w:World):(Op.equalIn (d+2) 33 (WD x) (WD y)).run Tryz.prog w=.ok (decide (x=y)) w:=by
 have h2:=LZ (P:=Tryz.prog) (d:=d) #[.bool (decide (x<0)),sv (A7 x.natAbs)] #[.bool (decide (y<0)),sv (A7 y.natAbs)] w (Tryz.prog.fieldsOf 33).toList [(4,0,decide (x<0)==decide (y<0)),(9,1,A7 x.natAbs==A7 y.natAbs)] (by rw[AeZ];rfl) λo ho=>by
  simp only[bg,List.not_mem_nil,gv]at ho;rcases ho with rfl|rfl
  ·exact⟨_,_,run_part_plain w pk4 Y,run_part_plain w pk4 Y,run_equalIn_bool' w _ 4 _ _ U4⟩
  ·refine⟨_,_,run_part_plain w pk9 Y,run_part_plain w pk9 Y,?_⟩;have:=run_equalIn_string (P:=Tryz.prog) w d 9 ⟨(A7 x.natAbs).toArray⟩ ⟨(A7 y.natAbs).toArray⟩ U9;simpa[sv,ByteArray.toList_eq] using this
 show(Op.equalIn (d+1+1) 33 (.agg _) (.agg _)).run Tryz.prog w=_;rw[run_equalIn_agg w (d+1) 33 _ _ Ae8 Afh,h2];congr 1;rw[Bool.eq_iff_iff,fq];show((decide (x<0)==decide (y<0))&&((A7 x.natAbs==A7 y.natAbs)&&true))=true<->_;simp only[Bool.and_true,dt,beq_iff_eq];exact Xe
theorem Adc(p:Tm)(w:World):(part 33 (DQ p).toArray 1).run Tryz.prog w=.ok (WD p.2) w:=by
 have h1:(isAgg 33).run Tryz.prog w=.ok true w:=by rw[Ds Ae8];rfl
 have h2:(sizeOf 33).run Tryz.prog w=.ok 2 w:=(Az).sizeOf w;simp only[part,Sem.run_bind,h1,Result.andThen_ok,if_true,h2,Sem.run_pure];rfl
theorem Abv(d:Nat)(p q:Tm)(w:World):(Op.equalIn (d+3) 79 (.agg (DQ p).toArray) (.agg (DQ q).toArray)).run Tryz.prog w=.ok (decide (p=q)) w:=by
 have h2:=LZ (P:=Tryz.prog) (d:=d+1) (DQ p).toArray (DQ q).toArray w (Tryz.prog.fieldsOf 79).toList [(3,0,p.1==q.1),(33,1,decide (p.2=q.2))] (by rw[AeX];rfl) λo ho=>by
  simp only[bg,List.not_mem_nil,gv]at ho;rcases ho with rfl|rfl
  ·exact⟨_,_,run_part_plain w pk3 Y,run_part_plain w pk3 Y,run_equalIn_int w _ 3 .i64 .i64 _ _ U3⟩
  ·exact⟨_,_,Adc p w,Adc q w,Acr d _ _ w⟩
 rw[run_equalIn_agg w (d+2) 79 _ _ Afi Afp,h2];congr 1;obtain⟨a1,a2⟩:=p;obtain⟨b1,b2⟩:=q;rw[Bool.eq_iff_iff,fq,Prod.mk.injEq];show((a1==b1)&&(decide (a2=b2)&&true))=true<->_;simp only[Bool.and_true,dt,beq_iff_eq,fq]
theorem YJ{o:Oper}{s:AE}{h:Hp}{ms:List Hp}{x y:Operand}{u:TypeId}(a b:Tm)(ho:o.op=.binOp .neq 79 x y u)(hx:ev s x=some (.agg (DQ a).toArray))(hy:ev s y=some (.agg (DQ b).toArray)):OX Tryz.prog o s h ms (.bool (decide (a≠b))):=
 Bs λρ w hρ _=>by
  have h1:=Abv 9997 a b w;have e:(!decide (a=b))=decide (a≠b):=by simp
  simp only[execOp,ho,hρ _ _ hx,hρ _ _ hy];simp only[Sem.run_bind,run_eqGuard_agg w _ _ _ _ _ _ egT,run_neq_struct,h1,e,Result.andThen_ok,Sem.run_pure]
theorem ZG(a b:List Tm)(va vb:Value)(h:Hp)(hA:RdL DQ 3 h [] va a)(hB:RdL DQ 3 h [] vb b)(ms:List Hp):FnV Tryz.prog 164 #[va,vb] h ms (.bool (decide (a=b))):=by
 refine DY ?_ ms;have la:=hA.len_le;have lb:=hB.len_le;have oa:=hA.rd.one;have ob:=hB.rd.one;refine Ap func164 ntmps164 Y Y<|λw0 hw0=>?_;simp only[AR];refine Ar<|Qm Y<|Am<|Ac<|Ar<|Qm Y<|Qx (Aq hA.rd.any Y CN Y) Y<|Qm Y<|Qx (Aq hB.rd.any Y CN Y) Y<|Qm Y<|Am ?_;refine Aw Y (λhne=>?_)<|λhne=>?_
 ·refine Ac<|Ad<|Qm Y<|Am<|Aj<|Ae ?_;exact Al Y Y (by rw[cg];intro e;rw[e]at hne;exact hne Y)
 ·have hl:a.length=b.length:=ω
  refine Ah<|Ab<|Ac<|Ar<|Qm Y<|Qx (Aq hA.rd.any Y CN Y) Y<|Qm Y<|Am<|Ag ?_
  refine AB (λq s h' ms'=>∃(k:Nat),q=a.length-k/\s=[(0,va),(1,vb),(11,va),(12,.w a.length),(13,.w k)]/\h=h'/\ms'=[]/\k<=a.length/\a.take k=b.take k)
   (a.length-0) _ ⟨0,rfl,rfl,rfl,rfl,ω,rfl⟩ Qs ?_
  rintro q s h' ms' ⟨k,rfl,rfl,rfl,rfl,hk,he⟩;refine Ar<|Qm Y<|Am<|Ac ?_;refine Aw Y (λhlt=>?_)<|λhlt=>?_
  ·have hka:k<a.length:=ω
   have hkb:k<b.length:=ω
   have ca:∀ms,Seg h ms ((AH va).add (k*3)) (DQ a[k]):=λms=>(hA.any (ms:=ms)).seg hka;have cb:∀ms,Seg h ms ((AH vb).add (k*3)) (DQ b[k]):=λms=>(hB.any (ms:=ms)).seg hkb;refine Ah<|Ab<|Ac<|Ag<|Ar<|Qm Y<|Qm Y<|Am<|Ac<|BB 8 CC κ Y<|Wm Y<|Wm Y<|BD (BC (k) hA.rd.any Y CN Co Y Y) Y Y<|BD (oG Y U79 Co<|ca _) Y Y<|Wm Y<|Wm Y<|BD (BC (k) hB.rd.any Y CN Co Y Y) Y Y<|BD (oG Y U79 Co<|cb _) Y Y<|Bu<|Qx (YJ a[k] b[k] Y Y Y) Y<|Am ?_;refine Aw Y (λhne=>?_)<|λhne=>?_
   ·refine Ac<|Ad<|Qm Y<|Am<|Aj<|Ak<|Ae<|Ae<|Ak<|Ae ?_;exact Al Y Y (by rw[cg];rintro rfl;exact hne Y)
   ·refine Ah<|Ai<|Ab<|Ad<|Qx (oA Y) Y<|Qm Y<|An ?_;refine Ao (a.length-(k+1)) _ ω ⟨k+1,Y,Y,Y,Y,ω,?_⟩ Qs;rw[gw,gw,he,aj hka,aj hkb,Decidable.not_not.1 hne]
  ·obtain rfl:k=a.length:=ω
   refine Ax<|Aa<|Aa<|Af<|Ab<|Ar<|Qm Y<|Am<|Aj ?_;exact Al Y Y (by rw[fe,hl,fe]at he;rw[bq he])
noncomputable def eqC(a b:List Tm):Bool:=@decide (∀c,cf a c=cf b c) (Classical.propDecidable _)
theorem Py(a b:List Tm):eqC a b=true<->∀c,cf a c=cf b c:=@fq _ (Classical.propDecidable _)
theorem XI(va vb:Value)(a b:List Tm)(h:Hp)(A:ChR va h a)(B:ChR vb h b)(ms:List Hp):FnV Tryz.prog 113 #[va,vb] h ms (.bool (eqC a b)):=by
 refine DY ?_ ms;obtain⟨aa,ac,rfl,_⟩:=A.rd.rd.ex;obtain⟨ba,bc,rfl,_⟩:=B.rd.rd.ex;refine Ap func113 ntmps113 Y Y<|λw0 hw0=>?_;simp only[AR];refine Ar<|Qm Y<|Bp<|Qm Y<|Qc call138 Y (IW _ a h A)<|λx h1 ms1 l1 hF=>?_;obtain⟨l1',rfl,C⟩:=hF;obtain⟨l,CL,CR,_,_⟩:=C;refine Qm Y<|Qc call138 Y (IW _ b h1<|B.up l1')<|λy h2 ms2 l2 hF=>?_;obtain⟨l2',rfl,C⟩:=hF;obtain⟨r,CL2,CR2,_,_⟩:=C;have ox:=CR.rd.rd.one;have oy:=CR2.rd.rd.one;refine Qx (As Y call164 Y<|ZG l r x y h2 (CR.rd.up l2') CR2.rd _) Y<|Qm Y<|Am<|Aj ?_;have e:l=r<->∀c,cf a c=cf b c:=⟨λe c=>by rw[<-CL.cf_eq,<-CL2.cf_eq,e],λe=>CL.ext CL2 e⟩
 have e2:decide (l=r)=eqC a b:=by rw[Bool.eq_iff_iff,Py,fq];exact e
 exact Al Y Y<|aw Value.bool e2
theorem Xf(va vb:Value)(a b:List Tm)(h:Hp)(A:ChR va h a)(B:ChR vb h b)(hP:Bf a*Bf b<2^2000000):FnT Tryz.prog 124 #[va,vb] h [] (λr h' ms'=>h.le h'/\ms'=[]/\r=WD (lin (cf a) b)):=by
 obtain⟨aa,ac,rfl,_⟩:=A.rd.rd.ex;obtain⟨ba,bc,rfl,_⟩:=B.rd.rd.ex;have hfl:([a]:List (List Tm)).flatten=a:=by simp
 refine Ap func124 ntmps124 Y Y<|λw0 hw0=>?_;simp only[AR];refine Ar<|BS [.bool false,.es] Y Az Y Y<|λg4=>Bp<|Qm Y<|Ay [_] Y O5 SD Y (by rfl) Y Y ω Y Y Y<|λg10=>Bg λh2 l2 hS=>?_;refine Qc call92 Y (HF _ [_] [a] h2 (RdL.built hS Y Y GO δ) Y σ (λi hi=>by rcases i with _|i;exact A.up l2;simp at hi) (by rw[hfl];exact A.abs))<|λvm h3 ms3 l3 hF=>?_;obtain⟨l3',gT,m,bs,rfl,rfl,O⟩:=hF;rw[hfl]at O;refine Cr λh4 l4 lm=>?_;have l24:=AD l2 (AD l3' l4);refine Qm Y<|Bp<|BS [.bool false,.es] Y Az Y Y<|λg6=>Am<|Ac<|Ar<|Qm Y<|Qc call138 Y (IW _ b h4<|B.up l24)<|λvl h5 ms5 l5 hF=>?_;obtain⟨l5',rfl,C⟩:=hF;obtain⟨l,CL,CR,hab,_⟩:=C;have ol:=CR.rd.rd.one;have hlin:=CL.lin_eq (cf a);obtain⟨n,hn⟩:∃n,l.length=n:=⟨_,Y⟩
 have rL:∀h',h5.le h'->Rd h' [] vl 3 n (l.flatMap DQ):=λh' q=>by have:=(CR.rd.up q).rd;rwa [hn]at this
 have hAB:Bf a*Bf l<2^2000000:=Nat.lt_of_le_of_lt (Nat.mul_le_mul_left _ hab) hP;have hsz:∀k,Sz (lin (cf a) (l.take k)):=λk=>KM (bl (K6 (CW a) _) (Nat.mul_le_mul_left _ (F8 l k))) hAB δ;refine Qx (Aq (rL _<|BE).any Y CN Y) Y<|Qm Y<|Am<|Ag ?_;refine AB (λq sl h' ms'=>∃(k:Nat),n-k=q/\sl=[(4,.pt g4),(5,.map (some gT)),(6,.pt g6),(13,vl),(14,.w n),(15,.w k)]/\h5.le h'/\ms'=[BI g6 33 (Bi (lin (cf a) (l.take k))),BI g4 33 (Bi 0)]/\k<=n) (n-0) _ ⟨0,Y,Y,BE,Y,ω⟩ Qs ?_;rintro q sl h' ms' ⟨k,rfl,rfl,lh,rfl,hk⟩;refine Ar<|Qm Y<|Am<|Ac ?_;refine Aw Y (λhlt=>?_)<|λhlt=>?_
 ·have hkn:k<n:=ω
  have hkl:k<l.length:=ω
  obtain⟨t,ht⟩:∃t,l[k]=t:=⟨_,Y⟩
  have htm:t∈l:=ht ▸ ao hkl;have gE:∀ms,Seg h' ms ((AH vl).add (k*3)) (DQ t):=λms=>by rw[<-ht];exact((CR.rd.up lh).any (ms:=ms)).seg hkl
  obtain⟨x,hx⟩:∃x,cf a t.1=x:=⟨_,Y⟩
  have hxk:(BJ (Ja a) t.1).getD 0=x:=by rw[<-hx];exact E9 a t.1
  have hxs:Sz x:=by rw[<-hx];exact KM (CW _ _) A.abs δ
  obtain⟨y,hy⟩:∃y,lin (cf a) (l.take k)=y:=⟨_,Y⟩
  have hys:Sz y:=hy ▸ hsz k;have etk:lin (cf a) (l.take (k+1))=y+x*t.2:=by rw[ak hkl,ht,Ed,hy];show _+(cf a t.1*t.2+0)=_;rw[hx];omega
  have hps:Sz (x*t.2):=KM (n:=Bf a*Bf l) (by rw[Int.natAbs_mul,<-hx];exact ep (CW a _)<|HE htm) hAB δ;have osx:(sv (A7 x.natAbs)).oneCell'=true:=rfl;have osy:(sv (A7 y.natAbs)).oneCell'=true:=rfl;have ost:(sv (A7 t.2.natAbs)).oneCell'=true:=rfl;have osm:(sv (A7 (x*t.2).natAbs)).oneCell'=true:=rfl;have osr:(sv (A7 (y+x*t.2).natAbs)).oneCell'=true:=rfl;rw[hy];refine Ah<|Ab<|Ac<|Ag<|Ar<|Qx (AM (k) (rL _ lh).any Y CN Co Y Y ω ω) Y<|Qx (oG Y U79 Co<|gE _) Y<|BS [.w 0,.bool false,.es] Y Co Y Y<|λg8=>?_;refine Sa 0 [_,_,_] Co Y (by simp[ol,osx,osy,ost,osm,osr]) ?_;refine Am<|AF λh6 l6 hS8=>?_
  have sg8:∀ms,Seg h6 ms ((⟨g8,0,none⟩:Addr).add 1) (Bi t.2):=λms i v hv=>by
   have:=(hS8 (1+i) v (by rw[Nat.add_comm];exact hv)).any (ms:=ms)
   rwa [BF]
  have c8:∀ms,Cell h6 ms ((⟨g8,0,none⟩:Addr).add 0) (.w t.1):=λms=>(hS8 0 _ Y).any;have hm6:m.le h6:=AD lm (AD l5' (AD lh l6));refine AS (n:=10) (bs:=[ii,ig,ig,ig,ig,ig,ig,ig,ii,ii]) [ii,ig,ig,ig,ig,ig,ig,ig] CC κ κ Y Y<|Qq Y<|QF Ga Y<|QL Y U3 (c8 _)<|Qp Y (DH (V:=WD) (z:=(0:Int)) t.1 hxk BH O hm6 Y HQ MS Y Y<|CR.ids t htm)<|QF GY Y<|Qp Y (oG Y By Az<|sg8 _)<|Qp Y (As Y call141 Y<|JN x t.2 hxs (CR.sz htm) _ _) ?_;unfold Dd;simp only[bh,ap];refine Qo 0 Y<|Qx (oG Y By Az<|Seg.blk 0 Y) Y<|Qw<|Qo 8 Y<|Qx (As Y call156 Y<|N1 y (x*t.2) hys hps _ _) Y<|Qw<|Qo 9 Y ?_;refine Sa 0 [_,_] Az Y (by simp[ol,osx,osy,ost,osm,osr]) ?_;refine Qw<|Qe<|Ai<|Ab<|Ad<|Qx (oA Y) Y<|Qm Y<|An ?_;exact Ao (n-(k+1)) _ ω ⟨k+1,Y,Y,AD lh l6,(by rw[etk];rfl),ω⟩ Qs
 ·obtain rfl:k=n:=ω
  rw[show l.take k=l from take_of_length_le ω,hlin];have osf:(sv (A7 (lin (cf a) b).natAbs)).oneCell'=true:=rfl;refine Ax<|Aa<|Aa<|Af<|Ab<|Ar<|Qx (oG Y By Az<|Seg.blk 0 Y) Y ?_;refine Sa 1 [_,_] Az Y (by simp[ol,B8,osf]) ?_;refine Am<|Aj<|AQ ?_;exact Bx (vs:=[_,_]) 0 Y Y By Y Az Y Y (⟨AD l24<|AD l5' lh,Y,Y⟩)
theorem RgC.ids_mem{l:List Ce}(K:RgC l){d:Int}{i:Int}(h:i∈((cn l).filter λc=>decide (c.dim=d)).map Cl.id):Cd i:=by obtain⟨c,hc,rfl⟩:=ag.1 h;exact K.cI (dh.1 hc).1
theorem Yr(l:List Ce)(v:Value)(d:Int)(hp:Hp)(hK:RgC l)(hR:RdC hp v l) :
  FnT Tryz.prog 85 #[.agg #[v],.w d] hp [] (λr h' ms'=>hp.le h'/\ms'=[]/\RdL cI 1 h' [] r (((cn l).filter λc=>decide (c.dim=d)).map Cl.id)):=
 FnT.frz (Us l v d hp hK hR) λr h' ms' ⟨q,m,e,O⟩=>⟨m,[],e,λh2 l2 lm=>⟨AD q l2,rfl,O.rdh lm⟩⟩
theorem WJ(l:List Ce)(v va:Value)(d:Int)(a:List Tm)(h:Hp)(hK:RgC l)(X:CxS v h l)(A:ChR va h a)(hin:Eb (l.map Ce.c) d a=true)(ids:List Int)(hids:((cn l).filter λc=>decide (c.dim=d)).map Cl.id=ids)(hil:ids.length<=100000) :
  FnT Tryz.prog 44 #[.agg #[v],.w d,va] h [] (λw h' ms'=>h.le h'/\ms'=[]/\∃r,w=.tuple #[r,.bool true]/\RdL Bi 2 h' [] r (ids.map (cf a))):=by
 have ov:=X.rd.q.rd.one;obtain⟨aa,ac,rfl,_⟩:=A.rd.rd.ex;have hfl:([a]:List (List Tm)).flatten=a:=by simp
 refine Ap func44 ntmps44 Y Y<|λw0 hw0=>?_;simp only[AR];refine Ar<|AK [_] Y Y (by rfl) Y Y Y<|λg3=>Qm Y<|Qm Y<|Am<|AF λh1 l1 hS3=>?_;have s3:∀h',h1.le h'->∀ms,Seg h' ms (⟨g3,0,none⟩:Addr) [v]:=λh' q ms=>(hS3.le q).any;have X1:=X.up l1;refine Ac<|Ar<|Qx (oG Y C9 Bd<|s3 _ (BE) _) Y<|Qm Y<|Qm Y ?_;refine Qx (As Y call86 Y ((by have:=L2 l v (.slice aa a.length ac) d a h1 X1.rd X1.len X1.ids (A.up l1);rw[hin]at this;exact this _))) Y ?_;refine Qm Y<|Am<|AL Y<|Ah<|Ab<|Ar<|Qm Y<|Ay [_] Y O5 SD Y (by rfl) Y Y ω Y Y Y<|λg18=>Bg λh2 l2 hS=>?_;have l02:=AD l1 l2;refine Qc call92 Y (HF _ [_] [a] h2 (RdL.built hS Y Y GO δ) Y σ (λi hi=>by rcases i with _|i;exact A.up l02;simp at hi) (by rw[hfl];exact A.abs))<|λvm h3 ms3 l3 hF=>?_;obtain⟨l3',gT,m,bs,rfl,rfl,O⟩:=hF;rw[hfl]at O;refine Cr λh4 l4 lm=>?_;have l14:=AD l2 (AD l3' l4);have l04:=AD l1 l14;refine Qm Y<|Bp<|Qm Y<|Am<|Ac<|Ar<|Qx (oG Y C9 Bd<|s3 _ l14 _) Y<|Qm Y<|Qc call85 Y (Yr l v d h4 hK (X.up l04).rd)<|λvi h5 ms5 l5 hF=>?_;obtain⟨l5',rfl,RI⟩:=hF;rw[hids]at RI;have oi:=RI.rd.one;obtain⟨n,hn⟩:∃n,ids.length=n:=⟨_,Y⟩
 have rI:∀h',h5.le h'->Rd h' [] vi 1 n (ids.flatMap cI):=λh' q=>by have:=(RI.up q).rd;rwa [hn]at this
 refine Qx (Aq (rI _<|BE).any Y AZ Y) Y<|Qm Y<|Am<|Ag<|BV ?_;refine AB (λq sl h' ms'=>∃(k:Nat) (w:Value) (mo:Hp),n-k=q/\sl=[(8,.map (some gT)),(9,w),(22,vi),(23,.w n),(24,.w k)]/\h5.le h'/\ms'=[mo]/\k<=n/\OwnL Bi 2 33 mo w ((ids.take k).map (cf a))) (n-0) _ ⟨0,_,_,Y,Y,BE,Y,ω,OwnL.nil Fa⟩ Qs ?_;rintro q sl h' ms' ⟨k,w,mo,rfl,rfl,lh,rfl,hk,hO⟩;have ow:=hO.o1;have hol:((ids.take k).map (cf a)).length<=1000000:=by rw[be,ay];omega
 refine Ar<|Qm Y<|Am<|Ac ?_;refine Aw Y (λhlt=>?_)<|λhlt=>?_
 ·have hkn:k<n:=ω
  have hkl:k<ids.length:=ω
  obtain⟨c,hc⟩:∃c,ids[k]=c:=⟨_,Y⟩
  have hcI:Cd c:=RgC.ids_mem hK (d:=d) (by rw[hids,<-hc];exact ao hkl);have etk:(ids.take (k+1)).map (cf a)=(ids.take k).map (cf a)++[cf a c]:=by rw[ak hkl,hc,dd];rfl
  have cE:∀ms,Cell h' ms ((AH vi).add (k*1)) (.w c):=λms=>by rw[<-hc];exact((RI.up lh).any (ms:=ms)).cell0 hkl Y
  have hxk:(BJ (Ja a) c).getD 0=cf a c:=E9 a c;have osc:(sv (A7 (cf a c).natAbs)).oneCell'=true:=rfl;have hm':m.le h':=AD lm (AD l5' lh);refine Ah<|Ab<|Ac<|Ag<|Ar<|Qx (AM (k) (rI _ lh).any Y AZ Bk Y Y ω ω) Y<|Ql Y U3 (cE _)<|Qm Y<|GX<|Qm Y<|Qm Y<|Qm Y<|Qx (DH (V:=WD) (z:=(0:Int)) c hxk BH O hm' Y HQ MS Y Y hcI) Y<|Ay [_,_] Y CE Az Y (by rfl) Y Y ω Y Y Y<|λg32=>AJ 1 hO (RdL.one Fa (x:=cf a c) Mh Y) Y CE Az Y ω Y Y Y ES (by simp only[ab];omega) (by simp only[ab];omega) rfl rfl rfl<|λw2 mo2 hO2=>?_;have ow2:=hO2.o1;refine Qm Y<|An<|Ai<|Ab<|Ad<|Qx (oA Y) Y<|Qm Y<|An<|AQ ?_;exact Ao (n-(k+1)) _ ω ⟨k+1,w2,mo2,Y,Y,lh,Y,ω,by rw[etk];exact hO2⟩ Qs
 ·obtain rfl:k=n:=ω
  rw[show ids.take k=ids from take_of_length_le ω]at hO;refine Ax<|Aa<|Aa<|Af<|Ab<|Ar<|Qm Y<|Qm Y<|Qm Y<|Am<|Aj<|Dg hO λh8 l8 hR8=>?_;exact Ck Y Y Y (⟨AD l04<|AD l5'<|AD lh l8,Y,w,Y,hR8⟩)
theorem Na{ids xs:List Int}{k:Nat}(h1:k<ids.length)(h2:k<xs.length):(ids.zip xs).take (k+1)=(ids.zip xs).take k++[(ids[k],xs[k])]:=by rw[ak (by rw[List.length_zip];omega),List.getElem_zip]
theorem Za(l:List Ce)(v vx:Value)(d:Int)(xs:List Int)(h:Hp)(hK:RgC l)(X:CxS v h l)(ids:List Int)(hids:((cn l).filter λc=>decide (c.dim=d)).map Cl.id=ids)(R:RdL Bi 2 h [] vx xs)(hx:xs.length=ids.length)(hil:ids.length<=100000)(ha:Bf (ids.zip xs)<2^2000000) :
  FnT Tryz.prog 47 #[.agg #[v],.w d,vx] h [] (λw h' ms'=>h.le h'/\∃r l' m,w=.tuple #[r,.bool true]/\ms'=[m]/\OwnL DQ 3 79 m r l'/\CanL l' (cf (ids.zip xs))/\l'.length<=(ids.zip xs).length):=by
 have ov:=X.rd.q.rd.one;have ox:=R.rd.one;obtain⟨n,hn⟩:∃n,ids.length=n:=⟨_,Y⟩
 have hxn:xs.length=n:=ω
 have rX:∀h',h.le h'->Rd h' [] vx 2 n (xs.flatMap Bi):=λh' q=>by have:=(R.up q).rd;rwa [hxn]at this
 refine Ap func47 ntmps47 Y Y<|λw0 hw0=>?_;simp only[AR];refine Ar<|AK [_] Y Y (by rfl) Y Y Y<|λg3=>Qm Y<|Qm Y<|Am<|AF λh1 l1 hS3=>?_;have s3:∀h',h1.le h'->∀ms,Seg h' ms (⟨g3,0,none⟩:Addr) [v]:=λh' q ms=>(hS3.le q).any;refine Ar<|Qx (oG Y C9 Bd<|s3 _ (BE) _) Y<|Qm Y<|Qc call85 Y (Yr l v d h1 hK (X.up l1).rd)<|λvi h5 ms5 l5 hF=>?_;obtain⟨l5',rfl,RI⟩:=hF;rw[hids]at RI;have oi:=RI.rd.one;have l05:=AD l1 l5';have rI:∀h',h5.le h'->Rd h' [] vi 1 n (ids.flatMap cI):=λh' q=>by have:=(RI.up q).rd;rwa [hn]at this
 refine Qm Y<|Am<|Ac<|Ar<|Qm Y<|Qx (Aq (rI _<|BE).any Y AZ Y) Y<|Qm Y<|Qx (Aq (rX _ l05).any Y CE Y) Y<|Qm Y<|Am<|Aw Y (λhc=>ie hc σ)<|λhc=>Ah<|Ab<|Ar<|Dx (K:=kN) (V:=WD) (Ok:=Cd) rfl rfl rfl rfl<|λgT m0 O0=>Qm rfl<|Am<|Ac<|Ar<|Qm rfl<|Qx (Aq (rI _<|BE).any rfl AZ rfl) rfl<|Qm rfl<|Am<|Ag ?_;refine AB (λq sl h' ms'=>∃(k:Nat) (m:Hp) (bs:List Nat),n-k=q/\sl=[(2,vx),(9,.map (some gT)),(21,vi),(22,.w n),(23,.w k)]/\h5.le h'/\ms'=[m]/\k<=n/\CF kN WD gT Cd m (Ja ((ids.zip xs).take k)) bs) (n-0) _ ⟨0,m0,[],Y,Y,BE,Y,ω,O0⟩ Qs ?_;rintro q sl h' ms' ⟨k,m,bs,rfl,rfl,lh,rfl,hk,O⟩;refine Ar<|Qm Y<|Am<|Ac ?_;refine Aw Y (λhlt=>?_)<|λhlt=>?_
 ·have hkn:k<n:=ω
  have hki:k<ids.length:=ω
  have hkx:k<xs.length:=ω
  obtain⟨c,hc⟩:∃c,ids[k]=c:=⟨_,Y⟩
  obtain⟨x,hxe⟩:∃x,xs[k]=x:=⟨_,Y⟩
  have hcI:Cd c:=RgC.ids_mem hK (d:=d) (by rw[hids,<-hc];exact ao hki);have etk:(ids.zip xs).take (k+1)=(ids.zip xs).take k++[(c,x)]:=by rw[Na hki hkx,hc,hxe]
  have hxm:(c,x)∈ids.zip xs:=by rw[<-hc,<-hxe,<-List.getElem_zip (h:=by rw[List.length_zip];omega)];exact ao _
  have cE:∀ms,Cell h' ms ((AH vi).add (k*1)) (.w c):=λms=>by rw[<-hc];exact((RI.up lh).any (ms:=ms)).cell0 hki Y
  have gE:∀ms,Seg h' ms ((AH vx).add (k*2)) (Bi x):=λms=>by rw[<-hxe];exact((R.up (AD l05 lh)).any (ms:=ms)).seg hkx
  have hxs:Sz x:=KM (HE hxm) ha δ;have hts:Sz (tv (Ja ((ids.zip xs).take k)) c):=by rw[E9];exact KM (bl (CW _ _)<|F8 _ _) ha δ
  have osx:(sv (A7 x.natAbs)).oneCell'=true:=rfl;refine Ah<|Ab<|Ac<|Ag<|Ar<|Qm Y<|Qx (AM (k) (rI _ lh).any Y AZ Bk Y Y ω ω) Y<|Ql Y U3 (cE _)<|Qm Y<|Qm Y<|GX<|Qm Y<|Qm Y<|Qm Y<|Qm Y<|Qx (AM (k) (rX _<|AD l05 lh).any Y CE Az Y Y ω ω) Y<|Qx (oG Y By Az<|gE _) Y<|AC (pre:=[m]) Y call102 Y (Ke gT m _ bs c x hcI hxs hts O h') Y Y Y Y<|λz h4 ms4 l4 hF=>?_;obtain⟨rfl,m',bs',rfl,O'⟩:=hF;rw[show JO (Ja ((ids.zip xs).take k)) c x=Ja ((ids.zip xs).take (k+1)) by rw[etk,JQ]]at O';refine An<|Ai<|Ab<|Ad<|Qx (oA Y) Y<|Qm Y<|An ?_;exact Ao (n-(k+1)) _ ω ⟨k+1,m',bs',Y,Y,lh,Y,ω,O'⟩ Qs
 ·obtain rfl:k=n:=ω
  rw[take_of_length_le (show(ids.zip xs).length<=k by rw[List.length_zip];omega)]at O;refine Ax<|Aa<|Aa<|Af<|Ab<|Ar<|Qm Y<|Cr λh6 l6 lm=>?_;refine Qc call103 Y (Mb gT m _ bs h6 O lm (bl (IV _) (by rw[List.length_zip];omega))<|AaH ha)<|λw h8 ms8 l8 hF=>?_;obtain⟨l8',l',m',rfl,OL,C,hlen⟩:=hF;have ow:=OL.o1;refine Qm Y<|Qm Y<|Am<|Aj ?_;exact Ck Y Y Y (⟨AD l05<|AD lh<|AD l6 l8',w,l',m',Y,Y,OL,C.congr<|E9 _,bl hlen<|IV _⟩)
theorem Aao(l:List Ce)(v vx:Value)(d:Int)(xs:List Int)(h:Hp)(hK:RgC l)(X:CxS v h l)(ids:List Int)(hids:((cn l).filter λc=>decide (c.dim=d)).map Cl.id=ids)(R:RdL Bi 2 h [] vx xs)(hx:xs.length=ids.length)(hil:ids.length<=100000)(ha:Bf (ids.zip xs)<2^2000000) :
  FnT Tryz.prog 47 #[.agg #[v],.w d,vx] h [] (λw h' ms'=>h.le h'/\ms'=[]/\∃r,w=.tuple #[r,.bool true]/\CanR (ids.zip xs) r h'):=
 FnT.frz (Za l v vx d xs h hK X ids hids R hx hil ha) λw h' ms' ⟨q,r,l',m,e1,e2,O,C,hn⟩=>⟨m,[],e2,λh2 l2 lm=>⟨AD q l2,rfl,r,e1,CanR.of C (O.rdh lm) (by rw[List.length_zip];omega) (λp hp=>RgC.ids_mem hK (d:=d) (by rw[hids];exact(List.of_mem_zip hp).1)) ha hn⟩⟩
def AaT(x y:List Tm)(r:Value)(h:Hp):Prop:=∃l,CanL l (λc=>cf x c-cf y c)/\ChR r h l/\Bf l<=Bf x+Bf y/\l.length<=x.length+y.length
def qV(v:Value)(d:Int)(vx vy:Value):Value:=.agg #[v,.int .i64 d,vx,vy]
theorem PJ(v vx vy:Value)(d:Int)(x y:List Tm)(h:Hp)(ov:v.oneCell'=true)(X:ChR vx h x)(Y:ChR vy h y)(hn:x.length+y.length<=100000)(ha:Bf x+Bf y<2^2000000) :
  FnT Tryz.prog 45 #[qV v d vx vy] h [] (fun r h' ms'=>h.le h'/\ms'=[]/\AaT x y r h'):=by
 obtain⟨xa,xc,rfl,_⟩:=X.rd.rd.ex;obtain⟨ya,yc,rfl,_⟩:=Y.rd.rd.ex;unfold qV;refine Ap func45 ntmps45 rfl rfl<|fun w0 hw0=>?_;simp only[AR];refine Ar<|AK [_,_,_,_] rfl rfl (by rfl) rfl rfl rfl<|fun g1=>Qm rfl (Am (AF fun h1 l1 hS1=>?_));have c2:∀ms,Cell h1 ms ((⟨g1,0,none⟩:Addr).add 2) (.slice xa x.length xc):=fun ms=>(hS1 2 _ rfl).any;have c3:∀ms,Cell h1 ms ((⟨g1,0,none⟩:Addr).add 3) (.slice ya y.length yc):=fun ms=>(hS1 3 _ rfl).any
 have hone:(-1:Int).natAbs*Bf y<2^2000000:=by show 1*Bf y<_;omega
 refine Ac<|AS (n:=8) (bs:=[ig,ig,ig,ig,ig,ii,ii,ii]) [ig,ig,ig,ig,ig] CC κ κ rfl rfl<|QF Un rfl<|QL rfl CN (c2 _)<|Qp rfl (As rfl call95 rfl<|GU (-1) δ _ _)<|QF TW rfl<|QL rfl CN (c3 _) ?_;unfold Dd;simp only[bh,ap];refine Qo 5 rfl<|AC (pre:=[]) rfl call94 rfl (TB (-1) _ y h1 (Y.up l1) (N7 δ) hone) rfl rfl rfl rfl<|fun z h2 ms2 l2 hF=>?_;obtain⟨l2',rfl,C⟩:=hF;obtain⟨l5,CL,CR,hab,hln⟩:=C;obtain⟨za,zc,rfl,_⟩:=CR.rd.rd.ex;have hab':Bf l5<=Bf y:=by rw[JC]at hab;exact bl hab (by show 1*Bf y<=_;omega)
 have hln':l5.length<=y.length:=by rw[Kg,be]at hln;exact hln
 refine Qa<|Qo 6 rfl ?_;refine AC (pre:=[]) rfl call93 rfl (Xx _ _ x l5 h2 (X.up<|AD l1 l2') CR ω (by rw[Bn];omega)) rfl rfl rfl rfl<|fun w h3 ms3 l3 hF=>?_;obtain⟨l3',rfl,C2⟩:=hF;have l23:=AD l2' l3';have l13:=AD l1 (AD l2' l3');obtain⟨l6,CL6,CR6,hab6,hln6⟩:=C2;have ow:=CR6.rd.rd.one;refine Qa<|Qo 7 rfl<|Qm rfl<|Qa<|Qe ?_;have hfin:AaT x y w h3:=⟨l6,CL6.congr fun c=>by rw[Ej,CL.cf_eq,MD];omega,CR6,by rw[Bn]at hab6;omega,by rw[af]at hln6;omega⟩
 refine Ab<|Aj ?_;exact Al rfl rfl (⟨l13,rfl,hfin⟩)
noncomputable def bz(o:List Cl)(x:List Tm):Bool:=@decide (∀c,cf (DB (AY o) x) c=0) (Classical.propDecidable _)
theorem Hr(o:List Cl)(x:List Tm):bz o x=true<->∀c,cf (DB (AY o) x) c=0:=@fq _ (Classical.propDecidable _)
theorem Oq{o:List Cl}{x l:List Tm}(C:CanL l (cf (DB (AY o) x))):bz o x=true<->l.length=0:=by
 rw[Hr];constructor
 ·intro h;cases l with
  | nil=>rfl
  | cons p l=>exact ie (h p.1) (by have:=C.val p List.mem_cons_self;rw[<-this.1];exact this.2)
 ·intro h c;have:l=[]:=fm.1 h;rw[<-C.cf_eq,this,FB]
structure QsOk(v:Value)(h:Hp)(l:List Ce):Prop where
 K:RgC l
 X:CxS v h l
 many:∀n:Int,(((cn l).filter λc=>decide (c.dim=n)).map Cl.id).length<=100
 dims:∀c∈cn l,c.dim<=1000
theorem QsOk.up{v:Value}{h h':Hp}{l:List Ce}(Q:QsOk v h l)(q:h.le h'):QsOk v h' l:=⟨Q.K,Q.X.up q,Q.many,Q.dims⟩
theorem IE(v vx vy:Value)(d:Int)(x y:List Tm)(l:List Ce)(h:Hp)(Q:QsOk v h l)(X:ChR vx h x)(Y:ChR vy h y)(hx:Eb (l.map Ce.c) d x=true)(hy:Eb (l.map Ce.c) d y=true)(bx:Bf (DB (AY (l.map Ce.c)) x)<2^2000000)(by_:Bf (DB (AY (l.map Ce.c)) y)<2^2000000)(ms:List Hp) :
  FnV Tryz.prog 42 #[qV v d vx vy] h ms (.w (if bz (l.map Ce.c) x&&bz (l.map Ce.c) y then 0 else 40)):=by
 refine DY ?_ ms;have ov:=Q.X.rd.q.rd.one;obtain⟨xa,xc,rfl,_⟩:=X.rd.rd.ex;obtain⟨ya,yc,rfl,_⟩:=Y.rd.rd.ex;unfold qV;refine Ap func42 ntmps42 rfl rfl<|fun w0 hw0=>?_;simp only[AR];refine Ar<|AK [_,_,_,_] rfl rfl (by rfl) rfl rfl rfl<|fun g1=>Qm rfl (Am (AF fun h1 l1 hS1=>?_))
 have s0:∀h',h1.le h'->∀ms,Seg h' ms (⟨g1,0,none⟩:Addr) [v]:=fun h' q ms i u hu=>by
  rcases i with _|i
  ·simp at hu;subst hu;exact((hS1 0 _ rfl).any).le q
  ·simp at hu
 have c1:∀h',h1.le h'->∀ms,Cell h' ms ((⟨g1,0,none⟩:Addr).add 1) (.w d):=fun h' q ms=>((hS1 1 _ rfl).any).le q;have c2:∀h',h1.le h'->∀ms,Cell h' ms ((⟨g1,0,none⟩:Addr).add 2) (.slice xa x.length xc):=fun h' q ms=>((hS1 2 _ rfl).any).le q;have c3:∀h',h1.le h'->∀ms,Cell h' ms ((⟨g1,0,none⟩:Addr).add 3) (.slice ya y.length yc):=fun h' q ms=>((hS1 3 _ rfl).any).le q;have Q1:=Q.up l1;refine Ac<|Ar<|Qf Fz rfl<|Qx (oG rfl C9 Bd<|s0 _ (BE) _) rfl<|Qx (As rfl call83 rfl<|DY (Xz l v h1 Q1.K Q1.X.rd) _) rfl<|Qm rfl<|Qm rfl<|Qm rfl<|Qm rfl<|Qm rfl<|Bp<|Qm rfl<|Qm rfl<|Am<|Aw rfl (fun hc=>ie hc σ)<|fun hc=>Ah (Ab (Ac (Ar (Qf Fz rfl (Qx (oG rfl C9 Bd (s0 _ (BE) _)) rfl (Qc call84 rfl (AdG l v h1 Q1.K Q1.X.rd) (fun D0 h2 ms2 l2 hF=>?_)))))));obtain⟨l2',rfl,D,rfl,hD1,hD2,hD3⟩:=hF
 have hDb:D<=1000:=by
  rcases hD3 with e|⟨c,hc,e⟩
  ·omega
  ·have:=Q.dims c hc;omega
 obtain⟨n,hDn⟩:∃n:Nat,D+1=n:=⟨(D+1).toNat,ω⟩
 have l02:=AD l1 l2';refine Qx (oA rfl) rfl<|Qm rfl<|Am<|Ag ?_;refine AB (fun q sl h' ms'=>∃(k:Nat),n-k=q/\sl=[(1,.pt g1),(18,.w n),(19,.w k)]/\h2.le h'/\ms'=[]/\k<=n) (n-0) [(1,.pt g1),(18,.w (D+1)),(19,.w 0)] ⟨0,rfl,by rw[hDn];rfl,BE,rfl,ω⟩ Qs ?_;rintro q sl h' ms' ⟨k,rfl,rfl,lh,rfl,hk⟩;have l1h:=AD l2' lh;have l0h:=AD l02 lh;refine Ar<|Qm rfl<|Am<|Ac ?_;refine Aw rfl (fun hlt=>?_)<|fun hlt=>?_
 ·refine Ah<|Ab<|Ac<|Ag<|Ar<|Qm rfl<|Qm rfl<|Bp<|Qf Fz rfl<|Qx (oG rfl C9 Bd<|s0 _ l1h _) rfl<|Qm rfl<|Qc call85 rfl (Yr l v (k:Int) h' Q.K (Q.up l0h).X.rd)<|fun vi h5 ms5 l5 hF=>?_;obtain⟨l5',rfl,RI⟩:=hF;have hmk:=Q.many (k:Int);have oi:=RI.rd.one;refine Qx (Aq RI.rd.any rfl AZ rfl) rfl<|Qm rfl<|Am<|Aw rfl (fun hc=>ie hc (ω))<|fun hc=>Ah (Ai (Ab (Ad (Qx (oA rfl) rfl (Qm rfl (An ?_))))));exact Ao (n-(k+1)) _ ω ⟨k+1,rfl,rfl,AD lh l5',rfl,ω⟩ Qs
 ·refine Ax<|Aa<|Aa<|Af<|Ab<|Ac<|Ar<|Qf Fz rfl<|Qx (oG rfl C9 Bd<|s0 _ l1h _) rfl<|Qf Mx rfl<|Ql rfl U3 (c1 _ l1h _)<|Qf Un rfl<|Ql rfl CN (c2 _ l1h _) ?_;refine Qx (As rfl call86 rfl (by have:=L2 l v (.slice xa x.length xc) d x h' (Q.up l0h).X.rd (Q.up l0h).X.len (Q.up l0h).X.ids (X.up l0h);rw[hx]at this;exact this _)) rfl ?_;refine Qm rfl<|Qm rfl<|Qg (oF Fz rfl) rfl<|Qg (oG rfl C9 Bd<|s0 _ l1h _) rfl<|Qg (oF Mx rfl) rfl<|Qg (oL rfl U3<|c1 _ l1h _) rfl<|Qg (oF TW rfl) rfl<|Qg (oL rfl CN<|c3 _ l1h _) rfl ?_;refine Qg (As rfl call86 rfl (by have:=L2 l v (.slice ya y.length yc) d y h' (Q.up l0h).X.rd (Q.up l0h).X.len (Q.up l0h).X.ids (Y.up l0h);rw[hy]at this;exact this _)) rfl ?_;refine Qg (Dn rfl rfl) rfl<|Qm rfl<|Am<|AL rfl<|Ah<|Ab<|Ac<|Ar<|Qf Fz rfl<|Qx (oG rfl C9 Bd<|s0 _ l1h _) rfl<|Qf Un rfl<|Ql rfl CN (c2 _ l1h _)<|Qc call87 rfl (Fu v _ l x h' (Q.up l0h).X (X.up l0h) bx)<|fun wx h6 ms6 l6 hF=>?_;obtain⟨l6',rfl,C⟩:=hF;obtain⟨lx,CL,CR,_,_⟩:=C;have hbx:=Oq CL;have l16:=AD l1h l6';refine Qx (Aq CR.rd.rd.any rfl CN rfl) rfl<|Qm rfl<|Qm rfl ?_;refine AU (t:=54) rfl (fun hs=>?_)<|fun hs=>?_
  ·have hs':¬lx.length=0:=ω
   have hbf:bz (l.map Ce.c) x=false:=by cases hb:bz (l.map Ce.c) x with|false=>rfl|true=>exact ie (hbx.1 hb) hs'
   refine Qk rfl<|Qk rfl<|Qk rfl<|Qk rfl<|Qk rfl<|Qk rfl<|Qk rfl<|Qm rfl<|Am<|AX rfl<|Ar<|Qm rfl<|Am<|Aj<|Ae ?_;exact Al rfl rfl (by rw[hbf];rfl)
  ·have hs':lx.length=0:=ω
   have hbt:bz (l.map Ce.c) x=true:=hbx.2 hs';refine Qg (oF Fz rfl) rfl<|Qg (oG rfl C9 Bd<|s0 _ l16 _) rfl<|Qg (oF TW rfl) rfl<|Qg (oL rfl CN<|c3 _ l16 _) rfl<|DS rfl rfl rfl rfl<|Qc call87 rfl (Fu v _ l y h6 (Q.up<|AD l0h l6').X (Y.up<|AD l0h l6') by_)<|fun wy h7 ms7 l7 hF=>?_;obtain⟨l7',rfl,C⟩:=hF;obtain⟨ly,CLy,CRy,_,_⟩:=C;have hby:=Oq CLy;refine Qg (Aq CRy.rd.rd.any rfl CN rfl) rfl<|Qg (Ci rfl rfl rfl) rfl<|Qm rfl<|Am ?_;refine Aw rfl (fun hs2=>?_)<|fun hs2=>?_
   ·have hs3:¬ly.length=0:=ω
    have hbf:bz (l.map Ce.c) y=false:=by cases hb:bz (l.map Ce.c) y with|false=>rfl|true=>exact ie (hby.1 hb) hs3
    refine Ar<|Qm rfl<|Am<|Aj<|Ae ?_;exact Al rfl rfl (by rw[hbt,hbf];rfl)
   ·have hs3:ly.length=0:=ω
    have hbf:bz (l.map Ce.c) y=true:=hby.2 hs3;refine Ah<|Ab<|Ar<|Qm rfl<|Am<|Aj ?_;exact Al rfl rfl (by rw[hbt,hbf];rfl)
theorem Oo{B:Nat}:∀{ids xs:List Int},(∀x∈xs,Bq B x)->Bf (ids.zip xs)<=xs.length*2^B
 | [],xs,_=>by simp[Bf]
 | i::ids,[],_=>by simp[Bf]
 | i::ids,x::xs,h=>by have ih:=Oo (ids:=ids) (xs:=xs) λy hy=>h y (List.mem_cons_of_mem _ hy);have hx:x.natAbs<2^B:=h x List.mem_cons_self;rw[List.zip_cons_cons,Dv,List.length_cons,cw,fp];show x.natAbs+_<=_;omega
set_option exponentiation.threshold 4000000 in
theorem Uu{B n:Nat}{g:Nat->Int}{ids:List Int}(h:∀i,i<n->Bq B (g i))(hn:n<=200)(hB:B<=1999990):Bf (ids.zip (Dr n g))<2^2000000:=by
 have h1:=Oo (B:=B) (ids:=ids) (xs:=Dr n g) λx hx=>by obtain⟨i,hi,rfl⟩:=ag.1 hx;exact h i<|cm.1 hi
 rw[B7]at h1;have h2:n*2^B<2^8*2^B:=Nat.mul_lt_mul_of_pos_right ω (Nat.pow_pos δ);rw[<-Nat.pow_add]at h2;have h3:2^(8+B)<=2^2000000:=Nat.pow_le_pow_right δ ω;exact Nat.lt_of_le_of_lt h1<|b6 h2 h3
theorem Abk(ids:List Int)(g:Int->Int):ids.map g=Dr ids.length λi=>g (ids.getD i 0):=by
 refine List.ext_getElem? λk=>?_;unfold Dr;by_cases hk:k<ids.length
 ·simp[hk,List.getD]
 ·simp[eq,hk]
theorem Acm{o:List Cl}{d:Int}{x y l:List Tm}(hx:Eb o d x=true)(hy:Eb o d y=true)(C:CanL l (λc=>cf x c-cf y c)):Eb o d l=true:=by
 rw[CQ]at *;intro c hc;rw[C.cf_eq]at hc;by_cases h:cf x c=0
 ·exact hy c ω
 ·exact hx c h
def Afl(r c:Nat)(ids0 ids1:List Int)(D C:Nat->Int)(S:FS)(w:Value)(h:Hp):Prop:=
 ((∀j,j<r->D j∣C j)/\∃vc,w=.tuple #[.agg #[.bool true,vc,.nl,.bool false,sv []],.w 0]/\CanR (ids1.zip (Dr c λi=>sm c λq=>AV S.v i q*Ff r D C q)) vc h) ∨
 (∃k,k<r/\¬D k∣C k/\(∀j,j<k->D j∣C j)/\∃vc,w=.tuple #[.agg #[.bool false,.nl,vc,.bool (decide (D k<0)),sv (A7 (D k).natAbs)],.w 0]/\CanR (ids0.zip (Dr r (AV S.u k))) vc h)
theorem ZE(l:List Ce)(v:Value)(d:Int)(hd:-5<=d/\d<=1000)(hp:Hp)(hK:RgC l)(hR:RdC hp v l)(hn:l.length<=200)(h1:(A9 (cn l) (d-1)).length<=200)(h2:(A9 (cn l) d).length<=200) :
  FnT Tryz.prog 43 #[.agg #[v],.w d] hp [] (λw h' ms'=>hp.le h'/\ms'=[]/\MW w h' (A9 (cn l) (d-1)).length (A9 (cn l) d).length (DW (A9 (cn l) (d-1)).length (A9 (cn l) d).length (I7 (cn l) d))):=
 FnT.frz (Xw l v d hd hp hK hR hn) λw h' ms' ⟨q,ev,m,e1,e2,O⟩=>⟨m,[],e1,λh3 l2 lm=>⟨AD q l2,rfl,h1,h2,Ca _ _ _,ev,e2,O.rdh lm⟩⟩
set_option exponentiation.threshold 4000000 in
theorem T5(v vx vy:Value)(d:Int)(hd:0<=d/\d<=900)(x y:List Tm)(l:List Ce)(h:Hp)(Q:QsOk v h l)(hl:l.length<=200)(X:ChR vx h x)(Y:ChR vy h y)(hx:Eb (l.map Ce.c) d x=true)(hy:Eb (l.map Ce.c) d y=true)(bx:Bf (DB (AY (l.map Ce.c)) x)<2^2000000)(by_:Bf (DB (AY (l.map Ce.c)) y)<2^2000000)(zx:bz (l.map Ce.c) x=true)(zy:bz (l.map Ce.c) y=true)
  (hn:x.length+y.length<=100000) (ha:Bf x+Bf y<2^99) (r c:Nat) (ids0 ids1:List Int) (hi0:A9 (cn l) d=ids0) (hi1:A9 (cn l) (d+1)=ids1) (hr:ids0.length=r) (hcl:ids1.length=c) (f:Nat->Nat->Int) (hF:I7 (cn l) (d+1)=f) (hf:∀i j,i<r->j<c->Bq 33 (f i j)) (s':St) (hfp:Fg r c (min r c) 0 (Uc r c f)=some s') (D C:Nat->Int) (hDe:Vt c s'.S.d.flatten=D) (hCe:ubF s'.S r (fun i=>cf x (ids0.getD i 0)-cf y (ids0.getD i 0))=C) (hD:∀k,k<r->(D k).natAbs<4294967296) :
  FnT Tryz.prog 16 #[.agg #[v],.w d,vx,vy] h [] (fun w h' ms'=>h.le h'/\ms'=[]/\s'.S.Ok r c 660033/\Afl r c ids0 ids1 D C s'.S w h'):=by
 have ov:=Q.X.rd.q.rd.one;have hm0:=Q.many d;have hm1:=Q.many (d+1);have hr1:r<=100:=by rw[<-hr,<-hi0];exact hm0
 have hc1:c<=100:=by rw[<-hcl,<-hi1];exact hm1
 obtain⟨xa,xc,rfl,_⟩:=X.rd.rd.ex;obtain⟨ya,yc,rfl,_⟩:=Y.rd.rd.ex;refine Ap func16 ntmps16 rfl rfl<|fun w0 hw0=>?_;simp only[AR];refine Ar<|AK [_] rfl rfl (by rfl) rfl rfl rfl<|fun g4=>BS [.bool false,.nl,.nl,.bool false,.es] rfl E6 rfl rfl (fun g8=>Qm rfl (Bp (Qx (oG rfl C9 Bd (Seg.blk 1 rfl)) rfl (Qm rfl (Qm rfl (Qm rfl (Qx (AN Ab8 [.nl,.w 0,.nl,.nl] [(0,_),(1,_),(2,_),(3,_)] [_,_,_,_] rfl FJ rfl rfl Qt rfl) rfl (BS [.nl,.w 0,.nl,.nl] rfl FJ rfl rfl (fun g10=>?_)))))))));refine Sa 0 [_,_,_,_] FJ rfl (by simp[ov,B8]) ?_;refine Am<|Av 0 rfl fun h1 l1 hS10=>(Av 1 rfl fun h2 l2 hS4=>?_);have l02:=AD l1 l2;have s4:∀h',h2.le h'->∀ms,Seg h' ms (⟨g4,0,none⟩:Addr) [v]:=fun h' q ms=>(hS4.le q).any;have s10:∀h',h2.le h'->∀ms,Seg h' ms (⟨g10,0,none⟩:Addr) [v,.w d,.slice xa x.length xc,.slice ya y.length yc]:=fun h' q ms=>((hS10.le l2).le q).any;have Q2:=Q.up l02;have hwr:=IE v (.slice xa x.length xc) (.slice ya y.length yc) d x y l h2 Q2 (X.up l02) (Y.up l02) hx hy bx by_;rw[zx,zy]at hwr;unfold qV at hwr;refine Ac<|Ar<|Qx (oG rfl XQ FJ<|s10 _ (BE) _) rfl<|Qx (As rfl call42 rfl<|hwr _) rfl<|Qm rfl<|Bp<|Qm rfl<|Qm rfl<|Am<|Aw rfl (fun hc=>ie hc σ)<|fun hc=>Ah (Ab (Ar (Qx (oG rfl C9 Bd (s4 _ (BE) _)) rfl (Qm rfl (Qx (oA rfl) rfl ?_)))));refine Qc call43 rfl (ZE l v (d+1) ω h2 Q.K Q2.X.rd hl (by rw[show d+1-1=d by omega];exact bl hm0 δ)<|bl hm1 δ)<|fun wm h3 ms3 l3 hF0=>?_;obtain⟨l3',rfl,hM⟩:=hF0;rw[show d+1-1=d by omega,hi0,hi1,hr,hcl,hF]at hM;have hM0:=hM;obtain⟨em,rfl,RM⟩:=hM0.ex;have om:=RM.rd.one;have l23:=l3';refine BS [.w 0,.w 0,.nl] rfl BL rfl rfl<|fun g12=>?_;refine Sa 0 [_,_,_] BL rfl (by simp[ov,B8,om]) ?_;refine Am<|Av 0 rfl fun h4 l4 hS12=>?_;have l24:=AD l23 l4;have l04:=AD l02 l24;refine Ac<|AS (n:=10) (bs:=[ig,ig,ig,ii,ii,ii,ii,ii,ii,ii]) [ig,ig,ig] CC κ κ rfl rfl<|Qp rfl (oG rfl C9 Bd<|s4 _ l24 _)<|Qq rfl<|Qp rfl (oG rfl XQ FJ<|s10 _ l24 _) ?_;unfold Dd;simp only[bh,ap];refine Qo 3 rfl<|AC (pre:=[]) rfl call45 rfl (PJ v _ _ d x y h4 ov (X.up l04) (Y.up l04) hn<|b6 ha<|Nat.pow_le_pow_right δ δ) rfl rfl rfl rfl<|fun wd h5 ms5 l5 hF1=>?_;obtain⟨l5',rfl,dl,CD,CR,hda,hdn⟩:=hF1;have hcfd:∀c,cf dl c=cf x c-cf y c:=fun c=>CD.cf_eq c;refine Qa<|Qo 4 rfl<|AC (pre:=[]) rfl call44 rfl (WJ l v wd d dl h5 Q.K (Q.X.up<|AD l04 l5') CR (Acm hx hy CD) ids0 hi0 ω) rfl rfl rfl rfl<|fun wv h6 ms6 l6 hF2=>?_;obtain⟨l6',rfl,vb,rfl,RB⟩:=hF2;have ob:=RB.rd.one;have l46:=AD l5' l6';refine Qa<|Bb 5 39 κ rfl (by assumption) rfl (Au rfl rfl)<|Bb 6 45 κ rfl (by assumption) rfl (BM rfl rfl rfl)<|Bb 7 46 κ rfl (by assumption) rfl (BM rfl rfl rfl)<|Qo 8 rfl<|Qm rfl<|Qa<|Qo 9 rfl<|Qm rfl<|Qa<|Qe ?_;have l26:=AD l24 l46
 have hbv:ids0.map (cf dl)=Dr r (fun i=>cf x (ids0.getD i 0)-cf y (ids0.getD i 0)):=by rw[Abk,hr];exact aw (Dr r)<|funext fun i=>hcfd _
 rw[hbv]at RB
 have hbq:∀i,i<r->Bq 100 (cf x (ids0.getD i 0)-cf y (ids0.getD i 0)):=fun i _=>by have h1:=CW x (ids0.getD i 0);have h2:=CW y (ids0.getD i 0);show(cf x (ids0.getD i 0)-cf y (ids0.getD i 0)).natAbs<2^100;have:(2:Nat)^99<=2^100:=Nat.pow_le_pow_right δ δ;omega
 have s12:∀h',h4.le h'->∀ms,Seg h' ms (⟨g12,0,none⟩:Addr) [.w r,.w c,em]:=fun h' q ms=>(hS12.le q).any;refine Ab<|Ac<|Ar<|Qx (oG rfl HR BL<|s12 _ l46 _) rfl<|Qm rfl<|Qc call46 rfl (ZD _ vb r c f _ s' D C h6 (hM.up<|AD l4 l46) hf hfp RB hbq hDe hCe hD)<|fun ws h7 ms7 l7 hF3=>?_;obtain⟨l7',rfl,O,hSol⟩:=hF3;have l27:=AD l26 l7';have l07:=AD l02 l27;have l67:=l7';rcases hSol with ⟨⟨k0,hk0,hn0⟩,rfl⟩|⟨hall,vz,rfl,RZ⟩
 ·refine Qm rfl<|Qm rfl<|Qm rfl<|Qm rfl<|Qm rfl<|Bp<|Qm rfl<|Am<|AL rfl<|Ah<|Ab<|Ar<|Qx (oG rfl HR BL<|s12 _ (AD l46 l7') _) rfl<|Qm rfl<|Qc call48 rfl (Wj _ vb r c f _ s' D C h7 (hM.up<|AD l4<|AD l46 l7') hf hfp (RB.up l7') hbq hDe hCe hD)<|fun wt h8 ms8 l8 hF4=>?_;obtain⟨l8',rfl,_,hRef⟩:=hF4;rcases hRef with ⟨k,hk,hnd,hbelow,vu,rfl,RU⟩|⟨hall,_⟩
  rotate_left
  ·exact ie (hall k0 hk0) hn0
  have ou:=RU.rd.one;have osx:(sv (A7 (D k).natAbs)).oneCell'=true:=rfl;refine Qm rfl<|Qm rfl<|Qm rfl<|Qm rfl<|BS [.bool false,.es] rfl Az rfl rfl<|fun g20=>Qm rfl ?_;refine Sa 0 [_,_] Az rfl (by simp[ov,B8,om,ob,ou,osx]) ?_;refine Qm rfl<|Am<|Av 0 rfl fun h9 l9 hS20=>?_;have l29:=AD l27 (AD l8' l9);have l09:=AD l02 l29;refine Ar<|Qx (oG rfl C9 Bd<|s4 _ l29 _) rfl<|Qm rfl<|Qm rfl ?_;refine Qc call47 rfl (Aao l v vu d (Dr r<|AV s'.S.u k) h9 Q.K (Q.X.up l09) ids0 hi0 (RU.up l9) (by rw[B7,hr]) ω<|Uu (fun i _=>O.bu k i) ω δ)<|fun wo hA msA lA hF5=>?_;obtain⟨lA',rfl,vo,rfl,CO⟩:=hF5;obtain⟨lo,CLo,CRo,abo,lno⟩:=CO;obtain⟨oa,oc,rfl,_⟩:=CRo.rd.rd.ex;have gD:∀ms,Seg hA ms (⟨g20,0,none⟩:Addr) (Bi (D k)):=fun ms=>(hS20.le lA').any;refine Qm rfl<|Qm rfl<|Qm rfl<|Qm rfl<|Qm rfl<|Bp<|Qm rfl<|Qx (oG rfl By Az<|gD _) rfl<|Qx (AN AbM [.bool false,.nl,.nl,.bool false,.es] [(2,_),(3,_)] [_,_,_,_,_] rfl E6 rfl rfl Qt rfl) rfl ?_;refine Sa 0 [_,_,_,_,_] E6 rfl (by simp[ov,B8,om,ob,ou,osx]) ?_;refine Qm rfl<|Am<|Aj ?_;exact Ig (vs:=[_,_,_,_,_]) 0 rfl rfl rfl U35 rfl E6 rfl rfl (⟨AD l09 lA',rfl,O,.inr ⟨k,hk,hnd,hbelow,_,rfl,lo,CLo,CRo,abo,lno⟩⟩)
 ·have oz:=RZ.rd.one
  have bY:∀i,Bq 1320600 (sm c fun q=>AV s'.S.v i q*Ff r D C q):=fun i=>by
   have hCk:∀k,k<r->Bq 660333 (C k):=fun k hk=>by rw[<-hCe];exact(Kb r fun q hq=>((O.bu k q).mul (hbq q hq)).mono (show 660033+100<=660133 by decide)).mono ω
   have bY:=Ow (D:=D) hCk;exact(Kb c fun q _=>((O.bv i q).mul (bY q)).mono (show 660033+(660333+1)<=1320400 by decide)).mono ω
  refine Qm rfl<|Qm rfl<|Qm rfl<|Qm rfl<|Qm rfl<|Bp<|Qm rfl<|Am<|AX rfl<|Ar<|Qx (oG rfl C9 Bd<|s4 _ l27 _) rfl<|Qm rfl<|Qx (oA rfl) rfl<|Qm rfl ?_;refine Qc call47 rfl (Aao l v vz (d+1) _ h7 Q.K (Q.X.up l07) ids1 hi1 RZ (by rw[B7,hcl]) ω<|Uu (fun i _=>bY i) ω δ)<|fun wo hA msA lA hF5=>?_;obtain⟨lA',rfl,vo,rfl,CO⟩:=hF5;obtain⟨lo,CLo,CRo,abo,lno⟩:=CO;obtain⟨oa,oc,rfl,_⟩:=CRo.rd.rd.ex;refine Qm rfl<|Qm rfl<|Qm rfl<|Qm rfl<|Qm rfl<|Bp<|Qm rfl<|Qx (AN AbM [.bool false,.nl,.nl,.bool false,.es] [(0,_),(1,_)] [_,_,_,_,_] rfl E6 rfl rfl Qt rfl) rfl ?_;refine Sa 0 [_,_,_,_,_] E6 rfl (by simp[Value.oneCell']) ?_;refine Qm rfl<|Am<|Aj<|Ae ?_;exact Ig (vs:=[_,_,_,_,_]) 0 rfl rfl rfl U35 rfl E6 rfl rfl (⟨AD l07 lA',rfl,O,.inl ⟨hall,_,rfl,lo,CLo,CRo,abo,lno⟩⟩)
noncomputable def ML(o:List Cl)(x y ch:List Tm):Bool:=@decide (∀c,cf (DB (AY o) ch) c=cf x c-cf y c) (Classical.propDecidable _)
theorem EE(o:List Cl)(x y ch:List Tm):ML o x y ch=true<->∀c,cf (DB (AY o) ch) c=cf x c-cf y c:=@fq _ (Classical.propDecidable _)
theorem PM{o:List Cl}{x y ch a b:List Tm}(A:CanL a (cf (DB (AY o) ch)))(B:CanL b (λc=>cf x c-cf y c)):eqC a b=ML o x y ch:=by rw[Bool.eq_iff_iff,Py,EE];exact⟨λh c=>by rw[<-A.cf_eq,h c,B.cf_eq],λh c=>by rw[A.cf_eq,h c,B.cf_eq]⟩
theorem ZR(m a:Int)(hm:m.natAbs<4294967296)(ha:Sz a)(h:Hp)(ms:List Hp):FnV Tryz.prog 116 #[WD m,WD a] h ms (.bool (decide (m∣a))):=by
 refine DY ?_ ms;have osm:(sv (A7 m.natAbs)).oneCell'=true:=rfl;have osa:(sv (A7 a.natAbs)).oneCell'=true:=rfl;have osq:(sv (A7 (a/m).natAbs)).oneCell'=true:=rfl;have osr:(sv (A7 (a%m).natAbs)).oneCell'=true:=rfl;have Sm_:Sz m:=Sz.of (B:=32) hm δ;refine Ap func116 ntmps116 Y Y<|λw0 hw0=>?_;simp only[AR];refine Ar<|AK [_,_] Y Y (by rfl) Y Y Y<|λg2=>AK [_,_] Y Y (by rfl) Y Y Y<|λg3=>Qm Y<|Am<|AF λh1 l1 hS3=>AF λh2 l2 hS2=>?_;have g3:∀ms,Seg h2 ms (⟨g3,0,none⟩:Addr) (Bi a):=λms=>(hS3.le l2).any;have g2:∀ms,Seg h2 ms (⟨g2,0,none⟩:Addr) (Bi m):=λms=>hS2.any;refine Ac<|Ar<|Qx (oG Y By Az<|g2 _) Y<|Qx (As Y call60 Y<|Et m Sm_ _ _) Y<|Qm Y<|Am ?_;refine Aw Y (λh0=>?_)<|λh0=>?_
 ·have h0':m=0:=Int.sign_eq_zero_iff_zero.1 h0;refine Ar<|Qx (oG Y By Az<|g3 _) Y<|Qx (As Y call60 Y<|Et a ha _ _) Y<|Qm Y<|Qm Y<|Am<|Aj<|Ae ?_;exact Al Y Y<|aw Value.bool<|fa.2 (by rw[h0',Int.zero_dvd];exact Int.sign_eq_zero_iff_zero)
 ·have h0':m≠0:=λe=>h0 (by rw[e];rfl);have Sr:Sz (a%m):=Sz.of (B:=32) (Nat.lt_of_le_of_lt (HZ h0') hm) δ;refine Ah<|Ab<|Ar<|Qx (oG Y By Az<|g3 _) Y<|Qx (oG Y By Az<|g2 _) Y<|Qx (As Y call100 Y<|Np a m ha h0' hm _ _) Y<|Qm Y<|Qm Y<|Qm Y<|Qm Y<|BS [.bool false,.es] Y Az Y Y<|λg5=>BS [.bool false,.es] Y Az Y Y<|λg6=>?_;refine Sa 1 [_,_] Az Y (by simp[osm,osa,osq,osr]) ?_;refine Sa 0 [_,_] Az Y (by simp[osm,osa,osq,osr]) ?_;refine Qm Y<|Bp<|Qx (oG Y By Az<|Seg.blk 0 Y) Y<|Qx (As Y call60 Y<|Et (a%m) Sr _ _) Y<|Qm Y<|Qm Y<|Am<|Aj ?_;exact Al Y Y<|aw Value.bool<|fa.2 (by rw[Int.dvd_iff_emod_eq_zero];exact Int.sign_eq_zero_iff_zero)
theorem Yt(v vx vy vc:Value)(d:Int)(hd:0<=d/\d<=900)(x y ch:List Tm)(l:List Ce)(h:Hp)(Q:CxS v h l)(X:ChR vx h x)(Y:ChR vy h y)(C:ChR vc h ch)(hn:x.length+y.length<=100000)(ha:Bf x+Bf y<2^2000000)(bc:Bf (DB (AY (l.map Ce.c)) ch)<2^2000000)(ms:List Hp) :
  FnV Tryz.prog 59 #[qV v d vx vy,vc] h ms (.bool (Eb (l.map Ce.c) (d+1) ch&&ML (l.map Ce.c) x y ch)):=by
 refine DY ?_ ms;have ov:=Q.rd.q.rd.one;obtain⟨xa,xc,rfl,_⟩:=X.rd.rd.ex;obtain⟨ya,yc,rfl,_⟩:=Y.rd.rd.ex;obtain⟨ca,cc,rfl,_⟩:=C.rd.rd.ex;unfold qV;refine Ap func59 ntmps59 rfl rfl<|fun w0 hw0=>?_;simp only[AR];refine Ar<|AK [_,_,_,_] rfl rfl (by rfl) rfl rfl rfl<|fun g2=>Qm rfl (Am (AF fun h1 l1 hS2=>?_));have s2:∀h',h1.le h'->∀ms,Seg h' ms (⟨g2,0,none⟩:Addr) [v,.w d,.slice xa x.length xc,.slice ya y.length yc]:=fun h' q ms=>(hS2.le q).any
 have s0:∀h',h1.le h'->∀ms,Seg h' ms (⟨g2,0,none⟩:Addr) [v]:=fun h' q ms i u hu=>by
  rcases i with _|i
  ·simp at hu;subst hu;exact((hS2 0 _ rfl).any).le q
  ·simp at hu
 have c1:∀h',h1.le h'->∀ms,Cell h' ms ((⟨g2,0,none⟩:Addr).add 1) (.w d):=fun h' q ms=>((hS2 1 _ rfl).any).le q;have hin:=L2 l v (.slice ca ch.length cc) (d+1) ch h1 (Q.up l1).rd Q.len Q.ids (C.up l1);cases hb:Eb (l.map Ce.c) (d+1) ch
 all_goals rw[hb]at hin
 ·refine Ac<|AS (n:=17) (bs:=[ig,ig,ig,ig,ig,ig,ig,ii,ii,ii,ii,ii,ii,ii,ii,ii,ii]) [ig,ig,ig,ig,ig,ig,ig] CC κ κ rfl rfl<|QF Fz rfl<|Qp rfl (oG rfl C9 Bd<|s0 _ (BE) _)<|QF Mx rfl<|QL rfl U3 (c1 _ (BE) _)<|Qp rfl (oA rfl)<|Qq rfl<|Qp rfl (As rfl call86 rfl<|hin _) ?_;unfold Dd;simp only[bh,ap];refine Qo 7 rfl<|Qm rfl<|Qw<|A4 [8,10,12] κ rfl ?_;refine AA rfl ?_ ?_;refine Qk rfl<|Qw<|A4 [9,10,12] κ rfl ?_;refine AA rfl ?_ ?_;refine Qk rfl<|Qw<|A4 [10,12] κ rfl ?_;refine AA rfl ?_ ?_;refine Qk rfl<|Qw<|A4 [11,12] κ rfl ?_;refine AA rfl ?_ ?_;refine Qk rfl<|Qw<|Qo 12 rfl<|Qk rfl<|Qw ?_
  rotate_left
  refine AA rfl ?_ ?_;refine Qk rfl<|Qw<|Qo 11 rfl<|Qk rfl<|Qw ?_
  rotate_left
  exact A5;refine AA rfl ?_ ?_;refine Qk rfl<|Qw<|Qo 10 rfl<|Qk rfl<|Qw<|Qo 11 rfl<|Qk rfl<|Qw ?_
  rotate_left
  exact A5;refine AA rfl ?_ ?_;refine Qk rfl<|Qw<|A4 [9,12] κ rfl ?_;refine AA rfl ?_ ?_;refine Qk rfl<|Qw<|A4 [11,12] κ rfl ?_;refine AA rfl ?_ ?_;refine Qk rfl<|Qw<|Qo 12 rfl<|Qk rfl<|Qw ?_
  rotate_left
  refine AA rfl ?_ ?_;refine Qk rfl<|Qw<|Qo 11 rfl<|Qk rfl<|Qw ?_
  rotate_left
  exact A5;refine AA rfl ?_ ?_;refine Qk rfl<|Qw<|Qo 9 rfl<|Qk rfl<|Qw<|Qo 11 rfl<|Qk rfl<|Qw ?_
  rotate_left
  exact A5;refine AA rfl ?_ ?_;refine Qk rfl<|Qw<|A4 [9,10] κ rfl ?_;refine AA rfl ?_ ?_;refine Qk rfl<|Qw<|Qo 10 rfl<|Qk rfl<|Qw<|Qo 11 rfl<|Qk rfl<|Qw ?_
  rotate_left
  refine AA rfl ?_ ?_;refine Qk rfl<|Qw<|Qo 9 rfl<|Qk rfl<|Qw<|Qo 11 rfl<|Qk rfl<|Qw ?_
  rotate_left
  exact A5;exact A5;refine AA rfl ?_ ?_;refine Qk rfl<|Qw<|A4 [8,12] κ rfl ?_;refine AA rfl ?_ ?_;refine Qk rfl<|Qw<|A4 [9,12] κ rfl ?_;refine AA rfl ?_ ?_;refine Qk rfl<|Qw<|A4 [11,12] κ rfl ?_;refine AA rfl ?_ ?_;refine Qk rfl<|Qw<|Qo 12 rfl<|Qk rfl<|Qw ?_
  rotate_left
  refine AA rfl ?_ ?_;refine Qk rfl<|Qw<|Qo 11 rfl<|Qk rfl<|Qw ?_
  rotate_left
  exact A5;refine AA rfl ?_ ?_;refine Qk rfl<|Qw<|Qo 9 rfl<|Qk rfl<|Qw<|Qo 11 rfl<|Qk rfl<|Qw ?_
  rotate_left
  exact A5;refine AA rfl ?_ ?_;refine Qk rfl<|Qw<|Qo 8 rfl<|Qk rfl<|Qw<|Qo 9 rfl<|Qk rfl<|Qw<|Qo 11 rfl<|Qk rfl<|Qw ?_
  rotate_left
  exact A5;refine AA rfl ?_ ?_;refine Qk rfl<|Qw<|A4 [8,10] κ rfl ?_;refine AA rfl ?_ ?_;refine Qk rfl<|Qw<|A4 [9,10] κ rfl ?_;refine AA rfl ?_ ?_;refine Qk rfl<|Qw<|Qo 10 rfl<|Qk rfl<|Qw<|Qo 11 rfl<|Qk rfl<|Qw ?_
  rotate_left
  refine AA rfl ?_ ?_;refine Qk rfl<|Qw<|Qo 9 rfl<|Qk rfl<|Qw<|Qo 11 rfl<|Qk rfl<|Qw ?_
  rotate_left
  exact A5;refine AA rfl ?_ ?_;refine Qk rfl<|Qw<|Qo 8 rfl<|Qk rfl<|Qw<|Qo 9 rfl<|Qk rfl<|Qw<|Qo 11 rfl<|Qk rfl<|Qw ?_
  rotate_left
  exact A5;exact A5
  all_goals
   refine Qo 13 rfl<|Qk rfl<|Qw<|Qo 14 rfl<|Qk rfl<|Qw<|Qo 15 rfl<|Qm rfl<|Qw<|Qo 16 rfl<|Qm rfl<|Qw<|Qe ?_
   (refine Ab ?_;refine Aj ?_;exact Al rfl rfl rfl)
 ·refine Ac<|AS (n:=17) (bs:=[ig,ig,ig,ig,ig,ig,ig,ii,ii,ii,ii,ii,ii,ii,ii,ii,ii]) [ig,ig,ig,ig,ig,ig,ig] CC κ κ rfl rfl<|QF Fz rfl<|Qp rfl (oG rfl C9 Bd<|s0 _ (BE) _)<|QF Mx rfl<|QL rfl U3 (c1 _ (BE) _)<|Qp rfl (oA rfl)<|Qq rfl<|Qp rfl (As rfl call86 rfl<|hin _) ?_;unfold Dd;simp only[bh,ap];refine Qo 7 rfl<|Qm rfl<|Qw<|B6 8 13 κ rfl rfl rfl rfl rfl (BE) rfl (oF Fz rfl)<|B6 10 15 κ rfl rfl rfl rfl rfl (BE) rfl (Au rfl rfl)<|A4 [9,12] κ rfl ?_;refine AA rfl ?_ ?_;refine Qg (oG rfl C9 Bd<|s0 _ (BE) _) rfl<|Qw<|A4 [11,12] κ rfl ?_;refine AA rfl ?_ ?_;refine DS rfl rfl rfl rfl<|AC (pre:=[]) rfl call87 rfl (Fu v _ l ch h1 (Q.up l1) (C.up l1) bc) rfl rfl rfl rfl<|fun wb h2 ms2 l2 hF=>?_;obtain⟨l2',rfl,CB⟩:=hF;obtain⟨lb,CL,CR,_,_⟩:=CB;obtain⟨ba,bcc,rfl,_⟩:=CR.rd.rd.ex;refine Qa<|Qo 12 rfl<|Qg (oG rfl XQ FJ<|s2 _ (by assumption) _) rfl<|Qa ?_
  rotate_left
  refine AA rfl ?_ ?_;refine Qg (oG rfl XQ FJ<|s2 _ (BE) _) rfl<|Qw<|Qo 11 rfl<|DS rfl rfl rfl rfl<|AC (pre:=[]) rfl call87 rfl (Fu v _ l ch h1 (Q.up l1) (C.up l1) bc) rfl rfl rfl rfl<|fun wb h2 ms2 l2 hF=>?_;obtain⟨l2',rfl,CB⟩:=hF;obtain⟨lb,CL,CR,_,_⟩:=CB;obtain⟨ba,bcc,rfl,_⟩:=CR.rd.rd.ex;refine Qa ?_
  rotate_left
  exact A5;refine AA rfl ?_ ?_;refine Qg (oG rfl XQ FJ<|s2 _ (BE) _) rfl<|Qw<|Qo 9 rfl<|Qg (oG rfl C9 Bd<|s0 _ (BE) _) rfl<|Qw<|Qo 11 rfl<|DS rfl rfl rfl rfl<|AC (pre:=[]) rfl call87 rfl (Fu v _ l ch h1 (Q.up l1) (C.up l1) bc) rfl rfl rfl rfl<|fun wb h2 ms2 l2 hF=>?_;obtain⟨l2',rfl,CB⟩:=hF;obtain⟨lb,CL,CR,_,_⟩:=CB;obtain⟨ba,bcc,rfl,_⟩:=CR.rd.rd.ex;refine Qa ?_
  rotate_left
  exact A5
  all_goals
   refine Qo 13 rfl<|DS rfl rfl rfl rfl<|AC (pre:=[]) rfl call45 rfl (PJ v _ _ d x y h2 ov (X.up<|AD l1 l2') (Y.up<|AD l1 l2') hn ha) rfl rfl rfl rfl<|fun wd h3 ms3 l3 hF1=>?_;obtain⟨l3',rfl,dl,CD,CRd,hda,hdn⟩:=hF1;obtain⟨da,dc,rfl,_⟩:=CRd.rd.rd.ex;have l13:=AD l2' l3';refine Qa<|Qo 14 rfl<|Qg (As rfl call113 rfl<|XI _ _ lb dl h3 (CR.up l3') CRd _) rfl<|Qa<|Qo 15 rfl<|Qm rfl<|Qa<|Qo 16 rfl<|Qm rfl<|Qa<|Qe ?_
   (refine Ab ?_;refine Aj ?_;exact Al rfl rfl (by rw[PM CL CD];rfl))
noncomputable def Pg(o:List Cl)(m:Int)(co:List Tm):Bool:=@decide (∀c,m∣cf (Gl (AY o) co) c) (Classical.propDecidable _)
theorem Lj(o:List Cl)(m:Int)(co:List Tm):Pg o m co=true<->∀c,m∣cf (Gl (AY o) co) c:=@fq _ (Classical.propDecidable _)
theorem UW{o:List Cl}{m:Int}{co l:List Tm}(C:CanL l (cf (Gl (AY o) co))):(!(l.any λp=>!decide (m∣p.2)))=Pg o m co:=by
 have h1:(!(l.any λp=>!decide (m∣p.2)))=true<->Pg o m co=true:=by
  rw[Lj];simp only[Bool.not_eq_true',List.any_eq_false,Bool.not_eq_false,Bool.not_not,Bool.not_eq_true,fq];constructor
  ·intro h c;by_cases hz:cf (Gl (AY o) co) c=0
   ·rw[hz];exact Int.dvd_zero m
   ·have:=h _ (C.all c hz);simpa using this
  ·intro h p hp;obtain⟨e,n⟩:=C.val p hp;have:=h p.1;rw[<-e]at this;simp[this]
 cases ha:(!(l.any λp=>!decide (m∣p.2)))<;>cases hb:Pg o m co<;>simp_all
theorem OU{x y dl:List Tm}(C:CanL dl (λc=>cf x c-cf y c))(f:Int->Int):lin f dl=lin f x-lin f y:=by
 have h1:CanL dl (cf (x++Kg (-1) y)):=C.congr λc=>by rw[Ej,MD];omega
 have h2:∀y:List Tm,lin f (Kg (-1) y)=- lin f y:=λy=>by
  induction y with
  | nil=>rfl
  | cons p y ih=>
   show f p.1*(-1*p.2)+lin f (Kg (-1) y)=-(f p.1*p.2+lin f y);rw[ih];have:f p.1*(-1*p.2)=-(f p.1*p.2):=by rw[Int.neg_mul,gy,Int.mul_neg]
   omega
 rw[h1.lin_eq,Ed,h2];omega
theorem AdQ(g5:Nat)(m:Int)(hm:m.natAbs<4294967296)(p:Tm)(hp:Sz p.2)(h:Hp)(hS:Seg h [] (⟨g5,0,none⟩:Addr) (Bi m))(ms:List Hp) :
  FnV Tryz.prog 115 #[.agg (DQ p).toArray,.pt g5] h ms (.bool (decide (m∣p.2))):=by
 refine DY ?_ ms;have osp:(sv (A7 p.2.natAbs)).oneCell'=true:=rfl;have osm:(sv (A7 m.natAbs)).oneCell'=true:=rfl;refine Ap func115 ntmps115 Y Y<|λw0 hw0=>?_;simp only[AR];refine Ar<|AK [_,_,_] Y Y (by rfl) Y Y Y<|λg2=>Qm Y<|Am<|AF λh1 l1 hS2=>?_
 have g2:∀ms,Seg h1 ms ((⟨g2,0,none⟩:Addr).add 1) (Bi p.2):=λms i v hv=>by
  have:=(hS2 (1+i) v (by rw[Nat.add_comm];exact hv)).any (ms:=ms)
  rwa [BF]
 have g5_:∀ms,Seg h1 ms (⟨g5,0,none⟩:Addr) (Bi m):=λms=>(hS.le l1).any;refine Ar<|Qx (oG Y By Az<|g5_ _) Y<|Qf GY Y<|Qx (oG Y By Az<|g2 _) Y<|Qx (As Y call116 Y<|ZR m p.2 hm hp _ _) Y<|Qm Y<|Am<|Aj ?_;exact Al Y Y<|Y
theorem AdM(g5:Nat)(m:Int)(hm:Sz m)(h:Hp)(hS:Seg h [] (⟨g5,0,none⟩:Addr) (Bi m))(ms:List Hp) :
  FnV Tryz.prog 117 #[.pt g5] h ms (.bool (decide (0<=m))):=by
 refine DY ?_ ms;have osm:(sv (A7 m.natAbs)).oneCell'=true:=rfl;refine Ap func117 ntmps117 Y Y<|λw0 hw0=>?_;simp only[AR];refine Ar<|Qm Y<|Bp<|Qx (oG Y By Az<|hS.any) Y<|Qx (As Y call60 Y<|Et m hm _ _) Y<|Qm Y<|Qm Y<|Am<|Aj ?_;exact Al Y Y<|aw Value.bool<|fa.2 ⟨λh=>Int.sign_nonneg_iff.1 h,λh=>Int.sign_nonneg_iff.2 h⟩
theorem AcB(g5 g7:Nat)(m:Int)(hm:m.natAbs<4294967296)(p:Tm)(hp:Sz p.2)(h:Hp)(hS:Seg h [] (⟨g5,0,none⟩:Addr) (Bi m))(hF:Cell h [] (⟨g7,0,none⟩:Addr) (.func (.func 115) #[] #[.pointer (some ⟨g5,0,none⟩)]))(ms:List Hp) :
  FnV Tryz.prog 122 #[.agg (DQ p).toArray,.pt g7] h ms (.bool (!decide (m∣p.2))):=by
 refine DY ?_ ms;have osp:(sv (A7 p.2.natAbs)).oneCell'=true:=rfl;refine Ap func122 ntmps122 Y Y<|λw0 hw0=>?_;simp only[AR];refine Ar<|AK [_,_,_] Y Y (by rfl) Y Y Y<|λg2=>Qm Y<|Am<|AF λh1 l1 hS2=>Ar<|Ql Y Afm ((hF.le l1).any)<|Qx (oG Y U79 Co<|hS2.any) Y<|Qx (Cy Y Y (λxs w=>call115 xs w) Y<|AdQ g5 m hm p hp h1 (hS.le l1) _) Y<|Qm Y<|Qm Y<|Am<|Aj ?_;exact Al Y Y<|Y
variable {g3 g4 g5 g7:Nat} {v vx vy vc:Value} {d m:Int} {l:List Ce} {x y co:List Tm}
structure SepE(h:Hp)(g3 g4 g5 g7:Nat)(v vx vy vc:Value)(d m:Int)(l:List Ce)(x y co:List Tm):Prop where
 s3:Seg h [] (⟨g3,0,none⟩:Addr) [v,.w d,vx,vy]
 s4:Seg h [] (⟨g4,0,none⟩:Addr) [vc]
 s5:Seg h [] (⟨g5,0,none⟩:Addr) (Bi m)
 s7:Cell h [] (⟨g7,0,none⟩:Addr) (.func (.func 115) #[] #[.pt g5])
 Q:CxS v h l
 X:ChR vx h x
 Y:ChR vy h y
 C:ChR vc h co
 hn:x.length+y.length<=100000
 ha:Bf x+Bf y<2^2000000
 hc:Bf (Gl (AY (l.map Ce.c)) co)<2^2000000
 hp:Bf co*(Bf x+Bf y)<2^2000000
 hm:m.natAbs<4294967296
theorem AdR(h:Hp)(E:SepE h g3 g4 g5 g7 v vx vy vc d m l x y co)(ms:List Hp) :
  FnV Tryz.prog 118 #[.pt g3,.pt g4] h ms (.bool (Eb (l.map Ce.c) d co)):=by
 refine DY ?_ ms;have ov:=E.Q.rd.q.rd.one;have oc:=E.C.rd.rd.one
 have c0:∀ms,Seg h ms (⟨g3,0,none⟩:Addr) [v]:=λms i u hu=>by
  rcases i with _|i
  ·simp at hu;subst hu;exact(E.s3 0 _ Y).any
  ·simp at hu
 have c1:∀ms,Cell h ms ((⟨g3,0,none⟩:Addr).add 1) (.w d):=λms=>(E.s3 1 _ Y).any;have c4:∀ms,Cell h ms (⟨g4,0,none⟩:Addr) vc:=λms=>(E.s4.at0 Y).any;refine Ap func118 ntmps118 Y Y<|λw0 hw0=>?_;simp only[AR];refine Ar<|Qm Y<|Bp<|Qf Fz Y<|Qx (oG Y C9 Bd<|c0 _) Y<|Qf Mx Y<|Ql Y U3 (c1 _)<|Ql Y CN (c4 _)<|Qx (As Y call86 Y<|L2 l v vc d co h E.Q.rd E.Q.len E.Q.ids E.C _) Y<|Qm Y<|Am<|Aj ?_;exact Al Y Y<|Y
theorem Ad2(h:Hp)(E:SepE h g3 g4 g5 g7 v vx vy vc d m l x y co)(ms:List Hp) :
  FnV Tryz.prog 119 #[.pt g3,.pt g4,.pt g7] h ms (.bool (Pg (l.map Ce.c) m co)):=by
 refine DY ?_ ms;have ov:=E.Q.rd.q.rd.one;have oc:=E.C.rd.rd.one
 have c0:∀ms,Seg h ms (⟨g3,0,none⟩:Addr) [v]:=λms i u hu=>by
  rcases i with _|i
  ·simp at hu;subst hu;exact(E.s3 0 _ Y).any
  ·simp at hu
 have c4:∀ms,Cell h ms (⟨g4,0,none⟩:Addr) vc:=fun ms=>(E.s4.at0 rfl).any;refine Ap func119 ntmps119 rfl rfl (fun w0 hw0=>?_);simp only[AR];refine Ar (Qm rfl (Bp (Qf Fz rfl (Qx (oG rfl C9 Bd (c0 _)) rfl (Ql rfl CN (c4 _) (Qc call121 rfl (Nk v vc l co h E.Q E.C E.hc) (fun w h2 ms2 l2 hF=>?_)))))));obtain⟨l2',rfl,CB⟩:=hF;obtain⟨lb,CL,CR,_,_⟩:=CB;have ow:=CR.rd.rd.one;refine Qx (Bz rfl rfl rfl) rfl ?_;refine Qx (As rfl call120 rfl (KI lb w 122 [.pointer (some ⟨g7,0,none⟩)] (fun p=>!decide (m∣p.2)) h2 CR.rd (by have:=CR.len;omega) (fun xs w=>call122 xs w) (fun s hs ms=>AcB g5 g7 m E.hm s (CR.sz hs) h2 (E.s5.le l2') (E.s7.le l2') ms) _)) rfl ?_;refine Qm rfl (Qm rfl (Am (Aj ?_)));exact Al rfl rfl (congrArg Value.bool (UW CL))
theorem Aeq(h:Hp)(E:SepE h g3 g4 g5 g7 v vx vy vc d m l x y co)(ms:List Hp) :
  FnV Tryz.prog 123 #[.pt g5,.pt g4,.pt g3] h ms (.bool (!decide (m∣lin (cf co) x-lin (cf co) y))):=by
 refine DY ?_ ms;have ov:=E.Q.rd.q.rd.one;have oc:=E.C.rd.rd.one;have osm:(sv (A7 m.natAbs)).oneCell'=true:=rfl;have c3:∀ms,Seg h ms (⟨g3,0,none⟩:Addr) [v,.w d,vx,vy]:=λms=>E.s3.any;have c5:∀ms,Seg h ms (⟨g5,0,none⟩:Addr) (Bi m):=λms=>E.s5.any;have c4:∀ms,Cell h ms (⟨g4,0,none⟩:Addr) vc:=λms=>(E.s4.at0 Y).any;refine Ap func123 ntmps123 Y Y<|λw0 hw0=>?_;simp only[AR];refine Ar<|Qm Y<|Am<|Ac<|AS (n:=8) (bs:=[ig,ig,ig,ii,ii,ii,ii,ii]) [ig,ig,ig] CC κ κ Y Y<|Qp Y (oG Y By Az<|c5 _)<|QL Y CN (c4 _)<|Qp Y (oG Y XQ FJ<|c3 _) ?_;unfold Dd;simp only[bh,ap];refine Qo 3 Y<|AC (pre:=[]) Y call45 Y (PJ v vx vy d x y h ov E.X E.Y E.hn E.ha) Y Y Y Y<|λwd h3 ms3 l3 hF1=>?_;obtain⟨l3',rfl,dl,CD,CRd,hda,hdn⟩:=hF1;obtain⟨da,dc,rfl,_⟩:=CRd.rd.rd.ex;have hpd:Bf co*Bf dl<2^2000000:=Nat.lt_of_le_of_lt (Nat.mul_le_mul_left _ hda) E.hp;refine Qa<|Qo 4 Y<|AC (pre:=[]) Y call124 Y (Xf vc _ co dl h3 (E.C.up l3') CRd hpd) Y Y Y Y<|λwp h4 ms4 l4 hF2=>?_;obtain⟨l4',rfl,rfl⟩:=hF2;have l34:=AD l3' l4';have hps:Sz (lin (cf co) dl):=KM (bl (K6 (CW co) _) (am _)) hpd δ;refine Qa<|Qo 5 Y<|Qx (As Y call116 Y<|ZR m (lin (cf co) dl) E.hm hps _ _) Y<|Qa<|Bb 6 10 κ Y (by assumption) Y (Dn Y Y)<|Qo 7 Y<|Qm Y<|Qa<|Qe<|Ab<|Aj ?_;exact Al Y Y (by rw[OU CD])
end
section
open Go.Lin Go.Wd Go.Sm Go.Ch
theorem SepE.up{h h':Hp}{g3 g4 g5 g7:Nat}{v vx vy vc:Value}{d m:Int}{l:List Ce}{x y co:List Tm}(E:SepE h g3 g4 g5 g7 v vx vy vc d m l x y co)(q:h.le h'):SepE h' g3 g4 g5 g7 v vx vy vc d m l x y co:=
 ⟨E.s3.le q,E.s4.le q,E.s5.le q,E.s7.le q,E.Q.up q,E.X.up q,E.Y.up q,E.C.up q,E.hn,E.ha,E.hc,E.hp,E.hm⟩
set_option exponentiation.threshold 4000000 in
theorem Rm(v vx vy vc:Value)(d m:Int)(l:List Ce)(x y co:List Tm)(h:Hp)(Q:CxS v h l)(X:ChR vx h x)(Y:ChR vy h y)(C:ChR vc h co)(hn:x.length+y.length<=100000)(ha:Bf x+Bf y<2^2000000)(hc_:Bf (Gl (AY (l.map Ce.c)) co)<2^2000000)(hp:Bf co*(Bf x+Bf y)<2^2000000)(hm:m.natAbs<4294967296)(ms:List Hp) :
  FnV Tryz.prog 61 #[qV v d vx vy,vc,WD m] h ms (.bool (decide (0<=m)&&(Eb (l.map Ce.c) d co&&(Pg (l.map Ce.c) m co&&!decide (m∣lin (cf co) x-lin (cf co) y))))):=by
 refine DY ?_ ms;have ov:=Q.rd.q.rd.one;have hmS:Sz m:=Sz.of (B:=32) hm δ;have osm:(sv (A7 m.natAbs)).oneCell'=true:=rfl;obtain⟨xa,xc,rfl,_⟩:=X.rd.rd.ex;obtain⟨ya,yc,rfl,_⟩:=Y.rd.rd.ex;obtain⟨ca,cc,rfl,_⟩:=C.rd.rd.ex;obtain⟨T,hTe⟩:∃T:Nat->Bool,T=fun k=>match k with|0=>decide (0<=m)|1=>Eb (l.map Ce.c) d co|2=>Pg (l.map Ce.c) m co|_=>!decide (m∣lin (cf co) x-lin (cf co) y):=⟨_,rfl⟩
 have hTv:(decide (0<=m)&&(Eb (l.map Ce.c) d co&&(Pg (l.map Ce.c) m co&&!decide (m∣lin (cf co) x-lin (cf co) y))))=(T 0&&(T 1&&(T 2&&T 3))):=by rw[hTe];rfl
 rw[hTv];unfold qV;refine Ap func61 ntmps61 rfl rfl<|fun w0 hw0=>?_;simp only[AR];refine Ar<|AK [_,_,_,_] rfl rfl (by rfl) rfl rfl rfl<|fun g3=>AK [_] rfl rfl (by rfl) rfl rfl rfl (fun g4=>AK [_,_] rfl rfl (by rfl) rfl rfl rfl (fun g5=>Qm rfl (Bp (Qx (Bz rfl rfl rfl) rfl (BS [.nilFunc] rfl Ac8 rfl rfl (fun g7=>Bh 0 0 rfl Ac8 rfl rfl (by rfl) rfl rfl δ rfl rfl (Am (Av 0 rfl fun h1 l1 hS7=>(Av 0 rfl fun h2 l2 hS5=>(Av 0 rfl fun h3 l3 hS4=>(Av 0 rfl fun h4 l4 hS3=>?_)))))))))));have l04:=AD l1 (AD l2 (AD l3 l4));have E:SepE h4 g3 g4 g5 g7 v (.slice xa x.length xc) (.slice ya y.length yc) (.slice ca co.length cc) d m l x y co:=⟨hS3,hS4.le l4,hS5.le (AD l3 l4),(hS7.at0 rfl).le (AD l2 (AD l3 l4)),Q.up l04,X.up l04,Y.up l04,C.up l04,hn,ha,hc_,hp,hm⟩
 refine Ar<|Qx (Bz rfl rfl rfl) rfl<|Qx (Bz rfl rfl rfl) rfl<|Qx (Bz rfl rfl rfl) rfl<|Qx (Bz rfl rfl rfl) rfl<|AO [(0,_),(1,_),(2,_),(3,_)] [.nilFunc,.nilFunc,.nilFunc,.nilFunc] [_,_,_,_] rfl W8 Yh rfl ω κ Qt rfl rfl rfl rfl<|fun g16=>Qm rfl (Am (AF fun h5 l5 hS16=>?_));have E:=E.up l5;have RF:RdL cU 1 h5 [] (.slice (some ⟨g16,0,none⟩) 4 4) [.func (.func 117) #[] #[.pt g5],.func (.func 118) #[] #[.pt g3,.pt g4],.func (.func 119) #[] #[.pt g3,.pt g4,.pt g7],.func (.func 123) #[] #[.pt g5,.pt g4,.pt g3]]:=RdL.built hS16 rfl rfl GO δ;refine Ac<|Ar<|Qm rfl<|Qx (D6 (ty:=168) rfl W8 rfl) rfl<|Qm rfl<|Am<|Ag ?_;refine AB (fun q sl h' ms'=>∃(k:Nat),4-k=q/\sl=[(17,.slice (some ⟨g16,0,none⟩) 4 4),(18,.w 4),(19,.w k)]/\h5.le h'/\ms'=[]/\k<=4/\∀j,j<k->T j=true) (4-0) _ ⟨0,rfl,rfl,BE,rfl,ω,fun j hj=>ω⟩ Qs ?_;rintro q sl h' ms' ⟨k,rfl,rfl,lh,rfl,hk,hall⟩;refine Ar<|Qm rfl<|Am<|Ac ?_;refine Aw rfl (fun hlt=>?_)<|fun hlt=>?_
 ·rcases (ω:k=0\/k=1\/k=2\/k=3) with rfl|rfl|rfl|rfl
  ·have cE:∀ms,Cell h' ms ((AH (.slice (some ⟨g16,0,none⟩) 4 4)).add (0*1)) (.func (.func 117) #[] #[.pt g5]):=fun ms=>((RF.up lh).any (ms:=ms)).cell0 (j:=0) σ rfl;refine Ah<|Ab<|Ac<|Ag<|Ar<|Qx (Cf (0) rfl W8 Yh rfl rfl ω ω) rfl<|Ql rfl U24 (cE _)<|Qm rfl<|Bp<|Qm rfl<|Qx (Cy rfl rfl (fun xs w=>call117 xs w) rfl<|AdM g5 m hmS h' (E.up lh).s5 _) rfl<|Qm rfl<|Am ?_;refine BW rfl (fun hb=>?_)<|fun hb=>?_
   ·have hT:T 0=false:=by rw[hTe];revert hb;cases h:(decide (0<=m))<;>simp_all
    refine Ar<|Qm rfl<|Am<|Aj<|Ak<|Ae<|Ae<|Ak<|Ae ?_;exact Al rfl rfl<|aw Value.bool (by simp[hT])
   ·have hT:T 0=true:=by rw[hTe];revert hb;cases h:(decide (0<=m))<;>simp_all
    refine Ah<|Ai<|Ab<|Ad<|Qx (oA rfl) rfl<|Qm rfl<|An ?_;exact Ao (4-(0+1)) _ ω ⟨0+1,rfl,rfl,lh,rfl,ω,fun j hj=>by rcases (ω:j<0\/j=0) with h|rfl;exact hall j h;exact hT⟩ Qs
  ·have cE:∀ms,Cell h' ms ((AH (.slice (some ⟨g16,0,none⟩) 4 4)).add (1*1)) (.func (.func 118) #[] #[.pt g3,.pt g4]):=fun ms=>((RF.up lh).any (ms:=ms)).cell0 (j:=1) σ rfl;refine Ah<|Ab<|Ac<|Ag<|Ar<|Qx (Cf (1) rfl W8 Yh rfl rfl ω ω) rfl<|Ql rfl U24 (cE _)<|Qm rfl<|Bp<|Qm rfl<|Qx (Cy rfl rfl (fun xs w=>call118 xs w) rfl<|AdR h' (E.up lh) _) rfl<|Qm rfl<|Am ?_;refine BW rfl (fun hb=>?_)<|fun hb=>?_
   ·have hT:T 1=false:=by rw[hTe];revert hb;cases h:(Eb (l.map Ce.c) d co)<;>simp_all
    refine Ar<|Qm rfl<|Am<|Aj<|Ak<|Ae<|Ae<|Ak<|Ae ?_;exact Al rfl rfl<|aw Value.bool (by simp[hT])
   ·have hT:T 1=true:=by rw[hTe];revert hb;cases h:(Eb (l.map Ce.c) d co)<;>simp_all
    refine Ah<|Ai<|Ab<|Ad<|Qx (oA rfl) rfl<|Qm rfl<|An ?_;exact Ao (4-(1+1)) _ ω ⟨1+1,rfl,rfl,lh,rfl,ω,fun j hj=>by rcases (ω:j<1\/j=1) with h|rfl;exact hall j h;exact hT⟩ Qs
  ·have cE:∀ms,Cell h' ms ((AH (.slice (some ⟨g16,0,none⟩) 4 4)).add (2*1)) (.func (.func 119) #[] #[.pt g3,.pt g4,.pt g7]):=fun ms=>((RF.up lh).any (ms:=ms)).cell0 (j:=2) σ rfl;refine Ah<|Ab<|Ac<|Ag<|Ar<|Qx (Cf (2) rfl W8 Yh rfl rfl ω ω) rfl<|Ql rfl U24 (cE _)<|Qm rfl<|Bp<|Qm rfl<|Qx (Cy rfl rfl (fun xs w=>call119 xs w) rfl<|Ad2 h' (E.up lh) _) rfl<|Qm rfl<|Am ?_;refine BW rfl (fun hb=>?_)<|fun hb=>?_
   ·have hT:T 2=false:=by rw[hTe];revert hb;cases h:(Pg (l.map Ce.c) m co)<;>simp_all
    refine Ar<|Qm rfl<|Am<|Aj<|Ak<|Ae<|Ae<|Ak<|Ae ?_;exact Al rfl rfl<|aw Value.bool (by simp[hT])
   ·have hT:T 2=true:=by rw[hTe];revert hb;cases h:(Pg (l.map Ce.c) m co)<;>simp_all
    refine Ah<|Ai<|Ab<|Ad<|Qx (oA rfl) rfl<|Qm rfl<|An ?_;exact Ao (4-(2+1)) _ ω ⟨2+1,rfl,rfl,lh,rfl,ω,fun j hj=>by rcases (ω:j<2\/j=2) with h|rfl;exact hall j h;exact hT⟩ Qs
  ·have cE:∀ms,Cell h' ms ((AH (.slice (some ⟨g16,0,none⟩) 4 4)).add (3*1)) (.func (.func 123) #[] #[.pt g5,.pt g4,.pt g3]):=fun ms=>((RF.up lh).any (ms:=ms)).cell0 (j:=3) σ rfl;refine Ah<|Ab<|Ac<|Ag<|Ar<|Qx (Cf (3) rfl W8 Yh rfl rfl ω ω) rfl<|Ql rfl U24 (cE _)<|Qm rfl<|Bp<|Qm rfl<|Qx (Cy rfl rfl (fun xs w=>call123 xs w) rfl<|Aeq h' (E.up lh) _) rfl<|Qm rfl<|Am ?_;refine BW rfl (fun hb=>?_)<|fun hb=>?_
   ·have hT:T 3=false:=by rw[hTe];revert hb;cases h:(!decide (m∣lin (cf co) x-lin (cf co) y))<;>simp_all
    refine Ar<|Qm rfl<|Am<|Aj<|Ak<|Ae<|Ae<|Ak<|Ae ?_;exact Al rfl rfl<|aw Value.bool (by simp[hT])
   ·have hT:T 3=true:=by rw[hTe];revert hb;cases h:(!decide (m∣lin (cf co) x-lin (cf co) y))<;>simp_all
    refine Ah<|Ai<|Ab<|Ad<|Qx (oA rfl) rfl<|Qm rfl<|An ?_;exact Ao (4-(3+1)) _ ω ⟨3+1,rfl,rfl,lh,rfl,ω,fun j hj=>by rcases (ω:j<3\/j=3) with h|rfl;exact hall j h;exact hT⟩ Qs
 ·obtain rfl:k=4:=ω
  refine Ax<|Aa<|Aa<|Af<|Ab<|Ar<|Qm rfl<|Am<|Aj ?_;exact Al rfl rfl<|aw Value.bool (by rw[hall 0 δ,hall 1 δ,hall 2 δ,hall 3 δ];rfl)
def S8(same:Bool)(vch vco:Value)(m:Int):Value:=.agg #[.bool same,vch,vco,.bool (decide (m<0)),sv (A7 m.natAbs)]
theorem N2(v vx vy vch vco:Value)(d m:Int)(x y ch co:List Tm)(l:List Ce)(h:Hp)(Q:QsOk v h l)(X:ChR vx h x)(Y:ChR vy h y)(CH:ChR vch h ch)(C:ChR vco h co)(hx:Eb (l.map Ce.c) d x=true)(hy:Eb (l.map Ce.c) d y=true)(bx:Bf (DB (AY (l.map Ce.c)) x)<2^2000000)(by_:Bf (DB (AY (l.map Ce.c)) y)<2^2000000)(zx:bz (l.map Ce.c) x=true)(zy:bz (l.map Ce.c) y=true)(hn:x.length+y.length<=100000)(ha:Bf x+Bf y<2^2000000)(hc_:Bf (Gl (AY (l.map Ce.c)) co)<2^2000000)(hp:Bf co*(Bf x+Bf y)<2^2000000)(hm:m.natAbs<4294967296)(ms:List Hp) :
  FnV Tryz.prog 19 #[.agg #[v],.w d,vx,vy,S8 false vch vco m] h ms (.bool (decide (ch.length=0)&&(decide (0<=m)&&(Eb (l.map Ce.c) d co&&(Pg (l.map Ce.c) m co&&!decide (m∣lin (cf co) x-lin (cf co) y)))))):=by
 refine DY ?_ ms;have ov:=Q.X.rd.q.rd.one;have osm:(sv (A7 m.natAbs)).oneCell'=true:=rfl;have hsep:=fun(h':Hp) (q:h.le h')=>Rm v vx vy vco d m l x y co h' (Q.X.up q) (X.up q) (Y.up q) (C.up q) hn ha hc_ hp hm;have hwr:=fun(h':Hp) (q:h.le h')=>IE v vx vy d x y l h' (Q.up q) (X.up q) (Y.up q) hx hy bx by_;rw[zx,zy]at hwr;obtain⟨xa,xc,rfl,_⟩:=X.rd.rd.ex;obtain⟨ya,yc,rfl,_⟩:=Y.rd.rd.ex;obtain⟨ha_,hc2,rfl,_⟩:=CH.rd.rd.ex;obtain⟨ca,cc,rfl,_⟩:=C.rd.rd.ex;unfold S8;unfold qV at hsep hwr;refine Ap func19 ntmps19 rfl rfl<|fun w0 hw0=>?_;simp only[AR];refine Ar<|AK [_] rfl rfl (by rfl) rfl rfl rfl<|fun g5=>AK [_,_,_,_,_] rfl rfl (by rfl) rfl rfl rfl (fun g9=>Qm rfl (Bp (Qx (oG rfl C9 Bd (Seg.blk 1 rfl)) rfl (Qm rfl (Qm rfl (Qm rfl (Qx (AN Ab8 [.nl,.w 0,.nl,.nl] [(0,_),(1,_),(2,_),(3,_)] [_,_,_,_] rfl FJ rfl rfl Qt rfl) rfl (BS [.nl,.w 0,.nl,.nl] rfl FJ rfl rfl (fun g11=>?_)))))))));refine Sa 0 [_,_,_,_] FJ rfl (by simp[ov,osm]) ?_;refine Am<|Av 0 rfl fun h1 l1 hS11=>(Av 0 rfl fun h2 l2 hS9=>?_);have l02:=AD l1 l2;have s11:∀ms,Seg h2 ms (⟨g11,0,none⟩:Addr) [v,.w d,.slice xa x.length xc,.slice ya y.length yc]:=fun ms=>(hS11.le l2).any;have d0:∀ms,Cell h2 ms ((⟨g9,0,none⟩:Addr).add 0) (.bool false):=fun ms=>(hS9 0 _ rfl).any;have d1:∀ms,Cell h2 ms ((⟨g9,0,none⟩:Addr).add 1) (.slice ha_ ch.length hc2):=fun ms=>(hS9 1 _ rfl).any;have d2:∀ms,Cell h2 ms ((⟨g9,0,none⟩:Addr).add 2) (.slice ca co.length cc):=fun ms=>(hS9 2 _ rfl).any
 have s9:∀ms,Seg h2 ms ((⟨g9,0,none⟩:Addr).add 3) (Bi m):=fun ms i v hv=>by
  have:=(hS9 (3+i) v (by rw[Nat.add_comm];exact hv)).any (ms:=ms)
  rwa [BF]
 refine Ac<|Ar<|Qx (oG rfl XQ FJ<|s11 _) rfl<|Qx (As rfl call42 rfl<|hwr h2 l02 _) rfl<|Qm rfl<|Am<|Aw rfl (fun hc=>ie hc σ)<|fun hc=>Ah (Ab (Ac (Ar (Qf G0 rfl (Ql rfl U4 (d0 _) (Am (AL rfl (Ah (Ab (Ar (Qf GW rfl (Ql rfl CN (d1 _) (Qx (D6 (ty:=30) rfl CN rfl) rfl (Qm rfl (Qm rfl ?_)))))))))))))));refine AU (t:=45) rfl (fun hs=>?_)<|fun hs=>?_
 ·refine Qg (oG rfl XQ FJ<|s11 _) rfl<|Qg (oF GV rfl) rfl<|Qg (oL rfl CN<|d2 _) rfl<|Qg (oF Ia rfl) rfl<|Qg (oG rfl By Az<|s9 _) rfl<|Qg (As rfl call61 rfl<|hsep h2 l02 _) rfl<|Qm rfl<|Qm rfl<|Am<|Aj ?_;exact Al rfl rfl (by rw[bq (show ch.length=0 by omega)];rfl)
 ·refine Qk rfl<|Qk rfl<|Qk rfl<|Qk rfl<|Qk rfl<|Qk rfl<|Qm rfl<|Qm rfl<|Am<|Aj ?_;exact Al rfl rfl (by rw[cg (show ¬ch.length=0 by omega)];rfl)
theorem Ud(v vx vy vch vco:Value)(d m:Int)(hd:0<=d/\d<=900)(x y ch co:List Tm)(l:List Ce)(h:Hp)(Q:QsOk v h l)(X:ChR vx h x)(Y:ChR vy h y)(CH:ChR vch h ch)(C:ChR vco h co)(hx:Eb (l.map Ce.c) d x=true)(hy:Eb (l.map Ce.c) d y=true)(bx:Bf (DB (AY (l.map Ce.c)) x)<2^2000000)(by_:Bf (DB (AY (l.map Ce.c)) y)<2^2000000)(zx:bz (l.map Ce.c) x=true)(zy:bz (l.map Ce.c) y=true)(hn:x.length+y.length<=100000)(ha:Bf x+Bf y<2^2000000)(bc:Bf (DB (AY (l.map Ce.c)) ch)<2^2000000)(hm:Sz m)(ms:List Hp) :
  FnV Tryz.prog 19 #[.agg #[v],.w d,vx,vy,S8 true vch vco m] h ms (.bool ((Eb (l.map Ce.c) (d+1) ch&&ML (l.map Ce.c) x y ch)&&(decide (co.length=0)&&decide (m=0)))):=by
 refine DY ?_ ms;have ov:=Q.X.rd.q.rd.one;have osm:(sv (A7 m.natAbs)).oneCell'=true:=rfl;have hbn:=fun(h':Hp) (q:h.le h')=>Yt v vx vy vch d hd x y ch l h' (Q.X.up q) (X.up q) (Y.up q) (CH.up q) hn ha bc;have hwr:=fun(h':Hp) (q:h.le h')=>IE v vx vy d x y l h' (Q.up q) (X.up q) (Y.up q) hx hy bx by_;rw[zx,zy]at hwr;obtain⟨xa,xc,rfl,_⟩:=X.rd.rd.ex;obtain⟨ya,yc,rfl,_⟩:=Y.rd.rd.ex;obtain⟨ha_,hc2,rfl,_⟩:=CH.rd.rd.ex;obtain⟨ca,cc,rfl,_⟩:=C.rd.rd.ex;unfold S8;unfold qV at hbn hwr;refine Ap func19 ntmps19 rfl rfl<|fun w0 hw0=>?_;simp only[AR];refine Ar<|AK [_] rfl rfl (by rfl) rfl rfl rfl<|fun g5=>AK [_,_,_,_,_] rfl rfl (by rfl) rfl rfl rfl (fun g9=>Qm rfl (Bp (Qx (oG rfl C9 Bd (Seg.blk 1 rfl)) rfl (Qm rfl (Qm rfl (Qm rfl (Qx (AN Ab8 [.nl,.w 0,.nl,.nl] [(0,_),(1,_),(2,_),(3,_)] [_,_,_,_] rfl FJ rfl rfl Qt rfl) rfl (BS [.nl,.w 0,.nl,.nl] rfl FJ rfl rfl (fun g11=>?_)))))))));refine Sa 0 [_,_,_,_] FJ rfl (by simp[ov,osm]) ?_;refine Am<|Av 0 rfl fun h1 l1 hS11=>(Av 0 rfl fun h2 l2 hS9=>?_);have l02:=AD l1 l2;have s11:∀ms,Seg h2 ms (⟨g11,0,none⟩:Addr) [v,.w d,.slice xa x.length xc,.slice ya y.length yc]:=fun ms=>(hS11.le l2).any;have d0:∀ms,Cell h2 ms ((⟨g9,0,none⟩:Addr).add 0) (.bool true):=fun ms=>(hS9 0 _ rfl).any;have d1:∀ms,Cell h2 ms ((⟨g9,0,none⟩:Addr).add 1) (.slice ha_ ch.length hc2):=fun ms=>(hS9 1 _ rfl).any;have d2:∀ms,Cell h2 ms ((⟨g9,0,none⟩:Addr).add 2) (.slice ca co.length cc):=fun ms=>(hS9 2 _ rfl).any
 have s9:∀ms,Seg h2 ms ((⟨g9,0,none⟩:Addr).add 3) (Bi m):=fun ms i v hv=>by
  have:=(hS9 (3+i) v (by rw[Nat.add_comm];exact hv)).any (ms:=ms)
  rwa [BF]
 have hb2:=hbn h2 l02;refine Ac<|Ar<|Qx (oG rfl XQ FJ<|s11 _) rfl<|Qx (As rfl call42 rfl<|hwr h2 l02 _) rfl<|Qm rfl<|Am<|Aw rfl (fun hc=>ie hc σ)<|fun hc=>Ah (Ab (Ac (Ar (Qf G0 rfl (Ql rfl U4 (d0 _) (Am ?_))))));cases hb:(Eb (l.map Ce.c) (d+1) ch&&ML (l.map Ce.c) x y ch)
 all_goals rw[hb]at hb2
 ·refine AX rfl<|Ar<|Qx (oG rfl XQ FJ<|s11 _) rfl<|Qx (Bz rfl rfl rfl) rfl<|Qm rfl<|Bp<|Qm rfl<|Qf GW rfl<|Ql rfl CN (d1 _)<|Qx (Cy rfl rfl (fun xs w=>call59 xs w) rfl<|hb2 _) rfl<|Qm rfl<|Qk rfl<|Qk rfl<|Qk rfl<|Qk rfl<|Qm rfl<|Qm rfl<|Qk rfl<|Qk rfl<|Qk rfl<|Qk rfl<|Qm rfl<|Qm rfl<|Am<|Aj<|Ae ?_;exact Al rfl rfl<|rfl
 ·refine AX rfl<|Ar<|Qx (oG rfl XQ FJ<|s11 _) rfl<|Qx (Bz rfl rfl rfl) rfl<|Qm rfl<|Bp<|Qm rfl<|Qf GW rfl<|Ql rfl CN (d1 _)<|Qx (Cy rfl rfl (fun xs w=>call59 xs w) rfl<|hb2 _) rfl<|Qm rfl<|Qg (oF GV rfl) rfl<|Qg (oL rfl CN<|d2 _) rfl<|Qg (D6 (ty:=30) rfl CN rfl) rfl<|Qg (Cq rfl rfl rfl) rfl<|Qm rfl<|Qm rfl ?_;refine AU (t:=35) rfl (fun hs=>?_)<|fun hs=>?_
  ·refine Qg (oF Ia rfl) rfl<|Qg (oG rfl By Az<|s9 _) rfl<|Qg (As rfl call60 rfl<|Et m hm _ _) rfl<|Qg (Cq rfl rfl rfl) rfl<|Qm rfl<|Qm rfl<|Am<|Aj<|Ae ?_;exact Al rfl rfl (by rw[bq (show co.length=0 by omega)];exact aw Value.bool (by simp only[Bool.true_and];exact fa.2 Int.sign_eq_zero_iff_zero))
  ·refine Qk rfl<|Qk rfl<|Qk rfl<|Qk rfl<|Qm rfl<|Qm rfl<|Am<|Aj<|Ae ?_;exact Al rfl rfl (by rw[cg (show ¬co.length=0 by omega)];rfl)
def iD(L:List Nat):List Int:=L.map Int.ofNat
theorem BP(L:List Nat):(iD L).length=L.length:=by simp[iD]
theorem NM{L:List Nat}{k:Nat}(h:k<L.length):(iD L)[k]'(by rw[BP];exact h)=(L[k]:Int):=by simp[iD]
theorem HJ(v:Value)(L:List Nat)(h:Hp)(R:RdL cI 1 h [] v (iD L))(hn:L.length<=1000000):FnT Tryz.prog 125 #[v] h [] (λr h' ms'=>h=h'/\ms'=[]/\RdL cI 1 h [] r (iD (De L))):=by
 refine Ap func125 ntmps125 Y Y<|λw0 hw0=>?_;simp only[AR];refine Ar<|Qm Y<|Am<|Ac<|Ag ?_;refine AB (λq sl h' ms'=>∃(k:Nat) (w:Value),k=q/\sl=[(0,w)]/\h=h'/\ms'=[]/\k<=L.length/\RdL cI 1 h [] w (iD (L.take k))/\De (L.take k)=De L) L.length _ ⟨L.length,v,Y,Y,Y,Y,am _,by rw[fe];exact R,by rw[fe]⟩ Qs ?_;rintro q sl h' ms' ⟨k,w,rfl,rfl,rfl,rfl,hk,Rw,hs⟩;have hln:(iD (L.take k)).length=k:=by rw[BP,ay];omega
 have rW:Rd h [] w 1 k ((iD (L.take k)).flatMap cI):=by have:=Rw.rd;rwa [hln]at this
 have ow:=rW.one;obtain⟨wa,wc,rfl,hwc⟩:=rW.ex;refine Ac<|Ar<|Qm Y<|Qx (D6 (ty:=22) Y AZ Y) Y<|Qm Y<|Qm Y ?_;refine AU (t:=6) Y (λhs1=>?_)<|λhs1=>?_
 ·have hk0:0<k:=ω
  obtain⟨j,rfl⟩:∃j,k=j+1:=⟨k-1,ω⟩
  have hjL:j<L.length:=ω
  have etk:L.take (j+1)=L.take j++[L[j]]:=ak hjL
  have cE:∀ms,Cell h ms ((AH (.slice wa (j+1) wc)).add (j*1)) (.w (L[j]:Int)):=λms=>by
   have h1:j<(iD (L.take (j+1))).length:=ω
   have:=(Rw.any (ms:=ms)).cell0 h1 (u:=.w (L[j]:Int)) (by rw[NM (by rw[ay];omega)];simp[cI]);exact this
  refine Qg (Au Y Y) Y<|Qg (Au Y Y) Y<|Qg (D6 (ty:=22) Y AZ Y) Y<|Qg (oS Y) Y<|Qg (BC (j) rW.any Y AZ Bk Y Y) Y<|Qg (oL Y U3<|cE _) Y<|Qg (Cq Y Y Y) Y<|Qm Y<|Am ?_;refine Aw Y (λhz=>?_)<|λhz=>?_
  ·have hz':L[j]=0:=ω
   have R2:RdL cI 1 h [] (CP 1 (.slice wa (j+1) wc) 0 j) (iD (L.take j)):=by
    have:=Rw.sub_ (i:=0) (j:=j) ω ω;rw[List.drop_zero,Nat.sub_zero]at this;have e:(iD (L.take (j+1))).take j=iD (L.take j):=by unfold iD;rw[<-List.map_take,List.take_take];congr 2;omega
    rwa [e]at this
   refine Ah<|Ab<|Ag<|Ad<|Qm Y<|Qm Y<|Qx (D6 (ty:=22) Y AZ Y) Y<|Qx (oS Y) Y<|Qx (DL (j) rW.any Y AZ Bk Y Y ω ω) Y<|Qm Y<|An<|Ai ?_;exact Ao j _ ω ⟨j,_,Y,Y,Y,Y,ω,R2,by rw[<-hs,etk,hz',E0]⟩ Qs
  ·have hz':L[j]≠0:=λe=>hz (by rw[e];rfl);refine Ax<|Aa<|Aa<|Af<|Ab<|Ar<|Qm Y<|Qm Y<|Am<|Aj ?_;exact Al Y Y (⟨Y,Y,by rw[<-hs,etk,Gp _ hz',<-etk];exact Rw⟩)
 ·obtain rfl:k=0:=ω
  refine Qk Y<|Qk Y<|Qk Y<|Qk Y<|Qk Y<|Qk Y<|Qk Y<|Qm Y<|Am<|AL Y<|Ax<|Aa<|Aa<|Af<|Ab<|Ar<|Qm Y<|Qm Y<|Am<|Aj ?_;exact Al Y Y (⟨Y,Y,by rw[<-hs,take_zero];rw[take_zero]at Rw;exact Rw⟩)
theorem EN(j:Nat):(256:Nat)^(2*j)=65536^j:=by rw[Nat.pow_mul]
theorem FN{L:List Nat}{m j:Nat}(hl:L.length=j)(hv:val 65536 L=m%65536^j):val 65536 (L++[m/65536^j%65536])=m%65536^(j+1):=by rw[Ee,hl,hv,Nat.pow_succ,Nat.mod_mul];show _+65536^j*(m/65536^j%65536+65536*0)=_;rw[Nat.mul_zero,Nat.add_zero]
theorem EK(x:Int)(hx:Sz x)(h:Hp):FnT Tryz.prog 63 #[WD x] h [] (λr h' ms'=>h.le h'/\ms'=[]/\RdL cI 1 h' [] r (iD (dg 65536 x.natAbs))):=by
 have osx:(sv (A7 x.natAbs)).oneCell'=true:=rfl;obtain⟨m,hm⟩:∃m,x.natAbs=m:=⟨_,Y⟩
 obtain⟨n,hn⟩:∃n,(A7 m).length=n:=⟨_,Y⟩
 have hnb:n<=400000:=by rw[<-hn,<-hm];exact hx
 have hmn:m<256^n:=by have:=(BQ (b:=256) δ n m).1 (by rw[<-EV,hn];exact am _);exact this
 unfold WD;rw[hm]at osx ⊢;refine Ap func63 ntmps63 Y Y<|λw0 hw0=>?_;simp only[AR];refine Ar<|AK [_,_] Y Y (by rfl) Y Y Y<|λg1=>Qm Y<|Am<|AF λh1 l1 hS1=>?_;have c1:∀h',h1.le h'->∀ms,Cell h' ms ((⟨g1,0,none⟩:Addr).add 1) (sv (A7 m)):=λh' q ms=>((hS1 1 _ Y).any).le q;refine Ar<|Qm Y<|Bp<|Qf EI Y<|Ql Y U9 (c1 _ (BE) _)<|Qx (HI n hn Y U9 Y) Y<|Qm Y<|Am<|Ac<|Ar<|Qm Y<|Qm Y<|Am<|Ag<|BV ?_;refine AB (λq sl h' ms'=>∃(j:Nat) (w:Value) (mo:Hp) (L:List Nat),n+2-2*j=q/\sl=[(1,.pt g1),(3,w),(5,.w ((n:Int)-2*j))]/\h1=h'/\ms'=[mo]/\2*j<=n+1/\L.length=j/\(∀a∈L,a<65536)/\val 65536 L=m%65536^j/\OwnL cI 1 3 mo w (iD L)) (n+2-0) [(1,.pt g1),(3,.nl),(5,.w n)] ⟨0,_,_,[],ω,by rw[show(n:Int)-2*(0:Nat)=n by omega],Y,Y,ω,Y,by simp,by rw[Nat.pow_zero,Nat.mod_one];rfl,OwnL.nil A8⟩ Qs ?_;rintro q sl h' ms' ⟨j,w,mo,L,rfl,rfl,rfl,rfl,hj,hL,hlt,hv,hO⟩;have ow:=hO.o1;have hol:(iD L).length<=1000000:=by rw[BP];omega
 refine Ac<|Ar<|Qm Y<|Qm Y<|Am ?_;refine Aw Y (λhgt=>?_)<|λhgt=>?_
 ·have hjn:2*j<n:=ω
  have hi0:n-1-2*j<(A7 m).length:=ω
  have b0:=OR hi0;rw[hn,show n-1-(n-1-2*j)=2*j by omega,EN]at b0;obtain⟨a0,ha0⟩:∃a0,((A7 m)[n-1-2*j]).toNat=a0:=⟨_,Y⟩
  rw[ha0]at b0;have ha0b:a0<256:=ω
  refine Ah<|Ab<|Ac<|Ag<|Ar<|Qf EI Y<|Ql Y U9 (c1 _ (BE) _)<|Qm Y<|Qx (oS Y) Y ?_;refine Qx (Dk (IM (l:=A7 m) (n-1-2*j) Y U9 Y Y ω hi0) (by rw[ha0])) rfl ?_;refine Qx (Pw Y U5 U3 Y<|Ex ω) Y<|Qm Y<|Am<|Ac<|Ar<|Qm Y<|Qm Y<|Am ?_;refine Aw Y (λhgt2=>?_)<|λhgt2=>?_
  ·have hi1:n-2-2*j<(A7 m).length:=ω
   have b1:=OR hi1;rw[hn,show n-1-(n-2-2*j)=2*j+1 by omega,Nat.pow_succ,EN,<-Nat.div_div_eq_div_mul]at b1;obtain⟨a1,ha1⟩:∃a1,((A7 m)[n-2-2*j]).toNat=a1:=⟨_,Y⟩
   rw[ha1]at b1;have ha1b:a1<256:=ω
   have hd:a0+256*a1=m/65536^j%65536:=ω
   have hone:(Value.w ((a0:Int)+256*a1))=.w ((m/65536^j%65536:Nat):Int):=by rw[<-hd];congr 1
   refine Ad<|Qm Y<|Qf EI Y<|Ql Y U9 (c1 _ (BE) _)<|Qm Y<|Qx (oS Y) Y ?_;refine Qx (Dk (IM (l:=A7 m) (n-2-2*j) Y U9 Y Y ω hi1) (by rw[ha1])) rfl ?_;refine Qx (Pw Y U5 U3 Y<|Ex ω) Y<|Qx (oM Y) Y<|Qx (Dk (oA Y) hone) Y<|Qm Y<|GX<|Qm Y<|Qm Y<|Ay [_] Y AZ Bk Y (by rfl) Y Y ω Y Y Y<|λg34=>AJ 1 hO (RdL.one A8 (x:=((m/65536^j%65536:Nat):Int)) Mh Y) Y AZ Bk Y ω Y Y Y BT (by simp only[ab];omega) (by simp only[ab];omega) rfl rfl rfl<|λw2 mo2 hO2=>?_;have ow2:=hO2.o1;refine Qm Y<|An<|Ai<|Ab<|Ad<|Qm Y<|Qx (oS Y) Y<|Qm Y<|An<|AQ ?_;exact Ao (n+2-2*(j+1)) [(1,.pt g1),(3,w2),(5,.w ((n:Int)-2*j-2))] ω ⟨j+1,w2,mo2,L++[m/65536^j%65536],Y,by rw[show(n:Int)-2*j-2=n-2*(j+1:Nat) by omega],Y,Y,ω,by simp[hL],λa ha=>(bj.1 ha).elim (hlt a) (λq=>by rw[bm.1 q];exact Nat.mod_lt _ δ),FN hL hv,by rw[show iD (L++[m/65536^j%65536])=iD L++[((m/65536^j%65536:Nat):Int)] by simp[iD]];exact hO2⟩ Qs
  ·have hn1:n=2*j+1:=ω
   have hd:a0=m/65536^j%65536:=by
    have:m/65536^j<256:=by rw[hn1,Nat.pow_succ,EN]at hmn;exact Nat.div_lt_of_lt_mul hmn
    rw[b0,db this,db ω]
   rw[hd];refine Ah<|Ab<|Ad<|Qm Y<|Qm Y<|Ay [_] Y AZ Bk Y (by rfl) Y Y ω Y Y Y<|λg34=>AJ 1 hO (RdL.one A8 (x:=((m/65536^j%65536:Nat):Int)) Mh Y) Y AZ Bk Y ω Y Y Y BT (by simp only[ab];omega) (by simp only[ab];omega) rfl rfl rfl<|λw2 mo2 hO2=>?_;have ow2:=hO2.o1;refine Qm Y<|An<|Ai<|Ab<|Ad<|Qm Y<|Qx (oS Y) Y<|Qm Y<|An<|AQ ?_;exact Ao (n+2-2*(j+1)) [(1,.pt g1),(3,w2),(5,.w ((n:Int)-2*j-2))] ω ⟨j+1,w2,mo2,L++[m/65536^j%65536],Y,by rw[show(n:Int)-2*j-2=n-2*(j+1:Nat) by omega],Y,Y,ω,by simp[hL],λa ha=>(bj.1 ha).elim (hlt a) (λq=>by rw[bm.1 q];exact Nat.mod_lt _ δ),FN hL hv,by rw[show iD (L++[m/65536^j%65536])=iD L++[((m/65536^j%65536:Nat):Int)] by simp[iD]];exact hO2⟩ Qs
 ·have hmj:m<65536^j:=by rw[<-EN];exact b6 hmn<|Nat.pow_le_pow_right δ ω
  rw[db hmj]at hv;have hst:De L=dg 65536 m:=by rw[C0 δ hlt,hv]
  refine Ax<|Aa<|Aa<|Af<|Ab<|Ar<|Qm Y<|Bt hO λh2 l2 hR=>Qc call125 Y (HJ w L h2 hR ω)<|λr h3 ms3 l3 hF=>?_;obtain⟨rfl,rfl,RT⟩:=hF;rw[hst]at RT;have or_:=RT.rd.one;refine Qm Y<|Am<|Aj ?_;exact Al Y Y (⟨AD l1 l2,Y,RT⟩)
theorem Ii{n:Nat}(h:n≠0):A7 n=A7 (n/256)++[UInt8.ofNat (n%256)]:=by unfold A7;rw[Gm δ h];simp
theorem Ade{b:Nat}(hb:2<=b):∀(k n:Nat),(dg b n).getD k 0=n/b^k%b:=by
 intro k
 induction k with
 | zero=>
  intro n;by_cases h0:n=0
  ·subst h0;simp[HH]
  ·rw[Gm hb h0];simp
 | succ k ih=>
  intro n;by_cases h0:n=0
  ·subst h0;simp[HH]
  ·rw[Gm hb h0];show(dg b (n/b)).getD k 0=_;rw[ih,Nat.div_div_eq_div_mul,Nat.pow_succ,dw b]
theorem XT{b n i:Nat}(hb:2<=b)(h:i<(dg b n).length):n/b^i≠0:=by
 have hn:n≠0:=λe=>by subst e;simp[HH]at h
 have h1:=Kl hb hn;have h2:b^i<=b^((dg b n).length-1):=Nat.pow_le_pow_right ω ω;have h3:0<b^i:=Nat.pow_pos ω;have:=Nat.div_pos (bl h2 h1) h3;omega
def WS(neg:Bool)(m:Nat):Value:=if m=0 then WD 0 else .agg #[.bool neg,sv (A7 m)]
theorem Mj{neg:Bool}{x:Int}(h:x≠0->neg=decide (x<0)):WS neg x.natAbs=WD x:=by
 unfold WS;by_cases e:x=0
 ·subst e;rfl
 ·rw[ae ω,h e];rfl
theorem Fl(neg:Bool)(v:Value)(L:List Nat)(m:Nat)(h:Hp)(R:RdL cI 1 h [] v (iD L))(hn:L.length<=900000)(hl:∀a∈L,a<65536)(hv:val 65536 L=m):FnT Tryz.prog 64 #[.bool neg,v] h [] (λr h' ms'=>h.le h'/\ms'=[]/\r=WS neg m):=by
 have hW:De L=dg 65536 m:=by rw[C0 δ hl,hv]
 have hWl:(dg 65536 m).length<=L.length:=by rw[BQ δ,<-hv];exact Jm δ hl
 have ov:=R.rd.one;refine Ap func64 ntmps64 Y Y<|λw0 hw0=>?_;simp only[AR];refine Ar<|BS [.bool false,.es] Y Az Y Y<|λg4=>Bp<|Qm Y<|Qc call125 Y (HJ v L h R ω)<|λr h1 ms1 l1 hF=>?_;obtain⟨rfl,rfl,RT⟩:=hF;rw[hW]at RT;obtain⟨n,hn2⟩:∃n,(dg 65536 m).length=n:=⟨_,Y⟩
 have rW:Rd h [] r 1 n ((iD (dg 65536 m)).flatMap cI):=by have:=RT.rd;rwa [BP,hn2]at this
 have or_:=RT.rd.one;refine Qm Y<|Am<|Ac<|Ar<|Qm Y<|Qx (Aq rW.any Y AZ Y) Y<|Qm Y<|Am ?_;refine Aw Y (λhz=>?_)<|λhz=>?_
 ·have hm0:m=0:=by have:(dg 65536 m)=[]:=fm.1 ω;exact(GZ δ).1 this
  refine Ar<|Qx (AN Jp [.bool false,.es] [] [_,_] Y Az Y Y Qt Y) Y ?_;refine Sa 0 [_,_] Az Y (by simp[Value.oneCell']) ?_;refine Am<|Aj<|Ae ?_;exact Bx (vs:=[_,_]) 0 Y Y By Y Az Y Y (⟨BE,Y,by rw[hm0];rfl⟩)
 ·have hn0:n≠0:=λe=>hz (by rw[e];rfl);have hm0:m≠0:=λe=>hn0 (by rw[<-hn2,e];rfl)
  have hq0:m/65536^n=0:=by have:=(BQ (b:=65536) δ n m).1 ω;exact fj this
  refine Ah<|Ab<|Ar<|Qm Y<|Am<|Ac<|Ar<|Qm Y<|Qx (Aq rW.any Y AZ Y) Y<|Qx (oS Y) Y<|Qm Y<|Am<|Ag<|BV ?_;refine AB (λq sl h' ms'=>∃(k:Nat) (w:Value) (mo:Hp),k=q/\sl=[(0,.bool neg),(1,r),(4,.pt g4),(5,w),(6,.w ((k:Int)-1))]/\h=h'/\ms'=[mo,BI g4 33 (Bi 0)]/\k<=n/\OwnL cU8 1 5 mo w (A7 (m/65536^k))) n _ ⟨n,_,_,Y,Y,Y,Y,am _,by rw[hq0];exact OwnL.nil GA⟩ Qs ?_;rintro q sl h' ms' ⟨k,w,mo,rfl,rfl,rfl,rfl,hk,hO⟩;have ow:=hO.o1;refine Ac<|Ar<|Qm Y<|Qm Y<|Am ?_;refine Aw Y (λhge=>?_)<|λhge=>?_
  ·obtain⟨i,rfl⟩:∃i,k=i+1:=⟨k-1,ω⟩
   have hin:i<(dg 65536 m).length:=ω
   obtain⟨d,hd⟩:∃d,m/65536^i%65536=d:=⟨_,Y⟩
   obtain⟨s,hs⟩:∃s,m/65536^i=s:=⟨_,Y⟩
   have hs0:s≠0:=by rw[<-hs];exact XT δ hin
   have hsq:m/65536^(i+1)=s/65536:=by rw[Nat.pow_succ,<-Nat.div_div_eq_div_mul,hs]
   rw[hsq]at hO;rw[hs]at hd
   have cE:∀ms,Cell h ms ((AH r).add (i*1)) (.w (d:Int)):=λms=>by
    have h1:i<(iD (dg 65536 m)).length:=by rw[BP];omega
    have:=(RT.any (ms:=ms)).cell0 h1 (u:=.w (d:Int)) (by rw[NM hin];have:=Ade (b:=65536) δ i m;rw[hs,hd]at this;simp[List.getD,hin]at this;simp[cI,this]);exact this
   have hdb:d<65536:=ω
   have q1:((d:Int)/256)=((d/256:Nat):Int):=ω
   have q2:((d:Int)%256)=((d%256:Nat):Int):=ω
   have c8:IntKind.u8.wrap ((d:Int)/256)=(((UInt8.ofNat (d/256)).toNat:Nat):Int):=by rw[q1];simp[IntKind.wrap,IntKind.bits,IntKind.signed]
   have c0:IntKind.u8.wrap ((d:Int)%256)=(((UInt8.ofNat (d%256)).toNat:Nat):Int):=by rw[q2];simp[IntKind.wrap,IntKind.bits,IntKind.signed]
   have hbl:∀t,t<=s->(A7 t).length<=2000000:=λt ht=>by
    have h1:=DJ (b:=256) δ (bl ht (by rw[<-hs];exact Nat.div_le_self _ _):t<=m)
    have h2:(dg 256 m).length<=2*n:=(BQ (b:=256) δ _ _).2 (by
     have:=(BQ (b:=65536) δ n m).1 ω
     rwa [EN])
    rw[EV];omega
   have hol1:=hbl (s/65536) (Nat.div_le_self _ _);have hbl2:=hbl (s/256) (Nat.div_le_self _ _);refine Ah<|Ab<|Ac<|Ag<|Ac<|Ar<|Qm Y<|Qm Y<|Qx (Aq rW.any Y AZ Y) Y<|Qx (oS Y) Y<|Qm Y<|Qm Y ?_;refine AU (t:=25) Y (λhlt=>?_)<|λhlt=>?_
   ·have hq:s/65536≠0:=by rw[<-hsq];exact XT δ ω
    have hp1:s/256≠0:=ω
    refine Qk Y<|Qk Y<|Qk Y<|Qk Y<|Qk Y<|Qm Y<|Am<|AX Y<|Ad<|Qm Y<|Qm Y<|Qm Y<|Qx (BC (i) rW.any Y AZ Bk Y Y) Y<|Ql Y U3 (cE _)<|Qx (DC Y Y Y ω ω) Y<|Qx (Ec Y U3 U5 Y) Y<|Ay [_] Y H5 WO Y (by rfl) Y Y ω Y Y Y<|λg39=>AJ 1 hO (RdL.one GA (x:=UInt8.ofNat (d/256)) Mh Y) Y H5 WO Y ω Y Y Y IK (by simp only[ab];omega) (by simp only[ab];omega) rfl rfl rfl<|λw2 mo2 hO2=>?_;rw[show A7 (s/65536)++[UInt8.ofNat (d/256)]=A7 (s/256) by rw[Ii hp1,show s/256/256=s/65536 by omega,show s/256%256=d/256 by omega]]at hO2;have ow2:=hO2.o1;have holw2:=hbl2;refine Qm Y<|GX<|Qm Y<|Qm Y<|Qm Y<|Qx (BC (i) rW.any Y AZ Bk Y Y) Y<|Ql Y U3 (cE _)<|Qx (C6 Y Y Y ω ω) Y<|Qx (DU c0 Y U3 U5 Y) Y<|Ay [_] Y H5 WO Y (by rfl) Y Y ω Y Y Y<|λg48=>AJ 2 hO2 (RdL.one GA (x:=UInt8.ofNat (d%256)) Mh Y) Y H5 WO Y ω Y Y Y IK (by simp only[ab];omega) (by simp only[ab];omega) rfl rfl rfl<|λw3 mo3 hO3=>?_;rw[show A7 (s/256)++[UInt8.ofNat (d%256)]=A7 s by rw[Ii hs0,show d%256=s%256 by omega]]at hO3;have ow3:=hO3.o1;refine Qm Y<|An<|Ai<|Ab<|Ad<|Qm Y<|Qx (oS Y) Y<|Qm Y<|An ?_;refine AQ<|AQ ?_;exact Ao i [(0,.bool neg),(1,r),(4,.pt g4),(5,w3),(6,.w ((i:Int)+1-1-1))] ω ⟨i,w3,mo3,Y,by rw[show(i:Int)+1-1-1=i-1 by omega],Y,Y,ω,by rw[hs];exact hO3⟩ Qs
   ·have hq:s/65536=0:=by
     rw[<-hsq];have:i+1=n:=ω
     rw[this];exact hq0
    refine Qg (Au Y Y) Y<|Qg (Au Y Y) Y<|Qg (BC (i) rW.any Y AZ Bk Y Y) Y<|Qg (oL Y U3<|cE _) Y<|Qg (MZ Y Y Y) Y<|Qm Y<|Am ?_;refine Aw Y (λhge2=>?_)<|λhge2=>?_
    ·have hp1:s/256≠0:=ω
     refine Ad<|Qm Y<|Qm Y<|Qm Y<|Qx (BC (i) rW.any Y AZ Bk Y Y) Y<|Ql Y U3 (cE _)<|Qx (DC Y Y Y ω ω) Y<|Qx (DU c8 Y U3 U5 Y) Y<|Ay [_] Y H5 WO Y (by rfl) Y Y ω Y Y Y<|λg39=>AJ 1 hO (RdL.one GA (x:=UInt8.ofNat (d/256)) Mh Y) Y H5 WO Y ω Y Y Y IK (by simp only[ab];omega) (by simp only[ab];omega) rfl rfl rfl<|λw2 mo2 hO2=>?_;rw[show A7 (s/65536)++[UInt8.ofNat (d/256)]=A7 (s/256) by rw[Ii hp1,show s/256/256=s/65536 by omega,show s/256%256=d/256 by omega]]at hO2;have ow2:=hO2.o1;have holw2:=hbl2;refine Qm Y<|GX<|Qm Y<|Qm Y<|Qm Y<|Qx (BC (i) rW.any Y AZ Bk Y Y) Y<|Ql Y U3 (cE _)<|Qx (C6 Y Y Y ω ω) Y<|Qx (DU c0 Y U3 U5 Y) Y<|Ay [_] Y H5 WO Y (by rfl) Y Y ω Y Y Y<|λg48=>AJ 2 hO2 (RdL.one GA (x:=UInt8.ofNat (d%256)) Mh Y) Y H5 WO Y ω Y Y Y IK (by simp only[ab];omega) (by simp only[ab];omega) rfl rfl rfl<|λw3 mo3 hO3=>?_;rw[show A7 (s/256)++[UInt8.ofNat (d%256)]=A7 s by rw[Ii hs0,show d%256=s%256 by omega]]at hO3;have ow3:=hO3.o1;refine Qm Y<|An<|Ai<|Ab<|Ad<|Qm Y<|Qx (oS Y) Y<|Qm Y<|An ?_;refine AQ<|AQ ?_;exact Ao i [(0,.bool neg),(1,r),(4,.pt g4),(5,w3),(6,.w ((i:Int)+1-1-1))] ω ⟨i,w3,mo3,Y,by rw[show(i:Int)+1-1-1=i-1 by omega],Y,Y,ω,by rw[hs];exact hO3⟩ Qs
    ·have e0:A7 (s/65536)=A7 (s/256):=by rw[show s/65536=0 by omega,show s/256=0 by omega]
     rw[e0]at hO;have holw:=hbl2;refine Ah<|Ab<|Ad<|Qm Y<|Qm Y<|Qm Y<|Qx (BC (i) rW.any Y AZ Bk Y Y) Y<|Ql Y U3 (cE _)<|Qx (C6 Y Y Y ω ω) Y<|Qx (DU c0 Y U3 U5 Y) Y<|Ay [_] Y H5 WO Y (by rfl) Y Y ω Y Y Y<|λg48=>AJ 1 hO (RdL.one GA (x:=UInt8.ofNat (d%256)) Mh Y) Y H5 WO Y ω Y Y Y IK (by simp only[ab];omega) (by simp only[ab];omega) rfl rfl rfl<|λw3 mo3 hO3=>?_;rw[show A7 (s/256)++[UInt8.ofNat (d%256)]=A7 s by rw[Ii hs0,show d%256=s%256 by omega]]at hO3;have ow3:=hO3.o1;refine Qm Y<|An<|Ai<|Ab<|Ad<|Qm Y<|Qx (oS Y) Y<|Qm Y<|An<|AQ ?_;exact Ao i [(0,.bool neg),(1,r),(4,.pt g4),(5,w3),(6,.w ((i:Int)+1-1-1))] ω ⟨i,w3,mo3,Y,by rw[show(i:Int)+1-1-1=i-1 by omega],Y,Y,ω,by rw[hs];exact hO3⟩ Qs
  ·obtain rfl:k=0:=ω
   rw[Nat.pow_zero,Nat.div_one]at hO;have hRb:=(hO.rd (h:=h) (ms:=[mo,BI g4 33 (Bi 0)]) (.head _)).rd;have osb:(sv (A7 m)).oneCell'=true:=rfl;refine Ax<|Aa<|Aa<|Af<|Ab<|Ar<|Qm Y<|Qm Y<|Qx (Rx hRb Y Y H5 U5 U9 Y) Y<|Qx (AN Jp [.bool false,.es] [(0,_),(1,_)] [_,_] Y Az Y Y Qt Y) Y ?_;refine Sa 1 [_,_] Az Y (by simp[ov,B8,or_,ow,osb]) ?_;refine Am<|Aj<|AQ ?_;exact Bx (vs:=[_,_]) 0 Y Y By Y Az Y Y (⟨BE,Y,by unfold WS;rw[ae hm0]⟩)
theorem ZK(x:Int)(hx:Cd x)(h:Hp):FnT Tryz.prog 25 #[.int .i64 x] h [] (λr h' ms'=>h.le h'/\ms'=[]/\r=WD x):=by
 obtain⟨m,hm⟩:∃m,x.natAbs=m:=⟨_,Y⟩
 have hmb:m<18446744073709551616:=by have:=hx.1;have:=hx.2;omega
 have hWS:WS (decide (x<0)) m=WD x:=by rw[<-hm];exact Mj λ_=>rfl
 have hx1:=hx.1;have hx2:=hx.2
 have hu:IntKind.u64.wrap x=if x<0 then x+18446744073709551616 else x:=by by_cases hn:x<0<;>simp[IntKind.wrap,IntKind.bits,IntKind.signed,hn]<;>omega
 refine Ap func25 ntmps25 Y Y<|λw0 hw0=>?_;simp only[AR];by_cases hneg:x<0
 ·rw[ah hneg]at hu;have hn2:IntKind.u64.wrap (-(x+18446744073709551616))=(m:Int):=by simp[IntKind.wrap,IntKind.bits,IntKind.signed];omega
  refine Ar<|BS [.bool false,.es] Y Az Y Y<|λg2=>Bp<|Qm Y<|Bp<|Qm Y<|Qx (DU hu Y U3 Fi Y) Y<|Qm Y<|Am<|Ac<|Ar<|Qm Y<|Qm Y<|Am ?_;refine Aw Y (λhc=>?_)<|λhc=>ie (hneg) hc;refine Ad<|Qm Y<|Qx (VW hn2 Y Y) Y<|Qm Y<|Am<|Ac<|Ag<|BV ?_;refine AB (λq sl h' ms'=>∃(j p:Nat) (w:Value) (mo:Hp) (L:List Nat),p=q/\sl=[(0,.w x),(2,.pt g2),(3,w),(4,.int .u64 (p:Int))]/\h=h'/\ms'=[mo,BI g2 33 (Bi 0)]/\p=m/65536^j/\L.length=j/\(j=0\/m/65536^(j-1)≠0)/\(∀a∈L,a<65536)/\val 65536 L=m%65536^j/\OwnL cI 1 3 mo w (iD L)) m [(0,.w x),(2,.pt g2),(3,.nl),(4,.int .u64 (m:Int))] ⟨0,m,_,_,[],Y,Y,Y,Y,by simp,rfl,.inl rfl,by simp,by rw[Nat.pow_zero,Nat.mod_one];rfl,OwnL.nil A8⟩ Qs ?_;rintro q sl h' ms' ⟨j,p,w,mo,L,rfl,rfl,rfl,rfl,hp,hL,hj0,hlt,hv,hO⟩
  have hj64:j<=4:=by
   rcases hj0 with h0|h0
   ·omega
   ·refine aq λhc=>h0<|fj<|b6 hmb ?_;exact bl (show 18446744073709551616<=65536^4 by decide)<|Nat.pow_le_pow_right δ ω
  have hpb:p<18446744073709551616:=by rw[hp];exact Nat.lt_of_le_of_lt (Nat.div_le_self _ _) hmb
  have ow:=hO.o1;have hol:(iD L).length<=1000000:=by rw[BP];omega
  refine Ac<|Ar<|Qm Y<|Qm Y<|Am ?_;refine Aw Y (λhgt=>?_)<|λhgt=>?_
  ·have hp0:p≠0:=ω
   have hc:IntKind.i64.wrap (((p%65536:Nat):Int))=((p%65536:Nat):Int):=by
    obtain⟨t,ht⟩:∃t,p%65536=t:=⟨_,Y⟩
    have:t<65536:=ω
    rw[ht];simp[IntKind.wrap,IntKind.bits,IntKind.signed];omega
   refine Ah<|Ab<|Ag<|Ar<|Qm Y<|Qm Y<|Qx (Pu (a:=p) (b:=65536) Y Y Y δ) Y<|Qx (DU hc Y Fi U3 Y) Y<|Ay [_] Y AZ Bk Y (by rfl) Y Y ω Y Y Y<|λg17=>AJ 1 hO (RdL.one A8 (x:=((p%65536:Nat):Int)) Mh Y) Y AZ Bk Y ω Y Y Y BT (by simp only[ab];omega) (by simp only[ab];omega) rfl rfl rfl<|λw2 mo2 hO2=>?_;have ow2:=hO2.o1;refine Qm Y<|GX<|Qm Y<|Qx (OK (a:=p) (b:=65536) Y Y Y hpb δ) Y<|Qm Y<|An<|Ai<|AQ ?_;exact Ao (p/65536) _ ω ⟨j+1,p/65536,w2,mo2,L++[p%65536],Y,Y,Y,Y,by rw[hp,Nat.pow_succ,Nat.div_div_eq_div_mul],by simp[hL],.inr (by rw[Nat.add_sub_cancel,<-hp];exact hp0),λa ha=>(bj.1 ha).elim (hlt a) (λq=>by rw[bm.1 q];exact Nat.mod_lt _ δ),by rw[hp];exact FN hL hv,by rw[show iD (L++[p%65536])=iD L++[((p%65536:Nat):Int)] by simp[iD]];exact hO2⟩ Qs
  ·have hp0:p=0:=ω
   have hmj:m<65536^j:=by
    rw[hp]at hp0;rcases Nat.div_eq_zero_iff.1 hp0 with e|e
    ·exact ie e<|Nat.ne_of_gt<|Nat.pow_pos δ
    ·exact e
   rw[db hmj]at hv;refine Ax<|Aa<|Aa<|Af<|Ab<|Ar<|Qm Y<|Qm Y<|Qm Y<|Bt hO λh2 l2 hR=>Qc call64 Y (Fl (decide<|x<0) w L m h2 hR ω hlt hv)<|λr h3 ms3 l3 hF=>?_;obtain⟨l3',rfl,rfl⟩:=hF;rw[hWS];have osx:(sv (A7 x.natAbs)).oneCell'=true:=rfl;refine Sa 0 [_,_] Az Y (by simp[B8,ow,osx]) ?_;refine Am<|Aj ?_;exact Bx (vs:=[_,_]) 0 Y Y By Y Az Y Y (⟨AD l2 l3',Y,Y⟩)
 ·rw[ae hneg]at hu;have hxm:x=(m:Int):=ω
  have hu2:IntKind.u64.wrap x=(m:Int):=by rw[hu,hxm]
  refine Ar<|BS [.bool false,.es] Y Az Y Y<|λg2=>Bp<|Qm Y<|Bp<|Qm Y<|Qx (DU hu2 Y U3 Fi Y) Y<|Qm Y<|Am<|Ac<|Ar<|Qm Y<|Qm Y<|Am<|Aw Y (λhc=>ie hc<|hneg)<|λhc=>Ah<|Ab<|Ac<|Ag<|BV ?_;refine AB (λq sl h' ms'=>∃(j p:Nat) (w:Value) (mo:Hp) (L:List Nat),p=q/\sl=[(0,.w x),(2,.pt g2),(3,w),(4,.int .u64 (p:Int))]/\h=h'/\ms'=[mo,BI g2 33 (Bi 0)]/\p=m/65536^j/\L.length=j/\(j=0\/m/65536^(j-1)≠0)/\(∀a∈L,a<65536)/\val 65536 L=m%65536^j/\OwnL cI 1 3 mo w (iD L)) m [(0,.w x),(2,.pt g2),(3,.nl),(4,.int .u64 (m:Int))] ⟨0,m,_,_,[],Y,Y,Y,Y,by simp,rfl,.inl rfl,by simp,by rw[Nat.pow_zero,Nat.mod_one];rfl,OwnL.nil A8⟩ Qs ?_;rintro q sl h' ms' ⟨j,p,w,mo,L,rfl,rfl,rfl,rfl,hp,hL,hj0,hlt,hv,hO⟩
  have hj64:j<=4:=by
   rcases hj0 with h0|h0
   ·omega
   ·refine aq λhc=>h0<|fj<|b6 hmb ?_;exact bl (show 18446744073709551616<=65536^4 by decide)<|Nat.pow_le_pow_right δ ω
  have hpb:p<18446744073709551616:=by rw[hp];exact Nat.lt_of_le_of_lt (Nat.div_le_self _ _) hmb
  have ow:=hO.o1;have hol:(iD L).length<=1000000:=by rw[BP];omega
  refine Ac<|Ar<|Qm Y<|Qm Y<|Am ?_;refine Aw Y (λhgt=>?_)<|λhgt=>?_
  ·have hp0:p≠0:=ω
   have hc:IntKind.i64.wrap (((p%65536:Nat):Int))=((p%65536:Nat):Int):=by
    obtain⟨t,ht⟩:∃t,p%65536=t:=⟨_,Y⟩
    have:t<65536:=ω
    rw[ht];simp[IntKind.wrap,IntKind.bits,IntKind.signed];omega
   refine Ah<|Ab<|Ag<|Ar<|Qm Y<|Qm Y<|Qx (Pu (a:=p) (b:=65536) Y Y Y δ) Y<|Qx (DU hc Y Fi U3 Y) Y<|Ay [_] Y AZ Bk Y (by rfl) Y Y ω Y Y Y<|λg17=>AJ 1 hO (RdL.one A8 (x:=((p%65536:Nat):Int)) Mh Y) Y AZ Bk Y ω Y Y Y BT (by simp only[ab];omega) (by simp only[ab];omega) rfl rfl rfl<|λw2 mo2 hO2=>?_;have ow2:=hO2.o1;refine Qm Y<|GX<|Qm Y<|Qx (OK (a:=p) (b:=65536) Y Y Y hpb δ) Y<|Qm Y<|An<|Ai<|AQ ?_;exact Ao (p/65536) _ ω ⟨j+1,p/65536,w2,mo2,L++[p%65536],Y,Y,Y,Y,by rw[hp,Nat.pow_succ,Nat.div_div_eq_div_mul],by simp[hL],.inr (by rw[Nat.add_sub_cancel,<-hp];exact hp0),λa ha=>(bj.1 ha).elim (hlt a) (λq=>by rw[bm.1 q];exact Nat.mod_lt _ δ),by rw[hp];exact FN hL hv,by rw[show iD (L++[p%65536])=iD L++[((p%65536:Nat):Int)] by simp[iD]];exact hO2⟩ Qs
  ·have hp0:p=0:=ω
   have hmj:m<65536^j:=by
    rw[hp]at hp0;rcases Nat.div_eq_zero_iff.1 hp0 with e|e
    ·exact ie e<|Nat.ne_of_gt<|Nat.pow_pos δ
    ·exact e
   rw[db hmj]at hv;refine Ax<|Aa<|Aa<|Af<|Ab<|Ar<|Qm Y<|Qm Y<|Qm Y<|Bt hO λh2 l2 hR=>Qc call64 Y (Fl (decide<|x<0) w L m h2 hR ω hlt hv)<|λr h3 ms3 l3 hF=>?_;obtain⟨l3',rfl,rfl⟩:=hF;rw[hWS];have osx:(sv (A7 x.natAbs)).oneCell'=true:=rfl;refine Sa 0 [_,_] Az Y (by simp[B8,ow,osx]) ?_;refine Am<|Aj ?_;exact Bx (vs:=[_,_]) 0 Y Y By Y Az Y Y (⟨AD l2 l3',Y,Y⟩)
theorem K4{m:Nat}:(dg 65536 m).length=0<->m=0:=by rw[fm,GZ δ]
theorem Hq(x:Int)(hx:Cd x)(h:Hp)(ms:List Hp):FnV Tryz.prog 25 #[.int .i64 x] h ms (WD x):=DY ((ZK x hx h).mono λ_ _ _ h=>h.2.2) ms
theorem FK(x:Int)(hx:Sz x)(h:Hp)(ms:List Hp):FnV Tryz.prog 55 #[WD x] h ms (.int .i64 x.sign):=by
 refine DY ?_ ms;have osx:(sv (A7 x.natAbs)).oneCell'=true:=rfl;refine Ap func55 ntmps55 Y Y<|λw0 hw0=>?_;simp only[AR];refine Ar<|AK [_,_] Y Y (by rfl) Y Y Y<|λg1=>Qm Y<|Am<|AF λh1 l1 hS1=>?_;have g1_:∀h',h1.le h'->∀ms,Seg h' ms (⟨g1,0,none⟩:Addr) (Bi x):=λh' q ms=>(hS1.any).le q;have c0:∀h',h1.le h'->∀ms,Cell h' ms ((⟨g1,0,none⟩:Addr).add 0) (.bool (decide (x<0))):=λh' q ms=>((hS1 0 _ Y).any).le q;refine Ac<|Ar<|Qx (oG Y By Az<|g1_ _ (BE) _) Y<|Qc call63 Y (EK x hx h1)<|λr h2 ms2 l2 hF=>?_;obtain⟨l2',rfl,R⟩:=hF;have or_:=R.rd.one;have rR:Rd h2 [] r 1 (dg 65536 x.natAbs).length ((iD (dg 65536 x.natAbs)).flatMap cI):=by have:=R.rd;rwa [BP]at this
 have hd0:=K4 (m:=x.natAbs);refine Qx (Aq rR.any Y AZ Y) Y<|Qm Y<|Am ?_;refine Aw Y (λhz=>?_)<|λhz=>?_
 ·have hx0:x=0:=by have:=hd0.1 ω;omega
  refine Ar<|Qm Y<|Am<|Aj<|Ae ?_;exact Al Y Y (by rw[hx0];rfl)
 ·have hx0:x≠0:=λe=>hz (by have:=hd0.2 ω;omega);refine Ah<|Ab<|Ac<|Ar<|Qf C4 Y<|Ql Y U4 (c0 _ l2' _)<|Am ?_;refine Aw Y (λhneg=>?_)<|λhneg=>?_
  ·refine Ac<|Ad<|Qm Y<|Am<|Aj<|Ae ?_;exact Al Y Y (by rw[Int.sign_eq_neg_one_of_neg hneg])
  ·refine Ah<|Ab<|Ar<|Qm Y<|Am<|Aj ?_;exact Al Y Y (by rw[Int.sign_eq_one_of_pos ω])
def KN(x y:Nat):Int:=if x<y then -1 else if x=y then 0 else 1
theorem NV{x y b:Nat}(h:x/b<y/b):x<y:=by refine aq λhc=>?_;have:=Nat.div_le_div_right (c:=b) (show y<=x by omega);omega
theorem EB{h:Hp}{v:Value}{x:Nat}(R:RdL cI 1 h [] v (iD (dg 65536 x))){i:Nat}(hi:i<(dg 65536 x).length):∀ms,Cell h ms ((AH v).add (i*1)) (.int .i64 ((x/65536^i%65536:Nat):Int)):=λms=>by
 have h1:i<(iD (dg 65536 x)).length:=by rw[BP];exact hi
 refine(R.any (ms:=ms)).cell0 h1 ?_;rw[NM hi];have:=Ade (b:=65536) δ i x;simp[List.getD,hi]at this;simp[cI,this]
theorem Jv(va vb:Value)(x y:Nat)(h:Hp)(RA:RdL cI 1 h [] va (iD (dg 65536 x)))(RB:RdL cI 1 h [] vb (iD (dg 65536 y)))(hx:(dg 65536 x).length<=900000)(hy:(dg 65536 y).length<=900000)(ms:List Hp):FnV Tryz.prog 66 #[va,vb] h ms (.int .i64 (KN x y)):=by
 refine DY ?_ ms;obtain⟨n,hn⟩:∃n,(dg 65536 x).length=n:=⟨_,Y⟩
 obtain⟨k,hk⟩:∃k,(dg 65536 y).length=k:=⟨_,Y⟩
 have rA:Rd h [] va 1 n ((iD (dg 65536 x)).flatMap cI):=by have:=RA.rd;rwa [BP,hn]at this
 have rB:Rd h [] vb 1 k ((iD (dg 65536 y)).flatMap cI):=by have:=RB.rd;rwa [BP,hk]at this
 have oa:=rA.one;have ob:=rB.one;refine Ap func66 ntmps66 Y Y<|λw0 hw0=>?_;simp only[AR];refine Ar<|Qm Y<|Am<|Ac<|Ar<|Qm Y<|Qx (Aq rA.any Y AZ Y) Y<|Qm Y<|Qx (Aq rB.any Y AZ Y) Y<|Qm Y<|Am ?_;refine Aw Y (λhne=>?_)<|λhne=>?_
 ·refine Ac<|Ar<|Qm Y<|Qx (Aq rA.any Y AZ Y) Y<|Qm Y<|Qx (Aq rB.any Y AZ Y) Y<|Qm Y<|Am ?_;refine Aw Y (λhlt=>?_)<|λhlt=>?_
  ·have:x<y:=Hf (b:=65536) δ ω;refine Ar<|Qm Y<|Am<|Aj<|Ae<|Ae ?_;exact Al Y Y (by unfold KN;rw[ah this])
  ·have:y<x:=Hf (b:=65536) δ ω;refine Ah<|Ab<|Ar<|Qm Y<|Am<|Aj<|Ae ?_;exact Al Y Y (by unfold KN;rw[ae ω,ae ω])
 ·obtain rfl:n=k:=ω
  have q0:∀x,(dg 65536 x).length=n->x/65536^n=0:=λx hx=>fj ((BQ (b:=65536) δ n x).1 ω);refine Ah<|Ab<|Ac<|Ar<|Qm Y<|Qx (Aq rA.any Y AZ Y) Y<|Qx (oS Y) Y<|Qm Y<|Am<|Ag ?_;refine AB (λq sl h' ms'=>∃(j:Nat),j=q/\sl=[(0,va),(1,vb),(5,.w ((j:Int)-1))]/\h=h'/\ms'=[]/\j<=n/\x/65536^j=y/65536^j) n _ ⟨n,Y,Y,Y,Y,am _,by rw[q0 x hn,q0 y hk]⟩ Qs ?_;rintro q sl h' ms' ⟨j,rfl,rfl,rfl,rfl,hj,he⟩;refine Ac<|Ar<|Qm Y<|Qm Y<|Am ?_;refine Aw Y (λhge=>?_)<|λhge=>?_
  ·obtain⟨i,rfl⟩:∃i,j=i+1:=⟨j-1,ω⟩
   obtain⟨s,hs⟩:∃s,x/65536^i=s:=⟨_,Y⟩
   obtain⟨t,ht⟩:∃t,y/65536^i=t:=⟨_,Y⟩
   rw[Nat.pow_succ,<-Nat.div_div_eq_div_mul,<-Nat.div_div_eq_div_mul,hs,ht]at he;have cA:=EB RA (i:=i) ω;have cB:=EB RB (i:=i) ω;rw[hs]at cA;rw[ht]at cB;obtain⟨d,hd⟩:∃d,s%65536=d:=⟨_,Y⟩
   obtain⟨e,he2⟩:∃e,t%65536=e:=⟨_,Y⟩
   rw[hd]at cA;rw[he2]at cB;refine Ah<|Ab<|Ac<|Ag<|Ac<|BB 8 CC κ Y<|Wm Y<|Wm Y<|BD (BC (i) rA.any Y AZ Bk Y Y) Y Y<|Wl Y U3 (cA _)<|Wm Y<|Wm Y<|BD (BC (i) rB.any Y AZ Bk Y Y) Y Y<|Wl Y U3 (cB _)<|Bu<|Qm Y<|Am ?_;refine Aw Y (λhde=>?_)<|λhde=>?_
   ·refine Ac<|Ac<|BB 8 CC κ Y<|Wm Y<|Wm Y<|BD (BC (i) rA.any Y AZ Bk Y Y) Y Y<|Wl Y U3 (cA _)<|Wm Y<|Wm Y<|BD (BC (i) rB.any Y AZ Bk Y Y) Y Y<|Wl Y U3 (cB _)<|Bu<|Qm Y<|Am ?_;refine Aw Y (λhlt=>?_)<|λhlt=>?_
    ·have:x<y:=NV (b:=65536^i) (by rw[hs,ht];omega);refine Ar<|Qm Y<|Am<|Aj<|Ae<|Ak<|Ae<|Ae<|Ak<|Ae ?_;exact Al Y Y (by unfold KN;rw[ah this])
    ·have:y<x:=NV (b:=65536^i) (by rw[hs,ht];omega);refine Ah<|Ab<|Ar<|Qm Y<|Am<|Aj<|Ak<|Ae<|Ae<|Ak<|Ae ?_;exact Al Y Y (by unfold KN;rw[ae ω,ae ω])
   ·refine Ah<|Ai<|Ab<|Ad<|Qm Y<|Qx (oS Y) Y<|Qm Y<|An ?_;exact Ao i [(0,va),(1,vb),(5,.w ((i:Int)+1-1-1))] ω ⟨i,Y,by rw[show(i:Int)+1-1-1=i-1 by omega],Y,Y,ω,by rw[hs,ht];omega⟩ Qs
  ·obtain rfl:j=0:=ω
   rw[Nat.pow_zero,Nat.div_one,Nat.div_one]at he;refine Ax<|Aa<|Aa<|Af<|Ab<|Ar<|Qm Y<|Am<|Aj ?_;exact Al Y Y (by unfold KN;rw[ae ω,ah he])
theorem Hv{L:List Nat}{x y i c c' xd yd d:Nat}(hL:L.length=i)(hv:val 65536 L+y%65536^i=x%65536^i+c*65536^i)(hxd:x/65536^i%65536=xd)(hyd:y/65536^i%65536=yd)(hd:d+yd+c=xd+c'*65536) :
  val 65536 (L++[d])+y%65536^(i+1)=x%65536^(i+1)+c'*65536^(i+1):=by
 rw[Ee,hL,Nat.pow_succ,Nat.mod_mul,Nat.mod_mul,hxd,hyd];obtain⟨P,hP⟩:∃P,65536^i=P:=⟨_,Y⟩
 rw[hP]at hv ⊢;have h1:=aw (P*·) hd;simp only[Nat.mul_add]at h1;show val 65536 L+P*(d+65536*0)+_=_;rw[Nat.mul_zero,Nat.add_zero];have h2:c'*(P*65536)=P*(c'*65536):=by rw[Nat.mul_left_comm]
 have h3:c*P=P*c:=dw _ _;omega
theorem JI{y i:Nat}(h:(dg 65536 y).length<=i):y/65536^i%65536=0:=by have:=(BQ (b:=65536) δ i y).1 h;rw[fj this]
theorem IB(va vb:Value)(x y:Nat)(h:Hp)(RA:RdL cI 1 h [] va (iD (dg 65536 x)))(RB:RdL cI 1 h [] vb (iD (dg 65536 y)))(hx:(dg 65536 x).length<=800000)(hy:(dg 65536 y).length<=800000)(hxy:y<=x):FnT Tryz.prog 67 #[va,vb] h [] (λr h' ms'=>h.le h'/\ms'=[]/\RdL cI 1 h' [] r (iD (dg 65536 (x-y)))):=by
 obtain⟨n,hn⟩:∃n,(dg 65536 x).length=n:=⟨_,Y⟩
 obtain⟨k,hk⟩:∃k,(dg 65536 y).length=k:=⟨_,Y⟩
 have rA:Rd h [] va 1 n ((iD (dg 65536 x)).flatMap cI):=by have:=RA.rd;rwa [BP,hn]at this
 have rB:Rd h [] vb 1 k ((iD (dg 65536 y)).flatMap cI):=by have:=RB.rd;rwa [BP,hk]at this
 have oa:=rA.one;have ob:=rB.one;refine Ap func67 ntmps67 Y Y<|λw0 hw0=>?_;simp only[AR];refine Ar<|Qm Y<|Bp<|Qm Y<|Bp<|Qm Y<|Am<|Ac<|Ar<|Qm Y<|Am<|Ag<|BV ?_;refine AB (λq sl h' ms'=>∃(i c:Nat) (w:Value) (mo:Hp) (L:List Nat),n-i=q/\sl=[(0,va),(1,vb),(5,w),(6,.w (c:Int)),(7,.w (i:Int))]/\h=h'/\ms'=[mo]/\i<=n/\c<=1/\L.length=i/\(∀a∈L,a<65536)/\val 65536 L+y%65536^i=x%65536^i+c*65536^i/\OwnL cI 1 3 mo w (iD L)) (n-0) _ ⟨0,0,_,_,[],Y,Y,Y,Y,ω,by decide,Y,by simp,by simp[Nat.mod_one];rfl,OwnL.nil A8⟩ Qs ?_;rintro q sl h' ms' ⟨i,c,w,mo,L,rfl,rfl,rfl,rfl,hi,hc,hL,hlt,hv,hO⟩;have ow:=hO.o1;have hol:(iD L).length<=1000000:=by rw[BP];omega
 refine Ac<|Ar<|Qm Y<|Qm Y<|Qx (Aq rA.any Y AZ Y) Y<|Qm Y<|Am ?_;refine Aw Y (λhin=>?_)<|λhin=>?_
 ·have hin':i<n:=ω
  have cA:=EB RA (i:=i) ω;obtain⟨xd,hxd⟩:∃xd,x/65536^i%65536=xd:=⟨_,Y⟩
  obtain⟨yd,hyd⟩:∃yd,y/65536^i%65536=yd:=⟨_,Y⟩
  have hxb:xd<65536:=ω
  have hyb:yd<65536:=ω
  rw[hxd]at cA;refine Ah<|Ab<|Ac<|Ag<|Ar<|Qm Y<|Qm Y<|Qx (BC (i) rA.any Y AZ Bk Y Y) Y<|Ql Y U3 (cA _)<|Qm Y<|Qx (oS Y) Y<|Qm Y<|Am<|Ac<|Ar<|Qm Y<|Qm Y<|Qx (Aq rB.any Y AZ Y) Y<|Qm Y<|Am ?_;refine Aw Y (λhik=>?_)<|λhik=>?_
  ·have cB:=EB RB (i:=i) ω;rw[hyd]at cB;refine Ad<|Qm Y<|Qm Y<|Qm Y<|Qx (BC (i) rB.any Y AZ Bk Y Y) Y<|Ql Y U3 (cB _)<|Qx (oS Y) Y<|Qm Y<|Bp<|Qm Y<|Am<|Ac<|Ar<|Qm Y<|Qm Y<|Am ?_;refine Aw Y (λhneg=>?_)<|λhneg=>?_
   ·refine Ac<|Ad<|Qm Y<|Qx (oA Y) Y<|Qm Y<|GX<|Qm Y<|GX<|Qm Y<|Qm Y<|Ay [_] Y AZ Bk Y (by rfl) Y Y ω Y Y Y<|λg37=>?_;obtain⟨dn,hdn⟩:∃dn:Nat,(xd:Int)-c-yd+65536=(dn:Int):=⟨(xd+65536-c-yd),ω⟩
    have hdb:dn<65536:=ω
    rw[hdn];refine AJ 1 hO (RdL.one A8 (x:=(dn:Int)) Mh Y) Y AZ Bk Y ω Y Y Y BT (by simp only[ab];omega) (by simp only[ab];omega) rfl rfl rfl<|λw2 mo2 hO2=>?_;have ow2:=hO2.o1;refine Qm Y<|An<|Ai<|Ab<|Ad<|Qm Y<|Qx (oA Y) Y<|Qm Y<|An<|AQ ?_;exact Ao (n-(i+1)) _ ω ⟨i+1,1,w2,mo2,L++[dn],Y,Y,Y,Y,ω,by decide,by simp[hL],λa ha=>(bj.1 ha).elim (hlt a) (λq=>by rw[bm.1 q];exact hdb),Hv hL hv hxd hyd ω,by rw[show iD (L++[dn])=iD L++[(dn:Int)] by simp[iD]];exact hO2⟩ Qs
   ·refine Ah<|Ab<|Ad<|Qm Y<|Qm Y<|Ay [_] Y AZ Bk Y (by rfl) Y Y ω Y Y Y<|λg37=>?_;obtain⟨dn,hdn⟩:∃dn:Nat,(xd:Int)-c-yd=(dn:Int):=⟨(xd-c-yd),ω⟩
    have hdb:dn<65536:=ω
    rw[hdn];refine AJ 1 hO (RdL.one A8 (x:=(dn:Int)) Mh Y) Y AZ Bk Y ω Y Y Y BT (by simp only[ab];omega) (by simp only[ab];omega) rfl rfl rfl<|λw2 mo2 hO2=>?_;have ow2:=hO2.o1;refine Qm Y<|An<|Ai<|Ab<|Ad<|Qm Y<|Qx (oA Y) Y<|Qm Y<|An<|AQ ?_;exact Ao (n-(i+1)) _ ω ⟨i+1,0,w2,mo2,L++[dn],Y,Y,Y,Y,ω,by decide,by simp[hL],λa ha=>(bj.1 ha).elim (hlt a) (λq=>by rw[bm.1 q];exact hdb),Hv hL hv hxd hyd ω,by rw[show iD (L++[dn])=iD L++[(dn:Int)] by simp[iD]];exact hO2⟩ Qs
  ·have hyd0:yd=0:=by rw[<-hyd];exact JI ω
   refine Ah<|Ab<|Ar<|Qm Y<|Am<|Ac<|Ar<|Qm Y<|Qm Y<|Am ?_;refine Aw Y (λhneg=>?_)<|λhneg=>?_
   ·refine Ac<|Ad<|Qm Y<|Qx (oA Y) Y<|Qm Y<|GX<|Qm Y<|GX<|Qm Y<|Qm Y<|Ay [_] Y AZ Bk Y (by rfl) Y Y ω Y Y Y<|λg37=>?_;obtain⟨dn,hdn⟩:∃dn:Nat,(xd:Int)-c+65536=(dn:Int):=⟨(xd+65536-c-yd),ω⟩
    have hdb:dn<65536:=ω
    rw[hdn];refine AJ 1 hO (RdL.one A8 (x:=(dn:Int)) Mh Y) Y AZ Bk Y ω Y Y Y BT (by simp only[ab];omega) (by simp only[ab];omega) rfl rfl rfl<|λw2 mo2 hO2=>?_;have ow2:=hO2.o1;refine Qm Y<|An<|Ai<|Ab<|Ad<|Qm Y<|Qx (oA Y) Y<|Qm Y<|An<|AQ ?_;exact Ao (n-(i+1)) _ ω ⟨i+1,1,w2,mo2,L++[dn],Y,Y,Y,Y,ω,by decide,by simp[hL],λa ha=>(bj.1 ha).elim (hlt a) (λq=>by rw[bm.1 q];exact hdb),Hv hL hv hxd hyd ω,by rw[show iD (L++[dn])=iD L++[(dn:Int)] by simp[iD]];exact hO2⟩ Qs
   ·refine Ah<|Ab<|Ad<|Qm Y<|Qm Y<|Ay [_] Y AZ Bk Y (by rfl) Y Y ω Y Y Y<|λg37=>?_;obtain⟨dn,hdn⟩:∃dn:Nat,(xd:Int)-c=(dn:Int):=⟨(xd-c-yd),ω⟩
    have hdb:dn<65536:=ω
    rw[hdn];refine AJ 1 hO (RdL.one A8 (x:=(dn:Int)) Mh Y) Y AZ Bk Y ω Y Y Y BT (by simp only[ab];omega) (by simp only[ab];omega) rfl rfl rfl<|λw2 mo2 hO2=>?_;have ow2:=hO2.o1;refine Qm Y<|An<|Ai<|Ab<|Ad<|Qm Y<|Qx (oA Y) Y<|Qm Y<|An<|AQ ?_;exact Ao (n-(i+1)) _ ω ⟨i+1,0,w2,mo2,L++[dn],Y,Y,Y,Y,ω,by decide,by simp[hL],λa ha=>(bj.1 ha).elim (hlt a) (λq=>by rw[bm.1 q];exact hdb),Hv hL hv hxd hyd ω,by rw[show iD (L++[dn])=iD L++[(dn:Int)] by simp[iD]];exact hO2⟩ Qs
 ·obtain rfl:i=n:=ω
  have hxm:x%65536^i=x:=db ((BQ (b:=65536) δ i x).1 ω);have hym:y%65536^i=y:=db (Nat.lt_of_le_of_lt hxy ((BQ (b:=65536) δ i x).1 ω));have hLv:val 65536 L<65536^i:=by rw[<-hL];exact Jm δ hlt
  have hc0:c=0:=by
   rcases (ω:c=0\/c=1) with e|e
   ·exact e
   ·rw[hxm,hym,e,fp]at hv;omega
  have hval:val 65536 L=x-y:=by rw[hxm,hym,hc0,Nat.zero_mul]at hv;omega
  have hst:De L=dg 65536 (x-y):=by rw[C0 δ hlt,hval]
  refine Ax<|Aa<|Aa<|Af<|Ab<|Ar<|Qm Y<|Bt hO λh2 l2 hR=>Qc call125 Y (HJ w L h2 hR ω)<|λr h3 ms3 l3 hF=>?_;obtain⟨rfl,rfl,RT⟩:=hF;rw[hst]at RT;have or_:=RT.rd.one;refine Qm Y<|Am<|Aj ?_;exact Al Y Y (⟨l2,Y,RT⟩)
theorem Iy{L:List Nat}{x y i c c' xd yd d:Nat}(hL:L.length=i)(hv:val 65536 L+c*65536^i=x%65536^i+y%65536^i)(hxd:x/65536^i%65536=xd)(hyd:y/65536^i%65536=yd)(hd:d+c'*65536=c+xd+yd) :
  val 65536 (L++[d])+c'*65536^(i+1)=x%65536^(i+1)+y%65536^(i+1):=by
 rw[Ee,hL,Nat.pow_succ,Nat.mod_mul,Nat.mod_mul,hxd,hyd];obtain⟨P,hP⟩:∃P,65536^i=P:=⟨_,Y⟩
 rw[hP]at hv ⊢;have h1:=aw (P*·) hd;simp only[Nat.mul_add]at h1;show val 65536 L+P*(d+65536*0)+_=_;rw[Nat.mul_zero,Nat.add_zero];have h2:c'*(P*65536)=P*(c'*65536):=by rw[Nat.mul_left_comm]
 have h3:c*P=P*c:=dw _ _;omega
theorem QG(va vb:Value)(x y:Nat)(h:Hp)(RA:RdL cI 1 h [] va (iD (dg 65536 x)))(RB:RdL cI 1 h [] vb (iD (dg 65536 y)))(hx:(dg 65536 x).length<=400000)(hy:(dg 65536 y).length<=400000):FnT Tryz.prog 65 #[va,vb] h [] (λr h' ms'=>h.le h'/\ms'=[]/\∃L:List Nat,RdL cI 1 h' [] r (iD L)/\(∀a∈L,a<65536)/\val 65536 L=x+y/\L.length<=800001):=by
 obtain⟨n,hn⟩:∃n,(dg 65536 x).length=n:=⟨_,Y⟩
 obtain⟨k,hk⟩:∃k,(dg 65536 y).length=k:=⟨_,Y⟩
 have rA:Rd h [] va 1 n ((iD (dg 65536 x)).flatMap cI):=by have:=RA.rd;rwa [BP,hn]at this
 have rB:Rd h [] vb 1 k ((iD (dg 65536 y)).flatMap cI):=by have:=RB.rd;rwa [BP,hk]at this
 have oa:=rA.one;have ob:=rB.one;refine Ap func65 ntmps65 Y Y<|λw0 hw0=>?_;simp only[AR];refine Ar<|Qm Y<|Bp<|Qm Y<|Bp<|Qm Y<|Am<|Ac<|Ar<|Qm Y<|Am<|Ag<|BV ?_;refine AB (λq sl h' ms'=>∃(i c:Nat) (w:Value) (mo:Hp) (L:List Nat),2*(n+k-i)+c=q/\sl=[(0,va),(1,vb),(5,w),(6,.w (c:Int)),(7,.w (i:Int))]/\h=h'/\ms'=[mo]/\i<=n+k+1/\c<=1/\L.length=i/\(∀a∈L,a<65536)/\val 65536 L+c*65536^i=x%65536^i+y%65536^i/\OwnL cI 1 3 mo w (iD L)/\(i=n+k+1->c=0)) (2*(n+k-0)+0) _ ⟨0,0,_,_,[],Y,Y,Y,Y,ω,by decide,Y,by simp,by simp[Nat.mod_one];rfl,OwnL.nil A8,λe=>rfl⟩ Qs ?_;rintro q sl h' ms' ⟨i,c,w,mo,L,rfl,rfl,rfl,rfl,hi,hc,hL,hlt,hv,hO,hlast⟩;have ow:=hO.o1;have hol:(iD L).length<=1000000:=by rw[BP];omega
 obtain⟨xd,hxd⟩:∃xd,x/65536^i%65536=xd:=⟨_,Y⟩
 obtain⟨yd,hyd⟩:∃yd,y/65536^i%65536=yd:=⟨_,Y⟩
 have hxb:xd<65536:=ω
 have hyb:yd<65536:=ω
 refine Ac<|Ar<|Qm Y<|Qm Y<|Qx (Aq rA.any Y AZ Y) Y<|Qm Y<|Qm Y ?_;refine AU (t:=13) Y (λha=>?_)<|λha=>?_
 ·have ha2:(i:Int)<n:=ω
  rcases Classical.em ((i:Int)<k) with hb2|hb2
  ·have cA:=EB RA (i:=i) ω;rw[hxd]at cA;have cB:=EB RB (i:=i) ω;rw[hyd]at cB;refine Qk Y<|Qk Y<|Qk Y<|Qk Y<|Qm Y<|Qm Y<|Qk Y<|Qk Y<|Qm Y<|Am<|AX Y<|Ah<|Ab<|Ac<|Ag<|Ar<|Qm Y<|Qm Y<|Am<|Ac<|Ar<|Qm Y<|Qm Y<|Qx (Aq rA.any Y AZ Y) Y<|Qm Y<|Am ?_;refine Aw Y (λhc=>?_)<|λhc=>ie (ha2) hc;refine Ad<|Qm Y<|Qm Y<|Qm Y<|Qx (BC (i) rA.any Y AZ Bk Y Y) Y<|Ql Y U3 (cA _)<|Qx (oA Y) Y<|Qm Y<|Am<|Ac<|Ar<|Qm Y<|Qm Y<|Qx (Aq rB.any Y AZ Y) Y<|Qm Y<|Am ?_;refine Aw Y (λhc=>?_)<|λhc=>ie (hb2) hc;refine Ad<|Qm Y<|Qm Y<|Qm Y<|Qx (BC (i) rB.any Y AZ Bk Y Y) Y<|Ql Y U3 (cB _)<|Qx (oA Y) Y<|Qm Y<|Bp<|Qm Y<|Qm Y<|Qx (C6 Y Y Y ω ω) Y<|Ay [_] Y AZ Bk Y (by rfl) Y Y ω Y Y Y<|λg49=>?_;obtain⟨s,hs⟩:∃s:Nat,c+xd+yd=s:=⟨_,Y⟩
   have hsI:(c:Int)+xd+yd=(s:Int):=ω
   rw[hsI];have q1:((s:Int)/65536)=((s/65536:Nat):Int):=ω
   have q2:((s:Int)%65536)=((s%65536:Nat):Int):=ω
   refine AJ 1 hO (RdL.one A8 (x:=((s%65536:Nat):Int)) Mh Y) Y AZ Bk Y ω Y Y Y BT (by simp only[ab];omega) (by simp only[ab];omega) rfl rfl rfl<|λw2 mo2 hO2=>?_;have ow2:=hO2.o1;refine Qm Y<|GX<|Qm Y<|Qx (Dk (DC Y Y Y ω ω)<|aw (Value.int .i64) q1) Y<|Qm Y<|An<|Ai<|Ab<|Ad<|Qm Y<|Qx (oA Y) Y<|Qm Y<|An<|AQ ?_;exact Ao (2*(n+k-(i+1))+s/65536) _ ω ⟨i+1,s/65536,w2,mo2,L++[s%65536],Y,Y,Y,Y,ω,ω,by simp[hL],λa ha=>(bj.1 ha).elim (hlt a) (λq=>by rw[bm.1 q];exact Nat.mod_lt _ δ),Iy hL hv hxd hyd ω,by rw[show iD (L++[s%65536])=iD L++[((s%65536:Nat):Int)] by simp[iD]];exact hO2,ω⟩ Qs
  ·have cA:=EB RA (i:=i) ω;rw[hxd]at cA;have hyd0:yd=0:=by rw[<-hyd];exact JI ω
   refine Qk Y<|Qk Y<|Qk Y<|Qk Y<|Qm Y<|Qm Y<|Qk Y<|Qk Y<|Qm Y<|Am<|AX Y<|Ah<|Ab<|Ac<|Ag<|Ar<|Qm Y<|Qm Y<|Am<|Ac<|Ar<|Qm Y<|Qm Y<|Qx (Aq rA.any Y AZ Y) Y<|Qm Y<|Am ?_;refine Aw Y (λhc=>?_)<|λhc=>ie (ha2) hc;refine Ad<|Qm Y<|Qm Y<|Qm Y<|Qx (BC (i) rA.any Y AZ Bk Y Y) Y<|Ql Y U3 (cA _)<|Qx (oA Y) Y<|Qm Y<|Am<|Ac<|Ar<|Qm Y<|Qm Y<|Qx (Aq rB.any Y AZ Y) Y<|Qm Y<|Am<|Aw Y (λhc=>ie hc<|hb2)<|λhc=>Ah<|Ab<|Ar<|Qm Y<|Qm Y<|Qx (C6 Y Y Y ω ω) Y<|Ay [_] Y AZ Bk Y (by rfl) Y Y ω Y Y Y<|λg49=>?_;obtain⟨s,hs⟩:∃s:Nat,c+xd=s:=⟨_,Y⟩
   have hsI:(c:Int)+xd=(s:Int):=ω
   rw[hsI];have q1:((s:Int)/65536)=((s/65536:Nat):Int):=ω
   have q2:((s:Int)%65536)=((s%65536:Nat):Int):=ω
   refine AJ 1 hO (RdL.one A8 (x:=((s%65536:Nat):Int)) Mh Y) Y AZ Bk Y ω Y Y Y BT (by simp only[ab];omega) (by simp only[ab];omega) rfl rfl rfl<|λw2 mo2 hO2=>?_;have ow2:=hO2.o1;refine Qm Y<|GX<|Qm Y<|Qx (Dk (DC Y Y Y ω ω)<|aw (Value.int .i64) q1) Y<|Qm Y<|An<|Ai<|Ab<|Ad<|Qm Y<|Qx (oA Y) Y<|Qm Y<|An<|AQ ?_;exact Ao (2*(n+k-(i+1))+s/65536) _ ω ⟨i+1,s/65536,w2,mo2,L++[s%65536],Y,Y,Y,Y,ω,ω,by simp[hL],λa ha=>(bj.1 ha).elim (hlt a) (λq=>by rw[bm.1 q];exact Nat.mod_lt _ δ),Iy hL hv hxd hyd ω,by rw[show iD (L++[s%65536])=iD L++[((s%65536:Nat):Int)] by simp[iD]];exact hO2,ω⟩ Qs
 ·have ha2:¬(i:Int)<n:=ω
  refine Qg (Au Y Y) Y<|Qg (Au Y Y) Y<|Qg (Aq rB.any Y AZ Y) Y<|Qg (Dy Y Y Y) Y<|Qm Y<|Qm Y ?_;refine AU (t:=19) Y (λhb=>?_)<|λhb=>?_
  ·have hb2:(i:Int)<k:=ω
   have hxd0:xd=0:=by rw[<-hxd];exact JI ω
   have cB:=EB RB (i:=i) ω;rw[hyd]at cB;refine Qk Y<|Qk Y<|Qm Y<|Am<|AX Y<|Ah<|Ab<|Ac<|Ag<|Ar<|Qm Y<|Qm Y<|Am<|Ac<|Ar<|Qm Y<|Qm Y<|Qx (Aq rA.any Y AZ Y) Y<|Qm Y<|Am<|Aw Y (λhc=>ie hc<|ha2)<|λhc=>Ah<|Ab<|Ac<|Ar<|Qm Y<|Qm Y<|Qx (Aq rB.any Y AZ Y) Y<|Qm Y<|Am ?_;refine Aw Y (λhc=>?_)<|λhc=>ie (hb2) hc;refine Ad<|Qm Y<|Qm Y<|Qm Y<|Qx (BC (i) rB.any Y AZ Bk Y Y) Y<|Ql Y U3 (cB _)<|Qx (oA Y) Y<|Qm Y<|Bp<|Qm Y<|Qm Y<|Qx (C6 Y Y Y ω ω) Y<|Ay [_] Y AZ Bk Y (by rfl) Y Y ω Y Y Y<|λg49=>?_;obtain⟨s,hs⟩:∃s:Nat,c+yd=s:=⟨_,Y⟩
   have hsI:(c:Int)+yd=(s:Int):=ω
   rw[hsI];have q1:((s:Int)/65536)=((s/65536:Nat):Int):=ω
   have q2:((s:Int)%65536)=((s%65536:Nat):Int):=ω
   refine AJ 1 hO (RdL.one A8 (x:=((s%65536:Nat):Int)) Mh Y) Y AZ Bk Y ω Y Y Y BT (by simp only[ab];omega) (by simp only[ab];omega) rfl rfl rfl<|λw2 mo2 hO2=>?_;have ow2:=hO2.o1;refine Qm Y<|GX<|Qm Y<|Qx (Dk (DC Y Y Y ω ω)<|aw (Value.int .i64) q1) Y<|Qm Y<|An<|Ai<|Ab<|Ad<|Qm Y<|Qx (oA Y) Y<|Qm Y<|An<|AQ ?_;exact Ao (2*(n+k-(i+1))+s/65536) _ ω ⟨i+1,s/65536,w2,mo2,L++[s%65536],Y,Y,Y,Y,ω,ω,by simp[hL],λa ha=>(bj.1 ha).elim (hlt a) (λq=>by rw[bm.1 q];exact Nat.mod_lt _ δ),Iy hL hv hxd hyd ω,by rw[show iD (L++[s%65536])=iD L++[((s%65536:Nat):Int)] by simp[iD]];exact hO2,ω⟩ Qs
  ·have hb2:¬(i:Int)<k:=ω
   have hxd0:xd=0:=by rw[<-hxd];exact JI ω
   have hyd0:yd=0:=by rw[<-hyd];exact JI ω
   refine Qg (Au Y Y) Y<|Qg (Ci Y Y Y) Y<|Qm Y<|Am ?_;refine Aw Y (λhcc=>?_)<|λhcc=>?_
   ·refine Ah<|Ab<|Ac<|Ag<|Ar<|Qm Y<|Qm Y<|Am<|Ac<|Ar<|Qm Y<|Qm Y<|Qx (Aq rA.any Y AZ Y) Y<|Qm Y<|Am<|Aw Y (λhc=>ie hc<|ha2)<|λhc=>Ah<|Ab<|Ac<|Ar<|Qm Y<|Qm Y<|Qx (Aq rB.any Y AZ Y) Y<|Qm Y<|Am<|Aw Y (λhc=>ie hc<|hb2)<|λhc=>Ah<|Ab<|Ar<|Qm Y<|Qm Y<|Qx (C6 Y Y Y ω ω) Y<|Ay [_] Y AZ Bk Y (by rfl) Y Y ω Y Y Y<|λg49=>?_;obtain⟨s,hs⟩:∃s:Nat,c=s:=⟨_,Y⟩
    have hsI:(c:Int)=(s:Int):=ω
    rw[hsI];have q1:((s:Int)/65536)=((s/65536:Nat):Int):=ω
    have q2:((s:Int)%65536)=((s%65536:Nat):Int):=ω
    refine AJ 1 hO (RdL.one A8 (x:=((s%65536:Nat):Int)) Mh Y) Y AZ Bk Y ω Y Y Y BT (by simp only[ab];omega) (by simp only[ab];omega) rfl rfl rfl<|λw2 mo2 hO2=>?_;have ow2:=hO2.o1;refine Qm Y<|GX<|Qm Y<|Qx (Dk (DC Y Y Y ω ω)<|aw (Value.int .i64) q1) Y<|Qm Y<|An<|Ai<|Ab<|Ad<|Qm Y<|Qx (oA Y) Y<|Qm Y<|An<|AQ ?_;exact Ao (2*(n+k-(i+1))+s/65536) _ ω ⟨i+1,s/65536,w2,mo2,L++[s%65536],Y,Y,Y,Y,ω,ω,by simp[hL],λa ha=>(bj.1 ha).elim (hlt a) (λq=>by rw[bm.1 q];exact Nat.mod_lt _ δ),Iy hL hv hxd hyd ω,by rw[show iD (L++[s%65536])=iD L++[((s%65536:Nat):Int)] by simp[iD]];exact hO2,ω⟩ Qs
   ·have hc0:c=0:=ω
    have hxm:x%65536^i=x:=db ((BQ (b:=65536) δ i x).1 ω);have hym:y%65536^i=y:=db ((BQ (b:=65536) δ i y).1 ω);rw[hxm,hym,hc0,Nat.zero_mul,Nat.add_zero]at hv;refine Ax<|Aa<|Aa<|Af<|Ab<|Ar<|Qm Y<|Qm Y<|Am<|Aj<|Dg hO λh2 l2 hR=>?_;exact Al Y Y (⟨l2,Y,L,hR,hlt,hv,ω⟩)
theorem Sz.d16{x:Int}(h:Sz x):(dg 65536 x.natAbs).length<=400000:=by have h1:=(BQ (b:=256) δ (A7 x.natAbs).length x.natAbs).1 (by rw[<-EV];exact am _);refine bl ((BQ (b:=65536) δ (A7 x.natAbs).length x.natAbs).2<|b6 h1<|Nat.pow_le_pow_left δ _) h
theorem Hn(m:Nat):∀a∈dg 65536 m,a<65536:=Fv δ m
theorem Kv(a b:Int)(ha:Sz a)(hb:Sz b)(h:Hp)(ms:List Hp):FnV Tryz.prog 22 #[WD a,WD b] h ms (WD (a+b)):=by
 refine DY (FnT.mono (post:=λr h' ms'=>h.le h'/\ms'=[]/\r=WD (a+b)) ?_ λ_ _ _ q=>q.2.2) ms;have osa:(sv (A7 a.natAbs)).oneCell'=true:=rfl;have osb:(sv (A7 b.natAbs)).oneCell'=true:=rfl;have osr:(sv (A7 (a+b).natAbs)).oneCell'=true:=rfl;have la:=ha.d16;have lb:=hb.d16;refine Ap func22 ntmps22 Y Y<|λw0 hw0=>?_;simp only[AR];refine Ar<|AK [_,_] Y Y (by rfl) Y Y Y<|λg2=>AK [_,_] Y Y (by rfl) Y Y Y<|λg3=>BS [.bool false,.es] Y Az Y Y<|λg4=>Am<|Av 1 Y λh1 l1 hS3=>Av 1 Y λh2 l2 hS2=>?_;have l02:=AD l1 l2;have s2:∀h',h2.le h'->∀ms,Seg h' ms (⟨g2,0,none⟩:Addr) (Bi a):=λh' q ms=>(hS2.any).le q;have s3:∀h',h2.le h'->∀ms,Seg h' ms (⟨g3,0,none⟩:Addr) (Bi b):=λh' q ms=>((hS3.le l2).any).le q;have c2:∀h',h2.le h'->∀ms,Cell h' ms ((⟨g2,0,none⟩:Addr).add 0) (.bool (decide (a<0))):=λh' q ms=>((hS2 0 _ Y).any).le q;have c3:∀h',h2.le h'->∀ms,Cell h' ms ((⟨g3,0,none⟩:Addr).add 0) (.bool (decide (b<0))):=λh' q ms=>(((hS3.le l2) 0 _ Y).any).le q;refine Ar<|Qx (oG Y By Az<|s2 _ (BE) _) Y<|Qc call63 Y (EK a ha h2)<|λva h3 ms3 l3 hF=>?_;obtain⟨l3',rfl,RA⟩:=hF;refine Qm Y<|Bp<|Qx (oG Y By Az<|s3 _ l3' _) Y<|Qc call63 Y (EK b hb h3)<|λvb h4 ms4 l4 hF=>?_;obtain⟨l4',rfl,RB⟩:=hF;have RA:=RA.up l4';have l24:=AD l3' l4';have l04:=AD l02 l24;have oa:=RA.rd.one;have ob:=RB.rd.one;refine Qm Y<|Am<|Ac<|Ar<|Qf C4 Y<|Ql Y U4 (c2 _ l24 _)<|Qf C4 Y<|Ql Y U4 (c3 _ l24 _)<|Qx (Kj Y U4 Y Y) Y<|Am ?_;refine Aw Y (λhsg=>?_)<|λhsg=>?_
 ·have hsg':a<0<->b<0:=fa.1 hsg
  have hW:WS (decide (a<0)) (a.natAbs+b.natAbs)=WD (a+b):=by rw[show a.natAbs+b.natAbs=(a+b).natAbs by omega];exact Mj λhne=>fa.2 ω
  refine Ac<|AS (n:=7) (bs:=[ig,ig,ig,ig,ii,ii,ii]) [ig,ig,ig,ig] CC κ κ Y Y<|QF C4 Y<|QL Y U4 (c2 _ l24 _)<|Qq Y<|Qq Y ?_;unfold Dd;simp only[bh,ap];refine Qo 4 Y<|AC (pre:=[]) Y call65 Y (QG va vb a.natAbs b.natAbs h4 RA RB la lb) Y Y Y Y<|λvp h5 ms5 l5 hF=>?_;obtain⟨l5',rfl,L,RL,hLl,hLv,hLn⟩:=hF;have op:=RL.rd.one;refine Qa<|Qo 5 Y<|AC (pre:=[]) Y call64 Y (Fl (decide<|a<0) vp L (a.natAbs+b.natAbs) h5 RL ω hLl hLv) Y Y Y Y<|λvw h6 ms6 l6 hF=>?_;obtain⟨l6',rfl,rfl⟩:=hF;have l46:=AD l5' l6';rw[hW];refine Qa<|Qo 6 Y ?_;refine Sa 0 [_,_] Az Y (by simp[osa,osb,osr,B8,oa,ob]) ?_;refine Qa<|Qe<|Ab<|Aj<|Ae ?_;exact Bx (vs:=[_,_]) 0 Y Y By Y Az Y Y (⟨AD l04 l46,Y,Y⟩)
 ·have hsg':¬(a<0<->b<0):=λe=>hsg (fa.2 e);refine Ah<|Ab<|Ac<|Ar<|Qm Y<|Qm Y<|Qx (As Y call66 Y<|Jv va vb a.natAbs b.natAbs h4 RA RB ω ω _) Y<|Qm Y<|Am ?_;refine Aw Y (λhge=>?_)<|λhge=>?_
  ·have hge':b.natAbs<=a.natAbs:=by
    unfold KN at hge;by_cases q:a.natAbs<b.natAbs
    ·rw[ah q]at hge;omega
    ·omega
   have hW:WS (decide (a<0)) (a.natAbs-b.natAbs)=WD (a+b):=by rw[show a.natAbs-b.natAbs=(a+b).natAbs by omega];exact Mj λhne=>fa.2 ω
   refine Ac<|AS (n:=7) (bs:=[ig,ig,ig,ig,ii,ii,ii]) [ig,ig,ig,ig] CC κ κ Y Y<|QF C4 Y<|QL Y U4 (c2 _ l24 _)<|Qq Y<|Qq Y ?_;unfold Dd;simp only[bh,ap];refine Qo 4 Y<|AC (pre:=[]) Y call67 Y (IB va vb a.natAbs b.natAbs h4 RA RB ω ω hge') Y Y Y Y<|λvp h5 ms5 l5 hF=>?_;obtain⟨l5',rfl,RL⟩:=hF;have op:=RL.rd.one;refine Qa<|Qo 5 Y ?_;refine AC (pre:=[]) Y call64 Y (Fl (decide<|a<0) vp _ (a.natAbs-b.natAbs) h5 RL (by have:=DJ (b:=65536) δ (show a.natAbs-b.natAbs<=a.natAbs by omega);omega) (Hn _)<|F5 δ _) Y Y Y Y<|λvw h6 ms6 l6 hF=>?_;obtain⟨l6',rfl,rfl⟩:=hF;have l46:=AD l5' l6';rw[hW];refine Qa<|Qo 6 Y ?_;refine Sa 0 [_,_] Az Y (by simp[osa,osb,osr,B8,oa,ob]) ?_;refine Qa<|Qe<|Ab<|Aj<|Ae ?_;exact Bx (vs:=[_,_]) 0 Y Y By Y Az Y Y (⟨AD l04 l46,Y,Y⟩)
  ·have hge':a.natAbs<b.natAbs:=by
    unfold KN at hge;by_cases q:a.natAbs<b.natAbs
    ·exact q
    ·rw[ae q]at hge;split at hge<;>omega
   have hW:WS (decide (b<0)) (b.natAbs-a.natAbs)=WD (a+b):=by rw[show b.natAbs-a.natAbs=(a+b).natAbs by omega];exact Mj λhne=>fa.2 ω
   refine Ah<|Ab<|Ac<|AS (n:=7) (bs:=[ig,ig,ig,ig,ii,ii,ii]) [ig,ig,ig,ig] CC κ κ Y Y<|QF C4 Y<|QL Y U4 (c3 _ l24 _)<|Qq Y<|Qq Y ?_;unfold Dd;simp only[bh,ap];refine Qo 4 Y<|AC (pre:=[]) Y call67 Y (IB vb va b.natAbs a.natAbs h4 RB RA ω ω ω) Y Y Y Y<|λvp h5 ms5 l5 hF=>?_;obtain⟨l5',rfl,RL⟩:=hF;have op:=RL.rd.one;refine Qa<|Qo 5 Y ?_;refine AC (pre:=[]) Y call64 Y (Fl (decide<|b<0) vp _ (b.natAbs-a.natAbs) h5 RL (by have:=DJ (b:=65536) δ (show b.natAbs-a.natAbs<=b.natAbs by omega);omega) (Hn _)<|F5 δ _) Y Y Y Y<|λvw h6 ms6 l6 hF=>?_;obtain⟨l6',rfl,rfl⟩:=hF;have l46:=AD l5' l6';rw[hW];refine Qa<|Qo 6 Y ?_;refine Sa 0 [_,_] Az Y (by simp[osa,osb,osr,B8,oa,ob]) ?_;refine Qa<|Qe<|Ab<|Aj ?_;exact Bx (vs:=[_,_]) 0 Y Y By Y Az Y Y (⟨AD l04 l46,Y,Y⟩)
end
end Go.Proofs.Q