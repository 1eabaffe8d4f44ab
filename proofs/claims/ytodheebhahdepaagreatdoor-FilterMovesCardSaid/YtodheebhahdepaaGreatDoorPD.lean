/- A part of the proof. -/
import Derived.Test.YtodheebhahdepaaGreatDoorPC
set_option linter.unusedSimpArgs false
set_option linter.unusedVariables false
set_option linter.unusedSectionVars false
set_option maxRecDepth 100000
set_option maxHeartbeats 4000000
open List (length_map length_singleton getElem_mem range length_append nil_append length_take mem_cons mem_singleton cons_append map_append mem_append mem_cons_of_mem length_nil length_drop append_nil map_map map_cons length_set getElem_of_mem take_length append_assoc flatMap_cons length_cons mem_append_left mem_append_right length_range range_succ foldl_append getElem_append_right flatMap_map sum_cons mem_of_mem_take)
namespace Go.Proofs.Q
open Go.Proofs.Tryz
open Go.Eng Go.RowKit
variable {es:List Value}
theorem RdEs.nil(h:Hp):RdEs h [] []:=⟨rfl,fun i h1=>absurd h1 (by simp)⟩
theorem F0(H:∀u∈es,u.oneCell'=true):∀a∈es,∀c∈cW a,c.oneCell'=true:=fun a ha c hc=>by rw[List.mem_singleton.1 hc];exact H a ha
theorem LU{e:Entry}{Q:Exit->Act->World->Prop}{ops:Array Oper}{r:List Oper}{s:Aw}{ms:List Hp}:∀(pre:List Hp) (h:Hp),(∀h',h.le h'->(∀m∈pre,m.le h')->WL e ops Q r s h' ms)->WL e ops Q r s h (pre++ms)
 | [],h,k=>k h (DS) (fun m hm=>by cases hm)
 | m::pre,h,k=>AE fun h1 l1 k1=>LU pre h1 fun h2 l2 k2=>k h2 (AH l1 l2) fun m' hm=>by
  rcases List.mem_cons.1 hm with rfl|hm
  ·exact AH k1 l2
  ·exact k2 m' hm
def SO(all:List (List Int)):Option (List Int)->List (List Int)
 | some s=>Ct all s (2^s.length-1)
 | none=>all
theorem Dd(all:List (List Int))(l:List Int)(ll:List (List Int)):Cf all (l::ll)=if 4000<(SO all (DG [] l)).length then none else Cf (SO all (DG [] l)) ll:=by show(let a2:=match DG [] l with|some s=>Ct all s (2^s.length-1)|none=>all;if 4000<a2.length then none else Cf a2 ll)=_;cases DG [] l<;>rfl
theorem RN{r:Value}{ms:List Hp}{o:Option (List Int)}(H:ZY r ms o)(h9:∀s,o=some s->s.length<=9):∃(vs:Value) (s:List Int) (b:Bool),r=.tuple #[vs,.bool b]/\((∀h,(∀m∈ms,m.le h)->RdL cI 1 h [] vs s)/\s.length<=9)/\∀all,SO all o=if b then Ct all s (2^s.length-1) else all:=by
 cases o with
 | none=>exact⟨_,[],false,H,⟨fun h _=>⟨Rd.nil _ _ _,Bo⟩,by simp⟩,fun all=>rfl⟩
 | some s=>
  obtain⟨v,m,rfl,e,O⟩:=H;exact⟨v,s,true,e,⟨fun h hm=>O.rdh (hm m Mh),h9 s rfl⟩,fun all=>rfl⟩
theorem H9:∀(l acc:List Int) (s:List Int),acc.length<=9->DG acc l=some s->s.length<=9
 | [],acc,s,h,e=>by have:acc=s:=Option.some.inj e;rw[<-this];exact h
 | x::l,acc,s,h,e=>by
  unfold DG at e;split at e
  ·exact H9 l acc s h e
  ·split at e
   ·cases e
   ·exact H9 l _ s (by omega) e
theorem RdEs.ones{h:Hp}{ll:List (List Int)}(H:RdEs h es ll):∀u∈es,u.oneCell'=true:=fun u hu=>by obtain⟨i,hi,rfl⟩:=List.mem_iff_getElem.1 hu;exact(H.2 i hi (by have:=H.1;omega)).rd.one
theorem RdEs.ins{h:Hp}{ll:List (List Int)}(H:RdEs h es ll){v:Value}{t:List Int}(hv:RdL cI 1 h [] v t)(k:Nat)(hk:k<=ll.length):RdEs h (es.take k++v::es.drop k) (ll.take k++t::ll.drop k):=by
 have hl:=H.1;refine⟨by simp[hl],fun i h1 h2=>?_⟩;rcases Nat.lt_trichotomy i k with h3|h3|h3
 ·rw[List.getElem_append_left (by rw[length_take];omega),List.getElem_append_left (by rw[length_take];omega),List.getElem_take,List.getElem_take];exact H.2 i (by omega) (by omega)
 ·subst h3;rw[getElem_append_right (by rw[length_take];omega),getElem_append_right (by rw[length_take];omega)];have e1:i-(es.take i).length=0:=by rw[length_take];omega
  have e2:i-(ll.take i).length=0:=by rw[length_take];omega
  simp only[e1,e2,List.getElem_cons_zero];exact hv
 ·rw[length_append,length_cons,length_take,length_drop]at h1 h2;rw[getElem_append_right (by rw[length_take];omega),getElem_append_right (by rw[length_take];omega)];have e1:i-(es.take k).length=(i-k-1)+1:=by rw[length_take];omega
  have e2:i-(ll.take k).length=(i-k-1)+1:=by rw[length_take];omega
  simp only[e1,e2,List.getElem_cons_succ,List.getElem_drop];have e3:k+(i-k-1)=i-1:=by omega
  simp only[e3];exact H.2 (i-1) (by omega) (by omega)
theorem Hx{all:List (List Int)}(H:SrtB all)(s:List Int):∀n,∀t,t∈Ct all s n<->t∈all\/∃b,1<=b/\b<=n/\t=DZ s b s.length
 | 0,t=>⟨.inl,fun h=>by rcases h with h|⟨b,h1,h2,_⟩;exact h;omega⟩
 | n+1,t=>by
  show t∈HD (Ct all s n) (DZ s (n+1) s.length)<->_;rw[(NH (D9 H s n) _).2 t,Hx H s n t];constructor
  ·rintro(h|h|⟨b,h1,h2,h3⟩)
   ·exact .inr ⟨n+1,by omega,by omega,h⟩
   ·exact .inl h
   ·exact .inr ⟨b,h1,by omega,h3⟩
  ·rintro(h|⟨b,h1,h2,h3⟩)
   ·exact .inr (.inl h)
   ·rcases (by omega:b<=n\/b=n+1) with h4|rfl
    ·exact .inr (.inr ⟨b,h1,h4,h3⟩)
    ·exact .inl h3
theorem Nh(s:List Int)(b n:Nat):(DZ s b n).length<=n:=by unfold DZ;rw[length_map];exact Nat.le_trans (List.length_filter_le _ _) (by simp)
theorem EJ:∀(ll acc all:List (List Int)),SrtB acc->(∀t∈acc,t.length<=9)->Cf acc ll=some all->∀t∈all,t.length<=9
 | [],acc,all,_,h,e=>by have:acc=all:=Option.some.inj e;rw[<-this];exact h
 | l::ll,acc,all,hS,h,e=>by
  rw[Dd]at e;split at e
  ·cases e
  ·refine EJ ll _ all ?_ ?_ e
   ·cases DG [] l with
    | none=>exact hS
    | some s=>exact D9 hS s _
   ·cases hs:DG [] l with
    | none=>exact h
    | some s=>
     intro t ht;rcases (Hx hS s _ t).1 ht with h1|⟨b,_,_,rfl⟩
     ·exact h t h1
     ·exact Nat.le_trans (Nh _ _ _) (H9 _ _ s (by simp) hs)
def N0(all:List (List Int))(S:List Int)(k:Nat):List (Int×Int):=(range k).map fun k=>(((CG all (S.eraseIdx k)).1:Int)+1,1-2*((k:Int)%2))
theorem Sj(all:List (List Int))(S:List Int)(k:Nat):N0 all S (k+1)=N0 all S k++[(((CG all (S.eraseIdx k)).1:Int)+1,1-2*((k:Int)%2))]:=by unfold N0;rw[range_succ,map_append];rfl
theorem HX(all:List (List Int))(S:List Int)(k:Nat):(N0 all S k).length=k:=by simp[N0]
theorem Hm(ll:List (List Int))(es0:List Value)(v:Value)(h:Hp)(hn:ll.length<=100000)(hn2:∀l∈ll,l.length<=100000)(hV:RdL cW 1 h [] v es0)(hE:RdEs h es0 ll):FnT Tryz.prog 104 #[v] h [] (fun r h' ms'=>h.le h'/\∃m A v',ms'=[m]/\r=.agg #[v']/\OwnL cC 3 52 m v' A/\A.map Ce.c=DX ll/\∀a∈A,RdL cD 2 h' [] a.v a.c.sd):=by
 have o1:=hV.rd.one;have hle:=hE.1;refine Aq func104 ntmps104 rfl rfl (fun w0 hw0=>?_);simp only[AV];refine Au (CJ [.slice none 0 0] rfl AS rfl rfl (fun g2=>BG (Qm rfl (Am (Ac (Au (Qm rfl (Am (Af (By ?_))))))))))
 refine Ax (fun q s hh ms'=>∃(i:Nat) (v3:Value) (m3:Hp) (es:List Value) (all:List (List Int)),q=ll.length-i/\s=[(0,v),(2,.pointer (some ⟨g2,0,none⟩)),(3,v3),(4,.int .i64 i)]/\h.le hh/\ms'=[m3,Be g2 29 [.slice none 0 0]]/\i<=ll.length/\OwnL cW 1 22 m3 v3 es/\RdEs hh es all/\SrtB all/\all.length<=4000/\Cf [] ll=Cf all (ll.drop i))
  (ll.length-0) _ ⟨0,_,Hp.emp,[],[],rfl,rfl,DS,rfl,by omega,OwnL.nil Di,RdEs.nil _,List.Pairwise.nil,by simp,rfl⟩ Qs ?_
 rintro q s hh ms' ⟨i,v3,m3,es,all,rfl,rfl,lh,rfl,hi,hO,hEs,hSrt,hal,he⟩;have hV:=hV.up lh;have hE:=hE.up lh;refine Ac (Au (Qm rfl (Qm rfl (Qx (Ap hV.rd.any rfl B9 rfl) rfl (Qm rfl (Am ?_))))));refine Av rfl (fun hlt=>?_) (fun hlt=>?_)
 ·have hil:i<ll.length:=by omega
  have hie:i<es0.length:=by omega
  have hci:∀ms,Cell hh ms ((AF v).add (i*1)) es0[i]:=fun ms=>(hV.any (ms:=ms)).cell0 hie rfl;have oei:=(hE.2 i hie hil).rd.one;have hd:Cf all (ll.drop i)=if 4000<(SO all (DG [] ll[i])).length then none else Cf (SO all (DG [] ll[i])) (ll.drop (i+1)):=by rw[List.drop_eq_getElem_cons hil,Dd]
  have ov3:=hO.o1;refine Ag (Ab (Ac (Af (Au (Qm rfl (Qm rfl (Qx (BT (i) hV.rd.any rfl B9 Cc rfl rfl) rfl (Ql rfl AU (hci _) (Qc call168 rfl (Y5 ll[i] es0[i] hh (hn2 _ (getElem_mem hil)) (hE.2 i hie hil)) (fun rs h2 ms2 l2 hF=>?_))))))))));obtain⟨rfl,hF⟩:=hF;have hsl:∀s,DG [] ll[i]=some s->s.length<=9:=fun s e=>H9 _ _ s (by simp) e;obtain⟨vs,s,b,rfl,hRs,hmt⟩:=RN hF hsl;refine LU ms2 hh fun h3 l3 k3=>?_;obtain⟨hRs,hs9⟩:=hRs;have hRs:=hRs h3 k3;have hEs:=hEs.up l3;have ovs:=hRs.rd.one;refine Qm rfl (Qm rfl (Qm rfl (Qm rfl (Qm rfl (Am ?_)))));obtain⟨P,hP⟩:∃P,2^s.length=P:=⟨_,rfl⟩
  have hP1:1<=P:=by rw[<-hP];exact Nat.one_le_two_pow
  have hP2:P<=512:=by rw[<-hP];exact Nat.pow_le_pow_right (n:=2) (by decide) hs9
  refine Bd (fun sl h' ms'=>∃(v3:Value) (m3:Hp) (es:List Value) (A:List (List Int)),sl=[(0,v),(2,.pointer (some ⟨g2,0,none⟩)),(3,v3),(4,.int .i64 i)]/\h3.le h'/\ms'=[m3,Be g2 29 [.slice none 0 0]]/\OwnL cW 1 22 m3 v3 es/\RdEs h' es A/\SrtB A/\A.length<=4600/\A=(if b then Ct all s (P-1) else all)) ?_ (fun s h ms hI=>?_)
  ·refine Ac (Ad (Qm rfl (Am (Af ?_))))
   refine Ax (fun q sl h' ms'=>∃(n:Nat) (v3:Value) (m3:Hp) (es:List Value),q=P-1-n/\sl=[(0,v),(2,.pointer (some ⟨g2,0,none⟩)),(3,v3),(4,.int .i64 i),(5,vs),(6,.bool b),(7,.int .i64 ((n:Int)+1))]/\h3.le h'/\ms'=[m3,Be g2 29 [.slice none 0 0]]/\n<=P-1/\OwnL cW 1 22 m3 v3 es/\RdEs h' es (if b then Ct all s n else all))
    (P-1-0) _ ⟨0,v3,m3,es,rfl,rfl,DS,rfl,by omega,hO,by cases b<;>exact hEs⟩ Qs ?_
   rintro q sl h4 ms' ⟨n,v3,m3,es,rfl,rfl,l4,rfl,hnP,hO,hEs⟩;have hRs:=hRs.up l4;refine Ac (Au (Qm rfl (Qm rfl ?_)));refine LN (t:=35) rfl (fun hb=>?_) (fun hb=>?_)
   ·refine Qg (AA rfl rfl) rfl (Qg (AA rfl rfl) rfl (Qg (Ap hRs.rd.any rfl AU rfl) rfl (Qg (We rfl rfl rfl (by omega)) rfl (Qg (Db rfl rfl rfl) rfl (Qm rfl (Am ?_))))));refine Av rfl (fun hlt3=>?_) (fun hlt3=>?_)
    ·have hnl:n+1<P:=by rw[hP]at hlt3;omega
     subst hb;have hEs:RdEs h4 es (Ct all s n):=hEs;have ov3:=hO.o1;have ovs:=hRs.rd.one;have hfl:=F7 all s n;have hFs:=D9 hSrt s n;refine Ag (Ab ?_);refine Bd (fun sl h' ms'=>∃(v3:Value) (m3:Hp) (es:List Value),sl=[(0,v),(2,.pointer (some ⟨g2,0,none⟩)),(3,v3),(4,.int .i64 i),(5,vs),(6,.bool true),(7,.int .i64 ((n:Int)+1))]/\h4.le h'/\ms'=[m3,Be g2 29 [.slice none 0 0]]/\OwnL cW 1 22 m3 v3 es/\RdEs h' es (Ct all s (n+1))) ?_ (fun s h ms hI=>?_)
     ·refine Af (Au (Qm rfl (Am (By ?_))));refine Bd (fun sl h' ms'=>∃(v8:Value) (m8:Hp),sl=[(0,v),(2,.pointer (some ⟨g2,0,none⟩)),(3,v3),(4,.int .i64 i),(5,vs),(6,.bool true),(7,.int .i64 ((n:Int)+1)),(8,v8)]/\h4=h'/\ms'=[m8,m3,Be g2 29 [.slice none 0 0]]/\OwnL cI 1 3 m8 v8 (DZ s (n+1) s.length)) ?_ (fun s h ms hI=>?_)
      ·refine Ac (Ad (Qm rfl (Am (Af ?_))))
       refine Ax (fun q sl h' ms'=>∃(a:Nat) (v8:Value) (m8:Hp),q=s.length-a/\sl=[(0,v),(2,.pointer (some ⟨g2,0,none⟩)),(3,v3),(4,.int .i64 i),(5,vs),(6,.bool true),(7,.int .i64 ((n:Int)+1)),(8,v8),(9,.int .i64 a)]/\h4=h'/\ms'=[m8,m3,Be g2 29 [.slice none 0 0]]/\a<=s.length/\OwnL cI 1 3 m8 v8 (DZ s (n+1) a))
        (s.length-0) _ ⟨0,_,Hp.emp,rfl,rfl,rfl,rfl,by omega,OwnL.nil Bo⟩ Qs ?_
       rintro q sl h' ms' ⟨a,v8,m8,rfl,rfl,rfl,rfl,ha,hO8⟩;refine Ac (Au (Qm rfl (Qm rfl (Qx (Ap hRs.rd.any rfl AU rfl) rfl (Qm rfl (Am ?_))))));refine Av rfl (fun hla=>?_) (fun hla=>?_)
       ·have hsa:a<s.length:=by omega
        have hbit:(n+1).testBit a=decide ((n+1)/2^a%2=1):=by rw[Nat.testBit_eq_decide_div_mod_eq]
        have hsub:=G0 s (n+1) a;have hca:∀ms,Cell h4 ms ((AF vs).add (a*1)) (.int .i64 s[a]):=fun ms=>(hRs.any (ms:=ms)).cell0 hsa rfl;have hga:s.getD a 0=s[a]:=by simp[hsa]
        have ov8:=hO8.o1;have hl8:=Nh s (n+1) a;refine Ag (Ab (Ac (Af (Au (Qm rfl (Qm rfl (Qx (MF rfl (n:=a) (a:=n+1) rfl rfl (by omega)) rfl ?_)))))));refine Qx (Uf rfl rfl rfl (by have:=Nat.div_le_self (n+1) (2^a);omega)) rfl ?_;refine Qm rfl (Am ?_);refine Av rfl (fun hod=>?_) (fun hod=>?_)
        ·rw[hbit,decide_eq_true (by omega),if_pos rfl,hga]at hsub;refine Ad (Qm rfl (Qm rfl (Qm rfl (Qx (BT (a) hRs.rd.any rfl AU Bg rfl rfl) rfl (Ql rfl U3 (hca _) (Al [_] rfl AU Bg rfl (by rfl) rfl rfl (by omega) rfl rfl rfl (fun g60=>AP 1 hO8 (RdL.one Bo (x:=s[a]) Mh rfl) rfl AU Bg rfl (by omega) rfl rfl rfl Cn (by(try simp only[length_singleton]);omega) (by(try simp only[length_singleton]);omega) rfl rfl rfl (fun v9 m9 hO9=>?_))))))));rw[<-hsub]at hO9;refine Qm rfl (Aj (Ai (Ab (Ad (Qm rfl (Qx (oA rfl) rfl (Qm rfl (Aj (AL ?_)))))))));exact Ak (s.length-(a+1)) _ (by omega) ⟨a+1,v9,m9,rfl,rfl,rfl,rfl,by omega,hO9⟩ Qs
        ·rw[hbit,decide_eq_false (by omega),if_neg (by decide),append_nil]at hsub;refine Ag (Ai (Ab (Ad (Qm rfl (Qx (oA rfl) rfl (Qm rfl (Aj ?_)))))));exact Ak (s.length-(a+1)) _ (by omega) ⟨a+1,v8,m8,rfl,rfl,rfl,rfl,by omega,by rw[hsub];exact hO8⟩ Qs
       ·obtain rfl:a=s.length:=by omega
        refine As (Aa (Aa (Ae ?_)));exact AC _ ⟨v8,m8,rfl,rfl,rfl,hO8⟩ Qs
      ·obtain⟨v8,m8,rfl,rfl,rfl,hO8⟩:=hI;obtain⟨t,ht⟩:∃t,DZ s (n+1) s.length=t:=⟨_,rfl⟩
       obtain⟨A,hA⟩:∃A,Ct all s n=A:=⟨_,rfl⟩
       have hfs:Ct all s (n+1)=HD A t:=by rw[<-ht,<-hA];rfl
       rw[ht]at hO8;rw[hA]at hfl hFs hEs;refine Bc fun h5 l5 k5=>?_;have hT:=hO8.rdh (ms:=[]) k5;have ov8:=hT.rd.one;have hEs:=hEs.up l5;have hAe:=hEs.1;have hoe:∀u∈es,u.oneCell'=true:=hEs.ones;refine Au (Qm rfl (Qm rfl (Qx (AN rfl call169 rfl (Co fun h' hl hm=>Q4 A t es v3 v8 h' (by omega) (hFs.mono t) (hO.rdh (hm _ Mh)) (hEs.up hl) (hT.up hl) [])) rfl (Qm rfl (Qm rfl (Qm rfl (Qm rfl (Qm rfl (Am ?_)))))))));have hcb:=Iu A t;obtain⟨k,hk⟩:∃k,Du A t=k:=⟨_,rfl⟩
       have hp1:(CG A t).1=k:=hk;rw[hp1];rw[hk]at hcb;refine Au (Qm rfl (Qm rfl (Am ?_)));refine Bv rfl (fun hth=>?_) (fun hth=>?_)
       ·have hth:(CG A t).2=false:=by simpa using hth
        have hins:HD A t=A.take k++t::A.drop k:=by unfold HD;rw[hth,hk];rfl
        have hcl:=hO.rd (h:=h5) (ms:=[m3]) Mh;refine Au (Qm rfl (Al [_] rfl B9 Cc rfl ((RdL.rd ‹_›).cells) rfl rfl (by omega) rfl rfl rfl (fun g71=>Qm rfl (Qm rfl (Qx (Nj (k) hcl.rd rfl B9 Cc rfl rfl (by omega) (by omega)) rfl (AW 0 (OwnL.blk (g:=g71) (el:=22) (F:=cW) (l:=[v8]) 1 Di rfl (by decide)) ((hO.rd (h:=h5) (List.Mem.tail _ Mh)).sub_ (by omega) (Nat.le_refl _)) rfl B9 Cc rfl (by omega) rfl rfl rfl (F0 fun u hu=>hoe u (List.mem_of_mem_drop (mem_of_mem_take hu))) (by(try simp only[length_singleton,length_nil,length_append,length_take,length_drop,nil_append]);omega) (by(try simp only[length_singleton,length_nil,length_append,length_take,length_drop,nil_append]);omega) rfl rfl rfl (fun v6 m6 hO6=>?_)))))));have ov6:=hO6.o1;refine Qm rfl (Gs ?_);refine Ar [] [] [] rfl B9 Cc rfl (by omega) (by kernel_rfl) (by repeat (first|exact trivial|refine⟨⟨by first|rfl|exact(hRs.rd.any).cells|exact(hcl.rd).cells|exact Rd.cells ‹_›|exact(RdL.rd ‹_›).cells,rfl,rfl⟩,?_⟩)) rfl rfl rfl rfl (fun g76=>?_);refine Qm rfl (Qm rfl (Qx (Eu (k) hcl.rd rfl B9 Cc rfl rfl (by omega) (by omega)) rfl (AW 0 (FA g76 Di) ((hO.rd (h:=h5) (List.Mem.tail _ (List.Mem.tail _ Mh))).sub_ (Nat.zero_le _) (by omega)) rfl B9 Cc rfl (by omega) rfl rfl rfl (F0 fun u hu=>hoe u (mem_of_mem_take hu)) (by(try simp only[length_singleton,length_nil,length_append,length_take,length_drop,nil_append]);omega) (by(try simp only[length_singleton,length_nil,length_append,length_take,length_drop,nil_append]);omega) rfl rfl rfl (fun v7 m7 hO7=>Qm rfl ?_))))
        have hoe9:∀u∈v8::(es.drop k).take (es.length-k),u.oneCell'=true:=fun u hu=>by
         rcases List.mem_cons.1 hu with rfl|hu
         ·exact ov8
         ·exact hoe u (List.mem_of_mem_drop (mem_of_mem_take hu))
        refine AW 0 hO7 (hO6.rd (h:=h5) (List.Mem.tail _ Mh)) rfl B9 Cc rfl (by omega) rfl rfl rfl (F0 hoe9) (by(try simp only[length_singleton,length_nil,length_append,length_take,length_drop,nil_append]);omega) (by(try simp only[length_singleton,length_nil,length_append,length_take,length_drop,nil_append]);omega) rfl rfl rfl (fun v9 m9 hO9=>?_)
        have heq:[]++(es.drop 0).take (k-0)++([v8]++(es.drop k).take (es.length-k))=es.take k++v8::es.drop k:=by rw[List.drop_zero,Nat.sub_zero,List.take_of_length_le (l:=es.drop k) (by rw[length_drop];omega)];rfl
        rw[heq]at hO9;have ov9:=hO9.o1;refine Qm rfl (Aj (Ai (AQ 1 rfl (AQ 1 rfl ?_))));exact AC _ ⟨v9,m9,_,rfl,l5,rfl,hO9,by rw[hfs,hins];exact hEs.ins hT k (by omega)⟩ Qs
       ·have hth:(CG A t).2=true:=by simpa using hth
        have hins:HD A t=A:=by unfold HD;rw[hth];rfl
        refine Ag (Ai ?_);exact AC _ ⟨v3,m3,es,rfl,l5,rfl,hO,by rw[hfs,hins];exact hEs⟩ Qs
     ·obtain⟨v3,m3,es,rfl,l5,rfl,hO,hEs⟩:=hI;refine Ad (Qm rfl (Qx (oA rfl) rfl (Qm rfl (Aj ?_))));exact Ak (P-1-(n+1)) _ (by omega) ⟨n+1,v3,m3,es,rfl,rfl,AH l4 l5,rfl,by omega,hO,hEs⟩ Qs
    ·have hnl:n=P-1:=by rw[hP]at hlt3;omega
     subst hb;have hEs:RdEs h4 es (Ct all s n):=hEs;rw[hnl]at hEs;have hfl:=F7 all s (P-1);refine As (Aa (Aa (Ae ?_)));exact AC _ ⟨v3,m3,es,_,rfl,l4,rfl,hO,hEs,D9 hSrt s _,by omega,rfl⟩ Qs
   ·subst hb;have hEs:RdEs h4 es all:=hEs;refine Qk rfl (Qk rfl (Qk rfl (Qk rfl (Qk rfl (Qm rfl (Am (AO rfl (As (Aa (Aa (Ae ?_)))))))))));exact AC _ ⟨v3,m3,es,all,rfl,l4,rfl,hO,hEs,hSrt,by omega,rfl⟩ Qs
  ·obtain⟨v3,m3,es,A,rfl,l4,rfl,hO,hEs,hSrtA,hAl,hA⟩:=hI;have hAe:=hEs.1;have hmtA:=hmt all;rw[hP,<-hA]at hmtA;rw[hmtA]at hd;have ov3:=hO.o1;refine Au (Qm rfl (Qx (DH (hO.rd (h:=h) (ms:=[m3]) Mh).rd rfl B9 rfl) rfl (Qm rfl (Am ?_))));refine Av rfl (fun hbig=>?_) (fun hbig=>?_)
   ·rw[if_pos (by omega)]at hd;refine By (Au ?_);refine Qx (Bb YM [.slice none 0 0] [] [_] rfl AS rfl rfl (by repeat (first|exact trivial|refine⟨⟨rfl,rfl,rfl⟩,?_⟩|refine⟨⟨((hO.rd (h:=h) (ms:=[m3]) Mh).rd).cells,rfl,rfl⟩,?_⟩)) rfl) rfl ?_;refine Sa 2 [_] AS rfl (by simp[Value.oneCell']) ?_;refine Am (Ao (An (Ah (Ah (An (Ah (AQ 1 rfl ?_)))))));exact Bs (vs:=[_]) 1 rfl rfl CI rfl AS rfl rfl (⟨AH lh (AH l2 (AH l3 l4)),Hp.emp,[],_,rfl,rfl,OwnL.nil BX,by unfold DX;rw[he,hd];rfl,fun a ha=>nomatch ha⟩)
   ·rw[if_neg (by omega)]at hd;refine Ag (Ai (Ab (Ad (Qm rfl (Qx (oA rfl) rfl (Qm rfl (Aj ?_)))))));exact Ak (ll.length-(i+1)) _ (by omega) ⟨i+1,v3,m3,es,A,rfl,rfl,AH lh (AH l2 (AH l3 l4)),rfl,by omega,hO,hEs,hSrtA,by omega,by rw[he,hd]⟩ Qs
 ·obtain rfl:i=ll.length:=by omega
  have he:Cf [] ll=some all:=by rw[he,List.drop_length];rfl
  have h9:=EJ ll [] all List.Pairwise.nil (fun t ht=>nomatch ht) he;have hsF:DX ll=(range all.length).map (Dn all):=by unfold DX;rw[he]
  have hAe:=hEs.1;refine Bc fun h2 l2 k2=>?_;have hR3:=hO.rdh (ms:=[]) k2;have hEs:=hEs.up l2;have ov3:v3.oneCell'=true:=hR3.rd.one;refine As (Aa (Aa (Ae (Ab (Au (CJ [.slice none 0 0] rfl AS rfl rfl (fun g13=>Am (By (Ac (Au (Qm rfl (Am (Af ?_)))))))))))))
  refine Ax (fun q sl h' ms'=>∃(j:Nat) (vA:Value) (mA:Hp) (A:List Ce),q=all.length-j/\sl=[(0,v),(2,.pointer (some ⟨g2,0,none⟩)),(3,v3),(13,.pointer (some ⟨g13,0,none⟩)),(14,.int .i64 j)]/\h2.le h'/\ms'=[mA,Be g13 29 [vA],Be g2 29 [.slice none 0 0]]/\j<=all.length/\OwnL cC 3 52 mA vA A/\A.map Ce.c=(range j).map (Dn all)/\∀a∈A,RdL cD 2 h' [] a.v a.c.sd)
   (all.length-0) _ ⟨0,_,Hp.emp,[],rfl,rfl,DS,rfl,by omega,OwnL.nil BX,rfl,fun a ha=>nomatch ha⟩ Qs ?_
  rintro q sl h4 ms' ⟨j,vA,mA,A,rfl,rfl,l4,rfl,hj,hOA,hA,hSd⟩;have hR3:=hR3.up l4;have hEs:=hEs.up l4;refine Ac (Au (Qm rfl (Qm rfl (Qx (Ap hR3.rd.any rfl B9 rfl) rfl (Qm rfl (Am ?_))))));refine Av rfl (fun hjl=>?_) (fun hjl=>?_)
  ·have hjl:j<all.length:=by omega
   have hje:j<es.length:=by omega
   obtain⟨S,hS⟩:∃S,all[j]=S:=⟨_,rfl⟩
   have hS9:S.length<=9:=by rw[<-hS];exact h9 _ (getElem_mem hjl)
   have hRS:RdL cI 1 h4 [] es[j] S:=by rw[<-hS];exact hEs.2 j hje hjl
   have hcj:∀ms,Cell h4 ms ((AF v3).add (j*1)) es[j]:=fun ms=>(hR3.any (ms:=ms)).cell0 hje rfl;have ovS:=hRS.rd.one;have ovA:=hOA.o1;have hgd:all.getD j []=S:=by simp[hjl,hS]
   refine Ag (Ab (Ac (Af (Au (Qm rfl (Qx (oA rfl) rfl (Qm rfl (Qm rfl (Qx (BT (j) hR3.rd.any rfl B9 Cc rfl rfl) rfl (Ql rfl AU (hcj _) (Qx (Ap hRS.rd.any rfl AU rfl) rfl (Qx (oS rfl) rfl ?_))))))))))));refine Qx (Bb UO [.int .i64 0,.int .i64 0,.slice none 0 0] [(0,_),(1,_)] [_,_,_] rfl AG rfl rfl (by repeat (first|exact trivial|refine⟨⟨rfl,rfl,rfl⟩,?_⟩|refine⟨⟨((hO.rd (h:=h) (ms:=[m3]) Mh).rd).cells,rfl,rfl⟩,?_⟩)) rfl) rfl ?_;refine CJ [.int .i64 0,.int .i64 0,.slice none 0 0] rfl AG rfl rfl (fun g15=>?_);refine Sa 0 [_,_,_] AG rfl (by simp[Value.oneCell']) ?_;refine Am (By ?_);obtain⟨D,hD⟩:∃D:Int,(S.length:Int)-1=D:=⟨_,rfl⟩
   rw[hD];refine Bd (fun sl h' ms'=>∃(vS:Value) (mS:Hp),sl=[(0,v),(2,.pointer (some ⟨g2,0,none⟩)),(3,v3),(13,.pointer (some ⟨g13,0,none⟩)),(14,.int .i64 j),(15,.pointer (some ⟨g15,0,none⟩))]/\h4=h'/\ms'=[mS,Be g15 52 [.int .i64 ((j:Int)+1),.int .i64 D,vS],mA,Be g13 29 [vA],Be g2 29 [.slice none 0 0]]/\OwnL cD 2 119 mS vS (if S.length<=1 then [] else N0 all S S.length)) ?_ (fun s h ms hI=>?_)
   ·refine Ac (Ad (Qm rfl (Am (Af ?_))))
    refine Ax (fun q sl h' ms'=>∃(k:Nat) (vS:Value) (mS:Hp),q=S.length-k/\sl=[(0,v),(2,.pointer (some ⟨g2,0,none⟩)),(3,v3),(13,.pointer (some ⟨g13,0,none⟩)),(14,.int .i64 j),(15,.pointer (some ⟨g15,0,none⟩)),(16,.int .i64 k)]/\h4=h'/\ms'=[mS,Be g15 52 [.int .i64 ((j:Int)+1),.int .i64 D,vS],mA,Be g13 29 [vA],Be g2 29 [.slice none 0 0]]/\k<=S.length/\(S.length<=1->k=0)/\OwnL cD 2 119 mS vS (N0 all S k))
     (S.length-0) _ ⟨0,_,Hp.emp,rfl,rfl,rfl,rfl,by omega,fun _=>rfl,OwnL.nil Dv⟩ Qs ?_
    rintro q sl h' ms' ⟨k,vS,mS,rfl,rfl,rfl,rfl,hk,hk0,hOS⟩;refine Ac (Au (Qm rfl (Qm rfl (Qm rfl (Qx (BT (j) hR3.rd.any rfl B9 Cc rfl rfl) rfl (Ql rfl AU (hcj _) (Qx (Ap hRS.rd.any rfl AU rfl) rfl (Qm rfl (Qm rfl ?_)))))))));refine AR (t:=109) rfl (fun hk1=>?_) (fun hk1=>?_)
    ·have hkS:k<S.length:=by omega
     refine Qg (oF CA rfl) rfl (Qg (oL rfl U3 (Cell.blk 1 rfl rfl)) rfl (Qg (Dc rfl rfl rfl) rfl (Qm rfl (Am ?_))));refine Av rfl (fun hdp=>?_) (fun hdp=>?_)
     ·have hD1:1<=D:=by omega
      have ovS2:=hOS.o1;refine Ag (Ab (Ac (Af (Ac (BK (n:=17) (bs:=[false,true,true,true,true,true,true,false,true,true,true,true,true,true,true,false,false]) [false,true,true,true,true,true,true,false,true,true,true,true,true,true,true] CT (by kernel_rfl) (by kernel_rfl) rfl rfl (Qq rfl (Qq rfl (Qp rfl (BT (j) hR3.rd.any rfl B9 Cc rfl rfl) (QL rfl AU (hcj _) (Qq rfl (Qp rfl (Fe (k) hRS.rd.any rfl AU Bg rfl rfl (by omega) (by omega)) (Qq rfl (Qq rfl (Qp rfl (BT (j) hR3.rd.any rfl B9 Cc rfl rfl) (QL rfl AU (hcj _) (Qq rfl (Qp rfl (oA rfl) (Qp rfl (Cx (k+1) hRS.rd.any rfl AU Bg rfl rfl (by omega) (by omega)) ?_))))))))))))))))));unfold Gg;simp only[cons_append,nil_append];refine Qo 0 rfl ?_;refine Ar [] [] [] rfl AU Bg rfl (by omega) (by kernel_rfl) (by repeat (first|exact trivial|refine⟨⟨by first|rfl|exact(hR3.rd.any).cells|exact(hRS.rd.any).cells|exact((hO.rd (h:=h) (ms:=[m3]) Mh).rd).cells|exact Rd.cells ‹_›|exact(RdL.rd ‹_›).cells,rfl,rfl⟩,?_⟩)) rfl rfl rfl rfl (fun g116=>?_);refine Qw (Qo 7 rfl (AP 0 (FA g116 Bo) (hRS.any.sub_ (Nat.zero_le _) hk) rfl AU Bg rfl (by omega) rfl rfl rfl Cn (by(try simp only[length_singleton,length_nil,length_append,length_take,length_drop,nil_append]);omega) (by(try simp only[length_singleton,length_nil,length_append,length_take,length_drop,nil_append]);omega) rfl rfl rfl (fun v6 m6 hO6=>Qw (Qo 15 rfl (AP 0 hO6 (hRS.any.sub_ hkS (Nat.le_refl _)) rfl AU Bg rfl (by omega) rfl rfl rfl Cn (by(try simp only[length_singleton,length_nil,length_append,length_take,length_drop,nil_append]);omega) (by(try simp only[length_singleton,length_nil,length_append,length_take,length_drop,nil_append]);omega) rfl rfl rfl (fun v7 m7 hO7=>Qw (Qo 16 rfl (Qm rfl (Qw (Qe ?_))))))))))
      have heq:[]++(S.drop 0).take (k-0)++(S.drop (k+1)).take (S.length-(k+1))=S.eraseIdx k:=by rw[List.drop_zero,Nat.sub_zero,List.take_of_length_le (l:=S.drop (k+1)) (by rw[length_drop];exact Nat.le_refl _),List.eraseIdx_eq_take_drop_succ];rfl
      rw[heq]at hO7;refine Ab ?_;have ov7:=hO7.o1;refine Au (Qm rfl (Qm rfl (Qx (AN rfl call169 rfl (Co fun h' hl hm=>Q4 all (S.eraseIdx k) es v3 v7 h' (by omega) (hSrt.mono _) (hR3.up hl) (hEs.up hl) (hO7.rdh (hm _ Mh)) [])) rfl (Qm rfl (Qm rfl (Qm rfl (Qm rfl (Qm rfl (Am (Ra ?_))))))))));obtain⟨n,hn⟩:∃n,(CG all (S.eraseIdx k)).1=n:=⟨_,rfl⟩
      have hnl:n<=all.length:=by rw[<-hn];exact Iu _ _
      have hrs:=Sj all S k;rw[hn]at hrs ⊢;have hrl:=HX all S k;refine Ad (Qf BH rfl (Ql rfl Ci (Cell.blk 1 rfl rfl) (Qm rfl (Qx (oA rfl) rfl (Qm rfl (Qx (BP rfl rfl rfl (by omega) (by omega)) rfl (Qx (oM rfl) rfl (Qx (oS rfl) rfl ?_))))))));refine Qx (Bb TB [.int .i64 0,.int .i64 0] [(0,_),(1,_)] [_,_] rfl AK rfl rfl (by repeat (first|exact trivial|refine⟨⟨rfl,rfl,rfl⟩,?_⟩|refine⟨⟨((hO.rd (h:=h) (ms:=[m3]) Mh).rd).cells,rfl,rfl⟩,?_⟩)) rfl) rfl ?_;refine Al [_,_] rfl Ci AK rfl (by rfl) rfl rfl (by omega) rfl rfl rfl (fun g147=>?_);refine AP 1 hOS (RdL.one Dv (x:=((n:Int)+1,1-2*((k:Int)%2))) Mh rfl) rfl Ci AK rfl (by omega) rfl rfl rfl Fu (by rw[HX];(try simp only[length_singleton]);omega) (by rw[HX];(try simp only[length_singleton]);omega) rfl rfl rfl (fun v9 m9 hO9=>?_);rw[<-hrs]at hO9;have ov9:=hO9.o1;refine Qf BH rfl ?_;refine AJ 2 _ rfl PE rfl rfl (by assumption) rfl rfl (by(simp;done)) rfl rfl ?_;refine Aj (Ai (Ab (Ad (Qm rfl (Qx (oA rfl) rfl (Qm rfl (Aj (AQ 0 rfl ?_))))))));exact Ak (S.length-(k+1)) _ (by omega) ⟨k+1,v9,m9,rfl,rfl,rfl,rfl,by omega,fun q=>by omega,hO9⟩ Qs
     ·have hS1:S.length<=1:=by omega
      refine As (Aa (Aa (Ae ?_)));exact AC _ ⟨vS,mS,rfl,rfl,rfl,by rw[if_pos hS1];have:=hk0 hS1;subst this;exact hOS⟩ Qs
    ·have hkS:k=S.length:=by omega
     subst hkS;refine Qk rfl (Qk rfl (Qk rfl (Qm rfl (Am (AO rfl (As (Aa (Aa (Ae ?_)))))))))
     exact AC _ ⟨vS,mS,rfl,rfl,rfl,by
      split
      ·rename_i h1;have:=hk0 h1;rw[this]at hOS;exact hOS
      ·exact hOS⟩ Qs
   ·obtain⟨vS,mS,rfl,rfl,rfl,hOS⟩:=hI;obtain⟨rw,hrw⟩:∃rw,(if S.length<=1 then [] else N0 all S S.length)=rw:=⟨_,rfl⟩
    have hrl:rw.length<=9:=by
     rw[<-hrw];split
     ·simp
     ·rw[HX];exact hS9
    rw[hrw]at hOS
    have hcell:Dn all j=⟨(j:Int)+1,D,BY rw⟩:=by unfold Dn;rw[hgd,hD,<-hrw];split<;>rfl
    refine Bc fun h5 l5 k5=>?_;have hRw:=hOS.rdh (ms:=[]) k5;have ovS2:=hRw.rd.one;refine Au (Qf BH rfl (Ql rfl Ci (Cell.blk 0 rfl rfl) (Qc call170 rfl (Ng rw vS h5 (by omega) hRw) (fun rs h6 ms2 l6 hF=>?_))));obtain⟨rfl,m9,rfl,hO9⟩:=hF;refine AE fun h6 l6 k6=>?_;have hR9:=hO9.rdh (ms:=[]) k6;have ov9:=hR9.rd.one;have hAl:A.length=j:=by have:=congrArg List.length hA;simpa using this
    let ce:Ce:=⟨⟨(j:Int)+1,D,BY rw⟩,rs⟩
    refine Qf BH rfl ?_;refine AJ 0 _ rfl PE rfl rfl (by assumption) rfl rfl (by(simp;done)) rfl rfl ?_;refine Gs (Qf BI rfl (Ql rfl Bk (Cell.blk 2 rfl rfl) (Qx (oG rfl EB AG (Seg.blk 0 rfl)) rfl (Al [_,_,_] rfl Bk AG rfl (by rfl) rfl rfl (by omega) rfl rfl rfl (fun g157=>?_)))));refine AW 2 hOA (RdL.one BX (x:=ce) Mh rfl) rfl Bk AG rfl (by omega) rfl rfl rfl (CN (l:=[ce]) (h:=h6) fun y hy=>by rw[List.mem_singleton.1 hy];exact hR9) (by(try simp only[length_singleton]);omega) (by(try simp only[length_singleton]);omega) rfl rfl rfl (fun vA2 mA2 hOA2=>?_);have ovA2:=hOA2.o1;refine Qf BI rfl ?_;refine AJ 3 _ rfl IJ rfl rfl (by assumption) rfl rfl (by(simp;done)) rfl rfl ?_;refine Aj (Ai (Ab (Ad (Qm rfl (Qx (oA rfl) rfl (Qm rfl (Aj (AQ 0 rfl (AQ 0 rfl ?_)))))))))
    exact Ak (all.length-(j+1)) _ (by omega) ⟨j+1,vA2,mA2,A++[ce],rfl,rfl,AH l4 (AH l5 l6),rfl,by omega,hOA2,by rw[map_append,hA,range_succ,map_append];congr 1;simp[ce,hcell],fun a ha=>by
     rcases List.mem_append.1 ha with h|h
     ·exact(hSd a h).up (AH l5 l6)
     ·rw[List.mem_singleton.1 h];exact hR9⟩ Qs
  ·obtain rfl:j=all.length:=by omega
   have ovA:=hOA.o1;refine As (Aa (Aa (Ae (Ab (Au (Qx (oG rfl CI AS (Seg.blk 1 rfl)) rfl ?_))))));refine Sa 2 [_] AS rfl (by simp[o1,ov3,ovA]) ?_;refine Am (Ao (AQ 1 rfl ?_));exact Bs (vs:=[_]) 1 rfl rfl CI rfl AS rfl rfl (⟨AH lh (AH l2 l4),mA,A,_,rfl,rfl,hOA,by rw[hA,hsF],hSd⟩)
end Go.Proofs.Q

namespace Go.Proofs.Q
open Go.Eng Go.RowKit
theorem RdEs.snoc{h:Hp}{es:List Value}{ll:List (List Int)}(H:RdEs h es ll){v:Value}{t:List Int}(hv:RdL cI 1 h [] v t):RdEs h (es++[v]) (ll++[t]):=by have:=H.ins hv ll.length (Nat.le_refl _);rw[List.take_of_length_le (by rw[H.1];exact Nat.le_refl _),take_length,List.drop_of_length_le (by rw[H.1];exact Nat.le_refl _),List.drop_length]at this;exact this
structure RgtF(o:List Cl):Prop where
 n:o.length<=4000
 inc:o.Pairwise fun a b=>a.id<b.id
 pos:∀x∈o,1<=x.id
 can:∀x∈o,∃y:Cl,x=y.can
 fst:∀x∈o,Hz o x=0
 snd:∀x∈o,2<=x.dim->JH o x=0
theorem RgtF.bds{o:List Cl}(R:RgtF o){x:Cl}(hx:x∈o):(0<=x.dim/\x.dim<=8)/\x.sd.length<=64/\∀r∈x.sd,r.2=1\/r.2=-1:=by obtain⟨h1,h2,_,h4⟩:=Jc (R.fst x hx);refine⟨h1,h2,fun r hr=>?_⟩;obtain⟨i,hi,rfl⟩:=List.mem_iff_getElem.1 hr;have:=h4 i hi;unfold Cb at this;rw[Bq hi]at this;omega
variable {a b c:Int} {x:Cl} {l:List Int} {m n:Nat}
abbrev FN:=List (Int×Int×Int)
def DP(T:FN)(c:Int):Int:=(T.map fun e=>if e.2.1=c then e.2.2 else 0).sum
def ER(T:FN)(c:Int):Int:=(T.map fun e=>if e.2.1=c then(1:Int) else 0).sum
inductive Con (T:FN):Int->Int->Prop
 | refl (a:Int):Con T a a
 | step {a b d c w w':Int}:Con T a b->(b,c,w)∈T->(d,c,w')∈T->Con T a d
theorem Con.trans{T:FN}(h:Con T a b)(h':Con T b c):Con T a c:=by
 induction h' with
 | refl=>exact h
 | step _ h1 h2 ih=>exact .step ih h1 h2
theorem Con.symm{T:FN}(h:Con T a b):Con T b a:=by
 induction h with
 | refl=>exact .refl _
 | step _ h1 h2 ih=>exact(Con.step (.refl _) h2 h1).trans ih
theorem Con.mono{T T':FN}(hs:∀e∈T,e∈T')(h:Con T a b):Con T' a b:=by
 induction h with
 | refl=>exact .refl _
 | step _ h1 h2 ih=>exact .step ih (hs _ h1) (hs _ h2)
theorem Con.in{T:FN}(h:Con T a b):a=b\/((∃c w,(a,c,w)∈T)/\∃c w,(b,c,w)∈T):=by
 induction h with
 | refl=>exact .inl rfl
 | step _ h1 h2 ih=>
  rcases ih with rfl|ih
  ·exact .inr ⟨⟨_,_,h1⟩,_,_,h2⟩
  ·exact .inr ⟨ih.1,_,_,h2⟩
theorem Con.snoc{T:FN}{i f w:Int}(hf:f=i/\(∀g w',(g,c,w') ∉ T)\/∃w',(f,c,w')∈T):Con (T++[(i,c,w)]) a b<->Con T a b\/(Con T a i/\Con T f b)\/(Con T a f/\Con T i b):=by
 have hsub:∀e∈T,e∈T++[(i,c,w)]:=fun e he=>mem_append_left _ he;have hi:(i,c,w)∈T++[(i,c,w)]:=mem_append_right _ Mh
 have hfi:Con (T++[(i,c,w)]) i f:=by
  rcases hf with ⟨rfl,_⟩|⟨w',h⟩
  ·exact .refl _
  ·exact .step (.refl _) hi (hsub _ h)
 constructor
 ·intro h
  induction h with
  | refl=>exact .inl (.refl _)
  | @step b d c' w1 w2 _ h1 h2 ih=>
   -- the last step
   have key:∀{b d},(b,c',w1)∈T++[(i,c,w)]->(d,c',w2)∈T++[(i,c,w)]->Con T b d\/(Con T b i/\Con T f d)\/(Con T b f/\Con T i d):=fun {b d} h1 h2=>by
    rcases List.mem_append.1 h1 with g1|g1<;>rcases List.mem_append.1 h2 with g2|g2
    ·exact .inl (.step (.refl _) g1 g2)
    ·obtain⟨e1,e2,e3⟩:d=i/\c'=c/\w2=w:=by simpa using g2
     rcases hf with ⟨_,hn⟩|⟨w',h⟩
     ·exact absurd (e2 ▸ g1) (hn _ _)
     ·rw[e1];exact .inr (.inr ⟨.step (.refl _) (e2 ▸ g1) h,.refl _⟩)
    ·obtain⟨e1,e2,e3⟩:b=i/\c'=c/\w1=w:=by simpa using g1
     rcases hf with ⟨_,hn⟩|⟨w',h⟩
     ·exact absurd (e2 ▸ g2) (hn _ _)
     ·rw[e1];exact .inr (.inl ⟨.refl _,.step (.refl _) h (e2 ▸ g2)⟩)
    ·obtain⟨e1,_⟩:b=i/\c'=c/\w1=w:=by simpa using g1
     obtain⟨e2,_⟩:d=i/\c'=c/\w2=w:=by simpa using g2
     rw[e1,e2];exact .inl (.refl _)
   have k:=key h1 h2;rcases ih with ih|⟨i1,i2⟩|⟨i1,i2⟩
   ·rcases k with k|⟨k1,k2⟩|⟨k1,k2⟩
    ·exact .inl (ih.trans k)
    ·exact .inr (.inl ⟨ih.trans k1,k2⟩)
    ·exact .inr (.inr ⟨ih.trans k1,k2⟩)
   ·rcases k with k|⟨k1,k2⟩|⟨k1,k2⟩
    ·exact .inr (.inl ⟨i1,i2.trans k⟩)
    ·exact .inr (.inl ⟨i1,k2⟩)
    ·exact .inl (i1.trans k2)
   ·rcases k with k|⟨k1,k2⟩|⟨k1,k2⟩
    ·exact .inr (.inr ⟨i1,i2.trans k⟩)
    ·exact .inl (i1.trans k2)
    ·exact .inr (.inr ⟨i1,k2⟩)
 ·rintro(h|⟨h1,h2⟩|⟨h1,h2⟩)
  ·exact h.mono hsub
  ·exact(h1.mono hsub).trans (hfi.trans (h2.mono hsub))
  ·exact(h1.mono hsub).trans (hfi.symm.trans (h2.mono hsub))
theorem Lg(T:FN)(e:Int×Int×Int)(c:Int):DP (T++[e]) c=DP T c+if e.2.1=c then e.2.2 else 0:=by simp[DP]
theorem R5(T:FN)(e:Int×Int×Int)(c:Int):ER (T++[e]) c=ER T c+if e.2.1=c then 1 else 0:=by simp[ER]
theorem Lk{T:FN}(h:∀e∈T,e.2.1≠c):DP T c=0/\ER T c=0:=by
 induction T with
 | nil=>exact⟨rfl,rfl⟩
 | cons e T ih=>
  obtain⟨h1,h2⟩:=ih fun e he=>h e (mem_cons_of_mem _ he);have h3:=h e Mh;unfold DP at *;unfold ER at *;simp only[map_cons,sum_cons,if_neg h3,h1,h2];exact⟨rfl,rfl⟩
theorem KL{x:Int}:Hh (a::l) x=if a=x then 0 else Hh l x+1:=by
 unfold Hh;rw[List.takeWhile_cons];by_cases e:a=x
 ·simp[e]
 ·simp[e]
theorem RR{x:Int}{k:Nat}(hk:Hh l x=k)(h:k<l.length):l[k]=x:=by
 induction l generalizing k with
 | nil=>simp at h
 | cons a l ih=>
  rw[KL]at hk;split at hk
  ·subst hk;assumption
  ·subst hk;rw[List.getElem_cons_succ];exact ih rfl (by simpa using h)
theorem SD{x:Int}(h:Hh l x=l.length):x ∉ l:=by
 induction l with
 | nil=>simp
 | cons a l ih=>
  rw[KL]at h;split at h
  ·simp at h
  ·rename_i e;rw[mem_cons];rintro(rfl|h1)
   ·exact e rfl
   ·exact ih (by simpa using h) h1
theorem G6{α:Type}{l:List α}(h:l.Nodup){i j:Nat}(hi:i<l.length)(hj:j<l.length)(e:l[i]=l[j]):i=j:=by
 have h1:=List.pairwise_iff_getElem.1 h;rcases Nat.lt_trichotomy i j with h2|h2|h2
 ·exact absurd e (h1 i j hi hj h2)
 ·exact h2
 ·exact absurd e.symm (h1 j i hj hi h2)
structure S2.Inv(S:S2)(x:Cl)(T:FN)(m n:Nat):Prop where
 nd:S.ids.Nodup
 mem:∀c,c∈S.ids<->∃a w,(a,c,w)∈T
 ls:S.su.length=S.ids.length
 lm:S.ma.length=S.ids.length
 lf:S.fi.length=S.ids.length
 lp:S.pa.length=n
 su:∀k (hk:k<S.ids.length),S.su.getD k 0=DP T S.ids[k]
 ma:∀k (hk:k<S.ids.length),S.ma.getD k 0=ER T S.ids[k]
 fi:∀k (hk:k<S.ids.length),∃j:Nat,j<m/\S.fi.getD k 0=(j:Int)/\∃w,((Bw x j).1,S.ids[k],w)∈T
 pl:∀j,j<m->0<=S.pa.getD j 0/\S.pa.getD j 0<m
 pc:∀j j',j<m->j'<m->(S.pa.getD j 0=S.pa.getD j' 0<->Con T (Bw x j).1 (Bw x j').1)
 fr:∀e∈T,∃j:Nat,j<m/\e.1=(Bw x j).1
theorem Hw(l:List Int)(k j:Nat)(y:Int)(hk:k<l.length):(l.set k y).getD j 0=if j=k then y else l.getD j 0:=by
 simp only[List.getD_eq_getElem?_getD,List.getElem?_set];by_cases e:k=j
 ·subst e;simp[hk]
 ·simp[e,Ne.symm e]
theorem GV(l:List Int)(j:Nat)(y:Int):(l++[y]).getD j 0=if j=l.length then y else l.getD j 0:=by
 simp only[List.getD_eq_getElem?_getD];rcases Nat.lt_trichotomy j l.length with h|h|h
 ·rw[List.getElem?_append_left h,if_neg (by omega)]
 ·subst h;simp
 ·rw[if_neg (by omega),List.getElem?_eq_none (by simp;omega),List.getElem?_eq_none (by omega)]
theorem SE(pa:List Int)(m:Nat)(now old:Int)(j:Nat)(hm:m<=pa.length)(hj:j<m):(I1 pa m now old).getD j 0=if pa.getD j 0=now then old else pa.getD j 0:=by
 have h1:j<pa.length:=by omega
 have h2:j<(I1 pa m now old).length:=by rw[Kl];exact h1
 simp only[List.getD_eq_getElem?_getD,List.getElem?_eq_getElem h1,List.getElem?_eq_getElem h2,Option.getD_some];rw[UF h1];simp[hj]
theorem S2.Inv.start{S:S2}{T:FN}(I:S.Inv x T m n)(hm:m<n)(hd:∀j,j<m->(Bw x j).1≠(Bw x m).1):(S.start m).Inv x T (m+1) n:=by
 have hp:=I.lp;have hg:∀j,(S.pa.set m (m:Int)).getD j 0=if j=m then(m:Int) else S.pa.getD j 0:=fun j=>Hw _ _ _ _ (by omega)
 have hnew:∀j,j<m->¬Con T (Bw x j).1 (Bw x m).1:=fun j hj h=>by
  rcases h.in with h|⟨_,c,w,h⟩
  ·exact hd j hj h
  ·obtain⟨j',hj',e⟩:=I.fr _ h;exact hd j' hj' e.symm
 refine⟨I.nd,I.mem,I.ls,I.lm,I.lf,by show(List.set _ _ _).length=n;rw[length_set];exact hp,I.su,I.ma,fun k hk=>?_,fun j hj=>?_,fun j j' hj hj'=>?_,fun e he=>?_⟩
 ·obtain⟨j,h1,h2⟩:=I.fi k hk;exact⟨j,by omega,h2⟩
 ·show 0<=(S.pa.set m (m:Int)).getD j 0/\(S.pa.set m (m:Int)).getD j 0<((m+1:Nat):Int);rw[hg];split
  ·omega
  ·have:=I.pl j (by omega);omega
 ·show(S.pa.set m (m:Int)).getD j 0=(S.pa.set m (m:Int)).getD j' 0<->_;rw[hg,hg];by_cases e:j=m<;>by_cases e':j'=m
  ·subst e;subst e';exact⟨fun _=>.refl _,fun _=>rfl⟩
  ·subst e;rw[if_pos rfl,if_neg e'];have:=I.pl j' (by omega);exact⟨fun h=>by omega,fun h=>absurd h.symm (hnew j' (by omega))⟩
  ·subst e';rw[if_neg e,if_pos rfl];have:=I.pl j (by omega);exact⟨fun h=>by omega,fun h=>absurd h (hnew j (by omega))⟩
  ·rw[if_neg e,if_neg e'];exact I.pc j j' (by omega) (by omega)
 ·obtain⟨j,h1,h2⟩:=I.fr e he;exact⟨j,by omega,h2⟩
theorem S2.Inv.side{S:S2}{T:FN}(I:S.Inv x T (m+1) n)(hm:m<n)(w:Int)(r:Int×Int):(S.side m w r).Inv x (T++[((Bw x m).1,r.1,w*r.2)]) (m+1) n:=by
 have hp:=I.lp
 -- the place of the id,in the state after add
 obtain⟨k,hk⟩:∃k,Hh S.ids r.1=k:=⟨_,rfl⟩
 obtain⟨U,hU⟩:∃U,S.add m r.1=U:=⟨_,rfl⟩
 have A:U.pa=S.pa/\U.ids.Nodup/\(∀c,c∈U.ids<->c=r.1\/∃a w,(a,c,w)∈T)/\U.su.length=U.ids.length/\U.ma.length=U.ids.length/\U.fi.length=U.ids.length/\(∀k (hk:k<U.ids.length),U.su.getD k 0=DP T U.ids[k])/\(∀k (hk:k<U.ids.length),U.ma.getD k 0=ER T U.ids[k])/\(∃hk:k<U.ids.length,U.ids[k]=r.1) ∧
   (∀k' (hk':k'<U.ids.length),k'≠k->∃j:Nat,j<m+1/\U.fi.getD k' 0=(j:Int)/\∃w,((Bw x j).1,U.ids[k'],w)∈T) ∧
   ∃f:Nat,f<m+1/\U.fi.getD k 0=(f:Int)/\((Bw x f).1=(Bw x m).1/\f=m/\(∀g w',(g,r.1,w') ∉ T)\/∃w',((Bw x f).1,r.1,w')∈T):=by
  subst hU;unfold S2.add;by_cases h:Hh S.ids r.1=S.ids.length
  ·have hn:=SD h;have hnT:∀g w',(g,r.1,w') ∉ T:=fun g w' hg=>hn ((I.mem _).2 ⟨g,w',hg⟩);have h0:DP T r.1=0/\ER T r.1=0:=Lk fun e he q=>hnT e.1 e.2.2 (by rw[<-q];exact he);rw[if_pos h];have hkl:k=S.ids.length:=by omega
   have hget:∀k' (hk':k'<(S.ids++[r.1]).length),(S.ids++[r.1])[k']=if h:k'<S.ids.length then S.ids[k'] else r.1:=fun k' hk'=>by
    by_cases h1:k'<S.ids.length
    ·rw[dif_pos h1,List.getElem_append_left h1]
    ·rw[dif_neg h1,getElem_append_right (by omega)];simp
   refine⟨rfl,?_,fun c=>?_,by simp[I.ls],by simp[I.lm],by simp[I.lf],fun k' hk'=>?_,fun k' hk'=>?_,⟨by show k<(S.ids++[r.1]).length;simp;omega,?_⟩,fun k' hk' hne=>?_,m,by omega,?_,.inl ⟨rfl,rfl,hnT⟩⟩
   ·exact List.nodup_append.2 ⟨I.nd,by simp,fun a ha b hb e=>by rw[List.mem_singleton.1 hb]at e;exact hn (e ▸ ha)⟩
   ·show c∈S.ids++[r.1]<->_;rw[mem_append,mem_singleton,I.mem];exact⟨fun h=>h.symm,fun h=>h.symm⟩
   ·have hk'':k'<S.ids.length+1:=by have:k'<(S.ids++[r.1]).length:=hk';simpa using this
    show(S.su++[0]).getD k' 0=DP T (S.ids++[r.1])[k'];rw[GV,hget k' hk',I.ls];by_cases h1:k'<S.ids.length
    ·rw[if_neg (by omega),dif_pos h1];exact I.su k' h1
    ·rw[if_pos (by omega),dif_neg h1,h0.1]
   ·have hk'':k'<S.ids.length+1:=by have:k'<(S.ids++[r.1]).length:=hk';simpa using this
    show(S.ma++[0]).getD k' 0=ER T (S.ids++[r.1])[k'];rw[GV,hget k' hk',I.lm];by_cases h1:k'<S.ids.length
    ·rw[if_neg (by omega),dif_pos h1];exact I.ma k' h1
    ·rw[if_pos (by omega),dif_neg h1,h0.2]
   ·show(S.ids++[r.1])[k]'_=r.1;rw[hget,dif_neg (by omega)]
   ·have hk'':k'<S.ids.length+1:=by have:k'<(S.ids++[r.1]).length:=hk';simpa using this
    obtain⟨j,h1,h2,h3⟩:=I.fi k' (by omega);refine⟨j,h1,?_,?_⟩
    ·show(S.fi++[(m:Int)]).getD k' 0=j;rw[GV,I.lf,if_neg (by omega)];exact h2
    ·show ∃w,(_,(S.ids++[r.1])[k']'hk',w)∈T;rw[hget k' hk',dif_pos (show k'<S.ids.length by omega)];exact h3
   ·show(S.fi++[(m:Int)]).getD k 0=(m:Int);rw[GV,I.lf,if_pos hkl]
  ·have hle:=TQ S.ids r.1;have hkl:k<S.ids.length:=by omega
   have hge:S.ids[k]=r.1:=RR hk hkl;have hin:r.1∈S.ids:=by rw[<-hge];exact getElem_mem hkl
   rw[if_neg h];obtain⟨f,f1,f2,f3⟩:=I.fi k hkl;refine⟨rfl,I.nd,fun c=>?_,I.ls,I.lm,I.lf,I.su,I.ma,⟨hkl,hge⟩,fun k' hk' _=>I.fi k' hk',f,f1,f2,.inr (by rw[hge]at f3;exact f3)⟩;rw[I.mem];refine⟨.inr,fun h=>?_⟩;rcases h with rfl|h
   ·exact(I.mem _).1 hin
   ·exact h
 obtain⟨a1,a2,a3,a4,a5,a6,a7,a8,⟨a9,a10⟩,a11,f,f1,f2,f3⟩:=A;have hS:S.side m w r=U.hit m k (w*r.2):=by unfold S2.side;rw[hU,hk]
 rw[hS]
 have hcf:∀{a b},Con (T++[((Bw x m).1,r.1,w*r.2)]) a b<->_:=fun {a b}=>Con.snoc (a:=a) (b:=b) (T:=T) (i:=(Bw x m).1) (f:=(Bw x f).1) (c:=r.1) (w:=w*r.2) (by
  rcases f3 with ⟨h1,_,h2⟩|h
  ·exact .inl ⟨h1,h2⟩
  ·exact .inr h)
 have hrel:∀j,j<m+1->(I1 U.pa (m+1) (U.pa.getD m 0) (U.pa.getD (U.fi.getD k 0).toNat 0)).getD j 0=if S.pa.getD j 0=S.pa.getD m 0 then S.pa.getD f 0 else S.pa.getD j 0:=fun j hj=>by rw[SE _ _ _ _ _ (by rw[a1];omega) hj,a1,f2,Int.toNat_natCast]
 refine⟨a2,fun c=>?_,by show(List.set _ _ _).length=_;rw[length_set];exact a4,by show(List.set _ _ _).length=_;rw[length_set];exact a5,a6,by show(I1 _ _ _ _).length=n;rw[Kl,a1];exact hp,fun k' hk0=>?_,fun k' hk0=>?_,fun k' hk0=>?_,fun j hj=>?_,fun j j' hj hj'=>?_,fun e he=>?_⟩
 ·show c∈U.ids<->_;rw[a3];constructor
  ·rintro(rfl|⟨a,w',h⟩)
   ·exact⟨_,_,mem_append_right _ Mh⟩
   ·exact⟨a,w',mem_append_left _ h⟩
  ·rintro⟨a,w',h⟩;rcases List.mem_append.1 h with h|h
   ·exact .inr ⟨a,w',h⟩
   ·have:=List.mem_singleton.1 h;exact .inl (congrArg (fun e:Int×Int×Int=>e.2.1) this)
 ·have hk':k'<U.ids.length:=hk0;show(U.su.set k (U.su.getD k 0+w*r.2)).getD k' 0=DP _ (U.ids[k']'hk');rw[Hw _ _ _ _ (by omega),Lg];by_cases e:k'=k
  ·subst e;rw[if_pos rfl,a7 k' hk',a10];simp
  ·have:¬r.1=U.ids[k']'hk':=fun h=>e (G6 a2 hk' a9 (by rw[a10];exact h.symm));rw[if_neg e,a7 k' hk',if_neg this,Int.add_zero]
 ·have hk':k'<U.ids.length:=hk0;show(U.ma.set k (U.ma.getD k 0+1)).getD k' 0=ER _ (U.ids[k']'hk');rw[Hw _ _ _ _ (by omega),R5];by_cases e:k'=k
  ·subst e;rw[if_pos rfl,a8 k' hk',a10];simp
  ·have:¬r.1=U.ids[k']'hk':=fun h=>e (G6 a2 hk' a9 (by rw[a10];exact h.symm));rw[if_neg e,a8 k' hk',if_neg this,Int.add_zero]
 ·have hk':k'<U.ids.length:=hk0;show ∃j:Nat,j<m+1/\U.fi.getD k' 0=(j:Int)/\∃w',((Bw x j).1,U.ids[k']'hk',w')∈_;by_cases e:k'=k
  ·subst e;refine⟨f,f1,f2,?_⟩;rw[a10];rcases f3 with ⟨h1,_,_⟩|⟨w',h⟩
   ·exact⟨w*r.2,by rw[h1];exact mem_append_right _ Mh⟩
   ·exact⟨w',mem_append_left _ h⟩
  ·obtain⟨j,j1,j2,w',j3⟩:=a11 k' hk' e;exact⟨j,j1,j2,w',mem_append_left _ j3⟩
 ·show 0<=(I1 _ _ _ _).getD j 0/\(I1 _ _ _ _).getD j 0<_;rw[hrel j hj];have:=I.pl j hj;have:=I.pl f f1;split<;>omega
 ·show(I1 _ _ _ _).getD j 0=(I1 _ _ _ _).getD j' 0<->_;rw[hrel j hj,hrel j' hj',hcf,<-I.pc j j' hj hj',<-I.pc j m hj (by omega),<-I.pc f j' f1 hj',<-I.pc j f hj f1,<-I.pc m j' (by omega) hj'];split<;>split<;>omega
 ·rcases List.mem_append.1 he with h|h
  ·exact I.fr e h
  ·rw[List.mem_singleton.1 h];exact⟨m,by omega,rfl⟩
theorem S2.Inv.sides(hm:m<n)(w:Int):∀(l:List (Int×Int)) (S:S2) (T:FN),S.Inv x T (m+1) n->(S.sides m w l).Inv x (T++l.map fun r=>((Bw x m).1,r.1,w*r.2)) (m+1) n
 | [],S,T,I=>by rw[List.map_nil,append_nil];exact I
 | r::l,S,T,I=>by have:=S2.Inv.sides hm w l (S.side m w r) _ (I.side hm w r);rw[append_assoc]at this;exact this
def La(l:List Cl)(x:Cl)(m:Nat):FN:=(range m).flatMap fun i=>(JT l x i).sd.map fun r=>((Bw x i).1,r.1,(Bw x i).2*r.2)
theorem SH(l:List Cl)(x:Cl)(m:Nat):La l x (m+1)=La l x m++(JT l x m).sd.map fun r=>((Bw x m).1,r.1,(Bw x m).2*r.2):=by unfold La;rw[range_succ,List.flatMap_append];simp
theorem NA{l:List Cl}(hd:∀j m,j<m->m<x.sd.length->(Bw x j).1≠(Bw x m).1):∀m,m<=x.sd.length->(M1 l x m).Inv x (La l x m) m x.sd.length
 | 0,_=>⟨by show List.Nodup [];simp,fun c=>⟨fun h=>by simp[M1]at h,fun⟨a,w,h⟩=>by simp[La]at h⟩,rfl,rfl,rfl,by simp[M1],fun k hk=>absurd hk (Nat.not_lt_zero _),fun k hk=>absurd hk (Nat.not_lt_zero _),fun k hk=>absurd hk (Nat.not_lt_zero _),fun j hj=>by omega,fun j j' hj=>by omega,fun e he=>by simp[La]at he⟩
 | m+1,h=>by rw[SH];exact S2.Inv.sides (by omega) _ _ _ _ ((NA hd m (by omega)).start (by omega) fun j hj=>hd j m hj (by omega))
structure GoodT(T:FN)(s:List (Int×Int)):Prop where
 sum:∀e∈T,DP T e.2.1=0
 two:∀e∈T,ER T e.2.1=2
 con:∀a∈s,∀b∈s,Con T a.1 b.1
theorem HS{l:List Cl}(hd:∀j m,j<m->m<x.sd.length->(Bw x j).1≠(Bw x m).1):JH l x=0<->GoodT (La l x x.sd.length) x.sd:=by
 have I:=NA (l:=l) hd x.sd.length (Nat.le_refl _);obtain⟨S,hS⟩:∃S,M1 l x x.sd.length=S:=⟨_,rfl⟩
 obtain⟨T,hT⟩:∃T,La l x x.sd.length=T:=⟨_,rfl⟩
 rw[hS,hT]at I;rw[hT];have hget:∀{L:List Int} {j:Nat} (hj:j<L.length),L[j]=L.getD j 0:=fun {L j} hj=>by simp[List.getD,hj]
 have h1:(∀y∈S.su,y=0)<->∀e∈T,DP T e.2.1=0:=by
  constructor
  ·intro h e he;obtain⟨k,hk,e1⟩:=getElem_of_mem ((I.mem e.2.1).2 ⟨e.1,e.2.2,he⟩);have h2:=I.su k hk;rw[e1]at h2;rw[<-h2,<-hget (by rw[I.ls];exact hk)];exact h _ (getElem_mem _)
  ·intro h y hy;obtain⟨k,hk,rfl⟩:=getElem_of_mem hy;have hk':k<S.ids.length:=by rw[<-I.ls];exact hk
   rw[hget hk,I.su k hk'];obtain⟨a,w,h2⟩:=(I.mem _).1 (getElem_mem hk');exact h _ h2
 have h2:(∀y∈S.ma,y=2)<->∀e∈T,ER T e.2.1=2:=by
  constructor
  ·intro h e he;obtain⟨k,hk,e1⟩:=getElem_of_mem ((I.mem e.2.1).2 ⟨e.1,e.2.2,he⟩);have h2:=I.ma k hk;rw[e1]at h2;rw[<-h2,<-hget (by rw[I.lm];exact hk)];exact h _ (getElem_mem _)
  ·intro h y hy;obtain⟨k,hk,rfl⟩:=getElem_of_mem hy;have hk':k<S.ids.length:=by rw[<-I.lm];exact hk
   rw[hget hk,I.ma k hk'];obtain⟨a,w,h2⟩:=(I.mem _).1 (getElem_mem hk');exact h _ h2
 have h3:(∀y∈S.pa,y=S.pa.getD 0 0)<->∀a∈x.sd,∀b∈x.sd,Con T a.1 b.1:=by
  constructor
  ·intro h a ha b hb;obtain⟨j,hj,rfl⟩:=getElem_of_mem ha;obtain⟨j',hj',rfl⟩:=getElem_of_mem hb;have e1:S.pa.getD j 0=S.pa.getD 0 0:=by rw[<-hget (by rw[I.lp];exact hj)];exact h _ (getElem_mem _)
   have e2:S.pa.getD j' 0=S.pa.getD 0 0:=by rw[<-hget (by rw[I.lp];exact hj')];exact h _ (getElem_mem _)
   have:=(I.pc j j' hj hj').1 (by rw[e1,e2])
   rwa [Bq hj,Bq hj']at this
  ·intro h y hy;obtain⟨j,hj,rfl⟩:=getElem_of_mem hy;rw[hget hj];rw[I.lp]at hj;refine(I.pc j 0 hj (by omega)).2 ?_;rw[Bq hj,Bq (by omega)];exact h _ (getElem_mem _) _ (getElem_mem _)
 unfold JH;rw[hS];constructor
 ·intro h;split at h
  ·exact absurd h (by decide)
  ·rename_i g1;split at h
   ·exact absurd h (by decide)
   ·rename_i g2;split at h
    ·exact absurd h (by decide)
    ·rename_i g3;exact⟨h1.1 (Classical.not_not.1 g1),h2.1 (Classical.not_not.1 g2),h3.1 (Classical.not_not.1 g3)⟩
 ·rintro⟨g1,g2,g3⟩;rw[if_neg (fun q=>q (h1.2 g1)),if_neg (fun q=>q (h2.2 g2)),if_neg (fun q=>q (h3.2 g3))]
end Go.Proofs.Q

namespace Go.Proofs.Q
open Go.Eng Go.RowKit
theorem RdC.snoc'{h:Hp}{A:List Ce}(hA:∀a∈A,RdL cD 2 h [] a.v a.c.sd){c:Ce}(hc:RdL cD 2 h [] c.v c.c.sd):∀a∈A++[c],RdL cD 2 h [] a.v a.c.sd:=fun a ha=>by
 rcases List.mem_append.1 ha with h|h
 ·exact hA a h
 ·rw[List.mem_singleton.1 h];exact hc
theorem Ji:∀(ll acc all:List (List Int)),acc.length<=4000->Cf acc ll=some all->all.length<=4000
 | [],acc,all,h,e=>by have:acc=all:=Option.some.inj e;rw[<-this];exact h
 | l::ll,acc,all,h,e=>by
  rw[Dd]at e;split at e
  ·cases e
  ·exact Ji ll _ all (by omega) e
theorem Tg(ll:List (List Int)):(DX ll).length<=4000/\∀c∈DX ll,(-1<=c.dim/\c.dim<=8)/\c.sd.length<=9:=by
 unfold DX;cases h:Cf [] ll with
 | none=>exact⟨by simp,fun c hc=>nomatch hc⟩
 | some all=>
  have h9:=EJ ll [] all List.Pairwise.nil (fun t ht=>nomatch ht) h;refine⟨by simpa using Ji ll [] all (by simp) h,fun c hc=>?_⟩;obtain⟨i,hi,rfl⟩:=List.mem_map.1 hc;have hil:=List.mem_range.1 hi
  have hl:(all.getD i []).length<=9:=by
   have:all.getD i []=all[i]:=by simp[List.getD,hil]
   rw[this];exact h9 _ (getElem_mem hil)
  refine⟨?_,?_⟩
  ·show -1<=((all.getD i []).length:Int)-1/\((all.getD i []).length:Int)-1<=8;omega
  ·show(if(all.getD i []).length<=1 then [] else BY _).length<=9;split
   ·simp
   ·rw[Hv,length_map,length_range];exact hl
def NV(h:Hp)(r:Value)(ms:List Hp)(Q:List Cl->Prop):Prop:=∃m A v',ms=[m]/\r=.agg #[v']/\OwnL cC 3 52 m v' A/\Q (A.map Ce.c)/\∀a∈A,RdL cD 2 h [] a.v a.c.sd
variable {o l:List Cl} {x y:Cl} {α β:Type}
def QV(l:List Cl)(c:Int):Option Cl:=l.find? fun y=>decide (y.id=c)
def FZ(l:List Cl)(c:Int):Cl:=(QV l c).getD default
theorem CY(hn:(l.map Cl.id).Nodup)(hy:y∈l):QV l y.id=some y:=by
 unfold QV
 induction l with
 | nil=>cases hy
 | cons a l ih=>
  rw[map_cons,List.nodup_cons]at hn;rw[List.find?_cons];rcases List.mem_cons.1 hy with rfl|h
  ·simp
  ·have:¬a.id=y.id:=fun e=>hn.1 (List.mem_map.2 ⟨y,h,e.symm⟩);simp only[this,decide_false];exact ih hn.2 h
theorem Cw(hn:(l.map Cl.id).Nodup)(hy:y∈l):FZ l y.id=y:=by unfold FZ;rw[CY hn hy];rfl
def Kg(L:Int->List (Int×Int))(s:List (Int×Int)):FN:=s.flatMap fun a=>(L a.1).map fun r=>(a.1,r.1,a.2*r.2)
def E9(l:List Cl)(x:Cl):FN:=Kg (fun c=>(FZ l c).sd) x.sd
structure Rgt(l:List Cl):Prop where
 n:l.length<=4000
 nd:(l.map Cl.id).Nodup
 pos:∀x∈l,1<=x.id
 dim:∀x∈l,0<=x.dim/\x.dim<=8
 num:∀x∈l,¬Ck x
 sds:∀x∈l,(x.sd.map Prod.fst).Nodup
 sid:∀x∈l,∀s∈x.sd,∃y∈l,y.id=s.1/\y.dim=x.dim-1
 sgn:∀x∈l,∀s∈x.sd,s.2=1\/s.2=-1
 one:∀x∈l,x.dim=1->(x.sd.map Prod.snd).sum=0
 tab:∀x∈l,2<=x.dim->GoodT (E9 l x) x.sd
theorem Rgt.nil:Rgt []:=⟨by simp,by simp,nofun,nofun,nofun,nofun,nofun,nofun,nofun,nofun⟩
theorem Ib{l l':List Int}(h:l.Perm l'):l.sum=l'.sum:=by
 induction h with
 | nil=>rfl
 | cons x _ ih=>simp only[sum_cons,ih]
 | swap x y l=>simp only[sum_cons];omega
 | trans _ _ h1 h2=>exact h1.trans h2
theorem GoodT.perm{T T':FN}{s s':List (Int×Int)}(h:T.Perm T')(hs:s.Perm s')(G:GoodT T s):GoodT T' s' where
 sum:=fun e he=>by exact(Ib (h.map _).symm).trans (G.sum e (h.mem_iff.2 he))
 two:=fun e he=>by exact(Ib (h.map _).symm).trans (G.two e (h.mem_iff.2 he))
 con:=fun a ha b hb=>(G.con a (hs.mem_iff.2 ha) b (hs.mem_iff.2 hb)).mono fun e he=>h.mem_iff.1 he
theorem Hn{f g:α->List β}:∀{l:List α},(∀a∈l,(f a).Perm (g a))->(l.flatMap f).Perm (l.flatMap g)
 | [],_=>List.Perm.refl _
 | a::l,h=>by rw[flatMap_cons,flatMap_cons];exact(h a Mh).append (Hn fun b hb=>h b (mem_cons_of_mem _ hb))
theorem Dw{f g:α->List β}:∀{l:List α},(∀a∈l,f a=g a)->l.flatMap f=l.flatMap g
 | [],_=>rfl
 | a::l,h=>by rw[flatMap_cons,flatMap_cons,h a Mh,Dw fun b hb=>h b (mem_cons_of_mem _ hb)]
theorem Ih{f g:α->List β}{l l':List α}(h:l.Perm l')(hf:∀a∈l,(f a).Perm (g a)):(l.flatMap f).Perm (l'.flatMap g):=(Hn hf).trans (h.flatMap_right g)
theorem Sx(x:Int×Int)(l:List (Int×Int)):(Ht x l).Perm (x::l):=by unfold Ht;refine List.perm_middle.trans ?_;rw[List.takeWhile_append_dropWhile]
theorem BB(l:List (Int×Int)):(BY l).Perm l:=by
 have go:∀(l acc:List (Int×Int)),(l.foldl (fun acc x=>Ht x acc) acc).Perm (acc++l):=fun l=>by
  induction l with
  | nil=>intro acc;rw[append_nil];exact List.Perm.refl _
  | cons x l ih=>
   intro acc;rw[List.foldl_cons];refine(ih _).trans (((Sx x acc).append_right l).trans ?_);exact List.perm_middle.symm
 exact go l []
structure SimC(l l':List Cl):Prop where
 len:l'.length=l.length
 ids:(l'.map Cl.id).Perm (l.map Cl.id)
 mem:∀x'∈l',∃x∈l,x'.id=x.id/\x'.dim=x.dim/\x'.sd.Perm x.sd
theorem SimC.to{l':List Cl}(S:SimC l l')(hn:(l.map Cl.id).Nodup)(hx:x∈l):∃x'∈l',x'.id=x.id/\x'.dim=x.dim/\x'.sd.Perm x.sd:=by
 obtain⟨x',h1,h2⟩:=List.mem_map.1 (S.ids.mem_iff.2 (List.mem_map.2 ⟨x,hx,rfl⟩));obtain⟨y,h3,h4,h5,h6⟩:=S.mem x' h1
 have:y=x:=by have a:=CY hn h3;have b:=CY hn hx;rw[<-h4,h2,b]at a;exact(Option.some.inj a).symm
 subst this;exact⟨x',h1,h4,h5,h6⟩
theorem Rgt.sim{l':List Cl}(R:Rgt l)(S:SimC l l'):Rgt l':=by
 have hn':(l'.map Cl.id).Nodup:=S.ids.nodup_iff.2 R.nd
 have hnum:∀{x x':Cl},x'.dim=x.dim->x'.sd.Perm x.sd->¬Ck x->¬Ck x':=fun {x x'} h1 h2 h h3=>by unfold Ck at *;rw[h1,h2.length_eq]at h3;exact h h3
 refine⟨by rw[S.len];exact R.n,hn',fun x' hx'=>?_,fun x' hx'=>?_,fun x' hx'=>?_,fun x' hx'=>?_,fun x' hx' s hs=>?_,fun x' hx' s hs=>?_,fun x' hx' hd=>?_,fun x' hx' hd=>?_⟩<;>obtain⟨x,hx,e1,e2,e3⟩:=S.mem x' hx'
 ·rw[e1];exact R.pos x hx
 ·rw[e2];exact R.dim x hx
 ·exact hnum e2 e3 (R.num x hx)
 ·exact(e3.map _).nodup_iff.2 (R.sds x hx)
 ·obtain⟨y,hy,h1,h2⟩:=R.sid x hx s (e3.mem_iff.1 hs);obtain⟨y',hy',h3,h4,_⟩:=S.to R.nd hy;exact⟨y',hy',by rw[h3,h1],by rw[h4,h2,e2]⟩
 ·exact R.sgn x hx s (e3.mem_iff.1 hs)
 ·rw[Ib (e3.map _)];exact R.one x hx (by rw[<-e2];exact hd)
 ·refine(R.tab x hx (by rw[<-e2];exact hd)).perm ?_ e3.symm;unfold E9 Kg;refine Ih e3.symm fun s hs=>List.Perm.map _ ?_;obtain⟨y,hy,h1,h2⟩:=R.sid x hx s hs;obtain⟨y',hy',h3,h4,h5⟩:=S.to R.nd hy;show(FZ l s.1).sd.Perm (FZ l' s.1).sd;rw[<-h1,Cw R.nd hy,<-h3,Cw hn' hy'];exact h5.symm
theorem R7(l:List Cl):SimC l (ordF l):=by have hp:=CE l.length l (Nat.le_refl _);refine⟨by rw[hp.length_eq,length_map],(hp.map Cl.id).trans (by rw[map_map];exact List.Perm.refl _),fun x' hx'=>?_⟩;obtain⟨x,hx,rfl⟩:=HJ hx';exact⟨x,hx,rfl,rfl,BB _⟩
theorem Pt(h:o.Pairwise fun a b=>a.id<b.id):(o.map Cl.id).Nodup:=List.pairwise_map.2 (h.imp fun h e=>by omega)
theorem H7(hi:o.Pairwise fun a b=>a.id<b.id)(hy:y∈o):0<=M6 o y.id/\o.getD (M6 o y.id).toNat default=y:=by
 obtain⟨k,hk,rfl⟩:=getElem_of_mem hy;have hc:Kt o o[k].id=k:=N8 (by omega) (fun j hj hjk=>List.pairwise_iff_getElem.1 hi j k hj hk hjk) (fun _=>by omega)
 have e:M6 o o[k].id=(k:Int):=by unfold M6;rw[dif_pos (by rw[hc];exact hk)];simp only[hc,if_pos]
 rw[e];refine⟨by omega,?_⟩;rw[Int.toNat_natCast];simp[List.getD,hk]
theorem Xk{c:Int}(h:0<=M6 o c):∃y∈o,y.id=c/\o.getD (M6 o c).toNat default=y:=by
 unfold M6 at *;split at h
 ·rename_i h1;rw[dif_pos h1];split at h
  ·rename_i h2;rw[if_pos h2,Int.toNat_natCast];exact⟨_,getElem_mem h1,h2,by simp[List.getD,h1]⟩
  ·exact absurd h (by decide)
 ·exact absurd h (by decide)
theorem Rl{l:List (Int×Int)}(h:l.length=2):(l.map Prod.snd).sum=(l.getD 0 (0,0)).2+(l.getD 1 (0,0)).2:=by
 match l,h with
 | [a,b],_=>simp
theorem HV{x:Int×Int}:∀{l:List (Int×Int)},(l.Pairwise fun a b=>a.1<=b.1)->∀y∈l.dropWhile (fun y=>decide (y.1<=x.1)),x.1<y.1
 | [],_,y,hy=>by cases hy
 | a::l,h,y,hy=>by
  rw[List.dropWhile_cons]at hy;split at hy
  ·exact HV (List.pairwise_cons.1 h).2 y hy
  ·rename_i h1;have h1:¬a.1<=x.1:=by simpa using h1
   rcases List.mem_cons.1 hy with rfl|h2
   ·omega
   ·have:=(List.pairwise_cons.1 h).1 y h2;omega
theorem TX{x:Int×Int}{l:List (Int×Int)}(h:l.Pairwise fun a b=>a.1<=b.1):(Ht x l).Pairwise fun a b=>a.1<=b.1:=by
 unfold Ht
 have h1:∀y∈l.takeWhile (fun y=>decide (y.1<=x.1)),y.1<=x.1:=fun y hy=>by have:=List.all_takeWhile (p:=fun y:Int×Int=>decide (y.1<=x.1)) (l:=l);have:=List.all_eq_true.1 this y hy;simpa using this
 have h2:=HV (x:=x) h;refine List.pairwise_append.2 ⟨h.sublist (List.takeWhile_sublist _),List.pairwise_cons.2 ⟨fun y hy=>by have:=h2 y hy;omega,h.sublist (List.dropWhile_sublist _)⟩,fun a ha b hb=>?_⟩;have h3:=h1 a ha;rcases List.mem_cons.1 hb with rfl|hb
 ·exact h3
 ·have:=h2 b hb;omega
theorem E4(l:List (Int×Int)):(BY l).Pairwise fun a b=>a.1<=b.1:=by
 have go:∀(l acc:List (Int×Int)),(acc.Pairwise fun a b=>a.1<=b.1)->(l.foldl (fun acc x=>Ht x acc) acc).Pairwise fun a b=>a.1<=b.1:=fun l=>by
  induction l with
  | nil=>intro acc h;exact h
  | cons x l ih=>intro acc h;rw[List.foldl_cons];exact ih _ (TX h)
 exact go l [] List.Pairwise.nil
theorem QD(hi:o.Pairwise fun a b=>a.id<b.id)(hs:∀s∈x.sd,∃y∈o,y.id=s.1):La o x x.sd.length=E9 o x:=by
 have hx:x.sd=(range x.sd.length).map (Bw x):=List.ext_getElem (by simp) fun j h1 h2=>by simp[Bq h1]
 unfold E9 Kg
 conv=>rhs;rw[hx]
 unfold La;rw[flatMap_map];refine Dw fun j hj=>?_;have hj:=List.mem_range.1 hj;obtain⟨y,hy,e⟩:=hs (Bw x j) (by rw[Bq hj];exact getElem_mem hj);have h1:JT o x j=y:=by unfold JT;rw[<-e];exact(H7 hi hy).2
 have h2:FZ o (Bw x j).1=y:=by rw[<-e];exact Cw (Pt hi) hy
 show _=List.map (fun r=>((Bw x j).1,r.1,(Bw x j).2*r.2)) (FZ o (Bw x j).1).sd;rw[h1,h2]
theorem QE(hi:o.Pairwise fun a b=>a.id<b.id)(hc:∃y:Cl,x=y.can):(∀i,i<x.sd.length->¬EI o x i)<->(∀s∈x.sd,∃y∈o,y.id=s.1/\y.dim=x.dim-1)/\(x.sd.map Prod.fst).Nodup:=by
 have hs:x.sd.Pairwise fun a b=>a.1<=b.1:=by obtain⟨y,rfl⟩:=hc;exact E4 _
 constructor
 ·intro h;refine⟨fun s hs=>?_,?_⟩
  ·obtain⟨i,hi',rfl⟩:=getElem_of_mem hs;have h1:=h i hi';unfold EI at h1;rw[Bq hi']at h1;have h2:0<=M6 o x.sd[i].1:=Int.not_lt.1 fun q=>h1 (.inl q);obtain⟨y,hy,e1,e2⟩:=Xk h2;rw[e2]at h1;exact⟨y,hy,e1,Classical.byContradiction fun q=>h1 (.inr (.inl q))⟩
  ·refine List.pairwise_map.2 (List.pairwise_iff_getElem.2 fun i j hi' hj hij e=>?_);have h1:=h (i+1) (by omega);unfold EI at h1;rw[Bq (by omega),Nat.add_sub_cancel,Bq hi']at h1;refine h1 (.inr (.inr ⟨by omega,?_⟩));have a1:=List.pairwise_iff_getElem.1 hs i (i+1) hi' (by omega) (by omega);rcases (by omega:i+1=j\/i+1<j) with rfl|q
   ·omega
   ·have a2:=List.pairwise_iff_getElem.1 hs (i+1) j (by omega) hj q;omega
 ·rintro⟨h1,h2⟩ i hi' h3;unfold EI at h3;rw[Bq hi']at h3;obtain⟨y,hy,e1,e2⟩:=h1 _ (getElem_mem hi');obtain⟨a1,a2⟩:=H7 hi hy;rw[e1]at a1 a2;rcases h3 with h3|h3|⟨h3,h4⟩
  ·omega
  ·rw[a2]at h3;exact h3 e2
  ·rw[Bq (show i-1<x.sd.length by omega)]at h4;have:=List.pairwise_iff_getElem.1 (List.pairwise_map.1 h2) (i-1) i (by omega) hi' (by omega);exact this h4.symm
theorem It(h:(x.sd.map Prod.fst).Nodup):∀j m,j<m->m<x.sd.length->(Bw x j).1≠(Bw x m).1:=fun j m hjm hm=>by rw[Bq (by omega),Bq hm];exact List.pairwise_iff_getElem.1 (List.pairwise_map.1 h) j m (by omega) hm hjm
theorem RgtF.rgt(R:RgtF o):Rgt o:=by
 have hf:=fun x hx=>Jc (R.fst x hx)
 have hnum:∀x∈o,¬Ck x:=fun x hx q=>by have:=R.fst x hx;unfold Hz at this;rw[if_neg (by have:=(hf x hx).1;omega),if_pos q]at this;exact absurd this (by decide)
 have hb:=fun x hx=>(QE R.inc (R.can x hx)).1 (hf x hx).2.2.1;have hsg:∀x∈o,∀s∈x.sd,s.2=1\/s.2=-1:=fun x hx=>(R.bds hx).2.2;refine⟨R.n,Pt R.inc,R.pos,fun x hx=>(hf x hx).1,hnum,fun x hx=>(hb x hx).2,fun x hx=>(hb x hx).1,hsg,fun x hx hd=>?_,fun x hx hd=>?_⟩
 ·have hl:x.sd.length=2:=Classical.byContradiction fun q=>hnum x hx (.inr (.inl ⟨hd,q⟩));rw[Rl hl];have h1:=hsg x hx _ (getElem_mem (show 0<x.sd.length by omega));have h2:=hsg x hx _ (getElem_mem (show 1<x.sd.length by omega));have h3:=R.fst x hx;unfold Hz at h3;rw[if_neg (by have:=(hf x hx).1;omega),if_neg (hnum x hx),if_neg (fun q=>q (hf x hx).2.2.1),if_neg (fun q=>q (hf x hx).2.2.2)]at h3;rw[<-Bq]at h1 h2;have h4:¬(Bw x 0).2=(Bw x 1).2:=fun q=>by rw[if_pos ⟨hd,q⟩]at h3;exact absurd h3 (by decide)
  show(Bw x 0).2+(Bw x 1).2=0;omega
 ·have h1:=(HS (It (hb x hx).2)).1 (R.snd x hx hd)
  rwa [QD R.inc fun s hs=>by obtain⟨y,hy,e,_⟩:=(hb x hx).1 s hs;exact⟨y,hy,e⟩]at h1
theorem Rgt.ordF(R:Rgt l):RgtF (ordF l):=by
 have R':=R.sim (R7 l);have hle:=Er l.length l (Nat.le_refl _);have hinc:(Go.Proofs.Q.ordF l).Pairwise fun a b=>a.id<b.id:=(hle.and (List.pairwise_map.1 R'.nd)).imp fun h=>by omega
 have hcan:∀x∈Go.Proofs.Q.ordF l,∃y:Cl,x=y.can:=fun x hx=>by obtain⟨a,_,e⟩:=HJ hx;exact⟨a,e⟩
 refine⟨R'.n,hinc,R'.pos,hcan,fun x hx=>?_,fun x hx hd=>?_⟩
 ·have hb:=(QE hinc (hcan x hx)).2 ⟨R'.sid x hx,R'.sds x hx⟩
  have hsg:∀i,i<x.sd.length->¬Cb x i:=fun i hi q=>by unfold Cb at q;rw[Bq hi]at q;have:=R'.sgn x hx _ (getElem_mem hi);omega
  unfold Hz;rw[if_neg (by have:=R'.dim x hx;omega),if_neg (R'.num x hx),if_neg (fun q=>q hb),if_neg (fun q=>q hsg)];by_cases hd:x.dim=1
  ·have hl:x.sd.length=2:=Classical.byContradiction fun q=>R'.num x hx (.inr (.inl ⟨hd,q⟩));have h1:=R'.one x hx hd;rw[Rl hl]at h1;have h2:=R'.sgn x hx _ (getElem_mem (show 0<x.sd.length by omega));rw[<-Bq]at h2;have h3:(Bw x 0).2+(Bw x 1).2=0:=h1;rw[if_neg (fun q=>by have:=q.2;omega)]
  ·rw[if_neg (fun q=>hd q.1)]
 ·refine(HS (It (R'.sds x hx))).2 ?_;rw[QD hinc fun s hs=>by obtain⟨y,hy,e,_⟩:=R'.sid x hx s hs;exact⟨y,hy,e⟩];exact R'.tab x hx hd
end Go.Proofs.Q
namespace Go.Proofs.Q
open Go.Proofs.Tryz
open Go.Eng Go.RowKit
variable {l o:List Cl} {v:Value} {oi:List CeO}
structure CanO(l o:List Cl):Prop where
 ids:(o.map Cl.id).Perm (l.map Cl.id)
 inc:o.Pairwise fun a b=>a.id<=b.id
 mem:∃l':List Cl,l'.Perm l/\o.length=l'.length/\∀i (h:i<o.length) (h':i<l'.length),o[i].id=l'[i].id/\o[i].dim=l'[i].dim/\o[i].sd.Perm l'[i].sd/\o[i].sd.Pairwise fun a b=>a.1<=b.1
theorem CanO.len(C:CanO l o):o.length=l.length:=by obtain⟨l',h1,h2,_⟩:=C.mem;rw[h2,h1.length_eq]
theorem CanO.sim(C:CanO l o):SimC l o:=by obtain⟨l',h1,h2,h3⟩:=C.mem;refine⟨C.len,C.ids,fun x' hx'=>?_⟩;obtain⟨i,hi,rfl⟩:=getElem_of_mem hx';obtain⟨a,b,c,_⟩:=h3 i hi (by omega);exact⟨_,h1.mem_iff.1 (getElem_mem (by omega)),a,b,c⟩
theorem C3{α:Type}(k:α->Int):∀{l l':List α},l.Perm l'->(l.Pairwise fun a b=>k a<=k b)->(l'.Pairwise fun a b=>k a<k b)->l=l'
 | [],l',h,_,_=>(List.nil_perm.1 h).symm
 | a::l,[],h,_,_=>absurd h.length_eq (by simp)
 | a::l,b::l',h,h1,h2=>by
  obtain⟨h3,h4⟩:=List.pairwise_cons.1 h1;obtain⟨h5,h6⟩:=List.pairwise_cons.1 h2;have hb:b∈a::l:=h.mem_iff.2 Mh;have ha:a∈b::l':=h.mem_iff.1 Mh
  have e:a=b:=by
   rcases List.mem_cons.1 ha with e|ha
   ·exact e
   ·have g1:=h5 a ha;rcases List.mem_cons.1 hb with e|hb
    ·exact e.symm
    ·have g2:=h3 b hb;omega
  subst e;rw[C3 k ((List.perm_cons a).1 h) h4 h6]
theorem RgtF.sinc(R:RgtF o):∀x∈o,x.sd.Pairwise fun a b=>a.1<b.1:=fun x hx=>by
 obtain⟨y,e⟩:=R.can x hx;have h1:x.sd.Pairwise fun a b=>a.1<=b.1:=by rw[e];exact E4 _
 have h2:=List.pairwise_map.1 (R.rgt.sds x hx);exact(h1.and h2).imp fun h=>by omega
theorem exO:∀{l:List Ce},(∀a∈l,a.v.oneCell'=true)->∃lo:List CeO,lo.map (fun e=>(⟨e.c,e.v⟩:Ce))=l
 | [],_=>⟨[],rfl⟩
 | a::l,h=>by obtain⟨lo,e⟩:=exO fun b hb=>h b (mem_cons_of_mem _ hb);exact⟨⟨a.c,a.v,h a Mh⟩::lo,by rw[map_cons,e]⟩
def Ku(e:CeO):Ce:=⟨e.c,e.v⟩
theorem IZ(lo:List CeO):(lo.map Ku).flatMap cC=lo.flatMap Hl:=by rw[flatMap_map];rfl
theorem Zn{lo:List CeO}{h:Hp}{ms:List Hp}(R:RdL cC 3 h ms v (lo.map Ku)):RdL Hl 3 h ms v lo:=⟨by have:=R.rd;rwa [IZ,length_map]at this,JN⟩
theorem VV{lo:List CeO}{m:Hp}(O:OwnL Hl 3 52 m v lo):OwnL cC 3 52 m v (lo.map Ku):=⟨by have:=O.own;rwa [IZ,length_map],BX⟩
def StpO(o oi:List CeO)(i:Nat):Prop:=oi.length=o.length/\∀j (h:j<oi.length) (h':j<o.length),oi[j].c.id=o[j].c.id/\oi[j].c.dim=o[j].c.dim/\oi[j].c.sd.Perm o[j].c.sd/\(j<i->oi[j].c.sd.Pairwise fun a b=>a.1<=b.1)
theorem StpO.start(o:List CeO):StpO o o 0:=⟨rfl,fun j h h'=>⟨rfl,rfl,List.Perm.refl _,fun q=>absurd q (by omega)⟩⟩
theorem StpO.step{o:List CeO}{i:Nat}(S:StpO o oi i)(hi:i<oi.length){s:List (Int×Int)}(hp:s.Perm oi[i].c.sd)(hs:s.Pairwise fun a b=>a.1<=b.1){hv:v.oneCell'=true}:StpO o (oi.set i ⟨⟨oi[i].c.id,oi[i].c.dim,s⟩,v,hv⟩) (i+1):=by
 refine⟨by rw[length_set];exact S.1,fun j h h'=>?_⟩;rw[length_set]at h;obtain⟨a,b,c,d⟩:=S.2 j h h';by_cases e:i=j
 ·subst e;simp only[List.getElem_set_self];exact⟨a,b,hp.trans c,fun _=>hs⟩
 ·simp only[List.getElem_set_ne e];exact⟨a,b,c,fun q=>d (by omega)⟩
theorem StpO.can{o:List CeO}(S:StpO o oi o.length)(hp:(o.map CeO.c).Perm l)(hi:o.Pairwise fun a b=>a.c.id<=b.c.id):CanO l (oi.map CeO.c):=by
 have hl:=S.1
 have hid:(oi.map CeO.c).map Cl.id=(o.map CeO.c).map Cl.id:=List.ext_getElem (by simp[hl]) fun i h1 h2=>by simp only[List.getElem_map];exact(S.2 i (by simpa using h1) (by simpa using h2)).1
 refine⟨by rw[hid];exact hp.map _,?_,o.map CeO.c,hp,by simp[hl],fun i h h'=>?_⟩
 ·refine List.pairwise_map.2 ?_;rw[List.pairwise_iff_getElem]at hi ⊢;intro i j h1 h2 hij;have:=hi i j (by omega) (by omega) hij;have e1:=(S.2 i h1 (by omega)).1;have e2:=(S.2 j h2 (by omega)).1;omega
 ·rw[length_map]at h h';simp only[List.getElem_map];obtain⟨a,b,c,d⟩:=S.2 i h h';exact⟨a,b,c,d h'⟩
theorem Vw{i:Nat}{a b:CeO}(h:a∈oi.set i b):a=b\/a∈oi:=(List.mem_or_eq_of_mem_set h).symm
theorem IW(l:List Ce)(v:Value)(hp:Hp)(hn:l.length<=1000000)(hs:∀a∈l,a.c.sd.length<=1000000)(hR:RdC hp v l):FnT Tryz.prog 65 #[.agg #[v]] hp [] (fun r h' ms'=>hp.le h'/\∃m A v',ms'=[m]/\r=.agg #[v']/\OwnL cC 3 52 m v' A/\CanO (l.map Ce.c) (A.map Ce.c)/\∀a∈A,RdL cD 2 h' [] a.v a.c.sd):=by
 have o1:=hR.q.rd.one;obtain⟨lo,e⟩:=exO (fun a ha=>(hR.s a ha).rd.one);have e:lo.map Ku=l:=e;refine Aq func65 ntmps65 rfl rfl (fun w0 hw0=>?_);simp only[AV];refine Au (AX [_] rfl rfl (by rfl) rfl rfl rfl (fun g1=>CJ [.slice none 0 0] rfl AS rfl rfl (fun g2=>Am (Bn 1 rfl fun h1 l1 hS=>?_))));have hR:=hR.up l1;have hA:=Seg.all hS;have c0:∀ms,Cell h1 ms (⟨g1,0,none⟩:Addr) v:=fun ms=>hA 0 _ rfl ms;have hRo:RdL Hl 3 h1 [] v lo:=Zn (by rw[e];exact hR.q);have hlo:lo.length=l.length:=by rw[<-e,length_map]
 refine Au (Qf BI rfl (Ql rfl Bk (c0 _) (Qc call134 rfl (Px lo v h1 hRo (by omega)) (fun r h2 ms2 l2 hF=>?_))));obtain⟨l2',m,o,rfl,hO,hP,hI⟩:=hF;have ovr:=hO.o1;have hol:o.length=l.length:=by rw[hP.length_eq,hlo]
 have hRs:∀a∈o,RdL cD 2 h2 [] a.v a.c.sd/\a.c.sd.length<=1000000:=fun a ha=>by
  have:Ku a∈l:=by rw[<-e];exact List.mem_map.2 ⟨a,hP.mem_iff.1 ha,rfl⟩
  exact⟨(hR.s _ this).up l2,hs _ this⟩
 refine Qm rfl (Am (Ac (Au (Qm rfl (Qx (Ap (hO.rd Mh).rd rfl Bk rfl) rfl (Qm rfl (Am (Af ?_))))))))
 refine Ax (fun q sl h' ms'=>∃(i:Nat) (m:Hp) (oi:List CeO),q=o.length-i/\sl=[(2,.pointer (some ⟨g2,0,none⟩)),(3,r),(9,.int .i64 o.length),(10,.int .i64 i)]/\h2.le h'/\ms'=[m,Be g2 29 [.slice none 0 0]]/\i<=o.length/\OwnL Hl 3 52 m r oi/\StpO o oi i/\∀a∈oi,RdL cD 2 h' [] a.v a.c.sd/\a.c.sd.length<=1000000)
  (o.length-0) _ ⟨0,m,o,rfl,rfl,DS,rfl,by omega,hO,StpO.start o,hRs⟩ Qs ?_
 rintro q sl h3 ms' ⟨i,m,oi,rfl,rfl,l3,rfl,hi,hO,hSt,hRs⟩;have ovr:=hO.o1;have hoil:=hSt.1;refine Au (Qm rfl (Am (Ac ?_)));refine Av rfl (fun hlt=>?_) (fun hlt=>?_)
 ·have hil:i<oi.length:=by omega
  obtain⟨hRi,hRn⟩:=hRs _ (getElem_mem hil);have c2:∀ms,m∈ms->Cell h3 ms (((AF r).add (i*3)).add 2) oi[i].v:=fun ms hm=>(hO.rd hm).cell hil (f:=2) rfl;have ovi:=hRi.rd.one;refine Ag (Ab (Ac (Af (Au (Qm rfl (Qm rfl (Gs (Qm rfl (Qm rfl (Qm rfl (Qm rfl (Qx (AB (i) (hO.rd Mh).rd rfl Bk AG rfl rfl (by omega) (by omega)) rfl (Qf BH rfl (Ql rfl Ci (c2 _ Mh) (Qc call136 rfl (PL oi[i].c.sd oi[i].v h3 hRi hRn) (fun rS h4 ms4 l4 hF=>?_))))))))))))))));obtain⟨l4',mS,s,rfl,hOS,hPS,hIS⟩:=hF;refine Bt hOS fun h5 l5 hRS=>?_;have ovS:=hRS.rd.one;refine Qx (AB (i) (hO.rd Mh).rd rfl Bk AG rfl rfl (by omega) (by omega)) rfl (Qf BH rfl ?_);refine MC 0 i 2 ⟨⟨oi[i].c.id,oi[i].c.dim,s⟩,rS,ovS⟩ [rS] hO rfl PE rfl rfl hRS.rd.cells rfl (fun c hc=>by rw[List.mem_singleton.1 hc];exact ovS) rfl hil (by omega) rfl rfl rfl (fun m' hO'=>?_);refine Aj (Ai (Ab (Ad (Qx (oA rfl) rfl (Qm rfl (Aj ?_))))))
  exact Ak (o.length-(i+1)) _ (by omega) ⟨i+1,m',_,rfl,rfl,AH l3 (AH l4 l5),rfl,by omega,hO',hSt.step hil hPS hIS,fun a ha=>by
   rcases Vw ha with rfl|ha
   ·exact⟨hRS,by show s.length<=_;rw[hPS.length_eq];exact hRn⟩
   ·exact⟨(hRs a ha).1.up (AH l4 l5),(hRs a ha).2⟩⟩ Qs
 ·obtain rfl:i=o.length:=by omega
  have hcan:CanO (l.map Ce.c) (oi.map CeO.c):=hSt.can (by rw[<-e,map_map];exact hP.map _) hI;have hOe:=VV hO
  have hfin:∀a∈oi.map Ku,RdL cD 2 h3 [] a.v a.c.sd:=fun a ha=>by obtain⟨b,hb,rfl⟩:=List.mem_map.1 ha;exact(hRs b hb).1
  have hmm:(oi.map Ku).map Ce.c=oi.map CeO.c:=by rw[map_map];rfl
  obtain⟨ar,cr,rfl,_⟩:=(hO.rd (h:=h3) (ms:=[m]) Mh).rd.ex;refine As (Aa (Aa (Ae (Ab (Au (Qm rfl (Qx (Bb YM [.slice none 0 0] [(0,_)] [_] rfl AS rfl rfl Qt rfl) rfl ?_)))))));refine Sa 1 [_] AS rfl (by simp[Value.oneCell']) ?_;refine Am (Ao ?_);exact Bs (vs:=[_]) 1 rfl rfl CI rfl AS rfl rfl (⟨AH l1 (AH l2 l3),m,oi.map Ku,_,rfl,rfl,hOe,by rw[hmm];exact hcan,hfin⟩)
end Go.Proofs.Q
namespace Go.Proofs.Q
open Go.Proofs.Tryz
open Go.Eng Go.RowKit
def kN(a:Int):Value:=.int .i64 a
theorem Bi:MM Tryz.prog 3 kN BE where
 law:=Maps.int_keyed U3
 inj:=fun a b h=>by unfold kN at h;simpa using h
 key:=fun b h=>⟨_,Maps.keyOf_int_mk U3 (WalkArith.wf_i64 h)⟩
def vC(a:Ce):Value:=.agg (cC a).toArray
theorem KQ(w:World):(zeroValue 52).run Tryz.prog w=.ok (vC default) w:=by rfl
theorem Fo{a h m:Hp}(hl:a.le h)(hd:h.disj m):a.disj m:=fun g=>by
 rcases hd g with e|e
 ·left
  cases ha:a g with
  | none=>rfl
  | some o=>rw[hl g o ha]at e;cases e
 ·exact .inr e
def OS(U:List Ce)(a:Ce):List Ce:=if a.c.id∈U.map (fun b=>b.c.id) then U else U++[a]
def PH(A:List Ce):List Ce:=A.foldl OS []
theorem UU{A:List Ce}{i:Nat}(hi:i<A.length):PH (A.take (i+1))=OS (PH (A.take i)) A[i]:=by unfold PH;rw[List.take_succ_eq_append_getElem hi,foldl_append];rfl
theorem JG:∀(A U:List Ce),∀a∈A.foldl OS U,a∈U\/a∈A
 | [],U,a,h=>.inl h
 | b::A,U,a,h=>by
  rcases JG A (OS U b) a h with h|h
  ·unfold OS at h;split at h
   ·exact .inl h
   ·rcases List.mem_append.1 h with h|h
    ·exact .inl h
    ·rw[List.mem_singleton.1 h];exact .inr Mh
  ·exact .inr (mem_cons_of_mem _ h)
theorem Rn:∀(A U:List Ce),((U++A).map fun a=>a.c.id).Nodup->A.foldl OS U=U++A
 | [],U,_=>by simp
 | a::A,U,h=>by
  have e:OS U a=U++[a]:=by unfold OS;rw[if_neg];intro hm;rw[map_append,List.nodup_append]at h;exact h.2.2 _ hm _ (by simp) rfl
  rw[List.foldl_cons,e,Rn A (U++[a]) (by rwa [append_assoc])];simp
theorem Tq{A:List Ce}(h:(A.map fun a=>a.c.id).Nodup):PH A=A:=by have:=Rn A [] (by simpa using h);simpa[PH] using this
theorem VW:∀(A U:List Ce),(A.foldl OS U).length<=U.length+A.length
 | [],U=>by simp
 | a::A,U=>by
  have h1:=VW A (OS U a);have h2:(OS U a).length<=U.length+1:=by unfold OS;split<;>simp
  rw[List.foldl_cons,length_cons];omega
def E8(U:List Ce):List (Int×Ce):=U.map fun a=>(a.c.id,a)
theorem Od(U:List Ce):(E8 U).map Prod.fst=U.map fun a=>a.c.id:=by unfold E8;rw[map_map];rfl
theorem XR{U:List Ce}{i:Int}{b:Bool}(h:(A9 (E8 U) i).isSome=b):i∈U.map (fun a=>a.c.id)<->b=true:=by
 subst h;rw[<-Od];constructor
 ·intro hm;cases hg:A9 (E8 U) i with
  | some _=>rfl
  | none=>
   exfalso;unfold A9 at hg;rw[Option.map_eq_none_iff,List.find?_eq_none]at hg;obtain⟨p,hp,e⟩:=List.mem_map.1 hm;have:=hg p hp;simp[e]at this
 ·intro hs;refine Classical.byContradiction fun hm=>?_;rw[CF hm]at hs;cases hs
def RdT(h:Hp)(g:Nat)(U:List Ce):Prop:=∃gm m bs vids,Seg h [] ⟨g,0,none⟩ [.map (some gm),vids]/\Cu kN vC gm BE m (E8 U) bs/\m.le h/\RdL cI 1 h [] vids (U.map fun a=>a.c.id)/\∀a∈U,RdL cD 2 h [] a.v a.c.sd
theorem RdT.up{h h':Hp}{g:Nat}{U:List Ce}(R:RdT h g U)(l:h.le h'):RdT h' g U:=by obtain⟨gm,m,bs,vids,h1,h2,h3,h4,h5⟩:=R;exact⟨gm,m,bs,vids,h1.le l,h2,AH h3 l,h4.up l,fun a ha=>(h5 a ha).up l⟩
structure OfOk(l:List Ce):Prop where
 n:l.length<=1000000
 s:∀a∈l,a.c.sd.length<=1000000
 i:∀a∈l,BE a.c.id
theorem Yo(l:List Ce)(v:Value)(hp:Hp)(hK:OfOk l)(hR:RdC hp v l):FnT Tryz.prog 64 #[.agg #[v]] hp [] (fun r h' ms'=>hp.le h'/\ms'=[]/\∃g A,r=.pointer (some ⟨g,0,none⟩)/\CanO (l.map Ce.c) (A.map Ce.c)/\RdT h' g (PH A)):=by
 have o1:=hR.q.rd.one;refine Aq func64 ntmps64 rfl rfl (fun w0 hw0=>?_);simp only[AV];refine Au (AX [_] rfl rfl (by rfl) rfl rfl rfl (fun g1=>Qm rfl (Am (AD fun h1 l1 hS=>?_))));have hR:=hR.up l1;have hA:=Seg.all hS;refine By (Au (CL (K:=kN) (V:=vC) (Ok:=BE) rfl rfl rfl rfl (fun gm mM hM=>Qx (Bb Aaa [.map none,.slice none 0 0] [(0,_)] [_,_] rfl Aat rfl rfl Qt rfl) rfl (AX [_,_] rfl rfl (by rfl) rfl rfl rfl (fun g10=>Qm rfl (Am (Ac (Au (Qx (oG rfl CI AS (Seg.any hS)) rfl (Qc call65 rfl (IW l v h1 hK.n hK.s hR) (fun rC h2 ms2 l2 hF=>?_)))))))))));obtain⟨l2',mA,A,vA,rfl,rfl,hOA,hC,hsA⟩:=hF;refine Bt hOA fun h3 l3 hQ=>?_;have hsA:=fun a ha=>(hsA a ha).up l3;have ovA:=hQ.rd.one;have hAl:A.length=l.length:=by have:=hC.len;rwa [length_map,length_map]at this
 have hAn:A.length<=1000000:=by rw[hAl];exact hK.n
 refine Qx (Eb rfl CI rfl Bk rfl rfl rfl) rfl (Qx (Ap hQ.rd.any rfl Bk rfl) rfl (Qm rfl (Am (Af ?_))))
 refine Ax (fun q sl h' ms'=>∃(i:Nat) (vI:Value) (mI mM:Hp) (bs:List Nat),q=A.length-i/\sl=[(3,.pointer (some ⟨g10,0,none⟩)),(13,vA),(14,.int .i64 A.length),(15,.int .i64 i)]/\h3.le h'/\ms'=[Be g10 115 [.map (some gm),vI],mM,mI]/\i<=A.length/\Cu kN vC gm BE mM (E8 (PH (A.take i))) bs/\OwnL cI 1 3 mI vI ((PH (A.take i)).map fun a=>a.c.id))
  (A.length-0) _ ⟨0,_,Hp.emp,mM,[],rfl,rfl,DS,rfl,by omega,hM,OwnL.nil Bo⟩ Qs ?_
 rintro q sl h4 ms' ⟨i,vI,mI,mM,bs,rfl,rfl,l4,rfl,hi,hM,hOI⟩;have hQ:=hQ.up l4;refine Au (Qm rfl (Am (Ac ?_)));refine Av rfl (fun hlt=>?_) (fun hlt=>?_)
 ·have hil:i<A.length:=by omega
  obtain⟨x,hx⟩:∃x,A[i]=x:=⟨_,rfl⟩
  have hxm:x∈A:=by rw[<-hx];exact getElem_mem hil
  have hU:=UU hil;rw[hx]at hU;obtain⟨U,hUe⟩:∃U,PH (A.take i)=U:=⟨_,rfl⟩
  rw[hUe]at hM hOI hU;have oxv:=(hsA x hxm).rd.one;have hsx:∀ms,Seg h4 ms ((AF vA).add (i*3)) (cC x):=fun ms=>by rw[<-hx];exact(hQ.any (ms:=ms)).seg hil
  have ovI:=hOI.o1;obtain⟨bb,hbb⟩:∃bb,(A9 (E8 U) x.c.id).isSome=bb:=⟨_,rfl⟩
  have hin:=XR hbb;refine Ag (Ab ?_);refine Bd (fun sl h' ms'=>∃(vI:Value) (mI mM:Hp) (bs:List Nat),sl=[(3,.pointer (some ⟨g10,0,none⟩)),(13,vA),(14,.int .i64 A.length),(15,.int .i64 i)]/\h4.le h'/\ms'=[Be g10 115 [.map (some gm),vI],mM,mI]/\Cu kN vC gm BE mM (E8 (OS U x)) bs/\OwnL cI 1 3 mI vI ((OS U x).map fun a=>a.c.id)) ?_ (fun s h ms hI=>?_)
  ·refine Af (Au (Qx (BT (i) hQ.rd.any rfl Bk AG rfl rfl) rfl (Qx (oG rfl EB AG (hsx _)) rfl (CJ [.int .i64 0,.int .i64 0,.slice none 0 0] rfl AG rfl rfl (fun g5=>?_)))));refine Sa 0 [_,_,_] AG rfl (by simp[o1,ovA,oxv,ovI]) ?_;refine Am (AD fun h5 l5 hS5=>?_);have e5:=Seg.all hS5;have e50:∀ms,Cell h5 ms (⟨g5,0,none⟩:Addr) (.int .i64 x.c.id):=fun ms=>e5 0 _ rfl ms;refine Gd fun h6 l6 lB dB LB=>(Gd fun h7 l7 lM dM LM=>?_)
   have e10:=Seg.all (Seg.ofLe (AH lB l7));have e50':∀ms,Cell h7 ms (⟨g5,0,none⟩:Addr) (.int .i64 x.c.id):=fun ms=>(e50 ms).le (AH l6 l7);have e100:∀ms,Cell h7 ms (⟨g10,0,none⟩:Addr) (.map (some gm)):=fun ms=>e10 0 _ rfl ms
   have hid:BE x.c.id:=by obtain⟨y,hy,e,_⟩:=hC.sim.mem x.c (List.mem_map.2 ⟨x,hxm,rfl⟩);obtain⟨z,hz,rfl⟩:=List.mem_map.1 hy;rw[e];exact hK.i z hz
   obtain⟨y,hy⟩:∃y,(A9 (E8 U) x.c.id).getD default=y:=⟨_,rfl⟩
   have oyv:y.v.oneCell'=true:=by
    rw[<-hy];cases hg:A9 (E8 U) x.c.id with
    | none=>rfl
    | some z=>
     unfold A9 at hg;obtain⟨p,hp,rfl⟩:=Option.map_eq_some_iff.1 hg;obtain⟨a,ha,rfl⟩:=List.mem_map.1 (List.mem_of_find?_eq_some hp);have ha:a∈PH (A.take i):=by rw[hUe];exact ha
     rcases JG _ _ a ha with h|h
     ·cases h
     ·exact(hsA a (mem_of_mem_take h)).rd.one
   refine Bd (fun sl h' ms'=>∃g6:Nat,sl=[(3,.pointer (some ⟨g10,0,none⟩)),(5,.pointer (some ⟨g5,0,none⟩)),(7,.bool bb),(13,vA),(14,.int .i64 A.length),(15,.int .i64 i)]/\h7=h'/\ms'=[Be g6 52 (cC y),mI]) ?_ (fun s h ms hI=>?_)
   ·refine BK (n:=13) (bs:=[true,true,true,true,true,true,true,true,true,true,false,false,false]) [true,true,true,true,true,true,true,true,true,true] CT (by kernel_rfl) (by kernel_rfl) rfl rfl (Qq rfl (Qq rfl (QF EG rfl (QL rfl Gu (e100 _) (QF Bx rfl (QL rfl U3 (e50' _) (Qp rfl (ED (V:=vC) (z:=(default:Ce)) x.c.id hy hbb Bi hM lM rfl Gu KQ rfl rfl hid) (Qq rfl (Qq rfl (Qq rfl ?_))))))))));unfold Gg;simp only[cons_append,nil_append];refine Qo 10 rfl (CJ [.int .i64 0,.int .i64 0,.slice none 0 0] rfl AG rfl rfl (fun g6=>Qw (Qo 11 rfl ?_)));refine Sa 0 [_,_,_] AG rfl (by simp[o1,ovA,oxv,ovI,oyv]) ?_;refine Qw (Qo 12 rfl (Qm rfl (Qw (Qe ?_))));exact AC _ ⟨g6,rfl,rfl,rfl⟩ Qs
   ·obtain⟨g6,rfl,rfl,rfl⟩:=hI;refine Ra (Fb LM lM fun h8 q8 b8=>?_);have lB8:(Be g10 115 [.map (some gm),vI]).le h8:=b8 _ (AH lB l7) (Fo lB dM);refine Fb LB lB8 fun h9 q9 b9=>?_;have l59:h5.le h9:=b9 _ (b8 _ (AH l6 l7) (Fo l6 dM)) dB;have l39:h3.le h9:=AH l4 (AH l5 l59);have e50:∀ms,Cell h9 ms (⟨g5,0,none⟩:Addr) (.int .i64 x.c.id):=fun ms=>(e50 ms).le l59;have hS9:=hS5.le l59;refine Au (Qm rfl (Qm rfl (Am ?_)));refine Bv rfl (fun hn=>?_) (fun hn=>?_)
    ·have hbf:bb=false:=by cases bb<;>simp at hn ⊢
     have hni:x.c.id ∉ U.map fun a=>a.c.id:=fun q=>by rw[hin.1 q]at hbf;cases hbf
     have hUU:OS U x=U++[x]:=if_neg hni
     have hset:CM (E8 U) x.c.id x=E8 (U++[x]):=by unfold CM;rw[if_neg (by rw[Od];exact hni)];unfold E8;rw[map_append];rfl
     have hUl:U.length<=i:=by rw[<-hUe];exact Nat.le_trans (VW _ []) (by simp;omega)
     rw[hUU];refine Bd (fun sl h' ms'=>∃(mM:Hp) (bs:List Nat),sl=[(3,.pointer (some ⟨g10,0,none⟩)),(5,.pointer (some ⟨g5,0,none⟩)),(13,vA),(14,.int .i64 A.length),(15,.int .i64 i)]/\h9=h'/\ms'=[Be g10 115 [.map (some gm),vI],mM,mI]/\Cu kN vC gm BE mM (E8 (U++[x])) bs) ?_ (fun s h ms hI=>?_)
     ·refine BK (n:=8) (bs:=[true,true,true,false,true,true,true,false]) [true,true,true,false,true,true,true] CT (by kernel_rfl) (by kernel_rfl) rfl rfl (Qq rfl (Qq rfl (QF EG rfl (QF Bx rfl (QL rfl U3 (e50 _) (Qp rfl (oG rfl EB AG (Seg.any hS9)) ?_))))));unfold Gg;simp only[cons_append,nil_append];refine Qo 3 rfl (Ql rfl Gu (Cell.blk 0 rfl rfl) (Qw (Qo 7 rfl (BC (V:=vC) (z:=undef) 1 x.c.id x Bi hM rfl rfl Gu rfl rfl rfl hid rfl rfl (fun mM' bs' hM'=>Qw (Qe ?_))))));rw[hset]at hM';exact AC _ ⟨mM',bs',rfl,rfl,rfl,hM'⟩ Qs
     ·obtain⟨mM,bs,rfl,rfl,rfl,hM⟩:=hI;refine BK (n:=12) (bs:=[true,true,true,true,false,true,true,false,false,true,true,false]) [true,true,true,true,false,true,true,false,false,true,true] CT (by kernel_rfl) (by kernel_rfl) rfl rfl (Qq rfl (Qq rfl (Qq rfl (QF ML rfl (QF Bx rfl (QL rfl U3 (e50 _) (Qq rfl (QF ML rfl ?_))))))));unfold Gg;simp only[cons_append,nil_append];refine A4 [4,7] (by kernel_rfl) rfl ?_;refine Ay rfl ?_ ?_
      ·refine Ql rfl AU (Cell.blk 0 rfl rfl) (Qw (Qo 7 rfl (Al [_] rfl AU Bg rfl (by rfl) rfl rfl (by omega) rfl rfl rfl (fun g45=>Qw (Qo 8 rfl (AP 3 hOI (RdL.one Bo (x:=x.c.id) Mh rfl) rfl AU Bg rfl (by omega) rfl rfl rfl Cn (by(try simp only[length_singleton,length_map]);omega) (by(try simp only[length_singleton,length_map]);omega) rfl rfl rfl (fun vI2 mI2 hOI2=>?_)))))));have ovI2:=hOI2.o1;refine Qw (Qo 11 rfl ?_);refine AJ 1 _ rfl Cc rfl rfl (by assumption) rfl rfl (by(simp;done)) rfl rfl ?_;refine Qw (Qe ?_);rw[show(U.map fun a=>a.c.id)++[x.c.id]=(U++[x]).map fun a=>a.c.id by rw[map_append];rfl]at hOI2;refine AL (Ai ?_);exact AC _ ⟨vI2,mI2,mM,bs,rfl,AH l5 l59,rfl,hM,hOI2⟩ Qs
      refine Ay rfl ?_ ?_
      ·refine Al [_] rfl AU Bg rfl (by rfl) rfl rfl (by omega) rfl rfl rfl (fun g45=>Qw (Qo 4 rfl (Ql rfl AU (Cell.blk 1 rfl rfl) (Qw (Qo 8 rfl (AP 3 hOI (RdL.one Bo (x:=x.c.id) Mh rfl) rfl AU Bg rfl (by omega) rfl rfl rfl Cn (by(try simp only[length_singleton,length_map]);omega) (by(try simp only[length_singleton,length_map]);omega) rfl rfl rfl (fun vI2 mI2 hOI2=>?_)))))));have ovI2:=hOI2.o1;refine Qw (Qo 11 rfl ?_);refine AJ 1 _ rfl Cc rfl rfl (by assumption) rfl rfl (by(simp;done)) rfl rfl ?_;refine Qw (Qe ?_);rw[show(U.map fun a=>a.c.id)++[x.c.id]=(U++[x]).map fun a=>a.c.id by rw[map_append];rfl]at hOI2;refine AL (Ai ?_);exact AC _ ⟨vI2,mI2,mM,bs,rfl,AH l5 l59,rfl,hM,hOI2⟩ Qs
      exact A3
    ·have hbt:bb=true:=by cases bb<;>simp at hn ⊢
     have hUU:OS U x=U:=if_pos (hin.2 hbt);rw[hUU];refine Ag (Ai ?_);exact AC _ ⟨vI,mI,mM,bs,rfl,AH l5 l59,rfl,hM,hOI⟩ Qs
  ·obtain⟨vI,mI,mM,bs,rfl,k9,rfl,hM,hOI⟩:=hI;refine Ad (Qx (oA rfl) rfl (Qm rfl (Aj ?_)));exact Ak (A.length-(i+1)) _ (by omega) ⟨i+1,vI,mI,mM,bs,rfl,rfl,AH l4 k9,rfl,by omega,by rw[hU];exact hM,by rw[hU];exact hOI⟩ Qs
 ·obtain rfl:i=A.length:=by omega
  rw[take_length]at hM hOI;refine As (Aa (Aa (Ae (Ab (Au (Qm rfl (Qm rfl (Am (Ao (HA fun h5 l5 k5=>(HA fun h6 l6 k6=>(HA fun h7 l7 k7=>?_))))))))))))
  have hT:RdT h7 g10 (PH A):=⟨gm,mM,bs,vI,Seg.ofLe (AH k5 (AH l6 l7)),hM,AH k6 l7,hOI.rdh k7,fun a ha=>by
   rcases JG _ _ a ha with h|h
   ·cases h
   ·exact(hsA a h).up (AH l4 (AH l5 (AH l6 l7)))⟩
  exact Az rfl rfl (⟨AH l1 (AH l2 (AH l3 (AH l4 (AH l5 (AH l6 l7))))),rfl,g10,A,rfl,hC,hT⟩)
end Go.Proofs.Q
namespace Go.Proofs.Q
open Go.Eng Go.RowKit
variable {gM:Nat} {mM:Hp}
def Lb(v:Value):Value:=v
structure OwnMS(gM:Nat)(mM mB:Hp)(T:List (Int×List Int)):Prop where
 ex:∃(Tv:List (Int×Value)) (bs:List Nat),Cu kN Lb gM BE mM Tv bs/\Tv.map Prod.fst=T.map Prod.fst/\Bag T.length (fun l m=>∃p,Tv[l]?=some p/\OwnL cI 1 3 m p.2 ((T.map Prod.snd).getD l [])) mB
theorem OwnMS.start(O:Cu kN Lb gM BE mM ([]:List (Int×Value)) []):OwnMS gM mM Hp.emp []:=⟨[],[],O,rfl,Bag.zero _⟩
theorem GF{ν:Type}{T:List (Int×ν)}{a:Int}(h:a∈T.map Prod.fst):∃(l:Nat) (x:ν),T[l]?=some (a,x):=by obtain⟨p,hp,rfl⟩:=List.mem_map.1 h;obtain⟨l,hl,e⟩:=getElem_of_mem hp;exact⟨l,p.2,by rw[List.getElem?_eq_getElem hl,e]⟩
theorem Lq{ν μ:Type}{T:List (Int×ν)}{T':List (Int×μ)}(h:T'.map Prod.fst=T.map Prod.fst){l:Nat}{a:Int}{x:ν}(e:T[l]?=some (a,x)):∃y,T'[l]?=some (a,y):=by
 have h1:(T'.map Prod.fst)[l]?=(T.map Prod.fst)[l]?:=by rw[h]
 rw[List.getElem?_map,List.getElem?_map,e]at h1;cases h2:T'[l]? with
 | none=>rw[h2]at h1;cases h1
 | some p=>
  rw[h2]at h1;have:p.1=a:=Option.some.inj h1;exact⟨p.2,by rw[<-this]⟩
theorem OwnMS.open{mB:Hp}{T:List (Int×List Int)}(M:OwnMS gM mM mB T)(a:Int):∃(Tv:List (Int×Value)) (bs:List Nat) (v:Value) (m1 m2:Hp),Cu kN Lb gM BE mM Tv bs/\(A9 Tv a).getD (.slice none 0 0)=v/\mB=m1.join m2/\m1.disj m2/\OwnL cI 1 3 m1 v ((A9 T a).getD []) ∧
  ∀v' L' m1' mM' bs',m1'.disj m2->OwnL cI 1 3 m1' v' L'->Cu kN Lb gM BE mM' (CM Tv a v') bs'->OwnMS gM mM' (m1'.join m2) (CM T a L'):=by
 obtain⟨Tv,bs,hO,hK,hB⟩:=M.ex;have hnd:(T.map Prod.fst).Nodup:=by rw[<-hK];exact hO.keys
 have hlen:Tv.length=T.length:=by have:=congrArg List.length hK;simpa using this
 by_cases ha:a∈T.map Prod.fst
 ·obtain⟨l,L,hl⟩:=GF ha;obtain⟨v,hv⟩:=Lq hK hl;have hlT:l<T.length:=(List.getElem?_eq_some_iff.1 hl).1;obtain⟨m1,m2,e,hd,⟨p,hp,hO1⟩,hrest,hclose⟩:=hB.open hlT;have hpv:p=(a,v):=by rw[hv]at hp;exact(Option.some.inj hp).symm
  subst hpv;have hL:(T.map Prod.snd).getD l []=L:=by simp[List.getD,hl]
  rw[hL]at hO1;refine⟨Tv,bs,v,m1,m2,hO,by rw[DL hO.keys hv];rfl,e,hd,by rw[DL hnd hl];exact hO1,fun v' L' m1' mM' bs' hd' hO' hM'=>?_⟩;rw[Ij hO.keys hv]at hM';rw[Ij hnd hl];refine⟨_,bs',hM',by rw[List.map_set,List.map_set,hK],?_⟩;rw[length_set];have hlv:l<Tv.length:=by omega
  refine hclose _ m1' hd' ⟨(a,v'),by rw[List.getElem?_set_self hlv],?_⟩ fun k hk hne x hx=>?_
  ·have:((T.set l (a,L')).map Prod.snd).getD l []=L':=by simp[List.getD,hlT]
   rw[this];exact hO'
  ·obtain⟨p,hp,hx⟩:=hx;refine⟨p,by rw[List.getElem?_set_ne (Ne.symm hne)];exact hp,?_⟩
   have:((T.set l (a,L')).map Prod.snd).getD k []=(T.map Prod.snd).getD k []:=by rw[List.map_set];simp only[List.getD_eq_getElem?_getD];rw[List.getElem?_set_ne (Ne.symm hne)]
   rw[this];exact hx
 ·have haV:a ∉ Tv.map Prod.fst:=by rw[hK];exact ha
  refine⟨Tv,bs,.slice none 0 0,Hp.emp,mB,hO,by rw[CF haV];rfl,(Hp.emp_join mB).symm,fun g=>.inl rfl,by rw[CF ha];exact OwnL.nil Bo,fun v' L' m1' mM' bs' hd' hO' hM'=>?_⟩;have e1:CM Tv a v'=Tv++[(a,v')]:=if_neg haV;have e2:CM T a L'=T++[(a,L')]:=if_neg ha;rw[e1]at hM';rw[e2,Hp.join_comm hd'];refine⟨_,bs',hM',by rw[map_append,map_append,hK];rfl,?_⟩;rw[length_append];refine Bag.snoc (hB.mono fun l hl x hx=>?_) ⟨(a,v'),by rw[<-hlen];simp,?_⟩ (Hp.disj_symm hd')
  ·obtain⟨p,hp,hx⟩:=hx;refine⟨p,by rw[List.getElem?_append_left (by omega)];exact hp,?_⟩
   have:((T++[(a,L')]).map Prod.snd).getD l []=(T.map Prod.snd).getD l []:=by rw[map_append];simp only[List.getD_eq_getElem?_getD];rw[List.getElem?_append_left (by simpa using hl)]
   rw[this];exact hx
  ·have:((T++[(a,L')]).map Prod.snd).getD T.length []=L':=by simp[List.getD]
   rw[this];exact hO'
theorem OwnMS.look{mB h:Hp}{T:List (Int×List Int)}(M:OwnMS gM mM mB T)(hB:mB.le h):∃(Tv:List (Int×Value)) (bs:List Nat),Cu kN Lb gM BE mM Tv bs/\Tv.map Prod.fst=T.map Prod.fst/\(∀l (h1:l<Tv.length) (h2:l<T.length),Tv[l].1=T[l].1/\RdL cI 1 h [] Tv[l].2 T[l].2)/\∀a,RdL cI 1 h [] ((A9 Tv a).getD (.slice none 0 0)) ((A9 T a).getD []):=by
 obtain⟨Tv,bs,hO,hK,hG⟩:=M.ex;have hnd:(T.map Prod.fst).Nodup:=by rw[<-hK];exact hO.keys
 have hat:∀l (h1:l<Tv.length) (h2:l<T.length),Tv[l].1=T[l].1/\RdL cI 1 h [] Tv[l].2 T[l].2:=fun l h1 h2=>by
  obtain⟨x,hx,p,hp,hO1⟩:=hG.all l h2;rw[List.getElem?_eq_getElem h1]at hp;have:=Option.some.inj hp;subst this;have h3:(Tv.map Prod.fst)[l]?=(T.map Prod.fst)[l]?:=by rw[hK]
  rw[List.getElem?_map,List.getElem?_map,List.getElem?_eq_getElem h1,List.getElem?_eq_getElem h2]at h3;refine⟨Option.some.inj h3,?_⟩;have h4:(T.map Prod.snd).getD l []=T[l].2:=by simp[List.getD,h2]
  rw[h4]at hO1;exact hO1.rdh (AH hx hB)
 refine⟨Tv,bs,hO,hK,hat,fun a=>?_⟩;by_cases ha:a∈T.map Prod.fst
 ·obtain⟨l,L,hl⟩:=GF ha;obtain⟨v,hv⟩:=Lq hK hl;rw[DL hO.keys hv,DL hnd hl];obtain⟨h1,e1⟩:=List.getElem?_eq_some_iff.1 hv;obtain⟨h2,e2⟩:=List.getElem?_eq_some_iff.1 hl;have:=(hat l h1 h2).2;rw[e1,e2]at this;exact this
 ·rw[CF ha,CF (by rw[hK];exact ha)];exact⟨Rd.nil _ _ _,Bo⟩
end Go.Proofs.Q
namespace Go.Proofs.Q
open Go.Proofs.Tryz
open Go.Eng Go.RowKit
def Hc(U:List Cl)(x:Cl)(i:Nat):Prop:=(QV U (Bw x i).1).isSome=false\/(FZ U (Bw x i).1).dim≠x.dim-1\/(0<i/\(Bw x (i-1)).1=(Bw x i).1)
instance (U:List Cl) (x:Cl) (i:Nat):Decidable (Hc U x i):=by unfold Hc;infer_instance
def V7(x:Cl)(i:Nat):Int:=((x.sd.take i).map Prod.snd).sum
theorem TM{x:Cl}{i:Nat}(h:i<x.sd.length):V7 x (i+1)=V7 x i+x.sd[i].2:=by unfold V7;rw[List.take_succ_eq_append_getElem h,map_append,List.sum_append];simp
def DC(U:List Cl)(x:Cl):Int:=
 if x.dim<0\/8<x.dim then 21
 else if Ck x then 22
 else if ¬∀i,i<x.sd.length->¬Hc U x i then 22
 else if ¬∀i,i<x.sd.length->¬Cb x i then 23
 else if x.dim=1/\V7 x x.sd.length≠0 then 23 else 0
theorem Q9(U:List Ce)(c:Int):(A9 (E8 U) c).map Ce.c=QV (U.map Ce.c) c:=by unfold A9 E8 QV;rw[List.find?_map,List.find?_map,Option.map_map,Option.map_map];rfl
theorem HP(U:List Ce)(c:Int):((A9 (E8 U) c).getD default).c=FZ (U.map Ce.c) c:=by unfold FZ;rw[<-Q9];cases A9 (E8 U) c<;>rfl
theorem NR(U:List Ce)(c:Int):(A9 (E8 U) c).isSome=(QV (U.map Ce.c) c).isSome:=by rw[<-Q9];cases A9 (E8 U) c<;>rfl
theorem Q7{U:List Ce}{c:Int}{y:Ce}(h:A9 (E8 U) c=some y):y∈U:=by unfold A9 at h;obtain⟨p,hp,rfl⟩:=Option.map_eq_some_iff.1 h;obtain⟨a,ha,rfl⟩:=List.mem_map.1 (List.mem_of_find?_eq_some hp);exact ha
theorem PW{h:Hp}{U:List Ce}(hs:∀a∈U,RdL cD 2 h [] a.v a.c.sd)(c:Int):RdL cD 2 h [] ((A9 (E8 U) c).getD default).v ((A9 (E8 U) c).getD default).c.sd:=by
 cases hg:A9 (E8 U) c with
 | none=>exact⟨Rd.nil _ _ _,Dv⟩
 | some y=>exact hs y (Q7 hg)
theorem WV(U:List Ce)(x:Ce)(g:Nat)(hp:Hp)(hT:RdT hp g U)(hX:RdL cD 2 hp [] x.v x.c.sd)(hd:BE x.c.dim)(hn:x.c.sd.length<=1000000)(hi:∀s∈x.c.sd,BE s.1/\BE s.2):FnT Tryz.prog 76 #[.pointer (some ⟨g,0,none⟩),.agg (cC x).toArray] hp [] (fun r _ _=>r=.int .i64 (DC (U.map Ce.c) x.c)):=by
 have o2:=hX.rd.one;show FnT _ _ #[.pointer (some ⟨g,0,none⟩),.agg #[.int .i64 x.c.id,.int .i64 x.c.dim,x.v]] _ _ _;refine Aq func76 ntmps76 rfl rfl (fun w0 hw0=>?_);simp only[AV];refine Au (AX [_,_,_] rfl rfl (by rfl) rfl rfl rfl (fun g3=>Qm rfl (Am (AD fun h1 l1 hS=>?_))));have hT:=hT.up l1;have hX:=hX.up l1;have hA:=Seg.all hS;have a0:∀ms,Cell h1 ms (⟨g3,0,none⟩:Addr) (.int .i64 x.c.id):=fun ms=>hA 0 _ rfl ms;have a1:∀ms,Cell h1 ms (⟨g3,1,none⟩:Addr) (.int .i64 x.c.dim):=fun ms=>hA 1 _ rfl ms;have a2:∀ms,Cell h1 ms (⟨g3,2,none⟩:Addr) x.v:=fun ms=>hA 2 _ rfl ms;have hd1:=hd.1;have hd2:=hd.2;refine Au (Qf BH rfl (Ql rfl Ci (a2 _) (Qx (Ap hX.rd.any rfl Ci rfl) rfl (Qm rfl (Am ?_)))));refine Bd (fun sl h' ms'=>sl=[(0,.pointer (some ⟨g,0,none⟩)),(3,.pointer (some ⟨g3,0,none⟩))]/\h1=h'/\ms'=[]/\(0<=x.c.dim/\x.c.dim<=8)/\¬Ck x.c) ?_ (fun s h ms hI=>?_)
 ·refine Af (Au (Qf CA rfl (Ql rfl U3 (a1 _) (Qm rfl (Qm rfl ?_)))));refine AR (t:=20) rfl (fun q1=>?_) (fun q1=>?_)
  ·refine Qk rfl (Qk rfl (Qk rfl (Qm rfl (Qm rfl (Am (B6 rfl (Au (Qm rfl (Am (Ao (An (Ah ?_))))))))))));exact Az rfl rfl (by unfold DC;rw[if_pos (.inl q1)])
  ·refine Qg (oF CA rfl) rfl (Qg (oL rfl U3 (a1 _)) rfl (Qg (Dc rfl rfl rfl) rfl (Qm rfl (Qm rfl (Am ?_)))));refine Av rfl (fun q2=>?_) (fun q2=>?_)
   ·refine Ac (Ad (Qm rfl (Am (Ao (An (Ah ?_))))));exact Az rfl rfl (by unfold DC;rw[if_pos (.inr q2)])
   ·have hdb:0<=x.c.dim/\x.c.dim<=8:=by omega
    have e21:¬(x.c.dim<0\/8<x.c.dim):=by omega
    have e22:Ck x.c->DC (U.map Ce.c) x.c=22:=fun h=>by unfold DC;rw[if_neg e21,if_pos h]
    refine Au (Qf CA rfl (Ql rfl U3 (a1 _) (Qm rfl (Qm rfl ?_))));refine AR (t:=29) rfl (fun r0=>?_) (fun r0=>?_)
    ·refine Qg (AA rfl rfl) rfl (Qg (Dc rfl rfl rfl) rfl (Qm rfl (Qm rfl ?_)));refine AR (t:=33) rfl (fun r1=>?_) (fun r1=>?_)
     ·refine Qk rfl (Qk rfl (Qk rfl (Qk rfl (BM rfl rfl rfl rfl rfl rfl (BM rfl rfl rfl rfl rfl rfl (Qk rfl (Qm rfl (Qm rfl (Qk rfl (Qk rfl (Qk rfl (Qk rfl (BM rfl rfl rfl rfl rfl rfl (BM rfl rfl rfl rfl rfl rfl (BM rfl rfl rfl rfl rfl rfl (BM rfl rfl rfl rfl rfl rfl (BM rfl rfl rfl rfl rfl rfl (BM rfl rfl rfl rfl rfl rfl (Qk rfl (Qm rfl (Qm rfl (Am (B6 rfl (Au (Qm rfl (Am (Ao (An (Ah ?_)))))))))))))))))))))))))))));exact Az rfl rfl (by rw[e22 (.inl ⟨r0,by omega⟩)])
     ·refine Qg (oF CA rfl) rfl (Qg (oL rfl U3 (a1 _)) rfl (Qg (Dx rfl rfl rfl) rfl (Qg (AA rfl rfl) rfl (AR (t:=37) rfl (fun hs=>absurd hs (by omega)) (fun hs=>Qk rfl (Qk rfl (Qg (DY rfl rfl rfl) rfl (Qm rfl (Qm rfl (Qg (oF CA rfl) rfl (Qg (oL rfl U3 (a1 _)) rfl (Qg (Dc rfl rfl rfl) rfl (Qg (AA rfl rfl) rfl (AR (t:=46) rfl (fun hs=>absurd hs (by omega)) (fun hs=>Qk rfl (Qk rfl (Qk rfl (BM rfl rfl rfl rfl rfl rfl (BM rfl rfl rfl rfl rfl rfl (Qk rfl (Qg (DY rfl rfl rfl) rfl (Qm rfl (Qm rfl (Am (AO rfl (Ag (Ai ?_)))))))))))))))))))))))))));exact AC _ ⟨rfl,rfl,rfl,hdb,fun q=>by unfold Ck at q;omega⟩ Qs
    ·refine Qk rfl (Qk rfl (Qm rfl (Qm rfl (Qg (oF CA rfl) rfl (Qg (oL rfl U3 (a1 _)) rfl (Qg (Dx rfl rfl rfl) rfl (Qg (AA rfl rfl) rfl ?_)))))));refine AR (t:=37) rfl (fun r2=>?_) (fun r2=>?_)
     ·refine Qg (AA rfl rfl) rfl (Qg (GN rfl rfl rfl) rfl (Qg (EN rfl rfl rfl) rfl (Qm rfl (Qm rfl ?_))));refine AR (t:=42) rfl (fun r3=>?_) (fun r3=>?_)
      ·refine Qk rfl (Qk rfl (Qk rfl (Qk rfl (BM rfl rfl rfl rfl rfl rfl (BM rfl rfl rfl rfl rfl rfl (BM rfl rfl rfl rfl rfl rfl (BM rfl rfl rfl rfl rfl rfl (BM rfl rfl rfl rfl rfl rfl (BM rfl rfl rfl rfl rfl rfl (Qk rfl (Qm rfl (Qm rfl (Am (B6 rfl (Au (Qm rfl (Am (Ao (An (Ah ?_))))))))))))))))))));exact Az rfl rfl (by rw[e22 (.inr (.inl ⟨r2,by omega⟩))])
      ·refine Qg (oF CA rfl) rfl (Qg (oL rfl U3 (a1 _)) rfl (Qg (Dc rfl rfl rfl) rfl (Qg (AA rfl rfl) rfl (AR (t:=46) rfl (fun hs=>absurd hs (by omega)) (fun hs=>Qk rfl (Qk rfl (Qk rfl (BM rfl rfl rfl rfl rfl rfl (BM rfl rfl rfl rfl rfl rfl (Qk rfl (Qg (DY rfl rfl rfl) rfl (Qm rfl (Qm rfl (Am (AO rfl (Ag (Ai ?_)))))))))))))))));exact AC _ ⟨rfl,rfl,rfl,hdb,fun q=>by unfold Ck at q;omega⟩ Qs
     ·refine Qk rfl (Qk rfl (Qg (DY rfl rfl rfl) rfl (Qm rfl (Qm rfl (Qg (oF CA rfl) rfl (Qg (oL rfl U3 (a1 _)) rfl (Qg (Dc rfl rfl rfl) rfl (Qg (AA rfl rfl) rfl ?_))))))));refine AR (t:=46) rfl (fun hs=>?_) (fun hs=>absurd (by omega) hs);refine Qg (AA rfl rfl) rfl (Qg (Db rfl rfl rfl) rfl (Qg (AA rfl rfl) rfl ?_));refine AR (t:=49) rfl (fun r4=>?_) (fun r4=>?_)
      ·refine Qk rfl (Qk rfl (Qg (EN rfl rfl rfl) rfl (Qg (EN rfl rfl rfl) rfl (Qm rfl (Qm rfl (Am (B6 rfl (Au (Qm rfl (Am (Ao (An (Ah ?_)))))))))))));exact Az rfl rfl (by rw[e22 (.inr (.inr ⟨by omega,by omega⟩))])
      ·refine Qg (AA rfl rfl) rfl (Qg (Dc rfl rfl rfl) rfl (Qg (DY rfl rfl rfl) rfl (Qg (EN rfl rfl rfl) rfl (Qm rfl (Qm rfl (Am ?_))))));refine Av rfl (fun r5=>?_) (fun r5=>?_)
       ·refine Ac (Ad (Qm rfl (Am (Ao (An (Ah ?_))))));exact Az rfl rfl (by rw[e22 (.inr (.inr ⟨by omega,by omega⟩))])
       ·refine Ag (Ai ?_);exact AC _ ⟨rfl,rfl,rfl,hdb,fun q=>by unfold Ck at q;omega⟩ Qs
 ·obtain⟨rfl,rfl,rfl,hdb,hnb⟩:=hI;have e21:¬(x.c.dim<0\/8<x.c.dim):=by omega
  have e22:∀i,i<x.c.sd.length->Hc (U.map Ce.c) x.c i->DC (U.map Ce.c) x.c=22:=fun i h q=>by unfold DC;rw[if_neg e21,if_neg hnb,if_pos fun w=>w i h q]
  obtain⟨gm,mM,bs,vids,hSg,hM,lm,hV,hsU⟩:=hT;refine Bd (fun sl h' ms'=>sl=[(0,.pointer (some ⟨g,0,none⟩)),(3,.pointer (some ⟨g3,0,none⟩))]/\h1.le h'/\ms'=[]/\∀i,i<x.c.sd.length->¬Hc (U.map Ce.c) x.c i) ?_ (fun s h ms hI=>?_)
  ·refine Ac (Ad (Qf BH rfl (Ql rfl Ci (a2 _) (Qx (Ap hX.rd.any rfl Ci rfl) rfl (Qm rfl (Am (Af ?_)))))))
   refine Ax (fun q sl h' ms'=>∃(i:Nat),q=x.c.sd.length-i/\sl=[(0,.pointer (some ⟨g,0,none⟩)),(3,.pointer (some ⟨g3,0,none⟩)),(56,x.v),(57,.int .i64 x.c.sd.length),(58,.int .i64 i)]/\h1.le h'/\ms'=[]/\i<=x.c.sd.length/\∀j,j<i->¬Hc (U.map Ce.c) x.c j)
    (x.c.sd.length-0) _ ⟨0,rfl,rfl,DS,rfl,by omega,fun j h=>by omega⟩ Qs ?_
   rintro q sl h2 ms' ⟨i,rfl,rfl,l2,rfl,hil,hno⟩;have hX:=hX.up l2;refine Au (Qm rfl (Am (Ac ?_)));refine Av rfl (fun hlt=>?_) (fun hlt=>?_)
   ·have hil:i<x.c.sd.length:=by omega
    obtain⟨s,hs⟩:∃s,x.c.sd[i]=s:=⟨_,rfl⟩
    have hsA:Bw x.c i=s:=by rw[Bq hil,hs]
    have hsI:=hi s (by rw[<-hs];exact getElem_mem hil);have hsx:∀ms,Seg h2 ms ((AF x.v).add (i*2)) (cD s):=fun ms=>by rw[<-hs];exact(hX.any (ms:=ms)).seg hil
    refine Ag (Ab (Ac (Af (Au (Qm rfl (Qx (BT (i) hX.rd.any rfl Ci AK rfl rfl) rfl (Qx (oG rfl DA AK (hsx _)) rfl (CJ [.int .i64 0,.int .i64 0] rfl AK rfl rfl (fun g7=>Qm rfl ?_)))))))));refine Sa 0 [_,_] AK rfl (by simp[Value.oneCell']) ?_;refine Am (AD fun h3 l3 hS7=>?_);have hX:=hX.up l3;have l13:=AH l2 l3;have e7:=Seg.all hS7;have e70:∀ms,Cell h3 ms (⟨g7,0,none⟩:Addr) (.int .i64 s.1):=fun ms=>e7 0 _ rfl ms;have eT:∀ms,Cell h3 ms (⟨g,0,none⟩:Addr) (.map (some gm)):=fun ms=>(Seg.all hSg 0 _ rfl ms).le l13;obtain⟨bb,hbb⟩:∃bb,(A9 (E8 U) s.1).isSome=bb:=⟨_,rfl⟩
    obtain⟨y,hy⟩:∃y,(A9 (E8 U) s.1).getD default=y:=⟨_,rfl⟩
    have hyr:=PW hsU s.1;rw[hy]at hyr;have oyv:=hyr.rd.one;have hbb':(QV (U.map Ce.c) s.1).isSome=bb:=by rw[<-NR];exact hbb
    have hyc:FZ (U.map Ce.c) s.1=y.c:=by rw[<-HP,hy]
    refine Bd (fun sl h' ms'=>∃g8:Nat,sl=[(0,.pointer (some ⟨g,0,none⟩)),(3,.pointer (some ⟨g3,0,none⟩)),(6,.int .i64 i),(7,.pointer (some ⟨g7,0,none⟩)),(8,.pointer (some ⟨g8,0,none⟩)),(9,.bool bb),(56,x.v),(57,.int .i64 x.c.sd.length),(58,.int .i64 i)]/\h3=h'/\ms'=[Be g8 52 (cC y)]) ?_ (fun s h ms hI=>?_)
    ·refine BK (n:=13) (bs:=[true,true,true,true,true,true,true,true,true,true,false,false,false]) [true,true,true,true,true,true,true,true,true,true] CT (by kernel_rfl) (by kernel_rfl) rfl rfl (Qq rfl (Qq rfl (QF EG rfl (QL rfl Gu (eT _) (QF Cy rfl (QL rfl U3 (e70 _) (Qp rfl (ED (V:=vC) (z:=(default:Ce)) s.1 hy hbb Bi hM (AH lm l13) rfl Gu KQ rfl rfl hsI.1) (Qq rfl (Qq rfl (Qq rfl ?_))))))))));unfold Gg;simp only[cons_append,nil_append];refine Qo 10 rfl (CJ [.int .i64 0,.int .i64 0,.slice none 0 0] rfl AG rfl rfl (fun g8=>Qw (Qo 11 rfl ?_)));refine Sa 0 [_,_,_] AG rfl (by simp[o2,oyv]) ?_;refine Qw (Qo 12 rfl (Qm rfl (Qw (Qe ?_))));exact AC _ ⟨g8,rfl,rfl,rfl⟩ Qs
    ·obtain⟨g8,rfl,rfl,rfl⟩:=hI;refine AD fun h4 l4 hS8=>?_;have hX:=hX.up l4;have e70:∀ms,Cell h4 ms (⟨g7,0,none⟩:Addr) (.int .i64 s.1):=fun ms=>(e70 ms).le l4;have e81:∀ms,Cell h4 ms (⟨g8,1,none⟩:Addr) (.int .i64 y.c.dim):=fun ms=>Seg.all hS8 1 _ rfl ms;have l14:=AH l13 l4;have b1:∀ms,Cell h4 ms (⟨g3,1,none⟩:Addr) (.int .i64 x.c.dim):=fun ms=>(a1 ms).le l14;have b2:∀ms,Cell h4 ms (⟨g3,2,none⟩:Addr) x.v:=fun ms=>(a2 ms).le l14
     have hbad:Hc (U.map Ce.c) x.c i<->bb=false\/y.c.dim≠x.c.dim-1\/(0<i/\(Bw x.c (i-1)).1=s.1):=by unfold Hc;rw[hsA,hbb',hyc]
     have hstep:¬Hc (U.map Ce.c) x.c i->∀j,j<i+1->¬Hc (U.map Ce.c) x.c j:=fun h j hj=>by
      rcases (by omega:j<i\/j=i) with h1|rfl
      ·exact hno j h1
      ·exact h
     refine Ac (Bh 23 CT (by kernel_rfl) rfl (Wm rfl (Wm rfl (Wm rfl ?_))));refine Sp (t:=75) rfl (fun c1=>?_) (fun c1=>?_)
     ·have hbf:bb=false:=by cases bb<;>simp at c1 ⊢
      refine AI rfl rfl rfl rfl rfl (AI rfl rfl rfl rfl rfl (AI rfl rfl rfl rfl rfl (AI rfl rfl rfl rfl rfl (AI rfl rfl rfl rfl rfl (AI rfl rfl rfl rfl rfl (Wm rfl (Wm rfl (AI rfl rfl rfl rfl rfl (AI rfl rfl rfl rfl rfl (AI rfl rfl rfl rfl rfl (BZ rfl rfl rfl rfl (BZ rfl rfl rfl rfl (BZ rfl rfl rfl rfl (BZ rfl rfl rfl rfl (BZ rfl rfl rfl rfl (BZ rfl rfl rfl rfl (BZ rfl rfl rfl rfl (BZ rfl rfl rfl rfl (BZ rfl rfl rfl rfl (Bf (BM rfl rfl rfl rfl rfl rfl (Qk rfl (Qm rfl (Am (B6 rfl (Au (Qm rfl (Am (Ao (An (Ah (Ah (An (Ah ?_))))))))))))))))))))))))))))))))));exact Az rfl rfl (by rw[e22 i hil (hbad.2 (.inl hbf))])
     ·have hbt:bb=true:=by cases bb<;>simp at c1 ⊢
      refine A7 (oF CA rfl) rfl rfl rfl rfl (A7 (oL rfl U3 (e81 _)) rfl rfl rfl rfl (A7 (oF CA rfl) rfl rfl rfl rfl (A7 (oL rfl U3 (b1 _)) rfl rfl rfl rfl (A7 (oS rfl) rfl rfl rfl rfl (A7 (GN rfl rfl rfl) rfl rfl rfl rfl (Wm rfl (Wm rfl ?_)))))));refine DQ (t:=83) rfl (fun c2=>?_) (fun c2=>?_)
      ·refine AI rfl rfl rfl rfl rfl (AI rfl rfl rfl rfl rfl (AI rfl rfl rfl rfl rfl (BZ rfl rfl rfl rfl (BZ rfl rfl rfl rfl (BZ rfl rfl rfl rfl (BZ rfl rfl rfl rfl (BZ rfl rfl rfl rfl (BZ rfl rfl rfl rfl (BZ rfl rfl rfl rfl (BZ rfl rfl rfl rfl (BZ rfl rfl rfl rfl (Bf (BM rfl rfl rfl rfl rfl rfl (Qk rfl (Qm rfl (Am (B6 rfl (Au (Qm rfl (Am (Ao (An (Ah (Ah (An (Ah ?_))))))))))))))))))))))))));exact Az rfl rfl (by rw[e22 i hil (hbad.2 (.inr (.inl c2)))])
      ·refine A7 (AA rfl rfl) rfl rfl rfl rfl (A7 (Dc rfl rfl rfl) rfl rfl rfl rfl (A7 (AA rfl rfl) rfl rfl rfl rfl ?_));refine DQ (t:=86) rfl (fun c3=>?_) (fun c3=>?_)
       ·have hi1:i-1<x.c.sd.length:=by omega
        obtain⟨s',hs'⟩:∃s',x.c.sd[i-1]=s':=⟨_,rfl⟩
        have hsA':Bw x.c (i-1)=s':=by rw[Bq hi1,hs']
        have r0:∀ms,Cell h4 ms ((AF x.v).add ((i-1)*2)) (.int .i64 s'.1):=fun ms=>by rw[<-hs'];exact(hX.any (ms:=ms)).cell0 hi1 rfl
        refine A7 (oF BH rfl) rfl rfl rfl rfl (A7 (oL rfl Ci (b2 _)) rfl rfl rfl rfl (A7 (AA rfl rfl) rfl rfl rfl rfl (A7 (oS rfl) rfl rfl rfl rfl (A7 (BT (i-1) hX.rd.any rfl Ci AK rfl rfl) rfl rfl rfl rfl (A7 (oF Cy rfl) rfl rfl rfl rfl (A7 (oL rfl U3 (r0 _)) rfl rfl rfl rfl (A7 (oF Cy rfl) rfl rfl rfl rfl (A7 (oL rfl U3 (e70 _)) rfl rfl rfl rfl (Bf (Qg (Dx rfl rfl rfl) rfl (Qg (EN rfl rfl rfl) rfl (Qm rfl (Am ?_)))))))))))));refine Av rfl (fun c4=>?_) (fun c4=>?_)
        ·refine Ac (Ad (Qm rfl (Am (Ao (An (Ah (Ah (An (Ah ?_)))))))));exact Az rfl rfl (by rw[e22 i hil (hbad.2 (.inr (.inr ⟨by omega,by rw[hsA'];exact c4⟩)))])
        ·have hok:¬Hc (U.map Ce.c) x.c i:=fun q=>by
          rcases hbad.1 q with q|q|⟨_,q⟩
          ·rw[hbt]at q;cases q
          ·exact c2 q
          ·rw[hsA']at q;exact c4 q
         refine Ag (Ai (Ab (Ad (Qx (oA rfl) rfl (Qm rfl (Aj ?_))))));exact Ak (x.c.sd.length-(i+1)) _ (by omega) ⟨i+1,rfl,rfl,l14,rfl,by omega,hstep hok⟩ Qs
       ·have hok:¬Hc (U.map Ce.c) x.c i:=fun q=>by
         rcases hbad.1 q with q|q|⟨q,_⟩
         ·rw[hbt]at q;cases q
         ·exact c2 q
         ·omega
        refine AI rfl rfl rfl rfl rfl (AI rfl rfl rfl rfl rfl (AI rfl rfl rfl rfl rfl (AI rfl rfl rfl rfl rfl (AI rfl rfl rfl rfl rfl (AI rfl rfl rfl rfl rfl (AI rfl rfl rfl rfl rfl (AI rfl rfl rfl rfl rfl (AI rfl rfl rfl rfl rfl (Bf (Qk rfl (Qg (DY rfl rfl rfl) rfl (Qm rfl (Am (AO rfl (Ag (Ai (Ab (Ad (Qx (oA rfl) rfl (Qm rfl (Aj ?_)))))))))))))))))))));exact Ak (x.c.sd.length-(i+1)) _ (by omega) ⟨i+1,rfl,rfl,l14,rfl,by omega,hstep hok⟩ Qs
   ·obtain rfl:i=x.c.sd.length:=by omega
    refine As (Aa (Aa (Ae ?_)));exact AC _ ⟨rfl,l2,rfl,hno⟩ Qs
  ·obtain⟨rfl,l2,rfl,hno⟩:=hI;have hX:=hX.up l2;have hall:¬¬∀i,i<x.c.sd.length->¬Hc (U.map Ce.c) x.c i:=fun q=>q hno
   have e23:∀i,i<x.c.sd.length->Cb x.c i->DC (U.map Ce.c) x.c=23:=fun i h q=>by unfold DC;rw[if_neg e21,if_neg hnb,if_neg hall,if_pos fun w=>w i h q]
   have b1:∀ms,Cell h ms (⟨g3,1,none⟩:Addr) (.int .i64 x.c.dim):=fun ms=>(a1 ms).le l2;have b2:∀ms,Cell h ms (⟨g3,2,none⟩:Addr) x.v:=fun ms=>(a2 ms).le l2;refine Au (Qm rfl (Am (Ac (Au (Qf BH rfl (Ql rfl Ci (b2 _) (Qx (Ap hX.rd.any rfl Ci rfl) rfl (Qm rfl (Am (Af ?_))))))))))
   refine Ax (fun q sl h' ms'=>∃(i:Nat),q=x.c.sd.length-i/\sl=[(3,.pointer (some ⟨g3,0,none⟩)),(10,.int .i64 (V7 x.c i)),(101,x.v),(102,.int .i64 x.c.sd.length),(103,.int .i64 i)]/\h.le h'/\ms'=[]/\i<=x.c.sd.length/\(-(i:Int)<=V7 x.c i/\V7 x.c i<=i)/\∀j,j<i->¬Cb x.c j)
    (x.c.sd.length-0) _ ⟨0,rfl,rfl,DS,rfl,by omega,by simp[V7],fun j h=>by omega⟩ Qs ?_
   rintro q sl h3 ms' ⟨i,rfl,rfl,l3,rfl,hil,hsb,hns⟩;have hX:=hX.up l3;have b1:∀ms,Cell h3 ms (⟨g3,1,none⟩:Addr) (.int .i64 x.c.dim):=fun ms=>(b1 ms).le l3;refine Au (Qm rfl (Am (Ac ?_)));refine Av rfl (fun hlt=>?_) (fun hlt=>?_)
   ·have hil:i<x.c.sd.length:=by omega
    obtain⟨s,hs⟩:∃s,x.c.sd[i]=s:=⟨_,rfl⟩
    have hsA:Bw x.c i=s:=by rw[Bq hil,hs]
    have hsI:=(hi s (by rw[<-hs];exact getElem_mem hil)).2;have hsx:∀ms,Seg h3 ms ((AF x.v).add (i*2)) (cD s):=fun ms=>by rw[<-hs];exact(hX.any (ms:=ms)).seg hil
    have hss:=TM hil;rw[hs]at hss;have hbs:Cb x.c i<->s.2≠1/\s.2≠-1:=by unfold Cb;rw[hsA]
    have hstep:¬Cb x.c i->∀j,j<i+1->¬Cb x.c j:=fun h j hj=>by
     rcases (by omega:j<i\/j=i) with h1|rfl
     ·exact hns j h1
     ·exact h
    refine Ag (Ab (Ac (Af (Au (Qx (BT (i) hX.rd.any rfl Ci AK rfl rfl) rfl (Qx (oG rfl DA AK (hsx _)) rfl (CJ [.int .i64 0,.int .i64 0] rfl AK rfl rfl (fun g12=>?_))))))));refine Sa 0 [_,_] AK rfl (by simp[Value.oneCell']) ?_;refine Am (AD fun h4 l4 hS12=>?_);have e12:∀ms,Cell h4 ms (⟨g12,1,none⟩:Addr) (.int .i64 s.2):=fun ms=>Seg.all hS12 1 _ rfl ms;refine Ac (Au (Qf Fc rfl (Ql rfl U3 (e12 _) (Qm rfl (Qm rfl ?_)))));refine AR (t:=110) rfl (fun c1=>?_) (fun c1=>?_)
    ·refine Qg (oF Fc rfl) rfl (Qg (oL rfl U3 (e12 _)) rfl (Qg (GN rfl rfl rfl) rfl (Qm rfl (Am ?_))));refine Av rfl (fun c2=>?_) (fun c2=>?_)
     ·refine Ac (Ad (Qm rfl (Am (Ao (Ah (An (Ah (Ah (An (Ah ?_))))))))));exact Az rfl rfl (by rw[e23 i hil (hbs.2 ⟨c1,c2⟩)])
     ·have hok:¬Cb x.c i:=fun q=>c2 (hbs.1 q).2;have h2:s.2=-1:=by omega
      refine Ag (Ab (Ad (Qm rfl (Qf Fc rfl (Ql rfl U3 (e12 _) (Qx (oA rfl) rfl (Qm rfl (Aj (Ai (Ab (Ad (Qx (oA rfl) rfl (Qm rfl (Aj ?_))))))))))))));exact Ak (x.c.sd.length-(i+1)) _ (by omega) ⟨i+1,rfl,by rw[hss],AH l3 l4,rfl,by omega,by rw[hss];omega,hstep hok⟩ Qs
    ·have h2:s.2=1:=by omega
     have hok:¬Cb x.c i:=fun q=>(hbs.1 q).1 h2;refine Qk rfl (Qk rfl (Qk rfl (Qm rfl (Am (AO rfl (Ag (Ab (Ad (Qm rfl (Qf Fc rfl (Ql rfl U3 (e12 _) (Qx (oA rfl) rfl (Qm rfl (Aj (Ai (Ab (Ad (Qx (oA rfl) rfl (Qm rfl (Aj ?_))))))))))))))))))));exact Ak (x.c.sd.length-(i+1)) _ (by omega) ⟨i+1,rfl,by rw[hss],AH l3 l4,rfl,by omega,by rw[hss];omega,hstep hok⟩ Qs
   ·obtain rfl:i=x.c.sd.length:=by omega
    have hs0:¬¬∀i,i<x.c.sd.length->¬Cb x.c i:=fun q=>q hns;refine As (Aa (Aa (Ae (Ab (Ac (Au (Qf CA rfl (Ql rfl U3 (b1 _) (Qm rfl (Qm rfl ?_))))))))));refine AR (t:=123) rfl (fun c1=>?_) (fun c1=>?_)
    ·refine Qg (AA rfl rfl) rfl (Qg (GN rfl rfl rfl) rfl (Qm rfl (Am ?_)));refine Av rfl (fun c2=>?_) (fun c2=>?_)
     ·refine Ac (Ad (Qm rfl (Am (Ao (Ah ?_)))));exact Az rfl rfl (by unfold DC;rw[if_neg e21,if_neg hnb,if_neg hall,if_neg hs0,if_pos ⟨c1,c2⟩])
     ·refine Ag (Ab (Au (Qm rfl (Am (Ao ?_)))));exact Az rfl rfl (by unfold DC;rw[if_neg e21,if_neg hnb,if_neg hall,if_neg hs0,if_neg fun q=>c2 q.2])
    ·refine Qk rfl (Qk rfl (Qm rfl (Am (AO rfl (Ag (Ab (Au (Qm rfl (Am (Ao ?_))))))))));exact Az rfl rfl (by unfold DC;rw[if_neg e21,if_neg hnb,if_neg hall,if_neg hs0,if_neg fun q=>c1 q.1])
end Go.Proofs.Q

namespace Go.Proofs.Q
open Go.Eng Go.RowKit
def Ud(U:List Cl)(x:Cl)(i:Nat):FN:=(FZ U (Bw x i).1).sd.map fun r=>((i:Int),r.1,(Bw x i).2*r.2)
def II(U:List Cl)(x:Cl)(m:Nat):FN:=(range m).flatMap (Ud U x)
theorem NC(U:List Cl)(x:Cl)(m:Nat):II U x (m+1)=II U x m++Ud U x m:=by unfold II;rw[range_succ,List.flatMap_append];simp
theorem Mn(U:List Cl)(x:Cl)(h:∀i,i<x.sd.length->(FZ U (Bw x i).1).sd.length<=64):∀m,m<=x.sd.length->(II U x m).length<=64*m
 | 0,_=>by simp[II]
 | m+1,hm=>by have:=Mn U x h m (by omega);have:=h m (by omega);rw[NC,length_append];unfold Ud;rw[length_map];omega
def Cv(E:FN):List (Int×Int):=E.foldl (fun T e=>CM T e.2.1 ((A9 T e.2.1).getD 0+e.2.2)) []
def Fz(E:FN):List (Int×List Int):=E.foldl (fun T e=>CM T e.2.1 ((A9 T e.2.1).getD []++[e.1])) []
theorem Gb(E:FN)(e:Int×Int×Int):Cv (E++[e])=CM (Cv E) e.2.1 ((A9 (Cv E) e.2.1).getD 0+e.2.2):=by unfold Cv;rw[foldl_append];rfl
theorem FE(E:FN)(e:Int×Int×Int):Fz (E++[e])=CM (Fz E) e.2.1 ((A9 (Fz E) e.2.1).getD []++[e.1]):=by unfold Fz;rw[foldl_append];rfl
theorem Da{α:Type}{P:List α->Prop}(h0:P [])(h1:∀l a,P l->P (l++[a]))(l:List α):P l:=by
 have:∀r:List α,P r.reverse:=fun r=>by
  induction r with
  | nil=>exact h0
  | cons a r ih=>rw[List.reverse_cons];exact h1 _ _ ih
 have:=this l.reverse
 rwa [List.reverse_reverse]at this
theorem I6(c:Int):∀E:FN,(A9 (Cv E) c).getD 0=DP E c:=Da rfl fun E e ih=>by
 rw[Gb,Df,Lg];by_cases h:c=e.2.1
 ·subst h;rw[if_pos rfl,if_pos rfl,<-ih];rfl
 ·rw[if_neg h,if_neg (fun q=>h q.symm),ih,Int.add_zero]
theorem EV{ν:Type}(T:List (Int×ν))(a:Int)(x:ν)(c:Int):c∈(CM T a x).map Prod.fst<->c=a\/c∈T.map Prod.fst:=by
 unfold CM;split
 ·rename_i h
  have e:(T.map fun p=>if p.1=a then(a,x) else p).map Prod.fst=T.map Prod.fst:=by
   rw[map_map];refine List.map_congr_left fun p _=>?_;show(if p.1=a then(a,x) else p).1=p.1;by_cases q:p.1=a
   ·rw[if_pos q];exact q.symm
   ·rw[if_neg q]
  rw[e];exact⟨.inr,fun q=>by rcases q with rfl|q;exact h;exact q⟩
 ·rw[map_append,mem_append];simp only[map_cons,List.map_nil,mem_singleton];exact⟨fun q=>q.symm,fun q=>q.symm⟩
theorem KZ(c:Int):∀E:FN,c∈(Cv E).map Prod.fst<->∃e∈E,e.2.1=c:=Da ⟨fun h=>by simp[Cv]at h,fun⟨e,he,_⟩=>by cases he⟩ fun E e ih=>by
 rw[Gb,EV,ih];constructor
 ·rintro(rfl|⟨e',he,h⟩)
  ·exact⟨e,mem_append_right _ Mh,rfl⟩
  ·exact⟨e',mem_append_left _ he,h⟩
 ·rintro⟨e',he,h⟩;rcases List.mem_append.1 he with he|he
  ·exact .inr ⟨e',he,h⟩
  ·rw[List.mem_singleton.1 he]at h;exact .inl h.symm
theorem Sb(c:Int):∀E:FN,c∈(Fz E).map Prod.fst<->∃e∈E,e.2.1=c:=Da ⟨fun h=>by simp[Fz]at h,fun⟨e,he,_⟩=>by cases he⟩ fun E e ih=>by
 rw[FE,EV,ih];constructor
 ·rintro(rfl|⟨e',he,h⟩)
  ·exact⟨e,mem_append_right _ Mh,rfl⟩
  ·exact⟨e',mem_append_left _ he,h⟩
 ·rintro⟨e',he,h⟩;rcases List.mem_append.1 he with he|he
  ·exact .inr ⟨e',he,h⟩
  ·rw[List.mem_singleton.1 he]at h;exact .inl h.symm
theorem NN(c:Int):∀E:FN,(A9 (Fz E) c).getD []=(E.filter fun e=>decide (e.2.1=c)).map fun e=>e.1:=Da rfl fun E e ih=>by
 rw[FE,Df,List.filter_append,map_append,<-ih];by_cases h:c=e.2.1
 ·subst h;rw[if_pos rfl];simp
 ·rw[if_neg h];simp[Ne.symm h]
theorem Hu(E:FN)(c:Int):ER E c=((E.filter fun e=>decide (e.2.1=c)).length:Int):=by
 induction E with
 | nil=>rfl
 | cons e E ih=>
  unfold ER at *;rw[map_cons,sum_cons,ih,List.filter_cons];by_cases h:e.2.1=c
  ·simp[h];omega
  ·simp[h]
theorem Zi(E:FN)(c:Int)(h:∀e∈E,e.2.2=1\/e.2.2=-1):-(E.length:Int)<=DP E c/\DP E c<=E.length:=by
 induction E with
 | nil=>exact⟨Int.le_refl _,Int.le_refl _⟩
 | cons e E ih=>
  have h1:=ih fun e he=>h e (mem_cons_of_mem _ he);have h2:=h e Mh;unfold DP at *;rw[map_cons,sum_cons,length_cons];split<;>omega
theorem Rh(E:FN):((Cv E).map Prod.fst).Nodup:=by refine Da (P:=fun E=>((Cv E).map Prod.fst).Nodup) (by simp[Cv]) (fun E e ih=>?_) E;rw[Gb];exact G2 ih _ _
theorem YQ(E:FN):((Fz E).map Prod.fst).Nodup:=by refine Da (P:=fun E=>((Fz E).map Prod.fst).Nodup) (by simp[Fz]) (fun E e ih=>?_) E;rw[FE];exact G2 ih _ _
def EC(T:List (Int×List Int))(a b:Int):List (Int×List Int):=CM T a ((A9 T a).getD []++[b])
def Eo(P:List (Int×Int)):List (Int×List Int):=P.foldl (fun T p=>EC (EC T p.1 p.2) p.2 p.1) []
theorem Hy(P:List (Int×Int))(p:Int×Int):Eo (P++[p])=EC (EC (Eo P) p.1 p.2) p.2 p.1:=by unfold Eo;rw[foldl_append];rfl
theorem Ll(T:List (Int×List Int))(a b c k:Int):k∈(A9 (EC T a b) c).getD []<->k∈(A9 T c).getD []\/(c=a/\k=b):=by
 unfold EC;rw[Df];by_cases h:c=a
 ·subst h;simp
 ·simp[h]
theorem Sn(c k:Int):∀P:List (Int×Int),k∈(A9 (Eo P) c).getD []<->(c,k)∈P\/(k,c)∈P:=Da ⟨fun h=>by simp[Eo,A9]at h,fun h=>by simp at h⟩ fun P p ih=>by
 rw[Hy,Ll,Ll,ih,mem_append,mem_append,mem_singleton,mem_singleton];constructor
 ·rintro((h|⟨rfl,rfl⟩)|⟨rfl,rfl⟩)
  ·rcases h with h|h
   ·exact .inl (.inl h)
   ·exact .inr (.inl h)
  ·exact .inl (.inr rfl)
  ·exact .inr (.inr rfl)
 ·rintro((h|rfl)|(h|rfl))
  ·exact .inl (.inl (.inl h))
  ·exact .inl (.inr ⟨rfl,rfl⟩)
  ·exact .inl (.inl (.inr h))
  ·exact .inr ⟨rfl,rfl⟩
theorem IE(T:List (Int×List Int))(a b:Int)(B:Nat)(h:∀c,((A9 T c).getD []).length<=B):∀c,((A9 (EC T a b) c).getD []).length<=B+1:=fun c=>by
 unfold EC;rw[Df];have h1:=h c;by_cases e:c=a
 ·subst e;simp;omega
 ·rw[if_neg e];omega
theorem Lj:∀P:List (Int×Int),∀c,((A9 (Eo P) c).getD []).length<=2*P.length:=Da (fun c=>by simp[Eo,A9]) fun P p ih c=>by rw[Hy,length_append,length_singleton];have:=IE _ p.2 p.1 _ (IE _ p.1 p.2 _ ih) c;omega
inductive Rch (J:Int->List Int):Int->Int->Prop
 | refl (a:Int):Rch J a a
 | step {a b k:Int}:Rch J a b->k∈J b->Rch J a k
theorem Rch.trans{J:Int->List Int}{a b c:Int}(h:Rch J a b)(h':Rch J b c):Rch J a c:=by
 induction h' with
 | refl=>exact h
 | step _ h1 ih=>exact .step ih h1
theorem Wc{E:FN}(h2:∀e∈E,ER E e.2.1=2){J:Int->List Int}(hJ:∀a k,k∈J a<->∃c p q,(E.filter fun e=>decide (e.2.1=c)).map (fun e=>e.1)=[p,q]/\((a=p/\k=q)\/(a=q/\k=p)))(a b:Int):Con E a b<->Rch J a b:=by
 have hin:∀{c p:Int} {l},(E.filter fun e=>decide (e.2.1=c)).map (fun e=>e.1)=l->p∈l->∃w,(p,c,w)∈E:=fun {c p l} e hp=>by rw[<-e]at hp;obtain⟨x,hx,rfl⟩:=List.mem_map.1 hp;obtain⟨h3,h4⟩:=List.mem_filter.1 hx;have h4:=of_decide_eq_true h4;exact⟨x.2.2,by rw[<-h4];exact h3⟩
 constructor
 ·intro h
  induction h with
  | refl=>exact .refl _
  | @step b d c w w' _ h3 h4 ih=>
   have hc:=h2 _ h3;rw[Hu]at hc;obtain⟨L,hL⟩:∃L,(E.filter fun e=>decide (e.2.1=c)).map (fun e=>e.1)=L:=⟨_,rfl⟩
   have hl:L.length=2:=by rw[<-hL,length_map];have hc:((E.filter fun e=>decide (e.2.1=c)).length:Int)=2:=hc;omega
   match L,hl with
   | [p,q],_=>
    have m1:b∈[p,q]:=by rw[<-hL];exact List.mem_map.2 ⟨_,List.mem_filter.2 ⟨h3,decide_eq_true rfl⟩,rfl⟩
    have m2:d∈[p,q]:=by rw[<-hL];exact List.mem_map.2 ⟨_,List.mem_filter.2 ⟨h4,decide_eq_true rfl⟩,rfl⟩
    simp only[mem_cons,List.not_mem_nil,or_false]at m1 m2;by_cases e:b=d
    ·subst e;exact ih
    ·refine .step ih ((hJ b d).2 ⟨c,p,q,hL,?_⟩);rcases m1 with m1|m1<;>rcases m2 with m2|m2
     ·exact absurd (m1.trans m2.symm) e
     ·exact .inl ⟨m1,m2⟩
     ·exact .inr ⟨m1,m2⟩
     ·exact absurd (m1.trans m2.symm) e
 ·intro h
  induction h with
  | refl=>exact .refl _
  | @step b k _ h3 ih=>
   obtain⟨c,p,q,hL,h4⟩:=(hJ b k).1 h3;obtain⟨w1,m1⟩:=hin hL Mh;obtain⟨w2,m2⟩:=hin hL (mem_cons_of_mem _ Mh);rcases h4 with ⟨rfl,rfl⟩|⟨rfl,rfl⟩
   ·exact .step ih m1 m2
   ·exact .step ih m2 m1
noncomputable def TZ(E:FN)(n:Nat):Int:=
 open Classical in
 if ¬∀e∈E,DP E e.2.1=0 then 24
 else if ¬∀e∈E,ER E e.2.1=2 then 25
 else if ¬(0<n/\∀i:Nat,i<n->Con E 0 i) then 25 else 0
open Go.Proofs.Tryz
variable {T:List (Int×Bool)} {n:Nat}
def vB(b:Bool):Value:=.bool b
theorem T7(w:World):(zeroValue 4).run Tryz.prog w=.ok (vB false) w:=by rfl
theorem JY(w:World):(zeroValue 22).run Tryz.prog w=.ok (Lb (.slice none 0 0)) w:=by rfl
abbrev GH(T:List (Int×Bool)):List Int:=T.map Prod.fst
def Ol(T:List (Int×Bool)):Prop:=∀p∈T,p.2=true
theorem K3(h:Ol T)(a:Int):(A9 T a).getD false=decide (a∈GH T):=by
 by_cases ha:a∈GH T
 ·rw[decide_eq_true ha];cases hg:A9 T a with
  | none=>
   exfalso;unfold A9 at hg;rw[Option.map_eq_none_iff,List.find?_eq_none]at hg;obtain⟨p,hp,e⟩:=List.mem_map.1 ha;have:=hg p hp;simp[e]at this
  | some b=>
   unfold A9 at hg;obtain⟨p,hp,rfl⟩:=Option.map_eq_some_iff.1 hg;exact h p (List.mem_of_find?_eq_some hp)
 ·rw[decide_eq_false ha,CF ha];rfl
theorem Nk(h:Ol T)(a:Int):Ol (CM T a true):=fun p hp=>by
 unfold CM at hp;split at hp
 ·obtain⟨q,hq,rfl⟩:=List.mem_map.1 hp;split
  ·rfl
  ·exact h q hq
 ·rcases List.mem_append.1 hp with hp|hp
  ·exact h p hp
  ·rw[List.mem_singleton.1 hp]
def Yz(n:Nat)(T:List (Int×Bool)):Nat:=((range n).filter fun(j:Nat)=>decide ((j:Int) ∉ GH T)).length
theorem S8{T':List (Int×Bool)}(h:∀x∈GH T,x∈GH T'):Yz n T'<=Yz n T:=by refine Go.Kuhn.nodup_le _ _ (List.Pairwise.filter _ List.nodup_range) fun x hx=>?_;obtain⟨h1,h2⟩:=List.mem_filter.1 hx;exact List.mem_filter.2 ⟨h1,decide_eq_true fun q=>of_decide_eq_true h2 (h _ q)⟩
theorem Zk{i:Nat}(hi:i<n)(hn:(i:Int) ∉ GH T)(b:Bool):Yz n (CM T (i:Int) b)+1<=Yz n T:=by
 have h1:(i::(range n).filter fun(j:Nat)=>decide ((j:Int) ∉ GH (CM T (i:Int) b))).Nodup:=by refine List.nodup_cons.2 ⟨fun q=>?_,List.Pairwise.filter _ List.nodup_range⟩;have:=of_decide_eq_true (List.mem_filter.1 q).2;exact this ((EV T _ _ _).2 (.inl rfl))
 have h2:=Go.Kuhn.nodup_le _ ((range n).filter fun(j:Nat)=>decide ((j:Int) ∉ GH T)) h1 fun x hx=>by
  rcases List.mem_cons.1 hx with rfl|hx
  ·exact List.mem_filter.2 ⟨List.mem_range.2 hi,decide_eq_true hn⟩
  ·obtain⟨h3,h4⟩:=List.mem_filter.1 hx;exact List.mem_filter.2 ⟨h3,decide_eq_true fun q=>of_decide_eq_true h4 ((EV T _ _ _).2 (.inr q))⟩
 unfold Yz;rw[length_cons]at h2;exact h2
structure ZF(J:Int->List Int)(n:Nat)(T T':List (Int×Bool))(i:Int):Prop where
 sub:∀x∈GH T,x∈GH T'
 me:i∈GH T'
 new:∀x∈GH T',x ∉ GH T->(Rch J i x/\∀k∈J x,k∈GH T')/\0<=x/\x<n
structure Aan(h:Hp)(gS gJ g16 g13 g17:Nat)(mM mB:Hp)(TJ:List (Int×List Int))(J:Int->List Int)(n:Nat):Prop where
 s:∀ms,Cell h ms (⟨g16,0,none⟩:Addr) (.map (some gS))
 j:∀ms,Cell h ms (⟨g13,0,none⟩:Addr) (.map (some gJ))
 f:∀ms,Cell h ms (⟨g17,0,none⟩:Addr) (.func (.func 142) #[] #[.pointer (some ⟨g16,0,none⟩),.pointer (some ⟨g13,0,none⟩),.pointer (some ⟨g17,0,none⟩)])
 m:OwnMS gJ mM mB TJ
 lM:mM.le h
 lB:mB.le h
 e:∀a,J a=(A9 TJ a).getD []
 nb:∀a,∀k∈J a,0<=k/\k<n
 l:∀a,(J a).length<=1000000
 b:n<=1000000
theorem Ty{h:Hp}{gS gJ g16 g13 g17:Nat}{mM mB:Hp}{TJ:List (Int×List Int)}{J:Int->List Int}(V:Aan h gS gJ g16 g13 g17 mM mB TJ J n):∀(F:Nat) (i:Nat) (T:List (Int×Bool)) (bs:List Nat) (mS:Hp),i<n->Cu kN vB gS BE mS T bs->Ol T->Yz n T<F->FnT Tryz.prog 142 #[.int .i64 i,.pointer (some ⟨g16,0,none⟩),.pointer (some ⟨g13,0,none⟩),.pointer (some ⟨g17,0,none⟩)] h [mS] (fun _ h' ms'=>h=h'/\∃mS' T' bs',ms'=[mS']/\Cu kN vB gS BE mS' T' bs'/\Ol T'/\ZF J n T T' i):=by
 intro F
 induction F with
 | zero=>
  intro i T bs mS hi hO hA hF;omega
 | succ F ih=>
  intro i T bs mS hi hO hA hF;have hb:=V.b;have hiI:BE (i:Int):=by unfold BE;omega
  have hs1:=V.s;have hj1:=V.j;have hf1:=V.f;refine Aq func142 ntmps142 rfl rfl (fun w0 hw0=>?_);simp only[AV];refine Au (Ql rfl XP (hs1 _) (Qm rfl (Qx (Ha (V:=vB) (z:=false) (i:Int) Bi hO (by simp) rfl XP T7 rfl rfl hiI) rfl ?_)));rw[K3 hA];refine Qm rfl (Am ?_);refine Bv rfl (fun hn=>?_) (fun hn=>?_)
  ·have hni:(i:Int) ∉ GH T:=fun q=>by rw[decide_eq_true q]at hn;cases hn
   obtain⟨Tv,bsv,hMv,hKv,_,hRv⟩:=V.m.look V.lB;obtain⟨vL,hvL⟩:∃vL,(A9 Tv (i:Int)).getD (.slice none 0 0)=vL:=⟨_,rfl⟩
   have hRL:=hRv (i:Int);rw[hvL,<-V.e]at hRL;have ovL:=hRL.rd.one;have hLl:=V.l (i:Int);have hLn:=V.nb (i:Int);obtain⟨L,hL⟩:∃L,J (i:Int)=L:=⟨_,rfl⟩
   rw[hL]at hRL hLl hLn;refine Au (Ql rfl XP (hs1 _) (Qm rfl (BC (V:=vB) (z:=undef) 0 (i:Int) true Bi hO rfl rfl XP rfl rfl rfl hiI rfl rfl (fun mS1 Fj hO1=>?_))));have hA1:=Nk hA (i:Int);have hU1:=Zk hi hni true;obtain⟨T1,hT1⟩:∃T1,CM T (i:Int) true=T1:=⟨_,rfl⟩
   have hk1:∀x,x∈GH T1<->x=(i:Int)\/x∈GH T:=fun x=>by rw[<-hT1];exact EV T _ _ x
   rw[hT1]at hO1 hA1 hU1;refine BG (Ql rfl FV (hj1 _) (Qm rfl (Qx (JX (V:=Lb) (z:=(Value.slice none 0 0)) (i:Int) Bi hMv V.lM rfl FV JY rfl rfl hiI) rfl ?_)));rw[hvL];refine Qx (Ap hRL.rd.any rfl AU rfl) rfl (Qm rfl (Am (Af ?_)))
   refine Ax (fun q sl h' ms'=>∃(t:Nat) (Tt:List (Int×Bool)) (bt:List Nat) (mt:Hp),q=L.length-t/\sl=[(3,.pointer (some ⟨g17,0,none⟩)),(15,vL),(16,.int .i64 L.length),(17,.int .i64 t)]/\h=h'/\ms'=[mt]/\t<=L.length/\Cu kN vB gS BE mt Tt bt/\Ol Tt/\(∀x∈GH T1,x∈GH Tt)/\(∀x∈GH Tt,x ∉ GH T1->(Rch J i x/\∀k∈J x,k∈GH Tt)/\0<=x/\x<n)/\∀j (hj:j<L.length),j<t->L[j]∈GH Tt)
    (L.length-0) _ ⟨0,T1,Fj,mS1,rfl,rfl,rfl,rfl,by omega,hO1,hA1,fun x hx=>hx,fun x h1 h2=>absurd h1 h2,fun j hj h=>by omega⟩ Qs ?_
   rintro q sl h' ms' ⟨t,Tt,bt,mt,rfl,rfl,rfl,rfl,htl,hOt,hAt,hsub,hnew,hdone⟩;refine Au (Qm rfl (Am (Ac ?_)));refine Av rfl (fun hlt=>?_) (fun hlt=>?_)
   ·have htl:t<L.length:=by omega
    obtain⟨k,hk⟩:∃k,L[t]=k:=⟨_,rfl⟩
    have hkm:k∈L:=by rw[<-hk];exact getElem_mem htl
    obtain⟨hk0,hkn⟩:=hLn k hkm;obtain⟨kn,rfl⟩:=Int.eq_ofNat_of_zero_le hk0;have ck:∀ms,Cell h ms ((AF vL).add (t*1)) (.int .i64 (kn:Int)):=fun ms=>by rw[<-hk];exact(hRL.any (ms:=ms)).cell0 htl rfl
    refine Ag (Ab (Ac (Af (Au (Qx (BT (t) hRL.rd.any rfl AU Bg rfl rfl) rfl (Ql rfl U3 (ck _) (Qm rfl (Gs (Ql rfl Aac (hf1 _) (Qm rfl ?_))))))))));refine G5 (pre:=[mt]) rfl rfl call142 rfl (ih kn Tt bt mt (by omega) hOt hAt (by have:=S8 (n:=n) hsub;omega)) rfl rfl rfl rfl (fun v' h' pre' l' hF=>?_);obtain⟨rfl,m2,T2,b2,rfl,hO2,hA2,R2⟩:=hF;simp only[cons_append,nil_append,append_nil];have hrk:Rch J i (kn:Int):=.step (.refl _) (by rw[hL];exact hkm);refine Aj (Ai (Ab (Ad (Qx (oA rfl) rfl (Qm rfl (Aj ?_))))))
    exact Ak (L.length-(t+1)) _ (by omega) ⟨t+1,T2,b2,m2,rfl,rfl,rfl,rfl,by omega,hO2,hA2,fun x hx=>R2.sub x (hsub x hx),fun x h1 h2=>by
     by_cases hx:x∈GH Tt
     ·obtain⟨⟨q1,q2⟩,q3⟩:=hnew x hx h2;exact⟨⟨q1,fun k hk=>R2.sub k (q2 k hk)⟩,q3⟩
     ·obtain⟨⟨q1,q2⟩,q3⟩:=R2.new x h1 hx;exact⟨⟨hrk.trans q1,q2⟩,q3⟩,fun j hj hjt=>by
     rcases (by omega:j<t\/j=t) with h1|rfl
     ·exact R2.sub _ (hdone j hj h1)
     ·rw[hk];exact R2.me⟩ Qs
   ·obtain rfl:t=L.length:=by omega
    have hV:ZF J n T Tt i:=by
     have hall:∀k∈J (i:Int),k∈GH Tt:=fun k hk=>by rw[hL]at hk;obtain⟨j,hj,rfl⟩:=getElem_of_mem hk;exact hdone j hj hj
     refine⟨fun x hx=>hsub x ((hk1 x).2 (.inr hx)),hsub _ ((hk1 _).2 (.inl rfl)),fun x h1 h2=>?_⟩;by_cases hx:x=(i:Int)
     ·subst hx;exact⟨⟨.refl _,hall⟩,by omega,by omega⟩
     ·exact hnew x h1 fun q=>by
       rcases (hk1 x).1 q with q|q
       ·exact hx q
       ·exact h2 q
    refine As (Aa (Aa (Ae ?_)));exact BN rfl (⟨rfl,mt,Tt,bt,rfl,hOt,hAt,hV⟩)
  ·have him:(i:Int)∈GH T:=Classical.byContradiction fun q=>by rw[decide_eq_false q]at hn;cases hn
   refine Ag ?_;exact BN rfl (⟨rfl,mS,T,bs,rfl,hO,hA,fun x hx=>hx,him,fun x h1 h2=>absurd h1 h2⟩)
end Go.Proofs.Q

namespace Go.Proofs.Q
open Go.Proofs.Tryz
open Go.Eng Go.RowKit
theorem Hi(w:World):(zeroValue 3).run Tryz.prog w=.ok (kN 0) w:=by rfl
structure WK(U:List Cl)(x:Cl):Prop where
 n:x.sd.length<=64
 p:0<x.sd.length
 m:∀i,i<x.sd.length->(FZ U (Bw x i).1).sd.length<=64
 s:∀s∈x.sd,BE s.1/\(s.2=1\/s.2=-1)
 t:∀i,i<x.sd.length->∀r∈(FZ U (Bw x i).1).sd,BE r.1/\(r.2=1\/r.2=-1)
theorem WW{ν:Type}(T:List (Int×ν))(a:Int)(x:ν):(CM T a x).length<=T.length+1:=by
 unfold CM;split
 ·rw[length_map];omega
 ·simp
theorem QN:∀E:FN,(Fz E).length<=E.length:=Da (by simp[Fz]) fun E e ih=>by rw[FE,length_append,length_singleton];have:=WW (Fz E) e.2.1 ((A9 (Fz E) e.2.1).getD []++[e.1]);omega
theorem Mo{U:List Cl}{x:Cl}{m:Nat}{e:Int×Int×Int}(h:e∈II U x m):∃i,i<m/\∃r∈(FZ U (Bw x i).1).sd,e=((i:Int),r.1,(Bw x i).2*r.2):=by unfold II at h;obtain⟨i,hi,h⟩:=List.mem_flatMap.1 h;obtain⟨r,hr,rfl⟩:=List.mem_map.1 h;exact⟨i,List.mem_range.1 hi,r,hr,rfl⟩
theorem Y2{U:List Cl}{x:Cl}(K:WK U x){m:Nat}(hm:m<=x.sd.length){e:Int×Int×Int}(h:e∈II U x m):e.2.2=1\/e.2.2=-1:=by
 obtain⟨i,hi,r,hr,rfl⟩:=Mo h;have hi':i<x.sd.length:=by omega
 have h1:=(K.t i hi' r hr).2;have h2:=(K.s (Bw x i) (by rw[Bq hi'];exact getElem_mem hi')).2;show(Bw x i).2*r.2=1\/(Bw x i).2*r.2=-1;rcases h1 with h1|h1<;>rcases h2 with h2|h2<;>rw[h1,h2]<;>decide
theorem Sw(U:List Ce)(x:Ce)(g:Nat)(hp:Hp)(hT:RdT hp g U)(hX:RdL cD 2 hp [] x.v x.c.sd)(hK:WK (U.map Ce.c) x.c):FnT Tryz.prog 77 #[.pointer (some ⟨g,0,none⟩),.agg (cC x).toArray] hp [] (fun r _ _=>r=.int .i64 (TZ (II (U.map Ce.c) x.c x.c.sd.length) x.c.sd.length)):=by
 have o2:=hX.rd.one;show FnT _ _ #[.pointer (some ⟨g,0,none⟩),.agg #[.int .i64 x.c.id,.int .i64 x.c.dim,x.v]] _ _ _;refine Aq func77 ntmps77 rfl rfl (fun w0 hw0=>?_);simp only[AV];refine Au (AX [_,_,_] rfl rfl (by rfl) rfl rfl rfl (fun g3=>Qm rfl (Am (AD fun h1 l1 hS=>?_))));obtain⟨gm,mMt,bst,vids,hSg,hMt,lmt,hVt,hsU⟩:=hT.up l1;have hX:=hX.up l1;have hA:=Seg.all hS;have a2:∀ms,Cell h1 ms (⟨g3,2,none⟩:Addr) x.v:=fun ms=>hA 2 _ rfl ms;have eT:∀ms,Cell h1 ms (⟨g,0,none⟩:Addr) (.map (some gm)):=fun ms=>Seg.all hSg 0 _ rfl ms;have hn64:=hK.n;refine Au (CL (K:=kN) (V:=kN) (Ok:=BE) rfl rfl rfl rfl (fun gA mA hA0=>CL (K:=kN) (V:=Lb) (Ok:=BE) rfl rfl rfl rfl (fun gB mM hB0=>Qm rfl (Qm rfl (Am (DK 1 rfl (By ?_)))))));have hMS0:=OwnMS.start hB0;refine Bd (fun sl h' ms'=>∃(mB mA mM:Hp) (bs:List Nat),sl=[(3,.pointer (some ⟨g3,0,none⟩)),(5,.map (some gA)),(6,.map (some gB))]/\h1.le h'/\ms'=[mB,mA,mM]/\Cu kN kN gA BE mA (Cv (II (U.map Ce.c) x.c x.c.sd.length)) bs/\OwnMS gB mM mB (Fz (II (U.map Ce.c) x.c x.c.sd.length))) ?_ (fun s h ms hI=>?_)
 ·refine Ac (Ad (Qf BH rfl (Ql rfl Ci (a2 _) (Qx (Ap hX.rd.any rfl Ci rfl) rfl (Qm rfl (Am (Af ?_)))))))
  refine Ax (fun q sl h' ms'=>∃(i:Nat) (mB mA mM:Hp) (bs:List Nat),q=x.c.sd.length-i/\sl=[(0,.pointer (some ⟨g,0,none⟩)),(3,.pointer (some ⟨g3,0,none⟩)),(5,.map (some gA)),(6,.map (some gB)),(21,x.v),(22,.int .i64 x.c.sd.length),(23,.int .i64 i)]/\h1.le h'/\ms'=[mB,mA,mM]/\i<=x.c.sd.length/\Cu kN kN gA BE mA (Cv (II (U.map Ce.c) x.c i)) bs/\OwnMS gB mM mB (Fz (II (U.map Ce.c) x.c i)))
   (x.c.sd.length-0) _ ⟨0,Hp.emp,mA,mM,[],rfl,rfl,DS,rfl,by omega,hA0,hMS0⟩ Qs ?_
  rintro q sl h2 ms' ⟨i,mB,mA,mM,bs,rfl,rfl,l2,rfl,hi,hOA,hMS⟩;have hX:=hX.up l2;refine Au (Qm rfl (Am (Ac ?_)));refine Av rfl (fun hlt=>?_) (fun hlt=>?_)
  ·have hil:i<x.c.sd.length:=by omega
   obtain⟨s,hs⟩:∃s,x.c.sd[i]=s:=⟨_,rfl⟩
   have hsm:s∈x.c.sd:=by rw[<-hs];exact getElem_mem hil
   have hsA:Bw x.c i=s:=by rw[Bq hil,hs]
   have hsI:=hK.s s hsm;obtain⟨y,hy⟩:∃y,(A9 (E8 U) s.1).getD default=y:=⟨_,rfl⟩
   have hyc:FZ (U.map Ce.c) s.1=y.c:=by rw[<-HP,hy]
   have hyR:=PW hsU s.1;rw[hy]at hyR;have hyR:=hyR.up l2;have oyv:=hyR.rd.one;have y64:=hK.m i hil;have yt:=hK.t i hil;rw[hsA,hyc]at y64 yt;have hE:=Mn (U.map Ce.c) x.c hK.m i hi;have hEs:∀e∈II (U.map Ce.c) x.c i,e.2.2=1\/e.2.2=-1:=fun e he=>Y2 hK hi he
   have hsucc:II (U.map Ce.c) x.c (i+1)=II (U.map Ce.c) x.c i++y.c.sd.map fun r=>((i:Int),r.1,s.2*r.2):=by rw[NC];unfold Ud;rw[hsA,hyc]
   obtain⟨E,hEe⟩:∃E,II (U.map Ce.c) x.c i=E:=⟨_,rfl⟩
   rw[hEe]at hOA hMS hE hEs hsucc;have hsx:∀ms,Seg h2 ms ((AF x.v).add (i*2)) (cD s):=fun ms=>by rw[<-hs];exact(hX.any (ms:=ms)).seg hil
   refine Ag (Ab ?_);refine Bd (fun sl h' ms'=>∃(mB mA mM:Hp) (bs:List Nat),sl=[(0,.pointer (some ⟨g,0,none⟩)),(3,.pointer (some ⟨g3,0,none⟩)),(5,.map (some gA)),(6,.map (some gB)),(21,x.v),(22,.int .i64 x.c.sd.length),(23,.int .i64 i)]/\h2.le h'/\ms'=[mB,mA,mM]/\Cu kN kN gA BE mA (Cv (II (U.map Ce.c) x.c (i+1))) bs/\OwnMS gB mM mB (Fz (II (U.map Ce.c) x.c (i+1)))) ?_ (fun s h ms hI=>?_)
   ·refine Af (Au (Qm rfl (Qx (BT (i) hX.rd.any rfl Ci AK rfl rfl) rfl (Qx (oG rfl DA AK (hsx _)) rfl (CJ [.int .i64 0,.int .i64 0] rfl AK rfl rfl (fun g8=>Qm rfl ?_))))));refine Sa 0 [_,_] AK rfl (by simp[Value.oneCell']) ?_;refine Am (AD fun h3 l3 hS8=>?_);have e80:∀ms,Cell h3 ms (⟨g8,0,none⟩:Addr) (.int .i64 s.1):=fun ms=>Seg.all hS8 0 _ rfl ms;have e81:∀ms,Cell h3 ms (⟨g8,1,none⟩:Addr) (.int .i64 s.2):=fun ms=>Seg.all hS8 1 _ rfl ms;have l13:=AH l2 l3;have eT:∀ms,Cell h3 ms (⟨g,0,none⟩:Addr) (.map (some gm)):=fun ms=>(eT ms).le l13;have hyR:=hyR.up l3;refine Ac (Bh 10 CT (by kernel_rfl) rfl (Wm rfl (Wm rfl (Wf EG rfl (Wl rfl Gu (eT _) (Wf Cy rfl (Wl rfl U3 (e80 _) (AM (BW (V:=vC) (z:=(default:Ce)) s.1 hy Bi hMt (AH lmt l13) rfl Gu KQ rfl rfl hsI.1) rfl rfl (AM (Eb rfl EB rfl Ci rfl rfl rfl) rfl rfl (AM (Ap hyR.rd.any rfl Ci rfl) rfl rfl (Wm rfl (Bf (Am (Af ?_))))))))))))))
    refine Ax (fun q sl h' ms'=>∃(k:Nat) (mB mA mM:Hp) (bs:List Nat),q=y.c.sd.length-k/\sl=[(0,.pointer (some ⟨g,0,none⟩)),(3,.pointer (some ⟨g3,0,none⟩)),(5,.map (some gA)),(6,.map (some gB)),(7,.int .i64 i),(8,.pointer (some ⟨g8,0,none⟩)),(21,x.v),(22,.int .i64 x.c.sd.length),(23,.int .i64 i),(35,y.v),(36,.int .i64 y.c.sd.length),(37,.int .i64 k)]/\h3.le h'/\ms'=[mB,mA,mM]/\k<=y.c.sd.length/\Cu kN kN gA BE mA (Cv (E++(y.c.sd.take k).map fun r=>((i:Int),r.1,s.2*r.2))) bs/\OwnMS gB mM mB (Fz (E++(y.c.sd.take k).map fun r=>((i:Int),r.1,s.2*r.2))))
     (y.c.sd.length-0) _ ⟨0,mB,mA,mM,bs,rfl,rfl,DS,rfl,by omega,by simpa using hOA,by simpa using hMS⟩ Qs ?_
    rintro q sl h4 ms' ⟨k,mB,mA,mM,bs,rfl,rfl,l4,rfl,hk,hOA,hMS⟩;have hyR:=hyR.up l4;have e81:∀ms,Cell h4 ms (⟨g8,1,none⟩:Addr) (.int .i64 s.2):=fun ms=>(e81 ms).le l4;refine Au (Qm rfl (Am (Ac ?_)));refine Av rfl (fun hlk=>?_) (fun hlk=>?_)
    ·have hkl:k<y.c.sd.length:=by omega
     obtain⟨r,hr⟩:∃r,y.c.sd[k]=r:=⟨_,rfl⟩
     have hrm:r∈y.c.sd:=by rw[<-hr];exact getElem_mem hkl
     have hrI:=yt r hrm;have hsr:∀ms,Seg h4 ms ((AF y.v).add (k*2)) (cD r):=fun ms=>by rw[<-hr];exact(hyR.any (ms:=ms)).seg hkl
     have hF':(E++(y.c.sd.take (k+1)).map fun r=>((i:Int),r.1,s.2*r.2))=(E++(y.c.sd.take k).map fun r=>((i:Int),r.1,s.2*r.2))++[((i:Int),r.1,s.2*r.2)]:=by rw[List.take_succ_eq_append_getElem hkl,map_append,hr,append_assoc];rfl
     have hFl:(E++(y.c.sd.take k).map fun r=>((i:Int),r.1,s.2*r.2)).length<=4200:=by rw[length_append,length_map,length_take];omega
     have hmu:s.2*r.2=1\/s.2*r.2=-1:=by rcases hsI.2 with e|e<;>rcases hrI.2 with e'|e'<;>rw[e,e']<;>decide
     have hFs:∀e∈E++(y.c.sd.take k).map (fun r=>((i:Int),r.1,s.2*r.2)),e.2.2=1\/e.2.2=-1:=fun e he=>by
      rcases List.mem_append.1 he with he|he
      ·exact hEs e he
      ·obtain⟨r',hr',rfl⟩:=List.mem_map.1 he;have hrI':=yt r' (mem_of_mem_take hr');show s.2*r'.2=1\/s.2*r'.2=-1;rcases hsI.2 with e|e<;>rcases hrI'.2 with e'|e'<;>rw[e,e']<;>decide
     obtain⟨F,hF⟩:∃F,E++(y.c.sd.take k).map (fun r=>((i:Int),r.1,s.2*r.2))=F:=⟨_,rfl⟩
     rw[hF]at hOA hMS hFl hFs hF';obtain⟨v0,hv0⟩:∃v0,(A9 (Cv F) r.1).getD 0=v0:=⟨_,rfl⟩
     have hb0:=Zi F r.1 hFs;rw[<-I6,hv0]at hb0;have hs1:=Gb F ((i:Int),r.1,s.2*r.2);have hm1:=FE F ((i:Int),r.1,s.2*r.2);simp only at hs1 hm1;rw[hv0]at hs1;refine Ag (Ab ?_);refine Bd (fun sl h' ms'=>∃(mB mA mM:Hp) (bs:List Nat),sl=[(0,.pointer (some ⟨g,0,none⟩)),(3,.pointer (some ⟨g3,0,none⟩)),(5,.map (some gA)),(6,.map (some gB)),(7,.int .i64 i),(8,.pointer (some ⟨g8,0,none⟩)),(21,x.v),(22,.int .i64 x.c.sd.length),(23,.int .i64 i),(35,y.v),(36,.int .i64 y.c.sd.length),(37,.int .i64 k)]/\h4.le h'/\ms'=[mB,mA,mM]/\Cu kN kN gA BE mA (Cv (F++[((i:Int),r.1,s.2*r.2)])) bs/\OwnMS gB mM mB (Fz (F++[((i:Int),r.1,s.2*r.2)]))) ?_ (fun s h ms hI=>?_)
     ·refine Af (Au (Qx (BT (k) hyR.rd.any rfl Ci AK rfl rfl) rfl (Qx (oG rfl DA AK (hsr _)) rfl (CJ [.int .i64 0,.int .i64 0] rfl AK rfl rfl (fun g10=>?_)))));refine Sa 0 [_,_] AK rfl (by simp[Value.oneCell']) ?_;refine Am (AD fun h5 l5 hS10=>?_);have e81:∀ms,Cell h5 ms (⟨g8,1,none⟩:Addr) (.int .i64 s.2):=fun ms=>(e81 ms).le l5;have ea0:∀ms,Cell h5 ms (⟨g10,0,none⟩:Addr) (.int .i64 r.1):=fun ms=>Seg.all hS10 0 _ rfl ms;have ea1:∀ms,Cell h5 ms (⟨g10,1,none⟩:Addr) (.int .i64 r.2):=fun ms=>Seg.all hS10 1 _ rfl ms;refine Au (Qm rfl (Qf Cy rfl (Ql rfl U3 (ea0 _) (Qx (Dz (V:=kN) (z:=(0:Int)) r.1 hv0 Bi hOA (by simp) rfl K4 Hi rfl rfl hrI.1) rfl (Qf Fc rfl (Ql rfl U3 (e81 _) (Qf Fc rfl (Ql rfl U3 (ea1 _) (Qx (oM rfl) rfl (Qx (oA rfl) rfl (BC (V:=kN) (z:=undef) 1 r.1 (v0+s.2*r.2) Bi hOA rfl rfl K4 rfl rfl rfl hrI.1 rfl rfl (fun mA' bs' hOA'=>?_))))))))))));rw[<-hs1]at hOA';refine Am ?_;obtain⟨Tv,bv,v,m1,m2,hO,hv,rfl,hd,hO1,close⟩:=hMS.open r.1;refine GX hd ?_;obtain⟨L,hL⟩:∃L,(A9 (Fz F) r.1).getD []=L:=⟨_,rfl⟩
      have hLl:L.length<=4200:=by rw[<-hL,NN,length_map];exact Nat.le_trans (List.length_filter_le _ _) hFl
      rw[hL]at hO1 hm1;have ov:=hO1.o1;refine BK (n:=11) (bs:=[true,true,true,true,true,true,false,true,false,false,false]) [true,true,true,true,true,true,false,true] CT (by kernel_rfl) (by kernel_rfl) rfl rfl (Qq rfl (QF Cy rfl (QL rfl U3 (ea0 _) (Qq rfl (QF Cy rfl (QL rfl U3 (ea0 _) (Qq rfl ?_)))))));unfold Gg;simp only[cons_append,nil_append];refine A4 [6,8] (by kernel_rfl) rfl ?_;refine Ay rfl ?_ ?_
      ·refine Qx (Dz (V:=Lb) (z:=(Value.slice none 0 0)) r.1 hv Bi hO (by simp) rfl FV JY rfl rfl hrI.1) rfl (Qw (Qo 8 rfl (Al [_] rfl AU Bg rfl (by rfl) rfl rfl (by omega) rfl rfl rfl (fun g59=>Qw (Qo 9 rfl (AP 1 hO1 (RdL.one Bo (x:=(i:Int)) Mh rfl) rfl AU Bg rfl (by omega) rfl rfl rfl Cn (by(try simp only[length_singleton]);omega) (by(try simp only[length_singleton]);omega) rfl rfl rfl (fun v9 m9 hO9=>?_)))))));have ov9:=hO9.o1;refine Qw (Qo 10 rfl (BC (V:=Lb) (z:=undef) 4 r.1 v9 Bi hO rfl rfl FV rfl rfl rfl hrI.1 rfl rfl (fun mM' bs2 hM'=>Qw (Qe (AL (DN fun hap=>(Eh ?_)))))));have hdj:=(List.pairwise_cons.1 hap).1 _ Mh;have hMS':=close v9 _ m9 mM' bs2 hdj hO9 hM';rw[<-hm1]at hMS';refine Ai ?_;exact AC _ ⟨_,mA',mM',bs',rfl,l5,rfl,hOA',hMS'⟩ Qs
      refine Ay rfl ?_ ?_
      ·refine Al [_] rfl AU Bg rfl (by rfl) rfl rfl (by omega) rfl rfl rfl (fun g59=>Qw (Qo 6 rfl (Qx (Dz (V:=Lb) (z:=(Value.slice none 0 0)) r.1 hv Bi hO (by simp) rfl FV JY rfl rfl hrI.1) rfl (Qw (Qo 9 rfl (AP 1 hO1 (RdL.one Bo (x:=(i:Int)) Mh rfl) rfl AU Bg rfl (by omega) rfl rfl rfl Cn (by(try simp only[length_singleton]);omega) (by(try simp only[length_singleton]);omega) rfl rfl rfl (fun v9 m9 hO9=>?_)))))));have ov9:=hO9.o1;refine Qw (Qo 10 rfl (BC (V:=Lb) (z:=undef) 4 r.1 v9 Bi hO rfl rfl FV rfl rfl rfl hrI.1 rfl rfl (fun mM' bs2 hM'=>Qw (Qe (AL (DN fun hap=>(Eh ?_)))))));have hdj:=(List.pairwise_cons.1 hap).1 _ Mh;have hMS':=close v9 _ m9 mM' bs2 hdj hO9 hM';rw[<-hm1]at hMS';refine Ai ?_;exact AC _ ⟨_,mA',mM',bs',rfl,l5,rfl,hOA',hMS'⟩ Qs
      exact A3
     ·obtain⟨mB,mA,mM,bs,rfl,k4,rfl,hOA,hMS⟩:=hI;rw[<-hF']at hOA hMS;refine Ad (Qx (oA rfl) rfl (Qm rfl (Aj ?_)));exact Ak (y.c.sd.length-(k+1)) _ (by omega) ⟨k+1,mB,mA,mM,bs,rfl,rfl,AH l4 k4,rfl,by omega,hOA,hMS⟩ Qs
    ·obtain rfl:k=y.c.sd.length:=by omega
     rw[take_length,<-hsucc]at hOA hMS;refine As (Aa (Aa (Ae (Ai ?_))));exact AC _ ⟨mB,mA,mM,bs,rfl,AH l3 l4,rfl,hOA,hMS⟩ Qs
   ·obtain⟨mB,mA,mM,bs,rfl,k2,rfl,hOA,hMS⟩:=hI;refine Ad (Qx (oA rfl) rfl (Qm rfl (Aj ?_)));exact Ak (x.c.sd.length-(i+1)) _ (by omega) ⟨i+1,mB,mA,mM,bs,rfl,rfl,AH l2 k2,rfl,by omega,hOA,hMS⟩ Qs
  ·obtain rfl:i=x.c.sd.length:=by omega
   refine As (Aa (Aa (Ae ?_)));exact AC _ ⟨mB,mA,mM,bs,rfl,l2,rfl,hOA,hMS⟩ Qs
 ·obtain⟨mB,mA,mM,bs,rfl,l2,rfl,hOA,hMS⟩:=hI;have hEl:=Mn (U.map Ce.c) x.c hK.m x.c.sd.length (Nat.le_refl _)
  have hEi:∀e∈II (U.map Ce.c) x.c x.c.sd.length,0<=e.1/\e.1<x.c.sd.length:=fun e he=>by obtain⟨i,hi,r,_,rfl⟩:=Mo he;exact⟨by show 0<=(i:Int);omega,by show(i:Int)<_;omega⟩
  obtain⟨E,hE⟩:∃E,II (U.map Ce.c) x.c x.c.sd.length=E:=⟨_,rfl⟩
  rw[hE]at hOA hMS hEl hEi ⊢;refine Bc fun h2 k2 fB=>(Bc fun h3 k3 fA=>(Bc fun h4 k4 fM=>?_))
  have lB:=AH fB (AH k3 k4);have lA:=AH fA k4;have lh4:=AH l2 (AH k2 (AH k3 k4));refine Bd (fun sl h' ms'=>sl=[(3,.pointer (some ⟨g3,0,none⟩)),(6,.map (some gB))]/\h4=h'/\ms'=[]/\∀e∈E,DP E e.2.1=0) ?_ (fun s h ms hI=>?_)
  ·refine Ac (Ad (Qm rfl (IM hOA lA rfl K4 rfl rfl rfl rfl (fun gi mi0 I0=>Am (Af ?_)))))
   refine Ax (fun q sl h' ms'=>∃(vis:List Nat) (mi:Hp),q=(Cv E).length-vis.length/\sl=[(3,.pointer (some ⟨g3,0,none⟩)),(6,.map (some gB)),(64,.pointer (some ⟨gi,0,none⟩))]/\h4=h'/\ms'=[mi]/\Hj gi gA mA mi bs vis/\∀j (hj:j<(Cv E).length),j∈vis->(Cv E)[j].2=0)
    ((Cv E).length-0) _ ⟨[],mi0,rfl,rfl,rfl,rfl,I0,fun j hj h=>nomatch h⟩ Qs ?_
   rintro q sl h' ms' ⟨vis,mi,rfl,rfl,rfl,rfl,I,hz⟩;refine Au ?_;refine Km 0 hOA I lA rfl rfl rfl rfl rfl rfl (fun hall=>?_) (fun j hj mi' hjv I'=>?_)
   ·refine Qm rfl (Am (Ac (AO rfl (As (Aa (Aa (Ae ?_)))))))
    have hzero:∀e∈E,DP E e.2.1=0:=fun e he=>by obtain⟨l,v,hl⟩:=GF ((KZ e.2.1 E).2 ⟨e,he,rfl⟩);rw[<-I6,DL (Rh E) hl];obtain⟨h1,h2⟩:=List.getElem?_eq_some_iff.1 hl;have:=hz l h1 (hall l h1);rw[h2]at this;exact this
    refine AQ 0 rfl ?_;exact AC _ ⟨rfl,rfl,rfl,hzero⟩ Qs
   ·have hTj:(Cv E)[j].2=DP E (Cv E)[j].1:=by have hg:(Cv E)[j]?=some ((Cv E)[j].1,(Cv E)[j].2):=List.getElem?_eq_getElem hj;rw[<-I6,DL (Rh E) hg];rfl
    refine Qm rfl (Am (Ac (B6 rfl (Ag (Ab (Af (Au (Qx (IK hOA I' lA (by simp) hj rfl rfl) rfl (Qm rfl (Qm rfl (BG (Qm rfl (Qm rfl (Am ?_))))))))))))));refine Av rfl (fun hne=>?_) (fun hne=>?_)
    ·have h24:TZ E x.c.sd.length=24:=by unfold TZ;rw[if_pos fun w=>?_];obtain⟨e,he,h1⟩:=(KZ (Cv E)[j].1 E).1 (List.mem_map.2 ⟨_,getElem_mem hj,rfl⟩);have:=w e he;rw[h1,<-hTj]at this;exact hne this
     refine Au (Qm rfl (Am (Ao (An (Ah (An (Ah ?_)))))));exact Az rfl rfl (by rw[h24])
    ·refine Ag (Ai ?_);refine Ak ((Cv E).length-(vis.length+1)) _ ?_ ⟨vis++[j],mi',by simp,rfl,rfl,rfl,I',fun i hi' hv=>?_⟩ Qs
     ·have hlt:vis.length<(Cv E).length:=by
       have h1:=Go.Kuhn.nodup_le (vis++[j]) (range (Cv E).length) I'.nodup fun x hx=>by rw[List.mem_range,<-hOA.len];exact I'.lt x hx
       simp at h1;omega
      omega
     ·rcases List.mem_append.1 hv with hv|hv
      ·exact hz i hi' hv
      ·simp at hv;subst hv;exact Classical.not_not.1 hne
  ·obtain⟨rfl,rfl,rfl,hzero⟩:=hI;obtain⟨Tv,bv,hOv,hKv,hRv,hRa⟩:=hMS.look lB;obtain⟨M,hM⟩:∃M,Fz E=M:=⟨_,rfl⟩
   have hMn:=YQ E;have hMk:=fun c=>Sb c E;have hMg:=fun c=>NN c E;rw[hM]at hKv hRv hRa hMn hMk hMg;have hTl:Tv.length=M.length:=by have:=congrArg List.length hKv;simpa using this
   refine Au (CL (K:=kN) (V:=Lb) (Ok:=BE) rfl rfl rfl rfl (fun gJ mJ hJ0=>CJ [.map none] rfl Ys rfl rfl (fun g13=>AJ 0 0 rfl Ys rfl rfl (by rfl) rfl rfl (by decide) rfl rfl (Am (AD fun h5 k5 hS13=>?_)))));have e13:∀ms,Cell h5 ms (⟨g13,0,none⟩:Addr) (.map (some gJ)):=fun ms=>Seg.all hS13 0 _ rfl ms;refine By ?_;have hJS0:=OwnMS.start hJ0;have fM5:=AH fM k5
   let pr:Nat->Int×Int:=fun j=>(((M.getD j (0,[])).2).getD 0 0,((M.getD j (0,[])).2).getD 1 0)
   refine Bd (fun sl h' ms'=>∃(vis:List Nat) (mJB mJ:Hp),sl=[(3,.pointer (some ⟨g3,0,none⟩)),(13,.pointer (some ⟨g13,0,none⟩))]/\h5=h'/\ms'=[mJB,mJ]/\OwnMS gJ mJ mJB (Eo (vis.map pr))/\vis.length<=M.length/\(∀j,j∈vis->j<M.length)/\(∀j,j<M.length->j∈vis)/\∀j (hj:j<M.length),M[j].2.length=2) ?_ (fun s h ms hI=>?_)
   ·refine Ac (Ad (Qm rfl (IM hOv fM5 rfl FV rfl rfl rfl rfl (fun gi mi0 I0=>Am (Af (DK 1 rfl ?_))))))
    refine Ax (fun q sl h' ms'=>∃(vis:List Nat) (mi mJB mJ:Hp),q=M.length-vis.length/\sl=[(3,.pointer (some ⟨g3,0,none⟩)),(13,.pointer (some ⟨g13,0,none⟩)),(73,.pointer (some ⟨gi,0,none⟩))]/\h5=h'/\ms'=[mJB,mi,mJ]/\Hj gi gB mM mi bv vis/\OwnMS gJ mJ mJB (Eo (vis.map pr))/\∀j (hj:j<M.length),j∈vis->M[j].2.length=2)
     (M.length-0) _ ⟨[],mi0,Hp.emp,mJ,rfl,rfl,rfl,rfl,I0,hJS0,fun j hj h=>nomatch h⟩ Qs ?_
    rintro q sl h' ms' ⟨vis,mi,mJB,mJ,rfl,rfl,rfl,rfl,I,hJS,hz⟩
    have hvl:∀{w:List Nat} {m':Hp},Hj gi gB mM m' bv w->w.length<=M.length/\∀j,j∈w->j<M.length:=fun {w m'} I=>by
     have hlt:∀x∈w,x<M.length:=fun x hx=>by rw[<-hTl,<-hOv.len];exact I.lt x hx
     have h1:=Go.Kuhn.nodup_le w (range M.length) I.nodup fun x hx=>List.mem_range.2 (hlt x hx);rw[length_range]at h1;exact⟨h1,hlt⟩
    refine Au ?_;refine Km 1 hOv I fM5 rfl rfl rfl rfl rfl rfl (fun hall=>?_) (fun j hj mi' hjv I'=>?_)
    ·refine Qm rfl (Am (Ac (AO rfl (As (Aa (Aa (Ae (AQ 1 rfl ?_))))))));exact AC _ ⟨vis,mJB,mJ,rfl,rfl,rfl,hJS,(hvl I).1,(hvl I).2,fun j hj=>hall j (by omega),fun j hj=>hz j hj (hall j (by omega))⟩ Qs
    ·have hjM:j<M.length:=by omega
     have hRj:=(hRv j hj hjM).2.up k5
     have hcj:(A9 M M[j].1).getD []=M[j].2:=by have hg:M[j]?=some (M[j].1,M[j].2):=List.getElem?_eq_getElem hjM;rw[DL hMn hg];rfl
     have hcE:=hMg M[j].1;rw[hcj]at hcE;obtain⟨v,hv⟩:∃v,Tv[j].2=v:=⟨_,rfl⟩
     obtain⟨L,hL⟩:∃L,M[j].2=L:=⟨_,rfl⟩
     rw[hv,hL]at hRj;have ov:=hRj.rd.one;have hLl:L.length<=4200:=by rw[<-hL,hcE,length_map];exact Nat.le_trans (List.length_filter_le _ _) (by omega)
     refine Qm rfl (Am (Ac (B6 rfl (Ag (Ab (Af (Au (Qx (IK hOv I' fM5 (by simp) hj rfl rfl) rfl ?_))))))));rw[hv];refine Qm rfl (Qm rfl (Am (Ac (Au (Qm rfl (Qx (Ap hRj.rd.any rfl AU rfl) rfl (Qm rfl (Am ?_))))))));refine Av rfl (fun hne=>?_) (fun hne=>?_)
     ·have h25:TZ E x.c.sd.length=25:=by unfold TZ;rw[if_neg (fun w=>w hzero),if_pos fun w=>?_];obtain⟨e,he,h1⟩:=(hMk M[j].1).1 (List.mem_map.2 ⟨_,getElem_mem hjM,rfl⟩);have:=w e he;rw[h1,Hu,<-length_map (f:=fun e:Int×Int×Int=>e.1),<-hcE,hL]at this;exact hne (by omega)
      refine Au (Qm rfl (Am (Ao (Ah (An (Ah (An (Ah ?_))))))));exact Az rfl rfl (by rw[h25])
     ·have hL2:L.length=2:=by omega
      obtain⟨a,b,rfl⟩:∃a b,L=[a,b]:=by
       match L,hL2 with
       | [a,b],_=>exact⟨a,b,rfl⟩
      have hin:∀k∈[a,b],0<=k/\k<x.c.sd.length:=fun k hk=>by rw[<-hL,hcE]at hk;obtain⟨e,he,rfl⟩:=List.mem_map.1 hk;exact hEi e (List.mem_filter.1 he).1
      have ha:=hin a Mh;have hb:=hin b (mem_cons_of_mem _ Mh);have haI:BE a:=by unfold BE;omega
      have hbI:BE b:=by unfold BE;omega
      have hprj:pr j=(a,b):=by
       simp only[pr];have:M.getD j (0,[])=M[j]:=by simp[List.getD,hjM]
       rw[this,hL];rfl
      have hMl:M.length<=4200:=by rw[<-hM];have:=QN E;omega
      have hPl:(vis.map pr).length<=4200:=by rw[length_map];have:=(hvl I).1;omega
      have hjl:=Lj (vis.map pr);have hsn:Eo ((vis++[j]).map pr)=EC (EC (Eo (vis.map pr)) a b) b a:=by rw[map_append,List.map_singleton,Hy,hprj]
      have hj1:=IE (Eo (vis.map pr)) a b _ hjl;obtain⟨T0,hT0⟩:∃T0,Eo (vis.map pr)=T0:=⟨_,rfl⟩
      rw[hT0]at hJS hjl hsn hj1;have ca:∀ms,Cell h5 ms ((AF v).add (0*1)) (.int .i64 a):=fun ms=>(hRj.any (ms:=ms)).cell0 (j:=0) (by simp) rfl;have cb:∀ms,Cell h5 ms ((AF v).add (1*1)) (.int .i64 b):=fun ms=>(hRj.any (ms:=ms)).cell0 (j:=1) (by simp) rfl;refine Ag (Ab ?_);obtain⟨Tv1,bv1,u,m1,m2,hO,hu,rfl,hd,hO1,close⟩:=hJS.open a;refine GX hd ?_;obtain⟨L0,hL0⟩:∃L0,(A9 T0 a).getD []=L0:=⟨_,rfl⟩
      have hL0l:L0.length<=10000:=by rw[<-hL0];have:=hjl a;omega
      rw[hL0]at hO1;have hjeq:EC T0 a b=CM T0 a (L0++[b]):=by unfold EC;rw[hL0]
      have ou:=hO1.o1;refine Bd (fun sl h' ms'=>∃(mJB mJ:Hp),sl=[(3,.pointer (some ⟨g3,0,none⟩)),(13,.pointer (some ⟨g13,0,none⟩)),(15,v),(73,.pointer (some ⟨gi,0,none⟩))]/\h5=h'/\ms'=[mJB,mi',mJ]/\OwnMS gJ mJ mJB (EC T0 a b)) ?_ (fun s h ms hI=>?_)
      ·refine BK (n:=15) (bs:=[true,true,true,true,true,true,true,true,false,true,true,true,false,false,false]) [true,true,true,true,true,true,true,true,false,true,true,true] CT (by kernel_rfl) (by kernel_rfl) rfl rfl (QL rfl FV (e13 _) (Qq rfl (Qp rfl (AB 0 hRj.rd.any rfl AU Bg rfl rfl rfl (by omega)) (QL rfl U3 (ca _) (QL rfl FV (e13 _) (Qq rfl (Qp rfl (AB 0 hRj.rd.any rfl AU Bg rfl rfl rfl (by omega)) (QL rfl U3 (ca _) (Qq rfl (Qp rfl (AB 1 hRj.rd.any rfl AU Bg rfl rfl rfl (by omega)) (QL rfl U3 (cb _) ?_)))))))))));unfold Gg;simp only[cons_append,nil_append];refine A4 [8,12] (by kernel_rfl) rfl ?_;refine Ay rfl ?_ ?_
       ·refine Qx (Dz (V:=Lb) (z:=(Value.slice none 0 0)) a hu Bi hO (by simp) rfl FV JY rfl rfl haI) rfl (Qw (Qo 12 rfl (Al [_] rfl AU Bg rfl (by rfl) rfl rfl (by omega) rfl rfl rfl (fun g93=>Qw (Qo 13 rfl (AP 1 hO1 (RdL.one Bo (x:=b) Mh rfl) rfl AU Bg rfl (by omega) rfl rfl rfl Cn (by(try simp only[length_singleton]);omega) (by(try simp only[length_singleton]);omega) rfl rfl rfl (fun v9 m9 hO9=>?_)))))));have ov9:=hO9.o1;refine Qw (Qo 14 rfl (BC (V:=Lb) (z:=undef) 4 a v9 Bi hO rfl rfl FV rfl rfl rfl haI rfl rfl (fun mM' bs2 hM'=>Qw (Qe (AL (DN fun hap=>(Eh ?_)))))));have hdj:=(List.pairwise_cons.1 hap).1 _ Mh;have hMS':=close v9 _ m9 mM' bs2 hdj hO9 hM';rw[<-hjeq]at hMS';exact AC _ ⟨_,mM',rfl,rfl,rfl,hMS'⟩ Qs
       refine Ay rfl ?_ ?_
       ·refine Al [_] rfl AU Bg rfl (by rfl) rfl rfl (by omega) rfl rfl rfl (fun g93=>Qw (Qo 8 rfl (Qx (Dz (V:=Lb) (z:=(Value.slice none 0 0)) a hu Bi hO (by simp) rfl FV JY rfl rfl haI) rfl (Qw (Qo 13 rfl (AP 1 hO1 (RdL.one Bo (x:=b) Mh rfl) rfl AU Bg rfl (by omega) rfl rfl rfl Cn (by(try simp only[length_singleton]);omega) (by(try simp only[length_singleton]);omega) rfl rfl rfl (fun v9 m9 hO9=>?_)))))));have ov9:=hO9.o1;refine Qw (Qo 14 rfl (BC (V:=Lb) (z:=undef) 4 a v9 Bi hO rfl rfl FV rfl rfl rfl haI rfl rfl (fun mM' bs2 hM'=>Qw (Qe (AL (DN fun hap=>(Eh ?_)))))));have hdj:=(List.pairwise_cons.1 hap).1 _ Mh;have hMS':=close v9 _ m9 mM' bs2 hdj hO9 hM';rw[<-hjeq]at hMS';exact AC _ ⟨_,mM',rfl,rfl,rfl,hMS'⟩ Qs
       exact A3
      ·obtain⟨mJB,mJ,rfl,rfl,rfl,hJS⟩:=hI;obtain⟨T1,hT1⟩:∃T1,EC T0 a b=T1:=⟨_,rfl⟩
       rw[hT1]at hJS hj1 hsn;obtain⟨Tv2,bv2,u2,m1,m2,hO,hu,rfl,hd,hO1,close⟩:=hJS.open b;refine GX hd ?_;obtain⟨L1,hL1⟩:∃L1,(A9 T1 b).getD []=L1:=⟨_,rfl⟩
       have hL1l:L1.length<=10000:=by rw[<-hL1];have:=hj1 b;omega
       rw[hL1]at hO1;have hjeq2:EC T1 b a=CM T1 b (L1++[a]):=by unfold EC;rw[hL1]
       have ou2:=hO1.o1;refine BK (n:=15) (bs:=[true,true,true,true,true,true,true,true,false,true,true,true,false,false,false]) [true,true,true,true,true,true,true,true,false,true,true,true] CT (by kernel_rfl) (by kernel_rfl) rfl rfl (QL rfl FV (e13 _) (Qq rfl (Qp rfl (AB 1 hRj.rd.any rfl AU Bg rfl rfl rfl (by omega)) (QL rfl U3 (cb _) (QL rfl FV (e13 _) (Qq rfl (Qp rfl (AB 1 hRj.rd.any rfl AU Bg rfl rfl rfl (by omega)) (QL rfl U3 (cb _) (Qq rfl (Qp rfl (AB 0 hRj.rd.any rfl AU Bg rfl rfl rfl (by omega)) (QL rfl U3 (ca _) ?_)))))))))));unfold Gg;simp only[cons_append,nil_append];refine A4 [8,12] (by kernel_rfl) rfl ?_;refine Ay rfl ?_ ?_
       ·refine Qx (Dz (V:=Lb) (z:=(Value.slice none 0 0)) b hu Bi hO (by simp) rfl FV JY rfl rfl hbI) rfl (Qw (Qo 12 rfl (Al [_] rfl AU Bg rfl (by rfl) rfl rfl (by omega) rfl rfl rfl (fun g107=>Qw (Qo 13 rfl (AP 1 hO1 (RdL.one Bo (x:=a) Mh rfl) rfl AU Bg rfl (by omega) rfl rfl rfl Cn (by(try simp only[length_singleton]);omega) (by(try simp only[length_singleton]);omega) rfl rfl rfl (fun v9 m9 hO9=>?_)))))));have ov9:=hO9.o1;refine Qw (Qo 14 rfl (BC (V:=Lb) (z:=undef) 4 b v9 Bi hO rfl rfl FV rfl rfl rfl hbI rfl rfl (fun mM' bs2 hM'=>Qw (Qe (AL (DN fun hap=>(Eh ?_)))))));have hdj:=(List.pairwise_cons.1 hap).1 _ Mh;have hMS':=close v9 _ m9 mM' bs2 hdj hO9 hM';rw[<-hjeq2,<-hsn]at hMS';refine Ai ?_;have hv':=(hvl I').1;rw[length_append,length_singleton]at hv';exact Ak (M.length-(vis.length+1)) _ (by omega) ⟨vis++[j],mi',_,mM',by simp,rfl,rfl,rfl,I',hMS',fun i hi' hv=>by rcases List.mem_append.1 hv with hv|hv;exact hz i hi' hv;simp at hv;subst hv;rw[hL];rfl⟩ Qs
       refine Ay rfl ?_ ?_
       ·refine Al [_] rfl AU Bg rfl (by rfl) rfl rfl (by omega) rfl rfl rfl (fun g107=>Qw (Qo 8 rfl (Qx (Dz (V:=Lb) (z:=(Value.slice none 0 0)) b hu Bi hO (by simp) rfl FV JY rfl rfl hbI) rfl (Qw (Qo 13 rfl (AP 1 hO1 (RdL.one Bo (x:=a) Mh rfl) rfl AU Bg rfl (by omega) rfl rfl rfl Cn (by(try simp only[length_singleton]);omega) (by(try simp only[length_singleton]);omega) rfl rfl rfl (fun v9 m9 hO9=>?_)))))));have ov9:=hO9.o1;refine Qw (Qo 14 rfl (BC (V:=Lb) (z:=undef) 4 b v9 Bi hO rfl rfl FV rfl rfl rfl hbI rfl rfl (fun mM' bs2 hM'=>Qw (Qe (AL (DN fun hap=>(Eh ?_)))))));have hdj:=(List.pairwise_cons.1 hap).1 _ Mh;have hMS':=close v9 _ m9 mM' bs2 hdj hO9 hM';rw[<-hjeq2,<-hsn]at hMS';refine Ai ?_;have hv':=(hvl I').1;rw[length_append,length_singleton]at hv';exact Ak (M.length-(vis.length+1)) _ (by omega) ⟨vis++[j],mi',_,mM',by simp,rfl,rfl,rfl,I',hMS',fun i hi' hv=>by rcases List.mem_append.1 hv with hv|hv;exact hz i hi' hv;simp at hv;subst hv;rw[hL];rfl⟩ Qs
       exact A3
   ·obtain⟨vis,mJB,mJ,rfl,rfl,rfl,hJS,hv1,hv2,hv3,h2⟩:=hI;refine Bc fun h6 k6 fJB=>(Bc fun h7 k7 fJ=>?_)
    have fJB7:=AH fJB k7;have l57:=AH k6 k7;refine Au (CL (K:=kN) (V:=vB) (Ok:=BE) rfl rfl rfl rfl (fun gS mS hS0=>CJ [.map none] rfl ZP rfl rfl (fun g16=>AJ 0 0 rfl ZP rfl rfl (by rfl) rfl rfl (by decide) rfl rfl (Am (AD fun h8 k8 hS16=>?_)))));have e16:∀ms,Cell h8 ms (⟨g16,0,none⟩:Addr) (.map (some gS)):=fun ms=>Seg.all hS16 0 _ rfl ms;refine Au (CJ [.nilFunc] rfl Yd rfl rfl (fun g17=>BG (Qx (BF rfl rfl rfl) rfl (AJ 0 0 rfl Yd rfl rfl (by rfl) rfl rfl (by decide) rfl rfl (Am (AD fun h9 k9 hS17=>?_))))));have e17:∀ms,Cell h9 ms (⟨g17,0,none⟩:Addr) (.func (.func 142) #[] #[.pointer (some ⟨g16,0,none⟩),.pointer (some ⟨g13,0,none⟩),.pointer (some ⟨g17,0,none⟩)]):=fun ms=>Seg.all hS17 0 _ rfl ms;obtain⟨P,hP⟩:∃P,vis.map pr=P:=⟨_,rfl⟩
    rw[hP]at hJS
    have hpm:∀p,p∈P<->∃j,∃hj:j<M.length,M[j].2=[p.1,p.2]:=fun p=>by
     rw[<-hP,List.mem_map]
     have hpj:∀j (hj:j<M.length),M[j].2=[(pr j).1,(pr j).2]:=fun j hj=>by
      have e:M.getD j (0,[])=M[j]:=by simp[List.getD,hj]
      simp only[pr];rw[e];have hl:=h2 j hj
      match M[j].2,hl with
      | [a,b],_=>rfl
     constructor
     ·rintro⟨j,hj,rfl⟩;exact⟨j,hv2 j hj,hpj j _⟩
     ·rintro⟨j,hj,e⟩;refine⟨j,hv3 j hj,?_⟩;have:=hpj j hj;rw[e]at this;simp only[List.cons.injEq,and_true]at this;exact Prod.ext this.1.symm this.2.symm
    have hMj:∀j (hj:j<M.length),(E.filter fun e=>decide (e.2.1=M[j].1)).map (fun e=>e.1)=M[j].2:=fun j hj=>by have hg:M[j]?=some (M[j].1,M[j].2):=List.getElem?_eq_getElem hj;rw[<-hMg,DL hMn hg];rfl
    have hcnt:∀e∈E,ER E e.2.1=2:=fun e he=>by obtain⟨l,v,hl⟩:=GF ((hMk e.2.1).2 ⟨e,he,rfl⟩);obtain⟨h1,e1⟩:=List.getElem?_eq_some_iff.1 hl;have h3:=hMj l h1;have h4:=h2 l h1;rw[<-h3,e1,length_map]at h4;rw[Hu];have h4:(E.filter fun e'=>decide (e'.2.1=e.2.1)).length=2:=h4;omega
    have hJm:∀a k,k∈(A9 (Eo P) a).getD []<->∃c p q,(E.filter fun e=>decide (e.2.1=c)).map (fun e=>e.1)=[p,q]/\((a=p/\k=q)\/(a=q/\k=p)):=fun a k=>by
     rw[Sn,hpm,hpm];constructor
     ·rintro(⟨j,hj,e⟩|⟨j,hj,e⟩)
      ·exact⟨M[j].1,a,k,by rw[hMj j hj,e],.inl ⟨rfl,rfl⟩⟩
      ·exact⟨M[j].1,k,a,by rw[hMj j hj,e],.inr ⟨rfl,rfl⟩⟩
     ·rintro⟨c,p,q,e,h⟩
      have hc:∃j,∃hj:j<M.length,M[j].2=[p,q]:=by
       have hm:c∈M.map Prod.fst:=(hMk c).2 (by
        have hpm:p∈(E.filter fun e=>decide (e.2.1=c)).map (fun e=>e.1):=by rw[e];exact Mh
        obtain⟨e',he',_⟩:=List.mem_map.1 hpm;obtain⟨h3,h4⟩:=List.mem_filter.1 he'
        exact⟨e',h3,of_decide_eq_true h4⟩)
       obtain⟨l,v,hl⟩:=GF hm;obtain⟨h1,e1⟩:=List.getElem?_eq_some_iff.1 hl;refine⟨l,h1,?_⟩;rw[<-hMj l h1,e1];exact e
      obtain⟨j,hj,e2⟩:=hc;rcases h with ⟨rfl,rfl⟩|⟨rfl,rfl⟩
      ·exact .inl ⟨j,hj,e2⟩
      ·exact .inr ⟨j,hj,e2⟩
    have hPl:P.length<=4200:=by rw[<-hP,length_map];have:=QN E;rw[hM]at this;omega
    have V:Aan h9 gS gJ g16 g13 g17 mJ mJB (Eo P) (fun a=>(A9 (Eo P) a).getD []) x.c.sd.length:=⟨fun ms=>(e16 ms).le k9,fun ms=>(e13 ms).le (AH l57 (AH k8 k9)),e17,hJS,AH fJ (AH k8 k9),AH fJB7 (AH k8 k9),fun a=>rfl,fun a k hk=>by
     obtain⟨c,p,q,e,h⟩:=(hJm a k).1 hk
     have hin:∀y∈[p,q],0<=y/\y<x.c.sd.length:=fun y hy=>by rw[<-e]at hy;obtain⟨e',he',rfl⟩:=List.mem_map.1 hy;exact hEi e' (List.mem_filter.1 he').1
     rcases h with ⟨_,rfl⟩|⟨_,rfl⟩
     ·exact hin _ (mem_cons_of_mem _ Mh)
     ·exact hin _ Mh,fun a=>by have:=Lj P a;show((A9 (Eo P) a).getD []).length<=_;omega,by omega⟩
    refine Au (Ql rfl Aac (e17 _) (G5 (pre:=[mS]) rfl rfl call142 rfl (Ty V (Yz x.c.sd.length []+1) 0 [] [] mS hK.p hS0 (fun p hp=>nomatch hp) (Nat.lt_succ_self _)) rfl rfl rfl rfl (fun v' h' pre' l' hF=>?_)));obtain⟨rfl,m',T',bs',rfl,hO',hA',R⟩:=hF;simp only[cons_append,nil_append,append_nil];refine Am (Ac (Au (Ql rfl XP ((e16 _).le k9) (Qx (XM hO' (by simp) rfl XP rfl) rfl ?_))));have hX9:=hX.up (AH lh4 (AH k5 (AH l57 (AH k8 k9))))
    have hmem:∀y,y∈GH T'<->Con E 0 y:=fun y=>by
     rw[Wc hcnt hJm];constructor
     ·intro h;exact(R.new y h (fun q=>nomatch q)).1.1
     ·intro h
      induction h with
      | refl=>exact R.me
      | step _ h3 ih=>exact(R.new _ ih (fun q=>nomatch q)).1.2 _ h3
    have hlen:T'.length=x.c.sd.length<->(0<x.c.sd.length/\∀i:Nat,i<x.c.sd.length->Con E 0 i):=by
     have hnd:=hO'.keys
     have hsub:∀y∈GH T',y∈(range x.c.sd.length).map fun(i:Nat)=>(i:Int):=fun y hy=>by have:=(R.new y hy (fun q=>nomatch q)).2;exact List.mem_map.2 ⟨y.toNat,List.mem_range.2 (by omega),by omega⟩
     have hle:=Go.Kuhn.nodup_le _ _ hnd hsub;have hr:((range x.c.sd.length).map fun(i:Nat)=>(i:Int)).Nodup:=List.pairwise_map.2 (List.nodup_range.imp fun h e=>h (by omega));constructor
     ·intro h;refine⟨hK.p,fun i hi=>(hmem _).1 (Classical.byContradiction fun hn=>?_)⟩
      have h3:=Go.Kuhn.nodup_le ((i:Int)::GH T') _ (List.nodup_cons.2 ⟨hn,hnd⟩) fun y hy=>by
       rcases List.mem_cons.1 hy with rfl|hy
       ·exact List.mem_map.2 ⟨i,List.mem_range.2 hi,rfl⟩
       ·exact hsub y hy
      rw[length_cons,length_map,length_map,length_range]at h3;omega
     ·rintro⟨_,h⟩
      have h3:=Go.Kuhn.nodup_le _ (GH T') hr fun y hy=>by obtain⟨i,hi,rfl⟩:=List.mem_map.1 hy;exact(hmem _).2 (h i (List.mem_range.1 hi))
      rw[length_map,length_map,length_range]at h3;rw[length_map,length_map,length_range]at hle;omega
    refine Qf BH rfl (Ql rfl Ci (((hA 2 _ rfl _).le (AH lh4 (AH k5 (AH l57 (AH k8 k9)))))) (Qx (Ap hX9.rd.any rfl Ci rfl) rfl (Qm rfl (Am ?_))));refine Av rfl (fun hne=>?_) (fun hne=>?_)
    ·refine Ac (Ad (Qm rfl (Am (Ao (Ah ?_)))));exact Az rfl rfl (by unfold TZ;rw[if_neg (fun w=>w hzero),if_neg (fun w=>w hcnt),if_pos (fun w=>hne (by rw[hlen.2 w]))])
    ·refine Ag (Ab (Au (Qm rfl (Am (Ao ?_)))));exact Az rfl rfl (by unfold TZ;rw[if_neg (fun w=>w hzero),if_neg (fun w=>w hcnt),if_neg (fun w=>w (hlen.1 (by omega)))])
variable {U o:List Cl} {i:Nat}
theorem Gf{e:Entry}{Q:Exit->Act->World->Prop}{ops:Array Oper}{r:List Oper}{s:Aw}{h:Hp}{ms:List Hp}(k:WL e ops Q r s h ms):∀pre:List Hp,WL e ops Q r s h (pre++ms)
 | []=>k
 | m::pre=>Rz 0 rfl (Gf k pre)
def Jj(o:List Cl)(i:Nat):Int:=if i=0 then 0 else(o.getD (i-1) default).id
def cA(U o:List Cl)(i:Nat):Option (Int×Int):=
 if(o.getD i default).id<=Jj o i then some ((o.getD i default).id,20)
 else if DC U (o.getD i default)≠0 then some ((o.getD i default).id,DC U (o.getD i default)) else none
noncomputable def SM(U o:List Cl)(i:Nat):Option (Int×Int):=
 if 1<(o.getD i default).dim then
  if TZ (II U (o.getD i default) (o.getD i default).sd.length) (o.getD i default).sd.length≠0 then some ((o.getD i default).id,TZ (II U (o.getD i default) (o.getD i default).sd.length) (o.getD i default).sd.length) else none
 else none
noncomputable def K7(U o:List Cl):Int×Int:=
 match (range o.length).findSome? (cA U o) with
 | some e=>e
 | none=>match (range o.length).findSome? (SM U o) with
  | some e=>e
  | none=>(0,0)
theorem VL{e:Int×Int}(hi:i<o.length)(h:∀j,j<i->cA U o j=none)(he:cA U o i=some e):K7 U o=e:=by unfold K7;rw[D4 h he o.length hi]
theorem Y3{e:Int×Int}(hA:∀j,j<o.length->cA U o j=none)(hi:i<o.length)(h:∀j,j<i->SM U o j=none)(he:SM U o i=some e):K7 U o=e:=by unfold K7;rw[CH o.length hA,D4 h he o.length hi]
theorem VD(hA:∀j,j<o.length->cA U o j=none)(hB:∀j,j<o.length->SM U o j=none):K7 U o=(0,0):=by unfold K7;rw[CH o.length hA,CH o.length hB]
structure ZK(l:List Ce):Prop extends OfOk l where
 d:∀a∈l,BE a.c.dim
 r:∀a∈l,∀s∈a.c.sd,BE s.1/\BE s.2
theorem Lz{x:Cl}(h:DC U x=0):(0<=x.dim/\x.dim<=8)/\¬Ck x/\(∀i,i<x.sd.length->¬Hc U x i)/\∀i,i<x.sd.length->¬Cb x i:=by
 unfold DC at h;split at h
 ·exact absurd h (by decide)
 rename_i h1;split at h
 ·exact absurd h (by decide)
 rename_i h2;split at h
 ·exact absurd h (by decide)
 rename_i h3;split at h
 ·exact absurd h (by decide)
 rename_i h4;exact⟨by omega,h2,Classical.not_not.1 h3,Classical.not_not.1 h4⟩
theorem Io(h:i<o.length):o.getD i default=o[i]:=by simp[List.getD,h]
theorem QY(hi:i<o.length)(h:cA U o i=none):Jj o i<o[i].id/\DC U o[i]=0:=by
 unfold cA at h;rw[Io hi]at h;split at h
 ·cases h
 ·rename_i h1;split at h
  ·cases h
  ·rename_i h2;exact⟨by omega,Classical.not_not.1 h2⟩
theorem Zx(h:∀j,j<o.length->cA U o j=none):o.Pairwise fun a b=>a.id<b.id:=by
 have key:∀j (hj:j<o.length) i (hi:i<j),o[i].id<o[j].id:=fun j=>by
  induction j with
  | zero=>intro hj i hi;omega
  | succ j ih=>
   intro hj i hi;have h1:=(QY hj (h _ hj)).1
   have h2:Jj o (j+1)=o[j].id:=by unfold Jj;rw[if_neg (by omega),Nat.add_sub_cancel,Io (by omega)]
   rw[h2]at h1;rcases (by omega:i<j\/i=j) with h3|rfl
   ·have:=ih (by omega) i h3;omega
   ·exact h1
 rw[List.pairwise_iff_getElem];intro i j hi hj hij;exact key j hj i hij
theorem Aam{l o1 o2:List Cl}(C1:CanO l o1)(C2:CanO l o2)(hU:∀y∈U,y∈o1)(hr:∀a∈l,∀s∈a.sd,BE s.1/\BE s.2)(hA:∀j,j<o2.length->cA U o2 j=none){x:Cl}(hx:x∈o2)(hd:1<x.dim):WK U x:=by
 have hnd:(l.map Cl.id).Nodup:=C2.ids.nodup_iff.1 (Pt (Zx hA))
 have hf:∀y∈o2,DC U y=0:=fun y hy=>by obtain⟨j,hj,rfl⟩:=getElem_of_mem hy;exact(QY hj (hA j hj)).2
 have hy2:∀y∈o2,y.sd.length<=64/\∀s∈y.sd,BE s.1/\(s.2=1\/s.2=-1):=fun y hy=>by obtain⟨h1,h2,h3,h4⟩:=Lz (hf y hy);refine⟨by unfold Ck at h2;omega,fun s hs=>?_⟩;obtain⟨i,hi,rfl⟩:=getElem_of_mem hs;have h5:=h4 i hi;unfold Cb at h5;rw[Bq hi]at h5;obtain⟨a,ha,_,_,hp⟩:=C2.sim.mem y hy;exact⟨(hr a ha _ (hp.mem_iff.1 (getElem_mem hi))).1,by omega⟩
 have hyU:∀y∈U,y.sd.length<=64/\∀s∈y.sd,BE s.1/\(s.2=1\/s.2=-1):=fun y hy=>by obtain⟨a,ha,_,_,hp⟩:=C1.sim.mem y (hU y hy);obtain⟨y',hy',_,_,hp'⟩:=C2.sim.to hnd ha;obtain⟨h1,h2⟩:=hy2 y' hy';refine⟨by rw[hp.length_eq,<-hp'.length_eq];exact h1,fun s hs=>h2 s (hp'.mem_iff.2 (hp.mem_iff.1 hs))⟩
 have hcel:∀c,(FZ U c).sd.length<=64/\∀s∈(FZ U c).sd,BE s.1/\(s.2=1\/s.2=-1):=fun c=>by
  unfold FZ QV;cases hc:U.find? fun y=>decide (y.id=c) with
  | none=>exact⟨by simp[default,instInhabitedCl.default],fun s hs=>by simp[default,instInhabitedCl.default]at hs⟩
  | some y=>exact hyU y (List.mem_of_find?_eq_some hc)
 obtain⟨h1,h2⟩:=hy2 x hx;obtain⟨_,h4,_,_⟩:=Lz (hf x hx);exact⟨h1,by unfold Ck at h4;omega,fun i _=>(hcel _).1,fun s hs=>h2 s hs,fun i _ r hr=>(hcel _).2 r hr⟩
theorem Ru(l:List Ce)(v:Value)(hp:Hp)(hK:ZK l)(hR:RdC hp v l):FnT Tryz.prog 28 #[.agg #[v]] hp [] (fun r _ _=>∃e,r=.tuple #[.int .i64 e.1,.int .i64 e.2]/\((4000<l.length/\e=(0,2))\/(l.length<=4000/\∃A1 A2:List Ce,CanO (l.map Ce.c) (A1.map Ce.c)/\CanO (l.map Ce.c) (A2.map Ce.c)/\e=K7 ((PH A1).map Ce.c) (A2.map Ce.c)))):=by
 have o1:=hR.q.rd.one;refine Aq func28 ntmps28 rfl rfl (fun w0 hw0=>?_);simp only[AV];refine Au (AX [_] rfl rfl (by rfl) rfl rfl rfl (fun g1=>Qm rfl (Qm rfl (Am (AD fun h1 l1 hS=>?_)))));have hR:=hR.up l1;refine Ac (Au (Qf BI rfl (Ql rfl Bk (Seg.all hS 0 _ rfl _) (Qx (Ap hR.q.rd.any rfl Bk rfl) rfl (Qm rfl (Am ?_))))));refine Av rfl (fun h4=>?_) (fun h4=>?_)
 ·refine Ac (Ad (Qm rfl (Qm rfl (Am (Ao (Ah ?_))))));exact BO rfl rfl rfl (⟨(0,2),rfl,.inl ⟨by omega,rfl⟩⟩)
 ·refine Ag (Ab (Au (Qx (oG rfl CI AS (Seg.any hS)) rfl (Qc call64 rfl (Yo l v h1 hK.toOfOk hR) (fun rT h2 ms2 l2 hF=>?_)))));obtain⟨l2',rfl,g,A1,rfl,hC1,hT⟩:=hF;have hR2:=hR.up l2;have hS2:=hS.le l2;refine Qm rfl (BG (Qx (oG rfl CI AS (Seg.any hS2)) rfl (Qc call65 rfl (IW l v h2 hK.n hK.s hR2) (fun rC h3 ms3 l3 hF=>?_))));obtain⟨l3',mA,A2,vA,rfl,rfl,hOA,hC2,hsA⟩:=hF;refine Bt hOA fun hq l4 hQ=>?_;have hsA:=fun a ha=>(hsA a ha).up l4;have hT:=hT.up (AH l3 l4);have ovA:=hQ.rd.one
  have hU1:∀y∈(PH A1).map Ce.c,y∈A1.map Ce.c:=fun y hy=>by
   obtain⟨a,ha,rfl⟩:=List.mem_map.1 hy;rcases JG _ _ a ha with h|h
   ·cases h
   ·exact List.mem_map.2 ⟨a,h,rfl⟩
  obtain⟨W,hW⟩:∃W,PH A1=W:=⟨_,rfl⟩
  rw[hW]at hT hU1;have hol:A2.length=l.length:=by have:=hC2.len;rwa [length_map,length_map]at this
  have hln:=hK.n
  have hx2:∀a∈A2,∃b∈l,a.c.id=b.c.id/\a.c.dim=b.c.dim/\a.c.sd.Perm b.c.sd:=fun a ha=>by obtain⟨y,hy,e1,e2,e3⟩:=hC2.sim.mem a.c (List.mem_map.2 ⟨a,ha,rfl⟩);obtain⟨b,hb,rfl⟩:=List.mem_map.1 hy;exact⟨b,hb,e1,e2,e3⟩
  have hget:∀i (hi:i<A2.length),(A2.map Ce.c).getD i default=A2[i].c:=fun i hi=>by simp[List.getD,hi]
  have hres:∀e,e=K7 (W.map Ce.c) (A2.map Ce.c)->(4000<l.length/\e=(0,2))\/(l.length<=4000/\∃A1 A2:List Ce,CanO (l.map Ce.c) (A1.map Ce.c)/\CanO (l.map Ce.c) (A2.map Ce.c)/\e=K7 ((PH A1).map Ce.c) (A2.map Ce.c)):=fun e he=>.inr ⟨by omega,A1,A2,hC1,hC2,by rw[he,hW]⟩;refine Qx (Eb rfl CI rfl Bk rfl rfl rfl) rfl (Qm rfl (Qm rfl (Am ?_)));refine Bd (fun sl h' ms'=>sl=[(4,.pointer (some ⟨g,0,none⟩)),(6,vA)]/\hq.le h'/\ms'=[]/\∀j,j<A2.length->cA (W.map Ce.c) (A2.map Ce.c) j=none) ?_ (fun s h ms hI=>?_)
  ·refine Ac (Ad (Qm rfl (Qx (Ap hQ.rd.any rfl Bk rfl) rfl (Qm rfl (Am (Af ?_))))))
   refine Ax (fun q sl h' ms'=>∃(i:Nat),q=A2.length-i/\sl=[(4,.pointer (some ⟨g,0,none⟩)),(5,.int .i64 (Jj (A2.map Ce.c) i)),(6,vA),(22,vA),(23,.int .i64 A2.length),(24,.int .i64 i)]/\hq.le h'/\ms'=[]/\i<=A2.length/\∀j,j<i->cA (W.map Ce.c) (A2.map Ce.c) j=none)
    (A2.length-0) _ ⟨0,rfl,rfl,DS,rfl,by omega,fun j h=>by omega⟩ Qs ?_
   rintro q sl h5 ms' ⟨i,rfl,rfl,l5,rfl,hi,hno⟩;have hQ:=hQ.up l5;refine Au (Qm rfl (Am (Ac ?_)));refine Av rfl (fun hlt=>?_) (fun hlt=>?_)
   ·have hil:i<A2.length:=by omega
    obtain⟨x,hx⟩:∃x,A2[i]=x:=⟨_,rfl⟩
    have hxm:x∈A2:=by rw[<-hx];exact getElem_mem hil
    have hgx:=hget i hil;rw[hx]at hgx;obtain⟨b,hb,e1,e2,e3⟩:=hx2 x hxm;have hX:=(hsA x hxm).up l5;have hd:BE x.c.dim:=by rw[e2];exact hK.d b hb
    have hn:x.c.sd.length<=1000000:=by rw[e3.length_eq];exact hK.s b hb
    have hr:∀s∈x.c.sd,BE s.1/\BE s.2:=fun s hs=>hK.r b hb s (e3.mem_iff.1 hs);have oxv:=hX.rd.one
    have hl1:Jj (A2.map Ce.c) (i+1)=x.c.id:=by unfold Jj;rw[if_neg (by omega),Nat.add_sub_cancel,hgx]
    have hcl:i<(A2.map Ce.c).length:=by rw[length_map];exact hil
    have hsx:∀ms,Seg h5 ms ((AF vA).add (i*3)) (cC x):=fun ms=>by rw[<-hx];exact(hQ.any (ms:=ms)).seg hil
    refine Ag (Ab (Ac (Af (Au (Qx (BT (i) hQ.rd.any rfl Bk AG rfl rfl) rfl (Qx (oG rfl EB AG (hsx _)) rfl (CJ [.int .i64 0,.int .i64 0,.slice none 0 0] rfl AG rfl rfl (fun g8=>?_))))))));refine Sa 0 [_,_,_] AG rfl (by simp[o1,ovA,oxv]) ?_;refine Am (AD fun h6 l6 hS8=>?_);have e80:∀ms,Cell h6 ms (⟨g8,0,none⟩:Addr) (.int .i64 x.c.id):=fun ms=>Seg.all hS8 0 _ rfl ms;have l56:=AH l5 l6;refine Ac (Au (Qf Bx rfl (Ql rfl U3 (e80 _) (Qm rfl (Qm rfl (Am ?_))))));refine Av rfl (fun hle=>?_) (fun hle=>?_)
    ·have hch:=VL (U:=W.map Ce.c) hcl hno (by unfold cA;rw[hgx,if_pos hle]);refine Au (Qf Bx rfl (Ql rfl U3 (e80 _) (Qm rfl (Qm rfl (Am (Ao (Ah (An (Ah (Ah (An (Ah ?_))))))))))));exact BO rfl rfl rfl (⟨_,rfl,hres _ hch.symm⟩)
    ·refine Ag (Ab (Au (Qf Bx rfl (Ql rfl U3 (e80 _) (Qm rfl (BG (Qm rfl (Qx (oG rfl EB AG (Seg.any hS8)) rfl (Qc call76 rfl (WV W x g h6 (hT.up l56) (hX.up l6) hd hn hr) (fun rF h7 ms7 l7 hF=>?_))))))))));subst hF;refine Gf ?_ ms7;have e80:∀ms,Cell h7 ms (⟨g8,0,none⟩:Addr) (.int .i64 x.c.id):=fun ms=>(e80 ms).le l7;refine Qm rfl (BG (Qm rfl (Qm rfl (Am ?_))));refine Av rfl (fun hne=>?_) (fun hne=>?_)
     ·have hch:=VL (U:=W.map Ce.c) hcl hno (by unfold cA;rw[hgx,if_neg hle,if_pos hne]);refine Au (Qf Bx rfl (Ql rfl U3 (e80 _) (Qm rfl (Qm rfl (Qm rfl (Am (Ao (An (Ah (Ah (An (Ah ?_))))))))))));exact BO rfl rfl rfl (⟨_,rfl,hres _ hch.symm⟩)
     ·have hci:cA (W.map Ce.c) (A2.map Ce.c) i=none:=by unfold cA;rw[hgx,if_neg hle,if_neg hne]
      refine Ag (Ai (Ab (Ad (Qx (oA rfl) rfl (Qm rfl (Aj ?_))))))
      exact Ak (A2.length-(i+1)) _ (by omega) ⟨i+1,rfl,by rw[hl1],AH l56 l7,rfl,by omega,fun j hj=>by
       rcases (by omega:j<i\/j=i) with h1|rfl
       ·exact hno j h1
       ·exact hci⟩ Qs
   ·obtain rfl:i=A2.length:=by omega
    refine As (Aa (Aa (Ae ?_)));exact AC _ ⟨rfl,l5,rfl,hno⟩ Qs
  ·obtain⟨rfl,l5,rfl,hno⟩:=hI;have hno':∀j,j<(A2.map Ce.c).length->cA (W.map Ce.c) (A2.map Ce.c) j=none:=fun j hj=>hno j (by rwa [length_map]at hj);have hQ:=hQ.up l5;have hT:=hT.up l5;have hsA:=fun a ha=>(hsA a ha).up l5;refine Ac (Au (Qm rfl (Qx (Ap hQ.rd.any rfl Bk rfl) rfl (Qm rfl (Am (Af ?_))))))
   refine Ax (fun q sl h' ms'=>∃(i:Nat),q=A2.length-i/\sl=[(4,.pointer (some ⟨g,0,none⟩)),(45,vA),(46,.int .i64 A2.length),(47,.int .i64 i)]/\h.le h'/\ms'=[]/\i<=A2.length/\∀j,j<i->SM (W.map Ce.c) (A2.map Ce.c) j=none)
    (A2.length-0) _ ⟨0,rfl,rfl,DS,rfl,by omega,fun j h=>by omega⟩ Qs ?_
   rintro q sl h6 ms' ⟨i,rfl,rfl,l6,rfl,hi,hnB⟩;have hQ:=hQ.up l6;refine Au (Qm rfl (Am (Ac ?_)));refine Av rfl (fun hlt=>?_) (fun hlt=>?_)
   ·have hil:i<A2.length:=by omega
    obtain⟨x,hx⟩:∃x,A2[i]=x:=⟨_,rfl⟩
    have hxm:x∈A2:=by rw[<-hx];exact getElem_mem hil
    have hgx:=hget i hil;rw[hx]at hgx;have hX:=(hsA x hxm).up l6;have oxv:=hX.rd.one;have hcl:i<(A2.map Ce.c).length:=by rw[length_map];exact hil
    have hsx:∀ms,Seg h6 ms ((AF vA).add (i*3)) (cC x):=fun ms=>by rw[<-hx];exact(hQ.any (ms:=ms)).seg hil
    have hstep:SM (W.map Ce.c) (A2.map Ce.c) i=none->∀j,j<i+1->SM (W.map Ce.c) (A2.map Ce.c) j=none:=fun h j hj=>by
     rcases (by omega:j<i\/j=i) with h1|rfl
     ·exact hnB j h1
     ·exact h
    refine Ag (Ab (Ac (Af (Au (Qx (BT (i) hQ.rd.any rfl Bk AG rfl rfl) rfl (Qx (oG rfl EB AG (hsx _)) rfl (CJ [.int .i64 0,.int .i64 0,.slice none 0 0] rfl AG rfl rfl (fun g11=>?_))))))));refine Sa 0 [_,_,_] AG rfl (by simp[o1,ovA,oxv]) ?_;refine Am (AD fun h7 l7 hS11=>?_);have e110:∀ms,Cell h7 ms (⟨g11,0,none⟩:Addr) (.int .i64 x.c.id):=fun ms=>Seg.all hS11 0 _ rfl ms;have e111:∀ms,Cell h7 ms (⟨g11,1,none⟩:Addr) (.int .i64 x.c.dim):=fun ms=>Seg.all hS11 1 _ rfl ms;have l67:=AH l6 l7;refine Au (Qf CA rfl (Ql rfl U3 (e111 _) (Qm rfl (Am ?_))));refine Av rfl (fun hd=>?_) (fun hd=>?_)
    ·have hAr:WK (W.map Ce.c) x.c:=Aam hC1 hC2 hU1 (fun a ha s hs=>by
      obtain⟨b,hb,rfl⟩:=List.mem_map.1 ha
      exact hK.r b hb s hs) hno' (List.mem_map.2 ⟨x,hxm,rfl⟩) hd
     refine Au (Qm rfl (Qx (oG rfl EB AG (Seg.any hS11)) rfl (Qc call77 rfl (Sw W x g h7 (hT.up l67) (hX.up l7) hAr) (fun rF h8 ms8 l8 hF=>?_))));subst hF;refine Gf ?_ ms8;have e110:∀ms,Cell h8 ms (⟨g11,0,none⟩:Addr) (.int .i64 x.c.id):=fun ms=>(e110 ms).le l8;refine Qm rfl (BG (Qm rfl (Qm rfl (Am ?_))));refine Av rfl (fun hne=>?_) (fun hne=>?_)
     ·have hch:=Y3 (U:=W.map Ce.c) hno' hcl hnB (by unfold SM;rw[hgx,if_pos hd,if_pos hne]);refine Au (Qf Bx rfl (Ql rfl U3 (e110 _) (Qm rfl (Qm rfl (Qm rfl (Am (Ao (An (Ah (Ah (An (Ah ?_))))))))))));exact BO rfl rfl rfl (⟨_,rfl,hres _ hch.symm⟩)
     ·have hci:SM (W.map Ce.c) (A2.map Ce.c) i=none:=by unfold SM;rw[hgx,if_pos hd,if_neg hne]
      refine Ag (Ai (Ab (Ad (Qx (oA rfl) rfl (Qm rfl (Aj ?_))))));exact Ak (A2.length-(i+1)) _ (by omega) ⟨i+1,rfl,rfl,AH l67 l8,rfl,by omega,hstep hci⟩ Qs
    ·have hci:SM (W.map Ce.c) (A2.map Ce.c) i=none:=by unfold SM;rw[hgx,if_neg hd]
     refine Ag (Ai (Ab (Ad (Qx (oA rfl) rfl (Qm rfl (Aj ?_))))));exact Ak (A2.length-(i+1)) _ (by omega) ⟨i+1,rfl,rfl,l67,rfl,by omega,hstep hci⟩ Qs
   ·obtain rfl:i=A2.length:=by omega
    have hch:=VD hno' (fun j hj=>hnB j (by rwa [length_map]at hj));refine As (Aa (Aa (Ae (Ab (Au (Qm rfl (Qm rfl (Am (Ao ?_)))))))));exact BO rfl rfl rfl (⟨(0,0),rfl,hres _ hch.symm⟩)
end Go.Proofs.Q
namespace Go.Proofs.Q
open Go.Proofs.Tryz
open Go.Eng Go.RowKit
variable {l:List Ce} {o:List Cl} {x c:Cl}
theorem Td(U:List Cl)(x:Cl):E9 U x=(II U x x.sd.length).map fun e=>((Bw x e.1.toNat).1,e.2):=by
 have hx:x.sd=(range x.sd.length).map (Bw x):=List.ext_getElem (by simp) fun j h1 h2=>by simp[Bq h1]
 unfold E9 Kg
 conv=>lhs;rw[hx]
 unfold II;rw[flatMap_map,List.map_flatMap];refine Dw fun i hi=>?_;unfold Ud;rw[map_map];exact List.map_congr_left fun r _=>by simp
theorem U6(E:FN)(f:Int->Int)(c:Int):DP (E.map fun e=>(f e.1,e.2)) c=DP E c/\ER (E.map fun e=>(f e.1,e.2)) c=ER E c:=by unfold DP ER;rw[map_map,map_map];exact⟨rfl,rfl⟩
theorem XG{U:List Cl}(G:GoodT (E9 U x) x.sd)(hn:0<x.sd.length)(hd:(x.sd.map Prod.fst).Nodup):TZ (II U x x.sd.length) x.sd.length=0:=by
 have hT:=Td U x;obtain⟨E,hE⟩:∃E,II U x x.sd.length=E:=⟨_,rfl⟩
 have hi:∀e∈E,∃i:Nat,i<x.sd.length/\e.1=(i:Int):=fun e he=>by rw[<-hE]at he;obtain⟨i,hi,r,_,rfl⟩:=Mo he;exact⟨i,hi,rfl⟩
 rw[hE]at hT ⊢;rw[hT]at G;have hsm:=fun c=>U6 E (fun k=>(Bw x k.toNat).1) c
 have h1:∀e∈E,DP E e.2.1=0:=fun e he=>by have h:=G.sum ((Bw x e.1.toNat).1,e.2) (List.mem_map.2 ⟨e,he,rfl⟩);rw[(hsm _).1]at h;exact h
 have h2:∀e∈E,ER E e.2.1=2:=fun e he=>by have h:=G.two ((Bw x e.1.toNat).1,e.2) (List.mem_map.2 ⟨e,he,rfl⟩);rw[(hsm _).2]at h;exact h
 have hinj:∀i j:Nat,i<x.sd.length->j<x.sd.length->(Bw x i).1=(Bw x j).1->i=j:=fun i j hi hj e=>by
  rcases Nat.lt_trichotomy i j with h|h|h
  ·exact absurd e (It hd i j h hj)
  ·exact h
  ·exact absurd e.symm (It hd j i h hi)
 have hcon:∀{u v:Int},Con (E.map fun e=>((Bw x e.1.toNat).1,e.2)) u v->∀i:Nat,i<x.sd.length->u=(Bw x i).1->∃j:Nat,j<x.sd.length/\v=(Bw x j).1/\Con E i j:=fun {u v} h=>by
  induction h with
  | refl=>intro i hi e;exact⟨i,hi,e,.refl _⟩
  | @step b d c w w' _ m1 m2 ih=>
   intro i hi0 e;obtain⟨j,hj,e1,C⟩:=ih i hi0 e;obtain⟨p,hp,q1⟩:=List.mem_map.1 m1;obtain⟨p',hp',q2⟩:=List.mem_map.1 m2;obtain⟨k,hk,ek⟩:=hi p hp;obtain⟨k',hk',ek'⟩:=hi p' hp';rw[ek]at q1;rw[ek']at q2;have a1:=(Prod.mk.injEq _ _ _ _ ▸ q1:_/\_)
   have a2:=(Prod.mk.injEq _ _ _ _ ▸ q2:_/\_)
   obtain⟨b1,b2⟩:=a1;obtain⟨b1',b2'⟩:=a2;rw[Int.toNat_natCast]at b1 b1';have hkj:k=j:=hinj k j hk hj (by rw[b1,e1]);subst hkj;refine⟨k',hk',b1'.symm,.step C (c:=c) (w:=w) (w':=w') ?_ ?_⟩
   ·have:p=((k:Int),c,w):=by rw[<-ek,<-b2]
    rw[<-this];exact hp
   ·have:p'=((k':Int),c,w'):=by rw[<-ek',<-b2']
    rw[<-this];exact hp'
 have h3:0<x.sd.length/\∀i:Nat,i<x.sd.length->Con E 0 i:=by refine⟨hn,fun i hi'=>?_⟩;have hc:=G.con (Bw x 0) (by rw[Bq hn];exact getElem_mem hn) (Bw x i) (by rw[Bq hi'];exact getElem_mem hi');obtain⟨j,hj,e,C⟩:=hcon hc 0 hn rfl;rw[hinj i j hi' hj e];exact C
 unfold TZ;rw[if_neg (fun w=>w h1),if_neg (fun w=>w h2),if_neg (fun w=>w h3)]
theorem X4:V7 x x.sd.length=(x.sd.map Prod.snd).sum:=by unfold V7;rw[take_length]
theorem TF(R:Rgt o)(hx:x∈o):DC o x=0:=by
 have hb:∀i,i<x.sd.length->¬Hc o x i:=fun i hi q=>by
  obtain⟨y,hy,e1,e2⟩:=R.sid x hx _ (getElem_mem hi);unfold Hc at q;rw[Bq hi,<-e1,CY R.nd hy,Cw R.nd hy]at q;rcases q with q|q|⟨q1,q2⟩
  ·cases q
  ·exact q e2
  ·rw[e1,<-Bq hi]at q2;exact It (R.sds x hx) (i-1) i (by omega) hi q2
 have hs:∀i,i<x.sd.length->¬Cb x i:=fun i hi q=>by unfold Cb at q;rw[Bq hi]at q;have:=R.sgn x hx _ (getElem_mem hi);omega
 unfold DC
 rw[if_neg (by have:=R.dim x hx;omega),if_neg (R.num x hx),if_neg (fun w=>w hb),if_neg (fun w=>w hs),if_neg fun q=>by
  have:=R.one x hx q.1;rw[X4]at q
  exact q.2 this]
theorem Uz(R:RgtF o):K7 o o=(0,0):=by
 have G:=R.rgt;refine VD (fun j hj=>?_) fun j hj=>?_
 ·unfold cA;rw[Io hj,if_neg,if_neg]
  ·exact fun q=>q (TF G (getElem_mem hj))
  ·unfold Jj;split
   ·have:=G.pos _ (getElem_mem hj);omega
   ·rw[Io (by omega)];have:=List.pairwise_iff_getElem.1 R.inc (j-1) j (by omega) hj (by omega);omega
 ·unfold SM;rw[Io hj];split
  ·rename_i hd;have hx:=getElem_mem hj;have hnum:=G.num _ hx;unfold Ck at hnum;rw[if_neg];exact fun q=>q (XG (G.tab _ hx (by omega)) (by omega) (G.sds _ hx))
  ·rfl
structure RgC(l:List Ce):Prop where
 r:Rgt (l.map Ce.c)
 i:∀a∈l,a.c.id<=1000000
def cn(l:List Ce):List Cl:=ordF (l.map Ce.c)
theorem C4(l:List Ce):(cn l).length=l.length:=by unfold cn;rw[Iy,length_map]
theorem RgC.F(R:RgC l):RgtF (cn l):=R.r.ordF
theorem CanO.ord{l:List Cl}(C:CanO l o)(R:Rgt l):o=ordF l:=by
 have F:=R.ordF;have hp:=CE l.length l (Nat.le_refl _);obtain⟨l',h1,h2,h3⟩:=C.mem;have hinc:=F.inc
 have hm:(o.map Cl.id)=(ordF l).map Cl.id:=by refine C3 id (C.ids.trans ?_) (List.pairwise_map.2 C.inc) (List.pairwise_map.2 hinc);have:=(hp.map Cl.id).symm;rw[map_map]at this;exact this
 have hlen:o.length=(ordF l).length:=by have:=congrArg List.length hm;simpa using this
 refine List.ext_getElem hlen fun i h1' h2'=>?_;obtain⟨a1,a2,a3,a4⟩:=h3 i h1' (by omega)
 have e1:o[i].id=(ordF l)[i].id:=by have:=List.getElem_of_eq hm (i:=i) (by simpa using h1');simpa using this
 have hxl:l'[i]'(by omega)∈l:=h1.mem_iff.1 (getElem_mem _);obtain⟨z,hz,ez⟩:=HJ (getElem_mem h2')
 have hzz:z=l'[i]'(by omega):=by
  have b1:=CY R.nd hz;have b2:=CY R.nd hxl;have:z.id=(l'[i]'(by omega)).id:=by rw[<-a1,e1,ez];rfl
  rw[this,b2]at b1;exact(Option.some.inj b1).symm
 have hs:o[i].sd=(ordF l)[i].sd:=by refine C3 Prod.fst (a3.trans ?_) a4 (F.sinc _ (getElem_mem h2'));rw[ez,hzz];exact(BB _).symm
 have hd:o[i].dim=(ordF l)[i].dim:=by rw[a2,ez,hzz];rfl
 revert e1 hs hd;generalize o[i]=x;generalize (ordF l)[i]=y;cases x;cases y;intro e1 hs hd;simp only at e1 hs hd;rw[e1,hs,hd]
theorem RgtF.ordF(R:RgtF o):ordF o=o:=by
 have e1:o.map Cl.can=o:=by
  have:∀l:List Cl,(∀x∈l,x∈o)->l.map Cl.can=l:=fun l=>by
   induction l with
   | nil=>intro _;rfl
   | cons a l ih=>
    intro h;have e:BY a.sd=a.sd:=C3 Prod.fst (BB _) (E4 _) (R.sinc a (h a Mh));rw[map_cons,ih fun x hx=>h x (mem_cons_of_mem _ hx)];unfold Cl.can;rw[e]
  exact this o fun x hx=>hx
 have h2:=CE o.length o (Nat.le_refl _);rw[e1]at h2;exact C3 Cl.id h2 (Er _ _ (Nat.le_refl _)) R.inc
theorem Uo(R:RgtF (l.map Ce.c)):cn l=l.map Ce.c:=R.ordF
theorem V4(h:c∈cn l):∃b∈l,c=b.c.can:=by obtain⟨a,ha,e⟩:=HJ h;obtain⟨b,hb,rfl⟩:=List.mem_map.1 ha;exact⟨b,hb,e⟩
theorem RgC.ci(R:RgC l)(h:c∈cn l):c.id<=1000000:=by obtain⟨b,hb,rfl⟩:=V4 h;exact R.i b hb
theorem RgC.cI(R:RgC l)(h:c∈cn l):BE c.id:=by have:=R.ci h;have:=R.F.rgt.pos _ h;unfold BE;omega
theorem Rgt.bds{l:List Cl}(R:Rgt l)(hx:x∈l):(0<=x.dim/\x.dim<=8)/\x.sd.length<=64:=by have h1:=R.dim x hx;have h2:=R.num x hx;unfold Ck at h2;omega
theorem RgC.pc(R:RgC l):ZK l:=by
 have G:=R.r;have hm:∀a∈l,a.c∈l.map Ce.c:=fun a ha=>List.mem_map.2 ⟨a,ha,rfl⟩;have hid:∀a∈l,BE a.c.id:=fun a ha=>by have:=G.pos _ (hm a ha);have:=R.i a ha;unfold BE;omega
 have hn:=G.n;rw[length_map]at hn;refine⟨⟨by omega,fun a ha=>?_,hid⟩,fun a ha=>?_,fun a ha s hs=>?_⟩
 ·have:=(G.bds (hm a ha)).2;omega
 ·have:=(G.bds (hm a ha)).1;unfold BE;omega
 ·obtain⟨y,hy,e,_⟩:=G.sid _ (hm a ha) s hs;obtain⟨b,hb,rfl⟩:=List.mem_map.1 hy;have h2:=G.sgn _ (hm a ha) s hs;rw[<-e];exact⟨hid b hb,by unfold BE;omega⟩
theorem Yl{A:List Ce}(h:A.map Ce.c=o)(hn:(o.map Cl.id).Nodup):(A.map fun a=>a.c.id).Nodup:=by rw[<-h,map_map]at hn;exact hn
theorem Ln(l:List Ce)(v:Value)(hp:Hp)(hK:RgC l)(hR:RdC hp v l):FnT Tryz.prog 28 #[.agg #[v]] hp [] (fun r _ _=>r=.tuple #[.int .i64 0,.int .i64 0]):=by
 refine(Ru l v hp hK.pc hR).mono fun r _ _ h=>?_;obtain⟨e,rfl,h⟩:=h;have hn:=hK.r.n;rw[length_map]at hn;have hF:=hK.F;rcases h with ⟨h,_⟩|⟨_,A1,A2,C1,C2,rfl⟩
 ·omega
 ·have e1:=C1.ord hK.r;have e2:=C2.ord hK.r;rw[Tq (Yl e1 hF.rgt.nd),e1,e2];have:=Uz hF;unfold cn at this;rw[this]
theorem Ja(l:List Ce)(v:Value)(hp:Hp)(hK:RgC l)(hR:RdC hp v l):FnT Tryz.prog 65 #[.agg #[v]] hp [] (fun r h' ms'=>hp.le h'/\∃m A v',ms'=[m]/\r=.agg #[v']/\OwnL cC 3 52 m v' A/\A.map Ce.c=cn l/\∀a∈A,RdL cD 2 h' [] a.v a.c.sd):=by refine(IW l v hp hK.pc.n hK.pc.s hR).mono fun r h' ms' h=>?_;obtain⟨h1,m,A,v',h2,h3,h4,h5,h6⟩:=h;exact⟨h1,m,A,v',h2,h3,h4,h5.ord hK.r,h6⟩
theorem MQ(l:List Ce)(v:Value)(hp:Hp)(hK:RgC l)(hR:RdC hp v l):FnT Tryz.prog 64 #[.agg #[v]] hp [] (fun r h' ms'=>hp.le h'/\ms'=[]/\∃g A,r=.pointer (some ⟨g,0,none⟩)/\A.map Ce.c=cn l/\RdT h' g A):=by refine(Yo l v hp hK.pc.toOfOk hR).mono fun r h' ms' h=>?_;obtain⟨h1,h2,g,A,h3,h4,h5⟩:=h;have e:A.map Ce.c=cn l:=h4.ord hK.r;rw[Tq (Yl e hK.F.rgt.nd)]at h5;exact⟨h1,h2,g,A,h3,e,h5⟩
theorem Us(l:List Ce)(v:Value)(i:Int)(hp:Hp)(hK:RgC l)(hi:BE i)(hR:RdC hp v l):FnT Tryz.prog 21 #[.agg #[v],.int .i64 i] hp [] (fun r h' ms'=>hp.le h'/\∃y,r=.tuple #[vC y,.bool (QV (cn l) i).isSome]/\y.c=FZ (cn l) i/\RdL cD 2 h' [] y.v y.c.sd):=by
 have o1:=hR.q.rd.one;refine Aq func21 ntmps21 rfl rfl (fun w0 hw0=>?_);simp only[AV];refine Au (AX [_] rfl rfl (by rfl) rfl rfl rfl (fun g2=>CJ [.int .i64 0,.int .i64 0,.slice none 0 0] rfl AG rfl rfl (fun g4=>Qm rfl (Am (Bn 1 rfl fun h1 l1 hS=>?_)))));have hR:=hR.up l1;refine Au (Qx (oG rfl CI AS (Seg.any hS)) rfl (Qc call64 rfl (MQ l v h1 hK hR) (fun rT h2 ms2 l2 hF=>?_)));obtain⟨l2',rfl,g,A,rfl,hA,gm,mMt,bst,vids,hSg,hMt,lmt,hVt,hsU⟩:=hF;have eT:∀ms,Cell h2 ms (⟨g,0,none⟩:Addr) (.map (some gm)):=fun ms=>Seg.all hSg 0 _ rfl ms;obtain⟨y,hy⟩:∃y,(A9 (E8 A) i).getD default=y:=⟨_,rfl⟩
 obtain⟨bb,hbb⟩:∃bb,(A9 (E8 A) i).isSome=bb:=⟨_,rfl⟩
 have hyR:=PW hsU i;rw[hy]at hyR;have hbb':(QV (cn l) i).isSome=bb:=by rw[<-hA,<-NR];exact hbb
 have hyc:y.c=FZ (cn l) i:=by rw[<-hA,<-HP,hy]
 have oy:=hyR.rd.one;refine Qm rfl (Qf EG rfl (Ql rfl Gu (eT _) (Qm rfl (Qx (ED (V:=vC) (z:=(default:Ce)) i hy hbb Bi hMt lmt rfl Gu KQ rfl rfl hi) rfl (Qm rfl (Qm rfl (Qm rfl (CJ [.int .i64 0,.int .i64 0,.slice none 0 0] rfl AG rfl rfl (fun g6=>?_)))))))));refine Sa 0 [_,_,_] AG rfl (by simp[o1,oy]) ?_;refine Qm rfl (BG (Qx (oG rfl EB AG (Seg.blk 0 rfl)) rfl (Qm rfl ?_)));refine Sa 1 [_,_,_] AG rfl (by simp[o1,oy]) ?_;refine Qm rfl (Am (Ao ?_));exact HR (vs:=[_,_,_]) 1 rfl rfl rfl EB rfl AG rfl rfl (⟨AH l1 l2,y,by rw[hbb'];rfl,hyc,hyR⟩)
end Go.Proofs.Q
namespace Go.Proofs.Q
open Go.Proofs.Tryz
open Go.Eng Go.RowKit
def cV(p:Int×Int):List Value:=[.int .i64 p.1,.int .i64 p.2]
theorem GA:∀p,(cV p).length=2:=fun _=>rfl
theorem O8:∀a,∀c∈cV a,c.oneCell'=true:=fun a c hc=>by simp only[cV,mem_cons,List.not_mem_nil,or_false]at hc;rcases hc with rfl|rfl<;>rfl
def A8(F:List (Int×Int)):List (Int×Int):=F.foldl (fun T p=>CM T p.1 p.2) []
theorem IH(F:List (Int×Int))(p:Int×Int):A8 (F++[p])=CM (A8 F) p.1 p.2:=by unfold A8;rw[foldl_append];rfl
def Hs(F:List (Int×Int))(c:Int):Int:=(A9 (A8 F) c).getD 0
theorem LJ(c:Int):∀F:List (Int×Int),c∈(A8 F).map Prod.fst<->c∈F.map Prod.fst:=Da (by simp[A8]) fun F p ih=>by rw[IH,EV,ih,map_append,mem_append];simp only[map_cons,List.map_nil,mem_singleton];exact⟨fun q=>q.symm,fun q=>q.symm⟩
theorem GM{c x:Int}:∀{F:List (Int×Int)},(F.map Prod.fst).Nodup->(c,x)∈F->Hs F c=x:=fun {F}=>by
 revert F
 have:∀F:List (Int×Int),(F.map Prod.fst).Nodup->(c,x)∈F->Hs F c=x:=Da (fun _ h=>nomatch h) fun F p ih hn hm=>by
  rw[map_append,List.nodup_append]at hn;unfold Hs;rw[IH,Df];rcases List.mem_append.1 hm with hm|hm
  ·have hne:c≠p.1:=fun e=>hn.2.2 c (List.mem_map.2 ⟨_,hm,rfl⟩) p.1 (by simp) e;rw[if_neg hne];exact ih hn.1 hm
  ·rw[<-List.mem_singleton.1 hm,if_pos rfl];rfl
 exact fun {F}=>this F
theorem IU(F:List (Int×Int))(v:Value)(h:Hp)(hR:RdL cV 2 h [] v F)(hn:F.length<=1000000)(hk:∀p∈F,BE p.1):FnT Tryz.prog 66 #[v] h [] (fun r h' ms'=>h.le h'/\∃g m bs,r=.map (some g)/\ms'=[m]/\Cu kN kN g BE m (A8 F) bs):=by
 have o1:=hR.rd.one;refine Aq func66 ntmps66 rfl rfl (fun w0 hw0=>?_);simp only[AV];refine Au (Qm rfl (BG (CL (K:=kN) (V:=kN) (Ok:=BE) rfl rfl rfl rfl (fun gA mA hA0=>Qm rfl (Am (Ac (Au (Qm rfl (Qx (Ap hR.rd.any rfl OU rfl) rfl (Qm rfl (Am (Af ?_))))))))))))
 refine Ax (fun q sl h' ms'=>∃(i:Nat) (mA:Hp) (bs:List Nat),q=F.length-i/\sl=[(3,.map (some gA)),(7,v),(8,.int .i64 F.length),(9,.int .i64 i)]/\h.le h'/\ms'=[mA]/\i<=F.length/\Cu kN kN gA BE mA (A8 (F.take i)) bs)
  (F.length-0) _ ⟨0,mA,[],rfl,rfl,DS,rfl,by omega,hA0⟩ Qs ?_
 rintro q sl h2 ms' ⟨i,mA,bs,rfl,rfl,l2,rfl,hi,hO⟩;have hR:=hR.up l2;refine Au (Qm rfl (Am (Ac ?_)));refine Av rfl (fun hlt=>?_) (fun hlt=>?_)
 ·have hil:i<F.length:=by omega
  obtain⟨p,hp⟩:∃p,F[i]=p:=⟨_,rfl⟩
  have hpI:BE p.1:=hk p (by rw[<-hp];exact getElem_mem hil);have hsx:∀ms,Seg h2 ms ((AF v).add (i*2)) (cV p):=fun ms=>by rw[<-hp];exact(hR.any (ms:=ms)).seg hil
  have hs:=IH (F.take i) p;rw[<-hp,<-List.take_succ_eq_append_getElem hil,hp]at hs;refine Ag (Ab (Ac (Af (Au (Qx (BT (i) hR.rd.any rfl OU DV rfl rfl) rfl (Qx (oG rfl U47 DV (hsx _)) rfl (CJ [.int .i64 0,.int .i64 0] rfl DV rfl rfl (fun g5=>?_))))))));refine Sa 0 [_,_] DV rfl (by simp[Value.oneCell']) ?_;refine Am (AD fun h3 l3 hS5=>?_);have e0:∀ms,Cell h3 ms (⟨g5,0,none⟩:Addr) (.int .i64 p.1):=fun ms=>Seg.all hS5 0 _ rfl ms;have e1:∀ms,Cell h3 ms (⟨g5,1,none⟩:Addr) (.int .i64 p.2):=fun ms=>Seg.all hS5 1 _ rfl ms;refine Ad (Qm rfl (Qf IT rfl (Ql rfl U3 (e0 _) (Qf Ke rfl (Ql rfl U3 (e1 _) (BC (V:=kN) (z:=undef) 0 p.1 p.2 Bi hO rfl rfl K4 rfl rfl rfl hpI rfl rfl (fun mA' bs' hO'=>?_)))))));rw[<-hs]at hO';refine Aj (Ai (Ab (Ad (Qx (oA rfl) rfl (Qm rfl (Aj ?_))))));exact Ak (F.length-(i+1)) _ (by omega) ⟨i+1,mA',bs',rfl,rfl,AH l2 l3,rfl,by omega,hO'⟩ Qs
 ·obtain rfl:i=F.length:=by omega
  rw[take_length]at hO;refine As (Aa (Aa (Ae (Ab (Au (Qm rfl (Qm rfl (Am (Ao ?_)))))))));exact Az rfl rfl (⟨l2,gA,mA,bs,rfl,rfl,hO⟩)
def MT(l:List (Int×Int))(pr:Int×Int->Bool):Int:=match l.findIdx? pr with|some k=>(k:Int)|none=>-1
theorem SU{l:List (Int×Int)}{pr:Int×Int->Bool}{k:Nat}(hk:k<l.length)(h:pr l[k]=true)(hno:∀j (hj:j<l.length),j<k->pr l[j]=false):MT l pr=k:=by unfold MT;have:l.findIdx? pr=some k:=List.findIdx?_eq_some_iff_getElem.2 ⟨hk,h,fun j hj=>by rw[hno j (by omega) hj];simp⟩;rw[this]
theorem Sr{l:List (Int×Int)}{pr:Int×Int->Bool}(hno:∀j (hj:j<l.length),pr l[j]=false):MT l pr=-1:=by
 unfold MT
 have:l.findIdx? pr=none:=List.findIdx?_eq_none_iff.2 fun x hx=>by obtain⟨j,hj,rfl⟩:=getElem_of_mem hx;exact hno j hj
 rw[this]
theorem Vp(l:List (Int×Int))(pr:Int×Int->Bool):0<=MT l pr<->∃s∈l,pr s=true:=by
 unfold MT;cases h:l.findIdx? pr with
 | none=>
  rw[List.findIdx?_eq_none_iff]at h;constructor
  ·intro q;exact absurd q (by decide)
  ·rintro⟨s,hs,q⟩;rw[h s hs]at q;cases q
 | some k=>
  obtain⟨hk,h1,_⟩:=List.findIdx?_eq_some_iff_getElem.1 h;exact⟨fun _=>⟨_,getElem_mem hk,h1⟩,fun _=>by show(0:Int)<=(k:Int);omega⟩
theorem SR(l:List (Int×Int))(vl:Value)(cf:FuncId)(cs:List Value)(pr:Int×Int->Bool)(h:Hp)(hR:RdL cD 2 h [] vl l)(hn:l.length<=1000000)
  (hc:∀xs w,(callFunc cf xs).run Tryz.prog w=.ok (.enter cf xs) w)
  (hp:∀s∈l,∀ms,FnV Tryz.prog cf ([]++[Value.agg (cD s).toArray]++cs).toArray h ms (.bool (pr s))) :
  FnT Tryz.prog 138 #[vl,.func (.func cf) #[] cs.toArray] h [] (fun r _ _=>r=.int .i64 (MT l pr)):=by
 have o1:=hR.rd.one;refine Aq func138 ntmps138 rfl rfl (fun w0 hw0=>?_);simp only[AV];refine Au (Qm rfl (Am (Ac (Au (Qm rfl (Qx (Ap hR.rd.any rfl Ci rfl) rfl (Qm rfl (Am (Af ?_)))))))))
 refine Ax (fun q s h' ms'=>∃(k:Nat),q=l.length-k/\s=[(0,vl),(1,.func (.func cf) #[] cs.toArray),(7,.int .i64 l.length),(8,.int .i64 k)]/\h=h'/\ms'=[]/\k<=l.length/\∀j (hj:j<l.length),j<k->pr l[j]=false)
  (l.length-0) _ ⟨0,rfl,rfl,rfl,rfl,by omega,fun j _ hj=>by omega⟩ Qs ?_
 rintro q s h' ms' ⟨k,rfl,rfl,rfl,rfl,hk,hno⟩;refine Au (Qm rfl (Am (Ac ?_)));refine Av rfl (fun hlt=>?_) (fun hlt=>?_)
 ·have hkn:k<l.length:=by omega
  have hsx:∀ms,Seg h ms ((AF vl).add (k*2)) (cD l[k]):=fun ms=>(hR.any (ms:=ms)).seg hkn;refine Ag (Ab (Ac (Af (Au (Qm rfl (Qm rfl (BG (Qm rfl (Qm rfl (Qm rfl (Qx (BT (k) hR.rd.any rfl Ci AK rfl rfl) rfl (Qx (oG rfl DA AK (hsx _)) rfl (Qx (B0 rfl rfl hc rfl (hp _ (getElem_mem hkn) _)) rfl (Am ?_))))))))))))));refine Bv rfl (fun hpk=>?_) (fun hpk=>?_)
  ·refine Ac (Ad (Qm rfl (Qm rfl (Am (Ao (An (Ah (Ah (An (Ah ?_))))))))));exact Az rfl rfl (by rw[SU hkn hpk hno])
  ·refine Ag (Ai (Ab (Ad (Qx (oA rfl) rfl (Qm rfl (Aj ?_))))));refine Ak (l.length-(k+1)) _ (by omega) ⟨k+1,rfl,rfl,rfl,rfl,by omega,fun j hj hjk=>?_⟩ Qs;rcases (by omega:j<k\/j=k) with h2|rfl
   ·exact hno j hj h2
   ·exact hpk
 ·obtain rfl:k=l.length:=by omega
  refine As (Aa (Aa (Ae (Ab (Au (Qm rfl (Am (Ao ?_))))))));exact Az rfl rfl (by rw[Sr fun j hj=>hno j hj hj])
theorem LZ(l:List (Int×Int))(vl:Value)(cf:FuncId)(cs:List Value)(pr:Int×Int->Bool)(h:Hp)(hR:RdL cD 2 h [] vl l)(hn:l.length<=1000000)
  (hc:∀xs w,(callFunc cf xs).run Tryz.prog w=.ok (.enter cf xs) w)
  (hp:∀s∈l,∀ms,FnV Tryz.prog cf ([]++[Value.agg (cD s).toArray]++cs).toArray h ms (.bool (pr s))) (ms:List Hp) :
  FnV Tryz.prog 67 #[vl,.func (.func cf) #[] cs.toArray] h ms (.bool (decide (0<=MT l pr))):=by
 refine Gp ?_ ms;refine Aq func67 ntmps67 rfl rfl (fun w0 hw0=>?_);simp only[AV];refine Au (Qm rfl (BG (Qm rfl (Qm rfl (Qx (AN rfl call138 rfl (Gp (SR l vl cf cs pr h hR hn hc hp) _)) rfl (Qm rfl (Qm rfl (Am (Ao ?_)))))))));exact Az rfl rfl (rfl)
theorem Vk(F:List (Int×Int))(s:Int×Int)(i:Int)(g1 g2 gA:Nat)(mA:Hp)(bs:List Nat)(h:Hp)(hO:Cu kN kN gA BE mA (A8 F) bs)(lA:mA.le h)(h1:∀ms,Cell h ms (⟨g1,0,none⟩:Addr) (.map (some gA)))(h2:∀ms,Cell h ms (⟨g2,0,none⟩:Addr) (.int .i64 i))(hi:BE i)(hs:BE s.1)(ms:List Hp) :
  FnV Tryz.prog 68 ([]++[Value.agg (cD s).toArray]++[Value.pointer (some ⟨g1,0,none⟩),.pointer (some ⟨g2,0,none⟩)]).toArray h ms (.bool (decide (Hs F s.1>Hs F i))):=by
 refine Gp ?_ ms;show FnT _ _ #[.agg #[.int .i64 s.1,.int .i64 s.2],.pointer (some ⟨g1,0,none⟩),.pointer (some ⟨g2,0,none⟩)] _ _ _;refine Aq func68 ntmps68 rfl rfl (fun w0 hw0=>?_);simp only[AV];refine Au (AX [_,_] rfl rfl (by rfl) rfl rfl rfl (fun g3=>Qm rfl (Am (AD fun h3 l3 hS=>?_))));have e0:∀ms,Cell h3 ms (⟨g3,0,none⟩:Addr) (.int .i64 s.1):=fun ms=>Seg.all hS 0 _ rfl ms;have h1:∀ms,Cell h3 ms (⟨g1,0,none⟩:Addr) (.map (some gA)):=fun ms=>(h1 ms).le l3;have h2:∀ms,Cell h3 ms (⟨g2,0,none⟩:Addr) (.int .i64 i):=fun ms=>(h2 ms).le l3;refine Au (Ql rfl K4 (h1 _) (Qf Cy rfl (Ql rfl U3 (e0 _) (Qx (BW (V:=kN) (z:=(0:Int)) (u:=Hs F s.1) s.1 rfl Bi hO (AH lA l3) rfl K4 Hi rfl rfl hs) rfl (Ql rfl K4 (h1 _) (Qf Bx rfl (Ql rfl U3 (h2 _) (Qx (BW (V:=kN) (z:=(0:Int)) (u:=Hs F i) i rfl Bi hO (AH lA l3) rfl K4 Hi rfl rfl hi) rfl (Qm rfl (Qm rfl (Am (Ao ?_))))))))))));exact Az rfl rfl (rfl)
end Go.Proofs.Q
