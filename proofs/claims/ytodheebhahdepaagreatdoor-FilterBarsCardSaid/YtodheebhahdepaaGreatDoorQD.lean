/- A part of the proof. -/
import Derived.Test.YtodheebhahdepaaGreatDoorQC
set_option linter.unusedSimpArgs false
set_option linter.unusedVariables false
set_option linter.unusedSectionVars false
set_option maxRecDepth 100000
set_option maxHeartbeats 4000000
open List (length_map length_singleton getElem_mem range length_append nil_append length_take mem_cons mem_singleton cons_append map_append mem_append mem_cons_of_mem length_nil length_drop append_nil map_map map_cons length_set getElem_of_mem take_length append_assoc flatMap_cons length_cons mem_append_left mem_append_right length_range range_succ foldl_append getElem_append_right flatMap_map sum_cons mem_of_mem_take)
namespace Go.Proofs.Q
open Go.Eng Go.RowKit
variable {all:List (List Int)} {a b:List Int}
theorem Ot:∀a:List Int,GJ a a=false
 | []=>rfl
 | x::a=>by unfold GJ;rw[if_pos rfl];exact Ot a
theorem K0:∀{a b c:List Int},GJ a b=true->GJ b c=true->GJ a c=true
 | x::a,y::b,z::c,h1,h2=>by
  unfold GJ at *;by_cases e1:x=y
  ·subst e1;rw[if_pos rfl]at h1;by_cases e2:x=z
   ·subst e2;rw[if_pos rfl]at h2 ⊢;exact K0 h1 h2
   ·rw[if_neg e2]at h2 ⊢;exact h2
  ·rw[if_neg e1]at h1;have h1:=of_decide_eq_true h1;by_cases e2:y=z
   ·subst e2;rw[if_neg e1];exact decide_eq_true h1
   ·rw[if_neg e2]at h2;have h2:=of_decide_eq_true h2;rw[if_neg (by omega)];exact decide_eq_true (by omega)
 | [],_,_,h1,_=>by cases h1
 | _::_,[],_,h1,_=>by cases h1
 | _::_,_::_,[],_,h2=>by cases h2
theorem K3:∀{a b:List Int},a.length=b.length->a≠b->GJ a b=true\/GJ b a=true
 | [],[],_,h=>absurd rfl h
 | x::a,y::b,hl,h=>by
  unfold GJ;by_cases e:x=y
  ·subst e;rw[if_pos rfl,if_pos rfl];exact K3 (by simpa using hl) (fun q=>h (by rw[q]))
  ·rw[if_neg e,if_neg (fun q=>e q.symm)];rcases Int.lt_or_gt_of_ne e with h1|h1
   ·exact .inl (decide_eq_true h1)
   ·exact .inr (decide_eq_true h1)
 | [],_::_,hl,_=>by simp at hl
 | _::_,[],hl,_=>by simp at hl
theorem befF_iff:C3 a b=true<->a.length<b.length\/(a.length=b.length/\GJ a b=true):=by
 unfold C3;split
 ·rename_i h;rw[decide_eq_true_iff];exact⟨.inl,fun q=>by rcases q with q|⟨q,_⟩;exact q;exact absurd q h⟩
 ·rename_i h;have h:a.length=b.length:=Classical.not_not.1 h;exact⟨fun q=>.inr ⟨h,q⟩,fun q=>by rcases q with q|⟨_,q⟩;omega;exact q⟩
theorem Gq(a:List Int):C3 a a=false:=by
 cases h:C3 a a with
 | false=>rfl
 | true=>
  rcases befF_iff.1 h with q|⟨_,q⟩
  ·omega
  ·rw[Ot]at q;cases q
theorem K6{c:List Int}(h1:C3 a b=true)(h2:C3 b c=true):C3 a c=true:=by
 rw[befF_iff]at *;rcases h1 with h1|⟨h1,h3⟩<;>rcases h2 with h2|⟨h2,h4⟩
 ·exact .inl (by omega)
 ·exact .inl (by omega)
 ·exact .inl (by omega)
 ·exact .inr ⟨by omega,K0 h3 h4⟩
theorem Kd(h:a≠b):C3 a b=true\/C3 b a=true:=by
 rw[befF_iff,befF_iff];rcases Nat.lt_trichotomy a.length b.length with h1|h1|h1
 ·exact .inl (.inl h1)
 ·rcases K3 h1 h with h2|h2
  ·exact .inl (.inr ⟨h1,h2⟩)
  ·exact .inr (.inr ⟨h1.symm,h2⟩)
 ·exact .inr (.inl h1)
def SrtB(all:List (List Int)):Prop:=all.Pairwise fun a b=>C3 a b=true
theorem SrtB.mono(H:SrtB all)(s:List Int):∀i j (hi:i<all.length) (hj:j<all.length),i<=j->C3 all[j] s=true->C3 all[i] s=true:=fun i j hi hj hij h=>by
 rcases (by omega:i=j\/i<j) with rfl|h1
 ·exact h
 ·exact K6 (List.pairwise_iff_getElem.1 H i j hi hj h1) h
theorem H3(ll:List (List Int))(s:List Int):Dw ll s<=ll.length:=(List.takeWhile_sublist _).length_le
theorem Mc{α:Type}(p:α->Bool):∀l:List α,(∀j (hj:j<l.length),j<(l.takeWhile p).length->p l[j]=true)/\∀h:(l.takeWhile p).length<l.length,p l[(l.takeWhile p).length]=false
 | []=>⟨fun j hj=>absurd hj (by simp),fun h=>absurd h (by simp)⟩
 | a::l=>by
  obtain⟨h1,h2⟩:=Mc p l;cases ha:p a with
  | false=>
   have e:(a::l).takeWhile p=[]:=by simp[List.takeWhile,ha]
   refine⟨fun j _ h=>?_,fun h=>?_⟩
   ·rw[e]at h;simp at h
   ·have:∀k (hk:k<(a::l).length),k=0->p (a::l)[k]=false:=fun k hk q=>by subst q;exact ha
    exact this _ h (by rw[e];rfl)
  | true=>
   have e:(a::l).takeWhile p=a::l.takeWhile p:=by simp[List.takeWhile,ha]
   refine⟨fun j hj h=>?_,fun h=>?_⟩
   ·cases j with
    | zero=>exact ha
    | succ j=>
     rw[e,length_cons]at h;exact h1 j (by simpa using hj) (by omega)
   ·have:∀k (hk:k<(a::l).length),k=(l.takeWhile p).length+1->p (a::l)[k]=false:=fun k hk q=>by subst q;exact h2 (by simpa using hk)
    exact this _ h (by rw[e];rfl)
theorem HP(ll:List (List Int))(s:List Int){j:Nat}(hj:j<ll.length)(h:j<Dw ll s):C3 ll[j] s=true:=(Mc (fun t=>C3 t s) ll).1 j hj h
theorem I3{ll:List (List Int)}{s:List Int}(hk:Dw ll s<ll.length):C3 ll[Dw ll s] s=false:=(Mc (fun t=>C3 t s) ll).2 hk
theorem LY(H:SrtB all){s:List Int}:(CG all s).2=true<->s∈all:=by
 have hc:=H3 all s;unfold CG;show(match all[Dw all s]? with|some t=>!C3 s t|none=>false)=true<->_;by_cases hk:Dw all s<all.length
 ·rw[List.getElem?_eq_getElem hk];have h1:=I3 hk;show(!C3 s all[Dw all s])=true<->_;constructor
  ·intro h;have h2:C3 s all[Dw all s]=false:=by simpa using h
   have e:all[Dw all s]=s:=Classical.byContradiction fun q=>by
    rcases Kd q with r|r
    ·rw[h1]at r;cases r
    ·rw[h2]at r;cases r
   rw[<-e];exact getElem_mem hk
  ·intro h;obtain⟨j,hj,rfl⟩:=List.mem_iff_getElem.1 h;rcases Nat.lt_trichotomy j (Dw all all[j]) with h3|h3|h3
   ·have:=HP all all[j] hj h3;rw[Gq]at this;cases this
   ·have e:all[Dw all all[j]]=all[j]:=by congr 1;omega
    rw[e,Gq];rfl
   ·have h4:=List.pairwise_iff_getElem.1 H _ j hk hj h3;rw[h1]at h4;cases h4
 ·rw[List.getElem?_eq_none (by omega)];refine⟨fun h=>(nomatch h),fun h=>?_⟩;obtain⟨j,hj,rfl⟩:=List.mem_iff_getElem.1 h;have:=HP all all[j] hj (by omega);rw[Gq]at this;cases this
theorem Oo(H:SrtB all){j:Nat}(hj:j<all.length):(CG all all[j]).1=j:=by
 show Dw all all[j]=j;have hc:=H3 all all[j];rcases Nat.lt_trichotomy j (Dw all all[j]) with h3|h3|h3
 ·have:=HP all all[j] hj h3;rw[Gq]at this;cases this
 ·exact h3.symm
 ·have hk:Dw all all[j]<all.length:=by omega
  have h4:=List.pairwise_iff_getElem.1 H _ j hk hj h3;rw[I3 hk]at h4;cases h4
def HA(all:List (List Int))(s:List Int):List (List Int):=if(CG all s).2 then all else all.take (Dw all s)++s::all.drop (Dw all s)
theorem Oz(H:SrtB all)(s:List Int):SrtB (HA all s)/\∀t,t∈HA all s<->t=s\/t∈all:=by
 unfold HA;by_cases hp:(CG all s).2=true
 ·rw[if_pos hp];have:=(LY H).1 hp;exact⟨H,fun t=>⟨.inr,fun h=>by rcases h with rfl|h;exact this;exact h⟩⟩
 ·rw[if_neg hp];have hn:s ∉ all:=fun h=>hp ((LY H).2 h);refine⟨?_,fun t=>?_⟩
  ·have hlow:∀t∈all.take (Dw all s),C3 t s=true:=fun t ht=>by obtain⟨j,hj,rfl⟩:=List.mem_iff_getElem.1 ht;rw[List.getElem_take];rw[length_take]at hj;exact HP all s (by omega) (by omega)
   have hhigh:∀t∈all.drop (Dw all s),C3 s t=true:=fun t ht=>by
    obtain⟨j,hj,rfl⟩:=List.mem_iff_getElem.1 ht;rw[List.getElem_drop];rw[length_drop]at hj;have hk:Dw all s<all.length:=by omega
    have h1:=I3 hk
    have h2:C3 s all[Dw all s]=true:=by
     rcases Kd (a:=s) (b:=all[Dw all s]) (fun q=>hn (by rw[q];exact getElem_mem hk)) with r|r
     ·exact r
     ·rw[h1]at r;cases r
    rcases Nat.eq_zero_or_pos j with rfl|h3
    ·exact h2
    ·exact K6 h2 (List.pairwise_iff_getElem.1 H _ (Dw all s+j) hk (by omega) (by omega))
   have hsplit:SrtB (all.take (Dw all s)++all.drop (Dw all s)):=by rw[List.take_append_drop];exact H
   obtain⟨p1,p2,p3⟩:=List.pairwise_append.1 hsplit;refine List.pairwise_append.2 ⟨p1,List.pairwise_cons.2 ⟨hhigh,p2⟩,fun a ha b hb=>?_⟩;rcases List.mem_cons.1 hb with rfl|hb
   ·exact hlow a ha
   ·exact p3 a ha b hb
  ·rw[mem_append,mem_cons];constructor
   ·rintro(h|h|h)
    ·exact .inr (mem_of_mem_take h)
    ·exact .inl h
    ·exact .inr (List.mem_of_mem_drop h)
   ·rintro(h|h)
    ·exact .inr (.inl h)
    ·rw[<-List.take_append_drop (Dw all s) all]at h;rcases List.mem_append.1 h with h|h
     ·exact .inl h
     ·exact .inr (.inr h)
theorem VV(all:List (List Int))(s:List Int):(HA all s).length<=all.length+1:=by
 unfold HA;split
 ·omega
 ·rw[length_append,length_cons,length_take,length_drop];have:=H3 all s;omega
def Ea(s:List Int)(b n:Nat):List Int:=((range n).filter fun k=>b.testBit k).map fun k=>s.getD k 0
theorem G6(s:List Int)(b n:Nat):Ea s b (n+1)=Ea s b n++(if b.testBit n then [s.getD n 0] else []):=by
 unfold Ea;rw[range_succ,List.filter_append,map_append];congr 1;by_cases h:b.testBit n=true
 ·rw[if_pos h];simp[h]
 ·rw[if_neg h];simp[h]
def Cx(all:List (List Int))(s:List Int):Nat->List (List Int)
 | 0=>all
 | b+1=>HA (Cx all s b) (Ea s (b+1) s.length)
def Ch:List (List Int)->List (List Int)->Option (List (List Int))
 | all,[]=>some all
 | all,l::ll=>
  let a2:=match DF [] l with
   | some s=>Cx all s (2^s.length-1)
   | none=>all
  if 4000<a2.length then none else Ch a2 ll
theorem Eg(H:SrtB all)(s:List Int):∀b,SrtB (Cx all s b)
 | 0=>H
 | b+1=>(Oz (Eg H s b) _).1
theorem FZ(all:List (List Int))(s:List Int):∀b,(Cx all s b).length<=all.length+b
 | 0=>Nat.le_refl _
 | b+1=>by have h1:=FZ all s b;have h2:=VV (Cx all s b) (Ea s (b+1) s.length);show(HA _ _).length<=_;omega
def Dp(all:List (List Int))(i:Nat):Cl:=
 ⟨(i:Int)+1,((all.getD i []).length:Int)-1,if(all.getD i []).length<=1 then [] else BX ((range (all.getD i []).length).map fun k=>(((CG all ((all.getD i []).eraseIdx k)).1:Int)+1,1-2*((k:Int)%2)))⟩
def DY(ll:List (List Int)):List Cl:=match Ch [] ll with
 | some all=>(range all.length).map (Dp all)
 | none=>[]
end Go.Proofs.Q
namespace Go.Proofs.Q
open Go.Proofs.Tryz
open Go.Eng Go.RowKit
variable {es:List Value}
theorem RdEs.nil(h:Hp):RdEs h [] []:=⟨rfl,fun i h1=>absurd h1 (by simp)⟩
theorem F6(H:∀u∈es,u.oneCell'=true):∀a∈es,∀c∈cW a,c.oneCell'=true:=fun a ha c hc=>by rw[List.mem_singleton.1 hc];exact H a ha
theorem LS{e:Entry}{Q:Exit->Act->World->Prop}{ops:Array Oper}{r:List Oper}{s:Aw}{ms:List Hp}:∀(pre:List Hp) (h:Hp),(∀h',h.le h'->(∀m∈pre,m.le h')->WL e ops Q r s h' ms)->WL e ops Q r s h (pre++ms)
 | [],h,k=>k h (DU) (fun m hm=>by cases hm)
 | m::pre,h,k=>AE fun h1 l1 k1=>LS pre h1 fun h2 l2 k2=>k h2 (AI l1 l2) fun m' hm=>by
  rcases List.mem_cons.1 hm with rfl|hm
  ·exact AI k1 l2
  ·exact k2 m' hm
def R5(all:List (List Int)):Option (List Int)->List (List Int)
 | some s=>Cx all s (2^s.length-1)
 | none=>all
theorem Df(all:List (List Int))(l:List Int)(ll:List (List Int)):Ch all (l::ll)=if 4000<(R5 all (DF [] l)).length then none else Ch (R5 all (DF [] l)) ll:=by show(let a2:=match DF [] l with|some s=>Cx all s (2^s.length-1)|none=>all;if 4000<a2.length then none else Ch a2 ll)=_;cases DF [] l<;>rfl
theorem RO{r:Value}{ms:List Hp}{o:Option (List Int)}(H:Z4 r ms o)(h9:∀s,o=some s->s.length<=9):∃(vs:Value) (s:List Int) (b:Bool),r=.tuple #[vs,.bool b]/\((∀h,(∀m∈ms,m.le h)->RdL cI 1 h [] vs s)/\s.length<=9)/\∀all,R5 all o=if b then Cx all s (2^s.length-1) else all:=by
 cases o with
 | none=>exact⟨_,[],false,H,⟨fun h _=>⟨Rd.nil _ _ _,Bl⟩,by simp⟩,fun all=>rfl⟩
 | some s=>
  obtain⟨v,m,rfl,e,O⟩:=H;exact⟨v,s,true,e,⟨fun h hm=>O.rdh (hm m Mh),h9 s rfl⟩,fun all=>rfl⟩
theorem Ii:∀(l acc:List Int) (s:List Int),acc.length<=9->DF acc l=some s->s.length<=9
 | [],acc,s,h,e=>by have:acc=s:=Option.some.inj e;rw[<-this];exact h
 | x::l,acc,s,h,e=>by
  unfold DF at e;split at e
  ·exact Ii l acc s h e
  ·split at e
   ·cases e
   ·exact Ii l _ s (by omega) e
theorem RdEs.ones{h:Hp}{ll:List (List Int)}(H:RdEs h es ll):∀u∈es,u.oneCell'=true:=fun u hu=>by obtain⟨i,hi,rfl⟩:=List.mem_iff_getElem.1 hu;exact(H.2 i hi (by have:=H.1;omega)).rd.one
theorem RdEs.ins{h:Hp}{ll:List (List Int)}(H:RdEs h es ll){v:Value}{t:List Int}(hv:RdL cI 1 h [] v t)(k:Nat)(hk:k<=ll.length):RdEs h (es.take k++v::es.drop k) (ll.take k++t::ll.drop k):=by
 have hl:=H.1;refine⟨by simp[hl],fun i h1 h2=>?_⟩;rcases Nat.lt_trichotomy i k with h3|h3|h3
 ·rw[List.getElem_append_left (by rw[length_take];omega),List.getElem_append_left (by rw[length_take];omega),List.getElem_take,List.getElem_take];exact H.2 i (by omega) (by omega)
 ·subst h3;rw[getElem_append_right (by rw[length_take];omega),getElem_append_right (by rw[length_take];omega)];have e1:i-(es.take i).length=0:=by rw[length_take];omega
  have e2:i-(ll.take i).length=0:=by rw[length_take];omega
  simp only[e1,e2,List.getElem_cons_zero];exact hv
 ·rw[length_append,length_cons,length_take,length_drop]at h1 h2;rw[getElem_append_right (by rw[length_take];omega),getElem_append_right (by rw[length_take];omega)];have e1:i-(es.take k).length=(i-k-1)+1:=by rw[length_take];omega
  have e2:i-(ll.take k).length=(i-k-1)+1:=by rw[length_take];omega
  simp only[e1,e2,List.getElem_cons_succ,List.getElem_drop];have e3:k+(i-k-1)=i-1:=by omega
  simp only[e3];exact H.2 (i-1) (by omega) (by omega)
theorem Hx{all:List (List Int)}(H:SrtB all)(s:List Int):∀n,∀t,t∈Cx all s n<->t∈all\/∃b,1<=b/\b<=n/\t=Ea s b s.length
 | 0,t=>⟨.inl,fun h=>by rcases h with h|⟨b,h1,h2,_⟩;exact h;omega⟩
 | n+1,t=>by
  show t∈HA (Cx all s n) (Ea s (n+1) s.length)<->_;rw[(Oz (Eg H s n) _).2 t,Hx H s n t];constructor
  ·rintro(h|h|⟨b,h1,h2,h3⟩)
   ·exact .inr ⟨n+1,by omega,by omega,h⟩
   ·exact .inl h
   ·exact .inr ⟨b,h1,by omega,h3⟩
  ·rintro(h|⟨b,h1,h2,h3⟩)
   ·exact .inr (.inl h)
   ·rcases (by omega:b<=n\/b=n+1) with h4|rfl
    ·exact .inr (.inr ⟨b,h1,h4,h3⟩)
    ·exact .inl h3
theorem Nt(s:List Int)(b n:Nat):(Ea s b n).length<=n:=by unfold Ea;rw[length_map];exact Nat.le_trans (List.length_filter_le _ _) (by simp)
theorem EH:∀(ll acc all:List (List Int)),SrtB acc->(∀t∈acc,t.length<=9)->Ch acc ll=some all->∀t∈all,t.length<=9
 | [],acc,all,_,h,e=>by have:acc=all:=Option.some.inj e;rw[<-this];exact h
 | l::ll,acc,all,hS,h,e=>by
  rw[Df]at e;split at e
  ·cases e
  ·refine EH ll _ all ?_ ?_ e
   ·cases DF [] l with
    | none=>exact hS
    | some s=>exact Eg hS s _
   ·cases hs:DF [] l with
    | none=>exact h
    | some s=>
     intro t ht;rcases (Hx hS s _ t).1 ht with h1|⟨b,_,_,rfl⟩
     ·exact h t h1
     ·exact Nat.le_trans (Nt _ _ _) (Ii _ _ s (by simp) hs)
def OE(all:List (List Int))(S:List Int)(k:Nat):List (Int×Int):=(range k).map fun k=>(((CG all (S.eraseIdx k)).1:Int)+1,1-2*((k:Int)%2))
theorem SE(all:List (List Int))(S:List Int)(k:Nat):OE all S (k+1)=OE all S k++[(((CG all (S.eraseIdx k)).1:Int)+1,1-2*((k:Int)%2))]:=by unfold OE;rw[range_succ,map_append];rfl
theorem H9(all:List (List Int))(S:List Int)(k:Nat):(OE all S k).length=k:=by simp[OE]
theorem Ha(ll:List (List Int))(es0:List Value)(v:Value)(h:Hp)(hn:ll.length<=100000)(hn2:∀l∈ll,l.length<=100000)(hV:RdL cW 1 h [] v es0)(hE:RdEs h es0 ll):FnT Tryz.prog 104 #[v] h [] (fun r h' ms'=>h.le h'/\∃m A v',ms'=[m]/\r=.agg #[v']/\OwnL cC 3 52 m v' A/\A.map Ce.c=DY ll/\∀a∈A,RdL cD 2 h' [] a.v a.c.sd):=by
 have o1:=hV.rd.one;have hle:=hE.1;refine Ap func104 ntmps104 rfl rfl (fun w0 hw0=>?_);simp only[AU];refine Au (CN [.slice none 0 0] rfl AV rfl rfl (fun g2=>BL (Qm rfl (Al (Ac (Au (Qm rfl (Al (Af (BG ?_))))))))))
 refine Ax (fun q s hh ms'=>∃(i:Nat) (v3:Value) (m3:Hp) (es:List Value) (all:List (List Int)),q=ll.length-i/\s=[(0,v),(2,.pointer (some ⟨g2,0,none⟩)),(3,v3),(4,.int .i64 i)]/\h.le hh/\ms'=[m3,Bi g2 29 [.slice none 0 0]]/\i<=ll.length/\OwnL cW 1 22 m3 v3 es/\RdEs hh es all/\SrtB all/\all.length<=4000/\Ch [] ll=Ch all (ll.drop i))
  (ll.length-0) _ ⟨0,_,Hp.emp,[],[],rfl,rfl,DU,rfl,by omega,OwnL.nil Dl,RdEs.nil _,List.Pairwise.nil,by simp,rfl⟩ Qs ?_
 rintro q s hh ms' ⟨i,v3,m3,es,all,rfl,rfl,lh,rfl,hi,hO,hEs,hSrt,hal,he⟩;have hV:=hV.up lh;have hE:=hE.up lh;refine Ac (Au (Qm rfl (Qm rfl (Qx (Ar hV.rd.any rfl B7 rfl) rfl (Qm rfl (Al ?_))))));refine Av rfl (fun hlt=>?_) (fun hlt=>?_)
 ·have hil:i<ll.length:=by omega
  have hie:i<es0.length:=by omega
  have hci:∀ms,Cell hh ms ((AF v).add (i*1)) es0[i]:=fun ms=>(hV.any (ms:=ms)).cell0 hie rfl;have oei:=(hE.2 i hie hil).rd.one;have hd:Ch all (ll.drop i)=if 4000<(R5 all (DF [] ll[i])).length then none else Ch (R5 all (DF [] ll[i])) (ll.drop (i+1)):=by rw[List.drop_eq_getElem_cons hil,Df]
  have ov3:=hO.o1;refine Ag (Ab (Ac (Af (Au (Qm rfl (Qm rfl (Qx (BU (i) hV.rd.any rfl B7 Cb rfl rfl) rfl (Ql rfl AR (hci _) (Qc call168 rfl (Zi ll[i] es0[i] hh (hn2 _ (getElem_mem hil)) (hE.2 i hie hil)) (fun rs h2 ms2 l2 hF=>?_))))))))));obtain⟨rfl,hF⟩:=hF;have hsl:∀s,DF [] ll[i]=some s->s.length<=9:=fun s e=>Ii _ _ s (by simp) e;obtain⟨vs,s,b,rfl,hRs,hmt⟩:=RO hF hsl;refine LS ms2 hh fun h3 l3 k3=>?_;obtain⟨hRs,hs9⟩:=hRs;have hRs:=hRs h3 k3;have hEs:=hEs.up l3;have ovs:=hRs.rd.one;refine Qm rfl (Qm rfl (Qm rfl (Qm rfl (Qm rfl (Al ?_)))));obtain⟨P,hP⟩:∃P,2^s.length=P:=⟨_,rfl⟩
  have hP1:1<=P:=by rw[<-hP];exact Nat.one_le_two_pow
  have hP2:P<=512:=by rw[<-hP];exact Nat.pow_le_pow_right (n:=2) (by decide) hs9
  refine Bb (fun sl h' ms'=>∃(v3:Value) (m3:Hp) (es:List Value) (A:List (List Int)),sl=[(0,v),(2,.pointer (some ⟨g2,0,none⟩)),(3,v3),(4,.int .i64 i)]/\h3.le h'/\ms'=[m3,Bi g2 29 [.slice none 0 0]]/\OwnL cW 1 22 m3 v3 es/\RdEs h' es A/\SrtB A/\A.length<=4600/\A=(if b then Cx all s (P-1) else all)) ?_ (fun s h ms hI=>?_)
  ·refine Ac (Ad (Qm rfl (Al (Af ?_))))
   refine Ax (fun q sl h' ms'=>∃(n:Nat) (v3:Value) (m3:Hp) (es:List Value),q=P-1-n/\sl=[(0,v),(2,.pointer (some ⟨g2,0,none⟩)),(3,v3),(4,.int .i64 i),(5,vs),(6,.bool b),(7,.int .i64 ((n:Int)+1))]/\h3.le h'/\ms'=[m3,Bi g2 29 [.slice none 0 0]]/\n<=P-1/\OwnL cW 1 22 m3 v3 es/\RdEs h' es (if b then Cx all s n else all))
    (P-1-0) _ ⟨0,v3,m3,es,rfl,rfl,DU,rfl,by omega,hO,by cases b<;>exact hEs⟩ Qs ?_
   rintro q sl h4 ms' ⟨n,v3,m3,es,rfl,rfl,l4,rfl,hnP,hO,hEs⟩;have hRs:=hRs.up l4;refine Ac (Au (Qm rfl (Qm rfl ?_)));refine Li (t:=35) rfl (fun hb=>?_) (fun hb=>?_)
   ·refine Qg (AA rfl rfl) rfl (Qg (AA rfl rfl) rfl (Qg (Ar hRs.rd.any rfl AR rfl) rfl (Qg (XJ rfl rfl rfl (by omega)) rfl (Qg (CZ rfl rfl rfl) rfl (Qm rfl (Al ?_))))));refine Av rfl (fun hlt3=>?_) (fun hlt3=>?_)
    ·have hnl:n+1<P:=by rw[hP]at hlt3;omega
     subst hb;have hEs:RdEs h4 es (Cx all s n):=hEs;have ov3:=hO.o1;have ovs:=hRs.rd.one;have hfl:=FZ all s n;have hFs:=Eg hSrt s n;refine Ag (Ab ?_);refine Bb (fun sl h' ms'=>∃(v3:Value) (m3:Hp) (es:List Value),sl=[(0,v),(2,.pointer (some ⟨g2,0,none⟩)),(3,v3),(4,.int .i64 i),(5,vs),(6,.bool true),(7,.int .i64 ((n:Int)+1))]/\h4.le h'/\ms'=[m3,Bi g2 29 [.slice none 0 0]]/\OwnL cW 1 22 m3 v3 es/\RdEs h' es (Cx all s (n+1))) ?_ (fun s h ms hI=>?_)
     ·refine Af (Au (Qm rfl (Al (BG ?_))));refine Bb (fun sl h' ms'=>∃(v8:Value) (m8:Hp),sl=[(0,v),(2,.pointer (some ⟨g2,0,none⟩)),(3,v3),(4,.int .i64 i),(5,vs),(6,.bool true),(7,.int .i64 ((n:Int)+1)),(8,v8)]/\h4=h'/\ms'=[m8,m3,Bi g2 29 [.slice none 0 0]]/\OwnL cI 1 3 m8 v8 (Ea s (n+1) s.length)) ?_ (fun s h ms hI=>?_)
      ·refine Ac (Ad (Qm rfl (Al (Af ?_))))
       refine Ax (fun q sl h' ms'=>∃(a:Nat) (v8:Value) (m8:Hp),q=s.length-a/\sl=[(0,v),(2,.pointer (some ⟨g2,0,none⟩)),(3,v3),(4,.int .i64 i),(5,vs),(6,.bool true),(7,.int .i64 ((n:Int)+1)),(8,v8),(9,.int .i64 a)]/\h4=h'/\ms'=[m8,m3,Bi g2 29 [.slice none 0 0]]/\a<=s.length/\OwnL cI 1 3 m8 v8 (Ea s (n+1) a))
        (s.length-0) _ ⟨0,_,Hp.emp,rfl,rfl,rfl,rfl,by omega,OwnL.nil Bl⟩ Qs ?_
       rintro q sl h' ms' ⟨a,v8,m8,rfl,rfl,rfl,rfl,ha,hO8⟩;refine Ac (Au (Qm rfl (Qm rfl (Qx (Ar hRs.rd.any rfl AR rfl) rfl (Qm rfl (Al ?_))))));refine Av rfl (fun hla=>?_) (fun hla=>?_)
       ·have hsa:a<s.length:=by omega
        have hbit:(n+1).testBit a=decide ((n+1)/2^a%2=1):=by rw[Nat.testBit_eq_decide_div_mod_eq]
        have hsub:=G6 s (n+1) a;have hca:∀ms,Cell h4 ms ((AF vs).add (a*1)) (.int .i64 s[a]):=fun ms=>(hRs.any (ms:=ms)).cell0 hsa rfl;have hga:s.getD a 0=s[a]:=by simp[hsa]
        have ov8:=hO8.o1;have hl8:=Nt s (n+1) a;refine Ag (Ab (Ac (Af (Au (Qm rfl (Qm rfl (Qx (L7 rfl (n:=a) (a:=n+1) rfl rfl (by omega)) rfl ?_)))))));refine Qx (VN rfl rfl rfl (by have:=Nat.div_le_self (n+1) (2^a);omega)) rfl ?_;refine Qm rfl (Al ?_);refine Av rfl (fun hod=>?_) (fun hod=>?_)
        ·rw[hbit,decide_eq_true (by omega),if_pos rfl,hga]at hsub;refine Ad (Qm rfl (Qm rfl (Qm rfl (Qx (BU (a) hRs.rd.any rfl AR Be rfl rfl) rfl (Ql rfl U3 (hca _) (An [_] rfl AR Be rfl (by rfl) rfl rfl (by omega) rfl rfl rfl (fun g60=>AQ 1 hO8 (RdL.one Bl (x:=s[a]) Mh rfl) rfl AR Be rfl (by omega) rfl rfl rfl Cm (by(try simp only[length_singleton]);omega) (by(try simp only[length_singleton]);omega) rfl rfl rfl (fun v9 m9 hO9=>?_))))))));rw[<-hsub]at hO9;refine Qm rfl (Aj (Ai (Ab (Ad (Qm rfl (Qx (oA rfl) rfl (Qm rfl (Aj (AL ?_)))))))));exact Ak (s.length-(a+1)) _ (by omega) ⟨a+1,v9,m9,rfl,rfl,rfl,rfl,by omega,hO9⟩ Qs
        ·rw[hbit,decide_eq_false (by omega),if_neg (by decide),append_nil]at hsub;refine Ag (Ai (Ab (Ad (Qm rfl (Qx (oA rfl) rfl (Qm rfl (Aj ?_)))))));exact Ak (s.length-(a+1)) _ (by omega) ⟨a+1,v8,m8,rfl,rfl,rfl,rfl,by omega,by rw[hsub];exact hO8⟩ Qs
       ·obtain rfl:a=s.length:=by omega
        refine As (Aa (Aa (Ae ?_)));exact AC _ ⟨v8,m8,rfl,rfl,rfl,hO8⟩ Qs
      ·obtain⟨v8,m8,rfl,rfl,rfl,hO8⟩:=hI;obtain⟨t,ht⟩:∃t,Ea s (n+1) s.length=t:=⟨_,rfl⟩
       obtain⟨A,hA⟩:∃A,Cx all s n=A:=⟨_,rfl⟩
       have hfs:Cx all s (n+1)=HA A t:=by rw[<-ht,<-hA];rfl
       rw[ht]at hO8;rw[hA]at hfl hFs hEs;refine Bd fun h5 l5 k5=>?_;have hT:=hO8.rdh (ms:=[]) k5;have ov8:=hT.rd.one;have hEs:=hEs.up l5;have hAe:=hEs.1;have hoe:∀u∈es,u.oneCell'=true:=hEs.ones;refine Au (Qm rfl (Qm rfl (Qx (AO rfl call169 rfl (Co fun h' hl hm=>Qj A t es v3 v8 h' (by omega) (hFs.mono t) (hO.rdh (hm _ Mh)) (hEs.up hl) (hT.up hl) [])) rfl (Qm rfl (Qm rfl (Qm rfl (Qm rfl (Qm rfl (Al ?_)))))))));have hcb:=H3 A t;obtain⟨k,hk⟩:∃k,Dw A t=k:=⟨_,rfl⟩
       have hp1:(CG A t).1=k:=hk;rw[hp1];rw[hk]at hcb;refine Au (Qm rfl (Qm rfl (Al ?_)));refine Bu rfl (fun hth=>?_) (fun hth=>?_)
       ·have hth:(CG A t).2=false:=by simpa using hth
        have hins:HA A t=A.take k++t::A.drop k:=by unfold HA;rw[hth,hk];rfl
        have hcl:=hO.rd (h:=h5) (ms:=[m3]) Mh;refine Au (Qm rfl (An [_] rfl B7 Cb rfl ((RdL.rd ‹_›).cells) rfl rfl (by omega) rfl rfl rfl (fun g71=>Qm rfl (Qm rfl (Qx (OC (k) hcl.rd rfl B7 Cb rfl rfl (by omega) (by omega)) rfl (AZ 0 (OwnL.blk (g:=g71) (el:=22) (F:=cW) (l:=[v8]) 1 Dl rfl (by decide)) ((hO.rd (h:=h5) (List.Mem.tail _ Mh)).sub_ (by omega) (Nat.le_refl _)) rfl B7 Cb rfl (by omega) rfl rfl rfl (F6 fun u hu=>hoe u (List.mem_of_mem_drop (mem_of_mem_take hu))) (by(try simp only[length_singleton,length_nil,length_append,length_take,length_drop,nil_append]);omega) (by(try simp only[length_singleton,length_nil,length_append,length_take,length_drop,nil_append]);omega) rfl rfl rfl (fun v6 m6 hO6=>?_)))))));have ov6:=hO6.o1;refine Qm rfl (Gn ?_);refine Aq [] [] [] rfl B7 Cb rfl (by omega) (by kernel_rfl) (by repeat (first|exact trivial|refine⟨⟨by first|rfl|exact(hRs.rd.any).cells|exact(hcl.rd).cells|exact Rd.cells ‹_›|exact(RdL.rd ‹_›).cells,rfl,rfl⟩,?_⟩)) rfl rfl rfl rfl (fun g76=>?_);refine Qm rfl (Qm rfl (Qx (Eo (k) hcl.rd rfl B7 Cb rfl rfl (by omega) (by omega)) rfl (AZ 0 (FN g76 Dl) ((hO.rd (h:=h5) (List.Mem.tail _ (List.Mem.tail _ Mh))).sub_ (Nat.zero_le _) (by omega)) rfl B7 Cb rfl (by omega) rfl rfl rfl (F6 fun u hu=>hoe u (mem_of_mem_take hu)) (by(try simp only[length_singleton,length_nil,length_append,length_take,length_drop,nil_append]);omega) (by(try simp only[length_singleton,length_nil,length_append,length_take,length_drop,nil_append]);omega) rfl rfl rfl (fun v7 m7 hO7=>Qm rfl ?_))))
        have hoe9:∀u∈v8::(es.drop k).take (es.length-k),u.oneCell'=true:=fun u hu=>by
         rcases List.mem_cons.1 hu with rfl|hu
         ·exact ov8
         ·exact hoe u (List.mem_of_mem_drop (mem_of_mem_take hu))
        refine AZ 0 hO7 (hO6.rd (h:=h5) (List.Mem.tail _ Mh)) rfl B7 Cb rfl (by omega) rfl rfl rfl (F6 hoe9) (by(try simp only[length_singleton,length_nil,length_append,length_take,length_drop,nil_append]);omega) (by(try simp only[length_singleton,length_nil,length_append,length_take,length_drop,nil_append]);omega) rfl rfl rfl (fun v9 m9 hO9=>?_)
        have heq:[]++(es.drop 0).take (k-0)++([v8]++(es.drop k).take (es.length-k))=es.take k++v8::es.drop k:=by rw[List.drop_zero,Nat.sub_zero,List.take_of_length_le (l:=es.drop k) (by rw[length_drop];omega)];rfl
        rw[heq]at hO9;have ov9:=hO9.o1;refine Qm rfl (Aj (Ai (A8 1 rfl (A8 1 rfl ?_))));exact AC _ ⟨v9,m9,_,rfl,l5,rfl,hO9,by rw[hfs,hins];exact hEs.ins hT k (by omega)⟩ Qs
       ·have hth:(CG A t).2=true:=by simpa using hth
        have hins:HA A t=A:=by unfold HA;rw[hth];rfl
        refine Ag (Ai ?_);exact AC _ ⟨v3,m3,es,rfl,l5,rfl,hO,by rw[hfs,hins];exact hEs⟩ Qs
     ·obtain⟨v3,m3,es,rfl,l5,rfl,hO,hEs⟩:=hI;refine Ad (Qm rfl (Qx (oA rfl) rfl (Qm rfl (Aj ?_))));exact Ak (P-1-(n+1)) _ (by omega) ⟨n+1,v3,m3,es,rfl,rfl,AI l4 l5,rfl,by omega,hO,hEs⟩ Qs
    ·have hnl:n=P-1:=by rw[hP]at hlt3;omega
     subst hb;have hEs:RdEs h4 es (Cx all s n):=hEs;rw[hnl]at hEs;have hfl:=FZ all s (P-1);refine As (Aa (Aa (Ae ?_)));exact AC _ ⟨v3,m3,es,_,rfl,l4,rfl,hO,hEs,Eg hSrt s _,by omega,rfl⟩ Qs
   ·subst hb;have hEs:RdEs h4 es all:=hEs;refine Qk rfl (Qk rfl (Qk rfl (Qk rfl (Qk rfl (Qm rfl (Al (AM rfl (As (Aa (Aa (Ae ?_)))))))))));exact AC _ ⟨v3,m3,es,all,rfl,l4,rfl,hO,hEs,hSrt,by omega,rfl⟩ Qs
  ·obtain⟨v3,m3,es,A,rfl,l4,rfl,hO,hEs,hSrtA,hAl,hA⟩:=hI;have hAe:=hEs.1;have hmtA:=hmt all;rw[hP,<-hA]at hmtA;rw[hmtA]at hd;have ov3:=hO.o1;refine Au (Qm rfl (Qx (DO (hO.rd (h:=h) (ms:=[m3]) Mh).rd rfl B7 rfl) rfl (Qm rfl (Al ?_))));refine Av rfl (fun hbig=>?_) (fun hbig=>?_)
   ·rw[if_pos (by omega)]at hd;refine BG (Au ?_);refine Qx (Bf YE [.slice none 0 0] [] [_] rfl AV rfl rfl (by repeat (first|exact trivial|refine⟨⟨rfl,rfl,rfl⟩,?_⟩|refine⟨⟨((hO.rd (h:=h) (ms:=[m3]) Mh).rd).cells,rfl,rfl⟩,?_⟩)) rfl) rfl ?_;refine Sa 2 [_] AV rfl (by simp[Value.oneCell']) ?_;refine Al (Ao (Am (Ah (Ah (Am (Ah (A8 1 rfl ?_)))))));exact Bs (vs:=[_]) 1 rfl rfl CM rfl AV rfl rfl (⟨AI lh (AI l2 (AI l3 l4)),Hp.emp,[],_,rfl,rfl,OwnL.nil Cc,by unfold DY;rw[he,hd];rfl,fun a ha=>nomatch ha⟩)
   ·rw[if_neg (by omega)]at hd;refine Ag (Ai (Ab (Ad (Qm rfl (Qx (oA rfl) rfl (Qm rfl (Aj ?_)))))));exact Ak (ll.length-(i+1)) _ (by omega) ⟨i+1,v3,m3,es,A,rfl,rfl,AI lh (AI l2 (AI l3 l4)),rfl,by omega,hO,hEs,hSrtA,by omega,by rw[he,hd]⟩ Qs
 ·obtain rfl:i=ll.length:=by omega
  have he:Ch [] ll=some all:=by rw[he,List.drop_length];rfl
  have h9:=EH ll [] all List.Pairwise.nil (fun t ht=>nomatch ht) he;have hsF:DY ll=(range all.length).map (Dp all):=by unfold DY;rw[he]
  have hAe:=hEs.1;refine Bd fun h2 l2 k2=>?_;have hR3:=hO.rdh (ms:=[]) k2;have hEs:=hEs.up l2;have ov3:v3.oneCell'=true:=hR3.rd.one;refine As (Aa (Aa (Ae (Ab (Au (CN [.slice none 0 0] rfl AV rfl rfl (fun g13=>Al (BG (Ac (Au (Qm rfl (Al (Af ?_)))))))))))))
  refine Ax (fun q sl h' ms'=>∃(j:Nat) (vA:Value) (mA:Hp) (A:List Ce),q=all.length-j/\sl=[(0,v),(2,.pointer (some ⟨g2,0,none⟩)),(3,v3),(13,.pointer (some ⟨g13,0,none⟩)),(14,.int .i64 j)]/\h2.le h'/\ms'=[mA,Bi g13 29 [vA],Bi g2 29 [.slice none 0 0]]/\j<=all.length/\OwnL cC 3 52 mA vA A/\A.map Ce.c=(range j).map (Dp all)/\∀a∈A,RdL cD 2 h' [] a.v a.c.sd)
   (all.length-0) _ ⟨0,_,Hp.emp,[],rfl,rfl,DU,rfl,by omega,OwnL.nil Cc,rfl,fun a ha=>nomatch ha⟩ Qs ?_
  rintro q sl h4 ms' ⟨j,vA,mA,A,rfl,rfl,l4,rfl,hj,hOA,hA,hSd⟩;have hR3:=hR3.up l4;have hEs:=hEs.up l4;refine Ac (Au (Qm rfl (Qm rfl (Qx (Ar hR3.rd.any rfl B7 rfl) rfl (Qm rfl (Al ?_))))));refine Av rfl (fun hjl=>?_) (fun hjl=>?_)
  ·have hjl:j<all.length:=by omega
   have hje:j<es.length:=by omega
   obtain⟨S,hS⟩:∃S,all[j]=S:=⟨_,rfl⟩
   have hS9:S.length<=9:=by rw[<-hS];exact h9 _ (getElem_mem hjl)
   have hRS:RdL cI 1 h4 [] es[j] S:=by rw[<-hS];exact hEs.2 j hje hjl
   have hcj:∀ms,Cell h4 ms ((AF v3).add (j*1)) es[j]:=fun ms=>(hR3.any (ms:=ms)).cell0 hje rfl;have ovS:=hRS.rd.one;have ovA:=hOA.o1;have hgd:all.getD j []=S:=by simp[hjl,hS]
   refine Ag (Ab (Ac (Af (Au (Qm rfl (Qx (oA rfl) rfl (Qm rfl (Qm rfl (Qx (BU (j) hR3.rd.any rfl B7 Cb rfl rfl) rfl (Ql rfl AR (hcj _) (Qx (Ar hRS.rd.any rfl AR rfl) rfl (Qx (oS rfl) rfl ?_))))))))))));refine Qx (Bf X7 [.int .i64 0,.int .i64 0,.slice none 0 0] [(0,_),(1,_)] [_,_,_] rfl AH rfl rfl (by repeat (first|exact trivial|refine⟨⟨rfl,rfl,rfl⟩,?_⟩|refine⟨⟨((hO.rd (h:=h) (ms:=[m3]) Mh).rd).cells,rfl,rfl⟩,?_⟩)) rfl) rfl ?_;refine CN [.int .i64 0,.int .i64 0,.slice none 0 0] rfl AH rfl rfl (fun g15=>?_);refine Sa 0 [_,_,_] AH rfl (by simp[Value.oneCell']) ?_;refine Al (BG ?_);obtain⟨D,hD⟩:∃D:Int,(S.length:Int)-1=D:=⟨_,rfl⟩
   rw[hD];refine Bb (fun sl h' ms'=>∃(vS:Value) (mS:Hp),sl=[(0,v),(2,.pointer (some ⟨g2,0,none⟩)),(3,v3),(13,.pointer (some ⟨g13,0,none⟩)),(14,.int .i64 j),(15,.pointer (some ⟨g15,0,none⟩))]/\h4=h'/\ms'=[mS,Bi g15 52 [.int .i64 ((j:Int)+1),.int .i64 D,vS],mA,Bi g13 29 [vA],Bi g2 29 [.slice none 0 0]]/\OwnL cD 2 119 mS vS (if S.length<=1 then [] else OE all S S.length)) ?_ (fun s h ms hI=>?_)
   ·refine Ac (Ad (Qm rfl (Al (Af ?_))))
    refine Ax (fun q sl h' ms'=>∃(k:Nat) (vS:Value) (mS:Hp),q=S.length-k/\sl=[(0,v),(2,.pointer (some ⟨g2,0,none⟩)),(3,v3),(13,.pointer (some ⟨g13,0,none⟩)),(14,.int .i64 j),(15,.pointer (some ⟨g15,0,none⟩)),(16,.int .i64 k)]/\h4=h'/\ms'=[mS,Bi g15 52 [.int .i64 ((j:Int)+1),.int .i64 D,vS],mA,Bi g13 29 [vA],Bi g2 29 [.slice none 0 0]]/\k<=S.length/\(S.length<=1->k=0)/\OwnL cD 2 119 mS vS (OE all S k))
     (S.length-0) _ ⟨0,_,Hp.emp,rfl,rfl,rfl,rfl,by omega,fun _=>rfl,OwnL.nil D6⟩ Qs ?_
    rintro q sl h' ms' ⟨k,vS,mS,rfl,rfl,rfl,rfl,hk,hk0,hOS⟩;refine Ac (Au (Qm rfl (Qm rfl (Qm rfl (Qx (BU (j) hR3.rd.any rfl B7 Cb rfl rfl) rfl (Ql rfl AR (hcj _) (Qx (Ar hRS.rd.any rfl AR rfl) rfl (Qm rfl (Qm rfl ?_)))))))));refine AS (t:=109) rfl (fun hk1=>?_) (fun hk1=>?_)
    ·have hkS:k<S.length:=by omega
     refine Qg (oF Cw rfl) rfl (Qg (oL rfl U3 (Cell.blk 1 rfl rfl)) rfl (Qg (CK rfl rfl rfl) rfl (Qm rfl (Al ?_))));refine Av rfl (fun hdp=>?_) (fun hdp=>?_)
     ·have hD1:1<=D:=by omega
      have ovS2:=hOS.o1;refine Ag (Ab (Ac (Af (Ac (BE (n:=17) (bs:=[false,true,true,true,true,true,true,false,true,true,true,true,true,true,true,false,false]) [false,true,true,true,true,true,true,false,true,true,true,true,true,true,true] CY (by kernel_rfl) (by kernel_rfl) rfl rfl (Qq rfl (Qq rfl (Qp rfl (BU (j) hR3.rd.any rfl B7 Cb rfl rfl) (QL rfl AR (hcj _) (Qq rfl (Qp rfl (E7 (k) hRS.rd.any rfl AR Be rfl rfl (by omega) (by omega)) (Qq rfl (Qq rfl (Qp rfl (BU (j) hR3.rd.any rfl B7 Cb rfl rfl) (QL rfl AR (hcj _) (Qq rfl (Qp rfl (oA rfl) (Qp rfl (CA (k+1) hRS.rd.any rfl AR Be rfl rfl (by omega) (by omega)) ?_))))))))))))))))));unfold Fy;simp only[cons_append,nil_append];refine Qo 0 rfl ?_;refine Aq [] [] [] rfl AR Be rfl (by omega) (by kernel_rfl) (by repeat (first|exact trivial|refine⟨⟨by first|rfl|exact(hR3.rd.any).cells|exact(hRS.rd.any).cells|exact((hO.rd (h:=h) (ms:=[m3]) Mh).rd).cells|exact Rd.cells ‹_›|exact(RdL.rd ‹_›).cells,rfl,rfl⟩,?_⟩)) rfl rfl rfl rfl (fun g116=>?_);refine Qw (Qo 7 rfl (AQ 0 (FN g116 Bl) (hRS.any.sub_ (Nat.zero_le _) hk) rfl AR Be rfl (by omega) rfl rfl rfl Cm (by(try simp only[length_singleton,length_nil,length_append,length_take,length_drop,nil_append]);omega) (by(try simp only[length_singleton,length_nil,length_append,length_take,length_drop,nil_append]);omega) rfl rfl rfl (fun v6 m6 hO6=>Qw (Qo 15 rfl (AQ 0 hO6 (hRS.any.sub_ hkS (Nat.le_refl _)) rfl AR Be rfl (by omega) rfl rfl rfl Cm (by(try simp only[length_singleton,length_nil,length_append,length_take,length_drop,nil_append]);omega) (by(try simp only[length_singleton,length_nil,length_append,length_take,length_drop,nil_append]);omega) rfl rfl rfl (fun v7 m7 hO7=>Qw (Qo 16 rfl (Qm rfl (Qw (Qe ?_))))))))))
      have heq:[]++(S.drop 0).take (k-0)++(S.drop (k+1)).take (S.length-(k+1))=S.eraseIdx k:=by rw[List.drop_zero,Nat.sub_zero,List.take_of_length_le (l:=S.drop (k+1)) (by rw[length_drop];exact Nat.le_refl _),List.eraseIdx_eq_take_drop_succ];rfl
      rw[heq]at hO7;refine Ab ?_;have ov7:=hO7.o1;refine Au (Qm rfl (Qm rfl (Qx (AO rfl call169 rfl (Co fun h' hl hm=>Qj all (S.eraseIdx k) es v3 v7 h' (by omega) (hSrt.mono _) (hR3.up hl) (hEs.up hl) (hO7.rdh (hm _ Mh)) [])) rfl (Qm rfl (Qm rfl (Qm rfl (Qm rfl (Qm rfl (Al (QJ ?_))))))))));obtain⟨n,hn⟩:∃n,(CG all (S.eraseIdx k)).1=n:=⟨_,rfl⟩
      have hnl:n<=all.length:=by rw[<-hn];exact H3 _ _
      have hrs:=SE all S k;rw[hn]at hrs ⊢;have hrl:=H9 all S k;refine Ad (Qf B5 rfl (Ql rfl Cu (Cell.blk 1 rfl rfl) (Qm rfl (Qx (oA rfl) rfl (Qm rfl (Qx (BM rfl rfl rfl (by omega) (by omega)) rfl (Qx (oM rfl) rfl (Qx (oS rfl) rfl ?_))))))));refine Qx (Bf Vr [.int .i64 0,.int .i64 0] [(0,_),(1,_)] [_,_] rfl AJ rfl rfl (by repeat (first|exact trivial|refine⟨⟨rfl,rfl,rfl⟩,?_⟩|refine⟨⟨((hO.rd (h:=h) (ms:=[m3]) Mh).rd).cells,rfl,rfl⟩,?_⟩)) rfl) rfl ?_;refine An [_,_] rfl Cu AJ rfl (by rfl) rfl rfl (by omega) rfl rfl rfl (fun g147=>?_);refine AQ 1 hOS (RdL.one D6 (x:=((n:Int)+1,1-2*((k:Int)%2))) Mh rfl) rfl Cu AJ rfl (by omega) rfl rfl rfl F7 (by rw[H9];(try simp only[length_singleton]);omega) (by rw[H9];(try simp only[length_singleton]);omega) rfl rfl rfl (fun v9 m9 hO9=>?_);rw[<-hrs]at hO9;have ov9:=hO9.o1;refine Qf B5 rfl ?_;refine AK 2 _ rfl SU rfl rfl (by assumption) rfl rfl (by(simp;done)) rfl rfl ?_;refine Aj (Ai (Ab (Ad (Qm rfl (Qx (oA rfl) rfl (Qm rfl (Aj (A8 0 rfl ?_))))))));exact Ak (S.length-(k+1)) _ (by omega) ⟨k+1,v9,m9,rfl,rfl,rfl,rfl,by omega,fun q=>by omega,hO9⟩ Qs
     ·have hS1:S.length<=1:=by omega
      refine As (Aa (Aa (Ae ?_)));exact AC _ ⟨vS,mS,rfl,rfl,rfl,by rw[if_pos hS1];have:=hk0 hS1;subst this;exact hOS⟩ Qs
    ·have hkS:k=S.length:=by omega
     subst hkS;refine Qk rfl (Qk rfl (Qk rfl (Qm rfl (Al (AM rfl (As (Aa (Aa (Ae ?_)))))))))
     exact AC _ ⟨vS,mS,rfl,rfl,rfl,by
      split
      ·rename_i h1;have:=hk0 h1;rw[this]at hOS;exact hOS
      ·exact hOS⟩ Qs
   ·obtain⟨vS,mS,rfl,rfl,rfl,hOS⟩:=hI;obtain⟨rw,hrw⟩:∃rw,(if S.length<=1 then [] else OE all S S.length)=rw:=⟨_,rfl⟩
    have hrl:rw.length<=9:=by
     rw[<-hrw];split
     ·simp
     ·rw[H9];exact hS9
    rw[hrw]at hOS
    have hcell:Dp all j=⟨(j:Int)+1,D,BX rw⟩:=by unfold Dp;rw[hgd,hD,<-hrw];split<;>rfl
    refine Bd fun h5 l5 k5=>?_;have hRw:=hOS.rdh (ms:=[]) k5;have ovS2:=hRw.rd.one;refine Au (Qf B5 rfl (Ql rfl Cu (Cell.blk 0 rfl rfl) (Qc call170 rfl (Ns rw vS h5 (by omega) hRw) (fun rs h6 ms2 l6 hF=>?_))));obtain⟨rfl,m9,rfl,hO9⟩:=hF;refine AE fun h6 l6 k6=>?_;have hR9:=hO9.rdh (ms:=[]) k6;have ov9:=hR9.rd.one;have hAl:A.length=j:=by have:=congrArg List.length hA;simpa using this
    let ce:Ce:=⟨⟨(j:Int)+1,D,BX rw⟩,rs⟩
    refine Qf B5 rfl ?_;refine AK 0 _ rfl SU rfl rfl (by assumption) rfl rfl (by(simp;done)) rfl rfl ?_;refine Gn (Qf BW rfl (Ql rfl Bk (Cell.blk 2 rfl rfl) (Qx (oG rfl EL AH (Seg.blk 0 rfl)) rfl (An [_,_,_] rfl Bk AH rfl (by rfl) rfl rfl (by omega) rfl rfl rfl (fun g157=>?_)))));refine AZ 2 hOA (RdL.one Cc (x:=ce) Mh rfl) rfl Bk AH rfl (by omega) rfl rfl rfl (C0 (l:=[ce]) (h:=h6) fun y hy=>by rw[List.mem_singleton.1 hy];exact hR9) (by(try simp only[length_singleton]);omega) (by(try simp only[length_singleton]);omega) rfl rfl rfl (fun vA2 mA2 hOA2=>?_);have ovA2:=hOA2.o1;refine Qf BW rfl ?_;refine AK 3 _ rfl Jt rfl rfl (by assumption) rfl rfl (by(simp;done)) rfl rfl ?_;refine Aj (Ai (Ab (Ad (Qm rfl (Qx (oA rfl) rfl (Qm rfl (Aj (A8 0 rfl (A8 0 rfl ?_)))))))))
    exact Ak (all.length-(j+1)) _ (by omega) ⟨j+1,vA2,mA2,A++[ce],rfl,rfl,AI l4 (AI l5 l6),rfl,by omega,hOA2,by rw[map_append,hA,range_succ,map_append];congr 1;simp[ce,hcell],fun a ha=>by
     rcases List.mem_append.1 ha with h|h
     ·exact(hSd a h).up (AI l5 l6)
     ·rw[List.mem_singleton.1 h];exact hR9⟩ Qs
  ·obtain rfl:j=all.length:=by omega
   have ovA:=hOA.o1;refine As (Aa (Aa (Ae (Ab (Au (Qx (oG rfl CM AV (Seg.blk 1 rfl)) rfl ?_))))));refine Sa 2 [_] AV rfl (by simp[o1,ov3,ovA]) ?_;refine Al (Ao (A8 1 rfl ?_));exact Bs (vs:=[_]) 1 rfl rfl CM rfl AV rfl rfl (⟨AI lh (AI l2 l4),mA,A,_,rfl,rfl,hOA,by rw[hA,hsF],hSd⟩)
end Go.Proofs.Q

namespace Go.Proofs.Q
open Go.Eng Go.RowKit
theorem RdEs.snoc{h:Hp}{es:List Value}{ll:List (List Int)}(H:RdEs h es ll){v:Value}{t:List Int}(hv:RdL cI 1 h [] v t):RdEs h (es++[v]) (ll++[t]):=by have:=H.ins hv ll.length (Nat.le_refl _);rw[List.take_of_length_le (by rw[H.1];exact Nat.le_refl _),take_length,List.drop_of_length_le (by rw[H.1];exact Nat.le_refl _),List.drop_length]at this;exact this
structure RgtF(o:List Cl):Prop where
 n:o.length<=4000
 inc:o.Pairwise fun a b=>a.id<b.id
 pos:∀x∈o,1<=x.id
 can:∀x∈o,∃y:Cl,x=y.can
 fst:∀x∈o,Hq o x=0
 snd:∀x∈o,2<=x.dim->Jv o x=0
theorem RgtF.bds{o:List Cl}(R:RgtF o){x:Cl}(hx:x∈o):(0<=x.dim/\x.dim<=8)/\x.sd.length<=64/\∀r∈x.sd,r.2=1\/r.2=-1:=by obtain⟨h1,h2,_,h4⟩:=Jj (R.fst x hx);refine⟨h1,h2,fun r hr=>?_⟩;obtain⟨i,hi,rfl⟩:=List.mem_iff_getElem.1 hr;have:=h4 i hi;unfold B9 at this;rw[Bp hi]at this;omega
variable {a b c:Int} {x:Cl} {l:List Int} {m n:Nat}
abbrev FA:=List (Int×Int×Int)
def DH(T:FA)(c:Int):Int:=(T.map fun e=>if e.2.1=c then e.2.2 else 0).sum
def ER(T:FA)(c:Int):Int:=(T.map fun e=>if e.2.1=c then(1:Int) else 0).sum
inductive Con (T:FA):Int->Int->Prop
 | refl (a:Int):Con T a a
 | step {a b d c w w':Int}:Con T a b->(b,c,w)∈T->(d,c,w')∈T->Con T a d
theorem Con.trans{T:FA}(h:Con T a b)(h':Con T b c):Con T a c:=by
 induction h' with
 | refl=>exact h
 | step _ h1 h2 ih=>exact .step ih h1 h2
theorem Con.symm{T:FA}(h:Con T a b):Con T b a:=by
 induction h with
 | refl=>exact .refl _
 | step _ h1 h2 ih=>exact(Con.step (.refl _) h2 h1).trans ih
theorem Con.mono{T T':FA}(hs:∀e∈T,e∈T')(h:Con T a b):Con T' a b:=by
 induction h with
 | refl=>exact .refl _
 | step _ h1 h2 ih=>exact .step ih (hs _ h1) (hs _ h2)
theorem Con.in{T:FA}(h:Con T a b):a=b\/((∃c w,(a,c,w)∈T)/\∃c w,(b,c,w)∈T):=by
 induction h with
 | refl=>exact .inl rfl
 | step _ h1 h2 ih=>
  rcases ih with rfl|ih
  ·exact .inr ⟨⟨_,_,h1⟩,_,_,h2⟩
  ·exact .inr ⟨ih.1,_,_,h2⟩
theorem Con.snoc{T:FA}{i f w:Int}(hf:f=i/\(∀g w',(g,c,w') ∉ T)\/∃w',(f,c,w')∈T):Con (T++[(i,c,w)]) a b<->Con T a b\/(Con T a i/\Con T f b)\/(Con T a f/\Con T i b):=by
 have hsub:∀e∈T,e∈T++[(i,c,w)]:=fun e he=>mem_append_left _ he;have hi:(i,c,w)∈T++[(i,c,w)]:=mem_append_right _ Mh
 have hfi:Con (T++[(i,c,w)]) i f:=by
  rcases hf with ⟨rfl,_⟩|⟨w',h⟩
  ·exact .refl _
  ·exact .step (.refl _) hi (hsub _ h)
 constructor
 ·intro h
  induction h with
  | refl=>exact .inl (.refl _)
  | @step b d c' w1 w2 _ h1 h2 ih=>
   -- the last step
   have key:∀{b d},(b,c',w1)∈T++[(i,c,w)]->(d,c',w2)∈T++[(i,c,w)]->Con T b d\/(Con T b i/\Con T f d)\/(Con T b f/\Con T i d):=fun {b d} h1 h2=>by
    rcases List.mem_append.1 h1 with g1|g1<;>rcases List.mem_append.1 h2 with g2|g2
    ·exact .inl (.step (.refl _) g1 g2)
    ·obtain⟨e1,e2,e3⟩:d=i/\c'=c/\w2=w:=by simpa using g2
     rcases hf with ⟨_,hn⟩|⟨w',h⟩
     ·exact absurd (e2 ▸ g1) (hn _ _)
     ·rw[e1];exact .inr (.inr ⟨.step (.refl _) (e2 ▸ g1) h,.refl _⟩)
    ·obtain⟨e1,e2,e3⟩:b=i/\c'=c/\w1=w:=by simpa using g1
     rcases hf with ⟨_,hn⟩|⟨w',h⟩
     ·exact absurd (e2 ▸ g2) (hn _ _)
     ·rw[e1];exact .inr (.inl ⟨.refl _,.step (.refl _) h (e2 ▸ g2)⟩)
    ·obtain⟨e1,_⟩:b=i/\c'=c/\w1=w:=by simpa using g1
     obtain⟨e2,_⟩:d=i/\c'=c/\w2=w:=by simpa using g2
     rw[e1,e2];exact .inl (.refl _)
   have k:=key h1 h2;rcases ih with ih|⟨i1,i2⟩|⟨i1,i2⟩
   ·rcases k with k|⟨k1,k2⟩|⟨k1,k2⟩
    ·exact .inl (ih.trans k)
    ·exact .inr (.inl ⟨ih.trans k1,k2⟩)
    ·exact .inr (.inr ⟨ih.trans k1,k2⟩)
   ·rcases k with k|⟨k1,k2⟩|⟨k1,k2⟩
    ·exact .inr (.inl ⟨i1,i2.trans k⟩)
    ·exact .inr (.inl ⟨i1,k2⟩)
    ·exact .inl (i1.trans k2)
   ·rcases k with k|⟨k1,k2⟩|⟨k1,k2⟩
    ·exact .inr (.inr ⟨i1,i2.trans k⟩)
    ·exact .inl (i1.trans k2)
    ·exact .inr (.inr ⟨i1,k2⟩)
 ·rintro(h|⟨h1,h2⟩|⟨h1,h2⟩)
  ·exact h.mono hsub
  ·exact(h1.mono hsub).trans (hfi.trans (h2.mono hsub))
  ·exact(h1.mono hsub).trans (hfi.symm.trans (h2.mono hsub))
theorem Lo(T:FA)(e:Int×Int×Int)(c:Int):DH (T++[e]) c=DH T c+if e.2.1=c then e.2.2 else 0:=by simp[DH]
theorem RB(T:FA)(e:Int×Int×Int)(c:Int):ER (T++[e]) c=ER T c+if e.2.1=c then 1 else 0:=by simp[ER]
theorem LJ{T:FA}(h:∀e∈T,e.2.1≠c):DH T c=0/\ER T c=0:=by
 induction T with
 | nil=>exact⟨rfl,rfl⟩
 | cons e T ih=>
  obtain⟨h1,h2⟩:=ih fun e he=>h e (mem_cons_of_mem _ he);have h3:=h e Mh;unfold DH at *;unfold ER at *;simp only[map_cons,sum_cons,if_neg h3,h1,h2];exact⟨rfl,rfl⟩
theorem JT{x:Int}:Hc (a::l) x=if a=x then 0 else Hc l x+1:=by
 unfold Hc;rw[List.takeWhile_cons];by_cases e:a=x
 ·simp[e]
 ·simp[e]
theorem SQ{x:Int}{k:Nat}(hk:Hc l x=k)(h:k<l.length):l[k]=x:=by
 induction l generalizing k with
 | nil=>simp at h
 | cons a l ih=>
  rw[JT]at hk;split at hk
  ·subst hk;assumption
  ·subst hk;rw[List.getElem_cons_succ];exact ih rfl (by simpa using h)
theorem SI{x:Int}(h:Hc l x=l.length):x ∉ l:=by
 induction l with
 | nil=>simp
 | cons a l ih=>
  rw[JT]at h;split at h
  ·simp at h
  ·rename_i e;rw[mem_cons];rintro(rfl|h1)
   ·exact e rfl
   ·exact ih (by simpa using h) h1
theorem G3{α:Type}{l:List α}(h:l.Nodup){i j:Nat}(hi:i<l.length)(hj:j<l.length)(e:l[i]=l[j]):i=j:=by
 have h1:=List.pairwise_iff_getElem.1 h;rcases Nat.lt_trichotomy i j with h2|h2|h2
 ·exact absurd e (h1 i j hi hj h2)
 ·exact h2
 ·exact absurd e.symm (h1 j i hj hi h2)
structure S2.Inv(S:S2)(x:Cl)(T:FA)(m n:Nat):Prop where
 nd:S.ids.Nodup
 mem:∀c,c∈S.ids<->∃a w,(a,c,w)∈T
 ls:S.su.length=S.ids.length
 lm:S.ma.length=S.ids.length
 lf:S.fi.length=S.ids.length
 lp:S.pa.length=n
 su:∀k (hk:k<S.ids.length),S.su.getD k 0=DH T S.ids[k]
 ma:∀k (hk:k<S.ids.length),S.ma.getD k 0=ER T S.ids[k]
 fi:∀k (hk:k<S.ids.length),∃j:Nat,j<m/\S.fi.getD k 0=(j:Int)/\∃w,((Bx x j).1,S.ids[k],w)∈T
 pl:∀j,j<m->0<=S.pa.getD j 0/\S.pa.getD j 0<m
 pc:∀j j',j<m->j'<m->(S.pa.getD j 0=S.pa.getD j' 0<->Con T (Bx x j).1 (Bx x j').1)
 fr:∀e∈T,∃j:Nat,j<m/\e.1=(Bx x j).1
theorem Hy(l:List Int)(k j:Nat)(y:Int)(hk:k<l.length):(l.set k y).getD j 0=if j=k then y else l.getD j 0:=by
 simp only[List.getD_eq_getElem?_getD,List.getElem?_set];by_cases e:k=j
 ·subst e;simp[hk]
 ·simp[e,Ne.symm e]
theorem GS(l:List Int)(j:Nat)(y:Int):(l++[y]).getD j 0=if j=l.length then y else l.getD j 0:=by
 simp only[List.getD_eq_getElem?_getD];rcases Nat.lt_trichotomy j l.length with h|h|h
 ·rw[List.getElem?_append_left h,if_neg (by omega)]
 ·subst h;simp
 ·rw[if_neg (by omega),List.getElem?_eq_none (by simp;omega),List.getElem?_eq_none (by omega)]
theorem Sj(pa:List Int)(m:Nat)(now old:Int)(j:Nat)(hm:m<=pa.length)(hj:j<m):(IM pa m now old).getD j 0=if pa.getD j 0=now then old else pa.getD j 0:=by
 have h1:j<pa.length:=by omega
 have h2:j<(IM pa m now old).length:=by rw[KZ];exact h1
 simp only[List.getD_eq_getElem?_getD,List.getElem?_eq_getElem h1,List.getElem?_eq_getElem h2,Option.getD_some];rw[VX h1];simp[hj]
theorem S2.Inv.start{S:S2}{T:FA}(I:S.Inv x T m n)(hm:m<n)(hd:∀j,j<m->(Bx x j).1≠(Bx x m).1):(S.start m).Inv x T (m+1) n:=by
 have hp:=I.lp;have hg:∀j,(S.pa.set m (m:Int)).getD j 0=if j=m then(m:Int) else S.pa.getD j 0:=fun j=>Hy _ _ _ _ (by omega)
 have hnew:∀j,j<m->¬Con T (Bx x j).1 (Bx x m).1:=fun j hj h=>by
  rcases h.in with h|⟨_,c,w,h⟩
  ·exact hd j hj h
  ·obtain⟨j',hj',e⟩:=I.fr _ h;exact hd j' hj' e.symm
 refine⟨I.nd,I.mem,I.ls,I.lm,I.lf,by show(List.set _ _ _).length=n;rw[length_set];exact hp,I.su,I.ma,fun k hk=>?_,fun j hj=>?_,fun j j' hj hj'=>?_,fun e he=>?_⟩
 ·obtain⟨j,h1,h2⟩:=I.fi k hk;exact⟨j,by omega,h2⟩
 ·show 0<=(S.pa.set m (m:Int)).getD j 0/\(S.pa.set m (m:Int)).getD j 0<((m+1:Nat):Int);rw[hg];split
  ·omega
  ·have:=I.pl j (by omega);omega
 ·show(S.pa.set m (m:Int)).getD j 0=(S.pa.set m (m:Int)).getD j' 0<->_;rw[hg,hg];by_cases e:j=m<;>by_cases e':j'=m
  ·subst e;subst e';exact⟨fun _=>.refl _,fun _=>rfl⟩
  ·subst e;rw[if_pos rfl,if_neg e'];have:=I.pl j' (by omega);exact⟨fun h=>by omega,fun h=>absurd h.symm (hnew j' (by omega))⟩
  ·subst e';rw[if_neg e,if_pos rfl];have:=I.pl j (by omega);exact⟨fun h=>by omega,fun h=>absurd h (hnew j (by omega))⟩
  ·rw[if_neg e,if_neg e'];exact I.pc j j' (by omega) (by omega)
 ·obtain⟨j,h1,h2⟩:=I.fr e he;exact⟨j,by omega,h2⟩
theorem S2.Inv.side{S:S2}{T:FA}(I:S.Inv x T (m+1) n)(hm:m<n)(w:Int)(r:Int×Int):(S.side m w r).Inv x (T++[((Bx x m).1,r.1,w*r.2)]) (m+1) n:=by
 have hp:=I.lp
 -- the place of the id,in the state after add
 obtain⟨k,hk⟩:∃k,Hc S.ids r.1=k:=⟨_,rfl⟩
 obtain⟨U,hU⟩:∃U,S.add m r.1=U:=⟨_,rfl⟩
 have A:U.pa=S.pa/\U.ids.Nodup/\(∀c,c∈U.ids<->c=r.1\/∃a w,(a,c,w)∈T)/\U.su.length=U.ids.length/\U.ma.length=U.ids.length/\U.fi.length=U.ids.length/\(∀k (hk:k<U.ids.length),U.su.getD k 0=DH T U.ids[k])/\(∀k (hk:k<U.ids.length),U.ma.getD k 0=ER T U.ids[k])/\(∃hk:k<U.ids.length,U.ids[k]=r.1) ∧
   (∀k' (hk':k'<U.ids.length),k'≠k->∃j:Nat,j<m+1/\U.fi.getD k' 0=(j:Int)/\∃w,((Bx x j).1,U.ids[k'],w)∈T) ∧
   ∃f:Nat,f<m+1/\U.fi.getD k 0=(f:Int)/\((Bx x f).1=(Bx x m).1/\f=m/\(∀g w',(g,r.1,w') ∉ T)\/∃w',((Bx x f).1,r.1,w')∈T):=by
  subst hU;unfold S2.add;by_cases h:Hc S.ids r.1=S.ids.length
  ·have hn:=SI h;have hnT:∀g w',(g,r.1,w') ∉ T:=fun g w' hg=>hn ((I.mem _).2 ⟨g,w',hg⟩);have h0:DH T r.1=0/\ER T r.1=0:=LJ fun e he q=>hnT e.1 e.2.2 (by rw[<-q];exact he);rw[if_pos h];have hkl:k=S.ids.length:=by omega
   have hget:∀k' (hk':k'<(S.ids++[r.1]).length),(S.ids++[r.1])[k']=if h:k'<S.ids.length then S.ids[k'] else r.1:=fun k' hk'=>by
    by_cases h1:k'<S.ids.length
    ·rw[dif_pos h1,List.getElem_append_left h1]
    ·rw[dif_neg h1,getElem_append_right (by omega)];simp
   refine⟨rfl,?_,fun c=>?_,by simp[I.ls],by simp[I.lm],by simp[I.lf],fun k' hk'=>?_,fun k' hk'=>?_,⟨by show k<(S.ids++[r.1]).length;simp;omega,?_⟩,fun k' hk' hne=>?_,m,by omega,?_,.inl ⟨rfl,rfl,hnT⟩⟩
   ·exact List.nodup_append.2 ⟨I.nd,by simp,fun a ha b hb e=>by rw[List.mem_singleton.1 hb]at e;exact hn (e ▸ ha)⟩
   ·show c∈S.ids++[r.1]<->_;rw[mem_append,mem_singleton,I.mem];exact⟨fun h=>h.symm,fun h=>h.symm⟩
   ·have hk'':k'<S.ids.length+1:=by have:k'<(S.ids++[r.1]).length:=hk';simpa using this
    show(S.su++[0]).getD k' 0=DH T (S.ids++[r.1])[k'];rw[GS,hget k' hk',I.ls];by_cases h1:k'<S.ids.length
    ·rw[if_neg (by omega),dif_pos h1];exact I.su k' h1
    ·rw[if_pos (by omega),dif_neg h1,h0.1]
   ·have hk'':k'<S.ids.length+1:=by have:k'<(S.ids++[r.1]).length:=hk';simpa using this
    show(S.ma++[0]).getD k' 0=ER T (S.ids++[r.1])[k'];rw[GS,hget k' hk',I.lm];by_cases h1:k'<S.ids.length
    ·rw[if_neg (by omega),dif_pos h1];exact I.ma k' h1
    ·rw[if_pos (by omega),dif_neg h1,h0.2]
   ·show(S.ids++[r.1])[k]'_=r.1;rw[hget,dif_neg (by omega)]
   ·have hk'':k'<S.ids.length+1:=by have:k'<(S.ids++[r.1]).length:=hk';simpa using this
    obtain⟨j,h1,h2,h3⟩:=I.fi k' (by omega);refine⟨j,h1,?_,?_⟩
    ·show(S.fi++[(m:Int)]).getD k' 0=j;rw[GS,I.lf,if_neg (by omega)];exact h2
    ·show ∃w,(_,(S.ids++[r.1])[k']'hk',w)∈T;rw[hget k' hk',dif_pos (show k'<S.ids.length by omega)];exact h3
   ·show(S.fi++[(m:Int)]).getD k 0=(m:Int);rw[GS,I.lf,if_pos hkl]
  ·have hle:=Tb S.ids r.1;have hkl:k<S.ids.length:=by omega
   have hge:S.ids[k]=r.1:=SQ hk hkl;have hin:r.1∈S.ids:=by rw[<-hge];exact getElem_mem hkl
   rw[if_neg h];obtain⟨f,f1,f2,f3⟩:=I.fi k hkl;refine⟨rfl,I.nd,fun c=>?_,I.ls,I.lm,I.lf,I.su,I.ma,⟨hkl,hge⟩,fun k' hk' _=>I.fi k' hk',f,f1,f2,.inr (by rw[hge]at f3;exact f3)⟩;rw[I.mem];refine⟨.inr,fun h=>?_⟩;rcases h with rfl|h
   ·exact(I.mem _).1 hin
   ·exact h
 obtain⟨a1,a2,a3,a4,a5,a6,a7,a8,⟨a9,a10⟩,a11,f,f1,f2,f3⟩:=A;have hS:S.side m w r=U.hit m k (w*r.2):=by unfold S2.side;rw[hU,hk]
 rw[hS]
 have hcf:∀{a b},Con (T++[((Bx x m).1,r.1,w*r.2)]) a b<->_:=fun {a b}=>Con.snoc (a:=a) (b:=b) (T:=T) (i:=(Bx x m).1) (f:=(Bx x f).1) (c:=r.1) (w:=w*r.2) (by
  rcases f3 with ⟨h1,_,h2⟩|h
  ·exact .inl ⟨h1,h2⟩
  ·exact .inr h)
 have hrel:∀j,j<m+1->(IM U.pa (m+1) (U.pa.getD m 0) (U.pa.getD (U.fi.getD k 0).toNat 0)).getD j 0=if S.pa.getD j 0=S.pa.getD m 0 then S.pa.getD f 0 else S.pa.getD j 0:=fun j hj=>by rw[Sj _ _ _ _ _ (by rw[a1];omega) hj,a1,f2,Int.toNat_natCast]
 refine⟨a2,fun c=>?_,by show(List.set _ _ _).length=_;rw[length_set];exact a4,by show(List.set _ _ _).length=_;rw[length_set];exact a5,a6,by show(IM _ _ _ _).length=n;rw[KZ,a1];exact hp,fun k' hk0=>?_,fun k' hk0=>?_,fun k' hk0=>?_,fun j hj=>?_,fun j j' hj hj'=>?_,fun e he=>?_⟩
 ·show c∈U.ids<->_;rw[a3];constructor
  ·rintro(rfl|⟨a,w',h⟩)
   ·exact⟨_,_,mem_append_right _ Mh⟩
   ·exact⟨a,w',mem_append_left _ h⟩
  ·rintro⟨a,w',h⟩;rcases List.mem_append.1 h with h|h
   ·exact .inr ⟨a,w',h⟩
   ·have:=List.mem_singleton.1 h;exact .inl (congrArg (fun e:Int×Int×Int=>e.2.1) this)
 ·have hk':k'<U.ids.length:=hk0;show(U.su.set k (U.su.getD k 0+w*r.2)).getD k' 0=DH _ (U.ids[k']'hk');rw[Hy _ _ _ _ (by omega),Lo];by_cases e:k'=k
  ·subst e;rw[if_pos rfl,a7 k' hk',a10];simp
  ·have:¬r.1=U.ids[k']'hk':=fun h=>e (G3 a2 hk' a9 (by rw[a10];exact h.symm));rw[if_neg e,a7 k' hk',if_neg this,Int.add_zero]
 ·have hk':k'<U.ids.length:=hk0;show(U.ma.set k (U.ma.getD k 0+1)).getD k' 0=ER _ (U.ids[k']'hk');rw[Hy _ _ _ _ (by omega),RB];by_cases e:k'=k
  ·subst e;rw[if_pos rfl,a8 k' hk',a10];simp
  ·have:¬r.1=U.ids[k']'hk':=fun h=>e (G3 a2 hk' a9 (by rw[a10];exact h.symm));rw[if_neg e,a8 k' hk',if_neg this,Int.add_zero]
 ·have hk':k'<U.ids.length:=hk0;show ∃j:Nat,j<m+1/\U.fi.getD k' 0=(j:Int)/\∃w',((Bx x j).1,U.ids[k']'hk',w')∈_;by_cases e:k'=k
  ·subst e;refine⟨f,f1,f2,?_⟩;rw[a10];rcases f3 with ⟨h1,_,_⟩|⟨w',h⟩
   ·exact⟨w*r.2,by rw[h1];exact mem_append_right _ Mh⟩
   ·exact⟨w',mem_append_left _ h⟩
  ·obtain⟨j,j1,j2,w',j3⟩:=a11 k' hk' e;exact⟨j,j1,j2,w',mem_append_left _ j3⟩
 ·show 0<=(IM _ _ _ _).getD j 0/\(IM _ _ _ _).getD j 0<_;rw[hrel j hj];have:=I.pl j hj;have:=I.pl f f1;split<;>omega
 ·show(IM _ _ _ _).getD j 0=(IM _ _ _ _).getD j' 0<->_;rw[hrel j hj,hrel j' hj',hcf,<-I.pc j j' hj hj',<-I.pc j m hj (by omega),<-I.pc f j' f1 hj',<-I.pc j f hj f1,<-I.pc m j' (by omega) hj'];split<;>split<;>omega
 ·rcases List.mem_append.1 he with h|h
  ·exact I.fr e h
  ·rw[List.mem_singleton.1 h];exact⟨m,by omega,rfl⟩
theorem S2.Inv.sides(hm:m<n)(w:Int):∀(l:List (Int×Int)) (S:S2) (T:FA),S.Inv x T (m+1) n->(S.sides m w l).Inv x (T++l.map fun r=>((Bx x m).1,r.1,w*r.2)) (m+1) n
 | [],S,T,I=>by rw[List.map_nil,append_nil];exact I
 | r::l,S,T,I=>by have:=S2.Inv.sides hm w l (S.side m w r) _ (I.side hm w r);rw[append_assoc]at this;exact this
def Ld(l:List Cl)(x:Cl)(m:Nat):FA:=(range m).flatMap fun i=>(KV l x i).sd.map fun r=>((Bx x i).1,r.1,(Bx x i).2*r.2)
theorem SG(l:List Cl)(x:Cl)(m:Nat):Ld l x (m+1)=Ld l x m++(KV l x m).sd.map fun r=>((Bx x m).1,r.1,(Bx x m).2*r.2):=by unfold Ld;rw[range_succ,List.flatMap_append];simp
theorem NA{l:List Cl}(hd:∀j m,j<m->m<x.sd.length->(Bx x j).1≠(Bx x m).1):∀m,m<=x.sd.length->(MV l x m).Inv x (Ld l x m) m x.sd.length
 | 0,_=>⟨by show List.Nodup [];simp,fun c=>⟨fun h=>by simp[MV]at h,fun⟨a,w,h⟩=>by simp[Ld]at h⟩,rfl,rfl,rfl,by simp[MV],fun k hk=>absurd hk (Nat.not_lt_zero _),fun k hk=>absurd hk (Nat.not_lt_zero _),fun k hk=>absurd hk (Nat.not_lt_zero _),fun j hj=>by omega,fun j j' hj=>by omega,fun e he=>by simp[Ld]at he⟩
 | m+1,h=>by rw[SG];exact S2.Inv.sides (by omega) _ _ _ _ ((NA hd m (by omega)).start (by omega) fun j hj=>hd j m hj (by omega))
structure GoodT(T:FA)(s:List (Int×Int)):Prop where
 sum:∀e∈T,DH T e.2.1=0
 two:∀e∈T,ER T e.2.1=2
 con:∀a∈s,∀b∈s,Con T a.1 b.1
theorem Ir{l:List Cl}(hd:∀j m,j<m->m<x.sd.length->(Bx x j).1≠(Bx x m).1):Jv l x=0<->GoodT (Ld l x x.sd.length) x.sd:=by
 have I:=NA (l:=l) hd x.sd.length (Nat.le_refl _);obtain⟨S,hS⟩:∃S,MV l x x.sd.length=S:=⟨_,rfl⟩
 obtain⟨T,hT⟩:∃T,Ld l x x.sd.length=T:=⟨_,rfl⟩
 rw[hS,hT]at I;rw[hT];have hget:∀{L:List Int} {j:Nat} (hj:j<L.length),L[j]=L.getD j 0:=fun {L j} hj=>by simp[List.getD,hj]
 have h1:(∀y∈S.su,y=0)<->∀e∈T,DH T e.2.1=0:=by
  constructor
  ·intro h e he;obtain⟨k,hk,e1⟩:=getElem_of_mem ((I.mem e.2.1).2 ⟨e.1,e.2.2,he⟩);have h2:=I.su k hk;rw[e1]at h2;rw[<-h2,<-hget (by rw[I.ls];exact hk)];exact h _ (getElem_mem _)
  ·intro h y hy;obtain⟨k,hk,rfl⟩:=getElem_of_mem hy;have hk':k<S.ids.length:=by rw[<-I.ls];exact hk
   rw[hget hk,I.su k hk'];obtain⟨a,w,h2⟩:=(I.mem _).1 (getElem_mem hk');exact h _ h2
 have h2:(∀y∈S.ma,y=2)<->∀e∈T,ER T e.2.1=2:=by
  constructor
  ·intro h e he;obtain⟨k,hk,e1⟩:=getElem_of_mem ((I.mem e.2.1).2 ⟨e.1,e.2.2,he⟩);have h2:=I.ma k hk;rw[e1]at h2;rw[<-h2,<-hget (by rw[I.lm];exact hk)];exact h _ (getElem_mem _)
  ·intro h y hy;obtain⟨k,hk,rfl⟩:=getElem_of_mem hy;have hk':k<S.ids.length:=by rw[<-I.lm];exact hk
   rw[hget hk,I.ma k hk'];obtain⟨a,w,h2⟩:=(I.mem _).1 (getElem_mem hk');exact h _ h2
 have h3:(∀y∈S.pa,y=S.pa.getD 0 0)<->∀a∈x.sd,∀b∈x.sd,Con T a.1 b.1:=by
  constructor
  ·intro h a ha b hb;obtain⟨j,hj,rfl⟩:=getElem_of_mem ha;obtain⟨j',hj',rfl⟩:=getElem_of_mem hb;have e1:S.pa.getD j 0=S.pa.getD 0 0:=by rw[<-hget (by rw[I.lp];exact hj)];exact h _ (getElem_mem _)
   have e2:S.pa.getD j' 0=S.pa.getD 0 0:=by rw[<-hget (by rw[I.lp];exact hj')];exact h _ (getElem_mem _)
   have:=(I.pc j j' hj hj').1 (by rw[e1,e2])
   rwa [Bp hj,Bp hj']at this
  ·intro h y hy;obtain⟨j,hj,rfl⟩:=getElem_of_mem hy;rw[hget hj];rw[I.lp]at hj;refine(I.pc j 0 hj (by omega)).2 ?_;rw[Bp hj,Bp (by omega)];exact h _ (getElem_mem _) _ (getElem_mem _)
 unfold Jv;rw[hS];constructor
 ·intro h;split at h
  ·exact absurd h (by decide)
  ·rename_i g1;split at h
   ·exact absurd h (by decide)
   ·rename_i g2;split at h
    ·exact absurd h (by decide)
    ·rename_i g3;exact⟨h1.1 (Classical.not_not.1 g1),h2.1 (Classical.not_not.1 g2),h3.1 (Classical.not_not.1 g3)⟩
 ·rintro⟨g1,g2,g3⟩;rw[if_neg (fun q=>q (h1.2 g1)),if_neg (fun q=>q (h2.2 g2)),if_neg (fun q=>q (h3.2 g3))]
end Go.Proofs.Q

namespace Go.Proofs.Q
open Go.Eng Go.RowKit
theorem RdC.snoc'{h:Hp}{A:List Ce}(hA:∀a∈A,RdL cD 2 h [] a.v a.c.sd){c:Ce}(hc:RdL cD 2 h [] c.v c.c.sd):∀a∈A++[c],RdL cD 2 h [] a.v a.c.sd:=fun a ha=>by
 rcases List.mem_append.1 ha with h|h
 ·exact hA a h
 ·rw[List.mem_singleton.1 h];exact hc
theorem Ji:∀(ll acc all:List (List Int)),acc.length<=4000->Ch acc ll=some all->all.length<=4000
 | [],acc,all,h,e=>by have:acc=all:=Option.some.inj e;rw[<-this];exact h
 | l::ll,acc,all,h,e=>by
  rw[Df]at e;split at e
  ·cases e
  ·exact Ji ll _ all (by omega) e
theorem TI(ll:List (List Int)):(DY ll).length<=4000/\∀c∈DY ll,(-1<=c.dim/\c.dim<=8)/\c.sd.length<=9:=by
 unfold DY;cases h:Ch [] ll with
 | none=>exact⟨by simp,fun c hc=>nomatch hc⟩
 | some all=>
  have h9:=EH ll [] all List.Pairwise.nil (fun t ht=>nomatch ht) h;refine⟨by simpa using Ji ll [] all (by simp) h,fun c hc=>?_⟩;obtain⟨i,hi,rfl⟩:=List.mem_map.1 hc;have hil:=List.mem_range.1 hi
  have hl:(all.getD i []).length<=9:=by
   have:all.getD i []=all[i]:=by simp[List.getD,hil]
   rw[this];exact h9 _ (getElem_mem hil)
  refine⟨?_,?_⟩
  ·show -1<=((all.getD i []).length:Int)-1/\((all.getD i []).length:Int)-1<=8;omega
  ·show(if(all.getD i []).length<=1 then [] else BX _).length<=9;split
   ·simp
   ·rw[HC,length_map,length_range];exact hl
def O6(h:Hp)(r:Value)(ms:List Hp)(Q:List Cl->Prop):Prop:=∃m A v',ms=[m]/\r=.agg #[v']/\OwnL cC 3 52 m v' A/\Q (A.map Ce.c)/\∀a∈A,RdL cD 2 h [] a.v a.c.sd
variable {o l:List Cl} {x y:Cl} {α β:Type}
def OQ(l:List Cl)(c:Int):Option Cl:=l.find? fun y=>decide (y.id=c)
def FS(l:List Cl)(c:Int):Cl:=(OQ l c).getD default
theorem CL(hn:(l.map Cl.id).Nodup)(hy:y∈l):OQ l y.id=some y:=by
 unfold OQ
 induction l with
 | nil=>cases hy
 | cons a l ih=>
  rw[map_cons,List.nodup_cons]at hn;rw[List.find?_cons];rcases List.mem_cons.1 hy with rfl|h
  ·simp
  ·have:¬a.id=y.id:=fun e=>hn.1 (List.mem_map.2 ⟨y,h,e.symm⟩);simp only[this,decide_false];exact ih hn.2 h
theorem Ci(hn:(l.map Cl.id).Nodup)(hy:y∈l):FS l y.id=y:=by unfold FS;rw[CL hn hy];rfl
def J9(L:Int->List (Int×Int))(s:List (Int×Int)):FA:=s.flatMap fun a=>(L a.1).map fun r=>(a.1,r.1,a.2*r.2)
def E4(l:List Cl)(x:Cl):FA:=J9 (fun c=>(FS l c).sd) x.sd
structure Rgt(l:List Cl):Prop where
 n:l.length<=4000
 nd:(l.map Cl.id).Nodup
 pos:∀x∈l,1<=x.id
 dim:∀x∈l,0<=x.dim/\x.dim<=8
 num:∀x∈l,¬Cj x
 sds:∀x∈l,(x.sd.map Prod.fst).Nodup
 sid:∀x∈l,∀s∈x.sd,∃y∈l,y.id=s.1/\y.dim=x.dim-1
 sgn:∀x∈l,∀s∈x.sd,s.2=1\/s.2=-1
 one:∀x∈l,x.dim=1->(x.sd.map Prod.snd).sum=0
 tab:∀x∈l,2<=x.dim->GoodT (E4 l x) x.sd
theorem Rgt.nil:Rgt []:=⟨by simp,by simp,nofun,nofun,nofun,nofun,nofun,nofun,nofun,nofun⟩
theorem Ia{l l':List Int}(h:l.Perm l'):l.sum=l'.sum:=by
 induction h with
 | nil=>rfl
 | cons x _ ih=>simp only[sum_cons,ih]
 | swap x y l=>simp only[sum_cons];omega
 | trans _ _ h1 h2=>exact h1.trans h2
theorem GoodT.perm{T T':FA}{s s':List (Int×Int)}(h:T.Perm T')(hs:s.Perm s')(G:GoodT T s):GoodT T' s' where
 sum:=fun e he=>by exact(Ia (h.map _).symm).trans (G.sum e (h.mem_iff.2 he))
 two:=fun e he=>by exact(Ia (h.map _).symm).trans (G.two e (h.mem_iff.2 he))
 con:=fun a ha b hb=>(G.con a (hs.mem_iff.2 ha) b (hs.mem_iff.2 hb)).mono fun e he=>h.mem_iff.1 he
theorem Hf{f g:α->List β}:∀{l:List α},(∀a∈l,(f a).Perm (g a))->(l.flatMap f).Perm (l.flatMap g)
 | [],_=>List.Perm.refl _
 | a::l,h=>by rw[flatMap_cons,flatMap_cons];exact(h a Mh).append (Hf fun b hb=>h b (mem_cons_of_mem _ hb))
theorem Dz{f g:α->List β}:∀{l:List α},(∀a∈l,f a=g a)->l.flatMap f=l.flatMap g
 | [],_=>rfl
 | a::l,h=>by rw[flatMap_cons,flatMap_cons,h a Mh,Dz fun b hb=>h b (mem_cons_of_mem _ hb)]
theorem HX{f g:α->List β}{l l':List α}(h:l.Perm l')(hf:∀a∈l,(f a).Perm (g a)):(l.flatMap f).Perm (l'.flatMap g):=(Hf hf).trans (h.flatMap_right g)
theorem R8(x:Int×Int)(l:List (Int×Int)):(Hm x l).Perm (x::l):=by unfold Hm;refine List.perm_middle.trans ?_;rw[List.takeWhile_append_dropWhile]
theorem BB(l:List (Int×Int)):(BX l).Perm l:=by
 have go:∀(l acc:List (Int×Int)),(l.foldl (fun acc x=>Hm x acc) acc).Perm (acc++l):=fun l=>by
  induction l with
  | nil=>intro acc;rw[append_nil];exact List.Perm.refl _
  | cons x l ih=>
   intro acc;rw[List.foldl_cons];refine(ih _).trans (((R8 x acc).append_right l).trans ?_);exact List.perm_middle.symm
 exact go l []
structure SimC(l l':List Cl):Prop where
 len:l'.length=l.length
 ids:(l'.map Cl.id).Perm (l.map Cl.id)
 mem:∀x'∈l',∃x∈l,x'.id=x.id/\x'.dim=x.dim/\x'.sd.Perm x.sd
theorem SimC.to{l':List Cl}(S:SimC l l')(hn:(l.map Cl.id).Nodup)(hx:x∈l):∃x'∈l',x'.id=x.id/\x'.dim=x.dim/\x'.sd.Perm x.sd:=by
 obtain⟨x',h1,h2⟩:=List.mem_map.1 (S.ids.mem_iff.2 (List.mem_map.2 ⟨x,hx,rfl⟩));obtain⟨y,h3,h4,h5,h6⟩:=S.mem x' h1
 have:y=x:=by have a:=CL hn h3;have b:=CL hn hx;rw[<-h4,h2,b]at a;exact(Option.some.inj a).symm
 subst this;exact⟨x',h1,h4,h5,h6⟩
theorem Rgt.sim{l':List Cl}(R:Rgt l)(S:SimC l l'):Rgt l':=by
 have hn':(l'.map Cl.id).Nodup:=S.ids.nodup_iff.2 R.nd
 have hnum:∀{x x':Cl},x'.dim=x.dim->x'.sd.Perm x.sd->¬Cj x->¬Cj x':=fun {x x'} h1 h2 h h3=>by unfold Cj at *;rw[h1,h2.length_eq]at h3;exact h h3
 refine⟨by rw[S.len];exact R.n,hn',fun x' hx'=>?_,fun x' hx'=>?_,fun x' hx'=>?_,fun x' hx'=>?_,fun x' hx' s hs=>?_,fun x' hx' s hs=>?_,fun x' hx' hd=>?_,fun x' hx' hd=>?_⟩<;>obtain⟨x,hx,e1,e2,e3⟩:=S.mem x' hx'
 ·rw[e1];exact R.pos x hx
 ·rw[e2];exact R.dim x hx
 ·exact hnum e2 e3 (R.num x hx)
 ·exact(e3.map _).nodup_iff.2 (R.sds x hx)
 ·obtain⟨y,hy,h1,h2⟩:=R.sid x hx s (e3.mem_iff.1 hs);obtain⟨y',hy',h3,h4,_⟩:=S.to R.nd hy;exact⟨y',hy',by rw[h3,h1],by rw[h4,h2,e2]⟩
 ·exact R.sgn x hx s (e3.mem_iff.1 hs)
 ·rw[Ia (e3.map _)];exact R.one x hx (by rw[<-e2];exact hd)
 ·refine(R.tab x hx (by rw[<-e2];exact hd)).perm ?_ e3.symm;unfold E4 J9;refine HX e3.symm fun s hs=>List.Perm.map _ ?_;obtain⟨y,hy,h1,h2⟩:=R.sid x hx s hs;obtain⟨y',hy',h3,h4,h5⟩:=S.to R.nd hy;show(FS l s.1).sd.Perm (FS l' s.1).sd;rw[<-h1,Ci R.nd hy,<-h3,Ci hn' hy'];exact h5.symm
theorem SS(l:List Cl):SimC l (ordF l):=by have hp:=De l.length l (Nat.le_refl _);refine⟨by rw[hp.length_eq,length_map],(hp.map Cl.id).trans (by rw[map_map];exact List.Perm.refl _),fun x' hx'=>?_⟩;obtain⟨x,hx,rfl⟩:=HH hx';exact⟨x,hx,rfl,rfl,BB _⟩
theorem Pz(h:o.Pairwise fun a b=>a.id<b.id):(o.map Cl.id).Nodup:=List.pairwise_map.2 (h.imp fun h e=>by omega)
theorem Ik(hi:o.Pairwise fun a b=>a.id<b.id)(hy:y∈o):0<=L3 o y.id/\o.getD (L3 o y.id).toNat default=y:=by
 obtain⟨k,hk,rfl⟩:=getElem_of_mem hy;have hc:Kn o o[k].id=k:=Nr (by omega) (fun j hj hjk=>List.pairwise_iff_getElem.1 hi j k hj hk hjk) (fun _=>by omega)
 have e:L3 o o[k].id=(k:Int):=by unfold L3;rw[dif_pos (by rw[hc];exact hk)];simp only[hc,if_pos]
 rw[e];refine⟨by omega,?_⟩;rw[Int.toNat_natCast];simp[List.getD,hk]
theorem XI{c:Int}(h:0<=L3 o c):∃y∈o,y.id=c/\o.getD (L3 o c).toNat default=y:=by
 unfold L3 at *;split at h
 ·rename_i h1;rw[dif_pos h1];split at h
  ·rename_i h2;rw[if_pos h2,Int.toNat_natCast];exact⟨_,getElem_mem h1,h2,by simp[List.getD,h1]⟩
  ·exact absurd h (by decide)
 ·exact absurd h (by decide)
theorem Qr{l:List (Int×Int)}(h:l.length=2):(l.map Prod.snd).sum=(l.getD 0 (0,0)).2+(l.getD 1 (0,0)).2:=by
 match l,h with
 | [a,b],_=>simp
theorem Iw{x:Int×Int}:∀{l:List (Int×Int)},(l.Pairwise fun a b=>a.1<=b.1)->∀y∈l.dropWhile (fun y=>decide (y.1<=x.1)),x.1<y.1
 | [],_,y,hy=>by cases hy
 | a::l,h,y,hy=>by
  rw[List.dropWhile_cons]at hy;split at hy
  ·exact Iw (List.pairwise_cons.1 h).2 y hy
  ·rename_i h1;have h1:¬a.1<=x.1:=by simpa using h1
   rcases List.mem_cons.1 hy with rfl|h2
   ·omega
   ·have:=(List.pairwise_cons.1 h).1 y h2;omega
theorem VS{x:Int×Int}{l:List (Int×Int)}(h:l.Pairwise fun a b=>a.1<=b.1):(Hm x l).Pairwise fun a b=>a.1<=b.1:=by
 unfold Hm
 have h1:∀y∈l.takeWhile (fun y=>decide (y.1<=x.1)),y.1<=x.1:=fun y hy=>by have:=List.all_takeWhile (p:=fun y:Int×Int=>decide (y.1<=x.1)) (l:=l);have:=List.all_eq_true.1 this y hy;simpa using this
 have h2:=Iw (x:=x) h;refine List.pairwise_append.2 ⟨h.sublist (List.takeWhile_sublist _),List.pairwise_cons.2 ⟨fun y hy=>by have:=h2 y hy;omega,h.sublist (List.dropWhile_sublist _)⟩,fun a ha b hb=>?_⟩;have h3:=h1 a ha;rcases List.mem_cons.1 hb with rfl|hb
 ·exact h3
 ·have:=h2 b hb;omega
theorem E2(l:List (Int×Int)):(BX l).Pairwise fun a b=>a.1<=b.1:=by
 have go:∀(l acc:List (Int×Int)),(acc.Pairwise fun a b=>a.1<=b.1)->(l.foldl (fun acc x=>Hm x acc) acc).Pairwise fun a b=>a.1<=b.1:=fun l=>by
  induction l with
  | nil=>intro acc h;exact h
  | cons x l ih=>intro acc h;rw[List.foldl_cons];exact ih _ (VS h)
 exact go l [] List.Pairwise.nil
theorem Ra(hi:o.Pairwise fun a b=>a.id<b.id)(hs:∀s∈x.sd,∃y∈o,y.id=s.1):Ld o x x.sd.length=E4 o x:=by
 have hx:x.sd=(range x.sd.length).map (Bx x):=List.ext_getElem (by simp) fun j h1 h2=>by simp[Bp h1]
 unfold E4 J9
 conv=>rhs;rw[hx]
 unfold Ld;rw[flatMap_map];refine Dz fun j hj=>?_;have hj:=List.mem_range.1 hj;obtain⟨y,hy,e⟩:=hs (Bx x j) (by rw[Bp hj];exact getElem_mem hj);have h1:KV o x j=y:=by unfold KV;rw[<-e];exact(Ik hi hy).2
 have h2:FS o (Bx x j).1=y:=by rw[<-e];exact Ci (Pz hi) hy
 show _=List.map (fun r=>((Bx x j).1,r.1,(Bx x j).2*r.2)) (FS o (Bx x j).1).sd;rw[h1,h2]
theorem Qy(hi:o.Pairwise fun a b=>a.id<b.id)(hc:∃y:Cl,x=y.can):(∀i,i<x.sd.length->¬EJ o x i)<->(∀s∈x.sd,∃y∈o,y.id=s.1/\y.dim=x.dim-1)/\(x.sd.map Prod.fst).Nodup:=by
 have hs:x.sd.Pairwise fun a b=>a.1<=b.1:=by obtain⟨y,rfl⟩:=hc;exact E2 _
 constructor
 ·intro h;refine⟨fun s hs=>?_,?_⟩
  ·obtain⟨i,hi',rfl⟩:=getElem_of_mem hs;have h1:=h i hi';unfold EJ at h1;rw[Bp hi']at h1;have h2:0<=L3 o x.sd[i].1:=Int.not_lt.1 fun q=>h1 (.inl q);obtain⟨y,hy,e1,e2⟩:=XI h2;rw[e2]at h1;exact⟨y,hy,e1,Classical.byContradiction fun q=>h1 (.inr (.inl q))⟩
  ·refine List.pairwise_map.2 (List.pairwise_iff_getElem.2 fun i j hi' hj hij e=>?_);have h1:=h (i+1) (by omega);unfold EJ at h1;rw[Bp (by omega),Nat.add_sub_cancel,Bp hi']at h1;refine h1 (.inr (.inr ⟨by omega,?_⟩));have a1:=List.pairwise_iff_getElem.1 hs i (i+1) hi' (by omega) (by omega);rcases (by omega:i+1=j\/i+1<j) with rfl|q
   ·omega
   ·have a2:=List.pairwise_iff_getElem.1 hs (i+1) j (by omega) hj q;omega
 ·rintro⟨h1,h2⟩ i hi' h3;unfold EJ at h3;rw[Bp hi']at h3;obtain⟨y,hy,e1,e2⟩:=h1 _ (getElem_mem hi');obtain⟨a1,a2⟩:=Ik hi hy;rw[e1]at a1 a2;rcases h3 with h3|h3|⟨h3,h4⟩
  ·omega
  ·rw[a2]at h3;exact h3 e2
  ·rw[Bp (show i-1<x.sd.length by omega)]at h4;have:=List.pairwise_iff_getElem.1 (List.pairwise_map.1 h2) (i-1) i (by omega) hi' (by omega);exact this h4.symm
theorem Ic(h:(x.sd.map Prod.fst).Nodup):∀j m,j<m->m<x.sd.length->(Bx x j).1≠(Bx x m).1:=fun j m hjm hm=>by rw[Bp (by omega),Bp hm];exact List.pairwise_iff_getElem.1 (List.pairwise_map.1 h) j m (by omega) hm hjm
theorem RgtF.rgt(R:RgtF o):Rgt o:=by
 have hf:=fun x hx=>Jj (R.fst x hx)
 have hnum:∀x∈o,¬Cj x:=fun x hx q=>by have:=R.fst x hx;unfold Hq at this;rw[if_neg (by have:=(hf x hx).1;omega),if_pos q]at this;exact absurd this (by decide)
 have hb:=fun x hx=>(Qy R.inc (R.can x hx)).1 (hf x hx).2.2.1;have hsg:∀x∈o,∀s∈x.sd,s.2=1\/s.2=-1:=fun x hx=>(R.bds hx).2.2;refine⟨R.n,Pz R.inc,R.pos,fun x hx=>(hf x hx).1,hnum,fun x hx=>(hb x hx).2,fun x hx=>(hb x hx).1,hsg,fun x hx hd=>?_,fun x hx hd=>?_⟩
 ·have hl:x.sd.length=2:=Classical.byContradiction fun q=>hnum x hx (.inr (.inl ⟨hd,q⟩));rw[Qr hl];have h1:=hsg x hx _ (getElem_mem (show 0<x.sd.length by omega));have h2:=hsg x hx _ (getElem_mem (show 1<x.sd.length by omega));have h3:=R.fst x hx;unfold Hq at h3;rw[if_neg (by have:=(hf x hx).1;omega),if_neg (hnum x hx),if_neg (fun q=>q (hf x hx).2.2.1),if_neg (fun q=>q (hf x hx).2.2.2)]at h3;rw[<-Bp]at h1 h2;have h4:¬(Bx x 0).2=(Bx x 1).2:=fun q=>by rw[if_pos ⟨hd,q⟩]at h3;exact absurd h3 (by decide)
  show(Bx x 0).2+(Bx x 1).2=0;omega
 ·have h1:=(Ir (Ic (hb x hx).2)).1 (R.snd x hx hd)
  rwa [Ra R.inc fun s hs=>by obtain⟨y,hy,e,_⟩:=(hb x hx).1 s hs;exact⟨y,hy,e⟩]at h1
theorem Rgt.ordF(R:Rgt l):RgtF (ordF l):=by
 have R':=R.sim (SS l);have hle:=En l.length l (Nat.le_refl _);have hinc:(Go.Proofs.Q.ordF l).Pairwise fun a b=>a.id<b.id:=(hle.and (List.pairwise_map.1 R'.nd)).imp fun h=>by omega
 have hcan:∀x∈Go.Proofs.Q.ordF l,∃y:Cl,x=y.can:=fun x hx=>by obtain⟨a,_,e⟩:=HH hx;exact⟨a,e⟩
 refine⟨R'.n,hinc,R'.pos,hcan,fun x hx=>?_,fun x hx hd=>?_⟩
 ·have hb:=(Qy hinc (hcan x hx)).2 ⟨R'.sid x hx,R'.sds x hx⟩
  have hsg:∀i,i<x.sd.length->¬B9 x i:=fun i hi q=>by unfold B9 at q;rw[Bp hi]at q;have:=R'.sgn x hx _ (getElem_mem hi);omega
  unfold Hq;rw[if_neg (by have:=R'.dim x hx;omega),if_neg (R'.num x hx),if_neg (fun q=>q hb),if_neg (fun q=>q hsg)];by_cases hd:x.dim=1
  ·have hl:x.sd.length=2:=Classical.byContradiction fun q=>R'.num x hx (.inr (.inl ⟨hd,q⟩));have h1:=R'.one x hx hd;rw[Qr hl]at h1;have h2:=R'.sgn x hx _ (getElem_mem (show 0<x.sd.length by omega));rw[<-Bp]at h2;have h3:(Bx x 0).2+(Bx x 1).2=0:=h1;rw[if_neg (fun q=>by have:=q.2;omega)]
  ·rw[if_neg (fun q=>hd q.1)]
 ·refine(Ir (Ic (R'.sds x hx))).2 ?_;rw[Ra hinc fun s hs=>by obtain⟨y,hy,e,_⟩:=R'.sid x hx s hs;exact⟨y,hy,e⟩];exact R'.tab x hx hd
end Go.Proofs.Q
namespace Go.Proofs.Q
open Go.Proofs.Tryz
open Go.Eng Go.RowKit
variable {l o:List Cl} {v:Value} {oi:List CeO}
structure CanO(l o:List Cl):Prop where
 ids:(o.map Cl.id).Perm (l.map Cl.id)
 inc:o.Pairwise fun a b=>a.id<=b.id
 mem:∃l':List Cl,l'.Perm l/\o.length=l'.length/\∀i (h:i<o.length) (h':i<l'.length),o[i].id=l'[i].id/\o[i].dim=l'[i].dim/\o[i].sd.Perm l'[i].sd/\o[i].sd.Pairwise fun a b=>a.1<=b.1
theorem CanO.len(C:CanO l o):o.length=l.length:=by obtain⟨l',h1,h2,_⟩:=C.mem;rw[h2,h1.length_eq]
theorem CanO.sim(C:CanO l o):SimC l o:=by obtain⟨l',h1,h2,h3⟩:=C.mem;refine⟨C.len,C.ids,fun x' hx'=>?_⟩;obtain⟨i,hi,rfl⟩:=getElem_of_mem hx';obtain⟨a,b,c,_⟩:=h3 i hi (by omega);exact⟨_,h1.mem_iff.1 (getElem_mem (by omega)),a,b,c⟩
theorem Dc{α:Type}(k:α->Int):∀{l l':List α},l.Perm l'->(l.Pairwise fun a b=>k a<=k b)->(l'.Pairwise fun a b=>k a<k b)->l=l'
 | [],l',h,_,_=>(List.nil_perm.1 h).symm
 | a::l,[],h,_,_=>absurd h.length_eq (by simp)
 | a::l,b::l',h,h1,h2=>by
  obtain⟨h3,h4⟩:=List.pairwise_cons.1 h1;obtain⟨h5,h6⟩:=List.pairwise_cons.1 h2;have hb:b∈a::l:=h.mem_iff.2 Mh;have ha:a∈b::l':=h.mem_iff.1 Mh
  have e:a=b:=by
   rcases List.mem_cons.1 ha with e|ha
   ·exact e
   ·have g1:=h5 a ha;rcases List.mem_cons.1 hb with e|hb
    ·exact e.symm
    ·have g2:=h3 b hb;omega
  subst e;rw[Dc k ((List.perm_cons a).1 h) h4 h6]
theorem RgtF.sinc(R:RgtF o):∀x∈o,x.sd.Pairwise fun a b=>a.1<b.1:=fun x hx=>by
 obtain⟨y,e⟩:=R.can x hx;have h1:x.sd.Pairwise fun a b=>a.1<=b.1:=by rw[e];exact E2 _
 have h2:=List.pairwise_map.1 (R.rgt.sds x hx);exact(h1.and h2).imp fun h=>by omega
theorem exO:∀{l:List Ce},(∀a∈l,a.v.oneCell'=true)->∃lo:List CeO,lo.map (fun e=>(⟨e.c,e.v⟩:Ce))=l
 | [],_=>⟨[],rfl⟩
 | a::l,h=>by obtain⟨lo,e⟩:=exO fun b hb=>h b (mem_cons_of_mem _ hb);exact⟨⟨a.c,a.v,h a Mh⟩::lo,by rw[map_cons,e]⟩
def JS(e:CeO):Ce:=⟨e.c,e.v⟩
theorem IU(lo:List CeO):(lo.map JS).flatMap cC=lo.flatMap Hh:=by rw[flatMap_map];rfl
theorem YD{lo:List CeO}{h:Hp}{ms:List Hp}(R:RdL cC 3 h ms v (lo.map JS)):RdL Hh 3 h ms v lo:=⟨by have:=R.rd;rwa [IU,length_map]at this,Jw⟩
theorem T5{lo:List CeO}{m:Hp}(O:OwnL Hh 3 52 m v lo):OwnL cC 3 52 m v (lo.map JS):=⟨by have:=O.own;rwa [IU,length_map],Cc⟩
def StpO(o oi:List CeO)(i:Nat):Prop:=oi.length=o.length/\∀j (h:j<oi.length) (h':j<o.length),oi[j].c.id=o[j].c.id/\oi[j].c.dim=o[j].c.dim/\oi[j].c.sd.Perm o[j].c.sd/\(j<i->oi[j].c.sd.Pairwise fun a b=>a.1<=b.1)
theorem StpO.start(o:List CeO):StpO o o 0:=⟨rfl,fun j h h'=>⟨rfl,rfl,List.Perm.refl _,fun q=>absurd q (by omega)⟩⟩
theorem StpO.step{o:List CeO}{i:Nat}(S:StpO o oi i)(hi:i<oi.length){s:List (Int×Int)}(hp:s.Perm oi[i].c.sd)(hs:s.Pairwise fun a b=>a.1<=b.1){hv:v.oneCell'=true}:StpO o (oi.set i ⟨⟨oi[i].c.id,oi[i].c.dim,s⟩,v,hv⟩) (i+1):=by
 refine⟨by rw[length_set];exact S.1,fun j h h'=>?_⟩;rw[length_set]at h;obtain⟨a,b,c,d⟩:=S.2 j h h';by_cases e:i=j
 ·subst e;simp only[List.getElem_set_self];exact⟨a,b,hp.trans c,fun _=>hs⟩
 ·simp only[List.getElem_set_ne e];exact⟨a,b,c,fun q=>d (by omega)⟩
theorem StpO.can{o:List CeO}(S:StpO o oi o.length)(hp:(o.map CeO.c).Perm l)(hi:o.Pairwise fun a b=>a.c.id<=b.c.id):CanO l (oi.map CeO.c):=by
 have hl:=S.1
 have hid:(oi.map CeO.c).map Cl.id=(o.map CeO.c).map Cl.id:=List.ext_getElem (by simp[hl]) fun i h1 h2=>by simp only[List.getElem_map];exact(S.2 i (by simpa using h1) (by simpa using h2)).1
 refine⟨by rw[hid];exact hp.map _,?_,o.map CeO.c,hp,by simp[hl],fun i h h'=>?_⟩
 ·refine List.pairwise_map.2 ?_;rw[List.pairwise_iff_getElem]at hi ⊢;intro i j h1 h2 hij;have:=hi i j (by omega) (by omega) hij;have e1:=(S.2 i h1 (by omega)).1;have e2:=(S.2 j h2 (by omega)).1;omega
 ·rw[length_map]at h h';simp only[List.getElem_map];obtain⟨a,b,c,d⟩:=S.2 i h h';exact⟨a,b,c,d h'⟩
theorem UY{i:Nat}{a b:CeO}(h:a∈oi.set i b):a=b\/a∈oi:=(List.mem_or_eq_of_mem_set h).symm
theorem II(l:List Ce)(v:Value)(hp:Hp)(hn:l.length<=1000000)(hs:∀a∈l,a.c.sd.length<=1000000)(hR:RdC hp v l):FnT Tryz.prog 65 #[.agg #[v]] hp [] (fun r h' ms'=>hp.le h'/\∃m A v',ms'=[m]/\r=.agg #[v']/\OwnL cC 3 52 m v' A/\CanO (l.map Ce.c) (A.map Ce.c)/\∀a∈A,RdL cD 2 h' [] a.v a.c.sd):=by
 have o1:=hR.q.rd.one;obtain⟨lo,e⟩:=exO (fun a ha=>(hR.s a ha).rd.one);have e:lo.map JS=l:=e;refine Ap func65 ntmps65 rfl rfl (fun w0 hw0=>?_);simp only[AU];refine Au (AX [_] rfl rfl (by rfl) rfl rfl rfl (fun g1=>CN [.slice none 0 0] rfl AV rfl rfl (fun g2=>Al (Bo 1 rfl fun h1 l1 hS=>?_))));have hR:=hR.up l1;have hA:=Seg.all hS;have c0:∀ms,Cell h1 ms (⟨g1,0,none⟩:Addr) v:=fun ms=>hA 0 _ rfl ms;have hRo:RdL Hh 3 h1 [] v lo:=YD (by rw[e];exact hR.q);have hlo:lo.length=l.length:=by rw[<-e,length_map]
 refine Au (Qf BW rfl (Ql rfl Bk (c0 _) (Qc call134 rfl (PT lo v h1 hRo (by omega)) (fun r h2 ms2 l2 hF=>?_))));obtain⟨l2',m,o,rfl,hO,hP,hI⟩:=hF;have ovr:=hO.o1;have hol:o.length=l.length:=by rw[hP.length_eq,hlo]
 have hRs:∀a∈o,RdL cD 2 h2 [] a.v a.c.sd/\a.c.sd.length<=1000000:=fun a ha=>by
  have:JS a∈l:=by rw[<-e];exact List.mem_map.2 ⟨a,hP.mem_iff.1 ha,rfl⟩
  exact⟨(hR.s _ this).up l2,hs _ this⟩
 refine Qm rfl (Al (Ac (Au (Qm rfl (Qx (Ar (hO.rd Mh).rd rfl Bk rfl) rfl (Qm rfl (Al (Af ?_))))))))
 refine Ax (fun q sl h' ms'=>∃(i:Nat) (m:Hp) (oi:List CeO),q=o.length-i/\sl=[(2,.pointer (some ⟨g2,0,none⟩)),(3,r),(9,.int .i64 o.length),(10,.int .i64 i)]/\h2.le h'/\ms'=[m,Bi g2 29 [.slice none 0 0]]/\i<=o.length/\OwnL Hh 3 52 m r oi/\StpO o oi i/\∀a∈oi,RdL cD 2 h' [] a.v a.c.sd/\a.c.sd.length<=1000000)
  (o.length-0) _ ⟨0,m,o,rfl,rfl,DU,rfl,by omega,hO,StpO.start o,hRs⟩ Qs ?_
 rintro q sl h3 ms' ⟨i,m,oi,rfl,rfl,l3,rfl,hi,hO,hSt,hRs⟩;have ovr:=hO.o1;have hoil:=hSt.1;refine Au (Qm rfl (Al (Ac ?_)));refine Av rfl (fun hlt=>?_) (fun hlt=>?_)
 ·have hil:i<oi.length:=by omega
  obtain⟨hRi,hRn⟩:=hRs _ (getElem_mem hil);have c2:∀ms,m∈ms->Cell h3 ms (((AF r).add (i*3)).add 2) oi[i].v:=fun ms hm=>(hO.rd hm).cell hil (f:=2) rfl;have ovi:=hRi.rd.one;refine Ag (Ab (Ac (Af (Au (Qm rfl (Qm rfl (Gn (Qm rfl (Qm rfl (Qm rfl (Qm rfl (Qx (AB (i) (hO.rd Mh).rd rfl Bk AH rfl rfl (by omega) (by omega)) rfl (Qf B5 rfl (Ql rfl Cu (c2 _ Mh) (Qc call136 rfl (Pd oi[i].c.sd oi[i].v h3 hRi hRn) (fun rS h4 ms4 l4 hF=>?_))))))))))))))));obtain⟨l4',mS,s,rfl,hOS,hPS,hIS⟩:=hF;refine Bw hOS fun h5 l5 hRS=>?_;have ovS:=hRS.rd.one;refine Qx (AB (i) (hO.rd Mh).rd rfl Bk AH rfl rfl (by omega) (by omega)) rfl (Qf B5 rfl ?_);refine MB 0 i 2 ⟨⟨oi[i].c.id,oi[i].c.dim,s⟩,rS,ovS⟩ [rS] hO rfl SU rfl rfl hRS.rd.cells rfl (fun c hc=>by rw[List.mem_singleton.1 hc];exact ovS) rfl hil (by omega) rfl rfl rfl (fun m' hO'=>?_);refine Aj (Ai (Ab (Ad (Qx (oA rfl) rfl (Qm rfl (Aj ?_))))))
  exact Ak (o.length-(i+1)) _ (by omega) ⟨i+1,m',_,rfl,rfl,AI l3 (AI l4 l5),rfl,by omega,hO',hSt.step hil hPS hIS,fun a ha=>by
   rcases UY ha with rfl|ha
   ·exact⟨hRS,by show s.length<=_;rw[hPS.length_eq];exact hRn⟩
   ·exact⟨(hRs a ha).1.up (AI l4 l5),(hRs a ha).2⟩⟩ Qs
 ·obtain rfl:i=o.length:=by omega
  have hcan:CanO (l.map Ce.c) (oi.map CeO.c):=hSt.can (by rw[<-e,map_map];exact hP.map _) hI;have hOe:=T5 hO
  have hfin:∀a∈oi.map JS,RdL cD 2 h3 [] a.v a.c.sd:=fun a ha=>by obtain⟨b,hb,rfl⟩:=List.mem_map.1 ha;exact(hRs b hb).1
  have hmm:(oi.map JS).map Ce.c=oi.map CeO.c:=by rw[map_map];rfl
  obtain⟨ar,cr,rfl,_⟩:=(hO.rd (h:=h3) (ms:=[m]) Mh).rd.ex;refine As (Aa (Aa (Ae (Ab (Au (Qm rfl (Qx (Bf YE [.slice none 0 0] [(0,_)] [_] rfl AV rfl rfl Qt rfl) rfl ?_)))))));refine Sa 1 [_] AV rfl (by simp[Value.oneCell']) ?_;refine Al (Ao ?_);exact Bs (vs:=[_]) 1 rfl rfl CM rfl AV rfl rfl (⟨AI l1 (AI l2 l3),m,oi.map JS,_,rfl,rfl,hOe,by rw[hmm];exact hcan,hfin⟩)
end Go.Proofs.Q
namespace Go.Proofs.Q
open Go.Proofs.Tryz
open Go.Eng Go.RowKit
def kN(a:Int):Value:=.int .i64 a
theorem A0:ME Tryz.prog 3 kN BC where
 law:=Maps.int_keyed U3
 inj:=fun a b h=>by unfold kN at h;simpa using h
 key:=fun b h=>⟨_,Maps.keyOf_int_mk U3 (WalkArith.wf_i64 h)⟩
def vC(a:Ce):Value:=.agg (cC a).toArray
theorem KX(w:World):(zeroValue 52).run Tryz.prog w=.ok (vC default) w:=by rfl
theorem Fe{a h m:Hp}(hl:a.le h)(hd:h.disj m):a.disj m:=fun g=>by
 rcases hd g with e|e
 ·left
  cases ha:a g with
  | none=>rfl
  | some o=>rw[hl g o ha]at e;cases e
 ·exact .inr e
def OU(U:List Ce)(a:Ce):List Ce:=if a.c.id∈U.map (fun b=>b.c.id) then U else U++[a]
def Pt(A:List Ce):List Ce:=A.foldl OU []
theorem TV{A:List Ce}{i:Nat}(hi:i<A.length):Pt (A.take (i+1))=OU (Pt (A.take i)) A[i]:=by unfold Pt;rw[List.take_succ_eq_append_getElem hi,foldl_append];rfl
theorem JO:∀(A U:List Ce),∀a∈A.foldl OU U,a∈U\/a∈A
 | [],U,a,h=>.inl h
 | b::A,U,a,h=>by
  rcases JO A (OU U b) a h with h|h
  ·unfold OU at h;split at h
   ·exact .inl h
   ·rcases List.mem_append.1 h with h|h
    ·exact .inl h
    ·rw[List.mem_singleton.1 h];exact .inr Mh
  ·exact .inr (mem_cons_of_mem _ h)
theorem QX:∀(A U:List Ce),((U++A).map fun a=>a.c.id).Nodup->A.foldl OU U=U++A
 | [],U,_=>by simp
 | a::A,U,h=>by
  have e:OU U a=U++[a]:=by unfold OU;rw[if_neg];intro hm;rw[map_append,List.nodup_append]at h;exact h.2.2 _ hm _ (by simp) rfl
  rw[List.foldl_cons,e,QX A (U++[a]) (by rwa [append_assoc])];simp
theorem Va{A:List Ce}(h:(A.map fun a=>a.c.id).Nodup):Pt A=A:=by have:=QX A [] (by simpa using h);simpa[Pt] using this
theorem TQ:∀(A U:List Ce),(A.foldl OU U).length<=U.length+A.length
 | [],U=>by simp
 | a::A,U=>by
  have h1:=TQ A (OU U a);have h2:(OU U a).length<=U.length+1:=by unfold OU;split<;>simp
  rw[List.foldl_cons,length_cons];omega
def E5(U:List Ce):List (Int×Ce):=U.map fun a=>(a.c.id,a)
theorem Nn(U:List Ce):(E5 U).map Prod.fst=U.map fun a=>a.c.id:=by unfold E5;rw[map_map];rfl
theorem X9{U:List Ce}{i:Int}{b:Bool}(h:(A9 (E5 U) i).isSome=b):i∈U.map (fun a=>a.c.id)<->b=true:=by
 subst h;rw[<-Nn];constructor
 ·intro hm;cases hg:A9 (E5 U) i with
  | some _=>rfl
  | none=>
   exfalso;unfold A9 at hg;rw[Option.map_eq_none_iff,List.find?_eq_none]at hg;obtain⟨p,hp,e⟩:=List.mem_map.1 hm;have:=hg p hp;simp[e]at this
 ·intro hs;refine Classical.byContradiction fun hm=>?_;rw[CX hm]at hs;cases hs
def RdT(h:Hp)(g:Nat)(U:List Ce):Prop:=∃gm m bs vids,Seg h [] ⟨g,0,none⟩ [.map (some gm),vids]/\Cn kN vC gm BC m (E5 U) bs/\m.le h/\RdL cI 1 h [] vids (U.map fun a=>a.c.id)/\∀a∈U,RdL cD 2 h [] a.v a.c.sd
theorem RdT.up{h h':Hp}{g:Nat}{U:List Ce}(R:RdT h g U)(l:h.le h'):RdT h' g U:=by obtain⟨gm,m,bs,vids,h1,h2,h3,h4,h5⟩:=R;exact⟨gm,m,bs,vids,h1.le l,h2,AI h3 l,h4.up l,fun a ha=>(h5 a ha).up l⟩
structure OfOk(l:List Ce):Prop where
 n:l.length<=1000000
 s:∀a∈l,a.c.sd.length<=1000000
 i:∀a∈l,BC a.c.id
theorem Ys(l:List Ce)(v:Value)(hp:Hp)(hK:OfOk l)(hR:RdC hp v l):FnT Tryz.prog 64 #[.agg #[v]] hp [] (fun r h' ms'=>hp.le h'/\ms'=[]/\∃g A,r=.pointer (some ⟨g,0,none⟩)/\CanO (l.map Ce.c) (A.map Ce.c)/\RdT h' g (Pt A)):=by
 have o1:=hR.q.rd.one;refine Ap func64 ntmps64 rfl rfl (fun w0 hw0=>?_);simp only[AU];refine Au (AX [_] rfl rfl (by rfl) rfl rfl rfl (fun g1=>Qm rfl (Al (AD fun h1 l1 hS=>?_))));have hR:=hR.up l1;have hA:=Seg.all hS;refine BG (Au (Cp (K:=kN) (V:=vC) (Ok:=BC) rfl rfl rfl rfl (fun gm mM hM=>Qx (Bf Aap [.map none,.slice none 0 0] [(0,_)] [_,_] rfl Aan rfl rfl Qt rfl) rfl (AX [_,_] rfl rfl (by rfl) rfl rfl rfl (fun g10=>Qm rfl (Al (Ac (Au (Qx (oG rfl CM AV (Seg.any hS)) rfl (Qc call65 rfl (II l v h1 hK.n hK.s hR) (fun rC h2 ms2 l2 hF=>?_)))))))))));obtain⟨l2',mA,A,vA,rfl,rfl,hOA,hC,hsA⟩:=hF;refine Bw hOA fun h3 l3 hQ=>?_;have hsA:=fun a ha=>(hsA a ha).up l3;have ovA:=hQ.rd.one;have hAl:A.length=l.length:=by have:=hC.len;rwa [length_map,length_map]at this
 have hAn:A.length<=1000000:=by rw[hAl];exact hK.n
 refine Qx (D8 rfl CM rfl Bk rfl rfl rfl) rfl (Qx (Ar hQ.rd.any rfl Bk rfl) rfl (Qm rfl (Al (Af ?_))))
 refine Ax (fun q sl h' ms'=>∃(i:Nat) (vI:Value) (mI mM:Hp) (bs:List Nat),q=A.length-i/\sl=[(3,.pointer (some ⟨g10,0,none⟩)),(13,vA),(14,.int .i64 A.length),(15,.int .i64 i)]/\h3.le h'/\ms'=[Bi g10 115 [.map (some gm),vI],mM,mI]/\i<=A.length/\Cn kN vC gm BC mM (E5 (Pt (A.take i))) bs/\OwnL cI 1 3 mI vI ((Pt (A.take i)).map fun a=>a.c.id))
  (A.length-0) _ ⟨0,_,Hp.emp,mM,[],rfl,rfl,DU,rfl,by omega,hM,OwnL.nil Bl⟩ Qs ?_
 rintro q sl h4 ms' ⟨i,vI,mI,mM,bs,rfl,rfl,l4,rfl,hi,hM,hOI⟩;have hQ:=hQ.up l4;refine Au (Qm rfl (Al (Ac ?_)));refine Av rfl (fun hlt=>?_) (fun hlt=>?_)
 ·have hil:i<A.length:=by omega
  obtain⟨x,hx⟩:∃x,A[i]=x:=⟨_,rfl⟩
  have hxm:x∈A:=by rw[<-hx];exact getElem_mem hil
  have hU:=TV hil;rw[hx]at hU;obtain⟨U,hUe⟩:∃U,Pt (A.take i)=U:=⟨_,rfl⟩
  rw[hUe]at hM hOI hU;have oxv:=(hsA x hxm).rd.one;have hsx:∀ms,Seg h4 ms ((AF vA).add (i*3)) (cC x):=fun ms=>by rw[<-hx];exact(hQ.any (ms:=ms)).seg hil
  have ovI:=hOI.o1;obtain⟨bb,hbb⟩:∃bb,(A9 (E5 U) x.c.id).isSome=bb:=⟨_,rfl⟩
  have hin:=X9 hbb;refine Ag (Ab ?_);refine Bb (fun sl h' ms'=>∃(vI:Value) (mI mM:Hp) (bs:List Nat),sl=[(3,.pointer (some ⟨g10,0,none⟩)),(13,vA),(14,.int .i64 A.length),(15,.int .i64 i)]/\h4.le h'/\ms'=[Bi g10 115 [.map (some gm),vI],mM,mI]/\Cn kN vC gm BC mM (E5 (OU U x)) bs/\OwnL cI 1 3 mI vI ((OU U x).map fun a=>a.c.id)) ?_ (fun s h ms hI=>?_)
  ·refine Af (Au (Qx (BU (i) hQ.rd.any rfl Bk AH rfl rfl) rfl (Qx (oG rfl EL AH (hsx _)) rfl (CN [.int .i64 0,.int .i64 0,.slice none 0 0] rfl AH rfl rfl (fun g5=>?_)))));refine Sa 0 [_,_,_] AH rfl (by simp[o1,ovA,oxv,ovI]) ?_;refine Al (AD fun h5 l5 hS5=>?_);have e5:=Seg.all hS5;have e50:∀ms,Cell h5 ms (⟨g5,0,none⟩:Addr) (.int .i64 x.c.id):=fun ms=>e5 0 _ rfl ms;refine F2 fun h6 l6 lB dB LB=>(F2 fun h7 l7 lM dM LM=>?_)
   have e10:=Seg.all (Seg.ofLe (AI lB l7));have e50':∀ms,Cell h7 ms (⟨g5,0,none⟩:Addr) (.int .i64 x.c.id):=fun ms=>(e50 ms).le (AI l6 l7);have e100:∀ms,Cell h7 ms (⟨g10,0,none⟩:Addr) (.map (some gm)):=fun ms=>e10 0 _ rfl ms
   have hid:BC x.c.id:=by obtain⟨y,hy,e,_⟩:=hC.sim.mem x.c (List.mem_map.2 ⟨x,hxm,rfl⟩);obtain⟨z,hz,rfl⟩:=List.mem_map.1 hy;rw[e];exact hK.i z hz
   obtain⟨y,hy⟩:∃y,(A9 (E5 U) x.c.id).getD default=y:=⟨_,rfl⟩
   have oyv:y.v.oneCell'=true:=by
    rw[<-hy];cases hg:A9 (E5 U) x.c.id with
    | none=>rfl
    | some z=>
     unfold A9 at hg;obtain⟨p,hp,rfl⟩:=Option.map_eq_some_iff.1 hg;obtain⟨a,ha,rfl⟩:=List.mem_map.1 (List.mem_of_find?_eq_some hp);have ha:a∈Pt (A.take i):=by rw[hUe];exact ha
     rcases JO _ _ a ha with h|h
     ·cases h
     ·exact(hsA a (mem_of_mem_take h)).rd.one
   refine Bb (fun sl h' ms'=>∃g6:Nat,sl=[(3,.pointer (some ⟨g10,0,none⟩)),(5,.pointer (some ⟨g5,0,none⟩)),(7,.bool bb),(13,vA),(14,.int .i64 A.length),(15,.int .i64 i)]/\h7=h'/\ms'=[Bi g6 52 (cC y),mI]) ?_ (fun s h ms hI=>?_)
   ·refine BE (n:=13) (bs:=[true,true,true,true,true,true,true,true,true,true,false,false,false]) [true,true,true,true,true,true,true,true,true,true] CY (by kernel_rfl) (by kernel_rfl) rfl rfl (Qq rfl (Qq rfl (QF EF rfl (QL rfl Gm (e100 _) (QF By rfl (QL rfl U3 (e50' _) (Qp rfl (EC (V:=vC) (z:=(default:Ce)) x.c.id hy hbb A0 hM lM rfl Gm KX rfl rfl hid) (Qq rfl (Qq rfl (Qq rfl ?_))))))))));unfold Fy;simp only[cons_append,nil_append];refine Qo 10 rfl (CN [.int .i64 0,.int .i64 0,.slice none 0 0] rfl AH rfl rfl (fun g6=>Qw (Qo 11 rfl ?_)));refine Sa 0 [_,_,_] AH rfl (by simp[o1,ovA,oxv,ovI,oyv]) ?_;refine Qw (Qo 12 rfl (Qm rfl (Qw (Qe ?_))));exact AC _ ⟨g6,rfl,rfl,rfl⟩ Qs
   ·obtain⟨g6,rfl,rfl,rfl⟩:=hI;refine QJ (Fj LM lM fun h8 q8 b8=>?_);have lB8:(Bi g10 115 [.map (some gm),vI]).le h8:=b8 _ (AI lB l7) (Fe lB dM);refine Fj LB lB8 fun h9 q9 b9=>?_;have l59:h5.le h9:=b9 _ (b8 _ (AI l6 l7) (Fe l6 dM)) dB;have l39:h3.le h9:=AI l4 (AI l5 l59);have e50:∀ms,Cell h9 ms (⟨g5,0,none⟩:Addr) (.int .i64 x.c.id):=fun ms=>(e50 ms).le l59;have hS9:=hS5.le l59;refine Au (Qm rfl (Qm rfl (Al ?_)));refine Bu rfl (fun hn=>?_) (fun hn=>?_)
    ·have hbf:bb=false:=by cases bb<;>simp at hn ⊢
     have hni:x.c.id ∉ U.map fun a=>a.c.id:=fun q=>by rw[hin.1 q]at hbf;cases hbf
     have hUU:OU U x=U++[x]:=if_neg hni
     have hset:CC (E5 U) x.c.id x=E5 (U++[x]):=by unfold CC;rw[if_neg (by rw[Nn];exact hni)];unfold E5;rw[map_append];rfl
     have hUl:U.length<=i:=by rw[<-hUe];exact Nat.le_trans (TQ _ []) (by simp;omega)
     rw[hUU];refine Bb (fun sl h' ms'=>∃(mM:Hp) (bs:List Nat),sl=[(3,.pointer (some ⟨g10,0,none⟩)),(5,.pointer (some ⟨g5,0,none⟩)),(13,vA),(14,.int .i64 A.length),(15,.int .i64 i)]/\h9=h'/\ms'=[Bi g10 115 [.map (some gm),vI],mM,mI]/\Cn kN vC gm BC mM (E5 (U++[x])) bs) ?_ (fun s h ms hI=>?_)
     ·refine BE (n:=8) (bs:=[true,true,true,false,true,true,true,false]) [true,true,true,false,true,true,true] CY (by kernel_rfl) (by kernel_rfl) rfl rfl (Qq rfl (Qq rfl (QF EF rfl (QF By rfl (QL rfl U3 (e50 _) (Qp rfl (oG rfl EL AH (Seg.any hS9)) ?_))))));unfold Fy;simp only[cons_append,nil_append];refine Qo 3 rfl (Ql rfl Gm (Cell.blk 0 rfl rfl) (Qw (Qo 7 rfl (Bv (V:=vC) (z:=undef) 1 x.c.id x A0 hM rfl rfl Gm rfl rfl rfl hid rfl rfl (fun mM' bs' hM'=>Qw (Qe ?_))))));rw[hset]at hM';exact AC _ ⟨mM',bs',rfl,rfl,rfl,hM'⟩ Qs
     ·obtain⟨mM,bs,rfl,rfl,rfl,hM⟩:=hI;refine BE (n:=12) (bs:=[true,true,true,true,false,true,true,false,false,true,true,false]) [true,true,true,true,false,true,true,false,false,true,true] CY (by kernel_rfl) (by kernel_rfl) rfl rfl (Qq rfl (Qq rfl (Qq rfl (QF Ms rfl (QF By rfl (QL rfl U3 (e50 _) (Qq rfl (QF Ms rfl ?_))))))));unfold Fy;simp only[cons_append,nil_append];refine A5 [4,7] (by kernel_rfl) rfl ?_;refine Ay rfl ?_ ?_
      ·refine Ql rfl AR (Cell.blk 0 rfl rfl) (Qw (Qo 7 rfl (An [_] rfl AR Be rfl (by rfl) rfl rfl (by omega) rfl rfl rfl (fun g45=>Qw (Qo 8 rfl (AQ 3 hOI (RdL.one Bl (x:=x.c.id) Mh rfl) rfl AR Be rfl (by omega) rfl rfl rfl Cm (by(try simp only[length_singleton,length_map]);omega) (by(try simp only[length_singleton,length_map]);omega) rfl rfl rfl (fun vI2 mI2 hOI2=>?_)))))));have ovI2:=hOI2.o1;refine Qw (Qo 11 rfl ?_);refine AK 1 _ rfl Cb rfl rfl (by assumption) rfl rfl (by(simp;done)) rfl rfl ?_;refine Qw (Qe ?_);rw[show(U.map fun a=>a.c.id)++[x.c.id]=(U++[x]).map fun a=>a.c.id by rw[map_append];rfl]at hOI2;refine AL (Ai ?_);exact AC _ ⟨vI2,mI2,mM,bs,rfl,AI l5 l59,rfl,hM,hOI2⟩ Qs
      refine Ay rfl ?_ ?_
      ·refine An [_] rfl AR Be rfl (by rfl) rfl rfl (by omega) rfl rfl rfl (fun g45=>Qw (Qo 4 rfl (Ql rfl AR (Cell.blk 1 rfl rfl) (Qw (Qo 8 rfl (AQ 3 hOI (RdL.one Bl (x:=x.c.id) Mh rfl) rfl AR Be rfl (by omega) rfl rfl rfl Cm (by(try simp only[length_singleton,length_map]);omega) (by(try simp only[length_singleton,length_map]);omega) rfl rfl rfl (fun vI2 mI2 hOI2=>?_)))))));have ovI2:=hOI2.o1;refine Qw (Qo 11 rfl ?_);refine AK 1 _ rfl Cb rfl rfl (by assumption) rfl rfl (by(simp;done)) rfl rfl ?_;refine Qw (Qe ?_);rw[show(U.map fun a=>a.c.id)++[x.c.id]=(U++[x]).map fun a=>a.c.id by rw[map_append];rfl]at hOI2;refine AL (Ai ?_);exact AC _ ⟨vI2,mI2,mM,bs,rfl,AI l5 l59,rfl,hM,hOI2⟩ Qs
      exact A4
    ·have hbt:bb=true:=by cases bb<;>simp at hn ⊢
     have hUU:OU U x=U:=if_pos (hin.2 hbt);rw[hUU];refine Ag (Ai ?_);exact AC _ ⟨vI,mI,mM,bs,rfl,AI l5 l59,rfl,hM,hOI⟩ Qs
  ·obtain⟨vI,mI,mM,bs,rfl,k9,rfl,hM,hOI⟩:=hI;refine Ad (Qx (oA rfl) rfl (Qm rfl (Aj ?_)));exact Ak (A.length-(i+1)) _ (by omega) ⟨i+1,vI,mI,mM,bs,rfl,rfl,AI l4 k9,rfl,by omega,by rw[hU];exact hM,by rw[hU];exact hOI⟩ Qs
 ·obtain rfl:i=A.length:=by omega
  rw[take_length]at hM hOI;refine As (Aa (Aa (Ae (Ab (Au (Qm rfl (Qm rfl (Al (Ao (HD fun h5 l5 k5=>(HD fun h6 l6 k6=>(HD fun h7 l7 k7=>?_))))))))))))
  have hT:RdT h7 g10 (Pt A):=⟨gm,mM,bs,vI,Seg.ofLe (AI k5 (AI l6 l7)),hM,AI k6 l7,hOI.rdh k7,fun a ha=>by
   rcases JO _ _ a ha with h|h
   ·cases h
   ·exact(hsA a h).up (AI l4 (AI l5 (AI l6 l7)))⟩
  exact Az rfl rfl (⟨AI l1 (AI l2 (AI l3 (AI l4 (AI l5 (AI l6 l7))))),rfl,g10,A,rfl,hC,hT⟩)
end Go.Proofs.Q
namespace Go.Proofs.Q
open Go.Eng Go.RowKit
variable {gM:Nat} {mM:Hp}
def Lc(v:Value):Value:=v
structure OwnMS(gM:Nat)(mM mB:Hp)(T:List (Int×List Int)):Prop where
 ex:∃(Tv:List (Int×Value)) (bs:List Nat),Cn kN Lc gM BC mM Tv bs/\Tv.map Prod.fst=T.map Prod.fst/\Bag T.length (fun l m=>∃p,Tv[l]?=some p/\OwnL cI 1 3 m p.2 ((T.map Prod.snd).getD l [])) mB
theorem OwnMS.start(O:Cn kN Lc gM BC mM ([]:List (Int×Value)) []):OwnMS gM mM Hp.emp []:=⟨[],[],O,rfl,Bag.zero _⟩
theorem Gz{ν:Type}{T:List (Int×ν)}{a:Int}(h:a∈T.map Prod.fst):∃(l:Nat) (x:ν),T[l]?=some (a,x):=by obtain⟨p,hp,rfl⟩:=List.mem_map.1 h;obtain⟨l,hl,e⟩:=getElem_of_mem hp;exact⟨l,p.2,by rw[List.getElem?_eq_getElem hl,e]⟩
theorem Ln{ν μ:Type}{T:List (Int×ν)}{T':List (Int×μ)}(h:T'.map Prod.fst=T.map Prod.fst){l:Nat}{a:Int}{x:ν}(e:T[l]?=some (a,x)):∃y,T'[l]?=some (a,y):=by
 have h1:(T'.map Prod.fst)[l]?=(T.map Prod.fst)[l]?:=by rw[h]
 rw[List.getElem?_map,List.getElem?_map,e]at h1;cases h2:T'[l]? with
 | none=>rw[h2]at h1;cases h1
 | some p=>
  rw[h2]at h1;have:p.1=a:=Option.some.inj h1;exact⟨p.2,by rw[<-this]⟩
theorem OwnMS.open{mB:Hp}{T:List (Int×List Int)}(M:OwnMS gM mM mB T)(a:Int):∃(Tv:List (Int×Value)) (bs:List Nat) (v:Value) (m1 m2:Hp),Cn kN Lc gM BC mM Tv bs/\(A9 Tv a).getD (.slice none 0 0)=v/\mB=m1.join m2/\m1.disj m2/\OwnL cI 1 3 m1 v ((A9 T a).getD []) ∧
  ∀v' L' m1' mM' bs',m1'.disj m2->OwnL cI 1 3 m1' v' L'->Cn kN Lc gM BC mM' (CC Tv a v') bs'->OwnMS gM mM' (m1'.join m2) (CC T a L'):=by
 obtain⟨Tv,bs,hO,hK,hB⟩:=M.ex;have hnd:(T.map Prod.fst).Nodup:=by rw[<-hK];exact hO.keys
 have hlen:Tv.length=T.length:=by have:=congrArg List.length hK;simpa using this
 by_cases ha:a∈T.map Prod.fst
 ·obtain⟨l,L,hl⟩:=Gz ha;obtain⟨v,hv⟩:=Ln hK hl;have hlT:l<T.length:=(List.getElem?_eq_some_iff.1 hl).1;obtain⟨m1,m2,e,hd,⟨p,hp,hO1⟩,hrest,hclose⟩:=hB.open hlT;have hpv:p=(a,v):=by rw[hv]at hp;exact(Option.some.inj hp).symm
  subst hpv;have hL:(T.map Prod.snd).getD l []=L:=by simp[List.getD,hl]
  rw[hL]at hO1;refine⟨Tv,bs,v,m1,m2,hO,by rw[DI hO.keys hv];rfl,e,hd,by rw[DI hnd hl];exact hO1,fun v' L' m1' mM' bs' hd' hO' hM'=>?_⟩;rw[Ij hO.keys hv]at hM';rw[Ij hnd hl];refine⟨_,bs',hM',by rw[List.map_set,List.map_set,hK],?_⟩;rw[length_set];have hlv:l<Tv.length:=by omega
  refine hclose _ m1' hd' ⟨(a,v'),by rw[List.getElem?_set_self hlv],?_⟩ fun k hk hne x hx=>?_
  ·have:((T.set l (a,L')).map Prod.snd).getD l []=L':=by simp[List.getD,hlT]
   rw[this];exact hO'
  ·obtain⟨p,hp,hx⟩:=hx;refine⟨p,by rw[List.getElem?_set_ne (Ne.symm hne)];exact hp,?_⟩
   have:((T.set l (a,L')).map Prod.snd).getD k []=(T.map Prod.snd).getD k []:=by rw[List.map_set];simp only[List.getD_eq_getElem?_getD];rw[List.getElem?_set_ne (Ne.symm hne)]
   rw[this];exact hx
 ·have haV:a ∉ Tv.map Prod.fst:=by rw[hK];exact ha
  refine⟨Tv,bs,.slice none 0 0,Hp.emp,mB,hO,by rw[CX haV];rfl,(Hp.emp_join mB).symm,fun g=>.inl rfl,by rw[CX ha];exact OwnL.nil Bl,fun v' L' m1' mM' bs' hd' hO' hM'=>?_⟩;have e1:CC Tv a v'=Tv++[(a,v')]:=if_neg haV;have e2:CC T a L'=T++[(a,L')]:=if_neg ha;rw[e1]at hM';rw[e2,Hp.join_comm hd'];refine⟨_,bs',hM',by rw[map_append,map_append,hK];rfl,?_⟩;rw[length_append];refine Bag.snoc (hB.mono fun l hl x hx=>?_) ⟨(a,v'),by rw[<-hlen];simp,?_⟩ (Hp.disj_symm hd')
  ·obtain⟨p,hp,hx⟩:=hx;refine⟨p,by rw[List.getElem?_append_left (by omega)];exact hp,?_⟩
   have:((T++[(a,L')]).map Prod.snd).getD l []=(T.map Prod.snd).getD l []:=by rw[map_append];simp only[List.getD_eq_getElem?_getD];rw[List.getElem?_append_left (by simpa using hl)]
   rw[this];exact hx
  ·have:((T++[(a,L')]).map Prod.snd).getD T.length []=L':=by simp[List.getD]
   rw[this];exact hO'
theorem OwnMS.look{mB h:Hp}{T:List (Int×List Int)}(M:OwnMS gM mM mB T)(hB:mB.le h):∃(Tv:List (Int×Value)) (bs:List Nat),Cn kN Lc gM BC mM Tv bs/\Tv.map Prod.fst=T.map Prod.fst/\(∀l (h1:l<Tv.length) (h2:l<T.length),Tv[l].1=T[l].1/\RdL cI 1 h [] Tv[l].2 T[l].2)/\∀a,RdL cI 1 h [] ((A9 Tv a).getD (.slice none 0 0)) ((A9 T a).getD []):=by
 obtain⟨Tv,bs,hO,hK,hG⟩:=M.ex;have hnd:(T.map Prod.fst).Nodup:=by rw[<-hK];exact hO.keys
 have hat:∀l (h1:l<Tv.length) (h2:l<T.length),Tv[l].1=T[l].1/\RdL cI 1 h [] Tv[l].2 T[l].2:=fun l h1 h2=>by
  obtain⟨x,hx,p,hp,hO1⟩:=hG.all l h2;rw[List.getElem?_eq_getElem h1]at hp;have:=Option.some.inj hp;subst this;have h3:(Tv.map Prod.fst)[l]?=(T.map Prod.fst)[l]?:=by rw[hK]
  rw[List.getElem?_map,List.getElem?_map,List.getElem?_eq_getElem h1,List.getElem?_eq_getElem h2]at h3;refine⟨Option.some.inj h3,?_⟩;have h4:(T.map Prod.snd).getD l []=T[l].2:=by simp[List.getD,h2]
  rw[h4]at hO1;exact hO1.rdh (AI hx hB)
 refine⟨Tv,bs,hO,hK,hat,fun a=>?_⟩;by_cases ha:a∈T.map Prod.fst
 ·obtain⟨l,L,hl⟩:=Gz ha;obtain⟨v,hv⟩:=Ln hK hl;rw[DI hO.keys hv,DI hnd hl];obtain⟨h1,e1⟩:=List.getElem?_eq_some_iff.1 hv;obtain⟨h2,e2⟩:=List.getElem?_eq_some_iff.1 hl;have:=(hat l h1 h2).2;rw[e1,e2]at this;exact this
 ·rw[CX ha,CX (by rw[hK];exact ha)];exact⟨Rd.nil _ _ _,Bl⟩
end Go.Proofs.Q
namespace Go.Proofs.Q
open Go.Proofs.Tryz
open Go.Eng Go.RowKit
def G8(U:List Cl)(x:Cl)(i:Nat):Prop:=(OQ U (Bx x i).1).isSome=false\/(FS U (Bx x i).1).dim≠x.dim-1\/(0<i/\(Bx x (i-1)).1=(Bx x i).1)
instance (U:List Cl) (x:Cl) (i:Nat):Decidable (G8 U x i):=by unfold G8;infer_instance
def V8(x:Cl)(i:Nat):Int:=((x.sd.take i).map Prod.snd).sum
theorem Vn{x:Cl}{i:Nat}(h:i<x.sd.length):V8 x (i+1)=V8 x i+x.sd[i].2:=by unfold V8;rw[List.take_succ_eq_append_getElem h,map_append,List.sum_append];simp
def DB(U:List Cl)(x:Cl):Int:=
 if x.dim<0\/8<x.dim then 21
 else if Cj x then 22
 else if ¬∀i,i<x.sd.length->¬G8 U x i then 22
 else if ¬∀i,i<x.sd.length->¬B9 x i then 23
 else if x.dim=1/\V8 x x.sd.length≠0 then 23 else 0
theorem Qv(U:List Ce)(c:Int):(A9 (E5 U) c).map Ce.c=OQ (U.map Ce.c) c:=by unfold A9 E5 OQ;rw[List.find?_map,List.find?_map,Option.map_map,Option.map_map];rfl
theorem Iz(U:List Ce)(c:Int):((A9 (E5 U) c).getD default).c=FS (U.map Ce.c) c:=by unfold FS;rw[<-Qv];cases A9 (E5 U) c<;>rfl
theorem Ox(U:List Ce)(c:Int):(A9 (E5 U) c).isSome=(OQ (U.map Ce.c) c).isSome:=by rw[<-Qv];cases A9 (E5 U) c<;>rfl
theorem Rb{U:List Ce}{c:Int}{y:Ce}(h:A9 (E5 U) c=some y):y∈U:=by unfold A9 at h;obtain⟨p,hp,rfl⟩:=Option.map_eq_some_iff.1 h;obtain⟨a,ha,rfl⟩:=List.mem_map.1 (List.mem_of_find?_eq_some hp);exact ha
theorem O7{h:Hp}{U:List Ce}(hs:∀a∈U,RdL cD 2 h [] a.v a.c.sd)(c:Int):RdL cD 2 h [] ((A9 (E5 U) c).getD default).v ((A9 (E5 U) c).getD default).c.sd:=by
 cases hg:A9 (E5 U) c with
 | none=>exact⟨Rd.nil _ _ _,D6⟩
 | some y=>exact hs y (Rb hg)
theorem Wj(U:List Ce)(x:Ce)(g:Nat)(hp:Hp)(hT:RdT hp g U)(hX:RdL cD 2 hp [] x.v x.c.sd)(hd:BC x.c.dim)(hn:x.c.sd.length<=1000000)(hi:∀s∈x.c.sd,BC s.1/\BC s.2):FnT Tryz.prog 76 #[.pointer (some ⟨g,0,none⟩),.agg (cC x).toArray] hp [] (fun r _ _=>r=.int .i64 (DB (U.map Ce.c) x.c)):=by
 have o2:=hX.rd.one;show FnT _ _ #[.pointer (some ⟨g,0,none⟩),.agg #[.int .i64 x.c.id,.int .i64 x.c.dim,x.v]] _ _ _;refine Ap func76 ntmps76 rfl rfl (fun w0 hw0=>?_);simp only[AU];refine Au (AX [_,_,_] rfl rfl (by rfl) rfl rfl rfl (fun g3=>Qm rfl (Al (AD fun h1 l1 hS=>?_))));have hT:=hT.up l1;have hX:=hX.up l1;have hA:=Seg.all hS;have a0:∀ms,Cell h1 ms (⟨g3,0,none⟩:Addr) (.int .i64 x.c.id):=fun ms=>hA 0 _ rfl ms;have a1:∀ms,Cell h1 ms (⟨g3,1,none⟩:Addr) (.int .i64 x.c.dim):=fun ms=>hA 1 _ rfl ms;have a2:∀ms,Cell h1 ms (⟨g3,2,none⟩:Addr) x.v:=fun ms=>hA 2 _ rfl ms;have hd1:=hd.1;have hd2:=hd.2;refine Au (Qf B5 rfl (Ql rfl Cu (a2 _) (Qx (Ar hX.rd.any rfl Cu rfl) rfl (Qm rfl (Al ?_)))));refine Bb (fun sl h' ms'=>sl=[(0,.pointer (some ⟨g,0,none⟩)),(3,.pointer (some ⟨g3,0,none⟩))]/\h1=h'/\ms'=[]/\(0<=x.c.dim/\x.c.dim<=8)/\¬Cj x.c) ?_ (fun s h ms hI=>?_)
 ·refine Af (Au (Qf Cw rfl (Ql rfl U3 (a1 _) (Qm rfl (Qm rfl ?_)))));refine AS (t:=20) rfl (fun q1=>?_) (fun q1=>?_)
  ·refine Qk rfl (Qk rfl (Qk rfl (Qm rfl (Qm rfl (Al (B3 rfl (Au (Qm rfl (Al (Ao (Am (Ah ?_))))))))))));exact Az rfl rfl (by unfold DB;rw[if_pos (.inl q1)])
  ·refine Qg (oF Cw rfl) rfl (Qg (oL rfl U3 (a1 _)) rfl (Qg (CK rfl rfl rfl) rfl (Qm rfl (Qm rfl (Al ?_)))));refine Av rfl (fun q2=>?_) (fun q2=>?_)
   ·refine Ac (Ad (Qm rfl (Al (Ao (Am (Ah ?_))))));exact Az rfl rfl (by unfold DB;rw[if_pos (.inr q2)])
   ·have hdb:0<=x.c.dim/\x.c.dim<=8:=by omega
    have e21:¬(x.c.dim<0\/8<x.c.dim):=by omega
    have e22:Cj x.c->DB (U.map Ce.c) x.c=22:=fun h=>by unfold DB;rw[if_neg e21,if_pos h]
    refine Au (Qf Cw rfl (Ql rfl U3 (a1 _) (Qm rfl (Qm rfl ?_))));refine AS (t:=29) rfl (fun r0=>?_) (fun r0=>?_)
    ·refine Qg (AA rfl rfl) rfl (Qg (CK rfl rfl rfl) rfl (Qm rfl (Qm rfl ?_)));refine AS (t:=33) rfl (fun r1=>?_) (fun r1=>?_)
     ·refine Qk rfl (Qk rfl (Qk rfl (Qk rfl (BN rfl rfl rfl rfl rfl rfl (BN rfl rfl rfl rfl rfl rfl (Qk rfl (Qm rfl (Qm rfl (Qk rfl (Qk rfl (Qk rfl (Qk rfl (BN rfl rfl rfl rfl rfl rfl (BN rfl rfl rfl rfl rfl rfl (BN rfl rfl rfl rfl rfl rfl (BN rfl rfl rfl rfl rfl rfl (BN rfl rfl rfl rfl rfl rfl (BN rfl rfl rfl rfl rfl rfl (Qk rfl (Qm rfl (Qm rfl (Al (B3 rfl (Au (Qm rfl (Al (Ao (Am (Ah ?_)))))))))))))))))))))))))))));exact Az rfl rfl (by rw[e22 (.inl ⟨r0,by omega⟩)])
     ·refine Qg (oF Cw rfl) rfl (Qg (oL rfl U3 (a1 _)) rfl (Qg (Du rfl rfl rfl) rfl (Qg (AA rfl rfl) rfl (AS (t:=37) rfl (fun hs=>absurd hs (by omega)) (fun hs=>Qk rfl (Qk rfl (Qg (DA rfl rfl rfl) rfl (Qm rfl (Qm rfl (Qg (oF Cw rfl) rfl (Qg (oL rfl U3 (a1 _)) rfl (Qg (CK rfl rfl rfl) rfl (Qg (AA rfl rfl) rfl (AS (t:=46) rfl (fun hs=>absurd hs (by omega)) (fun hs=>Qk rfl (Qk rfl (Qk rfl (BN rfl rfl rfl rfl rfl rfl (BN rfl rfl rfl rfl rfl rfl (Qk rfl (Qg (DA rfl rfl rfl) rfl (Qm rfl (Qm rfl (Al (AM rfl (Ag (Ai ?_)))))))))))))))))))))))))));exact AC _ ⟨rfl,rfl,rfl,hdb,fun q=>by unfold Cj at q;omega⟩ Qs
    ·refine Qk rfl (Qk rfl (Qm rfl (Qm rfl (Qg (oF Cw rfl) rfl (Qg (oL rfl U3 (a1 _)) rfl (Qg (Du rfl rfl rfl) rfl (Qg (AA rfl rfl) rfl ?_)))))));refine AS (t:=37) rfl (fun r2=>?_) (fun r2=>?_)
     ·refine Qg (AA rfl rfl) rfl (Qg (DK rfl rfl rfl) rfl (Qg (Ed rfl rfl rfl) rfl (Qm rfl (Qm rfl ?_))));refine AS (t:=42) rfl (fun r3=>?_) (fun r3=>?_)
      ·refine Qk rfl (Qk rfl (Qk rfl (Qk rfl (BN rfl rfl rfl rfl rfl rfl (BN rfl rfl rfl rfl rfl rfl (BN rfl rfl rfl rfl rfl rfl (BN rfl rfl rfl rfl rfl rfl (BN rfl rfl rfl rfl rfl rfl (BN rfl rfl rfl rfl rfl rfl (Qk rfl (Qm rfl (Qm rfl (Al (B3 rfl (Au (Qm rfl (Al (Ao (Am (Ah ?_))))))))))))))))))));exact Az rfl rfl (by rw[e22 (.inr (.inl ⟨r2,by omega⟩))])
      ·refine Qg (oF Cw rfl) rfl (Qg (oL rfl U3 (a1 _)) rfl (Qg (CK rfl rfl rfl) rfl (Qg (AA rfl rfl) rfl (AS (t:=46) rfl (fun hs=>absurd hs (by omega)) (fun hs=>Qk rfl (Qk rfl (Qk rfl (BN rfl rfl rfl rfl rfl rfl (BN rfl rfl rfl rfl rfl rfl (Qk rfl (Qg (DA rfl rfl rfl) rfl (Qm rfl (Qm rfl (Al (AM rfl (Ag (Ai ?_)))))))))))))))));exact AC _ ⟨rfl,rfl,rfl,hdb,fun q=>by unfold Cj at q;omega⟩ Qs
     ·refine Qk rfl (Qk rfl (Qg (DA rfl rfl rfl) rfl (Qm rfl (Qm rfl (Qg (oF Cw rfl) rfl (Qg (oL rfl U3 (a1 _)) rfl (Qg (CK rfl rfl rfl) rfl (Qg (AA rfl rfl) rfl ?_))))))));refine AS (t:=46) rfl (fun hs=>?_) (fun hs=>absurd (by omega) hs);refine Qg (AA rfl rfl) rfl (Qg (CZ rfl rfl rfl) rfl (Qg (AA rfl rfl) rfl ?_));refine AS (t:=49) rfl (fun r4=>?_) (fun r4=>?_)
      ·refine Qk rfl (Qk rfl (Qg (Ed rfl rfl rfl) rfl (Qg (Ed rfl rfl rfl) rfl (Qm rfl (Qm rfl (Al (B3 rfl (Au (Qm rfl (Al (Ao (Am (Ah ?_)))))))))))));exact Az rfl rfl (by rw[e22 (.inr (.inr ⟨by omega,by omega⟩))])
      ·refine Qg (AA rfl rfl) rfl (Qg (CK rfl rfl rfl) rfl (Qg (DA rfl rfl rfl) rfl (Qg (Ed rfl rfl rfl) rfl (Qm rfl (Qm rfl (Al ?_))))));refine Av rfl (fun r5=>?_) (fun r5=>?_)
       ·refine Ac (Ad (Qm rfl (Al (Ao (Am (Ah ?_))))));exact Az rfl rfl (by rw[e22 (.inr (.inr ⟨by omega,by omega⟩))])
       ·refine Ag (Ai ?_);exact AC _ ⟨rfl,rfl,rfl,hdb,fun q=>by unfold Cj at q;omega⟩ Qs
 ·obtain⟨rfl,rfl,rfl,hdb,hnb⟩:=hI;have e21:¬(x.c.dim<0\/8<x.c.dim):=by omega
  have e22:∀i,i<x.c.sd.length->G8 (U.map Ce.c) x.c i->DB (U.map Ce.c) x.c=22:=fun i h q=>by unfold DB;rw[if_neg e21,if_neg hnb,if_pos fun w=>w i h q]
  obtain⟨gm,mM,bs,vids,hSg,hM,lm,hV,hsU⟩:=hT;refine Bb (fun sl h' ms'=>sl=[(0,.pointer (some ⟨g,0,none⟩)),(3,.pointer (some ⟨g3,0,none⟩))]/\h1.le h'/\ms'=[]/\∀i,i<x.c.sd.length->¬G8 (U.map Ce.c) x.c i) ?_ (fun s h ms hI=>?_)
  ·refine Ac (Ad (Qf B5 rfl (Ql rfl Cu (a2 _) (Qx (Ar hX.rd.any rfl Cu rfl) rfl (Qm rfl (Al (Af ?_)))))))
   refine Ax (fun q sl h' ms'=>∃(i:Nat),q=x.c.sd.length-i/\sl=[(0,.pointer (some ⟨g,0,none⟩)),(3,.pointer (some ⟨g3,0,none⟩)),(56,x.v),(57,.int .i64 x.c.sd.length),(58,.int .i64 i)]/\h1.le h'/\ms'=[]/\i<=x.c.sd.length/\∀j,j<i->¬G8 (U.map Ce.c) x.c j)
    (x.c.sd.length-0) _ ⟨0,rfl,rfl,DU,rfl,by omega,fun j h=>by omega⟩ Qs ?_
   rintro q sl h2 ms' ⟨i,rfl,rfl,l2,rfl,hil,hno⟩;have hX:=hX.up l2;refine Au (Qm rfl (Al (Ac ?_)));refine Av rfl (fun hlt=>?_) (fun hlt=>?_)
   ·have hil:i<x.c.sd.length:=by omega
    obtain⟨s,hs⟩:∃s,x.c.sd[i]=s:=⟨_,rfl⟩
    have hsA:Bx x.c i=s:=by rw[Bp hil,hs]
    have hsI:=hi s (by rw[<-hs];exact getElem_mem hil);have hsx:∀ms,Seg h2 ms ((AF x.v).add (i*2)) (cD s):=fun ms=>by rw[<-hs];exact(hX.any (ms:=ms)).seg hil
    refine Ag (Ab (Ac (Af (Au (Qm rfl (Qx (BU (i) hX.rd.any rfl Cu AJ rfl rfl) rfl (Qx (oG rfl DE AJ (hsx _)) rfl (CN [.int .i64 0,.int .i64 0] rfl AJ rfl rfl (fun g7=>Qm rfl ?_)))))))));refine Sa 0 [_,_] AJ rfl (by simp[Value.oneCell']) ?_;refine Al (AD fun h3 l3 hS7=>?_);have hX:=hX.up l3;have l13:=AI l2 l3;have e7:=Seg.all hS7;have e70:∀ms,Cell h3 ms (⟨g7,0,none⟩:Addr) (.int .i64 s.1):=fun ms=>e7 0 _ rfl ms;have eT:∀ms,Cell h3 ms (⟨g,0,none⟩:Addr) (.map (some gm)):=fun ms=>(Seg.all hSg 0 _ rfl ms).le l13;obtain⟨bb,hbb⟩:∃bb,(A9 (E5 U) s.1).isSome=bb:=⟨_,rfl⟩
    obtain⟨y,hy⟩:∃y,(A9 (E5 U) s.1).getD default=y:=⟨_,rfl⟩
    have hyr:=O7 hsU s.1;rw[hy]at hyr;have oyv:=hyr.rd.one;have hbb':(OQ (U.map Ce.c) s.1).isSome=bb:=by rw[<-Ox];exact hbb
    have hyc:FS (U.map Ce.c) s.1=y.c:=by rw[<-Iz,hy]
    refine Bb (fun sl h' ms'=>∃g8:Nat,sl=[(0,.pointer (some ⟨g,0,none⟩)),(3,.pointer (some ⟨g3,0,none⟩)),(6,.int .i64 i),(7,.pointer (some ⟨g7,0,none⟩)),(8,.pointer (some ⟨g8,0,none⟩)),(9,.bool bb),(56,x.v),(57,.int .i64 x.c.sd.length),(58,.int .i64 i)]/\h3=h'/\ms'=[Bi g8 52 (cC y)]) ?_ (fun s h ms hI=>?_)
    ·refine BE (n:=13) (bs:=[true,true,true,true,true,true,true,true,true,true,false,false,false]) [true,true,true,true,true,true,true,true,true,true] CY (by kernel_rfl) (by kernel_rfl) rfl rfl (Qq rfl (Qq rfl (QF EF rfl (QL rfl Gm (eT _) (QF Cy rfl (QL rfl U3 (e70 _) (Qp rfl (EC (V:=vC) (z:=(default:Ce)) s.1 hy hbb A0 hM (AI lm l13) rfl Gm KX rfl rfl hsI.1) (Qq rfl (Qq rfl (Qq rfl ?_))))))))));unfold Fy;simp only[cons_append,nil_append];refine Qo 10 rfl (CN [.int .i64 0,.int .i64 0,.slice none 0 0] rfl AH rfl rfl (fun g8=>Qw (Qo 11 rfl ?_)));refine Sa 0 [_,_,_] AH rfl (by simp[o2,oyv]) ?_;refine Qw (Qo 12 rfl (Qm rfl (Qw (Qe ?_))));exact AC _ ⟨g8,rfl,rfl,rfl⟩ Qs
    ·obtain⟨g8,rfl,rfl,rfl⟩:=hI;refine AD fun h4 l4 hS8=>?_;have hX:=hX.up l4;have e70:∀ms,Cell h4 ms (⟨g7,0,none⟩:Addr) (.int .i64 s.1):=fun ms=>(e70 ms).le l4;have e81:∀ms,Cell h4 ms (⟨g8,1,none⟩:Addr) (.int .i64 y.c.dim):=fun ms=>Seg.all hS8 1 _ rfl ms;have l14:=AI l13 l4;have b1:∀ms,Cell h4 ms (⟨g3,1,none⟩:Addr) (.int .i64 x.c.dim):=fun ms=>(a1 ms).le l14;have b2:∀ms,Cell h4 ms (⟨g3,2,none⟩:Addr) x.v:=fun ms=>(a2 ms).le l14
     have hbad:G8 (U.map Ce.c) x.c i<->bb=false\/y.c.dim≠x.c.dim-1\/(0<i/\(Bx x.c (i-1)).1=s.1):=by unfold G8;rw[hsA,hbb',hyc]
     have hstep:¬G8 (U.map Ce.c) x.c i->∀j,j<i+1->¬G8 (U.map Ce.c) x.c j:=fun h j hj=>by
      rcases (by omega:j<i\/j=i) with h1|rfl
      ·exact hno j h1
      ·exact h
     refine Ac (Bg 23 CY (by kernel_rfl) rfl (Wm rfl (Wm rfl (Wm rfl ?_))));refine R7 (t:=75) rfl (fun c1=>?_) (fun c1=>?_)
     ·have hbf:bb=false:=by cases bb<;>simp at c1 ⊢
      refine AG rfl rfl rfl rfl rfl (AG rfl rfl rfl rfl rfl (AG rfl rfl rfl rfl rfl (AG rfl rfl rfl rfl rfl (AG rfl rfl rfl rfl rfl (AG rfl rfl rfl rfl rfl (Wm rfl (Wm rfl (AG rfl rfl rfl rfl rfl (AG rfl rfl rfl rfl rfl (AG rfl rfl rfl rfl rfl (B0 rfl rfl rfl rfl (B0 rfl rfl rfl rfl (B0 rfl rfl rfl rfl (B0 rfl rfl rfl rfl (B0 rfl rfl rfl rfl (B0 rfl rfl rfl rfl (B0 rfl rfl rfl rfl (B0 rfl rfl rfl rfl (B0 rfl rfl rfl rfl (Bc (BN rfl rfl rfl rfl rfl rfl (Qk rfl (Qm rfl (Al (B3 rfl (Au (Qm rfl (Al (Ao (Am (Ah (Ah (Am (Ah ?_))))))))))))))))))))))))))))))))));exact Az rfl rfl (by rw[e22 i hil (hbad.2 (.inl hbf))])
     ·have hbt:bb=true:=by cases bb<;>simp at c1 ⊢
      refine AN (oF Cw rfl) rfl rfl rfl rfl (AN (oL rfl U3 (e81 _)) rfl rfl rfl rfl (AN (oF Cw rfl) rfl rfl rfl rfl (AN (oL rfl U3 (b1 _)) rfl rfl rfl rfl (AN (oS rfl) rfl rfl rfl rfl (AN (DK rfl rfl rfl) rfl rfl rfl rfl (Wm rfl (Wm rfl ?_)))))));refine Dm (t:=83) rfl (fun c2=>?_) (fun c2=>?_)
      ·refine AG rfl rfl rfl rfl rfl (AG rfl rfl rfl rfl rfl (AG rfl rfl rfl rfl rfl (B0 rfl rfl rfl rfl (B0 rfl rfl rfl rfl (B0 rfl rfl rfl rfl (B0 rfl rfl rfl rfl (B0 rfl rfl rfl rfl (B0 rfl rfl rfl rfl (B0 rfl rfl rfl rfl (B0 rfl rfl rfl rfl (B0 rfl rfl rfl rfl (Bc (BN rfl rfl rfl rfl rfl rfl (Qk rfl (Qm rfl (Al (B3 rfl (Au (Qm rfl (Al (Ao (Am (Ah (Ah (Am (Ah ?_))))))))))))))))))))))))));exact Az rfl rfl (by rw[e22 i hil (hbad.2 (.inr (.inl c2)))])
      ·refine AN (AA rfl rfl) rfl rfl rfl rfl (AN (CK rfl rfl rfl) rfl rfl rfl rfl (AN (AA rfl rfl) rfl rfl rfl rfl ?_));refine Dm (t:=86) rfl (fun c3=>?_) (fun c3=>?_)
       ·have hi1:i-1<x.c.sd.length:=by omega
        obtain⟨s',hs'⟩:∃s',x.c.sd[i-1]=s':=⟨_,rfl⟩
        have hsA':Bx x.c (i-1)=s':=by rw[Bp hi1,hs']
        have r0:∀ms,Cell h4 ms ((AF x.v).add ((i-1)*2)) (.int .i64 s'.1):=fun ms=>by rw[<-hs'];exact(hX.any (ms:=ms)).cell0 hi1 rfl
        refine AN (oF B5 rfl) rfl rfl rfl rfl (AN (oL rfl Cu (b2 _)) rfl rfl rfl rfl (AN (AA rfl rfl) rfl rfl rfl rfl (AN (oS rfl) rfl rfl rfl rfl (AN (BU (i-1) hX.rd.any rfl Cu AJ rfl rfl) rfl rfl rfl rfl (AN (oF Cy rfl) rfl rfl rfl rfl (AN (oL rfl U3 (r0 _)) rfl rfl rfl rfl (AN (oF Cy rfl) rfl rfl rfl rfl (AN (oL rfl U3 (e70 _)) rfl rfl rfl rfl (Bc (Qg (Du rfl rfl rfl) rfl (Qg (Ed rfl rfl rfl) rfl (Qm rfl (Al ?_)))))))))))));refine Av rfl (fun c4=>?_) (fun c4=>?_)
        ·refine Ac (Ad (Qm rfl (Al (Ao (Am (Ah (Ah (Am (Ah ?_)))))))));exact Az rfl rfl (by rw[e22 i hil (hbad.2 (.inr (.inr ⟨by omega,by rw[hsA'];exact c4⟩)))])
        ·have hok:¬G8 (U.map Ce.c) x.c i:=fun q=>by
          rcases hbad.1 q with q|q|⟨_,q⟩
          ·rw[hbt]at q;cases q
          ·exact c2 q
          ·rw[hsA']at q;exact c4 q
         refine Ag (Ai (Ab (Ad (Qx (oA rfl) rfl (Qm rfl (Aj ?_))))));exact Ak (x.c.sd.length-(i+1)) _ (by omega) ⟨i+1,rfl,rfl,l14,rfl,by omega,hstep hok⟩ Qs
       ·have hok:¬G8 (U.map Ce.c) x.c i:=fun q=>by
         rcases hbad.1 q with q|q|⟨q,_⟩
         ·rw[hbt]at q;cases q
         ·exact c2 q
         ·omega
        refine AG rfl rfl rfl rfl rfl (AG rfl rfl rfl rfl rfl (AG rfl rfl rfl rfl rfl (AG rfl rfl rfl rfl rfl (AG rfl rfl rfl rfl rfl (AG rfl rfl rfl rfl rfl (AG rfl rfl rfl rfl rfl (AG rfl rfl rfl rfl rfl (AG rfl rfl rfl rfl rfl (Bc (Qk rfl (Qg (DA rfl rfl rfl) rfl (Qm rfl (Al (AM rfl (Ag (Ai (Ab (Ad (Qx (oA rfl) rfl (Qm rfl (Aj ?_)))))))))))))))))))));exact Ak (x.c.sd.length-(i+1)) _ (by omega) ⟨i+1,rfl,rfl,l14,rfl,by omega,hstep hok⟩ Qs
   ·obtain rfl:i=x.c.sd.length:=by omega
    refine As (Aa (Aa (Ae ?_)));exact AC _ ⟨rfl,l2,rfl,hno⟩ Qs
  ·obtain⟨rfl,l2,rfl,hno⟩:=hI;have hX:=hX.up l2;have hall:¬¬∀i,i<x.c.sd.length->¬G8 (U.map Ce.c) x.c i:=fun q=>q hno
   have e23:∀i,i<x.c.sd.length->B9 x.c i->DB (U.map Ce.c) x.c=23:=fun i h q=>by unfold DB;rw[if_neg e21,if_neg hnb,if_neg hall,if_pos fun w=>w i h q]
   have b1:∀ms,Cell h ms (⟨g3,1,none⟩:Addr) (.int .i64 x.c.dim):=fun ms=>(a1 ms).le l2;have b2:∀ms,Cell h ms (⟨g3,2,none⟩:Addr) x.v:=fun ms=>(a2 ms).le l2;refine Au (Qm rfl (Al (Ac (Au (Qf B5 rfl (Ql rfl Cu (b2 _) (Qx (Ar hX.rd.any rfl Cu rfl) rfl (Qm rfl (Al (Af ?_))))))))))
   refine Ax (fun q sl h' ms'=>∃(i:Nat),q=x.c.sd.length-i/\sl=[(3,.pointer (some ⟨g3,0,none⟩)),(10,.int .i64 (V8 x.c i)),(101,x.v),(102,.int .i64 x.c.sd.length),(103,.int .i64 i)]/\h.le h'/\ms'=[]/\i<=x.c.sd.length/\(-(i:Int)<=V8 x.c i/\V8 x.c i<=i)/\∀j,j<i->¬B9 x.c j)
    (x.c.sd.length-0) _ ⟨0,rfl,rfl,DU,rfl,by omega,by simp[V8],fun j h=>by omega⟩ Qs ?_
   rintro q sl h3 ms' ⟨i,rfl,rfl,l3,rfl,hil,hsb,hns⟩;have hX:=hX.up l3;have b1:∀ms,Cell h3 ms (⟨g3,1,none⟩:Addr) (.int .i64 x.c.dim):=fun ms=>(b1 ms).le l3;refine Au (Qm rfl (Al (Ac ?_)));refine Av rfl (fun hlt=>?_) (fun hlt=>?_)
   ·have hil:i<x.c.sd.length:=by omega
    obtain⟨s,hs⟩:∃s,x.c.sd[i]=s:=⟨_,rfl⟩
    have hsA:Bx x.c i=s:=by rw[Bp hil,hs]
    have hsI:=(hi s (by rw[<-hs];exact getElem_mem hil)).2;have hsx:∀ms,Seg h3 ms ((AF x.v).add (i*2)) (cD s):=fun ms=>by rw[<-hs];exact(hX.any (ms:=ms)).seg hil
    have hss:=Vn hil;rw[hs]at hss;have hbs:B9 x.c i<->s.2≠1/\s.2≠-1:=by unfold B9;rw[hsA]
    have hstep:¬B9 x.c i->∀j,j<i+1->¬B9 x.c j:=fun h j hj=>by
     rcases (by omega:j<i\/j=i) with h1|rfl
     ·exact hns j h1
     ·exact h
    refine Ag (Ab (Ac (Af (Au (Qx (BU (i) hX.rd.any rfl Cu AJ rfl rfl) rfl (Qx (oG rfl DE AJ (hsx _)) rfl (CN [.int .i64 0,.int .i64 0] rfl AJ rfl rfl (fun g12=>?_))))))));refine Sa 0 [_,_] AJ rfl (by simp[Value.oneCell']) ?_;refine Al (AD fun h4 l4 hS12=>?_);have e12:∀ms,Cell h4 ms (⟨g12,1,none⟩:Addr) (.int .i64 s.2):=fun ms=>Seg.all hS12 1 _ rfl ms;refine Ac (Au (Qf Fa rfl (Ql rfl U3 (e12 _) (Qm rfl (Qm rfl ?_)))));refine AS (t:=110) rfl (fun c1=>?_) (fun c1=>?_)
    ·refine Qg (oF Fa rfl) rfl (Qg (oL rfl U3 (e12 _)) rfl (Qg (DK rfl rfl rfl) rfl (Qm rfl (Al ?_))));refine Av rfl (fun c2=>?_) (fun c2=>?_)
     ·refine Ac (Ad (Qm rfl (Al (Ao (Ah (Am (Ah (Ah (Am (Ah ?_))))))))));exact Az rfl rfl (by rw[e23 i hil (hbs.2 ⟨c1,c2⟩)])
     ·have hok:¬B9 x.c i:=fun q=>c2 (hbs.1 q).2;have h2:s.2=-1:=by omega
      refine Ag (Ab (Ad (Qm rfl (Qf Fa rfl (Ql rfl U3 (e12 _) (Qx (oA rfl) rfl (Qm rfl (Aj (Ai (Ab (Ad (Qx (oA rfl) rfl (Qm rfl (Aj ?_))))))))))))));exact Ak (x.c.sd.length-(i+1)) _ (by omega) ⟨i+1,rfl,by rw[hss],AI l3 l4,rfl,by omega,by rw[hss];omega,hstep hok⟩ Qs
    ·have h2:s.2=1:=by omega
     have hok:¬B9 x.c i:=fun q=>(hbs.1 q).1 h2;refine Qk rfl (Qk rfl (Qk rfl (Qm rfl (Al (AM rfl (Ag (Ab (Ad (Qm rfl (Qf Fa rfl (Ql rfl U3 (e12 _) (Qx (oA rfl) rfl (Qm rfl (Aj (Ai (Ab (Ad (Qx (oA rfl) rfl (Qm rfl (Aj ?_))))))))))))))))))));exact Ak (x.c.sd.length-(i+1)) _ (by omega) ⟨i+1,rfl,by rw[hss],AI l3 l4,rfl,by omega,by rw[hss];omega,hstep hok⟩ Qs
   ·obtain rfl:i=x.c.sd.length:=by omega
    have hs0:¬¬∀i,i<x.c.sd.length->¬B9 x.c i:=fun q=>q hns;refine As (Aa (Aa (Ae (Ab (Ac (Au (Qf Cw rfl (Ql rfl U3 (b1 _) (Qm rfl (Qm rfl ?_))))))))));refine AS (t:=123) rfl (fun c1=>?_) (fun c1=>?_)
    ·refine Qg (AA rfl rfl) rfl (Qg (DK rfl rfl rfl) rfl (Qm rfl (Al ?_)));refine Av rfl (fun c2=>?_) (fun c2=>?_)
     ·refine Ac (Ad (Qm rfl (Al (Ao (Ah ?_)))));exact Az rfl rfl (by unfold DB;rw[if_neg e21,if_neg hnb,if_neg hall,if_neg hs0,if_pos ⟨c1,c2⟩])
     ·refine Ag (Ab (Au (Qm rfl (Al (Ao ?_)))));exact Az rfl rfl (by unfold DB;rw[if_neg e21,if_neg hnb,if_neg hall,if_neg hs0,if_neg fun q=>c2 q.2])
    ·refine Qk rfl (Qk rfl (Qm rfl (Al (AM rfl (Ag (Ab (Au (Qm rfl (Al (Ao ?_))))))))));exact Az rfl rfl (by unfold DB;rw[if_neg e21,if_neg hnb,if_neg hall,if_neg hs0,if_neg fun q=>c1 q.1])
end Go.Proofs.Q

namespace Go.Proofs.Q
open Go.Eng Go.RowKit
def TC(U:List Cl)(x:Cl)(i:Nat):FA:=(FS U (Bx x i).1).sd.map fun r=>((i:Int),r.1,(Bx x i).2*r.2)
def I5(U:List Cl)(x:Cl)(m:Nat):FA:=(range m).flatMap (TC U x)
theorem Ou(U:List Cl)(x:Cl)(m:Nat):I5 U x (m+1)=I5 U x m++TC U x m:=by unfold I5;rw[range_succ,List.flatMap_append];simp
theorem MT(U:List Cl)(x:Cl)(h:∀i,i<x.sd.length->(FS U (Bx x i).1).sd.length<=64):∀m,m<=x.sd.length->(I5 U x m).length<=64*m
 | 0,_=>by simp[I5]
 | m+1,hm=>by have:=MT U x h m (by omega);have:=h m (by omega);rw[Ou,length_append];unfold TC;rw[length_map];omega
def Cz(E:FA):List (Int×Int):=E.foldl (fun T e=>CC T e.2.1 ((A9 T e.2.1).getD 0+e.2.2)) []
def Fq(E:FA):List (Int×List Int):=E.foldl (fun T e=>CC T e.2.1 ((A9 T e.2.1).getD []++[e.1])) []
theorem Gd(E:FA)(e:Int×Int×Int):Cz (E++[e])=CC (Cz E) e.2.1 ((A9 (Cz E) e.2.1).getD 0+e.2.2):=by unfold Cz;rw[foldl_append];rfl
theorem Fw(E:FA)(e:Int×Int×Int):Fq (E++[e])=CC (Fq E) e.2.1 ((A9 (Fq E) e.2.1).getD []++[e.1]):=by unfold Fq;rw[foldl_append];rfl
theorem C6{α:Type}{P:List α->Prop}(h0:P [])(h1:∀l a,P l->P (l++[a]))(l:List α):P l:=by
 have:∀r:List α,P r.reverse:=fun r=>by
  induction r with
  | nil=>exact h0
  | cons a r ih=>rw[List.reverse_cons];exact h1 _ _ ih
 have:=this l.reverse
 rwa [List.reverse_reverse]at this
theorem I7(c:Int):∀E:FA,(A9 (Cz E) c).getD 0=DH E c:=C6 rfl fun E e ih=>by
 rw[Gd,Dg,Lo];by_cases h:c=e.2.1
 ·subst h;rw[if_pos rfl,if_pos rfl,<-ih];rfl
 ·rw[if_neg h,if_neg (fun q=>h q.symm),ih,Int.add_zero]
theorem DP{ν:Type}(T:List (Int×ν))(a:Int)(x:ν)(c:Int):c∈(CC T a x).map Prod.fst<->c=a\/c∈T.map Prod.fst:=by
 unfold CC;split
 ·rename_i h
  have e:(T.map fun p=>if p.1=a then(a,x) else p).map Prod.fst=T.map Prod.fst:=by
   rw[map_map];refine List.map_congr_left fun p _=>?_;show(if p.1=a then(a,x) else p).1=p.1;by_cases q:p.1=a
   ·rw[if_pos q];exact q.symm
   ·rw[if_neg q]
  rw[e];exact⟨.inr,fun q=>by rcases q with rfl|q;exact h;exact q⟩
 ·rw[map_append,mem_append];simp only[map_cons,List.map_nil,mem_singleton];exact⟨fun q=>q.symm,fun q=>q.symm⟩
theorem KK(c:Int):∀E:FA,c∈(Cz E).map Prod.fst<->∃e∈E,e.2.1=c:=C6 ⟨fun h=>by simp[Cz]at h,fun⟨e,he,_⟩=>by cases he⟩ fun E e ih=>by
 rw[Gd,DP,ih];constructor
 ·rintro(rfl|⟨e',he,h⟩)
  ·exact⟨e,mem_append_right _ Mh,rfl⟩
  ·exact⟨e',mem_append_left _ he,h⟩
 ·rintro⟨e',he,h⟩;rcases List.mem_append.1 he with he|he
  ·exact .inr ⟨e',he,h⟩
  ·rw[List.mem_singleton.1 he]at h;exact .inl h.symm
theorem RI(c:Int):∀E:FA,c∈(Fq E).map Prod.fst<->∃e∈E,e.2.1=c:=C6 ⟨fun h=>by simp[Fq]at h,fun⟨e,he,_⟩=>by cases he⟩ fun E e ih=>by
 rw[Fw,DP,ih];constructor
 ·rintro(rfl|⟨e',he,h⟩)
  ·exact⟨e,mem_append_right _ Mh,rfl⟩
  ·exact⟨e',mem_append_left _ he,h⟩
 ·rintro⟨e',he,h⟩;rcases List.mem_append.1 he with he|he
  ·exact .inr ⟨e',he,h⟩
  ·rw[List.mem_singleton.1 he]at h;exact .inl h.symm
theorem NC(c:Int):∀E:FA,(A9 (Fq E) c).getD []=(E.filter fun e=>decide (e.2.1=c)).map fun e=>e.1:=C6 rfl fun E e ih=>by
 rw[Fw,Dg,List.filter_append,map_append,<-ih];by_cases h:c=e.2.1
 ·subst h;rw[if_pos rfl];simp
 ·rw[if_neg h];simp[Ne.symm h]
theorem Hv(E:FA)(c:Int):ER E c=((E.filter fun e=>decide (e.2.1=c)).length:Int):=by
 induction E with
 | nil=>rfl
 | cons e E ih=>
  unfold ER at *;rw[map_cons,sum_cons,ih,List.filter_cons];by_cases h:e.2.1=c
  ·simp[h];omega
  ·simp[h]
theorem YV(E:FA)(c:Int)(h:∀e∈E,e.2.2=1\/e.2.2=-1):-(E.length:Int)<=DH E c/\DH E c<=E.length:=by
 induction E with
 | nil=>exact⟨Int.le_refl _,Int.le_refl _⟩
 | cons e E ih=>
  have h1:=ih fun e he=>h e (mem_cons_of_mem _ he);have h2:=h e Mh;unfold DH at *;rw[map_cons,sum_cons,length_cons];split<;>omega
theorem QY(E:FA):((Cz E).map Prod.fst).Nodup:=by refine C6 (P:=fun E=>((Cz E).map Prod.fst).Nodup) (by simp[Cz]) (fun E e ih=>?_) E;rw[Gd];exact G4 ih _ _
theorem YK(E:FA):((Fq E).map Prod.fst).Nodup:=by refine C6 (P:=fun E=>((Fq E).map Prod.fst).Nodup) (by simp[Fq]) (fun E e ih=>?_) E;rw[Fw];exact G4 ih _ _
def EA(T:List (Int×List Int))(a b:Int):List (Int×List Int):=CC T a ((A9 T a).getD []++[b])
def Eu(P:List (Int×Int)):List (Int×List Int):=P.foldl (fun T p=>EA (EA T p.1 p.2) p.2 p.1) []
theorem Hr(P:List (Int×Int))(p:Int×Int):Eu (P++[p])=EA (EA (Eu P) p.1 p.2) p.2 p.1:=by unfold Eu;rw[foldl_append];rfl
theorem Lp(T:List (Int×List Int))(a b c k:Int):k∈(A9 (EA T a b) c).getD []<->k∈(A9 T c).getD []\/(c=a/\k=b):=by
 unfold EA;rw[Dg];by_cases h:c=a
 ·subst h;simp
 ·simp[h]
theorem Rp(c k:Int):∀P:List (Int×Int),k∈(A9 (Eu P) c).getD []<->(c,k)∈P\/(k,c)∈P:=C6 ⟨fun h=>by simp[Eu,A9]at h,fun h=>by simp at h⟩ fun P p ih=>by
 rw[Hr,Lp,Lp,ih,mem_append,mem_append,mem_singleton,mem_singleton];constructor
 ·rintro((h|⟨rfl,rfl⟩)|⟨rfl,rfl⟩)
  ·rcases h with h|h
   ·exact .inl (.inl h)
   ·exact .inr (.inl h)
  ·exact .inl (.inr rfl)
  ·exact .inr (.inr rfl)
 ·rintro((h|rfl)|(h|rfl))
  ·exact .inl (.inl (.inl h))
  ·exact .inl (.inr ⟨rfl,rfl⟩)
  ·exact .inl (.inl (.inr h))
  ·exact .inr ⟨rfl,rfl⟩
theorem IY(T:List (Int×List Int))(a b:Int)(B:Nat)(h:∀c,((A9 T c).getD []).length<=B):∀c,((A9 (EA T a b) c).getD []).length<=B+1:=fun c=>by
 unfold EA;rw[Dg];have h1:=h c;by_cases e:c=a
 ·subst e;simp;omega
 ·rw[if_neg e];omega
theorem LN:∀P:List (Int×Int),∀c,((A9 (Eu P) c).getD []).length<=2*P.length:=C6 (fun c=>by simp[Eu,A9]) fun P p ih c=>by rw[Hr,length_append,length_singleton];have:=IY _ p.2 p.1 _ (IY _ p.1 p.2 _ ih) c;omega
inductive Rch (J:Int->List Int):Int->Int->Prop
 | refl (a:Int):Rch J a a
 | step {a b k:Int}:Rch J a b->k∈J b->Rch J a k
theorem Rch.trans{J:Int->List Int}{a b c:Int}(h:Rch J a b)(h':Rch J b c):Rch J a c:=by
 induction h' with
 | refl=>exact h
 | step _ h1 ih=>exact .step ih h1
theorem X0{E:FA}(h2:∀e∈E,ER E e.2.1=2){J:Int->List Int}(hJ:∀a k,k∈J a<->∃c p q,(E.filter fun e=>decide (e.2.1=c)).map (fun e=>e.1)=[p,q]/\((a=p/\k=q)\/(a=q/\k=p)))(a b:Int):Con E a b<->Rch J a b:=by
 have hin:∀{c p:Int} {l},(E.filter fun e=>decide (e.2.1=c)).map (fun e=>e.1)=l->p∈l->∃w,(p,c,w)∈E:=fun {c p l} e hp=>by rw[<-e]at hp;obtain⟨x,hx,rfl⟩:=List.mem_map.1 hp;obtain⟨h3,h4⟩:=List.mem_filter.1 hx;have h4:=of_decide_eq_true h4;exact⟨x.2.2,by rw[<-h4];exact h3⟩
 constructor
 ·intro h
  induction h with
  | refl=>exact .refl _
  | @step b d c w w' _ h3 h4 ih=>
   have hc:=h2 _ h3;rw[Hv]at hc;obtain⟨L,hL⟩:∃L,(E.filter fun e=>decide (e.2.1=c)).map (fun e=>e.1)=L:=⟨_,rfl⟩
   have hl:L.length=2:=by rw[<-hL,length_map];have hc:((E.filter fun e=>decide (e.2.1=c)).length:Int)=2:=hc;omega
   match L,hl with
   | [p,q],_=>
    have m1:b∈[p,q]:=by rw[<-hL];exact List.mem_map.2 ⟨_,List.mem_filter.2 ⟨h3,decide_eq_true rfl⟩,rfl⟩
    have m2:d∈[p,q]:=by rw[<-hL];exact List.mem_map.2 ⟨_,List.mem_filter.2 ⟨h4,decide_eq_true rfl⟩,rfl⟩
    simp only[mem_cons,List.not_mem_nil,or_false]at m1 m2;by_cases e:b=d
    ·subst e;exact ih
    ·refine .step ih ((hJ b d).2 ⟨c,p,q,hL,?_⟩);rcases m1 with m1|m1<;>rcases m2 with m2|m2
     ·exact absurd (m1.trans m2.symm) e
     ·exact .inl ⟨m1,m2⟩
     ·exact .inr ⟨m1,m2⟩
     ·exact absurd (m1.trans m2.symm) e
 ·intro h
  induction h with
  | refl=>exact .refl _
  | @step b k _ h3 ih=>
   obtain⟨c,p,q,hL,h4⟩:=(hJ b k).1 h3;obtain⟨w1,m1⟩:=hin hL Mh;obtain⟨w2,m2⟩:=hin hL (mem_cons_of_mem _ Mh);rcases h4 with ⟨rfl,rfl⟩|⟨rfl,rfl⟩
   ·exact .step ih m1 m2
   ·exact .step ih m2 m1
noncomputable def Ts(E:FA)(n:Nat):Int:=
 open Classical in
 if ¬∀e∈E,DH E e.2.1=0 then 24
 else if ¬∀e∈E,ER E e.2.1=2 then 25
 else if ¬(0<n/\∀i:Nat,i<n->Con E 0 i) then 25 else 0
open Go.Proofs.Tryz
variable {T:List (Int×Bool)} {n:Nat}
def vB(b:Bool):Value:=.bool b
theorem OL(w:World):(zeroValue 4).run Tryz.prog w=.ok (vB false) w:=by rfl
theorem KI(w:World):(zeroValue 22).run Tryz.prog w=.ok (Lc (.slice none 0 0)) w:=by rfl
abbrev FG(T:List (Int×Bool)):List Int:=T.map Prod.fst
def MY(T:List (Int×Bool)):Prop:=∀p∈T,p.2=true
theorem Gs(h:MY T)(a:Int):(A9 T a).getD false=decide (a∈FG T):=by
 by_cases ha:a∈FG T
 ·rw[decide_eq_true ha];cases hg:A9 T a with
  | none=>
   exfalso;unfold A9 at hg;rw[Option.map_eq_none_iff,List.find?_eq_none]at hg;obtain⟨p,hp,e⟩:=List.mem_map.1 ha;have:=hg p hp;simp[e]at this
  | some b=>
   unfold A9 at hg;obtain⟨p,hp,rfl⟩:=Option.map_eq_some_iff.1 hg;exact h p (List.mem_of_find?_eq_some hp)
 ·rw[decide_eq_false ha,CX ha];rfl
theorem HL(h:MY T)(a:Int):MY (CC T a true):=fun p hp=>by
 unfold CC at hp;split at hp
 ·obtain⟨q,hq,rfl⟩:=List.mem_map.1 hp;split
  ·rfl
  ·exact h q hq
 ·rcases List.mem_append.1 hp with hp|hp
  ·exact h p hp
  ·rw[List.mem_singleton.1 hp]
def ZE(n:Nat)(T:List (Int×Bool)):Nat:=((range n).filter fun(j:Nat)=>decide ((j:Int) ∉ FG T)).length
theorem Tk{T':List (Int×Bool)}(h:∀x∈FG T,x∈FG T'):ZE n T'<=ZE n T:=by refine Go.Kuhn.nodup_le _ _ (List.Pairwise.filter _ List.nodup_range) fun x hx=>?_;obtain⟨h1,h2⟩:=List.mem_filter.1 hx;exact List.mem_filter.2 ⟨h1,decide_eq_true fun q=>of_decide_eq_true h2 (h _ q)⟩
theorem YN{i:Nat}(hi:i<n)(hn:(i:Int) ∉ FG T)(b:Bool):ZE n (CC T (i:Int) b)+1<=ZE n T:=by
 have h1:(i::(range n).filter fun(j:Nat)=>decide ((j:Int) ∉ FG (CC T (i:Int) b))).Nodup:=by refine List.nodup_cons.2 ⟨fun q=>?_,List.Pairwise.filter _ List.nodup_range⟩;have:=of_decide_eq_true (List.mem_filter.1 q).2;exact this ((DP T _ _ _).2 (.inl rfl))
 have h2:=Go.Kuhn.nodup_le _ ((range n).filter fun(j:Nat)=>decide ((j:Int) ∉ FG T)) h1 fun x hx=>by
  rcases List.mem_cons.1 hx with rfl|hx
  ·exact List.mem_filter.2 ⟨List.mem_range.2 hi,decide_eq_true hn⟩
  ·obtain⟨h3,h4⟩:=List.mem_filter.1 hx;exact List.mem_filter.2 ⟨h3,decide_eq_true fun q=>of_decide_eq_true h4 ((DP T _ _ _).2 (.inr q))⟩
 unfold ZE;rw[length_cons]at h2;exact h2
structure ZV(J:Int->List Int)(n:Nat)(T T':List (Int×Bool))(i:Int):Prop where
 sub:∀x∈FG T,x∈FG T'
 me:i∈FG T'
 new:∀x∈FG T',x ∉ FG T->(Rch J i x/\∀k∈J x,k∈FG T')/\0<=x/\x<n
structure ZN(h:Hp)(gS gJ g16 g13 g17:Nat)(mM mB:Hp)(TJ:List (Int×List Int))(J:Int->List Int)(n:Nat):Prop where
 s:∀ms,Cell h ms (⟨g16,0,none⟩:Addr) (.map (some gS))
 j:∀ms,Cell h ms (⟨g13,0,none⟩:Addr) (.map (some gJ))
 f:∀ms,Cell h ms (⟨g17,0,none⟩:Addr) (.func (.func 142) #[] #[.pointer (some ⟨g16,0,none⟩),.pointer (some ⟨g13,0,none⟩),.pointer (some ⟨g17,0,none⟩)])
 m:OwnMS gJ mM mB TJ
 lM:mM.le h
 lB:mB.le h
 e:∀a,J a=(A9 TJ a).getD []
 nb:∀a,∀k∈J a,0<=k/\k<n
 l:∀a,(J a).length<=1000000
 b:n<=1000000
theorem Ua{h:Hp}{gS gJ g16 g13 g17:Nat}{mM mB:Hp}{TJ:List (Int×List Int)}{J:Int->List Int}(V:ZN h gS gJ g16 g13 g17 mM mB TJ J n):∀(F:Nat) (i:Nat) (T:List (Int×Bool)) (bs:List Nat) (mS:Hp),i<n->Cn kN vB gS BC mS T bs->MY T->ZE n T<F->FnT Tryz.prog 142 #[.int .i64 i,.pointer (some ⟨g16,0,none⟩),.pointer (some ⟨g13,0,none⟩),.pointer (some ⟨g17,0,none⟩)] h [mS] (fun _ h' ms'=>h=h'/\∃mS' T' bs',ms'=[mS']/\Cn kN vB gS BC mS' T' bs'/\MY T'/\ZV J n T T' i):=by
 intro F
 induction F with
 | zero=>
  intro i T bs mS hi hO hA hF;omega
 | succ F ih=>
  intro i T bs mS hi hO hA hF;have hb:=V.b;have hiI:BC (i:Int):=by unfold BC;omega
  have hs1:=V.s;have hj1:=V.j;have hf1:=V.f;refine Ap func142 ntmps142 rfl rfl (fun w0 hw0=>?_);simp only[AU];refine Au (Ql rfl RX (hs1 _) (Qm rfl (Qx (EK (V:=vB) (z:=false) (i:Int) A0 hO (by simp) rfl RX OL rfl rfl hiI) rfl ?_)));rw[Gs hA];refine Qm rfl (Al ?_);refine Bu rfl (fun hn=>?_) (fun hn=>?_)
  ·have hni:(i:Int) ∉ FG T:=fun q=>by rw[decide_eq_true q]at hn;cases hn
   obtain⟨Tv,bsv,hMv,hKv,_,hRv⟩:=V.m.look V.lB;obtain⟨vL,hvL⟩:∃vL,(A9 Tv (i:Int)).getD (.slice none 0 0)=vL:=⟨_,rfl⟩
   have hRL:=hRv (i:Int);rw[hvL,<-V.e]at hRL;have ovL:=hRL.rd.one;have hLl:=V.l (i:Int);have hLn:=V.nb (i:Int);obtain⟨L,hL⟩:∃L,J (i:Int)=L:=⟨_,rfl⟩
   rw[hL]at hRL hLl hLn;refine Au (Ql rfl RX (hs1 _) (Qm rfl (Bv (V:=vB) (z:=undef) 0 (i:Int) true A0 hO rfl rfl RX rfl rfl rfl hiI rfl rfl (fun mS1 Fi hO1=>?_))));have hA1:=HL hA (i:Int);have hU1:=YN hi hni true;obtain⟨T1,hT1⟩:∃T1,CC T (i:Int) true=T1:=⟨_,rfl⟩
   have hk1:∀x,x∈FG T1<->x=(i:Int)\/x∈FG T:=fun x=>by rw[<-hT1];exact DP T _ _ x
   rw[hT1]at hO1 hA1 hU1;refine BL (Ql rfl FU (hj1 _) (Qm rfl (Qx (K8 (V:=Lc) (z:=(Value.slice none 0 0)) (i:Int) A0 hMv V.lM rfl FU KI rfl rfl hiI) rfl ?_)));rw[hvL];refine Qx (Ar hRL.rd.any rfl AR rfl) rfl (Qm rfl (Al (Af ?_)))
   refine Ax (fun q sl h' ms'=>∃(t:Nat) (Tt:List (Int×Bool)) (bt:List Nat) (mt:Hp),q=L.length-t/\sl=[(3,.pointer (some ⟨g17,0,none⟩)),(15,vL),(16,.int .i64 L.length),(17,.int .i64 t)]/\h=h'/\ms'=[mt]/\t<=L.length/\Cn kN vB gS BC mt Tt bt/\MY Tt/\(∀x∈FG T1,x∈FG Tt)/\(∀x∈FG Tt,x ∉ FG T1->(Rch J i x/\∀k∈J x,k∈FG Tt)/\0<=x/\x<n)/\∀j (hj:j<L.length),j<t->L[j]∈FG Tt)
    (L.length-0) _ ⟨0,T1,Fi,mS1,rfl,rfl,rfl,rfl,by omega,hO1,hA1,fun x hx=>hx,fun x h1 h2=>absurd h1 h2,fun j hj h=>by omega⟩ Qs ?_
   rintro q sl h' ms' ⟨t,Tt,bt,mt,rfl,rfl,rfl,rfl,htl,hOt,hAt,hsub,hnew,hdone⟩;refine Au (Qm rfl (Al (Ac ?_)));refine Av rfl (fun hlt=>?_) (fun hlt=>?_)
   ·have htl:t<L.length:=by omega
    obtain⟨k,hk⟩:∃k,L[t]=k:=⟨_,rfl⟩
    have hkm:k∈L:=by rw[<-hk];exact getElem_mem htl
    obtain⟨hk0,hkn⟩:=hLn k hkm;obtain⟨kn,rfl⟩:=Int.eq_ofNat_of_zero_le hk0;have ck:∀ms,Cell h ms ((AF vL).add (t*1)) (.int .i64 (kn:Int)):=fun ms=>by rw[<-hk];exact(hRL.any (ms:=ms)).cell0 htl rfl
    refine Ag (Ab (Ac (Af (Au (Qx (BU (t) hRL.rd.any rfl AR Be rfl rfl) rfl (Ql rfl U3 (ck _) (Qm rfl (Gn (Ql rfl Aad (hf1 _) (Qm rfl ?_))))))))));refine GX (pre:=[mt]) rfl rfl call142 rfl (ih kn Tt bt mt (by omega) hOt hAt (by have:=Tk (n:=n) hsub;omega)) rfl rfl rfl rfl (fun v' h' pre' l' hF=>?_);obtain⟨rfl,m2,T2,b2,rfl,hO2,hA2,R2⟩:=hF;simp only[cons_append,nil_append,append_nil];have hrk:Rch J i (kn:Int):=.step (.refl _) (by rw[hL];exact hkm);refine Aj (Ai (Ab (Ad (Qx (oA rfl) rfl (Qm rfl (Aj ?_))))))
    exact Ak (L.length-(t+1)) _ (by omega) ⟨t+1,T2,b2,m2,rfl,rfl,rfl,rfl,by omega,hO2,hA2,fun x hx=>R2.sub x (hsub x hx),fun x h1 h2=>by
     by_cases hx:x∈FG Tt
     ·obtain⟨⟨q1,q2⟩,q3⟩:=hnew x hx h2;exact⟨⟨q1,fun k hk=>R2.sub k (q2 k hk)⟩,q3⟩
     ·obtain⟨⟨q1,q2⟩,q3⟩:=R2.new x h1 hx;exact⟨⟨hrk.trans q1,q2⟩,q3⟩,fun j hj hjt=>by
     rcases (by omega:j<t\/j=t) with h1|rfl
     ·exact R2.sub _ (hdone j hj h1)
     ·rw[hk];exact R2.me⟩ Qs
   ·obtain rfl:t=L.length:=by omega
    have hV:ZV J n T Tt i:=by
     have hall:∀k∈J (i:Int),k∈FG Tt:=fun k hk=>by rw[hL]at hk;obtain⟨j,hj,rfl⟩:=getElem_of_mem hk;exact hdone j hj hj
     refine⟨fun x hx=>hsub x ((hk1 x).2 (.inr hx)),hsub _ ((hk1 _).2 (.inl rfl)),fun x h1 h2=>?_⟩;by_cases hx:x=(i:Int)
     ·subst hx;exact⟨⟨.refl _,hall⟩,by omega,by omega⟩
     ·exact hnew x h1 fun q=>by
       rcases (hk1 x).1 q with q|q
       ·exact hx q
       ·exact h2 q
    refine As (Aa (Aa (Ae ?_)));exact BO rfl (⟨rfl,mt,Tt,bt,rfl,hOt,hAt,hV⟩)
  ·have him:(i:Int)∈FG T:=Classical.byContradiction fun q=>by rw[decide_eq_false q]at hn;cases hn
   refine Ag ?_;exact BO rfl (⟨rfl,mS,T,bs,rfl,hO,hA,fun x hx=>hx,him,fun x h1 h2=>absurd h1 h2⟩)
end Go.Proofs.Q

namespace Go.Proofs.Q
open Go.Proofs.Tryz
open Go.Eng Go.RowKit
theorem Gg(w:World):(zeroValue 3).run Tryz.prog w=.ok (kN 0) w:=by rfl
structure XH(U:List Cl)(x:Cl):Prop where
 n:x.sd.length<=64
 p:0<x.sd.length
 m:∀i,i<x.sd.length->(FS U (Bx x i).1).sd.length<=64
 s:∀s∈x.sd,BC s.1/\(s.2=1\/s.2=-1)
 t:∀i,i<x.sd.length->∀r∈(FS U (Bx x i).1).sd,BC r.1/\(r.2=1\/r.2=-1)
theorem W8{ν:Type}(T:List (Int×ν))(a:Int)(x:ν):(CC T a x).length<=T.length+1:=by
 unfold CC;split
 ·rw[length_map];omega
 ·simp
theorem Qi:∀E:FA,(Fq E).length<=E.length:=C6 (by simp[Fq]) fun E e ih=>by rw[Fw,length_append,length_singleton];have:=W8 (Fq E) e.2.1 ((A9 (Fq E) e.2.1).getD []++[e.1]);omega
theorem MZ{U:List Cl}{x:Cl}{m:Nat}{e:Int×Int×Int}(h:e∈I5 U x m):∃i,i<m/\∃r∈(FS U (Bx x i).1).sd,e=((i:Int),r.1,(Bx x i).2*r.2):=by unfold I5 at h;obtain⟨i,hi,h⟩:=List.mem_flatMap.1 h;obtain⟨r,hr,rfl⟩:=List.mem_map.1 h;exact⟨i,List.mem_range.1 hi,r,hr,rfl⟩
theorem Yy{U:List Cl}{x:Cl}(K:XH U x){m:Nat}(hm:m<=x.sd.length){e:Int×Int×Int}(h:e∈I5 U x m):e.2.2=1\/e.2.2=-1:=by
 obtain⟨i,hi,r,hr,rfl⟩:=MZ h;have hi':i<x.sd.length:=by omega
 have h1:=(K.t i hi' r hr).2;have h2:=(K.s (Bx x i) (by rw[Bp hi'];exact getElem_mem hi')).2;show(Bx x i).2*r.2=1\/(Bx x i).2*r.2=-1;rcases h1 with h1|h1<;>rcases h2 with h2|h2<;>rw[h1,h2]<;>decide
theorem R6(U:List Ce)(x:Ce)(g:Nat)(hp:Hp)(hT:RdT hp g U)(hX:RdL cD 2 hp [] x.v x.c.sd)(hK:XH (U.map Ce.c) x.c):FnT Tryz.prog 77 #[.pointer (some ⟨g,0,none⟩),.agg (cC x).toArray] hp [] (fun r _ _=>r=.int .i64 (Ts (I5 (U.map Ce.c) x.c x.c.sd.length) x.c.sd.length)):=by
 have o2:=hX.rd.one;show FnT _ _ #[.pointer (some ⟨g,0,none⟩),.agg #[.int .i64 x.c.id,.int .i64 x.c.dim,x.v]] _ _ _;refine Ap func77 ntmps77 rfl rfl (fun w0 hw0=>?_);simp only[AU];refine Au (AX [_,_,_] rfl rfl (by rfl) rfl rfl rfl (fun g3=>Qm rfl (Al (AD fun h1 l1 hS=>?_))));obtain⟨gm,mMt,bst,vids,hSg,hMt,lmt,hVt,hsU⟩:=hT.up l1;have hX:=hX.up l1;have hA:=Seg.all hS;have a2:∀ms,Cell h1 ms (⟨g3,2,none⟩:Addr) x.v:=fun ms=>hA 2 _ rfl ms;have eT:∀ms,Cell h1 ms (⟨g,0,none⟩:Addr) (.map (some gm)):=fun ms=>Seg.all hSg 0 _ rfl ms;have hn64:=hK.n;refine Au (Cp (K:=kN) (V:=kN) (Ok:=BC) rfl rfl rfl rfl (fun gA mA hA0=>Cp (K:=kN) (V:=Lc) (Ok:=BC) rfl rfl rfl rfl (fun gB mM hB0=>Qm rfl (Qm rfl (Al (DN 1 rfl (BG ?_)))))));have hMS0:=OwnMS.start hB0;refine Bb (fun sl h' ms'=>∃(mB mA mM:Hp) (bs:List Nat),sl=[(3,.pointer (some ⟨g3,0,none⟩)),(5,.map (some gA)),(6,.map (some gB))]/\h1.le h'/\ms'=[mB,mA,mM]/\Cn kN kN gA BC mA (Cz (I5 (U.map Ce.c) x.c x.c.sd.length)) bs/\OwnMS gB mM mB (Fq (I5 (U.map Ce.c) x.c x.c.sd.length))) ?_ (fun s h ms hI=>?_)
 ·refine Ac (Ad (Qf B5 rfl (Ql rfl Cu (a2 _) (Qx (Ar hX.rd.any rfl Cu rfl) rfl (Qm rfl (Al (Af ?_)))))))
  refine Ax (fun q sl h' ms'=>∃(i:Nat) (mB mA mM:Hp) (bs:List Nat),q=x.c.sd.length-i/\sl=[(0,.pointer (some ⟨g,0,none⟩)),(3,.pointer (some ⟨g3,0,none⟩)),(5,.map (some gA)),(6,.map (some gB)),(21,x.v),(22,.int .i64 x.c.sd.length),(23,.int .i64 i)]/\h1.le h'/\ms'=[mB,mA,mM]/\i<=x.c.sd.length/\Cn kN kN gA BC mA (Cz (I5 (U.map Ce.c) x.c i)) bs/\OwnMS gB mM mB (Fq (I5 (U.map Ce.c) x.c i)))
   (x.c.sd.length-0) _ ⟨0,Hp.emp,mA,mM,[],rfl,rfl,DU,rfl,by omega,hA0,hMS0⟩ Qs ?_
  rintro q sl h2 ms' ⟨i,mB,mA,mM,bs,rfl,rfl,l2,rfl,hi,hOA,hMS⟩;have hX:=hX.up l2;refine Au (Qm rfl (Al (Ac ?_)));refine Av rfl (fun hlt=>?_) (fun hlt=>?_)
  ·have hil:i<x.c.sd.length:=by omega
   obtain⟨s,hs⟩:∃s,x.c.sd[i]=s:=⟨_,rfl⟩
   have hsm:s∈x.c.sd:=by rw[<-hs];exact getElem_mem hil
   have hsA:Bx x.c i=s:=by rw[Bp hil,hs]
   have hsI:=hK.s s hsm;obtain⟨y,hy⟩:∃y,(A9 (E5 U) s.1).getD default=y:=⟨_,rfl⟩
   have hyc:FS (U.map Ce.c) s.1=y.c:=by rw[<-Iz,hy]
   have hyR:=O7 hsU s.1;rw[hy]at hyR;have hyR:=hyR.up l2;have oyv:=hyR.rd.one;have y64:=hK.m i hil;have yt:=hK.t i hil;rw[hsA,hyc]at y64 yt;have hE:=MT (U.map Ce.c) x.c hK.m i hi;have hEs:∀e∈I5 (U.map Ce.c) x.c i,e.2.2=1\/e.2.2=-1:=fun e he=>Yy hK hi he
   have hsucc:I5 (U.map Ce.c) x.c (i+1)=I5 (U.map Ce.c) x.c i++y.c.sd.map fun r=>((i:Int),r.1,s.2*r.2):=by rw[Ou];unfold TC;rw[hsA,hyc]
   obtain⟨E,hEe⟩:∃E,I5 (U.map Ce.c) x.c i=E:=⟨_,rfl⟩
   rw[hEe]at hOA hMS hE hEs hsucc;have hsx:∀ms,Seg h2 ms ((AF x.v).add (i*2)) (cD s):=fun ms=>by rw[<-hs];exact(hX.any (ms:=ms)).seg hil
   refine Ag (Ab ?_);refine Bb (fun sl h' ms'=>∃(mB mA mM:Hp) (bs:List Nat),sl=[(0,.pointer (some ⟨g,0,none⟩)),(3,.pointer (some ⟨g3,0,none⟩)),(5,.map (some gA)),(6,.map (some gB)),(21,x.v),(22,.int .i64 x.c.sd.length),(23,.int .i64 i)]/\h2.le h'/\ms'=[mB,mA,mM]/\Cn kN kN gA BC mA (Cz (I5 (U.map Ce.c) x.c (i+1))) bs/\OwnMS gB mM mB (Fq (I5 (U.map Ce.c) x.c (i+1)))) ?_ (fun s h ms hI=>?_)
   ·refine Af (Au (Qm rfl (Qx (BU (i) hX.rd.any rfl Cu AJ rfl rfl) rfl (Qx (oG rfl DE AJ (hsx _)) rfl (CN [.int .i64 0,.int .i64 0] rfl AJ rfl rfl (fun g8=>Qm rfl ?_))))));refine Sa 0 [_,_] AJ rfl (by simp[Value.oneCell']) ?_;refine Al (AD fun h3 l3 hS8=>?_);have e80:∀ms,Cell h3 ms (⟨g8,0,none⟩:Addr) (.int .i64 s.1):=fun ms=>Seg.all hS8 0 _ rfl ms;have e81:∀ms,Cell h3 ms (⟨g8,1,none⟩:Addr) (.int .i64 s.2):=fun ms=>Seg.all hS8 1 _ rfl ms;have l13:=AI l2 l3;have eT:∀ms,Cell h3 ms (⟨g,0,none⟩:Addr) (.map (some gm)):=fun ms=>(eT ms).le l13;have hyR:=hyR.up l3;refine Ac (Bg 10 CY (by kernel_rfl) rfl (Wm rfl (Wm rfl (Wf EF rfl (Wl rfl Gm (eT _) (Wf Cy rfl (Wl rfl U3 (e80 _) (AP (BI (V:=vC) (z:=(default:Ce)) s.1 hy A0 hMt (AI lmt l13) rfl Gm KX rfl rfl hsI.1) rfl rfl (AP (D8 rfl EL rfl Cu rfl rfl rfl) rfl rfl (AP (Ar hyR.rd.any rfl Cu rfl) rfl rfl (Wm rfl (Bc (Al (Af ?_))))))))))))))
    refine Ax (fun q sl h' ms'=>∃(k:Nat) (mB mA mM:Hp) (bs:List Nat),q=y.c.sd.length-k/\sl=[(0,.pointer (some ⟨g,0,none⟩)),(3,.pointer (some ⟨g3,0,none⟩)),(5,.map (some gA)),(6,.map (some gB)),(7,.int .i64 i),(8,.pointer (some ⟨g8,0,none⟩)),(21,x.v),(22,.int .i64 x.c.sd.length),(23,.int .i64 i),(35,y.v),(36,.int .i64 y.c.sd.length),(37,.int .i64 k)]/\h3.le h'/\ms'=[mB,mA,mM]/\k<=y.c.sd.length/\Cn kN kN gA BC mA (Cz (E++(y.c.sd.take k).map fun r=>((i:Int),r.1,s.2*r.2))) bs/\OwnMS gB mM mB (Fq (E++(y.c.sd.take k).map fun r=>((i:Int),r.1,s.2*r.2))))
     (y.c.sd.length-0) _ ⟨0,mB,mA,mM,bs,rfl,rfl,DU,rfl,by omega,by simpa using hOA,by simpa using hMS⟩ Qs ?_
    rintro q sl h4 ms' ⟨k,mB,mA,mM,bs,rfl,rfl,l4,rfl,hk,hOA,hMS⟩;have hyR:=hyR.up l4;have e81:∀ms,Cell h4 ms (⟨g8,1,none⟩:Addr) (.int .i64 s.2):=fun ms=>(e81 ms).le l4;refine Au (Qm rfl (Al (Ac ?_)));refine Av rfl (fun hlk=>?_) (fun hlk=>?_)
    ·have hkl:k<y.c.sd.length:=by omega
     obtain⟨r,hr⟩:∃r,y.c.sd[k]=r:=⟨_,rfl⟩
     have hrm:r∈y.c.sd:=by rw[<-hr];exact getElem_mem hkl
     have hrI:=yt r hrm;have hsr:∀ms,Seg h4 ms ((AF y.v).add (k*2)) (cD r):=fun ms=>by rw[<-hr];exact(hyR.any (ms:=ms)).seg hkl
     have hF':(E++(y.c.sd.take (k+1)).map fun r=>((i:Int),r.1,s.2*r.2))=(E++(y.c.sd.take k).map fun r=>((i:Int),r.1,s.2*r.2))++[((i:Int),r.1,s.2*r.2)]:=by rw[List.take_succ_eq_append_getElem hkl,map_append,hr,append_assoc];rfl
     have hFl:(E++(y.c.sd.take k).map fun r=>((i:Int),r.1,s.2*r.2)).length<=4200:=by rw[length_append,length_map,length_take];omega
     have hmu:s.2*r.2=1\/s.2*r.2=-1:=by rcases hsI.2 with e|e<;>rcases hrI.2 with e'|e'<;>rw[e,e']<;>decide
     have hFs:∀e∈E++(y.c.sd.take k).map (fun r=>((i:Int),r.1,s.2*r.2)),e.2.2=1\/e.2.2=-1:=fun e he=>by
      rcases List.mem_append.1 he with he|he
      ·exact hEs e he
      ·obtain⟨r',hr',rfl⟩:=List.mem_map.1 he;have hrI':=yt r' (mem_of_mem_take hr');show s.2*r'.2=1\/s.2*r'.2=-1;rcases hsI.2 with e|e<;>rcases hrI'.2 with e'|e'<;>rw[e,e']<;>decide
     obtain⟨F,hF⟩:∃F,E++(y.c.sd.take k).map (fun r=>((i:Int),r.1,s.2*r.2))=F:=⟨_,rfl⟩
     rw[hF]at hOA hMS hFl hFs hF';obtain⟨v0,hv0⟩:∃v0,(A9 (Cz F) r.1).getD 0=v0:=⟨_,rfl⟩
     have hb0:=YV F r.1 hFs;rw[<-I7,hv0]at hb0;have hs1:=Gd F ((i:Int),r.1,s.2*r.2);have hm1:=Fw F ((i:Int),r.1,s.2*r.2);simp only at hs1 hm1;rw[hv0]at hs1;refine Ag (Ab ?_);refine Bb (fun sl h' ms'=>∃(mB mA mM:Hp) (bs:List Nat),sl=[(0,.pointer (some ⟨g,0,none⟩)),(3,.pointer (some ⟨g3,0,none⟩)),(5,.map (some gA)),(6,.map (some gB)),(7,.int .i64 i),(8,.pointer (some ⟨g8,0,none⟩)),(21,x.v),(22,.int .i64 x.c.sd.length),(23,.int .i64 i),(35,y.v),(36,.int .i64 y.c.sd.length),(37,.int .i64 k)]/\h4.le h'/\ms'=[mB,mA,mM]/\Cn kN kN gA BC mA (Cz (F++[((i:Int),r.1,s.2*r.2)])) bs/\OwnMS gB mM mB (Fq (F++[((i:Int),r.1,s.2*r.2)]))) ?_ (fun s h ms hI=>?_)
     ·refine Af (Au (Qx (BU (k) hyR.rd.any rfl Cu AJ rfl rfl) rfl (Qx (oG rfl DE AJ (hsr _)) rfl (CN [.int .i64 0,.int .i64 0] rfl AJ rfl rfl (fun g10=>?_)))));refine Sa 0 [_,_] AJ rfl (by simp[Value.oneCell']) ?_;refine Al (AD fun h5 l5 hS10=>?_);have e81:∀ms,Cell h5 ms (⟨g8,1,none⟩:Addr) (.int .i64 s.2):=fun ms=>(e81 ms).le l5;have ea0:∀ms,Cell h5 ms (⟨g10,0,none⟩:Addr) (.int .i64 r.1):=fun ms=>Seg.all hS10 0 _ rfl ms;have ea1:∀ms,Cell h5 ms (⟨g10,1,none⟩:Addr) (.int .i64 r.2):=fun ms=>Seg.all hS10 1 _ rfl ms;refine Au (Qm rfl (Qf Cy rfl (Ql rfl U3 (ea0 _) (Qx (Dv (V:=kN) (z:=(0:Int)) r.1 hv0 A0 hOA (by simp) rfl Jq Gg rfl rfl hrI.1) rfl (Qf Fa rfl (Ql rfl U3 (e81 _) (Qf Fa rfl (Ql rfl U3 (ea1 _) (Qx (oM rfl) rfl (Qx (oA rfl) rfl (Bv (V:=kN) (z:=undef) 1 r.1 (v0+s.2*r.2) A0 hOA rfl rfl Jq rfl rfl rfl hrI.1 rfl rfl (fun mA' bs' hOA'=>?_))))))))))));rw[<-hs1]at hOA';refine Al ?_;obtain⟨Tv,bv,v,m1,m2,hO,hv,rfl,hd,hO1,close⟩:=hMS.open r.1;refine G5 hd ?_;obtain⟨L,hL⟩:∃L,(A9 (Fq F) r.1).getD []=L:=⟨_,rfl⟩
      have hLl:L.length<=4200:=by rw[<-hL,NC,length_map];exact Nat.le_trans (List.length_filter_le _ _) hFl
      rw[hL]at hO1 hm1;have ov:=hO1.o1;refine BE (n:=11) (bs:=[true,true,true,true,true,true,false,true,false,false,false]) [true,true,true,true,true,true,false,true] CY (by kernel_rfl) (by kernel_rfl) rfl rfl (Qq rfl (QF Cy rfl (QL rfl U3 (ea0 _) (Qq rfl (QF Cy rfl (QL rfl U3 (ea0 _) (Qq rfl ?_)))))));unfold Fy;simp only[cons_append,nil_append];refine A5 [6,8] (by kernel_rfl) rfl ?_;refine Ay rfl ?_ ?_
      ·refine Qx (Dv (V:=Lc) (z:=(Value.slice none 0 0)) r.1 hv A0 hO (by simp) rfl FU KI rfl rfl hrI.1) rfl (Qw (Qo 8 rfl (An [_] rfl AR Be rfl (by rfl) rfl rfl (by omega) rfl rfl rfl (fun g59=>Qw (Qo 9 rfl (AQ 1 hO1 (RdL.one Bl (x:=(i:Int)) Mh rfl) rfl AR Be rfl (by omega) rfl rfl rfl Cm (by(try simp only[length_singleton]);omega) (by(try simp only[length_singleton]);omega) rfl rfl rfl (fun v9 m9 hO9=>?_)))))));have ov9:=hO9.o1;refine Qw (Qo 10 rfl (Bv (V:=Lc) (z:=undef) 4 r.1 v9 A0 hO rfl rfl FU rfl rfl rfl hrI.1 rfl rfl (fun mM' bs2 hM'=>Qw (Qe (AL (DG fun hap=>(Ej ?_)))))));have hdj:=(List.pairwise_cons.1 hap).1 _ Mh;have hMS':=close v9 _ m9 mM' bs2 hdj hO9 hM';rw[<-hm1]at hMS';refine Ai ?_;exact AC _ ⟨_,mA',mM',bs',rfl,l5,rfl,hOA',hMS'⟩ Qs
      refine Ay rfl ?_ ?_
      ·refine An [_] rfl AR Be rfl (by rfl) rfl rfl (by omega) rfl rfl rfl (fun g59=>Qw (Qo 6 rfl (Qx (Dv (V:=Lc) (z:=(Value.slice none 0 0)) r.1 hv A0 hO (by simp) rfl FU KI rfl rfl hrI.1) rfl (Qw (Qo 9 rfl (AQ 1 hO1 (RdL.one Bl (x:=(i:Int)) Mh rfl) rfl AR Be rfl (by omega) rfl rfl rfl Cm (by(try simp only[length_singleton]);omega) (by(try simp only[length_singleton]);omega) rfl rfl rfl (fun v9 m9 hO9=>?_)))))));have ov9:=hO9.o1;refine Qw (Qo 10 rfl (Bv (V:=Lc) (z:=undef) 4 r.1 v9 A0 hO rfl rfl FU rfl rfl rfl hrI.1 rfl rfl (fun mM' bs2 hM'=>Qw (Qe (AL (DG fun hap=>(Ej ?_)))))));have hdj:=(List.pairwise_cons.1 hap).1 _ Mh;have hMS':=close v9 _ m9 mM' bs2 hdj hO9 hM';rw[<-hm1]at hMS';refine Ai ?_;exact AC _ ⟨_,mA',mM',bs',rfl,l5,rfl,hOA',hMS'⟩ Qs
      exact A4
     ·obtain⟨mB,mA,mM,bs,rfl,k4,rfl,hOA,hMS⟩:=hI;rw[<-hF']at hOA hMS;refine Ad (Qx (oA rfl) rfl (Qm rfl (Aj ?_)));exact Ak (y.c.sd.length-(k+1)) _ (by omega) ⟨k+1,mB,mA,mM,bs,rfl,rfl,AI l4 k4,rfl,by omega,hOA,hMS⟩ Qs
    ·obtain rfl:k=y.c.sd.length:=by omega
     rw[take_length,<-hsucc]at hOA hMS;refine As (Aa (Aa (Ae (Ai ?_))));exact AC _ ⟨mB,mA,mM,bs,rfl,AI l3 l4,rfl,hOA,hMS⟩ Qs
   ·obtain⟨mB,mA,mM,bs,rfl,k2,rfl,hOA,hMS⟩:=hI;refine Ad (Qx (oA rfl) rfl (Qm rfl (Aj ?_)));exact Ak (x.c.sd.length-(i+1)) _ (by omega) ⟨i+1,mB,mA,mM,bs,rfl,rfl,AI l2 k2,rfl,by omega,hOA,hMS⟩ Qs
  ·obtain rfl:i=x.c.sd.length:=by omega
   refine As (Aa (Aa (Ae ?_)));exact AC _ ⟨mB,mA,mM,bs,rfl,l2,rfl,hOA,hMS⟩ Qs
 ·obtain⟨mB,mA,mM,bs,rfl,l2,rfl,hOA,hMS⟩:=hI;have hEl:=MT (U.map Ce.c) x.c hK.m x.c.sd.length (Nat.le_refl _)
  have hEi:∀e∈I5 (U.map Ce.c) x.c x.c.sd.length,0<=e.1/\e.1<x.c.sd.length:=fun e he=>by obtain⟨i,hi,r,_,rfl⟩:=MZ he;exact⟨by show 0<=(i:Int);omega,by show(i:Int)<_;omega⟩
  obtain⟨E,hE⟩:∃E,I5 (U.map Ce.c) x.c x.c.sd.length=E:=⟨_,rfl⟩
  rw[hE]at hOA hMS hEl hEi ⊢;refine Bd fun h2 k2 fB=>(Bd fun h3 k3 fA=>(Bd fun h4 k4 fM=>?_))
  have lB:=AI fB (AI k3 k4);have lA:=AI fA k4;have lh4:=AI l2 (AI k2 (AI k3 k4));refine Bb (fun sl h' ms'=>sl=[(3,.pointer (some ⟨g3,0,none⟩)),(6,.map (some gB))]/\h4=h'/\ms'=[]/\∀e∈E,DH E e.2.1=0) ?_ (fun s h ms hI=>?_)
  ·refine Ac (Ad (Qm rfl (IK hOA lA rfl Jq rfl rfl rfl rfl (fun gi mi0 I0=>Al (Af ?_)))))
   refine Ax (fun q sl h' ms'=>∃(vis:List Nat) (mi:Hp),q=(Cz E).length-vis.length/\sl=[(3,.pointer (some ⟨g3,0,none⟩)),(6,.map (some gB)),(64,.pointer (some ⟨gi,0,none⟩))]/\h4=h'/\ms'=[mi]/\Hi gi gA mA mi bs vis/\∀j (hj:j<(Cz E).length),j∈vis->(Cz E)[j].2=0)
    ((Cz E).length-0) _ ⟨[],mi0,rfl,rfl,rfl,rfl,I0,fun j hj h=>nomatch h⟩ Qs ?_
   rintro q sl h' ms' ⟨vis,mi,rfl,rfl,rfl,rfl,I,hz⟩;refine Au ?_;refine KH 0 hOA I lA rfl rfl rfl rfl rfl rfl (fun hall=>?_) (fun j hj mi' hjv I'=>?_)
   ·refine Qm rfl (Al (Ac (AM rfl (As (Aa (Aa (Ae ?_)))))))
    have hzero:∀e∈E,DH E e.2.1=0:=fun e he=>by obtain⟨l,v,hl⟩:=Gz ((KK e.2.1 E).2 ⟨e,he,rfl⟩);rw[<-I7,DI (QY E) hl];obtain⟨h1,h2⟩:=List.getElem?_eq_some_iff.1 hl;have:=hz l h1 (hall l h1);rw[h2]at this;exact this
    refine A8 0 rfl ?_;exact AC _ ⟨rfl,rfl,rfl,hzero⟩ Qs
   ·have hTj:(Cz E)[j].2=DH E (Cz E)[j].1:=by have hg:(Cz E)[j]?=some ((Cz E)[j].1,(Cz E)[j].2):=List.getElem?_eq_getElem hj;rw[<-I7,DI (QY E) hg];rfl
    refine Qm rfl (Al (Ac (B3 rfl (Ag (Ab (Af (Au (Qx (IW hOA I' lA (by simp) hj rfl rfl) rfl (Qm rfl (Qm rfl (BL (Qm rfl (Qm rfl (Al ?_))))))))))))));refine Av rfl (fun hne=>?_) (fun hne=>?_)
    ·have h24:Ts E x.c.sd.length=24:=by unfold Ts;rw[if_pos fun w=>?_];obtain⟨e,he,h1⟩:=(KK (Cz E)[j].1 E).1 (List.mem_map.2 ⟨_,getElem_mem hj,rfl⟩);have:=w e he;rw[h1,<-hTj]at this;exact hne this
     refine Au (Qm rfl (Al (Ao (Am (Ah (Am (Ah ?_)))))));exact Az rfl rfl (by rw[h24])
    ·refine Ag (Ai ?_);refine Ak ((Cz E).length-(vis.length+1)) _ ?_ ⟨vis++[j],mi',by simp,rfl,rfl,rfl,I',fun i hi' hv=>?_⟩ Qs
     ·have hlt:vis.length<(Cz E).length:=by
       have h1:=Go.Kuhn.nodup_le (vis++[j]) (range (Cz E).length) I'.nodup fun x hx=>by rw[List.mem_range,<-hOA.len];exact I'.lt x hx
       simp at h1;omega
      omega
     ·rcases List.mem_append.1 hv with hv|hv
      ·exact hz i hi' hv
      ·simp at hv;subst hv;exact Classical.not_not.1 hne
  ·obtain⟨rfl,rfl,rfl,hzero⟩:=hI;obtain⟨Tv,bv,hOv,hKv,hRv,hRa⟩:=hMS.look lB;obtain⟨M,hM⟩:∃M,Fq E=M:=⟨_,rfl⟩
   have hMn:=YK E;have hMk:=fun c=>RI c E;have hMg:=fun c=>NC c E;rw[hM]at hKv hRv hRa hMn hMk hMg;have hTl:Tv.length=M.length:=by have:=congrArg List.length hKv;simpa using this
   refine Au (Cp (K:=kN) (V:=Lc) (Ok:=BC) rfl rfl rfl rfl (fun gJ mJ hJ0=>CN [.map none] rfl Yq rfl rfl (fun g13=>AK 0 0 rfl Yq rfl rfl (by rfl) rfl rfl (by decide) rfl rfl (Al (AD fun h5 k5 hS13=>?_)))));have e13:∀ms,Cell h5 ms (⟨g13,0,none⟩:Addr) (.map (some gJ)):=fun ms=>Seg.all hS13 0 _ rfl ms;refine BG ?_;have hJS0:=OwnMS.start hJ0;have fM5:=AI fM k5
   let pr:Nat->Int×Int:=fun j=>(((M.getD j (0,[])).2).getD 0 0,((M.getD j (0,[])).2).getD 1 0)
   refine Bb (fun sl h' ms'=>∃(vis:List Nat) (mJB mJ:Hp),sl=[(3,.pointer (some ⟨g3,0,none⟩)),(13,.pointer (some ⟨g13,0,none⟩))]/\h5=h'/\ms'=[mJB,mJ]/\OwnMS gJ mJ mJB (Eu (vis.map pr))/\vis.length<=M.length/\(∀j,j∈vis->j<M.length)/\(∀j,j<M.length->j∈vis)/\∀j (hj:j<M.length),M[j].2.length=2) ?_ (fun s h ms hI=>?_)
   ·refine Ac (Ad (Qm rfl (IK hOv fM5 rfl FU rfl rfl rfl rfl (fun gi mi0 I0=>Al (Af (DN 1 rfl ?_))))))
    refine Ax (fun q sl h' ms'=>∃(vis:List Nat) (mi mJB mJ:Hp),q=M.length-vis.length/\sl=[(3,.pointer (some ⟨g3,0,none⟩)),(13,.pointer (some ⟨g13,0,none⟩)),(73,.pointer (some ⟨gi,0,none⟩))]/\h5=h'/\ms'=[mJB,mi,mJ]/\Hi gi gB mM mi bv vis/\OwnMS gJ mJ mJB (Eu (vis.map pr))/\∀j (hj:j<M.length),j∈vis->M[j].2.length=2)
     (M.length-0) _ ⟨[],mi0,Hp.emp,mJ,rfl,rfl,rfl,rfl,I0,hJS0,fun j hj h=>nomatch h⟩ Qs ?_
    rintro q sl h' ms' ⟨vis,mi,mJB,mJ,rfl,rfl,rfl,rfl,I,hJS,hz⟩
    have hvl:∀{w:List Nat} {m':Hp},Hi gi gB mM m' bv w->w.length<=M.length/\∀j,j∈w->j<M.length:=fun {w m'} I=>by
     have hlt:∀x∈w,x<M.length:=fun x hx=>by rw[<-hTl,<-hOv.len];exact I.lt x hx
     have h1:=Go.Kuhn.nodup_le w (range M.length) I.nodup fun x hx=>List.mem_range.2 (hlt x hx);rw[length_range]at h1;exact⟨h1,hlt⟩
    refine Au ?_;refine KH 1 hOv I fM5 rfl rfl rfl rfl rfl rfl (fun hall=>?_) (fun j hj mi' hjv I'=>?_)
    ·refine Qm rfl (Al (Ac (AM rfl (As (Aa (Aa (Ae (A8 1 rfl ?_))))))));exact AC _ ⟨vis,mJB,mJ,rfl,rfl,rfl,hJS,(hvl I).1,(hvl I).2,fun j hj=>hall j (by omega),fun j hj=>hz j hj (hall j (by omega))⟩ Qs
    ·have hjM:j<M.length:=by omega
     have hRj:=(hRv j hj hjM).2.up k5
     have hcj:(A9 M M[j].1).getD []=M[j].2:=by have hg:M[j]?=some (M[j].1,M[j].2):=List.getElem?_eq_getElem hjM;rw[DI hMn hg];rfl
     have hcE:=hMg M[j].1;rw[hcj]at hcE;obtain⟨v,hv⟩:∃v,Tv[j].2=v:=⟨_,rfl⟩
     obtain⟨L,hL⟩:∃L,M[j].2=L:=⟨_,rfl⟩
     rw[hv,hL]at hRj;have ov:=hRj.rd.one;have hLl:L.length<=4200:=by rw[<-hL,hcE,length_map];exact Nat.le_trans (List.length_filter_le _ _) (by omega)
     refine Qm rfl (Al (Ac (B3 rfl (Ag (Ab (Af (Au (Qx (IW hOv I' fM5 (by simp) hj rfl rfl) rfl ?_))))))));rw[hv];refine Qm rfl (Qm rfl (Al (Ac (Au (Qm rfl (Qx (Ar hRj.rd.any rfl AR rfl) rfl (Qm rfl (Al ?_))))))));refine Av rfl (fun hne=>?_) (fun hne=>?_)
     ·have h25:Ts E x.c.sd.length=25:=by unfold Ts;rw[if_neg (fun w=>w hzero),if_pos fun w=>?_];obtain⟨e,he,h1⟩:=(hMk M[j].1).1 (List.mem_map.2 ⟨_,getElem_mem hjM,rfl⟩);have:=w e he;rw[h1,Hv,<-length_map (f:=fun e:Int×Int×Int=>e.1),<-hcE,hL]at this;exact hne (by omega)
      refine Au (Qm rfl (Al (Ao (Ah (Am (Ah (Am (Ah ?_))))))));exact Az rfl rfl (by rw[h25])
     ·have hL2:L.length=2:=by omega
      obtain⟨a,b,rfl⟩:∃a b,L=[a,b]:=by
       match L,hL2 with
       | [a,b],_=>exact⟨a,b,rfl⟩
      have hin:∀k∈[a,b],0<=k/\k<x.c.sd.length:=fun k hk=>by rw[<-hL,hcE]at hk;obtain⟨e,he,rfl⟩:=List.mem_map.1 hk;exact hEi e (List.mem_filter.1 he).1
      have ha:=hin a Mh;have hb:=hin b (mem_cons_of_mem _ Mh);have haI:BC a:=by unfold BC;omega
      have hbI:BC b:=by unfold BC;omega
      have hprj:pr j=(a,b):=by
       simp only[pr];have:M.getD j (0,[])=M[j]:=by simp[List.getD,hjM]
       rw[this,hL];rfl
      have hMl:M.length<=4200:=by rw[<-hM];have:=Qi E;omega
      have hPl:(vis.map pr).length<=4200:=by rw[length_map];have:=(hvl I).1;omega
      have hjl:=LN (vis.map pr);have hsn:Eu ((vis++[j]).map pr)=EA (EA (Eu (vis.map pr)) a b) b a:=by rw[map_append,List.map_singleton,Hr,hprj]
      have hj1:=IY (Eu (vis.map pr)) a b _ hjl;obtain⟨T0,hT0⟩:∃T0,Eu (vis.map pr)=T0:=⟨_,rfl⟩
      rw[hT0]at hJS hjl hsn hj1;have ca:∀ms,Cell h5 ms ((AF v).add (0*1)) (.int .i64 a):=fun ms=>(hRj.any (ms:=ms)).cell0 (j:=0) (by simp) rfl;have cb:∀ms,Cell h5 ms ((AF v).add (1*1)) (.int .i64 b):=fun ms=>(hRj.any (ms:=ms)).cell0 (j:=1) (by simp) rfl;refine Ag (Ab ?_);obtain⟨Tv1,bv1,u,m1,m2,hO,hu,rfl,hd,hO1,close⟩:=hJS.open a;refine G5 hd ?_;obtain⟨L0,hL0⟩:∃L0,(A9 T0 a).getD []=L0:=⟨_,rfl⟩
      have hL0l:L0.length<=10000:=by rw[<-hL0];have:=hjl a;omega
      rw[hL0]at hO1;have hjeq:EA T0 a b=CC T0 a (L0++[b]):=by unfold EA;rw[hL0]
      have ou:=hO1.o1;refine Bb (fun sl h' ms'=>∃(mJB mJ:Hp),sl=[(3,.pointer (some ⟨g3,0,none⟩)),(13,.pointer (some ⟨g13,0,none⟩)),(15,v),(73,.pointer (some ⟨gi,0,none⟩))]/\h5=h'/\ms'=[mJB,mi',mJ]/\OwnMS gJ mJ mJB (EA T0 a b)) ?_ (fun s h ms hI=>?_)
      ·refine BE (n:=15) (bs:=[true,true,true,true,true,true,true,true,false,true,true,true,false,false,false]) [true,true,true,true,true,true,true,true,false,true,true,true] CY (by kernel_rfl) (by kernel_rfl) rfl rfl (QL rfl FU (e13 _) (Qq rfl (Qp rfl (AB 0 hRj.rd.any rfl AR Be rfl rfl rfl (by omega)) (QL rfl U3 (ca _) (QL rfl FU (e13 _) (Qq rfl (Qp rfl (AB 0 hRj.rd.any rfl AR Be rfl rfl rfl (by omega)) (QL rfl U3 (ca _) (Qq rfl (Qp rfl (AB 1 hRj.rd.any rfl AR Be rfl rfl rfl (by omega)) (QL rfl U3 (cb _) ?_)))))))))));unfold Fy;simp only[cons_append,nil_append];refine A5 [8,12] (by kernel_rfl) rfl ?_;refine Ay rfl ?_ ?_
       ·refine Qx (Dv (V:=Lc) (z:=(Value.slice none 0 0)) a hu A0 hO (by simp) rfl FU KI rfl rfl haI) rfl (Qw (Qo 12 rfl (An [_] rfl AR Be rfl (by rfl) rfl rfl (by omega) rfl rfl rfl (fun g93=>Qw (Qo 13 rfl (AQ 1 hO1 (RdL.one Bl (x:=b) Mh rfl) rfl AR Be rfl (by omega) rfl rfl rfl Cm (by(try simp only[length_singleton]);omega) (by(try simp only[length_singleton]);omega) rfl rfl rfl (fun v9 m9 hO9=>?_)))))));have ov9:=hO9.o1;refine Qw (Qo 14 rfl (Bv (V:=Lc) (z:=undef) 4 a v9 A0 hO rfl rfl FU rfl rfl rfl haI rfl rfl (fun mM' bs2 hM'=>Qw (Qe (AL (DG fun hap=>(Ej ?_)))))));have hdj:=(List.pairwise_cons.1 hap).1 _ Mh;have hMS':=close v9 _ m9 mM' bs2 hdj hO9 hM';rw[<-hjeq]at hMS';exact AC _ ⟨_,mM',rfl,rfl,rfl,hMS'⟩ Qs
       refine Ay rfl ?_ ?_
       ·refine An [_] rfl AR Be rfl (by rfl) rfl rfl (by omega) rfl rfl rfl (fun g93=>Qw (Qo 8 rfl (Qx (Dv (V:=Lc) (z:=(Value.slice none 0 0)) a hu A0 hO (by simp) rfl FU KI rfl rfl haI) rfl (Qw (Qo 13 rfl (AQ 1 hO1 (RdL.one Bl (x:=b) Mh rfl) rfl AR Be rfl (by omega) rfl rfl rfl Cm (by(try simp only[length_singleton]);omega) (by(try simp only[length_singleton]);omega) rfl rfl rfl (fun v9 m9 hO9=>?_)))))));have ov9:=hO9.o1;refine Qw (Qo 14 rfl (Bv (V:=Lc) (z:=undef) 4 a v9 A0 hO rfl rfl FU rfl rfl rfl haI rfl rfl (fun mM' bs2 hM'=>Qw (Qe (AL (DG fun hap=>(Ej ?_)))))));have hdj:=(List.pairwise_cons.1 hap).1 _ Mh;have hMS':=close v9 _ m9 mM' bs2 hdj hO9 hM';rw[<-hjeq]at hMS';exact AC _ ⟨_,mM',rfl,rfl,rfl,hMS'⟩ Qs
       exact A4
      ·obtain⟨mJB,mJ,rfl,rfl,rfl,hJS⟩:=hI;obtain⟨T1,hT1⟩:∃T1,EA T0 a b=T1:=⟨_,rfl⟩
       rw[hT1]at hJS hj1 hsn;obtain⟨Tv2,bv2,u2,m1,m2,hO,hu,rfl,hd,hO1,close⟩:=hJS.open b;refine G5 hd ?_;obtain⟨L1,hL1⟩:∃L1,(A9 T1 b).getD []=L1:=⟨_,rfl⟩
       have hL1l:L1.length<=10000:=by rw[<-hL1];have:=hj1 b;omega
       rw[hL1]at hO1;have hjeq2:EA T1 b a=CC T1 b (L1++[a]):=by unfold EA;rw[hL1]
       have ou2:=hO1.o1;refine BE (n:=15) (bs:=[true,true,true,true,true,true,true,true,false,true,true,true,false,false,false]) [true,true,true,true,true,true,true,true,false,true,true,true] CY (by kernel_rfl) (by kernel_rfl) rfl rfl (QL rfl FU (e13 _) (Qq rfl (Qp rfl (AB 1 hRj.rd.any rfl AR Be rfl rfl rfl (by omega)) (QL rfl U3 (cb _) (QL rfl FU (e13 _) (Qq rfl (Qp rfl (AB 1 hRj.rd.any rfl AR Be rfl rfl rfl (by omega)) (QL rfl U3 (cb _) (Qq rfl (Qp rfl (AB 0 hRj.rd.any rfl AR Be rfl rfl rfl (by omega)) (QL rfl U3 (ca _) ?_)))))))))));unfold Fy;simp only[cons_append,nil_append];refine A5 [8,12] (by kernel_rfl) rfl ?_;refine Ay rfl ?_ ?_
       ·refine Qx (Dv (V:=Lc) (z:=(Value.slice none 0 0)) b hu A0 hO (by simp) rfl FU KI rfl rfl hbI) rfl (Qw (Qo 12 rfl (An [_] rfl AR Be rfl (by rfl) rfl rfl (by omega) rfl rfl rfl (fun g107=>Qw (Qo 13 rfl (AQ 1 hO1 (RdL.one Bl (x:=a) Mh rfl) rfl AR Be rfl (by omega) rfl rfl rfl Cm (by(try simp only[length_singleton]);omega) (by(try simp only[length_singleton]);omega) rfl rfl rfl (fun v9 m9 hO9=>?_)))))));have ov9:=hO9.o1;refine Qw (Qo 14 rfl (Bv (V:=Lc) (z:=undef) 4 b v9 A0 hO rfl rfl FU rfl rfl rfl hbI rfl rfl (fun mM' bs2 hM'=>Qw (Qe (AL (DG fun hap=>(Ej ?_)))))));have hdj:=(List.pairwise_cons.1 hap).1 _ Mh;have hMS':=close v9 _ m9 mM' bs2 hdj hO9 hM';rw[<-hjeq2,<-hsn]at hMS';refine Ai ?_;have hv':=(hvl I').1;rw[length_append,length_singleton]at hv';exact Ak (M.length-(vis.length+1)) _ (by omega) ⟨vis++[j],mi',_,mM',by simp,rfl,rfl,rfl,I',hMS',fun i hi' hv=>by rcases List.mem_append.1 hv with hv|hv;exact hz i hi' hv;simp at hv;subst hv;rw[hL];rfl⟩ Qs
       refine Ay rfl ?_ ?_
       ·refine An [_] rfl AR Be rfl (by rfl) rfl rfl (by omega) rfl rfl rfl (fun g107=>Qw (Qo 8 rfl (Qx (Dv (V:=Lc) (z:=(Value.slice none 0 0)) b hu A0 hO (by simp) rfl FU KI rfl rfl hbI) rfl (Qw (Qo 13 rfl (AQ 1 hO1 (RdL.one Bl (x:=a) Mh rfl) rfl AR Be rfl (by omega) rfl rfl rfl Cm (by(try simp only[length_singleton]);omega) (by(try simp only[length_singleton]);omega) rfl rfl rfl (fun v9 m9 hO9=>?_)))))));have ov9:=hO9.o1;refine Qw (Qo 14 rfl (Bv (V:=Lc) (z:=undef) 4 b v9 A0 hO rfl rfl FU rfl rfl rfl hbI rfl rfl (fun mM' bs2 hM'=>Qw (Qe (AL (DG fun hap=>(Ej ?_)))))));have hdj:=(List.pairwise_cons.1 hap).1 _ Mh;have hMS':=close v9 _ m9 mM' bs2 hdj hO9 hM';rw[<-hjeq2,<-hsn]at hMS';refine Ai ?_;have hv':=(hvl I').1;rw[length_append,length_singleton]at hv';exact Ak (M.length-(vis.length+1)) _ (by omega) ⟨vis++[j],mi',_,mM',by simp,rfl,rfl,rfl,I',hMS',fun i hi' hv=>by rcases List.mem_append.1 hv with hv|hv;exact hz i hi' hv;simp at hv;subst hv;rw[hL];rfl⟩ Qs
       exact A4
   ·obtain⟨vis,mJB,mJ,rfl,rfl,rfl,hJS,hv1,hv2,hv3,h2⟩:=hI;refine Bd fun h6 k6 fJB=>(Bd fun h7 k7 fJ=>?_)
    have fJB7:=AI fJB k7;have l57:=AI k6 k7;refine Au (Cp (K:=kN) (V:=vB) (Ok:=BC) rfl rfl rfl rfl (fun gS mS hS0=>CN [.map none] rfl Aaw rfl rfl (fun g16=>AK 0 0 rfl Aaw rfl rfl (by rfl) rfl rfl (by decide) rfl rfl (Al (AD fun h8 k8 hS16=>?_)))));have e16:∀ms,Cell h8 ms (⟨g16,0,none⟩:Addr) (.map (some gS)):=fun ms=>Seg.all hS16 0 _ rfl ms;refine Au (CN [.nilFunc] rfl Yd rfl rfl (fun g17=>BL (Qx (BH rfl rfl rfl) rfl (AK 0 0 rfl Yd rfl rfl (by rfl) rfl rfl (by decide) rfl rfl (Al (AD fun h9 k9 hS17=>?_))))));have e17:∀ms,Cell h9 ms (⟨g17,0,none⟩:Addr) (.func (.func 142) #[] #[.pointer (some ⟨g16,0,none⟩),.pointer (some ⟨g13,0,none⟩),.pointer (some ⟨g17,0,none⟩)]):=fun ms=>Seg.all hS17 0 _ rfl ms;obtain⟨P,hP⟩:∃P,vis.map pr=P:=⟨_,rfl⟩
    rw[hP]at hJS
    have hpm:∀p,p∈P<->∃j,∃hj:j<M.length,M[j].2=[p.1,p.2]:=fun p=>by
     rw[<-hP,List.mem_map]
     have hpj:∀j (hj:j<M.length),M[j].2=[(pr j).1,(pr j).2]:=fun j hj=>by
      have e:M.getD j (0,[])=M[j]:=by simp[List.getD,hj]
      simp only[pr];rw[e];have hl:=h2 j hj
      match M[j].2,hl with
      | [a,b],_=>rfl
     constructor
     ·rintro⟨j,hj,rfl⟩;exact⟨j,hv2 j hj,hpj j _⟩
     ·rintro⟨j,hj,e⟩;refine⟨j,hv3 j hj,?_⟩;have:=hpj j hj;rw[e]at this;simp only[List.cons.injEq,and_true]at this;exact Prod.ext this.1.symm this.2.symm
    have hMj:∀j (hj:j<M.length),(E.filter fun e=>decide (e.2.1=M[j].1)).map (fun e=>e.1)=M[j].2:=fun j hj=>by have hg:M[j]?=some (M[j].1,M[j].2):=List.getElem?_eq_getElem hj;rw[<-hMg,DI hMn hg];rfl
    have hcnt:∀e∈E,ER E e.2.1=2:=fun e he=>by obtain⟨l,v,hl⟩:=Gz ((hMk e.2.1).2 ⟨e,he,rfl⟩);obtain⟨h1,e1⟩:=List.getElem?_eq_some_iff.1 hl;have h3:=hMj l h1;have h4:=h2 l h1;rw[<-h3,e1,length_map]at h4;rw[Hv];have h4:(E.filter fun e'=>decide (e'.2.1=e.2.1)).length=2:=h4;omega
    have hJm:∀a k,k∈(A9 (Eu P) a).getD []<->∃c p q,(E.filter fun e=>decide (e.2.1=c)).map (fun e=>e.1)=[p,q]/\((a=p/\k=q)\/(a=q/\k=p)):=fun a k=>by
     rw[Rp,hpm,hpm];constructor
     ·rintro(⟨j,hj,e⟩|⟨j,hj,e⟩)
      ·exact⟨M[j].1,a,k,by rw[hMj j hj,e],.inl ⟨rfl,rfl⟩⟩
      ·exact⟨M[j].1,k,a,by rw[hMj j hj,e],.inr ⟨rfl,rfl⟩⟩
     ·rintro⟨c,p,q,e,h⟩
      have hc:∃j,∃hj:j<M.length,M[j].2=[p,q]:=by
       have hm:c∈M.map Prod.fst:=(hMk c).2 (by
        have hpm:p∈(E.filter fun e=>decide (e.2.1=c)).map (fun e=>e.1):=by rw[e];exact Mh
        obtain⟨e',he',_⟩:=List.mem_map.1 hpm;obtain⟨h3,h4⟩:=List.mem_filter.1 he'
        exact⟨e',h3,of_decide_eq_true h4⟩)
       obtain⟨l,v,hl⟩:=Gz hm;obtain⟨h1,e1⟩:=List.getElem?_eq_some_iff.1 hl;refine⟨l,h1,?_⟩;rw[<-hMj l h1,e1];exact e
      obtain⟨j,hj,e2⟩:=hc;rcases h with ⟨rfl,rfl⟩|⟨rfl,rfl⟩
      ·exact .inl ⟨j,hj,e2⟩
      ·exact .inr ⟨j,hj,e2⟩
    have hPl:P.length<=4200:=by rw[<-hP,length_map];have:=Qi E;rw[hM]at this;omega
    have V:ZN h9 gS gJ g16 g13 g17 mJ mJB (Eu P) (fun a=>(A9 (Eu P) a).getD []) x.c.sd.length:=⟨fun ms=>(e16 ms).le k9,fun ms=>(e13 ms).le (AI l57 (AI k8 k9)),e17,hJS,AI fJ (AI k8 k9),AI fJB7 (AI k8 k9),fun a=>rfl,fun a k hk=>by
     obtain⟨c,p,q,e,h⟩:=(hJm a k).1 hk
     have hin:∀y∈[p,q],0<=y/\y<x.c.sd.length:=fun y hy=>by rw[<-e]at hy;obtain⟨e',he',rfl⟩:=List.mem_map.1 hy;exact hEi e' (List.mem_filter.1 he').1
     rcases h with ⟨_,rfl⟩|⟨_,rfl⟩
     ·exact hin _ (mem_cons_of_mem _ Mh)
     ·exact hin _ Mh,fun a=>by have:=LN P a;show((A9 (Eu P) a).getD []).length<=_;omega,by omega⟩
    refine Au (Ql rfl Aad (e17 _) (GX (pre:=[mS]) rfl rfl call142 rfl (Ua V (ZE x.c.sd.length []+1) 0 [] [] mS hK.p hS0 (fun p hp=>nomatch hp) (Nat.lt_succ_self _)) rfl rfl rfl rfl (fun v' h' pre' l' hF=>?_)));obtain⟨rfl,m',T',bs',rfl,hO',hA',R⟩:=hF;simp only[cons_append,nil_append,append_nil];refine Al (Ac (Au (Ql rfl RX ((e16 _).le k9) (Qx (Wy hO' (by simp) rfl RX rfl) rfl ?_))));have hX9:=hX.up (AI lh4 (AI k5 (AI l57 (AI k8 k9))))
    have hmem:∀y,y∈FG T'<->Con E 0 y:=fun y=>by
     rw[X0 hcnt hJm];constructor
     ·intro h;exact(R.new y h (fun q=>nomatch q)).1.1
     ·intro h
      induction h with
      | refl=>exact R.me
      | step _ h3 ih=>exact(R.new _ ih (fun q=>nomatch q)).1.2 _ h3
    have hlen:T'.length=x.c.sd.length<->(0<x.c.sd.length/\∀i:Nat,i<x.c.sd.length->Con E 0 i):=by
     have hnd:=hO'.keys
     have hsub:∀y∈FG T',y∈(range x.c.sd.length).map fun(i:Nat)=>(i:Int):=fun y hy=>by have:=(R.new y hy (fun q=>nomatch q)).2;exact List.mem_map.2 ⟨y.toNat,List.mem_range.2 (by omega),by omega⟩
     have hle:=Go.Kuhn.nodup_le _ _ hnd hsub;have hr:((range x.c.sd.length).map fun(i:Nat)=>(i:Int)).Nodup:=List.pairwise_map.2 (List.nodup_range.imp fun h e=>h (by omega));constructor
     ·intro h;refine⟨hK.p,fun i hi=>(hmem _).1 (Classical.byContradiction fun hn=>?_)⟩
      have h3:=Go.Kuhn.nodup_le ((i:Int)::FG T') _ (List.nodup_cons.2 ⟨hn,hnd⟩) fun y hy=>by
       rcases List.mem_cons.1 hy with rfl|hy
       ·exact List.mem_map.2 ⟨i,List.mem_range.2 hi,rfl⟩
       ·exact hsub y hy
      rw[length_cons,length_map,length_map,length_range]at h3;omega
     ·rintro⟨_,h⟩
      have h3:=Go.Kuhn.nodup_le _ (FG T') hr fun y hy=>by obtain⟨i,hi,rfl⟩:=List.mem_map.1 hy;exact(hmem _).2 (h i (List.mem_range.1 hi))
      rw[length_map,length_map,length_range]at h3;rw[length_map,length_map,length_range]at hle;omega
    refine Qf B5 rfl (Ql rfl Cu (((hA 2 _ rfl _).le (AI lh4 (AI k5 (AI l57 (AI k8 k9)))))) (Qx (Ar hX9.rd.any rfl Cu rfl) rfl (Qm rfl (Al ?_))));refine Av rfl (fun hne=>?_) (fun hne=>?_)
    ·refine Ac (Ad (Qm rfl (Al (Ao (Ah ?_)))));exact Az rfl rfl (by unfold Ts;rw[if_neg (fun w=>w hzero),if_neg (fun w=>w hcnt),if_pos (fun w=>hne (by rw[hlen.2 w]))])
    ·refine Ag (Ab (Au (Qm rfl (Al (Ao ?_)))));exact Az rfl rfl (by unfold Ts;rw[if_neg (fun w=>w hzero),if_neg (fun w=>w hcnt),if_neg (fun w=>w (hlen.1 (by omega)))])
variable {U o:List Cl} {i:Nat}
theorem D0{e:Entry}{Q:Exit->Act->World->Prop}{ops:Array Oper}{r:List Oper}{s:Aw}{h:Hp}{ms:List Hp}(k:WL e ops Q r s h ms):∀pre:List Hp,WL e ops Q r s h (pre++ms)
 | []=>k
 | m::pre=>So 0 rfl (D0 k pre)
def Jh(o:List Cl)(i:Nat):Int:=if i=0 then 0 else(o.getD (i-1) default).id
def cA(U o:List Cl)(i:Nat):Option (Int×Int):=
 if(o.getD i default).id<=Jh o i then some ((o.getD i default).id,20)
 else if DB U (o.getD i default)≠0 then some ((o.getD i default).id,DB U (o.getD i default)) else none
noncomputable def Rv(U o:List Cl)(i:Nat):Option (Int×Int):=
 if 1<(o.getD i default).dim then
  if Ts (I5 U (o.getD i default) (o.getD i default).sd.length) (o.getD i default).sd.length≠0 then some ((o.getD i default).id,Ts (I5 U (o.getD i default) (o.getD i default).sd.length) (o.getD i default).sd.length) else none
 else none
noncomputable def La(U o:List Cl):Int×Int:=
 match (range o.length).findSome? (cA U o) with
 | some e=>e
 | none=>match (range o.length).findSome? (Rv U o) with
  | some e=>e
  | none=>(0,0)
theorem US{e:Int×Int}(hi:i<o.length)(h:∀j,j<i->cA U o j=none)(he:cA U o i=some e):La U o=e:=by unfold La;rw[Eb h he o.length hi]
theorem YZ{e:Int×Int}(hA:∀j,j<o.length->cA U o j=none)(hi:i<o.length)(h:∀j,j<i->Rv U o j=none)(he:Rv U o i=some e):La U o=e:=by unfold La;rw[CF o.length hA,Eb h he o.length hi]
theorem UI(hA:∀j,j<o.length->cA U o j=none)(hB:∀j,j<o.length->Rv U o j=none):La U o=(0,0):=by unfold La;rw[CF o.length hA,CF o.length hB]
structure ZW(l:List Ce):Prop extends OfOk l where
 d:∀a∈l,BC a.c.dim
 r:∀a∈l,∀s∈a.c.sd,BC s.1/\BC s.2
theorem LC{x:Cl}(h:DB U x=0):(0<=x.dim/\x.dim<=8)/\¬Cj x/\(∀i,i<x.sd.length->¬G8 U x i)/\∀i,i<x.sd.length->¬B9 x i:=by
 unfold DB at h;split at h
 ·exact absurd h (by decide)
 rename_i h1;split at h
 ·exact absurd h (by decide)
 rename_i h2;split at h
 ·exact absurd h (by decide)
 rename_i h3;split at h
 ·exact absurd h (by decide)
 rename_i h4;exact⟨by omega,h2,Classical.not_not.1 h3,Classical.not_not.1 h4⟩
theorem Ip(h:i<o.length):o.getD i default=o[i]:=by simp[List.getD,h]
theorem QU(hi:i<o.length)(h:cA U o i=none):Jh o i<o[i].id/\DB U o[i]=0:=by
 unfold cA at h;rw[Ip hi]at h;split at h
 ·cases h
 ·rename_i h1;split at h
  ·cases h
  ·rename_i h2;exact⟨by omega,Classical.not_not.1 h2⟩
theorem ZC(h:∀j,j<o.length->cA U o j=none):o.Pairwise fun a b=>a.id<b.id:=by
 have key:∀j (hj:j<o.length) i (hi:i<j),o[i].id<o[j].id:=fun j=>by
  induction j with
  | zero=>intro hj i hi;omega
  | succ j ih=>
   intro hj i hi;have h1:=(QU hj (h _ hj)).1
   have h2:Jh o (j+1)=o[j].id:=by unfold Jh;rw[if_neg (by omega),Nat.add_sub_cancel,Ip (by omega)]
   rw[h2]at h1;rcases (by omega:i<j\/i=j) with h3|rfl
   ·have:=ih (by omega) i h3;omega
   ·exact h1
 rw[List.pairwise_iff_getElem];intro i j hi hj hij;exact key j hj i hij
theorem ZR{l o1 o2:List Cl}(C1:CanO l o1)(C2:CanO l o2)(hU:∀y∈U,y∈o1)(hr:∀a∈l,∀s∈a.sd,BC s.1/\BC s.2)(hA:∀j,j<o2.length->cA U o2 j=none){x:Cl}(hx:x∈o2)(hd:1<x.dim):XH U x:=by
 have hnd:(l.map Cl.id).Nodup:=C2.ids.nodup_iff.1 (Pz (ZC hA))
 have hf:∀y∈o2,DB U y=0:=fun y hy=>by obtain⟨j,hj,rfl⟩:=getElem_of_mem hy;exact(QU hj (hA j hj)).2
 have hy2:∀y∈o2,y.sd.length<=64/\∀s∈y.sd,BC s.1/\(s.2=1\/s.2=-1):=fun y hy=>by obtain⟨h1,h2,h3,h4⟩:=LC (hf y hy);refine⟨by unfold Cj at h2;omega,fun s hs=>?_⟩;obtain⟨i,hi,rfl⟩:=getElem_of_mem hs;have h5:=h4 i hi;unfold B9 at h5;rw[Bp hi]at h5;obtain⟨a,ha,_,_,hp⟩:=C2.sim.mem y hy;exact⟨(hr a ha _ (hp.mem_iff.1 (getElem_mem hi))).1,by omega⟩
 have hyU:∀y∈U,y.sd.length<=64/\∀s∈y.sd,BC s.1/\(s.2=1\/s.2=-1):=fun y hy=>by obtain⟨a,ha,_,_,hp⟩:=C1.sim.mem y (hU y hy);obtain⟨y',hy',_,_,hp'⟩:=C2.sim.to hnd ha;obtain⟨h1,h2⟩:=hy2 y' hy';refine⟨by rw[hp.length_eq,<-hp'.length_eq];exact h1,fun s hs=>h2 s (hp'.mem_iff.2 (hp.mem_iff.1 hs))⟩
 have hcel:∀c,(FS U c).sd.length<=64/\∀s∈(FS U c).sd,BC s.1/\(s.2=1\/s.2=-1):=fun c=>by
  unfold FS OQ;cases hc:U.find? fun y=>decide (y.id=c) with
  | none=>exact⟨by simp[default,instInhabitedCl.default],fun s hs=>by simp[default,instInhabitedCl.default]at hs⟩
  | some y=>exact hyU y (List.mem_of_find?_eq_some hc)
 obtain⟨h1,h2⟩:=hy2 x hx;obtain⟨_,h4,_,_⟩:=LC (hf x hx);exact⟨h1,by unfold Cj at h4;omega,fun i _=>(hcel _).1,fun s hs=>h2 s hs,fun i _ r hr=>(hcel _).2 r hr⟩
theorem Sn(l:List Ce)(v:Value)(hp:Hp)(hK:ZW l)(hR:RdC hp v l):FnT Tryz.prog 28 #[.agg #[v]] hp [] (fun r _ _=>∃e,r=.tuple #[.int .i64 e.1,.int .i64 e.2]/\((4000<l.length/\e=(0,2))\/(l.length<=4000/\∃A1 A2:List Ce,CanO (l.map Ce.c) (A1.map Ce.c)/\CanO (l.map Ce.c) (A2.map Ce.c)/\e=La ((Pt A1).map Ce.c) (A2.map Ce.c)))):=by
 have o1:=hR.q.rd.one;refine Ap func28 ntmps28 rfl rfl (fun w0 hw0=>?_);simp only[AU];refine Au (AX [_] rfl rfl (by rfl) rfl rfl rfl (fun g1=>Qm rfl (Qm rfl (Al (AD fun h1 l1 hS=>?_)))));have hR:=hR.up l1;refine Ac (Au (Qf BW rfl (Ql rfl Bk (Seg.all hS 0 _ rfl _) (Qx (Ar hR.q.rd.any rfl Bk rfl) rfl (Qm rfl (Al ?_))))));refine Av rfl (fun h4=>?_) (fun h4=>?_)
 ·refine Ac (Ad (Qm rfl (Qm rfl (Al (Ao (Ah ?_))))));exact BP rfl rfl rfl (⟨(0,2),rfl,.inl ⟨by omega,rfl⟩⟩)
 ·refine Ag (Ab (Au (Qx (oG rfl CM AV (Seg.any hS)) rfl (Qc call64 rfl (Ys l v h1 hK.toOfOk hR) (fun rT h2 ms2 l2 hF=>?_)))));obtain⟨l2',rfl,g,A1,rfl,hC1,hT⟩:=hF;have hR2:=hR.up l2;have hS2:=hS.le l2;refine Qm rfl (BL (Qx (oG rfl CM AV (Seg.any hS2)) rfl (Qc call65 rfl (II l v h2 hK.n hK.s hR2) (fun rC h3 ms3 l3 hF=>?_))));obtain⟨l3',mA,A2,vA,rfl,rfl,hOA,hC2,hsA⟩:=hF;refine Bw hOA fun hq l4 hQ=>?_;have hsA:=fun a ha=>(hsA a ha).up l4;have hT:=hT.up (AI l3 l4);have ovA:=hQ.rd.one
  have hU1:∀y∈(Pt A1).map Ce.c,y∈A1.map Ce.c:=fun y hy=>by
   obtain⟨a,ha,rfl⟩:=List.mem_map.1 hy;rcases JO _ _ a ha with h|h
   ·cases h
   ·exact List.mem_map.2 ⟨a,h,rfl⟩
  obtain⟨W,hW⟩:∃W,Pt A1=W:=⟨_,rfl⟩
  rw[hW]at hT hU1;have hol:A2.length=l.length:=by have:=hC2.len;rwa [length_map,length_map]at this
  have hln:=hK.n
  have hx2:∀a∈A2,∃b∈l,a.c.id=b.c.id/\a.c.dim=b.c.dim/\a.c.sd.Perm b.c.sd:=fun a ha=>by obtain⟨y,hy,e1,e2,e3⟩:=hC2.sim.mem a.c (List.mem_map.2 ⟨a,ha,rfl⟩);obtain⟨b,hb,rfl⟩:=List.mem_map.1 hy;exact⟨b,hb,e1,e2,e3⟩
  have hget:∀i (hi:i<A2.length),(A2.map Ce.c).getD i default=A2[i].c:=fun i hi=>by simp[List.getD,hi]
  have hres:∀e,e=La (W.map Ce.c) (A2.map Ce.c)->(4000<l.length/\e=(0,2))\/(l.length<=4000/\∃A1 A2:List Ce,CanO (l.map Ce.c) (A1.map Ce.c)/\CanO (l.map Ce.c) (A2.map Ce.c)/\e=La ((Pt A1).map Ce.c) (A2.map Ce.c)):=fun e he=>.inr ⟨by omega,A1,A2,hC1,hC2,by rw[he,hW]⟩;refine Qx (D8 rfl CM rfl Bk rfl rfl rfl) rfl (Qm rfl (Qm rfl (Al ?_)));refine Bb (fun sl h' ms'=>sl=[(4,.pointer (some ⟨g,0,none⟩)),(6,vA)]/\hq.le h'/\ms'=[]/\∀j,j<A2.length->cA (W.map Ce.c) (A2.map Ce.c) j=none) ?_ (fun s h ms hI=>?_)
  ·refine Ac (Ad (Qm rfl (Qx (Ar hQ.rd.any rfl Bk rfl) rfl (Qm rfl (Al (Af ?_))))))
   refine Ax (fun q sl h' ms'=>∃(i:Nat),q=A2.length-i/\sl=[(4,.pointer (some ⟨g,0,none⟩)),(5,.int .i64 (Jh (A2.map Ce.c) i)),(6,vA),(22,vA),(23,.int .i64 A2.length),(24,.int .i64 i)]/\hq.le h'/\ms'=[]/\i<=A2.length/\∀j,j<i->cA (W.map Ce.c) (A2.map Ce.c) j=none)
    (A2.length-0) _ ⟨0,rfl,rfl,DU,rfl,by omega,fun j h=>by omega⟩ Qs ?_
   rintro q sl h5 ms' ⟨i,rfl,rfl,l5,rfl,hi,hno⟩;have hQ:=hQ.up l5;refine Au (Qm rfl (Al (Ac ?_)));refine Av rfl (fun hlt=>?_) (fun hlt=>?_)
   ·have hil:i<A2.length:=by omega
    obtain⟨x,hx⟩:∃x,A2[i]=x:=⟨_,rfl⟩
    have hxm:x∈A2:=by rw[<-hx];exact getElem_mem hil
    have hgx:=hget i hil;rw[hx]at hgx;obtain⟨b,hb,e1,e2,e3⟩:=hx2 x hxm;have hX:=(hsA x hxm).up l5;have hd:BC x.c.dim:=by rw[e2];exact hK.d b hb
    have hn:x.c.sd.length<=1000000:=by rw[e3.length_eq];exact hK.s b hb
    have hr:∀s∈x.c.sd,BC s.1/\BC s.2:=fun s hs=>hK.r b hb s (e3.mem_iff.1 hs);have oxv:=hX.rd.one
    have hl1:Jh (A2.map Ce.c) (i+1)=x.c.id:=by unfold Jh;rw[if_neg (by omega),Nat.add_sub_cancel,hgx]
    have hcl:i<(A2.map Ce.c).length:=by rw[length_map];exact hil
    have hsx:∀ms,Seg h5 ms ((AF vA).add (i*3)) (cC x):=fun ms=>by rw[<-hx];exact(hQ.any (ms:=ms)).seg hil
    refine Ag (Ab (Ac (Af (Au (Qx (BU (i) hQ.rd.any rfl Bk AH rfl rfl) rfl (Qx (oG rfl EL AH (hsx _)) rfl (CN [.int .i64 0,.int .i64 0,.slice none 0 0] rfl AH rfl rfl (fun g8=>?_))))))));refine Sa 0 [_,_,_] AH rfl (by simp[o1,ovA,oxv]) ?_;refine Al (AD fun h6 l6 hS8=>?_);have e80:∀ms,Cell h6 ms (⟨g8,0,none⟩:Addr) (.int .i64 x.c.id):=fun ms=>Seg.all hS8 0 _ rfl ms;have l56:=AI l5 l6;refine Ac (Au (Qf By rfl (Ql rfl U3 (e80 _) (Qm rfl (Qm rfl (Al ?_))))));refine Av rfl (fun hle=>?_) (fun hle=>?_)
    ·have hch:=US (U:=W.map Ce.c) hcl hno (by unfold cA;rw[hgx,if_pos hle]);refine Au (Qf By rfl (Ql rfl U3 (e80 _) (Qm rfl (Qm rfl (Al (Ao (Ah (Am (Ah (Ah (Am (Ah ?_))))))))))));exact BP rfl rfl rfl (⟨_,rfl,hres _ hch.symm⟩)
    ·refine Ag (Ab (Au (Qf By rfl (Ql rfl U3 (e80 _) (Qm rfl (BL (Qm rfl (Qx (oG rfl EL AH (Seg.any hS8)) rfl (Qc call76 rfl (Wj W x g h6 (hT.up l56) (hX.up l6) hd hn hr) (fun rF h7 ms7 l7 hF=>?_))))))))));subst hF;refine D0 ?_ ms7;have e80:∀ms,Cell h7 ms (⟨g8,0,none⟩:Addr) (.int .i64 x.c.id):=fun ms=>(e80 ms).le l7;refine Qm rfl (BL (Qm rfl (Qm rfl (Al ?_))));refine Av rfl (fun hne=>?_) (fun hne=>?_)
     ·have hch:=US (U:=W.map Ce.c) hcl hno (by unfold cA;rw[hgx,if_neg hle,if_pos hne]);refine Au (Qf By rfl (Ql rfl U3 (e80 _) (Qm rfl (Qm rfl (Qm rfl (Al (Ao (Am (Ah (Ah (Am (Ah ?_))))))))))));exact BP rfl rfl rfl (⟨_,rfl,hres _ hch.symm⟩)
     ·have hci:cA (W.map Ce.c) (A2.map Ce.c) i=none:=by unfold cA;rw[hgx,if_neg hle,if_neg hne]
      refine Ag (Ai (Ab (Ad (Qx (oA rfl) rfl (Qm rfl (Aj ?_))))))
      exact Ak (A2.length-(i+1)) _ (by omega) ⟨i+1,rfl,by rw[hl1],AI l56 l7,rfl,by omega,fun j hj=>by
       rcases (by omega:j<i\/j=i) with h1|rfl
       ·exact hno j h1
       ·exact hci⟩ Qs
   ·obtain rfl:i=A2.length:=by omega
    refine As (Aa (Aa (Ae ?_)));exact AC _ ⟨rfl,l5,rfl,hno⟩ Qs
  ·obtain⟨rfl,l5,rfl,hno⟩:=hI;have hno':∀j,j<(A2.map Ce.c).length->cA (W.map Ce.c) (A2.map Ce.c) j=none:=fun j hj=>hno j (by rwa [length_map]at hj);have hQ:=hQ.up l5;have hT:=hT.up l5;have hsA:=fun a ha=>(hsA a ha).up l5;refine Ac (Au (Qm rfl (Qx (Ar hQ.rd.any rfl Bk rfl) rfl (Qm rfl (Al (Af ?_))))))
   refine Ax (fun q sl h' ms'=>∃(i:Nat),q=A2.length-i/\sl=[(4,.pointer (some ⟨g,0,none⟩)),(45,vA),(46,.int .i64 A2.length),(47,.int .i64 i)]/\h.le h'/\ms'=[]/\i<=A2.length/\∀j,j<i->Rv (W.map Ce.c) (A2.map Ce.c) j=none)
    (A2.length-0) _ ⟨0,rfl,rfl,DU,rfl,by omega,fun j h=>by omega⟩ Qs ?_
   rintro q sl h6 ms' ⟨i,rfl,rfl,l6,rfl,hi,hnB⟩;have hQ:=hQ.up l6;refine Au (Qm rfl (Al (Ac ?_)));refine Av rfl (fun hlt=>?_) (fun hlt=>?_)
   ·have hil:i<A2.length:=by omega
    obtain⟨x,hx⟩:∃x,A2[i]=x:=⟨_,rfl⟩
    have hxm:x∈A2:=by rw[<-hx];exact getElem_mem hil
    have hgx:=hget i hil;rw[hx]at hgx;have hX:=(hsA x hxm).up l6;have oxv:=hX.rd.one;have hcl:i<(A2.map Ce.c).length:=by rw[length_map];exact hil
    have hsx:∀ms,Seg h6 ms ((AF vA).add (i*3)) (cC x):=fun ms=>by rw[<-hx];exact(hQ.any (ms:=ms)).seg hil
    have hstep:Rv (W.map Ce.c) (A2.map Ce.c) i=none->∀j,j<i+1->Rv (W.map Ce.c) (A2.map Ce.c) j=none:=fun h j hj=>by
     rcases (by omega:j<i\/j=i) with h1|rfl
     ·exact hnB j h1
     ·exact h
    refine Ag (Ab (Ac (Af (Au (Qx (BU (i) hQ.rd.any rfl Bk AH rfl rfl) rfl (Qx (oG rfl EL AH (hsx _)) rfl (CN [.int .i64 0,.int .i64 0,.slice none 0 0] rfl AH rfl rfl (fun g11=>?_))))))));refine Sa 0 [_,_,_] AH rfl (by simp[o1,ovA,oxv]) ?_;refine Al (AD fun h7 l7 hS11=>?_);have e110:∀ms,Cell h7 ms (⟨g11,0,none⟩:Addr) (.int .i64 x.c.id):=fun ms=>Seg.all hS11 0 _ rfl ms;have e111:∀ms,Cell h7 ms (⟨g11,1,none⟩:Addr) (.int .i64 x.c.dim):=fun ms=>Seg.all hS11 1 _ rfl ms;have l67:=AI l6 l7;refine Au (Qf Cw rfl (Ql rfl U3 (e111 _) (Qm rfl (Al ?_))));refine Av rfl (fun hd=>?_) (fun hd=>?_)
    ·have hAr:XH (W.map Ce.c) x.c:=ZR hC1 hC2 hU1 (fun a ha s hs=>by
      obtain⟨b,hb,rfl⟩:=List.mem_map.1 ha
      exact hK.r b hb s hs) hno' (List.mem_map.2 ⟨x,hxm,rfl⟩) hd
     refine Au (Qm rfl (Qx (oG rfl EL AH (Seg.any hS11)) rfl (Qc call77 rfl (R6 W x g h7 (hT.up l67) (hX.up l7) hAr) (fun rF h8 ms8 l8 hF=>?_))));subst hF;refine D0 ?_ ms8;have e110:∀ms,Cell h8 ms (⟨g11,0,none⟩:Addr) (.int .i64 x.c.id):=fun ms=>(e110 ms).le l8;refine Qm rfl (BL (Qm rfl (Qm rfl (Al ?_))));refine Av rfl (fun hne=>?_) (fun hne=>?_)
     ·have hch:=YZ (U:=W.map Ce.c) hno' hcl hnB (by unfold Rv;rw[hgx,if_pos hd,if_pos hne]);refine Au (Qf By rfl (Ql rfl U3 (e110 _) (Qm rfl (Qm rfl (Qm rfl (Al (Ao (Am (Ah (Ah (Am (Ah ?_))))))))))));exact BP rfl rfl rfl (⟨_,rfl,hres _ hch.symm⟩)
     ·have hci:Rv (W.map Ce.c) (A2.map Ce.c) i=none:=by unfold Rv;rw[hgx,if_pos hd,if_neg hne]
      refine Ag (Ai (Ab (Ad (Qx (oA rfl) rfl (Qm rfl (Aj ?_))))));exact Ak (A2.length-(i+1)) _ (by omega) ⟨i+1,rfl,rfl,AI l67 l8,rfl,by omega,hstep hci⟩ Qs
    ·have hci:Rv (W.map Ce.c) (A2.map Ce.c) i=none:=by unfold Rv;rw[hgx,if_neg hd]
     refine Ag (Ai (Ab (Ad (Qx (oA rfl) rfl (Qm rfl (Aj ?_))))));exact Ak (A2.length-(i+1)) _ (by omega) ⟨i+1,rfl,rfl,l67,rfl,by omega,hstep hci⟩ Qs
   ·obtain rfl:i=A2.length:=by omega
    have hch:=UI hno' (fun j hj=>hnB j (by rwa [length_map]at hj));refine As (Aa (Aa (Ae (Ab (Au (Qm rfl (Qm rfl (Al (Ao ?_)))))))));exact BP rfl rfl rfl (⟨(0,0),rfl,hres _ hch.symm⟩)
end Go.Proofs.Q
namespace Go.Proofs.Q
open Go.Proofs.Tryz
open Go.Eng Go.RowKit
variable {l:List Ce} {o:List Cl} {x c:Cl}
theorem UB(U:List Cl)(x:Cl):E4 U x=(I5 U x x.sd.length).map fun e=>((Bx x e.1.toNat).1,e.2):=by
 have hx:x.sd=(range x.sd.length).map (Bx x):=List.ext_getElem (by simp) fun j h1 h2=>by simp[Bp h1]
 unfold E4 J9
 conv=>lhs;rw[hx]
 unfold I5;rw[flatMap_map,List.map_flatMap];refine Dz fun i hi=>?_;unfold TC;rw[map_map];exact List.map_congr_left fun r _=>by simp
theorem TE(E:FA)(f:Int->Int)(c:Int):DH (E.map fun e=>(f e.1,e.2)) c=DH E c/\ER (E.map fun e=>(f e.1,e.2)) c=ER E c:=by unfold DH ER;rw[map_map,map_map];exact⟨rfl,rfl⟩
theorem Xc{U:List Cl}(G:GoodT (E4 U x) x.sd)(hn:0<x.sd.length)(hd:(x.sd.map Prod.fst).Nodup):Ts (I5 U x x.sd.length) x.sd.length=0:=by
 have hT:=UB U x;obtain⟨E,hE⟩:∃E,I5 U x x.sd.length=E:=⟨_,rfl⟩
 have hi:∀e∈E,∃i:Nat,i<x.sd.length/\e.1=(i:Int):=fun e he=>by rw[<-hE]at he;obtain⟨i,hi,r,_,rfl⟩:=MZ he;exact⟨i,hi,rfl⟩
 rw[hE]at hT ⊢;rw[hT]at G;have hsm:=fun c=>TE E (fun k=>(Bx x k.toNat).1) c
 have h1:∀e∈E,DH E e.2.1=0:=fun e he=>by have h:=G.sum ((Bx x e.1.toNat).1,e.2) (List.mem_map.2 ⟨e,he,rfl⟩);rw[(hsm _).1]at h;exact h
 have h2:∀e∈E,ER E e.2.1=2:=fun e he=>by have h:=G.two ((Bx x e.1.toNat).1,e.2) (List.mem_map.2 ⟨e,he,rfl⟩);rw[(hsm _).2]at h;exact h
 have hinj:∀i j:Nat,i<x.sd.length->j<x.sd.length->(Bx x i).1=(Bx x j).1->i=j:=fun i j hi hj e=>by
  rcases Nat.lt_trichotomy i j with h|h|h
  ·exact absurd e (Ic hd i j h hj)
  ·exact h
  ·exact absurd e.symm (Ic hd j i h hi)
 have hcon:∀{u v:Int},Con (E.map fun e=>((Bx x e.1.toNat).1,e.2)) u v->∀i:Nat,i<x.sd.length->u=(Bx x i).1->∃j:Nat,j<x.sd.length/\v=(Bx x j).1/\Con E i j:=fun {u v} h=>by
  induction h with
  | refl=>intro i hi e;exact⟨i,hi,e,.refl _⟩
  | @step b d c w w' _ m1 m2 ih=>
   intro i hi0 e;obtain⟨j,hj,e1,C⟩:=ih i hi0 e;obtain⟨p,hp,q1⟩:=List.mem_map.1 m1;obtain⟨p',hp',q2⟩:=List.mem_map.1 m2;obtain⟨k,hk,ek⟩:=hi p hp;obtain⟨k',hk',ek'⟩:=hi p' hp';rw[ek]at q1;rw[ek']at q2;have a1:=(Prod.mk.injEq _ _ _ _ ▸ q1:_/\_)
   have a2:=(Prod.mk.injEq _ _ _ _ ▸ q2:_/\_)
   obtain⟨b1,b2⟩:=a1;obtain⟨b1',b2'⟩:=a2;rw[Int.toNat_natCast]at b1 b1';have hkj:k=j:=hinj k j hk hj (by rw[b1,e1]);subst hkj;refine⟨k',hk',b1'.symm,.step C (c:=c) (w:=w) (w':=w') ?_ ?_⟩
   ·have:p=((k:Int),c,w):=by rw[<-ek,<-b2]
    rw[<-this];exact hp
   ·have:p'=((k':Int),c,w'):=by rw[<-ek',<-b2']
    rw[<-this];exact hp'
 have h3:0<x.sd.length/\∀i:Nat,i<x.sd.length->Con E 0 i:=by refine⟨hn,fun i hi'=>?_⟩;have hc:=G.con (Bx x 0) (by rw[Bp hn];exact getElem_mem hn) (Bx x i) (by rw[Bp hi'];exact getElem_mem hi');obtain⟨j,hj,e,C⟩:=hcon hc 0 hn rfl;rw[hinj i j hi' hj e];exact C
 unfold Ts;rw[if_neg (fun w=>w h1),if_neg (fun w=>w h2),if_neg (fun w=>w h3)]
theorem WX:V8 x x.sd.length=(x.sd.map Prod.snd).sum:=by unfold V8;rw[take_length]
theorem Tq(R:Rgt o)(hx:x∈o):DB o x=0:=by
 have hb:∀i,i<x.sd.length->¬G8 o x i:=fun i hi q=>by
  obtain⟨y,hy,e1,e2⟩:=R.sid x hx _ (getElem_mem hi);unfold G8 at q;rw[Bp hi,<-e1,CL R.nd hy,Ci R.nd hy]at q;rcases q with q|q|⟨q1,q2⟩
  ·cases q
  ·exact q e2
  ·rw[e1,<-Bp hi]at q2;exact Ic (R.sds x hx) (i-1) i (by omega) hi q2
 have hs:∀i,i<x.sd.length->¬B9 x i:=fun i hi q=>by unfold B9 at q;rw[Bp hi]at q;have:=R.sgn x hx _ (getElem_mem hi);omega
 unfold DB
 rw[if_neg (by have:=R.dim x hx;omega),if_neg (R.num x hx),if_neg (fun w=>w hb),if_neg (fun w=>w hs),if_neg fun q=>by
  have:=R.one x hx q.1;rw[WX]at q
  exact q.2 this]
theorem Um(R:RgtF o):La o o=(0,0):=by
 have G:=R.rgt;refine UI (fun j hj=>?_) fun j hj=>?_
 ·unfold cA;rw[Ip hj,if_neg,if_neg]
  ·exact fun q=>q (Tq G (getElem_mem hj))
  ·unfold Jh;split
   ·have:=G.pos _ (getElem_mem hj);omega
   ·rw[Ip (by omega)];have:=List.pairwise_iff_getElem.1 R.inc (j-1) j (by omega) hj (by omega);omega
 ·unfold Rv;rw[Ip hj];split
  ·rename_i hd;have hx:=getElem_mem hj;have hnum:=G.num _ hx;unfold Cj at hnum;rw[if_neg];exact fun q=>q (Xc (G.tab _ hx (by omega)) (by omega) (G.sds _ hx))
  ·rfl
structure RgC(l:List Ce):Prop where
 r:Rgt (l.map Ce.c)
 i:∀a∈l,a.c.id<=1000000
def cn(l:List Ce):List Cl:=ordF (l.map Ce.c)
theorem Dy(l:List Ce):(cn l).length=l.length:=by unfold cn;rw[IA,length_map]
theorem RgC.F(R:RgC l):RgtF (cn l):=R.r.ordF
theorem CanO.ord{l:List Cl}(C:CanO l o)(R:Rgt l):o=ordF l:=by
 have F:=R.ordF;have hp:=De l.length l (Nat.le_refl _);obtain⟨l',h1,h2,h3⟩:=C.mem;have hinc:=F.inc
 have hm:(o.map Cl.id)=(ordF l).map Cl.id:=by refine Dc id (C.ids.trans ?_) (List.pairwise_map.2 C.inc) (List.pairwise_map.2 hinc);have:=(hp.map Cl.id).symm;rw[map_map]at this;exact this
 have hlen:o.length=(ordF l).length:=by have:=congrArg List.length hm;simpa using this
 refine List.ext_getElem hlen fun i h1' h2'=>?_;obtain⟨a1,a2,a3,a4⟩:=h3 i h1' (by omega)
 have e1:o[i].id=(ordF l)[i].id:=by have:=List.getElem_of_eq hm (i:=i) (by simpa using h1');simpa using this
 have hxl:l'[i]'(by omega)∈l:=h1.mem_iff.1 (getElem_mem _);obtain⟨z,hz,ez⟩:=HH (getElem_mem h2')
 have hzz:z=l'[i]'(by omega):=by
  have b1:=CL R.nd hz;have b2:=CL R.nd hxl;have:z.id=(l'[i]'(by omega)).id:=by rw[<-a1,e1,ez];rfl
  rw[this,b2]at b1;exact(Option.some.inj b1).symm
 have hs:o[i].sd=(ordF l)[i].sd:=by refine Dc Prod.fst (a3.trans ?_) a4 (F.sinc _ (getElem_mem h2'));rw[ez,hzz];exact(BB _).symm
 have hd:o[i].dim=(ordF l)[i].dim:=by rw[a2,ez,hzz];rfl
 revert e1 hs hd;generalize o[i]=x;generalize (ordF l)[i]=y;cases x;cases y;intro e1 hs hd;simp only at e1 hs hd;rw[e1,hs,hd]
theorem RgtF.ordF(R:RgtF o):ordF o=o:=by
 have e1:o.map Cl.can=o:=by
  have:∀l:List Cl,(∀x∈l,x∈o)->l.map Cl.can=l:=fun l=>by
   induction l with
   | nil=>intro _;rfl
   | cons a l ih=>
    intro h;have e:BX a.sd=a.sd:=Dc Prod.fst (BB _) (E2 _) (R.sinc a (h a Mh));rw[map_cons,ih fun x hx=>h x (mem_cons_of_mem _ hx)];unfold Cl.can;rw[e]
  exact this o fun x hx=>hx
 have h2:=De o.length o (Nat.le_refl _);rw[e1]at h2;exact Dc Cl.id h2 (En _ _ (Nat.le_refl _)) R.inc
theorem T9(R:RgtF (l.map Ce.c)):cn l=l.map Ce.c:=R.ordF
theorem TR(h:c∈cn l):∃b∈l,c=b.c.can:=by obtain⟨a,ha,e⟩:=HH h;obtain⟨b,hb,rfl⟩:=List.mem_map.1 ha;exact⟨b,hb,e⟩
theorem RgC.ci(R:RgC l)(h:c∈cn l):c.id<=1000000:=by obtain⟨b,hb,rfl⟩:=TR h;exact R.i b hb
theorem RgC.cI(R:RgC l)(h:c∈cn l):BC c.id:=by have:=R.ci h;have:=R.F.rgt.pos _ h;unfold BC;omega
theorem Rgt.bds{l:List Cl}(R:Rgt l)(hx:x∈l):(0<=x.dim/\x.dim<=8)/\x.sd.length<=64:=by have h1:=R.dim x hx;have h2:=R.num x hx;unfold Cj at h2;omega
theorem RgC.pc(R:RgC l):ZW l:=by
 have G:=R.r;have hm:∀a∈l,a.c∈l.map Ce.c:=fun a ha=>List.mem_map.2 ⟨a,ha,rfl⟩;have hid:∀a∈l,BC a.c.id:=fun a ha=>by have:=G.pos _ (hm a ha);have:=R.i a ha;unfold BC;omega
 have hn:=G.n;rw[length_map]at hn;refine⟨⟨by omega,fun a ha=>?_,hid⟩,fun a ha=>?_,fun a ha s hs=>?_⟩
 ·have:=(G.bds (hm a ha)).2;omega
 ·have:=(G.bds (hm a ha)).1;unfold BC;omega
 ·obtain⟨y,hy,e,_⟩:=G.sid _ (hm a ha) s hs;obtain⟨b,hb,rfl⟩:=List.mem_map.1 hy;have h2:=G.sgn _ (hm a ha) s hs;rw[<-e];exact⟨hid b hb,by unfold BC;omega⟩
theorem Yf{A:List Ce}(h:A.map Ce.c=o)(hn:(o.map Cl.id).Nodup):(A.map fun a=>a.c.id).Nodup:=by rw[<-h,map_map]at hn;exact hn
theorem Lx(l:List Ce)(v:Value)(hp:Hp)(hK:RgC l)(hR:RdC hp v l):FnT Tryz.prog 28 #[.agg #[v]] hp [] (fun r _ _=>r=.tuple #[.int .i64 0,.int .i64 0]):=by
 refine(Sn l v hp hK.pc hR).mono fun r _ _ h=>?_;obtain⟨e,rfl,h⟩:=h;have hn:=hK.r.n;rw[length_map]at hn;have hF:=hK.F;rcases h with ⟨h,_⟩|⟨_,A1,A2,C1,C2,rfl⟩
 ·omega
 ·have e1:=C1.ord hK.r;have e2:=C2.ord hK.r;rw[Va (Yf e1 hF.rgt.nd),e1,e2];have:=Um hF;unfold cn at this;rw[this]
theorem IG(l:List Ce)(v:Value)(hp:Hp)(hK:RgC l)(hR:RdC hp v l):FnT Tryz.prog 65 #[.agg #[v]] hp [] (fun r h' ms'=>hp.le h'/\∃m A v',ms'=[m]/\r=.agg #[v']/\OwnL cC 3 52 m v' A/\A.map Ce.c=cn l/\∀a∈A,RdL cD 2 h' [] a.v a.c.sd):=by refine(II l v hp hK.pc.n hK.pc.s hR).mono fun r h' ms' h=>?_;obtain⟨h1,m,A,v',h2,h3,h4,h5,h6⟩:=h;exact⟨h1,m,A,v',h2,h3,h4,h5.ord hK.r,h6⟩
theorem Mo(l:List Ce)(v:Value)(hp:Hp)(hK:RgC l)(hR:RdC hp v l):FnT Tryz.prog 64 #[.agg #[v]] hp [] (fun r h' ms'=>hp.le h'/\ms'=[]/\∃g A,r=.pointer (some ⟨g,0,none⟩)/\A.map Ce.c=cn l/\RdT h' g A):=by refine(Ys l v hp hK.pc.toOfOk hR).mono fun r h' ms' h=>?_;obtain⟨h1,h2,g,A,h3,h4,h5⟩:=h;have e:A.map Ce.c=cn l:=h4.ord hK.r;rw[Va (Yf e hK.F.rgt.nd)]at h5;exact⟨h1,h2,g,A,h3,e,h5⟩
theorem KD(l:List Ce)(v:Value)(i:Int)(hp:Hp)(hK:RgC l)(hi:BC i)(hR:RdC hp v l):FnT Tryz.prog 21 #[.agg #[v],.int .i64 i] hp [] (fun r h' ms'=>hp.le h'/\∃y,r=.tuple #[vC y,.bool (OQ (cn l) i).isSome]/\y.c=FS (cn l) i/\RdL cD 2 h' [] y.v y.c.sd):=by
 have o1:=hR.q.rd.one;refine Ap func21 ntmps21 rfl rfl (fun w0 hw0=>?_);simp only[AU];refine Au (AX [_] rfl rfl (by rfl) rfl rfl rfl (fun g2=>CN [.int .i64 0,.int .i64 0,.slice none 0 0] rfl AH rfl rfl (fun g4=>Qm rfl (Al (Bo 1 rfl fun h1 l1 hS=>?_)))));have hR:=hR.up l1;refine Au (Qx (oG rfl CM AV (Seg.any hS)) rfl (Qc call64 rfl (Mo l v h1 hK hR) (fun rT h2 ms2 l2 hF=>?_)));obtain⟨l2',rfl,g,A,rfl,hA,gm,mMt,bst,vids,hSg,hMt,lmt,hVt,hsU⟩:=hF;have eT:∀ms,Cell h2 ms (⟨g,0,none⟩:Addr) (.map (some gm)):=fun ms=>Seg.all hSg 0 _ rfl ms;obtain⟨y,hy⟩:∃y,(A9 (E5 A) i).getD default=y:=⟨_,rfl⟩
 obtain⟨bb,hbb⟩:∃bb,(A9 (E5 A) i).isSome=bb:=⟨_,rfl⟩
 have hyR:=O7 hsU i;rw[hy]at hyR;have hbb':(OQ (cn l) i).isSome=bb:=by rw[<-hA,<-Ox];exact hbb
 have hyc:y.c=FS (cn l) i:=by rw[<-hA,<-Iz,hy]
 have oy:=hyR.rd.one;refine Qm rfl (Qf EF rfl (Ql rfl Gm (eT _) (Qm rfl (Qx (EC (V:=vC) (z:=(default:Ce)) i hy hbb A0 hMt lmt rfl Gm KX rfl rfl hi) rfl (Qm rfl (Qm rfl (Qm rfl (CN [.int .i64 0,.int .i64 0,.slice none 0 0] rfl AH rfl rfl (fun g6=>?_)))))))));refine Sa 0 [_,_,_] AH rfl (by simp[o1,oy]) ?_;refine Qm rfl (BL (Qx (oG rfl EL AH (Seg.blk 0 rfl)) rfl (Qm rfl ?_)));refine Sa 1 [_,_,_] AH rfl (by simp[o1,oy]) ?_;refine Qm rfl (Al (Ao ?_));exact H7 (vs:=[_,_,_]) 1 rfl rfl rfl EL rfl AH rfl rfl (⟨AI l1 l2,y,by rw[hbb'];rfl,hyc,hyR⟩)
end Go.Proofs.Q
namespace Go.Proofs.Q
open Go.Proofs.Tryz
open Go.Eng Go.RowKit
def cV(p:Int×Int):List Value:=[.int .i64 p.1,.int .i64 p.2]
theorem M8:∀p,(cV p).length=2:=fun _=>rfl
theorem Y3:∀a,∀c∈cV a,c.oneCell'=true:=fun a c hc=>by simp only[cV,mem_cons,List.not_mem_nil,or_false]at hc;rcases hc with rfl|rfl<;>rfl
def Bj(F:List (Int×Int)):List (Int×Int):=F.foldl (fun T p=>CC T p.1 p.2) []
theorem GQ(F:List (Int×Int))(p:Int×Int):Bj (F++[p])=CC (Bj F) p.1 p.2:=by unfold Bj;rw[foldl_append];rfl
def Ie(F:List (Int×Int))(c:Int):Int:=(A9 (Bj F) c).getD 0
theorem RU(c:Int):∀F:List (Int×Int),c∈(Bj F).map Prod.fst<->c∈F.map Prod.fst:=C6 (by simp[Bj]) fun F p ih=>by rw[GQ,DP,ih,map_append,mem_append];simp only[map_cons,List.map_nil,mem_singleton];exact⟨fun q=>q.symm,fun q=>q.symm⟩
theorem U7{c x:Int}:∀{F:List (Int×Int)},(F.map Prod.fst).Nodup->(c,x)∈F->Ie F c=x:=fun {F}=>by
 revert F
 have:∀F:List (Int×Int),(F.map Prod.fst).Nodup->(c,x)∈F->Ie F c=x:=C6 (fun _ h=>nomatch h) fun F p ih hn hm=>by
  rw[map_append,List.nodup_append]at hn;unfold Ie;rw[GQ,Dg];rcases List.mem_append.1 hm with hm|hm
  ·have hne:c≠p.1:=fun e=>hn.2.2 c (List.mem_map.2 ⟨_,hm,rfl⟩) p.1 (by simp) e;rw[if_neg hne];exact ih hn.1 hm
  ·rw[<-List.mem_singleton.1 hm,if_pos rfl];rfl
 exact fun {F}=>this F
theorem IT(F:List (Int×Int))(v:Value)(h:Hp)(hR:RdL cV 2 h [] v F)(hn:F.length<=1000000)(hk:∀p∈F,BC p.1):FnT Tryz.prog 66 #[v] h [] (fun r h' ms'=>h.le h'/\∃g m bs,r=.map (some g)/\ms'=[m]/\Cn kN kN g BC m (Bj F) bs):=by
 have o1:=hR.rd.one;refine Ap func66 ntmps66 rfl rfl (fun w0 hw0=>?_);simp only[AU];refine Au (Qm rfl (BL (Cp (K:=kN) (V:=kN) (Ok:=BC) rfl rfl rfl rfl (fun gA mA hA0=>Qm rfl (Al (Ac (Au (Qm rfl (Qx (Ar hR.rd.any rfl S8 rfl) rfl (Qm rfl (Al (Af ?_))))))))))))
 refine Ax (fun q sl h' ms'=>∃(i:Nat) (mA:Hp) (bs:List Nat),q=F.length-i/\sl=[(3,.map (some gA)),(7,v),(8,.int .i64 F.length),(9,.int .i64 i)]/\h.le h'/\ms'=[mA]/\i<=F.length/\Cn kN kN gA BC mA (Bj (F.take i)) bs)
  (F.length-0) _ ⟨0,mA,[],rfl,rfl,DU,rfl,by omega,hA0⟩ Qs ?_
 rintro q sl h2 ms' ⟨i,mA,bs,rfl,rfl,l2,rfl,hi,hO⟩;have hR:=hR.up l2;refine Au (Qm rfl (Al (Ac ?_)));refine Av rfl (fun hlt=>?_) (fun hlt=>?_)
 ·have hil:i<F.length:=by omega
  obtain⟨p,hp⟩:∃p,F[i]=p:=⟨_,rfl⟩
  have hpI:BC p.1:=hk p (by rw[<-hp];exact getElem_mem hil);have hsx:∀ms,Seg h2 ms ((AF v).add (i*2)) (cV p):=fun ms=>by rw[<-hp];exact(hR.any (ms:=ms)).seg hil
  have hs:=GQ (F.take i) p;rw[<-hp,<-List.take_succ_eq_append_getElem hil,hp]at hs;refine Ag (Ab (Ac (Af (Au (Qx (BU (i) hR.rd.any rfl S8 Fz rfl rfl) rfl (Qx (oG rfl U47 Fz (hsx _)) rfl (CN [.int .i64 0,.int .i64 0] rfl Fz rfl rfl (fun g5=>?_))))))));refine Sa 0 [_,_] Fz rfl (by simp[Value.oneCell']) ?_;refine Al (AD fun h3 l3 hS5=>?_);have e0:∀ms,Cell h3 ms (⟨g5,0,none⟩:Addr) (.int .i64 p.1):=fun ms=>Seg.all hS5 0 _ rfl ms;have e1:∀ms,Cell h3 ms (⟨g5,1,none⟩:Addr) (.int .i64 p.2):=fun ms=>Seg.all hS5 1 _ rfl ms;refine Ad (Qm rfl (Qf Hu rfl (Ql rfl U3 (e0 _) (Qf PH rfl (Ql rfl U3 (e1 _) (Bv (V:=kN) (z:=undef) 0 p.1 p.2 A0 hO rfl rfl Jq rfl rfl rfl hpI rfl rfl (fun mA' bs' hO'=>?_)))))));rw[<-hs]at hO';refine Aj (Ai (Ab (Ad (Qx (oA rfl) rfl (Qm rfl (Aj ?_))))));exact Ak (F.length-(i+1)) _ (by omega) ⟨i+1,mA',bs',rfl,rfl,AI l2 l3,rfl,by omega,hO'⟩ Qs
 ·obtain rfl:i=F.length:=by omega
  rw[take_length]at hO;refine As (Aa (Aa (Ae (Ab (Au (Qm rfl (Qm rfl (Al (Ao ?_)))))))));exact Az rfl rfl (⟨l2,gA,mA,bs,rfl,rfl,hO⟩)
def MH(l:List (Int×Int))(pr:Int×Int->Bool):Int:=match l.findIdx? pr with|some k=>(k:Int)|none=>-1
theorem Ss{l:List (Int×Int)}{pr:Int×Int->Bool}{k:Nat}(hk:k<l.length)(h:pr l[k]=true)(hno:∀j (hj:j<l.length),j<k->pr l[j]=false):MH l pr=k:=by unfold MH;have:l.findIdx? pr=some k:=List.findIdx?_eq_some_iff_getElem.2 ⟨hk,h,fun j hj=>by rw[hno j (by omega) hj];simp⟩;rw[this]
theorem Si{l:List (Int×Int)}{pr:Int×Int->Bool}(hno:∀j (hj:j<l.length),pr l[j]=false):MH l pr=-1:=by
 unfold MH
 have:l.findIdx? pr=none:=List.findIdx?_eq_none_iff.2 fun x hx=>by obtain⟨j,hj,rfl⟩:=getElem_of_mem hx;exact hno j hj
 rw[this]
theorem Vc(l:List (Int×Int))(pr:Int×Int->Bool):0<=MH l pr<->∃s∈l,pr s=true:=by
 unfold MH;cases h:l.findIdx? pr with
 | none=>
  rw[List.findIdx?_eq_none_iff]at h;constructor
  ·intro q;exact absurd q (by decide)
  ·rintro⟨s,hs,q⟩;rw[h s hs]at q;cases q
 | some k=>
  obtain⟨hk,h1,_⟩:=List.findIdx?_eq_some_iff_getElem.1 h;exact⟨fun _=>⟨_,getElem_mem hk,h1⟩,fun _=>by show(0:Int)<=(k:Int);omega⟩
theorem Sg(l:List (Int×Int))(vl:Value)(cf:FuncId)(cs:List Value)(pr:Int×Int->Bool)(h:Hp)(hR:RdL cD 2 h [] vl l)(hn:l.length<=1000000)
  (hc:∀xs w,(callFunc cf xs).run Tryz.prog w=.ok (.enter cf xs) w)
  (hp:∀s∈l,∀ms,FnV Tryz.prog cf ([]++[Value.agg (cD s).toArray]++cs).toArray h ms (.bool (pr s))) :
  FnT Tryz.prog 138 #[vl,.func (.func cf) #[] cs.toArray] h [] (fun r _ _=>r=.int .i64 (MH l pr)):=by
 have o1:=hR.rd.one;refine Ap func138 ntmps138 rfl rfl (fun w0 hw0=>?_);simp only[AU];refine Au (Qm rfl (Al (Ac (Au (Qm rfl (Qx (Ar hR.rd.any rfl Cu rfl) rfl (Qm rfl (Al (Af ?_)))))))))
 refine Ax (fun q s h' ms'=>∃(k:Nat),q=l.length-k/\s=[(0,vl),(1,.func (.func cf) #[] cs.toArray),(7,.int .i64 l.length),(8,.int .i64 k)]/\h=h'/\ms'=[]/\k<=l.length/\∀j (hj:j<l.length),j<k->pr l[j]=false)
  (l.length-0) _ ⟨0,rfl,rfl,rfl,rfl,by omega,fun j _ hj=>by omega⟩ Qs ?_
 rintro q s h' ms' ⟨k,rfl,rfl,rfl,rfl,hk,hno⟩;refine Au (Qm rfl (Al (Ac ?_)));refine Av rfl (fun hlt=>?_) (fun hlt=>?_)
 ·have hkn:k<l.length:=by omega
  have hsx:∀ms,Seg h ms ((AF vl).add (k*2)) (cD l[k]):=fun ms=>(hR.any (ms:=ms)).seg hkn;refine Ag (Ab (Ac (Af (Au (Qm rfl (Qm rfl (BL (Qm rfl (Qm rfl (Qm rfl (Qx (BU (k) hR.rd.any rfl Cu AJ rfl rfl) rfl (Qx (oG rfl DE AJ (hsx _)) rfl (Qx (BY rfl rfl hc rfl (hp _ (getElem_mem hkn) _)) rfl (Al ?_))))))))))))));refine Bu rfl (fun hpk=>?_) (fun hpk=>?_)
  ·refine Ac (Ad (Qm rfl (Qm rfl (Al (Ao (Am (Ah (Ah (Am (Ah ?_))))))))));exact Az rfl rfl (by rw[Ss hkn hpk hno])
  ·refine Ag (Ai (Ab (Ad (Qx (oA rfl) rfl (Qm rfl (Aj ?_))))));refine Ak (l.length-(k+1)) _ (by omega) ⟨k+1,rfl,rfl,rfl,rfl,by omega,fun j hj hjk=>?_⟩ Qs;rcases (by omega:j<k\/j=k) with h2|rfl
   ·exact hno j hj h2
   ·exact hpk
 ·obtain rfl:k=l.length:=by omega
  refine As (Aa (Aa (Ae (Ab (Au (Qm rfl (Al (Ao ?_))))))));exact Az rfl rfl (by rw[Si fun j hj=>hno j hj hj])
theorem L8(l:List (Int×Int))(vl:Value)(cf:FuncId)(cs:List Value)(pr:Int×Int->Bool)(h:Hp)(hR:RdL cD 2 h [] vl l)(hn:l.length<=1000000)
  (hc:∀xs w,(callFunc cf xs).run Tryz.prog w=.ok (.enter cf xs) w)
  (hp:∀s∈l,∀ms,FnV Tryz.prog cf ([]++[Value.agg (cD s).toArray]++cs).toArray h ms (.bool (pr s))) (ms:List Hp) :
  FnV Tryz.prog 67 #[vl,.func (.func cf) #[] cs.toArray] h ms (.bool (decide (0<=MH l pr))):=by
 refine Gf ?_ ms;refine Ap func67 ntmps67 rfl rfl (fun w0 hw0=>?_);simp only[AU];refine Au (Qm rfl (BL (Qm rfl (Qm rfl (Qx (AO rfl call138 rfl (Gf (Sg l vl cf cs pr h hR hn hc hp) _)) rfl (Qm rfl (Qm rfl (Al (Ao ?_)))))))));exact Az rfl rfl (rfl)
theorem T3(F:List (Int×Int))(s:Int×Int)(i:Int)(g1 g2 gA:Nat)(mA:Hp)(bs:List Nat)(h:Hp)(hO:Cn kN kN gA BC mA (Bj F) bs)(lA:mA.le h)(h1:∀ms,Cell h ms (⟨g1,0,none⟩:Addr) (.map (some gA)))(h2:∀ms,Cell h ms (⟨g2,0,none⟩:Addr) (.int .i64 i))(hi:BC i)(hs:BC s.1)(ms:List Hp) :
  FnV Tryz.prog 68 ([]++[Value.agg (cD s).toArray]++[Value.pointer (some ⟨g1,0,none⟩),.pointer (some ⟨g2,0,none⟩)]).toArray h ms (.bool (decide (Ie F s.1>Ie F i))):=by
 refine Gf ?_ ms;show FnT _ _ #[.agg #[.int .i64 s.1,.int .i64 s.2],.pointer (some ⟨g1,0,none⟩),.pointer (some ⟨g2,0,none⟩)] _ _ _;refine Ap func68 ntmps68 rfl rfl (fun w0 hw0=>?_);simp only[AU];refine Au (AX [_,_] rfl rfl (by rfl) rfl rfl rfl (fun g3=>Qm rfl (Al (AD fun h3 l3 hS=>?_))));have e0:∀ms,Cell h3 ms (⟨g3,0,none⟩:Addr) (.int .i64 s.1):=fun ms=>Seg.all hS 0 _ rfl ms;have h1:∀ms,Cell h3 ms (⟨g1,0,none⟩:Addr) (.map (some gA)):=fun ms=>(h1 ms).le l3;have h2:∀ms,Cell h3 ms (⟨g2,0,none⟩:Addr) (.int .i64 i):=fun ms=>(h2 ms).le l3;refine Au (Ql rfl Jq (h1 _) (Qf Cy rfl (Ql rfl U3 (e0 _) (Qx (BI (V:=kN) (z:=(0:Int)) (u:=Ie F s.1) s.1 rfl A0 hO (AI lA l3) rfl Jq Gg rfl rfl hs) rfl (Ql rfl Jq (h1 _) (Qf By rfl (Ql rfl U3 (h2 _) (Qx (BI (V:=kN) (z:=(0:Int)) (u:=Ie F i) i rfl A0 hO (AI lA l3) rfl Jq Gg rfl rfl hi) rfl (Qm rfl (Qm rfl (Al (Ao ?_))))))))))));exact Az rfl rfl (rfl)
end Go.Proofs.Q
