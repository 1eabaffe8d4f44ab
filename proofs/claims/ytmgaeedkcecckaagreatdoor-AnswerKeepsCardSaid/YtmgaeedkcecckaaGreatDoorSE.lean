/- A part of the proof. -/
import Derived.Test.YtmgaeedkcecckaaGreatDoorSD
import Derived.Shelf.Strings.Trim
import Derived.Shelf.Small.Utf8
import Derived.Shelf.Small.Bits
import Derived.Shelf.Small.Strs
import Derived.Shelf.Small.Wraps
import Derived.Shelf.Strconv.Itoa0
import Derived.Shelf.Strings.Search1
import Derived.Shelf.Sort.Plain
import Derived.Shelf.Unicode.Decode
import Derived.Shelf.Strings.Runes
import Derived.Shelf.Strings.AsciiSet
import Derived.Shelf.Unicode.DecodeSlow
import Derived.Shelf.Unicode.DecodeAny
import Derived.Ground.Names2Prog
import Derived.Shelf.Slices.SearchI
import Derived.Shelf.Slices.In.SortNone
import Derived.Shelf.Slices.Empties
import Derived.Test.YtmgaeedkcecckaaGreatDoorProg
set_option linter.unusedSimpArgs false
set_option linter.unusedVariables false
set_option linter.unusedSectionVars false
set_option maxRecDepth 100000
set_option maxHeartbeats 4000000
open List (length_map length_singleton getElem_mem replicate range length_append nil_append length_take mem_cons mem_singleton cons_append map_append mem_append mem_cons_of_mem length_nil length_drop append_nil map_map map_cons length_set getElem_of_mem take_length append_assoc flatMap_cons length_cons mem_append_left mem_append_right length_range range_succ foldl_append getElem_append_right flatMap_map sum_cons mem_of_mem_take)
namespace Go.Proofs.Q
open Go.Proofs.Tryz
open Go.Eng Go.RowKit
section
variable {es:List Value}
theorem RdEs.nil(h:Hp):RdEs h [] []:=⟨rfl,λi a=>lj a σ⟩
theorem RR(e:∀u∈es,u.oneCell'=true):∀a∈es,∀c∈cW a,c.oneCell'=true:=λa b c d=>by rw[bj.1 d];exact e a b
theorem PQ{e:Entry}{Q:Exit->Act->World->Prop}{b:Array Oper}{r:List Oper}{s:AG}{f:List Hp}:∀(pre:List Hp) (h:Hp),(∀c,h.le c->(∀m∈pre,m.le c)->WL e b Q r s c f)->WL e b Q r s h (pre++f)
 | [],h,k=>k h (Bk) (λm a=>by cases a)
 | m::pre,h,k=>CU λg n j=>PQ pre g λi d l=>k i (N n d) λp a=>by
  rcases be.1 a with rfl|a
  .exact N j d
  .exact l p a
def Wv(all:List (List Int)):Option (List Int)->List (List Int)
 | some s=>C3 all s (2^s.length-1)
 | none=>all
theorem DF(all:List (List Int))(l:List Int)(a:List (List Int)):Cd all (l::a)=if 4000<(Wv all (Ew [] l)).length then none else Cd (Wv all (Ew [] l)) a:=by show(let b:=match Ew [] l with|some s=>C3 all s (2^s.length-1)|none=>all;if 4000<b.length then none else Cd b a)=_;cases Ew [] l<;>rfl
theorem ZN{r:Value}{a:List Hp}{o:Option (List Int)}(g:AhA r a o)(d:∀s,o=some s->s.length<=9):∃(c:Value) (s:List Int) (b:Bool),r=.tuple #[c,.bool b]/\((∀h,(∀m∈a,m.le h)->RdL cI 1 h [] c s)/\s.length<=9)/\∀all,Wv all o=if b then C3 all s (2^s.length-1) else all:=by
 cases o with
 | none=>exact⟨_,[],false,g,⟨λh _=>⟨Rd.nil _ _ _,Bf⟩,by simp⟩,λall=>rfl⟩
 | some s=>
  obtain⟨v,m,rfl,e,O⟩:=g;exact⟨v,s,true,e,⟨λh f=>O.rdh (f m Mh),d s Y⟩,λall=>rfl⟩
theorem K3:∀(l a:List Int) (s:List Int),a.length<=9->Ew a l=some s->s.length<=9
 | [],a,s,h,e=>by have:a=s:=ay e;rw[<-this];exact h
 | x::l,a,s,h,e=>by
  unfold Ew at e;split at e
  .exact K3 l a s h e
  .split at e
   .cases e
   .exact K3 l _ s Z e
theorem RdEs.ones{h:Hp}{c:List (List Int)}(d:RdEs h es c):∀u∈es,u.oneCell'=true:=λu b=>by obtain⟨i,a,rfl⟩:=ef.1 b;exact(d.2 i a (by have:=d.1;omega)).rd.one
theorem RdEs.ins{h:Hp}{a:List (List Int)}(n:RdEs h es a){v:Value}{t:List Int}(l:RdL cI 1 h [] v t)(k:Nat)(m:k<=a.length):RdEs h (es.take k++v::es.drop k) (a.take k++t::a.drop k):=by
 have j:=n.1;refine⟨by simp[j],λi f g=>?_⟩;rcases iz i k with d|d|d
 .rw[kh (by rw[bf];omega),kh (by rw[bf];omega),ka,ka];exact n.2 i Z Z
 .subst d;rw[getElem_append_right (by rw[bf];omega),getElem_append_right (by rw[bf];omega)];have b:i-(es.take i).length=0:=by rw[bf];omega
  have c:i-(a.take i).length=0:=by rw[bf];omega
  simp only[b,c,List.getElem_cons_zero];exact l
 .rw[ag,de,bf,br]at f g;rw[getElem_append_right (by rw[bf];omega),getElem_append_right (by rw[bf];omega)];have b:i-(es.take k).length=(i-k-1)+1:=by rw[bf];omega
  have c:i-(a.take k).length=(i-k-1)+1:=by rw[bf];omega
  simp only[b,c,ky,kx];have e:k+(i-k-1)=i-1:=Z
  simp only[e];exact n.2 (i-1) Z Z
theorem Kk{all:List (List Int)}(e:SrtB all)(s:List Int):∀n,∀t,t∈C3 all s n<->t∈all\/∃b,1<=b/\b<=n/\t=E4 s b s.length
 | 0,t=>⟨.inl,λh=>by rcases h with h|⟨b,a,c,_⟩;exact h;omega⟩
 | n+1,t=>by
  show t∈Ir (C3 all s n) (E4 s (n+1) s.length)<->_;rw[(TT (Fk e s n) _).2 t,Kk e s n t];constructor
  .rintro(h|h|⟨b,a,c,h3⟩)
   .exact .inr ⟨n+1,Z,Z,h⟩
   .exact .inl h
   .exact .inr ⟨b,a,Z,h3⟩
  .rintro(h|⟨b,a,c,h3⟩)
   .exact .inr<|.inl h
   .rcases (Z:b<=n\/b=n+1) with d|rfl
    .exact .inr<|.inr ⟨b,a,d,h3⟩
    .exact .inl h3
theorem UY(s:List Int)(b n:Nat):(E4 s b n).length<=n:=by unfold E4;rw[bb];exact bl (fj _ _) σ
theorem Gh:∀(c a all:List (List Int)),SrtB a->(∀t∈a,t.length<=9)->Cd a c=some all->∀t∈all,t.length<=9
 | [],a,all,_,h,e=>by have:a=all:=ay e;rw[<-this];exact h
 | l::c,a,all,hS,h,e=>by
  rw[DF]at e;split at e
  .cases e
  .refine Gh c _ all ?_ ?_ e
   .cases Ew [] l with
    | none=>exact hS
    | some s=>exact Fk hS s _
   .cases hs:Ew [] l with
    | none=>exact h
    | some s=>
     intro t f;rcases (Kk hS s _ t).1 f with d|⟨b,_,_,rfl⟩
     .exact h t d
     .exact bl (UY _ _ _)<|K3 _ _ s σ hs
def T8(all:List (List Int))(S:List Int)(k:Nat):List (Int×Int):=(range k).map λk=>(((DS all (S.eraseIdx k)).1:Int)+1,1-2*((k:Int)%2))
theorem Aaj(all:List (List Int))(S:List Int)(k:Nat):T8 all S (k+1)=T8 all S k++[(((DS all (S.eraseIdx k)).1:Int)+1,1-2*((k:Int)%2))]:=by unfold T8;rw[kp,cz];rfl
theorem Kv(all:List (List Int))(S:List Int)(k:Nat):(T8 all S k).length=k:=by simp[T8]
theorem JU(L:List (List Int))(es0:List Value)(v:Value)(h:Hp)(hn:L.length<=100000)(hn2:∀l∈L,l.length<=100000)(hV:RdL cW 1 h [] v es0)(hE:RdEs h es0 L):FnT prog 40 #[v] h [] (λr p d=>h.le p/\∃m A v',d=[m]/\r=.agg #[v']/\OwnL cC 3 50 m v' A/\A.map Ce.c=BU L/\∀a∈A,RdL cD 2 p [] a.v a.c.sd):=by
 have o1:=hV.rd.one;have hle:=hE.1;refine Au func40 ntmps40 Y Y<|λ_ _=>U<|BJ [.nl] Y Bd Y Y<|λQ=>BF<|J Y<|X<|U<|J Y<|Ag<|BW ?_
 refine AC (λq s hh d=>∃(i:Nat) (g:Value) (f:Hp) (es:List Value) (all:List (List Int)),q=L.length-i/\s=[(0,v),(2,.pt Q),(3,g),(4,.w i)]/\h.le hh/\d=[f,BE Q 27 [.nl]]/\i<=L.length/\OwnL cW 1 22 f g es/\RdEs hh es all/\SrtB all/\all.length<=4000/\Cd [] L=Cd all (L.drop i))
  (L.length-0) _ ⟨0,_,Hp.emp,[],[],rfl,rfl,Bk,rfl,Z,OwnL.nil OD,RdEs.nil _,List.Pairwise.nil,by simp,rfl⟩ Qs ?_
 rintro q s hh d ⟨i,g,f,es,all,rfl,rfl,lh,rfl,hi,K,c,hSrt,hal,he⟩;have hV:=hV.up lh;have hE:=hE.up lh;refine X<|U<|AT Y Y<|E (Aw hV.rd.any Y Ks Y) Y<|J Y<|Ay Y (λhlt=>?_)<|λhlt=>?_
 .have hil:i<L.length:=Z
  have hie:i<es0.length:=Z
  have hci:=λms=>(hV.any (ms:=ms)).cell0 hie Y;have oei:=(hE.2 i hie hil).rd.one;have hd:Cd all (L.drop i)=if 4000<(Wv all (Ew [] L[i])).length then none else Cd (Wv all (Ew [] L[i])) (L.drop (i+1)):=by rw[fw hil,DF]
  have ov3:=K.o1;refine I<|X<|Ag<|U<|AT Y Y<|E (BP (i) hV.rd.any Y Ks Fv Y Y) Y<|Ql Y Bb (hci _)<|Qc call78 Y (Agn L[i] es0[i] hh (hn2 _<|aq hil)<|hE.2 i hie hil)<|λrs h2 ms2 l2 hF=>?_;obtain⟨rfl,hF⟩:=hF;have hsl:∀s,Ew [] L[i]=some s->s.length<=9:=λs e=>K3 _ _ s σ e;obtain⟨vs,s,b,rfl,x,hmt⟩:=ZN hF hsl;refine PQ ms2 hh λh3 l3 k3=>?_;obtain⟨x,hs9⟩:=x;have x:=x h3 k3;have c:=c.up l3;have ovs:=x.rd.one;refine AT Y Y<|AT Y Y<|J Y ?_;obtain⟨P,hP⟩:∃P,2^s.length=P:=⟨_,Y⟩
  have hP1:1<=P:=by rw[<-hP];exact Nat.one_le_two_pow
  have hP2:P<=512:=by rw[<-hP];exact dn (n:=2) H hs9
  refine Bu (λO p d=>∃(g:Value) (f:Hp) (es:List Value) (A:List (List Int)),O=[(0,v),(2,.pt Q),(3,g),(4,.w i)]/\h3.le p/\d=[f,BE Q 27 [.nl]]/\OwnL cW 1 22 f g es/\RdEs p es A/\SrtB A/\A.length<=4600/\A=(if b then C3 all s (P-1) else all)) ?_<|λs h ms hI=>?_
  .refine X<|Ad<|J Y<|Ag ?_
   refine AC (λq O p d=>∃(n:Nat) (g:Value) (f:Hp) (es:List Value),q=P-1-n/\O=[(0,v),(2,.pt Q),(3,g),(4,.w i),(5,vs),(6,.bool b),(7,.w ((n:Int)+1))]/\h3.le p/\d=[f,BE Q 27 [.nl]]/\n<=P-1/\OwnL cW 1 22 f g es/\RdEs p es (if b then C3 all s n else all))
    (P-1-0) _ ⟨0,g,f,es,rfl,rfl,Bk,rfl,Z,K,by cases b<;>exact c⟩ Qs ?_
   rintro q O h4 d ⟨n,g,f,es,rfl,rfl,l4,rfl,hnP,K,c⟩;have x:=x.up l4;refine X<|U<|AT Y Y<|Po (t:=35) Y (λhb=>?_)<|λhb=>?_
   .refine Qg (Ap Y Y) Y<|Qg (Ap Y Y) Y<|Qg (Aw x.rd.any Y Bb Y) Y<|Qg (Aea Y Y Y Z) Y<|Qg (Dw Y Y Y) Y<|J Y<|Ay Y (λhlt3=>?_)<|λhlt3=>?_
    .have hnl:n+1<P:=by rw[hP]at hlt3;omega
     subst hb;have c:RdEs h4 es (C3 all s n):=c;have ov3:=K.o1;have ovs:=x.rd.one;have hfl:=HZ all s n;have hFs:=Fk hSrt s n;refine I<|Bu (λO p d=>∃(g:Value) (f:Hp) (es:List Value),O=[(0,v),(2,.pt Q),(3,g),(4,.w i),(5,vs),(6,.bool true),(7,.w ((n:Int)+1))]/\h4.le p/\d=[f,BE Q 27 [.nl]]/\OwnL cW 1 22 f g es/\RdEs p es (C3 all s (n+1))) ?_<|λs h ms hI=>?_
     .refine Ag<|U<|J Y<|BW<|Bu (λO p d=>∃(v8:Value) (m8:Hp),O=[(0,v),(2,.pt Q),(3,g),(4,.w i),(5,vs),(6,.bool true),(7,.w ((n:Int)+1)),(8,v8)]/\h4=p/\d=[m8,f,BE Q 27 [.nl]]/\OwnL cI 1 3 m8 v8 (E4 s (n+1) s.length)) ?_<|λs h ms hI=>?_
      .refine X<|Ad<|J Y<|Ag ?_
       refine AC (λq O p d=>∃(a:Nat) (v8:Value) (m8:Hp),q=s.length-a/\O=[(0,v),(2,.pt Q),(3,g),(4,.w i),(5,vs),(6,.bool true),(7,.w ((n:Int)+1)),(8,v8),(9,.w a)]/\h4=p/\d=[m8,f,BE Q 27 [.nl]]/\a<=s.length/\OwnL cI 1 3 m8 v8 (E4 s (n+1) a))
        (s.length-0) _ ⟨0,_,Hp.emp,rfl,rfl,rfl,rfl,Z,OwnL.nil Bf⟩ Qs ?_
       rintro q O p d ⟨a,v8,m8,rfl,rfl,rfl,rfl,ha,T⟩;refine X<|U<|AT Y Y<|E (Aw x.rd.any Y Bb Y) Y<|J Y<|Ay Y (λhla=>?_)<|λhla=>?_
       .have hsa:a<s.length:=Z
        have hbit:(n+1).testBit a=decide ((n+1)/2^a%2=1):=by rw[Nat.testBit_eq_decide_div_mod_eq]
        have hsub:=JA s (n+1) a;have hca:=λms=>(x.any (ms:=ms)).cell0 hsa Y;have hga:s.getD a 0=s[a]:=by simp[hsa]
        have ov8:=T.o1;have hl8:=UY s (n+1) a;refine I<|X<|Ag<|U<|AT Y Y<|E (Afl Y (n:=a) (a:=n+1) Y Y Z) Y ?_;refine E (AgL Y Y Y (by have:=jq (n+1) (2^a);omega)) Y ?_;refine J Y<|Ay Y (λhod=>?_)<|λhod=>?_
        .rw[hbit,bp Z,ah rfl,hga]at hsub;refine Ad<|AT Y Y<|G Y<|E (BP (a) x.rd.any Y Bb By Y Y) Y<|Ql Y U3 (hca _)<|AB [_] Y Bb By Y ξ Y Y Z Y Y Y<|λg60=>AL 1 T (RdL.one Bf (x:=s[a]) Mh Y) Y Bb By Y Z Y Y Y BY (by(try simp only[ae]);omega) (by(try simp only[ae]);omega) rfl rfl rfl<|λv9 m9 z=>?_;rw[<-hsub]at z;refine G Y<|Am<|D2<|Ad<|G Y<|E (oA Y) Y<|G Y<|Am<|AU<|Aq (s.length-(a+1)) _ Z ⟨a+1,v9,m9,Y,Y,Y,Y,Z,z⟩ Qs
        ·rw[hbit,decide_eq_false (by omega),if_neg (by decide),append_nil]at hsub;refine Ah<|D2<|Ad<|G Y<|E (oA Y) Y<|G Y<|Am ?_;exact Aq (s.length-(a+1)) _ Z ⟨a+1,v8,m8,Y,Y,Y,Y,Z,by rw[hsub];exact T⟩ Qs
       .obtain rfl:a=s.length:=Z
        refine C<|AI _ ⟨v8,m8,Y,Y,Y,T⟩ Qs
      .obtain⟨v8,m8,rfl,rfl,rfl,T⟩:=hI;obtain⟨t,ht⟩:∃t,E4 s (n+1) s.length=t:=⟨_,Y⟩
       obtain⟨A,hA⟩:∃A,C3 all s n=A:=⟨_,Y⟩
       have hfs:C3 all s (n+1)=Ir A t:=by rw[<-ht,<-hA];rfl
       rw[ht]at T;rw[hA]at hfl hFs c;refine CT λh5 l5 k5=>?_;have hT:=T.rdh (ms:=[]) k5;have ov8:=hT.rd.one;have c:=c.up l5;have hAe:=c.1;have hoe:∀u∈es,u.oneCell'=true:=c.ones;refine U<|AT Y Y<|E (As Y call79 Y<|PK λp hl hm=>XD A t es g v8 p Z (hFs.mono t) (K.rdh<|hm _ Mh) (c.up hl) (hT.up hl) []) Y<|AT Y Y<|AT Y Y<|J Y ?_;have hcb:=KP A t;obtain⟨k,hk⟩:∃k,EI A t=k:=⟨_,Y⟩
       have hp1:(DS A t).1=k:=hk;rw[hp1];rw[hk]at hcb;refine U<|G Y<|J Y<|B1 Y (λhth=>?_)<|λhth=>?_
       .have hth:(DS A t).2=false:=by simpa using hth
        have hins:Ir A t=A.take k++t::A.drop k:=by unfold Ir;rw[hth,hk];rfl
        have hcl:=K.rd (h:=h5) (ms:=[f]) Mh;refine U<|G rfl<|AB [_] rfl Ks Fv rfl ((RdL.rd ‹_›).cells) rfl rfl Z rfl rfl rfl<|λg71=>G rfl<|G rfl<|E (UU (k) hcl.rd rfl Ks Fv rfl rfl Z Z) rfl<|Cz 0 (OwnL.blk (g:=g71) (el:=22) (F:=cW) (l:=[v8]) 1 OD rfl H) ((K.rd (h:=h5)<|List.Mem.tail _ Mh).sub_ Z<|ak _) rfl Ks Fv rfl Z rfl rfl rfl (RR λu hu=>hoe u<|jd<|ge hu) (by(try simp only[ae,fv,ag,bf,br,aw]);omega) (by(try simp only[ae,fv,ag,bf,br,aw]);omega) rfl rfl rfl<|λv6 m6 hO6=>?_;have ov6:=hO6.o1;refine G rfl<|HM ?_;refine AX [] [] [] rfl Ks Fv rfl Z V (by repeat (first|exact fu|refine⟨⟨by first|rfl|exact(x.rd.any).cells|exact(hcl.rd).cells|exact Rd.cells ‹_›|exact(RdL.rd ‹_›).cells,rfl,rfl⟩,?_⟩)) rfl rfl rfl rfl<|λg76=>?_;refine G rfl<|G rfl<|E (Iz (k) hcl.rd rfl Ks Fv rfl rfl Z Z) rfl<|Cz 0 (Gs g76 OD) ((K.rd (h:=h5)<|List.Mem.tail _<|List.Mem.tail _ Mh).sub_ (fm _) Z) rfl Ks Fv rfl Z rfl rfl rfl (RR λu hu=>hoe u<|ge hu) (by(try simp only[ae,fv,ag,bf,br,aw]);omega) (by(try simp only[ae,fv,ag,bf,br,aw]);omega) rfl rfl rfl<|λv7 m7 hO7=>G rfl ?_
        have hoe9:∀u∈v8::(es.drop k).take (es.length-k),u.oneCell'=true:=λu hu=>by
         rcases be.1 hu with rfl|hu
         .exact ov8
         .exact hoe u<|jd<|ge hu
        refine Cz 0 hO7 (hO6.rd (h:=h5)<|List.Mem.tail _ Mh) Y Ks Fv Y Z Y Y Y (RR hoe9) (by(try simp only[ae,fv,ag,bf,br,aw]);omega) (by(try simp only[ae,fv,ag,bf,br,aw]);omega) rfl rfl rfl<|λv9 m9 z=>?_
        have heq:[]++(es.drop 0).take (k-0)++([v8]++(es.drop k).take (es.length-k))=es.take k++v8::es.drop k:=by rw[js,ix,bm (l:=es.drop k) (by rw[br];omega)];rfl
        rw[heq]at z;have ov9:=z.o1;refine G Y<|Am<|Ai<|EB 1 Y<|EB 1 Y ?_;exact AI _ ⟨v9,m9,_,Y,l5,Y,z,by rw[hfs,hins];exact c.ins hT k Z⟩ Qs
       .have hth:(DS A t).2=true:=by simpa using hth
        have hins:Ir A t=A:=by unfold Ir;rw[hth];rfl
        refine Ah<|Ai ?_;exact AI _ ⟨g,f,es,Y,l5,Y,K,by rw[hfs,hins];exact c⟩ Qs
     .obtain⟨g,f,es,rfl,l5,rfl,K,c⟩:=hI;refine Ad<|G Y<|E (oA Y) Y<|G Y<|Am<|Aq (P-1-(n+1)) _ Z ⟨n+1,g,f,es,Y,Y,N l4 l5,Y,Z,K,c⟩ Qs
    .have hnl:n=P-1:=by rw[hP]at hlt3;omega
     subst hb;have c:RdEs h4 es (C3 all s n):=c;rw[hnl]at c;have hfl:=HZ all s (P-1);refine C<|AI _ ⟨g,f,es,_,Y,l4,Y,K,c,Fk hSrt s _,Z,Y⟩ Qs
   .subst hb;have c:RdEs h4 es all:=c;refine DM Y Y<|DM Y Y<|Qk Y<|J Y<|AM Y<|C<|AI _ ⟨g,f,es,all,Y,l4,Y,K,c,hSrt,Z,Y⟩ Qs
  .obtain⟨g,f,es,A,rfl,l4,rfl,K,c,hSrtA,hAl,hA⟩:=hI;have hAe:=c.1;have hmtA:=hmt all;rw[hP,<-hA]at hmtA;rw[hmtA]at hd;have ov3:=K.o1;refine U<|G Y<|E (Ky (K.rd (h:=h) (ms:=[f]) Mh).rd Y Ks Y) Y<|J Y<|Ay Y (λhbig=>?_)<|λhbig=>?_
   .rw[ah Z]at hd;refine BW<|U ?_;refine E (AQ AeM [.nl] [] [_] rfl Bd rfl rfl (by repeat (first|exact fu|refine⟨⟨rfl,rfl,rfl⟩,?_⟩|refine⟨⟨((K.rd (h:=h) (ms:=[f]) Mh).rd).cells,rfl,rfl⟩,?_⟩)) rfl) rfl ?_;refine Sa 2 [_] Bd rfl (by simp[Value.oneCell']) ?_;refine Ao<|Aj<|An<|Ae<|Ae<|An<|Ae<|EB 1 rfl ?_;exact BC (vs:=[_]) 1 rfl rfl CV rfl Bd rfl rfl (⟨N lh (N l2 (N l3 l4)),Hp.emp,[],_,rfl,rfl,OwnL.nil D7,by unfold BU;rw[he,hd];rfl,λa ha=>nomatch ha⟩)
   .rw[af Z]at hd;refine Ah<|D2<|Ad<|G Y<|E (oA Y) Y<|G Y<|Am<|Aq (L.length-(i+1)) _ Z ⟨i+1,g,f,es,A,Y,Y,N lh<|N l2<|N l3 l4,Y,Z,K,c,hSrtA,Z,by rw[he,hd]⟩ Qs
 .obtain rfl:i=L.length:=Z
  have he:Cd [] L=some all:=by rw[he,List.drop_length];rfl
  have h9:=Gh L [] all List.Pairwise.nil (λt ht=>nomatch ht) he;have hsF:BU L=(range all.length).map (Ev all):=by unfold BU;rw[he]
  have hAe:=c.1;refine CT λh2 l2 k2=>?_;have B:=K.rdh (ms:=[]) k2;have c:=c.up l2;have ov3:g.oneCell'=true:=B.rd.one;refine C<|Ab<|U<|BJ [.nl] Y Bd Y Y<|λg13=>Ao<|BW<|X<|U<|J Y<|Ag ?_
  refine AC (λq O p d=>∃(j:Nat) (vA:Value) (mA:Hp) (A:List Ce),q=all.length-j/\O=[(0,v),(2,.pt Q),(3,g),(13,.pt g13),(14,.w j)]/\h2.le p/\d=[mA,BE g13 27 [vA],BE Q 27 [.nl]]/\j<=all.length/\OwnL cC 3 50 mA vA A/\A.map Ce.c=(range j).map (Ev all)/\∀a∈A,RdL cD 2 p [] a.v a.c.sd)
   (all.length-0) _ ⟨0,_,Hp.emp,[],rfl,rfl,Bk,rfl,Z,OwnL.nil D7,rfl,λa ha=>nomatch ha⟩ Qs ?_
  rintro q O h4 d ⟨j,vA,mA,A,rfl,rfl,l4,rfl,hj,hOA,hA,hSd⟩;have B:=B.up l4;have c:=c.up l4;refine X<|U<|AT Y Y<|E (Aw B.rd.any Y Ks Y) Y<|J Y<|Ay Y (λhjl=>?_)<|λhjl=>?_
  .have hjl:j<all.length:=Z
   have hje:j<es.length:=Z
   obtain⟨S,hS⟩:∃S,all[j]=S:=⟨_,Y⟩
   have hS9:S.length<=9:=by rw[<-hS];exact h9 _<|aq hjl
   have R:RdL cI 1 h4 [] es[j] S:=by rw[<-hS];exact c.2 j hje hjl
   have hcj:=λms=>(B.any (ms:=ms)).cell0 hje Y;have ovS:=R.rd.one;have ovA:=hOA.o1;have hgd:all.getD j []=S:=by simp[hjl,hS]
   refine I<|X<|Ag<|U<|G rfl<|E (oA rfl) rfl<|G rfl<|G rfl<|E (BP (j) B.rd.any rfl Ks Fv rfl rfl) rfl<|Ql rfl Bb (hcj _)<|E (Aw R.rd.any rfl Bb rfl) rfl<|E (oS rfl) rfl ?_;refine E (AQ R7 [.w 0,.w 0,.nl] [(0,_),(1,_)] [_,_,_] rfl A9 rfl rfl (by repeat (first|exact fu|refine⟨⟨rfl,rfl,rfl⟩,?_⟩|refine⟨⟨((K.rd (h:=h) (ms:=[f]) Mh).rd).cells,rfl,rfl⟩,?_⟩)) rfl) rfl ?_;refine BJ [.w 0,.w 0,.nl] rfl A9 rfl rfl<|λg15=>?_;refine Sa 0 [_,_,_] A9 rfl (by simp[Value.oneCell']) ?_;refine Ao<|BW ?_;obtain⟨D,hD⟩:∃D:Int,(S.length:Int)-1=D:=⟨_,rfl⟩
   rw[hD];refine Bu (λO p d=>∃(vS:Value) (mS:Hp),O=[(0,v),(2,.pt Q),(3,g),(13,.pt g13),(14,.w j),(15,.pt g15)]/\h4=p/\d=[mS,BE g15 50 [.w ((j:Int)+1),.w D,vS],mA,BE g13 27 [vA],BE Q 27 [.nl]]/\OwnL cD 2 52 mS vS (if S.length<=1 then [] else T8 all S S.length)) ?_<|λs h ms hI=>?_
   .refine X<|Ad<|J Y<|Ag ?_
    refine AC (λq O p d=>∃(k:Nat) (vS:Value) (mS:Hp),q=S.length-k/\O=[(0,v),(2,.pt Q),(3,g),(13,.pt g13),(14,.w j),(15,.pt g15),(16,.w k)]/\h4=p/\d=[mS,BE g15 50 [.w ((j:Int)+1),.w D,vS],mA,BE g13 27 [vA],BE Q 27 [.nl]]/\k<=S.length/\(S.length<=1->k=0)/\OwnL cD 2 52 mS vS (T8 all S k))
     (S.length-0) _ ⟨0,_,Hp.emp,rfl,rfl,rfl,rfl,Z,λ_=>rfl,OwnL.nil GJ⟩ Qs ?_
    rintro q O p d ⟨k,vS,mS,rfl,rfl,rfl,rfl,hk,hk0,M⟩;refine X<|U<|AT Y Y<|G Y<|E (BP (j) B.rd.any Y Ks Fv Y Y) Y<|Ql Y Bb (hcj _)<|E (Aw R.rd.any Y Bb Y) Y<|AT Y Y<|AY (t:=109) Y (λhk1=>?_)<|λhk1=>?_
    .have hkS:k<S.length:=Z
     refine Qg (oF Co Y) Y<|Qg (oL Y U3<|Cell.blk 1 Y Y) Y<|Qg (CE Y Y Y) Y<|J Y<|Ay Y (λhdp=>?_)<|λhdp=>?_
     .have hD1:1<=D:=Z
      have ovS2:=M.o1;refine I<|X<|Ag<|X<|AS (n:=17) (bs:=[lw,W,W,W,W,W,W,lw,W,W,W,W,W,W,W,lw,lw]) [lw,W,W,W,W,W,W,lw,W,W,W,W,W,W,W] Cx V V rfl rfl<|Qq rfl<|Qq rfl<|Qp rfl (BP (j) B.rd.any rfl Ks Fv rfl rfl)<|QL rfl Bb (hcj _)<|Qq rfl<|Qp rfl (DW (k) R.rd.any rfl Bb By rfl rfl Z Z)<|Qq rfl<|Qq rfl<|Qp rfl (BP (j) B.rd.any rfl Ks Fv rfl rfl)<|QL rfl Bb (hcj _)<|Qq rfl<|Qp rfl (oA rfl)<|Qp rfl (Dm (k+1) R.rd.any rfl Bb By rfl rfl Z Z)<|Qo 0 rfl ?_;refine AX [] [] [] rfl Bb By rfl Z V (by repeat (first|exact fu|refine⟨⟨by first|rfl|exact(B.rd.any).cells|exact(R.rd.any).cells|exact((K.rd (h:=h) (ms:=[f]) Mh).rd).cells|exact Rd.cells ‹_›|exact(RdL.rd ‹_›).cells,rfl,rfl⟩,?_⟩)) rfl rfl rfl rfl<|λg116=>?_;refine Qw<|Qo 7 rfl<|AL 0 (Gs g116 Bf) (R.any.sub_ (fm _) hk) rfl Bb By rfl Z rfl rfl rfl BY (by(try simp only[ae,fv,ag,bf,br,aw]);omega) (by(try simp only[ae,fv,ag,bf,br,aw]);omega) rfl rfl rfl<|λv6 m6 hO6=>Qw<|Qo 15 rfl<|AL 0 hO6 (R.any.sub_ hkS<|ak _) rfl Bb By rfl Z rfl rfl rfl BY (by(try simp only[ae,fv,ag,bf,br,aw]);omega) (by(try simp only[ae,fv,ag,bf,br,aw]);omega) rfl rfl rfl<|λv7 m7 hO7=>Qw<|Qo 16 rfl<|G rfl<|Qw<|Qe ?_
      have heq:[]++(S.drop 0).take (k-0)++(S.drop (k+1)).take (S.length-(k+1))=S.eraseIdx k:=by rw[js,ix,bm (l:=S.drop (k+1)) (by rw[br];exact ak _),List.eraseIdx_eq_take_drop_succ];rfl
      rw[heq]at hO7;refine Ab ?_;have ov7:=hO7.o1;refine U<|AT Y Y<|E (As Y call79 Y<|PK λp hl hm=>XD all (S.eraseIdx k) es g v7 p Z (hSrt.mono _) (B.up hl) (c.up hl) (hO7.rdh<|hm _ Mh) []) Y<|AT Y Y<|AT Y Y<|J Y<|Lf ?_;obtain⟨n,hn⟩:∃n,(DS all (S.eraseIdx k)).1=n:=⟨_,Y⟩
      have hnl:n<=all.length:=by rw[<-hn];exact KP _ _
      have hrs:=Aaj all S k;rw[hn]at hrs ⊢;have hrl:=Kv all S k;refine Ad<|Qf BZ rfl<|Ql rfl Di (Cell.blk 1 rfl rfl)<|G rfl<|E (oA rfl) rfl<|G rfl<|E (Eh rfl rfl rfl Z Z) rfl<|E (oM rfl) rfl<|E (oS rfl) rfl ?_;refine E (AQ Za [.w 0,.w 0] [(0,_),(1,_)] [_,_] rfl B5 rfl rfl (by repeat (first|exact fu|refine⟨⟨rfl,rfl,rfl⟩,?_⟩|refine⟨⟨((K.rd (h:=h) (ms:=[f]) Mh).rd).cells,rfl,rfl⟩,?_⟩)) rfl) rfl ?_;refine AB [_,_] rfl Di B5 rfl ξ rfl rfl Z rfl rfl rfl<|λg147=>?_;refine AL 1 M (RdL.one GJ (x:=((n:Int)+1,1-2*((k:Int)%2))) Mh rfl) rfl Di B5 rfl Z rfl rfl rfl No (by rw[Kv];(try simp only[ae]);omega) (by rw[Kv];(try simp only[ae]);omega) rfl rfl rfl<|λv9 m9 z=>?_;rw[<-hrs]at z;have ov9:=z.o1;refine Qf BZ rfl ?_;refine Bl 2 _ rfl Ag8 rfl rfl (by assumption) rfl rfl (by(simp;done)) rfl rfl ?_;refine Am<|D2<|Ad<|G rfl<|E (oA rfl) rfl<|G rfl<|Am<|EB 0 rfl<|Aq (S.length-(k+1)) _ Z ⟨k+1,v9,m9,rfl,rfl,rfl,rfl,Z,λq=>Z,z⟩ Qs
     .have hS1:S.length<=1:=Z
      refine C ?_;exact AI _ ⟨vS,mS,Y,Y,Y,by rw[ah hS1];have:=hk0 hS1;subst this;exact M⟩ Qs
    .have hkS:k=S.length:=Z
     subst hkS;refine DM Y Y<|Qk Y<|J Y<|AM Y<|C ?_
     exact AI _ ⟨vS,mS,Y,Y,Y,by
      split
      .rename_i h1;have:=hk0 h1;rw[this]at M;exact M
      .exact M⟩ Qs
   .obtain⟨vS,mS,rfl,rfl,rfl,M⟩:=hI;obtain⟨rw,hrw⟩:∃rw,(if S.length<=1 then [] else T8 all S S.length)=rw:=⟨_,rfl⟩
    have hrl:rw.length<=9:=by
     rw[<-hrw];split
     .simp
     .rw[Kv];exact hS9
    rw[hrw]at M
    have hcell:Ev all j=⟨(j:Int)+1,D,CS rw⟩:=by unfold Ev;rw[hgd,hD,<-hrw];split<;>rfl
    refine CT λh5 l5 k5=>?_;have hRw:=M.rdh (ms:=[]) k5;have ovS2:=hRw.rd.one;refine U<|Qf BZ Y<|Ql Y Di (Cell.blk 0 Y Y)<|Qc call80 Y (VC rw vS h5 Z hRw)<|λrs h6 ms2 l6 hF=>?_;obtain⟨rfl,m9,rfl,z⟩:=hF;refine CU λh6 l6 k6=>?_;have hR9:=z.rdh (ms:=[]) k6;have ov9:=hR9.rd.one;have hAl:A.length=j:=by have:=bh List.length hA;simpa using this
    let ce:Ce:=⟨⟨(j:Int)+1,D,CS rw⟩,rs⟩
    refine Qf BZ Y ?_;refine Bl 0 _ Y Ag8 Y Y (by assumption) Y Y (by(simp;done)) rfl rfl ?_;refine HM<|Qf Cy Y<|Ql Y B8 (Cell.blk 2 Y Y)<|E (oG Y Kr A9<|Seg.blk 0 Y) Y<|AB [_,_,_] Y B8 A9 Y ξ Y Y Z Y Y Y<|λg157=>?_;refine Cz 2 hOA (RdL.one D7 (x:=ce) Mh Y) Y B8 A9 Y Z Y Y Y (Hd (l:=[ce]) (h:=h6) λy hy=>by rw[bj.1 hy];exact hR9) (by(try simp only[ae]);omega) (by(try simp only[ae]);omega) rfl rfl rfl<|λvA2 mA2 hOA2=>?_;have ovA2:=hOA2.o1;refine Qf Cy Y ?_;refine Bl 3 _ Y AeT Y Y (by assumption) Y Y (by(simp;done)) rfl rfl ?_;refine Am<|D2<|Ad<|G Y<|E (oA Y) Y<|G Y<|Am<|EB 0 Y<|EB 0 Y ?_
    exact Aq (all.length-(j+1)) _ Z ⟨j+1,vA2,mA2,A++[ce],Y,Y,N l4 (N l5 l6),Y,Z,hOA2,by rw[cz,hA,kp,cz];congr 1;simp[ce,hcell],λa ha=>by
     rcases bi.1 ha with h|h
     .exact(hSd a h).up (N l5 l6)
     .rw[bj.1 h];exact hR9⟩ Qs
  .obtain rfl:j=all.length:=Z
   have ovA:=hOA.o1;refine C<|Ab<|U<|E (oG Y CV Bd<|Seg.blk 1 Y) Y ?_;refine Sa 2 [_] Bd Y (by simp[o1,ov3,ovA]) ?_;refine Ao<|Aj<|EB 1 Y<|BC (vs:=[_]) 1 Y Y CV Y Bd Y Y (⟨N lh<|N l2 l4,mA,A,_,Y,Y,hOA,by rw[hA,hsF],hSd⟩)
end
section
theorem RdEs.snoc{h:Hp}{b:List Value}{a:List (List Int)}(d:RdEs h b a){v:Value}{t:List Int}(c:RdL cI 1 h [] v t):RdEs h (b++[v]) (a++[t]):=by have:=d.ins c a.length (ak _);rw[bm (by rw[d.1];exact ak _),fz,jg (by rw[d.1];exact ak _),List.drop_length]at this;exact this
structure RgtF(o:List Cl):Prop where
 n:o.length<=4000
 inc:o.Pairwise λa b=>a.id<b.id
 pos:∀x∈o,1<=x.id
 can:∀x∈o,∃y:Cl,x=y.can
 fst:∀x∈o,CW o x=0
 snd:∀x∈o,2<=x.dim->Fh o x=0
theorem Aav(l:List Cl):(ordF l).length=l.length:=by rw[(Ed l.length l (ak _)).length_eq,bb]
theorem RgtF.bds{o:List Cl}(R:RgtF o){x:Cl}(f:x∈o):(0<=x.dim/\x.dim<=8)/\x.sd.length<=64/\∀r∈x.sd,r.2=1\/r.2=-1:=by obtain⟨b,c,_,d⟩:=FU (R.fst x f);refine⟨b,c,λr e=>?_⟩;obtain⟨i,a,rfl⟩:=ef.1 e;have:=d i a;unfold Ca at this;rw[Bs a]at this;omega
variable {a b c:Int} {x:Cl} {l:List Int} {m n:Nat}
abbrev HR:=List (Int×Int×Int)
def Fi(T:HR)(c:Int):Int:=(T.map λe=>if e.2.1=c then e.2.2 else 0).sum
def GQ(T:HR)(c:Int):Int:=(T.map λe=>if e.2.1=c then(1:Int) else 0).sum
inductive Con (T:HR):Int->Int->Prop
 | refl (a:Int):Con T a a
 | step {a b d c w w':Int}:Con T a b->(b,c,w)∈T->(d,c,w')∈T->Con T a d
theorem Con.trans{T:HR}(h:Con T a b)(d:Con T b c):Con T a c:=by
 induction d with
 | refl=>exact h
 | step _ h1 h2 ih=>exact .step ih h1 h2
theorem Con.symm{T:HR}(h:Con T a b):Con T b a:=by
 induction h with
 | refl=>exact .refl _
 | step _ h1 h2 ih=>exact(Con.step (.refl _) h2 h1).trans ih
theorem Con.mono{T d:HR}(f:∀e∈T,e∈d)(h:Con T a b):Con d a b:=by
 induction h with
 | refl=>exact .refl _
 | step _ h1 h2 ih=>exact .step ih (f _ h1)<|f _ h2
theorem Con.in{T:HR}(h:Con T a b):a=b\/((∃c w,(a,c,w)∈T)/\∃c w,(b,c,w)∈T):=by
 induction h with
 | refl=>exact .inl Y
 | step _ h1 h2 d=>
  rcases d with rfl|d
  .exact .inr ⟨⟨_,_,h1⟩,_,_,h2⟩
  .exact .inr ⟨d.1,_,_,h2⟩
theorem Con.snoc{T:HR}{i f w:Int}(M:f=i/\(∀g A,(g,c,A) ∉ T)\/∃A,(f,c,A)∈T):Con (T++[(i,c,w)]) a b<->Con T a b\/(Con T a i/\Con T f b)\/(Con T a f/\Con T i b):=by
 have j:∀e∈T,e∈T++[(i,c,w)]:=λe S=>eg _ S;have hi:(i,c,w)∈T++[(i,c,w)]:=ej _ Mh
 have K:Con (T++[(i,c,w)]) i f:=by
  rcases M with ⟨rfl,_⟩|⟨A,h⟩
  .exact .refl _
  .exact .step (.refl _) hi<|j _ h
 constructor
 .intro h
  induction h with
  | refl=>exact .inl<|.refl _
  | @step b d c' w1 w2 _ s t L=>
   -- the last step
   have Q:∀{b d},(b,c',w1)∈T++[(i,c,w)]->(d,c',w2)∈T++[(i,c,w)]->Con T b d\/(Con T b i/\Con T f d)\/(Con T b f/\Con T i d):=λ{b d} s t=>by
    rcases bi.1 s with y|y<;>rcases bi.1 t with z|z
    .exact .inl<|.step (.refl _) y z
    .obtain⟨B,r,R⟩:d=i/\c'=c/\w2=w:=by simpa using z
     rcases M with ⟨_,O⟩|⟨A,h⟩
     .exact lj (r ▸ y)<|O _ _
     .rw[B];exact .inr<|.inr ⟨.step (.refl _) (r ▸ y) h,.refl _⟩
    .obtain⟨B,r,R⟩:b=i/\c'=c/\w1=w:=by simpa using y
     rcases M with ⟨_,O⟩|⟨A,h⟩
     .exact lj (r ▸ z)<|O _ _
     .rw[B];exact .inr<|.inl ⟨.refl _,.step (.refl _) h<|r ▸ z⟩
    .obtain⟨B,_⟩:b=i/\c'=c/\w1=w:=by simpa using y
     obtain⟨r,_⟩:d=i/\c'=c/\w2=w:=by simpa using z
     rw[B,r];exact .inl<|.refl _
   have k:=Q s t;rcases L with L|⟨u,P⟩|⟨u,P⟩
   .rcases k with k|⟨v,p⟩|⟨v,p⟩
    .exact .inl<|L.trans k
    .exact .inr<|.inl ⟨L.trans v,p⟩
    .exact .inr<|.inr ⟨L.trans v,p⟩
   .rcases k with k|⟨v,p⟩|⟨v,p⟩
    .exact .inr<|.inl ⟨u,P.trans k⟩
    .exact .inr<|.inl ⟨u,p⟩
    .exact .inl<|u.trans p
   .rcases k with k|⟨v,p⟩|⟨v,p⟩
    .exact .inr<|.inr ⟨u,P.trans k⟩
    .exact .inl<|u.trans p
    .exact .inr<|.inr ⟨u,p⟩
 .rintro(h|⟨s,t⟩|⟨s,t⟩)
  .exact h.mono j
  .exact(s.mono j).trans (K.trans (t.mono j))
  .exact(s.mono j).trans (K.symm.trans (t.mono j))
theorem Pg(T:HR)(e:Int×Int×Int)(c:Int):Fi (T++[e]) c=Fi T c+if e.2.1=c then e.2.2 else 0:=by simp[Fi]
theorem ZQ(T:HR)(e:Int×Int×Int)(c:Int):GQ (T++[e]) c=GQ T c+if e.2.1=c then 1 else 0:=by simp[GQ]
theorem PV{T:HR}(h:∀e∈T,e.2.1≠c):Fi T c=0/\GQ T c=0:=by
 induction T with
 | nil=>exact⟨Y,Y⟩
 | cons e T ih=>
  obtain⟨d,f⟩:=ih λe i=>h e (am _ i);have g:=h e Mh;unfold Fi at *;unfold GQ at *;simp only[dh,fa,af g,d,f];exact⟨Y,Y⟩
theorem OR{x:Int}:Fj (a::l) x=if a=x then 0 else Fj l x+1:=by
 unfold Fj;rw[List.takeWhile_cons];by_cases e:a=x
 .simp[e]
 .simp[e]
theorem Zi{x:Int}{k:Nat}(d:Fj l x=k)(h:k<l.length):l[k]=x:=by
 induction l generalizing k with
 | nil=>simp at h
 | cons a l ih=>
  rw[OR]at d;split at d
  .subst d;assumption
  .subst d;rw[ky];exact ih Y (by simpa using h)
theorem Z9{x:Int}(h:Fj l x=l.length):x ∉ l:=by
 induction l with
 | nil=>simp
 | cons a l ih=>
  rw[OR]at h;split at h
  .simp at h
  .rename_i e;rw[be];rintro(rfl|h1)
   .exact e Y
   .exact ih (by simpa using h) h1
theorem JB{α:Type}{l:List α}(h:l.Nodup){i j:Nat}(g:i<l.length)(k:j<l.length)(e:l[i]=l[j]):i=j:=by
 have f:=bw.1 h;rcases iz i j with d|d|d
 .exact lj e<|f i j g k d
 .exact d
 .exact lj e.symm<|f j i k g d
structure S2.Inv(S:S2)(x:Cl)(T:HR)(m n:Nat):Prop where
 nd:S.ids.Nodup
 mem:∀c,c∈S.ids<->∃a w,(a,c,w)∈T
 ls:S.su.length=S.ids.length
 lm:S.ma.length=S.ids.length
 lf:S.fi.length=S.ids.length
 lp:S.pa.length=n
 su:∀k (hk:k<S.ids.length),S.su.getD k 0=Fi T S.ids[k]
 ma:∀k (hk:k<S.ids.length),S.ma.getD k 0=GQ T S.ids[k]
 fi:∀k (hk:k<S.ids.length),∃j:Nat,j<m/\S.fi.getD k 0=(j:Int)/\∃w,((Bw x j).1,S.ids[k],w)∈T
 pl:∀j,j<m->0<=S.pa.getD j 0/\S.pa.getD j 0<m
 pc:∀j j',j<m->j'<m->(S.pa.getD j 0=S.pa.getD j' 0<->Con T (Bw x j).1 (Bw x j').1)
 fr:∀e∈T,∃j:Nat,j<m/\e.1=(Bw x j).1
theorem J9(l:List Int)(k j:Nat)(y:Int)(d:k<l.length):(l.set k y).getD j 0=if j=k then y else l.getD j 0:=by
 simp only[jl,gh];by_cases e:k=j
 .subst e;simp[d]
 .simp[e,gx e]
theorem JK(l:List Int)(j:Nat)(y:Int):(l++[y]).getD j 0=if j=l.length then y else l.getD j 0:=by
 simp only[jl];rcases iz j l.length with h|h|h
 .rw[fc h,af Z]
 .subst h;simp
 .rw[af Z,fk (by simp;omega),fk Z]
theorem ZD(f:List Int)(m:Nat)(d e:Int)(j:Nat)(k:m<=f.length)(i:j<m):(GO f m d e).getD j 0=if f.getD j 0=d then e else f.getD j 0:=by
 have g:j<f.length:=Z
 have h:j<(GO f m d e).length:=by rw[Ec];exact g
 simp only[jl,aj g,aj h,Option.getD_some];rw[FT g];simp[i]
theorem S2.Inv.start{S:S2}{T:HR}(I:S.Inv x T m n)(A:m<n)(t:∀j,j<m->(Bw x j).1≠(Bw x m).1):(S.start m).Inv x T (m+1) n:=by
 have z:=I.lp;have r:∀j,(S.pa.set m (m:Int)).getD j 0=if j=m then(m:Int) else S.pa.getD j 0:=λj=>J9 _ _ _ _ Z
 have d:∀j,j<m->¬Con T (Bw x j).1 (Bw x m).1:=λj s h=>by
  rcases h.in with h|⟨_,c,w,h⟩
  .exact t j s h
  .obtain⟨f,g,e⟩:=I.fr _ h;exact t f g e.symm
 refine⟨I.nd,I.mem,I.ls,I.lm,I.lf,by show(List.set _ _ _).length=n;rw[fh];exact z,I.su,I.ma,λk y=>?_,λj s=>?_,λj f s g=>?_,λe v=>?_⟩
 .obtain⟨j,u,p⟩:=I.fi k y;exact⟨j,Z,p⟩
 .show 0<=(S.pa.set m (m:Int)).getD j 0/\(S.pa.set m (m:Int)).getD j 0<((m+1:Nat):Int);rw[r];split
  .omega
  .have:=I.pl j Z;omega
 .show(S.pa.set m (m:Int)).getD j 0=(S.pa.set m (m:Int)).getD f 0<->_;rw[r,r];by_cases e:j=m<;>by_cases i:f=m
  .subst e;subst i;exact⟨λ_=>.refl _,λ_=>rfl⟩
  .subst e;rw[ah rfl,af i];have:=I.pl f Z;exact⟨λh=>Z,λh=>lj h.symm (d f Z)⟩
  .subst i;rw[af e,ah rfl];have:=I.pl j Z;exact⟨λh=>Z,λh=>lj h (d j Z)⟩
  .rw[af e,af i];exact I.pc j f Z Z
 .obtain⟨j,u,p⟩:=I.fr e v;exact⟨j,Z,p⟩
theorem S2.Inv.side{S:S2}{T:HR}(I:S.Inv x T (m+1) n)(hm:m<n)(w:Int)(r:Int×Int):(S.side m w r).Inv x (T++[((Bw x m).1,r.1,w*r.2)]) (m+1) n:=by
 have hp:=I.lp
 -- the place of the id,in the state after add
 obtain⟨k,Q⟩:∃k,Fj S.ids r.1=k:=⟨_,Y⟩
 obtain⟨U,hU⟩:∃U,S.add m r.1=U:=⟨_,Y⟩
 have A:U.pa=S.pa/\U.ids.Nodup/\(∀c,c∈U.ids<->c=r.1\/∃a w,(a,c,w)∈T)/\U.su.length=U.ids.length/\U.ma.length=U.ids.length/\U.fi.length=U.ids.length/\(∀k (Q:k<U.ids.length),U.su.getD k 0=Fi T U.ids[k])/\(∀k (Q:k<U.ids.length),U.ma.getD k 0=GQ T U.ids[k])/\(∃Q:k<U.ids.length,U.ids[k]=r.1) ∧
   (∀i (d:i<U.ids.length),i≠k->∃j:Nat,j<m+1/\U.fi.getD i 0=(j:Int)/\∃w,((Bw x j).1,U.ids[i],w)∈T) ∧
   ∃f:Nat,f<m+1/\U.fi.getD k 0=(f:Int)/\((Bw x f).1=(Bw x m).1/\f=m/\(∀g s,(g,r.1,s) ∉ T)\/∃s,((Bw x f).1,r.1,s)∈T):=by
  subst hU;unfold S2.add;by_cases h:Fj S.ids r.1=S.ids.length
  .have hn:=Z9 h;have R:∀g s,(g,r.1,s) ∉ T:=λg s hg=>hn ((I.mem _).2 ⟨g,s,hg⟩);have h0:Fi T r.1=0/\GQ T r.1=0:=PV λe he q=>R e.1 e.2.2 (by rw[<-q];exact he);rw[ah h];have u:k=S.ids.length:=Z
   have t:∀i (d:i<(S.ids++[r.1]).length),(S.ids++[r.1])[i]=if h:i<S.ids.length then S.ids[i] else r.1:=λi d=>by
    by_cases p:i<S.ids.length
    .rw[dif_pos p,kh p]
    .rw[dif_neg p,getElem_append_right Z];simp
   refine⟨Y,?_,λc=>?_,by simp[I.ls],by simp[I.lm],by simp[I.lf],λi d=>?_,λi d=>?_,⟨by show k<(S.ids++[r.1]).length;simp;omega,?_⟩,λi d hne=>?_,m,Z,?_,.inl ⟨rfl,rfl,R⟩⟩
   .exact kv.2 ⟨I.nd,by simp,λa ha b hb e=>by rw[bj.1 hb]at e;exact hn (e ▸ ha)⟩
   .show c∈S.ids++[r.1]<->_;rw[mem_append,bj,I.mem];exact⟨λh=>h.symm,λh=>h.symm⟩
   .have L:i<S.ids.length+1:=by have:i<(S.ids++[r.1]).length:=d;simpa using this
    show(S.su++[0]).getD i 0=Fi T (S.ids++[r.1])[i];rw[JK,t i d,I.ls];by_cases p:i<S.ids.length
    .rw[af Z,dif_pos p];exact I.su i p
    .rw[ah Z,dif_neg p,h0.1]
   .have L:i<S.ids.length+1:=by have:i<(S.ids++[r.1]).length:=d;simpa using this
    show(S.ma++[0]).getD i 0=GQ T (S.ids++[r.1])[i];rw[JK,t i d,I.lm];by_cases p:i<S.ids.length
    .rw[af Z,dif_pos p];exact I.ma i p
    .rw[ah Z,dif_neg p,h0.2]
   .show(S.ids++[r.1])[k]'_=r.1;rw[t,dif_neg Z]
   .have L:i<S.ids.length+1:=by have:i<(S.ids++[r.1]).length:=d;simpa using this
    obtain⟨j,p,h2,h3⟩:=I.fi i Z;refine⟨j,p,?_,?_⟩
    .show(S.fi++[(m:Int)]).getD i 0=j;rw[JK,I.lf,af Z];exact h2
    .show ∃w,(_,(S.ids++[r.1])[i]'d,w)∈T;rw[t i d,dif_pos (show i<S.ids.length by omega)];exact h3
   .show(S.fi++[(m:Int)]).getD k 0=(m:Int);rw[JK,I.lf,ah u]
  .have hle:=TO S.ids r.1;have u:k<S.ids.length:=Z
   have M:S.ids[k]=r.1:=Zi Q u;have hin:r.1∈S.ids:=by rw[<-M];exact aq u
   rw[af h];obtain⟨f,O,f2,P⟩:=I.fi k u;refine⟨Y,I.nd,λc=>?_,I.ls,I.lm,I.lf,I.su,I.ma,⟨u,M⟩,λi d _=>I.fi i d,f,O,f2,.inr (by rw[M]at P;exact P)⟩;rw[I.mem];refine⟨.inr,λh=>?_⟩;rcases h with rfl|h
   .exact(I.mem _).1 hin
   .exact h
 obtain⟨a1,a2,a3,a4,a5,a6,a7,a8,⟨a9,v⟩,a11,f,O,f2,P⟩:=A;have hS:S.side m w r=U.hit m k (w*r.2):=by unfold S2.side;rw[hU,Q]
 rw[hS]
 have hcf:∀{a b},Con (T++[((Bw x m).1,r.1,w*r.2)]) a b<->_:=λ{a b}=>Con.snoc (a:=a) (b:=b) (T:=T) (i:=(Bw x m).1) (f:=(Bw x f).1) (c:=r.1) (w:=w*r.2) (by
  rcases P with ⟨p,_,h2⟩|h
  .exact .inl ⟨p,h2⟩
  .exact .inr h)
 have z:∀j,j<m+1->(GO U.pa (m+1) (U.pa.getD m 0) (U.pa.getD (U.fi.getD k 0).toNat 0)).getD j 0=if S.pa.getD j 0=S.pa.getD m 0 then S.pa.getD f 0 else S.pa.getD j 0:=λj B=>by rw[ZD _ _ _ _ _ (by rw[a1];omega) B,a1,f2,Int.toNat_natCast]
 refine⟨a2,λc=>?_,by show(List.set _ _ _).length=_;rw[fh];exact a4,by show(List.set _ _ _).length=_;rw[fh];exact a5,a6,by show(GO _ _ _ _).length=n;rw[Ec,a1];exact hp,λi y=>?_,λi y=>?_,λi y=>?_,λj B=>?_,λj j' B K=>?_,λe he=>?_⟩
 .show c∈U.ids<->_;rw[a3];constructor
  .rintro(rfl|⟨a,s,h⟩)
   .exact⟨_,_,ej _ Mh⟩
   .exact⟨a,s,eg _ h⟩
  .rintro⟨a,s,h⟩;rcases bi.1 h with h|h
   .exact .inr ⟨a,s,h⟩
   .have:=bj.1 h;exact .inl<|bh (λe:Int×Int×Int=>e.2.1) this
 .have d:i<U.ids.length:=y;show(U.su.set k (U.su.getD k 0+w*r.2)).getD i 0=Fi _ (U.ids[i]'d);rw[J9 _ _ _ _ Z,Pg];by_cases e:i=k
  .subst e;rw[ah rfl,a7 i d,v];simp
  .have:¬r.1=U.ids[i]'d:=λh=>e (JB a2 d a9 (by rw[v];exact h.symm));rw[af e,a7 i d,af this,il]
 .have d:i<U.ids.length:=y;show(U.ma.set k (U.ma.getD k 0+1)).getD i 0=GQ _ (U.ids[i]'d);rw[J9 _ _ _ _ Z,ZQ];by_cases e:i=k
  .subst e;rw[ah rfl,a8 i d,v];simp
  .have:¬r.1=U.ids[i]'d:=λh=>e (JB a2 d a9 (by rw[v];exact h.symm));rw[af e,a8 i d,af this,il]
 .have d:i<U.ids.length:=y;show ∃j:Nat,j<m+1/\U.fi.getD i 0=(j:Int)/\∃s,((Bw x j).1,U.ids[i]'d,s)∈_;by_cases e:i=k
  .subst e;refine⟨f,O,f2,?_⟩;rw[v];rcases P with ⟨p,_,_⟩|⟨s,h⟩
   .exact⟨w*r.2,by rw[p];exact ej _ Mh⟩
   .exact⟨s,eg _ h⟩
  .obtain⟨j,j1,j2,s,j3⟩:=a11 i d e;exact⟨j,j1,j2,s,eg _ j3⟩
 .show 0<=(GO _ _ _ _).getD j 0/\(GO _ _ _ _).getD j 0<_;rw[z j B];have:=I.pl j B;have:=I.pl f O;split<;>omega
 .show(GO _ _ _ _).getD j 0=(GO _ _ _ _).getD j' 0<->_;rw[z j B,z j' K,hcf,<-I.pc j j' B K,<-I.pc j m B Z,<-I.pc f j' O K,<-I.pc j f B O,<-I.pc m j' Z K];split<;>split<;>omega
 .rcases bi.1 he with h|h
  .exact I.fr e h
  .rw[bj.1 h];exact⟨m,Z,Y⟩
theorem S2.Inv.sides(hm:m<n)(w:Int):∀(l:List (Int×Int)) (S:S2) (T:HR),S.Inv x T (m+1) n->(S.sides m w l).Inv x (T++l.map fun r=>((Bw x m).1,r.1,w*r.2)) (m+1) n
 | [],S,T,I=>by rw[List.map_nil,append_nil];exact I
 | r::l,S,T,I=>by have:=S2.Inv.sides hm w l (S.side m w r) _ (I.side hm w r);rw[append_assoc]at this;exact this
def OZ(l:List Cl)(x:Cl)(m:Nat):HR:=(range m).flatMap λi=>(GP l x i).sd.map λr=>((Bw x i).1,r.1,(Bw x i).2*r.2)
theorem Z7(l:List Cl)(x:Cl)(m:Nat):OZ l x (m+1)=OZ l x m++(GP l x m).sd.map λr=>((Bw x m).1,r.1,(Bw x m).2*r.2):=by unfold OZ;rw[kp,fe];simp
theorem UO{l:List Cl}(g:∀j m,j<m->m<x.sd.length->(Bw x j).1≠(Bw x m).1):∀m,m<=x.sd.length->(IY l x m).Inv x (OZ l x m) m x.sd.length
 | 0,_=>⟨by show List.Nodup [];simp,λc=>⟨λh=>by simp[IY]at h,λ⟨a,w,h⟩=>by simp[OZ]at h⟩,rfl,rfl,rfl,by simp[IY],λk d=>lj d (Nat.not_lt_zero _),λk d=>lj d (Nat.not_lt_zero _),λk d=>lj d (Nat.not_lt_zero _),λj f=>Z,λj p f=>Z,λe i=>by simp[OZ]at i⟩
 | m+1,h=>by rw[Z7];exact S2.Inv.sides Z _ _ _ _ ((UO g m Z).start Z λj f=>g j m f Z)
structure GoodT(T:HR)(s:List (Int×Int)):Prop where
 sum:∀e∈T,Fi T e.2.1=0
 two:∀e∈T,GQ T e.2.1=2
 con:∀a∈s,∀b∈s,Con T a.1 b.1
theorem Kw{l:List Cl}(hd:∀j m,j<m->m<x.sd.length->(Bw x j).1≠(Bw x m).1):Fh l x=0<->GoodT (OZ l x x.sd.length) x.sd:=by
 have I:=UO (l:=l) hd x.sd.length (ak _);obtain⟨S,M⟩:∃S,IY l x x.sd.length=S:=⟨_,Y⟩
 obtain⟨T,O⟩:∃T,OZ l x x.sd.length=T:=⟨_,Y⟩
 rw[M,O]at I;rw[O];have d:∀{L:List Int} {j:Nat} (g:j<L.length),L[j]=L.getD j 0:=λ{L j} g=>by simp[List.getD,g]
 have B:(∀y∈S.su,y=0)<->∀e∈T,Fi T e.2.1=0:=by
  constructor
  .intro h e A;obtain⟨k,i,s⟩:=ee ((I.mem e.2.1).2 ⟨e.1,e.2.2,A⟩);have f:=I.su k i;rw[s]at f;rw[<-f,<-d (by rw[I.ls];exact i)];exact h _<|aq _
  .intro h y t;obtain⟨k,i,rfl⟩:=ee t;have p:k<S.ids.length:=by rw[<-I.ls];exact i
   rw[d i,I.su k p];obtain⟨a,w,f⟩:=(I.mem _).1 (aq p);exact h _ f
 have f:(∀y∈S.ma,y=2)<->∀e∈T,GQ T e.2.1=2:=by
  constructor
  .intro h e A;obtain⟨k,i,s⟩:=ee ((I.mem e.2.1).2 ⟨e.1,e.2.2,A⟩);have f:=I.ma k i;rw[s]at f;rw[<-f,<-d (by rw[I.lm];exact i)];exact h _<|aq _
  .intro h y t;obtain⟨k,i,rfl⟩:=ee t;have p:k<S.ids.length:=by rw[<-I.lm];exact i
   rw[d i,I.ma k p];obtain⟨a,w,f⟩:=(I.mem _).1 (aq p);exact h _ f
 have K:(∀y∈S.pa,y=S.pa.getD 0 0)<->∀a∈x.sd,∀b∈x.sd,Con T a.1 b.1:=by
  constructor
  .intro h a R b hb;obtain⟨j,g,rfl⟩:=ee R;obtain⟨P,r,rfl⟩:=ee hb;have s:S.pa.getD j 0=S.pa.getD 0 0:=by rw[<-d (by rw[I.lp];exact g)];exact h _<|aq _
   have Q:S.pa.getD P 0=S.pa.getD 0 0:=by rw[<-d (by rw[I.lp];exact r)];exact h _<|aq _
   have:=(I.pc j P g r).1 (by rw[s,Q])
   rwa [Bs g,Bs r]at this
  .intro h y t;obtain⟨j,g,rfl⟩:=ee t;rw[d g];rw[I.lp]at g;refine(I.pc j 0 g Z).2 ?_;rw[Bs g,Bs Z];exact h _ (aq _) _<|aq _
 unfold Fh;rw[M];constructor
 .intro h;split at h
  .exact lj h H
  .rename_i u;split at h
   .exact lj h H
   .rename_i v;split at h
    .exact lj h H
    .rename_i z;exact⟨B.1 (fp.1 u),f.1 (fp.1 v),K.1 (fp.1 z)⟩
 .rintro⟨u,v,z⟩;rw[af (λq=>q (B.2 u)),af (λq=>q (f.2 v)),af (λq=>q (K.2 z))]
end
section
theorem L5:∀(b a all:List (List Int)),a.length<=4000->Cd a b=some all->all.length<=4000
 | [],a,all,h,e=>by have:a=all:=ay e;rw[<-this];exact h
 | l::b,a,all,h,e=>by
  rw[DF]at e;split at e
  .cases e
  .exact L5 b _ all Z e
theorem M9(b:List (List Int)):(BU b).length<=4000/\∀c∈BU b,(-1<=c.dim/\c.dim<=8)/\c.sd.length<=9:=by
 unfold BU;cases h:Cd [] b with
 | none=>exact⟨by simp,λc d=>nomatch d⟩
 | some all=>
  have e:=Gh b [] all List.Pairwise.nil (λt j=>nomatch j) h;refine⟨by simpa using L5 b [] all σ h,λc d=>?_⟩;obtain⟨i,f,rfl⟩:=ai.1 d;have a:=b6.1 f
  have g:(all.getD i []).length<=9:=by
   have:all.getD i []=all[i]:=by simp[List.getD,a]
   rw[this];exact e _<|aq a
  refine⟨?_,?_⟩
  .show -1<=((all.getD i []).length:Int)-1/\((all.getD i []).length:Int)-1<=8;omega
  .show(if(all.getD i []).length<=1 then [] else CS _).length<=9;split
   .simp
   .rw[H8,bb,ik];exact g
def Aiu(h:Hp)(r:Value)(ms:List Hp)(Q:List Cl->Prop):Prop:=∃m A v',ms=[m]/\r=.agg #[v']/\OwnL cC 3 50 m v' A/\Q (A.map Ce.c)/\∀a∈A,RdL cD 2 h [] a.v a.c.sd
variable {o l:List Cl} {x y:Cl} {α β:Type}
def NT(l:List Cl)(c:Int):Option Cl:=l.find? λy=>decide (y.id=c)
def Hz(l:List Cl)(c:Int):Cl:=(NT l c).getD default
theorem Fe(b:(l.map Cl.id).Nodup)(c:y∈l):NT l y.id=some y:=by
 unfold NT
 induction l with
 | nil=>cases c
 | cons a l ih=>
  rw[dh,gt]at b;rw[j8];rcases be.1 c with rfl|h
  .simp
  .have:¬a.id=y.id:=λe=>b.1 (ai.2 ⟨y,h,e.symm⟩);simp only[this,decide_false];exact ih b.2 h
theorem EV(a:(l.map Cl.id).Nodup)(b:y∈l):Hz l y.id=y:=by unfold Hz;rw[Fe a b];rfl
def Va(L:Int->List (Int×Int))(s:List (Int×Int)):HR:=s.flatMap λa=>(L a.1).map λr=>(a.1,r.1,a.2*r.2)
def Mm(l:List Cl)(x:Cl):HR:=Va (λc=>(Hz l c).sd) x.sd
structure Rgt(l:List Cl):Prop where
 n:l.length<=4000
 nd:(l.map Cl.id).Nodup
 pos:∀x∈l,1<=x.id
 dim:∀x∈l,0<=x.dim/\x.dim<=8
 num:∀x∈l,¬Ck x
 sds:∀x∈l,(x.sd.map Prod.fst).Nodup
 sid:∀x∈l,∀s∈x.sd,∃y∈l,y.id=s.1/\y.dim=x.dim-1
 sgn:∀x∈l,∀s∈x.sd,s.2=1\/s.2=-1
 one:∀x∈l,x.dim=1->(x.sd.map Prod.snd).sum=0
 tab:∀x∈l,2<=x.dim->GoodT (Mm l x) x.sd
theorem Rgt.nil:Rgt []:=⟨by simp,by simp,nofun,nofun,nofun,nofun,nofun,nofun,nofun,nofun⟩
theorem Ku{l a:List Int}(h:l.Perm a):l.sum=a.sum:=by
 induction h with
 | nil=>rfl
 | cons x _ ih=>simp only[fa,ih]
 | swap x y l=>simp only[fa];omega
 | trans _ _ h1 h2=>exact h1.trans h2
theorem GoodT.perm{T d:HR}{s g:List (Int×Int)}(h:T.Perm d)(f:s.Perm g)(G:GoodT T s):GoodT d g where
 sum:=λe c=>by exact(Ku (h.map _).symm).trans (G.sum e (h.mem_iff.2 c))
 two:=λe c=>by exact(Ku (h.map _).symm).trans (G.two e (h.mem_iff.2 c))
 con:=λa i b j=>(G.con a (f.mem_iff.2 i) b (f.mem_iff.2 j)).mono λe c=>h.mem_iff.1 c
theorem J5{f g:α->List β}:∀{l:List α},(∀a∈l,(f a).Perm (g a))->(l.flatMap f).Perm (l.flatMap g)
 | [],_=>gv _
 | a::l,h=>by rw[eo,eo];exact(h a Mh).append (J5 λb c=>h b (am _ c))
theorem If{f g:α->List β}:∀{l:List α},(∀a∈l,f a=g a)->l.flatMap f=l.flatMap g
 | [],_=>rfl
 | a::l,h=>by rw[eo,eo,h a Mh,If λb c=>h b (am _ c)]
theorem KW{f g:α->List β}{l b:List α}(h:l.Perm b)(c:∀a∈l,(f a).Perm (g a)):(l.flatMap f).Perm (b.flatMap g):=(J5 c).trans (h.flatMap_right g)
theorem Aah(x:Int×Int)(l:List (Int×Int)):(JQ x l).Perm (x::l):=by unfold JQ;refine List.perm_middle.trans ?_;rw[List.takeWhile_append_dropWhile]
theorem Dl(l:List (Int×Int)):(CS l).Perm l:=by
 have b:∀(l a:List (Int×Int)),(l.foldl (λa x=>JQ x a) a).Perm (a++l):=λl=>by
  induction l with
  | nil=>intro a;rw[append_nil];exact gv _
  | cons x l ih=>
   intro a;rw[it];refine(ih _).trans (((Aah x a).append_right l).trans ?_);exact List.perm_middle.symm
 exact b l []
structure SimC(l l':List Cl):Prop where
 len:l'.length=l.length
 ids:(l'.map Cl.id).Perm (l.map Cl.id)
 mem:∀x'∈l',∃x∈l,x'.id=x.id/\x'.dim=x.dim/\x'.sd.Perm x.sd
theorem SimC.to{h:List Cl}(S:SimC l h)(f:(l.map Cl.id).Nodup)(g:x∈l):∃c∈h,c.id=x.id/\c.dim=x.dim/\c.sd.Perm x.sd:=by
 obtain⟨c,d,i⟩:=ai.1 (S.ids.mem_iff.2 (ai.2 ⟨x,g,Y⟩));obtain⟨y,j,e,k,m⟩:=S.mem c d
 have:y=x:=by have a:=Fe f j;have b:=Fe f g;rw[<-e,i,b]at a;exact(ay a).symm
 subst this;exact⟨c,d,e,k,m⟩
theorem Rgt.sim{r:List Cl}(R:Rgt l)(S:SimC l r):Rgt r:=by
 have j:(r.map Cl.id).Nodup:=S.ids.nodup_iff.2 R.nd
 have k:∀{x b:Cl},b.dim=x.dim->b.sd.Perm x.sd->¬Ck x->¬Ck b:=λ{x b} i n h f=>by unfold Ck at *;rw[i,n.length_eq]at f;exact h f
 refine⟨by rw[S.len];exact R.n,j,λb a=>?_,λb a=>?_,λb a=>?_,λb a=>?_,λb a s m=>?_,λb a s m=>?_,λb a t=>?_,λb a t=>?_⟩<;>obtain⟨x,c,z,g,d⟩:=S.mem b a
 .rw[z];exact R.pos x c
 .rw[g];exact R.dim x c
 .exact k g d<|R.num x c
 .exact(d.map _).nodup_iff.2 (R.sds x c)
 .obtain⟨y,p,i,n⟩:=R.sid x c s (d.mem_iff.1 m);obtain⟨v,e,f,u,_⟩:=S.to R.nd p;exact⟨v,e,by rw[f,i],by rw[u,n,g]⟩
 .exact R.sgn x c s<|d.mem_iff.1 m
 .rw[Ku (d.map _)];exact R.one x c (by rw[<-g];exact t)
 .refine(R.tab x c (by rw[<-g];exact t)).perm ?_ d.symm;unfold Mm Va;refine KW d.symm λs m=>List.Perm.map _ ?_;obtain⟨y,p,i,n⟩:=R.sid x c s m;obtain⟨v,e,f,u,A⟩:=S.to R.nd p;show(Hz l s.1).sd.Perm (Hz r s.1).sd;rw[<-i,EV R.nd p,<-f,EV j e];exact A.symm
theorem Zb(l:List Cl):SimC l (ordF l):=by have b:=Ed l.length l (ak _);refine⟨by rw[b.length_eq,bb],(b.map Cl.id).trans (by rw[jb];exact gv _),λd a=>?_⟩;obtain⟨x,c,rfl⟩:=IU a;exact⟨x,c,Y,Y,Dl _⟩
theorem WG(h:o.Pairwise λa b=>a.id<b.id):(o.map Cl.id).Nodup:=fo.2 (h.imp λh e=>Z)
theorem QY(g:o.Pairwise λa b=>a.id<b.id)(i:y∈o):0<=MR o y.id/\o.getD (MR o y.id).toNat default=y:=by
 obtain⟨k,d,rfl⟩:=ee i;have f:Nv o o[k].id=k:=Vn Z (λj h c=>bw.1 g j k h d c) (λ_=>Z)
 have e:MR o o[k].id=(k:Int):=by unfold MR;rw[dif_pos (by rw[f];exact d)];simp only[f,ah]
 rw[e];refine⟨Z,?_⟩;rw[Int.toNat_natCast];simp[List.getD,d]
theorem Ad5{c:Int}(h:0<=MR o c):∃y∈o,y.id=c/\o.getD (MR o c).toNat default=y:=by
 unfold MR at *;split at h
 .rename_i a;rw[dif_pos a];split at h
  .rename_i b;rw[ah b,Int.toNat_natCast];exact⟨_,aq a,b,by simp[List.getD,a]⟩
  .exact lj h H
 .exact lj h H
theorem Xp{l:List (Int×Int)}(h:l.length=2):(l.map Prod.snd).sum=(l.getD 0 (0,0)).2+(l.getD 1 (0,0)).2:=by
 match l,h with
 | [a,b],_=>simp
theorem Ll{x:Int×Int}:∀{l:List (Int×Int)},(l.Pairwise λa b=>a.1<=b.1)->∀y∈l.dropWhile (λy=>decide (y.1<=x.1)),x.1<y.1
 | [],_,y,hy=>by cases hy
 | a::l,h,y,hy=>by
  rw[List.dropWhile_cons]at hy;split at hy
  .exact Ll (cg.1 h).2 y hy
  .rename_i c;have c:¬a.1<=x.1:=by simpa using c
   rcases be.1 hy with rfl|d
   .omega
   .have:=(cg.1 h).1 y d;omega
theorem AbX{x:Int×Int}{l:List (Int×Int)}(h:l.Pairwise λa b=>a.1<=b.1):(JQ x l).Pairwise λa b=>a.1<=b.1:=by
 unfold JQ
 have f:∀y∈l.takeWhile (λy=>decide (y.1<=x.1)),y.1<=x.1:=λy d=>by have:=List.all_takeWhile (p:=λy:Int×Int=>decide (y.1<=x.1)) (l:=l);have:=dy.1 this y d;simpa using this
 have e:=Ll (x:=x) h;refine f9.2 ⟨h.sublist<|ku _,cg.2 ⟨λy d=>by have:=e y d;omega,h.sublist (List.dropWhile_sublist _)⟩,λa i b c=>?_⟩;have g:=f a i;rcases be.1 c with rfl|c
 .exact g
 .have:=e b c;omega
theorem Kg(l:List (Int×Int)):(CS l).Pairwise λa b=>a.1<=b.1:=by
 have d:∀(l c:List (Int×Int)),(c.Pairwise λa b=>a.1<=b.1)->(l.foldl (λc x=>JQ x c) c).Pairwise λa b=>a.1<=b.1:=λl=>by
  induction l with
  | nil=>intro c h;exact h
  | cons x l ih=>intro c h;rw[it];exact ih _<|AbX h
 exact d l [] List.Pairwise.nil
theorem Xr(g:o.Pairwise λa b=>a.id<b.id)(i:∀s∈x.sd,∃y∈o,y.id=s.1):OZ o x x.sd.length=Mm o x:=by
 have k:x.sd=(range x.sd.length).map (Bw x):=gg σ λj d f=>by simp[Bs d]
 unfold Mm Va
 conv=>rhs;rw[k]
 unfold OZ;rw[flatMap_map];refine If λj c=>?_;have c:=b6.1 c;obtain⟨y,h,e⟩:=i (Bw x j) (by rw[Bs c];exact aq c);have d:GP o x j=y:=by unfold GP;rw[<-e];exact(QY g h).2
 have f:Hz o (Bw x j).1=y:=by rw[<-e];exact EV (WG g) h
 show _=List.map (λr=>((Bw x j).1,r.1,(Bw x j).2*r.2)) (Hz o (Bw x j).1).sd;rw[d,f]
theorem XL(z:o.Pairwise λa b=>a.id<b.id)(v:∃y:Cl,x=y.can):(∀i,i<x.sd.length->¬Dt o x i)<->(∀s∈x.sd,∃y∈o,y.id=s.1/\y.dim=x.dim-1)/\(x.sd.map Prod.fst).Nodup:=by
 have g:x.sd.Pairwise λa b=>a.1<=b.1:=by obtain⟨y,rfl⟩:=v;exact Kg _
 constructor
 .intro h;refine⟨λs g=>?_,?_⟩
  .obtain⟨i,c,rfl⟩:=ee g;have d:=h i c;unfold Dt at d;rw[Bs c]at d;have p:0<=MR o x.sd[i].1:=Int.not_lt.1 λq=>d (.inl q);obtain⟨y,r,m,n⟩:=Ad5 p;rw[n]at d;exact⟨y,r,m,ax λq=>d (.inr (.inl q))⟩
  .refine fo.2<|bw.2 λi j c B A e=>?_;have d:=h (i+1) Z;unfold Dt at d;rw[Bs Z,Nat.add_sub_cancel,Bs c]at d;refine d<|.inr<|.inr ⟨Z,?_⟩;have t:=bw.1 g i (i+1) c Z Z;rcases (Z:i+1=j\/i+1<j) with rfl|q
   .omega
   .have k:=bw.1 g (i+1) j Z B q;omega
 .rintro⟨d,p⟩ i c f;unfold Dt at f;rw[Bs c]at f;obtain⟨y,r,m,n⟩:=d _ (aq c);obtain⟨t,k⟩:=QY z r;rw[m]at t k;rcases f with f|f|⟨f,u⟩
  .omega
  .rw[k]at f;exact f n
  .rw[Bs (show i-1<x.sd.length by omega)]at u;have:=bw.1 (fo.1 p) (i-1) i Z c Z;exact this u.symm
theorem KI(h:(x.sd.map Prod.fst).Nodup):∀j m,j<m->m<x.sd.length->(Bw x j).1≠(Bw x m).1:=λj m a b=>by rw[Bs Z,Bs b];exact bw.1 (fo.1 h) j m Z b a
theorem RgtF.rgt(R:RgtF o):Rgt o:=by
 have d:=λx a=>FU (R.fst x a)
 have b:∀x∈o,¬Ck x:=λx a q=>by have:=R.fst x a;unfold CW at this;rw[af (by have:=(d x a).1;omega),ah q]at this;exact lj this H
 have g:=λx a=>(XL R.inc (R.can x a)).1 (d x a).2.2.1;have c:∀x∈o,∀s∈x.sd,s.2=1\/s.2=-1:=λx a=>(R.bds a).2.2;refine⟨R.n,WG R.inc,R.pos,λx a=>(d x a).1,b,λx a=>(g x a).2,λx a=>(g x a).1,c,λx a h=>?_,λx a h=>?_⟩
 .have k:x.sd.length=2:=ax λq=>b x a (.inr (.inl ⟨h,q⟩));rw[Xp k];have i:=c x a _ (aq (show 0<x.sd.length by omega));have j:=c x a _ (aq (show 1<x.sd.length by omega));have f:=R.fst x a;unfold CW at f;rw[af (by have:=(d x a).1;omega),af (b x a),af (λq=>q (d x a).2.2.1),af (λq=>q (d x a).2.2.2)]at f;rw[<-Bs]at i j;have p:¬(Bw x 0).2=(Bw x 1).2:=λq=>by rw[ah ⟨h,q⟩]at f;exact lj f H
  show(Bw x 0).2+(Bw x 1).2=0;omega
 .have i:=(Kw (KI (g x a).2)).1 (R.snd x a h)
  rwa [Xr R.inc λs m=>by obtain⟨y,n,e,_⟩:=(g x a).1 s m;exact⟨y,n,e⟩]at i
theorem Rgt.ordF(R:Rgt l):RgtF (ordF l):=by
 have d:=R.sim (Zb l);have k:=FO l.length l (ak _);have f:(Go.Proofs.Q.ordF l).Pairwise λa b=>a.id<b.id:=(k.and (fo.1 d.nd)).imp λh=>Z
 have g:∀x∈Go.Proofs.Q.ordF l,∃y:Cl,x=y.can:=λx c=>by obtain⟨a,_,e⟩:=IU c;exact⟨a,e⟩
 refine⟨d.n,f,d.pos,g,λx c=>?_,λx c j=>?_⟩
 .have t:=(XL f (g x c)).2 ⟨d.sid x c,d.sds x c⟩
  have m:∀i,i<x.sd.length->¬Ca x i:=λi p q=>by unfold Ca at q;rw[Bs p]at q;have:=d.sgn x c _ (aq p);omega
  unfold CW;rw[af (by have:=d.dim x c;omega),af (d.num x c),af (λq=>q t),af (λq=>q m)];by_cases j:x.dim=1
  .have u:x.sd.length=2:=ax λq=>d.num x c (.inr (.inl ⟨j,q⟩));have n:=d.one x c j;rw[Xp u]at n;have r:=d.sgn x c _ (aq (show 0<x.sd.length by omega));rw[<-Bs]at r;have A:(Bw x 0).2+(Bw x 1).2=0:=n;rw[af (λq=>by have:=q.2;omega)]
  .rw[af (λq=>j q.1)]
 .refine(Kw (KI (d.sds x c))).2 ?_;rw[Xr f λs v=>by obtain⟨y,z,e,_⟩:=d.sid x c s v;exact⟨y,z,e⟩];exact d.tab x c j
end
section
variable {o:List Cl}
structure CanO(l o:List Cl):Prop where
 ids:(o.map Cl.id).Perm (l.map Cl.id)
 inc:o.Pairwise λa b=>a.id<=b.id
 mem:∃l':List Cl,l'.Perm l/\o.length=l'.length/\∀i (h:i<o.length) (h':i<l'.length),o[i].id=l'[i].id/\o[i].dim=l'[i].dim/\o[i].sd.Perm l'[i].sd/\o[i].sd.Pairwise λa b=>a.1<=b.1
theorem CanO.len{l:List Cl}(C:CanO l o):o.length=l.length:=by obtain⟨c,a,b,_⟩:=C.mem;rw[b,a.length_eq]
theorem CanO.sim{l:List Cl}(C:CanO l o):SimC l o:=by obtain⟨j,e,h,f⟩:=C.mem;refine⟨C.len,C.ids,λk d=>?_⟩;obtain⟨i,g,rfl⟩:=ee d;obtain⟨a,b,c,_⟩:=f i g Z;exact⟨_,e.mem_iff.1 (aq Z),a,b,c⟩
theorem IC{α:Type}(k:α->Int):∀{l c:List α},l.Perm c->(l.Pairwise λa b=>k a<=k b)->(c.Pairwise λa b=>k a<k b)->l=c
 | [],c,h,_,_=>(List.nil_perm.1 h).symm
 | a::l,[],h,_,_=>lj h.length_eq σ
 | a::l,b::c,h,h1,h2=>by
  obtain⟨g,i⟩:=cg.1 h1;obtain⟨j,m⟩:=cg.1 h2;have f:b∈a::l:=h.mem_iff.2 Mh;have d:a∈b::c:=h.mem_iff.1 Mh
  have e:a=b:=by
   rcases be.1 d with e|d
   .exact e
   .have n:=j a d;rcases be.1 f with e|f
    .exact e.symm
    .have p:=g b f;omega
  subst e;rw[IC k ((List.perm_cons a).1 h) i m]
theorem RgtF.sinc(R:RgtF o):∀x∈o,x.sd.Pairwise λa b=>a.1<b.1:=λx c=>by
 obtain⟨y,e⟩:=R.can x c;have d:x.sd.Pairwise λa b=>a.1<=b.1:=by rw[e];exact Kg _
 have f:=fo.1 (R.rgt.sds x c);exact(d.and f).imp λh=>Z
theorem exO:∀{l:List Ce},(∀a∈l,a.v.oneCell'=true)->∃c:List CeO,c.map (λe=>(⟨e.c,e.v⟩:Ce))=l
 | [],_=>⟨[],rfl⟩
 | a::l,h=>by obtain⟨c,e⟩:=exO λb d=>h b (am _ d);exact⟨⟨a.c,a.v,h a Mh⟩::c,by rw[dh,e]⟩
def SK(e:CeO):Ce:=⟨e.c,e.v⟩
theorem PE(a:List CeO):(a.map SK).flatMap cC=a.flatMap WY:=by rw[flatMap_map];rfl
theorem Ahb{a:List CeO}{h:Hp}{b:List Hp}{v:Value}(R:RdL cC 3 h b v (a.map SK)):RdL WY 3 h b v a:=⟨by have:=R.rd;rwa [PE,bb]at this,SY⟩
theorem AgD{a:List CeO}{m:Hp}{v:Value}(O:OwnL WY 3 50 m v a):OwnL cC 3 50 m v (a.map SK):=⟨by have:=O.own;rwa [PE,bb],D7⟩
structure OrdC(l:List Ce):Prop where
 n:l.length<=1000000
 s:∀a∈l,a.c.sd.length<=20
 oi:l.Pairwise λa b=>a.c.id<=b.c.id
 od:∀a∈l,a.c.sd.Pairwise λa b=>a.1<=b.1
theorem OrdC.can{l:List Ce}(O:OrdC l):CanO (l.map Ce.c) (l.map Ce.c):=⟨gv _,fo.2 O.oi,_,gv _,rfl,λi h c=>⟨rfl,rfl,gv _,by
 obtain⟨a,b,e⟩:=ai.1 (aq h)
 rw[<-e];exact O.od a b⟩⟩
theorem AaI{c:List CeO}{i:Nat}{a b:CeO}(h:a∈c.set i b):a=b\/a∈c:=(gy h).symm
theorem Px(l:List Ce)(v:Value)(hp:Hp)(K:OrdC l)(u:RdC hp v l):FnT prog 133 #[.agg #[v]] hp [] (λr x n=>hp.le x/\∃m A v',n=[m]/\r=.agg #[v']/\OwnL cC 3 50 m v' A/\CanO (l.map Ce.c) (A.map Ce.c)/\∀a∈A,RdL cD 2 x [] a.v a.c.sd):=by
 have o1:=u.q.rd.one;obtain⟨d,e⟩:=exO (λa k=>(u.s a k).rd.one);have e:d.map SK=l:=e;refine Au func133 ntmps133 Y Y<|λ_ _=>U<|AK [_] Y Y ξ Y Y Y<|λg1=>BJ [.nl] Y Bd Y Y<|λg2=>Ao<|Ak 1 Y λO l1 hS=>?_;have u:=u.up l1;have hA:=Seg.all hS;have c0:∀t,Cell O t (⟨g1,0,none⟩:Addr) v:=λt=>hA 0 _ Y t;have hRo:RdL WY 3 O [] v d:=Ahb (by rw[e];exact u.q);have hlo:d.length=l.length:=by rw[<-e,bb]
 refine U<|Qf Cy Y<|Ql Y B8 (c0 _) ?_
 have hS:IncC d:=by have:=K.oi;rw[<-e]at this;exact(fo (f:=SK)).1 this
 have hn:=K.n;refine Qc call168 Y (WK d v O hRo Z hS)<|λr Q ms2 l2 S=>?_;obtain⟨l2',m,rfl,h⟩:=S;have ovr:=h.o1
 have f:∀a∈d,RdL cD 2 Q [] a.v a.c.sd/\a.c.sd.length<=20/\IncD a.c.sd:=λa k=>by
  have:SK a∈l:=by rw[<-e];exact ai.2 ⟨a,k,Y⟩
  exact⟨(u.s _ this).up l2,K.s _ this,K.od _ this⟩
 refine J Y<|X<|U<|G Y<|E (Aw (h.rd Mh).rd Y B8 Y) Y<|J Y<|Ag ?_
 refine AC (λq sl x n=>∃(i:Nat) (m:Hp) (g:List CeO),q=d.length-i/\sl=[(2,.pt g2),(3,r),(9,.w d.length),(10,.w i)]/\Q.le x/\n=[m,BE g2 27 [.nl]]/\i<=d.length/\OLC m r g/\g.map CeO.c=d.map CeO.c/\∀a∈g,RdL cD 2 x [] a.v a.c.sd/\a.c.sd.length<=20/\IncD a.c.sd)
  (d.length-0) _ ⟨0,m,d,rfl,rfl,Bk,rfl,Z,h,rfl,f⟩ Qs ?_
 rintro q sl P n ⟨i,m,g,rfl,rfl,l3,rfl,hi,h,R,f⟩;have ovr:=h.o1;have hoil:g.length=d.length:=by simpa using bh List.length R
 refine U<|J Y<|X<|Ay Y (λhlt=>?_)<|λhlt=>?_
 .have s:i<g.length:=Z
  obtain⟨z,B,y⟩:=f _ (aq s);have c2:∀t,m∈t->Cell P t (((AJ r).add (i*3)).add 2) g[i].v:=λt hm=>(h.rd hm).cell s (f:=2) Y;have ovi:=z.rd.one;refine I<|X<|Ag<|U<|D Y Y<|HM<|D Y Y<|D Y Y<|E (AR (i) (h.rd Mh).rd Y B8 A9 Y Y Z Z) Y<|Qf BZ Y<|Ql Y Di (c2 _ Mh)<|Qc call170 Y (Wr g[i].c.sd g[i].v P z B y)<|λrS h4 ms4 l4 S=>?_;obtain⟨l4',mS,rfl,hOS⟩:=S;refine BX hOS λh5 l5 p=>?_;have M:=p.rd.one;refine E (AR (i) (h.rd Mh).rd Y B8 A9 Y Y Z Z) Y<|Qf BZ Y ?_;refine RJ 0 i 2 ⟨g[i].c,rS,M⟩ [rS] h Y Ag8 Y Y p.rd.cells Y (λc hc=>by rw[bj.1 hc];exact M) Y s Z Y Y Y<|λm' T=>?_;refine Am<|D2<|Ad<|E (oA Y) Y<|G Y<|Am ?_
  exact Aq (d.length-(i+1)) _ Z ⟨i+1,m',_,Y,Y,N l3 (N l4 l5),Y,Z,T,by
   rw[<-R,List.map_set]
   exact gg σ λj O Q=>by
    simp only[List.getElem_set,fd];split
    .rename_i e;subst e;rfl
    .rfl,λa k=>by
   rcases AaI k with rfl|k
   .exact⟨p,B,y⟩
   .exact⟨(f a k).1.up (N l4 l5),(f a k).2⟩⟩ Qs
 .have hOe:=AgD h
  have L:∀a∈g.map SK,RdL cD 2 P [] a.v a.c.sd:=λa k=>by obtain⟨b,hb,rfl⟩:=ai.1 k;exact(f b hb).1
  have hmm:(g.map SK).map Ce.c=l.map Ce.c:=by rw[<-e,jb,jb];exact R
  obtain⟨ar,cr,rfl,_⟩:=(h.rd (h:=P) (ms:=[m]) Mh).rd.ex;refine C<|Ab<|U<|G Y<|E (AQ AeM [.nl] [(0,_)] [_] Y Bd Y Y Qt Y) Y ?_;refine Sa 1 [_] Bd Y (by simp[Value.oneCell']) ?_;refine Ao<|Aj ?_;exact BC (vs:=[_]) 1 Y Y CV Y Bd Y Y (⟨N l1 (N l2 l3),m,g.map SK,_,Y,Y,hOe,by rw[hmm];exact K.can,L⟩)
end
def kN(a:Int):Value:=.int .i64 a
theorem BL:O8 prog 3 kN Cb where
 law:=Maps.int_keyed U3
 inj:=λa b h=>by unfold kN at h;simpa using h
 key:=λb h=>⟨_,Maps.keyOf_int_mk U3 (WalkArith.wf_i64 h)⟩
def vC(a:Ce):Value:=.agg (cC a).toArray
theorem Pr(w:World):(zeroValue 50).run prog w=.ok (vC default) w:=by rfl
theorem Lb{a h m:Hp}(c:a.le h)(b:h.disj m):a.disj m:=λg=>by
 rcases b g with e|e
 .left
  cases ha:a g with
  | none=>rfl
  | some o=>rw[c g o ha]at e;cases e
 .exact .inr e
def VE(U:List Ce)(a:Ce):List Ce:=if a.c.id∈U.map (λb=>b.c.id) then U else U++[a]
def Wa(A:List Ce):List Ce:=A.foldl VE []
theorem AcF{A:List Ce}{i:Nat}(a:i<A.length):Wa (A.take (i+1))=VE (Wa (A.take i)) A[i]:=by unfold Wa;rw[ap a,foldl_append];rfl
theorem Mz:∀(A U:List Ce),∀a∈A.foldl VE U,a∈U\/a∈A
 | [],U,a,h=>.inl h
 | b::A,U,a,h=>by
  rcases Mz A (VE U b) a h with h|h
  .unfold VE at h;split at h
   .exact .inl h
   .rcases bi.1 h with h|h
    .exact .inl h
    .rw[bj.1 h];exact .inr Mh
  .exact .inr<|am _ h
theorem YQ:∀(A U:List Ce),((U++A).map λa=>a.c.id).Nodup->A.foldl VE U=U++A
 | [],U,_=>by simp
 | a::A,U,h=>by
  have e:VE U a=U++[a]:=by unfold VE;rw[af];intro b;rw[cz,kv]at h;exact h.2.2 _ b _ σ rfl
  rw[it,e,YQ A (U++[a]) (by rwa [du])];simp
theorem AaH{A:List Ce}(h:(A.map λa=>a.c.id).Nodup):Wa A=A:=by have:=YQ A [] (by simpa using h);simpa[Wa] using this
theorem AaS:∀(A U:List Ce),(A.foldl VE U).length<=U.length+A.length
 | [],U=>by simp
 | a::A,U=>by
  have b:=AaS A (VE U a);have c:(VE U a).length<=U.length+1:=by unfold VE;split<;>simp
  rw[it,de];omega
def Hl(U:List Ce):List (Int×Ce):=U.map λa=>(a.c.id,a)
theorem TC(U:List Ce):(Hl U).map Prod.fst=U.map λa=>a.c.id:=by unfold Hl;rw[jb];rfl
theorem AdF{U:List Ce}{i:Int}{b:Bool}(h:(BO (Hl U) i).isSome=b):i∈U.map (λa=>a.c.id)<->b=true:=by
 subst h;rw[<-TC];constructor
 .intro c;cases hg:BO (Hl U) i with
  | some _=>rfl
  | none=>
   exfalso;unfold BO at hg;rw[Option.map_eq_none_iff,List.find?_eq_none]at hg;obtain⟨p,f,e⟩:=ai.1 c;have:=hg p f;simp[e]at this
 .intro d;refine ax λc=>?_;rw[Ee c]at d;cases d
def RdT(h:Hp)(g:Nat)(U:List Ce):Prop:=∃gm m bs vids,Seg h [] ⟨g,0,none⟩ [.map (some gm),vids]/\CM kN vC gm Cb m (Hl U) bs/\m.le h/\RdL cI 1 h [] vids (U.map λa=>a.c.id)/\∀a∈U,RdL cD 2 h [] a.v a.c.sd
theorem RdT.up{h c:Hp}{g:Nat}{U:List Ce}(R:RdT h g U)(l:h.le c):RdT c g U:=by obtain⟨d,m,bs,b,e,f,i,j,k⟩:=R;exact⟨d,m,bs,b,e.le l,f,N i l,j.up l,λa n=>(k a n).up l⟩
structure OfOk(l:List Ce):Prop extends OrdC l where
 i:∀a∈l,Cb a.c.id
theorem AfP(l:List Ce)(v:Value)(hp:Hp)(hK:OfOk l)(hR:RdC hp v l):FnT prog 88 #[.agg #[v]] hp [] (λr L f=>hp.le L/\f=[]/\∃g A,r=.pointer (some ⟨g,0,none⟩)/\CanO (l.map Ce.c) (A.map Ce.c)/\RdT L g (Wa A)):=by
 have o1:=hR.q.rd.one;refine Au func88 ntmps88 Y Y<|λ_ _=>Ax<|AK [_] Y Y ξ Y Y Y<|λg1=>J Y<|AH λh1 l1 hS=>?_;have hR:=hR.up l1;have hA:=Seg.all hS;refine BW<|Ax<|DJ (K:=kN) (V:=vC) (Ok:=Cb) Y Y Y Y<|λM k m=>E (AQ AhX [.map none,.nl] [(0,_)] [_,_] Y Ah5 Y Y Qt Y) Y<|AK [_,_] Y Y ξ Y Y Y<|λb=>J Y<|X<|Ax<|E (oG Y CV Bd<|Seg.any hS) Y<|Qc call133 Y (Px l v h1 hK.toOrdC hR)<|λrC h2 ms2 l2 hF=>?_;obtain⟨l2',mA,A,vA,rfl,rfl,hOA,hC,B⟩:=hF;refine BX hOA λh3 l3 hQ=>?_;have B:=λa T=>(B a T).up l3;have ovA:=hQ.rd.one;have hAl:A.length=l.length:=by have:=hC.len;rwa [bb,bb]at this
 have hAn:A.length<=1000000:=by rw[hAl];exact hK.n
 refine E (HJ Y CV Y B8 Y Y Y) Y<|E (Aw hQ.rd.any Y B8 Y) Y<|J Y<|Ag ?_
 refine AC (λq P L f=>∃(i:Nat) (t:Value) (K k:Hp) (bs:List Nat),q=A.length-i/\P=[(3,.pt b),(13,vA),(14,.w A.length),(15,.w i)]/\h3.le L/\f=[BE b 137 [.map (some M),t],k,K]/\i<=A.length/\CM kN vC M Cb k (Hl (Wa (A.take i))) bs/\OwnL cI 1 3 K t ((Wa (A.take i)).map λa=>a.c.id))
  (A.length-0) _ ⟨0,_,Hp.emp,k,[],rfl,rfl,Bk,rfl,Z,m,OwnL.nil Bf⟩ Qs ?_
 rintro q P h4 f ⟨i,t,K,k,bs,rfl,rfl,l4,rfl,hi,m,j⟩;have hQ:=hQ.up l4;refine Ax<|J Y<|X<|Ay Y (λhlt=>?_)<|λhlt=>?_
 .have hil:i<A.length:=Z
  obtain⟨x,hx⟩:∃x,A[i]=x:=⟨_,Y⟩
  have hxm:x∈A:=by rw[<-hx];exact aq hil
  have hU:=AcF hil;rw[hx]at hU;obtain⟨U,S⟩:∃U,Wa (A.take i)=U:=⟨_,Y⟩
  rw[S]at m j hU;have oxv:=(B x hxm).rd.one;have hsx:∀d,Seg h4 d ((AJ vA).add (i*3)) (cC x):=λd=>by rw[<-hx];exact(hQ.any (ms:=d)).seg hil
  have ovI:=j.o1;obtain⟨Q,hbb⟩:∃Q,(BO (Hl U) x.c.id).isSome=Q:=⟨_,Y⟩
  have hin:=AdF hbb;refine I<|Bu (λP L f=>∃(t:Value) (K k:Hp) (bs:List Nat),P=[(3,.pt b),(13,vA),(14,.w A.length),(15,.w i)]/\h4.le L/\f=[BE b 137 [.map (some M),t],k,K]/\CM kN vC M Cb k (Hl (VE U x)) bs/\OwnL cI 1 3 K t ((VE U x).map λa=>a.c.id)) ?_<|λs h d hI=>?_
  .refine Ag<|Ax<|E (BP (i) hQ.rd.any Y B8 A9 Y Y) Y<|E (oG Y Kr A9<|hsx _) Y<|BJ [.w 0,.w 0,.nl] Y A9 Y Y<|λg5=>?_;refine Sa 0 [_,_,_] A9 Y (by simp[o1,ovA,oxv,ovI]) ?_;refine Ao<|AH λh5 l5 hS5=>?_;have e5:=Seg.all hS5;have u:∀d,Cell h5 d (⟨g5,0,none⟩:Addr) (.w x.c.id):=λd=>e5 0 _ Y d;refine MA λh6 l6 lB dB LB=>MA λh7 O lM dM LM=>?_
   have e10:=Seg.all (Seg.ofLe (N lB O));have e50':∀d,Cell h7 d (⟨g5,0,none⟩:Addr) (.w x.c.id):=λd=>(u d).le (N l6 O);have e100:∀d,Cell h7 d (⟨b,0,none⟩:Addr) (.map (some M)):=λd=>e10 0 _ Y d
   have hid:Cb x.c.id:=by obtain⟨y,hy,e,_⟩:=hC.sim.mem x.c (ai.2 ⟨x,hxm,Y⟩);obtain⟨z,hz,rfl⟩:=ai.1 hy;rw[e];exact hK.i z hz
   obtain⟨y,hy⟩:∃y,(BO (Hl U) x.c.id).getD default=y:=⟨_,Y⟩
   have oyv:y.v.oneCell'=true:=by
    rw[<-hy];cases hg:BO (Hl U) x.c.id with
    | none=>rfl
    | some z=>
     unfold BO at hg;obtain⟨p,hp,rfl⟩:=ff.1 hg;obtain⟨a,T,rfl⟩:=ai.1 (List.mem_of_find?_eq_some hp);have T:a∈Wa (A.take i):=by rw[S];exact T
     rcases Mz _ _ a T with h|h
     .cases h
     .exact(B a (ge h)).rd.one
   refine Bu (λP L f=>∃g6:Nat,P=[(3,.pt b),(5,.pt g5),(7,.bool Q),(13,vA),(14,.w A.length),(15,.w i)]/\h7=L/\f=[BE g6 50 (cC y),K]) ?_<|λs h d hI=>?_
   .refine AS (n:=13) (bs:=[W,W,W,W,W,W,W,W,W,W,lw,lw,lw]) [W,W,W,W,W,W,W,W,W,W] Cx κ κ Y Y<|Qq Y<|Qq Y<|QF G3 Y<|QL Y JM (e100 _)<|QF B7 Y<|QL Y U3 (e50' _)<|Qp Y (KO (V:=vC) (z:=(default:Ce)) x.c.id hy hbb BL m lM Y JM Pr Y Y hid)<|Qq Y<|Qq Y<|Qq Y<|Qo 10 Y<|BJ [.w 0,.w 0,.nl] Y A9 Y Y<|λg6=>Qw<|Qo 11 Y ?_;refine Sa 0 [_,_,_] A9 Y (by simp[o1,ovA,oxv,ovI,oyv]) ?_;refine Qw<|Qo 12 Y<|G Y<|Qw<|Qe<|AI _ ⟨g6,Y,Y,Y⟩ Qs
   .obtain⟨g6,rfl,rfl,rfl⟩:=hI;refine Lf<|MN LM lM λh8 q8 b8=>?_;have lB8:(BE b 137 [.map (some M),t]).le h8:=b8 _ (N lB O) (Lb lB dM);refine MN LB lB8 λh9 q9 b9=>?_;have n:h5.le h9:=b9 _ (b8 _ (N l6 O) (Lb l6 dM)) dB;have l39:h3.le h9:=N l4 (N l5 n);have u:∀d,Cell h9 d (⟨g5,0,none⟩:Addr) (.w x.c.id):=λd=>(u d).le n;have hS9:=hS5.le n;refine Ax<|G Y<|J Y<|B1 Y (λhn=>?_)<|λhn=>?_
    .have hbf:Q=false:=by cases Q<;>simp at hn ⊢
     have hni:x.c.id ∉ U.map λa=>a.c.id:=λq=>by rw[hin.1 q]at hbf;cases hbf
     have R:VE U x=U++[x]:=af hni
     have hset:DG (Hl U) x.c.id x=Hl (U++[x]):=by unfold DG;rw[af (by rw[TC];exact hni)];unfold Hl;rw[cz];rfl
     have hUl:U.length<=i:=by rw[<-S];exact bl (AaS _ []) (by simp;omega)
     rw[R];refine Bu (λP L f=>∃(k:Hp) (bs:List Nat),P=[(3,.pt b),(5,.pt g5),(13,vA),(14,.w A.length),(15,.w i)]/\h9=L/\f=[BE b 137 [.map (some M),t],k,K]/\CM kN vC M Cb k (Hl (U++[x])) bs) ?_<|λs h d hI=>?_
     .refine AS (n:=8) (bs:=[W,W,W,lw,W,W,W,lw]) [W,W,W,lw,W,W,W] Cx κ κ Y Y<|Qq Y<|Qq Y<|QF G3 Y<|QF B7 Y<|QL Y U3 (u _)<|Qp Y (oG Y Kr A9<|Seg.any hS9)<|Qo 3 Y<|Ql Y JM (Cell.blk 0 Y Y)<|Qw<|Qo 7 Y<|Dh (V:=vC) (z:=undef) 1 x.c.id x BL m Y Y JM Y Y Y hid Y Y<|λmM' bs' hM'=>Qw<|Qe ?_;rw[hset]at hM';exact AI _ ⟨mM',bs',Y,Y,Y,hM'⟩ Qs
     .obtain⟨k,bs,rfl,rfl,rfl,m⟩:=hI;refine AS (n:=12) (bs:=[W,W,W,W,lw,W,W,lw,lw,W,W,lw]) [W,W,W,W,lw,W,W,lw,lw,W,W] Cx κ κ Y Y<|Qq Y<|Qq Y<|Qq Y<|QF SL Y<|QF B7 Y<|QL Y U3 (u _)<|Qq Y<|QF SL Y<|AO [4,7] κ Y<|Al Y ?_ ?_
      .refine Ql Y Bb (Cell.blk 0 Y Y)<|Qw<|Qo 7 Y<|AB [_] Y Bb By Y ξ Y Y Z Y Y Y<|λg45=>Qw<|Qo 8 Y<|AL 3 j (RdL.one Bf (x:=x.c.id) Mh Y) Y Bb By Y Z Y Y Y BY (by(try simp only[ae,bb]);omega) (by(try simp only[ae,bb]);omega) rfl rfl rfl<|λvI2 mI2 c=>?_;have ovI2:=c.o1;refine Qw<|Qo 11 Y ?_;refine Bl 1 _ Y Fv Y Y (by assumption) Y Y (by(simp;done)) rfl rfl ?_;refine Qw<|Qe ?_;rw[show(U.map λa=>a.c.id)++[x.c.id]=(U++[x]).map λa=>a.c.id by rw[cz];rfl]at c;refine AU<|Ai<|AI _ ⟨vI2,mI2,k,bs,Y,N l5 n,Y,m,c⟩ Qs
      refine Al Y ?_ ?_
      .refine AB [_] Y Bb By Y ξ Y Y Z Y Y Y<|λg45=>Qw<|Qo 4 Y<|Ql Y Bb (Cell.blk 1 Y Y)<|Qw<|Qo 8 Y<|AL 3 j (RdL.one Bf (x:=x.c.id) Mh Y) Y Bb By Y Z Y Y Y BY (by(try simp only[ae,bb]);omega) (by(try simp only[ae,bb]);omega) rfl rfl rfl<|λvI2 mI2 c=>?_;have ovI2:=c.o1;refine Qw<|Qo 11 Y ?_;refine Bl 1 _ Y Fv Y Y (by assumption) Y Y (by(simp;done)) rfl rfl ?_;refine Qw<|Qe ?_;rw[show(U.map λa=>a.c.id)++[x.c.id]=(U++[x]).map λa=>a.c.id by rw[cz];rfl]at c;refine AU<|Ai<|AI _ ⟨vI2,mI2,k,bs,Y,N l5 n,Y,m,c⟩ Qs
      exact AN
    .have hbt:Q=true:=by cases Q<;>simp at hn ⊢
     have R:VE U x=U:=ah (hin.2 hbt);rw[R];refine Ah<|Ai<|AI _ ⟨t,K,k,bs,Y,N l5 n,Y,m,j⟩ Qs
  .obtain⟨t,K,k,bs,rfl,k9,rfl,m,j⟩:=hI;refine Ad<|E (oA Y) Y<|G Y<|Am ?_;exact Aq (A.length-(i+1)) _ Z ⟨i+1,t,K,k,bs,Y,Y,N l4 k9,Y,Z,by rw[hU];exact m,by rw[hU];exact j⟩ Qs
 .obtain rfl:i=A.length:=Z
  rw[fz]at m j;refine C<|Ab<|Ax<|G Y<|J Y<|Aj<|J8 λh5 l5 k5=>J8 λh6 l6 k6=>J8 λh7 O k7=>?_
  have hT:RdT h7 b (Wa A):=⟨M,k,bs,t,Seg.ofLe (N k5 (N l6 O)),m,N k6 O,j.rdh k7,λa T=>by
   rcases Mz _ _ a T with h|h
   .cases h
   .exact(B a h).up (N l4 (N l5 (N l6 O)))⟩
  exact Ar Y Y (⟨N l1<|N l2<|N l3<|N l4<|N l5<|N l6 O,Y,b,A,Y,hC,hT⟩)
section
variable {gM:Nat} {mM:Hp}
def Th(v:Value):Value:=v
structure OwnMS(gM:Nat)(mM mB:Hp)(T:List (Int×List Int)):Prop where
 ex:∃(Tv:List (Int×Value)) (bs:List Nat),CM kN Th gM Cb mM Tv bs/\Tv.map Prod.fst=T.map Prod.fst/\Bag T.length (λl m=>∃p,Tv[l]?=some p/\OwnL cI 1 3 m p.2 ((T.map Prod.snd).getD l [])) mB
theorem OwnMS.start(O:CM kN Th gM Cb mM ([]:List (Int×Value)) []):OwnMS gM mM Hp.emp []:=⟨[],[],O,rfl,Bag.zero _⟩
theorem IM{ν:Type}{T:List (Int×ν)}{a:Int}(h:a∈T.map Prod.fst):∃(l:Nat) (x:ν),T[l]?=some (a,x):=by obtain⟨p,c,rfl⟩:=ai.1 h;obtain⟨l,b,e⟩:=ee c;exact⟨l,p.2,by rw[aj b,e]⟩
theorem QC{ν μ:Type}{T:List (Int×ν)}{c:List (Int×μ)}(h:c.map Prod.fst=T.map Prod.fst){l:Nat}{a:Int}{x:ν}(e:T[l]?=some (a,x)):∃y,c[l]?=some (a,y):=by
 have b:(c.map Prod.fst)[l]?=(T.map Prod.fst)[l]?:=by rw[h]
 rw[gj,gj,e]at b;cases h2:c[l]? with
 | none=>rw[h2]at b;cases b
 | some p=>
  rw[h2]at b;have:p.1=a:=ay b;exact⟨p.2,by rw[<-this]⟩
theorem OwnMS.open{mB:Hp}{T:List (Int×List Int)}(M:OwnMS gM mM mB T)(a:Int):∃(d:List (Int×Value)) (bs:List Nat) (v:Value) (S z:Hp),CM kN Th gM Cb mM d bs/\(BO d a).getD (.slice none 0 0)=v/\mB=S.join z/\S.disj z/\OwnL cI 1 3 S v ((BO T a).getD []) ∧
  ∀n c b m f,b.disj z->OwnL cI 1 3 b n c->CM kN Th gM Cb m (DG d a n) f->OwnMS gM m (b.join z) (DG T a c):=by
 obtain⟨d,bs,A,u,hB⟩:=M.ex;have Q:(T.map Prod.fst).Nodup:=by rw[<-u];exact A.keys
 have P:d.length=T.length:=by have:=bh List.length u;simpa using this
 by_cases ha:a∈T.map Prod.fst
 .obtain⟨l,L,s⟩:=IM ha;obtain⟨v,hv⟩:=QC u s;have O:l<T.length:=(bq.1 s).1;obtain⟨S,z,e,hd,⟨p,y,B⟩,hrest,i⟩:=hB.open O;have hpv:p=(a,v):=by rw[hv]at y;exact(ay y).symm
  subst hpv;have hL:(T.map Prod.snd).getD l []=L:=by simp[List.getD,s]
  rw[hL]at B;refine⟨d,bs,v,S,z,A,by rw[EU A.keys hv];rfl,e,hd,by rw[EU Q s];exact B,λn c b m f j r h=>?_⟩;rw[Gg A.keys hv]at h;rw[Gg Q s];refine⟨_,f,h,by rw[List.map_set,List.map_set,u],?_⟩;rw[fh];have hlv:l<d.length:=Z
  refine i _ b j ⟨(a,n),by rw[List.getElem?_set_self hlv],?_⟩ λk hk R x t=>?_
  .have:((T.set l (a,c)).map Prod.snd).getD l []=c:=by simp[List.getD,O]
   rw[this];exact r
  .obtain⟨p,y,t⟩:=t;refine⟨p,by rw[List.getElem?_set_ne (gx R)];exact y,?_⟩
   have:((T.set l (a,c)).map Prod.snd).getD k []=(T.map Prod.snd).getD k []:=by rw[List.map_set];simp only[jl];rw[List.getElem?_set_ne (gx R)]
   rw[this];exact t
 .have K:a ∉ d.map Prod.fst:=by rw[u];exact ha
  refine⟨d,bs,.nl,Hp.emp,mB,A,by rw[Ee K];rfl,(Hp.emp_join mB).symm,λg=>.inl rfl,by rw[Ee ha];exact OwnL.nil Bf,λn c b m f j r h=>?_⟩;have e1:DG d a n=d++[(a,n)]:=af K;have e2:DG T a c=T++[(a,c)]:=af ha;rw[e1]at h;rw[e2,Hp.join_comm j];refine⟨_,f,h,by rw[cz,cz,u];rfl,?_⟩;rw[ag];refine Bag.snoc (hB.mono λl s x t=>?_) ⟨(a,n),by rw[<-P];simp,?_⟩<|Hp.disj_symm j
  .obtain⟨p,y,t⟩:=t;refine⟨p,by rw[fc Z];exact y,?_⟩
   have:((T++[(a,c)]).map Prod.snd).getD l []=(T.map Prod.snd).getD l []:=by rw[cz];simp only[jl];rw[fc (by simpa using s)]
   rw[this];exact t
  .have:((T++[(a,c)]).map Prod.snd).getD T.length []=c:=by simp[List.getD]
   rw[this];exact r
theorem OwnMS.look{t h:Hp}{T:List (Int×List Int)}(M:OwnMS gM mM t T)(A:t.le h):∃(b:List (Int×Value)) (bs:List Nat),CM kN Th gM Cb mM b bs/\b.map Prod.fst=T.map Prod.fst/\(∀l (d:l<b.length) (c:l<T.length),b[l].1=T[l].1/\RdL cI 1 h [] b[l].2 T[l].2)/\∀a,RdL cI 1 h [] ((BO b a).getD (.slice none 0 0)) ((BO T a).getD []):=by
 obtain⟨b,bs,i,e,B⟩:=M.ex;have m:(T.map Prod.fst).Nodup:=by rw[<-e];exact i.keys
 have g:∀l (d:l<b.length) (c:l<T.length),b[l].1=T[l].1/\RdL cI 1 h [] b[l].2 T[l].2:=λl d c=>by
  obtain⟨x,K,p,r,f⟩:=B.all l c;rw[aj d]at r;have:=ay r;subst this;have n:(b.map Prod.fst)[l]?=(T.map Prod.fst)[l]?:=by rw[e]
  rw[gj,gj,aj d,aj c]at n;refine⟨ay n,?_⟩;have z:(T.map Prod.snd).getD l []=T[l].2:=by simp[List.getD,c]
  rw[z]at f;exact f.rdh<|N K A
 refine⟨b,bs,i,e,g,λa=>?_⟩;by_cases j:a∈T.map Prod.fst
 .obtain⟨l,L,k⟩:=IM j;obtain⟨v,s⟩:=QC e k;rw[EU i.keys s,EU m k];obtain⟨d,u⟩:=bq.1 s;obtain⟨c,y⟩:=bq.1 k;have:=(g l d c).2;rw[u,y]at this;exact this
 .rw[Ee j,Ee (by rw[e];exact j)];exact⟨Rd.nil _ _ _,Bf⟩
end
def JT(U:List Cl)(x:Cl)(i:Nat):Prop:=(NT U (Bw x i).1).isSome=false\/(Hz U (Bw x i).1).dim≠x.dim-1\/(0<i/\(Bw x (i-1)).1=(Bw x i).1)
instance (U:List Cl) (x:Cl) (i:Nat):Decidable (JT U x i):=by unfold JT;infer_instance
def sgs(x:Cl)(i:Nat):Int:=((x.sd.take i).map Prod.snd).sum
theorem Abf{x:Cl}{i:Nat}(h:i<x.sd.length):sgs x (i+1)=sgs x i+x.sd[i].2:=by unfold sgs;rw[ap h,cz,List.sum_append];simp
def E6(U:List Cl)(x:Cl):Int:=
 if x.dim<0\/8<x.dim then 21
 else if Ck x then 22
 else if ¬∀i,i<x.sd.length->¬JT U x i then 22
 else if ¬∀i,i<x.sd.length->¬Ca x i then 23
 else if x.dim=1/\sgs x x.sd.length≠0 then 23 else 0
theorem Xj(U:List Ce)(c:Int):(BO (Hl U) c).map Ce.c=NT (U.map Ce.c) c:=by unfold BO Hl NT;rw[List.find?_map,List.find?_map,Option.map_map,Option.map_map];rfl
theorem MH(U:List Ce)(c:Int):((BO (Hl U) c).getD default).c=Hz (U.map Ce.c) c:=by unfold Hz;rw[<-Xj];cases BO (Hl U) c<;>rfl
theorem Adt(U:List Ce)(c:Int):(BO (Hl U) c).isSome=(NT (U.map Ce.c) c).isSome:=by rw[<-Xj];cases BO (Hl U) c<;>rfl
theorem XZ{U:List Ce}{c:Int}{y:Ce}(h:BO (Hl U) c=some y):y∈U:=by unfold BO at h;obtain⟨p,d,rfl⟩:=ff.1 h;obtain⟨a,b,rfl⟩:=ai.1 (List.mem_of_find?_eq_some d);exact b
theorem AbD{h:Hp}{U:List Ce}(b:∀a∈U,RdL cD 2 h [] a.v a.c.sd)(c:Int):RdL cD 2 h [] ((BO (Hl U) c).getD default).v ((BO (Hl U) c).getD default).c.sd:=by
 cases hg:BO (Hl U) c with
 | none=>exact⟨Rd.nil _ _ _,GJ⟩
 | some y=>exact b y<|XZ hg
theorem Afk(U:List Ce)(x:Ce)(g:Nat)(hp:Hp)(hT:RdT hp g U)(e:RdL cD 2 hp [] x.v x.c.sd)(hd:Cb x.c.dim)(hn:x.c.sd.length<=1000000)(hi:∀s∈x.c.sd,Cb s.1/\Cb s.2):FnT prog 134 #[.pointer (some ⟨g,0,none⟩),.agg (cC x).toArray] hp [] (λr _ _=>r=.int .i64 (E6 (U.map Ce.c) x.c)):=by
 have o2:=e.rd.one;show FnT _ _ #[.pt g,.agg #[.w x.c.id,.w x.c.dim,x.v]] _ _ _;refine Au func134 ntmps134 Y Y<|λ_ _=>Ax<|AK [_,_,_] Y Y ξ Y Y Y<|λt=>J Y<|AH λL l1 hS=>?_;have hT:=hT.up l1;have e:=e.up l1;have hA:=Seg.all hS;have a0:∀a,Cell L a (⟨t,0,none⟩:Addr) (.w x.c.id):=λa=>hA 0 _ Y a;have B:∀a,Cell L a (⟨t,1,none⟩:Addr) (.w x.c.dim):=λa=>hA 1 _ Y a;have a2:∀a,Cell L a (⟨t,2,none⟩:Addr) x.v:=λa=>hA 2 _ Y a;have hd1:=hd.1;have hd2:=hd.2;refine Ax<|Qf BZ Y<|Ql Y Di (a2 _)<|E (Aw e.rd.any Y Di Y) Y<|J Y<|Bu (λA Q d=>A=[(0,.pt g),(3,.pt t)]/\L=Q/\d=[]/\(0<=x.c.dim/\x.c.dim<=8)/\¬Ck x.c) ?_<|λs h a hI=>?_
 .refine Ag<|Ax<|Qf Co Y<|Ql Y U3 (B _)<|D Y Y<|AY (t:=20) Y (λq1=>?_)<|λq1=>?_
  .refine DM Y Y<|Qk Y<|G Y<|J Y<|A4 Y<|Ax<|J Y<|Aj<|An<|Ae ?_;exact Ar Y Y (by unfold E6;rw[ah (.inl q1)])
  .refine Qg (oF Co Y) Y<|Qg (oL Y U3<|B _) Y<|Qg (CE Y Y Y) Y<|G Y<|J Y<|Ay Y (λq2=>?_)<|λq2=>?_
   .refine X<|Ad<|J Y<|Aj<|An<|Ae ?_;exact Ar Y Y (by unfold E6;rw[ah (.inr q2)])
   .have R:0<=x.c.dim/\x.c.dim<=8:=Z
    have m:¬(x.c.dim<0\/8<x.c.dim):=Z
    have k:Ck x.c->E6 (U.map Ce.c) x.c=22:=λh=>by unfold E6;rw[af m,ah h]
    refine Ax<|Qf Co Y<|Ql Y U3 (B _)<|D Y Y<|AY (t:=29) Y (λr0=>?_)<|λr0=>?_
    .refine Qg (Ap Y Y) Y<|Qg (CE Y Y Y) Y<|D Y Y<|AY (t:=33) Y (λr1=>?_)<|λr1=>?_
     .refine DM Y Y<|DM Y Y<|Bh Y Y Y Y Y Y<|Bh Y Y Y Y Y Y<|Qk Y<|D Y Y<|DM Y Y<|DM Y Y<|Bh Y Y Y Y Y Y<|Bh Y Y Y Y Y Y<|Bh Y Y Y Y Y Y<|Bh Y Y Y Y Y Y<|Bh Y Y Y Y Y Y<|Bh Y Y Y Y Y Y<|Qk Y<|G Y<|J Y<|A4 Y<|Ax<|J Y<|Aj<|An<|Ae ?_;exact Ar Y Y (by rw[k (.inl ⟨r0,Z⟩)])
     .refine Qg (oF Co Y) Y<|Qg (oL Y U3<|B _) Y<|Qg (Cq Y Y Y) Y<|Qg (Ap Y Y) Y<|AY (t:=37) Y (λf=>lj f Z)<|λf=>DM Y Y<|Qg (Bv Y Y Y) Y<|D Y Y<|Qg (oF Co Y) Y<|Qg (oL Y U3<|B _) Y<|Qg (CE Y Y Y) Y<|Qg (Ap Y Y) Y<|AY (t:=46) Y (λf=>lj f Z)<|λf=>DM Y Y<|Qk Y<|Bh Y Y Y Y Y Y<|Bh Y Y Y Y Y Y<|Qk Y<|Qg (Bv Y Y Y) Y<|G Y<|J Y<|AM Y<|Ah<|Ai ?_;exact AI _ ⟨Y,Y,Y,R,λq=>by unfold Ck at q;omega⟩ Qs
    .refine DM Y Y<|D Y Y<|Qg (oF Co Y) Y<|Qg (oL Y U3<|B _) Y<|Qg (Cq Y Y Y) Y<|Qg (Ap Y Y) Y<|AY (t:=37) Y (λr2=>?_)<|λr2=>?_
     .refine Qg (Ap Y Y) Y<|Qg (FV Y Y Y) Y<|Qg (Cf Y Y Y) Y<|D Y Y<|AY (t:=42) Y (λr3=>?_)<|λr3=>?_
      .refine DM Y Y<|DM Y Y<|Bh Y Y Y Y Y Y<|Bh Y Y Y Y Y Y<|Bh Y Y Y Y Y Y<|Bh Y Y Y Y Y Y<|Bh Y Y Y Y Y Y<|Bh Y Y Y Y Y Y<|Qk Y<|G Y<|J Y<|A4 Y<|Ax<|J Y<|Aj<|An<|Ae ?_;exact Ar Y Y (by rw[k (.inr (.inl ⟨r2,Z⟩))])
      .refine Qg (oF Co Y) Y<|Qg (oL Y U3<|B _) Y<|Qg (CE Y Y Y) Y<|Qg (Ap Y Y) Y<|AY (t:=46) Y (λf=>lj f Z)<|λf=>DM Y Y<|Qk Y<|Bh Y Y Y Y Y Y<|Bh Y Y Y Y Y Y<|Qk Y<|Qg (Bv Y Y Y) Y<|G Y<|J Y<|AM Y<|Ah<|Ai ?_;exact AI _ ⟨Y,Y,Y,R,λq=>by unfold Ck at q;omega⟩ Qs
     .refine DM Y Y<|Qg (Bv Y Y Y) Y<|D Y Y<|Qg (oF Co Y) Y<|Qg (oL Y U3<|B _) Y<|Qg (CE Y Y Y) Y<|Qg (Ap Y Y) Y<|AY (t:=46) Y (λf=>?_)<|λf=>lj Z f;refine Qg (Ap Y Y) Y<|Qg (Dw Y Y Y) Y<|Qg (Ap Y Y) Y<|AY (t:=49) Y (λr4=>?_)<|λr4=>?_
      .refine DM Y Y<|Qg (Cf Y Y Y) Y<|Qg (Cf Y Y Y) Y<|G Y<|J Y<|A4 Y<|Ax<|J Y<|Aj<|An<|Ae ?_;exact Ar Y Y (by rw[k (.inr (.inr ⟨Z,Z⟩))])
      .refine Qg (Ap Y Y) Y<|Qg (CE Y Y Y) Y<|Qg (Bv Y Y Y) Y<|Qg (Cf Y Y Y) Y<|G Y<|J Y<|Ay Y (λr5=>?_)<|λr5=>?_
       .refine X<|Ad<|J Y<|Aj<|An<|Ae ?_;exact Ar Y Y (by rw[k (.inr (.inr ⟨Z,Z⟩))])
       .refine Ah<|Ai ?_;exact AI _ ⟨Y,Y,Y,R,λq=>by unfold Ck at q;omega⟩ Qs
 .obtain⟨rfl,rfl,rfl,R,v⟩:=hI;have m:¬(x.c.dim<0\/8<x.c.dim):=Z
  have k:∀i,i<x.c.sd.length->JT (U.map Ce.c) x.c i->E6 (U.map Ce.c) x.c=22:=λi h q=>by unfold E6;rw[af m,af v,ah λw=>w i h q]
  obtain⟨gm,mM,bs,vids,hSg,hM,lm,hV,hsU⟩:=hT;refine Bu (λA Q d=>A=[(0,.pt g),(3,.pt t)]/\L.le Q/\d=[]/\∀i,i<x.c.sd.length->¬JT (U.map Ce.c) x.c i) ?_<|λs h a hI=>?_
  .refine X<|Ad<|Qf BZ Y<|Ql Y Di (a2 _)<|E (Aw e.rd.any Y Di Y) Y<|J Y<|Ag ?_
   refine AC (λq A Q d=>∃(i:Nat),q=x.c.sd.length-i/\A=[(0,.pt g),(3,.pt t),(56,x.v),(57,.w x.c.sd.length),(58,.w i)]/\L.le Q/\d=[]/\i<=x.c.sd.length/\∀j,j<i->¬JT (U.map Ce.c) x.c j)
    (x.c.sd.length-0) _ ⟨0,rfl,rfl,Bk,rfl,Z,λj h=>Z⟩ Qs ?_
   rintro q A h2 d ⟨i,rfl,rfl,l2,rfl,b,S⟩;have e:=e.up l2;refine Ax<|J Y<|X<|Ay Y (λhlt=>?_)<|λhlt=>?_
   .have b:i<x.c.sd.length:=Z
    obtain⟨s,f⟩:∃s,x.c.sd[i]=s:=⟨_,Y⟩
    have hsA:Bw x.c i=s:=by rw[Bs b,f]
    have hsI:=hi s (by rw[<-f];exact aq b);have hsx:∀a,Seg h2 a ((AJ x.v).add (i*2)) (cD s):=λa=>by rw[<-f];exact(e.any (ms:=a)).seg b
    refine I<|X<|Ag<|Ax<|G Y<|E (BP (i) e.rd.any Y Di B5 Y Y) Y<|E (oG Y To B5<|hsx _) Y<|BJ [.w 0,.w 0] Y B5 Y Y<|λg7=>G Y ?_;refine Sa 0 [_,_] B5 Y (by simp[Value.oneCell']) ?_;refine Ao<|AH λh3 l3 hS7=>?_;have e:=e.up l3;have l13:=N l2 l3;have e7:=Seg.all hS7;have P:∀a,Cell h3 a (⟨g7,0,none⟩:Addr) (.w s.1):=λa=>e7 0 _ Y a;have eT:∀a,Cell h3 a (⟨g,0,none⟩:Addr) (.map (some gm)):=λa=>(Seg.all hSg 0 _ Y a).le l13;obtain⟨M,hbb⟩:∃M,(BO (Hl U) s.1).isSome=M:=⟨_,Y⟩
    obtain⟨y,hy⟩:∃y,(BO (Hl U) s.1).getD default=y:=⟨_,Y⟩
    have hyr:=AbD hsU s.1;rw[hy]at hyr;have oyv:=hyr.rd.one;have hbb':(NT (U.map Ce.c) s.1).isSome=M:=by rw[<-Adt];exact hbb
    have hyc:Hz (U.map Ce.c) s.1=y.c:=by rw[<-MH,hy]
    refine Bu (λA Q d=>∃g8:Nat,A=[(0,.pt g),(3,.pt t),(6,.w i),(7,.pt g7),(8,.pt g8),(9,.bool M),(56,x.v),(57,.w x.c.sd.length),(58,.w i)]/\h3=Q/\d=[BE g8 50 (cC y)]) ?_<|λs h a hI=>?_
    .refine AS (n:=13) (bs:=[W,W,W,W,W,W,W,W,W,W,lw,lw,lw]) [W,W,W,W,W,W,W,W,W,W] Cx κ κ Y Y<|Qq Y<|Qq Y<|QF G3 Y<|QL Y JM (eT _)<|QF Dv Y<|QL Y U3 (P _)<|Qp Y (KO (V:=vC) (z:=(default:Ce)) s.1 hy hbb BL hM (N lm l13) Y JM Pr Y Y hsI.1)<|Qq Y<|Qq Y<|Qq Y<|Qo 10 Y<|BJ [.w 0,.w 0,.nl] Y A9 Y Y<|λg8=>Qw<|Qo 11 Y ?_;refine Sa 0 [_,_,_] A9 Y (by simp[o2,oyv]) ?_;refine Qw<|Qo 12 Y<|G Y<|Qw<|Qe<|AI _ ⟨g8,Y,Y,Y⟩ Qs
    .obtain⟨g8,rfl,rfl,rfl⟩:=hI;refine AH λh4 l4 hS8=>?_;have e:=e.up l4;have P:∀a,Cell h4 a (⟨g7,0,none⟩:Addr) (.w s.1):=λa=>(P a).le l4;have e81:∀a,Cell h4 a (⟨g8,1,none⟩:Addr) (.w y.c.dim):=λa=>Seg.all hS8 1 _ Y a;have T:=N l13 l4;have b1:∀a,Cell h4 a (⟨t,1,none⟩:Addr) (.w x.c.dim):=λa=>(B a).le T;have b2:∀a,Cell h4 a (⟨t,2,none⟩:Addr) x.v:=λa=>(a2 a).le T
     have l:JT (U.map Ce.c) x.c i<->M=false\/y.c.dim≠x.c.dim-1\/(0<i/\(Bw x.c (i-1)).1=s.1):=by unfold JT;rw[hsA,hbb',hyc]
     have c:¬JT (U.map Ce.c) x.c i->∀j,j<i+1->¬JT (U.map Ce.c) x.c j:=λh j hj=>by
      rcases (Z:j<i\/j=i) with L|rfl
      .exact S j L
      .exact h
     refine X<|BK 23 Cx κ Y<|Wm Y<|Wm Y<|Wm Y<|Zu (t:=75) Y (λK=>?_)<|λK=>?_
     .have hbf:M=false:=by cases M<;>simp at K ⊢
      refine AF Y Y Y Y Y<|AF Y Y Y Y Y<|AF Y Y Y Y Y<|AF Y Y Y Y Y<|AF Y Y Y Y Y<|AF Y Y Y Y Y<|Wm Y<|Wm Y<|AF Y Y Y Y Y<|AF Y Y Y Y Y<|AF Y Y Y Y Y<|A3 Y Y Y Y<|A3 Y Y Y Y<|A3 Y Y Y Y<|A3 Y Y Y Y<|A3 Y Y Y Y<|A3 Y Y Y Y<|A3 Y Y Y Y<|A3 Y Y Y Y<|A3 Y Y Y Y<|BB<|Bh Y Y Y Y Y Y<|Qk Y<|J Y<|A4 Y<|Ax<|J Y<|Aj<|An<|Ae<|Ae<|An<|Ae ?_;exact Ar Y Y (by rw[k i b (l.2 (.inl hbf))])
     .have hbt:M=true:=by cases M<;>simp at K ⊢
      refine AV (oF Co Y) Y Y Y Y<|AV (oL Y U3<|e81 _) Y Y Y Y<|AV (oF Co Y) Y Y Y Y<|AV (oL Y U3<|b1 _) Y Y Y Y<|AV (oS Y) Y Y Y Y<|AV (FV Y Y Y) Y Y Y Y<|Wm Y<|Wm Y<|Dd (t:=83) Y (λu=>?_)<|λu=>?_
      .refine AF Y Y Y Y Y<|AF Y Y Y Y Y<|AF Y Y Y Y Y<|A3 Y Y Y Y<|A3 Y Y Y Y<|A3 Y Y Y Y<|A3 Y Y Y Y<|A3 Y Y Y Y<|A3 Y Y Y Y<|A3 Y Y Y Y<|A3 Y Y Y Y<|A3 Y Y Y Y<|BB<|Bh Y Y Y Y Y Y<|Qk Y<|J Y<|A4 Y<|Ax<|J Y<|Aj<|An<|Ae<|Ae<|An<|Ae ?_;exact Ar Y Y (by rw[k i b (l.2 (.inr (.inl u)))])
      .refine AV (Ap Y Y) Y Y Y Y<|AV (CE Y Y Y) Y Y Y Y<|AV (Ap Y Y) Y Y Y Y<|Dd (t:=86) Y (λc3=>?_)<|λc3=>?_
       .have hi1:i-1<x.c.sd.length:=Z
        obtain⟨s',hs'⟩:∃s',x.c.sd[i-1]=s':=⟨_,Y⟩
        have hsA':Bw x.c (i-1)=s':=by rw[Bs hi1,hs']
        have r0:∀a,Cell h4 a ((AJ x.v).add ((i-1)*2)) (.w s'.1):=λa=>by rw[<-hs'];exact(e.any (ms:=a)).cell0 hi1 Y
        refine AV (oF BZ Y) Y Y Y Y<|AV (oL Y Di<|b2 _) Y Y Y Y<|AV (Ap Y Y) Y Y Y Y<|AV (oS Y) Y Y Y Y<|AV (BP (i-1) e.rd.any Y Di B5 Y Y) Y Y Y Y<|AV (oF Dv Y) Y Y Y Y<|AV (oL Y U3<|r0 _) Y Y Y Y<|AV (oF Dv Y) Y Y Y Y<|AV (oL Y U3<|P _) Y Y Y Y<|BB<|Qg (Cq Y Y Y) Y<|Qg (Cf Y Y Y) Y<|J Y<|Ay Y (λc4=>?_)<|λc4=>?_
        .refine X<|Ad<|J Y<|Aj<|An<|Ae<|Ae<|An<|Ae ?_;exact Ar Y Y (by rw[k i b (l.2 (.inr (.inr ⟨Z,by rw[hsA'];exact c4⟩)))])
        .have n:¬JT (U.map Ce.c) x.c i:=λq=>by
          rcases l.1 q with q|q|⟨_,q⟩
          .rw[hbt]at q;cases q
          .exact u q
          .rw[hsA']at q;exact c4 q
         refine Ah<|D2<|Ad<|E (oA Y) Y<|G Y<|Am<|Aq (x.c.sd.length-(i+1)) _ Z ⟨i+1,Y,Y,T,Y,Z,c n⟩ Qs
       .have n:¬JT (U.map Ce.c) x.c i:=λq=>by
         rcases l.1 q with q|q|⟨q,_⟩
         .rw[hbt]at q;cases q
         .exact u q
         .omega
        refine AF Y Y Y Y Y<|AF Y Y Y Y Y<|AF Y Y Y Y Y<|AF Y Y Y Y Y<|AF Y Y Y Y Y<|AF Y Y Y Y Y<|AF Y Y Y Y Y<|AF Y Y Y Y Y<|AF Y Y Y Y Y<|BB<|Qk Y<|Qg (Bv Y Y Y) Y<|J Y<|AM Y<|Ah<|D2<|Ad<|E (oA Y) Y<|G Y<|Am<|Aq (x.c.sd.length-(i+1)) _ Z ⟨i+1,Y,Y,T,Y,Z,c n⟩ Qs
   .obtain rfl:i=x.c.sd.length:=Z
    refine C<|AI _ ⟨Y,l2,Y,S⟩ Qs
  .obtain⟨rfl,l2,rfl,S⟩:=hI;have e:=e.up l2;have p:¬¬∀i,i<x.c.sd.length->¬JT (U.map Ce.c) x.c i:=λq=>q S
   have e23:∀i,i<x.c.sd.length->Ca x.c i->E6 (U.map Ce.c) x.c=23:=λi h q=>by unfold E6;rw[af m,af v,af p,ah λw=>w i h q]
   have b1:∀a,Cell h a (⟨t,1,none⟩:Addr) (.w x.c.dim):=λa=>(B a).le l2;have b2:∀a,Cell h a (⟨t,2,none⟩:Addr) x.v:=λa=>(a2 a).le l2;refine Ax<|J Y<|X<|Ax<|Qf BZ Y<|Ql Y Di (b2 _)<|E (Aw e.rd.any Y Di Y) Y<|J Y<|Ag ?_
   refine AC (λq A Q d=>∃(i:Nat),q=x.c.sd.length-i/\A=[(3,.pt t),(10,.w (sgs x.c i)),(101,x.v),(102,.w x.c.sd.length),(103,.w i)]/\h.le Q/\d=[]/\i<=x.c.sd.length/\(-(i:Int)<=sgs x.c i/\sgs x.c i<=i)/\∀j,j<i->¬Ca x.c j)
    (x.c.sd.length-0) _ ⟨0,rfl,rfl,Bk,rfl,Z,by simp[sgs],λj h=>Z⟩ Qs ?_
   rintro q A h3 d ⟨i,rfl,rfl,l3,rfl,b,hsb,hns⟩;have e:=e.up l3;have b1:∀a,Cell h3 a (⟨t,1,none⟩:Addr) (.w x.c.dim):=λa=>(b1 a).le l3;refine Ax<|J Y<|X<|Ay Y (λhlt=>?_)<|λhlt=>?_
   .have b:i<x.c.sd.length:=Z
    obtain⟨s,f⟩:∃s,x.c.sd[i]=s:=⟨_,Y⟩
    have hsA:Bw x.c i=s:=by rw[Bs b,f]
    have hsI:=(hi s (by rw[<-f];exact aq b)).2;have hsx:∀a,Seg h3 a ((AJ x.v).add (i*2)) (cD s):=λa=>by rw[<-f];exact(e.any (ms:=a)).seg b
    have z:=Abf b;rw[f]at z;have hbs:Ca x.c i<->s.2≠1/\s.2≠-1:=by unfold Ca;rw[hsA]
    have c:¬Ca x.c i->∀j,j<i+1->¬Ca x.c j:=λh j hj=>by
     rcases (Z:j<i\/j=i) with L|rfl
     .exact hns j L
     .exact h
    refine I<|X<|Ag<|Ax<|E (BP (i) e.rd.any Y Di B5 Y Y) Y<|E (oG Y To B5<|hsx _) Y<|BJ [.w 0,.w 0] Y B5 Y Y<|λg12=>?_;refine Sa 0 [_,_] B5 Y (by simp[Value.oneCell']) ?_;refine Ao<|AH λh4 l4 hS12=>?_;have O:∀a,Cell h4 a (⟨g12,1,none⟩:Addr) (.w s.2):=λa=>Seg.all hS12 1 _ Y a;refine X<|Ax<|Qf Ep Y<|Ql Y U3 (O _)<|D Y Y<|AY (t:=110) Y (λK=>?_)<|λK=>?_
    .refine Qg (oF Ep Y) Y<|Qg (oL Y U3<|O _) Y<|Qg (FV Y Y Y) Y<|J Y<|Ay Y (λu=>?_)<|λu=>?_
     .refine X<|Ad<|J Y<|Aj<|Ae<|An<|Ae<|Ae<|An<|Ae ?_;exact Ar Y Y (by rw[e23 i b (hbs.2 ⟨K,u⟩)])
     .have n:¬Ca x.c i:=λq=>u (hbs.1 q).2;have h2:s.2=-1:=Z
      refine I<|Ad<|G Y<|Qf Ep Y<|Ql Y U3 (O _)<|E (oA Y) Y<|G Y<|Am<|D2<|Ad<|E (oA Y) Y<|G Y<|Am ?_;exact Aq (x.c.sd.length-(i+1)) _ Z ⟨i+1,Y,by rw[z],N l3 l4,rfl,Z,by rw[z];omega,c n⟩ Qs
    .have h2:s.2=1:=Z
     have n:¬Ca x.c i:=λq=>(hbs.1 q).1 h2;refine DM Y Y<|Qk Y<|J Y<|AM Y<|I<|Ad<|G Y<|Qf Ep Y<|Ql Y U3 (O _)<|E (oA Y) Y<|G Y<|Am<|D2<|Ad<|E (oA Y) Y<|G Y<|Am ?_;exact Aq (x.c.sd.length-(i+1)) _ Z ⟨i+1,Y,by rw[z],N l3 l4,rfl,Z,by rw[z];omega,c n⟩ Qs
   .obtain rfl:i=x.c.sd.length:=Z
    have hs0:¬¬∀i,i<x.c.sd.length->¬Ca x.c i:=λq=>q hns;refine C<|Ab<|X<|Ax<|Qf Co Y<|Ql Y U3 (b1 _)<|D Y Y<|AY (t:=123) Y (λK=>?_)<|λK=>?_
    .refine Qg (Ap Y Y) Y<|Qg (FV Y Y Y) Y<|J Y<|Ay Y (λu=>?_)<|λu=>?_
     .refine X<|Ad<|J Y<|Aj<|Ae ?_;exact Ar Y Y (by unfold E6;rw[af m,af v,af p,af hs0,ah ⟨K,u⟩])
     .refine I<|Ax<|J Y<|Aj ?_;exact Ar Y Y (by unfold E6;rw[af m,af v,af p,af hs0,af λq=>u q.2])
    .refine DM Y Y<|J Y<|AM Y<|I<|Ax<|J Y<|Aj ?_;exact Ar Y Y (by unfold E6;rw[af m,af v,af p,af hs0,af λq=>K q.1])
section
def AaX(U:List Cl)(x:Cl)(i:Nat):HR:=(Hz U (Bw x i).1).sd.map λr=>((i:Int),r.1,(Bw x i).2*r.2)
def LK(U:List Cl)(x:Cl)(m:Nat):HR:=(range m).flatMap (AaX U x)
theorem UZ(U:List Cl)(x:Cl)(m:Nat):LK U x (m+1)=LK U x m++AaX U x m:=by unfold LK;rw[kp,fe];simp
theorem Rm(U:List Cl)(x:Cl)(h:∀i,i<x.sd.length->(Hz U (Bw x i).1).sd.length<=64):∀m,m<=x.sd.length->(LK U x m).length<=64*m
 | 0,_=>by simp[LK]
 | m+1,hm=>by have:=Rm U x h m Z;have:=h m Z;rw[UZ,ag];unfold AaX;rw[bb];omega
def DE(E:HR):List (Int×Int):=E.foldl (λT e=>DG T e.2.1 ((BO T e.2.1).getD 0+e.2.2)) []
def Hb(E:HR):List (Int×List Int):=E.foldl (λT e=>DG T e.2.1 ((BO T e.2.1).getD []++[e.1])) []
theorem HX(E:HR)(e:Int×Int×Int):DE (E++[e])=DG (DE E) e.2.1 ((BO (DE E) e.2.1).getD 0+e.2.2):=by unfold DE;rw[foldl_append];rfl
theorem HF(E:HR)(e:Int×Int×Int):Hb (E++[e])=DG (Hb E) e.2.1 ((BO (Hb E) e.2.1).getD []++[e.1]):=by unfold Hb;rw[foldl_append];rfl
theorem Fc{α:Type}{P:List α->Prop}(b:P [])(c:∀l a,P l->P (l++[a]))(l:List α):P l:=by
 have:∀r:List α,P r.reverse:=λr=>by
  induction r with
  | nil=>exact b
  | cons a r ih=>rw[List.reverse_cons];exact c _ _ ih
 have:=this l.reverse
 rwa [List.reverse_reverse]at this
theorem Lz(c:Int):∀E:HR,(BO (DE E) c).getD 0=Fi E c:=Fc rfl λE e a=>by
 rw[HX,Gk,Pg];by_cases h:c=e.2.1
 .subst h;rw[ah rfl,ah rfl,<-a];rfl
 .rw[af h,af (λq=>h q.symm),a,il]
theorem Je{ν:Type}(T:List (Int×ν))(a:Int)(x:ν)(c:Int):c∈(DG T a x).map Prod.fst<->c=a\/c∈T.map Prod.fst:=by
 unfold DG;split
 .rename_i h
  have e:(T.map λp=>if p.1=a then(a,x) else p).map Prod.fst=T.map Prod.fst:=by
   rw[jb];refine fg λp _=>?_;show(if p.1=a then(a,x) else p).1=p.1;by_cases q:p.1=a
   .rw[ah q];exact q.symm
   .rw[af q]
  rw[e];exact⟨.inr,λq=>by rcases q with rfl|q;exact h;exact q⟩
 .rw[cz,mem_append];simp only[dh,List.map_nil,bj];exact⟨λq=>q.symm,λq=>q.symm⟩
theorem Np(c:Int):∀E:HR,c∈(DE E).map Prod.fst<->∃e∈E,e.2.1=c:=Fc ⟨λh=>by simp[DE]at h,λ⟨e,a,_⟩=>by cases a⟩ λE e d=>by
 rw[HX,Je,d];constructor
 .rintro(rfl|⟨b,a,h⟩)
  .exact⟨e,ej _ Mh,Y⟩
  .exact⟨b,eg _ a,h⟩
 .rintro⟨b,a,h⟩;rcases bi.1 a with a|a
  .exact .inr ⟨b,a,h⟩
  .rw[bj.1 a]at h;exact .inl h.symm
theorem Zs(c:Int):∀E:HR,c∈(Hb E).map Prod.fst<->∃e∈E,e.2.1=c:=Fc ⟨λh=>by simp[Hb]at h,λ⟨e,a,_⟩=>by cases a⟩ λE e d=>by
 rw[HF,Je,d];constructor
 .rintro(rfl|⟨b,a,h⟩)
  .exact⟨e,ej _ Mh,Y⟩
  .exact⟨b,eg _ a,h⟩
 .rintro⟨b,a,h⟩;rcases bi.1 a with a|a
  .exact .inr ⟨b,a,h⟩
  .rw[bj.1 a]at h;exact .inl h.symm
theorem UB(c:Int):∀E:HR,(BO (Hb E) c).getD []=(E.filter λe=>decide (e.2.1=c)).map λe=>e.1:=Fc rfl λE e a=>by
 rw[HF,Gk,jm,cz,<-a];by_cases h:c=e.2.1
 .subst h;rw[ah rfl];simp
 .rw[af h];simp[gx h]
theorem Kf(E:HR)(c:Int):GQ E c=((E.filter λe=>decide (e.2.1=c)).length:Int):=by
 induction E with
 | nil=>rfl
 | cons e E ih=>
  unfold GQ at *;rw[dh,fa,ih,List.filter_cons];by_cases h:e.2.1=c
  .simp[h];omega
  .simp[h]
theorem AgG(E:HR)(c:Int)(h:∀e∈E,e.2.2=1\/e.2.2=-1):-(E.length:Int)<=Fi E c/\Fi E c<=E.length:=by
 induction E with
 | nil=>exact⟨Int.le_refl _,Int.le_refl _⟩
 | cons e E ih=>
  have b:=ih λe a=>h e (am _ a);have d:=h e Mh;unfold Fi at *;rw[dh,fa,de];split<;>omega
theorem Xn(E:HR):((DE E).map Prod.fst).Nodup:=by refine Fc (P:=λE=>((DE E).map Prod.fst).Nodup) (by simp[DE]) (λE e a=>?_) E;rw[HX];exact Gj a _ _
theorem Agb(E:HR):((Hb E).map Prod.fst).Nodup:=by refine Fc (P:=λE=>((Hb E).map Prod.fst).Nodup) (by simp[Hb]) (λE e a=>?_) E;rw[HF];exact Gj a _ _
def FY(T:List (Int×List Int))(a b:Int):List (Int×List Int):=DG T a ((BO T a).getD []++[b])
def FP(P:List (Int×Int)):List (Int×List Int):=P.foldl (λT p=>FY (FY T p.1 p.2) p.2 p.1) []
theorem Ko(P:List (Int×Int))(p:Int×Int):FP (P++[p])=FY (FY (FP P) p.1 p.2) p.2 p.1:=by unfold FP;rw[foldl_append];rfl
theorem Pt(T:List (Int×List Int))(a b c k:Int):k∈(BO (FY T a b) c).getD []<->k∈(BO T c).getD []\/(c=a/\k=b):=by
 unfold FY;rw[Gk];by_cases h:c=a
 .subst h;simp
 .simp[h]
theorem YZ(c k:Int):∀P:List (Int×Int),k∈(BO (FP P) c).getD []<->(c,k)∈P\/(k,c)∈P:=Fc ⟨λh=>by simp[FP,BO]at h,λh=>by simp at h⟩ λP p a=>by
 rw[Ko,Pt,Pt,a,mem_append,mem_append,bj,bj];constructor
 .rintro((h|⟨rfl,rfl⟩)|⟨rfl,rfl⟩)
  .rcases h with h|h
   .exact .inl<|.inl h
   .exact .inr<|.inl h
  .exact .inl<|.inr Y
  .exact .inr<|.inr Y
 .rintro((h|rfl)|(h|rfl))
  .exact .inl<|.inl<|.inl h
  .exact .inl<|.inr ⟨Y,Y⟩
  .exact .inl<|.inl<|.inr h
  .exact .inr ⟨Y,Y⟩
theorem LU(T:List (Int×List Int))(a b:Int)(B:Nat)(h:∀c,((BO T c).getD []).length<=B):∀c,((BO (FY T a b) c).getD []).length<=B+1:=λc=>by
 unfold FY;rw[Gk];have d:=h c;by_cases e:c=a
 .subst e;simp;omega
 .rw[af e];omega
theorem Qn:∀P:List (Int×Int),∀c,((BO (FP P) c).getD []).length<=2*P.length:=Fc (λc=>by simp[FP,BO]) λP p a c=>by rw[Ko,ag,ae];have:=LU _ p.2 p.1 _ (LU _ p.1 p.2 _ a) c;omega
inductive Rch (J:Int->List Int):Int->Int->Prop
 | refl (a:Int):Rch J a a
 | step {a b k:Int}:Rch J a b->k∈J b->Rch J a k
theorem Rch.trans{J:Int->List Int}{a b c:Int}(h:Rch J a b)(d:Rch J b c):Rch J a c:=by
 induction d with
 | refl=>exact h
 | step _ h1 ih=>exact .step ih h1
theorem Afc{E:HR}(u:∀e∈E,GQ E e.2.1=2){J:Int->List Int}(s:∀a k,k∈J a<->∃c p q,(E.filter λe=>decide (e.2.1=c)).map (λe=>e.1)=[p,q]/\((a=p/\k=q)\/(a=q/\k=p)))(a b:Int):Con E a b<->Rch J a b:=by
 have n:∀{c p:Int} {l},(E.filter λe=>decide (e.2.1=c)).map (λe=>e.1)=l->p∈l->∃w,(p,c,w)∈E:=λ{c p l} e t=>by rw[<-e]at t;obtain⟨x,y,rfl⟩:=ai.1 t;obtain⟨m,i⟩:=dp.1 y;have i:=dd i;exact⟨x.2.2,by rw[<-i];exact m⟩
 constructor
 .intro h
  induction h with
  | refl=>exact .refl _
  | @step b d c w w' _ m i ih=>
   have r:=u _ m;rw[Kf]at r;obtain⟨L,j⟩:∃L,(E.filter λe=>decide (e.2.1=c)).map (λe=>e.1)=L:=⟨_,Y⟩
   have v:L.length=2:=by rw[<-j,bb];have r:((E.filter λe=>decide (e.2.1=c)).length:Int)=2:=r;omega
   match L,v with
   | [p,q],_=>
    have f:b∈[p,q]:=by rw[<-j];exact ai.2 ⟨_,dp.2 ⟨m,bp Y⟩,Y⟩
    have g:d∈[p,q]:=by rw[<-j];exact ai.2 ⟨_,dp.2 ⟨i,bp Y⟩,Y⟩
    simp only[be,ia,j7]at f g;by_cases e:b=d
    .subst e;exact ih
    .refine .step ih ((s b d).2 ⟨c,p,q,j,?_⟩);rcases f with f|f<;>rcases g with g|g
     .exact lj (f.trans g.symm) e
     .exact .inl ⟨f,g⟩
     .exact .inr ⟨f,g⟩
     .exact lj (f.trans g.symm) e
 .intro h
  induction h with
  | refl=>exact .refl _
  | @step b k _ m ih=>
   obtain⟨c,p,q,j,i⟩:=(s b k).1 m;obtain⟨z,f⟩:=n j Mh;obtain⟨A,g⟩:=n j (am _ Mh);rcases i with ⟨rfl,rfl⟩|⟨rfl,rfl⟩
   .exact .step ih f g
   .exact .step ih g f
noncomputable def arF(E:HR)(n:Nat):Int:=
 open Classical in
 if ¬∀e∈E,Fi E e.2.1=0 then 24
 else if ¬∀e∈E,GQ E e.2.1=2 then 25
 else if ¬(0<n/\∀i:Nat,i<n->Con E 0 i) then 25 else 0
variable {T:List (Int×Bool)} {n:Nat}
def vB(b:Bool):Value:=.bool b
theorem Ye(w:World):(zeroValue 4).run prog w=.ok (vB false) w:=by rfl
theorem Og(w:World):(zeroValue 22).run prog w=.ok (Th (.slice none 0 0)) w:=by rfl
abbrev Kq(T:List (Int×Bool)):List Int:=T.map Prod.fst
def Zh(T:List (Int×Bool)):Prop:=∀p∈T,p.2=true
theorem Acb(h:Zh T)(a:Int):(BO T a).getD false=decide (a∈Kq T):=by
 by_cases c:a∈Kq T
 .rw[bp c];cases hg:BO T a with
  | none=>
   exfalso;unfold BO at hg;rw[Option.map_eq_none_iff,List.find?_eq_none]at hg;obtain⟨p,d,e⟩:=ai.1 c;have:=hg p d;simp[e]at this
  | some b=>
   unfold BO at hg;obtain⟨p,d,rfl⟩:=ff.1 hg;exact h p<|List.mem_of_find?_eq_some d
 .rw[dx c,Ee c];rfl
theorem Abz(h:Zh T)(a:Int):Zh (DG T a true):=λp b=>by
 unfold DG at b;split at b
 .obtain⟨q,c,rfl⟩:=ai.1 b;split
  .rfl
  .exact h q c
 .rcases bi.1 b with b|b
  .exact h p b
  .rw[bj.1 b]
def uns(n:Nat)(T:List (Int×Bool)):Nat:=((range n).filter λ(j:Nat)=>decide ((j:Int) ∉ Kq T)).length
theorem Ab8{a:List (Int×Bool)}(h:∀x∈Kq T,x∈Kq a):uns n a<=uns n T:=by refine Go.Kuhn.nodup_le _ _ (List.Pairwise.filter _ List.nodup_range) λx d=>?_;obtain⟨b,c⟩:=dp.1 d;exact dp.2 ⟨b,bp λq=>dd c<|h _ q⟩
theorem Ag1{i:Nat}(g:i<n)(h:(i:Int) ∉ Kq T)(b:Bool):uns n (DG T (i:Int) b)+1<=uns n T:=by
 have d:(i::(range n).filter λ(j:Nat)=>decide ((j:Int) ∉ Kq (DG T (i:Int) b))).Nodup:=by refine gt.2 ⟨λq=>?_,List.Pairwise.filter _ List.nodup_range⟩;have:=dd (dp.1 q).2;exact this ((Je T _ _ _).2<|.inl Y)
 have c:=Go.Kuhn.nodup_le _ ((range n).filter λ(j:Nat)=>decide ((j:Int) ∉ Kq T)) d λx a=>by
  rcases be.1 a with rfl|a
  .exact dp.2 ⟨b6.2 g,bp h⟩
  .obtain⟨e,f⟩:=dp.1 a;exact dp.2 ⟨e,bp λq=>dd f ((Je T _ _ _).2<|.inr q)⟩
 unfold uns;rw[de]at c;exact c
structure AhF(J:Int->List Int)(n:Nat)(T T':List (Int×Bool))(i:Int):Prop where
 sub:∀x∈Kq T,x∈Kq T'
 me:i∈Kq T'
 new:∀x∈Kq T',x ∉ Kq T->(Rch J i x/\∀k∈J x,k∈Kq T')/\0<=x/\x<n
structure Ah9(h:Hp)(gS gJ g16 g13 g17:Nat)(mM mB:Hp)(TJ:List (Int×List Int))(J:Int->List Int)(n:Nat):Prop where
 s:∀ms,Cell h ms (⟨g16,0,none⟩:Addr) (.map (some gS))
 j:∀ms,Cell h ms (⟨g13,0,none⟩:Addr) (.map (some gJ))
 f:∀ms,Cell h ms (⟨g17,0,none⟩:Addr) (.func (.func 172) #[] #[.pt g16,.pt g13,.pt g17])
 m:OwnMS gJ mM mB TJ
 lM:mM.le h
 lB:mB.le h
 e:∀a,J a=(BO TJ a).getD []
 nb:∀a,∀k∈J a,0<=k/\k<n
 l:∀a,(J a).length<=1000000
 b:n<=1000000
theorem AbN{h:Hp}{gS gJ M K p:Nat}{mM mB:Hp}{TJ:List (Int×List Int)}{J:Int->List Int}(V:Ah9 h gS gJ M K p mM mB TJ J n):∀(F:Nat) (i:Nat) (T:List (Int×Bool)) (bs:List Nat) (mS:Hp),i<n->CM kN vB gS Cb mS T bs->Zh T->uns n T<F->FnT prog 172 #[.int .i64 i,.pointer (some ⟨M,0,none⟩),.pointer (some ⟨K,0,none⟩),.pointer (some ⟨p,0,none⟩)] h [mS] (λ_ O g=>h=O/\∃mS' T' bs',g=[mS']/\CM kN vB gS Cb mS' T' bs'/\Zh T'/\AhF J n T T' i):=by
 intro F
 induction F with
 | zero=>
  intro i T bs mS hi hO hA hF;omega
 | succ F ih=>
  intro i T bs mS hi hO hA hF;have hb:=V.b;have s:Cb (i:Int):=by unfold Cb;omega
  have hs1:=V.s;have hj1:=V.j;have hf1:=V.f;refine Au func172 ntmps172 Y Y<|λ_ _=>U<|Ql Y VG (hs1 _)<|G Y<|E (LZ (V:=vB) (z:=false) (i:Int) BL hO σ rfl VG Ye rfl rfl s) rfl ?_;rw[Acb hA];refine At Y<|B1 Y (λhn=>?_)<|λhn=>?_
  .have hni:(i:Int) ∉ Kq T:=λq=>by rw[bp q]at hn;cases hn
   obtain⟨Tv,bsv,hMv,hKv,_,hRv⟩:=V.m.look V.lB;obtain⟨vL,hvL⟩:∃vL,(BO Tv (i:Int)).getD (.nl)=vL:=⟨_,Y⟩
   have b:=hRv (i:Int);rw[hvL,<-V.e]at b;have ovL:=b.rd.one;have hLl:=V.l (i:Int);have R:=V.nb (i:Int);obtain⟨L,hL⟩:∃L,J (i:Int)=L:=⟨_,Y⟩
   rw[hL]at b hLl R;refine U<|Ql Y VG (hs1 _)<|G Y<|Dh (V:=vB) (z:=undef) 0 (i:Int) true BL hO Y Y VG Y Y Y s Y Y<|λmS1 bs1 S=>?_;have P:=Abz hA (i:Int);have hU1:=Ag1 hi hni true;obtain⟨y,hT1⟩:∃y,DG T (i:Int) true=y:=⟨_,Y⟩
   have u:∀x,x∈Kq y<->x=(i:Int)\/x∈Kq T:=λx=>by rw[<-hT1];exact Je T _ _ x
   rw[hT1]at S P hU1;refine BF<|Ql Y JS (hj1 _)<|G Y<|E (GD (V:=Th) (z:=(Value.nl)) (i:Int) BL hMv V.lM Y JS Og Y Y s) Y ?_;rw[hvL];refine E (Aw b.rd.any Y Bb Y) Y<|At Y<|Ag ?_
   refine AC (λq sl O g=>∃(t:Nat) (d:List (Int×Bool)) (bt:List Nat) (A:Hp),q=L.length-t/\sl=[(3,.pt p),(15,vL),(16,.w L.length),(17,.w t)]/\h=O/\g=[A]/\t<=L.length/\CM kN vB gS Cb A d bt/\Zh d/\(∀x∈Kq y,x∈Kq d)/\(∀x∈Kq d,x ∉ Kq y->(Rch J i x/\∀k∈J x,k∈Kq d)/\0<=x/\x<n)/\∀j (z:j<L.length),j<t->L[j]∈Kq d)
    (L.length-0) _ ⟨0,y,bs1,mS1,rfl,rfl,rfl,rfl,Z,S,P,λx c=>c,λx f r=>lj f r,λj z h=>Z⟩ Qs ?_
   rintro q sl O g ⟨t,d,bt,A,rfl,rfl,rfl,rfl,v,hOt,Q,a,m,e⟩;refine U<|At Y<|X<|Ay Y (λhlt=>?_)<|λhlt=>?_
   .have v:t<L.length:=Z
    obtain⟨k,l⟩:∃k,L[t]=k:=⟨_,Y⟩
    have hkm:k∈L:=by rw[<-l];exact aq v
    obtain⟨hk0,hkn⟩:=R k hkm;obtain⟨kn,rfl⟩:=Int.eq_ofNat_of_zero_le hk0;have ck:∀ms,Cell h ms ((AJ vL).add (t*1)) (.w (kn:Int)):=λms=>by rw[<-l];exact(b.any (ms:=ms)).cell0 v Y
    refine I<|X<|Ag<|U<|E (BP (t) b.rd.any Y Bb By Y Y) Y<|Ql Y U3 (ck _)<|G Y<|HM<|Ql Y AhH (hf1 _)<|G Y ?_;refine EC (pre:=[A]) Y Y call172 Y (ih kn d bt A Z hOt Q (by have:=Ab8 (n:=n) a;omega)) Y Y Y Y<|λv' O pre' l' hF=>?_;obtain⟨rfl,m2,T2,b2,rfl,hO2,hA2,B⟩:=hF;simp only[cons_append,nil_append,append_nil];have hrk:Rch J i (kn:Int):=.step (.refl _) (by rw[hL];exact hkm);refine Am<|D2<|Ad<|E (oA Y) Y<|G Y<|Am ?_
    exact Aq (L.length-(t+1)) _ Z ⟨t+1,T2,b2,m2,Y,Y,Y,Y,Z,hO2,hA2,λx c=>B.sub x (a x c),λx f r=>by
     by_cases c:x∈Kq d
     .obtain⟨⟨q1,q2⟩,q3⟩:=m x c r;exact⟨⟨q1,λk l=>B.sub k (q2 k l)⟩,q3⟩
     .obtain⟨⟨q1,q2⟩,q3⟩:=B.new x f c;exact⟨⟨hrk.trans q1,q2⟩,q3⟩,λj z hjt=>by
     rcases (Z:j<t\/j=t) with f|rfl
     .exact B.sub _<|e j z f
     .rw[l];exact B.me⟩ Qs
   .obtain rfl:t=L.length:=Z
    have hV:AhF J n T d i:=by
     have hall:∀k∈J (i:Int),k∈Kq d:=λk l=>by rw[hL]at l;obtain⟨j,z,rfl⟩:=ee l;exact e j z z
     refine⟨λx c=>a x ((u x).2 (.inr c)),a _ ((u _).2 (.inl Y)),λx f r=>?_⟩;by_cases c:x=(i:Int)
     .subst c;exact⟨⟨.refl _,hall⟩,Z,Z⟩
     .exact m x f λq=>by
       rcases (u x).1 q with q|q
       .exact c q
       .exact r q
    refine C<|CC Y (⟨Y,A,d,bt,Y,hOt,Q,hV⟩)
  .have him:(i:Int)∈Kq T:=ax λq=>by rw[dx q]at hn;cases hn
   refine Ah<|CC Y (⟨Y,mS,T,bs,Y,hO,hA,λx c=>c,him,λx f r=>lj f r⟩)
end
section
theorem Aid(w:World):(zeroValue 3).run prog w=.ok (kN 0) w:=by rfl
structure Afb(U:List Cl)(x:Cl):Prop where
 n:x.sd.length<=64
 p:0<x.sd.length
 m:∀i,i<x.sd.length->(Hz U (Bw x i).1).sd.length<=64
 s:∀s∈x.sd,Cb s.1/\(s.2=1\/s.2=-1)
 t:∀i,i<x.sd.length->∀r∈(Hz U (Bw x i).1).sd,Cb r.1/\(r.2=1\/r.2=-1)
theorem Aef{ν:Type}(T:List (Int×ν))(a:Int)(x:ν):(DG T a x).length<=T.length+1:=by
 unfold DG;split
 .rw[bb];omega
 .simp
theorem Xf:∀E:HR,(Hb E).length<=E.length:=Fc (by simp[Hb]) λE e a=>by rw[HF,ag,ae];have:=Aef (Hb E) e.2.1 ((BO (Hb E) e.2.1).getD []++[e.1]);omega
theorem SU{U:List Cl}{x:Cl}{m:Nat}{e:Int×Int×Int}(h:e∈LK U x m):∃i,i<m/\∃r∈(Hz U (Bw x i).1).sd,e=((i:Int),r.1,(Bw x i).2*r.2):=by unfold LK at h;obtain⟨i,a,h⟩:=iv.1 h;obtain⟨r,b,rfl⟩:=ai.1 h;exact⟨i,b6.1 a,r,b,Y⟩
theorem AgV{U:List Cl}{x:Cl}(K:Afb U x){m:Nat}(g:m<=x.sd.length){e:Int×Int×Int}(h:e∈LK U x m):e.2.2=1\/e.2.2=-1:=by
 obtain⟨i,f,r,d,rfl⟩:=SU h;have a:i<x.sd.length:=Z
 have b:=(K.t i a r d).2;have c:=(K.s (Bw x i) (by rw[Bs a];exact aq a)).2;show(Bw x i).2*r.2=1\/(Bw x i).2*r.2=-1;rcases b with b|b<;>rcases c with c|c<;>rw[b,c]<;>decide
theorem ZJ(U:List Ce)(x:Ce)(g:Nat)(hp:Hp)(hT:RdT hp g U)(hX:RdL cD 2 hp [] x.v x.c.sd)(hK:Afb (U.map Ce.c) x.c):FnT prog 135 #[.pointer (some ⟨g,0,none⟩),.agg (cC x).toArray] hp [] (λr _ _=>r=.int .i64 (arF (LK (U.map Ce.c) x.c x.c.sd.length) x.c.sd.length)):=by
 have o2:=hX.rd.one;show FnT _ _ #[.pt g,.agg #[.w x.c.id,.w x.c.dim,x.v]] _ _ _;refine Au func135 ntmps135 Y Y<|λ_ _=>Ax<|AK [_,_,_] Y Y ξ Y Y Y<|λg3=>J Y<|AH λh1 l1 hS=>?_;obtain⟨gm,mMt,bst,vids,hSg,hMt,lmt,hVt,hsU⟩:=hT.up l1;have hX:=hX.up l1;have hA:=Seg.all hS;have a2:∀d,Cell h1 d (⟨g3,2,none⟩:Addr) x.v:=λd=>hA 2 _ Y d;have eT:∀d,Cell h1 d (⟨g,0,none⟩:Addr) (.map (some gm)):=λd=>Seg.all hSg 0 _ Y d;have hn64:=hK.n;refine Ax<|DJ (K:=kN) (V:=kN) (Ok:=Cb) Y Y Y Y<|λgA B hA0=>DJ (K:=kN) (V:=Th) (Ok:=Cb) Y Y Y Y<|λgB A hB0=>G Y<|J Y<|Et 1 Y<|BW ?_;have hMS0:=OwnMS.start hB0;refine Bu (λsl h' m=>∃(Q B A:Hp) (bs:List Nat),sl=[(3,.pt g3),(5,.map (some gA)),(6,.map (some gB))]/\h1.le h'/\m=[Q,B,A]/\CM kN kN gA Cb B (DE (LK (U.map Ce.c) x.c x.c.sd.length)) bs/\OwnMS gB A Q (Hb (LK (U.map Ce.c) x.c x.c.sd.length))) ?_<|λs h d hI=>?_
 .refine X<|Ad<|Qf BZ Y<|Ql Y Di (a2 _)<|Qx (Aw hX.rd.any Y Di Y) Y<|J Y<|Ag ?_
  refine AC (λq sl h' m=>∃(i:Nat) (Q B A:Hp) (bs:List Nat),q=x.c.sd.length-i/\sl=[(0,.pt g),(3,.pt g3),(5,.map (some gA)),(6,.map (some gB)),(21,x.v),(22,.w x.c.sd.length),(23,.w i)]/\h1.le h'/\m=[Q,B,A]/\i<=x.c.sd.length/\CM kN kN gA Cb B (DE (LK (U.map Ce.c) x.c i)) bs/\OwnMS gB A Q (Hb (LK (U.map Ce.c) x.c i)))
   (x.c.sd.length-0) _ ⟨0,Hp.emp,B,A,[],rfl,rfl,Bk,rfl,Z,hA0,hMS0⟩ Qs ?_
  rintro q sl h2 m ⟨i,Q,B,A,bs,rfl,rfl,l2,rfl,hi,n,z⟩;have hX:=hX.up l2;refine Ax<|J Y<|X<|Ay Y (λhlt=>?_)<|λhlt=>?_
  .have hil:i<x.c.sd.length:=Z
   obtain⟨s,hs⟩:∃s,x.c.sd[i]=s:=⟨_,Y⟩
   have hsm:s∈x.c.sd:=by rw[<-hs];exact aq hil
   have hsA:Bw x.c i=s:=by rw[Bs hil,hs]
   have hsI:=hK.s s hsm;obtain⟨y,hy⟩:∃y,(BO (Hl U) s.1).getD default=y:=⟨_,Y⟩
   have hyc:Hz (U.map Ce.c) s.1=y.c:=by rw[<-MH,hy]
   have hyR:=AbD hsU s.1;rw[hy]at hyR;have hyR:=hyR.up l2;have oyv:=hyR.rd.one;have y64:=hK.m i hil;have yt:=hK.t i hil;rw[hsA,hyc]at y64 yt;have hE:=Rm (U.map Ce.c) x.c hK.m i hi;have hEs:∀e∈LK (U.map Ce.c) x.c i,e.2.2=1\/e.2.2=-1:=λe he=>AgV hK hi he
   have hsucc:LK (U.map Ce.c) x.c (i+1)=LK (U.map Ce.c) x.c i++y.c.sd.map λr=>((i:Int),r.1,s.2*r.2):=by rw[UZ];unfold AaX;rw[hsA,hyc]
   obtain⟨E,hEe⟩:∃E,LK (U.map Ce.c) x.c i=E:=⟨_,Y⟩
   rw[hEe]at n z hE hEs hsucc;have hsx:∀d,Seg h2 d ((AJ x.v).add (i*2)) (cD s):=λd=>by rw[<-hs];exact(hX.any (ms:=d)).seg hil
   refine Cg<|Bu (λsl h' m=>∃(Q B A:Hp) (bs:List Nat),sl=[(0,.pt g),(3,.pt g3),(5,.map (some gA)),(6,.map (some gB)),(21,x.v),(22,.w x.c.sd.length),(23,.w i)]/\h2.le h'/\m=[Q,B,A]/\CM kN kN gA Cb B (DE (LK (U.map Ce.c) x.c (i+1))) bs/\OwnMS gB A Q (Hb (LK (U.map Ce.c) x.c (i+1)))) ?_<|λs h d hI=>?_
   .refine Ag<|Ax<|G Y<|Qx (BP (i) hX.rd.any Y Di B5 Y Y) Y<|Qx (oG Y To B5<|hsx _) Y<|BJ [.w 0,.w 0] Y B5 Y Y<|λg8=>G Y ?_;refine Sa 0 [_,_] B5 Y (by simp[Value.oneCell']) ?_;refine Ao<|AH λh3 l3 hS8=>?_;have e80:∀d,Cell h3 d (⟨g8,0,none⟩:Addr) (.w s.1):=λd=>Seg.all hS8 0 _ Y d;have e81:∀d,Cell h3 d (⟨g8,1,none⟩:Addr) (.w s.2):=λd=>Seg.all hS8 1 _ Y d;have l13:=N l2 l3;have eT:∀d,Cell h3 d (⟨g,0,none⟩:Addr) (.map (some gm)):=λd=>(eT d).le l13;have hyR:=hyR.up l3;refine X<|BK 10 Cx κ Y<|Wm Y<|Wm Y<|Wf G3 Y<|Wl Y JM (eT _)<|Wf Dv Y<|Wl Y U3 (e80 _)<|BS (DX (V:=vC) (z:=(default:Ce)) s.1 hy BL hMt (N lmt l13) Y JM Pr Y Y hsI.1) Y Y<|BS (HJ Y Kr Y Di Y Y Y) Y Y<|BS (Aw hyR.rd.any Y Di Y) Y Y<|Wm Y<|BB<|Ao<|Ag ?_
    refine AC (λq sl h' m=>∃(k:Nat) (Q B A:Hp) (bs:List Nat),q=y.c.sd.length-k/\sl=[(0,.pt g),(3,.pt g3),(5,.map (some gA)),(6,.map (some gB)),(7,.w i),(8,.pt g8),(21,x.v),(22,.w x.c.sd.length),(23,.w i),(35,y.v),(36,.w y.c.sd.length),(37,.w k)]/\h3.le h'/\m=[Q,B,A]/\k<=y.c.sd.length/\CM kN kN gA Cb B (DE (E++(y.c.sd.take k).map λr=>((i:Int),r.1,s.2*r.2))) bs/\OwnMS gB A Q (Hb (E++(y.c.sd.take k).map λr=>((i:Int),r.1,s.2*r.2))))
     (y.c.sd.length-0) _ ⟨0,Q,B,A,bs,rfl,rfl,Bk,rfl,Z,by simpa using n,by simpa using z⟩ Qs ?_
    rintro q sl h4 m ⟨k,Q,B,A,bs,rfl,rfl,l4,rfl,hk,n,z⟩;have hyR:=hyR.up l4;have e81:∀d,Cell h4 d (⟨g8,1,none⟩:Addr) (.w s.2):=λd=>(e81 d).le l4;refine Ax<|J Y<|X<|Ay Y (λhlk=>?_)<|λhlk=>?_
    .have hkl:k<y.c.sd.length:=Z
     obtain⟨r,hr⟩:∃r,y.c.sd[k]=r:=⟨_,Y⟩
     have hrm:r∈y.c.sd:=by rw[<-hr];exact aq hkl
     have hrI:=yt r hrm;have hsr:∀d,Seg h4 d ((AJ y.v).add (k*2)) (cD r):=λd=>by rw[<-hr];exact(hyR.any (ms:=d)).seg hkl
     have hF':(E++(y.c.sd.take (k+1)).map λr=>((i:Int),r.1,s.2*r.2))=(E++(y.c.sd.take k).map λr=>((i:Int),r.1,s.2*r.2))++[((i:Int),r.1,s.2*r.2)]:=by rw[ap hkl,cz,hr,du];rfl
     have hFl:(E++(y.c.sd.take k).map λr=>((i:Int),r.1,s.2*r.2)).length<=4200:=by rw[ag,bb,bf];omega
     have hmu:s.2*r.2=1\/s.2*r.2=-1:=by rcases hsI.2 with e|e<;>rcases hrI.2 with e'|e'<;>rw[e,e']<;>decide
     have hFs:∀e∈E++(y.c.sd.take k).map (λr=>((i:Int),r.1,s.2*r.2)),e.2.2=1\/e.2.2=-1:=λe he=>by
      rcases bi.1 he with he|he
      .exact hEs e he
      .obtain⟨r',hr',rfl⟩:=ai.1 he;have hrI':=yt r' (ge hr');show s.2*r'.2=1\/s.2*r'.2=-1;rcases hsI.2 with e|e<;>rcases hrI'.2 with e'|e'<;>rw[e,e']<;>decide
     obtain⟨F,hF⟩:∃F,E++(y.c.sd.take k).map (λr=>((i:Int),r.1,s.2*r.2))=F:=⟨_,Y⟩
     rw[hF]at n z hFl hFs hF';obtain⟨v0,hv0⟩:∃v0,(BO (DE F) r.1).getD 0=v0:=⟨_,Y⟩
     have hb0:=AgG F r.1 hFs;rw[<-Lz,hv0]at hb0;have hs1:=HX F ((i:Int),r.1,s.2*r.2);have hm1:=HF F ((i:Int),r.1,s.2*r.2);simp only at hs1 hm1;rw[hv0]at hs1;refine Cg<|Bu (λsl h' m=>∃(Q B A:Hp) (bs:List Nat),sl=[(0,.pt g),(3,.pt g3),(5,.map (some gA)),(6,.map (some gB)),(7,.w i),(8,.pt g8),(21,x.v),(22,.w x.c.sd.length),(23,.w i),(35,y.v),(36,.w y.c.sd.length),(37,.w k)]/\h4.le h'/\m=[Q,B,A]/\CM kN kN gA Cb B (DE (F++[((i:Int),r.1,s.2*r.2)])) bs/\OwnMS gB A Q (Hb (F++[((i:Int),r.1,s.2*r.2)]))) ?_<|λs h d hI=>?_
     .refine Ag<|Ax<|Qx (BP (k) hyR.rd.any Y Di B5 Y Y) Y<|Qx (oG Y To B5<|hsr _) Y<|BJ [.w 0,.w 0] Y B5 Y Y<|λg10=>?_;refine Sa 0 [_,_] B5 Y (by simp[Value.oneCell']) ?_;refine Ao<|AH λh5 l5 hS10=>?_;have e81:∀d,Cell h5 d (⟨g8,1,none⟩:Addr) (.w s.2):=λd=>(e81 d).le l5;have ea0:∀d,Cell h5 d (⟨g10,0,none⟩:Addr) (.w r.1):=λd=>Seg.all hS10 0 _ Y d;have ea1:∀d,Cell h5 d (⟨g10,1,none⟩:Addr) (.w r.2):=λd=>Seg.all hS10 1 _ Y d;refine Ax<|G Y<|Qf Dv Y<|Ql Y U3 (ea0 _)<|Qx (DZ (V:=kN) (z:=(0:Int)) r.1 hv0 BL n σ rfl Ag0 Aid rfl rfl hrI.1) rfl<|Qf Ep rfl<|Ql rfl U3 (e81 _)<|Qf Ep rfl<|Ql rfl U3 (ea1 _)<|Qx (oM rfl) rfl<|Qx (oA rfl) rfl<|Dh (V:=kN) (z:=undef) 1 r.1 (v0+s.2*r.2) BL n rfl rfl Ag0 rfl rfl rfl hrI.1 rfl rfl<|λmA' bs' hOA'=>?_;rw[<-hs1]at hOA';refine Ao ?_;obtain⟨Tv,bv,v,m1,m2,hO,hv,rfl,hd,T,S⟩:=z.open r.1;refine MK hd ?_;obtain⟨L,hL⟩:∃L,(BO (Hb F) r.1).getD []=L:=⟨_,Y⟩
      have hLl:L.length<=4200:=by rw[<-hL,UB,bb];exact bl (fj _ _) hFl
      rw[hL]at T hm1;have ov:=T.o1;refine AS (n:=11) (bs:=[W,W,W,W,W,W,lw,W,lw,lw,lw]) [W,W,W,W,W,W,lw,W] Cx κ κ Y Y<|Qq Y<|QF Dv Y<|QL Y U3 (ea0 _)<|Qq Y<|QF Dv Y<|QL Y U3 (ea0 _)<|Qq Y<|AO [6,8] κ Y<|Al Y ?_ ?_;refine Qx (DZ (V:=Th) (z:=(Value.nl)) r.1 hv BL hO σ rfl JS Og rfl rfl hrI.1) rfl<|Qw<|Qo 8 rfl<|AB [_] rfl Bb By rfl ξ rfl rfl Z rfl rfl rfl<|λg59=>Qw ?_
      rotate_left
      refine Al Y ?_ ?_;refine AB [_] Y Bb By Y ξ Y Y Z Y Y Y<|λg59=>Qw<|Qo 6 Y<|Qx (DZ (V:=Th) (z:=(Value.nl)) r.1 hv BL hO σ rfl JS Og rfl rfl hrI.1) rfl<|Qw ?_
      rotate_left
      exact AN
      all_goals
       refine Qo 9 Y<|AL 1 T (RdL.one Bf (x:=(i:Int)) Mh Y) Y Bb By Y Z Y Y Y BY (by(try simp only[ae]);omega) (by(try simp only[ae]);omega) rfl rfl rfl<|λv9 m9 hO9=>?_;have ov9:=hO9.o1;refine Qw<|Qo 10 Y<|Dh (V:=Th) (z:=undef) 4 r.1 v9 BL hO Y Y JS Y Y Y hrI.1 Y Y<|λmM' bs2 hM'=>Qw<|Qe<|AU<|HC λhap=>Jl ?_;have hdj:=(cg.1 hap).1 _ Mh;have O:=S v9 _ m9 mM' bs2 hdj hO9 hM';rw[<-hm1]at O;refine Ai<|AI _ ⟨_,mA',mM',bs',Y,l5,Y,hOA',O⟩ Qs
     .obtain⟨Q,B,A,bs,rfl,k4,rfl,n,z⟩:=hI;rw[<-hF']at n z;refine Ad<|Qx (oA Y) Y<|G Y<|Am<|Aq (y.c.sd.length-(k+1)) _ Z ⟨k+1,Q,B,A,bs,Y,Y,N l4 k4,Y,Z,n,z⟩ Qs
    .obtain rfl:k=y.c.sd.length:=Z
     rw[fz,<-hsucc]at n z;refine C<|Ai<|AI _ ⟨Q,B,A,bs,Y,N l3 l4,Y,n,z⟩ Qs
   .obtain⟨Q,B,A,bs,rfl,k2,rfl,n,z⟩:=hI;refine Ad<|Qx (oA Y) Y<|G Y<|Am<|Aq (x.c.sd.length-(i+1)) _ Z ⟨i+1,Q,B,A,bs,Y,Y,N l2 k2,Y,Z,n,z⟩ Qs
  .obtain rfl:i=x.c.sd.length:=Z
   refine C<|AI _ ⟨Q,B,A,bs,Y,l2,Y,n,z⟩ Qs
 .obtain⟨Q,B,A,bs,rfl,l2,rfl,n,z⟩:=hI;have hEl:=Rm (U.map Ce.c) x.c hK.m x.c.sd.length (ak _)
  have hEi:∀e∈LK (U.map Ce.c) x.c x.c.sd.length,0<=e.1/\e.1<x.c.sd.length:=λe he=>by obtain⟨i,hi,r,_,rfl⟩:=SU he;exact⟨by show 0<=(i:Int);omega,by show(i:Int)<_;omega⟩
  obtain⟨E,hE⟩:∃E,LK (U.map Ce.c) x.c x.c.sd.length=E:=⟨_,Y⟩
  rw[hE]at n z hEl hEi ⊢;refine CT λh2 k2 fB=>CT λh3 k3 fA=>CT λh4 k4 fM=>?_
  have lB:=N fB (N k3 k4);have lA:=N fA k4;have lh4:=N l2 (N k2 (N k3 k4));refine Bu (λsl h' m=>sl=[(3,.pt g3),(6,.map (some gB))]/\h4=h'/\m=[]/\∀e∈E,Fi E e.2.1=0) ?_<|λs h d hI=>?_
  .refine X<|Ad<|G Y<|Jh n lA Y Ag0 Y Y Y Y<|λgi mi0 I0=>Ao<|Ag ?_
   refine AC (λq sl h' m=>∃(f:List Nat) (mi:Hp),q=(DE E).length-f.length/\sl=[(3,.pt g3),(6,.map (some gB)),(64,.pt gi)]/\h4=h'/\m=[mi]/\EF gi gA B mi bs f/\∀j (t:j<(DE E).length),j∈f->(DE E)[j].2=0)
    ((DE E).length-0) _ ⟨[],mi0,rfl,rfl,rfl,rfl,I0,λj t h=>nomatch h⟩ Qs ?_
   rintro q sl h' m ⟨f,mi,rfl,rfl,rfl,rfl,I,hz⟩;refine Ax<|KN 0 n I lA Y Y Y Y Y Y (λhall=>?_)<|λj t mi' hjv I'=>?_
   .refine J Y<|X<|AM Y<|C ?_
    have hzero:∀e∈E,Fi E e.2.1=0:=λe he=>by obtain⟨l,v,hl⟩:=IM ((Np e.2.1 E).2 ⟨e,he,Y⟩);rw[<-Lz,EU (Xn E) hl];obtain⟨h1,h2⟩:=bq.1 hl;have:=hz l h1 (hall l h1);rw[h2]at this;exact this
    refine EB 0 Y<|AI _ ⟨Y,Y,Y,hzero⟩ Qs
   .have hTj:(DE E)[j].2=Fi E (DE E)[j].1:=by have hg:(DE E)[j]?=some ((DE E)[j].1,(DE E)[j].2):=aj t;rw[<-Lz,EU (Xn E) hg];rfl
    refine J Y<|X<|A4 Y<|Cg<|Ag<|Ax<|Qx (Jo n I' lA σ t rfl rfl) rfl<|G rfl<|G rfl<|BF<|G rfl<|G rfl<|Ao<|Ay Y (λhne=>?_)<|λhne=>?_
    .have h24:arF E x.c.sd.length=24:=by unfold arF;rw[ah λw=>?_];obtain⟨e,he,h1⟩:=(Np (DE E)[j].1 E).1 (ai.2 ⟨_,aq t,Y⟩);have:=w e he;rw[h1,<-hTj]at this;exact hne this
     refine Ax<|J Y<|Aj<|An<|Ae<|An<|Ae ?_;exact Ar Y Y (by rw[h24])
    .refine Ah<|Ai ?_;refine Aq ((DE E).length-(f.length+1)) _ ?_ ⟨f++[j],mi',by simp,rfl,rfl,rfl,I',λi hi' hv=>?_⟩ Qs
     .have hlt:f.length<(DE E).length:=by
       have h1:=Go.Kuhn.nodup_le (f++[j]) (range (DE E).length) I'.nodup λx hx=>by rw[b6,<-n.len];exact I'.lt x hx
       simp at h1;omega
      omega
     .rcases bi.1 hv with hv|hv
      .exact hz i hi' hv
      .simp at hv;subst hv;exact fp.1 hne
  .obtain⟨rfl,rfl,rfl,hzero⟩:=hI;obtain⟨Tv,bv,hOv,hKv,hRv,hRa⟩:=z.look lB;obtain⟨M,hM⟩:∃M,Hb E=M:=⟨_,Y⟩
   have hMn:=Agb E;have hMk:=λc=>Zs c E;have hMg:=λc=>UB c E;rw[hM]at hKv hRv hRa hMn hMk hMg;have hTl:Tv.length=M.length:=by have:=bh List.length hKv;simpa using this
   refine Ax<|DJ (K:=kN) (V:=Th) (Ok:=Cb) Y Y Y Y<|λgJ mJ hJ0=>BJ [.map none] Y AfW Y Y<|λg13=>Bl 0 0 Y AfW Y Y ξ Y Y H Y Y<|Ao<|AH λh5 k5 hS13=>?_;have e13:∀d,Cell h5 d (⟨g13,0,none⟩:Addr) (.map (some gJ)):=λd=>Seg.all hS13 0 _ Y d;refine BW ?_;have hJS0:=OwnMS.start hJ0;have fM5:=N fM k5
   let pr:Nat->Int×Int:=λj=>(((M.getD j (0,[])).2).getD 0 0,((M.getD j (0,[])).2).getD 1 0)
   refine Bu (λsl h' m=>∃(f:List Nat) (K mJ:Hp),sl=[(3,.pt g3),(13,.pt g13)]/\h5=h'/\m=[K,mJ]/\OwnMS gJ mJ K (FP (f.map pr))/\f.length<=M.length/\(∀j,j∈f->j<M.length)/\(∀j,j<M.length->j∈f)/\∀j (t:j<M.length),M[j].2.length=2) ?_<|λs h d hI=>?_
   .refine X<|Ad<|G Y<|Jh hOv fM5 Y JS Y Y Y Y<|λgi mi0 I0=>Ao<|Ag<|Et 1 Y ?_
    refine AC (λq sl h' m=>∃(f:List Nat) (mi K mJ:Hp),q=M.length-f.length/\sl=[(3,.pt g3),(13,.pt g13),(73,.pt gi)]/\h5=h'/\m=[K,mi,mJ]/\EF gi gB A mi bv f/\OwnMS gJ mJ K (FP (f.map pr))/\∀j (t:j<M.length),j∈f->M[j].2.length=2)
     (M.length-0) _ ⟨[],mi0,Hp.emp,mJ,rfl,rfl,rfl,rfl,I0,hJS0,λj t h=>nomatch h⟩ Qs ?_
    rintro q sl h' m ⟨f,mi,K,mJ,rfl,rfl,rfl,rfl,I,hJS,hz⟩
    have hvl:∀{w:List Nat} {m':Hp},EF gi gB A m' bv w->w.length<=M.length/\∀j,j∈w->j<M.length:=λ{w m'} I=>by
     have hlt:∀x∈w,x<M.length:=λx hx=>by rw[<-hTl,<-hOv.len];exact I.lt x hx
     have h1:=Go.Kuhn.nodup_le w (range M.length) I.nodup λx hx=>b6.2 (hlt x hx);rw[ik]at h1;exact⟨h1,hlt⟩
    refine Ax<|KN 1 hOv I fM5 Y Y Y Y Y Y (λhall=>?_)<|λj t mi' hjv I'=>?_
    .refine J Y<|X<|AM Y<|C<|EB 1 Y<|AI _ ⟨f,K,mJ,Y,Y,Y,hJS,(hvl I).1,(hvl I).2,λj t=>hall j Z,λj t=>hz j t<|hall j Z⟩ Qs
    .have hjM:j<M.length:=Z
     have hRj:=(hRv j t hjM).2.up k5
     have hcj:(BO M M[j].1).getD []=M[j].2:=by have hg:M[j]?=some (M[j].1,M[j].2):=aj hjM;rw[EU hMn hg];rfl
     have hcE:=hMg M[j].1;rw[hcj]at hcE;obtain⟨v,hv⟩:∃v,Tv[j].2=v:=⟨_,Y⟩
     obtain⟨L,hL⟩:∃L,M[j].2=L:=⟨_,Y⟩
     rw[hv,hL]at hRj;have ov:=hRj.rd.one;have hLl:L.length<=4200:=by rw[<-hL,hcE,bb];exact bl (fj _ _) Z
     refine J Y<|X<|A4 Y<|Cg<|Ag<|Ax<|Qx (Jo hOv I' fM5 σ t rfl rfl) rfl ?_;rw[hv];refine G Y<|J Y<|X<|Ax<|G Y<|Qx (Aw hRj.rd.any Y Bb Y) Y<|J Y<|Ay Y (λhne=>?_)<|λhne=>?_
     .have h25:arF E x.c.sd.length=25:=by unfold arF;rw[af (λw=>w hzero),ah λw=>?_];obtain⟨e,he,h1⟩:=(hMk M[j].1).1 (ai.2 ⟨_,aq hjM,Y⟩);have:=w e he;rw[h1,Kf,<-bb (f:=λe:Int×Int×Int=>e.1),<-hcE,hL]at this;exact hne Z
      refine Ax<|J Y<|Aj<|Ae<|An<|Ae<|An<|Ae ?_;exact Ar Y Y (by rw[h25])
     .have hL2:L.length=2:=Z
      obtain⟨a,b,rfl⟩:∃a b,L=[a,b]:=by
       match L,hL2 with
       | [a,b],_=>exact⟨a,b,Y⟩
      have hin:∀k∈[a,b],0<=k/\k<x.c.sd.length:=λk hk=>by rw[<-hL,hcE]at hk;obtain⟨e,he,rfl⟩:=ai.1 hk;exact hEi e (dp.1 he).1
      have ha:=hin a Mh;have hb:=hin b (am _ Mh);have haI:Cb a:=by unfold Cb;omega
      have hbI:Cb b:=by unfold Cb;omega
      have hprj:pr j=(a,b):=by
       simp only[pr];have:M.getD j (0,[])=M[j]:=by simp[List.getD,hjM]
       rw[this,hL];rfl
      have hMl:M.length<=4200:=by rw[<-hM];have:=Xf E;omega
      have hPl:(f.map pr).length<=4200:=by rw[bb];have:=(hvl I).1;omega
      have hjl:=Qn (f.map pr);have hsn:FP ((f++[j]).map pr)=FY (FY (FP (f.map pr)) a b) b a:=by rw[cz,List.map_singleton,Ko,hprj]
      have hj1:=LU (FP (f.map pr)) a b _ hjl;obtain⟨T0,hT0⟩:∃T0,FP (f.map pr)=T0:=⟨_,Y⟩
      rw[hT0]at hJS hjl hsn hj1;have ca:=λd=>(hRj.any (ms:=d)).cell0 (j:=0) σ rfl;have cb:=λd=>(hRj.any (ms:=d)).cell0 (j:=1) σ rfl;refine Cg ?_;obtain⟨Tv1,bv1,u,m1,m2,hO,hu,rfl,hd,T,S⟩:=hJS.open a;refine MK hd ?_;obtain⟨L0,hL0⟩:∃L0,(BO T0 a).getD []=L0:=⟨_,Y⟩
      have hL0l:L0.length<=10000:=by rw[<-hL0];have:=hjl a;omega
      rw[hL0]at T;have hjeq:FY T0 a b=DG T0 a (L0++[b]):=by unfold FY;rw[hL0]
      have ou:=T.o1;refine Bu (λsl h' m=>∃(K mJ:Hp),sl=[(3,.pt g3),(13,.pt g13),(15,v),(73,.pt gi)]/\h5=h'/\m=[K,mi',mJ]/\OwnMS gJ mJ K (FY T0 a b)) ?_<|λs h d hI=>?_
      .refine AS (n:=15) (bs:=[W,W,W,W,W,W,W,W,lw,W,W,W,lw,lw,lw]) [W,W,W,W,W,W,W,W,lw,W,W,W] Cx κ κ Y Y<|QL Y JS (e13 _)<|Qq Y<|Qp Y (AR 0 hRj.rd.any Y Bb By Y Y Y Z)<|QL Y U3 (ca _)<|QL Y JS (e13 _)<|Qq Y<|Qp Y (AR 0 hRj.rd.any Y Bb By Y Y Y Z)<|QL Y U3 (ca _)<|Qq Y<|Qp Y (AR 1 hRj.rd.any Y Bb By Y Y Y Z)<|QL Y U3 (cb _)<|AO [8,12] κ Y<|Al Y ?_ ?_;refine Qx (DZ (V:=Th) (z:=(Value.nl)) a hu BL hO σ rfl JS Og rfl rfl haI) rfl<|Qw<|Qo 12 rfl<|AB [_] rfl Bb By rfl ξ rfl rfl Z rfl rfl rfl<|λg93=>Qw ?_
       rotate_left
       refine Al Y ?_ ?_;refine AB [_] Y Bb By Y ξ Y Y Z Y Y Y<|λg93=>Qw<|Qo 8 Y<|Qx (DZ (V:=Th) (z:=(Value.nl)) a hu BL hO σ rfl JS Og rfl rfl haI) rfl<|Qw ?_
       rotate_left
       exact AN
       all_goals
        refine Qo 13 Y<|AL 1 T (RdL.one Bf (x:=b) Mh Y) Y Bb By Y Z Y Y Y BY (by(try simp only[ae]);omega) (by(try simp only[ae]);omega) rfl rfl rfl<|λv9 m9 hO9=>?_;have ov9:=hO9.o1;refine Qw<|Qo 14 Y<|Dh (V:=Th) (z:=undef) 4 a v9 BL hO Y Y JS Y Y Y haI Y Y<|λmM' bs2 hM'=>Qw<|Qe<|AU<|HC λhap=>Jl ?_;have hdj:=(cg.1 hap).1 _ Mh;have O:=S v9 _ m9 mM' bs2 hdj hO9 hM';rw[<-hjeq]at O;exact AI _ ⟨_,mM',Y,Y,Y,O⟩ Qs
      .obtain⟨K,mJ,rfl,rfl,rfl,hJS⟩:=hI;obtain⟨T1,hT1⟩:∃T1,FY T0 a b=T1:=⟨_,Y⟩
       rw[hT1]at hJS hj1 hsn;obtain⟨Tv2,bv2,u2,m1,m2,hO,hu,rfl,hd,T,S⟩:=hJS.open b;refine MK hd ?_;obtain⟨L1,hL1⟩:∃L1,(BO T1 b).getD []=L1:=⟨_,Y⟩
       have hL1l:L1.length<=10000:=by rw[<-hL1];have:=hj1 b;omega
       rw[hL1]at T;have hjeq2:FY T1 b a=DG T1 b (L1++[a]):=by unfold FY;rw[hL1]
       have ou2:=T.o1;refine AS (n:=15) (bs:=[W,W,W,W,W,W,W,W,lw,W,W,W,lw,lw,lw]) [W,W,W,W,W,W,W,W,lw,W,W,W] Cx κ κ Y Y<|QL Y JS (e13 _)<|Qq Y<|Qp Y (AR 1 hRj.rd.any Y Bb By Y Y Y Z)<|QL Y U3 (cb _)<|QL Y JS (e13 _)<|Qq Y<|Qp Y (AR 1 hRj.rd.any Y Bb By Y Y Y Z)<|QL Y U3 (cb _)<|Qq Y<|Qp Y (AR 0 hRj.rd.any Y Bb By Y Y Y Z)<|QL Y U3 (ca _)<|AO [8,12] κ Y<|Al Y ?_ ?_;refine Qx (DZ (V:=Th) (z:=(Value.nl)) b hu BL hO σ rfl JS Og rfl rfl hbI) rfl<|Qw<|Qo 12 rfl<|AB [_] rfl Bb By rfl ξ rfl rfl Z rfl rfl rfl<|λg107=>Qw ?_
       rotate_left
       refine Al Y ?_ ?_;refine AB [_] Y Bb By Y ξ Y Y Z Y Y Y<|λg107=>Qw<|Qo 8 Y<|Qx (DZ (V:=Th) (z:=(Value.nl)) b hu BL hO σ rfl JS Og rfl rfl hbI) rfl<|Qw ?_
       rotate_left
       exact AN
       all_goals
        refine Qo 13 Y<|AL 1 T (RdL.one Bf (x:=a) Mh Y) Y Bb By Y Z Y Y Y BY (by(try simp only[ae]);omega) (by(try simp only[ae]);omega) rfl rfl rfl<|λv9 m9 hO9=>?_;have ov9:=hO9.o1;refine Qw<|Qo 14 Y<|Dh (V:=Th) (z:=undef) 4 b v9 BL hO Y Y JS Y Y Y hbI Y Y<|λmM' bs2 hM'=>Qw<|Qe<|AU<|HC λhap=>Jl ?_;have hdj:=(cg.1 hap).1 _ Mh;have O:=S v9 _ m9 mM' bs2 hdj hO9 hM';rw[<-hjeq2,<-hsn]at O;refine Ai ?_;have hv':=(hvl I').1;rw[ag,ae]at hv';exact Aq (M.length-(f.length+1)) _ Z ⟨f++[j],mi',_,mM',by simp,rfl,rfl,rfl,I',O,λi hi' hv=>by rcases bi.1 hv with hv|hv;exact hz i hi' hv;simp at hv;subst hv;rw[hL];rfl⟩ Qs
   .obtain⟨f,K,mJ,rfl,rfl,rfl,hJS,hv1,hv2,hv3,h2⟩:=hI;refine CT λh6 k6 fJB=>CT λh7 k7 fJ=>?_
    have fJB7:=N fJB k7;have l57:=N k6 k7;refine Ax<|DJ (K:=kN) (V:=vB) (Ok:=Cb) Y Y Y Y<|λgS mS hS0=>BJ [.map none] Y Aei Y Y<|λg16=>Bl 0 0 Y Aei Y Y ξ Y Y H Y Y<|Ao<|AH λh8 k8 hS16=>?_;have e16:∀d,Cell h8 d (⟨g16,0,none⟩:Addr) (.map (some gS)):=λd=>Seg.all hS16 0 _ Y d;refine Ax<|BJ [.nilFunc] Y Af3 Y Y<|λg17=>BF<|Qx (BI Y Y Y) Y<|Bl 0 0 Y Af3 Y Y ξ Y Y H Y Y<|Ao<|AH λh9 k9 hS17=>?_;have e17:∀d,Cell h9 d (⟨g17,0,none⟩:Addr) (.func (.func 172) #[] #[.pt g16,.pt g13,.pt g17]):=λd=>Seg.all hS17 0 _ Y d;obtain⟨P,hP⟩:∃P,f.map pr=P:=⟨_,Y⟩
    rw[hP]at hJS
    have hpm:∀p,p∈P<->∃j,∃t:j<M.length,M[j].2=[p.1,p.2]:=λp=>by
     rw[<-hP,ai]
     have hpj:∀j (t:j<M.length),M[j].2=[(pr j).1,(pr j).2]:=λj t=>by
      have e:M.getD j (0,[])=M[j]:=by simp[List.getD,t]
      simp only[pr];rw[e];have hl:=h2 j t
      match M[j].2,hl with
      | [a,b],_=>rfl
     constructor
     .rintro⟨j,t,rfl⟩;exact⟨j,hv2 j t,hpj j _⟩
     .rintro⟨j,t,e⟩;refine⟨j,hv3 j t,?_⟩;have:=hpj j t;rw[e]at this;simp only[List.cons.injEq,and_true]at this;exact Prod.ext this.1.symm this.2.symm
    have hMj:∀j (t:j<M.length),(E.filter λe=>decide (e.2.1=M[j].1)).map (λe=>e.1)=M[j].2:=λj t=>by have hg:M[j]?=some (M[j].1,M[j].2):=aj t;rw[<-hMg,EU hMn hg];rfl
    have hcnt:∀e∈E,GQ E e.2.1=2:=λe he=>by obtain⟨l,v,hl⟩:=IM ((hMk e.2.1).2 ⟨e,he,Y⟩);obtain⟨h1,e1⟩:=bq.1 hl;have h3:=hMj l h1;have h4:=h2 l h1;rw[<-h3,e1,bb]at h4;rw[Kf];have h4:(E.filter λe'=>decide (e'.2.1=e.2.1)).length=2:=h4;omega
    have hJm:∀a k,k∈(BO (FP P) a).getD []<->∃c p q,(E.filter λe=>decide (e.2.1=c)).map (λe=>e.1)=[p,q]/\((a=p/\k=q)\/(a=q/\k=p)):=λa k=>by
     rw[YZ,hpm,hpm];constructor
     .rintro(⟨j,t,e⟩|⟨j,t,e⟩)
      .exact⟨M[j].1,a,k,by rw[hMj j t,e],.inl ⟨rfl,rfl⟩⟩
      .exact⟨M[j].1,k,a,by rw[hMj j t,e],.inr ⟨rfl,rfl⟩⟩
     .rintro⟨c,p,q,e,h⟩
      have hc:∃j,∃t:j<M.length,M[j].2=[p,q]:=by
       have hm:c∈M.map Prod.fst:=(hMk c).2 (by
        have hpm:p∈(E.filter λe=>decide (e.2.1=c)).map (λe=>e.1):=by rw[e];exact Mh
        obtain⟨e',he',_⟩:=ai.1 hpm;obtain⟨h3,h4⟩:=dp.1 he'
        exact⟨e',h3,dd h4⟩)
       obtain⟨l,v,hl⟩:=IM hm;obtain⟨h1,e1⟩:=bq.1 hl;refine⟨l,h1,?_⟩;rw[<-hMj l h1,e1];exact e
      obtain⟨j,t,e2⟩:=hc;rcases h with ⟨rfl,rfl⟩|⟨rfl,rfl⟩
      .exact .inl ⟨j,t,e2⟩
      .exact .inr ⟨j,t,e2⟩
    have hPl:P.length<=4200:=by rw[<-hP,bb];have:=Xf E;rw[hM]at this;omega
    have V:Ah9 h9 gS gJ g16 g13 g17 mJ K (FP P) (λa=>(BO (FP P) a).getD []) x.c.sd.length:=⟨λd=>(e16 d).le k9,λd=>(e13 d).le (N l57 (N k8 k9)),e17,hJS,N fJ (N k8 k9),N fJB7 (N k8 k9),λa=>rfl,λa k hk=>by
     obtain⟨c,p,q,e,h⟩:=(hJm a k).1 hk
     have hin:∀y∈[p,q],0<=y/\y<x.c.sd.length:=λy hy=>by rw[<-e]at hy;obtain⟨e',he',rfl⟩:=ai.1 hy;exact hEi e' (dp.1 he').1
     rcases h with ⟨_,rfl⟩|⟨_,rfl⟩
     .exact hin _<|am _ Mh
     .exact hin _ Mh,λa=>by have:=Qn P a;show((BO (FP P) a).getD []).length<=_;omega,Z⟩
    refine Ax<|Ql Y AhH (e17 _)<|EC (pre:=[mS]) Y Y call172 Y (AbN V (uns x.c.sd.length []+1) 0 [] [] mS hK.p hS0 (λp hp=>nomatch hp)<|Nat.lt_succ_self _) Y Y Y Y<|λv' h' pre' l' hF=>?_;obtain⟨rfl,m',T',bs',rfl,hO',hA',R⟩:=hF;simp only[cons_append,nil_append,append_nil];refine Ao<|X<|Ax<|Ql Y VG ((e16 _).le k9)<|Qx (Afp hO' σ rfl VG rfl) rfl ?_;have hX9:=hX.up (N lh4 (N k5 (N l57 (N k8 k9))))
    have hmem:∀y,y∈Kq T'<->Con E 0 y:=λy=>by
     rw[Afc hcnt hJm];constructor
     .intro h;exact(R.new y h (λq=>nomatch q)).1.1
     .intro h
      induction h with
      | refl=>exact R.me
      | step _ h3 ih=>exact(R.new _ ih (λq=>nomatch q)).1.2 _ h3
    have hlen:T'.length=x.c.sd.length<->(0<x.c.sd.length/\∀i:Nat,i<x.c.sd.length->Con E 0 i):=by
     have hnd:=hO'.keys
     have hsub:∀y∈Kq T',y∈(range x.c.sd.length).map λ(i:Nat)=>(i:Int):=λy hy=>by have:=(R.new y hy (λq=>nomatch q)).2;exact ai.2 ⟨y.toNat,b6.2 Z,Z⟩
     have hle:=Go.Kuhn.nodup_le _ _ hnd hsub;have hr:((range x.c.sd.length).map λ(i:Nat)=>(i:Int)).Nodup:=fo.2 (List.nodup_range.imp λh e=>h Z);constructor
     .intro h;refine⟨hK.p,λi hi=>(hmem _).1 (ax λhn=>?_)⟩
      have h3:=Go.Kuhn.nodup_le ((i:Int)::Kq T') _ (gt.2 ⟨hn,hnd⟩) λy hy=>by
       rcases be.1 hy with rfl|hy
       .exact ai.2 ⟨i,b6.2 hi,Y⟩
       .exact hsub y hy
      rw[de,bb,bb,ik]at h3;omega
     .rintro⟨_,h⟩
      have h3:=Go.Kuhn.nodup_le _ (Kq T') hr λy hy=>by obtain⟨i,hi,rfl⟩:=ai.1 hy;exact(hmem _).2 (h i (b6.1 hi))
      rw[bb,bb,ik]at h3;rw[bb,bb,ik]at hle;omega
    refine Qf BZ Y<|Ql Y Di (((hA 2 _ Y _).le<|N lh4<|N k5<|N l57<|N k8 k9))<|Qx (Aw hX9.rd.any Y Di Y) Y<|J Y<|Ay Y (λhne=>?_)<|λhne=>?_
    .refine X<|Ad<|J Y<|Aj<|Ae ?_;exact Ar Y Y (by unfold arF;rw[af (λw=>w hzero),af (λw=>w hcnt),ah (λw=>hne (by rw[hlen.2 w]))])
    .refine Cg<|Ax<|J Y<|Aj ?_;exact Ar Y Y (by unfold arF;rw[af (λw=>w hzero),af (λw=>w hcnt),af (λw=>w (hlen.1 Z))])
variable {U o:List Cl} {i:Nat}
theorem Ih{e:Entry}{Q:Exit->Act->World->Prop}{a:Array Oper}{r:List Oper}{s:AG}{h:Hp}{b:List Hp}(k:WL e a Q r s h b):∀pre:List Hp,WL e a Q r s h (pre++b)
 | []=>k
 | m::pre=>PF 0 rfl (Ih k pre)
def L6(o:List Cl)(i:Nat):Int:=if i=0 then 0 else(o.getD (i-1) default).id
def cA(U o:List Cl)(i:Nat):Option (Int×Int):=
 if(o.getD i default).id<=L6 o i then some ((o.getD i default).id,20)
 else if E6 U (o.getD i default)≠0 then some ((o.getD i default).id,E6 U (o.getD i default)) else none
noncomputable def ZV(U o:List Cl)(i:Nat):Option (Int×Int):=
 if 1<(o.getD i default).dim then
  if arF (LK U (o.getD i default) (o.getD i default).sd.length) (o.getD i default).sd.length≠0 then some ((o.getD i default).id,arF (LK U (o.getD i default) (o.getD i default).sd.length) (o.getD i default).sd.length) else none
 else none
noncomputable def O6(U o:List Cl):Int×Int:=
 match (range o.length).findSome? (cA U o) with
 | some e=>e
 | none=>match (range o.length).findSome? (ZV U o) with
  | some e=>e
  | none=>(0,0)
theorem AbA{e:Int×Int}(b:i<o.length)(h:∀j,j<i->cA U o j=none)(a:cA U o i=some e):O6 U o=e:=by unfold O6;rw[GA h a o.length b]
theorem Ahl{e:Int×Int}(a:∀j,j<o.length->cA U o j=none)(c:i<o.length)(h:∀j,j<i->ZV U o j=none)(b:ZV U o i=some e):O6 U o=e:=by unfold O6;rw[EA o.length a,GA h b o.length c]
theorem AaM(a:∀j,j<o.length->cA U o j=none)(b:∀j,j<o.length->ZV U o j=none):O6 U o=(0,0):=by unfold O6;rw[EA o.length a,EA o.length b]
structure Aig(l:List Ce):Prop extends OfOk l where
 d:∀a∈l,Cb a.c.dim
 r:∀a∈l,∀s∈a.c.sd,Cb s.1/\Cb s.2
theorem Pv{x:Cl}(h:E6 U x=0):(0<=x.dim/\x.dim<=8)/\¬Ck x/\(∀i,i<x.sd.length->¬JT U x i)/\∀i,i<x.sd.length->¬Ca x i:=by
 unfold E6 at h;split at h
 .exact lj h H
 rename_i d;split at h
 .exact lj h H
 rename_i a;split at h
 .exact lj h H
 rename_i b;split at h
 .exact lj h H
 rename_i c;exact⟨Z,a,fp.1 b,fp.1 c⟩
theorem KG(h:i<o.length):o.getD i default=o[i]:=by simp[List.getD,h]
theorem XF(b:i<o.length)(h:cA U o i=none):L6 o i<o[i].id/\E6 U o[i]=0:=by
 unfold cA at h;rw[KG b]at h;split at h
 .cases h
 .rename_i c;split at h
  .cases h
  .rename_i a;exact⟨Z,fp.1 a⟩
theorem Ahm(h:∀j,j<o.length->cA U o j=none):o.Pairwise λa b=>a.id<b.id:=by
 have f:∀j (c:j<o.length) i (d:i<j),o[i].id<o[j].id:=λj=>by
  induction j with
  | zero=>intro c i d;omega
  | succ j ih=>
   intro c i d;have g:=(XF c (h _ c)).1
   have k:L6 o (j+1)=o[j].id:=by unfold L6;rw[af Z,Nat.add_sub_cancel,KG Z]
   rw[k]at g;rcases (Z:i<j\/i=j) with l|rfl
   .have:=ih Z i l;omega
   .exact g
 rw[bw];intro i j d c e;exact f j c i e
theorem Ahu{l o1 f:List Cl}(R:CanO l o1)(p:CanO l f)(S:∀y∈U,y∈o1)(A:∀a∈l,∀s∈a.sd,Cb s.1/\Cb s.2)(M:∀j,j<f.length->cA U f j=none){x:Cl}(Q:x∈f)(hd:1<x.dim):Afb U x:=by
 have z:(l.map Cl.id).Nodup:=p.ids.nodup_iff.1 (WG (Ahm M))
 have O:∀y∈f,E6 U y=0:=λy e=>by obtain⟨j,P,rfl⟩:=ee e;exact(XF P (M j P)).2
 have k:∀y∈f,y.sd.length<=64/\∀s∈y.sd,Cb s.1/\(s.2=1\/s.2=-1):=λy e=>by obtain⟨m,g,h3,t⟩:=Pv (O y e);refine⟨by unfold Ck at g;omega,λs d=>?_⟩;obtain⟨i,v,rfl⟩:=ee d;have L:=t i v;unfold Ca at L;rw[Bs v]at L;obtain⟨a,u,_,_,n⟩:=p.sim.mem y e;exact⟨(A a u _ (n.mem_iff.1 (aq v))).1,Z⟩
 have K:∀y∈U,y.sd.length<=64/\∀s∈y.sd,Cb s.1/\(s.2=1\/s.2=-1):=λy e=>by obtain⟨a,u,_,_,n⟩:=R.sim.mem y (S y e);obtain⟨T,B,_,_,h⟩:=p.sim.to z u;obtain⟨m,g⟩:=k T B;refine⟨by rw[n.length_eq,<-h.length_eq];exact m,λs d=>g s (h.mem_iff.2 (n.mem_iff.1 d))⟩
 have b:∀c,(Hz U c).sd.length<=64/\∀s∈(Hz U c).sd,Cb s.1/\(s.2=1\/s.2=-1):=λc=>by
  unfold Hz NT;cases hc:U.find? λy=>decide (y.id=c) with
  | none=>exact⟨by simp[default,instInhabitedCl.default],λs d=>by simp[default,instInhabitedCl.default]at d⟩
  | some y=>exact K y<|List.mem_of_find?_eq_some hc
 obtain⟨m,g⟩:=k x Q;obtain⟨_,t,_,_⟩:=Pv (O x Q);exact⟨m,by unfold Ck at t;omega,λi _=>(b _).1,λs d=>g s d,λi _ r A=>(b _).2 r A⟩
theorem Zm(l:List Ce)(v:Value)(hp:Hp)(hK:Aig l)(hR:RdC hp v l):FnT prog 83 #[.agg #[v]] hp [] (λr _ _=>∃e,r=.tuple #[.int .i64 e.1,.int .i64 e.2]/\((4000<l.length/\e=(0,2))\/(l.length<=4000/\∃R c:List Ce,CanO (l.map Ce.c) (R.map Ce.c)/\CanO (l.map Ce.c) (c.map Ce.c)/\e=O6 ((Wa R).map Ce.c) (c.map Ce.c)))):=by
 have o1:=hR.q.rd.one;refine Au func83 ntmps83 Y Y<|λ_ _=>Ax<|AK [_] Y Y ξ Y Y Y<|λg1=>G Y<|J Y<|AH λh1 l1 hS=>?_;have hR:=hR.up l1;refine X<|Ax<|Qf Cy Y<|Ql Y B8 (Seg.all hS 0 _ Y _)<|E (Aw hR.q.rd.any Y B8 Y) Y<|J Y<|Ay Y (λh4=>?_)<|λh4=>?_
 .refine X<|Ad<|G Y<|J Y<|Aj<|Ae<|Cw Y Y Y (⟨(0,2),Y,.inl ⟨Z,Y⟩⟩)
 .refine I<|Ax<|E (oG Y CV Bd<|Seg.any hS) Y<|Qc call88 Y (AfP l v h1 hK.toOfOk hR)<|λrT h2 ms2 l2 hF=>?_;obtain⟨l2',rfl,g,R,rfl,hC1,hT⟩:=hF;have hR2:=hR.up l2;have hS2:=hS.le l2;refine G Y<|BF<|E (oG Y CV Bd<|Seg.any hS2) Y<|Qc call133 Y (Px l v h2 hK.toOrdC hR2)<|λrC h3 ms3 l3 hF=>?_;obtain⟨l3',mA,c,vA,rfl,rfl,hOA,S,B⟩:=hF;refine BX hOA λhq l4 z=>?_;have B:=λa T=>(B a T).up l4;have hT:=hT.up (N l3 l4);have ovA:=z.rd.one
  have hU1:∀y∈(Wa R).map Ce.c,y∈R.map Ce.c:=λy hy=>by
   obtain⟨a,T,rfl⟩:=ai.1 hy;rcases Mz _ _ a T with h|h
   .cases h
   .exact ai.2 ⟨a,h,Y⟩
  obtain⟨W,hW⟩:∃W,Wa R=W:=⟨_,Y⟩
  rw[hW]at hT hU1;have hol:c.length=l.length:=by have:=S.len;rwa [bb,bb]at this
  have hln:=hK.n
  have hx2:∀a∈c,∃b∈l,a.c.id=b.c.id/\a.c.dim=b.c.dim/\a.c.sd.Perm b.c.sd:=λa T=>by obtain⟨y,hy,e1,e2,e3⟩:=S.sim.mem a.c (ai.2 ⟨a,T,Y⟩);obtain⟨b,hb,rfl⟩:=ai.1 hy;exact⟨b,hb,e1,e2,e3⟩
  have hget:∀i (hi:i<c.length),(c.map Ce.c).getD i default=c[i].c:=λi hi=>by simp[List.getD,hi]
  have t:∀e,e=O6 (W.map Ce.c) (c.map Ce.c)->(4000<l.length/\e=(0,2))\/(l.length<=4000/\∃R c:List Ce,CanO (l.map Ce.c) (R.map Ce.c)/\CanO (l.map Ce.c) (c.map Ce.c)/\e=O6 ((Wa R).map Ce.c) (c.map Ce.c)):=λe he=>.inr ⟨Z,R,c,hC1,S,by rw[he,hW]⟩;refine E (HJ Y CV Y B8 Y Y Y) Y<|G Y<|J Y<|Bu (λsl h' p=>sl=[(4,.pt g),(6,vA)]/\hq.le h'/\p=[]/\∀j,j<c.length->cA (W.map Ce.c) (c.map Ce.c) j=none) ?_<|λs h d hI=>?_
  .refine X<|Ad<|G Y<|E (Aw z.rd.any Y B8 Y) Y<|J Y<|Ag ?_
   refine AC (λq sl h' p=>∃(i:Nat),q=c.length-i/\sl=[(4,.pt g),(5,.w (L6 (c.map Ce.c) i)),(6,vA),(22,vA),(23,.w c.length),(24,.w i)]/\hq.le h'/\p=[]/\i<=c.length/\∀j,j<i->cA (W.map Ce.c) (c.map Ce.c) j=none)
    (c.length-0) _ ⟨0,rfl,rfl,Bk,rfl,Z,λj h=>Z⟩ Qs ?_
   rintro q sl h5 p ⟨i,rfl,rfl,l5,rfl,hi,A⟩;have z:=z.up l5;refine Ax<|J Y<|X<|Ay Y (λhlt=>?_)<|λhlt=>?_
   .have k:i<c.length:=Z
    obtain⟨x,hx⟩:∃x,c[i]=x:=⟨_,Y⟩
    have Q:x∈c:=by rw[<-hx];exact aq k
    have f:=hget i k;rw[hx]at f;obtain⟨b,hb,e1,e2,e3⟩:=hx2 x Q;have hX:=(B x Q).up l5;have hd:Cb x.c.dim:=by rw[e2];exact hK.d b hb
    have hn:x.c.sd.length<=1000000:=by rw[e3.length_eq];have:=hK.s b hb;omega
    have hr:∀s∈x.c.sd,Cb s.1/\Cb s.2:=λs hs=>hK.r b hb s (e3.mem_iff.1 hs);have oxv:=hX.rd.one
    have hl1:L6 (c.map Ce.c) (i+1)=x.c.id:=by unfold L6;rw[af Z,Nat.add_sub_cancel,f]
    have hcl:i<(c.map Ce.c).length:=by rw[bb];exact k
    have hsx:∀d,Seg h5 d ((AJ vA).add (i*3)) (cC x):=λd=>by rw[<-hx];exact(z.any (ms:=d)).seg k
    refine I<|X<|Ag<|Ax<|E (BP (i) z.rd.any Y B8 A9 Y Y) Y<|E (oG Y Kr A9<|hsx _) Y<|BJ [.w 0,.w 0,.nl] Y A9 Y Y<|λg8=>?_;refine Sa 0 [_,_,_] A9 Y (by simp[o1,ovA,oxv]) ?_;refine Ao<|AH λh6 l6 hS8=>?_;have u:∀d,Cell h6 d (⟨g8,0,none⟩:Addr) (.w x.c.id):=λd=>Seg.all hS8 0 _ Y d;have l56:=N l5 l6;refine X<|Ax<|Qf B7 Y<|Ql Y U3 (u _)<|G Y<|J Y<|Ay Y (λhle=>?_)<|λhle=>?_
    .have m:=AbA (U:=W.map Ce.c) hcl A (by unfold cA;rw[f,ah hle]);refine Ax<|Qf B7 Y<|Ql Y U3 (u _)<|G Y<|J Y<|Aj<|Ae<|An<|Ae<|Ae<|An<|Ae<|Cw Y Y Y (⟨_,Y,t _ m.symm⟩)
    .refine I<|Ax<|Qf B7 Y<|Ql Y U3 (u _)<|G Y<|BF<|G Y<|E (oG Y Kr A9<|Seg.any hS8) Y<|Qc call134 Y (Afk W x g h6 (hT.up l56) (hX.up l6) hd hn hr)<|λrF h7 ms7 l7 hF=>?_;subst hF;refine Ih ?_ ms7;have u:∀d,Cell h7 d (⟨g8,0,none⟩:Addr) (.w x.c.id):=λd=>(u d).le l7;refine G Y<|BF<|G Y<|J Y<|Ay Y (λn=>?_)<|λn=>?_
     .have m:=AbA (U:=W.map Ce.c) hcl A (by unfold cA;rw[f,af hle,ah n]);refine Ax<|Qf B7 Y<|Ql Y U3 (u _)<|D Y Y<|J Y<|Aj<|An<|Ae<|Ae<|An<|Ae<|Cw Y Y Y (⟨_,Y,t _ m.symm⟩)
     .have M:cA (W.map Ce.c) (c.map Ce.c) i=none:=by unfold cA;rw[f,af hle,af n]
      refine Ah<|D2<|Ad<|E (oA Y) Y<|G Y<|Am ?_
      exact Aq (c.length-(i+1)) _ Z ⟨i+1,Y,by rw[hl1],N l56 l7,rfl,Z,λj hj=>by
       rcases (Z:j<i\/j=i) with h1|rfl
       .exact A j h1
       .exact M⟩ Qs
   .obtain rfl:i=c.length:=Z
    refine C<|AI _ ⟨Y,l5,Y,A⟩ Qs
  .obtain⟨rfl,l5,rfl,A⟩:=hI;have O:∀j,j<(c.map Ce.c).length->cA (W.map Ce.c) (c.map Ce.c) j=none:=λj hj=>A j (by rwa [bb]at hj);have z:=z.up l5;have hT:=hT.up l5;have B:=λa T=>(B a T).up l5;refine X<|Ax<|G Y<|E (Aw z.rd.any Y B8 Y) Y<|J Y<|Ag ?_
   refine AC (λq sl h' p=>∃(i:Nat),q=c.length-i/\sl=[(4,.pt g),(45,vA),(46,.w c.length),(47,.w i)]/\h.le h'/\p=[]/\i<=c.length/\∀j,j<i->ZV (W.map Ce.c) (c.map Ce.c) j=none)
    (c.length-0) _ ⟨0,rfl,rfl,Bk,rfl,Z,λj h=>Z⟩ Qs ?_
   rintro q sl h6 p ⟨i,rfl,rfl,l6,rfl,hi,hnB⟩;have z:=z.up l6;refine Ax<|J Y<|X<|Ay Y (λhlt=>?_)<|λhlt=>?_
   .have k:i<c.length:=Z
    obtain⟨x,hx⟩:∃x,c[i]=x:=⟨_,Y⟩
    have Q:x∈c:=by rw[<-hx];exact aq k
    have f:=hget i k;rw[hx]at f;have hX:=(B x Q).up l6;have oxv:=hX.rd.one;have hcl:i<(c.map Ce.c).length:=by rw[bb];exact k
    have hsx:∀d,Seg h6 d ((AJ vA).add (i*3)) (cC x):=λd=>by rw[<-hx];exact(z.any (ms:=d)).seg k
    have P:ZV (W.map Ce.c) (c.map Ce.c) i=none->∀j,j<i+1->ZV (W.map Ce.c) (c.map Ce.c) j=none:=λh j hj=>by
     rcases (Z:j<i\/j=i) with h1|rfl
     .exact hnB j h1
     .exact h
    refine I<|X<|Ag<|Ax<|E (BP (i) z.rd.any Y B8 A9 Y Y) Y<|E (oG Y Kr A9<|hsx _) Y<|BJ [.w 0,.w 0,.nl] Y A9 Y Y<|λg11=>?_;refine Sa 0 [_,_,_] A9 Y (by simp[o1,ovA,oxv]) ?_;refine Ao<|AH λh7 l7 L=>?_;have K:∀d,Cell h7 d (⟨g11,0,none⟩:Addr) (.w x.c.id):=λd=>Seg.all L 0 _ Y d;have e111:∀d,Cell h7 d (⟨g11,1,none⟩:Addr) (.w x.c.dim):=λd=>Seg.all L 1 _ Y d;have l67:=N l6 l7;refine Ax<|Qf Co Y<|Ql Y U3 (e111 _)<|J Y<|Ay Y (λhd=>?_)<|λhd=>?_
    .have hAr:Afb (W.map Ce.c) x.c:=Ahu hC1 S hU1 (λa T s hs=>by
      obtain⟨b,hb,rfl⟩:=ai.1 T
      exact hK.r b hb s hs) O (ai.2 ⟨x,Q,Y⟩) hd
     refine Ax<|G Y<|E (oG Y Kr A9<|Seg.any L) Y<|Qc call135 Y (ZJ W x g h7 (hT.up l67) (hX.up l7) hAr)<|λrF h8 ms8 l8 hF=>?_;subst hF;refine Ih ?_ ms8;have K:∀d,Cell h8 d (⟨g11,0,none⟩:Addr) (.w x.c.id):=λd=>(K d).le l8;refine G Y<|BF<|G Y<|J Y<|Ay Y (λn=>?_)<|λn=>?_
     .have m:=Ahl (U:=W.map Ce.c) O hcl hnB (by unfold ZV;rw[f,ah hd,ah n]);refine Ax<|Qf B7 Y<|Ql Y U3 (K _)<|D Y Y<|J Y<|Aj<|An<|Ae<|Ae<|An<|Ae<|Cw Y Y Y (⟨_,Y,t _ m.symm⟩)
     .have M:ZV (W.map Ce.c) (c.map Ce.c) i=none:=by unfold ZV;rw[f,ah hd,af n]
      refine Ah<|D2<|Ad<|E (oA Y) Y<|G Y<|Am<|Aq (c.length-(i+1)) _ Z ⟨i+1,Y,Y,N l67 l8,Y,Z,P M⟩ Qs
    .have M:ZV (W.map Ce.c) (c.map Ce.c) i=none:=by unfold ZV;rw[f,af hd]
     refine Ah<|D2<|Ad<|E (oA Y) Y<|G Y<|Am<|Aq (c.length-(i+1)) _ Z ⟨i+1,Y,Y,l67,Y,Z,P M⟩ Qs
   .obtain rfl:i=c.length:=Z
    have m:=AaM O (λj hj=>hnB j (by rwa [bb]at hj));refine C<|Ab<|Ax<|G Y<|J Y<|Aj<|Cw Y Y Y (⟨(0,0),Y,t _ m.symm⟩)
end
section
variable {l:List Ce} {x c:Cl} {o:List Cl}
theorem Abt(U:List Cl)(x:Cl):Mm U x=(LK U x x.sd.length).map λe=>((Bw x e.1.toNat).1,e.2):=by
 have b:x.sd=(range x.sd.length).map (Bw x):=gg σ λj a d=>by simp[Bs a]
 unfold Mm Va
 conv=>lhs;rw[b]
 unfold LK;rw[flatMap_map,List.map_flatMap];refine If λi f=>?_;unfold AaX;rw[jb];exact fg λr _=>by simp
theorem AbR(E:HR)(f:Int->Int)(c:Int):Fi (E.map λe=>(f e.1,e.2)) c=Fi E c/\GQ (E.map λe=>(f e.1,e.2)) c=GQ E c:=by unfold Fi GQ;rw[jb,jb];exact⟨Y,Y⟩
theorem AeW{U:List Cl}(G:GoodT (Mm U x) x.sd)(B:0<x.sd.length)(T:(x.sd.map Prod.fst).Nodup):arF (LK U x x.sd.length) x.sd.length=0:=by
 have S:=Abt U x;obtain⟨E,R⟩:∃E,LK U x x.sd.length=E:=⟨_,Y⟩
 have a:∀e∈E,∃i:Nat,i<x.sd.length/\e.1=(i:Int):=λe m=>by rw[<-R]at m;obtain⟨i,a,r,_,rfl⟩:=SU m;exact⟨i,a,Y⟩
 rw[R]at S ⊢;rw[S]at G;have A:=λc=>AbR E (λk=>(Bw x k.toNat).1) c
 have h1:∀e∈E,Fi E e.2.1=0:=λe m=>by have h:=G.sum ((Bw x e.1.toNat).1,e.2) (ai.2 ⟨e,m,Y⟩);rw[(A _).1]at h;exact h
 have h2:∀e∈E,GQ E e.2.1=2:=λe m=>by have h:=G.two ((Bw x e.1.toNat).1,e.2) (ai.2 ⟨e,m,Y⟩);rw[(A _).2]at h;exact h
 have f:∀i j:Nat,i<x.sd.length->j<x.sd.length->(Bw x i).1=(Bw x j).1->i=j:=λi j a y e=>by
  rcases iz i j with h|h|h
  .exact lj e<|KI T i j h y
  .exact h
  .exact lj e.symm<|KI T j i h a
 have t:∀{u v:Int},Con (E.map λe=>((Bw x e.1.toNat).1,e.2)) u v->∀i:Nat,i<x.sd.length->u=(Bw x i).1->∃j:Nat,j<x.sd.length/\v=(Bw x j).1/\Con E i j:=λ{u v} h=>by
  induction h with
  | refl=>intro i a e;exact⟨i,a,e,.refl _⟩
  | @step b d c w w' _ m1 m2 ih=>
   intro i L e;obtain⟨j,y,e1,C⟩:=ih i L e;obtain⟨p,hp,q1⟩:=ai.1 m1;obtain⟨p',z,q2⟩:=ai.1 m2;obtain⟨k,hk,Q⟩:=a p hp;obtain⟨k',M,s⟩:=a p' z;rw[Q]at q1;rw[s]at q2;have a1:=(kg _ _ _ _ ▸ q1:_/\_)
   have a2:=(kg _ _ _ _ ▸ q2:_/\_)
   obtain⟨P,b2⟩:=a1;obtain⟨n,K⟩:=a2;rw[Int.toNat_natCast]at P n;have O:k=j:=f k j hk y (by rw[P,e1]);subst O;refine⟨k',M,n.symm,.step C (c:=c) (w:=w) (w':=w') ?_ ?_⟩
   .have:p=((k:Int),c,w):=by rw[<-Q,<-b2]
    rw[<-this];exact hp
   .have:p'=((k':Int),c,w'):=by rw[<-s,<-K]
    rw[<-this];exact z
 have h3:0<x.sd.length/\∀i:Nat,i<x.sd.length->Con E 0 i:=by refine⟨B,λi g=>?_⟩;have hc:=G.con (Bw x 0) (by rw[Bs B];exact aq B) (Bw x i) (by rw[Bs g];exact aq g);obtain⟨j,y,e,C⟩:=t hc 0 B Y;rw[f i j g y e];exact C
 unfold arF;rw[af (λw=>w h1),af (λw=>w h2),af (λw=>w h3)]
theorem Aez:sgs x x.sd.length=(x.sd.map Prod.snd).sum:=by unfold sgs;rw[fz]
theorem AaJ(R:Rgt o)(b:x∈o):E6 o x=0:=by
 have h:∀i,i<x.sd.length->¬JT o x i:=λi a q=>by
  obtain⟨y,e,d,g⟩:=R.sid x b _ (aq a);unfold JT at q;rw[Bs a,<-d,Fe R.nd e,EV R.nd e]at q;rcases q with q|q|⟨k,f⟩
  .cases q
  .exact q g
  .rw[d,<-Bs a]at f;exact KI (R.sds x b) (i-1) i Z a f
 have j:∀i,i<x.sd.length->¬Ca x i:=λi a q=>by unfold Ca at q;rw[Bs a]at q;have:=R.sgn x b _ (aq a);omega
 unfold E6
 rw[af (by have:=R.dim x b;omega),af (R.num x b),af (λw=>w h),af (λw=>w j),af λq=>by
  have:=R.one x b q.1;rw[Aez]at q
  exact q.2 this]
theorem AaK(R:RgtF o):O6 o o=(0,0):=by
 have G:=R.rgt;refine AaM (λj a=>?_) λj a=>?_
 .unfold cA;rw[KG a,af,af]
  .exact λq=>q<|AaJ G<|aq a
  .unfold L6;split
   .have:=G.pos _ (aq a);omega
   .rw[KG Z];have:=bw.1 R.inc (j-1) j Z a Z;omega
 .unfold ZV;rw[KG a];split
  .rename_i e;have d:=aq a;have b:=G.num _ d;unfold Ck at b;rw[af];exact λq=>q<|AeW (G.tab _ d Z) Z<|G.sds _ d
  .rfl
structure RgC(l:List Ce):Prop where
 r:Rgt (l.map Ce.c)
 i:∀a∈l,a.c.id<=1000000
 o:OrdC l
def cn(l:List Ce):List Cl:=ordF (l.map Ce.c)
theorem Kl(l:List Ce):(cn l).length=l.length:=by unfold cn;rw[HD,bb]
theorem RgC.F(R:RgC l):RgtF (cn l):=R.r.ordF
theorem CanO.ord{l:List Cl}(C:CanO l o)(R:Rgt l):o=ordF l:=by
 have F:=R.ordF;have L:=Ed l.length l (ak _);obtain⟨n,B,O,K⟩:=C.mem;have e:=F.inc
 have r:(o.map Cl.id)=(ordF l).map Cl.id:=by refine IC id (C.ids.trans ?_) (fo.2 C.inc)<|fo.2 e;have:=(L.map Cl.id).symm;rw[jb]at this;exact this
 have f:o.length=(ordF l).length:=by have:=bh List.length r;simpa using this
 refine gg f λi b d=>?_;obtain⟨s,t,u,v⟩:=K i b Z
 have a:o[i].id=(ordF l)[i].id:=by have:=List.getElem_of_eq r (i:=i) (by simpa using b);simpa using this
 have m:n[i]'Z∈l:=B.mem_iff.1 (aq _);obtain⟨z,M,k⟩:=IU (aq d)
 have g:z=n[i]'Z:=by
  have p:=Fe R.nd M;have A:=Fe R.nd m;have:z.id=(n[i]'Z).id:=by rw[<-s,a,k];rfl
  rw[this,A]at p;exact(ay p).symm
 have j:o[i].sd=(ordF l)[i].sd:=by refine IC Prod.fst (u.trans ?_) v<|F.sinc _<|aq d;rw[k,g];exact(Dl _).symm
 have h:o[i].dim=(ordF l)[i].dim:=by rw[t,k,g];rfl
 revert a j h;generalize o[i]=x;generalize (ordF l)[i]=y;cases x;cases y;intro a j h;simp only at a j h;rw[a,j,h]
theorem Agg(h:c∈cn l):∃b∈l,c=b.c.can:=by obtain⟨a,d,e⟩:=IU h;obtain⟨b,f,rfl⟩:=ai.1 d;exact⟨b,f,e⟩
theorem RgC.ci(R:RgC l)(h:c∈cn l):c.id<=1000000:=by obtain⟨b,a,rfl⟩:=Agg h;exact R.i b a
theorem RgC.cI(R:RgC l)(h:c∈cn l):Cb c.id:=by have:=R.ci h;have:=R.F.rgt.pos _ h;unfold Cb;omega
theorem Rgt.bds{l:List Cl}(R:Rgt l)(a:x∈l):(0<=x.dim/\x.dim<=8)/\x.sd.length<=64:=by have d:=R.dim x a;have b:=R.num x a;unfold Ck at b;omega
theorem RgC.pc(R:RgC l):Aig l:=by
 have G:=R.r;have g:∀a∈l,a.c∈l.map Ce.c:=λa d=>ai.2 ⟨a,d,Y⟩;have f:∀a∈l,Cb a.c.id:=λa d=>by have:=G.pos _ (g a d);have:=R.i a d;unfold Cb;omega
 refine⟨⟨R.o,f⟩,λa d=>?_,λa d s h=>?_⟩
 .have:=(G.bds (g a d)).1;unfold Cb;omega
 .obtain⟨y,j,e,_⟩:=G.sid _ (g a d) s h;obtain⟨b,i,rfl⟩:=ai.1 j;have k:=G.sgn _ (g a d) s h;rw[<-e];exact⟨f b i,by unfold Cb;omega⟩
theorem AfJ{A:List Ce}(h:A.map Ce.c=o)(b:(o.map Cl.id).Nodup):(A.map λa=>a.c.id).Nodup:=by rw[<-h,jb]at b;exact b
theorem ZL(l:List Ce)(v:Value)(b:Hp)(a:RgC l)(k:RdC b v l):FnT prog 83 #[.agg #[v]] b [] (λr _ _=>r=.tuple #[.int .i64 0,.int .i64 0]):=by
 refine(Zm l v b a.pc k).mono λr _ _ h=>?_;obtain⟨e,rfl,h⟩:=h;have m:=a.r.n;rw[bb]at m;have f:=a.F;rcases h with ⟨h,_⟩|⟨_,n,p,g,i,rfl⟩
 .omega
 .have d:=g.ord a.r;have j:=i.ord a.r;rw[AaH (AfJ d f.rgt.nd),d,j];have:=AaK f;unfold cn at this;rw[this]
theorem Wo(l:List Ce)(v:Value)(b:Hp)(f:RgC l)(p:RdC b v l):FnT prog 88 #[.agg #[v]] b [] (λr d a=>b.le d/\a=[]/\∃g A,r=.pointer (some ⟨g,0,none⟩)/\A.map Ce.c=cn l/\RdT d g A):=by refine(AfP l v b f.pc.toOfOk p).mono λr d a h=>?_;obtain⟨j,k,g,A,m,n,i⟩:=h;have e:A.map Ce.c=cn l:=n.ord f.r;rw[AaH (AfJ e f.F.rgt.nd)]at i;exact⟨j,k,g,A,m,e,i⟩
end
section
open Go.Lin Go.Wd
theorem H4(l:List Nat)(v:Value)(h:Hp)(R:RdL Da 1 h [] v l)(B:l.length<=10000000) :
  FnT prog 165 #[v] h [] (λr g c=>h.le g/\c=[]/\RdL Da 1 g [] r (DK l)):=by
 refine Au func165 ntmps165 Y Y<|λ_ _=>U<|J Y<|X<|Ag ?_
 refine AC (λq t g c=>∃(k:Nat) (u:Value),k=q/\t=[(0,u),(2,.nl)]/\h=g/\c=[]/\k<=l.length/\RdL Da 1 h [] u (l.take k)/\DK (l.take k)=DK l)
  l.length _ ⟨l.length,v,rfl,rfl,rfl,rfl,ak _,by rw[fz];exact R,by rw[fz]⟩ Qs ?_
 rintro q t g c ⟨k,u,rfl,rfl,rfl,rfl,A,b,n⟩;have m:(l.take k).length=k:=by rw[bf];omega
 refine X<|U<|G Y<|E (Aw b.rd.any Y Cr Y) Y<|D Y Y<|AY (t:=6) Y (λp=>?_)<|λp=>?_
 .have i:0<k:=by have:=De p;omega
  obtain⟨a,s⟩:∃a,l[k-1]'Z=a:=⟨_,Y⟩
  have f:l.take k=l.take (k-1)++[a]:=by have:=ap (l:=l) (i:=k-1) Z;rw[s,show k-1+1=k by omega]at this;exact this
  have y:Cell h [] ((AJ u).add ((k-1)*1)) (.int .u64 (a:Int)):=by
   have j:k-1<(l.take k).length:=Z
   have e:(l.take k)[k-1]=a:=by rw[ka];exact s
   exact b.cell0 j (by rw[e];rfl)
  refine Qg (Ap Y Y) Y<|Qg (Ap Y Y) Y<|Qg (Aw b.rd.any Y Cr Y) Y<|Qg (oS Y) Y<|Qg (BP (k-1) b.rd.any Y Cr Cs Y Y) Y<|Qg (oL Y FM<|y) Y<|Qg (Cq Y Y Y) Y<|J Y<|Ay Y (λx=>?_)<|λx=>?_
  .have d:a=0:=Z
   refine I<|Ag<|Ad<|D Y Y<|E (Aw b.rd.any Y Cr Y) Y<|E (oS Y) Y<|E (DW (k-1) b.rd.any Y Cr Cs Y Y Z Z) Y<|G Y<|Am<|Ai ?_
   exact Aq (k-1) _ Z ⟨k-1,C6 1 u 0 (k-1),Y,Y,Y,Y,Z,by
    have:=RdL.sub_ b (i:=0) (j:=k-1) Z (by rw[m];omega)
    simpa[List.take_take,gr (show k-1<=k by omega)] using this,by rw[<-n,f,d,Fz]⟩ Qs
  .have d:a≠0:=Z
   refine C<|Ab<|U<|G Y<|J Y<|Aj ?_;exact Ar Y Y (⟨Bk,Y,by rw[<-n,f,GG _ d,<-f];exact b⟩)
 .have i:k=0:=Z
  subst i;refine DM Y Y<|DM Y Y<|DM Y Y<|Qk Y<|J Y<|AM Y<|C<|Ab<|U<|G Y<|J Y<|Aj ?_;exact Ar Y Y (⟨Bk,Y,by rw[<-n];exact b⟩)
theorem OwnL.repW{g:Nat}{el:TypeId}(n:Nat)(a:n<=9223372036854775807):OwnL Da 1 el (BE g el (replicate n (.int .u64 0))) (.slice (some ⟨g,0,none⟩) n n) (replicate n 0):=by
 have e:replicate n (Value.int .u64 0)=(replicate n 0).flatMap Da:=by
  clear a
  induction n with
  | zero=>rfl
  | succ n ih=>rw[List.replicate_succ,List.replicate_succ,ih];rfl
 rw[e];exact OwnL.blk n IW σ a
abbrev dW(m:Nat):List Nat:=dg 4294967296 m
theorem Agh(m:Nat)(neg:Bool)(hm:(Ba m).length<=1000000)(h:Hp):FnT prog 114 #[.agg #[.bool neg,sv (Ba m)]] h [] (λr p f=>h.le p/\f=[]/\RdL Da 1 p [] r (dW m)):=by
 obtain⟨n,l⟩:∃n,(Ba m).length=n:=⟨_,Y⟩
 obtain⟨L,hL⟩:∃L,(n+3)/4=L:=⟨_,Y⟩
 rw[l]at hm;refine Au func114 ntmps114 Y Y<|λ_ _=>U<|AK [_,_] Y Y ξ Y Y Y<|λg1=>J Y<|AH λA l1 hS=>?_;have x:=qC 1 hS Y;refine U<|Qf EZ Y<|Ql Y U9 (x _)<|E (Ig n l Y U9 Y) Y<|E (oA Y) Y<|E (oS Y) Y<|E (DY (Ek Y Y Y Z Z)<|bh (Value.int .i64) (show((n:Int)+4-1)/4=((L:Nat):Int) by omega)) Y ?_;refine FE (n:=L) Y Cr Cs Y Y Y ξ ξ Z Z Y Y Y<|λg=>J Y<|X<|U<|Qf EZ Y<|Ql Y U9 (x _)<|E (Ig n l Y U9 Y) Y<|J Y<|Ag ?_;have T:m<256^n:=(Cp H n m).1 (by rw[<-FA,l];exact ak _);refine AC (λq sl p f=>∃(i:Nat) (v:Hp) (c:List Nat),n-i=q/\sl=[(1,.pt g1),(3,.slice (some ⟨g,0,none⟩) L L),(15,.w (n:Int)),(16,.w i)]/\A=p/\f=[v]/\i<=n/\OwnL Da 1 117 v (.slice (some ⟨g,0,none⟩) L L) c/\c.length=L/\(∀a,a∈c->a<4294967296)/\val 4294967296 c=m/256^(n-i)*256^(n-i)) n _ ⟨0,_,replicate L 0,Y,Y,Y,Y,Z,OwnL.repW L Z,by simp,by intro a M;rw[(kj.1 M).2];decide,by rw[He,ix,gc T,Nat.zero_mul]⟩ Qs ?_;rintro q sl p f ⟨i,v,c,rfl,rfl,rfl,rfl,hi,B,R,e,hv⟩;refine U<|J Y<|X<|Ay Y (λS=>?_)<|λS=>?_
 .obtain⟨k,hk⟩:∃k,n-1-i=k:=⟨_,Y⟩
  have Q:n-i=k+1:=Z
  have b:k/4<c.length:=Z
  have hb:i<(Ba m).length:=Z
  obtain⟨y,hy⟩:∃y,m/256^k%256=y:=⟨_,Y⟩
  have hy8:y<256:=by rw[<-hy];exact f6 _ H
  have O:(((Ba m)[i]).toNat:Int)=(y:Int):=by rw[SP hb,l,hk,hy]
  obtain⟨d,hd⟩:∃d,c.getD (k/4) 0=d:=⟨_,Y⟩
  have t:c[k/4]=d:=by rw[<-hd];simp[List.getD,b]
  have hd4:d<4294967296:=by rw[<-t];exact e _<|aq b
  refine I<|X<|Ag<|U<|D Y Y<|BF<|Qf EZ Y<|Ql Y U9 (x _)<|E (Ig n l Y U9 Y) Y<|E (oS Y) Y<|G Y<|E (oS Y) Y<|J Y ?_;have hc:Cell A [v] ((AJ (.slice (some ⟨g,0,none⟩) L L)).add (k/4*1)) (.int .u64 ((d:Nat):Int)):=(B.rd (h:=A) (ms:=[v]) (.head _)).cell0 (j:=k/4) b (by rw[t];rfl);have hkI:(n:Int)-1-i=(k:Int):=Z
  obtain⟨z,hz⟩:∃z,d ||| y*2^(8*(k%4))=z:=⟨_,Y⟩
  obtain⟨hs1,hs2⟩:=AaQ (m:=m) (k:=k) (lo:=c) (by rw[<-Q];exact hv) e b z (by rw[hd,hy];exact hz.symm)
  have u:y*2^(8*(k%4))<18446744073709551616:=by
   have j:k%4=0\/k%4=1\/k%4=2\/k%4=3:=Z
   rcases j with j|j|j|j<;>rw[j]<;>simp only[Nat.reduceMul,Nat.reducePow]<;>omega
  refine BK 14 Cx V Y<|Wm Y<|Wm Y<|BS (DY (Ek Y Y Y Z Z)<|bh (Value.int .i64) (show((n:Int)-1-i)/4=((k/4:Nat):Int) by omega)) Y Y ?_;refine BS (Cm (k/4) Y Cr Cs Y Y Z Z) Y Y<|Wl Y FM (hc)<|Wf EZ Y<|Wl Y U9 (x _)<|Wm Y<|BS (Jy (l:=Ba m) i Y U9 Y Y Y hb) Y Y ?_;refine BS (RQ (a:=((y:Nat):Int)) Y U5 FM (by rw[<-O];rfl)<|EN Z) rfl rfl ?_;refine Wm Y<|BS (Eh Y Y Y Z Z) Y Y<|BS (DY (oM Y)<|bh (Value.int .i64) (show 8*(((n:Int)-1-i)%4)=((8*(k%4):Nat):Int) by omega)) Y Y ?_;refine BS (XO (a:=y) (n:=8*(k%4)) (r:=((y*2^(8*(k%4)):Nat):Int)) (by rw[dv u]) rfl rfl rfl Z) rfl rfl ?_;refine BB ?_;refine E (Adw (a:=d) (b:=y*2^(8*(k%4))) (r:=((z:Nat):Int)) (by rw[hz]) rfl rfl rfl Z u) rfl ?_;refine E (Cm (k/4) Y Cr Cs Y Y Z Z) Y<|Db (f:=λn:Nat=>Value.int .u64 (n:Int)) (a:=z) 0 (k/4) (λ_=>rfl) B Y Cs Y Y Y Y b Y Y<|λm' K=>Am<|D2<|Ad<|E (oA Y) Y<|G Y<|Am ?_
  exact Aq (n-(i+1)) _ Z ⟨i+1,m',_,Y,Y,Y,Y,Z,K,by rw[fh];exact R,λa M=>by
   rcases gy M with h|h
   .exact e a h
   .rw[h];exact hs2,by rw[show n-(i+1)=k by omega];exact hs1⟩ Qs
 .have P:i=n:=Z
  subst P;rw[iy,jr,Nat.div_one,km]at hv;refine C<|Ab<|CQ B λh2 l2 hR=>U<|G Y<|AE (pre:=[]) Y call165 Y (H4 c _ h2 hR Z) Y Y Y Y<|λr j ms3 l3 hF=>?_;obtain⟨l3',rfl,s⟩:=hF;rw[DT H e,hv]at s;refine J Y<|Aj<|Ar Y Y (⟨N l1<|N l2 l3',Y,s⟩)
end
section
open Go.Lin
def Aha(l:List Nat)(k:Nat):List Value:=[.int .i64 ((l.length:Int)-1-k),.int .u64 ((l.getD (l.length-1-k) 0:Nat):Int)]
theorem Zy(g:Nat)(v:Value)(l:List Nat)(h:Hp)(f:Seg h [] ⟨g,0,none⟩ [v])(i:RdL Da 1 h [] v l)(z:l.length<=1000000):ItrS prog 219 [.pointer (some ⟨g,0,none⟩)] h l.length (Aha l):=by
 intro p X Y O t L B M;show FnT _ _ #[.func (.yield p) #[] #[],.pt g] _ _ _;have f:=f.le L;have i:=i.up L;obtain⟨n,j⟩:∃n,l.length=n:=⟨_,rfl⟩
 rw[j]at z B;refine Au func219 ntmps219 rfl rfl<|fun w0 R=>?_;simp only[AW];refine Ac<|BH<|BV (oL rfl Cr ((f.at0 rfl).any)) rfl rfl rfl<|BV (Aw i.rd.any rfl Cr rfl) rfl rfl rfl<|BV (oS rfl) rfl rfl rfl<|BV (Jt rfl rfl) rfl rfl rfl<|C4<|Ab<|Ag ?_
 refine AC (fun q s e c=>∃(k:Nat),q=n-k/\s=[(0,.func (.yield p) #[] #[]),(1,.pt g),(3,.w ((n:Int)-1-k))]/\O.le e/\k<=n/\X k e c)
  (n-0) [(0,.func (.yield p) #[] #[]),(1,.pt g),(3,.w ((l.length:Int)-1))] ⟨0,rfl,by rw[j,show((n:Int)-1-(0:Nat))=(n:Int)-1 by omega],Bk,Z,M⟩ Qs ?_
 rintro q s e c ⟨k,rfl,rfl,m,hk,A⟩;refine Ac<|Ac<|BH<|BV (Ap rfl rfl) rfl rfl rfl<|BV (NK rfl rfl rfl) rfl rfl rfl<|C4<|Ab ?_;refine Ay rfl (fun y=>?_)<|fun y=>?_
 .have x:k<n:=Z
  have u:=f.le m;have d:=i.up m;have K:n-1-k<l.length:=Z
  have P:∀t,Cell e t ((AJ v).add ((n-1-k)*1)) (.int .u64 ((l.getD (n-1-k) 0:Nat):Int)):=fun t=>by rw[show l.getD (n-1-k) 0=l[n-1-k] by simp[List.getD,K]];exact(d.any (ms:=t)).cell0 K rfl
  refine I<|Ac<|Ag<|Ac<|BH<|BV (Ap rfl rfl) rfl rfl rfl<|BV (Ap rfl rfl) rfl rfl rfl<|BV (oL rfl Cr ((u.at0 rfl).any)) rfl rfl rfl<|BV (Ap rfl rfl) rfl rfl rfl<|BV (BP (n-1-k) d.rd.any rfl Cr Cs rfl rfl) rfl rfl rfl<|BV (oL rfl FM<|P _) rfl rfl rfl ?_;have b:=B k e c x m A;unfold Aha at b;rw[j]at b;refine K4 rfl rfl rfl (b) rfl rfl rfl<|fun r h2 T S Q=>?_;rcases Q with ⟨rfl,a⟩|⟨rfl,a⟩
  .refine BV (Dg rfl rfl) rfl rfl rfl<|C4<|Ab<|AM rfl<|Ah<|D2<|BH<|BV (Ap rfl rfl) rfl rfl rfl<|BV (oS rfl) rfl rfl rfl<|BV (Jt rfl rfl) rfl rfl rfl<|C4 ?_;refine Aq (n-(k+1)) [(0,.func (.yield p) #[] #[]),(1,.pt g),(3,.w ((n:Int)-1-k-1))] Z ⟨k+1,rfl,by rw[show((n:Int)-1-k-1)=(n:Int)-1-(k+1:Nat) by omega],N m S,Z,a⟩ Qs
  .refine BV (Dg rfl rfl) rfl rfl rfl<|C4<|Ab<|A4 rfl<|Aj<|An<|Ae<|Ae<|An<|La rfl<|.inr ⟨k,Z,a⟩
 .obtain rfl:k=n:=Z
  refine C<|CC rfl<|.inl (by rw[j];exact A)
theorem TF(v:Value)(n:Nat)(cs:List Value)(h:Hp)(e:Rd h [] v 1 n cs):FnT prog 177 #[v] h [] (λr b a=>h=b/\∃g,r=.func (.func 219) #[] #[.pointer (some ⟨g,0,none⟩)]/\a=[BE g 164 [v]]):=by refine Au func177 ntmps177 Y Y<|λ_ _=>U<|AK [_] Y Y (Rd.cells ‹_›) Y Y Y<|λd=>G Y<|BF<|E (BI Y Y Y) Y<|J Y<|Aj ?_;exact Ar Y Y (⟨Y,_,Y,Y⟩)
end
end Go.Proofs.Q
namespace Go.Proofs
open Go.Proofs.Tryz
open Go.Shelf
def Tryz.lays161_ren:Go.Shelf.Ren:=⟨fun|161=>178|231=>220|227=>221|233=>222|235=>223|228=>245|197=>246|151=>247|260=>266|152=>267|137=>276|119=>277|224=>278|225=>279|217=>283|266=>284|n=>n,fun|9=>9|4=>4|3=>3|5=>5|117=>257|116=>256|0=>0|124=>260|105=>274|21=>21|119=>304|46=>183|139=>307|138=>306|n=>n,fun|3=>0|4=>1|n=>n⟩
theorem Tryz.lays161:Go.Proofs.Lays.n161 prog Tryz.lays161_ren:={
 mixed:=by kernel_rfl
 f119:=func277.trans (bh some V)
 f137:=func276.trans (bh some V)
 f151:=func247.trans (bh some V)
 f152:=func267.trans (bh some V)
 f161:=func178.trans (bh some V)
 f197:=func246.trans (bh some V)
 f217:=func283.trans (bh some V)
 f224:=func278.trans (bh some V)
 f225:=func279.trans (bh some V)
 f227:=func221.trans (bh some V)
 f228:=func245.trans (bh some V)
 f231:=func220.trans (bh some V)
 f233:=func222.trans (bh some V)
 f235:=func223.trans (bh some V)
 f260:=func266.trans (bh some V)
 f266:=func284.trans (bh some V)
 t0:=underlying0
 a0:=isAgg0
 z0:=sizeOf0
 v0:=zeroValue0
 t3:=underlying3
 a3:=isAgg3
 z3:=sizeOf3
 v3:=zeroValue3
 t4:=underlying4
 a4:=isAgg4
 z4:=sizeOf4
 v4:=zeroValue4
 t5:=underlying5
 a5:=isAgg5
 z5:=sizeOf5
 v5:=zeroValue5
 t9:=underlying9
 a9:=isAgg9
 z9:=sizeOf9
 v9:=zeroValue9
 t21:=underlying21
 a21:=isAgg21
 z21:=sizeOf21
 v21:=zeroValue21
 t46:=underlying183
 a46:=isAgg183
 z46:=sizeOf183
 v46:=zeroValue183
 t105:=underlying274
 a105:=isAgg274
 z105:=sizeOf274
 v105:=zeroValue274
 t116:=underlying256
 a116:=isAgg256
 z116:=sizeOf256
 t117:=underlying257
 a117:=isAgg257
 z117:=sizeOf257
 v117:=zeroValue257
 t119:=underlying304
 a119:=isAgg304
 z119:=sizeOf304
 t124:=underlying260
 a124:=isAgg260
 z124:=sizeOf260
 v124:=zeroValue260
 t138:=underlying306
 a138:=isAgg306
 z138:=sizeOf306
 v138:=zeroValue306
 t139:=underlying307
 a139:=isAgg307
 z139:=sizeOf307
 v139:=zeroValue307
 g3:=by kernel_rfl
 g4:=by kernel_rfl }
open Go.RowKit in
theorem Tryz.strings_TrimLeft_one(s:ByteArray)(c:UInt8)(a:c.toNat<128)(w:World) :
 Calls prog 178 #[.string s,.string ⟨#[c]⟩] w λe b=>e=.returned (.string ⟨(Lib.trimLeftB s.data.toList c).toArray⟩)/\b=w:=Any.strings_TrimLeft_one Tryz.lays161 s c a w
def Tryz.lays189_ren:Go.Shelf.Ren:=⟨fun|189=>197|125=>237|257=>236|128=>260|129=>261|294=>252|295=>253|296=>254|297=>255|298=>256|299=>257|216=>143|300=>258|301=>259|328=>269|329=>270|330=>271|331=>272|332=>273|215=>176|343=>280|n=>n,fun|28=>22|3=>3|46=>183|0=>0|51=>291|53=>117|4=>4|183=>285|182=>284|131=>128|5=>5|9=>9|218=>298|222=>302|228=>312|229=>313|n=>n,fun|n=>n⟩
theorem Tryz.lays189:Go.Proofs.Lays.n189 prog Tryz.lays189_ren:={
 mixed:=by kernel_rfl
 f125:=func237.trans (bh some V)
 f128:=func260.trans (bh some V)
 f129:=func261.trans (bh some V)
 f189:=func197.trans (bh some V)
 f215:=func176.trans (bh some V)
 f216:=func143.trans (bh some V)
 f257:=func236.trans (bh some V)
 f294:=func252.trans (bh some V)
 f295:=func253.trans (bh some V)
 f296:=func254.trans (bh some V)
 f297:=func255.trans (bh some V)
 f298:=func256.trans (bh some V)
 f299:=func257.trans (bh some V)
 f300:=func258.trans (bh some V)
 f301:=func259.trans (bh some V)
 f328:=func269.trans (bh some V)
 f329:=func270.trans (bh some V)
 f330:=func271.trans (bh some V)
 f331:=func272.trans (bh some V)
 f332:=func273.trans (bh some V)
 f343:=func280.trans (bh some V)
 t0:=underlying0
 a0:=isAgg0
 z0:=sizeOf0
 v0:=zeroValue0
 t3:=underlying3
 a3:=isAgg3
 z3:=sizeOf3
 v3:=zeroValue3
 t4:=underlying4
 a4:=isAgg4
 z4:=sizeOf4
 v4:=zeroValue4
 t5:=underlying5
 a5:=isAgg5
 z5:=sizeOf5
 v5:=zeroValue5
 t9:=underlying9
 a9:=isAgg9
 z9:=sizeOf9
 v9:=zeroValue9
 t28:=underlying22
 a28:=isAgg22
 z28:=sizeOf22
 v28:=zeroValue22
 t46:=underlying183
 a46:=isAgg183
 z46:=sizeOf183
 v46:=zeroValue183
 t51:=underlying291
 a51:=isAgg291
 z51:=sizeOf291
 v51:=zeroValue291
 t53:=underlying117
 a53:=isAgg117
 z53:=sizeOf117
 v53:=zeroValue117
 t131:=underlying128
 a131:=isAgg128
 z131:=sizeOf128
 v131:=zeroValue128
 t182:=underlying284
 a182:=isAgg284
 z182:=sizeOf284
 v182:=zeroValue284
 t183:=underlying285
 a183:=isAgg285
 z183:=sizeOf285
 v183:=zeroValue285
 t218:=underlying298
 a218:=isAgg298
 z218:=sizeOf298
 v218:=zeroValue298
 t222:=underlying302
 a222:=isAgg302
 z222:=sizeOf302
 v222:=zeroValue302
 t228:=underlying312
 a228:=isAgg312
 z228:=sizeOf312
 v228:=zeroValue312
 t229:=underlying313
 a229:=isAgg313
 z229:=sizeOf313
 v229:=zeroValue313 }
open Go.Sort Go.RowKit in
theorem Tryz.slices_Sort_int(blk a b:Nat)(d:List Int)(w:World)(g:Holds (Value.int .i64) w blk a d.toArray)(c:blk<w.heap.size)(f:d.length<4611686018427387904) :
 Calls prog 197 #[.slice (some ⟨blk,a,none⟩) d.length b] w λe i=>
  e=.returned (.tuple #[])/\∃n h,i=grow (putRow (Value.int .i64) (Sort.ahead w n) blk a (d.mergeSort λx y=>decide (x<=y)).toArray) h:=Any.slices_Sort_int Tryz.lays189 blk a b d w g c f
def Tryz.laysNm225_ren:Go.Shelf.Ren:=⟨fun|25=>90|31=>143|32=>144|37=>176|n=>n,fun|22=>22|3=>3|4=>4|40=>183|0=>0|n=>n,fun|n=>n⟩
theorem Tryz.laysNm225:Go.Proofs.Lays2.n25 prog Tryz.laysNm225_ren:={
 mixed:=by kernel_rfl
 f25:=func90.trans (bh some V)
 f31:=func143.trans (bh some V)
 f32:=func144.trans (bh some V)
 f37:=func176.trans (bh some V)
 t0:=underlying0
 a0:=isAgg0
 z0:=sizeOf0
 v0:=zeroValue0
 t3:=underlying3
 a3:=isAgg3
 z3:=sizeOf3
 v3:=zeroValue3
 t4:=underlying4
 a4:=isAgg4
 z4:=sizeOf4
 v4:=zeroValue4
 t22:=underlying22
 a22:=isAgg22
 z22:=sizeOf22
 v22:=zeroValue22
 t40:=underlying183
 a40:=isAgg183
 z40:=sizeOf183
 v40:=zeroValue183 }
open Go.RowKit Go.Lib in
theorem Tryz.slices_BinarySearch_int(b a n c:Nat)(d:List Int)(x:Int)(w:World)(i:n<=d.length)(f:n<4611686018427387904)(g:∀j,j<d.length->w.cell? ⟨b,a+j,none⟩=some (.int .i64 (d.getD j 0)))(h:(d.take n).Pairwise (·<=·)) :
 Calls prog 90 #[.slice (some ⟨b,a,none⟩) n c,.w x] w λe k=>e=.returned (.tuple #[.w ((d.take n).countP (·<x):Nat),.bool ((d.take n).contains x)])/\∃q,k=w.drewN q:=Any.slices_BinarySearch_int Tryz.laysNm225 b a n c d x w i f g h
open Go.RowKit Go.Lib in
theorem Tryz.slices_BinarySearch_int_empty(a:Option Addr)(c:Nat)(x:Int)(w:World) :
 Calls prog 90 #[.slice a 0 c,.w x] w λe b=>e=.returned (.tuple #[.w 0,.bool false])/\b=w:=Any.slices_BinarySearch_int_empty Tryz.laysNm225 a c x w
end Go.Proofs
namespace Go.Proofs.Q
open Go.Proofs.Tryz
open Go.Eng Go.RowKit Go.Lin Go.Wd
def bW(W:List Nat)(k:Nat):List UInt8:=(W.reverse.take k).flatMap be4
theorem Afa(d:List Nat)(k:Nat)(c:k<d.length):bW d (k+1)=bW d k++be4 (d.getD (d.length-1-k) 0):=by
 unfold bW;have a:k<d.reverse.length:=by simpa using c
 rw[ap a,fe,List.getElem_reverse];have b:d.length-1-k<d.length:=Z
 simp[List.getD,b]
theorem Ago(b:List Nat)(k:Nat)(a:k<=b.length):(bW b k).length=4*k:=by unfold bW;rw[Afz,bf,List.length_reverse];omega
theorem Jw:∀a:UInt8,∀c∈cU8 a,c.oneCell'=true:=λa c b=>by unfold cU8 at b;rw[bj]at b;subst b;rfl
theorem X7(l:List Nat)(neg:Bool)(v:Value)(n:Nat)(hn:val 4294967296 l=n)(u:∀a,a∈l->a<4294967296)(h:Hp)(R:RdL Da 1 h [] v l)(hl:l.length<=1000000) :
  FnT prog 145 #[v,.bool neg] h [] (λr h' ms'=>h.le h'/\ms'=[]/\r=.agg #[.bool (neg&&decide (Ba n≠[])),sv (Ba n)]):=by
 have hs:DK l=dW n:=by rw[DT H u,hn]
 have ov:=R.rd.one;refine Fw func145 ntmps145 Y Y<|λ_ _=>U<|BJ [.bool false,.es] Y Av Y Y<|λA=>BF<|G Y<|Qc call165 Y (H4 l v h R Z)<|λr h1 f l1 p=>?_;obtain⟨y,rfl,b⟩:=p;rw[hs]at b;have or_:=b.rd.one;have g:∀a,a∈dW n->a<4294967296:=FG H n
 have hWl:(dW n).length<=l.length:=by rw[Cp H,<-hn];exact Kn H u
 have t:val 4294967296 (dW n)=n:=Ki H n;revert b;generalize hW:dW n=W at g hWl t;intro b;refine G Y<|BF<|G Y<|E (Aw b.rd.any Y Cr Y) Y<|E (oM Y) Y<|AcG (n:=0) (cp:=4*W.length) Y IK Y4 Y Y Y Y Z Z Z Z Y Y Y<|λP=>BJ [.nl] Y Adg Y Y<|λB=>Bl 0 0 Y Adg Y Y ξ Y Y H Y Y<|Ao<|X<|U<|G Y<|Qc call177 Y (TF r W.length _ h1 b.rd)<|λvf h2 ms2 K p=>?_;obtain⟨rfl,gb,rfl,rfl⟩:=p;refine Ao<|Ag<|AH λh2 K Q=>?_;have S:=b.up K;have hI:=Zy gb r W h2 Q S Z;refine JV (λk i L=>∃d m,L=[BE B 170 [d],m,BE A 33 [.bool false,.es]]/\OwnL cU8 1 5 m d (bW W k)) (λk i L=>False) (λk s1 i L=>∃d m,s1=[(1,.bool neg),(4,.pt A),(5,.pt B),(7,.int .u64 ((W.getD (W.length-1-k) 0:Nat):Int))]/\L=[BE B 170 [d],m,BE A 33 [.bool false,.es]]/\OwnL cU8 1 5 m d (bW W k)) Y call219 hI (λk=>rfl) Y ?_ ?_ ?_ ?_ ?_
 .exact⟨_,_,Y,⟨⟨by simp[bW],.inr ⟨P,4*W.length,replicate (4*W.length) (.int .u8 0),rfl,by simp[bW],by simp[bW],by simp[bW],by show 4*W.length<=_;omega⟩⟩,G6⟩⟩
 .rintro w1 k i f hk z ⟨d,m,rfl,j⟩;rw[show Aha W k=[.w ((W.length:Int)-1-k),.int .u64 ((W.getD (W.length-1-k) 0:Nat):Int)] from Y];refine Bj V<|G Y<|Am<|AI _ ⟨d,m,Y,Y,j⟩ Qs
 .rintro w1 k s1 i f hk z ⟨d,m,rfl,rfl,j⟩;have hbs:=Afa W k hk;have hbl:=Ago W k Z
  have hx:W.getD (W.length-1-k) 0<4294967296:=by
   have h3:W.length-1-k<W.length:=Z
   simp only[List.getD,aj h3,Option.getD_some];exact g _<|aq h3
  generalize W.getD (W.length-1-k) 0=x at *;have hb4:(be4 x).length=4:=rfl;have O:IntKind.u8.wrap ((x/2^24:Nat):Int)=(((UInt8.ofNat (x/2^24)).toNat:Nat):Int):=by simp[IntKind.wrap,IntKind.bits,IntKind.signed]
  have M:IntKind.u8.wrap ((x/2^16:Nat):Int)=(((UInt8.ofNat (x/2^16)).toNat:Nat):Int):=by simp[IntKind.wrap,IntKind.bits,IntKind.signed]
  have c8:IntKind.u8.wrap ((x/2^8:Nat):Int)=(((UInt8.ofNat (x/2^8)).toNat:Nat):Int):=by simp[IntKind.wrap,IntKind.bits,IntKind.signed]
  have c0:IntKind.u8.wrap (x:Int)=(((UInt8.ofNat x).toNat:Nat):Int):=by simp[IntKind.wrap,IntKind.bits,IntKind.signed]
  have ovb:=j.o1;refine Ex<|Bj V<|Ql Y IK (Cell.blk0 0 Y Y)<|G Y<|E (GW (n:=24) Y Y Y Z) Y<|E (Ea O Y FM U5 Y) Y<|G Y<|E (GW (n:=16) Y Y Y Z) Y<|E (Ea M Y FM U5 Y) Y<|G Y<|E (GW (n:=8) Y Y Y Z) Y<|E (Ea c8 Y FM U5 Y) Y<|G Y<|E (Ea c0 Y FM U5 Y) Y<|AX [(0,_),(1,_),(2,_),(3,_)] [.int .u8 0,.int .u8 0,.int .u8 0,.int .u8 0] [_,_,_,_] Y IK Y4 Y Z V Qt Y Y Y Y<|λg31=>Cz 2 j (⟨Rd.blk (n:=4) (c:=4) Mh Y (ak _) Z,G6⟩:RdL cU8 1 _ _ _ (be4 x)) Y IK Y4 Y Z Y Y Y (λa _=>Jw a) Z Z Y Y Y<|λv32 m' s=>?_;have ov32:=s.o1;refine Bl 1 0 Y Adg Y Y (by assumption) Y Y (by(simp;done)) rfl rfl ?_;refine Am<|Ai<|AU ?_;exact AI [] ⟨v32,m',Y,by rw[hbs];exact s⟩ fu
 .rintro D i f z ⟨d,m,rfl,j⟩;have T:=(j.rd (h:=i) (ms:=[BE B 170 [d],m,BE A 33 [.bool false,.es]]++[Mk D]) (.tail _ (.head _))).rd
  have ht:Lib.trimLeftB (bW W W.length) 0=Ba n:=by have h5:=VW g;rw[t]at h5;unfold bW;rw[<-List.length_reverse,fz];exact h5
  have AA:=AA (Ba n);refine D2<|U<|Ql Y IK (Cell.blk0 0 Y Y)<|E (Vs T Y Y IK U5 U9 Y) Y<|E (As Y call178 Y<|FnV.ofCalls (v:=sv (Ba n)) (λw=>(Tryz.strings_TrimLeft_one ⟨(bW W W.length).toArray⟩ 0 H w).mono λe w' h=>by rw[<-ht];exact h)) Y ?_;refine G Y<|BF<|AT Y Y<|Po (t:=37) Y (λc=>?_)<|λc=>?_
  .refine Qg (Ap Y Y) Y<|Qg (HL (l':=[]) Y Y Y) Y<|AT Y Y<|E (AQ JP [.bool false,.es] [(0,_),(1,_)] [_,_] Y Av Y Y Qt Y) Y ?_;refine Sa 2 [_,_] Av Y (by simp[AA]) ?_;refine Ao<|Aj<|AU<|AU<|Gc 1 (.inr Y) Y ?_;exact BC (vs:=[_,_]) 0 Y Y Bn Y Av Y Y (⟨N y (N K z),Y,by rw[c];rfl⟩)
  .refine DM Y Y<|AT Y Y<|E (AQ JP [.bool false,.es] [(0,_),(1,_)] [_,_] Y Av Y Y Qt Y) Y ?_;refine Sa 2 [_,_] Av Y (by simp[AA]) ?_;refine Ao<|Aj<|AU<|AU<|Gc 1 (.inr Y) Y ?_;exact BC (vs:=[_,_]) 0 Y Y Bn Y Av Y Y (⟨N y (N K z),Y,by rw[c];rfl⟩)
 .rintro D k i f hk z p;exact p.elim
end Go.Proofs.Q