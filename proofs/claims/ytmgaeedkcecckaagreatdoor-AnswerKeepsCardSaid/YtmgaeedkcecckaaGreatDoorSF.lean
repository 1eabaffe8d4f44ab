/- A part of the proof. -/
import Derived.Test.YtmgaeedkcecckaaGreatDoorSE
set_option linter.unusedSimpArgs false
set_option linter.unusedVariables false
set_option linter.unusedSectionVars false
set_option maxRecDepth 100000
set_option maxHeartbeats 4000000
open List (length_map length_singleton getElem_mem replicate range length_append nil_append length_take mem_cons cons_append pairwise_cons take_succ_eq_append_getElem append_nil map_map map_cons length_set take_length append_assoc getElem_map flatMap_cons take_zero drop_zero length_replicate sum_cons take_of_length_le not_mem_nil)
namespace Go.Proofs.Q
open Go.Proofs.Tryz
open Go.Eng Go.RowKit
section
open Go.Lin Go.Wd
variable {i:Nat}
theorem Vl{l:List Nat}(a:i<l.length):l.getD i 0=l[i]:=by simp[List.getD,a]
theorem rdW{h:Hp}{v:Value}{A:List Nat}(c:RdL Da 1 h [] v A)(a:i<A.length)(b:List Hp):Cell h b ((AJ v).add (i*1)) (.int .u64 ((A.getD i 0:Nat):Int)):=
 (c.any (ms:=b)).cell0 (j:=i) a (by rw[Vl a];rfl)
theorem Aiv{h:Hp}{v:Value}{A:List Nat}{m:Hp}{el:TypeId}(b:OwnL Da 1 el m v A)(a:i<A.length):Cell h [m] ((AJ v).add (i*1)) (.int .u64 ((A.getD i 0:Nat):Int)):=
 (b.rd (h:=h) (ms:=[m]) (.head _)).cell0 (j:=i) a (by rw[Vl a];rfl)
theorem Fg(n:Nat):val 4294967296 (dW n)=n:=Ki H n
theorem Xh(a b:Nat)(S:(dW a).length<=10000000)(T:(dW b).length<=10000000)(l m:Value)(h:Hp)(A:RdL Da 1 h [] l (dW a))(B:RdL Da 1 h [] m (dW b)) :
  FnT prog 188 #[l,m] h [] (λr _ _=>r=.w (SR a b)):=by
 have j:Rd h [] l 1 (dW a).length ((dW a).flatMap Da):=A.rd;have t:Rd h [] m 1 (dW b).length ((dW b).flatMap Da):=B.rd;obtain⟨n,hn⟩:∃n,(dW a).length=n:=⟨_,Y⟩
 refine Au func188 ntmps188 Y Y<|λ_ _=>U<|J Y<|X<|Ag<|U<|G Y<|E (Aw j.any Y Cr Y) Y<|G Y<|E (Aw t.any Y Cr Y) Y<|G Y<|J Y<|Ay Y (λM=>?_)<|λM=>?_
 .refine X<|Ad<|J Y<|Aj<|An<|Ae ?_;exact Ar Y Y (by unfold SR;rw[ah (HG (b:=4294967296) H (show(dW a).length<(dW b).length by omega))])
 .refine X<|Ad<|G Y<|E (Aw j.any Y Cr Y) Y<|G Y<|E (Aw t.any Y Cr Y) Y<|G Y<|J Y<|Ay Y (λO=>?_)<|λO=>?_
  .have f:=HG (b:=4294967296) (m:=b) (n:=a) H (show(dW b).length<(dW a).length by omega);refine U<|J Y<|Aj<|An<|Ae ?_;exact Ar Y Y (by unfold SR;rw[af Z,ah f])
  .have K:(dW a).length=(dW b).length:=Z
   refine Ah<|D2<|X<|U<|G Y<|E (Aw j.any Y Cr Y) Y<|E (oS Y) Y<|J Y<|Ag ?_;refine AC (λq L z g=>∃i:Nat,i=q/\L=[(0,l),(1,m),(5,.w ((i:Int)-1))]/\h=z/\g=[]/\i<=n/\(dW a).drop i=(dW b).drop i) (dW a).length _ ⟨(dW a).length,Y,Y,Y,Y,Z,by rw[jg Z,jg Z]⟩ Qs ?_;rintro q L z g ⟨i,rfl,rfl,rfl,rfl,hi,e⟩;refine X<|U<|G Y<|J Y<|Ay Y (λv=>?_)<|λv=>?_
   .obtain⟨k,rfl⟩:∃k,i=k+1:=⟨i-1,Z⟩
    have c:k<(dW a).length:=Z
    have d:k<(dW b).length:=Z
    obtain⟨x,p⟩:∃x,(dW a).getD k 0=x:=⟨_,Y⟩
    obtain⟨y,s⟩:∃y,(dW b).getD k 0=y:=⟨_,Y⟩
    have cA:=rdW A c;have cB:=rdW B d;rw[p]at cA;rw[s]at cB;refine I<|X<|Ag<|Ag<|X<|BK 8 Cx V Y<|Wm Y<|Wm Y<|BS (BP (k) j.any Y Cr Cs Y Y) Y Y<|Wl Y FM (cA _)<|Wm Y<|Wm Y<|BS (BP (k) t.any Y Cr Cs Y Y) Y Y<|Wl Y FM (cB _)<|BB<|G Y<|J Y<|Ay Y (λP=>?_)<|λP=>?_
    .have:=AcH (b:=4294967296) H (FG H a) (FG H b) K c e (by rw[p,s];omega);rw[Fg,Fg]at this;refine U<|J Y<|Aj<|An<|An<|Ae<|Ae<|An<|Ae ?_;exact Ar Y Y (by unfold SR;rw[ah this])
    .refine X<|BK 8 Cx V Y<|Wm Y<|Wm Y<|BS (BP (k) j.any Y Cr Cs Y Y) Y Y<|Wl Y FM (cA _)<|Wm Y<|Wm Y<|BS (BP (k) t.any Y Cr Cs Y Y) Y Y<|Wl Y FM (cB _)<|BB<|G Y<|J Y<|Ay Y (λQ=>?_)<|λQ=>?_
     .have:=AcH (b:=4294967296) H (FG H b) (FG H a) K.symm d e.symm (by rw[p,s];omega);rw[Fg,Fg]at this;refine U<|J Y<|Aj<|An<|An<|Ae<|Ae<|An<|Ae ?_;exact Ar Y Y (by unfold SR;rw[af Z,ah this])
     .refine Ah<|Ai<|D2<|Ad<|G Y<|E (oS Y) Y<|G Y<|Am ?_
      exact Aq k [(0,l),(1,m),(5,.w (((k+1:Nat):Int)-1-1))] Z ⟨k,Y,by rw[show((k+1:Nat):Int)-1-1=(k:Int)-1 by omega],Y,Y,Z,by
       rw[fw c,fw d,e,<-Vl c,<-Vl d,p,s,show x=y by omega]⟩ Qs
   .have u:i=0:=Z
    subst u;rw[js,js]at e;have:=AcA H e;refine C<|Ab<|U<|J Y<|Aj ?_;exact Ar Y Y (by unfold SR;rw[af Z,af Z])
def WD(n:Int):Value:=.agg #[.bool (decide (n<0)),sv (Ba n.natAbs)]
theorem AfR{m:Nat}{neg:Bool}{n:Int}(h:n.natAbs=m)(c:m≠0->neg=decide (n<0)):Value.agg #[.bool (neg&&decide (Ba m≠[])),sv (Ba m)]=WD n:=by
 unfold WD;rw[h];by_cases a:m=0
 .subst a;have:n=0:=Z
  subst this;have e:Ba 0=[]:=rfl;rw[e];simp
 .have b:Ba m≠[]:=λe=>a (bys_nil.1 e);rw[c a];simp[b]
theorem Afn(n:Int)(g:Cb n)(h:Hp):FnT prog 95 #[.int .i64 n] h [] (λr f b=>h.le f/\b=[]/\r=WD n):=by
 obtain⟨m,A⟩:∃m,n.natAbs=m:=⟨_,Y⟩
 have B:m<=9223372036854775808:=by have:=g.1;have:=g.2;omega
 refine Au func95 ntmps95 Y Y<|λ_ _=>U<|BJ [.bool false,.es] Y Av Y Y<|λk=>BF<|G Y<|E (Eu Y U3 FM Y) Y<|J Y<|Bu (λP f b=>P=[(0,.w n),(2,.pt k),(3,.int .u64 (m:Int))]/\h=f/\b=[BE k 33 [.bool false,.es]]) ?_<|λs h S v=>?_
 .have d:IntKind.u64.wrap (-(IntKind.u64.wrap n))=(m:Int)\/¬n<0:=by
   by_cases t:n<0
   .refine .inl ?_;simp only[IntKind.wrap,IntKind.bits,IntKind.signed];simp;have:=g.1;omega
   .exact .inr t
  refine U<|G Y<|J Y<|Ay Y (λc=>?_)<|λc=>?_
  .have d:IntKind.u64.wrap (-(IntKind.u64.wrap n))=(m:Int):=d.resolve_right (λh=>h c);refine Ad<|G Y<|E (Yr d Y Y) Y<|G Y<|Am<|AI _ ⟨Y,Y,Y⟩ Qs
  .have p:IntKind.u64.wrap n=(m:Int):=by rw[EN Z];omega
   refine Ah ?_;exact AI _ ⟨Y,Y,Y⟩ (by rw[<-p];exact Qs)
 .obtain⟨rfl,rfl,rfl⟩:=v;refine U<|G Y<|E (JL JC Y Y Y Z Z) Y<|G Y<|E (JD (n:=32) (r:=((m/4294967296:Nat):Int)) Y Y Y Y Z) Y<|AX [(0,_),(1,_)] [.int .u64 0,.int .u64 0] [_,_] Y Cr Cs Y Z V Qt Y Y Y Y<|λe=>D Y Y<|Bm λl M y=>?_;have x:RdL Da 1 l [] (.slice (some ⟨e,0,none⟩) 2 2) [m%4294967296,m/4294967296]:=⟨⟨⟨_,_,Y,ak _,by decide,Y,λ_=>⟨_,Y,y⟩⟩⟩,IW⟩
  have K:val 4294967296 [m%4294967296,m/4294967296]=m:=by show m%4294967296+4294967296*(m/4294967296+4294967296*0)=m;omega
  refine Qc call145 Y (X7 [m%4294967296,m/4294967296] (decide<|n<0) _ m K (by intro a z;simp only[be,ia,j7]at z;omega) l x σ)<|λr Q O R u=>?_;obtain⟨j,rfl,rfl⟩:=u;have AA:=AA (Ba m);refine Sa 0 [_,_] Av Y (by simp[AA]) ?_;refine Ao<|Aj<|BC (vs:=[_,_]) 0 Y Y Bn Y Av Y Y (⟨N M j,Y,AfR A λ_=>rfl⟩)
theorem Fy(n:Int)(b:Cb n)(h:Hp)(a:List Hp):FnV prog 95 #[.int .i64 n] h a (WD n):=D9 ((Afn n b h).mono λ_ _ _ h=>h.2.2) a
theorem Aew(n:Int)(b:-256<n/\n<256)(h:Hp)(a:List Hp):FnV prog 95 #[.int .i64 n] h a (WD n):=Fy n ⟨Z,Z⟩ h a
end
section
open Go.Lin Go.Wd
theorem Si(d:List Nat)(k x:Nat):(d++replicate (k+1) 0).set d.length x=(d++[x])++replicate k 0:=by rw[List.set_append_right _ _ (Nat.le_refl _),Nat.sub_self,List.replicate_succ,List.set_cons_zero,append_assoc];rfl
theorem GY{l:List Nat}(h:∀a,a∈l->a<4294967296)(i:Nat):l.getD i 0<4294967296:=by
 by_cases b:i<l.length
 .rw[Vl b];exact h _<|aq b
 .simp[List.getD,b]
theorem KZ{d:List Nat}{x:Nat}(h:∀a,a∈d->a<4294967296)(e:x<4294967296):∀a,a∈d++[x]->a<4294967296:=λa c=>by
 rcases bi.1 c with b|b
 .exact h a b
 .rw[bj.1 b];exact e
theorem YR(a b:Nat)(A B:Value)(h:Hp)(P:RdL Da 1 h [] A (dW a))(Q:RdL Da 1 h [] B (dW b))(ha:(dW a).length<=1000000)(hb:(dW b).length<=1000000) :
  FnT prog 153 #[A,B] h [] (fun r l j=>h.le l/\j=[]/\RdL Da 1 l [] r (dW (a+b))):=by
 have rA:Rd h [] A 1 (dW a).length ((dW a).flatMap Da):=P.rd;have rB:Rd h [] B 1 (dW b).length ((dW b).flatMap Da):=Q.rd;refine Au func153 ntmps153 rfl rfl<|fun w0 hw0=>?_;simp only[AW];refine U<|G rfl<|Ao ?_;refine Bu (fun M l j=>∃(u w:Value) (X Y:List Nat),M=[(0,u),(1,w)]/\h=l/\j=[]/\RdL Da 1 h [] u X/\RdL Da 1 h [] w Y/\val 4294967296 X+val 4294967296 Y=a+b/\Y.length<=X.length/\X.length<=1000000/\(∀a,a∈X->a<4294967296)/\(∀a,a∈Y->a<4294967296)) ?_<|fun s h ms hI=>?_
 .refine Ac<|Ad<|G rfl<|E (Aw rA.any rfl Cr rfl) rfl<|G rfl<|E (Aw rB.any rfl Cr rfl) rfl<|G rfl<|Ao ?_;refine Ay rfl (fun h1=>?_)<|fun h1=>?_
  .refine Ad<|G rfl<|G rfl<|G rfl<|G rfl<|Am ?_;exact AI _ ⟨B,A,dW b,dW a,rfl,rfl,rfl,Q,P,by rw[Fg,Fg];omega,Z,hb,FG H b,FG H a⟩ Qs
  .refine Ah ?_;exact AI _ ⟨A,B,dW a,dW b,rfl,rfl,rfl,P,Q,by rw[Fg,Fg],Z,ha,FG H a,FG H b⟩ Qs
 .obtain⟨u,w,X,Y,rfl,rfl,rfl,t,S,hv,hXY,hXl,lX,lY⟩:=hI;obtain⟨n,hn⟩:∃n,X.length=n:=⟨_,rfl⟩
  refine U<|G rfl<|E (Aw t.rd.any rfl Cr rfl) rfl<|E (oA rfl) rfl<|FE (n:=X.length+1) rfl Cr Cs rfl rfl rfl ξ ξ Z Z rfl rfl rfl<|fun m=>G rfl (BF (G rfl (Ao (Ac (U (G rfl (E (Aw t.rd.any rfl Cr rfl) rfl (G rfl (Ao (Ag ?_))))))))));refine AC (fun q M l j=>∃(i c:Nat) (mo:Hp) (d:List Nat),n-i=q/\M=[(0,u),(1,w),(5,.slice (some ⟨m,0,none⟩) (X.length+1) (X.length+1)),(6,.int .u64 (c:Int)),(21,.w ((X.length:Nat):Int)),(22,.w i)]/\h=l/\j=[mo]/\i<=n/\OwnL Da 1 117 mo (.slice (some ⟨m,0,none⟩) (X.length+1) (X.length+1)) (d++replicate (n+1-i) 0)/\d.length=i/\(∀a,a∈d->a<4294967296)/\c<=1/\val 4294967296 d+4294967296^i*c=val 4294967296 (X.take i)+val 4294967296 (Y.take i)) n _ ⟨0,0,_,[],rfl,rfl,rfl,rfl,Z,by rw[<-hn,aw,ix];exact OwnL.repW _ Z,rfl,(nofun),Z,rfl⟩ Qs ?_;rintro q M l j ⟨i,c,mo,d,rfl,rfl,rfl,rfl,hi,R,g,T,hc,k⟩;refine U<|G rfl<|Ao<|Ac ?_;refine Ay rfl (fun hlt=>?_)<|fun hlt=>?_
  .have hiX:i<X.length:=Z
   obtain⟨x,hx⟩:∃x,X.getD i 0=x:=⟨_,rfl⟩
   obtain⟨y,K⟩:∃y,Y.getD i 0=y:=⟨_,rfl⟩
   have hx4:x<4294967296:=by rw[<-hx];exact GY lX i
   have hy4:y<4294967296:=by rw[<-K];exact GY lY i
   have cA:=rdW t hiX;rw[hx]at cA;obtain⟨s,hs⟩:∃s,x+c+y=s:=⟨_,rfl⟩
   have z:=AcS (b:=4294967296) H g k s (by rw[hx,K];exact hs.symm);have v:(d++replicate (n+1-i) 0).length=n+1:=by rw[ag,length_replicate];omega
   have e:(d++replicate (n+1-i) 0).set i (s%4294967296)=(d++[s%4294967296])++replicate (n+1-(i+1)) 0:=by rw[<-g,show n+1-d.length=(n+1-(d.length+1))+1 by omega,Si]
   refine I<|Ac<|Ag<|U<|G rfl<|G rfl<|BF<|G rfl<|G rfl<|E (BP (i) t.rd.any rfl Cr Cs rfl rfl) rfl<|Ql rfl FM (cA _)<|G rfl ?_;refine E (MX (a:=x) (b:=c) (r:=((x+c:Nat):Int)) (by rw[EN Z];omega) rfl rfl rfl) rfl ?_;refine G rfl<|Ao<|Ac<|U<|G rfl<|G rfl<|E (Aw S.rd.any rfl Cr rfl) rfl<|G rfl<|Ao ?_;refine Ay rfl (fun O=>?_)<|fun O=>?_
   .have cB:=rdW S (show i<Y.length by omega);rw[K]at cB;refine Ad<|G rfl<|G rfl<|G rfl<|E (BP (i) S.rd.any rfl Cr Cs rfl rfl) rfl<|Ql rfl FM (cB _) ?_;refine E (MX (a:=x+c) (b:=y) (r:=((s:Nat):Int)) (by rw[EN Z];omega) rfl rfl rfl) rfl ?_;refine G rfl<|HM<|G rfl<|G rfl<|G rfl<|E (JL JC rfl rfl rfl Z Z) rfl<|G rfl<|E (JD (n:=32) (r:=((s/4294967296:Nat):Int)) rfl rfl rfl rfl Z) rfl<|E (Cm (i) rfl Cr Cs rfl rfl Z Z) rfl<|Db (f:=fun n:Nat=>Value.int .u64 (n:Int)) (a:=s%4294967296) 0 i (fun _=>rfl) R rfl Cs rfl rfl rfl rfl Z rfl rfl<|fun L f=>G rfl (Am (Ai (Ab (Ad (E (oA rfl) rfl (G rfl (Am ?_)))))));exact Aq (n-(i+1)) _ Z ⟨i+1,s/4294967296,L,_,rfl,rfl,rfl,rfl,Z,by rw[<-e];exact f,by rw[ag,g];rfl,KZ T (f6 _ H),Z,z⟩ Qs
   .have hy0:y=0:=by rw[<-K];simp[List.getD,show ¬i<Y.length by omega]
    obtain rfl:x+c=s:=Z
    refine I<|Ad<|G rfl<|G rfl<|G rfl<|E (JL JC rfl rfl rfl Z Z) rfl<|G rfl<|E (JD (n:=32) (r:=(((x+c)/4294967296:Nat):Int)) rfl rfl rfl rfl Z) rfl<|E (Cm (i) rfl Cr Cs rfl rfl Z Z) rfl<|Db (f:=fun n:Nat=>Value.int .u64 (n:Int)) (a:=(x+c)%4294967296) 0 i (fun _=>rfl) R rfl Cs rfl rfl rfl rfl Z rfl rfl<|fun L f=>G rfl (Am (Ai (Ab (Ad (E (oA rfl) rfl (G rfl (Am ?_)))))));exact Aq (n-(i+1)) _ Z ⟨i+1,(x+c)/4294967296,L,_,rfl,rfl,rfl,rfl,Z,by rw[<-e];exact f,by rw[ag,g];rfl,KZ T (f6 _ H),Z,z⟩ Qs
  .obtain rfl:i=n:=Z
   have v:(d++replicate (i+1-i) 0).length=i+1:=by rw[ag,length_replicate];omega
   have e:(d++replicate (i+1-i) 0).set i c=d++[c]:=by have:=Si d 0 c;rw[List.replicate_zero,append_nil,g]at this;rw[show i+1-i=0+1 by omega];exact this
   refine C<|Ab<|U<|G rfl<|G rfl<|E (Aw t.rd.any rfl Cr rfl) rfl<|G rfl<|E (Cm (i) rfl Cr Cs rfl rfl Z Z) rfl<|Db (f:=fun n:Nat=>Value.int .u64 (n:Int)) (a:=c) 0 i (fun _=>rfl) R rfl Cs rfl rfl rfl rfl Z rfl rfl<|fun L f=>Ao ?_;rw[e]at f;refine CQ f fun O l2 hR=>(U (G rfl ?_))
   have hvv:val 4294967296 (d++[c])=a+b:=by rw[OM,g,k,bm Z,bm Z];exact hv
   refine Qc call165 rfl (H4 (d++[c]) _ O hR (by rw[ag];show d.length+1<=_;omega))<|fun r h3 ms3 l3 hF=>?_;obtain⟨l3',rfl,p⟩:=hF;rw[DT H (KZ T Z),hvv]at p;refine G rfl<|Ao<|Aj<|Ar rfl rfl (⟨N l2 l3',rfl,p⟩)
theorem Q8(a b:Nat)(P:b<=a)(va vb:Value)(h:Hp)(m:RdL Da 1 h [] va (dW a))(v:RdL Da 1 h [] vb (dW b))(ha:(dW a).length<=1000000) :
  FnT prog 154 #[va,vb] h [] (fun r t g=>h.le t/\g=[]/\RdL Da 1 t [] r (dW (a-b))):=by
 have hl:=Er (b:=4294967296) H P;have lX:∀x,x∈dW a->x<4294967296:=FG H a;have lY:∀x,x∈dW b->x<4294967296:=FG H b;have vX:=Fg a;have vY:=Fg b;revert m v lX lY vX vY;generalize M:dW a=X at ha;generalize O:dW b=Y;intro m v lX lY vX vY;have hYX:Y.length<=X.length:=by rw[<-M,<-O];exact hl
 obtain⟨n,hn⟩:∃n,X.length=n:=⟨_,rfl⟩
 refine Au func154 ntmps154 rfl rfl<|fun w0 hw0=>?_;simp only[AW];refine U<|G rfl<|BF<|G rfl<|E (Aw m.rd.any rfl Cr rfl) rfl<|FE (n:=X.length) rfl Cr Cs rfl rfl rfl ξ ξ Z Z rfl rfl rfl<|fun p=>G rfl (BF (G rfl (Ao (Ac (U (G rfl (E (Aw m.rd.any rfl Cr rfl) rfl (G rfl (Ao (Ag ?_))))))))));refine AC (fun q sl t g=>∃(i c:Nat) (mo:Hp) (d:List Nat),n-i=q/\sl=[(0,va),(1,vb),(5,.slice (some ⟨p,0,none⟩) X.length X.length),(6,.int .u64 (c:Int)),(13,.w ((X.length:Nat):Int)),(14,.w i)]/\h=t/\g=[mo]/\i<=n/\OwnL Da 1 117 mo (.slice (some ⟨p,0,none⟩) X.length X.length) (d++replicate (n-i) 0)/\d.length=i/\(∀a,a∈d->a<4294967296)/\c<=1/\val 4294967296 d+val 4294967296 (Y.take i)=val 4294967296 (X.take i)+4294967296^i*c) n _ ⟨0,0,_,[],rfl,rfl,rfl,rfl,Z,by rw[<-hn,aw,ix];exact OwnL.repW _ Z,rfl,(nofun),Z,rfl⟩ Qs ?_;rintro q sl t g ⟨i,c,mo,d,rfl,rfl,rfl,rfl,hi,A,f,B,hc,e⟩;refine U<|G rfl<|Ao<|Ac ?_;refine Ay rfl (fun S=>?_)<|fun S=>?_
 .have R:i<X.length:=Z
  obtain⟨x,hx⟩:∃x,X.getD i 0=x:=⟨_,rfl⟩
  obtain⟨y,K⟩:∃y,Y.getD i 0=y:=⟨_,rfl⟩
  have hx4:x<4294967296:=by rw[<-hx];exact GY lX i
  have hy4:y<4294967296:=by rw[<-K];exact GY lY i
  have cA:=rdW m R;rw[hx]at cA;obtain⟨s,hs⟩:∃s,(x+18446744073709551616-c-y)%18446744073709551616=s:=⟨_,rfl⟩
  have z:=Acq (b:=4294967296) H (e:=s/9223372036854775808) (s:=s%4294967296) f e (by rw[hx,K];omega);have hlen:(d++replicate (n-i) 0).length=n:=by rw[ag,length_replicate];omega
  have j:(d++replicate (n-i) 0).set i (s%4294967296)=(d++[s%4294967296])++replicate (n-(i+1)) 0:=by rw[<-f,show n-d.length=(n-(d.length+1))+1 by omega,Si]
  obtain⟨k,hs1⟩:∃k,(x+18446744073709551616-c)%18446744073709551616=k:=⟨_,rfl⟩
  refine I<|Ac<|Ag<|U<|G rfl<|G rfl<|BF<|G rfl<|G rfl<|E (BP (i) m.rd.any rfl Cr Cs rfl rfl) rfl<|Ql rfl FM (cA _)<|G rfl ?_;refine E (Yb (a:=x) (b:=c) (r:=((k:Nat):Int)) (by simp only[IntKind.wrap,IntKind.bits,IntKind.signed];simp;omega) rfl rfl rfl) rfl ?_;refine G rfl<|Ao<|Ac<|U<|G rfl<|G rfl<|E (Aw v.rd.any rfl Cr rfl) rfl<|G rfl<|Ao ?_;refine Ay rfl (fun L=>?_)<|fun L=>?_
  .have cB:=rdW v (show i<Y.length by omega);rw[K]at cB;refine Ad<|G rfl<|G rfl<|G rfl<|E (BP (i) v.rd.any rfl Cr Cs rfl rfl) rfl<|Ql rfl FM (cB _) ?_;refine E (Yb (a:=k) (b:=y) (r:=((s:Nat):Int)) (by simp only[IntKind.wrap,IntKind.bits,IntKind.signed];simp;omega) rfl rfl rfl) rfl ?_;refine G rfl<|HM<|G rfl<|G rfl<|G rfl<|E (JL JC rfl rfl rfl Z Z) rfl<|G rfl<|E (JD (n:=63) (r:=((s/9223372036854775808:Nat):Int)) rfl rfl rfl rfl Z) rfl<|E (Cm (i) rfl Cr Cs rfl rfl Z Z) rfl<|Db (f:=fun n:Nat=>Value.int .u64 (n:Int)) (a:=s%4294967296) 0 i (fun _=>rfl) A rfl Cs rfl rfl rfl rfl Z rfl rfl<|fun m' l=>G rfl (Am (Ai (Ab (Ad (E (oA rfl) rfl (G rfl (Am ?_)))))));exact Aq (n-(i+1)) _ Z ⟨i+1,s/9223372036854775808,m',_,rfl,rfl,rfl,rfl,Z,by rw[<-j];exact l,by rw[ag,f];rfl,KZ B (f6 _ H),Z,z⟩ Qs
  .have hy0:y=0:=by rw[<-K];simp[List.getD,show ¬i<Y.length by omega]
   obtain rfl:k=s:=Z
   refine I<|Ad<|G rfl<|G rfl<|G rfl<|E (JL JC rfl rfl rfl Z Z) rfl<|G rfl<|E (JD (n:=63) (r:=((k/9223372036854775808:Nat):Int)) rfl rfl rfl rfl Z) rfl<|E (Cm (i) rfl Cr Cs rfl rfl Z Z) rfl<|Db (f:=fun n:Nat=>Value.int .u64 (n:Int)) (a:=k%4294967296) 0 i (fun _=>rfl) A rfl Cs rfl rfl rfl rfl Z rfl rfl<|fun m' l=>G rfl (Am (Ai (Ab (Ad (E (oA rfl) rfl (G rfl (Am ?_)))))));exact Aq (n-(i+1)) _ Z ⟨i+1,k/9223372036854775808,m',_,rfl,rfl,rfl,rfl,Z,by rw[<-j];exact l,by rw[ag,f];rfl,KZ B (f6 _ H),Z,z⟩ Qs
 .obtain rfl:i=n:=Z
  refine C<|Ab ?_;rw[Nat.sub_self,List.replicate_zero,append_nil]at A;refine CQ A fun L l2 hR=>(U (G rfl ?_))
  have T:val 4294967296 d=a-b:=by
   rw[bm Z,bm Z,vX,vY]at e;have h9:=Kn (b:=4294967296) H B;rw[f]at h9
   have Q:c=0:=by
    rcases (show c=0\/c=1 by omega) with h|h
    .exact h
    .subst h;rw[km]at e;omega
   subst Q;rw[Nat.mul_zero]at e;omega
  refine Qc call165 rfl (H4 d _ L hR Z)<|fun r h3 ms3 l3 hF=>?_;obtain⟨l3',rfl,u⟩:=hF;rw[DT H B,T]at u;refine G rfl<|Ao<|Aj<|Ar rfl rfl (⟨N l2 l3',rfl,u⟩)
variable {x:Nat}
theorem V6{o:List Nat}{i:Nat}(h:∀a,a∈o->a<4294967296)(d:x<4294967296):∀a,a∈o.set i x->a<4294967296:=λa c=>by
 rcases gy c with b|b
 .exact h a b
 .rw[b];exact d
theorem U6{o:List Nat}{i j:Nat}(h:i≠j):(o.set i x).getD j 0=o.getD j 0:=by simp[List.getD,gh,h]
theorem AbF{y:Nat}(a:x<4294967296)(b:y<4294967296):IntKind.u64.wrap ((x:Int)*(y:Int))=((x*y:Nat):Int):=by have:x*y<=4294967295*4294967295:=fx Z Z;rw[<-dz,EN Z]
theorem Ae3(a b:Nat)(va vb:Value)(h:Hp)(O:RdL Da 1 h [] va (dW a))(v:RdL Da 1 h [] vb (dW b))(ha:(dW a).length<=1000000)(hb:(dW b).length<=1000000) :
  FnT prog 175 #[va,vb] h [] (λr l d=>h.le l/\d=[]/\RdL Da 1 l [] r (dW (a*b))):=by
 have lA:∀x,x∈dW a->x<4294967296:=FG H a;have lB:∀x,x∈dW b->x<4294967296:=FG H b;have vA:=Fg a;have vB:=Fg b;revert O v lA lB vA vB;generalize dW a=A at ha;generalize dW b=B at hb;intro O v lA lB vA vB;obtain⟨n,hn⟩:∃n,A.length=n:=⟨_,Y⟩
 obtain⟨p,hp⟩:∃p,B.length=p:=⟨_,Y⟩
 refine Au func175 ntmps175 Y Y<|λ_ _=>U<|G Y<|BF<|G Y<|E (Aw O.rd.any Y Cr Y) Y<|G Y<|E (Aw v.rd.any Y Cr Y) Y<|E (oA Y) Y<|FE (n:=A.length+B.length) Y Cr Cs Y Y Y ξ ξ Z Z Y Y Y<|λg=>J Y<|X<|U<|G Y<|E (Aw O.rd.any Y Cr Y) Y<|J Y<|Ag ?_;refine AC (λq sl l d=>∃(i:Nat) (mo:Hp) (o:List Nat),n-i=q/\sl=[(1,vb),(5,.slice (some ⟨g,0,none⟩) (A.length+B.length) (A.length+B.length)),(18,va),(19,.w ((A.length:Nat):Int)),(20,.w i)]/\h=l/\d=[mo]/\i<=n/\OwnL Da 1 117 mo (.slice (some ⟨g,0,none⟩) (A.length+B.length) (A.length+B.length)) o/\o.length=A.length+B.length/\(∀a,a∈o->a<4294967296)/\val 4294967296 o=val 4294967296 (A.take i)*val 4294967296 B/\∀j,i+p<=j->o.getD j 0=0) n _ ⟨0,_,replicate (A.length+B.length) 0,Y,Y,Y,Y,Z,OwnL.repW _ Z,by simp,by intro a ha;rw[(kj.1 ha).2];decide,by rw[He];simp[val],by intro j hj;simp[List.getD,List.getElem?_replicate];split<;>rfl⟩ Qs ?_;rintro q sl l d ⟨i,mo,o,rfl,rfl,rfl,rfl,hi,hO,hol,T,hov,hoz⟩;refine U<|J Y<|X<|Ay Y (λhlt=>?_)<|λhlt=>?_
 .have hiA:i<A.length:=Z
  obtain⟨x,hx⟩:∃x,A.getD i 0=x:=⟨_,Y⟩
  have hx4:x<4294967296:=by rw[<-hx];exact GY lA i
  have cA:=rdW O hiA;rw[hx]at cA;refine I<|X<|Ag<|U<|G Y<|E (BP (i) O.rd.any Y Cr Cs Y Y) Y<|Ql Y FM (cA _)<|D Y Y<|BF<|J Y<|X<|U<|G Y<|E (Aw v.rd.any Y Cr Y) Y<|J Y<|Ag ?_;refine AC (λq sl l d=>∃(k c:Nat) (m1:Hp) (o1:List Nat),p-k=q/\sl=[(1,vb),(5,.slice (some ⟨g,0,none⟩) (A.length+B.length) (A.length+B.length)),(6,.w i),(7,.int .u64 (x:Int)),(8,.int .u64 (c:Int)),(18,va),(19,.w ((A.length:Nat):Int)),(20,.w i),(25,vb),(26,.w ((B.length:Nat):Int)),(27,.w k)]/\h=l/\d=[m1]/\k<=p/\OwnL Da 1 117 m1 (.slice (some ⟨g,0,none⟩) (A.length+B.length) (A.length+B.length)) o1/\o1.length=A.length+B.length/\(∀a,a∈o1->a<4294967296)/\c<4294967296/\val 4294967296 o1+4294967296^(i+k)*c=val 4294967296 (A.take i)*val 4294967296 B+4294967296^i*(x*val 4294967296 (B.take k))/\∀j,i+p<=j->o1.getD j 0=0) p _ ⟨0,0,mo,o,Y,Y,Y,Y,Z,hO,hol,T,Z,by rw[hov];simp[val],hoz⟩ Qs ?_;rintro q sl l d ⟨k,c,m1,o1,rfl,rfl,rfl,rfl,hk,L,m,e,hc,t,f⟩;refine U<|J Y<|X<|Ay Y (λS=>?_)<|λS=>?_
  .have hkB:k<B.length:=Z
   have M:i+k<o1.length:=Z
   obtain⟨y,hy⟩:∃y,B.getD k 0=y:=⟨_,Y⟩
   obtain⟨z,hz⟩:∃z,o1.getD (i+k) 0=z:=⟨_,Y⟩
   have hy4:y<4294967296:=by rw[<-hy];exact GY lB k
   have hz4:z<4294967296:=by rw[<-hz];exact GY e _
   have hxy:x*y<=4294967295*4294967295:=fx Z Z;have hwm:=AbF hx4 hy4;have cB:=rdW v hkB;rw[hy]at cB;have cO:=Aiv (h:=h) L M;rw[hz]at cO;obtain⟨P,u⟩:∃P,x*y=P:=⟨_,Y⟩
   obtain⟨s,hs⟩:∃s,z+P+c=s:=⟨_,Y⟩
   have hst:=Aby (b:=4294967296) H M t (s:=s) (by rw[hz,hy,u];exact hs.symm);rw[u]at hwm hxy;have hs2:s/4294967296<4294967296:=Z
   refine I<|X<|Ag<|U<|G Y<|E (BP (k) v.rd.any Y Cr Cs Y Y) Y<|Ql Y FM (cB _)<|D Y Y<|BF<|D Y Y<|G Y<|E (oA Y) Y<|E (Cm (i+k) Y Cr Cs Y Y Z Z) Y<|Ql Y FM (cO)<|D Y Y<|E (DY (Yn Y Y Y)<|bh (Value.int .u64) hwm) Y ?_;refine E (MX (a:=z) (b:=P) (r:=((z+P:Nat):Int)) (by rw[EN Z];omega) rfl rfl rfl) rfl ?_;refine G Y ?_;refine E (MX (a:=z+P) (b:=c) (r:=((s:Nat):Int)) (by rw[EN Z];omega) rfl rfl rfl) rfl ?_;refine G Y<|HM<|D Y Y<|G Y<|E (oA Y) Y<|G Y<|E (JL JC Y Y Y Z Z) Y<|G Y<|E (JD (n:=32) (r:=((s/4294967296:Nat):Int)) Y Y Y Y Z) Y<|E (Cm (i+k) Y Cr Cs Y Y Z Z) Y<|Db (f:=λn:Nat=>Value.int .u64 (n:Int)) (a:=s%4294967296) 0 (i+k) (λ_=>rfl) L Y Cs Y Y Y Y M Y Y<|λm' K=>G Y<|Am<|D2<|Ad<|E (oA Y) Y<|G Y<|Am ?_;exact Aq (p-(k+1)) _ Z ⟨k+1,s/4294967296,m',_,Y,Y,Y,Y,Z,K,by rw[fh];exact m,V6 e (f6 _ H),hs2,hst,λj hj=>by rw[U6 Z];exact f j hj⟩ Qs
  .have hkp:k=B.length:=Z
   have R:i+B.length<o1.length:=Z
   have he:=Afe (b:=4294967296) H (o:=o1) (x:=A) (y:=B) (i:=i) (c:=c) R (f _ Z) (by rw[hx,<-hkp];exact t);refine C<|Ab<|Ad<|D Y Y<|G Y<|E (Aw v.rd.any Y Cr Y) Y<|E (oA Y) Y<|G Y<|E (Cm (i+B.length) Y Cr Cs Y Y Z Z) Y<|Db (f:=λn:Nat=>Value.int .u64 (n:Int)) (a:=c) 0 (i+B.length) (λ_=>rfl) L Y Cs Y Y Y Y R Y Y<|λm' K=>Am<|D2<|Ad<|E (oA Y) Y<|G Y<|Am ?_;exact Aq (n-(i+1)) _ Z ⟨i+1,m',_,Y,Y,Y,Y,Z,K,by rw[fh];exact m,V6 e hc,he,λj hj=>by rw[U6 Z];exact f j Z⟩ Qs
 .obtain rfl:i=n:=Z
  refine C<|Ab<|CQ hO λh2 l2 hR=>U<|G Y<|Qc call165 Y (H4 o _ h2 hR Z)<|λr h3 ms3 l3 hF=>?_;obtain⟨l3',rfl,Q⟩:=hF;rw[DT H T,hov,bm Z,vA,vB]at Q;refine J Y<|Aj<|Ar Y Y (⟨N l2 l3',Y,Q⟩)
end
section
open Go.Lin Go.Wd
theorem Afq{r x:Nat}(a:x<4294967296):r*4294967296 ||| x=r*4294967296+x:=by have:=Nat.shiftLeft_add_eq_or_of_lt (show x<2^32 from a) r;rw[Nat.shiftLeft_eq]at this;exact this.symm
theorem AbS(a k:Nat)(hk:k≠0)(hk2:k<4294967296)(u:Value)(h:Hp)(f:RdL Da 1 h [] u (dW a))(B:(dW a).length<=1000000) :
  FnT prog 189 #[u,.int .u64 (k:Int)] h [] (λr g c=>h.le g/\c=[]/\∃q,r=.tuple #[q,.int .u64 ((a%k:Nat):Int)]/\RdL Da 1 g [] q (dW (a/k))):=by
 have S:∀x,x∈dW a->x<4294967296:=FG H a;have vA:=Fg a;revert f S vA;generalize dW a=A at B;intro f S vA;obtain⟨n,hn⟩:∃n,A.length=n:=⟨_,Y⟩
 refine Au func189 ntmps189 Y Y<|λ_ _=>U<|D Y Y<|BF<|G Y<|E (Aw f.rd.any Y Cr Y) Y<|FE (n:=A.length) Y Cr Cs Y Y Y ξ ξ Z Z Y Y Y<|λd=>G Y<|BF<|J Y<|X<|U<|G Y<|E (Aw f.rd.any Y Cr Y) Y<|E (oS Y) Y<|J Y<|Ag ?_;refine AC (λq sl g c=>∃(i r:Nat) (T:Hp) (o:List Nat),i=q/\sl=[(0,u),(1,.int .u64 (k:Int)),(6,.slice (some ⟨d,0,none⟩) A.length A.length),(7,.int .u64 (r:Int)),(8,.w ((i:Int)-1))]/\h=g/\c=[T]/\i<=A.length/\OwnL Da 1 117 T (.slice (some ⟨d,0,none⟩) A.length A.length) o/\o.length=A.length/\(∀x,x∈o->x<4294967296)/\r<k/\val 4294967296 (o.drop i)*k+r=val 4294967296 (A.drop i)) A.length _ ⟨A.length,0,_,replicate A.length 0,Y,Y,Y,Y,Z,OwnL.repW _ Z,by simp,by intro a B;rw[(kj.1 B).2];decide,Z,by rw[jg σ,jg Z];simp[val]⟩ Qs ?_;rintro q sl g c ⟨i,r,T,o,rfl,rfl,rfl,rfl,hi,hO,M,p,O,b⟩;refine X<|U<|G Y<|J Y<|Ay Y (λL=>?_)<|λL=>?_
 .obtain⟨j,rfl⟩:∃j,i=j+1:=⟨i-1,Z⟩
  have hj:j<A.length:=Z
  obtain⟨x,Q⟩:∃x,A.getD j 0=x:=⟨_,Y⟩
  have t:x<4294967296:=by rw[<-Q];exact GY S j
  have cA:=rdW f hj;rw[Q]at cA;have e:=V9 (b:=4294967296) H hk (show j<o.length by omega) b;rw[Q]at e;have m:=AaP (b:=4294967296) O t;obtain⟨s,hs⟩:∃s,r*4294967296+x=s:=⟨_,Y⟩
  rw[hs]at e m
  have v:((r*2^32%18446744073709551616:Nat):Int)=((r*4294967296:Nat):Int):=by rw[show(2:Nat)^32=4294967296 from Y,dv Z]
  have y:((r*4294967296 ||| x:Nat):Int)=(s:Int):=by rw[Afq t,hs]
  refine I<|X<|Ag<|U<|G Y<|E (XO (a:=r) v Y Y Y Z) Y<|D Y Y<|E (BP (j) f.rd.any Y Cr Cs Y Y) Y<|Ql Y FM (cA _)<|E (Adw y Y Y Y Z Z) Y<|J Y<|AS (n:=11) (bs:=[W,W,W,W,W,W,W,W,W,lw,lw]) [W,W,W,W,W,W,W,W,W] Cx V V Y Y<|Qq Y<|Qq Y<|Qq Y<|Qq Y<|Qp Y (QQ (a:=s) (b:=k) Y Y Y Z Z)<|Qq Y<|Qq Y<|Qp Y (QK (a:=s) (b:=k) Y Y Y Z)<|Qp Y (Cm (j) Y Cr Cs Y Y Z Z)<|Qo 9 Y<|Db (f:=λn:Nat=>Value.int .u64 (n:Int)) (a:=s/k) 0 j (λ_=>rfl) hO Y Cs Y Y Y Y Z Y Y<|λm' z=>Qw<|Qo 10 Y<|G Y<|Qw<|Qe<|D2<|Ad<|G Y<|E (oS Y) Y<|G Y<|Am ?_;exact Aq j [(0,u),(1,.int .u64 (k:Int)),(6,.slice (some ⟨d,0,none⟩) A.length A.length),(7,.int .u64 ((s%k:Nat):Int)),(8,.w (((j+1:Nat):Int)-1-1))] Z ⟨j,s%k,m',_,Y,by rw[show((j+1:Nat):Int)-1-1=(j:Int)-1 by omega],Y,Y,Z,z,by rw[fh];exact M,V6 p m,f6 _ Z,e⟩ Qs
 .have K:i=0:=Z
  subst K;rw[js,js,vA]at b
  have hq:val 4294967296 o=a/k:=by rw[<-b,ij,Nat.add_mul_div_right _ _ Z,gc O,ig]
  have P:r=a%k:=by rw[<-b,ij,Nat.add_mul_mod_self_right,dv O]
  refine C<|Ab<|CQ hO λh2 l2 hR=>U<|G Y<|Qc call165 Y (H4 o _ h2 hR Z)<|λr h3 ms3 l3 hF=>?_;obtain⟨R,rfl,l⟩:=hF;rw[DT H p,hq]at l;refine D Y Y<|J Y<|Aj ?_;exact Cw Y Y Y (⟨N l2 R,Y,_,by rw[<-P],l⟩)
theorem Afm(h:Hp)(a:List Hp):RdL Da 1 h a (.slice none 0 0) []:=⟨⟨⟨none,0,rfl,ak _,by decide,rfl,λh=>lj h H⟩⟩,IW⟩
theorem Rz{k:Nat}(b:k≠0)(a:k<4294967296):dW k=[k]:=Abx H b a
theorem Afv(a k:Nat)(t:k≠0)(c:k<4294967296)(l g:Value)(h:Hp)(j:RdL Da 1 h [] l (dW a))(p:RdL Da 1 h [] g (dW k))(P:(dW a).length<=1000000) :
  FnT prog 152 #[l,g] h [] (λr n y=>h.le n/\y=[]/\∃q u,r=.tuple #[q,u]/\RdL Da 1 n [] q (dW (a/k))/\RdL Da 1 n [] u (dW (a%k))):=by
 have d:RdL Da 1 h [] g [k]:=by rw[<-Rz t c];exact p
 have L:Rd h [] g 1 1 ([k].flatMap Da):=d.rd;have cB:=λS=>(d.any (ms:=S)).cell0 (j:=0) σ rfl;have oa:=j.rd.one;have ob:=p.rd.one;refine Au func152 ntmps152 Y Y<|λ_ _=>U<|G Y<|J Y<|X<|U<|D Y Y<|E (As Y call188 Y<|D9 (Xh a k Z (by rw[Rz t c];simp) l g h j p) _) rfl ?_;refine J Y<|Ay Y (λi=>?_)<|λi=>?_
 .have e:a<k:=by
   unfold SR at i;rcases ii a k with h|h
   .exact h
   .rw[af Z]at i;split at i<;>omega
  refine U<|D Y Y<|J Y<|Aj<|Ae ?_;exact Cw Y Y Y (⟨Bk,Y,_,_,Y,by rw[gc e];exact Afm _ _,by rw[dv e];exact j⟩)
 .refine I<|X<|U<|G Y<|E (Aw L.any Y Cr Y) Y<|J Y<|Ay Y (λz=>?_)<|λz=>?_
  .refine X<|Ad<|D Y Y<|E (AR 0 L.any Y Cr Cs Y Y Y Z) Y<|Ql Y FM (cB _)<|Qc call189 Y (AbS a k t c l h j P)<|λr h3 T l3 s=>?_;obtain⟨v,rfl,q,rfl,B⟩:=s;have oq:=B.rd.one;refine D Y Y<|D Y Y<|G Y<|BF<|D Y Y<|AB [_] Y Cr Cs Y ξ Y Y Z Y Y Y<|λm=>Bm λA K O=>?_;have M:RdL Da 1 A [] (.slice (some ⟨m,0,none⟩) 1 1) [a%k]:=⟨⟨⟨_,_,Y,ak _,by decide,Y,λ_=>⟨_,Y,O⟩⟩⟩,IW⟩
   refine Qc call165 Y (H4 [a%k] _ A M σ)<|λr h5 ms5 l5 s=>?_;obtain⟨f,rfl,b⟩:=s;have hm:=f6 a (show 0<k by omega);rw[DT (b:=4294967296) H (by intro x R;rw[bj.1 R];omega),show val 4294967296 [a%k]=a%k from gz _]at b;have or_:=b.rd.one;refine G Y<|J Y<|Aj<|Ae<|Cw Y Y Y (⟨N v<|N K f,Y,_,_,Y,(B.up K).up f,b⟩)
  .exact lj H z
def Sz(n:Int):Prop:=(Ba n.natAbs).length<=400000
theorem Ah8(n:Nat):(dW n).length<=(Ba n).length:=by rw[FA,Cp H];have a:=(Cp (b:=256) H (dg 256 n).length n).1 (ak _);exact b7 a<|Nat.pow_le_pow_left H _
theorem Sz.w{n:Int}(h:Sz n):(dW n.natAbs).length<=400000:=bl (Ah8 _) h
theorem Gz(n:Int)(c:Sz n)(h:Hp):FnT prog 114 #[WD n] h [] (λr b a=>h.le b/\a=[]/\RdL Da 1 b [] r (dW n.natAbs)):=
 Agh n.natAbs _ (bl c H) h
theorem ES(n:Nat)(neg:Bool)(x:Int)(v:Value)(e:x.natAbs=n)(d:n≠0->neg=decide (x<0))(h:Hp)(R:RdL Da 1 h [] v (dW n))(c:(dW n).length<=1000000) :
  FnT prog 145 #[v,.bool neg] h [] (λr b a=>h.le b/\a=[]/\r=WD x):=
 (X7 (dW n) neg v n (Fg n) (FG H n) h R c).mono λ_ _ _ q=>⟨q.1,q.2.1,by rw[q.2.2];exact AfR e d⟩
theorem AgS(a:Int)(l:Sz a)(h:Hp):FnT prog 231 #[WD a] h [] (λr t f=>h.le t/\f=[]/\r=WD (-a)):=by have g:=AA (Ba a.natAbs);refine Au func231 ntmps231 Y Y<|λ_ _=>U<|AK [_,_] Y Y ξ Y Y Y<|λp=>BJ [.bool false,.string ByteArray.empty] Y Av Y Y<|λK=>Ao<|Ak 1 Y λj z k=>?_;have s:=qS k;have n:∀m,Cell j m ((⟨p,0,none⟩:Addr).add 0) (.bool (decide (a<0))):=λm=>(k 0 _ Y).any;have i:=AA (Ba (-a).natAbs);refine X<|AS (n:=7) (bs:=[true,false,true,true,true,false,false]) [true,false,true,true,true] Cx V V Y Y<|Qp Y (oG Y Bn Av<|s _)<|QF DI Y<|QL Y U4 (n _)<|Qq Y<|Qo 1 Y<|Qc call114 Y (Gz a l j)<|λu v A O b=>?_;obtain⟨d,rfl,x⟩:=b;refine Qa<|Qo 5 Y ?_;refine Qc call145 Y (ES a.natAbs _ (-a) u Z (λL=>by by_cases q:a<0<;>simp[q]<;>omega) v x<|bl l.w H)<|λr M B P b=>?_;obtain⟨e,rfl,rfl⟩:=b;have c:=N d e;refine Qa<|Qo 6 Y ?_;refine Sa 0 [_,_] Av Y (by simp[g,i]) ?_;refine Qa<|Qe<|Ab<|Aj<|BC (vs:=[_,_]) 0 Y Y Bn Y Av Y Y (⟨N z c,Y,Y⟩)
theorem J2(n:Int)(b:Sz n)(h:Hp)(a:List Hp):FnV prog 231 #[WD n] h a (WD (-n)):=D9 ((AgS n b h).mono λ_ _ _ h=>h.2.2) a
theorem Ag7(a b:Int)(s:Sz a)(x:Sz b)(h:Hp):FnT prog 141 #[WD a,WD b] h [] (λr h' Q=>h.le h'/\Q=[]/\r=WD (a*b)):=by
 have R:=AA (Ba a.natAbs);have S:=AA (Ba b.natAbs);have T:=AA (Ba (a*b).natAbs)
 have y:(dW (a.natAbs*b.natAbs)).length<=1000000:=by have n:=Ob (b:=4294967296) H a.natAbs b.natAbs;have d:(dg 4294967296 a.natAbs).length<=400000:=s.w;have h3:(dg 4294967296 b.natAbs).length<=400000:=x.w;show(dg 4294967296 _).length<=_;omega
 have z:a.natAbs*b.natAbs≠0->decide (decide (a<0)≠decide (b<0))=decide (a*b<0):=λh0=>by
  have n:a≠0:=by rintro rfl;simp at h0
  have d:b≠0:=by rintro rfl;simp at h0
  rcases Int.lt_or_lt_of_ne n with p|p<;>rcases Int.lt_or_lt_of_ne d with q|q
  .have:=Int.mul_pos_of_neg_of_neg p q;simp[p,q];omega
  .have:=Int.mul_neg_of_neg_of_pos p q;simp[p,this];omega
  .have:=Int.mul_neg_of_pos_of_neg p q;simp[q,this];omega
  .have:=Int.mul_pos p q;have e1:¬a<0:=Z
   have j:¬b<0:=Z
   have k:¬a*b<0:=Z
   simp[e1,j,k]
 refine Au func141 ntmps141 Y Y<|λ_ _=>U<|AK [_,_] Y Y ξ Y Y Y<|λg2=>AK [_,_] Y Y ξ Y Y Y<|λg3=>BJ [.bool false,.es] Y Av Y Y<|λg4=>Ao<|Ak 1 Y λn l1 g=>Ak 1 Y λd A f=>?_;have l:=qS f;have m:∀c,Seg d c (⟨g3,0,none⟩:Addr) [.bool (decide (b<0)),sv (Ba b.natAbs)]:=λc=>(g.le A).any;have j:∀c,Cell d c ((⟨g2,0,none⟩:Addr).add 0) (.bool (decide (a<0))):=λc=>(f 0 _ Y).any;have k:∀c,Cell d c ((⟨g3,0,none⟩:Addr).add 0) (.bool (decide (b<0))):=λc=>((g.le A) 0 _ Y).any;refine X<|AS (n:=12) (bs:=[W,lw,W,lw,lw,W,W,W,W,W,lw,lw]) [W,lw,W,lw,lw,W,W,W,W,W] Cx V V Y Y<|Qp Y (oG Y Bn Av<|l _)<|Qp Y (oG Y Bn Av<|m _)<|QF DI Y<|QL Y U4 (j _)<|QF DI Y<|QL Y U4 (k _)<|Qp Y (I6 Y U4 Y Y)<|Qo 1 Y<|Qc call114 Y (Gz a s d)<|λu h3 ms3 l3 e=>?_;obtain⟨M,rfl,hA⟩:=e;refine Qa<|Qo 3 Y<|Qc call114 Y (Gz b x h3)<|λv h4 ms4 l4 e=>?_;obtain⟨i,rfl,hB⟩:=e;have B:=N M i;refine Qa<|Qo 4 Y<|Qc call175 Y (Ae3 a.natAbs b.natAbs u v h4 (hA.up i) hB (bl s.w H)<|bl x.w H)<|λt h5 ms5 l5 e=>?_;obtain⟨O,rfl,hC⟩:=e;have K:=N B O;refine Qa<|Qo 10 Y<|Qc call145 Y (ES _ _ (a*b) t (jv a b) z h5 hC y)<|λr h6 ms6 l6 e=>?_;obtain⟨P,rfl,rfl⟩:=e;have L:=N K P;refine Qa<|Qo 11 Y ?_;refine Sa 0 [_,_] Av Y (by simp[R,S,T]) ?_;refine Qa<|Qe<|Ab<|Aj<|BC (vs:=[_,_]) 0 Y Y Bn Y Av Y Y (⟨N l1<|N A L,Y,Y⟩)
theorem IV(a b:Int)(d:Sz a)(e:Sz b)(h:Hp)(c:List Hp):FnV prog 141 #[WD a,WD b] h c (WD (a*b)):=D9 ((Ag7 a b d e h).mono λ_ _ _ h=>h.2.2) c
theorem Ahq(a b:Int)(ha:Sz a)(hb:Sz b)(h:Hp):FnT prog 156 #[WD a,WD b] h [] (λr h' ms'=>h.le h'/\ms'=[]/\r=WD (a+b)):=by
 have y:=AA (Ba a.natAbs);have z:=AA (Ba b.natAbs);have A:=AA (Ba (a+b).natAbs);refine Au func156 ntmps156 Y Y<|λ_ _=>U<|AK [_,_] Y Y ξ Y Y Y<|λg2=>AK [_,_] Y Y ξ Y Y Y<|λg3=>BJ [.bool false,.es] Y Av Y Y<|λg4=>Ao<|Ak 1 Y λh1 l1 O=>Ak 1 Y λh2 P M=>?_;have gS2:=qS M;have gS3:∀m,Seg h2 m (⟨g3,0,none⟩:Addr) [.bool (decide (b<0)),sv (Ba b.natAbs)]:=λm=>(O.le P).any;refine X<|AS (n:=6) (bs:=[W,lw,W,lw,lw,lw]) [W,lw,W] Cx V V Y Y<|Qp Y (oG Y Bn Av<|gS2 _)<|Qp Y (oG Y Bn Av<|gS3 _)<|Qo 1 Y<|Qc call114 Y (Gz a ha h2)<|λu h3 ms3 l3 c=>?_;obtain⟨l3',rfl,hA⟩:=c;refine Qa<|Qo 3 Y<|Qc call114 Y (Gz b hb h3)<|λv p ms4 l4 c=>?_;obtain⟨Q,rfl,K⟩:=c;have e:=N l3' Q;refine Qa<|Qo 4 Y<|G Y<|Qa<|Qo 5 Y<|G Y<|Qa<|Qe ?_;have g:=hA.up Q;have oa:=g.rd.one;have ob:=K.rd.one;have T:∀m,Cell p m ((⟨g2,0,none⟩:Addr).add 0) (.bool (decide (a<0))):=λm=>((M 0 _ Y).any).le e;have e3:∀m,Cell p m ((⟨g3,0,none⟩:Addr).add 0) (.bool (decide (b<0))):=λm=>(((O.le P) 0 _ Y).any).le e;have k:=ha.w;have l:=hb.w
 have x:∀n,n<=a.natAbs+b.natAbs->(dW n).length<=1000000:=λn hn=>by have h1:=Er (b:=4294967296) H hn;have h2:=OO (b:=4294967296) H a.natAbs b.natAbs;have h3:(dg 4294967296 a.natAbs).length<=400000:=k;have p:(dg 4294967296 b.natAbs).length<=400000:=l;show(dg 4294967296 _).length<=_;omega
 refine Ab<|X<|Ag<|U<|Qf DI Y<|Ql Y U4 (T _)<|Qf DI Y<|Ql Y U4 (e3 _)<|E (Nt Y U4 Y Y) Y<|J Y<|Ay Y (λhs=>?_)<|λhs=>?_
 .have d:(a<0)=(b<0):=by simpa using hs
  refine X<|AS (n:=7) (bs:=[W,W,lw,W,W,lw,lw]) [W,W,lw,W,W] Cx V V Y Y<|Qq Y<|Qq Y<|QF DI Y<|QL Y U4 (T _)<|Qo 2 Y<|Qc call153 Y (YR a.natAbs b.natAbs u v p g K (bl k H)<|bl l H)<|λt B R l5 c=>?_;obtain⟨f,rfl,L⟩:=c;have l25:=N e f;refine Qa<|Qo 5 Y ?_;refine Qc call145 Y (ES _ _ (a+b) t (by by_cases q:a<0<;>simp[q]at d<;>omega) (λh0=>by by_cases q:a<0<;>simp[q]at d ⊢<;>omega) B L<|x _<|ak _)<|λr h6 S l6 c=>?_;obtain⟨j,rfl,rfl⟩:=c;have i:=N f j;refine Qa<|Qo 6 Y ?_;refine Sa 0 [_,_] Av Y (by simp[y,z,A,oa,ob]) ?_;refine Qa<|Qe<|Ab<|Aj<|An<|Ae<|BC (vs:=[_,_]) 0 Y Y Bn Y Av Y Y (⟨N l1<|N P<|N e i,Y,Y⟩)
 .have d:¬(a<0<->b<0):=λq=>hs (by simpa using q);refine U<|D Y Y<|E (As Y call188 Y<|D9 (Xh a.natAbs b.natAbs (bl k H) (bl l H) u v p g K) _) Y<|G Y<|J Y<|Ay Y (λs=>?_)<|λs=>?_
  .have hlt:a.natAbs<b.natAbs:=by
    unfold SR at s;rcases ii a.natAbs b.natAbs with h|h
    .exact h
    .rw[af Z]at s;split at s<;>omega
   refine X<|AS (n:=7) (bs:=[W,W,lw,W,W,lw,lw]) [W,W,lw,W,W] Cx V V Y Y<|Qq Y<|Qq Y<|QF DI Y<|QL Y U4 (e3 _)<|Qo 2 Y<|Qc call154 Y (Q8 b.natAbs a.natAbs Z v u p K g<|bl l H)<|λt B R l5 c=>?_;obtain⟨f,rfl,L⟩:=c;refine Qa<|Qo 5 Y ?_;refine Qc call145 Y (ES _ _ (a+b) t (by by_cases q:a<0<;>simp[q]at d<;>omega) (λh0=>by by_cases q:a<0<;>simp[q]at d ⊢<;>omega) B L<|x _ Z)<|λr h6 S l6 c=>?_;obtain⟨j,rfl,rfl⟩:=c;have i:=N f j;refine Qa<|Qo 6 Y ?_;refine Sa 0 [_,_] Av Y (by simp[y,z,A,oa,ob]) ?_;refine Qa<|Qe<|Ab<|Aj<|An<|Ae<|BC (vs:=[_,_]) 0 Y Y Bn Y Av Y Y (⟨N l1<|N P<|N e i,Y,Y⟩)
  .have hge:b.natAbs<=a.natAbs:=by
    unfold SR at s;rcases ii a.natAbs b.natAbs with h|h
    .rw[ah h]at s;exact lj H s
    .exact h
   refine Ah<|D2<|X<|AS (n:=7) (bs:=[W,W,lw,W,W,lw,lw]) [W,W,lw,W,W] Cx V V Y Y<|Qq Y<|Qq Y<|QF DI Y<|QL Y U4 (T _)<|Qo 2 Y<|Qc call154 Y (Q8 a.natAbs b.natAbs hge u v p g K<|bl k H)<|λt B R l5 c=>?_;obtain⟨f,rfl,L⟩:=c;refine Qa<|Qo 5 Y ?_;refine Qc call145 Y (ES _ _ (a+b) t (by by_cases q:a<0<;>simp[q]at d<;>omega) (λh0=>by by_cases q:a<0<;>simp[q]at d ⊢<;>omega) B L<|x _ Z)<|λr h6 S l6 c=>?_;obtain⟨j,rfl,rfl⟩:=c;have i:=N f j;refine Qa<|Qo 6 Y ?_;refine Sa 0 [_,_] Av Y (by simp[y,z,A,oa,ob]) ?_;refine Qa<|Qe<|Ab<|Aj<|BC (vs:=[_,_]) 0 Y Y Bn Y Av Y Y (⟨N l1<|N P<|N e i,Y,Y⟩)
theorem Nz(a b:Int)(d:Sz a)(e:Sz b)(h:Hp)(c:List Hp):FnV prog 156 #[WD a,WD b] h c (WD (a+b)):=D9 ((Ahq a b d e h).mono λ_ _ _ h=>h.2.2) c
variable {a:Int}
theorem Sz.neg(h:Sz a):Sz (-a):=by unfold Sz;rw[Int.natAbs_neg];exact h
theorem Ags(a b:Int)(u:Sz a)(l:Sz b)(h:Hp):FnT prog 268 #[WD a,WD b] h [] (λr s g=>h.le s/\g=[]/\r=WD (a-b)):=by have i:=AA (Ba a.natAbs);have j:=AA (Ba b.natAbs);have k:=AA (Ba (a+-b).natAbs);refine Au func268 ntmps268 Y Y<|λ_ _=>U<|AK [_,_] Y Y ξ Y Y Y<|λy=>AK [_,_] Y Y ξ Y Y Y<|λp=>BJ [.bool false,.string ByteArray.empty] Y Av Y Y<|λz=>Ao<|Ak 1 Y λA x f=>Ak 1 Y λt m e=>?_;have c:=qS e;have d:∀n,Seg t n (⟨p,0,none⟩:Addr) [.bool (decide (b<0)),sv (Ba b.natAbs)]:=λn=>(f.le m).any;refine X<|AS (n:=5) (bs:=[true,true,true,true,false]) [true,true,true,true] Cx V V Y Y<|Qp Y (oG Y Bn Av<|c _)<|Qp Y (oG Y Bn Av<|d _)<|Qp Y (As Y call231 Y<|J2 b l _ _)<|Qp Y (As Y call156 Y<|Nz a (-b) u l.neg _ _)<|Qo 4 Y ?_;refine Sa 0 [_,_] Av Y (by simp[i,j,k]) ?_;refine Qw<|Qe<|Ab<|Aj<|BC (vs:=[_,_]) 0 Y Y Bn Y Av Y Y (⟨N x m,Y,Y⟩)
theorem AfV(a b:Int)(d:Sz a)(e:Sz b)(h:Hp)(c:List Hp):FnV prog 268 #[WD a,WD b] h c (WD (a-b)):=D9 ((Ags a b d e h).mono λ_ _ _ h=>h.2.2) c
theorem AfC(a:Int)(s:Sz a)(h:Hp):FnT prog 60 #[WD a] h [] (λr _ _=>r=.int .i64 a.sign):=by
 have x:=AA (Ba a.natAbs);refine Au func60 ntmps60 Y Y<|λ_ _=>U<|AK [_,_] Y Y ξ Y Y Y<|λi=>J Y<|X<|Ag<|Ak 0 Y λl y c=>?_;have j:=qS c;refine U<|E (oG Y Bn Av<|j _) Y<|Qc call114 Y (Gz a s l)<|λu m v z p=>?_;obtain⟨b,rfl,n⟩:=p;have g:∀f,Cell m f ((⟨i,0,none⟩:Addr).add 0) (.bool (decide (a<0))):=λf=>((c 0 _ Y).any).le b;refine E (Aw n.rd.any Y Cr Y) Y<|G Y<|J Y<|Ay Y (λe=>?_)<|λe=>?_
 .have k:a.natAbs=0:=(H9 (b:=4294967296) H).1 (dw (show(dW a.natAbs).length=0 by omega));obtain rfl:a=0:=Z
  refine U<|J Y<|Aj<|An<|Ae<|Ar Y Y<|Y
 .have k:a≠0:=by rintro rfl;exact e Y
  refine U<|Qf DI Y<|Ql Y U4 (g _)<|J Y<|Ay Y (λd=>?_)<|λd=>?_
  .refine X<|Ad<|J Y<|Aj<|An<|Ae ?_;exact Ar Y Y (by rw[Int.sign_eq_neg_one_of_neg d])
  .refine Ah<|D2<|U<|J Y<|Aj ?_;exact Ar Y Y (by rw[Int.sign_eq_one_of_pos Z])
theorem Df(a:Int)(c:Sz a)(h:Hp)(b:List Hp):FnV prog 60 #[WD a] h b (.int .i64 a.sign):=D9 (AfC a c h) b
theorem AaO{m k:Nat}(d:0<k)(g:a.natAbs=m) :
  (a/(k:Int)=if a<0 then(if m%k=0 then -((m/k:Nat):Int) else -((m/k+1:Nat):Int)) else((m/k:Nat):Int))/\a%(k:Int)=if a<0/\m%k≠0 then((k-m%k:Nat):Int) else((m%k:Nat):Int):=by
 have e:=jf m k;have h:=f6 m d;generalize m%k=r at *;generalize i:m/k=q at *;have f:(r:Int)+(k:Int)*(q:Int)=(m:Int):=by exact_mod_cast e
 by_cases b:a<0
 .rw[ah b];by_cases c:r=0
  .subst c;rw[ah rfl,af σ];exact(Int.ediv_emod_unique Z).2 ⟨by rw[Int.mul_neg];omega,Z,Z⟩
  .rw[af c,ah ⟨b,c⟩];exact(Int.ediv_emod_unique Z).2 ⟨by rw[Int.mul_neg,Int.natCast_add,jj];omega,Z,Z⟩
 .rw[af b,af (by simp[b])];exact(Int.ediv_emod_unique Z).2 ⟨Z,Z,Z⟩
theorem OF{b:Int}{m k:Nat}(e:b≠0)(l:a.natAbs=m)(s:b.natAbs=k) :
  ((a/b).natAbs=if a<0/\m%k≠0 then m/k+1 else m/k)/\((a/b)≠0->decide (decide (a<0)≠decide (b<0))=decide (a/b<0))/\(a%b).natAbs=(if a<0/\m%k≠0 then k-m%k else m%k)/\0<=a%b:=by
 have d:0<k:=Z
 obtain⟨i,j⟩:=AaO d l;have g:0<=a%b:=Int.emod_nonneg a e
 have f:a%b=a%(k:Int):=by
  rcases Int.lt_or_lt_of_ne e with q|q
  .rw[show b=-(k:Int) by omega,Int.emod_neg]
  .rw[show b=(k:Int) by omega]
 have c:a/b=if b<0 then -(a/(k:Int)) else a/(k:Int):=by
  rcases Int.lt_or_lt_of_ne e with q|q
  .rw[ah q,show b=-(k:Int) by omega,Int.ediv_neg]
  .rw[af Z,show b=(k:Int) by omega]
 have n:=f6 m d;generalize m%k=R at *;generalize m/k=Q at *;refine⟨?_,λh=>?_,?_,g⟩
 .rw[c,i];by_cases p:a<0<;>by_cases r:R=0<;>by_cases q:b<0<;>simp[p,q,r]<;>omega
 .rw[c,i]at h ⊢;by_cases p:a<0<;>by_cases r:R=0<;>by_cases q:b<0<;>simp[p,q,r]at h ⊢<;>omega
 .rw[f,j];by_cases p:a<0<;>by_cases r:R=0<;>simp[p,r]
theorem Agx(a b:Int)(ha:Sz a)(hb:b≠0)(hb2:b.natAbs<4294967296)(h:Hp) :
  FnT prog 100 #[WD a,WD b] h [] (λr K B=>h.le K/\B=[]/\r=.tuple #[WD (a/b),WD (a%b),.bool true]):=by
 have osa:=AA (Ba a.natAbs);have osb:=AA (Ba b.natAbs);have osq:=AA (Ba (a/b).natAbs);have osr:=AA (Ba (a%b).natAbs);obtain⟨m,hm⟩:∃m,a.natAbs=m:=⟨_,Y⟩
 obtain⟨k,hk⟩:∃k,b.natAbs=k:=⟨_,Y⟩
 obtain⟨c,hd2,d,hd4⟩:=OF hb hm hk;have z:k≠0:=Z
 have hSb:Sz b:=by show(Ba b.natAbs).length<=400000;rw[FA,hk];have:=(Cp (b:=256) H 4 k).2 (by rw[<-hk];exact hb2);omega
 have t:=ha.w;refine Au func100 ntmps100 Y Y<|λ_ _=>U<|AK [_,_] Y Y ξ Y Y Y<|λg2=>AK [_,_] Y Y ξ Y Y Y<|λg3=>BJ [.bool false,.es] Y Av Y Y<|λg4=>BJ [.bool false,.es] Y Av Y Y<|λg5=>J Y<|Ak 2 Y λh1 l1 Q=>Ak 2 Y λh2 l2 P=>?_;have gS2:=qS P;have gS3:∀l,Seg h2 l (⟨g3,0,none⟩:Addr) [.bool (decide (b<0)),sv (Ba b.natAbs)]:=λl=>(Q.le l2).any;refine X<|AS (n:=6) (bs:=[W,lw,W,lw,lw,lw]) [W,lw,W] Cx V V Y Y<|Qp Y (oG Y Bn Av<|gS2 _)<|Qp Y (oG Y Bn Av<|gS3 _)<|Qo 1 Y<|Qc call114 Y (Gz a ha h2)<|λu p ms3 l3 e=>?_;obtain⟨l3',rfl,hA⟩:=e;rw[hm]at hA;refine Qa<|Qo 3 Y<|Qc call114 Y (Gz b hSb p)<|λv h4 ms4 l4 e=>?_;obtain⟨l4',rfl,M⟩:=e;rw[hk]at M;have l24:=N l3' l4';refine Qa<|Qo 4 Y<|G Y<|Qa<|Qo 5 Y<|G Y<|Qa<|Qe ?_;rw[hm]at t;have L:=hA.up l4';have rB:Rd h4 [] v 1 (dW k).length ((dW k).flatMap Da):=M.rd;have oa:=L.rd.one;have ob:=M.rd.one;refine Ab<|X<|U<|G Y<|E (Aw rB.any Y Cr Y) Y<|J Y<|Ay Y (λhz=>?_)<|λhz=>?_
 .exact lj ((H9 (b:=4294967296) H).1<|dw (show(dW k).length=0 by omega)) z
 .refine I<|U<|D Y Y<|Qc call152 Y (Afv m k z Z u v h4 L M<|bl t H)<|λr h5 ms5 l5 e=>?_;obtain⟨l5',rfl,q,w,rfl,hQ,R⟩:=e;have oq:=hQ.rd.one;have ou:=R.rd.one;have hB5:=M.up l5';have A:=N l24 l5';have e2:∀l,Cell h5 l ((⟨g2,0,none⟩:Addr).add 0) (.bool (decide (a<0))):=λl=>((P 0 _ Y).any).le A;have e3:∀l,Cell h5 l ((⟨g3,0,none⟩:Addr).add 0) (.bool (decide (b<0))):=λl=>((Q.le l2) 0 _ Y).any.le A;have T:(dW (m/k)).length<=400000:=bl (Er (b:=4294967296) H (jq m k)) t;have hk4:k<4294967296:=Z
  have hmm:m%k<k:=f6 _ Z;refine D Y Y<|D Y Y<|J Y<|Bu (λsl K B=>∃(q' u':Value),sl=[(2,.pt g2),(3,.pt g3),(4,.pt g4),(5,.pt g5),(9,q'),(10,u')]/\h5.le K/\B=[BE g5 33 [.bool false,.es],BE g4 33 [.bool false,.es]]/\RdL Da 1 K [] q' (dW (a/b).natAbs)/\RdL Da 1 K [] u' (dW (a%b).natAbs)) ?_<|λs h l hI=>?_
  .refine X<|Ad<|Qf DI Y<|Ql Y U4 (e2 _)<|G Y<|AY (t:=28) Y (λg=>?_)<|λg=>?_
   .refine Qg (Ap Y Y) Y<|Qg (Aw R.rd.any Y Cr Y) Y<|Qg (CE Y Y Y) Y<|J Y<|Ay Y (λp=>?_)<|λp=>?_
    .have i:m%k≠0:=by intro i;rw[i]at p;exact lj p H
     rw[ah ⟨g,i⟩]at c d;refine Ad<|G Y<|AB [_] Y Cr Cs Y ξ Y Y Z Y Y Y<|λg34=>Bm λh6 n hS1=>?_;have hR1:RdL Da 1 h6 [] (.slice (some ⟨g34,0,none⟩) 1 1) (dW 1):=⟨⟨⟨_,_,Y,ak _,by decide,Y,λ_=>⟨_,Y,hS1⟩⟩⟩,IW⟩
     refine Qc call153 Y (YR (m/k) 1 q _ h6 (hQ.up n) hR1 (bl T H) H)<|λx h7 ms7 l7 e=>?_;obtain⟨f,rfl,hX⟩:=e;have ox:=hX.rd.one;refine D Y Y ?_;refine Qc call154 Y (Q8 k (m%k) Z v w h7 ((hB5.up n).up f) ((R.up n).up f) (by rw[Rz z hk4];simp))<|λy h8 ms8 l8 e=>?_;obtain⟨j,rfl,hY⟩:=e;refine D Y Y<|Am ?_;exact AI _ ⟨x,y,Y,N n (N f j),Y,by rw[c];exact hX.up j,by rw[d];exact hY⟩ Qs
    .have i:m%k=0:=by refine ax λi=>p ?_;rw[Rz i Z];simp
     rw[af (by simp[i])]at c d;refine Ah ?_;exact AI _ ⟨q,w,Y,Bk,Y,by rw[c];exact hQ,by rw[d];exact R⟩ Qs
   .rw[af (by simp[g])]at c d;refine DM Y Y<|Qk Y<|J Y<|AM Y<|Ah ?_;exact AI _ ⟨q,w,Y,Bk,Y,by rw[c];exact hQ,by rw[d];exact R⟩ Qs
  .obtain⟨q',u',rfl,n,rfl,O,S⟩:=hI;have oq':=O.rd.one;have ou':=S.rd.one
   have hql:(dW (a/b).natAbs).length<=1000000:=by
    have h1:(a/b).natAbs<=m/k+1:=by rw[c];split<;>omega
    have h2:=Er (b:=4294967296) H h1;have p:=OO (b:=4294967296) H (m/k) 1;have h4:(dg 4294967296 (m/k)).length<=400000:=T;have h5:(dg 4294967296 1).length<=1:=by decide
    show(dg 4294967296 _).length<=_;omega
   have hrl:(dW (a%b).natAbs).length<=1000000:=by
    have h1:(a%b).natAbs<4294967296^1:=by rw[d];split<;>omega
    have:=(Cp (b:=4294967296) H 1 _).2 h1;show(dg 4294967296 _).length<=_;omega
   refine U<|G Y<|Qf DI Y<|Ql Y U4 ((e2 _).le n)<|Qf DI Y<|Ql Y U4 ((e3 _).le n)<|E (I6 Y U4 Y Y) Y<|Qc call145 Y (ES _ _ (a/b) q' Y (λi=>hd2 Z) _ O hql)<|λx1 h7 ms7 l7 e=>?_;obtain⟨f,rfl,rfl⟩:=e;refine G Y<|Qc call145 Y (ES _ false (a%b) u' Y (λi=>(dx Z).symm) h7 (S.up f) hrl)<|λx2 h8 ms8 l8 e=>?_;obtain⟨j,rfl,rfl⟩:=e;refine Sa 1 [_,_] Av Y (by simp[osa,osb,oq',ou',osq,osr]) ?_;refine Sa 0 [_,_] Av Y (by simp[osa,osb,oq',ou',osq,osr]) ?_;refine J Y<|Aj<|Eo 1 Y<|Abp (vs:=[_,_]) (vs2:=[_,_]) Y Y Y Y Bn Y Av Y Y ⟨N l1<|N l2<|N A<|N n<|N f j,Y,Y⟩
theorem F5(a b:Int)(e:Sz a)(f:b≠0)(c:b.natAbs<4294967296)(h:Hp)(d:List Hp):FnV prog 100 #[WD a,WD b] h d (.tuple #[WD (a/b),WD (a%b),.bool true]):=D9 ((Agx a b e f c h).mono λ_ _ _ h=>h.2.2) d
end
section
open Go.Lin Go.Wd
def cU(v:Value):List Value:=[v]
theorem Hc:∀v,(cU v).length=1:=λ_=>rfl
def Bg(n:Int):List Value:=[.bool (decide (n<0)),sv (Ba n.natAbs)]
theorem FF:∀n,(Bg n).length=2:=λ_=>rfl
theorem E8:∀a:Int,∀c∈Bg a,c.oneCell'=true:=λa c b=>by unfold Bg at b;simp only[be,ia,j7]at b;rcases b with rfl|rfl<;>rfl
theorem Rl{l:List Int}{k n:Nat}(c:k<n)(d:l.length=n):(l.take k++replicate (n-k) 0).set k (l[k]'Z)=l.take (k+1)++replicate (n-(k+1)) 0:=by
 have a:(l.take k).length=k:=by rw[bf];omega
 have b:replicate (n-k) (0:Int)=0::replicate (n-(k+1)) 0:=by rw[<-List.replicate_succ];congr 1;omega
 rw[List.set_append_right _ _ Z,a,iy,b,List.set_cons_zero,ap Z,du];rfl
def UG(v:Value)(ms:List Hp)(r c:Nat)(L:List Int):Prop:=∃ev m,ms=[m]/\v=.agg #[.int .i64 r,.int .i64 c,ev]/\OwnL Bg 2 33 m ev L
theorem Us(r c:Nat)(e:r<=200)(d:c<=200)(h:Hp):FnT prog 142 #[.int .i64 r,.int .i64 c] h [] (λv _ _=>v=.bool true):=by
 refine Au func142 ntmps142 Y Y<|λ_ _=>U<|G Y<|BF<|D Y Y<|E (W4 Y Y Y) Y<|D Y Y<|AY (t:=9) Y (λa=>?_)<|λa=>?_
 .refine Qg (Ap Y Y) Y<|Qg (Ap Y Y) Y<|Qg (RO Y Y Y) Y<|Qg (W6 Y Y Y) Y<|G Y<|J Y<|Aj ?_;exact Ar Y Y (by rw[bp];omega)
 .exact lj Z a
theorem K8(r c:Nat)(e:r<=200)(d:c<=200)(h:Hp):FnT prog 89 #[.int .i64 r,.int .i64 c] h [] (λv g b=>h=g/\UG v b r c (replicate (r*c) 0)):=by have k:r*c<=40000:=fx e d;have j:(r:Int)*c=((r*c:Nat):Int):=(dz r c).symm;refine Au func89 ntmps89 Y Y<|λ_ _=>U<|BJ [.int .i64 0,.int .i64 0,.slice none 0 0] Y BQ Y Y<|λn=>Ao<|X<|U<|D Y Y<|E (As Y call142 Y<|D9 (Us r c e d h) _) Y<|J Y<|AM Y<|I<|U<|D Y Y<|D Y Y<|E (oM Y) Y<|KK FF Z (0:Int) (n:=r*c) Y CJ Av Y Y Y Z Z Z Z Y Y Y<|λf ev m a i=>?_;subst a;refine E (AQ Agj [.int .i64 0,.int .i64 0,.slice none 0 0] [(0,_),(1,_),(2,_)] [_,_,_] Y BQ Y Y Qt Y) Y ?_;refine Sa 1 [_,_,_] BQ Y (by simp[Value.oneCell']) ?_;refine Ao<|Aj<|BC (vs:=[_,_,_]) 1 Y Y Iw Y BQ Y Y (⟨Y,_,m,Y,Y,i⟩)
def Z3(f:Nat->Nat->Int)(k t a b:Nat):Int:=if a<k\/(a=k/\b<t) then f a b else 0
theorem Ac4(f:Nat->Nat->Int)(k t:Nat){r c:Nat}:Eb r c (QI (Z3 f k t) k t (f k t))=Eb r c (Z3 f k (t+1)):=by
 refine C7 λa _ b _=>?_;unfold QI Z3;by_cases h:a=k/\b=t
 .obtain⟨rfl,rfl⟩:=h;rw[ah ⟨rfl,rfl⟩,ah Z]
 .rw[af h];by_cases d:a<k\/(a=k/\b<t)
  .rw[ah d,ah Z]
  .rw[af d,af Z]
theorem AeE(f:Nat->Nat->Int)(k:Nat){r c:Nat}:Eb r c (Z3 f k c)=Eb r c (Z3 f (k+1) 0):=by
 refine C7 λa _ b e=>?_;unfold Z3;by_cases d:a<k\/(a=k/\b<c)
 .rw[ah d,ah Z]
 .rw[af d,af Z]
theorem Agt(r c:Nat)(hr0:0<r)(hr:r<=200)(hc:c<=200)(f:Nat->Nat->Int)(hb:∀i,i<r->∀j,j<c->-256<f i j/\f i j<256)(y:List Value)(lR:y.length=r)(v:Value)(h:Hp)(hv:RdL cU 1 h [] v y)(hRs:∀i,i<r->RdL cI 1 h [] (y.getD i undef) (DC c (f i))) :
  FnT prog 91 #[v] h [] (λw p d=>h.le p/\UG w d r c (Eb r c f)):=by
 have hrc:r*c<=40000:=fx hr hc;have ov:=hv.rd.one;have rv:Rd h [] v 1 r (y.flatMap cU):=by have:=hv.rd;rwa [lR]at this
 refine Au func91 ntmps91 Y Y<|λ_ _=>U<|BJ [.w 0,.w 0,.nl] Y BQ Y Y<|λP=>BF<|J Y<|X<|U<|G Y<|E (Aw rv.any Y Ks Y) Y<|J Y<|Ag ?_;refine AC (λq K p d=>∃(i:Nat),r-i=q/\K=[(0,v),(2,.pt P),(3,.w ((if i=0 then 0 else c:Nat):Int)),(11,v),(12,.w (r:Int)),(13,.w i)]/\h=p/\d=[BE P 91 [.w 0,.w 0,.nl]]/\i<=r) (r-0) _ ⟨0,Y,Y,Y,Y,Z⟩ Qs ?_;rintro q K p d ⟨i,rfl,rfl,rfl,rfl,hi⟩;refine U<|J Y<|X<|Ay Y (λM=>?_)<|λM=>?_
 .have L:i<r:=Z
  have hiR:i<y.length:=Z
  obtain⟨ri,hri⟩:∃ri,y.getD i undef=ri:=⟨_,Y⟩
  have hRi:=hRs i L;rw[hri]at hRi;have cR:∀e,Cell h e ((AJ v).add (i*1)) ri:=λe=>(hv.any (ms:=e)).cell0 hiR (by rw[<-hri];simp[List.getD,hiR,cU]);have rri:Rd h [] ri 1 c ((DC c (f i)).flatMap cI):=by have:=hRi.rd;rwa [Cc]at this
  have ori:=rri.one;refine I<|X<|Ag<|U<|E (BP (i) rv.any Y Ks Fv Y Y) Y<|Ql Y Bb (cR _)<|G Y<|HM<|D Y Y<|E (Aw rri.any Y Bb Y) Y<|E (RO Y Y Y) Y<|G Y<|Am<|D2<|Ad<|E (oA Y) Y<|G Y<|Am ?_
  have hmx:max ((if i=0 then 0 else c:Nat):Int) (c:Int)=((if i+1=0 then 0 else c:Nat):Int):=by rw[af (show ¬i+1=0 by omega)];split<;>omega
  rw[hmx];exact Aq (r-(i+1)) _ Z ⟨i+1,Y,Y,Y,Y,Z⟩ Qs
 .have L:i=r:=Z
  subst L;rw[af Z];refine C<|Ab<|U<|G Y<|E (Aw rv.any Y Ks Y) Y<|G Y<|Qc call89 Y (K8 i c hr hc h)<|λz h2 ms2 l2 hF=>?_;obtain⟨rfl,ev,m,rfl,rfl,g⟩:=hF;have oe:=g.o1;have re:Rd h [m] ev 2 (i*c) ((replicate (i*c) (0:Int)).flatMap Bg):=by have:=(g.rd (h:=h) (ms:=[m]) Mh).rd;rwa [length_replicate]at this
  refine BJ [.w 0,.w 0,.nl] Y BQ Y Y<|λg6=>?_;refine Sa 0 [_,_,_] BQ Y (by simp[ov,oe]) ?_;refine Ao<|AH λh3 l3 hS6=>?_;have e6:=qC 2 hS6 Y;have u:=qS hS6;refine X<|U<|Qf GF Y<|Ql Y CJ (e6 _)<|E (Ky re Y CJ Y) Y<|J Y<|Ay Y (λhz=>?_)<|λhz=>?_
  .have hz':i*c=0:=Z
   have hL:replicate (i*c) (0:Int)=Eb i c f:=by have h1:=Ci i c f;rw[hz']at h1;rw[hz',gu.1 h1];rfl
   rw[hL]at g;refine U<|E (oG Y Iw BQ<|u _) Y ?_;refine Sa 1 [_,_,_] BQ Y (by simp[ov,oe]) ?_;refine Ao<|Aj<|Ae<|BC (vs:=[_,_,_]) 1 Y Y Iw Y BQ Y Y (⟨l3,ev,m,Y,Y,g⟩)
  .refine I ?_;have rv3:=rv.le l3;refine X<|U<|G Y<|E (Aw rv3.any Y Ks Y) Y<|J Y<|Ag ?_
   refine AC (λq K p d=>∃(k:Nat) (n:Hp),i-k=q/\K=[(0,v),(2,.pt P),(3,.w c),(6,.pt g6),(31,v),(32,.w i),(33,.w k)]/\h3.le p/\d=[n,BE P 91 [.w 0,.w 0,.nl]]/\k<=i/\OwnL Bg 2 33 n ev (Eb i c (Z3 f k 0))) (i-0) _ ⟨0,_,Y,Y,Bk,Y,Z,by
    have:Eb i c (Z3 f 0 0)=replicate (i*c) 0:=by rw[SV];refine C7 λa _ b _=>?_;unfold Z3;rw[af Z]
    rw[this];exact g⟩ Qs ?_
   rintro q K p d ⟨k,n,rfl,rfl,R,rfl,hk,g⟩;have rv4:=rv3.le R;refine U<|J Y<|X<|Ay Y (λM=>?_)<|λM=>?_
   .have s:k<i:=Z
    have hkR:k<y.length:=Z
    obtain⟨S,hrk⟩:∃S,y.getD k undef=S:=⟨_,Y⟩
    have hRk:=hRs k s;rw[hrk]at hRk;have A:=hRk.up (N l3 R);have cR:∀e,Cell p e ((AJ v).add (k*1)) S:=λe=>((hv.any (ms:=e)).cell0 hkR (by rw[<-hrk];simp[List.getD,hkR,cU])).le (N l3 R);have O:Rd p [] S 1 c ((DC c (f k)).flatMap cI):=by have:=A.rd;rwa [Cc]at this
    have ork:=O.one;refine I<|X<|Ag<|U<|G Y<|E (BP (k) rv4.any Y Ks Fv Y Y) Y<|Ql Y Bb (cR _)<|D Y Y<|BF<|G Y<|E (Aw O.any Y Bb Y) Y<|J Y<|Ag<|AC (λq K Q d=>∃(t:Nat) (n:Hp),c-t=q/\K=[(0,v),(2,.pt P),(3,.w c),(6,.pt g6),(31,v),(32,.w i),(33,.w k),(7,.w k),(38,S),(39,.w c),(40,.w t)]/\p.le Q/\d=[n,BE P 91 [.w 0,.w 0,.nl]]/\t<=c/\OwnL Bg 2 33 n ev (Eb i c (Z3 f k t))) (c-0) _ ⟨0,n,Y,Y,Bk,Y,Z,g⟩ Qs ?_;rintro q K Q d ⟨t,n,rfl,rfl,x,rfl,ht,g⟩;have B:=N R x;refine U<|J Y<|X<|Ay Y (λhlt2=>?_)<|λhlt2=>?_
    .have l:t<c:=Z
     have htv:t<(DC c (f k)).length:=by rw[Cc];exact l
     have cX:∀e,Cell Q e ((AJ S).add (t*1)) (.w (f k t)):=λe=>((A.any (ms:=e)).cell0 htv (by simp[DC,cI])).le x;have e6:∀e,Cell Q e ((⟨g6,0,none⟩:Addr).add 2) ev:=λe=>(e6 e).le B;have hix:k*c+t<i*c:=Om s l;have hcast:(k:Int)*c=((k*c:Nat):Int):=(dz k c).symm;have reo:Rd Q [n] ev 2 (i*c) ((Eb i c (Z3 f k t)).flatMap Bg):=by have:=(g.rd (h:=Q) (ms:=[n]) Mh).rd;rwa [Ci]at this
     refine I<|X<|Ag<|U<|G Y<|E (AR (t) (O.le x).any Y Bb By Y Y Z Z) Y<|Ql Y U3 (cX _)<|G Y<|J Y<|BK 9 Cx V Y<|Wf GF Y<|Wl Y CJ (e6 _)<|Wm Y<|Wm Y<|BS (oM Y) Y Y<|Wm Y<|BS (oA Y) Y Y<|Wm Y<|BS (As Y call95 Y<|Aew (f k t) (hb k s t l) _ _) Y Y<|BB<|E (Be (k*c+t) reo Y CJ Av Y Y Z Z) Y ?_;refine EY 0 (k*c+t) (f k t) g Y Av Y Y Y (E8 _) Y (by rw[Ci];exact hix) Y Y<|λmo' T=>?_;rw[Ta _ l,Ac4]at T;refine Am<|D2<|Ad<|E (oA Y) Y<|G Y<|Am<|Aq (c-(t+1)) _ Z ⟨t+1,mo',Y,Y,x,Y,Z,T⟩ Qs
    .have l:t=c:=Z
     subst l;rw[AeE]at g;refine C<|D2<|Ad<|E (oA Y) Y<|G Y<|Am<|Aq (i-(k+1)) _ Z ⟨k+1,n,Y,Y,B,Y,Z,g⟩ Qs
   .have s:k=i:=Z
    subst s;have u:∀e,Seg p e (⟨g6,0,none⟩:Addr) [.w k,.w c,ev]:=λe=>(u e).le R;refine C<|Ab<|U<|E (oG Y Iw BQ<|u _) Y ?_;refine Sa 1 [_,_,_] BQ Y (by simp[ov,oe]) ?_;refine Ao<|Aj ?_;have hL:Eb k c (Z3 f k 0)=Eb k c f:=C7 λa ha b _=>by unfold Z3;rw[ah (.inl ha)]
    rw[hL]at g;exact BC (vs:=[_,_,_]) 1 Y Y Iw Y BQ Y Y (⟨N l3 R,ev,n,Y,Y,g⟩)
theorem NU:∀{U:List Ce},(U.map λa=>a.c.id).Nodup->∀{x:Ce},x∈U->BO (Hl U) x.c.id=some x
 | [],_,x,hx=>by cases hx
 | a::U,hn,x,hx=>by
  rw[dh,gt]at hn;unfold BO Hl;rw[dh,j8];by_cases h:a.c.id=x.c.id
  .have:a=x:=by
    rcases be.1 hx with e|e
    .exact e.symm
    .exact lj (ai.2 ⟨x,e,h.symm⟩) hn.1
   subst this;simp
  .have b:x∈U:=by
    rcases be.1 hx with e|e
    .exact lj (by rw[e]) h
    .exact e
   have:=NU hn.2 b;unfold BO Hl at this;simp only[h];simpa using this
theorem Ael(g:Nat)(U:List Ce)(cf:FuncId)(cs:List Value)(A:Cl->Bool)(h:Hp)(R:RdT h g U)(hnd:(U.map λa=>a.c.id).Nodup)(hid:∀a∈U,Cb a.c.id)(hn:U.length<=1000000)
  (hc:∀xs w,(callFunc cf xs).run prog w=.ok (.enter cf xs) w)
  (hp:∀a∈U,∀e,h.le e->∀k,FnV prog cf ([]++[Value.agg (cC a).toArray]++cs).toArray e k (.bool (A a.c))) :
  FnT prog 173 #[.pt g,.func (.func cf) #[] cs.toArray] h [] (λr e d=>h.le e/\∃v m,r=.agg #[v]/\d=[m]/\OwnL cC 3 50 m v (U.filter λa=>A a.c)):=by
 obtain⟨gm,mT,bs,b,hS,hM,lM,hV,u⟩:=R;have ovi:=hV.rd.one;have K:(U.map λa=>a.c.id).length=U.length:=by rw[bb]
 have rV:Rd h [] b 1 U.length ((U.map λa=>a.c.id).flatMap cI):=by have:=hV.rd;rwa [K]at this
 have Q:=qC 0 hS Y;have e1:=qC 1 hS Y;refine Au func173 ntmps173 Y Y<|λ_ _=>Ax<|BJ [.nl] Y Bd Y Y<|λS=>BF<|BJ [.nl] Y Bd Y Y<|λT=>Ao<|X<|Ax<|D Y Y<|Qf SL Y<|Ql Y Bb (e1 _)<|E (Aw rV.any Y Bb Y) Y<|J Y<|Ag<|BW ?_
 refine AC (λq sl e d=>∃(i:Nat) (P:Value) (O:Hp),U.length-i=q/\sl=[(0,.pt g),(1,.func (.func cf) #[] cs.toArray),(4,.pt S),(5,.pt T),(11,b),(12,.w U.length),(13,.w i)]/\h.le e/\d=[O,BE T 27 [P],BE S 27 [.nl]]/\i<=U.length/\OwnL cC 3 50 O P ((U.take i).filter λa=>A a.c))
  (U.length-0) _ ⟨0,_,Hp.emp,rfl,rfl,Bk,rfl,Z,OwnL.nil D7⟩ Qs ?_
 rintro q sl e d ⟨i,P,O,rfl,rfl,p,rfl,hi,B⟩;have Q:∀k,Cell e k ((⟨g,0,none⟩:Addr).add 0) (.map (some gm)):=λk=>(Q k).le p;have hV4:=hV.up p;have rV4:=rV.le p;have ovo:=B.o1;refine Ax<|J Y<|X<|Ay Y (λhlt=>?_)<|λhlt=>?_
 .have j:i<U.length:=Z
  obtain⟨x,hx⟩:∃x,U[i]=x:=⟨_,Y⟩
  have c:x∈U:=by rw[<-hx];exact aq j
  have M:=hid x c;have oxv:=(u x c).rd.one;have cI_:∀k,Cell e k ((AJ b).add (i*1)) (.w x.c.id):=λk=>(hV4.any (ms:=k)).cell0 (j:=i) (by rw[K];exact j) (by rw[fd,hx];rfl);have L:(BO (Hl U) x.c.id).getD default=x:=by rw[NU hnd c];rfl
  refine I<|Bu (λsl h'' d=>∃(n:Value) (l:Hp),sl=[(0,.pt g),(1,.func (.func cf) #[] cs.toArray),(4,.pt S),(5,.pt T),(11,b),(12,.w U.length),(13,.w i)]/\e=h''/\d=[l,BE T 27 [n],BE S 27 [.nl]]/\OwnL cC 3 50 l n ((U.take (i+1)).filter λa=>A a.c)) ?_<|λs h k hI=>?_
  .have htk:U.take (i+1)=U.take i++[x]:=by rw[<-hx];exact ap j
   rw[htk,jm];refine Ag<|Ax<|E (BP (i) rV4.any Y Bb By Y Y) Y<|Ql Y U3 (cI_ _)<|G Y<|BF<|D Y Y<|G Y<|Qf G3 Y<|Ql Y JM (Q _)<|G Y<|E (DX (V:=vC) (z:=(default:Ce)) (u:=x) x.c.id L BL hM (N lM p) Y JM Pr Y Y M) Y<|E (CF Y Y hc Y<|hp x c e p _) Y<|Ao<|B1 Y (λt=>?_)<|λt=>?_
   .have hf:[x].filter (λa=>A a.c)=[x]:=by simp[t]
    rw[hf];have hol:((U.take i).filter λa=>A a.c).length<=1000000:=bl (fj _ _) (by rw[bf];omega);refine AS (n:=12) (bs:=[W,lw,W,W,W,W,W,W,lw,lw,W,lw]) [W,lw,W,W,W,W,W,W,lw,lw,W] Cx κ κ Y Y<|QF Cy Y<|Qq Y<|Qq Y<|QF G3 Y<|QL Y JM (Q _)<|Qq Y<|Qp Y (DX (V:=vC) (z:=(default:Ce)) (u:=x) x.c.id L BL hM (N lM p) Y JM Pr Y Y M)<|QF Cy Y<|AO [1,8] κ Y<|Al Y ?_ ?_
    .refine Ql Y B8 (Cell.blk 1 Y Y)<|Qw<|Qo 8 Y<|AB [_,_,_] Y B8 A9 Y ξ Y Y Z Y Y Y<|λg33=>Qw<|Qo 9 Y ?_;refine Cz 1 B (RdL.one D7 (x:=x) Mh Y) Y B8 A9 Y Z Y Y Y (Hd (l:=[x]) (λy hy=>by rw[bj.1 hy];exact u x c)) (by simp only[ae];omega) (by simp only[ae];omega) rfl rfl rfl<|λv6 m6 f=>?_;have z:=f.o1;refine Qw<|Qo 11 Y<|Bl 2 0 Y AeT Y Y z Y Y σ rfl rfl<|Qw<|Qe<|Ai<|AU<|AI _ ⟨v6,m6,Y,Y,Y,f⟩ Qs
    refine Al Y ?_ ?_
    .refine AB [_,_,_] Y B8 A9 Y ξ Y Y Z Y Y Y<|λg33=>Qw<|Qo 1 Y<|Ql Y B8 (Cell.blk 2 Y Y)<|Qw<|Qo 9 Y ?_;refine Cz 1 B (RdL.one D7 (x:=x) Mh Y) Y B8 A9 Y Z Y Y Y (Hd (l:=[x]) (λy hy=>by rw[bj.1 hy];exact u x c)) (by simp only[ae];omega) (by simp only[ae];omega) rfl rfl rfl<|λv6 m6 f=>?_;have z:=f.o1;refine Qw<|Qo 11 Y<|Bl 2 0 Y AeT Y Y z Y Y σ rfl rfl<|Qw<|Qe<|Ai<|AU<|AI _ ⟨v6,m6,Y,Y,Y,f⟩ Qs
    exact AN
   .have hf:[x].filter (λa=>A a.c)=[]:=by simp[t]
    rw[hf,append_nil];refine Ah (Ai ?_);exact AI _ ⟨P,O,rfl,rfl,rfl,B⟩ Qs
  .obtain⟨n,l,rfl,rfl,rfl,hO'⟩:=hI;refine Ad<|E (oA Y) Y<|G Y<|Am<|Aq (U.length-(i+1)) _ Z ⟨i+1,n,l,Y,Y,p,Y,Z,hO'⟩ Qs
 .have j:i=U.length:=Z
  subst j;rw[fz]at B;refine C<|Ab<|Ax<|E (oG Y CV Bd<|Seg.blk 1 Y) Y ?_;refine Sa 2 [_] Bd Y (by simp[ovi,ovo]) ?_;refine Ao<|Aj<|Eo 1 Y<|AU<|BC (vs:=[_]) 1 Y Y CV Y Bd Y Y (⟨p,P,O,Y,Y,B⟩)
theorem AdB(g:Nat)(U:List Ce)(cf:FuncId)(cs:List Value)(t:Cl->Bool)(h:Hp)(R:RdT h g U)(z:(U.map λa=>a.c.id).Nodup)(u:∀a∈U,Cb a.c.id)(S:U.length<=1000000)
  (hc:∀xs w,(callFunc cf xs).run prog w=.ok (.enter cf xs) w)
  (hp:∀a∈U,∀d,h.le d->∀l,FnV prog cf ([]++[Value.agg (cC a).toArray]++cs).toArray d l (.bool (t a.c))) :
  FnT prog 136 #[.pt g,.func (.func cf) #[] cs.toArray] h [] (λr d c=>h.le d/\∃m,c=[m]/\OwnL cI 1 3 m r ((U.filter λa=>t a.c).map λa=>a.c.id)):=by
 refine Au func136 ntmps136 Y Y<|λ_ _=>Ax<|G Y<|BF<|J Y<|X<|Ax<|D Y Y<|Qc call173 Y (Ael g U cf cs t h R z u S hc hp)<|λr h1 ms1 l1 hF=>?_;obtain⟨L,v,m,rfl,rfl,f⟩:=hF;refine BX f λh2 l2 n=>?_;obtain⟨W,p⟩:∃W,(U.filter λa=>t a.c)=W:=⟨_,Y⟩
 rw[p]at n;have hWl:W.length<=1000000:=by rw[<-p];exact bl (fj _ _) S
 have A:∀x∈W,x.v.oneCell'=true:=λx j=>by obtain⟨gm,mT,bs,vids,hS,hM,lM,hV,B⟩:=R;rw[<-p]at j;exact(B x (dp.1 j).1).rd.one
 have ov:=n.rd.one;refine E (HJ Y CV Y B8 Y Y Y) Y<|E (Aw n.rd.any Y B8 Y) Y<|J Y<|Ag<|BW ?_
 refine AC (λq T d c=>∃(i:Nat) (Q:Value) (s:Hp),W.length-i=q/\T=[(5,Q),(11,v),(12,.w W.length),(13,.w i)]/\h2.le d/\c=[s]/\i<=W.length/\OwnL cI 1 3 s Q ((W.take i).map λa=>a.c.id))
  (W.length-0) _ ⟨0,_,Hp.emp,rfl,rfl,Bk,rfl,Z,OwnL.nil Bf⟩ Qs ?_
 rintro q T d c ⟨i,Q,s,rfl,rfl,M,rfl,hi,f⟩;have k:=n.up M;have O:=f.o1;refine Ax<|J Y<|X<|Ay Y (λy=>?_)<|λy=>?_
 .have b:i<W.length:=Z
  obtain⟨x,j⟩:∃x,W[i]=x:=⟨_,Y⟩
  have P:=A x (by rw[<-j];exact aq b);have gX:∀l,Seg d l ((AJ v).add (i*3)) (cC x):=λl=>by rw[<-j];exact(k.any (ms:=l)).seg b
  have K:(W.take (i+1)).map (λa=>a.c.id)=(W.take i).map (λa=>a.c.id)++[x.c.id]:=by rw[ap b,cz,j];rfl
  have hol:((W.take i).map λa=>a.c.id).length<=1000000:=by rw[bb,bf];omega
  refine I<|X<|Ag<|Ax<|E (BP (i) k.rd.any Y B8 A9 Y Y) Y<|E (oG Y Kr A9<|gX _) Y<|BJ [.w 0,.w 0,.nl] Y A9 Y Y<|λg7=>?_;refine Sa 0 [_,_,_] A9 Y (by simp[ov,O,P]) ?_;refine HM<|G Y<|Qf B7 Y<|Ql Y U3 (Cell.blk 0 Y Y)<|AB [_] Y Bb By Y ξ Y Y Z Y Y Y<|λg20=>AL 2 f (RdL.one Bf (x:=x.c.id) Mh Y) Y Bb By Y Z Y Y Y BY (by simp only[ae];omega) (by simp only[ae];omega) rfl rfl rfl<|λv6 m6 e=>?_;rw[<-K]at e;have ov6:=e.o1;refine G Y<|Am<|D2<|Ad<|E (oA Y) Y<|G Y<|Am<|AU<|AU<|Aq (W.length-(i+1)) _ Z ⟨i+1,v6,m6,Y,Y,M,Y,Z,e⟩ Qs
 .have b:i=W.length:=Z
  subst b;rw[fz]at f;refine C<|Ab<|Ax<|G Y<|J Y<|Aj ?_;exact Ar Y Y (⟨N L (N l2 M),s,Y,by rw[p];exact f⟩)
theorem Afj(x:Ce)(gd:Nat)(d:Int)(h:Hp)(f:∀a,Cell h a (⟨gd,0,none⟩:Addr) (.int .i64 d))(l:x.v.oneCell'=true) :
  FnT prog 137 #[.agg (cC x).toArray,.pt gd] h [] (λr _ _=>r=.bool (decide (x.c.dim=d))):=by
 refine Au func137 ntmps137 Y Y<|λ_ _=>U<|AK [_,_,_] Y Y ξ Y Y Y<|λk=>J Y<|AH λe j g=>?_;have b:=qC 1 g Y;have c:∀a,Cell e a (⟨gd,0,none⟩:Addr) (.w d):=λa=>(f a).le j;refine U<|Qf Co Y<|Ql Y U3 (b _)<|Ql Y U3 (c _)<|G Y<|J Y<|Aj<|Ar Y Y<|Y
theorem VX(l:List Ce)(v:Value)(d:Int)(O:Hp)(p:RgC l)(hR:RdC O v l) :
  FnT prog 85 #[.agg #[v],.w d] O [] (λr b T=>O.le b/\∃m,T=[m]/\OwnL cI 1 3 m r (((cn l).filter λc=>decide (c.dim=d)).map Cl.id)):=by
 have ov:=hR.q.rd.one;refine Au func85 ntmps85 Y Y<|λ_ _=>U<|AK [_] Y Y ξ Y Y Y<|λg2=>AK [_] Y Y ξ Y Y Y<|λs=>J Y<|Ak 1 Y λh1 l1 z=>AH λh2 Q B=>?_;have y:=(hR.up l1).up Q;have t:∀f,Seg h2 f (⟨g2,0,none⟩:Addr) [v]:=λf=>(z.le Q).any;refine U<|E (oG Y CV Bd<|t _) Y<|Qc call88 Y (Wo l v h2 p y)<|λr h3 ms3 l3 x=>?_;obtain⟨k,rfl,g,A,rfl,n,hT⟩:=x;have hO:=p.pc.toOfOk;have u:A.length=l.length:=by have:=bh List.length n;rwa [bb,Kl]at this
 have h:(A.map λa=>a.c.id)=(cn l).map Cl.id:=by rw[<-n,jb];rfl
 have L:(A.map λa=>a.c.id).Nodup:=by rw[h];exact p.F.rgt.nd
 have K:∀a∈A,Cb a.c.id:=λa j=>by
  have h1:a.c∈cn l:=by rw[<-n];exact ai.2 ⟨a,j,Y⟩
  exact p.cI h1
 have M:∀a∈A,a.v.oneCell'=true:=λa j=>by obtain⟨gm,mT,bs,vids,hS,hM,lM,hV,P⟩:=hT;exact(P a j).rd.one
 have eD:∀b,h3.le b->∀f,Cell b f (⟨s,0,none⟩:Addr) (.w d):=λb S f=>((B 0 _ Y).any.le k).le S;refine E (BI Y Y Y) Y<|Qc call136 Y (AdB g A 137 [.pt s] (λc=>decide<|c.dim=d) h3 hT L K (by rw[u];exact hO.n) call137<|λa j b S f=>D9 (Afj a s d b (eD b S)<|M a j) f)<|λr h4 ms4 l4 x=>?_;obtain⟨R,m,rfl,i⟩:=x
 have e:(A.filter λa=>decide (a.c.dim=d)).map (λa=>a.c.id)=((cn l).filter λc=>decide (c.dim=d)).map Cl.id:=by rw[<-n,List.filter_map,jb];rfl
 rw[e]at i;refine J Y<|Aj<|Ar Y Y (⟨N l1<|N Q<|N k R,m,Y,i⟩)
theorem Agf(A:List Ce)(j:Nat)(a:j<(Hl A).length):(Hl A)[j].2=A[j]'(by unfold Hl at a;rwa [bb]at a):=by simp only[Hl,fd]
def Ail(o:List Cl)(D:Int):Prop:=-1<=D/\(∀c∈o,c.dim<=D)/\(D=-1\/∃c∈o,c.dim=D)
theorem AgT(l:List Ce)(v:Value)(hp:Hp)(hK:RgC l)(hR:RdC hp v l) :
  FnT prog 84 #[.agg #[v]] hp [] (λr y d=>hp.le y/\d=[]/\∃D,r=.w D/\Ail (cn l) D):=by
 have ov:=hR.q.rd.one;refine Au func84 ntmps84 Y Y<|λ_ _=>U<|AK [_] Y Y ξ Y Y Y<|λg1=>J Y<|AH λK l1 O=>?_;have M:=hR.up l1;have B:=qS O;refine U<|J Y<|X<|U<|E (oG Y CV Bd<|B _) Y<|Qc call88 Y (Wo l v K hK M)<|λr h3 ms3 l3 hF=>?_;obtain⟨l3',rfl,g,A,rfl,hA,gm,mT,bs,vids,hS,z,lM,hV,hsd⟩:=hF;have e0:=qC 0 hS Y;have Q:(Hl A).length=A.length:=by unfold Hl;rw[bb]
 refine G Y<|Qf G3 Y<|Ql Y JM (e0 _)<|Jh z lM Y JM Y Y Y Y<|λgi mi0 I0=>Ao<|Ag ?_
 refine AC (λq sl y d=>∃(b:List Nat) (mi:Hp) (D:Int),A.length-b.length=q/\sl=[(3,.w D),(11,.pt gi)]/\h3=y/\d=[mi]/\EF gi gm mT mi bs b/\-1<=D/\(∀j (f:j<A.length),j∈b->A[j].c.dim<=D)/\(D=-1\/∃a∈A,a.c.dim=D))
  (A.length-0) _ ⟨[],mi0,-1,rfl,rfl,rfl,rfl,I0,Z,λj f h=>(nomatch h),.inl rfl⟩ Qs ?_
 rintro q sl y d ⟨b,mi,D,rfl,rfl,rfl,rfl,I,L,n,m⟩;refine U<|KN 0 z I lM Y Y Y Y Y Y (λp=>?_)<|λj f mi' hjv u=>?_
 .refine J Y<|X<|AM Y<|C<|Ab<|U<|G Y<|J Y<|Aj<|AU ?_;exact Ar Y Y (⟨N l1 l3',Y,D,Y,L,λc hc=>by rw[<-hA]at hc;obtain⟨a,R,rfl⟩:=ai.1 hc;obtain⟨j,f,rfl⟩:=ef.1 R;exact n j f (p j (by rw[Q];exact f)),by rcases m with h|⟨a,R,h⟩;exact .inl h;exact .inr ⟨a.c,by rw[<-hA];exact ai.2 ⟨a,R,Y⟩,h⟩⟩)
 .have T:j<A.length:=Z
  have P:(Hl A)[j].2=A[j]:=Agf A j f;obtain⟨x,s⟩:∃x,A[j]=x:=⟨_,Y⟩
  have t:x∈A:=by rw[<-s];exact aq T
  have oxv:=(hsd x t).rd.one;refine J Y<|X<|A4 Y<|Cg<|Ag<|U<|E (Jo z u lM σ f rfl rfl) rfl ?_;rw[P,s];refine G Y<|BJ [.w 0,.w 0,.nl] Y A9 Y Y<|λg5=>?_;refine Sa 0 [_,_,_] A9 Y (by simp[ov,oxv]) ?_;refine HM<|G Y<|Qf Co Y<|Ql Y U3 (Cell.blk 0 Y Y)<|E (RO Y Y Y) Y<|G Y<|Am<|Ai<|AU ?_;refine Aq (A.length-(b.length+1)) _ ?_ ⟨b++[j],mi',max D x.c.dim,by simp,rfl,rfl,rfl,u,Z,λi S k=>?_,?_⟩ Qs
  .have hlt:b.length<(Hl A).length:=by
    have K:=Go.Kuhn.nodup_le (b++[j]) (range (Hl A).length) u.nodup λx s=>by rw[b6,<-z.len];exact u.lt x s
    simp at K;omega
   omega
  .rcases bi.1 k with k|k
   .have:=n i S k;omega
   .simp at k;subst k;rw[s];omega
  .rcases (Z:max D x.c.dim=D\/max D x.c.dim=x.c.dim) with e|e
   .rw[e];exact m
   .rw[e];exact .inr ⟨x,t,Y⟩
end
section
open Go.Lin Go.Wd
def sgn(sd:List (Int×Int))(c:Int):Int:=(sd.map λs=>if s.1=c then s.2 else 0).sum
theorem Mx(c:Int):sgn [] c=0:=rfl
theorem Nu(s:Int×Int)(a:List (Int×Int))(c:Int):sgn (s::a) c=(if s.1=c then s.2 else 0)+sgn a c:=by unfold sgn;rw[dh,fa]
theorem Ue(s:Int×Int)(a:List (Int×Int))(c:Int):sgn (a++[s]) c=sgn a c+if s.1=c then s.2 else 0:=by unfold sgn;simp
theorem OQ{c:Int}:∀{a:List (Int×Int)},(∀s∈a,s.1≠c)->sgn a c=0
 | [],_=>rfl
 | s::a,h=>by rw[Nu,af (h s Mh),OQ λs b=>h s (List.Mem.tail _ b)];rfl
theorem Ahc{c:Int}{a:List (Int×Int)}(h:sgn a c≠0):∃s∈a,s.1=c:=ax λq=>h (OQ λs b e=>q ⟨s,b,e⟩)
theorem Ag5{o:List Cl}(e:(o.map Cl.id).Nodup){i j:Nat}(b:i<o.length)(c:j<o.length)(h:(o.getD i default).id=(o.getD j default).id):i=j:=by
 rw[show o.getD i default=o[i] by simp[List.getD,b],show o.getD j default=o[j] by simp[List.getD,c]]at h;have d:=bw.1 e;rcases iz i j with a|a|a
 .have:=d i j (by simpa using b) (by simpa using c) a;simp only[fd]at this;exact lj h this
 .exact a
 .have:=d j i (by simpa using c) (by simpa using b) a;simp only[fd]at this;exact lj h.symm this
theorem OW(L:Int->List (Int×Int))(c:Int):∀s:List (Int×Int),Fi (Va L s) c=(s.map λa=>a.2*sgn (L a.1) c).sum
 | []=>rfl
 | a::s=>by
  have b:=OW L c s;unfold Fi Va at *;rw[eo,cz,List.sum_append,b,dh,fa];congr 1
  have:∀l:List (Int×Int),((l.map λr=>(a.1,r.1,a.2*r.2)).map λ(e:Int×Int×Int)=>if e.2.1=c then e.2.2 else 0).sum=a.2*sgn l c:=λl=>by
   induction l with
   | nil=>simp[sgn]
   | cons r l b=>
    rw[dh,dh,fa,b,Nu,jj];congr 1;show(if r.1=c then a.2*r.2 else 0)=_;split
    .rfl
    .rw[j6]
  exact this _
theorem UI{α:Type}{h:α->Int}:∀{l:List α},(∀s∈l,h s=0)->(l.map h).sum=0
 | [],_=>rfl
 | a::l,hl=>by rw[dh,fa,hl a Mh,UI λs b=>hl s (List.Mem.tail _ b)];rfl
theorem Zn{o:List Cl}{j:Nat}(a:j<o.length):o.getD j default∈o:=by rw[show o.getD j default=o[j] by simp[List.getD,a]];exact aq a
def Shp(v:Value)(n:Nat):Prop:=(v=.slice none 0 0/\n=0)\/∃g c,v=.slice (some ⟨g,0,none⟩) n c
theorem YE{α:Type}{F:α->List Value}{sz:Nat}{el:TypeId}{m:Hp}{v:Value}{l:List α}(O:OwnL F sz el m v l):Shp v l.length:=by
 obtain⟨⟨_,h⟩,_⟩:=O;rcases h with ⟨b,d,_⟩|⟨g,a,c,b,_⟩
 .exact .inl ⟨b,d⟩
 .exact .inr ⟨g,a,b⟩
theorem AiF(a:List Int)(v:Value)(x:Int)(h:Hp)(l:RdL cI 1 h [] v a)(p:Shp v a.length)(n:a.Pairwise (·<=·))(t:a.length<=1000000)(i:List Hp) :
  FnV prog 90 #[v,.w x] h i (.tuple #[.w ((a.countP (·<x):Nat):Int),.bool (a.contains x)]):=by
 intro w r;rcases p with ⟨rfl,k⟩|⟨g,c,rfl⟩
 .obtain rfl:a=[]:=gu.1 k;exact(Tryz.slices_BinarySearch_int_empty none 0 x w).mono λe s ⟨b,d⟩=>⟨by rw[b];rfl,by rw[d];exact Ext.refl _⟩
 .refine(Tryz.slices_BinarySearch_int g 0 a.length c a x w (ak _) Z (λj f=>?_) (by rw[fz];exact n)).mono λe s ⟨b,q,d⟩=>⟨by rw[b,fz],by rw[d];exact⟨Y,⟨Y,i9 _ _⟩,Y,ak _,λ_ _=>rfl⟩⟩
  have m:=(l.any (ms:=i)).cell0 f (u:=.w a[j]) Y;have:=r.cell m;rw[show(AJ (.slice (some ⟨g,0,none⟩) a.length c)).add (j*1)=(⟨g,0+j,none⟩:Addr) by simp only[AJ,Addr.add,km];split<;>simp_all]at this;simpa[List.getD,f] using this
theorem Ty:∀{c:List Int},c.Pairwise (· < ·)->∀{x:Int} {i:Nat} (e:i<c.length),c[i]=x->c.countP (·<x)=i
 | [],_,x,i,e,_=>by simp at e
 | a::c,hp,x,i,e,he=>by
  rw[pairwise_cons]at hp;cases i with
  | zero=>
   simp at he;subst he;rw[kd,af σ];rw[List.countP_eq_zero.2 λb g=>by have:=hp.1 b g;simp;omega]
  | succ i=>
   have d:i<c.length:=by simpa using e
   have f:c[i]=x:=by simpa using he
   have:=hp.1 _ (aq d);rw[kd,ah (by simp;omega),Ty hp.2 d f]
end
section
open Go.Lin
def ColsO:Hp->List Value->List (List Int)->Prop
 | m,[],[]=>m=Hp.emp
 | m,v::vs,c::cs=>∃a b,m=a.join b/\a.disj b/\OwnL cI 1 3 a v c/\ColsO b vs cs
 | _,_,_=>False
theorem ColsO.snoc{v:Value}{c:List Int}{b:Hp}(O:OwnL cI 1 3 b v c):∀{d:List Value} {cs:List (List Int)} {m:Hp},ColsO m d cs->m.disj b->ColsO (m.join b) (d++[v]) (cs++[c])
 | [],[],m,h,hd=>by have h:m=Hp.emp:=h;subst h;exact⟨b,Hp.emp,by rw[Hp.join_emp,Hp.emp_join],λg=>.inr rfl,O,rfl⟩
 | _::_,_::_,m,⟨a,b',e,hd',O',h⟩,hd=>by subst e;refine⟨a,b'.join b,Hp.join_assoc _ _ _,?_,O',h.snoc O (Hp.disj_right hd)⟩;exact Hp.disj_symm<|Hp.disj_join (Hp.disj_symm hd')<|Hp.disj_symm<|Hp.disj_left hd
 | [],_::_,_,h,_=>h.elim
 | _::_,[],_,h,_=>h.elim
theorem Qj{a b c:Hp}(h:a.disj b):a.join (b.join c)=b.join (a.join c):=by rw[<-Hp.join_assoc,<-Hp.join_assoc,Hp.join_comm h]
theorem ColsO.at_:∀{g:List Value} {cs:List (List Int)} {m:Hp},ColsO m g cs->∀{i:Nat} (l:i<g.length) (s:i<cs.length),∃a b,m=a.join b/\a.disj b/\OwnL cI 1 3 a g[i] cs[i]/\∀d j,d.disj b->OwnL cI 1 3 d g[i] j->ColsO (d.join b) g (cs.set i j)
 | [],_,_,_,i,l,_=>by simp at l
 | _::_,[],_,h,_,_,_=>h.elim
 | v::g,c::cs,m,⟨a,b,e,hd,O,C⟩,0,_,_=>⟨a,b,e,hd,O,λd j f n=>⟨d,b,rfl,f,n,C⟩⟩
 | v::g,c::cs,m,⟨a0,b0,e,hd,O,C⟩,i+1,l,s=>by
  obtain⟨a,b,x,r,u,K⟩:=C.at_ (i:=i) (by simpa using l) (by simpa using s);subst x;obtain⟨k,p⟩:=Hp.disj_of_join hd;refine⟨a,a0.join b,by rw[e];exact Qj k,?_,u,λd j f n=>?_⟩
  .exact Hp.disj_symm<|Hp.disj_join k<|Hp.disj_symm r
  .obtain⟨t,y⟩:=Hp.disj_of_join f;refine⟨a0,d.join b,Qj t,?_,O,K d j y n⟩;exact Hp.disj_symm<|Hp.disj_join t<|Hp.disj_symm p
open Go.Wd
variable {r c k:Nat} {B:Nat->Nat->Int} {sd:List (Int×Int)} {rows:List Int}
def ET(B:Nat->Nat->Int)(sd:List (Int×Int))(rows:List Int)(k j i b:Nat):Int:=if b<k then B i b else if b=k then sgn (sd.take j) (rows.getD i 0) else 0
def BN(r c:Nat)(F:Nat->Nat->Int):List (List Int):=(range r).map λi=>DC c (F i)
theorem DB(r c:Nat)(F:Nat->Nat->Int):(BN r c F).length=r:=by simp[BN]
theorem FQ{F G:Nat->Nat->Int}(h:∀i,i<r->∀b,b<c->F i b=G i b):BN r c F=BN r c G:=by unfold BN;refine fg λi d=>Pn λb a=>h i (b6.1 d) b a
theorem Ws(r c:Nat)(B:Nat->Nat->Int)(sd:List (Int×Int))(rows:List Int):BN r c (ET B sd rows 0 0)=replicate r (replicate c 0):=by
 have a:BN r c (ET B sd rows 0 0)=BN r c λ_ _=>0:=FQ λi _ b _=>by unfold ET;rw[af Z,take_zero,Mx,ite_self]
 rw[a];unfold BN DC;rw[List.map_const',ik,List.map_const',ik]
theorem L8{sd':List (Int×Int)}:BN r c (ET B sd rows k 0)=BN r c (ET B sd' rows k 0):=
 FQ λi _ b _=>by unfold ET;rw[take_zero,take_zero]
theorem Ww(e:∀i,i<r->B i k=sgn sd (rows.getD i 0)):BN r c (ET B sd rows k sd.length)=BN r c (ET B sd rows (k+1) 0):=
 FQ λi f b _=>by
  unfold ET;rw[fz,take_zero,Mx,ite_self];by_cases a:b<k
  .rw[ah a,ah Z]
  .by_cases d:b=k
   .subst d;rw[af a,ah rfl,ah Z,e i f]
   .rw[af a,af d,af Z]
theorem ZU:BN r c (ET B sd rows c 0)=BN r c B:=
 FQ λi _ b a=>by unfold ET;rw[ah a]
theorem AcE{j:Nat}(l:rows.length=r)(f:j<sd.length)(h:sd[j].1 ∉ rows):BN r c (ET B sd rows k (j+1))=BN r c (ET B sd rows k j):=
 FQ λi g b _=>by
  unfold ET;have a:i<rows.length:=Z
  have d:¬sd[j].1=rows.getD i 0:=λe=>h (by rw[e];simp[List.getD,a]);rw[ap f,Ue,af d,il]
theorem Zo{j a:Nat}(L:rows.length=r)(x:rows.Nodup)(v:j<sd.length)(u:a<r)(K:k<c)(h:rows[a]'Z=sd[j].1) :
  BN r c (ET B sd rows k (j+1))=(BN r c (ET B sd rows k j)).set a ((DC c (ET B sd rows k j a)).set k (ET B sd rows k j a k+sd[j].2)):=by
 refine gg (by rw[fh,DB,DB]) λi p y=>?_;have A:i<r:=by rwa [DB]at p
 have g:i<rows.length:=Z
 rw[List.getElem_set];have d:∀(F:Nat->Nat->Int) (h:i<(BN r c F).length),(BN r c F)[i]=DC c (F i):=λF h=>by simp[BN]
 have n:sgn (sd.take (j+1)) (rows.getD i 0)=sgn (sd.take j) (rows.getD i 0)+if sd[j].1=rows.getD i 0 then sd[j].2 else 0:=by rw[ap v,Ue]
 have m:rows.getD i 0=rows[i]:=by simp[List.getD,g]
 split
 .rename_i e;subst e;rw[d];refine gg (by simp[DC]) λb f s=>?_;rw[List.getElem_set];have t:b<c:=by simpa[DC] using f
  have ev:∀(F:Nat->Int) (h:b<(DC c F).length),(DC c F)[b]=F b:=λF h=>by simp[DC]
  rw[ev];split
  .rename_i e;subst e;unfold ET;rw[af Z,ah rfl,af Z,ah rfl,n,m,ah h.symm]
  .rename_i e;rw[ev];unfold ET;rw[af (show ¬b=k from λq=>e q.symm),af (show ¬b=k from λq=>e q.symm)]
 .rename_i e;rw[d,d];refine Pn λb z=>?_;unfold ET
  have l:¬sd[j].1=rows.getD i 0:=λq=>e (by
   rw[<-h,m]at q
   exact(List.getElem_inj x).1 q)
  rw[n,af l,il]
end
section
open Go.Lin Go.Wd
def AZ(o:List Cl)(d:Int):List Int:=(o.filter λc=>decide (c.dim=d)).map Cl.id
theorem GI(o:List Cl)(d:Int):(AZ o d).length<=o.length:=by unfold AZ;rw[bb];exact fj _ _
theorem Uj{o:List Cl}(h:RgtF o)(d:Int):(AZ o d).Pairwise (· < ·):=by unfold AZ;rw[fo];exact h.inc.sublist List.filter_sublist
theorem XQ:∀l:List Value,l.flatMap cU=l
 | []=>rfl
 | a::l=>by rw[eo,XQ l];rfl
theorem RC:∀(a:List (Int×Int)) (c:Int),(∀s∈a,s.2=1\/s.2=-1)->-(a.length:Int)<=sgn a c/\sgn a c<=a.length
 | [],c,_=>by rw[Mx];simp
 | s::a,c,h=>by have e:=RC a c λs b=>h s (am _ b);have d:=h s ao;rw[Nu,de];split<;>omega
def HN(o:List Cl)(d:Int)(i k:Nat):Int:=sgn (Hz o ((AZ o d).getD k 0)).sd ((AZ o (d-1)).getD i 0)
theorem Aau(l:List Ce)(v:Value)(d:Int)(hd:-5<=d/\d<=1000)(hp:Hp)(hK:RgC l)(hR:RdC hp v l)(hn:l.length<=200) :
  FnT prog 43 #[.agg #[v],.w d] hp [] (λw h' b=>hp.le h'/\UG w b (AZ (cn l) (d-1)).length (AZ (cn l) d).length (Eb (AZ (cn l) (d-1)).length (AZ (cn l) d).length (HN (cn l) d))):=by
 have ov:=hR.q.rd.one;refine Au func43 ntmps43 Y Y<|λ_ _=>U<|AK [_] Y Y ξ Y Y Y<|λg2=>BJ [.w 0,.w 0,.nl] Y BQ Y Y<|λg4=>Ao<|Ak 1 Y λT l1 hS2=>?_;have hR1:=hR.up l1;have gS2:=qS hS2;refine U<|E (oG Y CV Bd<|gS2 _) Y<|Qc call88 Y (Wo l v T hK hR1)<|λr h3 ms3 l3 hF=>?_;obtain⟨l3',rfl,g,A,rfl,hA,hT⟩:=hF;have hR3:=hR1.up l3';have gS2:∀e,Seg h3 e (⟨g2,0,none⟩:Addr) [v]:=λe=>(hS2.le l3').any;refine J Y<|X<|AS (n:=9) (bs:=[W,W,W,lw,W,W,lw,lw,lw]) [W,W,W,lw,W,W] Cx κ κ Y Y<|Qp Y (oG Y CV Bd<|gS2 _)<|Qq Y<|Qp Y (oS Y)<|Qp Y (oG Y CV Bd<|gS2 _)<|Qq Y<|Qo 3 Y<|Qc call85 Y (VX l v (d-1) h3 hK hR3)<|λra h4 ms4 l4 hF=>?_;obtain⟨l4',ma,rfl,hOa⟩:=hF;have shA:=YE hOa;refine BX hOa λh5 l5 hRa=>?_;have l35:=N l4' l5;refine Qa<|Qo 6 Y<|Qc call85 Y (VX l v d h5 hK<|hR3.up l35)<|λrb h6 ms6 l6 hF=>?_;obtain⟨l6',mb,rfl,hOb⟩:=hF;have shB:=YE hOb;refine BX hOb λh7 l7 hRb=>?_;have l57:=N l6' l7;have l37:=N l35 l57;refine Qa<|Qo 7 Y<|G Y<|Qa<|Qo 8 Y<|G Y<|Qa<|Qe ?_;have M:=hRa.up l57;obtain⟨o,ho⟩:∃o,cn l=o:=⟨_,Y⟩
 have hol:o.length=l.length:=by rw[<-ho,Kl]
 have R:RgtF o:=by rw[<-ho];exact hK.F
 change RdL cI 1 h7 [] ra (AZ (cn l) (d-1)) at M;change RdL cI 1 h7 [] rb (AZ (cn l) d) at hRb;rw[ho]at M hRb ⊢;obtain⟨r,hr⟩:∃r,(AZ o (d-1)).length=r:=⟨_,Y⟩
 obtain⟨c,hc⟩:∃c,(AZ o d).length=c:=⟨_,Y⟩
 have hr2:r<=200:=by have:=GI o (d-1);omega
 have hc2:c<=200:=by have:=GI o d;omega
 rw[hr,hc];have rA:Rd h7 [] ra 1 r ((AZ o (d-1)).flatMap cI):=by have:=M.rd;rwa [hr]at this
 have rB:Rd h7 [] rb 1 c ((AZ o d).flatMap cI):=by have:=hRb.rd;rwa [hc]at this
 have oa:=rA.one;have ob:=rB.one;have lh7:=N l1 (N l3' l37);refine Ab<|X<|U<|G Y<|E (Aw rA.any Y Bb Y) Y<|D Y Y<|AY (t:=28) Y (λT=>?_)<|λT=>?_
 .exact lj T Z
 .refine Qg (Ap Y Y) Y<|Qg (Aw rB.any Y Bb Y) Y<|Qg (CE Y Y Y) Y<|J Y<|Ay Y (λh2=>?_)<|λh2=>?_
  .exact lj h2 Z
  .refine I<|X<|U<|G Y<|E (Aw rA.any Y Bb Y) Y<|J Y<|Ay Y (λh3=>?_)<|λh3=>?_
   .have hr0:r=0:=Z
    subst hr0;refine U<|G Y<|E (Aw rB.any Y Bb Y) Y<|Qc call89 Y (K8 0 c Z hc2 h7)<|λz h8 ms8 l8 hF=>?_;obtain⟨rfl,ev,m,rfl,rfl,hO⟩:=hF;have oe:=hO.o1;have hL:replicate (0*c) (0:Int)=Eb 0 c (HN o d):=by simp[Eb]
    rw[hL]at hO;refine Sa 1 [_,_,_] BQ Y (by simp[ov,oa,ob,oe]) ?_;refine Ao<|Aj<|Ae<|BC (vs:=[_,_,_]) 1 Y Y Iw Y BQ Y Y (⟨lh7,ev,m,Y,Y,hO⟩)
   .refine I<|U<|G Y<|E (Aw rA.any Y Bb Y) Y<|FE (n:=r) Y Ks Fv Y Y Y ξ ξ Z Z Y Y Y<|λn=>J Y<|X<|U<|G Y<|E (EJ (ty:=83) Y Ks Y) Y<|J Y<|Ag ?_
    have hO0:OwnL cU 1 22 (BE n 22 (replicate r (.nl))) (.slice (some ⟨n,0,none⟩) r r) ([]++replicate r (.nl)):=by
     rw[aw];have:=OwnL.blk (F:=cU) (el:=22) (g:=n) (l:=replicate r (Value.nl)) r Hc σ Z
     rwa [XQ]at this
    refine BW ?_
    refine AC (λq sl h' b=>∃(i:Nat) (t:List Value) (u mo:Hp),r-i=q/\sl=[(4,.pt g4),(5,.pt g),(6,ra),(7,rb),(8,.slice (some ⟨n,0,none⟩) r r),(44,.w r),(45,.w i)]/\h7=h'/\b=[u,mo,BE g4 91 [.w 0,.w 0,.nl]]/\i<=r/\OwnL cU 1 22 mo (.slice (some ⟨n,0,none⟩) r r) (t++replicate (r-i) (.nl))/\t.length=i/\ColsO u t (replicate i (replicate c 0)))
     (r-0) _ ⟨0,[],Hp.emp,_,rfl,rfl,rfl,rfl,Z,hO0,rfl,rfl⟩ Qs ?_
    rintro q sl h' b ⟨i,t,u,mo,rfl,rfl,rfl,rfl,hi,hO,hRl,hCR⟩;refine U<|J Y<|X<|Ay Y (λhlt=>?_)<|λhlt=>?_
    .have hir:i<r:=Z
     refine I<|X<|Ag<|U<|D Y Y<|HM<|D Y Y<|G Y<|E (Aw rB.any Y Bb Y) Y<|FE (n:=c) Y Bb By Y Y Y ξ ξ Z Z Y Y Y<|λg52=>E (Cm (i) Y Ks Fv Y Y Z Z) Y ?_
     have hset:(t++replicate (r-i) (Value.slice none 0 0)).set i (.slice (some ⟨g52,0,none⟩) c c)=(t++[.slice (some ⟨g52,0,none⟩) c c])++replicate (r-(i+1)) (Value.slice none 0 0):=by rw[List.set_append_right _ _ (by omega),hRl,Nat.sub_self,show r-i=(r-(i+1))+1 by omega,List.replicate_succ,List.set_cons_zero,append_assoc];rfl
     refine Db (f:=λv:Value=>v) (a:=.slice (some ⟨g52,0,none⟩) c c) 2 i (λ_=>rfl) hO Y Fv Y Y Y Y (by rw[ag,length_replicate];omega) rfl rfl<|λmo' hO'=>?_;rw[hset]at hO';refine Am<|D2<|Ad<|E (oA Y) Y<|G Y<|Am<|HC λp=>?_;have p:[BE g52 3 (replicate c (.w 0)),u,mo',BE g4 91 [.w 0,.w 0,.nl]].Pairwise Hp.disj:=p;simp only[pairwise_cons,be,ia,j7,forall_eq_or_imp,forall_eq]at p;have B:=hCR.snoc (OwnL.rep (g:=g52) (el:=3) c 0 Z) (Hp.disj_symm p.1.1);have hrs:replicate i (replicate c (0:Int))++[replicate c 0]=replicate (i+1) (replicate c 0):=(List.replicate_succ' ..).symm;rw[hrs]at B;refine Eo 1 Y<|Jl ?_;exact Aq (r-(i+1)) _ Z ⟨i+1,_,_,mo',Y,Y,Y,Y,Z,hO',by rw[ag,hRl];rfl,B⟩ Qs
    .have hir:i=r:=Z
     subst hir;refine C<|Ab<|Et 1 Y<|CQ hO λh8 l8 hL=>?_;rw[Nat.sub_self,List.replicate_zero,append_nil]at hL;have rB8:=rB.le l8;have rA8:=rA.le l8;refine X<|U<|G Y<|E (Aw rB8.any Y Bb Y) Y<|J Y<|Ag ?_;have hCR0:ColsO u t (BN i c (ET (HN o d) [] (AZ o (d-1)) 0 0)):=by rw[Ws];exact hCR
     refine AC (λq sl h' b=>∃(k:Nat) (u:Hp),c-k=q/\sl=[(4,.pt g4),(5,.pt g),(6,ra),(8,.slice (some ⟨n,0,none⟩) i i),(55,rb),(56,.w c),(57,.w k)]/\h8.le h'/\b=[u,BE g4 91 [.w 0,.w 0,.nl]]/\k<=c/\ColsO u t (BN i c (ET (HN o d) [] (AZ o (d-1)) k 0)))
      (c-0) _ ⟨0,u,rfl,rfl,Bk,rfl,Z,hCR0⟩ Qs ?_
     rintro q sl h9 b ⟨k,u,rfl,rfl,l9,rfl,hk,hC⟩;refine U<|J Y<|X<|Ay Y (λhlt2=>?_)<|λhlt2=>?_
     .have hkc:k<c:=Z
      have hkL:k<(AZ o d).length:=Z
      obtain⟨y,hy⟩:∃y,(AZ o d).getD k 0=y:=⟨_,Y⟩
      have hyg:(AZ o d)[k]=y:=by rw[<-hy];simp[List.getD,hkL]
      have hB9:=(hRb.up l8).up l9;have cB:∀e,Cell h9 e ((AJ rb).add (k*1)) (.w y):=λe=>(hB9.any (ms:=e)).cell0 hkL (by rw[hyg];rfl);obtain⟨gm,mT,bs,vids,hS,hM,lM,hV,hsd⟩:=hT;have l39:=N l37 (N l8 l9);have e0:∀e,Cell h9 e ((⟨g,0,none⟩:Addr).add 0) (.map (some gm)):=λe=>((hS 0 _ Y).any).le l39;have x:A.map Ce.c=o:=by rw[hA,ho]
      have hAid:(A.map λa=>a.c.id)=o.map Cl.id:=by rw[<-x,jb];rfl
      have hnd:(A.map λa=>a.c.id).Nodup:=by rw[hAid];exact R.rgt.nd
      obtain⟨a,haA,hay⟩:∃a,a∈A/\a.c.id=y:=by
       have T:y∈AZ o d:=by rw[<-hyg];exact aq hkL
       unfold AZ at T;obtain⟨cl,h2,h3⟩:=ai.1 T;have h4:cl∈A.map Ce.c:=by rw[x];exact(dp.1 h2).1
       obtain⟨a,h5,rfl⟩:=ai.1 h4;exact⟨a,h5,h3⟩
      have hga:BO (Hl A) y=some a:=by rw[<-hay];exact NU hnd haA
      have hga1:(BO (Hl A) y).getD default=a:=by rw[hga];rfl
      have hyI:Cb y:=by
       have T:a.c∈cn l:=by rw[<-hA];exact ai.2 ⟨a,haA,Y⟩
       rw[<-hay];exact hK.cI T
      have hcel:Hz o y=a.c:=by have:=MH A y;rw[x,hga1]at this;exact this.symm
      have hsa:=(hsd a haA).up l39;have oav:=hsa.rd.one;refine I<|X<|Ag<|U<|G Y<|E (AR (k) (rB8.le l9).any Y Bb By Y Y Z Z) Y<|Ql Y U3 (cB _)<|D Y Y<|BF<|D Y Y<|Qf G3 Y<|Ql Y JM (e0 _)<|G Y<|E (DX (V:=vC) (z:=(default:Ce)) (u:=a) y hga1 BL hM (N lM l39) Y JM Pr Y Y hyI) Y<|E (HJ Y Kr Y Di Y Y Y) Y<|E (Aw hsa.rd.any Y Di Y) Y<|J Y<|Ag ?_;have hao:a.c∈o:=by rw[<-x];exact ai.2 ⟨a,haA,Y⟩
      have hsl:a.c.sd.length<=64:=(R.bds hao).2.1;have hsg:=R.rgt.sgn _ hao
      refine AC (λq sl h' b=>∃(j:Nat) (u:Hp),a.c.sd.length-j=q/\sl=[(4,.pt g4),(5,.pt g),(6,ra),(8,.slice (some ⟨n,0,none⟩) i i),(10,.w k),(55,rb),(56,.w c),(57,.w k),(68,a.v),(69,.w a.c.sd.length),(70,.w j)]/\h9.le h'/\b=[u,BE g4 91 [.w 0,.w 0,.nl]]/\j<=a.c.sd.length/\ColsO u t (BN i c (ET (HN o d) a.c.sd (AZ o (d-1)) k j)))
       (a.c.sd.length-0) _ ⟨0,u,rfl,rfl,Bk,rfl,Z,by rw[L8 (sd':=[])];exact hC⟩ Qs ?_
      rintro q sl h11 b ⟨j,u,rfl,rfl,l11,rfl,hj,hC⟩;have hsa11:=hsa.up l11;refine U<|J Y<|X<|Ay Y (λhlt3=>?_)<|λhlt3=>?_
      .have Q:j<a.c.sd.length:=Z
       obtain⟨s,hs⟩:∃s,a.c.sd[j]=s:=⟨_,Y⟩
       have gS:∀e,Seg h11 e ((AJ a.v).add (j*2)) (cD s):=λe=>by rw[<-hs];exact(hsa11.any (ms:=e)).seg Q
       refine I<|Bu (λsl h'' b=>∃mR':Hp,sl=[(4,.pt g4),(5,.pt g),(6,ra),(8,.slice (some ⟨n,0,none⟩) i i),(10,.w k),(55,rb),(56,.w c),(57,.w k),(68,a.v),(69,.w a.c.sd.length),(70,.w j)]/\h11.le h''/\b=[mR',BE g4 91 [.w 0,.w 0,.nl]]/\ColsO mR' t (BN i c (ET (HN o d) a.c.sd (AZ o (d-1)) k (j+1)))) ?_<|λs h e hI=>?_
       .refine Ag<|U<|E (BP (j) hsa11.rd.any Y Di B5 Y Y) Y<|E (oG Y To B5<|gS _) Y<|BJ [.w 0,.w 0] Y B5 Y Y<|λg13=>?_;refine Sa 0 [_,_] B5 Y (by simp[Value.oneCell']) ?_;refine Ao<|AH λP S hS13=>?_;have l712:=N l8 (N l9 (N l11 S));have hRa12:=M.up l712;have e130:=qC 0 hS13 Y;have e131:=qC 1 hS13 Y;have hinc:=Uj R (d-1);change Shp ra (AZ (cn l) (d-1)).length at shA;rw[ho]at shA;refine U<|G Y<|Qf Dv Y<|Ql Y U3 (e130 _)<|E (As Y call90 Y<|AiF (AZ o<|d-1) ra s.1 P hRa12 shA (hinc.imp λh=>Int.le_of_lt h) Z _) Y<|D Y Y<|D Y Y<|G Y<|BF<|J Y<|B1 Y (λhfd=>?_)<|λhfd=>?_
        .have O:s.1∈AZ o (d-1):=by simpa using hfd
         obtain⟨L,hi0,he0⟩:=ef.1 O;have hi0i:L<i:=Z
         have hcnt:(AZ o (d-1)).countP (·<s.1)=L:=Ty hinc hi0 he0;rw[hcnt];have hv0:L<t.length:=Z
         obtain⟨a1,b1,e1,dab,O1,K⟩:=hC.at_ (i:=L) hv0 (by rw[DB];exact hi0i);subst e1;obtain⟨ρ,hρ⟩:∃ρ,t[L]=ρ:=⟨_,Y⟩
         rw[hρ]at O1 K;have er:(BN i c (ET (HN o d) a.c.sd (AZ o (d-1)) k j))[L]'(by rw[DB];exact hi0i)=DC c (ET (HN o d) a.c.sd (AZ o (d-1)) k j L):=by simp[BN]
         rw[er]at O1;refine MK dab ?_;have cL:∀e,Cell P e ((AJ (.slice (some ⟨n,0,none⟩) i i)).add (L*1)) ρ:=λe=>((hL.any (ms:=e)).cell0 hv0 (by rw[hρ];rfl)).le (N l9 (N l11 S));have hkv:k<(DC c (ET (HN o d) a.c.sd (AZ o (d-1)) k j L)).length:=by rw[Cc];exact hkc
         have cX:∀e,a1∈e->Cell P e ((AJ ρ).add (k*1)) (.w (ET (HN o d) a.c.sd (AZ o (d-1)) k j L k)):=λe hm=>(O1.rd (h:=P) hm).cell0 hkv (by simp[DC,cI]);have rρ:Rd P [a1] ρ 1 c ((DC c (ET (HN o d) a.c.sd (AZ o (d-1)) k j L)).flatMap cI):=by have:=(O1.rd (h:=P) (ms:=[a1]) Mh).rd;rwa [Cc]at this
         have hbd:=RC (a.c.sd.take j) ((AZ o (d-1)).getD L 0) λs hs=>hsg s (ge hs);have hbe:ET (HN o d) a.c.sd (AZ o (d-1)) k j L k=sgn (a.c.sd.take j) ((AZ o (d-1)).getD L 0):=by unfold ET;rw[af Z,ah rfl]
         have htl:(a.c.sd.take j).length<=64:=by rw[bf];omega
         have hs2:=hsg s (by rw[<-hs];exact aq Q);have oρ:=rρ.one;refine BK 9 Cx κ Y<|Wm Y<|Wm Y<|BS (Cm (L) Y Ks Fv Y Y Z Z) Y Y<|Wl Y Bb (cL _)<|Wm Y<|BS (Be (k) rρ Y Bb By Y Y Z Z) Y Y<|Wl Y U3 (cX _ Mh)<|Wf Ep Y<|Wl Y U3 (e131 _)<|BB<|E (oA Y) Y<|E (Be (k) rρ Y Bb By Y Y Z Z) Y<|Fm 0 k O1 Y By Y Y Y hkv Y Y<|λa1' O1'=>Am<|Ai<|HC λp=>?_;have p:[a1',b1,BE g4 91 [.w 0,.w 0,.nl]].Pairwise Hp.disj:=p;simp only[pairwise_cons,be,ia,j7,forall_eq_or_imp,forall_eq]at p;have B:=K a1' _ p.1.1 O1';have hyes:=Zo (B:=HN o d) hr (hinc.imp λh=>Int.ne_of_lt h) Q hi0i hkc (by rw[he0,hs]);rw[hs]at hyes;rw[<-hyes]at B;refine Jl<|AI _ ⟨_,Y,S,Y,B⟩ Qs
        .have O:s.1 ∉ AZ o (d-1):=by simpa using hfd
         rw[<-hs]at O;rw[<-AcE (B:=HN o d) hr Q O]at hC;refine Ah<|Ai<|AI _ ⟨u,Y,S,Y,hC⟩ Qs
       .obtain⟨mR',rfl,S,rfl,B⟩:=hI;refine Ad<|E (oA Y) Y<|G Y<|Am<|Aq (a.c.sd.length-(j+1)) _ Z ⟨j+1,mR',Y,Y,N l11 S,Y,Z,B⟩ Qs
      .have Q:j=a.c.sd.length:=Z
       subst Q;have hB:∀f,f<i->HN o d f k=sgn a.c.sd ((AZ o (d-1)).getD f 0):=λf _=>by unfold HN;rw[hy,hcel]
       rw[Ww hB,L8 (sd':=[])]at hC;refine C<|D2<|Ad<|E (oA Y) Y<|G Y<|Am<|Aq (c-(k+1)) _ Z ⟨k+1,u,Y,Y,N l9 l11,Y,Z,hC⟩ Qs
     .have hkc:k=c:=Z
      subst hkc;rw[ZU]at hC;refine C<|Ab<|CT λh10 l10 lm=>?_
      have hRr:∀f,f<i->RdL cI 1 h10 [] (t.getD f undef) (DC k (HN o d f)):=λf hi'=>by
       have hv:f<t.length:=Z
       obtain⟨a1,b1,e1,dab,O1,_⟩:=hC.at_ (i:=f) hv (by rw[DB];exact hi');have er:(BN i k (HN o d))[f]'(by rw[DB];exact hi')=DC k (HN o d f):=by simp[BN]
       rw[er]at O1;have hle:a1.le h10:=N (by rw[e1];exact Hp.le_join _ _) lm;have:=O1.rdh (ms:=[]) hle
       rwa [show t.getD f undef=t[f] by simp[List.getD,hv]]
      have x:A.map Ce.c=o:=by rw[hA,ho]
      have hb:∀f,f<i->∀j,j<k->-256<HN o d f j/\HN o d f j<256:=λf _ j _=>by
       unfold HN;obtain⟨y,hy⟩:∃y,(AZ o d).getD j 0=y:=⟨_,Y⟩
       rw[hy];have T:=MH A y;rw[x]at T;rw[<-T];cases hg:BO (Hl A) y with
       | none=>exact(by decide:-256<(0:Int)/\(0:Int)<256)
       | some z=>
        have hz:z.c∈o:=by rw[<-x];exact ai.2 ⟨z,XZ hg,Y⟩
        have h2:=RC z.c.sd ((AZ o (d-1)).getD f 0) (R.rgt.sgn _ hz);have h3:=(R.bds hz).2.1;simp only[Option.getD_some];omega
      have hi0:0<i:=Z
      refine U<|G Y<|Qc call91 Y (Agt i k hi0 hr2 hc2 (HN o d) hb t hRl _ h10 (hL.up<|N l9 l10) hRr)<|λz h13 ms13 l13 hF=>?_;obtain⟨l13',ev,m,rfl,rfl,hO⟩:=hF;have oe:=hO.o1;refine Sa 1 [_,_,_] BQ Y (by simp[ov,oa,ob,oe]) ?_;refine Ao<|Aj<|BC (vs:=[_,_,_]) 1 Y Y Iw Y BQ Y Y (⟨N lh7<|N l8<|N l9<|N l10 l13',ev,m,Y,Y,hO⟩)
theorem Xy(n:Int)(h:Hp)(a:List Hp):FnV prog 195 #[WD n] h a (.bool (decide (n=0))):=by refine D9 ?_ a;have c:=AA (Ba n.natAbs);have e:decide (Ba n.natAbs=[])=decide (n=0):=fy.2 (by rw[bys_nil];omega);refine Au func195 ntmps195 Y Y<|λ_ _=>U<|AK [_,_] Y Y ξ Y Y Y<|λd=>G Y<|BF<|Qf EZ Y<|Ql Y U9 (Cell.blk 0 Y Y)<|E (DY (Ov (l':=[]) Y Y Y)<|bh Value.bool e) Y<|J Y<|Aj<|Ar Y Y<|Y
theorem Acp(n:Int)(h:Hp)(f:List Hp):FnV prog 225 ([]++[Value.agg (Bg n).toArray]++[]).toArray h f (.bool false):=by
 refine D9 ?_ f;show FnT _ _ #[WD n] _ _ _;have k:=AA (Ba n.natAbs);refine Au func225 ntmps225 Y Y<|λp j=>?_;simp only[AW];by_cases m:n=0
 .have c:Ba n.natAbs=[]:=bys_nil.2 Z;refine U<|AK [_,_] Y Y ξ Y Y Y<|λg=>G Y<|BF<|Qf EZ Y<|Ql Y U9 (Cell.blk 0 Y Y)<|E (Ov (l':=[]) Y Y Y) Y<|G Y<|AY (t:=6) Y (λa=>?_)<|λa=>lj (c) a;refine Qg (oF DI Y) Y<|Qg (oL Y U4<|Cell.blk 0 Y Y) Y<|D Y Y<|AY (t:=10) Y (λa=>lj a<|Z)<|λa=>Qg (oF EZ Y) Y<|Qg (oL Y U9<|Cell.blk 0 Y Y) Y<|Qg (HL (l':=[]) Y Y Y) Y<|Qg (Ap Y Y) Y<|AY (t:=14) Y (λa=>lj a ((λh=>h c)))<|λa=>DM Y Y<|DM Y Y<|Qg (Bv Y Y Y) Y<|G Y<|J Y<|Aj<|Ar Y Y<|Y
 .obtain⟨b,l,d,i⟩:=Abn (m:=n.natAbs) Z;have c:¬Ba n.natAbs=[]:=by rw[d];simp
  refine U<|AK [_,_] Y Y ξ Y Y Y<|λg=>G Y<|BF<|Qf EZ Y<|Ql Y U9 (Cell.blk 0 Y Y)<|E (Ov (l':=[]) Y Y Y) Y<|G Y<|AY (t:=6) Y (λa=>lj a<|c)<|λa=>DM Y Y<|D Y Y<|Qg (oF EZ Y) Y<|Qg (oL Y U9<|Cell.blk 0 Y Y) Y<|Qg (HL (l':=[]) Y Y Y) Y<|Qg (Ap Y Y) Y<|AY (t:=14) Y (λa=>?_)<|λa=>lj (c) a;refine Qg (oF EZ Y) Y<|Qg (oL Y U9<|Cell.blk 0 Y Y) Y ?_;refine Qg (Jy (l:=Ba n.natAbs) 0 Y U9 Y Y Y (by rw[d];simp)) rfl ?_;refine Qg (Cq Y Y Y) Y<|Qg (Cf Y Y Y) Y<|G Y<|J Y<|Aj ?_;have e:¬(((Ba n.natAbs)[0]'(by rw[d];simp)).toNat:Int)=0:=by simp[d];omega
  exact Ar Y Y (by(rw[dx e]))
def WT(l:List (Int))(p:Int->Bool):Int:=match l.findIdx? p with|some k=>k|none=>-1
theorem ZF{l:List (Int)}{p:Int->Bool}{k:Nat}(b:k<l.length)(h:p l[k]=true)(c:∀j (a:j<l.length),j<k->p l[j]=false):WT l p=k:=by unfold WT;rw[kq.2 ⟨b,h,λj a=>by rw[c j Z a];decide⟩]
theorem Aag{l:List (Int)}{p:Int->Bool}(h:∀j (a:j<l.length),p l[j]=false):WT l p=-1:=by unfold WT;rw[List.findIdx?_eq_none_iff.2 λx b=>by obtain⟨j,a,rfl⟩:=ee b;exact h j a]
theorem Abd(l:List (Int))(p:Int->Bool):decide (0<=WT l p)=l.any p:=by
 unfold WT;cases h:l.findIdx? p with
 | none=>
  rw[List.findIdx?_eq_none_iff]at h;have:l.any p=false:=kz.2 λx c=>by rw[h x c];decide
  rw[this];rfl
 | some k=>
  obtain⟨b,a,_⟩:=kq.1 h;have:l.any p=true:=List.any_eq_true.2 ⟨_,aq b,a⟩;rw[this];exact bp (show(0:Int)<=(k:Int) by omega)
theorem ZO(l:List (Int))(i:Value)(cf:FuncId)(cs:List Value)(p:Int->Bool)(h:Hp)(g:RdL Bg 2 h [] i l)(L:l.length<=1000000)
  (x:∀u w,(callFunc cf u).run prog w=.ok (.enter cf u) w)
  (z:∀s∈l,∀e,FnV prog cf ([]++[Value.agg (Bg s).toArray]++cs).toArray h e (.bool (p s))) :
  FnT prog 248 #[i,.func (.func cf) #[] cs.toArray] h [] (λr _ _=>r=.w (WT l p)):=by
 have o1:=g.rd.one;refine Au func248 ntmps248 Y Y<|λ_ _=>U<|J Y<|X<|U<|G Y<|E (Aw g.rd.any Y CJ Y) Y<|J Y<|Ag ?_
 refine AC (λq s t f=>∃(k:Nat),q=l.length-k/\s=[(0,i),(1,.func (.func cf) #[] cs.toArray),(7,.w l.length),(8,.w k)]/\h=t/\f=[]/\k<=l.length/\∀j (d:j<l.length),j<k->p l[j]=false)
  (l.length-0) _ ⟨0,rfl,rfl,rfl,rfl,Z,λj _ d=>Z⟩ Qs ?_
 rintro q s t f ⟨k,rfl,rfl,rfl,rfl,K,b⟩;refine U<|J Y<|X<|Ay Y (λm=>?_)<|λm=>?_
 .have a:k<l.length:=Z
  have n:∀e,Seg h e ((AJ i).add (k*2)) (Bg l[k]):=λe=>(g.any (ms:=e)).seg a;have B:=AA (Ba (l[k]).natAbs);refine I<|X<|Ag<|U<|D Y Y<|BF<|D Y Y<|G Y<|E (BP (k) g.rd.any Y CJ Av Y Y) Y<|E (oG Y Bn Av<|n _) Y<|E (CF Y Y x Y<|z _ (aq a) _) Y<|Ao<|B1 Y (λc=>?_)<|λc=>?_
  .refine X<|Ad<|G Y<|J Y<|Aj<|An<|Ae<|Ae<|An<|Ae ?_;exact Ar Y Y (by rw[ZF a c b])
  .refine Ah<|D2<|Ad<|E (oA Y) Y<|G Y<|Am<|Aq (l.length-(k+1)) _ Z ⟨k+1,Y,Y,Y,Y,Z,λj d y=>?_⟩ Qs;rcases (Z:j<k\/j=k) with v|rfl
   .exact b j d v
   .exact c
 .obtain rfl:k=l.length:=Z
  refine C<|Ab<|U<|J Y<|Aj ?_;exact Ar Y Y (by rw[Aag λj d=>b j d d])
theorem Vy(l:List (Int))(c:Value)(cf:FuncId)(cs:List Value)(b:Int->Bool)(h:Hp)(e:RdL Bg 2 h [] c l)(g:l.length<=1000000)
  (f:∀d w,(callFunc cf d).run prog w=.ok (.enter cf d) w)
  (i:∀s∈l,∀a,FnV prog cf ([]++[Value.agg (Bg s).toArray]++cs).toArray h a (.bool (b s))) (a:List Hp) :
  FnV prog 224 #[c,.func (.func cf) #[] cs.toArray] h a (.bool (l.any b)):=by
 refine D9 ?_ a;refine Au func224 ntmps224 Y Y<|λ_ _=>U<|G Y<|BF<|D Y Y<|E (As Y call248 Y<|D9 (ZO l c cf cs b h e g f i) _) Y<|G Y<|J Y<|Aj ?_;exact Ar Y Y (by rw[<-Abd])
theorem Vr(l:List Int)(v:Value)(h:Hp)(b:RdL Bg 2 h [] v l)(c:l.length<=1000000)(a:List Hp):FnV prog 179 #[v] h a (.bool true):=by
 refine D9 ?_ a;have o1:=b.rd.one;have e:l.any (λ_=>false)=false:=by simp
 refine Au func179 ntmps179 Y Y<|λ_ _=>U<|G Y<|BF<|G Y<|E (As Y call224 Y<|Vy l v 225 [] (λ_=>false) h b c (λf w=>call225 f w) (λs _ a=>Acp s h a) _) Y<|G Y<|J Y<|Aj ?_;exact Ar Y Y (by rw[e];rfl)
structure MW(v:Value)(h:Hp)(r c:Nat)(L:List Int):Prop where
 hr:r<=200
 hc:c<=200
 len:L.length=r*c
 ex:∃ev,v=.agg #[.w r,.w c,ev]/\RdL Bg 2 h [] ev L
theorem MW.up{v:Value}{h a:Hp}{r c:Nat}{L:List Int}(M:MW v h r c L)(l:h.le a):MW v a r c L:=
 ⟨M.hr,M.hc,M.len,by obtain⟨ev,e,R⟩:=M.ex;exact⟨ev,e,R.up l⟩⟩
theorem MW.le{v:Value}{h:Hp}{r c:Nat}{L:List Int}(M:MW v h r c L):L.length<=40000:=by rw[M.len];exact fx M.hr M.hc
theorem IS(v:Value)(r c:Nat)(L:List Int)(h:Hp)(M:MW v h r c L)(d:List Hp):FnV prog 146 #[v] h d (.bool true):=by
 refine D9 ?_ d;obtain⟨ev,rfl,R⟩:=M.ex;have i:=M.hr;have e:=M.hc;have f:=M.len;have g:=M.le;have o1:=R.rd.one;have k:Rd h [] ev 2 L.length (L.flatMap Bg):=R.rd;have a:((r:Int)*(c:Int))=((L.length:Nat):Int):=by rw[f,dz]
 refine Au func146 ntmps146 Y Y<|λ_ _=>U<|AK [_,_,_] Y Y ξ Y Y Y<|λl=>G Y<|BF<|Qf E3 Y<|Ql Y U3 (Cell.blk 0 Y Y)<|Qf Dx Y<|Ql Y U3 (Cell.blk 0 Y Y)<|E (As Y call142 Y<|D9 (Us r c i e h) _) Y<|G Y<|Qg (oF GF Y) Y<|Qg (oL Y CJ<|Cell.blk 0 Y Y) Y<|Qg (Aw k.any Y CJ Y) Y<|Qg (oF E3 Y) Y<|Qg (oL Y U3<|Cell.blk 0 Y Y) Y<|Qg (oF Dx Y) Y<|Qg (oL Y U3<|Cell.blk 0 Y Y) Y<|Qg (DY (oM Y)<|bh (Value.int .i64) a) Y<|Qg (Cq Y Y Y) Y<|D Y Y<|AY (t:=19) Y (λb=>?_)<|λb=>lj (Y) b;refine Qg (oF GF Y) Y<|Qg (oL Y CJ<|Cell.blk 0 Y Y) Y<|Qg (As Y call179 Y<|Vr L ev h R Z _) Y<|G Y<|J Y<|Aj<|Ar Y Y<|Y
theorem AhN(v:Value)(r c i j:Nat)(L:List Int)(h:Hp)(M:MW v h r c L)(l:i<r)(y:j<c)(a:List Hp):FnV prog 151 #[v,.int .i64 i,.int .i64 j] h a (WD (L.getD (i*c+j) 0)):=by
 refine D9 ?_ a;obtain⟨ev,rfl,R⟩:=M.ex;have z:=M.hr;have f:=M.hc;have m:=M.len;have n:=M.le;have o1:=R.rd.one;have s:Rd h [] ev 2 L.length (L.flatMap Bg):=R.rd
 have d:i*c+j<L.length:=by rw[m];have:(i+1)*c<=r*c:=eh _ l;rw[dq]at this;omega
 have b:((i:Int)*(c:Int))=((i*c:Nat):Int):=(dz i c).symm
 have k:∀a,Seg h a ((AJ ev).add ((i*c+j)*2)) (Bg (L.getD (i*c+j) 0)):=λa=>by rw[show L.getD (i*c+j) 0=L[i*c+j] by simp[List.getD,d]];exact(R.any (ms:=a)).seg d
 generalize L.getD (i*c+j) 0=x at *;have g:=AA (Ba x.natAbs);refine Au func151 ntmps151 Y Y<|λ_ _=>U<|AK [_,_,_] Y Y ξ Y Y Y<|λt=>BJ [.bool false,.es] Y Av Y Y<|λu=>Ao<|X<|U<|E (oG Y Iw BQ<|Seg.blk 1 Y) Y<|E (As Y call146 Y<|IS _ r c L h M _) Y<|D Y Y<|Qg (Ap Y Y) Y<|Qg (Ap Y Y) Y<|Qg (W4 Y Y Y) Y<|Qg (Dw Y Y Y) Y<|D Y Y<|AY (t:=16) Y (λe=>lj e<|Z)<|λe=>Qg (Ap Y Y) Y<|Qg (oF E3 Y) Y<|Qg (oL Y U3<|Cell.blk 1 Y Y) Y<|Qg (NK Y Y Y) Y<|D Y Y<|AY (t:=22) Y (λe=>lj e<|Z)<|λe=>Qg (Ap Y Y) Y<|Qg (oF Dx Y) Y<|Qg (oL Y U3<|Cell.blk 1 Y Y) Y<|Qg (NK Y Y Y) Y<|J Y<|Ay Y (λf=>lj f<|Z)<|λf=>I<|U<|Qf GF Y<|Ql Y CJ (Cell.blk 1 Y Y)<|G Y<|Qf Dx Y<|Ql Y U3 (Cell.blk 1 Y Y) ?_;refine E (DY (oM Y (by rw[b];omega))<|bh (Value.int .i64) b) rfl ?_;refine G Y<|E (oA Y) Y<|E (BP (i*c+j) s.any Y CJ Av Y Y) Y<|E (oG Y Bn Av<|k _) Y ?_;refine Sa 0 [_,_] Av Y (by simp[o1,g]) ?_;refine Ao<|Aj<|BC (vs:=[_,_]) 0 Y Y Bn Y Av Y Y<|Y
def JF(a b:Nat):Int:=if a=b then 1 else 0
theorem Aem(n:Nat)(l:n<=200)(h:Hp):FnT prog 180 #[.int .i64 n] h [] (λv j d=>h.le j/\UG v d n n (Eb n n JF)):=by
 have S:n*n<=40000:=fx l l;refine Au func180 ntmps180 Y Y<|λ_ _=>U<|BJ [.w 0,.w 0,.nl] Y BQ Y Y<|λK=>BF<|D Y Y<|Qc call89 Y (K8 n n l l h)<|λz h2 ms2 l2 Q=>?_;obtain⟨rfl,ev,m,rfl,rfl,e⟩:=Q;have L:=e.o1;refine BJ [.w 0,.w 0,.nl] Y BQ Y Y<|λP=>?_;refine Sa 0 [_,_,_] BQ Y (by simp[L]) ?_;refine Ao<|AH λs l3 g=>?_;have O:=qC 2 g Y;have p:=qC 0 g Y;have r:=qS g;refine X<|U<|Qf E3 Y<|Ql Y U3 (p _)<|J Y<|Ag ?_
 refine AC (λq M j d=>∃(k:Nat) (i:Hp),n-k=q/\M=[(0,.w n),(2,.pt K),(3,.pt P),(9,.w n),(10,.w k)]/\s=j/\d=[i,BE K 91 [.w 0,.w 0,.nl]]/\k<=n/\OwnL Bg 2 33 i ev (Eb n n λa b=>if a<k then JF a b else 0)) (n-0) _ ⟨0,m,Y,Y,Y,Y,Z,by
  have:Eb n n (λa b=>if a<0 then JF a b else 0)=replicate (n*n) 0:=by rw[SV];exact C7 λa _ b _=>af Z
  rw[this];exact e⟩ Qs ?_
 rintro q M j d ⟨k,i,rfl,rfl,rfl,rfl,hk,e⟩;refine U<|J Y<|X<|Ay Y (λy=>?_)<|λy=>?_
 .have c:k<n:=Z
  have x:k*n+k<n*n:=Om c c;have u:(k:Int)*n=((k*n:Nat):Int):=(dz k n).symm;have B:Rd s [i] ev 2 (n*n) ((Eb n n λa b=>if a<k then JF a b else 0).flatMap Bg):=by have:=(e.rd (h:=s) (ms:=[i]) Mh).rd;rwa [Ci]at this
  have os1:=AA (Ba (1:Int).natAbs);refine I<|X<|Ag<|U<|G Y<|J Y<|AS (n:=10) (bs:=[W,W,W,W,W,W,W,W,W,lw]) [W,W,W,W,W,W,W,W,W] Cx V V Y Y<|QF GF Y<|QL Y CJ (O _)<|Qq Y<|Qq Y<|Qp Y (oM Y)<|Qq Y<|Qp Y (oA Y)<|Qp Y (As Y call95 Y<|Fy 1 H _ _)<|Qp Y (Be (k*n+k) B Y CJ Av Y Y Z Z)<|Qo 9 Y ?_;refine EY 0 (k*n+k) (1:Int) e Y Av Y Y Y (E8 _) Y (by rw[Ci];exact x) Y Y<|λA f=>?_;refine Qw<|Qe ?_;rw[Ta _ c]at f
  have t:Eb n n (QI (λa b=>if a<k then JF a b else 0) k k 1)=Eb n n λa b=>if a<k+1 then JF a b else 0:=C7 λa _ b _=>by
   show(if a=k/\b=k then(1:Int) else if a<k then(if a=b then 1 else 0) else 0)=if a<k+1 then(if a=b then 1 else 0) else 0
   (repeat' split)<;>first|rfl|omega
  rw[t]at f;refine D2<|Ad<|E (oA Y) Y<|G Y<|Am<|Aq (n-(k+1)) _ Z ⟨k+1,A,Y,Y,Y,Y,Z,f⟩ Qs
 .have c:k=n:=Z
  subst c;have t:(Eb k k λa b=>if a<k then JF a b else 0)=Eb k k JF:=C7 λa R b _=>ah R;rw[t]at e;refine C<|Ab<|U<|E (oG Y Iw BQ<|r _) Y ?_;refine Sa 1 [_,_,_] BQ Y (by simp[L]) ?_;refine Ao<|Aj<|BC (vs:=[_,_,_]) 1 Y Y Iw Y BQ Y Y (⟨l3,ev,i,Y,Y,e⟩)
def AeK(c:Nat)(ev:Value)(k:Nat):List Value:=[.int .i64 k,C6 2 ev (k*c) ((k+1)*c)]
theorem Pq(g r c:Nat)(ev:Value)(f:Nat->Nat->Int)(P:r<=200)(O:c<=200)(h:Hp)(d:Seg h [] ⟨g,0,none⟩ [.int .i64 r,.int .i64 c,ev])(n:RdL Bg 2 h [] ev (Eb r c f)):Itr prog 234 [.pointer (some ⟨g,0,none⟩)] h r (AeK c ev):=by
 intro A X x ms z M L;show FnT _ _ #[.func (.yield A) #[] #[],.pt g] _ _ _;have d:=d.le z;have n:=n.up z
 have T:∀m,x.le m->Rd m [] ev 2 (r*c) ((Eb r c f).flatMap Bg):=λm l=>by
  have:=(n.up l).rd
  rwa [Ci]at this
 have B:=qD 0 d Y;have v:=qD 1 d Y;have K:=qD 2 d Y;refine Au func234 ntmps234 Y Y<|λ_ _=>Ac<|BH<|BV (oF E3 Y) Y Y Y<|BV (oL Y U3<|B _ (Bk) _) Y Y Y<|BV (Ap Y Y) Y Y Y<|C4<|Ab<|Ag ?_
 refine AC (λq s j a=>∃(k:Nat),q=r-k/\s=[(0,.func (.yield A) #[] #[]),(1,.pt g),(5,.w r),(6,.w k)]/\x.le j/\k<=r/\X k j a)
  (r-0) _ ⟨0,rfl,rfl,Bk,Z,L⟩ Qs ?_
 rintro q s j a ⟨k,rfl,rfl,b,hk,y⟩;refine Ac<|BH<|BV (Dw Y Y Y) Y Y Y<|C4<|Ab<|Ac<|Ay Y (λt=>?_)<|λt=>?_
 .have i:k<r:=Z
  have d1:(k+1)*c=k*c+c:=by rw[dq,gn]
  have c1:(k+1)*c<=r*c:=eh c i;have c2:r*c<=200*200:=fx P O;have d3:((k:Int)+1)*c=k*c+c:=by rw[ko,jh]
  have e:=M k j a i b y;unfold AeK at e;refine I<|Ac<|Ag<|Ac<|BH<|BV (Ap Y Y) Y Y Y<|BV (Jt Y Y) Y Y Y<|C4<|Ab<|Ac<|BH<|BV (Ap Y Y) Y Y Y<|BV (Ap Y Y) Y Y Y<|BV (oF GF Y) Y Y Y<|BV (oL Y CJ<|K _ b _) Y Y Y<|BV (Ap Y Y) Y Y Y<|BV (oF Dx Y) Y Y Y<|BV (oL Y U3<|v _ b _) Y Y Y<|BV (oM Y) Y Y Y<|BV (Ap Y Y) Y Y Y<|BV (oA Y) Y Y Y<|BV (oF Dx Y) Y Y Y<|BV (oL Y U3<|v _ b _) Y Y Y<|BV (oM Y) Y Y Y<|BV (H5 (k*c) ((k+1)*c) (T _ b).any Y CJ Av Y Y Y Z Z Z Z) Y Y Y<|K4 Y Y Y (e) Y Y Y<|λr' h2 S R u=>?_;obtain⟨rfl,p⟩:=u;refine BV (Dg Y Y) Y Y Y<|C4<|Ab<|AM Y<|Ah<|D2<|BH<|BV (oA Y) Y Y Y<|BV (Ap Y Y) Y Y Y<|C4<|Aq (r-(k+1)) _ Z ⟨k+1,Y,Y,N b R,Z,p⟩ Qs
 .obtain rfl:k=r:=Z
  refine C<|CC Y<|y
theorem YL(r c:Nat)(ev:Value)(n:Nat)(cs:List Value)(h:Hp)(d:Rd h [] ev 2 n cs):FnT prog 194 #[.agg #[.int .i64 r,.int .i64 c,ev]] h [] (λw b a=>h=b/\∃g,w=.func (.func 234) #[] #[.pointer (some ⟨g,0,none⟩)]/\a=[BE g 91 [.int .i64 r,.int .i64 c,ev]]):=by have o1:=d.one;refine Au func194 ntmps194 Y Y<|λ_ _=>U<|AK [_,_,_] Y Y ξ Y Y Y<|λf=>G Y<|BF<|E (BI Y Y Y) Y<|J Y<|Aj<|Ar Y Y (⟨Y,_,Y,Y⟩)
theorem AeO(va vb:Value)(r k c:Nat)(f g:Nat->Nat->Int)(h:Hp)(A:MW va h r k (Eb r k f))(B:MW vb h k c (Eb k c g))
  (hS:∀i j t,i<r->j<c->t<=k->Sz (sm t λq=>f i q*g q j)) (hF:∀i t,i<r->t<k->Sz (f i t)) (hG:∀t j,t<k->j<c->Sz (g t j)) (hP:∀i t j,i<r->t<k->j<c->Sz (f i t*g t j)) :
  FnT prog 155 #[va,vb] h [] (λw Q T=>h.le Q/\∃v,w=.tuple #[v,.bool true]/\UG v T r c (Eb r c λa b=>sm k λq=>f a q*g q b)):=by
 have rl:=A.hr;have kl:=A.hc;have cl:=B.hc;have hrc:r*c<=200*200:=fx rl cl;obtain⟨ea,rfl,RA⟩:=A.ex;obtain⟨eb,rfl,RB⟩:=B.ex;have oa:=RA.rd.one;have ob:=RB.rd.one;refine Fw func155 ntmps155 Y Y<|λ_ _=>U<|AK [_,_,_] Y Y ξ Y Y Y<|λg2=>AK [_,_,_] Y Y ξ Y Y Y<|λg3=>BJ [.w 0,.w 0,.nl] Y BQ Y Y<|λg4=>J Y<|Ak 1 Y λh1 l1 L=>Ak 1 Y λh2 l2 hS2=>?_;have L:=L.le l2;have M:=N l1 l2;have A2:=A.up M;have B2:=B.up M;have O:=RA.up M;have RB2:=RB.up M;have sg2:=qS hS2;have sg3:=qS L;have c21:=qD 1 hS2 Y;have c20:=qD 0 hS2 Y;have c30:=qD 0 L Y;have c31:=qD 1 L Y;have sg3':=qT L;refine X<|U<|E (oG Y Iw BQ<|sg2 _) Y<|E (As Y call146 Y<|IS _ r k _ h2 A2 _) Y<|AT Y Y<|Qg (oG Y Iw BQ<|sg3 _) Y<|Qg (As Y call146 Y<|IS _ k c _ h2 B2 _) Y<|Qg (Dg Y Y) Y<|AT Y Y<|Qg (oF Dx Y) Y<|Qg (oL Y U3<|c21 _ (Bk) _) Y<|Qg (oF E3 Y) Y<|Qg (oL Y U3<|c30 _ (Bk) _) Y<|Qg (FV Y Y Y) Y<|J Y<|Ay Y (λhc=>lj hc ((λq=>q Y)))<|λhc=>I<|U<|Qf E3 Y<|Ql Y U3 (c20 _ (Bk) _)<|Qf Dx Y<|Ql Y U3 (c31 _ (Bk) _)<|Qc call89 Y (K8 r c rl cl h2)<|λz h3 ms3 l3 hF=>?_;obtain⟨rfl,ew,m,rfl,rfl,p⟩:=hF;have ow:=p.o1;refine BJ [.w 0,.w 0,.nl] Y BQ Y Y<|λg6=>?_;refine Sa 0 [_,_,_] BQ Y (by simp[oa,ob,ow]) ?_;refine Ao<|AH λh3 l3 hS6=>?_;have c62:=qD 2 hS6 Y;have sg6:=qT hS6;refine X<|U<|E (oG Y Iw BQ ((sg2 []).le l3 |>.any)) Y<|Qc call194 Y (YL r k ea _ _ h3 (O.up l3).rd)<|λzi h4 ms4 l4 hF=>?_;obtain⟨rfl,ga,rfl,rfl⟩:=hF;refine Ao<|Ag<|AH λh4 l4 hGa=>?_;have hI:=Pq ga r k ea f rl kl h4 hGa ((O.up l3).up l4);have l24:=N l3 l4;refine F8 (λi hh e=>∃d,e=[d,BE g4 91 [.w 0,.w 0,.nl]]/\OwnL Bg 2 33 d ew (Eb r c (Kp k f g i 0 0))) (λi s1 hh e=>∃g8 d,s1=[(2,.pt g2),(3,.pt g3),(6,.pt g6),(7,.w i),(8,.pt g8)]/\e=[BE g8 89 [C6 2 ea (i*k) ((i+1)*k)],d,BE g4 91 [.w 0,.w 0,.nl]]/\OwnL Bg 2 33 d ew (Eb r c (Kp k f g i 0 0))) Y call234 hI (λk=>rfl) Y ?_ ?_ ?_ ?_
 .exact⟨m,Y,by rw[C7 (g:=λ_ _=>0) (λa _ b _=>Adm k f g a b),<-SV];exact p⟩
 .rintro w1 i hh ms1 n lh ⟨d,rfl,p⟩;rw[show AeK k ea i=[.w i,C6 2 ea (i*k) ((i+1)*k)] from Y];have RAi:=(((O.up l3).up l4).up lh).rowF n;have oai:=RAi.rd.one;refine Dq<|Bj V<|G Y<|Am<|B9<|Bj V<|BJ [.nl] Y En Y Y<|λg8=>Bl 0 0 Y En Y Y (by assumption) Y Y H Y Y<|Am ?_;exact AI _ ⟨g8,d,Y,Y,p⟩ Qs
 .rintro w1 i s1 hh ms1 n lh ⟨g8,d,rfl,rfl,p⟩;refine Lh λh5 l5 lg8 _ _=>?_;have hG8:=Seg.ofLe lg8;have R:=N l24 (N lh l5);have l35:=N l4 (N lh l5);have d1:(i+1)*c=i*c+c:=by rw[dq,gn]
  have c1:(i+1)*c<=r*c:=eh c n;have d3:((i:Int)+1)*c=i*c+c:=by rw[ko,jh]
  have row:=(p.rd (h:=h5) (ms:=[d]) Mh).rd;have elp:=Ci r c (Kp k f g i 0 0);have RBh:=RB2.up R;have orow:=((p.rd (h:=h5) (ms:=[d]) Mh).rowF n).rd.one;refine Ex<|Dq<|Bj V<|Qf GF Y<|Ql Y CJ (c62 _ l35 _)<|G Y<|Qf Dx Y<|Ql Y U3 (c31 _ R _)<|E (oM Y) Y<|G Y<|E (oA Y) Y<|Qf Dx Y<|Ql Y U3 (c31 _ R _)<|E (oM Y) Y<|E (SG (i*c) ((i+1)*c) row Y CJ Av Y Y Y Z Z Z Z) Y<|BJ [.nl] Y En Y Y<|λg9=>Bl 0 0 Y En Y Y (by assumption) Y Y H Y Y<|Am<|B9<|Lh λh6 l6 lg9 _ _=>?_;have hG9:=Seg.ofLe lg9;have l26:=N R l6;refine Dq<|Bj V<|E (oG Y Iw BQ<|sg3' _ l26 _) Y<|Qc call194 Y (YL k c eb _ _ h6 (RBh.up l6).rd)<|λzj h7 ms7 l7 hF=>?_;obtain⟨rfl,gb,rfl,rfl⟩:=hF;refine Am<|B9<|Ex<|Lh λh7 l7 lgb _ _=>?_;have l27:=N l26 l7;have hI2:=Pq gb k c eb g kl cl h7 (Seg.ofLe lgb) (RB2.up l27);have RAi:=(O.up l27).rowF n;have G8:∀Q,h7.le Q->∀e,Cell Q e (⟨g8,0,none⟩:Addr) (C6 2 ea (i*k) ((i+1)*k)):=λQ l e=>((hG8.le (N l6 (N l7 l))).at0 Y).any;have G9:∀Q,h7.le Q->∀e,Cell Q e (⟨g9,0,none⟩:Addr) (C6 2 ew (i*c) ((i+1)*c)):=λQ l e=>((hG9.le (N l7 l)).at0 Y).any;refine So (λt hh e=>∃d,e=[d,BE g4 91 [.w 0,.w 0,.nl]]/\OwnL Bg 2 33 d ew (Eb r c (Kp k f g i t 0))) (λt s1 hh e=>∃d,s1=[(8,.pt g8),(9,.pt g9),(10,.w t),(11,C6 2 eb (t*c) ((t+1)*c))]/\e=[d,BE g4 91 [.w 0,.w 0,.nl]]/\OwnL Bg 2 33 d ew (Eb r c (Kp k f g i t 0))) Y call234 hI2 (λk=>rfl) Y ?_ ?_ ?_ ?_
  .exact⟨d,Y,p⟩
  .rintro w2 t hh2 ms2 x K ⟨d,rfl,p⟩;rw[show AeK c eb t=[.w t,C6 2 eb (t*c) ((t+1)*c)] from Y];refine Dq<|Bj V<|G Y<|Am<|B9<|Bj V<|G Y<|Am<|AI _ ⟨d,Y,Y,p⟩ Qs
  .rintro w2 t s2 hh2 ms2 x K ⟨d,rfl,rfl,p⟩;have P:=RAi.up K;have RBt:=((RB2.up l27).up K).rowF x;have rA:=P.rd;have rB:=RBt.rd;have ek:=Cc k (f i);have ec:=Cc c (g t);have obt:=RBt.rd.one;have sA:∀e,Seg hh2 e ((AJ (C6 2 ea (i*k) ((i+1)*k))).add (t*2)) (Bg (f i t)):=λe=>P.any.evF x;have ost:=AA (Ba (f i t).natAbs);refine Ex<|Dq<|Dq<|Bj V<|Ql Y CJ (G8 _ K _)<|G Y<|E (BP (t) rA.any Y CJ Av Y Y) Y<|E (oG Y Bn Av<|sA _) Y<|E (As Y call195 Y<|Xy _ _ _) Y<|Am<|B9<|Na Y (λhz=>?_)<|λhz=>?_
   .refine XE<|Aa<|Af ?_;exact AI [] ⟨d,Y,by rw[<-C7 λa _ b _=>Ab6 k f g i t a b hz];exact p⟩ fu
   .refine Ii<|B9<|Dq<|Bj V<|G Y<|E (Aw rB.any Y CJ Y) Y<|G Y<|Am<|B9<|Ex ?_
    refine Aeq (λq s hh T=>∃(j:Nat) (d:Hp),q=c-j/\s=[(8,.pt g8),(9,.pt g9),(10,.w t),(60,C6 2 eb (t*c) ((t+1)*c)),(61,.w ((DC c (g t)).length:Nat)),(62,.w j)]/\hh2.le hh/\T=[d,BE g4 91 [.w 0,.w 0,.nl]]/\j<=c/\OwnL Bg 2 33 d ew (Eb r c (Kp k f g i t j)))
     (c-0) _ ⟨0,d,rfl,rfl,Bk,rfl,Z,p⟩ Qs ?_
    rintro q s hh3 T ⟨j,d,rfl,rfl,lh3,rfl,hj,p⟩;have RBt3:=RBt.up lh3;refine Dq<|Bj V<|G Y<|Am<|B9<|Dq<|Na Y (λhlt=>?_)<|λhlt=>?_
    .have u:j<c:=Z
     have sB:∀e,Seg hh3 e ((AJ (C6 2 eb (t*c) ((t+1)*c))).add (j*2)) (Bg (g t j)):=λe=>RBt3.any.evF u;have osg:=AA (Ba (g t j).natAbs);refine Ii<|B9<|Dq<|Ex<|Dq<|Bj V<|G Y<|E (BP (j) RBt3.rd.any Y CJ Av Y Y) Y<|E (oG Y Bn Av<|sB _) Y<|BJ [.bool false,.es] Y Av Y Y<|λg13=>G Y ?_;refine Sa 0 [_,_] Av Y (by simp[obt,ost,osg]) ?_;refine Am<|B9<|Lh λh8 l8 lg13 _ _=>?_;have hG13:=Seg.ofLe lg13;have y:=N lh3 l8;refine Dq<|Bj V<|E (oG Y Bn Av ((hG13.any:Seg _ _ _ (Bg (g t j))))) Y<|E (As Y call195 Y<|Xy _ _ _) Y<|E (DY (Dg Y Y)<|bh Value.bool decide_not.symm) Y<|Am<|B9<|Na Y (λhy=>?_)<|λhy=>?_
     .have hix:=Om n u;have elq:=Ci r c (Kp k f g i t j)
      have sO:∀h e,d∈e->Seg h e ((AJ ew).add ((i*c+j)*2)) (Bg (sm t λq=>f i q*g q j)):=λh e hm=>by
       have:=(p.rd (h:=h) (ms:=e) hm).entF n u
       rwa [Wj]at this
      have eva:=AbL (p.rd (h:=h8) (ms:=[d]) Mh) n u;have rowO:=((p.rd (h:=h8) (ms:=[d]) Mh).rowF n).rd;have evl:=Cc c (Kp k f g i t j i);have sA8:∀e,Seg h8 e ((AJ (C6 2 ea (i*k) ((i+1)*k))).add (t*2)) (Bg (f i t)):=λe=>((P.up y).any (ms:=e)).evF x;have osm:=AA (Ba (sm t λq=>f i q*g q j).natAbs);have osr:=AA (Ba (sm (t+1) λq=>f i q*g q j).natAbs);obtain⟨S,hSm⟩:∃S,(sm t λq=>f i q*g q j)=S:=⟨_,Y⟩
      have hSz:Sz S:=by rw[<-hSm];exact hS i j t n u Z
      rw[hSm]at sO;have osS:=AA (Ba S.natAbs);have osP:=AA (Ba (S+f i t*g t j).natAbs);refine Lk (n:=15) (bs:=[W,W,W,W,W,lw,W,W,W,W,W,W,lw,W,lw]) [W,W,W,W,W,lw,W,W,W,W,W,W,lw,W] Cx V V Y Y V<|QL Y CJ (G9 _ (N K y) _)<|Qq Y<|QL Y CJ (G9 _ (N K y) _)<|Qq Y<|Qp Y (Be (j) rowO Y CJ Av Y Y Z Z)<|QL Y CJ (G8 _ (N K y) _)<|Qq Y<|Qp Y (AR (t) (P.up y).rd.any Y CJ Av Y Y Z Z)<|Qp Y (oG Y Bn Av<|sA8 _)<|Qp Y (oG Y Bn Av ((hG13.any:Seg _ _ _ (Bg (g t j)))))<|Qp Y (As Y call141 Y<|IV _ _ (hF i t n x) (hG t j x u) _ _)<|Qp Y (Be (j) rowO Y CJ Av Y Y Z Z)<|Qo 5 Y ?_;refine E (oG Y Bn Av (by(rw[eva];exact sO _ _ Mh))) Y ?_;refine Qw<|Qo 12 Y<|E (As Y call156 Y<|Nz _ _ hSz (hP i t j n x u) _ _) Y<|Qw<|Qo 14 Y ?_;refine EY 0 (i*c+j) (S+f i t*g t j) p Y Av (by rw[eva];rfl) rfl rfl (E8 _) rfl Z rfl rfl<|λmo' hO'=>?_;refine Qw<|Qe ?_;rw[Ta _ u,C7 λa _ b _=>Ub k f g i t j a b _ (by rw[Wj,hSm])]at hO';refine Ai<|B9<|Bj V<|E (oA Y) Y<|G Y<|Am<|Aq (c-(j+1)) _ Z ⟨j+1,mo',Y,Y,y,Y,Z,hO'⟩ Qs
     .have hy0:g t j=0:=by simpa using hy
      refine Ii<|Ai<|B9<|Bj V<|E (oA Y) Y<|G Y<|Am ?_;exact Aq (c-(j+1)) _ Z ⟨j+1,d,Y,Y,y,Y,Z,by rw[<-C7 λa _ b _=>Abl k f g i t j a b (by rw[hy0,j6])];exact p⟩ Qs
    .have u:j=c:=Z
     subst u;refine XE<|Aa<|Aa<|Af<|Ai ?_;exact AI [] ⟨d,Y,by rw[<-C7 λa _ b hb=>AcL k f g i t j a b hb];exact p⟩ fu
  .rintro h8 ms8 l8 ⟨d,rfl,p⟩;refine Ai<|Ai ?_;exact AI [] ⟨d,Y,by rw[<-C7 λa _ b _=>Aej k f g i a b];exact p⟩ fu
 .rintro D hh ms1 lh ⟨d,rfl,p⟩;refine D2<|U<|E (oG Y Iw BQ<|sg6 _ (N l4 lh) _) Y ?_;refine Sa 1 [_,_,_] BQ Y (by simp[oa,ob,ow]) ?_;refine J Y<|Aj<|Gc 2 (.inr Y) Y ?_;exact Ja (vs:=[_,_,_]) 1 Y Y Y Iw Y BQ Y Y (⟨N M (N l24 lh),_,Y,ew,d,Y,Y,by rw[<-C7 λa ha b _=>Aep k f g r a b ha];exact p⟩)
theorem YC(k:Nat)(x:Nat->Int):Eb k 1 (λq _=>x q)=DC k x:=by unfold Eb DC;rw[km];exact fg λi _=>by rw[Nat.div_one]
theorem PS(y s:Value)(r k:Nat)(f:Nat->Nat->Int)(x:Nat->Int)(h:Hp)(A:MW y h r k (Eb r k f))(X:RdL Bg 2 h [] s (DC k x))
  (Q:∀i t,i<r->t<=k->Sz (sm t λq=>f i q*x q)) (b:∀i t,i<r->t<k->Sz (f i t)) (O:∀t,t<k->Sz (x t)) (P:∀i t,i<r->t<k->Sz (f i t*x t)) :
  FnT prog 101 #[y,s] h [] (λw M n=>h.le M/\∃v m,w=.tuple #[v,.bool true]/\n=[m]/\OwnL Bg 2 33 m v (DC r λi=>sm k λq=>f i q*x q)):=by
 have rl:=A.hr;have S:=A.hc;have K:=A;obtain⟨ea,rfl,L⟩:=A.ex;have oa:=L.rd.one;have ox:=X.rd.one;have rX:Rd h [] s 2 k ((DC k x).flatMap Bg):=by have:=X.rd;rwa [Cc]at this
 obtain⟨xa,xc,rfl,_⟩:=rX.ex;refine Au func101 ntmps101 Y Y<|λ_ _=>U<|AK [_,_,_] Y Y ξ Y Y Y<|λg2=>G Y<|J Y<|Ak 0 Y λu g d=>?_;have p:=qS d;have B:MW (.agg #[.w k,(.w ((1:Nat):Int)),.slice xa k xc]) u k 1 (Eb k 1 λq _=>x q):=⟨S,by decide,Ci _ _ _,_,Y,by rw[YC];exact X.up g⟩
 refine U<|E (oG Y Iw BQ<|p _) Y<|G Y<|E (EJ (ty:=89) Y CJ Y) Y<|G Y<|E (AQ Agj [.w 0,.w 0,.nl] [(0,_),(1,_),(2,_)] [_,_,_] Y BQ Y Y Qt Y) Y<|Qc call155 Y (AeO _ _ r k 1 f (λq _=>x q) u (K.up g) B (λi j t e _ a=>Q i t e a) b (λt j a _=>O t a)<|λi t j e a _=>P i t e a)<|λz h2 T l2 b=>?_;obtain⟨l,v,rfl,ev,m,rfl,rfl,c⟩:=b;rw[YC]at c;have oe:=c.o1;refine D Y Y<|G Y<|BJ [.w 0,.w 0,.nl] Y BQ Y Y<|λg6=>?_;refine Sa 0 [_,_,_] BQ Y (by simp[oa,ox,oe]) ?_;refine G Y<|BF<|Qf GF Y<|Ql Y CJ (Cell.blk 0 Y Y)<|D Y Y<|J Y<|Aj<|AU<|Cw Y Y Y (⟨N g l,ev,m,Y,Y,c⟩)
variable {M:List (List Int)}
theorem P6(l:List Int)(v:Value)(h:Hp)(a:RdL Bg 2 h [] v l)(n:l.length<=1000000):FnT prog 104 #[v] h [] (λx f c=>h=f/\∃m,c=[m]/\OwnL Bg 2 33 m x l):=by
 refine Au func104 ntmps104 Y Y<|λ_ _=>U<|J Y<|X<|U<|G Y<|E (OP a.rd.any Y CJ Y Y) Y<|Ao<|B1 Y (λe=>?_)<|λe=>?_
 .have g:=Lw a.rd e;obtain rfl:l=[]:=dw g;refine U<|J Y<|Aj<|Ae<|Se<|Ar Y Y (⟨Y,_,Y,OwnL.nil FF⟩)
 .refine I<|U ?_;refine AX [] [] [] rfl CJ Av rfl Z V (by repeat (first|exact fu|refine⟨⟨by first|rfl|exact(a.rd.any).cells|exact Rd.cells ‹_›|exact(RdL.rd ‹_›).cells,rfl,rfl⟩,?_⟩)) rfl rfl rfl rfl<|λd=>?_;refine G rfl ?_;have i:OwnL Bg 2 33 (BE d 33 []) (.slice (some ⟨d,0,none⟩) 0 0) []:=OwnL.blk (l:=([]:List Int)) 0 FF rfl Z;refine AL 0 i a.any rfl CJ Av rfl Z rfl rfl rfl E8 (by simp;omega) (by simp;omega) rfl rfl rfl<|λp k b=>?_;refine G rfl<|Ao<|Aj<|Ar rfl rfl (⟨rfl,k,rfl,b⟩)
theorem Abs(n:Nat)(r:n<=1000000)(h:Hp):FnT prog 251 #[.slice none 0 0,.int .i64 n] h [] (λx g e=>h=g/\∃m,e=[m]/\OwnL Bg 2 33 m x []):=by
 have b:RdL Bg 2 h [] (.nl) []:=⟨⟨⟨none,0,Y,ak _,by decide,Y,λh=>lj h H⟩⟩,FF⟩
 refine Au func251 ntmps251 Y Y<|λ_ _=>U<|J Y<|X<|U<|G Y<|J Y<|Ay Y (λf=>?_)<|λf=>?_
 .exact lj f Z
 .refine I<|X<|U<|D Y Y<|E (AaY Y CJ Y) Y<|G Y<|E (EJ (ty:=89) Y CJ Y) Y<|E (oS Y) Y<|E (oS Y) Y<|G Y<|BF<|G Y<|J Y<|Ay Y (λi=>?_)<|λi=>?_
  .refine BW ?_;have j:OwnL Bg 2 33 Hp.emp (.nl) []:=OwnL.nil FF;have c:((0:Nat):Int)-((0:Nat):Int)=0:=rfl;refine Ad<|D Y Y<|E (AaY Y CJ Y) Y<|E (DW _ b.rd.any Y CJ Av Y Y Y Z) Y<|G Y ?_;refine UR 0 (0:Int) j Y CJ U3 Av Y H (E8 _) Y (by show some (Value.w ((n:Int)-(((0:Nat):Int)-((0:Nat):Int))))=_;rw[c,Int.sub_zero]) rfl (by simp;omega) (by simp;omega) rfl rfl rfl<|λp d a=>?_;have k:=OwnL.pre a (n:=0) (fm _);refine G Y<|E (EJ (ty:=89) Y CJ Y) Y<|E (DW 0 (a.rd (h:=h) (ms:=[d]) Mh).rd Y CJ Av Y Y Y Z) Y<|G Y<|BF<|G Y<|J Y<|Aj<|Ar Y Y (⟨Y,_,Y,k⟩)
  .refine I<|U<|G Y<|J Y<|Aj<|Se<|Ar Y Y (⟨Y,_,Y,OwnL.nil FF⟩)
structure GrR(hv:Value)(h:Hp)(vs:List Value)(M:List (List Int)):Prop where
 hd:RdL cU 1 h [] hv vs
 len:vs.length=M.length
 row:∀i (h1:i<vs.length) (h2:i<M.length),RdL Bg 2 h [] vs[i] M[i]
theorem Tx{c:Nat}(h:∀l∈M,l.length=c):M.flatten.length=M.length*c:=by
 induction M with
 | nil=>simp
 | cons l M ih=>rw[List.flatten_cons,ag,ih λx a=>h x (am _ a),h l (ao),de,dq];omega
theorem G7{k:Nat}(h:k<M.length):(M.take (k+1)).flatten=(M.take k).flatten++M[k]:=by rw[ap h,List.flatten_append];simp
theorem Ou(k:Nat):(M.take k).flatten.length<=M.flatten.length:=by
 conv=>rhs;rw[<-d6 k M,List.flatten_append,ag]
 omega
theorem WI(g:Value)(A:List Value)(M:List (List Int))(h:Hp)(G:GrR g h A M)(hn:M.length<=1000)(R:M.flatten.length<=1000000):FnT prog 232 #[g] h [] (λx i a=>h=i/\∃m,a=[m]/\OwnL Bg 2 33 m x M.flatten):=by
 obtain⟨n,L⟩:∃n,M.length=n:=⟨_,Y⟩
 have O:A.length=n:=by rw[G.len,L]
 have u:Rd h [] g 1 n (A.flatMap cU):=by have:=G.hd.rd;rwa [O]at this
 have oh:=u.one;refine Au func232 ntmps232 Y Y<|λ_ _=>U<|Qm Y<|BF<|J Y<|X<|U<|Qm Y<|E (Aw u.any Y AdX Y) Y<|J Y<|Ag<|AC (λq s i a=>∃(k:Nat),q=n-k/\s=[(0,g),(3,.w ((M.take k).flatten.length:Nat)),(9,g),(10,.w (n:Int)),(11,.w k)]/\h=i/\a=[]/\k<=n) (n-0) _ ⟨0,Y,Y,Y,Y,Z⟩ Qs ?_;rintro q s i a ⟨k,rfl,rfl,rfl,rfl,hk⟩;refine U<|J Y<|X<|Ay Y (λK=>?_)<|λK=>?_
 .have hkn:k<n:=Z
  have c:k<A.length:=Z
  have b:k<M.length:=Z
  have cV:=λP=>(G.hd.any (ms:=P)).cell0 c Y;have y:=(G.row k c b).rd;have oK:=y.one;have d:=bh List.length (G7 b);rw[ag]at d;have l:=Ou (M:=M) (k+1);refine I<|X<|Ag<|U<|E (BP (k) u.any Y AdX En Y Y) Y<|Ql Y CJ (cV _)<|Qm Y<|BF<|D Y Y<|E (Aw y.any Y CJ Y) Y<|E (oA Y) Y<|Qm Y<|BF<|Qm Y<|J Y<|Ay Y (λQ=>lj Q<|Z)<|λQ=>Ah<|D2<|Ad<|E (oA Y) Y<|Qm Y<|Am ?_;exact Aq (n-(k+1)) [(0,g),(3,.w (((M.take k).flatten.length:Nat)+(M[k].length:Nat))),(9,g),(10,.w (n:Int)),(11,.w ((k:Int)+1))] Z ⟨k+1,Y,by rw[d];rfl,rfl,rfl,Z⟩ Qs
 .obtain rfl:k=n:=Z
  have f:M.take k=M:=bm Z;rw[f];refine C<|Ab<|U<|Qm Y<|Qc call251 Y (Abs M.flatten.length R h)<|λz h2 ms2 l2 S=>?_;obtain⟨rfl,m,rfl,p⟩:=S;have oz:=p.o1;refine J Y<|X<|U<|Qm Y<|E (Aw u.any Y AdX Y) Y<|J Y<|Ag<|AC (λq s i a=>∃(j:Nat) (v:Value) (B:Hp),q=k-j/\s=[(6,v),(25,g),(26,.w (k:Int)),(27,.w j)]/\h=i/\a=[B]/\j<=k/\OwnL Bg 2 33 B v (M.take j).flatten) (k-0) _ ⟨0,z,m,Y,Y,Y,Y,Z,p⟩ Qs ?_;rintro q s i a ⟨j,v,B,rfl,rfl,rfl,rfl,hj,p⟩;refine U<|J Y<|X<|Ay Y (λt=>?_)<|λt=>?_
  .have c:j<A.length:=Z
   have b:j<M.length:=Z
   have cV:=λP=>(G.hd.any (ms:=P)).cell0 c Y;have y:=(G.row j c b)
   have oK:=y.rd.one;have d:=G7 b;have l:=Ou (M:=M) (j+1);have e:=bh List.length d;rw[ag]at e;have hb:(M.take j).flatten.length+M[j].length<=1000000:=by rw[<-e];exact bl l R
   clear e l;generalize T:(M.take j).flatten=LL at *;refine I<|X<|Ag<|U<|E (BP (j) u.any Y AdX En Y Y) Y<|Ql Y CJ (cV _)<|Qm Y<|HM<|D Y Y<|AL 0 p y.any Y CJ Av Y Z Y Y Y E8 Z Z Y Y Y<|λv' m' r=>?_;rw[<-d]at r;refine Qm Y<|Am<|D2<|Ad<|E (oA Y) Y<|Qm Y<|Am<|Aq (k-(j+1)) _ Z ⟨j+1,v',m',Y,Y,Y,Y,Z,r⟩ Qs
  .obtain rfl:j=k:=Z
   rw[f]at p;refine C<|Ab<|U<|Qm Y<|J Y<|Aj<|Ar Y Y (⟨Y,B,Y,p⟩)
end
section
open Go.Lin Go.Wd
theorem OwnL.repU{g:Nat}{el:TypeId}(n:Nat)(u:Value)(a:n<=9223372036854775807):OwnL cU 1 el (BE g el (replicate n u)) (.slice (some ⟨g,0,none⟩) n n) (replicate n u):=by
 have e:replicate n u=(replicate n u).flatMap cU:=by
  clear a
  induction n with
  | zero=>rfl
  | succ n ih=>rw[List.replicate_succ,flatMap_cons,<-ih];rfl
 conv=>arg 4;rw[e]
 exact OwnL.blk n Hc σ a
theorem AbG{α:Type}(d:List α)(k:Nat)(x u:α):(d++replicate (k+1) u).set d.length x=(d++[x])++replicate k u:=by rw[List.set_append_right _ _ (Nat.le_refl _),Nat.sub_self,List.replicate_succ,List.set_cons_zero,append_assoc];rfl
theorem Ad7(va:Value)(r c:Nat)(f:Nat->Nat->Int)(h:Hp)(A:MW va h r c (Eb r c f)) :
  FnT prog 181 #[va] h [] (λhv x e=>h.le x/\∃d g a,e=[g,d]/\OwnL cU 1 89 g hv a/\VsO Bg 2 33 d a (BN r c f)):=by
 have hr:=A.hr;have L:=A.hc;obtain⟨ea,rfl,S⟩:=A.ex;have oa:=S.rd.one;have hrc:r*c<=200*200:=fx hr L;have elp:=Ci r c f;refine Au func181 ntmps181 Y Y<|λ_ _=>U<|AK [_,_,_] Y Y ξ Y Y Y<|λg1=>J Y<|Ak 0 Y λy l1 i=>?_;have l:=S.up l1;have c0:=qC 0 i Y;have T:=qC 1 i Y;have c2:=qC 2 i Y;refine U<|Qf E3 Y<|Ql Y U3 (c0 _)<|FE (n:=r) Y CK En Y Y Y ξ ξ Z Z Y Y Y<|λg7=>J Y<|X<|U<|G Y<|E (EJ (ty:=220) Y CK Y) Y<|J Y<|Ag<|BW ?_
 refine AC (λq sl x e=>∃(k:Nat) (d g:Hp) (a:List Value),q=r-k/\sl=[(1,.pt g1),(3,.slice (some ⟨g7,0,none⟩) r r),(9,.w r),(10,.w k)]/\y=x/\e=[d,g]/\k<=r/\a.length=k/\OwnL cU 1 89 g (.slice (some ⟨g7,0,none⟩) r r) (a++replicate (r-k) (.nl))/\VsO Bg 2 33 d a ((BN r c f).take k))
  (r-0) _ ⟨0,Hp.emp,_,[],rfl,rfl,rfl,rfl,Z,rfl,OwnL.repU r _ Z,rfl⟩ Qs ?_
 rintro q sl x e ⟨k,d,g,a,rfl,rfl,rfl,rfl,hk,t,z,K⟩;refine U<|J Y<|X<|Ay Y (λM=>?_)<|λM=>?_
 .have j:k<r:=Z
  have d1:(k+1)*c=k*c+c:=by rw[dq,gn]
  have d2:(k+1)*c<=r*c:=eh c j;have d3:((k:Int)+1)*c=k*c+c:=by rw[ko,jh]
  have d4:(k:Int)*c=((k*c:Nat):Int):=(dz k c).symm;have p:=l.rowF j;have hvl:=Cc c (f k);refine I<|X<|Ag<|U<|D Y Y<|HM<|D Y Y<|Qf GF Y<|Ql Y CJ (c2 _)<|G Y<|Qf Dx Y<|Ql Y U3 (T _)<|E (oM Y) Y<|G Y<|E (oA Y) Y<|Qf Dx Y<|Ql Y U3 (T _)<|E (oM Y) Y<|E (H5 (k*c) ((k+1)*c) l.rd.any Y CJ Av Y Y Y Z Z Z Z) Y<|Qc call104 Y (P6 (DC c<|f k) _ y p Z)<|λu h2 ms2 l2 hF=>?_;obtain⟨rfl,Q,rfl,B⟩:=hF;have ou:=B.o1;have R:u.cells=(cU u).toArray:=(B.rd (h:=y) (ms:=[Q]) Mh).rd.cells;have hlen:(a++replicate (r-k) (Value.nl)).length=r:=by rw[ag,length_replicate];omega
  have rH:=(z.rd (h:=y) (ms:=[Q,d,g]) (.tail _ (.tail _ (.head _)))).rd
  have s:(a++replicate (r-k) (Value.nl)).set k u=(a++[u])++replicate (r-(k+1)) (Value.nl):=by rw[<-t,show r-a.length=(r-(a.length+1))+1 by omega,AbG]
  refine E (Cm (k) Y CK En Y Y Z Z) Y ?_;refine EY 2 k u z Y En Y Y R (λc L=>by rw[bj.1 L];exact ou) Y Z Y Y<|λv m=>?_;rw[s]at m;refine Am<|D2<|Ad<|E (oA Y) Y<|G Y<|Am<|HC λb=>?_;have b:[Q,d,v].Pairwise Hp.disj:=b;simp only[pairwise_cons,be,ia,j7,forall_eq_or_imp,forall_eq]at b;have n:=VsO.snoc B K (Hp.disj_symm b.1.1);have O:k<(BN r c f).length:=by rw[DB];exact j
  have P:(BN r c f).take k++[DC c (f k)]=(BN r c f).take (k+1):=by rw[ap O];congr 2;simp[BN]
  rw[P]at n;refine Eo 1 Y<|Jl ?_;exact Aq (r-(k+1)) _ Z ⟨k+1,_,v,a++[u],Y,Y,Y,Y,Z,by rw[ag,t];rfl,m,n⟩ Qs
 .obtain rfl:k=r:=Z
  rw[Nat.sub_self,List.replicate_zero,append_nil]at z;rw[take_of_length_le (by rw[DB];omega)]at K;refine Az (Aa (Aa (Af (Ab (Ax (Qm rfl (Qm rfl (Ao (Aj (Eo 1 rfl ?_))))))))));exact Ar rfl rfl (⟨l1,d,g,a,rfl,z,K⟩)
theorem Oy(i:Value)(r c:Nat)(f:Nat->Nat->Int)(h:Hp)(A:MW i h r c (Eb r c f)) :
  FnT prog 181 #[i] h [] (λj g b=>h.le g/\∃a d,b=[a]/\RdL cU 1 g [] j d/\d.length=r/\VsO Bg 2 33 a d (BN r c f)):=
 FnT.frz (Ad7 i r c f h A) λj g b ⟨l,a,n,d,e,O,s⟩=>⟨n,[a],e,λp k m=>⟨N l k,a,d,rfl,O.rdh m,by rw[s.len,DB],s⟩⟩
theorem AbI(a:Value)(e:List Value)(M:List (List Int))(c:Nat)(h:Hp)(G:GrR a h e M)(j:M.length<=1000)(k:M.flatten.length<=1000000) :
  FnT prog 187 #[a,.w c] h [] (λw g d=>h=g/\∃ev m,d=[m]/\w=.agg #[.w M.length,.w c,ev]/\OwnL Bg 2 33 m ev M.flatten):=by
 have f:Rd h [] a 1 M.length (e.flatMap cU):=by have:=G.hd.rd;rwa [G.len]at this
 have t:=f.one;refine Au func187 ntmps187 Y Y<|λ_ _=>U<|BJ [.w 0,.w 0,.nl] Y BQ Y Y<|λp=>BF<|Qm Y<|E (Aw f.any Y CK Y) Y<|D Y Y<|Qc call232 Y (WI a e M h G j k)<|λz r n s i=>?_;obtain⟨rfl,m,rfl,b⟩:=i;have u:=b.o1;obtain⟨x,y,rfl,_⟩:=(b.rd (h:=h) (ms:=[m]) Mh).rd.ex;refine E (AQ Agj [.w 0,.w 0,.nl] [(0,_),(1,_),(2,_)] [_,_,_] Y BQ Y Y Qt Y) Y ?_;refine Sa 1 [_,_,_] BQ Y (by simp[Value.oneCell']) ?_;refine Ao<|Aj<|BC (vs:=[_,_,_]) 1 Y Y Iw Y BQ Y Y (⟨Y,_,m,Y,Y,b⟩)
theorem KA(d:Value)(f:List Value)(M:List (List Int))(c:Nat)(h:Hp)(G:GrR d h f M)(i:M.length<=1000)(j:M.flatten.length<=1000000) :
  FnT prog 187 #[d,.w c] h [] (λw b a=>h.le b/\a=[]/\∃ev,w=.agg #[.w M.length,.w c,ev]/\RdL Bg 2 b [] ev M.flatten):=
 FnT.frz (AbI d f M c h G i j) λw b a ⟨l,ev,m,e,g,O⟩=>⟨m,[],e,λp k n=>⟨by rw[l];exact k,Y,ev,g,O.rdh n⟩⟩
theorem EH(n:Nat)(c:n<=200)(h:Hp):FnT prog 180 #[.int .i64 n] h [] (λv b a=>h.le b/\a=[]/\MW v b n n (Eb n n JF)):=
 FnT.frz (Aem n c h) λv b a ⟨l,ev,m,e,d,O⟩=>⟨m,[],e,λi f g=>⟨N l f,rfl,c,c,Ci _ _ _,ev,d,O.rdh g⟩⟩
open Go.Sm
set_option exponentiation.threshold 4000000 in
theorem Sz.of{B:Nat}{n:Int}(h:Bq B n)(a:B<=3000000):Sz n:=by unfold Sz;rw[FA,Cp H];refine b7 h ?_;rw[show(256:Nat)=2^8 from Y,<-Nat.pow_mul];exact dn H Z
theorem F4{h:Hp}{a:List Hp}{p:Addr}{c b:List Value}(S:Seg h a p c)(k:Nat)(d:∀j v,b[j]?=some v->c[k+j]?=some v):Seg h a (p.add k) b:=λj v e=>by rw[BD];exact S (k+j) v<|d j v e
def cT(t:Tn):List Value:=Bg t.a++Bg t.b++Bg t.c++Bg t.d
def TV(t:Tn):Value:=.agg (cT t).toArray
theorem QO(t:Tn)(x y:Int)(B:Nat)(ht:BqT t)(P:Bq B x)(Q:Bq B y)(hB:B<=1000000)(h:Hp)(f:List Hp):FnV prog 250 #[TV t,WD x,WD y] h f (.tuple #[WD (t.a*x+t.b*y),WD (t.c*x+t.d*y)]):=by
 refine D9 ?_ f;obtain⟨a,b,c,d⟩:=t;obtain⟨K,L,M,O⟩:=ht;have zA:=Sz.of K H;have zB:=Sz.of L H;have zC:=Sz.of M H;have zD:=Sz.of O H;have Sx:=Sz.of P Z;have Sy:=Sz.of Q Z;have m:=Sz.of (K.mul P) Z;have p:=Sz.of (L.mul Q) Z;have r:=Sz.of (M.mul P) Z;have s:=Sz.of (O.mul Q) Z;have g:=λn:Int=>AA (Ba n.natAbs);have o1:=g a;have S:=g b;have T:=g c;have o4:=g d;have o5:=g x;have o6:=g y;have o7:=g (a*x+b*y);have o8:=g (c*x+d*y)
 dsimp only at K L M O m p r s zA zB zC zD ⊢
 show FnT _ _ #[.agg #[.bool (decide (a<0)),sv (Ba a.natAbs),.bool (decide (b<0)),sv (Ba b.natAbs),.bool (decide (c<0)),sv (Ba c.natAbs),.bool (decide (d<0)),sv (Ba d.natAbs)],WD x,WD y] _ _ _;refine Au func250 ntmps250 Y Y<|λ_ _=>U<|AK [_,_,_,_,_,_,_,_] Y Y ξ Y Y Y<|λl=>AK [_,_] Y Y ξ Y Y Y<|λg4=>AK [_,_] Y Y ξ Y Y Y<|λg5=>BJ [.bool false,.es] Y Av Y Y<|λg6=>BJ [.bool false,.es] Y Av Y Y<|λg7=>Ao<|Ak 2 Y λh1 l1 A=>Ak 2 Y λh2 l2 z=>Ak 2 Y λi R u=>?_;have S4:=z.le R;have S5:=A.le (N l2 R);have k:=u;have sa:∀f,Seg i f ((⟨l,0,none⟩:Addr).add 0) (Bg a):=λf=>F4 (Seg.any k) 0 (λj v e=>by match j,e with|0,e=>exact e|1,e=>exact e);have sb:∀f,Seg i f ((⟨l,0,none⟩:Addr).add 2) (Bg b):=λf=>F4 (Seg.any k) 2 (λj v e=>by match j,e with|0,e=>exact e|1,e=>exact e);have sc:∀f,Seg i f ((⟨l,0,none⟩:Addr).add 4) (Bg c):=λf=>F4 (Seg.any k) 4 (λj v e=>by match j,e with|0,e=>exact e|1,e=>exact e);have sd:∀f,Seg i f ((⟨l,0,none⟩:Addr).add 6) (Bg d):=λf=>F4 (Seg.any k) 6 (λj v e=>by match j,e with|0,e=>exact e|1,e=>exact e);have sx:∀f,Seg i f (⟨g4,0,none⟩:Addr) (Bg x):=λf=>S4.any;have sy:∀f,Seg i f (⟨g5,0,none⟩:Addr) (Bg y):=λf=>S5.any;refine X<|AS (n:=20) (bs:=[W,W,W,W,W,W,W,W,W,W,W,W,W,W,W,W,W,W,lw,lw]) [W,W,W,W,W,W,W,W,W,W,W,W,W,W,W,W,W,W] Cx V V Y Y<|QF MO Y<|Qp Y (oG Y Bn Av<|sa _)<|Qp Y (oG Y Bn Av<|sx _)<|Qp Y (As Y call141 Y<|IV _ _ (by assumption) (by assumption) _ _)<|QF Mv Y<|Qp Y (oG Y Bn Av<|sb _)<|Qp Y (oG Y Bn Av<|sy _)<|Qp Y (As Y call141 Y<|IV _ _ (by assumption) (by assumption) _ _)<|Qp Y (As Y call156 Y<|Nz _ _ (by assumption) (by assumption) _ _)<|QF Mp Y<|Qp Y (oG Y Bn Av<|sc _)<|Qp Y (oG Y Bn Av<|sx _)<|Qp Y (As Y call141 Y<|IV _ _ (by assumption) (by assumption) _ _)<|QF Ms Y<|Qp Y (oG Y Bn Av<|sd _)<|Qp Y (oG Y Bn Av<|sy _)<|Qp Y (As Y call141 Y<|IV _ _ (by assumption) (by assumption) _ _)<|Qp Y (As Y call156 Y<|Nz _ _ (by assumption) (by assumption) _ _) ?_;refine Qo 18 Y ?_;refine Sa 1 [_,_] Av Y (by simp[o1,S,T,o4,o5,o6,o7,o8]) ?_;refine Qw<|Qo 19 Y ?_;refine Sa 0 [_,_] Av Y (by simp[o1,S,T,o4,o5,o6,o7,o8]) ?_;refine Qw<|Qe<|Ab<|Aj<|Eo 1 Y<|Ab0 (vs:=[_,_]) (vs2:=[_,_]) Y Y Y Bn Y Av Y Y Y
variable {h m:Hp} {vs:List Value} {n c i:Nat} {ms:List Hp} {el:TypeId} {M:List (List Int)}
theorem DR{e:Entry}{Q:Exit->Act->World->Prop}{k:Array Oper}{b:List Oper}{o:Oper}{s:AG}{t:TypeId}{x y:Operand}{z:Value}{d:Nat}(i j:Nat)(a:Int)(S:Shape n c M)(C:VsO Bg 2 el m vs M)(r:i<n)(R:j<c)(v:Value)(A:vs[i]?=some v)(T:o.op=.store t x y)(hs:Elem e.P t 2 z d)(hx:ev s x=some (.pointer (some ((AJ v).add (j*2)))))(hy:ev s y=some (WD a))
  (O:o.dst=none) (P:o.guard=none)
  (K:∀l,VsO Bg 2 el l vs (F9 M i j a)->WL e k Q b s h (l::ms)):WL e k Q (o::b) s h (m::ms):=by
 have f:i<M.length:=by rw[S.len];exact r
 have g:i<vs.length:=by rw[C.len];exact f
 have L:vs[i]=v:=by rw[aj g]at A;exact ay A
 have u:=S.row i r;have p:M.getD i []=M[i]:=by simp[List.getD,f]
 rw[p]at u;refine We i j a C g f (by rw[u];exact R) T hs (by rw[L];exact hx) hy Y (E8 _) O P λl B=>K l ?_;unfold F9;rw[p];exact B
theorem Ha{j:Nat}(S:Shape n c M)(C:VsO Bg 2 el m vs M)(r:m∈ms)(f:i<n)(p:j<c){v:Value}(k:vs[i]?=some v):Seg h ms ((AJ v).add (j*2)) (Bg (AP M i j)):=by
 have a:i<M.length:=by rw[S.len];exact f
 have b:i<vs.length:=by rw[C.len];exact a
 have l:vs[i]=v:=by rw[aj b]at k;exact ay k
 have g:=S.row i f;have e:M.getD i []=M[i]:=by simp[List.getD,a]
 rw[e]at g;have R:=C.rd (h:=h) r b a;rw[l]at R;have d:j<M[i].length:=by rw[g];exact p
 have:=R.seg d;unfold AP;rw[e];simpa[List.getD,d] using this
theorem FC(S:Shape n c M)(C:VsO Bg 2 el m vs M)(k:m∈ms)(d:i<n){v:Value}(f:vs[i]?=some v):∃cs,Rd h ms v 2 c cs:=by
 have a:i<M.length:=by rw[S.len];exact d
 have b:i<vs.length:=by rw[C.len];exact a
 have g:vs[i]=v:=by rw[aj b]at f;exact ay f
 have e:=S.row i d;have j:M.getD i []=M[i]:=by simp[List.getD,a]
 rw[j]at e;have R:=(C.rd (h:=h) k b a).rd;rw[g,e]at R;exact⟨_,R⟩
theorem Hu{b:Value}(f:RdL cU 1 h [] b vs)(e:vs.length=n)(d:i<n):∃v,vs[i]?=some v/\∀ms,Cell h ms ((AJ b).add (i*1)) v:=by
 have a:i<vs.length:=Z
 exact⟨vs[i],aj a,λms=>(f.any (ms:=ms)).cell0 a Y⟩
theorem AbQ(t:Tn)(x:BqT t)(h:Hp)(ms:List Hp):FnV prog 229 #[TV t] h ms (TV ⟨t.d,-t.b,-t.c,t.a⟩):=by
 refine D9 ?_ ms;obtain⟨a,b,c,d⟩:=t;obtain⟨s,p,r,u⟩:=x;have R:=Sz.of p H;have S:=Sz.of r H;have g:=λn:Int=>AA (Ba n.natAbs);have o1:=g a;have z:=g (-b);have A:=g (-c);have B:=g d;have K:=g b;have L:=g c
 dsimp only at s p r u R S ⊢
 show FnT _ _ #[.agg #[.bool (decide (a<0)),sv (Ba a.natAbs),.bool (decide (b<0)),sv (Ba b.natAbs),.bool (decide (c<0)),sv (Ba c.natAbs),.bool (decide (d<0)),sv (Ba d.natAbs)]] _ _ _;refine Au func229 ntmps229 Y Y<|λ_ _=>U<|AK [_,_,_,_,_,_,_,_] Y Y ξ Y Y Y<|λk=>BJ [.bool false,.es,.bool false,.es,.bool false,.es,.bool false,.es] Y DL Y Y<|λT=>Ao<|Ak 1 Y λl l1 f=>?_;have O:∀ms,Seg l ms ((⟨k,0,none⟩:Addr).add 0) (Bg a):=λms=>F4 (Seg.any f) 0 (λj v e=>by match j,e with|0,e=>exact e|1,e=>exact e);have P:∀ms,Seg l ms ((⟨k,0,none⟩:Addr).add 2) (Bg b):=λms=>F4 (Seg.any f) 2 (λj v e=>by match j,e with|0,e=>exact e|1,e=>exact e);have sc:∀ms,Seg l ms ((⟨k,0,none⟩:Addr).add 4) (Bg c):=λms=>F4 (Seg.any f) 4 (λj v e=>by match j,e with|0,e=>exact e|1,e=>exact e);have Q:∀ms,Seg l ms ((⟨k,0,none⟩:Addr).add 6) (Bg d):=λms=>F4 (Seg.any f) 6 (λj v e=>by match j,e with|0,e=>exact e|1,e=>exact e);refine X<|AS (n:=12) (bs:=[W,W,W,W,W,W,W,W,W,W,W,lw]) [W,W,W,W,W,W,W,W,W,W,W] Cx V V Y Y<|QF Ms Y<|Qp Y (oG Y Bn Av<|Q _)<|QF Mv Y<|Qp Y (oG Y Bn Av<|P _)<|Qp Y (As Y call231 Y<|J2 _ (by assumption) _ _)<|QF Mp Y<|Qp Y (oG Y Bn Av<|sc _)<|Qp Y (As Y call231 Y<|J2 _ (by assumption) _ _)<|QF MO Y<|Qp Y (oG Y Bn Av<|O _)<|Qp Y (AQ Mc [.bool false,.es,.bool false,.es,.bool false,.es,.bool false,.es] [(0,_),(2,_),(4,_),(6,_)] [_,_,_,_,_,_,_,_] Y DL Y Y Qt Y) ?_;refine Qo 11 Y ?_;refine Sa 0 [_,_,_,_,_,_,_,_] DL Y (by simp[o1,z,A,B,K,L]) ?_;refine Qw<|Qe<|Ab<|Aj<|BC (vs:=[_,_,_,_,_,_,_,_]) 0 Y Y Mi Y DL Y Y<|Y
theorem NO(hv:Value)(vs:List Value)(M:List (List Int))(n c i k B:Nat)(t:Tn)(h m:Hp)(H:RdL cU 1 h [] hv vs)(hl:vs.length=n)(hn:n<=1000)(hc:c<=1000)(S:Shape n c M)(hB:BqM B M)(ht:BqT t)(hB2:B<=900000)(z:i<n)(R:k<n)(hik:i≠k)(V:VsO Bg 2 33 m vs M) :
  FnT prog 228 #[hv,.w i,.w k,TV t] h [m] (λ_ T g=>h.le T/\∃m',g=[m']/\VsO Bg 2 33 m' vs (FH i k t M c)):=by
 obtain⟨a,b,e,d⟩:=t;have K:=λn:Int=>AA (Ba n.natAbs);have o1:=K a;have o2:=K b;have o3:=K e;have o4:=K d;show FnT _ _ #[hv,.w i,.w k,.agg #[.bool (decide (a<0)),sv (Ba a.natAbs),.bool (decide (b<0)),sv (Ba b.natAbs),.bool (decide (e<0)),sv (Ba e.natAbs),.bool (decide (d<0)),sv (Ba d.natAbs)]] _ _ _;have rH:Rd h [] hv 1 n (vs.flatMap cU):=by have:=H.rd;rwa [hl]at this
 have oh:=rH.one;refine Au func228 ntmps228 Y Y<|λ_ _=>U<|AK [_,_,_,_,_,_,_,_] Y Y ξ Y Y Y<|λg7=>Ao<|Ak 0 Y λh1 l1 hS7=>?_;have sT:∀ms,Seg h1 ms (⟨g7,0,none⟩:Addr) (cT ⟨a,b,e,d⟩):=λms=>hS7.any;have H1:=H.up l1;have p:=rH.le l1;obtain⟨vi,l,L⟩:=Hu H1 hl z;obtain⟨vk,r,cvk⟩:=Hu H1 hl R;obtain⟨_,rI⟩:=FC (h:=h1) (ms:=[m]) S V Mh z l;have oi:=rI.one;refine U<|D Y Y<|E (BP (i) p.any Y CK En Y Y) Y<|Ql Y CJ (L _)<|E (Aw rI Y CJ Y) Y<|J Y<|Ag<|AC (λq sl T g=>∃(j:Nat) (A:Hp),c-j=q/\sl=[(0,hv),(1,.w i),(2,.w k),(7,.pt g7),(13,.w c),(14,.w j)]/\h1=T/\g=[A]/\j<=c/\VsO Bg 2 33 A vs (FH i k ⟨a,b,e,d⟩ M j)) (c-0) _ ⟨0,m,Y,Y,Y,Y,Z,V⟩ Qs ?_;rintro q sl T g ⟨j,A,rfl,rfl,rfl,rfl,hj,O⟩;refine U<|J Y<|X<|Ay Y (λhlt=>?_)<|λhlt=>?_
 .have f:j<c:=Z
  have v:=S.rows i k ⟨a,b,e,d⟩ j;obtain⟨_,rI⟩:=FC (h:=h1) (ms:=[A]) v O Mh z l;obtain⟨_,rK⟩:=FC (h:=h1) (ms:=[A]) v O Mh R r;have ok:=rK.one;have eI:AP (FH i k ⟨a,b,e,d⟩ M j) i j=AP M i j:=by rw[GC S _ z R hik j Z,af Z]
  have eK:AP (FH i k ⟨a,b,e,d⟩ M j) k j=AP M k j:=by rw[GC S _ z R hik j Z,af Z]
  have sI:∀h ms,A∈ms->Seg h ms ((AJ vi).add (j*2)) (Bg (AP M i j)):=λh ms hm=>by
   have:=Ha (h:=h) v O hm z f l
   rwa [eI]at this
  have sK:∀h ms,A∈ms->Seg h ms ((AJ vk).add (j*2)) (Bg (AP M k j)):=λh ms hm=>by
   have:=Ha (h:=h) v O hm R f r
   rwa [eK]at this
  have hst:FH i k ⟨a,b,e,d⟩ M (j+1)=F9 (F9 (FH i k ⟨a,b,e,d⟩ M j) i j (a*AP M i j+b*AP M k j)) k j (e*AP M i j+d*AP M k j):=by show Jz _ _ _ _ _=_;unfold Jz;rw[eI,eK]
  have hbI:=hB i j;have hbK:=hB k j;generalize AP M i j=x at *;generalize AP M k j=y at *;have ox_:=K x;have oy_:=K y;have op1:=K (a*x+b*y);have op2:=K (e*x+d*y);refine I<|Bu (λsl T g=>∃u,sl=[(0,hv),(1,.w i),(2,.w k),(7,.pt g7),(13,.w c),(14,.w j)]/\h1=T/\g=[u]/\VsO Bg 2 33 u vs (FH i k ⟨a,b,e,d⟩ M (j+1))) ?_<|λs h ms hI=>?_
  .refine Ag<|U<|G Y<|J Y<|AS (n:=33) (bs:=[W,W,W,W,W,W,W,W,W,W,W,W,W,W,W,W,W,lw,W,W,W,W,W,W,lw,lw,lw,lw,lw,W,lw,W,lw]) [W,W,W,W,W,W,W,W,W,W,W,W,W,W,W,W,W,lw,W,W,W,W,W,W,lw,lw,lw,lw,lw,W,lw,W] Cx κ κ Y Y<|Qq Y<|Qq Y<|Qp Y (BP (i) p.any Y CK En Y Y)<|QL Y CJ (L _)<|Qq Y<|Qq Y<|Qq Y<|Qp Y (BP (k) p.any Y CK En Y Y)<|QL Y CJ (cvk _)<|Qq Y<|Qp Y (oG Y Mi DL<|sT _)<|Qq Y<|Qq Y<|Qp Y (BP (i) p.any Y CK En Y Y)<|QL Y CJ (L _)<|Qq Y<|Qp Y (Be (j) rI Y CJ Av Y Y Z Z)<|Qq Y<|Qq Y<|Qp Y (BP (k) p.any Y CK En Y Y)<|QL Y CJ (cvk _)<|Qq Y<|Qp Y (Be (j) rK Y CJ Av Y Y Z Z)<|Qp Y (Be (j) rI Y CJ Av Y Y Z Z)<|Qp Y (Be (j) rK Y CJ Av Y Y Z Z)<|AO [17,24] κ Y<|Al Y ?_ ?_
   .refine E (oG Y Bn Av<|sI _ _ Mh) Y<|Qw<|Qo 24 Y<|E (oG Y Bn Av<|sK _ _ Mh) Y<|Qw<|Qo 25 Y<|E (As Y call250 Y<|QO ⟨a,b,e,d⟩ x y B ht hbI hbK Z _ _) Y<|Qw<|A7 26 17 κ Y (Bk) Y (Ap Y Y)<|A7 27 44 κ Y (Bk) Y (Bo Y Y Y)<|A7 28 45 κ Y (Bk) Y (Bo Y Y Y)<|Qo 30 Y<|DR i j (a*x+b*y) v O z f vi l Y Av Y Y Y Y<|λm1 P=>Qw<|Qo 32 Y<|DR k j (e*x+d*y) (v.set _ _ _) P R f vk r Y Av Y Y Y Y<|λm2 Q=>Qw<|Qe<|Ai<|AI _ ⟨m2,Y,Y,Y,by rw[hst];exact Q⟩ Qs
   refine Al Y ?_ ?_
   .refine E (oG Y Bn Av<|sK _ _ Mh) Y<|Qw<|Qo 17 Y<|E (oG Y Bn Av<|sI _ _ Mh) Y<|Qw<|Qo 25 Y<|E (As Y call250 Y<|QO ⟨a,b,e,d⟩ x y B ht hbI hbK Z _ _) Y<|Qw<|A7 26 17 κ Y (Bk) Y (Ap Y Y)<|A7 27 44 κ Y (Bk) Y (Bo Y Y Y)<|A7 28 45 κ Y (Bk) Y (Bo Y Y Y)<|Qo 30 Y<|DR i j (a*x+b*y) v O z f vi l Y Av Y Y Y Y<|λm1 P=>Qw<|Qo 32 Y<|DR k j (e*x+d*y) (v.set _ _ _) P R f vk r Y Av Y Y Y Y<|λm2 Q=>Qw<|Qe<|Ai<|AI _ ⟨m2,Y,Y,Y,by rw[hst];exact Q⟩ Qs
   exact AN
  .obtain⟨u,rfl,rfl,rfl,hV'⟩:=hI;refine Ad<|E (oA Y) Y<|G Y<|Am<|Aq (c-(j+1)) _ Z ⟨j+1,u,Y,Y,Y,Y,Z,hV'⟩ Qs
 .obtain rfl:j=c:=Z
  refine C<|CC Y (⟨l1,A,Y,O⟩)
end
section
open Go.Lin Go.Wd Go.Sm
theorem M5(T:Value)(P:List Value)(M:List (List Int))(n c i k B:Nat)(t:Tn)(h m:Hp)(H:RdL cU 1 h [] T P)(hl:P.length=n)(hn:n<=1000)(hc:c<=1000)(S:Shape n c M)(hB:BqM B M)(ht:BqT t)(hB2:B<=900000)(hi:i<c)(hk:k<c)(hik:i≠k)(V:VsO Bg 2 33 m P M) :
  FnT prog 230 #[T,.w i,.w k,TV t] h [m] (λ_ Q l=>h.le Q/\∃m',l=[m']/\VsO Bg 2 33 m' P (FL i k t M n)):=by
 obtain⟨a,b,e,d⟩:=t;have z:=λn:Int=>AA (Ba n.natAbs);have o1:=z a;have o2:=z b;have o3:=z e;have o4:=z d;show FnT _ _ #[T,.w i,.w k,.agg #[.bool (decide (a<0)),sv (Ba a.natAbs),.bool (decide (b<0)),sv (Ba b.natAbs),.bool (decide (e<0)),sv (Ba e.natAbs),.bool (decide (d<0)),sv (Ba d.natAbs)]] _ _ _;have rH:Rd h [] T 1 n (P.flatMap cU):=by have:=H.rd;rwa [hl]at this
 have oh:=rH.one;refine Au func230 ntmps230 Y Y<|λ_ _=>U<|AK [_,_,_,_,_,_,_,_] Y Y ξ Y Y Y<|λg7=>Ao<|Ak 0 Y λh1 l1 hS7=>?_;have sT:∀p,Seg h1 p (⟨g7,0,none⟩:Addr) (cT ⟨a,b,e,d⟩):=λp=>hS7.any;have H1:=H.up l1;have r:=rH.le l1;refine U<|G Y<|E (Aw r.any Y CK Y) Y<|J Y<|Ag<|AC (λq sl Q l=>∃(j:Nat) (O:Hp),n-j=q/\sl=[(0,T),(1,.w i),(2,.w k),(7,.pt g7),(10,.w n),(11,.w j)]/\h1=Q/\l=[O]/\j<=n/\VsO Bg 2 33 O P (FL i k ⟨a,b,e,d⟩ M j)) (n-0) _ ⟨0,m,Y,Y,Y,Y,Z,V⟩ Qs ?_;rintro q sl Q l ⟨j,O,rfl,rfl,rfl,rfl,hj,R⟩;refine U<|J Y<|X<|Ay Y (λhlt=>?_)<|λhlt=>?_
 .have f:j<n:=Z
  have A:=S.cols i k ⟨a,b,e,d⟩ j;obtain⟨vj,g,u⟩:=Hu H1 hl f;obtain⟨_,rI⟩:=FC (h:=h1) (ms:=[O]) A R Mh f g;have ok:=rI.one;have eI:AP (FL i k ⟨a,b,e,d⟩ M j) j i=AP M j i:=by rw[GM S _ hi hk hik j Z,af Z]
  have eK:AP (FL i k ⟨a,b,e,d⟩ M j) j k=AP M j k:=by rw[GM S _ hi hk hik j Z,af Z]
  have sI:∀h p,O∈p->Seg h p ((AJ vj).add (i*2)) (Bg (AP M j i)):=λh p hm=>by
   have:=Ha (h:=h) A R hm f hi g
   rwa [eI]at this
  have sK:∀h p,O∈p->Seg h p ((AJ vj).add (k*2)) (Bg (AP M j k)):=λh p hm=>by
   have:=Ha (h:=h) A R hm f hk g
   rwa [eK]at this
  have hst:FL i k ⟨a,b,e,d⟩ M (j+1)=F9 (F9 (FL i k ⟨a,b,e,d⟩ M j) j i (a*AP M j i+b*AP M j k)) j k (e*AP M j i+d*AP M j k):=by show Jn _ _ _ _ _=_;unfold Jn;rw[eI,eK]
  have hbI:=hB j i;have hbK:=hB j k;generalize AP M j i=x at *;generalize AP M j k=y at *;have ox_:=z x;have oy_:=z y;have op1:=z (a*x+b*y);have op2:=z (e*x+d*y);refine I<|Bu (λsl Q l=>∃v,sl=[(0,T),(1,.w i),(2,.w k),(7,.pt g7),(10,.w n),(11,.w j)]/\h1=Q/\l=[v]/\VsO Bg 2 33 v P (FL i k ⟨a,b,e,d⟩ M (j+1))) ?_<|λs h p hI=>?_
  .refine Ag<|U<|G Y<|J Y<|AS (n:=33) (bs:=[W,W,W,W,W,W,W,W,W,W,W,W,W,W,W,W,W,lw,W,W,W,W,W,W,lw,lw,lw,lw,lw,W,lw,W,lw]) [W,W,W,W,W,W,W,W,W,W,W,W,W,W,W,W,W,lw,W,W,W,W,W,W,lw,lw,lw,lw,lw,W,lw,W] Cx κ κ Y Y<|Qq Y<|Qq Y<|Qp Y (BP (j) r.any Y CK En Y Y)<|QL Y CJ (u _)<|Qq Y<|Qq Y<|Qq Y<|Qp Y (BP (j) r.any Y CK En Y Y)<|QL Y CJ (u _)<|Qq Y<|Qp Y (oG Y Mi DL<|sT _)<|Qq Y<|Qq Y<|Qp Y (BP (j) r.any Y CK En Y Y)<|QL Y CJ (u _)<|Qq Y<|Qp Y (Be (i) rI Y CJ Av Y Y Z Z)<|Qq Y<|Qq Y<|Qp Y (BP (j) r.any Y CK En Y Y)<|QL Y CJ (u _)<|Qq Y<|Qp Y (Be (k) rI Y CJ Av Y Y Z Z)<|Qp Y (Be (i) rI Y CJ Av Y Y Z Z)<|Qp Y (Be (k) rI Y CJ Av Y Y Z Z)<|AO [17,24] κ Y<|Al Y ?_ ?_
   .refine E (oG Y Bn Av<|sI _ _ Mh) Y<|Qw<|Qo 24 Y<|E (oG Y Bn Av<|sK _ _ Mh) Y<|Qw<|Qo 25 Y<|E (As Y call250 Y<|QO ⟨a,b,e,d⟩ x y B ht hbI hbK Z _ _) Y<|Qw<|A7 26 14 κ Y (Bk) Y (Ap Y Y)<|A7 27 41 κ Y (Bk) Y (Bo Y Y Y)<|A7 28 42 κ Y (Bk) Y (Bo Y Y Y)<|Qo 30 Y<|DR j i (a*x+b*y) A R f hi vj g Y Av Y Y Y Y<|λm1 K=>Qw<|Qo 32 Y<|DR j k (e*x+d*y) (A.set _ _ _) K f hk vj g Y Av Y Y Y Y<|λm2 L=>Qw<|Qe<|Ai<|AI _ ⟨m2,Y,Y,Y,by rw[hst];exact L⟩ Qs
   refine Al Y ?_ ?_
   .refine E (oG Y Bn Av<|sK _ _ Mh) Y<|Qw<|Qo 17 Y<|E (oG Y Bn Av<|sI _ _ Mh) Y<|Qw<|Qo 25 Y<|E (As Y call250 Y<|QO ⟨a,b,e,d⟩ x y B ht hbI hbK Z _ _) Y<|Qw<|A7 26 14 κ Y (Bk) Y (Ap Y Y)<|A7 27 41 κ Y (Bk) Y (Bo Y Y Y)<|A7 28 42 κ Y (Bk) Y (Bo Y Y Y)<|Qo 30 Y<|DR j i (a*x+b*y) A R f hi vj g Y Av Y Y Y Y<|λm1 K=>Qw<|Qo 32 Y<|DR j k (e*x+d*y) (A.set _ _ _) K f hk vj g Y Av Y Y Y Y<|λm2 L=>Qw<|Qe<|Ai<|AI _ ⟨m2,Y,Y,Y,by rw[hst];exact L⟩ Qs
   exact AN
  .obtain⟨v,rfl,rfl,rfl,hV'⟩:=hI;refine Ad<|E (oA Y) Y<|G Y<|Am<|Aq (n-(j+1)) _ Z ⟨j+1,v,Y,Y,Y,Y,Z,hV'⟩ Qs
 .obtain rfl:j=n:=Z
  refine C<|CC Y (⟨l1,O,Y,R⟩)
structure Wk where
 (g n m:Nat)
 (hu hui hd hv hvi:Value)
 (vu vui vd vv vvi:List Value)
structure Wk.In(k:Wk)(h:Hp):Prop where
 seg:Seg h [] ⟨k.g,0,none⟩ [k.hu,k.hui,k.hd,k.hv,k.hvi,.w k.n,.w k.m]
 hn:k.n<=200
 hm:k.m<=200
 ru:RdL cU 1 h [] k.hu k.vu
 rui:RdL cU 1 h [] k.hui k.vui
 rd:RdL cU 1 h [] k.hd k.vd
 rv:RdL cU 1 h [] k.hv k.vv
 rvi:RdL cU 1 h [] k.hvi k.vvi
 lu:k.vu.length=k.n
 lui:k.vui.length=k.n
 ld:k.vd.length=k.n
 lv:k.vv.length=k.m
 lvi:k.vvi.length=k.m
theorem Wk.In.le{k:Wk}{h a:Hp}(I:k.In h)(l:h.le a):k.In a:=
 ⟨I.seg.le l,I.hn,I.hm,I.ru.up l,I.rui.up l,I.rd.up l,I.rv.up l,I.rvi.up l,I.lu,I.lui,I.ld,I.lv,I.lvi⟩
def FsO(k:Wk)(S:FS)(ms:List Hp):Prop:=∃mu mui md mv mvi,ms=[mu,mui,md,mv,mvi]/\VsO Bg 2 33 mu k.vu S.u/\VsO Bg 2 33 mui k.vui S.ui/\VsO Bg 2 33 md k.vd S.d/\VsO Bg 2 33 mv k.vv S.v/\VsO Bg 2 33 mvi k.vvi S.vi
theorem OI(k:Wk)(S:FS)(i j B:Nat)(t:Tn)(h:Hp)(f:List Hp)(I:k.In h)(x:S.Ok k.n k.m B)(P:BqT t)(hB:B<=800000)(hi:i<k.n)(hj:j<k.n)(s:i≠j)(F:FsO k S f) :
  FnT prog 185 #[.pointer (some ⟨k.g,0,none⟩),.w i,.w j,TV t] h f (λ_ L ms'=>h.le L/\FsO k (S.rop k.n k.m i j t) ms'):=by
 obtain⟨mu,R,md,mv,mvi,rfl,Vu,Vui,Vd,Vv,Vvi⟩:=F;have hn:=I.hn;have hm:=I.hm;have htb:=P.back;have htk:=P.bk;have r:=λh f=>AbQ t P h f;obtain⟨a,b,c,d⟩:=t;have y:=λn:Int=>AA (Ba n.natAbs);have o1:=y a;have o2:=y b;have o3:=y c;have o4:=y d;have o5:=y (-b);have o6:=y (-c);show FnT _ _ #[.pointer (some ⟨k.g,0,none⟩),.w i,.w j,.agg #[.bool (decide (a<0)),sv (Ba a.natAbs),.bool (decide (b<0)),sv (Ba b.natAbs),.bool (decide (c<0)),sv (Ba c.natAbs),.bool (decide (d<0)),sv (Ba d.natAbs)]] _ _ _;refine Au func185 ntmps185 Y Y<|λw0 hw0=>U<|AK [_,_,_,_,_,_,_,_] Y Y ξ Y Y Y<|λg7=>Ao<|Ak 0 Y λh1 l1 hS7=>?_;have g:=I.le l1;have sT:∀L,h1.le L->∀f,Seg L f (⟨g7,0,none⟩:Addr) (cT ⟨a,b,c,d⟩):=λL l f=>Seg.any (hS7.le l);have cd_:=qD 2 g.seg Y;have cu_:=qD 0 g.seg Y;have K:=qD 1 g.seg Y;have od:=g.rd.rd.one;have ou:=g.ru.rd.one;have oui:=g.rui.rd.one;refine Et 2 Y<|X<|AS (n:=9) (bs:=[W,W,W,W,W,W,W,W,lw]) [W,W,W,W,W,W,W,W] Cx V V Y Y<|Qq Y<|Qq Y<|QF Cj Y<|QF Em Y<|QL Y CK (cd_ _ (Bk) _)<|Qq Y<|Qq Y<|Qp Y (oG Y Mi DL<|sT _ (Bk) _)<|Qo 8 Y<|AE (pre:=[md]) Y call228 Y (NO k.hd k.vd S.d k.n k.m i j B ⟨a,b,c,d⟩ h1 md g.rd g.ld Z Z x.sd x.bd P Z hi hj s Vd) Y Y Y Y<|λz h2 ms2 l2 O=>?_;obtain⟨p,md',rfl,Vd'⟩:=O;refine Qa<|Qe<|Ab<|Et 1 Y<|X<|AS (n:=9) (bs:=[W,W,W,W,W,W,W,W,lw]) [W,W,W,W,W,W,W,W] Cx V V Y Y<|Qq Y<|Qq Y<|QF Cj Y<|QF KQ Y<|QL Y CK (cu_ _ p _)<|Qq Y<|Qq Y<|Qp Y (oG Y Mi DL<|sT _ p _)<|Qo 8 Y<|AE (pre:=[mu]) Y call228 Y (NO k.hu k.vu S.u k.n k.n i j B ⟨a,b,c,d⟩ h2 mu (g.ru.up p) g.lu Z Z x.su x.bu P Z hi hj s Vu) Y Y Y Y<|λz h3 ms3 l3 O=>?_;obtain⟨l3',mu',rfl,Vu'⟩:=O;refine Qa<|Qe ?_;have Q:=N p l3';refine Ab<|U<|E (oG Y Mi DL<|sT _ Q _) Y<|E (As Y call229 Y<|r _ _) Y<|BJ [.bool false,.es,.bool false,.es,.bool false,.es,.bool false,.es] Y DL Y Y<|λg8=>?_;refine Sa 0 [_,_,_,_,_,_,_,_] DL Y (by simp[o1,o2,o3,o4,o5,o6,od,ou,oui]) ?_;refine Ao<|AH λM l4 m=>?_;have u:=N Q l4;have w0:∀f,Seg M f ((⟨g8,0,none⟩:Addr).add 0) (Bg d):=λf=>F4 (Seg.any m) 0 (λj v e=>by match j,e with|0,e=>exact e|1,e=>exact e);have w1:∀f,Seg M f ((⟨g8,0,none⟩:Addr).add 2) (Bg (-b)):=λf=>F4 (Seg.any m) 2 (λj v e=>by match j,e with|0,e=>exact e|1,e=>exact e);have w2:∀f,Seg M f ((⟨g8,0,none⟩:Addr).add 4) (Bg (-c)):=λf=>F4 (Seg.any m) 4 (λj v e=>by match j,e with|0,e=>exact e|1,e=>exact e);have w3:∀f,Seg M f ((⟨g8,0,none⟩:Addr).add 6) (Bg a):=λf=>F4 (Seg.any m) 6 (λj v e=>by match j,e with|0,e=>exact e|1,e=>exact e);refine Et 2 Y<|AS (n:=17) (bs:=[W,W,W,W,W,W,W,W,W,W,W,W,W,W,W,W,lw]) [W,W,W,W,W,W,W,W,W,W,W,W,W,W,W,W] Cx V V Y Y<|Qq Y<|Qq Y<|QF Cj Y<|QF MF Y<|QL Y CK (K _ u _)<|Qq Y<|Qq Y<|QF MO Y<|Qp Y (oG Y Bn Av<|w0 _)<|QF Mp Y<|Qp Y (oG Y Bn Av<|w2 _)<|QF Mv Y<|Qp Y (oG Y Bn Av<|w1 _)<|QF Ms Y<|Qp Y (oG Y Bn Av<|w3 _)<|Qp Y (AQ Mc [.bool false,.es,.bool false,.es,.bool false,.es,.bool false,.es] [(0,_),(2,_),(4,_),(6,_)] [_,_,_,_,_,_,_,_] Y DL Y Y Qt Y)<|Qo 16 Y<|AE (pre:=[R]) Y call230 Y (M5 k.hui k.vui S.ui k.n k.n i j B ⟨d,-c,-b,a⟩ M R (g.rui.up u) g.lui Z Z x.sui x.bui htk Z hi hj s Vui) Y Y Y Y<|λz h5 ms5 l5 O=>?_;obtain⟨l5',T,rfl,A⟩:=O;refine Qa<|Qe<|Eo 1 Y<|CC Y (⟨N l1<|N u l5',mu',T,md',mv,mvi,Y,Vu',A,Vd',Vv,Vvi⟩)
theorem KF(k:Wk)(S:FS)(i j B:Nat)(t:Tn)(h:Hp)(f:List Hp)(I:k.In h)(x:S.Ok k.n k.m B)(P:BqT t)(hB:B<=800000)(hi:i<k.m)(hj:j<k.m)(s:i≠j)(F:FsO k S f) :
  FnT prog 226 #[.pointer (some ⟨k.g,0,none⟩),.w i,.w j,TV t] h f (λ_ L ms'=>h.le L/\FsO k (S.cop k.n k.m i j t) ms'):=by
 obtain⟨mu,mui,md,mv,R,rfl,Vu,Vui,Vd,Vv,Vvi⟩:=F;have hn:=I.hn;have hm:=I.hm;have htb:=P.back;have htk:=P.bk;have r:=λh f=>AbQ t P h f;obtain⟨a,b,c,d⟩:=t;have y:=λn:Int=>AA (Ba n.natAbs);have o1:=y a;have o2:=y b;have o3:=y c;have o4:=y d;have o5:=y (-b);have o6:=y (-c);show FnT _ _ #[.pointer (some ⟨k.g,0,none⟩),.w i,.w j,.agg #[.bool (decide (a<0)),sv (Ba a.natAbs),.bool (decide (b<0)),sv (Ba b.natAbs),.bool (decide (c<0)),sv (Ba c.natAbs),.bool (decide (d<0)),sv (Ba d.natAbs)]] _ _ _;refine Au func226 ntmps226 Y Y<|λw0 hw0=>U<|AK [_,_,_,_,_,_,_,_] Y Y ξ Y Y Y<|λg7=>Ao<|Ak 0 Y λh1 l1 hS7=>?_;have g:=I.le l1;have sT:∀L,h1.le L->∀f,Seg L f (⟨g7,0,none⟩:Addr) (cT ⟨a,b,c,d⟩):=λL l f=>Seg.any (hS7.le l);have cd_:=qD 2 g.seg Y;have cu_:=qD 3 g.seg Y;have K:=qD 4 g.seg Y;have od:=g.rd.rd.one;have ou:=g.rv.rd.one;have oui:=g.rvi.rd.one;refine Et 2 Y<|X<|AS (n:=9) (bs:=[W,W,W,W,W,W,W,W,lw]) [W,W,W,W,W,W,W,W] Cx V V Y Y<|Qq Y<|Qq Y<|QF Cj Y<|QF Em Y<|QL Y CK (cd_ _ (Bk) _)<|Qq Y<|Qq Y<|Qp Y (oG Y Mi DL<|sT _ (Bk) _)<|Qo 8 Y<|AE (pre:=[md]) Y call230 Y (M5 k.hd k.vd S.d k.n k.m i j B ⟨a,b,c,d⟩ h1 md g.rd g.ld Z Z x.sd x.bd P Z hi hj s Vd) Y Y Y Y<|λz h2 ms2 l2 O=>?_;obtain⟨p,md',rfl,Vd'⟩:=O;refine Qa<|Qe<|Ab<|Et 3 Y<|X<|AS (n:=9) (bs:=[W,W,W,W,W,W,W,W,lw]) [W,W,W,W,W,W,W,W] Cx V V Y Y<|Qq Y<|Qq Y<|QF Cj Y<|QF Yu Y<|QL Y CK (cu_ _ p _)<|Qq Y<|Qq Y<|Qp Y (oG Y Mi DL<|sT _ p _)<|Qo 8 Y<|AE (pre:=[mv]) Y call230 Y (M5 k.hv k.vv S.v k.m k.m i j B ⟨a,b,c,d⟩ h2 mv (g.rv.up p) g.lv Z Z x.sv x.bv P Z hi hj s Vv) Y Y Y Y<|λz h3 ms3 l3 O=>?_;obtain⟨l3',mv',rfl,Vv'⟩:=O;refine Qa<|Qe ?_;have Q:=N p l3';refine Ab<|U<|E (oG Y Mi DL<|sT _ Q _) Y<|E (As Y call229 Y<|r _ _) Y<|BJ [.bool false,.es,.bool false,.es,.bool false,.es,.bool false,.es] Y DL Y Y<|λg8=>?_;refine Sa 0 [_,_,_,_,_,_,_,_] DL Y (by simp[o1,o2,o3,o4,o5,o6,od,ou,oui]) ?_;refine Ao<|AH λM l4 m=>?_;have u:=N Q l4;have w0:∀f,Seg M f ((⟨g8,0,none⟩:Addr).add 0) (Bg d):=λf=>F4 (Seg.any m) 0 (λj v e=>by match j,e with|0,e=>exact e|1,e=>exact e);have w1:∀f,Seg M f ((⟨g8,0,none⟩:Addr).add 2) (Bg (-b)):=λf=>F4 (Seg.any m) 2 (λj v e=>by match j,e with|0,e=>exact e|1,e=>exact e);have w2:∀f,Seg M f ((⟨g8,0,none⟩:Addr).add 4) (Bg (-c)):=λf=>F4 (Seg.any m) 4 (λj v e=>by match j,e with|0,e=>exact e|1,e=>exact e);have w3:∀f,Seg M f ((⟨g8,0,none⟩:Addr).add 6) (Bg a):=λf=>F4 (Seg.any m) 6 (λj v e=>by match j,e with|0,e=>exact e|1,e=>exact e);refine Et 4 Y<|AS (n:=17) (bs:=[W,W,W,W,W,W,W,W,W,W,W,W,W,W,W,W,lw]) [W,W,W,W,W,W,W,W,W,W,W,W,W,W,W,W] Cx V V Y Y<|Qq Y<|Qq Y<|QF Cj Y<|QF XK Y<|QL Y CK (K _ u _)<|Qq Y<|Qq Y<|QF MO Y<|Qp Y (oG Y Bn Av<|w0 _)<|QF Mp Y<|Qp Y (oG Y Bn Av<|w2 _)<|QF Mv Y<|Qp Y (oG Y Bn Av<|w1 _)<|QF Ms Y<|Qp Y (oG Y Bn Av<|w3 _)<|Qp Y (AQ Mc [.bool false,.es,.bool false,.es,.bool false,.es,.bool false,.es] [(0,_),(2,_),(4,_),(6,_)] [_,_,_,_,_,_,_,_] Y DL Y Y Qt Y)<|Qo 16 Y<|AE (pre:=[R]) Y call228 Y (NO k.hvi k.vvi S.vi k.m k.m i j B ⟨d,-c,-b,a⟩ M R (g.rvi.up u) g.lvi Z Z x.svi x.bvi htk Z hi hj s Vvi) Y Y Y Y<|λz h5 ms5 l5 O=>?_;obtain⟨l5',T,rfl,A⟩:=O;refine Qa<|Qe<|Eo 1 Y<|Eo 2 Y<|Eo 4 Y<|Eo 4 Y<|CC Y (⟨N l1<|N u l5',mu,mui,md',mv',T,Y,Vu,Vui,Vd',Vv',A⟩)
end
end Go.Proofs.Q