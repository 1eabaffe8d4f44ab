/- A part of the proof. -/
import Derived.Test.YtmgaeedkcecckaaGreatDoorSA
import Derived.Scope
import Derived.RangeFuncLeaves
import Derived.RangeFuncRecord
import Derived.RangeFuncNested
import Derived.OrdersIn
import Derived.TacticsIn
import Derived.Shelf.GgSortFunc.InsertionK
import Derived.Laws.Strings
import Derived.Laws.BytesArg
set_option linter.unusedSimpArgs false
set_option linter.unusedVariables false
set_option linter.unusedSectionVars false
set_option maxRecDepth 100000
set_option maxHeartbeats 4000000
open List (length_map replicate range length_append nil_append length_take cons_append map_append mem_cons_self mem_cons_of_mem length_drop append_nil map_map map_cons length_set append_assoc flatMap_cons perm_append_comm mem_append_left mem_append_right)
namespace Go.Eng
open Go.RowKit
variable {n:Nat} {o:Oper} {l:List Oper} {a:Act} {w:World} {v:Value} {z:AG}
def WB(e:Entry)(ops:Array Oper)(Q:Exit->Act->World->Prop)(h0:Hp):Nat->Array Bool->AG->Hp->List Hp->Prop
  | 0,listed,s,h,ms=>Region.ready .any ops listed=[]/\NX e Q .normal s h ms
  | n+1,listed,s,h,ms=>(Region.ready .any ops listed=[]->NX e Q .normal s h ms)/\∀i∈Region.ready .any ops listed,∃o,ops[i]?=some o ∧
      WL e ops (λx a w=>x=.normal/\∃s' h' ms',Has e.n e.ds a s'/\e.Ends w h' ms'/\h0.le h'/\WB e ops Q h0 n (listed.setIfInBounds i true) s' h' ms') [o] s h ms
def HB(e:Entry)(ops:Array Oper)(Q:Exit->Act->World->Prop)(h0:Hp)(n:Nat)(listed:Array Bool)(a:Act)(w:World):Prop:=
 ∃s' h' ms',Has e.n e.ds a s'/\e.Ends w h' ms'/\h0.le h'/\WB e ops Q h0 n listed s' h' ms'
def QB(e:Entry)(ops:Array Oper)(Q:Exit->Act->World->Prop)(h0:Hp)(n:Nat)(listed:Array Bool):Exit->Act->World->Prop:=
 λx a w=>x=.normal/\HB e ops Q h0 n listed a w
theorem QZ{e:Entry}{c:Array Oper}{Q:Exit->Act->World->Prop}{d:Hp}{b:Array Bool}:¬LetsOut (QB e c Q d n b):=by grind [LetsOut,QB]
theorem HB.ext{e:Entry}{c:Array Oper}{Q:Exit->Act->World->Prop}{f:Hp}{b:Array Bool}{g:World}(s:HB e c Q f n b a w)(p:Ext w g):HB e c Q f n b a g:=by obtain⟨r,m,d,h,i,j,k⟩:=s;exact⟨r,m,d,h,Ends.ext i p,j,k⟩
structure AhC(P:Program)(pu:List Nat)(ops:Array Oper)(s z:AG)(n:Nat)(h0:Hp):Prop where
 val:∀i o d,pu.contains i=true->ops[i]?=some o->o.dst=some d->∃v,lk z d=some v/\OX P o (z++s) h0 [] v
 only:∀t v,lk z t=some v->t<n/\∃i,pu.contains i=true/\Bx ops i=some t
section
variable {P:Program} {ops:Array Oper} {Q:Exit->Act->World->Prop}
theorem Zc{s:AG}{e:Hp}(i:∀cs b,o.op≠.select cs b)(h:∀t∈o.looksAt ops,∀u,lk s t=some u->a.tmps[t]?=some u)
  (k:OX P o s e [] v) (j:St w e []):OpRes P o a.eval w (λm p=>m=v/\Ext w p):=by
 classical
 unfold OpRes;rw[execOp_congr (ρ:=a.eval) (ρ':=λx=>if x∈o.op.operands then a.eval x else(ev s x).getD undef) o i (λx d=>(ah d).symm)];refine k _ w (λx u c=>?_) j;show(if x∈o.op.operands then a.eval x else(ev s x).getD undef)=u;split
 .rename_i d;cases x with
  | tmp t=>
   refine Act.eval_of_slot<|h t ?_ u c;exact eg _<|List.mem_filterMap.2 ⟨.tmp t,by simp_all,rfl⟩
  | const v=>cases c;rfl
  | global g=>cases c;rfl
  | func f=>cases c;rfl
 .rw[c];rfl
theorem Oper.wp_sim'{K d:Act->World->Prop}{f:Exit->Act->World->Prop}(m:∀x a w,f x a w->x=.normal)(g:¬LetsOut f)(s:execOp (zA z a).eval o=execOp a.eval o)(k:∀t,o.dst=some t->lk z t=none)(j:∀b w v,b.tmps=(a.put o.dst v).tmps->d (zA z b) w->K b w)
  (h:o.wp P (zA z a) w d f):o.wp P a w K (Q0 Q):=by
 unfold Oper.wp at *;rw[s]at h;generalize (execOp a.eval o).run P w=r at *;have i:∀v w,d ((zA z a).put o.dst v) w->K (a.put o.dst v) w:=λv w p=>j _ _ v Y (by rw[Ls k];exact p);cases r with
 | ok n w'=>
  cases n<;>simp only[Oper.upon]at h ⊢ <;>
   first
    | exact i _ _ h
    | grind [Calls.mono]
    | exact Rows.mono h<|λ_ _ c=>i _ _ c
    | exact j _ _ undef (by cases o.dst<;>rfl) (by rw[Ls k];exact h)
 | halt x w'=>cases x<;>simp only[Oper.upon]at h ⊢<;>exact lj (m _ _ _ h) σ
end
theorem Ag6{e:Entry}{k:Array Oper}{Q:Exit->Act->World->Prop}{h0:Hp}{pu:List Nat}{s:AG}{a0:Act}(ha0:Has e.n e.ds a0 s)(hp:POK pu k)(hb:∀i o,k[i]?=some o->∀e∈o.after,Region.binds .any e=true->e.on<i)(hz:AhC e.P pu k s z e.n h0) :
  ∀fuel r c a w,Sim pu k z a0 a c->c.size=k.size->left c<=fuel->HB e k Q h0 r (un pu c) (zA z a) w->wpAny e.P .any k (Q0 Q) fuel c a w:=by
 -- all is c
 have T:∀r c a w,Sim pu k z a0 a c->c.size=k.size->(∀j,j<k.size->c.getD j false=true)->HB e k Q h0 r (un pu c) (zA z a) w->Region.ready .any k c=[]/\(Q0 Q) .normal a w:=by
  intro r c a w S hsz L H
  have noready:∀l':Array Bool,(∀j,j<k.size->l'.getD j false=true)->Region.ready .any k l'=[]:=λl' hl'=>by
   cases hr:Region.ready .any k l' with
   | nil=>rfl
   | cons x xs=>
    grind [Region.ready,ao,ir,cj,BT,bo]
  have hr':=noready (un pu c) (λj y=>by rw[Xa _ _ _ _ Z,L j y];rfl)
  have hQ:(Q0 Q) .normal (zA z a) w:=by
   obtain⟨s',h',ms',g1,g2,g3,g4⟩:=H;cases r with
   | zero=>exact⟨Y,g4.2 _ _ g1 g2⟩
   | succ f=>exact⟨Y,g4.1 hr' _ _ g1 g2⟩
  have hza:zA z a=a:=by
   refine SA ?_ Y;apply jn;intro t;rw[H0];cases hl:lk z t with
   | none=>simp
   | some v=>
    obtain⟨hn,i,hi,B⟩:=hz.only t v hl;have hlt:t<a.tmps.size:=by rw[S.size,ha0.size];exact hn
    rw[S.pure i hi (L i (Gq B)) t v B hl hlt];rfl
  rw[hza]at hQ;exact⟨noready _ L,hQ⟩
 have hall_of:∀c:Array Bool,c.size=k.size->left c=0->∀j,j<k.size->c.getD j false=true:=λc hsz h0 j y=>by
  grind [Qh,bo]
 intro fuel
 induction fuel with
 | zero=>
  intro r c a w S hsz hle H;exact T r c a w S hsz (hall_of c hsz Z) H
 | succ fuel ih=>
  intro r c a w S hsz hle H;refine⟨λhr0=>?_,λi hir=>?_⟩
  ·-- nothing is ready: all is c
   refine(T r c a w S hsz ?_ H).2;intro j
   induction j using Nat.strongRecOn with
   | _ j ihj=>
    intro y;cases hl:c.getD j false with
    | true=>rfl
    | false=>
     have ho:k[j]?=some k[j]:=by simp[y]
     have:j∈Region.ready .any k c:=ir.2 ⟨by
      have hjlt:j<c.size:=Z
      rw[bo]at hl ⊢
      simp[hjlt]at hl ⊢;exact hl,_,ho,λed L9 hbd=>by
       have:=hb j _ ho ed L9 hbd
       exact ihj _ this Z⟩
     simp_all
  .obtain⟨hun,o,ho,L⟩:=ir.1 hir;have hilt:i<k.size:=(cj.1 ho).1;have hdi:Bx k i=o.dst:=by simp[Bx,ho]
   have hsel:∀cs b,o.op≠.select cs b:=λcs b=>Region.noSelect_spec hp.nosel i o cs b ho;have hls:=OU (BT hun)
   have M:∀j d,(c.setIfInBounds i true).getD j d=if j=i then true else c.getD j d:=λj d=>by
    by_cases y:j=i
    .simp_all
    .rw[getD_set_ne d (gx y)];simp[y]
   -- the slots of pure ones that are looked at stand
   have hpl:∀t∈o.looksAt k,∀v,lk z t=some v->a.tmps[t]?=some v/\∃j,pu.contains j=true/\Bx k j=some t:=λt O v hv=>by
    obtain⟨hn,j,y,B⟩:=hz.only t v hv;refine⟨?_,j,y,B⟩;rcases hp.look i o t j ho O B with ⟨_,h2⟩|⟨h2,_⟩
    .obtain⟨e,he,hbd,rfl⟩:=Jm h2;exact S.pure _ y (L e he hbd) t v B hv (by rw[S.size,ha0.size];exact hn)
    simp_all
   have R:∀t∈o.looksAt k,(zA z a).tmps[t]?=a.tmps[t]?:=λt O=>by
    rw[H0];cases hl:lk z t with
    | none=>simp
    | some v=>simp_all
   have hx:execOp (zA z a).eval o=execOp a.eval o:=execOp_congr o hsel λx hx=>by
    cases x with
    | tmp t=>
     have:=R t (eg _ (List.mem_filterMap.2 ⟨.tmp t,by simpa using hx,rfl⟩));simp_all [Act.eval,bo]
    | const v=>rfl
    | global g=>rfl
    | func f=>rfl
   unfold wpOp;simp only[ho];cases hc:pu.contains i with
   | true=>
    obtain⟨hg,⟨d,B⟩,huq⟩:=hp.plain i o ho hc;obtain⟨v,hv,hpx⟩:=hz.val i o d hc ho B;have hw:Region.wanted o (yielded k a.tmps)=true:=by unfold Region.wanted;rw[hg]
    rw[ah hw]
    have hst:St w h0 []:=by obtain⟨s',h',ms',g1,g2,g3,g4⟩:=H;exact⟨λg o e=>g2.st.imm g o (g3 g o e),λm hm=>by simp at hm,λm hm=>by simp at hm,List.Pairwise.nil⟩
    refine .inl<|OpRes.wp (Φ:=λv' w'=>v'=v/\Ext w w') ?_ ?_
    .unfold OpRes;rw[<-hx];refine Zc (ops:=k) hsel (λt O u hu=>?_) hpx hst;rw[DA]at hu;cases hl:lk z t with
     | some v'=>simp_all
     | none=>
      rw[hl]at hu;rw[R t O,S.old t λj y=>?_]
      .exact ha0.slots t u hu
      .rcases hp.look i o t j ho O y with ⟨h1,_⟩|⟨_,h2⟩
       .obtain⟨oj,hoj⟩:∃oj,k[j]?=some oj:=⟨k[j]'(Gq y),by simp[Gq y]⟩
        have hdj:oj.dst=some t:=by simpa[Bx,hoj] using y
        obtain⟨v',K,_⟩:=hz.val j oj t h1 hoj hdj;simp_all
       .rcases h2 with h2|⟨oj,hoj,L9⟩
        .simp_all
        .cases P:c.getD j false with
         | false=>rfl
         | true=>
          obtain⟨e,he,hbd,hon⟩:=Jm L9;have h4:=S.closed j oj P hoj e he hbd;simp_all
    .rintro v' w' ⟨rfl,hext⟩;show wpAny e.P .any k (Q0 Q) fuel (c.setIfInBounds i true) (a.put o.dst v') w';rw[B];refine ih r _ _ w' ⟨?_,?_,by simp[Act.put,S.size],S.closed.set hir⟩ (by simp_all) Z (by rw[Vt _ hc,Tr hv];exact H.ext hext)
     .intro j y P d' v' hd' K hlt;by_cases A:j=i
      .grind [Act.put]
      .rw[M]at P;simp only[A,if_false]at P;have hne:d≠d':=λe'=>huq j A d B (by rw[hd',e']);simp only[Act.put,ft hne];exact S.pure j y P d' v' hd' K (by grind [Act.put])
     .intro t O
      have hne:d≠t:=λe'=>by have:=O i (by rw[hdi,B,e']);simp_all
      simp only[Act.put,ft hne]
      exact S.old t λj y=>by
       simp_all
   | false=>
    have hdz:∀t,o.dst=some t->lk z t=none:=λt O=>by
     cases hl:lk z t with
     | none=>rfl
     | some v=>
      obtain⟨_,j,y,B⟩:=hz.only t v hl;have A:j≠i:=λe'=>by rw[e',hc]at y;cases y
      obtain⟨oj,hoj⟩:∃oj,k[j]?=some oj:=⟨k[j]'(Gq B),by simp[Gq B]⟩
      obtain⟨_,_,huq⟩:=hp.plain j oj hoj y;grind [Bx]
    have hir':i∈Region.ready .any k (un pu c):=ir.2 ⟨by rw[Xa _ _ _ _ Z,hun,hc];rfl,o,ho,λe he hbd=>by
     have h1:=hb i o ho e he hbd
     rw[Xa _ _ _ _ Z,L e he hbd];rfl⟩
    obtain⟨s',h',ms',g1,g2,g3,g4⟩:=H;cases r with
    | zero=>rw[g4.1]at hir';cases hir'
    | succ r=>
     obtain⟨o',ho',HW⟩:=g4.2 i hir';rw[ho]at ho';cases ho';have H':=HW (zA z a) w g1 g2;unfold wpList at H';rw[<-Agv]at H'
     have hwant:Region.wanted o (yielded k (zA z a).tmps)=Region.wanted o (yielded k a.tmps):=by
      unfold Region.wanted;cases hg:o.guard with
      | none=>rfl
      | some p=>
       obtain⟨j,b⟩:=p
       have:yielded k (zA z a).tmps j=yielded k a.tmps j:=by
        unfold yielded;cases B:(k[j]?).bind (·.dst) with
        | none=>rfl
        | some t=>
         have O:t∈o.looksAt k:=by unfold Oper.looksAt;refine ej _ ?_;simp only[hg];rw[B];simp
         simp[B,R t O]
       simp_all
     rw[hwant]at H'
     have hnext:∀b w v,b.tmps=(a.put o.dst v).tmps->QB e k Q h0 r (un pu (c.setIfInBounds i true)) .normal (zA z b) w->wpAny e.P .any k (Q0 Q) fuel (c.setIfInBounds i true) b w:=λb w v hbt hh=>by
      have hbget:∀t,o.dst≠some t->b.tmps[t]?=a.tmps[t]?:=λt O=>by
       rw[hbt];cases B:o.dst with
       | none=>rfl
       | some d=>
        grind [Act.put,ft]
      have hbs:b.tmps.size=a.tmps.size:=by rw[hbt];cases o.dst<;>simp[Act.put]
      refine ih r _ b w ⟨?_,?_,by rw[hbs,S.size],S.closed.set hir⟩ (by simp_all) Z hh.2
      .intro j y P d' v' hd' K hlt;have A:j≠i:=λe'=>by simp_all
       rw[M]at P;simp only[A,if_false]at P;have hne:o.dst≠some d':=λe'=>by simp_all
       rw[hbget d' hne];exact S.pure j y P d' v' hd' K (by omega)
      .intro t O
       rw[hbget t (λe'=>by
        have:=O i (by rw[hdi,e'])
        simp_all)]
       exact S.old t λj y=>by
        simp_all
     split
     .rename_i hw;rw[ah hw]at H';rcases H' with H'|⟨_,H'⟩
      .exact .inl<|Oper.wp_sim' (λx a w h=>h.1) QZ hx hdz hnext H'
      .exact lj H' QZ
     .rename_i hw;rw[af hw]at H';exact hnext _ _ undef Y (by rw[Ls hdz];exact H')
def C5(P:Program)(l:List Oper)(n:Nat)(s:AG)(h0:Hp)(K:AG->Prop):List Nat->AG->Prop
 | [],z=>K z
 | i::r,z=>∃o d v,l[i]?=some o/\o.dst=some d/\d<n/\lk (z++s) d=none/\OX P o (z++s) h0 [] v/\C5 P l n s h0 K r ((d,v)::z)
theorem OX.mono_s{P:Program}{s:AG}{h:Hp}{c:List Hp}{d:Nat}{u:Value}(k:OX P o s h c v)(i:lk s d=none):OX P o ((d,u)::s) h c v:=λρ w m j=>
 k ρ w (λx p b=>m x p (by
  induction x<;>grind [ev,BR])) j
theorem Vp{P:Program}{s:AG}{L:Hp}{K:AG->Prop}:∀(r done:List Nat) (z:AG),
    (∀i∈done,∀o d,l[i]?=some o->o.dst=some d->∃v,lk z d=some v/\OX P o (z++s) L [] v)->(∀t v,lk z t=some v->t<n/\∃i∈done,Bx l.toArray i=some t)->C5 P l n s L K r z →
    ∃k,K k/\(∀i,i∈done\/i∈r->∀o d,l[i]?=some o->o.dst=some d->∃v,lk k d=some v/\OX P o (k++s) L [] v)/\(∀t v,lk k t=some v->t<n/\∃i,(i∈done\/i∈r)/\Bx l.toArray i=some t)
  | [],done,z,h1,h2,h3=>⟨z,h3,λi b=>h1 i (b.resolve_right σ),λt v Q=>by
      simp_all⟩
  | j::r,done,z,h1,h2,⟨o,d,v,e1,e2,e3,e4,e5,e6⟩=>by
    have M:lk z d=none:=by
      rw[DA]at e4;cases hl:lk z d with
      | none=>rfl
      | some u=>rw[hl]at e4;cases e4
    obtain⟨k,y,A,B⟩:=Vp r (j::done) ((d,v)::z) (λi b R O h g=>by
      rcases be.1 b with rfl|b
      · rw[e1]at h;cases h;rw[e2]at g;cases g;exact⟨v,BM _ _ _,e5.mono_s e4⟩
      · obtain⟨S,f,c⟩:=h1 i b R O h g;refine⟨S,?_,c.mono_s e4⟩;have:d≠O:=λe=>by subst e;rw[M]at f;cases f
        rw[BR _ _ this];exact f) (λt u p=>by
      by_cases m:d=t
      · subst m;exact⟨e3,j,by simp,by simp[Bx,e1,e2]⟩
      · rw[BR _ _ m]at p;obtain⟨f,i,c,x⟩:=h2 t u p
        exact⟨f,i,am _ c,x⟩) e6
    grind
theorem AhL{P:Program}{s:AG}{b:Hp}{K:AG->Prop}{r:List Nat}{i d:Nat}(g:l[i]?=some o)(c:o.dst=some d)(f:Nat.blt d n=true)(e:lk (z++s) d=none)(h:OX P o (z++s) b [] v)(k:C5 P l n s b K r ((d,v)::z)):C5 P l n s b K (i::r) z:=
 ⟨o,d,v,g,c,d5 f,e,h,k⟩
section
variable {e:Entry} {ops:Array Oper} {Q:Exit->Act->World->Prop} {h0:Hp} {fuel:Nat} {listed:Array Bool} {s:AG} {h:Hp} {ms:List Hp}
theorem Hn(c:h0.le h)(k:WB e ops Q h0 fuel listed s h ms):NX e (QB e ops Q h0 fuel listed) .normal s h ms:=λa w b d=>⟨rfl,s,h,ms,b,d,c,k⟩
theorem SJ(c:Region.ready .any ops listed=[])(k:NX e Q .normal s h ms):WB e ops Q h0 fuel listed s h ms:=by
 cases fuel with
 | zero=>exact⟨c,k⟩
 | succ n=>exact⟨λ_=>k,λi b=>by simp_all⟩
def WBl(e:Entry)(ops:Array Oper)(Q:Exit->Act->World->Prop)(h0:Hp)(fuel:Nat)(listed:Array Bool)(s:AG)(h:Hp)(ms:List Hp):List Nat->Prop
 | []=>True
 | i::l=>(∃o,ops[i]?=some o/\WL e ops (QB e ops Q h0 fuel (listed.setIfInBounds i true)) [o] s h ms)/\WBl e ops Q h0 fuel listed s h ms l
theorem WBl.get:∀(l:List Nat),WBl e ops Q h0 fuel listed s h ms l->∀i∈l,∃o,ops[i]?=some o/\WL e ops (QB e ops Q h0 fuel (listed.setIfInBounds i true)) [o] s h ms
 | [],_,i,b=>by cases b
 | j::l,H,i,b=>by
  rcases be.1 b with rfl|b
  .exact H.1
  .exact WBl.get l H.2 i b
theorem AN:WBl e ops Q h0 fuel listed s h ms []:=fu
theorem Al{i:Nat}{l:List Nat}(b:ops[i]?=some o)(k:WL e ops (QB e ops Q h0 fuel (listed.setIfInBounds i true)) [o] s h ms)(c:WBl e ops Q h0 fuel listed s h ms l):WBl e ops Q h0 fuel listed s h ms (i::l):=⟨⟨o,b,k⟩,c⟩
theorem AO(l:List Nat)(d:Region.ready .any ops listed=l)(b:l.isEmpty=false)(k:WBl e ops Q h0 fuel listed s h ms l):WB e ops Q h0 (fuel+1) listed s h ms:=
 ⟨λh0=>(by simp_all),λi c=>k.get l i (by simp_all)⟩
end
theorem VD{e:Entry}{Q:Exit->Act->World->Prop}{s:AG}{h:Hp}{M:List Hp}{bs:List Bool}(m:List Bool)(B:Nj (Wp m 0) l.toArray=true)(x:K5 l.toArray=true)(hn:l.length=n)
  (y:(range n).map (λi=>(Wp m 0).contains i)=bs) (k:C5 e.P l e.n s h (λz=>WB e l.toArray Q h n bs.toArray (z++s) h M) (Wp m 0) []):∀a w,Has e.n e.ds a s->e.Ends w h M->wpAny e.P .any l.toArray Q l.toArray.size (Array.replicate l.toArray.size false) a { w with drawn:=w.drawn+1 }:=by
 intro a w f hw;obtain⟨z,kw,L,p⟩:=Vp _ [] [] σ (λt v K=>by cases K) k;have O:=TQ B;have r:=QN x;have c:∀i,(Wp m 0).contains i=true<->i∈Wp m 0:=λi=>List.contains_iff_mem
 have hZ:AhC e.P (Wp m 0) l.toArray s z e.n h:=⟨λi o d b ho hd=>L i (.inr ((c i).1 b)) o d (by simp_all) hd,λt v K=>by
  simp_all⟩
 have g:l.toArray.size=n:=by simpa using hn
 refine AgJ _ _ _ _ ?_
 refine Ag6 (h0:=h) f O r hZ _ n _ a _ ⟨λi _ b=>(by grind [CA]),λ_ _=>rfl,rfl,λi o b=>(by grind [CA])⟩ σ (by
  grind [left,Array.toList_replicate,bl,List.countP_le_length]) ?_
 have P:un (Wp m 0) (Array.replicate l.toArray.size false)=bs.toArray:=by
  apply jn;intro i;rw[<-y];rcases ii i n with b|b
  .simp[un,g,b]
  .grind [un,fk]
 rw[P];refine⟨z++s,h,M,⟨f.defers,by simp[zA,f.size],λt u j=>?_⟩,Ends.drew hw,Hp.le_refl _,kw⟩;rw[H0];rw[DA]at j;cases hl:lk z t with
 | some v=>
  rw[hl]at j;cases j;have A:t<a.tmps.size:=by rw[f.size];exact(p t _ hl).1
  simp[A]
 | none=>rw[hl]at j;rw[f.slots t u j];rfl
theorem AS{e:Entry}{id:Nat}{Q:Exit->Act->World->Prop}{s:AG}{h:Hp}{f:List Hp}{bs:List Bool}(m:List Bool)(j:e.P.follows .mixedOrders=true)(d:Nj (Wp m 0) l.toArray=true)(b:K5 l.toArray=true)(p:l.length=n)
  (c:(range n).map (λi=>(Wp m 0).contains i)=bs) (k:C5 e.P l e.n s h (λz=>WB e l.toArray Q h n bs.toArray (z++s) h f) (Wp m 0) []):WS e (.region id l.toArray true) Q s h f:=
 λa w g r=>wp_region_any j (VD m d b p c k a w g r)
theorem Seg.all{h:Hp}{p:Addr}{cs:List Value}(S:Seg h [] p cs):∀i v,cs[i]?=some v->∀b,Cell h b (p.add i) v:=λi v c b=>(S i v c).any
end Go.Eng
namespace Go.Eng
open Go.RowKit
def Aek(w:World):Hp:=λg=>w.heap[g]?
theorem AeJ(w:World):(Aek w).inW w:=λ_ _ e=>e
theorem Yj{h:Hp}{w:World}(a:h.inW w):h.le (Aek w):=λg o e=>a g o e
theorem AfF(w:World):St w (Aek w) []:=⟨AeJ w,λm a=>by simp at a,λm a=>by simp at a,List.Pairwise.nil⟩
theorem PK{P:Program}{f:FuncId}{a:Array Value}{h:Hp}{d:List Hp}{v:Value}(k:∀b,h.le b->(∀m∈d,m.le b)->FnV P f a b [] v):FnV P f a h d v:=λw c=>
 k (Aek w) (Yj c.imm) (λm e=>Yj (c.own m e)) w (AfF w)
section
variable {P:Program} {o:Oper} {s:AG} {h:Hp} {ms:List Hp} {t u:TypeId} {x y:Operand} {a n:Nat}
theorem Afl(g:o.op=.binOp .shr t x y u){k:IntKind}(i:ev s x=some (.int .i64 a))(j:ev s y=some (.int k n))(f:n<=64):OX P o s h ms (.int .i64 ((a/2^n:Nat):Int)):=
 Bz λρ w b _=>by
  have c:¬((n:Int)<0):=Z
  have d:min n 64=n:=gr f
  have e:(a:Int).fdiv (2^n)=((a/2^n:Nat):Int):=by rw[Int.fdiv_eq_ediv_of_nonneg _ (Int.le_of_lt (Int.pow_pos H))];simp
  simp[execOp,g,b _ _ i,b _ _ j,Op.shift,c,IntKind.bits,d,e,go_sem]
theorem AgL(d:o.op=.binOp .and t x y u)(e:ev s x=some (.int .i64 a))(f:ev s y=some (.int .i64 1))(g:a<9223372036854775808):OX P o s h ms (.int .i64 ((a%2:Nat):Int)):=
 Bz λρ w b _=>by
  have c:IntKind.i64.wrap (((BitVec.ofNat 64 a) &&& (BitVec.ofNat 64 1)).toNat:Int)=((a%2:Nat):Int):=by rw[BitVec.toNat_and,kk,kk,dv Z,dv Z,Nat.and_one_is_mod];exact EO Z
  simp[execOp,d,b _ _ e,b _ _ f,Op.intBits,IntKind.bits,go_sem];exact c
end
theorem Seg.ofLe{h:Hp}{g:Nat}{el:TypeId}{cs:List Value}(a:(BE g el cs).le h):Seg h [] ⟨g,0,none⟩ cs:=λj u b=>⟨by grind [Addr.add],cs.toArray,el,(0,0),.inl (by
 rw[C0]
 exact a _ _<|Hp.one_self _ _),by grind [D4]⟩
theorem YY{h:Hp}{d:List Hp}{v:Value}{sz n:Nat}{cs:List Value}(R:Rd h d v sz n cs){i j:Nat}(k:i<n):AJ (C6 sz v i j)=(AJ v).add (i*sz):=by obtain⟨a,c,rfl,e,f,g,b⟩:=R.ex;obtain⟨q,rfl,_⟩:=b Z;unfold C6;simp only;rw[af Z];rfl
section
open Go.Lin
variable {e:Entry} {Q:Exit->Act->World->Prop} {ops:Array Oper} {rest:List Oper} {o:Oper} {s:AG} {h:Hp} {ms:List Hp}
end
section
variable {P:Program} {o:Oper} {s:AG} {h:Hp} {ms:List Hp} {t el:TypeId} {x y lo hi:Operand} {v:Value} {sz n:Nat} {cs:List Value} {z:Value} {bytes:Nat} {k k':IntKind} {h1':Hp} {ms1':List Hp}
theorem Be{i:Int}(j:Nat)(R:Rd h1' ms1' v sz n cs)(d:o.op=.indexAddr t x y)(g:P.underlying t=some (.slice el))(f:Elem P el sz z bytes)(b:ev s x=some v)(l:ev s y=some (.int k i))(hi:i=(j:Int))(a:j<n):OX P o s h ms (.pointer (some ((AJ v).add (j*sz)))):=by obtain⟨c,e,_⟩:=R.val Z;grind [Cm]
theorem Ky(R:Rd h1' ms1' v sz n cs)(b:o.op=.call { callee:=.builtin .len,args:=#[x],argTypes:=#[t] })(d:P.underlying t=some (.slice el))(e:ev s x=some v):OX P o s h ms (.int .i64 n):=by obtain⟨a,c,rfl,_⟩:=R.ex;exact EJ (ty:=t) b d e
theorem SG{l r:Int}(i j:Nat)(R:Rd h1' ms1' v sz n cs)(A:o.op=.slice t x (some lo) (some hi) none)(K:P.underlying t=some (.slice el))(B:Elem P el sz z bytes)(L:ev s x=some v)(d:ev s lo=some (.int k l))(b:ev s hi=some (.int k' r))(f:l=(i:Int))(T:r=(j:Int))(h1:i<=j)(h2:j<=n) :
  OX P o s h ms (C6 sz v i j):=by
 obtain⟨a,c,rfl,M,O,Q,S⟩:=R.ex
 exact Bz λρ w e _=>by
  have g:(0:Int)<=l/\l<=(j:Int):=Z
  have m:(0:Int)<=r/\r<=(c:Int):=Z
  have p:l.toNat=i:=Z
  have u:r.toNat=j:=Z
  simp[execOp,A,e _ _ L,e _ _ d,e _ _ b,Instr.sliceAt,Instr.slice,cw K,Instr.sliceBounds,Instr.sliceBound,asIntOf,g,m,p,u,B.sizeOf,C6]
theorem UU{l:Int}(i:Nat)(R:Rd h1' ms1' v sz n cs)(j:o.op=.slice t x (some lo) none none)(p:P.underlying t=some (.slice el))(m:Elem P el sz z bytes)(r:ev s x=some v)(b:ev s lo=some (.int k l))(e:l=(i:Int))(L:i<=n) :
  OX P o s h ms (C6 sz v i n):=by
 obtain⟨a,c,rfl,u,A,B,K⟩:=R.ex
 exact Bz λρ w d _=>by
  have f:(0:Int)<=l/\l<=(n:Int):=Z
  have g:l.toNat=i:=Z
  simp[execOp,j,d _ _ r,d _ _ b,Instr.sliceAt,Instr.slice,cw p,Instr.sliceBounds,Instr.sliceBound,asIntOf,f,g,m.sizeOf,C6]
theorem Iz{r:Int}(j:Nat)(R:Rd h1' ms1' v sz n cs)(g:o.op=.slice t x none (some hi) none)(l:P.underlying t=some (.slice el))(i:Elem P el sz z bytes)(m:ev s x=some v)(b:ev s hi=some (.int k r))(K:r=(j:Int))(L:j<=n) :
  OX P o s h ms (C6 sz v 0 j):=by
 obtain⟨a,c,rfl,p,u,A,B⟩:=R.ex
 exact Bz λρ w d _=>by
  have e:(0:Int)<=r/\r<=(c:Int):=Z
  have f:r.toNat=j:=Z
  simp[execOp,g,d _ _ m,d _ _ b,Instr.sliceAt,Instr.slice,cw l,Instr.sliceBounds,Instr.sliceBound,asIntOf,e,f,i.sizeOf,C6]
end
section
variable {e:Entry} {Q:Exit->Act->World->Prop} {ops:Array Oper} {rest:List Oper} {s:AG} {h:Hp} {ms:List Hp} {c:Code} {a b:Hp}
theorem AdY(k:WS e c Q s h (b::a::ms)):WS e c Q s h (a::b::ms):=Sc (List.Perm.swap _ _ _) k
theorem XU{x:Exit}(k:NX e Q x s h (b::a::ms)):NX e Q x s h (a::b::ms):=Jf (List.Perm.swap _ _ _) k
theorem Ak{g:Nat}{el:TypeId}{cs:List Value}(i:Nat)(f:ms[i]?=some (BE g el cs))(k:∀d,h.le d->Seg d [] ⟨g,0,none⟩ cs->WS e c Q s d (ms.eraseIdx i)):WS e c Q s h ms:=
 Sc (DH f) (AH k)
theorem IE{x:Exit}{g:Nat}{el:TypeId}{cs:List Value}(i:Nat)(m:ms[i]?=some (BE g el cs))(k:∀d,h.le d->Seg d [] ⟨g,0,none⟩ cs->NX e Q x s d (ms.eraseIdx i)):NX e Q x s h ms:=
 Jf (DH m) (λa w l f=>k _ (Hp.le_join _ _) (λj u n=>⟨by grind [Addr.add],cs.toArray,el,(0,0),.inl (by
  rw[C0]
  exact(Hp.join_le_right (f.st.off _ ao)) _ _ (Hp.one_self _ _)),by grind [D4]⟩) a w l (Ends.freeze f))
end
end Go.Eng
namespace Go.Eng
open Go.RowKit Go.Lin
theorem Gx(l:List Int):l.flatMap cI=l.map λx=>Value.int .i64 x:=by
 induction l with
 | nil=>rfl
 | cons a l ih=>rw[eo,ih];rfl
theorem mat_at?{r c:Nat}{f:Nat->Nat->Int}{k:Nat}(a:k<r*c):(Eb r c f)[k]?=some (f (k/c) (k%c)):=by grind [Eb,gj]
end Go.Eng
namespace Go.Eng
open Go.RowKit
variable {n l id t:Nat} {P:Program} {w:World} {a:Act} {next:Act->World->Prop} {y x c:Code} {args:Array Value} {post:Value->Hp->List Hp->Prop}
abbrev FR(l:Nat):Fence:=Fence.wide.inRound l
theorem UK{f:FuncId}{R:Ending->World->Prop}(h:Calls P f args w R):CallsIn (FR l) n P f args w R:=by have:=(callsIn_wide (n:=n)).2 h;exact this
theorem Qv{row:String}{R:Value->World->Prop}(h:Rows P row args w R):RowsIn Fence.wide n P row args w R:=
 λc cs _=>let ⟨v,w',r,s⟩:=h c cs;⟨v,w',r,stepsIn_wide.2 s⟩
theorem Ae8{row:String}{R:Value->World->Prop}(h:Rows P row args w R):RowsIn (FR l) n P row args w R:=Qv (n:=n) h
theorem Afo{o:Oper}{Q:Exit->Act->World->Prop}{r:Result Next}(h:o.upon P a next Q r):o.uponIn (FR l) n P a next Q r:=by
 have b:(FR l).depth.isSome=true->1<=n:=λh=>by cases h
 cases r with
 | ok x w'=>
  cases x<;>simp only[Oper.upon]at h<;>simp only[Oper.uponIn] <;>
   first
    | exact h
    | exact⟨b,(UK h).mono λe w d=>by omega⟩
    | grind [Ae8]
    | exact h.elim
 | halt x w'=>cases x<;>simp only[Oper.upon]at h<;>simp only[Oper.uponIn]<;>exact h
theorem YX{o:Oper}{Q:Exit->Act->World->Prop}{r:Result Next}(h:o.upon P a next Q r):o.uponIn Fence.wide n P a next Q r:=by
 have b:Fence.wide.depth.isSome=true->1<=n:=λh=>by cases h
 cases r with
 | ok x w'=>
  cases x<;>simp only[Oper.upon]at h<;>simp only[Oper.uponIn] <;>
   first
    | exact h
    | exact⟨b,(callsIn_wide.2 h).mono λe w d=>by omega⟩
    | grind [Qv]
    | exact h.elim
 | halt x w'=>cases x<;>simp only[Oper.upon]at h<;>simp only[Oper.uponIn]<;>exact h
theorem YN{o:Oper}{Q:Exit->Act->World->Prop}(b:∀c,o.op≠.defer c)(h:o.wp P a w next Q):o.wpIn (FR l) n P a w next Q:=
 ⟨λ_ _=>fu,by rw[Oper.semAt_eq _ _ _ b];exact Afo h⟩
theorem Aao{o:Oper}{Q:Exit->Act->World->Prop}(h:o.wp P a w next Q):o.wpIn Fence.wide n P a w next Q:=
 ⟨λ_ _=>fu,YX h⟩
def Ady(o:Op):Bool:=match o with
 | .defer _=>true
 | _=>false
theorem Abq{o:Op}(h:Ady o=false)(c:Call):o≠.defer c:=by grind [Ady]
def JX:List Oper->Bool
 | []=>true
 | o::l=>!Ady o.op&&JX l
theorem Kd:∀{l:List Oper},JX l=true->∀o∈l,∀c,o.op≠.defer c
 :=by intro x;induction x<;>grind [JX,Bool.not_eq_true',be,Abq]
theorem R6{k:Nat}{d:Array Oper}{Q:Exit->Act->World->Prop}(e:¬LetsOut Q):∀(l:List Oper),JX l=true->∀a w,wpList P d Q l a w->wpListIn (FR k) n P d Q l a w
 | [],_,a,w,h=>h
 | o::l,hn,a,w,h=>by
  have b:JX l=true:=by simp only[JX,df]at hn;exact hn.2
  have g:=Kd hn o (ao);unfold wpList at h;unfold wpListIn;split at h
  .rename_i f;rw[ah f];rcases h with h|h
   .exact Oper.wpIn_mono (λa w=>R6 e l b a w)<|YN g h
   simp_all
  .rename_i f;rw[af f];exact⟨λ_ _=>fu,R6 e l b _ _ h⟩
theorem Ads{k:Nat}{l:List Oper}{Q:Exit->Act->World->Prop}(j:¬LetsOut Q)(g:JX l=true):∀fuel b a w,wpAny P .any l.toArray Q fuel b a w->wpAnyIn (FR k) n P .any l.toArray Q fuel b a w:=by
 intro fuel
 induction fuel with
 | zero=>intro b a w h;exact h
 | succ fuel ih=>
  intro b a w h;refine⟨h.1,λi f=>?_⟩;have d:=h.2 i f;unfold wpOp at d;unfold wpOpIn;cases ho:l.toArray[i]? with
  | none=>simp_all
  | some o=>
   rw[ho]at d;simp only at d ⊢;split at d
   .rename_i e;rw[ah e];rcases d with d|d
    .exact Oper.wpIn_mono (λa w=>ih _ a w)<|YN (Kd g o<|ez (by simpa using ho)) d
    simp_all
   .rename_i e;rw[af e];exact⟨λ_ _=>fu,ih _ _ _ d⟩
def LoopAt(e:Entry)(l:Nat):Prop:=(∃r,e.w0.heap[l]?=some (.loop r))/\∀m∈e.ms0,m l=none
theorem LoopAt.of{e:Entry}{r:Loop}{rest:List Hp}(h:St e.w0 e.h0 (e.ms0++Hp.one l (.loop r)::rest)):LoopAt e l:=
 ⟨⟨r,h.own _ σ l _ (Hp.one_self _ _)⟩,λm b=>by
  rcases h.frame_off _ (ao) m b l with h|h
  all_goals grind [Hp.one_self]⟩
def RS(e:Entry)(c:Code)(Q:Exit->Act->World->Prop)(s:AG)(h:Hp)(ms:List Hp):Prop:=
 ∀l,LoopAt e l->∀a w,Has e.n e.ds a s->e.Ends w h ms->¬LetsOut Q->c.wpIn (FR l) 0 e.P Q a w
def cR(e:Entry)(y:Code)(Q:Exit->Act->World->Prop)(a:Act)(w:World):Prop:=∀l,LoopAt e l->¬LetsOut Q->y.wpIn (FR l) 0 e.P Q a w
section
variable {e:Entry} {Q:Exit->Act->World->Prop} {s s':AG} {h:Hp} {ms:List Hp} {ops:Array Oper}
theorem Dq(k:RS e x (Exit.then (cR e y Q) Q) s h ms):RS e (.seq x y) Q s h ms:=λl b a w f g d=>
 wpIn_seq (wpIn_mono (k l b a w f g λ⟨a,w,h⟩=>d ⟨a,w,h⟩) λx a w q=>by
  cases x with
  | normal=>exact q l b d
  | _=>exact q)
theorem B9(k:RS e y Q s h ms):NX e (Exit.then (cR e y Q) Q) .normal s h ms:=λa w d g l b f=>k l b a w d g f
theorem Ex(k:RS e c (Exit.inBlock id Q) s h ms):RS e (.block id c) Q s h ms:=
 λl b a w d g f=>wpIn_block (k l b a w d g λ⟨a,w,h⟩=>f ⟨a,w,h⟩)
theorem XE(k:NX e Q (.exit id) s h ms):RS e (.exit id) Q s h ms:=λl d a w b f _=>wpIn_exit (k a w b f)
theorem Ahk(k:NX e Q .ret s h ms):RS e .ret Q s h ms:=λl d a w b f _=>wpIn_ret (k a w b f)
theorem Ii(k:NX e Q .normal s h ms):RS e .skip Q s h ms:=λl d a w b f _=>wpIn_skip (k a w b f)
theorem AeF{b:Bool}(k:lk s t=some (.bool b))(p:b=true->RS e x Q s h ms)(m:b=false->RS e y Q s h ms):RS e (.cond (.tmp t) x y) Q s h ms:=
 λl d a w f j i=>wpIn_cond_split (f.eval (.tmp t) _ k) (λg=>p g l d a w f j i) (λg=>m g l d a w f j i)
theorem Na{p:Prop}{_:Decidable p}(d:lk s t=some (.bool (decide p)))(g:p->RS e x Q s h ms)(f:¬p->RS e y Q s h ms):RS e (.cond (.tmp t) x y) Q s h ms:=by grind [AeF,of_decide_eq_false]
theorem Bj{l:List Oper}(d:JX l=true)(k:WL e l.toArray Q l s h ms):RS e (.region id l.toArray false) Q s h ms:=
 λ_ _ a w b g f=>wpIn_region_lit (R6 f l d a w (k a w b g))
theorem Lk{l:List Oper}{bs:List Bool}(m:List Bool)(p:e.P.follows .mixedOrders=true)(g:Nj (Wp m 0) l.toArray=true)(b:K5 l.toArray=true)(r:l.length=n)
  (d:(range n).map (λi=>(Wp m 0).contains i)=bs) (f:JX l=true) (k:C5 e.P l e.n s h (λz=>WB e l.toArray Q h n bs.toArray (z++s) h ms) (Wp m 0) []):RS e (.region id l.toArray true) Q s h ms:=
 λ_ _ a w j v u=>wpIn_region_any p (Ads u f _ _ _ _ (VD m g b r d k a w j v))
theorem Aeq(I:Nat->AG->Hp->List Hp->Prop)(n:Nat)(s':AG)(z:I n s' h ms)(hs:Sub s' s)
  (i:∀n s h ms,I n s h ms->RS e c (Exit.then (λa w=>∃u,u<n/\Inv e (I u) a w) Q) s h ms):RS e (.loop c) Q s h ms:=by
 intro l K a w A T M b k cs S B R
 have key:∀n a w,Inv e (I n) a w->∃x r v,Q x r v/\ArrivesIn (Machine.fenced e.P (FR l)) e.P (lone (b.atR a (.code c::.inLoop c::k)) cs w) b k cs x r v:=by
  intro n
  induction n using Nat.strongRecOn with
  | _ n ih=>
   intro a w ⟨s,h,ms,z,A,T⟩;obtain⟨x,j,m,f,d⟩:=i n s h ms z l K a w A T (λ⟨a,w,h⟩=>M ⟨a,w,h⟩) b (.inLoop c::k) cs S B R;cases x with
   | normal=>
    obtain⟨u,L,p⟩:=f;obtain⟨x₂,a₂,w₂,O,g⟩:=ih u L j m p;exact⟨x₂,a₂,w₂,O,.of_steps (StepsIn.trans d (.one (fenced_calm B R Y) stepR_inLoop)) g⟩
   | exit id=>exact⟨_,j,m,f,.pass (x:=.inLoop c) Y (λ_ _=>.inl σ) d⟩
   | goto l=>exact⟨_,j,m,f,.pass (x:=.inLoop c) Y (λ_ _=>.inl σ) d⟩
   | ret=>exact⟨_,j,m,f,.pass (x:=.inLoop c) Y (λ_ _=>.inl σ) d⟩
   | panic ch=>exact⟨_,j,m,f,.pass (x:=.inLoop c) Y (λ_ _=>.inl σ) d⟩
   | outgrown=>exact⟨_,j,m,f,.pass (x:=.inLoop c) Y (λ_ _=>.inl σ) d⟩
 obtain⟨x,r,v,M,d⟩:=key n a w ⟨s',h,ms,z,A.sub hs,T⟩;exact⟨x,r,v,M,.of_steps (.one (fenced_calm B R Y) stepR_loop) d⟩
end
abbrev U0(e:Entry)(I:AG->Hp->List Hp->Prop):Exit->Act->World->Prop:=Exit.then (Inv e I) (λ_ _ _=>False)
theorem H6{e:Entry}{I:AG->Hp->List Hp->Prop}:¬LetsOut (U0 e I):=λ⟨_,_,h⟩=>h
def YdT(P:Program)(l:Nat)(args:Array Value)(h:Hp)(ms:List Hp)(post:Value->Hp->List Hp->Prop):Prop:=
 ∀w,St w h ms->∃fn tmps assign body,(Instr.yield l args).run P w=.ok (.round l fn tmps assign body) w/\RoundIn Fence.wide 0 P l fn tmps assign body w (RP w h ms post)
def IL(e:Entry)(ops:Array Oper)(Q:Exit->Act->World->Prop)(l:List Oper)(s:AG)(h:Hp)(ms:List Hp):Prop:=
 ∀a w,Has e.n e.ds a s->e.Ends w h ms->wpListIn Fence.wide 0 e.P ops Q l a w
section
variable {e:Entry} {Q:Exit->Act->World->Prop} {s:AG} {h:Hp} {ms:List Hp} {ops:Array Oper} {o:Oper} {rest:List Oper}
theorem BH{l:List Oper}(k:IL e l.toArray Q l s h ms):WS e (.region id l.toArray false) Q s h ms:=
 λa w b d=>wpIn_wide.1 (wpIn_region_lit (k a w b d))
theorem C4(k:NX e Q .normal s h ms):IL e ops Q [] s h ms:=λa w b d=>k a w b d
theorem BV{d:Nat}{v:Value}(r:OX e.P o s h ms v)(j:o.dst=some d)(p:Nat.blt d e.n=true)(m:o.guard=none)(k:IL e ops Q rest ((d,v)::s) h ms):IL e ops Q (o::rest) s h ms:=λa w b f=>by unfold wpListIn;rw[ah (by simp[Region.wanted,m])];refine Aao ((r a.eval w b.eval f.st).wp λu z ⟨g,i⟩=>?_);subst g;rw[j];exact k _ _ (b.put (d5 p) _)<|f.ext i
theorem K4{x:Operand}{u:Nat}{l:List Operand}{ts:Array TypeId}{z:List Value}{d:Nat}(B:o.op=.call { callee:=.value x,args:=l.toArray,argTypes:=ts })(hx:ev s x=some (.func (.yield u) #[] #[]))(S:Vg s l=some z)(k:YdT e.P u z.toArray h ms post)(T:o.dst=some d)(hn:Nat.blt d e.n=true)(hg:o.guard=none)
  (K:∀v i f,h.le i->post v i f->IL e ops Q rest ((d,v)::s) i f):IL e ops Q (o::rest) s h ms:=λa w p L=>by
 unfold wpListIn;rw[ah (by simp[Region.wanted,hg])];obtain⟨R,m,b,g,hy,hr⟩:=k w L.st
 have j:(execOp a.eval o).run e.P w=.ok (.round u R m b g) w:=by simp[execOp,B,resolve,p.eval _ _ hx,Deferred.ofValue,invoke,(show Evs s a.eval from p.eval).map l z S,hy]
 refine⟨λ_ _=>fu,?_⟩;rw[Oper.semAt_eq _ _ _ (λc e=>by rw[B]at e;cases e),j];refine⟨(λh=>by cases h),hr.mono λx w' ⟨r,i,f,M,A,O⟩=>?_⟩;subst M;show wpListIn _ _ _ _ _ _ (a.put o.dst r) w';rw[T];refine K r i f A.le O _ _ (p.put (d5 hn) _) ?_;have:=Ends.call (fr:=[]) (by rw[d8];exact L) A
 simp_all
end
def Itr(P:Program)(gf:FuncId)(lb:List Value)(h:Hp)(N:Nat)(enc:Nat->List Value):Prop:=
 ∀(lp:Nat) (X:Nat->Hp->List Hp->Prop) (h1:Hp) (ms:List Hp),h.le h1->(∀k h2 ms2,k<N->h1.le h2->X k h2 ms2->YdT P lp (enc k).toArray h2 ms2 (λr h' ms'=>r=.bool true/\X (k+1) h' ms'))->X 0 h1 ms →
  FnT P gf ([Value.func (.yield lp) #[] #[]]++lb).toArray h1 ms (λ_ h' ms'=>X N h' ms')
def N5:List Nat->List Value->AG->AG
 | p::ps,v::vs,s=>N5 ps vs ((p,v)::s)
 | _,_,s=>s
theorem Lc{e:List Nat}{D:List Deferred}(f:D=mkD e):∀(b:List Nat) (d:List Value) (s:AG) (t:Array Value),(∀p∈b,p<n)->Has n e { tmps:=t,defers:=D } s->Has n e { tmps:=(b.zip d).foldl (λt (p,v)=>t.setIfInBounds p v) t,defers:=D } (N5 b d s)
 | [],d,s,t,_,H=>by cases d<;>exact H
 | p::b,[],s,t,_,H=>H
 | p::b,v::d,s,t,hp,H=>by show Has n e { tmps:=(b.zip d).foldl (λt (p,v)=>t.setIfInBounds p v) (t.setIfInBounds p v),defers:=D } (N5 b d ((p,v)::s));exact Lc f b d _ _ (λq g=>hp q<|am _ g)<|H.put (hp p ao) v
def Mk(D:Nat):Hp:=Hp.one D (.deferred (some []))
theorem Ends.putL{i:World}{e h:Hp}{b f:List Hp}{o:Obj}(g:Obj)(p:Ends i e b w h (Hp.one l o::f)):Ends i e b (w.putObj l g) h (Hp.one l g::f):=by have m:w.heap[l]?=some o:=p.st.own _ (ao) l o (Hp.one_self l o);have d:=(cj.1 m).1;exact p.change Y ⟨Y,ak _⟩ Y σ (World.putObj_heap_same d) λk _ j=>World.putObj_heap_other j
theorem F8{e:Entry}{Q:Exit->Act->World->Prop}{s:AG}{h:Hp}{ms:List Hp}{S:Nat}{lb:List Value}{K:List Nat}{assign body:Code}(J:Nat->Hp->List Hp->Prop)(A:Nat->AG->Hp->List Hp->Prop){N:Nat}{g:Nat->List Value}
  (hg:lk s t=some (.func (.func S) #[] lb.toArray)) (hc:∀az w,(callFunc S az).run e.P w=.ok (.enter S az) w) (hit:Itr e.P S lb h N g) (hps:∀k,(g k).length=K.length) (hpn:K.all (λp=>Nat.blt p e.n)=true)
  (h0:J 0 h ms)
  (hA:∀w0 k i f,k<N->h.le i->J k i f->RS ⟨e.P,w0,i,f,e.n,[]⟩ assign (U0 ⟨e.P,w0,i,f,e.n,[]⟩ (A k)) (N5 K (g k) s) i f)
  (hB:∀w0 k s1 i f,k<N->h.le i->A k s1 i f->RS ⟨e.P,w0,i,f,e.n,[]⟩ body (U0 ⟨e.P,w0,i,f,e.n,[]⟩ (λ_=>J (k+1))) s1 i f)
  (hK:∀D i f,h.le i->J N i f->NX ⟨e.P,e.w0,e.h0,e.ms0,e.n,D::e.ds⟩ Q .normal s i (f++[Mk D])) :
  WS e (.rangeFunc (.tmp t) K.toArray assign body) Q s h ms:=by
 intro a w ha hw;refine(wpIn_wide (n:=0)).1 (wpIn_rangeFunc λfn _=>?_);have hge:a.eval (.tmp t)=.func (.func S) #[] lb.toArray:=ha.eval (.tmp t) _ hg;obtain⟨b,d⟩:∃b:LoopState->Loop,b=λst=>{ state:=st,pending:=none,fn,tmps:=a.tmps,params:=K.toArray,assign,body,defers:=w.heap.size }:=⟨_,Y⟩
 obtain⟨l,hl⟩:∃l,l=w.heap.size+1:=⟨_,Y⟩
 obtain⟨R,hW1⟩:∃R,(w.alloc (.deferred (some []))).alloc (.loop (b .ready))=R:=⟨_,Y⟩
 have hE1:e.Ends R h (ms++[Hp.one l (.loop (b .ready)),Mk w.heap.size]):=by
  have h2:=(hw.alloc (.deferred (some []))).alloc (.loop (b .ready));rw[World.size_alloc,<-hl,hW1]at h2
  exact h2.perm (by
   refine List.Perm.trans ?_ db
   exact gv _)
 have hN:w.heap.size=w.heap.size:=rfl;refine⟨l,[{ target:=.collected w.heap.size,args:=#[] }],R,{ target:=.fn (.func S) lb.toArray,args:=#[.func (.yield l) #[] #[]] },R,S,([Value.func (.yield l) #[] #[]]++lb).toArray,R,?_,?_,λ_ _=>fu,?_,(λh=>by cases h),?_⟩
 .simp_all [run_enterLoop_outer]
 .simp only[resolve,hge];simp[go_sem]
 .grind [invoke]
 .refine(callsIn_wide (n:=0)).2 ((hit l (λk i f=>h.le i/\∃j,f=j++[Hp.one l (.loop (b .ready)),Mk w.heap.size]/\J k i j) h _ (Hp.le_refl _) ?_ ⟨Hp.le_refl _,ms,Y,h0⟩ R hE1.st).mono ?_)
  ·-- a round
   rintro k h2 j hkN hl2 ⟨_,j,rfl,hJ⟩ w2 M;have hlo:w2.heap[l]?=some (.loop (b .ready)):=M.own _ σ l _ (Hp.one_self _ _);have hy:=run_yield (P:=e.P) (args:=(g k).toArray) hlo (by simp_all);refine⟨_,_,_,_,hy,?_⟩;have r1:(b .ready).params=K.toArray:=by rw[d]
   have r2:(b .ready).tmps=a.tmps:=by rw[d]
   have r3:(b .ready).assign=assign:=by rw[d]
   have r4:(b .ready).body=body:=by rw[d]
   rw[r1,r2,r3,r4];refine roundIn_of_wpIn fu ?_;have hSp:St w2 h2 j:=M.pre
   have hHas:Has e.n [] { tmps:=(K.toArray.zip (g k).toArray).foldl (λt (p,v)=>t.setIfInBounds p v) a.tmps,defers:=[] } (N5 K (g k) s):=by
    have e1:(K.toArray.zip (g k).toArray).foldl (λt (p,v)=>t.setIfInBounds p v) a.tmps=(K.zip (g k)).foldl (λt (p,v)=>t.setIfInBounds p v) a.tmps:=by simp
    rw[e1];exact Lc Y K (g k) s a.tmps (λp hp=>d5<|dy.1 hpn p hp) ⟨Y,ha.size,ha.slots⟩
   refine wpIn_mono (hA w2 k h2 j hkN hl2 hJ l (LoopAt.of (r:=b .ready) (rest:=[Mk w.heap.size]) M) _ w2 hHas (Ends.refl hSp) H6) ?_;intro x a1 w3 hx;cases x with
   | normal=>
    obtain⟨s3,h3,B,hA3,T,m⟩:=hx;have hEf:Ends w2 h2 (j++[Hp.one l (.loop (b .ready)),Mk w.heap.size]) w3 h3 (B++[Hp.one l (.loop (b .ready)),Mk w.heap.size]):=Ends.call (Ends.refl M) m;have hEp:=hEf.perm (ms':=Hp.one l (.loop (b .ready))::Mk w.heap.size::B) db;have hl3:w3.heap[l]?=some (.loop (b .ready)):=hEp.st.own _ (ao) l _ (Hp.one_self _ _);have L:=Ends.putL (.loop (b .busy)) hEp;refine⟨_,run_beginRound hl3 (by rw[d]),?_⟩;have e2:({ b .ready with state:=.busy }:Loop)=b .busy:=by rw[d]
    rw[e2];have u:=L.perm (ms':=B++[Hp.one l (.loop (b .busy)),Mk w.heap.size]) (db (l₁:=[_,_]));refine wpIn_mono (hB _ k s3 h3 B hkN (Hp.le_trans hl2 m.le) hA3 l (LoopAt.of (r:=b .busy) (rest:=[Mk w.heap.size]) u.st) a1 _ T (Ends.refl u.st.pre) H6) ?_;intro y a2 w5 hy5;cases y with
    | normal=>
     obtain⟨s5,h5,ms5,hJ5,_,z⟩:=hy5;have hE6:=Ends.call u z;have O:=hE6.perm (ms':=Hp.one l (.loop (b .busy))::Mk w.heap.size::ms5) db;have hl6:w5.heap[l]?=some (.loop (b .busy)):=O.st.own _ (ao) l _ (Hp.one_self _ _);refine⟨_,_,run_endRound none hl6,?_⟩;have e3:({ b .busy with state:=if(none:Option Code).isNone then .ready else .done,pending:=none }:Loop)=b .ready:=by rw[d];rfl
     rw[e3];exact⟨_,h5,_,Y,(Ends.putL (.loop (b .ready)) O).perm (db (l₁:=[_,_])),Y,Hp.le_trans hl2 (Hp.le_trans m.le z.le),ms5,Y,hJ5⟩
    | _=>exact hy5.elim
   | _=>exact hx
  .rintro x w3 ⟨r,h3,B,rfl,m,hl3,ms4,rfl,hJ⟩;have L:=Ends.call (fr:=[]) (by rw[d8];exact hE1) m;rw[d8]at L;have z:=L.perm (ms':=Hp.one l (.loop (b .ready))::Mk w.heap.size::ms4) db;have hl5:w3.heap[l]?=some (.loop (b .ready)):=z.st.own _ (ao) l _ (Hp.one_self _ _);refine⟨_,_,run_endLoop hl5 (by rw[d];simp),?_⟩;have e4:(b .ready).pending=none:=by rw[d]
   rw[e4];exact hK w.heap.size h3 ms4 hl3 hJ { a with defers:=[{ target:=.collected w.heap.size,args:=#[] }]++a.defers } _ ⟨by show [_]++a.defers=_;rw[ha.defers];rfl,ha.size,ha.slots⟩ ((Ends.putL _ z).drop.perm<|db (l₁:=[_]))
theorem So{e:Entry}{Q:Exit->Act->World->Prop}{s:AG}{h:Hp}{ms:List Hp}{S:Nat}{lb:List Value}{K:List Nat}{assign body:Code}(J:Nat->Hp->List Hp->Prop)(A:Nat->AG->Hp->List Hp->Prop){N:Nat}{g:Nat->List Value}
  (hg:lk s t=some (.func (.func S) #[] lb.toArray)) (hc:∀az w,(callFunc S az).run e.P w=.ok (.enter S az) w) (hit:Itr e.P S lb h N g) (hps:∀k,(g k).length=K.length) (hpn:K.all (λp=>Nat.blt p e.n)=true)
  (h0:J 0 h ms)
  (hA:∀w0 k i f,k<N->h.le i->J k i f->RS ⟨e.P,w0,i,f,e.n,[]⟩ assign (U0 ⟨e.P,w0,i,f,e.n,[]⟩ (A k)) (N5 K (g k) s) i f)
  (hB:∀w0 k s1 i f,k<N->h.le i->A k s1 i f->RS ⟨e.P,w0,i,f,e.n,[]⟩ body (U0 ⟨e.P,w0,i,f,e.n,[]⟩ (λ_=>J (k+1))) s1 i f)
  (hK:∀i f,h.le i->J N i f->NX e Q .normal s i f) :
  RS e (.rangeFunc (.tmp t) K.toArray assign body) Q s h ms:=by
 intro l0 hl0 a w ha hw hq;obtain⟨⟨r0,hr0⟩,hm0⟩:=hl0;have hlw:w.heap[l0]?=some (.loop r0):=by rw[hw.block l0 (cj.1 hr0).1 hm0,hr0]
 refine wpIn_rangeFunc λfn _=>?_;have hge:a.eval (.tmp t)=.func (.func S) #[] lb.toArray:=ha.eval (.tmp t) _ hg;obtain⟨b,d⟩:∃b:LoopState->Loop,b=λst=>{ state:=st,pending:=none,fn,tmps:=a.tmps,params:=K.toArray,assign,body,defers:=r0.defers }:=⟨_,Y⟩
 obtain⟨l,hl⟩:∃l,l=w.heap.size:=⟨_,Y⟩
 obtain⟨R,hW1⟩:∃R,w.alloc (.loop (b .ready))=R:=⟨_,Y⟩
 have hE1:e.Ends R h (ms++[Hp.one l (.loop (b .ready))]):=by
  have h2:=hw.alloc (.loop (b .ready));rw[<-hl,hW1]at h2
  exact h2.perm (by
   grind [List.Perm.trans,db,gv])
 have hN:w.heap.size=w.heap.size:=rfl;refine⟨l,[],R,{ target:=.fn (.func S) lb.toArray,args:=#[.func (.yield l) #[] #[]] },R,S,([Value.func (.yield l) #[] #[]]++lb).toArray,R,?_,?_,λ_ _=>fu,?_,(λh=>by cases h),?_⟩
 .simp_all [run_enterLoop_inner]
 .simp only[resolve,hge];simp[go_sem]
 .grind [invoke]
 .refine UK ((hit l (λk i f=>h.le i/\∃j,f=j++[Hp.one l (.loop (b .ready))]/\J k i j) h _ (Hp.le_refl _) ?_ ⟨Hp.le_refl _,ms,Y,h0⟩ R hE1.st).mono ?_)
  ·-- a round
   rintro k h2 j hkN hl2 ⟨_,j,rfl,hJ⟩ w2 M;have hlo:w2.heap[l]?=some (.loop (b .ready)):=M.own _ σ l _ (Hp.one_self _ _);have hy:=run_yield (P:=e.P) (args:=(g k).toArray) hlo (by simp_all);refine⟨_,_,_,_,hy,?_⟩;have r1:(b .ready).params=K.toArray:=by rw[d]
   have r2:(b .ready).tmps=a.tmps:=by rw[d]
   have r3:(b .ready).assign=assign:=by rw[d]
   have r4:(b .ready).body=body:=by rw[d]
   rw[r1,r2,r3,r4];refine roundIn_of_wpIn fu ?_;have hSp:St w2 h2 j:=M.pre
   have hHas:Has e.n [] { tmps:=(K.toArray.zip (g k).toArray).foldl (λt (p,v)=>t.setIfInBounds p v) a.tmps,defers:=[] } (N5 K (g k) s):=by
    have e1:(K.toArray.zip (g k).toArray).foldl (λt (p,v)=>t.setIfInBounds p v) a.tmps=(K.zip (g k)).foldl (λt (p,v)=>t.setIfInBounds p v) a.tmps:=by simp
    rw[e1];exact Lc Y K (g k) s a.tmps (λp hp=>d5<|dy.1 hpn p hp) ⟨Y,ha.size,ha.slots⟩
   refine wpIn_mono (hA w2 k h2 j hkN hl2 hJ l (LoopAt.of (r:=b .ready) (rest:=[]) M) _ w2 hHas (Ends.refl hSp) H6) ?_;intro x a1 w3 hx;cases x with
   | normal=>
    obtain⟨s3,h3,B,hA3,T,m⟩:=hx;have hEf:Ends w2 h2 (j++[Hp.one l (.loop (b .ready))]) w3 h3 (B++[Hp.one l (.loop (b .ready))]):=Ends.call (Ends.refl M) m;have hEp:=hEf.perm (ms':=Hp.one l (.loop (b .ready))::B) db;have hl3:w3.heap[l]?=some (.loop (b .ready)):=hEp.st.own _ (ao) l _ (Hp.one_self _ _);have L:=Ends.putL (.loop (b .busy)) hEp;refine⟨_,run_beginRound hl3 (by rw[d]),?_⟩;have e2:({ b .ready with state:=.busy }:Loop)=b .busy:=by rw[d]
    rw[e2];have u:=L.perm (ms':=B++[Hp.one l (.loop (b .busy))]) (db (l₁:=[_]));refine wpIn_mono (hB _ k s3 h3 B hkN (Hp.le_trans hl2 m.le) hA3 l (LoopAt.of (r:=b .busy) (rest:=[]) u.st) a1 _ T (Ends.refl u.st.pre) H6) ?_;intro y a2 w5 hy5;cases y with
    | normal=>
     obtain⟨s5,h5,ms5,hJ5,_,z⟩:=hy5;have hE6:=Ends.call u z;have O:=hE6.perm (ms':=Hp.one l (.loop (b .busy))::ms5) db;have hl6:w5.heap[l]?=some (.loop (b .busy)):=O.st.own _ (ao) l _ (Hp.one_self _ _);refine⟨_,_,run_endRound none hl6,?_⟩;have e3:({ b .busy with state:=if(none:Option Code).isNone then .ready else .done,pending:=none }:Loop)=b .ready:=by rw[d];rfl
     rw[e3];exact⟨_,h5,_,Y,(Ends.putL (.loop (b .ready)) O).perm (db (l₁:=[_])),Y,Hp.le_trans hl2 (Hp.le_trans m.le z.le),ms5,Y,hJ5⟩
    | _=>exact hy5.elim
   | _=>exact hx
  .rintro x w3 ⟨r,h3,B,rfl,m,hl3,ms4,rfl,hJ⟩;have L:=Ends.call (fr:=[]) (by rw[d8];exact hE1) m;rw[d8]at L;have z:=L.perm (ms':=Hp.one l (.loop (b .ready))::ms4) db;have hl5:w3.heap[l]?=some (.loop (b .ready)):=z.st.own _ (ao) l _ (Hp.one_self _ _);refine⟨_,_,run_endLoop hl5 (by rw[d];simp),?_⟩;have e4:(b .ready).pending=none:=by rw[d]
   rw[e4];exact hK h3 ms4 hl3 hJ { a with defers:=[]++a.defers } _ ⟨ha.defers,ha.size,ha.slots⟩ (Ends.putL _ z).drop
theorem Fw{f:FuncId}{d:Func}{l:List Value}{h:Hp}{b:List Hp}
  (s:P.funcs[f]?=some d) (B:d.ntmps=n) (r:d.body=some c) (z:Nat.ble l.length n=true)
  (k:∀j,St j h b->WS ⟨P,j,h,b,n,[]⟩ c (bodyPostM Fence.wide 0 P d (RP j h b post)) (AW 0 l) h b):FnT P f l.toArray h b post:=by
 intro w p;refine(callsIn_wide (n:=0)).1 (callsIn_of_wp_marks s r fu (wpIn_wide.2 (k w p _ w ?_ (Ends.refl p))));have A:=d5 z;refine⟨Y,by simp[B];omega,λi v e=>?_⟩;obtain⟨_,g⟩:=YV l 0 i v e
 grind
theorem Gc{f:World}{e:Hp}{b:List Hp}{D:Nat}{g:Func}{s:AG}{h:Hp}{m:List Hp}{x:Exit}(i:Nat)(r:x=.normal\/x=.ret)(L:m[i]?=some (Mk D))(k:NX ⟨P,f,e,b,n,[]⟩ (bodyPost P g (RP f e b post)) x s h (m.eraseIdx i)) :
  NX ⟨P,f,e,b,n,[D]⟩ (bodyPostM Fence.wide 0 P g (RP f e b post)) x s h m:=by
 intro a w j O;have p:=O.perm (DH L);have u:w.heap[D]?=some (.deferred (some [])):=p.st.own _ (ao) D _ (Hp.one_self _ _);have z:=(Ends.putL (.deferred none) p).drop;have B:=k { a with defers:=[] } _ ⟨Y,j.size,j.slots⟩ z;have K:a.defers=[{ target:=.collected D,args:=#[] }]:=j.defers
 have d:LeavesInM Fence.wide 0 P g a.tmps (RP f e b post) a.defers .returning w:=by rw[K];refine⟨by simp,.inl ⟨D,_,rfl,run_takeDeferred u,?_⟩⟩;rcases r with rfl|rfl<;>· obtain⟨_,v,M,A⟩:=B;exact⟨v,M,A⟩
 rcases r with rfl|rfl<;>exact d
end Go.Eng
namespace Go.Eng
open Go.RowKit
variable {f:Nat->Hp} {N l:Nat} {m a b:Hp} {R:Nat->Hp->Prop}
def Ei(f:Nat->Hp):Nat->Hp
 | 0=>Hp.emp
 | n+1=>(Ei f n).join (f n)
def IH(f:Nat->Hp)(l:Nat)(m:Hp):Nat->Hp:=λk=>if k=l then m else f k
theorem CG(f:Nat->Hp)(l:Nat)(m:Hp):IH f l m l=m:=ah rfl
theorem Cu(f:Nat->Hp){k:Nat}(m:Hp)(h:k≠l):IH f l m k=f k:=af h
theorem joinN_none{g:Nat}:∀{n:Nat},Ei f n g=none<->∀i,i<n->f i g=none
 | 0=>⟨λ_ i h=>Z,λ_=>rfl⟩
 | n+1=>by
  show(match Ei f n g with|some o=>some o|none=>f n g)=none<->_;cases h:Ei f n g with
  | some o=>
   constructor
   .intro e;cases e
   .intro e;have:=(joinN_none (n:=n)).2 λi d=>e i Z;rw[h]at this;cases this
  | none=>
   constructor
   .intro e i d;rcases (Z:i<n\/i=n) with c|rfl
    .exact joinN_none.1 h i c
    .exact e
   .intro e;exact e n Z
def Dj(N:Nat)(f:Nat->Hp):Prop:=∀i j,i<N->j<N->i≠j->(f i).disj (f j)
theorem Fu{g:Nat}{o:Obj}:∀{n:Nat},Dj n f->∀{l:Nat},l<n->f l g=some o->Ei f n g=some o
 | n+1,hd,l,hl,e=>by
  show(match Ei f n g with|some o=>some o|none=>f n g)=some o;rcases (Z:l<n\/l=n) with h|rfl
  .rw[Fu (λi j c d=>hd i j Z Z) h e]
  .have:Ei f l g=none:=joinN_none.2 λi c=>by
    rcases hd i l Z Z Z g with h|h
    .exact h
    .rw[h]at e;cases e
   simp_all
theorem Dj.upd(h:Dj N f)(l:Nat):Dj N (IH f l Hp.emp):=λi j k n c g=>by
 by_cases d:i=l
 .subst d;left;rw[CG];rfl
 .by_cases e:j=l
  .subst e;right;rw[CG];rfl
  .rw[Cu f _ d,Cu f _ e];exact h i j k n c g
theorem Ni(j:Dj N f)(s:l<N):Ei f N=(f l).join (Ei (IH f l Hp.emp) N)/\(f l).disj (Ei (IH f l Hp.emp) N):=by
 have p:∀g,f l g≠none->Ei (IH f l Hp.emp) N g=none:=λg v=>joinN_none.2 λi d=>by
  by_cases h:i=l
  .subst h;rw[CG];rfl
  .rw[Cu f _ h];rcases j i l d s h g with e|e
   all_goals simp_all
 constructor
 .funext g;show _=match f l g with|some o=>some o|none=>Ei (IH f l Hp.emp) N g
  cases h:f l g with
  | some o=>exact Fu j s h
  | none=>
   show Ei f N g=Ei (IH f l Hp.emp) N g;cases e:Ei (IH f l Hp.emp) N g with
   | none=>
    refine joinN_none.2 λi d=>?_;by_cases r:i=l
    .simp_all
    .have:=joinN_none.1 e i d
     simp_all [Cu]
   | some o=>
    have:∃i,i<N/\IH f l Hp.emp i g≠none:=ax λt=>by grind [joinN_none,IH,Hp.emp]
    obtain⟨i,d,n⟩:=this;obtain⟨y,c⟩:=Hp.ne_none n;have:=Fu (j.upd l) d c;rw[e]at this;cases this;have k:i≠l:=λu=>by subst u;rw[CG]at c;cases c
    rw[Cu f _ k]at c;exact Fu j d c
 .intro g;grind
def Bag(N:Nat)(R:Nat->Hp->Prop)(m:Hp):Prop:=∃f:Nat->Hp,Dj N f/\m=Ei f N/\∀l,l<N->R l (f l)
theorem Bag.zero(R:Nat->Hp->Prop):Bag 0 R Hp.emp:=⟨λ_=>Hp.emp,λi j h=>Z,rfl,λl h=>Z⟩
theorem Bag.mono{c:Nat->Hp->Prop}(B:Bag N R m)(h:∀l,l<N->∀x,R l x->c l x):Bag N c m:=
 let ⟨f,h1,h2,h3⟩:=B
 ⟨f,h1,h2,λl d=>h l d _ (h3 l d)⟩
theorem Hp.disj_of_join{c:Hp}(h:a.disj (b.join c)):a.disj b/\a.disj c:=by grind [Hp.disj_symm,Hp.disj_left,Hp.disj_right]
theorem disj_joinN{n:Nat}:m.disj (Ei f n)<->∀i,i<n->m.disj (f i):=by
 constructor
 .intro h i d g;rcases h g with c|c
  all_goals grind [joinN_none]
 .intro h g;by_cases e:m g=none
  .simp_all
  .refine .inr<|joinN_none.2 λi d=>?_;rcases h i d g with c|c
   all_goals simp_all
theorem ID{c:Nat->Hp}:∀{n:Nat},(∀i,i<n->f i=c i)->Ei f n=Ei c n
 | 0,_=>rfl
 | n+1,h=>by show(Ei f n).join (f n)=(Ei c n).join (c n);rw[ID λi d=>h i Z,h n Z]
theorem Bag.snoc{x:Hp}(B:Bag N R m)(s:R N x)(p:m.disj x):Bag (N+1) R (m.join x):=by
 obtain⟨f,e,rfl,k⟩:=B;have n:Ei (IH f N x) N=Ei f N:=ID λi r=>Cu f x Z;refine⟨IH f N x,λi j r t d=>?_,?_,λl u=>?_⟩
 .have c:=disj_joinN.1 (Hp.disj_symm p);rcases (Z:i<N\/i=N) with h|rfl
  .rw[Cu f x (Z:i≠N)];rcases (Z:j<N\/j=N) with g|rfl
   .rw[Cu f x (Z:j≠N)];exact e i j h g d
   .rw[CG];exact Hp.disj_symm<|c i h
  .rw[CG,Cu f x (Z:j≠i)];exact c j Z
 all_goals grind [Ei,IH,CG,Cu]
theorem Bag.open(B:Bag N R m)(K:l<N):∃L u,m=L.join u/\L.disj u/\R l L/\(∀k,k<N->k≠l->∃x,x.le u/\R k x) ∧
  ∀(v:Nat->Hp->Prop) e,e.disj u->v l e->(∀k,k<N->k≠l->∀x,R k x->v k x)->Bag N v (e.join u):=by
 obtain⟨f,y,rfl,A⟩:=B;obtain⟨O,P⟩:=Ni y K;refine⟨f l,_,O,P,A l K,λk z d=>⟨f k,λg o T=>?_,A k z⟩,λv e M S z=>⟨IH f l e,?_,?_,λk t=>?_⟩⟩
 .exact Fu (y.upd l) z (by rw[Cu f _ d];exact T)
 .have h:=disj_joinN.1 M;intro i j r s d;by_cases c:i=l
  .subst c;rw[CG,Cu f _ (gx d)];have:=h j s
   rwa [Cu f _ (gx d)]at this
  .rw[Cu f _ c];by_cases n:j=l
   .subst n;rw[CG];have:=h i r;rw[Cu f _ c]at this;exact Hp.disj_symm this
   .rw[Cu f _ n];exact y i j r s d
 .have Q:Dj N (IH f l e):=by
   have h:=disj_joinN.1 M;intro i j r s d;by_cases c:i=l
   .subst c;rw[CG,Cu f _ (gx d)];have:=h j s
    rwa [Cu f _ (gx d)]at this
   .rw[Cu f _ c];by_cases n:j=l
    .subst n;rw[CG];have:=h i r;rw[Cu f _ c]at this;exact Hp.disj_symm this
    .rw[Cu f _ n];exact y i j r s d
  have:=(Ni Q K).1;rw[CG]at this;rw[this];congr 1;refine ID λi _=>?_;by_cases c:i=l
  .subst c;rw[CG,CG]
  .rw[Cu _ _ c,Cu _ _ c,Cu _ _ c]
 grind [CG,Cu]
theorem Bag.all(B:Bag N R m):∀k,k<N->∃x,x.le m/\R k x:=λk c=>by obtain⟨f,d,rfl,e⟩:=B;exact⟨f k,λg o h=>Fu d c h,e k c⟩
def Pw:Hp->List Hp->Hp
 | h,[]=>h
 | h,m::ms=>Pw (h.join m) ms
theorem St.freezeL{w:World}:∀{c:List Hp} {h:Hp} {pre:List Hp},St w h (pre++c)->St w (Pw h c) pre
 | [],h,pre,s=>by show St w h pre;simp_all
 | m::c,h,pre,s=>by have d:St w h (m::(pre++c)):=(Ends.perm (Ends.refl s) List.perm_middle).st;show St w (Pw (h.join m) c) pre;exact St.freezeL (Ends.freeze<|Ends.refl d).st
theorem KD:∀{c:List Hp} {h:Hp},h.le (Pw h c)
 | [],h=>Hp.le_refl _
 | m::c,h=>Hp.le_trans (Hp.le_join h m) KD
theorem M8:∀{d:List Hp} {h:Hp},(∀m∈d,m.disj h)->d.Pairwise Hp.disj->∀m∈d,m.le (Pw h d)
 | m'::d,h,hd,hp,m,c=>by
  have e:=cg.1 hp;rcases be.1 c with rfl|c
  .exact Hp.le_trans (Hp.join_le_right<|hd _ ao) KD
  .refine M8 (h:=h.join m') (λm c=>?_) e.2 m c;refine Hp.disj_symm<|Hp.disj_join (Hp.disj_symm<|hd m<|am _ c)<|e.1 m c
theorem Aco{P:Program}{f:FuncId}{i:Array Value}{h:Hp}{pre t:List Hp}{post:Value->List Hp->Prop}(k:∀n,h.le n->(∀m∈t,m.le n)->FnT P f i n pre (λr _ d=>post r d)):FnT P f i h (pre++t) (λr v O=>h=v/\∃d,O=d++t/\post r d):=λw B=>by
 have p:=f9.1 B.apart;refine((k (Pw h t) KD (M8 (λm c=>B.off m (ej _ c)) p.2.1)) w B.freezeL).mono λx w' ⟨r,n,d,Q,e,S⟩=>⟨r,h,d++t,Q,?_,Y,d,Y,S⟩
 -- what was frozen is owned again
 have y:∀m∈t,m.le n:=λm c=>Hp.le_trans (M8 (λm c=>B.off m (ej _ c)) p.2.1 m c) e.le;have z:h.le n:=Hp.le_trans KD e.le
 have j:∀m∈d,∀s ,s.le n->m.disj s:=λm c s T g=>by
  rcases e.st.off m c g with u|u
  .simp_all
  .refine .inr ?_;cases v:s g with
   | none=>rfl
   | some o=>rw[T g o v]at u;cases u
 refine⟨⟨λg o M=>e.st.imm g o (z g o M),λm c=>?_,λm c=>?_,?_⟩,e.os,e.tape,e.output,e.size,λk K hn=>?_,Hp.le_refl _,λ_ _ _=>rfl,λm c k K A=>?_⟩
 .rcases bi.1 c with c|c
  .exact e.st.own m c
  .exact λg o M=>e.st.imm g o<|y m c g o M
 .rcases bi.1 c with c|c
  .simp_all
  .exact B.off m<|ej _ c
 .exact f9.2 ⟨e.st.apart,p.2.1,λm c s L=>j m c s<|y s L⟩
 .exact e.block k K λm c=>hn m<|eg _ c
 .rcases bi.1 c with c|c
  .obtain⟨m0,u,v⟩:=e.mnew m c k K A;exact⟨m0,eg _ u,v⟩
  .exact⟨m,ej _ c,A⟩
theorem Hp.le_joinl:a.le (a.join b):=Hp.le_join a b
theorem Hp.join_emp(a:Hp):a.join Hp.emp=a:=by funext g;show(match a g with|some o=>some o|none=>none)=a g;grind
theorem Hp.emp_join(a:Hp):Hp.emp.join a=a:=rfl
theorem Hp.join_assoc(a b c:Hp):(a.join b).join c=a.join (b.join c):=by funext g;show(match (match a g with|some o=>some o|none=>b g) with|some o=>some o|none=>c g)=(match a g with|some o=>some o|none=>(match b g with|some o=>some o|none=>c g));grind
theorem Hp.join_comm(h:a.disj b):a.join b=b.join a:=by
 funext g;show(match a g with|some o=>some o|none=>b g)=(match b g with|some o=>some o|none=>a g);rcases h g with h|h<;>rw[h]
 all_goals grind
theorem Cz{α:Type}{F:α->List Value}{e:Entry}{Q:Exit->Act->World->Prop}{n:Array Oper}{j:List Oper}{o:Oper}{s:AG}{h:Hp}{A:List Hp}{t el:TypeId}{sz d:Nat}{z:Value}{g:Nat}{x y:Operand}{v u:Value}{l r:List α}(i:Nat)(O:OwnL F sz el m v l)(R:RdL F sz h A u r)(ho:o.op=.call { callee:=.builtin .append,args:=#[x,y],argTypes:=#[t,t] })(ht:e.P.underlying t=some (.slice el))(hs:Elem e.P el sz z g)(P:z.cells.size=sz)(M:0<sz)
  (hx:ev s x=some v) (hy:ev s y=some u) (hm:A[i]?=some m) (T:∀a∈r,∀c∈F a,c.oneCell'=true) (hb:(l.length+r.length)*g<=140737488355328) (k:l.length+r.length<=9223372036854775807) (hd:o.dst=some d) (hn:Nat.blt d e.n=true) (hg:o.guard=none)
  (K:∀B p,OwnL F sz el p B (l++r)->WL e n Q j ((d,B)::s) h (A.set i p)):WL e n Q (o::j) s h A:=
 Qz i ho ht hs P M hx hy hm O.own R.rd (λc hc=>by grind) hb k hd hn hg λB p S=>K B p ⟨by simp_all,O.len⟩
end Go.Eng
namespace Go.Eng
open Go.RowKit
def Goes(ms ms':List Hp):Prop:=∀w0 h0 ms0 w h,Ends w0 h0 ms0 w h ms->Ends w0 h0 ms0 w h ms'
theorem Goes.perm{a b:List Hp}(h:a.Perm b):Goes a b:=λ_ _ _ _ _ x=>x.perm h
variable {c:Code}
def Hp.minus(h m:Hp):Hp:=λg=>match m g with|some _=>none|none=>h g
theorem Hp.minus_le(h m:Hp):(h.minus m).le h:=λg o e=>by
 grind [Hp.minus]
theorem Hp.le_minus{a h m:Hp}(f:a.le h)(d:a.disj m):a.le (h.minus m):=λg o e=>by
 unfold Hp.minus;rcases d g with b|b
 .simp_all
 .rw[b];exact f g o e
theorem Hp.minus_disj(h m:Hp):m.disj (h.minus m):=λg=>by
 grind [Hp.minus]
def Adz(e:Entry)(m:Hp):Prop:=e.h0.disj m/\∀k,k<e.w0.heap.size->m k≠none->∃m0∈e.ms0,m0 k≠none
theorem Ah0{e:Entry}{w:World}{h:Hp}{f:List Hp}{m:Hp}(i:e.Ends w h (m::f)):m.disj h/\Adz e m:=
 ⟨i.st.off m ao,And.intro (λg=>by
  rcases i.st.off m ao g with a|a
  .simp_all
  .left
   cases h2:e.h0 g with
   | none=>rfl
   | some o=>have:=i.le g o h2;simp_all) λk d b=>i.mnew m ao k d b⟩
theorem back{e:Entry}{w:World}{h:Hp}{p:List Hp}{m:Hp}(L:Adz e m)(l:m.le h)(s:e.Ends w h p):e.Ends w (h.minus m) (m::p):=by
 refine⟨⟨λg o j=>s.st.imm g o (Hp.minus_le h m g o j),λx a=>?_,λx a=>?_,?_⟩,s.os,s.tape,s.output,s.size,s.block,Hp.le_minus s.le L.1,λk f n=>?_,λx a k f d=>?_⟩
 .rcases be.1 a with rfl|a
  .exact λg o j=>s.st.imm g o<|l g o j
  .exact s.st.own x a
 .rcases be.1 a with rfl|a
  .exact Hp.minus_disj h x
  .intro g;rcases s.st.off x a g with b|b
   .simp_all
   .right
    cases h2:h.minus m g with
    | none=>rfl
    | some o=>rw[Hp.minus_le h m g o h2]at b;cases b
 .refine cg.2 ⟨λx a g=>?_,s.st.apart⟩;rcases s.st.off x a g with b|b
  .simp_all
  .left
   cases h2:m g with
   | none=>rfl
   | some o=>rw[l g o h2]at b;cases b
 .have b:=s.hnew k f n;unfold Hp.minus;cases h2:m k with
  | none=>exact b
  | some o=>
   obtain⟨r,i,d⟩:=L.2 k f (by rw[h2];simp);simp_all
 .rcases be.1 a with rfl|a
  .exact L.2 k f d
  .exact s.mnew x a k f d
section
variable {e:Entry} {Q:Exit->Act->World->Prop} {s:AG} {h:Hp} {ms:List Hp} {m:Hp}
theorem Et(i:Nat){m:Hp}(a:ms[i]?=some m)(k:WS e c Q s h (m::ms.eraseIdx i)):WS e c Q s h ms:=Sc (DH a) k
theorem Eo{x:Exit}(i:Nat){m:Hp}(a:ms[i]?=some m)(k:NX e Q x s h (m::ms.eraseIdx i)):NX e Q x s h ms:=Jf (DH a) k
theorem MA(k:∀b,h.le b->m.le b->h.disj m->Adz e m->WS e c Q s b ms):WS e c Q s h (m::ms):=λa w f d=>
 let l:=Ah0 d
 k _ (Hp.le_join h m) (Hp.join_le_right l.1) (Hp.disj_symm l.1) l.2 a w f (Ends.freeze d)
theorem Lh(k:∀b,h.le b->m.le b->h.disj m->Adz e m->RS e c Q s b ms):RS e c Q s h (m::ms):=λr d a w g f=>
 let l:=Ah0 f
 k _ (Hp.le_join h m) (Hp.join_le_right l.1) (Hp.disj_symm l.1) l.2 r d a w g (Ends.freeze f)
theorem MN(L:Adz e m)(g:m.le h)(k:∀b,b.le h->(∀a:Hp,a.le h->a.disj m->a.le b)->WS e c Q s b (m::ms)):WS e c Q s h ms:=λa w f i=>
 k _ (Hp.minus_le h m) (λ_ d b=>Hp.le_minus d b) a w f (back L g i)
end
end Go.Eng
namespace Go.Eng
open Go.RowKit
section
variable {κ ν:Type} [DecidableEq κ] {K:κ->Value} {V:ν->Value} {Ok:κ->Prop} {kt et t:TypeId} {g:Nat} {m:Hp} {T:List (κ×ν)} {bs:List Nat}
variable {e:Entry} {Q:Exit->Act->World->Prop} {ops:Array Oper} {rest:List Oper} {o:Oper} {s:AG} {h:Hp} {ms:List Hp}
theorem Dh{x y u:Operand}{z:Value}(i:Nat)(a:κ)(A:ν)(L:O8 e.P kt K Ok)(O:CM K V g Ok m T bs)(hm:ms[i]?=some m)(ho:o.op=.mapUpdate t x y u)(ht:e.P.underlying t=some (.map kt et))(hx:ev s x=some (.map (some g)))(hy:ev s y=some (K a))(hu:ev s u=some (V A))(ha:Ok a)
  (hd:o.dst=none) (hg:o.guard=none) (k:∀M f,CM K V g Ok M (DG T a A) f->WL e ops Q rest s h (ms.set i M)):WL e ops Q (o::rest) s h ms:=
 Pj (post:=λ_ h' ms'=>∃M f,CM K V g Ok M (DG T a A) f/\h'=h/\ms'=ms.set i M) (λρ w P hw=>by
  obtain⟨es,c,rfl,he,hb⟩:=O.ex;have S:w.heap[g]?=some (.map es c):=hw.st.own _ (ez hm) g _ (Hp.one_self _ _);obtain⟨l,hk⟩:=L.key a ha;have hc:=L.law.check w false hk;have hs:=L.law.stays w hk;rcases IQ L O.keys O.ok O.len he w a ha with ⟨h1,R⟩|⟨j,v,b,h1,R,h3,h4⟩
  .have hT:DG T a A=T++[(a,A)]:=by unfold DG;rw[af R]
   have r:(execOp ρ o).run e.P w=.ok .skip { w with heap:=w.heap.setIfInBounds g (.map (es.push ⟨K a,V A,c⟩) (c+1)) }:=by simp only[execOp,ho,P _ _ hx,P _ _ hy,P _ _ hu,Instr.mapUpdate,ep,cw ht,dt,getObj,fl];simp[Sem.run,S,hc,h1,Result.andThen,setObj]
   unfold OpRes;rw[r];refine⟨h,_,Ends.turn hw hm,_,bs++[c],?_,Y,Y⟩;rw[hT];refine⟨⟨_,_,Y,?_,λb n=>?_⟩,by simp[O.len],AdJ O.up hb,?_,λp d=>?_⟩
   .rw[Array.toList_push,he,Adq T bs O.len,cz];rfl
   .grind
   .have:=Gj O.keys a A;simp_all
   .rcases bi.1 d with d|d
    .exact O.ok p d
    simp_all
  .have hj4:=(cj.1 h4)
   have r:(execOp ρ o).run e.P w=.ok .skip { w with heap:=w.heap.setIfInBounds g (.map (es.modify j λe=>{ e with key:=K a,val:=V A }) c) }:=by simp only[execOp,ho,P _ _ hx,P _ _ hy,P _ _ hu,Instr.mapUpdate,ep,cw ht,dt,getObj,fl];simp[Sem.run,S,hc,h1,Result.andThen,setObj,h4,hs]
   unfold OpRes;rw[r];refine⟨h,_,Ends.turn hw hm,_,bs,?_,Y,Y⟩;refine⟨⟨_,_,Y,?_,hb⟩,?_,O.up,Gj O.keys a A,λp d=>?_⟩
   .rw[Gg O.keys R,Yy T bs j _ b h3,List.map_set,<-he];refine ic λk=>?_;rw[Array.getElem?_toList,Array.getElem?_modify,gh];by_cases B:j=k
    .subst B;rw[ah rfl,ah rfl,h4];have:j<es.toList.length:=by simpa using (cj.1 h4).1
     rw[ah this];rfl
    grind
   .rw[Gg O.keys R,fh];exact O.len
   .rw[Gg O.keys R]at d;rcases gy d with d|d
    .exact O.ok p d
    simp_all) hd hg λv h' ms' ⟨M,f,e1,e2,e3⟩=>by grind
end
end Go.Eng
namespace Go.Eng
open Go.RowKit
variable {s:AG} {o:Oper} {h:Hp} {ms:List Hp} {listed:Array Bool} {P:Program}
def Flo(ops:Array Oper)(listed:Array Bool)(j d:Nat)(oj:Oper):Prop:=
 ∀i oi,i≠j->listed[i]?=some false->ops[i]?=some oi->oi.dst≠some d/\(∀t,oi.dst=some t->t ∉ oj.looksAt ops)/\(d∈oi.looksAt ops->∃e∈oi.after,Region.binds .any e=true/\e.on=j)/\∀cs b,oi.op≠.select cs b
def AaR:Op->Bool
 | .select ..=>false
 | _=>true
theorem NM{o:Op}(h:AaR o=true):∀cs b,o≠.select cs b:=λcs b e=>by rw[e]at h;cases h
def Ahw(ops:Array Oper)(L:List Nat)(j d:Nat)(oi:Oper):Bool:=
 (match oi.dst with|none=>true|some t=>!(t==d)&&!(L.contains t))&&(!((oi.looksAt ops).contains d)||oi.after.any (λe=>Region.binds .any e&&e.on==j))&&AaR oi.op
def flo(ops:Array Oper)(listed:Array Bool)(j d:Nat):Bool:=
 match ops[j]? with
 | none=>false
 | some oj=>(oj.dst==some d)&&AaR oj.op&&(Region.ready .any ops listed).contains j&&(range ops.size).all λi=>i==j||listed.getD i true||match ops[i]? with
  | none=>true
  | some oi=>Ahw ops (oj.looksAt ops) j d oi
theorem VB{a:Array Oper}{j d:Nat}(h:flo a listed j d=true):∃g,a[j]?=some g/\g.dst=some d/\(∀cs b,g.op≠.select cs b)/\j∈Region.ready .any a listed/\Flo a listed j d g:=by
 unfold flo at h;split at h
 .cases h
 .rename_i g p;simp only[df,dy,List.contains_iff_mem,beq_iff_eq]at h;obtain⟨⟨⟨u,v⟩,x⟩,y⟩:=h;refine⟨g,p,u,NM v,x,λi M B K r=>?_⟩;have:=y i (b6.2 (cj.1 r).1);simp only[r,Bool.or_eq_true,beq_iff_eq]at this;rcases this with (c|c)|c
  .exact lj c B
  .rw[bo,K]at c;cases c
  grind [Ahw,NM,Array.any_eq_true',List.any_eq_true]
theorem AaD{ops:Array Oper}{i:AG}{v:Value}(a:∀cs b,o.op≠.select cs b)(j:∀t∈o.looksAt ops,∀u,lk s t=some u->lk i t=some u)(k:OX P o s h [] v):OX P o i h [] v:=λρ w d l=>by
 classical
 unfold OpRes;rw[execOp_congr (ρ:=ρ) (ρ':=λx=>if x∈o.op.operands then ρ x else(ev s x).getD undef) o a (λx e=>(ah e).symm)];refine k _ w (λx u c=>?_) l;show(if x∈o.op.operands then ρ x else(ev s x).getD undef)=u;split
 .rename_i e;cases x with
  | tmp t=>exact d _ _<|j t (eg _<|List.mem_filterMap.2 ⟨.tmp t,by simp_all,rfl⟩) u c
  | const v=>exact d _ _ c
  | global g=>exact d _ _ c
  | func f=>exact d _ _ c
 .rw[c];rfl
theorem Oper.wp_sim2{z:AG}{a:Act}{w:World}{K d:Act->World->Prop}{f Qc:Exit->Act->World->Prop}(l:∀x a w,f x a w->x=.normal)(g:¬LetsOut f)(p:execOp (zA z a).eval o=execOp a.eval o)(k:∀t,o.dst=some t->lk z t=none)(j:∀b w v,b.tmps=(a.put o.dst v).tmps->d (zA z b) w->K b w)
  (h:o.wp P (zA z a) w d f):o.wp P a w K Qc:=by
 unfold Oper.wp at *;rw[p]at h;generalize (execOp a.eval o).run P w=r at *;have i:∀v w,d ((zA z a).put o.dst v) w->K (a.put o.dst v) w:=λv w m=>j _ _ v Y (by rw[Ls k];exact m);cases r with
 | ok n w'=>
  cases n<;>simp only[Oper.upon]at h ⊢ <;>
   first
    | exact i _ _ h
    | grind [Calls.mono]
    | exact Rows.mono h<|λ_ _ c=>i _ _ c
    | exact j _ _ undef (by cases o.dst<;>rfl) (by rw[Ls k];exact h)
 | halt x w'=>cases x<;>simp only[Oper.upon]at h ⊢<;>exact lj (l _ _ _ h) σ
theorem OX.at{b:Hp}{v:Value}(k:OX P o s b [] v)(c:b.le h):OX P o s h ms v:=λρ w f d=>
 k ρ w f ⟨λg o e=>d.imm g o (c g o e),λm a=>by simp at a,λm a=>by simp at a,List.Pairwise.nil⟩
def GK(ops:Array Oper)(oj:Oper)(s:AG):Prop:=oj.guard=none\/∃k b ok dk,oj.guard=some (k,b)/\ops[k]?=some ok/\ok.dst=some dk/\lk s dk=some (.bool b)
theorem GK.mono{a:Array Oper}{c:Oper}{i:AG}(h:GK a c s)(l:∀t∈c.looksAt a,∀u,lk s t=some u->lk i t=some u):GK a c i:=by
 rcases h with h|⟨k,b,m,d,e,f,g,j⟩
 .exact .inl h
 .refine .inr ⟨k,b,m,d,e,f,g,l d ?_ _ j⟩;grind [Oper.looksAt,ej]
section
variable {e:Entry} {ops:Array Oper} {Q:Exit->Act->World->Prop} {h0:Hp} {j d:Nat} {v:Value} {oj:Oper}
theorem AfU{a:List Oper}{Q:Exit->Act->World->Prop}(p:GK ops oj s)(g:OX e.P oj s h ms v)(c:oj.dst=some d)(f:Nat.blt d e.n=true)(k:WL e ops Q a ((d,v)::s) h ms):WL e ops Q (oj::a) s h ms:=by
 rcases p with h|⟨q,b,t,r,i,l,m,n⟩
 all_goals grind [Zd,Af2]
theorem Af1(hoj:ops[j]?=some oj)(hdj:oj.dst=some d)(hd:d<e.n)(hsel:∀cs b,oj.op≠.select cs b) :
  ∀n listed s s1 h ms,h0.le h->j∈Region.ready .any ops listed->Flo ops listed j d oj->(∀t u,lk s1 t=some u->lk ((d,v)::s) t=some u)->GK ops oj s->OX e.P oj s h0 [] v->WB e ops Q h0 n (listed.setIfInBounds j true) s1 h ms->WB e ops Q h0 (n+1) listed s h ms:=by
 intro n
 induction n with
 | zero=>
  intro listed s s1 h ms R hj hF hs hG hx H;refine⟨λhr=>(by simp_all),λi hi=>?_⟩;by_cases m:i=j
  .subst m;exact⟨oj,hoj,AfU hG (hx.at R) hdj (Nat.ble_eq_true_of_le hd) (Am λa w z hw=>⟨Y,s1,h,ms,⟨z.defers,z.size,λt u c=>z.slots t u (hs t u c)⟩,hw,R,H⟩)⟩
  .obtain⟨K,o,ho,A⟩:=ir.1 hi;have h1:=BT K
   have:i∈Region.ready .any ops (listed.setIfInBounds j true):=ir.2 ⟨by rw[getD_set_ne _ (gx m)];exact K,o,ho,λe he M=>by
    have:=A e he M;by_cases O:j=e.on
    all_goals simp_all [cj,BT,ir]⟩
   rw[H.1]at this;cases this
 | succ n ih=>
  intro listed s s1 h ms R hj hF hs hG hx H;refine⟨λhr=>(by simp_all),λi hi=>?_⟩;by_cases m:i=j
  .subst m;exact⟨oj,hoj,AfU hG (hx.at R) hdj (Nat.ble_eq_true_of_le hd) (Am λa w z hw=>⟨Y,s1,h,ms,⟨z.defers,z.size,λt u c=>z.slots t u (hs t u c)⟩,hw,R,H⟩)⟩
  .obtain⟨K,o,ho,A⟩:=ir.1 hi;have h1:=BT K;have hjl:=BT (ir.1 hj).1;have hjlt:=(cj.1 hjl).1
   have hr':i∈Region.ready .any ops (listed.setIfInBounds j true):=ir.2 ⟨by rw[getD_set_ne _ (gx m)];exact K,o,ho,λe he M=>by
    have:=A e he M;by_cases O:j=e.on
    all_goals simp_all⟩
   obtain⟨f1,f2,f3,f4⟩:=hF i o m h1 ho
   have f3':d ∉ o.looksAt ops:=λhm=>by obtain⟨e,he,M,hon⟩:=f3 hm;have:=A e he M;simp_all
   obtain⟨o',ho',HW⟩:=H.2 i hr';rw[ho]at ho';cases ho';refine⟨o,ho,λa w z hw=>?_⟩
   have hza:∀(b:Act) t,t≠d->(zA [(d,v)] b).tmps[t]?=b.tmps[t]?:=λb t r=>by rw[H0,BR _ _ (gx r)];cases b.tmps[t]?<;>rfl
   have hzd:∀(b:Act),d<b.tmps.size->(zA [(d,v)] b).tmps[d]?=some v:=λb M=>by rw[H0,BM];simp[M]
   have haz:Has e.n e.ds (zA [(d,v)] a) s1:=⟨z.defers,by simp[zA,z.size],λt u c=>by
    have:=hs t u c;by_cases l:d=t
    .subst l;rw[BM]at this;cases this;exact hzd a (by rw[z.size];exact hd)
    .rw[BR _ _ l]at this;rw[hza a t (gx l)];exact z.slots t u this⟩
   have H':=HW (zA [(d,v)] a) w haz hw;unfold wpList at H' ⊢;have hsame:∀t∈o.looksAt ops,(zA [(d,v)] a).tmps[t]?=a.tmps[t]?:=λt r=>hza a t (λe'=>f3' (e' ▸ r))
   have hx':execOp (zA [(d,v)] a).eval o=execOp a.eval o:=execOp_congr o f4 λx hx=>by
    cases x with
    | tmp t=>
     have:=hsame t (eg _ (List.mem_filterMap.2 ⟨.tmp t,by simpa using hx,rfl⟩));simp_all [Act.eval,bo]
    | const v=>rfl
    | global g=>rfl
    | func f=>rfl
   have hwant:Region.wanted o (yielded ops (zA [(d,v)] a).tmps)=Region.wanted o (yielded ops a.tmps):=by
    unfold Region.wanted;cases hg:o.guard with
    | none=>rfl
    | some p=>
     obtain⟨k,b⟩:=p
     have:yielded ops (zA [(d,v)] a).tmps k=yielded ops a.tmps k:=by
      unfold yielded;cases hd:(ops[k]?).bind (·.dst) with
      | none=>rfl
      | some t=>
       have r:t∈o.looksAt ops:=by unfold Oper.looksAt;refine ej _ ?_;simp only[hg];rw[hd];simp
       simp[hd,hsame t r]
     simp_all
   rw[hwant]at H'
   have hdz:∀t,o.dst=some t->lk [(d,v)] t=none:=λt r=>by rw[BR _ _ (λe'=>f1 (by rw[r,e']))];rfl
   have T:∀b w v',b.tmps=(a.put o.dst v').tmps->(QB e ops Q h0 n ((listed.setIfInBounds j true).setIfInBounds i true)) .normal (zA [(d,v)] b) w->(QB e ops Q h0 (n+1) (listed.setIfInBounds i true)) .normal b w:=λb w v' hbt hh=>by
    obtain⟨-,s',h',ms',g1,g2,g3,g4⟩:=hh
    have hbget:∀t,o.dst≠some t->b.tmps[t]?=a.tmps[t]?:=λt r=>by
     rw[hbt];cases hd:o.dst with
     | none=>rfl
     | some d'=>
      grind [Act.put,ft]
    have hbs:b.tmps.size=a.tmps.size:=by rw[hbt];cases o.dst<;>simp[Act.put]
    have hbn:b.tmps.size=e.n:=by rw[hbs,z.size]
    let L:=oj.looksAt ops
    have S:∀(p:Nat->Bool) (s:AG) t,lk (s.filter (λx=>p x.1)) t=if p t=true then lk s t else none:=by
     intro p s t
     induction s with
     | nil=>simp[lk]
     | cons x s ih=>
      obtain⟨y,u⟩:=x;by_cases hy:p y=true
      .rw[jt (by exact hy)];by_cases B:y=t
       .subst B;rw[BM,BM,ah hy]
       .rw[BR _ _ B,BR _ _ B,ih]
      grind [ju,BR]
    let sL:=s.filter (λx=>L.contains x.1)
    let sR:=s'.filter (λx=>!(x.1==d))
    have hL:∀t u,lk sL t=some u->t∈L/\lk s t=some u:=λt u c=>by
     rw[S (λt=>L.contains t)]at c;simp_all
    have hLb:∀t u,lk sL t=some u->b.tmps[t]?=some u:=λt u c=>by obtain⟨k1,k2⟩:=hL t u c;rw[hbget t (λe'=>f2 t e' k1)];exact z.slots t u k2
    have hR:∀t,t≠d->lk sR t=lk s' t:=λt r=>by rw[S (λt=>!(t==d))];simp[r]
    have hRd:lk sR d=none:=by rw[S (λt=>!(t==d))];simp
    have hb':∀t u,t≠d->lk s' t=some u->b.tmps[t]?=some u:=λt u r c=>by rw[<-hza b t r];exact g1.slots t u c
    refine⟨Y,sL++sR,h',ms',⟨g1.defers,hbn,λt u c=>?_⟩,g2,g3,?_⟩
    .rw[DA]at c;cases hl:lk sL t with
     | some u'=>simp_all
     | none=>
      rw[hl]at c;have l:t≠d:=λe'=>by subst e';simp only[Option.none_or]at c;rw[hRd]at c;cases c
      simp_all
    .refine ih (listed.setIfInBounds i true) (sL++sR) s' h' ms' g3 ?_ ?_ ?_ ?_ ?_ (by grind [Array.setIfInBounds_comm])
     .obtain⟨_,oj',hoj',hall'⟩:=ir.1 hj;refine ir.2 ⟨by rw[getD_set_ne _ m];exact(ir.1 hj).1,oj',hoj',λed he M=>?_⟩;have:=hall' ed he M;by_cases hei:i=ed.on
      .rw[<-hei];have:=(cj.1 h1).1;simp[this]
      simp_all
     .intro k ok hk hl hok;refine hF k ok hk ?_ hok;grind
     .intro t u c;by_cases l:d=t
      .subst l;have k1:=g1.slots _ u c;grind [BM]
      .rw[BR _ _ l,DA];cases hl:lk sL t with
       | some u'=>
        grind
       | none=>grind
     .have hlk:∀t∈oj.looksAt ops,∀u,lk s t=some u->lk (sL++sR) t=some u:=λt r u c=>by
       rw[DA];have:lk sL t=some u:=by rw[S (λt=>L.contains t),ah (List.contains_iff_mem.2 r)];exact c
       simp_all
      exact hG.mono hlk
     .refine AaD (ops:=ops) hsel (λt r u c=>?_) hx;rw[DA];have:lk sL t=some u:=by rw[S (λt=>L.contains t),ah (List.contains_iff_mem.2 r)];exact c
      simp_all
   split
   .rename_i hw';rw[ah hw']at H';rcases H' with H'|⟨_,H'⟩
    .exact .inl<|Oper.wp_sim2 (λx a w h=>h.1) QZ hx' hdz (λb w v M hh=>T b w v M hh) H'
    .exact lj H' QZ
   .rename_i hw';rw[af hw']at H';exact T _ _ undef Y (by rw[Ls hdz];exact H')
theorem A7{n:Nat}(j d:Nat)(m:flo ops listed j d=true)(a:ops[j]?=some o)(b:h0.le h)(r:Nat.blt d e.n=true)(y:OX e.P o s h0 [] v)(k:WB e ops Q h0 n (listed.setIfInBounds j true) ((d,v)::s) h ms)(p:o.guard=none:=by rfl):WB e ops Q h0 (n+1) listed s h ms:=by obtain⟨oj,c,f,g,i,l⟩:=VB m;rw[a]at c;cases c;exact Af1 a f (d5 r) g n listed s _ h ms b i l (λt u x=>x) (.inl p) y k
theorem Bc{n:Nat}(j d:Nat){i:Oper}{q c:Nat}{b:Bool}(y:flo ops listed j d=true)(a:ops[j]?=some o)(z:o.guard=some (q,b))(B:ops[q]?=some i)(f:i.dst=some c)(L:lk s c=some (.bool b))(g:h0.le h)(A:Nat.blt d e.n=true)(M:OX e.P o s h0 [] v)(k:WB e ops Q h0 n (listed.setIfInBounds j true) ((d,v)::s) h ms):WB e ops Q h0 (n+1) listed s h ms:=by obtain⟨oj,l,m,p,r,x⟩:=VB y;rw[a]at l;cases l;exact Af1 a m (d5 A) p n listed s _ h ms g r x (λt u K=>K) (.inr ⟨q,b,i,c,z,B,f,L⟩) M k
end
end Go.Eng
namespace Go.Eng
open Go.RowKit
theorem Wg(g k:Nat):(⟨g,0,none⟩:Addr).add k=⟨g,k,none⟩:=by grind [Addr.add]
theorem Q3{α:Type}{F:α->List Value}{sz:Nat}(b:∀x,(F x).length=sz){l:List α}{j:Nat}(c:j<l.length)(a:α):(l.flatMap F).take (j*sz)++F a++(l.flatMap F).drop (j*sz+sz)=(l.set j a).flatMap F:=by
 have e:j*sz+sz=(j+1)*sz:=by rw[dq,gn]
 grind [HS,F6,List.set_eq_take_append_cons_drop,fe,eo,du]
section
variable {e:Entry} {Q:Exit->Act->World->Prop} {ops:Array Oper} {rest:List Oper} {o:Oper} {s:AG} {h:Hp} {ms:List Hp} {α:Type} {F:α->List Value} {l:List α} {v:Value} {m:Hp} {el:TypeId} {sz:Nat}
theorem EY{t:TypeId}{x y:Operand}{u z:Value}{d:Nat}(i j:Nat)(a:α)(O:OwnL F sz el m v l)(ho:o.op=.store t x y)(hs:Elem e.P t sz z d)(hx:ev s x=some (.pointer (some ((AJ v).add (j*sz)))))(hy:ev s y=some u)(hv:u.cells=(F a).toArray)(h1:∀c∈F a,c.oneCell'=true)
  (S:ms[i]?=some m) (M:j<l.length) (hd:o.dst=none) (hg:o.guard=none)
  (K:∀m',OwnL F sz el m' v (l.set j a)->WL e ops Q rest s h (ms.set i m')):WL e ops Q (o::rest) s h ms:=by
 obtain⟨⟨h2,h3⟩,n⟩:=O;rcases h3 with ⟨rfl,h4,rfl⟩|⟨g,p,b,rfl,rfl,e1,e2,e3⟩
 .omega
 .have hle:(j+1)*sz<=l.length*sz:=eh sz M;have hjs:j*sz+sz=(j+1)*sz:=by rw[dq,gn]
  have r:=n a;refine Pj (post:=λ_ h' R=>h'=h/\R=ms.set i (BE g el ((l.set j a).flatMap F++b))) (λρ w hρ T=>?_) hd hg λ_ _ _ ⟨e4,e5⟩=>?_
  .have B:w.heap[g]?=some (.cells (l.flatMap F++b).toArray el (0,0)):=T.st.own _ (ez S) g _ (Hp.one_self _ _);have f:=run_storeCells_at (P:=e.P) g (j*sz) el (F a) 0 _ w B (by grind) h1
   have A:(AJ (.slice (some ⟨g,0,none⟩) l.length p)).add (j*sz)=⟨g,j*sz,none⟩:=by show(⟨g,0,none⟩:Addr).add (j*sz)=_;exact Wg g<|j*sz
   have L:(l.flatMap F++b).take (j*sz)++F a++(l.flatMap F++b).drop (j*sz+sz)=(l.set j a).flatMap F++b:=by rw[List.take_append_of_le_length Z,List.drop_append_of_le_length Z,<-du,Q3 n M]
   have:(execOp ρ o).run e.P w=.ok .skip (w.setRow g ((l.set j a).flatMap F++b).toArray):=by simp[execOp,ho,hρ _ _ hx,hρ _ _ hy,Instr.storeAt,Instr.sureAddr,storeVar,hs.sizeOf,hv,r,A];simp at f;rw[r]at f;rw[f,<-du,L];rfl
   unfold OpRes;rw[this];exact⟨h,_,Ends.put T S Y ⟨Y,ak _⟩ Y σ (setRow_heap w g _ _ _ _ B) (λk hk P=>setRow_other w g k _ P),rfl,rfl⟩
  .subst e4 e5;refine K _ ⟨⟨?_,.inr ⟨g,p,b,by rw[fh],rfl,?_,by rw[fh];omega,e3⟩⟩,n⟩
   all_goals grind [B6,fh,ag]
end
end Go.Eng
namespace Go.Eng
open Go.RowKit
def Aii{ι:Type}(P:Program)(gf:FuncId)(lb:List Value)(h:Hp)(R:ι->List Value->ι->Prop)(i0:ι)(fin:ι->Prop):Prop:=
 ∀(lp:Nat) (X:ι->Hp->List Hp->Prop) (h1:Hp) (ms:List Hp),h.le h1->(∀i vs i' h2 ms2,R i vs i'->h1.le h2->X i h2 ms2->YdT P lp vs.toArray h2 ms2 (λr h' ms'=>r=.bool true/\X i' h' ms'))->X i0 h1 ms →
  FnT P gf ([Value.func (.yield lp) #[] #[]]++lb).toArray h1 ms (λ_ h' ms'=>∃i,fin i/\X i h' ms')
theorem SO{e:Entry}{c:Array Oper}{Q:Exit->Act->World->Prop}{b:List Oper}{s:AG}{h:Hp}{d:List Hp}{m:Hp}(k:IL e c Q b s h d):IL e c Q b s h (m::d):=λa w f g=>k a w f (Ends.drop g)
theorem PL{e:Entry}{Q:Exit->Act->World->Prop}{s:AG}{h:Hp}{O pre fr:List Hp}{p:Array Oper}{o:Oper}{i:List Oper}{x:Operand}{z:Nat}{l:List Operand}{ts:Array TypeId}{A:List Value}{d:Nat}{g:Value->Hp->List Hp->Prop}(hp:O.Perm (pre++fr))(L:o.op=.call { callee:=.value x,args:=l.toArray,argTypes:=ts })(hx:ev s x=some (.func (.yield z) #[] #[]))(T:Vg s l=some A)(k:YdT e.P z A.toArray h pre g)(hd:o.dst=some d)(hn:Nat.blt d e.n=true)(hg:o.guard=none)
  (K:∀v m f,h.le m->g v m f->IL e p Q i ((d,v)::s) m (f++fr)):IL e p Q (o::i) s h O:=λa w u y=>by
 have M:=Ends.perm y hp;unfold wpListIn;rw[ah (by simp[Region.wanted,hg])];obtain⟨S,t,b,j,hy,hr⟩:=k w M.st.pre
 have n:(execOp a.eval o).run e.P w=.ok (.round z S t b j) w:=by simp[execOp,L,resolve,u.eval _ _ hx,Deferred.ofValue,invoke,(show Evs s a.eval from u.eval).map l A T,hy]
 refine⟨λ_ _=>fu,?_⟩;rw[Oper.semAt_eq _ _ _ (λc e=>by simp_all),n];refine⟨(λh=>by cases h),hr.mono λx w' ⟨r,m,f,P,B,R⟩=>?_⟩;subst P;show wpListIn _ _ _ _ _ _ (a.put o.dst r) w';rw[hd];exact K r m f B.le R _ _ (u.put (d5 hn) _)<|Ends.call M B
theorem Pb{ι:Type}{e:Entry}{Q:Exit->Act->World->Prop}{s:AG}{h:Hp}{ms:List Hp}{t P:Nat}{lb:List Value}{B:List Nat}{assign body:Code}(J:ι->Hp->List Hp->Prop)(A:ι->List Value->ι->AG->Hp->List Hp->Prop){R:ι->List Value->ι->Prop}{i0:ι}{fin:ι->Prop}
  (hg:lk s t=some (.func (.func P) #[] lb.toArray)) (hc:∀az w,(callFunc P az).run e.P w=.ok (.enter P az) w) (hit:Aii e.P P lb h R i0 fin) (hps:∀k f j,R k f j->f.length=B.length) (hpn:B.all (λp=>Nat.blt p e.n)=true)
  (h0:J i0 h ms)
  (hA:∀w0 k f j g d,R k f j->h.le g->J k g d->RS ⟨e.P,w0,g,d,e.n,[]⟩ assign (U0 ⟨e.P,w0,g,d,e.n,[]⟩ (A k f j)) (N5 B f s) g d)
  (hB:∀w0 k f j s1 g d,R k f j->h.le g->A k f j s1 g d->RS ⟨e.P,w0,g,d,e.n,[]⟩ body (U0 ⟨e.P,w0,g,d,e.n,[]⟩ (λ_=>J j)) s1 g d)
  (hK:∀D k g d,fin k->h.le g->J k g d->NX ⟨e.P,e.w0,e.h0,e.ms0,e.n,D::e.ds⟩ Q .normal s g (d++[Mk D])) :
  WS e (.rangeFunc (.tmp t) B.toArray assign body) Q s h ms:=by
 intro a w ha hw;refine(wpIn_wide (n:=0)).1 (wpIn_rangeFunc λfn _=>?_);have hge:a.eval (.tmp t)=.func (.func P) #[] lb.toArray:=ha.eval (.tmp t) _ hg;obtain⟨b,c⟩:∃b:LoopState->Loop,b=λst=>{ state:=st,pending:=none,fn,tmps:=a.tmps,params:=B.toArray,assign,body,defers:=w.heap.size }:=⟨_,Y⟩
 obtain⟨l,hl⟩:∃l,l=w.heap.size+1:=⟨_,Y⟩
 obtain⟨O,hW1⟩:∃O,(w.alloc (.deferred (some []))).alloc (.loop (b .ready))=O:=⟨_,Y⟩
 have hE1:e.Ends O h (ms++[Hp.one l (.loop (b .ready)),Mk w.heap.size]):=by
  have h2:=(hw.alloc (.deferred (some []))).alloc (.loop (b .ready));rw[World.size_alloc,<-hl,hW1]at h2
  exact h2.perm (by
   refine List.Perm.trans ?_ db
   exact gv _)
 have hN:w.heap.size=w.heap.size:=rfl;refine⟨l,[{ target:=.collected w.heap.size,args:=#[] }],O,{ target:=.fn (.func P) lb.toArray,args:=#[.func (.yield l) #[] #[]] },O,P,([Value.func (.yield l) #[] #[]]++lb).toArray,O,?_,?_,λ_ _=>fu,?_,(λh=>by cases h),?_⟩
 .simp_all [run_enterLoop_outer]
 .simp only[resolve,hge];simp[go_sem]
 .grind [invoke]
 .refine(callsIn_wide (n:=0)).2 ((hit l (λk g d=>h.le g/\∃i,d=i++[Hp.one l (.loop (b .ready)),Mk w.heap.size]/\J k g i) h _ (Hp.le_refl _) ?_ ⟨Hp.le_refl _,ms,Y,h0⟩ O hE1.st).mono ?_)
  ·-- a round
   rintro k f j h2 i T hl2 ⟨_,i,rfl,hJ⟩ w2 L;have hlo:w2.heap[l]?=some (.loop (b .ready)):=L.own _ σ l _ (Hp.one_self _ _);have hy:=run_yield (P:=e.P) (args:=f.toArray) hlo (by grind);refine⟨_,_,_,_,hy,?_⟩;have r1:(b .ready).params=B.toArray:=by rw[c]
   have r2:(b .ready).tmps=a.tmps:=by rw[c]
   have r3:(b .ready).assign=assign:=by rw[c]
   have r4:(b .ready).body=body:=by rw[c]
   rw[r1,r2,r3,r4];refine roundIn_of_wpIn fu ?_;have hSp:St w2 h2 i:=L.pre
   have hHas:Has e.n [] { tmps:=(B.toArray.zip f.toArray).foldl (λt (p,v)=>t.setIfInBounds p v) a.tmps,defers:=[] } (N5 B f s):=by
    have e1:(B.toArray.zip f.toArray).foldl (λt (p,v)=>t.setIfInBounds p v) a.tmps=(B.zip f).foldl (λt (p,v)=>t.setIfInBounds p v) a.tmps:=by simp
    rw[e1];exact Lc Y B f s a.tmps (λp hp=>d5<|dy.1 hpn p hp) ⟨Y,ha.size,ha.slots⟩
   refine wpIn_mono (hA w2 k f j h2 i T hl2 hJ l (LoopAt.of (r:=b .ready) (rest:=[Mk w.heap.size]) L) _ w2 hHas (Ends.refl hSp) H6) ?_;intro x a1 w3 hx;cases x with
   | normal=>
    obtain⟨s3,h3,z,hA3,S,m⟩:=hx;have hEf:Ends w2 h2 (i++[Hp.one l (.loop (b .ready)),Mk w.heap.size]) w3 h3 (z++[Hp.one l (.loop (b .ready)),Mk w.heap.size]):=Ends.call (Ends.refl L) m;have hEp:=hEf.perm (ms':=Hp.one l (.loop (b .ready))::Mk w.heap.size::z) db;have hl3:w3.heap[l]?=some (.loop (b .ready)):=hEp.st.own _ (ao) l _ (Hp.one_self _ _);have K:=Ends.putL (.loop (b .busy)) hEp;refine⟨_,run_beginRound hl3 (by rw[c]),?_⟩;have e2:({ b .ready with state:=.busy }:Loop)=b .busy:=by rw[c]
    rw[e2];have n:=K.perm (ms':=z++[Hp.one l (.loop (b .busy)),Mk w.heap.size]) (db (l₁:=[_,_]));refine wpIn_mono (hB _ k f j s3 h3 z T (Hp.le_trans hl2 m.le) hA3 l (LoopAt.of (r:=b .busy) (rest:=[Mk w.heap.size]) n.st) a1 _ S (Ends.refl n.st.pre) H6) ?_;intro y a2 w5 hy5;cases y with
    | normal=>
     obtain⟨s5,h5,ms5,hJ5,_,u⟩:=hy5;have hE6:=Ends.call n u;have M:=hE6.perm (ms':=Hp.one l (.loop (b .busy))::Mk w.heap.size::ms5) db;have hl6:w5.heap[l]?=some (.loop (b .busy)):=M.st.own _ (ao) l _ (Hp.one_self _ _);refine⟨_,_,run_endRound none hl6,?_⟩;have e3:({ b .busy with state:=if(none:Option Code).isNone then .ready else .done,pending:=none }:Loop)=b .ready:=by rw[c];rfl
     rw[e3];exact⟨_,h5,_,Y,(Ends.putL (.loop (b .ready)) M).perm (db (l₁:=[_,_])),Y,Hp.le_trans hl2 (Hp.le_trans m.le u.le),ms5,Y,hJ5⟩
    | _=>exact hy5.elim
   | _=>exact hx
  .rintro x w3 ⟨r,h3,z,rfl,m,kf,hfin,hl3,ms4,rfl,hJ⟩;have K:=Ends.call (fr:=[]) (by rw[d8];exact hE1) m;rw[d8]at K;have u:=K.perm (ms':=Hp.one l (.loop (b .ready))::Mk w.heap.size::ms4) db;have hl5:w3.heap[l]?=some (.loop (b .ready)):=u.st.own _ (ao) l _ (Hp.one_self _ _);refine⟨_,_,run_endLoop hl5 (by rw[c];simp),?_⟩;have e4:(b .ready).pending=none:=by rw[c]
   rw[e4];exact hK w.heap.size kf h3 ms4 hfin hl3 hJ { a with defers:=[{ target:=.collected w.heap.size,args:=#[] }]++a.defers } _ ⟨by show [_]++a.defers=_;rw[ha.defers];rfl,ha.size,ha.slots⟩ ((Ends.putL _ u).drop.perm<|db (l₁:=[_]))
section
variable {κ ν:Type} [DecidableEq κ] {K:κ->Value} {V:ν->Value} {Ok:κ->Prop} {P:Program} {t:TypeId} {gi g:Nat} {m mi:Hp} {T:List (κ×ν)} {bs vis:List Nat}
variable {o:Oper} {s:AG} {h:Hp} {ms:List Hp} {e:Entry} {Q:Exit->Act->World->Prop} {ops:Array Oper} {rest:List Oper}
theorem Jh{x:Operand}{d:Nat}{kt y:TypeId}(O:CM K V g Ok m T bs)(L:m.le h)(R:o.op=.range t x)(S:e.P.underlying t=some (.map kt y))(hx:ev s x=some (.map (some g)))(A:o.dst=some d)(M:Nat.blt d e.n=true)(B:o.guard=none)
  (k:∀gi mi,EF gi g m mi bs []->WL e ops Q rest ((d,.pt gi)::s) h (mi::ms)):WL e ops Q (o::rest) s h ms:=
 Is (post:=λv j c=>∃gi mi,EF gi g m mi bs []/\v=.pt gi/\j=h/\c=mi::ms) (λρ w hρ l=>by
  obtain⟨i,a,rfl,he,z⟩:=O.ex;have f:w.heap[g]?=some (.map i a):=l.st.imm g _ (L g _ (Hp.one_self _ _))
  have b:(execOp ρ o).run e.P w=.ok (.value (.pointer (some ⟨w.heap.size,0,none⟩))) (w.alloc (.mapIter (some g) a #[] a)):=by simp only[execOp,R,hρ _ _ hx,Instr.range,ep,cw S,dt,getObj,fl];simp[Sem.run,f,Result.andThen,newObj]
  unfold OpRes;rw[b]
  exact⟨h,_,Ends.alloc l _,_,_,⟨⟨i,a,a,#[],a,Y,Y,z,ak _,ak _,Y,λh=>lj Y h⟩,by simp,List.Pairwise.nil⟩,rfl,rfl,rfl⟩) A M B λv j c ⟨gi,mi,n,p,r,u⟩=>by simp_all
theorem KN{x:Operand}{d:Nat}(i:Nat)(O:CM K V g Ok m T bs)(I:EF gi g m mi bs vis)(hm:m.le h)(z:ms[i]?=some mi)(ho:o.op=.next x false)(S:ev s x=some (.pointer (some ⟨gi,0,none⟩)))(hd:o.dst=some d)(hn:Nat.blt d e.n=true)(hg:o.guard=none)
  (k0:(∀j,j<T.length->j∈vis)->WL e ops Q rest ((d,.tuple #[.bool false])::s) h ms)
  (k1:∀(j:Nat) (n:j<T.length) (r:Hp),j ∉ vis->EF gi g m r bs (vis++[j])->WL e ops Q rest ((d,.tuple #[.bool true,K T[j].1,V T[j].2])::s) h (ms.set i r)):WL e ops Q (o::rest) s h ms:=
 Is (post:=λv h' ms'=>(v=.tuple #[.bool false]/\h'=h/\ms'=ms/\∀j,j<T.length->j∈vis)\/∃(j:Nat) (n:j<T.length) (r:Hp),j ∉ vis/\EF gi g m r bs (vis++[j])/\v=.tuple #[.bool true,K T[j].1,V T[j].2]/\h'=h/\ms'=ms.set i r) (λρ w hρ hw=>by
  obtain⟨es,k,rfl,he,hb⟩:=O.ex;obtain⟨es',clock',l,c,L,M,rfl,i1,i2,i3,i4,i5⟩:=I.ex;have M:=K7 M;cases M;have hgw:w.heap[g]?=some (.map es k):=hw.st.imm g _ (hm g _ (Hp.one_self _ _));have hiw:w.heap[gi]?=some (.mapIter (some g) l c L):=hw.st.own _ (ez z) gi _ (Hp.one_self _ _)
  have A:∀x∈es.toList,∃(j:Nat) (n:j<T.length) (f:j<bs.length),x=O5 K V (T[j],bs[j]):=λx S=>by rw[he]at S;obtain⟨p,hp,rfl⟩:=ai.1 S;obtain⟨j,n⟩:=List.getElem?_of_mem hp;grind
  have hin:∀(j:Nat) (n:j<T.length) (f:j<bs.length),O5 K V (T[j],bs[j])∈es.toList:=λj n f=>by rw[he];exact ai.2 ⟨(T[j],bs[j]),ez (i:=j)<|im.2 ⟨aj n,aj f⟩,Y⟩
  have y:∀b,c.contains b=true<->∃j∈vis,bs[j]?.getD 0=b:=λb=>by rw[Array.contains_iff_mem,<-iw,i4,ai]
  rcases run_next_at (P:=e.P) w o.type gi g l L c es k hiw hgw (λx S=>by
   obtain⟨j,n,f,rfl⟩:=A x S
   exact i1 _<|aq f) i2 with ⟨R,h2⟩|⟨x,R,w1,h2,h3⟩
  .have u:(execOp ρ o).run e.P w=.ok (.value (.tuple #[.bool false])) w:=by
    simp only[execOp,ho,hρ _ _ S,ep,h2,dt,fl]
   unfold OpRes;rw[u];refine⟨h,ms,hw,.inl ⟨Y,Y,Y,λj n=>?_⟩⟩;have f:j<bs.length:=by rw[O.len];exact n
   have hmem:=hin j n f
   have hc:c.contains bs[j]=true:=by
    cases hcc:c.contains bs[j] with
    | true=>rfl
    | false=>
     have:O5 K V (T[j],bs[j])∈leftOf es c:=by unfold leftOf;rw[Array.mem_filter];exact⟨iw.1 hmem,by show(!c.contains bs[j])=true;rw[hcc];rfl⟩
     rw[Array.size_eq_zero_iff.1 R]at this;simp at this
   obtain⟨j',hj',e2⟩:=(y _).1 hc;have B:=I.lt j' hj';rw[aj B]at e2;have:j'=j:=Adf O.up (aj B) (by rw[aj f];exact bh some e2.symm);simp_all
  .unfold leftOf at R;have R:=Array.mem_filter.1 (iw.1 R);obtain⟨j,n,f,rfl⟩:=A x (iw.2 R.1)
   have hjv:j ∉ vis:=λhv=>by grind [aj,O5]
   have u:(execOp ρ o).run e.P w=.ok (.value (.tuple #[.bool true,K T[j].1,V T[j].2])) (ChangeMaps.setBlock w1 gi (.mapIter (some g) l (c.push bs[j]) k)):=by simp only[execOp,ho,hρ _ _ S,ep,h3,dt,fl,O5]
   unfold OpRes;rw[u]
   have hw1:e.Ends w1 h ms:=by
    rcases h2 with rfl|rfl
    .exact hw
    .exact Ends.drew hw
   refine⟨h,_,Ends.turn hw1 z,.inr ⟨j,n,_,hjv,⟨⟨es,k,l,c.push bs[j],k,Y,Y,i1,i3,i3,?_,λ_=>rfl⟩,λi z=>?_,?_⟩,Y,Y,Y⟩⟩
   .simp_all
   .rcases bi.1 z with z|z
    .exact I.lt i z
    simp_all
   .exact kv.2 ⟨I.nodup,by simp,λa ha b hb e=>by simp_all⟩) hd hn hg λv h' ms' hp=>by
  grind
theorem Jo{x:Operand}{j:Nat}(O:CM K V g Ok m T bs)(I:EF gi g m mi bs (vis++[j]))(L:m.le h)(A:mi∈ms)(v:j<T.length)(R:o.op=.entry x)(hx:ev s x=some (.pointer (some ⟨gi,0,none⟩))):OX P o s h ms (.tuple #[K T[j].1,V T[j].2]):=
 Bz λρ w hρ y=>by
  obtain⟨l,c,rfl,u,hb⟩:=O.ex;obtain⟨z,k,b,i,a,n,rfl,i1,i2,i3,i4,i5⟩:=I.ex;have n:=K7 n;cases n;have B:a=c:=i5 σ;subst B;have p:w.heap[g]?=some (.map l a):=y.imm g _ (L g _ (Hp.one_self _ _));have d:j<bs.length:=by rw[O.len];exact v
  have S:i=(vis.map λj=>bs[j]?.getD 0).toArray.push bs[j]:=by apply Array.toList_inj.1;rw[i4,Array.toList_push,cz];simp[aj d]
  have r:w.heap[gi]?=some (.mapIter (some g) b ((vis.map λj=>bs[j]?.getD 0).toArray.push (O5 K V (T[j],bs[j])).born) a):=by have:=y.own _ A gi _ (Hp.one_self _ _);rw[S]at this;exact this
  have f:O5 K V (T[j],bs[j])∈l.toList:=by rw[u];exact ai.2 ⟨(T[j],bs[j]),ez (i:=j)<|im.2 ⟨aj v,aj d⟩,Y⟩
  have M:(l.toList.map (·.born)).Nodup:=by rw[u,jb];have:(MapEntry.born∘O5 K V)=(Prod.snd:(κ×ν)×Nat->Nat):=rfl;rw[this,List.map_snd_zip (by rw[O.len];exact ak _)];exact O.up.imp λh=>Nat.ne_of_lt h
  have:=run_entry_at (P:=P) w gi g b _ l a _ r p f M;simp only[execOp,R,hρ _ _ hx,ep,this,dt,fl,O5]
theorem GD{kt r:TypeId}{x y:Operand}{z:ν}(a:κ)(L:O8 P kt K Ok)(O:CM K V g Ok m T bs)(hm:m.le h)(B:o.op=.lookup t x y false)(M:P.underlying t=some (.map kt r))(i:∀w,(zeroValue r).run P w=.ok (V z) w)(R:ev s x=some (.map (some g)))(S:ev s y=some (K a))(v:Ok a) :
  OX P o s h ms (V ((BO T a).getD z)):=
 Bz λρ w k hw=>by
  obtain⟨p,c,rfl,he,hb⟩:=O.ex;have f:w.heap[g]?=some (.map p c):=hw.imm g _ (hm g _ (Hp.one_self _ _));obtain⟨l,hk⟩:=L.key a v;have A:=L.law.check w p.isEmpty hk;rcases IQ L O.keys O.ok O.len he w a v with ⟨d,n⟩|⟨j,u,b,d,n,_,_⟩
  .rw[Ee n];simp only[execOp,B,k _ _ R,k _ _ S,Instr.lookup,ep,cw M,dt,getObj,fl,d,i];simp[Sem.run,f,A,d,i,Result.andThen]
  .rw[EU O.keys n];simp only[execOp,B,k _ _ R,k _ _ S,Instr.lookup,ep,cw M,dt,getObj,fl,d,i];simp[Sem.run,f,A,d,i,Result.andThen]
end
end Go.Eng
namespace Go.Eng
open Go.RowKit
variable {m:Hp}
section
variable {e:Entry} {Q:Exit->Act->World->Prop} {ops:Array Oper} {rest:List Oper} {o:Oper} {s:AG} {h:Hp} {ms:List Hp}
theorem Vm{t el:TypeId}{x y:Operand}{v z:Value}{sz b g:Nat}{l:List Value}(i k:Nat)(a:List Value)(T:o.op=.store t x y)(hs:Elem e.P t sz z b)(hx:ev s x=some (.pointer (some ((⟨g,0,none⟩:Addr).add k))))(hy:ev s y=some v)(hv:v.cells=a.toArray)(S:a.length=sz)(M:∀u∈a,u.oneCell'=true)
  (n:ms[i]?=some (BE g el l)) (R:k+sz<=l.length) (O:o.dst=none) (P:o.guard=none)
  (K:WL e ops Q rest s h (ms.set i (BE g el (l.take k++a++l.drop (k+sz))))):WL e ops Q (o::rest) s h ms:=by
 refine Pj (post:=λ_ L j=>L=h/\j=ms.set i (BE g el (l.take k++a++l.drop (k+sz)))) (λρ w r p=>?_) O P λ_ _ _ ⟨A,B⟩=>by simp_all
 subst S;have c:w.heap[g]?=some (.cells l.toArray el (0,0)):=p.st.own _ (ez n) g _ (Hp.one_self _ _);have d:=run_storeCells_at (P:=e.P) g k el a 0 _ w c (by omega) M
 have:(execOp ρ o).run e.P w=.ok .skip (w.setRow g (l.take k++a++l.drop (k+a.length)).toArray):=by simp[execOp,T,r _ _ hx,r _ _ hy,Instr.storeAt,Instr.sureAddr,storeVar,hs.sizeOf,hv,Wg];simp at d;rw[d];rfl
 unfold OpRes;rw[this];exact⟨h,_,Ends.put p n Y ⟨Y,ak _⟩ Y σ (setRow_heap w g _ _ _ _ c) (λk R f=>setRow_other w g k _ f),rfl,rfl⟩
theorem CT{c:Code}(k:∀b,h.le b->m.le b->WS e c Q s b ms):WS e c Q s h (m::ms):=
 λa w f d=>k _ (Hp.le_join _ _) (Hp.join_le_right (d.st.off m ao)) a w f (Ends.freeze d)
theorem CU{r:List Oper}(k:∀b,h.le b->m.le b->WL e ops Q r s b ms):WL e ops Q r s h (m::ms):=
 λa w d c=>k _ (Hp.le_join _ _) (Hp.join_le_right (c.st.off m ao)) a w d (Ends.freeze c)
theorem J8{x:Exit}(k:∀b,h.le b->m.le b->NX e Q x s b ms):NX e Q x s h (m::ms):=
 λa w d c=>k _ (Hp.le_join _ _) (Hp.join_le_right (c.st.off m ao)) a w d (Ends.freeze c)
end
end Go.Eng
namespace Go.Eng
open Go.RowKit
theorem Afp{κ ν:Type}[BEq κ][LawfulBEq κ]{K:κ->Value}{y:ν->Value}{P:Program}{o:Oper}{s:AG}{h:Hp}{d:List Hp}{t u e:TypeId}{x:Operand}{g:Nat}{Ok:κ->Prop}{m:Hp}{T:List (κ×ν)}{bs:List Nat}(O:CM K y g Ok m T bs)(i:m∈d)(j:o.op=.call { callee:=.builtin .len,args:=#[x],argTypes:=#[t] })(l:P.underlying t=some (.map u e))(p:ev s x=some (.map (some g))):OX P o s h d (.int .i64 T.length):=
 Bz λρ w r n=>by
  obtain⟨c,a,rfl,f,v⟩:=O.ex;have b:w.heap[g]?=some (.map c a):=n.own _ i g _ (Hp.one_self _ _)
  have k:c.size=T.length:=by have:=bh List.length f;rw[bb,List.length_zip,O.len,Nat.min_self,Array.length_toList]at this;exact this
  simp[execOp,j,r _ _ p,resolve,invoke,builtin,Builtin.len_,cw l,goInt,getObj,Sem.run,b,Result.andThen,k]
section
variable {P:Program} {o:Oper} {s:AG} {h:Hp} {ms:List Hp} {e:Entry} {Q:Exit->Act->World->Prop} {ops:Array Oper} {rest:List Oper}
theorem LV{w0 w:World}{h0 h:Hp}{ms0 ms:List Hp}{m:Hp}(H:Ends w0 h0 ms0 w h (m::ms))(t u ty el:TypeId){sz:Nat}{z:Value}{p:Nat}(ht:P.underlying t=some (.slice el))(hu:P.underlying u=some (.int .i64))(hs:Elem P el sz z p)(hzs:z.cells.size=sz)(hsz:0<sz)
  {v:Value} {n k:Nat} {cs:List Value} (O:Own el sz m v n cs) (h1:∀u∈(Builtin.zeroCells z.cells k).toList,u.oneCell'=true) (hb:(n+k)*p<=140737488355328) (hb63:n+k<=9223372036854775807) :
  ∃v' w' m',(Builtin.append_ #[t,u] ty #[v,.w k]).run P w=.ok v' w'/\Own el sz m' v' (n+k) (cs++(Builtin.zeroCells z.cells k).toList)/\Ends w0 h0 ms0 w' h (m'::ms):=by
 obtain⟨f,hO⟩:=O;obtain⟨i,hi,hz,his,hib⟩:=hs.info;have c:∀N,(Builtin.zeroCells z.cells N).toList.length=N*sz:=λN=>by rw[Array.length_toList,size_zeroCells,hzs]
 have T:IntKind.i64.wrap ((k:Nat):Int)=(k:Int):=EO Z;have L:¬((k:Int)<0):=Z
 have hkb:k*i.bytes<=140737488355328:=bl (eh _ (Nat.le_add_left k n)) (by simp_all)
 have y:¬(281474976710656<(k:Int)*(i.bytes:Int)):=by
  have:((k*i.bytes:Nat):Int)<=140737488355328:=Z
  rw[dz]at this;omega
 have hw0:IntKind.i64.wrap 0=0:=EO Z;rcases ja k with rfl|hk
 .have R:(Builtin.zeroCells z.cells 0).toList=[]:=dw (by rw[c];simp);rw[R];rcases hO with ⟨rfl,rfl,rfl⟩|⟨g,b,a,rfl,rfl,e1,e2,e3⟩
  .refine⟨_,w,_,?_,⟨by simp_all,.inl ⟨rfl,rfl,rfl⟩⟩,H⟩;simp[Builtin.append_,cw ht,cw hu,hs.sizeOf,asInt,asIntOf,typeInfo,hi,storeCells,hw0]
  .refine⟨_,w,_,?_,⟨by simp_all,.inr ⟨g,b,a,rfl,by simp,by simp_all,e2,e3⟩⟩,H⟩;simp[Builtin.append_,cw ht,cw hu,hs.sizeOf,asInt,asIntOf,typeInfo,hi,storeCells,hw0,e2]
 .have d:∀A,grownCap w (n+k) A el<=9223372036854775807/\n+k<=grownCap w (n+k) A el:=λA=>
   ⟨grownCap_le_maxLen w (n+k) A el (by grind [maxLen]),grownCap_ge w (n+k) A el⟩
  have M:¬(k*sz=0):=by have:=Nat.mul_pos hk hsz;omega
  have hk0':k≠0:=Z
  have hsz':sz≠0:=Z
  rcases hO with ⟨rfl,rfl,rfl⟩|⟨g,b,a,rfl,rfl,e1,e2,e3⟩
  .have hc0:cs=[]:=dw (by omega);subst hc0;simp only[ig,aw]at *;have r:¬(281474976710656<Builtin.nextslicecap k 0*i.bytes):=by rw[nextslicecap_zero hk];omega
   have x:¬(9223372036854775807<(k:Int)):=Z
   refine⟨_,w.drew.alloc (.cells (Builtin.zeroCells z.cells k++Builtin.zeroCells z.cells (grownCap w k 0 el-k)) el),_,?_,⟨c k,.inr ⟨w.heap.size,grownCap w k 0 el,(Builtin.zeroCells z.cells (grownCap w k 0 el-k)).toList,Y,Y,?_,(d 0).2,(d 0).1⟩⟩,?_⟩
   .simp[Builtin.append_,cw ht,cw hu,hs.sizeOf,asInt,asIntOf,typeInfo,zeroValue,hi,hz,T,L,y,M,hk0',x,r,Question.forced,run_firstCells_none,newRow,grownCap]
   .rw[ag,c,c,<-dq];simp_all
   .have:=Ends.alloc (Ends.drew (Ends.drop H)) (.cells (Builtin.zeroCells z.cells k++Builtin.zeroCells z.cells (grownCap w k 0 el-k)) el)
    have e:((Builtin.zeroCells z.cells k).toList++(Builtin.zeroCells z.cells (grownCap w k 0 el-k)).toList).toArray=Builtin.zeroCells z.cells k++Builtin.zeroCells z.cells (grownCap w k 0 el-k):=by apply Array.ext';simp
    unfold BE;rw[e];exact this
  .have hgw:w.heap[g]?=some (.cells (cs++a).toArray el (0,0)):=H.st.own _ (ao) g _ (Hp.one_self _ _);by_cases l:n+k<=b
   .have K:n*sz+(Builtin.zeroCells z.cells k).toList.length<=(cs++a).toArray.size:=by
     rw[c,iq,e1,<-dq];exact eh _ l
    have B:=run_storeCells_at (P:=P) g (n*sz) el (Builtin.zeroCells z.cells k).toList 0 _ w hgw (by omega) h1;refine⟨_,w.setRow g (cs++(Builtin.zeroCells z.cells k).toList++a.drop (k*sz)).toArray,_,?_,⟨by grind,.inr ⟨g,b,a.drop (k*sz),rfl,rfl,?_,l,e3⟩⟩,?_⟩
    .have ea:(⟨g,0,none⟩:Addr).add (n*sz)=⟨g,n*sz,none⟩:=by unfold Addr.add;split<;>simp_all
     have e5:(List.take (n*sz) (cs++a).toArray.toList++(Builtin.zeroCells z.cells k).toList++List.drop (n*sz+(Builtin.zeroCells z.cells k).toList.length) (cs++a).toArray.toList)=cs++(Builtin.zeroCells z.cells k).toList++a.drop (k*sz):=by
      rw[c,<-f];have hd:List.drop (cs.length+k*sz) (cs++a)=a.drop (k*sz):=by rw[<-List.drop_drop,List.drop_left]
      simp only[List.take_left',hd,du]
     simp only[gz]at B;rw[e5]at B;simp[Builtin.append_,cw ht,cw hu,hs.sizeOf,asInt,asIntOf,typeInfo,zeroValue,hi,hz,T,L,y,M,l,ea]at B ⊢;rw[B];rfl
    .grind
    .exact Ends.change H Y ⟨Y,ak _⟩ Y σ (setRow_heap w g _ _ _ _ hgw)<|λj hj hne=>setRow_other w g j _ hne
   .have S:∀j u,cs[j]?=some u->w.cell? ((⟨g,0,none⟩:Addr).add j)=some u:=λj u hv=>H.st.cell (Cell.blk (el:=el) (l:=cs++a) 0 Y (by grind));have hfo:=run_firstCells_some (P:=P) w.drew sz n ⟨g,0,none⟩ n b cs f (by simp_all)
    have r:¬(281474976710656<Builtin.nextslicecap (n+k) b*i.bytes):=by have:=growslice_fits (need:=n+k) (old:=b) (bytes:=p) Z hb;rw[hib];omega
    have x:¬(9223372036854775807<(n:Int)+(k:Int)):=Z
    refine⟨_,w.drew.alloc (.cells (cs.toArray++Builtin.zeroCells z.cells k++Builtin.zeroCells z.cells (grownCap w (n+k) b el-(n+k))) el),_,?_,⟨by grind,.inr ⟨w.heap.size,grownCap w (n+k) b el,(Builtin.zeroCells z.cells (grownCap w (n+k) b el-(n+k))).toList,rfl,rfl,?_,(d b).2,(d b).1⟩⟩,?_⟩
    .simp[Builtin.append_,cw ht,cw hu,hs.sizeOf,asInt,asIntOf,typeInfo,zeroValue,hi,hz,T,L,y,M,l,x,r,Question.forced,hfo,newRow,grownCap]
    .rw[ag,ag,c,c,f,<-dq,<-dq];simp_all
    .have:=Ends.alloc (Ends.drew (Ends.drop H)) (.cells (cs.toArray++Builtin.zeroCells z.cells k++Builtin.zeroCells z.cells (grownCap w (n+k) b el-(n+k))) el)
     have e:(cs++(Builtin.zeroCells z.cells k).toList++(Builtin.zeroCells z.cells (grownCap w (n+k) b el-(n+k))).toList).toArray=cs.toArray++Builtin.zeroCells z.cells k++Builtin.zeroCells z.cells (grownCap w (n+k) b el-(n+k)):=by apply Array.ext';simp
     unfold BE;rw[e];exact this
end
end Go.Eng
namespace Go.Eng
open Go.RowKit
theorem AbT{α:Type}{P E S b:List α}{p a n:Nat}(c:P.length=p)(e:b.length=n)(d:a+n<=E.length):(P++(E++S)).take (p+a)++b++(P++(E++S)).drop (p+a+n)=P++((E.take a++b++E.drop (a+n))++S):=by subst c;rw[Nat.add_assoc,List.take_length_add_append,List.drop_length_add_append,List.take_append_of_le_length Z,List.drop_append_of_le_length Z];simp_all
section
variable {e:Entry} {Q:Exit->Act->World->Prop} {ops:Array Oper} {rest:List Oper} {o:Oper} {s:AG} {h:Hp} {ms:List Hp} {α:Type} {F:α->List Value} {l:List α} {v:Value} {m:Hp} {el:TypeId} {sz:Nat}
theorem RJ{t:TypeId}{x y:Operand}{u z:Value}{f n:Nat}(i j d:Nat)(a:α)(r:List Value)(O:OwnL F sz el m v l)(ho:o.op=.store t x y)(hs:Elem e.P t n z f)(hx:ev s x=some (.pointer (some (((AJ v).add (j*sz)).add d))))(hy:ev s y=some u)(hv:u.cells=r.toArray)(hl:r.length=n)(h1:∀c∈r,c.oneCell'=true)
  (hm:ms[i]?=some m) (p:j<l.length) (A:d+n<=sz) (P:F a=(F l[j]).take d++r++(F l[j]).drop (d+n)) (hd:o.dst=none) (hg:o.guard=none)
  (K:∀m',OwnL F sz el m' v (l.set j a)->WL e ops Q rest s h (ms.set i m')):WL e ops Q (o::rest) s h ms:=by
 obtain⟨⟨h2,h3⟩,k⟩:=O;rcases h3 with ⟨rfl,h4,rfl⟩|⟨g,B,b,rfl,rfl,L,M,e3⟩
 .omega
 .have hle:(j+1)*sz<=l.length*sz:=eh sz p;have hjs:(j+1)*sz=j*sz+sz:=by rw[dq,gn]
  have T:ev s x=some (.pointer (some ((⟨g,0,none⟩:Addr).add (j*sz+d)))):=by rw[hx];show some (Value.pointer (some (((⟨g,0,none⟩:Addr).add (j*sz)).add d)))=_;rw[BD]
  have hP:((l.take j).flatMap F).length=j*sz:=by rw[B6 k,bf,gr (Nat.le_of_lt p)]
  have R:l.flatMap F++b=(l.take j).flatMap F++(F l[j]++((l.drop (j+1)).flatMap F++b)):=by
   have e0:l.flatMap F=(l.take j).flatMap F++(F l[j]++(l.drop (j+1)).flatMap F):=by
    have L:l=l.take j++l[j]::l.drop (j+1):=by rw[<-fw p,d6]
    have M:=bh (λq=>q.flatMap F) L;simp only[fe,eo]at M;exact M
   rw[e0];simp only[du]
  have S:(l.set j a).flatMap F++b=(l.take j).flatMap F++(F a++((l.drop (j+1)).flatMap F++b)):=by rw[List.set_eq_take_append_cons_drop,ah p,fe,eo];simp only[du]
  have hlen:(l.flatMap F++b).length=l.length*sz+b.length:=by rw[ag,B6 k]
  refine Vm i (j*sz+d) r ho hs T hy hv hl h1 hm Z hd hg ?_
  have key:(l.flatMap F++b).take (j*sz+d)++r++(l.flatMap F++b).drop (j*sz+d+n)=(l.set j a).flatMap F++b:=by rw[R,S,P];exact AbT hP hl (by rw[k];exact A)
  rw[key];refine K _ ⟨⟨?_,.inr ⟨g,B,b,by rw[fh],rfl,?_,by rw[fh];omega,e3⟩⟩,k⟩
  all_goals grind [B6,fh,ag]
end
end Go.Eng
namespace Go.Eng
open Go.RowKit
variable {c:Code}
theorem Af0{e:Entry}{Q:Exit->Act->World->Prop}{s:AG}{h:Hp}{d b:List Hp}(g:Goes d b)(k:WS e c Q s h b):WS e c Q s h d:=λa w f i=>k a w f (g _ _ _ _ _ i)
theorem Ng{e:Entry}{Q:Exit->Act->World->Prop}{s:AG}{h:Hp}{f:List Hp}{m:Hp}(k:∀b,h.le b->m.le b->WS e c Q s b f):WS e c Q s h (m::f):=
 λa w g d=>k _ (Hp.le_join _ _) (Hp.join_le_right (d.st.off m ao)) a w g (Ends.freeze d)
theorem Goes.drp(a:Hp)(b:List Hp):Goes (a::b) b:=λ_ _ _ _ _ x=>x.drop
theorem AaU{e:Entry}{Q:Exit->Act->World->Prop}{s:AG}{h:Hp}{a:List Hp}{m:Hp}(k:WS e c Q s h a):WS e c Q s h (m::a):=Af0 (Goes.drp m a) k
end Go.Eng
namespace Go.Eng
open Go.RowKit
theorem OwnL.rdm{α:Type}{F:α->List Value}{sz:Nat}{el:TypeId}{y m h:Hp}{f:List Hp}{v:Value}{l:List α}(O:OwnL F sz el y v l)(t:y.le m)(s:m∈f):RdL F sz h f v l:=by
 obtain⟨⟨c,n⟩,r⟩:=O;refine⟨?_,r⟩;rcases n with ⟨rfl,p,rfl⟩|⟨g,b,a,rfl,rfl,u,i,k⟩
 .rw[p]at c ⊢;exact⟨none,0,Y,ak _,Z,c,λh=>Z⟩
 .refine⟨_,b,Y,i,k,c,λ_=>⟨_,Y,λj v d=>?_⟩⟩;refine⟨by unfold Addr.add;split<;>rfl,(l.flatMap F++a).toArray,el,(0,0),.inr ⟨m,s,t _ _ ?_⟩,?_⟩
  .rw[C0];exact Hp.one_self _ _
  grind [Addr,Wg,jp,fc,bq]
theorem OwnL.pre{α:Type}{F:α->List Value}{sz:Nat}{el:TypeId}{m:Hp}{v:Value}{l:List α}(O:OwnL F sz el m v l){n:Nat}(t:n<=l.length):OwnL F sz el m (C6 sz v 0 n) (l.take n):=by
 obtain⟨⟨r,j⟩,e⟩:=O;have f:(l.take n).length=n:=by rw[bf];omega
 refine⟨⟨B6 e _,?_⟩,e⟩;rcases j with ⟨rfl,s,rfl⟩|⟨g,a,b,rfl,rfl,h,p,i⟩
 .have:n=0:=Z
  subst this;exact .inl ⟨Y,by simp,rfl⟩
 .have k:C6 sz (.slice (some ⟨g,0,none⟩) l.length a) 0 n=.slice (some ⟨g,0,none⟩) n a:=by
   unfold C6;by_cases d:a=0
   .subst d;rfl
   .show Value.slice (if a=0 then _ else _) (n-0) (a-0)=_;rw[af d,Nat.zero_mul];rfl
  grind [fe,d6,du]
section
variable {P:Program} {o:Oper} {s:AG} {h:Hp} {ms:List Hp} {t u:TypeId} {x y:Operand} {n:Nat} {k:IntKind}
theorem Aea(g:o.op=.binOp .shl t x y u)(i:ev s x=some (.int .i64 1))(j:ev s y=some (.int k n))(f:n<=60):OX P o s h ms (.int .i64 ((2^n:Nat):Int)):=
 Bz λρ w b _=>by
  have c:¬((n:Int)<0):=Z
  have d:min n 64=n:=gr Z;have e:2^n<=2^60:=dn H f
  have a:IntKind.i64.wrap ((1:Int)*2^n)=((2^n:Nat):Int):=by rw[jh,show(2:Int)^n=((2^n:Nat):Int) by simp];generalize 2^n=N at e;exact EO Z
  simp only[jh]at a;simp[execOp,g,b _ _ i,b _ _ j,Op.shift,c,IntKind.bits,d,a,go_sem]
end
end Go.Eng
namespace Go.Eng
open Go.RowKit
variable {kt et:TypeId} {x y:Operand}
section
variable {κ ν:Type} [DecidableEq κ] {K:κ->Value} {V:ν->Value} {Ok:κ->Prop} {t:TypeId} {g:Nat} {m:Hp} {T:List (κ×ν)} {bs:List Nat} {P:Program}
variable {o:Oper} {s:AG} {h:Hp} {ms:List Hp}
theorem QJ{z:ν}(a:κ)(L:O8 P kt K Ok)(O:CM K V g Ok m T bs)(S:m.le h)(v:o.op=.lookup t x y true)(A:P.underlying t=some (.map kt et))(f:∀w,(zeroValue et).run P w=.ok (V z) w)(B:ev s x=some (.map (some g)))(M:ev s y=some (K a))(p:Ok a) :
  OX P o s h ms (.tuple #[V ((BO T a).getD z),.bool (BO T a).isSome]):=
 Bz λρ w i hw=>by
  obtain⟨n,c,rfl,Q,hb⟩:=O.ex;have e:w.heap[g]?=some (.map n c):=hw.imm g _ (S g _ (Hp.one_self _ _));obtain⟨l,R⟩:=L.key a p;have r:=L.law.check w n.isEmpty R;rcases IQ L O.keys O.ok O.len Q w a p with ⟨d,k⟩|⟨j,u,b,d,k,_,_⟩
  .rw[Ee k];simp only[execOp,v,i _ _ B,i _ _ M,Instr.lookup,ep,cw A,dt,getObj,fl,d,f];simp[Sem.run,e,r,d,f,Result.andThen]
  .rw[EU O.keys k];simp only[execOp,v,i _ _ B,i _ _ M,Instr.lookup,ep,cw A,dt,getObj,fl,d,f];simp[Sem.run,e,r,d,f,Result.andThen]
theorem KO{z u:ν}{b:Bool}(a:κ)(j:(BO T a).getD z=u)(d:(BO T a).isSome=b)(L:O8 P kt K Ok)(O:CM K V g Ok m T bs)(e:m.le h)(f:o.op=.lookup t x y true)(i:P.underlying t=some (.map kt et))(n:∀w,(zeroValue et).run P w=.ok (V z) w)(k:ev s x=some (.map (some g)))(l:ev s y=some (K a))(c:Ok a) :
 OX P o s h ms (.tuple #[V u,.bool b]):=by rw[<-j,<-d];exact QJ a L O e f i n k l c
theorem DX{z u:ν}(a:κ)(f:(BO T a).getD z=u)(L:O8 P kt K Ok)(O:CM K V g Ok m T bs)(c:m.le h)(d:o.op=.lookup t x y false)(e:P.underlying t=some (.map kt et))(k:∀w,(zeroValue et).run P w=.ok (V z) w)(i:ev s x=some (.map (some g)))(j:ev s y=some (K a))(b:Ok a) :
 OX P o s h ms (V u):=by rw[<-f];exact GD a L O c d e k i j b
theorem DZ{z u:ν}(a:κ)(f:(BO T a).getD z=u)(L:O8 P kt K Ok)(O:CM K V g Ok m T bs)(c:m∈ms)(d:o.op=.lookup t x y false)(e:P.underlying t=some (.map kt et))(k:∀w,(zeroValue et).run P w=.ok (V z) w)(i:ev s x=some (.map (some g)))(j:ev s y=some (K a))(b:Ok a) :
 OX P o s h ms (V u):=by rw[<-f];exact LZ a L O c d e k i j b
end
end Go.Eng
namespace Go.Eng
open Go.RowKit
variable {e:Entry}
def ItrS(P:Program)(gf:FuncId)(lb:List Value)(h:Hp)(N:Nat)(enc:Nat->List Value):Prop:=
 ∀(lp:Nat) (X Y:Nat->Hp->List Hp->Prop) (h1:Hp) (ms:List Hp),h.le h1->(∀k h2 ms2,k<N->h1.le h2->X k h2 ms2->YdT P lp (enc k).toArray h2 ms2 (fun r h' ms'=>(r=.bool true/\X (k+1) h' ms')\/(r=.bool false/\Y k h' ms')))->X 0 h1 ms →
  FnT P gf ([Value.func (.yield lp) #[] #[]]++lb).toArray h1 ms (fun _ h' ms'=>X N h' ms'\/∃k,k<N/\Y k h' ms')
abbrev Ag2(e:Entry)(I I2:AG->Hp->List Hp->Prop):Exit->Act->World->Prop:=Exit.then (Inv e I) (λx a w=>x=.ret/\Inv e I2 a w)
theorem AdD{I a:AG->Hp->List Hp->Prop}:¬LetsOut (Ag2 e I a):=λ⟨_,_,h,_⟩=>by cases h
theorem Afy{I d:AG->Hp->List Hp->Prop}{s:AG}{h:Hp}{b:List Hp}(c:AG)(f:d c h b)(i:Sub c s):NX e (Ag2 e I d) .ret s h b:=
 λa w g j=>⟨rfl,c,h,b,f,g.sub i,j⟩
theorem JV{Q:Exit->Act->World->Prop}{s:AG}{h:Hp}{ms:List Hp}{t gf:Nat}{lb:List Value}{L:List Nat}{assign body:Code}(J Jr:Nat->Hp->List Hp->Prop)(A:Nat->AG->Hp->List Hp->Prop){N:Nat}{m:Nat->List Value}
  (hg:lk s t=some (.func (.func gf) #[] lb.toArray)) (hc:∀az w,(callFunc gf az).run e.P w=.ok (.enter gf az) w) (hit:ItrS e.P gf lb h N m) (hps:∀k,(m k).length=L.length) (hpn:L.all (λp=>Nat.blt p e.n)=true)
  (h0:J 0 h ms)
  (hA:∀w0 k g c,k<N->h.le g->J k g c->RS ⟨e.P,w0,g,c,e.n,[]⟩ assign (U0 ⟨e.P,w0,g,c,e.n,[]⟩ (A k)) (N5 L (m k) s) g c)
  (hB:∀w0 k s1 g c,k<N->h.le g->A k s1 g c->RS ⟨e.P,w0,g,c,e.n,[]⟩ body (Ag2 ⟨e.P,w0,g,c,e.n,[]⟩ (λ_=>J (k+1)) (λ_=>Jr k)) s1 g c)
  (hK:∀D g c,h.le g->J N g c->NX ⟨e.P,e.w0,e.h0,e.ms0,e.n,D::e.ds⟩ Q .normal s g (c++[Mk D]))
  (hR:∀D k g c,k<N->h.le g->Jr k g c->NX ⟨e.P,e.w0,e.h0,e.ms0,e.n,D::e.ds⟩ Q .ret s g (c++[Mk D])) :
  WS e (.rangeFunc (.tmp t) L.toArray assign body) Q s h ms:=by
 intro a w T hw;refine(wpIn_wide (n:=0)).1 (wpIn_rangeFunc λfn _=>?_);have hge:a.eval (.tmp t)=.func (.func gf) #[] lb.toArray:=T.eval (.tmp t) _ hg;obtain⟨b,d⟩:∃b:LoopState->Loop,b=λst=>{ state:=st,pending:=none,fn,tmps:=a.tmps,params:=L.toArray,assign,body,defers:=w.heap.size }:=⟨_,Y⟩
 obtain⟨f,B⟩:∃f:Loop,f={ state:=.done,pending:=some .ret,fn,tmps:=a.tmps,params:=L.toArray,assign,body,defers:=w.heap.size }:=⟨_,Y⟩
 obtain⟨l,hl⟩:∃l,l=w.heap.size+1:=⟨_,Y⟩
 obtain⟨W1,hW1⟩:∃W1,(w.alloc (.deferred (some []))).alloc (.loop (b .ready))=W1:=⟨_,Y⟩
 have hE1:e.Ends W1 h (ms++[Hp.one l (.loop (b .ready)),Mk w.heap.size]):=by
  have h2:=(hw.alloc (.deferred (some []))).alloc (.loop (b .ready));rw[World.size_alloc,<-hl,hW1]at h2
  exact h2.perm (by
   refine List.Perm.trans ?_ db
   exact gv _)
 refine⟨l,[{ target:=.collected w.heap.size,args:=#[] }],W1,{ target:=.fn (.func gf) lb.toArray,args:=#[.func (.yield l) #[] #[]] },W1,gf,([Value.func (.yield l) #[] #[]]++lb).toArray,W1,?_,?_,λ_ _=>fu,?_,(λh=>by cases h),?_⟩
 .simp_all [run_enterLoop_outer]
 .simp only[resolve,hge];simp[go_sem]
 .grind [invoke]
 .refine(callsIn_wide (n:=0)).2 ((hit l (λk g c=>h.le g/\∃j,c=j++[Hp.one l (.loop (b .ready)),Mk w.heap.size]/\J k g j) (λk g c=>h.le g/\∃j,c=j++[Hp.one l (.loop f),Mk w.heap.size]/\Jr k g j) h _ (Hp.le_refl _) ?_ ⟨Hp.le_refl _,ms,Y,h0⟩ W1 hE1.st).mono ?_)
  ·-- a round
   rintro k h2 j hkN hl2 ⟨_,j,rfl,hJ⟩ w2 S;have hlo:w2.heap[l]?=some (.loop (b .ready)):=S.own _ σ l _ (Hp.one_self _ _);have hy:=run_yield (P:=e.P) (args:=(m k).toArray) hlo (by simp_all);refine⟨_,_,_,_,hy,?_⟩;have r1:(b .ready).params=L.toArray:=by rw[d]
   have r2:(b .ready).tmps=a.tmps:=by rw[d]
   have r3:(b .ready).assign=assign:=by rw[d]
   have r4:(b .ready).body=body:=by rw[d]
   rw[r1,r2,r3,r4];refine roundIn_of_wpIn fu ?_;have hSp:St w2 h2 j:=S.pre
   have hHas:Has e.n [] { tmps:=(L.toArray.zip (m k).toArray).foldl (λt (p,v)=>t.setIfInBounds p v) a.tmps,defers:=[] } (N5 L (m k) s):=by
    have e1:(L.toArray.zip (m k).toArray).foldl (λt (p,v)=>t.setIfInBounds p v) a.tmps=(L.zip (m k)).foldl (λt (p,v)=>t.setIfInBounds p v) a.tmps:=by simp
    rw[e1];exact Lc Y L (m k) s a.tmps (λp hp=>d5<|dy.1 hpn p hp) ⟨Y,T.size,T.slots⟩
   refine wpIn_mono (hA w2 k h2 j hkN hl2 hJ l (LoopAt.of (r:=b .ready) (rest:=[Mk w.heap.size]) S) _ w2 hHas (Ends.refl hSp) H6) ?_;intro x a1 w3 hx;cases x with
   | normal=>
    obtain⟨s3,h3,O,hA3,hHas3,u⟩:=hx;have hEf:Ends w2 h2 (j++[Hp.one l (.loop (b .ready)),Mk w.heap.size]) w3 h3 (O++[Hp.one l (.loop (b .ready)),Mk w.heap.size]):=Ends.call (Ends.refl S) u;have hEp:=hEf.perm (ms':=Hp.one l (.loop (b .ready))::Mk w.heap.size::O) db;have M:w3.heap[l]?=some (.loop (b .ready)):=hEp.st.own _ (ao) l _ (Hp.one_self _ _);have z:=Ends.putL (.loop (b .busy)) hEp;refine⟨_,run_beginRound M (by rw[d]),?_⟩;have e2:({ b .ready with state:=.busy }:Loop)=b .busy:=by rw[d]
    rw[e2];have K:=z.perm (ms':=O++[Hp.one l (.loop (b .busy)),Mk w.heap.size]) (db (l₁:=[_,_]));refine wpIn_mono (hB _ k s3 h3 O hkN (Hp.le_trans hl2 u.le) hA3 l (LoopAt.of (r:=b .busy) (rest:=[Mk w.heap.size]) K.st) a1 _ hHas3 (Ends.refl K.st.pre) AdD) ?_;intro y a2 w5 hy5;cases y with
    | normal=>
     obtain⟨s5,h5,R,hJ5,_,i⟩:=hy5;have hE6:=Ends.call K i;have n:=hE6.perm (ms':=Hp.one l (.loop (b .busy))::Mk w.heap.size::R) db;have hl6:w5.heap[l]?=some (.loop (b .busy)):=n.st.own _ (ao) l _ (Hp.one_self _ _);refine⟨_,_,run_endRound none hl6,?_⟩;have e3:({ b .busy with state:=if(none:Option Code).isNone then .ready else .done,pending:=none }:Loop)=b .ready:=by rw[d];rfl
     rw[e3];exact⟨_,h5,_,Y,(Ends.putL (.loop (b .ready)) n).perm (db (l₁:=[_,_])),.inl ⟨Y,Hp.le_trans hl2 (Hp.le_trans u.le i.le),R,Y,hJ5⟩⟩
    | ret=>
     obtain⟨_,s5,h5,R,hJ5,_,i⟩:=hy5;have hE6:=Ends.call K i;have n:=hE6.perm (ms':=Hp.one l (.loop (b .busy))::Mk w.heap.size::R) db;have hl6:w5.heap[l]?=some (.loop (b .busy)):=n.st.own _ (ao) l _ (Hp.one_self _ _);refine⟨_,_,run_endRound (some .ret) hl6,?_⟩;have e3:({ b .busy with state:=if(some Code.ret:Option Code).isNone then .ready else .done,pending:=some .ret }:Loop)=f:=by rw[d,B];rfl
     rw[e3];exact⟨_,h5,_,Y,(Ends.putL (.loop f) n).perm (db (l₁:=[_,_])),.inr ⟨Y,Hp.le_trans hl2 (Hp.le_trans u.le i.le),R,Y,hJ5⟩⟩
    | _=>exact lj hy5.1 σ
   | _=>exact hx
  .rintro x w3 ⟨r,h3,O,rfl,u,⟨M,P,rfl,hJ⟩|⟨k,hkN,M,P,rfl,hJ⟩⟩
   .have z:=Ends.call (fr:=[]) (by rw[d8];exact hE1) u;rw[d8]at z;have i:=z.perm (ms':=Hp.one l (.loop (b .ready))::Mk w.heap.size::P) db;have hl5:w3.heap[l]?=some (.loop (b .ready)):=i.st.own _ (ao) l _ (Hp.one_self _ _);refine⟨_,_,run_endLoop hl5 (by rw[d];simp),?_⟩;have e4:(b .ready).pending=none:=by rw[d]
    rw[e4];exact hK w.heap.size h3 P M hJ { a with defers:=[{ target:=.collected w.heap.size,args:=#[] }]++a.defers } _ ⟨by show [_]++a.defers=_;rw[T.defers];rfl,T.size,T.slots⟩ ((Ends.putL _ i).drop.perm<|db (l₁:=[_]))
   .have z:=Ends.call (fr:=[]) (by rw[d8];exact hE1) u;rw[d8]at z;have i:=z.perm (ms':=Hp.one l (.loop f)::Mk w.heap.size::P) db;have hl5:w3.heap[l]?=some (.loop f):=i.st.own _ (ao) l _ (Hp.one_self _ _);refine⟨_,_,run_endLoop hl5 (by rw[B];simp),?_⟩;have e4:f.pending=some .ret:=by rw[B]
    rw[e4];exact wpIn_ret<|hR w.heap.size k h3 P hkN M hJ { a with defers:=[{ target:=.collected w.heap.size,args:=#[] }]++a.defers } _ ⟨by show [_]++a.defers=_;rw[T.defers];rfl,T.size,T.slots⟩ ((Ends.putL _ i).drop.perm<|db (l₁:=[_]))
end Go.Eng
namespace Go.Eng
open Go.RowKit
variable {a b n bytes sz:Nat} {r:Int} {el:TypeId} {z:Value}
def sv(l:List UInt8):Value:=.string ⟨l.toArray⟩
theorem AA(l:List UInt8):(sv l).oneCell'=true:=rfl
def cU8(b:UInt8):List Value:=[.int .u8 (b.toNat:Int)]
def Da(n:Nat):List Value:=[.int .u64 (n:Int)]
theorem G6:∀n,(cU8 n).length=1:=λ_=>rfl
theorem IW:∀n,(Da n).length=1:=λ_=>rfl
section
variable {P:Program} {o:Oper} {s:AG} {h:Hp} {ms:List Hp} {t u:TypeId} {x y:Operand} {l l':List UInt8} {k:IntKind}
theorem Aaq(d:o.op=.call { callee:=.builtin .len,args:=#[x],argTypes:=#[t] })(c:P.underlying t=some .string)(e:ev s x=some (sv l)):OX P o s h ms (.int .i64 l.length):=
 Bz λρ w f _=>by have:=run_len_string w t 0 ⟨l.toArray⟩ c;simp[execOp,d,f _ _ e,resolve,invoke,builtin,sv,Builtin.len_,cw c,goInt];rfl
theorem Ig(n:Nat)(c:l.length=n)(d:o.op=.call { callee:=.builtin .len,args:=#[x],argTypes:=#[t] })(e:P.underlying t=some .string)(f:ev s x=some (sv l)):OX P o s h ms (.int .i64 n):=by grind [Aaq]
theorem Jy{i:Int}(j:Nat)(m:o.op=.index t x y)(p:P.underlying t=some .string)(v:ev s x=some (sv l))(A:ev s y=some (.int k i))(f:i=(j:Int))(g:j<l.length):OX P o s h ms (.int .u8 ((l[j].toNat:Nat):Int)):=
 Bz λρ w d _=>by
  have c:=run_index_string (P:=P) w t ⟨l.toArray⟩ k i p
  have e:0<=i/\i<((⟨l.toArray⟩:ByteArray).size:Int):=by refine⟨Z,?_⟩;show i<((l.toArray.size:Nat):Int);rw[iq];omega
  rw[dif_pos e]at c;subst f;simp only[execOp,m,d _ _ v,d _ _ A,sv,ep,c];rfl
theorem HL(d:o.op=.binOp .neq t x y u)(f:ev s x=some (sv l))(g:ev s y=some (sv l')):OX P o s h ms (.bool (decide (l≠l'))):=
 Bz λρ w c _=>by
  have e:(!(l==l'))=decide (l≠l'):=by
   by_cases h:l=l'
   .simp_all
   .simp[h]
  simp[execOp,d,c _ _ f,c _ _ g,sv,binOp_string_neq,e,ByteArray.toList_eq,eqGuard_at_string]
theorem AgP(e:o.op=.binOp .or t x y u)(f:ev s x=some (.int .u64 a))(g:ev s y=some (.int .u64 b))(j:a<18446744073709551616)(m:b<18446744073709551616):OX P o s h ms (.int .u64 ((a ||| b:Nat):Int)):=
 Bz λρ w c _=>by
  have i:a ||| b<2^64:=Nat.or_lt_two_pow Z Z
  have d:IntKind.u64.wrap (((BitVec.ofNat 64 a) ||| (BitVec.ofNat 64 b)).toNat:Int)=((a ||| b:Nat):Int):=by rw[BitVec.toNat_or,kk,kk,dv Z,dv Z];exact EN Z
  simp[execOp,e,c _ _ f,c _ _ g,Op.intBits,IntKind.bits,go_sem];exact d
theorem Ea{c:IntKind}{d:TypeDesc}{a:Int}(e:c.wrap a=r)(f:o.op=.convert t u x)(g:P.underlying t=some d)(i:P.underlying u=some (.int c))(j:ev s x=some (.int k a)):OX P o s h ms (.int c r):=by grind [Eu]
theorem Yr{a:Int}(c:k.wrap (-a)=r)(d:o.op=.unOp .neg t x)(e:ev s x=some (.int k a)):OX P o s h ms (.int k r):=by grind [AeG]
theorem JL(e:((a &&& b:Nat):Int)=r)(f:o.op=.binOp .and t x y u)(g:ev s x=some (.int .u64 a))(i:ev s y=some (.int .u64 b))(c:a<18446744073709551616)(d:b<18446744073709551616):OX P o s h ms (.int .u64 r):=by grind [AeB]
theorem JD(c:((a/2^n:Nat):Int)=r)(e:o.op=.binOp .shr t x y u)(f:ev s x=some (.int .u64 a))(g:ev s y=some (.int k n))(d:n<=64):OX P o s h ms (.int .u64 r):=by grind [GW]
theorem XO(c:((a*2^n%18446744073709551616:Nat):Int)=r)(e:o.op=.binOp .shl t x y u)(f:ev s x=some (.int .u64 a))(g:ev s y=some (.int k n))(d:n<=64):OX P o s h ms (.int .u64 r):=by grind [Ad6]
theorem Adw(e:((a ||| b:Nat):Int)=r)(f:o.op=.binOp .or t x y u)(g:ev s x=some (.int .u64 a))(i:ev s y=some (.int .u64 b))(c:a<18446744073709551616)(d:b<18446744073709551616):OX P o s h ms (.int .u64 r):=by grind [AgP]
theorem QQ(f:o.op=.binOp .quo t x y u)(g:ev s x=some (.int .u64 a))(i:ev s y=some (.int .u64 b))(j:a<18446744073709551616)(m:0<b):OX P o s h ms (.int .u64 ((a/b:Nat):Int)):=by
 have c:((a:Int).tdiv (b:Int))=((a/b:Nat):Int):=by rw[Int.tdiv_eq_ediv_of_nonneg (Int.natCast_nonneg a)];rfl
 have d:a/b<=a:=jq a b
 have e:IntKind.u64.wrap ((a:Int).tdiv (b:Int))=((a/b:Nat):Int):=by rw[c];refine EN ⟨Int.natCast_nonneg _,?_⟩;have:((a/b:Nat):Int)<=(a:Int):=Int.ofNat_le.2 d;omega
 grind [X9]
theorem QK(c:o.op=.binOp .rem t x y u)(d:ev s x=some (.int .u64 a))(e:ev s y=some (.int .u64 b))(f:0<b):OX P o s h ms (.int .u64 ((a%b:Nat):Int)):=by
 grind [Eh,Int.natCast_emod]
theorem MX(d:IntKind.u64.wrap ((a:Int)+b)=r)(e:o.op=.binOp .add t x y u)(f:ev s x=some (.int .u64 a))(g:ev s y=some (.int .u64 b)):OX P o s h ms (.int .u64 r):=by subst d;exact Bz λρ w c _=>by simp[execOp,e,c _ _ f,c _ _ g,Op.intArith,go_sem]
theorem Yb(d:IntKind.u64.wrap ((a:Int)-b)=r)(e:o.op=.binOp .sub t x y u)(f:ev s x=some (.int .u64 a))(g:ev s y=some (.int .u64 b)):OX P o s h ms (.int .u64 r):=by subst d;exact Bz λρ w c _=>by simp[execOp,e,c _ _ f,c _ _ g,Op.intArith,go_sem]
theorem Nf:∀l:List UInt8,l.flatMap cU8=(l.map λb=>(b.toNat:Int)).map (Value.int .u8)
 | []=>rfl
 | b::l=>by rw[eo,dh,dh,Nf l];rfl
theorem Vs{e:TypeId}{v:Value}(R:Rd h ms v 1 n (l.flatMap cU8))(M:l.length=n)(O:o.op=.convert t u x)(A:P.underlying t=some (.slice e))(p:P.underlying e=some (.int .u8))(B:P.underlying u=some .string)(T:ev s x=some v):OX P o s h ms (sv l):=
 Bz λρ w hρ S=>by
  obtain⟨a,c,rfl,e2,e3,e4,m⟩:=R.ex;subst M;have g:=Nf l
  have Q:strOfNums (l.map λb=>(b.toNat:Int))=⟨l.toArray⟩:=by unfold strOfNums;rw[jb];congr 2;exact(fg λb _=>by simp).trans (List.map_id _)
  have i:(convert t u (.slice a l.length c)).run P w=.ok (sv l) w:=by
   cases a with
   | none=>
    have:l=[]:=by
     rcases ja l.length with h|h
     .simp_all
     .simp_all
    subst this;exact run_convert_bytes_nil w t e A p _ _ u B
   | some q=>
    rw[run_convert_bytes_string w t u e _ _ _ A p B]
    have L:∀j v,((l.map λb=>(b.toNat:Int)).map (Value.int .u8))[j]?=some v->w.cell? (q.add j)=some v:=by
     rw[<-g];rcases ja l.length with h|h
     .simp_all
     .obtain⟨q',d,K⟩:=m h;cases d;exact λj v f=>S.cell<|K j v f
    have d:=gq (P:=P) w q _ L;rw[bb,bb]at d;rw[run_bytesToString w q _ c _ d,foldl_push_bytes]
    have:(ByteArray.empty.data++((l.map λb=>(b.toNat:Int)).map λn=>UInt8.ofNat n.toNat).toArray)=l.toArray:=by have:=bh ByteArray.data Q;simpa[strOfNums] using this
    rw[this];rfl
  simp only[execOp,O,hρ _ _ T,ep,i];rfl
end
section
variable {e:Entry} {Q:Exit->Act->World->Prop} {ops:Array Oper} {rest:List Oper} {o:Oper} {s:AG} {h:Hp} {ms:List Hp}
theorem AcG{t:TypeId}{d:Nat}{cp:Nat}{x y:Operand}{M O:IntKind}{l c:Int}(ho:o.op=.makeSlice t x y)(ht:e.P.underlying t=some (.slice el))(hs:Elem e.P el 1 z bytes)(hz:z.cells=#[z])
  (hx:ev s x=some (.int M l)) (hy:ev s y=some (.int O c)) (hl:l=(n:Int)) (T:c=(cp:Int)) (hnc:n<=cp) (hb:bytes*cp<=281474976710656) (S:cp<=9223372036854775807) (hd:o.dst=some d) (hn:Nat.blt d e.n=true) (hg:o.guard=none)
  (k:∀g,WL e ops Q rest ((d,.slice (some ⟨g,0,none⟩) n cp)::s) h (BE g el (replicate cp z)::ms)):WL e ops Q (o::rest) s h ms:=
 Is (post:=λv R B=>∃g,v=.slice (some ⟨g,0,none⟩) n cp/\R=h/\B=BE g el (replicate cp z)::ms) (λρ w L hw=>by
  obtain⟨i,hi,A,u,p⟩:=hs.info
  have m:(i.bytes:Int)*c<=281474976710656:=by
   rw[p,T];have h:((bytes*cp:Nat):Int)<=281474976710656:=Z
   rwa [dz]at h
  have K:=run_make (P:=e.P) w t el i z ht hi A M O l c Z Z m Z
  have:(execOp ρ o).run e.P w=.ok (.value (.slice (some ⟨w.heap.size,0,none⟩) n cp)) (w.alloc (.cells (replicate cp z).toArray el)):=by
   have f:l.toNat=n:=Z
   have j:c.toNat=cp:=Z
   rw[f,j,u,hz,km,J3]at K;simp only[execOp,ho,L _ _ hx,L _ _ hy,ep,K,dt,fl]
  unfold OpRes;rw[this]
  exact⟨h,_,Ends.alloc hw _,_,Y,Y,Y⟩) hd hn hg λ_ _ _ ⟨g,f,j,P⟩=>by simp_all
end
theorem Mf{α:Type}{F:α->List Value}(c:∀x,(F x).length=sz)(d:0<sz)(a:α)(n:Nat):madeCells (F a).toArray (n*sz)=((replicate n a).flatMap F).toArray:=by
 apply jn;intro i;unfold madeCells;have k:((replicate n a).flatMap F).toArray[i]?=((replicate n a).flatMap F)[i]?:=jp;rw[k,Array.getElem?_map];have l:(F a).toArray.size=sz:=by simp[c]
 rcases ii i (n*sz) with h|h
 .have g:i/sz<n:=Nat.div_lt_of_lt_mul (by rw[ei];exact h);have j:=f6 i d;have e:i%sz<(F a).length:=by rw[c];exact j
  have f:=I4 c (replicate n a) (i/sz) (by simpa using g) (i%sz) ((F a)[i%sz]) (by simp[e]);rw[ei,Nat.div_add_mod]at f;rw[f];simp[h,c];rw[aj e];rfl
 simp_all
section
variable {e:Entry} {Q:Exit->Act->World->Prop} {ops:Array Oper} {rest:List Oper} {o:Oper} {s:AG} {h:Hp} {ms:List Hp}
theorem KK{α:Type}{F:α->List Value}(M:∀x,(F x).length=sz)(B:0<sz)(a:α){t:TypeId}{d:Nat}{x y:Operand}{R S:IntKind}{l c:Int}(ho:o.op=.makeSlice t x y)(ht:e.P.underlying t=some (.slice el))(hs:Elem e.P el sz z bytes)(hz:z.cells=(F a).toArray)
  (hx:ev s x=some (.int R l)) (hy:ev s y=some (.int S c)) (hl:l=(n:Int)) (hc:c=(n:Int)) (hb:bytes*n<=281474976710656) (h63:n<=9223372036854775807) (hd:o.dst=some d) (hn:Nat.blt d e.n=true) (hg:o.guard=none)
  (k:∀g v m,v=.slice (some ⟨g,0,none⟩) n n->OwnL F sz el m v (replicate n a)->WL e ops Q rest ((d,v)::s) h (m::ms)):WL e ops Q (o::rest) s h ms:=
 Is (post:=λv h' L=>∃g,v=.slice (some ⟨g,0,none⟩) n n/\h'=h/\L=BE g el ((replicate n a).flatMap F)::ms) (λρ w P hw=>by
  obtain⟨i,hi,K,A,u⟩:=hs.info
  have p:(i.bytes:Int)*c<=281474976710656:=by
   rw[u,hc];have h:((bytes*n:Nat):Int)<=281474976710656:=Z
   rwa [dz]at h
  have O:=run_make (P:=e.P) w t el i z ht hi K R S l c Z Z p Z
  have:(execOp ρ o).run e.P w=.ok (.value (.slice (some ⟨w.heap.size,0,none⟩) n n)) (w.alloc (.cells ((replicate n a).flatMap F).toArray el)):=by
   have f:l.toNat=n:=Z
   have j:c.toNat=n:=Z
   rw[f,j,A,hz,Mf M B]at O;simp only[execOp,ho,P _ _ hx,P _ _ hy,ep,O,dt,fl]
  unfold OpRes;rw[this]
  exact⟨h,_,Ends.alloc hw _,_,Y,Y,Y⟩) hd hn hg λ_ _ _ ⟨g,f,j,T⟩=>by grind [OwnL.blk]
end
theorem Abp{P:Program}{S:World}{R:Hp}{f:List Hp}{Q:Func}{c:Value->Hp->List Hp->Prop}{s:AG}{h:Hp}{t m u:Nat}{i:TypeId}{g k:Nat}{d:TypeDesc}{vs vs2:List Value}{v:Value}
  (hr:Q.results=#[.cell t i,.cell m i,.tmp u]) (hv:lk s t=some (.pt g)) (K:lk s m=some (.pt k)) (hu:lk s u=some v) (ht:P.underlying i=some d) (hd:Iv d=true) (hs:Elem P i sz z bytes) (hl:vs.length=sz) (B:vs2.length=sz)
  (hp:c (.tuple #[.agg vs.toArray,.agg vs2.toArray,v]) h []) :
  NX ⟨P,S,R,f,n,[]⟩ (bodyPost P Q (RP S R f c)) .ret s h [BE g el vs,BE k el vs2]:=λa w l L=>by
 have T:a.tmps[t]?.getD undef=.pt g:=by rw[l.slots t _ hv];rfl
 have p:a.tmps[m]?.getD undef=.pt k:=by rw[l.slots m _ K];rfl
 have h2:a.tmps[u]?.getD undef=v:=by rw[l.slots u _ hu];rfl
 have x:(isAgg i).run P w=.ok true w:=by rw[Dn ht,hd]
 have y:∀j v,vs[j]?=some v->w.cell? ((⟨g,0,none⟩:Addr).add j)=some v:=λj v e=>L.st.cell (Seg.blk (el:=el) 0 Y j v e);have A:∀j v,vs2[j]?=some v->w.cell? ((⟨k,0,none⟩:Addr).add j)=some v:=λj v e=>L.st.cell (Seg.blk (el:=el) 1 Y j v e);refine kb (v:=.tuple #[.agg vs.toArray,.agg vs2.toArray,v]) ?_ l.defers ⟨_,h,_,Y,Ends.drop<|Ends.drop L,hp⟩;have M:=gq (P:=P) w _ vs y;have O:=gq (P:=P) w _ vs2 A;rw[hl]at M;rw[B]at O;simp[results,hr,T,p,h2,asAddr,loadVar,x,hs.sizeOf,M,O]
end Go.Eng
namespace Go.Eng
section
variable {P:Program} {o:Oper} {s:AG} {h:Hp} {ms:List Hp} {t u:TypeId} {x y:Operand}
theorem X4{a:Int}{n:Nat}{k:IntKind}(f:o.op=.binOp .shr t x y u)(g:ev s x=some (.int .i64 a))(i:ev s y=some (.int k n))(e:n<=64):OX P o s h ms (.int .i64 (a.fdiv (2^n))):=
 Bz λρ w b _=>by
  have c:¬((n:Int)<0):=Z
  have d:min n 64=n:=gr e;simp[execOp,f,b _ _ g,b _ _ i,Op.shift,c,IntKind.bits,d,go_sem]<;>exact(Int.fdiv_eq_ediv_of_nonneg a (Int.le_of_lt (Int.pow_pos H))).symm
def Aht(a b:Int):Int:=IntKind.i64.wrap ((BitVec.ofInt 64 a &&& BitVec.ofInt 64 b).toNat:Int)
theorem YT{a b:Int}(d:o.op=.binOp .and t x y u)(e:ev s x=some (.int .i64 a))(f:ev s y=some (.int .i64 b)):OX P o s h ms (.int .i64 (Aht a b)):=
 Bz λρ w c _=>by simp[execOp,d,c _ _ e,c _ _ f,Op.intBits,IntKind.bits,go_sem];rfl
end
end Go.Eng
namespace Go.Eng
variable {n:Nat} {cs:List Value}
def OwnO(el:TypeId)(sz:Nat)(m:Hp)(v:Value)(n:Nat)(cs:List Value):Prop:=
 cs.length=n*sz/\((v=.nl/\n=0/\m=Hp.emp) ∨
  ∃g cap pre spare,v=.slice (some ⟨g,pre.length,none⟩) n cap/\m=BE g el (pre++(cs++spare))/\cap*sz<=(cs++spare).length/\n<=cap/\cap<=9223372036854775807)
theorem Own.o{el:TypeId}{sz:Nat}{m:Hp}{v:Value}(O:Own el sz m v n cs):OwnO el sz m v n cs:=by
 obtain⟨e,f⟩:=O;refine⟨e,?_⟩;rcases f with h|⟨g,b,a,rfl,rfl,i,c,d⟩
 .simp_all
 .exact .inr ⟨g,b,[],a,Y,Y,Z,c,d⟩
theorem OwnO.rd{el:TypeId}{sz:Nat}{m:Hp}{v:Value}(O:OwnO el sz m v n cs){h:Hp}{ms:List Hp}(r:m∈ms):Rd h ms v sz n cs:=by
 obtain⟨c,l⟩:=O;rcases l with ⟨rfl,rfl,rfl⟩|⟨g,a,pre,b,rfl,rfl,s,f,k⟩
 .exact⟨none,0,Y,ak _,Z,c,λh=>Z⟩
 .refine⟨_,a,Y,f,k,c,λ_=>⟨_,Y,λj v d=>?_⟩⟩;obtain⟨i,p⟩:=List.getElem?_of_mem r
  have:Cell h ms ((⟨g,0,none⟩:Addr).add (pre.length+j)) v:=Cell.blk i p (by
   rw[kc Z,Nat.add_sub_cancel_left,fc (bq.1 d).1];exact d)
  grind [Addr,Addr.add]
theorem OwnO.tail{el:TypeId}{sz:Nat}{m:Hp}{v:Value}(O:OwnO el sz m v (n+1) cs):OwnO el sz m (C6 sz v 1 (n+1)) n (cs.drop sz):=by
 obtain⟨d,f⟩:=O;have i:sz<=cs.length:=by rw[d,dq];omega
 refine⟨by grind,?_⟩;rcases f with ⟨_,h,_⟩|⟨g,c,pre,a,rfl,rfl,e,j,k⟩
 .omega
 .right
  rw[ag]at e;by_cases b:c=1
  .subst b;obtain rfl:n=0:=Z
   refine⟨g,0,pre,cs++a,?_,?_,Z,Z,Z⟩
   .simp[C6]
   grind
  .refine⟨g,c-1,pre++cs.take sz,a,?_,?_,?_,Z,Z⟩
   .simp only[C6];rw[af b,ag,bf,gr i];simp[Addr.add]
   all_goals grind [du,d6,ag,br,Nat.sub_mul]
section
variable {P:Program}
theorem LP(w:World)(t B e:TypeId)(i:TypeInfo)(A:P.underlying t=some (.slice e))(y:P.info? e=some i)
  (g o d h:Nat) (f:Array Value) (x:w.heap[g]?=some (.cells f e (0,0)))
  (a:Addr) (m c:Nat) (b:List Value) (z:b.length=m*i.size) (k:∀j u,b[j]?=some u->w.cell? (a.add j)=some u) (s:∀u∈b,u.oneCell'=true)
  (l:d+m<=h) (p:o+d*i.size+b.length<=f.size) :
  (Builtin.append_ #[t,t] B #[.slice (some ⟨g,o,none⟩) d h,.slice (some a) m c]).run P w =
   .ok (.slice (some ⟨g,o,none⟩) (d+m) h) (w.setRow g (f.toList.take (o+d*i.size)++b++f.toList.drop (o+d*i.size+b.length)).toArray):=by
 have v:=run_firstCells_some (P:=P) w i.size m a m c b z k;have r:=run_storeCells_at P g (o+d*i.size) e b 0 f w x (by omega) s;simp only[gz]at r;simp[Builtin.append_,cw A,sizeOf,typeInfo,y,Builtin.lenOf,l,v,Addr.add_lit,r]
theorem Uz{w0 w:World}{h0 h:Hp}{ms0 ms:List Hp}{m:Hp}(H:Ends w0 h0 ms0 w h (m::ms))(t ty el:TypeId){sz:Nat}{z:Value}{y:Nat}(ht:P.underlying t=some (.slice el))(hs:Elem P el sz z y)(hzs:z.cells.size=sz)(hsz:0<sz)
  {v x:Value} {k:Nat} {b:List Value} (O:OwnO el sz m v n cs) (R:Rd h (m::ms) x sz k b) (h1:∀u∈b,u.oneCell'=true) (hb:(n+k)*y<=140737488355328) (S:n+k<=9223372036854775807) :
  ∃v' w' m',(Builtin.append_ #[t,t] ty #[v,x]).run P w=.ok v' w'/\OwnO el sz m' v' (n+k) (cs++b)/\Ends w0 h0 ms0 w' h (m'::ms):=by
 have O0:=O;obtain⟨p,hO⟩:=O;rcases hO with ⟨rfl,rfl,rfl⟩|⟨g,f,pre,d,rfl,rfl,e1,e2,e3⟩
 .have O1:Own el sz Hp.emp (.nl) 0 cs:=⟨p,.inl ⟨Y,Y,Y⟩⟩
  obtain⟨v',w',m',M,hO',hE⟩:=NY H t ty el ht hs hzs hsz O1 R h1 hb S;exact⟨v',w',m',M,hO'.o,hE⟩
 obtain⟨a,c,rfl,hkc,hcm,r,hq⟩:=R.ex;obtain⟨i,hi,hz,B,hib⟩:=hs.info;rcases ja k with rfl|hk
 .grind [dw,FX]
 .obtain⟨q,rfl,hseg⟩:=hq hk;have l:∀j u,b[j]?=some u->w.cell? (q.add j)=some u:=λj u e=>H.st.cell (hseg j u e)
  have A:∀K,grownCap w (n+k) K el<=9223372036854775807/\n+k<=grownCap w (n+k) K el:=λK=>
   ⟨grownCap_le_maxLen w (n+k) K el (by grind [maxLen]),grownCap_ge w (n+k) K el⟩
  have hzl:∀N,(Builtin.zeroCells z.cells N).toList.length=N*sz:=λN=>by rw[Array.length_toList,size_zeroCells,hzs]
  have hgw:w.heap[g]?=some (.cells (pre++(cs++d)).toArray el (0,0)):=H.st.own _ (ao) g _ (Hp.one_self _ _);have hln:b.length=k*sz:=r;by_cases s:n+k<=f
  .have h2:(n+k)*sz<=f*sz:=eh _ s;rw[dq]at h2;rw[ag]at e1;have hsp:b.length<=d.length:=Z
   have T:pre.length+n*i.size+b.length<=(pre++(cs++d)).toArray.size:=by rw[B,iq,ag,ag];omega
   have M:=LP (P:=P) w t ty el i ht hi g pre.length n f (pre++(cs++d)).toArray hgw q k c b (by simp_all) l h1 s T
   have e5:(List.take (pre.length+n*i.size) (pre++(cs++d)).toArray.toList++b++List.drop (pre.length+n*i.size+b.length) (pre++(cs++d)).toArray.toList)=pre++(cs++b++d.drop b.length):=by
    rw[B,<-p]
    have hd:List.drop (pre.length+cs.length+b.length) (pre++(cs++d))=d.drop b.length:=by rw[<-du,<-List.drop_drop,<-ag,List.drop_left]
    have ht':List.take (pre.length+cs.length) (pre++(cs++d))=pre++cs:=by rw[<-du,<-ag,List.take_left]
    simp only[ht',hd,du]
   rw[e5]at M;refine⟨_,_,_,M,⟨by grind,.inr ⟨g,f,pre,d.drop b.length,rfl,rfl,?_,s,e3⟩⟩,?_⟩
   .simp_all
   .exact Ends.change H Y ⟨Y,ak _⟩ Y σ (setRow_heap w g _ _ _ _ hgw)<|λj hj hne=>setRow_other w g j _ hne
  .have hR:=OwnO.rd O0 (h:=h) (ms:=BE g el (pre++(cs++d))::ms) (List.Mem.head _)
   have L:∀j u,cs[j]?=some u->w.cell? ((⟨g,pre.length,none⟩:Addr).add j)=some u:=λj u hv=>by
    rcases ja n with rfl|hn
    .simp_all
    .obtain⟨a',c',Q,_,_,_,hq'⟩:=hR.ex;obtain⟨q',hq1,hq2⟩:=hq' hn;simp only[Value.slice.injEq]at Q;obtain⟨Q,_,_⟩:=Q;rw[hq1]at Q;obtain rfl:=ay Q;exact H.st.cell<|hq2 j u hv
   have M:=run_append_grow (P:=P) w t ty el i z ht hi hz ⟨g,pre.length,none⟩ n f cs (by simp_all) L q k c b (by simp_all) l Z Z (by simp_all [growslice_fits]);refine⟨_,_,_,M,⟨by grind,.inr ⟨w.heap.size,grownCap w (n+k) f el,[],(Builtin.zeroCells z.cells (grownCap w (n+k) f el-(n+k))).toList,rfl,rfl,?_,(A f).2,(A f).1⟩⟩,?_⟩
   .rw[ag,ag,hzl,p,r,<-dq,<-dq];simp_all
   .have:=Ends.alloc (Ends.drew (Ends.drop H)) (.cells (cs.toArray++b.toArray++Builtin.zeroCells z.cells (grownCap w (n+k) f el-(n+k))) el)
    have e:([]++(cs++b++(Builtin.zeroCells z.cells (grownCap w (n+k) f el-(n+k))).toList)).toArray=cs.toArray++b.toArray++Builtin.zeroCells z.cells (grownCap w (n+k) f el-(n+k)):=by apply Array.ext';simp
    unfold BE;rw[e];exact this
end
structure OwnQ{α:Type}(F:α->List Value)(sz:Nat)(el:TypeId)(m:Hp)(v:Value)(l:List α):Prop where
 own:OwnO el sz m v l.length (l.flatMap F)
 len:∀x,(F x).length=sz
section
variable {α:Type} {F:α->List Value} {sz:Nat} {h:Hp} {ms:List Hp} {v:Value} {l:List α} {el:TypeId} {m:Hp}
theorem OwnL.q(O:OwnL F sz el m v l):OwnQ F sz el m v l:=⟨O.own.o,O.len⟩
theorem OwnQ.rd(O:OwnQ F sz el m v l)(a:m∈ms):RdL F sz h ms v l:=⟨O.own.rd a,O.len⟩
theorem OwnQ.o1(O:OwnQ F sz el m v l):v.oneCell'=true:=(O.rd (h:=Hp.emp) (ms:=[m]) (List.Mem.head _)).rd.one
theorem OwnQ.tail{x:α}(O:OwnQ F sz el m v (x::l)):OwnQ F sz el m (C6 sz v 1 (l.length+1)) l:=by have:=OwnO.tail (n:=l.length) (cs:=(x::l).flatMap F) O.own;rw[eo,<-O.len x,List.drop_left,O.len x]at this;exact⟨this,O.len⟩
theorem Oa{e:Entry}{Q:Exit->Act->World->Prop}{A:Array Oper}{g:List Oper}{o:Oper}{s:AG}{t:TypeId}{d:Nat}{z:Value}{f:Nat}{x y:Operand}{u:Value}{r:List α}(i:Nat)(O:OwnQ F sz el m v l)(R:RdL F sz h ms u r)(ho:o.op=.call { callee:=.builtin .append,args:=#[x,y],argTypes:=#[t,t] })(ht:e.P.underlying t=some (.slice el))(hs:Elem e.P el sz z f)(P:z.cells.size=sz)(M:0<sz)
  (hx:ev s x=some v) (hy:ev s y=some u) (B:ms[i]?=some m) (h1:∀a∈r,∀c∈F a,c.oneCell'=true) (hb:(l.length+r.length)*f<=140737488355328) (k:l.length+r.length<=9223372036854775807) (hd:o.dst=some d) (hn:Nat.blt d e.n=true) (hg:o.guard=none)
  (K:∀j b,OwnQ F sz el b j (l++r)->WL e A Q g ((d,j)::s) h (ms.set i b)):WL e A Q (o::g) s h ms:=
 Is (post:=λj T p=>∃b,T=h/\p=ms.set i b/\OwnO el sz b j (l.length+r.length) (l.flatMap F++r.flatMap F)) (λρ w hρ hw=>by
  obtain⟨r',S,_⟩:=FN ms i m m B;obtain⟨j,w',b,hr,hO,hE⟩:=Uz (P:=e.P) (Ends.perm hw S) t o.type el ht hs P M O.own (R.rd.sub (λm B=>S.mem_iff.1 B)) (λc hc=>by obtain⟨a,L,ha⟩:=iv.1 hc;exact h1 a L c ha) hb k
  have:(execOp ρ o).run e.P w=.ok (.value j) w':=by simp[execOp,ho,hρ _ _ hx,hρ _ _ hy,resolve,invoke,builtin,hr]
  unfold OpRes;rw[this];obtain⟨r'',q1,q2⟩:=FN ms i m b B;have pr:(b::r').Perm (ms.set i b):=((List.Perm.cons_inv (S.symm.trans q1)).cons b).trans q2.symm
  grind [Ends.perm]) hd hn hg λj T p ⟨b,e1,e2,e3⟩=>by subst e1 e2;exact K j b ⟨by simp_all,O.len⟩
end
end Go.Eng
namespace Go.Eng
open Go.RowKit
theorem FnT.frz{P:Program}{f:FuncId}{c:Array Value}{h:Hp}{i:List Hp}{post a:Value->Hp->List Hp->Prop}(k:FnT P f c h i post)(p:∀r d b,post r d b->∃m q,b=m::q/\∀e,d.le e->m.le e->a r e q):FnT P f c h i a:=
 λw s=>(k w s).mono λ_ _ ⟨r,d,b,j,g,l⟩=>by obtain⟨m,q,rfl,n⟩:=p r d b l;exact⟨r,_,q,j,Ends.freeze g,n _ (Hp.le_join _ _) (Hp.join_le_right (g.st.off m ao))⟩
theorem HP{e:Entry}{Q:Exit->Act->World->Prop}{s:AG}{h:Hp}{d:List Hp}{el:TypeId}{x:Exit}{g:Nat}{cs:List Value}(k:∀b,h.le b->Seg b [] ⟨g,0,none⟩ cs->NX e Q x s b d):NX e Q x s h (BE g el cs::d):=
 λa w f c=>k _ (Hp.le_join _ _) (λj u i=>⟨by grind [Addr.add],cs.toArray,el,(0,0),.inl (by
  rw[C0]
  exact(Hp.join_le_right (c.st.off _ ao)) _ _ (Hp.one_self _ _)),by grind [D4]⟩) a w f (Ends.freeze c)
end Go.Eng
namespace Go.Wd
variable {b n m:Nat}
def val(b:Nat):List Nat->Nat
 | []=>0
 | a::l=>a+b*val b l
def dgF(b:Nat):Nat->Nat->List Nat
 | 0,_=>[]
 | f+1,n=>if n=0 then [] else n%b::dgF b f (n/b)
def dg(b n:Nat):List Nat:=dgF b n n
theorem Ho(b f:Nat):dgF b f 0=[]:=by cases f<;>simp[dgF]
theorem T7(c:2<=b):∀(f g n:Nat),n<=f->n<=g->dgF b f n=dgF b g n
 | 0,g,n,h,_=>by
  grind [Ho]
 | f+1,0,n,_,h=>by
  grind [Ho]
 | f+1,g+1,n,h1,h2=>by
  by_cases a:n=0
  .subst a;rw[Ho,Ho]
  .have:=Nat.div_lt_self (Nat.pos_of_ne_zero a) c;simp only[dgF,af a];rw[T7 c f g (n/b) Z Z]
theorem Ib(b:Nat):dg b 0=[]:=rfl
theorem GB(a:2<=b)(c:n≠0):dg b n=n%b::dg b (n/b):=by
 unfold dg;obtain⟨k,rfl⟩:∃k,n=k+1:=⟨n-1,Z⟩
 show(if k+1=0 then [] else _)=_;rw[af c,T7 a k ((k+1)/b) _ (by have:=Nat.div_lt_self (Nat.pos_of_ne_zero c) a;omega) (ak _)]
theorem Abx(a:2<=b)(c:n≠0)(h:n<b):dg b n=[n]:=by rw[GB a c,dv h,gc h,Ib]
theorem H9(c:2<=b):dg b n=[]<->n=0:=by
 constructor
 .grind [GB]
 .rintro rfl;rfl
theorem Ki(c:2<=b):∀n,val b (dg b n)=n:=by
 intro n
 induction n using Nat.strongRecOn with
 | _ n ih=>
  by_cases a:n=0
  .subst a;rfl
  grind [GB,val,Nat.div_lt_self,Nat.pos_of_ne_zero,jf]
theorem AcA(a:2<=b)(h:dg b m=dg b n):m=n:=by grind [Ki]
theorem FG(e:2<=b):∀n,∀a,a∈dg b n->a<b:=by
 intro n
 induction n using Nat.strongRecOn with
 | _ n ih=>
  intro a c;by_cases d:n=0
  .subst d;exact lj c (by rw[Ib];exact ia)
  grind [GB,be,f6,Nat.div_lt_self,Nat.pos_of_ne_zero]
theorem Cp(a:2<=b):∀k n,(dg b n).length<=k<->n<b^k
 | 0,n=>by
  grind [H9,dw]
 | k+1,n=>by
  by_cases c:n=0
  .subst c;exact⟨λ_=>jc Z,λ_=>fm _⟩
  .rw[GB a c,de,Nat.succ_le_succ_iff,Cp a k,d7,Nat.div_lt_iff_lt_mul Z]
def DK(l:List Nat):List Nat:=(l.reverse.dropWhile (·==0)).reverse
theorem Fz(l:List Nat):DK (l++[0])=DK l:=by simp[DK]
theorem GG{a:Nat}(l:List Nat)(h:a≠0):DK (l++[a])=l++[a]:=by simp[DK,h]
theorem WW(a:Nat)(l:List Nat):DK (a::l)=if DK l=[]/\a=0 then [] else a::DK l:=by
 have p:∀m:List Nat,DK m=[]\/∃k x n,x≠0/\m=k++[x]++replicate n 0/\DK m=k++[x]:=by
  intro m;obtain⟨r,d⟩:∃r,m.reverse=r:=⟨_,Y⟩
  obtain rfl:m=r.reverse:=by grind
  clear d
  induction r with
  | nil=>left;rfl
  | cons y r ih=>
   rw[List.reverse_cons];by_cases c:y=0
   .subst c;rw[Fz];rcases ih with h|⟨k,x,n,i,f,g⟩
    .simp_all
    .exact .inr ⟨k,x,n+1,i,by rw[List.replicate_succ',<-du,<-f],g⟩
   .right
    exact⟨r.reverse,y,0,c,by simp,GG _ c⟩
 rcases p l with h|⟨k,x,n,i,f,g⟩
 .rw[h]
  have j:∀m:List Nat,DK m=[]->DK (a::m)=if a=0 then [] else [a]:=by
   intro m;obtain⟨r,d⟩:∃r,m.reverse=r:=⟨_,Y⟩
   obtain rfl:m=r.reverse:=by rw[<-d,List.reverse_reverse]
   clear d
   induction r with
   | nil=>intro _;by_cases e:a=0<;>simp[DK,e]
   | cons y r ih=>
    rw[List.reverse_cons];intro h;by_cases c:y=0
    .subst c;rw[Fz]at h;rw[<-bg,Fz];exact ih h
    .rw[GG _ c]at h;exact lj h σ
  simp_all
 .rw[g,af σ]
  have j:∀(n:Nat) (m:List Nat),DK (m++replicate n 0)=DK m:=by
   intro n
   induction n with
   | zero=>intro m;simp
   | succ n ih=>intro m;rw[List.replicate_succ',<-du,Fz,ih]
  grind [bg,GG]
theorem DT(d:2<=b):∀{l:List Nat},(∀a,a∈l->a<b)->DK l=dg b (val b l)
 | [],_=>rfl
 | a::l,h=>by
  have e:=h a (ao ..);rw[WW,DT d λx g=>h x (am _ g)];show _=dg b (a+b*val b l);by_cases c:dg b (val b l)=[]/\a=0
  .grind [H9]
  .rw[af c];rw[H9 d]at c
   have f:a+b*val b l≠0:=by
    intro q;apply c;have:b*val b l=0:=Z
    rcases Nat.mul_eq_zero.1 this with h|h
    .omega
    .omega
   rw[GB d f,ke,dv e,Nat.add_mul_div_left _ _ Z,gc e,ig]
theorem Ey(b:Nat):∀l m:List Nat,val b (l++m)=val b l+b^l.length*val b m
 | [],m=>by simp[val]
 | a::l,m=>by show a+b*val b (l++m)=a+b*val b l+b^(l.length+1)*val b m;rw[Ey b l m,ip,d7,ei (b^l.length) b,ie,Nat.add_assoc]
theorem He(b n:Nat):val b (replicate n 0)=0:=by
 induction n<;>grind [f5,val]
theorem Kn(c:2<=b):∀{l:List Nat},(∀a,a∈l->a<b)->val b l<b^l.length
 | [],_=>by simp[val]
 | a::l,h=>by have f:=h a (ao ..);have d:=Kn c λx e=>h x (am _ e);show a+b*val b l<b^(l.length+1);rw[d7];have:b*(val b l+1)<=b*b^l.length:=i6 _ d;rw[ip,km]at this;rw[ei (b^l.length) b];omega
theorem Pd(b:Nat)(l:List Nat)(i:Nat)(h:i<l.length):val b (l.take (i+1))=val b (l.take i)+b^i*l[i]:=by grind [ap,Ey,bf,gr,val]
theorem Jk(b:Nat):∀(l:List Nat) (i x:Nat),i<l.length->val b (l.set i x)+b^i*l.getD i 0=val b l+b^i*x
 | [],i,x,h=>lj h σ
 | a::l,0,x,_=>by simp[val];omega
 | a::l,i+1,x,h=>by have:=Jk b l i x (by simpa using h);show a+b*val b (l.set i x)+b^(i+1)*(a::l).getD (i+1) 0=a+b*val b l+b^(i+1)*x;rw[List.getD_cons_succ,d7,ei (b^i) b,ie,ie];have c:=bh (b*·) this;simp only[ip]at c;omega
theorem Pc(b:Nat)(l:List Nat)(i:Nat)(h:i<l.length):val b (l.drop i)=l[i]+b*val b (l.drop (i+1)):=by rw[fw h];rfl
theorem LX(b:Nat)(l:List Nat)(i:Nat):val b l=val b (l.take i)+b^(min i l.length)*val b (l.drop i):=by
 grind [d6,Ey,bf]
theorem LS(a:2<=b)(h:n≠0):b^((dg b n).length-1)<=n:=by refine ax λq=>?_;have:=(Cp a ((dg b n).length-1) n).2 Z;grind [dg,H9,dw]
theorem HG(a:2<=b)(h:(dg b m).length<(dg b n).length):m<n:=by
 have c:n≠0:=by rintro rfl;rw[Ib]at h;simp at h
 have d:=(Cp a ((dg b n).length-1) m).1 Z;grind [LS]
theorem Er(a:2<=b)(h:m<=n):(dg b m).length<=(dg b n).length:=by refine ax λq=>?_;have:=HG a (m:=n) (n:=m) Z;omega
theorem OO(a:2<=b)(m n:Nat):(dg b (m+n)).length<=max (dg b m).length (dg b n).length+1:=by rw[Cp a,d7];have c:=(Cp a (max (dg b m).length (dg b n).length) m).1 (Nat.le_max_left ..);have d:=(Cp a (max (dg b m).length (dg b n).length) n).1 (Nat.le_max_right ..);have:b^max (dg b m).length (dg b n).length*2<=b^max (dg b m).length (dg b n).length*b:=i6 _ a;omega
theorem Ob(a:2<=b)(m n:Nat):(dg b (m*n)).length<=(dg b m).length+(dg b n).length:=by rw[Cp a,jx];have c:=(Cp a _ m).1 (ak _);have d:=(Cp a _ n).1 (ak _);exact Nat.mul_lt_mul'' c d
end Go.Wd
namespace Go.Wd
variable {b i c:Nat} {x y:List Nat}
theorem OM(b:Nat)(l:List Nat)(x:Nat):val b (l++[x])=val b l+b^l.length*x:=by rw[Ey];simp[val]
theorem Ef(b:Nat)(l:List Nat)(i:Nat):val b (l.take (i+1))=val b (l.take i)+b^i*l.getD i 0:=by
 grind [Pd,List.getD,bm]
theorem ER(b:Nat)(l:List Nat)(i:Nat):val b (l.drop i)=l.getD i 0+b*val b (l.drop (i+1)):=by
 grind [Pc,List.getD,jg,val]
theorem AcS(g:2<=b){d:List Nat}(e:d.length=i)(j:val b d+b^i*c=val b (x.take i)+val b (y.take i))(s:Nat)(f:s=x.getD i 0+c+y.getD i 0) :
  val b (d++[s%b])+b^(i+1)*(s/b)=val b (x.take (i+1))+val b (y.take (i+1)):=by
 grind [OM,Ef,d7,ie,jf,ip]
theorem Acq(h:2<=b){d:List Nat}{s e:Nat}(f:d.length=i)(j:val b d+val b (y.take i)=val b (x.take i)+b^i*c)(g:s+c+y.getD i 0=x.getD i 0+b*e) :
  val b (d++[s])+val b (y.take (i+1))=val b (x.take (i+1))+b^(i+1)*e:=by
 grind [OM,Ef,d7,ie,ip]
theorem Aby(j:2<=b){o:List Nat}{k x t s:Nat}(a:i+k<o.length)(l:val b o+b^(i+k)*c=t+b^i*(x*val b (y.take k)))(e:s=o.getD (i+k) 0+x*y.getD k 0+c) :
  val b (o.set (i+k) (s%b))+b^(i+(k+1))*(s/b)=t+b^i*(x*val b (y.take (k+1))):=by
 have f:=Jk b o (i+k) (s%b) a;rw[Ef,<-Nat.add_assoc,d7,ie];grind [jf,ip,jx,ie,kr]
theorem Afe(g:2<=b){o:List Nat}(a:i+y.length<o.length)(f:o.getD (i+y.length) 0=0)(e:val b o+b^(i+y.length)*c=val b (x.take i)*val b y+b^i*(x.getD i 0*val b (y.take y.length))) :
  val b (o.set (i+y.length) c)=val b (x.take (i+1))*val b y:=by
 grind [Jk,List.take_length,Ef,dq,ie]
theorem V9(g:2<=b){q:List Nat}{r d:Nat}(j:d≠0)(a:i<q.length)(f:val b (q.drop (i+1))*d+r=val b (x.drop (i+1))) :
  val b ((q.set i ((r*b+x.getD i 0)/d)).drop i)*d+(r*b+x.getD i 0)%d=val b (x.drop i):=by
 rw[ER b x i,ER b (q.set i _) i]
 rw[show(q.set i ((r*b+x.getD i 0)/d)).drop (i+1)=q.drop (i+1) by
  rw[List.drop_set];rw[ah Z]]
 grind [List.getD,jf,ip,dq,ie,ei]
theorem AaP{r d x:Nat}(a:r<d)(e:x<b):(r*b+x)/d<b:=by rw[Nat.div_lt_iff_lt_mul Z];have:(r+1)*b<=d*b:=eh _ a;grind
theorem AcH(g:2<=b)(l:∀a,a∈x->a<b)(n:∀a,a∈y->a<b)(j:x.length=y.length)(m:i<x.length)(k:x.drop (i+1)=y.drop (i+1))(h:x.getD i 0<y.getD i 0):val b x<val b y:=by rw[LX b x i,LX b y i,ER b x i,ER b y i,k,<-j,gr Z];have d:=Kn g (l:=x.take i) λa f=>l a (ge f);rw[bf,gr Z]at d;have e:=i6 (b^i) (show x.getD i 0+1<=y.getD i 0 from h);grind
def SR(m n:Nat):Int:=if m<n then -1 else if n<m then 1 else 0
end Go.Wd
namespace Go.Wd
open Go Go.Eng
variable {m:Nat}
def Ba(m:Nat):List UInt8:=(dg 256 m).reverse.map UInt8.ofNat
theorem FA(m:Nat):(Ba m).length=(dg 256 m).length:=by simp[Ba]
theorem bys_nil:Ba m=[]<->m=0:=by grind [Ba,List.map_eq_nil_iff,List.reverse_eq_nil_iff,H9]
def le4(w:Nat):List Nat:=[w%256,w/256%256,w/65536%256,w/16777216%256]
def be4(w:Nat):List UInt8:=[UInt8.ofNat (w/2^24),UInt8.ofNat (w/2^16),UInt8.ofNat (w/2^8),UInt8.ofNat w]
theorem Y3(a:Nat):UInt8.ofNat (a%256)=UInt8.ofNat a:=by apply UInt8.toNat_inj.1;simp
theorem Ahh(w:Nat):be4 w=(le4 w).reverse.map UInt8.ofNat:=by simp only[be4,le4,List.reverse_cons,List.reverse_nil,aw,bg,dh,List.map_nil,Y3]
theorem Aeg{w:Nat}(h:w<4294967296):val 256 (le4 w)=w:=by show w%256+256*(w/256%256+256*(w/65536%256+256*(w/16777216%256+256*0)))=w;omega
theorem UX:∀{l:List Nat},(∀a,a∈l->a<4294967296)->val 256 (l.flatMap le4)=val 4294967296 l
 | [],_=>rfl
 | w::l,h=>by rw[eo,Ey,Aeg (h w (ao ..)),UX λx b=>h x (am _ b)];show w+256^4*_=w+4294967296*_;rw[show(256:Nat)^4=4294967296 from by decide]
theorem YP(l:List Nat):∀a,a∈l.flatMap le4->a<256:=by grind [iv,le4,be,ia,f6]
theorem Afr(l:List Nat):l.reverse.flatMap be4=(l.flatMap le4).reverse.map UInt8.ofNat:=by
 induction l<;>grind [le4,eo,be4,List.reverse_cons,fe,List.reverse_append,cz,Ahh]
theorem T9:∀{l:List Nat},(∀a,a∈l->a<256)->(l.map UInt8.ofNat).dropWhile (·==0)=(l.dropWhile (·==0)).map UInt8.ofNat
 | [],_=>rfl
 | a::l,h=>by
  have d:=h a (ao ..);rw[dh,List.dropWhile_cons,List.dropWhile_cons];by_cases b:a=0
  .simp_all [T9,am]
  .have:UInt8.ofNat a≠0:=λe=>b (by
    have:=bh UInt8.toNat e
    simp at this;omega)
   simp_all
theorem VW{l:List Nat}(h:∀a,a∈l->a<4294967296):(l.reverse.flatMap be4).dropWhile (·==0)=Ba (val 4294967296 l):=by rw[Afr,T9 λa b=>YP l a (List.mem_reverse.1 b)];unfold Ba;rw[<-UX h,<-DT H (YP l)];unfold DK;simp_all
theorem Afz(l:List Nat):(l.flatMap be4).length=4*l.length:=by
 induction l with
 | nil=>rfl
 | cons w l ih=>rw[eo,ag,ih,de];show 4+_=_;omega
theorem SP{i:Nat}(h:i<(Ba m).length):((Ba m)[i]).toNat=m/256^((Ba m).length-1-i)%256:=by
 have b:∀(k n:Nat),(dg 256 n).getD k 0=n/256^k%256:=by
  intro k
  induction k with
  | zero=>
   intro n;by_cases a:n=0
   .subst a;rfl
   .rw[GB H a];simp
  | succ k ih=>
   intro n;by_cases a:n=0
   .subst a;simp[Ib]
   .rw[GB H a,List.getD_cons_succ,ih,f7,d7,ei]
 have d:=FA m
 have c:(Ba m)[i]?=some (UInt8.ofNat ((dg 256 m).getD ((dg 256 m).length-1-i) 0)):=by unfold Ba;rw[gj,List.getElem?_reverse Z];simp[List.getD,aj (show(dg 256 m).length-1-i<(dg 256 m).length by omega)]
 rw[aj h]at c;simp_all
theorem AaQ{k:Nat}{lo:List Nat}(hv:val 4294967296 lo=m/256^(k+1)*256^(k+1))(h:∀a,a∈lo->a<4294967296)(l:k/4<lo.length)(x:Nat)(n:x=lo.getD (k/4) 0 ||| (m/256^k%256)*2^(8*(k%4))) :
  val 4294967296 (lo.set (k/4) x)=m/256^k*256^k/\x<4294967296:=by
 obtain⟨w,hw⟩:∃w,k/4=w:=⟨_,Y⟩
 obtain⟨s,hs⟩:∃s,k%4=s:=⟨_,Y⟩
 have hs4:s<4:=Z
 have f:k=4*w+s:=Z
 rw[hw]at n l ⊢;rw[hs]at n;obtain⟨d,j⟩:∃d,lo.getD w 0=d:=⟨_,Y⟩
 have hdm:d<4294967296:=by rw[<-j];simp only[List.getD,aj l,Option.getD_some];exact h _<|aq l
 have K:(4294967296:Nat)^w=256^(4*w):=by rw[show(4294967296:Nat)=256^4 from Y,<-Nat.pow_mul]
 have i:=LX 4294967296 lo w;rw[ER,j,gr Z]at i;have B:=Kn (b:=4294967296) H (l:=lo.take w) λa ha=>h a (ge ha);rw[bf,gr Z]at B
 have e:256^(s+1)∣d:=by
  have p:256^(k+1)∣val 4294967296 lo:=by rw[hv];exact Nat.dvd_mul_left _ _
  have z:(256:Nat)^(k+1)=4294967296^w*256^(s+1):=by rw[K,<-jx,f];rfl
  have A:4294967296^w∣val 4294967296 lo:=Nat.dvd_trans ⟨_,z⟩ p
  have M:4294967296^w∣val 4294967296 (lo.take w):=by rw[i]at A;exact(Nat.dvd_add_left (Nat.dvd_mul_right _ _)).1 A
  have O:val 4294967296 (lo.take w)=0:=Nat.eq_zero_of_dvd_of_lt M B;rw[O,ig]at i;rw[z,i]at p;have P:=Nat.dvd_of_mul_dvd_mul_left (jc H) p
  have Q:256^(s+1)∣4294967296*val 4294967296 (lo.drop (w+1)):=by refine Nat.dvd_mul_right_of_dvd ?_ _;rw[show(4294967296:Nat)=256^4 from Y];exact Nat.pow_dvd_pow _ Z
  exact(Nat.dvd_add_left Q).1 P
 obtain⟨c,L⟩:=e;obtain⟨y,u⟩:∃y,m/256^k%256=y:=⟨_,Y⟩
 have v:y<256:=by rw[<-u];exact f6 _ H
 have r:(2:Nat)^(8*s)=256^s:=by rw[Nat.pow_mul]
 rw[u,j,r]at n
 have g:y*256^s<2^(8*(s+1)):=by rw[Nat.pow_mul,show(2:Nat)^8=256 from Y,d7,ei (256^s)];exact Nat.mul_lt_mul_of_pos_right v<|jc H
 have R:d=c <<< (8*(s+1)):=by rw[Nat.shiftLeft_eq,Nat.pow_mul,L,ei]
 have b:x=d+y*256^s:=by rw[n,R,<-Nat.shiftLeft_add_eq_or_of_lt g]
 have t:x<4294967296:=by
  have S:s=0\/s=1\/s=2\/s=3:=Z
  rw[b];rcases S with rfl|rfl|rfl|rfl<;>simp only[Nat.reduceAdd,Nat.reducePow]at L ⊢<;>omega
 refine⟨?_,t⟩;have T:=Jk 4294967296 lo w x l;rw[j,b,ip]at T
 grind [kr,jx,jf,f7,d7,dq,ei,ie]
end Go.Wd
namespace Go.Eng
open Go.RowKit
theorem DY{P:Program}{o:Oper}{s:AG}{h:Hp}{a:List Hp}{v b:Value}(c:OX P o s h a v)(e:v=b):OX P o s h a b:=e ▸ c
theorem JC{n:Nat}:((n &&& 4294967295:Nat):Int)=((n%4294967296:Nat):Int):=by have:=Nat.and_two_pow_sub_one_eq_mod n 32;simp_all
theorem Ov{P:Program}{o:Oper}{s:AG}{h:Hp}{f:List Hp}{t u:TypeId}{x y:Operand}{l l':List UInt8}(b:o.op=.binOp .eql t x y u)(c:ev s x=some (sv l))(d:ev s y=some (sv l')):OX P o s h f (.bool (decide (l=l'))):=
 Bz λρ w a _=>by
  have e:(l==l')=decide (l=l'):=by
   by_cases h:l=l'
   .simp_all
   .simp[h]
  simp[execOp,b,a _ _ c,a _ _ d,sv,binOp_string_eql,e,ByteArray.toList_eq,eqGuard_at_string]
end Go.Eng
namespace Go.Wd
theorem Abn{m:Nat}(h:m≠0):∃(b:UInt8) (l:List UInt8),Ba m=b::l/\b.toNat≠0:=by
 have c:Ba m≠[]:=λe=>h (bys_nil.1 e);have r:0<(Ba m).length:=List.length_pos_iff.2 c;have a:=SP (m:=m) (i:=0) r;obtain⟨b,l,e⟩:=List.exists_cons_of_ne_nil c;refine⟨b,l,e,λj=>?_⟩;have g:(Ba m)[0]=b:=by simp[e]
 rw[g,j]at a;have p:=FA m;have d:=LS (b:=256) H h;have f:=(Cp (b:=256) H (dg 256 m).length m).1 (ak _);rw[ix,p]at a;obtain⟨k,n⟩:∃k,(dg 256 m).length=k+1:=⟨(dg 256 m).length-1,Z⟩
 rw[n]at a d f;rw[show k+1-1=k by omega]at a d;rw[d7,ei]at f;have i:m/256^k<256:=by rw[Nat.div_lt_iff_lt_mul (jc H)];exact f
 rw[dv i]at a;have s:0<m/256^k:=Nat.div_pos d (jc H);omega
end Go.Wd
namespace Go.Eng
open Go.RowKit Go.Lin
theorem RdL.rowF{F:Int->List Value}{sz:Nat}{h:Hp}{b:List Hp}{v:Value}{r c:Nat}{f:Nat->Nat->Int}(R:RdL F sz h b v (Eb r c f)){i:Nat}(a:i<r):RdL F sz h b (C6 sz v (i*c) ((i+1)*c)) (DC c (f i)):=by
 have d:(i+1)*c<=r*c:=eh c a;have e:(i+1)*c=i*c+c:=by rw[dq,gn]
 have:=R.sub_ (i:=i*c) (j:=(i+1)*c) Z (by rw[Ci];exact d);grind [AdK]
theorem RdL.evF{F:Int->List Value}{sz:Nat}{h:Hp}{b:List Hp}{v:Value}{n:Nat}{f:Nat->Int}(R:RdL F sz h b v (DC n f)){j:Nat}(a:j<n):Seg h b ((AJ v).add (j*sz)) (F (f j)):=by
 have c:j<(DC n f).length:=by rw[Cc];exact a
 have:=R.seg c
 grind [AeN]
theorem RdL.entF{F:Int->List Value}{sz:Nat}{h:Hp}{d:List Hp}{v:Value}{r c:Nat}{f:Nat->Nat->Int}(R:RdL F sz h d v (Eb r c f)){i j:Nat}(a:i<r)(b:j<c):Seg h d ((AJ v).add ((i*c+j)*sz)) (F (f i j)):=by
 have e:i*c+j<(Eb r c f).length:=by rw[Ci];exact Om a b
 have:=R.seg e
 grind [AdT]
theorem AbL{F:Int->List Value}{sz:Nat}{h:Hp}{e:List Hp}{v:Value}{r c:Nat}{f:Nat->Nat->Int}(R:RdL F sz h e v (Eb r c f)){i j:Nat}(a:i<r)(b:j<c):(AJ (C6 sz v (i*c) ((i+1)*c))).add (j*sz)=(AJ v).add ((i*c+j)*sz):=by
 have d:i*c<(Eb r c f).length:=by have:=Om a b;rw[Ci];omega
 rw[YY R.rd d,BD,<-dq]
end Go.Eng
namespace Go.Lin
def Kp(k:Nat)(f g:Nat->Nat->Int)(i t j a b:Nat):Int:=if a<i then sm k (λq=>f a q*g q b) else if a=i then(if b<j then sm (t+1) (λq=>f a q*g q b) else sm t (λq=>f a q*g q b)) else 0
theorem Adm(k:Nat)(f g:Nat->Nat->Int)(a b:Nat):Kp k f g 0 0 0 a b=0:=by
 unfold Kp;rw[af Z];split
 .rw[af Z];rfl
 .rfl
theorem Wj(k:Nat)(f g:Nat->Nat->Int)(i t j:Nat):Kp k f g i t j i j=sm t (λq=>f i q*g q j):=by grind [Kp]
theorem Ub(k:Nat)(f g:Nat->Nat->Int)(i t j a b:Nat)(x:Int)(l:x=Kp k f g i t j i j+f i t*g t j):QI (Kp k f g i t j) i j x a b=Kp k f g i t (j+1) a b:=by
 unfold QI;by_cases h:a=i/\b=j
 .obtain⟨rfl,rfl⟩:=h;rw[ah ⟨rfl,rfl⟩,l,Wj];unfold Kp;rw[af Z,ah rfl,ah Z];rfl
 grind [Kp]
theorem Abl(k:Nat)(f g:Nat->Nat->Int)(i t j a b:Nat)(c:f i t*g t j=0):Kp k f g i t j a b=Kp k f g i t (j+1) a b:=by
 rw[<-Ub k f g i t j a b _ rfl,c,il];grind [QI]
theorem AcL(k:Nat)(f g:Nat->Nat->Int)(i t c a b:Nat)(h:b<c):Kp k f g i t c a b=Kp k f g i (t+1) 0 a b:=by
 grind [Kp]
theorem Ab6(k:Nat)(f g:Nat->Nat->Int)(i t a b:Nat)(e:f i t=0):Kp k f g i t 0 a b=Kp k f g i (t+1) 0 a b:=by
 grind [Kp,sm]
theorem Aej(k:Nat)(f g:Nat->Nat->Int)(i a b:Nat):Kp k f g i k 0 a b=Kp k f g (i+1) 0 0 a b:=by
 unfold Kp;by_cases c:a<i
 .omega
 .rw[af c];by_cases d:a=i
  .omega
  .rw[af d,af Z];by_cases e:a=i+1
   .rw[ah e,af Z];rfl
   .rw[af e]
theorem Aep(k:Nat)(f g:Nat->Nat->Int)(r a b:Nat)(c:a<r):Kp k f g r 0 0 a b=sm k (λq=>f a q*g q b):=by grind [Kp]
end Go.Lin
namespace Go.Eng
open Go.RowKit
variable {m:Hp} {vs:List Value}
theorem Vi{a b c:Hp}(h:a.disj b):a.join (b.join c)=b.join (a.join c):=by grind [Hp.join_assoc,Hp.join_comm]
section
variable {α:Type} {F:α->List Value} {sz:Nat} {el:TypeId}
def VsO(F:α->List Value)(sz:Nat)(el:TypeId):Hp->List Value->List (List α)->Prop
 | m,[],[]=>m=Hp.emp
 | m,v::vs,c::cs=>∃a b,m=a.join b/\a.disj b/\OwnL F sz el a v c/\VsO F sz el b vs cs
 | _,_,_=>False
theorem VsO.len:∀{vs:List Value} {cs:List (List α)} {m:Hp},VsO F sz el m vs cs->vs.length=cs.length
 | [],[],_,_=>rfl
 | _::_,_::_,_,⟨_,_,_,_,_,h⟩=>by simp[h.len]
 | [],_::_,_,h=>h.elim
 | _::_,[],_,h=>h.elim
theorem VsO.snoc{v:Value}{c:List α}{b:Hp}(O:OwnL F sz el b v c):∀{vs:List Value} {cs:List (List α)} {m:Hp},VsO F sz el m vs cs->m.disj b->VsO F sz el (m.join b) (vs++[v]) (cs++[c])
 | [],[],m,h,hd=>by have h:m=Hp.emp:=h;subst h;exact⟨b,Hp.emp,by rw[Hp.join_emp,Hp.emp_join],λg=>.inr rfl,O,rfl⟩
 | _::_,_::_,m,⟨a,b',e,hd',O',h⟩,hd=>by subst e;refine⟨a,b'.join b,Hp.join_assoc _ _ _,?_,O',h.snoc O (Hp.disj_right hd)⟩;grind [Hp.disj_symm,Hp.disj_join,Hp.disj_left]
 | [],_::_,_,h,_=>h.elim
 | _::_,[],_,h,_=>h.elim
theorem VsO.at_:∀{vs:List Value} {cs:List (List α)} {m:Hp},VsO F sz el m vs cs->∀{i:Nat} (k:i<vs.length) (r:i<cs.length),∃a b,m=a.join b/\a.disj b/\OwnL F sz el a vs[i] cs[i]/\∀d g,d.disj b->OwnL F sz el d vs[i] g->VsO F sz el (d.join b) vs (cs.set i g)
 | [],_,_,_,i,k,_=>by simp at k
 | _::_,[],_,h,_,_,_=>h.elim
 | v::vs,c::cs,m,⟨a,b,e,hd,O,C⟩,0,_,_=>⟨a,b,e,hd,O,λd g f l=>⟨d,b,rfl,f,l,C⟩⟩
 | v::vs,c::cs,m,⟨a0,b0,e,hd,O,C⟩,i+1,k,r=>by
  obtain⟨a,b,u,p,t,K⟩:=C.at_ (i:=i) (by simp_all) (by simp_all);subst u;obtain⟨j,n⟩:=Hp.disj_of_join hd;refine⟨a,a0.join b,by grind [Vi],?_,t,λd g f l=>?_⟩
  .grind [Hp.disj_symm,Hp.disj_join]
  .obtain⟨s,x⟩:=Hp.disj_of_join f;refine⟨a0,d.join b,Vi s,?_,O,K d g x l⟩;grind [Hp.disj_symm,Hp.disj_join]
theorem VsO.rd{cs:List (List α)}{h:Hp}{ms:List Hp}(C:VsO F sz el m vs cs)(d:m∈ms){i:Nat}(f:i<vs.length)(c:i<cs.length):RdL F sz h ms vs[i] cs[i]:=by obtain⟨a,b,e,g,O,_⟩:=C.at_ f c;exact O.rdm (y:=a) (by rw[e];exact Hp.le_joinl) d
theorem VsO.rdh{cs:List (List α)}{h:Hp}(C:VsO F sz el m vs cs)(d:m.le h){i:Nat}(f:i<vs.length)(c:i<cs.length):RdL F sz h [] vs[i] cs[i]:=by obtain⟨a,b,e,g,O,_⟩:=C.at_ f c;exact O.rdh<|Hp.le_trans (by rw[e];exact Hp.le_joinl) d
end
section
variable {e:Entry} {Q:Exit->Act->World->Prop} {ops:Array Oper} {rest:List Oper} {o:Oper} {s:AG} {h:Hp} {ms:List Hp} {α:Type} {F:α->List Value} {sz:Nat} {el:TypeId}
theorem We{cs:List (List α)}{t:TypeId}{x y:Operand}{u z:Value}{d:Nat}(i j:Nat)(a:α)(C:VsO F sz el m vs cs)(A:i<vs.length)(n:i<cs.length)(L:j<cs[i].length)(M:o.op=.store t x y)(P:Elem e.P t sz z d)(S:ev s x=some (.pointer (some ((AJ vs[i]).add (j*sz)))))(T:ev s y=some u)(R:u.cells=(F a).toArray)(l:∀c∈F a,c.oneCell'=true)
  (r:o.dst=none) (v:o.guard=none)
  (K:∀f,VsO F sz el f vs (cs.set i (cs[i].set j a))->WL e ops Q rest s h (f::ms)):WL e ops Q (o::rest) s h (m::ms):=by
 obtain⟨p,q,rfl,g,O,B⟩:=C.at_ A n;refine Afg g<|EY 0 j a O M P S T R l Y L r v λf k=>?_;grind [Ace,Hp.disj,cg,AdU,ao]
theorem TN(c:∀x,(F x).length=sz)(b:0<sz)(a:α)(k:Nat):(Builtin.zeroCells (F a).toArray k).toList=(replicate k a).flatMap F:=by
 have h:=Mf c b a k
 grind [Builtin.zeroCells,madeCells,iq]
theorem UR{t u:TypeId}{d:Nat}{g:Nat}{x y:Operand}{v z:Value}{l:List α}{k:Nat}(i:Nat)(a:α)(O:OwnL F sz el m v l)(ho:o.op=.call { callee:=.builtin .append,args:=#[x,y],argTypes:=#[t,u] })(ht:e.P.underlying t=some (.slice el))(hu:e.P.underlying u=some (.int .i64))(hs:Elem e.P el sz z g)(T:z.cells=(F a).toArray)(A:0<sz)(h1:∀c∈F a,c.oneCell'=true)
  (hx:ev s x=some v) (hy:ev s y=some (.w k)) (S:ms[i]?=some m) (M:(l.length+k)*g<=140737488355328) (n:l.length+k<=9223372036854775807) (hd:o.dst=some d) (hn:Nat.blt d e.n=true) (hg:o.guard=none)
  (K:∀j f,OwnL F sz el f j (l++replicate k a)->WL e ops Q rest ((d,j)::s) h (ms.set i f)):WL e ops Q (o::rest) s h ms:=
 Is (post:=λj P L=>∃f,P=h/\L=ms.set i f/\OwnL F sz el f j (l++replicate k a)) (λρ w hρ hw=>by
  obtain⟨r,p1,_⟩:=FN ms i m m S;have B:(Builtin.zeroCells z.cells k).toList=(replicate k a).flatMap F:=by rw[T];exact TN O.len A a k
  obtain⟨j,w',f,hr,R,hE⟩:=LV (P:=e.P) (Ends.perm hw p1) t u o.type el ht hu hs (by rw[T];simp[O.len]) A O.own (k:=k) (λc p=>by
   rw[B]at p;obtain⟨b,M,p⟩:=iv.1 p
   rw[(kj.1 M).2]at p;exact h1 c p) M n
  have:(execOp ρ o).run e.P w=.ok (.value j) w':=by simp[execOp,ho,hρ _ _ hx,hρ _ _ hy,resolve,invoke,builtin,hr]
  unfold OpRes;rw[this];obtain⟨r',q1,q2⟩:=FN ms i m f S;have pr:(f::r).Perm (ms.set i f):=((List.Perm.cons_inv (p1.symm.trans q1)).cons f).trans q2.symm;refine⟨h,_,Ends.perm hE pr,f,Y,Y,⟨?_,O.len⟩⟩;simp_all) hd hn hg λj P L ⟨f,e1,e2,e3⟩=>by simp_all
end
end Go.Eng
namespace Go.Eng
open Go.RowKit
theorem AaY{P:Program}{o:Oper}{s:AG}{h:Hp}{i:List Hp}{b el:TypeId}{x:Operand}{a:Option Addr}{n c:Nat}(d:o.op=.call { callee:=.builtin .cap,args:=#[x],argTypes:=#[b] })(e:P.underlying b=some (.slice el))(f:ev s x=some (.slice a n c)):OX P o s h i (.int .i64 c):=
 Bz λρ w g _=>by simp[execOp,d,g _ _ f,resolve,invoke,builtin,Builtin.cap_,cw e,goInt]
end Go.Eng
namespace Go.Sm
open Go.Lin
variable {n c i B k q:Nat} {M:List (List Int)} {x y:Int}
def AP(M:List (List Int))(i j:Nat):Int:=(M.getD i []).getD j 0
def F9(M:List (List Int))(i j:Nat)(x:Int):List (List Int):=M.set i ((M.getD i []).set j x)
structure Shape(n c:Nat)(M:List (List Int)):Prop where
 len:M.length=n
 row:∀i,i<n->(M.getD i []).length=c
theorem Shape.set(S:Shape n c M)(i j:Nat)(x:Int):Shape n c (F9 M i j x):=by
 unfold F9;refine⟨by rw[fh];exact S.len,λk b=>?_⟩;have a:k<M.length:=by rw[S.len];exact b
 by_cases h:i=k
 .subst h;simp[List.getD,a];have:=S.row i b;simpa[List.getD,a] using this
 .have e:(M.set i ((M.getD i []).set j x)).getD k []=M.getD k []:=by simp[List.getD,gh,h]
  rw[e];exact S.row k b
theorem Jj(S:Shape n c M){j:Nat}(x:Int)(g:i<n)(l:j<c)(a b:Nat):AP (F9 M i j x) a b=if a=i/\b=j then x else AP M a b:=by
 have f:i<M.length:=by rw[S.len];exact g
 have m:=S.row i g;unfold AP F9;grind
structure Tn where
 (a b c d:Int)
deriving DecidableEq
def Jz(i k:Nat)(t:Tn)(M:List (List Int))(q:Nat):List (List Int):=
 F9 (F9 M i q (t.a*AP M i q+t.b*AP M k q)) k q (t.c*AP M i q+t.d*AP M k q)
def FH(i k:Nat)(t:Tn)(M:List (List Int)):Nat->List (List Int)
 | 0=>M
 | q+1=>Jz i k t (FH i k t M q) q
def Jn(i k:Nat)(t:Tn)(M:List (List Int))(q:Nat):List (List Int):=
 F9 (F9 M q i (t.a*AP M q i+t.b*AP M q k)) q k (t.c*AP M q i+t.d*AP M q k)
def FL(i k:Nat)(t:Tn)(M:List (List Int)):Nat->List (List Int)
 | 0=>M
 | q+1=>Jn i k t (FL i k t M q) q
theorem Shape.rows(S:Shape n c M)(i k:Nat)(t:Tn):∀q,Shape n c (FH i k t M q)
 | 0=>S
 | q+1=>((S.rows i k t q).set _ _ _).set _ _ _
theorem Shape.cols(S:Shape n c M)(i k:Nat)(t:Tn):∀q,Shape n c (FL i k t M q)
 | 0=>S
 | q+1=>((S.cols i k t q).set _ _ _).set _ _ _
theorem Vz(S:Shape n c M)(t:Tn)(l:i<n)(m:k<n)(h:i≠k)(j:q<c)(a b:Nat):AP (Jz i k t M q) a b=if b=q then(if a=i then t.a*AP M i q+t.b*AP M k q else if a=k then t.c*AP M i q+t.d*AP M k q else AP M a b) else AP M a b:=by
 unfold Jz;rw[Jj (S.set _ _ _) _ m j,Jj S _ l j];omega
theorem Ts(S:Shape n c M)(t:Tn)(l:i<c)(m:k<c)(h:i≠k)(j:q<n)(a b:Nat):AP (Jn i k t M q) a b=if a=q then(if b=i then t.a*AP M q i+t.b*AP M q k else if b=k then t.c*AP M q i+t.d*AP M q k else AP M a b) else AP M a b:=by
 unfold Jn;rw[Jj (S.set _ _ _) _ j m,Jj S _ j l];omega
theorem GC(S:Shape n c M)(t:Tn)(h:i<n)(j:k<n)(d:i≠k):∀q,q<=c->∀a b,AP (FH i k t M q) a b=if b<q then(if a=i then t.a*AP M i b+t.b*AP M k b else if a=k then t.c*AP M i b+t.d*AP M k b else AP M a b) else AP M a b
 | 0,_,a,b=>by rw[af Z];rfl
 | q+1,hq,a,b=>by
  have e:=GC S t h j d q Z;show AP (Jz i k t _ q) a b=_;rw[Vz (S.rows i k t q) t h j d Z,e i q,e k q,e a b];grind
theorem GM(S:Shape n c M)(t:Tn)(h:i<c)(j:k<c)(d:i≠k):∀q,q<=n->∀a b,AP (FL i k t M q) a b=if a<q then(if b=i then t.a*AP M a i+t.b*AP M a k else if b=k then t.c*AP M a i+t.d*AP M a k else AP M a b) else AP M a b
 | 0,_,a,b=>by rw[af Z];rfl
 | q+1,hq,a,b=>by
  have e:=GM S t h j d q Z;show AP (Jn i k t _ q) a b=_;rw[Ts (S.cols i k t q) t h j d Z,e q i,e q k,e a b];grind
def Bq(B:Nat)(n:Int):Prop:=n.natAbs<2^B
theorem Bq.mono{C:Nat}{n:Int}(h:Bq B n)(a:B<=C):Bq C n:=b7 h (dn H a)
theorem Bq.mul{C:Nat}(h:Bq B x)(a:Bq C y):Bq (B+C) (x*y):=by grind [Bq,jv,jx,Nat.mul_lt_mul'']
theorem Bq.add(h:Bq B x)(a:Bq B y):Bq (B+1) (x+y):=by grind [Bq,Int.natAbs_add_le,d7]
theorem Bq.neg(h:Bq B x):Bq B (-x):=by grind [Bq,Int.natAbs_neg]
theorem Bq.zero(B:Nat):Bq B 0:=jc H
def BqT(t:Tn):Prop:=Bq 32 t.a/\Bq 32 t.b/\Bq 32 t.c/\Bq 32 t.d
def BqM(B:Nat)(M:List (List Int)):Prop:=∀i j,Bq B (AP M i j)
theorem Bq.lin{a b:Int}(e:Bq 32 a)(f:Bq 32 b)(g:Bq B x)(h:Bq B y):Bq (B+33) (a*x+b*y):=by have d:=(e.mul g).add (f.mul h);grind
theorem BqM.rows(h:BqM B M)(S:Shape n c M){t:Tn}(d:BqT t)(f:i<n)(g:k<n)(e:i≠k)(j:q<=c):BqM (B+33) (FH i k t M q):=λa b=>by
 rw[GC S t f g e q j];split
 .split
  .exact Bq.lin d.1 d.2.1 (h _ _)<|h _ _
  .split
   .exact Bq.lin d.2.2.1 d.2.2.2 (h _ _)<|h _ _
   .exact(h a b).mono Z
 .exact(h a b).mono Z
theorem BqM.cols(h:BqM B M)(S:Shape n c M){t:Tn}(d:BqT t)(f:i<c)(g:k<c)(e:i≠k)(j:q<=n):BqM (B+33) (FL i k t M q):=λa b=>by
 rw[GM S t f g e q j];split
 .split
  .exact Bq.lin d.1 d.2.1 (h _ _)<|h _ _
  .split
   .exact Bq.lin d.2.2.1 d.2.2.2 (h _ _)<|h _ _
   .exact(h a b).mono Z
 .exact(h a b).mono Z
end Go.Sm
