/- A part of the proof. -/
import Derived.Test.YtmgaeedkcecckaaGreatDoorRA
import Derived.Scope
import Derived.RangeFuncLeaves
import Derived.RangeFuncRecord
import Derived.RangeFuncNested
import Derived.OrdersIn
import Derived.TacticsIn
import Derived.Shelf.GgSortFunc.InsertionK
import Derived.Laws.Strings
import Derived.Laws.BytesArg
set_option linter.unusedSimpArgs false
set_option linter.unusedVariables false
set_option linter.unusedSectionVars false
set_option maxRecDepth 100000
set_option maxHeartbeats 4000000
open List (length_map replicate range length_append nil_append length_take cons_append map_append mem_cons_self mem_cons_of_mem length_drop append_nil map_map map_cons length_set append_assoc flatMap_cons perm_append_comm mem_append_left mem_append_right)
namespace Go.Eng
open Go.RowKit
variable {n:Nat} {o:Oper} {l:List Oper} {a:Act} {w:World} {v:Value} {z:AE}
def WB(e:Entry)(ops:Array Oper)(Q:Exit->Act->World->Prop)(h0:Hp):Nat->Array Bool->AE->Hp->List Hp->Prop
  | 0,listed,s,h,ms=>Region.ready .any ops listed=[]/\NX e Q .normal s h ms
  | n+1,listed,s,h,ms=>(Region.ready .any ops listed=[]->NX e Q .normal s h ms)/\∀i∈Region.ready .any ops listed,∃o,ops[i]?=some o ∧
      WL e ops (λx a w=>x=.normal/\∃s' h' ms',Has e.n e.ds a s'/\e.Ends w h' ms'/\h0.le h'/\WB e ops Q h0 n (listed.setIfInBounds i true) s' h' ms') [o] s h ms
def HB(e:Entry)(ops:Array Oper)(Q:Exit->Act->World->Prop)(h0:Hp)(n:Nat)(listed:Array Bool)(a:Act)(w:World):Prop:=
 ∃s' h' ms',Has e.n e.ds a s'/\e.Ends w h' ms'/\h0.le h'/\WB e ops Q h0 n listed s' h' ms'
def QB(e:Entry)(ops:Array Oper)(Q:Exit->Act->World->Prop)(h0:Hp)(n:Nat)(listed:Array Bool):Exit->Act->World->Prop:=
 λx a w=>x=.normal/\HB e ops Q h0 n listed a w
theorem O6{e:Entry}{ops:Array Oper}{Q:Exit->Act->World->Prop}{h0:Hp}{listed:Array Bool}:¬LetsOut (QB e ops Q h0 n listed):=λh=>by simp[LetsOut,QB]at h
theorem HB.ext{e:Entry}{ops:Array Oper}{Q:Exit->Act->World->Prop}{h0:Hp}{listed:Array Bool}{w':World}(H:HB e ops Q h0 n listed a w)(he:Ext w w'):HB e ops Q h0 n listed a w':=by obtain⟨s',h',ms',g1,g2,g3,g4⟩:=H;exact⟨s',h',ms',g1,Ends.ext g2 he,g3,g4⟩
structure Aes(P:Program)(pu:List Nat)(ops:Array Oper)(s z:AE)(n:Nat)(h0:Hp):Prop where
 val:∀i o d,pu.contains i=true->ops[i]?=some o->o.dst=some d->∃v,lk z d=some v/\OX P o (z++s) h0 [] v
 only:∀t v,lk z t=some v->t<n/\∃i,pu.contains i=true/\Bo ops i=some t
section
variable {P:Program} {ops:Array Oper} {Q:Exit->Act->World->Prop}
theorem V6{s:AE}{h0:Hp}(hs:∀cs b,o.op≠.select cs b)(hl:∀t∈o.looksAt ops,∀u,lk s t=some u->a.tmps[t]?=some u)
  (k:OX P o s h0 [] v) (hw:St w h0 []):OpRes P o a.eval w (λv' w'=>v'=v/\Ext w w'):=by
 classical
 unfold OpRes;rw[execOp_congr (ρ:=a.eval) (ρ':=λx=>if x∈o.op.operands then a.eval x else(ev s x).getD undef) o hs (λx hx=>(ah hx).symm)];refine k _ w (λx u hu=>?_) hw;show(if x∈o.op.operands then a.eval x else(ev s x).getD undef)=u;split
 ·rename_i hx;cases x with
  | tmp t=>
   refine Act.eval_of_slot<|hl t ?_ u hu;exact eh _<|List.mem_filterMap.2 ⟨.tmp t,by simpa using hx,rfl⟩
  | const v=>cases hu;rfl
  | global g=>cases hu;rfl
  | func f=>cases hu;rfl
 ·rw[hu];rfl
theorem Oper.wp_sim'{K K':Act->World->Prop}{Qb:Exit->Act->World->Prop}(hq:∀x a w,Qb x a w->x=.normal)(hlo:¬LetsOut Qb)(hx:execOp (zA z a).eval o=execOp a.eval o)(hd:∀t,o.dst=some t->lk z t=none)(hK:∀b w v,b.tmps=(a.put o.dst v).tmps->K' (zA z b) w->K b w)
  (h:o.wp P (zA z a) w K' Qb):o.wp P a w K (Q0 Q):=by
 unfold Oper.wp at *;rw[hx]at h;generalize (execOp a.eval o).run P w=r at *;have hv:∀v w,K' ((zA z a).put o.dst v) w->K (a.put o.dst v) w:=λv w hh=>hK _ _ v Y (by rw[Kn hd];exact hh);cases r with
 | ok n w'=>
  cases n<;>simp only[Oper.upon]at h ⊢ <;>
   first
    | exact hv _ _ h
    | exact Calls.mono h (λe w'' he=>by
     cases e
     ·exact hv _ _ he
     ·exact ie (hq _ _ _ he) σ
     ·exact ie he hlo)
    | exact Rows.mono h<|λ_ _ he=>hv _ _ he
    | exact hK _ _ undef (by cases o.dst<;>rfl) (by rw[Kn hd];exact h)
 | halt x w'=>cases x<;>simp only[Oper.upon]at h ⊢<;>exact ie (hq _ _ _ h) σ
end
theorem AdC{e:Entry}{ops:Array Oper}{Q:Exit->Act->World->Prop}{h0:Hp}{pu:List Nat}{s:AE}{a0:Act}(ha0:Has e.n e.ds a0 s)(hp:POK pu ops)(hb:∀i o,ops[i]?=some o->∀e∈o.after,Region.binds .any e=true->e.on<i)(hz:Aes e.P pu ops s z e.n h0) :
  ∀fuel fuel' listed a w,Sim pu ops z a0 a listed->listed.size=ops.size->left listed<=fuel->HB e ops Q h0 fuel' (un pu listed) (zA z a) w->wpAny e.P .any ops (Q0 Q) fuel listed a w:=by
 -- all is listed
 have alldone:∀fuel' listed a w,Sim pu ops z a0 a listed->listed.size=ops.size->(∀j,j<ops.size->listed.getD j false=true)->HB e ops Q h0 fuel' (un pu listed) (zA z a) w->Region.ready .any ops listed=[]/\(Q0 Q) .normal a w:=by
  intro fuel' listed a w S hsz hall H
  have noready:∀l':Array Bool,(∀j,j<ops.size->l'.getD j false=true)->Region.ready .any ops l'=[]:=λl' hl'=>by
   cases hr:Region.ready .any ops l' with
   | nil=>rfl
   | cons x xs=>
    have hx:x∈Region.ready .any ops l':=by rw[hr];exact ax
    obtain⟨h0,o,ho,_⟩:=mem_ready.1 hx;have:=hl' x (cj.1 ho).1;have h2:=BO h0;rw[bp,h2]at this;cases this
  have hr':=noready (un pu listed) (λj hj=>by rw[TM _ _ _ _ ω,hall j hj];rfl)
  have hQ:(Q0 Q) .normal (zA z a) w:=by
   obtain⟨s',h',ms',g1,g2,g3,g4⟩:=H;cases fuel' with
   | zero=>exact⟨Y,g4.2 _ _ g1 g2⟩
   | succ f=>exact⟨Y,g4.1 hr' _ _ g1 g2⟩
  have hza:zA z a=a:=by
   refine OB ?_ Y;apply gq;intro t;rw[Hu];cases hl:lk z t with
   | none=>simp
   | some v=>
    obtain⟨hn,i,hi,hd⟩:=hz.only t v hl;have hlt:t<a.tmps.size:=by rw[S.size,ha0.size];exact hn
    rw[S.pure i hi (hall i (F7 hd)) t v hd hl hlt];rfl
  rw[hza]at hQ;exact⟨noready _ hall,hQ⟩
 have hall_of:∀listed:Array Bool,listed.size=ops.size->left listed=0->∀j,j<ops.size->listed.getD j false=true:=λlisted hsz h0 j hj=>by
  have h1:=NQ h0 j;have hjlt:j<listed.size:=ω
  rw[bp]at h1 ⊢;simp[hjlt]at h1 ⊢;exact h1
 intro fuel
 induction fuel with
 | zero=>
  intro fuel' listed a w S hsz hle H;exact alldone fuel' listed a w S hsz (hall_of listed hsz ω) H
 | succ fuel ih=>
  intro fuel' listed a w S hsz hle H;refine⟨λhr0=>?_,λi hir=>?_⟩
  ·-- nothing is ready: all is listed
   refine(alldone fuel' listed a w S hsz ?_ H).2;intro j
   induction j using Nat.strongRecOn with
   | _ j ihj=>
    intro hj;cases hl:listed.getD j false with
    | true=>rfl
    | false=>
     have ho:ops[j]?=some ops[j]:=by simp[hj]
     have:j∈Region.ready .any ops listed:=mem_ready.2 ⟨by
      have hjlt:j<listed.size:=ω
      rw[bp]at hl ⊢
      simp[hjlt]at hl ⊢;exact hl,_,ho,λed hed hbd=>by
       have:=hb j _ ho ed hed hbd
       exact ihj _ this ω⟩
     rw[hr0]at this;cases this
  ·obtain⟨hun,o,ho,hall⟩:=mem_ready.1 hir;have hilt:i<ops.size:=(cj.1 ho).1;have hdi:Bo ops i=o.dst:=by simp[Bo,ho]
   have hsel:∀cs b,o.op≠.select cs b:=λcs b=>Region.noSelect_spec hp.nosel i o cs b ho;have hls:=Mm (BO hun)
   have hset:∀j d,(listed.setIfInBounds i true).getD j d=if j=i then true else listed.getD j d:=λj d=>by
    by_cases hj:j=i
    ·subst hj;simp[show j<listed.size by omega]
    ·rw[getD_set_ne d (ft hj)];simp[hj]
   -- the slots of pure ones that are looked at stand
   have hpl:∀t∈o.looksAt ops,∀v,lk z t=some v->a.tmps[t]?=some v/\∃j,pu.contains j=true/\Bo ops j=some t:=λt ht v hv=>by
    obtain⟨hn,j,hj,hd⟩:=hz.only t v hv;refine⟨?_,j,hj,hd⟩;rcases hp.look i o t j ho ht hd with ⟨_,h2⟩|⟨h2,_⟩
    ·obtain⟨e,he,hbd,rfl⟩:=Is h2;exact S.pure _ hj (hall e he hbd) t v hd hv (by rw[S.size,ha0.size];exact hn)
    ·rw[hj]at h2;cases h2
   have hsame:∀t∈o.looksAt ops,(zA z a).tmps[t]?=a.tmps[t]?:=λt ht=>by
    rw[Hu];cases hl:lk z t with
    | none=>simp
    | some v=>rw[(hpl t ht v hl).1];rfl
   have hx:execOp (zA z a).eval o=execOp a.eval o:=execOp_congr o hsel λx hx=>by
    cases x with
    | tmp t=>
     have:=hsame t (eh _ (List.mem_filterMap.2 ⟨.tmp t,by simpa using hx,rfl⟩));simp only[Act.eval];rw[bp,this,<-bp]
    | const v=>rfl
    | global g=>rfl
    | func f=>rfl
   unfold wpOp;simp only[ho];cases hc:pu.contains i with
   | true=>
    obtain⟨hg,⟨d,hd⟩,huq⟩:=hp.plain i o ho hc;obtain⟨v,hv,hpx⟩:=hz.val i o d hc ho hd;have hw:Region.wanted o (yielded ops a.tmps)=true:=by unfold Region.wanted;rw[hg]
    rw[ah hw]
    have hst:St w h0 []:=by obtain⟨s',h',ms',g1,g2,g3,g4⟩:=H;exact⟨λg o e=>g2.st.imm g o (g3 g o e),λm hm=>by simp at hm,λm hm=>by simp at hm,List.Pairwise.nil⟩
    refine .inl<|OpRes.wp (Φ:=λv' w'=>v'=v/\Ext w w') ?_ ?_
    ·unfold OpRes;rw[<-hx];refine V6 (ops:=ops) hsel (λt ht u hu=>?_) hpx hst;rw[Dp]at hu;cases hl:lk z t with
     | some v'=>rw[hl]at hu;cases hu;rw[hsame t ht];exact(hpl t ht _ hl).1
     | none=>
      rw[hl]at hu;rw[hsame t ht,S.old t λj hj=>?_]
      ·exact ha0.slots t u hu
      ·rcases hp.look i o t j ho ht hj with ⟨h1,_⟩|⟨_,h2⟩
       ·obtain⟨oj,hoj⟩:∃oj,ops[j]?=some oj:=⟨ops[j]'(F7 hj),by simp[F7 hj]⟩
        have hdj:oj.dst=some t:=by simpa[Bo,hoj] using hj
        obtain⟨v',hv',_⟩:=hz.val j oj t h1 hoj hdj;rw[hl]at hv';cases hv'
       ·rcases h2 with h2|⟨oj,hoj,hed⟩
        ·rw[hc]at h2;cases h2
        ·cases hlj:listed.getD j false with
         | false=>rfl
         | true=>
          obtain⟨e,he,hbd,hon⟩:=Is hed;have h4:=S.closed j oj hlj hoj e he hbd;rw[hon,bp,BO hun]at h4;cases h4
    ·rintro v' w' ⟨rfl,hext⟩;show wpAny e.P .any ops (Q0 Q) fuel (listed.setIfInBounds i true) (a.put o.dst v') w';rw[hd];refine ih fuel' _ _ w' ⟨?_,?_,by simp[Act.put,S.size],S.closed.set hir⟩ (by simpa using hsz) ω (by rw[QX _ hc,Qr hv];exact H.ext hext)
     ·intro j hj hlj d' v' hd' hv' hlt;by_cases hji:j=i
      ·subst hji;rw[hdi,hd]at hd';cases hd';rw[hv]at hv';cases hv';simp only[Act.put];have:d<a.tmps.size:=by simpa[Act.put] using hlt
       simp[this]
      ·rw[hset]at hlj;simp only[hji,if_false]at hlj;have hne:d≠d':=λe'=>huq j hji d hd (by rw[hd',e']);simp only[Act.put,ei hne];exact S.pure j hj hlj d' v' hd' hv' (by simpa[Act.put] using hlt)
     ·intro t ht
      have hne:d≠t:=λe'=>by have:=ht i (by rw[hdi,hd,e']);rw[hset]at this;simp at this
      simp only[Act.put,ei hne]
      exact S.old t λj hj=>by
       have:=ht j hj;rw[hset]at this;by_cases hji:j=i
       ·simp[hji]at this
       ·simpa[hji] using this
   | false=>
    have hdz:∀t,o.dst=some t->lk z t=none:=λt ht=>by
     cases hl:lk z t with
     | none=>rfl
     | some v=>
      obtain⟨_,j,hj,hd⟩:=hz.only t v hl;have hji:j≠i:=λe'=>by rw[e',hc]at hj;cases hj
      obtain⟨oj,hoj⟩:∃oj,ops[j]?=some oj:=⟨ops[j]'(F7 hd),by simp[F7 hd]⟩
      obtain⟨_,_,huq⟩:=hp.plain j oj hoj hj;exact ie (by rw[hdi,ht])<|huq i (ft hji) t (by simpa[Bo,hoj] using hd)
    have hir':i∈Region.ready .any ops (un pu listed):=mem_ready.2 ⟨by rw[TM _ _ _ _ ω,hun,hc];rfl,o,ho,λe he hbd=>by
     have h1:=hb i o ho e he hbd
     rw[TM _ _ _ _ ω,hall e he hbd];rfl⟩
    obtain⟨s',h',ms',g1,g2,g3,g4⟩:=H;cases fuel' with
    | zero=>rw[g4.1]at hir';cases hir'
    | succ fuel'=>
     obtain⟨o',ho',HW⟩:=g4.2 i hir';rw[ho]at ho';cases ho';have H':=HW (zA z a) w g1 g2;unfold wpList at H';rw[<-AdE]at H'
     have hwant:Region.wanted o (yielded ops (zA z a).tmps)=Region.wanted o (yielded ops a.tmps):=by
      unfold Region.wanted;cases hg:o.guard with
      | none=>rfl
      | some p=>
       obtain⟨j,b⟩:=p
       have:yielded ops (zA z a).tmps j=yielded ops a.tmps j:=by
        unfold yielded;cases hd:(ops[j]?).bind (·.dst) with
        | none=>rfl
        | some t=>
         have ht:t∈o.looksAt ops:=by unfold Oper.looksAt;refine fg _ ?_;simp only[hg];rw[hd];simp
         simp[hd,hsame t ht]
       simp only[this]
     rw[hwant]at H'
     have hnext:∀b w v,b.tmps=(a.put o.dst v).tmps->QB e ops Q h0 fuel' (un pu (listed.setIfInBounds i true)) .normal (zA z b) w->wpAny e.P .any ops (Q0 Q) fuel (listed.setIfInBounds i true) b w:=λb w v hbt hh=>by
      have hbget:∀t,o.dst≠some t->b.tmps[t]?=a.tmps[t]?:=λt ht=>by
       rw[hbt];cases hd:o.dst with
       | none=>rfl
       | some d=>
        have:d≠t:=λe'=>ht (by rw[hd,e']);simp only[Act.put,ei this]
      have hbs:b.tmps.size=a.tmps.size:=by rw[hbt];cases o.dst<;>simp[Act.put]
      refine ih fuel' _ b w ⟨?_,?_,by rw[hbs,S.size],S.closed.set hir⟩ (by simpa using hsz) ω hh.2
      ·intro j hj hlj d' v' hd' hv' hlt;have hji:j≠i:=λe'=>by rw[e',hc]at hj;cases hj
       rw[hset]at hlj;simp only[hji,if_false]at hlj;have hne:o.dst≠some d':=λe'=>by rw[hdz d' e']at hv';cases hv'
       rw[hbget d' hne];exact S.pure j hj hlj d' v' hd' hv' (by rw[<-hbs];exact hlt)
      ·intro t ht
       rw[hbget t (λe'=>by
        have:=ht i (by rw[hdi,e'])
        rw[hset]at this;simp at this)]
       exact S.old t λj hj=>by
        have:=ht j hj;rw[hset]at this;by_cases hji:j=i
        ·simp[hji]at this
        ·simpa[hji] using this
     split
     ·rename_i hw;rw[ah hw]at H';rcases H' with H'|⟨_,H'⟩
      ·exact .inl<|Oper.wp_sim' (λx a w h=>h.1) O6 hx hdz hnext H'
      ·exact ie H' O6
     ·rename_i hw;rw[ae hw]at H';exact hnext _ _ undef Y (by rw[Kn hdz];exact H')
def Dd(P:Program)(l:List Oper)(n:Nat)(s:AE)(h0:Hp)(K:AE->Prop):List Nat->AE->Prop
 | [],z=>K z
 | i::r,z=>∃o d v,l[i]?=some o/\o.dst=some d/\d<n/\lk (z++s) d=none/\OX P o (z++s) h0 [] v/\Dd P l n s h0 K r ((d,v)::z)
theorem OX.mono_s{P:Program}{s:AE}{h:Hp}{ms:List Hp}{d:Nat}{u:Value}(k:OX P o s h ms v)(hd:lk s d=none):OX P o ((d,u)::s) h ms v:=λρ w hρ hw=>
 k ρ w (λx u' hx=>hρ x u' (by
  cases x with
  | tmp t=>
   have:d≠t:=λe=>by subst e;simp only[ev]at hx;rw[hd]at hx;cases hx
   simp only[ev]at hx ⊢;rw[BN _ _ this];exact hx
  | const v=>exact hx
  | global g=>exact hx
  | func f=>exact hx)) hw
theorem SH{P:Program}{s:AE}{h0:Hp}{K:AE->Prop}:∀(r done:List Nat) (z:AE),
    (∀i∈done,∀o d,l[i]?=some o->o.dst=some d->∃v,lk z d=some v/\OX P o (z++s) h0 [] v)->(∀t v,lk z t=some v->t<n/\∃i∈done,Bo l.toArray i=some t)->Dd P l n s h0 K r z →
    ∃zf,K zf/\(∀i,i∈done\/i∈r->∀o d,l[i]?=some o->o.dst=some d->∃v,lk zf d=some v/\OX P o (zf++s) h0 [] v)/\(∀t v,lk zf t=some v->t<n/\∃i,(i∈done\/i∈r)/\Bo l.toArray i=some t)
  | [],done,z,h1,h2,h3=>⟨z,h3,λi hi=>h1 i (hi.resolve_right σ),λt v hv=>by
      obtain⟨g1,i,g2,g3⟩:=h2 t v hv
      exact⟨g1,i,.inl g2,g3⟩⟩
  | j::r,done,z,h1,h2,⟨o,d,v,e1,e2,e3,e4,e5,e6⟩=>by
    have hzd:lk z d=none:=by
      rw[Dp]at e4;cases hl:lk z d with
      | none=>rfl
      | some u=>rw[hl]at e4;cases e4
    obtain⟨zf,g1,g2,g3⟩:=SH r (j::done) ((d,v)::z) (λi hi o' d' ho' hd'=>by
      rcases bg.1 hi with rfl|hi
      · rw[e1]at ho';cases ho';rw[e2]at hd';cases hd';exact⟨v,BG _ _ _,e5.mono_s e4⟩
      · obtain⟨v',f1,f2⟩:=h1 i hi o' d' ho' hd';refine⟨v',?_,f2.mono_s e4⟩;have:d≠d':=λe=>by subst e;rw[hzd]at f1;cases f1
        rw[BN _ _ this];exact f1) (λt u hu=>by
      by_cases hdt:d=t
      · subst hdt;exact⟨e3,j,by simp,by simp[Bo,e1,e2]⟩
      · rw[BN _ _ hdt]at hu;obtain⟨f1,i,f2,f3⟩:=h2 t u hu
        exact⟨f1,i,bi _ f2,f3⟩) e6
    refine⟨zf,g1,λi hi=>g2 i ?_,λt u hu=>?_⟩
    · rcases hi with hi|hi
      · exact .inl<|bi _ hi
      · rcases bg.1 hi with rfl|hi
        · exact .inl ax
        · exact .inr hi
    · obtain⟨f1,i,f2,f3⟩:=g3 t u hu;refine⟨f1,i,?_,f3⟩;rcases f2 with f2|f2
      · rcases bg.1 f2 with rfl|f2
        · exact .inr ax
        · exact .inl f2
      · exact .inr<|bi _ f2
theorem Aey{P:Program}{s:AE}{h0:Hp}{K:AE->Prop}{r:List Nat}{i d:Nat}(ho:l[i]?=some o)(hd:o.dst=some d)(hn:Nat.blt d n=true)(hf:lk (z++s) d=none)(hx:OX P o (z++s) h0 [] v)(k:Dd P l n s h0 K r ((d,v)::z)):Dd P l n s h0 K (i::r) z:=
 ⟨o,d,v,ho,hd,di hn,hf,hx,k⟩
section
variable {e:Entry} {ops:Array Oper} {Q:Exit->Act->World->Prop} {h0:Hp} {fuel:Nat} {listed:Array Bool} {s:AE} {h:Hp} {ms:List Hp}
theorem AcU(hl:h0.le h)(k:WB e ops Q h0 fuel listed s h ms):NX e (QB e ops Q h0 fuel listed) .normal s h ms:=λa w ha hw=>⟨rfl,s,h,ms,ha,hw,hl,k⟩
theorem Adx(hr:Region.ready .any ops listed=[])(k:NX e Q .normal s h ms):WB e ops Q h0 fuel listed s h ms:=by
 cases fuel with
 | zero=>exact⟨hr,k⟩
 | succ n=>exact⟨λ_=>k,λi hi=>by rw[hr]at hi;cases hi⟩
def WBl(e:Entry)(ops:Array Oper)(Q:Exit->Act->World->Prop)(h0:Hp)(fuel:Nat)(listed:Array Bool)(s:AE)(h:Hp)(ms:List Hp):List Nat->Prop
 | []=>True
 | i::l=>(∃o,ops[i]?=some o/\WL e ops (QB e ops Q h0 fuel (listed.setIfInBounds i true)) [o] s h ms)/\WBl e ops Q h0 fuel listed s h ms l
theorem WBl.get:∀(l:List Nat),WBl e ops Q h0 fuel listed s h ms l->∀i∈l,∃o,ops[i]?=some o/\WL e ops (QB e ops Q h0 fuel (listed.setIfInBounds i true)) [o] s h ms
 | [],_,i,hi=>by cases hi
 | j::l,H,i,hi=>by
  rcases bg.1 hi with rfl|hi
  ·exact H.1
  ·exact WBl.get l H.2 i hi
theorem A5:WBl e ops Q h0 fuel listed s h ms []:=ej
theorem AA{i:Nat}{l:List Nat}(ho:ops[i]?=some o)(k:WL e ops (QB e ops Q h0 fuel (listed.setIfInBounds i true)) [o] s h ms)(k':WBl e ops Q h0 fuel listed s h ms l):WBl e ops Q h0 fuel listed s h ms (i::l):=⟨⟨o,ho,k⟩,k'⟩
theorem A4(l:List Nat)(hr:Region.ready .any ops listed=l)(hne:l.isEmpty=false)(k:WBl e ops Q h0 fuel listed s h ms l):WB e ops Q h0 (fuel+1) listed s h ms:=
 ⟨λh0=>(by rw[hr]at h0;subst h0;cases hne),λi hi=>k.get l i (by rw[hr]at hi;exact hi)⟩
end
theorem Rb{e:Entry}{Q:Exit->Act->World->Prop}{s:AE}{h:Hp}{ms:List Hp}{bs:List Bool}(m:List Bool)(hpu:My (TK m 0) l.toArray=true)(hbk:JP l.toArray=true)(hn:l.length=n)
  (hbs:(range n).map (λi=>(TK m 0).contains i)=bs) (k:Dd e.P l e.n s h (λz=>WB e l.toArray Q h n bs.toArray (z++s) h ms) (TK m 0) []):∀a w,Has e.n e.ds a s->e.Ends w h ms->wpAny e.P .any l.toArray Q l.toArray.size (Array.replicate l.toArray.size false) a { w with drawn:=w.drawn+1 }:=by
 intro a w ha hw;obtain⟨z,kw,hz1,hz2⟩:=SH _ [] [] σ (λt v hv=>by cases hv) k;have PO:=Ss hpu;have HBk:=Pt hbk;have hmem:∀i,(TK m 0).contains i=true<->i∈TK m 0:=λi=>List.contains_iff_mem
 have hZ:Aes e.P (TK m 0) l.toArray s z e.n h:=⟨λi o d hi ho hd=>hz1 i (.inr ((hmem i).1 hi)) o d (by simpa using ho) hd,λt v hv=>by
  obtain⟨g1,i,g2,g3⟩:=hz2 t v hv
  exact⟨g1,i,(hmem i).2 (g2.resolve_left σ),g3⟩⟩
 have hsz:l.toArray.size=n:=by simpa using hn
 refine Aeh _ _ _ _ ?_
 refine AdC (h0:=h) ha PO HBk hZ _ n _ a _ ⟨λi _ hi=>(by rw[Cu]at hi;cases hi),λ_ _=>rfl,rfl,λi o hi=>(by rw[Cu]at hi;cases hi)⟩ σ (by
  unfold left;rw[Array.toList_replicate];exact bl (List.countP_le_length) σ) ?_
 have e1:un (TK m 0) (Array.replicate l.toArray.size false)=bs.toArray:=by
  apply gq;intro i;rw[<-hbs];rcases f6 i n with hi|hi
  ·simp[un,hsz,hi]
  ·simp[un];simp at hsz;rw[eq (by simpa using hi),Array.getElem?_eq_none (by simp;omega)];rfl
 rw[e1];refine⟨z++s,h,ms,⟨ha.defers,by simp[zA,ha.size],λt u hu=>?_⟩,Ends.drew hw,Hp.le_refl _,kw⟩;rw[Hu];rw[Dp]at hu;cases hl:lk z t with
 | some v=>
  rw[hl]at hu;cases hu;have hlt:t<a.tmps.size:=by rw[ha.size];exact(hz2 t _ hl).1
  simp[hlt]
 | none=>rw[hl]at hu;rw[ha.slots t u hu];rfl
theorem AS{e:Entry}{id:Nat}{Q:Exit->Act->World->Prop}{s:AE}{h:Hp}{ms:List Hp}{bs:List Bool}(m:List Bool)(hm:e.P.follows .mixedOrders=true)(hpu:My (TK m 0) l.toArray=true)(hbk:JP l.toArray=true)(hn:l.length=n)
  (hbs:(range n).map (λi=>(TK m 0).contains i)=bs) (k:Dd e.P l e.n s h (λz=>WB e l.toArray Q h n bs.toArray (z++s) h ms) (TK m 0) []):WS e (.region id l.toArray true) Q s h ms:=
 λa w ha hw=>wp_region_any hm (Rb m hpu hbk hn hbs k a w ha hw)
theorem Seg.all{h:Hp}{p:Addr}{cs:List Value}(S:Seg h [] p cs):∀i v,cs[i]?=some v->∀ms,Cell h ms (p.add i) v:=λi v hv ms=>(S i v hv).any
end Go.Eng
namespace Go.Eng
open Go.RowKit
def Acw(w:World):Hp:=λg=>w.heap[g]?
theorem Abp(w:World):(Acw w).inW w:=λ_ _ e=>e
theorem Vp{h:Hp}{w:World}(H:h.inW w):h.le (Acw w):=λg o e=>H g o e
theorem AaV(w:World):St w (Acw w) []:=⟨Abp w,λm hm=>by simp at hm,λm hm=>by simp at hm,List.Pairwise.nil⟩
theorem Oi{P:Program}{f:FuncId}{args:Array Value}{h:Hp}{ms:List Hp}{v:Value}(k:∀h',h.le h'->(∀m∈ms,m.le h')->FnV P f args h' [] v):FnV P f args h ms v:=λw hw=>
 k (Acw w) (Vp hw.imm) (λm hm=>Vp (hw.own m hm)) w (AaV w)
section
variable {P:Program} {o:Oper} {s:AE} {h:Hp} {ms:List Hp} {t u:TypeId} {x y:Operand} {a n:Nat}
theorem Abs(ho:o.op=.binOp .shr t x y u){k:IntKind}(hx:ev s x=some (.int .i64 a))(hy:ev s y=some (.int k n))(hn:n<=64):OX P o s h ms (.int .i64 ((a/2^n:Nat):Int)):=
 Bs λρ w hρ _=>by
  have h1:¬((n:Int)<0):=ω
  have h2:min n 64=n:=fu hn
  have h3:(a:Int).fdiv (2^n)=((a/2^n:Nat):Int):=by rw[Int.fdiv_eq_ediv_of_nonneg _ (Int.le_of_lt (Int.pow_pos δ))];simp
  simp[execOp,ho,hρ _ _ hx,hρ _ _ hy,Op.shift,h1,IntKind.bits,h2,h3,go_sem]
theorem Adn(ho:o.op=.binOp .and t x y u)(hx:ev s x=some (.int .i64 a))(hy:ev s y=some (.int .i64 1))(ha:a<9223372036854775808):OX P o s h ms (.int .i64 ((a%2:Nat):Int)):=
 Bs λρ w hρ _=>by
  have h3:IntKind.i64.wrap (((BitVec.ofNat 64 a) &&& (BitVec.ofNat 64 1)).toNat:Int)=((a%2:Nat):Int):=by rw[BitVec.toNat_and,BitVec.toNat_ofNat,BitVec.toNat_ofNat,db ω,db ω,Nat.and_one_is_mod];exact Ex ω
  simp[execOp,ho,hρ _ _ hx,hρ _ _ hy,Op.intBits,IntKind.bits,go_sem];exact h3
end
theorem Seg.ofLe{h:Hp}{g:Nat}{el:TypeId}{cs:List Value}(hl:(BI g el cs).le h):Seg h [] ⟨g,0,none⟩ cs:=λj u hu=>⟨by unfold Addr.add;split<;>rfl,cs.toArray,el,(0,0),.inl (by
 rw[CK]
 exact hl _ _<|Hp.one_self _ _),by rw[DN];simpa using hu⟩
theorem WW{h:Hp}{ms:List Hp}{v:Value}{sz n:Nat}{cs:List Value}(R:Rd h ms v sz n cs){i j:Nat}(hi:i<n):AH (CP sz v i j)=(AH v).add (i*sz):=by obtain⟨a,c,rfl,h1,h2,h3,h4⟩:=R.ex;obtain⟨q,rfl,_⟩:=h4 ω;unfold CP;simp only;rw[ae ω];rfl
section
open Go.Lin
variable {e:Entry} {Q:Exit->Act->World->Prop} {ops:Array Oper} {rest:List Oper} {o:Oper} {s:AE} {h:Hp} {ms:List Hp}
end
section
variable {P:Program} {o:Oper} {s:AE} {h:Hp} {ms:List Hp} {t el:TypeId} {x y lo hi:Operand} {v:Value} {sz n:Nat} {cs:List Value} {z:Value} {bytes:Nat} {k k':IntKind} {h1':Hp} {ms1':List Hp}
theorem Ba{i:Int}(j:Nat)(R:Rd h1' ms1' v sz n cs)(ho:o.op=.indexAddr t x y)(ht:P.underlying t=some (.slice el))(hs:Elem P el sz z bytes)(hx:ev s x=some v)(hy:ev s y=some (.int k i))(hi:i=(j:Int))(hlt:j<n):OX P o s h ms (.pointer (some ((AH v).add (j*sz)))):=by obtain⟨c,e,_⟩:=R.val ω;rw[e]at hx;exact Cf j ho ht hs hx hy hi hlt
theorem Lk(R:Rd h1' ms1' v sz n cs)(ho:o.op=.call { callee:=.builtin .len,args:=#[x],argTypes:=#[t] })(ht:P.underlying t=some (.slice el))(hx:ev s x=some v):OX P o s h ms (.int .i64 n):=by obtain⟨a,c,rfl,_⟩:=R.ex;exact D6 (ty:=t) ho ht hx
theorem OD{l r:Int}(i j:Nat)(R:Rd h1' ms1' v sz n cs)(ho:o.op=.slice t x (some lo) (some hi) none)(ht:P.underlying t=some (.slice el))(hs:Elem P el sz z bytes)(hx:ev s x=some v)(hlo:ev s lo=some (.int k l))(hhi:ev s hi=some (.int k' r))(el':l=(i:Int))(er:r=(j:Int))(h1:i<=j)(h2:j<=n) :
  OX P o s h ms (CP sz v i j):=by
 obtain⟨a,c,rfl,e2,e3,e4,e5⟩:=R.ex
 exact Bs λρ w hρ _=>by
  have g1:(0:Int)<=l/\l<=(j:Int):=ω
  have g2:(0:Int)<=r/\r<=(c:Int):=ω
  have g3:l.toNat=i:=ω
  have g4:r.toNat=j:=ω
  simp[execOp,ho,hρ _ _ hx,hρ _ _ hlo,hρ _ _ hhi,Instr.sliceAt,Instr.slice,run_underlying ht,Instr.sliceBounds,Instr.sliceBound,asIntOf,g1,g2,g3,g4,hs.sizeOf,CP]
theorem QR{l:Int}(i:Nat)(R:Rd h1' ms1' v sz n cs)(ho:o.op=.slice t x (some lo) none none)(ht:P.underlying t=some (.slice el))(hs:Elem P el sz z bytes)(hx:ev s x=some v)(hlo:ev s lo=some (.int k l))(el':l=(i:Int))(h1:i<=n) :
  OX P o s h ms (CP sz v i n):=by
 obtain⟨a,c,rfl,e2,e3,e4,e5⟩:=R.ex
 exact Bs λρ w hρ _=>by
  have g1:(0:Int)<=l/\l<=(n:Int):=ω
  have g3:l.toNat=i:=ω
  simp[execOp,ho,hρ _ _ hx,hρ _ _ hlo,Instr.sliceAt,Instr.slice,run_underlying ht,Instr.sliceBounds,Instr.sliceBound,asIntOf,g1,g3,hs.sizeOf,CP]
theorem Io{r:Int}(j:Nat)(R:Rd h1' ms1' v sz n cs)(ho:o.op=.slice t x none (some hi) none)(ht:P.underlying t=some (.slice el))(hs:Elem P el sz z bytes)(hx:ev s x=some v)(hhi:ev s hi=some (.int k r))(er:r=(j:Int))(h2:j<=n) :
  OX P o s h ms (CP sz v 0 j):=by
 obtain⟨a,c,rfl,e2,e3,e4,e5⟩:=R.ex
 exact Bs λρ w hρ _=>by
  have g2:(0:Int)<=r/\r<=(c:Int):=ω
  have g4:r.toNat=j:=ω
  simp[execOp,ho,hρ _ _ hx,hρ _ _ hhi,Instr.sliceAt,Instr.slice,run_underlying ht,Instr.sliceBounds,Instr.sliceBound,asIntOf,g2,g4,hs.sizeOf,CP]
end
section
variable {e:Entry} {Q:Exit->Act->World->Prop} {ops:Array Oper} {rest:List Oper} {s:AE} {h:Hp} {ms:List Hp} {c:Code} {a b:Hp}
theorem AcA(k:WS e c Q s h (b::a::ms)):WS e c Q s h (a::b::ms):=Pa (List.Perm.swap _ _ _) k
theorem Vg{x:Exit}(k:NX e Q x s h (b::a::ms)):NX e Q x s h (a::b::ms):=Iv (List.Perm.swap _ _ _) k
theorem Av{g:Nat}{el:TypeId}{cs:List Value}(i:Nat)(hm:ms[i]?=some (BI g el cs))(k:∀h',h.le h'->Seg h' [] ⟨g,0,none⟩ cs->WS e c Q s h' (ms.eraseIdx i)):WS e c Q s h ms:=
 Pa (Dz hm) (AF k)
theorem Ra{x:Exit}{g:Nat}{el:TypeId}{cs:List Value}(i:Nat)(hm:ms[i]?=some (BI g el cs))(k:∀h',h.le h'->Seg h' [] ⟨g,0,none⟩ cs->NX e Q x s h' (ms.eraseIdx i)):NX e Q x s h ms:=
 Iv (Dz hm) (λa w ha hw=>k _ (Hp.le_join _ _) (λj u hu=>⟨by unfold Addr.add;split<;>rfl,cs.toArray,el,(0,0),.inl (by
  rw[CK]
  exact(Hp.join_le_right (hw.st.off _ ax)) _ _ (Hp.one_self _ _)),by rw[DN];simpa using hu⟩) a w ha (Ends.freeze hw))
end
end Go.Eng
namespace Go.Eng
open Go.RowKit Go.Lin
theorem Gs(l:List Int):l.flatMap cI=l.map λx=>Value.int .i64 x:=by
 induction l with
 | nil=>rfl
 | cons a l ih=>rw[fc,ih];rfl
theorem mat_at?{r c:Nat}{f:Nat->Nat->Int}{k:Nat}(hk:k<r*c):(DW r c f)[k]?=some (f (k/c) (k%c)):=by unfold DW;rw[fk,List.getElem?_range hk];rfl
end Go.Eng
namespace Go.Eng
open Go.RowKit
variable {n l id t:Nat} {P:Program} {w:World} {a:Act} {next:Act->World->Prop} {y x c:Code} {args:Array Value} {post:Value->Hp->List Hp->Prop}
abbrev FR(l:Nat):Fence:=Fence.wide.inRound l
theorem QD{f:FuncId}{R:Ending->World->Prop}(h:Calls P f args w R):CallsIn (FR l) n P f args w R:=by have:=(callsIn_wide (n:=n)).2 h;exact this
theorem NH{row:String}{R:Value->World->Prop}(h:Rows P row args w R):RowsIn Fence.wide n P row args w R:=
 λc cs _=>let ⟨v,w',r,s⟩:=h c cs;⟨v,w',r,stepsIn_wide.2 s⟩
theorem AcJ{row:String}{R:Value->World->Prop}(h:Rows P row args w R):RowsIn (FR l) n P row args w R:=NH (n:=n) h
theorem Acp{o:Oper}{Q:Exit->Act->World->Prop}{r:Result Next}(h:o.upon P a next Q r):o.uponIn (FR l) n P a next Q r:=by
 have nod:(FR l).depth.isSome=true->1<=n:=λh=>by cases h
 cases r with
 | ok x w'=>
  cases x<;>simp only[Oper.upon]at h<;>simp only[Oper.uponIn] <;>
   first
    | exact h
    | exact⟨nod,(QD h).mono λe w he=>by cases e<;>exact he⟩
    | exact⟨nod,AcJ h⟩
    | exact h.elim
 | halt x w'=>cases x<;>simp only[Oper.upon]at h<;>simp only[Oper.uponIn]<;>exact h
theorem XJ{o:Oper}{Q:Exit->Act->World->Prop}{r:Result Next}(h:o.upon P a next Q r):o.uponIn Fence.wide n P a next Q r:=by
 have nod:Fence.wide.depth.isSome=true->1<=n:=λh=>by cases h
 cases r with
 | ok x w'=>
  cases x<;>simp only[Oper.upon]at h<;>simp only[Oper.uponIn] <;>
   first
    | exact h
    | exact⟨nod,(callsIn_wide.2 h).mono λe w he=>by cases e<;>exact he⟩
    | exact⟨nod,NH h⟩
    | exact h.elim
 | halt x w'=>cases x<;>simp only[Oper.upon]at h<;>simp only[Oper.uponIn]<;>exact h
theorem Ux{o:Oper}{Q:Exit->Act->World->Prop}(hd:∀c,o.op≠.defer c)(h:o.wp P a w next Q):o.wpIn (FR l) n P a w next Q:=
 ⟨λ_ _=>ej,by rw[Oper.semAt_eq _ _ _ hd];exact Acp h⟩
theorem V5{o:Oper}{Q:Exit->Act->World->Prop}(h:o.wp P a w next Q):o.wpIn Fence.wide n P a w next Q:=
 ⟨λ_ _=>ej,XJ h⟩
def Zx(o:Op):Bool:=match o with
 | .defer _=>true
 | _=>false
theorem Zl{o:Op}(h:Zx o=false)(c:Call):o≠.defer c:=λe=>by have h2:Zx (.defer c)=true:=rfl;rw[e,h2]at h;cases h
def Jd:List Oper->Bool
 | []=>true
 | o::l=>!Zx o.op&&Jd l
theorem Ji:∀{l:List Oper},Jd l=true->∀o∈l,∀c,o.op≠.defer c
 | [],_,o,ho,c=>by cases ho
 | o'::l,h,o,ho,c=>by
  simp only[Jd,dt,Bool.not_eq_true']at h;rcases bg.1 ho with rfl|ho
  ·exact Zl h.1 c
  ·exact Ji h.2 o ho c
theorem PE{k:Nat}{ops:Array Oper}{Q:Exit->Act->World->Prop}(hq:¬LetsOut Q):∀(l:List Oper),Jd l=true->∀a w,wpList P ops Q l a w->wpListIn (FR k) n P ops Q l a w
 | [],_,a,w,h=>h
 | o::l,hn,a,w,h=>by
  have hn2:Jd l=true:=by simp only[Jd,dt]at hn;exact hn.2
  have hd:=Ji hn o (ax);unfold wpList at h;unfold wpListIn;split at h
  ·rename_i hw;rw[ah hw];rcases h with h|h
   ·exact Oper.wpIn_mono (λa w=>PE hq l hn2 a w)<|Ux hd h
   ·exact ie h.2 hq
  ·rename_i hw;rw[ae hw];exact⟨λ_ _=>ej,PE hq l hn2 _ _ h⟩
theorem Aae{k:Nat}{l:List Oper}{Q:Exit->Act->World->Prop}(hq:¬LetsOut Q)(hn:Jd l=true):∀fuel listed a w,wpAny P .any l.toArray Q fuel listed a w->wpAnyIn (FR k) n P .any l.toArray Q fuel listed a w:=by
 intro fuel
 induction fuel with
 | zero=>intro listed a w h;exact h
 | succ fuel ih=>
  intro listed a w h;refine⟨h.1,λi hi=>?_⟩;have h2:=h.2 i hi;unfold wpOp at h2;unfold wpOpIn;cases ho:l.toArray[i]? with
  | none=>rw[ho]at h2;exact ih _ _ _ h2
  | some o=>
   rw[ho]at h2;simp only at h2 ⊢;split at h2
   ·rename_i hw;rw[ah hw];rcases h2 with h2|h2
    ·exact Oper.wpIn_mono (λa w=>ih _ a w)<|Ux (Ji hn o<|dy (by simpa using ho)) h2
    ·exact ie h2.2 hq
   ·rename_i hw;rw[ae hw];exact⟨λ_ _=>ej,ih _ _ _ h2⟩
def LoopAt(e:Entry)(l:Nat):Prop:=(∃r,e.w0.heap[l]?=some (.loop r))/\∀m∈e.ms0,m l=none
theorem LoopAt.of{e:Entry}{r:Loop}{rest:List Hp}(h:St e.w0 e.h0 (e.ms0++Hp.one l (.loop r)::rest)):LoopAt e l:=
 ⟨⟨r,h.own _ σ l _ (Hp.one_self _ _)⟩,λm hm=>by
  rcases h.frame_off _ (ax) m hm l with h|h
  ·exact h
  ·rw[Hp.one_self]at h;cases h⟩
def RS(e:Entry)(c:Code)(Q:Exit->Act->World->Prop)(s:AE)(h:Hp)(ms:List Hp):Prop:=
 ∀l,LoopAt e l->∀a w,Has e.n e.ds a s->e.Ends w h ms->¬LetsOut Q->c.wpIn (FR l) 0 e.P Q a w
def cR(e:Entry)(y:Code)(Q:Exit->Act->World->Prop)(a:Act)(w:World):Prop:=∀l,LoopAt e l->¬LetsOut Q->y.wpIn (FR l) 0 e.P Q a w
section
variable {e:Entry} {Q:Exit->Act->World->Prop} {s s':AE} {h:Hp} {ms:List Hp} {ops:Array Oper}
theorem Df(k:RS e x (Exit.then (cR e y Q) Q) s h ms):RS e (.seq x y) Q s h ms:=λl hl0 a w ha hw hq=>
 wpIn_seq (wpIn_mono (k l hl0 a w ha hw λ⟨a,w,h⟩=>hq ⟨a,w,h⟩) λx a w q=>by
  cases x with
  | normal=>exact q l hl0 hq
  | _=>exact q)
theorem B5(k:RS e y Q s h ms):NX e (Exit.then (cR e y Q) Q) .normal s h ms:=λa w ha hw l hl0 hq=>k l hl0 a w ha hw hq
theorem Eh(k:RS e c (Exit.inBlock id Q) s h ms):RS e (.block id c) Q s h ms:=
 λl hl0 a w ha hw hq=>wpIn_block (k l hl0 a w ha hw λ⟨a,w,h⟩=>hq ⟨a,w,h⟩)
theorem Vy(k:NX e Q (.exit id) s h ms):RS e (.exit id) Q s h ms:=λl hl0 a w ha hw _=>wpIn_exit (k a w ha hw)
theorem Aea(k:NX e Q .ret s h ms):RS e .ret Q s h ms:=λl hl0 a w ha hw _=>wpIn_ret (k a w ha hw)
theorem Ho(k:NX e Q .normal s h ms):RS e .skip Q s h ms:=λl hl0 a w ha hw _=>wpIn_skip (k a w ha hw)
theorem AbT{b:Bool}(hc:lk s t=some (.bool b))(kt:b=true->RS e x Q s h ms)(kf:b=false->RS e y Q s h ms):RS e (.cond (.tmp t) x y) Q s h ms:=
 λl hl0 a w ha hw hq=>wpIn_cond_split (ha.eval (.tmp t) _ hc) (λhb=>kt hb l hl0 a w ha hw hq) (λhb=>kf hb l hl0 a w ha hw hq)
theorem Ly{p:Prop}{_:Decidable p}(hc:lk s t=some (.bool (decide p)))(kt:p->RS e x Q s h ms)(kf:¬p->RS e y Q s h ms):RS e (.cond (.tmp t) x y) Q s h ms:=
 AbT hc (λhb=>kt (dq hb)) (λhb=>kf (of_decide_eq_false hb))
theorem Be{l:List Oper}(hn:Jd l=true)(k:WL e l.toArray Q l s h ms):RS e (.region id l.toArray false) Q s h ms:=
 λ_ _ a w ha hw hq=>wpIn_region_lit (PE hq l hn a w (k a w ha hw))
theorem JS{l:List Oper}{bs:List Bool}(m:List Bool)(hm:e.P.follows .mixedOrders=true)(hpu:My (TK m 0) l.toArray=true)(hbk:JP l.toArray=true)(hn:l.length=n)
  (hbs:(range n).map (λi=>(TK m 0).contains i)=bs) (hnd:Jd l=true) (k:Dd e.P l e.n s h (λz=>WB e l.toArray Q h n bs.toArray (z++s) h ms) (TK m 0) []):RS e (.region id l.toArray true) Q s h ms:=
 λ_ _ a w ha hw hq=>wpIn_region_any hm (Aae hq hnd _ _ _ _ (Rb m hpu hbk hn hbs k a w ha hw))
theorem AbH(I:Nat->AE->Hp->List Hp->Prop)(n:Nat)(s':AE)(hI:I n s' h ms)(hs:Sub s' s)
  (round:∀n s h ms,I n s h ms->RS e c (Exit.then (λa w=>∃n',n'<n/\Inv e (I n') a w) Q) s h ms):RS e (.loop c) Q s h ms:=by
 intro l hl0 a w ha hw hq b k cs hro hb hr
 have key:∀n a w,Inv e (I n) a w->∃x a' w',Q x a' w'/\ArrivesIn (Machine.fenced e.P (FR l)) e.P (lone (b.atR a (.code c::.inLoop c::k)) cs w) b k cs x a' w':=by
  intro n
  induction n using Nat.strongRecOn with
  | _ n ih=>
   intro a w ⟨s,h,ms,hI,ha,hw⟩;obtain⟨x,a₁,w₁,hq1,harr⟩:=round n s h ms hI l hl0 a w ha hw (λ⟨a,w,h⟩=>hq ⟨a,w,h⟩) b (.inLoop c::k) cs hro hb hr;cases x with
   | normal=>
    obtain⟨n',hlt,hinv⟩:=hq1;obtain⟨x₂,a₂,w₂,hq₂,harr₂⟩:=ih n' hlt a₁ w₁ hinv;exact⟨x₂,a₂,w₂,hq₂,.of_steps (StepsIn.trans harr (.one (fenced_calm hb hr Y) stepR_inLoop)) harr₂⟩
   | exit id=>exact⟨_,a₁,w₁,hq1,.pass (x:=.inLoop c) Y (λ_ _=>.inl σ) harr⟩
   | goto l=>exact⟨_,a₁,w₁,hq1,.pass (x:=.inLoop c) Y (λ_ _=>.inl σ) harr⟩
   | ret=>exact⟨_,a₁,w₁,hq1,.pass (x:=.inLoop c) Y (λ_ _=>.inl σ) harr⟩
   | panic ch=>exact⟨_,a₁,w₁,hq1,.pass (x:=.inLoop c) Y (λ_ _=>.inl σ) harr⟩
   | outgrown=>exact⟨_,a₁,w₁,hq1,.pass (x:=.inLoop c) Y (λ_ _=>.inl σ) harr⟩
 obtain⟨x,a',w',hq,harr⟩:=key n a w ⟨s',h,ms,hI,ha.sub hs,hw⟩;exact⟨x,a',w',hq,.of_steps (.one (fenced_calm hb hr Y) stepR_loop) harr⟩
end
abbrev SS(e:Entry)(I:AE->Hp->List Hp->Prop):Exit->Act->World->Prop:=Exit.then (Inv e I) (λ_ _ _=>False)
theorem Ht{e:Entry}{I:AE->Hp->List Hp->Prop}:¬LetsOut (SS e I):=λ⟨_,_,h⟩=>h
def YdT(P:Program)(l:Nat)(args:Array Value)(h:Hp)(ms:List Hp)(post:Value->Hp->List Hp->Prop):Prop:=
 ∀w,St w h ms->∃fn tmps assign body,(Instr.yield l args).run P w=.ok (.round l fn tmps assign body) w/\RoundIn Fence.wide 0 P l fn tmps assign body w (RP w h ms post)
def IL(e:Entry)(ops:Array Oper)(Q:Exit->Act->World->Prop)(l:List Oper)(s:AE)(h:Hp)(ms:List Hp):Prop:=
 ∀a w,Has e.n e.ds a s->e.Ends w h ms->wpListIn Fence.wide 0 e.P ops Q l a w
section
variable {e:Entry} {Q:Exit->Act->World->Prop} {s:AE} {h:Hp} {ms:List Hp} {ops:Array Oper} {o:Oper} {rest:List Oper}
theorem Bw{l:List Oper}(k:IL e l.toArray Q l s h ms):WS e (.region id l.toArray false) Q s h ms:=
 λa w ha hw=>wpIn_wide.1 (wpIn_region_lit (k a w ha hw))
theorem CJ(k:NX e Q .normal s h ms):IL e ops Q [] s h ms:=λa w ha hw=>k a w ha hw
theorem BR{d:Nat}{v:Value}(hx:OX e.P o s h ms v)(hd:o.dst=some d)(hn:Nat.blt d e.n=true)(hg:o.guard=none)(k:IL e ops Q rest ((d,v)::s) h ms):IL e ops Q (o::rest) s h ms:=λa w ha hw=>by unfold wpListIn;rw[ah (by simp[Region.wanted,hg])];refine V5 ((hx a.eval w ha.eval hw.st).wp λv' w' ⟨e1,e2⟩=>?_);subst e1;rw[hd];exact k _ _ (ha.put (di hn) _)<|hw.ext e2
theorem Ka{x:Operand}{lp:Nat}{l:List Operand}{ts:Array TypeId}{vs:List Value}{d:Nat}(ho:o.op=.call { callee:=.value x,args:=l.toArray,argTypes:=ts })(hx:ev s x=some (.func (.yield lp) #[] #[]))(ha:Sh s l=some vs)(k:YdT e.P lp vs.toArray h ms post)(hd:o.dst=some d)(hn:Nat.blt d e.n=true)(hg:o.guard=none)
  (K:∀v h' ms',h.le h'->post v h' ms'->IL e ops Q rest ((d,v)::s) h' ms'):IL e ops Q (o::rest) s h ms:=λa w hA hw=>by
 unfold wpListIn;rw[ah (by simp[Region.wanted,hg])];obtain⟨fn,tmps,assign,body,hy,hr⟩:=k w hw.st
 have hrun:(execOp a.eval o).run e.P w=.ok (.round lp fn tmps assign body) w:=by simp[execOp,ho,resolve,hA.eval _ _ hx,Deferred.ofValue,invoke,(show Evs s a.eval from hA.eval).map l vs ha,hy]
 refine⟨λ_ _=>ej,?_⟩;rw[Oper.semAt_eq _ _ _ (λc e=>by rw[ho]at e;cases e),hrun];refine⟨(λh=>by cases h),hr.mono λx w' ⟨r,h',ms',e1,e2,e3⟩=>?_⟩;subst e1;show wpListIn _ _ _ _ _ _ (a.put o.dst r) w';rw[hd];refine K r h' ms' e2.le e3 _ _ (hA.put (di hn) _) ?_;have:=Ends.call (fr:=[]) (by rw[d6];exact hw) e2
 rwa [d6]at this
end
def Itr(P:Program)(gf:FuncId)(lb:List Value)(h:Hp)(N:Nat)(enc:Nat->List Value):Prop:=
 ∀(lp:Nat) (X:Nat->Hp->List Hp->Prop) (h1:Hp) (ms:List Hp),h.le h1->(∀k h2 ms2,k<N->h1.le h2->X k h2 ms2->YdT P lp (enc k).toArray h2 ms2 (λr h' ms'=>r=.bool true/\X (k+1) h' ms'))->X 0 h1 ms →
  FnT P gf ([Value.func (.yield lp) #[] #[]]++lb).toArray h1 ms (λ_ h' ms'=>X N h' ms')
def Lx:List Nat->List Value->AE->AE
 | p::ps,v::vs,s=>Lx ps vs ((p,v)::s)
 | _,_,s=>s
theorem JU{ds:List Nat}{D:List Deferred}(hD:D=mkD ds):∀(ps:List Nat) (vs:List Value) (s:AE) (t:Array Value),(∀p∈ps,p<n)->Has n ds { tmps:=t,defers:=D } s->Has n ds { tmps:=(ps.zip vs).foldl (λt (p,v)=>t.setIfInBounds p v) t,defers:=D } (Lx ps vs s)
 | [],vs,s,t,_,H=>by cases vs<;>exact H
 | p::ps,[],s,t,_,H=>H
 | p::ps,v::vs,s,t,hp,H=>by show Has n ds { tmps:=(ps.zip vs).foldl (λt (p,v)=>t.setIfInBounds p v) (t.setIfInBounds p v),defers:=D } (Lx ps vs ((p,v)::s));exact JU hD ps vs _ _ (λq hq=>hp q<|bi _ hq)<|H.put (hp p ax) v
def Mk(D:Nat):Hp:=Hp.one D (.deferred (some []))
theorem Ends.putL{w0:World}{h0 h:Hp}{ms0 ms:List Hp}{o:Obj}(o':Obj)(H:Ends w0 h0 ms0 w h (Hp.one l o::ms)):Ends w0 h0 ms0 (w.putObj l o') h (Hp.one l o'::ms):=by have hl:w.heap[l]?=some o:=H.st.own _ (ax) l o (Hp.one_self l o);have hlt:=(cj.1 hl).1;exact H.change Y ⟨Y,am _⟩ Y σ (World.putObj_heap_same hlt) λk _ hk=>World.putObj_heap_other hk
theorem FG{e:Entry}{Q:Exit->Act->World->Prop}{s:AE}{h:Hp}{ms:List Hp}{gf:Nat}{lb:List Value}{ps:List Nat}{assign body:Code}(J:Nat->Hp->List Hp->Prop)(A:Nat->AE->Hp->List Hp->Prop){N:Nat}{enc:Nat->List Value}
  (hg:lk s t=some (.func (.func gf) #[] lb.toArray)) (hc:∀az w,(callFunc gf az).run e.P w=.ok (.enter gf az) w) (hit:Itr e.P gf lb h N enc) (hps:∀k,(enc k).length=ps.length) (hpn:ps.all (λp=>Nat.blt p e.n)=true)
  (h0:J 0 h ms)
  (hA:∀w0 k h1 ms1,k<N->h.le h1->J k h1 ms1->RS ⟨e.P,w0,h1,ms1,e.n,[]⟩ assign (SS ⟨e.P,w0,h1,ms1,e.n,[]⟩ (A k)) (Lx ps (enc k) s) h1 ms1)
  (hB:∀w0 k s1 h1 ms1,k<N->h.le h1->A k s1 h1 ms1->RS ⟨e.P,w0,h1,ms1,e.n,[]⟩ body (SS ⟨e.P,w0,h1,ms1,e.n,[]⟩ (λ_=>J (k+1))) s1 h1 ms1)
  (hK:∀D h1 ms1,h.le h1->J N h1 ms1->NX ⟨e.P,e.w0,e.h0,e.ms0,e.n,D::e.ds⟩ Q .normal s h1 (ms1++[Mk D])) :
  WS e (.rangeFunc (.tmp t) ps.toArray assign body) Q s h ms:=by
 intro a w ha hw;refine(wpIn_wide (n:=0)).1 (wpIn_rangeFunc λfn _=>?_);have hge:a.eval (.tmp t)=.func (.func gf) #[] lb.toArray:=ha.eval (.tmp t) _ hg;obtain⟨rec,hrec⟩:∃rec:LoopState->Loop,rec=λst=>{ state:=st,pending:=none,fn,tmps:=a.tmps,params:=ps.toArray,assign,body,defers:=w.heap.size }:=⟨_,Y⟩
 obtain⟨l,hl⟩:∃l,l=w.heap.size+1:=⟨_,Y⟩
 obtain⟨W1,hW1⟩:∃W1,(w.alloc (.deferred (some []))).alloc (.loop (rec .ready))=W1:=⟨_,Y⟩
 have hE1:e.Ends W1 h (ms++[Hp.one l (.loop (rec .ready)),Mk w.heap.size]):=by
  have h2:=(hw.alloc (.deferred (some []))).alloc (.loop (rec .ready));rw[World.size_alloc,<-hl,hW1]at h2
  exact h2.perm (by
   refine List.Perm.trans ?_ df
   exact fo _)
 have hN:w.heap.size=w.heap.size:=rfl;refine⟨l,[{ target:=.collected w.heap.size,args:=#[] }],W1,{ target:=.fn (.func gf) lb.toArray,args:=#[.func (.yield l) #[] #[]] },W1,gf,([Value.func (.yield l) #[] #[]]++lb).toArray,W1,?_,?_,λ_ _=>ej,?_,(λh=>by cases h),?_⟩
 ·rw[<-hW1,hrec,hl];exact run_enterLoop_outer _ _ _ _ _
 ·simp only[resolve,hge];simp[go_sem]
 ·simp[invoke,go_sem,hc]
 ·refine(callsIn_wide (n:=0)).2 ((hit l (λk h1 ms1=>h.le h1/\∃ms2,ms1=ms2++[Hp.one l (.loop (rec .ready)),Mk w.heap.size]/\J k h1 ms2) h _ (Hp.le_refl _) ?_ ⟨Hp.le_refl _,ms,Y,h0⟩ W1 hE1.st).mono ?_)
  ·-- a round
   rintro k h2 ms2 hkN hl2 ⟨_,ms2,rfl,hJ⟩ w2 hS2;have hlo:w2.heap[l]?=some (.loop (rec .ready)):=hS2.own _ σ l _ (Hp.one_self _ _);have hy:=run_yield (P:=e.P) (args:=(enc k).toArray) hlo (by rw[hrec];simpa using hps k);refine⟨_,_,_,_,hy,?_⟩;have r1:(rec .ready).params=ps.toArray:=by rw[hrec]
   have r2:(rec .ready).tmps=a.tmps:=by rw[hrec]
   have r3:(rec .ready).assign=assign:=by rw[hrec]
   have r4:(rec .ready).body=body:=by rw[hrec]
   rw[r1,r2,r3,r4];refine roundIn_of_wpIn ej ?_;have hSp:St w2 h2 ms2:=hS2.pre
   have hHas:Has e.n [] { tmps:=(ps.toArray.zip (enc k).toArray).foldl (λt (p,v)=>t.setIfInBounds p v) a.tmps,defers:=[] } (Lx ps (enc k) s):=by
    have e1:(ps.toArray.zip (enc k).toArray).foldl (λt (p,v)=>t.setIfInBounds p v) a.tmps=(ps.zip (enc k)).foldl (λt (p,v)=>t.setIfInBounds p v) a.tmps:=by simp
    rw[e1];exact JU Y ps (enc k) s a.tmps (λp hp=>di<|d7.1 hpn p hp) ⟨Y,ha.size,ha.slots⟩
   refine wpIn_mono (hA w2 k h2 ms2 hkN hl2 hJ l (LoopAt.of (r:=rec .ready) (rest:=[Mk w.heap.size]) hS2) _ w2 hHas (Ends.refl hSp) Ht) ?_;intro x a1 w3 hx;cases x with
   | normal=>
    obtain⟨s3,h3,ms3,hA3,hHas3,hE3⟩:=hx;have hEf:Ends w2 h2 (ms2++[Hp.one l (.loop (rec .ready)),Mk w.heap.size]) w3 h3 (ms3++[Hp.one l (.loop (rec .ready)),Mk w.heap.size]):=Ends.call (Ends.refl hS2) hE3;have hEp:=hEf.perm (ms':=Hp.one l (.loop (rec .ready))::Mk w.heap.size::ms3) df;have hl3:w3.heap[l]?=some (.loop (rec .ready)):=hEp.st.own _ (ax) l _ (Hp.one_self _ _);have hE4:=Ends.putL (.loop (rec .busy)) hEp;refine⟨_,run_beginRound hl3 (by rw[hrec]),?_⟩;have e2:({ rec .ready with state:=.busy }:Loop)=rec .busy:=by rw[hrec]
    rw[e2];have hE4':=hE4.perm (ms':=ms3++[Hp.one l (.loop (rec .busy)),Mk w.heap.size]) (df (l₁:=[_,_]));refine wpIn_mono (hB _ k s3 h3 ms3 hkN (Hp.le_trans hl2 hE3.le) hA3 l (LoopAt.of (r:=rec .busy) (rest:=[Mk w.heap.size]) hE4'.st) a1 _ hHas3 (Ends.refl hE4'.st.pre) Ht) ?_;intro y a2 w5 hy5;cases y with
    | normal=>
     obtain⟨s5,h5,ms5,hJ5,_,hE5⟩:=hy5;have hE6:=Ends.call hE4' hE5;have hE6p:=hE6.perm (ms':=Hp.one l (.loop (rec .busy))::Mk w.heap.size::ms5) df;have hl6:w5.heap[l]?=some (.loop (rec .busy)):=hE6p.st.own _ (ax) l _ (Hp.one_self _ _);refine⟨_,_,run_endRound none hl6,?_⟩;have e3:({ rec .busy with state:=if(none:Option Code).isNone then .ready else .done,pending:=none }:Loop)=rec .ready:=by rw[hrec];rfl
     rw[e3];exact⟨_,h5,_,Y,(Ends.putL (.loop (rec .ready)) hE6p).perm (df (l₁:=[_,_])),Y,Hp.le_trans hl2 (Hp.le_trans hE3.le hE5.le),ms5,Y,hJ5⟩
    | _=>exact hy5.elim
   | _=>exact hx
  ·rintro x w3 ⟨r,h3,ms3,rfl,hE3,hl3,ms4,rfl,hJ⟩;have hE4:=Ends.call (fr:=[]) (by rw[d6];exact hE1) hE3;rw[d6]at hE4;have hE5:=hE4.perm (ms':=Hp.one l (.loop (rec .ready))::Mk w.heap.size::ms4) df;have hl5:w3.heap[l]?=some (.loop (rec .ready)):=hE5.st.own _ (ax) l _ (Hp.one_self _ _);refine⟨_,_,run_endLoop hl5 (by rw[hrec];simp),?_⟩;have e4:(rec .ready).pending=none:=by rw[hrec]
   rw[e4];exact hK w.heap.size h3 ms4 hl3 hJ { a with defers:=[{ target:=.collected w.heap.size,args:=#[] }]++a.defers } _ ⟨by show [_]++a.defers=_;rw[ha.defers];rfl,ha.size,ha.slots⟩ ((Ends.putL _ hE5).drop.perm<|df (l₁:=[_]))
theorem Px{e:Entry}{Q:Exit->Act->World->Prop}{s:AE}{h:Hp}{ms:List Hp}{gf:Nat}{lb:List Value}{ps:List Nat}{assign body:Code}(J:Nat->Hp->List Hp->Prop)(A:Nat->AE->Hp->List Hp->Prop){N:Nat}{enc:Nat->List Value}
  (hg:lk s t=some (.func (.func gf) #[] lb.toArray)) (hc:∀az w,(callFunc gf az).run e.P w=.ok (.enter gf az) w) (hit:Itr e.P gf lb h N enc) (hps:∀k,(enc k).length=ps.length) (hpn:ps.all (λp=>Nat.blt p e.n)=true)
  (h0:J 0 h ms)
  (hA:∀w0 k h1 ms1,k<N->h.le h1->J k h1 ms1->RS ⟨e.P,w0,h1,ms1,e.n,[]⟩ assign (SS ⟨e.P,w0,h1,ms1,e.n,[]⟩ (A k)) (Lx ps (enc k) s) h1 ms1)
  (hB:∀w0 k s1 h1 ms1,k<N->h.le h1->A k s1 h1 ms1->RS ⟨e.P,w0,h1,ms1,e.n,[]⟩ body (SS ⟨e.P,w0,h1,ms1,e.n,[]⟩ (λ_=>J (k+1))) s1 h1 ms1)
  (hK:∀h1 ms1,h.le h1->J N h1 ms1->NX e Q .normal s h1 ms1) :
  RS e (.rangeFunc (.tmp t) ps.toArray assign body) Q s h ms:=by
 intro l0 hl0 a w ha hw hq;obtain⟨⟨r0,hr0⟩,hm0⟩:=hl0;have hlw:w.heap[l0]?=some (.loop r0):=by rw[hw.block l0 (cj.1 hr0).1 hm0,hr0]
 refine wpIn_rangeFunc λfn _=>?_;have hge:a.eval (.tmp t)=.func (.func gf) #[] lb.toArray:=ha.eval (.tmp t) _ hg;obtain⟨rec,hrec⟩:∃rec:LoopState->Loop,rec=λst=>{ state:=st,pending:=none,fn,tmps:=a.tmps,params:=ps.toArray,assign,body,defers:=r0.defers }:=⟨_,Y⟩
 obtain⟨l,hl⟩:∃l,l=w.heap.size:=⟨_,Y⟩
 obtain⟨W1,hW1⟩:∃W1,w.alloc (.loop (rec .ready))=W1:=⟨_,Y⟩
 have hE1:e.Ends W1 h (ms++[Hp.one l (.loop (rec .ready))]):=by
  have h2:=hw.alloc (.loop (rec .ready));rw[<-hl,hW1]at h2
  exact h2.perm (by
   refine List.Perm.trans ?_ df
   exact fo _)
 have hN:w.heap.size=w.heap.size:=rfl;refine⟨l,[],W1,{ target:=.fn (.func gf) lb.toArray,args:=#[.func (.yield l) #[] #[]] },W1,gf,([Value.func (.yield l) #[] #[]]++lb).toArray,W1,?_,?_,λ_ _=>ej,?_,(λh=>by cases h),?_⟩
 ·rw[<-hW1,hrec,hl];exact run_enterLoop_inner hlw _ _ _ _ _
 ·simp only[resolve,hge];simp[go_sem]
 ·simp[invoke,go_sem,hc]
 ·refine QD ((hit l (λk h1 ms1=>h.le h1/\∃ms2,ms1=ms2++[Hp.one l (.loop (rec .ready))]/\J k h1 ms2) h _ (Hp.le_refl _) ?_ ⟨Hp.le_refl _,ms,Y,h0⟩ W1 hE1.st).mono ?_)
  ·-- a round
   rintro k h2 ms2 hkN hl2 ⟨_,ms2,rfl,hJ⟩ w2 hS2;have hlo:w2.heap[l]?=some (.loop (rec .ready)):=hS2.own _ σ l _ (Hp.one_self _ _);have hy:=run_yield (P:=e.P) (args:=(enc k).toArray) hlo (by rw[hrec];simpa using hps k);refine⟨_,_,_,_,hy,?_⟩;have r1:(rec .ready).params=ps.toArray:=by rw[hrec]
   have r2:(rec .ready).tmps=a.tmps:=by rw[hrec]
   have r3:(rec .ready).assign=assign:=by rw[hrec]
   have r4:(rec .ready).body=body:=by rw[hrec]
   rw[r1,r2,r3,r4];refine roundIn_of_wpIn ej ?_;have hSp:St w2 h2 ms2:=hS2.pre
   have hHas:Has e.n [] { tmps:=(ps.toArray.zip (enc k).toArray).foldl (λt (p,v)=>t.setIfInBounds p v) a.tmps,defers:=[] } (Lx ps (enc k) s):=by
    have e1:(ps.toArray.zip (enc k).toArray).foldl (λt (p,v)=>t.setIfInBounds p v) a.tmps=(ps.zip (enc k)).foldl (λt (p,v)=>t.setIfInBounds p v) a.tmps:=by simp
    rw[e1];exact JU Y ps (enc k) s a.tmps (λp hp=>di<|d7.1 hpn p hp) ⟨Y,ha.size,ha.slots⟩
   refine wpIn_mono (hA w2 k h2 ms2 hkN hl2 hJ l (LoopAt.of (r:=rec .ready) (rest:=[]) hS2) _ w2 hHas (Ends.refl hSp) Ht) ?_;intro x a1 w3 hx;cases x with
   | normal=>
    obtain⟨s3,h3,ms3,hA3,hHas3,hE3⟩:=hx;have hEf:Ends w2 h2 (ms2++[Hp.one l (.loop (rec .ready))]) w3 h3 (ms3++[Hp.one l (.loop (rec .ready))]):=Ends.call (Ends.refl hS2) hE3;have hEp:=hEf.perm (ms':=Hp.one l (.loop (rec .ready))::ms3) df;have hl3:w3.heap[l]?=some (.loop (rec .ready)):=hEp.st.own _ (ax) l _ (Hp.one_self _ _);have hE4:=Ends.putL (.loop (rec .busy)) hEp;refine⟨_,run_beginRound hl3 (by rw[hrec]),?_⟩;have e2:({ rec .ready with state:=.busy }:Loop)=rec .busy:=by rw[hrec]
    rw[e2];have hE4':=hE4.perm (ms':=ms3++[Hp.one l (.loop (rec .busy))]) (df (l₁:=[_]));refine wpIn_mono (hB _ k s3 h3 ms3 hkN (Hp.le_trans hl2 hE3.le) hA3 l (LoopAt.of (r:=rec .busy) (rest:=[]) hE4'.st) a1 _ hHas3 (Ends.refl hE4'.st.pre) Ht) ?_;intro y a2 w5 hy5;cases y with
    | normal=>
     obtain⟨s5,h5,ms5,hJ5,_,hE5⟩:=hy5;have hE6:=Ends.call hE4' hE5;have hE6p:=hE6.perm (ms':=Hp.one l (.loop (rec .busy))::ms5) df;have hl6:w5.heap[l]?=some (.loop (rec .busy)):=hE6p.st.own _ (ax) l _ (Hp.one_self _ _);refine⟨_,_,run_endRound none hl6,?_⟩;have e3:({ rec .busy with state:=if(none:Option Code).isNone then .ready else .done,pending:=none }:Loop)=rec .ready:=by rw[hrec];rfl
     rw[e3];exact⟨_,h5,_,Y,(Ends.putL (.loop (rec .ready)) hE6p).perm (df (l₁:=[_])),Y,Hp.le_trans hl2 (Hp.le_trans hE3.le hE5.le),ms5,Y,hJ5⟩
    | _=>exact hy5.elim
   | _=>exact hx
  ·rintro x w3 ⟨r,h3,ms3,rfl,hE3,hl3,ms4,rfl,hJ⟩;have hE4:=Ends.call (fr:=[]) (by rw[d6];exact hE1) hE3;rw[d6]at hE4;have hE5:=hE4.perm (ms':=Hp.one l (.loop (rec .ready))::ms4) df;have hl5:w3.heap[l]?=some (.loop (rec .ready)):=hE5.st.own _ (ax) l _ (Hp.one_self _ _);refine⟨_,_,run_endLoop hl5 (by rw[hrec];simp),?_⟩;have e4:(rec .ready).pending=none:=by rw[hrec]
   rw[e4];exact hK h3 ms4 hl3 hJ { a with defers:=[]++a.defers } _ ⟨ha.defers,ha.size,ha.slots⟩ (Ends.putL _ hE5).drop
theorem E7{f:FuncId}{fn:Func}{l:List Value}{h:Hp}{ms:List Hp}
  (hf:P.funcs[f]?=some fn) (hn:fn.ntmps=n) (hb:fn.body=some c) (hl:Nat.ble l.length n=true)
  (k:∀w0,St w0 h ms->WS ⟨P,w0,h,ms,n,[]⟩ c (bodyPostM Fence.wide 0 P fn (RP w0 h ms post)) (AR 0 l) h ms):FnT P f l.toArray h ms post:=by
 intro w hw;refine(callsIn_wide (n:=0)).1 (callsIn_of_wp_marks hf hb ej (wpIn_wide.2 (k w hw _ w ?_ (Ends.refl hw))));have hl':=di hl;refine⟨Y,by simp[hn];omega,λi v e=>?_⟩;obtain⟨_,h2⟩:=Uz l 0 i v e
 have hi:i<l.length:=by
  rcases f6 i l.length with h'|h'
  ·exact h'
  ·rw[eq ω]at h2;cases h2
 simp only[Nat.sub_zero]at h2;rw[Array.getElem?_append_left (by simpa using hi)];simpa using h2
theorem FI{w0:World}{h0:Hp}{ms0:List Hp}{D:Nat}{fn:Func}{s:AE}{h:Hp}{ms:List Hp}{x:Exit}(i:Nat)(hx:x=.normal\/x=.ret)(hm:ms[i]?=some (Mk D))(k:NX ⟨P,w0,h0,ms0,n,[]⟩ (bodyPost P fn (RP w0 h0 ms0 post)) x s h (ms.eraseIdx i)) :
  NX ⟨P,w0,h0,ms0,n,[D]⟩ (bodyPostM Fence.wide 0 P fn (RP w0 h0 ms0 post)) x s h ms:=by
 intro a w ha hw;have hp:=hw.perm (Dz hm);have hD:w.heap[D]?=some (.deferred (some [])):=hp.st.own _ (ax) D _ (Hp.one_self _ _);have hE:=(Ends.putL (.deferred none) hp).drop;have hb:=k { a with defers:=[] } _ ⟨Y,ha.size,ha.slots⟩ hE;have hd:a.defers=[{ target:=.collected D,args:=#[] }]:=ha.defers
 have goal:LeavesInM Fence.wide 0 P fn a.tmps (RP w0 h0 ms0 post) a.defers .returning w:=by rw[hd];refine⟨by simp,.inl ⟨D,_,rfl,run_takeDeferred hD,?_⟩⟩;rcases hx with rfl|rfl<;>· obtain⟨_,v,hr,hR⟩:=hb;exact⟨v,hr,hR⟩
 rcases hx with rfl|rfl<;>exact goal
end Go.Eng
namespace Go.Eng
open Go.RowKit
variable {f:Nat->Hp} {N l:Nat} {m a b:Hp} {R:Nat->Hp->Prop}
def D7(f:Nat->Hp):Nat->Hp
 | 0=>Hp.emp
 | n+1=>(D7 f n).join (f n)
def HV(f:Nat->Hp)(l:Nat)(m:Hp):Nat->Hp:=λk=>if k=l then m else f k
theorem Cz(f:Nat->Hp)(l:Nat)(m:Hp):HV f l m l=m:=ah rfl
theorem Cp(f:Nat->Hp){k:Nat}(m:Hp)(h:k≠l):HV f l m k=f k:=ae h
theorem joinN_none{g:Nat}:∀{n:Nat},D7 f n g=none<->∀i,i<n->f i g=none
 | 0=>⟨λ_ i h=>ω,λ_=>rfl⟩
 | n+1=>by
  show(match D7 f n g with|some o=>some o|none=>f n g)=none<->_;cases h:D7 f n g with
  | some o=>
   constructor
   ·intro e;cases e
   ·intro e;have:=(joinN_none (n:=n)).2 λi hi=>e i ω;rw[h]at this;cases this
  | none=>
   constructor
   ·intro e i hi;rcases (ω:i<n\/i=n) with h2|rfl
    ·exact joinN_none.1 h i h2
    ·exact e
   ·intro e;exact e n ω
def Dj(N:Nat)(f:Nat->Hp):Prop:=∀i j,i<N->j<N->i≠j->(f i).disj (f j)
theorem EY{g:Nat}{o:Obj}:∀{n:Nat},Dj n f->∀{l:Nat},l<n->f l g=some o->D7 f n g=some o
 | n+1,hd,l,hl,e=>by
  show(match D7 f n g with|some o=>some o|none=>f n g)=some o;rcases (ω:l<n\/l=n) with h|rfl
  ·rw[EY (λi j hi hj=>hd i j ω ω) h e]
  ·have:D7 f l g=none:=joinN_none.2 λi hi=>by
    rcases hd i l ω ω ω g with h|h
    ·exact h
    ·rw[h]at e;cases e
   rw[this];exact e
theorem Dj.upd(h:Dj N f)(l:Nat):Dj N (HV f l Hp.emp):=λi j hi hj hne g=>by
 by_cases h1:i=l
 ·subst h1;left;rw[Cz];rfl
 ·by_cases h2:j=l
  ·subst h2;right;rw[Cz];rfl
  ·rw[Cp f _ h1,Cp f _ h2];exact h i j hi hj hne g
theorem Mz(hd:Dj N f)(hl:l<N):D7 f N=(f l).join (D7 (HV f l Hp.emp) N)/\(f l).disj (D7 (HV f l Hp.emp) N):=by
 have key:∀g,f l g≠none->D7 (HV f l Hp.emp) N g=none:=λg hg=>joinN_none.2 λi hi=>by
  by_cases h:i=l
  ·subst h;rw[Cz];rfl
  ·rw[Cp f _ h];rcases hd i l hi hl h g with h2|h2
   ·exact h2
   ·exact ie h2 hg
 constructor
 ·funext g;show _=match f l g with|some o=>some o|none=>D7 (HV f l Hp.emp) N g
  cases h:f l g with
  | some o=>exact EY hd hl h
  | none=>
   show D7 f N g=D7 (HV f l Hp.emp) N g;cases h2:D7 (HV f l Hp.emp) N g with
   | none=>
    refine joinN_none.2 λi hi=>?_;by_cases h3:i=l
    ·subst h3;exact h
    ·have:=joinN_none.1 h2 i hi
     rwa [Cp f _ h3]at this
   | some o=>
    have:∃i,i<N/\HV f l Hp.emp i g≠none:=aq λhc=>by have:=(joinN_none (f:=HV f l Hp.emp) (g:=g) (n:=N)).2 λi hi=>aq λhn=>hc ⟨i,hi,hn⟩;rw[h2]at this;cases this
    obtain⟨i,hi,hne⟩:=this;obtain⟨o',ho'⟩:=Hp.ne_none hne;have:=EY (hd.upd l) hi ho';rw[h2]at this;cases this;have hil:i≠l:=λhe=>by subst he;rw[Cz]at ho';cases ho'
    rw[Cp f _ hil]at ho';exact EY hd hi ho'
 ·intro g;by_cases h:f l g=none
  ·exact .inl h
  ·exact .inr<|key g h
def Bag(N:Nat)(R:Nat->Hp->Prop)(m:Hp):Prop:=∃f:Nat->Hp,Dj N f/\m=D7 f N/\∀l,l<N->R l (f l)
theorem Bag.zero(R:Nat->Hp->Prop):Bag 0 R Hp.emp:=⟨λ_=>Hp.emp,λi j h=>ω,rfl,λl h=>ω⟩
theorem Bag.mono{R':Nat->Hp->Prop}(B:Bag N R m)(h:∀l,l<N->∀x,R l x->R' l x):Bag N R' m:=
 let ⟨f,h1,h2,h3⟩:=B
 ⟨f,h1,h2,λl hl=>h l hl _ (h3 l hl)⟩
theorem Hp.disj_of_join{c:Hp}(h:a.disj (b.join c)):a.disj b/\a.disj c:=by have h':=Hp.disj_symm h;exact⟨Hp.disj_symm (Hp.disj_left h'),Hp.disj_symm (Hp.disj_right h')⟩
theorem disj_joinN{n:Nat}:m.disj (D7 f n)<->∀i,i<n->m.disj (f i):=by
 constructor
 ·intro h i hi g;rcases h g with h1|h1
  ·exact .inl h1
  ·exact .inr<|joinN_none.1 h1 i hi
 ·intro h g;by_cases hg:m g=none
  ·exact .inl hg
  ·refine .inr<|joinN_none.2 λi hi=>?_;rcases h i hi g with h1|h1
   ·exact ie h1 hg
   ·exact h1
theorem H9{f':Nat->Hp}:∀{n:Nat},(∀i,i<n->f i=f' i)->D7 f n=D7 f' n
 | 0,_=>rfl
 | n+1,h=>by show(D7 f n).join (f n)=(D7 f' n).join (f' n);rw[H9 λi hi=>h i ω,h n ω]
theorem Bag.snoc{x:Hp}(B:Bag N R m)(hx:R N x)(hd:m.disj x):Bag (N+1) R (m.join x):=by
 obtain⟨f,h1,rfl,h3⟩:=B;have hc:D7 (HV f N x) N=D7 f N:=H9 λi hi=>Cp f x ω;refine⟨HV f N x,λi j hi hj hne=>?_,?_,λl hl=>?_⟩
 ·have hd':=disj_joinN.1 (Hp.disj_symm hd);rcases (ω:i<N\/i=N) with h|rfl
  ·rw[Cp f x (ω:i≠N)];rcases (ω:j<N\/j=N) with h2|rfl
   ·rw[Cp f x (ω:j≠N)];exact h1 i j h h2 hne
   ·rw[Cz];exact Hp.disj_symm<|hd' i h
  ·rw[Cz,Cp f x (ω:j≠i)];exact hd' j ω
 ·show _=(D7 (HV f N x) N).join (HV f N x N);rw[hc,Cz]
 ·rcases (ω:l<N\/l=N) with h|rfl
  ·rw[Cp f x ω];exact h3 l h
  ·rw[Cz];exact hx
theorem Bag.open(B:Bag N R m)(hl:l<N):∃m1 m2,m=m1.join m2/\m1.disj m2/\R l m1/\(∀k,k<N->k≠l->∃x,x.le m2/\R k x) ∧
  ∀(R':Nat->Hp->Prop) m1',m1'.disj m2->R' l m1'->(∀k,k<N->k≠l->∀x,R k x->R' k x)->Bag N R' (m1'.join m2):=by
 obtain⟨f,h1,rfl,h3⟩:=B;obtain⟨e1,e2⟩:=Mz h1 hl;refine⟨f l,_,e1,e2,h3 l hl,λk hk hne=>⟨f k,λg o ho=>?_,h3 k hk⟩,λR' m1' hd hR hk=>⟨HV f l m1',?_,?_,λk hkN=>?_⟩⟩
 ·exact EY (h1.upd l) hk (by rw[Cp f _ hne];exact ho)
 ·have hd':=disj_joinN.1 hd;intro i j hi hj hne;by_cases hil:i=l
  ·subst hil;rw[Cz,Cp f _ (ft hne)];have:=hd' j hj
   rwa [Cp f _ (ft hne)]at this
  ·rw[Cp f _ hil];by_cases hjl:j=l
   ·subst hjl;rw[Cz];have:=hd' i hi;rw[Cp f _ hil]at this;exact Hp.disj_symm this
   ·rw[Cp f _ hjl];exact h1 i j hi hj hne
 ·have hD:Dj N (HV f l m1'):=by
   have hd':=disj_joinN.1 hd;intro i j hi hj hne;by_cases hil:i=l
   ·subst hil;rw[Cz,Cp f _ (ft hne)];have:=hd' j hj
    rwa [Cp f _ (ft hne)]at this
   ·rw[Cp f _ hil];by_cases hjl:j=l
    ·subst hjl;rw[Cz];have:=hd' i hi;rw[Cp f _ hil]at this;exact Hp.disj_symm this
    ·rw[Cp f _ hjl];exact h1 i j hi hj hne
  have:=(Mz hD hl).1;rw[Cz]at this;rw[this];congr 1;refine H9 λi _=>?_;by_cases hil:i=l
  ·subst hil;rw[Cz,Cz]
  ·rw[Cp _ _ hil,Cp _ _ hil,Cp _ _ hil]
 ·by_cases hkl:k=l
  ·subst hkl;rw[Cz];exact hR
  ·rw[Cp f _ hkl];exact hk k hkN hkl _<|h3 k hkN
theorem Bag.all(B:Bag N R m):∀k,k<N->∃x,x.le m/\R k x:=λk hk=>by obtain⟨f,h1,rfl,h3⟩:=B;exact⟨f k,λg o ho=>EY h1 hk ho,h3 k hk⟩
def Nq:Hp->List Hp->Hp
 | h,[]=>h
 | h,m::ms=>Nq (h.join m) ms
theorem St.freezeL{w:World}:∀{fr:List Hp} {h:Hp} {pre:List Hp},St w h (pre++fr)->St w (Nq h fr) pre
 | [],h,pre,s=>by show St w h pre;simpa using s
 | m::fr,h,pre,s=>by have h1:St w h (m::(pre++fr)):=(Ends.perm (Ends.refl s) List.perm_middle).st;show St w (Nq (h.join m) fr) pre;exact St.freezeL (Ends.freeze<|Ends.refl h1).st
theorem JE:∀{fr:List Hp} {h:Hp},h.le (Nq h fr)
 | [],h=>Hp.le_refl _
 | m::fr,h=>Hp.le_trans (Hp.le_join h m) JE
theorem LK:∀{fr:List Hp} {h:Hp},(∀m∈fr,m.disj h)->fr.Pairwise Hp.disj->∀m∈fr,m.le (Nq h fr)
 | m'::fr,h,hd,hp,m,hm=>by
  have hp':=b7.1 hp;rcases bg.1 hm with rfl|hm
  ·exact Hp.le_trans (Hp.join_le_right<|hd _ ax) JE
  ·refine LK (h:=h.join m') (λm hm=>?_) hp'.2 m hm;refine Hp.disj_symm<|Hp.disj_join (Hp.disj_symm<|hd m<|bi _ hm)<|hp'.1 m hm
theorem Yi{P:Program}{f:FuncId}{args:Array Value}{h:Hp}{pre fr:List Hp}{post:Value->List Hp->Prop}(k:∀h',h.le h'->(∀m∈fr,m.le h')->FnT P f args h' pre (λr _ ms'=>post r ms')):FnT P f args h (pre++fr) (λr h2 ms2=>h=h2/\∃ms',ms2=ms'++fr/\post r ms'):=λw hw=>by
 have hap:=fh.1 hw.apart;refine((k (Nq h fr) JE (LK (λm hm=>hw.off m (fg _ hm)) hap.2.1)) w hw.freezeL).mono λx w' ⟨r,h',ms',e1,e2,e3⟩=>⟨r,h,ms'++fr,e1,?_,Y,ms',Y,e3⟩
 -- what was frozen is owned again
 have hin:∀m∈fr,m.le h':=λm hm=>Hp.le_trans (LK (λm hm=>hw.off m (fg _ hm)) hap.2.1 m hm) e2.le;have hle:h.le h':=Hp.le_trans JE e2.le
 have hoff:∀m∈ms',∀m' ,m'.le h'->m.disj m':=λm hm m' hl g=>by
  rcases e2.st.off m hm g with h1|h1
  ·exact .inl h1
  ·refine .inr ?_;cases h2:m' g with
   | none=>rfl
   | some o=>rw[hl g o h2]at h1;cases h1
 refine⟨⟨λg o ho=>e2.st.imm g o (hle g o ho),λm hm=>?_,λm hm=>?_,?_⟩,e2.os,e2.tape,e2.output,e2.size,λk hk hn=>?_,Hp.le_refl _,λ_ _ _=>rfl,λm hm k hk hne=>?_⟩
 ·rcases bj.1 hm with hm|hm
  ·exact e2.st.own m hm
  ·exact λg o ho=>e2.st.imm g o<|hin m hm g o ho
 ·rcases bj.1 hm with hm|hm
  ·exact hoff m hm h hle
  ·exact hw.off m<|fg _ hm
 ·exact fh.2 ⟨e2.st.apart,hap.2.1,λm hm m' hm'=>hoff m hm m'<|hin m' hm'⟩
 ·exact e2.block k hk λm hm=>hn m<|eh _ hm
 ·rcases bj.1 hm with hm|hm
  ·obtain⟨m0,h1,h2⟩:=e2.mnew m hm k hk hne;exact⟨m0,eh _ h1,h2⟩
  ·exact⟨m,fg _ hm,hne⟩
theorem Hp.le_joinl:a.le (a.join b):=Hp.le_join a b
theorem Hp.join_emp(a:Hp):a.join Hp.emp=a:=by funext g;show(match a g with|some o=>some o|none=>none)=a g;cases a g<;>rfl
theorem Hp.emp_join(a:Hp):Hp.emp.join a=a:=rfl
theorem Hp.join_assoc(a b c:Hp):(a.join b).join c=a.join (b.join c):=by funext g;show(match (match a g with|some o=>some o|none=>b g) with|some o=>some o|none=>c g)=(match a g with|some o=>some o|none=>(match b g with|some o=>some o|none=>c g));cases a g<;>rfl
theorem Hp.join_comm(h:a.disj b):a.join b=b.join a:=by
 funext g;show(match a g with|some o=>some o|none=>b g)=(match b g with|some o=>some o|none=>a g);rcases h g with h|h<;>rw[h]
 ·cases b g<;>rfl
 ·cases a g<;>rfl
theorem Cs{α:Type}{F:α->List Value}{e:Entry}{Q:Exit->Act->World->Prop}{ops:Array Oper}{rest:List Oper}{o:Oper}{s:AE}{h:Hp}{ms:List Hp}{t el:TypeId}{sz d:Nat}{z:Value}{bytes:Nat}{x y:Operand}{v u:Value}{l r:List α}(i:Nat)(O:OwnL F sz el m v l)(R:RdL F sz h ms u r)(ho:o.op=.call { callee:=.builtin .append,args:=#[x,y],argTypes:=#[t,t] })(ht:e.P.underlying t=some (.slice el))(hs:Elem e.P el sz z bytes)(hzs:z.cells.size=sz)(hsz:0<sz)
  (hx:ev s x=some v) (hy:ev s y=some u) (hm:ms[i]?=some m) (h1:∀a∈r,∀c∈F a,c.oneCell'=true) (hb:(l.length+r.length)*bytes<=140737488355328) (hb63:l.length+r.length<=9223372036854775807) (hd:o.dst=some d) (hn:Nat.blt d e.n=true) (hg:o.guard=none)
  (K:∀v' m',OwnL F sz el m' v' (l++r)->WL e ops Q rest ((d,v')::s) h (ms.set i m')):WL e ops Q (o::rest) s h ms:=
 Oe i ho ht hs hzs hsz hx hy hm O.own R.rd (λc hc=>by obtain⟨a,hm',ha⟩:=List.mem_flatMap.1 hc;exact h1 a hm' c ha) hb hb63 hd hn hg λv' m' O'=>K v' m' ⟨by rw[af,dx];exact O',O.len⟩
end Go.Eng

namespace Go.Eng
open Go.RowKit
def Goes(ms ms':List Hp):Prop:=∀w0 h0 ms0 w h,Ends w0 h0 ms0 w h ms->Ends w0 h0 ms0 w h ms'
theorem Goes.perm{a b:List Hp}(h:a.Perm b):Goes a b:=λ_ _ _ _ _ x=>x.perm h
variable {c:Code}
def Hp.minus(h m:Hp):Hp:=λg=>match m g with|some _=>none|none=>h g
theorem Hp.minus_le(h m:Hp):(h.minus m).le h:=λg o e=>by
 unfold Hp.minus at e;split at e
 ·cases e
 ·exact e
theorem Hp.le_minus{a h m:Hp}(hl:a.le h)(hd:a.disj m):a.le (h.minus m):=λg o e=>by
 unfold Hp.minus;rcases hd g with h1|h1
 ·rw[h1]at e;cases e
 ·rw[h1];exact hl g o e
theorem Hp.minus_disj(h m:Hp):m.disj (h.minus m):=λg=>by
 unfold Hp.minus;cases hm:m g with
 | none=>exact .inl Y
 | some o=>exact .inr Y
def Aaf(e:Entry)(m:Hp):Prop:=e.h0.disj m/\∀k,k<e.w0.heap.size->m k≠none->∃m0∈e.ms0,m0 k≠none
theorem Ae1{e:Entry}{w:World}{h:Hp}{ms:List Hp}{m:Hp}(H:e.Ends w h (m::ms)):m.disj h/\Aaf e m:=
 ⟨H.st.off m ax,And.intro (λg=>by
  rcases H.st.off m ax g with h1|h1
  ·exact .inr h1
  ·left
   cases h2:e.h0 g with
   | none=>rfl
   | some o=>have:=H.le g o h2;rw[h1]at this;cases this) λk hk hne=>H.mnew m ax k hk hne⟩
theorem back{e:Entry}{w:World}{h:Hp}{ms:List Hp}{m:Hp}(L:Aaf e m)(hm:m.le h)(H:e.Ends w h ms):e.Ends w (h.minus m) (m::ms):=by
 refine⟨⟨λg o ho=>H.st.imm g o (Hp.minus_le h m g o ho),λx hx=>?_,λx hx=>?_,?_⟩,H.os,H.tape,H.output,H.size,H.block,Hp.le_minus H.le L.1,λk hk hn=>?_,λx hx k hk hne=>?_⟩
 ·rcases bg.1 hx with rfl|hx
  ·exact λg o ho=>H.st.imm g o<|hm g o ho
  ·exact H.st.own x hx
 ·rcases bg.1 hx with rfl|hx
  ·exact Hp.minus_disj h x
  ·intro g;rcases H.st.off x hx g with h1|h1
   ·exact .inl h1
   ·right
    cases h2:h.minus m g with
    | none=>rfl
    | some o=>rw[Hp.minus_le h m g o h2]at h1;cases h1
 ·refine b7.2 ⟨λx hx g=>?_,H.st.apart⟩;rcases H.st.off x hx g with h1|h1
  ·exact .inr h1
  ·left
   cases h2:m g with
   | none=>rfl
   | some o=>rw[hm g o h2]at h1;cases h1
 ·have h1:=H.hnew k hk hn;unfold Hp.minus;cases h2:m k with
  | none=>exact h1
  | some o=>
   obtain⟨m0,hm0,hne⟩:=L.2 k hk (by rw[h2];simp);exact ie (hn m0 hm0) hne
 ·rcases bg.1 hx with rfl|hx
  ·exact L.2 k hk hne
  ·exact H.mnew x hx k hk hne
section
variable {e:Entry} {Q:Exit->Act->World->Prop} {s:AE} {h:Hp} {ms:List Hp} {m:Hp}
theorem EG(i:Nat){m:Hp}(hm:ms[i]?=some m)(k:WS e c Q s h (m::ms.eraseIdx i)):WS e c Q s h ms:=Pa (Dz hm) k
theorem Es{x:Exit}(i:Nat){m:Hp}(hm:ms[i]?=some m)(k:NX e Q x s h (m::ms.eraseIdx i)):NX e Q x s h ms:=Iv (Dz hm) k
theorem Vl(k:∀h1,h.le h1->m.le h1->h.disj m->Aaf e m->WS e c Q s h1 ms):WS e c Q s h (m::ms):=λa w ha hw=>
 let l:=Ae1 hw
 k _ (Hp.le_join h m) (Hp.join_le_right l.1) (Hp.disj_symm l.1) l.2 a w ha (Ends.freeze hw)
theorem JD(k:∀h1,h.le h1->m.le h1->h.disj m->Aaf e m->RS e c Q s h1 ms):RS e c Q s h (m::ms):=λr hl0 a w ha hw=>
 let l:=Ae1 hw
 k _ (Hp.le_join h m) (Hp.join_le_right l.1) (Hp.disj_symm l.1) l.2 r hl0 a w ha (Ends.freeze hw)
theorem VH(L:Aaf e m)(hm:m.le h)(k:∀h2,h2.le h->(∀a:Hp,a.le h->a.disj m->a.le h2)->WS e c Q s h2 (m::ms)):WS e c Q s h ms:=λa w ha hw=>
 k _ (Hp.minus_le h m) (λ_ h1 h2=>Hp.le_minus h1 h2) a w ha (back L hm hw)
end
end Go.Eng
namespace Go.Eng
open Go.RowKit
section
variable {κ ν:Type} [DecidableEq κ] {K:κ->Value} {V:ν->Value} {Ok:κ->Prop} {kt et t:TypeId} {g:Nat} {m:Hp} {T:List (κ×ν)} {bs:List Nat}
variable {e:Entry} {Q:Exit->Act->World->Prop} {ops:Array Oper} {rest:List Oper} {o:Oper} {s:AE} {h:Hp} {ms:List Hp}
theorem C5{x y u:Operand}{z:Value}(i:Nat)(a:κ)(y':ν)(L:Nj e.P kt K Ok)(O:CF K V g Ok m T bs)(hm:ms[i]?=some m)(ho:o.op=.mapUpdate t x y u)(ht:e.P.underlying t=some (.map kt et))(hx:ev s x=some (.map (some g)))(hy:ev s y=some (K a))(hu:ev s u=some (V y'))(ha:Ok a)
  (hd:o.dst=none) (hg:o.guard=none) (k:∀m' bs',CF K V g Ok m' (Dw T a y') bs'->WL e ops Q rest s h (ms.set i m')):WL e ops Q (o::rest) s h ms:=
 Og (post:=λ_ h' ms'=>∃m' bs',CF K V g Ok m' (Dw T a y') bs'/\h'=h/\ms'=ms.set i m') (λρ w hρ hw=>by
  obtain⟨es,clock,rfl,he,hb⟩:=O.ex;have hgw:w.heap[g]?=some (.map es clock):=hw.st.own _ (dy hm) g _ (Hp.one_self _ _);obtain⟨l,hk⟩:=L.key a ha;have hc:=L.law.check w false hk;have hs:=L.law.stays w hk;rcases If L O.keys O.ok O.len he w a ha with ⟨h1,h2⟩|⟨j,v,b,h1,h2,h3,h4⟩
  ·have hT:Dw T a y'=T++[(a,y')]:=by unfold Dw;rw[ae h2]
   have hrun:(execOp ρ o).run e.P w=.ok .skip { w with heap:=w.heap.setIfInBounds g (.map (es.push ⟨K a,V y',clock⟩) (clock+1)) }:=by simp only[execOp,ho,hρ _ _ hx,hρ _ _ hy,hρ _ _ hu,Instr.mapUpdate,Sem.run_bind,run_underlying ht,Result.andThen_ok,getObj,Sem.run_pure];simp[Sem.run,hgw,hc,h1,Result.andThen,setObj]
   unfold OpRes;rw[hrun];refine⟨h,_,Ends.turn hw hm,_,bs++[clock],?_,Y,Y⟩;rw[hT];refine⟨⟨_,_,Y,?_,λb hb'=>?_⟩,by simp[O.len],Abb O.up hb,?_,λp hp=>?_⟩
   ·rw[Array.toList_push,he,Zw T bs O.len,dd];rfl
   ·rcases bj.1 hb' with hb'|hb'
    ·have:=hb b hb';omega
    ·simp at hb';omega
   ·have:=FV O.keys a y';rw[hT]at this;exact this
   ·rcases bj.1 hp with hp|hp
    ·exact O.ok p hp
    ·simp at hp;subst hp;exact ha
  ·have hj4:=(cj.1 h4)
   have hrun:(execOp ρ o).run e.P w=.ok .skip { w with heap:=w.heap.setIfInBounds g (.map (es.modify j λe=>{ e with key:=K a,val:=V y' }) clock) }:=by simp only[execOp,ho,hρ _ _ hx,hρ _ _ hy,hρ _ _ hu,Instr.mapUpdate,Sem.run_bind,run_underlying ht,Result.andThen_ok,getObj,Sem.run_pure];simp[Sem.run,hgw,hc,h1,Result.andThen,setObj,h4,hs]
   unfold OpRes;rw[hrun];refine⟨h,_,Ends.turn hw hm,_,bs,?_,Y,Y⟩;refine⟨⟨_,_,Y,?_,hb⟩,?_,O.up,FV O.keys a y',λp hp=>?_⟩
   ·rw[FH O.keys h2,UI T bs j _ b h3,List.map_set,<-he];refine List.ext_getElem? λk=>?_;rw[Array.getElem?_toList,Array.getElem?_modify,List.getElem?_set];by_cases hjk:j=k
    ·subst hjk;rw[ah rfl,ah rfl,h4];have:j<es.toList.length:=by simpa using (cj.1 h4).1
     rw[ah this];rfl
    ·rw[ae hjk,ae hjk,Array.getElem?_toList]
   ·rw[FH O.keys h2,ff];exact O.len
   ·rw[FH O.keys h2]at hp;rcases List.mem_or_eq_of_mem_set hp with hp|hp
    ·exact O.ok p hp
    ·subst hp;exact ha) hd hg λv h' ms' ⟨m',bs',e1,e2,e3⟩=>by subst e2 e3;exact k m' bs' e1
end
end Go.Eng
namespace Go.Eng
open Go.RowKit
variable {s:AE} {o:Oper} {h:Hp} {ms:List Hp} {listed:Array Bool} {P:Program}
def Flo(ops:Array Oper)(listed:Array Bool)(j d:Nat)(oj:Oper):Prop:=
 ∀i oi,i≠j->listed[i]?=some false->ops[i]?=some oi->oi.dst≠some d/\(∀t,oi.dst=some t->t ∉ oj.looksAt ops)/\(d∈oi.looksAt ops->∃e∈oi.after,Region.binds .any e=true/\e.on=j)/\∀cs b,oi.op≠.select cs b
def AaM:Op->Bool
 | .select ..=>false
 | _=>true
theorem MJ{o:Op}(h:AaM o=true):∀cs b,o≠.select cs b:=λcs b e=>by rw[e]at h;cases h
def AeH(ops:Array Oper)(L:List Nat)(j d:Nat)(oi:Oper):Bool:=
 (match oi.dst with|none=>true|some t=>!(t==d)&&!(L.contains t))&&(!((oi.looksAt ops).contains d)||oi.after.any (λe=>Region.binds .any e&&e.on==j))&&AaM oi.op
def flo(ops:Array Oper)(listed:Array Bool)(j d:Nat):Bool:=
 match ops[j]? with
 | none=>false
 | some oj=>(oj.dst==some d)&&AaM oj.op&&(Region.ready .any ops listed).contains j&&(range ops.size).all λi=>i==j||listed.getD i true||match ops[i]? with
  | none=>true
  | some oi=>AeH ops (oj.looksAt ops) j d oi
theorem Rt{ops:Array Oper}{j d:Nat}(h:flo ops listed j d=true):∃oj,ops[j]?=some oj/\oj.dst=some d/\(∀cs b,oj.op≠.select cs b)/\j∈Region.ready .any ops listed/\Flo ops listed j d oj:=by
 unfold flo at h;split at h
 ·cases h
 ·rename_i oj hoj;simp only[dt,d7,List.contains_iff_mem,beq_iff_eq]at h;obtain⟨⟨⟨h2,h3⟩,h4⟩,h5⟩:=h;refine⟨oj,hoj,h2,MJ h3,h4,λi oi hi hl ho=>?_⟩;have:=h5 i (cm.2 (cj.1 ho).1);simp only[ho,Bool.or_eq_true,beq_iff_eq]at this;rcases this with (h6|h6)|h6
  ·exact ie h6 hi
  ·rw[bp,hl]at h6;cases h6
  ·unfold AeH at h6;simp only[dt]at h6;obtain⟨⟨h7,h8⟩,h9⟩:=h6;refine⟨λe=>?_,λt ht hm=>?_,λhm=>?_,MJ h9⟩
   ·rw[e]at h7;simp at h7
   ·rw[ht]at h7;simp at h7;exact h7.2 hm
   ·simp only[Bool.or_eq_true]at h8;rcases h8 with h8|h8
    ·simp at h8;exact ie hm h8
    ·simp only[Array.any_eq_true',List.any_eq_true,dt,beq_iff_eq]at h8;obtain⟨e,he,h10,h11⟩:=h8;exact⟨e,he,h10,h11⟩
theorem Aac{ops:Array Oper}{s':AE}{v:Value}(hsel:∀cs b,o.op≠.select cs b)(hs:∀t∈o.looksAt ops,∀u,lk s t=some u->lk s' t=some u)(k:OX P o s h [] v):OX P o s' h [] v:=λρ w hρ hw=>by
 classical
 unfold OpRes;rw[execOp_congr (ρ:=ρ) (ρ':=λx=>if x∈o.op.operands then ρ x else(ev s x).getD undef) o hsel (λx hx=>(ah hx).symm)];refine k _ w (λx u hu=>?_) hw;show(if x∈o.op.operands then ρ x else(ev s x).getD undef)=u;split
 ·rename_i hx;cases x with
  | tmp t=>exact hρ _ _<|hs t (eh _<|List.mem_filterMap.2 ⟨.tmp t,by simpa using hx,rfl⟩) u hu
  | const v=>exact hρ _ _ hu
  | global g=>exact hρ _ _ hu
  | func f=>exact hρ _ _ hu
 ·rw[hu];rfl
theorem Oper.wp_sim2{z:AE}{a:Act}{w:World}{K K':Act->World->Prop}{Qb Qc:Exit->Act->World->Prop}(hq:∀x a w,Qb x a w->x=.normal)(hlo:¬LetsOut Qb)(hx:execOp (zA z a).eval o=execOp a.eval o)(hd:∀t,o.dst=some t->lk z t=none)(hK:∀b w v,b.tmps=(a.put o.dst v).tmps->K' (zA z b) w->K b w)
  (h:o.wp P (zA z a) w K' Qb):o.wp P a w K Qc:=by
 unfold Oper.wp at *;rw[hx]at h;generalize (execOp a.eval o).run P w=r at *;have hv:∀v w,K' ((zA z a).put o.dst v) w->K (a.put o.dst v) w:=λv w hh=>hK _ _ v Y (by rw[Kn hd];exact hh);cases r with
 | ok n w'=>
  cases n<;>simp only[Oper.upon]at h ⊢ <;>
   first
    | exact hv _ _ h
    | exact Calls.mono h (λe w'' he=>by
     cases e
     ·exact hv _ _ he
     ·exact ie (hq _ _ _ he) σ
     ·exact ie he hlo)
    | exact Rows.mono h<|λ_ _ he=>hv _ _ he
    | exact hK _ _ undef (by cases o.dst<;>rfl) (by rw[Kn hd];exact h)
 | halt x w'=>cases x<;>simp only[Oper.upon]at h ⊢<;>exact ie (hq _ _ _ h) σ
theorem OX.at{h0:Hp}{v:Value}(k:OX P o s h0 [] v)(hl:h0.le h):OX P o s h ms v:=λρ w hρ hw=>
 k ρ w hρ ⟨λg o e=>hw.imm g o (hl g o e),λm hm=>by simp at hm,λm hm=>by simp at hm,List.Pairwise.nil⟩
def GK(ops:Array Oper)(oj:Oper)(s:AE):Prop:=oj.guard=none\/∃k b ok dk,oj.guard=some (k,b)/\ops[k]?=some ok/\ok.dst=some dk/\lk s dk=some (.bool b)
theorem GK.mono{ops:Array Oper}{oj:Oper}{s':AE}(h:GK ops oj s)(hs:∀t∈oj.looksAt ops,∀u,lk s t=some u->lk s' t=some u):GK ops oj s':=by
 rcases h with h|⟨k,b,ok,dk,h1,h2,h3,h4⟩
 ·exact .inl h
 ·refine .inr ⟨k,b,ok,dk,h1,h2,h3,hs dk ?_ _ h4⟩;unfold Oper.looksAt;refine fg _ ?_;simp[h1,h2,h3]
section
variable {e:Entry} {ops:Array Oper} {Q:Exit->Act->World->Prop} {h0:Hp} {j d:Nat} {v:Value} {oj:Oper}
theorem Ac6{rest:List Oper}{Q:Exit->Act->World->Prop}(hG:GK ops oj s)(hx:OX e.P oj s h ms v)(hd:oj.dst=some d)(hn:Nat.blt d e.n=true)(k:WL e ops Q rest ((d,v)::s) h ms):WL e ops Q (oj::rest) s h ms:=by
 rcases hG with h|⟨q,b,ok,dk,h1,h2,h3,h4⟩
 ·exact AeO hx hd hn h k
 ·exact Ac4 hx hd hn h1 h2 h3 h4 k
theorem AcY(hoj:ops[j]?=some oj)(hdj:oj.dst=some d)(hd:d<e.n)(hsel:∀cs b,oj.op≠.select cs b) :
  ∀n listed s s1 h ms,h0.le h->j∈Region.ready .any ops listed->Flo ops listed j d oj->(∀t u,lk s1 t=some u->lk ((d,v)::s) t=some u)->GK ops oj s->OX e.P oj s h0 [] v->WB e ops Q h0 n (listed.setIfInBounds j true) s1 h ms->WB e ops Q h0 (n+1) listed s h ms:=by
 intro n
 induction n with
 | zero=>
  intro listed s s1 h ms hle hj hF hs hG hx H;refine⟨λhr=>(by rw[hr]at hj;cases hj),λi hi=>?_⟩;by_cases hij:i=j
  ·subst hij;exact⟨oj,hoj,Ac6 hG (hx.at hle) hdj (Nat.ble_eq_true_of_le hd) (An λa w ha hw=>⟨Y,s1,h,ms,⟨ha.defers,ha.size,λt u hu=>ha.slots t u (hs t u hu)⟩,hw,hle,H⟩)⟩
  ·obtain⟨h1',o,ho,hall⟩:=mem_ready.1 hi;have h1:=BO h1'
   have:i∈Region.ready .any ops (listed.setIfInBounds j true):=mem_ready.2 ⟨by rw[getD_set_ne _ (ft hij)];exact h1',o,ho,λe he hb=>by
    have:=hall e he hb;by_cases hej:j=e.on
    ·rw[<-hej];have hlt:=(cj.1 (BO (mem_ready.1 hj).1)).1;simp[hlt]
    ·rw[getD_set_ne _ hej];exact this⟩
   rw[H.1]at this;cases this
 | succ n ih=>
  intro listed s s1 h ms hle hj hF hs hG hx H;refine⟨λhr=>(by rw[hr]at hj;cases hj),λi hi=>?_⟩;by_cases hij:i=j
  ·subst hij;exact⟨oj,hoj,Ac6 hG (hx.at hle) hdj (Nat.ble_eq_true_of_le hd) (An λa w ha hw=>⟨Y,s1,h,ms,⟨ha.defers,ha.size,λt u hu=>ha.slots t u (hs t u hu)⟩,hw,hle,H⟩)⟩
  ·obtain⟨h1',o,ho,hall⟩:=mem_ready.1 hi;have h1:=BO h1';have hjl:=BO (mem_ready.1 hj).1;have hjlt:=(cj.1 hjl).1
   have hr':i∈Region.ready .any ops (listed.setIfInBounds j true):=mem_ready.2 ⟨by rw[getD_set_ne _ (ft hij)];exact h1',o,ho,λe he hb=>by
    have:=hall e he hb;by_cases hej:j=e.on
    ·rw[<-hej];simp[hjlt]
    ·rw[getD_set_ne _ hej];exact this⟩
   obtain⟨f1,f2,f3,f4⟩:=hF i o hij h1 ho
   have f3':d ∉ o.looksAt ops:=λhm=>by obtain⟨e,he,hb,hon⟩:=f3 hm;have:=hall e he hb;rw[hon,bp,hjl]at this;cases this
   obtain⟨o',ho',HW⟩:=H.2 i hr';rw[ho]at ho';cases ho';refine⟨o,ho,λa w ha hw=>?_⟩
   have hza:∀(b:Act) t,t≠d->(zA [(d,v)] b).tmps[t]?=b.tmps[t]?:=λb t ht=>by rw[Hu,BN _ _ (ft ht)];cases b.tmps[t]?<;>rfl
   have hzd:∀(b:Act),d<b.tmps.size->(zA [(d,v)] b).tmps[d]?=some v:=λb hb=>by rw[Hu,BG];simp[hb]
   have haz:Has e.n e.ds (zA [(d,v)] a) s1:=⟨ha.defers,by simp[zA,ha.size],λt u hu=>by
    have:=hs t u hu;by_cases htd:d=t
    ·subst htd;rw[BG]at this;cases this;exact hzd a (by rw[ha.size];exact hd)
    ·rw[BN _ _ htd]at this;rw[hza a t (ft htd)];exact ha.slots t u this⟩
   have H':=HW (zA [(d,v)] a) w haz hw;unfold wpList at H' ⊢;have hsame:∀t∈o.looksAt ops,(zA [(d,v)] a).tmps[t]?=a.tmps[t]?:=λt ht=>hza a t (λe'=>f3' (e' ▸ ht))
   have hx':execOp (zA [(d,v)] a).eval o=execOp a.eval o:=execOp_congr o f4 λx hx=>by
    cases x with
    | tmp t=>
     have:=hsame t (eh _ (List.mem_filterMap.2 ⟨.tmp t,by simpa using hx,rfl⟩));simp only[Act.eval];rw[bp,this,<-bp]
    | const v=>rfl
    | global g=>rfl
    | func f=>rfl
   have hwant:Region.wanted o (yielded ops (zA [(d,v)] a).tmps)=Region.wanted o (yielded ops a.tmps):=by
    unfold Region.wanted;cases hg:o.guard with
    | none=>rfl
    | some p=>
     obtain⟨k,b⟩:=p
     have:yielded ops (zA [(d,v)] a).tmps k=yielded ops a.tmps k:=by
      unfold yielded;cases hd:(ops[k]?).bind (·.dst) with
      | none=>rfl
      | some t=>
       have ht:t∈o.looksAt ops:=by unfold Oper.looksAt;refine fg _ ?_;simp only[hg];rw[hd];simp
       simp[hd,hsame t ht]
     simp only[this]
   rw[hwant]at H'
   have hdz:∀t,o.dst=some t->lk [(d,v)] t=none:=λt ht=>by rw[BN _ _ (λe'=>f1 (by rw[ht,e']))];rfl
   have hnext:∀b w v',b.tmps=(a.put o.dst v').tmps->(QB e ops Q h0 n ((listed.setIfInBounds j true).setIfInBounds i true)) .normal (zA [(d,v)] b) w->(QB e ops Q h0 (n+1) (listed.setIfInBounds i true)) .normal b w:=λb w v' hbt hh=>by
    obtain⟨-,s',h',ms',g1,g2,g3,g4⟩:=hh
    have hbget:∀t,o.dst≠some t->b.tmps[t]?=a.tmps[t]?:=λt ht=>by
     rw[hbt];cases hd:o.dst with
     | none=>rfl
     | some d'=>
      have:d'≠t:=λe'=>ht (by rw[hd,e']);simp only[Act.put,ei this]
    have hbs:b.tmps.size=a.tmps.size:=by rw[hbt];cases o.dst<;>simp[Act.put]
    have hbn:b.tmps.size=e.n:=by rw[hbs,ha.size]
    let L:=oj.looksAt ops
    have hlf:∀(p:Nat->Bool) (s:AE) t,lk (s.filter (λx=>p x.1)) t=if p t=true then lk s t else none:=by
     intro p s t
     induction s with
     | nil=>simp[lk]
     | cons x s ih=>
      obtain⟨y,u⟩:=x;by_cases hy:p y=true
      ·rw[List.filter_cons_of_pos (by exact hy)];by_cases hyt:y=t
       ·subst hyt;rw[BG,BG,ah hy]
       ·rw[BN _ _ hyt,BN _ _ hyt,ih]
      ·rw[List.filter_cons_of_neg (by exact hy),ih];by_cases hyt:y=t
       ·subst hyt;rw[ae hy,ae hy]
       ·rw[BN _ _ hyt]
    let sL:=s.filter (λx=>L.contains x.1)
    let sR:=s'.filter (λx=>!(x.1==d))
    have hL:∀t u,lk sL t=some u->t∈L/\lk s t=some u:=λt u hu=>by
     rw[hlf (λt=>L.contains t)]at hu;split at hu
     ·rename_i hc;exact⟨List.contains_iff_mem.1 hc,hu⟩
     ·cases hu
    have hLb:∀t u,lk sL t=some u->b.tmps[t]?=some u:=λt u hu=>by obtain⟨k1,k2⟩:=hL t u hu;rw[hbget t (λe'=>f2 t e' k1)];exact ha.slots t u k2
    have hR:∀t,t≠d->lk sR t=lk s' t:=λt ht=>by rw[hlf (λt=>!(t==d))];simp[ht]
    have hRd:lk sR d=none:=by rw[hlf (λt=>!(t==d))];simp
    have hb':∀t u,t≠d->lk s' t=some u->b.tmps[t]?=some u:=λt u ht hu=>by rw[<-hza b t ht];exact g1.slots t u hu
    refine⟨Y,sL++sR,h',ms',⟨g1.defers,hbn,λt u hu=>?_⟩,g2,g3,?_⟩
    ·rw[Dp]at hu;cases hl:lk sL t with
     | some u'=>rw[hl]at hu;cases hu;exact hLb t _ hl
     | none=>
      rw[hl]at hu;have htd:t≠d:=λe'=>by subst e';simp only[Option.none_or]at hu;rw[hRd]at hu;cases hu
      simp only[Option.none_or]at hu;rw[hR t htd]at hu;exact hb' t u htd hu
    ·refine ih (listed.setIfInBounds i true) (sL++sR) s' h' ms' g3 ?_ ?_ ?_ ?_ ?_ (by rw[Array.setIfInBounds_comm _ _ hij];exact g4)
     ·obtain⟨_,oj',hoj',hall'⟩:=mem_ready.1 hj;refine mem_ready.2 ⟨by rw[getD_set_ne _ hij];exact(mem_ready.1 hj).1,oj',hoj',λed he hb=>?_⟩;have:=hall' ed he hb;by_cases hei:i=ed.on
      ·rw[<-hei];have:=(cj.1 h1).1;simp[this]
      ·rw[getD_set_ne _ hei];exact this
     ·intro k ok hk hl hok;refine hF k ok hk ?_ hok;by_cases hki:i=k
      ·subst hki;have:=(cj.1 h1).1;simp[this]at hl
      ·rw[ei hki]at hl;exact hl
     ·intro t u hu;by_cases htd:d=t
      ·subst htd;have k1:=g1.slots _ u hu;rw[hzd b (by rw[hbn];exact hd)]at k1;rw[BG];exact k1
      ·rw[BN _ _ htd,Dp];cases hl:lk sL t with
       | some u'=>
        have k1:=hLb t u' hl;rw[hb' t u (ft htd) hu]at k1;simpa using k1.symm
       | none=>rw[hR t (ft htd)];simpa using hu
     ·have hlk:∀t∈oj.looksAt ops,∀u,lk s t=some u->lk (sL++sR) t=some u:=λt ht u hu=>by
       rw[Dp];have:lk sL t=some u:=by rw[hlf (λt=>L.contains t),ah (List.contains_iff_mem.2 ht)];exact hu
       rw[this];rfl
      exact hG.mono hlk
     ·refine Aac (ops:=ops) hsel (λt ht u hu=>?_) hx;rw[Dp];have:lk sL t=some u:=by rw[hlf (λt=>L.contains t),ah (List.contains_iff_mem.2 ht)];exact hu
      rw[this];rfl
   split
   ·rename_i hw';rw[ah hw']at H';rcases H' with H'|⟨_,H'⟩
    ·exact .inl<|Oper.wp_sim2 (λx a w h=>h.1) O6 hx' hdz (λb w v hb hh=>hnext b w v hb hh) H'
    ·exact ie H' O6
   ·rename_i hw';rw[ae hw']at H';exact hnext _ _ undef Y (by rw[Kn hdz];exact H')
theorem Bb{n:Nat}(j d:Nat)(hF:flo ops listed j d=true)(hoj:ops[j]?=some o)(hle:h0.le h)(hn:Nat.blt d e.n=true)(hx:OX e.P o s h0 [] v)(k:WB e ops Q h0 n (listed.setIfInBounds j true) ((d,v)::s) h ms)(hg:o.guard=none:=by rfl):WB e ops Q h0 (n+1) listed s h ms:=by obtain⟨oj,g1,g3,g4,g5,g6⟩:=Rt hF;rw[hoj]at g1;cases g1;exact AcY hoj g3 (di hn) g4 n listed s _ h ms hle g5 g6 (λt u hu=>hu) (.inl hg) hx k
theorem B6{n:Nat}(j d:Nat){ok:Oper}{q dk:Nat}{b:Bool}(hF:flo ops listed j d=true)(hoj:ops[j]?=some o)(hg:o.guard=some (q,b))(hq:ops[q]?=some ok)(hdk:ok.dst=some dk)(hv:lk s dk=some (.bool b))(hle:h0.le h)(hn:Nat.blt d e.n=true)(hx:OX e.P o s h0 [] v)(k:WB e ops Q h0 n (listed.setIfInBounds j true) ((d,v)::s) h ms):WB e ops Q h0 (n+1) listed s h ms:=by obtain⟨oj,g1,g3,g4,g5,g6⟩:=Rt hF;rw[hoj]at g1;cases g1;exact AcY hoj g3 (di hn) g4 n listed s _ h ms hle g5 g6 (λt u hu=>hu) (.inr ⟨q,b,ok,dk,hg,hq,hdk,hv⟩) hx k
end
end Go.Eng
namespace Go.Eng
open Go.RowKit
theorem TN(g k:Nat):(⟨g,0,none⟩:Addr).add k=⟨g,k,none⟩:=by unfold Addr.add;split<;>simp_all
theorem OE{α:Type}{F:α->List Value}{sz:Nat}(hF:∀x,(F x).length=sz){l:List α}{j:Nat}(hj:j<l.length)(a:α):(l.flatMap F).take (j*sz)++F a++(l.flatMap F).drop (j*sz+sz)=(l.set j a).flatMap F:=by
 have e:j*sz+sz=(j+1)*sz:=by rw[cw,fp]
 rw[e,HD hF,FF hF,List.set_eq_take_append_cons_drop,ah hj,dx,fc,cz]
section
variable {e:Entry} {Q:Exit->Act->World->Prop} {ops:Array Oper} {rest:List Oper} {o:Oper} {s:AE} {h:Hp} {ms:List Hp} {α:Type} {F:α->List Value} {l:List α} {v:Value} {m:Hp} {el:TypeId} {sz:Nat}
theorem EF{t:TypeId}{x y:Operand}{u z:Value}{bytes:Nat}(i j:Nat)(a:α)(O:OwnL F sz el m v l)(ho:o.op=.store t x y)(hs:Elem e.P t sz z bytes)(hx:ev s x=some (.pointer (some ((AH v).add (j*sz)))))(hy:ev s y=some u)(hv:u.cells=(F a).toArray)(h1:∀c∈F a,c.oneCell'=true)
  (hm:ms[i]?=some m) (hj:j<l.length) (hd:o.dst=none) (hg:o.guard=none)
  (K:∀m',OwnL F sz el m' v (l.set j a)->WL e ops Q rest s h (ms.set i m')):WL e ops Q (o::rest) s h ms:=by
 obtain⟨⟨h2,h3⟩,hF⟩:=O;rcases h3 with ⟨rfl,h4,rfl⟩|⟨g,cap,spare,rfl,rfl,e1,e2,e3⟩
 ·rw[h4]at hj;simp at hj
 ·have hle:(j+1)*sz<=l.length*sz:=du sz hj;have hjs:j*sz+sz=(j+1)*sz:=by rw[cw,fp]
  have hFa:=hF a;refine Og (post:=λ_ h' ms'=>h'=h/\ms'=ms.set i (BI g el ((l.set j a).flatMap F++spare))) (λρ w hρ hw=>?_) hd hg λ_ _ _ ⟨e4,e5⟩=>?_
  ·have hgw:w.heap[g]?=some (.cells (l.flatMap F++spare).toArray el (0,0)):=hw.st.own _ (dy hm) g _ (Hp.one_self _ _);have hst:=run_storeCells_at (P:=e.P) g (j*sz) el (F a) 0 _ w hgw (by simp only[f5,af];omega) h1
   have hadd:(AH (.slice (some ⟨g,0,none⟩) l.length cap)).add (j*sz)=⟨g,j*sz,none⟩:=by show(⟨g,0,none⟩:Addr).add (j*sz)=_;exact TN g<|j*sz
   have hrow:(l.flatMap F++spare).take (j*sz)++F a++(l.flatMap F++spare).drop (j*sz+sz)=(l.set j a).flatMap F++spare:=by rw[List.take_append_of_le_length ω,List.drop_append_of_le_length ω,<-cz,OE hF hj]
   have:(execOp ρ o).run e.P w=.ok .skip (w.setRow g ((l.set j a).flatMap F++spare).toArray):=by simp[execOp,ho,hρ _ _ hx,hρ _ _ hy,Instr.storeAt,Instr.sureAddr,storeVar,hs.sizeOf,hv,hFa,hadd];simp at hst;rw[hFa]at hst;rw[hst,<-cz,hrow];rfl
   unfold OpRes;rw[this];exact⟨h,_,Ends.put hw hm Y ⟨Y,am _⟩ Y σ (setRow_heap w g _ _ _ _ hgw) (λk hk hne=>setRow_other w g k _ hne),rfl,rfl⟩
  ·subst e4 e5;refine K _ ⟨⟨?_,.inr ⟨g,cap,spare,by rw[ff],rfl,?_,by rw[ff];omega,e3⟩⟩,hF⟩
   ·rw[BY hF,ff]
   ·rw[af,BY hF,ff,<-BY hF l,<-af];exact e1
end
end Go.Eng
namespace Go.Eng
open Go.RowKit
def AeI{ι:Type}(P:Program)(gf:FuncId)(lb:List Value)(h:Hp)(R:ι->List Value->ι->Prop)(i0:ι)(fin:ι->Prop):Prop:=
 ∀(lp:Nat) (X:ι->Hp->List Hp->Prop) (h1:Hp) (ms:List Hp),h.le h1->(∀i vs i' h2 ms2,R i vs i'->h1.le h2->X i h2 ms2->YdT P lp vs.toArray h2 ms2 (λr h' ms'=>r=.bool true/\X i' h' ms'))->X i0 h1 ms →
  FnT P gf ([Value.func (.yield lp) #[] #[]]++lb).toArray h1 ms (λ_ h' ms'=>∃i,fin i/\X i h' ms')
theorem Pk{e:Entry}{ops:Array Oper}{Q:Exit->Act->World->Prop}{rest:List Oper}{s:AE}{h:Hp}{ms:List Hp}{m:Hp}(k:IL e ops Q rest s h ms):IL e ops Q rest s h (m::ms):=λa w ha hw=>k a w ha (Ends.drop hw)
theorem NR{e:Entry}{Q:Exit->Act->World->Prop}{s:AE}{h:Hp}{ms pre fr:List Hp}{ops:Array Oper}{o:Oper}{rest:List Oper}{x:Operand}{lp:Nat}{l:List Operand}{ts:Array TypeId}{vs:List Value}{d:Nat}{post:Value->Hp->List Hp->Prop}(hp:ms.Perm (pre++fr))(ho:o.op=.call { callee:=.value x,args:=l.toArray,argTypes:=ts })(hx:ev s x=some (.func (.yield lp) #[] #[]))(ha:Sh s l=some vs)(k:YdT e.P lp vs.toArray h pre post)(hd:o.dst=some d)(hn:Nat.blt d e.n=true)(hg:o.guard=none)
  (K:∀v h' ms',h.le h'->post v h' ms'->IL e ops Q rest ((d,v)::s) h' (ms'++fr)):IL e ops Q (o::rest) s h ms:=λa w hA hw0=>by
 have hw:=Ends.perm hw0 hp;unfold wpListIn;rw[ah (by simp[Region.wanted,hg])];obtain⟨fn,tmps,assign,body,hy,hr⟩:=k w hw.st.pre
 have hrun:(execOp a.eval o).run e.P w=.ok (.round lp fn tmps assign body) w:=by simp[execOp,ho,resolve,hA.eval _ _ hx,Deferred.ofValue,invoke,(show Evs s a.eval from hA.eval).map l vs ha,hy]
 refine⟨λ_ _=>ej,?_⟩;rw[Oper.semAt_eq _ _ _ (λc e=>by rw[ho]at e;cases e),hrun];refine⟨(λh=>by cases h),hr.mono λx w' ⟨r,h',ms',e1,e2,e3⟩=>?_⟩;subst e1;show wpListIn _ _ _ _ _ _ (a.put o.dst r) w';rw[hd];exact K r h' ms' e2.le e3 _ _ (hA.put (di hn) _)<|Ends.call hw e2
theorem Nd{ι:Type}{e:Entry}{Q:Exit->Act->World->Prop}{s:AE}{h:Hp}{ms:List Hp}{t gf:Nat}{lb:List Value}{ps:List Nat}{assign body:Code}(J:ι->Hp->List Hp->Prop)(A:ι->List Value->ι->AE->Hp->List Hp->Prop){R:ι->List Value->ι->Prop}{i0:ι}{fin:ι->Prop}
  (hg:lk s t=some (.func (.func gf) #[] lb.toArray)) (hc:∀az w,(callFunc gf az).run e.P w=.ok (.enter gf az) w) (hit:AeI e.P gf lb h R i0 fin) (hps:∀k vs k',R k vs k'->vs.length=ps.length) (hpn:ps.all (λp=>Nat.blt p e.n)=true)
  (h0:J i0 h ms)
  (hA:∀w0 k vs k' h1 ms1,R k vs k'->h.le h1->J k h1 ms1->RS ⟨e.P,w0,h1,ms1,e.n,[]⟩ assign (SS ⟨e.P,w0,h1,ms1,e.n,[]⟩ (A k vs k')) (Lx ps vs s) h1 ms1)
  (hB:∀w0 k vs k' s1 h1 ms1,R k vs k'->h.le h1->A k vs k' s1 h1 ms1->RS ⟨e.P,w0,h1,ms1,e.n,[]⟩ body (SS ⟨e.P,w0,h1,ms1,e.n,[]⟩ (λ_=>J k')) s1 h1 ms1)
  (hK:∀D k h1 ms1,fin k->h.le h1->J k h1 ms1->NX ⟨e.P,e.w0,e.h0,e.ms0,e.n,D::e.ds⟩ Q .normal s h1 (ms1++[Mk D])) :
  WS e (.rangeFunc (.tmp t) ps.toArray assign body) Q s h ms:=by
 intro a w ha hw;refine(wpIn_wide (n:=0)).1 (wpIn_rangeFunc λfn _=>?_);have hge:a.eval (.tmp t)=.func (.func gf) #[] lb.toArray:=ha.eval (.tmp t) _ hg;obtain⟨rec,hrec⟩:∃rec:LoopState->Loop,rec=λst=>{ state:=st,pending:=none,fn,tmps:=a.tmps,params:=ps.toArray,assign,body,defers:=w.heap.size }:=⟨_,Y⟩
 obtain⟨l,hl⟩:∃l,l=w.heap.size+1:=⟨_,Y⟩
 obtain⟨W1,hW1⟩:∃W1,(w.alloc (.deferred (some []))).alloc (.loop (rec .ready))=W1:=⟨_,Y⟩
 have hE1:e.Ends W1 h (ms++[Hp.one l (.loop (rec .ready)),Mk w.heap.size]):=by
  have h2:=(hw.alloc (.deferred (some []))).alloc (.loop (rec .ready));rw[World.size_alloc,<-hl,hW1]at h2
  exact h2.perm (by
   refine List.Perm.trans ?_ df
   exact fo _)
 have hN:w.heap.size=w.heap.size:=rfl;refine⟨l,[{ target:=.collected w.heap.size,args:=#[] }],W1,{ target:=.fn (.func gf) lb.toArray,args:=#[.func (.yield l) #[] #[]] },W1,gf,([Value.func (.yield l) #[] #[]]++lb).toArray,W1,?_,?_,λ_ _=>ej,?_,(λh=>by cases h),?_⟩
 ·rw[<-hW1,hrec,hl];exact run_enterLoop_outer _ _ _ _ _
 ·simp only[resolve,hge];simp[go_sem]
 ·simp[invoke,go_sem,hc]
 ·refine(callsIn_wide (n:=0)).2 ((hit l (λk h1 ms1=>h.le h1/\∃ms2,ms1=ms2++[Hp.one l (.loop (rec .ready)),Mk w.heap.size]/\J k h1 ms2) h _ (Hp.le_refl _) ?_ ⟨Hp.le_refl _,ms,Y,h0⟩ W1 hE1.st).mono ?_)
  ·-- a round
   rintro k vs k' h2 ms2 hkN hl2 ⟨_,ms2,rfl,hJ⟩ w2 hS2;have hlo:w2.heap[l]?=some (.loop (rec .ready)):=hS2.own _ σ l _ (Hp.one_self _ _);have hy:=run_yield (P:=e.P) (args:=vs.toArray) hlo (by rw[hrec];simpa using hps k vs k' hkN);refine⟨_,_,_,_,hy,?_⟩;have r1:(rec .ready).params=ps.toArray:=by rw[hrec]
   have r2:(rec .ready).tmps=a.tmps:=by rw[hrec]
   have r3:(rec .ready).assign=assign:=by rw[hrec]
   have r4:(rec .ready).body=body:=by rw[hrec]
   rw[r1,r2,r3,r4];refine roundIn_of_wpIn ej ?_;have hSp:St w2 h2 ms2:=hS2.pre
   have hHas:Has e.n [] { tmps:=(ps.toArray.zip vs.toArray).foldl (λt (p,v)=>t.setIfInBounds p v) a.tmps,defers:=[] } (Lx ps vs s):=by
    have e1:(ps.toArray.zip vs.toArray).foldl (λt (p,v)=>t.setIfInBounds p v) a.tmps=(ps.zip vs).foldl (λt (p,v)=>t.setIfInBounds p v) a.tmps:=by simp
    rw[e1];exact JU Y ps vs s a.tmps (λp hp=>di<|d7.1 hpn p hp) ⟨Y,ha.size,ha.slots⟩
   refine wpIn_mono (hA w2 k vs k' h2 ms2 hkN hl2 hJ l (LoopAt.of (r:=rec .ready) (rest:=[Mk w.heap.size]) hS2) _ w2 hHas (Ends.refl hSp) Ht) ?_;intro x a1 w3 hx;cases x with
   | normal=>
    obtain⟨s3,h3,ms3,hA3,hHas3,hE3⟩:=hx;have hEf:Ends w2 h2 (ms2++[Hp.one l (.loop (rec .ready)),Mk w.heap.size]) w3 h3 (ms3++[Hp.one l (.loop (rec .ready)),Mk w.heap.size]):=Ends.call (Ends.refl hS2) hE3;have hEp:=hEf.perm (ms':=Hp.one l (.loop (rec .ready))::Mk w.heap.size::ms3) df;have hl3:w3.heap[l]?=some (.loop (rec .ready)):=hEp.st.own _ (ax) l _ (Hp.one_self _ _);have hE4:=Ends.putL (.loop (rec .busy)) hEp;refine⟨_,run_beginRound hl3 (by rw[hrec]),?_⟩;have e2:({ rec .ready with state:=.busy }:Loop)=rec .busy:=by rw[hrec]
    rw[e2];have hE4':=hE4.perm (ms':=ms3++[Hp.one l (.loop (rec .busy)),Mk w.heap.size]) (df (l₁:=[_,_]));refine wpIn_mono (hB _ k vs k' s3 h3 ms3 hkN (Hp.le_trans hl2 hE3.le) hA3 l (LoopAt.of (r:=rec .busy) (rest:=[Mk w.heap.size]) hE4'.st) a1 _ hHas3 (Ends.refl hE4'.st.pre) Ht) ?_;intro y a2 w5 hy5;cases y with
    | normal=>
     obtain⟨s5,h5,ms5,hJ5,_,hE5⟩:=hy5;have hE6:=Ends.call hE4' hE5;have hE6p:=hE6.perm (ms':=Hp.one l (.loop (rec .busy))::Mk w.heap.size::ms5) df;have hl6:w5.heap[l]?=some (.loop (rec .busy)):=hE6p.st.own _ (ax) l _ (Hp.one_self _ _);refine⟨_,_,run_endRound none hl6,?_⟩;have e3:({ rec .busy with state:=if(none:Option Code).isNone then .ready else .done,pending:=none }:Loop)=rec .ready:=by rw[hrec];rfl
     rw[e3];exact⟨_,h5,_,Y,(Ends.putL (.loop (rec .ready)) hE6p).perm (df (l₁:=[_,_])),Y,Hp.le_trans hl2 (Hp.le_trans hE3.le hE5.le),ms5,Y,hJ5⟩
    | _=>exact hy5.elim
   | _=>exact hx
  ·rintro x w3 ⟨r,h3,ms3,rfl,hE3,kf,hfin,hl3,ms4,rfl,hJ⟩;have hE4:=Ends.call (fr:=[]) (by rw[d6];exact hE1) hE3;rw[d6]at hE4;have hE5:=hE4.perm (ms':=Hp.one l (.loop (rec .ready))::Mk w.heap.size::ms4) df;have hl5:w3.heap[l]?=some (.loop (rec .ready)):=hE5.st.own _ (ax) l _ (Hp.one_self _ _);refine⟨_,_,run_endLoop hl5 (by rw[hrec];simp),?_⟩;have e4:(rec .ready).pending=none:=by rw[hrec]
   rw[e4];exact hK w.heap.size kf h3 ms4 hfin hl3 hJ { a with defers:=[{ target:=.collected w.heap.size,args:=#[] }]++a.defers } _ ⟨by show [_]++a.defers=_;rw[ha.defers];rfl,ha.size,ha.slots⟩ ((Ends.putL _ hE5).drop.perm<|df (l₁:=[_]))
section
variable {κ ν:Type} [DecidableEq κ] {K:κ->Value} {V:ν->Value} {Ok:κ->Prop} {P:Program} {t:TypeId} {gi g:Nat} {m mi:Hp} {T:List (κ×ν)} {bs vis:List Nat}
variable {o:Oper} {s:AE} {h:Hp} {ms:List Hp} {e:Entry} {Q:Exit->Act->World->Prop} {ops:Array Oper} {rest:List Oper}
theorem IH{x:Operand}{d:Nat}{kt et:TypeId}(O:CF K V g Ok m T bs)(hm:m.le h)(ho:o.op=.range t x)(ht:e.P.underlying t=some (.map kt et))(hx:ev s x=some (.map (some g)))(hd:o.dst=some d)(hn:Nat.blt d e.n=true)(hg:o.guard=none)
  (k:∀gi mi,En gi g m mi bs []->WL e ops Q rest ((d,.pt gi)::s) h (mi::ms)):WL e ops Q (o::rest) s h ms:=
 HP (post:=λv h' ms'=>∃gi mi,En gi g m mi bs []/\v=.pt gi/\h'=h/\ms'=mi::ms) (λρ w hρ hw=>by
  obtain⟨es,clock,rfl,he,hb⟩:=O.ex;have hgw:w.heap[g]?=some (.map es clock):=hw.st.imm g _ (hm g _ (Hp.one_self _ _))
  have hrun:(execOp ρ o).run e.P w=.ok (.value (.pointer (some ⟨w.heap.size,0,none⟩))) (w.alloc (.mapIter (some g) clock #[] clock)):=by simp only[execOp,ho,hρ _ _ hx,Instr.range,Sem.run_bind,run_underlying ht,Result.andThen_ok,getObj,Sem.run_pure];simp[Sem.run,hgw,Result.andThen,newObj]
  unfold OpRes;rw[hrun]
  exact⟨h,_,Ends.alloc hw _,_,_,⟨⟨es,clock,clock,#[],clock,Y,Y,hb,am _,am _,Y,λh=>ie Y h⟩,by simp,List.Pairwise.nil⟩,rfl,rfl,rfl⟩) hd hn hg λv h' ms' ⟨gi,mi,e1,e2,e3,e4⟩=>by subst e2 e3 e4;exact k gi mi e1
theorem J1{x:Operand}{d:Nat}(i:Nat)(O:CF K V g Ok m T bs)(I:En gi g m mi bs vis)(hm:m.le h)(hi:ms[i]?=some mi)(ho:o.op=.next x false)(hx:ev s x=some (.pointer (some ⟨gi,0,none⟩)))(hd:o.dst=some d)(hn:Nat.blt d e.n=true)(hg:o.guard=none)
  (k0:(∀j,j<T.length->j∈vis)->WL e ops Q rest ((d,.tuple #[.bool false])::s) h ms)
  (k1:∀(j:Nat) (hj:j<T.length) (mi':Hp),j ∉ vis->En gi g m mi' bs (vis++[j])->WL e ops Q rest ((d,.tuple #[.bool true,K T[j].1,V T[j].2])::s) h (ms.set i mi')):WL e ops Q (o::rest) s h ms:=
 HP (post:=λv h' ms'=>(v=.tuple #[.bool false]/\h'=h/\ms'=ms/\∀j,j<T.length->j∈vis)\/∃(j:Nat) (hj:j<T.length) (mi':Hp),j ∉ vis/\En gi g m mi' bs (vis++[j])/\v=.tuple #[.bool true,K T[j].1,V T[j].2]/\h'=h/\ms'=ms.set i mi') (λρ w hρ hw=>by
  obtain⟨es,clock,rfl,he,hb⟩:=O.ex;obtain⟨es',clock',since,seen,last,e1,rfl,i1,i2,i3,i4,i5⟩:=I.ex;have e1:=JF e1;cases e1;have hgw:w.heap[g]?=some (.map es clock):=hw.st.imm g _ (hm g _ (Hp.one_self _ _));have hiw:w.heap[gi]?=some (.mapIter (some g) since seen last):=hw.st.own _ (dy hi) gi _ (Hp.one_self _ _)
  have hent:∀x∈es.toList,∃(j:Nat) (hj:j<T.length) (hjb:j<bs.length),x=M9 K V (T[j],bs[j]):=λx hx=>by rw[he]at hx;obtain⟨p,hp,rfl⟩:=ag.1 hx;obtain⟨j,hj⟩:=List.getElem?_of_mem hp;obtain⟨z1,z2⟩:=List.getElem?_zip_eq_some.1 hj;obtain⟨j1,j2⟩:=br.1 z1;obtain⟨k1,k2⟩:=br.1 z2;exact⟨j,j1,k1,by rw[j2,k2]⟩
  have hin:∀(j:Nat) (hj:j<T.length) (hjb:j<bs.length),M9 K V (T[j],bs[j])∈es.toList:=λj hj hjb=>by rw[he];exact ag.2 ⟨(T[j],bs[j]),dy (i:=j)<|List.getElem?_zip_eq_some.2 ⟨aj hj,aj hjb⟩,Y⟩
  have hseen:∀b,seen.contains b=true<->∃j∈vis,bs[j]?.getD 0=b:=λb=>by rw[Array.contains_iff_mem,<-Array.mem_toList_iff,i4,ag]
  rcases run_next_at (P:=e.P) w o.type gi g since last seen es clock hiw hgw (λx hx=>by
   obtain⟨j,hj,hjb,rfl⟩:=hent x hx
   exact i1 _<|List.getElem_mem hjb) i2 with ⟨h1,h2⟩|⟨x,h1,w1,h2,h3⟩
  ·have hrun:(execOp ρ o).run e.P w=.ok (.value (.tuple #[.bool false])) w:=by
    simp only[execOp,ho,hρ _ _ hx,Sem.run_bind,h2,Result.andThen_ok,Sem.run_pure]
   unfold OpRes;rw[hrun];refine⟨h,ms,hw,.inl ⟨Y,Y,Y,λj hj=>?_⟩⟩;have hjb:j<bs.length:=by rw[O.len];exact hj
   have hmem:=hin j hj hjb
   have hc:seen.contains bs[j]=true:=by
    cases hcc:seen.contains bs[j] with
    | true=>rfl
    | false=>
     have:M9 K V (T[j],bs[j])∈leftOf es seen:=by unfold leftOf;rw[Array.mem_filter];exact⟨Array.mem_toList_iff.1 hmem,by show(!seen.contains bs[j])=true;rw[hcc];rfl⟩
     rw[Array.size_eq_zero_iff.1 h1]at this;simp at this
   obtain⟨j',hj',e2⟩:=(hseen _).1 hc;have hj'b:=I.lt j' hj';rw[aj hj'b]at e2;have:j'=j:=AaN O.up (aj hj'b) (by rw[aj hjb];exact aw some e2.symm);subst this;exact hj'
  ·unfold leftOf at h1;have h1:=Array.mem_filter.1 (Array.mem_toList_iff.1 h1);obtain⟨j,hj,hjb,rfl⟩:=hent x (Array.mem_toList_iff.2 h1.1)
   have hjv:j ∉ vis:=λhv=>by have:seen.contains bs[j]=true:=(hseen _).2 ⟨j,hv,by rw[aj hjb];rfl⟩;have h4:=h1.2;simp only[M9]at h4;rw[this]at h4;cases h4
   have hrun:(execOp ρ o).run e.P w=.ok (.value (.tuple #[.bool true,K T[j].1,V T[j].2])) (ChangeMaps.setBlock w1 gi (.mapIter (some g) since (seen.push bs[j]) clock)):=by simp only[execOp,ho,hρ _ _ hx,Sem.run_bind,h3,Result.andThen_ok,Sem.run_pure,M9]
   unfold OpRes;rw[hrun]
   have hw1:e.Ends w1 h ms:=by
    rcases h2 with rfl|rfl
    ·exact hw
    ·exact Ends.drew hw
   refine⟨h,_,Ends.turn hw1 hi,.inr ⟨j,hj,_,hjv,⟨⟨es,clock,since,seen.push bs[j],clock,Y,Y,i1,i3,i3,?_,λ_=>rfl⟩,λi hi=>?_,?_⟩,Y,Y,Y⟩⟩
   ·rw[Array.toList_push,i4,dd];simp[aj hjb]
   ·rcases bj.1 hi with hi|hi
    ·exact I.lt i hi
    ·simp at hi;subst hi;exact hjb
   ·exact ib.2 ⟨I.nodup,by simp,λa ha b hb e=>by simp at hb;subst hb;subst e;exact hjv ha⟩) hd hn hg λv h' ms' hp=>by
  rcases hp with ⟨e1,e2,e3,e4⟩|⟨j,hj,mi',e1,e2,e3,e4,e5⟩
  ·subst e1 e2 e3;exact k0 e4
  ·subst e3 e4 e5;exact k1 j hj mi' e1 e2
theorem Iz{x:Operand}{j:Nat}(O:CF K V g Ok m T bs)(I:En gi g m mi bs (vis++[j]))(hm:m.le h)(hi:mi∈ms)(hj:j<T.length)(ho:o.op=.entry x)(hx:ev s x=some (.pointer (some ⟨gi,0,none⟩))):OX P o s h ms (.tuple #[K T[j].1,V T[j].2]):=
 Bs λρ w hρ hw=>by
  obtain⟨es,clock,rfl,he,hb⟩:=O.ex;obtain⟨es',clock',since,seen,last,e1,rfl,i1,i2,i3,i4,i5⟩:=I.ex;have e1:=JF e1;cases e1;have hl:last=clock:=i5 σ;subst hl;have hgw:w.heap[g]?=some (.map es last):=hw.imm g _ (hm g _ (Hp.one_self _ _));have hjb:j<bs.length:=by rw[O.len];exact hj
  have hs:seen=(vis.map λj=>bs[j]?.getD 0).toArray.push bs[j]:=by apply Array.toList_inj.1;rw[i4,Array.toList_push,dd];simp[aj hjb]
  have hiw:w.heap[gi]?=some (.mapIter (some g) since ((vis.map λj=>bs[j]?.getD 0).toArray.push (M9 K V (T[j],bs[j])).born) last):=by have:=hw.own _ hi gi _ (Hp.one_self _ _);rw[hs]at this;exact this
  have hmem:M9 K V (T[j],bs[j])∈es.toList:=by rw[he];exact ag.2 ⟨(T[j],bs[j]),dy (i:=j)<|List.getElem?_zip_eq_some.2 ⟨aj hj,aj hjb⟩,Y⟩
  have hn:(es.toList.map (·.born)).Nodup:=by rw[he,gg];have:(MapEntry.born∘M9 K V)=(Prod.snd:(κ×ν)×Nat->Nat):=rfl;rw[this,List.map_snd_zip (by rw[O.len];exact am _)];exact O.up.imp λh=>Nat.ne_of_lt h
  have:=run_entry_at (P:=P) w gi g since _ es last _ hiw hgw hmem hn;simp only[execOp,ho,hρ _ _ hx,Sem.run_bind,this,Result.andThen_ok,Sem.run_pure,M9]
theorem Gh{kt et:TypeId}{x y:Operand}{z:ν}(a:κ)(L:Nj P kt K Ok)(O:CF K V g Ok m T bs)(hm:m.le h)(ho:o.op=.lookup t x y false)(ht:P.underlying t=some (.map kt et))(hz:∀w,(zeroValue et).run P w=.ok (V z) w)(hx:ev s x=some (.map (some g)))(hy:ev s y=some (K a))(ha:Ok a) :
  OX P o s h ms (V ((BJ T a).getD z)):=
 Bs λρ w hρ hw=>by
  obtain⟨es,clock,rfl,he,hb⟩:=O.ex;have hgw:w.heap[g]?=some (.map es clock):=hw.imm g _ (hm g _ (Hp.one_self _ _));obtain⟨l,hk⟩:=L.key a ha;have hc:=L.law.check w es.isEmpty hk;rcases If L O.keys O.ok O.len he w a ha with ⟨h1,h2⟩|⟨j,u,b,h1,h2,_,_⟩
  ·rw[DZ h2];simp only[execOp,ho,hρ _ _ hx,hρ _ _ hy,Instr.lookup,Sem.run_bind,run_underlying ht,Result.andThen_ok,getObj,Sem.run_pure,h1,hz];simp[Sem.run,hgw,hc,h1,hz,Result.andThen]
  ·rw[ED O.keys h2];simp only[execOp,ho,hρ _ _ hx,hρ _ _ hy,Instr.lookup,Sem.run_bind,run_underlying ht,Result.andThen_ok,getObj,Sem.run_pure,h1,hz];simp[Sem.run,hgw,hc,h1,hz,Result.andThen]
end
end Go.Eng
namespace Go.Eng
open Go.RowKit
variable {m:Hp}
section
variable {e:Entry} {Q:Exit->Act->World->Prop} {ops:Array Oper} {rest:List Oper} {o:Oper} {s:AE} {h:Hp} {ms:List Hp}
theorem QJ{t el:TypeId}{x y:Operand}{v z:Value}{sz bytes g:Nat}{l:List Value}(i k:Nat)(vl:List Value)(ho:o.op=.store t x y)(hs:Elem e.P t sz z bytes)(hx:ev s x=some (.pointer (some ((⟨g,0,none⟩:Addr).add k))))(hy:ev s y=some v)(hv:v.cells=vl.toArray)(hl:vl.length=sz)(h1:∀u∈vl,u.oneCell'=true)
  (hm:ms[i]?=some (BI g el l)) (hk:k+sz<=l.length) (hd:o.dst=none) (hg:o.guard=none)
  (K:WL e ops Q rest s h (ms.set i (BI g el (l.take k++vl++l.drop (k+sz))))):WL e ops Q (o::rest) s h ms:=by
 refine Og (post:=λ_ h' ms'=>h'=h/\ms'=ms.set i (BI g el (l.take k++vl++l.drop (k+sz)))) (λρ w hρ hw=>?_) hd hg λ_ _ _ ⟨e4,e5⟩=>by subst e4 e5;exact K
 subst hl;have hgw:w.heap[g]?=some (.cells l.toArray el (0,0)):=hw.st.own _ (dy hm) g _ (Hp.one_self _ _);have hst:=run_storeCells_at (P:=e.P) g k el vl 0 _ w hgw (by simp only[f5];omega) h1
 have:(execOp ρ o).run e.P w=.ok .skip (w.setRow g (l.take k++vl++l.drop (k+vl.length)).toArray):=by simp[execOp,ho,hρ _ _ hx,hρ _ _ hy,Instr.storeAt,Instr.sureAddr,storeVar,hs.sizeOf,hv,TN];simp at hst;rw[hst];rfl
 unfold OpRes;rw[this];exact⟨h,_,Ends.put hw hm Y ⟨Y,am _⟩ Y σ (setRow_heap w g _ _ _ _ hgw) (λk hk hne=>setRow_other w g k _ hne),rfl,rfl⟩
theorem DA{c:Code}(k:∀h',h.le h'->m.le h'->WS e c Q s h' ms):WS e c Q s h (m::ms):=
 λa w ha hw=>k _ (Hp.le_join _ _) (Hp.join_le_right (hw.st.off m ax)) a w ha (Ends.freeze hw)
theorem Cr{r:List Oper}(k:∀h',h.le h'->m.le h'->WL e ops Q r s h' ms):WL e ops Q r s h (m::ms):=
 λa w ha hw=>k _ (Hp.le_join _ _) (Hp.join_le_right (hw.st.off m ax)) a w ha (Ends.freeze hw)
theorem Ju{x:Exit}(k:∀h',h.le h'->m.le h'->NX e Q x s h' ms):NX e Q x s h (m::ms):=
 λa w ha hw=>k _ (Hp.le_join _ _) (Hp.join_le_right (hw.st.off m ax)) a w ha (Ends.freeze hw)
end
end Go.Eng

namespace Go.Eng
open Go.RowKit
theorem Aa6{κ ν:Type}[BEq κ][LawfulBEq κ]{K:κ->Value}{V:ν->Value}{P:Program}{o:Oper}{s:AE}{h:Hp}{ms:List Hp}{t kt et:TypeId}{x:Operand}{g:Nat}{Ok:κ->Prop}{m:Hp}{T:List (κ×ν)}{bs:List Nat}(O:CF K V g Ok m T bs)(hm:m∈ms)(ho:o.op=.call { callee:=.builtin .len,args:=#[x],argTypes:=#[t] })(ht:P.underlying t=some (.map kt et))(hx:ev s x=some (.map (some g))):OX P o s h ms (.int .i64 T.length):=
 Bs λρ w hρ hw=>by
  obtain⟨es,clock,rfl,he,hb⟩:=O.ex;have hgw:w.heap[g]?=some (.map es clock):=hw.own _ hm g _ (Hp.one_self _ _)
  have hs:es.size=T.length:=by have:=aw List.length he;rw[be,List.length_zip,O.len,Nat.min_self,Array.length_toList]at this;exact this
  simp[execOp,ho,hρ _ _ hx,resolve,invoke,builtin,Builtin.len_,run_underlying ht,goInt,getObj,Sem.run,hgw,Result.andThen,hs]
section
variable {P:Program} {o:Oper} {s:AE} {h:Hp} {ms:List Hp} {e:Entry} {Q:Exit->Act->World->Prop} {ops:Array Oper} {rest:List Oper}
theorem Kw{w0 w:World}{h0 h:Hp}{ms0 ms:List Hp}{m:Hp}(H:Ends w0 h0 ms0 w h (m::ms))(t u ty el:TypeId){sz:Nat}{z:Value}{bytes:Nat}(ht:P.underlying t=some (.slice el))(hu:P.underlying u=some (.int .i64))(hs:Elem P el sz z bytes)(hzs:z.cells.size=sz)(hsz:0<sz)
  {v:Value} {n k:Nat} {cs:List Value} (O:Own el sz m v n cs) (h1:∀u∈(Builtin.zeroCells z.cells k).toList,u.oneCell'=true) (hb:(n+k)*bytes<=140737488355328) (hb63:n+k<=9223372036854775807) :
  ∃v' w' m',(Builtin.append_ #[t,u] ty #[v,.w k]).run P w=.ok v' w'/\Own el sz m' v' (n+k) (cs++(Builtin.zeroCells z.cells k).toList)/\Ends w0 h0 ms0 w' h (m'::ms):=by
 obtain⟨hcl,hO⟩:=O;obtain⟨i,hi,hz,his,hib⟩:=hs.info;have hzl:∀N,(Builtin.zeroCells z.cells N).toList.length=N*sz:=λN=>by rw[Array.length_toList,size_zeroCells,hzs]
 have hwr:IntKind.i64.wrap ((k:Nat):Int)=(k:Int):=Ex ω;have hk0:¬((k:Int)<0):=ω
 have hkb:k*i.bytes<=140737488355328:=bl (du _ (Nat.le_add_left k n)) (by rw[hib];exact hb)
 have hk48:¬(281474976710656<(k:Int)*(i.bytes:Int)):=by
  have:((k*i.bytes:Nat):Int)<=140737488355328:=ω
  rw[fv]at this;omega
 have hw0:IntKind.i64.wrap 0=0:=Ex ω;rcases f9 k with rfl|hk
 ·have hnews:(Builtin.zeroCells z.cells 0).toList=[]:=de (by rw[hzl];simp);rw[hnews];rcases hO with ⟨rfl,rfl,rfl⟩|⟨g,cap,spare,rfl,rfl,e1,e2,e3⟩
  ·refine⟨_,w,_,?_,⟨by simpa using hcl,.inl ⟨rfl,rfl,rfl⟩⟩,H⟩;simp[Builtin.append_,run_underlying ht,run_underlying hu,hs.sizeOf,asInt,asIntOf,typeInfo,hi,storeCells,hw0]
  ·refine⟨_,w,_,?_,⟨by simpa using hcl,.inr ⟨g,cap,spare,rfl,by simp,by simpa using e1,e2,e3⟩⟩,H⟩;simp[Builtin.append_,run_underlying ht,run_underlying hu,hs.sizeOf,asInt,asIntOf,typeInfo,hi,storeCells,hw0,e2]
 ·have hcap:∀old,grownCap w (n+k) old el<=9223372036854775807/\n+k<=grownCap w (n+k) old el:=λold=>
   ⟨grownCap_le_maxLen w (n+k) old el (by simp only[maxLen];omega),grownCap_ge w (n+k) old el⟩
  have hks:¬(k*sz=0):=by have:=Nat.mul_pos hk hsz;omega
  have hk0':k≠0:=ω
  have hsz':sz≠0:=ω
  rcases hO with ⟨rfl,rfl,rfl⟩|⟨g,cap,spare,rfl,rfl,e1,e2,e3⟩
  ·have hc0:cs=[]:=de (by simpa using hcl);subst hc0;simp only[Nat.zero_add,ap]at *;have h48':¬(281474976710656<Builtin.nextslicecap k 0*i.bytes):=by rw[nextslicecap_zero hk];omega
   have h63':¬(9223372036854775807<(k:Int)):=ω
   refine⟨_,w.drew.alloc (.cells (Builtin.zeroCells z.cells k++Builtin.zeroCells z.cells (grownCap w k 0 el-k)) el),_,?_,⟨hzl k,.inr ⟨w.heap.size,grownCap w k 0 el,(Builtin.zeroCells z.cells (grownCap w k 0 el-k)).toList,Y,Y,?_,(hcap 0).2,(hcap 0).1⟩⟩,?_⟩
   ·simp[Builtin.append_,run_underlying ht,run_underlying hu,hs.sizeOf,asInt,asIntOf,typeInfo,zeroValue,hi,hz,hwr,hk0,hk48,hks,hk0',h63',h48',Question.forced,run_firstCells_none,newRow,grownCap]
   ·rw[af,hzl,hzl,<-cw];congr 1;have:=(hcap 0).2;omega
   ·have:=Ends.alloc (Ends.drew (Ends.drop H)) (.cells (Builtin.zeroCells z.cells k++Builtin.zeroCells z.cells (grownCap w k 0 el-k)) el)
    have e:((Builtin.zeroCells z.cells k).toList++(Builtin.zeroCells z.cells (grownCap w k 0 el-k)).toList).toArray=Builtin.zeroCells z.cells k++Builtin.zeroCells z.cells (grownCap w k 0 el-k):=by apply Array.ext';simp
    unfold BI;rw[e];exact this
  ·have hgw:w.heap[g]?=some (.cells (cs++spare).toArray el (0,0)):=H.st.own _ (ax) g _ (Hp.one_self _ _);by_cases hroom:n+k<=cap
   ·have hfit:n*sz+(Builtin.zeroCells z.cells k).toList.length<=(cs++spare).toArray.size:=by
     rw[hzl,f5,e1,<-cw];exact du _ hroom
    have hst:=run_storeCells_at (P:=P) g (n*sz) el (Builtin.zeroCells z.cells k).toList 0 _ w hgw (by rw[Nat.add_zero];exact hfit) h1;refine⟨_,w.setRow g (cs++(Builtin.zeroCells z.cells k).toList++spare.drop (k*sz)).toArray,_,?_,⟨by rw[af,hcl,hzl,cw],.inr ⟨g,cap,spare.drop (k*sz),rfl,rfl,?_,hroom,e3⟩⟩,?_⟩
    ·have ea:(⟨g,0,none⟩:Addr).add (n*sz)=⟨g,n*sz,none⟩:=by unfold Addr.add;split<;>simp_all
     have e5:(List.take (n*sz) (cs++spare).toArray.toList++(Builtin.zeroCells z.cells k).toList++List.drop (n*sz+(Builtin.zeroCells z.cells k).toList.length) (cs++spare).toArray.toList)=cs++(Builtin.zeroCells z.cells k).toList++spare.drop (k*sz):=by
      rw[hzl,<-hcl];have hd:List.drop (cs.length+k*sz) (cs++spare)=spare.drop (k*sz):=by rw[<-List.drop_drop,List.drop_left]
      simp only[List.take_left',hd,cz]
     simp only[Nat.add_zero]at hst;rw[e5]at hst;simp[Builtin.append_,run_underlying ht,run_underlying hu,hs.sizeOf,asInt,asIntOf,typeInfo,zeroValue,hi,hz,hwr,hk0,hk48,hks,hroom,ea]at hst ⊢;rw[hst];rfl
    ·rw[<-e1];simp only[af,bw,hzl]
     have:k*sz<=spare.length:=by rw[hzl,f5,af,<-hcl]at hfit;omega
     omega
    ·exact Ends.change H Y ⟨Y,am _⟩ Y σ (setRow_heap w g _ _ _ _ hgw)<|λj hj hne=>setRow_other w g j _ hne
   ·have holds:∀j u,cs[j]?=some u->w.cell? ((⟨g,0,none⟩:Addr).add j)=some u:=λj u hv=>H.st.cell (Cell.blk (el:=el) (l:=cs++spare) 0 Y (by rw[d5 (br.1 hv).1];exact hv));have hfo:=run_firstCells_some (P:=P) w.drew sz n ⟨g,0,none⟩ n cap cs hcl (by simpa using holds)
    have h48':¬(281474976710656<Builtin.nextslicecap (n+k) cap*i.bytes):=by have:=growslice_fits (need:=n+k) (old:=cap) (bytes:=bytes) ω hb;rw[hib];omega
    have h63':¬(9223372036854775807<(n:Int)+(k:Int)):=ω
    refine⟨_,w.drew.alloc (.cells (cs.toArray++Builtin.zeroCells z.cells k++Builtin.zeroCells z.cells (grownCap w (n+k) cap el-(n+k))) el),_,?_,⟨by rw[af,hcl,hzl,cw],.inr ⟨w.heap.size,grownCap w (n+k) cap el,(Builtin.zeroCells z.cells (grownCap w (n+k) cap el-(n+k))).toList,rfl,rfl,?_,(hcap cap).2,(hcap cap).1⟩⟩,?_⟩
    ·simp[Builtin.append_,run_underlying ht,run_underlying hu,hs.sizeOf,asInt,asIntOf,typeInfo,zeroValue,hi,hz,hwr,hk0,hk48,hks,hroom,h63',h48',Question.forced,hfo,newRow,grownCap]
    ·rw[af,af,hzl,hzl,hcl,<-cw,<-cw];congr 1;have:=(hcap cap).2;omega
    ·have:=Ends.alloc (Ends.drew (Ends.drop H)) (.cells (cs.toArray++Builtin.zeroCells z.cells k++Builtin.zeroCells z.cells (grownCap w (n+k) cap el-(n+k))) el)
     have e:(cs++(Builtin.zeroCells z.cells k).toList++(Builtin.zeroCells z.cells (grownCap w (n+k) cap el-(n+k))).toList).toArray=cs.toArray++Builtin.zeroCells z.cells k++Builtin.zeroCells z.cells (grownCap w (n+k) cap el-(n+k)):=by apply Array.ext';simp
     unfold BI;rw[e];exact this
end
end Go.Eng
namespace Go.Eng
open Go.RowKit
theorem YX{α:Type}{P E S vl:List α}{p off n:Nat}(hP:P.length=p)(hn:vl.length=n)(hE:off+n<=E.length):(P++(E++S)).take (p+off)++vl++(P++(E++S)).drop (p+off+n)=P++((E.take off++vl++E.drop (off+n))++S):=by subst hP;rw[Nat.add_assoc,List.take_length_add_append,List.drop_length_add_append,List.take_append_of_le_length ω,List.drop_append_of_le_length ω];simp only[cz]
section
variable {e:Entry} {Q:Exit->Act->World->Prop} {ops:Array Oper} {rest:List Oper} {o:Oper} {s:AE} {h:Hp} {ms:List Hp} {α:Type} {F:α->List Value} {l:List α} {v:Value} {m:Hp} {el:TypeId} {sz:Nat}
theorem OH{t:TypeId}{x y:Operand}{u z:Value}{bytes n:Nat}(i j off:Nat)(a:α)(vl:List Value)(O:OwnL F sz el m v l)(ho:o.op=.store t x y)(hs:Elem e.P t n z bytes)(hx:ev s x=some (.pointer (some (((AH v).add (j*sz)).add off))))(hy:ev s y=some u)(hv:u.cells=vl.toArray)(hl:vl.length=n)(h1:∀c∈vl,c.oneCell'=true)
  (hm:ms[i]?=some m) (hj:j<l.length) (hoff:off+n<=sz) (hFa:F a=(F l[j]).take off++vl++(F l[j]).drop (off+n)) (hd:o.dst=none) (hg:o.guard=none)
  (K:∀m',OwnL F sz el m' v (l.set j a)->WL e ops Q rest s h (ms.set i m')):WL e ops Q (o::rest) s h ms:=by
 obtain⟨⟨h2,h3⟩,hF⟩:=O;rcases h3 with ⟨rfl,h4,rfl⟩|⟨g,cap,spare,rfl,rfl,e1,e2,e3⟩
 ·rw[h4]at hj;simp at hj
 ·have hle:(j+1)*sz<=l.length*sz:=du sz hj;have hjs:(j+1)*sz=j*sz+sz:=by rw[cw,fp]
  have hx':ev s x=some (.pointer (some ((⟨g,0,none⟩:Addr).add (j*sz+off)))):=by rw[hx];show some (Value.pointer (some (((⟨g,0,none⟩:Addr).add (j*sz)).add off)))=_;rw[BF]
  have hP:((l.take j).flatMap F).length=j*sz:=by rw[BY hF,ay,fu (Nat.le_of_lt hj)]
  have hsp:l.flatMap F++spare=(l.take j).flatMap F++(F l[j]++((l.drop (j+1)).flatMap F++spare)):=by
   have e0:l.flatMap F=(l.take j).flatMap F++(F l[j]++(l.drop (j+1)).flatMap F):=by
    have e1:l=l.take j++l[j]::l.drop (j+1):=by rw[<-eo hj,dp]
    have e2:=aw (λq=>q.flatMap F) e1;simp only[dx,fc]at e2;exact e2
   rw[e0];simp only[cz]
  have hst:(l.set j a).flatMap F++spare=(l.take j).flatMap F++(F a++((l.drop (j+1)).flatMap F++spare)):=by rw[List.set_eq_take_append_cons_drop,ah hj,dx,fc];simp only[cz]
  have hlen:(l.flatMap F++spare).length=l.length*sz+spare.length:=by rw[af,BY hF]
  refine QJ i (j*sz+off) vl ho hs hx' hy hv hl h1 hm ω hd hg ?_
  have key:(l.flatMap F++spare).take (j*sz+off)++vl++(l.flatMap F++spare).drop (j*sz+off+n)=(l.set j a).flatMap F++spare:=by rw[hsp,hst,hFa];exact YX hP hl (by rw[hF];exact hoff)
  rw[key];refine K _ ⟨⟨?_,.inr ⟨g,cap,spare,by rw[ff],rfl,?_,by rw[ff];omega,e3⟩⟩,hF⟩
  ·rw[BY hF,ff]
  ·rw[af,BY hF,ff,<-BY hF l,<-af];exact e1
end
end Go.Eng
namespace Go.Eng
open Go.RowKit
variable {c:Code}
theorem Ac7{e:Entry}{Q:Exit->Act->World->Prop}{s:AE}{h:Hp}{ms ms':List Hp}(g:Goes ms ms')(k:WS e c Q s h ms'):WS e c Q s h ms:=λa w ha hw=>k a w ha (g _ _ _ _ _ hw)
theorem MP{e:Entry}{Q:Exit->Act->World->Prop}{s:AE}{h:Hp}{ms:List Hp}{m:Hp}(k:∀h',h.le h'->m.le h'->WS e c Q s h' ms):WS e c Q s h (m::ms):=
 λa w ha hw=>k _ (Hp.le_join _ _) (Hp.join_le_right (hw.st.off m ax)) a w ha (Ends.freeze hw)
theorem Goes.drp(a:Hp)(ms:List Hp):Goes (a::ms) ms:=λ_ _ _ _ _ x=>x.drop
theorem Y3{e:Entry}{Q:Exit->Act->World->Prop}{s:AE}{h:Hp}{ms:List Hp}{m:Hp}(k:WS e c Q s h ms):WS e c Q s h (m::ms):=Ac7 (Goes.drp m ms) k
end Go.Eng

namespace Go.Eng
open Go.RowKit
theorem OwnL.rdm{α:Type}{F:α->List Value}{sz:Nat}{el:TypeId}{y m h:Hp}{ms:List Hp}{v:Value}{l:List α}(O:OwnL F sz el y v l)(hy:y.le m)(hm:m∈ms):RdL F sz h ms v l:=by
 obtain⟨⟨h1,h2⟩,hF⟩:=O;refine⟨?_,hF⟩;rcases h2 with ⟨rfl,h4,rfl⟩|⟨g,cap,spare,rfl,rfl,e1,e2,e3⟩
 ·rw[h4]at h1 ⊢;exact⟨none,0,Y,am _,ω,h1,λh=>ω⟩
 ·refine⟨_,cap,Y,e2,e3,h1,λ_=>⟨_,Y,λj v hv=>?_⟩⟩;refine⟨by unfold Addr.add;split<;>rfl,(l.flatMap F++spare).toArray,el,(0,0),.inr ⟨m,hm,hy _ _ ?_⟩,?_⟩
  ·rw[CK];exact Hp.one_self _ _
  ·have e:((⟨g,0,none⟩:Addr).add j).off=j:=by rw[TN]
   rw[e,gr,d5 (br.1 hv).1];exact hv
theorem OwnL.pre{α:Type}{F:α->List Value}{sz:Nat}{el:TypeId}{m:Hp}{v:Value}{l:List α}(O:OwnL F sz el m v l){n:Nat}(hn:n<=l.length):OwnL F sz el m (CP sz v 0 n) (l.take n):=by
 obtain⟨⟨h1,h2⟩,hF⟩:=O;have hl:(l.take n).length=n:=by rw[ay];omega
 refine⟨⟨BY hF _,?_⟩,hF⟩;rcases h2 with ⟨rfl,h4,rfl⟩|⟨g,cap,spare,rfl,rfl,e1,e2,e3⟩
 ·have:n=0:=ω
  subst this;exact .inl ⟨Y,by simp,rfl⟩
 ·have hv:CP sz (.slice (some ⟨g,0,none⟩) l.length cap) 0 n=.slice (some ⟨g,0,none⟩) n cap:=by
   unfold CP;by_cases h0:cap=0
   ·subst h0;rfl
   ·show Value.slice (if cap=0 then _ else _) (n-0) (cap-0)=_;rw[ae h0,Nat.zero_mul];rfl
  have hsp:l.flatMap F=(l.take n).flatMap F++(l.drop n).flatMap F:=by rw[<-dx,dp]
  refine .inr ⟨g,cap,(l.drop n).flatMap F++spare,by rw[hl];exact hv,by rw[<-cz,<-hsp],by rw[<-cz,<-hsp];exact e1,by rw[hl];omega,e3⟩
section
variable {P:Program} {o:Oper} {s:AE} {h:Hp} {ms:List Hp} {t u:TypeId} {x y:Operand} {n:Nat} {k:IntKind}
theorem Ab5(ho:o.op=.binOp .shl t x y u)(hx:ev s x=some (.int .i64 1))(hy:ev s y=some (.int k n))(hn:n<=60):OX P o s h ms (.int .i64 ((2^n:Nat):Int)):=
 Bs λρ w hρ _=>by
  have h1:¬((n:Int)<0):=ω
  have h2:min n 64=n:=fu ω;have h4:2^n<=2^60:=Nat.pow_le_pow_right δ hn
  have h3:IntKind.i64.wrap ((1:Int)*2^n)=((2^n:Nat):Int):=by rw[gy,show(2:Int)^n=((2^n:Nat):Int) by simp];generalize 2^n=N at h4;exact Ex ω
  simp only[gy]at h3;simp[execOp,ho,hρ _ _ hx,hρ _ _ hy,Op.shift,h1,IntKind.bits,h2,h3,go_sem]
end
end Go.Eng
namespace Go.Eng
open Go.RowKit
variable {kt et:TypeId} {x y:Operand}
section
variable {κ ν:Type} [DecidableEq κ] {K:κ->Value} {V:ν->Value} {Ok:κ->Prop} {t:TypeId} {g:Nat} {m:Hp} {T:List (κ×ν)} {bs:List Nat} {P:Program}
variable {o:Oper} {s:AE} {h:Hp} {ms:List Hp}
theorem PH{z:ν}(a:κ)(L:Nj P kt K Ok)(O:CF K V g Ok m T bs)(hm:m.le h)(ho:o.op=.lookup t x y true)(ht:P.underlying t=some (.map kt et))(hz:∀w,(zeroValue et).run P w=.ok (V z) w)(hx:ev s x=some (.map (some g)))(hy:ev s y=some (K a))(ha:Ok a) :
  OX P o s h ms (.tuple #[V ((BJ T a).getD z),.bool (BJ T a).isSome]):=
 Bs λρ w hρ hw=>by
  obtain⟨es,clock,rfl,he,hb⟩:=O.ex;have hgw:w.heap[g]?=some (.map es clock):=hw.imm g _ (hm g _ (Hp.one_self _ _));obtain⟨l,hk⟩:=L.key a ha;have hc:=L.law.check w es.isEmpty hk;rcases If L O.keys O.ok O.len he w a ha with ⟨h1,h2⟩|⟨j,u,b,h1,h2,_,_⟩
  ·rw[DZ h2];simp only[execOp,ho,hρ _ _ hx,hρ _ _ hy,Instr.lookup,Sem.run_bind,run_underlying ht,Result.andThen_ok,getObj,Sem.run_pure,h1,hz];simp[Sem.run,hgw,hc,h1,hz,Result.andThen]
  ·rw[ED O.keys h2];simp only[execOp,ho,hρ _ _ hx,hρ _ _ hy,Instr.lookup,Sem.run_bind,run_underlying ht,Result.andThen_ok,getObj,Sem.run_pure,h1,hz];simp[Sem.run,hgw,hc,h1,hz,Result.andThen]
theorem J5{z u:ν}{b:Bool}(a:κ)(hu:(BJ T a).getD z=u)(hb:(BJ T a).isSome=b)(L:Nj P kt K Ok)(O:CF K V g Ok m T bs)(hm:m.le h)(ho:o.op=.lookup t x y true)(ht:P.underlying t=some (.map kt et))(hz:∀w,(zeroValue et).run P w=.ok (V z) w)(hx:ev s x=some (.map (some g)))(hy:ev s y=some (K a))(ha:Ok a) :
 OX P o s h ms (.tuple #[V u,.bool b]):=by rw[<-hu,<-hb];exact PH a L O hm ho ht hz hx hy ha
theorem DH{z u:ν}(a:κ)(hu:(BJ T a).getD z=u)(L:Nj P kt K Ok)(O:CF K V g Ok m T bs)(hm:m.le h)(ho:o.op=.lookup t x y false)(ht:P.underlying t=some (.map kt et))(hz:∀w,(zeroValue et).run P w=.ok (V z) w)(hx:ev s x=some (.map (some g)))(hy:ev s y=some (K a))(ha:Ok a) :
 OX P o s h ms (V u):=by rw[<-hu];exact Gh a L O hm ho ht hz hx hy ha
theorem DR{z u:ν}(a:κ)(hu:(BJ T a).getD z=u)(L:Nj P kt K Ok)(O:CF K V g Ok m T bs)(hm:m∈ms)(ho:o.op=.lookup t x y false)(ht:P.underlying t=some (.map kt et))(hz:∀w,(zeroValue et).run P w=.ok (V z) w)(hx:ev s x=some (.map (some g)))(hy:ev s y=some (K a))(ha:Ok a) :
 OX P o s h ms (V u):=by rw[<-hu];exact Kt a L O hm ho ht hz hx hy ha
end
end Go.Eng
namespace Go.Eng
open Go.RowKit
variable {e:Entry}
def ItrS(P:Program)(gf:FuncId)(lb:List Value)(h:Hp)(N:Nat)(enc:Nat->List Value):Prop:=
 ∀(lp:Nat) (X Y:Nat->Hp->List Hp->Prop) (h1:Hp) (ms:List Hp),h.le h1->(∀k h2 ms2,k<N->h1.le h2->X k h2 ms2->YdT P lp (enc k).toArray h2 ms2 (fun r h' ms'=>(r=.bool true/\X (k+1) h' ms')\/(r=.bool false/\Y k h' ms')))->X 0 h1 ms →
  FnT P gf ([Value.func (.yield lp) #[] #[]]++lb).toArray h1 ms (fun _ h' ms'=>X N h' ms'\/∃k,k<N/\Y k h' ms')
abbrev Adv(e:Entry)(I I2:AE->Hp->List Hp->Prop):Exit->Act->World->Prop:=Exit.then (Inv e I) (λx a w=>x=.ret/\Inv e I2 a w)
theorem Aa1{I I2:AE->Hp->List Hp->Prop}:¬LetsOut (Adv e I I2):=λ⟨_,_,h,_⟩=>by cases h
theorem Aa4{I I2:AE->Hp->List Hp->Prop}{s:AE}{h:Hp}{ms:List Hp}(s':AE)(hI:I2 s' h ms)(hs:Sub s' s):NX e (Adv e I I2) .ret s h ms:=
 λa w ha hw=>⟨rfl,s',h,ms,hI,ha.sub hs,hw⟩
theorem Jb{Q:Exit->Act->World->Prop}{s:AE}{h:Hp}{ms:List Hp}{t gf:Nat}{lb:List Value}{ps:List Nat}{assign body:Code}(J Jr:Nat->Hp->List Hp->Prop)(A:Nat->AE->Hp->List Hp->Prop){N:Nat}{enc:Nat->List Value}
  (hg:lk s t=some (.func (.func gf) #[] lb.toArray)) (hc:∀az w,(callFunc gf az).run e.P w=.ok (.enter gf az) w) (hit:ItrS e.P gf lb h N enc) (hps:∀k,(enc k).length=ps.length) (hpn:ps.all (λp=>Nat.blt p e.n)=true)
  (h0:J 0 h ms)
  (hA:∀w0 k h1 ms1,k<N->h.le h1->J k h1 ms1->RS ⟨e.P,w0,h1,ms1,e.n,[]⟩ assign (SS ⟨e.P,w0,h1,ms1,e.n,[]⟩ (A k)) (Lx ps (enc k) s) h1 ms1)
  (hB:∀w0 k s1 h1 ms1,k<N->h.le h1->A k s1 h1 ms1->RS ⟨e.P,w0,h1,ms1,e.n,[]⟩ body (Adv ⟨e.P,w0,h1,ms1,e.n,[]⟩ (λ_=>J (k+1)) (λ_=>Jr k)) s1 h1 ms1)
  (hK:∀D h1 ms1,h.le h1->J N h1 ms1->NX ⟨e.P,e.w0,e.h0,e.ms0,e.n,D::e.ds⟩ Q .normal s h1 (ms1++[Mk D]))
  (hR:∀D k h1 ms1,k<N->h.le h1->Jr k h1 ms1->NX ⟨e.P,e.w0,e.h0,e.ms0,e.n,D::e.ds⟩ Q .ret s h1 (ms1++[Mk D])) :
  WS e (.rangeFunc (.tmp t) ps.toArray assign body) Q s h ms:=by
 intro a w ha hw;refine(wpIn_wide (n:=0)).1 (wpIn_rangeFunc λfn _=>?_);have hge:a.eval (.tmp t)=.func (.func gf) #[] lb.toArray:=ha.eval (.tmp t) _ hg;obtain⟨rec,hrec⟩:∃rec:LoopState->Loop,rec=λst=>{ state:=st,pending:=none,fn,tmps:=a.tmps,params:=ps.toArray,assign,body,defers:=w.heap.size }:=⟨_,Y⟩
 obtain⟨recD,hrecD⟩:∃recD:Loop,recD={ state:=.done,pending:=some .ret,fn,tmps:=a.tmps,params:=ps.toArray,assign,body,defers:=w.heap.size }:=⟨_,Y⟩
 obtain⟨l,hl⟩:∃l,l=w.heap.size+1:=⟨_,Y⟩
 obtain⟨W1,hW1⟩:∃W1,(w.alloc (.deferred (some []))).alloc (.loop (rec .ready))=W1:=⟨_,Y⟩
 have hE1:e.Ends W1 h (ms++[Hp.one l (.loop (rec .ready)),Mk w.heap.size]):=by
  have h2:=(hw.alloc (.deferred (some []))).alloc (.loop (rec .ready));rw[World.size_alloc,<-hl,hW1]at h2
  exact h2.perm (by
   refine List.Perm.trans ?_ df
   exact fo _)
 refine⟨l,[{ target:=.collected w.heap.size,args:=#[] }],W1,{ target:=.fn (.func gf) lb.toArray,args:=#[.func (.yield l) #[] #[]] },W1,gf,([Value.func (.yield l) #[] #[]]++lb).toArray,W1,?_,?_,λ_ _=>ej,?_,(λh=>by cases h),?_⟩
 ·rw[<-hW1,hrec,hl];exact run_enterLoop_outer _ _ _ _ _
 ·simp only[resolve,hge];simp[go_sem]
 ·simp[invoke,go_sem,hc]
 ·refine(callsIn_wide (n:=0)).2 ((hit l (λk h1 ms1=>h.le h1/\∃ms2,ms1=ms2++[Hp.one l (.loop (rec .ready)),Mk w.heap.size]/\J k h1 ms2) (λk h1 ms1=>h.le h1/\∃ms2,ms1=ms2++[Hp.one l (.loop recD),Mk w.heap.size]/\Jr k h1 ms2) h _ (Hp.le_refl _) ?_ ⟨Hp.le_refl _,ms,Y,h0⟩ W1 hE1.st).mono ?_)
  ·-- a round
   rintro k h2 ms2 hkN hl2 ⟨_,ms2,rfl,hJ⟩ w2 hS2;have hlo:w2.heap[l]?=some (.loop (rec .ready)):=hS2.own _ σ l _ (Hp.one_self _ _);have hy:=run_yield (P:=e.P) (args:=(enc k).toArray) hlo (by rw[hrec];simpa using hps k);refine⟨_,_,_,_,hy,?_⟩;have r1:(rec .ready).params=ps.toArray:=by rw[hrec]
   have r2:(rec .ready).tmps=a.tmps:=by rw[hrec]
   have r3:(rec .ready).assign=assign:=by rw[hrec]
   have r4:(rec .ready).body=body:=by rw[hrec]
   rw[r1,r2,r3,r4];refine roundIn_of_wpIn ej ?_;have hSp:St w2 h2 ms2:=hS2.pre
   have hHas:Has e.n [] { tmps:=(ps.toArray.zip (enc k).toArray).foldl (λt (p,v)=>t.setIfInBounds p v) a.tmps,defers:=[] } (Lx ps (enc k) s):=by
    have e1:(ps.toArray.zip (enc k).toArray).foldl (λt (p,v)=>t.setIfInBounds p v) a.tmps=(ps.zip (enc k)).foldl (λt (p,v)=>t.setIfInBounds p v) a.tmps:=by simp
    rw[e1];exact JU Y ps (enc k) s a.tmps (λp hp=>di<|d7.1 hpn p hp) ⟨Y,ha.size,ha.slots⟩
   refine wpIn_mono (hA w2 k h2 ms2 hkN hl2 hJ l (LoopAt.of (r:=rec .ready) (rest:=[Mk w.heap.size]) hS2) _ w2 hHas (Ends.refl hSp) Ht) ?_;intro x a1 w3 hx;cases x with
   | normal=>
    obtain⟨s3,h3,ms3,hA3,hHas3,hE3⟩:=hx;have hEf:Ends w2 h2 (ms2++[Hp.one l (.loop (rec .ready)),Mk w.heap.size]) w3 h3 (ms3++[Hp.one l (.loop (rec .ready)),Mk w.heap.size]):=Ends.call (Ends.refl hS2) hE3;have hEp:=hEf.perm (ms':=Hp.one l (.loop (rec .ready))::Mk w.heap.size::ms3) df;have hl3:w3.heap[l]?=some (.loop (rec .ready)):=hEp.st.own _ (ax) l _ (Hp.one_self _ _);have hE4:=Ends.putL (.loop (rec .busy)) hEp;refine⟨_,run_beginRound hl3 (by rw[hrec]),?_⟩;have e2:({ rec .ready with state:=.busy }:Loop)=rec .busy:=by rw[hrec]
    rw[e2];have hE4':=hE4.perm (ms':=ms3++[Hp.one l (.loop (rec .busy)),Mk w.heap.size]) (df (l₁:=[_,_]));refine wpIn_mono (hB _ k s3 h3 ms3 hkN (Hp.le_trans hl2 hE3.le) hA3 l (LoopAt.of (r:=rec .busy) (rest:=[Mk w.heap.size]) hE4'.st) a1 _ hHas3 (Ends.refl hE4'.st.pre) Aa1) ?_;intro y a2 w5 hy5;cases y with
    | normal=>
     obtain⟨s5,h5,ms5,hJ5,_,hE5⟩:=hy5;have hE6:=Ends.call hE4' hE5;have hE6p:=hE6.perm (ms':=Hp.one l (.loop (rec .busy))::Mk w.heap.size::ms5) df;have hl6:w5.heap[l]?=some (.loop (rec .busy)):=hE6p.st.own _ (ax) l _ (Hp.one_self _ _);refine⟨_,_,run_endRound none hl6,?_⟩;have e3:({ rec .busy with state:=if(none:Option Code).isNone then .ready else .done,pending:=none }:Loop)=rec .ready:=by rw[hrec];rfl
     rw[e3];exact⟨_,h5,_,Y,(Ends.putL (.loop (rec .ready)) hE6p).perm (df (l₁:=[_,_])),.inl ⟨Y,Hp.le_trans hl2 (Hp.le_trans hE3.le hE5.le),ms5,Y,hJ5⟩⟩
    | ret=>
     obtain⟨_,s5,h5,ms5,hJ5,_,hE5⟩:=hy5;have hE6:=Ends.call hE4' hE5;have hE6p:=hE6.perm (ms':=Hp.one l (.loop (rec .busy))::Mk w.heap.size::ms5) df;have hl6:w5.heap[l]?=some (.loop (rec .busy)):=hE6p.st.own _ (ax) l _ (Hp.one_self _ _);refine⟨_,_,run_endRound (some .ret) hl6,?_⟩;have e3:({ rec .busy with state:=if(some Code.ret:Option Code).isNone then .ready else .done,pending:=some .ret }:Loop)=recD:=by rw[hrec,hrecD];rfl
     rw[e3];exact⟨_,h5,_,Y,(Ends.putL (.loop recD) hE6p).perm (df (l₁:=[_,_])),.inr ⟨Y,Hp.le_trans hl2 (Hp.le_trans hE3.le hE5.le),ms5,Y,hJ5⟩⟩
    | _=>exact ie hy5.1 σ
   | _=>exact hx
  ·rintro x w3 ⟨r,h3,ms3,rfl,hE3,⟨hl3,ms4,rfl,hJ⟩|⟨k,hkN,hl3,ms4,rfl,hJ⟩⟩
   ·have hE4:=Ends.call (fr:=[]) (by rw[d6];exact hE1) hE3;rw[d6]at hE4;have hE5:=hE4.perm (ms':=Hp.one l (.loop (rec .ready))::Mk w.heap.size::ms4) df;have hl5:w3.heap[l]?=some (.loop (rec .ready)):=hE5.st.own _ (ax) l _ (Hp.one_self _ _);refine⟨_,_,run_endLoop hl5 (by rw[hrec];simp),?_⟩;have e4:(rec .ready).pending=none:=by rw[hrec]
    rw[e4];exact hK w.heap.size h3 ms4 hl3 hJ { a with defers:=[{ target:=.collected w.heap.size,args:=#[] }]++a.defers } _ ⟨by show [_]++a.defers=_;rw[ha.defers];rfl,ha.size,ha.slots⟩ ((Ends.putL _ hE5).drop.perm<|df (l₁:=[_]))
   ·have hE4:=Ends.call (fr:=[]) (by rw[d6];exact hE1) hE3;rw[d6]at hE4;have hE5:=hE4.perm (ms':=Hp.one l (.loop recD)::Mk w.heap.size::ms4) df;have hl5:w3.heap[l]?=some (.loop recD):=hE5.st.own _ (ax) l _ (Hp.one_self _ _);refine⟨_,_,run_endLoop hl5 (by rw[hrecD];simp),?_⟩;have e4:recD.pending=some .ret:=by rw[hrecD]
    rw[e4];exact wpIn_ret<|hR w.heap.size k h3 ms4 hkN hl3 hJ { a with defers:=[{ target:=.collected w.heap.size,args:=#[] }]++a.defers } _ ⟨by show [_]++a.defers=_;rw[ha.defers];rfl,ha.size,ha.slots⟩ ((Ends.putL _ hE5).drop.perm<|df (l₁:=[_]))
end Go.Eng
namespace Go.Eng
open Go.RowKit
variable {a b n bytes sz:Nat} {r:Int} {el:TypeId} {z:Value}
def sv(l:List UInt8):Value:=.string ⟨l.toArray⟩
theorem B8(l:List UInt8):(sv l).oneCell'=true:=rfl
def cU8(b:UInt8):List Value:=[.int .u8 (b.toNat:Int)]
def CU(n:Nat):List Value:=[.int .u64 (n:Int)]
theorem GA:∀n,(cU8 n).length=1:=λ_=>rfl
theorem HX:∀n,(CU n).length=1:=λ_=>rfl
section
variable {P:Program} {o:Oper} {s:AE} {h:Hp} {ms:List Hp} {t u:TypeId} {x y:Operand} {l l':List UInt8} {k:IntKind}
theorem XK(ho:o.op=.call { callee:=.builtin .len,args:=#[x],argTypes:=#[t] })(ht:P.underlying t=some .string)(hx:ev s x=some (sv l)):OX P o s h ms (.int .i64 l.length):=
 Bs λρ w hρ _=>by have:=run_len_string w t 0 ⟨l.toArray⟩ ht;simp[execOp,ho,hρ _ _ hx,resolve,invoke,builtin,sv,Builtin.len_,run_underlying ht,goInt];rfl
theorem HI(n:Nat)(hn:l.length=n)(ho:o.op=.call { callee:=.builtin .len,args:=#[x],argTypes:=#[t] })(ht:P.underlying t=some .string)(hx:ev s x=some (sv l)):OX P o s h ms (.int .i64 n):=by subst hn;exact XK ho ht hx
theorem IM{i:Int}(j:Nat)(ho:o.op=.index t x y)(ht:P.underlying t=some .string)(hx:ev s x=some (sv l))(hy:ev s y=some (.int k i))(hi:i=(j:Int))(hlt:j<l.length):OX P o s h ms (.int .u8 ((l[j].toNat:Nat):Int)):=
 Bs λρ w hρ _=>by
  have h1:=run_index_string (P:=P) w t ⟨l.toArray⟩ k i ht
  have h2:0<=i/\i<((⟨l.toArray⟩:ByteArray).size:Int):=by refine⟨ω,?_⟩;show i<((l.toArray.size:Nat):Int);rw[f5];omega
  rw[dif_pos h2]at h1;subst hi;simp only[execOp,ho,hρ _ _ hx,hρ _ _ hy,sv,Sem.run_bind,h1];rfl
theorem G7(ho:o.op=.binOp .neq t x y u)(hx:ev s x=some (sv l))(hy:ev s y=some (sv l')):OX P o s h ms (.bool (decide (l≠l'))):=
 Bs λρ w hρ _=>by
  have e:(!(l==l'))=decide (l≠l'):=by
   by_cases h:l=l'
   ·subst h;simp
   ·simp[h]
  simp[execOp,ho,hρ _ _ hx,hρ _ _ hy,sv,binOp_string_neq,e,ByteArray.toList_eq,eqGuard_at_string]
theorem Aep(ho:o.op=.binOp .or t x y u)(hx:ev s x=some (.int .u64 a))(hy:ev s y=some (.int .u64 b))(ha:a<18446744073709551616)(hb:b<18446744073709551616):OX P o s h ms (.int .u64 ((a ||| b:Nat):Int)):=
 Bs λρ w hρ _=>by
  have h0:a ||| b<2^64:=Nat.or_lt_two_pow ω ω
  have h3:IntKind.u64.wrap (((BitVec.ofNat 64 a) ||| (BitVec.ofNat 64 b)).toNat:Int)=((a ||| b:Nat):Int):=by rw[BitVec.toNat_or,BitVec.toNat_ofNat,BitVec.toNat_ofNat,db ω,db ω];exact Ev ω
  simp[execOp,ho,hρ _ _ hx,hρ _ _ hy,Op.intBits,IntKind.bits,go_sem];exact h3
theorem DU{k':IntKind}{d:TypeDesc}{a:Int}(he:k'.wrap a=r)(ho:o.op=.convert t u x)(ht:P.underlying t=some d)(hu:P.underlying u=some (.int k'))(hx:ev s x=some (.int k a)):OX P o s h ms (.int k' r):=by subst he;exact Ec ho ht hu hx
theorem VW{a:Int}(he:k.wrap (-a)=r)(ho:o.op=.unOp .neg t x)(hx:ev s x=some (.int k a)):OX P o s h ms (.int k r):=by subst he;exact Abm ho hx
theorem IF(he:((a &&& b:Nat):Int)=r)(ho:o.op=.binOp .and t x y u)(hx:ev s x=some (.int .u64 a))(hy:ev s y=some (.int .u64 b))(ha:a<18446744073709551616)(hb:b<18446744073709551616):OX P o s h ms (.int .u64 r):=by subst he;exact Aca ho hx hy ha hb
theorem IA(he:((a/2^n:Nat):Int)=r)(ho:o.op=.binOp .shr t x y u)(hx:ev s x=some (.int .u64 a))(hy:ev s y=some (.int k n))(hn:n<=64):OX P o s h ms (.int .u64 r):=by subst he;exact GG ho hx hy hn
theorem Va(he:((a*2^n%18446744073709551616:Nat):Int)=r)(ho:o.op=.binOp .shl t x y u)(hx:ev s x=some (.int .u64 a))(hy:ev s y=some (.int k n))(hn:n<=64):OX P o s h ms (.int .u64 r):=by subst he;exact Abu ho hx hy hn
theorem YN(he:((a ||| b:Nat):Int)=r)(ho:o.op=.binOp .or t x y u)(hx:ev s x=some (.int .u64 a))(hy:ev s y=some (.int .u64 b))(ha:a<18446744073709551616)(hb:b<18446744073709551616):OX P o s h ms (.int .u64 r):=by subst he;exact Aep ho hx hy ha hb
theorem OK(ho:o.op=.binOp .quo t x y u)(hx:ev s x=some (.int .u64 a))(hy:ev s y=some (.int .u64 b))(ha:a<18446744073709551616)(hb:0<b):OX P o s h ms (.int .u64 ((a/b:Nat):Int)):=by
 have h1:((a:Int).tdiv (b:Int))=((a/b:Nat):Int):=by rw[Int.tdiv_eq_ediv_of_nonneg (Int.natCast_nonneg a)];rfl
 have h2:a/b<=a:=Nat.div_le_self a b
 have h3:IntKind.u64.wrap ((a:Int).tdiv (b:Int))=((a/b:Nat):Int):=by rw[h1];refine Ev ⟨Int.natCast_nonneg _,?_⟩;have:((a/b:Nat):Int)<=(a:Int):=Int.ofNat_le.2 h2;omega
 have:=Vh (P:=P) (h:=h) (ms:=ms) ho hx hy ω
 rwa [h3]at this
theorem Pu(ho:o.op=.binOp .rem t x y u)(hx:ev s x=some (.int .u64 a))(hy:ev s y=some (.int .u64 b))(hb:0<b):OX P o s h ms (.int .u64 ((a%b:Nat):Int)):=by
 have:=C6 (P:=P) (h:=h) (ms:=ms) ho hx hy ω ω
 rwa [<-Int.natCast_emod]at this
theorem Lc(he:IntKind.u64.wrap ((a:Int)+b)=r)(ho:o.op=.binOp .add t x y u)(hx:ev s x=some (.int .u64 a))(hy:ev s y=some (.int .u64 b)):OX P o s h ms (.int .u64 r):=by subst he;exact Bs λρ w hρ _=>by simp[execOp,ho,hρ _ _ hx,hρ _ _ hy,Op.intArith,go_sem]
theorem Vf(he:IntKind.u64.wrap ((a:Int)-b)=r)(ho:o.op=.binOp .sub t x y u)(hx:ev s x=some (.int .u64 a))(hy:ev s y=some (.int .u64 b)):OX P o s h ms (.int .u64 r):=by subst he;exact Bs λρ w hρ _=>by simp[execOp,ho,hρ _ _ hx,hρ _ _ hy,Op.intArith,go_sem]
theorem Ls:∀l:List UInt8,l.flatMap cU8=(l.map λb=>(b.toNat:Int)).map (Value.int .u8)
 | []=>rfl
 | b::l=>by rw[fc,dr,dr,Ls l];rfl
theorem Rx{e:TypeId}{v:Value}(R:Rd h ms v 1 n (l.flatMap cU8))(hl:l.length=n)(ho:o.op=.convert t u x)(ht:P.underlying t=some (.slice e))(he:P.underlying e=some (.int .u8))(hu:P.underlying u=some .string)(hx:ev s x=some v):OX P o s h ms (sv l):=
 Bs λρ w hρ hw=>by
  obtain⟨a,c,rfl,e2,e3,e4,e5⟩:=R.ex;subst hl;have hfm:=Ls l
  have hs:strOfNums (l.map λb=>(b.toNat:Int))=⟨l.toArray⟩:=by unfold strOfNums;rw[gg];congr 2;exact(gc λb _=>by simp).trans (List.map_id _)
  have key:(convert t u (.slice a l.length c)).run P w=.ok (sv l) w:=by
   cases a with
   | none=>
    have:l=[]:=by
     rcases f9 l.length with h|h
     ·exact fm.1 h
     ·obtain⟨q,h1,_⟩:=e5 h;cases h1
    subst this;exact run_convert_bytes_nil w t e ht he _ _ u hu
   | some q=>
    rw[run_convert_bytes_string w t u e _ _ _ ht he hu]
    have hc:∀j v,((l.map λb=>(b.toNat:Int)).map (Value.int .u8))[j]?=some v->w.cell? (q.add j)=some v:=by
     rw[<-hfm];rcases f9 l.length with h|h
     ·intro j v hv;rw[fm.1 h]at hv;simp at hv
     ·obtain⟨q',h1,h2⟩:=e5 h;cases h1;exact λj v hv=>hw.cell<|h2 j v hv
    have h1:=run_loadCells_list (P:=P) w q _ hc;rw[be,be]at h1;rw[run_bytesToString w q _ c _ h1,foldl_push_bytes]
    have:(ByteArray.empty.data++((l.map λb=>(b.toNat:Int)).map λn=>UInt8.ofNat n.toNat).toArray)=l.toArray:=by have:=aw ByteArray.data hs;simpa[strOfNums] using this
    rw[this];rfl
  simp only[execOp,ho,hρ _ _ hx,Sem.run_bind,key];rfl
end
section
variable {e:Entry} {Q:Exit->Act->World->Prop} {ops:Array Oper} {rest:List Oper} {o:Oper} {s:AE} {h:Hp} {ms:List Hp}
theorem Yz{t:TypeId}{d:Nat}{cp:Nat}{x y:Operand}{k1 k2:IntKind}{l c:Int}(ho:o.op=.makeSlice t x y)(ht:e.P.underlying t=some (.slice el))(hs:Elem e.P el 1 z bytes)(hz:z.cells=#[z])
  (hx:ev s x=some (.int k1 l)) (hy:ev s y=some (.int k2 c)) (hl:l=(n:Int)) (hc:c=(cp:Int)) (hnc:n<=cp) (hb:bytes*cp<=281474976710656) (h63:cp<=9223372036854775807) (hd:o.dst=some d) (hn:Nat.blt d e.n=true) (hg:o.guard=none)
  (k:∀g,WL e ops Q rest ((d,.slice (some ⟨g,0,none⟩) n cp)::s) h (BI g el (replicate cp z)::ms)):WL e ops Q (o::rest) s h ms:=
 HP (post:=λv h' ms'=>∃g,v=.slice (some ⟨g,0,none⟩) n cp/\h'=h/\ms'=BI g el (replicate cp z)::ms) (λρ w hρ hw=>by
  obtain⟨i,hi,hz',his,hib⟩:=hs.info
  have hb':(i.bytes:Int)*c<=281474976710656:=by
   rw[hib,hc];have h:((bytes*cp:Nat):Int)<=281474976710656:=ω
   rwa [fv]at h
  have hr:=run_make (P:=e.P) w t el i z ht hi hz' k1 k2 l c ω ω hb' ω
  have:(execOp ρ o).run e.P w=.ok (.value (.slice (some ⟨w.heap.size,0,none⟩) n cp)) (w.alloc (.cells (replicate cp z).toArray el)):=by
   have e1:l.toNat=n:=ω
   have e2:c.toNat=cp:=ω
   rw[e1,e2,his,hz,gx,I9]at hr;simp only[execOp,ho,hρ _ _ hx,hρ _ _ hy,Sem.run_bind,hr,Result.andThen_ok,Sem.run_pure]
  unfold OpRes;rw[this]
  exact⟨h,_,Ends.alloc hw _,_,Y,Y,Y⟩) hd hn hg λ_ _ _ ⟨g,e1,e2,e3⟩=>by subst e1 e2 e3;exact k g
end
theorem KE{α:Type}{F:α->List Value}(hF:∀x,(F x).length=sz)(hsz:0<sz)(a:α)(n:Nat):madeCells (F a).toArray (n*sz)=((replicate n a).flatMap F).toArray:=by
 apply gq;intro i;unfold madeCells;have hr:((replicate n a).flatMap F).toArray[i]?=((replicate n a).flatMap F)[i]?:=gr;rw[hr,Array.getElem?_map];have hz:(F a).toArray.size=sz:=by simp[hF]
 rcases f6 i (n*sz) with h|h
 ·have h1:i/sz<n:=Nat.div_lt_of_lt_mul (by rw[dw];exact h);have hm:=Nat.mod_lt i hsz;have h2:i%sz<(F a).length:=by rw[hF];exact hm
  have h3:=H4 hF (replicate n a) (i/sz) (by simpa using h1) (i%sz) ((F a)[i%sz]) (by simp[h2]);rw[dw,Nat.div_add_mod]at h3;rw[h3];simp[h,hF];rw[aj h2];rfl
 ·rw[eq (l:=(replicate n a).flatMap F) (by rw[BY hF];simpa using h)];simp[h]
section
variable {e:Entry} {Q:Exit->Act->World->Prop} {ops:Array Oper} {rest:List Oper} {o:Oper} {s:AE} {h:Hp} {ms:List Hp}
theorem Ha{α:Type}{F:α->List Value}(hF:∀x,(F x).length=sz)(hsz:0<sz)(a:α){t:TypeId}{d:Nat}{x y:Operand}{k1 k2:IntKind}{l c:Int}(ho:o.op=.makeSlice t x y)(ht:e.P.underlying t=some (.slice el))(hs:Elem e.P el sz z bytes)(hz:z.cells=(F a).toArray)
  (hx:ev s x=some (.int k1 l)) (hy:ev s y=some (.int k2 c)) (hl:l=(n:Int)) (hc:c=(n:Int)) (hb:bytes*n<=281474976710656) (h63:n<=9223372036854775807) (hd:o.dst=some d) (hn:Nat.blt d e.n=true) (hg:o.guard=none)
  (k:∀g v m,v=.slice (some ⟨g,0,none⟩) n n->OwnL F sz el m v (replicate n a)->WL e ops Q rest ((d,v)::s) h (m::ms)):WL e ops Q (o::rest) s h ms:=
 HP (post:=λv h' ms'=>∃g,v=.slice (some ⟨g,0,none⟩) n n/\h'=h/\ms'=BI g el ((replicate n a).flatMap F)::ms) (λρ w hρ hw=>by
  obtain⟨i,hi,hz',his,hib⟩:=hs.info
  have hb':(i.bytes:Int)*c<=281474976710656:=by
   rw[hib,hc];have h:((bytes*n:Nat):Int)<=281474976710656:=ω
   rwa [fv]at h
  have hr:=run_make (P:=e.P) w t el i z ht hi hz' k1 k2 l c ω ω hb' ω
  have:(execOp ρ o).run e.P w=.ok (.value (.slice (some ⟨w.heap.size,0,none⟩) n n)) (w.alloc (.cells ((replicate n a).flatMap F).toArray el)):=by
   have e1:l.toNat=n:=ω
   have e2:c.toNat=n:=ω
   rw[e1,e2,his,hz,KE hF hsz]at hr;simp only[execOp,ho,hρ _ _ hx,hρ _ _ hy,Sem.run_bind,hr,Result.andThen_ok,Sem.run_pure]
  unfold OpRes;rw[this]
  exact⟨h,_,Ends.alloc hw _,_,Y,Y,Y⟩) hd hn hg λ_ _ _ ⟨g,e1,e2,e3⟩=>by subst e1 e2 e3;exact k g _ _ Y<|OwnL.blk n hF σ ω
end
theorem RD{P:Program}{w0:World}{h0:Hp}{ms0:List Hp}{fn:Func}{post:Value->Hp->List Hp->Prop}{s:AE}{h:Hp}{t t2 u:Nat}{ty:TypeId}{g g2:Nat}{d:TypeDesc}{vs vs2:List Value}{v:Value}
  (hr:fn.results=#[.cell t ty,.cell t2 ty,.tmp u]) (hv:lk s t=some (.pt g)) (hv2:lk s t2=some (.pt g2)) (hu:lk s u=some v) (ht:P.underlying ty=some d) (hd:Ih d=true) (hs:Elem P ty sz z bytes) (hl:vs.length=sz) (hl2:vs2.length=sz)
  (hp:post (.tuple #[.agg vs.toArray,.agg vs2.toArray,v]) h []) :
  NX ⟨P,w0,h0,ms0,n,[]⟩ (bodyPost P fn (RP w0 h0 ms0 post)) .ret s h [BI g el vs,BI g2 el vs2]:=λa w ha hw=>by
 have h1:a.tmps[t]?.getD undef=.pt g:=by rw[ha.slots t _ hv];rfl
 have h1':a.tmps[t2]?.getD undef=.pt g2:=by rw[ha.slots t2 _ hv2];rfl
 have h2:a.tmps[u]?.getD undef=v:=by rw[ha.slots u _ hu];rfl
 have hag:(isAgg ty).run P w=.ok true w:=by rw[Ds ht,hd]
 have hc':∀j v,vs[j]?=some v->w.cell? ((⟨g,0,none⟩:Addr).add j)=some v:=λj v e=>hw.st.cell (Seg.blk (el:=el) 0 Y j v e);have hc2:∀j v,vs2[j]?=some v->w.cell? ((⟨g2,0,none⟩:Addr).add j)=some v:=λj v e=>hw.st.cell (Seg.blk (el:=el) 1 Y j v e);refine bodyPost_ret (v:=.tuple #[.agg vs.toArray,.agg vs2.toArray,v]) ?_ ha.defers ⟨_,h,_,Y,Ends.drop<|Ends.drop hw,hp⟩;have e1:=run_loadCells_list (P:=P) w _ vs hc';have e2:=run_loadCells_list (P:=P) w _ vs2 hc2;rw[hl]at e1;rw[hl2]at e2;simp[results,hr,h1,h1',h2,asAddr,loadVar,hag,hs.sizeOf,e1,e2]
end Go.Eng
namespace Go.Eng
section
variable {P:Program} {o:Oper} {s:AE} {h:Hp} {ms:List Hp} {t u:TypeId} {x y:Operand}
theorem Ack{a:Int}{n:Nat}{k:IntKind}(ho:o.op=.binOp .shr t x y u)(hx:ev s x=some (.int .i64 a))(hy:ev s y=some (.int k n))(hn:n<=64):OX P o s h ms (.int .i64 (a.fdiv (2^n))):=
 Bs λρ w hρ _=>by
  have h1:¬((n:Int)<0):=ω
  have h2:min n 64=n:=fu hn;simp[execOp,ho,hρ _ _ hx,hρ _ _ hy,Op.shift,h1,IntKind.bits,h2,go_sem]<;>exact(Int.fdiv_eq_ediv_of_nonneg a (Int.le_of_lt (Int.pow_pos δ))).symm
def Afw(a b:Int):Int:=IntKind.i64.wrap ((BitVec.ofInt 64 a &&& BitVec.ofInt 64 b).toNat:Int)
theorem Abw{a b:Int}(ho:o.op=.binOp .and t x y u)(hx:ev s x=some (.int .i64 a))(hy:ev s y=some (.int .i64 b)):OX P o s h ms (.int .i64 (Afw a b)):=
 Bs λρ w hρ _=>by simp[execOp,ho,hρ _ _ hx,hρ _ _ hy,Op.intBits,IntKind.bits,go_sem];rfl
end
end Go.Eng
namespace Go.Eng
variable {n:Nat} {cs:List Value}
def OwnO(el:TypeId)(sz:Nat)(m:Hp)(v:Value)(n:Nat)(cs:List Value):Prop:=
 cs.length=n*sz/\((v=.nl/\n=0/\m=Hp.emp) ∨
  ∃g cap pre spare,v=.slice (some ⟨g,pre.length,none⟩) n cap/\m=BI g el (pre++(cs++spare))/\cap*sz<=(cs++spare).length/\n<=cap/\cap<=9223372036854775807)
theorem Own.o{el:TypeId}{sz:Nat}{m:Hp}{v:Value}(O:Own el sz m v n cs):OwnO el sz m v n cs:=by
 obtain⟨h1,h2⟩:=O;refine⟨h1,?_⟩;rcases h2 with h|⟨g,cap,spare,rfl,rfl,e1,e2,e3⟩
 ·exact .inl h
 ·exact .inr ⟨g,cap,[],spare,Y,Y,ω,e2,e3⟩
theorem OwnO.rd{el:TypeId}{sz:Nat}{m:Hp}{v:Value}(O:OwnO el sz m v n cs){h:Hp}{ms:List Hp}(hm:m∈ms):Rd h ms v sz n cs:=by
 obtain⟨h1,h2⟩:=O;rcases h2 with ⟨rfl,rfl,rfl⟩|⟨g,cap,pre,spare,rfl,rfl,e1,e2,e3⟩
 ·exact⟨none,0,Y,am _,ω,h1,λh=>ω⟩
 ·refine⟨_,cap,Y,e2,e3,h1,λ_=>⟨_,Y,λj v hv=>?_⟩⟩;obtain⟨i,hi⟩:=List.getElem?_of_mem hm
  have:Cell h ms ((⟨g,0,none⟩:Addr).add (pre.length+j)) v:=Cell.blk i hi (by
   rw[List.getElem?_append_right ω,Nat.add_sub_cancel_left,d5 (br.1 hv).1];exact hv)
  have e:(⟨g,0,none⟩:Addr).add (pre.length+j)=(⟨g,pre.length,none⟩:Addr).add j:=by unfold Addr.add;split<;>split<;>simp_all<;>omega
  rwa [e]at this
theorem OwnO.tail{el:TypeId}{sz:Nat}{m:Hp}{v:Value}(O:OwnO el sz m v (n+1) cs):OwnO el sz m (CP sz v 1 (n+1)) n (cs.drop sz):=by
 obtain⟨h1,h2⟩:=O;have hc:sz<=cs.length:=by rw[h1,cw];omega
 refine⟨by rw[bw,h1,cw];omega,?_⟩;rcases h2 with ⟨_,h,_⟩|⟨g,cap,pre,spare,rfl,rfl,e1,e2,e3⟩
 ·omega
 ·right
  rw[af]at e1;by_cases hcap:cap=1
  ·subst hcap;obtain rfl:n=0:=ω
   refine⟨g,0,pre,cs++spare,?_,?_,ω,ω,ω⟩
   ·simp[CP]
   ·rw[List.drop_eq_nil_of_le ω,ap]
  ·refine⟨g,cap-1,pre++cs.take sz,spare,?_,?_,?_,ω,ω⟩
   ·simp only[CP];rw[ae hcap,af,ay,fu hc];simp[Addr.add]
   ·rw[cz,<-cz (cs.take sz),dp]
   ·rw[af,bw,Nat.sub_mul];omega
section
variable {P:Program}
theorem Km(w:World)(t ty e:TypeId)(i:TypeInfo)(ht:P.underlying t=some (.slice e))(hi:P.info? e=some i)
  (g o sLen sCap:Nat) (cur:Array Value) (hg:w.heap[g]?=some (.cells cur e (0,0)))
  (a:Addr) (m c:Nat) (news:List Value) (hl:news.length=m*i.size) (hnews:∀j u,news[j]?=some u->w.cell? (a.add j)=some u) (h1:∀u∈news,u.oneCell'=true)
  (hroom:sLen+m<=sCap) (hfit:o+sLen*i.size+news.length<=cur.size) :
  (Builtin.append_ #[t,t] ty #[.slice (some ⟨g,o,none⟩) sLen sCap,.slice (some a) m c]).run P w =
   .ok (.slice (some ⟨g,o,none⟩) (sLen+m) sCap) (w.setRow g (cur.toList.take (o+sLen*i.size)++news++cur.toList.drop (o+sLen*i.size+news.length)).toArray):=by
 have hf:=run_firstCells_some (P:=P) w i.size m a m c news hl hnews;have hst:=run_storeCells_at P g (o+sLen*i.size) e news 0 cur w hg (by simpa using hfit) h1;simp only[Nat.add_zero]at hst;simp[Builtin.append_,run_underlying ht,sizeOf,typeInfo,hi,Builtin.lenOf,hroom,hf,Addr.add_lit,hst]
theorem RG{w0 w:World}{h0 h:Hp}{ms0 ms:List Hp}{m:Hp}(H:Ends w0 h0 ms0 w h (m::ms))(t ty el:TypeId){sz:Nat}{z:Value}{bytes:Nat}(ht:P.underlying t=some (.slice el))(hs:Elem P el sz z bytes)(hzs:z.cells.size=sz)(hsz:0<sz)
  {v x:Value} {k:Nat} {news:List Value} (O:OwnO el sz m v n cs) (R:Rd h (m::ms) x sz k news) (h1:∀u∈news,u.oneCell'=true) (hb:(n+k)*bytes<=140737488355328) (hb63:n+k<=9223372036854775807) :
  ∃v' w' m',(Builtin.append_ #[t,t] ty #[v,x]).run P w=.ok v' w'/\OwnO el sz m' v' (n+k) (cs++news)/\Ends w0 h0 ms0 w' h (m'::ms):=by
 have O0:=O;obtain⟨hcl,hO⟩:=O;rcases hO with ⟨rfl,rfl,rfl⟩|⟨g,cap,pre,spare,rfl,rfl,e1,e2,e3⟩
 ·have O1:Own el sz Hp.emp (.nl) 0 cs:=⟨hcl,.inl ⟨Y,Y,Y⟩⟩
  obtain⟨v',w',m',hr,hO',hE⟩:=LU H t ty el ht hs hzs hsz O1 R h1 hb hb63;exact⟨v',w',m',hr,hO'.o,hE⟩
 obtain⟨a,c,rfl,hkc,hcm,hnl,hq⟩:=R.ex;obtain⟨i,hi,hz,his,hib⟩:=hs.info;rcases f9 k with rfl|hk
 ·have hnews:news=[]:=de (by simpa using hnl);subst hnews;exact⟨_,w,_,FC w t ty el ht hs _ a n cap c e2,by simpa using O0,H⟩
 ·obtain⟨q,rfl,hseg⟩:=hq hk;have hnews:∀j u,news[j]?=some u->w.cell? (q.add j)=some u:=λj u e=>H.st.cell (hseg j u e)
  have hcap:∀old,grownCap w (n+k) old el<=9223372036854775807/\n+k<=grownCap w (n+k) old el:=λold=>
   ⟨grownCap_le_maxLen w (n+k) old el (by simp only[maxLen];omega),grownCap_ge w (n+k) old el⟩
  have hzl:∀N,(Builtin.zeroCells z.cells N).toList.length=N*sz:=λN=>by rw[Array.length_toList,size_zeroCells,hzs]
  have hgw:w.heap[g]?=some (.cells (pre++(cs++spare)).toArray el (0,0)):=H.st.own _ (ax) g _ (Hp.one_self _ _);have hln:news.length=k*sz:=hnl;by_cases hroom:n+k<=cap
  ·have h2:(n+k)*sz<=cap*sz:=du _ hroom;rw[cw]at h2;rw[af]at e1;have hsp:news.length<=spare.length:=ω
   have hfit:pre.length+n*i.size+news.length<=(pre++(cs++spare)).toArray.size:=by rw[his,f5,af,af];omega
   have hr:=Km (P:=P) w t ty el i ht hi g pre.length n cap (pre++(cs++spare)).toArray hgw q k c news (by rw[his];exact hnl) hnews h1 hroom hfit
   have e5:(List.take (pre.length+n*i.size) (pre++(cs++spare)).toArray.toList++news++List.drop (pre.length+n*i.size+news.length) (pre++(cs++spare)).toArray.toList)=pre++(cs++news++spare.drop news.length):=by
    rw[his,<-hcl]
    have hd:List.drop (pre.length+cs.length+news.length) (pre++(cs++spare))=spare.drop news.length:=by rw[<-cz,<-List.drop_drop,<-af,List.drop_left]
    have ht':List.take (pre.length+cs.length) (pre++(cs++spare))=pre++cs:=by rw[<-cz,<-af,List.take_left]
    simp only[ht',hd,cz]
   rw[e5]at hr;refine⟨_,_,_,hr,⟨by rw[af,hcl,hnl,cw],.inr ⟨g,cap,pre,spare.drop news.length,rfl,rfl,?_,hroom,e3⟩⟩,?_⟩
   ·rw[af,af,bw];omega
   ·exact Ends.change H Y ⟨Y,am _⟩ Y σ (setRow_heap w g _ _ _ _ hgw)<|λj hj hne=>setRow_other w g j _ hne
  ·have hR:=OwnO.rd O0 (h:=h) (ms:=BI g el (pre++(cs++spare))::ms) (List.Mem.head _)
   have holds:∀j u,cs[j]?=some u->w.cell? ((⟨g,pre.length,none⟩:Addr).add j)=some u:=λj u hv=>by
    rcases f9 n with rfl|hn
    ·have:cs=[]:=de (by simpa using hcl);subst this;simp at hv
    ·obtain⟨a',c',e',_,_,_,hq'⟩:=hR.ex;obtain⟨q',hq1,hq2⟩:=hq' hn;simp only[Value.slice.injEq]at e';obtain⟨e',_,_⟩:=e';rw[hq1]at e';obtain rfl:=bf e';exact H.st.cell<|hq2 j u hv
   have hr:=run_append_grow (P:=P) w t ty el i z ht hi hz ⟨g,pre.length,none⟩ n cap cs (by rw[his];exact hcl) holds q k c news (by rw[his];exact hnl) hnews ω ω (by rw[hib];exact growslice_fits ω hb);refine⟨_,_,_,hr,⟨by rw[af,hcl,hnl,cw],.inr ⟨w.heap.size,grownCap w (n+k) cap el,[],(Builtin.zeroCells z.cells (grownCap w (n+k) cap el-(n+k))).toList,rfl,rfl,?_,(hcap cap).2,(hcap cap).1⟩⟩,?_⟩
   ·rw[af,af,hzl,hcl,hnl,<-cw,<-cw];refine du _ ?_;have:=(hcap cap).2;omega
   ·have:=Ends.alloc (Ends.drew (Ends.drop H)) (.cells (cs.toArray++news.toArray++Builtin.zeroCells z.cells (grownCap w (n+k) cap el-(n+k))) el)
    have e:([]++(cs++news++(Builtin.zeroCells z.cells (grownCap w (n+k) cap el-(n+k))).toList)).toArray=cs.toArray++news.toArray++Builtin.zeroCells z.cells (grownCap w (n+k) cap el-(n+k)):=by apply Array.ext';simp
    unfold BI;rw[e];exact this
end
structure OwnQ{α:Type}(F:α->List Value)(sz:Nat)(el:TypeId)(m:Hp)(v:Value)(l:List α):Prop where
 own:OwnO el sz m v l.length (l.flatMap F)
 len:∀x,(F x).length=sz
section
variable {α:Type} {F:α->List Value} {sz:Nat} {h:Hp} {ms:List Hp} {v:Value} {l:List α} {el:TypeId} {m:Hp}
theorem OwnL.q(O:OwnL F sz el m v l):OwnQ F sz el m v l:=⟨O.own.o,O.len⟩
theorem OwnQ.rd(O:OwnQ F sz el m v l)(hm:m∈ms):RdL F sz h ms v l:=⟨O.own.rd hm,O.len⟩
theorem OwnQ.tail{x:α}(O:OwnQ F sz el m v (x::l)):OwnQ F sz el m (CP sz v 1 (l.length+1)) l:=by have:=OwnO.tail (n:=l.length) (cs:=(x::l).flatMap F) O.own;rw[fc,<-O.len x,List.drop_left,O.len x]at this;exact⟨this,O.len⟩
theorem L4{e:Entry}{Q:Exit->Act->World->Prop}{ops:Array Oper}{rest:List Oper}{o:Oper}{s:AE}{t:TypeId}{d:Nat}{z:Value}{bytes:Nat}{x y:Operand}{u:Value}{r:List α}(i:Nat)(O:OwnQ F sz el m v l)(R:RdL F sz h ms u r)(ho:o.op=.call { callee:=.builtin .append,args:=#[x,y],argTypes:=#[t,t] })(ht:e.P.underlying t=some (.slice el))(hs:Elem e.P el sz z bytes)(hzs:z.cells.size=sz)(hsz:0<sz)
  (hx:ev s x=some v) (hy:ev s y=some u) (hm:ms[i]?=some m) (h1:∀a∈r,∀c∈F a,c.oneCell'=true) (hb:(l.length+r.length)*bytes<=140737488355328) (hb63:l.length+r.length<=9223372036854775807) (hd:o.dst=some d) (hn:Nat.blt d e.n=true) (hg:o.guard=none)
  (K:∀v' m',OwnQ F sz el m' v' (l++r)->WL e ops Q rest ((d,v')::s) h (ms.set i m')):WL e ops Q (o::rest) s h ms:=
 HP (post:=λv' h' ms'=>∃m',h'=h/\ms'=ms.set i m'/\OwnO el sz m' v' (l.length+r.length) (l.flatMap F++r.flatMap F)) (λρ w hρ hw=>by
  obtain⟨r',p1,_⟩:=Fw ms i m m hm;obtain⟨v',w',m',hr,hO,hE⟩:=RG (P:=e.P) (Ends.perm hw p1) t o.type el ht hs hzs hsz O.own (R.rd.sub (λm hm=>p1.mem_iff.1 hm)) (λc hc=>by obtain⟨a,hm',ha⟩:=List.mem_flatMap.1 hc;exact h1 a hm' c ha) hb hb63
  have:(execOp ρ o).run e.P w=.ok (.value v') w':=by simp[execOp,ho,hρ _ _ hx,hρ _ _ hy,resolve,invoke,builtin,hr]
  unfold OpRes;rw[this];obtain⟨r'',q1,q2⟩:=Fw ms i m m' hm;have pr:(m'::r').Perm (ms.set i m'):=((List.Perm.cons_inv (p1.symm.trans q1)).cons m').trans q2.symm
  exact⟨h,_,Ends.perm hE pr,m',Y,Y,hO⟩) hd hn hg λv' h' ms' ⟨m',e1,e2,e3⟩=>by subst e1 e2;exact K v' m' ⟨by rw[af,dx];exact e3,O.len⟩
end
end Go.Eng

namespace Go.Eng
open Go.RowKit
theorem FnT.frz{P:Program}{f:FuncId}{args:Array Value}{h:Hp}{ms:List Hp}{post post':Value->Hp->List Hp->Prop}(k:FnT P f args h ms post)(hq:∀r h' ms',post r h' ms'->∃m q,ms'=m::q/\∀h2,h'.le h2->m.le h2->post' r h2 q):FnT P f args h ms post':=
 λw hw=>(k w hw).mono λ_ _ ⟨r,h',ms',e1,e2,e3⟩=>by obtain⟨m,q,rfl,hk⟩:=hq r h' ms' e3;exact⟨r,_,q,e1,Ends.freeze e2,hk _ (Hp.le_join _ _) (Hp.join_le_right (e2.st.off m ax))⟩
theorem Hz{e:Entry}{Q:Exit->Act->World->Prop}{s:AE}{h:Hp}{ms:List Hp}{el:TypeId}{x:Exit}{g:Nat}{cs:List Value}(k:∀h',h.le h'->Seg h' [] ⟨g,0,none⟩ cs->NX e Q x s h' ms):NX e Q x s h (BI g el cs::ms):=
 λa w ha hw=>k _ (Hp.le_join _ _) (λj u hu=>⟨by unfold Addr.add;split<;>rfl,cs.toArray,el,(0,0),.inl (by
  rw[CK]
  exact(Hp.join_le_right (hw.st.off _ ax)) _ _ (Hp.one_self _ _)),by rw[DN];simpa using hu⟩) a w ha (Ends.freeze hw)
end Go.Eng
namespace Go.Wd
variable {b n m:Nat}
def val(b:Nat):List Nat->Nat
 | []=>0
 | a::l=>a+b*val b l
def dgF(b:Nat):Nat->Nat->List Nat
 | 0,_=>[]
 | f+1,n=>if n=0 then [] else n%b::dgF b f (n/b)
def dg(b n:Nat):List Nat:=dgF b n n
theorem Hj(b f:Nat):dgF b f 0=[]:=by cases f<;>simp[dgF]
theorem QT(hb:2<=b):∀(f g n:Nat),n<=f->n<=g->dgF b f n=dgF b g n
 | 0,g,n,h,_=>by
  obtain rfl:n=0:=ω
  rw[Hj,Hj]
 | f+1,0,n,_,h=>by
  obtain rfl:n=0:=ω
  rw[Hj,Hj]
 | f+1,g+1,n,h1,h2=>by
  by_cases h0:n=0
  ·subst h0;rw[Hj,Hj]
  ·have:=Nat.div_lt_self (Nat.pos_of_ne_zero h0) hb;simp only[dgF,ae h0];rw[QT hb f g (n/b) ω ω]
theorem HH(b:Nat):dg b 0=[]:=rfl
theorem Gm(hb:2<=b)(hn:n≠0):dg b n=n%b::dg b (n/b):=by
 unfold dg;obtain⟨k,rfl⟩:∃k,n=k+1:=⟨n-1,ω⟩
 show(if k+1=0 then [] else _)=_;rw[ae hn,QT hb k ((k+1)/b) _ (by have:=Nat.div_lt_self (Nat.pos_of_ne_zero hn) hb;omega) (am _)]
theorem XV(hb:2<=b)(hn:n≠0)(h:n<b):dg b n=[n]:=by rw[Gm hb hn,db h,fj h,HH]
theorem GZ(hb:2<=b):dg b n=[]<->n=0:=by
 constructor
 ·intro h;refine aq λh0=>?_;rw[Gm hb h0]at h;exact ie h σ
 ·rintro rfl;rfl
theorem F5(hb:2<=b):∀n,val b (dg b n)=n:=by
 intro n
 induction n using Nat.strongRecOn with
 | _ n ih=>
  by_cases h0:n=0
  ·subst h0;rfl
  ·rw[Gm hb h0,val,ih _ (Nat.div_lt_self (Nat.pos_of_ne_zero h0) hb)];exact Nat.mod_add_div n b
theorem Zr(hb:2<=b)(h:dg b m=dg b n):m=n:=by rw[<-F5 hb m,h,F5 hb]
theorem Fv(hb:2<=b):∀n,∀a,a∈dg b n->a<b:=by
 intro n
 induction n using Nat.strongRecOn with
 | _ n ih=>
  intro a ha;by_cases h0:n=0
  ·subst h0;exact ie ha (by rw[HH];exact List.not_mem_nil)
  ·rw[Gm hb h0]at ha;rcases bg.1 ha with rfl|ha
   ·exact Nat.mod_lt _ ω
   ·exact ih _ (Nat.div_lt_self (Nat.pos_of_ne_zero h0) hb) a ha
theorem BQ(hb:2<=b):∀k n,(dg b n).length<=k<->n<b^k
 | 0,n=>by
  rw[Nat.pow_zero];constructor
  ·intro h;have:=(GZ (n:=n) hb).1 (de ω);omega
  ·intro h;obtain rfl:n=0:=ω
   exact am _
 | k+1,n=>by
  by_cases h0:n=0
  ·subst h0;exact⟨λ_=>Nat.pow_pos ω,λ_=>Nat.zero_le _⟩
  ·rw[Gm hb h0,List.length_cons,Nat.succ_le_succ_iff,BQ hb k,Nat.pow_succ,Nat.div_lt_iff_lt_mul ω]
def De(l:List Nat):List Nat:=(l.reverse.dropWhile (·==0)).reverse
theorem E0(l:List Nat):De (l++[0])=De l:=by simp[De]
theorem Gp{a:Nat}(l:List Nat)(h:a≠0):De (l++[a])=l++[a]:=by simp[De,h]
theorem Uf(a:Nat)(l:List Nat):De (a::l)=if De l=[]/\a=0 then [] else a::De l:=by
 have key:∀m:List Nat,De m=[]\/∃k x n,x≠0/\m=k++[x]++replicate n 0/\De m=k++[x]:=by
  intro m;obtain⟨r,hr⟩:∃r,m.reverse=r:=⟨_,Y⟩
  obtain rfl:m=r.reverse:=by rw[<-hr,List.reverse_reverse]
  clear hr
  induction r with
  | nil=>left;rfl
  | cons y r ih=>
   rw[List.reverse_cons];by_cases hy:y=0
   ·subst hy;rw[E0];rcases ih with h|⟨k,x,n,hx,he,hs⟩
    ·exact .inl h
    ·exact .inr ⟨k,x,n+1,hx,by rw[List.replicate_succ',<-cz,<-he],hs⟩
   ·right
    exact⟨r.reverse,y,0,hy,by simp,Gp _ hy⟩
 rcases key l with h|⟨k,x,n,hx,he,hs⟩
 ·rw[h]
  have hz:∀m:List Nat,De m=[]->De (a::m)=if a=0 then [] else [a]:=by
   intro m;obtain⟨r,hr⟩:∃r,m.reverse=r:=⟨_,Y⟩
   obtain rfl:m=r.reverse:=by rw[<-hr,List.reverse_reverse]
   clear hr
   induction r with
   | nil=>intro _;by_cases ha:a=0<;>simp[De,ha]
   | cons y r ih=>
    rw[List.reverse_cons];intro h;by_cases hy:y=0
    ·subst hy;rw[E0]at h;rw[<-bh,E0];exact ih h
    ·rw[Gp _ hy]at h;exact ie h σ
  rw[hz l h];by_cases ha:a=0<;>simp[ha]
 ·rw[hs,ae σ]
  have hz:∀(n:Nat) (m:List Nat),De (m++replicate n 0)=De m:=by
   intro n
   induction n with
   | zero=>intro m;simp
   | succ n ih=>intro m;rw[List.replicate_succ',<-cz,E0,ih]
  rw[he,<-bh,hz,<-bh,Gp _ hx]
theorem C0(hb:2<=b):∀{l:List Nat},(∀a,a∈l->a<b)->De l=dg b (val b l)
 | [],_=>rfl
 | a::l,h=>by
  have ha:=h a (ax ..);rw[Uf,C0 hb λx hx=>h x (bi _ hx)];show _=dg b (a+b*val b l);by_cases h0:dg b (val b l)=[]/\a=0
  ·rw[ah h0,(GZ hb).1 h0.1,h0.2];rfl
  ·rw[ae h0];rw[GZ hb]at h0
   have hn:a+b*val b l≠0:=by
    intro q;apply h0;have:b*val b l=0:=ω
    rcases Nat.mul_eq_zero.1 this with h|h
    ·omega
    ·exact⟨h,ω⟩
   rw[Gm hb hn,Nat.add_mul_mod_self_left,db ha,Nat.add_mul_div_left _ _ ω,fj ha,Nat.zero_add]
theorem Ee(b:Nat):∀l m:List Nat,val b (l++m)=val b l+b^l.length*val b m
 | [],m=>by simp[val]
 | a::l,m=>by show a+b*val b (l++m)=a+b*val b l+b^(l.length+1)*val b m;rw[Ee b l m,Nat.mul_add,Nat.pow_succ,dw (b^l.length) b,Nat.mul_assoc,Nat.add_assoc]
theorem Ey(b n:Nat):val b (replicate n 0)=0:=by
 induction n with
 | zero=>rfl
 | succ n ih=>rw[List.replicate_succ,val,ih];simp
theorem Jm(hb:2<=b):∀{l:List Nat},(∀a,a∈l->a<b)->val b l<b^l.length
 | [],_=>by simp[val]
 | a::l,h=>by have ha:=h a (ax ..);have hl:=Jm hb λx hx=>h x (bi _ hx);show a+b*val b l<b^(l.length+1);rw[Nat.pow_succ];have:b*(val b l+1)<=b*b^l.length:=Nat.mul_le_mul_left _ hl;rw[Nat.mul_add,gx]at this;rw[dw (b^l.length) b];omega
theorem M7(b:Nat)(l:List Nat)(i:Nat)(h:i<l.length):val b (l.take (i+1))=val b (l.take i)+b^i*l[i]:=by rw[ak h,Ee,ay,fu ω];simp[val]
theorem HC(b:Nat):∀(l:List Nat) (i x:Nat),i<l.length->val b (l.set i x)+b^i*l.getD i 0=val b l+b^i*x
 | [],i,x,h=>ie h σ
 | a::l,0,x,_=>by simp[val];omega
 | a::l,i+1,x,h=>by have:=HC b l i x (by simpa using h);show a+b*val b (l.set i x)+b^(i+1)*(a::l).getD (i+1) 0=a+b*val b l+b^(i+1)*x;rw[List.getD_cons_succ,Nat.pow_succ,dw (b^i) b,Nat.mul_assoc,Nat.mul_assoc];have h2:=aw (b*·) this;simp only[Nat.mul_add]at h2;omega
theorem Ni(b:Nat)(l:List Nat)(i:Nat)(h:i<l.length):val b (l.drop i)=l[i]+b*val b (l.drop (i+1)):=by rw[eo h];rfl
theorem Kz(b:Nat)(l:List Nat)(i:Nat):val b l=val b (l.take i)+b^(min i l.length)*val b (l.drop i):=by
 conv=>lhs;rw[<-dp i l]
 rw[Ee,ay]
theorem Kl(hb:2<=b)(h:n≠0):b^((dg b n).length-1)<=n:=by refine aq λq=>?_;have:=(BQ hb ((dg b n).length-1) n).2 ω;have h0:(dg b n).length≠0:=λe=>h ((GZ hb).1 (de e));omega
theorem Hf(hb:2<=b)(h:(dg b m).length<(dg b n).length):m<n:=by
 have h0:n≠0:=by rintro rfl;rw[HH]at h;simp at h
 have h1:=(BQ hb ((dg b n).length-1) m).1 ω;have h2:=Kl hb h0;omega
theorem DJ(hb:2<=b)(h:m<=n):(dg b m).length<=(dg b n).length:=by refine aq λq=>?_;have:=Hf hb (m:=n) (n:=m) ω;omega
theorem LG(hb:2<=b)(m n:Nat):(dg b (m+n)).length<=max (dg b m).length (dg b n).length+1:=by rw[BQ hb,Nat.pow_succ];have h1:=(BQ hb (max (dg b m).length (dg b n).length) m).1 (Nat.le_max_left ..);have h2:=(BQ hb (max (dg b m).length (dg b n).length) n).1 (Nat.le_max_right ..);have:b^max (dg b m).length (dg b n).length*2<=b^max (dg b m).length (dg b n).length*b:=Nat.mul_le_mul_left _ hb;omega
theorem M4(hb:2<=b)(m n:Nat):(dg b (m*n)).length<=(dg b m).length+(dg b n).length:=by rw[BQ hb,Nat.pow_add];have h1:=(BQ hb _ m).1 (am _);have h2:=(BQ hb _ n).1 (am _);exact Nat.mul_lt_mul'' h1 h2
end Go.Wd
namespace Go.Wd
variable {b i c:Nat} {x y:List Nat}
theorem MI(b:Nat)(l:List Nat)(x:Nat):val b (l++[x])=val b l+b^l.length*x:=by rw[Ee];simp[val]
theorem DX(b:Nat)(l:List Nat)(i:Nat):val b (l.take (i+1))=val b (l.take i)+b^i*l.getD i 0:=by
 by_cases h:i<l.length
 ·rw[M7 b l i h];simp[List.getD,h]
 ·rw[fy ω,fy ω];simp[List.getD,h]
theorem Ew(b:Nat)(l:List Nat)(i:Nat):val b (l.drop i)=l.getD i 0+b*val b (l.drop (i+1)):=by
 by_cases h:i<l.length
 ·rw[Ni b l i h];simp[List.getD,h]
 ·rw[List.drop_of_length_le ω,List.drop_of_length_le ω];simp[List.getD,h,val]
theorem XR(hb:2<=b){d:List Nat}(hd:d.length=i)(hv:val b d+b^i*c=val b (x.take i)+val b (y.take i))(s:Nat)(hs:s=x.getD i 0+c+y.getD i 0) :
  val b (d++[s%b])+b^(i+1)*(s/b)=val b (x.take (i+1))+val b (y.take (i+1)):=by
 rw[MI,DX,DX,hd,Nat.pow_succ,Nat.mul_assoc];have h:=aw (b^i*·) (Nat.mod_add_div s b);simp only[Nat.mul_add]at h;have h2:=aw (b^i*·) hs;simp only[Nat.mul_add]at h2;omega
theorem AaJ(hb:2<=b){d:List Nat}{s e:Nat}(hd:d.length=i)(hv:val b d+val b (y.take i)=val b (x.take i)+b^i*c)(hs:s+c+y.getD i 0=x.getD i 0+b*e) :
  val b (d++[s])+val b (y.take (i+1))=val b (x.take (i+1))+b^(i+1)*e:=by
 rw[MI,DX,DX,hd,Nat.pow_succ,Nat.mul_assoc];have h2:=aw (b^i*·) hs;simp only[Nat.mul_add]at h2;omega
theorem Aaz(hb:2<=b){o:List Nat}{k x t s:Nat}(hik:i+k<o.length)(hv:val b o+b^(i+k)*c=t+b^i*(x*val b (y.take k)))(hs:s=o.getD (i+k) 0+x*y.getD k 0+c) :
  val b (o.set (i+k) (s%b))+b^(i+(k+1))*(s/b)=t+b^i*(x*val b (y.take (k+1))):=by
 have h1:=HC b o (i+k) (s%b) hik;rw[DX,<-Nat.add_assoc,Nat.pow_succ,Nat.mul_assoc];have h:=aw (b^(i+k)*·) (Nat.mod_add_div s b);have h2:=aw (b^(i+k)*·) hs;simp only[Nat.mul_add]at h h2 ⊢
 have h3:b^(i+k)*(x*y.getD k 0)=b^i*(x*(b^k*y.getD k 0)):=by rw[Nat.pow_add,Nat.mul_assoc,Nat.mul_left_comm (b^k)]
 omega
theorem AaW(hb:2<=b){o:List Nat}(hik:i+y.length<o.length)(hz:o.getD (i+y.length) 0=0)(hv:val b o+b^(i+y.length)*c=val b (x.take i)*val b y+b^i*(x.getD i 0*val b (y.take y.length))) :
  val b (o.set (i+y.length) c)=val b (x.take (i+1))*val b y:=by
 have h1:=HC b o (i+y.length) c hik;rw[hz,Nat.mul_zero]at h1;rw[List.take_length]at hv;rw[DX,cw,Nat.mul_assoc];omega
theorem T6(hb:2<=b){q:List Nat}{r d:Nat}(hd:d≠0)(hiq:i<q.length)(hv:val b (q.drop (i+1))*d+r=val b (x.drop (i+1))) :
  val b ((q.set i ((r*b+x.getD i 0)/d)).drop i)*d+(r*b+x.getD i 0)%d=val b (x.drop i):=by
 rw[Ew b x i,Ew b (q.set i _) i]
 rw[show(q.set i ((r*b+x.getD i 0)/d)).drop (i+1)=q.drop (i+1) by
  rw[List.drop_set];rw[ah ω]]
 rw[show(q.set i ((r*b+x.getD i 0)/d)).getD i 0=(r*b+x.getD i 0)/d by simp[List.getD,hiq]];have h:=Nat.mod_add_div (r*b+x.getD i 0) d;have h2:=aw (b*·) hv;simp only[Nat.mul_add]at h2;rw[cw,Nat.mul_assoc];rw[dw d]at h;rw[dw r b]at h ⊢;omega
theorem ZC{r d x:Nat}(hr:r<d)(hx:x<b):(r*b+x)/d<b:=by rw[Nat.div_lt_iff_lt_mul ω];have:(r+1)*b<=d*b:=du _ hr;rw[cw]at this;rw[dw b d];omega
theorem YU(hb:2<=b)(hx:∀a,a∈x->a<b)(hy:∀a,a∈y->a<b)(hl:x.length=y.length)(hi:i<x.length)(hs:x.drop (i+1)=y.drop (i+1))(h:x.getD i 0<y.getD i 0):val b x<val b y:=by rw[Kz b x i,Kz b y i,Ew b x i,Ew b y i,hs,<-hl,fu ω];have h1:=Jm hb (l:=x.take i) λa ha=>hx a (List.mem_of_mem_take ha);rw[ay,fu ω]at h1;have h2:=Nat.mul_le_mul_left (b^i) (show x.getD i 0+1<=y.getD i 0 from h);simp only[Nat.mul_add]at h2 ⊢;omega
def Pq(m n:Nat):Int:=if m<n then -1 else if n<m then 1 else 0
end Go.Wd
namespace Go.Wd
open Go Go.Eng
variable {m:Nat}
def A7(m:Nat):List UInt8:=(dg 256 m).reverse.map UInt8.ofNat
theorem EV(m:Nat):(A7 m).length=(dg 256 m).length:=by simp[A7]
theorem bys_nil:A7 m=[]<->m=0:=by unfold A7;rw[List.map_eq_nil_iff,List.reverse_eq_nil_iff,GZ δ]
def le4(w:Nat):List Nat:=[w%256,w/256%256,w/65536%256,w/16777216%256]
def ZH(w:Nat):List UInt8:=[UInt8.ofNat (w/2^24),UInt8.ofNat (w/2^16),UInt8.ofNat (w/2^8),UInt8.ofNat w]
theorem Xj(a:Nat):UInt8.ofNat (a%256)=UInt8.ofNat a:=by apply UInt8.toNat_inj.1;simp
theorem Adi(w:Nat):ZH w=(le4 w).reverse.map UInt8.ofNat:=by simp only[ZH,le4,List.reverse_cons,List.reverse_nil,ap,bh,dr,List.map_nil,Xj]
theorem AaY{w:Nat}(h:w<4294967296):val 256 (le4 w)=w:=by show w%256+256*(w/256%256+256*(w/65536%256+256*(w/16777216%256+256*0)))=w;omega
theorem So:∀{l:List Nat},(∀a,a∈l->a<4294967296)->val 256 (l.flatMap le4)=val 4294967296 l
 | [],_=>rfl
 | w::l,h=>by rw[fc,Ee,AaY (h w (ax ..)),So λx hx=>h x (bi _ hx)];show w+256^4*_=w+4294967296*_;rw[show(256:Nat)^4=4294967296 from by decide]
theorem V3(l:List Nat):∀a,a∈l.flatMap le4->a<256:=λa ha=>by obtain⟨w,_,h⟩:=List.mem_flatMap.1 ha;simp only[le4,bg,List.not_mem_nil,gv]at h;rcases h with rfl|rfl|rfl|rfl<;>exact Nat.mod_lt _ δ
theorem Abi(l:List Nat):l.reverse.flatMap ZH=(l.flatMap le4).reverse.map UInt8.ofNat:=by
 induction l with
 | nil=>rfl
 | cons w l ih=>
  have e:(w::l).flatMap le4=le4 w++l.flatMap le4:=fc;have e2:[w].flatMap ZH=ZH w:=by rw[fc];simp
  rw[List.reverse_cons,dx,ih,e,List.reverse_append,dd,e2,Adi w]
theorem QM:∀{l:List Nat},(∀a,a∈l->a<256)->(l.map UInt8.ofNat).dropWhile (·==0)=(l.dropWhile (·==0)).map UInt8.ofNat
 | [],_=>rfl
 | a::l,h=>by
  have ha:=h a (ax ..);rw[dr,List.dropWhile_cons,List.dropWhile_cons];by_cases h0:a=0
  ·subst h0;rw[ah (by rfl),ah (by rfl)];exact QM λx hx=>h x<|bi _ hx
  ·have:UInt8.ofNat a≠0:=λe=>h0 (by
    have:=aw UInt8.toNat e
    simp at this;omega)
   rw[ae (by simpa using this),ae (by simpa using h0),dr]
theorem TO{l:List Nat}(h:∀a,a∈l->a<4294967296):(l.reverse.flatMap ZH).dropWhile (·==0)=A7 (val 4294967296 l):=by rw[Abi,QM λa ha=>V3 l a (List.mem_reverse.1 ha)];unfold A7;rw[<-So h,<-C0 δ (V3 l)];unfold De;rw[List.reverse_reverse]
theorem AbS(l:List Nat):(l.flatMap ZH).length=4*l.length:=by
 induction l with
 | nil=>rfl
 | cons w l ih=>rw[fc,af,ih,List.length_cons];show 4+_=_;omega
theorem OR{i:Nat}(h:i<(A7 m).length):((A7 m)[i]).toNat=m/256^((A7 m).length-1-i)%256:=by
 have key:∀(k n:Nat),(dg 256 n).getD k 0=n/256^k%256:=by
  intro k
  induction k with
  | zero=>
   intro n;by_cases h0:n=0
   ·subst h0;rfl
   ·rw[Gm δ h0];simp
  | succ k ih=>
   intro n;by_cases h0:n=0
   ·subst h0;simp[HH]
   ·rw[Gm δ h0,List.getD_cons_succ,ih,Nat.div_div_eq_div_mul,Nat.pow_succ,dw]
 have hl:=EV m
 have hg:(A7 m)[i]?=some (UInt8.ofNat ((dg 256 m).getD ((dg 256 m).length-1-i) 0)):=by unfold A7;rw[fk,List.getElem?_reverse ω];simp[List.getD,aj (show(dg 256 m).length-1-i<(dg 256 m).length by omega)]
 rw[aj h]at hg;rw[bf hg,key,hl];simp
theorem XZ{k:Nat}{lo:List Nat}(hv:val 4294967296 lo=m/256^(k+1)*256^(k+1))(hlt:∀a,a∈lo->a<4294967296)(hk:k/4<lo.length)(x:Nat)(hx:x=lo.getD (k/4) 0 ||| (m/256^k%256)*2^(8*(k%4))) :
  val 4294967296 (lo.set (k/4) x)=m/256^k*256^k/\x<4294967296:=by
 obtain⟨w,hw⟩:∃w,k/4=w:=⟨_,Y⟩
 obtain⟨s,hs⟩:∃s,k%4=s:=⟨_,Y⟩
 have hs4:s<4:=ω
 have hkk:k=4*w+s:=ω
 rw[hw]at hx hk ⊢;rw[hs]at hx;obtain⟨d,hd⟩:∃d,lo.getD w 0=d:=⟨_,Y⟩
 have hdm:d<4294967296:=by rw[<-hd];simp only[List.getD,aj hk,Option.getD_some];exact hlt _<|List.getElem_mem hk
 have hW:(4294967296:Nat)^w=256^(4*w):=by rw[show(4294967296:Nat)=256^4 from Y,<-Nat.pow_mul]
 have h1:=Kz 4294967296 lo w;rw[Ew,hd,fu ω]at h1;have hA:=Jm (b:=4294967296) δ (l:=lo.take w) λa ha=>hlt a (List.mem_of_mem_take ha);rw[ay,fu ω]at hA
 have hdiv:256^(s+1)∣d:=by
  have e1:256^(k+1)∣val 4294967296 lo:=by rw[hv];exact Nat.dvd_mul_left _ _
  have e2:(256:Nat)^(k+1)=4294967296^w*256^(s+1):=by rw[hW,<-Nat.pow_add,hkk];rfl
  have e3:4294967296^w∣val 4294967296 lo:=Nat.dvd_trans ⟨_,e2⟩ e1
  have e4:4294967296^w∣val 4294967296 (lo.take w):=by rw[h1]at e3;exact(Nat.dvd_add_left (Nat.dvd_mul_right _ _)).1 e3
  have e5:val 4294967296 (lo.take w)=0:=Nat.eq_zero_of_dvd_of_lt e4 hA;rw[e5,Nat.zero_add]at h1;rw[e2,h1]at e1;have e6:=Nat.dvd_of_mul_dvd_mul_left (Nat.pow_pos δ) e1
  have e7:256^(s+1)∣4294967296*val 4294967296 (lo.drop (w+1)):=by refine Nat.dvd_mul_right_of_dvd ?_ _;rw[show(4294967296:Nat)=256^4 from Y];exact Nat.pow_dvd_pow _ ω
  exact(Nat.dvd_add_left e7).1 e6
 obtain⟨c,hc⟩:=hdiv;obtain⟨y,hy⟩:∃y,m/256^k%256=y:=⟨_,Y⟩
 have hy8:y<256:=by rw[<-hy];exact Nat.mod_lt _ δ
 have e28:(2:Nat)^(8*s)=256^s:=by rw[Nat.pow_mul]
 rw[hy,hd,e28]at hx
 have hlow:y*256^s<2^(8*(s+1)):=by rw[Nat.pow_mul,show(2:Nat)^8=256 from Y,Nat.pow_succ,dw (256^s)];exact Nat.mul_lt_mul_of_pos_right hy8<|Nat.pow_pos δ
 have e8:d=c <<< (8*(s+1)):=by rw[Nat.shiftLeft_eq,Nat.pow_mul,hc,dw]
 have hxe:x=d+y*256^s:=by rw[hx,e8,<-Nat.shiftLeft_add_eq_or_of_lt hlow]
 have hxl:x<4294967296:=by
  have h3:s=0\/s=1\/s=2\/s=3:=ω
  rw[hxe];rcases h3 with rfl|rfl|rfl|rfl<;>simp only[Nat.reduceAdd,Nat.reducePow]at hc ⊢<;>omega
 refine⟨?_,hxl⟩;have h4:=HC 4294967296 lo w x hk;rw[hd,hxe,Nat.mul_add]at h4
 have h5:4294967296^w*(y*256^s)=y*256^k:=by rw[hW,Nat.mul_left_comm,<-Nat.pow_add,<-hkk]
 have h6:m/256^k*256^k=m/256^(k+1)*256^(k+1)+y*256^k:=by have:=Nat.mod_add_div (m/256^k) 256;rw[hy,Nat.div_div_eq_div_mul,<-Nat.pow_succ]at this;rw[<-this,cw,Nat.pow_succ,dw 256,Nat.mul_assoc,dw 256];omega
 rw[hxe] ;omega
end Go.Wd
namespace Go.Eng
open Go.RowKit
theorem Dk{P:Program}{o:Oper}{s:AE}{h:Hp}{ms:List Hp}{v v':Value}(H:OX P o s h ms v)(e:v=v'):OX P o s h ms v':=e ▸ H
theorem IQ{n:Nat}:((n &&& 4294967295:Nat):Int)=((n%4294967296:Nat):Int):=by have:=Nat.and_two_pow_sub_one_eq_mod n 32;rw[show(2^32-1:Nat)=4294967295 from Y]at this;rw[this]
theorem Lr{P:Program}{o:Oper}{s:AE}{h:Hp}{ms:List Hp}{t u:TypeId}{x y:Operand}{l l':List UInt8}(ho:o.op=.binOp .eql t x y u)(hx:ev s x=some (sv l))(hy:ev s y=some (sv l')):OX P o s h ms (.bool (decide (l=l'))):=
 Bs λρ w hρ _=>by
  have e:(l==l')=decide (l=l'):=by
   by_cases h:l=l'
   ·subst h;simp
   ·simp[h]
  simp[execOp,ho,hρ _ _ hx,hρ _ _ hy,sv,binOp_string_eql,e,ByteArray.toList_eq,eqGuard_at_string]
end Go.Eng
namespace Go.Wd
theorem AaC{m:Nat}(h:m≠0):∃(b:UInt8) (l:List UInt8),A7 m=b::l/\b.toNat≠0:=by
 have hne:A7 m≠[]:=λe=>h (bys_nil.1 e);have hp:0<(A7 m).length:=List.length_pos_iff.2 hne;have h0:=OR (m:=m) (i:=0) hp;obtain⟨b,l,e⟩:=List.exists_cons_of_ne_nil hne;refine⟨b,l,e,λhb=>?_⟩;have e0:(A7 m)[0]=b:=by simp[e]
 rw[e0,hb]at h0;have hl:=EV m;have h1:=Kl (b:=256) δ h;have h2:=(BQ (b:=256) δ (dg 256 m).length m).1 (am _);rw[Nat.sub_zero,hl]at h0;obtain⟨k,hk⟩:∃k,(dg 256 m).length=k+1:=⟨(dg 256 m).length-1,ω⟩
 rw[hk]at h0 h1 h2;rw[show k+1-1=k by omega]at h0 h1;rw[Nat.pow_succ,dw]at h2;have h3:m/256^k<256:=by rw[Nat.div_lt_iff_lt_mul (Nat.pow_pos δ)];exact h2
 rw[db h3]at h0;have h4:0<m/256^k:=Nat.div_pos h1 (Nat.pow_pos δ);omega
end Go.Wd
namespace Go.Eng
open Go.RowKit Go.Lin
theorem RdL.rowF{F:Int->List Value}{sz:Nat}{h:Hp}{ms:List Hp}{v:Value}{r c:Nat}{f:Nat->Nat->Int}(R:RdL F sz h ms v (DW r c f)){i:Nat}(hi:i<r):RdL F sz h ms (CP sz v (i*c) ((i+1)*c)) (Dr c (f i)):=by
 have h0:(i+1)*c<=r*c:=du c hi;have h1:(i+1)*c=i*c+c:=by rw[cw,fp]
 have:=R.sub_ (i:=i*c) (j:=(i+1)*c) ω (by rw[Ca];exact h0);rw[show(i+1)*c-i*c=c by omega,AcT hi]at this;exact this
theorem RdL.evF{F:Int->List Value}{sz:Nat}{h:Hp}{ms:List Hp}{v:Value}{n:Nat}{f:Nat->Int}(R:RdL F sz h ms v (Dr n f)){j:Nat}(hj:j<n):Seg h ms ((AH v).add (j*sz)) (F (f j)):=by
 have hl:j<(Dr n f).length:=by rw[B7];exact hj
 have:=R.seg hl
 rwa [AaU hj]at this
theorem RdL.entF{F:Int->List Value}{sz:Nat}{h:Hp}{ms:List Hp}{v:Value}{r c:Nat}{f:Nat->Nat->Int}(R:RdL F sz h ms v (DW r c f)){i j:Nat}(hi:i<r)(hj:j<c):Seg h ms ((AH v).add ((i*c+j)*sz)) (F (f i j)):=by
 have hl:i*c+j<(DW r c f).length:=by rw[Ca];exact LS hi hj
 have:=R.seg hl
 rwa [AcF hi hj]at this
theorem Aau{F:Int->List Value}{sz:Nat}{h:Hp}{ms:List Hp}{v:Value}{r c:Nat}{f:Nat->Nat->Int}(R:RdL F sz h ms v (DW r c f)){i j:Nat}(hi:i<r)(hj:j<c):(AH (CP sz v (i*c) ((i+1)*c))).add (j*sz)=(AH v).add ((i*c+j)*sz):=by
 have hl:i*c<(DW r c f).length:=by have:=LS hi hj;rw[Ca];omega
 rw[WW R.rd hl,BF,<-cw]
end Go.Eng
namespace Go.Lin
def JA(k:Nat)(f g:Nat->Nat->Int)(i t j a b:Nat):Int:=if a<i then sm k (λq=>f a q*g q b) else if a=i then(if b<j then sm (t+1) (λq=>f a q*g q b) else sm t (λq=>f a q*g q b)) else 0
theorem X9(k:Nat)(f g:Nat->Nat->Int)(a b:Nat):JA k f g 0 0 0 a b=0:=by
 unfold JA;rw[ae ω];split
 ·rw[ae ω];rfl
 ·rfl
theorem TX(k:Nat)(f g:Nat->Nat->Int)(i t j:Nat):JA k f g i t j i j=sm t (λq=>f i q*g q j):=by unfold JA;rw[ae ω,ah rfl,ae ω]
theorem RN(k:Nat)(f g:Nat->Nat->Int)(i t j a b:Nat)(x:Int)(hx:x=JA k f g i t j i j+f i t*g t j):OS (JA k f g i t j) i j x a b=JA k f g i t (j+1) a b:=by
 unfold OS;by_cases h:a=i/\b=j
 ·obtain⟨rfl,rfl⟩:=h;rw[ah ⟨rfl,rfl⟩,hx,TX];unfold JA;rw[ae ω,ah rfl,ah ω];rfl
 ·rw[ae h];unfold JA;by_cases h1:a<i
  ·rw[ah h1,ah h1]
  ·rw[ae h1,ae h1];by_cases h2:a=i
   ·rw[ah h2,ah h2];by_cases h3:b<j
    ·rw[ah h3,ah ω]
    ·rw[ae h3,ae ω]
   ·rw[ae h2,ae h2]
theorem AaG(k:Nat)(f g:Nat->Nat->Int)(i t j a b:Nat)(h0:f i t*g t j=0):JA k f g i t j a b=JA k f g i t (j+1) a b:=by
 rw[<-RN k f g i t j a b _ rfl,h0,fz];unfold OS;by_cases h:a=i/\b=j
 ·obtain⟨rfl,rfl⟩:=h;rw[ah ⟨rfl,rfl⟩]
 ·rw[ae h]
theorem Aal(k:Nat)(f g:Nat->Nat->Int)(i t c a b:Nat)(hb:b<c):JA k f g i t c a b=JA k f g i (t+1) 0 a b:=by
 unfold JA;by_cases h1:a<i
 ·rw[ah h1,ah h1]
 ·rw[ae h1,ae h1];by_cases h2:a=i
  ·rw[ah h2,ah h2,ah hb,ae ω]
  ·rw[ae h2,ae h2]
theorem Yv(k:Nat)(f g:Nat->Nat->Int)(i t a b:Nat)(h0:f i t=0):JA k f g i t 0 a b=JA k f g i (t+1) 0 a b:=by
 unfold JA;by_cases h1:a<i
 ·rw[ah h1,ah h1]
 ·rw[ae h1,ae h1];by_cases h2:a=i
  ·subst h2;rw[ah rfl,ah rfl,ae ω,ae ω];show _=sm t (λq=>f a q*g q b)+f a t*g t b;rw[h0,gj,fz]
  ·rw[ae h2,ae h2]
theorem Acj(k:Nat)(f g:Nat->Nat->Int)(i a b:Nat):JA k f g i k 0 a b=JA k f g (i+1) 0 0 a b:=by
 unfold JA;by_cases h1:a<i
 ·rw[ah h1,ah ω]
 ·rw[ae h1];by_cases h2:a=i
  ·rw[ah h2,ae ω,ah ω]
  ·rw[ae h2,ae ω];by_cases h3:a=i+1
   ·rw[ah h3,ae ω];rfl
   ·rw[ae h3]
theorem AcM(k:Nat)(f g:Nat->Nat->Int)(r a b:Nat)(ha:a<r):JA k f g r 0 0 a b=sm k (λq=>f a q*g q b):=by unfold JA;rw[ah ha]
end Go.Lin
namespace Go.Eng
open Go.RowKit
variable {m:Hp} {vs:List Value}
theorem SJ{a b c:Hp}(h:a.disj b):a.join (b.join c)=b.join (a.join c):=by rw[<-Hp.join_assoc,Hp.join_comm h,Hp.join_assoc]
section
variable {α:Type} {F:α->List Value} {sz:Nat} {el:TypeId}
def VsO(F:α->List Value)(sz:Nat)(el:TypeId):Hp->List Value->List (List α)->Prop
 | m,[],[]=>m=Hp.emp
 | m,v::vs,c::cs=>∃a b,m=a.join b/\a.disj b/\OwnL F sz el a v c/\VsO F sz el b vs cs
 | _,_,_=>False
theorem VsO.len:∀{vs:List Value} {cs:List (List α)} {m:Hp},VsO F sz el m vs cs->vs.length=cs.length
 | [],[],_,_=>rfl
 | _::_,_::_,_,⟨_,_,_,_,_,h⟩=>by simp[h.len]
 | [],_::_,_,h=>h.elim
 | _::_,[],_,h=>h.elim
theorem VsO.snoc{v:Value}{c:List α}{b:Hp}(O:OwnL F sz el b v c):∀{vs:List Value} {cs:List (List α)} {m:Hp},VsO F sz el m vs cs->m.disj b->VsO F sz el (m.join b) (vs++[v]) (cs++[c])
 | [],[],m,h,hd=>by have h:m=Hp.emp:=h;subst h;exact⟨b,Hp.emp,by rw[Hp.join_emp,Hp.emp_join],λg=>.inr rfl,O,rfl⟩
 | _::_,_::_,m,⟨a,b',e,hd',O',h⟩,hd=>by subst e;refine⟨a,b'.join b,Hp.join_assoc _ _ _,?_,O',h.snoc O (Hp.disj_right hd)⟩;exact Hp.disj_symm<|Hp.disj_join (Hp.disj_symm hd')<|Hp.disj_symm<|Hp.disj_left hd
 | [],_::_,_,h,_=>h.elim
 | _::_,[],_,h,_=>h.elim
theorem VsO.at_:∀{vs:List Value} {cs:List (List α)} {m:Hp},VsO F sz el m vs cs->∀{i:Nat} (hv:i<vs.length) (hc:i<cs.length),∃a b,m=a.join b/\a.disj b/\OwnL F sz el a vs[i] cs[i]/\∀a' c',a'.disj b->OwnL F sz el a' vs[i] c'->VsO F sz el (a'.join b) vs (cs.set i c')
 | [],_,_,_,i,hv,_=>by simp at hv
 | _::_,[],_,h,_,_,_=>h.elim
 | v::vs,c::cs,m,⟨a,b,e,hd,O,C⟩,0,_,_=>⟨a,b,e,hd,O,λa' c' hd' O'=>⟨a',b,rfl,hd',O',C⟩⟩
 | v::vs,c::cs,m,⟨a0,b0,e,hd,O,C⟩,i+1,hv,hc=>by
  obtain⟨a,b,e2,hd2,O2,K⟩:=C.at_ (i:=i) (by simpa using hv) (by simpa using hc);subst e2;obtain⟨h0a,h0b⟩:=Hp.disj_of_join hd;refine⟨a,a0.join b,by rw[e];exact SJ h0a,?_,O2,λa' c' hd' O'=>?_⟩
  ·exact Hp.disj_symm<|Hp.disj_join h0a<|Hp.disj_symm hd2
  ·obtain⟨k0,kb⟩:=Hp.disj_of_join hd';refine⟨a0,a'.join b,SJ k0,?_,O,K a' c' kb O'⟩;exact Hp.disj_symm<|Hp.disj_join k0<|Hp.disj_symm h0b
theorem VsO.rd{cs:List (List α)}{h:Hp}{ms:List Hp}(C:VsO F sz el m vs cs)(hm:m∈ms){i:Nat}(hv:i<vs.length)(hc:i<cs.length):RdL F sz h ms vs[i] cs[i]:=by obtain⟨a,b,e,hd,O,_⟩:=C.at_ hv hc;exact O.rdm (y:=a) (by rw[e];exact Hp.le_joinl) hm
theorem VsO.rdh{cs:List (List α)}{h:Hp}(C:VsO F sz el m vs cs)(hm:m.le h){i:Nat}(hv:i<vs.length)(hc:i<cs.length):RdL F sz h [] vs[i] cs[i]:=by obtain⟨a,b,e,hd,O,_⟩:=C.at_ hv hc;exact O.rdh<|Hp.le_trans (by rw[e];exact Hp.le_joinl) hm
end
section
variable {e:Entry} {Q:Exit->Act->World->Prop} {ops:Array Oper} {rest:List Oper} {o:Oper} {s:AE} {h:Hp} {ms:List Hp} {α:Type} {F:α->List Value} {sz:Nat} {el:TypeId}
theorem Ty{cs:List (List α)}{t:TypeId}{x y:Operand}{u z:Value}{bytes:Nat}(i j:Nat)(a:α)(C:VsO F sz el m vs cs)(hi:i<vs.length)(hc:i<cs.length)(hj:j<cs[i].length)(ho:o.op=.store t x y)(hs:Elem e.P t sz z bytes)(hx:ev s x=some (.pointer (some ((AH vs[i]).add (j*sz)))))(hy:ev s y=some u)(hv:u.cells=(F a).toArray)(h1:∀c∈F a,c.oneCell'=true)
  (hd:o.dst=none) (hg:o.guard=none)
  (K:∀m',VsO F sz el m' vs (cs.set i (cs[i].set j a))->WL e ops Q rest s h (m'::ms)):WL e ops Q (o::rest) s h (m::ms):=by
 obtain⟨p,q,rfl,hd2,O,B⟩:=C.at_ hi hc;refine AbU hd2 ?_;refine EF 0 j a O ho hs hx hy hv h1 Y hj hd hg λm' O'=>?_;refine Aam λhap=>?_;have hap:(m'::q::ms).Pairwise Hp.disj:=hap;rw[b7]at hap;exact Ab7<|K _<|B m' _ (hap.1 q<|ax) O'
theorem SR(hF:∀x,(F x).length=sz)(hsz:0<sz)(a:α)(k:Nat):(Builtin.zeroCells (F a).toArray k).toList=(replicate k a).flatMap F:=by
 have h:=KE hF hsz a k
 have e:Builtin.zeroCells (F a).toArray k=madeCells (F a).toArray (k*sz):=by unfold Builtin.zeroCells madeCells;rw[f5,hF]
 rw[e,h]
theorem Rg{t u:TypeId}{d:Nat}{bytes:Nat}{x y:Operand}{v z:Value}{l:List α}{k:Nat}(i:Nat)(a:α)(O:OwnL F sz el m v l)(ho:o.op=.call { callee:=.builtin .append,args:=#[x,y],argTypes:=#[t,u] })(ht:e.P.underlying t=some (.slice el))(hu:e.P.underlying u=some (.int .i64))(hs:Elem e.P el sz z bytes)(hz:z.cells=(F a).toArray)(hsz:0<sz)(h1:∀c∈F a,c.oneCell'=true)
  (hx:ev s x=some v) (hy:ev s y=some (.w k)) (hm:ms[i]?=some m) (hb:(l.length+k)*bytes<=140737488355328) (hb63:l.length+k<=9223372036854775807) (hd:o.dst=some d) (hn:Nat.blt d e.n=true) (hg:o.guard=none)
  (K:∀v' m',OwnL F sz el m' v' (l++replicate k a)->WL e ops Q rest ((d,v')::s) h (ms.set i m')):WL e ops Q (o::rest) s h ms:=
 HP (post:=λv' h' ms'=>∃m',h'=h/\ms'=ms.set i m'/\OwnL F sz el m' v' (l++replicate k a)) (λρ w hρ hw=>by
  obtain⟨r,p1,_⟩:=Fw ms i m m hm;have hzc:(Builtin.zeroCells z.cells k).toList=(replicate k a).flatMap F:=by rw[hz];exact SR O.len hsz a k
  obtain⟨v',w',m',hr,hO,hE⟩:=Kw (P:=e.P) (Ends.perm hw p1) t u o.type el ht hu hs (by rw[hz];simp[O.len]) hsz O.own (k:=k) (λc hc=>by
   rw[hzc]at hc;obtain⟨b,hb,hc⟩:=List.mem_flatMap.1 hc
   rw[(List.mem_replicate.1 hb).2]at hc;exact h1 c hc) hb hb63
  have:(execOp ρ o).run e.P w=.ok (.value v') w':=by simp[execOp,ho,hρ _ _ hx,hρ _ _ hy,resolve,invoke,builtin,hr]
  unfold OpRes;rw[this];obtain⟨r',q1,q2⟩:=Fw ms i m m' hm;have pr:(m'::r).Perm (ms.set i m'):=((List.Perm.cons_inv (p1.symm.trans q1)).cons m').trans q2.symm;refine⟨h,_,Ends.perm hE pr,m',Y,Y,⟨?_,O.len⟩⟩;rw[hzc]at hO;rw[af,List.length_replicate,dx]
  exact hO) hd hn hg λv' h' ms' ⟨m',e1,e2,e3⟩=>by subst e1 e2;exact K v' m' e3
end
end Go.Eng
namespace Go.Eng
open Go.RowKit
theorem Ym{P:Program}{o:Oper}{s:AE}{h:Hp}{ms:List Hp}{ty el:TypeId}{x:Operand}{a:Option Addr}{n c:Nat}(ho:o.op=.call { callee:=.builtin .cap,args:=#[x],argTypes:=#[ty] })(ht:P.underlying ty=some (.slice el))(hx:ev s x=some (.slice a n c)):OX P o s h ms (.int .i64 c):=
 Bs λρ w hρ _=>by simp[execOp,ho,hρ _ _ hx,resolve,invoke,builtin,Builtin.cap_,run_underlying ht,goInt]
end Go.Eng
namespace Go.Sm
open Go.Lin
variable {n c i B k q:Nat} {M:List (List Int)} {x y:Int}
def AV(M:List (List Int))(i j:Nat):Int:=(M.getD i []).getD j 0
def FT(M:List (List Int))(i j:Nat)(x:Int):List (List Int):=M.set i ((M.getD i []).set j x)
structure Shape(n c:Nat)(M:List (List Int)):Prop where
 len:M.length=n
 row:∀i,i<n->(M.getD i []).length=c
theorem Shape.set(S:Shape n c M)(i j:Nat)(x:Int):Shape n c (FT M i j x):=by
 unfold FT;refine⟨by rw[ff];exact S.len,λk hk=>?_⟩;have hk2:k<M.length:=by rw[S.len];exact hk
 by_cases h:i=k
 ·subst h;simp[List.getD,hk2];have:=S.row i hk;simpa[List.getD,hk2] using this
 ·have e:(M.set i ((M.getD i []).set j x)).getD k []=M.getD k []:=by simp[List.getD,List.getElem?_set,h]
  rw[e];exact S.row k hk
theorem Iw(S:Shape n c M){j:Nat}(x:Int)(hi:i<n)(hj:j<c)(a b:Nat):AV (FT M i j x) a b=if a=i/\b=j then x else AV M a b:=by
 have hi2:i<M.length:=by rw[S.len];exact hi
 have hr:=S.row i hi;unfold AV FT;by_cases h:a=i
 ·subst h;have e:(M.set a ((M.getD a []).set j x)).getD a []=(M.getD a []).set j x:=by simp[List.getD,hi2]
  rw[e];by_cases h2:b=j
  ·subst h2;rw[ah ⟨rfl,rfl⟩];simp[List.getD,List.getElem?_set];have:b<(M[a]?.getD []).length:=by simpa[List.getD] using (by rw[hr];exact hj:b<(M.getD a []).length)
   simp[this]
  ·rw[ae (by simp[h2])];simp[List.getD,List.getElem?_set,ft h2]
 ·have e:(M.set i ((M.getD i []).set j x)).getD a []=M.getD a []:=by simp[List.getD,List.getElem?_set,ft h]
  rw[e,ae (by simp[h])]
structure Tn where
 (a b c d:Int)
deriving DecidableEq
def It(i k:Nat)(t:Tn)(M:List (List Int))(q:Nat):List (List Int):=
 FT (FT M i q (t.a*AV M i q+t.b*AV M k q)) k q (t.c*AV M i q+t.d*AV M k q)
def Ft(i k:Nat)(t:Tn)(M:List (List Int)):Nat->List (List Int)
 | 0=>M
 | q+1=>It i k t (Ft i k t M q) q
def IS(i k:Nat)(t:Tn)(M:List (List Int))(q:Nat):List (List Int):=
 FT (FT M q i (t.a*AV M q i+t.b*AV M q k)) q k (t.c*AV M q i+t.d*AV M q k)
def Fm(i k:Nat)(t:Tn)(M:List (List Int)):Nat->List (List Int)
 | 0=>M
 | q+1=>IS i k t (Fm i k t M q) q
theorem Shape.rows(S:Shape n c M)(i k:Nat)(t:Tn):∀q,Shape n c (Ft i k t M q)
 | 0=>S
 | q+1=>((S.rows i k t q).set _ _ _).set _ _ _
theorem Shape.cols(S:Shape n c M)(i k:Nat)(t:Tn):∀q,Shape n c (Fm i k t M q)
 | 0=>S
 | q+1=>((S.cols i k t q).set _ _ _).set _ _ _
theorem SE(S:Shape n c M)(t:Tn)(hi:i<n)(hk:k<n)(hik:i≠k)(hq:q<c)(a b:Nat):AV (It i k t M q) a b=if b=q then(if a=i then t.a*AV M i q+t.b*AV M k q else if a=k then t.c*AV M i q+t.d*AV M k q else AV M a b) else AV M a b:=by
 unfold It;rw[Iw (S.set _ _ _) _ hk hq,Iw S _ hi hq];by_cases hb:b=q
 ·by_cases h1:a=i
  ·have h2:a≠k:=λe=>hik (h1.symm.trans e);rw[ae (by simp[h2]),ah ⟨h1,hb⟩,ah hb,ah h1]
  ·by_cases h2:a=k
   ·rw[ah ⟨h2,hb⟩,ah hb,ae h1,ah h2]
   ·rw[ae (by simp[h2]),ae (by simp[h1]),ah hb,ae h1,ae h2]
 ·rw[ae (by simp[hb]),ae (by simp[hb]),ae hb]
theorem Qu(S:Shape n c M)(t:Tn)(hi:i<c)(hk:k<c)(hik:i≠k)(hq:q<n)(a b:Nat):AV (IS i k t M q) a b=if a=q then(if b=i then t.a*AV M q i+t.b*AV M q k else if b=k then t.c*AV M q i+t.d*AV M q k else AV M a b) else AV M a b:=by
 unfold IS;rw[Iw (S.set _ _ _) _ hq hk,Iw S _ hq hi];by_cases hb:a=q
 ·by_cases h1:b=i
  ·have h2:b≠k:=λe=>hik (h1.symm.trans e);rw[ae (by simp[h2]),ah ⟨hb,h1⟩,ah hb,ah h1]
  ·by_cases h2:b=k
   ·rw[ah ⟨hb,h2⟩,ah hb,ae h1,ah h2]
   ·rw[ae (by simp[h2]),ae (by simp[h1]),ah hb,ae h1,ae h2]
 ·rw[ae (by simp[hb]),ae (by simp[hb]),ae hb]
theorem F4(S:Shape n c M)(t:Tn)(hi:i<n)(hk:k<n)(hik:i≠k):∀q,q<=c->∀a b,AV (Ft i k t M q) a b=if b<q then(if a=i then t.a*AV M i b+t.b*AV M k b else if a=k then t.c*AV M i b+t.d*AV M k b else AV M a b) else AV M a b
 | 0,_,a,b=>by rw[ae ω];rfl
 | q+1,hq,a,b=>by
  have ih:=F4 S t hi hk hik q ω;show AV (It i k t _ q) a b=_;rw[SE (S.rows i k t q) t hi hk hik ω,ih i q,ih k q,ih a b];by_cases hb:b=q
  ·subst hb;have h0:¬b<b:=ω
   have h1:b<b+1:=ω
   simp only[h0,h1,if_true,if_false]
  ·rw[ae hb];by_cases h3:b<q
   ·rw[ah h3,ah (show b<q+1 by omega)]
   ·rw[ae h3,ae (show ¬b<q+1 by omega)]
theorem Gw(S:Shape n c M)(t:Tn)(hi:i<c)(hk:k<c)(hik:i≠k):∀q,q<=n->∀a b,AV (Fm i k t M q) a b=if a<q then(if b=i then t.a*AV M a i+t.b*AV M a k else if b=k then t.c*AV M a i+t.d*AV M a k else AV M a b) else AV M a b
 | 0,_,a,b=>by rw[ae ω];rfl
 | q+1,hq,a,b=>by
  have ih:=Gw S t hi hk hik q ω;show AV (IS i k t _ q) a b=_;rw[Qu (S.cols i k t q) t hi hk hik ω,ih q i,ih q k,ih a b];by_cases hb:a=q
  ·subst hb;have h0:¬a<a:=ω
   have h1:a<a+1:=ω
   simp only[h0,h1,if_true,if_false]
  ·rw[ae hb];by_cases h3:a<q
   ·rw[ah h3,ah (show a<q+1 by omega)]
   ·rw[ae h3,ae (show ¬a<q+1 by omega)]
def Bq(B:Nat)(n:Int):Prop:=n.natAbs<2^B
theorem Bq.mono{C:Nat}{n:Int}(h:Bq B n)(hBC:B<=C):Bq C n:=b6 h (Nat.pow_le_pow_right δ hBC)
theorem Bq.mul{C:Nat}(h:Bq B x)(h2:Bq C y):Bq (B+C) (x*y):=by unfold Bq;rw[Int.natAbs_mul,Nat.pow_add];exact Nat.mul_lt_mul'' h h2
theorem Bq.add(h:Bq B x)(h2:Bq B y):Bq (B+1) (x+y):=by unfold Bq at *;have:=Int.natAbs_add_le x y;rw[Nat.pow_succ];omega
theorem Bq.neg(h:Bq B x):Bq B (-x):=by unfold Bq;rw[Int.natAbs_neg];exact h
theorem Bq.zero(B:Nat):Bq B 0:=Nat.pow_pos δ
def BqT(t:Tn):Prop:=Bq 32 t.a/\Bq 32 t.b/\Bq 32 t.c/\Bq 32 t.d
def BqM(B:Nat)(M:List (List Int)):Prop:=∀i j,Bq B (AV M i j)
theorem Bq.lin{a b:Int}(ha:Bq 32 a)(hb:Bq 32 b)(hx:Bq B x)(hy:Bq B y):Bq (B+33) (a*x+b*y):=by have h1:=(ha.mul hx).add (hb.mul hy);exact h1.mono ω
theorem BqM.rows(h:BqM B M)(S:Shape n c M){t:Tn}(ht:BqT t)(hi:i<n)(hk:k<n)(hik:i≠k)(hq:q<=c):BqM (B+33) (Ft i k t M q):=λa b=>by
 rw[F4 S t hi hk hik q hq];split
 ·split
  ·exact Bq.lin ht.1 ht.2.1 (h _ _)<|h _ _
  ·split
   ·exact Bq.lin ht.2.2.1 ht.2.2.2 (h _ _)<|h _ _
   ·exact(h a b).mono ω
 ·exact(h a b).mono ω
theorem BqM.cols(h:BqM B M)(S:Shape n c M){t:Tn}(ht:BqT t)(hi:i<c)(hk:k<c)(hik:i≠k)(hq:q<=n):BqM (B+33) (Fm i k t M q):=λa b=>by
 rw[Gw S t hi hk hik q hq];split
 ·split
  ·exact Bq.lin ht.1 ht.2.1 (h _ _)<|h _ _
  ·split
   ·exact Bq.lin ht.2.2.1 ht.2.2.2 (h _ _)<|h _ _
   ·exact(h a b).mono ω
 ·exact(h a b).mono ω
end Go.Sm
namespace Go.Eng
open Go.RowKit
theorem Y6{P:Program}{w0:World}{h0:Hp}{ms0:List Hp}{n:Nat}{fn:Func}{post:Value->Hp->List Hp->Prop}{s:AE}{h:Hp}{t t2:Nat}{ty el:TypeId}{g g2:Nat}{d:TypeDesc}{sz:Nat}{z:Value}{bytes:Nat}{vs vs2:List Value}
  (hr:fn.results=#[.cell t ty,.cell t2 ty]) (hv:lk s t=some (.pt g)) (hv2:lk s t2=some (.pt g2)) (ht:P.underlying ty=some d) (hd:Ih d=true) (hs:Elem P ty sz z bytes) (hl:vs.length=sz) (hl2:vs2.length=sz)
  (hp:post (.tuple #[.agg vs.toArray,.agg vs2.toArray]) h []) :
  NX ⟨P,w0,h0,ms0,n,[]⟩ (bodyPost P fn (RP w0 h0 ms0 post)) .ret s h [BI g el vs,BI g2 el vs2]:=λa w ha hw=>by
 have h1:a.tmps[t]?.getD undef=.pt g:=by rw[ha.slots t _ hv];rfl
 have h1':a.tmps[t2]?.getD undef=.pt g2:=by rw[ha.slots t2 _ hv2];rfl
 have hag:(isAgg ty).run P w=.ok true w:=by rw[Ds ht,hd]
 have hc':∀j v,vs[j]?=some v->w.cell? ((⟨g,0,none⟩:Addr).add j)=some v:=λj v e=>hw.st.cell (Seg.blk (el:=el) 0 Y j v e);have hc2:∀j v,vs2[j]?=some v->w.cell? ((⟨g2,0,none⟩:Addr).add j)=some v:=λj v e=>hw.st.cell (Seg.blk (el:=el) 1 Y j v e);refine bodyPost_ret (v:=.tuple #[.agg vs.toArray,.agg vs2.toArray]) ?_ ha.defers ⟨_,h,_,Y,Ends.drop<|Ends.drop hw,hp⟩;have e1:=run_loadCells_list (P:=P) w _ vs hc';have e2:=run_loadCells_list (P:=P) w _ vs2 hc2;rw[hl]at e1;rw[hl2]at e2;simp[results,hr,h1,h1',asAddr,loadVar,hag,hs.sizeOf,e1,e2]
end Go.Eng
