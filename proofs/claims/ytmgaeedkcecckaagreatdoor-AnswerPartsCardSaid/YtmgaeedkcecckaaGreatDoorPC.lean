/- A part of the proof. -/
import Derived.Test.YtmgaeedkcecckaaGreatDoorPB
import Derived.Test.YtmgaeedkcecckaaGreatDoorChecked
import Derived.KernelRfl
import Derived.WalkArith
set_option linter.unusedSimpArgs false
set_option linter.unusedVariables false
set_option linter.unusedSectionVars false
set_option maxRecDepth 100000
set_option maxHeartbeats 4000000
open List (length_map length_singleton getElem_mem length_append nil_append length_take mem_cons map_append mem_cons_self mem_cons_of_mem length_nil length_drop map_map map_cons length_set append_assoc getElem_map length_cons mem_append_left map_congr_left foldl_append sum_cons sum_append not_mem_nil)
namespace Go.Sm
open Go.Eng Go.RowKit Go.Lin
variable {c B r:Nat} {S:FS}
theorem flat_at?:∀(M:List (List Int)),(∀l∈M,l.length=c)->∀k,k<M.length*c->M.flatten[k]?=some ((M.getD (k/c) []).getD (k%c) 0)
 | [],_,k,h=>by simp at h
 | l::M,hr,k,h=>by
  have hl:l.length=c:=hr l aq
  have hc:0<c:=by
   rcases gj c with e|e
   ·rw[e,Nat.mul_zero]at h;omega
   ·exact e
  rw[List.flatten_cons];by_cases hk:k<c
  ·rw[dz ω,fh hk,cw hk];simp[List.getD,hl,hk]
  ·have hk:c<=k:=ω
   rw[d5,db,fk]at h;rw[List.getElem?_append_right ω,hl,flat_at? M (λl h=>hr l (be _ h)) (k-c) ω,Nat.div_eq_sub_div hc hk,Nat.mod_eq_sub_mod hk];simp[List.getD]
theorem Shape.lens{n:Nat}{M:List (List Int)}(S:Shape n c M):∀l∈M,l.length=c:=λl hl=>by obtain⟨i,hi,rfl⟩:=df.1 hl;have:=S.row i (by have:=S.len;omega);simpa[List.getD,hi] using this
theorem Shape.flat{n:Nat}{M:List (List Int)}(S:Shape n c M):M.flatten=DV n c (AO M):=by
 refine List.ext_getElem? λk=>?_;by_cases hk:k<n*c
 ·rw[mat_at? hk,flat_at? M S.lens k (by rw[S.len];exact hk)];rfl
 ·have e1:M.flatten.length=n*c:=by
   have:∀(M:List (List Int)),(∀l∈M,l.length=c)->M.flatten.length=M.length*c:=by
    intro M
    induction M with
    | nil=>intro _;simp
    | cons l M ih=>intro h;rw[List.flatten_cons,ag,ih λl q=>h l (be _ q),h l aq,d5,db,fk,Nat.add_comm]
   rw[this M S.lens,S.len]
  rw[ei ω,ei (by rw[Ci];omega)]
theorem JO{g:Nat->Int}:∀(k:Nat),(∀t,t<k->Bq B (g t))->Bq (B+k) (sm k g)
 | 0,_=>Bq.zero _
 | k+1,h=>by have h1:=JO k λt ht=>h t ω;have h2:=(h k ω).mono (show B<=B+k by omega);exact(h1.add h2).mono ω
theorem FS.Ok.mu(O:S.Ok r c B):S.u.flatten=DV r r (AO S.u):=O.su.flat
theorem FS.Ok.md(O:S.Ok r c B):S.d.flatten=DV r c (AO S.d):=O.sd.flat
theorem FS.Ok.mv(O:S.Ok r c B):S.v.flatten=DV c c (AO S.v):=O.sv.flat
end Go.Sm
namespace Go.Eng
open Go.RowKit
variable {s:AE} {h h0:Hp} {P:Program} {w0:World} {ms0 ms:List Hp} {n:Nat} {fn:Func} {post:Value->Hp->List Hp->Prop}
theorem NM{t t2 t3:Nat}{ty ty2 ty3 el el2 Bp:TypeId}{g g2 g3:Nat}{d d2 d3:TypeDesc}{sz:Nat}{z v1 v3:Value}{bytes:Nat}{vs2:List Value}
  (hr:fn.results=#[.cell t ty,.cell t2 ty2,.cell t3 ty3]) (hv:lk s t=some (.pt g)) (hv2:lk s t2=some (.pt g2)) (hv3:lk s t3=some (.pt g3)) (ht:P.underlying ty=some d) (hd:Ie d=false) (ht2:P.underlying ty2=some d2) (hd2:Ie d2=true) (hs:Elem P ty2 sz z bytes) (hl2:vs2.length=sz) (ht3:P.underlying ty3=some d3) (hd3:Ie d3=false)
  (hp:post (.tuple #[v1,.agg vs2.toArray,v3]) h []) :
  NX ⟨P,w0,h0,ms0,n,[]⟩ (bodyPost P fn (RP w0 h0 ms0 post)) .ret s h [BL g3 Bp [v3],BL g2 el2 vs2,BL g el [v1]]:=λa w ha hw=>by
 have h1:a.tmps[t]?.getD undef=.pt g:=by rw[ha.slots t _ hv];rfl
 have h1':a.tmps[t2]?.getD undef=.pt g2:=by rw[ha.slots t2 _ hv2];rfl
 have h1'':a.tmps[t3]?.getD undef=.pt g3:=by rw[ha.slots t3 _ hv3];rfl
 have hag:(isAgg ty).run P w=.ok false w:=by rw[Ds ht,hd]
 have hag2:(isAgg ty2).run P w=.ok true w:=by rw[Ds ht2,hd2]
 have hag3:(isAgg ty3).run P w=.ok false w:=by rw[Ds ht3,hd3]
 have c1:=hw.st.cell (Cell.blk0 (el:=el) (h:=h) (ms:=[BL g3 Bp [v3],BL g2 el2 vs2,BL g el [v1]]) 2 Y (l:=[v1]) Y);have c3:=hw.st.cell (Cell.blk0 (el:=Bp) (h:=h) (ms:=[BL g3 Bp [v3],BL g2 el2 vs2,BL g el [v1]]) 0 Y (l:=[v3]) Y);have hc2:∀j v,vs2[j]?=some v->w.cell? ((⟨g2,0,none⟩:Addr).add j)=some v:=λj v e=>hw.st.cell (Seg.blk (el:=el2) 1 Y j v e);refine bodyPost_ret (v:=.tuple #[v1,.agg vs2.toArray,v3]) ?_ ha.defers ⟨_,h,_,Y,Ends.drop (Ends.drop (Ends.drop hw)),hp⟩;have e2:=run_loadCells_list (P:=P) w _ vs2 hc2;rw[hl2]at e2;simp[results,hr,h1,h1',h1'',asAddr,loadVar,hag,hag2,hag3,hs.sizeOf,c1,e2,c3]
theorem Ach{e:Entry}{id:Nat}{l:List Oper}{Q:Exit->Act->World->Prop}(np:Nat)(hm:e.P.follows .mixedOrders=true)(hp:Si [] l.toArray np=true)(hf:KE e.n (l.take np) s=true)(hnd:Jk l=true)
  (k:WR e l.toArray Q (l.drop np) h ms (l.take np) s [] []):RS e (.region id l.toArray true) Q s h ms:=by
 intro _ _ a w ha hw hq;refine wpIn_region_any hm (Aap hq hnd _ _ _ _ (Tk np hp hf k σ (λi=>by rw[Cy];rfl) (λi o hi=>by rw[Cy]at hi;cases hi) (λi hi=>by cases hi) ?_ ha hw));unfold left;rw[Array.toList_replicate];exact bp (List.countP_le_length) σ
theorem N9{t a b g:Nat}{ty el:TypeId}{d:TypeDesc}{sz:Nat}{z va vb:Value}{bytes:Nat}{vs:List Value}
  (i:Nat) (hr:fn.results=#[.tmp a,.cell t ty,.tmp b]) (hva:lk s a=some va) (hv:lk s t=some (.pt g)) (hvb:lk s b=some vb) (ht:P.underlying ty=some d) (hd:Ie d=true) (hs:Elem P ty sz z bytes) (hl:vs.length=sz) (hc:ms[i]?=some (BL g el vs)) (hp:post (.tuple #[va,.agg vs.toArray,vb]) h (ms.eraseIdx i)) :
  NX ⟨P,w0,h0,ms0,n,[]⟩ (bodyPost P fn (RP w0 h0 ms0 post)) .ret s h ms:=λx w ha hw=>by
 have h1:x.tmps[t]?.getD undef=.pt g:=by rw[ha.slots t _ hv];rfl
 have h2:x.tmps[a]?.getD undef=va:=by rw[ha.slots a _ hva];rfl
 have h3:x.tmps[b]?.getD undef=vb:=by rw[ha.slots b _ hvb];rfl
 have hag:(isAgg ty).run P w=.ok true w:=by rw[Ds ht,hd]
 have hc':∀j v,vs[j]?=some v->w.cell? ((⟨g,0,none⟩:Addr).add j)=some v:=λj v e=>hw.st.cell (Seg.blk i hc j v e);refine bodyPost_ret (v:=.tuple #[va,.agg vs.toArray,vb]) ?_ ha.defers ⟨_,h,_,Y,Ends.erase hw hc,hp⟩;subst hl;simp[results,hr,h1,h2,h3,asAddr,loadVar,hag,hs.sizeOf,run_loadCells_list (P:=P) w _ vs hc']
theorem X0{x:Exit}(hx:x=.normal\/x=.ret)(k:NX ⟨P,w0,h0,ms0,n,[]⟩ (bodyPost P fn (RP w0 h0 ms0 post)) x s h ms) :
  NX ⟨P,w0,h0,ms0,n,[]⟩ (bodyPostM Fence.wide 0 P fn (RP w0 h0 ms0 post)) x s h ms:=by
 intro a w ha hw;have hb:=k a w ha hw;have hd:a.defers=[]:=ha.defers
 have goal:LeavesInM Fence.wide 0 P fn a.tmps (RP w0 h0 ms0 post) a.defers .returning w:=by rw[hd];rcases hx with rfl|rfl<;>· obtain⟨_,v,hr,hR⟩:=hb;exact⟨v,hr,hR⟩
 rcases hx with rfl|rfl<;>exact goal
end Go.Eng
namespace Go.Ch
open Go.Eng Go.Sm
variable {f:Int->Int}
abbrev Tm:=Int×Int
def tv(T:List Tm)(c:Int):Int:=(Bs T c).getD 0
def Kj(T:List Tm)(c n:Int):List Tm:=Cj T c (tv T c+n)
theorem Ab2(T:List Tm)(c n b:Int):tv (Cj T c n) b=if b=c then n else tv T b:=by unfold tv;rw[Fc];split<;>rfl
theorem Acv(T:List Tm)(c n b:Int):tv (Kj T c n) b=tv T b+if b=c then n else 0:=by
 unfold Kj;rw[Ab2];split
 ·rename_i e;rw[e]
 ·omega
def Je(l:List Tm):List Tm:=l.foldl (λT p=>Kj T p.1 p.2) []
theorem JS(l:List Tm)(p:Tm):Je (l++[p])=Kj (Je l) p.1 p.2:=by unfold Je;rw[foldl_append];rfl
def cf(l:List Tm)(c:Int):Int:=(l.map λp=>if p.1=c then p.2 else 0).sum
theorem FW(c:Int):cf [] c=0:=rfl
theorem B6(p:Tm)(l:List Tm)(c:Int):cf (p::l) c=(if p.1=c then p.2 else 0)+cf l c:=rfl
theorem Eo(l r:List Tm)(c:Int):cf (l++r) c=cf l c+cf r c:=by unfold cf;rw[cq,sum_append]
theorem Aam(l:List Tm):∀(T:List Tm) (c:Int),tv (l.foldl (λT p=>Kj T p.1 p.2) T) c=tv T c+cf l c:=by
 induction l with
 | nil=>intro T c;rw[FW];simp
 | cons p l ih=>
  intro T c;rw[f9,ih,Acv,B6];by_cases e:c=p.1
  ·rw[af e,af e.symm];omega
  ·rw[ab e,ab (λh=>e h.symm)];omega
theorem Fa(l:List Tm)(c:Int):tv (Je l) c=cf l c:=by have:=Aam l [] c;unfold Je;rw[this];show(0:Int)+_=_;omega
theorem XK(T:List Tm)(c n b:Int):b∈(Kj T c n).map Prod.fst<->b=c\/b∈T.map Prod.fst:=by
 unfold Kj Cj;split
 ·rename_i h
  have e:(T.map λp=>if p.1=c then(c,tv T c+n) else p).map Prod.fst=T.map Prod.fst:=by
   rw[gc];refine map_congr_left λp _=>?_;show(if p.1=c then(c,tv T c+n) else p).1=p.1;split
   ·rename_i e;exact e.symm
   ·rfl
  rw[e];exact⟨.inr,λq=>q.elim (λe=>e ▸ h) id⟩
 ·rw[cq,bl];simp only[dq,List.map_nil,bg];exact Or.comm
theorem UB(l:List Tm):∀(T:List Tm) (b:Int),b∈(l.foldl (λT p=>Kj T p.1 p.2) T).map Prod.fst<->b∈T.map Prod.fst\/b∈l.map Prod.fst:=by
 induction l with
 | nil=>intro T b;simp
 | cons p l ih=>
  intro T b;rw[f9,ih,XK,dq,bi];rw[or_assoc,or_comm (a:=b=p.1),or_assoc,or_comm (a:=b∈l.map Prod.fst)]
theorem Mf(l:List Tm)(b:Int):b∈(Je l).map Prod.fst<->b∈l.map Prod.fst:=by unfold Je;rw[UB];simp
theorem Aau(T:List Tm)(c n:Int):(Cj T c n).length<=T.length+1:=by unfold Cj;split<;>simp
theorem Iz(l:List Tm):(Je l).length<=l.length:=by
 have key:∀(l T:List Tm),(l.foldl (λT p=>Kj T p.1 p.2) T).length<=T.length+l.length:=by
  intro l
  induction l with
  | nil=>intro T;simp
  | cons p l ih=>
   intro T;rw[f9];have h1:=ih (Kj T p.1 p.2);have h2:(Kj T p.1 p.2).length<=T.length+1:=Aau _ _ _;rw[d5];omega
 have:=key l [];simpa[Je] using this
def Bk(l:List Tm):Nat:=(l.map λp=>p.2.natAbs).sum
theorem BN(l r:List Tm):Bk (l++r)=Bk l+Bk r:=by unfold Bk;rw[cq,sum_append]
theorem Dy(p:Tm)(l:List Tm):Bk (p::l)=p.2.natAbs+Bk l:=rfl
theorem C4(l:List Tm)(c:Int):(cf l c).natAbs<=Bk l:=by
 induction l with
 | nil=>exact ak _
 | cons p l ih=>
  rw[B6,Dy];split<;>omega
theorem Hq{l:List Tm}{p:Tm}(h:p∈l):p.2.natAbs<=Bk l:=by
 induction l with
 | nil=>cases h
 | cons q l ih=>
  rw[Dy];rcases bi.1 h with rfl|h
  ·omega
  ·have:=ih h;omega
structure CanL(l:List Tm)(f:Int->Int):Prop where
 srt:l.Pairwise λp q=>p.1<q.1
 val:∀p∈l,p.2=f p.1/\p.2≠0
 all:∀c,f c≠0->(c,f c)∈l
theorem CanL.mem{l:List Tm}(h:CanL l f)(p:Tm):p∈l<->p.2=f p.1/\p.2≠0:=
 ⟨h.val p,λ⟨e,n⟩=>by
  have:=h.all p.1 (e ▸ n)
  rwa [<-e]at this⟩
theorem Wr:∀{l r:List Tm},l.Pairwise (λp q=>p.1<q.1)->r.Pairwise (λp q=>p.1<q.1)->(∀p,p∈l<->p∈r)->l=r
 | [],[],_,_,_=>rfl
 | [],q::r,_,_,h=>ib ((h q).2 aq) σ
 | p::l,[],_,_,h=>ib ((h p).1 aq) σ
 | p::l,q::r,hl,hr,h=>by
  obtain⟨h1,h2⟩:=b6.1 hl;obtain⟨h3,h4⟩:=b6.1 hr
  have e:p=q:=by
   rcases bi.1 ((h p).1 aq) with e|e
   ·exact e
   ·rcases bi.1 ((h q).2 aq) with e'|e'
    ·exact e'.symm
    ·have a:=h3 p e;have b:=h1 q e';omega
  subst e
  have hlt:l=r:=Wr h2 h4 λx=>by
   have hx:=h x;simp only[bi]at hx;constructor
   ·intro m;rcases hx.1 (.inr m) with rfl|m'
    ·have:=h1 x m;omega
    ·exact m'
   ·intro m;rcases hx.2 (.inr m) with rfl|m'
    ·have:=h3 x m;omega
    ·exact m'
  rw[hlt]
theorem CanL.ext{l r:List Tm}{g:Int->Int}(h:CanL l f)(h':CanL r g)(e:∀c,f c=g c):l=r:=
 Wr h.srt h'.srt λp=>by rw[h.mem,h'.mem,e]
theorem CanL.congr{l:List Tm}{g:Int->Int}(h:CanL l f)(e:∀c,f c=g c):CanL l g:=by
 rwa [show g=f from funext λc=>(e c).symm]
theorem FU{l:List Tm}{c:Int}(h:∀p∈l,p.1≠c):cf l c=0:=by
 induction l with
 | nil=>rfl
 | cons p l ih=>rw[B6,ab (h p aq),ih λq hq=>h q (be _ hq)];rfl
theorem AaB:∀{l:List Tm},l.Pairwise (λp q=>p.1<q.1)->∀p∈l,cf l p.1=p.2
 | q::l,hl,p,hp=>by
  obtain⟨h1,h2⟩:=b6.1 hl;rw[B6];rcases bi.1 hp with rfl|hp
  ·rw[af rfl,FU λr hr=>by have:=h1 r hr;omega];omega
  ·rw[ab (by have:=h1 p hp;omega),AaB h2 p hp];omega
theorem CanL.cf_eq{l:List Tm}(h:CanL l f)(c:Int):cf l c=f c:=by
 by_cases hz:f c=0
 ·rw[hz];exact FU λp hp e=>(h.val p hp).2 (by rw[(h.val p hp).1,e,hz])
 ·have:=AaB h.srt _ (h.all c hz);exact this
end Go.Ch
namespace Go.Eng
open Go.RowKit
theorem RdL.built{α:Type}{F:α->List Value}{sz:Nat}{h:Hp}{g n:Nat}{l:List α}{cs:List Value}(hS:Seg h [] (⟨g,0,none⟩:Addr) cs)(hc:cs=l.flatMap F)(hn:l.length=n)(hF:∀x,(F x).length=sz)(hb:n<=1000000):RdL F sz h [] (.slice (some ⟨g,0,none⟩) n n) l:=by
 subst hc hn;refine⟨⟨some ⟨g,0,none⟩,l.length,Y,ak _,ω,?_,λ_=>⟨_,Y,hS⟩⟩,hF⟩;clear hS hb
 induction l with
 | nil=>simp
 | cons a l ih=>rw[List.flatMap_cons,ag,hF,ih,d5,db,fk,Nat.add_comm]
end Go.Eng
namespace Go.Ch
open Go.Eng
theorem AcH{l:List Tm}:∀{cs:List Int},cs.Nodup->(cs.map λc=>(cf l c).natAbs).sum<=Bk l:=by
 induction l with
 | nil=>
  intro cs _
  have:(cs.map λc=>(cf [] c).natAbs).sum=0:=by
   induction cs with
   | nil=>rfl
   | cons a t ih=>rw[dq,sum_cons];rename_i h;rw[ih (fe.1 h).2];rfl
  omega
 | cons p l ih=>
  intro cs hn;have h1:=ih hn
  have h2:(cs.map λc=>if p.1=c then p.2.natAbs else 0).sum<=p.2.natAbs:=by
   clear h1 ih
   induction cs with
   | nil=>simp
   | cons a t ih=>
    obtain⟨h3,h4⟩:=fe.1 hn;rw[dq,sum_cons];by_cases e:p.1=a
    ·have:(t.map λc=>if p.1=c then p.2.natAbs else 0).sum=0:=by
      clear ih hn h4
      induction t with
      | nil=>rfl
      | cons b t ih2=>
       rw[dq,sum_cons,ab (λe2=>h3 (by rw[<-e,e2];exact aq)),ih2 λm=>h3 (be _ m)]
     rw[af e,this];omega
    ·rw[ab e];have:=ih h4;omega
  have h3:(cs.map λc=>(cf (p::l) c).natAbs).sum<=(cs.map λc=>if p.1=c then p.2.natAbs else 0).sum+(cs.map λc=>(cf l c).natAbs).sum:=by
   clear h1 h2 ih hn
   induction cs with
   | nil=>simp
   | cons a t ih=>
    simp only[dq,sum_cons]
    have:(cf (p::l) a).natAbs<=(if p.1=a then p.2.natAbs else 0)+(cf l a).natAbs:=by rw[B6];split<;>omega
    omega
  rw[Dy];omega
theorem CanL.abl_le{l L:List Tm}(h:CanL l (cf L)):Bk l<=Bk L:=by
 have hn:(l.map Prod.fst).Nodup:=d6.2 (h.srt.imp λq e=>ω);have:=AcH (l:=L) hn;rw[gc]at this
 have e:l.map ((λc=>(cf L c).natAbs)∘Prod.fst)=l.map λp=>p.2.natAbs:=map_congr_left λp hp=>by show(cf L p.1).natAbs=_;rw[<-(h.val p hp).1]
 rw[e]at this;exact this
theorem CanL.ids{l L:List Tm}(h:CanL l (cf L)){p:Tm}(hp:p∈l):p.1∈L.map Prod.fst:=by obtain⟨e,n⟩:=h.val p hp;refine ay λq=>n ?_;rw[e];exact FU λr hr e=>q (aj.2 ⟨r,hr,e⟩)
end Go.Ch
namespace Go.Eng
open Go.RowKit
section
variable {κ ν:Type} [DecidableEq κ] {K:κ->Value} {V:ν->Value} {Ok:κ->Prop} {kt et t:TypeId} {g:Nat} {m:Hp} {T:List (κ×ν)} {bs:List Nat}
variable {e:Entry} {Q:Exit->Act->World->Prop} {ops:Array Oper} {rest:List Oper} {o:Oper} {s:AE} {h:Hp} {ms:List Hp}
theorem WM{x y u:Operand}{z:Value}(i:Nat)(a:κ)(y':ν)(L:Lc e.P kt K Ok)(O:Cd K V g Ok m T bs)(hin:a∈T.map Prod.fst)(hm:ms[i]?=some m)(ho:o.op=.mapUpdate t x y u)(ht:e.P.underlying t=some (.map kt et))(hx:ev s x=some (.map (some g)))(hy:ev s y=some (K a))(hu:ev s u=some (V y'))(ha:Ok a)
  (hd:o.dst=none) (hg:o.guard=none) (k:∀m',Cd K V g Ok m' (Cj T a y') bs->(∀gi mi vis,Et gi g m mi bs vis->Et gi g m' mi bs vis)->WL e ops Q rest s h (ms.set i m')):WL e ops Q (o::rest) s h ms:=
 K6 (post:=λ_ h' ms'=>∃m',(Cd K V g Ok m' (Cj T a y') bs/\(∀gi mi vis,Et gi g m mi bs vis->Et gi g m' mi bs vis))/\h'=h/\ms'=ms.set i m') (λρ w hρ hw=>by
  obtain⟨es,clock,rfl,he,hb⟩:=O.ex;have hgw:w.heap[g]?=some (.map es clock):=hw.st.own _ (de hm) g _ (Hp.one_self _ _);obtain⟨l,hk⟩:=L.key a ha;have hc:=L.law.check w false hk;have hs:=L.law.stays w hk;rcases Gw L O.keys O.ok O.len he w a ha with ⟨h1,h2⟩|⟨j,v,b,h1,h2,h3,h4⟩
  ·exact ib hin h2
  ·have hj4:=(br.1 h4)
   have hrun:(execOp ρ o).run e.P w=.ok .skip { w with heap:=w.heap.setIfInBounds g (.map (es.modify j λe=>{ e with key:=K a,val:=V y' }) clock) }:=by simp only[execOp,ho,hρ _ _ hx,hρ _ _ hy,hρ _ _ hu,Instr.mapUpdate,Sem.run_bind,run_underlying ht,Result.andThen_ok,getObj,Sem.run_pure];simp[Sem.run,hgw,hc,h1,Result.andThen,setObj,h4,hs]
   unfold OpRes;rw[hrun];refine⟨h,_,Ends.turn hw hm,_,⟨?_,λgi mi vis I=>?_⟩,Y,Y⟩
   rotate_left
   ·obtain⟨es2,clock2,since,seen,last,e1,e2,e3⟩:=I.ex;have e0:=J3 e1;simp only[Obj.map.injEq]at e0;obtain⟨rfl,rfl⟩:=e0;exact⟨⟨_,_,since,seen,last,Y,e2,e3⟩,I.lt,I.nodup⟩
   refine⟨⟨_,_,Y,?_,hb⟩,?_,O.up,DX O.keys a y',λp hp=>?_⟩
   ·rw[DD O.keys h2,LQ T bs j _ b h3,List.map_set,<-he];refine List.ext_getElem? λk=>?_;rw[Array.getElem?_toList,Array.getElem?_modify,List.getElem?_set];by_cases hjk:j=k
    ·subst hjk;rw[af rfl,af rfl,h4];have:j<es.toList.length:=by simpa using (br.1 h4).1
     rw[af this];rfl
    ·rw[ab hjk,ab hjk,Array.getElem?_toList]
   ·rw[DD O.keys h2,d8];exact O.len
   ·rw[DD O.keys h2]at hp;rcases List.mem_or_eq_of_mem_set hp with hp|hp
    ·exact O.ok p hp
    ·subst hp;exact ha) hd hg λv h' ms' ⟨m',e1,e2,e3⟩=>by subst e2 e3;exact k m' e1.1 e1.2
end
end Go.Eng
namespace Go.Eng
open Go.RowKit
theorem MA{e:Entry}{Q:Exit->Act->World->Prop}{s:AE}{h:Hp}{ms:List Hp}{el:TypeId}{c:Code}{g:Nat}{cs:List Value}(k:∀h',h.le h'->Seg h' [] ⟨g,0,none⟩ cs->RS e c Q s h' ms):RS e c Q s h (BL g el cs::ms):=
 J4 λh1 l1 lm _ _=>k h1 l1 (Seg.ofLe lm)
end Go.Eng

namespace Go.Ch
open Go.Eng Go.Sm
def lin(f:Int->Int)(l:List Tm):Int:=(l.map λp=>f p.1*p.2).sum
theorem Vg(f:Int->Int):lin f []=0:=rfl
theorem DT(f:Int->Int)(p:Tm)(l:List Tm):lin f (p::l)=f p.1*p.2+lin f l:=rfl
theorem Fe(f:Int->Int)(l r:List Tm):lin f (l++r)=lin f l+lin f r:=by unfold lin;rw[cq,sum_append]
theorem KF{f:Int->Int}:∀{b:List Tm} {ks:List Int},ks.Nodup->(∀p∈b,p.1∈ks)->lin f b=(ks.map λc=>f c*cf b c).sum
 | [],ks,_,_=>by
  have:∀ks:List Int,(ks.map λc=>f c*cf [] c).sum=0:=λks=>by
   induction ks with
   | nil=>rfl
   | cons a t ih=>rw[dq,sum_cons,ih,FW];simp
  rw[this];rfl
 | p::b,ks,hn,hk=>by
  have ih:=KF (f:=f) (b:=b) hn λq hq=>hk q (be _ hq);have hp:p.1∈ks:=hk p aq
  have h1:(ks.map λc=>f c*if p.1=c then p.2 else 0).sum=f p.1*p.2:=by
   clear ih hk
   induction ks with
   | nil=>cases hp
   | cons a t ih2=>
    obtain⟨h3,h4⟩:=fe.1 hn;rw[dq,sum_cons];by_cases e:p.1=a
    ·have hz:(t.map λc=>f c*if p.1=c then p.2 else 0).sum=0:=by
      clear ih2 hn h4 hp
      induction t with
      | nil=>rfl
      | cons b' t ih3=>
       rw[dq,sum_cons,ab (λe2=>h3 (by rw[<-e,e2];exact aq)),ih3 λm=>h3 (be _ m)];simp
     rw[af e,hz,e];omega
    ·rw[ab e,ih2 h4 ((bi.1 hp).resolve_left e)];simp
  have h2:(ks.map λc=>f c*cf (p::b) c).sum=(ks.map λc=>f c*if p.1=c then p.2 else 0).sum+(ks.map λc=>f c*cf b c).sum:=by
   clear h1 ih hk hp hn
   induction ks with
   | nil=>rfl
   | cons a t ih2=>
    simp only[dq,sum_cons];rw[ih2,B6,Int.mul_add];omega
  rw[DT,h2,h1,ih]
theorem KM(l:List Tm):((Je l).map Prod.fst).Nodup:=by
 have key:∀(l T:List Tm),(T.map Prod.fst).Nodup->((l.foldl (λT p=>Kj T p.1 p.2) T).map Prod.fst).Nodup:=by
  intro l
  induction l with
  | nil=>intro T h;exact h
  | cons p l ih=>intro T h;exact ih _ (DX h _ _)
 exact key l [] List.Pairwise.nil
theorem CanL.lin_eq{l b:List Tm}(C:CanL l (cf b))(f:Int->Int):lin f l=lin f b:=by rw[KF (b:=b) (KM b) λp hp=>(Mf b p.1).2 (List.mem_map_of_mem hp),KF (b:=l) (KM b) λp hp=>(Mf b p.1).2 (C.ids hp)];congr 1;exact map_congr_left λc _=>by rw[C.cf_eq]
theorem LN{f:Int->Int}{A:Nat}(h:∀c,(f c).natAbs<=A)(l:List Tm):(lin f l).natAbs<=A*Bk l:=by
 induction l with
 | nil=>simp[Vg]
 | cons p l ih=>
  rw[DT,Dy,Nat.mul_add];have h1:(f p.1*p.2).natAbs<=A*p.2.natAbs:=by rw[Int.natAbs_mul];exact dw _ (h p.1)
  omega
variable {l:List Tm} {k:Nat}
theorem Yl{A B:List Tm}{c n:Int}{g:Int->Int}(hA:∀p∈A,p.1<c)(hB:∀p∈B,c<p.1)(sA:A.Pairwise λp q=>p.1<q.1)(sB:B.Pairwise λp q=>p.1<q.1)(hv:∀p,p∈A\/p∈B->p.2=g p.1/\p.2≠0)(hg:g c=n)(hall:∀a,a≠c->g a≠0->(a,g a)∈A\/(a,g a)∈B):CanL (A++(if n≠0 then [(c,n)] else [])++B) g:=by
 have hM:∀p,p∈(if n≠0 then [((c,n):Tm)] else [])<->n≠0/\p=(c,n):=λp=>by split<;>simp[*]
 refine⟨?_,λp hp=>?_,λa ha=>?_⟩
 ·rw[fc,fc];refine⟨⟨sA,?_,λp hp q hq=>?_⟩,sB,λp hp q hq=>?_⟩
  ·split
   ·exact List.pairwise_singleton _ _
   ·exact List.Pairwise.nil
  ·obtain⟨_,rfl⟩:=(hM q).1 hq;exact hA p hp
  ·rcases bl.1 hp with h|h
   ·have:=hA p h;have:=hB q hq;omega
   ·obtain⟨_,rfl⟩:=(hM p).1 h;exact hB q hq
 ·rcases bl.1 hp with h|h
  ·rcases bl.1 h with h|h
   ·exact hv p (.inl h)
   ·obtain⟨h1,rfl⟩:=(hM p).1 h;exact⟨hg.symm,h1⟩
  ·exact hv p (.inr h)
 ·by_cases e:a=c
  ·subst e;rw[hg]at ha ⊢;exact ee _ (List.mem_append_right _ ((hM _).2 ⟨ha,Y⟩))
  ·rcases hall a e ha with h|h
   ·exact ee _ (ee _ h)
   ·exact List.mem_append_right _ h
def upd(f:Int->Int)(c x:Int)(a:Int):Int:=f a+if c=a then x else 0
theorem Rx{p:Tm}(h:p∈l.take k):∃j,∃hj:j<l.length,j<k/\l[j]=p:=by obtain⟨j,hj,e⟩:=df.1 h;rw[bh]at hj;exact⟨j,ω,ω,by rw[<-e,ia]⟩
theorem Th{p:Tm}(h:p∈l.drop k):∃j,∃hj:j<l.length,k<=j/\l[j]=p:=by obtain⟨j,hj,e⟩:=df.1 h;rw[cg]at hj;exact⟨k+j,ω,ω,by rw[<-e,List.getElem_drop]⟩
theorem SX{f:Int->Int}{d:Nat}{c x n:Int}(C:CanL l f)(hk:k<=l.length)(hlt:∀j (hj:j<l.length),j<k->l[j].1<c)(hgt:∀j (hj:j<l.length),k+d<=j->c<l[j].1)(hn:n=f c+x)(hmid:∀j (hj:j<l.length),k<=j->j<k+d->l[j].1=c) :
  CanL (l.take k++(if n≠0 then [(c,n)] else [])++l.drop (k+d)) (upd f c x):=by
 refine Yl (λp hp=>?_) (λp hp=>?_) (List.Pairwise.sublist (List.take_sublist _ _) C.srt) (List.Pairwise.sublist (List.drop_sublist _ _) C.srt) (λp hp=>?_) (by unfold upd;rw[af rfl,hn]) (λa ha hg=>?_)
 ·obtain⟨j,hj,h1,rfl⟩:=Rx hp;exact hlt j hj h1
 ·obtain⟨j,hj,h1,rfl⟩:=Th hp;exact hgt j hj h1
 ·have hpl:p∈l:=hp.elim (λh=>List.mem_of_mem_take h) (λh=>gr h)
  have hne:c≠p.1:=by
   rcases hp with h|h
   ·obtain⟨j,hj,h1,rfl⟩:=Rx h;have:=hlt j hj h1;omega
   ·obtain⟨j,hj,h1,rfl⟩:=Th h;have:=hgt j hj h1;omega
  unfold upd;rw[ab hne,fu];exact C.val p hpl
 ·have hfa:upd f c x a=f a:=by unfold upd;rw[ab (λe=>ha e.symm),fu]
  rw[hfa]at hg ⊢;obtain⟨j,hj,e⟩:=df.1 (C.all a hg);rcases (ω:j<k\/(k<=j/\j<k+d)\/k+d<=j) with h1|⟨h1,h2⟩|h1
  ·left
   exact df.2 ⟨j,by rw[bh];omega,by rw[ia];exact e⟩
  ·have:=hmid j hj h1 h2;rw[e]at this;exact ib this ha
  ·right
   exact df.2 ⟨j-(k+d),by rw[cg];omega,by rw[List.getElem_drop];rw[<-e];congr 1;omega⟩
theorem PT(h:l.Pairwise λp q=>p.1<q.1){i j:Nat}(hi:i<l.length)(hj:j<l.length)(hij:i<j):l[i].1<l[j].1:=cm.1 h i j hi hj hij
end Go.Ch
namespace Go.Sm
open Go.Lin
variable {n m i k:Nat} {A:Nat->Nat->Int}
theorem TN{f g:Nat->Int}(hi:i<n)(hk:k<n)(hik:i≠k)(h:∀q,q<n->q≠i->q≠k->f q=g q)(h2:f i+f k=g i+g k):sm n f=sm n g:=by
 have e:sm n (λq=>f q-g q)=0:=by
  have e1:sm n (λq=>f q-g q)=sm n (λq=>(if q=i then f q-g q else 0)+(if q=k then f q-g q else 0)):=Be λq hq=>by
   by_cases h3:q=i
   ·subst h3;rw[af rfl,ab hik];omega
   ·by_cases h4:q=k
    ·subst h4;rw[ab h3,af rfl];omega
    ·rw[ab h3,ab h4,h q hq h3 h4];omega
  rw[e1,Na,Ml n i (λq=>f q-g q) hi,Ml n k (λq=>f q-g q) hk];omega
 rw[Aat]at e;omega
def Tn.det1(t:Tn):Prop:=t.a*t.d-t.b*t.c=1
theorem Abd{t:Tn}(ht:t.det1)(x y u v:Int):(t.d*x+-t.c*y)*(t.a*u+t.b*v)+(-t.b*x+t.a*y)*(t.c*u+t.d*v)=x*u+y*v:=by
 unfold Tn.det1 at ht
 have e:(t.d*x+-t.c*y)*(t.a*u+t.b*v)+(-t.b*x+t.a*y)*(t.c*u+t.d*v)=(t.a*t.d-t.b*t.c)*(x*u+y*v):=by simp only[Int.add_mul,Int.mul_add,Int.sub_mul,Int.neg_mul,Int.mul_neg];simp only[gv,Int.mul_left_comm,gt];omega
 rw[e,ht,fy]
theorem Aak{t:Tn}(ht:t.det1)(hi:i<n)(hk:k<n)(hik:i≠k){X X' Y Y':Nat->Int}(hX:∀q,X' q=if q=i then t.bk.a*X i+t.bk.b*X k else if q=k then t.bk.c*X i+t.bk.d*X k else X q)(hY:∀q,Y' q=if q=i then t.a*Y i+t.b*Y k else if q=k then t.c*Y i+t.d*Y k else Y q):sm n (fun q=>X' q*Y' q)=sm n (fun q=>X q*Y q):=by
 refine TN hi hk hik (fun q _ h1 h2=>?_) ?_
 ·rw[hX,hY,ab h1,ab h2,ab h1,ab h2]
 ·rw[hX i,hY i,hX k,hY k,af rfl,af rfl,ab (fg hik),af rfl,ab (fg hik),af rfl];exact Abd ht _ _ _ _
structure FS.Inv(n m:Nat)(A:Nat->Nat->Int)(S:FS):Prop where
 ua:∀a j,a<n->j<m->sm n (λq=>AO S.u a q*A q j)=sm m (λq=>AO S.d a q*AO S.vi q j)
 av:∀a j,a<n->j<m->sm m (λq=>A a q*AO S.v q j)=sm n (λq=>AO S.ui a q*AO S.d q j)
 uu:∀a b,a<n->b<n->sm n (λq=>AO S.ui a q*AO S.u q b)=if a=b then 1 else 0
structure FS.Shp(n m:Nat)(S:FS):Prop where
 su:Shape n n S.u
 sui:Shape n n S.ui
 sd:Shape n m S.d
 sv:Shape m m S.v
 svi:Shape m m S.vi
theorem FS.Shp.rop{S:FS}(h:S.Shp n m)(i k:Nat)(t:Tn):(S.rop n m i k t).Shp n m:=⟨h.su.rows _ _ _ _,h.sui.cols _ _ _ _,h.sd.rows _ _ _ _,h.sv,h.svi⟩
theorem FS.Shp.cop{S:FS}(h:S.Shp n m)(i k:Nat)(t:Tn):(S.cop n m i k t).Shp n m:=⟨h.su,h.sui,h.sd.cols _ _ _ _,h.sv.cols _ _ _ _,h.svi.rows _ _ _ _⟩
theorem FS.Shp.neg{S:FS}(h:S.Shp n m)(t:Nat):(S.neg n m t).Shp n m:=⟨h.su.negRow _ _,h.sui.negCol _ _,h.sd.negRow _ _,h.sv,h.svi⟩
theorem IX{S:FS}(h:S.Shp n m)(t:Tn)(hi:i<n)(hk:k<n)(hik:i≠k)(a b:Nat)(hb:b<m):AO (S.rop n m i k t).d a b=if a=i then t.a*AO S.d i b+t.b*AO S.d k b else if a=k then t.c*AO S.d i b+t.d*AO S.d k b else AO S.d a b:=by show AO (Fv i k t S.d m) a b=_;rw[Gp h.sd t hi hk hik m (ak _),af hb]
theorem HA{S:FS}(h:S.Shp n m)(t:Tn)(hi:i<m)(hk:k<m)(hik:i≠k)(a b:Nat)(ha:a<n):AO (S.cop n m i k t).d a b=if b=i then t.a*AO S.d a i+t.b*AO S.d a k else if b=k then t.c*AO S.d a i+t.d*AO S.d a k else AO S.d a b:=by show AO (Ft i k t S.d n) a b=_;rw[F7 h.sd t hi hk hik n (ak _),af ha]
theorem PF{S:FS}(h:S.Shp n m){t:Nat}(ht:t<n)(a b:Nat)(hb:b<m):AO (S.neg n m t).d a b=if a=t then -(AO S.d a b) else AO S.d a b:=by
 show AO (negRow t S.d m) a b=_;rw[Ff h.sd ht m (ak _)];by_cases e:a=t
 ·rw[af ⟨e,hb⟩,af e]
 ·rw[ab (by simp[e]),ab e]
theorem Pe(n:Nat)(x y:Int)(f g h:Nat->Int):sm n (λq=>(x*f q+y*g q)*h q)=x*sm n (λq=>f q*h q)+y*sm n (λq=>g q*h q):=by rw[<-Gi,<-Gi,<-Na];exact Be λq _=>by rw[Int.add_mul,gt,gt]
theorem LK(n:Nat)(x y:Int)(f g h:Nat->Int):sm n (λq=>h q*(x*f q+y*g q))=x*sm n (λq=>h q*f q)+y*sm n (λq=>h q*g q):=by rw[<-Gi,<-Gi,<-Na];exact Be λq _=>by rw[Int.mul_add,Int.mul_left_comm,Int.mul_left_comm (h q) y]
theorem FS.Inv.rop{S:FS}(I:S.Inv n m A)(h:S.Shp n m){t:Tn}(ht:t.det1)(hi:i<n)(hk:k<n)(hik:i≠k):(S.rop n m i k t).Inv n m A:=by
 have eu:∀a b,b<n->AO (S.rop n m i k t).u a b=if a=i then t.a*AO S.u i b+t.b*AO S.u k b else if a=k then t.c*AO S.u i b+t.d*AO S.u k b else AO S.u a b:=λa b hb=>by show AO (Fv i k t S.u n) a b=_;rw[Gp h.su t hi hk hik n (ak _),af hb]
 have eui:∀a b,a<n->AO (S.rop n m i k t).ui a b=if b=i then t.bk.a*AO S.ui a i+t.bk.b*AO S.ui a k else if b=k then t.bk.c*AO S.ui a i+t.bk.d*AO S.ui a k else AO S.ui a b:=λa b ha=>by show AO (Ft i k t.bk S.ui n) a b=_;rw[F7 h.sui t.bk hi hk hik n (ak _),af ha]
 have ed:=IX h t hi hk hik;refine⟨λa j ha hj=>?_,λa j ha hj=>?_,λa b ha hb=>?_⟩
 ·rw[Be (g:=λq=>(if a=i then t.a*AO S.u i q+t.b*AO S.u k q else if a=k then t.c*AO S.u i q+t.d*AO S.u k q else AO S.u a q)*A q j) λq hq=>by rw[eu a q hq]];rw[Be (n:=m) (g:=λq=>(if a=i then t.a*AO S.d i q+t.b*AO S.d k q else if a=k then t.c*AO S.d i q+t.d*AO S.d k q else AO S.d a q)*AO S.vi q j) λq hq=>by rw[ed a q hq];rfl];by_cases h1:a=i
  ·simp only[af h1];rw[Pe,Pe,I.ua i j hi hj,I.ua k j hk hj]
  ·by_cases h2:a=k
   ·simp only[ab h1,af h2];rw[Pe,Pe,I.ua i j hi hj,I.ua k j hk hj]
   ·simp only[ab h1,ab h2];exact I.ua a j ha hj
 ·show sm m (λq=>A a q*AO S.v q j)=_;rw[I.av a j ha hj];exact(Aak ht hi hk hik (λq=>eui a q ha) (λq=>ed q j hj)).symm
 ·rw[<-I.uu a b ha hb];exact Aak ht hi hk hik (λq=>eui a q ha) (λq=>eu q b hb)
theorem FS.Inv.cop{S:FS}(I:S.Inv n m A)(h:S.Shp n m){t:Tn}(ht:t.det1)(hi:i<m)(hk:k<m)(hik:i≠k):(S.cop n m i k t).Inv n m A:=by
 have ev:∀a b,a<m->AO (S.cop n m i k t).v a b=if b=i then t.a*AO S.v a i+t.b*AO S.v a k else if b=k then t.c*AO S.v a i+t.d*AO S.v a k else AO S.v a b:=λa b ha=>by show AO (Ft i k t S.v m) a b=_;rw[F7 h.sv t hi hk hik m (ak _),af ha]
 have evi:∀a b,b<m->AO (S.cop n m i k t).vi a b=if a=i then t.bk.a*AO S.vi i b+t.bk.b*AO S.vi k b else if a=k then t.bk.c*AO S.vi i b+t.bk.d*AO S.vi k b else AO S.vi a b:=λa b hb=>by show AO (Fv i k t.bk S.vi m) a b=_;rw[Gp h.svi t.bk hi hk hik m (ak _),af hb]
 have ed:=HA h t hi hk hik;refine⟨λa j ha hj=>?_,λa j ha hj=>?_,I.uu⟩
 ·show sm n (λq=>AO S.u a q*A q j)=_;rw[I.ua a j ha hj,Be λq _=>gv _ _];rw[Be (n:=m) (f:=λq=>AO (S.cop n m i k t).d a q*AO (S.cop n m i k t).vi q j) λq _=>gv _ _];exact(Aak ht hi hk hik (λq=>evi q j hj) (λq=>ed a q ha)).symm
 ·rw[Be (g:=λq=>A a q*(if j=i then t.a*AO S.v q i+t.b*AO S.v q k else if j=k then t.c*AO S.v q i+t.d*AO S.v q k else AO S.v q j)) λq hq=>by rw[ev q j hq]];rw[Be (n:=n) (g:=λq=>AO S.ui a q*(if j=i then t.a*AO S.d q i+t.b*AO S.d q k else if j=k then t.c*AO S.d q i+t.d*AO S.d q k else AO S.d q j)) λq hq=>by rw[ed q j hq];rfl];by_cases h1:j=i
  ·simp only[af h1];rw[LK,LK,I.av a i ha hi,I.av a k ha hk]
  ·by_cases h2:j=k
   ·simp only[ab h1,af h2];rw[LK,LK,I.av a i ha hi,I.av a k ha hk]
   ·simp only[ab h1,ab h2];exact I.av a j ha hj
theorem FS.Inv.neg{S:FS}(I:S.Inv n m A)(h:S.Shp n m){t:Nat}(ht:t<n):(S.neg n m t).Inv n m A:=by
 have eu:∀a b,b<n->AO (S.neg n m t).u a b=if a=t then -(AO S.u a b) else AO S.u a b:=λa b hb=>by
  show AO (negRow t S.u n) a b=_;rw[Ff h.su ht n (ak _)];by_cases e:a=t
  ·rw[af ⟨e,hb⟩,af e]
  ·rw[ab (by simp[e]),ab e]
 have eui:∀a b,a<n->AO (S.neg n m t).ui a b=if b=t then -(AO S.ui a b) else AO S.ui a b:=λa b ha=>by
  show AO (negCol t S.ui n) a b=_;rw[Hw h.sui ht n (ak _)];by_cases e:b=t
  ·rw[af ⟨e,ha⟩,af e]
  ·rw[ab (by simp[e]),ab e]
 have ed:=PF h ht
 have two:∀(x y x' y':Nat->Int),(∀q,x' q=if q=t then -(x q) else x q)->(∀q,y' q=if q=t then -(y q) else y q)->sm n (λq=>x' q*y' q)=sm n (λq=>x q*y q):=λx y x' y' hx hy=>Be λq _=>by
  rw[hx,hy];by_cases e:q=t
  ·rw[af e,af e,Int.neg_mul_neg]
  ·rw[ab e,ab e]
 refine⟨λa j ha hj=>?_,λa j ha hj=>?_,λa b ha hb=>?_⟩
 ·rw[Be (g:=λq=>(if a=t then -(AO S.u a q) else AO S.u a q)*A q j) λq hq=>by rw[eu a q hq]];rw[Be (n:=m) (g:=λq=>(if a=t then -(AO S.d a q) else AO S.d a q)*AO S.vi q j) λq hq=>by rw[ed a q hq];rfl];by_cases h1:a=t
  ·simp only[af h1];have:=I.ua a j ha hj;rw[Be (g:=λq=>(-1)*(AO S.u a q*A q j)) λq _=>by rw[Int.neg_mul,Int.neg_one_mul],Gi,this];rw[Be (n:=m) (f:=λq=>-(AO S.d a q)*AO S.vi q j) (g:=λq=>(-1)*(AO S.d a q*AO S.vi q j)) λq _=>by rw[Int.neg_mul,Int.neg_one_mul],Gi]
  ·simp only[ab h1];exact I.ua a j ha hj
 ·show sm m (λq=>A a q*AO S.v q j)=_;rw[I.av a j ha hj];exact(two _ _ _ _ (λq=>eui a q ha) (λq=>ed q j hj)).symm
 ·rw[<-I.uu a b ha hb];exact two _ _ _ _ (λq=>eui a q ha) (λq=>eu q b hb)
end Go.Sm
namespace Go.Sm
open Go.Lin
variable {n m t i k:Nat} {A:Nat->Nat->Int} {s s':St} {S:FS} {T:Tn} {M:List (List Int)} {x y:Int}
structure Gd(n m:Nat)(A:Nat->Nat->Int)(t:Nat)(S:FS):Prop where
 inv:S.Inv n m A
 shp:S.Shp n m
 z:∀a b,a<n->b<m->a≠b->(a<t\/b<t)->AO S.d a b=0
 p:∀a,a<t->a<n->a<m->0<=AO S.d a a/\(AO S.d a a).natAbs<2147483648
theorem Gd.rop(G:Gd n m A t S)(hT:T.det1)(hti:t<=i)(htk:t<=k)(hi:i<n)(hk:k<n)(hik:i≠k):Gd n m A t (S.rop n m i k T):=by
 refine⟨G.inv.rop G.shp hT hi hk hik,G.shp.rop _ _ _,λa b ha hb hab hl=>?_,λa ha h1 h2=>?_⟩
 ·rw[IX G.shp T hi hk hik a b hb];by_cases e1:a=i
  ·rw[af e1,G.z i b hi hb ω ω,G.z k b hk hb ω ω];simp
  ·by_cases e2:a=k
   ·rw[ab e1,af e2,G.z i b hi hb ω ω,G.z k b hk hb ω ω];simp
   ·rw[ab e1,ab e2];exact G.z a b ha hb hab hl
 ·rw[IX G.shp T hi hk hik a a h2,ab ω,ab ω];exact G.p a ha h1 h2
theorem Gd.cop(G:Gd n m A t S)(hT:T.det1)(hti:t<=i)(htk:t<=k)(hi:i<m)(hk:k<m)(hik:i≠k):Gd n m A t (S.cop n m i k T):=by
 refine⟨G.inv.cop G.shp hT hi hk hik,G.shp.cop _ _ _,λa b ha hb hab hl=>?_,λa ha h1 h2=>?_⟩
 ·rw[HA G.shp T hi hk hik a b ha];by_cases e1:b=i
  ·rw[af e1,G.z a i ha hi ω ω,G.z a k ha hk ω ω];simp
  ·by_cases e2:b=k
   ·rw[ab e1,af e2,G.z a i ha hi ω ω,G.z a k ha hk ω ω];simp
   ·rw[ab e1,ab e2];exact G.z a b ha hb hab hl
 ·rw[HA G.shp T hi hk hik a a h1,ab ω,ab ω];exact G.p a ha h1 h2
theorem St.row_S(h:s.row n m i k T=some s'):s'.S=s.S.rop n m i k T:=by
 unfold St.row at h;split at h
 ·have h:=ax h;subst h;rfl
 ·cases h
theorem St.col_S(h:s.col n m i k T=some s'):s'.S=s.S.cop n m i k T:=by
 unfold St.col at h;split at h
 ·have h:=ax h;subst h;rfl
 ·cases h
theorem Oy{op:Tn->Option St}{c:Bool}(h:QM op x y s=some (s',c)):(y=0/\s'=s/\c=false)\/(y%x=0/\op ⟨1,0,-(y/x),1⟩=some s'/\c=false)\/(y.natAbs=1/\op ⟨0,y,-y,x⟩=some s'/\c=true):=by
 unfold QM at h;split at h
 ·rename_i h0;have h:=ax h;injection h with h1 h2;exact .inl ⟨h0,h1.symm,h2.symm⟩
 ·split at h
  ·cases h
  ·split at h
   ·rename_i hd;obtain⟨z,e1,e2⟩:=Option.map_eq_some_iff.1 h;injection e2 with e2 e3;exact .inr (.inl ⟨hd,e2 ▸ e1,e3.symm⟩)
   ·cases h
theorem Aal(q:Int):Tn.det1 ⟨1,0,q,1⟩:=by unfold Tn.det1;simp
theorem YP(h:y.natAbs=1):Tn.det1 ⟨0,y,-y,x⟩:=by unfold Tn.det1;show 0*x-y*-y=1;rcases (ω:y=1\/y=-1) with e|e<;>subst e<;>simp
theorem Kk(h:y%x=0):y/x*x=y:=by have:=Int.emod_add_mul_ediv y x;rw[h,Int.zero_add,gv]at this;exact this
theorem S9(ht:t<n)(htm:t<m):∀{f i:Nat} {s s':St},Gd n m A t s.S->t<i->i+f=n->(∀a,t<a->a<i->AO s.S.d a t=0)->EB n m t f i s=some s'->Gd n m A t s'.S/\∀a,t<a->a<n->AO s'.S.d a t=0
 | 0,i,s,s',G,hi,hf,hz,h=>by have h:=ax h;subst h;exact⟨G,λa h1 h2=>hz a h1 ω⟩
 | f+1,i,s,s',G,hi,hf,hz,h=>by
  unfold EB at h;split at h
  ·cases h
  ·rename_i s1 c e;have hin:i<n:=ω
   have step:∀T,T.det1->s.row n m t i T=some s1->T.c*AO s.S.d t t+T.d*AO s.S.d i t=0->Gd n m A t s1.S/\∀a,t<a->a<i+1->AO s1.S.d a t=0:=λT hT hr h0=>by
    have e1:=St.row_S hr;rw[e1];refine⟨G.rop hT (ak _) ω ht hin ω,λa h1 h2=>?_⟩;rw[IX G.shp T ht hin ω a t htm,ab ω];by_cases e2:a=i
    ·rw[af e2];exact h0
    ·rw[ab e2];exact hz a h1 ω
   have fin:Gd n m A t s1.S/\∀a,t<a->a<i+1->AO s1.S.d a t=0:=by
    rcases Oy e with ⟨h0,rfl,_⟩|⟨hd,hr,_⟩|⟨hg,hr,_⟩
    ·refine⟨G,λa h1 h2=>?_⟩;by_cases e2:a=i
     ·subst e2;exact h0
     ·exact hz a h1 ω
    ·refine step _ (Aal _) hr ?_;show -(AO s.S.d i t/AO s.S.d t t)*AO s.S.d t t+1*AO s.S.d i t=0;rw[Int.neg_mul,Kk hd];omega
    ·refine step _ (YP hg) hr ?_;show -(AO s.S.d i t)*AO s.S.d t t+AO s.S.d t t*AO s.S.d i t=0;rw[Int.neg_mul,gv];omega
   exact S9 ht htm fin.1 ω ω fin.2 h
theorem Ty(ht:t<n)(htm:t<m):∀{f j:Nat} {c c':Bool} {s s':St},Gd n m A t s.S->t<j->j+f=m->Er n m t f j c s=some (s',c')->Gd n m A t s'.S/\(c'=false->c=false/\((∀a,t<a->a<n->AO s.S.d a t=0)->(∀b,t<b->b<j->AO s.S.d t b=0)->(∀a,t<a->a<n->AO s'.S.d a t=0)/\∀b,t<b->b<m->AO s'.S.d t b=0))
 | 0,j,c,c',s,s',G,hj,hf,h=>by have h:=ax h;injection h with h1 h2;subst h1;exact⟨G,λe=>⟨h2.trans e,λz1 z2=>⟨z1,λb h1 h2=>z2 b h1 ω⟩⟩⟩
 | f+1,j,c,c',s,s',G,hj,hf,h=>by
  unfold Er at h;split at h
  ·cases h
  ·rename_i s1 c1 e;have hjm:j<m:=ω
   have step:∀T,T.det1->s.col n m t j T=some s1->Gd n m A t s1.S:=λT hT hr=>by rw[St.col_S hr];exact G.cop hT (ak _) ω htm hjm ω
   have fin:Gd n m A t s1.S/\(c1=false->(∀a,t<a->a<n->AO s.S.d a t=0)->(∀b,t<b->b<j->AO s.S.d t b=0)->(∀a,t<a->a<n->AO s1.S.d a t=0)/\∀b,t<b->b<j+1->AO s1.S.d t b=0):=by
    rcases Oy e with ⟨h0,rfl,_⟩|⟨hd,hr,_⟩|⟨hg,hr,hc⟩
    ·refine⟨G,λ_ z1 z2=>⟨z1,λb h1 h2=>?_⟩⟩;by_cases e2:b=j
     ·subst e2;exact h0
     ·exact z2 b h1 ω
    ·refine⟨step _ (Aal _) hr,λ_ z1 z2=>?_⟩;have e1:=St.col_S hr;rw[e1];refine⟨λa h1 h2=>?_,λb h1 h2=>?_⟩
     ·rw[HA G.shp _ htm hjm ω a t h2,af rfl,z1 a h1 h2];show 1*0+0*_=(0:Int);simp
     ·rw[HA G.shp _ htm hjm ω t b ht,ab ω];by_cases e2:b=j
      ·rw[af e2];show -(AO s.S.d t j/AO s.S.d t t)*AO s.S.d t t+1*AO s.S.d t j=0;rw[Int.neg_mul,Kk hd];omega
      ·rw[ab e2];exact z2 b h1 ω
    ·exact⟨step _ (YP hg) hr,λe=>ib (hc.symm.trans e) δ⟩
   have ih:=Ty ht htm fin.1 ω ω h;refine⟨ih.1,λe=>?_⟩;obtain⟨q1,q2⟩:=ih.2 e;have hc:c=false/\c1=false:=by cases c<;>cases c1<;>simp_all
   exact⟨hc.1,λz1 z2=>by
    obtain⟨w1,w2⟩:=fin.2 hc.2 z1 z2
    exact q2 w1 w2⟩
theorem NS(ht:t<n)(htm:t<m):∀{f:Nat} {s s':St},Gd n m A t s.S->D4 n m t f s=some s'->Gd n m A t s'.S/\(∀a,t<a->a<n->AO s'.S.d a t=0)/\∀b,t<b->b<m->AO s'.S.d t b=0
 | 0,s,s',G,h=>by cases h
 | f+1,s,s',G,h=>by
  unfold D4 pass at h;cases e1:EB n m t (n-(t+1)) (t+1) s with
  | none=>rw[e1]at h;cases h
  | some s1=>
   rw[e1]at h;obtain⟨G1,z1⟩:=S9 ht htm G ω ω (λa h1 h2=>ω) e1;simp only at h;cases e2:Er n m t (m-(t+1)) (t+1) false s1 with
   | none=>rw[e2]at h;cases h
   | some p=>
    obtain⟨s2,c⟩:=p;rw[e2]at h;obtain⟨G2,q⟩:=Ty ht htm G1 ω ω e2;cases c with
    | true=>exact NS ht htm G2 h
    | false=>
     have h:=ax h;subst h;obtain⟨_,q2⟩:=q Y;obtain⟨w1,w2⟩:=q2 z1 (λb h1 h2=>ω);exact⟨G2,w1,w2⟩
theorem Aax(ht:t<n)(htm:t<m)(G:Gd n m A t s.S)(h:Ki n m t s=some s'):Gd n m A (t+1) s'.S/\AO s'.S.d t t≠0:=by
 unfold Ki at h;split at h
 ·cases h
 ·rename_i s1 e;obtain⟨G1,w1,w2⟩:=NS ht htm G e;split at h
  ·cases h
  ·rename_i hx;have hne:AO s1.S.d t t≠0:=λq=>hx (.inl q)
   have hwd:(AO s1.S.d t t).natAbs<2147483648:=by refine ay λq=>hx (.inr ?_);unfold WV;rw[<-Bool.not_eq_true,Nat.blt_eq];exact q
   split at h
   ·have hz:∀a b,a<n->b<m->a≠b->(a<t+1\/b<t+1)->AO s1.S.d a b=0:=λa b ha hb hab hl=>by
     rcases (ω:(a<t\/b<t)\/(a=t/\t<b)\/(b=t/\t<a)) with q|⟨rfl,q⟩|⟨rfl,q⟩
     ·exact G1.z a b ha hb hab q
     ·exact w2 b q hb
     ·exact w1 a q ha
    split at h
    ·rename_i hneg;have h:=ax h;subst h;have ed:=PF G1.shp ht;refine⟨⟨G1.inv.neg G1.shp ht,G1.shp.neg _,λa b ha hb hab hl=>?_,λa ha h1 h2=>?_⟩,?_⟩
     ·show AO (s1.S.neg n m t).d a b=0;rw[ed a b hb,hz a b ha hb hab hl];simp
     ·show 0<=AO (s1.S.neg n m t).d a a/\(AO (s1.S.neg n m t).d a a).natAbs<_;rw[ed a a h2];by_cases e3:a=t
      ·subst e3;rw[af rfl];omega
      ·rw[ab e3];exact G1.p a ω h1 h2
     ·show AO (s1.S.neg n m t).d t t≠0;rw[ed t t htm,af rfl];omega
    ·rename_i hneg;have h:=ax h;subst h;refine⟨⟨G1.inv,G1.shp,hz,λa ha h1 h2=>?_⟩,hne⟩;by_cases e3:a=t
     ·subst e3;omega
     ·exact G1.p a ω h1 h2
   ·cases h
theorem N8{j:Nat}:∀{f i:Nat},Qi M n j f i=none->∀a,i<=a->a<i+f->AO M a j=0
 | 0,i,h,a,h1,h2=>ω
 | f+1,i,h,a,h1,h2=>by
  unfold Qi at h;split at h
  ·cases h
  ·rename_i h0;by_cases e:a=i
   ·subst e;exact ay h0
   ·exact N8 h a ω ω
theorem OD{j:Nat}:∀{f i a:Nat},Qi M n j f i=some a->i<=a/\a<i+f/\AO M a j≠0
 | 0,i,a,h=>by cases h
 | f+1,i,a,h=>by
  unfold Qi at h;split at h
  ·rename_i h0;have h:=ax h;subst h;exact⟨ak _,ω,h0⟩
  ·obtain⟨q1,q2,q3⟩:=OD h;exact⟨ω,ω,q3⟩
theorem Ot:∀{f j:Nat},Kg M n t f j=none->∀a b,t<=a->a<n->j<=b->b<j+f->AO M a b=0
 | 0,j,h,a,b,h1,h2,h3,h4=>ω
 | f+1,j,h,a,b,h1,h2,h3,h4=>by
  unfold Kg at h;split at h
  ·cases h
  ·rename_i h0;by_cases e:b=j
   ·subst e;exact N8 h0 a h1 ω
   ·exact Ot h a b h1 h2 ω ω
theorem KI:∀{f j a b:Nat},Kg M n t f j=some (a,b)->t<=a/\(a<t+(n-t))/\j<=b/\b<j+f/\AO M a b≠0
 | 0,j,a,b,h=>by cases h
 | f+1,j,a,b,h=>by
  unfold Kg at h;split at h
  ·rename_i i h0;have h:=ax h;injection h with h1 h2;subst h1 h2;obtain⟨q1,q2,q3⟩:=OD h0;exact⟨q1,q2,ak _,ω,q3⟩
  ·obtain⟨q1,q2,q3,q4,q5⟩:=KI h;exact⟨q1,q2,ω,ω,q5⟩
theorem Wb:swp.det1:=by unfold Tn.det1 swp;decide
theorem Xj(ht:t<n)(htm:t<m){b:Bool}(G:Gd n m A t s.S)(h:EU n m t s=some (s',b)):Gd n m A t s'.S/\(b=false->∀a c,t<=a->a<n->t<=c->c<m->AO s'.S.d a c=0):=by
 unfold EU at h;cases e0:Kg s.S.d n t (m-t) t with
 | none=>
  rw[e0]at h;have h:=ax h;injection h with h1 h2;subst h1;exact⟨G,λ_ a c h1 h2 h3 h4=>Ot e0 a c h1 h2 h3 ω⟩
 | some p=>
  obtain⟨i,j⟩:=p;rw[e0]at h;obtain⟨q1,q2,q3,q4,q5⟩:=KI e0;simp only at h;cases e1:(if i=t then some s else s.row n m t i swp) with
  | none=>rw[e1]at h;cases h
  | some s1=>
   rw[e1]at h
   have G1:Gd n m A t s1.S:=by
    split at e1
    ·have e1:=ax e1;subst e1;exact G
    ·rename_i hne;rw[St.row_S e1];exact G.rop Wb (ak _) q1 ht ω (fg hne)
   simp only at h;cases e2:(if j=t then some s1 else s1.col n m t j swp) with
   | none=>rw[e2]at h;cases h
   | some s2=>
    rw[e2]at h;have h:=ax h;injection h with h1 h2;subst h1 h2;refine⟨?_,λe=>by cases e⟩;split at e2
    ·have e2:=ax e2;subst e2;exact G1
    ·rename_i hne;rw[St.col_S e2];exact G1.cop Wb (ak _) q3 htm ω (fg hne)
structure Gf(n m:Nat)(A:Nat->Nat->Int)(S:FS):Prop where
 inv:S.Inv n m A
 shp:S.Shp n m
 z:∀a b,a<n->b<m->a≠b->AO S.d a b=0
 p:∀a,a<n->a<m->0<=AO S.d a a/\(AO S.d a a).natAbs<2147483648
theorem Tz:∀{f t:Nat} {s s':St},Gd n m A t s.S->min n m<=t+f->EO n m f t s=some s'->Gf n m A s'.S
 | 0,t,s,s',G,hf,h=>by have h:=ax h;subst h;exact⟨G.inv,G.shp,λa b ha hb hab=>G.z a b ha hb hab ω,λa h1 h2=>G.p a ω h1 h2⟩
 | f+1,t,s,s',G,hf,h=>by
  unfold EO at h;split at h
  ·rename_i htt;have ht:t<n:=ω
   have htm:t<m:=ω
   cases e1:EU n m t s with
   | none=>rw[e1]at h;cases h
   | some p=>
    obtain⟨s1,b⟩:=p;rw[e1]at h;obtain⟨G1,hb⟩:=Xj ht htm G e1;cases b with
    | false=>
     have h:=ax h;subst h;have h0:=hb Y;refine⟨G1.inv,G1.shp,λa b ha hb hab=>?_,λa h1 h2=>?_⟩
     ·by_cases e:a<t\/b<t
      ·exact G1.z a b ha hb hab e
      ·exact h0 a b ω ha ω hb
     ·by_cases e:a<t
      ·exact G1.p a e h1 h2
      ·rw[h0 a a ω h1 ω h2];exact⟨Int.le_refl _,by decide⟩
    | true=>
     simp only at h;cases e2:Ki n m t s1 with
     | none=>rw[e2]at h;cases h
     | some s2=>
      rw[e2]at h;exact Tz (Aax ht htm G1 e2).1 ω h
  ·rename_i htt;have h:=ax h;subst h;exact⟨G.inv,G.shp,λa b ha hb hab=>G.z a b ha hb hab ω,λa h1 h2=>G.p a ω h1 h2⟩
theorem AaI(G:Gf n m A S){b y:Nat->Int}(hy:∀k,k<n->(if k<m then AO S.d k k*y k else 0)=sm n λq=>AO S.u k q*b q)(p:Nat)(hp:p<n):(sm m λi=>A p i*sm m λq=>AO S.v i q*y q)=b p:=by
 have e1:(sm m λi=>A p i*sm m λq=>AO S.v i q*y q)=sm m λq=>(sm m λi=>A p i*AO S.v i q)*y q:=by rw[Be (g:=λi=>sm m λq=>A p i*AO S.v i q*y q) λi _=>by rw[<-Gi];exact Be λq _=>(gt _ _ _).symm];rw[Pq];exact Be λq _=>MZ _ _ _
 rw[e1,Be (g:=λq=>(sm n λk=>AO S.ui p k*AO S.d k q)*y q) λq hq=>by rw[G.inv.av p q hp hq]]
 have e2:(sm m λq=>(sm n λk=>AO S.ui p k*AO S.d k q)*y q)=sm n λk=>AO S.ui p k*sm m λq=>AO S.d k q*y q:=by rw[Be (g:=λq=>sm n λk=>AO S.ui p k*AO S.d k q*y q) λq _=>by rw[MZ]];rw[Pq];exact Be λk _=>by rw[<-Gi];exact Be λq _=>gt _ _ _
 rw[e2]
 have e3:∀k,k<n->(sm m λq=>AO S.d k q*y q)=if k<m then AO S.d k k*y k else 0:=λk hk=>by
  by_cases hkm:k<m
  ·rw[af hkm];exact Jv m k _ hkm λq hq hne=>by rw[G.z k q hk hq (fg hne),f7]
  ·rw[ab hkm];exact Km λq hq=>by rw[G.z k q hk hq ω,f7]
 rw[Be (g:=λk=>AO S.ui p k*sm n λq=>AO S.u k q*b q) λk hk=>by rw[e3 k hk,hy k hk]];rw[Be (g:=λk=>sm n λq=>AO S.ui p k*AO S.u k q*b q) λk _=>by rw[<-Gi];exact Be λq _=>(gt _ _ _).symm];rw[Pq,Be (g:=λq=>(if p=q then 1 else 0)*b q) λq hq=>by rw[MZ,G.inv.uu p q hp hq]];rw[Jv n p _ hp λq _ hne=>by rw[ab (fg hne),f7],af rfl,fy]
theorem XP(G:Gf n m A S)(k j:Nat)(hk:k<n)(hj:j<m):(if k<m then AO S.d k k else 0)∣sm n λq=>AO S.u k q*A q j:=by
 rw[G.inv.ua k j hk hj];by_cases hkm:k<m
 ·rw[af hkm,Jv m k _ hkm λq hq hne=>by rw[G.z k q hk hq (fg hne),f7]];exact Int.dvd_mul_right _ _
 ·rw[ab hkm,Km λq hq=>by rw[G.z k q hk hq ω,f7]];exact Int.dvd_refl _
end Go.Sm
namespace Go.Sm
open Go.Lin
variable {n t i p k:Nat} {f g:Nat->Int} {x:Int} {s:St}
theorem AcX(h:∀i,i<n->f i<=g i):sm n f<=sm n g:=by
 induction n with
 | zero=>exact Int.le_refl _
 | succ n ih=>
  have h1:=ih λi hi=>h i ω;have h2:=h n ω;show sm n f+f n<=sm n g+g n;omega
theorem Ad4(h:∀i,i<n->0<=f i):0<=sm n f:=by
 have:=AcX (f:=λ_=>0) h
 rwa [LG]at this
theorem Aeb(n:Nat)(f:Nat->Int):((sm n f).natAbs:Int)<=sm n λa=>((f a).natAbs:Int):=by
 induction n with
 | zero=>exact Int.le_refl _
 | succ n ih=>
  show((sm n f+f n).natAbs:Int)<=(sm n λa=>((f a).natAbs:Int))+((f n).natAbs:Int);omega
theorem Im(f:Nat->Int)(hp:p<n):sm n f=f p+sm n λa=>if a=p then 0 else f a:=by
 have e:sm n f=sm n λa=>(if a=p then f a else 0)+(if a=p then 0 else f a):=Be λa _=>by split<;>omega
 rw[e,Na,Ml n p f hp]
theorem Abg(h:∀i,i<n->0<=f i)(h0:sm n f<=0)(i:Nat)(hi:i<n):f i=0:=by
 have e:=Im f hi;have h2:0<=sm n λa=>if a=i then 0 else f a:=Ad4 λa ha=>by split;exact Int.le_refl _;exact h a ha
 have:=h i hi;omega
theorem NY(hi:i<n)(hk:k<n)(hik:i≠k)(h:∀q,q<n->q≠i->q≠k->f q=g q)(h2:f i+f k<=g i+g k):sm n f<=sm n g:=by
 have e1:=Im f hi;have e2:=Im g hi;have e3:=Im (λa=>if a=i then 0 else f a) hk;have e4:=Im (λa=>if a=i then 0 else g a) hk
 have e5:(sm n λa=>if a=k then 0 else if a=i then 0 else f a)=sm n λa=>if a=k then 0 else if a=i then 0 else g a:=Be λq hq=>by
  by_cases q1:q=k
  ·rw[af q1,af q1]
  ·rw[ab q1,ab q1];by_cases q2:q=i
   ·simp only[af q2]
   ·simp only[ab q2];exact h q hq q2 q1
 simp only[ab (fg hik)]at e3 e4;omega
def Zc(n t:Nat)(f:Nat->Int):Prop:=(sm n λa=>if t<=a then f a else 0)=0/\(sm n λa=>if t<=a then((f a).natAbs:Int) else 0)<=2
theorem TD(Z:Zc n t f)(hp:t<=p)(hpn:p<n):(f p).natAbs<=1:=by
 obtain⟨z1,z2⟩:=Z;rw[Im _ hpn]at z1 z2;simp only[af hp]at z1 z2;have h1:=Aeb n λa=>if a=p then 0 else if t<=a then f a else 0
 have e:(sm n λa=>(((λa=>if a=p then 0 else if t<=a then f a else 0) a).natAbs:Int))=sm n λa=>if a=p then 0 else if t<=a then((f a).natAbs:Int) else 0:=Be λa _=>by
  simp only;split
  ·rfl
  ·split<;>rfl
 rw[e]at h1;revert z1 z2 h1;generalize (sm n λa=>if a=p then 0 else if t<=a then f a else 0)=u;generalize (sm n λa=>if a=p then 0 else if t<=a then((f a).natAbs:Int) else 0)=v;intro z1 z2 h1;omega
theorem AbO{q:Nat}(Z:Zc n t f)(hp:t<=p)(hpn:p<n)(hq:t<=q)(hqn:q<n)(hpq:p≠q)(h1:f p≠0)(h2:f q≠0):f q=-(f p)/\∀a,t<=a->a<n->a≠p->a≠q->f a=0:=by
 obtain⟨z1,z2⟩:=Z;rw[Im _ hpn,Im (λa=>if a=p then 0 else _) hqn]at z1 z2;simp only[af hp,af hq,ab (fg hpq)]at z1 z2
 have h0:∀i,i<n->(0:Int)<=if i=q then 0 else if i=p then 0 else if t<=i then((f i).natAbs:Int) else 0:=λi _=>by
  split
  ·exact Int.le_refl _
  ·split
   ·exact Int.le_refl _
   ·split
    ·omega
    ·exact Int.le_refl _
 have h3:=Abg h0 ω
 have h4:∀a,t<=a->a<n->a≠p->a≠q->f a=0:=λa ha han e1 e2=>by have:=h3 a han;rw[ab e2,ab e1,af ha]at this;omega
 refine⟨?_,h4⟩
 rw[Km (f:=λa=>if a=q then 0 else if a=p then 0 else if t<=a then f a else 0) λa ha=>by
  split
  ·rfl
  ·split
   ·rfl
   ·split
    ·exact h4 a (by assumption) ha (by assumption) (by assumption)
    ·rfl]at z1
 omega
theorem Zd(Z:Zc n t f)(hp:t<=p)(hpn:p<n)(h:∀a,t<=a->a<n->a≠p->f a=0):f p=0:=by
 obtain⟨z1,_⟩:=Z
 rw[Jv n p _ hpn λa ha hne=>by
  by_cases q:t<=a
  ·rw[af q];exact h a q ha hne
  ·rw[ab q],af hp]at z1
 exact z1
theorem ZL(Z:Zc n t f)(hi:t<i)(hin:i<n)(h1:g i=f i+f t)(h2:∀a,t<a->a<n->a≠i->g a=f a):Zc n (t+1) g:=by
 obtain⟨z1,z2⟩:=Z;constructor
 ·refine Eq.trans (TN hin (show t<n by omega) ω (λq hq e1 e2=>?_) ?_) z1
  ·by_cases h:t+1<=q
   ·rw[af h,af ω,h2 q ω hq e1]
   ·rw[ab h,ab ω]
  ·rw[af ω,ab ω,af ω,af ω,h1];omega
 ·refine Int.le_trans (NY hin (show t<n by omega) ω (λq hq e1 e2=>?_) ?_) z2
  ·by_cases h:t+1<=q
   ·rw[af h,af ω,h2 q ω hq e1]
   ·rw[ab h,ab ω]
  ·rw[af ω,ab ω,af ω,af ω,h1];omega
theorem Ab8(Z:Zc n t f)(hi:t<i)(hin:i<n)(h1:g t=f i)(h2:g i=f t)(h3:∀a,a≠t->a≠i->g a=f a):Zc n t g:=by
 obtain⟨z1,z2⟩:=Z;constructor
 ·refine Eq.trans (TN hin (show t<n by omega) ω (λq hq e1 e2=>by rw[h3 q e2 e1]) ?_) z1;rw[af ω,af ω,af ω,af ω,h1,h2];omega
 ·refine Int.le_trans (NY hin (show t<n by omega) ω (λq hq e1 e2=>by rw[h3 q e2 e1]) ?_) z2;rw[af ω,af ω,af ω,af ω,h1,h2];omega
theorem Adw(Z:Zc n t f)(h:∀a,g a=-(f a)):Zc n t g:=by
 obtain⟨z1,z2⟩:=Z;constructor
 ·rw[Be (g:=λa=>(-1)*(if t<=a then f a else 0)) λa _=>by rw[h];split<;>omega,Gi,z1];rfl
 ·rw[Be (g:=λa=>if t<=a then((f a).natAbs:Int) else 0) λa _=>by rw[h,Int.natAbs_neg]];exact z2
theorem Hg(Z:Zc n t f)(h:∀a,t<=a->a<n->g a=f a):Zc n t g:=by
 obtain⟨z1,z2⟩:=Z;constructor
 ·refine Eq.trans (Be λa ha=>?_) z1;by_cases e:t<=a
  ·rw[af e,af e,h a e ha]
  ·rw[ab e,ab e]
 ·refine Int.le_trans (Int.le_of_eq (Be λa ha=>?_)) z2;by_cases e:t<=a
  ·rw[af e,af e,h a e ha]
  ·rw[ab e,ab e]
def Sg(σ:Nat->Int):Prop:=∀a,σ a=1\/σ a=-1
theorem Sg.abs{σ:Nat->Int}(h:Sg σ)(a:Nat)(x:Int):(σ a*x).natAbs=x.natAbs:=by rcases h a with e|e<;>rw[e]<;>simp
theorem Sg.eq0{σ:Nat->Int}(h:Sg σ)(a:Nat)(x:Int):σ a*x=0<->x=0:=by rcases h a with e|e<;>rw[e]<;>omega
structure Gr(n m t:Nat)(s:St):Prop where
 shp:s.S.Shp n m
 zc:∃σ,Sg σ/\∀b,t<=b->b<m->Zc n t λa=>σ a*AO s.S.d a b
theorem J7{y:Int}(hx:x.natAbs=1):y%x=0:=by
 rcases (ω:x=1\/x=-1) with e|e
 ·rw[e];exact Int.emod_one _
 ·rw[e,Int.emod_neg];exact Int.emod_one _
theorem To{m:Nat}{T:Tn}(h:s.b<20000):s.row n m i k T=some ⟨s.S.rop n m i k T,s.b+1⟩:=by unfold St.row;rw[af (by rw[Nat.blt_eq];exact h)]
theorem QQ{m:Nat}{T:Tn}(h:s.b<20000):s.col n m i k T=some ⟨s.S.cop n m i k T,s.b+1⟩:=by unfold St.col;rw[af (by rw[Nat.blt_eq];exact h)]
theorem MB{op:Tn->Option St}:QM op x 0 s=some (s,false):=by unfold QM;rw[af rfl]
theorem Up(h:x.natAbs<2147483648):WV x=true:=by unfold WV;rw[Nat.blt_eq];exact h
theorem VE{op:Tn->Option St}{y:Int}(hx:x.natAbs=1)(hy:y≠0)(hyb:y.natAbs<2147483648):QM op x y s=(op ⟨1,0,-(y/x),1⟩).map (·,false):=by
 unfold QM;rw[ab hy,ab,af (J7 hx)];rw[Up hyb,Up (show x.natAbs<2147483648 by omega)];rintro(h|h|h)
 ·omega
 ·cases h
 ·cases h
end Go.Sm
namespace Go.Sm
open Go.Lin
variable {m t n:Nat}
theorem ME:∀{f i:Nat} {s:St},(∀a,i<=a->a<i+f->AO s.S.d a t=0)->EB n m t f i s=some s
 | 0,i,s,h=>rfl
 | f+1,i,s,h=>by unfold EB;rw[h i (ak _) ω,MB];exact ME λa h1 h2=>h a ω ω
theorem Zq{x y:Int}(hx:x.natAbs=1):y/x=y*x:=by
 have h1:=Kk (J7 (y:=y) hx);have h2:x*x=1:=by rcases (ω:x=1\/x=-1) with e|e<;>rw[e]<;>rfl
 rw[<-Int.mul_one (y/x),<-h2,<-gt,h1]
theorem Sl(ht:t<n)(htm:t<m)(σ:Nat->Int)(hσ:Sg σ):∀{f i:Nat} {s:St},s.S.Shp n m->(∀b,t<=b->b<m->Zc n t λa=>σ a*AO s.S.d a b)->AO s.S.d t t≠0->t<i->i+f=n->(∀a,t<a->a<i->AO s.S.d a t=0)->s.b<20000 →
  ∃s',EB n m t f i s=some s'/\s'.S.Shp n m/\s'.b<=s.b+1/\(∀b,b<m->AO s'.S.d t b=AO s.S.d t b)/\(∀a,t<a->a<n->AO s'.S.d a t=0)/\∀b,t+1<=b->b<m->Zc n (t+1) λa=>σ a*AO s'.S.d a b
 | 0,i,s,hS,hZ,hx,hi,hf,hz,hb=>by
  have:=Zd (hZ t (ak _) htm) (ak _) ht λa h1 h2 h3=>by rw[hz a ω ω,Int.mul_zero]
  exact ib ((hσ.eq0 _ _).1 this) hx
 | f+1,i,s,hS,hZ,hx,hi,hf,hz,hb=>by
  have hin:i<n:=ω
  have Zt:=hZ t (ak _) htm
  have hx1:(AO s.S.d t t).natAbs=1:=by have:=TD Zt (ak _) ht;rw[hσ.abs]at this;omega
  by_cases hy:AO s.S.d i t=0
  ·unfold EB;rw[hy,MB]
   exact Sl ht htm σ hσ hS hZ hx ω ω (λa h1 h2=>by
    by_cases e:a=i
    ·rw[e];exact hy
    ·exact hz a h1 ω) hb
  ·have hy1:(AO s.S.d i t).natAbs<=1:=by
    have:=TD Zt ω hin
    rwa [hσ.abs]at this
   obtain⟨p1,p2⟩:=AbO Zt (ak _) ht ω hin ω (λq=>hx ((hσ.eq0 _ _).1 q)) (λq=>hy ((hσ.eq0 _ _).1 q))
   have e0:EB n m t (f+1) i s=EB n m t f (i+1) ⟨s.S.rop n m t i ⟨1,0,-(AO s.S.d i t/AO s.S.d t t),1⟩,s.b+1⟩:=by
    conv=>lhs;unfold EB
    rw[VE hx1 hy ω,To hb];rfl
   have ed:=IX hS ⟨1,0,-(AO s.S.d i t/AO s.S.d t t),1⟩ ht hin ω
   have edt:∀b,b<m->AO (s.S.rop n m t i ⟨1,0,-(AO s.S.d i t/AO s.S.d t t),1⟩).d t b=AO s.S.d t b:=λb hb=>by rw[ed t b hb,af rfl];show 1*_+0*_=_;omega
   have edi:∀b,b<m->AO (s.S.rop n m t i ⟨1,0,-(AO s.S.d i t/AO s.S.d t t),1⟩).d i b=-(AO s.S.d i t/AO s.S.d t t)*AO s.S.d t b+AO s.S.d i b:=λb hb=>by rw[ed i b hb,ab ω,af rfl];show _*_+1*_=_;rw[fy]
   have edo:∀a b,b<m->a≠t->a≠i->AO (s.S.rop n m t i ⟨1,0,-(AO s.S.d i t/AO s.S.d t t),1⟩).d a b=AO s.S.d a b:=λa b hb h1 h2=>by rw[ed a b hb,ab h1,ab h2]
   have hz1:∀a,t<a->a<n->AO (s.S.rop n m t i ⟨1,0,-(AO s.S.d i t/AO s.S.d t t),1⟩).d a t=0:=λa h1 h2=>by
    by_cases e:a=i
    ·rw[e,edi t htm,Int.neg_mul,Kk (J7 hx1)];omega
    ·rw[edo a t htm ω e];exact(hσ.eq0 _ _).1 (p2 a ω h2 ω e)
   rw[e0,ME (s:=⟨s.S.rop n m t i ⟨1,0,-(AO s.S.d i t/AO s.S.d t t),1⟩,s.b+1⟩) λa h1 h2=>hz1 a ω ω]
   refine⟨_,Y,hS.rop _ _ _,ak _,edt,hz1,λb h1 h2=>ZL (hZ b ω h2) hi hin ?_ λa h3 h4 h5=>by
    show σ a*AO (FS.rop _ _ _ _ _ _).d a b=_
    rw[edo a b h2 ω h5]⟩
   show σ i*AO (FS.rop _ _ _ _ _ _).d i b=_;rw[edi b h2,Zq hx1,Int.mul_add];have h2:AO s.S.d t t*AO s.S.d t t=1:=by rcases (ω:AO s.S.d t t=1\/AO s.S.d t t=-1) with e|e<;>rw[e]<;>rfl
   have k:σ i*(-(AO s.S.d i t*AO s.S.d t t)*AO s.S.d t b)=σ t*AO s.S.d t b:=by
    have e1:σ i*(-(AO s.S.d i t*AO s.S.d t t)*AO s.S.d t b)=-((σ i*AO s.S.d i t)*(AO s.S.d t t*AO s.S.d t b)):=by simp only[Int.neg_mul,Int.mul_neg,gt]
    rw[e1,p1,Int.neg_mul,Int.neg_neg,gt,<-gt (AO s.S.d t t),h2,fy]
   rw[k,Int.add_comm]
theorem LS(ht:t<n)(htm:t<m):∀{f j:Nat} {s:St},s.S.Shp n m->(AO s.S.d t t).natAbs=1->t<j->j+f=m->(∀a,t<a->a<n->AO s.S.d a t=0)->(∀b,t<b->b<m->(AO s.S.d t b).natAbs<2147483648)->s.b+f<=20000 →
  ∃s',Er n m t f j false s=some (s',false)/\s'.S.Shp n m/\s'.b<=s.b+f/\AO s'.S.d t t=AO s.S.d t t/\∀a b,t<a->a<n->b<m->AO s'.S.d a b=AO s.S.d a b
 | 0,j,s,hS,hx,hj,hf,hz,hw,hb=>⟨s,rfl,hS,ak _,rfl,λa b _ _ _=>rfl⟩
 | f+1,j,s,hS,hx,hj,hf,hz,hw,hb=>by
  have hjm:j<m:=ω
  by_cases hy:AO s.S.d t j=0
  ·have e0:Er n m t (f+1) j false s=Er n m t f (j+1) false s:=by
    conv=>lhs;unfold Er
    rw[hy,MB];rfl
   rw[e0];obtain⟨s',h1,h2,h3,h4,h5⟩:=LS ht htm (j:=j+1) (f:=f) hS hx ω ω hz hw (show s.b+f<=20000 by omega);exact⟨s',h1,h2,ω,h4,h5⟩
  ·have e0:Er n m t (f+1) j false s=Er n m t f (j+1) false ⟨s.S.cop n m t j ⟨1,0,-(AO s.S.d t j/AO s.S.d t t),1⟩,s.b+1⟩:=by
    conv=>lhs;unfold Er
    rw[VE hx hy (hw j hj hjm),QQ ω];rfl
   have ed:=HA hS ⟨1,0,-(AO s.S.d t j/AO s.S.d t t),1⟩ htm hjm ω
   have edt:∀a,a<n->AO (s.S.cop n m t j ⟨1,0,-(AO s.S.d t j/AO s.S.d t t),1⟩).d a t=AO s.S.d a t:=λa ha=>by rw[ed a t ha,af rfl];show 1*_+0*_=_;omega
   have edj:∀a,a<n->AO (s.S.cop n m t j ⟨1,0,-(AO s.S.d t j/AO s.S.d t t),1⟩).d a j=-(AO s.S.d t j/AO s.S.d t t)*AO s.S.d a t+AO s.S.d a j:=λa ha=>by rw[ed a j ha,ab ω,af rfl];show _*_+1*_=_;rw[fy]
   have edo:∀a b,a<n->b≠t->b≠j->AO (s.S.cop n m t j ⟨1,0,-(AO s.S.d t j/AO s.S.d t t),1⟩).d a b=AO s.S.d a b:=λa b ha h1 h2=>by rw[ed a b ha,ab h1,ab h2]
   rw[e0]
   obtain⟨s',h1,h2,h3,h4,h5⟩:=LS ht htm (s:=⟨s.S.cop n m t j ⟨1,0,-(AO s.S.d t j/AO s.S.d t t),1⟩,s.b+1⟩) (j:=j+1) (f:=f) (hS.cop _ _ _) (by show(AO (FS.cop _ _ _ _ _ _).d t t).natAbs=1;rw[edt t ht];exact hx) ω ω (λa h1 h2=>by show AO (FS.cop _ _ _ _ _ _).d a t=0;rw[edt a h2];exact hz a h1 h2) (λb h1 h2=>by
    show(AO (FS.cop _ _ _ _ _ _).d t b).natAbs<_;by_cases e:b=j
    ·rw[e,edj t ht,Int.neg_mul,Kk (J7 hx)];omega
    ·rw[edo t b ht ω e];exact hw b h1 h2) (show s.b+1+f<=20000 by omega)
   refine⟨s',h1,h2,by have h3:s'.b<=s.b+1+f:=h3;omega,h4.trans (edt t ht),λa b h6 h7 h8=>(h5 a b h6 h7 h8).trans ?_⟩;show AO (FS.cop _ _ _ _ _ _).d a b=_;by_cases e1:b=t
   ·rw[e1,edt a h7]
   ·by_cases e2:b=j
    ·rw[e2,edj a h7,hz a h6 h7];omega
    ·exact edo a b h7 e1 e2
theorem Rh{M:List (List Int)}{i:Nat}{p:Int}(hp:p.natAbs=1):∀f j,XL M t i p f j=true
 | 0,j=>rfl
 | f+1,j=>by unfold XL;rw[Rh hp f (j+1),J7 hp];rfl
theorem Tp{M:List (List Int)}{p:Int}(hp:p.natAbs=1):∀f i,Nw M m t p f i=true
 | 0,j=>rfl
 | f+1,j=>by unfold Nw;rw[Tp hp f (j+1),Rh hp];rfl
theorem Gr.of_d{S S':FS}{b b':Nat}(G:Gr n m t ⟨S,b⟩)(h:S'.Shp n m)(e:∀a c,t<=a->a<n->c<m->AO S'.d a c=AO S.d a c):Gr n m t ⟨S',b'⟩:=by obtain⟨_,σ,hσ,hZ⟩:=G;exact⟨h,σ,hσ,λc h1 h2=>Hg (hZ c h1 h2) λa h3 h4=>by show σ a*AO S'.d a c=σ a*AO S.d a c;rw[e a c h3 h4 h2]⟩
theorem AaE(ht:t<n)(htm:t<m){s:St}(G:Gr n m t s)(hx:AO s.S.d t t≠0)(hb:s.b+(n+m)<=20000):∃s',Ki n m t s=some s'/\Gr n m (t+1) s'/\s'.b<=s.b+(n+m):=by
 obtain⟨hS,σ,hσ,hZ⟩:=G;obtain⟨s1,r1,r2,r3,r4,r5,r6⟩:=Sl ht htm σ hσ (f:=n-(t+1)) (i:=t+1) hS hZ hx ω ω (λa h1 h2=>ω) ω
 have hle:∀b,t<=b->b<m->(AO s1.S.d t b).natAbs<=1:=λb h1 h2=>by
  rw[r4 b h2];have:=TD (hZ b h1 h2) (ak _) ht
  rwa [hσ.abs]at this
 have hx1:(AO s1.S.d t t).natAbs=1:=by have h1:=hle t (ak _) htm;have h2:=r4 t htm;omega
 obtain⟨s2,c1,c2,c3,c4,c5⟩:=LS ht htm (f:=m-(t+1)) (j:=t+1) r2 hx1 ω ω r5 (λb h1 h2=>by have:=hle b ω h2;omega) ω
 have hcr:D4 n m t 10 s=some s2:=by
  show(match pass n m t s with|none=>none|some (s',true)=>D4 n m t 9 s'|some (s',false)=>some s')=_;have:pass n m t s=some (s2,false):=by unfold pass;rw[r1];exact c1
  rw[this]
 have hx2:(AO s2.S.d t t).natAbs=1:=by rw[c4];exact hx1
 have G2:Gr n m (t+1) s2:=⟨c2,σ,hσ,λb h1 h2=>Hg (r6 b h1 h2) λa h3 h4=>by show σ a*AO s2.S.d a b=σ a*AO s1.S.d a b;rw[c5 a b ω h4 h2]⟩
 unfold Ki;rw[hcr];simp only
 rw[ab (by
  rw[Up (show(AO s2.S.d t t).natAbs<2147483648 by omega)];rintro(h|h)
  ·omega
  ·cases h),af (Tp hx2 _ _)]
 by_cases hn:AO s2.S.d t t<0
 ·rw[af hn];refine⟨_,Y,Gr.of_d (b:=s2.b) G2 (c2.neg t) λa c h1 h2 h3=>?_,by show s2.b<=_;omega⟩;rw[PF c2 ht a c h3,ab ω]
 ·rw[ab hn];exact⟨s2,Y,G2,ω⟩
theorem XZ(ht:t<n)(htm:t<m){s:St}(G:Gr n m t s)(hb:s.b+2<=20000):∃s' b,EU n m t s=some (s',b)/\Gr n m t s'/\s'.b<=s.b+2/\(b=true->AO s'.S.d t t≠0):=by
 unfold EU;cases e0:Kg s.S.d n t (m-t) t with
 | none=>exact⟨s,false,Y,G,ω,λe=>by cases e⟩
 | some p=>
  obtain⟨i,j⟩:=p;obtain⟨q1,q2,q3,q4,q5⟩:=KI e0;simp only
  have st1:∃s1,(if i=t then some s else s.row n m t i swp)=some s1/\Gr n m t s1/\s1.b<=s.b+1/\AO s1.S.d t j≠0:=by
   by_cases e:i=t
   ·rw[af e];exact⟨s,Y,G,ω,e ▸ q5⟩
   ·rw[ab e,To ω];obtain⟨hS,σ,hσ,hZ⟩:=G;have hin:i<n:=ω
    have ed:=IX hS swp ht hin (fg e)
    have edt:∀b,b<m->AO (s.S.rop n m t i swp).d t b=AO s.S.d i b:=λb hb=>by rw[ed t b hb,af rfl];show 0*_+1*_=_;omega
    have edi:∀b,b<m->AO (s.S.rop n m t i swp).d i b=-(AO s.S.d t b):=λb hb=>by rw[ed i b hb,ab e,af rfl];show -1*_+0*_=_;omega
    refine⟨_,Y,⟨hS.rop _ _ _,λa=>if a=t then σ i else if a=i then -(σ t) else σ a,λa=>?_,λb h1 h2=>?_⟩,ak _,?_⟩
    ·show(if a=t then σ i else if a=i then -(σ t) else σ a)=1\/(if a=t then σ i else if a=i then -(σ t) else σ a)=-1;split
     ·exact hσ i
     ·split
      ·rcases hσ t with h|h<;>omega
      ·exact hσ a
    ·refine Ab8 (hZ b h1 h2) (show t<i by omega) hin ?_ ?_ λa h3 h4=>?_
     ·show(if t=t then σ i else _)*AO (FS.rop _ _ _ _ _ _).d t b=_;rw[af rfl,edt b h2]
     ·show(if i=t then σ i else if i=i then -(σ t) else σ i)*AO (FS.rop _ _ _ _ _ _).d i b=_;rw[ab e,af rfl,edi b h2,Int.neg_mul_neg]
     ·show(if a=t then σ i else if a=i then -(σ t) else σ a)*AO (FS.rop _ _ _ _ _ _).d a b=_;rw[ab h3,ab h4,ed a b h2,ab h3,ab h4]
    ·show AO (FS.rop _ _ _ _ _ _).d t j≠0;rw[edt j ω];exact q5
  obtain⟨s1,e1,G1,b1,x1⟩:=st1;rw[e1];simp only
  have st2:∃s2,(if j=t then some s1 else s1.col n m t j swp)=some s2/\Gr n m t s2/\s2.b<=s1.b+1/\AO s2.S.d t t≠0:=by
   by_cases e:j=t
   ·rw[af e];exact⟨s1,Y,G1,ω,e ▸ x1⟩
   ·rw[ab e,QQ ω];obtain⟨hS,σ,hσ,hZ⟩:=G1;have hjm:j<m:=ω
    have ed:=HA hS swp htm hjm (fg e)
    have edt:∀a,a<n->AO (s1.S.cop n m t j swp).d a t=AO s1.S.d a j:=λa ha=>by rw[ed a t ha,af rfl];show 0*_+1*_=_;omega
    have edj:∀a,a<n->AO (s1.S.cop n m t j swp).d a j=-(AO s1.S.d a t):=λa ha=>by rw[ed a j ha,ab e,af rfl];show -1*_+0*_=_;omega
    refine⟨_,Y,⟨hS.cop _ _ _,σ,hσ,λb h1 h2=>?_⟩,ak _,?_⟩
    ·by_cases f1:b=t
     ·subst f1;exact Hg (hZ j q3 hjm) λa h3 h4=>by show σ a*AO (FS.cop _ _ _ _ _ _).d a b=_;rw[edt a h4]
     ·by_cases f2:b=j
      ·subst f2;exact Hg (Adw (g:=λa=>-(σ a*AO s1.S.d a t)) (hZ t (ak _) htm) λa=>rfl) λa h3 h4=>by show σ a*AO (FS.cop _ _ _ _ _ _).d a b=_;rw[edj a h4,Int.mul_neg]
      ·exact Hg (hZ b h1 h2) λa h3 h4=>by show σ a*AO (FS.cop _ _ _ _ _ _).d a b=_;rw[ed a b h4,ab f1,ab f2]
    ·show AO (FS.cop _ _ _ _ _ _).d t t≠0;rw[edt t ht];exact x1
  obtain⟨s2,e2,G2,b2,x2⟩:=st2;rw[e2];exact⟨s2,true,Y,G2,ω,λ_=>x2⟩
theorem Rt:∀{f t:Nat} {s:St},Gr n m t s->s.b+f*(n+m+2)<=20000->∃s',EO n m f t s=some s'
 | 0,t,s,G,hb=>⟨s,rfl⟩
 | f+1,t,s,G,hb=>by
  rw[db,fk]at hb;unfold EO;by_cases h:t<min n m
  ·rw[af h];obtain⟨s1,b,e1,G1,b1,x1⟩:=XZ ω ω G ω;rw[e1];cases b with
   | false=>exact⟨s1,Y⟩
   | true=>
    obtain⟨s2,e2,G2,b2⟩:=AaE ω ω G1 (x1 Y) ω;simp only;rw[e2];exact Rt G2 ω
  ·rw[ab h];exact⟨s,Y⟩
end Go.Sm
namespace Go.Ch
open Go.Lin Go.Sm
variable {ids:List Int} {g:Int->Int} {c:Int}
theorem Ub(h:Int->Int):∀ids:List Int,(ids.map h).sum=sm ids.length λi=>h (ids.getD i 0)
 | []=>rfl
 | c::ids=>by
  have ih:=Ub h ids;rw[dq,sum_cons,ih,d5,Nat.add_comm ids.length 1,Zu 1 ids.length];have e1:sm 1 (λi=>h ((c::ids).getD i 0))=h c:=by show(0:Int)+_=_;rw[Int.zero_add];rfl
  rw[e1];congr 1;exact Be λi _=>by rw[Nat.add_comm 1 i];rfl
theorem MH:∀{L:List Tm},(∀p∈L,g p.1=0)->lin g L=0
 | [],_=>rfl
 | p::L,h=>by rw[DT,h p aq,MH λq hq=>h q (be _ hq)];simp
theorem Mi{P:Tm->Bool}:∀{L:List Tm},(∀p∈L,P p=false->g p.1=0)->lin g (L.filter P)=lin g L
 | [],_=>rfl
 | p::L,h=>by
  have ih:=Mi (L:=L) λq hq=>h q (be _ hq);cases e:P p with
  | true=>rw[List.filter_cons_of_pos e,DT,DT,ih]
  | false=>rw[List.filter_cons_of_neg (by rw[e];simp),DT,ih,h p aq e];simp
theorem Oh{P:Tm->Bool}:∀{L:List Tm},(∀p∈L,P p=false->p.1≠c)->cf (L.filter P) c=cf L c
 | [],_=>rfl
 | p::L,h=>by
  have ih:=Oh (L:=L) λq hq=>h q (be _ hq);cases e:P p with
  | true=>rw[List.filter_cons_of_pos e,B6,B6,ih]
  | false=>rw[List.filter_cons_of_neg (by rw[e];simp),B6,ih,ab (h p aq e)];simp
theorem Pu{L:List Tm}(hn:ids.Nodup)(h:∀p∈L,g p.1≠0->p.1∈ids):lin g L=sm ids.length λi=>g (ids.getD i 0)*cf L (ids.getD i 0):=by
 rw[<-Ub (λc=>g c*cf L c)]
 have e1:lin g (L.filter λp=>decide (p.1∈ids))=lin g L:=Mi λp hp hP=>ay λq=>by have:=h p hp q;simp[this]at hP
 rw[<-e1,KF hn λp hp=>by have:=(dm.1 hp).2;simpa using this];congr 1;refine map_congr_left λc hc=>?_;rw[Oh λp hp hP e=>by subst e;simp[hc]at hP]
theorem Wv(g:Int->Int){A B:List Tm}(h:∀c,cf A c=cf B c):lin g A=lin g B:=by have hn:=KM (A++B);have hk:∀p,p∈A++B->p.1∈(Je (A++B)).map Prod.fst:=λp hp=>(Mf _ _).2 (List.mem_map_of_mem hp);rw[KF hn λp hp=>hk p (ee _ hp),KF hn λp hp=>hk p (List.mem_append_right _ hp)];congr 1;exact map_congr_left λc _=>by rw[h c]
theorem YF{g:Nat->Int}:∀{ids:List Int} (k:Nat),ids.Nodup->∀j,j<ids.length->cf (ids.zip ((List.range' k ids.length).map g)) (ids.getD j 0)=g (k+j)
 | [],k,_,j,hj=>by simp at hj
 | c::ids,k,hn,j,hj=>by
  obtain⟨h1,h2⟩:=fe.1 hn;rw[d5,List.range'_succ,dq,List.zip_cons_cons,B6];cases j with
  | zero=>
   show(if c=c then g k else 0)+cf _ c=_;rw[af rfl,FU λp hp (e:p.1=c)=>h1 (by have:=(List.of_mem_zip (by exact hp:(p.1,p.2)∈_)).1;rwa [e]at this)];simp
  | succ j=>
   have hj':j<ids.length:=by simpa using hj
   have hm:ids.getD j 0∈ids:=by rw[show ids.getD j 0=ids[j] by simp[List.getD,hj']];exact ap hj'
   show(if c=ids.getD j 0 then g k else 0)+cf _ (ids.getD j 0)=_;rw[ab (λe:c=ids.getD j 0=>h1 (by rw[e];exact hm)),YF (k+1) h2 j hj',Int.zero_add];congr 1;omega
theorem VQ{xs:List Int}(h:c ∉ ids):cf (ids.zip xs) c=0:=by
 refine FU λp hp (e:p.1=c)=>h ?_;have:=(List.of_mem_zip (by exact hp:(p.1,p.2)∈_)).1
 rwa [e]at this
theorem Vz{n:Nat}(hn:ids.Nodup)(g:Nat->Int)(e:ids.length=n){j:Nat}(hj:j<n):cf (ids.zip (Dt n g)) (ids.getD j 0)=g j:=by subst e;have:=YF (g:=g) 0 hn j hj;rw[Nat.zero_add]at this;rw[<-this];unfold Dt;rw[List.range_eq_range']
theorem YU(h:c∈ids):∃i,i<ids.length/\ids.getD i 0=c:=by obtain⟨i,hi,e⟩:=df.1 h;exact⟨i,hi,by simp[List.getD,hi,e]⟩
end Go.Ch
namespace Go.Eng
open Go.RowKit
section
variable {κ ν:Type} [DecidableEq κ] {K:κ->Value} {V:ν->Value} {Ok:κ->Prop} {kt et t:TypeId} {g:Nat} {m:Hp} {T:List (κ×ν)} {bs:List Nat}
variable {e:Entry} {Q:Exit->Act->World->Prop} {ops:Array Oper} {rest:List Oper} {o:Oper} {s:AE} {h:Hp} {ms:List Hp}
theorem Ph{x y u:Operand}{z:Value}(i:Nat)(a:κ)(y':ν)(L:Lc e.P kt K Ok)(O:Cd K V g Ok m T bs)(hm:ms[i]?=some m)(ho:o.op=.insert t x y u)(ht:e.P.underlying t=some (.map kt et))(hx:ev s x=some (.map (some g)))(hy:ev s y=some (K a))(hu:ev s u=some (V y'))(ha:Ok a)
  (hd:o.dst=none) (hg:o.guard=none) (k:∀m' bs',Cd K V g Ok m' (Cj T a y') bs'->WL e ops Q rest s h (ms.set i m')):WL e ops Q (o::rest) s h ms:=
 K6 (post:=λ_ h' ms'=>∃m' bs',Cd K V g Ok m' (Cj T a y') bs'/\h'=h/\ms'=ms.set i m') (λρ w hρ hw=>by
  obtain⟨es,clock,rfl,he,hb⟩:=O.ex;have hgw:w.heap[g]?=some (.map es clock):=hw.st.own _ (de hm) g _ (Hp.one_self _ _);obtain⟨l,hk⟩:=L.key a ha;have hc:=L.law.check w false hk;have hs:=L.law.stays w hk;rcases Gw L O.keys O.ok O.len he w a ha with ⟨h1,h2⟩|⟨j,v,b,h1,h2,h3,h4⟩
  ·have hT:Cj T a y'=T++[(a,y')]:=by unfold Cj;rw[ab h2]
   have hrun:(execOp ρ o).run e.P w=.ok .skip { w with heap:=w.heap.setIfInBounds g (.map (es.push ⟨K a,V y',clock⟩) (clock+1)) }:=by simp only[execOp,ho,hρ _ _ hx,hρ _ _ hy,hρ _ _ hu,Instr.mapUpdate,Sem.run_bind,run_underlying ht,Result.andThen_ok,getObj,Sem.run_pure];simp[Sem.run,hgw,hc,h1,Result.andThen,setObj]
   unfold OpRes;rw[hrun];refine⟨h,_,Ends.turn hw hm,_,bs++[clock],?_,Y,Y⟩;rw[hT];refine⟨⟨_,_,Y,?_,λb hb'=>?_⟩,by simp[O.len],PA O.up hb,?_,λp hp=>?_⟩
   ·rw[Array.toList_push,he,Ni T bs O.len,cq];rfl
   ·rcases bl.1 hb' with hb'|hb'
    ·have:=hb b hb';omega
    ·simp at hb';omega
   ·have:=DX O.keys a y';rw[hT]at this;exact this
   ·rcases bl.1 hp with hp|hp
    ·exact O.ok p hp
    ·simp at hp;subst hp;exact ha
  ·have hj4:=(br.1 h4)
   have hrun:(execOp ρ o).run e.P w=.ok .skip { w with heap:=w.heap.setIfInBounds g (.map (es.modify j λe=>{ e with key:=K a,val:=V y' }) clock) }:=by simp only[execOp,ho,hρ _ _ hx,hρ _ _ hy,hρ _ _ hu,Instr.mapUpdate,Sem.run_bind,run_underlying ht,Result.andThen_ok,getObj,Sem.run_pure];simp[Sem.run,hgw,hc,h1,Result.andThen,setObj,h4,hs]
   unfold OpRes;rw[hrun];refine⟨h,_,Ends.turn hw hm,_,bs,?_,Y,Y⟩;refine⟨⟨_,_,Y,?_,hb⟩,?_,O.up,DX O.keys a y',λp hp=>?_⟩
   ·rw[DD O.keys h2,LQ T bs j _ b h3,List.map_set,<-he];refine List.ext_getElem? λk=>?_;rw[Array.getElem?_toList,Array.getElem?_modify,List.getElem?_set];by_cases hjk:j=k
    ·subst hjk;rw[af rfl,af rfl,h4];have:j<es.toList.length:=by simpa using (br.1 h4).1
     rw[af this];rfl
    ·rw[ab hjk,ab hjk,Array.getElem?_toList]
   ·rw[DD O.keys h2,d8];exact O.len
   ·rw[DD O.keys h2]at hp;rcases List.mem_or_eq_of_mem_set hp with hp|hp
    ·exact O.ok p hp
    ·subst hp;exact ha) hd hg λv h' ms' ⟨m',bs',e1,e2,e3⟩=>by subst e2 e3;exact k m' bs' e1
end
end Go.Eng
namespace Go.Eng
open Go.RowKit
theorem Qs{s' s:AE}(h:Eng.Sub s' s:=by repeat (first|exact eo|refine⟨rfl,?_⟩)):Eng.Sub s' s:=h
theorem Qt{f:Nat->Option (Nat×Nat)}{n:Nat}{vs:List (Nat×Value)}{ps:List (Nat×List Value)}(h:Hm f n vs ps:=by repeat (first|exact eo|refine⟨⟨by rfl,rfl,rfl⟩,?_⟩)):Hm f n vs ps:=h
def dgQ(n:Nat)(o:Oper):Option Nat:=match o.dst,o.guard with
 | some d,none=>match Nat.blt d n with
  | true=>some d
  | false=>none
 | _,_=>none
theorem LC{n d:Nat}{o:Oper}(h:dgQ n o=some d):o.dst=some d/\Nat.blt d n=true/\o.guard=none:=by
 unfold dgQ at h;split at h
 ·rename_i d' h1 h2;split at h
  ·rename_i h3;cases h;exact⟨h1,h3,h2⟩
  ·cases h
 ·cases h
def mv(s:AE)(o:Oper):Option Value:=match o.op with
 | .move x=>ev s x
 | .assign x=>ev s x
 | .nilCheck x=>match ev s x with
  | some (.pointer (some p))=>some (.pointer (some p))
  | _=>none
 | .extract x i=>match ev s x with
  | some (.tuple vs)=>vs[i]?
  | _=>none
 | .pick c x y=>match ev s c with
  | some (.bool true)=>ev s x
  | some (.bool false)=>ev s y
  | _=>none
 | .unOp .not _ x=>match ev s x with
  | some (.bool a)=>some (.bool (!a))
  | _=>none
 | .binOp b _ x y _=>match b,ev s x,ev s y with
  | .lss,some (.int k a),some (.int k' b)=>if k=k' then some (.bool (decide (a<b))) else none
  | .leq,some (.int k a),some (.int k' b)=>if k=k' then some (.bool (decide (a<=b))) else none
  | .gtr,some (.int k a),some (.int k' b)=>if k=k' then some (.bool (decide (b<a))) else none
  | .geq,some (.int k a),some (.int k' b)=>if k=k' then some (.bool (decide (b<=a))) else none
  | .eql,some (.int k a),some (.int k' b)=>if k=k' then some (.bool (decide (a=b))) else none
  | .neq,some (.int k a),some (.int k' b)=>if k=k' then some (.bool (decide (a≠b))) else none
  | _,_,_=>none
 | _=>none
theorem Aaq{P:Program}{s:AE}{h:Hp}{ms:List Hp}{o:Oper}{v:Value}(hv:mv s o=some v):OX P o s h ms v:=by
 unfold mv at hv;split at hv
 ·rename_i h1;exact Ar h1 hv
 ·rename_i h1;exact ID h1 hv
 ·rename_i h1;split at hv
  ·rename_i h2;cases hv;exact SY h1 h2
  ·cases hv
 ·rename_i h1;split at hv
  ·rename_i h2;exact Bz h1 h2 hv
  ·cases hv
 ·rename_i h1;split at hv
  ·rename_i h2;exact CW h1 h2 hv
  ·rename_i h2;exact CE h1 h2 hv
  ·cases hv
 ·rename_i h1;split at hv
  ·rename_i h2;cases hv;exact DQ h1 h2
  ·cases hv
 ·rename_i h1;split at hv<;>first|(split at hv<;>first|(rename_i h2 h3 h4;subst h4;cases hv;first|exact DB h1 h2 h3|exact Uj h1 h2 h3|exact Cs h1 h2 h3|exact MI h1 h2 h3|exact Ca h1 h2 h3|exact FC h1 h2 h3)|cases hv)|cases hv
 ·cases hv
def gd(ops:Array Oper)(n:Nat)(s:AE)(o:Oper)(w:Bool):Option Nat:=match o.dst,o.guard with
 | some d,some (j,b)=>match Nat.blt d n,ops[j]? with
  | true,some oj=>match oj.dst with
   | some dj=>match lk s dj with
    | some (.bool b')=>match (b'==b)==w with
     | true=>some d
     | false=>none
    | _=>none
   | none=>none
  | _,_=>none
 | _,_=>none
theorem Vk{ops:Array Oper}{n d:Nat}{s:AE}{o:Oper}{w:Bool}(h:gd ops n s o w=some d):∃j b oj dj b',o.dst=some d/\Nat.blt d n=true/\o.guard=some (j,b)/\ops[j]?=some oj/\oj.dst=some dj/\lk s dj=some (.bool b')/\(b'==b)=w:=by
 unfold gd at h;split at h
 ·rename_i d' j b h1 h2;split at h
  ·rename_i oj h3 h4;split at h
   ·rename_i dj h5;split at h
    ·rename_i b' h6;split at h
     ·rename_i h7;cases h;exact⟨j,b,oj,dj,b',h1,h3,h2,h4,h5,h6,by simpa using h7⟩
     ·cases h
    ·cases h
   ·cases h
  ·cases h
 ·cases h
section
variable {e:Entry} {Q:Exit->Act->World->Prop} {s:AE} {h h0:Hp} {ms:List Hp} {ops:Array Oper} {listed:Array Bool} {fuel:Nat} {o:Oper} {rest:List Oper} {v:Value} {d:Nat}
theorem Qx(hx:OX e.P o s h ms v)(hd:dgQ e.n o=some d)(k:WL e ops Q rest ((d,v)::s) h ms):WL e ops Q (o::rest) s h ms:=
 let ⟨h1,h2,h3⟩:=LC hd
 AeF hx h1 h2 h3 k
def mvd(n:Nat)(s:AE)(o:Oper):Option (Nat×Value):=match dgQ n o,mv s o with
 | some d,some v=>some (d,v)
 | _,_=>none
theorem Qm(hm:mvd e.n s o=some (d,v))(k:WL e ops Q rest ((d,v)::s) h ms):WL e ops Q (o::rest) s h ms:=by
 obtain⟨hd,hv⟩:dgQ e.n o=some d/\mv s o=some v:=by
  unfold mvd at hm;split at hm
  ·rename_i h1 h2;cases hm;exact⟨h1,h2⟩
  ·cases hm
 exact Qx (Aaq hv) hd k
theorem Qk(hd:gd ops e.n s o false=some d)(k:WL e ops Q rest ((d,undef)::s) h ms):WL e ops Q (o::rest) s h ms:=
 let ⟨_,_,_,_,_,h1,h2,h3,h4,h5,h6,h7⟩:=Vk hd
 Abs h1 h2 h3 h4 h5 h6 h7 k
theorem Qg(hx:OX e.P o s h ms v)(hd:gd ops e.n s o true=some d)(k:WL e ops Q rest ((d,v)::s) h ms):WL e ops Q (o::rest) s h ms:=
 let ⟨_,_,_,_,_,h1,h2,h3,h4,h5,h6,h7⟩:=Vk hd
 Ac7 hx h1 h2 h3 h4 h5 (by rw[h6];congr 2;simpa using h7) k
theorem Qw(k:WB e ops Q h fuel listed s h ms):WL e ops (QB e ops Q h fuel listed) [] s h ms:=Am (Adg (Hp.le_refl _) k)
theorem Qa(k:WB e ops Q h0 fuel listed s h ms)(hl:h0.le h:=by assumption):WL e ops (QB e ops Q h0 fuel listed) [] s h ms:=Am (Adg hl k)
theorem Qo(i:Nat)(ho:ops[i]?=some o)(k:WL e ops (QB e ops Q h0 fuel (listed.setIfInBounds i true)) [o] s h ms)(hr:Region.ready .any ops listed=[i]:=by kernel_rfl):WB e ops Q h0 (fuel+1) listed s h ms:=AV [i] hr rfl (Av ho k AW)
theorem Qe(k:NX e Q .normal s h ms)(hr:Region.ready .any ops listed=[]:=by kernel_rfl):WB e ops Q h0 fuel listed s h ms:=Ad3 hr k
theorem An{y:Code}(k:WS e y Q s h ms):WL e ops (Exit.then (λa w=>y.wp e.P Q a w) Q) [] s h ms:=Am (Ab k)
theorem As{id:Nat}{l:List Oper}{y:Code}(k:WL e l.toArray (Exit.then (λa w=>y.wp e.P Q a w) Q) l s h ms):WS e (.seq (.region id l.toArray false) y) Q s h ms:=Ac (Ad k)
theorem Bw{id:Nat}{l:List Oper}{y:Code}(k:WL e l.toArray (Exit.then (λa w=>y.wp e.P Q a w) Q) l s h ms):WL e ops (Exit.then (λa w=>(Code.seq (.region id l.toArray false) y).wp e.P Q a w) Q) [] s h ms:=Am (Ab (Ac (Ad k)))
theorem GM{id:Nat}{l:List Oper}(k:WL e l.toArray Q l s h ms):WL e ops (Exit.then (λa w=>(Code.region id l.toArray false).wp e.P Q a w) Q) [] s h ms:=Am (Ab (Ad k))
theorem BY{t:TypeId}{sz:Nat}{z:Value}{bytes:Nat}(zl:List Value)(ho:o.op=.alloc t)(hs:Elem e.P t sz z bytes)(hz:z.cells=zl.toArray)(hd:dgQ e.n o=some d)(k:∀g,WL e ops Q rest ((d,.pointer (some ⟨g,0,none⟩))::s) h (BL g t zl::ms)):WL e ops Q (o::rest) s h ms:=
 let ⟨h1,h2,h3⟩:=LC hd
 ZK zl ho hs hz h1 h2 h3 k
end
def pzo(l:List Oper)(n:Nat)(zs:AE)(i:Nat):Option (Oper×Nat):=match l[i]? with
 | some o=>match dgQ n o with
  | some d=>match lk zs d with
   | none=>some (o,d)
   | some _=>none
  | none=>none
 | none=>none
theorem Qp{P:Program}{l:List Oper}{n:Nat}{s z:AE}{h0:Hp}{K:AE->Prop}{r:List Nat}{i d:Nat}{o:Oper}{v:Value}(ho:pzo l n (z++s) i=some (o,d))(hx:OX P o (z++s) h0 [] v)(k:Do P l n s h0 K r ((d,v)::z)):Do P l n s h0 K (i::r) z:=by
 unfold pzo at ho;split at ho
 ·rename_i o' h1;split at ho
  ·rename_i d' h2;split at ho
   ·rename_i h3;cases ho;obtain⟨h4,h5,_⟩:=LC h2;exact Afd h1 h4 h5 h3 hx k
   ·cases ho
  ·cases ho
 ·cases ho
def pzm(l:List Oper)(n:Nat)(zs:AE)(i:Nat):Option (Nat×Value):=match pzo l n zs i with
 | some (o,d)=>match mv zs o with
  | some v=>some (d,v)
  | none=>none
 | none=>none
def ldv(s:AE)(o:Oper):Option (TypeId×Addr):=match o.op with
 | .load t x=>match ev s x with
  | some (.pointer (some p))=>some (t,p)
  | _=>none
 | _=>none
theorem RW{s:AE}{o:Oper}{t:TypeId}{p:Addr}(h:ldv s o=some (t,p)):∃x,o.op=.load t x/\ev s x=some (.pointer (some p)):=by
 unfold ldv at h;split at h
 ·rename_i t' x h1;split at h
  ·rename_i h2;cases h;exact⟨x,h1,h2⟩
  ·cases h
 ·cases h
def fav(s:AE)(o:Oper):Option (TypeId×Nat×Addr):=match o.op with
 | .fieldAddr t x i=>match ev s x with
  | some (.pointer (some p))=>some (t,i,p)
  | _=>none
 | _=>none
theorem AaR{s:AE}{o:Oper}{t:TypeId}{i:Nat}{p:Addr}(h:fav s o=some (t,i,p)):∃x,o.op=.fieldAddr t x i/\ev s x=some (.pointer (some p)):=by
 unfold fav at h;split at h
 ·rename_i t' x i' h1;split at h
  ·rename_i h2;cases h;exact⟨x,h1,h2⟩
  ·cases h
 ·cases h
def wd(o:Oper):Option Nat:=match o.dst,o.guard with
 | some d,none=>some d
 | _,_=>none
theorem Pi{o:Oper}{d:Nat}(h:wd o=some d):o.dst=some d/\o.guard=none:=by
 unfold wd at h;split at h
 ·rename_i h1 h2;cases h;exact⟨h1,h2⟩
 ·cases h
section
variable {P:Program} {l:List Oper} {n:Nat} {s z:AE} {h h0:Hp} {ms:List Hp} {K:AE->Prop} {r:List Nat} {i d:Nat} {o:Oper} {v:Value} {t:TypeId} {p:Addr} {D:TypeDesc}
theorem Qq(hm:pzm l n (z++s) i=some (d,v))(k:Do P l n s h0 K r ((d,v)::z)):Do P l n s h0 K (i::r) z:=by
 unfold pzm at hm;split at hm
 ·rename_i h1;split at hm
  ·rename_i h2;cases hm;exact Qp h1 (Aaq h2) k
  ·cases hm
 ·cases hm
def ad2{α:Type}(a:Option (Oper×Nat))(f:Oper->Option α):Option (α×Nat):=match a with
 | some (o,d)=>match f o with
  | some x=>some (x,d)
  | none=>none
 | none=>none
theorem SC{α:Type}{a:Option (Oper×Nat)}{f:Oper->Option α}{x:α}{d:Nat}(h:ad2 a f=some (x,d)):∃o,a=some (o,d)/\f o=some x:=by
 unfold ad2 at h;split at h
 ·rename_i o' d';split at h
  ·rename_i h2;cases h;exact⟨_,Y,h2⟩
  ·cases h
 ·cases h
theorem oL(hm:ldv s o=some (t,p))(ht:P.underlying t=some D)(hc:Cell h ms p v)(ha:Ie D=false:=by rfl):OX P o s h ms v:=
 let ⟨_,h1,h2⟩:=RW hm
 Abj h1 ht ha h2 hc
theorem oG{z:Value}{sz bytes:Nat}{vs:List Value}(hm:ldv s o=some (t,p))(ht:P.underlying t=some D)(hs:Elem P t sz z bytes)(hc:Seg h ms p vs)(ha:Ie D=true:=by rfl)(hl:vs.length=sz:=by rfl):OX P o s h ms (.agg vs.toArray):=
 let ⟨_,h1,h2⟩:=RW hm
 Aaz h1 ht ha hs hl h2 hc
theorem oF{j off:Nat}(F:Gz P t j off)(hm:fav s o=some (t,j,p)):OX P o s h ms (.pointer (some (p.add off))):=
 let ⟨_,h1,h2⟩:=AaR hm
 WJ F h1 h2
theorem QL(hm:ad2 (pzo l n (z++s) i) (ldv (z++s))=some ((t,p),d))(ht:P.underlying t=some D)(hc:Cell h0 [] p v)(k:Do P l n s h0 K r ((d,v)::z))(ha:Ie D=false:=by rfl):Do P l n s h0 K (i::r) z:=
 let ⟨_,h1,h2⟩:=SC hm
 Qp h1 (oL h2 ht hc ha) k
theorem QF{j off:Nat}(F:Gz P t j off)(hm:ad2 (pzo l n (z++s) i) (fav (z++s))=some ((t,j,p),d))(k:Do P l n s h0 K r ((d,.pointer (some (p.add off)))::z)):Do P l n s h0 K (i::r) z:=
 let ⟨_,h1,h2⟩:=SC hm
 Qp h1 (oF F h2) k
end
def bn(s:AE)(o:Oper):Option (BinOp×Int×Int):=match o.op with
 | .binOp b _ x y _=>match ev s x,ev s y with
  | some (.w a),some (.w c)=>some (b,a,c)
  | _,_=>none
 | _=>none
theorem Qd{s:AE}{o:Oper}{b:BinOp}{a c:Int}(h:bn s o=some (b,a,c)):∃t x y u,o.op=.binOp b t x y u/\ev s x=some (.int .i64 a)/\ev s y=some (.int .i64 c):=by
 unfold bn at h;split at h
 ·rename_i b' t x y u h1;split at h
  ·rename_i h2 h3;cases h;exact⟨t,x,y,u,h1,h2,h3⟩
  ·cases h
 ·cases h
section
variable {P:Program} {s:AE} {h:Hp} {ms:List Hp} {o:Oper} {a b:Int}
theorem oA(hm:bn s o=some (.add,a,b))(hr:-9223372036854775808<=a+b/\a+b<=9223372036854775807:=by omega):OX P o s h ms (.int .i64 (a+b)):=
 let ⟨_,_,_,_,h1,h2,h3⟩:=Qd hm
 Adu h1 h2 h3 hr
theorem oS(hm:bn s o=some (.sub,a,b))(hr:-9223372036854775808<=a-b/\a-b<=9223372036854775807:=by omega):OX P o s h ms (.int .i64 (a-b)):=
 let ⟨_,_,_,_,h1,h2,h3⟩:=Qd hm
 AdR h1 h2 h3 hr
theorem oM(hm:bn s o=some (.mul,a,b))(hr:-9223372036854775808<=a*b/\a*b<=9223372036854775807:=by omega):OX P o s h ms (.int .i64 (a*b)):=
 let ⟨_,_,_,_,h1,h2,h3⟩:=Qd hm
 Aei h1 h2 h3 hr
end
def stv(s:AE)(o:Oper):Option (TypeId×Addr×Value):=match o.op,o.dst,o.guard with
 | .store t x y,none,none=>match ev s x,ev s y with
  | some (.pointer (some p)),some v=>some (t,p,v)
  | _,_=>none
 | _,_,_=>none
theorem Aay{s:AE}{o:Oper}{t:TypeId}{p:Addr}{v:Value}(h:stv s o=some (t,p,v)):∃x y,o.op=.store t x y/\ev s x=some (.pointer (some p))/\ev s y=some v/\o.dst=none/\o.guard=none:=by
 unfold stv at h;split at h
 ·rename_i t' x y h1 h2 h3;split at h
  ·rename_i h4 h5;cases h;exact⟨x,y,h1,h4,h5,h2,h3⟩
  ·cases h
 ·cases h
def cav(s:AE)(o:Oper):Option (FuncId×List Value):=match o.op with
 | .call c=>match c.callee,SD s c.args.toList with
  | .value (.func f),some vs=>some (f,vs)
  | _,_=>none
 | _=>none
theorem Zb{s:AE}{o:Oper}{f:FuncId}{vs:List Value}(h:cav s o=some (f,vs)):∃l ts,o.op=.call { callee:=.value (.func f),args:=List.toArray l,argTypes:=ts }/\SD s l=some vs:=by
 unfold cav at h;split at h
 ·rename_i c h1;split at h
  ·rename_i f' vs' h2 h3;cases h;obtain⟨ce,az,ts⟩:=c;simp only at h2 h3;subst h2;exact⟨az.toList,ts,by rw[h1,Array.toArray_toList],h3⟩
  ·cases h
 ·cases h
section
variable {e:Entry} {Q:Exit->Act->World->Prop} {s:AE} {h:Hp} {ms:List Hp} {ops:Array Oper} {o:Oper} {rest l:List Oper} {v:Value} {d:Nat} {t:TypeId} {p:Addr} {D:TypeDesc}
theorem Ql(hm:(ldv s o,dgQ e.n o)=(some (t,p),some d))(ht:e.P.underlying t=some D)(hc:Cell h ms p v)(k:WL e ops Q rest ((d,v)::s) h ms)(ha:Ie D=false:=by rfl):WL e ops Q (o::rest) s h ms:=
 let ⟨h1,h2⟩:=Prod.mk.inj hm
 Qx (oL h1 ht hc ha) h2 k
theorem Qf{j off:Nat}(F:Gz e.P t j off)(hm:(fav s o,dgQ e.n o)=(some (t,j,p),some d))(k:WL e ops Q rest ((d,.pointer (some (p.add off)))::s) h ms):WL e ops Q (o::rest) s h ms:=
 let ⟨h1,h2⟩:=Prod.mk.inj hm
 Qx (oF F h1) h2 k
theorem Sa{el:TypeId}{z:Value}{sz bytes g:Nat}{l:List Value}(i:Nat)(vl:List Value)(hs:Elem e.P t sz z bytes)(hm:(stv s o,v.cells,ms[i]?,vl.length,l.length)=(some (t,⟨g,0,none⟩,v),vl.toArray,some (BL g el l),sz,sz))(h1:∀u∈vl,u.oneCell'=true)(K:WL e ops Q rest s h (ms.set i (BL g el vl))):WL e ops Q (o::rest) s h ms:=by simp only[Prod.mk.injEq]at hm;obtain⟨q1,q2,q3,q4,q5⟩:=hm;obtain⟨x,y,r1,r2,r3,r4,r5⟩:=Aay q1;exact SF i vl r1 hs r2 r3 q2 h1 q3 q4 q5 r4 r5 K
theorem Qc{f:FuncId}{vs:List Value}{post:Value->Hp->List Hp->Prop}(hc:∀az w,(callFunc f az).run e.P w=.ok (.enter f az) w)(hm:(cav s o,dgQ e.n o)=(some (f,vs),some d))(k:FnT e.P f vs.toArray h [] post)(K:∀v h' pre',h.le h'->post v h' pre'->WL e ops Q rest ((d,v)::s) h' (pre'++ms)):WL e ops Q (o::rest) s h ms:=by obtain⟨h1,h2⟩:=Prod.mk.inj hm;obtain⟨l,ts,h3,h4⟩:=Zb h1;obtain⟨h5,h6,h7⟩:=LC h2;exact AcO h3 hc h4 k h5 h6 h7 K
variable {tl:List Oper} {q:List (Nat×VP)} {al:List (Nat×Nb)}
theorem Wm(hm:(wd o,mv s o)=(some d,some v))(k:WR e ops Q tl h ms l ((d,v)::s) q al):WR e ops Q tl h ms (o::l) s q al:=
 let ⟨h1,h2⟩:=Prod.mk.inj hm
 let ⟨h3,h4⟩:=Pi h1
 BQ (Aaq h2) h3 h4 k
theorem Wf{j off:Nat}(F:Gz e.P t j off)(hm:(wd o,fav s o)=(some d,some (t,j,p)))(k:WR e ops Q tl h ms l ((d,.pointer (some (p.add off)))::s) q al):WR e ops Q tl h ms (o::l) s q al:=
 let ⟨h1,h2⟩:=Prod.mk.inj hm
 let ⟨h3,h4⟩:=Pi h1
 BQ (oF F h2) h3 h4 k
theorem Wl(hm:(wd o,ldv s o)=(some d,some (t,p)))(ht:e.P.underlying t=some D)(hc:Cell h ms p v)(k:WR e ops Q tl h ms l ((d,v)::s) q al)(ha:Ie D=false:=by rfl):WR e ops Q tl h ms (o::l) s q al:=
 let ⟨h1,h2⟩:=Prod.mk.inj hm
 let ⟨h3,h4⟩:=Pi h1
 BQ (oL h2 ht hc ha) h3 h4 k
end
theorem OwnL.o1{α:Type _}{F:α->List Value}{sz:Nat}{el:TypeId}{m:Hp}{v:Value}{l:List α}(O:OwnL F sz el m v l):v.oneCell'=true:=(O.rd (h:=Hp.emp) (ms:=[m]) (List.Mem.head _)).rd.one
theorem BR{P:Program}{s:AE}{h:Hp}{ms:List Hp}{o:Oper}{v:Value}{sz n:Nat}{cs:List Value}{t el:TypeId}{x y:Operand}{z:Value}{bytes:Nat}{k:IntKind}{i:Int}(j:Nat)(R:Rd h ms v sz n cs)(ho:o.op=.indexAddr t x y)(ht:P.underlying t=some (.slice el))(hs:Elem P el sz z bytes)(hx:ev s x=some v)(hy:ev s y=some (.int k i))(hi:i=(j:Int):=by omega)(hlt:j<n:=by omega):OX P o s h ms (.pointer (some ((AI v).add (j*sz)))):=AM j R ho ht hs hx hy hi hlt
theorem AD{a b c:Hp}(x:a.le b)(y:b.le c):a.le c:=Hp.le_trans x y
theorem BD{a:Hp}:a.le a:=Hp.le_refl a
theorem Mh{α:Type _}{a:α}{l:List α}:a∈a::l:=List.Mem.head _
end Go.Eng
namespace Go.Proofs.Q
open Go.Proofs.Tryz
open Go.Eng Go.RowKit
section
open Go.Eng
theorem CK:prog.follows .mixedOrders=true:=by kernel_rfl
theorem Bp:Elem prog 3 1 (.int .i64 0) 8:=Elem.of κ
theorem el4:Elem prog 4 1 (.bool false) 1:=Elem.of κ
theorem XN:Elem prog 5 1 (.int .u8 0) 1:=Elem.of κ
theorem FA:Elem prog 22 1 (.slice none 0 0) 24:=Elem.of κ
theorem ZY:Elem prog 24 1 (.nilFunc) 8:=Elem.of κ
theorem Abx:Elem prog 25 1 (.slice none 0 0) 24:=Elem.of κ
theorem Bj:Elem prog 27 1 (.agg #[.slice none 0 0]) 24:=Elem.of κ
theorem RY:Elem prog 30 1 (.slice none 0 0) 24:=Elem.of κ
theorem Ay:Elem prog 33 2 (.agg #[.bool false,.string ByteArray.empty]) 24:=Elem.of κ
theorem FE:Elem prog 35 5 (.agg #[.bool false,.slice none 0 0,.slice none 0 0,.bool false,.string ByteArray.empty]) 80:=Elem.of κ
theorem AdF:Elem prog 48 1 (.slice none 0 0) 24:=Elem.of κ
theorem A5:Elem prog 50 3 (.agg #[.int .i64 0,.int .i64 0,.slice none 0 0]) 40:=Elem.of κ
theorem BX:Elem prog 52 2 (.agg #[.int .i64 0,.int .i64 0]) 16:=Elem.of κ
theorem Abb:Elem prog 74 1 (.map none) 8:=Elem.of κ
theorem Cx:Elem prog 79 3 (.agg #[.int .i64 0,.bool false,.string ByteArray.empty]) 32:=Elem.of κ
theorem FI:Elem prog 87 4 (.agg #[.slice none 0 0,.int .i64 0,.slice none 0 0,.slice none 0 0]) 80:=Elem.of κ
theorem Ec:Elem prog 89 1 (.slice none 0 0) 24:=Elem.of κ
theorem BM:Elem prog 91 3 (.agg #[.int .i64 0,.int .i64 0,.slice none 0 0]) 40:=Elem.of κ
theorem Aex:Elem prog 113 2 (.agg #[.int .i64 0,.int .i64 0]) 16:=Elem.of κ
theorem Cr:Elem prog 117 1 (.int .u64 0) 8:=Elem.of κ
theorem AeX:Elem prog 137 2 (.agg #[.map none,.slice none 0 0]) 32:=Elem.of κ
theorem KX:Elem prog 141 1 (.map none) 8:=Elem.of κ
theorem MJ:Elem prog 144 15 (.agg #[.int .i64 0,.int .i64 0,.slice none 0 0,.int .i64 0,.int .i64 0,.slice none 0 0,.int .i64 0,.int .i64 0,.slice none 0 0,.int .i64 0,.int .i64 0,.slice none 0 0,.int .i64 0,.int .i64 0,.slice none 0 0]) 200:=Elem.of κ
theorem Jh:Elem prog 146 16 (.agg #[.int .i64 0,.int .i64 0,.slice none 0 0,.int .i64 0,.int .i64 0,.slice none 0 0,.int .i64 0,.int .i64 0,.slice none 0 0,.int .i64 0,.int .i64 0,.slice none 0 0,.int .i64 0,.int .i64 0,.slice none 0 0,.slice none 0 0]) 224:=Elem.of κ
theorem Ac4:Elem prog 166 1 (.nilFunc) 8:=Elem.of κ
theorem Yx:Elem prog 170 1 (.slice none 0 0) 24:=Elem.of κ
theorem Ac5:Elem prog 208 1 (.map none) 8:=Elem.of κ
theorem Ac2:Elem prog 209 1 (.nilFunc) 8:=Elem.of κ
theorem Afc:Elem prog 223 5 (.agg #[.slice none 0 0,.slice none 0 0,.slice none 0 0,.slice none 0 0,.slice none 0 0]) 120:=Elem.of κ
theorem AeC:Elem prog 225 7 (.agg #[.slice none 0 0,.slice none 0 0,.slice none 0 0,.slice none 0 0,.slice none 0 0,.int .i64 0,.int .i64 0]) 136:=Elem.of κ
theorem DH:Elem prog 229 8 (.agg #[.bool false,.string ByteArray.empty,.bool false,.string ByteArray.empty,.bool false,.string ByteArray.empty,.bool false,.string ByteArray.empty]) 96:=Elem.of κ
theorem AbK:FX prog 27 #[(0,1)]:=⟨_,underlying27,λw=>by kernel_rfl⟩
theorem Jx:FX prog 33 #[(0,1),(1,1)]:=⟨_,underlying33,λw=>by kernel_rfl⟩
theorem Abc:FX prog 35 #[(0,1),(1,1),(2,1),(3,2)]:=⟨_,underlying35,λw=>by kernel_rfl⟩
theorem PD:FX prog 50 #[(0,1),(1,1),(2,1)]:=⟨_,underlying50,λw=>by kernel_rfl⟩
theorem XC:FX prog 52 #[(0,1),(1,1)]:=⟨_,underlying52,λw=>by kernel_rfl⟩
theorem AaW:FX prog 79 #[(0,1),(1,2)]:=⟨_,underlying79,λw=>by kernel_rfl⟩
theorem AbD:FX prog 87 #[(0,1),(1,1),(2,1),(3,1)]:=⟨_,underlying87,λw=>by kernel_rfl⟩
theorem Ad9:FX prog 91 #[(0,1),(1,1),(2,1)]:=⟨_,underlying91,λw=>by kernel_rfl⟩
theorem Ae4:FX prog 137 #[(0,1),(1,1)]:=⟨_,underlying137,λw=>by kernel_rfl⟩
theorem AeI:FX prog 144 #[(0,3),(3,3),(6,3),(9,3),(12,3)]:=⟨_,underlying144,λw=>by kernel_rfl⟩
theorem AeT:FX prog 146 #[(0,15),(15,1)]:=⟨_,underlying146,λw=>by kernel_rfl⟩
theorem AeH:FX prog 223 #[(0,1),(1,1),(2,1),(3,1),(4,1)]:=⟨_,underlying223,λw=>by kernel_rfl⟩
theorem Afe:FX prog 225 #[(0,5),(5,2)]:=⟨_,underlying225,λw=>by kernel_rfl⟩
theorem OJ:FX prog 229 #[(0,2),(2,2),(4,2),(6,2)]:=⟨_,underlying229,λw=>by kernel_rfl⟩
theorem Cz:Gz prog 27 0 0:=⟨_,_,_,underlying27,rfl,rfl,sizeOf25⟩
theorem Da:Gz prog 33 0 0:=⟨_,_,_,underlying33,rfl,rfl,sizeOf4⟩
theorem EJ:Gz prog 33 1 1:=⟨_,_,_,underlying33,rfl,rfl,sizeOf9⟩
theorem Ig:Gz prog 35 0 0:=⟨_,_,_,underlying35,rfl,rfl,sizeOf4⟩
theorem GS:Gz prog 35 1 1:=⟨_,_,_,underlying35,rfl,rfl,sizeOf30⟩
theorem GY:Gz prog 35 2 2:=⟨_,_,_,underlying35,rfl,rfl,sizeOf30⟩
theorem Is:Gz prog 35 3 3:=⟨_,_,_,underlying35,rfl,rfl,sizeOf33⟩
theorem Cm:Gz prog 50 0 0:=⟨_,_,_,underlying50,rfl,rfl,sizeOf3⟩
theorem B7:Gz prog 50 1 1:=⟨_,_,_,underlying50,rfl,rfl,sizeOf3⟩
theorem BT:Gz prog 50 2 2:=⟨_,_,_,underlying50,rfl,rfl,sizeOf48⟩
theorem CQ:Gz prog 52 0 0:=⟨_,_,_,underlying52,rfl,rfl,sizeOf3⟩
theorem Eh:Gz prog 52 1 1:=⟨_,_,_,underlying52,rfl,rfl,sizeOf3⟩
theorem Gg:Gz prog 79 0 0:=⟨_,_,_,underlying79,rfl,rfl,sizeOf3⟩
theorem GR:Gz prog 79 1 1:=⟨_,_,_,underlying79,rfl,rfl,sizeOf33⟩
theorem FB:Gz prog 87 0 0:=⟨_,_,_,underlying87,rfl,rfl,sizeOf27⟩
theorem M5:Gz prog 87 1 1:=⟨_,_,_,underlying87,rfl,rfl,sizeOf3⟩
theorem UJ:Gz prog 87 2 2:=⟨_,_,_,underlying87,rfl,rfl,sizeOf30⟩
theorem TO:Gz prog 87 3 3:=⟨_,_,_,underlying87,rfl,rfl,sizeOf30⟩
theorem EH:Gz prog 91 0 0:=⟨_,_,_,underlying91,rfl,rfl,sizeOf3⟩
theorem Dq:Gz prog 91 1 1:=⟨_,_,_,underlying91,rfl,rfl,sizeOf3⟩
theorem F8:Gz prog 91 2 2:=⟨_,_,_,underlying91,rfl,rfl,sizeOf89⟩
theorem GC:Gz prog 137 0 0:=⟨_,_,_,underlying137,rfl,rfl,sizeOf135⟩
theorem OW:Gz prog 137 1 1:=⟨_,_,_,underlying137,rfl,rfl,sizeOf22⟩
theorem Wt:Gz prog 144 0 0:=⟨_,_,_,underlying144,rfl,rfl,sizeOf91⟩
theorem Ws:Gz prog 144 2 6:=⟨_,_,_,underlying144,rfl,rfl,sizeOf91⟩
theorem Acs:Gz prog 144 3 9:=⟨_,_,_,underlying144,rfl,rfl,sizeOf91⟩
theorem Lp:Gz prog 146 0 0:=⟨_,_,_,underlying146,rfl,rfl,sizeOf144⟩
theorem V2:Gz prog 146 1 15:=⟨_,_,_,underlying146,rfl,rfl,sizeOf89⟩
theorem JT:Gz prog 223 0 0:=⟨_,_,_,underlying223,rfl,rfl,sizeOf220⟩
theorem Lr:Gz prog 223 1 1:=⟨_,_,_,underlying223,rfl,rfl,sizeOf220⟩
theorem D9:Gz prog 223 2 2:=⟨_,_,_,underlying223,rfl,rfl,sizeOf220⟩
theorem VV:Gz prog 223 3 3:=⟨_,_,_,underlying223,rfl,rfl,sizeOf220⟩
theorem U0:Gz prog 223 4 4:=⟨_,_,_,underlying223,rfl,rfl,sizeOf220⟩
theorem Cf:Gz prog 225 0 0:=⟨_,_,_,underlying225,rfl,rfl,sizeOf223⟩
theorem IC:Gz prog 225 1 5:=⟨_,_,_,underlying225,rfl,rfl,sizeOf113⟩
theorem Lj:Gz prog 229 0 0:=⟨_,_,_,underlying229,rfl,rfl,sizeOf33⟩
theorem Lq:Gz prog 229 1 2:=⟨_,_,_,underlying229,rfl,rfl,sizeOf33⟩
theorem LF:Gz prog 229 2 4:=⟨_,_,_,underlying229,rfl,rfl,sizeOf33⟩
theorem Lw:Gz prog 229 3 6:=⟨_,_,_,underlying229,rfl,rfl,sizeOf33⟩
theorem U3:type_of% @Tryz.underlying3:=@Tryz.underlying3
theorem U4:type_of% @Tryz.underlying4:=@Tryz.underlying4
theorem U5:type_of% @Tryz.underlying5:=@Tryz.underlying5
theorem U9:type_of% @Tryz.underlying9:=@Tryz.underlying9
theorem A9:type_of% @Tryz.underlying22:=@Tryz.underlying22
theorem U24:type_of% @Tryz.underlying24:=@Tryz.underlying24
theorem Cb:type_of% @Tryz.underlying25:=@Tryz.underlying25
theorem Dz:type_of% @Tryz.underlying27:=@Tryz.underlying27
theorem CV:type_of% @Tryz.underlying30:=@Tryz.underlying30
theorem BC:type_of% @Tryz.underlying33:=@Tryz.underlying33
theorem U35:type_of% @Tryz.underlying35:=@Tryz.underlying35
theorem C0:type_of% @Tryz.underlying48:=@Tryz.underlying48
theorem Jq:type_of% @Tryz.underlying50:=@Tryz.underlying50
theorem Ye:type_of% @Tryz.underlying52:=@Tryz.underlying52
theorem IU:type_of% @Tryz.underlying74:=@Tryz.underlying74
theorem U79:type_of% @Tryz.underlying79:=@Tryz.underlying79
theorem JF:type_of% @Tryz.underlying83:=@Tryz.underlying83
theorem Yf:type_of% @Tryz.underlying87:=@Tryz.underlying87
theorem CG:type_of% @Tryz.underlying89:=@Tryz.underlying89
theorem HQ:type_of% @Tryz.underlying91:=@Tryz.underlying91
theorem UI:type_of% @Tryz.underlying113:=@Tryz.underlying113
theorem Fp:type_of% @Tryz.underlying117:=@Tryz.underlying117
theorem Jc:type_of% @Tryz.underlying135:=@Tryz.underlying135
theorem HN:type_of% @Tryz.underlying141:=@Tryz.underlying141
theorem AeQ:type_of% @Tryz.underlying144:=@Tryz.underlying144
theorem Aen:type_of% @Tryz.underlying146:=@Tryz.underlying146
theorem Cp:type_of% @Tryz.underlying164:=@Tryz.underlying164
theorem Afv:type_of% @Tryz.underlying166:=@Tryz.underlying166
theorem Xx:type_of% @Tryz.underlying168:=@Tryz.underlying168
theorem HT:type_of% @Tryz.underlying170:=@Tryz.underlying170
theorem Tf:type_of% @Tryz.underlying183:=@Tryz.underlying183
theorem PP:type_of% @Tryz.underlying185:=@Tryz.underlying185
theorem Aez:type_of% @Tryz.underlying204:=@Tryz.underlying204
theorem AeW:type_of% @Tryz.underlying206:=@Tryz.underlying206
theorem Ado:type_of% @Tryz.underlying207:=@Tryz.underlying207
theorem I9:type_of% @Tryz.underlying208:=@Tryz.underlying208
theorem AeV:type_of% @Tryz.underlying209:=@Tryz.underlying209
theorem Acg:type_of% @Tryz.underlying219:=@Tryz.underlying219
theorem CI:type_of% @Tryz.underlying220:=@Tryz.underlying220
theorem Lf:type_of% @Tryz.underlying229:=@Tryz.underlying229
end
section
def Cc(n:Int):Prop:=-9223372036854775808<=n/\n<=9223372036854775807
instance (n:Int):Decidable (Cc n):=by unfold Cc;infer_instance
theorem Ea{P:Program}{f:FuncId}{args:Array Value}{h:Hp}{v:Value}(k:FnT P f args h [] (λr _ _=>r=v))(ms:List Hp):FnV P f args h ms v:=by refine λw hw=>(?_:FnV _ _ _ h [] _) w (hw.weaken (BD) (List.nil_sublist _));exact FnT.toV k
theorem Db{a b:Nat}(h:(a:Int)<b):a<b:=ω
def cD(s:Int×Int):List Value:=[.int .i64 s.1,.int .i64 s.2]
theorem Gm:∀s,(cD s).length=2:=λ_=>rfl
theorem Mp:∀a,∀c∈cD a,c.oneCell'=true:=λa c hc=>by simp only[cD,bi,gx,gu]at hc;rcases hc with rfl|rfl<;>rfl
structure Cl where
 id:Int
 dim:Int
 sd:List (Int×Int)
 deriving DecidableEq,Inhabited
structure Ce where
 c:Cl
 v:Value
instance:Inhabited Ce:=⟨⟨default,.slice none 0 0⟩⟩
def cC(a:Ce):List Value:=[.int .i64 a.c.id,.int .i64 a.c.dim,a.v]
theorem DN:∀a,(cC a).length=3:=λ_=>rfl
structure RdC(h:Hp)(v:Value)(l:List Ce):Prop where
 q:RdL cC 3 h [] v l
 s:∀a∈l,RdL cD 2 h [] a.v a.c.sd
theorem RdC.up{h h':Hp}{v:Value}{l:List Ce}(R:RdC h v l)(hl:h.le h'):RdC h' v l:=⟨R.q.up hl,λa ha=>(R.s a ha).up hl⟩
theorem GN{h:Hp}{l:List Ce}(H:∀a∈l,RdL cD 2 h [] a.v a.c.sd):∀a∈l,∀c∈cC a,c.oneCell'=true:=λa ha c hc=>by
 simp only[cC,bi,gx,gu]at hc;rcases hc with rfl|rfl|rfl
 ·rfl
 ·rfl
 ·exact(H a ha).rd.one
def JE(x:Int×Int)(l:List (Int×Int)):List (Int×Int):=l.takeWhile (λy=>decide (y.1<=x.1))++x::l.dropWhile (λy=>decide (y.1<=x.1))
def Dp(l:List (Int×Int)):List (Int×Int):=l.foldl (λacc x=>JE x acc) []
theorem Fb{α:Type}(p:α->Bool):∀(l:List α) (k:Nat),k<=l.length->(∀j (hj:j<l.length),j<k->p l[j]=true)->(∀hk:k<l.length,p l[k]=false)->l.takeWhile p=l.take k/\l.dropWhile p=l.drop k
 | [],k,hk,_,_=>by simp
 | a::l,0,_,_,h=>by have:=h σ;simp only[List.getElem_cons_zero]at this;simp[List.takeWhile,List.dropWhile,this]
 | a::l,k+1,hk,h1,h2=>by
  have h3:p a=true:=h1 0 σ ω
  have ih:=Fb p l k (by simpa using hk) (λj hj hjk=>by
   have:=h1 (j+1) (by simpa using hj) ω
   simpa using this) (λhk=>by
   have:=h2 (by simpa using hk)
   simpa using this)
  simp[List.takeWhile,List.dropWhile,h3,ih.1,ih.2]
theorem UU{x:Int×Int}{l:List (Int×Int)}{k:Nat}(hk:k<=l.length)(h1:∀j (hj:j<l.length),j<k->l[j].1<=x.1)(h2:∀hk:k<l.length,¬l[k].1<=x.1):JE x l=l.take k++x::l.drop k:=by obtain⟨e1,e2⟩:=Fb (λy=>decide (y.1<=x.1)) l k hk (λj hj hjk=>bm (h1 j hj hjk)) (λhk=>b7 (h2 hk));unfold JE;rw[e1,e2]
theorem Ym(x:Int×Int)(l:List (Int×Int)):(JE x l).length=l.length+1:=by unfold JE;have:=congrArg List.length (List.takeWhile_append_dropWhile (p:=fun y:Int×Int=>decide (y.1<=x.1)) (l:=l));rw[length_append]at this;rw[length_append,length_cons];omega
theorem SR(l:List (Int×Int))(x:Int×Int):Dp (l++[x])=JE x (Dp l):=by unfold Dp;rw[foldl_append];rfl
theorem Hy(l:List (Int×Int)):(Dp l).length=l.length:=by
 have go:∀(l acc:List (Int×Int)),(l.foldl (λacc x=>JE x acc) acc).length=acc.length+l.length:=λl=>by
  induction l with
  | nil=>intro acc;rfl
  | cons x l ih=>intro acc;rw[List.foldl_cons,ih,Ym,length_cons];omega
 have:=go l [];rw[fd,Nat.zero_add]at this;exact this
theorem Ib{α:Type}{F:α->List Value}{sz:Nat}{el:TypeId}(g:Nat)(hF:∀x,(F x).length=sz):OwnL F sz el (BL g el []) (.slice (some ⟨g,0,none⟩) 0 0) ([]:List α):=OwnL.blk (l:=[]) 0 hF rfl δ
theorem Rk(l:List (Int×Int))(v:Value)(h:Hp)(hl:l.length<=100000)(hR:RdL cD 2 h [] v l):FnT Tryz.prog 80 #[v] h [] (λr h' ms'=>h=h'/\∃m,ms'=[m]/\OwnL cD 2 52 m r (Dp l)):=by
 have o1:=hR.rd.one;refine Ao func80 ntmps80 Y Y (λw0 hw0=>?_);simp only[AS];refine As (Qm Y (Bw (Qm Y (An (Ac (As (Qm Y (An (Af (B8 ?_))))))))))
 refine AC (λq s h' ms'=>∃(i:Nat) (vo:Value) (mo:Hp),q=l.length-i/\s=[(0,v),(3,vo),(4,.w i)]/\h=h'/\ms'=[mo]/\i<=l.length/\OwnL cD 2 52 mo vo (Dp (l.take i)))
  (l.length-0) _ ⟨0,_,_,rfl,rfl,rfl,rfl,ω,OwnL.nil Gm⟩ Qs ?_
 rintro q s h' ms' ⟨i,vo,mo,rfl,rfl,rfl,rfl,hi,hO⟩;have hsl:=Hy (l.take i);rw[bh]at hsl;refine Ac (As (Qm Y (Qm Y (Qx (Aq hR.rd.any Y C0 Y) Y (Qm Y (An ?_))))));refine Ax Y (λhlt=>?_) (λhlt=>?_)
 ·have hil:i<l.length:=Db hlt;have ovo:=hO.o1;have hseg:∀ms,Seg h ms ((AI v).add (i*2)) (cD l[i]):=λms=>(hR.any (ms:=ms)).seg hil;obtain⟨out,hout⟩:∃out,Dp (l.take i)=out:=⟨_,Y⟩
  rw[hout]at hO hsl;refine Ah (Ab (Ac (Af (As (Qm Y (An ?_))))));have hcl:=hO.rd (h:=h) (ms:=[mo]) Mh;have hout2:=hcl.len_le;have htk:Dp (l.take (i+1))=JE l[i] out:=by rw[am hil,SR,hout]
  refine Bt (λs h' ms'=>∃(k:Nat),s=[(0,v),(3,vo),(4,.w i),(5,.w k)]/\h=h'/\ms'=[mo]/\k<=out.length/\JE l[i] out=out.take k++l[i]::out.drop k) ?_ (λs h ms hI=>?_)
  ·refine Af ?_
   refine AC (λq s h' ms'=>∃(k:Nat),q=out.length-k/\s=[(0,v),(3,vo),(4,.w i),(5,.w k)]/\h=h'/\ms'=[mo]/\k<=out.length/\∀j (hj:j<out.length),j<k->out[j].1<=l[i].1)
    (out.length-0) _ ⟨0,rfl,rfl,rfl,rfl,ω,λj hj h=>ω⟩ Qs ?_
   rintro q s h' ms' ⟨k,rfl,rfl,rfl,rfl,hk,hlo⟩;refine Ac (Ac (BP 15 CK κ Y (Wm Y (Wm Y (BQ (Aq hcl.rd Y C0 Y) Y Y (Wm Y (Wm Y ?_)))))));refine C8 (t:=17) Y (λhs1=>?_) (λhs1=>?_)
   ·have hkl:k<out.length:=Db hs1;have hck:Cell h [mo] ((AI vo).add (k*2)) (.w out[k].1):=hcl.cell0 hkl Y;have hci:Cell h [mo] ((AI v).add (i*2)) (.w l[i].1):=hR.any.cell0 hil Y;refine AQ (Ar Y Y) Y Y Y Y (AQ (Ar Y Y) Y Y Y Y (AQ (BR (k) hcl.rd Y C0 BX Y Y) Y Y Y Y (AQ (oF CQ Y) Y Y Y Y (AQ (oL Y U3 (hck)) Y Y Y Y (AQ (Ar Y Y) Y Y Y Y (AQ (Ar Y Y) Y Y Y Y (AQ (BR (i) hR.rd.any Y C0 BX Y Y) Y Y Y Y (AQ (oF CQ Y) Y Y Y Y (AQ (oL Y U3 (hci)) Y Y Y Y (BB (Qg (Uj Y Y Y) Y (Qm Y (An ?_)))))))))))));refine Ax Y (λhs2=>?_) (λhs2=>?_)
    ·refine Ah (Ab (Af (Ad (Qm Y (Qx (oA Y) Y (Qm Y (Am (Ai ?_))))))))
     exact Ap (out.length-(k+1)) _ ω ⟨k+1,Y,Y,Y,Y,ω,λj hj h=>by
      rcases (ω:j<k\/j=k) with h1|rfl
      ·exact hlo j hj h1
      ·exact hs2⟩ Qs
    ·refine AA (Aa (Aa (Ag ?_)));exact AH _ ⟨k,Y,Y,Y,hk,UU hk hlo λ_=>hs2⟩ Qs
   ·have hkl:k=out.length:=ω
    refine AG Y Y Y Y Y (AG Y Y Y Y Y (AG Y Y Y Y Y (AG Y Y Y Y Y (AG Y Y Y Y Y (AG Y Y Y Y Y (AG Y Y Y Y Y (AG Y Y Y Y Y (AG Y Y Y Y Y (AG Y Y Y Y Y (BB (Qk Y (Qm Y (An (AN Y (AA (Aa (Aa (Ag ?_))))))))))))))))));exact AH _ ⟨k,Y,Y,Y,hk,UU hk hlo λh=>ib h ω⟩ Qs
  ·obtain⟨k,rfl,rfl,rfl,hk,hins⟩:=hI;refine Ac (BP 8 CK κ rfl (Wm rfl (Wm rfl (BQ (BR (i) hR.rd.any rfl C0 BX rfl rfl) rfl rfl (BQ (oG rfl Ye BX (hseg _)) rfl rfl (AeG (HJ [_,_] rfl C0 BX rfl (by rfl) rfl rfl ω) rfl rfl (Wm rfl (Wm rfl (BQ (DL (k) hcl.rd rfl C0 BX rfl rfl ω ω) rfl rfl (Vy (λg36=>AL 0 (OwnL.blk (g:=g36) (el:=52) (F:=cD) (l:=[l[i]]) 1 Gm rfl δ) ((hO.rd (h:=h) (List.Mem.tail _ Mh)).sub_ hk (ak _)) rfl C0 BX rfl ω rfl rfl rfl Mp (by(try simp only[ae,fd,ag,bh,cg,aw]);omega) (by(try simp only[ae,fd,ag,bh,cg,aw]);omega) rfl rfl rfl (λv6 m6 hO6=>?_))))))))))));have ov6:=hO6.o1;refine Qm rfl (GM ?_);refine AJ [] [] [] rfl C0 BX rfl ω κ (by repeat (first|exact eo|refine⟨⟨by first|rfl|exact(hcl.rd).cells|exact Rd.cells ‹_›|exact(RdL.rd ‹_›).cells,rfl,rfl⟩,?_⟩)) rfl rfl rfl rfl (λg41=>?_);refine Qm rfl (Qm rfl (Qx (HX (k) hcl.rd rfl C0 BX rfl rfl ω ω) rfl (AL 0 (Ib g41 Gm) ((hO.rd (h:=h) (List.Mem.tail _ (List.Mem.tail _ Mh))).sub_ (Nat.zero_le _) hk) rfl C0 BX rfl ω rfl rfl rfl Mp (by(try simp only[ae,fd,ag,bh,cg,aw]);omega) (by(try simp only[ae,fd,ag,bh,cg,aw]);omega) rfl rfl rfl (λv7 m7 hO7=>Qm rfl (AL 0 hO7 (hO6.rd (h:=h) (List.Mem.tail _ Mh)) rfl C0 BX rfl ω rfl rfl rfl Mp (by(try simp only[ae,fd,ag,bh,cg,aw]);omega) (by(try simp only[ae,fd,ag,bh,cg,aw]);omega) rfl rfl rfl (λv8 m8 hO8=>?_))))))
   have he:[]++(out.drop 0).take (k-0)++([l[i]]++(out.drop k).take (out.length-k))=Dp (l.take (i+1)):=by rw[htk,hins,List.drop_zero,Nat.sub_zero,f5 (l:=out.drop k) (by rw[cg];omega)];rfl
   rw[he]at hO8;refine Qm Y (Am (Ai (Ab (Ad (Qm Y (Qx (oA Y) Y (Qm Y (Am ?_))))))));refine II (List.perm_append_comm (l₁:=[m8]) (l₂:=[m6,mo])) (AR (AR ?_));exact Ap (l.length-(i+1)) _ ω ⟨i+1,v8,m8,Y,Y,Y,Y,ω,hO8⟩ Qs
 ·have hil:i=l.length:=ω
  rw[hil,List.take_length]at hO;refine AA (Aa (Aa (Ag (Ab (As (Qm Y (Qm Y (An (Aj ?_)))))))));exact Al Y Y (⟨Y,mo,Y,hO⟩)
open Go.Lin
theorem P9(i j:Nat)(h:i+j<4611686018427387904):IntKind.i64.wrap (((i+j)%((2:Int)^IntKind.u64.bits).natAbs/2^1:Nat):Int)=(((i+j)/2:Nat):Int):=by
 have e1:(2^IntKind.u64.bits:Int).natAbs=18446744073709551616:=by decide
 rw[e1,cw ω];show IntKind.i64.wrap (((i+j)/2:Nat):Int)=_;unfold IntKind.wrap;simp[IntKind.bits,IntKind.signed];omega
def c3(x y:Int):Int:=if x<y then -1 else if y<x then 1 else 0
theorem Ac6(x y:Int):c3 x y<0<->x<y:=by
 unfold c3
 repeat' split
 all_goals omega
theorem VZ(x:Int)(h:Hp)(ms:List Hp):FnV Tryz.prog 176 #[.int .i64 x] h ms (.bool false):=by refine Ea ?_ ms;refine Ao func176 ntmps176 Y Y (λw0 hw0=>?_);simp only[AS];refine As (Qm Y (Bw (Qm Y (Qm Y (Qm Y (Qm Y (An (Aj ?_))))))));exact Al Y Y σ
theorem NQ(x y:Int)(h:Hp)(ms:List Hp):FnV Tryz.prog 215 #[.int .i64 x,.int .i64 y] h ms (.int .i64 (c3 x y)):=by
 refine Ea ?_ ms;refine Ao func215 ntmps215 Y Y (λw0 hw0=>?_);simp only[AS];refine As (Qm Y (Bw (Qm Y (Qx (Au Y call176 Y (VZ _ _ _)) Y (Qm Y (Bw (Qm Y (Qx (Au Y call176 Y (VZ _ _ _)) Y (Qm Y (An (Ac (As (Qm Y (An (AN Y (Ah (Ab (Ac (As (Qm Y (An (AN Y (Ah (Ab (Ac (As (Qm Y (Qm Y (Qm Y (An ?_))))))))))))))))))))))))))))));refine Ax Y (λh1=>?_) (λh1=>?_)
 ·refine Ac (Ad (Qm Y (An (Aj (Ae ?_)))));exact Al Y Y (by unfold c3;rw[af h1])
 ·refine Ah (Ab (Ac (As (Qm Y (Qm Y (Qm Y (An ?_)))))));refine Ax Y (λh2=>?_) (λh2=>?_)
  ·refine Ac (Ad (Qm Y (An (Aj (Ae ?_)))));exact Al Y Y (by unfold c3;rw[ab h1,af h2])
  ·refine Ah (Ab (As (Qm Y (An (Aj ?_)))));exact Al Y Y (by unfold c3;rw[ab h1,ab h2])
structure CeO where
 c:Cl
 v:Value
 one:v.oneCell'=true
instance:Inhabited CeO:=⟨⟨default,.slice none 0 0,rfl⟩⟩
def TT(a:CeO):List Value:=[.int .i64 a.c.id,.int .i64 a.c.dim,a.v]
theorem Py:∀a,(TT a).length=3:=λ_=>rfl
theorem Acz(s:CeO):∀c∈TT s,c.oneCell'=true:=λc hc=>by
 simp only[TT,bi,gx,gu]at hc;rcases hc with rfl|rfl|rfl
 ·rfl
 ·rfl
 ·exact s.one
abbrev SdE:=Int×Int
def Uw(g:Nat):Value:=.func (.func 214) #[] #[.pointer (some ⟨g,0,none⟩)]
def cvD(g:Nat):Value:=.func (.func 218) #[] #[.pointer (some ⟨g,0,none⟩)]
def fkC:Value:=.func (.func 169) #[] #[]
def fkD:Value:=.func (.func 171) #[] #[]
def W5(h:Hp)(g:Nat):Prop:=∀ms,Cell h ms (⟨g,0,none⟩:Addr) fkC
def AaF(h:Hp)(g:Nat):Prop:=∀ms,Cell h ms (⟨g,0,none⟩:Addr) fkD
theorem Ac3(x:CeO)(h:Hp)(ms:List Hp):FnV Tryz.prog 169 #[.agg (TT x).toArray] h ms (.int .i64 x.c.id):=by refine Ea ?_ ms;have o1:=x.one;show FnT _ _ #[.agg #[.int .i64 x.c.id,.int .i64 x.c.dim,x.v]] _ _ _;refine Ao func169 ntmps169 Y Y (λw0 hw0=>?_);simp only[AS];refine As (AK [_,_,_] Y Y (by rfl) Y Y Y (λg1=>Qm Y (Bw (Qf Cm Y (Ql Y U3 (Cell.blk 0 Y Y) (Qm Y (An (Aj ?_))))))));exact Al Y Y (Y)
theorem Ac9(x:SdE)(h:Hp)(ms:List Hp):FnV Tryz.prog 171 #[.agg (cD x).toArray] h ms (.int .i64 x.1):=by refine Ea ?_ ms;show FnT _ _ #[.agg #[.int .i64 x.1,.int .i64 x.2]] _ _ _;refine Ao func171 ntmps171 Y Y (λw0 hw0=>?_);simp only[AS];refine As (AK [_,_] Y Y (by rfl) Y Y Y (λg1=>Qm Y (Bw (Qf CQ Y (Ql Y U3 (Cell.blk 0 Y Y) (Qm Y (An (Aj ?_))))))));exact Al Y Y (Y)
theorem PV(x y:CeO)(h:Hp)(g:Nat)(hg:W5 h g)(ms:List Hp):FnV Tryz.prog 214 #[.agg (TT x).toArray,.agg (TT y).toArray,.pointer (some ⟨g,0,none⟩)] h ms (.int .i64 (c3 x.c.id y.c.id)):=by refine Ea ?_ ms;have o1:=x.one;have o2:=y.one;show FnT _ _ #[.agg #[.int .i64 x.c.id,.int .i64 x.c.dim,x.v],.agg #[.int .i64 y.c.id,.int .i64 y.c.dim,y.v],.pointer (some ⟨g,0,none⟩)] _ _ _;refine Ao func214 ntmps214 Y Y (λw0 hw0=>?_);simp only[AS];refine As (AK [_,_,_] Y Y (by rfl) Y Y Y (λg3=>AK [_,_,_] Y Y (by rfl) Y Y Y (λg4=>Qm Y (An (AF λh1 l1 hG4=>(AF λh2 l2 hG3=>?_))))));have hG4:=hG4.le l2;have hgk:∀ms,Cell h2 ms (⟨g,0,none⟩:Addr) fkC:=λms=>(hg ms).le (AD l1 l2);refine Ac (BP 5 CK κ Y (Wl Y Aez (hgk _) (BQ (oG Y Jq A5 (Seg.any hG3)) Y Y (BQ (CC Y Y call169 Y ((Ac3 x _ _))) Y Y (Wl Y Aez (hgk _) (BQ (oG Y Jq A5 (Seg.any hG4)) Y Y (BB (Qx (CC Y Y call169 Y ((Ac3 y _ _))) Y (Qx (Au Y call215 Y (NQ _ _ _ _)) Y (Qm Y (An (Aj ?_))))))))))));exact Al Y Y (Y)
theorem AdC(x y:SdE)(h:Hp)(g:Nat)(hg:AaF h g)(ms:List Hp):FnV Tryz.prog 218 #[.agg (cD x).toArray,.agg (cD y).toArray,.pointer (some ⟨g,0,none⟩)] h ms (.int .i64 (c3 x.1 y.1)):=by refine Ea ?_ ms;show FnT _ _ #[.agg #[.int .i64 x.1,.int .i64 x.2],.agg #[.int .i64 y.1,.int .i64 y.2],.pointer (some ⟨g,0,none⟩)] _ _ _;refine Ao func218 ntmps218 Y Y (λw0 hw0=>?_);simp only[AS];refine As (AK [_,_] Y Y (by rfl) Y Y Y (λg3=>AK [_,_] Y Y (by rfl) Y Y Y (λg4=>Qm Y (An (AF λh1 l1 hG4=>(AF λh2 l2 hG3=>?_))))));have hG4:=hG4.le l2;have hgk:∀ms,Cell h2 ms (⟨g,0,none⟩:Addr) fkD:=λms=>(hg ms).le (AD l1 l2);refine Ac (BP 5 CK κ Y (Wl Y AeW (hgk _) (BQ (oG Y Ye BX (Seg.any hG3)) Y Y (BQ (CC Y Y call171 Y ((Ac9 x _ _))) Y Y (Wl Y AeW (hgk _) (BQ (oG Y Ye BX (Seg.any hG4)) Y Y (BB (Qx (CC Y Y call171 Y ((Ac9 y _ _))) Y (Qx (Au Y call215 Y (NQ _ _ _ _)) Y (Qm Y (An (Aj ?_))))))))))));exact Al Y Y (Y)
end
abbrev OLC(m:Hp)(v:Value)(l:List CeO):Prop:=OwnL TT 3 50 m v l
abbrev IncC(l:List CeO):Prop:=l.Pairwise λa b=>a.c.id<=b.c.id
theorem IncC.at{l:List CeO}(S:IncC l){i j:Nat}(hi:i<l.length)(hj:j<l.length)(h:i<=j):¬c3 l[j].c.id l[i].c.id<0:=by
 rw[Ac6];rcases fz i j with h'|h'
 ·have:=cm.1 S i j hi hj h';omega
 ·have e:i=j:=ω
  subst e;omega
theorem VG(l:List CeO)(v:Value)(m:Hp)(hO:OLC m v l)(S:IncC l)(a b:Nat)(hab:a<=b)(hb:b<=l.length)(hsz:l.length<=1000000)(h:Hp)(g:Nat)(hg:W5 h g){a' b':Int}(ea:a'=a)(eb:b'=b) :
  FnT Tryz.prog 262 #[v,.w a',.w b',(Uw g)] h [m] (λ_ h' ms'=>h=h'/\ms'=[m]):=by
 subst ea eb;refine Ao func262 ntmps262 Y Y (λw0 hw0=>?_);simp only[AS];refine As (Qm Y (Qx (oA Y) Y (Qm Y (An (Af ?_)))))
 refine AC (λn s h' ms'=>∃(i:Nat) (z:Int),n=b-i/\s=[(0,v),(1,.w a),(2,.w b),(3,(Uw g)),(8,.w z)]/\h=h'/\ms'=[m]/\z=i/\a<i/\i<=4611686018427387905)
  _ _ ⟨a+1,(a:Int)+1,rfl,rfl,rfl,rfl,ω,ω,ω⟩ Qs ?_
 rintro n s h' ms' ⟨i,z,rfl,rfl,rfl,rfl,hz,hai,hi⟩;refine Ac (As (Qm Y (Qm Y (Qm Y (An ?_)))));refine Ax Y (λhlt=>?_) (λhlt=>?_)
 ·refine Ah (Ab (Ac (Af (As (Qm Y (Qm Y (An (Af ?_))))))))
  refine AC (λn s h' ms'=>n=0/\s=[(0,v),(1,.w a),(2,.w b),(3,(Uw g)),(8,.w z),(9,.w z)]/\h=h'/\ms'=[m])
   0 _ ⟨rfl,rfl,rfl,rfl⟩ Qs ?_
  rintro n s h' ms' ⟨rfl,rfl,rfl,rfl⟩;have hil:i<l.length:=ω
  have hn:=S.at (i:=i-1) ω hil ω;refine Ac (Ac (BP 14 CK κ Y (Wm Y (Wm Y (Wm Y (Wm Y ?_))))));refine C8 (t:=21) Y (λhja=>?_) (λhja=>?_)
  ·refine AQ (Ar Y Y) Y Y Y Y (AQ (Ar Y Y) Y Y Y Y (AQ (Ar Y Y) Y Y Y Y (AQ (AM (i) (hO.rd (.head _)).rd Y Cb A5 Y Y ω ω) Y Y Y Y (AQ (oG Y Jq A5 ((hO.rd (.head _)).seg ω)) Y Y Y Y (AQ (Ar Y Y) Y Y Y Y (AQ (Ar Y Y) Y Y Y Y (AQ (oS Y) Y Y Y Y (AQ (AM (i-1) (hO.rd (.head _)).rd Y Cb A5 Y Y ω ω) Y Y Y Y (AQ (oG Y Jq A5 ((hO.rd (.head _)).seg ω)) Y Y Y Y (BB (Qg (CC Y Y call214 Y (PV _ _ _ g hg _)) Y (Qg (DB Y Y Y) Y (Qm Y (An ?_))))))))))))));refine Ct Y (λhl=>?_) (λhl=>?_)
   ·exact ib (du hl) hn
   ·refine AA (Aa (Aa (Ag (Ai (Ab (Ad (Qm Y (Qx (oA Y) Y (Qm Y (Am ?_))))))))));exact Ap (b-(i+1)) _ ω ⟨i+1,z+1,Y,Y,Y,Y,ω,ω,ω⟩ Qs
  ·exfalso;omega
 ·refine AA (Aa (Aa (Ag ?_)));exact CA Y (⟨Y,Y⟩)
theorem Vh:∀(N:Nat) (l:List CeO) (v:Value) (m:Hp) (hO:OLC m v l) (S:IncC l) (a t b:Nat) (hN:b-a<=N) (hat:a<t) (htb:t<b) (hb:b<=l.length) (hsz:l.length<=1000000) (h:Hp) (g:Nat) (hg:W5 h g) {a' t' b':Int} (ea:a'=a) (et:t'=t) (eb:b'=b),
  FnT Tryz.prog 263 #[v,.w a',.w t',.w b',(Uw g)] h [m] (λ_ h' ms'=>h=h'/\ms'=[m]):=by
 intro N
 induction N with
 | zero=>intro l v m hO S a t b hN hat htb;omega
 | succ N ih=>
 intro l v m hO S a t b hN hat htb hb hsz h g hg a' t' b' ea et eb;subst ea et eb;refine Ao func263 ntmps263 Y Y (λw0 hw0=>?_);simp only[AS];refine Ac (As (Qm Y (Qm Y (Qx (oS Y) Y (Qm Y (An ?_))))));refine Ax Y (λh1=>?_) (λh1=>?_)
 ·-- one element on the left
  obtain rfl:t=a+1:=ω
  refine As (Qm Y (Qm Y (Bw (Qm Y (Qm Y (An (Ac (Af ?_))))))))
  refine AC (λn s h' ms'=>∃(j:Nat),n=j-(a+1)/\s=[(0,v),(1,.w a),(4,(Uw g)),(10,.w ((a+1:Nat):Int)),(11,.w j)]/\h=h'/\ms'=[m]/\a+1<=j/\j<=b)
   (b-(a+1)) _ ⟨b,rfl,rfl,rfl,rfl,ω,ω⟩ Qs ?_
  rintro n s h' ms' ⟨j,rfl,rfl,rfl,rfl,hij,hj⟩;refine Ac (As (Qm Y (Qm Y (Qm Y (An ?_)))));refine Ax Y (λhlt=>?_) (λhlt=>?_)
  ·have hn:=S.at (i:=a) (j:=(a+1+j)/2) ω ω ω;refine Ah (Ab (Af (As (Qm Y (Qm Y (Qx (oA Y) Y (Qx (Ei Y U3 Tf Y) Y (Qx (GH (n:=1) Y Y Y ω) Y (Qx (Ei Y Tf U3 Y) Y (Qm Y (An ?_)))))))))));rw[P9 (a+1) j ω];refine Ac (BP 9 CK κ Y (Wm Y (Wm Y (Wm Y (BQ (AM ((a+1+j)/2) (hO.rd (.head _)).rd Y Cb A5 Y Y ω ω) Y Y (BQ (oG Y Jq A5 ((hO.rd (.head _)).seg ω)) Y Y (Wm Y (Wm Y (BQ (AM (a) (hO.rd (.head _)).rd Y Cb A5 Y Y ω ω) Y Y (BQ (oG Y Jq A5 ((hO.rd (.head _)).seg ω)) Y Y (BB (Qx (CC Y Y call214 Y (PV _ _ _ g hg _)) Y (Qm Y (An ?_))))))))))))));refine Ct Y (λhl=>?_) (λhl=>?_)
   ·exact ib (du hl) hn
   ·refine Ad (Qm Y (Qm Y (Am (Ai ?_))));exact Ap ((a+1+j)/2-(a+1)) _ ω ⟨(a+1+j)/2,Y,Y,Y,Y,ω,ω⟩ Qs
  ·refine AA (Aa (Aa (Ag (Ab (Ac (As (Qm Y (Qm Y (An (Af ?_))))))))))
   refine AC (λn s h' ms'=>n=0/\s=[(0,v),(10,.w ((a+1:Nat):Int)),(13,.w a)]/\h=h'/\ms'=[m])
    0 _ ⟨rfl,rfl,rfl,rfl⟩ Qs ?_
   rintro n s h' ms' ⟨rfl,rfl,rfl,rfl⟩;refine Ac (As (Qm Y (Qm Y (Qx (oS Y) Y (Qm Y (An ?_))))));refine Ax Y (λhltk=>?_) (λhltk=>?_)
   ·exfalso;omega
   ·refine AA (Aa (Aa (Ag (Ab (Aj (Ae ?_))))));exact JZ Y (⟨Y,Y⟩)
 ·refine Ah (Ab (Ac (As (Qm Y (Qm Y (Qx (oS Y) Y (Qm Y (An ?_))))))));refine Ax Y (λh2=>?_) (λh2=>?_)
  ·-- one element on the right
   obtain rfl:b=t+1:=ω
   refine As (Qm Y (Qm Y (Bw (Qm Y (Qm Y (An (Ac (Af ?_))))))))
   refine AC (λn s h' ms'=>∃(i:Nat),n=t-i/\s=[(0,v),(1,.w a),(2,.w t),(4,(Uw g)),(14,.w i),(15,.w t)]/\h=h'/\ms'=[m]/\i<=t)
    (t-a) _ ⟨a,rfl,rfl,rfl,rfl,ω⟩ Qs ?_
   rintro n s h' ms' ⟨i,rfl,rfl,rfl,rfl,hj⟩;refine Ac (As (Qm Y (Qm Y (Qm Y (An ?_)))));refine Ax Y (λhlt=>?_) (λhlt=>?_)
   ·have hn:=S.at (i:=(i+t)/2) (j:=t) ω ω ω;refine Ah (Ab (Af (As (Qm Y (Qm Y (Qx (oA Y) Y (Qx (Ei Y U3 Tf Y) Y (Qx (GH (n:=1) Y Y Y ω) Y (Qx (Ei Y Tf U3 Y) Y (Qm Y (An ?_)))))))))));rw[P9 i t ω];refine Ac (BP 9 CK κ Y (Wm Y (Wm Y (Wm Y (BQ (AM (t) (hO.rd (.head _)).rd Y Cb A5 Y Y ω ω) Y Y (BQ (oG Y Jq A5 ((hO.rd (.head _)).seg ω)) Y Y (Wm Y (Wm Y (BQ (AM ((i+t)/2) (hO.rd (.head _)).rd Y Cb A5 Y Y ω ω) Y Y (BQ (oG Y Jq A5 ((hO.rd (.head _)).seg ω)) Y Y (BB (Qx (CC Y Y call214 Y (PV _ _ _ g hg _)) Y (Qm Y (Qm Y (An ?_)))))))))))))));refine Ct Y (λhl=>?_) (λhl=>?_)
    ·refine Ad (Qm Y (Qx (oA Y) Y (Qm Y (Am (Ai ?_)))));exact Ap (t-((i+t)/2+1)) _ ω ⟨(i+t)/2+1,Y,Y,Y,Y,ω⟩ Qs
    ·exact ib (by simpa using hl) hn
   ·obtain rfl:i=t:=ω
    refine AA (Aa (Aa (Ag (Ab (Ac (As (Qm Y (Qm Y (An (Af ?_))))))))))
    refine AC (λn s h' ms'=>n=0/\s=[(0,v),(14,.w i),(17,.w i)]/\h=h'/\ms'=[m])
     0 _ ⟨rfl,rfl,rfl,rfl⟩ Qs ?_
    rintro n s h' ms' ⟨rfl,rfl,rfl,rfl⟩;refine Ac (As (Qm Y (Qm Y (Qm Y (An ?_)))));refine Ax Y (λhltk=>?_) (λhltk=>?_)
    ·exfalso;omega
    ·refine AA (Aa (Aa (Ag (Ab (Aj (Ae ?_))))));exact JZ Y (⟨Y,Y⟩)
  ·refine Ah (Ab (As (Qm Y (Qm Y (Qx (oA Y) Y (Qx (Ei Y U3 Tf Y) Y (Qx (GH (n:=1) Y Y Y ω) Y (Qx (Ei Y Tf U3 Y) Y (Qm Y (An ?_))))))))));rw[P9 a b ω];obtain⟨mid,hmid⟩:∃mid,mid=(a+b)/2:=⟨_,Y⟩
   rw[<-hmid];refine As (Qm Y (Qm Y (Qx (oA Y) Y (Qm Y (Bw (Qm Y (Qm Y (An ?_))))))));refine Bt (λs h' ms'=>∃(s0 r0:Nat),s=[(0,v),(1,.w a),(2,.w t),(3,.w b),(4,(Uw g)),(18,.w mid),(19,.w ((mid:Int)+t)),(20,.w s0),(21,.w r0)]/\h=h'/\ms'=[m]/\((mid<t/\s0+b=mid+t/\r0=mid)\/(t<=mid/\s0=a/\r0=t))) ?_ (λs h ms hI=>?_)
   ·refine Ac (Ad (Qm Y (Qm Y (Qm Y (An ?_)))));refine Ax Y (λhgt=>?_) (λhgt=>?_)
    ·refine Ac (Ad (Qm Y (Qm Y (Qx (oS Y) Y (Qm Y (GM (Qm Y (Qm Y (Am ?_)))))))));have e:(mid:Int)+t-b=((mid+t-b:Nat):Int):=ω
     rw[e];exact AH _ ⟨mid+t-b,mid,Y,Y,Y,.inl ⟨ω,ω,Y⟩⟩ Qs
    ·refine Ac (Ad (Qm Y (Qm Y (GM (Qm Y (Qm Y (Am ?_)))))));exact AH _ ⟨a,t,Y,Y,Y,.inr ⟨ω,Y,Y⟩⟩ Qs
   ·obtain⟨s0,r0,rfl,rfl,rfl,hc⟩:=hI;have hc1:s0<=r0/\r0<=mid/\r0<=t/\(r0=mid\/r0=t)/\mid+t<=s0+b:=ω
    clear hc;refine As (Qm Y (Qx (oS Y) Y (Qm Y (An (Ac (Af ?_))))))
    refine AC (λn s h' ms'=>∃(i:Nat),n=r0-i/\s=[(0,v),(1,.w a),(2,.w t),(3,.w b),(4,(Uw g)),(18,.w mid),(19,.w ((mid:Int)+t)),(20,.w i),(21,.w r0),(22,.w ((mid:Int)+t-1))]/\h=h'/\ms'=[m]/\s0<=i/\i<=r0)
     (r0-s0) _ ⟨s0,rfl,rfl,rfl,rfl,ω,ω⟩ Qs ?_
    rintro n s h' ms' ⟨i,rfl,rfl,rfl,rfl,hi,hj⟩;refine Ac (As (Qm Y (Qm Y (Qm Y (An ?_)))));refine Ax Y (λhlt=>?_) (λhlt=>?_)
    ·have hn:=S.at (i:=(i+r0)/2) (j:=mid+t-1-(i+r0)/2) ω ω ω;refine Ah (Ab (Af (As (Qm Y (Qm Y (Qx (oA Y) Y (Qx (Ei Y U3 Tf Y) Y (Qx (GH (n:=1) Y Y Y ω) Y (Qx (Ei Y Tf U3 Y) Y (Qm Y (An ?_)))))))))));rw[P9 i r0 ω];refine Ac (BP 11 CK κ Y (Wm Y (Wm Y (Wm Y (Wm Y (BQ (oS Y) Y Y (BQ (AM (mid+t-1-(i+r0)/2) (hO.rd (.head _)).rd Y Cb A5 Y Y ω ω) Y Y (BQ (oG Y Jq A5 ((hO.rd (.head _)).seg ω)) Y Y (Wm Y (Wm Y (BQ (AM ((i+r0)/2) (hO.rd (.head _)).rd Y Cb A5 Y Y ω ω) Y Y (BQ (oG Y Jq A5 ((hO.rd (.head _)).seg ω)) Y Y (BB (Qx (CC Y Y call214 Y (PV _ _ _ g hg _)) Y (Qm Y (Qm Y (An ?_)))))))))))))))));refine Ct Y (λhl=>?_) (λhl=>?_)
     ·refine Ad (Qm Y (Qx (oA Y) Y (Qm Y (Am (Ai ?_)))));exact Ap (r0-((i+r0)/2+1)) _ ω ⟨(i+r0)/2+1,Y,Y,Y,Y,ω,ω⟩ Qs
     ·exact ib (by simpa using hl) hn
    ·obtain rfl:i=r0:=ω
     obtain⟨e,he⟩:∃e,e=mid+t-i:=⟨_,Y⟩
     have he2:(mid:Int)+t-i=(e:Int):=ω
     refine AA (Aa (Aa (Ag (Ab (As (Qm Y (Qm Y (Qx (oS Y) Y (Qm Y (An ?_))))))))));rw[he2];refine Bt (λs h' ms'=>s=[(0,v),(1,.w a),(3,.w b),(4,(Uw g)),(18,.w mid),(20,.w i),(24,.w e)]/\h=h'/\ms'=[m]) ?_ (λs h ms hI=>?_)
     ·refine Ac (Ad (Qm Y (Qm Y (Qm Y (Qm Y ?_)))));refine AY (t:=181) Y (λq1=>?_) (λq1=>?_)
      ·refine Qg (Ar Y Y) Y (Qg (Ar Y Y) Y (Qg (DB Y Y Y) Y (Qm Y (An ?_))));refine Ax Y (λq2=>?_) (λq2=>?_)
       ·exfalso;omega
       ·refine Ah ?_;exact AH _ ⟨Y,Y,Y⟩ Qs
      ·refine Qk Y (Qk Y (Qk Y (Qm Y (An (AN Y (Ah ?_))))));exact AH _ ⟨Y,Y,Y⟩ Qs
     ·obtain⟨rfl,rfl,rfl⟩:=hI;refine Bt (λs h' ms'=>s=[(0,v),(3,.w b),(4,(Uw g)),(18,.w mid),(24,.w e)]/\h=h'/\ms'=[m]) ?_ (λs h ms hI=>?_)
      ·refine Ac (Ad (Qm Y (Qm Y (Qm Y (Qm Y ?_)))));refine AY (t:=195) Y (λq1=>?_) (λq1=>?_)
       ·refine Qg (Ar Y Y) Y (Qg (Ar Y Y) Y (Qg (DB Y Y Y) Y (Qm Y (An ?_))));refine Ax Y (λq2=>?_) (λq2=>?_)
        ·refine Ad (Qm Y (Qm Y (Qm Y (Qm Y (Qm Y (Az (pre:=[m]) Y call263 Y (ih l v m hO S a i mid ω ω ω ω ω h g hg Y Y Y) Y Y Y Y (λr h1 ms1 l1 hF=>?_)))))));obtain⟨rfl,rfl⟩:=hF;refine Am ?_;exact AH _ ⟨Y,Y,Y⟩ Qs
        ·refine Ah ?_;exact AH _ ⟨Y,Y,Y⟩ Qs
       ·refine Qk Y (Qk Y (Qk Y (Qm Y (An (AN Y (Ah ?_))))));exact AH _ ⟨Y,Y,Y⟩ Qs
      ·obtain⟨rfl,rfl,rfl⟩:=hI;refine As (Qm Y (Qm Y (Qm Y (Qm Y ?_))));refine AY (t:=209) Y (λq1=>?_) (λq1=>?_)
       ·refine Qg (Ar Y Y) Y (Qg (Ar Y Y) Y (Qg (DB Y Y Y) Y (Qm Y (An ?_))));refine Ax Y (λq2=>?_) (λq2=>?_)
        ·refine Ad (Qm Y (Qm Y (Qm Y (Qm Y (Qm Y (Az (pre:=[m]) Y call263 Y (ih l v m hO S mid e b ω ω ω ω ω h g hg Y Y Y) Y Y Y Y (λr h1 ms1 l1 hF=>?_)))))));obtain⟨rfl,rfl⟩:=hF;refine Am ?_;exact CA Y (⟨Y,Y⟩)
        ·refine Ah ?_;exact CA Y (⟨Y,Y⟩)
       ·refine Qk Y (Qk Y (Qk Y (Qm Y (An (AN Y (Ah ?_))))));exact CA Y (⟨Y,Y⟩)
theorem T4(l:List CeO)(v:Value)(m:Hp)(hO:OLC m v l)(S:IncC l)(hsz:l.length<=1000000)(h:Hp)(g:Nat)(hg:W5 h g){n':Int}(en:n'=l.length) :
  FnT Tryz.prog 243 #[v,.w n',(Uw g)] h [m] (λ_ h' ms'=>h=h'/\ms'=[m]):=by
 subst en;obtain⟨n,hn⟩:∃n,n=l.length:=⟨_,Y⟩
 rw[<-hn];refine Ao func243 ntmps243 Y Y (λw0 hw0=>?_);simp only[AS];refine As (Qm Y (Bw (Qm Y (Qm Y (Qm Y (An (Ac (Af ?_))))))))
 refine AC (λq s h' ms'=>∃(a:Nat),q=n-a/\s=[(0,v),(1,.w n),(2,(Uw g)),(6,.w 20),(7,.w a),(8,.w ((a:Int)+20))]/\h=h'/\ms'=[m]/\a<=n)
  (n-0) _ ⟨0,rfl,rfl,rfl,rfl,ω⟩ Qs ?_
 rintro q s h' ms' ⟨a,rfl,rfl,rfl,rfl,han⟩;refine Ac (As (Qm Y (Qm Y (Qm Y (An ?_)))));refine Ax Y (λhle=>?_) (λhle=>?_)
 ·refine Ah (Ab (Af (As (Qm Y (Qm Y (Qm Y (Qm Y (Az (pre:=[m]) Y call262 Y (VG l v m hO S a (a+20) ω ω ω h g hg Y ω) Y Y Y Y (λr h1 ms1 l1 hF=>?_)))))))));obtain⟨rfl,rfl⟩:=hF;refine Bw (Qm Y (Qm Y (GM (Qm Y (Qm Y (Qx (oA Y) Y (Qm Y (Am (Ai ?_)))))))));exact Ap (n-(a+20)) _ ω ⟨a+20,Y,Y,Y,Y,ω⟩ Qs
 ·refine AA (Aa (Aa (Ag (Ab (As (Qm Y (Qm Y (Qm Y (Qm Y (Az (pre:=[m]) Y call262 Y (VG l v m hO S a n ω ω ω h g hg Y Y) Y Y Y Y (λr h1 ms1 l1 hF=>?_)))))))))));obtain⟨rfl,rfl⟩:=hF;refine An (Af ?_)
  refine AC (λq s h' ms'=>∃(w:Nat),q=n-w/\s=[(0,v),(1,.w n),(2,(Uw g)),(6,.w w)]/\h=h'/\ms'=[m]/\1<=w/\w<=4000000)
   (n-20) _ ⟨20,rfl,rfl,rfl,rfl,ω,ω⟩ Qs ?_
  rintro q s h' ms' ⟨w,rfl,rfl,rfl,rfl,hw1,hw2⟩;refine Ac (As (Qm Y (Qm Y (Qm Y (An ?_)))));refine Ax Y (λhlt=>?_) (λhlt=>?_)
  ·refine Ah (Ab (Af (As (Qm Y (Qx (oM Y) Y (Qm Y (Qm Y (An (Ac (Af ?_))))))))))
   refine AC (λq s h' ms'=>∃(a:Nat) (z:Int),q=n-a/\s=[(0,v),(1,.w n),(2,(Uw g)),(6,.w w),(7,.w a),(8,.w z)]/\h=h'/\ms'=[m]/\z=a+2*w/\a<=n)
    (n-0) _ ⟨0,2*(w:Int),rfl,rfl,rfl,rfl,ω,ω⟩ Qs ?_
   rintro q s h' ms' ⟨a,z,rfl,rfl,rfl,rfl,rfl,han⟩;refine Ac (As (Qm Y (Qm Y (Qm Y (An ?_)))));refine Ax Y (λhle2=>?_) (λhle2=>?_)
   ·refine Ah (Ab (Af (As (Qm Y (Qm Y (Qm Y (Qm Y (Qx (oA Y) Y (Qm Y (Qm Y (Az (pre:=[m]) Y call263 Y (Vh (2*w) l v m hO S a (a+w) (a+2*w) ω ω ω ω ω h g hg Y ω ω) Y Y Y Y (λr h1 ms1 l1 hF=>?_))))))))))));obtain⟨rfl,rfl⟩:=hF;refine Bw (Qm Y (Qm Y (GM (Qm Y (Qm Y (Qx (oM Y) Y (Qx (oA Y) Y (Qm Y (Am (Ai ?_))))))))));exact Ap (n-(a+2*w)) _ ω ⟨a+2*w,(a:Int)+2*w+2*w,Y,Y,Y,Y,ω,ω⟩ Qs
   ·refine AA (Aa (Aa (Ag (Ab (Ac (As (Qm Y (Qm Y (Qx (oA Y) Y (Qm Y (Bw (Qm Y (Qm Y (Qm Y (An ?_)))))))))))))));refine Ax Y (λhm=>?_) (λhm=>?_)
    ·refine Ad (Qm Y (Qm Y (Qm Y (Qm Y (Qm Y (Az (pre:=[m]) Y call263 Y (Vh (2*w) l v m hO S a (a+w) n ω ω ω ω ω h g hg Y ω Y) Y Y Y Y (λr h1 ms1 l1 hF=>?_)))))));obtain⟨rfl,rfl⟩:=hF;refine GM (Qm Y (Qx (oM Y) Y (Qm Y (Am (Ai ?_)))));exact Ap (n-w*2) _ ω ⟨w*2,Y,Y,Y,Y,ω,ω⟩ Qs
    ·refine Ah (Ab (Ad (Qm Y (Qx (oM Y) Y (Qm Y (Am (Ai ?_)))))));exact Ap (n-w*2) _ ω ⟨w*2,Y,Y,Y,Y,ω,ω⟩ Qs
  ·refine AA (Aa (Aa (Ag ?_)));exact CA Y (⟨Y,Y⟩)
theorem L8(l:List CeO)(v:Value)(m:Hp)(hO:OLC m v l)(S:IncC l)(hsz:l.length<=1000000)(h:Hp)(g:Nat)(hg:W5 h g) :
  FnT Tryz.prog 213 #[v,(Uw g)] h [m] (λ_ h' ms'=>h=h'/\ms'=[m]):=by
 refine Ao func213 ntmps213 Y Y (λw0 hw0=>?_);simp only[AS];refine Ad (Qm Y (Qm Y (Qx (Aq (hO.rd (.head _)).rd Y Cb Y) Y (Qm Y (Az (pre:=[m]) Y call243 Y (T4 l v m hO S hsz h g hg Y) Y Y Y Y (λr h1 ms1 l1 hF=>?_))))));obtain⟨rfl,rfl⟩:=hF;refine Am ?_;exact CA Y (⟨Y,Y⟩)
abbrev OLD(m:Hp)(v:Value)(l:List SdE):Prop:=OwnL cD 2 52 m v l
abbrev IncD(l:List SdE):Prop:=l.Pairwise λa b=>a.1<=b.1
theorem IncD.at{l:List SdE}(S:IncD l){i j:Nat}(hi:i<l.length)(hj:j<l.length)(h:i<=j):¬c3 l[j].1 l[i].1<0:=by
 rw[Ac6];rcases fz i j with h'|h'
 ·have:=cm.1 S i j hi hj h';omega
 ·have e:i=j:=ω
  subst e;omega
theorem VN(l:List SdE)(v:Value)(m:Hp)(hO:OLD m v l)(S:IncD l)(a b:Nat)(hab:a<=b)(hb:b<=l.length)(hsz:l.length<=20)(h:Hp)(g:Nat)(hg:AaF h g){a' b':Int}(ea:a'=a)(eb:b'=b) :
  FnT Tryz.prog 264 #[v,.w a',.w b',(cvD g)] h [m] (λ_ h' ms'=>h=h'/\ms'=[m]):=by
 subst ea eb;refine Ao func264 ntmps264 Y Y (λw0 hw0=>?_);simp only[AS];refine As (Qm Y (Qx (oA Y) Y (Qm Y (An (Af ?_)))))
 refine AC (λn s h' ms'=>∃(i:Nat) (z:Int),n=b-i/\s=[(0,v),(1,.w a),(2,.w b),(3,(cvD g)),(8,.w z)]/\h=h'/\ms'=[m]/\z=i/\a<i/\i<=4611686018427387905)
  _ _ ⟨a+1,(a:Int)+1,rfl,rfl,rfl,rfl,ω,ω,ω⟩ Qs ?_
 rintro n s h' ms' ⟨i,z,rfl,rfl,rfl,rfl,hz,hai,hi⟩;refine Ac (As (Qm Y (Qm Y (Qm Y (An ?_)))));refine Ax Y (λhlt=>?_) (λhlt=>?_)
 ·refine Ah (Ab (Ac (Af (As (Qm Y (Qm Y (An (Af ?_))))))))
  refine AC (λn s h' ms'=>n=0/\s=[(0,v),(1,.w a),(2,.w b),(3,(cvD g)),(8,.w z),(9,.w z)]/\h=h'/\ms'=[m])
   0 _ ⟨rfl,rfl,rfl,rfl⟩ Qs ?_
  rintro n s h' ms' ⟨rfl,rfl,rfl,rfl⟩;have hil:i<l.length:=ω
  have hn:=S.at (i:=i-1) ω hil ω;refine Ac (Ac (BP 14 CK κ Y (Wm Y (Wm Y (Wm Y (Wm Y ?_))))));refine C8 (t:=21) Y (λhja=>?_) (λhja=>?_)
  ·refine AQ (Ar Y Y) Y Y Y Y (AQ (Ar Y Y) Y Y Y Y (AQ (Ar Y Y) Y Y Y Y (AQ (AM (i) (hO.rd (.head _)).rd Y C0 BX Y Y ω ω) Y Y Y Y (AQ (oG Y Ye BX ((hO.rd (.head _)).seg ω)) Y Y Y Y (AQ (Ar Y Y) Y Y Y Y (AQ (Ar Y Y) Y Y Y Y (AQ (oS Y) Y Y Y Y (AQ (AM (i-1) (hO.rd (.head _)).rd Y C0 BX Y Y ω ω) Y Y Y Y (AQ (oG Y Ye BX ((hO.rd (.head _)).seg ω)) Y Y Y Y (BB (Qg (CC Y Y call218 Y (AdC _ _ _ g hg _)) Y (Qg (DB Y Y Y) Y (Qm Y (An ?_))))))))))))));refine Ct Y (λhl=>?_) (λhl=>?_)
   ·exact ib (du hl) hn
   ·refine AA (Aa (Aa (Ag (Ai (Ab (Ad (Qm Y (Qx (oA Y) Y (Qm Y (Am ?_))))))))));exact Ap (b-(i+1)) _ ω ⟨i+1,z+1,Y,Y,Y,Y,ω,ω,ω⟩ Qs
  ·exfalso;omega
 ·refine AA (Aa (Aa (Ag ?_)));exact CA Y (⟨Y,Y⟩)
theorem TZ(l:List SdE)(v:Value)(m:Hp)(hO:OLD m v l)(S:IncD l)(hsz:l.length<=20)(h:Hp)(g:Nat)(hg:AaF h g){n':Int}(en:n'=l.length) :
  FnT Tryz.prog 244 #[v,.w n',(cvD g)] h [m] (λ_ h' ms'=>h=h'/\ms'=[m]):=by
 subst en;obtain⟨n,hn⟩:∃n,n=l.length:=⟨_,Y⟩
 rw[<-hn];refine Ao func244 ntmps244 Y Y (λw0 hw0=>?_);simp only[AS];refine As (Qm Y (Bw (Qm Y (Qm Y (Qm Y (An (Ac (Af ?_))))))))
 refine AC (λq s h' ms'=>∃(a:Nat),q=n-a/\s=[(0,v),(1,.w n),(2,(cvD g)),(6,.w 20),(7,.w a),(8,.w ((a:Int)+20))]/\h=h'/\ms'=[m]/\a<=n)
  (n-0) _ ⟨0,rfl,rfl,rfl,rfl,ω⟩ Qs ?_
 rintro q s h' ms' ⟨a,rfl,rfl,rfl,rfl,han⟩;refine Ac (As (Qm Y (Qm Y (Qm Y (An ?_)))));refine Ax Y (λhle=>?_) (λhle=>?_)
 ·refine Ah (Ab (Af (As (Qm Y (Qm Y (Qm Y (Qm Y (Az (pre:=[m]) Y call264 Y (VN l v m hO S a (a+20) ω ω ω h g hg Y ω) Y Y Y Y (λr h1 ms1 l1 hF=>?_)))))))));obtain⟨rfl,rfl⟩:=hF;refine Bw (Qm Y (Qm Y (GM (Qm Y (Qm Y (Qx (oA Y) Y (Qm Y (Am (Ai ?_)))))))));exact Ap (n-(a+20)) _ ω ⟨a+20,Y,Y,Y,Y,ω⟩ Qs
 ·refine AA (Aa (Aa (Ag (Ab (As (Qm Y (Qm Y (Qm Y (Qm Y (Az (pre:=[m]) Y call264 Y (VN l v m hO S a n ω ω ω h g hg Y Y) Y Y Y Y (λr h1 ms1 l1 hF=>?_)))))))))));obtain⟨rfl,rfl⟩:=hF;refine An (Af ?_)
  refine AC (λq s h' ms'=>q=0/\s=[(0,v),(1,.w n),(2,(cvD g)),(6,.w 20)]/\h=h'/\ms'=[m])
   0 _ ⟨rfl,rfl,rfl,rfl⟩ Qs ?_
  rintro q s h' ms' ⟨rfl,rfl,rfl,rfl⟩;refine Ac (As (Qm Y (Qm Y (Qm Y (An ?_)))));refine Ax Y (λhlt=>?_) (λhlt=>?_)
  ·exfalso;omega
  ·refine AA (Aa (Aa (Ag ?_)));exact CA Y (⟨Y,Y⟩)
theorem MN(l:List SdE)(v:Value)(m:Hp)(hO:OLD m v l)(S:IncD l)(hsz:l.length<=20)(h:Hp)(g:Nat)(hg:AaF h g) :
  FnT Tryz.prog 217 #[v,(cvD g)] h [m] (λ_ h' ms'=>h=h'/\ms'=[m]):=by
 refine Ao func217 ntmps217 Y Y (λw0 hw0=>?_);simp only[AS];refine Ad (Qm Y (Qm Y (Qx (Aq (hO.rd (.head _)).rd Y C0 Y) Y (Qm Y (Az (pre:=[m]) Y call244 Y (TZ l v m hO S hsz h g hg Y) Y Y Y Y (λr h1 ms1 l1 hF=>?_))))));obtain⟨rfl,rfl⟩:=hF;refine Am ?_;exact CA Y (⟨Y,Y⟩)
theorem Xc(l:List CeO)(v:Value)(h:Hp)(hR:RdL TT 3 h [] v l)(hl:l.length<=1000000):FnT Tryz.prog 212 #[v] h [] (λx h' ms'=>h=h'/\∃m,ms'=[m]/\OwnL TT 3 50 m x l):=by
 refine Ao func212 ntmps212 Y Y (λw0 hw0=>?_);simp only[AS];refine As (Qm Y (An (Ac (As (Qm Y (Qx (MY hR.rd.any Y Cb Y Y) Y (An ?_)))))));refine Ct Y (λhn=>?_) (λhn=>?_)
 ·have h0:=KN hR.rd hn;obtain rfl:l=[]:=dh h0;refine As (Qm Y (An (Aj (Ae (Pv ?_)))));exact Al Y Y (⟨Y,_,Y,OwnL.nil Py⟩)
 ·refine Ah (Ab (As ?_));refine AJ [] [] [] rfl Cb A5 rfl ω κ (by repeat (first|exact eo|refine⟨⟨by first|rfl|exact(hR.rd.any).cells|exact Rd.cells ‹_›|exact(RdL.rd ‹_›).cells,rfl,rfl⟩,?_⟩)) rfl rfl rfl rfl (λg5=>?_);refine Qm rfl ?_;have hO:OwnL TT 3 50 (BL g5 50 []) (.slice (some ⟨g5,0,none⟩) 0 0) []:=OwnL.blk (l:=([]:List CeO)) 0 Py rfl ω;refine AL 0 hO hR.any rfl Cb A5 rfl ω rfl rfl rfl Acz (by simp;omega) (by simp;omega) rfl rfl rfl (λv' m' hO'=>?_);refine Qm rfl (An (Aj ?_));exact Al rfl rfl (⟨rfl,m',rfl,hO'⟩)
theorem Xr(l:List SdE)(v:Value)(h:Hp)(hR:RdL cD 2 h [] v l)(hl:l.length<=1000000):FnT Tryz.prog 216 #[v] h [] (λx h' ms'=>h=h'/\∃m,ms'=[m]/\OwnL cD 2 52 m x l):=by
 refine Ao func216 ntmps216 Y Y (λw0 hw0=>?_);simp only[AS];refine As (Qm Y (An (Ac (As (Qm Y (Qx (MY hR.rd.any Y C0 Y Y) Y (An ?_)))))));refine Ct Y (λhn=>?_) (λhn=>?_)
 ·have h0:=KN hR.rd hn;obtain rfl:l=[]:=dh h0;refine As (Qm Y (An (Aj (Ae (Pv ?_)))));exact Al Y Y (⟨Y,_,Y,OwnL.nil Gm⟩)
 ·refine Ah (Ab (As ?_));refine AJ [] [] [] rfl C0 BX rfl ω κ (by repeat (first|exact eo|refine⟨⟨by first|rfl|exact(hR.rd.any).cells|exact Rd.cells ‹_›|exact(RdL.rd ‹_›).cells,rfl,rfl⟩,?_⟩)) rfl rfl rfl rfl (λg5=>?_);refine Qm rfl ?_;have hO:OwnL cD 2 52 (BL g5 52 []) (.slice (some ⟨g5,0,none⟩) 0 0) []:=OwnL.blk (l:=([]:List SdE)) 0 Gm rfl ω;refine AL 0 hO hR.any rfl C0 BX rfl ω rfl rfl rfl Mp (by simp;omega) (by simp;omega) rfl rfl rfl (λv' m' hO'=>?_);refine Qm rfl (An (Aj ?_));exact Al rfl rfl (⟨rfl,m',rfl,hO'⟩)
theorem Ue(l:List CeO)(v:Value)(h:Hp)(hR:RdL TT 3 h [] v l)(hl:l.length<=1000000)(S:IncC l):FnT Tryz.prog 168 #[v,fkC] h [] (λx h' ms'=>h.le h'/\∃m,ms'=[m]/\OLC m x l):=by have o1:=hR.rd.one;refine Ao func168 ntmps168 Y Y (λw0 hw0=>?_);simp only[AS];refine As (AK [_] Y Y (by rfl) Y Y Y (λg3=>Qm Y (An (AF λh1 l1 hG=>?_))));have hk:W5 h1 g3:=λms=>Seg.all hG 0 _ Y ms;have hR:=hR.up l1;refine As (Qm Y (Qc call212 Y (Xc l v h1 hR hl) (λr h2 ms2 l2 hF=>?_)));obtain⟨rfl,m,rfl,hO⟩:=hF;have ovr:=hO.o1;refine Qm Y (Bw (Qm Y (Qx (BG Y Y Y) Y (Az (pre:=[m]) Y call213 Y (L8 l r m hO S hl h1 g3 hk) Y Y Y Y (λx h3 ms3 l3 hF=>?_)))));obtain⟨rfl,rfl⟩:=hF;refine Bw (Qm Y (Qm Y (An (Aj ?_))));exact Al Y Y (⟨l1,m,Y,hO⟩)
theorem Uh(l:List SdE)(v:Value)(h:Hp)(hR:RdL cD 2 h [] v l)(hl:l.length<=20)(S:IncD l):FnT Tryz.prog 170 #[v,fkD] h [] (λx h' ms'=>h.le h'/\∃m,ms'=[m]/\OLD m x l):=by have o1:=hR.rd.one;refine Ao func170 ntmps170 Y Y (λw0 hw0=>?_);simp only[AS];refine As (AK [_] Y Y (by rfl) Y Y Y (λg3=>Qm Y (An (AF λh1 l1 hG=>?_))));have hk:AaF h1 g3:=λms=>Seg.all hG 0 _ Y ms;have hR:=hR.up l1;refine As (Qm Y (Qc call216 Y (Xr l v h1 hR ω) (λr h2 ms2 l2 hF=>?_)));obtain⟨rfl,m,rfl,hO⟩:=hF;have ovr:=hO.o1;refine Qm Y (Bw (Qm Y (Qx (BG Y Y Y) Y (Az (pre:=[m]) Y call217 Y (MN l r m hO S hl h1 g3 hk) Y Y Y Y (λx h3 ms3 l3 hF=>?_)))));obtain⟨rfl,rfl⟩:=hF;refine Bw (Qm Y (Qm Y (An (Aj ?_))));exact Al Y Y (⟨l1,m,Y,hO⟩)
def Cl.can(c:Cl):Cl:=⟨c.id,c.dim,Dp c.sd⟩
def I8(x y:Cl):Bool:=decide (x.id<=y.id)
def ordF(l:List Cl):List Cl:=if h:l.length<=1 then l.map Cl.can else
 List.merge (ordF (l.take (l.length/2))) (ordF (l.drop (l.length/2))) I8
termination_by l.length
decreasing_by
 ·rw[bh];omega
 ·rw[cg];omega
theorem E8{l:List Cl}(h:l.length<=1):ordF l=l.map Cl.can:=by rw[ordF,dif_pos h]
theorem Mb{l:List Cl}(h:¬l.length<=1):ordF l=List.merge (ordF (l.take (l.length/2))) (ordF (l.drop (l.length/2))) I8:=by rw[ordF,dif_neg h]
theorem D1:∀(n:Nat) (l:List Cl),l.length<=n->(ordF l).Perm (l.map Cl.can)
 | 0,l,h=>by rw[E8 ω]
 | n+1,l,h=>by
  by_cases hs:l.length<=1
  ·rw[E8 hs]
  ·rw[Mb hs];have h1:=D1 n (l.take (l.length/2)) (by rw[bh];omega);have h2:=D1 n (l.drop (l.length/2)) (by rw[cg];omega);refine(List.merge_perm_append I8).trans ((h1.append h2).trans ?_);rw[<-cq,dp]
theorem Gs(l:List Cl):(ordF l).length=l.length:=by
 have:=(D1 l.length l (ak _)).length_eq
 rwa [bf]at this
theorem Fs:∀(n:Nat) (l:List Cl),l.length<=n->(ordF l).Pairwise (λx y=>x.id<=y.id)
 | 0,l,h=>by obtain rfl:l=[]:=dh ω;rw[E8 σ];exact List.Pairwise.nil
 | n+1,l,h=>by
  by_cases hs:l.length<=1
  ·rw[E8 hs]
   match l,hs with
   | [],_=>exact List.Pairwise.nil
   | [a],_=>exact List.pairwise_singleton _ _
  ·rw[Mb hs];have h1:=Fs n (l.take (l.length/2)) (by rw[bh];omega);have h2:=Fs n (l.drop (l.length/2)) (by rw[cg];omega)
   have:=List.pairwise_merge (le:=I8) (λa b c hab hbc=>by
    unfold I8 at *;have:=du hab;have:=du hbc
    exact bm ω) (λa b=>by
    unfold I8;by_cases h:a.id<=b.id
    ·simp[h]
    ·have:b.id<=a.id:=ω
     simp[this]) _ _ (h1.imp λh=>bm h) (h2.imp λh=>bm h)
   exact this.imp λh=>du h
theorem AcE(a b:Cl)(l l':List Cl)(h:b.id<a.id):List.merge (a::l) (b::l') I8=b::List.merge (a::l) l' I8:=by have:I8 a b=false:=b7 ω;simp[List.merge,this]
theorem Aci(a b:Cl)(l l':List Cl)(h:¬b.id<a.id):List.merge (a::l) (b::l') I8=a::List.merge l (b::l') I8:=by have:I8 a b=true:=bm ω;simp[List.merge,this]
theorem RdC.part{h:Hp}{v:Value}{l:List Ce}(R:RdC h v l){i j:Nat}(hi:i<=j)(hj:j<=l.length):RdC h (Dg 3 v i j) ((l.drop i).take (j-i)):=⟨R.q.sub_ hi hj,λa ha=>R.s a (gr (List.mem_of_mem_take ha))⟩
theorem Ma:∀(N:Nat) (l:List Ce) (v:Value) (h:Hp),l.length<N->N<=1000000->(∀a∈l,a.c.sd.length<=100000)->RdC h v l->FnT Tryz.prog 126 #[v] h [] (λr h' ms'=>h.le h'/\∃m A,ms'=[m]/\OwnL cC 3 50 m r A/\A.map Ce.c=ordF (l.map Ce.c)/\∀a∈A,RdL cD 2 h' [] a.v a.c.sd):=by
 intro N
 induction N with
 | zero=>intro l v h hN;omega
 | succ N ih=>
  intro l v h hN hM hs hR;have o1:=hR.q.rd.one;refine Ao func126 ntmps126 Y Y (λw0 hw0=>?_);simp only[AS];refine As (Qm Y (An (Ac (As (Qm Y (Qx (Aq hR.q.rd.any Y Cb Y) Y (Qm Y (An ?_))))))));refine Ax Y (λh0=>?_) (λh0=>?_)
  ·obtain rfl:l=[]:=dh ω;refine B8 (As (Qm Y (An (Aj (Ae ?_)))));exact Al Y Y (⟨BD,Hp.emp,[],Y,OwnL.nil DN,by rw[E8 σ];rfl,λa ha=>nomatch ha⟩)
  ·refine Ah (Ab (Ac (As (Qm Y (Qx (Aq hR.q.rd.any Y Cb Y) Y (Qm Y (An ?_)))))));refine Ax Y (λh1=>?_) (λh1=>?_)
   ·match l,h0,h1,hs,hR with
    | [a],_,_,hs,hR=>
     have hsa:=hR.s a Mh;have osa:=hsa.rd.one;have c0:∀ms,Cell h ms ((AI v).add (0*3)) (.w a.c.id):=λms=>(hR.q.any (ms:=ms)).cell0 (j:=0) σ rfl;have c1:∀ms,Cell h ms (((AI v).add (0*3)).add 1) (.w a.c.dim):=λms=>(hR.q.any (ms:=ms)).cell (j:=0) σ (f:=1) rfl;have c2:∀ms,Cell h ms (((AI v).add (0*3)).add 2) a.v:=λms=>(hR.q.any (ms:=ms)).cell (j:=0) σ (f:=2) rfl;have h01:(0:Nat) < [a].length:=by simp
     refine Ac (AU (n:=16) (bs:=[ic,ic,ic,ic,ic,ic,ic,ic,ic,ic,ic,ic,ie,ie,ie,ie]) [ic,ic,ic,ic,ic,ic,ic,ic,ic,ic,ic,ic] CK κ κ Y Y (Qq Y (Qp Y (BR (0) hR.q.rd.any Y Cb A5 Y Y) (QF Cm Y (QL Y U3 (c0 _) (Qq Y (Qp Y (BR (0) hR.q.rd.any Y Cb A5 Y Y) (QF B7 Y (QL Y U3 (c1 _) (Qq Y (Qp Y (BR (0) hR.q.rd.any Y Cb A5 Y Y) (QF BT Y (QL Y C0 (c2 _) ?_)))))))))))));unfold Do;simp only[List.cons_append,aw];refine Qo 12 Y (Qc call80 Y (Rk a.c.sd a.v h (hs a Mh) hsa) (λrs h2 ms2 l2 hF=>?_));obtain⟨rfl,mq,rfl,hOq⟩:=hF;refine Bv hOq λh3 l3 hRq=>?_;obtain⟨a9,c9,rfl,_⟩:=hRq.rd.ex;refine Qa (Bd 13 25 κ Y (by assumption) Y (AP PD [.w 0,.w 0,.nl] [(0,_),(1,_),(2,_)] [_,_,_] Y A5 Y Y Qt Y) (Qo 14 Y (AB [_,_,_] Y Cb A5 Y (by rfl) Y Y ω Y Y Y (λg26=>Qa (Qo 15 Y (Qm Y (Qa (Qe (Ab (Aj ?_))))))))));exact Al Y Y ⟨l3,_,[⟨a.c.can,.slice a9 (Dp a.c.sd).length c9⟩],Y,OwnL.blk (g:=g26) (el:=50) (F:=cC) (l:=[⟨a.c.can,.slice a9 (Dp a.c.sd).length c9⟩]) 1 DN Y δ,by rw[E8 σ];rfl,λb hb=>by rw[bg.1 hb];exact hRq⟩
   ·have hl2:¬l.length<=1:=ω
    obtain⟨k,hk⟩:∃k,l.length/2=k:=⟨_,Y⟩
    have hk1:k<l.length:=ω
    have hk0:0<k:=ω
    have hll:=hR.q.len_le;have hR1:RdC h (Dg 3 v 0 k) (l.take k):=by have:=hR.part (i:=0) (j:=k) ω ω;rwa [List.drop_zero,Nat.sub_zero]at this
    have hR2:RdC h (Dg 3 v k l.length) (l.drop k):=by have:=hR.part (i:=k) (j:=l.length) ω ω;rwa [f5 (by rw[cg];omega)]at this
    have hkt:Int.tdiv (l.length:Int) 2=(k:Int):=by rw[Int.tdiv_eq_ediv_of_nonneg ω];omega
    refine Ah (Ab (As (Qm Y (Qm Y (Qx (Aq hR.q.rd.any Y Cb Y) Y (Qx (DP Y Y Y ω ω) Y (Qx (Eg (k) hR.q.rd.any Y Cb A5 Y Y ω ω) Y ?_)))))));refine Qc call126 Y (ih (l.take k) _ h (by rw[bh];omega) ω (λa ha=>hs a (List.mem_of_mem_take ha)) hR1) (λra h2 ms2 l2 hF=>?_);obtain⟨l2',ma,A,rfl,hOA,hA,hAs⟩:=hF;refine Bv hOA λh3 l3 hRA=>?_;have hAs:∀a∈A,RdL cD 2 h3 [] a.v a.c.sd:=λa ha=>(hAs a ha).up l3;have hR2:=hR2.up (AD l2 l3);have hR:=hR.up (AD l2 l3);have oA_:=hRA.rd.one;refine Qm Y (Bw (Qm Y (Qm Y (Qx (Aq hR.q.rd.any Y Cb Y) Y (Qx (DP Y Y Y ω ω) Y (Qx (DL (k) hR.q.rd.any Y Cb A5 Y Y ω ω) Y ?_))))));refine Qc call126 Y (ih (l.drop k) _ h3 (by rw[cg];omega) ω (λa ha=>hs a (gr ha)) hR2) (λrb h4 ms4 l4 hF=>?_);obtain⟨l4',mb,B,rfl,hOB,hB,hBs⟩:=hF;refine Bv hOB λh5 l5 hRB=>?_;have l45:=AD l4 l5;have hAs:∀a∈A,RdL cD 2 h5 [] a.v a.c.sd:=λa ha=>(hAs a ha).up l45;have hBs:∀a∈B,RdL cD 2 h5 [] a.v a.c.sd:=λa ha=>(hBs a ha).up l5;have hRA:=hRA.up l45;have oB:=hRB.rd.one;have lA:A.length=k:=by have:=ao List.length hA;rw[bf,Gs,bf,bh]at this;omega
    have lB:B.length=l.length-k:=by have:=ao List.length hB;rw[bf,Gs,bf,cg]at this;exact this
    have hmg:ordF (l.map Ce.c)=List.merge (A.map Ce.c) (B.map Ce.c) I8:=by rw[Mb (by rw[bf];exact hl2),hA,hB,bf,hk,List.map_take,List.map_drop]
    refine Qm Y (Bw (Qm Y (An ?_)));refine Bt (λs h' ms'=>∃(A' B' O:List Ce) (va vb vo:Value) (mo:Hp),s=[(3,va),(4,vb),(5,vo)]/\h5=h'/\ms'=[mo]/\A'.length+B'.length+O.length=l.length/\RdL cC 3 h5 [] va A'/\RdL cC 3 h5 [] vb B'/\OwnL cC 3 50 mo vo O/\O.map Ce.c++A'.map Ce.c++B'.map Ce.c=ordF (l.map Ce.c)/\(∀a∈A',RdL cD 2 h5 [] a.v a.c.sd)/\(∀a∈B',RdL cD 2 h5 [] a.v a.c.sd)/\∀a∈O,RdL cD 2 h5 [] a.v a.c.sd) ?_ (λs h ms hI=>?_)
    ·refine Af (B8 ?_)
     refine AC (λq s h' ms'=>∃(A' B' O:List Ce) (va vb vo:Value) (mo:Hp),q=A'.length+B'.length/\s=[(3,va),(4,vb),(5,vo)]/\h5=h'/\ms'=[mo]/\A'.length+B'.length+O.length=l.length/\RdL cC 3 h5 [] va A'/\RdL cC 3 h5 [] vb B'/\OwnL cC 3 50 mo vo O/\O.map Ce.c++List.merge (A'.map Ce.c) (B'.map Ce.c) I8=ordF (l.map Ce.c)/\(∀a∈A',RdL cD 2 h5 [] a.v a.c.sd)/\(∀a∈B',RdL cD 2 h5 [] a.v a.c.sd)/\∀a∈O,RdL cD 2 h5 [] a.v a.c.sd)
      (A.length+B.length) _ ⟨A,B,[],_,_,_,Hp.emp,rfl,rfl,rfl,rfl,by rw[lA,lB,fd];omega,hRA,hRB,OwnL.nil DN,by rw[hmg];rfl,hAs,hBs,λa ha=>nomatch ha⟩ Qs ?_
     rintro q s h' ms' ⟨A',B',O,va,vb,vo,mo,rfl,rfl,rfl,rfl,hln,hRa,hRb,hOo,hm,hAa,hBb,hOa⟩;have ova:=hRa.rd.one;have ovb:=hRb.rd.one;have ovo:=hOo.o1;refine Ac (As (Qm Y (Qx (Aq hRa.rd.any Y Cb Y) Y (Qm Y (Qm Y ?_)))));refine AY (t:=42) Y (λhs1=>?_) (λhs1=>?_)
     ·refine Qg (Ar Y Y) Y (Qg (Aq hRb.rd.any Y Cb Y) Y (Qg (Cs Y Y Y) Y (Qm Y (An ?_))));refine Ax Y (λhs2=>?_) (λhs2=>?_)
      ·obtain⟨a,A2,rfl⟩:=List.exists_cons_of_length_pos (l:=A') ω;obtain⟨b,B2,rfl⟩:=List.exists_cons_of_length_pos (l:=B') ω;have hA0:0<(a::A2).length:=by simp
       have hB0:0<(b::B2).length:=by simp
       have oav:=(hAa a Mh).rd.one;have obv:=(hBb b Mh).rd.one;have ca:∀ms,Cell h5 ms ((AI va).add (0*3)) (.w a.c.id):=λms=>(hRa.any (ms:=ms)).cell0 (j:=0) hA0 Y;have cb:∀ms,Cell h5 ms ((AI vb).add (0*3)) (.w b.c.id):=λms=>(hRb.any (ms:=ms)).cell0 (j:=0) hB0 Y;have ga:∀ms,Seg h5 ms ((AI va).add (0*3)) (cC a):=λms=>(hRa.any (ms:=ms)).seg (j:=0) hA0;have gb:∀ms,Seg h5 ms ((AI vb).add (0*3)) (cC b):=λms=>(hRb.any (ms:=ms)).seg (j:=0) hB0;have hA2:RdL cC 3 h5 [] (Dg 3 va 1 (a::A2).length) A2:=by have:=hRa.sub_ (i:=1) (j:=(a::A2).length) σ (ak _);simpa using this
       have hB2:RdL cC 3 h5 [] (Dg 3 vb 1 (b::B2).length) B2:=by have:=hRb.sub_ (i:=1) (j:=(b::B2).length) σ (ak _);simpa using this
       have oA2:=hA2.rd.one;have oB2:=hB2.rd.one;have hal:(a::A2).length=A2.length+1:=rfl;have hbl:(b::B2).length=B2.length+1:=rfl;refine Ah (Ab (Af (Ac (BP 8 CK κ Y (Wm Y (BQ (BR (0) hRb.rd.any Y Cb A5 Y Y) Y Y (Wf Cm Y (Wl Y U3 (cb _) (Wm Y (BQ (BR (0) hRa.rd.any Y Cb A5 Y Y) Y Y (Wf Cm Y (Wl Y U3 (ca _) (BB (Qm Y (An ?_)))))))))))))));refine Ax Y (λhlt=>?_) (λhlt=>?_)
       ·refine Ac (Ad (Qm Y (Qm Y (Qx (BR (0) hRb.rd.any Y Cb A5 Y Y) Y (Qx (oG Y Jq A5 (gb _)) Y (AB [_,_,_] Y Cb A5 Y (by rfl) Y Y ω Y Y Y (λg60=>?_)))))));refine Cv 1 hOo (RdL.one DN (x:=b) Mh Y) Y Cb A5 Y ω Y Y Y (GN (l:=[b]) (λy hy=>by rw[bg.1 hy];exact hBb b Mh)) (by(try simp only[ae]);omega) (by(try simp only[ae]);omega) rfl rfl rfl (λv6 m6 hO6=>?_);have ov6:=hO6.o1;refine Qm Y (GM (Qm Y (Qx (DL (1) hRb.rd.any Y Cb A5 Y Y ω ω) Y (Qm Y (Am (Ai (AR ?_)))))));exact Ap ((a::A2).length+B2.length) _ ω ⟨a::A2,B2,O++[b],va,_,v6,m6,Y,Y,Y,Y,by rw[ag,ae];omega,hRa,hB2,hO6,by rw[cq,<-hm];show _++[b.c]++_=_++List.merge (a.c::_) (b.c::_) I8;rw[AcE _ _ _ _ hlt,di];rfl,hAa,λy hy=>hBb y (be _ hy),λy hy=>by rcases bl.1 hy with h|h;exact hOa y h;rw[bg.1 h];exact hBb b Mh⟩ Qs
       ·refine Ac (Ad (Qm Y (Qm Y (Qx (BR (0) hRa.rd.any Y Cb A5 Y Y) Y (Qx (oG Y Jq A5 (ga _)) Y (AB [_,_,_] Y Cb A5 Y (by rfl) Y Y ω Y Y Y (λg68=>?_)))))));refine Cv 1 hOo (RdL.one DN (x:=a) Mh Y) Y Cb A5 Y ω Y Y Y (GN (l:=[a]) (λy hy=>by rw[bg.1 hy];exact hAa a Mh)) (by(try simp only[ae]);omega) (by(try simp only[ae]);omega) rfl rfl rfl (λv6 m6 hO6=>?_);have ov6:=hO6.o1;refine Qm Y (GM (Qm Y (Qx (DL (1) hRa.rd.any Y Cb A5 Y Y ω ω) Y (Qm Y (Am (Ai (AR ?_)))))));exact Ap (A2.length+(b::B2).length) _ ω ⟨A2,b::B2,O++[a],_,vb,v6,m6,Y,Y,Y,Y,by rw[ag,ae];omega,hA2,hRb,hO6,by rw[cq,<-hm];show _++[a.c]++_=_++List.merge (a.c::_) (b.c::_) I8;rw[Aci _ _ _ _ hlt,di];rfl,λy hy=>hAa y (be _ hy),hBb,λy hy=>by rcases bl.1 hy with h|h;exact hOa y h;rw[bg.1 h];exact hAa a Mh⟩ Qs
      ·obtain rfl:B'=[]:=dh ω;refine AA (Aa (Aa (Ag ?_)));exact AH _ ⟨A',[],O,va,vb,vo,mo,Y,Y,Y,hln,hRa,hRb,hOo,by rw[<-hm,di];simp,hAa,hBb,hOa⟩ Qs
     ·obtain rfl:A'=[]:=dh ω;refine Qk Y (Qk Y (Qk Y (Qm Y (An (AN Y (AA (Aa (Aa (Ag ?_)))))))));exact AH _ ⟨[],B',O,va,vb,vo,mo,Y,Y,Y,hln,hRa,hRb,hOo,by rw[<-hm];simp,hAa,hBb,hOa⟩ Qs
    ·obtain⟨A',B',O,va,vb,vo,mo,rfl,rfl,rfl,hln,hRa,hRb,hOo,hm,hAa,hBb,hOa⟩:=hI;have ova:=hRa.rd.one;have ovb:=hRb.rd.one;have ovo:=hOo.o1;refine As (Qm Y (Qm Y (Cv 0 hOo hRa.any Y Cb A5 Y ω Y Y Y (GN hAa) (by(try simp only[ag]);omega) (by(try simp only[ag]);omega) rfl rfl rfl (λv7 m7 hO7=>Qm rfl (Cv 0 hO7 hRb.any rfl Cb A5 rfl ω rfl rfl rfl (GN hBb) (by(try simp only[ag]);omega) (by(try simp only[ag]);omega) rfl rfl rfl (λv8 m8 hO8=>Qm rfl (An (Aj ?_))))))));exact Al Y Y (⟨AD l2 (AD l3 l45),m8,_,Y,hO8,by rw[cq,cq];exact hm,λy hy=>by rcases bl.1 hy with h|h;rcases bl.1 h with h|h;exact hOa y h;exact hAa y h;exact hBb y h⟩)
structure CsOk(l:List Ce):Prop where
 n:l.length<=100000
 s:∀a∈l,a.c.sd.length<=100000
def uq:Option Int->List Cl->List Cl
 | _,[]=>[]
 | p,a::l=>if p=some a.id then uq (some a.id) l else a::uq (some a.id) l
def Qn:Option Int->List Ce->List Ce
 | _,[]=>[]
 | p,a::l=>if p=some a.c.id then Qn (some a.c.id) l else a::Qn (some a.c.id) l
theorem P7:∀(l:List Ce) (p:Option Int),(Qn p l).map Ce.c=uq p (l.map Ce.c)
 | [],_=>rfl
 | a::l,p=>by
  unfold Qn;show _=(if p=some a.c.id then uq (some a.c.id) (l.map Ce.c) else a.c::uq (some a.c.id) (l.map Ce.c));split
  ·exact P7 l _
  ·rw[dq,P7 l _]
theorem QC:∀(l:List Ce) (p:Option Int),∀a∈Qn p l,a∈l
 | [],_,a,h=>by cases h
 | b::l,p,a,h=>by
  unfold Qn at h;split at h
  ·exact be _ (QC l _ a h)
  ·rcases bi.1 h with rfl|h
   ·exact Mh
   ·exact be _ (QC l _ a h)
theorem Aca(l:List Ce)(p:Option Int):(Qn p l).length<=l.length:=by
 induction l generalizing p with
 | nil=>exact ak _
 | cons a l ih=>
  unfold Qn;have:=ih (some a.c.id);split
  ·rw[length_cons];omega
  ·rw[length_cons,length_cons];omega
theorem Tg:∀(l:List Ce) (p:Option Int) (a:Ce),Qn p (l++[a])=Qn p l++(if((l.getLast?.map λx=>x.c.id).or p)=some a.c.id then [] else [a])
 | [],p,a=>by show Qn p [a]=_;unfold Qn;show _=[]++(if p=some a.c.id then [] else [a]);split<;>rfl
 | b::l,p,a=>by
  have ih:=Tg l (some b.c.id) a
  have e:(((b::l).getLast?.map λx:Ce=>x.c.id).or p)=((l.getLast?.map λx=>x.c.id).or (some b.c.id)):=by
   cases l with
   | nil=>rfl
   | cons c l=>simp[List.getLast?_cons_cons,List.getLast?_cons]
  rw[e];show Qn p (b::(l++[a]))=_;unfold Qn;split
  ·exact ih
  ·rw[ih];rfl
theorem ZH{l:List Ce}{i:Nat}(hi:i<l.length):Qn none (l.take (i+1))=Qn none (l.take i)++(if h:0<i/\(l[i-1]'ω).c.id=l[i].c.id then [] else [l[i]]):=by
 rw[am hi,Tg];congr 1;by_cases h0:0<i
 ·have e:(l.take i).getLast?=some (l[i-1]'ω):=by rw[List.getLast?_eq_getElem?,bh,fx ω,List.getElem?_take_of_lt ω,ah ω]
  rw[e];by_cases h1:(l[i-1]'ω).c.id=l[i].c.id
  ·rw[dif_pos ⟨h0,h1⟩,af (by simp[h1])]
  ·rw[dif_neg (λq=>h1 q.2),ab (by simpa using h1)]
 ·obtain rfl:i=0:=ω
  rw[dif_neg (λq=>h0 q.1)];simp
def GX(l:List Cl):List Cl:=uq none (ordF l)
theorem Sw(l:List Ce)(v:Value)(h:Hp)(hK:CsOk l)(hR:RdC h v l):FnT Tryz.prog 74 #[.agg #[v]] h [] (λr h' ms'=>h.le h'/\∃m A,ms'=[m]/\OwnL cC 3 50 m r A/\A.map Ce.c=GX (l.map Ce.c)/\∀a∈A,RdL cD 2 h' [] a.v a.c.sd):=by
 have o1:=hR.q.rd.one;have hn:=hK.n;refine Ao func74 ntmps74 Y Y (λw0 hw0=>?_);simp only[AS];refine As (AK [_] Y Y (by rfl) Y Y Y (λg1=>Qm Y (An (AF λh1 l1 hS=>?_))));have hR:=hR.up l1;have hA0:=Seg.all hS 0 _ Y;refine As (Qf Cz Y (Ql Y Cb (hA0 _) (Qc call126 Y (Ma (l.length+1) l v h1 ω ω hK.s hR) (λr2 h2 ms2 l2 hF=>?_))));obtain⟨l2',m,A,rfl,hO,hA,hs⟩:=hF;refine Bv hO λh3 l3 hRA=>?_;have hs:∀a∈A,RdL cD 2 h3 [] a.v a.c.sd:=λa ha=>(hs a ha).up l3;have lA:A.length=l.length:=by have:=ao List.length hA;rwa [bf,Gs,bf]at this
 have o2:=hRA.rd.one;refine Qm Y (Bw (Qm Y (An (Ac (As (Qm Y (An (Af (B8 ?_)))))))))
 refine AC (λq s h' ms'=>∃(i:Nat) (vo:Value) (mo:Hp),q=A.length-i/\s=[(3,r2),(4,vo),(5,.w i)]/\h3=h'/\ms'=[mo]/\i<=A.length/\OwnL cC 3 50 mo vo (Qn none (A.take i)))
  (A.length-0) _ ⟨0,_,Hp.emp,rfl,rfl,rfl,rfl,ω,OwnL.nil DN⟩ Qs ?_
 rintro q s h' ms' ⟨i,vo,mo,rfl,rfl,rfl,rfl,hi,hO⟩;refine Ac (As (Qm Y (Qm Y (Qx (Aq hRA.rd.any Y Cb Y) Y (Qm Y (An ?_))))));refine Ax Y (λhlt=>?_) (λhlt=>?_)
 ·have hil:i<A.length:=Db hlt;have ovo:=hO.o1;have oav:=(hs _ (ap hil)).rd.one;have hgi:∀ms,Seg h3 ms ((AI r2).add (i*3)) (cC A[i]):=λms=>(hRA.any (ms:=ms)).seg hil;have hci:∀ms,Cell h3 ms ((AI r2).add (i*3)) (.w A[i].c.id):=λms=>(hRA.any (ms:=ms)).cell0 hil Y;have htk:=ZH hil;have hul:(Qn none (A.take i)).length<=100000:=by have:=Aca (A.take i) none;rw[bh]at this;omega
  refine Ah (Ab ?_);refine Bt (λs h' ms'=>∃(vo:Value) (mo:Hp),s=[(3,r2),(4,vo),(5,.w i)]/\h3=h'/\ms'=[mo]/\OwnL cC 3 50 mo vo (Qn none (A.take (i+1)))) ?_ (λs h ms hI=>?_)
  ·refine Af (Ac (BP 14 CK κ Y (Wm Y (Wm Y (Wm Y ?_)))));refine C8 (t:=17) Y (λhs1=>?_) (λhs1=>?_)
   ·rw[dif_neg (λq=>ω)]at htk;refine AG Y Y Y Y Y (AG Y Y Y Y Y (AG Y Y Y Y Y (AG Y Y Y Y Y (AG Y Y Y Y Y (AG Y Y Y Y Y (AG Y Y Y Y Y (AG Y Y Y Y Y (AG Y Y Y Y Y (AG Y Y Y Y Y (AG Y Y Y Y Y (BB (Qk Y (Qm Y (An (AX Y (Ad (Qm Y (Qm Y (Qm Y (Qx (BR (i) hRA.rd.any Y Cb A5 Y Y) Y (Qx (oG Y Jq A5 (hgi _)) Y (AB [_,_,_] Y Cb A5 Y (by rfl) Y Y ω Y Y Y (λg36=>?_)))))))))))))))))))))));refine Cv 1 hO (RdL.one DN (x:=A[i]) Mh Y) Y Cb A5 Y ω Y Y Y (GN (l:=[A[i]]) (λy hy=>by rw[bg.1 hy];exact hs _ (ap hil))) (by(try simp only[ae]);omega) (by(try simp only[ae]);omega) rfl rfl rfl (λv6 m6 hO6=>?_);rw[<-htk]at hO6;refine Qm Y (Am (Ai (AR ?_)));exact AH _ ⟨v6,m6,Y,Y,Y,hO6⟩ Qs
   ·have hip:i-1<A.length:=ω
    have hcp:∀ms,Cell h3 ms ((AI r2).add ((i-1)*3)) (.w A[i-1].c.id):=λms=>(hRA.any (ms:=ms)).cell0 hip Y;refine AQ (Ar Y Y) Y Y Y Y (AQ (Ar Y Y) Y Y Y Y (AQ (BR (i) hRA.rd.any Y Cb A5 Y Y) Y Y Y Y (AQ (oF Cm Y) Y Y Y Y (AQ (oL Y U3 (hci _)) Y Y Y Y (AQ (Ar Y Y) Y Y Y Y (AQ (Ar Y Y) Y Y Y Y (AQ (oS Y) Y Y Y Y (AQ (BR (i-1) hRA.rd.any Y Cb A5 Y Y) Y Y Y Y (AQ (oF Cm Y) Y Y Y Y (AQ (oL Y U3 (hcp _)) Y Y Y Y (BB (Qg (FC Y Y Y) Y (Qm Y (An ?_))))))))))))));refine Ax Y (λhs2=>?_) (λhs2=>?_)
    ·rw[dif_neg (λq=>hs2 q.2.symm)]at htk;refine Ad (Qm Y (Qm Y (Qm Y (Qx (BR (i) hRA.rd.any Y Cb A5 Y Y) Y (Qx (oG Y Jq A5 (hgi _)) Y (AB [_,_,_] Y Cb A5 Y (by rfl) Y Y ω Y Y Y (λg36=>?_)))))));refine Cv 1 hO (RdL.one DN (x:=A[i]) Mh Y) Y Cb A5 Y ω Y Y Y (GN (l:=[A[i]]) (λy hy=>by rw[bg.1 hy];exact hs _ (ap hil))) (by(try simp only[ae]);omega) (by(try simp only[ae]);omega) rfl rfl rfl (λv6 m6 hO6=>?_);rw[<-htk]at hO6;refine Qm Y (Am (Ai (AR ?_)));exact AH _ ⟨v6,m6,Y,Y,Y,hO6⟩ Qs
    ·rw[dif_pos ⟨ω,ω⟩,List.append_nil]at htk;rw[<-htk]at hO;refine Ah (Ai ?_);exact AH _ ⟨vo,mo,Y,Y,Y,hO⟩ Qs
  ·obtain⟨vo,mo,rfl,rfl,rfl,hO⟩:=hI;refine Ad (Qm Y (Qx (oA Y) Y (Qm Y (Am ?_))));exact Ap (A.length-(i+1)) _ ω ⟨i+1,vo,mo,Y,Y,Y,Y,ω,hO⟩ Qs
 ·have hie:i=A.length:=ω
  rw[hie,List.take_length]at hO;refine AA (Aa (Aa (Ag (Ab (As (Qm Y (Qm Y (An (Aj ?_)))))))));exact Al Y Y (⟨AD l1 (AD l2 l3),mo,_,Y,hO,by rw[P7,hA];rfl,λa ha=>hs a (QC _ _ a ha)⟩)
def MF(l:List Cl)(x:Int):Nat:=(l.takeWhile λc=>decide (c.id<x)).length
def MT(l:List Cl)(x:Int):Int:=if h:MF l x<l.length then if l[MF l x].id=x then(MF l x:Nat) else -1 else -1
theorem TB{l:List Cl}{x:Int}{k:Nat}(hk:k<=l.length)(h1:∀j (hj:j<l.length),j<k->l[j].id<x)(h2:∀hk:k<l.length,¬l[k].id<x):MF l x=k:=by obtain⟨e1,_⟩:=Fb (λc:Cl=>decide (c.id<x)) l k hk (λj hj hjk=>bm (h1 j hj hjk)) (λhk=>b7 (h2 hk));unfold MF;rw[e1,bh];omega
theorem Ae5(l:List Ce)(v:Value)(x:Int)(h:Hp)(hn:l.length<=100000)(hst:(l.map Ce.c).Pairwise λa b=>a.id<=b.id)(hR:RdL cC 3 h [] v l)(ms:List Hp):FnV Tryz.prog 109 #[v,.int .i64 x] h ms (.int .i64 (MT (l.map Ce.c) x)):=by
 refine Ea ?_ ms;have o1:=hR.rd.one
 have hsr:∀i j (hi:i<l.length) (hj:j<l.length),i<j->l[i].c.id<=l[j].c.id:=λi j hi hj hij=>by have:=cm.1 hst i j (by simpa using hi) (by simpa using hj) hij;simpa using this
 refine Ao func109 ntmps109 Y Y (λw0 hw0=>?_);simp only[AS];refine As (Qm Y (Bw (Qm Y (Bw (Qm Y (Qx (Aq hR.rd.any Y Cb Y) Y (Qm Y (An (Ac (Af ?_))))))))))
 refine AC (λq s h' ms'=>∃(lo hi:Nat),q=hi-lo/\s=[(0,v),(1,.w x),(5,.w lo),(6,.w hi)]/\h=h'/\ms'=[]/\lo<=hi/\hi<=l.length/\(∀j (hj:j<l.length),j<lo->l[j].c.id<x)/\∀j (hj:j<l.length),hi<=j->¬l[j].c.id<x)
  (l.length-0) _ ⟨0,l.length,rfl,rfl,rfl,rfl,ω,ω,λj hj h=>ω,λj hj h=>ω⟩ Qs ?_
 rintro q s h' ms' ⟨lo,hi,rfl,rfl,rfl,rfl,hlh,hhl,hlo,hhi⟩;refine Ac (As (Qm Y (Qm Y (Qm Y (An ?_)))));refine Ax Y (λhlt=>?_) (λhlt=>?_)
 ·obtain⟨m,hm⟩:∃m,(lo+hi)/2=m:=⟨_,Y⟩
  have hml:m<l.length:=ω
  have hmt:((lo:Int)+hi)/2=(m:Int):=ω
  have hcm:Cell h [] ((AI v).add (m*3)) (.w l[m].c.id):=hR.cell0 hml Y;refine Ah (Ab (Af (As (Qm Y (Qm Y (Qx (oA Y) Y (Qx (DP Y Y Y ω ω) Y (Qm Y (An ?_)))))))));rw[hmt];refine As (Qm Y (Qm Y (Qx (BR (m) hR.rd.any Y Cb A5 Y Y) Y (Qf Cm Y (Ql Y U3 (hcm) (Qm Y (Qm Y (An ?_))))))));refine Ax Y (λhlt2=>?_) (λhlt2=>?_)
  ·refine Ad (Qm Y (Qx (oA Y) Y (Qm Y (Am (Ai ?_)))))
   exact Ap (hi-(m+1)) _ ω ⟨m+1,hi,Y,Y,Y,Y,ω,ω,λj hj h=>by
    rcases (ω:j<m\/j=m) with h1|rfl
    ·have:=hsr j m hj hml h1;omega
    ·exact hlt2,hhi⟩ Qs
  ·refine Ad (Qm Y (Qm Y (Am (Ai ?_))))
   exact Ap (m-lo) _ ω ⟨lo,m,Y,Y,Y,Y,ω,ω,hlo,λj hj h=>by
    rcases (ω:m<j\/j=m) with h1|rfl
    ·have:=hsr m j hml hj h1;omega
    ·exact hlt2⟩ Qs
 ·obtain rfl:lo=hi:=ω
  have hcnt:MF (l.map Ce.c) x=lo:=TB (by rw[bf];omega) (λj hj h=>by rw[gy];exact hlo j (by simpa using hj) h) (λhk=>by rw[gy];exact hhi lo (by simpa using hk) (ak _))
  have hat:MT (l.map Ce.c) x=if h:lo<l.length then(if l[lo].c.id=x then(lo:Int) else -1) else -1:=by unfold MT;simp only[hcnt,bf,gy]
  refine AA (Aa (Aa (Ag (Ab (Ac (As (Qm Y (Qm Y (Qx (Aq hR.rd.any Y Cb Y) Y (Qm Y (Qm Y ?_)))))))))));refine AY (t:=31) Y (λhs1=>?_) (λhs1=>?_)
  ·have hll:lo<l.length:=Db hs1;have hcl:Cell h [] ((AI v).add (lo*3)) (.w l[lo].c.id):=hR.cell0 hll Y;rw[dif_pos hll]at hat;refine Qg (Ar Y Y) Y (Qg (Ar Y Y) Y (Qg (BR (lo) hR.rd.any Y Cb A5 Y Y) Y (Qg (oF Cm Y) Y (Qg (oL Y U3 (hcl)) Y (Qg (Ar Y Y) Y (Qg (Ca Y Y Y) Y (Qm Y (An ?_))))))));refine Ax Y (λhs2=>?_) (λhs2=>?_)
   ·refine Ac (Ad (Qm Y (Qm Y (An (Aj (Ae ?_))))));exact Al Y Y (by rw[hat,af hs2])
   ·refine Ah (Ab (As (Qm Y (An (Aj ?_)))));exact Al Y Y (by rw[hat,ab hs2])
  ·rw[dif_neg ω]at hat;refine Qk Y (Qk Y (Qk Y (Qk Y (Qk Y (Qk Y (Qk Y (Qm Y (An (AN Y (Ah (Ab (As (Qm Y (An (Aj ?_)))))))))))))));exact Al Y Y (by rw[hat])
def Bn(x:Cl)(i:Nat):Int×Int:=x.sd.getD i (0,0)
theorem Bm{x:Cl}{i:Nat}(hi:i<x.sd.length):Bn x i=x.sd[i]:=by simp[Bn,List.getD,hi]
def Dn(l:List Cl)(x:Cl)(i:Nat):Prop:=MT l (Bn x i).1<0\/(l.getD (MT l (Bn x i).1).toNat default).dim≠x.dim-1\/(0<i/\(Bn x i).1=(Bn x (i-1)).1)
instance (l:List Cl) (x:Cl) (i:Nat):Decidable (Dn l x i):=by unfold Dn;infer_instance
def Ck(x:Cl):Prop:=(x.dim=0/\0<x.sd.length)\/(x.dim=1/\x.sd.length≠2)\/(1<x.dim/\(x.sd.length<2\/64<x.sd.length))
instance (x:Cl):Decidable (Ck x):=by unfold Ck;infer_instance
def B1(x:Cl)(i:Nat):Prop:=(Bn x i).2≠1/\(Bn x i).2≠-1
instance (x:Cl) (i:Nat):Decidable (B1 x i):=by unfold B1;infer_instance
def CT(l:List Cl)(x:Cl):Int:=
 if x.dim<0\/8<x.dim then 21
 else if Ck x then 22
 else if ¬∀i,i<x.sd.length->¬Dn l x i then 22
 else if ¬∀i,i<x.sd.length->¬B1 x i then 23
 else if x.dim=1/\(Bn x 0).2=(Bn x 1).2 then 23 else 0
theorem TU(l:List Cl)(x:Int):MT l x<l.length:=by
 unfold MT;split
 ·split
  ·omega
  ·omega
 ·omega
theorem Ab9(l:List Ce)(x:Ce)(v:Value)(h:Hp)(hn:l.length<=100000)(hxn:x.c.sd.length<=100000)(hxd:-9223372036854775807<=x.c.dim/\x.c.dim<=9223372036854775807)(hst:(l.map Ce.c).Pairwise λa b=>a.id<=b.id)(hR:RdL cC 3 h [] v l)(hX:RdL cD 2 h [] x.v x.c.sd)(ms:List Hp):FnV Tryz.prog 127 #[v,.agg #[.int .i64 x.c.id,.int .i64 x.c.dim,x.v]] h ms (.int .i64 (CT (l.map Ce.c) x.c)):=by
 refine Ea ?_ ms;have o1:=hR.rd.one;have o2:=hX.rd.one;refine Ao func127 ntmps127 Y Y (λw0 hw0=>?_);simp only[AS];refine As (AK [_,_,_] Y Y (by rfl) Y Y Y (λg3=>Qm Y (An (AF λh1 l1 hS=>?_))));have hR:=hR.up l1;have hX:=hX.up l1;have hA:=Seg.all hS;refine Ac (As (Qf B7 Y (Ql Y U3 (hA _ _ Y _) (Qm Y (Qm Y ?_)))));refine AY (t:=12) Y (λg1=>?_) (λg1=>?_)
 ·refine Qk Y (Qk Y (Qk Y (Qm Y (An (AX Y (As (Qm Y (An (Aj (Ae ?_))))))))));exact Al Y Y (by unfold CT;rw[af (.inl g1)])
 ·refine Qg (oF B7 Y) Y (Qg (oL Y U3 (hA _ _ Y _)) Y (Qg (Cs Y Y Y) Y (Qm Y (An ?_))));refine Ax Y (λg2=>?_) (λg2=>?_)
  ·refine Ac (Ad (Qm Y (An (Aj (Ae ?_)))));exact Al Y Y (by unfold CT;rw[af (.inr g2)])
  ·have hd:¬(x.c.dim<0\/8<x.c.dim):=ω
   refine Ah (Ab (As (Qf BT Y (Ql Y C0 (hA _ _ Y _) (Qx (Aq hX.rd.any Y C0 Y) Y (Qm Y (An ?_)))))));refine Bt (λs h' ms'=>s=[(0,v),(3,.pt g3),(5,.w x.c.sd.length)]/\h1=h'/\ms'=[]/\¬Ck x.c) ?_ (λs h ms hI=>?_)
   ·refine Ac (Ad (Qf B7 Y (Ql Y U3 (hA _ _ Y _) (Qm Y (Qm Y ?_)))));refine AY (t:=23) Y (λa1=>?_) (λa1=>?_)
    ·refine Qg (Ar Y Y) Y (Qg (Cs Y Y Y) Y (Qm Y (Qm Y ?_)));refine AY (t:=27) Y (λa2=>?_) (λa2=>?_)
     ·refine Qk Y (Qk Y (Qk Y (Qk Y (A7 Y Y Y Y Y Y (A7 Y Y Y Y Y Y (Qk Y (Qm Y (Qm Y (Qk Y (Qk Y (Qk Y (Qk Y (A7 Y Y Y Y Y Y (A7 Y Y Y Y Y Y (A7 Y Y Y Y Y Y (A7 Y Y Y Y Y Y (A7 Y Y Y Y Y Y (A7 Y Y Y Y Y Y (Qk Y (Qm Y (An (AX Y (As (Qm Y (An (Aj (Ae ?_)))))))))))))))))))))))))));exact Al Y Y (by unfold CT;rw[ab hd,af (by unfold Ck;omega)])
     ·refine Qg (oF B7 Y) Y (Qg (oL Y U3 (hA _ _ Y _)) Y (Qg (Ca Y Y Y) Y (Qg (Ar Y Y) Y ?_)));refine AY (t:=31) Y (λa3=>?_) (λa3=>?_)
      ·exact ib a3 ω
      ·refine Qk Y (Qk Y (Qg (CE Y Y Y) Y (Qm Y (Qm Y (Qg (oF B7 Y) Y (Qg (oL Y U3 (hA _ _ Y _)) Y (Qg (Cs Y Y Y) Y (Qg (Ar Y Y) Y ?_))))))));refine AY (t:=40) Y (λa4=>?_) (λa4=>?_)
       ·exact ib a4 ω
       ·refine Qk Y (Qk Y (Qk Y (A7 Y Y Y Y Y Y (A7 Y Y Y Y Y Y (Qk Y (Qg (CE Y Y Y) Y (Qm Y (An (AN Y (Ah ?_))))))))));exact AH _ ⟨Y,Y,Y,by unfold Ck;omega⟩ Qs
    ·refine Qk Y (Qk Y (Qm Y (Qm Y (Qg (oF B7 Y) Y (Qg (oL Y U3 (hA _ _ Y _)) Y (Qg (Ca Y Y Y) Y (Qg (Ar Y Y) Y ?_)))))));refine AY (t:=31) Y (λa3=>?_) (λa3=>?_)
     ·refine Qg (Ar Y Y) Y (Qg (FC Y Y Y) Y (Qg (CW Y Y Y) Y (Qm Y (Qm Y ?_))));refine AY (t:=36) Y (λa5=>?_) (λa5=>?_)
      ·refine Qk Y (Qk Y (Qk Y (Qk Y (A7 Y Y Y Y Y Y (A7 Y Y Y Y Y Y (A7 Y Y Y Y Y Y (A7 Y Y Y Y Y Y (A7 Y Y Y Y Y Y (A7 Y Y Y Y Y Y (Qk Y (Qm Y (An (AX Y (As (Qm Y (An (Aj (Ae ?_))))))))))))))))));exact Al Y Y (by unfold CT;rw[ab hd,af (by unfold Ck;omega)])
      ·refine Qg (oF B7 Y) Y (Qg (oL Y U3 (hA _ _ Y _)) Y (Qg (Cs Y Y Y) Y (Qg (Ar Y Y) Y ?_)));refine AY (t:=40) Y (λa6=>?_) (λa6=>?_)
       ·exact ib a6 ω
       ·refine Qk Y (Qk Y (Qk Y (A7 Y Y Y Y Y Y (A7 Y Y Y Y Y Y (Qk Y (Qg (CE Y Y Y) Y (Qm Y (An (AN Y (Ah ?_))))))))));exact AH _ ⟨Y,Y,Y,by unfold Ck;omega⟩ Qs
     ·refine Qk Y (Qk Y (Qg (CE Y Y Y) Y (Qm Y (Qm Y (Qg (oF B7 Y) Y (Qg (oL Y U3 (hA _ _ Y _)) Y (Qg (Cs Y Y Y) Y (Qg (Ar Y Y) Y ?_))))))));refine AY (t:=40) Y (λa6=>?_) (λa6=>?_)
      ·refine Qg (Ar Y Y) Y (Qg (DB Y Y Y) Y (Qg (Ar Y Y) Y ?_));refine AY (t:=43) Y (λa7=>?_) (λa7=>?_)
       ·refine Qk Y (Qk Y (Qg (CW Y Y Y) Y (Qg (CW Y Y Y) Y (Qm Y (An (AX Y (As (Qm Y (An (Aj (Ae ?_)))))))))));exact Al Y Y (by unfold CT;rw[ab hd,af (by unfold Ck;omega)])
       ·refine Qg (Ar Y Y) Y (Qg (Cs Y Y Y) Y (Qg (CE Y Y Y) Y (Qg (CW Y Y Y) Y (Qm Y (An ?_)))));refine Ax Y (λa8=>?_) (λa8=>?_)
        ·refine Ac (Ad (Qm Y (An (Aj (Ae ?_)))));exact Al Y Y (by unfold CT;rw[ab hd,af (by unfold Ck;omega)])
        ·refine Ah ?_;exact AH _ ⟨Y,Y,Y,by unfold Ck;omega⟩ Qs
      ·exact ib a6 ω
   ·obtain⟨rfl,rfl,rfl,hnb⟩:=hI;refine Ac (As (Qm Y (An (Af ?_))))
    refine AC (λq s h' ms'=>∃(i:Nat),q=x.c.sd.length-i/\s=[(0,v),(3,.pt g3),(5,.w x.c.sd.length),(6,.w i)]/\h1=h'/\ms'=[]/\i<=x.c.sd.length/\∀j,j<i->¬Dn (l.map Ce.c) x.c j)
     (x.c.sd.length-0) _ ⟨0,rfl,rfl,rfl,rfl,ω,λj hj=>ω⟩ Qs ?_
    rintro q s h' ms' ⟨i,rfl,rfl,rfl,rfl,hi,hno⟩;refine Ac (As (Qm Y (Qm Y (Qm Y (An ?_)))));refine Ax Y (λhlt=>?_) (λhlt=>?_)
    ·have hil:i<x.c.sd.length:=Db hlt;have hsi:=Bm hil;have hci:Cell h1 [] ((AI x.v).add (i*2)) (.w x.c.sd[i].1):=hX.cell0 hil Y;obtain⟨k,hk⟩:∃k,MT (l.map Ce.c) x.c.sd[i].1=k:=⟨_,Y⟩
     have hkl:=TU (l.map Ce.c) x.c.sd[i].1;rw[hk,bf]at hkl
     have hround:¬Dn (l.map Ce.c) x.c i->∀j,j<i+1->¬Dn (l.map Ce.c) x.c j:=λhb j hj=>by
      rcases (ω:j<i\/j=i) with h|rfl
      ·exact hno j h
      ·exact hb
     refine Ah (Ab (Ac (Af (As (Qm Y (Qf BT Y (Ql Y C0 (hA _ _ Y _) (Qm Y (Qx (BR (i) hX.rd.any Y C0 BX Y Y) Y (Qf CQ Y (Ql Y U3 (hci) (Qx (Au Y call109 Y (Ae5 l v _ h1 hn hst hR _)) Y (Qm Y (An ?_))))))))))))));rw[hk];refine Ac (BP 30 CK κ Y (Wm Y (Wm Y (Wm Y ?_))));refine C8 (t:=64) Y (λb1=>?_) (λb1=>?_)
     ·refine AG Y Y Y Y Y (AG Y Y Y Y Y (AG Y Y Y Y Y (AG Y Y Y Y Y (AG Y Y Y Y Y (AG Y Y Y Y Y (AG Y Y Y Y Y (AG Y Y Y Y Y (AG Y Y Y Y Y (Wm Y (Wm Y (AG Y Y Y Y Y (AG Y Y Y Y Y (AG Y Y Y Y Y (A3 Y Y Y Y (A3 Y Y Y Y (A3 Y Y Y Y (A3 Y Y Y Y (A3 Y Y Y Y (A3 Y Y Y Y (A3 Y Y Y Y (A3 Y Y Y Y (A3 Y Y Y Y (A3 Y Y Y Y (A3 Y Y Y Y (A3 Y Y Y Y (A3 Y Y Y Y (BB (A7 Y Y Y Y Y Y (Qk Y (Qm Y (An (AX Y (As (Qm Y (An (Aj (Ak (Ae (Ae ?_)))))))))))))))))))))))))))))))))))))));refine Ak (Ae ?_);exact Al Y Y (by unfold CT;rw[ab hd,ab hnb,af (λq=>q i hil (by unfold Dn;rw[hsi,hk];exact .inl b1))])
     ·obtain⟨m,rfl⟩:∃m:Nat,k=m:=⟨k.toNat,ω⟩
      have hml:m<l.length:=ω
      have hcd:Cell h1 [] (((AI v).add (m*3)).add 1) (.w l[m].c.dim):=hR.cell hml (f:=1) Y;have hgd:(l.map Ce.c).getD ((m:Int).toNat) default=l[m].c:=by simp[List.getD,hml]
      refine AQ (Ar Y Y) Y Y Y Y (AQ (Ar Y Y) Y Y Y Y (AQ (BR (m) hR.rd.any Y Cb A5 Y Y) Y Y Y Y (AQ (oF B7 Y) Y Y Y Y (AQ (oL Y U3 (hcd)) Y Y Y Y (AQ (oF B7 Y) Y Y Y Y (AQ (oL Y U3 (hA _ _ Y _)) Y Y Y Y (AQ (oS Y) Y Y Y Y (AQ (FC Y Y Y) Y Y Y Y (Wm Y (Wm Y ?_))))))))));refine C8 (t:=75) Y (λb2=>?_) (λb2=>?_)
      ·refine AG Y Y Y Y Y (AG Y Y Y Y Y (AG Y Y Y Y Y (A3 Y Y Y Y (A3 Y Y Y Y (A3 Y Y Y Y (A3 Y Y Y Y (A3 Y Y Y Y (A3 Y Y Y Y (A3 Y Y Y Y (A3 Y Y Y Y (A3 Y Y Y Y (A3 Y Y Y Y (A3 Y Y Y Y (A3 Y Y Y Y (A3 Y Y Y Y (BB (A7 Y Y Y Y Y Y (Qk Y (Qm Y (An (AX Y (As (Qm Y (An (Aj (Ak (Ae (Ae (Ak (Ae ?_))))))))))))))))))))))))))))));exact Al Y Y (by unfold CT;rw[ab hd,ab hnb,af (λq=>q i hil (by unfold Dn;rw[hsi,hk,hgd];exact .inr (.inl b2)))])
      ·refine AQ (Ar Y Y) Y Y Y Y (AQ (Cs Y Y Y) Y Y Y Y (AQ (Ar Y Y) Y Y Y Y ?_));refine C8 (t:=78) Y (λb3=>?_) (λb3=>?_)
       ·have hip:i-1<x.c.sd.length:=ω
        have hsp:=Bm hip;have hcp:Cell h1 [] ((AI x.v).add ((i-1)*2)) (.w x.c.sd[i-1].1):=hX.cell0 hip Y;refine AQ (oF BT Y) Y Y Y Y (AQ (oL Y C0 (hA _ _ Y _)) Y Y Y Y (AQ (Ar Y Y) Y Y Y Y (AQ (BR (i) hX.rd.any Y C0 BX Y Y) Y Y Y Y (AQ (oF CQ Y) Y Y Y Y (AQ (oL Y U3 (hci)) Y Y Y Y (AQ (oF BT Y) Y Y Y Y (AQ (oL Y C0 (hA _ _ Y _)) Y Y Y Y (AQ (Ar Y Y) Y Y Y Y (AQ (oS Y) Y Y Y Y (AQ (BR (i-1) hX.rd.any Y C0 BX Y Y) Y Y Y Y (AQ (oF CQ Y) Y Y Y Y (AQ (oL Y U3 (hcp)) Y Y Y Y (BB (Qg (Ca Y Y Y) Y (Qg (CW Y Y Y) Y (Qm Y (An ?_)))))))))))))))));refine Ax Y (λb4=>?_) (λb4=>?_)
        ·refine Ac (Ad (Qm Y (An (Aj (Ak (Ae (Ae (Ak (Ae ?_)))))))));exact Al Y Y (by unfold CT;rw[ab hd,ab hnb,af (λq=>q i hil (by unfold Dn;rw[hsi,hsp,hk,hgd];exact .inr (.inr ⟨ω,b4⟩)))])
        ·refine Ah (Ai (Ab (Ad (Qm Y (Qx (oA Y) Y (Qm Y (Am ?_)))))));exact Ap (x.c.sd.length-(i+1)) _ ω ⟨i+1,Y,Y,Y,Y,ω,hround (by unfold Dn;rw[hsi,hsp,hk,hgd];omega)⟩ Qs
       ·refine AG Y Y Y Y Y (AG Y Y Y Y Y (AG Y Y Y Y Y (AG Y Y Y Y Y (AG Y Y Y Y Y (AG Y Y Y Y Y (AG Y Y Y Y Y (AG Y Y Y Y Y (AG Y Y Y Y Y (AG Y Y Y Y Y (AG Y Y Y Y Y (AG Y Y Y Y Y (AG Y Y Y Y Y (BB (Qk Y (Qg (CE Y Y Y) Y (Qm Y (An (AN Y (Ah (Ai (Ab (Ad (Qm Y (Qx (oA Y) Y (Qm Y (Am ?_))))))))))))))))))))))))));exact Ap (x.c.sd.length-(i+1)) _ ω ⟨i+1,Y,Y,Y,Y,ω,hround (by unfold Dn;rw[hsi,hk,hgd];omega)⟩ Qs
    ·obtain rfl:i=x.c.sd.length:=ω
     have hs2:¬¬∀i,i<x.c.sd.length->¬Dn (l.map Ce.c) x.c i:=λq=>q hno;refine AA (Aa (Aa (Ag (Ab (Ac (As (Qm Y (An (Af ?_)))))))))
     refine AC (λq s h' ms'=>∃(i:Nat),q=x.c.sd.length-i/\s=[(0,v),(3,.pt g3),(5,.w x.c.sd.length),(8,.w i)]/\h1=h'/\ms'=[]/\i<=x.c.sd.length/\∀j,j<i->¬B1 x.c j)
      (x.c.sd.length-0) _ ⟨0,rfl,rfl,rfl,rfl,ω,λj hj=>ω⟩ Qs ?_
     rintro q s h' ms' ⟨i,rfl,rfl,rfl,rfl,hi,hno2⟩;refine Ac (As (Qm Y (Qm Y (Qm Y (An ?_)))));refine Ax Y (λhlt2=>?_) (λhlt2=>?_)
     ·have hil:i<x.c.sd.length:=Db hlt2;have hsi:=Bm hil;have hci:Cell h1 [] (((AI x.v).add (i*2)).add 1) (.w x.c.sd[i].2):=hX.cell hil (f:=1) Y
      have hround:¬B1 x.c i->∀j,j<i+1->¬B1 x.c j:=λhb j hj=>by
       rcases (ω:j<i\/j=i) with h|rfl
       ·exact hno2 j h
       ·exact hb
      refine Ah (Ab (Ac (Af (As (Qf BT Y (Ql Y C0 (hA _ _ Y _) (Qm Y (Qx (BR (i) hX.rd.any Y C0 BX Y Y) Y (Qf Eh Y (Ql Y U3 (hci) (Qm Y (Qm Y ?_))))))))))));refine AY (t:=107) Y (λc1=>?_) (λc1=>?_)
      ·refine Qg (oF BT Y) Y (Qg (oL Y C0 (hA _ _ Y _)) Y (Qg (Ar Y Y) Y (Qg (BR (i) hX.rd.any Y C0 BX Y Y) Y (Qg (oF Eh Y) Y (Qg (oL Y U3 (hci)) Y (Qg (FC Y Y Y) Y (Qm Y (An ?_))))))));refine Ax Y (λc2=>?_) (λc2=>?_)
       ·refine Ac (Ad (Qm Y (An (Aj (Ak (Ae (Ae (Ak (Ae ?_)))))))));exact Al Y Y (by unfold CT;rw[ab hd,ab hnb,ab hs2,af (λq=>q i hil (by unfold B1;rw[hsi];exact⟨c1,c2⟩))])
       ·refine Ah (Ai (Ab (Ad (Qm Y (Qx (oA Y) Y (Qm Y (Am ?_)))))));exact Ap (x.c.sd.length-(i+1)) _ ω ⟨i+1,Y,Y,Y,Y,ω,hround (by unfold B1;rw[hsi];exact λq=>c2 q.2)⟩ Qs
      ·refine Qk Y (Qk Y (Qk Y (Qk Y (Qk Y (Qk Y (Qk Y (Qm Y (An (AN Y (Ah (Ai (Ab (Ad (Qm Y (Qx (oA Y) Y (Qm Y (Am ?_)))))))))))))))));exact Ap (x.c.sd.length-(i+1)) _ ω ⟨i+1,Y,Y,Y,Y,ω,hround (by unfold B1;rw[hsi];exact λq=>c1 q.1)⟩ Qs
     ·obtain rfl:i=x.c.sd.length:=ω
      have hs3:¬¬∀i,i<x.c.sd.length->¬B1 x.c i:=λq=>q hno2;refine AA (Aa (Aa (Ag (Ab (Ac (Ac (BP 14 CK κ Y (Wf B7 Y (Wl Y U3 (hA _ _ Y _) (Wm Y (Wm Y ?_)))))))))));refine C8 (t:=119) Y (λd1=>?_) (λd1=>?_)
      ·have h2:x.c.sd.length=2:=by unfold Ck at hnb;omega
       have hl0:0<x.c.sd.length:=ω
       have hl1:1<x.c.sd.length:=ω
       have hs0:=Bm hl0;have hs1:=Bm hl1;have hc0:Cell h1 [] (((AI x.v).add (0*2)).add 1) (.w x.c.sd[0].2):=hX.cell hl0 (f:=1) Y;have hc1:Cell h1 [] (((AI x.v).add (1*2)).add 1) (.w x.c.sd[1].2):=hX.cell hl1 (f:=1) Y;refine AQ (oF BT Y) Y Y Y Y (AQ (oL Y C0 (hA _ _ Y _)) Y Y Y Y (AQ (BR (0) hX.rd.any Y C0 BX Y Y) Y Y Y Y (AQ (oF Eh Y) Y Y Y Y (AQ (oL Y U3 (hc0)) Y Y Y Y (AQ (oF BT Y) Y Y Y Y (AQ (oL Y C0 (hA _ _ Y _)) Y Y Y Y (AQ (BR (1) hX.rd.any Y C0 BX Y Y) Y Y Y Y (AQ (oF Eh Y) Y Y Y Y (AQ (oL Y U3 (hc1)) Y Y Y Y (BB (Qg (Ca Y Y Y) Y (Qm Y (An ?_)))))))))))));refine Ax Y (λd2=>?_) (λd2=>?_)
       ·refine Ac (Ad (Qm Y (An (Aj (Ae ?_)))));exact Al Y Y (by unfold CT;rw[ab hd,ab hnb,ab hs2,ab hs3,af ⟨d1,by rw[hs0,hs1];exact d2⟩])
       ·refine Ah (Ab (As (Qm Y (An (Aj ?_)))));exact Al Y Y (by unfold CT;rw[ab hd,ab hnb,ab hs2,ab hs3,ab (λq=>d2 (by have:=q.2;rwa [hs0,hs1]at this))])
      ·refine AG Y Y Y Y Y (AG Y Y Y Y Y (AG Y Y Y Y Y (AG Y Y Y Y Y (AG Y Y Y Y Y (AG Y Y Y Y Y (AG Y Y Y Y Y (AG Y Y Y Y Y (AG Y Y Y Y Y (AG Y Y Y Y Y (BB (Qk Y (Qm Y (An (AN Y (Ah (Ab (As (Qm Y (An (Aj ?_))))))))))))))))))));exact Al Y Y (by unfold CT;rw[ab hd,ab hnb,ab hs2,ab hs3,ab (λq=>d1 q.1)])
section
variable {n T i k m:Nat} {l pa:List Int} {now old w:Int}
def E3(l:List Int)(x:Int):Nat:=(l.takeWhile λy=>decide (y≠x)).length
theorem Q5(l:List Int)(x:Int):E3 l x<=l.length:=(List.takeWhile_sublist _).length_le
theorem Q8{x:Int}(hk:k<=l.length)(h1:∀j (hj:j<l.length),j<k->l[j]≠x)(h2:∀hk:k<l.length,l[k]=x):E3 l x=k:=by obtain⟨e1,_⟩:=Fb (λy:Int=>decide (y≠x)) l k hk (λj hj hjk=>bm (h1 j hj hjk)) (λhk=>b7 (λq=>q (h2 hk)));unfold E3;rw[e1,bh];omega
def F4(pa:List Int)(m:Nat)(now old:Int):List Int:=pa.mapIdx λj p=>if j<m/\p=now then old else p
theorem DS(pa:List Int)(m:Nat)(now old:Int):(F4 pa m now old).length=pa.length:=by simp[F4]
theorem Fz{j:Nat}(hj:j<pa.length):(F4 pa m now old)[j]'(by rw[DS];exact hj)=if j<m/\pa[j]=now then old else pa[j]:=by simp[F4]
theorem Xa(pa:List Int)(now old:Int):F4 pa 0 now old=pa:=by refine fl (by rw[DS]) λj h1 h2=>?_;rw[Fz h2,ab (λq=>ω)]
theorem Z5(hm:m<pa.length)(h:pa[m]=now):(F4 pa m now old).set m old=F4 pa (m+1) now old:=by
 refine List.ext_getElem (by rw[length_set,DS,DS]) fun j h1 h2=>?_;rw[DS]at h2;rw[List.getElem_set];by_cases e:m=j
 ·subst e;rw[af rfl,Fz h2,af ⟨ω,h⟩]
 ·rw[ab e,Fz h2,Fz h2];by_cases h3:j<m
  ·simp only[h3,true_and,show j<m+1 by omega]
  ·rw[ab (λq=>h3 q.1),ab (λq=>ω)]
theorem Abi(hm:m<pa.length)(h:pa[m]≠now):F4 pa m now old=F4 pa (m+1) now old:=by
 refine fl (by rw[DS,DS]) λj h1 h2=>?_;rw[DS]at h2;rw[Fz h2,Fz h2];by_cases e:m=j
 ·subst e;rw[ab (λq=>ω),ab (λq=>h q.2)]
 ·by_cases h3:j<m
  ·simp only[h3,true_and,show j<m+1 by omega]
  ·rw[ab (λq=>h3 q.1),ab (λq=>ω)]
structure S2 where
 ids:List Int
 su:List Int
 ma:List Int
 fi:List Int
 pa:List Int
def S2.add(S:S2)(i:Nat)(id:Int):S2:=if E3 S.ids id=S.ids.length then⟨S.ids++[id],S.su++[0],S.ma++[0],S.fi++[(i:Int)],S.pa⟩ else S
def S2.hit(S:S2)(i k:Nat)(w:Int):S2:=⟨S.ids,S.su.set k (S.su.getD k 0+w),S.ma.set k (S.ma.getD k 0+1),S.fi,F4 S.pa (i+1) (S.pa.getD i 0) (S.pa.getD (S.fi.getD k 0).toNat 0)⟩
def S2.side(S:S2)(i:Nat)(w:Int)(r:Int×Int):S2:=(S.add i r.1).hit i (E3 S.ids r.1) (w*r.2)
def S2.sides(S:S2)(i:Nat)(w:Int)(l:List (Int×Int)):S2:=l.foldl (λS r=>S.side i w r) S
theorem S2.sides_snoc(S:S2)(i:Nat)(w:Int)(l:List (Int×Int))(r:Int×Int):S.sides i w (l++[r])=(S.sides i w l).side i w r:=by unfold S2.sides;rw[foldl_append];rfl
def S2.start(S:S2)(i:Nat):S2:=⟨S.ids,S.su,S.ma,S.fi,S.pa.set i (i:Int)⟩
def Gq(l:List Cl)(x:Cl)(i:Nat):Cl:=l.getD (MT l (Bn x i).1).toNat default
def HY(l:List Cl)(x:Cl):Nat->S2
 | 0=>⟨[],[],[],[],List.replicate x.sd.length 0⟩
 | i+1=>((HY l x i).start i).sides i (Bn x i).2 (Gq l x i).sd
def ET(l:List Cl)(x:Cl):Int:=
 if ¬∀y∈(HY l x x.sd.length).su,y=0 then 24
 else if ¬∀y∈(HY l x x.sd.length).ma,y=2 then 25
 else if ¬∀y∈(HY l x x.sd.length).pa,y=(HY l x x.sd.length).pa.getD 0 0 then 25 else 0
structure S2.Ok(S:S2)(T n:Nat):Prop where
 s:S.su.length=S.ids.length
 m:S.ma.length=S.ids.length
 f:S.fi.length=S.ids.length
 p:S.pa.length=n
 t:S.ids.length<=T
 sb:∀y∈S.su,-(T:Int)<=y/\y<=T
 mb:∀y∈S.ma,0<=y/\y<=T
 fb:∀y∈S.fi,0<=y/\y<n
theorem H4{a y:Int}(h:y∈l++[a]):y∈l\/y=a:=by
 rcases bl.1 h with h|h
 ·exact .inl h
 ·exact .inr (bg.1 h)
theorem S2.Ok.add{S:S2}(K:S.Ok T n)(hi:i<n)(id:Int):(S.add i id).Ok (T+1) n/\E3 S.ids id<(S.add i id).ids.length:=by
 have hf:=Q5 S.ids id;unfold S2.add;split
 ·rename_i h;refine⟨⟨by simp[K.s],by simp[K.m],by simp[K.f],K.p,by simp[K.t],λy hy=>?_,λy hy=>?_,λy hy=>?_⟩,by rw[ag,ae];omega⟩
  ·rcases H4 hy with h|rfl
   ·have:=K.sb y h;omega
   ·omega
  ·rcases H4 hy with h|rfl
   ·have:=K.mb y h;omega
   ·omega
  ·rcases H4 hy with h|rfl
   ·exact K.fb y h
   ·omega
 ·rename_i h;exact⟨⟨K.s,K.m,K.f,K.p,by have:=K.t;omega,λy hy=>by have:=K.sb y hy;omega,λy hy=>by have:=K.mb y hy;omega,K.fb⟩,ω⟩
theorem QP(hk:k<l.length):l.getD k 0∈l:=by simp[List.getD,hk]
theorem S2.Ok.hit{S:S2}(K:S.Ok (T+1) n){U:S2}(KU:U.Ok T n)(hsu:∀y∈S.su,-(T:Int)<=y/\y<=T)(hma:∀y∈S.ma,0<=y/\y<=T)(hk:k<S.ids.length)(hw:w=1\/w=-1):(S.hit i k w).Ok (T+1) n:=by
 have h1:=hsu _ (QP (show k<S.su.length by rw[K.s];exact hk));have h2:=hma _ (QP (show k<S.ma.length by rw[K.m];exact hk));refine⟨by show(List.set _ _ _).length=_;rw[length_set];exact K.s,by show(List.set _ _ _).length=_;rw[length_set];exact K.m,K.f,by show(F4 _ _ _ _).length=_;rw[DS];exact K.p,K.t,fun y hy=>?_,fun y hy=>?_,K.fb⟩
 ·rcases List.mem_or_eq_of_mem_set hy with h|rfl
  ·exact K.sb y h
  ·rcases hw with rfl|rfl<;>omega
 ·rcases List.mem_or_eq_of_mem_set hy with h|rfl
  ·exact K.mb y h
  ·omega
theorem S2.add_su{S:S2}(K:S.Ok T n)(i:Nat)(id:Int):(∀y∈(S.add i id).su,-(T:Int)<=y/\y<=T)/\∀y∈(S.add i id).ma,0<=y/\y<=T:=by
 unfold S2.add;split
 ·refine⟨λy hy=>?_,λy hy=>?_⟩
  ·rcases H4 hy with h|rfl
   ·exact K.sb y h
   ·omega
  ·rcases H4 hy with h|rfl
   ·exact K.mb y h
   ·omega
 ·exact⟨K.sb,K.mb⟩
theorem S2.Ok.side{S:S2}(K:S.Ok T n)(hi:i<n){r:Int×Int}(hw:w*r.2=1\/w*r.2=-1):(S.side i w r).Ok (T+1) n:=
 S2.Ok.hit (K.add hi r.1).1 K (S2.add_su K i r.1).1 (S2.add_su K i r.1).2 (K.add hi r.1).2 hw
theorem S2.Ok.start{S:S2}(K:S.Ok T n):(S.start i).Ok T n:=⟨K.s,K.m,K.f,by show(List.set _ _ _).length=n;rw[length_set];exact K.p,K.t,K.sb,K.mb,K.fb⟩
theorem RG{a b:Int}(ha:a=1\/a=-1)(hb:b=1\/b=-1):a*b=1\/a*b=-1:=by rcases ha with rfl|rfl<;>rcases hb with rfl|rfl<;>decide
theorem S2.Ok.sides(hi:i<n)(hw:w=1\/w=-1):∀(l:List (Int×Int)) (S:S2) (T:Nat),S.Ok T n->(∀r∈l,r.2=1\/r.2=-1)->(S.sides i w l).Ok (T+l.length) n
 | [],S,T,K,_=>K
 | r::l,S,T,K,h=>by have:=S2.Ok.sides hi hw l (S.side i w r) (T+1) (K.side hi (RG hw (h r Mh))) (fun r hr=>h r (mem_cons_of_mem _ hr));rw[length_cons,show T+(l.length+1)=T+1+l.length by omega];exact this
end
end Go.Proofs.Q