/- A part of the proof. -/
import Derived.Test.YtmgaeedkcecckaaGreatDoorRB
import Derived.Test.YtmgaeedkcecckaaGreatDoorChecked
import Derived.KernelRfl
import Derived.WalkArith
set_option linter.unusedSimpArgs false
set_option linter.unusedVariables false
set_option linter.unusedSectionVars false
set_option maxRecDepth 100000
set_option maxHeartbeats 4000000
open List (length_map length_singleton getElem_mem length_append nil_append length_take mem_cons map_append mem_cons_self mem_cons_of_mem length_nil length_drop map_map map_cons length_set append_assoc getElem_map length_cons mem_append_left map_congr_left foldl_append sum_cons sum_append not_mem_nil)
namespace Go.Sm
open Go.Lin
variable {n B c t m:Nat} {M:List (List Int)}
structure FS where
 (u ui d v vi:List (List Int))
structure FS.Ok(n m B:Nat)(S:FS):Prop where
 su:Shape n n S.u
 sui:Shape n n S.ui
 sd:Shape n m S.d
 sv:Shape m m S.v
 svi:Shape m m S.vi
 bu:BqM B S.u
 bui:BqM B S.ui
 bd:BqM B S.d
 bv:BqM B S.v
 bvi:BqM B S.vi
def Tn.bk(t:Tn):Tn:=⟨t.d,-t.c,-t.b,t.a⟩
theorem BqT.bk{t:Tn}(h:BqT t):BqT t.bk:=⟨h.2.2.2,h.2.2.1.neg,h.2.1.neg,h.1⟩
theorem BqT.back{t:Tn}(h:BqT t):BqT ⟨t.d,-t.b,-t.c,t.a⟩:=⟨h.2.2.2,h.2.1.neg,h.2.2.1.neg,h.1⟩
def FS.rop(n m i k:Nat)(t:Tn)(S:FS):FS:={ S with d:=Ft i k t S.d m,u:=Ft i k t S.u n,ui:=Fm i k t.bk S.ui n }
def FS.cop(n m i k:Nat)(t:Tn)(S:FS):FS:={ S with d:=Fm i k t S.d n,v:=Fm i k t S.v m,vi:=Ft i k t.bk S.vi m }
theorem BqM.mono{C:Nat}(h:BqM B M)(hBC:B<=C):BqM C M:=λi j=>(h i j).mono hBC
theorem FS.Ok.mono{C:Nat}{S:FS}(h:S.Ok n m B)(hBC:B<=C):S.Ok n m C:=
 ⟨h.su,h.sui,h.sd,h.sv,h.svi,h.bu.mono hBC,h.bui.mono hBC,h.bd.mono hBC,h.bv.mono hBC,h.bvi.mono hBC⟩
theorem FS.Ok.rop{S:FS}(h:S.Ok n m B){i k:Nat}{t:Tn}(ht:BqT t)(hi:i<n)(hk:k<n)(hik:i≠k):(S.rop n m i k t).Ok n m (B+33):=
 ⟨h.su.rows _ _ _ _,h.sui.cols _ _ _ _,h.sd.rows _ _ _ _,h.sv,h.svi,h.bu.rows h.su ht hi hk hik (am _),h.bui.cols h.sui ht.bk hi hk hik (am _),h.bd.rows h.sd ht hi hk hik (am _),h.bv.mono ω,h.bvi.mono ω⟩
theorem FS.Ok.cop{S:FS}(h:S.Ok n m B){i k:Nat}{t:Tn}(ht:BqT t)(hi:i<m)(hk:k<m)(hik:i≠k):(S.cop n m i k t).Ok n m (B+33):=
 ⟨h.su,h.sui,h.sd.cols _ _ _ _,h.sv.cols _ _ _ _,h.svi.rows _ _ _ _,h.bu.mono ω,h.bui.mono ω,h.bd.cols h.sd ht hi hk hik (am _),h.bv.cols h.sv ht hi hk hik (am _),h.bvi.rows h.svi ht.bk hi hk hik (am _)⟩
def negRow(t:Nat)(M:List (List Int)):Nat->List (List Int)
 | 0=>M
 | q+1=>FT (negRow t M q) t q (-(AV (negRow t M q) t q))
def negCol(t:Nat)(M:List (List Int)):Nat->List (List Int)
 | 0=>M
 | q+1=>FT (negCol t M q) q t (-(AV (negCol t M q) q t))
theorem Shape.negRow(S:Shape n c M)(t:Nat):∀q,Shape n c (negRow t M q)
 | 0=>S
 | q+1=>(S.negRow t q).set _ _ _
theorem Shape.negCol(S:Shape n c M)(t:Nat):∀q,Shape n c (negCol t M q)
 | 0=>S
 | q+1=>(S.negCol t q).set _ _ _
theorem E8(S:Shape n c M)(ht:t<n):∀q,q<=c->∀a b,AV (negRow t M q) a b=if a=t/\b<q then -(AV M a b) else AV M a b
 | 0,_,a,b=>by rw[ae ω];rfl
 | q+1,hq,a,b=>by
  have ih:=E8 S ht q ω;show AV (FT _ _ _ _) a b=_;rw[Iw (S.negRow t q) _ ht ω,ih t q,ih a b,ae (show ¬(t=t/\q<q) by omega)];by_cases h1:a=t/\b=q
  ·obtain⟨rfl,rfl⟩:=h1;rw[ah ⟨rfl,rfl⟩,ah ⟨rfl,ω⟩]
  ·rw[ae h1];by_cases h2:a=t/\b<q
   ·rw[ah h2,ah ⟨h2.1,ω⟩]
   ·rw[ae h2,ae ω]
theorem Hk(S:Shape n c M)(ht:t<c):∀q,q<=n->∀a b,AV (negCol t M q) a b=if b=t/\a<q then -(AV M a b) else AV M a b
 | 0,_,a,b=>by rw[ae ω];rfl
 | q+1,hq,a,b=>by
  have ih:=Hk S ht q ω;show AV (FT _ _ _ _) a b=_;rw[Iw (S.negCol t q) _ ω ht,ih q t,ih a b,ae (show ¬(t=t/\q<q) by omega)];by_cases h1:a=q/\b=t
  ·obtain⟨rfl,rfl⟩:=h1;rw[ah ⟨rfl,rfl⟩,ah ⟨rfl,ω⟩]
  ·rw[ae h1];by_cases h2:b=t/\a<q
   ·rw[ah h2,ah ⟨h2.1,ω⟩]
   ·rw[ae h2,ae ω]
theorem BqM.negRow(h:BqM B M)(S:Shape n c M){q:Nat}(ht:t<n)(hq:q<=c):BqM B (negRow t M q):=λa b=>by
 rw[E8 S ht q hq];split
 ·exact(h a b).neg
 ·exact h a b
theorem BqM.negCol(h:BqM B M)(S:Shape n c M){q:Nat}(ht:t<c)(hq:q<=n):BqM B (negCol t M q):=λa b=>by
 rw[Hk S ht q hq];split
 ·exact(h a b).neg
 ·exact h a b
def FS.neg(n m t:Nat)(S:FS):FS:={ S with d:=negRow t S.d m,u:=negRow t S.u n,ui:=negCol t S.ui n }
theorem FS.Ok.neg{S:FS}(h:S.Ok n m B)(ht:t<n):(S.neg n m t).Ok n m B:=
 ⟨h.su.negRow _ _,h.sui.negCol _ _,h.sd.negRow _ _,h.sv,h.svi,h.bu.negRow h.su ht (am _),h.bui.negCol h.sui ht (am _),h.bd.negRow h.sd ht (am _),h.bv,h.bvi⟩
structure St where
 S:FS
 b:Nat
def wrd(x:Int):Bool:=Nat.blt x.natAbs 2147483648
def St.row(n m i k:Nat)(t:Tn)(s:St):Option St:=if Nat.blt s.b 20000 then some ⟨s.S.rop n m i k t,s.b+1⟩ else none
def St.col(n m i k:Nat)(t:Tn)(s:St):Option St:=if Nat.blt s.b 20000 then some ⟨s.S.cop n m i k t,s.b+1⟩ else none
def UP(op:Tn->Option St)(x y:Int)(s:St):Option (St×Bool):=
 if y=0 then some (s,false)
 else if x=0\/wrd x=false\/wrd y=false then none
 else if y%x=0 then(op ⟨1,0,-(y/x),1⟩).map (·,false)
 else none
def GJ(n m t:Nat):Nat->Nat->St->Option St   -- fuel,row
 | 0,_,s=>some s
 | f+1,i,s=>match UP (λT=>s.row n m t i T) (AV s.S.d t t) (AV s.S.d i t) s with
  | none=>none
  | some (s',_)=>GJ n m t f (i+1) s'
def F9(n m t:Nat):Nat->Nat->Bool->St->Option (St×Bool)
 | 0,_,c,s=>some (s,c)
 | f+1,j,c,s=>match UP (λT=>s.col n m t j T) (AV s.S.d t t) (AV s.S.d t j) s with
  | none=>none
  | some (s',c')=>F9 n m t f (j+1) (c||c') s'
def pass(n m t:Nat)(s:St):Option (St×Bool):=match GJ n m t (n-(t+1)) (t+1) s with
 | none=>none
 | some s'=>F9 n m t (m-(t+1)) (t+1) false s'
def Er(n m t:Nat):Nat->St->Option St
 | 0,_=>none
 | f+1,s=>match pass n m t s with
  | none=>none
  | some (s',true)=>Er n m t f s'
  | some (s',false)=>some s'
def OM(M:List (List Int))(n j:Nat):Nat->Nat->Option Nat
 | 0,_=>none
 | f+1,i=>if AV M i j≠0 then some i else OM M n j f (i+1)
def KB(M:List (List Int))(n t:Nat):Nat->Nat->Option (Nat×Nat)
 | 0,_=>none
 | f+1,j=>match OM M n j (n-t) t with
  | some i=>some (i,j)
  | none=>KB M n t f (j+1)
def swp:Tn:=⟨0,1,-1,0⟩
def Fy(n m t:Nat)(s:St):Option (St×Bool):=match KB s.S.d n t (m-t) t with
 | none=>some (s,false)
 | some (i,j)=>match (if i=t then some s else s.row n m t i swp) with
  | none=>none
  | some s1=>match (if j=t then some s1 else s1.col n m t j swp) with
   | none=>none
   | some s2=>some (s2,true)
def Ab0(M:List (List Int))(t i:Nat)(p:Int):Nat->Nat->Bool
 | 0,_=>true
 | f+1,j=>decide (AV M i j%p=0)&&Ab0 M t i p f (j+1)
def Sl(M:List (List Int))(m t:Nat)(p:Int):Nat->Nat->Bool
 | 0,_=>true
 | f+1,i=>Ab0 M t i p (m-(t+1)) (t+1)&&Sl M m t p f (i+1)
def Lz(n m t:Nat)(s:St):Option St:=match Er n m t 10 s with
 | none=>none
 | some s1=>if AV s1.S.d t t=0\/wrd (AV s1.S.d t t)=false then none
  else if Sl s1.S.d m t (AV s1.S.d t t) (n-(t+1)) (t+1) then
   (if AV s1.S.d t t<0 then some ⟨s1.S.neg n m t,s1.b⟩ else some s1)
  else none
def Fg(n m:Nat):Nat->Nat->St->Option St
  | 0,_,s=>some s
  | f+1,t,s=>if t<min n m then(match Fy n m t s with
      | none=>none
      | some (s1,false)=>some s1
      | some (s1,true)=>match Lz n m t s1 with
        | none=>none
        | some s2=>Fg n m f (t+1) s2)
    else some s
end Go.Sm
namespace Go.Sm
variable {n m t:Nat} {s s':St}
theorem St.row_b{i k:Nat}{t:Tn}(h:s.row n m i k t=some s'):s'.b<=20000:=by
 unfold St.row at h;split at h
 ·rename_i hb;rw[Nat.blt_eq]at hb;have h:=bf h;subst h;exact hb
 ·cases h
theorem St.col_b{i k:Nat}{t:Tn}(h:s.col n m i k t=some s'):s'.b<=20000:=by
 unfold St.col at h;split at h
 ·rename_i hb;rw[Nat.blt_eq]at hb;have h:=bf h;subst h;exact hb
 ·cases h
theorem AcZ{op:Tn->Option St}{x y:Int}{c:Bool}(hop:∀T s',op T=some s'->s'.b<=20000)(hs:s.b<=20000)(h:UP op x y s=some (s',c)):s'.b<=20000:=by
 unfold UP at h;split at h
 ·have h:=bf h;injection h with h1 h2;subst h1;exact hs
 ·split at h
  ·cases h
  ·split at h
   ·obtain⟨z,e1,e2⟩:=Option.map_eq_some_iff.1 h;injection e2 with e2 _;subst e2;exact hop _ _ e1
   ·cases h
theorem VE:∀{f i:Nat} {s s':St},s.b<=20000->GJ n m t f i s=some s'->s'.b<=20000
 | 0,i,s,s',hs,h=>by have h:=bf h;subst h;exact hs
 | f+1,i,s,s',hs,h=>by
  unfold GJ at h;split at h
  ·cases h
  ·rename_i s1 c e;exact VE (AcZ (λT s' q=>St.row_b q) hs e) h
theorem VN:∀{f j:Nat} {c c':Bool} {s s':St},s.b<=20000->F9 n m t f j c s=some (s',c')->s'.b<=20000
 | 0,j,c,c',s,s',hs,h=>by have h:=bf h;injection h with h _;subst h;exact hs
 | f+1,j,c,c',s,s',hs,h=>by
  unfold F9 at h;split at h
  ·cases h
  ·rename_i s1 c1 e;exact VN (AcZ (λT s' q=>St.col_b q) hs e) h
theorem SY:∀{f:Nat} {s s':St},s.b<=20000->Er n m t f s=some s'->s'.b<=20000
 | 0,s,s',hs,h=>by cases h
 | f+1,s,s',hs,h=>by
  unfold Er pass at h;cases e1:GJ n m t (n-(t+1)) (t+1) s with
  | none=>rw[e1]at h;cases h
  | some s1=>
   rw[e1]at h;have h1:=VE hs e1;simp only at h;cases e2:F9 n m t (m-(t+1)) (t+1) false s1 with
   | none=>rw[e2]at h;cases h
   | some p=>
    obtain⟨s2,c⟩:=p;rw[e2]at h;have h2:=VN h1 e2;cases c with
    | true=>exact SY h2 h
    | false=>have h:=bf h;subst h;exact h2
theorem Yq{r:Bool}(hs:s.b<=20000)(h:Fy n m t s=some (s',r)):s'.b<=20000:=by
 unfold Fy at h;cases e0:KB s.S.d n t (m-t) t with
 | none=>rw[e0]at h;have h:=bf h;injection h with h _;subst h;exact hs
 | some p=>
  obtain⟨i,j⟩:=p;rw[e0]at h;simp only at h;cases e1:(if i=t then some s else s.row n m t i swp) with
  | none=>rw[e1]at h;cases h
  | some s1=>
   rw[e1]at h
   have h1:s1.b<=20000:=by
    split at e1
    ·have e1:=bf e1;subst e1;exact hs
    ·exact St.row_b e1
   simp only at h;cases e2:(if j=t then some s1 else s1.col n m t j swp) with
   | none=>rw[e2]at h;cases h
   | some s2=>
    rw[e2]at h
    have h2:s2.b<=20000:=by
     split at e2
     ·have e2:=bf e2;subst e2;exact h1
     ·exact St.col_b e2
    have h:=bf h;injection h with h _;subst h;exact h2
end Go.Sm
namespace Go.Sm
open Go.Eng Go.RowKit Go.Lin
variable {c B r:Nat} {S:FS}
theorem flat_at?:∀(M:List (List Int)),(∀l∈M,l.length=c)->∀k,k<M.length*c->M.flatten[k]?=some ((M.getD (k/c) []).getD (k%c) 0)
 | [],_,k,h=>by simp at h
 | l::M,hr,k,h=>by
  have hl:l.length=c:=hr l ax
  have hc:0<c:=by
   rcases f9 c with e|e
   ·rw[e,Nat.mul_zero]at h;omega
   ·exact e
  rw[List.flatten_cons];by_cases hk:k<c
  ·rw[d5 ω,fj hk,db hk];simp[List.getD,hl,hk]
  ·have hk:c<=k:=ω
   rw[d8,cw,fp]at h;rw[List.getElem?_append_right ω,hl,flat_at? M (λl h=>hr l (bi _ h)) (k-c) ω,Nat.div_eq_sub_div hc hk,Nat.mod_eq_sub_mod hk];simp[List.getD]
theorem Shape.lens{n:Nat}{M:List (List Int)}(S:Shape n c M):∀l∈M,l.length=c:=λl hl=>by obtain⟨i,hi,rfl⟩:=dm.1 hl;have:=S.row i (by have:=S.len;omega);simpa[List.getD,hi] using this
theorem Shape.flat{n:Nat}{M:List (List Int)}(S:Shape n c M):M.flatten=DW n c (AV M):=by
 refine List.ext_getElem? λk=>?_;by_cases hk:k<n*c
 ·rw[mat_at? hk,flat_at? M S.lens k (by rw[S.len];exact hk)];rfl
 ·have e1:M.flatten.length=n*c:=by
   have:∀(M:List (List Int)),(∀l∈M,l.length=c)->M.flatten.length=M.length*c:=by
    intro M
    induction M with
    | nil=>intro _;simp
    | cons l M ih=>intro h;rw[List.flatten_cons,af,ih λl q=>h l (bi _ q),h l ax,d8,cw,fp,Nat.add_comm]
   rw[this M S.lens,S.len]
  rw[eq ω,eq (by rw[Ca];omega)]
theorem Kb{g:Nat->Int}:∀(k:Nat),(∀t,t<k->Bq B (g t))->Bq (B+k) (sm k g)
 | 0,_=>Bq.zero _
 | k+1,h=>by have h1:=Kb k λt ht=>h t ω;have h2:=(h k ω).mono (show B<=B+k by omega);exact(h1.add h2).mono ω
theorem FS.Ok.mu(O:S.Ok r c B):S.u.flatten=DW r r (AV S.u):=O.su.flat
theorem FS.Ok.md(O:S.Ok r c B):S.d.flatten=DW r c (AV S.d):=O.sd.flat
theorem FS.Ok.mv(O:S.Ok r c B):S.v.flatten=DW c c (AV S.v):=O.sv.flat
end Go.Sm
namespace Go.Eng
open Go.RowKit
variable {s:AE} {h h0:Hp} {P:Program} {w0:World} {ms0 ms:List Hp} {n:Nat} {fn:Func} {post:Value->Hp->List Hp->Prop}
theorem Nz{t t2 t3:Nat}{ty ty2 ty3 el el2 Bk:TypeId}{g g2 g3:Nat}{d d2 d3:TypeDesc}{sz:Nat}{z v1 v3:Value}{bytes:Nat}{vs2:List Value}
  (hr:fn.results=#[.cell t ty,.cell t2 ty2,.cell t3 ty3]) (hv:lk s t=some (.pt g)) (hv2:lk s t2=some (.pt g2)) (hv3:lk s t3=some (.pt g3)) (ht:P.underlying ty=some d) (hd:Ih d=false) (ht2:P.underlying ty2=some d2) (hd2:Ih d2=true) (hs:Elem P ty2 sz z bytes) (hl2:vs2.length=sz) (ht3:P.underlying ty3=some d3) (hd3:Ih d3=false)
  (hp:post (.tuple #[v1,.agg vs2.toArray,v3]) h []) :
  NX ⟨P,w0,h0,ms0,n,[]⟩ (bodyPost P fn (RP w0 h0 ms0 post)) .ret s h [BI g3 Bk [v3],BI g2 el2 vs2,BI g el [v1]]:=λa w ha hw=>by
 have h1:a.tmps[t]?.getD undef=.pt g:=by rw[ha.slots t _ hv];rfl
 have h1':a.tmps[t2]?.getD undef=.pt g2:=by rw[ha.slots t2 _ hv2];rfl
 have h1'':a.tmps[t3]?.getD undef=.pt g3:=by rw[ha.slots t3 _ hv3];rfl
 have hag:(isAgg ty).run P w=.ok false w:=by rw[Ds ht,hd]
 have hag2:(isAgg ty2).run P w=.ok true w:=by rw[Ds ht2,hd2]
 have hag3:(isAgg ty3).run P w=.ok false w:=by rw[Ds ht3,hd3]
 have c1:=hw.st.cell (Cell.blk0 (el:=el) (h:=h) (ms:=[BI g3 Bk [v3],BI g2 el2 vs2,BI g el [v1]]) 2 Y (l:=[v1]) Y);have c3:=hw.st.cell (Cell.blk0 (el:=Bk) (h:=h) (ms:=[BI g3 Bk [v3],BI g2 el2 vs2,BI g el [v1]]) 0 Y (l:=[v3]) Y);have hc2:∀j v,vs2[j]?=some v->w.cell? ((⟨g2,0,none⟩:Addr).add j)=some v:=λj v e=>hw.st.cell (Seg.blk (el:=el2) 1 Y j v e);refine bodyPost_ret (v:=.tuple #[v1,.agg vs2.toArray,v3]) ?_ ha.defers ⟨_,h,_,Y,Ends.drop<|Ends.drop<|Ends.drop hw,hp⟩;have e2:=run_loadCells_list (P:=P) w _ vs2 hc2;rw[hl2]at e2;simp[results,hr,h1,h1',h1'',asAddr,loadVar,hag,hag2,hag3,hs.sizeOf,c1,e2,c3]
theorem AbB{e:Entry}{id:Nat}{l:List Oper}{Q:Exit->Act->World->Prop}(np:Nat)(hm:e.P.follows .mixedOrders=true)(hp:Q3 [] l.toArray np=true)(hf:Ki e.n (l.take np) s=true)(hnd:Jd l=true)
  (k:WR e l.toArray Q (l.drop np) h ms (l.take np) s [] []):RS e (.region id l.toArray true) Q s h ms:=by
 intro _ _ a w ha hw hq;refine wpIn_region_any hm<|Aae hq hnd _ _ _ _<|Qy np hp hf k σ (λi=>by rw[Cu];rfl) (λi o hi=>by rw[Cu]at hi;cases hi) (λi hi=>by cases hi) ?_ ha hw;unfold left;rw[Array.toList_replicate];exact bl (List.countP_le_length) σ
theorem Nu{t a b g:Nat}{ty el:TypeId}{d:TypeDesc}{sz:Nat}{z va vb:Value}{bytes:Nat}{vs:List Value}
  (i:Nat) (hr:fn.results=#[.tmp a,.cell t ty,.tmp b]) (hva:lk s a=some va) (hv:lk s t=some (.pt g)) (hvb:lk s b=some vb) (ht:P.underlying ty=some d) (hd:Ih d=true) (hs:Elem P ty sz z bytes) (hl:vs.length=sz) (hc:ms[i]?=some (BI g el vs)) (hp:post (.tuple #[va,.agg vs.toArray,vb]) h (ms.eraseIdx i)) :
  NX ⟨P,w0,h0,ms0,n,[]⟩ (bodyPost P fn (RP w0 h0 ms0 post)) .ret s h ms:=λx w ha hw=>by
 have h1:x.tmps[t]?.getD undef=.pt g:=by rw[ha.slots t _ hv];rfl
 have h2:x.tmps[a]?.getD undef=va:=by rw[ha.slots a _ hva];rfl
 have h3:x.tmps[b]?.getD undef=vb:=by rw[ha.slots b _ hvb];rfl
 have hag:(isAgg ty).run P w=.ok true w:=by rw[Ds ht,hd]
 have hc':∀j v,vs[j]?=some v->w.cell? ((⟨g,0,none⟩:Addr).add j)=some v:=λj v e=>hw.st.cell (Seg.blk i hc j v e);refine bodyPost_ret (v:=.tuple #[va,.agg vs.toArray,vb]) ?_ ha.defers ⟨_,h,_,Y,Ends.erase hw hc,hp⟩;subst hl;simp[results,hr,h1,h2,h3,asAddr,loadVar,hag,hs.sizeOf,run_loadCells_list (P:=P) w _ vs hc']
theorem WC{x:Exit}(hx:x=.normal\/x=.ret)(k:NX ⟨P,w0,h0,ms0,n,[]⟩ (bodyPost P fn (RP w0 h0 ms0 post)) x s h ms) :
  NX ⟨P,w0,h0,ms0,n,[]⟩ (bodyPostM Fence.wide 0 P fn (RP w0 h0 ms0 post)) x s h ms:=by
 intro a w ha hw;have hb:=k a w ha hw;have hd:a.defers=[]:=ha.defers
 have goal:LeavesInM Fence.wide 0 P fn a.tmps (RP w0 h0 ms0 post) a.defers .returning w:=by rw[hd];rcases hx with rfl|rfl<;>· obtain⟨_,v,hr,hR⟩:=hb;exact⟨v,hr,hR⟩
 rcases hx with rfl|rfl<;>exact goal
end Go.Eng
namespace Go.Ch
open Go.Eng Go.Sm
variable {f:Int->Int}
abbrev Tm:=Int×Int
def tv(T:List Tm)(c:Int):Int:=(BJ T c).getD 0
def JO(T:List Tm)(c n:Int):List Tm:=Dw T c (tv T c+n)
theorem Aa5(T:List Tm)(c n b:Int):tv (Dw T c n) b=if b=c then n else tv T b:=by unfold tv;rw[FW];split<;>rfl
theorem Abl(T:List Tm)(c n b:Int):tv (JO T c n) b=tv T b+if b=c then n else 0:=by
 unfold JO;rw[Aa5];split
 ·rename_i e;rw[e]
 ·omega
def Ja(l:List Tm):List Tm:=l.foldl (λT p=>JO T p.1 p.2) []
theorem JQ(l:List Tm)(p:Tm):Ja (l++[p])=JO (Ja l) p.1 p.2:=by unfold Ja;rw[foldl_append];rfl
def cf(l:List Tm)(c:Int):Int:=(l.map λp=>if p.1=c then p.2 else 0).sum
theorem FB(c:Int):cf [] c=0:=rfl
theorem CI(p:Tm)(l:List Tm)(c:Int):cf (p::l) c=(if p.1=c then p.2 else 0)+cf l c:=rfl
theorem Ej(l r:List Tm)(c:Int):cf (l++r) c=cf l c+cf r c:=by unfold cf;rw[dd,sum_append]
theorem Yd(l:List Tm):∀(T:List Tm) (c:Int),tv (l.foldl (λT p=>JO T p.1 p.2) T) c=tv T c+cf l c:=by
 induction l with
 | nil=>intro T c;rw[FB];simp
 | cons p l ih=>
  intro T c;rw[ge,ih,Abl,CI];by_cases e:c=p.1
  ·rw[ah e,ah e.symm];omega
  ·rw[ae e,ae (λh=>e h.symm)];omega
theorem E9(l:List Tm)(c:Int):tv (Ja l) c=cf l c:=by have:=Yd l [] c;unfold Ja;rw[this];show(0:Int)+_=_;omega
theorem XH(T:List Tm)(c n b:Int):b∈(JO T c n).map Prod.fst<->b=c\/b∈T.map Prod.fst:=by
 unfold JO Dw;split
 ·rename_i h
  have e:(T.map λp=>if p.1=c then(c,tv T c+n) else p).map Prod.fst=T.map Prod.fst:=by
   rw[gg];refine map_congr_left λp _=>?_;show(if p.1=c then(c,tv T c+n) else p).1=p.1;split
   ·rename_i e;exact e.symm
   ·rfl
  rw[e];exact⟨.inr,λq=>q.elim (λe=>e ▸ h) id⟩
 ·rw[dd,bj];simp only[dr,List.map_nil,bm];exact Or.comm
theorem T7(l:List Tm):∀(T:List Tm) (b:Int),b∈(l.foldl (λT p=>JO T p.1 p.2) T).map Prod.fst<->b∈T.map Prod.fst\/b∈l.map Prod.fst:=by
 induction l with
 | nil=>intro T b;simp
 | cons p l ih=>
  intro T b;rw[ge,ih,XH,dr,bg];rw[or_assoc,or_comm (a:=b=p.1),or_assoc,or_comm (a:=b∈l.map Prod.fst)]
theorem M5(l:List Tm)(b:Int):b∈(Ja l).map Prod.fst<->b∈l.map Prod.fst:=by unfold Ja;rw[T7];simp
theorem YR(T:List Tm)(c n:Int):(Dw T c n).length<=T.length+1:=by unfold Dw;split<;>simp
theorem IV(l:List Tm):(Ja l).length<=l.length:=by
 have key:∀(l T:List Tm),(l.foldl (λT p=>JO T p.1 p.2) T).length<=T.length+l.length:=by
  intro l
  induction l with
  | nil=>intro T;simp
  | cons p l ih=>
   intro T;rw[ge];have h1:=ih (JO T p.1 p.2);have h2:(JO T p.1 p.2).length<=T.length+1:=YR _ _ _;rw[d8];omega
 have:=key l [];simpa[Ja] using this
def Bf(l:List Tm):Nat:=(l.map λp=>p.2.natAbs).sum
theorem Bn(l r:List Tm):Bf (l++r)=Bf l+Bf r:=by unfold Bf;rw[dd,sum_append]
theorem Dv(p:Tm)(l:List Tm):Bf (p::l)=p.2.natAbs+Bf l:=rfl
theorem CW(l:List Tm)(c:Int):(cf l c).natAbs<=Bf l:=by
 induction l with
 | nil=>exact am _
 | cons p l ih=>
  rw[CI,Dv];split<;>omega
theorem HE{l:List Tm}{p:Tm}(h:p∈l):p.2.natAbs<=Bf l:=by
 induction l with
 | nil=>cases h
 | cons q l ih=>
  rw[Dv];rcases bg.1 h with rfl|h
  ·omega
  ·have:=ih h;omega
structure CanL(l:List Tm)(f:Int->Int):Prop where
 srt:l.Pairwise λp q=>p.1<q.1
 val:∀p∈l,p.2=f p.1/\p.2≠0
 all:∀c,f c≠0->(c,f c)∈l
theorem CanL.mem{l:List Tm}(h:CanL l f)(p:Tm):p∈l<->p.2=f p.1/\p.2≠0:=
 ⟨h.val p,λ⟨e,n⟩=>by
  have:=h.all p.1 (e ▸ n)
  rwa [<-e]at this⟩
theorem UB:∀{l r:List Tm},l.Pairwise (λp q=>p.1<q.1)->r.Pairwise (λp q=>p.1<q.1)->(∀p,p∈l<->p∈r)->l=r
 | [],[],_,_,_=>rfl
 | [],q::r,_,_,h=>ie ((h q).2 ax) σ
 | p::l,[],_,_,h=>ie ((h p).1 ax) σ
 | p::l,q::r,hl,hr,h=>by
  obtain⟨h1,h2⟩:=b7.1 hl;obtain⟨h3,h4⟩:=b7.1 hr
  have e:p=q:=by
   rcases bg.1 ((h p).1 ax) with e|e
   ·exact e
   ·rcases bg.1 ((h q).2 ax) with e'|e'
    ·exact e'.symm
    ·have a:=h3 p e;have b:=h1 q e';omega
  subst e
  have hlt:l=r:=UB h2 h4 λx=>by
   have hx:=h x;simp only[bg]at hx;constructor
   ·intro m;rcases hx.1 (.inr m) with rfl|m'
    ·have:=h1 x m;omega
    ·exact m'
   ·intro m;rcases hx.2 (.inr m) with rfl|m'
    ·have:=h3 x m;omega
    ·exact m'
  rw[hlt]
theorem CanL.ext{l r:List Tm}{g:Int->Int}(h:CanL l f)(h':CanL r g)(e:∀c,f c=g c):l=r:=
 UB h.srt h'.srt λp=>by rw[h.mem,h'.mem,e]
theorem CanL.congr{l:List Tm}{g:Int->Int}(h:CanL l f)(e:∀c,f c=g c):CanL l g:=by
 rwa [show g=f from funext λc=>(e c).symm]
theorem Ei{l:List Tm}{c:Int}(h:∀p∈l,p.1≠c):cf l c=0:=by
 induction l with
 | nil=>rfl
 | cons p l ih=>rw[CI,ae (h p ax),ih λq hq=>h q (bi _ hq)];rfl
theorem Aah:∀{l:List Tm},l.Pairwise (λp q=>p.1<q.1)->∀p∈l,cf l p.1=p.2
 | q::l,hl,p,hp=>by
  obtain⟨h1,h2⟩:=b7.1 hl;rw[CI];rcases bg.1 hp with rfl|hp
  ·rw[ah rfl,Ei λr hr=>by have:=h1 r hr;omega];omega
  ·rw[ae (by have:=h1 p hp;omega),Aah h2 p hp];omega
theorem CanL.cf_eq{l:List Tm}(h:CanL l f)(c:Int):cf l c=f c:=by
 by_cases hz:f c=0
 ·rw[hz];exact Ei λp hp e=>(h.val p hp).2 (by rw[(h.val p hp).1,e,hz])
 ·have:=Aah h.srt _ (h.all c hz);exact this
end Go.Ch
namespace Go.Eng
open Go.RowKit
theorem RdL.built{α:Type}{F:α->List Value}{sz:Nat}{h:Hp}{g n:Nat}{l:List α}{cs:List Value}(hS:Seg h [] (⟨g,0,none⟩:Addr) cs)(hc:cs=l.flatMap F)(hn:l.length=n)(hF:∀x,(F x).length=sz)(hb:n<=1000000):RdL F sz h [] (.slice (some ⟨g,0,none⟩) n n) l:=by
 subst hc hn;refine⟨⟨some ⟨g,0,none⟩,l.length,Y,am _,ω,?_,λ_=>⟨_,Y,hS⟩⟩,hF⟩;clear hS hb
 induction l with
 | nil=>simp
 | cons a l ih=>rw[List.flatMap_cons,af,hF,ih,d8,cw,fp,Nat.add_comm]
end Go.Eng
namespace Go.Ch
open Go.Eng
theorem Acv{l:List Tm}:∀{cs:List Int},cs.Nodup->(cs.map λc=>(cf l c).natAbs).sum<=Bf l:=by
 induction l with
 | nil=>
  intro cs _
  have:(cs.map λc=>(cf [] c).natAbs).sum=0:=by
   induction cs with
   | nil=>rfl
   | cons a t ih=>rw[dr,sum_cons];rename_i h;rw[ih (fl.1 h).2];rfl
  omega
 | cons p l ih=>
  intro cs hn;have h1:=ih hn
  have h2:(cs.map λc=>if p.1=c then p.2.natAbs else 0).sum<=p.2.natAbs:=by
   clear h1 ih
   induction cs with
   | nil=>simp
   | cons a t ih=>
    obtain⟨h3,h4⟩:=fl.1 hn;rw[dr,sum_cons];by_cases e:p.1=a
    ·have:(t.map λc=>if p.1=c then p.2.natAbs else 0).sum=0:=by
      clear ih hn h4
      induction t with
      | nil=>rfl
      | cons b t ih2=>
       rw[dr,sum_cons,ae (λe2=>h3 (by rw[<-e,e2];exact ax)),ih2 λm=>h3 (bi _ m)]
     rw[ah e,this];omega
    ·rw[ae e];have:=ih h4;omega
  have h3:(cs.map λc=>(cf (p::l) c).natAbs).sum<=(cs.map λc=>if p.1=c then p.2.natAbs else 0).sum+(cs.map λc=>(cf l c).natAbs).sum:=by
   clear h1 h2 ih hn
   induction cs with
   | nil=>simp
   | cons a t ih=>
    simp only[dr,sum_cons]
    have:(cf (p::l) a).natAbs<=(if p.1=a then p.2.natAbs else 0)+(cf l a).natAbs:=by rw[CI];split<;>omega
    omega
  rw[Dv];omega
theorem CanL.abl_le{l L:List Tm}(h:CanL l (cf L)):Bf l<=Bf L:=by
 have hn:(l.map Prod.fst).Nodup:=dz.2 (h.srt.imp λq e=>ω);have:=Acv (l:=L) hn;rw[gg]at this
 have e:l.map ((λc=>(cf L c).natAbs)∘Prod.fst)=l.map λp=>p.2.natAbs:=map_congr_left λp hp=>by show(cf L p.1).natAbs=_;rw[<-(h.val p hp).1]
 rw[e]at this;exact this
theorem CanL.ids{l L:List Tm}(h:CanL l (cf L)){p:Tm}(hp:p∈l):p.1∈L.map Prod.fst:=by obtain⟨e,n⟩:=h.val p hp;refine aq λq=>n ?_;rw[e];exact Ei λr hr e=>q<|ag.2 ⟨r,hr,e⟩
end Go.Ch
namespace Go.Eng
open Go.RowKit
section
variable {κ ν:Type} [DecidableEq κ] {K:κ->Value} {V:ν->Value} {Ok:κ->Prop} {kt et t:TypeId} {g:Nat} {m:Hp} {T:List (κ×ν)} {bs:List Nat}
variable {e:Entry} {Q:Exit->Act->World->Prop} {ops:Array Oper} {rest:List Oper} {o:Oper} {s:AE} {h:Hp} {ms:List Hp}
theorem WE{x y u:Operand}{z:Value}(i:Nat)(a:κ)(y':ν)(L:Nj e.P kt K Ok)(O:CF K V g Ok m T bs)(hin:a∈T.map Prod.fst)(hm:ms[i]?=some m)(ho:o.op=.mapUpdate t x y u)(ht:e.P.underlying t=some (.map kt et))(hx:ev s x=some (.map (some g)))(hy:ev s y=some (K a))(hu:ev s u=some (V y'))(ha:Ok a)
  (hd:o.dst=none) (hg:o.guard=none) (k:∀m',CF K V g Ok m' (Dw T a y') bs->(∀gi mi vis,En gi g m mi bs vis->En gi g m' mi bs vis)->WL e ops Q rest s h (ms.set i m')):WL e ops Q (o::rest) s h ms:=
 Og (post:=λ_ h' ms'=>∃m',(CF K V g Ok m' (Dw T a y') bs/\(∀gi mi vis,En gi g m mi bs vis->En gi g m' mi bs vis))/\h'=h/\ms'=ms.set i m') (λρ w hρ hw=>by
  obtain⟨es,clock,rfl,he,hb⟩:=O.ex;have hgw:w.heap[g]?=some (.map es clock):=hw.st.own _ (dy hm) g _ (Hp.one_self _ _);obtain⟨l,hk⟩:=L.key a ha;have hc:=L.law.check w false hk;have hs:=L.law.stays w hk;rcases If L O.keys O.ok O.len he w a ha with ⟨h1,h2⟩|⟨j,v,b,h1,h2,h3,h4⟩
  ·exact ie hin h2
  ·have hj4:=(cj.1 h4)
   have hrun:(execOp ρ o).run e.P w=.ok .skip { w with heap:=w.heap.setIfInBounds g (.map (es.modify j λe=>{ e with key:=K a,val:=V y' }) clock) }:=by simp only[execOp,ho,hρ _ _ hx,hρ _ _ hy,hρ _ _ hu,Instr.mapUpdate,Sem.run_bind,run_underlying ht,Result.andThen_ok,getObj,Sem.run_pure];simp[Sem.run,hgw,hc,h1,Result.andThen,setObj,h4,hs]
   unfold OpRes;rw[hrun];refine⟨h,_,Ends.turn hw hm,_,⟨?_,λgi mi vis I=>?_⟩,Y,Y⟩
   rotate_left
   ·obtain⟨es2,clock2,since,seen,last,e1,e2,e3⟩:=I.ex;have e0:=JF e1;simp only[Obj.map.injEq]at e0;obtain⟨rfl,rfl⟩:=e0;exact⟨⟨_,_,since,seen,last,Y,e2,e3⟩,I.lt,I.nodup⟩
   refine⟨⟨_,_,Y,?_,hb⟩,?_,O.up,FV O.keys a y',λp hp=>?_⟩
   ·rw[FH O.keys h2,UI T bs j _ b h3,List.map_set,<-he];refine List.ext_getElem? λk=>?_;rw[Array.getElem?_toList,Array.getElem?_modify,List.getElem?_set];by_cases hjk:j=k
    ·subst hjk;rw[ah rfl,ah rfl,h4];have:j<es.toList.length:=by simpa using (cj.1 h4).1
     rw[ah this];rfl
    ·rw[ae hjk,ae hjk,Array.getElem?_toList]
   ·rw[FH O.keys h2,ff];exact O.len
   ·rw[FH O.keys h2]at hp;rcases List.mem_or_eq_of_mem_set hp with hp|hp
    ·exact O.ok p hp
    ·subst hp;exact ha) hd hg λv h' ms' ⟨m',e1,e2,e3⟩=>by subst e2 e3;exact k m' e1.1 e1.2
end
end Go.Eng
namespace Go.Eng
open Go.RowKit
theorem Mr{e:Entry}{Q:Exit->Act->World->Prop}{s:AE}{h:Hp}{ms:List Hp}{el:TypeId}{c:Code}{g:Nat}{cs:List Value}(k:∀h',h.le h'->Seg h' [] ⟨g,0,none⟩ cs->RS e c Q s h' ms):RS e c Q s h (BI g el cs::ms):=
 JD λh1 l1 lm _ _=>k h1 l1 (Seg.ofLe lm)
end Go.Eng

namespace Go.Ch
open Go.Eng Go.Sm
def lin(f:Int->Int)(l:List Tm):Int:=(l.map λp=>f p.1*p.2).sum
theorem Ez(f:Int->Int)(p:Tm)(l:List Tm):lin f (p::l)=f p.1*p.2+lin f l:=rfl
theorem Ed(f:Int->Int)(l r:List Tm):lin f (l++r)=lin f l+lin f r:=by unfold lin;rw[dd,sum_append]
theorem Kx{f:Int->Int}:∀{b:List Tm} {ks:List Int},ks.Nodup->(∀p∈b,p.1∈ks)->lin f b=(ks.map λc=>f c*cf b c).sum
 | [],ks,_,_=>by
  have:∀ks:List Int,(ks.map λc=>f c*cf [] c).sum=0:=λks=>by
   induction ks with
   | nil=>rfl
   | cons a t ih=>rw[dr,sum_cons,ih,FB];simp
  rw[this];rfl
 | p::b,ks,hn,hk=>by
  have ih:=Kx (f:=f) (b:=b) hn λq hq=>hk q (bi _ hq);have hp:p.1∈ks:=hk p ax
  have h1:(ks.map λc=>f c*if p.1=c then p.2 else 0).sum=f p.1*p.2:=by
   clear ih hk
   induction ks with
   | nil=>cases hp
   | cons a t ih2=>
    obtain⟨h3,h4⟩:=fl.1 hn;rw[dr,sum_cons];by_cases e:p.1=a
    ·have hz:(t.map λc=>f c*if p.1=c then p.2 else 0).sum=0:=by
      clear ih2 hn h4 hp
      induction t with
      | nil=>rfl
      | cons b' t ih3=>
       rw[dr,sum_cons,ae (λe2=>h3 (by rw[<-e,e2];exact ax)),ih3 λm=>h3 (bi _ m)];simp
     rw[ah e,hz,e];omega
    ·rw[ae e,ih2 h4 ((bg.1 hp).resolve_left e)];simp
  have h2:(ks.map λc=>f c*cf (p::b) c).sum=(ks.map λc=>f c*if p.1=c then p.2 else 0).sum+(ks.map λc=>f c*cf b c).sum:=by
   clear h1 ih hk hp hn
   induction ks with
   | nil=>rfl
   | cons a t ih2=>
    simp only[dr,sum_cons];rw[ih2,CI,Int.mul_add];omega
  rw[Ez,h2,h1,ih]
theorem Kp(l:List Tm):((Ja l).map Prod.fst).Nodup:=by
 have key:∀(l T:List Tm),(T.map Prod.fst).Nodup->((l.foldl (λT p=>JO T p.1 p.2) T).map Prod.fst).Nodup:=by
  intro l
  induction l with
  | nil=>intro T h;exact h
  | cons p l ih=>intro T h;exact ih _<|FV h _ _
 exact key l [] List.Pairwise.nil
theorem CanL.lin_eq{l b:List Tm}(C:CanL l (cf b))(f:Int->Int):lin f l=lin f b:=by rw[Kx (b:=b) (Kp b) λp hp=>(M5 b p.1).2 (List.mem_map_of_mem hp),Kx (b:=l) (Kp b) λp hp=>(M5 b p.1).2 (C.ids hp)];congr 1;exact map_congr_left λc _=>by rw[C.cf_eq]
theorem K6{f:Int->Int}{A:Nat}(h:∀c,(f c).natAbs<=A)(l:List Tm):(lin f l).natAbs<=A*Bf l:=by
 induction l with
 | nil=>simp[lin]
 | cons p l ih=>
  rw[Ez,Dv,Nat.mul_add];have h1:(f p.1*p.2).natAbs<=A*p.2.natAbs:=by rw[Int.natAbs_mul];exact du _<|h p.1
  omega
variable {l:List Tm} {k:Nat}
theorem Aat{A B:List Tm}{c n:Int}{g:Int->Int}(hA:∀p∈A,p.1<c)(hB:∀p∈B,c<p.1)(sA:A.Pairwise λp q=>p.1<q.1)(sB:B.Pairwise λp q=>p.1<q.1)(hv:∀p,p∈A\/p∈B->p.2=g p.1/\p.2≠0)(hg:g c=n)(hall:∀a,a≠c->g a≠0->(a,g a)∈A\/(a,g a)∈B):CanL (A++(if n≠0 then [(c,n)] else [])++B) g:=by
 have hM:∀p,p∈(if n≠0 then [((c,n):Tm)] else [])<->n≠0/\p=(c,n):=λp=>by split<;>simp[*]
 refine⟨?_,λp hp=>?_,λa ha=>?_⟩
 ·rw[fh,fh];refine⟨⟨sA,?_,λp hp q hq=>?_⟩,sB,λp hp q hq=>?_⟩
  ·split
   ·exact List.pairwise_singleton _ _
   ·exact List.Pairwise.nil
  ·obtain⟨_,rfl⟩:=(hM q).1 hq;exact hA p hp
  ·rcases bj.1 hp with h|h
   ·have:=hA p h;have:=hB q hq;omega
   ·obtain⟨_,rfl⟩:=(hM p).1 h;exact hB q hq
 ·rcases bj.1 hp with h|h
  ·rcases bj.1 h with h|h
   ·exact hv p<|.inl h
   ·obtain⟨h1,rfl⟩:=(hM p).1 h;exact⟨hg.symm,h1⟩
  ·exact hv p<|.inr h
 ·by_cases e:a=c
  ·subst e;rw[hg]at ha ⊢;exact eh _<|List.mem_append_right _ ((hM _).2 ⟨ha,Y⟩)
  ·rcases hall a e ha with h|h
   ·exact eh _<|eh _ h
   ·exact List.mem_append_right _ h
def upd(f:Int->Int)(c x:Int)(a:Int):Int:=f a+if c=a then x else 0
theorem Rl{p:Tm}(h:p∈l.take k):∃j,∃hj:j<l.length,j<k/\l[j]=p:=by obtain⟨j,hj,e⟩:=dm.1 h;rw[ay]at hj;exact⟨j,ω,ω,by rw[<-e,ic]⟩
theorem Sn{p:Tm}(h:p∈l.drop k):∃j,∃hj:j<l.length,k<=j/\l[j]=p:=by obtain⟨j,hj,e⟩:=dm.1 h;rw[bw]at hj;exact⟨k+j,ω,ω,by rw[<-e,List.getElem_drop]⟩
theorem Qh{f:Int->Int}{d:Nat}{c x n:Int}(C:CanL l f)(hk:k<=l.length)(hlt:∀j (hj:j<l.length),j<k->l[j].1<c)(hgt:∀j (hj:j<l.length),k+d<=j->c<l[j].1)(hn:n=f c+x)(hmid:∀j (hj:j<l.length),k<=j->j<k+d->l[j].1=c) :
  CanL (l.take k++(if n≠0 then [(c,n)] else [])++l.drop (k+d)) (upd f c x):=by
 refine Aat (λp hp=>?_) (λp hp=>?_) (List.Pairwise.sublist (List.take_sublist _ _) C.srt) (List.Pairwise.sublist (List.drop_sublist _ _) C.srt) (λp hp=>?_) (by unfold upd;rw[ah rfl,hn])<|λa ha hg=>?_
 ·obtain⟨j,hj,h1,rfl⟩:=Rl hp;exact hlt j hj h1
 ·obtain⟨j,hj,h1,rfl⟩:=Sn hp;exact hgt j hj h1
 ·have hpl:p∈l:=hp.elim (λh=>List.mem_of_mem_take h) (λh=>gt h)
  have hne:c≠p.1:=by
   rcases hp with h|h
   ·obtain⟨j,hj,h1,rfl⟩:=Rl h;have:=hlt j hj h1;omega
   ·obtain⟨j,hj,h1,rfl⟩:=Sn h;have:=hgt j hj h1;omega
  unfold upd;rw[ae hne,fz];exact C.val p hpl
 ·have hfa:upd f c x a=f a:=by unfold upd;rw[ae (λe=>ha e.symm),fz]
  rw[hfa]at hg ⊢;obtain⟨j,hj,e⟩:=dm.1 (C.all a hg);rcases (ω:j<k\/(k<=j/\j<k+d)\/k+d<=j) with h1|⟨h1,h2⟩|h1
  ·left
   exact dm.2 ⟨j,by rw[ay];omega,by rw[ic];exact e⟩
  ·have:=hmid j hj h1 h2;rw[e]at this;exact ie this ha
  ·right
   exact dm.2 ⟨j-(k+d),by rw[bw];omega,by rw[List.getElem_drop];rw[<-e];congr 1;omega⟩
theorem PY(h:l.Pairwise λp q=>p.1<q.1){i j:Nat}(hi:i<l.length)(hj:j<l.length)(hij:i<j):l[i].1<l[j].1:=ct.1 h i j hi hj hij
end Go.Ch
namespace Go.Sm
open Go.Lin
variable {n m i k:Nat} {A:Nat->Nat->Int}
theorem AdO{f g:Nat->Int}(hi:i<n)(hk:k<n)(hik:i≠k)(h:∀q,q<n->q≠i->q≠k->f q=g q)(h2:f i+f k=g i+g k):sm n f=sm n g:=by
 have e:sm n (λq=>f q-g q)=0:=by
  have e1:sm n (λq=>f q-g q)=sm n (λq=>(if q=i then f q-g q else 0)+(if q=k then f q-g q else 0)):=Bl λq hq=>by
   by_cases h3:q=i
   ·subst h3;rw[ah rfl,ae hik];omega
   ·by_cases h4:q=k
    ·subst h4;rw[ae h3,ah rfl];omega
    ·rw[ae h3,ae h4,h q hq h3 h4];omega
  rw[e1,Pj,RO n i (λq=>f q-g q) hi,RO n k (λq=>f q-g q) hk];omega
 rw[Yj]at e;omega
def Tn.det1(t:Tn):Prop:=t.a*t.d-t.b*t.c=1
theorem AbL{t:Tn}(ht:t.det1)(x y u v:Int):(t.d*x+-t.c*y)*(t.a*u+t.b*v)+(-t.b*x+t.a*y)*(t.c*u+t.d*v)=x*u+y*v:=by
 unfold Tn.det1 at ht
 have e:(t.d*x+-t.c*y)*(t.a*u+t.b*v)+(-t.b*x+t.a*y)*(t.c*u+t.d*v)=(t.a*t.d-t.b*t.c)*(x*u+y*v):=by simp only[Int.add_mul,Int.mul_add,Int.sub_mul,Int.neg_mul,Int.mul_neg];simp only[f7,Int.mul_left_comm,Int.mul_assoc];omega
 rw[e,ht,gy]
theorem Aab{t:Tn}(ht:t.det1)(hi:i<n)(hk:k<n)(hik:i≠k){X X' Y Y':Nat->Int}(hX:∀q,X' q=if q=i then t.bk.a*X i+t.bk.b*X k else if q=k then t.bk.c*X i+t.bk.d*X k else X q)(hY:∀q,Y' q=if q=i then t.a*Y i+t.b*Y k else if q=k then t.c*Y i+t.d*Y k else Y q):sm n (fun q=>X' q*Y' q)=sm n (fun q=>X q*Y q):=by
 refine AdO hi hk hik (fun q _ h1 h2=>?_) ?_
 ·rw[hX,hY,ae h1,ae h2,ae h1,ae h2]
 ·rw[hX i,hY i,hX k,hY k,ah rfl,ah rfl,ae (ft hik),ah rfl,ae (ft hik),ah rfl];exact AbL ht _ _ _ _
structure FS.Inv(n m:Nat)(A:Nat->Nat->Int)(S:FS):Prop where
 ua:∀a j,a<n->j<m->sm n (λq=>AV S.u a q*A q j)=sm m (λq=>AV S.d a q*AV S.vi q j)
 av:∀a j,a<n->j<m->sm m (λq=>A a q*AV S.v q j)=sm n (λq=>AV S.ui a q*AV S.d q j)
 uu:∀a b,a<n->b<n->sm n (λq=>AV S.ui a q*AV S.u q b)=if a=b then 1 else 0
structure FS.Shp(n m:Nat)(S:FS):Prop where
 su:Shape n n S.u
 sui:Shape n n S.ui
 sd:Shape n m S.d
 sv:Shape m m S.v
 svi:Shape m m S.vi
theorem FS.Shp.rop{S:FS}(h:S.Shp n m)(i k:Nat)(t:Tn):(S.rop n m i k t).Shp n m:=⟨h.su.rows _ _ _ _,h.sui.cols _ _ _ _,h.sd.rows _ _ _ _,h.sv,h.svi⟩
theorem FS.Shp.cop{S:FS}(h:S.Shp n m)(i k:Nat)(t:Tn):(S.cop n m i k t).Shp n m:=⟨h.su,h.sui,h.sd.cols _ _ _ _,h.sv.cols _ _ _ _,h.svi.rows _ _ _ _⟩
theorem FS.Shp.neg{S:FS}(h:S.Shp n m)(t:Nat):(S.neg n m t).Shp n m:=⟨h.su.negRow _ _,h.sui.negCol _ _,h.sd.negRow _ _,h.sv,h.svi⟩
theorem KY{S:FS}(h:S.Shp n m)(t:Tn)(hi:i<n)(hk:k<n)(hik:i≠k)(a b:Nat)(hb:b<m):AV (S.rop n m i k t).d a b=if a=i then t.a*AV S.d i b+t.b*AV S.d k b else if a=k then t.c*AV S.d i b+t.d*AV S.d k b else AV S.d a b:=by show AV (Ft i k t S.d m) a b=_;rw[F4 h.sd t hi hk hik m (am _),ah hb]
theorem J4{S:FS}(h:S.Shp n m)(t:Tn)(hi:i<m)(hk:k<m)(hik:i≠k)(a b:Nat)(ha:a<n):AV (S.cop n m i k t).d a b=if b=i then t.a*AV S.d a i+t.b*AV S.d a k else if b=k then t.c*AV S.d a i+t.d*AV S.d a k else AV S.d a b:=by show AV (Fm i k t S.d n) a b=_;rw[Gw h.sd t hi hk hik n (am _),ah ha]
theorem Vi{S:FS}(h:S.Shp n m){t:Nat}(ht:t<n)(a b:Nat)(hb:b<m):AV (S.neg n m t).d a b=if a=t then -(AV S.d a b) else AV S.d a b:=by
 show AV (negRow t S.d m) a b=_;rw[E8 h.sd ht m (am _)];by_cases e:a=t
 ·rw[ah ⟨e,hb⟩,ah e]
 ·rw[ae (by simp[e]),ae e]
theorem OP(n:Nat)(x y:Int)(f g h:Nat->Int):sm n (λq=>(x*f q+y*g q)*h q)=x*sm n (λq=>f q*h q)+y*sm n (λq=>g q*h q):=by rw[<-GR,<-GR,<-Pj];exact Bl λq _=>by rw[Int.add_mul,Int.mul_assoc,Int.mul_assoc]
theorem Lm(n:Nat)(x y:Int)(f g h:Nat->Int):sm n (λq=>h q*(x*f q+y*g q))=x*sm n (λq=>h q*f q)+y*sm n (λq=>h q*g q):=by rw[<-GR,<-GR,<-Pj];exact Bl λq _=>by rw[Int.mul_add,Int.mul_left_comm,Int.mul_left_comm (h q) y]
theorem FS.Inv.rop{S:FS}(I:S.Inv n m A)(h:S.Shp n m){t:Tn}(ht:t.det1)(hi:i<n)(hk:k<n)(hik:i≠k):(S.rop n m i k t).Inv n m A:=by
 have eu:∀a b,b<n->AV (S.rop n m i k t).u a b=if a=i then t.a*AV S.u i b+t.b*AV S.u k b else if a=k then t.c*AV S.u i b+t.d*AV S.u k b else AV S.u a b:=λa b hb=>by show AV (Ft i k t S.u n) a b=_;rw[F4 h.su t hi hk hik n (am _),ah hb]
 have eui:∀a b,a<n->AV (S.rop n m i k t).ui a b=if b=i then t.bk.a*AV S.ui a i+t.bk.b*AV S.ui a k else if b=k then t.bk.c*AV S.ui a i+t.bk.d*AV S.ui a k else AV S.ui a b:=λa b ha=>by show AV (Fm i k t.bk S.ui n) a b=_;rw[Gw h.sui t.bk hi hk hik n (am _),ah ha]
 have ed:=KY h t hi hk hik;refine⟨λa j ha hj=>?_,λa j ha hj=>?_,λa b ha hb=>?_⟩
 ·rw[Bl (g:=λq=>(if a=i then t.a*AV S.u i q+t.b*AV S.u k q else if a=k then t.c*AV S.u i q+t.d*AV S.u k q else AV S.u a q)*A q j) λq hq=>by rw[eu a q hq]];rw[Bl (n:=m) (g:=λq=>(if a=i then t.a*AV S.d i q+t.b*AV S.d k q else if a=k then t.c*AV S.d i q+t.d*AV S.d k q else AV S.d a q)*AV S.vi q j) λq hq=>by rw[ed a q hq];rfl];by_cases h1:a=i
  ·simp only[ah h1];rw[OP,OP,I.ua i j hi hj,I.ua k j hk hj]
  ·by_cases h2:a=k
   ·simp only[ae h1,ah h2];rw[OP,OP,I.ua i j hi hj,I.ua k j hk hj]
   ·simp only[ae h1,ae h2];exact I.ua a j ha hj
 ·show sm m (λq=>A a q*AV S.v q j)=_;rw[I.av a j ha hj];exact(Aab ht hi hk hik (λq=>eui a q ha) (λq=>ed q j hj)).symm
 ·rw[<-I.uu a b ha hb];exact Aab ht hi hk hik (λq=>eui a q ha)<|λq=>eu q b hb
theorem FS.Inv.cop{S:FS}(I:S.Inv n m A)(h:S.Shp n m){t:Tn}(ht:t.det1)(hi:i<m)(hk:k<m)(hik:i≠k):(S.cop n m i k t).Inv n m A:=by
 have ev:∀a b,a<m->AV (S.cop n m i k t).v a b=if b=i then t.a*AV S.v a i+t.b*AV S.v a k else if b=k then t.c*AV S.v a i+t.d*AV S.v a k else AV S.v a b:=λa b ha=>by show AV (Fm i k t S.v m) a b=_;rw[Gw h.sv t hi hk hik m (am _),ah ha]
 have evi:∀a b,b<m->AV (S.cop n m i k t).vi a b=if a=i then t.bk.a*AV S.vi i b+t.bk.b*AV S.vi k b else if a=k then t.bk.c*AV S.vi i b+t.bk.d*AV S.vi k b else AV S.vi a b:=λa b hb=>by show AV (Ft i k t.bk S.vi m) a b=_;rw[F4 h.svi t.bk hi hk hik m (am _),ah hb]
 have ed:=J4 h t hi hk hik;refine⟨λa j ha hj=>?_,λa j ha hj=>?_,I.uu⟩
 ·show sm n (λq=>AV S.u a q*A q j)=_;rw[I.ua a j ha hj,Bl λq _=>f7 _ _];rw[Bl (n:=m) (f:=λq=>AV (S.cop n m i k t).d a q*AV (S.cop n m i k t).vi q j) λq _=>f7 _ _];exact(Aab ht hi hk hik (λq=>evi q j hj) (λq=>ed a q ha)).symm
 ·rw[Bl (g:=λq=>A a q*(if j=i then t.a*AV S.v q i+t.b*AV S.v q k else if j=k then t.c*AV S.v q i+t.d*AV S.v q k else AV S.v q j)) λq hq=>by rw[ev q j hq]];rw[Bl (n:=n) (g:=λq=>AV S.ui a q*(if j=i then t.a*AV S.d q i+t.b*AV S.d q k else if j=k then t.c*AV S.d q i+t.d*AV S.d q k else AV S.d q j)) λq hq=>by rw[ed q j hq];rfl];by_cases h1:j=i
  ·simp only[ah h1];rw[Lm,Lm,I.av a i ha hi,I.av a k ha hk]
  ·by_cases h2:j=k
   ·simp only[ae h1,ah h2];rw[Lm,Lm,I.av a i ha hi,I.av a k ha hk]
   ·simp only[ae h1,ae h2];exact I.av a j ha hj
theorem FS.Inv.neg{S:FS}(I:S.Inv n m A)(h:S.Shp n m){t:Nat}(ht:t<n):(S.neg n m t).Inv n m A:=by
 have eu:∀a b,b<n->AV (S.neg n m t).u a b=if a=t then -(AV S.u a b) else AV S.u a b:=λa b hb=>by
  show AV (negRow t S.u n) a b=_;rw[E8 h.su ht n (am _)];by_cases e:a=t
  ·rw[ah ⟨e,hb⟩,ah e]
  ·rw[ae (by simp[e]),ae e]
 have eui:∀a b,a<n->AV (S.neg n m t).ui a b=if b=t then -(AV S.ui a b) else AV S.ui a b:=λa b ha=>by
  show AV (negCol t S.ui n) a b=_;rw[Hk h.sui ht n (am _)];by_cases e:b=t
  ·rw[ah ⟨e,ha⟩,ah e]
  ·rw[ae (by simp[e]),ae e]
 have ed:=Vi h ht
 have two:∀(x y x' y':Nat->Int),(∀q,x' q=if q=t then -(x q) else x q)->(∀q,y' q=if q=t then -(y q) else y q)->sm n (λq=>x' q*y' q)=sm n (λq=>x q*y q):=λx y x' y' hx hy=>Bl λq _=>by
  rw[hx,hy];by_cases e:q=t
  ·rw[ah e,ah e,Int.neg_mul_neg]
  ·rw[ae e,ae e]
 refine⟨λa j ha hj=>?_,λa j ha hj=>?_,λa b ha hb=>?_⟩
 ·rw[Bl (g:=λq=>(if a=t then -(AV S.u a q) else AV S.u a q)*A q j) λq hq=>by rw[eu a q hq]];rw[Bl (n:=m) (g:=λq=>(if a=t then -(AV S.d a q) else AV S.d a q)*AV S.vi q j) λq hq=>by rw[ed a q hq];rfl];by_cases h1:a=t
  ·simp only[ah h1];have:=I.ua a j ha hj;rw[Bl (g:=λq=>(-1)*(AV S.u a q*A q j)) λq _=>by rw[Int.neg_mul,Int.neg_one_mul],GR,this];rw[Bl (n:=m) (f:=λq=>-(AV S.d a q)*AV S.vi q j) (g:=λq=>(-1)*(AV S.d a q*AV S.vi q j)) λq _=>by rw[Int.neg_mul,Int.neg_one_mul],GR]
  ·simp only[ae h1];exact I.ua a j ha hj
 ·show sm m (λq=>A a q*AV S.v q j)=_;rw[I.av a j ha hj];exact(two _ _ _ _ (λq=>eui a q ha) (λq=>ed q j hj)).symm
 ·rw[<-I.uu a b ha hb];exact two _ _ _ _ (λq=>eui a q ha)<|λq=>eu q b hb
end Go.Sm
namespace Go.Sm
open Go.Lin
variable {n m t i k:Nat} {A:Nat->Nat->Int} {s s':St} {S:FS} {T:Tn} {M:List (List Int)} {x y:Int}
structure Gd(n m:Nat)(A:Nat->Nat->Int)(t:Nat)(S:FS):Prop where
 inv:S.Inv n m A
 shp:S.Shp n m
 z:∀a b,a<n->b<m->a≠b->(a<t\/b<t)->AV S.d a b=0
 p:∀a,a<t->a<n->a<m->0<=AV S.d a a/\(AV S.d a a).natAbs<2147483648
theorem Gd.rop(G:Gd n m A t S)(hT:T.det1)(hti:t<=i)(htk:t<=k)(hi:i<n)(hk:k<n)(hik:i≠k):Gd n m A t (S.rop n m i k T):=by
 refine⟨G.inv.rop G.shp hT hi hk hik,G.shp.rop _ _ _,λa b ha hb hab hl=>?_,λa ha h1 h2=>?_⟩
 ·rw[KY G.shp T hi hk hik a b hb];by_cases e1:a=i
  ·rw[ah e1,G.z i b hi hb ω ω,G.z k b hk hb ω ω];simp
  ·by_cases e2:a=k
   ·rw[ae e1,ah e2,G.z i b hi hb ω ω,G.z k b hk hb ω ω];simp
   ·rw[ae e1,ae e2];exact G.z a b ha hb hab hl
 ·rw[KY G.shp T hi hk hik a a h2,ae ω,ae ω];exact G.p a ha h1 h2
theorem Gd.cop(G:Gd n m A t S)(hT:T.det1)(hti:t<=i)(htk:t<=k)(hi:i<m)(hk:k<m)(hik:i≠k):Gd n m A t (S.cop n m i k T):=by
 refine⟨G.inv.cop G.shp hT hi hk hik,G.shp.cop _ _ _,λa b ha hb hab hl=>?_,λa ha h1 h2=>?_⟩
 ·rw[J4 G.shp T hi hk hik a b ha];by_cases e1:b=i
  ·rw[ah e1,G.z a i ha hi ω ω,G.z a k ha hk ω ω];simp
  ·by_cases e2:b=k
   ·rw[ae e1,ah e2,G.z a i ha hi ω ω,G.z a k ha hk ω ω];simp
   ·rw[ae e1,ae e2];exact G.z a b ha hb hab hl
 ·rw[J4 G.shp T hi hk hik a a h1,ae ω,ae ω];exact G.p a ha h1 h2
theorem St.row_S(h:s.row n m i k T=some s'):s'.S=s.S.rop n m i k T:=by
 unfold St.row at h;split at h
 ·have h:=bf h;subst h;rfl
 ·cases h
theorem St.col_S(h:s.col n m i k T=some s'):s'.S=s.S.cop n m i k T:=by
 unfold St.col at h;split at h
 ·have h:=bf h;subst h;rfl
 ·cases h
theorem NZ{op:Tn->Option St}{c:Bool}(h:UP op x y s=some (s',c)):(y=0/\s'=s/\c=false)\/(y%x=0/\op ⟨1,0,-(y/x),1⟩=some s'/\c=false)\/(y.natAbs=1/\op ⟨0,y,-y,x⟩=some s'/\c=true):=by
 unfold UP at h;split at h
 ·rename_i h0;have h:=bf h;injection h with h1 h2;exact .inl ⟨h0,h1.symm,h2.symm⟩
 ·split at h
  ·cases h
  ·split at h
   ·rename_i hd;obtain⟨z,e1,e2⟩:=Option.map_eq_some_iff.1 h;injection e2 with e2 e3;exact .inr<|.inl ⟨hd,e2 ▸ e1,e3.symm⟩
   ·cases h
theorem Aag(q:Int):Tn.det1 ⟨1,0,q,1⟩:=by unfold Tn.det1;simp
theorem Y8(h:y.natAbs=1):Tn.det1 ⟨0,y,-y,x⟩:=by unfold Tn.det1;show 0*x-y*-y=1;rcases (ω:y=1\/y=-1) with e|e<;>subst e<;>simp
theorem UA(h:y%x=0):y/x*x=y:=by have:=Int.emod_add_mul_ediv y x;rw[h,Int.zero_add,f7]at this;exact this
theorem QY(ht:t<n)(htm:t<m):∀{f i:Nat} {s s':St},Gd n m A t s.S->t<i->i+f=n->(∀a,t<a->a<i->AV s.S.d a t=0)->GJ n m t f i s=some s'->Gd n m A t s'.S/\∀a,t<a->a<n->AV s'.S.d a t=0
 | 0,i,s,s',G,hi,hf,hz,h=>by have h:=bf h;subst h;exact⟨G,λa h1 h2=>hz a h1 ω⟩
 | f+1,i,s,s',G,hi,hf,hz,h=>by
  unfold GJ at h;split at h
  ·cases h
  ·rename_i s1 c e;have hin:i<n:=ω
   have step:∀T,T.det1->s.row n m t i T=some s1->T.c*AV s.S.d t t+T.d*AV s.S.d i t=0->Gd n m A t s1.S/\∀a,t<a->a<i+1->AV s1.S.d a t=0:=λT hT hr h0=>by
    have e1:=St.row_S hr;rw[e1];refine⟨G.rop hT (am _) ω ht hin ω,λa h1 h2=>?_⟩;rw[KY G.shp T ht hin ω a t htm,ae ω];by_cases e2:a=i
    ·rw[ah e2];exact h0
    ·rw[ae e2];exact hz a h1 ω
   have fin:Gd n m A t s1.S/\∀a,t<a->a<i+1->AV s1.S.d a t=0:=by
    rcases NZ e with ⟨h0,rfl,_⟩|⟨hd,hr,_⟩|⟨hg,hr,_⟩
    ·refine⟨G,λa h1 h2=>?_⟩;by_cases e2:a=i
     ·subst e2;exact h0
     ·exact hz a h1 ω
    ·refine step _ (Aag _) hr ?_;show -(AV s.S.d i t/AV s.S.d t t)*AV s.S.d t t+1*AV s.S.d i t=0;rw[Int.neg_mul,UA hd];omega
    ·refine step _ (Y8 hg) hr ?_;show -(AV s.S.d i t)*AV s.S.d t t+AV s.S.d t t*AV s.S.d i t=0;rw[Int.neg_mul,f7];omega
   exact QY ht htm fin.1 ω ω fin.2 h
theorem SL(ht:t<n)(htm:t<m):∀{f j:Nat} {c c':Bool} {s s':St},Gd n m A t s.S->t<j->j+f=m->F9 n m t f j c s=some (s',c')->Gd n m A t s'.S/\(c'=false->c=false/\((∀a,t<a->a<n->AV s.S.d a t=0)->(∀b,t<b->b<j->AV s.S.d t b=0)->(∀a,t<a->a<n->AV s'.S.d a t=0)/\∀b,t<b->b<m->AV s'.S.d t b=0))
 | 0,j,c,c',s,s',G,hj,hf,h=>by have h:=bf h;injection h with h1 h2;subst h1;exact⟨G,λe=>⟨h2.trans e,λz1 z2=>⟨z1,λb h1 h2=>z2 b h1 ω⟩⟩⟩
 | f+1,j,c,c',s,s',G,hj,hf,h=>by
  unfold F9 at h;split at h
  ·cases h
  ·rename_i s1 c1 e;have hjm:j<m:=ω
   have step:∀T,T.det1->s.col n m t j T=some s1->Gd n m A t s1.S:=λT hT hr=>by rw[St.col_S hr];exact G.cop hT (am _) ω htm hjm ω
   have fin:Gd n m A t s1.S/\(c1=false->(∀a,t<a->a<n->AV s.S.d a t=0)->(∀b,t<b->b<j->AV s.S.d t b=0)->(∀a,t<a->a<n->AV s1.S.d a t=0)/\∀b,t<b->b<j+1->AV s1.S.d t b=0):=by
    rcases NZ e with ⟨h0,rfl,_⟩|⟨hd,hr,_⟩|⟨hg,hr,hc⟩
    ·refine⟨G,λ_ z1 z2=>⟨z1,λb h1 h2=>?_⟩⟩;by_cases e2:b=j
     ·subst e2;exact h0
     ·exact z2 b h1 ω
    ·refine⟨step _ (Aag _) hr,λ_ z1 z2=>?_⟩;have e1:=St.col_S hr;rw[e1];refine⟨λa h1 h2=>?_,λb h1 h2=>?_⟩
     ·rw[J4 G.shp _ htm hjm ω a t h2,ah rfl,z1 a h1 h2];show 1*0+0*_=(0:Int);simp
     ·rw[J4 G.shp _ htm hjm ω t b ht,ae ω];by_cases e2:b=j
      ·rw[ah e2];show -(AV s.S.d t j/AV s.S.d t t)*AV s.S.d t t+1*AV s.S.d t j=0;rw[Int.neg_mul,UA hd];omega
      ·rw[ae e2];exact z2 b h1 ω
    ·exact⟨step _ (Y8 hg) hr,λe=>ie (hc.symm.trans e) δ⟩
   have ih:=SL ht htm fin.1 ω ω h;refine⟨ih.1,λe=>?_⟩;obtain⟨q1,q2⟩:=ih.2 e;have hc:c=false/\c1=false:=by cases c<;>cases c1<;>simp_all
   exact⟨hc.1,λz1 z2=>by
    obtain⟨w1,w2⟩:=fin.2 hc.2 z1 z2
    exact q2 w1 w2⟩
theorem NP(ht:t<n)(htm:t<m):∀{f:Nat} {s s':St},Gd n m A t s.S->Er n m t f s=some s'->Gd n m A t s'.S/\(∀a,t<a->a<n->AV s'.S.d a t=0)/\∀b,t<b->b<m->AV s'.S.d t b=0
 | 0,s,s',G,h=>by cases h
 | f+1,s,s',G,h=>by
  unfold Er pass at h;cases e1:GJ n m t (n-(t+1)) (t+1) s with
  | none=>rw[e1]at h;cases h
  | some s1=>
   rw[e1]at h;obtain⟨G1,z1⟩:=QY ht htm G ω ω (λa h1 h2=>ω) e1;simp only at h;cases e2:F9 n m t (m-(t+1)) (t+1) false s1 with
   | none=>rw[e2]at h;cases h
   | some p=>
    obtain⟨s2,c⟩:=p;rw[e2]at h;obtain⟨G2,q⟩:=SL ht htm G1 ω ω e2;cases c with
    | true=>exact NP ht htm G2 h
    | false=>
     have h:=bf h;subst h;obtain⟨_,q2⟩:=q Y;obtain⟨w1,w2⟩:=q2 z1 (λb h1 h2=>ω);exact⟨G2,w1,w2⟩
theorem XS(ht:t<n)(htm:t<m)(G:Gd n m A t s.S)(h:Lz n m t s=some s'):Gd n m A (t+1) s'.S/\AV s'.S.d t t≠0:=by
 unfold Lz at h;split at h
 ·cases h
 ·rename_i s1 e;obtain⟨G1,w1,w2⟩:=NP ht htm G e;split at h
  ·cases h
  ·rename_i hx;have hne:AV s1.S.d t t≠0:=λq=>hx (.inl q)
   have hwd:(AV s1.S.d t t).natAbs<2147483648:=by refine aq λq=>hx<|.inr ?_;unfold wrd;rw[<-Bool.not_eq_true,Nat.blt_eq];exact q
   split at h
   ·have hz:∀a b,a<n->b<m->a≠b->(a<t+1\/b<t+1)->AV s1.S.d a b=0:=λa b ha hb hab hl=>by
     rcases (ω:(a<t\/b<t)\/(a=t/\t<b)\/(b=t/\t<a)) with q|⟨rfl,q⟩|⟨rfl,q⟩
     ·exact G1.z a b ha hb hab q
     ·exact w2 b q hb
     ·exact w1 a q ha
    split at h
    ·rename_i hneg;have h:=bf h;subst h;have ed:=Vi G1.shp ht;refine⟨⟨G1.inv.neg G1.shp ht,G1.shp.neg _,λa b ha hb hab hl=>?_,λa ha h1 h2=>?_⟩,?_⟩
     ·show AV (s1.S.neg n m t).d a b=0;rw[ed a b hb,hz a b ha hb hab hl];simp
     ·show 0<=AV (s1.S.neg n m t).d a a/\(AV (s1.S.neg n m t).d a a).natAbs<_;rw[ed a a h2];by_cases e3:a=t
      ·subst e3;rw[ah rfl];omega
      ·rw[ae e3];exact G1.p a ω h1 h2
     ·show AV (s1.S.neg n m t).d t t≠0;rw[ed t t htm,ah rfl];omega
    ·rename_i hneg;have h:=bf h;subst h;refine⟨⟨G1.inv,G1.shp,hz,λa ha h1 h2=>?_⟩,hne⟩;by_cases e3:a=t
     ·subst e3;omega
     ·exact G1.p a ω h1 h2
   ·cases h
theorem NC{j:Nat}:∀{f i:Nat},OM M n j f i=none->∀a,i<=a->a<i+f->AV M a j=0
 | 0,i,h,a,h1,h2=>ω
 | f+1,i,h,a,h1,h2=>by
  unfold OM at h;split at h
  ·cases h
  ·rename_i h0;by_cases e:a=i
   ·subst e;exact aq h0
   ·exact NC h a ω ω
theorem Ol{j:Nat}:∀{f i a:Nat},OM M n j f i=some a->i<=a/\a<i+f/\AV M a j≠0
 | 0,i,a,h=>by cases h
 | f+1,i,a,h=>by
  unfold OM at h;split at h
  ·rename_i h0;have h:=bf h;subst h;exact⟨am _,ω,h0⟩
  ·obtain⟨q1,q2,q3⟩:=Ol h;exact⟨ω,ω,q3⟩
theorem N0:∀{f j:Nat},KB M n t f j=none->∀a b,t<=a->a<n->j<=b->b<j+f->AV M a b=0
 | 0,j,h,a,b,h1,h2,h3,h4=>ω
 | f+1,j,h,a,b,h1,h2,h3,h4=>by
  unfold KB at h;split at h
  ·cases h
  ·rename_i h0;by_cases e:b=j
   ·subst e;exact NC h0 a h1 ω
   ·exact N0 h a b h1 h2 ω ω
theorem NN:∀{f j a b:Nat},KB M n t f j=some (a,b)->t<=a/\(a<t+(n-t))/\j<=b/\b<j+f/\AV M a b≠0
 | 0,j,a,b,h=>by cases h
 | f+1,j,a,b,h=>by
  unfold KB at h;split at h
  ·rename_i i h0;have h:=bf h;injection h with h1 h2;subst h1 h2;obtain⟨q1,q2,q3⟩:=Ol h0;exact⟨q1,q2,am _,ω,q3⟩
  ·obtain⟨q1,q2,q3,q4,q5⟩:=NN h;exact⟨q1,q2,ω,ω,q5⟩
theorem UJ:swp.det1:=by unfold Tn.det1 swp;decide
theorem V8(ht:t<n)(htm:t<m){b:Bool}(G:Gd n m A t s.S)(h:Fy n m t s=some (s',b)):Gd n m A t s'.S/\(b=false->∀a c,t<=a->a<n->t<=c->c<m->AV s'.S.d a c=0):=by
 unfold Fy at h;cases e0:KB s.S.d n t (m-t) t with
 | none=>
  rw[e0]at h;have h:=bf h;injection h with h1 h2;subst h1;exact⟨G,λ_ a c h1 h2 h3 h4=>N0 e0 a c h1 h2 h3 ω⟩
 | some p=>
  obtain⟨i,j⟩:=p;rw[e0]at h;obtain⟨q1,q2,q3,q4,q5⟩:=NN e0;simp only at h;cases e1:(if i=t then some s else s.row n m t i swp) with
  | none=>rw[e1]at h;cases h
  | some s1=>
   rw[e1]at h
   have G1:Gd n m A t s1.S:=by
    split at e1
    ·have e1:=bf e1;subst e1;exact G
    ·rename_i hne;rw[St.row_S e1];exact G.rop UJ (am _) q1 ht ω<|ft hne
   simp only at h;cases e2:(if j=t then some s1 else s1.col n m t j swp) with
   | none=>rw[e2]at h;cases h
   | some s2=>
    rw[e2]at h;have h:=bf h;injection h with h1 h2;subst h1 h2;refine⟨?_,λe=>by cases e⟩;split at e2
    ·have e2:=bf e2;subst e2;exact G1
    ·rename_i hne;rw[St.col_S e2];exact G1.cop UJ (am _) q3 htm ω<|ft hne
structure Gf(n m:Nat)(A:Nat->Nat->Int)(S:FS):Prop where
 inv:S.Inv n m A
 shp:S.Shp n m
 z:∀a b,a<n->b<m->a≠b->AV S.d a b=0
 p:∀a,a<n->a<m->0<=AV S.d a a/\(AV S.d a a).natAbs<2147483648
theorem Rz:∀{f t:Nat} {s s':St},Gd n m A t s.S->min n m<=t+f->Fg n m f t s=some s'->Gf n m A s'.S
 | 0,t,s,s',G,hf,h=>by have h:=bf h;subst h;exact⟨G.inv,G.shp,λa b ha hb hab=>G.z a b ha hb hab ω,λa h1 h2=>G.p a ω h1 h2⟩
 | f+1,t,s,s',G,hf,h=>by
  unfold Fg at h;split at h
  ·rename_i htt;have ht:t<n:=ω
   have htm:t<m:=ω
   cases e1:Fy n m t s with
   | none=>rw[e1]at h;cases h
   | some p=>
    obtain⟨s1,b⟩:=p;rw[e1]at h;obtain⟨G1,hb⟩:=V8 ht htm G e1;cases b with
    | false=>
     have h:=bf h;subst h;have h0:=hb Y;refine⟨G1.inv,G1.shp,λa b ha hb hab=>?_,λa h1 h2=>?_⟩
     ·by_cases e:a<t\/b<t
      ·exact G1.z a b ha hb hab e
      ·exact h0 a b ω ha ω hb
     ·by_cases e:a<t
      ·exact G1.p a e h1 h2
      ·rw[h0 a a ω h1 ω h2];exact⟨Int.le_refl _,by decide⟩
    | true=>
     simp only at h;cases e2:Lz n m t s1 with
     | none=>rw[e2]at h;cases h
     | some s2=>
      rw[e2]at h;exact Rz (XS ht htm G1 e2).1 ω h
  ·rename_i htt;have h:=bf h;subst h;exact⟨G.inv,G.shp,λa b ha hb hab=>G.z a b ha hb hab ω,λa h1 h2=>G.p a ω h1 h2⟩
theorem Ys(G:Gf n m A S){b y:Nat->Int}(hy:∀k,k<n->(if k<m then AV S.d k k*y k else 0)=sm n λq=>AV S.u k q*b q)(p:Nat)(hp:p<n):(sm m λi=>A p i*sm m λq=>AV S.v i q*y q)=b p:=by
 have e1:(sm m λi=>A p i*sm m λq=>AV S.v i q*y q)=sm m λq=>(sm m λi=>A p i*AV S.v i q)*y q:=by rw[Bl (g:=λi=>sm m λq=>A p i*AV S.v i q*y q) λi _=>by rw[<-GR];exact Bl λq _=>(Int.mul_assoc _ _ _).symm];rw[OW];exact Bl λq _=>LF _ _ _
 rw[e1,Bl (g:=λq=>(sm n λk=>AV S.ui p k*AV S.d k q)*y q) λq hq=>by rw[G.inv.av p q hp hq]]
 have e2:(sm m λq=>(sm n λk=>AV S.ui p k*AV S.d k q)*y q)=sm n λk=>AV S.ui p k*sm m λq=>AV S.d k q*y q:=by rw[Bl (g:=λq=>sm n λk=>AV S.ui p k*AV S.d k q*y q) λq _=>by rw[LF]];rw[OW];exact Bl λk _=>by rw[<-GR];exact Bl λq _=>Int.mul_assoc _ _ _
 rw[e2]
 have e3:∀k,k<n->(sm m λq=>AV S.d k q*y q)=if k<m then AV S.d k k*y k else 0:=λk hk=>by
  by_cases hkm:k<m
  ·rw[ah hkm];exact Ku m k _ hkm λq hq hne=>by rw[G.z k q hk hq (ft hne),gj]
  ·rw[ae hkm];exact LJ λq hq=>by rw[G.z k q hk hq ω,gj]
 rw[Bl (g:=λk=>AV S.ui p k*sm n λq=>AV S.u k q*b q) λk hk=>by rw[e3 k hk,hy k hk]];rw[Bl (g:=λk=>sm n λq=>AV S.ui p k*AV S.u k q*b q) λk _=>by rw[<-GR];exact Bl λq _=>(Int.mul_assoc _ _ _).symm];rw[OW,Bl (g:=λq=>(if p=q then 1 else 0)*b q) λq hq=>by rw[LF,G.inv.uu p q hp hq]];rw[Ku n p _ hp λq _ hne=>by rw[ae (ft hne),gj],ah rfl,gy]
theorem Wh(G:Gf n m A S)(k j:Nat)(hk:k<n)(hj:j<m):(if k<m then AV S.d k k else 0)∣sm n λq=>AV S.u k q*A q j:=by
 rw[G.inv.ua k j hk hj];by_cases hkm:k<m
 ·rw[ah hkm,Ku m k _ hkm λq hq hne=>by rw[G.z k q hk hq (ft hne),gj]];exact Int.dvd_mul_right _ _
 ·rw[ae hkm,LJ λq hq=>by rw[G.z k q hk hq ω,gj]];exact Int.dvd_refl _
end Go.Sm
namespace Go.Ch
open Go.Lin Go.Sm
variable {ids:List Int} {g:Int->Int} {c:Int}
theorem L7(h:Int->Int):∀ids:List Int,(ids.map h).sum=sm ids.length λi=>h (ids.getD i 0)
 | []=>rfl
 | c::ids=>by
  have ih:=L7 h ids;rw[dr,sum_cons,ih,d8,Nat.add_comm ids.length 1,YS 1 ids.length];have e1:sm 1 (λi=>h ((c::ids).getD i 0))=h c:=by show(0:Int)+_=_;rw[Int.zero_add];rfl
  rw[e1];congr 1;exact Bl λi _=>by rw[Nat.add_comm 1 i];rfl
theorem Qv:∀{L:List Tm},(∀p∈L,g p.1=0)->lin g L=0
 | [],_=>rfl
 | p::L,h=>by rw[Ez,h p ax,Qv λq hq=>h q (bi _ hq)];simp
theorem Md{P:Tm->Bool}:∀{L:List Tm},(∀p∈L,P p=false->g p.1=0)->lin g (L.filter P)=lin g L
 | [],_=>rfl
 | p::L,h=>by
  have ih:=Md (L:=L) λq hq=>h q (bi _ hq);cases e:P p with
  | true=>rw[List.filter_cons_of_pos e,Ez,Ez,ih]
  | false=>rw[List.filter_cons_of_neg (by rw[e];simp),Ez,ih,h p ax e];simp
theorem NK{P:Tm->Bool}:∀{L:List Tm},(∀p∈L,P p=false->p.1≠c)->cf (L.filter P) c=cf L c
 | [],_=>rfl
 | p::L,h=>by
  have ih:=NK (L:=L) λq hq=>h q (bi _ hq);cases e:P p with
  | true=>rw[List.filter_cons_of_pos e,CI,CI,ih]
  | false=>rw[List.filter_cons_of_neg (by rw[e];simp),CI,ih,ae (h p ax e)];simp
theorem JZ{L:List Tm}(hn:ids.Nodup)(h:∀p∈L,g p.1≠0->p.1∈ids):lin g L=sm ids.length λi=>g (ids.getD i 0)*cf L (ids.getD i 0):=by
 rw[<-L7 (λc=>g c*cf L c)]
 have e1:lin g (L.filter λp=>decide (p.1∈ids))=lin g L:=Md λp hp hP=>aq λq=>by have:=h p hp q;simp[this]at hP
 rw[<-e1,Kx hn λp hp=>by have:=(dh.1 hp).2;simpa using this];congr 1;refine map_congr_left λc hc=>?_;rw[NK λp hp hP e=>by subst e;simp[hc]at hP]
theorem FY(g:Int->Int){A B:List Tm}(h:∀c,cf A c=cf B c):lin g A=lin g B:=by have hn:=Kp (A++B);have hk:∀p,p∈A++B->p.1∈(Ja (A++B)).map Prod.fst:=λp hp=>(M5 _ _).2 (List.mem_map_of_mem hp);rw[Kx hn λp hp=>hk p (eh _ hp),Kx hn λp hp=>hk p (List.mem_append_right _ hp)];congr 1;exact map_congr_left λc _=>by rw[h c]
theorem ZB{g:Nat->Int}:∀{ids:List Int} (k:Nat),ids.Nodup->∀j,j<ids.length->cf (ids.zip ((List.range' k ids.length).map g)) (ids.getD j 0)=g (k+j)
 | [],k,_,j,hj=>by simp at hj
 | c::ids,k,hn,j,hj=>by
  obtain⟨h1,h2⟩:=fl.1 hn;rw[d8,List.range'_succ,dr,List.zip_cons_cons,CI];cases j with
  | zero=>
   show(if c=c then g k else 0)+cf _ c=_;rw[ah rfl,Ei λp hp (e:p.1=c)=>h1 (by have:=(List.of_mem_zip (by exact hp:(p.1,p.2)∈_)).1;rwa [e]at this)];simp
  | succ j=>
   have hj':j<ids.length:=by simpa using hj
   have hm:ids.getD j 0∈ids:=by rw[show ids.getD j 0=ids[j] by simp[List.getD,hj']];exact ao hj'
   show(if c=ids.getD j 0 then g k else 0)+cf _ (ids.getD j 0)=_;rw[ae (λe:c=ids.getD j 0=>h1 (by rw[e];exact hm)),ZB (k+1) h2 j hj',Int.zero_add];congr 1;omega
theorem U0{xs:List Int}(h:c ∉ ids):cf (ids.zip xs) c=0:=by
 refine Ei λp hp (e:p.1=c)=>h ?_;have:=(List.of_mem_zip (by exact hp:(p.1,p.2)∈_)).1
 rwa [e]at this
theorem VC{n:Nat}(hn:ids.Nodup)(g:Nat->Int)(e:ids.length=n){j:Nat}(hj:j<n):cf (ids.zip (Dr n g)) (ids.getD j 0)=g j:=by subst e;have:=ZB (g:=g) 0 hn j hj;rw[Nat.zero_add]at this;rw[<-this];unfold Dr;rw[List.range_eq_range']
theorem Aas(h:c∈ids):∃i,i<ids.length/\ids.getD i 0=c:=by obtain⟨i,hi,e⟩:=dm.1 h;exact⟨i,hi,by simp[List.getD,hi,e]⟩
end Go.Ch
namespace Go.Eng
open Go.RowKit
theorem Qs{s' s:AE}(h:Eng.Sub s' s:=by repeat (first|exact ej|refine⟨rfl,?_⟩)):Eng.Sub s' s:=h
theorem Qt{f:Nat->Option (Nat×Nat)}{n:Nat}{vs:List (Nat×Value)}{ps:List (Nat×List Value)}(h:HG f n vs ps:=by repeat (first|exact ej|refine⟨⟨by rfl,rfl,rfl⟩,?_⟩)):HG f n vs ps:=h
def dgQ(n:Nat)(o:Oper):Option Nat:=match o.dst,o.guard with
 | some d,none=>match Nat.blt d n with
  | true=>some d
  | false=>none
 | _,_=>none
theorem Ln{n d:Nat}{o:Oper}(h:dgQ n o=some d):o.dst=some d/\Nat.blt d n=true/\o.guard=none:=by
 unfold dgQ at h;split at h
 ·rename_i d' h1 h2;split at h
  ·rename_i h3;cases h;exact⟨h1,h3,h2⟩
  ·cases h
 ·cases h
def mv(s:AE)(o:Oper):Option Value:=match o.op with
 | .move x=>ev s x
 | .assign x=>ev s x
 | .nilCheck x=>match ev s x with
  | some (.pointer (some p))=>some (.pointer (some p))
  | _=>none
 | .extract x i=>match ev s x with
  | some (.tuple vs)=>vs[i]?
  | _=>none
 | .pick c x y=>match ev s c with
  | some (.bool true)=>ev s x
  | some (.bool false)=>ev s y
  | _=>none
 | .unOp .not _ x=>match ev s x with
  | some (.bool a)=>some (.bool (!a))
  | _=>none
 | .binOp b _ x y _=>match b,ev s x,ev s y with
  | .lss,some (.int k a),some (.int k' b)=>if k=k' then some (.bool (decide (a<b))) else none
  | .leq,some (.int k a),some (.int k' b)=>if k=k' then some (.bool (decide (a<=b))) else none
  | .gtr,some (.int k a),some (.int k' b)=>if k=k' then some (.bool (decide (b<a))) else none
  | .geq,some (.int k a),some (.int k' b)=>if k=k' then some (.bool (decide (b<=a))) else none
  | .eql,some (.int k a),some (.int k' b)=>if k=k' then some (.bool (decide (a=b))) else none
  | .neq,some (.int k a),some (.int k' b)=>if k=k' then some (.bool (decide (a≠b))) else none
  | _,_,_=>none
 | _=>none
theorem Z6{P:Program}{s:AE}{h:Hp}{ms:List Hp}{o:Oper}{v:Value}(hv:mv s o=some v):OX P o s h ms v:=by
 unfold mv at hv;split at hv
 ·rename_i h1;exact Au h1 hv
 ·rename_i h1;exact II h1 hv
 ·rename_i h1;split at hv
  ·rename_i h2;cases hv;exact QQ h1 h2
  ·cases hv
 ·rename_i h1;split at hv
  ·rename_i h2;exact BM h1 h2 hv
  ·cases hv
 ·rename_i h1;split at hv
  ·rename_i h2;exact CS h1 h2 hv
  ·rename_i h2;exact CA h1 h2 hv
  ·cases hv
 ·rename_i h1;split at hv
  ·rename_i h2;cases hv;exact Dn h1 h2
  ·cases hv
 ·rename_i h1;split at hv<;>first|(split at hv<;>first|(rename_i h2 h3 h4;subst h4;cases hv;first|exact Dy h1 h2 h3|exact TS h1 h2 h3|exact Ci h1 h2 h3|exact MZ h1 h2 h3|exact Cq h1 h2 h3|exact EO h1 h2 h3)|cases hv)|cases hv
 ·cases hv
def gd(ops:Array Oper)(n:Nat)(s:AE)(o:Oper)(w:Bool):Option Nat:=match o.dst,o.guard with
 | some d,some (j,b)=>match Nat.blt d n,ops[j]? with
  | true,some oj=>match oj.dst with
   | some dj=>match lk s dj with
    | some (.bool b')=>match (b'==b)==w with
     | true=>some d
     | false=>none
    | _=>none
   | none=>none
  | _,_=>none
 | _,_=>none
theorem Vs{ops:Array Oper}{n d:Nat}{s:AE}{o:Oper}{w:Bool}(h:gd ops n s o w=some d):∃j b oj dj b',o.dst=some d/\Nat.blt d n=true/\o.guard=some (j,b)/\ops[j]?=some oj/\oj.dst=some dj/\lk s dj=some (.bool b')/\(b'==b)=w:=by
 unfold gd at h;split at h
 ·rename_i d' j b h1 h2;split at h
  ·rename_i oj h3 h4;split at h
   ·rename_i dj h5;split at h
    ·rename_i b' h6;split at h
     ·rename_i h7;cases h;exact⟨j,b,oj,dj,b',h1,h3,h2,h4,h5,h6,by simpa using h7⟩
     ·cases h
    ·cases h
   ·cases h
  ·cases h
 ·cases h
section
variable {e:Entry} {Q:Exit->Act->World->Prop} {s:AE} {h h0:Hp} {ms:List Hp} {ops:Array Oper} {listed:Array Bool} {fuel:Nat} {o:Oper} {rest:List Oper} {v:Value} {d:Nat}
theorem Qx(hx:OX e.P o s h ms v)(hd:dgQ e.n o=some d)(k:WL e ops Q rest ((d,v)::s) h ms):WL e ops Q (o::rest) s h ms:=
 let ⟨h1,h2,h3⟩:=Ln hd
 AeO hx h1 h2 h3 k
def mvd(n:Nat)(s:AE)(o:Oper):Option (Nat×Value):=match dgQ n o,mv s o with
 | some d,some v=>some (d,v)
 | _,_=>none
theorem Qm(hm:mvd e.n s o=some (d,v))(k:WL e ops Q rest ((d,v)::s) h ms):WL e ops Q (o::rest) s h ms:=by
 obtain⟨hd,hv⟩:dgQ e.n o=some d/\mv s o=some v:=by
  unfold mvd at hm;split at hm
  ·rename_i h1 h2;cases hm;exact⟨h1,h2⟩
  ·cases hm
 exact Qx (Z6 hv) hd k
theorem Qk(hd:gd ops e.n s o false=some d)(k:WL e ops Q rest ((d,undef)::s) h ms):WL e ops Q (o::rest) s h ms:=
 let ⟨_,_,_,_,_,h1,h2,h3,h4,h5,h6,h7⟩:=Vs hd
 Ab4 h1 h2 h3 h4 h5 h6 h7 k
theorem Qg(hx:OX e.P o s h ms v)(hd:gd ops e.n s o true=some d)(k:WL e ops Q rest ((d,v)::s) h ms):WL e ops Q (o::rest) s h ms:=
 let ⟨_,_,_,_,_,h1,h2,h3,h4,h5,h6,h7⟩:=Vs hd
 Ac4 hx h1 h2 h3 h4 h5 (by rw[h6];congr 2;simpa using h7) k
theorem Qw(k:WB e ops Q h fuel listed s h ms):WL e ops (QB e ops Q h fuel listed) [] s h ms:=An (AcU (Hp.le_refl _) k)
theorem Qa(k:WB e ops Q h0 fuel listed s h ms)(hl:h0.le h:=by assumption):WL e ops (QB e ops Q h0 fuel listed) [] s h ms:=An (AcU hl k)
theorem Qo(i:Nat)(ho:ops[i]?=some o)(k:WL e ops (QB e ops Q h0 fuel (listed.setIfInBounds i true)) [o] s h ms)(hr:Region.ready .any ops listed=[i]:=by kernel_rfl):WB e ops Q h0 (fuel+1) listed s h ms:=A4 [i] hr rfl (AA ho k A5)
theorem Qe(k:NX e Q .normal s h ms)(hr:Region.ready .any ops listed=[]:=by kernel_rfl):WB e ops Q h0 fuel listed s h ms:=Adx hr k
theorem Am{y:Code}(k:WS e y Q s h ms):WL e ops (Exit.then (λa w=>y.wp e.P Q a w) Q) [] s h ms:=An (Ab k)
theorem Ar{id:Nat}{l:List Oper}{y:Code}(k:WL e l.toArray (Exit.then (λa w=>y.wp e.P Q a w) Q) l s h ms):WS e (.seq (.region id l.toArray false) y) Q s h ms:=Ac (Ad k)
theorem Bp{id:Nat}{l:List Oper}{y:Code}(k:WL e l.toArray (Exit.then (λa w=>y.wp e.P Q a w) Q) l s h ms):WL e ops (Exit.then (λa w=>(Code.seq (.region id l.toArray false) y).wp e.P Q a w) Q) [] s h ms:=An (Ab (Ac (Ad k)))
theorem GX{id:Nat}{l:List Oper}(k:WL e l.toArray Q l s h ms):WL e ops (Exit.then (λa w=>(Code.region id l.toArray false).wp e.P Q a w) Q) [] s h ms:=An (Ab (Ad k))
theorem BS{t:TypeId}{sz:Nat}{z:Value}{bytes:Nat}(zl:List Value)(ho:o.op=.alloc t)(hs:Elem e.P t sz z bytes)(hz:z.cells=zl.toArray)(hd:dgQ e.n o=some d)(k:∀g,WL e ops Q rest ((d,.pointer (some ⟨g,0,none⟩))::s) h (BI g t zl::ms)):WL e ops Q (o::rest) s h ms:=
 let ⟨h1,h2,h3⟩:=Ln hd
 AaB zl ho hs hz h1 h2 h3 k
end
def pzo(l:List Oper)(n:Nat)(zs:AE)(i:Nat):Option (Oper×Nat):=match l[i]? with
 | some o=>match dgQ n o with
  | some d=>match lk zs d with
   | none=>some (o,d)
   | some _=>none
  | none=>none
 | none=>none
theorem Qp{P:Program}{l:List Oper}{n:Nat}{s z:AE}{h0:Hp}{K:AE->Prop}{r:List Nat}{i d:Nat}{o:Oper}{v:Value}(ho:pzo l n (z++s) i=some (o,d))(hx:OX P o (z++s) h0 [] v)(k:Dd P l n s h0 K r ((d,v)::z)):Dd P l n s h0 K (i::r) z:=by
 unfold pzo at ho;split at ho
 ·rename_i o' h1;split at ho
  ·rename_i d' h2;split at ho
   ·rename_i h3;cases ho;obtain⟨h4,h5,_⟩:=Ln h2;exact Aey h1 h4 h5 h3 hx k
   ·cases ho
  ·cases ho
 ·cases ho
def pzm(l:List Oper)(n:Nat)(zs:AE)(i:Nat):Option (Nat×Value):=match pzo l n zs i with
 | some (o,d)=>match mv zs o with
  | some v=>some (d,v)
  | none=>none
 | none=>none
def ldv(s:AE)(o:Oper):Option (TypeId×Addr):=match o.op with
 | .load t x=>match ev s x with
  | some (.pointer (some p))=>some (t,p)
  | _=>none
 | _=>none
theorem Qz{s:AE}{o:Oper}{t:TypeId}{p:Addr}(h:ldv s o=some (t,p)):∃x,o.op=.load t x/\ev s x=some (.pointer (some p)):=by
 unfold ldv at h;split at h
 ·rename_i t' x h1;split at h
  ·rename_i h2;cases h;exact⟨x,h1,h2⟩
  ·cases h
 ·cases h
def fav(s:AE)(o:Oper):Option (TypeId×Nat×Addr):=match o.op with
 | .fieldAddr t x i=>match ev s x with
  | some (.pointer (some p))=>some (t,i,p)
  | _=>none
 | _=>none
theorem AaF{s:AE}{o:Oper}{t:TypeId}{i:Nat}{p:Addr}(h:fav s o=some (t,i,p)):∃x,o.op=.fieldAddr t x i/\ev s x=some (.pointer (some p)):=by
 unfold fav at h;split at h
 ·rename_i t' x i' h1;split at h
  ·rename_i h2;cases h;exact⟨x,h1,h2⟩
  ·cases h
 ·cases h
def wd(o:Oper):Option Nat:=match o.dst,o.guard with
 | some d,none=>some d
 | _,_=>none
theorem OI{o:Oper}{d:Nat}(h:wd o=some d):o.dst=some d/\o.guard=none:=by
 unfold wd at h;split at h
 ·rename_i h1 h2;cases h;exact⟨h1,h2⟩
 ·cases h
section
variable {P:Program} {l:List Oper} {n:Nat} {s z:AE} {h h0:Hp} {ms:List Hp} {K:AE->Prop} {r:List Nat} {i d:Nat} {o:Oper} {v:Value} {t:TypeId} {p:Addr} {D:TypeDesc}
theorem Qq(hm:pzm l n (z++s) i=some (d,v))(k:Dd P l n s h0 K r ((d,v)::z)):Dd P l n s h0 K (i::r) z:=by
 unfold pzm at hm;split at hm
 ·rename_i h1;split at hm
  ·rename_i h2;cases hm;exact Qp h1 (Z6 h2) k
  ·cases hm
 ·cases hm
def ad2{α:Type}(a:Option (Oper×Nat))(f:Oper->Option α):Option (α×Nat):=match a with
 | some (o,d)=>match f o with
  | some x=>some (x,d)
  | none=>none
 | none=>none
theorem Re{α:Type}{a:Option (Oper×Nat)}{f:Oper->Option α}{x:α}{d:Nat}(h:ad2 a f=some (x,d)):∃o,a=some (o,d)/\f o=some x:=by
 unfold ad2 at h;split at h
 ·rename_i o' d';split at h
  ·rename_i h2;cases h;exact⟨_,Y,h2⟩
  ·cases h
 ·cases h
theorem oL(hm:ldv s o=some (t,p))(ht:P.underlying t=some D)(hc:Cell h ms p v)(ha:Ih D=false:=by rfl):OX P o s h ms v:=
 let ⟨_,h1,h2⟩:=Qz hm
 AcQ h1 ht ha h2 hc
theorem oG{z:Value}{sz bytes:Nat}{vs:List Value}(hm:ldv s o=some (t,p))(ht:P.underlying t=some D)(hs:Elem P t sz z bytes)(hc:Seg h ms p vs)(ha:Ih D=true:=by rfl)(hl:vs.length=sz:=by rfl):OX P o s h ms (.agg vs.toArray):=
 let ⟨_,h1,h2⟩:=Qz hm
 Zi h1 ht ha hs hl h2 hc
theorem oF{j off:Nat}(F:GD P t j off)(hm:fav s o=some (t,j,p)):OX P o s h ms (.pointer (some (p.add off))):=
 let ⟨_,h1,h2⟩:=AaF hm
 Wv F h1 h2
theorem QL(hm:ad2 (pzo l n (z++s) i) (ldv (z++s))=some ((t,p),d))(ht:P.underlying t=some D)(hc:Cell h0 [] p v)(k:Dd P l n s h0 K r ((d,v)::z))(ha:Ih D=false:=by rfl):Dd P l n s h0 K (i::r) z:=
 let ⟨_,h1,h2⟩:=Re hm
 Qp h1 (oL h2 ht hc ha) k
theorem QF{j off:Nat}(F:GD P t j off)(hm:ad2 (pzo l n (z++s) i) (fav (z++s))=some ((t,j,p),d))(k:Dd P l n s h0 K r ((d,.pointer (some (p.add off)))::z)):Dd P l n s h0 K (i::r) z:=
 let ⟨_,h1,h2⟩:=Re hm
 Qp h1 (oF F h2) k
end
def bn(s:AE)(o:Oper):Option (BinOp×Int×Int):=match o.op with
 | .binOp b _ x y _=>match ev s x,ev s y with
  | some (.w a),some (.w c)=>some (b,a,c)
  | _,_=>none
 | _=>none
theorem Pz{s:AE}{o:Oper}{b:BinOp}{a c:Int}(h:bn s o=some (b,a,c)):∃t x y u,o.op=.binOp b t x y u/\ev s x=some (.int .i64 a)/\ev s y=some (.int .i64 c):=by
 unfold bn at h;split at h
 ·rename_i b' t x y u h1;split at h
  ·rename_i h2 h3;cases h;exact⟨t,x,y,u,h1,h2,h3⟩
  ·cases h
 ·cases h
section
variable {P:Program} {s:AE} {h:Hp} {ms:List Hp} {o:Oper} {a b:Int}
theorem oA(hm:bn s o=some (.add,a,b))(hr:-9223372036854775808<=a+b/\a+b<=9223372036854775807:=by omega):OX P o s h ms (.int .i64 (a+b)):=
 let ⟨_,_,_,_,h1,h2,h3⟩:=Pz hm
 AdW h1 h2 h3 hr
theorem oS(hm:bn s o=some (.sub,a,b))(hr:-9223372036854775808<=a-b/\a-b<=9223372036854775807:=by omega):OX P o s h ms (.int .i64 (a-b)):=
 let ⟨_,_,_,_,h1,h2,h3⟩:=Pz hm
 AdN h1 h2 h3 hr
theorem oM(hm:bn s o=some (.mul,a,b))(hr:-9223372036854775808<=a*b/\a*b<=9223372036854775807:=by omega):OX P o s h ms (.int .i64 (a*b)):=
 let ⟨_,_,_,_,h1,h2,h3⟩:=Pz hm
 Adh h1 h2 h3 hr
end
def stv(s:AE)(o:Oper):Option (TypeId×Addr×Value):=match o.op,o.dst,o.guard with
 | .store t x y,none,none=>match ev s x,ev s y with
  | some (.pointer (some p)),some v=>some (t,p,v)
  | _,_=>none
 | _,_,_=>none
theorem X0{s:AE}{o:Oper}{t:TypeId}{p:Addr}{v:Value}(h:stv s o=some (t,p,v)):∃x y,o.op=.store t x y/\ev s x=some (.pointer (some p))/\ev s y=some v/\o.dst=none/\o.guard=none:=by
 unfold stv at h;split at h
 ·rename_i t' x y h1 h2 h3;split at h
  ·rename_i h4 h5;cases h;exact⟨x,y,h1,h4,h5,h2,h3⟩
  ·cases h
 ·cases h
def cav(s:AE)(o:Oper):Option (FuncId×List Value):=match o.op with
 | .call c=>match c.callee,Sh s c.args.toList with
  | .value (.func f),some vs=>some (f,vs)
  | _,_=>none
 | _=>none
theorem Y7{s:AE}{o:Oper}{f:FuncId}{vs:List Value}(h:cav s o=some (f,vs)):∃l ts,o.op=.call { callee:=.value (.func f),args:=List.toArray l,argTypes:=ts }/\Sh s l=some vs:=by
 unfold cav at h;split at h
 ·rename_i c h1;split at h
  ·rename_i f' vs' h2 h3;cases h;obtain⟨ce,az,ts⟩:=c;simp only at h2 h3;subst h2;exact⟨az.toList,ts,by rw[h1,Array.toArray_toList],h3⟩
  ·cases h
 ·cases h
section
variable {e:Entry} {Q:Exit->Act->World->Prop} {s:AE} {h:Hp} {ms:List Hp} {ops:Array Oper} {o:Oper} {rest l:List Oper} {v:Value} {d:Nat} {t:TypeId} {p:Addr} {D:TypeDesc}
theorem Ql(hm:(ldv s o,dgQ e.n o)=(some (t,p),some d))(ht:e.P.underlying t=some D)(hc:Cell h ms p v)(k:WL e ops Q rest ((d,v)::s) h ms)(ha:Ih D=false:=by rfl):WL e ops Q (o::rest) s h ms:=
 let ⟨h1,h2⟩:=Prod.mk.inj hm
 Qx (oL h1 ht hc ha) h2 k
theorem Qf{j off:Nat}(F:GD e.P t j off)(hm:(fav s o,dgQ e.n o)=(some (t,j,p),some d))(k:WL e ops Q rest ((d,.pointer (some (p.add off)))::s) h ms):WL e ops Q (o::rest) s h ms:=
 let ⟨h1,h2⟩:=Prod.mk.inj hm
 Qx (oF F h1) h2 k
theorem Sa{el:TypeId}{z:Value}{sz bytes g:Nat}{l:List Value}(i:Nat)(vl:List Value)(hs:Elem e.P t sz z bytes)(hm:(stv s o,v.cells,ms[i]?,vl.length,l.length)=(some (t,⟨g,0,none⟩,v),vl.toArray,some (BI g el l),sz,sz))(h1:∀u∈vl,u.oneCell'=true)(K:WL e ops Q rest s h (ms.set i (BI g el vl))):WL e ops Q (o::rest) s h ms:=by simp only[Prod.mk.injEq]at hm;obtain⟨q1,q2,q3,q4,q5⟩:=hm;obtain⟨x,y,r1,r2,r3,r4,r5⟩:=X0 q1;exact QC i vl r1 hs r2 r3 q2 h1 q3 q4 q5 r4 r5 K
theorem Qc{f:FuncId}{vs:List Value}{post:Value->Hp->List Hp->Prop}(hc:∀az w,(callFunc f az).run e.P w=.ok (.enter f az) w)(hm:(cav s o,dgQ e.n o)=(some (f,vs),some d))(k:FnT e.P f vs.toArray h [] post)(K:∀v h' pre',h.le h'->post v h' pre'->WL e ops Q rest ((d,v)::s) h' (pre'++ms)):WL e ops Q (o::rest) s h ms:=by obtain⟨h1,h2⟩:=Prod.mk.inj hm;obtain⟨l,ts,h3,h4⟩:=Y7 h1;obtain⟨h5,h6,h7⟩:=Ln h2;exact Aa9 h3 hc h4 k h5 h6 h7 K
variable {tl:List Oper} {q:List (Nat×VP)} {al:List (Nat×Nb)}
theorem Wm(hm:(wd o,mv s o)=(some d,some v))(k:WR e ops Q tl h ms l ((d,v)::s) q al):WR e ops Q tl h ms (o::l) s q al:=
 let ⟨h1,h2⟩:=Prod.mk.inj hm
 let ⟨h3,h4⟩:=OI h1
 BD (Z6 h2) h3 h4 k
theorem Wf{j off:Nat}(F:GD e.P t j off)(hm:(wd o,fav s o)=(some d,some (t,j,p)))(k:WR e ops Q tl h ms l ((d,.pointer (some (p.add off)))::s) q al):WR e ops Q tl h ms (o::l) s q al:=
 let ⟨h1,h2⟩:=Prod.mk.inj hm
 let ⟨h3,h4⟩:=OI h1
 BD (oF F h2) h3 h4 k
theorem Wl(hm:(wd o,ldv s o)=(some d,some (t,p)))(ht:e.P.underlying t=some D)(hc:Cell h ms p v)(k:WR e ops Q tl h ms l ((d,v)::s) q al)(ha:Ih D=false:=by rfl):WR e ops Q tl h ms (o::l) s q al:=
 let ⟨h1,h2⟩:=Prod.mk.inj hm
 let ⟨h3,h4⟩:=OI h1
 BD (oL h2 ht hc ha) h3 h4 k
end
theorem OwnL.o1{α:Type _}{F:α->List Value}{sz:Nat}{el:TypeId}{m:Hp}{v:Value}{l:List α}(O:OwnL F sz el m v l):v.oneCell'=true:=(O.rd (h:=Hp.emp) (ms:=[m]) (List.Mem.head _)).rd.one
theorem BC{P:Program}{s:AE}{h:Hp}{ms:List Hp}{o:Oper}{v:Value}{sz n:Nat}{cs:List Value}{t el:TypeId}{x y:Operand}{z:Value}{bytes:Nat}{k:IntKind}{i:Int}(j:Nat)(R:Rd h ms v sz n cs)(ho:o.op=.indexAddr t x y)(ht:P.underlying t=some (.slice el))(hs:Elem P el sz z bytes)(hx:ev s x=some v)(hy:ev s y=some (.int k i))(hi:i=(j:Int):=by omega)(hlt:j<n:=by omega):OX P o s h ms (.pointer (some ((AH v).add (j*sz)))):=AM j R ho ht hs hx hy hi hlt
theorem AD{a b c:Hp}(x:a.le b)(y:b.le c):a.le c:=Hp.le_trans x y
theorem BE{a:Hp}:a.le a:=Hp.le_refl a
theorem Mh{α:Type _}{a:α}{l:List α}:a∈a::l:=List.Mem.head _
end Go.Eng
namespace Go.Proofs.Q
open Go.Proofs.Tryz
open Go.Eng Go.RowKit
section
open Go.Eng
theorem CC:prog.follows .mixedOrders=true:=by kernel_rfl
theorem Bk:Elem prog 3 1 (.int .i64 0) 8:=Elem.of κ
theorem el4:Elem prog 4 1 (.bool false) 1:=Elem.of κ
theorem WO:Elem prog 5 1 (.int .u8 0) 1:=Elem.of κ
theorem FA:Elem prog 22 1 (.slice none 0 0) 24:=Elem.of κ
theorem Yh:Elem prog 24 1 (.nilFunc) 8:=Elem.of κ
theorem AcH:Elem prog 25 1 (.slice none 0 0) 24:=Elem.of κ
theorem Bd:Elem prog 27 1 (.agg #[.slice none 0 0]) 24:=Elem.of κ
theorem SD:Elem prog 30 1 (.slice none 0 0) 24:=Elem.of κ
theorem Az:Elem prog 33 2 (.agg #[.bool false,.string ByteArray.empty]) 24:=Elem.of κ
theorem E6:Elem prog 35 5 (.agg #[.bool false,.slice none 0 0,.slice none 0 0,.bool false,.string ByteArray.empty]) 80:=Elem.of κ
theorem Aee:Elem prog 48 1 (.slice none 0 0) 24:=Elem.of κ
theorem A3:Elem prog 50 3 (.agg #[.int .i64 0,.int .i64 0,.slice none 0 0]) 40:=Elem.of κ
theorem BX:Elem prog 52 2 (.agg #[.int .i64 0,.int .i64 0]) 16:=Elem.of κ
theorem AcC:Elem prog 74 1 (.map none) 8:=Elem.of κ
theorem Co:Elem prog 79 3 (.agg #[.int .i64 0,.bool false,.string ByteArray.empty]) 32:=Elem.of κ
theorem FJ:Elem prog 87 4 (.agg #[.slice none 0 0,.int .i64 0,.slice none 0 0,.slice none 0 0]) 80:=Elem.of κ
theorem Ea:Elem prog 89 1 (.slice none 0 0) 24:=Elem.of κ
theorem BL:Elem prog 91 3 (.agg #[.int .i64 0,.int .i64 0,.slice none 0 0]) 40:=Elem.of κ
theorem AeG:Elem prog 113 2 (.agg #[.int .i64 0,.int .i64 0]) 16:=Elem.of κ
theorem Cn:Elem prog 117 1 (.int .u64 0) 8:=Elem.of κ
theorem AeK:Elem prog 137 2 (.agg #[.map none,.slice none 0 0]) 32:=Elem.of κ
theorem KL:Elem prog 141 1 (.map none) 8:=Elem.of κ
theorem L9:Elem prog 144 15 (.agg #[.int .i64 0,.int .i64 0,.slice none 0 0,.int .i64 0,.int .i64 0,.slice none 0 0,.int .i64 0,.int .i64 0,.slice none 0 0,.int .i64 0,.int .i64 0,.slice none 0 0,.int .i64 0,.int .i64 0,.slice none 0 0]) 200:=Elem.of κ
theorem I8:Elem prog 146 16 (.agg #[.int .i64 0,.int .i64 0,.slice none 0 0,.int .i64 0,.int .i64 0,.slice none 0 0,.int .i64 0,.int .i64 0,.slice none 0 0,.int .i64 0,.int .i64 0,.slice none 0 0,.int .i64 0,.int .i64 0,.slice none 0 0,.slice none 0 0]) 224:=Elem.of κ
theorem Ac8:Elem prog 166 1 (.nilFunc) 8:=Elem.of κ
theorem Zo:Elem prog 170 1 (.slice none 0 0) 24:=Elem.of κ
theorem Ac2:Elem prog 208 1 (.map none) 8:=Elem.of κ
theorem AcV:Elem prog 209 1 (.nilFunc) 8:=Elem.of κ
theorem AeC:Elem prog 223 5 (.agg #[.slice none 0 0,.slice none 0 0,.slice none 0 0,.slice none 0 0,.slice none 0 0]) 120:=Elem.of κ
theorem AeU:Elem prog 225 7 (.agg #[.slice none 0 0,.slice none 0 0,.slice none 0 0,.slice none 0 0,.slice none 0 0,.int .i64 0,.int .i64 0]) 136:=Elem.of κ
theorem DK:Elem prog 229 8 (.agg #[.bool false,.string ByteArray.empty,.bool false,.string ByteArray.empty,.bool false,.string ByteArray.empty,.bool false,.string ByteArray.empty]) 96:=Elem.of κ
theorem AbV:Gy prog 27 #[(0,1)]:=⟨_,underlying27,λw=>by kernel_rfl⟩
theorem Jp:Gy prog 33 #[(0,1),(1,1)]:=⟨_,underlying33,λw=>by kernel_rfl⟩
theorem AbM:Gy prog 35 #[(0,1),(1,1),(2,1),(3,2)]:=⟨_,underlying35,λw=>by kernel_rfl⟩
theorem Ox:Gy prog 50 #[(0,1),(1,1),(2,1)]:=⟨_,underlying50,λw=>by kernel_rfl⟩
theorem Wr:Gy prog 52 #[(0,1),(1,1)]:=⟨_,underlying52,λw=>by kernel_rfl⟩
theorem WX:Gy prog 79 #[(0,1),(1,2)]:=⟨_,underlying79,λw=>by kernel_rfl⟩
theorem Ab8:Gy prog 87 #[(0,1),(1,1),(2,1),(3,1)]:=⟨_,underlying87,λw=>by kernel_rfl⟩
theorem Aed:Gy prog 91 #[(0,1),(1,1),(2,1)]:=⟨_,underlying91,λw=>by kernel_rfl⟩
theorem Ae0:Gy prog 137 #[(0,1),(1,1)]:=⟨_,underlying137,λw=>by kernel_rfl⟩
theorem Afe:Gy prog 144 #[(0,3),(3,3),(6,3),(9,3),(12,3)]:=⟨_,underlying144,λw=>by kernel_rfl⟩
theorem AeY:Gy prog 146 #[(0,15),(15,1)]:=⟨_,underlying146,λw=>by kernel_rfl⟩
theorem AeA:Gy prog 223 #[(0,1),(1,1),(2,1),(3,1),(4,1)]:=⟨_,underlying223,λw=>by kernel_rfl⟩
theorem Ae9:Gy prog 225 #[(0,5),(5,2)]:=⟨_,underlying225,λw=>by kernel_rfl⟩
theorem Nw:Gy prog 229 #[(0,2),(2,2),(4,2),(6,2)]:=⟨_,underlying229,λw=>by kernel_rfl⟩
theorem Ct:GD prog 27 0 0:=⟨_,_,_,underlying27,rfl,rfl,sizeOf25⟩
theorem C4:GD prog 33 0 0:=⟨_,_,_,underlying33,rfl,rfl,sizeOf4⟩
theorem EI:GD prog 33 1 1:=⟨_,_,_,underlying33,rfl,rfl,sizeOf9⟩
theorem G0:GD prog 35 0 0:=⟨_,_,_,underlying35,rfl,rfl,sizeOf4⟩
theorem GW:GD prog 35 1 1:=⟨_,_,_,underlying35,rfl,rfl,sizeOf30⟩
theorem GV:GD prog 35 2 2:=⟨_,_,_,underlying35,rfl,rfl,sizeOf30⟩
theorem Ia:GD prog 35 3 3:=⟨_,_,_,underlying35,rfl,rfl,sizeOf33⟩
theorem BZ:GD prog 50 0 0:=⟨_,_,_,underlying50,rfl,rfl,sizeOf3⟩
theorem Cj:GD prog 50 1 1:=⟨_,_,_,underlying50,rfl,rfl,sizeOf3⟩
theorem BU:GD prog 50 2 2:=⟨_,_,_,underlying50,rfl,rfl,sizeOf48⟩
theorem Dl:GD prog 52 0 0:=⟨_,_,_,underlying52,rfl,rfl,sizeOf3⟩
theorem Eg:GD prog 52 1 1:=⟨_,_,_,underlying52,rfl,rfl,sizeOf3⟩
theorem Ga:GD prog 79 0 0:=⟨_,_,_,underlying79,rfl,rfl,sizeOf3⟩
theorem GY:GD prog 79 1 1:=⟨_,_,_,underlying79,rfl,rfl,sizeOf33⟩
theorem Fz:GD prog 87 0 0:=⟨_,_,_,underlying87,rfl,rfl,sizeOf27⟩
theorem Mx:GD prog 87 1 1:=⟨_,_,_,underlying87,rfl,rfl,sizeOf3⟩
theorem Un:GD prog 87 2 2:=⟨_,_,_,underlying87,rfl,rfl,sizeOf30⟩
theorem TW:GD prog 87 3 3:=⟨_,_,_,underlying87,rfl,rfl,sizeOf30⟩
theorem EH:GD prog 91 0 0:=⟨_,_,_,underlying91,rfl,rfl,sizeOf3⟩
theorem Do:GD prog 91 1 1:=⟨_,_,_,underlying91,rfl,rfl,sizeOf3⟩
theorem Gb:GD prog 91 2 2:=⟨_,_,_,underlying91,rfl,rfl,sizeOf89⟩
theorem GH:GD prog 137 0 0:=⟨_,_,_,underlying137,rfl,rfl,sizeOf135⟩
theorem Ot:GD prog 137 1 1:=⟨_,_,_,underlying137,rfl,rfl,sizeOf22⟩
theorem V4:GD prog 144 0 0:=⟨_,_,_,underlying144,rfl,rfl,sizeOf91⟩
theorem Uw:GD prog 144 2 6:=⟨_,_,_,underlying144,rfl,rfl,sizeOf91⟩
theorem AbD:GD prog 144 3 9:=⟨_,_,_,underlying144,rfl,rfl,sizeOf91⟩
theorem K8:GD prog 146 0 0:=⟨_,_,_,underlying146,rfl,rfl,sizeOf144⟩
theorem VB:GD prog 146 1 15:=⟨_,_,_,underlying146,rfl,rfl,sizeOf89⟩
theorem Kf:GD prog 223 0 0:=⟨_,_,_,underlying223,rfl,rfl,sizeOf220⟩
theorem Li:GD prog 223 1 1:=⟨_,_,_,underlying223,rfl,rfl,sizeOf220⟩
theorem D8:GD prog 223 2 2:=⟨_,_,_,underlying223,rfl,rfl,sizeOf220⟩
theorem Vz:GD prog 223 3 3:=⟨_,_,_,underlying223,rfl,rfl,sizeOf220⟩
theorem VZ:GD prog 223 4 4:=⟨_,_,_,underlying223,rfl,rfl,sizeOf220⟩
theorem B9:GD prog 225 0 0:=⟨_,_,_,underlying225,rfl,rfl,sizeOf223⟩
theorem IU:GD prog 225 1 5:=⟨_,_,_,underlying225,rfl,rfl,sizeOf113⟩
theorem Ll:GD prog 229 0 0:=⟨_,_,_,underlying229,rfl,rfl,sizeOf33⟩
theorem Lp:GD prog 229 1 2:=⟨_,_,_,underlying229,rfl,rfl,sizeOf33⟩
theorem K5:GD prog 229 2 4:=⟨_,_,_,underlying229,rfl,rfl,sizeOf33⟩
theorem La:GD prog 229 3 6:=⟨_,_,_,underlying229,rfl,rfl,sizeOf33⟩
theorem U3:type_of% @Tryz.underlying3:=@Tryz.underlying3
theorem U4:type_of% @Tryz.underlying4:=@Tryz.underlying4
theorem U5:type_of% @Tryz.underlying5:=@Tryz.underlying5
theorem U9:type_of% @Tryz.underlying9:=@Tryz.underlying9
theorem AZ:type_of% @Tryz.underlying22:=@Tryz.underlying22
theorem U24:type_of% @Tryz.underlying24:=@Tryz.underlying24
theorem B0:type_of% @Tryz.underlying25:=@Tryz.underlying25
theorem C9:type_of% @Tryz.underlying27:=@Tryz.underlying27
theorem CN:type_of% @Tryz.underlying30:=@Tryz.underlying30
theorem By:type_of% @Tryz.underlying33:=@Tryz.underlying33
theorem U35:type_of% @Tryz.underlying35:=@Tryz.underlying35
theorem Da:type_of% @Tryz.underlying48:=@Tryz.underlying48
theorem Jz:type_of% @Tryz.underlying50:=@Tryz.underlying50
theorem XM:type_of% @Tryz.underlying52:=@Tryz.underlying52
theorem Ta:type_of% @Tryz.underlying74:=@Tryz.underlying74
theorem U79:type_of% @Tryz.underlying79:=@Tryz.underlying79
theorem Jx:type_of% @Tryz.underlying83:=@Tryz.underlying83
theorem XQ:type_of% @Tryz.underlying87:=@Tryz.underlying87
theorem CE:type_of% @Tryz.underlying89:=@Tryz.underlying89
theorem HR:type_of% @Tryz.underlying91:=@Tryz.underlying91
theorem Th:type_of% @Tryz.underlying113:=@Tryz.underlying113
theorem Fi:type_of% @Tryz.underlying117:=@Tryz.underlying117
theorem I6:type_of% @Tryz.underlying135:=@Tryz.underlying135
theorem HQ:type_of% @Tryz.underlying141:=@Tryz.underlying141
theorem AeN:type_of% @Tryz.underlying144:=@Tryz.underlying144
theorem Adj:type_of% @Tryz.underlying146:=@Tryz.underlying146
theorem Cm:type_of% @Tryz.underlying164:=@Tryz.underlying164
theorem Afm:type_of% @Tryz.underlying166:=@Tryz.underlying166
theorem W8:type_of% @Tryz.underlying168:=@Tryz.underlying168
theorem H5:type_of% @Tryz.underlying170:=@Tryz.underlying170
theorem QN:type_of% @Tryz.underlying183:=@Tryz.underlying183
theorem O5:type_of% @Tryz.underlying185:=@Tryz.underlying185
theorem AaZ:type_of% @Tryz.underlying201:=@Tryz.underlying201
theorem AeL:type_of% @Tryz.underlying204:=@Tryz.underlying204
theorem AeV:type_of% @Tryz.underlying206:=@Tryz.underlying206
theorem Aec:type_of% @Tryz.underlying207:=@Tryz.underlying207
theorem I4:type_of% @Tryz.underlying208:=@Tryz.underlying208
theorem AeR:type_of% @Tryz.underlying209:=@Tryz.underlying209
theorem AbP:type_of% @Tryz.underlying219:=@Tryz.underlying219
theorem CG:type_of% @Tryz.underlying220:=@Tryz.underlying220
theorem KP:type_of% @Tryz.underlying229:=@Tryz.underlying229
end
section
def Cd(n:Int):Prop:=-9223372036854775808<=n/\n<=9223372036854775807
instance (n:Int):Decidable (Cd n):=by unfold Cd;infer_instance
theorem DY{P:Program}{f:FuncId}{args:Array Value}{h:Hp}{v:Value}(k:FnT P f args h [] (λr _ _=>r=v))(ms:List Hp):FnV P f args h ms v:=by refine λw hw=>(?_:FnV _ _ _ h [] _) w<|hw.weaken (BE)<|List.nil_sublist _;exact FnT.toV k
theorem C7{a b:Nat}(h:(a:Int)<b):a<b:=ω
def cD(s:Int×Int):List Value:=[.int .i64 s.1,.int .i64 s.2]
theorem F6:∀s,(cD s).length=2:=λ_=>rfl
theorem MB:∀a,∀c∈cD a,c.oneCell'=true:=λa c hc=>by simp only[cD,bg,gz,gv]at hc;rcases hc with rfl|rfl<;>rfl
structure Cl where
 id:Int
 dim:Int
 sd:List (Int×Int)
 deriving DecidableEq,Inhabited
structure Ce where
 c:Cl
 v:Value
instance:Inhabited Ce:=⟨⟨default,.slice none 0 0⟩⟩
def cC(a:Ce):List Value:=[.int .i64 a.c.id,.int .i64 a.c.dim,a.v]
theorem DP:∀a,(cC a).length=3:=λ_=>rfl
structure RdC(h:Hp)(v:Value)(l:List Ce):Prop where
 q:RdL cC 3 h [] v l
 s:∀a∈l,RdL cD 2 h [] a.v a.c.sd
theorem RdC.up{h h':Hp}{v:Value}{l:List Ce}(R:RdC h v l)(hl:h.le h'):RdC h' v l:=⟨R.q.up hl,λa ha=>(R.s a ha).up hl⟩
theorem GS{h:Hp}{l:List Ce}(H:∀a∈l,RdL cD 2 h [] a.v a.c.sd):∀a∈l,∀c∈cC a,c.oneCell'=true:=λa ha c hc=>by
 simp only[cC,bg,gz,gv]at hc;rcases hc with rfl|rfl|rfl
 ·rfl
 ·rfl
 ·exact(H a ha).rd.one
def Js(x:Int×Int)(l:List (Int×Int)):List (Int×Int):=l.takeWhile (λy=>decide (y.1<=x.1))++x::l.dropWhile (λy=>decide (y.1<=x.1))
def Dm(l:List (Int×Int)):List (Int×Int):=l.foldl (λacc x=>Js x acc) []
theorem EZ{α:Type}(p:α->Bool):∀(l:List α) (k:Nat),k<=l.length->(∀j (hj:j<l.length),j<k->p l[j]=true)->(∀hk:k<l.length,p l[k]=false)->l.takeWhile p=l.take k/\l.dropWhile p=l.drop k
 | [],k,hk,_,_=>by simp
 | a::l,0,_,_,h=>by have:=h σ;simp only[List.getElem_cons_zero]at this;simp[List.takeWhile,List.dropWhile,this]
 | a::l,k+1,hk,h1,h2=>by
  have h3:p a=true:=h1 0 σ ω
  have ih:=EZ p l k (by simpa using hk) (λj hj hjk=>by
   have:=h1 (j+1) (by simpa using hj) ω
   simpa using this) (λhk=>by
   have:=h2 (by simpa using hk)
   simpa using this)
  simp[List.takeWhile,List.dropWhile,h3,ih.1,ih.2]
theorem VF{x:Int×Int}{l:List (Int×Int)}{k:Nat}(hk:k<=l.length)(h1:∀j (hj:j<l.length),j<k->l[j].1<=x.1)(h2:∀hk:k<l.length,¬l[k].1<=x.1):Js x l=l.take k++x::l.drop k:=by obtain⟨e1,e2⟩:=EZ (λy=>decide (y.1<=x.1)) l k hk (λj hj hjk=>bq (h1 j hj hjk)) (λhk=>cg (h2 hk));unfold Js;rw[e1,e2]
theorem YZ(x:Int×Int)(l:List (Int×Int)):(Js x l).length=l.length+1:=by unfold Js;have:=congrArg List.length (List.takeWhile_append_dropWhile (p:=fun y:Int×Int=>decide (y.1<=x.1)) (l:=l));rw[length_append]at this;rw[length_append,length_cons];omega
theorem RJ(l:List (Int×Int))(x:Int×Int):Dm (l++[x])=Js x (Dm l):=by unfold Dm;rw[foldl_append];rfl
theorem Hy(l:List (Int×Int)):(Dm l).length=l.length:=by
 have go:∀(l acc:List (Int×Int)),(l.foldl (λacc x=>Js x acc) acc).length=acc.length+l.length:=λl=>by
  induction l with
  | nil=>intro acc;rfl
  | cons x l ih=>intro acc;rw[List.foldl_cons,ih,YZ,length_cons];omega
 have:=go l [];rw[ee,Nat.zero_add]at this;exact this
theorem FZ{α:Type}{F:α->List Value}{sz:Nat}{el:TypeId}(g:Nat)(hF:∀x,(F x).length=sz):OwnL F sz el (BI g el []) (.slice (some ⟨g,0,none⟩) 0 0) ([]:List α):=OwnL.blk (l:=[]) 0 hF rfl δ
theorem SP(l:List (Int×Int))(v:Value)(h:Hp)(hl:l.length<=100000)(hR:RdL cD 2 h [] v l):FnT Tryz.prog 80 #[v] h [] (λr h' ms'=>h=h'/\∃m,ms'=[m]/\OwnL cD 2 52 m r (Dm l)):=by
 have o1:=hR.rd.one;refine Ap func80 ntmps80 Y Y<|λw0 hw0=>?_;simp only[AR];refine Ar<|Qm Y<|Bp<|Qm Y<|Am<|Ac<|Ar<|Qm Y<|Am<|Ag<|BV ?_
 refine AB (λq s h' ms'=>∃(i:Nat) (vo:Value) (mo:Hp),q=l.length-i/\s=[(0,v),(3,vo),(4,.w i)]/\h=h'/\ms'=[mo]/\i<=l.length/\OwnL cD 2 52 mo vo (Dm (l.take i)))
  (l.length-0) _ ⟨0,_,_,rfl,rfl,rfl,rfl,ω,OwnL.nil F6⟩ Qs ?_
 rintro q s h' ms' ⟨i,vo,mo,rfl,rfl,rfl,rfl,hi,hO⟩;have hsl:=Hy (l.take i);rw[ay]at hsl;refine Ac<|Ar<|Qm Y<|Qm Y<|Qx (Aq hR.rd.any Y Da Y) Y<|Qm Y<|Am ?_;refine Aw Y (λhlt=>?_)<|λhlt=>?_
 ·have hil:i<l.length:=C7 hlt;have ovo:=hO.o1;have hseg:∀ms,Seg h ms ((AH v).add (i*2)) (cD l[i]):=λms=>(hR.any (ms:=ms)).seg hil;obtain⟨out,hout⟩:∃out,Dm (l.take i)=out:=⟨_,Y⟩
  rw[hout]at hO hsl;refine Ah<|Ab<|Ac<|Ag<|Ar<|Qm Y<|Am ?_;have hcl:=hO.rd (h:=h) (ms:=[mo]) Mh;have hout2:=hcl.len_le;have htk:Dm (l.take (i+1))=Js l[i] out:=by rw[ak hil,RJ,hout]
  refine Bv (λs h' ms'=>∃(k:Nat),s=[(0,v),(3,vo),(4,.w i),(5,.w k)]/\h=h'/\ms'=[mo]/\k<=out.length/\Js l[i] out=out.take k++l[i]::out.drop k) ?_<|λs h ms hI=>?_
  ·refine Ag ?_
   refine AB (λq s h' ms'=>∃(k:Nat),q=out.length-k/\s=[(0,v),(3,vo),(4,.w i),(5,.w k)]/\h=h'/\ms'=[mo]/\k<=out.length/\∀j (hj:j<out.length),j<k->out[j].1<=l[i].1)
    (out.length-0) _ ⟨0,rfl,rfl,rfl,rfl,ω,λj hj h=>ω⟩ Qs ?_
   rintro q s h' ms' ⟨k,rfl,rfl,rfl,rfl,hk,hlo⟩;refine Ac<|Ac<|BB 15 CC κ Y<|Wm Y<|Wm Y<|BD (Aq hcl.rd Y Da Y) Y Y<|Wm Y<|Wm Y ?_;refine C3 (t:=17) Y (λhs1=>?_)<|λhs1=>?_
   ·have hkl:k<out.length:=C7 hs1;have hck:Cell h [mo] ((AH vo).add (k*2)) (.w out[k].1):=hcl.cell0 hkl Y;have hci:Cell h [mo] ((AH v).add (i*2)) (.w l[i].1):=hR.any.cell0 hil Y;refine AP (Au Y Y) Y Y Y Y<|AP (Au Y Y) Y Y Y Y<|AP (BC (k) hcl.rd Y Da BX Y Y) Y Y Y Y<|AP (oF Dl Y) Y Y Y Y<|AP (oL Y U3<|hck) Y Y Y Y<|AP (Au Y Y) Y Y Y Y<|AP (Au Y Y) Y Y Y Y<|AP (BC (i) hR.rd.any Y Da BX Y Y) Y Y Y Y<|AP (oF Dl Y) Y Y Y Y<|AP (oL Y U3<|hci) Y Y Y Y<|Bu<|Qg (TS Y Y Y) Y<|Qm Y<|Am ?_;refine Aw Y (λhs2=>?_)<|λhs2=>?_
    ·refine Ah<|Ab<|Ag<|Ad<|Qm Y<|Qx (oA Y) Y<|Qm Y<|An<|Ai ?_
     exact Ao (out.length-(k+1)) _ ω ⟨k+1,Y,Y,Y,Y,ω,λj hj h=>by
      rcases (ω:j<k\/j=k) with h1|rfl
      ·exact hlo j hj h1
      ·exact hs2⟩ Qs
    ·refine Ax<|Aa<|Aa<|Af ?_;exact AI _ ⟨k,Y,Y,Y,hk,VF hk hlo λ_=>hs2⟩ Qs
   ·have hkl:k=out.length:=ω
    refine AG Y Y Y Y Y<|AG Y Y Y Y Y<|AG Y Y Y Y Y<|AG Y Y Y Y Y<|AG Y Y Y Y Y<|AG Y Y Y Y Y<|AG Y Y Y Y Y<|AG Y Y Y Y Y<|AG Y Y Y Y Y<|AG Y Y Y Y Y<|Bu<|Qk Y<|Qm Y<|Am<|AL Y<|Ax<|Aa<|Aa<|Af ?_;exact AI _ ⟨k,Y,Y,Y,hk,VF hk hlo λh=>ie h ω⟩ Qs
  ·obtain⟨k,rfl,rfl,rfl,hk,hins⟩:=hI;refine Ac<|BB 8 CC κ rfl<|Wm rfl<|Wm rfl<|BD (BC (i) hR.rd.any rfl Da BX rfl rfl) rfl rfl<|BD (oG rfl XM BX<|hseg _) rfl rfl<|Afc (HL [_,_] rfl Da BX rfl (by rfl) rfl rfl ω) rfl rfl<|Wm rfl<|Wm rfl<|BD (C8 (k) hcl.rd rfl Da BX rfl rfl ω ω) rfl rfl<|VD<|λg36=>AJ 0 (OwnL.blk (g:=g36) (el:=52) (F:=cD) (l:=[l[i]]) 1 F6 rfl δ) ((hO.rd (h:=h)<|List.Mem.tail _ Mh).sub_ hk<|am _) rfl Da BX rfl ω rfl rfl rfl MB (by(try simp only[ab,ee,af,ay,bw,ap]);omega) (by(try simp only[ab,ee,af,ay,bw,ap]);omega) rfl rfl rfl<|λv6 m6 hO6=>?_;have ov6:=hO6.o1;refine Qm rfl<|GX ?_;refine AO [] [] [] rfl Da BX rfl ω κ (by repeat (first|exact ej|refine⟨⟨by first|rfl|exact(hcl.rd).cells|exact Rd.cells ‹_›|exact(RdL.rd ‹_›).cells,rfl,rfl⟩,?_⟩)) rfl rfl rfl rfl<|λg41=>?_;refine Qm rfl<|Qm rfl<|Qx (Io (k) hcl.rd rfl Da BX rfl rfl ω ω) rfl<|AJ 0 (FZ g41 F6) ((hO.rd (h:=h)<|List.Mem.tail _<|List.Mem.tail _ Mh).sub_ (Nat.zero_le _) hk) rfl Da BX rfl ω rfl rfl rfl MB (by(try simp only[ab,ee,af,ay,bw,ap]);omega) (by(try simp only[ab,ee,af,ay,bw,ap]);omega) rfl rfl rfl<|λv7 m7 hO7=>Qm rfl<|AJ 0 hO7 (hO6.rd (h:=h)<|List.Mem.tail _ Mh) rfl Da BX rfl ω rfl rfl rfl MB (by(try simp only[ab,ee,af,ay,bw,ap]);omega) (by(try simp only[ab,ee,af,ay,bw,ap]);omega) rfl rfl rfl<|λv8 m8 hO8=>?_
   have he:[]++(out.drop 0).take (k-0)++([l[i]]++(out.drop k).take (out.length-k))=Dm (l.take (i+1)):=by rw[htk,hins,List.drop_zero,Nat.sub_zero,fy (l:=out.drop k) (by rw[bw];omega)];rfl
   rw[he]at hO8;refine Qm Y<|An<|Ai<|Ab<|Ad<|Qm Y<|Qx (oA Y) Y<|Qm Y<|An ?_;refine Iv (List.perm_append_comm (l₁:=[m8]) (l₂:=[m6,mo]))<|AQ<|AQ ?_;exact Ao (l.length-(i+1)) _ ω ⟨i+1,v8,m8,Y,Y,Y,Y,ω,hO8⟩ Qs
 ·have hil:i=l.length:=ω
  rw[hil,List.take_length]at hO;refine Ax<|Aa<|Aa<|Af<|Ab<|Ar<|Qm Y<|Qm Y<|Am<|Aj ?_;exact Al Y Y (⟨Y,mo,Y,hO⟩)
open Go.Lin Go.Sort
theorem PI(i j:Nat)(h:i+j<4611686018427387904):IntKind.i64.wrap (((i+j)%((2:Int)^IntKind.u64.bits).natAbs/2^1:Nat):Int)=(((i+j)/2:Nat):Int):=by
 have e1:(2^IntKind.u64.bits:Int).natAbs=18446744073709551616:=by decide
 rw[e1,db ω];show IntKind.i64.wrap (((i+j)/2:Nat):Int)=_;unfold IntKind.wrap;simp[IntKind.bits,IntKind.signed];omega
def c3(x y:Int):Int:=if x<y then -1 else if y<x then 1 else 0
theorem AcX(x y:Int):c3 x y<0<->x<y:=by
 unfold c3
 repeat' split
 all_goals omega
theorem VS(x:Int)(h:Hp)(ms:List Hp):FnV Tryz.prog 176 #[.int .i64 x] h ms (.bool false):=by refine DY ?_ ms;refine Ap func176 ntmps176 Y Y<|λw0 hw0=>?_;simp only[AR];refine Ar<|Qm Y<|Bp<|Qm Y<|Qm Y<|Qm Y<|Qm Y<|Am<|Aj ?_;exact Al Y Y σ
theorem NB(x y:Int)(h:Hp)(ms:List Hp):FnV Tryz.prog 215 #[.int .i64 x,.int .i64 y] h ms (.int .i64 (c3 x y)):=by
 refine DY ?_ ms;refine Ap func215 ntmps215 Y Y<|λw0 hw0=>?_;simp only[AR];refine Ar<|Qm Y<|Bp<|Qm Y<|Qx (As Y call176 Y<|VS _ _ _) Y<|Qm Y<|Bp<|Qm Y<|Qx (As Y call176 Y<|VS _ _ _) Y<|Qm Y<|Am<|Ac<|Ar<|Qm Y<|Am<|AL Y<|Ah<|Ab<|Ac<|Ar<|Qm Y<|Am<|AL Y<|Ah<|Ab<|Ac<|Ar<|Qm Y<|Qm Y<|Qm Y<|Am ?_;refine Aw Y (λh1=>?_)<|λh1=>?_
 ·refine Ac<|Ad<|Qm Y<|Am<|Aj<|Ae ?_;exact Al Y Y (by unfold c3;rw[ah h1])
 ·refine Ah<|Ab<|Ac<|Ar<|Qm Y<|Qm Y<|Qm Y<|Am ?_;refine Aw Y (λh2=>?_)<|λh2=>?_
  ·refine Ac<|Ad<|Qm Y<|Am<|Aj<|Ae ?_;exact Al Y Y (by unfold c3;rw[ae h1,ah h2])
  ·refine Ah<|Ab<|Ar<|Qm Y<|Am<|Aj ?_;exact Al Y Y (by unfold c3;rw[ae h1,ae h2])
structure CeO where
 c:Cl
 v:Value
 one:v.oneCell'=true
instance:Inhabited CeO:=⟨⟨default,.slice none 0 0,rfl⟩⟩
def TP(a:CeO):List Value:=[.int .i64 a.c.id,.int .i64 a.c.dim,a.v]
theorem PV:∀a,(TP a).length=3:=λ_=>rfl
theorem AbF(s:CeO):∀c∈TP s,c.oneCell'=true:=λc hc=>by
 simp only[TP,bg,gz,gv]at hc;rcases hc with rfl|rfl|rfl
 ·rfl
 ·rfl
 ·exact s.one
abbrev ZY:=Int×Int
def Uh(g:Nat):Value:=.func (.func 214) #[] #[.pointer (some ⟨g,0,none⟩)]
def cvD(g:Nat):Value:=.func (.func 218) #[] #[.pointer (some ⟨g,0,none⟩)]
def fkC:Value:=.func (.func 169) #[] #[]
def fkD:Value:=.func (.func 171) #[] #[]
def WU(h:Hp)(g:Nat):Prop:=∀ms,Cell h ms (⟨g,0,none⟩:Addr) fkC
def Zt(h:Hp)(g:Nat):Prop:=∀ms,Cell h ms (⟨g,0,none⟩:Addr) fkD
theorem Adg(x:CeO)(h:Hp)(ms:List Hp):FnV Tryz.prog 169 #[.agg (TP x).toArray] h ms (.int .i64 x.c.id):=by refine DY ?_ ms;have o1:=x.one;show FnT _ _ #[.agg #[.int .i64 x.c.id,.int .i64 x.c.dim,x.v]] _ _ _;refine Ap func169 ntmps169 Y Y<|λw0 hw0=>?_;simp only[AR];refine Ar<|AK [_,_,_] Y Y (by rfl) Y Y Y<|λg1=>Qm Y<|Bp<|Qf BZ Y<|Ql Y U3 (Cell.blk 0 Y Y)<|Qm Y<|Am<|Aj ?_;exact Al Y Y<|Y
theorem Adb(x:ZY)(h:Hp)(ms:List Hp):FnV Tryz.prog 171 #[.agg (cD x).toArray] h ms (.int .i64 x.1):=by refine DY ?_ ms;show FnT _ _ #[.agg #[.int .i64 x.1,.int .i64 x.2]] _ _ _;refine Ap func171 ntmps171 Y Y<|λw0 hw0=>?_;simp only[AR];refine Ar<|AK [_,_] Y Y (by rfl) Y Y Y<|λg1=>Qm Y<|Bp<|Qf Dl Y<|Ql Y U3 (Cell.blk 0 Y Y)<|Qm Y<|Am<|Aj ?_;exact Al Y Y<|Y
theorem OO(x y:CeO)(h:Hp)(g:Nat)(hg:WU h g)(ms:List Hp):FnV Tryz.prog 214 #[.agg (TP x).toArray,.agg (TP y).toArray,.pointer (some ⟨g,0,none⟩)] h ms (.int .i64 (c3 x.c.id y.c.id)):=by refine DY ?_ ms;have o1:=x.one;have o2:=y.one;show FnT _ _ #[.agg #[.int .i64 x.c.id,.int .i64 x.c.dim,x.v],.agg #[.int .i64 y.c.id,.int .i64 y.c.dim,y.v],.pointer (some ⟨g,0,none⟩)] _ _ _;refine Ap func214 ntmps214 Y Y<|λw0 hw0=>?_;simp only[AR];refine Ar<|AK [_,_,_] Y Y (by rfl) Y Y Y<|λg3=>AK [_,_,_] Y Y (by rfl) Y Y Y<|λg4=>Qm Y<|Am<|AF λh1 l1 hG4=>AF λh2 l2 hG3=>?_;have hG4:=hG4.le l2;have hgk:∀ms,Cell h2 ms (⟨g,0,none⟩:Addr) fkC:=λms=>(hg ms).le (AD l1 l2);refine Ac<|BB 5 CC κ Y<|Wl Y AeL (hgk _)<|BD (oG Y Jz A3<|Seg.any hG3) Y Y<|BD (Cy Y Y call169 Y ((Adg x _ _))) Y Y<|Wl Y AeL (hgk _)<|BD (oG Y Jz A3<|Seg.any hG4) Y Y<|Bu<|Qx (Cy Y Y call169 Y ((Adg y _ _))) Y<|Qx (As Y call215 Y<|NB _ _ _ _) Y<|Qm Y<|Am<|Aj ?_;exact Al Y Y<|Y
theorem Ad9(x y:ZY)(h:Hp)(g:Nat)(hg:Zt h g)(ms:List Hp):FnV Tryz.prog 218 #[.agg (cD x).toArray,.agg (cD y).toArray,.pointer (some ⟨g,0,none⟩)] h ms (.int .i64 (c3 x.1 y.1)):=by refine DY ?_ ms;show FnT _ _ #[.agg #[.int .i64 x.1,.int .i64 x.2],.agg #[.int .i64 y.1,.int .i64 y.2],.pointer (some ⟨g,0,none⟩)] _ _ _;refine Ap func218 ntmps218 Y Y<|λw0 hw0=>?_;simp only[AR];refine Ar<|AK [_,_] Y Y (by rfl) Y Y Y<|λg3=>AK [_,_] Y Y (by rfl) Y Y Y<|λg4=>Qm Y<|Am<|AF λh1 l1 hG4=>AF λh2 l2 hG3=>?_;have hG4:=hG4.le l2;have hgk:∀ms,Cell h2 ms (⟨g,0,none⟩:Addr) fkD:=λms=>(hg ms).le (AD l1 l2);refine Ac<|BB 5 CC κ Y<|Wl Y AeV (hgk _)<|BD (oG Y XM BX<|Seg.any hG3) Y Y<|BD (Cy Y Y call171 Y ((Adb x _ _))) Y Y<|Wl Y AeV (hgk _)<|BD (oG Y XM BX<|Seg.any hG4) Y Y<|Bu<|Qx (Cy Y Y call171 Y ((Adb y _ _))) Y<|Qx (As Y call215 Y<|NB _ _ _ _) Y<|Qm Y<|Am<|Aj ?_;exact Al Y Y<|Y
end
abbrev OLC(m:Hp)(v:Value)(l:List CeO):Prop:=OwnL TP 3 50 m v l
abbrev IncC(l:List CeO):Prop:=l.Pairwise λa b=>a.c.id<=b.c.id
theorem IncC.at{l:List CeO}(S:IncC l){i j:Nat}(hi:i<l.length)(hj:j<l.length)(h:i<=j):¬c3 l[j].c.id l[i].c.id<0:=by
 rw[AcX];rcases f6 i j with h'|h'
 ·have:=ct.1 S i j hi hj h';omega
 ·have e:i=j:=ω
  subst e;omega
theorem VJ(l:List CeO)(v:Value)(m:Hp)(hO:OLC m v l)(S:IncC l)(a b:Nat)(hab:a<=b)(hb:b<=l.length)(hsz:l.length<=1000000)(h:Hp)(g:Nat)(hg:WU h g){a' b':Int}(ea:a'=a)(eb:b'=b) :
  FnT Tryz.prog 262 #[v,.w a',.w b',(Uh g)] h [m] (λ_ h' ms'=>h=h'/\ms'=[m]):=by
 subst ea eb;refine Ap func262 ntmps262 Y Y<|λw0 hw0=>?_;simp only[AR];refine Ar<|Qm Y<|Qx (oA Y) Y<|Qm Y<|Am<|Ag ?_
 refine AB (λn s h' ms'=>∃(i:Nat) (z:Int),n=b-i/\s=[(0,v),(1,.w a),(2,.w b),(3,(Uh g)),(8,.w z)]/\h=h'/\ms'=[m]/\z=i/\a<i/\i<=4611686018427387905)
  _ _ ⟨a+1,(a:Int)+1,rfl,rfl,rfl,rfl,ω,ω,ω⟩ Qs ?_
 rintro n s h' ms' ⟨i,z,rfl,rfl,rfl,rfl,hz,hai,hi⟩;refine Ac<|Ar<|Qm Y<|Qm Y<|Qm Y<|Am ?_;refine Aw Y (λhlt=>?_)<|λhlt=>?_
 ·refine Ah<|Ab<|Ac<|Ag<|Ar<|Qm Y<|Qm Y<|Am<|Ag ?_
  refine AB (fun n s h' ms'=>n=0/\s=[(0,v),(1,.int .i64 a),(2,.int .i64 b),(3,(Uh g)),(8,.int .i64 z),(9,.int .i64 z)]/\h=h'/\ms'=[m])
   0 _ ⟨rfl,rfl,rfl,rfl⟩ Qs ?_
  rintro n s h' ms' ⟨rfl,rfl,rfl,rfl⟩;have hil:i<l.length:=ω
  have hn:=S.at (i:=i-1) ω hil ω;refine Ac<|Ac<|BB 14 CC κ Y<|Wm Y<|Wm Y<|Wm Y<|Wm Y ?_;refine C3 (t:=21) Y (λhja=>?_)<|λhja=>?_
  ·refine AP (Au Y Y) Y Y Y Y<|AP (Au Y Y) Y Y Y Y<|AP (Au Y Y) Y Y Y Y<|AP (AM (i) (hO.rd<|.head _).rd Y B0 A3 Y Y ω ω) Y Y Y Y<|AP (oG Y Jz A3 ((hO.rd<|.head _).seg ω)) Y Y Y Y<|AP (Au Y Y) Y Y Y Y<|AP (Au Y Y) Y Y Y Y<|AP (oS Y) Y Y Y Y<|AP (AM (i-1) (hO.rd<|.head _).rd Y B0 A3 Y Y ω ω) Y Y Y Y<|AP (oG Y Jz A3 ((hO.rd<|.head _).seg ω)) Y Y Y Y<|Bu<|Qg (Cy Y Y call214 Y<|OO _ _ _ g hg _) Y<|Qg (Dy Y Y Y) Y<|Qm Y<|Am ?_;refine BW Y (λhl=>?_)<|λhl=>?_
   ·exact ie (dq hl) hn
   ·refine Ax<|Aa<|Aa<|Af<|Ai<|Ab<|Ad<|Qm Y<|Qx (oA Y) Y<|Qm Y<|An ?_;exact Ao (b-(i+1)) _ ω ⟨i+1,z+1,Y,Y,Y,Y,ω,ω,ω⟩ Qs
  ·exfalso;omega
 ·refine Ax<|Aa<|Aa<|Af ?_;exact Cv Y (⟨Y,Y⟩)
theorem UQ:∀(N:Nat) (l:List CeO) (v:Value) (m:Hp) (hO:OLC m v l) (S:IncC l) (a t b:Nat) (hN:b-a<=N) (hat:a<t) (htb:t<b) (hb:b<=l.length) (hsz:l.length<=1000000) (h:Hp) (g:Nat) (hg:WU h g) {a' t' b':Int} (ea:a'=a) (et:t'=t) (eb:b'=b),
  FnT Tryz.prog 263 #[v,.w a',.w t',.w b',(Uh g)] h [m] (λ_ h' ms'=>h=h'/\ms'=[m]):=by
 intro N
 induction N with
 | zero=>intro l v m hO S a t b hN hat htb;omega
 | succ N ih=>
 intro l v m hO S a t b hN hat htb hb hsz h g hg a' t' b' ea et eb;subst ea et eb;refine Ap func263 ntmps263 Y Y<|λw0 hw0=>?_;simp only[AR];refine Ac<|Ar<|Qm Y<|Qm Y<|Qx (oS Y) Y<|Qm Y<|Am ?_;refine Aw Y (λh1=>?_)<|λh1=>?_
 ·-- one element on the left
  obtain rfl:t=a+1:=ω
  refine Ar<|Qm Y<|Qm Y<|Bp<|Qm Y<|Qm Y<|Am<|Ac<|Ag ?_
  refine AB (λn s h' ms'=>∃(j:Nat),n=j-(a+1)/\s=[(0,v),(1,.w a),(4,(Uh g)),(10,.w ((a+1:Nat):Int)),(11,.w j)]/\h=h'/\ms'=[m]/\a+1<=j/\j<=b)
   (b-(a+1)) _ ⟨b,rfl,rfl,rfl,rfl,ω,ω⟩ Qs ?_
  rintro n s h' ms' ⟨j,rfl,rfl,rfl,rfl,hij,hj⟩;refine Ac<|Ar<|Qm Y<|Qm Y<|Qm Y<|Am ?_;refine Aw Y (λhlt=>?_)<|λhlt=>?_
  ·have hn:=S.at (i:=a) (j:=(a+1+j)/2) ω ω ω;refine Ah<|Ab<|Ag<|Ar<|Qm Y<|Qm Y<|Qx (oA Y) Y<|Qx (Ec Y U3 QN Y) Y<|Qx (GG (n:=1) Y Y Y ω) Y<|Qx (Ec Y QN U3 Y) Y<|Qm Y<|Am ?_;rw[PI (a+1) j ω];refine Ac<|BB 9 CC κ Y<|Wm Y<|Wm Y<|Wm Y<|BD (AM ((a+1+j)/2) (hO.rd<|.head _).rd Y B0 A3 Y Y ω ω) Y Y<|BD (oG Y Jz A3 ((hO.rd<|.head _).seg ω)) Y Y<|Wm Y<|Wm Y<|BD (AM (a) (hO.rd<|.head _).rd Y B0 A3 Y Y ω ω) Y Y<|BD (oG Y Jz A3 ((hO.rd<|.head _).seg ω)) Y Y<|Bu<|Qx (Cy Y Y call214 Y<|OO _ _ _ g hg _) Y<|Qm Y<|Am ?_;refine BW Y (λhl=>?_)<|λhl=>?_
   ·exact ie (dq hl) hn
   ·refine Ad<|Qm Y<|Qm Y<|An<|Ai ?_;exact Ao ((a+1+j)/2-(a+1)) _ ω ⟨(a+1+j)/2,Y,Y,Y,Y,ω,ω⟩ Qs
  ·refine Ax<|Aa<|Aa<|Af<|Ab<|Ac<|Ar<|Qm Y<|Qm Y<|Am<|Ag ?_
   refine AB (fun n s h' ms'=>n=0/\s=[(0,v),(10,.int .i64 ((a+1:Nat):Int)),(13,.int .i64 a)]/\h=h'/\ms'=[m])
    0 _ ⟨rfl,rfl,rfl,rfl⟩ Qs ?_
   rintro n s h' ms' ⟨rfl,rfl,rfl,rfl⟩;refine Ac<|Ar<|Qm Y<|Qm Y<|Qx (oS Y) Y<|Qm Y<|Am ?_;refine Aw Y (λhltk=>?_)<|λhltk=>?_
   ·exfalso;omega
   ·refine Ax<|Aa<|Aa<|Af<|Ab<|Aj<|Ae ?_;exact JJ Y (⟨Y,Y⟩)
 ·refine Ah<|Ab<|Ac<|Ar<|Qm Y<|Qm Y<|Qx (oS Y) Y<|Qm Y<|Am ?_;refine Aw Y (λh2=>?_)<|λh2=>?_
  ·-- one element on the right
   obtain rfl:b=t+1:=ω
   refine Ar<|Qm Y<|Qm Y<|Bp<|Qm Y<|Qm Y<|Am<|Ac<|Ag ?_
   refine AB (λn s h' ms'=>∃(i:Nat),n=t-i/\s=[(0,v),(1,.w a),(2,.w t),(4,(Uh g)),(14,.w i),(15,.w t)]/\h=h'/\ms'=[m]/\i<=t)
    (t-a) _ ⟨a,rfl,rfl,rfl,rfl,ω⟩ Qs ?_
   rintro n s h' ms' ⟨i,rfl,rfl,rfl,rfl,hj⟩;refine Ac<|Ar<|Qm Y<|Qm Y<|Qm Y<|Am ?_;refine Aw Y (λhlt=>?_)<|λhlt=>?_
   ·have hn:=S.at (i:=(i+t)/2) (j:=t) ω ω ω;refine Ah<|Ab<|Ag<|Ar<|Qm Y<|Qm Y<|Qx (oA Y) Y<|Qx (Ec Y U3 QN Y) Y<|Qx (GG (n:=1) Y Y Y ω) Y<|Qx (Ec Y QN U3 Y) Y<|Qm Y<|Am ?_;rw[PI i t ω];refine Ac<|BB 9 CC κ Y<|Wm Y<|Wm Y<|Wm Y<|BD (AM (t) (hO.rd<|.head _).rd Y B0 A3 Y Y ω ω) Y Y<|BD (oG Y Jz A3 ((hO.rd<|.head _).seg ω)) Y Y<|Wm Y<|Wm Y<|BD (AM ((i+t)/2) (hO.rd<|.head _).rd Y B0 A3 Y Y ω ω) Y Y<|BD (oG Y Jz A3 ((hO.rd<|.head _).seg ω)) Y Y<|Bu<|Qx (Cy Y Y call214 Y<|OO _ _ _ g hg _) Y<|Qm Y<|Qm Y<|Am ?_;refine BW Y (λhl=>?_)<|λhl=>?_
    ·refine Ad<|Qm Y<|Qx (oA Y) Y<|Qm Y<|An<|Ai ?_;exact Ao (t-((i+t)/2+1)) _ ω ⟨(i+t)/2+1,Y,Y,Y,Y,ω⟩ Qs
    ·exact ie (by simpa using hl) hn
   ·obtain rfl:i=t:=ω
    refine Ax<|Aa<|Aa<|Af<|Ab<|Ac<|Ar<|Qm Y<|Qm Y<|Am<|Ag ?_
    refine AB (fun n s h' ms'=>n=0/\s=[(0,v),(14,.int .i64 i),(17,.int .i64 i)]/\h=h'/\ms'=[m])
     0 _ ⟨rfl,rfl,rfl,rfl⟩ Qs ?_
    rintro n s h' ms' ⟨rfl,rfl,rfl,rfl⟩;refine Ac<|Ar<|Qm Y<|Qm Y<|Qm Y<|Am ?_;refine Aw Y (λhltk=>?_)<|λhltk=>?_
    ·exfalso;omega
    ·refine Ax<|Aa<|Aa<|Af<|Ab<|Aj<|Ae ?_;exact JJ Y (⟨Y,Y⟩)
  ·refine Ah<|Ab<|Ar<|Qm Y<|Qm Y<|Qx (oA Y) Y<|Qx (Ec Y U3 QN Y) Y<|Qx (GG (n:=1) Y Y Y ω) Y<|Qx (Ec Y QN U3 Y) Y<|Qm Y<|Am ?_;rw[PI a b ω];obtain⟨mid,hmid⟩:∃mid,mid=(a+b)/2:=⟨_,Y⟩
   rw[<-hmid];refine Ar<|Qm Y<|Qm Y<|Qx (oA Y) Y<|Qm Y<|Bp<|Qm Y<|Qm Y<|Am ?_;refine Bv (λs h' ms'=>∃(s0 r0:Nat),s=[(0,v),(1,.w a),(2,.w t),(3,.w b),(4,(Uh g)),(18,.w mid),(19,.w ((mid:Int)+t)),(20,.w s0),(21,.w r0)]/\h=h'/\ms'=[m]/\((mid<t/\s0+b=mid+t/\r0=mid)\/(t<=mid/\s0=a/\r0=t))) ?_<|λs h ms hI=>?_
   ·refine Ac<|Ad<|Qm Y<|Qm Y<|Qm Y<|Am ?_;refine Aw Y (λhgt=>?_)<|λhgt=>?_
    ·refine Ac<|Ad<|Qm Y<|Qm Y<|Qx (oS Y) Y<|Qm Y<|GX<|Qm Y<|Qm Y<|An ?_;have e:(mid:Int)+t-b=((mid+t-b:Nat):Int):=ω
     rw[e];exact AI _ ⟨mid+t-b,mid,Y,Y,Y,.inl ⟨ω,ω,Y⟩⟩ Qs
    ·refine Ac<|Ad<|Qm Y<|Qm Y<|GX<|Qm Y<|Qm Y<|An ?_;exact AI _ ⟨a,t,Y,Y,Y,.inr ⟨ω,Y,Y⟩⟩ Qs
   ·obtain⟨s0,r0,rfl,rfl,rfl,hc⟩:=hI;have hc1:s0<=r0/\r0<=mid/\r0<=t/\(r0=mid\/r0=t)/\mid+t<=s0+b:=ω
    clear hc;refine Ar<|Qm Y<|Qx (oS Y) Y<|Qm Y<|Am<|Ac<|Ag ?_
    refine AB (λn s h' ms'=>∃(i:Nat),n=r0-i/\s=[(0,v),(1,.w a),(2,.w t),(3,.w b),(4,(Uh g)),(18,.w mid),(19,.w ((mid:Int)+t)),(20,.w i),(21,.w r0),(22,.w ((mid:Int)+t-1))]/\h=h'/\ms'=[m]/\s0<=i/\i<=r0)
     (r0-s0) _ ⟨s0,rfl,rfl,rfl,rfl,ω,ω⟩ Qs ?_
    rintro n s h' ms' ⟨i,rfl,rfl,rfl,rfl,hi,hj⟩;refine Ac<|Ar<|Qm Y<|Qm Y<|Qm Y<|Am ?_;refine Aw Y (λhlt=>?_)<|λhlt=>?_
    ·have hn:=S.at (i:=(i+r0)/2) (j:=mid+t-1-(i+r0)/2) ω ω ω;refine Ah<|Ab<|Ag<|Ar<|Qm Y<|Qm Y<|Qx (oA Y) Y<|Qx (Ec Y U3 QN Y) Y<|Qx (GG (n:=1) Y Y Y ω) Y<|Qx (Ec Y QN U3 Y) Y<|Qm Y<|Am ?_;rw[PI i r0 ω];refine Ac<|BB 11 CC κ Y<|Wm Y<|Wm Y<|Wm Y<|Wm Y<|BD (oS Y) Y Y<|BD (AM (mid+t-1-(i+r0)/2) (hO.rd<|.head _).rd Y B0 A3 Y Y ω ω) Y Y<|BD (oG Y Jz A3 ((hO.rd<|.head _).seg ω)) Y Y<|Wm Y<|Wm Y<|BD (AM ((i+r0)/2) (hO.rd<|.head _).rd Y B0 A3 Y Y ω ω) Y Y<|BD (oG Y Jz A3 ((hO.rd<|.head _).seg ω)) Y Y<|Bu<|Qx (Cy Y Y call214 Y<|OO _ _ _ g hg _) Y<|Qm Y<|Qm Y<|Am ?_;refine BW Y (λhl=>?_)<|λhl=>?_
     ·refine Ad<|Qm Y<|Qx (oA Y) Y<|Qm Y<|An<|Ai ?_;exact Ao (r0-((i+r0)/2+1)) _ ω ⟨(i+r0)/2+1,Y,Y,Y,Y,ω,ω⟩ Qs
     ·exact ie (by simpa using hl) hn
    ·obtain rfl:i=r0:=ω
     obtain⟨e,he⟩:∃e,e=mid+t-i:=⟨_,Y⟩
     have he2:(mid:Int)+t-i=(e:Int):=ω
     refine Ax<|Aa<|Aa<|Af<|Ab<|Ar<|Qm Y<|Qm Y<|Qx (oS Y) Y<|Qm Y<|Am ?_;rw[he2];refine Bv (λs h' ms'=>s=[(0,v),(1,.w a),(3,.w b),(4,(Uh g)),(18,.w mid),(20,.w i),(24,.w e)]/\h=h'/\ms'=[m]) ?_<|λs h ms hI=>?_
     ·refine Ac<|Ad<|Qm Y<|Qm Y<|Qm Y<|Qm Y ?_;refine AU (t:=181) Y (λq1=>?_)<|λq1=>?_
      ·refine Qg (Au Y Y) Y<|Qg (Au Y Y) Y<|Qg (Dy Y Y Y) Y<|Qm Y<|Am ?_;refine Aw Y (λq2=>?_)<|λq2=>?_
       ·exfalso;omega
       ·refine Ah ?_;exact AI _ ⟨Y,Y,Y⟩ Qs
      ·refine Qk Y<|Qk Y<|Qk Y<|Qm Y<|Am<|AL Y<|Ah ?_;exact AI _ ⟨Y,Y,Y⟩ Qs
     ·obtain⟨rfl,rfl,rfl⟩:=hI;refine Bv (λs h' ms'=>s=[(0,v),(3,.w b),(4,(Uh g)),(18,.w mid),(24,.w e)]/\h=h'/\ms'=[m]) ?_<|λs h ms hI=>?_
      ·refine Ac<|Ad<|Qm Y<|Qm Y<|Qm Y<|Qm Y ?_;refine AU (t:=195) Y (λq1=>?_)<|λq1=>?_
       ·refine Qg (Au Y Y) Y<|Qg (Au Y Y) Y<|Qg (Dy Y Y Y) Y<|Qm Y<|Am ?_;refine Aw Y (λq2=>?_)<|λq2=>?_
        ·refine Ad<|Qm Y<|Qm Y<|Qm Y<|Qm Y<|Qm Y<|AC (pre:=[m]) Y call263 Y (ih l v m hO S a i mid ω ω ω ω ω h g hg Y Y Y) Y Y Y Y<|λr h1 ms1 l1 hF=>?_;obtain⟨rfl,rfl⟩:=hF;refine An ?_;exact AI _ ⟨Y,Y,Y⟩ Qs
        ·refine Ah ?_;exact AI _ ⟨Y,Y,Y⟩ Qs
       ·refine Qk Y<|Qk Y<|Qk Y<|Qm Y<|Am<|AL Y<|Ah ?_;exact AI _ ⟨Y,Y,Y⟩ Qs
      ·obtain⟨rfl,rfl,rfl⟩:=hI;refine Ar<|Qm Y<|Qm Y<|Qm Y<|Qm Y ?_;refine AU (t:=209) Y (λq1=>?_)<|λq1=>?_
       ·refine Qg (Au Y Y) Y<|Qg (Au Y Y) Y<|Qg (Dy Y Y Y) Y<|Qm Y<|Am ?_;refine Aw Y (λq2=>?_)<|λq2=>?_
        ·refine Ad<|Qm Y<|Qm Y<|Qm Y<|Qm Y<|Qm Y<|AC (pre:=[m]) Y call263 Y (ih l v m hO S mid e b ω ω ω ω ω h g hg Y Y Y) Y Y Y Y<|λr h1 ms1 l1 hF=>?_;obtain⟨rfl,rfl⟩:=hF;refine An ?_;exact Cv Y (⟨Y,Y⟩)
        ·refine Ah ?_;exact Cv Y (⟨Y,Y⟩)
       ·refine Qk Y<|Qk Y<|Qk Y<|Qm Y<|Am<|AL Y<|Ah ?_;exact Cv Y (⟨Y,Y⟩)
theorem TT(l:List CeO)(v:Value)(m:Hp)(hO:OLC m v l)(S:IncC l)(hsz:l.length<=1000000)(h:Hp)(g:Nat)(hg:WU h g){n':Int}(en:n'=l.length) :
  FnT Tryz.prog 243 #[v,.w n',(Uh g)] h [m] (λ_ h' ms'=>h=h'/\ms'=[m]):=by
 subst en;obtain⟨n,hn⟩:∃n,n=l.length:=⟨_,Y⟩
 rw[<-hn];refine Ap func243 ntmps243 Y Y<|λw0 hw0=>?_;simp only[AR];refine Ar<|Qm Y<|Bp<|Qm Y<|Qm Y<|Qm Y<|Am<|Ac<|Ag ?_
 refine AB (λq s h' ms'=>∃(a:Nat),q=n-a/\s=[(0,v),(1,.w n),(2,(Uh g)),(6,.w 20),(7,.w a),(8,.w ((a:Int)+20))]/\h=h'/\ms'=[m]/\a<=n)
  (n-0) _ ⟨0,rfl,rfl,rfl,rfl,ω⟩ Qs ?_
 rintro q s h' ms' ⟨a,rfl,rfl,rfl,rfl,han⟩;refine Ac<|Ar<|Qm Y<|Qm Y<|Qm Y<|Am ?_;refine Aw Y (λhle=>?_)<|λhle=>?_
 ·refine Ah<|Ab<|Ag<|Ar<|Qm Y<|Qm Y<|Qm Y<|Qm Y<|AC (pre:=[m]) Y call262 Y (VJ l v m hO S a (a+20) ω ω ω h g hg Y ω) Y Y Y Y<|λr h1 ms1 l1 hF=>?_;obtain⟨rfl,rfl⟩:=hF;refine Bp<|Qm Y<|Qm Y<|GX<|Qm Y<|Qm Y<|Qx (oA Y) Y<|Qm Y<|An<|Ai ?_;exact Ao (n-(a+20)) _ ω ⟨a+20,Y,Y,Y,Y,ω⟩ Qs
 ·refine Ax<|Aa<|Aa<|Af<|Ab<|Ar<|Qm Y<|Qm Y<|Qm Y<|Qm Y<|AC (pre:=[m]) Y call262 Y (VJ l v m hO S a n ω ω ω h g hg Y Y) Y Y Y Y<|λr h1 ms1 l1 hF=>?_;obtain⟨rfl,rfl⟩:=hF;refine Am<|Ag ?_
  refine AB (λq s h' ms'=>∃(w:Nat),q=n-w/\s=[(0,v),(1,.w n),(2,(Uh g)),(6,.w w)]/\h=h'/\ms'=[m]/\1<=w/\w<=4000000)
   (n-20) _ ⟨20,rfl,rfl,rfl,rfl,ω,ω⟩ Qs ?_
  rintro q s h' ms' ⟨w,rfl,rfl,rfl,rfl,hw1,hw2⟩;refine Ac<|Ar<|Qm Y<|Qm Y<|Qm Y<|Am ?_;refine Aw Y (λhlt=>?_)<|λhlt=>?_
  ·refine Ah<|Ab<|Ag<|Ar<|Qm Y<|Qx (oM Y) Y<|Qm Y<|Qm Y<|Am<|Ac<|Ag ?_
   refine AB (λq s h' ms'=>∃(a:Nat) (z:Int),q=n-a/\s=[(0,v),(1,.w n),(2,(Uh g)),(6,.w w),(7,.w a),(8,.w z)]/\h=h'/\ms'=[m]/\z=a+2*w/\a<=n)
    (n-0) _ ⟨0,2*(w:Int),rfl,rfl,rfl,rfl,ω,ω⟩ Qs ?_
   rintro q s h' ms' ⟨a,z,rfl,rfl,rfl,rfl,rfl,han⟩;refine Ac<|Ar<|Qm Y<|Qm Y<|Qm Y<|Am ?_;refine Aw Y (λhle2=>?_)<|λhle2=>?_
   ·refine Ah<|Ab<|Ag<|Ar<|Qm Y<|Qm Y<|Qm Y<|Qm Y<|Qx (oA Y) Y<|Qm Y<|Qm Y<|AC (pre:=[m]) Y call263 Y (UQ (2*w) l v m hO S a (a+w) (a+2*w) ω ω ω ω ω h g hg Y ω ω) Y Y Y Y<|λr h1 ms1 l1 hF=>?_;obtain⟨rfl,rfl⟩:=hF;refine Bp<|Qm Y<|Qm Y<|GX<|Qm Y<|Qm Y<|Qx (oM Y) Y<|Qx (oA Y) Y<|Qm Y<|An<|Ai ?_;exact Ao (n-(a+2*w)) _ ω ⟨a+2*w,(a:Int)+2*w+2*w,Y,Y,Y,Y,ω,ω⟩ Qs
   ·refine Ax<|Aa<|Aa<|Af<|Ab<|Ac<|Ar<|Qm Y<|Qm Y<|Qx (oA Y) Y<|Qm Y<|Bp<|Qm Y<|Qm Y<|Qm Y<|Am ?_;refine Aw Y (λhm=>?_)<|λhm=>?_
    ·refine Ad<|Qm Y<|Qm Y<|Qm Y<|Qm Y<|Qm Y<|AC (pre:=[m]) Y call263 Y (UQ (2*w) l v m hO S a (a+w) n ω ω ω ω ω h g hg Y ω Y) Y Y Y Y<|λr h1 ms1 l1 hF=>?_;obtain⟨rfl,rfl⟩:=hF;refine GX<|Qm Y<|Qx (oM Y) Y<|Qm Y<|An<|Ai ?_;exact Ao (n-w*2) _ ω ⟨w*2,Y,Y,Y,Y,ω,ω⟩ Qs
    ·refine Ah<|Ab<|Ad<|Qm Y<|Qx (oM Y) Y<|Qm Y<|An<|Ai ?_;exact Ao (n-w*2) _ ω ⟨w*2,Y,Y,Y,Y,ω,ω⟩ Qs
  ·refine Ax<|Aa<|Aa<|Af ?_;exact Cv Y (⟨Y,Y⟩)
theorem LN(l:List CeO)(v:Value)(m:Hp)(hO:OLC m v l)(S:IncC l)(hsz:l.length<=1000000)(h:Hp)(g:Nat)(hg:WU h g) :
  FnT Tryz.prog 213 #[v,(Uh g)] h [m] (λ_ h' ms'=>h=h'/\ms'=[m]):=by
 refine Ap func213 ntmps213 Y Y<|λw0 hw0=>?_;simp only[AR];refine Ad<|Qm Y<|Qm Y<|Qx (Aq (hO.rd<|.head _).rd Y B0 Y) Y<|Qm Y<|AC (pre:=[m]) Y call243 Y (TT l v m hO S hsz h g hg Y) Y Y Y Y<|λr h1 ms1 l1 hF=>?_;obtain⟨rfl,rfl⟩:=hF;refine An ?_;exact Cv Y (⟨Y,Y⟩)
abbrev OLD(m:Hp)(v:Value)(l:List ZY):Prop:=OwnL cD 2 52 m v l
abbrev IncD(l:List ZY):Prop:=l.Pairwise λa b=>a.1<=b.1
theorem IncD.at{l:List ZY}(S:IncD l){i j:Nat}(hi:i<l.length)(hj:j<l.length)(h:i<=j):¬c3 l[j].1 l[i].1<0:=by
 rw[AcX];rcases f6 i j with h'|h'
 ·have:=ct.1 S i j hi hj h';omega
 ·have e:i=j:=ω
  subst e;omega
theorem Vc(l:List ZY)(v:Value)(m:Hp)(hO:OLD m v l)(S:IncD l)(a b:Nat)(hab:a<=b)(hb:b<=l.length)(hsz:l.length<=20)(h:Hp)(g:Nat)(hg:Zt h g){a' b':Int}(ea:a'=a)(eb:b'=b) :
  FnT Tryz.prog 264 #[v,.w a',.w b',(cvD g)] h [m] (λ_ h' ms'=>h=h'/\ms'=[m]):=by
 subst ea eb;refine Ap func264 ntmps264 Y Y<|λw0 hw0=>?_;simp only[AR];refine Ar<|Qm Y<|Qx (oA Y) Y<|Qm Y<|Am<|Ag ?_
 refine AB (λn s h' ms'=>∃(i:Nat) (z:Int),n=b-i/\s=[(0,v),(1,.w a),(2,.w b),(3,(cvD g)),(8,.w z)]/\h=h'/\ms'=[m]/\z=i/\a<i/\i<=4611686018427387905)
  _ _ ⟨a+1,(a:Int)+1,rfl,rfl,rfl,rfl,ω,ω,ω⟩ Qs ?_
 rintro n s h' ms' ⟨i,z,rfl,rfl,rfl,rfl,hz,hai,hi⟩;refine Ac<|Ar<|Qm Y<|Qm Y<|Qm Y<|Am ?_;refine Aw Y (λhlt=>?_)<|λhlt=>?_
 ·refine Ah<|Ab<|Ac<|Ag<|Ar<|Qm Y<|Qm Y<|Am<|Ag ?_
  refine AB (fun n s h' ms'=>n=0/\s=[(0,v),(1,.int .i64 a),(2,.int .i64 b),(3,(cvD g)),(8,.int .i64 z),(9,.int .i64 z)]/\h=h'/\ms'=[m])
   0 _ ⟨rfl,rfl,rfl,rfl⟩ Qs ?_
  rintro n s h' ms' ⟨rfl,rfl,rfl,rfl⟩;have hil:i<l.length:=ω
  have hn:=S.at (i:=i-1) ω hil ω;refine Ac<|Ac<|BB 14 CC κ Y<|Wm Y<|Wm Y<|Wm Y<|Wm Y ?_;refine C3 (t:=21) Y (λhja=>?_)<|λhja=>?_
  ·refine AP (Au Y Y) Y Y Y Y<|AP (Au Y Y) Y Y Y Y<|AP (Au Y Y) Y Y Y Y<|AP (AM (i) (hO.rd<|.head _).rd Y Da BX Y Y ω ω) Y Y Y Y<|AP (oG Y XM BX ((hO.rd<|.head _).seg ω)) Y Y Y Y<|AP (Au Y Y) Y Y Y Y<|AP (Au Y Y) Y Y Y Y<|AP (oS Y) Y Y Y Y<|AP (AM (i-1) (hO.rd<|.head _).rd Y Da BX Y Y ω ω) Y Y Y Y<|AP (oG Y XM BX ((hO.rd<|.head _).seg ω)) Y Y Y Y<|Bu<|Qg (Cy Y Y call218 Y<|Ad9 _ _ _ g hg _) Y<|Qg (Dy Y Y Y) Y<|Qm Y<|Am ?_;refine BW Y (λhl=>?_)<|λhl=>?_
   ·exact ie (dq hl) hn
   ·refine Ax<|Aa<|Aa<|Af<|Ai<|Ab<|Ad<|Qm Y<|Qx (oA Y) Y<|Qm Y<|An ?_;exact Ao (b-(i+1)) _ ω ⟨i+1,z+1,Y,Y,Y,Y,ω,ω,ω⟩ Qs
  ·exfalso;omega
 ·refine Ax<|Aa<|Aa<|Af ?_;exact Cv Y (⟨Y,Y⟩)
theorem Tp(l:List ZY)(v:Value)(m:Hp)(hO:OLD m v l)(S:IncD l)(hsz:l.length<=20)(h:Hp)(g:Nat)(hg:Zt h g){n':Int}(en:n'=l.length) :
  FnT Tryz.prog 244 #[v,.w n',(cvD g)] h [m] (λ_ h' ms'=>h=h'/\ms'=[m]):=by
 subst en;obtain⟨n,hn⟩:∃n,n=l.length:=⟨_,Y⟩
 rw[<-hn];refine Ap func244 ntmps244 Y Y<|λw0 hw0=>?_;simp only[AR];refine Ar<|Qm Y<|Bp<|Qm Y<|Qm Y<|Qm Y<|Am<|Ac<|Ag ?_
 refine AB (λq s h' ms'=>∃(a:Nat),q=n-a/\s=[(0,v),(1,.w n),(2,(cvD g)),(6,.w 20),(7,.w a),(8,.w ((a:Int)+20))]/\h=h'/\ms'=[m]/\a<=n)
  (n-0) _ ⟨0,rfl,rfl,rfl,rfl,ω⟩ Qs ?_
 rintro q s h' ms' ⟨a,rfl,rfl,rfl,rfl,han⟩;refine Ac<|Ar<|Qm Y<|Qm Y<|Qm Y<|Am ?_;refine Aw Y (λhle=>?_)<|λhle=>?_
 ·refine Ah<|Ab<|Ag<|Ar<|Qm Y<|Qm Y<|Qm Y<|Qm Y<|AC (pre:=[m]) Y call264 Y (Vc l v m hO S a (a+20) ω ω ω h g hg Y ω) Y Y Y Y<|λr h1 ms1 l1 hF=>?_;obtain⟨rfl,rfl⟩:=hF;refine Bp<|Qm Y<|Qm Y<|GX<|Qm Y<|Qm Y<|Qx (oA Y) Y<|Qm Y<|An<|Ai ?_;exact Ao (n-(a+20)) _ ω ⟨a+20,Y,Y,Y,Y,ω⟩ Qs
 ·refine Ax<|Aa<|Aa<|Af<|Ab<|Ar<|Qm Y<|Qm Y<|Qm Y<|Qm Y<|AC (pre:=[m]) Y call264 Y (Vc l v m hO S a n ω ω ω h g hg Y Y) Y Y Y Y<|λr h1 ms1 l1 hF=>?_;obtain⟨rfl,rfl⟩:=hF;refine Am<|Ag ?_
  refine AB (fun q s h' ms'=>q=0/\s=[(0,v),(1,.int .i64 n),(2,(cvD g)),(6,.int .i64 20)]/\h=h'/\ms'=[m])
   0 _ ⟨rfl,rfl,rfl,rfl⟩ Qs ?_
  rintro q s h' ms' ⟨rfl,rfl,rfl,rfl⟩;refine Ac<|Ar<|Qm Y<|Qm Y<|Qm Y<|Am ?_;refine Aw Y (λhlt=>?_)<|λhlt=>?_
  ·exfalso;omega
  ·refine Ax<|Aa<|Aa<|Af ?_;exact Cv Y (⟨Y,Y⟩)
theorem MM(l:List ZY)(v:Value)(m:Hp)(hO:OLD m v l)(S:IncD l)(hsz:l.length<=20)(h:Hp)(g:Nat)(hg:Zt h g) :
  FnT Tryz.prog 217 #[v,(cvD g)] h [m] (λ_ h' ms'=>h=h'/\ms'=[m]):=by
 refine Ap func217 ntmps217 Y Y<|λw0 hw0=>?_;simp only[AR];refine Ad<|Qm Y<|Qm Y<|Qx (Aq (hO.rd<|.head _).rd Y Da Y) Y<|Qm Y<|AC (pre:=[m]) Y call244 Y (Tp l v m hO S hsz h g hg Y) Y Y Y Y<|λr h1 ms1 l1 hF=>?_;obtain⟨rfl,rfl⟩:=hF;refine An ?_;exact Cv Y (⟨Y,Y⟩)
theorem W4(l:List CeO)(v:Value)(h:Hp)(hR:RdL TP 3 h [] v l)(hl:l.length<=1000000):FnT Tryz.prog 212 #[v] h [] (λx h' ms'=>h=h'/\∃m,ms'=[m]/\OwnL TP 3 50 m x l):=by
 refine Ap func212 ntmps212 Y Y<|λw0 hw0=>?_;simp only[AR];refine Ar<|Qm Y<|Am<|Ac<|Ar<|Qm Y<|Qx (Lw hR.rd.any Y B0 Y Y) Y<|Am ?_;refine BW Y (λhn=>?_)<|λhn=>?_
 ·have h0:=KA hR.rd hn;obtain rfl:l=[]:=de h0;refine Ar<|Qm Y<|Am<|Aj<|Ae<|OV ?_;exact Al Y Y (⟨Y,_,Y,OwnL.nil PV⟩)
 ·refine Ah<|Ab<|Ar ?_;refine AO [] [] [] rfl B0 A3 rfl ω κ (by repeat (first|exact ej|refine⟨⟨by first|rfl|exact(hR.rd.any).cells|exact Rd.cells ‹_›|exact(RdL.rd ‹_›).cells,rfl,rfl⟩,?_⟩)) rfl rfl rfl rfl<|λg5=>?_;refine Qm rfl ?_;have hO:OwnL TP 3 50 (BI g5 50 []) (.slice (some ⟨g5,0,none⟩) 0 0) []:=OwnL.blk (l:=([]:List CeO)) 0 PV rfl ω;refine AJ 0 hO hR.any rfl B0 A3 rfl ω rfl rfl rfl AbF (by simp;omega) (by simp;omega) rfl rfl rfl<|λv' m' hO'=>?_;refine Qm rfl<|Am<|Aj ?_;exact Al rfl rfl (⟨rfl,m',rfl,hO'⟩)
theorem Wi(l:List ZY)(v:Value)(h:Hp)(hR:RdL cD 2 h [] v l)(hl:l.length<=1000000):FnT Tryz.prog 216 #[v] h [] (λx h' ms'=>h=h'/\∃m,ms'=[m]/\OwnL cD 2 52 m x l):=by
 refine Ap func216 ntmps216 Y Y<|λw0 hw0=>?_;simp only[AR];refine Ar<|Qm Y<|Am<|Ac<|Ar<|Qm Y<|Qx (Lw hR.rd.any Y Da Y Y) Y<|Am ?_;refine BW Y (λhn=>?_)<|λhn=>?_
 ·have h0:=KA hR.rd hn;obtain rfl:l=[]:=de h0;refine Ar<|Qm Y<|Am<|Aj<|Ae<|OV ?_;exact Al Y Y (⟨Y,_,Y,OwnL.nil F6⟩)
 ·refine Ah<|Ab<|Ar ?_;refine AO [] [] [] rfl Da BX rfl ω κ (by repeat (first|exact ej|refine⟨⟨by first|rfl|exact(hR.rd.any).cells|exact Rd.cells ‹_›|exact(RdL.rd ‹_›).cells,rfl,rfl⟩,?_⟩)) rfl rfl rfl rfl<|λg5=>?_;refine Qm rfl ?_;have hO:OwnL cD 2 52 (BI g5 52 []) (.slice (some ⟨g5,0,none⟩) 0 0) []:=OwnL.blk (l:=([]:List ZY)) 0 F6 rfl ω;refine AJ 0 hO hR.any rfl Da BX rfl ω rfl rfl rfl MB (by simp;omega) (by simp;omega) rfl rfl rfl<|λv' m' hO'=>?_;refine Qm rfl<|Am<|Aj ?_;exact Al rfl rfl (⟨rfl,m',rfl,hO'⟩)
theorem Ul(l:List CeO)(v:Value)(h:Hp)(hR:RdL TP 3 h [] v l)(hl:l.length<=1000000)(S:IncC l):FnT Tryz.prog 168 #[v,fkC] h [] (λx h' ms'=>h.le h'/\∃m,ms'=[m]/\OLC m x l):=by have o1:=hR.rd.one;refine Ap func168 ntmps168 Y Y<|λw0 hw0=>?_;simp only[AR];refine Ar<|AK [_] Y Y (by rfl) Y Y Y<|λg3=>Qm Y<|Am<|AF λh1 l1 hG=>?_;have hk:WU h1 g3:=λms=>Seg.all hG 0 _ Y ms;have hR:=hR.up l1;refine Ar<|Qm Y<|Qc call212 Y (W4 l v h1 hR hl)<|λr h2 ms2 l2 hF=>?_;obtain⟨rfl,m,rfl,hO⟩:=hF;have ovr:=hO.o1;refine Qm Y<|Bp<|Qm Y<|Qx (Bz Y Y Y) Y<|AC (pre:=[m]) Y call213 Y (LN l r m hO S hl h1 g3 hk) Y Y Y Y<|λx h3 ms3 l3 hF=>?_;obtain⟨rfl,rfl⟩:=hF;refine Bp<|Qm Y<|Qm Y<|Am<|Aj ?_;exact Al Y Y (⟨l1,m,Y,hO⟩)
theorem TI(l:List ZY)(v:Value)(h:Hp)(hR:RdL cD 2 h [] v l)(hl:l.length<=20)(S:IncD l):FnT Tryz.prog 170 #[v,fkD] h [] (λx h' ms'=>h.le h'/\∃m,ms'=[m]/\OLD m x l):=by have o1:=hR.rd.one;refine Ap func170 ntmps170 Y Y<|λw0 hw0=>?_;simp only[AR];refine Ar<|AK [_] Y Y (by rfl) Y Y Y<|λg3=>Qm Y<|Am<|AF λh1 l1 hG=>?_;have hk:Zt h1 g3:=λms=>Seg.all hG 0 _ Y ms;have hR:=hR.up l1;refine Ar<|Qm Y<|Qc call216 Y (Wi l v h1 hR ω)<|λr h2 ms2 l2 hF=>?_;obtain⟨rfl,m,rfl,hO⟩:=hF;have ovr:=hO.o1;refine Qm Y<|Bp<|Qm Y<|Qx (Bz Y Y Y) Y<|AC (pre:=[m]) Y call217 Y (MM l r m hO S hl h1 g3 hk) Y Y Y Y<|λx h3 ms3 l3 hF=>?_;obtain⟨rfl,rfl⟩:=hF;refine Bp<|Qm Y<|Qm Y<|Am<|Aj ?_;exact Al Y Y (⟨l1,m,Y,hO⟩)
def Cl.can(c:Cl):Cl:=⟨c.id,c.dim,Dm c.sd⟩
def IZ(x y:Cl):Bool:=decide (x.id<=y.id)
def ordF(l:List Cl):List Cl:=if h:l.length<=1 then l.map Cl.can else
 List.merge (ordF (l.take (l.length/2))) (ordF (l.drop (l.length/2))) IZ
termination_by l.length
decreasing_by
 ·rw[ay];omega
 ·rw[bw];omega
theorem E4{l:List Cl}(h:l.length<=1):ordF l=l.map Cl.can:=by rw[ordF,dif_pos h]
theorem Mg{l:List Cl}(h:¬l.length<=1):ordF l=List.merge (ordF (l.take (l.length/2))) (ordF (l.drop (l.length/2))) IZ:=by rw[ordF,dif_neg h]
theorem Ek:∀(n:Nat) (l:List Cl),l.length<=n->(ordF l).Perm (l.map Cl.can)
 | 0,l,h=>by rw[E4 ω]
 | n+1,l,h=>by
  by_cases hs:l.length<=1
  ·rw[E4 hs]
  ·rw[Mg hs];have h1:=Ek n (l.take (l.length/2)) (by rw[ay];omega);have h2:=Ek n (l.drop (l.length/2)) (by rw[bw];omega);refine(List.merge_perm_append IZ).trans ((h1.append h2).trans ?_);rw[<-dd,dp]
theorem He(l:List Cl):(ordF l).length=l.length:=by
 have:=(Ek l.length l (am _)).length_eq
 rwa [be]at this
theorem Fj:∀(n:Nat) (l:List Cl),l.length<=n->(ordF l).Pairwise (λx y=>x.id<=y.id)
 | 0,l,h=>by obtain rfl:l=[]:=de ω;rw[E4 σ];exact List.Pairwise.nil
 | n+1,l,h=>by
  by_cases hs:l.length<=1
  ·rw[E4 hs]
   match l,hs with
   | [],_=>exact List.Pairwise.nil
   | [a],_=>exact List.pairwise_singleton _ _
  ·rw[Mg hs];have h1:=Fj n (l.take (l.length/2)) (by rw[ay];omega);have h2:=Fj n (l.drop (l.length/2)) (by rw[bw];omega)
   have:=List.pairwise_merge (le:=IZ) (λa b c hab hbc=>by
    unfold IZ at *;have:=dq hab;have:=dq hbc
    exact bq ω) (λa b=>by
    unfold IZ;by_cases h:a.id<=b.id
    ·simp[h]
    ·have:b.id<=a.id:=ω
     simp[this]) _ _ (h1.imp λh=>bq h) (h2.imp λh=>bq h)
   exact this.imp λh=>dq h
theorem Acs(a b:Cl)(l l':List Cl)(h:b.id<a.id):List.merge (a::l) (b::l') IZ=b::List.merge (a::l) l' IZ:=by have:IZ a b=false:=cg ω;simp[List.merge,this]
theorem AcK(a b:Cl)(l l':List Cl)(h:¬b.id<a.id):List.merge (a::l) (b::l') IZ=a::List.merge l (b::l') IZ:=by have:IZ a b=true:=bq ω;simp[List.merge,this]
theorem RdC.part{h:Hp}{v:Value}{l:List Ce}(R:RdC h v l){i j:Nat}(hi:i<=j)(hj:j<=l.length):RdC h (CP 3 v i j) ((l.drop i).take (j-i)):=⟨R.q.sub_ hi hj,λa ha=>R.s a (gt (List.mem_of_mem_take ha))⟩
theorem MQ:∀(N:Nat) (l:List Ce) (v:Value) (h:Hp),l.length<N->N<=1000000->(∀a∈l,a.c.sd.length<=100000)->RdC h v l->FnT Tryz.prog 126 #[v] h [] (λr h' ms'=>h.le h'/\∃m A,ms'=[m]/\OwnL cC 3 50 m r A/\A.map Ce.c=ordF (l.map Ce.c)/\∀a∈A,RdL cD 2 h' [] a.v a.c.sd):=by
 intro N
 induction N with
 | zero=>intro l v h hN;omega
 | succ N ih=>
  intro l v h hN hM hs hR;have o1:=hR.q.rd.one;refine Ap func126 ntmps126 Y Y<|λw0 hw0=>?_;simp only[AR];refine Ar<|Qm Y<|Am<|Ac<|Ar<|Qm Y<|Qx (Aq hR.q.rd.any Y B0 Y) Y<|Qm Y<|Am ?_;refine Aw Y (λh0=>?_)<|λh0=>?_
  ·obtain rfl:l=[]:=de ω;refine BV<|Ar<|Qm Y<|Am<|Aj<|Ae ?_;exact Al Y Y (⟨BE,Hp.emp,[],Y,OwnL.nil DP,by rw[E4 σ];rfl,λa ha=>nomatch ha⟩)
  ·refine Ah<|Ab<|Ac<|Ar<|Qm Y<|Qx (Aq hR.q.rd.any Y B0 Y) Y<|Qm Y<|Am ?_;refine Aw Y (λh1=>?_)<|λh1=>?_
   ·match l,h0,h1,hs,hR with
    | [a],_,_,hs,hR=>
     have hsa:=hR.s a Mh;have osa:=hsa.rd.one;have c0:∀ms,Cell h ms ((AH v).add (0*3)) (.w a.c.id):=λms=>(hR.q.any (ms:=ms)).cell0 (j:=0) σ rfl;have c1:∀ms,Cell h ms (((AH v).add (0*3)).add 1) (.w a.c.dim):=λms=>(hR.q.any (ms:=ms)).cell (j:=0) σ (f:=1) rfl;have c2:∀ms,Cell h ms (((AH v).add (0*3)).add 2) a.v:=λms=>(hR.q.any (ms:=ms)).cell (j:=0) σ (f:=2) rfl;have h01:(0:Nat) < [a].length:=by simp
     refine Ac<|AS (n:=16) (bs:=[ig,ig,ig,ig,ig,ig,ig,ig,ig,ig,ig,ig,ii,ii,ii,ii]) [ig,ig,ig,ig,ig,ig,ig,ig,ig,ig,ig,ig] CC κ κ Y Y<|Qq Y<|Qp Y (BC (0) hR.q.rd.any Y B0 A3 Y Y)<|QF BZ Y<|QL Y U3 (c0 _)<|Qq Y<|Qp Y (BC (0) hR.q.rd.any Y B0 A3 Y Y)<|QF Cj Y<|QL Y U3 (c1 _)<|Qq Y<|Qp Y (BC (0) hR.q.rd.any Y B0 A3 Y Y)<|QF BU Y<|QL Y Da (c2 _) ?_;unfold Dd;simp only[List.cons_append,ap];refine Qo 12 Y<|Qc call80 Y (SP a.c.sd a.v h (hs a Mh) hsa)<|λrs h2 ms2 l2 hF=>?_;obtain⟨rfl,mq,rfl,hOq⟩:=hF;refine Bt hOq λh3 l3 hRq=>?_;obtain⟨a9,c9,rfl,_⟩:=hRq.rd.ex;refine Qa<|Bb 13 25 κ Y (by assumption) Y (AN Ox [.w 0,.w 0,.nl] [(0,_),(1,_),(2,_)] [_,_,_] Y A3 Y Y Qt Y)<|Qo 14 Y<|Ay [_,_,_] Y B0 A3 Y (by rfl) Y Y ω Y Y Y<|λg26=>Qa<|Qo 15 Y<|Qm Y<|Qa<|Qe<|Ab<|Aj ?_;exact Al Y Y ⟨l3,_,[⟨a.c.can,.slice a9 (Dm a.c.sd).length c9⟩],Y,OwnL.blk (g:=g26) (el:=50) (F:=cC) (l:=[⟨a.c.can,.slice a9 (Dm a.c.sd).length c9⟩]) 1 DP Y δ,by rw[E4 σ];rfl,λb hb=>by rw[bm.1 hb];exact hRq⟩
   ·have hl2:¬l.length<=1:=ω
    obtain⟨k,hk⟩:∃k,l.length/2=k:=⟨_,Y⟩
    have hk1:k<l.length:=ω
    have hk0:0<k:=ω
    have hll:=hR.q.len_le;have hR1:RdC h (CP 3 v 0 k) (l.take k):=by have:=hR.part (i:=0) (j:=k) ω ω;rwa [List.drop_zero,Nat.sub_zero]at this
    have hR2:RdC h (CP 3 v k l.length) (l.drop k):=by have:=hR.part (i:=k) (j:=l.length) ω ω;rwa [fy (by rw[bw];omega)]at this
    have hkt:Int.tdiv (l.length:Int) 2=(k:Int):=by rw[Int.tdiv_eq_ediv_of_nonneg ω];omega
    refine Ah<|Ab<|Ar<|Qm Y<|Qm Y<|Qx (Aq hR.q.rd.any Y B0 Y) Y<|Qx (DC Y Y Y ω ω) Y<|Qx (DL (k) hR.q.rd.any Y B0 A3 Y Y ω ω) Y ?_;refine Qc call126 Y (ih (l.take k) _ h (by rw[ay];omega) ω (λa ha=>hs a<|List.mem_of_mem_take ha) hR1)<|λra h2 ms2 l2 hF=>?_;obtain⟨l2',ma,A,rfl,hOA,hA,hAs⟩:=hF;refine Bt hOA λh3 l3 hRA=>?_;have hAs:∀a∈A,RdL cD 2 h3 [] a.v a.c.sd:=λa ha=>(hAs a ha).up l3;have hR2:=hR2.up (AD l2 l3);have hR:=hR.up (AD l2 l3);have oA_:=hRA.rd.one;refine Qm Y<|Bp<|Qm Y<|Qm Y<|Qx (Aq hR.q.rd.any Y B0 Y) Y<|Qx (DC Y Y Y ω ω) Y<|Qx (C8 (k) hR.q.rd.any Y B0 A3 Y Y ω ω) Y ?_;refine Qc call126 Y (ih (l.drop k) _ h3 (by rw[bw];omega) ω (λa ha=>hs a<|gt ha) hR2)<|λrb h4 ms4 l4 hF=>?_;obtain⟨l4',mb,B,rfl,hOB,hB,hBs⟩:=hF;refine Bt hOB λh5 l5 hRB=>?_;have l45:=AD l4 l5;have hAs:∀a∈A,RdL cD 2 h5 [] a.v a.c.sd:=λa ha=>(hAs a ha).up l45;have hBs:∀a∈B,RdL cD 2 h5 [] a.v a.c.sd:=λa ha=>(hBs a ha).up l5;have hRA:=hRA.up l45;have oB:=hRB.rd.one;have lA:A.length=k:=by have:=aw List.length hA;rw[be,He,be,ay]at this;omega
    have lB:B.length=l.length-k:=by have:=aw List.length hB;rw[be,He,be,bw]at this;exact this
    have hmg:ordF (l.map Ce.c)=List.merge (A.map Ce.c) (B.map Ce.c) IZ:=by rw[Mg (by rw[be];exact hl2),hA,hB,be,hk,List.map_take,List.map_drop]
    refine Qm Y<|Bp<|Qm Y<|Am ?_;refine Bv (λs h' ms'=>∃(A' B' O:List Ce) (va vb vo:Value) (mo:Hp),s=[(3,va),(4,vb),(5,vo)]/\h5=h'/\ms'=[mo]/\A'.length+B'.length+O.length=l.length/\RdL cC 3 h5 [] va A'/\RdL cC 3 h5 [] vb B'/\OwnL cC 3 50 mo vo O/\O.map Ce.c++A'.map Ce.c++B'.map Ce.c=ordF (l.map Ce.c)/\(∀a∈A',RdL cD 2 h5 [] a.v a.c.sd)/\(∀a∈B',RdL cD 2 h5 [] a.v a.c.sd)/\∀a∈O,RdL cD 2 h5 [] a.v a.c.sd) ?_<|λs h ms hI=>?_
    ·refine Ag<|BV ?_
     refine AB (λq s h' ms'=>∃(A' B' O:List Ce) (va vb vo:Value) (mo:Hp),q=A'.length+B'.length/\s=[(3,va),(4,vb),(5,vo)]/\h5=h'/\ms'=[mo]/\A'.length+B'.length+O.length=l.length/\RdL cC 3 h5 [] va A'/\RdL cC 3 h5 [] vb B'/\OwnL cC 3 50 mo vo O/\O.map Ce.c++List.merge (A'.map Ce.c) (B'.map Ce.c) IZ=ordF (l.map Ce.c)/\(∀a∈A',RdL cD 2 h5 [] a.v a.c.sd)/\(∀a∈B',RdL cD 2 h5 [] a.v a.c.sd)/\∀a∈O,RdL cD 2 h5 [] a.v a.c.sd)
      (A.length+B.length) _ ⟨A,B,[],_,_,_,Hp.emp,rfl,rfl,rfl,rfl,by rw[lA,lB,ee];omega,hRA,hRB,OwnL.nil DP,by rw[hmg];rfl,hAs,hBs,λa ha=>nomatch ha⟩ Qs ?_
     rintro q s h' ms' ⟨A',B',O,va,vb,vo,mo,rfl,rfl,rfl,rfl,hln,hRa,hRb,hOo,hm,hAa,hBb,hOa⟩;have ova:=hRa.rd.one;have ovb:=hRb.rd.one;have ovo:=hOo.o1;refine Ac<|Ar<|Qm Y<|Qx (Aq hRa.rd.any Y B0 Y) Y<|Qm Y<|Qm Y ?_;refine AU (t:=42) Y (λhs1=>?_)<|λhs1=>?_
     ·refine Qg (Au Y Y) Y<|Qg (Aq hRb.rd.any Y B0 Y) Y<|Qg (Ci Y Y Y) Y<|Qm Y<|Am ?_;refine Aw Y (λhs2=>?_)<|λhs2=>?_
      ·obtain⟨a,A2,rfl⟩:=List.exists_cons_of_length_pos (l:=A') ω;obtain⟨b,B2,rfl⟩:=List.exists_cons_of_length_pos (l:=B') ω;have hA0:0<(a::A2).length:=by simp
       have hB0:0<(b::B2).length:=by simp
       have oav:=(hAa a Mh).rd.one;have obv:=(hBb b Mh).rd.one;have ca:∀ms,Cell h5 ms ((AH va).add (0*3)) (.w a.c.id):=λms=>(hRa.any (ms:=ms)).cell0 (j:=0) hA0 Y;have cb:∀ms,Cell h5 ms ((AH vb).add (0*3)) (.w b.c.id):=λms=>(hRb.any (ms:=ms)).cell0 (j:=0) hB0 Y;have ga:∀ms,Seg h5 ms ((AH va).add (0*3)) (cC a):=λms=>(hRa.any (ms:=ms)).seg (j:=0) hA0;have gb:∀ms,Seg h5 ms ((AH vb).add (0*3)) (cC b):=λms=>(hRb.any (ms:=ms)).seg (j:=0) hB0;have hA2:RdL cC 3 h5 [] (CP 3 va 1 (a::A2).length) A2:=by have:=hRa.sub_ (i:=1) (j:=(a::A2).length) σ (am _);simpa using this
       have hB2:RdL cC 3 h5 [] (CP 3 vb 1 (b::B2).length) B2:=by have:=hRb.sub_ (i:=1) (j:=(b::B2).length) σ (am _);simpa using this
       have oA2:=hA2.rd.one;have oB2:=hB2.rd.one;have hal:(a::A2).length=A2.length+1:=rfl;have hbl:(b::B2).length=B2.length+1:=rfl;refine Ah<|Ab<|Ag<|Ac<|BB 8 CC κ Y<|Wm Y<|BD (BC (0) hRb.rd.any Y B0 A3 Y Y) Y Y<|Wf BZ Y<|Wl Y U3 (cb _)<|Wm Y<|BD (BC (0) hRa.rd.any Y B0 A3 Y Y) Y Y<|Wf BZ Y<|Wl Y U3 (ca _)<|Bu<|Qm Y<|Am ?_;refine Aw Y (λhlt=>?_)<|λhlt=>?_
       ·refine Ac<|Ad<|Qm Y<|Qm Y<|Qx (BC (0) hRb.rd.any Y B0 A3 Y Y) Y<|Qx (oG Y Jz A3<|gb _) Y<|Ay [_,_,_] Y B0 A3 Y (by rfl) Y Y ω Y Y Y<|λg60=>?_;refine Cs 1 hOo (RdL.one DP (x:=b) Mh Y) Y B0 A3 Y ω Y Y Y (GS (l:=[b]) (λy hy=>by rw[bm.1 hy];exact hBb b Mh)) (by(try simp only[ab]);omega) (by(try simp only[ab]);omega) rfl rfl rfl<|λv6 m6 hO6=>?_;have ov6:=hO6.o1;refine Qm Y<|GX<|Qm Y<|Qx (C8 (1) hRb.rd.any Y B0 A3 Y Y ω ω) Y<|Qm Y<|An<|Ai<|AQ ?_;exact Ao ((a::A2).length+B2.length) _ ω ⟨a::A2,B2,O++[b],va,_,v6,m6,Y,Y,Y,Y,by rw[af,ab];omega,hRa,hB2,hO6,by rw[dd,<-hm];show _++[b.c]++_=_++List.merge (a.c::_) (b.c::_) IZ;rw[Acs _ _ _ _ hlt,cz];rfl,hAa,λy hy=>hBb y (bi _ hy),λy hy=>by rcases bj.1 hy with h|h;exact hOa y h;rw[bm.1 h];exact hBb b Mh⟩ Qs
       ·refine Ac<|Ad<|Qm Y<|Qm Y<|Qx (BC (0) hRa.rd.any Y B0 A3 Y Y) Y<|Qx (oG Y Jz A3<|ga _) Y<|Ay [_,_,_] Y B0 A3 Y (by rfl) Y Y ω Y Y Y<|λg68=>?_;refine Cs 1 hOo (RdL.one DP (x:=a) Mh Y) Y B0 A3 Y ω Y Y Y (GS (l:=[a]) (λy hy=>by rw[bm.1 hy];exact hAa a Mh)) (by(try simp only[ab]);omega) (by(try simp only[ab]);omega) rfl rfl rfl<|λv6 m6 hO6=>?_;have ov6:=hO6.o1;refine Qm Y<|GX<|Qm Y<|Qx (C8 (1) hRa.rd.any Y B0 A3 Y Y ω ω) Y<|Qm Y<|An<|Ai<|AQ ?_;exact Ao (A2.length+(b::B2).length) _ ω ⟨A2,b::B2,O++[a],_,vb,v6,m6,Y,Y,Y,Y,by rw[af,ab];omega,hA2,hRb,hO6,by rw[dd,<-hm];show _++[a.c]++_=_++List.merge (a.c::_) (b.c::_) IZ;rw[AcK _ _ _ _ hlt,cz];rfl,λy hy=>hAa y (bi _ hy),hBb,λy hy=>by rcases bj.1 hy with h|h;exact hOa y h;rw[bm.1 h];exact hAa a Mh⟩ Qs
      ·obtain rfl:B'=[]:=de ω;refine Ax<|Aa<|Aa<|Af ?_;exact AI _ ⟨A',[],O,va,vb,vo,mo,Y,Y,Y,hln,hRa,hRb,hOo,by rw[<-hm,cz];simp,hAa,hBb,hOa⟩ Qs
     ·obtain rfl:A'=[]:=de ω;refine Qk Y<|Qk Y<|Qk Y<|Qm Y<|Am<|AL Y<|Ax<|Aa<|Aa<|Af ?_;exact AI _ ⟨[],B',O,va,vb,vo,mo,Y,Y,Y,hln,hRa,hRb,hOo,by rw[<-hm];simp,hAa,hBb,hOa⟩ Qs
    ·obtain⟨A',B',O,va,vb,vo,mo,rfl,rfl,rfl,hln,hRa,hRb,hOo,hm,hAa,hBb,hOa⟩:=hI;have ova:=hRa.rd.one;have ovb:=hRb.rd.one;have ovo:=hOo.o1;refine Ar<|Qm Y<|Qm Y<|Cs 0 hOo hRa.any Y B0 A3 Y ω Y Y Y (GS hAa) (by(try simp only[af]);omega) (by(try simp only[af]);omega) rfl rfl rfl<|λv7 m7 hO7=>Qm rfl<|Cs 0 hO7 hRb.any rfl B0 A3 rfl ω rfl rfl rfl (GS hBb) (by(try simp only[af]);omega) (by(try simp only[af]);omega) rfl rfl rfl<|λv8 m8 hO8=>Qm rfl<|Am<|Aj ?_;exact Al Y Y (⟨AD l2 (AD l3 l45),m8,_,Y,hO8,by rw[dd,dd];exact hm,λy hy=>by rcases bj.1 hy with h|h;rcases bj.1 h with h|h;exact hOa y h;exact hAa y h;exact hBb y h⟩)
structure CsOk(l:List Ce):Prop where
 n:l.length<=100000
 s:∀a∈l,a.c.sd.length<=100000
def uq:Option Int->List Cl->List Cl
 | _,[]=>[]
 | p,a::l=>if p=some a.id then uq (some a.id) l else a::uq (some a.id) l
def Pe:Option Int->List Ce->List Ce
 | _,[]=>[]
 | p,a::l=>if p=some a.c.id then Pe (some a.c.id) l else a::Pe (some a.c.id) l
theorem Pm:∀(l:List Ce) (p:Option Int),(Pe p l).map Ce.c=uq p (l.map Ce.c)
 | [],_=>rfl
 | a::l,p=>by
  unfold Pe;show _=(if p=some a.c.id then uq (some a.c.id) (l.map Ce.c) else a.c::uq (some a.c.id) (l.map Ce.c));split
  ·exact Pm l _
  ·rw[dr,Pm l _]
theorem Ps:∀(l:List Ce) (p:Option Int),∀a∈Pe p l,a∈l
 | [],_,a,h=>by cases h
 | b::l,p,a,h=>by
  unfold Pe at h;split at h
  ·exact bi _<|Ps l _ a h
  ·rcases bg.1 h with rfl|h
   ·exact Mh
   ·exact bi _<|Ps l _ a h
theorem AcP(l:List Ce)(p:Option Int):(Pe p l).length<=l.length:=by
 induction l generalizing p with
 | nil=>exact am _
 | cons a l ih=>
  unfold Pe;have:=ih (some a.c.id);split
  ·rw[length_cons];omega
  ·rw[length_cons,length_cons];omega
theorem SB:∀(l:List Ce) (p:Option Int) (a:Ce),Pe p (l++[a])=Pe p l++(if((l.getLast?.map λx=>x.c.id).or p)=some a.c.id then [] else [a])
 | [],p,a=>by show Pe p [a]=_;unfold Pe;show _=[]++(if p=some a.c.id then [] else [a]);split<;>rfl
 | b::l,p,a=>by
  have ih:=SB l (some b.c.id) a
  have e:(((b::l).getLast?.map λx:Ce=>x.c.id).or p)=((l.getLast?.map λx=>x.c.id).or (some b.c.id)):=by
   cases l with
   | nil=>rfl
   | cons c l=>simp[List.getLast?_cons_cons,List.getLast?_cons]
  rw[e];show Pe p (b::(l++[a]))=_;unfold Pe;split
  ·exact ih
  ·rw[ih];rfl
theorem Z7{l:List Ce}{i:Nat}(hi:i<l.length):Pe none (l.take (i+1))=Pe none (l.take i)++(if h:0<i/\(l[i-1]'ω).c.id=l[i].c.id then [] else [l[i]]):=by
 rw[ak hi,SB];congr 1;by_cases h0:0<i
 ·have e:(l.take i).getLast?=some (l[i-1]'ω):=by rw[List.getLast?_eq_getElem?,ay,fu ω,List.getElem?_take_of_lt ω,aj ω]
  rw[e];by_cases h1:(l[i-1]'ω).c.id=l[i].c.id
  ·rw[dif_pos ⟨h0,h1⟩,ah (by simp[h1])]
  ·rw[dif_neg (λq=>h1 q.2),ae (by simpa using h1)]
 ·obtain rfl:i=0:=ω
  rw[dif_neg (λq=>h0 q.1)];simp
def GP(l:List Cl):List Cl:=uq none (ordF l)
theorem LP(l:List Ce)(v:Value)(h:Hp)(hK:CsOk l)(hR:RdC h v l):FnT Tryz.prog 74 #[.agg #[v]] h [] (λr h' ms'=>h.le h'/\∃m A,ms'=[m]/\OwnL cC 3 50 m r A/\A.map Ce.c=GP (l.map Ce.c)/\∀a∈A,RdL cD 2 h' [] a.v a.c.sd):=by
 have o1:=hR.q.rd.one;have hn:=hK.n;refine Ap func74 ntmps74 Y Y<|λw0 hw0=>?_;simp only[AR];refine Ar<|AK [_] Y Y (by rfl) Y Y Y<|λg1=>Qm Y<|Am<|AF λh1 l1 hS=>?_;have hR:=hR.up l1;have hA0:=Seg.all hS 0 _ Y;refine Ar<|Qf Ct Y<|Ql Y B0 (hA0 _)<|Qc call126 Y (MQ (l.length+1) l v h1 ω ω hK.s hR)<|λr2 h2 ms2 l2 hF=>?_;obtain⟨l2',m,A,rfl,hO,hA,hs⟩:=hF;refine Bt hO λh3 l3 hRA=>?_;have hs:∀a∈A,RdL cD 2 h3 [] a.v a.c.sd:=λa ha=>(hs a ha).up l3;have lA:A.length=l.length:=by have:=aw List.length hA;rwa [be,He,be]at this
 have o2:=hRA.rd.one;refine Qm Y<|Bp<|Qm Y<|Am<|Ac<|Ar<|Qm Y<|Am<|Ag<|BV ?_
 refine AB (λq s h' ms'=>∃(i:Nat) (vo:Value) (mo:Hp),q=A.length-i/\s=[(3,r2),(4,vo),(5,.w i)]/\h3=h'/\ms'=[mo]/\i<=A.length/\OwnL cC 3 50 mo vo (Pe none (A.take i)))
  (A.length-0) _ ⟨0,_,Hp.emp,rfl,rfl,rfl,rfl,ω,OwnL.nil DP⟩ Qs ?_
 rintro q s h' ms' ⟨i,vo,mo,rfl,rfl,rfl,rfl,hi,hO⟩;refine Ac<|Ar<|Qm Y<|Qm Y<|Qx (Aq hRA.rd.any Y B0 Y) Y<|Qm Y<|Am ?_;refine Aw Y (λhlt=>?_)<|λhlt=>?_
 ·have hil:i<A.length:=C7 hlt;have ovo:=hO.o1;have oav:=(hs _ (ao hil)).rd.one;have hgi:∀ms,Seg h3 ms ((AH r2).add (i*3)) (cC A[i]):=λms=>(hRA.any (ms:=ms)).seg hil;have hci:∀ms,Cell h3 ms ((AH r2).add (i*3)) (.w A[i].c.id):=λms=>(hRA.any (ms:=ms)).cell0 hil Y;have htk:=Z7 hil;have hul:(Pe none (A.take i)).length<=100000:=by have:=AcP (A.take i) none;rw[ay]at this;omega
  refine Ah<|Ab ?_;refine Bv (λs h' ms'=>∃(vo:Value) (mo:Hp),s=[(3,r2),(4,vo),(5,.w i)]/\h3=h'/\ms'=[mo]/\OwnL cC 3 50 mo vo (Pe none (A.take (i+1)))) ?_<|λs h ms hI=>?_
  ·refine Ag<|Ac<|BB 14 CC κ Y<|Wm Y<|Wm Y<|Wm Y ?_;refine C3 (t:=17) Y (λhs1=>?_)<|λhs1=>?_
   ·rw[dif_neg (λq=>ω)]at htk;refine AG Y Y Y Y Y<|AG Y Y Y Y Y<|AG Y Y Y Y Y<|AG Y Y Y Y Y<|AG Y Y Y Y Y<|AG Y Y Y Y Y<|AG Y Y Y Y Y<|AG Y Y Y Y Y<|AG Y Y Y Y Y<|AG Y Y Y Y Y<|AG Y Y Y Y Y<|Bu<|Qk Y<|Qm Y<|Am<|AX Y<|Ad<|Qm Y<|Qm Y<|Qm Y<|Qx (BC (i) hRA.rd.any Y B0 A3 Y Y) Y<|Qx (oG Y Jz A3<|hgi _) Y<|Ay [_,_,_] Y B0 A3 Y (by rfl) Y Y ω Y Y Y<|λg36=>?_;refine Cs 1 hO (RdL.one DP (x:=A[i]) Mh Y) Y B0 A3 Y ω Y Y Y (GS (l:=[A[i]]) (λy hy=>by rw[bm.1 hy];exact hs _ (ao hil))) (by(try simp only[ab]);omega) (by(try simp only[ab]);omega) rfl rfl rfl<|λv6 m6 hO6=>?_;rw[<-htk]at hO6;refine Qm Y<|An<|Ai<|AQ ?_;exact AI _ ⟨v6,m6,Y,Y,Y,hO6⟩ Qs
   ·have hip:i-1<A.length:=ω
    have hcp:∀ms,Cell h3 ms ((AH r2).add ((i-1)*3)) (.w A[i-1].c.id):=λms=>(hRA.any (ms:=ms)).cell0 hip Y;refine AP (Au Y Y) Y Y Y Y<|AP (Au Y Y) Y Y Y Y<|AP (BC (i) hRA.rd.any Y B0 A3 Y Y) Y Y Y Y<|AP (oF BZ Y) Y Y Y Y<|AP (oL Y U3<|hci _) Y Y Y Y<|AP (Au Y Y) Y Y Y Y<|AP (Au Y Y) Y Y Y Y<|AP (oS Y) Y Y Y Y<|AP (BC (i-1) hRA.rd.any Y B0 A3 Y Y) Y Y Y Y<|AP (oF BZ Y) Y Y Y Y<|AP (oL Y U3<|hcp _) Y Y Y Y<|Bu<|Qg (EO Y Y Y) Y<|Qm Y<|Am ?_;refine Aw Y (λhs2=>?_)<|λhs2=>?_
    ·rw[dif_neg (λq=>hs2 q.2.symm)]at htk;refine Ad<|Qm Y<|Qm Y<|Qm Y<|Qx (BC (i) hRA.rd.any Y B0 A3 Y Y) Y<|Qx (oG Y Jz A3<|hgi _) Y<|Ay [_,_,_] Y B0 A3 Y (by rfl) Y Y ω Y Y Y<|λg36=>?_;refine Cs 1 hO (RdL.one DP (x:=A[i]) Mh Y) Y B0 A3 Y ω Y Y Y (GS (l:=[A[i]]) (λy hy=>by rw[bm.1 hy];exact hs _ (ao hil))) (by(try simp only[ab]);omega) (by(try simp only[ab]);omega) rfl rfl rfl<|λv6 m6 hO6=>?_;rw[<-htk]at hO6;refine Qm Y<|An<|Ai<|AQ ?_;exact AI _ ⟨v6,m6,Y,Y,Y,hO6⟩ Qs
    ·rw[dif_pos ⟨ω,ω⟩,List.append_nil]at htk;rw[<-htk]at hO;refine Ah<|Ai ?_;exact AI _ ⟨vo,mo,Y,Y,Y,hO⟩ Qs
  ·obtain⟨vo,mo,rfl,rfl,rfl,hO⟩:=hI;refine Ad<|Qm Y<|Qx (oA Y) Y<|Qm Y<|An ?_;exact Ao (A.length-(i+1)) _ ω ⟨i+1,vo,mo,Y,Y,Y,Y,ω,hO⟩ Qs
 ·have hie:i=A.length:=ω
  rw[hie,List.take_length]at hO;refine Ax<|Aa<|Aa<|Af<|Ab<|Ar<|Qm Y<|Qm Y<|Am<|Aj ?_;exact Al Y Y (⟨AD l1 (AD l2 l3),mo,_,Y,hO,by rw[Pm,hA];rfl,λa ha=>hs a (Ps _ _ a ha)⟩)
def Mw(l:List Cl)(x:Int):Nat:=(l.takeWhile λc=>decide (c.id<x)).length
def K2(l:List Cl)(x:Int):Int:=if h:Mw l x<l.length then if l[Mw l x].id=x then(Mw l x:Nat) else -1 else -1
theorem Rj{l:List Cl}{x:Int}{k:Nat}(hk:k<=l.length)(h1:∀j (hj:j<l.length),j<k->l[j].id<x)(h2:∀hk:k<l.length,¬l[k].id<x):Mw l x=k:=by obtain⟨e1,_⟩:=EZ (λc:Cl=>decide (c.id<x)) l k hk (λj hj hjk=>bq (h1 j hj hjk)) (λhk=>cg (h2 hk));unfold Mw;rw[e1,ay];omega
theorem Adz(l:List Ce)(v:Value)(x:Int)(h:Hp)(hn:l.length<=100000)(hst:(l.map Ce.c).Pairwise λa b=>a.id<=b.id)(hR:RdL cC 3 h [] v l)(ms:List Hp):FnV Tryz.prog 109 #[v,.int .i64 x] h ms (.int .i64 (K2 (l.map Ce.c) x)):=by
 refine DY ?_ ms;have o1:=hR.rd.one
 have hsr:∀i j (hi:i<l.length) (hj:j<l.length),i<j->l[i].c.id<=l[j].c.id:=λi j hi hj hij=>by have:=ct.1 hst i j (by simpa using hi) (by simpa using hj) hij;simpa using this
 refine Ap func109 ntmps109 Y Y<|λw0 hw0=>?_;simp only[AR];refine Ar<|Qm Y<|Bp<|Qm Y<|Bp<|Qm Y<|Qx (Aq hR.rd.any Y B0 Y) Y<|Qm Y<|Am<|Ac<|Ag ?_
 refine AB (λq s h' ms'=>∃(lo hi:Nat),q=hi-lo/\s=[(0,v),(1,.w x),(5,.w lo),(6,.w hi)]/\h=h'/\ms'=[]/\lo<=hi/\hi<=l.length/\(∀j (hj:j<l.length),j<lo->l[j].c.id<x)/\∀j (hj:j<l.length),hi<=j->¬l[j].c.id<x)
  (l.length-0) _ ⟨0,l.length,rfl,rfl,rfl,rfl,ω,ω,λj hj h=>ω,λj hj h=>ω⟩ Qs ?_
 rintro q s h' ms' ⟨lo,hi,rfl,rfl,rfl,rfl,hlh,hhl,hlo,hhi⟩;refine Ac<|Ar<|Qm Y<|Qm Y<|Qm Y<|Am ?_;refine Aw Y (λhlt=>?_)<|λhlt=>?_
 ·obtain⟨m,hm⟩:∃m,(lo+hi)/2=m:=⟨_,Y⟩
  have hml:m<l.length:=ω
  have hmt:((lo:Int)+hi)/2=(m:Int):=ω
  have hcm:Cell h [] ((AH v).add (m*3)) (.w l[m].c.id):=hR.cell0 hml Y;refine Ah<|Ab<|Ag<|Ar<|Qm Y<|Qm Y<|Qx (oA Y) Y<|Qx (DC Y Y Y ω ω) Y<|Qm Y<|Am ?_;rw[hmt];refine Ar<|Qm Y<|Qm Y<|Qx (BC (m) hR.rd.any Y B0 A3 Y Y) Y<|Qf BZ Y<|Ql Y U3 (hcm)<|Qm Y<|Qm Y<|Am ?_;refine Aw Y (λhlt2=>?_)<|λhlt2=>?_
  ·refine Ad<|Qm Y<|Qx (oA Y) Y<|Qm Y<|An<|Ai ?_
   exact Ao (hi-(m+1)) _ ω ⟨m+1,hi,Y,Y,Y,Y,ω,ω,λj hj h=>by
    rcases (ω:j<m\/j=m) with h1|rfl
    ·have:=hsr j m hj hml h1;omega
    ·exact hlt2,hhi⟩ Qs
  ·refine Ad<|Qm Y<|Qm Y<|An<|Ai ?_
   exact Ao (m-lo) _ ω ⟨lo,m,Y,Y,Y,Y,ω,ω,hlo,λj hj h=>by
    rcases (ω:m<j\/j=m) with h1|rfl
    ·have:=hsr m j hml hj h1;omega
    ·exact hlt2⟩ Qs
 ·obtain rfl:lo=hi:=ω
  have hcnt:Mw (l.map Ce.c) x=lo:=Rj (by rw[be];omega) (λj hj h=>by rw[gl];exact hlo j (by simpa using hj) h) (λhk=>by rw[gl];exact hhi lo (by simpa using hk)<|am _)
  have hat:K2 (l.map Ce.c) x=if h:lo<l.length then(if l[lo].c.id=x then(lo:Int) else -1) else -1:=by unfold K2;simp only[hcnt,be,gl]
  refine Ax<|Aa<|Aa<|Af<|Ab<|Ac<|Ar<|Qm Y<|Qm Y<|Qx (Aq hR.rd.any Y B0 Y) Y<|Qm Y<|Qm Y ?_;refine AU (t:=31) Y (λhs1=>?_)<|λhs1=>?_
  ·have hll:lo<l.length:=C7 hs1;have hcl:Cell h [] ((AH v).add (lo*3)) (.w l[lo].c.id):=hR.cell0 hll Y;rw[dif_pos hll]at hat;refine Qg (Au Y Y) Y<|Qg (Au Y Y) Y<|Qg (BC (lo) hR.rd.any Y B0 A3 Y Y) Y<|Qg (oF BZ Y) Y<|Qg (oL Y U3<|hcl) Y<|Qg (Au Y Y) Y<|Qg (Cq Y Y Y) Y<|Qm Y<|Am ?_;refine Aw Y (λhs2=>?_)<|λhs2=>?_
   ·refine Ac<|Ad<|Qm Y<|Qm Y<|Am<|Aj<|Ae ?_;exact Al Y Y (by rw[hat,ah hs2])
   ·refine Ah<|Ab<|Ar<|Qm Y<|Am<|Aj ?_;exact Al Y Y (by rw[hat,ae hs2])
  ·rw[dif_neg ω]at hat;refine Qk Y<|Qk Y<|Qk Y<|Qk Y<|Qk Y<|Qk Y<|Qk Y<|Qm Y<|Am<|AL Y<|Ah<|Ab<|Ar<|Qm Y<|Am<|Aj ?_;exact Al Y Y (by rw[hat])
def Bm(x:Cl)(i:Nat):Int×Int:=x.sd.getD i (0,0)
theorem Bj{x:Cl}{i:Nat}(hi:i<x.sd.length):Bm x i=x.sd[i]:=by simp[Bm,List.getD,hi]
def Dh(l:List Cl)(x:Cl)(i:Nat):Prop:=K2 l (Bm x i).1<0\/(l.getD (K2 l (Bm x i).1).toNat default).dim≠x.dim-1\/(0<i/\(Bm x i).1=(Bm x (i-1)).1)
instance (l:List Cl) (x:Cl) (i:Nat):Decidable (Dh l x i):=by unfold Dh;infer_instance
def Cb(x:Cl):Prop:=(x.dim=0/\0<x.sd.length)\/(x.dim=1/\x.sd.length≠2)\/(1<x.dim/\(x.sd.length<2\/64<x.sd.length))
instance (x:Cl):Decidable (Cb x):=by unfold Cb;infer_instance
def B1(x:Cl)(i:Nat):Prop:=(Bm x i).2≠1/\(Bm x i).2≠-1
instance (x:Cl) (i:Nat):Decidable (B1 x i):=by unfold B1;infer_instance
def CM(l:List Cl)(x:Cl):Int:=
 if x.dim<0\/8<x.dim then 21
 else if Cb x then 22
 else if ¬∀i,i<x.sd.length->¬Dh l x i then 22
 else if ¬∀i,i<x.sd.length->¬B1 x i then 23
 else if x.dim=1/\(Bm x 0).2=(Bm x 1).2 then 23 else 0
theorem OQ(l:List Cl)(x:Int):K2 l x<l.length:=by
 unfold K2;split
 ·split
  ·omega
  ·omega
 ·omega
theorem Ace(l:List Ce)(x:Ce)(v:Value)(h:Hp)(hn:l.length<=100000)(hxn:x.c.sd.length<=100000)(hxd:-9223372036854775807<=x.c.dim/\x.c.dim<=9223372036854775807)(hst:(l.map Ce.c).Pairwise λa b=>a.id<=b.id)(hR:RdL cC 3 h [] v l)(hX:RdL cD 2 h [] x.v x.c.sd)(ms:List Hp):FnV Tryz.prog 127 #[v,.agg #[.int .i64 x.c.id,.int .i64 x.c.dim,x.v]] h ms (.int .i64 (CM (l.map Ce.c) x.c)):=by
 refine DY ?_ ms;have o1:=hR.rd.one;have o2:=hX.rd.one;refine Ap func127 ntmps127 Y Y<|λw0 hw0=>?_;simp only[AR];refine Ar<|AK [_,_,_] Y Y (by rfl) Y Y Y<|λg3=>Qm Y<|Am<|AF λh1 l1 hS=>?_;have hR:=hR.up l1;have hX:=hX.up l1;have hA:=Seg.all hS;refine Ac<|Ar<|Qf Cj Y<|Ql Y U3 (hA _ _ Y _)<|Qm Y<|Qm Y ?_;refine AU (t:=12) Y (λg1=>?_)<|λg1=>?_
 ·refine Qk Y<|Qk Y<|Qk Y<|Qm Y<|Am<|AX Y<|Ar<|Qm Y<|Am<|Aj<|Ae ?_;exact Al Y Y (by unfold CM;rw[ah (.inl g1)])
 ·refine Qg (oF Cj Y) Y<|Qg (oL Y U3<|hA _ _ Y _) Y<|Qg (Ci Y Y Y) Y<|Qm Y<|Am ?_;refine Aw Y (λg2=>?_)<|λg2=>?_
  ·refine Ac<|Ad<|Qm Y<|Am<|Aj<|Ae ?_;exact Al Y Y (by unfold CM;rw[ah (.inr g2)])
  ·have hd:¬(x.c.dim<0\/8<x.c.dim):=ω
   refine Ah<|Ab<|Ar<|Qf BU Y<|Ql Y Da (hA _ _ Y _)<|Qx (Aq hX.rd.any Y Da Y) Y<|Qm Y<|Am ?_;refine Bv (λs h' ms'=>s=[(0,v),(3,.pt g3),(5,.w x.c.sd.length)]/\h1=h'/\ms'=[]/\¬Cb x.c) ?_<|λs h ms hI=>?_
   ·refine Ac<|Ad<|Qf Cj Y<|Ql Y U3 (hA _ _ Y _)<|Qm Y<|Qm Y ?_;refine AU (t:=23) Y (λa1=>?_)<|λa1=>?_
    ·refine Qg (Au Y Y) Y<|Qg (Ci Y Y Y) Y<|Qm Y<|Qm Y ?_;refine AU (t:=27) Y (λa2=>?_)<|λa2=>?_
     ·refine Qk Y<|Qk Y<|Qk Y<|Qk Y<|Bc Y Y Y Y Y Y<|Bc Y Y Y Y Y Y<|Qk Y<|Qm Y<|Qm Y<|Qk Y<|Qk Y<|Qk Y<|Qk Y<|Bc Y Y Y Y Y Y<|Bc Y Y Y Y Y Y<|Bc Y Y Y Y Y Y<|Bc Y Y Y Y Y Y<|Bc Y Y Y Y Y Y<|Bc Y Y Y Y Y Y<|Qk Y<|Qm Y<|Am<|AX Y<|Ar<|Qm Y<|Am<|Aj<|Ae ?_;exact Al Y Y (by unfold CM;rw[ae hd,ah (by unfold Cb;omega)])
     ·refine Qg (oF Cj Y) Y<|Qg (oL Y U3<|hA _ _ Y _) Y<|Qg (Cq Y Y Y) Y<|Qg (Au Y Y) Y ?_;refine AU (t:=31) Y (λa3=>?_)<|λa3=>?_
      ·exact ie a3 ω
      ·refine Qk Y<|Qk Y<|Qg (CA Y Y Y) Y<|Qm Y<|Qm Y<|Qg (oF Cj Y) Y<|Qg (oL Y U3<|hA _ _ Y _) Y<|Qg (Ci Y Y Y) Y<|Qg (Au Y Y) Y ?_;refine AU (t:=40) Y (λa4=>?_)<|λa4=>?_
       ·exact ie a4 ω
       ·refine Qk Y<|Qk Y<|Qk Y<|Bc Y Y Y Y Y Y<|Bc Y Y Y Y Y Y<|Qk Y<|Qg (CA Y Y Y) Y<|Qm Y<|Am<|AL Y<|Ah ?_;exact AI _ ⟨Y,Y,Y,by unfold Cb;omega⟩ Qs
    ·refine Qk Y<|Qk Y<|Qm Y<|Qm Y<|Qg (oF Cj Y) Y<|Qg (oL Y U3<|hA _ _ Y _) Y<|Qg (Cq Y Y Y) Y<|Qg (Au Y Y) Y ?_;refine AU (t:=31) Y (λa3=>?_)<|λa3=>?_
     ·refine Qg (Au Y Y) Y<|Qg (EO Y Y Y) Y<|Qg (CS Y Y Y) Y<|Qm Y<|Qm Y ?_;refine AU (t:=36) Y (λa5=>?_)<|λa5=>?_
      ·refine Qk Y<|Qk Y<|Qk Y<|Qk Y<|Bc Y Y Y Y Y Y<|Bc Y Y Y Y Y Y<|Bc Y Y Y Y Y Y<|Bc Y Y Y Y Y Y<|Bc Y Y Y Y Y Y<|Bc Y Y Y Y Y Y<|Qk Y<|Qm Y<|Am<|AX Y<|Ar<|Qm Y<|Am<|Aj<|Ae ?_;exact Al Y Y (by unfold CM;rw[ae hd,ah (by unfold Cb;omega)])
      ·refine Qg (oF Cj Y) Y<|Qg (oL Y U3<|hA _ _ Y _) Y<|Qg (Ci Y Y Y) Y<|Qg (Au Y Y) Y ?_;refine AU (t:=40) Y (λa6=>?_)<|λa6=>?_
       ·exact ie a6 ω
       ·refine Qk Y<|Qk Y<|Qk Y<|Bc Y Y Y Y Y Y<|Bc Y Y Y Y Y Y<|Qk Y<|Qg (CA Y Y Y) Y<|Qm Y<|Am<|AL Y<|Ah ?_;exact AI _ ⟨Y,Y,Y,by unfold Cb;omega⟩ Qs
     ·refine Qk Y<|Qk Y<|Qg (CA Y Y Y) Y<|Qm Y<|Qm Y<|Qg (oF Cj Y) Y<|Qg (oL Y U3<|hA _ _ Y _) Y<|Qg (Ci Y Y Y) Y<|Qg (Au Y Y) Y ?_;refine AU (t:=40) Y (λa6=>?_)<|λa6=>?_
      ·refine Qg (Au Y Y) Y<|Qg (Dy Y Y Y) Y<|Qg (Au Y Y) Y ?_;refine AU (t:=43) Y (λa7=>?_)<|λa7=>?_
       ·refine Qk Y<|Qk Y<|Qg (CS Y Y Y) Y<|Qg (CS Y Y Y) Y<|Qm Y<|Am<|AX Y<|Ar<|Qm Y<|Am<|Aj<|Ae ?_;exact Al Y Y (by unfold CM;rw[ae hd,ah (by unfold Cb;omega)])
       ·refine Qg (Au Y Y) Y<|Qg (Ci Y Y Y) Y<|Qg (CA Y Y Y) Y<|Qg (CS Y Y Y) Y<|Qm Y<|Am ?_;refine Aw Y (λa8=>?_)<|λa8=>?_
        ·refine Ac<|Ad<|Qm Y<|Am<|Aj<|Ae ?_;exact Al Y Y (by unfold CM;rw[ae hd,ah (by unfold Cb;omega)])
        ·refine Ah ?_;exact AI _ ⟨Y,Y,Y,by unfold Cb;omega⟩ Qs
      ·exact ie a6 ω
   ·obtain⟨rfl,rfl,rfl,hnb⟩:=hI;refine Ac<|Ar<|Qm Y<|Am<|Ag ?_
    refine AB (λq s h' ms'=>∃(i:Nat),q=x.c.sd.length-i/\s=[(0,v),(3,.pt g3),(5,.w x.c.sd.length),(6,.w i)]/\h1=h'/\ms'=[]/\i<=x.c.sd.length/\∀j,j<i->¬Dh (l.map Ce.c) x.c j)
     (x.c.sd.length-0) _ ⟨0,rfl,rfl,rfl,rfl,ω,λj hj=>ω⟩ Qs ?_
    rintro q s h' ms' ⟨i,rfl,rfl,rfl,rfl,hi,hno⟩;refine Ac<|Ar<|Qm Y<|Qm Y<|Qm Y<|Am ?_;refine Aw Y (λhlt=>?_)<|λhlt=>?_
    ·have hil:i<x.c.sd.length:=C7 hlt;have hsi:=Bj hil;have hci:Cell h1 [] ((AH x.v).add (i*2)) (.w x.c.sd[i].1):=hX.cell0 hil Y;obtain⟨k,hk⟩:∃k,K2 (l.map Ce.c) x.c.sd[i].1=k:=⟨_,Y⟩
     have hkl:=OQ (l.map Ce.c) x.c.sd[i].1;rw[hk,be]at hkl
     have hround:¬Dh (l.map Ce.c) x.c i->∀j,j<i+1->¬Dh (l.map Ce.c) x.c j:=λhb j hj=>by
      rcases (ω:j<i\/j=i) with h|rfl
      ·exact hno j h
      ·exact hb
     refine Ah<|Ab<|Ac<|Ag<|Ar<|Qm Y<|Qf BU Y<|Ql Y Da (hA _ _ Y _)<|Qm Y<|Qx (BC (i) hX.rd.any Y Da BX Y Y) Y<|Qf Dl Y<|Ql Y U3 (hci)<|Qx (As Y call109 Y<|Adz l v _ h1 hn hst hR _) Y<|Qm Y<|Am ?_;rw[hk];refine Ac<|BB 30 CC κ Y<|Wm Y<|Wm Y<|Wm Y ?_;refine C3 (t:=64) Y (λb1=>?_)<|λb1=>?_
     ·refine AG Y Y Y Y Y<|AG Y Y Y Y Y<|AG Y Y Y Y Y<|AG Y Y Y Y Y<|AG Y Y Y Y Y<|AG Y Y Y Y Y<|AG Y Y Y Y Y<|AG Y Y Y Y Y<|AG Y Y Y Y Y<|Wm Y<|Wm Y<|AG Y Y Y Y Y<|AG Y Y Y Y Y<|AG Y Y Y Y Y<|AW Y Y Y Y<|AW Y Y Y Y<|AW Y Y Y Y<|AW Y Y Y Y<|AW Y Y Y Y<|AW Y Y Y Y<|AW Y Y Y Y<|AW Y Y Y Y<|AW Y Y Y Y<|AW Y Y Y Y<|AW Y Y Y Y<|AW Y Y Y Y<|AW Y Y Y Y<|Bu<|Bc Y Y Y Y Y Y<|Qk Y<|Qm Y<|Am<|AX Y<|Ar<|Qm Y<|Am<|Aj<|Ak<|Ae<|Ae ?_;refine Ak<|Ae ?_;exact Al Y Y (by unfold CM;rw[ae hd,ae hnb,ah (λq=>q i hil (by unfold Dh;rw[hsi,hk];exact .inl b1))])
     ·obtain⟨m,rfl⟩:∃m:Nat,k=m:=⟨k.toNat,ω⟩
      have hml:m<l.length:=ω
      have hcd:Cell h1 [] (((AH v).add (m*3)).add 1) (.w l[m].c.dim):=hR.cell hml (f:=1) Y;have hgd:(l.map Ce.c).getD ((m:Int).toNat) default=l[m].c:=by simp[List.getD,hml]
      refine AP (Au Y Y) Y Y Y Y<|AP (Au Y Y) Y Y Y Y<|AP (BC (m) hR.rd.any Y B0 A3 Y Y) Y Y Y Y<|AP (oF Cj Y) Y Y Y Y<|AP (oL Y U3<|hcd) Y Y Y Y<|AP (oF Cj Y) Y Y Y Y<|AP (oL Y U3<|hA _ _ Y _) Y Y Y Y<|AP (oS Y) Y Y Y Y<|AP (EO Y Y Y) Y Y Y Y<|Wm Y<|Wm Y ?_;refine C3 (t:=75) Y (λb2=>?_)<|λb2=>?_
      ·refine AG Y Y Y Y Y<|AG Y Y Y Y Y<|AG Y Y Y Y Y<|AW Y Y Y Y<|AW Y Y Y Y<|AW Y Y Y Y<|AW Y Y Y Y<|AW Y Y Y Y<|AW Y Y Y Y<|AW Y Y Y Y<|AW Y Y Y Y<|AW Y Y Y Y<|AW Y Y Y Y<|AW Y Y Y Y<|AW Y Y Y Y<|AW Y Y Y Y<|Bu<|Bc Y Y Y Y Y Y<|Qk Y<|Qm Y<|Am<|AX Y<|Ar<|Qm Y<|Am<|Aj<|Ak<|Ae<|Ae<|Ak<|Ae ?_;exact Al Y Y (by unfold CM;rw[ae hd,ae hnb,ah (λq=>q i hil (by unfold Dh;rw[hsi,hk,hgd];exact .inr (.inl b2)))])
      ·refine AP (Au Y Y) Y Y Y Y<|AP (Ci Y Y Y) Y Y Y Y<|AP (Au Y Y) Y Y Y Y ?_;refine C3 (t:=78) Y (λb3=>?_)<|λb3=>?_
       ·have hip:i-1<x.c.sd.length:=ω
        have hsp:=Bj hip;have hcp:Cell h1 [] ((AH x.v).add ((i-1)*2)) (.w x.c.sd[i-1].1):=hX.cell0 hip Y;refine AP (oF BU Y) Y Y Y Y<|AP (oL Y Da<|hA _ _ Y _) Y Y Y Y<|AP (Au Y Y) Y Y Y Y<|AP (BC (i) hX.rd.any Y Da BX Y Y) Y Y Y Y<|AP (oF Dl Y) Y Y Y Y<|AP (oL Y U3<|hci) Y Y Y Y<|AP (oF BU Y) Y Y Y Y<|AP (oL Y Da<|hA _ _ Y _) Y Y Y Y<|AP (Au Y Y) Y Y Y Y<|AP (oS Y) Y Y Y Y<|AP (BC (i-1) hX.rd.any Y Da BX Y Y) Y Y Y Y<|AP (oF Dl Y) Y Y Y Y<|AP (oL Y U3<|hcp) Y Y Y Y<|Bu<|Qg (Cq Y Y Y) Y<|Qg (CS Y Y Y) Y<|Qm Y<|Am ?_;refine Aw Y (λb4=>?_)<|λb4=>?_
        ·refine Ac<|Ad<|Qm Y<|Am<|Aj<|Ak<|Ae<|Ae<|Ak<|Ae ?_;exact Al Y Y (by unfold CM;rw[ae hd,ae hnb,ah (λq=>q i hil (by unfold Dh;rw[hsi,hsp,hk,hgd];exact .inr (.inr ⟨ω,b4⟩)))])
        ·refine Ah<|Ai<|Ab<|Ad<|Qm Y<|Qx (oA Y) Y<|Qm Y<|An ?_;exact Ao (x.c.sd.length-(i+1)) _ ω ⟨i+1,Y,Y,Y,Y,ω,hround (by unfold Dh;rw[hsi,hsp,hk,hgd];omega)⟩ Qs
       ·refine AG Y Y Y Y Y<|AG Y Y Y Y Y<|AG Y Y Y Y Y<|AG Y Y Y Y Y<|AG Y Y Y Y Y<|AG Y Y Y Y Y<|AG Y Y Y Y Y<|AG Y Y Y Y Y<|AG Y Y Y Y Y<|AG Y Y Y Y Y<|AG Y Y Y Y Y<|AG Y Y Y Y Y<|AG Y Y Y Y Y<|Bu<|Qk Y<|Qg (CA Y Y Y) Y<|Qm Y<|Am<|AL Y<|Ah<|Ai<|Ab<|Ad<|Qm Y<|Qx (oA Y) Y<|Qm Y<|An ?_;exact Ao (x.c.sd.length-(i+1)) _ ω ⟨i+1,Y,Y,Y,Y,ω,hround (by unfold Dh;rw[hsi,hk,hgd];omega)⟩ Qs
    ·obtain rfl:i=x.c.sd.length:=ω
     have hs2:¬¬∀i,i<x.c.sd.length->¬Dh (l.map Ce.c) x.c i:=λq=>q hno;refine Ax<|Aa<|Aa<|Af<|Ab<|Ac<|Ar<|Qm Y<|Am<|Ag ?_
     refine AB (λq s h' ms'=>∃(i:Nat),q=x.c.sd.length-i/\s=[(0,v),(3,.pt g3),(5,.w x.c.sd.length),(8,.w i)]/\h1=h'/\ms'=[]/\i<=x.c.sd.length/\∀j,j<i->¬B1 x.c j)
      (x.c.sd.length-0) _ ⟨0,rfl,rfl,rfl,rfl,ω,λj hj=>ω⟩ Qs ?_
     rintro q s h' ms' ⟨i,rfl,rfl,rfl,rfl,hi,hno2⟩;refine Ac<|Ar<|Qm Y<|Qm Y<|Qm Y<|Am ?_;refine Aw Y (λhlt2=>?_)<|λhlt2=>?_
     ·have hil:i<x.c.sd.length:=C7 hlt2;have hsi:=Bj hil;have hci:Cell h1 [] (((AH x.v).add (i*2)).add 1) (.w x.c.sd[i].2):=hX.cell hil (f:=1) Y
      have hround:¬B1 x.c i->∀j,j<i+1->¬B1 x.c j:=λhb j hj=>by
       rcases (ω:j<i\/j=i) with h|rfl
       ·exact hno2 j h
       ·exact hb
      refine Ah<|Ab<|Ac<|Ag<|Ar<|Qf BU Y<|Ql Y Da (hA _ _ Y _)<|Qm Y<|Qx (BC (i) hX.rd.any Y Da BX Y Y) Y<|Qf Eg Y<|Ql Y U3 (hci)<|Qm Y<|Qm Y ?_;refine AU (t:=107) Y (λc1=>?_)<|λc1=>?_
      ·refine Qg (oF BU Y) Y<|Qg (oL Y Da<|hA _ _ Y _) Y<|Qg (Au Y Y) Y<|Qg (BC (i) hX.rd.any Y Da BX Y Y) Y<|Qg (oF Eg Y) Y<|Qg (oL Y U3<|hci) Y<|Qg (EO Y Y Y) Y<|Qm Y<|Am ?_;refine Aw Y (λc2=>?_)<|λc2=>?_
       ·refine Ac<|Ad<|Qm Y<|Am<|Aj<|Ak<|Ae<|Ae<|Ak<|Ae ?_;exact Al Y Y (by unfold CM;rw[ae hd,ae hnb,ae hs2,ah (λq=>q i hil (by unfold B1;rw[hsi];exact⟨c1,c2⟩))])
       ·refine Ah<|Ai<|Ab<|Ad<|Qm Y<|Qx (oA Y) Y<|Qm Y<|An ?_;exact Ao (x.c.sd.length-(i+1)) _ ω ⟨i+1,Y,Y,Y,Y,ω,hround (by unfold B1;rw[hsi];exact λq=>c2 q.2)⟩ Qs
      ·refine Qk Y<|Qk Y<|Qk Y<|Qk Y<|Qk Y<|Qk Y<|Qk Y<|Qm Y<|Am<|AL Y<|Ah<|Ai<|Ab<|Ad<|Qm Y<|Qx (oA Y) Y<|Qm Y<|An ?_;exact Ao (x.c.sd.length-(i+1)) _ ω ⟨i+1,Y,Y,Y,Y,ω,hround (by unfold B1;rw[hsi];exact λq=>c1 q.1)⟩ Qs
     ·obtain rfl:i=x.c.sd.length:=ω
      have hs3:¬¬∀i,i<x.c.sd.length->¬B1 x.c i:=λq=>q hno2;refine Ax<|Aa<|Aa<|Af<|Ab<|Ac<|Ac<|BB 14 CC κ Y<|Wf Cj Y<|Wl Y U3 (hA _ _ Y _)<|Wm Y<|Wm Y ?_;refine C3 (t:=119) Y (λd1=>?_)<|λd1=>?_
      ·have h2:x.c.sd.length=2:=by unfold Cb at hnb;omega
       have hl0:0<x.c.sd.length:=ω
       have hl1:1<x.c.sd.length:=ω
       have hs0:=Bj hl0;have hs1:=Bj hl1;have hc0:Cell h1 [] (((AH x.v).add (0*2)).add 1) (.w x.c.sd[0].2):=hX.cell hl0 (f:=1) Y;have hc1:Cell h1 [] (((AH x.v).add (1*2)).add 1) (.w x.c.sd[1].2):=hX.cell hl1 (f:=1) Y;refine AP (oF BU Y) Y Y Y Y<|AP (oL Y Da<|hA _ _ Y _) Y Y Y Y<|AP (BC (0) hX.rd.any Y Da BX Y Y) Y Y Y Y<|AP (oF Eg Y) Y Y Y Y<|AP (oL Y U3<|hc0) Y Y Y Y<|AP (oF BU Y) Y Y Y Y<|AP (oL Y Da<|hA _ _ Y _) Y Y Y Y<|AP (BC (1) hX.rd.any Y Da BX Y Y) Y Y Y Y<|AP (oF Eg Y) Y Y Y Y<|AP (oL Y U3<|hc1) Y Y Y Y<|Bu<|Qg (Cq Y Y Y) Y<|Qm Y<|Am ?_;refine Aw Y (λd2=>?_)<|λd2=>?_
       ·refine Ac<|Ad<|Qm Y<|Am<|Aj<|Ae ?_;exact Al Y Y (by unfold CM;rw[ae hd,ae hnb,ae hs2,ae hs3,ah ⟨d1,by rw[hs0,hs1];exact d2⟩])
       ·refine Ah<|Ab<|Ar<|Qm Y<|Am<|Aj ?_;exact Al Y Y (by unfold CM;rw[ae hd,ae hnb,ae hs2,ae hs3,ae (λq=>d2 (by have:=q.2;rwa [hs0,hs1]at this))])
      ·refine AG Y Y Y Y Y<|AG Y Y Y Y Y<|AG Y Y Y Y Y<|AG Y Y Y Y Y<|AG Y Y Y Y Y<|AG Y Y Y Y Y<|AG Y Y Y Y Y<|AG Y Y Y Y Y<|AG Y Y Y Y Y<|AG Y Y Y Y Y<|Bu<|Qk Y<|Qm Y<|Am<|AL Y<|Ah<|Ab<|Ar<|Qm Y<|Am<|Aj ?_;exact Al Y Y (by unfold CM;rw[ae hd,ae hnb,ae hs2,ae hs3,ae (λq=>d1 q.1)])
section
variable {n T i k m:Nat} {l pa:List Int} {now old w:Int}
def EX(l:List Int)(x:Int):Nat:=(l.takeWhile λy=>decide (y≠x)).length
theorem Rr(l:List Int)(x:Int):EX l x<=l.length:=(List.takeWhile_sublist _).length_le
theorem RE{x:Int}(hk:k<=l.length)(h1:∀j (hj:j<l.length),j<k->l[j]≠x)(h2:∀hk:k<l.length,l[k]=x):EX l x=k:=by obtain⟨e1,_⟩:=EZ (λy:Int=>decide (y≠x)) l k hk (λj hj hjk=>bq (h1 j hj hjk)) (λhk=>cg (λq=>q (h2 hk)));unfold EX;rw[e1,ay];omega
def Gg(pa:List Int)(m:Nat)(now old:Int):List Int:=pa.mapIdx λj p=>if j<m/\p=now then old else p
theorem DV(pa:List Int)(m:Nat)(now old:Int):(Gg pa m now old).length=pa.length:=by simp[Gg]
theorem Fs{j:Nat}(hj:j<pa.length):(Gg pa m now old)[j]'(by rw[DV];exact hj)=if j<m/\pa[j]=now then old else pa[j]:=by simp[Gg]
theorem Wc(pa:List Int)(now old:Int):Gg pa 0 now old=pa:=by refine fw (by rw[DV]) λj h1 h2=>?_;rw[Fs h2,ae (λq=>ω)]
theorem Z4(hm:m<pa.length)(h:pa[m]=now):(Gg pa m now old).set m old=Gg pa (m+1) now old:=by
 refine fw (by rw[ff,DV,DV]) λj h1 h2=>?_;rw[DV]at h2;rw[List.getElem_set];by_cases e:m=j
 ·subst e;rw[ah rfl,Fs h2,ah ⟨ω,h⟩]
 ·rw[ae e,Fs h2,Fs h2];by_cases h3:j<m
  ·simp only[h3,true_and,show j<m+1 by omega]
  ·rw[ae (λq=>h3 q.1),ae (λq=>ω)]
theorem Acz(hm:m<pa.length)(h:pa[m]≠now):Gg pa m now old=Gg pa (m+1) now old:=by
 refine fw (by rw[DV,DV]) λj h1 h2=>?_;rw[DV]at h2;rw[Fs h2,Fs h2];by_cases e:m=j
 ·subst e;rw[ae (λq=>ω),ae (λq=>h q.2)]
 ·by_cases h3:j<m
  ·simp only[h3,true_and,show j<m+1 by omega]
  ·rw[ae (λq=>h3 q.1),ae (λq=>ω)]
structure S2 where
 ids:List Int
 su:List Int
 ma:List Int
 fi:List Int
 pa:List Int
def S2.add(S:S2)(i:Nat)(id:Int):S2:=if EX S.ids id=S.ids.length then⟨S.ids++[id],S.su++[0],S.ma++[0],S.fi++[(i:Int)],S.pa⟩ else S
def S2.hit(S:S2)(i k:Nat)(w:Int):S2:=⟨S.ids,S.su.set k (S.su.getD k 0+w),S.ma.set k (S.ma.getD k 0+1),S.fi,Gg S.pa (i+1) (S.pa.getD i 0) (S.pa.getD (S.fi.getD k 0).toNat 0)⟩
def S2.side(S:S2)(i:Nat)(w:Int)(r:Int×Int):S2:=(S.add i r.1).hit i (EX S.ids r.1) (w*r.2)
def S2.sides(S:S2)(i:Nat)(w:Int)(l:List (Int×Int)):S2:=l.foldl (λS r=>S.side i w r) S
theorem S2.sides_snoc(S:S2)(i:Nat)(w:Int)(l:List (Int×Int))(r:Int×Int):S.sides i w (l++[r])=(S.sides i w l).side i w r:=by unfold S2.sides;rw[foldl_append];rfl
def S2.start(S:S2)(i:Nat):S2:=⟨S.ids,S.su,S.ma,S.fi,S.pa.set i (i:Int)⟩
def Gc(l:List Cl)(x:Cl)(i:Nat):Cl:=l.getD (K2 l (Bm x i).1).toNat default
def HT(l:List Cl)(x:Cl):Nat->S2
 | 0=>⟨[],[],[],[],List.replicate x.sd.length 0⟩
 | i+1=>((HT l x i).start i).sides i (Bm x i).2 (Gc l x i).sd
def ER(l:List Cl)(x:Cl):Int:=
 if ¬∀y∈(HT l x x.sd.length).su,y=0 then 24
 else if ¬∀y∈(HT l x x.sd.length).ma,y=2 then 25
 else if ¬∀y∈(HT l x x.sd.length).pa,y=(HT l x x.sd.length).pa.getD 0 0 then 25 else 0
structure S2.Ok(S:S2)(T n:Nat):Prop where
 s:S.su.length=S.ids.length
 m:S.ma.length=S.ids.length
 f:S.fi.length=S.ids.length
 p:S.pa.length=n
 t:S.ids.length<=T
 sb:∀y∈S.su,-(T:Int)<=y/\y<=T
 mb:∀y∈S.ma,0<=y/\y<=T
 fb:∀y∈S.fi,0<=y/\y<n
theorem HY{a y:Int}(h:y∈l++[a]):y∈l\/y=a:=by
 rcases bj.1 h with h|h
 ·exact .inl h
 ·exact .inr<|bm.1 h
theorem S2.Ok.add{S:S2}(K:S.Ok T n)(hi:i<n)(id:Int):(S.add i id).Ok (T+1) n/\EX S.ids id<(S.add i id).ids.length:=by
 have hf:=Rr S.ids id;unfold S2.add;split
 ·rename_i h;refine⟨⟨by simp[K.s],by simp[K.m],by simp[K.f],K.p,by simp[K.t],λy hy=>?_,λy hy=>?_,λy hy=>?_⟩,by rw[af,ab];omega⟩
  ·rcases HY hy with h|rfl
   ·have:=K.sb y h;omega
   ·omega
  ·rcases HY hy with h|rfl
   ·have:=K.mb y h;omega
   ·omega
  ·rcases HY hy with h|rfl
   ·exact K.fb y h
   ·omega
 ·rename_i h;exact⟨⟨K.s,K.m,K.f,K.p,by have:=K.t;omega,λy hy=>by have:=K.sb y hy;omega,λy hy=>by have:=K.mb y hy;omega,K.fb⟩,ω⟩
theorem Rk(hk:k<l.length):l.getD k 0∈l:=by simp[List.getD,hk]
theorem S2.Ok.hit{S:S2}(K:S.Ok (T+1) n){U:S2}(KU:U.Ok T n)(hsu:∀y∈S.su,-(T:Int)<=y/\y<=T)(hma:∀y∈S.ma,0<=y/\y<=T)(hk:k<S.ids.length)(hw:w=1\/w=-1):(S.hit i k w).Ok (T+1) n:=by
 have h1:=hsu _ (Rk (show k<S.su.length by rw[K.s];exact hk));have h2:=hma _ (Rk (show k<S.ma.length by rw[K.m];exact hk));refine⟨by show(List.set _ _ _).length=_;rw[ff];exact K.s,by show(List.set _ _ _).length=_;rw[ff];exact K.m,K.f,by show(Gg _ _ _ _).length=_;rw[DV];exact K.p,K.t,λy hy=>?_,λy hy=>?_,K.fb⟩
 ·rcases List.mem_or_eq_of_mem_set hy with h|rfl
  ·exact K.sb y h
  ·rcases hw with rfl|rfl<;>omega
 ·rcases List.mem_or_eq_of_mem_set hy with h|rfl
  ·exact K.mb y h
  ·omega
theorem S2.add_su{S:S2}(K:S.Ok T n)(i:Nat)(id:Int):(∀y∈(S.add i id).su,-(T:Int)<=y/\y<=T)/\∀y∈(S.add i id).ma,0<=y/\y<=T:=by
 unfold S2.add;split
 ·refine⟨λy hy=>?_,λy hy=>?_⟩
  ·rcases HY hy with h|rfl
   ·exact K.sb y h
   ·omega
  ·rcases HY hy with h|rfl
   ·exact K.mb y h
   ·omega
 ·exact⟨K.sb,K.mb⟩
theorem S2.Ok.side{S:S2}(K:S.Ok T n)(hi:i<n){r:Int×Int}(hw:w*r.2=1\/w*r.2=-1):(S.side i w r).Ok (T+1) n:=
 S2.Ok.hit (K.add hi r.1).1 K (S2.add_su K i r.1).1 (S2.add_su K i r.1).2 (K.add hi r.1).2 hw
theorem S2.Ok.start{S:S2}(K:S.Ok T n):(S.start i).Ok T n:=⟨K.s,K.m,K.f,by show(List.set _ _ _).length=n;rw[ff];exact K.p,K.t,K.sb,K.mb,K.fb⟩
theorem Qn{a b:Int}(ha:a=1\/a=-1)(hb:b=1\/b=-1):a*b=1\/a*b=-1:=by rcases ha with rfl|rfl<;>rcases hb with rfl|rfl<;>decide
theorem S2.Ok.sides(hi:i<n)(hw:w=1\/w=-1):∀(l:List (Int×Int)) (S:S2) (T:Nat),S.Ok T n->(∀r∈l,r.2=1\/r.2=-1)->(S.sides i w l).Ok (T+l.length) n
 | [],S,T,K,_=>K
 | r::l,S,T,K,h=>by have:=S2.Ok.sides hi hw l (S.side i w r) (T+1) (K.side hi (Qn hw (h r Mh))) (fun r hr=>h r (mem_cons_of_mem _ hr));rw[length_cons,show T+(l.length+1)=T+1+l.length by omega];exact this
end
end Go.Proofs.Q