/- A part of the proof. -/
import Derived.Test.YtmgaeedkcecckaaGreatDoorSB
set_option linter.unusedSimpArgs false
set_option linter.unusedVariables false
set_option linter.unusedSectionVars false
set_option maxRecDepth 100000
set_option maxHeartbeats 4000000
open List (length_map getElem_mem replicate range nil_append mem_cons map_append mem_cons_self mem_cons_of_mem map_map map_cons getElem_map length_cons mem_append_left map_congr_left sum_cons sum_append)
namespace Go.Eng
open Go.RowKit
theorem Ab0{P:Program}{Q:World}{O:Hp}{f:List Hp}{n:Nat}{M:Func}{b:Value->Hp->List Hp->Prop}{s:AG}{h:Hp}{t l:Nat}{i el:TypeId}{g k:Nat}{d:TypeDesc}{sz:Nat}{z:Value}{c:Nat}{vs vs2:List Value}
  (hr:M.results=#[.cell t i,.cell l i]) (hv:lk s t=some (.pt g)) (A:lk s l=some (.pt k)) (ht:P.underlying i=some d) (S:Iv d=true) (hs:Elem P i sz z c) (T:vs.length=sz) (y:vs2.length=sz)
  (hp:b (.tuple #[.agg vs.toArray,.agg vs2.toArray]) h []) :
  NX ⟨P,Q,O,f,n,[]⟩ (bodyPost P M (RP Q O f b)) .ret s h [BE g el vs,BE k el vs2]:=λa w p B=>by
 have R:a.tmps[t]?.getD undef=.pt g:=by rw[p.slots t _ hv];rfl
 have m:a.tmps[l]?.getD undef=.pt k:=by rw[p.slots l _ A];rfl
 have r:(isAgg i).run P w=.ok true w:=by rw[Dn ht,S]
 have u:∀j v,vs[j]?=some v->w.cell? ((⟨g,0,none⟩:Addr).add j)=some v:=λj v e=>B.st.cell (Seg.blk (el:=el) 0 Y j v e);have x:∀j v,vs2[j]?=some v->w.cell? ((⟨k,0,none⟩:Addr).add j)=some v:=λj v e=>B.st.cell (Seg.blk (el:=el) 1 Y j v e);refine kb (v:=.tuple #[.agg vs.toArray,.agg vs2.toArray]) ?_ p.defers ⟨_,h,_,Y,Ends.drop<|Ends.drop B,hp⟩;have K:=gq (P:=P) w _ vs u;have L:=gq (P:=P) w _ vs2 x;rw[T]at K;rw[y]at L;simp[results,hr,R,m,asAddr,loadVar,r,hs.sizeOf,K,L]
theorem ZM{P:Program}{w0:World}{h0:Hp}{k:List Hp}{n:Nat}{fn:Func}{b:Value->Hp->List Hp->Prop}{s:AG}{h:Hp}{t u x:Nat}{f el:TypeId}{g l m:Nat}{d:TypeDesc}{sz:Nat}{z:Value}{c:Nat}{vs vs2 vs3:List Value}
  (hr:fn.results=#[.cell t f,.cell u f,.cell x f]) (hv:lk s t=some (.pt g)) (Q:lk s u=some (.pt l)) (R:lk s x=some (.pt m)) (ht:P.underlying f=some d) (hd:Iv d=true) (hs:Elem P f sz z c) (hl:vs.length=sz) (M:vs2.length=sz) (O:vs3.length=sz)
  (hp:b (.tuple #[.agg vs.toArray,.agg vs2.toArray,.agg vs3.toArray]) h []) :
  NX ⟨P,w0,h0,k,n,[]⟩ (bodyPost P fn (RP w0 h0 k b)) .ret s h [BE g el vs,BE l el vs2,BE m el vs3]:=λa w p r=>by
 have h1:a.tmps[t]?.getD undef=.pt g:=by rw[p.slots t _ hv];rfl
 have y:a.tmps[u]?.getD undef=.pt l:=by rw[p.slots u _ Q];rfl
 have i:a.tmps[x]?.getD undef=.pt m:=by rw[p.slots x _ R];rfl
 have A:(isAgg f).run P w=.ok true w:=by rw[Dn ht,hd]
 have B:∀j v,vs[j]?=some v->w.cell? ((⟨g,0,none⟩:Addr).add j)=some v:=λj v e=>r.st.cell (Seg.blk (el:=el) 0 Y j v e);have K:∀j v,vs2[j]?=some v->w.cell? ((⟨l,0,none⟩:Addr).add j)=some v:=λj v e=>r.st.cell (Seg.blk (el:=el) 1 Y j v e);have L:∀j v,vs3[j]?=some v->w.cell? ((⟨m,0,none⟩:Addr).add j)=some v:=λj v e=>r.st.cell (Seg.blk (el:=el) 2 Y j v e);refine kb (v:=.tuple #[.agg vs.toArray,.agg vs2.toArray,.agg vs3.toArray]) ?_ p.defers ⟨_,h,_,Y,Ends.drop<|Ends.drop<|Ends.drop r,hp⟩;have S:=gq (P:=P) w _ vs B;have T:=gq (P:=P) w _ vs2 K;have e3:=gq (P:=P) w _ vs3 L;rw[hl]at S;rw[M]at T;rw[O]at e3;simp[results,hr,h1,y,i,asAddr,loadVar,A,hs.sizeOf,S,T,e3]
end Go.Eng
namespace Go.Sm
open Go.Lin
variable {n B c t m:Nat} {M:List (List Int)}
structure FS where
 (u ui d v vi:List (List Int))
structure FS.Ok(n m B:Nat)(S:FS):Prop where
 su:Shape n n S.u
 sui:Shape n n S.ui
 sd:Shape n m S.d
 sv:Shape m m S.v
 svi:Shape m m S.vi
 bu:BqM B S.u
 bui:BqM B S.ui
 bd:BqM B S.d
 bv:BqM B S.v
 bvi:BqM B S.vi
def Tn.bk(t:Tn):Tn:=⟨t.d,-t.c,-t.b,t.a⟩
theorem BqT.bk{t:Tn}(h:BqT t):BqT t.bk:=⟨h.2.2.2,h.2.2.1.neg,h.2.1.neg,h.1⟩
theorem BqT.back{t:Tn}(h:BqT t):BqT ⟨t.d,-t.b,-t.c,t.a⟩:=⟨h.2.2.2,h.2.1.neg,h.2.2.1.neg,h.1⟩
def FS.rop(n m i k:Nat)(t:Tn)(S:FS):FS:={ S with d:=FH i k t S.d m,u:=FH i k t S.u n,ui:=FL i k t.bk S.ui n }
def FS.cop(n m i k:Nat)(t:Tn)(S:FS):FS:={ S with d:=FL i k t S.d n,v:=FL i k t S.v m,vi:=FH i k t.bk S.vi m }
theorem BqM.mono{C:Nat}(h:BqM B M)(a:B<=C):BqM C M:=λi j=>(h i j).mono a
theorem FS.Ok.mono{C:Nat}{S:FS}(h:S.Ok n m B)(a:B<=C):S.Ok n m C:=
 ⟨h.su,h.sui,h.sd,h.sv,h.svi,h.bu.mono a,h.bui.mono a,h.bd.mono a,h.bv.mono a,h.bvi.mono a⟩
theorem FS.Ok.rop{S:FS}(h:S.Ok n m B){i k:Nat}{t:Tn}(e:BqT t)(b:i<n)(d:k<n)(a:i≠k):(S.rop n m i k t).Ok n m (B+33):=
 ⟨h.su.rows _ _ _ _,h.sui.cols _ _ _ _,h.sd.rows _ _ _ _,h.sv,h.svi,h.bu.rows h.su e b d a (ak _),h.bui.cols h.sui e.bk b d a (ak _),h.bd.rows h.sd e b d a (ak _),h.bv.mono Z,h.bvi.mono Z⟩
theorem FS.Ok.cop{S:FS}(h:S.Ok n m B){i k:Nat}{t:Tn}(e:BqT t)(b:i<m)(d:k<m)(a:i≠k):(S.cop n m i k t).Ok n m (B+33):=
 ⟨h.su,h.sui,h.sd.cols _ _ _ _,h.sv.cols _ _ _ _,h.svi.rows _ _ _ _,h.bu.mono Z,h.bui.mono Z,h.bd.cols h.sd e b d a (ak _),h.bv.cols h.sv e b d a (ak _),h.bvi.rows h.svi e.bk b d a (ak _)⟩
def negRow(t:Nat)(M:List (List Int)):Nat->List (List Int)
 | 0=>M
 | q+1=>F9 (negRow t M q) t q (-(AP (negRow t M q) t q))
def negCol(t:Nat)(M:List (List Int)):Nat->List (List Int)
 | 0=>M
 | q+1=>F9 (negCol t M q) q t (-(AP (negCol t M q) q t))
theorem Shape.negRow(S:Shape n c M)(t:Nat):∀q,Shape n c (negRow t M q)
 | 0=>S
 | q+1=>(S.negRow t q).set _ _ _
theorem Shape.negCol(S:Shape n c M)(t:Nat):∀q,Shape n c (negCol t M q)
 | 0=>S
 | q+1=>(S.negCol t q).set _ _ _
theorem Fp(S:Shape n c M)(f:t<n):∀q,q<=c->∀a b,AP (negRow t M q) a b=if a=t/\b<q then -(AP M a b) else AP M a b
 | 0,_,a,b=>by rw[af Z];rfl
 | q+1,hq,a,b=>by
  have g:=Fp S f q Z;show AP (F9 _ _ _ _) a b=_;rw[Jj (S.negRow t q) _ f Z,g t q,g a b,af (show ¬(t=t/\q<q) by omega)];by_cases e:a=t/\b=q
  .obtain⟨rfl,rfl⟩:=e;rw[ah ⟨rfl,rfl⟩,ah ⟨rfl,Z⟩]
  .rw[af e];by_cases d:a=t/\b<q
   .rw[ah d,ah ⟨d.1,Z⟩]
   .rw[af d,af Z]
theorem HV(S:Shape n c M)(f:t<c):∀q,q<=n->∀a b,AP (negCol t M q) a b=if b=t/\a<q then -(AP M a b) else AP M a b
 | 0,_,a,b=>by rw[af Z];rfl
 | q+1,hq,a,b=>by
  have g:=HV S f q Z;show AP (F9 _ _ _ _) a b=_;rw[Jj (S.negCol t q) _ Z f,g q t,g a b,af (show ¬(t=t/\q<q) by omega)];by_cases e:a=q/\b=t
  .obtain⟨rfl,rfl⟩:=e;rw[ah ⟨rfl,rfl⟩,ah ⟨rfl,Z⟩]
  .rw[af e];by_cases d:b=t/\a<q
   .rw[ah d,ah ⟨d.1,Z⟩]
   .rw[af d,af Z]
theorem BqM.negRow(h:BqM B M)(S:Shape n c M){q:Nat}(e:t<n)(d:q<=c):BqM B (negRow t M q):=λa b=>by
 rw[Fp S e q d];split
 .exact(h a b).neg
 .exact h a b
theorem BqM.negCol(h:BqM B M)(S:Shape n c M){q:Nat}(e:t<c)(d:q<=n):BqM B (negCol t M q):=λa b=>by
 rw[HV S e q d];split
 .exact(h a b).neg
 .exact h a b
def FS.neg(n m t:Nat)(S:FS):FS:={ S with d:=negRow t S.d m,u:=negRow t S.u n,ui:=negCol t S.ui n }
theorem FS.Ok.neg{S:FS}(h:S.Ok n m B)(a:t<n):(S.neg n m t).Ok n m B:=
 ⟨h.su.negRow _ _,h.sui.negCol _ _,h.sd.negRow _ _,h.sv,h.svi,h.bu.negRow h.su a (ak _),h.bui.negCol h.sui a (ak _),h.bd.negRow h.sd a (ak _),h.bv,h.bvi⟩
structure St where
 S:FS
 b:Nat
def Uf(x:Int):Bool:=Nat.blt x.natAbs 2147483648
def St.row(n m i k:Nat)(t:Tn)(s:St):Option St:=if Nat.blt s.b 20000 then some ⟨s.S.rop n m i k t,s.b+1⟩ else none
def St.col(n m i k:Nat)(t:Tn)(s:St):Option St:=if Nat.blt s.b 20000 then some ⟨s.S.cop n m i k t,s.b+1⟩ else none
def Mj(op:Tn->Option St)(x y:Int)(s:St):Option (St×Bool):=
 if y=0 then some (s,false)
 else if x=0\/Uf x=false\/Uf y=false then none
 else if y%x=0 then(op ⟨1,0,-(y/x),1⟩).map (·,false)
 else if x.natAbs=2/\y.natAbs=1 then(op ⟨0,y,-y,x⟩).map (·,true)
 else none
def Fa(n m t:Nat):Nat->Nat->St->Option St   -- fuel,row
 | 0,_,s=>some s
 | f+1,i,s=>match Mj (λT=>s.row n m t i T) (AP s.S.d t t) (AP s.S.d i t) s with
  | none=>none
  | some (s',_)=>Fa n m t f (i+1) s'
def DN(n m t:Nat):Nat->Nat->Bool->St->Option (St×Bool)
 | 0,_,c,s=>some (s,c)
 | f+1,j,c,s=>match Mj (λT=>s.col n m t j T) (AP s.S.d t t) (AP s.S.d t j) s with
  | none=>none
  | some (s',c')=>DN n m t f (j+1) (c||c') s'
def pass(n m t:Nat)(s:St):Option (St×Bool):=match Fa n m t (n-(t+1)) (t+1) s with
 | none=>none
 | some s'=>DN n m t (m-(t+1)) (t+1) false s'
def Dy(n m t:Nat):Nat->St->Option St
 | 0,_=>none
 | f+1,s=>match pass n m t s with
  | none=>none
  | some (s',true)=>Dy n m t f s'
  | some (s',false)=>some s'
def NQ(M:List (List Int))(n j:Nat):Nat->Nat->Option Nat
 | 0,_=>none
 | f+1,i=>if AP M i j≠0 then some i else NQ M n j f (i+1)
def Iq(M:List (List Int))(n t:Nat):Nat->Nat->Option (Nat×Nat)
 | 0,_=>none
 | f+1,j=>match NQ M n j (n-t) t with
  | some i=>some (i,j)
  | none=>Iq M n t f (j+1)
def swp:Tn:=⟨0,1,-1,0⟩
def EK(n m t:Nat)(s:St):Option (St×Bool):=match Iq s.S.d n t (m-t) t with
 | none=>some (s,false)
 | some (i,j)=>match (if i=t then some s else s.row n m t i swp) with
  | none=>none
  | some s1=>match (if j=t then some s1 else s1.col n m t j swp) with
   | none=>none
   | some s2=>some (s2,true)
def TW(M:List (List Int))(t i:Nat)(p:Int):Nat->Nat->Bool
 | 0,_=>true
 | f+1,j=>decide (AP M i j%p=0)&&TW M t i p f (j+1)
def L2(M:List (List Int))(m t:Nat)(p:Int):Nat->Nat->Bool
 | 0,_=>true
 | f+1,i=>TW M t i p (m-(t+1)) (t+1)&&L2 M m t p f (i+1)
def IR(n m t:Nat)(s:St):Option St:=match Dy n m t 10 s with
 | none=>none
 | some s1=>if AP s1.S.d t t=0\/Uf (AP s1.S.d t t)=false then none
  else if L2 s1.S.d m t (AP s1.S.d t t) (n-(t+1)) (t+1) then
   (if AP s1.S.d t t<0 then some ⟨s1.S.neg n m t,s1.b⟩ else some s1)
  else none
def D8(n m:Nat):Nat->Nat->St->Option St
  | 0,_,s=>some s
  | f+1,t,s=>if t<min n m then(match EK n m t s with
      | none=>none
      | some (s1,false)=>some s1
      | some (s1,true)=>match IR n m t s1 with
        | none=>none
        | some s2=>D8 n m f (t+1) s2)
    else some s
end Go.Sm
namespace Go.Sm
variable {n m t:Nat} {s s':St}
theorem St.row_b{i k:Nat}{t:Tn}(h:s.row n m i k t=some s'):s'.b<=20000:=by
 grind [St.row,jy,ay]
theorem St.col_b{i k:Nat}{t:Tn}(h:s.col n m i k t=some s'):s'.b<=20000:=by
 grind [St.col,jy,ay]
theorem AfN{e:Tn->Option St}{x y:Int}{c:Bool}(b:∀T s',e T=some s'->s'.b<=20000)(f:s.b<=20000)(h:Mj e x y s=some (s',c)):s'.b<=20000:=by
 grind [Mj,ay,ff]
theorem Yg:∀{f i:Nat} {s s':St},s.b<=20000->Fa n m t f i s=some s'->s'.b<=20000
 | 0,i,s,s',hs,h=>by have h:=ay h;simp_all
 | f+1,i,s,s',hs,h=>by
  unfold Fa at h;split at h
  .cases h
  .rename_i a c e;exact Yg (AfN (λT s' q=>St.row_b q) hs e) h
theorem Yp:∀{f j:Nat} {c a:Bool} {s s':St},s.b<=20000->DN n m t f j c s=some (s',a)->s'.b<=20000
 | 0,j,c,a,s,s',hs,h=>by have h:=ay h;simp_all
 | f+1,j,c,a,s,s',hs,h=>by
  unfold DN at h;split at h
  .cases h
  .rename_i d b e;exact Yp (AfN (λT s' q=>St.col_b q) hs e) h
theorem UT:∀{f:Nat} {s s':St},s.b<=20000->Dy n m t f s=some s'->s'.b<=20000
 | 0,s,s',hs,h=>by cases h
 | f+1,s,s',hs,h=>by
  unfold Dy pass at h;cases e1:Fa n m t (n-(t+1)) (t+1) s with
  | none=>simp_all
  | some s1=>
   rw[e1]at h;have b:=Yg hs e1;simp only at h;cases e2:DN n m t (m-(t+1)) (t+1) false s1 with
   | none=>simp_all
   | some p=>
    obtain⟨d,c⟩:=p;rw[e2]at h;have a:=Yp b e2;cases c with
    | true=>exact UT a h
    | false=>have h:=ay h;subst h;exact a
theorem Adc{r:Bool}(c:s.b<=20000)(h:EK n m t s=some (s',r)):s'.b<=20000:=by
 grind [EK,Iq,ay,swp,St.row_b,St.col_b]
end Go.Sm
namespace Go.Sm
open Go.Eng Go.RowKit Go.Lin
variable {c B r:Nat} {S:FS}
theorem flat_at?:∀(M:List (List Int)),(∀l∈M,l.length=c)->∀k,k<M.length*c->M.flatten[k]?=some ((M.getD (k/c) []).getD (k%c) 0)
 | [],_,k,h=>by simp at h
 | l::M,hr,k,h=>by
  have b:l.length=c:=hr l ao
  have d:0<c:=by
   rcases ja c with e|e
   .simp_all
   .exact e
  rw[List.flatten_cons];by_cases a:k<c
  .grind [fc,gc,dv,List.getD]
  .have a:c<=k:=Z
   rw[de,dq,gn]at h;rw[kc Z,b,flat_at? M (λl h=>hr l (am _ h)) (k-c) Z,Nat.div_eq_sub_div d a,Nat.mod_eq_sub_mod a];simp_all
theorem Shape.lens{n:Nat}{M:List (List Int)}(S:Shape n c M):∀l∈M,l.length=c:=λl b=>by obtain⟨i,a,rfl⟩:=ef.1 b;have:=S.row i (by have:=S.len;omega);simp_all
theorem Shape.flat{n:Nat}{M:List (List Int)}(S:Shape n c M):M.flatten=Eb n c (AP M):=by
 refine ic λk=>?_;by_cases a:k<n*c
 .rw[mat_at? a,flat_at? M S.lens k (by rw[S.len];exact a)];rfl
 .have b:M.flatten.length=n*c:=by
   have:∀(M:List (List Int)),(∀l∈M,l.length=c)->M.flatten.length=M.length*c:=by
    intro M
    induction M with
    | nil=>intro _;simp
    | cons l M ih=>intro h;rw[List.flatten_cons,ag,ih λl q=>h l (am _ q),h l ao,de,dq,gn,ij]
   rw[this M S.lens,S.len]
  grind [fk,Ci]
theorem Kz{g:Nat->Int}:∀(k:Nat),(∀t,t<k->Bq B (g t))->Bq (B+k) (sm k g)
 | 0,_=>Bq.zero _
 | k+1,h=>by have a:=Kz k λt d=>h t Z;have b:=(h k Z).mono (show B<=B+k by omega);exact(a.add b).mono Z
theorem FS.Ok.mu(O:S.Ok r c B):S.u.flatten=Eb r r (AP S.u):=O.su.flat
theorem FS.Ok.md(O:S.Ok r c B):S.d.flatten=Eb r c (AP S.d):=O.sd.flat
theorem FS.Ok.mv(O:S.Ok r c B):S.v.flatten=Eb c c (AP S.v):=O.sv.flat
end Go.Sm
namespace Go.Eng
open Go.RowKit
variable {s:AG} {h h0:Hp} {P:Program} {w0:World} {ms0 ms:List Hp} {n:Nat} {fn:Func} {post:Value->Hp->List Hp->Prop}
theorem Pz{t K L:Nat}{ty f k el c By:TypeId}{g l r:Nat}{d d2 d3:TypeDesc}{sz:Nat}{z m p:Value}{i:Nat}{b:List Value}
  (hr:fn.results=#[.cell t ty,.cell K f,.cell L k]) (hv:lk s t=some (.pt g)) (hv2:lk s K=some (.pt l)) (hv3:lk s L=some (.pt r)) (ht:P.underlying ty=some d) (hd:Iv d=false) (ht2:P.underlying f=some d2) (R:Iv d2=true) (hs:Elem P f sz z i) (T:b.length=sz) (ht3:P.underlying k=some d3) (S:Iv d3=false)
  (hp:post (.tuple #[m,.agg b.toArray,p]) h []) :
  NX ⟨P,w0,h0,ms0,n,[]⟩ (bodyPost P fn (RP w0 h0 ms0 post)) .ret s h [BE r By [p],BE l c b,BE g el [m]]:=λa w A B=>by
 have h1:a.tmps[t]?.getD undef=.pt g:=by rw[A.slots t _ hv];rfl
 have M:a.tmps[K]?.getD undef=.pt l:=by rw[A.slots K _ hv2];rfl
 have u:a.tmps[L]?.getD undef=.pt r:=by rw[A.slots L _ hv3];rfl
 have O:(isAgg ty).run P w=.ok false w:=by rw[Dn ht,hd]
 have x:(isAgg f).run P w=.ok true w:=by rw[Dn ht2,R]
 have y:(isAgg k).run P w=.ok false w:=by rw[Dn ht3,S]
 have c1:=B.st.cell (Cell.blk0 (el:=el) (h:=h) (ms:=[BE r By [p],BE l c b,BE g el [m]]) 2 Y (l:=[m]) Y);have c3:=B.st.cell (Cell.blk0 (el:=By) (h:=h) (ms:=[BE r By [p],BE l c b,BE g el [m]]) 0 Y (l:=[p]) Y);have Q:∀j v,b[j]?=some v->w.cell? ((⟨l,0,none⟩:Addr).add j)=some v:=λj v e=>B.st.cell (Seg.blk (el:=c) 1 Y j v e);refine kb (v:=.tuple #[m,.agg b.toArray,p]) ?_ A.defers ⟨_,h,_,Y,Ends.drop<|Ends.drop<|Ends.drop B,hp⟩;have e2:=gq (P:=P) w _ b Q;rw[T]at e2;simp[results,hr,h1,M,u,asAddr,loadVar,O,x,y,hs.sizeOf,c1,e2,c3]
theorem Ad9{e:Entry}{id:Nat}{l:List Oper}{Q:Exit->Act->World->Prop}(b:Nat)(j:e.P.follows .mixedOrders=true)(m:Vw [] l.toArray b=true)(g:LR e.n (l.take b) s=true)(d:JX l=true)
  (k:WR e l.toArray Q (l.drop b) h ms (l.take b) s [] []):RS e (.region id l.toArray true) Q s h ms:=by
 intro _ _ a w f r p;refine wpIn_region_any j<|Ads p d _ _ _ _<|TS b m g k σ (λi=>by rw[CA];rfl) (λi o c=>by rw[CA]at c;cases c) (λi c=>by cases c) ?_ f r;grind [left,Array.toList_replicate,bl,List.countP_le_length]
theorem PT{t a b g:Nat}{l el:TypeId}{d:TypeDesc}{sz:Nat}{z m p:Value}{c:Nat}{f:List Value}
  (i:Nat) (T:fn.results=#[.tmp a,.cell t l,.tmp b]) (y:lk s a=some m) (hv:lk s t=some (.pt g)) (A:lk s b=some p) (ht:P.underlying l=some d) (Q:Iv d=true) (hs:Elem P l sz z c) (R:f.length=sz) (B:ms[i]?=some (BE g el f)) (S:post (.tuple #[m,.agg f.toArray,p]) h (ms.eraseIdx i)) :
  NX ⟨P,w0,h0,ms0,n,[]⟩ (bodyPost P fn (RP w0 h0 ms0 post)) .ret s h ms:=λx w k K=>by
 have L:x.tmps[t]?.getD undef=.pt g:=by rw[k.slots t _ hv];rfl
 have M:x.tmps[a]?.getD undef=m:=by rw[k.slots a _ y];rfl
 have O:x.tmps[b]?.getD undef=p:=by rw[k.slots b _ A];rfl
 have r:(isAgg l).run P w=.ok true w:=by rw[Dn ht,Q]
 have u:∀j v,f[j]?=some v->w.cell? ((⟨g,0,none⟩:Addr).add j)=some v:=λj v e=>K.st.cell (Seg.blk i B j v e);refine kb (v:=.tuple #[m,.agg f.toArray,p]) ?_ k.defers ⟨_,h,_,Y,Ends.erase K B,S⟩;subst R;simp[results,T,L,M,O,asAddr,loadVar,r,hs.sizeOf,gq (P:=P) w _ f u]
theorem Zt{x:Exit}(d:x=.normal\/x=.ret)(k:NX ⟨P,w0,h0,ms0,n,[]⟩ (bodyPost P fn (RP w0 h0 ms0 post)) x s h ms) :
  NX ⟨P,w0,h0,ms0,n,[]⟩ (bodyPostM Fence.wide 0 P fn (RP w0 h0 ms0 post)) x s h ms:=by
 intro a w c j;have f:=k a w c j;have g:a.defers=[]:=c.defers
 have b:LeavesInM Fence.wide 0 P fn a.tmps (RP w0 h0 ms0 post) a.defers .returning w:=by rw[g];rcases d with rfl|rfl<;>· obtain⟨_,v,i,e⟩:=f;exact⟨v,i,e⟩
 rcases d with rfl|rfl<;>exact b
end Go.Eng
namespace Go.Ch
open Go.Eng Go.Sm
variable {f:Int->Int}
abbrev Tm:=Int×Int
def tv(T:List Tm)(c:Int):Int:=(BO T c).getD 0
def Lj(T:List Tm)(c n:Int):List Tm:=DG T c (tv T c+n)
theorem Ae6(T:List Tm)(c n b:Int):tv (DG T c n) b=if b=c then n else tv T b:=by grind [tv,Gk]
theorem Aeb(T:List Tm)(c n b:Int):tv (Lj T c n) b=tv T b+if b=c then n else 0:=by
 grind [Lj,Ae6]
def JW(l:List Tm):List Tm:=l.foldl (λT p=>Lj T p.1 p.2) []
theorem KC(l:List Tm)(p:Tm):JW (l++[p])=Lj (JW l) p.1 p.2:=by grind [JW]
def cf(l:List Tm)(c:Int):Int:=(l.map λp=>if p.1=c then p.2 else 0).sum
theorem Ka(c:Int):cf [] c=0:=rfl
theorem CN(p:Tm)(l:List Tm)(c:Int):cf (p::l) c=(if p.1=c then p.2 else 0)+cf l c:=rfl
theorem DQ(l r:List Tm)(c:Int):cf (l++r) c=cf l c+cf r c:=by unfold cf;simp_all
theorem AbU(l:List Tm):∀(T:List Tm) (c:Int),tv (l.foldl (λT p=>Lj T p.1 p.2) T) c=tv T c+cf l c:=by
 induction l<;>grind [Ka,it,Aeb,CN]
theorem Fo(l:List Tm)(c:Int):tv (JW l) c=cf l c:=by have:=AbU l [] c;unfold JW;rw[this];show(0:Int)+_=_;omega
theorem Zr(T:List Tm)(c n b:Int):b∈(Lj T c n).map Prod.fst<->b=c\/b∈T.map Prod.fst:=by
 unfold Lj DG;grind
theorem VJ(l:List Tm):∀(T:List Tm) (b:Int),b∈(l.foldl (λT p=>Lj T p.1 p.2) T).map Prod.fst<->b∈T.map Prod.fst\/b∈l.map Prod.fst:=by
 induction l<;>grind [it,Zr,dh,be]
theorem OH(l:List Tm)(b:Int):b∈(JW l).map Prod.fst<->b∈l.map Prod.fst:=by grind [JW,VJ]
theorem Aa4(T:List Tm)(c n:Int):(DG T c n).length<=T.length+1:=by grind [DG]
theorem JG(l:List Tm):(JW l).length<=l.length:=by
 have a:∀(l T:List Tm),(l.foldl (λT p=>Lj T p.1 p.2) T).length<=T.length+l.length:=by
  intro l
  induction l with
  | nil=>intro T;simp
  | cons p l ih=>
   intro T;rw[it];have b:=ih (Lj T p.1 p.2);have c:(Lj T p.1 p.2).length<=T.length+1:=Aa4 _ _ _;rw[de];omega
 grind [JW]
def Bi(l:List Tm):Nat:=(l.map λp=>p.2.natAbs).sum
theorem Bp(l r:List Tm):Bi (l++r)=Bi l+Bi r:=by unfold Bi;simp_all
theorem DD(p:Tm)(l:List Tm):Bi (p::l)=p.2.natAbs+Bi l:=rfl
theorem Dc(l:List Tm)(c:Int):(cf l c).natAbs<=Bi l:=by
 induction l with
 | nil=>exact ak _
 | cons p l ih=>
  grind [CN,DD]
theorem HU{l:List Tm}{p:Tm}(h:p∈l):p.2.natAbs<=Bi l:=by
 induction l<;>grind [DD,be]
structure CanL(l:List Tm)(f:Int->Int):Prop where
 srt:l.Pairwise λp q=>p.1<q.1
 val:∀p∈l,p.2=f p.1/\p.2≠0
 all:∀c,f c≠0->(c,f c)∈l
theorem CanL.mem{l:List Tm}(h:CanL l f)(p:Tm):p∈l<->p.2=f p.1/\p.2≠0:=
 ⟨h.val p,λ⟨e,n⟩=>by
  have:=h.all p.1 (e ▸ n)
  grind⟩
theorem Yk:∀{l r:List Tm},l.Pairwise (λp q=>p.1<q.1)->r.Pairwise (λp q=>p.1<q.1)->(∀p,p∈l<->p∈r)->l=r
 | [],[],_,_,_=>rfl
 | [],q::r,_,_,h=>lj ((h q).2 ao) σ
 | p::l,[],_,_,h=>lj ((h p).1 ao) σ
 | p::l,q::r,hl,hr,h=>by
  obtain⟨j,n⟩:=cg.1 hl;obtain⟨k,s⟩:=cg.1 hr
  have e:p=q:=by
   rcases be.1 ((h p).1 ao) with e|e
   .exact e
   .rcases be.1 ((h q).2 ao) with c|c
    .exact c.symm
    .have a:=k p e;have b:=j q c;omega
  subst e
  have d:l=r:=Yk n s λx=>by
   have g:=h x;simp only[be]at g;constructor
   .intro m;rcases g.1 (.inr m) with rfl|i
    .have:=j x m;omega
    .exact i
   .intro m;rcases g.2 (.inr m) with rfl|i
    .have:=k x m;omega
    .exact i
  rw[d]
theorem CanL.ext{l r:List Tm}{g:Int->Int}(h:CanL l f)(a:CanL r g)(e:∀c,f c=g c):l=r:=
 Yk h.srt a.srt λp=>by rw[h.mem,a.mem,e]
theorem CanL.congr{l:List Tm}{g:Int->Int}(h:CanL l f)(e:∀c,f c=g c):CanL l g:=by
 rwa [show g=f from funext λc=>(e c).symm]
theorem E5{l:List Tm}{c:Int}(h:∀p∈l,p.1≠c):cf l c=0:=by
 induction l with
 | nil=>rfl
 | cons p l ih=>grind [CN,ao,am]
theorem Acf:∀{l:List Tm},l.Pairwise (λp q=>p.1<q.1)->∀p∈l,cf l p.1=p.2
 :=by intro x;induction x<;>grind [cg,CN,be,E5]
theorem CanL.cf_eq{l:List Tm}(h:CanL l f)(c:Int):cf l c=f c:=by
 by_cases a:f c=0
 .rw[a];exact E5 λp b e=>(h.val p b).2 (by rw[(h.val p b).1,e,a])
 .have:=Acf h.srt _ (h.all c a);exact this
end Go.Ch
namespace Go.Eng
open Go.RowKit
theorem RdL.built{α:Type}{F:α->List Value}{sz:Nat}{h:Hp}{g n:Nat}{l:List α}{cs:List Value}(c:Seg h [] (⟨g,0,none⟩:Addr) cs)(e:cs=l.flatMap F)(f:l.length=n)(b:∀x,(F x).length=sz)(d:n<=1000000):RdL F sz h [] (.slice (some ⟨g,0,none⟩) n n) l:=by
 subst e f;refine⟨⟨some ⟨g,0,none⟩,l.length,Y,ak _,Z,?_,λ_=>⟨_,Y,c⟩⟩,b⟩;clear c d
 induction l<;>grind
end Go.Eng
namespace Go.Ch
open Go.Eng
theorem AdO{l:List Tm}:∀{cs:List Int},cs.Nodup->(cs.map λc=>(cf l c).natAbs).sum<=Bi l:=by
 induction l with
 | nil=>
  intro cs _
  have:(cs.map λc=>(cf [] c).natAbs).sum=0:=by
   induction cs with
   | nil=>rfl
   | cons a t ih=>rw[dh,fa];rename_i h;rw[ih (gt.1 h).2];rfl
  omega
 | cons p l ih=>
  intro cs d;have g:=ih d
  have k:(cs.map λc=>if p.1=c then p.2.natAbs else 0).sum<=p.2.natAbs:=by
   clear g ih
   induction cs with
   | nil=>simp
   | cons a t ih=>
    obtain⟨f,i⟩:=gt.1 d;rw[dh,fa];by_cases e:p.1=a
    .have:(t.map λc=>if p.1=c then p.2.natAbs else 0).sum=0:=by
      clear ih d i
      induction t with
      | nil=>rfl
      | cons b t ih2=>
       rw[dh,fa,af (λj=>f (by rw[<-e,j];exact ao)),ih2 λm=>f (am _ m)]
     rw[ah e,this];omega
    simp_all
  have f:(cs.map λc=>(cf (p::l) c).natAbs).sum<=(cs.map λc=>if p.1=c then p.2.natAbs else 0).sum+(cs.map λc=>(cf l c).natAbs).sum:=by
   clear g k ih d
   induction cs with
   | nil=>simp
   | cons a t ih=>
    grind [dh,fa,cf,CN]
  rw[DD];omega
theorem CanL.abl_le{l L:List Tm}(h:CanL l (cf L)):Bi l<=Bi L:=by
 have a:(l.map Prod.fst).Nodup:=fo.2 (h.srt.imp λq e=>Z);have:=AdO (l:=L) a;rw[jb]at this
 have e:l.map ((λc=>(cf L c).natAbs)∘Prod.fst)=l.map λp=>p.2.natAbs:=fg λp b=>by show(cf L p.1).natAbs=_;rw[<-(h.val p b).1]
 rw[e]at this;exact this
theorem CanL.ids{l L:List Tm}(h:CanL l (cf L)){p:Tm}(a:p∈l):p.1∈L.map Prod.fst:=by obtain⟨e,n⟩:=h.val p a;grind [E5,ai]
end Go.Ch
namespace Go.Eng
open Go.RowKit
section
variable {κ ν:Type} [DecidableEq κ] {K:κ->Value} {V:ν->Value} {Ok:κ->Prop} {kt et t:TypeId} {g:Nat} {m:Hp} {T:List (κ×ν)} {bs:List Nat}
variable {e:Entry} {Q:Exit->Act->World->Prop} {ops:Array Oper} {rest:List Oper} {o:Oper} {s:AG} {h:Hp} {ms:List Hp}
theorem Aae{x y u:Operand}{z:Value}(i:Nat)(a:κ)(y':ν)(L:O8 e.P kt K Ok)(O:CM K V g Ok m T bs)(hin:a∈T.map Prod.fst)(hm:ms[i]?=some m)(ho:o.op=.mapUpdate t x y u)(ht:e.P.underlying t=some (.map kt et))(hx:ev s x=some (.map (some g)))(hy:ev s y=some (K a))(hu:ev s u=some (V y'))(ha:Ok a)
  (hd:o.dst=none) (hg:o.guard=none) (k:∀f,CM K V g Ok f (DG T a y') bs->(∀A M c,EF A g m M bs c->EF A g f M bs c)->WL e ops Q rest s h (ms.set i f)):WL e ops Q (o::rest) s h ms:=
 Pj (post:=λ_ h' ms'=>∃f,(CM K V g Ok f (DG T a y') bs/\(∀A M c,EF A g m M bs c->EF A g f M bs c))/\h'=h/\ms'=ms.set i f) (λρ w hρ hw=>by
  obtain⟨es,d,rfl,he,hb⟩:=O.ex;have hgw:w.heap[g]?=some (.map es d):=hw.st.own _ (ez hm) g _ (Hp.one_self _ _);obtain⟨l,hk⟩:=L.key a ha;have hc:=L.law.check w false hk;have hs:=L.law.stays w hk;rcases IQ L O.keys O.ok O.len he w a ha with ⟨h1,P⟩|⟨j,v,b,h1,P,h3,h4⟩
  .simp_all
  .have hj4:=(cj.1 h4)
   have R:(execOp ρ o).run e.P w=.ok .skip { w with heap:=w.heap.setIfInBounds g (.map (es.modify j λe=>{ e with key:=K a,val:=V y' }) d) }:=by simp only[execOp,ho,hρ _ _ hx,hρ _ _ hy,hρ _ _ hu,Instr.mapUpdate,ep,cw ht,dt,getObj,fl];simp[Sem.run,hgw,hc,h1,Result.andThen,setObj,h4,hs]
   unfold OpRes;rw[R];refine⟨h,_,Ends.turn hw hm,_,⟨?_,λA M c I=>?_⟩,Y,Y⟩
   rotate_left
   .obtain⟨es2,clock2,r,seen,S,e1,e2,e3⟩:=I.ex;have e0:=K7 e1;simp only[Obj.map.injEq]at e0;obtain⟨rfl,rfl⟩:=e0;exact⟨⟨_,_,r,seen,S,Y,e2,e3⟩,I.lt,I.nodup⟩
   refine⟨⟨_,_,Y,?_,hb⟩,?_,O.up,Gj O.keys a y',λp B=>?_⟩
   .rw[Gg O.keys P,Yy T bs j _ b h3,List.map_set,<-he];refine ic λk=>?_;rw[Array.getElem?_toList,Array.getElem?_modify,gh];by_cases n:j=k
    .subst n;rw[ah rfl,ah rfl,h4];have:j<es.toList.length:=by simpa using (cj.1 h4).1
     rw[ah this];rfl
    grind
   .rw[Gg O.keys P,fh];exact O.len
   .rw[Gg O.keys P]at B;rcases gy B with B|B
    .exact O.ok p B
    simp_all) hd hg λv h' ms' ⟨f,e1,e2,e3⟩=>by simp_all
end
end Go.Eng
namespace Go.Eng
open Go.RowKit
theorem NW{e:Entry}{Q:Exit->Act->World->Prop}{s:AG}{h:Hp}{b:List Hp}{el:TypeId}{c:Code}{g:Nat}{cs:List Value}(k:∀a,h.le a->Seg a [] ⟨g,0,none⟩ cs->RS e c Q s a b):RS e c Q s h (BE g el cs::b):=by grind [Lh,Seg.ofLe]
end Go.Eng
namespace Go.Ch
open Go.Eng Go.Sm
def lin(f:Int->Int)(l:List Tm):Int:=(l.map λp=>f p.1*p.2).sum
theorem EP(f:Int->Int)(p:Tm)(l:List Tm):lin f (p::l)=f p.1*p.2+lin f l:=rfl
theorem D1(f:Int->Int)(l r:List Tm):lin f (l++r)=lin f l+lin f r:=by unfold lin;simp_all
theorem Lp{f:Int->Int}:∀{b:List Tm} {d:List Int},d.Nodup->(∀p∈b,p.1∈d)->lin f b=(d.map λc=>f c*cf b c).sum
 | [],d,_,_=>by
  have:∀d:List Int,(d.map λc=>f c*cf [] c).sum=0:=λd=>by
   induction d<;>grind [dh,fa,Ka]
  rw[this];rfl
 | p::b,d,hn,hk=>by
  have g:=Lp (f:=f) (b:=b) hn λq r=>hk q (am _ r);have h:p.1∈d:=hk p ao
  have i:(d.map λc=>f c*if p.1=c then p.2 else 0).sum=f p.1*p.2:=by
   clear g hk
   induction d with
   | nil=>cases h
   | cons a t ih2=>
    obtain⟨j,k⟩:=gt.1 hn;rw[dh,fa];by_cases e:p.1=a
    .have s:(t.map λc=>f c*if p.1=c then p.2 else 0).sum=0:=by
      clear ih2 hn k h
      induction t with
      | nil=>rfl
      | cons b' t ih3=>
       rw[dh,fa,af (λl=>j (by rw[<-e,l];exact ao)),ih3 λm=>j (am _ m)];simp
     rw[ah e,s,e];omega
    simp_all
  have n:(d.map λc=>f c*cf (p::b) c).sum=(d.map λc=>f c*if p.1=c then p.2 else 0).sum+(d.map λc=>f c*cf b c).sum:=by
   clear i g hk h hn
   induction d with
   | nil=>rfl
   | cons a t ih2=>
    grind [dh,fa,CN,jj]
  rw[EP,n,i,g]
theorem LJ(l:List Tm):((JW l).map Prod.fst).Nodup:=by
 have a:∀(l T:List Tm),(T.map Prod.fst).Nodup->((l.foldl (λT p=>Lj T p.1 p.2) T).map Prod.fst).Nodup:=by
  intro l
  induction l with
  | nil=>simp_all
  | cons p l ih=>intro T h;exact ih _<|Gj h _ _
 exact a l [] List.Pairwise.nil
theorem CanL.lin_eq{l b:List Tm}(C:CanL l (cf b))(f:Int->Int):lin f l=lin f b:=by rw[Lp (b:=b) (LJ b) λp a=>(OH b p.1).2 (List.mem_map_of_mem a),Lp (b:=l) (LJ b) λp a=>(OH b p.1).2 (C.ids a)];congr 1;exact fg λc _=>by rw[C.cf_eq]
theorem MM{f:Int->Int}{A:Nat}(h:∀c,(f c).natAbs<=A)(l:List Tm):(lin f l).natAbs<=A*Bi l:=by
 induction l with
 | nil=>simp[lin]
 | cons p l ih=>
  rw[EP,DD,ip];have a:(f p.1*p.2).natAbs<=A*p.2.natAbs:=by rw[jv];exact eh _<|h p.1
  omega
variable {l:List Tm} {k:Nat}
theorem Ada{A B:List Tm}{c n:Int}{g:Int->Int}(m:∀p∈A,p.1<c)(r:∀p∈B,c<p.1)(v:A.Pairwise λp q=>p.1<q.1)(x:B.Pairwise λp q=>p.1<q.1)(t:∀p,p∈A\/p∈B->p.2=g p.1/\p.2≠0)(s:g c=n)(b:∀a,a≠c->g a≠0->(a,g a)∈A\/(a,g a)∈B):CanL (A++(if n≠0 then [(c,n)] else [])++B) g:=by
 have f:∀p,p∈(if n≠0 then [((c,n):Tm)] else [])<->n≠0/\p=(c,n):=λp=>by split<;>simp[*]
 refine⟨?_,λp d=>?_,λa j=>?_⟩
 all_goals grind
def upd(f:Int->Int)(c x:Int)(a:Int):Int:=f a+if c=a then x else 0
theorem Um{p:Tm}(h:p∈l.take k):∃j,∃a:j<l.length,j<k/\l[j]=p:=by grind [ef,bf,ka]
theorem TA{p:Tm}(h:p∈l.drop k):∃j,∃a:j<l.length,k<=j/\l[j]=p:=by grind [ef,br,kx]
theorem Uk{f:Int->Int}{d:Nat}{c x n:Int}(C:CanL l f)(K:k<=l.length)(r:∀j (b:j<l.length),j<k->l[j].1<c)(m:∀j (b:j<l.length),k+d<=j->c<l[j].1)(B:n=f c+x)(s:∀j (b:j<l.length),k<=j->j<k+d->l[j].1=c) :
  CanL (l.take k++(if n≠0 then [(c,n)] else [])++l.drop (k+d)) (upd f c x):=by
 refine Ada (λp i=>?_) (λp i=>?_) (List.Pairwise.sublist (List.take_sublist _ _) C.srt) (List.Pairwise.sublist (List.drop_sublist _ _) C.srt) (λp i=>?_) (by grind [upd])<|λa y z=>?_
 .grind [Um]
 .grind [TA]
 .have v:p∈l:=i.elim (λh=>ge h) (λh=>jd h)
  have u:c≠p.1:=by
   rcases i with h|h
   .grind [Um]
   .grind [TA]
  unfold upd;rw[af u,il];exact C.val p v
 .have t:upd f c x a=f a:=by unfold upd;rw[af (λe=>y e.symm),il]
  rw[t]at z ⊢;obtain⟨j,b,e⟩:=ef.1 (C.all a z);rcases (Z:j<k\/(k<=j/\j<k+d)\/k+d<=j) with g|⟨g,A⟩|g
  .grind [ef,bf,ka]
  .grind
  .right
   exact ef.2 ⟨j-(k+d),by grind,by simp_all⟩
theorem SM(h:l.Pairwise λp q=>p.1<q.1){i j:Nat}(b:i<l.length)(c:j<l.length)(a:i<j):l[i].1<l[j].1:=bw.1 h i j b c a
end Go.Ch
namespace Go.Sm
open Go.Lin
variable {n m i k:Nat} {A:Nat->Nat->Int}
theorem Agk{f g:Nat->Int}(j:i<n)(l:k<n)(c:i≠k)(h:∀q,q<n->q≠i->q≠k->f q=g q)(r:f i+f k=g i+g k):sm n f=sm n g:=by
 have e:sm n (λq=>f q-g q)=0:=by
  have d:sm n (λq=>f q-g q)=sm n (λq=>(if q=i then f q-g q else 0)+(if q=k then f q-g q else 0)):=Bt λq p=>by
   by_cases a:q=i
   .subst a;rw[ah rfl,af c];omega
   .by_cases b:q=k
    .subst b;rw[af a,ah rfl];omega
    .rw[af a,af b,h q p a b];omega
  rw[d,QE,Uo n i (λq=>f q-g q) j,Uo n k (λq=>f q-g q) l];omega
 grind [Acn]
def Tn.det1(t:Tn):Prop:=t.a*t.d-t.b*t.c=1
theorem Ae7{t:Tn}(a:t.det1)(x y u v:Int):(t.d*x+-t.c*y)*(t.a*u+t.b*v)+(-t.b*x+t.a*y)*(t.c*u+t.d*v)=x*u+y*v:=by
 unfold Tn.det1 at a
 grind
theorem AcW{t:Tn}(l:t.det1)(h:i<n)(j:k<n)(a:i≠k){X d p e:Nat->Int}(b:∀q,d q=if q=i then t.bk.a*X i+t.bk.b*X k else if q=k then t.bk.c*X i+t.bk.d*X k else X q)(c:∀q,e q=if q=i then t.a*p i+t.b*p k else if q=k then t.c*p i+t.d*p k else p q):sm n (λq=>d q*e q)=sm n (λq=>X q*p q):=by
 refine Agk h j a (λq _ f g=>?_) ?_
 .simp_all
 .rw[b i,c i,b k,c k,ah rfl,ah rfl,af (gx a),ah rfl,af (gx a),ah rfl];exact Ae7 l _ _ _ _
structure FS.Inv(n m:Nat)(A:Nat->Nat->Int)(S:FS):Prop where
 ua:∀a j,a<n->j<m->sm n (λq=>AP S.u a q*A q j)=sm m (λq=>AP S.d a q*AP S.vi q j)
 av:∀a j,a<n->j<m->sm m (λq=>A a q*AP S.v q j)=sm n (λq=>AP S.ui a q*AP S.d q j)
 uu:∀a b,a<n->b<n->sm n (λq=>AP S.ui a q*AP S.u q b)=if a=b then 1 else 0
structure FS.Shp(n m:Nat)(S:FS):Prop where
 su:Shape n n S.u
 sui:Shape n n S.ui
 sd:Shape n m S.d
 sv:Shape m m S.v
 svi:Shape m m S.vi
theorem FS.Shp.rop{S:FS}(h:S.Shp n m)(i k:Nat)(t:Tn):(S.rop n m i k t).Shp n m:=⟨h.su.rows _ _ _ _,h.sui.cols _ _ _ _,h.sd.rows _ _ _ _,h.sv,h.svi⟩
theorem FS.Shp.cop{S:FS}(h:S.Shp n m)(i k:Nat)(t:Tn):(S.cop n m i k t).Shp n m:=⟨h.su,h.sui,h.sd.cols _ _ _ _,h.sv.cols _ _ _ _,h.svi.rows _ _ _ _⟩
theorem FS.Shp.neg{S:FS}(h:S.Shp n m)(t:Nat):(S.neg n m t).Shp n m:=⟨h.su.negRow _ _,h.sui.negCol _ _,h.sd.negRow _ _,h.sv,h.svi⟩
theorem Ji{S:FS}(h:S.Shp n m)(t:Tn)(e:i<n)(f:k<n)(c:i≠k)(a b:Nat)(d:b<m):AP (S.rop n m i k t).d a b=if a=i then t.a*AP S.d i b+t.b*AP S.d k b else if a=k then t.c*AP S.d i b+t.d*AP S.d k b else AP S.d a b:=by show AP (FH i k t S.d m) a b=_;rw[GC h.sd t e f c m (ak _),ah d]
theorem GS{S:FS}(h:S.Shp n m)(t:Tn)(e:i<m)(f:k<m)(c:i≠k)(a b:Nat)(d:a<n):AP (S.cop n m i k t).d a b=if b=i then t.a*AP S.d a i+t.b*AP S.d a k else if b=k then t.c*AP S.d a i+t.d*AP S.d a k else AP S.d a b:=by show AP (FL i k t S.d n) a b=_;rw[GM h.sd t e f c n (ak _),ah d]
theorem S9{S:FS}(h:S.Shp n m){t:Nat}(d:t<n)(a b:Nat)(c:b<m):AP (S.neg n m t).d a b=if a=t then -(AP S.d a b) else AP S.d a b:=by
 show AP (negRow t S.d m) a b=_;rw[Fp h.sd d m (ak _)];omega
theorem QU(n:Nat)(x y:Int)(f g h:Nat->Int):sm n (λq=>(x*f q+y*g q)*h q)=x*sm n (λq=>f q*h q)+y*sm n (λq=>g q*h q):=by simp_all [Hh,QE,Bt,ko,ji]
theorem MB(n:Nat)(x y:Int)(f g h:Nat->Int):sm n (λq=>h q*(x*f q+y*g q))=x*sm n (λq=>h q*f q)+y*sm n (λq=>h q*g q):=by simp_all [Hh,QE,Bt,jj,li]
theorem FS.Inv.rop{S:FS}(I:S.Inv n m A)(h:S.Shp n m){t:Tn}(y:t.det1)(f:i<n)(g:k<n)(c:i≠k):(S.rop n m i k t).Inv n m A:=by
 have v:∀a b,b<n->AP (S.rop n m i k t).u a b=if a=i then t.a*AP S.u i b+t.b*AP S.u k b else if a=k then t.c*AP S.u i b+t.d*AP S.u k b else AP S.u a b:=λa b p=>by show AP (FH i k t S.u n) a b=_;rw[GC h.su t f g c n (ak _),ah p]
 have l:∀a b,a<n->AP (S.rop n m i k t).ui a b=if b=i then t.bk.a*AP S.ui a i+t.bk.b*AP S.ui a k else if b=k then t.bk.c*AP S.ui a i+t.bk.d*AP S.ui a k else AP S.ui a b:=λa b d=>by show AP (FL i k t.bk S.ui n) a b=_;rw[GM h.sui t.bk f g c n (ak _),ah d]
 have u:=Ji h t f g c;refine⟨λa j d e=>?_,λa j d e=>?_,λa b d p=>?_⟩
 .rw[Bt (g:=λq=>(if a=i then t.a*AP S.u i q+t.b*AP S.u k q else if a=k then t.c*AP S.u i q+t.d*AP S.u k q else AP S.u a q)*A q j) λq s=>by rw[v a q s]];rw[Bt (n:=m) (g:=λq=>(if a=i then t.a*AP S.d i q+t.b*AP S.d k q else if a=k then t.c*AP S.d i q+t.d*AP S.d k q else AP S.d a q)*AP S.vi q j) λq s=>by rw[u a q s];rfl];by_cases r:a=i
  .simp only[ah r];rw[QU,QU,I.ua i j f e,I.ua k j g e]
  .by_cases x:a=k
   .simp only[af r,ah x];rw[QU,QU,I.ua i j f e,I.ua k j g e]
   .simp only[af r,af x];exact I.ua a j d e
 .show sm m (λq=>A a q*AP S.v q j)=_;rw[I.av a j d e];exact(AcW y f g c (λq=>l a q d) (λq=>u q j e)).symm
 .rw[<-I.uu a b d p];exact AcW y f g c (λq=>l a q d)<|λq=>v q b p
theorem FS.Inv.cop{S:FS}(I:S.Inv n m A)(h:S.Shp n m){t:Tn}(x:t.det1)(e:i<m)(f:k<m)(d:i≠k):(S.cop n m i k t).Inv n m A:=by
 have ev:∀a b,a<m->AP (S.cop n m i k t).v a b=if b=i then t.a*AP S.v a i+t.b*AP S.v a k else if b=k then t.c*AP S.v a i+t.d*AP S.v a k else AP S.v a b:=λa b c=>by show AP (FL i k t S.v m) a b=_;rw[GM h.sv t e f d m (ak _),ah c]
 have l:∀a b,b<m->AP (S.cop n m i k t).vi a b=if a=i then t.bk.a*AP S.vi i b+t.bk.b*AP S.vi k b else if a=k then t.bk.c*AP S.vi i b+t.bk.d*AP S.vi k b else AP S.vi a b:=λa b v=>by show AP (FH i k t.bk S.vi m) a b=_;rw[GC h.svi t.bk e f d m (ak _),ah v]
 have s:=GS h t e f d;refine⟨λa j c g=>?_,λa j c g=>?_,I.uu⟩
 .show sm n (λq=>AP S.u a q*A q j)=_;rw[I.ua a j c g,Bt λq _=>e9 _ _];rw[Bt (n:=m) (f:=λq=>AP (S.cop n m i k t).d a q*AP (S.cop n m i k t).vi q j) λq _=>e9 _ _];exact(AcW x e f d (λq=>l q j g) (λq=>s a q c)).symm
 .rw[Bt (g:=λq=>A a q*(if j=i then t.a*AP S.v q i+t.b*AP S.v q k else if j=k then t.c*AP S.v q i+t.d*AP S.v q k else AP S.v q j)) λq r=>by simp_all];rw[Bt (n:=n) (g:=λq=>AP S.ui a q*(if j=i then t.a*AP S.d q i+t.b*AP S.d q k else if j=k then t.c*AP S.d q i+t.d*AP S.d q k else AP S.d q j)) λq r=>by rw[s q j r];rfl];by_cases p:j=i
  .simp only[ah p];rw[MB,MB,I.av a i c e,I.av a k c f]
  .by_cases u:j=k
   .simp only[af p,ah u];rw[MB,MB,I.av a i c e,I.av a k c f]
   .simp only[af p,af u];exact I.av a j c g
theorem FS.Inv.neg{S:FS}(I:S.Inv n m A)(h:S.Shp n m){t:Nat}(r:t<n):(S.neg n m t).Inv n m A:=by
 have z:∀a b,b<n->AP (S.neg n m t).u a b=if a=t then -(AP S.u a b) else AP S.u a b:=λa b l=>by
  show AP (negRow t S.u n) a b=_;rw[Fp h.su r n (ak _)];omega
 have d:∀a b,a<n->AP (S.neg n m t).ui a b=if b=t then -(AP S.ui a b) else AP S.ui a b:=λa b c=>by
  show AP (negCol t S.ui n) a b=_;rw[HV h.sui r n (ak _)];omega
 have v:=S9 h r
 have g:∀(x y s u:Nat->Int),(∀q,s q=if q=t then -(x q) else x q)->(∀q,u q=if q=t then -(y q) else y q)->sm n (λq=>s q*u q)=sm n (λq=>x q*y q):=λx y s u K L=>Bt λq _=>by
  grind
 refine⟨λa j c f=>?_,λa j c f=>?_,λa b c l=>?_⟩
 .rw[Bt (g:=λq=>(if a=t then -(AP S.u a q) else AP S.u a q)*A q j) λq p=>by rw[z a q p]];rw[Bt (n:=m) (g:=λq=>(if a=t then -(AP S.d a q) else AP S.d a q)*AP S.vi q j) λq p=>by rw[v a q p];rfl];by_cases B:a=t
  .simp only[ah B];have:=I.ua a j c f;rw[Bt (g:=λq=>(-1)*(AP S.u a q*A q j)) λq _=>by grind,Hh,this];rw[Bt (n:=m) (f:=λq=>-(AP S.d a q)*AP S.vi q j) (g:=λq=>(-1)*(AP S.d a q*AP S.vi q j)) λq _=>by grind,Hh]
  .simp only[af B];exact I.ua a j c f
 .show sm m (λq=>A a q*AP S.v q j)=_;rw[I.av a j c f];grind
 .rw[<-I.uu a b c l];grind
end Go.Sm
namespace Go.Sm
open Go.Lin
variable {n m t i k:Nat} {A:Nat->Nat->Int} {s s':St} {S:FS} {T:Tn} {M:List (List Int)} {x y:Int}
structure Gd(n m:Nat)(A:Nat->Nat->Int)(t:Nat)(S:FS):Prop where
 inv:S.Inv n m A
 shp:S.Shp n m
 z:∀a b,a<n->b<m->a≠b->(a<t\/b<t)->AP S.d a b=0
 p:∀a,a<t->a<n->a<m->0<=AP S.d a a/\(AP S.d a a).natAbs<2147483648
theorem Gd.rop(G:Gd n m A t S)(u:T.det1)(z:t<=i)(B:t<=k)(e:i<n)(f:k<n)(c:i≠k):Gd n m A t (S.rop n m i k T):=by
 refine⟨G.inv.rop G.shp u e f c,G.shp.rop _ _ _,λa b h d j v=>?_,λa h r p=>?_⟩
 .rw[Ji G.shp T e f c a b d];by_cases g:a=i
  .rw[ah g,G.z i b e d Z Z,G.z k b f d Z Z];simp
  .by_cases l:a=k
   .rw[af g,ah l,G.z i b e d Z Z,G.z k b f d Z Z];simp
   .rw[af g,af l];exact G.z a b h d j v
 .rw[Ji G.shp T e f c a a p,af Z,af Z];grind [p]
theorem Gd.cop(G:Gd n m A t S)(r:T.det1)(z:t<=i)(B:t<=k)(e:i<m)(f:k<m)(d:i≠k):Gd n m A t (S.cop n m i k T):=by
 refine⟨G.inv.cop G.shp r e f d,G.shp.cop _ _ _,λa b c u h v=>?_,λa c l p=>?_⟩
 .rw[GS G.shp T e f d a b c];by_cases g:b=i
  .rw[ah g,G.z a i c e Z Z,G.z a k c f Z Z];simp
  .by_cases j:b=k
   .rw[af g,ah j,G.z a i c e Z Z,G.z a k c f Z Z];simp
   .rw[af g,af j];exact G.z a b c u h v
 .rw[GS G.shp T e f d a a l,af Z,af Z];grind [p]
theorem St.row_S(h:s.row n m i k T=some s'):s'.S=s.S.rop n m i k T:=by
 grind [St.row,ay]
theorem St.col_S(h:s.col n m i k T=some s'):s'.S=s.S.cop n m i k T:=by
 grind [St.col,ay]
theorem PB{d:Tn->Option St}{c:Bool}(h:Mj d x y s=some (s',c)):(y=0/\s'=s/\c=false)\/(y%x=0/\d ⟨1,0,-(y/x),1⟩=some s'/\c=false)\/(y.natAbs=1/\d ⟨0,y,-y,x⟩=some s'/\c=true):=by
 grind [Mj,ay,ff]
theorem Abc(q:Int):Tn.det1 ⟨1,0,q,1⟩:=by unfold Tn.det1;simp
theorem Abu(h:y.natAbs=1):Tn.det1 ⟨0,y,-y,x⟩:=by grind [Tn.det1]
theorem JJ(h:y%x=0):y/x*x=y:=by have:=Int.emod_add_mul_ediv y x;grind
theorem TU(u:t<n)(j:t<m):∀{f i:Nat} {s s':St},Gd n m A t s.S->t<i->i+f=n->(∀a,t<a->a<i->AP s.S.d a t=0)->Fa n m t f i s=some s'->Gd n m A t s'.S/\∀a,t<a->a<n->AP s'.S.d a t=0
 | 0,i,s,s',G,hi,hf,hz,h=>by have h:=ay h;simp_all
 | f+1,i,s,s',G,hi,hf,hz,h=>by
  unfold Fa at h;split at h
  .cases h
  .rename_i l c e;have d:i<n:=Z
   have step:∀T,T.det1->s.row n m t i T=some l->T.c*AP s.S.d t t+T.d*AP s.S.d i t=0->Gd n m A t l.S/\∀a,t<a->a<i+1->AP l.S.d a t=0:=λT B g r=>by
    have z:=St.row_S g;rw[z];refine⟨G.rop B (ak _) Z u d Z,λa b v=>?_⟩;rw[Ji G.shp T u d Z a t j,af Z];grind
   have fin:Gd n m A t l.S/\∀a,t<a->a<i+1->AP l.S.d a t=0:=by
    rcases PB e with ⟨r,rfl,_⟩|⟨K,g,_⟩|⟨L,g,_⟩
    .grind
    .grind [step,Abc,AP,i7,JJ]
    .grind [step,Abu,AP,i7,e9]
   exact TU u j fin.1 Z Z fin.2 h
theorem Up(P:t<n)(g:t<m):∀{f j:Nat} {c B:Bool} {s s':St},Gd n m A t s.S->t<j->j+f=m->DN n m t f j c s=some (s',B)->Gd n m A t s'.S/\(B=false->c=false/\((∀a,t<a->a<n->AP s.S.d a t=0)->(∀b,t<b->b<j->AP s.S.d t b=0)->(∀a,t<a->a<n->AP s'.S.d a t=0)/\∀b,t<b->b<m->AP s'.S.d t b=0))
 | 0,j,c,B,s,s',G,hj,hf,h=>by have h:=ay h;simp_all
 | f+1,j,c,B,s,s',G,hj,hf,h=>by
  unfold DN at h;split at h
  .cases h
  .rename_i z O e;have p:j<m:=Z
   have step:∀T,T.det1->s.col n m t j T=some z->Gd n m A t z.S:=λT hT v=>by rw[St.col_S v];exact G.cop hT (ak _) Z g p Z
   have fin:Gd n m A t z.S/\(O=false->(∀a,t<a->a<n->AP s.S.d a t=0)->(∀b,t<b->b<j->AP s.S.d t b=0)->(∀a,t<a->a<n->AP z.S.d a t=0)/\∀b,t<b->b<j+1->AP z.S.d t b=0):=by
    rcases PB e with ⟨h0,rfl,_⟩|⟨hd,v,_⟩|⟨hg,v,L⟩
    .refine⟨G,λ_ r u=>⟨r,λb d l=>?_⟩⟩;by_cases K:b=j
     .subst K;exact h0
     .exact u b d Z
    .refine⟨step _ (Abc _) v,λ_ r u=>?_⟩;have R:=St.col_S v;rw[R];refine⟨λa d l=>?_,λb d l=>?_⟩
     .rw[GS G.shp _ g p Z a t l,ah rfl,r a d l];show 1*0+0*_=(0:Int);simp
     .rw[GS G.shp _ g p Z t b P,af Z];by_cases K:b=j
      .rw[ah K];show -(AP s.S.d t j/AP s.S.d t t)*AP s.S.d t t+1*AP s.S.d t j=0;rw[i7,JJ hd];omega
      .rw[af K];exact u b d Z
    .exact⟨step _ (Abu hg) v,λe=>lj (L.symm.trans e) H⟩
   have Q:=Up P g fin.1 Z Z h;grind
theorem Pp(e:t<n)(d:t<m):∀{f:Nat} {s s':St},Gd n m A t s.S->Dy n m t f s=some s'->Gd n m A t s'.S/\(∀a,t<a->a<n->AP s'.S.d a t=0)/\∀b,t<b->b<m->AP s'.S.d t b=0
 | 0,s,s',G,h=>by cases h
 | f+1,s,s',G,h=>by
  unfold Dy pass at h;cases e1:Fa n m t (n-(t+1)) (t+1) s with
  | none=>simp_all
  | some s1=>
   rw[e1]at h;obtain⟨j,B⟩:=TU e d G Z Z (λa l r=>Z) e1;simp only at h;cases e2:DN n m t (m-(t+1)) (t+1) false s1 with
   | none=>simp_all
   | some p=>
    obtain⟨K,c⟩:=p;rw[e2]at h;obtain⟨g,q⟩:=Up e d j Z Z e2;cases c with
    | true=>exact Pp e d g h
    | false=>
     have h:=ay h;subst h;obtain⟨_,u⟩:=q Y;obtain⟨v,z⟩:=u B (λb l r=>Z);exact⟨g,v,z⟩
theorem AcY(K:t<n)(p:t<m)(G:Gd n m A t s.S)(h:IR n m t s=some s'):Gd n m A (t+1) s'.S/\AP s'.S.d t t≠0:=by
 unfold IR at h;split at h
 .cases h
 .rename_i f e;obtain⟨c,R,w2⟩:=Pp K p G e;split at h
  .cases h
  .rename_i O;have B:AP f.S.d t t≠0:=λq=>O (.inl q)
   have Q:(AP f.S.d t t).natAbs<2147483648:=by refine ax λq=>O<|.inr ?_;unfold Uf;rw[<-jw,jy];exact q
   split at h
   .have P:∀a b,a<n->b<m->a≠b->(a<t+1\/b<t+1)->AP f.S.d a b=0:=λa b g j d L=>by
     rcases (Z:(a<t\/b<t)\/(a=t/\t<b)\/(b=t/\t<a)) with q|⟨rfl,q⟩|⟨rfl,q⟩
     .exact c.z a b g j d q
     all_goals simp_all
    split at h
    .rename_i l;have h:=ay h;subst h;have v:=S9 c.shp K;refine⟨⟨c.inv.neg c.shp K,c.shp.neg _,λa b g j d L=>?_,λa g z u=>?_⟩,?_⟩
     .show AP (f.S.neg n m t).d a b=0;rw[v a b j,P a b g j d L];simp
     .show 0<=AP (f.S.neg n m t).d a a/\(AP (f.S.neg n m t).d a a).natAbs<_;rw[v a a u];by_cases r:a=t
      .subst r;rw[ah rfl];omega
      .rw[af r];exact c.p a Z z u
     simp_all
    .rename_i l;have h:=ay h;subst h;refine⟨⟨c.inv,c.shp,P,λa g z u=>?_⟩,B⟩;by_cases r:a=t
     .simp_all
     .exact c.p a Z z u
   .cases h
theorem LY{j:Nat}:∀{f i:Nat},NQ M n j f i=none->∀a,i<=a->a<i+f->AP M a j=0
 | 0,i,h,a,h1,h2=>Z
 | f+1,i,h,a,h1,h2=>by
  unfold NQ at h;split at h
  .cases h
  .rename_i b;by_cases e:a=i
   .subst e;exact ax b
   .exact LY h a Z Z
theorem Ph{j:Nat}:∀{f i a:Nat},NQ M n j f i=some a->i<=a/\a<i+f/\AP M a j≠0
 | 0,i,a,h=>by cases h
 | f+1,i,a,h=>by
  unfold NQ at h;split at h
  .simp_all
  .obtain⟨d,e,c⟩:=Ph h;omega
theorem LA:∀{f j:Nat},Iq M n t f j=none->∀a b,t<=a->a<n->j<=b->b<j+f->AP M a b=0
 | 0,j,h,a,b,h1,h2,h3,h4=>Z
 | f+1,j,h,a,b,h1,h2,h3,h4=>by
  unfold Iq at h;split at h
  .cases h
  .rename_i c;by_cases e:b=j
   .subst e;exact LY c a h1 Z
   .exact LA h a b h1 h2 Z Z
theorem JI:∀{f j a b:Nat},Iq M n t f j=some (a,b)->t<=a/\(a<t+(n-t))/\j<=b/\b<j+f/\AP M a b≠0
 | 0,j,a,b,h=>by cases h
 | f+1,j,a,b,h=>by
  unfold Iq at h;split at h
  .rename_i i g;have h:=ay h;injection h with h1 h2;subst h1 h2;obtain⟨c,d,e⟩:=Ph g;omega
  .obtain⟨c,d,e,p,l⟩:=JI h;omega
theorem Yt:swp.det1:=by grind [Tn.det1,swp]
theorem Zq(B:t<n)(u:t<m){b:Bool}(G:Gd n m A t s.S)(h:EK n m t s=some (s',b)):Gd n m A t s'.S/\(b=false->∀a c,t<=a->a<n->t<=c->c<m->AP s'.S.d a c=0):=by
 unfold EK at h;cases e0:Iq s.S.d n t (m-t) t with
 | none=>
  grind [ay,LA]
 | some p=>
  obtain⟨i,j⟩:=p;rw[e0]at h;obtain⟨K,P,L,Q,R⟩:=JI e0;simp only at h;cases d:(if i=t then some s else s.row n m t i swp) with
  | none=>simp_all
  | some s1=>
   rw[d]at h
   have v:Gd n m A t s1.S:=by
    split at d
    .simp_all
    .rename_i g;rw[St.row_S d];exact G.rop Yt (ak _) K B Z<|gx g
   simp only at h;cases f:(if j=t then some s1 else s1.col n m t j swp) with
   | none=>simp_all
   | some s2=>
    rw[f]at h;have h:=ay h;injection h with l r;subst l r;refine⟨?_,λe=>by cases e⟩;split at f
    .simp_all
    .rename_i g;rw[St.col_S f];exact v.cop Yt (ak _) L u Z<|gx g
structure Gf(n m:Nat)(A:Nat->Nat->Int)(S:FS):Prop where
 inv:S.Inv n m A
 shp:S.Shp n m
 z:∀a b,a<n->b<m->a≠b->AP S.d a b=0
 p:∀a,a<n->a<m->0<=AP S.d a a/\(AP S.d a a).natAbs<2147483648
theorem Ud:∀{f t:Nat} {s s':St},Gd n m A t s.S->min n m<=t+f->D8 n m f t s=some s'->Gf n m A s'.S
 | 0,t,s,s',G,hf,h=>by have h:=ay h;subst h;exact⟨G.inv,G.shp,λa b l d c=>G.z a b l d c Z,λa g j=>G.p a Z g j⟩
 | f+1,t,s,s',G,hf,h=>by
  unfold D8 at h;split at h
  .rename_i v;have B:t<n:=Z
   have u:t<m:=Z
   cases e1:EK n m t s with
   | none=>simp_all
   | some p=>
    obtain⟨K,b⟩:=p;rw[e1]at h;obtain⟨r,d⟩:=Zq B u G e1;cases b with
    | false=>
     have h:=ay h;subst h;have z:=d Y;refine⟨r.inv,r.shp,λa b l d c=>?_,λa g j=>?_⟩
     .by_cases e:a<t\/b<t
      .exact r.z a b l d c e
      simp_all
     .by_cases e:a<t
      .exact r.p a e g j
      simp_all
    | true=>
     simp only at h;cases e2:IR n m t K with
     | none=>simp_all
     | some s2=>
      rw[e2]at h;exact Ud (AcY B u r e2).1 Z h
  .rename_i v;have h:=ay h;subst h;exact⟨G.inv,G.shp,λa b l d c=>G.z a b l d c Z,λa g j=>G.p a Z g j⟩
theorem Aci(G:Gf n m A S){b y:Nat->Int}(l:∀k,k<n->(if k<m then AP S.d k k*y k else 0)=sm n λq=>AP S.u k q*b q)(p:Nat)(f:p<n):(sm m λi=>A p i*sm m λq=>AP S.v i q*y q)=b p:=by
 have g:(sm m λi=>A p i*sm m λq=>AP S.v i q*y q)=sm m λq=>(sm m λi=>A p i*AP S.v i q)*y q:=by rw[Bt (g:=λi=>sm m λq=>A p i*AP S.v i q*y q) λi _=>by rw[<-Hh];exact Bt λq _=>(ji _ _ _).symm];rw[QS];exact Bt λq _=>NJ _ _ _
 rw[g,Bt (g:=λq=>(sm n λk=>AP S.ui p k*AP S.d k q)*y q) λq d=>by rw[G.inv.av p q f d]]
 have h:(sm m λq=>(sm n λk=>AP S.ui p k*AP S.d k q)*y q)=sm n λk=>AP S.ui p k*sm m λq=>AP S.d k q*y q:=by rw[Bt (g:=λq=>sm n λk=>AP S.ui p k*AP S.d k q*y q) λq _=>by rw[NJ]];rw[QS];exact Bt λk _=>by rw[<-Hh];exact Bt λq _=>ji _ _ _
 rw[h]
 have j:∀k,k<n->(sm m λq=>AP S.d k q*y q)=if k<m then AP S.d k k*y k else 0:=λk e=>by
  by_cases a:k<m
  .rw[ah a];exact Lo m k _ a λq d c=>by rw[G.z k q e d (gx c),iu]
  .rw[af a];exact Oh λq d=>by rw[G.z k q e d Z,iu]
 rw[Bt (g:=λk=>AP S.ui p k*sm n λq=>AP S.u k q*b q) λk e=>by rw[j k e,l k e]];rw[Bt (g:=λk=>sm n λq=>AP S.ui p k*AP S.u k q*b q) λk _=>by rw[<-Hh];exact Bt λq _=>(ji _ _ _).symm];rw[QS,Bt (g:=λq=>(if p=q then 1 else 0)*b q) λq d=>by rw[NJ,G.inv.uu p q f d]];grind [Lo]
theorem Aac(G:Gf n m A S)(k j:Nat)(b:k<n)(e:j<m):(if k<m then AP S.d k k else 0)∣sm n λq=>AP S.u k q*A q j:=by
 rw[G.inv.ua k j b e];by_cases a:k<m
 .rw[ah a,Lo m k _ a λq d c=>by rw[G.z k q b d (gx c),iu]];simp_all
 .rw[af a,Oh λq d=>by rw[G.z k q b d Z,iu]];simp_all
end Go.Sm
namespace Go.Sm
open Go.Lin
variable {x:Int} {s:St}
theorem KX{y:Int}(a:x.natAbs=1):y%x=0:=by
 grind
theorem NR{n m i k:Nat}{T:Tn}(h:s.b<20000):s.row n m i k T=some ⟨s.S.rop n m i k T,s.b+1⟩:=by grind [St.row,jy]
theorem Lg{n m i k:Nat}{T:Tn}(h:s.b<20000):s.col n m i k T=some ⟨s.S.cop n m i k T,s.b+1⟩:=by grind [St.col,jy]
theorem IJ{a:Tn->Option St}:Mj a x 0 s=some (s,false):=by grind [Mj]
theorem Kb(h:x.natAbs<2147483648):Uf x=true:=by grind [Uf,jy]
theorem Afu{b:Tn->Option St}{y:Int}(c:x.natAbs=1)(d:y≠0)(a:y.natAbs<2147483648):Mj b x y s=(b ⟨1,0,-(y/x),1⟩).map (·,false):=by
 grind [Mj,KX,Kb]
end Go.Sm
namespace Go.Sm
open Go.Lin
variable {t m:Nat}
theorem Nk{n:Nat}:∀{f i:Nat} {s:St},(∀a,i<=a->a<i+f->AP s.S.d a t=0)->Fa n m t f i s=some s
 | 0,i,s,h=>rfl
 | f+1,i,s,h=>by unfold Fa;rw[h i (ak _) Z,IJ];exact Nk λa b c=>h a Z Z
theorem AcC{x y:Int}(c:x.natAbs=1):y/x=y*x:=by
 grind
theorem NF{n:Nat}(k:t<n)(i:t<m):∀{f j:Nat} {s:St},s.S.Shp n m->(AP s.S.d t t).natAbs=1->t<j->j+f=m->(∀a,t<a->a<n->AP s.S.d a t=0)->(∀b,t<b->b<m->(AP s.S.d t b).natAbs<2147483648)->s.b+f<=20000 →
  ∃d,DN n m t f j false s=some (d,false)/\d.S.Shp n m/\d.b<=s.b+f/\AP d.S.d t t=AP s.S.d t t/\∀a b,t<a->a<n->b<m->AP d.S.d a b=AP s.S.d a b
 | 0,j,s,hS,hx,hj,hf,hz,hw,hb=>⟨s,rfl,hS,ak _,rfl,λa b _ _ _=>rfl⟩
 | f+1,j,s,hS,hx,hj,hf,hz,hw,hb=>by
  have v:j<m:=Z
  by_cases O:AP s.S.d t j=0
  .have x:DN n m t (f+1) j false s=DN n m t f (j+1) false s:=by
    conv=>lhs;unfold DN
    rw[O,IJ];rfl
   rw[x];obtain⟨d,h,c,z,A,B⟩:=NF k i (j:=j+1) (f:=f) hS hx Z Z hz hw (show s.b+f<=20000 by omega);grind
  .have x:DN n m t (f+1) j false s=DN n m t f (j+1) false ⟨s.S.cop n m t j ⟨1,0,-(AP s.S.d t j/AP s.S.d t t),1⟩,s.b+1⟩:=by
    conv=>lhs;unfold DN
    rw[Afu hx O (hw j hj v),Lg Z];rfl
   have y:=GS hS ⟨1,0,-(AP s.S.d t j/AP s.S.d t t),1⟩ i v Z
   have g:∀a,a<n->AP (s.S.cop n m t j ⟨1,0,-(AP s.S.d t j/AP s.S.d t t),1⟩).d a t=AP s.S.d a t:=λa u=>by rw[y a t u,ah rfl];show 1*_+0*_=_;omega
   have l:∀a,a<n->AP (s.S.cop n m t j ⟨1,0,-(AP s.S.d t j/AP s.S.d t t),1⟩).d a j=-(AP s.S.d t j/AP s.S.d t t)*AP s.S.d a t+AP s.S.d a j:=λa u=>by rw[y a j u,af Z,ah rfl];show _*_+1*_=_;rw[jh]
   have p:∀a b,a<n->b≠t->b≠j->AP (s.S.cop n m t j ⟨1,0,-(AP s.S.d t j/AP s.S.d t t),1⟩).d a b=AP s.S.d a b:=λa b u h c=>by rw[y a b u,af h,af c]
   rw[x]
   obtain⟨d,h,c,z,A,B⟩:=NF k i (s:=⟨s.S.cop n m t j ⟨1,0,-(AP s.S.d t j/AP s.S.d t t),1⟩,s.b+1⟩) (j:=j+1) (f:=f) (hS.cop _ _ _) (by show(AP (FS.cop _ _ _ _ _ _).d t t).natAbs=1;rw[g t k];exact hx) Z Z (λa h c=>by show AP (FS.cop _ _ _ _ _ _).d a t=0;rw[g a c];exact hz a h c) (λb h c=>by
    show(AP (FS.cop _ _ _ _ _ _).d t b).natAbs<_;by_cases e:b=j
    .rw[e,l t k,i7,JJ (KX hx)];omega
    .rw[p t b k Z e];exact hw b h c) (show s.b+1+f<=20000 by omega)
   grind
theorem UP{M:List (List Int)}{i:Nat}{p:Int}(a:p.natAbs=1):∀f j,TW M t i p f j=true
 | 0,j=>rfl
 | f+1,j=>by unfold TW;rw[UP a f (j+1),KX a];rfl
theorem TY{M:List (List Int)}{p:Int}(a:p.natAbs=1):∀f i,L2 M m t p f i=true
 | 0,j=>rfl
 | f+1,j=>by unfold L2;rw[TY a f (j+1),UP a];rfl
end Go.Sm
namespace Go.Ch
open Go.Lin Go.Sm
variable {ids:List Int} {g:Int->Int} {c:Int}
theorem Sd(h:Int->Int):∀ids:List Int,(ids.map h).sum=sm ids.length λi=>h (ids.getD i 0)
 | []=>rfl
 | c::ids=>by
  have b:=Sd h ids;rw[dh,fa,b,de,ij ids.length 1,Ac7 1 ids.length];grind [sm,Int,Bt,ij]
theorem UJ:∀{L:List Tm},(∀p∈L,g p.1=0)->lin g L=0
 | [],_=>rfl
 | p::L,h=>by rw[EP,h p ao,UJ λq a=>h q (am _ a)];simp
theorem NA{P:Tm->Bool}:∀{L:List Tm},(∀p∈L,P p=false->g p.1=0)->lin g (L.filter P)=lin g L
 | [],_=>rfl
 | p::L,h=>by
  have a:=NA (L:=L) λq b=>h q (am _ b);cases e:P p with
  | true=>rw[jt e,EP,EP,a]
  | false=>rw[ju (by rw[e];simp),EP,a,h p ao e];simp
theorem PP{P:Tm->Bool}:∀{L:List Tm},(∀p∈L,P p=false->p.1≠c)->cf (L.filter P) c=cf L c
 | [],_=>rfl
 | p::L,h=>by
  have a:=PP (L:=L) λq b=>h q (am _ b);grind [jt,CN,ju,ao]
theorem ME{L:List Tm}(j:ids.Nodup)(h:∀p∈L,g p.1≠0->p.1∈ids):lin g L=sm ids.length λi=>g (ids.getD i 0)*cf L (ids.getD i 0):=by
 rw[<-Sd (λc=>g c*cf L c)]
 have d:lin g (L.filter λp=>decide (p.1∈ids))=lin g L:=NA λp a b=>ax λq=>by have:=h p a q;simp[this]at b
 grind [Lp,dp,fg,PP]
theorem Ju(g:Int->Int){A B:List Tm}(h:∀c,cf A c=cf B c):lin g A=lin g B:=by have d:=LJ (A++B);have b:∀p,p∈A++B->p.1∈(JW (A++B)).map Prod.fst:=λp a=>(OH _ _).2 (List.mem_map_of_mem a);rw[Lp d λp a=>b p (eg _ a),Lp d λp a=>b p (ej _ a)];simp_all
theorem Adi{g:Nat->Int}:∀{ids:List Int} (k:Nat),ids.Nodup->∀j,j<ids.length->cf (ids.zip ((List.range' k ids.length).map g)) (ids.getD j 0)=g (k+j)
 | [],k,_,j,hj=>by simp at hj
 | c::ids,k,hn,j,hj=>by
  obtain⟨b,d⟩:=gt.1 hn;rw[de,List.range'_succ,dh,List.zip_cons_cons,CN];cases j with
  | zero=>
   show(if c=c then g k else 0)+cf _ c=_;rw[ah rfl,E5 λp h (e:p.1=c)=>b (by have:=(List.of_mem_zip (by exact h:(p.1,p.2)∈_)).1;simp_all)];simp
  | succ j=>
   have a:j<ids.length:=by simpa using hj
   have f:ids.getD j 0∈ids:=by rw[show ids.getD j 0=ids[j] by simp[List.getD,a]];exact aq a
   show(if c=ids.getD j 0 then g k else 0)+cf _ (ids.getD j 0)=_;rw[af (λe:c=ids.getD j 0=>b (by rw[e];exact f)),Adi (k+1) d j a,Int.zero_add];congr 1;omega
theorem XC{b:List Int}(h:c ∉ ids):cf (ids.zip b) c=0:=by
 refine E5 λp a (e:p.1=c)=>h ?_;have:=(List.of_mem_zip (by exact a:(p.1,p.2)∈_)).1
 simp_all
theorem Xs{n:Nat}(b:ids.Nodup)(g:Nat->Int)(e:ids.length=n){j:Nat}(a:j<n):cf (ids.zip (DC n g)) (ids.getD j 0)=g j:=by grind [Adi,DC,List.range_eq_range']
theorem AaW(h:c∈ids):∃i,i<ids.length/\ids.getD i 0=c:=by obtain⟨i,a,e⟩:=ef.1 h;exact⟨i,a,by simp_all⟩
end Go.Ch
namespace Go.Sm
open Go.Lin
variable {t m n w a:Nat} {s:St}
abbrev Rw:=Nat->Int
def shf(r:Rw):Rw:=λj=>r (j+1)
def DU:Rw->List Rw->Option (Rw×List Rw)
 | p,[]=>some (p,[])
 | p,r::l=>
  if r 0=0 then(DU p l).map λo=>(o.1,r::o.2)
  else if(p 0).natAbs<=2/\p 0≠0/\(r 0).natAbs<=2 then
   if r 0%p 0=0 then(DU p l).map λo=>(o.1,(λj=>r j-(r 0/p 0)*p j)::o.2)
   else(DU (λj=>r 0*r j) l).map λo=>(o.1,(λj=>p 0*r j-r 0*p j)::o.2)
  else none
def Oi(h:Rw):List Rw->Option (Rw×List Rw)
 | []=>none
 | r::l=>if r 0≠0 then some (r,(λj=>-(h j))::l) else(Oi h l).map λo=>(o.1,r::o.2)
def VF:List Rw->Option (Rw×List Rw)
 | []=>none
 | h::l=>if h 0≠0 then some (h,l) else Oi h l
def okS:Nat->List Rw->Bool
 | 0,_=>true
 | c+1,L=>okS c (L.map shf)&&match VF L with
  | none=>true
  | some (p,l)=>match DU p l with
   | none=>false
   | some (q,l')=>((range (c+1)).all λj=>decide ((q j).natAbs<=2))&&if(q 0).natAbs=1 then okS c (l'.map shf) else l'.all λr=>(range c).all λj=>decide (r (j+1)=0)
theorem Vb{x y:Int}(f:x.natAbs<=2)(c:x≠0)(g:y.natAbs<=2)(d:y≠0)(h:y%x≠0):x.natAbs=2/\y.natAbs=1:=by
 have b:x=1\/x=-1\/x=2\/x=-2:=Z
 grind [Int.emod_neg]
def Ra(m t w:Nat)(s:St)(a:Nat)(r:Rw):Prop:=
 AP s.S.d a t=r 0/\(∀j,j<w->AP s.S.d a (m-w+j)=r (j+1))/\∀b,t<b->b<m-w->AP s.S.d a b=0
theorem Ra.lin{p:St}{i k:Nat}{x y:Int}{r l:Rw}(u:t<m-w)(v:w<=m)(h:∀b,b<m->AP p.S.d a b=x*AP s.S.d i b+y*AP s.S.d k b)(c:Ra m t w s i r)(d:Ra m t w s k l):Ra m t w p a λj=>x*r j+y*l j:=by refine⟨by rw[h t Z,c.1,d.1],λj g=>by rw[h _ Z,c.2.1 j g,d.2.1 j g],λb e f=>by rw[h b Z,c.2.2 b e f,d.2.2 b e f];simp⟩
theorem Ra.congr{d:St}{r:Rw}(i:t<m-w)(k:w<=m)(h:∀b,b<m->AP d.S.d a b=AP s.S.d a b)(c:Ra m t w s a r):Ra m t w d a r:=
 ⟨by rw[h t Z];exact c.1,λj g=>by rw[h _ Z];exact c.2.1 j g,λb e f=>by rw[h b Z];exact c.2.2 b e f⟩
theorem Ra.ext{r b:Rw}(h:∀j,r j=b j)(c:Ra m t w s a r):Ra m t w s a b:=by have:r=b:=funext h;simp_all
theorem Q4:∀{p:Rw} {l:List Rw} {q:Rw} {b:List Rw},DU p l=some (q,b)->b.length=l.length/\∀r∈b,r 0=0
 | p,[],q,b,h=>by
  grind [DU]
 | p,r::l,q,b,h=>by
  unfold DU at h
  have fin:∀(j c:Rw),c 0=0->(DU j l).map (λo=>(o.1,c::o.2))=some (q,b)->b.length=(r::l).length/\∀r∈b,r 0=0:=λj c d e=>by
   obtain⟨⟨y,v⟩,k,u⟩:=ff.1 e;obtain⟨rfl,rfl⟩:y=q/\c::v=b:=by simpa using u
   obtain⟨i,f⟩:=Q4 k;refine⟨by rw[de,i,de],λx g=>?_⟩;rcases be.1 g with rfl|g
   .exact d
   .exact f x g
  split at h
  .rename_i d;exact fin _ _ d h
  .split at h
   .rename_i i;split at h
    .rename_i f;refine fin _ _ ?_ h;grind [JJ]
    .refine fin _ _ ?_ h;grind
   .cases h
theorem Lx(ht:t<n)(f:t<m-w)(M:w<=m):∀(l:List Rw) {i:Nat} {s:St} {p q:Rw} {g:List Rw},s.S.Shp n m->t<i->i+l.length=n->Ra m t w s t p->(∀k (y:k<l.length),Ra m t w s (i+k) l[k])->DU p l=some (q,g)->s.b+l.length<=20000 →
    ∃c,Fa n m t l.length i s=some c/\c.S.Shp n m/\c.b<=s.b+l.length/\Ra m t w c t q/\(∀k (y:k<g.length),Ra m t w c (i+k) g[k])/\∀a b,a<i->a≠t->b<m->AP c.S.d a b=AP s.S.d a b
  | [],i,s,p,q,g,hS,hi,hn,hp,hl,h,d=>by
    unfold DU at h;obtain⟨rfl,rfl⟩:p=q/\[]=g:=by simp_all
    exact⟨s,Y,hS,ak _,hp,nofun,λ_ _ _ _ _=>rfl⟩
  | r::l,i,s,p,q,g,hS,hi,hn,hp,hl,h,d=>by
    rw[de]at hn d;have hin:i<n:=Z
    have L:t≠i:=Z
    have htm:t<m:=Z
    have Q:Ra m t w s i r:=hl 0 σ;have hx:AP s.S.d t t=p 0:=hp.1;have hy:AP s.S.d i t=r 0:=Q.1;unfold DU at h
    have go:∀(u:St) (p' R:Rw),Mj (λT=>s.row n m t i T) (p 0) (r 0) s=some (u,(false:Bool))\/Mj (λT=>s.row n m t i T) (p 0) (r 0) s=some (u,true)->u.S.Shp n m->u.b<=s.b+1->Ra m t w u t p'->Ra m t w u i R->(∀a b,a≠t->a≠i->b<m->AP u.S.d a b=AP s.S.d a b)->(DU p' l).map (λo=>(o.1,R::o.2))=some (q,g) →
        ∃c,Fa n m t (r::l).length i s=some c/\c.S.Shp n m/\c.b<=s.b+(r::l).length/\Ra m t w c t q/\(∀k (y:k<g.length),Ra m t w c (i+k) g[k])/\∀a b,a<i->a≠t->b<m->AP c.S.d a b=AP s.S.d a b:=λu p' R P hS1 hb1 v x O e=>by
      obtain⟨⟨q2,l2⟩,e1,e2⟩:=ff.1 e;obtain⟨rfl,rfl⟩:q2=q/\R::l2=g:=by simpa using e2
      obtain⟨c,k1,k2,k3,k4,k5,k6⟩:=Lx ht f M l (i:=i+1) (s:=u) hS1 Z Z v (λk y=>by
        have:=hl (k+1) (by simp;omega);rw[show i+1+k=i+(k+1) by omega]
        exact Ra.congr f M (λb d=>O _ b Z Z d) this) e1 Z
      refine⟨c,?_,k2,by rw[de];omega,k4,λk y=>?_,λa b ha A B=>by rw[k6 a b Z A B,O a b A Z B]⟩
      all_goals grind [de,Fa,Ra.congr]
    by_cases z:r 0=0
    · rw[ah z]at h;exact go s p r (.inl (by rw[z,IJ])) hS Z hp Q (λ_ _ _ _ _=>rfl) h
    · rw[af z]at h;by_cases v:(p 0).natAbs<=2/\p 0≠0/\(r 0).natAbs<=2
      · rw[ah v]at h
        have K:¬(p 0=0\/Uf (p 0)=false\/Uf (r 0)=false):=by
          rw[Kb (show(p 0).natAbs<2147483648 by omega),Kb (show(r 0).natAbs<2147483648 by omega)];rintro(q|q|q)
          · exact v.2.1 q
          · cases q
          · cases q
        have st:∀T,Ra m t w ⟨s.S.rop n m t i T,s.b+1⟩ t (λj=>T.a*p j+T.b*r j)/\Ra m t w ⟨s.S.rop n m t i T,s.b+1⟩ i (λj=>T.c*p j+T.d*r j)/\∀a b,a≠t->a≠i->b<m->AP (s.S.rop n m t i T).d a b=AP s.S.d a b:=λT=>by
          have ed:=Ji hS T ht hin L;refine⟨Ra.lin f M (λb d=>?_) hp Q,Ra.lin f M (λb d=>?_) hp Q,λa b O h4 d=>?_⟩
          · show AP (s.S.rop n m t i T).d t b=_;rw[ed t b d,ah rfl]
          · show AP (s.S.rop n m t i T).d i b=_;rw[ed i b d,af (gx L),ah rfl]
          · rw[ed a b d,af O,af h4]
        by_cases x:r 0%p 0=0
        · rw[ah x]at h;obtain⟨S,a2,a3⟩:=st ⟨1,0,-(r 0/p 0),1⟩;refine go ⟨s.S.rop n m t i ⟨1,0,-(r 0/p 0),1⟩,s.b+1⟩ p _ (.inl ?_) (hS.rop _ _ _) (ak _) (S.ext λj=>?_) (a2.ext λj=>?_) a3 h
          · unfold Mj;rw[af z,af K,ah x]
            dsimp only
            rw[NR (show s.b<20000 by omega)];rfl
          · show 1*p j+0*r j=p j;omega
          · show -(r 0/p 0)*p j+1*r j=r j-r 0/p 0*p j;rw[i7];omega
        · rw[af x]at h;obtain⟨S,a2,a3⟩:=st ⟨0,r 0,-(r 0),p 0⟩;refine go ⟨s.S.rop n m t i ⟨0,r 0,-(r 0),p 0⟩,s.b+1⟩ _ _ (.inr ?_) (hS.rop _ _ _) (ak _) (S.ext λj=>?_) (a2.ext λj=>?_) a3 h
          · unfold Mj;rw[af z,af K,af x,ah (Vb v.1 v.2.1 v.2.2 z x)]
            dsimp only
            rw[NR (show s.b<20000 by omega)];rfl
          · show 0*p j+r 0*r j=r 0*r j;omega
          · show -(r 0)*p j+p 0*r j=p 0*r j-r 0*p j;rw[i7];omega
      simp_all
theorem Ol:∀{f j:Nat} {c:Bool} {s:St},(∀b,j<=b->b<j+f->AP s.S.d t b=0)->DN n m t f j c s=some (s,c)
 | 0,j,c,s,h=>rfl
 | f+1,j,c,s,h=>by unfold DN;rw[h j (ak _) Z,IJ];simp only[Bool.or_false];exact Ol λb d e=>h b Z Z
structure Ab2(n m t:Nat)(s:St):Prop where
 shp:s.S.Shp n m
 z:∀a b,t<a->a<n->t<=b->b<m->AP s.S.d a b=0
 x:AP s.S.d t t≠0/\(AP s.S.d t t).natAbs<=2
 y:∀b,t<b->b<m->(AP s.S.d t b).natAbs<=2
theorem LD(u:t<n)(i:t<m):∀{f j:Nat} {c:Bool} {s:St},Ab2 n m t s->t<j->j+f=m->(∀b,t<b->b<j->AP s.S.d t b=0)->s.b+f<=20000 →
    ∃d k,DN n m t f j c s=some (d,k)/\Ab2 n m t d/\d.b<=s.b+f/\∀b,t<b->b<m->AP d.S.d t b=0
  | 0,j,c,s,F,hj,hf,hz,hb=>⟨s,c,rfl,F,ak _,λb g h=>hz b g Z⟩
  | f+1,j,c,s,F,hj,hf,hz,hb=>by
    have p:j<m:=Z
    have step:∀(T:Tn) (A:Bool),Mj (λT=>s.col n m t j T) (AP s.S.d t t) (AP s.S.d t j) s=some (⟨s.S.cop n m t j T,s.b+1⟩,A)->T.c*AP s.S.d t t+T.d*AP s.S.d t j=0->T.a*AP s.S.d t t+T.b*AP s.S.d t j≠0->(T.a*AP s.S.d t t+T.b*AP s.S.d t j).natAbs<=2 →
        ∃d k,DN n m t (f+1) j c s=some (d,k)/\Ab2 n m t d/\d.b<=s.b+(f+1)/\∀b,t<b->b<m->AP d.S.d t b=0:=λT A e R K L=>by
      have y:=GS F.shp T i p Z
      have F':Ab2 n m t ⟨s.S.cop n m t j T,s.b+1⟩:=by
        refine⟨F.shp.cop _ _ _,λa b g h h3 h4=>?_,?_,λb g h=>?_⟩
        · show AP (s.S.cop n m t j T).d a b=0;rw[y a b h,F.z a t g h (ak _) i,F.z a j g h Z p,F.z a b g h h3 h4];simp
        · show AP (s.S.cop n m t j T).d t t≠0/\(AP (s.S.cop n m t j T).d t t).natAbs<=2;rw[y t t u,ah rfl];exact⟨K,L⟩
        · show(AP (s.S.cop n m t j T).d t b).natAbs<=2;rw[y t b u,af Z];by_cases l:b=j
          · rw[ah l,R];decide
          · rw[af l];exact F.y b g h
      obtain⟨d,k,O,P,S,Q⟩:=LD u i (f:=f) (j:=j+1) (c:=c||A) F' Z Z (λb g h=>by
        show AP (s.S.cop n m t j T).d t b=0;rw[y t b u,af Z];by_cases l:b=j
        · rw[ah l];exact R
        · rw[af l];exact hz b g Z) (by show s.b+1+f<=20000;omega)
      grind [DN]
    by_cases v:AP s.S.d t j=0
    · obtain⟨d,k,O,P,S,Q⟩:=LD u i (f:=f) (j:=j+1) (c:=c) F Z Z (λb g h=>by
        by_cases l:b=j
        · rw[l];exact v
        · exact hz b g Z) Z
      grind [DN,IJ]
    · have M:=F.y j hj p
      have r:¬(AP s.S.d t t=0\/Uf (AP s.S.d t t)=false\/Uf (AP s.S.d t j)=false):=by
        have:=F.x.2;rw[Kb (show(AP s.S.d t t).natAbs<2147483648 by omega),Kb (show(AP s.S.d t j).natAbs<2147483648 by omega)];rintro(q|q|q)
        · exact F.x.1 q
        · cases q
        · cases q
      by_cases z:AP s.S.d t j%AP s.S.d t t=0
      · refine step ⟨1,0,-(AP s.S.d t j/AP s.S.d t t),1⟩ false ?_ ?_ ?_ ?_
        · grind [Mj,Lg]
        · grind [AP,i7,JJ]
        · simp_all
        · show(1*AP s.S.d t t+0*AP s.S.d t j).natAbs<=2;have:=F.x.2;omega
      · have B:=Vb F.x.2 F.x.1 M v z;have x:AP s.S.d t j*AP s.S.d t j=1:=by rcases (Z:AP s.S.d t j=1\/AP s.S.d t j=-1) with e|e<;>rw[e]<;>rfl
        refine step ⟨0,AP s.S.d t j,-(AP s.S.d t j),AP s.S.d t t⟩ true ?_ ?_ ?_ ?_
        · unfold Mj;rw[af v,af r,af z,ah B]
          dsimp only
          rw[Lg (show s.b<20000 by omega)];rfl
        all_goals grind
theorem Py{M:List (List Int)}{i:Nat}{p:Int}:∀f j,(∀b,j<=b->b<j+f->AP M i b=0)->TW M t i p f j=true
 | 0,j,_=>rfl
 | f+1,j,h=>by unfold TW;rw[Py f (j+1) λb c d=>h b Z Z,h j (ak _) Z];simp
theorem PD{M:List (List Int)}{p:Int}(c:t<m):∀f i,(∀a b,i<=a->a<i+f->t<b->b<m->AP M a b=0)->L2 M m t p f i=true
 | 0,j,_=>rfl
 | f+1,i,h=>by unfold L2;rw[PD c f (i+1) λa b d e=>h a b Z Z,Py _ _ λb d e=>h i b (ak _) Z Z Z];rfl
theorem PU{f:Nat}(h:∀a b,t<=a->a<n->t<=b->b<m->AP s.S.d a b=0):D8 n m f t s=some s:=by
 cases f with
 | zero=>rfl
 | succ f=>
  unfold D8;split
  .have e:EK n m t s=some (s,false):=by
    unfold EK;cases e0:Iq s.S.d n t (m-t) t with
    | none=>rfl
    | some p=>
     obtain⟨i,j⟩:=p;obtain⟨c,k,d,l,g⟩:=JI e0;grind
   rw[e]
  .rfl
theorem PA(k:t<n)(l:t<m){c:St}(e:c.S.Shp n m)(f:Dy n m t 10 s=some c)(p:AP c.S.d t t≠0)(r:(AP c.S.d t t).natAbs<=2)(j:L2 c.S.d m t (AP c.S.d t t) (n-(t+1)) (t+1)=true) :
  ∃d,IR n m t s=some d/\d.S.Shp n m/\d.b=c.b/\∀a b,t<a->b<m->AP d.S.d a b=AP c.S.d a b:=by
 unfold IR;rw[f];simp only
 rw[af (by
  rw[Kb (show(AP c.S.d t t).natAbs<2147483648 by omega)];rintro(h|h)
  .exact p h
  .cases h),ah j]
 by_cases g:AP c.S.d t t<0
 .rw[ah g];refine⟨_,Y,e.neg t,Y,λa b u i=>?_⟩;rw[S9 e k a b i,af Z]
 grind
def Rb(m t w:Nat)(s:St)(a:Nat)(r:Rw):Prop:=(∀j,j<w->AP s.S.d a (m-w+j)=r j)/\∀b,t<=b->b<m-w->AP s.S.d a b=0
structure Sim(n m t:Nat)(s:St)(L:List Rw)(w:Nat):Prop where
 shp:s.S.Shp n m
 len:t+L.length=n
 wid:w<=m/\t<=m-w
 row:∀k (hk:k<L.length),Rb m t w s (t+k) L[k]
theorem WE{p q:Rw}{l g:List Rw}(y:t<n)(z:t<m-w)(hw:w<=m)(hS:s.S.Shp n m)(hn:t+1+l.length=n)(hp:Ra m t w s t p)(hl:∀k (d:k<l.length),Ra m t w s (t+1+k) l[k])(h:DU p l=some (q,g))(hq:(q 0).natAbs=1)(u:∀j,j<w->(q (j+1)).natAbs<=2)(hb:s.b+(n+m)<=20000) :
  ∃c,IR n m t s=some c/\c.b<=s.b+(n+m)/\Sim n m (t+1) c (g.map shf) w:=by
 have e:t<m:=Z
 obtain⟨e1,e2⟩:=Q4 h;obtain⟨L,r1,r2,r3,K,R,r6⟩:=Lx y z hw l (i:=t+1) (s:=s) hS Z Z hp hl h Z
 have hz:∀a,t<a->a<n->AP L.S.d a t=0:=λa i r=>by
  have d:a-(t+1)<g.length:=Z
  have:=(R _ d).1;grind [aq]
 have f:(AP L.S.d t t).natAbs=1:=by rw[K.1];exact hq
 have A:∀b,t<b->b<m->(AP L.S.d t b).natAbs<2147483648:=λb i r=>by
  by_cases h3:b<m-w
  .rw[K.2.2 b i h3];decide
  .have:=K.2.1 (b-(m-w)) Z;grind
 obtain⟨M,S,T,c3,c4,O⟩:=NF y e (f:=m-(t+1)) (j:=t+1) r2 f Z Z hz A Z
 have v:Dy n m t 10 s=some M:=by
  show(match pass n m t s with|none=>none|some (c,true)=>Dy n m t 9 c|some (c,false)=>some c)=_
  have:pass n m t s=some (M,false):=by unfold pass;rw[show n-(t+1)=l.length by omega,r1];exact S
  rw[this]
 have B:(AP M.S.d t t).natAbs=1:=by rw[c4];exact f
 obtain⟨c,k1,k2,k3,Q⟩:=PA y e T v Z Z (TY B _ _);refine⟨c,k1,Z,⟨k2,by simp_all,Z,λk d=>?_⟩⟩;have x:k<g.length:=by rwa [bb]at d
 have P:=R k x;rw[fd];refine⟨λj hj=>?_,λb i r=>?_⟩
 .rw[Q _ _ Z Z,O _ _ Z Z Z];exact P.2.1 j hj
 .rw[Q _ _ Z Z,O _ _ Z Z Z];exact P.2.2 b Z r
theorem VZ{p q:Rw}{l R:List Rw}(O:t<n)(P:t<m-w)(hw:w<=m)(hS:s.S.Shp n m)(hn:t+1+l.length=n)(hp:Ra m t w s t p)(hl:∀k (B:k<l.length),Ra m t w s (t+1+k) l[k])(h:DU p l=some (q,R))(M:q 0≠0)(hq:(q 0).natAbs<=2)(y:∀j,j<w->(q (j+1)).natAbs<=2)(Q:∀r∈R,∀j,j<w->r (j+1)=0)(hb:s.b+(n+m)<=20000) :
  ∃c,IR n m t s=some c/\∀a b,t+1<=a->a<n->t+1<=b->b<m->AP c.S.d a b=0:=by
 have d:t<m:=Z
 obtain⟨e1,e2⟩:=Q4 h;obtain⟨s1,r1,r2,r3,S,r5,r6⟩:=Lx O P hw l (i:=t+1) (s:=s) hS Z Z hp hl h Z
 have F1:Ab2 n m t s1:=by
  refine⟨r2,λa b e f v i=>?_,by rw[S.1];omega,λb e f=>?_⟩
  .have B:a-(t+1)<R.length:=Z
   have x:=r5 _ B;rw[show t+1+(a-(t+1))=a by omega]at x;have hm:=aq B;by_cases z:b=t
   .rw[z,x.1,e2 _ hm]
   .by_cases h5:b<m-w
    .exact x.2.2 b Z h5
    .have:=x.2.1 (b-(m-w)) Z;rw[show m-w+(b-(m-w))=b by omega]at this;rw[this,Q _ hm _ Z]
  .by_cases v:b<m-w
   .rw[S.2.2 b e v];decide
   .have:=S.2.1 (b-(m-w)) Z;grind
 obtain⟨u,T,c1,g,c3,c4⟩:=LD O d (f:=m-(t+1)) (j:=t+1) (c:=false) F1 Z Z (λb e f=>Z) Z
 have K:pass n m t s=some (u,T):=by unfold pass;rw[show n-(t+1)=l.length by omega,r1];exact c1
 have L:pass n m t u=some (u,false):=by unfold pass;rw[Nk λa e f=>g.z a t Z Z (ak _) d];exact Ol λb e f=>c4 b Z Z
 have A:Dy n m t 10 s=some u:=by
  show(match pass n m t s with|none=>none|some (c,true)=>Dy n m t 9 c|some (c,false)=>some c)=_;rw[K];cases T with
  | false=>rfl
  | true=>
   grind [pass,Dy]
 obtain⟨c,k1,k2,k3,k4⟩:=PA O d g.shp A g.x.1 g.x.2 (PD d _ _ λa b e f v i=>g.z a b Z Z Z i);exact⟨c,k1,λa b e f v i=>by rw[k4 a b Z i,g.z a b Z f Z i]⟩
end Go.Sm
namespace Go.Sm
open Go.Lin
variable {L l:List Rw} {w n:Nat} {p:Rw}
theorem Tz{M:List (List Int)}{j:Nat}:∀{f i a:Nat},NQ M n j f i=some a->∀c,i<=c->c<a->AP M c j=0
 | 0,i,a,h=>by cases h
 | f+1,i,a,h=>λc g d=>by
  unfold NQ at h;split at h
  .have h:=ay h;omega
  .rename_i b;by_cases e:c=i
   .rw[e];exact ax b
   .exact Tz h c Z d
theorem Ux{M:List (List Int)}{t:Nat}:∀{f j a b:Nat},Iq M n t f j=some (a,b)->(∀c d,t<=c->c<n->j<=d->d<b->AP M c d=0)/\∀c,t<=c->c<a->AP M c b=0
 | 0,j,a,b,h=>by cases h
 | f+1,j,a,b,h=>by
  unfold Iq at h;split at h
  .rename_i i m;have h:=ay h;injection h with g r;subst g r;exact⟨λc d _ _ s k=>Z,λc s k=>Tz m c s k⟩
  .rename_i m;obtain⟨u,v⟩:=Ux h;refine⟨λc d g r s k=>?_,v⟩;by_cases e:d=j
   .rw[e];exact LY m c g Z
   .exact u c d g r Z k
theorem Uq(h:Rw):∀(L:List Rw) {p:Rw} {l:List Rw},Oi h L=some (p,l)->l.length=L.length/\∃k,∃g:k<L.length,L[k]=p/\p 0≠0/\(∀i (b:i<k),(L[i]'Z) 0=0)/\∀i (b:i<l.length) (a:i<L.length),l[i]=if i=k then(λj=>-(h j)) else L[i]
 | [],p,l,e=>by cases e
 | r::L,p,l,e=>by
  unfold Oi at e;split at e
  .rename_i f;have e:=ay e;injection e with d c;subst d c;refine⟨Y,0,by simp,rfl,f,λi b=>Z,λi b a=>?_⟩;grind
  .rename_i f;obtain⟨⟨y,x⟩,d,c⟩:=ff.1 e;injection c with c e3;subst c e3;obtain⟨m,k,g,s,t,u,v⟩:=Uq h L d;refine⟨by simp[m],k+1,by simpa using g,s,t,λi b=>?_,λi b a=>?_⟩
   .cases i with
    | zero=>exact ax f
    | succ i=>exact u i Z
   grind
theorem Li(e:VF L=some (p,l)):l.length+1=L.length/\∃k,∃d:k<L.length,L[k]=p/\p 0≠0/\(∀i (b:i<k),(L[i]'Z) 0=0)/\∀i (b:i<l.length) (a:i+1<L.length),l[i]=if i+1=k then(λj=>-((L[0]'Z) j)) else L[i+1]:=by
 cases L with
 | nil=>cases e
 | cons h L=>
  have e:(if h 0≠0 then some (h,L) else Oi h L)=some (p,l):=e;split at e
  .rename_i c;have e:=ay e;injection e with e1 e2;subst e1 e2;exact⟨Y,0,by simp,rfl,c,λi b=>Z,λi b a=>by simp_all⟩
  .rename_i c;obtain⟨f,k,d,g,m,r,s⟩:=Uq h L e;refine⟨by simp[f],k+1,by simp_all,g,m,λi b=>?_,λi b a=>?_⟩
   .cases i with
    | zero=>exact ax c
    | succ i=>exact r i Z
   .have:=s i b (by simpa using a);simp_all
theorem TE:∀{L:List Rw},VF L=none->∀r∈L,r 0=0:=by
 have c:∀(h:Rw) (L:List Rw),Oi h L=none->∀r∈L,r 0=0:=by
  intro h L
  induction L with
  | nil=>simp_all
  | cons x L ih=>
   grind [Oi,be,Option.map_eq_none_iff]
 intro L e r a;cases L with
 | nil=>cases a
 | cons h L=>
  have e:(if h 0≠0 then some (h,L) else Oi h L)=none:=e;grind
theorem ZX{m t:Nat}{s:St}(I:Sim n m t s L (w+1))(e:VF L=some (p,l))(hb:s.b+2<=20000) :
    t<n/\t<m-w/\∃c,EK n m t s=some (c,true)/\c.S.Shp n m/\c.b<=s.b+2/\t+1+l.length=n/\Ra m t w c t p/\∀k (hk:k<l.length),Ra m t w c (t+1+k) l[k]:=by
  obtain⟨hS,hlen,⟨hw1,hw2⟩,f⟩:=I;obtain⟨h1,k,hk,h2,h3,h4,h5⟩:=Li e;have htn:t<n:=Z
  have htw:t<m-w:=Z
  have htm:t<m:=Z
  -- the column of the pivot
  have y:∀i (d:i<L.length),AP s.S.d (t+i) (m-w-1)=L[i] 0:=λi d=>by
    have:=(f i d).1 0 Z
    omega
  have R:AP s.S.d (t+k) (m-w-1)≠0:=by rw[y k hk,h2];exact h3
  have hf:Iq s.S.d n t (m-t) t=some (t+k,m-w-1):=by
    cases e0:Iq s.S.d n t (m-t) t with
    | none=>grind [LA]
    | some ab=>
      obtain⟨a,b⟩:=ab;obtain⟨q1,q2,q3,q4,q5⟩:=JI e0;obtain⟨m1,m2⟩:=Ux e0
      have hb1:¬b<m-w-1:=λq=>q5 (by
        have:=(f (a-t) Z).2 b q3 Z
        rwa [show t+(a-t)=a by omega]at this)
      have hb2:¬m-w-1<b:=λq=>R (m1 (t+k) (m-w-1) Z Z Z q);have hbe:b=m-w-1:=Z
      subst hbe
      have ha1:¬a<t+k:=λq=>q5 (by
        have:=y (a-t) Z;rw[show t+(a-t)=a by omega]at this;rw[this]
        exact h4 (a-t) Z)
      grind
  refine⟨htn,htw,?_⟩;unfold EK;rw[hf];simp only
  -- the rows
  have st1:∃c,(if t+k=t then some s else s.row n m t (t+k) swp)=some c/\c.S.Shp n m/\c.b<=s.b+1/\(∀b,b<m->AP c.S.d t b=AP s.S.d (t+k) b)/\∀i (d:i+1<L.length),∀b,b<m->AP c.S.d (t+1+i) b=if i+1=k then -(AP s.S.d t b) else AP s.S.d (t+1+i) b:=by
    by_cases e1:k=0
    · simp_all
    · rw[af Z,NR Z];have S:=Ji hS swp htn (show t+k<n by omega) Z;refine⟨_,Y,hS.rop _ _ _,ak _,λb Q=>?_,λi d b Q=>?_⟩
      all_goals grind [AP,swp]
  obtain⟨c,e1,P,hb1,t1,t2⟩:=st1;rw[e1];simp only;have hrowk:=f k hk
  -- a row of the first state
  have A:∀i (d:i<L.length),(∀b,t<=b->b<m-w-1->AP s.S.d (t+i) b=0)/\AP s.S.d (t+i) (m-w-1)=L[i] 0/\∀j,j<w->AP s.S.d (t+i) (m-w+j)=L[i] (j+1):=λi d=>by
    refine⟨λb B M=>(f i d).2 b B Z,y i d,λj K=>?_⟩;have:=(f i d).1 (j+1) Z
    grind
  have rs1:∀i (r:Rw),(i=0/\r=p)\/(∃j,∃K:j<l.length,i=j+1/\r=l[j])->(∀b,t<=b->b<m-w-1->AP c.S.d (t+i) b=0)/\AP c.S.d (t+i) (m-w-1)=r 0/\∀j,j<w->AP c.S.d (t+i) (m-w+j)=r (j+1):=λi r h=>by
    rcases h with ⟨rfl,rfl⟩|⟨g,hj0,rfl,rfl⟩
    · obtain⟨z,u,v⟩:=A k hk;rw[h2]at u v;grind
    · have O:g+1<L.length:=Z
      rw[show t+(g+1)=t+1+g by omega,h5 g hj0 O];grind
  have fin:∀T,T.S.Shp n m->T.b<=c.b+1->(∀i (r:Rw),t+i<n->((∀b,t<=b->b<m-w-1->AP c.S.d (t+i) b=0)/\AP c.S.d (t+i) (m-w-1)=r 0/\∀j,j<w->AP c.S.d (t+i) (m-w+j)=r (j+1))->Ra m t w T (t+i) r) →
      ∃s3,some (T,true)=some (s3,true)/\s3.S.Shp n m/\s3.b<=s.b+2/\t+1+l.length=n/\Ra m t w s3 t p/\∀k (hk:k<l.length),Ra m t w s3 (t+1+k) l[k]:=λT g1 g2 g3=>by
    refine⟨T,Y,g1,Z,Z,?_,λi d=>?_⟩
    · exact g3 0 p Z<|rs1 0 p<|.inl ⟨Y,Y⟩
    · have:=g3 (i+1) l[i] Z (rs1 (i+1) _ (.inr ⟨i,d,Y,Y⟩))
      grind
  by_cases e3:m-w-1=t
  · rw[ah e3];simp only;refine fin c P Z λi r d ⟨z,u,v⟩=>⟨by grind,v,λb B M=>Z⟩
  · rw[af e3,Lg Z];simp only;have S:=GS P swp htm (show m-w-1<m by omega) Z;refine fin _ (P.cop _ _ _) (ak _) λi r d ⟨z,u,v⟩=>⟨?_,λj K=>?_,λb B M=>?_⟩
    · grind [AP,swp]
    · show AP (c.S.cop n m t (m-w-1) swp).d (t+i) _=_;rw[S _ _ d,af Z,af Z];exact v j K
    · show AP (c.S.cop n m t (m-w-1) swp).d (t+i) b=0;rw[S _ _ d,af Z];by_cases e4:b=m-w-1
      · rw[ah e4,z t (ak _) Z];show -1*0+0*_=(0:Int);omega
      grind
def SE(w:Nat)(L:List Rw):Prop:=∀(n m t f:Nat) (s:St),Sim n m t s L w->s.b+f*(n+m+2)<=20000->∃s',D8 n m f t s=some s'
theorem PJ(h:∀r∈L,∀j,j<w->r j=0):SE w L:=λn m t f s I _=>by
 obtain⟨A,d,⟨u,v⟩,c⟩:=I;refine⟨s,PU λa b x y i z=>?_⟩;obtain⟨e,g⟩:=c (a-t) Z;rw[show t+(a-t)=a by omega]at e g;by_cases k:b<m-w
 .simp_all
 .have:=e (b-(m-w)) Z;grind [aq]
theorem Ia{b:List Rw}(G:SE w L)(A:L.length=b.length)(h:∀i (y:i<L.length) (z:i<b.length),∀j,j<w->L[i] j=b[i] j):SE w b:=λn m t f s I g=>by obtain⟨e,d,u,a⟩:=I;refine G n m t f s ⟨e,Z,u,λk r=>?_⟩ g;obtain⟨v,x⟩:=a k Z;exact⟨λj c=>by grind,x⟩
theorem Aad(h:∀r∈L,r 0=0)(G:SE w (L.map shf)):SE (w+1) L:=λn m t f s I v=>by
 obtain⟨u,c,⟨y,z⟩,d⟩:=I;refine G n m t f s ⟨u,by rw[bb];exact c,Z,λk x=>?_⟩ v;have a:k<L.length:=by rwa [bb]at x
 obtain⟨g,A⟩:=d k a;rw[fd];refine⟨λj K=>?_,λb i B=>?_⟩
 .have:=g (j+1) Z
  rwa [show m-(w+1)+(j+1)=m-w+j by omega]at this
 grind [aq]
theorem Aaw{q:Rw}{v:List Rw}(e:VF L=some (p,l))(h:DU p l=some (q,v))(b:∀j,j<w+1->(q j).natAbs<=2)(k:q 0≠0)(G:((q 0).natAbs=1/\SE w (v.map shf))\/∀r∈v,∀j,j<w->r (j+1)=0):SE (w+1) L:=λn m t f s I K=>by
 have R:w+1<=m:=I.wid.1;cases f with
 | zero=>exact⟨s,Y⟩
 | succ f=>
  rw[dq,gn]at K;obtain⟨d,g,T,B,c,M,a,z,y⟩:=ZX I e Z;unfold D8;rw[ah Z,B];simp only;rcases G with ⟨Q,G⟩|S
  .obtain⟨x,i,O,A⟩:=WE d g Z c a z y h Q (λj P=>b _ Z) Z;rw[i];exact G n m (t+1) f x A Z
  grind [VZ,PU]
end Go.Sm
namespace Go.Sm
open Go.Lin
variable {L:List Rw} {σ:Nat->Nat}
def Io(σ:Nat->Nat)(r:Rw):Rw:=λj=>r (σ j)
def JZ(c:Nat)(L:List Rw):Prop:=∀(w:Nat) (σ:Nat->Nat),(∀i j,i<j->j<w->σ i<σ j)->(∀j,j<w->σ j<c)->SE w (L.map (Io σ))
theorem Kx(a:σ 0=0):∀(l:List Rw) (p:Rw),DU (Io σ p) (l.map (Io σ))=(DU p l).map λo=>(Io σ o.1,o.2.map (Io σ))
 | [],p=>rfl
 | r::l,p=>by
  rw[dh];unfold DU;have b:Io σ r 0=r 0:=by unfold Io;rw[a]
  have c:Io σ p 0=p 0:=by unfold Io;rw[a]
  rw[b,c];split
  .rw[Kx a l p];cases DU p l<;>rfl
  .split
   .split
    .rw[Kx a l p];cases DU p l<;>rfl
    .have:=Kx a l (λj=>r 0*r j);rw[show(Io σ λj=>r 0*r j)=λj=>r 0*Io σ r j from Y]at this;rw[this];cases DU (λj=>r 0*r j) l<;>rfl
   .rfl
theorem XJ(a:σ 0=0)(h:Rw):∀(l:List Rw),Oi (Io σ h) (l.map (Io σ))=(Oi h l).map λo=>(Io σ o.1,o.2.map (Io σ))
 | []=>rfl
 | r::l=>by
  rw[dh];unfold Oi;have b:Io σ r 0=r 0:=by unfold Io;rw[a]
  rw[b,XJ a h l];split
  .rfl
  .cases Oi h l<;>rfl
theorem Ae2(a:σ 0=0):∀(L:List Rw),VF (L.map (Io σ))=(VF L).map λo=>(Io σ o.1,o.2.map (Io σ))
 | []=>rfl
 | h::l=>by
  show(if Io σ h 0≠0 then some (Io σ h,l.map (Io σ)) else Oi (Io σ h) (l.map (Io σ)))=((if h 0≠0 then some (h,l) else Oi h l):Option (Rw×List Rw)).map _;grind [Io,XJ]
theorem J7{c:Nat}(B:JZ c (L.map shf))(M:∀p l,VF L=some (p,l)->∃q m,DU p l=some (q,m)/\q 0≠0/\(∀j,j<c+1->(q j).natAbs<=2)/\(((q 0).natAbs=1/\JZ c (m.map shf))\/∀r∈m,∀j,j<c->r (j+1)=0)):JZ (c+1) L:=λw σ v s=>by
 cases w with
 | zero=>grind [PJ]
 | succ w=>
  have a:∀j,0<j->j<w+1->0<σ j:=λj b g=>by grind
  by_cases u:σ 0=0
  ·-- this column is chosen
   have x:SE w (((L.map (Io σ))).map shf):=by
    refine Ia (B w (fun j=>σ (j+1)-1) (fun i j b g=>?_) (fun j b=>?_)) (by simp) fun i b g j h=>?_
    .have n:=v (i+1) (j+1) Z Z;grind
    .grind
    .simp only[fd];show(L[i]'_) (σ (j+1)-1+1)=(L[i]'_) (σ (j+1));grind
   cases e:VF L with
   | none=>
    refine Aad (λr A=>?_) x;obtain⟨t,k,rfl⟩:=ai.1 A;show t (σ 0)=0;grind [TE]
   | some o=>
    obtain⟨p,l⟩:=o;obtain⟨q,m,O,y,z,G⟩:=M p l e;have P:VF (L.map (Io σ))=some (Io σ p,l.map (Io σ)):=by rw[Ae2 u,e];rfl
    have Q:DU (Io σ p) (l.map (Io σ))=some (Io σ q,m.map (Io σ)):=by rw[Kx u,O];rfl
    have K:Io σ q 0=q 0:=by unfold Io;rw[u]
    refine Aaw P Q (λj h=>z _<|s j h) (by omega) ?_;rcases G with ⟨R,G⟩|S
    .refine .inl ⟨by omega,?_⟩;refine Ia (G w (fun j=>σ (j+1)-1) (fun i j b g=>?_) (fun j b=>?_)) (by simp) fun i b g j h=>?_
     .have n:=v (i+1) (j+1) Z Z;grind
     .grind
     .simp only[fd];show(m[i]'_) (σ (j+1)-1+1)=(m[i]'_) (σ (j+1));grind
    .refine .inr λr A j h=>?_;obtain⟨t,k,rfl⟩:=ai.1 A;show t (σ (j+1))=0;have n:=s (j+1) Z;have f:=a (j+1) Z Z;have:=S t k (σ (j+1)-1) Z
     grind
  .have d:∀j,j<w+1->0<σ j:=λj b=>by
    grind
   refine Ia (B (w+1) (fun j=>σ j-1) (fun i j b g=>?_) (fun j b=>?_)) (by simp) fun i b g j h=>?_
   .grind
   .grind
   .simp only[fd];show(L[i]'_) (σ j-1+1)=(L[i]'_) (σ j);grind
theorem OG:JZ 0 L:=λw σ _ a=>by
 cases w with
 | zero=>grind [PJ]
 | succ w=>exact lj (a 0 Z) Z
theorem GU{c:Nat}{a:List Rw}(G:JZ c L)(g:L.length=a.length)(h:∀i (b:i<L.length) (d:i<a.length),∀j,j<c->L[i] j=a[i] j):JZ c a:=λw σ k e=>
 Ia (G w σ k e) (by simp[g]) λi b d j f=>by simp only[fd];exact h i (by simp_all) (by simp_all) _<|e j f
theorem XI:∀{l:List Rw} {p q:Rw} {a:List Rw},p 0≠0->DU p l=some (q,a)->q 0≠0
 :=by intro x;induction x<;>grind [DU,ff,Int.mul_ne_zero]
theorem Agw{p:Rw}{l:List Rw}(e:VF L=some (p,l)):p 0≠0:=by obtain⟨_,k,_,_,h,_⟩:=Li e;exact h
theorem NV:∀(c:Nat) (L:List Rw),okS c L=true->JZ c L
 | 0,L,_=>OG
 | c+1,L,h=>by
  have h:(okS c (L.map shf)&&match VF L with
   | none=>true
   | some (p,l)=>match DU p l with
    | none=>false
    | some (q,b)=>((range (c+1)).all λj=>decide ((q j).natAbs<=2))&&if(q 0).natAbs=1 then okS c (b.map shf) else b.all λr=>(range c).all λj=>decide (r (j+1)=0))=true:=h
  rw[df]at h;refine J7 (NV c _ h.1) λp l e=>?_;have a:=h.2;rw[e]at a;simp only at a;cases e2:DU p l with
  | none=>simp_all
  | some o=>
   obtain⟨q,b⟩:=o;rw[e2]at a;simp only[df]at a;refine⟨q,b,Y,XI (Agw e) e2,λj f=>dd (dy.1 a.1 j (b6.2 f)),?_⟩;have d:=a.2;split at d
   .rename_i g;exact .inl ⟨g,NV c _ d⟩
   .exact .inr λr i j f=>dd<|dy.1 (dy.1 d r i) j<|b6.2 f
theorem PI{p:Rw}(a:(p 0).natAbs=1):∀{l:List Rw},(∀r∈l,(r 0).natAbs<=2)->DU p l=some (p,l.map λr=>λj=>r j-r 0*p 0*p j)
 | [],_=>rfl
 | r::l,h=>by
  have b:=PI a (l:=l) λx d=>h x (am _ d);unfold DU;split
  .rename_i c;rw[b,dh];show some (p,r::_)=some (p,_::_);rw[show(λj=>r j-r 0*p 0*p j)=r from funext λj=>by rw[c];simp]
  grind [ao,KX,dh,AcC]
end Go.Sm
namespace Go.Pk
variable {b:Int}
def bs(b:Int):Nat->(Nat->Int)->Int
 | 0,_=>0
 | n+1,d=>d 0+b*bs b n (λj=>d (j+1))
theorem BG:∀{n:Nat} {d e:Nat->Int},(∀j,j<n->d j=e j)->bs b n d=bs b n e
 | 0,_,_,_=>rfl
 | n+1,d,e,h=>by unfold bs;rw[h 0 Z,BG λj a=>h (j+1) Z]
theorem E0(b:Int):∀(n:Nat) (d e:Nat->Int),bs b n (λj=>d j+e j)=bs b n d+bs b n e
 | 0,_,_=>rfl
 | n+1,d,e=>by show(d 0+e 0)+b*bs b n (λj=>d (j+1)+e (j+1))=(d 0+b*bs b n λj=>d (j+1))+(e 0+b*bs b n λj=>e (j+1));rw[E0 b n (λj=>d (j+1)) (λj=>e (j+1)),jj];omega
theorem Fb(b:Int):∀(n:Nat) (c:Int) (d:Nat->Int),bs b n (λj=>c*d j)=c*bs b n d
 | 0,c,_=>by simp[bs]
 | n+1,c,d=>by unfold bs;rw[Fb b n c (λj=>d (j+1)),jj,li]
theorem Lr(b:Int)(n:Nat)(d e:Nat->Int):bs b n (λj=>d j-e j)=bs b n d-bs b n e:=by grind [E0,BG]
theorem GV(b:Int)(n:Nat):bs b n (λ_=>0)=0:=by have:=Fb b n 0 (λ_=>0);simp_all
theorem Tc:∀{n k:Nat},k<n->bs b n (λi=>if i=k then 1 else 0)=b^k
 | 0,k,h=>Z
 | n+1,0,h=>by grind [bs,BG,GV]
 | n+1,k+1,h=>by
  show(if 0=k+1 then 1 else 0)+b*bs b n (λj=>if j+1=k+1 then 1 else 0)=_
  rw[af Z,BG (e:=λi=>if i=k then 1 else 0) λj _=>by
   by_cases q:j=k
   .rw[ah q,ah Z]
   .rw[af q,af Z],Tc (show k<n by omega),Int.pow_succ,e9];omega
theorem HH(e:0<b):∀{n:Nat} {d:Nat->Int},(∀j,j<n->0<=d j/\d j<b)->0<=bs b n d/\bs b n d<b^n
 | 0,d,h=>by simp[bs]
 | n+1,d,h=>by unfold bs;obtain⟨a,f⟩:=HH e (n:=n) (d:=λj=>d (j+1)) λj l=>h (j+1) Z;obtain⟨g,i⟩:=h 0 Z;have k:0<=b*bs b n (λj=>d (j+1)):=Int.mul_nonneg Z a;have c:b*(bs b n (λj=>d (j+1))+1)<=b*b^n:=Int.mul_le_mul_of_nonneg_left Z Z;grind
theorem Lq{b:Nat}(l:0<b){n:Nat}{d:Nat->Int}{x:Nat}(h:∀j,j<n+1->0<=d j/\d j<b)(e:(x:Int)=bs b (n+1) d):((x%b:Nat):Int)=d 0/\((x/b:Nat):Int)=bs b n λj=>d (j+1):=by
 unfold bs at e;obtain⟨i,f⟩:=h 0 Z;have k:=(HH (b:=b) Z (n:=n) (d:=λj=>d (j+1)) λj m=>h (j+1) Z).1;obtain⟨u,c⟩:=Int.eq_ofNat_of_zero_le i;obtain⟨v,g⟩:=Int.eq_ofNat_of_zero_le k;rw[c,g]at e;have e:x=u+b*v:=by exact_mod_cast e
 simp_all [ke,dv,Nat.add_mul_div_left,gc]
theorem RW{b:Nat}(a:0<b):∀{n k:Nat} {d:Nat->Int} {x:Nat},(∀j,j<n->0<=d j/\d j<b)->(x:Int)=bs b n d->k<n->((x/b^k%b:Nat):Int)=d k
 | 0,k,d,x,h,e,hk=>Z
 | n+1,0,d,x,h,e,hk=>by rw[jr,Nat.div_one];exact(Lq a h e).1
 | n+1,k+1,d,x,h,e,hk=>by have:=RW a (n:=n) (k:=k) (d:=λj=>d (j+1)) (λj c=>h (j+1) Z) (Lq a h e).2 Z;rw[f7,ei,<-d7]at this;exact this
def Ya(b x:Nat):Nat->Nat
 | 0=>0
 | n+1=>x+b*Ya b x n
theorem HY(b x:Nat):∀n,(Ya b x n:Int)=bs b n λ_=>x
 | 0=>rfl
 | n+1=>by unfold Ya bs;rw[<-HY b x n];simp
theorem ZS(e x a y:Nat)(c:a<2^e):x &&& (a+2^e*y)=(x%2^e &&& a)+2^e*(x/2^e &&& y):=by have h:=(jf (x &&& (a+2^e*y)) (2^e)).symm;simp_all [Nat.two_pow_pos,Nat.and_mod_two_pow,Nat.and_div_two_pow,ke,dv,Nat.add_mul_div_left,gc]
end Go.Pk
namespace Go.Pk
variable {N m Y:Nat} {V:Nat->Nat->Int} {B:Int}
theorem S7(b:Int):∀(n:Nat) (d:Nat->Int),bs b (n+1) d=bs b n d+b^n*d n
 | 0,d=>by simp[bs]
 | n+1,d=>by show d 0+b*bs b (n+1) (λj=>d (j+1))=(d 0+b*bs b n λj=>d (j+1))+b^(n+1)*d (n+1);rw[S7 b n λj=>d (j+1),jj,Int.pow_succ,e9 (b^n) b,ji];omega
theorem Aga(b:Int)(n:Nat):b*bs b n (λ_=>1)=bs b n (λ_=>1)+b^n-1:=by grind [S7,bs]
theorem JY(N:Nat):0<32^N:=jc H
structure IsR(N m:Nat)(Y:Nat)(V:Nat->Nat->Int)(B:Int):Prop where
 eq:(Y:Int)=bs ((32^N:Nat):Int) m fun j=>bs 32 N fun i=>V i j+16
 bd:∀i j,i<N->j<m->-B<=V i j/\V i j<=B
theorem IsR.lane(h:IsR N m Y V B)(c:B<=15):∀j,j<m->0<=bs 32 N (fun i=>V i j+16)/\bs 32 N (fun i=>V i j+16)<((32^N:Nat):Int):=fun j b=>by
 have:=HH (b:=32) Z (n:=N) (d:=fun i=>V i j+16) fun i a=>by have:=h.bd i j a b;show 0<=V i j+16/\V i j+16<32;omega
 simp_all
theorem IsR.split(h:IsR N (m+1) Y V B)(c:B<=15):((Y%32^N:Nat):Int)=bs 32 N (fun i=>V i 0+16)/\IsR N m (Y/32^N) (fun i j=>V i (j+1)) B:=by obtain⟨a,b⟩:=Lq (JY N) (h.lane c) h.eq;exact⟨a,b,fun i j d e=>h.bd i (j+1) d Z⟩
theorem IsR.row{k:Nat}(d:k<N)(c:B<=15):∀{m Y:Nat} {V:Nat->Nat->Int},IsR N m Y V B->(((Y/32^k) &&& Ya (32^N) 31 m:Nat):Int)=bs ((32^N:Nat):Int) m fun j=>V k j+16
 | 0,Y,V,h=>by show(((Y/32^k) &&& 0:Nat):Int)=0;simp_all
 | m+1,Y,V,h=>by
  obtain⟨f,g⟩:=h.split c;have t:=IsR.row d c g;have b:32^N=2^(5*N):=by rw[Nat.pow_mul]
  have a:31<32^N:=by have:32^1<=32^N:=dn H Z;omega
  show(((Y/32^k) &&& (31+32^N*Ya (32^N) 31 m):Nat):Int)=(V k 0+16)+_*bs _ m fun j=>V k (j+1)+16;have e:=ZS (5*N) (Y/32^k) 31 (Ya (32^N) 31 m) (by rw[<-b];exact a);rw[<-b]at e;rw[e,Int.natCast_add,dz,f7,ei (32^k),<-f7,t];congr 1
  have l:=RW (b:=32) H (d:=fun i=>V i 0+16) (fun i r=>by
   have:=h.bd i 0 r Z;show 0<=V i 0+16/\V i 0+16<((32:Nat):Int)
   omega) f d
  rw[<-l];congr 1;have n:Y/32^k%32^N &&& 31=Y/32^k%32^N%32:=Nat.and_two_pow_sub_one_eq_mod (n:=5) _;obtain⟨z,s⟩:∃z,N=k+1+z:=⟨N-(k+1),Z⟩
  rw[n,Nat.mod_mod_of_dvd _ ⟨32^(N-1),by rw[<-Nat.pow_succ',Nat.succ_eq_add_one,Nat.sub_add_cancel Z]⟩]
  have p:Y=Y%32^N+32^k*(32*(32^z*(Y/32^N))):=by
   have:=(jf Y (32^N)).symm
   conv at this=>rhs;rw[show 32^N*(Y/32^N)=32^k*(32*(32^z*(Y/32^N))) by rw[s,jx,d7];simp only[ie]]
   exact this
  grind [Nat.add_mul_div_left,JY,ke]
theorem Ry{e:Nat}:∀{n:Nat} {x y:Nat} {d g:Nat->Nat},(∀j,j<n->d j<2^e)->(∀j,j<n->g j<2^e)->(x:Int)=bs ((2^e:Nat):Int) n (λj=>(d j:Int))->(y:Int)=bs ((2^e:Nat):Int) n (λj=>(g j:Int))->((x &&& y:Nat):Int)=bs ((2^e:Nat):Int) n λj=>((d j &&& g j:Nat):Int)
 | 0,x,y,d,g,_,_,b,hy=>by
  have b:(x:Int)=0:=b;have:x=0:=Z
  subst this;rw[Nat.zero_and];rfl
 | n+1,x,y,d,g,hd,hg,b,hy=>by
  have c:=Nat.two_pow_pos e;obtain⟨f,i⟩:=Lq c (λj a=>⟨Z,by grind⟩) b;obtain⟨k,l⟩:=Lq c (λj a=>⟨Z,by grind⟩) hy;have s:=Ry (λj a=>hd (j+1) Z) (λj a=>hg (j+1) Z) i l;have h:=(jf (x &&& y) (2^e)).symm;rw[Nat.and_mod_two_pow,Nat.and_div_two_pow]at h;rw[h,Int.natCast_add,dz,s];have p:x%2^e=d 0:=by exact_mod_cast f
  have r:y%2^e=g 0:=by exact_mod_cast k
  rw[p,r];rfl
theorem QV{b:Int}(g:0<b):∀{n:Nat} {d e:Nat->Int},(∀j,j<n->0<=d j/\d j<b)->(∀j,j<n->0<=e j/\e j<b)->bs b n d=bs b n e->∀j,j<n->d j=e j
 | 0,d,e,_,_,_,j,a=>Z
 | n+1,d,e,hd,he,h,j,a=>by
  have h:d 0+b*bs b n (λj=>d (j+1))=e 0+b*bs b n (λj=>e (j+1)):=h
  have c:d 0=e 0:=by
   have q:=bh (· % b) h;simp only[Int.add_mul_emod_self_left]at q
   rwa [Int.emod_eq_of_lt (hd 0 Z).1 (hd 0 Z).2,Int.emod_eq_of_lt (he 0 Z).1 (he 0 Z).2]at q
  have f:bs b n (λj=>d (j+1))=bs b n (λj=>e (j+1)):=by
   have:b*bs b n (λj=>d (j+1))=b*bs b n (λj=>e (j+1)):=Z
   exact Int.eq_of_mul_eq_mul_left Z this
  cases j with
  | zero=>exact c
  | succ j=>exact QV g (λj a=>hd (j+1) Z) (λj a=>he (j+1) Z) f j Z
def N1(N m:Nat):Nat:=Ya (32^N) (Ya 32 1 N) m
theorem XS(N m:Nat)(c:Nat):((c*N1 N m:Nat):Int)=bs ((32^N:Nat):Int) m λj=>bs 32 N λi=>(c:Int):=by grind [N1,dz,HY,Fb,BG]
theorem Af6{X:Nat}{x:Nat->Nat->Int}(f:∀i j,i<N->j<m->0<=x i j/\x i j<32)(e:(X:Int)=bs ((32^N:Nat):Int) m λj=>bs 32 N λi=>x i j):((X &&& 16*N1 N m:Nat):Int)=bs ((32^N:Nat):Int) m λj=>bs 32 N λi=>(((x i j).toNat &&& 16:Nat):Int):=by
 have c:32^N=2^(5*N):=by rw[Nat.pow_mul]
 have k:∀(y:Nat->Nat->Int),(∀i j,i<N->j<m->0<=y i j/\y i j<32)->∀j,j<m->0<=bs 32 N (λi=>y i j)/\bs 32 N (λi=>y i j)<((32^N:Nat):Int):=λy l j a=>by have:=HH (b:=32) Z (n:=N) (d:=λi=>y i j) λi d=>l i j d a;grind
 have g:=k x f;have b:=k (λ_ _=>16) λ_ _ _ _=>Z
 have h:=Ry (e:=5*N) (n:=m) (x:=X) (y:=16*N1 N m) (d:=λj=>(bs 32 N λi=>x i j).toNat) (g:=λj=>(bs 32 N λi=>(16:Int)).toNat)
  (λj a=>by grind) (λj a=>by grind)
  (by rw[e,<-c];grind [BG,fq]) (by rw[XS,<-c];grind [BG,fq])
 rw[h,<-c];refine BG λj a=>?_
 have n:=Ry (e:=5) (n:=N) (x:=(bs 32 N λi=>x i j).toNat) (y:=(bs 32 N λi=>(16:Int)).toNat) (d:=λi=>(x i j).toNat) (g:=λ_=>16)
  (λi d=>by simp_all) (λ_ _=>by decide)
  (by grind [fq,BG]) (by grind)
 exact n
theorem AcO:∀a:Nat,a<32->(a &&& 16=0/\a<16)\/(a &&& 16=16/\16<=a):=by decide
theorem Vx{x y:Nat->Nat->Int}(e:∀i j,i<N->j<m->0<=x i j/\x i j<32)(c:∀i j,i<N->j<m->0<=y i j/\y i j<32)(h:bs ((32^N:Nat):Int) m (λj=>bs 32 N λi=>x i j)=bs ((32^N:Nat):Int) m λj=>bs 32 N λi=>y i j):∀i j,i<N->j<m->x i j=y i j:=λi j a b=>by
 have d:∀(y:Nat->Nat->Int),(∀i j,i<N->j<m->0<=y i j/\y i j<32)->∀j,j<m->0<=bs 32 N (λi=>y i j)/\bs 32 N (λi=>y i j)<((32^N:Nat):Int):=λy c j b=>by simp_all [HH,i8]
 have f:=QV (by have:=JY N;omega) (d x e) (d y c) h j b;exact QV Z (λi a=>e i j a b) (λi a=>c i j a b) f i a
theorem IsR.chk(h:IsR N m Y V 12)(u:(Y+2*N1 N m) &&& 16*N1 N m=16*N1 N m)(v:(Y-3*N1 N m) &&& 16*N1 N m=0):IsR N m Y V 2:=by
 have s:((Y+2*N1 N m:Nat):Int)=bs ((32^N:Nat):Int) m fun j=>bs 32 N fun i=>V i j+18:=by rw[Int.natCast_add,h.eq,XS,<-E0];exact BG fun j _=>by rw[<-E0];exact BG fun i _=>Z
 have f:(bs ((32^N:Nat):Int) m fun j=>bs 32 N fun i=>V i j+13)=(Y:Int)-((3*N1 N m:Nat):Int):=by rw[h.eq,XS,<-Lr];exact BG fun j _=>by rw[<-Lr];exact BG fun i _=>Z
 have b:∀i j,i<N->j<m->0<=V i j+13/\V i j+13<32:=fun i j c d=>by have:=h.bd i j c d;omega
 have e:∀i j,i<N->j<m->0<=V i j+18/\V i j+18<32:=fun i j c d=>by have:=h.bd i j c d;omega
 have x:0<=(Y:Int)-((3*N1 N m:Nat):Int):=by rw[<-f];refine(HH (by have:=JY N;omega) fun j d=>?_).1;have:=HH (b:=32) Z (n:=N) (d:=fun i=>V i j+13) fun i c=>b i j c d;rw[i8];exact this
 have t:((Y-3*N1 N m:Nat):Int)=bs ((32^N:Nat):Int) m fun j=>bs 32 N fun i=>V i j+13:=by rw[f];omega
 have k:=Af6 e s;have l:=Af6 b t;rw[u,XS]at k;rw[v]at l;refine⟨h.eq,fun i j c d=>?_⟩
 have g:∀a:Int,0<=a->a<32->0<=((a.toNat &&& 16:Nat):Int)/\((a.toNat &&& 16:Nat):Int)<32:=fun a A K=>by rcases AcO a.toNat Z with q|q<;>rw[q.1]<;>decide
 have p:=Vx (x:=fun _ _=>((16:Nat):Int)) (fun _ _ _ _=>by decide) (fun i j c d=>g _ (e i j c d).1 (e i j c d).2) k i j c d
 have r:=Vx (x:=fun _ _=>(0:Int)) (fun _ _ _ _=>by decide) (fun i j c d=>g _ (b i j c d).1 (b i j c d).2) (by
  rw[<-l,BG (e:=fun _=>0) fun j _=>GV 32 N,GV];rfl) i j c d
 have y:=e i j c d;have z:=b i j c d;rcases AcO (V i j+18).toNat Z with q|q
 all_goals grind [AcO]
end Go.Pk
namespace Go.Pk
open Go.Sm
variable {α:Type} {N m Y:Nat}
noncomputable def fN(n:Nat)(k:Nat->α):α:=@Nat.rec (λ_=>α) (k 0) (λm _=>k (Nat.succ m)) n
theorem IA(n:Nat)(k:Nat->α):fN n k=k n:=by cases n<;>rfl
def lN(n:Nat)(k:Nat->α):α:=k n
theorem Hr(n:Nat)(k:Nat->α):lN n k=k n:=rfl
def Fs(Y:Nat):Nat:=Nat.add (Nat.mul Y 18446744073709551616) (Nat.mod Y 2305843009213693951)
def E7(Z:Nat):Nat:=Nat.div Z 18446744073709551616
theorem Rj(Y:Nat):E7 (Fs Y)=Y:=by show(Y*18446744073709551616+Y%2305843009213693951)/18446744073709551616=Y;omega
noncomputable def rp(b x:Nat)(n:Nat):Nat:=@Nat.rec (λ_=>Nat) 0 (λ_ a=>Nat.add x (Nat.mul b a)) n
theorem J4(b x:Nat):∀n,rp b x n=Ya b x n
 | 0=>rfl
 | n+1=>by show x+b*rp b x n=x+b*Ya b x n;rw[J4 b x n]
noncomputable def NT(none:α)(k:Nat->Nat->α)(f:Nat):Nat->Nat->α:=
 @Nat.rec (λ_=>Nat->Nat->α) (λ_ _=>none) (λ_ ih c i=>fN (Nat.mod c 32) λd=>bif Nat.beq d 16 then ih (Nat.div c 32) (Nat.succ i) else k i d) f
theorem AbO(none:α)(k:Nat->Nat->α):∀(f c i:Nat) {d:Nat->Int},(∀a,a<f->0<=d a/\d a<32)->(c:Int)=bs 32 f d->((∀a,a<f->d a=16)/\NT none k f c i=none)\/∃a,a<f/\(∀b,b<a->d b=16)/\d a≠16/\NT none k f c i=k (i+a) (d a).toNat
 | 0,c,i,d,_,_=>.inl ⟨λa h=>Z,rfl⟩
 | f+1,c,i,d,hd,e=>by
  obtain⟨z,r⟩:=Lq (b:=32) H (λj u=>hd j u) e
  have v:NT none k (f+1) c i=bif Nat.beq (c%32) 16 then NT none k f (c/32) (i+1) else k i (c%32):=by show fN (Nat.mod c 32) (λd=>bif Nat.beq d 16 then NT none k f (Nat.div c 32) (Nat.succ i) else k i d)=_;rw[IA];rfl
  have p:c%32=(d 0).toNat:=Z
  rw[v,p];by_cases g:d 0=16
  .rw[g,show Nat.beq (Int.toNat 16) 16=true from Y];simp only[jk];rcases AbO none k f (c/32) (i+1) (d:=λj=>d (j+1)) (λa s=>hd (a+1) Z) r with ⟨n,l⟩|⟨a,n,l,x,y⟩
   .refine .inl ⟨λa s=>?_,l⟩;cases a with
    | zero=>exact g
    | succ a=>exact n a Z
   .refine .inr ⟨a+1,Z,λb t=>?_,x,by rw[y,show i+1+a=i+(a+1) by omega]⟩;cases b with
    | zero=>exact g
    | succ b=>exact l b Z
  grind [Nat.beq,jz]
noncomputable def fin(N2 N3 N16 top:Nat)(bad:α)(ok:Nat->α)(Y:Nat):α:=
 lN Y fun Y=>bif Nat.beq (Nat.land (Nat.add Y N2) N16) N16&&Nat.beq (Nat.land (Nat.sub Y N3) N16) 0 then lN (Nat.add (Nat.div Y 32) top) ok else bad
noncomputable def L9(O M N2 N3 N16 top:Nat)(bad:α)(ok:Nat->α)(i Y:Nat):α:=
 lN Y fun Y=>bif Nat.beq i 0 then fin N2 N3 N16 top bad ok Y else lN (Nat.add 1 (Nat.pow 32 i)) fun S=>fin N2 N3 N16 top bad ok (Nat.sub (Nat.add Y (Nat.mul O S)) (Nat.mul (Nat.land Y M) S))
noncomputable def tk(NS L B0 O M N2 N3 N16 top:Nat)(none ev bad:α)(ok:Nat->α)(Y:Nat):α:=
 lN (Nat.mod Y L) fun c=>bif Nat.beq c B0 then none else
 NT none (fun i d=>lN (Nat.div Y L) fun Y1=>lN (Nat.land (Nat.div Y1 (Nat.pow 32 i)) M) fun R=>
  bif Nat.beq d 17 then L9 O M N2 N3 N16 top bad ok i (Nat.sub (Nat.add Y1 (Nat.add (Nat.mul c O) (Nat.mul B0 R))) (Nat.add (Nat.mul c R) (Nat.mul B0 O)))
  else bif Nat.beq d 15 then L9 O M N2 N3 N16 top bad ok i (Nat.sub (Nat.add Y1 (Nat.add (Nat.mul c R) (Nat.mul B0 O))) (Nat.add (Nat.mul c O) (Nat.mul B0 R)))
  else ev) NS c 0
structure Cn(N m L B0 O M N2 N3 N16 top:Nat):Prop where
 cl:L=32^N
 cb:B0=Ya 32 16 N
 co:O=Ya L 16 m
 cm:M=Ya L 31 m
 c2:N2=2*N1 N m
 c3:N3=3*N1 N m
 c16:N16=16*N1 N m
 ct:top=16*L^m/32
def FZ(N:Nat)(U:Nat->Nat->Int):Nat->Nat->Int:=λi j=>if i+1<N then U (i+1) j else 0
theorem AdG{U:Nat->Nat->Int}(h:IsR (N+1) m Y U 2)(e:∀j,j<m->U 0 j=0):IsR (N+1) m (Y/32+16*(32^(N+1))^m/32) (FZ (N+1) U) 2:=by
 refine⟨?_,fun i j p a=>?_⟩
 .cases m with
  | zero=>
   have:(Y:Int)=0:=h.eq;grind [bs]
  | succ m=>
   have k:(bs ((32^(N+1):Nat):Int) (m+1) fun j=>bs 32 (N+1) fun i=>FZ (N+1) U i j+16)=(bs ((32^(N+1):Nat):Int) (m+1) fun j=>bs 32 N fun i=>U (i+1) j+16)+16*32^N*bs ((32^(N+1):Nat):Int) (m+1) fun _=>1:=by
    rw[<-Fb,<-E0];refine BG fun j _=>?_;rw[S7];congr 1
    .exact BG fun i p=>by unfold FZ;rw[ah Z]
    .unfold FZ;rw[af Z,Int.zero_add,Int.mul_one,e9]
   have r:(Y:Int)=16*(bs ((32^(N+1):Nat):Int) (m+1) fun _=>1)+32*bs ((32^(N+1):Nat):Int) (m+1) fun j=>bs 32 N fun i=>U (i+1) j+16:=by rw[h.eq,<-Fb,<-Fb,<-E0];refine BG fun j a=>?_;show(U 0 j+16)+32*_=16*1+32*_;rw[e j a];rfl
   have c:=Aga ((32^(N+1):Nat):Int) (m+1);rw[k];generalize (bs ((32^(N+1):Nat):Int) (m+1) fun _=>1)=g at *;generalize (bs ((32^(N+1):Nat):Int) (m+1) fun j=>bs 32 N fun i=>U (i+1) j+16)=u at *;have f:((32^(N+1):Nat):Int)=32*32^N:=by rw[i8,Int.pow_succ,e9];rfl
   obtain⟨q,d⟩:∃q:Nat,(32^(N+1))^(m+1)=32*q:=⟨32^N*(32^(N+1))^m,by rw[d7 (n:=32^(N+1)),d7 (n:=32),ei];simp only[ie,ei 32,kr 32]⟩
   grind [Nat,Int,i8,je,ji,e9,li]
 .unfold FZ;split
  .exact h.bd (i+1) j Z a
  .omega
theorem Ac6{L i O M d e a c:Nat}(C:Cn (N+1) m L i O M d e a c)(b:α)(f:Nat->α){U:Nat->Nat->Int}(h:IsR (N+1) m Y U 12)(n:∀j,j<m->U 0 j=0) :
  fin d e a c b f Y=b\/∃g,fin d e a c b f Y=f g/\IsR (N+1) m g (FZ (N+1) U) 2:=by
 unfold fin;rw[Hr];cases hc:Nat.beq (Nat.land (Nat.add Y d) a) a&&Nat.beq (Nat.land (Nat.sub Y e) a) 0 with
 | false=>simp_all
 | true=>
  right
  rw[jk,Hr];rw[df,jz,jz]at hc;have k:(Y+2*N1 (N+1) m) &&& 16*N1 (N+1) m=16*N1 (N+1) m:=by rw[<-C.c2,<-C.c16];exact hc.1
  have l:(Y-3*N1 (N+1) m) &&& 16*N1 (N+1) m=0:=by rw[<-C.c3,<-C.c16];exact hc.2
  refine⟨_,rfl,?_⟩;have:=AdG (h.chk k l) n;rw[C.ct,C.cl];exact this
def Hy(i0:Nat)(W:Nat->Nat->Int):Nat->Nat->Int:=λi j=>W i j-W 0 j*((if i=0 then 1 else 0)+if i=i0 then 1 else 0)
theorem AcI{L x O M r s d f:Nat}(C:Cn (N+1) m L x O M r s d f)(a:α)(p:Nat->α){k:Nat}{T:Nat->Nat->Int}(h:IsR (N+1) m Y T 6)(Q:k<N+1)(P:k=0->∀j,j<m->T 0 j=0) :
  L9 O M r s d f a p k Y=a\/∃u,L9 O M r s d f a p k Y=p u/\IsR (N+1) m u (FZ (N+1) (if k=0 then T else Hy k T)) 2:=by
 unfold L9;rw[Hr];by_cases t:k=0
 .subst t;rw[ah rfl];exact Ac6 C a p ⟨h.eq,fun i j g b=>by have:=h.bd i j g b;omega⟩<|P rfl
 .rw[show Nat.beq k 0=false by rw[<-jw,jz];exact t,ib,Hr,af t];refine Ac6 C a p (U:=Hy k T) ⟨?_,fun i j g b=>?_⟩ fun j b=>?_
  .have v:=IsR.row (k:=0) (Nat.succ_pos N) Z h;rw[jr,Nat.div_one]at v
   have K:((1+32^k:Nat):Int)=bs 32 (N+1) fun i=>(if i=0 then 1 else 0)+if i=k then 1 else 0:=by rw[E0,Tc (Nat.succ_pos N),Tc Q];simp
   have B:((O:Nat):Int)=bs ((32^(N+1):Nat):Int) m fun _=>16:=by rw[C.co,C.cl,HY];rfl
   have A:M=Ya (32^(N+1)) 31 m:=by rw[C.cm,C.cl]
   have e:(bs ((32^(N+1):Nat):Int) m fun j=>bs 32 (N+1) fun i=>Hy k T i j+16)=(Y:Int)+(O:Int)*((1+32^k:Nat):Int)-((Y &&& M:Nat):Int)*((1+32^k:Nat):Int):=by
    have y:(bs ((32^(N+1):Nat):Int) m fun j=>bs 32 (N+1) fun i=>Hy k T i j+16)=(Y:Int)-((1+32^k:Nat):Int)*bs ((32^(N+1):Nat):Int) m fun j=>T 0 j:=by rw[h.eq,<-Fb,<-Lr];refine BG fun j b=>?_;rw[K,e9,<-Fb,<-Lr];exact BG fun i g=>by unfold Hy;omega
    have z:((Y &&& M:Nat):Int)=(bs ((32^(N+1):Nat):Int) m fun j=>T 0 j)+(O:Int):=by rw[A,v,B,<-E0]
    rw[y,z,ko,e9 ((1+32^k:Nat):Int)];omega
   have c:0<=bs ((32^(N+1):Nat):Int) m fun j=>bs 32 (N+1) fun i=>Hy k T i j+16:=by
    refine(HH (by have:=JY (N+1);omega) fun j b=>?_).1
    have:=HH (b:=32) Z (n:=N+1) (d:=fun i=>Hy k T i j+16) fun i g=>by
     have R:=h.bd i j g b;have S:=h.bd 0 j Z b;show 0<=Hy k T i j+16/\Hy k T i j+16<32;unfold Hy;by_cases l:i=0
     .rw[ah l,af Z];omega
     .rw[af l];by_cases n:i=k
      .rw[ah n];omega
      .rw[af n];omega
    rw[i8];exact this
   rw[e];show((Y+O*(1+32^k)-(Y &&& M)*(1+32^k):Nat):Int)=_;rw[e]at c;rw[<-dz,<-dz,<-Int.natCast_add]at c ⊢;omega
  .have R:=h.bd i j g b;have S:=h.bd 0 j Z b;unfold Hy;by_cases l:i=0
   .rw[ah l,af Z];omega
   .rw[af l];by_cases n:i=k
    .rw[ah n];omega
    .rw[af n];omega
  grind [Hy]
end Go.Pk
namespace Go.Pk
open Go.Sm
def Ff(V:Nat->Nat->Int)(k:Nat):Nat->Nat->Int:=λi j=>V i (j+1)-V i 0*V k 0*V k (j+1)
theorem Aiq{a:Int}(h:-2<=a/\a<=2):a=-2\/a=-1\/a=0\/a=1\/a=2:=Z
theorem Afx{a b c e:Int}(d:-2<=a/\a<=2)(f:b=1\/b=-1)(g:-2<=c/\c<=2)(h:-2<=e/\e<=2):-6<=e-a*b*c/\e-a*b*c<=6:=by rcases f with rfl|rfl<;>rcases Aiq d with rfl|rfl|rfl|rfl|rfl<;>omega
theorem AhM{α:Type}{N m L f O M K Q l n:Nat}(C:Cn (N+1) m L f O M K Q l n)(none ev g:α)(x:Nat->α){Y:Nat}{V:Nat->Nat->Int}(h:IsR (N+1) (m+1) Y V 2) :
  ((∀i,i<N+1->V i 0=0)/\tk (N+1) L f O M K Q l n none ev g x Y=none) ∨
  ∃k,k<N+1/\(∀i,i<k->V i 0=0)/\V k 0≠0/\(tk (N+1) L f O M K Q l n none ev g x Y=ev\/tk (N+1) L f O M K Q l n none ev g x Y=g ∨
   ∃T,tk (N+1) L f O M K Q l n none ev g x Y=x T/\(V k 0).natAbs=1/\IsR (N+1) m T (FZ (N+1) (if k=0 then Ff V k else Hy k (Ff V k))) 2):=by
 obtain⟨h1,h2⟩:=h.split Z;have hd:∀i,i<N+1->0<=V i 0+16/\V i 0+16<32:=fun i p=>by have:=h.bd i 0 p Z;omega
 unfold tk;rw[Hr];have hc:Nat.mod Y L=Y%32^(N+1):=by rw[C.cl];rfl
 rw[hc]
 have hf:=AbO none (fun i d=>lN (Nat.div Y L) fun v=>lN (Nat.land (Nat.div v (Nat.pow 32 i)) M) fun R=>
  bif Nat.beq d 17 then L9 O M K Q l n g x i (Nat.sub (Nat.add v (Nat.add (Nat.mul (Y%32^(N+1)) O) (Nat.mul f R))) (Nat.add (Nat.mul (Y%32^(N+1)) R) (Nat.mul f O)))
  else bif Nat.beq d 15 then L9 O M K Q l n g x i (Nat.sub (Nat.add v (Nat.add (Nat.mul (Y%32^(N+1)) R) (Nat.mul f O))) (Nat.add (Nat.mul (Y%32^(N+1)) O) (Nat.mul f R)))
  else ev) (N+1) (Y%32^(N+1)) 0 hd h1
 cases hb:Nat.beq (Y%32^(N+1)) f with
 | true=>
  rw[jk];refine .inl ⟨fun i p=>?_,rfl⟩;rw[jz,C.cb]at hb;have e:=h1;rw[hb,HY]at e;have:=QV Z (fun i _=>by decide) hd e i p;omega
 | false=>
  rw[ib];rcases hf with ⟨B,q2⟩|⟨k,B,q2,q3,q4⟩
  .grind
  .right
   refine⟨k,B,fun i p=>by grind,fun e=>q3 (by rw[e];rfl),?_⟩;rw[q4,ig,Hr,Hr];have hY1:Nat.div Y L=Y/32^(N+1):=by rw[C.cl];rfl
   have hR:((Nat.land (Nat.div (Nat.div Y L) (Nat.pow 32 k)) M:Nat):Int)=bs ((32^(N+1):Nat):Int) m fun j=>V k (j+1)+16:=by rw[hY1,C.cm,C.cl];exact IsR.row B Z h2
   have hO:(O:Int)=bs ((32^(N+1):Nat):Int) m fun _=>16:=by rw[C.co,C.cl,HY];rfl
   have hB:(f:Int)=bs 32 (N+1) fun _=>16:=by rw[C.cb,HY];rfl
   rw[<-hY1]at h2;generalize Nat.land (Nat.div (Nat.div Y L) (Nat.pow 32 k)) M=R at *;generalize Nat.div Y L=v at *;generalize Y%32^(N+1)=c at *
   -- the product
   have hR2:(R:Int)=(bs ((32^(N+1):Nat):Int) m fun j=>V k (j+1))+(O:Int):=by rw[hR,hO,<-E0]
   have hc2:(c:Int)=(bs 32 (N+1) fun i=>V i 0)+(f:Int):=by rw[h1,hB,<-E0]
   have S:V k 0=1\/V k 0=-1->∀i j,i<N+1->j<m->-6<=Ff V k i j/\Ff V k i j<=6:=fun hk i j p hj=>Afx (h.bd i 0 p Z) hk (h.bd k (j+1) B Z) (h.bd i (j+1) p Z)
   have z:∀s:Int,V k 0=s->(bs ((32^(N+1):Nat):Int) m fun j=>bs 32 (N+1) fun i=>Ff V k i j+16)=(v:Int)-s*((bs 32 (N+1) fun i=>V i 0)*bs ((32^(N+1):Nat):Int) m fun j=>V k (j+1)):=fun s hs=>by
    rw[h2.eq,<-Fb,<-Fb,<-Lr];refine BG fun j hj=>?_;rw[e9 (bs 32 (N+1) fun i=>V i 0),<-Fb,<-Fb,<-Lr];refine BG fun i p=>?_;grind [Ff,e9,ji]
   have y:V k 0=1\/V k 0=-1->0<=bs ((32^(N+1):Nat):Int) m fun j=>bs 32 (N+1) fun i=>Ff V k i j+16:=fun hk=>by
    refine(HH (by have:=JY (N+1);omega) fun j hj=>?_).1
    have:=HH (b:=32) Z (n:=N+1) (d:=fun i=>Ff V k i j+16) fun i p=>by have:=S hk i j p hj;show 0<=Ff V k i j+16/\Ff V k i j+16<32;omega
    simp_all
   have hz:V k 0=1\/V k 0=-1->k=0->∀j,j<m->Ff V k 0 j=0:=fun hk e j hj=>by grind [Ff]
   have A:∀a r b o:Int,(a+b)*o+b*(r+o)-((a+b)*(r+o)+b*o)=-(a*r):=fun a r b o=>by grind
   by_cases u:V k 0=1
   .rw[u,show(1+16:Int).toNat=17 from rfl,show Nat.beq 17 17=true from rfl,jk]
    have hI:IsR (N+1) m (Nat.sub (Nat.add v (Nat.add (Nat.mul c O) (Nat.mul f R))) (Nat.add (Nat.mul c R) (Nat.mul f O))) (Ff V k) 6:=by refine⟨?_,S (.inl u)⟩;have e1:=z 1 u;have e2:=y (.inl u);have e3:=A (bs 32 (N+1) fun i=>V i 0) (bs ((32^(N+1):Nat):Int) m fun j=>V k (j+1)) f O;rw[<-hR2,<-hc2]at e3;rw[e1]at e2 ⊢;show((v+(c*O+f*R)-(c*R+f*O):Nat):Int)=_;rw[<-dz,<-dz,<-dz,<-dz]at e3;rw[jh]at e2 ⊢;generalize (bs 32 (N+1) fun i=>V i 0)*(bs ((32^(N+1):Nat):Int) m fun j=>V k (j+1))=P at *;omega
    grind [AcI]
   .by_cases t:V k 0=-1
    .rw[t,show(-1+16:Int).toNat=15 from rfl,show Nat.beq 15 17=false from rfl,ib,show Nat.beq 15 15=true from rfl,jk]
     have hI:IsR (N+1) m (Nat.sub (Nat.add v (Nat.add (Nat.mul c R) (Nat.mul f O))) (Nat.add (Nat.mul c O) (Nat.mul f R))) (Ff V k) 6:=by refine⟨?_,S (.inr t)⟩;have e1:=z (-1) t;have e2:=y (.inr t);have e3:=A (bs 32 (N+1) fun i=>V i 0) (bs ((32^(N+1):Nat):Int) m fun j=>V k (j+1)) f O;rw[<-hR2,<-hc2]at e3;rw[e1]at e2 ⊢;show((v+(c*R+f*O)-(c*O+f*R):Nat):Int)=_;rw[<-dz,<-dz,<-dz,<-dz]at e3;rw[i7,jh]at e2 ⊢;generalize (bs 32 (N+1) fun i=>V i 0)*(bs ((32^(N+1):Nat):Int) m fun j=>V k (j+1))=P at *;omega
     rcases AcI C g x hI B (hz (.inr t)) with q|⟨T,q,qI⟩
     .exact .inr<|.inl q
     .exact .inr<|.inr ⟨T,q,by decide,qI⟩
    grind [Nat.beq,jz]
variable {N m Y:Nat}
def Lm:Rw:=λ_=>0
theorem Pu(k:Nat):(replicate k Lm).map shf=replicate k Lm:=by rw[List.map_replicate];rfl
theorem AbZ(h:Rw)(k:Nat):∀l:List Rw,Oi h (l++replicate k Lm)=(Oi h l).map λo=>(o.1,o.2++replicate k Lm)
 | []=>by
  have:Oi h (replicate k Lm)=none:=by
   induction k with
   | zero=>rfl
   | succ k ih=>
    grind [f5,Oi,Lm]
  exact this
 | r::l=>by
  rw[bg];unfold Oi;rw[AbZ h k l];split
  .rfl
  .cases Oi h l<;>rfl
theorem Aif(k:Nat):∀l:List Rw,VF (l++replicate k Lm)=(VF l).map λo=>(o.1,o.2++replicate k Lm)
 | []=>by
  cases k with
  | zero=>rfl
  | succ k=>
   rw[aw,f5];show(if Lm 0≠0 then some (Lm,replicate k Lm) else Oi Lm (replicate k Lm))=none;rw[af (by simp[Lm])];have:=AbZ Lm k [];rw[aw]at this;rw[this];rfl
 | h::l=>by show(if h 0≠0 then some (h,l++replicate k Lm) else Oi h (l++replicate k Lm))=((if h 0≠0 then some (h,l) else Oi h l):Option (Rw×List Rw)).map _;grind [AbZ]
theorem QT(k:Nat):∀(l:List Rw) (p:Rw),DU p (l++replicate k Lm)=(DU p l).map λo=>(o.1,o.2++replicate k Lm)
 | [],p=>by
  have:∀k,DU p (replicate k Lm)=some (p,replicate k Lm):=by
   intro k
   induction k with
   | zero=>rfl
   | succ k ih=>
    grind [f5,DU,Lm]
  rw[aw,this];rfl
 | r::l,p=>by
  rw[bg];unfold DU;split
  .rw[QT k l p];cases DU p l<;>rfl
  .split
   .split
    .rw[QT k l p];cases DU p l<;>rfl
    .rw[QT k l _];cases DU (λj=>r 0*r j) l<;>rfl
   .rfl
theorem AcB(k:Nat):∀(c:Nat) (L:List Rw),okS c (L++replicate k Lm)=okS c L
 | 0,L=>rfl
 | c+1,L=>by
  unfold okS;rw[cz,Pu,AcB k c,Aif];cases e:VF L with
  | none=>rfl
  | some o=>
   obtain⟨p,l⟩:=o;simp only[Option.map_some];rw[QT];cases e2:DU p l with
   | none=>rfl
   | some o=>
    obtain⟨q,b⟩:=o;simp only[Option.map_some];rw[cz,Pu,AcB k c,List.all_append]
    have:((replicate k Lm).all λr=>(range c).all λj=>decide (r (j+1)=0))=true:=by rw[dy];intro r a;rw[(kj.1 a).2,dy];intro j _;simp[Lm]
    grind
def Aam(N m Y i:Nat):Rw:=fun j=>if j<m then((Y/(32^N)^j%32^N/32^i%32:Nat):Int)-16 else 0
def Sw(N m Y:Nat):Bool:=okS m ((range N).map (Aam N m Y))
def Hq(n:Nat)(V:Nat->Nat->Int):List Rw:=(range n).map λi=>V i
theorem Ez(n:Nat)(a:Nat->Nat->Int):(Hq n a).length=n:=by simp[Hq]
theorem CI{n:Nat}{a:Nat->Nat->Int}{i:Nat}(h:i<(Hq n a).length):(Hq n a)[i]=a i:=by simp[Hq]
def PG(N m Y:Nat):Prop:=∀(V:Nat->Nat->Int) (n:Nat),n<=N->IsR N m Y V 2->(∀i j,n<=i->i<N->j<m->V i j=0)->JZ m (Hq n V)
theorem Mq{e:Nat->Nat->Int}(h:IsR N m Y e 2){i j:Nat}(a:i<N)(b:j<m):Aam N m Y i j=e i j:=by
 unfold Aam;rw[ah b];have c:=RW (JY N) (h.lane Z) h.eq b
 have d:=RW (b:=32) H (d:=fun i=>e i j+16) (fun i a=>by
  have:=h.bd i j a b;omega) c a
 omega
theorem AfB(h:Sw N m Y=true):PG N m Y:=fun k n g I f=>by
 have e:(range N).map (Aam N m Y)=(range n).map (Aam N m Y)++replicate (N-n) Lm:=by
  refine gg (by simp;omega) fun i b d=>?_;have c:i<N:=by simpa using b
  rw[fd,List.getElem_range];by_cases q:i<n
  .simp_all
  .rw[List.getElem_append_right (by simp;omega),List.getElem_replicate];grind [Mq,Aam,Lm]
 unfold Sw at h;rw[e,AcB]at h;refine GU (NV _ _ h) (by simp[Hq]) fun i b d j a=>?_;have c:i<n:=by simpa using b
 rw[CI,fd,List.getElem_range];exact Mq I Z a
theorem Aer{L B0 O M N2 N3 z T:Nat}(C:Cn (N+1) m L B0 O M N2 N3 z T)(h0:PG (N+1) m (Y/L))
  (h1:∀(V:Nat->Nat->Int) (n:Nat),n<=N+1->IsR (N+1) (m+1) Y V 2->(∀i j,n<=i->i<N+1->j<m+1->V i j=0)->∀k,k<N+1->(∀i,i<k->V i 0=0)->V k 0≠0 →
   JZ (m+1) (Hq n V)\/∃A,PG (N+1) m A/\(V k 0).natAbs=1/\IsR (N+1) m A (FZ (N+1) (if k=0 then Ff V k else Hy k (Ff V k))) 2):PG (N+1) (m+1) Y:=fun V n R I v=>by
 by_cases c:∀i,i<n->V i 0=0
 ·-- nothing in this column
  refine J7 ?_ fun p l e=>?_
  .refine GU (h0 _ n R (by rw[C.cl];exact(I.split Z).2) fun i j x y q3=>v i (j+1) x y Z) (by simp[Hq]) fun i u g2 j d=>?_;have g:i<n:=by simpa[Hq] using u
   rw[CI,fd,CI];rfl
  grind [Li,CI,Ez]
 .obtain⟨k0,P⟩:=Classical.not_forall.1 c
  have S:VF (Hq n V)≠none:=fun e=>by obtain⟨a,b⟩:=Classical.not_imp.1 P;exact b<|TE e (V k0)<|ai.2 ⟨k0,b6.2 a,rfl⟩
  obtain⟨⟨p,l⟩,e⟩:=Option.ne_none_iff_exists'.1 S;obtain⟨el,k,h,s,t,e4,e5⟩:=Li e;rw[Ez]at el;have hkn:k<n:=by rwa [Ez]at h
  rw[CI]at s;subst s;rcases h1 V n R I v k Z (fun i g=>by simp_all [CI]) t with G|⟨A,G,hu,I'⟩
  .exact G
  .refine J7 ?_ fun p2 l2 e'=>?_
   .refine GU (h0 _ n R (by rw[C.cl];exact(I.split Z).2) fun i j x y q3=>v i (j+1) x y Z) (by simp[Hq]) fun i u g2 j d=>?_;rw[CI,fd,CI];rfl
   .rw[e]at e';obtain⟨rfl,rfl⟩:V k=p2/\l=l2:=by simp_all
    have f:∀i j,i<N+1->j<m+1->(V i j).natAbs<=2:=fun i j g d=>by have:=I.bd i j g d;omega
    have Q:∀r∈l,(r 0).natAbs<=2:=fun r hr=>by
     obtain⟨i,g,rfl⟩:=ee hr;have B:=e5 i g (by rw[Ez];omega);rw[B];by_cases q:i+1=k
     .grind
     .rw[af q,CI];grind
    refine⟨V k,_,PI hu Q,t,fun j d=>f k j Z d,.inl ⟨hu,?_⟩⟩;refine GU (G _ (n-1) Z I' fun i j x y q3=>?_) (by grind [Ez]) fun i u g2 j d=>?_
    ·-- rows that are not there
     unfold FZ;grind [Ff,Hy]
    .have g:i<n-1:=by rwa [Ez]at u
     rw[CI,fd,fd];have B:=e5 i Z (by rw[Ez];omega);show FZ (N+1) _ i j=(l[i]'_) (j+1)-(l[i]'_) 0*V k 0*V k (j+1);rw[B];unfold FZ;rw[ah Z];by_cases h:k=0
     .rw[ah h,af Z,CI];rfl
     .rw[af h];unfold Hy;rw[af (show ¬i+1=0 by omega)];have z0:V 0 0=0:=by have:=e4 0 Z;rwa [CI]at this
      by_cases q:i+1=k
      .rw[ah q,ah q,CI,q];show V k (j+1)-V k 0*V k 0*V k (j+1)-(V 0 (j+1)-V 0 0*V k 0*V k (j+1))*(0+1)=-(V 0 (j+1)) - -(V 0 0)*V k 0*V k (j+1);have:V k 0*V k 0=1:=by rcases (Z:V k 0=1\/V k 0=-1) with e|e<;>rw[e]<;>rfl
       rw[this,z0];simp
      simp_all [CI,Ff]
end Go.Pk
namespace Go.Pk
open Go.Sm
variable {x:Nat} {α:Type}
noncomputable def Tg(NS n L B0 O M N2 N3 N16 top:Nat)(s:List Nat):List (List Nat)->Option (List (List Nat)):=
 @List.rec Nat (fun _=>List (List Nat)->Option (List (List Nat))) (fun a=>some a) (fun Y _ ih a=>tk NS L B0 O M N2 N3 N16 top (ih a) (bif Sw NS (Nat.succ n) (E7 Y) then ih a else none) none (fun Y'=>fN (Fs Y') fun Z=>ih ([Z]::a)) (E7 Y)) s
noncomputable def mrg(a:List Nat):List Nat->List Nat:=
 @List.rec Nat (λ_=>List Nat->List Nat) (λb=>b) (λx a' ih b=>@List.rec Nat (λ_=>List Nat) (x::a') (λy b' ih2=>bif Nat.blt x y then x::ih (y::b') else bif Nat.blt y x then y::ih2 else ih (y::b')) b) a
noncomputable def prs(l:List (List Nat)):Option (List Nat)->List (List Nat)->List (List Nat):=
 @List.rec (List Nat) (λ_=>(Option (List Nat))->List (List Nat)->List (List Nat)) (λo a=>@Option.rec (List Nat) (λ_=>List (List Nat)) a (λx=>x::a) o)
  (λx _ ih o a=>@Option.rec (List Nat) (λ_=>List (List Nat)) (ih (some x) a) (λy=>ih none (mrg y x::a)) o) l
noncomputable def srt(f:Nat):List (List Nat)->List Nat:=
 @Nat.rec (λ_=>List (List Nat)->List Nat) (λl=>@List.rec (List Nat) (λ_=>List Nat) [] (λx _ ih=>mrg x ih) l) (λ_ ih l=>ih (prs l none [])) f
noncomputable def WN(L:Nat)(s:List Nat):List Nat->List Nat:=
 @List.rec Nat (fun _=>List Nat->List Nat) (fun a=>a) (fun Y _ ih a=>fN (Fs (Nat.div (E7 Y) L)) fun y=>@List.rec Nat (fun _=>List Nat) (ih [y]) (fun z _ _=>bif Nat.beq y z then ih a else ih (y::a)) a) s
noncomputable def rev(s:List Nat):List Nat->List Nat:=@List.rec Nat (λ_=>List Nat->List Nat) (λa=>a) (λx _ ih a=>ih (x::a)) s
noncomputable def run(NS n:Nat):List Nat->Bool:=
 @Nat.rec (λ_=>List Nat->Bool) (λ_=>true) (λn ih s=>fN (Nat.pow 32 NS) λL=>fN (rp 32 16 NS) λB0=>fN (rp L 16 n) λO=>fN (rp L 31 n) λM=>fN (rp L (rp 32 1 NS) n) λo=>fN (Nat.mul 2 o) λN2=>fN (Nat.mul 3 o) λN3=>fN (Nat.mul 16 o) λN16=>fN (Nat.div (Nat.mul 16 (Nat.pow L n)) 32) λtop=>
  @Option.rec (List (List Nat)) (λ_=>Bool) false (λt=>ih (mrg (rev (WN L s []) []) (srt 16 t))) (Tg NS n L B0 O M N2 N3 N16 top s [])) n
theorem GZ:∀(a b:List Nat),x∈a\/x∈b->x∈mrg a b
 | [],b,h=>h.resolve_left σ
 | u::a,[],h=>by show x∈u::a;simp_all
 | u::a,y::b,h=>by
  show x∈bif Nat.blt u y then u::mrg a (y::b) else bif Nat.blt y u then y::mrg (u::a) b else mrg a (y::b);have c:x∈a\/x∈y::b->x∈mrg a (y::b):=GZ a (y::b);have d:x∈u::a\/x∈b->x∈mrg (u::a) b:=GZ (u::a) b;cases e1:Nat.blt u y with
  | true=>
   grind
  | false=>
   rw[ib];cases e2:Nat.blt y u with
   | true=>
    grind
   | false=>
    grind [jy,be,ao]
theorem QG:∀(l:List (List Nat)) (o:Option (List Nat)) (a:List (List Nat)),((∃y∈l,x∈y)\/(∃y,o=some y/\x∈y)\/∃y∈a,x∈y)->∃y∈prs l o a,x∈y
 | [],none,a,h=>by
  rcases h with ⟨_,h,_⟩|⟨_,h,_⟩|h
  .cases h
  .cases h
  .exact h
 | [],some z,a,h=>by
  show ∃y∈z::a,x∈y;simp_all
 | z::l,none,a,h=>by
  show ∃y∈prs l (some z) a,x∈y;refine QG l (some z) a ?_;grind
 | z::l,some w,a,h=>by
  show ∃y∈prs l none (mrg w z::a),x∈y;refine QG l none _ ?_;grind [be,ao,GZ,ay,am]
theorem MS:∀(f:Nat) (l:List (List Nat)),(∃y∈l,x∈y)->x∈srt f l
 | 0,[],h=>by simp_all
 | 0,z::l,h=>by
  show x∈mrg z (srt 0 l);obtain⟨y,h,a⟩:=h;rcases be.1 h with rfl|h
  .exact GZ _ _<|.inl a
  .exact GZ _ _<|.inr<|MS 0 l ⟨y,h,a⟩
 | f+1,l,h=>by show x∈srt f (prs l none []);exact MS f _<|QG l none []<|.inl h
theorem YU:∀(s a:List Nat),x∈s\/x∈a->x∈rev s a
 | [],a,h=>h.resolve_left σ
 | y::s,a,h=>by
  show x∈rev s (y::a);refine YU s _ ?_;rcases h with h|h
  .rcases be.1 h with rfl|h
   .exact .inr ao
   .exact .inl h
  .exact .inr<|am _ h
theorem MQ{L:Nat}:∀(s a:List Nat),(∃d∈s,x=Fs (E7 d/L))\/x∈a->x∈WN L s a
 | [],a,h=>h.resolve_left σ
 | d::s,a,h=>by
  have e:WN L (d::s) a=@List.rec Nat (λ_=>List Nat) (WN L s [Fs (E7 d/L)]) (λz _ _=>bif Nat.beq (Fs (E7 d/L)) z then WN L s a else WN L s (Fs (E7 d/L)::a)) a:=by show fN (Fs (Nat.div (E7 d) L)) (λy=>@List.rec Nat (λ_=>List Nat) (WN L s [y]) (λz _ _=>bif Nat.beq y z then WN L s a else WN L s (y::a)) a)=_;rw[IA];rfl
  rw[e]
  have b:(x=Fs (E7 d/L))\/(∃d∈s,x=Fs (E7 d/L))\/x∈a:=by
   rcases h with ⟨y,h,c⟩|h
   .grind
   .simp_all
  cases a with
  | nil=>
   show x∈WN L s [Fs (E7 d/L)];refine MQ s _ ?_;rcases b with h|h|h
   .exact .inr (by rw[h];exact ao)
   .exact .inl h
   .cases h
  | cons z a=>
   show x∈bif Nat.beq (Fs (E7 d/L)) z then WN L s (z::a) else WN L s (Fs (E7 d/L)::z::a);cases e1:Nat.beq (Fs (E7 d/L)) z with
   | true=>
    rw[jk];rw[jz]at e1;refine MQ s _ ?_;rcases b with h|h|h
    .exact .inr (by rw[h,e1];exact ao)
    .exact .inl h
    .exact .inr h
   | false=>
    rw[ib];refine MQ s _ ?_;rcases b with h|h|h
    .exact .inr (by rw[h];exact ao)
    .exact .inl h
    .exact .inr<|am _ h
def QH(N m L B0 O M N2 N3 N16 top Y:Nat)(t:List (List Nat)):Prop:=∀(V:Nat->Nat->Int),IsR (N+1) (m+1) Y V 2->∀k,k<N+1->(∀i,i<k->V i 0=0)->V k 0≠0 →
 Sw (N+1) (m+1) Y=true\/∃Y',[Fs Y']∈t/\(V k 0).natAbs=1/\IsR (N+1) m Y' (FZ (N+1) (if k=0 then Ff V k else Hy k (Ff V k))) 2
theorem Xz(d e a c:Nat)(b:α)(f:Nat->α)(g:Nat):fin d e a c b f g=b\/∃y,fin d e a c b f g=f y:=by
 unfold fin;rw[Hr];cases Nat.beq (Nat.land (Nat.add g d) a) a&&Nat.beq (Nat.land (Nat.sub g e) a) 0 with
 | false=>simp_all
 | true=>grind [Hr]
theorem YB(O M e f b c:Nat)(a:α)(d:Nat->α)(i g:Nat):L9 O M e f b c a d i g=a\/∃y,L9 O M e f b c a d i g=d y:=by
 grind [L9,Hr,Nat.beq,Xz]
theorem XH(none:α)(k:Nat->Nat->α):∀f c i,NT none k f c i=none\/∃a b,NT none k f c i=k a b
 | 0,c,i=>.inl rfl
 | f+1,c,i=>by
  have e:NT none k (f+1) c i=bif Nat.beq (c%32) 16 then NT none k f (c/32) (i+1) else k i (c%32):=by show fN (Nat.mod c 32) (λd=>bif Nat.beq d 16 then NT none k f (Nat.div c 32) (Nat.succ i) else k i d)=_;rw[IA];rfl
  rw[e];cases Nat.beq (c%32) 16 with
  | true=>exact XH none k f _ _
  | false=>exact .inr ⟨_,_,Y⟩
theorem AgZ(m L g O M k l e f:Nat)(none ev c:α)(j:Nat->α)(p:Nat):tk m L g O M k l e f none ev c j p=none\/tk m L g O M k l e f none ev c j p=ev\/tk m L g O M k l e f none ev c j p=c\/∃y,tk m L g O M k l e f none ev c j p=j y:=by
 unfold tk;rw[Hr];cases Nat.beq (Nat.mod p L) g with
 | true=>simp_all
 | false=>
  rw[ib]
  generalize hK:(λi d=>lN (Nat.div p L) λn=>lN (Nat.land (Nat.div n (Nat.pow 32 i)) M) λR=>
  bif Nat.beq d 17 then L9 O M k l e f c j i (Nat.sub (Nat.add n (Nat.add (Nat.mul (Nat.mod p L) O) (Nat.mul g R))) (Nat.add (Nat.mul (Nat.mod p L) R) (Nat.mul g O)))
  else bif Nat.beq d 15 then L9 O M k l e f c j i (Nat.sub (Nat.add n (Nat.add (Nat.mul (Nat.mod p L) R) (Nat.mul g O))) (Nat.add (Nat.mul (Nat.mod p L) O) (Nat.mul g R)))
  else ev)=K
  rcases XH none K m (Nat.mod p L) 0 with h|⟨a,b,h⟩
  all_goals grind [Hr,Nat.beq,YB]
theorem SH{N m L d O M f g b c:Nat}(C:Cn (N+1) m L d O M f g b c):∀(s:List Nat) (a t:List (List Nat)),Tg (N+1) m L d O M f g b c s a=some t->(∀y∈a,y∈t)/\∀Y∈s,QH N m L d O M f g b c (E7 Y) t
 | [],a,t,h=>by obtain rfl:a=t:=ay h;simp_all
 | Y::s,a,t,h=>by
  have h:tk (N+1) L d O M f g b c (Tg (N+1) m L d O M f g b c s a) (bif Sw (N+1) (m+1) (E7 Y) then Tg (N+1) m L d O M f g b c s a else none) none (fun u=>fN (Fs u) fun Z=>Tg (N+1) m L d O M f g b c s ([Z]::a)) (E7 Y)=some t:=h;have h:=h;rw[show(fun u=>fN (Fs u) fun Z=>Tg (N+1) m L d O M f g b c s ([Z]::a))=fun u=>Tg (N+1) m L d O M f g b c s ([Fs u]::a) from funext fun u=>IA _ _]at h;generalize hD:E7 Y=D at h;by_cases hI:∃V,IsR (N+1) (m+1) D V 2
  .obtain⟨V,I⟩:=hI
   have r:∀A,Tg (N+1) m L d O M f g b c s A=some t->(∀y∈a,y∈A)->QH N m L d O M f g b c D t->(∀y∈a,y∈t)/\∀Z∈Y::s,QH N m L d O M f g b c (E7 Z) t:=fun A e ha hS=>by
    obtain⟨R,S⟩:=SH C s A t e;refine⟨fun y p=>R y (ha y p),fun Z Q=>?_⟩;rcases be.1 Q with rfl|Q
    .exact hD ▸ hS
    .exact S Z Q
   -- another matrix of the l number is the l one
   have l:∀v,IsR (N+1) (m+1) D v 2->∀i j,i<N+1->j<m+1->v i j=V i j:=fun v B i j z P=>by rw[<-Mq B z P,Mq I z P]
   rcases AhM C (Tg (N+1) m L d O M f g b c s a) (bif Sw (N+1) (m+1) D then Tg (N+1) m L d O M f g b c s a else none) none (fun u=>Tg (N+1) m L d O M f g b c s ([Fs u]::a)) I with ⟨R,S⟩|⟨k,R,S,q3,T⟩
   .rw[S]at h;exact r a h (fun y p=>p) fun v B k K h2 h3=>lj (by simp_all) h3
   .rcases T with T|T|⟨u,T,q5,q6⟩
    .rw[T]at h;cases e:Sw (N+1) (m+1) D with
     | true=>
      rw[e,jk]at h;exact r a h (fun y p=>p) fun v B k K h2 h3=>.inl e
     | false=>simp_all
    .simp_all
    .rw[T]at h;obtain⟨r1,r2⟩:=SH C s ([Fs u]::a) t h;refine r _ h (fun y p=>am _ p) fun v B n K h2 h3=>.inr ⟨u,r1 _ ao,?_⟩
     have hkk:n=k:=by
      have s1:=l v B;by_cases c1:n<k
      .simp_all
      .grind
     subst hkk;rw[l v B n 0 K ω];refine⟨q5,q6.eq.trans (BG fun j P=>BG fun i z=>?_),fun i j z P=>?_⟩
     all_goals
      have hd:∀i j,i<N+1->j<m->FZ (N+1) (if n=0 then Ff v n else Hy n (Ff v n)) i j=FZ (N+1) (if n=0 then Ff V n else Hy n (Ff V n)) i j:=fun i j z P=>by
       have s1:=l v B
       have hc:∀i,i<N+1->Ff v n i j=Ff V n i j:=fun i z=>by unfold Ff;rw[s1 i (j+1) z ω,s1 i 0 z ω,s1 n 0 K ω,s1 n (j+1) K ω]
       unfold FZ;split
       .rename_i hi2;split
        .exact hc _ hi2
        .unfold Hy;rw[hc _ hi2,hc 0 ω]
       .rfl
     .simp_all
     .rw[hd i j z P];exact q6.bd i j z P
  ·-- no matrix at all
   have r:∀A,Tg (N+1) m L d O M f g b c s A=some t->(∀y∈a,y∈A)->(∀y∈a,y∈t)/\∀Z∈Y::s,QH N m L d O M f g b c (E7 Z) t:=fun A e ha=>by
    obtain⟨R,S⟩:=SH C s A t e;refine⟨fun y p=>R y (ha y p),fun Z Q=>?_⟩;rcases be.1 Q with rfl|Q
    .exact fun V I=>lj ⟨V,hD ▸ I⟩ hI
    .exact S Z Q
   rcases AgZ (N+1) L d O M f g b c (Tg (N+1) m L d O M f g b c s a) (bif Sw (N+1) (m+1) D then Tg (N+1) m L d O M f g b c s a else none) none (fun u=>Tg (N+1) m L d O M f g b c s ([Fs u]::a)) D with q|q|q|⟨u,q⟩
   .exact r a (q ▸ h) fun y p=>p
   all_goals grind
theorem AcR(a n:Nat)(s:List Nat):run a (n+1) s=fN (Nat.pow 32 a) λL=>fN (rp 32 16 a) λd=>fN (rp L 16 n) λO=>fN (rp L 31 n) λM=>fN (rp L (rp 32 1 a) n) λo=>fN (Nat.mul 2 o) λe=>fN (Nat.mul 3 o) λf=>fN (Nat.mul 16 o) λb=>fN (Nat.div (Nat.mul 16 (Nat.pow L n)) 32) λc=>
 @Option.rec (List (List Nat)) (λ_=>Bool) false (λt=>run a n (mrg (rev (WN L s []) []) (srt 16 t))) (Tg a n L d O M e f b c s []):=rfl
theorem Aa5{N:Nat}:∀(m:Nat) (s:List Nat),run (N+1) m s=true->∀B∈s,PG (N+1) m (E7 B)
 | 0,s,_,B,_=>λA n _ _ _=>OG
 | m+1,s,h,B,hY=>by
  obtain⟨L,d⟩:∃L,Nat.pow 32 (N+1)=L:=⟨_,Y⟩
  have h:@Option.rec (List (List Nat)) (λ_=>Bool) false (λt=>run (N+1) m (mrg (rev (WN L s []) []) (srt 16 t))) (Tg (N+1) m L (rp 32 16 (N+1)) (rp L 16 m) (rp L 31 m) (Nat.mul 2 (rp L (rp 32 1 (N+1)) m)) (Nat.mul 3 (rp L (rp 32 1 (N+1)) m)) (Nat.mul 16 (rp L (rp 32 1 (N+1)) m)) (Nat.div (Nat.mul 16 (Nat.pow L m)) 32) s [])=true:=by rw[AcR]at h;simp only[IA,d]at h;exact h
  have C:Cn (N+1) m L (rp 32 16 (N+1)) (rp L 16 m) (rp L 31 m) (Nat.mul 2 (rp L (rp 32 1 (N+1)) m)) (Nat.mul 3 (rp L (rp 32 1 (N+1)) m)) (Nat.mul 16 (rp L (rp 32 1 (N+1)) m)) (Nat.div (Nat.mul 16 (Nat.pow L m)) 32):=by
   have c:L=32^(N+1):=d.symm;have b:rp L (rp 32 1 (N+1)) m=N1 (N+1) m:=by rw[J4,J4,c];rfl
   exact⟨c,J4 ..,J4 ..,J4 ..,by rw[b];rfl,by rw[b];rfl,by rw[b];rfl,rfl⟩
  cases e:Tg (N+1) m L (rp 32 16 (N+1)) (rp L 16 m) (rp L 31 m) (Nat.mul 2 (rp L (rp 32 1 (N+1)) m)) (Nat.mul 3 (rp L (rp 32 1 (N+1)) m)) (Nat.mul 16 (rp L (rp 32 1 (N+1)) m)) (Nat.div (Nat.mul 16 (Nat.pow L m)) 32) s [] with
  | none=>simp_all
  | some t=>
   rw[e]at h;have f:=Aa5 m _ h;obtain⟨_,p⟩:=SH C s [] t e;have a:=f _ (GZ _ _ (.inl (YU _ _ (.inl (MQ s [] (.inl ⟨B,hY,Y⟩))))));rw[Rj]at a;refine Aer C a λA n r I u k i j l=>?_;rcases p B hY A I k i j l with q|⟨g,v,y,z⟩
   .exact .inl<|AfB q A n r I u
   grind [GZ,rev,WN,MS,ao,Rj]
end Go.Pk
namespace Go.Pk
open Go.Sm
variable {i:Nat}
abbrev LQ:=Nat×List (Nat×Bool)
noncomputable def plc{α:Type}(W:Nat)(c:List (Nat×Bool))(none:α)(k:Nat->Nat->α):Nat->Nat->α:=
 @List.rec (Nat×Bool) (λ_=>Nat->Nat->α) (λp q=>k p q) (λx _ ih p q=>fN (Nat.mod (Nat.div W (Nat.pow 32 x.1)) 32) λd=>bif Nat.beq d 0 then none else bif x.2 then ih (Nat.add p (Nat.pow 32 d)) q else ih p (Nat.add q (Nat.pow 32 d))) c
noncomputable def JR(L W:Nat)(cs:List LQ):Nat->Nat:=
 @List.rec LQ (fun _=>Nat->Nat) (fun Y=>Y) (fun c _ ih Y=>ih (plc W c.2 Y (fun p q=>Nat.sub (Nat.add Y (Nat.mul (Nat.pow L c.1) (Nat.div p 32))) (Nat.mul (Nat.pow L c.1) (Nat.div q 32))) 0 0)) cs
noncomputable def J6(L:Nat)(rd:List (Nat×List LQ)):Nat->Nat->Nat->Nat->List (List Nat)->List (List Nat):=
 @List.rec (Nat×List LQ) (fun _=>Nat->Nat->Nat->Nat->List (List Nat)->List (List Nat)) (fun _ _ _ Y out=>fN (Fs Y) fun Z=>[Z]::out)
  (fun r _ ih i n W Y out=>fN (Nat.add W (Nat.mul (Nat.succ n) (Nat.pow 32 i))) fun W'=>
   bif Nat.beq r.1 1 then ih (Nat.succ i) (Nat.succ n) W' (JR L W' r.2 Y) out
   else bif Nat.beq r.1 2 then ih (Nat.succ i) n W Y out
   else ih (Nat.succ i) n W Y (ih (Nat.succ i) (Nat.succ n) W' (JR L W' r.2 Y) out)) rd
noncomputable def Hs(N2 N3 N16:Nat)(s:List Nat):Bool:=
 @List.rec Nat (fun _=>Bool) true (fun Y _ ih=>bif Nat.beq (Nat.land (Nat.add (E7 Y) N2) N16) N16&&Nat.beq (Nat.land (Nat.sub (E7 Y) N3) N16) 0 then ih else false) s
noncomputable def Z5(NS NC:Nat)(rd:List (Nat×List LQ)):Bool:=
 fN (Nat.pow 32 NS) λL=>fN (rp L (rp 32 1 NS) NC) λo=>fN (rp L (rp 32 16 NS) NC) λY0=>(λs=>bif Hs (Nat.mul 2 o) (Nat.mul 3 o) (Nat.mul 16 o) s then run NS NC s else false) (srt 16 (J6 L rd 0 0 0 Y0 []))
theorem XN{b c a:Nat}:∀{s:List Nat},Hs b c a s=true->∀f∈s,(E7 f+b) &&& a=a/\(E7 f-c) &&& a=0
 | [],_,f,h=>by cases h
 | Z::s,h,f,d=>by
  have h:(bif Nat.beq (Nat.land (Nat.add (E7 Z) b) a) a&&Nat.beq (Nat.land (Nat.sub (E7 Z) c) a) 0 then Hs b c a s else false)=true:=h;cases e:Nat.beq (Nat.land (Nat.add (E7 Z) b) a) a&&Nat.beq (Nat.land (Nat.sub (E7 Z) c) a) 0 with
  | false=>simp_all
  | true=>
   rw[e,jk]at h;rw[df,jz,jz]at e;rcases be.1 d with rfl|d
   .exact e
   .exact XN h f d
def ED(F:Nat->Bool):Nat->Nat
 | 0=>0
 | i+1=>ED F i+if F i then 1 else 0
def Nc(F:Nat->Bool)(i:Nat):Nat:=if F i then ED F i+1 else 0
theorem LO(F:Nat->Bool):∀i,ED F i<=i
 | 0=>ak _
 | i+1=>by have:=LO F i;unfold ED;split<;>omega
theorem AaF(F:Nat->Bool){j:Nat}(h:i<=j):ED F i<=ED F j:=by
 induction j<;>grind [ii,ED]
def WF(F:Nat->Bool):Nat->Nat
 | 0=>0
 | i+1=>WF F i+Nc F i*32^i
theorem AfZ(F:Nat->Bool):∀{i:Nat},i<=31->WF F i<32^i
 | 0,_=>Nat.one_pos
 | i+1,h=>by
  have b:=AfZ F (show i<=31 by omega)
  have a:Nc F i<=31:=by have:=LO F i;unfold Nc;split<;>omega
  have c:Nc F i*32^i<=31*32^i:=eh _ a;grind [WF,Nc,d7]
theorem Acw(F:Nat->Bool):∀{i a:Nat},i<=31->a<i->WF F i/32^a%32=Nc F a
 | 0,a,_,h=>Z
 | i+1,a,hi,h=>by
  show(WF F i+Nc F i*32^i)/32^a%32=_;by_cases e:a=i
  .subst e
   have c:Nc F a<32:=by have:=LO F a;unfold Nc;split<;>omega
   rw[Nat.add_mul_div_right _ _ (JY a),gc (AfZ F Z),ig,dv c]
  .obtain⟨z,b⟩:∃z,i=a+1+z:=⟨i-(a+1),Z⟩
   have:Nc F i*32^i=32^a*(32*(32^z*Nc F i)):=by
    conv=>lhs;rw[b,jx,d7]
    rw[<-b];simp only[ie,ei,kr]
   rw[this,Nat.add_mul_div_left _ _ (JY a),ke];exact Acw F Z Z
def KV(b:Bool):Int:=if b then 1 else -1
def Hf(F:Nat->Bool)(c:List (Nat×Bool)):Int:=if c.all (λx=>F x.1) then(c.map λx=>KV x.2*32^ED F x.1).sum else 0
theorem WO{α:Type}(F:Nat->Bool)(n:i<=31)(none:α)(k:Nat->Nat->α):∀(c:List (Nat×Bool)),(∀x∈c,x.1<i)->∀p q,32∣p->32∣q->(plc (WF F i) c none k p q=none/\c.all (λx=>F x.1)=false)\/∃g j:Nat,plc (WF F i) c none k p q=k (32*g) (32*j)/\c.all (λx=>F x.1)=true/\(g:Int)-j=(p/32:Nat)-(q/32:Nat)+(c.map λx=>KV x.2*32^ED F x.1).sum
 | [],_,p,q,⟨g,hp⟩,⟨j,hq⟩=>by refine .inr ⟨g,j,by rw[<-hp,<-hq];rfl,rfl,?_⟩;simp_all
 | x::c,h,p,q,hp,hq=>by
  have v:=h x ao
  have u:plc (WF F i) (x::c) none k p q=bif Nat.beq (Nc F x.1) 0 then none else bif x.2 then plc (WF F i) c none k (p+32^Nc F x.1) q else plc (WF F i) c none k p (q+32^Nc F x.1):=by show fN (Nat.mod (Nat.div (WF F i) (Nat.pow 32 x.1)) 32) (λd=>bif Nat.beq d 0 then none else bif x.2 then plc (WF F i) c none k (Nat.add p (Nat.pow 32 d)) q else plc (WF F i) c none k p (Nat.add q (Nat.pow 32 d)))=_;rw[IA];have:Nat.mod (Nat.div (WF F i) (Nat.pow 32 x.1)) 32=Nc F x.1:=Acw F n v;rw[this];rfl
  rw[u];by_cases l:F x.1=true
  .have m:Nc F x.1=ED F x.1+1:=by unfold Nc;rw[ah l]
   rw[m,show Nat.beq (ED F x.1+1) 0=false from Y,ib];have s:32∣32^(ED F x.1+1):=⟨32^ED F x.1,by rw[d7,ei]⟩
   have f:∀a:Nat,32∣a->((a+32^(ED F x.1+1))/32:Nat)=a/32+32^ED F x.1:=λa ⟨z,t⟩=>by rw[t,d7,ei (32^ED F x.1),<-ip,je _ H,je _ H]
   cases hs:x.2 with
   | true=>
    rw[jk];rcases WO F n none k c (λy r=>h y (am _ r)) (p+32^(ED F x.1+1)) q (Nat.dvd_add hp s) hq with ⟨a,b⟩|⟨g,j,a,b,e⟩
    .exact .inl ⟨a,by rw[List.all_cons,b,Bool.and_false]⟩
    .refine .inr ⟨g,j,a,by rw[List.all_cons,b,l];rfl,?_⟩;rw[e,f p hp,dh,fa,hs];unfold KV;rw[ah rfl];simp;omega
   | false=>
    rw[ib];rcases WO F n none k c (λy r=>h y (am _ r)) p (q+32^(ED F x.1+1)) hp (Nat.dvd_add hq s) with ⟨a,b⟩|⟨g,j,a,b,e⟩
    .exact .inl ⟨a,by rw[List.all_cons,b,Bool.and_false]⟩
    .refine .inr ⟨g,j,a,by rw[List.all_cons,b,l];rfl,?_⟩;rw[e,f q hq,dh,fa,hs];unfold KV;rw[af H];simp;omega
  simp_all [Nc,List.all_cons]
theorem Yq(F:Nat->Bool){L:Nat}(j:i<=31):∀(cs:List LQ) (v:Nat),(∀c∈cs,∀x∈c.2,x.1<i)->(∀P,P <+: cs->0<=(v:Int)+(P.map λc=>(L:Int)^c.1*Hf F c.2).sum)->(JR L (WF F i) cs v:Int)=v+(cs.map λc=>(L:Int)^c.1*Hf F c.2).sum
 | [],v,_,_=>by show(v:Int)=_;simp
 | c::cs,v,h,h0=>by
  have r:JR L (WF F i) (c::cs) v=JR L (WF F i) cs (plc (WF F i) c.2 v (λp q=>v+L^c.1*(p/32)-L^c.1*(q/32)) 0 0):=rfl;have k:=h0 [c] ⟨cs,Y⟩
  have f:((plc (WF F i) c.2 v (λp q=>v+L^c.1*(p/32)-L^c.1*(q/32)) 0 0:Nat):Int)=v+(L:Int)^c.1*Hf F c.2:=by
   rcases WO F j v (λp q=>v+L^c.1*(p/32)-L^c.1*(q/32)) c.2 (h c ao) 0 0 ⟨0,rfl⟩ ⟨0,rfl⟩ with ⟨a,b⟩|⟨s,u,a,b,e⟩
   .grind [Hf]
   .have g:Hf F c.2=(s:Int)-u:=by
     unfold Hf;rw[b,ah rfl,e];simp
    rw[a,g,je _ H,je _ H];grind
  rw[r,Yq F j cs _ (λd m=>h d (am _ m)) (λP l=>?_),f,dh,fa]
  .omega
  .rw[f];have:=h0 (c::P) (by obtain⟨t,n⟩:=l;exact⟨t,by rw[<-n];rfl⟩);grind
theorem KY(L:Nat):∀(rd:List (Nat×List LQ)) (i n e f:Nat) (a:List (List Nat)),∀y∈a,y∈J6 L rd i n e f a
 | [],i,n,e,f,a,y,hy=>by show y∈fN (Fs f) λd=>[d]::a;grind [IA,am]
 | r::rd,i,n,e,f,a,y,hy=>by
  have c:J6 L (r::rd) i n e f a=bif Nat.beq r.1 1 then J6 L rd (i+1) (n+1) (e+(n+1)*32^i) (JR L (e+(n+1)*32^i) r.2 f) a
   else bif Nat.beq r.1 2 then J6 L rd (i+1) n e f a else J6 L rd (i+1) n e f (J6 L rd (i+1) (n+1) (e+(n+1)*32^i) (JR L (e+(n+1)*32^i) r.2 f) a):=by
   show fN (Nat.add e (Nat.mul (Nat.succ n) (Nat.pow 32 i))) (λb=>
   bif Nat.beq r.1 1 then J6 L rd (Nat.succ i) (Nat.succ n) b (JR L b r.2 f) a
   else bif Nat.beq r.1 2 then J6 L rd (Nat.succ i) n e f a
   else J6 L rd (Nat.succ i) n e f (J6 L rd (Nat.succ i) (Nat.succ n) b (JR L b r.2 f) a))=_
   simp only[IA];rfl
  rw[c];cases Nat.beq r.1 1 with
  | true=>exact KY L rd _ _ _ _ _ y hy
  | false=>
   rw[ib];cases Nat.beq r.1 2 with
   | true=>exact KY L rd _ _ _ _ _ y hy
   | false=>exact KY L rd _ _ _ _ _ y<|KY L rd _ _ _ _ _ y hy
def cols(rd:List (Nat×List LQ)):List LQ:=rd.flatMap Prod.snd
def Agr(F:Nat->Bool):Nat->List (Nat×List LQ)->Prop
 | _,[]=>True
 | i,r::rd=>(r.1=1->F i=true)/\(r.1=2->F i=false)/\Agr F (i+1) rd
def Y6(NC:Nat):Nat->List (Nat×List LQ)->Bool
 | _,[]=>true
 | i,r::rd=>(r.2.all λc=>decide (c.1<NC)&&((c.2.any λx=>decide (x.1=i))&&c.2.all λx=>decide (x.1<=i)))&&Y6 NC (i+1) rd
theorem WZ(F:Nat->Bool){L NC:Nat}:∀(rd:List (Nat×List LQ)) (i Y:Nat) (a:List (List Nat)),i+rd.length<=31->Agr F i rd->Y6 NC i rd=true->(∀P:List LQ,P.Sublist (cols rd)->0<=(Y:Int)+(P.map fun c=>(L:Int)^c.1*Hf F c.2).sum) →
  ∃T:Nat,[Fs T]∈J6 L rd i (ED F i) (WF F i) Y a/\(T:Int)=Y+((cols rd).map fun c=>(L:Int)^c.1*Hf F c.2).sum
 | [],i,Y,a,_,_,_,_=>⟨Y,by
  show [Fs Y]∈fN (Fs Y) fun T=>[T]::a;rw[IA]
  exact ao,by simp[cols]⟩
 | r::rd,i,Y,a,hi,hA,t,h0=>by
  rw[de]at hi;obtain⟨M,O,K⟩:=hA;have t:((r.2.all fun c=>decide (c.1<NC)&&((c.2.any fun x=>decide (x.1=i))&&c.2.all fun x=>decide (x.1<=i)))&&Y6 NC (i+1) rd)=true:=t;rw[df]at t
  have z:∀c∈r.2,(∃x∈c.2,x.1=i)/\∀x∈c.2,x.1<=i:=fun c z=>by grind
  have f:cols (r::rd)=r.2++cols rd:=rfl
  have R:J6 L (r::rd) i (ED F i) (WF F i) Y a=bif Nat.beq r.1 1 then J6 L rd (i+1) (ED F i+1) (WF F i+(ED F i+1)*32^i) (JR L (WF F i+(ED F i+1)*32^i) r.2 Y) a
   else bif Nat.beq r.1 2 then J6 L rd (i+1) (ED F i) (WF F i) Y a else J6 L rd (i+1) (ED F i) (WF F i) Y (J6 L rd (i+1) (ED F i+1) (WF F i+(ED F i+1)*32^i) (JR L (WF F i+(ED F i+1)*32^i) r.2 Y) a):=by
   show fN (Nat.add (WF F i) (Nat.mul (Nat.succ (ED F i)) (Nat.pow 32 i))) (fun y=>
   bif Nat.beq r.1 1 then J6 L rd (Nat.succ i) (Nat.succ (ED F i)) y (JR L y r.2 Y) a
   else bif Nat.beq r.1 2 then J6 L rd (Nat.succ i) (ED F i) (WF F i) Y a
   else J6 L rd (Nat.succ i) (ED F i) (WF F i) Y (J6 L rd (Nat.succ i) (Nat.succ (ED F i)) y (JR L y r.2 Y) a))=_
   simp only[IA];rfl
  rw[R];cases hF:F i with
  | true=>
   have A:ED F (i+1)=ED F i+1:=by show ED F i+(if F i then 1 else 0)=_;rw[hF];rfl
   have B:WF F (i+1)=WF F i+(ED F i+1)*32^i:=by show WF F i+Nc F i*32^i=_;unfold Nc;rw[ah hF]
   rw[<-B,<-A];have j:=Yq F (i:=i+1) (L:=L) Z r.2 Y (fun c m x n=>by grind) fun P v=>h0 P (by rw[f];exact v.sublist.trans<|List.sublist_append_left _ _)
   have k:=fun g=>WZ F (L:=L) (NC:=NC) rd (i+1) (JR L (WF F (i+1)) r.2 Y) g Z K t.2 fun P v=>by have:=h0 (r.2++P) (by rw[f];exact List.Sublist.append (lg _) v);grind
   have fin:∀T:Nat,(T:Int)=JR L (WF F (i+1)) r.2 Y+((cols rd).map fun c=>(L:Int)^c.1*Hf F c.2).sum->(T:Int)=Y+((cols (r::rd)).map fun c=>(L:Int)^c.1*Hf F c.2).sum:=fun T e=>by grind
   cases b1:Nat.beq r.1 1 with
   | true=>
    rw[jk];obtain⟨T,p,s⟩:=k a;grind
   | false=>
    rw[ib];cases b2:Nat.beq r.1 2 with
    | true=>
     simp_all
    | false=>
     rw[ib];obtain⟨T,p,s⟩:=k a;grind [KY,fin]
  | false=>
   have A:ED F (i+1)=ED F i:=by show ED F i+(if F i then 1 else 0)=_;rw[hF];rfl
   have B:WF F (i+1)=WF F i:=by show WF F i+Nc F i*32^i=_;unfold Nc;rw[hF];simp
   have S:(r.2.map fun c=>(L:Int)^c.1*Hf F c.2).sum=0:=by
    have:∀c∈r.2,Hf F c.2=0:=fun c m=>by grind [Hf,dy]
    have u:∀l:List LQ,(∀c∈l,Hf F c.2=0)->(l.map fun c=>(L:Int)^c.1*Hf F c.2).sum=0:=by
     intro l
     induction l with
     | nil=>intro _;rfl
     | cons c l k=>grind
    exact u _ this
   have k:=fun g=>WZ F (L:=L) (NC:=NC) rd (i+1) Y g Z K t.2 fun P v=>h0 P (by simp_all);rw[A,B]at k
   have fin:∀T:Nat,(T:Int)=Y+((cols rd).map fun c=>(L:Int)^c.1*Hf F c.2).sum->(T:Int)=Y+((cols (r::rd)).map fun c=>(L:Int)^c.1*Hf F c.2).sum:=fun T e=>by simp_all
   cases b1:Nat.beq r.1 1 with
   | true=>
    simp_all
   | false=>
    rw[ib];cases b2:Nat.beq r.1 2 with
    | true=>
     simp_all
    | false=>
     simp_all
end Go.Pk
namespace Go.Pk
open Go.Sm
variable {N NC:Nat} {F:Nat->Bool}
def cV(F:Nat->Bool)(c:List (Nat×Bool))(a:Nat):Int:=if c.all (λx=>F x.1) then(c.map λx=>if a=ED F x.1 then KV x.2 else 0).sum else 0
def VA(F:Nat->Bool)(P:List LQ)(a j:Nat):Int:=(P.map λc=>if j=c.1 then cV F c.2 a else 0).sum
def wt(P:List LQ)(j:Nat):Nat:=(P.map λc=>if j=c.1 then c.2.length else 0).sum
theorem P8{b:Int}{n s:Nat}(c:s<n)(v:Int):bs b n (λa=>if a=s then v else 0)=b^s*v:=by
 have:=Fb b n v λa=>if a=s then 1 else 0
 grind [Tc,e9,BG]
theorem AeA{c:List (Nat×Bool)}(h:∀x∈c,x.1<N):Hf F c=bs 32 N (cV F c):=by
 unfold Hf cV;cases c.all (λx=>F x.1) with
 | false=>simp[GV]
 | true=>
  simp only[if_true]
  have b:∀l:List (Nat×Bool),(∀x∈l,x.1<N)->(l.map λx=>KV x.2*32^ED F x.1).sum=bs 32 N λa=>(l.map λx=>if a=ED F x.1 then KV x.2 else 0).sum:=by
   intro l
   induction l with
   | nil=>intro _;simp[GV]
   | cons x l ih=>
    intro h;have d:ED F x.1<N:=by have f:=LO F x.1;have g:=h x ao;omega
    simp_all [dh,fa,am,e9,P8,E0,BG]
  exact b c h
theorem AbJ{L:Int}:∀(P:List LQ),(∀c∈P,c.1<NC/\∀x∈c.2,x.1<N)->(P.map λc=>L^c.1*Hf F c.2).sum=bs L NC λj=>bs 32 N λa=>VA F P a j
 | [],_=>by
  simp_all [bs,VA,BG,trans,GV]
 | c::P,h=>by
  obtain⟨b,f⟩:=h c ao;rw[dh,fa,AbJ P λd g=>h d (am _ g),<-P8 b,<-E0];refine BG λj _=>?_
  have e:(λa=>VA F (c::P) a j)=λa=>(if j=c.1 then cV F c.2 a else 0)+VA F P a j:=by funext a;unfold VA;rw[dh,fa]
  rw[e,E0];congr 1;by_cases q:j=c.1
  .simp only[ah q];rw[AeA f]
  simp_all [GV]
theorem AhU(F:Nat->Bool)(c:List (Nat×Bool))(a:Nat):(cV F c a).natAbs<=c.length:=by
 unfold cV;split
 .have b:∀l:List (Nat×Bool),(l.map λx=>if a=ED F x.1 then KV x.2 else 0).sum.natAbs<=l.length:=by
   intro l
   induction l with
   | nil=>exact ak _
   | cons x l ih=>
    grind [dh,fa,de,ED,KV]
  exact b c
 .exact fm _
theorem AfM(F:Nat->Bool)(a j:Nat):∀P:List LQ,(VA F P a j).natAbs<=wt P j
 | []=>ak _
 | c::P=>by have b:=AfM F a j P;unfold VA wt at b ⊢;rw[dh,fa,dh,fa];have:=AhU F c.2 a;split<;>omega
theorem Ahr(j:Nat){P Q:List LQ}(h:P.Sublist Q):wt P j<=wt Q j:=by
 induction h<;>grind [wt,dh,fa]
theorem Ug:∀{rd:List (Nat×List LQ)} {i:Nat},Y6 NC i rd=true->∀c∈cols rd,c.1<NC/\∀x∈c.2,x.1<i+rd.length
 | [],i,_,c,a=>nomatch a
 | r::rd,i,h,c,a=>by
  have h:((r.2.all λc=>decide (c.1<NC)&&((c.2.any λx=>decide (x.1=i))&&c.2.all λx=>decide (x.1<=i)))&&Y6 NC (i+1) rd)=true:=h;rw[df]at h;rw[de];rcases bi.1 (show c∈r.2++cols rd from a) with a|a
  .have:=dy.1 h.1 c a;rw[df,df]at this;exact⟨dd this.1,λx b=>by have:=dd (dy.1 this.2.2 x b);omega⟩
  .obtain⟨d,e⟩:=Ug h.2 c a;exact⟨d,λx b=>by have:=e x b;omega⟩
theorem AeH{x:Nat}(a:F x=true)(d:x<N):ED F x<ED F N:=by
 have b:=AaF F (show x+1<=N by omega);grind [ED]
theorem Ym{a j:Nat}:∀{P:List LQ},(∀c∈P,∀x∈c.2,x.1<N)->ED F N<=a->VA F P a j=0
 | [],_,_=>rfl
 | c::P,h,ha=>by
  have e:VA F P a j=0:=Ym (λd m=>h d (am _ m)) ha;unfold VA at e ⊢;rw[dh,fa,e]
  have:cV F c.2 a=0:=by
   unfold cV;split
   .rename_i b
    have f:∀l:List (Nat×Bool),(∀x∈l,F x.1=true/\x.1<N)->(l.map λx=>if a=ED F x.1 then KV x.2 else 0).sum=0:=by
     intro l
     induction l with
     | nil=>intro _;rfl
     | cons x l e=>
      intro h;obtain⟨i,k⟩:=h x ao;have:=AeH i k;rw[dh,fa,af Z,e λy n=>h y (am _ n)];rfl
    exact f _ λx g=>⟨dy.1 b x g,h c ao x g⟩
   .rfl
  omega
def dOk(NS NC:Nat)(rd:List (Nat×List LQ)):Bool:=decide (rd.length=NS)&&(Y6 NC 0 rd&&(range NC).all λj=>decide (wt (cols rd) j<=12))
theorem Afd{rd:List (Nat×List LQ)}(hN:N+1<=31)(p:dOk (N+1) NC rd=true)(h:Z5 (N+1) NC rd=true)(F:Nat->Bool)(R:Agr F 0 rd):JZ NC (Hq (ED F (N+1)) (VA F (cols rd))):=by
 unfold dOk at p;rw[df,df]at p;obtain⟨l,t,B⟩:=p;have l:=dd l;have S:∀j,j<NC->wt (cols rd) j<=12:=λj f=>dd (dy.1 B j (b6.2 f));have y:=Ug t;obtain⟨L,v⟩:∃L,Nat.pow 32 (N+1)=L:=⟨_,Y⟩
 have e:L=32^(N+1):=v.symm;unfold Z5 at h;simp only[IA,v]at h
 have m:((rp L (rp 32 16 (N+1)) NC:Nat):Int)=bs ((32^(N+1):Nat):Int) NC λj=>bs 32 (N+1) λ_=>16:=by rw[J4,HY,e];refine BG λj _=>?_;rw[J4,HY];rfl
 have b:∀P:List LQ,P.Sublist (cols rd)->((rp L (rp 32 16 (N+1)) NC:Nat):Int)+(P.map λc=>(L:Int)^c.1*Hf F c.2).sum=bs ((32^(N+1):Nat):Int) NC (λj=>bs 32 (N+1) λa=>VA F P a j+16)/\∀a j,j<NC->-12<=VA F P a j/\VA F P a j<=12:=λP g=>by
  refine⟨?_,λa j f=>?_⟩
  .rw[m,e,AbJ P λc i=>by have:=y c (g.subset i);rw[l,ig]at this;exact this,<-E0];exact BG λj _=>by grind [E0,BG]
  .have u:=AfM F a j P;have O:=Ahr j g;grind
 obtain⟨Z,z1,A⟩:=WZ F (L:=L) (NC:=NC) rd 0 (rp L (rp 32 16 (N+1)) NC) [] ω R t λP g=>by
  rw[(b P g).1];refine(HH (by have:=JY (N+1);omega) λj f=>?_).1
  have:=HH (b:=32) ω (n:=N+1) (d:=λa=>VA F P a j+16) λa _=>by have:=(b P g).2 a j f;show 0<=VA F P a j+16/\VA F P a j+16<32;omega
  simp_all
 have z:=MS (x:=Fs Z) 16 _ ⟨_,z1,ao⟩;rw[(b _ (lg _)).1]at A;have k:IsR (N+1) NC Z (VA F (cols rd)) 12:=⟨A,λa j _ f=>(b _ (lg _)).2 a j f⟩
 have M:rp L (rp 32 1 (N+1)) NC=N1 (N+1) NC:=by rw[J4,J4,e];rfl
 have K:J6 L rd 0 0 0 (rp L (rp 32 16 (N+1)) NC) []=J6 L rd 0 (ED F 0) (WF F 0) (rp L (rp 32 16 (N+1)) NC) []:=rfl;rw[M,K]at h;cases i:Hs (Nat.mul 2 (N1 (N+1) NC)) (Nat.mul 3 (N1 (N+1) NC)) (Nat.mul 16 (N1 (N+1) NC)) (srt 16 (J6 L rd 0 (ED F 0) (WF F 0) (rp L (rp 32 16 (N+1)) NC) [])) with
 | false=>simp_all
 | true=>
  rw[i,jk]at h;obtain⟨r,s⟩:=XN i _ z;have d:=Aa5 NC _ h _ z;rw[Rj]at r s d;refine d _ _ ?_ (k.chk r s) λa j u O Q=>?_
  .grind [LO]
  .exact Ym (λc n x T=>by grind) u
theorem Sf{rd:List (Nat×List LQ)}(u:N+1<=31)(v:NC<=31)(z:dOk (N+1) NC rd=true)(h:Z5 (N+1) NC rd=true)(F:Nat->Bool)(t:Agr F 0 rd){n m:Nat}(L:n=ED F (N+1)){cs:Nat->Nat}(l:∀i j,i<j->j<m->cs i<cs j)(g:∀j,j<m->cs j<NC)(s:St)(y:s.b=0)(x:s.S.Shp n m)(B:∀a b,a<n->b<m->AP s.S.d a b=VA F (cols rd) a (cs b)):∃K,D8 n m (min n m) 0 s=some K:=by
 have G:=Afd u z h F t m cs l g;have r:n<=31:=by have:=LO F (N+1);omega
 have p:m<=31:=by
  by_cases q:m=0
  .omega
  .have:∀k,k<m->k<=cs k:=by
    intro k
    induction k with
    | zero=>intro _;exact fm _
    | succ k ih=>
     intro c;have e:=ih Z;have f:=l k (k+1) Z c;omega
   grind
 refine G n m 0 (min n m) s ⟨x,by rw[bb,Ez];omega,Z,λk c=>?_⟩ ?_
 .have d:k<n:=by rw[bb,Ez]at c;omega
  rw[fd,CI];refine⟨λj A=>?_,λb e f=>Z⟩;rw[ig,iy,ig];exact B k j d A
 .rw[y];have:min n m*(n+m+2)<=31*64:=fx Z Z;omega
end Go.Pk
namespace Go.Pk
open Go.Sm
def US(g f:Nat):List (Nat×List LQ):=[(0,[]),(0,[]),(0,[]),(0,[]),(0,[]),(0,[(0,[(0,true),(1,false),(5,true)])]),(0,[(1,[(0,true),(2,false),(6,true)])]),(0,[(2,[(0,true),(3,false),(7,true)])]),(0,[(3,[(0,true),(4,false),(8,true)])]),(0,[(4,[(1,true),(2,false),(9,true)]),(10,[(5,true),(6,false),(9,true)])]),(0,[(5,[(1,true),(3,false),(10,true)]),(11,[(5,true),(7,false),(10,true)])]),(0,[(6,[(1,true),(4,false),(11,true)]),(12,[(5,true),(8,false),(11,true)])]),(0,[(7,[(2,true),(3,false),(12,true)]),(13,[(6,true),(7,false),(12,true)]),(16,[(9,true),(10,false),(12,true)])]),(g,[(8,[(2,true),(4,false),(13,true)]),(14,[(6,true),(8,false),(13,true)]),(17,[(9,true),(11,false),(13,true)])]),(f,[(9,[(3,true),(4,false),(14,true)]),(15,[(7,true),(8,false),(14,true)]),(18,[(10,true),(11,false),(14,true)]),(19,[(12,true),(13,false),(14,true)])])]
theorem rd2_ok:dOk 15 20 (US 0 2)=true/\dOk 15 20 (US 1 1)=true/\dOk 15 20 (US 2 1)=true:=by decide +kernel
theorem Abg:Z5 15 20 (US 0 2)=true:=by decide +kernel
theorem Ab9:Z5 15 20 (US 1 1)=true:=by decide +kernel
theorem AcZ:Z5 15 20 (US 2 1)=true:=by decide +kernel
end Go.Pk
