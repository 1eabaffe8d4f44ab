/- A part of the proof. -/
import Derived.Test.YtodheebhahdepaaGreatDoorRA
import Derived.Sort.AssemblyPlain
import Derived.Sort.LotD5
import Derived.Sort.Walk13a
import Derived.Lib.BitFns
import Derived.Laws.CopyRow
import Derived.Deep.Slices
import Derived.OpenShut
import Derived.Maps.RangeRun
import Derived.Maps.Keyed
import Derived.Carry
import Derived.Lib.SliceRun
import Derived.Scope
import Derived.RangeFuncLeaves
import Derived.RangeFuncRecord
import Derived.OrdersIn
import Derived.TacticsIn
import Derived.Shelf.GgSortFunc.InsertionK
import Derived.Laws.Strings
import Derived.Laws.BytesArg
set_option linter.unusedSimpArgs false
set_option linter.unusedVariables false
set_option linter.unusedSectionVars false
set_option maxRecDepth 100000
set_option maxHeartbeats 4000000
open List (length_map replicate range length_append length_take mem_cons mem_range map_append mem_cons_self mem_cons_of_mem append_nil map_map map_cons length_set append_assoc flatMap_cons perm_append_comm mem_append_left mem_append_right)
namespace Go.Eng
open Go.RowKit
variable {j:Nat} {u:Value}
def AG:Value->Addr
 | .slice (some p) _ _=>p
 | _=>⟨0,0,none⟩
def Cj(sz:Nat)(v:Value)(i j:Nat):Value:=
 match v with
 | .slice a _ c=>.slice (if c=i then a else a.map (·.add (i*sz))) (j-i) (c-i)
 | u=>u
theorem Rd.val{h:Hp}{ms:List Hp}{v:Value}{sz n:Nat}{cs:List Value}(R:Rd h ms v sz n cs)(hn:0<n):∃c,v=.slice (some (AG v)) n c/\Seg h ms (AG v) cs:=by obtain⟨a,c,rfl,e2,e3,e4,e5⟩:=R.ex;obtain⟨q,rfl,hs⟩:=e5 hn;exact⟨c,Y,hs⟩
theorem Rd.len_le{h:Hp}{ms:List Hp}{v:Value}{sz n:Nat}{cs:List Value}(R:Rd h ms v sz n cs):n<=9223372036854775807:=by obtain⟨a,c,rfl,e2,e3,e4,e5⟩:=R.ex;omega
theorem Rd.cells{h:Hp}{ms:List Hp}{v:Value}{sz n:Nat}{cs:List Value}(R:Rd h ms v sz n cs):v.cells=[v].toArray:=by obtain⟨a,c,rfl,_⟩:=R.ex;rfl
theorem Rd.one{h:Hp}{ms:List Hp}{v:Value}{sz n:Nat}{cs:List Value}(R:Rd h ms v sz n cs):v.oneCell'=true:=by obtain⟨a,c,rfl,_⟩:=R.ex;rfl
theorem Rd.blk{h:Hp}{ms:List Hp}{g:Nat}{el:TypeId}{sz n c:Nat}{cs:List Value}(hm:Bh g el cs∈ms)(hl:cs.length=n*sz)(hn:n<=c)(hc:c<=9223372036854775807):Rd h ms (.slice (some ⟨g,0,none⟩) n c) sz n cs:=by refine⟨_,c,Y,hn,hc,hl,λ_=>⟨_,Y,?_⟩⟩;obtain⟨i,hi⟩:=List.getElem?_of_mem hm;exact Seg.blk i hi
theorem Rd.sub_{h:Hp}{ms:List Hp}{v:Value}{sz n:Nat}{cs:List Value}(R:Rd h ms v sz n cs){i:Nat}(hi:i<=j)(hj:j<=n):Rd h ms (Cj sz v i j) sz (j-i) ((cs.drop (i*sz)).take ((j-i)*sz)):=by
 obtain⟨a,c,rfl,e2,e3,e4,e5⟩:=R.ex;refine⟨_,c-i,Y,ω,ω,?_,λhlt=>?_⟩
 ·rw[av,List.length_drop,e4];have h1:(j-i)*sz<=n*sz-i*sz:=by rw[<-Nat.sub_mul];exact d7 _ ω
  omega
 ·obtain⟨q,rfl,hs⟩:=e5 ω;have hci:¬c=i:=ω
  refine⟨q.add (i*sz),by simp[hci],λk u hu=>?_⟩;rw[B9];refine hs _ u ?_;rw[f8]at hu;split at hu
  ·rw[List.getElem?_drop]at hu;exact hu
  ·cases hu
structure RdL{α:Type}(F:α->List Value)(sz:Nat)(h:Hp)(ms:List Hp)(v:Value)(l:List α):Prop where
 rd:Rd h ms v sz l.length (l.flatMap F)
 len:∀x,(F x).length=sz
structure OwnL{α:Type}(F:α->List Value)(sz:Nat)(el:TypeId)(m:Hp)(v:Value)(l:List α):Prop where
 own:Own el sz m v l.length (l.flatMap F)
 len:∀x,(F x).length=sz
section
variable {α:Type} {F:α->List Value} {sz:Nat} {h h':Hp} {ms ms':List Hp} {v:Value} {l:List α} {el:TypeId} {m:Hp}
theorem RdL.up(R:RdL F sz h ms v l)(hl:h.le h'):RdL F sz h' ms v l:=⟨R.rd.le hl,R.len⟩
theorem RdL.sub(R:RdL F sz h ms v l)(hm:∀m∈ms,m∈ms'):RdL F sz h ms' v l:=⟨R.rd.sub hm,R.len⟩
theorem RdL.any(R:RdL F sz h [] v l):RdL F sz h ms v l:=R.sub σ
theorem RdL.len_le(R:RdL F sz h ms v l):l.length<=9223372036854775807:=R.rd.len_le
theorem OwnL.rd(O:OwnL F sz el m v l)(hm:m∈ms):RdL F sz h ms v l:=⟨O.own.rd hm,O.len⟩
theorem OwnL.rdh(O:OwnL F sz el m v l)(hm:m.le h):RdL F sz h ms v l:=⟨O.own.rdh hm,O.len⟩
theorem OwnL.frozen(O:OwnL F sz el m v l){h0:Hp}(hd:m.disj h0):RdL F sz (h0.join m) ms v l:=O.rdh (Hp.join_le_right hd)
theorem OwnL.nil(hF:∀x,(F x).length=sz):OwnL F sz el Hp.emp (.slice none 0 0) []:=⟨Own.nil el sz,hF⟩
theorem FA(hF:∀x,(F x).length=sz):∀(l:List α) (j:Nat),(l.flatMap F).drop (j*sz)=(l.drop j).flatMap F
 | [],j=>by simp
 | x::l,0=>by simp
 | x::l,j+1=>by rw[fp,d5,iv,Nat.add_comm,<-List.drop_drop,<-hF x,List.drop_left,hF x,FA hF l j];rfl
theorem GM(hF:∀x,(F x).length=sz):∀(l:List α) (j:Nat),(l.flatMap F).take (j*sz)=(l.take j).flatMap F
 | [],j=>by simp
 | x::l,0=>by simp
 | x::l,j+1=>by rw[fp,d5,iv,Nat.add_comm,List.take_append,hF x,io (by rw[hF x];omega),Nat.add_sub_cancel_left,GM hF l j];rfl
theorem Bv(hF:∀x,(F x).length=sz)(l:List α):(l.flatMap F).length=l.length*sz:=by
 induction l with
 | nil=>simp
 | cons x l ih=>rw[fp,ag,hF,ih,List.length_cons,d5];omega
theorem Fg(hF:∀x,(F x).length=sz)(l:List α)(j:Nat)(hj:j<l.length)(f:Nat)(u:Value)(hf:(F l[j])[f]?=some u):(l.flatMap F)[j*sz+f]?=some u:=by
 have h1:((l.flatMap F).drop (j*sz))[f]?=some u:=by rw[FA hF,d9 hj,fp,dw (bg.1 hf).1];exact hf
 rwa [List.getElem?_drop]at h1
theorem RdL.cell(R:RdL F sz h ms v l)(hj:j<l.length){f:Nat}(hf:(F l[j])[f]?=some u):Cell h ms (((AG v).add (j*sz)).add f) u:=by obtain⟨c,_,hs⟩:=R.rd.val ω;rw[B9];exact hs _ u (Fg R.len l j hj f u hf)
theorem RdL.cell0(R:RdL F sz h ms v l)(hj:j<l.length)(hf:(F l[j])[0]?=some u):Cell h ms ((AG v).add (j*sz)) u:=by have:=R.cell hj hf;rwa [E4]at this
theorem RdL.seg(R:RdL F sz h ms v l)(hj:j<l.length):Seg h ms ((AG v).add (j*sz)) (F l[j]):=λf u hf=>R.cell hj hf
theorem RdL.sub_(R:RdL F sz h ms v l){i:Nat}(hi:i<=j)(hj:j<=l.length):RdL F sz h ms (Cj sz v i j) ((l.drop i).take (j-i)):=by
 refine⟨?_,R.len⟩;have:=R.rd.sub_ hi hj;rw[FA R.len,GM R.len]at this;have e:((l.drop i).take (j-i)).length=j-i:=by rw[av,List.length_drop];omega
 rw[e];exact this
end
section
variable {P:Program} {o:Oper} {s:AF} {h:Hp} {ms:List Hp} {t el:TypeId} {x y lo hi:Operand} {v:Value} {sz n:Nat} {cs:List Value} {z:Value} {bytes:Nat} {k k':IntKind}
theorem AA{i:Int}(j:Nat)(R:Rd h ms v sz n cs)(ho:o.op=.indexAddr t x y)(ht:P.underlying t=some (.slice el))(hs:Elem P el sz z bytes)(hx:ev s x=some v)(hy:ev s y=some (.int k i))(hi:i=(j:Int))(hlt:j<n):OX P o s h ms (.pointer (some ((AG v).add (j*sz)))):=by obtain⟨c,e,_⟩:=R.val ω;rw[e]at hx;exact Co j ho ht hs hx hy hi hlt
theorem As(R:Rd h ms v sz n cs)(ho:o.op=.call { callee:=.builtin .len,args:=#[x],argTypes:=#[t] })(ht:P.underlying t=some (.slice el))(hx:ev s x=some v):OX P o s h ms (.int .i64 n):=by obtain⟨a,c,rfl,_⟩:=R.ex;exact RL (ty:=t) ho ht hx
theorem G1{l r:Int}(i j:Nat)(R:Rd h ms v sz n cs)(ho:o.op=.slice t x (some lo) (some hi) none)(ht:P.underlying t=some (.slice el))(hs:Elem P el sz z bytes)(hx:ev s x=some v)(hlo:ev s lo=some (.int k l))(hhi:ev s hi=some (.int k' r))(el':l=(i:Int))(er:r=(j:Int))(h1:i<=j)(h2:j<=n) :
  OX P o s h ms (Cj sz v i j):=by
 obtain⟨a,c,rfl,e2,e3,e4,e5⟩:=R.ex
 exact BJ λρ w hρ _=>by
  have g1:(0:Int)<=l/\l<=(j:Int):=ω
  have g2:(0:Int)<=r/\r<=(c:Int):=ω
  have g3:l.toNat=i:=ω
  have g4:r.toNat=j:=ω
  simp[execOp,ho,hρ _ _ hx,hρ _ _ hlo,hρ _ _ hhi,Instr.sliceAt,Instr.slice,run_underlying ht,Instr.sliceBounds,Instr.sliceBound,asIntOf,g1,g2,g3,g4,hs.sizeOf,Cj]
theorem C3{l:Int}(i:Nat)(R:Rd h ms v sz n cs)(ho:o.op=.slice t x (some lo) none none)(ht:P.underlying t=some (.slice el))(hs:Elem P el sz z bytes)(hx:ev s x=some v)(hlo:ev s lo=some (.int k l))(el':l=(i:Int))(h1:i<=n) :
  OX P o s h ms (Cj sz v i n):=by
 obtain⟨a,c,rfl,e2,e3,e4,e5⟩:=R.ex
 exact BJ λρ w hρ _=>by
  have g1:(0:Int)<=l/\l<=(n:Int):=ω
  have g3:l.toNat=i:=ω
  simp[execOp,ho,hρ _ _ hx,hρ _ _ hlo,Instr.sliceAt,Instr.slice,run_underlying ht,Instr.sliceBounds,Instr.sliceBound,asIntOf,g1,g3,hs.sizeOf,Cj]
theorem Fk{r:Int}(j:Nat)(R:Rd h ms v sz n cs)(ho:o.op=.slice t x none (some hi) none)(ht:P.underlying t=some (.slice el))(hs:Elem P el sz z bytes)(hx:ev s x=some v)(hhi:ev s hi=some (.int k r))(er:r=(j:Int))(h2:j<=n) :
  OX P o s h ms (Cj sz v 0 j):=by
 obtain⟨a,c,rfl,e2,e3,e4,e5⟩:=R.ex
 exact BJ λρ w hρ _=>by
  have g2:(0:Int)<=r/\r<=(c:Int):=ω
  have g4:r.toNat=j:=ω
  simp[execOp,ho,hρ _ _ hx,hρ _ _ hhi,Instr.sliceAt,Instr.slice,run_underlying ht,Instr.sliceBounds,Instr.sliceBound,asIntOf,g2,g4,hs.sizeOf,Cj]
end
section
variable {e:Entry} {Q:Exit->Act->World->Prop} {ops:Array Oper} {rest:List Oper} {o:Oper} {s:AF} {h:Hp} {ms:List Hp} {α:Type} {F:α->List Value}
theorem AU{t el:TypeId}{sz d:Nat}{z:Value}{bytes:Nat}{x y:Operand}{v:Value}{m:Hp}{l r:List α}(i:Nat)(O:OwnL F sz el m v l)(R:RdL F sz h ms u r)(ho:o.op=.call { callee:=.builtin .append,args:=#[x,y],argTypes:=#[t,t] })(ht:e.P.underlying t=some (.slice el))(hs:Elem e.P el sz z bytes)(hzs:z.cells.size=sz)(hsz:0<sz)
  (hx:ev s x=some v) (hy:ev s y=some u) (hm:ms[i]?=some m) (h1:∀a,∀c∈F a,c.oneCell'=true) (hb:(l.length+r.length)*bytes<=140737488355328) (hb63:l.length+r.length<=9223372036854775807) (hd:o.dst=some d) (hn:Nat.blt d e.n=true) (hg:o.guard=none)
  (K:∀v' m',OwnL F sz el m' v' (l++r)->WL e ops Q rest ((d,v')::s) h (ms.set i m')):WL e ops Q (o::rest) s h ms:=
 MQ i ho ht hs hzs hsz hx hy hm O.own R.rd (λc hc=>by obtain⟨a,_,ha⟩:=List.mem_flatMap.1 hc;exact h1 a c ha) hb hb63 hd hn hg λv' m' O'=>K v' m' ⟨by rw[ag,fg];exact O',O.len⟩
theorem RdL.one{sz:Nat}{g:Nat}{el:TypeId}{x:α}{cs:List Value}(hF:∀x,(F x).length=sz)(hm:Bh g el cs∈ms)(hc:cs=F x):RdL F sz h ms (.slice (some ⟨g,0,none⟩) 1 1) [x]:=
 ⟨by subst hc;simpa using Rd.blk (h:=h) (n:=1) (c:=1) (sz:=sz) hm (by rw[hF];omega) (au _) ω,hF⟩
end
def cI(n:Int):List Value:=[.int .i64 n]
def cB(b:Bool):List Value:=[.bool b]
theorem Bi:∀n,(cI n).length=1:=λ_=>rfl
theorem Abx:∀n,(cB n).length=1:=λ_=>rfl
theorem B5:∀a,∀c∈cI a,c.oneCell'=true:=λa c hc=>by simp[cI]at hc;subst hc;rfl
theorem JH{α:Type}(f:α->Value)(l:List α)(k:Nat)(x:α):(l.flatMap λy=>[f y]).set k (f x)=(l.set k x).flatMap λy=>[f y]:=by
 induction l generalizing k with
 | nil=>simp
 | cons a l ih=>
  cases k with
  | zero=>simp
  | succ k=>simp only[fp,List.set_cons_succ,List.singleton_append];rw[ih]
theorem AaW(l:List Int)(k:Nat)(x:Int):(l.flatMap cI).set k (.int .i64 x)=(l.set k x).flatMap cI:=JH (Value.int .i64) l k x
theorem Wo(n:Nat)(x:Int):replicate n (Value.int .i64 x)=(replicate n x).flatMap cI:=by
 induction n with
 | zero=>rfl
 | succ n ih=>rw[List.replicate_succ,List.replicate_succ,fp,ih];rfl
theorem Rv(n:Nat)(x:Bool):replicate n (Value.bool x)=(replicate n x).flatMap cB:=by
 induction n with
 | zero=>rfl
 | succ n ih=>rw[List.replicate_succ,List.replicate_succ,fp,ih];rfl
end Go.Eng
namespace Go.Eng
open Go.RowKit
structure E5(P:Program)(t:TypeId)(i off:Nat):Prop where
 ex:∃fs f n,P.underlying t=some (.struct fs)/\fs[i]?=some f/\f.offset=off/\∀w,(sizeOf f.type).run P w=.ok (n+1) w
structure GA(P:Program)(t:TypeId)(places:Array (Nat×Nat)):Prop where
 ex:∃fs,P.underlying t=some (.struct fs)/\∀w,(fs.mapM λf=>do pure (f.offset,<-sizeOf f.type):Sem (Array (Nat×Nat))).run P w=.ok places w
section
variable {P:Program} {o:Oper} {s:AF} {h:Hp} {ms:List Hp} {t:TypeId} {x:Operand}
theorem UM{i off:Nat}{p:Addr}(F:E5 P t i off)(ho:o.op=.fieldAddr t x i)(hx:ev s x=some (.pointer (some p))):OX P o s h ms (.pointer (some (p.add off))):=by
 obtain⟨fs,f,n,h1,h2,h3,h4⟩:=F.ex;have:=VE (h:=h) (ms:=ms) ho h1 h2 h4 hx
 rwa [h3]at this
theorem Bb{sz:Nat}{z:Value}{bytes:Nat}{lp:List (Nat×Operand)}{vs:List (Nat×Value)}{places:Array (Nat×Nat)}(S:GA P t places)(zl:List Value)(ps:List (Nat×List Value))(vl:List Value)(ho:o.op=.build t lp.toArray)(hs:Elem P t sz z bytes)(hz:z.cells=zl.toArray)
  (hv:ZA s lp=some vs) (hps:G4 (places[·]?) zl.length vs ps) (hvl:OG zl ps=vl):OX P o s h ms (.agg vl.toArray):=by
 obtain⟨fs,h1,h2⟩:=S.ex;exact VQ zl ps vl ho h1 hs hz h2 hv hps hvl
end
theorem WI{P:Program}{w0:World}{h0:Hp}{ms0:List Hp}{n:Nat}{fn:Func}{post:Value->Hp->List Hp->Prop}{s:AF}{h:Hp}{ms:List Hp}{t:Nat}{ty:TypeId}{p:Addr}{d:TypeDesc}{v:Value}
  (hr:fn.results=#[.cell t ty]) (hv:lk s t=some (.pointer (some p))) (ht:P.underlying ty=some d) (hd:Iz d=false) (hc:Cell h ms p v) (hp:post v h ms) :
  NX ⟨P,w0,h0,ms0,n,[]⟩ (bodyPost P fn (RP w0 h0 ms0 post)) .ret s h ms:=λa w ha hw=>by
 have h1:a.tmps[t]?.getD undef=.pointer (some p):=by rw[ha.slots t _ hv];rfl
 have hag:(isAgg ty).run P w=.ok false w:=by rw[En ht,hd]
 refine bodyPost_ret (v:=v) ?_ ha.defers ⟨_,h,ms,Y,hw,hp⟩;simp[results,hr,h1,asAddr,loadVar,hag,hw.st.cell hc]
end Go.Eng
namespace Go.Eng
section
variable {e:Entry} {Q:Exit->Act->World->Prop} {s:AF} {h:Hp} {ms:List Hp} {m:Hp} {α:Type} {F:α->List Value} {sz:Nat} {el:TypeId} {v:Value} {l:List α} {ops:Array Oper}
theorem A9{c:Code}(O:OwnL F sz el m v l)(k:∀h',h.le h'->RdL F sz h' [] v l->WS e c Q s h' ms):WS e c Q s h (m::ms):=
 λa w ha hw=>k _ (Hp.le_join _ _) (O.frozen (hw.st.off m bu)) a w ha (Ends.freeze hw)
theorem Ba{r:List Oper}(O:OwnL F sz el m v l)(k:∀h',h.le h'->RdL F sz h' [] v l->WL e ops Q r s h' ms):WL e ops Q r s h (m::ms):=
 λa w ha hw=>k _ (Hp.le_join _ _) (O.frozen (hw.st.off m bu)) a w ha (Ends.freeze hw)
theorem AV{x:Exit}(O:OwnL F sz el m v l)(k:∀h',h.le h'->RdL F sz h' [] v l->NX e Q x s h' ms):NX e Q x s h (m::ms):=
 λa w ha hw=>k _ (Hp.le_join _ _) (O.frozen (hw.st.off m bu)) a w ha (Ends.freeze hw)
theorem Ax{c:Code}{g:Nat}{cs:List Value}(k:∀h',h.le h'->Seg h' [] ⟨g,0,none⟩ cs->WS e c Q s h' ms):WS e c Q s h (Bh g el cs::ms):=
 λa w ha hw=>k _ (Hp.le_join _ _) (λj u hu=>⟨by unfold Addr.add;split<;>rfl,cs.toArray,el,(0,0),.inl (by
  rw[Dn]
  exact(Hp.join_le_right (hw.st.off _ bu)) _ _ (Hp.one_self _ _)),by rw[DY];simpa using hu⟩) a w ha (Ends.freeze hw)
theorem Ek{r:List Oper}{g:Nat}{cs:List Value}(k:∀h',h.le h'->Seg h' [] ⟨g,0,none⟩ cs->WL e ops Q r s h' ms):WL e ops Q r s h (Bh g el cs::ms):=
 λa w ha hw=>k _ (Hp.le_join _ _) (λj u hu=>⟨by unfold Addr.add;split<;>rfl,cs.toArray,el,(0,0),.inl (by
  rw[Dn]
  exact(Hp.join_le_right (hw.st.off _ bu)) _ _ (Hp.one_self _ _)),by rw[DY];simpa using hu⟩) a w ha (Ends.freeze hw)
theorem BT{c:Code}(k:WS e c Q s h (Hp.emp::ms)):WS e c Q s h ms:=λa w ha hw=>k a w ha
 ⟨⟨hw.st.imm,λm hm=>by
  rcases aq.1 hm with rfl|hm
  ·intro g o e;cases e
  ·exact hw.st.own m hm,λm hm=>by
  rcases aq.1 hm with rfl|hm
  ·exact λ_=>.inl Y
  ·exact hw.st.off m hm,bj.2 ⟨λ_ _ _=>.inl Y,hw.st.apart⟩⟩,hw.os,hw.tape,hw.output,hw.size,hw.block,hw.le,hw.hnew,λm hm k hk hne=>by
  rcases aq.1 hm with rfl|hm
  ·exact jt Y hne
  ·exact hw.mnew m hm k hk hne⟩
end
end Go.Eng
namespace Go.Eng
open Go.RowKit
variable {a:Act} {pu:List Nat}
def Q0(Q:Exit->Act->World->Prop):Exit->Act->World->Prop:=λx a w=>x=.normal/\Q .normal a w
theorem J3{Q:Exit->Act->World->Prop}:¬LetsOut (Q0 Q):=λh=>by simp[LetsOut,Q0]at h
theorem Il{e:Entry}{Q:Exit->Act->World->Prop}{s:AF}{h:Hp}{ms:List Hp}(k:NX e Q .normal s h ms):NX e (Q0 Q) .normal s h ms:=λa w ha hw=>⟨rfl,k a w ha hw⟩
def PX(P:Program)(o:Oper)(s:AF)(v:Value):Prop:=∀ρ,Evs s ρ->∀w,(execOp ρ o).run P w=.ok (.value v) w
def zA(z:AF)(a:Act):Act:={ a with tmps:=a.tmps.mapIdx λk x=>(lk z k).getD x }
theorem KD{b:Act}(h1:a.tmps=b.tmps)(h2:a.defers=b.defers):a=b:=by cases a;cases b;cases h1;cases h2;rfl
theorem Fp(z:AF)(a:Act)(t:Nat):(zA z a).tmps[t]?=(a.tmps[t]?).map λx=>(lk z t).getD x:=by simp[zA]
theorem G5{z:AF}{d:Option Nat}{v:Value}(h:∀t,d=some t->lk z t=none):zA z (a.put d v)=(zA z a).put d v:=by
 cases d with
 | none=>rfl
 | some d=>
  refine KD ?_ Y;apply gx;intro i;rw[Fp];simp only[Act.put,Array.getElem?_setIfInBounds];have hs:(zA z a).tmps.size=a.tmps.size:=by simp[zA]
  by_cases hd:d=i
  ·subst hd;simp only[im,hs];by_cases hlt:d<a.tmps.size
   ·simp[hlt,h d rfl]
   ·simp[hlt]
  ·simp only[hd,i8];rw[Fp]
theorem Kl{z:AF}{d:Nat}{v:Value}(h:lk z d=some v):zA z (a.put (some d) v)=zA z a:=by
 refine KD ?_ Y;apply gx;intro i;rw[Fp,Fp];simp only[Act.put,Array.getElem?_setIfInBounds];by_cases hd:d=i
 ·subst hd;by_cases hlt:d<a.tmps.size
  ·simp[hlt,h]
  ·simp[hlt]
 ·simp[hd]
def Lw(pu:List Nat)(ops:Array Oper):Bool:=
 Region.noSelect ops &&
 (range ops.size).all λi=>match ops[i]? with
  | none=>false
  | some o=>
   ((o.looksAt ops).all λt=>(range ops.size).all λj=>Bt ops j != some t||(if pu.contains j then NZ o j else(!pu.contains i||(match ops[j]? with|some oj=>NZ oj i|none=>false)))) &&
   (if pu.contains i then o.guard.isNone&&o.dst.isSome&&((range ops.size).all λj=>j==i||Bt ops j != o.dst)
    else match o.guard with|none=>true|some (j,_)=>!pu.contains j)
structure POK(pu:List Nat)(ops:Array Oper):Prop where
 nosel:Region.noSelect ops=true
 look:∀i o t j,ops[i]?=some o->t∈o.looksAt ops->Bt ops j=some t->(pu.contains j=true/\NZ o j=true)\/(pu.contains j=false/\(pu.contains i=false\/∃oj,ops[j]?=some oj/\NZ oj i=true))
 plain:∀i o,ops[i]?=some o->pu.contains i=true->o.guard=none/\(∃d,o.dst=some d)/\∀j,j≠i->∀d,o.dst=some d->Bt ops j≠some d
 guard:∀i o j b,ops[i]?=some o->pu.contains i=false->o.guard=some (j,b)->pu.contains j=false
theorem Dx{ops:Array Oper}{j t:Nat}(h:Bt ops j=some t):j<ops.size:=by
 unfold Bt at h;rcases eh j ops.size with h'|h'
 ·exact h'
 ·rw[je h']at h;cases h
theorem Kg{ops:Array Oper}(h:Lw pu ops=true):POK pu ops:=by
 simp only[Lw,bo,gk,mem_range]at h;obtain⟨h1,h2⟩:=h;have at_:∀i o,ops[i]?=some o->i<ops.size:=λi o e=>(ba.1 e).1;refine⟨h1,?_,?_,?_⟩
 ·intro i o t j e ht hd;have:=h2 i (at_ i o e);simp only[e,bo,gk,mem_range]at this;have h3:=this.1 t ht j (Dx hd);cases hc:pu.contains j with
  | true=>rw[hc]at h3;simp[hd]at h3;exact .inl ⟨Y,h3⟩
  | false=>
   rw[hc]at h3;simp[hd]at h3;refine .inr ⟨Y,?_⟩;rcases h3 with h3|h3
   ·exact .inl (by simpa using h3)
   ·right
    cases hoj:ops[j]? with
    | none=>rw[hoj]at h3;cases h3
    | some oj=>rw[hoj]at h3;exact⟨oj,Y,h3⟩
 ·intro i o e hi;have:=h2 i (at_ i o e);simp only[e,bo,hi,im,gk,mem_range]at this;obtain⟨_,⟨g1,g2⟩,g3⟩:=this;refine⟨by simpa using g1,by simpa[Option.isSome_iff_exists] using g2,λj hj d hd hdj=>?_⟩;have:=g3 j (Dx hdj);simp[hj,hdj,hd]at this
 ·intro i o j b e hi hg;have:=h2 i (at_ i o e);simp only[e,bo,hi,hg]at this;simpa using this.2
section
variable {P:Program} {ops:Array Oper} {Q:Exit->Act->World->Prop}
theorem Oper.wp_sim{o:Oper}{z:AF}{w:World}{K K':Act->World->Prop}(hx:execOp (zA z a).eval o=execOp a.eval o)(hd:∀t,o.dst=some t->lk z t=none)(hK:∀b w v,b.tmps=(a.put o.dst v).tmps->K' (zA z b) w->K b w)
  (h:o.wp P (zA z a) w K' (Q0 Q)):o.wp P a w K (Q0 Q):=by
 unfold Oper.wp at *;rw[hx]at h;generalize (execOp a.eval o).run P w=r at *;have hv:∀v w,K' ((zA z a).put o.dst v) w->K (a.put o.dst v) w:=λv w hh=>hK _ _ v Y (by rw[G5 hd];exact hh);cases r with
 | ok n w'=>
  cases n<;>simp only[Oper.upon]at h ⊢ <;>
   first
    | exact hv _ _ h
    | exact Calls.mono h (λe w'' he=>by
     cases e
     ·exact hv _ _ he
     ·exact jt he.1 σ
     ·exact jt he J3)
    | exact Rows.mono h (λ_ _ he=>hv _ _ he)
    | exact hK _ _ undef (by cases o.dst<;>rfl) (by rw[G5 hd];exact h)
 | halt x w'=>cases x<;>simp only[Oper.upon]at h ⊢<;>exact jt h.1 σ
structure Sim(pu:List Nat)(ops:Array Oper)(z:AF)(a0 a:Act)(listed:Array Bool):Prop where
 pure:∀i,pu.contains i=true->listed.getD i false=true->∀d v,Bt ops i=some d->lk z d=some v->d<a.tmps.size->a.tmps[d]?=some v
 old:∀t,(∀j,Bt ops j=some t->listed.getD j false=false)->a.tmps[t]?=a0.tmps[t]?
 size:a.tmps.size=a0.tmps.size
 closed:Closed ops listed
def un(pu:List Nat)(listed:Array Bool):Array Bool:=listed.mapIdx λi b=>b||pu.contains i
theorem II(pu:List Nat)(listed:Array Bool)(i:Nat)(b:Bool)(hi:i<listed.size):(un pu listed).getD i b=(listed.getD i b||pu.contains i):=by simp[un,am,hi]
theorem XR(pu:List Nat)(listed:Array Bool)(i:Nat):un pu (listed.setIfInBounds i true)=(un pu listed).setIfInBounds i true:=by
 apply gx;intro j;simp only[un,Array.getElem?_mapIdx,Array.getElem?_setIfInBounds,Array.size_mapIdx];by_cases hij:i=j
 ·subst hij;by_cases hlt:i<listed.size<;>simp[hlt]
 ·simp[hij]
theorem Km(listed:Array Bool){i:Nat}(h:pu.contains i=true):un pu (listed.setIfInBounds i true)=un pu listed:=by
 apply gx;intro j;simp only[un,Array.getElem?_mapIdx,Array.getElem?_setIfInBounds];by_cases hij:i=j
 ·subst hij;by_cases hlt:i<listed.size
  ·have hm:i∈pu:=by simpa using h
   simp[hlt,hm]
  ·simp[hlt]
 ·simp[hij]
structure ZOK(P:Program)(pu:List Nat)(ops:Array Oper)(s z:AF)(n:Nat):Prop where
 val:∀i o d,pu.contains i=true->ops[i]?=some o->o.dst=some d->∃v,lk z d=some v/\PX P o (z++s) v
 only:∀t v,lk z t=some v->t<n/\∃i,pu.contains i=true/\Bt ops i=some t
theorem Un{o:Oper}{s:AF}{v:Value}(hs:∀cs b,o.op≠.select cs b)(hl:∀t∈o.looksAt ops,∀u,lk s t=some u->a.tmps[t]?=some u)
  (k:PX P o s v) (w:World):(execOp a.eval o).run P w=.ok (.value v) w:=by
 classical
 rw[execOp_congr (ρ:=a.eval) (ρ':=λx=>if x∈o.op.operands then a.eval x else(ev s x).getD undef) o hs (λx hx=>(ac hx).symm)];refine k _ (λx u hu=>?_) w;show(if x∈o.op.operands then a.eval x else(ev s x).getD undef)=u;split
 ·rename_i hx;cases x with
  | tmp t=>
   refine Act.eval_of_slot (hl t ?_ u hu);exact fe _ (jd.2 ⟨.tmp t,by simpa using hx,rfl⟩)
  | const v=>cases hu;rfl
  | global g=>cases hu;rfl
  | func f=>cases hu;rfl
 ·rw[hu];rfl
theorem Z3{s z:AF}{n:Nat}{ds:List Nat}{a0:Act}(ha0:Has n ds a0 s)(hp:POK pu ops)(hb:∀i o,ops[i]?=some o->∀e∈o.after,Region.binds .any e=true->e.on<i)(hz:ZOK P pu ops s z n) :
  ∀fuel fuel' listed a w,Sim pu ops z a0 a listed->listed.size=ops.size->left listed<=fuel->wpAny P .any ops (Q0 Q) fuel' (un pu listed) (zA z a) w->wpAny P .any ops (Q0 Q) fuel listed a w:=by
 -- all is listed
 have alldone:∀fuel' listed a w,Sim pu ops z a0 a listed->listed.size=ops.size->(∀j,j<ops.size->listed.getD j false=true)->wpAny P .any ops (Q0 Q) fuel' (un pu listed) (zA z a) w->Region.ready .any ops listed=[]/\(Q0 Q) .normal a w:=by
  intro fuel' listed a w S hsz hall H
  have noready:∀l':Array Bool,(∀j,j<ops.size->l'.getD j false=true)->Region.ready .any ops l'=[]:=λl' hl'=>by
   cases hr:Region.ready .any ops l' with
   | nil=>rfl
   | cons x xs=>
    have hx:x∈Region.ready .any ops l':=by rw[hr];exact bu
    obtain⟨h0,o,ho,_⟩:=mem_ready.1 hx;have:=hl' x (ba.1 ho).1;have h2:=Bu h0;rw[am,h2]at this;cases this
  have hr':=noready (un pu listed) (λj hj=>by rw[II _ _ _ _ ω,hall j hj];rfl)
  have hQ:(Q0 Q) .normal (zA z a) w:=by
   cases fuel' with
   | zero=>exact H.2
   | succ f=>exact H.1 hr'
  have hza:zA z a=a:=by
   refine KD ?_ Y;apply gx;intro t;rw[Fp];cases hl:lk z t with
   | none=>simp
   | some v=>
    obtain⟨hn,i,hi,hd⟩:=hz.only t v hl;have hlt:t<a.tmps.size:=by rw[S.size,ha0.size];exact hn
    rw[S.pure i hi (hall i (Dx hd)) t v hd hl hlt];rfl
  rw[hza]at hQ;exact⟨noready _ hall,hQ⟩
 have hall_of:∀listed:Array Bool,listed.size=ops.size->left listed=0->∀j,j<ops.size->listed.getD j false=true:=λlisted hsz h0 j hj=>by
  have h1:=J8 h0 j;have hjlt:j<listed.size:=ω
  rw[am]at h1 ⊢;simp[hjlt]at h1 ⊢;exact h1
 intro fuel
 induction fuel with
 | zero=>
  intro fuel' listed a w S hsz hle H;exact alldone fuel' listed a w S hsz (hall_of listed hsz ω) H
 | succ fuel ih=>
  intro fuel' listed a w S hsz hle H;refine⟨λhr0=>?_,λi hir=>?_⟩
  ·-- nothing is ready: all is listed
   refine(alldone fuel' listed a w S hsz ?_ H).2;intro j
   induction j using Nat.strongRecOn with
   | _ j ihj=>
    intro hj;cases hl:listed.getD j false with
    | true=>rfl
    | false=>
     have ho:ops[j]?=some ops[j]:=by simp[hj]
     have:j∈Region.ready .any ops listed:=mem_ready.2 ⟨by
      have hjlt:j<listed.size:=ω
      rw[am]at hl ⊢
      simp[hjlt]at hl ⊢;exact hl,_,ho,λed hed hbd=>by
       have:=hb j _ ho ed hed hbd
       exact ihj _ this ω⟩
     rw[hr0]at this;cases this
  ·obtain⟨hun,o,ho,hall⟩:=mem_ready.1 hir;have hilt:i<ops.size:=(ba.1 ho).1;have hdi:Bt ops i=o.dst:=by simp[Bt,ho]
   have hsel:∀cs b,o.op≠.select cs b:=λcs b=>Region.noSelect_spec hp.nosel i o cs b ho;have hls:=Jp (Bu hun)
   have hset:∀j d,(listed.setIfInBounds i true).getD j d=if j=i then true else listed.getD j d:=λj d=>by
    by_cases hj:j=i
    ·subst hj;simp[show j<listed.size by omega]
    ·rw[getD_set_ne d (fw hj)];simp[hj]
   -- the slots of pure ones that are looked at stand
   have hpl:∀t∈o.looksAt ops,∀v,lk z t=some v->a.tmps[t]?=some v/\∃j,pu.contains j=true/\Bt ops j=some t:=λt ht v hv=>by
    obtain⟨hn,j,hj,hd⟩:=hz.only t v hv;refine⟨?_,j,hj,hd⟩;rcases hp.look i o t j ho ht hd with ⟨_,h2⟩|⟨h2,_⟩
    ·obtain⟨e,he,hbd,rfl⟩:=FI h2;exact S.pure _ hj (hall e he hbd) t v hd hv (by rw[S.size,ha0.size];exact hn)
    ·rw[hj]at h2;cases h2
   have hsame:∀t∈o.looksAt ops,(zA z a).tmps[t]?=a.tmps[t]?:=λt ht=>by
    rw[Fp];cases hl:lk z t with
    | none=>simp
    | some v=>rw[(hpl t ht v hl).1];rfl
   have hx:execOp (zA z a).eval o=execOp a.eval o:=execOp_congr o hsel λx hx=>by
    cases x with
    | tmp t=>
     have:=hsame t (fe _ (jd.2 ⟨.tmp t,by simpa using hx,rfl⟩));simp only[Act.eval];rw[am,this,<-am]
    | const v=>rfl
    | global g=>rfl
    | func f=>rfl
   unfold wpOp;simp only[ho];cases hc:pu.contains i with
   | true=>
    obtain⟨hg,⟨d,hd⟩,huq⟩:=hp.plain i o ho hc;obtain⟨v,hv,hpx⟩:=hz.val i o d hc ho hd;have hw:Region.wanted o (yielded ops a.tmps)=true:=by unfold Region.wanted;rw[hg]
    rw[ac hw];refine .inl ?_;unfold Oper.wp;rw[<-hx,Un (ops:=ops) hsel (λt ht u hu=>?_) hpx w]
    ·show wpAny P .any ops (Q0 Q) fuel (listed.setIfInBounds i true) (a.put o.dst v) w;rw[hd];refine ih fuel' _ _ w ⟨?_,?_,by simp[Act.put,S.size],S.closed.set hir⟩ (by simpa using hsz) ω (by rw[Km _ hc,Kl hv];exact H)
     ·intro j hj hlj d' v' hd' hv' hlt;by_cases hji:j=i
      ·subst hji;rw[hdi,hd]at hd';cases hd';rw[hv]at hv';cases hv';simp only[Act.put];have:d<a.tmps.size:=by simpa[Act.put] using hlt
       simp[this]
      ·rw[hset]at hlj;simp only[hji,i8]at hlj;have hne:d≠d':=λe'=>huq j hji d hd (by rw[hd',e']);simp only[Act.put,cw hne];exact S.pure j hj hlj d' v' hd' hv' (by simpa[Act.put] using hlt)
     ·intro t ht
      have hne:d≠t:=λe'=>by have:=ht i (by rw[hdi,hd,e']);rw[hset]at this;simp at this
      simp only[Act.put,cw hne]
      exact S.old t λj hj=>by
       have:=ht j hj;rw[hset]at this;by_cases hji:j=i
       ·simp[hji]at this
       ·simpa[hji] using this
    ·rw[CJ]at hu;cases hl:lk z t with
     | some v'=>rw[hl]at hu;cases hu;rw[hsame t ht];exact(hpl t ht _ hl).1
     | none=>
      rw[hl]at hu;rw[hsame t ht,S.old t λj hj=>?_]
      ·exact ha0.slots t u hu
      ·rcases hp.look i o t j ho ht hj with ⟨h1,_⟩|⟨_,h2⟩
       ·obtain⟨oj,hoj⟩:∃oj,ops[j]?=some oj:=⟨ops[j]'(Dx hj),by simp[Dx hj]⟩
        have hdj:oj.dst=some t:=by simpa[Bt,hoj] using hj
        obtain⟨v',hv',_⟩:=hz.val j oj t h1 hoj hdj;rw[hl]at hv';cases hv'
       ·rcases h2 with h2|⟨oj,hoj,hed⟩
        ·rw[hc]at h2;cases h2
        ·cases hlj:listed.getD j false with
         | false=>rfl
         | true=>
          obtain⟨e,he,hbd,hon⟩:=FI hed;have h4:=S.closed j oj hlj hoj e he hbd;rw[hon,am,Bu hun]at h4;cases h4
   | false=>
    have hdz:∀t,o.dst=some t->lk z t=none:=λt ht=>by
     cases hl:lk z t with
     | none=>rfl
     | some v=>
      obtain⟨_,j,hj,hd⟩:=hz.only t v hl;have hji:j≠i:=λe'=>by rw[e',hc]at hj;cases hj
      obtain⟨oj,hoj⟩:∃oj,ops[j]?=some oj:=⟨ops[j]'(Dx hd),by simp[Dx hd]⟩
      obtain⟨_,_,huq⟩:=hp.plain j oj hoj hj;exact jt (by rw[hdi,ht]) (huq i (fw hji) t (by simpa[Bt,hoj] using hd))
    have hir':i∈Region.ready .any ops (un pu listed):=mem_ready.2 ⟨by rw[II _ _ _ _ ω,hun,hc];rfl,o,ho,λe he hbd=>by
     have h1:=hb i o ho e he hbd
     rw[II _ _ _ _ ω,hall e he hbd];rfl⟩
    cases fuel' with
    | zero=>rw[H.1]at hir';cases hir'
    | succ fuel'=>
     have H':=H.2 i hir';rw[<-XR]at H';unfold wpOp at H';simp only[ho]at H'
     have hwant:Region.wanted o (yielded ops (zA z a).tmps)=Region.wanted o (yielded ops a.tmps):=by
      unfold Region.wanted;cases hg:o.guard with
      | none=>rfl
      | some p=>
       obtain⟨j,b⟩:=p
       have:yielded ops (zA z a).tmps j=yielded ops a.tmps j:=by
        unfold yielded;cases hd:(ops[j]?).bind (·.dst) with
        | none=>rfl
        | some t=>
         have ht:t∈o.looksAt ops:=by unfold Oper.looksAt;refine fq _ ?_;simp only[hg];rw[hd];simp
         simp[hd,hsame t ht]
       simp only[this]
     rw[hwant]at H'
     have hnext:∀b w v,b.tmps=(a.put o.dst v).tmps->wpAny P .any ops (Q0 Q) fuel' (un pu (listed.setIfInBounds i true)) (zA z b) w->wpAny P .any ops (Q0 Q) fuel (listed.setIfInBounds i true) b w:=λb w v hbt hh=>by
      have hbget:∀t,o.dst≠some t->b.tmps[t]?=a.tmps[t]?:=λt ht=>by
       rw[hbt];cases hd:o.dst with
       | none=>rfl
       | some d=>
        have:d≠t:=λe'=>ht (by rw[hd,e']);simp only[Act.put,cw this]
      have hbs:b.tmps.size=a.tmps.size:=by rw[hbt];cases o.dst<;>simp[Act.put]
      refine ih fuel' _ b w ⟨?_,?_,by rw[hbs,S.size],S.closed.set hir⟩ (by simpa using hsz) ω hh
      ·intro j hj hlj d' v' hd' hv' hlt;have hji:j≠i:=λe'=>by rw[e',hc]at hj;cases hj
       rw[hset]at hlj;simp only[hji,i8]at hlj;have hne:o.dst≠some d':=λe'=>by rw[hdz d' e']at hv';cases hv'
       rw[hbget d' hne];exact S.pure j hj hlj d' v' hd' hv' (by rw[<-hbs];exact hlt)
      ·intro t ht
       rw[hbget t (λe'=>by
        have:=ht i (by rw[hdi,e'])
        rw[hset]at this;simp at this)]
       exact S.old t λj hj=>by
        have:=ht j hj;rw[hset]at this;by_cases hji:j=i
        ·simp[hji]at this
        ·simpa[hji] using this
     split
     ·rename_i hw;rw[ac hw]at H';rcases H' with H'|⟨_,H'⟩
      ·exact .inl (Oper.wp_sim hx hdz hnext H')
      ·exact jt H' J3
     ·rename_i hw;rw[aa hw]at H';exact hnext _ _ undef Y (by rw[G5 hdz];exact H')
end
def zap(o:Oper):Oper:={ o with dst:=none,op:=.move (.const undef),after:=#[],guard:=none }
def E3:List Bool->List Oper->List Oper
 | true::m,o::l=>zap o::E3 m l
 | false::m,o::l=>o::E3 m l
 | _,l=>l
def J2:List Bool->Nat->List Nat
 | [],_=>[]
 | true::m,k=>k::J2 m (k+1)
 | false::m,k=>J2 m (k+1)
theorem SG:∀(m:List Bool) (k i:Nat),i∈J2 m k<->k<=i/\m[i-k]?=some true
 | [],k,i=>by simp[J2]
 | b::m,k,i=>by
  have ih:=SG m (k+1) i;cases b with
  | true=>
   simp only[J2,aq,ih];by_cases hik:i=k
   ·subst hik;simp
   ·constructor
    ·rintro(h|⟨h1,h2⟩)
     ·exact jt h hik
     ·refine⟨ω,?_⟩;rw[show i-k=(i-(k+1))+1 by omega];simpa using h2
    ·rintro⟨h1,h2⟩
     right
     refine⟨ω,?_⟩;rw[show i-k=(i-(k+1))+1 by omega]at h2;simpa using h2
  | false=>
   simp only[J2,ih];by_cases hik:i=k
   ·subst hik;simp;omega
   ·constructor
    ·rintro⟨h1,h2⟩;refine⟨ω,?_⟩;rw[show i-k=(i-(k+1))+1 by omega];simpa using h2
    ·rintro⟨h1,h2⟩;refine⟨ω,?_⟩;rw[show i-k=(i-(k+1))+1 by omega]at h2;simpa using h2
theorem GN(m:List Bool)(i:Nat):(J2 m 0).contains i=true<->m[i]?=some true:=by rw[gv,SG];simp
theorem Jg:∀(m:List Bool) (l:List Oper) (i:Nat),(E3 m l)[i]?=if m[i]?=some true then(l[i]?).map zap else l[i]?
 | [],l,i=>by simp[E3]
 | b::m,[],i=>by cases b<;>simp[E3]
 | b::m,o::l,i=>by cases b<;>cases i<;>simp[E3,Jg m l]
theorem Ks:∀(m:List Bool) (l:List Oper),(E3 m l).length=l.length
 | [],l=>by simp[E3]
 | b::m,[]=>by cases b<;>simp[E3]
 | b::m,o::l=>by cases b<;>simp[E3,Ks m l]
theorem Yc{P:Program}{ops ops':Array Oper}{Q:Exit->Act->World->Prop}(pu:List Nat)(hsz:ops'.size=ops.size)(hs:∀i,pu.contains i=false->ops'[i]?=ops[i]?)
  (hg:∀i o j b,ops[i]?=some o->pu.contains i=false->o.guard=some (j,b)->pu.contains j=false) :
  ∀fuel listed a w,(∀i,i<ops.size->pu.contains i=true->listed.getD i false=true)->wpAny P .any ops' Q fuel listed a w->wpAny P .any ops Q fuel listed a w:=by
 have hready:∀listed:Array Bool,(∀i,i<ops.size->pu.contains i=true->listed.getD i false=true)->∀i,i∈Region.ready .any ops listed<->i∈Region.ready .any ops' listed:=by
  intro listed hl i
  have hnp:listed.getD i true=false->i<ops.size->pu.contains i=false:=λh1 h2=>by
   cases hc:pu.contains i with
   | false=>rfl
   | true=>
    have:=hl i h2 hc;rw[am,Bu h1]at this;cases this
  constructor
  ·intro h;obtain⟨h1,o,h2,h3⟩:=mem_ready.1 h;exact mem_ready.2 ⟨h1,o,by rw[hs i (hnp h1 (ba.1 h2).1)];exact h2,h3⟩
  ·intro h;obtain⟨h1,o,h2,h3⟩:=mem_ready.1 h;have hlt:=(ba.1 h2).1;exact mem_ready.2 ⟨h1,o,by rw[<-hs i (hnp h1 ω)];exact h2,h3⟩
 have hempty:∀listed:Array Bool,(∀i,i<ops.size->pu.contains i=true->listed.getD i false=true)->Region.ready .any ops listed=[]->Region.ready .any ops' listed=[]:=λlisted hl h=>by
  cases hr:Region.ready .any ops' listed with
  | nil=>rfl
  | cons x xs=>
   have:=(hready listed hl x).2 (by rw[hr];exact bu);rw[h]at this;cases this
 have hempty':∀listed:Array Bool,(∀i,i<ops.size->pu.contains i=true->listed.getD i false=true)->Region.ready .any ops' listed=[]->Region.ready .any ops listed=[]:=λlisted hl h=>by
  cases hr:Region.ready .any ops listed with
  | nil=>rfl
  | cons x xs=>
   have:=(hready listed hl x).1 (by rw[hr];exact bu);rw[h]at this;cases this
 intro fuel
 induction fuel with
 | zero=>intro listed a w hl H;exact⟨hempty' listed hl H.1,H.2⟩
 | succ fuel ih=>
  intro listed a w hl H;refine⟨λh=>H.1 (hempty listed hl h),λi hi=>?_⟩;have H':=H.2 i ((hready listed hl i).1 hi);obtain⟨h1,o,ho,_⟩:=mem_ready.1 hi
  have hnp:pu.contains i=false:=by
   cases hc:pu.contains i with
   | false=>rfl
   | true=>
    have:=hl i (ba.1 ho).1 hc;rw[am,Bu h1]at this;cases this
  have hl':∀j,j<ops.size->pu.contains j=true->(listed.setIfInBounds i true).getD j false=true:=λj hj hc=>getD_set_true (hl j hj hc);unfold wpOp at H' ⊢;rw[hs i hnp]at H';simp only[ho]at H' ⊢
  have hy:Region.wanted o (yielded ops' a.tmps)=Region.wanted o (yielded ops a.tmps):=by
   unfold Region.wanted;cases hgu:o.guard with
   | none=>rfl
   | some p=>
    obtain⟨j,b⟩:=p
    have:yielded ops' a.tmps j=yielded ops a.tmps j:=by unfold yielded;rw[hs j (hg i o j b ho hnp hgu)]
    simp only[this]
  rw[hy]at H';split
  ·rename_i hw;rw[ac hw]at H';exact H'.imp (Oper.wp_mono λa w h=>ih _ a w hl' h) id
  ·rename_i hw;rw[aa hw]at H';exact ih _ _ _ hl' H'
def PZ(P:Program)(l:List Oper)(n:Nat)(s:AF)(K:AF->Prop):List Nat->AF->Prop
 | [],z=>K z
 | i::r,z=>∃o d v,l[i]?=some o/\o.dst=some d/\d<n/\lk (z++s) d=none/\PX P o (z++s) v/\PZ P l n s K r ((d,v)::z)
theorem PX.mono{P:Program}{o:Oper}{s:AF}{v:Value}{d:Nat}{u:Value}(h:PX P o s v)(hd:lk s d=none):PX P o ((d,u)::s) v:=λρ hρ w=>
 h ρ (λx u' hx=>hρ x u' (by
  cases x with
  | tmp t=>
   have:d≠t:=λe=>by subst e;simp only[ev]at hx;rw[hd]at hx;cases hx
   simp only[ev]at hx ⊢;rw[BF _ _ this];exact hx
  | const v=>exact hx
  | global g=>exact hx
  | func f=>exact hx)) w
theorem SL{P:Program}{l:List Oper}{n:Nat}{s:AF}{K:AF->Prop}:∀(r done:List Nat) (z:AF),
    (∀i∈done,∀o d,l[i]?=some o->o.dst=some d->∃v,lk z d=some v/\PX P o (z++s) v)->(∀t v,lk z t=some v->t<n/\∃i∈done,Bt l.toArray i=some t)->PZ P l n s K r z →
    ∃zf,K zf/\(∀i,i∈done\/i∈r->∀o d,l[i]?=some o->o.dst=some d->∃v,lk zf d=some v/\PX P o (zf++s) v)/\(∀t v,lk zf t=some v->t<n/\∃i,(i∈done\/i∈r)/\Bt l.toArray i=some t)
  | [],done,z,h1,h2,h3=>⟨z,h3,λi hi=>h1 i (hi.resolve_right σ),λt v hv=>by
      obtain⟨g1,i,g2,g3⟩:=h2 t v hv
      exact⟨g1,i,.inl g2,g3⟩⟩
  | j::r,done,z,h1,h2,⟨o,d,v,e1,e2,e3,e4,e5,e6⟩=>by
    have hzd:lk z d=none:=by
      rw[CJ]at e4;cases hl:lk z d with
      | none=>rfl
      | some u=>rw[hl]at e4;cases e4
    obtain⟨zf,g1,g2,g3⟩:=SL r (j::done) ((d,v)::z) (λi hi o' d' ho' hd'=>by
      rcases aq.1 hi with rfl|hi
      · rw[e1]at ho';cases ho';rw[e2]at hd';cases hd';exact⟨v,BL _ _ _,e5.mono e4⟩
      · obtain⟨v',f1,f2⟩:=h1 i hi o' d' ho' hd';refine⟨v',?_,f2.mono e4⟩;have:d≠d':=λe=>by subst e;rw[hzd]at f1;cases f1
        rw[BF _ _ this];exact f1) (λt u hu=>by
      by_cases hdt:d=t
      · subst hdt;exact⟨e3,j,by simp,by simp[Bt,e1,e2]⟩
      · rw[BF _ _ hdt]at hu;obtain⟨f1,i,f2,f3⟩:=h2 t u hu
        exact⟨f1,i,bh _ f2,f3⟩) e6
    refine⟨zf,g1,λi hi=>g2 i ?_,λt u hu=>?_⟩
    · rcases hi with hi|hi
      · exact .inl (bh _ hi)
      · rcases aq.1 hi with rfl|hi
        · exact .inl bu
        · exact .inr hi
    · obtain⟨f1,i,f2,f3⟩:=g3 t u hu;refine⟨f1,i,?_,f3⟩;rcases f2 with f2|f2
      · rcases aq.1 f2 with rfl|f2
        · exact .inr bu
        · exact .inl f2
      · exact .inr (bh _ f2)
def Jh(ops:Array Oper):Bool:=(range ops.size).all λi=>match ops[i]? with|none=>false|some o=>backs o i
theorem IR{ops:Array Oper}(h:Jh ops=true):∀i o,ops[i]?=some o->∀e∈o.after,Region.binds .any e=true->e.on<i:=by intro i o e ed hed hb;simp only[Jh,gk,mem_range]at h;have:=h i (ba.1 e).1;simp only[e]at this;have h4:=Array.all_eq_true_iff_forall_mem.1 this ed hed;simp[hb]at h4;exact h4
theorem Eb{e:Entry}{id:Nat}{l:List Oper}{Q:Exit->Act->World->Prop}{s:AF}{h:Hp}{ms:List Hp}(np:Nat)(m:List Bool)(hm:e.P.follows .mixedOrders=true)(hp:Q3 (J2 m 0) (E3 m l).toArray np=true)(hpu:Lw (J2 m 0) l.toArray=true)(hbk:Jh l.toArray=true)
  (k:PZ e.P l e.n s (λz=>J6 e.n ((E3 m l).take np) (z++s)=true/\WR e (E3 m l).toArray (Q0 Q) ((E3 m l).drop np) h ms ((E3 m l).take np) (z++s) [] []) (J2 m 0) []):WS e (.region id l.toArray true) Q s h ms:=by
 intro a w ha hw;obtain⟨z,⟨hf,kw⟩,hz1,hz2⟩:=SL _ [] [] σ (λt v hv=>by cases hv) k;have P:=LO hp;have PO:=Kg hpu;have HB:=IR hbk;have hlen:(E3 m l).length=l.length:=Ks m l;have hmem:∀i,(J2 m 0).contains i=true<->i∈J2 m 0:=λi=>gv
 have hZ:ZOK e.P (J2 m 0) l.toArray s z e.n:=⟨λi o d hi ho hd=>hz1 i (.inr ((hmem i).1 hi)) o d (by simpa using ho) hd,λt v hv=>by
  obtain⟨g1,i,g2,g3⟩:=hz2 t v hv
  exact⟨g1,i,(hmem i).2 (g2.resolve_left σ),g3⟩⟩
 refine wp_region_any hm (Q:=Q) ?_
 have hq:wpAny e.P .any l.toArray (Q0 Q) l.toArray.size (Array.replicate l.toArray.size false) a { w with drawn:=w.drawn+1 }:=by
  refine Z3 ha PO HB hZ _ l.toArray.size _ a _ ⟨λi _ hi=>(by rw[B6]at hi;cases hi),λ_ _=>rfl,rfl,λi o hi=>(by rw[B6]at hi;cases hi)⟩ σ (by
   unfold left;rw[Array.toList_replicate];exact dc (List.countP_le_length) σ) ?_
  have hug:∀i,(un (J2 m 0) (Array.replicate l.toArray.size false)).getD i false=(J2 m 0).contains i:=λi=>by
   rcases eh i l.length with hi|hi
   ·rw[II _ _ _ _ (by simpa using hi),B6];rfl
   ·rw[am,je (by simpa[un] using hi)];cases hc:(J2 m 0).contains i with
    | false=>rfl
    | true=>
     have h1:=P.low i hc;simp[hlen]at h1;omega
  refine Yc (ops':=(E3 m l).toArray) (J2 m 0) (by simp[hlen]) (λi hi=>?_) PO.guard _ _ _ _ (λi hi hc=>by rw[hug];exact hc) ?_
  ·have:¬m[i]?=some true:=λh'=>by rw[(GN m i).2 h']at hi;cases hi
   simp only[gu];rw[Jg,aa this]
  ·refine Q1 np hp hf kw (by simp[un,hlen]) hug (λi o hi ho ed hed hb=>?_) (λi hi=>?_) ?_ ⟨ha.defers,by simp[zA,ha.size],λt u hu=>?_⟩ hw
   ·rw[hug]at hi;have:=(GN m i).1 hi;simp only[gu]at ho;rw[Jg,ac this]at ho;cases hl:l[i]? with
    | none=>rw[hl]at ho;cases ho
    | some o'=>rw[hl]at ho;cases ho;simp[zap]at hed
   ·have:=(GN m i).1 hi;unfold Bt;simp only[gu];rw[Jg,ac this];cases l[i]?<;>rfl
   ·unfold left;refine dc (List.countP_le_length) ?_;simp[un]
   ·rw[Fp];rw[CJ]at hu;cases hl:lk z t with
    | some v=>
     rw[hl]at hu;cases hu;have hlt:t<a.tmps.size:=by rw[ha.size];exact(hz2 t _ hl).1
     simp[hlt]
    | none=>rw[hl]at hu;rw[ha.slots t u hu];rfl
 -- the end alone
 have hmono:∀fuel listed a w,wpAny e.P .any l.toArray (Q0 Q) fuel listed a w->wpAny e.P .any l.toArray Q fuel listed a w:=by
  intro fuel
  induction fuel with
  | zero=>intro listed a w H;exact⟨H.1,H.2.2⟩
  | succ fuel ih=>
   intro listed a w H;refine⟨λh=>(H.1 h).2,λi hi=>?_⟩;have H':=H.2 i hi;unfold wpOp at H' ⊢;split
   ·rename_i ho;simp only[ho]at H';exact ih _ _ _ H'
   ·rename_i o ho;simp only[ho]at H';split
    ·rename_i hw;rw[ac hw]at H';rcases H' with H'|⟨_,H'⟩
     ·refine .inl ?_;unfold Oper.wp at *;generalize (execOp a.eval o).run e.P w=r at *;cases r with
      | ok n w'=>
       cases n<;>simp only[Oper.upon]at H' ⊢ <;>
        first
         | exact ih _ _ _ H'
         | exact Calls.mono H' (λx w'' he=>by
          cases x
          ·exact ih _ _ _ he
          ·exact jt he.1 σ
          ·exact jt he J3)
         | exact Rows.mono H' (λ_ _ he=>ih _ _ _ he)
      | halt x w'=>cases x<;>simp only[Oper.upon]at H' ⊢<;>exact jt H'.1 σ
     ·exact jt H' J3
    ·rename_i hw;rw[aa hw]at H';exact ih _ _ _ H'
 exact hmono _ _ _ _ hq
section
variable {P:Program} {l:List Oper} {n:Nat} {s z:AF} {K:AF->Prop} {r:List Nat} {i d:Nat} {o:Oper} {v:Value}
theorem Ew(ho:l[i]?=some o)(hd:o.dst=some d)(hn:Nat.blt d n=true)(hf:lk (z++s) d=none)(hx:PX P o (z++s) v)(k:PZ P l n s K r ((d,v)::z)):PZ P l n s K (i::r) z:=
 ⟨o,d,v,ho,hd,dd hn,hf,hx,k⟩
theorem CB{x:Operand}(ho:o.op=.move x)(hx:ev s x=some v):PX P o s v:=λρ hρ w=>by simp[execOp,ho,hρ _ _ hx]
end
section
variable {e:Entry} {ops:Array Oper} {Q:Exit->Act->World->Prop} {tl:List Oper} {h:Hp} {ms:List Hp} {l:List Oper} {o:Oper} {s:AF} {q:List (Nat×VP)} {al:List (Nat×Nb)}
theorem Ex(hd:o.dst=none)(hg:o.guard=none)(ho:o.op=.move (.const undef))(k:WR e ops Q tl h ms l s q al):WR e ops Q tl h ms (o::l) s q al:=
 .inl ⟨undef,.inl ⟨.plain hg,Ar ho rfl⟩,by rw[hd];exact k⟩
end
end Go.Eng
namespace Go.Eng
open Go.RowKit
section
variable {P:Program} {o:Oper} {s:AF} {t u:TypeId} {x y:Operand} {a b:Int}
theorem OL(ho:o.op=.binOp .add t x y u)(hx:ev s x=some (.int .i64 a))(hy:ev s y=some (.int .i64 b))(hr:-9223372036854775808<=a+b/\a+b<=9223372036854775807):PX P o s (.int .i64 (a+b)):=λρ hρ w=>by
 have:(execOp ρ o).run P w=.ok (.value (.w (IntKind.i64.wrap (a+b)))) w:=by simp[execOp,ho,hρ _ _ hx,hρ _ _ hy,go_sem]
 rwa [Dm hr]at this
theorem NH(ho:o.op=.binOp .sub t x y u)(hx:ev s x=some (.int .i64 a))(hy:ev s y=some (.int .i64 b))(hr:-9223372036854775808<=a-b/\a-b<=9223372036854775807):PX P o s (.int .i64 (a-b)):=λρ hρ w=>by
 have:(execOp ρ o).run P w=.ok (.value (.w (IntKind.i64.wrap (a-b)))) w:=by simp[execOp,ho,hρ _ _ hx,hρ _ _ hy,go_sem]
 rwa [Dm hr]at this
end
section
variable {e:Entry} {Q:Exit->Act->World->Prop} {ops:Array Oper} {rest:List Oper} {o:Oper} {s:AF} {h:Hp} {ms:List Hp} {α:Type} {F:α->List Value} {l:List α} {v:Value} {m:Hp} {el:TypeId} {sz:Nat}
theorem UK{t:TypeId}{x y:Operand}{u:Value}{z:Value}{bytes k:Nat}{l':List α}(i:Nat)(O:OwnL F sz el m v l)(ho:o.op=.store t x y)(hs:Elem e.P t 1 z bytes)(hx:ev s x=some (.pointer (some ((AG v).add k))))(hy:ev s y=some u)(h1:u.oneCell'=true)
  (hm:ms[i]?=some m) (hk:k<l.length*sz) (hset:(l.flatMap F).set k u=l'.flatMap F) (hl:l'.length=l.length) (hd:o.dst=none) (hg:o.guard=none)
  (K:∀m',OwnL F sz el m' v l'->WL e ops Q rest s h (ms.set i m')):WL e ops Q (o::rest) s h ms:=by
 obtain⟨⟨h2,h3⟩,hF⟩:=O;rcases h3 with ⟨rfl,h4,rfl⟩|⟨g,cap,spare,rfl,rfl,e1,e2,e3⟩
 ·rw[h4]at hk;simp at hk
 ·refine AO i k ho hs hx hy h1 hm Y (by rw[ag];omega) hd hg (K _ ⟨⟨?_,.inr ⟨g,cap,spare,by rw[hl],?_,?_,ω,e3⟩⟩,hF⟩)
  ·rw[<-hset,e8,h2,hl]
  ·rw[List.set_append_left _ _ ω,hset]
  ·rw[<-hset,ag,e8,<-ag];exact e1
theorem Ca{f:α->Value}{t:TypeId}{x y:Operand}{z:Value}{bytes:Nat}{a:α}(i j:Nat)(hF:∀x,F x=[f x])(O:OwnL F 1 el m v l)(ho:o.op=.store t x y)(hs:Elem e.P t 1 z bytes)(hx:ev s x=some (.pointer (some ((AG v).add (j*1)))))(hy:ev s y=some (f a))(h1:(f a).oneCell'=true)
  (hm:ms[i]?=some m) (hj:j<l.length) (hd:o.dst=none) (hg:o.guard=none)
  (K:∀m',OwnL F 1 el m' v (l.set j a)->WL e ops Q rest s h (ms.set i m')):WL e ops Q (o::rest) s h ms:=by
 have hF':F=λy=>[f y]:=funext hF;refine UK i O ho hs hx hy h1 hm ω ?_ σ hd hg K;rw[hF',jk];exact JH f l j a
end
end Go.Eng
namespace Go.Eng
open Go.RowKit
theorem FnV.ofCalls{P:Program}{f:FuncId}{args:Array Value}{h:Hp}{ms:List Hp}{v:Value}(k:∀w,Calls P f args w (λe w'=>e=.returned v/\w'=w)):FnV P f args h ms v:=
 λw hw=>(k w).mono λx w' ⟨e1,e2⟩=>⟨e1,by rw[e2];exact Ext.refl _⟩
theorem EA{n:Int}(hn:0<=n/\n<=18446744073709551615):IntKind.u64.wrap n=n:=IntWalk.u64_in n hn
section
variable {P:Program} {o:Oper} {s:AF} {h:Hp} {ms:List Hp} {t u:TypeId} {x y:Operand} {a b n:Nat} {k:IntKind}
theorem Sm(ho:o.op=.binOp .shl t x y u)(hx:ev s x=some (.int .u64 a))(hy:ev s y=some (.int k n))(hn:n<=64):OX P o s h ms (.int .u64 ((a*2^n%18446744073709551616:Nat):Int)):=
 BJ λρ w hρ _=>by
  have h1:¬((n:Int)<0):=ω
  have h2:min n 64=n:=gh hn
  have h3:IntKind.u64.wrap ((a:Int)*2^n)=((a*2^n%18446744073709551616:Nat):Int):=by simp[IntKind.wrap,IntKind.bits,IntKind.signed]
  simp[execOp,ho,hρ _ _ hx,hρ _ _ hy,Op.shift,h1,IntKind.bits,h2,h3,go_sem]
theorem Ef(ho:o.op=.binOp .shr t x y u)(hx:ev s x=some (.int .u64 a))(hy:ev s y=some (.int k n))(hn:n<=64):OX P o s h ms (.int .u64 ((a/2^n:Nat):Int)):=
 BJ λρ w hρ _=>by
  have h1:¬((n:Int)<0):=ω
  have h2:min n 64=n:=gh hn
  have h3:(a:Int).fdiv (2^n)=((a/2^n:Nat):Int):=by rw[Int.fdiv_eq_ediv_of_nonneg _ (Int.le_of_lt (Int.pow_pos δ))];simp
  simp[execOp,ho,hρ _ _ hx,hρ _ _ hy,Op.shift,h1,IntKind.bits,h2,h3,go_sem]
theorem YW(ho:o.op=.binOp .and t x y u)(hx:ev s x=some (.int .u64 a))(hy:ev s y=some (.int .u64 b))(ha:a<18446744073709551616)(hb:b<18446744073709551616):OX P o s h ms (.int .u64 ((a &&& b:Nat):Int)):=
 BJ λρ w hρ _=>by
  have h0:a &&& b<=a:=Nat.and_le_left
  have h3:IntKind.u64.wrap (((BitVec.ofNat 64 a) &&& (BitVec.ofNat 64 b)).toNat:Int)=((a &&& b:Nat):Int):=by rw[BitVec.toNat_and,BitVec.toNat_ofNat,BitVec.toNat_ofNat,fj ω,fj ω];exact EA ω
  simp[execOp,ho,hρ _ _ hx,hρ _ _ hy,Op.intBits,IntKind.bits,go_sem];exact h3
end
end Go.Eng
namespace Go.Eng
open Go.RowKit
section
variable {e:Entry} {Q:Exit->Act->World->Prop} {ops:Array Oper} {rest:List Oper} {s:AF} {h:Hp} {ms:List Hp}
theorem K0{α:Type}:∀(l:List α) (i:Nat) (x:α),l[i]?=some x->l.Perm (x::l.eraseIdx i)
 | [],_,_,h=>by cases h
 | a::l,0,x,h=>by simp at h;subst h;exact ik _
 | a::l,i+1,x,h=>by rw[List.eraseIdx_cons_succ];exact((K0 l i x (by simpa using h)).cons a).trans (List.Perm.swap _ _ _)
theorem BY{c:Code}{α:Type}{F:α->List Value}{sz:Nat}{el:TypeId}{v:Value}{l:List α}{m:Hp}(i:Nat)(O:OwnL F sz el m v l)(hm:ms[i]?=some m)(k:∀h',h.le h'->RdL F sz h' [] v l->WS e c Q s h' (ms.eraseIdx i)):WS e c Q s h ms:=
 Jk (K0 ms i _ hm) (A9 O k)
end
end Go.Eng
namespace Go.Eng
open Go.RowKit
section
variable {e:Entry} {Q:Exit->Act->World->Prop} {ops:Array Oper} {rest:List Oper} {o:Oper} {s:AF} {h:Hp} {ms:List Hp}
theorem NL{j dj:Nat}{b:Bool}{oj:Oper}(hg:o.guard=some (j,b))(hj:ops[j]?=some oj)(hdj:oj.dst=some dj)(hv:lk s dj=some (.bool b))
  (k:WL e ops Q ({ o with guard:=none }::rest) s h ms):WL e ops Q (o::rest) s h ms:=λa w ha hw=>by
 have h1:=k a w ha hw;unfold wpList at h1 ⊢;rw[ac (by simp[Region.wanted])]at h1;rw[ac (by simp[Region.wanted,hg,ha.yields hj hdj hv])];exact h1
end
end Go.Eng
namespace Go.Eng
open Go.RowKit Go.ChangeShapes Go.WideShapes Go.Deep
def whole(w:World):Hp:=λg=>w.heap[g]?
theorem St.whole(w:World):St w (whole w) []:=⟨λ_ _ h=>h,by simp,by simp,List.Pairwise.nil⟩
theorem Cell.ofW{w:World}{ms:List Hp}{a:Addr}{v:Value}(h:w.cell? a=some v):Cell (whole w) ms a v:=by
 unfold World.cell? at h;split at h
 ·rename_i c el fr hb;split at h
  ·cases h
  ·rename_i hs;exact⟨by simpa using hs,c,el,fr,.inl hb,h⟩
 ·cases h
theorem Kq{α:Type}{Q:Nat->α->Prop}:∀n,(∀i,i<n->∃a,Q i a)->∃l:List α,l.length=n/\∀i (hi:i<l.length),Q i l[i]
 | 0,_=>⟨[],rfl,λi hi=>by simp at hi⟩
 | n+1,h=>by
  obtain⟨l,hl,hq⟩:=Kq n λi hi=>h i ω;obtain⟨a,ha⟩:=h n ω;refine⟨l++[a],by simp[hl],λi hi=>?_⟩;rw[List.getElem_append];split
  ·exact hq i (by assumption)
  ·have:i=n:=by simp at hi;omega
   subst this;simpa using ha
section
variable {H:Type} {enc:TypeId×Value->H} {P:Program} {w:World} {base:Nat} {spare:Nat->Bool} {held:Bool}
theorem QE{α:Type}{F:α->List Value}{Ok:α->Prop}{sz:Nat}{t e:TypeId}{fuel:Nat}{v:Value}{x:DataW H×List MemPlace}(ht:P.underlying t=some (.slice e))(hC:P.cellsOf e=sz)(hF:∀x,(F x).length=sz)(hsz:0<sz)
  (hel:∀n cs y,DataW.trod enc P w base spare held n e cs=some y->∃a,cs=F a/\Ok a) (h:DataW.trod enc P w base spare held fuel t [v]=some x):∃l,RdL F sz (whole w) [] v l/\∀a∈l,Ok a:=by
 rcases open_slice ht h with ⟨h0,_⟩|⟨a,len,cap,m,n,D,Pl,hcs,hb,hl,hm,hmm,hx,hi⟩
 ·simp only[List.cons.injEq,and_true]at h0;subst h0;exact⟨[],⟨⟨none,0,Y,by simp,ω,by simp,λh=>by simp at h⟩,hF⟩,by simp⟩
 ·simp only[List.cons.injEq,and_true]at hcs;subst hcs;rw[hC]at hi;have hlm:len<=m:=by rw[hmm];split<;>omega
  obtain⟨l,hll,hq⟩:=Kq (α:=α) (Q:=λi b=>w.cells? base (a.add (i*sz)) sz=some (F b)/\Ok b) len λi hi'=>by obtain⟨cs,h1,h2⟩:=hi i ω;obtain⟨b,rfl,h3⟩:=hel n cs _ h2;exact⟨b,h1,h3⟩
  refine⟨l,⟨⟨some a,cap,by rw[hll],ω,by unfold maxLen at hm;omega,Bv hF l,λ_=>⟨a,rfl,λj u hj=>?_⟩⟩,hF⟩,λb hb=>?_⟩
  ·have hjl:=(bg.1 hj).1;rw[Bv hF l]at hjl;have h1:j/sz<l.length:=Nat.div_lt_of_lt_mul (by rw[fv];exact hjl);have h2:j%sz<sz:=Nat.mod_lt _ hsz;have h3:j/sz*sz+j%sz=j:=by rw[fv];exact Nat.div_add_mod j sz
   have h4:=Fg hF l (j/sz) h1 (j%sz) ((F l[j/sz])[j%sz]'(by rw[hF];exact h2)) (ah _);rw[h3,hj]at h4;have h5:=di h4;obtain⟨_,_,hat⟩:=World.cells?_some (hq (j/sz) h1).1;have h6:=hat (j%sz) h2;rw[B9,h3]at h6;refine Cell.ofW (h6.trans ?_);rw[ah (by rw[hF];exact h2),<-h5]
  ·obtain⟨i,hi',rfl⟩:=List.getElem_of_mem hb;exact(hq i hi').2
end
end Go.Eng
namespace Go.Eng
open Go.RowKit
section
variable {e:Entry} {ops:Array Oper} {Q:Exit->Act->World->Prop} {fuel:Nat} {listed:Array Bool} {s:AF} {h:Hp} {ms:List Hp}
theorem AaM{P:Program}:∀fuel listed a w,wpAny P .any ops (Q0 Q) fuel listed a w->wpAny P .any ops Q fuel listed a w:=by
 intro fuel
 induction fuel with
 | zero=>intro listed a w H;exact⟨H.1,H.2.2⟩
 | succ fuel ih=>
  intro listed a w H;refine⟨λh=>(H.1 h).2,λi hi=>?_⟩;have H':=H.2 i hi;unfold wpOp at H' ⊢;split
  ·rename_i ho;simp only[ho]at H';exact ih _ _ _ H'
  ·rename_i o ho;simp only[ho]at H';split
   ·rename_i hw;rw[ac hw]at H';rcases H' with H'|⟨_,H'⟩
    ·refine .inl ?_;unfold Oper.wp at *;generalize (execOp a.eval o).run P w=r at *;cases r with
     | ok n w'=>
      cases n<;>simp only[Oper.upon]at H' ⊢ <;>
       first
        | exact ih _ _ _ H'
        | exact Calls.mono H' (λx w'' he=>by
         cases x
         ·exact ih _ _ _ he
         ·exact jt he.1 σ
         ·exact jt he J3)
        | exact Rows.mono H' (λ_ _ he=>ih _ _ _ he)
     | halt x w'=>cases x<;>simp only[Oper.upon]at H' ⊢<;>exact jt H'.1 σ
    ·exact jt H' J3
   ·rename_i hw;rw[aa hw]at H';exact ih _ _ _ H'
end
end Go.Eng
namespace Go.Eng
open Go.RowKit
structure Of{κ:Type}(P:Program)(kt:TypeId)(K:κ->Value)(Ok:κ->Prop):Prop where
 law:Maps.Keyed P kt
 inj:∀a b,K a=K b->a=b
 key:∀a,Ok a->∃l,keyOf P kt (K a)=some l
section
variable {κ ν:Type} (K:κ->Value) (V:ν->Value)
def ent(p:(κ×ν)×Nat):MapEntry:=⟨K p.1.1,V p.1.2,p.2⟩
structure C4(g:Nat)(Ok:κ->Prop)(m:Hp)(T:List (κ×ν))(bs:List Nat):Prop where
 ex:∃es clock,m=Hp.one g (.map es clock)/\es.toList=(T.zip bs).map (ent K V)/\∀b∈bs,b<clock
 len:bs.length=T.length
 up:bs.Pairwise (· < ·)
 keys:(T.map Prod.fst).Nodup
 ok:∀p∈T,Ok p.1
end
theorem Nd{α:Type}{l:List α}(hn:l.Nodup){i j:Nat}{a:α}(h1:l[i]?=some a)(h2:l[j]?=some a):i=j:=by
 obtain⟨i1,i2⟩:=bg.1 h1;obtain⟨j1,j2⟩:=bg.1 h2;have hp:=ax.1 hn;rcases dy i j with h|h|h
 ·exact jt (i2.trans j2.symm) (hp i j i1 j1 h)
 ·exact h
 ·exact jt (j2.trans i2.symm) (hp j i j1 i1 h)
section
variable {κ ν:Type} [DecidableEq κ]
def Bz(T:List (κ×ν))(a:κ):Option ν:=(T.find? λp=>decide (p.1=a)).map Prod.snd
theorem EG{T:List (κ×ν)}(hn:(T.map Prod.fst).Nodup){j:Nat}{a:κ}{x:ν}(h:T[j]?=some (a,x)):Bz T a=some x:=by
 induction T generalizing j with
 | nil=>simp at h
 | cons p T ih=>
  unfold Bz;rw[List.find?_cons];cases j with
  | zero=>simp at h;subst h;simp
  | succ j=>
   have h':T[j]?=some (a,x):=by simpa using h
   have hne:p.1≠a:=λe=>by rw[fl,gw]at hn;exact hn.1 (ad.2 ⟨(a,x),du h',e.symm⟩)
   simp only[hne,decide_false];rw[fl,gw]at hn;exact ih hn.2 h'
theorem Dl{T:List (κ×ν)}{a:κ}(h:a ∉ T.map Prod.fst):Bz T a=none:=by
 unfold Bz
 rw[ii.2 λp hp=>by
  simp only[decide_eq_true_eq]
  exact λe=>h (ad.2 ⟨p,hp,e⟩)]
 rfl
end
section
variable {κ ν:Type} [DecidableEq κ] {K:κ->Value} {V:ν->Value} {Ok:κ->Prop} {P:Program} {kt et t:TypeId} {g:Nat} {m:Hp} {T:List (κ×ν)} {bs:List Nat}
theorem IT(L:Of P kt K Ok)(hn:(T.map Prod.fst).Nodup)(hok:∀p∈T,Ok p.1)(hl:bs.length=T.length){es:Array MapEntry}(he:es.toList=(T.zip bs).map (ent K V))(w:World)(a:κ)(ha:Ok a) :
  ((Instr.findKey kt (K a) es.toList).run P w=.ok none w/\a ∉ T.map Prod.fst)\/∃(j:Nat) (x:ν) (b:Nat),(Instr.findKey kt (K a) es.toList).run P w=.ok (some (j,V x)) w/\T[j]?=some (a,x)/\bs[j]?=some b/\es[j]?=some ⟨K a,V x,b⟩:=by
 obtain⟨l,hk⟩:=L.key a ha
 rcases L.law.find w hk es.toList (λe hmem=>by
  rw[he]at hmem;obtain⟨p,hp,rfl⟩:=ad.1 hmem
  exact L.key p.1.1 (hok p.1 (List.of_mem_zip hp).1)) with ⟨h1,h2⟩|⟨j,e,h1,h2,h3⟩
 ·refine .inl ⟨h1,λhmem=>?_⟩;obtain⟨p,hp,rfl⟩:=ad.1 hmem;obtain⟨j,hj,e⟩:=List.getElem_of_mem hp;have hjb:j<bs.length:=ω
  refine h2 (ent K V (p,bs[j])) ?_ Y;rw[he];exact ad.2 ⟨(p,bs[j]),du (i:=j) (by rw[List.getElem?_zip_eq_some];exact⟨by rw[ah hj,e],ah hjb⟩),rfl⟩
 ·rw[he,gr]at h2;cases hz:(T.zip bs)[j]? with
  | none=>rw[hz]at h2;cases h2
  | some p=>
   rw[hz]at h2;have h2:=di h2;obtain⟨z1,z2⟩:=List.getElem?_zip_eq_some.1 hz;have e1:p.1.1=a:=L.inj _ _ (by rw[<-h2]at h3;exact h3);refine .inr ⟨j,p.1.2,p.2,?_,?_,z2,?_⟩
   ·rw[h1,<-h2];rfl
   ·rw[z1,<-e1]
   ·rw[<-Array.getElem?_toList,he,gr,hz,<-e1];rfl
variable {o:Oper} {s:AF} {h:Hp} {ms:List Hp}
theorem FJ{x y:Operand}{z:ν}(a:κ)(L:Of P kt K Ok)(O:C4 K V g Ok m T bs)(hm:m∈ms)(ho:o.op=.lookup t x y false)(ht:P.underlying t=some (.map kt et))(hz:∀w,(zeroValue et).run P w=.ok (V z) w)(hx:ev s x=some (.map (some g)))(hy:ev s y=some (K a))(ha:Ok a) :
  OX P o s h ms (V ((Bz T a).getD z)):=
 BJ λρ w hρ hw=>by
  obtain⟨es,clock,rfl,he,hb⟩:=O.ex;have hgw:w.heap[g]?=some (.map es clock):=hw.own _ hm g _ (Hp.one_self _ _);obtain⟨l,hk⟩:=L.key a ha;have hc:=L.law.check w es.isEmpty hk;rcases IT L O.keys O.ok O.len he w a ha with ⟨h1,h2⟩|⟨j,u,b,h1,h2,_,_⟩
  ·rw[Dl h2];simp only[execOp,ho,hρ _ _ hx,hρ _ _ hy,Instr.lookup,Sem.run_bind,run_underlying ht,Result.andThen_ok,getObj,Sem.run_pure,h1,hz];simp[Sem.run,hgw,hc,h1,hz,Result.andThen]
  ·rw[EG O.keys h2];simp only[execOp,ho,hρ _ _ hx,hρ _ _ hy,Instr.lookup,Sem.run_bind,run_underlying ht,Result.andThen_ok,getObj,Sem.run_pure,h1,hz];simp[Sem.run,hgw,hc,h1,hz,Result.andThen]
theorem Ends.turn{w0 w:World}{h0 h:Hp}{ms0 ms:List Hp}{i g:Nat}{o o':Obj}(H:Ends w0 h0 ms0 w h ms)(hm:ms[i]?=some (Hp.one g o)):Ends w0 h0 ms0 { w with heap:=w.heap.setIfInBounds g o' } h (ms.set i (Hp.one g o')):=by
 obtain⟨r,p1,p2⟩:=Gn ms i (Hp.one g o) (Hp.one g o') hm;have hgw:w.heap[g]?=some o:=H.st.own _ (du hm) g o (Hp.one_self g o);have hlt:=(ba.1 hgw).1;refine Ends.perm (Ends.change (H.perm p1) Y ⟨Y,au _⟩ Y σ ?_ λk hk hne=>?_) p2.symm
 ·simp[hlt]
 ·show(w.heap.setIfInBounds g o')[k]?=w.heap[k]?;rw[cw (fw hne)]
def Dq(T:List (κ×ν))(a:κ)(x:ν):List (κ×ν):=if a∈T.map Prod.fst then T.map λp=>if p.1=a then(a,x) else p else T++[(a,x)]
theorem HT{T:List (κ×ν)}(hn:(T.map Prod.fst).Nodup)(a:κ)(x:ν):((Dq T a x).map Prod.fst).Nodup:=by
 unfold Dq;split
 ·have:(T.map λp=>if p.1=a then(a,x) else p).map Prod.fst=T.map Prod.fst:=by
   rw[fk];refine fc λp _=>?_;show(if p.1=a then(a,x) else p).1=p.1;split
   ·rename_i e;exact e.symm
   ·rfl
  rw[this];exact hn
 ·rename_i h;rw[bm]
  exact jh.2 ⟨hn,by simp,λb hb c hc e=>by
   simp at hc;subst hc;subst e;exact h hb⟩
theorem IP{T:List (κ×ν)}(hn:(T.map Prod.fst).Nodup){j:Nat}{a:κ}{y x:ν}(h:T[j]?=some (a,y)):Dq T a x=T.set j (a,x):=by
 have hmem:a∈T.map Prod.fst:=ad.2 ⟨(a,y),du h,Y⟩;unfold Dq;rw[ac hmem];refine List.ext_getElem? λi=>?_;rw[gr,List.getElem?_set];obtain⟨hj,hje⟩:=bg.1 h;by_cases hij:j=i
 ·subst hij;simp[h,hj,hje]
 ·rw[aa hij];cases hi:T[i]? with
  | none=>rfl
  | some p=>
   have:p.1≠a:=λe=>by
    have h1:(T.map Prod.fst)[i]?=some a:=by rw[gr,hi];exact aw some e
    have h2:(T.map Prod.fst)[j]?=some a:=by rw[gr,h];rfl
    exact hij (Nd hn h2 h1)
   simp[this]
theorem Di{T:List (κ×ν)}(a b:κ)(x:ν):Bz (Dq T a x) b=if b=a then some x else Bz T b:=by
 unfold Bz Dq;split
 ·rename_i hmem
  induction T with
  | nil=>simp at hmem
  | cons p T ih=>
   rw[fl,List.find?_cons,List.find?_cons];by_cases hp:p.1=a
   ·rw[ac hp];by_cases hba:b=a
    ·subst hba;simp
    ·have h1:a≠b:=λe=>hba e.symm;have h2:p.1≠b:=λe=>h1 (hp.symm.trans e);simp only[h1,h2,decide_false,aa hba];by_cases hmem':a∈T.map Prod.fst
     ·have:=ih hmem';rw[aa hba]at this;exact this
     ·have:(T.map λp=>if p.1=a then(a,x) else p)=T:=by
       rw[fc (g:=id) λq hq=>?_]
       ·simp
       ·rw[aa λe=>hmem' (ad.2 ⟨q,hq,e⟩)];rfl
      rw[this]
   ·rw[aa hp];by_cases hpb:p.1=b
    ·have hba:b≠a:=λe=>hp (hpb.trans e);simp[hpb,hba]
    ·simp only[hpb,decide_false]
     exact ih (by
      rw[fl,aq]at hmem
      exact hmem.resolve_left λe=>hp e.symm)
 ·rename_i hmem;rw[List.find?_append];by_cases hba:b=a
  ·subst hba
   rw[ii.2 λp hp=>by
    simp only[decide_eq_true_eq]
    exact λe=>hmem (ad.2 ⟨p,hp,e⟩)]
   simp
  ·have h1:a≠b:=λe=>hba e.symm;rw[aa hba];simp[List.find?_cons,h1]
theorem ZD(T:List (κ×ν))(bs:List Nat)(j:Nat)(p:κ×ν)(b:Nat)(hb:bs[j]?=some b):(T.set j p).zip bs=(T.zip bs).set j (p,b):=by
 induction T generalizing j bs with
 | nil=>simp
 | cons q T ih=>
  cases bs with
  | nil=>simp
  | cons c bs=>
   cases j with
   | zero=>simp at hb;subst hb;simp
   | succ j=>simp[ih bs j (by simpa using hb)]
variable {e:Entry} {Q:Exit->Act->World->Prop} {ops:Array Oper} {rest:List Oper}
theorem Dh{d:Nat}(ho:o.op=.makeMap t none)(hd:o.dst=some d)(hn:Nat.blt d e.n=true)(hg:o.guard=none)
  (k:∀g m,C4 K V g Ok m ([]:List (κ×ν)) []->WL e ops Q rest ((d,.map (some g))::s) h (m::ms)):WL e ops Q (o::rest) s h ms:=
 Ix (post:=λv h' ms'=>∃g,v=.map (some g)/\h'=h/\ms'=Hp.one g (.map #[] 0)::ms) (λρ w hρ hw=>by
  have:(execOp ρ o).run e.P w=.ok (.value (.map (some w.heap.size))) (w.alloc (.map #[] 0)):=by simp[execOp,ho,run_makeMap]
  unfold OpRes;rw[this]
  exact⟨h,_,Ends.alloc hw _,_,Y,Y,Y⟩) hd hn hg λ_ _ _ ⟨g,e1,e2,e3⟩=>by subst e1 e2 e3;exact k g _ ⟨⟨#[],0,Y,Y,by simp⟩,rfl,List.Pairwise.nil,by simp,by simp⟩
theorem Xz(T:List (κ×ν))(bs:List Nat)(hl:bs.length=T.length)(p:κ×ν)(b:Nat):(T++[p]).zip (bs++[b])=T.zip bs++[(p,b)]:=by rw[List.zip_append hl.symm];rfl
theorem Z6{bs:List Nat}(h:bs.Pairwise (· < ·)){c:Nat}(hc:∀b∈bs,b<c):(bs++[c]).Pairwise (· < ·):=
 f7.2 ⟨h,by simp,λa ha b hb=>by simp at hb;subst hb;exact hc a ha⟩
end
end Go.Eng
namespace Go.Eng
open Go.RowKit
structure Ig(gi g:Nat)(m mi:Hp)(bs vis:List Nat):Prop where
 ex:∃es clock since seen last,m=Hp.one g (.map es clock)/\mi=Hp.one gi (.mapIter (some g) since seen last)/\(∀b∈bs,b<since)/\since<=last/\since<=clock/\seen.toList=vis.map (λj=>bs[j]?.getD 0)/\(vis≠[]->last=clock)
 lt:∀j∈vis,j<bs.length
 nodup:vis.Nodup
theorem SH{g:Nat}{o o':Obj}(h:Hp.one g o=Hp.one g o'):o=o':=by have:=congrFun h g;rw[Hp.one_self,Hp.one_self]at this;exact di this
section
variable {κ ν:Type} [DecidableEq κ] {K:κ->Value} {V:ν->Value} {Ok:κ->Prop} {P:Program} {t:TypeId} {gi g:Nat} {m mi:Hp} {T:List (κ×ν)} {bs vis:List Nat}
variable {o:Oper} {s:AF} {h:Hp} {ms:List Hp} {e:Entry} {Q:Exit->Act->World->Prop} {ops:Array Oper} {rest:List Oper}
theorem AaF{bs:List Nat}(h:bs.Pairwise (· < ·)){i j:Nat}{b:Nat}(hi:bs[i]?=some b)(hj:bs[j]?=some b):i=j:=
 Nd (h.imp λh=>Nat.ne_of_lt h) hi hj
end
end Go.Eng
namespace Go.Eng
open Go.RowKit
variable {m c:Hp} {w:World}
theorem Df{α:Type}:∀{l:List α} {i:Nat} {a:α},l[i]?=some a->l.Perm (a::l.eraseIdx i)
 | [],i,a,h=>by simp at h
 | b::l,0,a,h=>by simp at h;subst h;simp
 | b::l,i+1,a,h=>by simp at h;exact((Df h).cons b).trans (List.Perm.swap _ _ _)
theorem Ends.erase{w0:World}{h0 h:Hp}{ms0 ms:List Hp}{i:Nat}(H:Ends w0 h0 ms0 w h ms)(hm:ms[i]?=some m):Ends w0 h0 ms0 w h (ms.eraseIdx i):=
 Ends.drop (Ends.perm H (Df hm))
section
variable {P:Program} {w0:World} {h0:Hp} {ms0:List Hp} {n:Nat} {fn:Func} {post:Value->Hp->List Hp->Prop} {s:AF} {h:Hp} {ms:List Hp} {t u:Nat} {ty el:TypeId} {g:Nat} {d:TypeDesc} {sz:Nat} {z:Value} {bytes:Nat} {vs:List Value} {v:Value}
theorem BC(i:Nat)(hr:fn.results=#[.cell t ty])(hv:lk s t=some (.pointer (some ⟨g,0,none⟩)))(ht:P.underlying ty=some d)(hd:Iz d=true)(hs:Elem P ty sz z bytes)(hl:vs.length=sz)(hc:ms[i]?=some (Bh g el vs))(hp:post (.agg vs.toArray) h (ms.eraseIdx i)) :
  NX ⟨P,w0,h0,ms0,n,[]⟩ (bodyPost P fn (RP w0 h0 ms0 post)) .ret s h ms:=λa w ha hw=>by
 have h1:a.tmps[t]?.getD undef=.pt g:=by rw[ha.slots t _ hv];rfl
 have hag:(isAgg ty).run P w=.ok true w:=by rw[En ht,hd]
 have hc':∀j v,vs[j]?=some v->w.cell? ((⟨g,0,none⟩:Addr).add j)=some v:=λj v e=>hw.st.cell (Seg.blk i hc j v e);refine bodyPost_ret (v:=.agg vs.toArray) ?_ ha.defers ⟨_,h,_,Y,Ends.erase hw hc,hp⟩;subst hl;simp[results,hr,h1,asAddr,loadVar,hag,hs.sizeOf,run_loadCells_list (P:=P) w _ vs hc']
theorem Ed(i:Nat)(hr:fn.results=#[.cell t ty,.tmp u])(hv:lk s t=some (.pointer (some ⟨g,0,none⟩)))(hu:lk s u=some v)(ht:P.underlying ty=some d)(hd:Iz d=true)(hs:Elem P ty sz z bytes)(hl:vs.length=sz)(hc:ms[i]?=some (Bh g el vs))(hp:post (.tuple #[.agg vs.toArray,v]) h (ms.eraseIdx i)) :
  NX ⟨P,w0,h0,ms0,n,[]⟩ (bodyPost P fn (RP w0 h0 ms0 post)) .ret s h ms:=λa w ha hw=>by
 have h1:a.tmps[t]?.getD undef=.pt g:=by rw[ha.slots t _ hv];rfl
 have h2:a.tmps[u]?.getD undef=v:=by rw[ha.slots u _ hu];rfl
 have hag:(isAgg ty).run P w=.ok true w:=by rw[En ht,hd]
 have hc':∀j v,vs[j]?=some v->w.cell? ((⟨g,0,none⟩:Addr).add j)=some v:=λj v e=>hw.st.cell (Seg.blk i hc j v e);refine bodyPost_ret (v:=.tuple #[.agg vs.toArray,v]) ?_ ha.defers ⟨_,h,_,Y,Ends.erase hw hc,hp⟩;subst hl;simp[results,hr,h1,h2,asAddr,loadVar,hag,hs.sizeOf,run_loadCells_list (P:=P) w _ vs hc']
end
def Tb:Value->Bool
 | .slice none _ _=>true
 | _=>false
section
variable {P:Program} {o:Oper} {s:AF} {h:Hp} {ms:List Hp} {t u el:TypeId} {x y:Operand} {v:Value} {sz n:Nat} {cs:List Value}
theorem Ll(R:Rd h ms v sz n cs)(ho:o.op=.binOp .eql t x y u)(ht:P.underlying t=some (.slice el))(hx:ev s x=some v)(hy:ev s y=some (.slice none 0 0)):OX P o s h ms (.bool (Tb v)):=by
 obtain⟨a,c,rfl,_⟩:=R.ex;refine BJ λρ w hρ _=>?_;have:=Go.Lib.run_eql_slice_nil w t el a n c 0 0 ht;have hg:(eqGuard .eql t x y (.slice a n c) (.nl)).run P w=.ok () w:=by simp[eqGuard]
 cases a<;>simp[execOp,ho,hρ _ _ hx,hρ _ _ hy,this,hg,Tb]
end
theorem JU{h:Hp}{ms:List Hp}{v:Value}{sz n:Nat}{cs:List Value}(R:Rd h ms v sz n cs)(hv:Tb v=true):n=0:=by obtain⟨a,c,rfl,h1,h2,h3,h4⟩:=R.ex;refine Nat.eq_zero_of_not_pos λhn=>?_;obtain⟨q,rfl,_⟩:=h4 hn;simp[Tb]at hv
theorem Hp.disj_join{a b:Hp}(h1:a.disj c)(h2:b.disj c):(a.join b).disj c:=λg=>by
 rcases h1 g with e1|e1
 ·rcases h2 g with e2|e2
  ·left;simp[Hp.join,e1,e2]
  ·exact .inr e2
 ·exact .inr e1
theorem Hp.disj_left{a b:Hp}(h:(a.join b).disj c):a.disj c:=λg=>by
 rcases h g with e|e
 ·left
  cases ha:a g with
  | none=>rfl
  | some o=>simp[Hp.join,ha]at e
 ·exact .inr e
theorem Hp.disj_right{a b:Hp}(h:(a.join b).disj c):b.disj c:=λg=>by
 rcases h g with e|e
 ·left
  cases ha:a g with
  | none=>simpa[Hp.join,ha] using e
  | some o=>simp[Hp.join,ha]at e
 ·exact .inr e
theorem JV{e:Entry}{Q:Exit->Act->World->Prop}{s:AF}{h:Hp}{ms:List Hp}{x:Exit}(k:NX e Q x s h (Hp.emp::ms)):NX e Q x s h ms:=λa w ha hw=>k a w ha
 ⟨⟨hw.st.imm,λm hm=>by
  rcases aq.1 hm with rfl|hm
  ·intro g o e;cases e
  ·exact hw.st.own m hm,λm hm=>by
  rcases aq.1 hm with rfl|hm
  ·exact λ_=>.inl Y
  ·exact hw.st.off m hm,bj.2 ⟨λ_ _ _=>.inl Y,hw.st.apart⟩⟩,hw.os,hw.tape,hw.output,hw.size,hw.block,hw.le,hw.hnew,λm hm k hk hne=>by
  rcases aq.1 hm with rfl|hm
  ·exact jt Y hne
  ·exact hw.mnew m hm k hk hne⟩
theorem AZ{e:Entry}{Q:Exit->Act->World->Prop}{s:AF}{h:Hp}{ms:List Hp}{x:Exit}(i:Nat)(hm:ms[i]?=some m)(k:NX e Q x s h (ms.eraseIdx i)):NX e Q x s h ms:=λa w ha hw=>k a w ha (Ends.erase hw hm)
theorem UL{e:Entry}{Q:Exit->Act->World->Prop}{s:AF}{h:Hp}{ms:List Hp}{ops:Array Oper}{r:List Oper}(i:Nat)(hm:ms[i]?=some m)(k:WL e ops Q r s h (ms.eraseIdx i)):WL e ops Q r s h ms:=λa w ha hw=>k a w ha (Ends.erase hw hm)
@[simp] theorem AcJ(k:IntKind)(n:Int):(Value.int k n).oneCell'=true:=rfl
@[simp] theorem AcC(b:Bool):(Value.bool b).oneCell'=true:=rfl
@[simp] theorem AcG(p:Option Addr):(Value.pointer p).oneCell'=true:=rfl
@[simp] theorem Acm(p:Option Addr)(n c:Nat):(Value.slice p n c).oneCell'=true:=rfl
@[simp] theorem AcK(p:Option Nat):(Value.map p).oneCell'=true:=rfl
theorem BQ{e:Entry}{Q:Exit->Act->World->Prop}{ops:Array Oper}{rest:List Oper}{o:Oper}{s:AF}{h:Hp}{ms:List Hp}{el:TypeId}{v:Value}{l:List Int}{t:TypeId}{x y:Operand}{z:Value}{bytes:Nat}{a:Int}(i j:Nat)(O:OwnL cI 1 el m v l)(ho:o.op=.store t x y)(hs:Elem e.P t 1 z bytes)(hx:ev s x=some (.pointer (some ((AG v).add (j*1)))))(hy:ev s y=some (.int .i64 a))
  (hm:ms[i]?=some m) (hj:j<l.length) (hd:o.dst=none) (hg:o.guard=none)
  (K:∀m',OwnL cI 1 el m' v (l.set j a)->WL e ops Q rest s h (ms.set i m')):WL e ops Q (o::rest) s h ms:=
 Ca i j (λ_=>rfl) O ho hs hx hy rfl hm hj hd hg K
theorem OwnL.blk{α:Type}{F:α->List Value}{sz:Nat}{el:TypeId}{g:Nat}{l:List α}(n:Nat)(hF:∀x,(F x).length=sz)(hl:l.length=n)(hn:n<=9223372036854775807):OwnL F sz el (Bh g el (l.flatMap F)) (.slice (some ⟨g,0,none⟩) n n) l:=
 ⟨⟨Bv hF l,.inr ⟨g,n,[],by rw[hl],by rw[eo],by rw[eo,Bv hF,hl],ω,hn⟩⟩,hF⟩
theorem OwnL.rep{g:Nat}{el:TypeId}(n:Nat)(x:Int)(hn:n<=9223372036854775807):OwnL cI 1 el (Bh g el (replicate n (.int .i64 x))) (.slice (some ⟨g,0,none⟩) n n) (replicate n x):=by rw[Wo];exact OwnL.blk n Bi σ hn
theorem Ends.join{w0:World}{h0 h:Hp}{ms0 ms:List Hp}{a b:Hp}(H:Ends w0 h0 ms0 w h (a::b::ms)):Ends w0 h0 ms0 w h (a.join b::ms):=by
 have hap:=bj.1 H.st.apart;have hap2:=bj.1 hap.2;refine⟨⟨H.st.imm,?_,?_,bj.2 ⟨λm hm=>Hp.disj_join (hap.1 m (bh _ hm)) (hap2.1 m hm),hap2.2⟩⟩,H.os,H.tape,H.output,H.size,H.block,H.le,H.hnew,?_⟩
 ·intro m hm;rcases aq.1 hm with rfl|hm
  ·intro k o e;unfold Hp.join at e;split at e
   ·rename_i o' e';cases e;exact H.st.own a σ k _ e'
   ·exact H.st.own b σ k o e
  ·exact H.st.own m (by simp[hm])
 ·intro m hm;rcases aq.1 hm with rfl|hm
  ·exact Hp.disj_join (H.st.off a σ) (H.st.off b σ)
  ·exact H.st.off m (by simp[hm])
 ·intro m hm k hk e;rcases aq.1 hm with rfl|hm
  ·cases ha:a k with
   | some o=>exact H.mnew a σ k hk (by rw[ha];simp)
   | none=>exact H.mnew b σ k hk (by simpa[Hp.join,ha] using e)
  ·exact H.mnew m (by simp[hm]) k hk e
theorem Ends.part{w0:World}{h0 h:Hp}{ms0 ms:List Hp}{a b:Hp}(H:Ends w0 h0 ms0 w h (a.join b::ms))(hd:a.disj b):Ends w0 h0 ms0 w h (a::b::ms):=by
 have hap:=bj.1 H.st.apart
 have hb:∀k o,b k=some o->(a.join b) k=some o:=λk o e=>by
  rcases hd k with e1|e1
  ·simp[Hp.join,e1,e]
  ·rw[e1]at e;cases e
 have ha:∀k o,a k=some o->(a.join b) k=some o:=λk o e=>by simp[Hp.join,e]
 refine⟨⟨H.st.imm,?_,?_,bj.2 ⟨?_,bj.2 ⟨λm hm=>Hp.disj_right (hap.1 m hm),hap.2⟩⟩⟩,H.os,H.tape,H.output,H.size,H.block,H.le,H.hnew,?_⟩
 ·intro m hm;rcases aq.1 hm with rfl|hm
  ·exact λk o e=>H.st.own _ σ k o (ha k o e)
  rcases aq.1 hm with rfl|hm
  ·exact λk o e=>H.st.own _ σ k o (hb k o e)
  ·exact H.st.own m (by simp[hm])
 ·intro m hm;have h1:=H.st.off (a.join b) σ;rcases aq.1 hm with rfl|hm
  ·exact Hp.disj_left h1
  rcases aq.1 hm with rfl|hm
  ·exact Hp.disj_right h1
  ·exact H.st.off m (by simp[hm])
 ·intro m hm;rcases aq.1 hm with rfl|hm
  ·exact hd
  ·exact Hp.disj_left (hap.1 m hm)
 ·intro m hm k hk e;rcases aq.1 hm with rfl|hm
  ·obtain⟨o,ho⟩:=Hp.ne_none e;exact H.mnew (m.join b) σ k hk (by rw[ha k o ho];simp)
  rcases aq.1 hm with rfl|hm
  ·obtain⟨o,ho⟩:=Hp.ne_none e;exact H.mnew (a.join m) σ k hk (by rw[hb k o ho];simp)
  ·exact H.mnew m (by simp[hm]) k hk e
section
variable {e:Entry} {Q:Exit->Act->World->Prop} {s:AF} {h:Hp} {ms:List Hp} {a b:Hp} {ops:Array Oper}
theorem E6{y:Exit}(k:NX e Q y s h (a.join b::ms)):NX e Q y s h (a::b::ms):=λx w ha hw=>k x w ha (Ends.join hw)
theorem HI{c:Code}(hd:a.disj b)(k:WS e c Q s h (a::b::ms)):WS e c Q s h (a.join b::ms):=λx w ha hw=>k x w ha (Ends.part hw hd)
theorem EB{y:Exit}(k:ms.Pairwise Hp.disj->NX e Q y s h ms):NX e Q y s h ms:=λx w ha hw=>k hw.st.apart x w ha hw
end
end Go.Eng
namespace Go.Eng
open Go.RowKit Go.Lin
variable {h:Hp} {ms:List Hp} {v:Value}
theorem RdL.row{r c:Nat}{f:Nat->Nat->Int}(R:RdL cI 1 h ms v (BV r c f)){i:Nat}(hi:i<r):RdL cI 1 h ms (Cj 1 v (i*c) ((i+1)*c)) (EK c (f i)):=by
 have h0:(i+1)*c<=r*c:=d7 c hi;have h1:(i+1)*c=i*c+c:=by rw[d5,iv]
 have:=R.sub_ (i:=i*c) (j:=(i+1)*c) ω (by rw[BO];exact h0);rw[show(i+1)*c-i*c=c by omega,YX hi]at this;exact this
theorem RdL.ent{r c:Nat}{f:Nat->Nat->Int}(R:RdL cI 1 h ms v (BV r c f)){i j:Nat}(hi:i<r)(hj:j<c):Cell h ms ((AG v).add ((i*c+j)*1)) (.int .i64 (f i j)):=by
 have hl:i*c+j<(BV r c f).length:=by rw[BO];exact Ds hi hj
 have:=R.cell0 hl (u:=.w (f i j)) (by rw[Tf hi hj];rfl);exact this
theorem RdL.ev{n:Nat}{f:Nat->Int}(R:RdL cI 1 h ms v (EK n f)){j:Nat}(hj:j<n):Cell h ms ((AG v).add (j*1)) (.int .i64 (f j)):=by
 have hl:j<(EK n f).length:=by rw[Cd];exact hj
 exact R.cell0 hl (u:=.w (f j)) (by rw[GY hj];rfl)
end Go.Eng
namespace Go.Eng
open Go.RowKit
variable {n:Nat} {o:Oper} {l:List Oper} {a:Act} {w:World} {v:Value} {z:AF}
def WB(e:Entry)(ops:Array Oper)(Q:Exit->Act->World->Prop)(h0:Hp):Nat->Array Bool->AF->Hp->List Hp->Prop
  | 0,listed,s,h,ms=>Region.ready .any ops listed=[]/\NX e Q .normal s h ms
  | n+1,listed,s,h,ms=>(Region.ready .any ops listed=[]->NX e Q .normal s h ms)/\∀i∈Region.ready .any ops listed,∃o,ops[i]?=some o ∧
      WL e ops (λx a w=>x=.normal/\∃s' h' ms',Has e.n e.ds a s'/\e.Ends w h' ms'/\h0.le h'/\WB e ops Q h0 n (listed.setIfInBounds i true) s' h' ms') [o] s h ms
def HB(e:Entry)(ops:Array Oper)(Q:Exit->Act->World->Prop)(h0:Hp)(n:Nat)(listed:Array Bool)(a:Act)(w:World):Prop:=
 ∃s' h' ms',Has e.n e.ds a s'/\e.Ends w h' ms'/\h0.le h'/\WB e ops Q h0 n listed s' h' ms'
def QB(e:Entry)(ops:Array Oper)(Q:Exit->Act->World->Prop)(h0:Hp)(n:Nat)(listed:Array Bool):Exit->Act->World->Prop:=
 λx a w=>x=.normal/\HB e ops Q h0 n listed a w
theorem NJ{e:Entry}{ops:Array Oper}{Q:Exit->Act->World->Prop}{h0:Hp}{listed:Array Bool}:¬LetsOut (QB e ops Q h0 n listed):=λh=>by simp[LetsOut,QB]at h
theorem HB.ext{e:Entry}{ops:Array Oper}{Q:Exit->Act->World->Prop}{h0:Hp}{listed:Array Bool}{w':World}(H:HB e ops Q h0 n listed a w)(he:Ext w w'):HB e ops Q h0 n listed a w':=by obtain⟨s',h',ms',g1,g2,g3,g4⟩:=H;exact⟨s',h',ms',g1,Ends.ext g2 he,g3,g4⟩
structure Aci(P:Program)(pu:List Nat)(ops:Array Oper)(s z:AF)(n:Nat)(h0:Hp):Prop where
 val:∀i o d,pu.contains i=true->ops[i]?=some o->o.dst=some d->∃v,lk z d=some v/\OX P o (z++s) h0 [] v
 only:∀t v,lk z t=some v->t<n/\∃i,pu.contains i=true/\Bt ops i=some t
section
variable {P:Program} {ops:Array Oper} {Q:Exit->Act->World->Prop}
theorem Va{s:AF}{h0:Hp}(hs:∀cs b,o.op≠.select cs b)(hl:∀t∈o.looksAt ops,∀u,lk s t=some u->a.tmps[t]?=some u)
  (k:OX P o s h0 [] v) (hw:St w h0 []):OpRes P o a.eval w (λv' w'=>v'=v/\Ext w w'):=by
 classical
 unfold OpRes;rw[execOp_congr (ρ:=a.eval) (ρ':=λx=>if x∈o.op.operands then a.eval x else(ev s x).getD undef) o hs (λx hx=>(ac hx).symm)];refine k _ w (λx u hu=>?_) hw;show(if x∈o.op.operands then a.eval x else(ev s x).getD undef)=u;split
 ·rename_i hx;cases x with
  | tmp t=>
   refine Act.eval_of_slot (hl t ?_ u hu);exact fe _ (jd.2 ⟨.tmp t,by simpa using hx,rfl⟩)
  | const v=>cases hu;rfl
  | global g=>cases hu;rfl
  | func f=>cases hu;rfl
 ·rw[hu];rfl
theorem Oper.wp_sim'{K K':Act->World->Prop}{Qb:Exit->Act->World->Prop}(hq:∀x a w,Qb x a w->x=.normal)(hlo:¬LetsOut Qb)(hx:execOp (zA z a).eval o=execOp a.eval o)(hd:∀t,o.dst=some t->lk z t=none)(hK:∀b w v,b.tmps=(a.put o.dst v).tmps->K' (zA z b) w->K b w)
  (h:o.wp P (zA z a) w K' Qb):o.wp P a w K (Q0 Q):=by
 unfold Oper.wp at *;rw[hx]at h;generalize (execOp a.eval o).run P w=r at *;have hv:∀v w,K' ((zA z a).put o.dst v) w->K (a.put o.dst v) w:=λv w hh=>hK _ _ v Y (by rw[G5 hd];exact hh);cases r with
 | ok n w'=>
  cases n<;>simp only[Oper.upon]at h ⊢ <;>
   first
    | exact hv _ _ h
    | exact Calls.mono h (λe w'' he=>by
     cases e
     ·exact hv _ _ he
     ·exact jt (hq _ _ _ he) σ
     ·exact jt he hlo)
    | exact Rows.mono h (λ_ _ he=>hv _ _ he)
    | exact hK _ _ undef (by cases o.dst<;>rfl) (by rw[G5 hd];exact h)
 | halt x w'=>cases x<;>simp only[Oper.upon]at h ⊢<;>exact jt (hq _ _ _ h) σ
end
theorem AaZ{e:Entry}{ops:Array Oper}{Q:Exit->Act->World->Prop}{h0:Hp}{pu:List Nat}{s:AF}{a0:Act}(ha0:Has e.n e.ds a0 s)(hp:POK pu ops)(hb:∀i o,ops[i]?=some o->∀e∈o.after,Region.binds .any e=true->e.on<i)(hz:Aci e.P pu ops s z e.n h0) :
  ∀fuel fuel' listed a w,Sim pu ops z a0 a listed->listed.size=ops.size->left listed<=fuel->HB e ops Q h0 fuel' (un pu listed) (zA z a) w->wpAny e.P .any ops (Q0 Q) fuel listed a w:=by
 -- all is listed
 have alldone:∀fuel' listed a w,Sim pu ops z a0 a listed->listed.size=ops.size->(∀j,j<ops.size->listed.getD j false=true)->HB e ops Q h0 fuel' (un pu listed) (zA z a) w->Region.ready .any ops listed=[]/\(Q0 Q) .normal a w:=by
  intro fuel' listed a w S hsz hall H
  have noready:∀l':Array Bool,(∀j,j<ops.size->l'.getD j false=true)->Region.ready .any ops l'=[]:=λl' hl'=>by
   cases hr:Region.ready .any ops l' with
   | nil=>rfl
   | cons x xs=>
    have hx:x∈Region.ready .any ops l':=by rw[hr];exact bu
    obtain⟨h0,o,ho,_⟩:=mem_ready.1 hx;have:=hl' x (ba.1 ho).1;have h2:=Bu h0;rw[am,h2]at this;cases this
  have hr':=noready (un pu listed) (λj hj=>by rw[II _ _ _ _ ω,hall j hj];rfl)
  have hQ:(Q0 Q) .normal (zA z a) w:=by
   obtain⟨s',h',ms',g1,g2,g3,g4⟩:=H;cases fuel' with
   | zero=>exact⟨Y,g4.2 _ _ g1 g2⟩
   | succ f=>exact⟨Y,g4.1 hr' _ _ g1 g2⟩
  have hza:zA z a=a:=by
   refine KD ?_ Y;apply gx;intro t;rw[Fp];cases hl:lk z t with
   | none=>simp
   | some v=>
    obtain⟨hn,i,hi,hd⟩:=hz.only t v hl;have hlt:t<a.tmps.size:=by rw[S.size,ha0.size];exact hn
    rw[S.pure i hi (hall i (Dx hd)) t v hd hl hlt];rfl
  rw[hza]at hQ;exact⟨noready _ hall,hQ⟩
 have hall_of:∀listed:Array Bool,listed.size=ops.size->left listed=0->∀j,j<ops.size->listed.getD j false=true:=λlisted hsz h0 j hj=>by
  have h1:=J8 h0 j;have hjlt:j<listed.size:=ω
  rw[am]at h1 ⊢;simp[hjlt]at h1 ⊢;exact h1
 intro fuel
 induction fuel with
 | zero=>
  intro fuel' listed a w S hsz hle H;exact alldone fuel' listed a w S hsz (hall_of listed hsz ω) H
 | succ fuel ih=>
  intro fuel' listed a w S hsz hle H;refine⟨λhr0=>?_,λi hir=>?_⟩
  ·-- nothing is ready: all is listed
   refine(alldone fuel' listed a w S hsz ?_ H).2;intro j
   induction j using Nat.strongRecOn with
   | _ j ihj=>
    intro hj;cases hl:listed.getD j false with
    | true=>rfl
    | false=>
     have ho:ops[j]?=some ops[j]:=by simp[hj]
     have:j∈Region.ready .any ops listed:=mem_ready.2 ⟨by
      have hjlt:j<listed.size:=ω
      rw[am]at hl ⊢
      simp[hjlt]at hl ⊢;exact hl,_,ho,λed hed hbd=>by
       have:=hb j _ ho ed hed hbd
       exact ihj _ this ω⟩
     rw[hr0]at this;cases this
  ·obtain⟨hun,o,ho,hall⟩:=mem_ready.1 hir;have hilt:i<ops.size:=(ba.1 ho).1;have hdi:Bt ops i=o.dst:=by simp[Bt,ho]
   have hsel:∀cs b,o.op≠.select cs b:=λcs b=>Region.noSelect_spec hp.nosel i o cs b ho;have hls:=Jp (Bu hun)
   have hset:∀j d,(listed.setIfInBounds i true).getD j d=if j=i then true else listed.getD j d:=λj d=>by
    by_cases hj:j=i
    ·subst hj;simp[show j<listed.size by omega]
    ·rw[getD_set_ne d (fw hj)];simp[hj]
   -- the slots of pure ones that are looked at stand
   have hpl:∀t∈o.looksAt ops,∀v,lk z t=some v->a.tmps[t]?=some v/\∃j,pu.contains j=true/\Bt ops j=some t:=λt ht v hv=>by
    obtain⟨hn,j,hj,hd⟩:=hz.only t v hv;refine⟨?_,j,hj,hd⟩;rcases hp.look i o t j ho ht hd with ⟨_,h2⟩|⟨h2,_⟩
    ·obtain⟨e,he,hbd,rfl⟩:=FI h2;exact S.pure _ hj (hall e he hbd) t v hd hv (by rw[S.size,ha0.size];exact hn)
    ·rw[hj]at h2;cases h2
   have hsame:∀t∈o.looksAt ops,(zA z a).tmps[t]?=a.tmps[t]?:=λt ht=>by
    rw[Fp];cases hl:lk z t with
    | none=>simp
    | some v=>rw[(hpl t ht v hl).1];rfl
   have hx:execOp (zA z a).eval o=execOp a.eval o:=execOp_congr o hsel λx hx=>by
    cases x with
    | tmp t=>
     have:=hsame t (fe _ (jd.2 ⟨.tmp t,by simpa using hx,rfl⟩));simp only[Act.eval];rw[am,this,<-am]
    | const v=>rfl
    | global g=>rfl
    | func f=>rfl
   unfold wpOp;simp only[ho];cases hc:pu.contains i with
   | true=>
    obtain⟨hg,⟨d,hd⟩,huq⟩:=hp.plain i o ho hc;obtain⟨v,hv,hpx⟩:=hz.val i o d hc ho hd;have hw:Region.wanted o (yielded ops a.tmps)=true:=by unfold Region.wanted;rw[hg]
    rw[ac hw]
    have hst:St w h0 []:=by obtain⟨s',h',ms',g1,g2,g3,g4⟩:=H;exact⟨λg o e=>g2.st.imm g o (g3 g o e),λm hm=>by simp at hm,λm hm=>by simp at hm,List.Pairwise.nil⟩
    refine .inl (OpRes.wp (Φ:=λv' w'=>v'=v/\Ext w w') ?_ ?_)
    ·unfold OpRes;rw[<-hx];refine Va (ops:=ops) hsel (λt ht u hu=>?_) hpx hst;rw[CJ]at hu;cases hl:lk z t with
     | some v'=>rw[hl]at hu;cases hu;rw[hsame t ht];exact(hpl t ht _ hl).1
     | none=>
      rw[hl]at hu;rw[hsame t ht,S.old t λj hj=>?_]
      ·exact ha0.slots t u hu
      ·rcases hp.look i o t j ho ht hj with ⟨h1,_⟩|⟨_,h2⟩
       ·obtain⟨oj,hoj⟩:∃oj,ops[j]?=some oj:=⟨ops[j]'(Dx hj),by simp[Dx hj]⟩
        have hdj:oj.dst=some t:=by simpa[Bt,hoj] using hj
        obtain⟨v',hv',_⟩:=hz.val j oj t h1 hoj hdj;rw[hl]at hv';cases hv'
       ·rcases h2 with h2|⟨oj,hoj,hed⟩
        ·rw[hc]at h2;cases h2
        ·cases hlj:listed.getD j false with
         | false=>rfl
         | true=>
          obtain⟨e,he,hbd,hon⟩:=FI hed;have h4:=S.closed j oj hlj hoj e he hbd;rw[hon,am,Bu hun]at h4;cases h4
    ·rintro v' w' ⟨rfl,hext⟩;show wpAny e.P .any ops (Q0 Q) fuel (listed.setIfInBounds i true) (a.put o.dst v') w';rw[hd];refine ih fuel' _ _ w' ⟨?_,?_,by simp[Act.put,S.size],S.closed.set hir⟩ (by simpa using hsz) ω (by rw[Km _ hc,Kl hv];exact H.ext hext)
     ·intro j hj hlj d' v' hd' hv' hlt;by_cases hji:j=i
      ·subst hji;rw[hdi,hd]at hd';cases hd';rw[hv]at hv';cases hv';simp only[Act.put];have:d<a.tmps.size:=by simpa[Act.put] using hlt
       simp[this]
      ·rw[hset]at hlj;simp only[hji,i8]at hlj;have hne:d≠d':=λe'=>huq j hji d hd (by rw[hd',e']);simp only[Act.put,cw hne];exact S.pure j hj hlj d' v' hd' hv' (by simpa[Act.put] using hlt)
     ·intro t ht
      have hne:d≠t:=λe'=>by have:=ht i (by rw[hdi,hd,e']);rw[hset]at this;simp at this
      simp only[Act.put,cw hne]
      exact S.old t λj hj=>by
       have:=ht j hj;rw[hset]at this;by_cases hji:j=i
       ·simp[hji]at this
       ·simpa[hji] using this
   | false=>
    have hdz:∀t,o.dst=some t->lk z t=none:=λt ht=>by
     cases hl:lk z t with
     | none=>rfl
     | some v=>
      obtain⟨_,j,hj,hd⟩:=hz.only t v hl;have hji:j≠i:=λe'=>by rw[e',hc]at hj;cases hj
      obtain⟨oj,hoj⟩:∃oj,ops[j]?=some oj:=⟨ops[j]'(Dx hd),by simp[Dx hd]⟩
      obtain⟨_,_,huq⟩:=hp.plain j oj hoj hj;exact jt (by rw[hdi,ht]) (huq i (fw hji) t (by simpa[Bt,hoj] using hd))
    have hir':i∈Region.ready .any ops (un pu listed):=mem_ready.2 ⟨by rw[II _ _ _ _ ω,hun,hc];rfl,o,ho,λe he hbd=>by
     have h1:=hb i o ho e he hbd
     rw[II _ _ _ _ ω,hall e he hbd];rfl⟩
    obtain⟨s',h',ms',g1,g2,g3,g4⟩:=H;cases fuel' with
    | zero=>rw[g4.1]at hir';cases hir'
    | succ fuel'=>
     obtain⟨o',ho',HW⟩:=g4.2 i hir';rw[ho]at ho';cases ho';have H':=HW (zA z a) w g1 g2;unfold wpList at H';rw[<-XR]at H'
     have hwant:Region.wanted o (yielded ops (zA z a).tmps)=Region.wanted o (yielded ops a.tmps):=by
      unfold Region.wanted;cases hg:o.guard with
      | none=>rfl
      | some p=>
       obtain⟨j,b⟩:=p
       have:yielded ops (zA z a).tmps j=yielded ops a.tmps j:=by
        unfold yielded;cases hd:(ops[j]?).bind (·.dst) with
        | none=>rfl
        | some t=>
         have ht:t∈o.looksAt ops:=by unfold Oper.looksAt;refine fq _ ?_;simp only[hg];rw[hd];simp
         simp[hd,hsame t ht]
       simp only[this]
     rw[hwant]at H'
     have hnext:∀b w v,b.tmps=(a.put o.dst v).tmps->QB e ops Q h0 fuel' (un pu (listed.setIfInBounds i true)) .normal (zA z b) w->wpAny e.P .any ops (Q0 Q) fuel (listed.setIfInBounds i true) b w:=λb w v hbt hh=>by
      have hbget:∀t,o.dst≠some t->b.tmps[t]?=a.tmps[t]?:=λt ht=>by
       rw[hbt];cases hd:o.dst with
       | none=>rfl
       | some d=>
        have:d≠t:=λe'=>ht (by rw[hd,e']);simp only[Act.put,cw this]
      have hbs:b.tmps.size=a.tmps.size:=by rw[hbt];cases o.dst<;>simp[Act.put]
      refine ih fuel' _ b w ⟨?_,?_,by rw[hbs,S.size],S.closed.set hir⟩ (by simpa using hsz) ω hh.2
      ·intro j hj hlj d' v' hd' hv' hlt;have hji:j≠i:=λe'=>by rw[e',hc]at hj;cases hj
       rw[hset]at hlj;simp only[hji,i8]at hlj;have hne:o.dst≠some d':=λe'=>by rw[hdz d' e']at hv';cases hv'
       rw[hbget d' hne];exact S.pure j hj hlj d' v' hd' hv' (by rw[<-hbs];exact hlt)
      ·intro t ht
       rw[hbget t (λe'=>by
        have:=ht i (by rw[hdi,e'])
        rw[hset]at this;simp at this)]
       exact S.old t λj hj=>by
        have:=ht j hj;rw[hset]at this;by_cases hji:j=i
        ·simp[hji]at this
        ·simpa[hji] using this
     split
     ·rename_i hw;rw[ac hw]at H';rcases H' with H'|⟨_,H'⟩
      ·exact .inl (Oper.wp_sim' (λx a w h=>h.1) NJ hx hdz hnext H')
      ·exact jt H' NJ
     ·rename_i hw;rw[aa hw]at H';exact hnext _ _ undef Y (by rw[G5 hdz];exact H')
def Fm(P:Program)(l:List Oper)(n:Nat)(s:AF)(h0:Hp)(K:AF->Prop):List Nat->AF->Prop
 | [],z=>K z
 | i::r,z=>∃o d v,l[i]?=some o/\o.dst=some d/\d<n/\lk (z++s) d=none/\OX P o (z++s) h0 [] v/\Fm P l n s h0 K r ((d,v)::z)
theorem OX.mono_s{P:Program}{s:AF}{h:Hp}{ms:List Hp}{d:Nat}{u:Value}(k:OX P o s h ms v)(hd:lk s d=none):OX P o ((d,u)::s) h ms v:=λρ w hρ hw=>
 k ρ w (λx u' hx=>hρ x u' (by
  cases x with
  | tmp t=>
   have:d≠t:=λe=>by subst e;simp only[ev]at hx;rw[hd]at hx;cases hx
   simp only[ev]at hx ⊢;rw[BF _ _ this];exact hx
  | const v=>exact hx
  | global g=>exact hx
  | func f=>exact hx)) hw
theorem OZ{P:Program}{s:AF}{h0:Hp}{K:AF->Prop}:∀(r done:List Nat) (z:AF),
    (∀i∈done,∀o d,l[i]?=some o->o.dst=some d->∃v,lk z d=some v/\OX P o (z++s) h0 [] v)->(∀t v,lk z t=some v->t<n/\∃i∈done,Bt l.toArray i=some t)->Fm P l n s h0 K r z →
    ∃zf,K zf/\(∀i,i∈done\/i∈r->∀o d,l[i]?=some o->o.dst=some d->∃v,lk zf d=some v/\OX P o (zf++s) h0 [] v)/\(∀t v,lk zf t=some v->t<n/\∃i,(i∈done\/i∈r)/\Bt l.toArray i=some t)
  | [],done,z,h1,h2,h3=>⟨z,h3,λi hi=>h1 i (hi.resolve_right σ),λt v hv=>by
      obtain⟨g1,i,g2,g3⟩:=h2 t v hv
      exact⟨g1,i,.inl g2,g3⟩⟩
  | j::r,done,z,h1,h2,⟨o,d,v,e1,e2,e3,e4,e5,e6⟩=>by
    have hzd:lk z d=none:=by
      rw[CJ]at e4;cases hl:lk z d with
      | none=>rfl
      | some u=>rw[hl]at e4;cases e4
    obtain⟨zf,g1,g2,g3⟩:=OZ r (j::done) ((d,v)::z) (λi hi o' d' ho' hd'=>by
      rcases aq.1 hi with rfl|hi
      · rw[e1]at ho';cases ho';rw[e2]at hd';cases hd';exact⟨v,BL _ _ _,e5.mono_s e4⟩
      · obtain⟨v',f1,f2⟩:=h1 i hi o' d' ho' hd';refine⟨v',?_,f2.mono_s e4⟩;have:d≠d':=λe=>by subst e;rw[hzd]at f1;cases f1
        rw[BF _ _ this];exact f1) (λt u hu=>by
      by_cases hdt:d=t
      · subst hdt;exact⟨e3,j,by simp,by simp[Bt,e1,e2]⟩
      · rw[BF _ _ hdt]at hu;obtain⟨f1,i,f2,f3⟩:=h2 t u hu
        exact⟨f1,i,bh _ f2,f3⟩) e6
    refine⟨zf,g1,λi hi=>g2 i ?_,λt u hu=>?_⟩
    · rcases hi with hi|hi
      · exact .inl (bh _ hi)
      · rcases aq.1 hi with rfl|hi
        · exact .inl bu
        · exact .inr hi
    · obtain⟨f1,i,f2,f3⟩:=g3 t u hu;refine⟨f1,i,?_,f3⟩;rcases f2 with f2|f2
      · rcases aq.1 f2 with rfl|f2
        · exact .inr bu
        · exact .inl f2
      · exact .inr (bh _ f2)
theorem Acj{P:Program}{s:AF}{h0:Hp}{K:AF->Prop}{r:List Nat}{i d:Nat}(ho:l[i]?=some o)(hd:o.dst=some d)(hn:Nat.blt d n=true)(hf:lk (z++s) d=none)(hx:OX P o (z++s) h0 [] v)(k:Fm P l n s h0 K r ((d,v)::z)):Fm P l n s h0 K (i::r) z:=
 ⟨o,d,v,ho,hd,dd hn,hf,hx,k⟩
section
variable {e:Entry} {ops:Array Oper} {Q:Exit->Act->World->Prop} {h0:Hp} {fuel:Nat} {listed:Array Bool} {s:AF} {h:Hp} {ms:List Hp}
theorem Aaz(hl:h0.le h)(k:WB e ops Q h0 fuel listed s h ms):NX e (QB e ops Q h0 fuel listed) .normal s h ms:=λa w ha hw=>⟨rfl,s,h,ms,ha,hw,hl,k⟩
theorem Aa5(hr:Region.ready .any ops listed=[])(k:NX e Q .normal s h ms):WB e ops Q h0 fuel listed s h ms:=by
 cases fuel with
 | zero=>exact⟨hr,k⟩
 | succ n=>exact⟨λ_=>k,λi hi=>by rw[hr]at hi;cases hi⟩
def WBl(e:Entry)(ops:Array Oper)(Q:Exit->Act->World->Prop)(h0:Hp)(fuel:Nat)(listed:Array Bool)(s:AF)(h:Hp)(ms:List Hp):List Nat->Prop
 | []=>True
 | i::l=>(∃o,ops[i]?=some o/\WL e ops (QB e ops Q h0 fuel (listed.setIfInBounds i true)) [o] s h ms)/\WBl e ops Q h0 fuel listed s h ms l
theorem WBl.get:∀(l:List Nat),WBl e ops Q h0 fuel listed s h ms l->∀i∈l,∃o,ops[i]?=some o/\WL e ops (QB e ops Q h0 fuel (listed.setIfInBounds i true)) [o] s h ms
 | [],_,i,hi=>by cases hi
 | j::l,H,i,hi=>by
  rcases aq.1 hi with rfl|hi
  ·exact H.1
  ·exact WBl.get l H.2 i hi
theorem Be:WBl e ops Q h0 fuel listed s h ms []:=ff
theorem AD{i:Nat}{l:List Nat}(ho:ops[i]?=some o)(k:WL e ops (QB e ops Q h0 fuel (listed.setIfInBounds i true)) [o] s h ms)(k':WBl e ops Q h0 fuel listed s h ms l):WBl e ops Q h0 fuel listed s h ms (i::l):=⟨⟨o,ho,k⟩,k'⟩
theorem Bf(l:List Nat)(hr:Region.ready .any ops listed=l)(hne:l.isEmpty=false)(k:WBl e ops Q h0 fuel listed s h ms l):WB e ops Q h0 (fuel+1) listed s h ms:=
 ⟨λh0=>(by rw[hr]at h0;subst h0;cases hne),λi hi=>k.get l i (by rw[hr]at hi;exact hi)⟩
end
theorem VL{e:Entry}{Q:Exit->Act->World->Prop}{s:AF}{h:Hp}{ms:List Hp}{bs:List Bool}(m:List Bool)(hpu:Lw (J2 m 0) l.toArray=true)(hbk:Jh l.toArray=true)(hn:l.length=n)
  (hbs:(range n).map (λi=>(J2 m 0).contains i)=bs) (k:Fm e.P l e.n s h (λz=>WB e l.toArray Q h n bs.toArray (z++s) h ms) (J2 m 0) []):∀a w,Has e.n e.ds a s->e.Ends w h ms->wpAny e.P .any l.toArray Q l.toArray.size (Array.replicate l.toArray.size false) a { w with drawn:=w.drawn+1 }:=by
 intro a w ha hw;obtain⟨z,kw,hz1,hz2⟩:=OZ _ [] [] σ (λt v hv=>by cases hv) k;have PO:=Kg hpu;have HBk:=IR hbk;have hmem:∀i,(J2 m 0).contains i=true<->i∈J2 m 0:=λi=>gv
 have hZ:Aci e.P (J2 m 0) l.toArray s z e.n h:=⟨λi o d hi ho hd=>hz1 i (.inr ((hmem i).1 hi)) o d (by simpa using ho) hd,λt v hv=>by
  obtain⟨g1,i,g2,g3⟩:=hz2 t v hv
  exact⟨g1,i,(hmem i).2 (g2.resolve_left σ),g3⟩⟩
 have hsz:l.toArray.size=n:=by simpa using hn
 refine AaM _ _ _ _ ?_
 refine AaZ (h0:=h) ha PO HBk hZ _ n _ a _ ⟨λi _ hi=>(by rw[B6]at hi;cases hi),λ_ _=>rfl,rfl,λi o hi=>(by rw[B6]at hi;cases hi)⟩ σ (by
  unfold left;rw[Array.toList_replicate];exact dc (List.countP_le_length) σ) ?_
 have e1:un (J2 m 0) (Array.replicate l.toArray.size false)=bs.toArray:=by
  apply gx;intro i;rw[<-hbs];rcases eh i n with hi|hi
  ·simp[un,hsz,hi]
  ·simp[un];simp at hsz;rw[cu (by simpa using hi),je (by simp;omega)];rfl
 rw[e1];refine⟨z++s,h,ms,⟨ha.defers,by simp[zA,ha.size],λt u hu=>?_⟩,Ends.drew hw,Hp.le_refl _,kw⟩;rw[Fp];rw[CJ]at hu;cases hl:lk z t with
 | some v=>
  rw[hl]at hu;cases hu;have hlt:t<a.tmps.size:=by rw[ha.size];exact(hz2 t _ hl).1
  simp[hlt]
 | none=>rw[hl]at hu;rw[ha.slots t u hu];rfl
theorem BK{e:Entry}{id:Nat}{Q:Exit->Act->World->Prop}{s:AF}{h:Hp}{ms:List Hp}{bs:List Bool}(m:List Bool)(hm:e.P.follows .mixedOrders=true)(hpu:Lw (J2 m 0) l.toArray=true)(hbk:Jh l.toArray=true)(hn:l.length=n)
  (hbs:(range n).map (λi=>(J2 m 0).contains i)=bs) (k:Fm e.P l e.n s h (λz=>WB e l.toArray Q h n bs.toArray (z++s) h ms) (J2 m 0) []):WS e (.region id l.toArray true) Q s h ms:=
 λa w ha hw=>wp_region_any hm (VL m hpu hbk hn hbs k a w ha hw)
theorem Seg.all{h:Hp}{p:Addr}{cs:List Value}(S:Seg h [] p cs):∀i v,cs[i]?=some v->∀ms,Cell h ms (p.add i) v:=λi v hv ms=>(S i v hv).any
end Go.Eng
namespace Go.Eng
open Go.RowKit
def Z7(w:World):Hp:=λg=>w.heap[g]?
theorem YQ(w:World):(Z7 w).inW w:=λ_ _ e=>e
theorem SB{h:Hp}{w:World}(H:h.inW w):h.le (Z7 w):=λg o e=>H g o e
theorem YN(w:World):St w (Z7 w) []:=⟨YQ w,λm hm=>by simp at hm,λm hm=>by simp at hm,List.Pairwise.nil⟩
theorem CF{P:Program}{f:FuncId}{args:Array Value}{h:Hp}{ms:List Hp}{v:Value}(k:∀h',h.le h'->(∀m∈ms,m.le h')->FnV P f args h' [] v):FnV P f args h ms v:=λw hw=>
 k (Z7 w) (SB hw.imm) (λm hm=>SB (hw.own m hm)) w (YN w)
section
variable {P:Program} {o:Oper} {s:AF} {h:Hp} {ms:List Hp} {t u:TypeId} {x y:Operand} {a n:Nat}
theorem NA(ho:o.op=.binOp .shr t x y u){k:IntKind}(hx:ev s x=some (.int .i64 a))(hy:ev s y=some (.int k n))(hn:n<=64):OX P o s h ms (.int .i64 ((a/2^n:Nat):Int)):=
 BJ λρ w hρ _=>by
  have h1:¬((n:Int)<0):=ω
  have h2:min n 64=n:=gh hn
  have h3:(a:Int).fdiv (2^n)=((a/2^n:Nat):Int):=by rw[Int.fdiv_eq_ediv_of_nonneg _ (Int.le_of_lt (Int.pow_pos δ))];simp
  simp[execOp,ho,hρ _ _ hx,hρ _ _ hy,Op.shift,h1,IntKind.bits,h2,h3,go_sem]
theorem Vo(ho:o.op=.binOp .and t x y u)(hx:ev s x=some (.int .i64 a))(hy:ev s y=some (.int .i64 1))(ha:a<9223372036854775808):OX P o s h ms (.int .i64 ((a%2:Nat):Int)):=
 BJ λρ w hρ _=>by
  have h3:IntKind.i64.wrap (((BitVec.ofNat 64 a) &&& (BitVec.ofNat 64 1)).toNat:Int)=((a%2:Nat):Int):=by rw[BitVec.toNat_and,BitVec.toNat_ofNat,BitVec.toNat_ofNat,fj ω,fj ω,Nat.and_one_is_mod];exact Dm ω
  simp[execOp,ho,hρ _ _ hx,hρ _ _ hy,Op.intBits,IntKind.bits,go_sem];exact h3
end
theorem Seg.ofLe{h:Hp}{g:Nat}{el:TypeId}{cs:List Value}(hl:(Bh g el cs).le h):Seg h [] ⟨g,0,none⟩ cs:=λj u hu=>⟨by unfold Addr.add;split<;>rfl,cs.toArray,el,(0,0),.inl (by
 rw[Dn]
 exact hl _ _ (Hp.one_self _ _)),by rw[DY];simpa using hu⟩
theorem T9{h:Hp}{ms:List Hp}{v:Value}{sz n:Nat}{cs:List Value}(R:Rd h ms v sz n cs){i j:Nat}(hi:i<n):AG (Cj sz v i j)=(AG v).add (i*sz):=by obtain⟨a,c,rfl,h1,h2,h3,h4⟩:=R.ex;obtain⟨q,rfl,_⟩:=h4 ω;unfold Cj;simp only;rw[aa ω];rfl
section
open Go.Lin
variable {e:Entry} {Q:Exit->Act->World->Prop} {ops:Array Oper} {rest:List Oper} {o:Oper} {s:AF} {h:Hp} {ms:List Hp}
theorem Gr{el:TypeId}{m:Hp}{v:Value}{r c:Nat}{f:Nat->Nat->Int}{t:TypeId}{x y:Operand}{z:Value}{bytes:Nat}{a:Int}(i p j:Nat)(O:OwnL cI 1 el m v (BV r c f))(hp:p<r)(hj:j<c)(ho:o.op=.store t x y)(hs:Elem e.P t 1 z bytes)(hx:ev s x=some (.pointer (some ((AG (Cj 1 v (p*c) ((p+1)*c))).add (j*1)))))(hy:ev s y=some (.int .i64 a))
  (hm:ms[i]?=some m) (hd:o.dst=none) (hg:o.guard=none)
  (K:∀m',OwnL cI 1 el m' v (BV r c (Fe f p j a))->WL e ops Q rest s h (ms.set i m')):WL e ops Q (o::rest) s h ms:=by
 have hl:p*c+j<(BV r c f).length:=by rw[BO];exact Ds hp hj
 have hl2:p*c<(BV r c f).length:=ω
 rw[T9 (O.rd (h:=h) (ms:=[m]) (List.Mem.head _)).rd hl2,B9,<-d5]at hx;exact BQ i (p*c+j) O ho hs hx hy hm hl hd hg λm' O'=>K m' (by rw[DZ _ hj]at O';exact O')
end
section
variable {P:Program} {o:Oper} {s:AF} {h:Hp} {ms:List Hp} {t el:TypeId} {x y lo hi:Operand} {v:Value} {sz n:Nat} {cs:List Value} {z:Value} {bytes:Nat} {k k':IntKind} {h1':Hp} {ms1':List Hp}
theorem Bk{i:Int}(j:Nat)(R:Rd h1' ms1' v sz n cs)(ho:o.op=.indexAddr t x y)(ht:P.underlying t=some (.slice el))(hs:Elem P el sz z bytes)(hx:ev s x=some v)(hy:ev s y=some (.int k i))(hi:i=(j:Int))(hlt:j<n):OX P o s h ms (.pointer (some ((AG v).add (j*sz)))):=by obtain⟨c,e,_⟩:=R.val ω;rw[e]at hx;exact Co j ho ht hs hx hy hi hlt
theorem ED(R:Rd h1' ms1' v sz n cs)(ho:o.op=.call { callee:=.builtin .len,args:=#[x],argTypes:=#[t] })(ht:P.underlying t=some (.slice el))(hx:ev s x=some v):OX P o s h ms (.int .i64 n):=by obtain⟨a,c,rfl,_⟩:=R.ex;exact RL (ty:=t) ho ht hx
theorem PN{l:Int}(i:Nat)(R:Rd h1' ms1' v sz n cs)(ho:o.op=.slice t x (some lo) none none)(ht:P.underlying t=some (.slice el))(hs:Elem P el sz z bytes)(hx:ev s x=some v)(hlo:ev s lo=some (.int k l))(el':l=(i:Int))(h1:i<=n) :
  OX P o s h ms (Cj sz v i n):=by
 obtain⟨a,c,rfl,e2,e3,e4,e5⟩:=R.ex
 exact BJ λρ w hρ _=>by
  have g1:(0:Int)<=l/\l<=(n:Int):=ω
  have g3:l.toNat=i:=ω
  simp[execOp,ho,hρ _ _ hx,hρ _ _ hlo,Instr.sliceAt,Instr.slice,run_underlying ht,Instr.sliceBounds,Instr.sliceBound,asIntOf,g1,g3,hs.sizeOf,Cj]
theorem Fl{r:Int}(j:Nat)(R:Rd h1' ms1' v sz n cs)(ho:o.op=.slice t x none (some hi) none)(ht:P.underlying t=some (.slice el))(hs:Elem P el sz z bytes)(hx:ev s x=some v)(hhi:ev s hi=some (.int k r))(er:r=(j:Int))(h2:j<=n) :
  OX P o s h ms (Cj sz v 0 j):=by
 obtain⟨a,c,rfl,e2,e3,e4,e5⟩:=R.ex
 exact BJ λρ w hρ _=>by
  have g2:(0:Int)<=r/\r<=(c:Int):=ω
  have g4:r.toNat=j:=ω
  simp[execOp,ho,hρ _ _ hx,hρ _ _ hhi,Instr.sliceAt,Instr.slice,run_underlying ht,Instr.sliceBounds,Instr.sliceBound,asIntOf,g2,g4,hs.sizeOf,Cj]
end
section
variable {e:Entry} {Q:Exit->Act->World->Prop} {ops:Array Oper} {rest:List Oper} {s:AF} {h:Hp} {ms:List Hp} {c:Code} {a b:Hp}
theorem KI(k:WL e ops Q rest s h (b::a::ms)):WL e ops Q rest s h (a::b::ms):=SY (List.Perm.swap _ _ _) k
theorem To{x:Exit}(k:NX e Q x s h (b::a::ms)):NX e Q x s h (a::b::ms):=JD (List.Perm.swap _ _ _) k
theorem Bj{g:Nat}{el:TypeId}{cs:List Value}(i:Nat)(hm:ms[i]?=some (Bh g el cs))(k:∀h',h.le h'->Seg h' [] ⟨g,0,none⟩ cs->WS e c Q s h' (ms.eraseIdx i)):WS e c Q s h ms:=
 Jk (Df hm) (Ax k)
end
section
variable {e:Entry} {Q:Exit->Act->World->Prop} {s:AF} {h:Hp} {ms:List Hp} {c:Code}
theorem Xp(k:WS e c (Exit.noGoto Q) s h ms):WS e (.scope c) Q s h ms:=λa w ha hw=>wp_scope_straight (k a w ha hw)
theorem NF(k:NX e Q .ret s h ms):NX e (Exit.noGoto Q) .ret s h ms:=λa w ha hw=>k a w ha hw
end
end Go.Eng
namespace Go.Eng
open Go.RowKit
variable {n l id:Nat} {P:Program} {w:World} {a:Act} {next:Act->World->Prop} {y x:Code} {args:Array Value} {post:Value->Hp->List Hp->Prop}
abbrev FR(l:Nat):Fence:=Fence.wide.inRound l
theorem Wb{f:FuncId}{R:Ending->World->Prop}(h:Calls P f args w R):CallsIn (FR l) n P f args w R:=by have:=(callsIn_wide (n:=n)).2 h;exact this
theorem MU{row:String}{R:Value->World->Prop}(h:Rows P row args w R):RowsIn Fence.wide n P row args w R:=
 λc cs _=>let ⟨v,w',r,s⟩:=h c cs;⟨v,w',r,stepsIn_wide.2 s⟩
theorem Zt{row:String}{R:Value->World->Prop}(h:Rows P row args w R):RowsIn (FR l) n P row args w R:=MU (n:=n) h
theorem Z4{o:Oper}{Q:Exit->Act->World->Prop}{r:Result Next}(h:o.upon P a next Q r):o.uponIn (FR l) n P a next Q r:=by
 have nod:(FR l).depth.isSome=true->1<=n:=λh=>by cases h
 cases r with
 | ok x w'=>
  cases x<;>simp only[Oper.upon]at h<;>simp only[Oper.uponIn] <;>
   first
    | exact h
    | exact⟨nod,(Wb h).mono λe w he=>by cases e<;>exact he⟩
    | exact⟨nod,Zt h⟩
    | exact h.elim
 | halt x w'=>cases x<;>simp only[Oper.upon]at h<;>simp only[Oper.uponIn]<;>exact h
theorem Vc{o:Oper}{Q:Exit->Act->World->Prop}{r:Result Next}(h:o.upon P a next Q r):o.uponIn Fence.wide n P a next Q r:=by
 have nod:Fence.wide.depth.isSome=true->1<=n:=λh=>by cases h
 cases r with
 | ok x w'=>
  cases x<;>simp only[Oper.upon]at h<;>simp only[Oper.uponIn] <;>
   first
    | exact h
    | exact⟨nod,(callsIn_wide.2 h).mono λe w he=>by cases e<;>exact he⟩
    | exact⟨nod,MU h⟩
    | exact h.elim
 | halt x w'=>cases x<;>simp only[Oper.upon]at h<;>simp only[Oper.uponIn]<;>exact h
theorem ZH{o:Oper}{Q:Exit->Act->World->Prop}(hd:∀c,o.op≠.defer c)(h:o.wp P a w next Q):o.wpIn (FR l) n P a w next Q:=
 ⟨λ_ _=>ff,by rw[Oper.semAt_eq _ _ _ hd];exact Z4 h⟩
theorem TQ{o:Oper}{Q:Exit->Act->World->Prop}(h:o.wp P a w next Q):o.wpIn Fence.wide n P a w next Q:=
 ⟨λ_ _=>ff,Vc h⟩
def X9(o:Op):Bool:=match o with
 | .defer _=>true
 | _=>false
theorem X7{o:Op}(h:X9 o=false)(c:Call):o≠.defer c:=λe=>by have h2:X9 (.defer c)=true:=rfl;rw[e,h2]at h;cases h
def Mi:List Oper->Bool
 | []=>true
 | o::l=>!X9 o.op&&Mi l
theorem Mn:∀{l:List Oper},Mi l=true->∀o∈l,∀c,o.op≠.defer c
 | [],_,o,ho,c=>by cases ho
 | o'::l,h,o,ho,c=>by
  simp only[Mi,bo,Bool.not_eq_true']at h;rcases aq.1 ho with rfl|ho
  ·exact X7 h.1 c
  ·exact Mn h.2 o ho c
theorem NO{k:Nat}{ops:Array Oper}{Q:Exit->Act->World->Prop}(hq:¬LetsOut Q):∀(l:List Oper),Mi l=true->∀a w,wpList P ops Q l a w->wpListIn (FR k) n P ops Q l a w
 | [],_,a,w,h=>h
 | o::l,hn,a,w,h=>by
  have hn2:Mi l=true:=by simp only[Mi,bo]at hn;exact hn.2
  have hd:=Mn hn o (bu);unfold wpList at h;unfold wpListIn;split at h
  ·rename_i hw;rw[ac hw];rcases h with h|h
   ·exact Oper.wpIn_mono (λa w=>NO hq l hn2 a w) (ZH hd h)
   ·exact jt h.2 hq
  ·rename_i hw;rw[aa hw];exact⟨λ_ _=>ff,NO hq l hn2 _ _ h⟩
def RS(e:Entry)(c:Code)(Q:Exit->Act->World->Prop)(s:AF)(h:Hp)(ms:List Hp):Prop:=
 ∀l a w,Has e.n e.ds a s->e.Ends w h ms->¬LetsOut Q->c.wpIn (FR l) 0 e.P Q a w
def cR(e:Entry)(y:Code)(Q:Exit->Act->World->Prop)(a:Act)(w:World):Prop:=∀l,¬LetsOut Q->y.wpIn (FR l) 0 e.P Q a w
section
variable {e:Entry} {Q:Exit->Act->World->Prop} {s s':AF} {h:Hp} {ms:List Hp} {ops:Array Oper}
theorem RU(k:RS e x (Exit.then (cR e y Q) Q) s h ms):RS e (.seq x y) Q s h ms:=λl a w ha hw hq=>
 wpIn_seq (wpIn_mono (k l a w ha hw λ⟨a,w,h⟩=>hq ⟨a,w,h⟩) λx a w q=>by
  cases x with
  | normal=>exact q l hq
  | _=>exact q)
theorem Lk(k:RS e y Q s h ms):NX e (Exit.then (cR e y Q) Q) .normal s h ms:=λa w ha hw l hq=>k l a w ha hw hq
theorem PE{c:Code}(k:RS e c (Exit.inBlock id Q) s h ms):RS e (.block id c) Q s h ms:=
 λl a w ha hw hq=>wpIn_block (k l a w ha hw λ⟨a,w,h⟩=>hq ⟨a,w,h⟩)
theorem AbK(k:NX e Q .ret s h ms):RS e .ret Q s h ms:=λl a w ha hw _=>wpIn_ret (k a w ha hw)
theorem Aae(k:NX e Q .normal s h ms):RS e .skip Q s h ms:=λl a w ha hw _=>wpIn_skip (k a w ha hw)
theorem Y6{t:Nat}{b:Bool}(hc:lk s t=some (.bool b))(kt:b=true->RS e x Q s h ms)(kf:b=false->RS e y Q s h ms):RS e (.cond (.tmp t) x y) Q s h ms:=
 λl a w ha hw hq=>wpIn_cond_split (ha.eval (.tmp t) _ hc) (λhb=>kt hb l a w ha hw hq) (λhb=>kf hb l a w ha hw hq)
theorem Acz{t:Nat}{p:Prop}{_:Decidable p}(hc:lk s t=some (.bool (decide p)))(kt:p->RS e x Q s h ms)(kf:¬p->RS e y Q s h ms):RS e (.cond (.tmp t) x y) Q s h ms:=
 Y6 hc (λhb=>kt (bz hb)) (λhb=>kf (of_decide_eq_false hb))
theorem ES{l:List Oper}(hn:Mi l=true)(k:WL e l.toArray Q l s h ms):RS e (.region id l.toArray false) Q s h ms:=
 λ_ a w ha hw hq=>wpIn_region_lit (NO hq l hn a w (k a w ha hw))
end
abbrev AcA(e:Entry)(I:AF->Hp->List Hp->Prop):Exit->Act->World->Prop:=Exit.then (Inv e I) (λ_ _ _=>False)
theorem Zv{e:Entry}{I:AF->Hp->List Hp->Prop}:¬LetsOut (AcA e I):=λ⟨_,_,h⟩=>h
def YdT(P:Program)(l:Nat)(args:Array Value)(h:Hp)(ms:List Hp)(post:Value->Hp->List Hp->Prop):Prop:=
 ∀w,St w h ms->∃fn tmps assign body,(Instr.yield l args).run P w=.ok (.round l fn tmps assign body) w/\RoundIn Fence.wide 0 P l fn tmps assign body w (RP w h ms post)
def IL(e:Entry)(ops:Array Oper)(Q:Exit->Act->World->Prop)(l:List Oper)(s:AF)(h:Hp)(ms:List Hp):Prop:=
 ∀a w,Has e.n e.ds a s->e.Ends w h ms->wpListIn Fence.wide 0 e.P ops Q l a w
section
variable {e:Entry} {Q:Exit->Act->World->Prop} {s:AF} {h:Hp} {ms:List Hp} {ops:Array Oper} {o:Oper} {rest:List Oper}
theorem DJ{l:List Oper}(k:IL e l.toArray Q l s h ms):WS e (.region id l.toArray false) Q s h ms:=
 λa w ha hw=>wpIn_wide.1 (wpIn_region_lit (k a w ha hw))
theorem Gk(k:NX e Q .normal s h ms):IL e ops Q [] s h ms:=λa w ha hw=>k a w ha hw
theorem DV{d:Nat}{v:Value}(hx:OX e.P o s h ms v)(hd:o.dst=some d)(hn:Nat.blt d e.n=true)(hg:o.guard=none)(k:IL e ops Q rest ((d,v)::s) h ms):IL e ops Q (o::rest) s h ms:=λa w ha hw=>by unfold wpListIn;rw[ac (by simp[Region.wanted,hg])];refine TQ ((hx a.eval w ha.eval hw.st).wp λv' w' ⟨e1,e2⟩=>?_);subst e1;rw[hd];exact k _ _ (ha.put (dd hn) _) (hw.ext e2)
theorem QP{x:Operand}{lp:Nat}{l:List Operand}{ts:Array TypeId}{vs:List Value}{d:Nat}(ho:o.op=.call { callee:=.value x,args:=l.toArray,argTypes:=ts })(hx:ev s x=some (.func (.yield lp) #[] #[]))(ha:Q6 s l=some vs)(k:YdT e.P lp vs.toArray h ms post)(hd:o.dst=some d)(hn:Nat.blt d e.n=true)(hg:o.guard=none)
  (K:∀v h' ms',h.le h'->post v h' ms'->IL e ops Q rest ((d,v)::s) h' ms'):IL e ops Q (o::rest) s h ms:=λa w hA hw=>by
 unfold wpListIn;rw[ac (by simp[Region.wanted,hg])];obtain⟨fn,tmps,assign,body,hy,hr⟩:=k w hw.st
 have hrun:(execOp a.eval o).run e.P w=.ok (.round lp fn tmps assign body) w:=by simp[execOp,ho,resolve,hA.eval _ _ hx,Deferred.ofValue,invoke,(show Evs s a.eval from hA.eval).map l vs ha,hy]
 refine⟨λ_ _=>ff,?_⟩;rw[Oper.semAt_eq _ _ _ (λc e=>by rw[ho]at e;cases e),hrun];refine⟨(λh=>by cases h),hr.mono λx w' ⟨r,h',ms',e1,e2,e3⟩=>?_⟩;subst e1;show wpListIn _ _ _ _ _ _ (a.put o.dst r) w';rw[hd];refine K r h' ms' e2.le e3 _ _ (hA.put (dd hn) _) ?_;have:=Ends.call (fr:=[]) (by rw[eo];exact hw) e2
 rwa [eo]at this
end
def XY:List Nat->List Value->AF->AF
 | p::ps,v::vs,s=>XY ps vs ((p,v)::s)
 | _,_,s=>s
theorem Tc{ds:List Nat}{D:List Deferred}(hD:D=mkD ds):∀(ps:List Nat) (vs:List Value) (s:AF) (t:Array Value),(∀p∈ps,p<n)->Has n ds { tmps:=t,defers:=D } s->Has n ds { tmps:=(ps.zip vs).foldl (λt (p,v)=>t.setIfInBounds p v) t,defers:=D } (XY ps vs s)
 | [],vs,s,t,_,H=>by cases vs<;>exact H
 | p::ps,[],s,t,_,H=>H
 | p::ps,v::vs,s,t,hp,H=>by show Has n ds { tmps:=(ps.zip vs).foldl (λt (p,v)=>t.setIfInBounds p v) (t.setIfInBounds p v),defers:=D } (XY ps vs ((p,v)::s));exact Tc hD ps vs _ _ (λq hq=>hp q (bh _ hq)) (H.put (hp p bu) v)
def Mk(D:Nat):Hp:=Hp.one D (.deferred (some []))
theorem Ends.putL{w0:World}{h0 h:Hp}{ms0 ms:List Hp}{o:Obj}(o':Obj)(H:Ends w0 h0 ms0 w h (Hp.one l o::ms)):Ends w0 h0 ms0 (w.putObj l o') h (Hp.one l o'::ms):=by have hl:w.heap[l]?=some o:=H.st.own _ (bu) l o (Hp.one_self l o);have hlt:=(ba.1 hl).1;exact H.change Y ⟨Y,au _⟩ Y σ (World.putObj_heap_same hlt) λk _ hk=>World.putObj_heap_other hk
theorem Nk{f:FuncId}{fn:Func}{c:Code}{l:List Value}{h:Hp}{ms:List Hp}
  (hf:P.funcs[f]?=some fn) (hn:fn.ntmps=n) (hb:fn.body=some c) (hl:Nat.ble l.length n=true)
  (k:∀w0,St w0 h ms->WS ⟨P,w0,h,ms,n,[]⟩ c (bodyPostM Fence.wide 0 P fn (RP w0 h ms post)) (A6 0 l) h ms):FnT P f l.toArray h ms post:=by
 intro w hw;refine(callsIn_wide (n:=0)).1 (callsIn_of_wp_marks hf hb ff (wpIn_wide.2 (k w hw _ w ?_ (Ends.refl hw))));have hl':=dd hl;refine⟨Y,by simp[hn];omega,λi v e=>?_⟩;obtain⟨_,h2⟩:=Sx l 0 i v e
 have hi:i<l.length:=by
  rcases eh i l.length with h'|h'
  ·exact h'
  ·rw[cu ω]at h2;cases h2
 simp only[Nat.sub_zero]at h2;rw[jo (by simpa using hi)];simpa using h2
theorem KA{w0:World}{h0:Hp}{ms0:List Hp}{D:Nat}{fn:Func}{s:AF}{h:Hp}{ms:List Hp}{x:Exit}(i:Nat)(hx:x=.normal\/x=.ret)(hm:ms[i]?=some (Mk D))(k:NX ⟨P,w0,h0,ms0,n,[]⟩ (bodyPost P fn (RP w0 h0 ms0 post)) x s h (ms.eraseIdx i)) :
  NX ⟨P,w0,h0,ms0,n,[D]⟩ (bodyPostM Fence.wide 0 P fn (RP w0 h0 ms0 post)) x s h ms:=by
 intro a w ha hw;have hp:=hw.perm (Df hm);have hD:w.heap[D]?=some (.deferred (some [])):=hp.st.own _ (bu) D _ (Hp.one_self _ _);have hE:=(Ends.putL (.deferred none) hp).drop;have hb:=k { a with defers:=[] } _ ⟨Y,ha.size,ha.slots⟩ hE;have hd:a.defers=[{ target:=.collected D,args:=#[] }]:=ha.defers
 have goal:LeavesInM Fence.wide 0 P fn a.tmps (RP w0 h0 ms0 post) a.defers .returning w:=by rw[hd];refine⟨by simp,.inl ⟨D,_,rfl,run_takeDeferred hD,?_⟩⟩;rcases hx with rfl|rfl<;>· obtain⟨_,v,hr,hR⟩:=hb;exact⟨v,hr,hR⟩
 rcases hx with rfl|rfl<;>exact goal
end Go.Eng
namespace Go.Eng
open Go.RowKit
variable {f:Nat->Hp} {N l:Nat} {m:Hp} {R:Nat->Hp->Prop}
def DF(f:Nat->Hp):Nat->Hp
 | 0=>Hp.emp
 | n+1=>(DF f n).join (f n)
def Hv(f:Nat->Hp)(l:Nat)(m:Hp):Nat->Hp:=λk=>if k=l then m else f k
theorem Cv(f:Nat->Hp)(l:Nat)(m:Hp):Hv f l m l=m:=ac rfl
theorem Cn(f:Nat->Hp){k:Nat}(m:Hp)(h:k≠l):Hv f l m k=f k:=aa h
theorem joinN_none{g:Nat}:∀{n:Nat},DF f n g=none<->∀i,i<n->f i g=none
 | 0=>⟨λ_ i h=>ω,λ_=>rfl⟩
 | n+1=>by
  show(match DF f n g with|some o=>some o|none=>f n g)=none<->_;cases h:DF f n g with
  | some o=>
   constructor
   ·intro e;cases e
   ·intro e;have:=(joinN_none (n:=n)).2 λi hi=>e i ω;rw[h]at this;cases this
  | none=>
   constructor
   ·intro e i hi;rcases (ω:i<n\/i=n) with h2|rfl
    ·exact joinN_none.1 h i h2
    ·exact e
   ·intro e;exact e n ω
def Dj(N:Nat)(f:Nat->Hp):Prop:=∀i j,i<N->j<N->i≠j->(f i).disj (f j)
theorem EY{g:Nat}{o:Obj}:∀{n:Nat},Dj n f->∀{l:Nat},l<n->f l g=some o->DF f n g=some o
 | n+1,hd,l,hl,e=>by
  show(match DF f n g with|some o=>some o|none=>f n g)=some o;rcases (ω:l<n\/l=n) with h|rfl
  ·rw[EY (λi j hi hj=>hd i j ω ω) h e]
  ·have:DF f l g=none:=joinN_none.2 λi hi=>by
    rcases hd i l ω ω ω g with h|h
    ·exact h
    ·rw[h]at e;cases e
   rw[this];exact e
theorem Dj.upd(h:Dj N f)(l:Nat):Dj N (Hv f l Hp.emp):=λi j hi hj hne g=>by
 by_cases h1:i=l
 ·subst h1;left;rw[Cv];rfl
 ·by_cases h2:j=l
  ·subst h2;right;rw[Cv];rfl
  ·rw[Cn f _ h1,Cn f _ h2];exact h i j hi hj hne g
theorem LD(hd:Dj N f)(hl:l<N):DF f N=(f l).join (DF (Hv f l Hp.emp) N)/\(f l).disj (DF (Hv f l Hp.emp) N):=by
 have key:∀g,f l g≠none->DF (Hv f l Hp.emp) N g=none:=λg hg=>joinN_none.2 λi hi=>by
  by_cases h:i=l
  ·subst h;rw[Cv];rfl
  ·rw[Cn f _ h];rcases hd i l hi hl h g with h2|h2
   ·exact h2
   ·exact jt h2 hg
 constructor
 ·funext g;show _=match f l g with|some o=>some o|none=>DF (Hv f l Hp.emp) N g
  cases h:f l g with
  | some o=>exact EY hd hl h
  | none=>
   show DF f N g=DF (Hv f l Hp.emp) N g;cases h2:DF (Hv f l Hp.emp) N g with
   | none=>
    refine joinN_none.2 λi hi=>?_;by_cases h3:i=l
    ·subst h3;exact h
    ·have:=joinN_none.1 h2 i hi
     rwa [Cn f _ h3]at this
   | some o=>
    have:∃i,i<N/\Hv f l Hp.emp i g≠none:=bc λhc=>by have:=(joinN_none (f:=Hv f l Hp.emp) (g:=g) (n:=N)).2 λi hi=>bc λhn=>hc ⟨i,hi,hn⟩;rw[h2]at this;cases this
    obtain⟨i,hi,hne⟩:=this;obtain⟨o',ho'⟩:=Hp.ne_none hne;have:=EY (hd.upd l) hi ho';rw[h2]at this;cases this;have hil:i≠l:=λhe=>by subst he;rw[Cv]at ho';cases ho'
    rw[Cn f _ hil]at ho';exact EY hd hi ho'
 ·intro g;by_cases h:f l g=none
  ·exact .inl h
  ·exact .inr (key g h)
def Bag(N:Nat)(R:Nat->Hp->Prop)(m:Hp):Prop:=∃f:Nat->Hp,Dj N f/\m=DF f N/\∀l,l<N->R l (f l)
theorem Bag.zero(R:Nat->Hp->Prop):Bag 0 R Hp.emp:=⟨λ_=>Hp.emp,λi j h=>ω,rfl,λl h=>ω⟩
theorem Bag.mono{R':Nat->Hp->Prop}(B:Bag N R m)(h:∀l,l<N->∀x,R l x->R' l x):Bag N R' m:=
 let ⟨f,h1,h2,h3⟩:=B
 ⟨f,h1,h2,λl hl=>h l hl _ (h3 l hl)⟩
theorem Hp.disj_of_join{a b c:Hp}(h:a.disj (b.join c)):a.disj b/\a.disj c:=by have h':=Hp.disj_symm h;exact⟨Hp.disj_symm (Hp.disj_left h'),Hp.disj_symm (Hp.disj_right h')⟩
theorem disj_joinN{n:Nat}:m.disj (DF f n)<->∀i,i<n->m.disj (f i):=by
 constructor
 ·intro h i hi g;rcases h g with h1|h1
  ·exact .inl h1
  ·exact .inr (joinN_none.1 h1 i hi)
 ·intro h g;by_cases hg:m g=none
  ·exact .inl hg
  ·refine .inr (joinN_none.2 λi hi=>?_);rcases h i hi g with h1|h1
   ·exact jt h1 hg
   ·exact h1
theorem HD{f':Nat->Hp}:∀{n:Nat},(∀i,i<n->f i=f' i)->DF f n=DF f' n
 | 0,_=>rfl
 | n+1,h=>by show(DF f n).join (f n)=(DF f' n).join (f' n);rw[HD λi hi=>h i ω,h n ω]
theorem Bag.snoc{x:Hp}(B:Bag N R m)(hx:R N x)(hd:m.disj x):Bag (N+1) R (m.join x):=by
 obtain⟨f,h1,rfl,h3⟩:=B;have hc:DF (Hv f N x) N=DF f N:=HD λi hi=>Cn f x ω;refine⟨Hv f N x,λi j hi hj hne=>?_,?_,λl hl=>?_⟩
 ·have hd':=disj_joinN.1 (Hp.disj_symm hd);rcases (ω:i<N\/i=N) with h|rfl
  ·rw[Cn f x (ω:i≠N)];rcases (ω:j<N\/j=N) with h2|rfl
   ·rw[Cn f x (ω:j≠N)];exact h1 i j h h2 hne
   ·rw[Cv];exact Hp.disj_symm (hd' i h)
  ·rw[Cv,Cn f x (ω:j≠i)];exact hd' j ω
 ·show _=(DF (Hv f N x) N).join (Hv f N x N);rw[hc,Cv]
 ·rcases (ω:l<N\/l=N) with h|rfl
  ·rw[Cn f x ω];exact h3 l h
  ·rw[Cv];exact hx
theorem Bag.open(B:Bag N R m)(hl:l<N):∃m1 m2,m=m1.join m2/\m1.disj m2/\R l m1/\(∀k,k<N->k≠l->∃x,x.le m2/\R k x) ∧
  ∀(R':Nat->Hp->Prop) m1',m1'.disj m2->R' l m1'->(∀k,k<N->k≠l->∀x,R k x->R' k x)->Bag N R' (m1'.join m2):=by
 obtain⟨f,h1,rfl,h3⟩:=B;obtain⟨e1,e2⟩:=LD h1 hl;refine⟨f l,_,e1,e2,h3 l hl,λk hk hne=>⟨f k,λg o ho=>?_,h3 k hk⟩,λR' m1' hd hR hk=>⟨Hv f l m1',?_,?_,λk hkN=>?_⟩⟩
 ·exact EY (h1.upd l) hk (by rw[Cn f _ hne];exact ho)
 ·have hd':=disj_joinN.1 hd;intro i j hi hj hne;by_cases hil:i=l
  ·subst hil;rw[Cv,Cn f _ (fw hne)];have:=hd' j hj
   rwa [Cn f _ (fw hne)]at this
  ·rw[Cn f _ hil];by_cases hjl:j=l
   ·subst hjl;rw[Cv];have:=hd' i hi;rw[Cn f _ hil]at this;exact Hp.disj_symm this
   ·rw[Cn f _ hjl];exact h1 i j hi hj hne
 ·have hD:Dj N (Hv f l m1'):=by
   have hd':=disj_joinN.1 hd;intro i j hi hj hne;by_cases hil:i=l
   ·subst hil;rw[Cv,Cn f _ (fw hne)];have:=hd' j hj
    rwa [Cn f _ (fw hne)]at this
   ·rw[Cn f _ hil];by_cases hjl:j=l
    ·subst hjl;rw[Cv];have:=hd' i hi;rw[Cn f _ hil]at this;exact Hp.disj_symm this
    ·rw[Cn f _ hjl];exact h1 i j hi hj hne
  have:=(LD hD hl).1;rw[Cv]at this;rw[this];congr 1;refine HD λi _=>?_;by_cases hil:i=l
  ·subst hil;rw[Cv,Cv]
  ·rw[Cn _ _ hil,Cn _ _ hil,Cn _ _ hil]
 ·by_cases hkl:k=l
  ·subst hkl;rw[Cv];exact hR
  ·rw[Cn f _ hkl];exact hk k hkN hkl _ (h3 k hkN)
theorem Bag.all(B:Bag N R m):∀k,k<N->∃x,x.le m/\R k x:=λk hk=>by obtain⟨f,h1,rfl,h3⟩:=B;exact⟨f k,λg o ho=>EY h1 hk ho,h3 k hk⟩
theorem Hp.join_emp(a:Hp):a.join Hp.emp=a:=by funext g;show(match a g with|some o=>some o|none=>none)=a g;cases a g<;>rfl
theorem Hp.emp_join(a:Hp):Hp.emp.join a=a:=rfl
theorem Hp.join_assoc(a b c:Hp):(a.join b).join c=a.join (b.join c):=by funext g;show(match (match a g with|some o=>some o|none=>b g) with|some o=>some o|none=>c g)=(match a g with|some o=>some o|none=>(match b g with|some o=>some o|none=>c g));cases a g<;>rfl
theorem Hp.join_comm{a b:Hp}(h:a.disj b):a.join b=b.join a:=by
 funext g;show(match a g with|some o=>some o|none=>b g)=(match b g with|some o=>some o|none=>a g);rcases h g with h|h<;>rw[h]
 ·cases b g<;>rfl
 ·cases a g<;>rfl
theorem Bp{α:Type}{F:α->List Value}{e:Entry}{Q:Exit->Act->World->Prop}{ops:Array Oper}{rest:List Oper}{o:Oper}{s:AF}{h:Hp}{ms:List Hp}{t el:TypeId}{sz d:Nat}{z:Value}{bytes:Nat}{x y:Operand}{v u:Value}{l r:List α}(i:Nat)(O:OwnL F sz el m v l)(R:RdL F sz h ms u r)(ho:o.op=.call { callee:=.builtin .append,args:=#[x,y],argTypes:=#[t,t] })(ht:e.P.underlying t=some (.slice el))(hs:Elem e.P el sz z bytes)(hzs:z.cells.size=sz)(hsz:0<sz)
  (hx:ev s x=some v) (hy:ev s y=some u) (hm:ms[i]?=some m) (h1:∀a∈r,∀c∈F a,c.oneCell'=true) (hb:(l.length+r.length)*bytes<=140737488355328) (hb63:l.length+r.length<=9223372036854775807) (hd:o.dst=some d) (hn:Nat.blt d e.n=true) (hg:o.guard=none)
  (K:∀v' m',OwnL F sz el m' v' (l++r)->WL e ops Q rest ((d,v')::s) h (ms.set i m')):WL e ops Q (o::rest) s h ms:=
 MQ i ho ht hs hzs hsz hx hy hm O.own R.rd (λc hc=>by obtain⟨a,hm',ha⟩:=List.mem_flatMap.1 hc;exact h1 a hm' c ha) hb hb63 hd hn hg λv' m' O'=>K v' m' ⟨by rw[ag,fg];exact O',O.len⟩
end Go.Eng

namespace Go.Eng
open Go.RowKit
def Goes(ms ms':List Hp):Prop:=∀w0 h0 ms0 w h,Ends w0 h0 ms0 w h ms->Ends w0 h0 ms0 w h ms'
theorem Goes.perm{a b:List Hp}(h:a.Perm b):Goes a b:=λ_ _ _ _ _ x=>x.perm h
variable {c:Code}
def Hp.minus(h m:Hp):Hp:=λg=>match m g with|some _=>none|none=>h g
theorem Hp.minus_le(h m:Hp):(h.minus m).le h:=λg o e=>by
 unfold Hp.minus at e;split at e
 ·cases e
 ·exact e
theorem Hp.le_minus{a h m:Hp}(hl:a.le h)(hd:a.disj m):a.le (h.minus m):=λg o e=>by
 unfold Hp.minus;rcases hd g with h1|h1
 ·rw[h1]at e;cases e
 ·rw[h1];exact hl g o e
theorem Hp.minus_disj(h m:Hp):m.disj (h.minus m):=λg=>by
 unfold Hp.minus;cases hm:m g with
 | none=>exact .inl Y
 | some o=>exact .inr Y
def V7(e:Entry)(m:Hp):Prop:=e.h0.disj m/\∀k,k<e.w0.heap.size->m k≠none->∃m0∈e.ms0,m0 k≠none
theorem AcE{e:Entry}{w:World}{h:Hp}{ms:List Hp}{m:Hp}(H:e.Ends w h (m::ms)):m.disj h/\V7 e m:=
 ⟨H.st.off m bu,And.intro (λg=>by
  rcases H.st.off m bu g with h1|h1
  ·exact .inr h1
  ·left
   cases h2:e.h0 g with
   | none=>rfl
   | some o=>have:=H.le g o h2;rw[h1]at this;cases this) λk hk hne=>H.mnew m bu k hk hne⟩
theorem back{e:Entry}{w:World}{h:Hp}{ms:List Hp}{m:Hp}(L:V7 e m)(hm:m.le h)(H:e.Ends w h ms):e.Ends w (h.minus m) (m::ms):=by
 refine⟨⟨λg o ho=>H.st.imm g o (Hp.minus_le h m g o ho),λx hx=>?_,λx hx=>?_,?_⟩,H.os,H.tape,H.output,H.size,H.block,Hp.le_minus H.le L.1,λk hk hn=>?_,λx hx k hk hne=>?_⟩
 ·rcases aq.1 hx with rfl|hx
  ·exact λg o ho=>H.st.imm g o (hm g o ho)
  ·exact H.st.own x hx
 ·rcases aq.1 hx with rfl|hx
  ·exact Hp.minus_disj h x
  ·intro g;rcases H.st.off x hx g with h1|h1
   ·exact .inl h1
   ·right
    cases h2:h.minus m g with
    | none=>rfl
    | some o=>rw[Hp.minus_le h m g o h2]at h1;cases h1
 ·refine bj.2 ⟨λx hx g=>?_,H.st.apart⟩;rcases H.st.off x hx g with h1|h1
  ·exact .inr h1
  ·left
   cases h2:m g with
   | none=>rfl
   | some o=>rw[hm g o h2]at h1;cases h1
 ·have h1:=H.hnew k hk hn;unfold Hp.minus;cases h2:m k with
  | none=>exact h1
  | some o=>
   obtain⟨m0,hm0,hne⟩:=L.2 k hk (by rw[h2];simp);exact jt (hn m0 hm0) hne
 ·rcases aq.1 hx with rfl|hx
  ·exact L.2 k hk hne
  ·exact H.mnew x hx k hk hne
section
variable {e:Entry} {Q:Exit->Act->World->Prop} {s:AF} {h:Hp} {ms:List Hp} {m:Hp}
theorem EC(i:Nat){m:Hp}(hm:ms[i]?=some m)(k:WS e c Q s h (m::ms.eraseIdx i)):WS e c Q s h ms:=Jk (Df hm) k
theorem N5{ops:Array Oper}{r:List Oper}(i:Nat){m:Hp}(hm:ms[i]?=some m)(k:WL e ops Q r s h (m::ms.eraseIdx i)):WL e ops Q r s h ms:=SY (Df hm) k
theorem CY{x:Exit}(i:Nat){m:Hp}(hm:ms[i]?=some m)(k:NX e Q x s h (m::ms.eraseIdx i)):NX e Q x s h ms:=JD (Df hm) k
theorem GW(k:∀h1,h.le h1->m.le h1->h.disj m->V7 e m->WS e c Q s h1 ms):WS e c Q s h (m::ms):=λa w ha hw=>
 let l:=AcE hw
 k _ (Hp.le_join h m) (Hp.join_le_right l.1) (Hp.disj_symm l.1) l.2 a w ha (Ends.freeze hw)
theorem Ga(L:V7 e m)(hm:m.le h)(k:∀h2,h2.le h->(∀a:Hp,a.le h->a.disj m->a.le h2)->WS e c Q s h2 (m::ms)):WS e c Q s h ms:=λa w ha hw=>
 k _ (Hp.minus_le h m) (λ_ h1 h2=>Hp.le_minus h1 h2) a w ha (back L hm hw)
theorem S5{x:Exit}(L:V7 e m)(hm:m.le h)(k:∀h2,h2.le h->(∀a:Hp,a.le h->a.disj m->a.le h2)->NX e Q x s h2 (m::ms)):NX e Q x s h ms:=λa w ha hw=>
 k _ (Hp.minus_le h m) (λ_ h1 h2=>Hp.le_minus h1 h2) a w ha (back L hm hw)
end
end Go.Eng
namespace Go.Eng
open Go.RowKit
section
variable {κ ν:Type} [DecidableEq κ] {K:κ->Value} {V:ν->Value} {Ok:κ->Prop} {kt et t:TypeId} {g:Nat} {m:Hp} {T:List (κ×ν)} {bs:List Nat}
variable {e:Entry} {Q:Exit->Act->World->Prop} {ops:Array Oper} {rest:List Oper} {o:Oper} {s:AF} {h:Hp} {ms:List Hp}
theorem B4{x y u:Operand}{z:Value}(i:Nat)(a:κ)(y':ν)(L:Of e.P kt K Ok)(O:C4 K V g Ok m T bs)(hm:ms[i]?=some m)(ho:o.op=.mapUpdate t x y u)(ht:e.P.underlying t=some (.map kt et))(hx:ev s x=some (.map (some g)))(hy:ev s y=some (K a))(hu:ev s u=some (V y'))(ha:Ok a)
  (hd:o.dst=none) (hg:o.guard=none) (k:∀m' bs',C4 K V g Ok m' (Dq T a y') bs'->WL e ops Q rest s h (ms.set i m')):WL e ops Q (o::rest) s h ms:=
 Lo (post:=λ_ h' ms'=>∃m' bs',C4 K V g Ok m' (Dq T a y') bs'/\h'=h/\ms'=ms.set i m') (λρ w hρ hw=>by
  obtain⟨es,clock,rfl,he,hb⟩:=O.ex;have hgw:w.heap[g]?=some (.map es clock):=hw.st.own _ (du hm) g _ (Hp.one_self _ _);obtain⟨l,hk⟩:=L.key a ha;have hc:=L.law.check w false hk;have hs:=L.law.stays w hk;rcases IT L O.keys O.ok O.len he w a ha with ⟨h1,h2⟩|⟨j,v,b,h1,h2,h3,h4⟩
  ·have hT:Dq T a y'=T++[(a,y')]:=by unfold Dq;rw[aa h2]
   have hrun:(execOp ρ o).run e.P w=.ok .skip { w with heap:=w.heap.setIfInBounds g (.map (es.push ⟨K a,V y',clock⟩) (clock+1)) }:=by simp only[execOp,ho,hρ _ _ hx,hρ _ _ hy,hρ _ _ hu,Instr.mapUpdate,Sem.run_bind,run_underlying ht,Result.andThen_ok,getObj,Sem.run_pure];simp[Sem.run,hgw,hc,h1,Result.andThen,setObj]
   unfold OpRes;rw[hrun];refine⟨h,_,Ends.turn hw hm,_,bs++[clock],?_,Y,Y⟩;rw[hT];refine⟨⟨_,_,Y,?_,λb hb'=>?_⟩,by simp[O.len],Z6 O.up hb,?_,λp hp=>?_⟩
   ·rw[Array.toList_push,he,Xz T bs O.len,bm];rfl
   ·rcases bf.1 hb' with hb'|hb'
    ·have:=hb b hb';omega
    ·simp at hb';omega
   ·have:=HT O.keys a y';rw[hT]at this;exact this
   ·rcases bf.1 hp with hp|hp
    ·exact O.ok p hp
    ·simp at hp;subst hp;exact ha
  ·have hj4:=(ba.1 h4)
   have hrun:(execOp ρ o).run e.P w=.ok .skip { w with heap:=w.heap.setIfInBounds g (.map (es.modify j λe=>{ e with key:=K a,val:=V y' }) clock) }:=by simp only[execOp,ho,hρ _ _ hx,hρ _ _ hy,hρ _ _ hu,Instr.mapUpdate,Sem.run_bind,run_underlying ht,Result.andThen_ok,getObj,Sem.run_pure];simp[Sem.run,hgw,hc,h1,Result.andThen,setObj,h4,hs]
   unfold OpRes;rw[hrun];refine⟨h,_,Ends.turn hw hm,_,bs,?_,Y,Y⟩;refine⟨⟨_,_,Y,?_,hb⟩,?_,O.up,HT O.keys a y',λp hp=>?_⟩
   ·rw[IP O.keys h2,ZD T bs j _ b h3,List.map_set,<-he];refine List.ext_getElem? λk=>?_;rw[Array.getElem?_toList,Array.getElem?_modify,List.getElem?_set];by_cases hjk:j=k
    ·subst hjk;rw[ac rfl,ac rfl,h4];have:j<es.toList.length:=by simpa using (ba.1 h4).1
     rw[ac this];rfl
    ·rw[aa hjk,aa hjk,Array.getElem?_toList]
   ·rw[IP O.keys h2,e8];exact O.len
   ·rw[IP O.keys h2]at hp;rcases List.mem_or_eq_of_mem_set hp with hp|hp
    ·exact O.ok p hp
    ·subst hp;exact ha) hd hg λv h' ms' ⟨m',bs',e1,e2,e3⟩=>by subst e2 e3;exact k m' bs' e1
end
end Go.Eng
namespace Go.Eng
open Go.RowKit
variable {s:AF} {o:Oper} {h:Hp} {P:Program} {ms:List Hp}
def Flo(ops:Array Oper)(listed:Array Bool)(j d:Nat)(oj:Oper):Prop:=
 ∀i oi,i≠j->listed[i]?=some false->ops[i]?=some oi->oi.dst≠some d/\(∀t,oi.dst=some t->t ∉ oj.looksAt ops)/\(d∈oi.looksAt ops->∃e∈oi.after,Region.binds .any e=true/\e.on=j)/\∀cs b,oi.op≠.select cs b
def Wj:Op->Bool
 | .select ..=>false
 | _=>true
theorem Lv{o:Op}(h:Wj o=true):∀cs b,o≠.select cs b:=λcs b e=>by rw[e]at h;cases h
def Ab9(ops:Array Oper)(L:List Nat)(j d:Nat)(oi:Oper):Bool:=
 (match oi.dst with|none=>true|some t=>!(t==d)&&!(L.contains t))&&(!((oi.looksAt ops).contains d)||oi.after.any (λe=>Region.binds .any e&&e.on==j))&&Wj oi.op
def flo(ops:Array Oper)(listed:Array Bool)(j d:Nat):Bool:=
 match ops[j]? with
 | none=>false
 | some oj=>(oj.dst==some d)&&Wj oj.op&&(Region.ready .any ops listed).contains j&&(range ops.size).all λi=>i==j||listed.getD i true||match ops[i]? with
  | none=>true
  | some oi=>Ab9 ops (oj.looksAt ops) j d oi
theorem Xm{ops:Array Oper}{listed:Array Bool}{j d:Nat}(h:flo ops listed j d=true):∃oj,ops[j]?=some oj/\oj.dst=some d/\(∀cs b,oj.op≠.select cs b)/\j∈Region.ready .any ops listed/\Flo ops listed j d oj:=by
 unfold flo at h;split at h
 ·cases h
 ·rename_i oj hoj;simp only[bo,gk,gv,beq_iff_eq]at h;obtain⟨⟨⟨h2,h3⟩,h4⟩,h5⟩:=h;refine⟨oj,hoj,h2,Lv h3,h4,λi oi hi hl ho=>?_⟩;have:=h5 i (bi.2 (ba.1 ho).1);simp only[ho,Bool.or_eq_true,beq_iff_eq]at this;rcases this with (h6|h6)|h6
  ·exact jt h6 hi
  ·rw[am,hl]at h6;cases h6
  ·unfold Ab9 at h6;simp only[bo]at h6;obtain⟨⟨h7,h8⟩,h9⟩:=h6;refine⟨λe=>?_,λt ht hm=>?_,λhm=>?_,Lv h9⟩
   ·rw[e]at h7;simp at h7
   ·rw[ht]at h7;simp at h7;exact h7.2 hm
   ·simp only[Bool.or_eq_true]at h8;rcases h8 with h8|h8
    ·simp at h8;exact jt hm h8
    ·simp only[Array.any_eq_true',List.any_eq_true,bo,beq_iff_eq]at h8;obtain⟨e,he,h10,h11⟩:=h8;exact⟨e,he,h10,h11⟩
theorem VC{ops:Array Oper}{s':AF}{v:Value}(hsel:∀cs b,o.op≠.select cs b)(hs:∀t∈o.looksAt ops,∀u,lk s t=some u->lk s' t=some u)(k:OX P o s h [] v):OX P o s' h [] v:=λρ w hρ hw=>by
 classical
 unfold OpRes;rw[execOp_congr (ρ:=ρ) (ρ':=λx=>if x∈o.op.operands then ρ x else(ev s x).getD undef) o hsel (λx hx=>(ac hx).symm)];refine k _ w (λx u hu=>?_) hw;show(if x∈o.op.operands then ρ x else(ev s x).getD undef)=u;split
 ·rename_i hx;cases x with
  | tmp t=>exact hρ _ _ (hs t (fe _ (jd.2 ⟨.tmp t,by simpa using hx,rfl⟩)) u hu)
  | const v=>exact hρ _ _ hu
  | global g=>exact hρ _ _ hu
  | func f=>exact hρ _ _ hu
 ·rw[hu];rfl
theorem Oper.wp_sim2{z:AF}{a:Act}{w:World}{K K':Act->World->Prop}{Qb Qc:Exit->Act->World->Prop}(hq:∀x a w,Qb x a w->x=.normal)(hlo:¬LetsOut Qb)(hx:execOp (zA z a).eval o=execOp a.eval o)(hd:∀t,o.dst=some t->lk z t=none)(hK:∀b w v,b.tmps=(a.put o.dst v).tmps->K' (zA z b) w->K b w)
  (h:o.wp P (zA z a) w K' Qb):o.wp P a w K Qc:=by
 unfold Oper.wp at *;rw[hx]at h;generalize (execOp a.eval o).run P w=r at *;have hv:∀v w,K' ((zA z a).put o.dst v) w->K (a.put o.dst v) w:=λv w hh=>hK _ _ v Y (by rw[G5 hd];exact hh);cases r with
 | ok n w'=>
  cases n<;>simp only[Oper.upon]at h ⊢ <;>
   first
    | exact hv _ _ h
    | exact Calls.mono h (λe w'' he=>by
     cases e
     ·exact hv _ _ he
     ·exact jt (hq _ _ _ he) σ
     ·exact jt he hlo)
    | exact Rows.mono h (λ_ _ he=>hv _ _ he)
    | exact hK _ _ undef (by cases o.dst<;>rfl) (by rw[G5 hd];exact h)
 | halt x w'=>cases x<;>simp only[Oper.upon]at h ⊢<;>exact jt (hq _ _ _ h) σ
theorem OX.at{h0:Hp}{v:Value}(k:OX P o s h0 [] v)(hl:h0.le h):OX P o s h ms v:=λρ w hρ hw=>
 k ρ w hρ ⟨λg o e=>hw.imm g o (hl g o e),λm hm=>by simp at hm,λm hm=>by simp at hm,List.Pairwise.nil⟩
def GK(ops:Array Oper)(oj:Oper)(s:AF):Prop:=oj.guard=none\/∃k b ok dk,oj.guard=some (k,b)/\ops[k]?=some ok/\ok.dst=some dk/\lk s dk=some (.bool b)
theorem GK.mono{ops:Array Oper}{oj:Oper}{s':AF}(h:GK ops oj s)(hs:∀t∈oj.looksAt ops,∀u,lk s t=some u->lk s' t=some u):GK ops oj s':=by
 rcases h with h|⟨k,b,ok,dk,h1,h2,h3,h4⟩
 ·exact .inl h
 ·refine .inr ⟨k,b,ok,dk,h1,h2,h3,hs dk ?_ _ h4⟩;unfold Oper.looksAt;refine fq _ ?_;simp[h1,h2,h3]
section
variable {e:Entry} {ops:Array Oper} {Q:Exit->Act->World->Prop} {h0:Hp} {j d:Nat} {v:Value} {oj:Oper}
theorem Aan{rest:List Oper}{Q:Exit->Act->World->Prop}(hG:GK ops oj s)(hx:OX e.P oj s h ms v)(hd:oj.dst=some d)(hn:Nat.blt d e.n=true)(k:WL e ops Q rest ((d,v)::s) h ms):WL e ops Q (oj::rest) s h ms:=by
 rcases hG with h|⟨q,b,ok,dk,h1,h2,h3,h4⟩
 ·exact Ack hx hd hn h k
 ·exact Aam hx hd hn h1 h2 h3 h4 k
theorem Acf(hoj:ops[j]?=some oj)(hdj:oj.dst=some d)(hd:d<e.n)(hsel:∀cs b,oj.op≠.select cs b) :
  ∀n listed s s1 h ms,h0.le h->j∈Region.ready .any ops listed->Flo ops listed j d oj->(∀t u,lk s1 t=some u->lk ((d,v)::s) t=some u)->GK ops oj s->OX e.P oj s h0 [] v->WB e ops Q h0 n (listed.setIfInBounds j true) s1 h ms->WB e ops Q h0 (n+1) listed s h ms:=by
 intro n
 induction n with
 | zero=>
  intro listed s s1 h ms hle hj hF hs hG hx H;refine⟨λhr=>(by rw[hr]at hj;cases hj),λi hi=>?_⟩;by_cases hij:i=j
  ·subst hij;exact⟨oj,hoj,Aan hG (hx.at hle) hdj (Nat.ble_eq_true_of_le hd) (Ak λa w ha hw=>⟨Y,s1,h,ms,⟨ha.defers,ha.size,λt u hu=>ha.slots t u (hs t u hu)⟩,hw,hle,H⟩)⟩
  ·obtain⟨h1',o,ho,hall⟩:=mem_ready.1 hi;have h1:=Bu h1'
   have:i∈Region.ready .any ops (listed.setIfInBounds j true):=mem_ready.2 ⟨by rw[getD_set_ne _ (fw hij)];exact h1',o,ho,λe he hb=>by
    have:=hall e he hb;by_cases hej:j=e.on
    ·rw[<-hej];have hlt:=(ba.1 (Bu (mem_ready.1 hj).1)).1;simp[hlt]
    ·rw[getD_set_ne _ hej];exact this⟩
   rw[H.1]at this;cases this
 | succ n ih=>
  intro listed s s1 h ms hle hj hF hs hG hx H;refine⟨λhr=>(by rw[hr]at hj;cases hj),λi hi=>?_⟩;by_cases hij:i=j
  ·subst hij;exact⟨oj,hoj,Aan hG (hx.at hle) hdj (Nat.ble_eq_true_of_le hd) (Ak λa w ha hw=>⟨Y,s1,h,ms,⟨ha.defers,ha.size,λt u hu=>ha.slots t u (hs t u hu)⟩,hw,hle,H⟩)⟩
  ·obtain⟨h1',o,ho,hall⟩:=mem_ready.1 hi;have h1:=Bu h1';have hjl:=Bu (mem_ready.1 hj).1;have hjlt:=(ba.1 hjl).1
   have hr':i∈Region.ready .any ops (listed.setIfInBounds j true):=mem_ready.2 ⟨by rw[getD_set_ne _ (fw hij)];exact h1',o,ho,λe he hb=>by
    have:=hall e he hb;by_cases hej:j=e.on
    ·rw[<-hej];simp[hjlt]
    ·rw[getD_set_ne _ hej];exact this⟩
   obtain⟨f1,f2,f3,f4⟩:=hF i o hij h1 ho
   have f3':d ∉ o.looksAt ops:=λhm=>by obtain⟨e,he,hb,hon⟩:=f3 hm;have:=hall e he hb;rw[hon,am,hjl]at this;cases this
   obtain⟨o',ho',HW⟩:=H.2 i hr';rw[ho]at ho';cases ho';refine⟨o,ho,λa w ha hw=>?_⟩
   have hza:∀(b:Act) t,t≠d->(zA [(d,v)] b).tmps[t]?=b.tmps[t]?:=λb t ht=>by rw[Fp,BF _ _ (fw ht)];cases b.tmps[t]?<;>rfl
   have hzd:∀(b:Act),d<b.tmps.size->(zA [(d,v)] b).tmps[d]?=some v:=λb hb=>by rw[Fp,BL];simp[hb]
   have haz:Has e.n e.ds (zA [(d,v)] a) s1:=⟨ha.defers,by simp[zA,ha.size],λt u hu=>by
    have:=hs t u hu;by_cases htd:d=t
    ·subst htd;rw[BL]at this;cases this;exact hzd a (by rw[ha.size];exact hd)
    ·rw[BF _ _ htd]at this;rw[hza a t (fw htd)];exact ha.slots t u this⟩
   have H':=HW (zA [(d,v)] a) w haz hw;unfold wpList at H' ⊢;have hsame:∀t∈o.looksAt ops,(zA [(d,v)] a).tmps[t]?=a.tmps[t]?:=λt ht=>hza a t (λe'=>f3' (e' ▸ ht))
   have hx':execOp (zA [(d,v)] a).eval o=execOp a.eval o:=execOp_congr o f4 λx hx=>by
    cases x with
    | tmp t=>
     have:=hsame t (fe _ (jd.2 ⟨.tmp t,by simpa using hx,rfl⟩));simp only[Act.eval];rw[am,this,<-am]
    | const v=>rfl
    | global g=>rfl
    | func f=>rfl
   have hwant:Region.wanted o (yielded ops (zA [(d,v)] a).tmps)=Region.wanted o (yielded ops a.tmps):=by
    unfold Region.wanted;cases hg:o.guard with
    | none=>rfl
    | some p=>
     obtain⟨k,b⟩:=p
     have:yielded ops (zA [(d,v)] a).tmps k=yielded ops a.tmps k:=by
      unfold yielded;cases hd:(ops[k]?).bind (·.dst) with
      | none=>rfl
      | some t=>
       have ht:t∈o.looksAt ops:=by unfold Oper.looksAt;refine fq _ ?_;simp only[hg];rw[hd];simp
       simp[hd,hsame t ht]
     simp only[this]
   rw[hwant]at H'
   have hdz:∀t,o.dst=some t->lk [(d,v)] t=none:=λt ht=>by rw[BF _ _ (λe'=>f1 (by rw[ht,e']))];rfl
   have hnext:∀b w v',b.tmps=(a.put o.dst v').tmps->(QB e ops Q h0 n ((listed.setIfInBounds j true).setIfInBounds i true)) .normal (zA [(d,v)] b) w->(QB e ops Q h0 (n+1) (listed.setIfInBounds i true)) .normal b w:=λb w v' hbt hh=>by
    obtain⟨-,s',h',ms',g1,g2,g3,g4⟩:=hh
    have hbget:∀t,o.dst≠some t->b.tmps[t]?=a.tmps[t]?:=λt ht=>by
     rw[hbt];cases hd:o.dst with
     | none=>rfl
     | some d'=>
      have:d'≠t:=λe'=>ht (by rw[hd,e']);simp only[Act.put,cw this]
    have hbs:b.tmps.size=a.tmps.size:=by rw[hbt];cases o.dst<;>simp[Act.put]
    have hbn:b.tmps.size=e.n:=by rw[hbs,ha.size]
    let L:=oj.looksAt ops
    have hlf:∀(p:Nat->Bool) (s:AF) t,lk (s.filter (λx=>p x.1)) t=if p t=true then lk s t else none:=by
     intro p s t
     induction s with
     | nil=>simp[lk]
     | cons x s ih=>
      obtain⟨y,u⟩:=x;by_cases hy:p y=true
      ·rw[List.filter_cons_of_pos (by exact hy)];by_cases hyt:y=t
       ·subst hyt;rw[BL,BL,ac hy]
       ·rw[BF _ _ hyt,BF _ _ hyt,ih]
      ·rw[List.filter_cons_of_neg (by exact hy),ih];by_cases hyt:y=t
       ·subst hyt;rw[aa hy,aa hy]
       ·rw[BF _ _ hyt]
    let sL:=s.filter (λx=>L.contains x.1)
    let sR:=s'.filter (λx=>!(x.1==d))
    have hL:∀t u,lk sL t=some u->t∈L/\lk s t=some u:=λt u hu=>by
     rw[hlf (λt=>L.contains t)]at hu;split at hu
     ·rename_i hc;exact⟨gv.1 hc,hu⟩
     ·cases hu
    have hLb:∀t u,lk sL t=some u->b.tmps[t]?=some u:=λt u hu=>by obtain⟨k1,k2⟩:=hL t u hu;rw[hbget t (λe'=>f2 t e' k1)];exact ha.slots t u k2
    have hR:∀t,t≠d->lk sR t=lk s' t:=λt ht=>by rw[hlf (λt=>!(t==d))];simp[ht]
    have hRd:lk sR d=none:=by rw[hlf (λt=>!(t==d))];simp
    have hb':∀t u,t≠d->lk s' t=some u->b.tmps[t]?=some u:=λt u ht hu=>by rw[<-hza b t ht];exact g1.slots t u hu
    refine⟨Y,sL++sR,h',ms',⟨g1.defers,hbn,λt u hu=>?_⟩,g2,g3,?_⟩
    ·rw[CJ]at hu;cases hl:lk sL t with
     | some u'=>rw[hl]at hu;cases hu;exact hLb t _ hl
     | none=>
      rw[hl]at hu;have htd:t≠d:=λe'=>by subst e';simp only[Option.none_or]at hu;rw[hRd]at hu;cases hu
      simp only[Option.none_or]at hu;rw[hR t htd]at hu;exact hb' t u htd hu
    ·refine ih (listed.setIfInBounds i true) (sL++sR) s' h' ms' g3 ?_ ?_ ?_ ?_ ?_ (by rw[Array.setIfInBounds_comm _ _ hij];exact g4)
     ·obtain⟨_,oj',hoj',hall'⟩:=mem_ready.1 hj;refine mem_ready.2 ⟨by rw[getD_set_ne _ hij];exact(mem_ready.1 hj).1,oj',hoj',λed he hb=>?_⟩;have:=hall' ed he hb;by_cases hei:i=ed.on
      ·rw[<-hei];have:=(ba.1 h1).1;simp[this]
      ·rw[getD_set_ne _ hei];exact this
     ·intro k ok hk hl hok;refine hF k ok hk ?_ hok;by_cases hki:i=k
      ·subst hki;have:=(ba.1 h1).1;simp[this]at hl
      ·rw[cw hki]at hl;exact hl
     ·intro t u hu;by_cases htd:d=t
      ·subst htd;have k1:=g1.slots _ u hu;rw[hzd b (by rw[hbn];exact hd)]at k1;rw[BL];exact k1
      ·rw[BF _ _ htd,CJ];cases hl:lk sL t with
       | some u'=>
        have k1:=hLb t u' hl;rw[hb' t u (fw htd) hu]at k1;simpa using k1.symm
       | none=>rw[hR t (fw htd)];simpa using hu
     ·have hlk:∀t∈oj.looksAt ops,∀u,lk s t=some u->lk (sL++sR) t=some u:=λt ht u hu=>by
       rw[CJ];have:lk sL t=some u:=by rw[hlf (λt=>L.contains t),ac (gv.2 ht)];exact hu
       rw[this];rfl
      exact hG.mono hlk
     ·refine VC (ops:=ops) hsel (λt ht u hu=>?_) hx;rw[CJ];have:lk sL t=some u:=by rw[hlf (λt=>L.contains t),ac (gv.2 ht)];exact hu
      rw[this];rfl
   split
   ·rename_i hw';rw[ac hw']at H';rcases H' with H'|⟨_,H'⟩
    ·exact .inl (Oper.wp_sim2 (λx a w h=>h.1) NJ hx' hdz (λb w v hb hh=>hnext b w v hb hh) H')
    ·exact jt H' NJ
   ·rename_i hw';rw[aa hw']at H';exact hnext _ _ undef Y (by rw[G5 hdz];exact H')
theorem Bd{n:Nat}{listed:Array Bool}(j d:Nat)(hF:flo ops listed j d=true)(hoj:ops[j]?=some o)(hle:h0.le h)(hn:Nat.blt d e.n=true)(hx:OX e.P o s h0 [] v)(k:WB e ops Q h0 n (listed.setIfInBounds j true) ((d,v)::s) h ms)(hg:o.guard=none:=by rfl):WB e ops Q h0 (n+1) listed s h ms:=by obtain⟨oj,g1,g3,g4,g5,g6⟩:=Xm hF;rw[hoj]at g1;cases g1;exact Acf hoj g3 (dd hn) g4 n listed s _ h ms hle g5 g6 (λt u hu=>hu) (.inl hg) hx k
end
end Go.Eng
namespace Go.Eng
open Go.RowKit
theorem XK(g k:Nat):(⟨g,0,none⟩:Addr).add k=⟨g,k,none⟩:=by unfold Addr.add;split<;>simp_all
theorem OK{α:Type}{F:α->List Value}{sz:Nat}(hF:∀x,(F x).length=sz){l:List α}{j:Nat}(hj:j<l.length)(a:α):(l.flatMap F).take (j*sz)++F a++(l.flatMap F).drop (j*sz+sz)=(l.set j a).flatMap F:=by
 have e:j*sz+sz=(j+1)*sz:=by rw[d5,iv]
 rw[e,GM hF,FA hF,List.set_eq_take_append_cons_drop,ac hj,fg,fp,bp]
section
variable {e:Entry} {Q:Exit->Act->World->Prop} {ops:Array Oper} {rest:List Oper} {o:Oper} {s:AF} {h:Hp} {ms:List Hp} {α:Type} {F:α->List Value} {l:List α} {v:Value} {m:Hp} {el:TypeId} {sz:Nat}
theorem FX{t:TypeId}{x y:Operand}{u z:Value}{bytes:Nat}(i j:Nat)(a:α)(O:OwnL F sz el m v l)(ho:o.op=.store t x y)(hs:Elem e.P t sz z bytes)(hx:ev s x=some (.pointer (some ((AG v).add (j*sz)))))(hy:ev s y=some u)(hv:u.cells=(F a).toArray)(h1:∀c∈F a,c.oneCell'=true)
  (hm:ms[i]?=some m) (hj:j<l.length) (hd:o.dst=none) (hg:o.guard=none)
  (K:∀m',OwnL F sz el m' v (l.set j a)->WL e ops Q rest s h (ms.set i m')):WL e ops Q (o::rest) s h ms:=by
 obtain⟨⟨h2,h3⟩,hF⟩:=O;rcases h3 with ⟨rfl,h4,rfl⟩|⟨g,cap,spare,rfl,rfl,e1,e2,e3⟩
 ·rw[h4]at hj;simp at hj
 ·have hle:(j+1)*sz<=l.length*sz:=d7 sz hj;have hjs:j*sz+sz=(j+1)*sz:=by rw[d5,iv]
  have hFa:=hF a;refine Lo (post:=λ_ h' ms'=>h'=h/\ms'=ms.set i (Bh g el ((l.set j a).flatMap F++spare))) (λρ w hρ hw=>?_) hd hg λ_ _ _ ⟨e4,e5⟩=>?_
  ·have hgw:w.heap[g]?=some (.cells (l.flatMap F++spare).toArray el (0,0)):=hw.st.own _ (du hm) g _ (Hp.one_self _ _);have hst:=run_storeCells_at (P:=e.P) g (j*sz) el (F a) 0 _ w hgw (by simp only[iw,ag];omega) h1
   have hadd:(AG (.slice (some ⟨g,0,none⟩) l.length cap)).add (j*sz)=⟨g,j*sz,none⟩:=by show(⟨g,0,none⟩:Addr).add (j*sz)=_;exact XK g (j*sz)
   have hrow:(l.flatMap F++spare).take (j*sz)++F a++(l.flatMap F++spare).drop (j*sz+sz)=(l.set j a).flatMap F++spare:=by rw[List.take_append_of_le_length ω,List.drop_append_of_le_length ω,<-bp,OK hF hj]
   have:(execOp ρ o).run e.P w=.ok .skip (w.setRow g ((l.set j a).flatMap F++spare).toArray):=by simp[execOp,ho,hρ _ _ hx,hρ _ _ hy,Instr.storeAt,Instr.sureAddr,storeVar,hs.sizeOf,hv,hFa,hadd];simp at hst;rw[hFa]at hst;rw[hst,<-bp,hrow];rfl
   unfold OpRes;rw[this];exact⟨h,_,Ends.put hw hm Y ⟨Y,au _⟩ Y σ (setRow_heap w g _ _ _ _ hgw) (λk hk hne=>setRow_other w g k _ hne),rfl,rfl⟩
  ·subst e4 e5;refine K _ ⟨⟨?_,.inr ⟨g,cap,spare,by rw[e8],rfl,?_,by rw[e8];omega,e3⟩⟩,hF⟩
   ·rw[Bv hF,e8]
   ·rw[ag,Bv hF,e8,<-Bv hF l,<-ag];exact e1
end
end Go.Eng
namespace Go.Eng
open Go.RowKit
section
variable {κ ν:Type} [DecidableEq κ] {K:κ->Value} {V:ν->Value} {Ok:κ->Prop} {P:Program} {t:TypeId} {gi g:Nat} {m mi:Hp} {T:List (κ×ν)} {bs vis:List Nat}
variable {o:Oper} {s:AF} {h:Hp} {ms:List Hp} {e:Entry} {Q:Exit->Act->World->Prop} {ops:Array Oper} {rest:List Oper}
theorem JN{x:Operand}{d:Nat}{kt et:TypeId}(O:C4 K V g Ok m T bs)(hm:m.le h)(ho:o.op=.range t x)(ht:e.P.underlying t=some (.map kt et))(hx:ev s x=some (.map (some g)))(hd:o.dst=some d)(hn:Nat.blt d e.n=true)(hg:o.guard=none)
  (k:∀gi mi,Ig gi g m mi bs []->WL e ops Q rest ((d,.pt gi)::s) h (mi::ms)):WL e ops Q (o::rest) s h ms:=
 Ix (post:=λv h' ms'=>∃gi mi,Ig gi g m mi bs []/\v=.pt gi/\h'=h/\ms'=mi::ms) (λρ w hρ hw=>by
  obtain⟨es,clock,rfl,he,hb⟩:=O.ex;have hgw:w.heap[g]?=some (.map es clock):=hw.st.imm g _ (hm g _ (Hp.one_self _ _))
  have hrun:(execOp ρ o).run e.P w=.ok (.value (.pointer (some ⟨w.heap.size,0,none⟩))) (w.alloc (.mapIter (some g) clock #[] clock)):=by simp only[execOp,ho,hρ _ _ hx,Instr.range,Sem.run_bind,run_underlying ht,Result.andThen_ok,getObj,Sem.run_pure];simp[Sem.run,hgw,Result.andThen,newObj]
  unfold OpRes;rw[hrun]
  exact⟨h,_,Ends.alloc hw _,_,_,⟨⟨es,clock,clock,#[],clock,Y,Y,hb,au _,au _,Y,λh=>jt Y h⟩,by simp,List.Pairwise.nil⟩,rfl,rfl,rfl⟩) hd hn hg λv h' ms' ⟨gi,mi,e1,e2,e3,e4⟩=>by subst e2 e3 e4;exact k gi mi e1
theorem Ln{x:Operand}{d:Nat}(i:Nat)(O:C4 K V g Ok m T bs)(I:Ig gi g m mi bs vis)(hm:m.le h)(hi:ms[i]?=some mi)(ho:o.op=.next x false)(hx:ev s x=some (.pointer (some ⟨gi,0,none⟩)))(hd:o.dst=some d)(hn:Nat.blt d e.n=true)(hg:o.guard=none)
  (k0:(∀j,j<T.length->j∈vis)->WL e ops Q rest ((d,.tuple #[.bool false])::s) h ms)
  (k1:∀(j:Nat) (hj:j<T.length) (mi':Hp),j ∉ vis->Ig gi g m mi' bs (vis++[j])->WL e ops Q rest ((d,.tuple #[.bool true,K T[j].1,V T[j].2])::s) h (ms.set i mi')):WL e ops Q (o::rest) s h ms:=
 Ix (post:=λv h' ms'=>(v=.tuple #[.bool false]/\h'=h/\ms'=ms/\∀j,j<T.length->j∈vis)\/∃(j:Nat) (hj:j<T.length) (mi':Hp),j ∉ vis/\Ig gi g m mi' bs (vis++[j])/\v=.tuple #[.bool true,K T[j].1,V T[j].2]/\h'=h/\ms'=ms.set i mi') (λρ w hρ hw=>by
  obtain⟨es,clock,rfl,he,hb⟩:=O.ex;obtain⟨es',clock',since,seen,last,e1,rfl,i1,i2,i3,i4,i5⟩:=I.ex;have e1:=SH e1;cases e1;have hgw:w.heap[g]?=some (.map es clock):=hw.st.imm g _ (hm g _ (Hp.one_self _ _));have hiw:w.heap[gi]?=some (.mapIter (some g) since seen last):=hw.st.own _ (du hi) gi _ (Hp.one_self _ _)
  have hent:∀x∈es.toList,∃(j:Nat) (hj:j<T.length) (hjb:j<bs.length),x=ent K V (T[j],bs[j]):=λx hx=>by rw[he]at hx;obtain⟨p,hp,rfl⟩:=ad.1 hx;obtain⟨j,hj⟩:=List.getElem?_of_mem hp;obtain⟨z1,z2⟩:=List.getElem?_zip_eq_some.1 hj;obtain⟨j1,j2⟩:=bg.1 z1;obtain⟨k1,k2⟩:=bg.1 z2;exact⟨j,j1,k1,by rw[j2,k2]⟩
  have hin:∀(j:Nat) (hj:j<T.length) (hjb:j<bs.length),ent K V (T[j],bs[j])∈es.toList:=λj hj hjb=>by rw[he];exact ad.2 ⟨(T[j],bs[j]),du (i:=j) (List.getElem?_zip_eq_some.2 ⟨ah hj,ah hjb⟩),Y⟩
  have hseen:∀b,seen.contains b=true<->∃j∈vis,bs[j]?.getD 0=b:=λb=>by rw[Array.contains_iff_mem,<-Array.mem_toList_iff,i4,ad]
  rcases run_next_at (P:=e.P) w o.type gi g since last seen es clock hiw hgw (λx hx=>by
   obtain⟨j,hj,hjb,rfl⟩:=hent x hx
   exact i1 _ (List.getElem_mem hjb)) i2 with ⟨h1,h2⟩|⟨x,h1,w1,h2,h3⟩
  ·have hrun:(execOp ρ o).run e.P w=.ok (.value (.tuple #[.bool false])) w:=by
    simp only[execOp,ho,hρ _ _ hx,Sem.run_bind,h2,Result.andThen_ok,Sem.run_pure]
   unfold OpRes;rw[hrun];refine⟨h,ms,hw,.inl ⟨Y,Y,Y,λj hj=>?_⟩⟩;have hjb:j<bs.length:=by rw[O.len];exact hj
   have hmem:=hin j hj hjb
   have hc:seen.contains bs[j]=true:=by
    cases hcc:seen.contains bs[j] with
    | true=>rfl
    | false=>
     have:ent K V (T[j],bs[j])∈leftOf es seen:=by unfold leftOf;rw[Array.mem_filter];exact⟨Array.mem_toList_iff.1 hmem,by show(!seen.contains bs[j])=true;rw[hcc];rfl⟩
     rw[Array.size_eq_zero_iff.1 h1]at this;simp at this
   obtain⟨j',hj',e2⟩:=(hseen _).1 hc;have hj'b:=I.lt j' hj';rw[ah hj'b]at e2;have:j'=j:=AaF O.up (ah hj'b) (by rw[ah hjb];exact aw some e2.symm);subst this;exact hj'
  ·unfold leftOf at h1;have h1:=Array.mem_filter.1 (Array.mem_toList_iff.1 h1);obtain⟨j,hj,hjb,rfl⟩:=hent x (Array.mem_toList_iff.2 h1.1)
   have hjv:j ∉ vis:=λhv=>by have:seen.contains bs[j]=true:=(hseen _).2 ⟨j,hv,by rw[ah hjb];rfl⟩;have h4:=h1.2;simp only[ent]at h4;rw[this]at h4;cases h4
   have hrun:(execOp ρ o).run e.P w=.ok (.value (.tuple #[.bool true,K T[j].1,V T[j].2])) (ChangeMaps.setBlock w1 gi (.mapIter (some g) since (seen.push bs[j]) clock)):=by simp only[execOp,ho,hρ _ _ hx,Sem.run_bind,h3,Result.andThen_ok,Sem.run_pure,ent]
   unfold OpRes;rw[hrun]
   have hw1:e.Ends w1 h ms:=by
    rcases h2 with rfl|rfl
    ·exact hw
    ·exact Ends.drew hw
   refine⟨h,_,Ends.turn hw1 hi,.inr ⟨j,hj,_,hjv,⟨⟨es,clock,since,seen.push bs[j],clock,Y,Y,i1,i3,i3,?_,λ_=>rfl⟩,λi hi=>?_,?_⟩,Y,Y,Y⟩⟩
   ·rw[Array.toList_push,i4,bm];simp[ah hjb]
   ·rcases bf.1 hi with hi|hi
    ·exact I.lt i hi
    ·simp at hi;subst hi;exact hjb
   ·exact jh.2 ⟨I.nodup,by simp,λa ha b hb e=>by simp at hb;subst hb;subst e;exact hjv ha⟩) hd hn hg λv h' ms' hp=>by
  rcases hp with ⟨e1,e2,e3,e4⟩|⟨j,hj,mi',e1,e2,e3,e4,e5⟩
  ·subst e1 e2 e3;exact k0 e4
  ·subst e3 e4 e5;exact k1 j hj mi' e1 e2
theorem Kb{x:Operand}{j:Nat}(O:C4 K V g Ok m T bs)(I:Ig gi g m mi bs (vis++[j]))(hm:m.le h)(hi:mi∈ms)(hj:j<T.length)(ho:o.op=.entry x)(hx:ev s x=some (.pointer (some ⟨gi,0,none⟩))):OX P o s h ms (.tuple #[K T[j].1,V T[j].2]):=
 BJ λρ w hρ hw=>by
  obtain⟨es,clock,rfl,he,hb⟩:=O.ex;obtain⟨es',clock',since,seen,last,e1,rfl,i1,i2,i3,i4,i5⟩:=I.ex;have e1:=SH e1;cases e1;have hl:last=clock:=i5 σ;subst hl;have hgw:w.heap[g]?=some (.map es last):=hw.imm g _ (hm g _ (Hp.one_self _ _));have hjb:j<bs.length:=by rw[O.len];exact hj
  have hs:seen=(vis.map λj=>bs[j]?.getD 0).toArray.push bs[j]:=by apply Array.toList_inj.1;rw[i4,Array.toList_push,bm];simp[ah hjb]
  have hiw:w.heap[gi]?=some (.mapIter (some g) since ((vis.map λj=>bs[j]?.getD 0).toArray.push (ent K V (T[j],bs[j])).born) last):=by have:=hw.own _ hi gi _ (Hp.one_self _ _);rw[hs]at this;exact this
  have hmem:ent K V (T[j],bs[j])∈es.toList:=by rw[he];exact ad.2 ⟨(T[j],bs[j]),du (i:=j) (List.getElem?_zip_eq_some.2 ⟨ah hj,ah hjb⟩),Y⟩
  have hn:(es.toList.map (·.born)).Nodup:=by rw[he,fk];have:(MapEntry.born∘ent K V)=(Prod.snd:(κ×ν)×Nat->Nat):=rfl;rw[this,List.map_snd_zip (by rw[O.len];exact au _)];exact O.up.imp λh=>Nat.ne_of_lt h
  have:=run_entry_at (P:=P) w gi g since _ es last _ hiw hgw hmem hn;simp only[execOp,ho,hρ _ _ hx,Sem.run_bind,this,Result.andThen_ok,Sem.run_pure,ent]
theorem LR{kt et:TypeId}{x y:Operand}{z:ν}(a:κ)(L:Of P kt K Ok)(O:C4 K V g Ok m T bs)(hm:m.le h)(ho:o.op=.lookup t x y false)(ht:P.underlying t=some (.map kt et))(hz:∀w,(zeroValue et).run P w=.ok (V z) w)(hx:ev s x=some (.map (some g)))(hy:ev s y=some (K a))(ha:Ok a) :
  OX P o s h ms (V ((Bz T a).getD z)):=
 BJ λρ w hρ hw=>by
  obtain⟨es,clock,rfl,he,hb⟩:=O.ex;have hgw:w.heap[g]?=some (.map es clock):=hw.imm g _ (hm g _ (Hp.one_self _ _));obtain⟨l,hk⟩:=L.key a ha;have hc:=L.law.check w es.isEmpty hk;rcases IT L O.keys O.ok O.len he w a ha with ⟨h1,h2⟩|⟨j,u,b,h1,h2,_,_⟩
  ·rw[Dl h2];simp only[execOp,ho,hρ _ _ hx,hρ _ _ hy,Instr.lookup,Sem.run_bind,run_underlying ht,Result.andThen_ok,getObj,Sem.run_pure,h1,hz];simp[Sem.run,hgw,hc,h1,hz,Result.andThen]
  ·rw[EG O.keys h2];simp only[execOp,ho,hρ _ _ hx,hρ _ _ hy,Instr.lookup,Sem.run_bind,run_underlying ht,Result.andThen_ok,getObj,Sem.run_pure,h1,hz];simp[Sem.run,hgw,hc,h1,hz,Result.andThen]
end
end Go.Eng
namespace Go.Eng
open Go.RowKit Go.Sort
variable {w:World}
theorem Ext.grown{w':World}(e:Ext w w'):∃q os',w'=grow (w.drewN q) os':=by
 refine⟨w'.drawn-w.drawn,w'.heap.extract w.heap.size w'.heap.size,?_⟩
 have hh:w'.heap=w.heap++w'.heap.extract w.heap.size w'.heap.size:=by
  apply gx;intro i;rcases eh i w.heap.size with h|h
  ·rw[jo h,e.block i h]
  ·rw[Array.getElem?_append_right h];rcases eh i w'.heap.size with h2|h2
   ·simp[Array.getElem?_extract];rw[ac ω];congr 1;omega
   ·rw[je h2]
    symm
    apply je;simp;omega
 have hd:w'.drawn=w.drawn+(w'.drawn-w.drawn):=by have:=e.tape.drawn;omega
 have h1:=e.os;have h2:=e.tape.tape;have h3:=e.output;obtain⟨heap,tape,drawn,os,output⟩:=w';obtain⟨heap',tape',drawn',os',output'⟩:=w;simp only at *;subst h1 h2 h3;simp only[grow,World.drewN,World.mk.injEq,true_and,and_true];exact⟨hh,hd⟩
section
variable {α:Type} [Inhabited α] {enc:α->List Value} {k:Nat}
theorem J5(hk:∀x,(enc x).length=k)(hk0:0<k)(d:Array α){t:Nat}(ht:t<d.size*k):(d.toList.flatMap enc)[t]?=some (flatK enc k d)[t]!:=by
 have hj:t/k<d.size:=Nat.div_lt_of_lt_mul (by rw[fv];exact ht);have hm:=Nat.mod_lt t hk0;rw[get_flatK enc k d t ht]
 have h1:=Fg hk d.toList (t/k) (by simpa using hj) (t%k) ((enc d[t/k]!)[t%k]!) (by
  have e:d.toList[t/k]'(by simpa using hj)=d[t/k]!:=by simp[hj]
  rw[e];have:t%k<(enc d[t/k]!).length:=by rw[hk];exact hm
  simp[this])
 rwa [fv,Nat.div_add_mod]at h1
theorem Vv(hk:∀x,(enc x).length=k)(hk0:0<k)(d d':Array α)(hs:d'.size=d.size)(spare:List Value):putCells id 0 (flatK enc k d') (d.toList.flatMap enc++spare).toArray=(d'.toList.flatMap enc++spare).toArray:=by
 have l1:(d.toList.flatMap enc).length=d.size*k:=by rw[Bv hk];simp
 have l2:(d'.toList.flatMap enc).length=d.size*k:=by rw[Bv hk];simp[hs]
 apply gx;intro t;unfold putCells;rw[Array.getElem?_mapIdx,gu,gu];rcases eh t (d.size*k) with h|h
 ·rw[dw ω,dw ω,J5 hk hk0 d h,J5 hk hk0 d' (by rw[hs];exact h)];simp only[Option.map_some];rw[ac ⟨Nat.zero_le _,by rw[size_flatK,hs];omega⟩];rfl
 ·rw[List.getElem?_append_right ω,List.getElem?_append_right ω,l1,l2];cases spare[t-d.size*k]? with
  | none=>rfl
  | some u=>
   simp only[Option.map_some];rw[aa];rw[size_flatK,hs];omega
theorem TY{g:Nat}{el:TypeId}(hk:∀x,(enc x).length=k)(hk0:0<k)(d:Array α)(spare:List Value)(hg:w.heap[g]?=some (.cells (d.toList.flatMap enc++spare).toArray el (0,0))):HoldsK enc k w g 0 d:=by
 intro j hj;rw[size_flatK]at hj;have l1:(d.toList.flatMap enc).length=d.size*k:=by rw[Bv hk];simp
 have h1:=J5 hk hk0 d hj;constructor
 ·have:(d.toList.flatMap enc++spare)[j]?=some (flatK enc k d)[j]!:=by rw[dw ω];exact h1
  simp[World.cell?,hg,this]
 ·simp[World.frozen?,hg]
end
theorem M1{α:Type}[Inhabited α]{enc:α->List Value}{k:Nat}{h:Hp}{g n:Nat}{el:TypeId}(hk:∀x,(enc x).length=k)(hk0:0<k)(d d':Array α)(hs:d'.size=d.size)(spare:List Value)(os:Array Obj)(hS:St w h [Bh g el (d.toList.flatMap enc++spare)]) :
  Ends w h [Bh g el (d.toList.flatMap enc++spare)] (Go.Proofs.sortWorldK enc k w g 0 n d' os) h [Bh g el (d'.toList.flatMap enc++spare)]:=by
 have hg:w.heap[g]?=some (.cells (d.toList.flatMap enc++spare).toArray el (0,0)):=hS.own _ (ao.2 Y) g _ (Hp.one_self _ _);have hlt:=(ba.1 hg).1;have hv:=(ba.1 hg).2;have hsz:(putRowK enc k (Go.Sort.ahead w n) g 0 d').heap.size=w.heap.size:=by simp[putRowK,putRow,mapBlock,ahead]
 have hg':(putRowK enc k (Go.Sort.ahead w n) g 0 d').heap[g]?=some (.cells (d'.toList.flatMap enc++spare).toArray el (0,0)):=by show(w.heap.modify g (onCells (putCells id 0 (flatK enc k d'))))[g]?=_;rw[Array.getElem?_eq_getElem (by simpa using hlt),Array.getElem_modify];simp[hv,onCells,Vv hk hk0 d d' hs spare]
 have ho':∀j,j<w.heap.size->j≠g->(putRowK enc k (Go.Sort.ahead w n) g 0 d').heap[j]?=w.heap[j]?:=λj _ hne=>by show(w.heap.modify g (onCells (putCells id 0 (flatK enc k d'))))[j]?=_;simp[Array.getElem?_modify,fw hne]
 refine Ends.change (Ends.refl hS) Y ⟨Y,?_⟩ Y ?_ ?_ ?_
 ·show w.drawn<=w.drawn+n;omega
 ·show w.heap.size<=((putRowK enc k (Go.Sort.ahead w n) g 0 d').heap++os).size;rw[Array.size_append,hsz];omega
 ·show((putRowK enc k (Go.Sort.ahead w n) g 0 d').heap++os)[g]?=_;rw[jo (by rw[hsz];exact hlt),hg']
 ·intro j hj hne;show((putRowK enc k (Go.Sort.ahead w n) g 0 d').heap++os)[j]?=_;rw[jo (by rw[hsz];exact hj),ho' j hj hne]
end Go.Eng
namespace Go.Eng
open Go.RowKit
variable {m:Hp}
section
variable {e:Entry} {Q:Exit->Act->World->Prop} {ops:Array Oper} {rest:List Oper} {o:Oper} {s:AF} {h:Hp} {ms:List Hp}
theorem O9{t el:TypeId}{x y:Operand}{v z:Value}{sz bytes g:Nat}{l:List Value}(i k:Nat)(vl:List Value)(ho:o.op=.store t x y)(hs:Elem e.P t sz z bytes)(hx:ev s x=some (.pointer (some ((⟨g,0,none⟩:Addr).add k))))(hy:ev s y=some v)(hv:v.cells=vl.toArray)(hl:vl.length=sz)(h1:∀u∈vl,u.oneCell'=true)
  (hm:ms[i]?=some (Bh g el l)) (hk:k+sz<=l.length) (hd:o.dst=none) (hg:o.guard=none)
  (K:WL e ops Q rest s h (ms.set i (Bh g el (l.take k++vl++l.drop (k+sz))))):WL e ops Q (o::rest) s h ms:=by
 refine Lo (post:=λ_ h' ms'=>h'=h/\ms'=ms.set i (Bh g el (l.take k++vl++l.drop (k+sz)))) (λρ w hρ hw=>?_) hd hg λ_ _ _ ⟨e4,e5⟩=>by subst e4 e5;exact K
 subst hl;have hgw:w.heap[g]?=some (.cells l.toArray el (0,0)):=hw.st.own _ (du hm) g _ (Hp.one_self _ _);have hst:=run_storeCells_at (P:=e.P) g k el vl 0 _ w hgw (by simp only[iw];omega) h1
 have:(execOp ρ o).run e.P w=.ok .skip (w.setRow g (l.take k++vl++l.drop (k+vl.length)).toArray):=by simp[execOp,ho,hρ _ _ hx,hρ _ _ hy,Instr.storeAt,Instr.sureAddr,storeVar,hs.sizeOf,hv,XK];simp at hst;rw[hst];rfl
 unfold OpRes;rw[this];exact⟨h,_,Ends.put hw hm Y ⟨Y,au _⟩ Y σ (setRow_heap w g _ _ _ _ hgw) (λk hk hne=>setRow_other w g k _ hne),rfl,rfl⟩
theorem Bx{c:Code}(k:∀h',h.le h'->m.le h'->WS e c Q s h' ms):WS e c Q s h (m::ms):=
 λa w ha hw=>k _ (Hp.le_join _ _) (Hp.join_le_right (hw.st.off m bu)) a w ha (Ends.freeze hw)
theorem AK{r:List Oper}(k:∀h',h.le h'->m.le h'->WL e ops Q r s h' ms):WL e ops Q r s h (m::ms):=
 λa w ha hw=>k _ (Hp.le_join _ _) (Hp.join_le_right (hw.st.off m bu)) a w ha (Ends.freeze hw)
theorem IH{x:Exit}(k:∀h',h.le h'->m.le h'->NX e Q x s h' ms):NX e Q x s h (m::ms):=
 λa w ha hw=>k _ (Hp.le_join _ _) (Hp.join_le_right (hw.st.off m bu)) a w ha (Ends.freeze hw)
end
end Go.Eng

namespace Go.Eng
open Go.RowKit
theorem Aac{κ ν:Type}[BEq κ][LawfulBEq κ]{K:κ->Value}{V:ν->Value}{P:Program}{o:Oper}{s:AF}{h:Hp}{ms:List Hp}{t kt et:TypeId}{x:Operand}{g:Nat}{Ok:κ->Prop}{m:Hp}{T:List (κ×ν)}{bs:List Nat}(O:C4 K V g Ok m T bs)(hm:m∈ms)(ho:o.op=.call { callee:=.builtin .len,args:=#[x],argTypes:=#[t] })(ht:P.underlying t=some (.map kt et))(hx:ev s x=some (.map (some g))):OX P o s h ms (.int .i64 T.length):=
 BJ λρ w hρ hw=>by
  obtain⟨es,clock,rfl,he,hb⟩:=O.ex;have hgw:w.heap[g]?=some (.map es clock):=hw.own _ hm g _ (Hp.one_self _ _)
  have hs:es.size=T.length:=by have:=aw List.length he;rw[af,List.length_zip,O.len,Nat.min_self,gq]at this;exact this
  simp[execOp,ho,hρ _ _ hx,resolve,invoke,builtin,Builtin.len_,run_underlying ht,goInt,getObj,Sem.run,hgw,Result.andThen,hs]
theorem Jy{α:Type}{P E S vl:List α}{p off n:Nat}(hP:P.length=p)(hn:vl.length=n)(hE:off+n<=E.length):(P++(E++S)).take (p+off)++vl++(P++(E++S)).drop (p+off+n)=P++((E.take off++vl++E.drop (off+n))++S):=by subst hP;rw[Nat.add_assoc,List.take_length_add_append,List.drop_length_add_append,List.take_append_of_le_length ω,List.drop_append_of_le_length ω];simp only[bp]
section
variable {e:Entry} {Q:Exit->Act->World->Prop} {ops:Array Oper} {rest:List Oper} {o:Oper} {s:AF} {h:Hp} {ms:List Hp} {α:Type} {F:α->List Value} {l:List α} {v:Value} {m:Hp} {el:TypeId} {sz:Nat}
theorem IM{t:TypeId}{x y:Operand}{u z:Value}{bytes n:Nat}(i j off:Nat)(a:α)(vl:List Value)(O:OwnL F sz el m v l)(ho:o.op=.store t x y)(hs:Elem e.P t n z bytes)(hx:ev s x=some (.pointer (some (((AG v).add (j*sz)).add off))))(hy:ev s y=some u)(hv:u.cells=vl.toArray)(hl:vl.length=n)(h1:∀c∈vl,c.oneCell'=true)
  (hm:ms[i]?=some m) (hj:j<l.length) (hoff:off+n<=sz) (hFa:F a=(F l[j]).take off++vl++(F l[j]).drop (off+n)) (hd:o.dst=none) (hg:o.guard=none)
  (K:∀m',OwnL F sz el m' v (l.set j a)->WL e ops Q rest s h (ms.set i m')):WL e ops Q (o::rest) s h ms:=by
 obtain⟨⟨h2,h3⟩,hF⟩:=O;rcases h3 with ⟨rfl,h4,rfl⟩|⟨g,cap,spare,rfl,rfl,e1,e2,e3⟩
 ·rw[h4]at hj;simp at hj
 ·have hle:(j+1)*sz<=l.length*sz:=d7 sz hj;have hjs:(j+1)*sz=j*sz+sz:=by rw[d5,iv]
  have hx':ev s x=some (.pointer (some ((⟨g,0,none⟩:Addr).add (j*sz+off)))):=by rw[hx];show some (Value.pointer (some (((⟨g,0,none⟩:Addr).add (j*sz)).add off)))=_;rw[B9]
  have hP:((l.take j).flatMap F).length=j*sz:=by rw[Bv hF,av,gh (Nat.le_of_lt hj)]
  have hsp:l.flatMap F++spare=(l.take j).flatMap F++(F l[j]++((l.drop (j+1)).flatMap F++spare)):=by
   have e0:l.flatMap F=(l.take j).flatMap F++(F l[j]++(l.drop (j+1)).flatMap F):=by
    have e1:l=l.take j++l[j]::l.drop (j+1):=by rw[<-d9 hj,it]
    have e2:=aw (λq=>q.flatMap F) e1;simp only[fg,fp]at e2;exact e2
   rw[e0];simp only[bp]
  have hst:(l.set j a).flatMap F++spare=(l.take j).flatMap F++(F a++((l.drop (j+1)).flatMap F++spare)):=by rw[List.set_eq_take_append_cons_drop,ac hj,fg,fp];simp only[bp]
  have hlen:(l.flatMap F++spare).length=l.length*sz+spare.length:=by rw[ag,Bv hF]
  refine O9 i (j*sz+off) vl ho hs hx' hy hv hl h1 hm ω hd hg ?_
  have key:(l.flatMap F++spare).take (j*sz+off)++vl++(l.flatMap F++spare).drop (j*sz+off+n)=(l.set j a).flatMap F++spare:=by rw[hsp,hst,hFa];exact Jy hP hl (by rw[hF];exact hoff)
  rw[key];refine K _ ⟨⟨?_,.inr ⟨g,cap,spare,by rw[e8],rfl,?_,by rw[e8];omega,e3⟩⟩,hF⟩
  ·rw[Bv hF,e8]
  ·rw[ag,Bv hF,e8,<-Bv hF l,<-ag];exact e1
end
end Go.Eng

namespace Go.Eng
open Go.RowKit
theorem Aav{e:Entry}{Q:Exit->Act->World->Prop}{s:AF}{h:Hp}{ms ms':List Hp}{c:Code}(g:Goes ms ms')(k:WS e c Q s h ms'):WS e c Q s h ms:=λa w ha hw=>k a w ha (g _ _ _ _ _ hw)
theorem Goes.drp(a:Hp)(ms:List Hp):Goes (a::ms) ms:=λ_ _ _ _ _ x=>x.drop
theorem VN{e:Entry}{Q:Exit->Act->World->Prop}{s:AF}{h:Hp}{ms:List Hp}{c:Code}{m:Hp}(k:WS e c Q s h ms):WS e c Q s h (m::ms):=Aav (Goes.drp m ms) k
theorem OwnL.pre{α:Type}{F:α->List Value}{sz:Nat}{el:TypeId}{m:Hp}{v:Value}{l:List α}(O:OwnL F sz el m v l){n:Nat}(hn:n<=l.length):OwnL F sz el m (Cj sz v 0 n) (l.take n):=by
 obtain⟨⟨h1,h2⟩,hF⟩:=O;have hl:(l.take n).length=n:=by rw[av];omega
 refine⟨⟨Bv hF _,?_⟩,hF⟩;rcases h2 with ⟨rfl,h4,rfl⟩|⟨g,cap,spare,rfl,rfl,e1,e2,e3⟩
 ·have:n=0:=ω
  subst this;exact .inl ⟨Y,by simp,rfl⟩
 ·have hv:Cj sz (.slice (some ⟨g,0,none⟩) l.length cap) 0 n=.slice (some ⟨g,0,none⟩) n cap:=by
   unfold Cj;by_cases h0:cap=0
   ·subst h0;rfl
   ·show Value.slice (if cap=0 then _ else _) (n-0) (cap-0)=_;rw[aa h0,Nat.zero_mul];rfl
  have hsp:l.flatMap F=(l.take n).flatMap F++(l.drop n).flatMap F:=by rw[<-fg,it]
  refine .inr ⟨g,cap,(l.drop n).flatMap F++spare,by rw[hl];exact hv,by rw[<-bp,<-hsp],by rw[<-bp,<-hsp];exact e1,by rw[hl];omega,e3⟩
section
variable {P:Program} {o:Oper} {s:AF} {h:Hp} {ms:List Hp} {t u:TypeId} {x y:Operand} {n:Nat} {k:IntKind}
theorem YO(ho:o.op=.binOp .shl t x y u)(hx:ev s x=some (.int .i64 1))(hy:ev s y=some (.int k n))(hn:n<=60):OX P o s h ms (.int .i64 ((2^n:Nat):Int)):=
 BJ λρ w hρ _=>by
  have h1:¬((n:Int)<0):=ω
  have h2:min n 64=n:=gh ω;have h4:2^n<=2^60:=Nat.pow_le_pow_right δ hn
  have h3:IntKind.i64.wrap ((1:Int)*2^n)=((2^n:Nat):Int):=by rw[ir,show(2:Int)^n=((2^n:Nat):Int) by simp];generalize 2^n=N at h4;exact Dm ω
  simp only[ir]at h3;simp[execOp,ho,hρ _ _ hx,hρ _ _ hy,Op.shift,h1,IntKind.bits,h2,h3,go_sem]
end
end Go.Eng
namespace Go.Eng
open Go.RowKit
variable {kt et:TypeId} {x y:Operand}
section
variable {κ ν:Type} [DecidableEq κ] {K:κ->Value} {V:ν->Value} {Ok:κ->Prop} {t:TypeId} {g:Nat} {m:Hp} {T:List (κ×ν)} {bs:List Nat} {P:Program}
variable {o:Oper} {s:AF} {h:Hp} {ms:List Hp}
theorem Nw{z:ν}(a:κ)(L:Of P kt K Ok)(O:C4 K V g Ok m T bs)(hm:m.le h)(ho:o.op=.lookup t x y true)(ht:P.underlying t=some (.map kt et))(hz:∀w,(zeroValue et).run P w=.ok (V z) w)(hx:ev s x=some (.map (some g)))(hy:ev s y=some (K a))(ha:Ok a) :
  OX P o s h ms (.tuple #[V ((Bz T a).getD z),.bool (Bz T a).isSome]):=
 BJ λρ w hρ hw=>by
  obtain⟨es,clock,rfl,he,hb⟩:=O.ex;have hgw:w.heap[g]?=some (.map es clock):=hw.imm g _ (hm g _ (Hp.one_self _ _));obtain⟨l,hk⟩:=L.key a ha;have hc:=L.law.check w es.isEmpty hk;rcases IT L O.keys O.ok O.len he w a ha with ⟨h1,h2⟩|⟨j,u,b,h1,h2,_,_⟩
  ·rw[Dl h2];simp only[execOp,ho,hρ _ _ hx,hρ _ _ hy,Instr.lookup,Sem.run_bind,run_underlying ht,Result.andThen_ok,getObj,Sem.run_pure,h1,hz];simp[Sem.run,hgw,hc,h1,hz,Result.andThen]
  ·rw[EG O.keys h2];simp only[execOp,ho,hρ _ _ hx,hρ _ _ hy,Instr.lookup,Sem.run_bind,run_underlying ht,Result.andThen_ok,getObj,Sem.run_pure,h1,hz];simp[Sem.run,hgw,hc,h1,hz,Result.andThen]
theorem Fz{z u:ν}{b:Bool}(a:κ)(hu:(Bz T a).getD z=u)(hb:(Bz T a).isSome=b)(L:Of P kt K Ok)(O:C4 K V g Ok m T bs)(hm:m.le h)(ho:o.op=.lookup t x y true)(ht:P.underlying t=some (.map kt et))(hz:∀w,(zeroValue et).run P w=.ok (V z) w)(hx:ev s x=some (.map (some g)))(hy:ev s y=some (K a))(ha:Ok a) :
 OX P o s h ms (.tuple #[V u,.bool b]):=by rw[<-hu,<-hb];exact Nw a L O hm ho ht hz hx hy ha
theorem Cy{z u:ν}(a:κ)(hu:(Bz T a).getD z=u)(L:Of P kt K Ok)(O:C4 K V g Ok m T bs)(hm:m.le h)(ho:o.op=.lookup t x y false)(ht:P.underlying t=some (.map kt et))(hz:∀w,(zeroValue et).run P w=.ok (V z) w)(hx:ev s x=some (.map (some g)))(hy:ev s y=some (K a))(ha:Ok a) :
 OX P o s h ms (V u):=by rw[<-hu];exact LR a L O hm ho ht hz hx hy ha
theorem Em{z u:ν}(a:κ)(hu:(Bz T a).getD z=u)(L:Of P kt K Ok)(O:C4 K V g Ok m T bs)(hm:m∈ms)(ho:o.op=.lookup t x y false)(ht:P.underlying t=some (.map kt et))(hz:∀w,(zeroValue et).run P w=.ok (V z) w)(hx:ev s x=some (.map (some g)))(hy:ev s y=some (K a))(ha:Ok a) :
 OX P o s h ms (V u):=by rw[<-hu];exact FJ a L O hm ho ht hz hx hy ha
end
end Go.Eng
namespace Go.Eng
open Go.RowKit
variable {s:AF} {h:Hp} {ms:List Hp} {e:Entry} {t:Nat}
def Abs(P:Program)(gf:FuncId)(lb:List Value)(h:Hp)(N:Nat)(enc:Nat->List Value):Prop:=
 ∀(lp:Nat) (X Y:Nat->Hp->List Hp->Prop) (h1:Hp) (ms:List Hp),h.le h1->(∀k h2 ms2,k<N->h1.le h2->X k h2 ms2->YdT P lp (enc k).toArray h2 ms2 (fun r h' ms'=>(r=.bool true/\X (k+1) h' ms')\/(r=.bool false/\Y k h' ms')))->X 0 h1 ms →
  FnT P gf ([Value.func (.yield lp) #[] #[]]++lb).toArray h1 ms (fun _ h' ms'=>X N h' ms'\/∃k,k<N/\Y k h' ms')
abbrev AbB(e:Entry)(I I2:AF->Hp->List Hp->Prop):Exit->Act->World->Prop:=Exit.then (Inv e I) (λx a w=>x=.ret/\Inv e I2 a w)
theorem Ze{I I2:AF->Hp->List Hp->Prop}:¬LetsOut (AbB e I I2):=λ⟨_,_,h,_⟩=>by cases h
theorem YF{I I2:AF->Hp->List Hp->Prop}(s':AF)(hI:I2 s' h ms)(hs:Sub s' s):NX e (AbB e I I2) .ret s h ms:=
 λa w ha hw=>⟨rfl,s',h,ms,hI,ha.sub hs,hw⟩
theorem Io{Q:Exit->Act->World->Prop}{gf:Nat}{lb:List Value}{ps:List Nat}{assign body:Code}(J Jr:Nat->Hp->List Hp->Prop)(A:Nat->AF->Hp->List Hp->Prop){N:Nat}{enc:Nat->List Value}
  (hg:lk s t=some (.func (.func gf) #[] lb.toArray)) (hc:∀az w,(callFunc gf az).run e.P w=.ok (.enter gf az) w) (hit:Abs e.P gf lb h N enc) (hps:∀k,(enc k).length=ps.length) (hpn:ps.all (λp=>Nat.blt p e.n)=true)
  (h0:J 0 h ms)
  (hA:∀w0 k h1 ms1,k<N->h.le h1->J k h1 ms1->RS ⟨e.P,w0,h1,ms1,e.n,[]⟩ assign (AcA ⟨e.P,w0,h1,ms1,e.n,[]⟩ (A k)) (XY ps (enc k) s) h1 ms1)
  (hB:∀w0 k s1 h1 ms1,k<N->h.le h1->A k s1 h1 ms1->RS ⟨e.P,w0,h1,ms1,e.n,[]⟩ body (AbB ⟨e.P,w0,h1,ms1,e.n,[]⟩ (λ_=>J (k+1)) (λ_=>Jr k)) s1 h1 ms1)
  (hK:∀D h1 ms1,h.le h1->J N h1 ms1->NX ⟨e.P,e.w0,e.h0,e.ms0,e.n,D::e.ds⟩ Q .normal s h1 (ms1++[Mk D]))
  (hR:∀D k h1 ms1,k<N->h.le h1->Jr k h1 ms1->NX ⟨e.P,e.w0,e.h0,e.ms0,e.n,D::e.ds⟩ Q .ret s h1 (ms1++[Mk D])) :
  WS e (.rangeFunc (.tmp t) ps.toArray assign body) Q s h ms:=by
 intro a w ha hw;refine(wpIn_wide (n:=0)).1 (wpIn_rangeFunc λfn _=>?_);have hge:a.eval (.tmp t)=.func (.func gf) #[] lb.toArray:=ha.eval (.tmp t) _ hg;obtain⟨rec,hrec⟩:∃rec:LoopState->Loop,rec=λst=>{ state:=st,pending:=none,fn,tmps:=a.tmps,params:=ps.toArray,assign,body,defers:=w.heap.size }:=⟨_,Y⟩
 obtain⟨recD,hrecD⟩:∃recD:Loop,recD={ state:=.done,pending:=some .ret,fn,tmps:=a.tmps,params:=ps.toArray,assign,body,defers:=w.heap.size }:=⟨_,Y⟩
 obtain⟨l,hl⟩:∃l,l=w.heap.size+1:=⟨_,Y⟩
 obtain⟨W1,hW1⟩:∃W1,(w.alloc (.deferred (some []))).alloc (.loop (rec .ready))=W1:=⟨_,Y⟩
 have hE1:e.Ends W1 h (ms++[Hp.one l (.loop (rec .ready)),Mk w.heap.size]):=by
  have h2:=(hw.alloc (.deferred (some []))).alloc (.loop (rec .ready));rw[World.size_alloc,<-hl,hW1]at h2
  exact h2.perm (by
   refine List.Perm.trans ?_ ic
   exact ik _)
 refine⟨l,[{ target:=.collected w.heap.size,args:=#[] }],W1,{ target:=.fn (.func gf) lb.toArray,args:=#[.func (.yield l) #[] #[]] },W1,gf,([Value.func (.yield l) #[] #[]]++lb).toArray,W1,?_,?_,λ_ _=>ff,?_,(λh=>by cases h),?_⟩
 ·rw[<-hW1,hrec,hl];exact run_enterLoop_outer _ _ _ _ _
 ·simp only[resolve,hge];simp[go_sem]
 ·simp[invoke,go_sem,hc]
 ·refine(callsIn_wide (n:=0)).2 ((hit l (λk h1 ms1=>h.le h1/\∃ms2,ms1=ms2++[Hp.one l (.loop (rec .ready)),Mk w.heap.size]/\J k h1 ms2) (λk h1 ms1=>h.le h1/\∃ms2,ms1=ms2++[Hp.one l (.loop recD),Mk w.heap.size]/\Jr k h1 ms2) h _ (Hp.le_refl _) ?_ ⟨Hp.le_refl _,ms,Y,h0⟩ W1 hE1.st).mono ?_)
  ·-- a round
   rintro k h2 ms2 hkN hl2 ⟨_,ms2,rfl,hJ⟩ w2 hS2;have hlo:w2.heap[l]?=some (.loop (rec .ready)):=hS2.own _ σ l _ (Hp.one_self _ _);have hy:=run_yield (P:=e.P) (args:=(enc k).toArray) hlo (by rw[hrec];simpa using hps k);refine⟨_,_,_,_,hy,?_⟩;have r1:(rec .ready).params=ps.toArray:=by rw[hrec]
   have r2:(rec .ready).tmps=a.tmps:=by rw[hrec]
   have r3:(rec .ready).assign=assign:=by rw[hrec]
   have r4:(rec .ready).body=body:=by rw[hrec]
   rw[r1,r2,r3,r4];refine roundIn_of_wpIn ff ?_;have hSp:St w2 h2 ms2:=hS2.pre
   have hHas:Has e.n [] { tmps:=(ps.toArray.zip (enc k).toArray).foldl (λt (p,v)=>t.setIfInBounds p v) a.tmps,defers:=[] } (XY ps (enc k) s):=by
    have e1:(ps.toArray.zip (enc k).toArray).foldl (λt (p,v)=>t.setIfInBounds p v) a.tmps=(ps.zip (enc k)).foldl (λt (p,v)=>t.setIfInBounds p v) a.tmps:=by simp
    rw[e1];exact Tc Y ps (enc k) s a.tmps (λp hp=>dd (gk.1 hpn p hp)) ⟨Y,ha.size,ha.slots⟩
   refine wpIn_mono (hA w2 k h2 ms2 hkN hl2 hJ l _ w2 hHas (Ends.refl hSp) Zv) ?_;intro x a1 w3 hx;cases x with
   | normal=>
    obtain⟨s3,h3,ms3,hA3,hHas3,hE3⟩:=hx;have hEf:Ends w2 h2 (ms2++[Hp.one l (.loop (rec .ready)),Mk w.heap.size]) w3 h3 (ms3++[Hp.one l (.loop (rec .ready)),Mk w.heap.size]):=Ends.call (Ends.refl hS2) hE3;have hEp:=hEf.perm (ms':=Hp.one l (.loop (rec .ready))::Mk w.heap.size::ms3) ic;have hl3:w3.heap[l]?=some (.loop (rec .ready)):=hEp.st.own _ (bu) l _ (Hp.one_self _ _);have hE4:=Ends.putL (.loop (rec .busy)) hEp;refine⟨_,run_beginRound hl3 (by rw[hrec]),?_⟩;have e2:({ rec .ready with state:=.busy }:Loop)=rec .busy:=by rw[hrec]
    rw[e2];have hE4':=hE4.perm (ms':=ms3++[Hp.one l (.loop (rec .busy)),Mk w.heap.size]) (ic (l₁:=[_,_]));refine wpIn_mono (hB _ k s3 h3 ms3 hkN (Hp.le_trans hl2 hE3.le) hA3 l a1 _ hHas3 (Ends.refl hE4'.st.pre) Ze) ?_;intro y a2 w5 hy5;cases y with
    | normal=>
     obtain⟨s5,h5,ms5,hJ5,_,hE5⟩:=hy5;have hE6:=Ends.call hE4' hE5;have hE6p:=hE6.perm (ms':=Hp.one l (.loop (rec .busy))::Mk w.heap.size::ms5) ic;have hl6:w5.heap[l]?=some (.loop (rec .busy)):=hE6p.st.own _ (bu) l _ (Hp.one_self _ _);refine⟨_,_,run_endRound none hl6,?_⟩;have e3:({ rec .busy with state:=if(none:Option Code).isNone then .ready else .done,pending:=none }:Loop)=rec .ready:=by rw[hrec];rfl
     rw[e3];exact⟨_,h5,_,Y,(Ends.putL (.loop (rec .ready)) hE6p).perm (ic (l₁:=[_,_])),.inl ⟨Y,Hp.le_trans hl2 (Hp.le_trans hE3.le hE5.le),ms5,Y,hJ5⟩⟩
    | ret=>
     obtain⟨_,s5,h5,ms5,hJ5,_,hE5⟩:=hy5;have hE6:=Ends.call hE4' hE5;have hE6p:=hE6.perm (ms':=Hp.one l (.loop (rec .busy))::Mk w.heap.size::ms5) ic;have hl6:w5.heap[l]?=some (.loop (rec .busy)):=hE6p.st.own _ (bu) l _ (Hp.one_self _ _);refine⟨_,_,run_endRound (some .ret) hl6,?_⟩;have e3:({ rec .busy with state:=if(some Code.ret:Option Code).isNone then .ready else .done,pending:=some .ret }:Loop)=recD:=by rw[hrec,hrecD];rfl
     rw[e3];exact⟨_,h5,_,Y,(Ends.putL (.loop recD) hE6p).perm (ic (l₁:=[_,_])),.inr ⟨Y,Hp.le_trans hl2 (Hp.le_trans hE3.le hE5.le),ms5,Y,hJ5⟩⟩
    | _=>exact jt hy5.1 σ
   | _=>exact hx
  ·rintro x w3 ⟨r,h3,ms3,rfl,hE3,⟨hl3,ms4,rfl,hJ⟩|⟨k,hkN,hl3,ms4,rfl,hJ⟩⟩
   ·have hE4:=Ends.call (fr:=[]) (by rw[eo];exact hE1) hE3;rw[eo]at hE4;have hE5:=hE4.perm (ms':=Hp.one l (.loop (rec .ready))::Mk w.heap.size::ms4) ic;have hl5:w3.heap[l]?=some (.loop (rec .ready)):=hE5.st.own _ (bu) l _ (Hp.one_self _ _);refine⟨_,_,run_endLoop hl5 (by rw[hrec];simp),?_⟩;have e4:(rec .ready).pending=none:=by rw[hrec]
    rw[e4];exact hK w.heap.size h3 ms4 hl3 hJ { a with defers:=[{ target:=.collected w.heap.size,args:=#[] }]++a.defers } _ ⟨by show [_]++a.defers=_;rw[ha.defers];rfl,ha.size,ha.slots⟩ ((Ends.putL _ hE5).drop.perm (ic (l₁:=[_])))
   ·have hE4:=Ends.call (fr:=[]) (by rw[eo];exact hE1) hE3;rw[eo]at hE4;have hE5:=hE4.perm (ms':=Hp.one l (.loop recD)::Mk w.heap.size::ms4) ic;have hl5:w3.heap[l]?=some (.loop recD):=hE5.st.own _ (bu) l _ (Hp.one_self _ _);refine⟨_,_,run_endLoop hl5 (by rw[hrecD];simp),?_⟩;have e4:recD.pending=some .ret:=by rw[hrecD]
    rw[e4];exact wpIn_ret (hR w.heap.size k h3 ms4 hkN hl3 hJ { a with defers:=[{ target:=.collected w.heap.size,args:=#[] }]++a.defers } _ ⟨by show [_]++a.defers=_;rw[ha.defers];rfl,ha.size,ha.slots⟩ ((Ends.putL _ hE5).drop.perm (ic (l₁:=[_]))))
theorem Nc{P:Program}{w0:World}{h0:Hp}{ms0:List Hp}{n:Nat}{fn:Func}{post:Value->Hp->List Hp->Prop}{g:Nat}{ty el:TypeId}{d:TypeDesc}{v:Value}
  (hr:fn.results=#[.cell t ty]) (hv:lk s t=some (.pt g)) (ht:P.underlying ty=some d) (hd:Iz d=false) (i:Nat) (hm:ms[i]?=some (Bh g el [v])) (hp:post v h ms) :
  NX ⟨P,w0,h0,ms0,n,[]⟩ (bodyPost P fn (RP w0 h0 ms0 post)) .ret s h ms:=
 WI hr hv ht hd (Cell.blk0 i hm rfl) hp
theorem Yl{P:Program}{w0:World}{h0:Hp}{ms0:List Hp}{n:Nat}{fn:Func}{post:Value->Hp->List Hp->Prop}{u r:Nat}{v v' v2:Value}(hr:fn.results=#[.tmp t,.tmp u,.tmp r])(hv:lk s t=some v)(hv':lk s u=some v')(hv2:lk s r=some v2)(hp:post (.tuple #[v,v',v2]) h ms) :
  NX ⟨P,w0,h0,ms0,n,[]⟩ (bodyPost P fn (RP w0 h0 ms0 post)) .ret s h ms:=λa w ha hw=>
 bodyPost_ret (v:=.tuple #[v,v',v2]) (by
  have h1:=ha.eval (.tmp t) v hv;have h2:=ha.eval (.tmp u) v' hv';have h3:=ha.eval (.tmp r) v2 hv2;simp only[Act.eval]at h1 h2 h3;rw[am]at h1 h2 h3
  simp[results,hr,h1,h2,h3]) ha.defers ⟨_,h,ms,rfl,hw,hp⟩
end Go.Eng
namespace Go.Eng
open Go.RowKit
variable {a b n bytes sz:Nat} {r:Int} {el:TypeId} {z:Value}
def sv(l:List UInt8):Value:=.string ⟨l.toArray⟩
theorem Lg(l:List UInt8):(sv l).oneCell'=true:=rfl
def cU8(b:UInt8):List Value:=[.int .u8 (b.toNat:Int)]
def CM(n:Nat):List Value:=[.int .u64 (n:Int)]
theorem Sr:∀n,(cU8 n).length=1:=λ_=>rfl
theorem Ec:∀n,(CM n).length=1:=λ_=>rfl
section
variable {P:Program} {o:Oper} {s:AF} {h:Hp} {ms:List Hp} {t u:TypeId} {x y:Operand} {l l':List UInt8} {k:IntKind}
theorem Uy(ho:o.op=.call { callee:=.builtin .len,args:=#[x],argTypes:=#[t] })(ht:P.underlying t=some .string)(hx:ev s x=some (sv l)):OX P o s h ms (.int .i64 l.length):=
 BJ λρ w hρ _=>by have:=run_len_string w t 0 ⟨l.toArray⟩ ht;simp[execOp,ho,hρ _ _ hx,resolve,invoke,builtin,sv,Builtin.len_,run_underlying ht,goInt];rfl
theorem FS(n:Nat)(hn:l.length=n)(ho:o.op=.call { callee:=.builtin .len,args:=#[x],argTypes:=#[t] })(ht:P.underlying t=some .string)(hx:ev s x=some (sv l)):OX P o s h ms (.int .i64 n):=by subst hn;exact Uy ho ht hx
theorem TE{i:Int}(j:Nat)(ho:o.op=.index t x y)(ht:P.underlying t=some .string)(hx:ev s x=some (sv l))(hy:ev s y=some (.int k i))(hi:i=(j:Int))(hlt:j<l.length):OX P o s h ms (.int .u8 ((l[j].toNat:Nat):Int)):=
 BJ λρ w hρ _=>by
  have h1:=run_index_string (P:=P) w t ⟨l.toArray⟩ k i ht
  have h2:0<=i/\i<((⟨l.toArray⟩:ByteArray).size:Int):=by refine⟨ω,?_⟩;show i<((l.toArray.size:Nat):Int);rw[iw];omega
  rw[dif_pos h2]at h1;subst hi;simp only[execOp,ho,hρ _ _ hx,hρ _ _ hy,sv,Sem.run_bind,h1];rfl
theorem TU(ho:o.op=.binOp .neq t x y u)(hx:ev s x=some (sv l))(hy:ev s y=some (sv l')):OX P o s h ms (.bool (decide (l≠l'))):=
 BJ λρ w hρ _=>by
  have e:(!(l==l'))=decide (l≠l'):=by
   by_cases h:l=l'
   ·subst h;simp
   ·simp[h]
  simp[execOp,ho,hρ _ _ hx,hρ _ _ hy,sv,binOp_string_neq,e,ByteArray.toList_eq,eqGuard_at_string]
theorem Wh(ho:o.op=.binOp .or t x y u)(hx:ev s x=some (.int .u64 a))(hy:ev s y=some (.int .u64 b))(ha:a<18446744073709551616)(hb:b<18446744073709551616):OX P o s h ms (.int .u64 ((a ||| b:Nat):Int)):=
 BJ λρ w hρ _=>by
  have h0:a ||| b<2^64:=Nat.or_lt_two_pow ω ω
  have h3:IntKind.u64.wrap (((BitVec.ofNat 64 a) ||| (BitVec.ofNat 64 b)).toNat:Int)=((a ||| b:Nat):Int):=by rw[BitVec.toNat_or,BitVec.toNat_ofNat,BitVec.toNat_ofNat,fj ω,fj ω];exact EA ω
  simp[execOp,ho,hρ _ _ hx,hρ _ _ hy,Op.intBits,IntKind.bits,go_sem];exact h3
theorem Hj{k':IntKind}{d:TypeDesc}{a:Int}(he:k'.wrap a=r)(ho:o.op=.convert t u x)(ht:P.underlying t=some d)(hu:P.underlying u=some (.int k'))(hx:ev s x=some (.int k a)):OX P o s h ms (.int k' r):=by subst he;exact CD ho ht hu hx
theorem YL{a:Int}(he:k.wrap (-a)=r)(ho:o.op=.unOp .neg t x)(hx:ev s x=some (.int k a)):OX P o s h ms (.int k r):=by subst he;exact YG ho hx
theorem KM(he:((a &&& b:Nat):Int)=r)(ho:o.op=.binOp .and t x y u)(hx:ev s x=some (.int .u64 a))(hy:ev s y=some (.int .u64 b))(ha:a<18446744073709551616)(hb:b<18446744073709551616):OX P o s h ms (.int .u64 r):=by subst he;exact YW ho hx hy ha hb
theorem KZ(he:((a/2^n:Nat):Int)=r)(ho:o.op=.binOp .shr t x y u)(hx:ev s x=some (.int .u64 a))(hy:ev s y=some (.int k n))(hn:n<=64):OX P o s h ms (.int .u64 r):=by subst he;exact Ef ho hx hy hn
theorem Td(he:((a*2^n%18446744073709551616:Nat):Int)=r)(ho:o.op=.binOp .shl t x y u)(hx:ev s x=some (.int .u64 a))(hy:ev s y=some (.int k n))(hn:n<=64):OX P o s h ms (.int .u64 r):=by subst he;exact Sm ho hx hy hn
theorem Xv(he:((a ||| b:Nat):Int)=r)(ho:o.op=.binOp .or t x y u)(hx:ev s x=some (.int .u64 a))(hy:ev s y=some (.int .u64 b))(ha:a<18446744073709551616)(hb:b<18446744073709551616):OX P o s h ms (.int .u64 r):=by subst he;exact Wh ho hx hy ha hb
theorem YC(ho:o.op=.binOp .quo t x y u)(hx:ev s x=some (.int .u64 a))(hy:ev s y=some (.int .u64 b))(ha:a<18446744073709551616)(hb:0<b):OX P o s h ms (.int .u64 ((a/b:Nat):Int)):=by
 have h1:((a:Int).tdiv (b:Int))=((a/b:Nat):Int):=by rw[Int.tdiv_eq_ediv_of_nonneg (Int.natCast_nonneg a)];rfl
 have h2:a/b<=a:=Nat.div_le_self a b
 have h3:IntKind.u64.wrap ((a:Int).tdiv (b:Int))=((a/b:Nat):Int):=by rw[h1];refine EA ⟨Int.natCast_nonneg _,?_⟩;have:((a/b:Nat):Int)<=(a:Int):=Int.ofNat_le.2 h2;omega
 have:=NQ (P:=P) (h:=h) (ms:=ms) ho hx hy ω
 rwa [h3]at this
theorem Yu(ho:o.op=.binOp .rem t x y u)(hx:ev s x=some (.int .u64 a))(hy:ev s y=some (.int .u64 b))(hb:0<b):OX P o s h ms (.int .u64 ((a%b:Nat):Int)):=by
 have:=BH (P:=P) (h:=h) (ms:=ms) ho hx hy ω ω
 rwa [<-Int.natCast_emod]at this
theorem Tx(he:IntKind.u64.wrap ((a:Int)+b)=r)(ho:o.op=.binOp .add t x y u)(hx:ev s x=some (.int .u64 a))(hy:ev s y=some (.int .u64 b)):OX P o s h ms (.int .u64 r):=by subst he;exact BJ λρ w hρ _=>by simp[execOp,ho,hρ _ _ hx,hρ _ _ hy,Op.intArith,go_sem]
theorem S9(he:IntKind.u64.wrap ((a:Int)-b)=r)(ho:o.op=.binOp .sub t x y u)(hx:ev s x=some (.int .u64 a))(hy:ev s y=some (.int .u64 b)):OX P o s h ms (.int .u64 r):=by subst he;exact BJ λρ w hρ _=>by simp[execOp,ho,hρ _ _ hx,hρ _ _ hy,Op.intArith,go_sem]
theorem LC:∀l:List UInt8,l.flatMap cU8=(l.map λb=>(b.toNat:Int)).map (Value.int .u8)
 | []=>rfl
 | b::l=>by rw[fp,fl,fl,LC l];rfl
theorem Vx{e:TypeId}{v:Value}(R:Rd h ms v 1 n (l.flatMap cU8))(hl:l.length=n)(ho:o.op=.convert t u x)(ht:P.underlying t=some (.slice e))(he:P.underlying e=some (.int .u8))(hu:P.underlying u=some .string)(hx:ev s x=some v):OX P o s h ms (sv l):=
 BJ λρ w hρ hw=>by
  obtain⟨a,c,rfl,e2,e3,e4,e5⟩:=R.ex;subst hl;have hfm:=LC l
  have hs:strOfNums (l.map λb=>(b.toNat:Int))=⟨l.toArray⟩:=by unfold strOfNums;rw[fk];congr 2;exact(fc λb _=>by simp).trans (List.map_id _)
  have key:(convert t u (.slice a l.length c)).run P w=.ok (sv l) w:=by
   cases a with
   | none=>
    have:l=[]:=by
     rcases d8 l.length with h|h
     ·exact gz.1 h
     ·obtain⟨q,h1,_⟩:=e5 h;cases h1
    subst this;exact run_convert_bytes_nil w t e ht he _ _ u hu
   | some q=>
    rw[run_convert_bytes_string w t u e _ _ _ ht he hu]
    have hc:∀j v,((l.map λb=>(b.toNat:Int)).map (Value.int .u8))[j]?=some v->w.cell? (q.add j)=some v:=by
     rw[<-hfm];rcases d8 l.length with h|h
     ·intro j v hv;rw[gz.1 h]at hv;simp at hv
     ·obtain⟨q',h1,h2⟩:=e5 h;cases h1;exact λj v hv=>hw.cell (h2 j v hv)
    have h1:=run_loadCells_list (P:=P) w q _ hc;rw[af,af]at h1;rw[run_bytesToString w q _ c _ h1,foldl_push_bytes]
    have:(ByteArray.empty.data++((l.map λb=>(b.toNat:Int)).map λn=>UInt8.ofNat n.toNat).toArray)=l.toArray:=by have:=aw ByteArray.data hs;simpa[strOfNums] using this
    rw[this];rfl
  simp only[execOp,ho,hρ _ _ hx,Sem.run_bind,key];rfl
end
section
variable {e:Entry} {Q:Exit->Act->World->Prop} {ops:Array Oper} {rest:List Oper} {o:Oper} {s:AF} {h:Hp} {ms:List Hp}
theorem W3{t:TypeId}{d:Nat}{cp:Nat}{x y:Operand}{k1 k2:IntKind}{l c:Int}(ho:o.op=.makeSlice t x y)(ht:e.P.underlying t=some (.slice el))(hs:Elem e.P el 1 z bytes)(hz:z.cells=#[z])
  (hx:ev s x=some (.int k1 l)) (hy:ev s y=some (.int k2 c)) (hl:l=(n:Int)) (hc:c=(cp:Int)) (hnc:n<=cp) (hb:bytes*cp<=281474976710656) (h63:cp<=9223372036854775807) (hd:o.dst=some d) (hn:Nat.blt d e.n=true) (hg:o.guard=none)
  (k:∀g,WL e ops Q rest ((d,.slice (some ⟨g,0,none⟩) n cp)::s) h (Bh g el (replicate cp z)::ms)):WL e ops Q (o::rest) s h ms:=
 Ix (post:=λv h' ms'=>∃g,v=.slice (some ⟨g,0,none⟩) n cp/\h'=h/\ms'=Bh g el (replicate cp z)::ms) (λρ w hρ hw=>by
  obtain⟨i,hi,hz',his,hib⟩:=hs.info
  have hb':(i.bytes:Int)*c<=281474976710656:=by
   rw[hib,hc];have h:((bytes*cp:Nat):Int)<=281474976710656:=ω
   rwa [da]at h
  have hr:=run_make (P:=e.P) w t el i z ht hi hz' k1 k2 l c ω ω hb' ω
  have:(execOp ρ o).run e.P w=.ok (.value (.slice (some ⟨w.heap.size,0,none⟩) n cp)) (w.alloc (.cells (replicate cp z).toArray el)):=by
   have e1:l.toNat=n:=ω
   have e2:c.toNat=cp:=ω
   rw[e1,e2,his,hz,jk,Ik]at hr;simp only[execOp,ho,hρ _ _ hx,hρ _ _ hy,Sem.run_bind,hr,Result.andThen_ok,Sem.run_pure]
  unfold OpRes;rw[this]
  exact⟨h,_,Ends.alloc hw _,_,Y,Y,Y⟩) hd hn hg λ_ _ _ ⟨g,e1,e2,e3⟩=>by subst e1 e2 e3;exact k g
end
theorem PP{α:Type}{F:α->List Value}(hF:∀x,(F x).length=sz)(hsz:0<sz)(a:α)(n:Nat):madeCells (F a).toArray (n*sz)=((replicate n a).flatMap F).toArray:=by
 apply gx;intro i;unfold madeCells;have hr:((replicate n a).flatMap F).toArray[i]?=((replicate n a).flatMap F)[i]?:=gu;rw[hr,Array.getElem?_map];have hz:(F a).toArray.size=sz:=by simp[hF]
 rcases eh i (n*sz) with h|h
 ·have h1:i/sz<n:=Nat.div_lt_of_lt_mul (by rw[fv];exact h);have hm:=Nat.mod_lt i hsz;have h2:i%sz<(F a).length:=by rw[hF];exact hm
  have h3:=Fg hF (replicate n a) (i/sz) (by simpa using h1) (i%sz) ((F a)[i%sz]) (by simp[h2]);rw[fv,Nat.div_add_mod]at h3;rw[h3];simp[h,hF];rw[ah h2];rfl
 ·rw[cu (l:=(replicate n a).flatMap F) (by rw[Bv hF];simpa using h)];simp[h]
section
variable {e:Entry} {Q:Exit->Act->World->Prop} {ops:Array Oper} {rest:List Oper} {o:Oper} {s:AF} {h:Hp} {ms:List Hp}
theorem XM{α:Type}{F:α->List Value}(hF:∀x,(F x).length=sz)(hsz:0<sz)(a:α){t:TypeId}{d:Nat}{x y:Operand}{k1 k2:IntKind}{l c:Int}(ho:o.op=.makeSlice t x y)(ht:e.P.underlying t=some (.slice el))(hs:Elem e.P el sz z bytes)(hz:z.cells=(F a).toArray)
  (hx:ev s x=some (.int k1 l)) (hy:ev s y=some (.int k2 c)) (hl:l=(n:Int)) (hc:c=(n:Int)) (hb:bytes*n<=281474976710656) (h63:n<=9223372036854775807) (hd:o.dst=some d) (hn:Nat.blt d e.n=true) (hg:o.guard=none)
  (k:∀g v m,v=.slice (some ⟨g,0,none⟩) n n->OwnL F sz el m v (replicate n a)->WL e ops Q rest ((d,v)::s) h (m::ms)):WL e ops Q (o::rest) s h ms:=
 Ix (post:=λv h' ms'=>∃g,v=.slice (some ⟨g,0,none⟩) n n/\h'=h/\ms'=Bh g el ((replicate n a).flatMap F)::ms) (λρ w hρ hw=>by
  obtain⟨i,hi,hz',his,hib⟩:=hs.info
  have hb':(i.bytes:Int)*c<=281474976710656:=by
   rw[hib,hc];have h:((bytes*n:Nat):Int)<=281474976710656:=ω
   rwa [da]at h
  have hr:=run_make (P:=e.P) w t el i z ht hi hz' k1 k2 l c ω ω hb' ω
  have:(execOp ρ o).run e.P w=.ok (.value (.slice (some ⟨w.heap.size,0,none⟩) n n)) (w.alloc (.cells ((replicate n a).flatMap F).toArray el)):=by
   have e1:l.toNat=n:=ω
   have e2:c.toNat=n:=ω
   rw[e1,e2,his,hz,PP hF hsz]at hr;simp only[execOp,ho,hρ _ _ hx,hρ _ _ hy,Sem.run_bind,hr,Result.andThen_ok,Sem.run_pure]
  unfold OpRes;rw[this]
  exact⟨h,_,Ends.alloc hw _,_,Y,Y,Y⟩) hd hn hg λ_ _ _ ⟨g,e1,e2,e3⟩=>by subst e1 e2 e3;exact k g _ _ Y (OwnL.blk n hF σ ω)
end
theorem XJ{P:Program}{w0:World}{h0:Hp}{ms0:List Hp}{fn:Func}{post:Value->Hp->List Hp->Prop}{s:AF}{h:Hp}{t t2 u:Nat}{ty:TypeId}{g g2:Nat}{d:TypeDesc}{vs vs2:List Value}{v:Value}
  (hr:fn.results=#[.cell t ty,.cell t2 ty,.tmp u]) (hv:lk s t=some (.pt g)) (hv2:lk s t2=some (.pt g2)) (hu:lk s u=some v) (ht:P.underlying ty=some d) (hd:Iz d=true) (hs:Elem P ty sz z bytes) (hl:vs.length=sz) (hl2:vs2.length=sz)
  (hp:post (.tuple #[.agg vs.toArray,.agg vs2.toArray,v]) h []) :
  NX ⟨P,w0,h0,ms0,n,[]⟩ (bodyPost P fn (RP w0 h0 ms0 post)) .ret s h [Bh g el vs,Bh g2 el vs2]:=λa w ha hw=>by
 have h1:a.tmps[t]?.getD undef=.pt g:=by rw[ha.slots t _ hv];rfl
 have h1':a.tmps[t2]?.getD undef=.pt g2:=by rw[ha.slots t2 _ hv2];rfl
 have h2:a.tmps[u]?.getD undef=v:=by rw[ha.slots u _ hu];rfl
 have hag:(isAgg ty).run P w=.ok true w:=by rw[En ht,hd]
 have hc':∀j v,vs[j]?=some v->w.cell? ((⟨g,0,none⟩:Addr).add j)=some v:=λj v e=>hw.st.cell (Seg.blk (el:=el) 0 Y j v e);have hc2:∀j v,vs2[j]?=some v->w.cell? ((⟨g2,0,none⟩:Addr).add j)=some v:=λj v e=>hw.st.cell (Seg.blk (el:=el) 1 Y j v e);refine bodyPost_ret (v:=.tuple #[.agg vs.toArray,.agg vs2.toArray,v]) ?_ ha.defers ⟨_,h,_,Y,Ends.drop (Ends.drop hw),hp⟩;have e1:=run_loadCells_list (P:=P) w _ vs hc';have e2:=run_loadCells_list (P:=P) w _ vs2 hc2;rw[hl]at e1;rw[hl2]at e2;simp[results,hr,h1,h1',h2,asAddr,loadVar,hag,hs.sizeOf,e1,e2]
end Go.Eng
