/- A part of the proof. -/
import Derived.Test.YtodheebhahdepaaGreatDoorSA
import Derived.Sort.AssemblyPlain
import Derived.Sort.LotD5
import Derived.Sort.Walk13a
import Derived.Lib.BitFns
import Derived.Laws.CopyRow
import Derived.Deep.Slices
import Derived.OpenShut
import Derived.Maps.RangeRun
import Derived.Maps.Keyed
import Derived.Carry
import Derived.Lib.SliceRun
import Derived.Scope
import Derived.RangeFuncLeaves
import Derived.RangeFuncRecord
import Derived.OrdersIn
import Derived.TacticsIn
import Derived.Shelf.GgSortFunc.InsertionK
import Derived.Laws.Strings
import Derived.Laws.BytesArg
set_option linter.unusedSimpArgs false
set_option linter.unusedVariables false
set_option linter.unusedSectionVars false
set_option maxRecDepth 100000
set_option maxHeartbeats 4000000
open List (length_map replicate range length_append length_take mem_cons mem_range map_append mem_cons_self mem_cons_of_mem append_nil map_map map_cons length_set append_assoc flatMap_cons perm_append_comm mem_append_left mem_append_right)
namespace Go.Eng
open Go.RowKit
variable {j:Nat} {u:Value}
def AF:Value->Addr
  | .slice (some p) _ _=>p
  | _=>⟨0,0,none⟩
def B4(sz:Nat)(v:Value)(i j:Nat):Value:=
  match v with
  | .slice a _ c=>.slice (if c=i then a else a.map (·.add (i*sz))) (j-i) (c-i)
  | u=>u
theorem Rd.val{h:Hp}{ms:List Hp}{v:Value}{sz n:Nat}{cs:List Value}(R:Rd h ms v sz n cs)(hn:0<n):∃c,v=.slice (some (AF v)) n c/\Seg h ms (AF v) cs:=by obtain⟨a,c,rfl,e2,e3,e4,e5⟩:=R.ex;obtain⟨q,rfl,hs⟩:=e5 hn;exact⟨c,rfl,hs⟩
theorem Rd.len_le{h:Hp}{ms:List Hp}{v:Value}{sz n:Nat}{cs:List Value}(R:Rd h ms v sz n cs):n<=9223372036854775807:=by obtain⟨a,c,rfl,e2,e3,e4,e5⟩:=R.ex;omega
theorem Rd.cells{h:Hp}{ms:List Hp}{v:Value}{sz n:Nat}{cs:List Value}(R:Rd h ms v sz n cs):v.cells=[v].toArray:=by obtain⟨a,c,rfl,_⟩:=R.ex;rfl
theorem Rd.one{h:Hp}{ms:List Hp}{v:Value}{sz n:Nat}{cs:List Value}(R:Rd h ms v sz n cs):v.oneCell'=true:=by obtain⟨a,c,rfl,_⟩:=R.ex;rfl
theorem Rd.blk{h:Hp}{ms:List Hp}{g:Nat}{el:TypeId}{sz n c:Nat}{cs:List Value}(hm:Bn g el cs∈ms)(hl:cs.length=n*sz)(hn:n<=c)(hc:c<=9223372036854775807):Rd h ms (.slice (some ⟨g,0,none⟩) n c) sz n cs:=by refine⟨_,c,rfl,hn,hc,hl,fun _=>⟨_,rfl,?_⟩⟩;obtain⟨i,hi⟩:=List.getElem?_of_mem hm;exact Seg.blk i hi
theorem Rd.sub_{h:Hp}{ms:List Hp}{v:Value}{sz n:Nat}{cs:List Value}(R:Rd h ms v sz n cs){i:Nat}(hi:i<=j)(hj:j<=n):Rd h ms (B4 sz v i j) sz (j-i) ((cs.drop (i*sz)).take ((j-i)*sz)):=by
  obtain⟨a,c,rfl,e2,e3,e4,e5⟩:=R.ex;refine⟨_,c-i,rfl,by omega,by omega,?_,fun hlt=>?_⟩
  · rw[length_take,List.length_drop,e4];have h1:(j-i)*sz<=n*sz-i*sz:=by rw[<-Nat.sub_mul];exact Nat.mul_le_mul_right _ (by omega)
    omega
  · obtain⟨q,rfl,hs⟩:=e5 (by omega);have hci:¬c=i:=by omega
    refine⟨q.add (i*sz),by simp[hci],fun k u hu=>?_⟩;rw[BT];refine hs _ u ?_;rw[List.getElem?_take]at hu;split at hu
    · rw[List.getElem?_drop]at hu;exact hu
    · cases hu
structure RdL{α:Type}(F:α->List Value)(sz:Nat)(h:Hp)(ms:List Hp)(v:Value)(l:List α):Prop where
  rd:Rd h ms v sz l.length (l.flatMap F)
  len:∀x,(F x).length=sz
structure OwnL{α:Type}(F:α->List Value)(sz:Nat)(el:TypeId)(m:Hp)(v:Value)(l:List α):Prop where
  own:Own el sz m v l.length (l.flatMap F)
  len:∀x,(F x).length=sz
section
variable {α:Type} {F:α->List Value} {sz:Nat} {h h':Hp} {ms ms':List Hp} {v:Value} {l:List α} {el:TypeId} {m:Hp}
theorem RdL.up(R:RdL F sz h ms v l)(hl:h.le h'):RdL F sz h' ms v l:=⟨R.rd.le hl,R.len⟩
theorem RdL.sub(R:RdL F sz h ms v l)(hm:∀m∈ms,m∈ms'):RdL F sz h ms' v l:=⟨R.rd.sub hm,R.len⟩
theorem RdL.any(R:RdL F sz h [] v l):RdL F sz h ms v l:=R.sub (by simp)
theorem RdL.len_le(R:RdL F sz h ms v l):l.length<=9223372036854775807:=R.rd.len_le
theorem OwnL.rd(O:OwnL F sz el m v l)(hm:m∈ms):RdL F sz h ms v l:=⟨O.own.rd hm,O.len⟩
theorem OwnL.rdh(O:OwnL F sz el m v l)(hm:m.le h):RdL F sz h ms v l:=⟨O.own.rdh hm,O.len⟩
theorem OwnL.frozen(O:OwnL F sz el m v l){h0:Hp}(hd:m.disj h0):RdL F sz (h0.join m) ms v l:=O.rdh (Hp.join_le_right hd)
theorem OwnL.nil(hF:∀x,(F x).length=sz):OwnL F sz el Hp.emp (.slice none 0 0) []:=⟨Own.nil el sz,hF⟩
theorem EX(hF:∀x,(F x).length=sz):∀(l:List α) (j:Nat),(l.flatMap F).drop (j*sz)=(l.drop j).flatMap F
  | [],j=>by simp
  | x::l,0=>by simp
  | x::l,j+1=>by rw[flatMap_cons,Nat.add_mul,Nat.one_mul,Nat.add_comm,<-List.drop_drop,<-hF x,List.drop_left,hF x,EX hF l j];rfl
theorem Gw(hF:∀x,(F x).length=sz):∀(l:List α) (j:Nat),(l.flatMap F).take (j*sz)=(l.take j).flatMap F
  | [],j=>by simp
  | x::l,0=>by simp
  | x::l,j+1=>by rw[flatMap_cons,Nat.add_mul,Nat.one_mul,Nat.add_comm,List.take_append,hF x,List.take_of_length_le (by rw[hF x];omega),Nat.add_sub_cancel_left,Gw hF l j];rfl
theorem Bf(hF:∀x,(F x).length=sz)(l:List α):(l.flatMap F).length=l.length*sz:=by
  induction l with
  | nil=>simp
  | cons x l ih=>rw[flatMap_cons,length_append,hF,ih,List.length_cons,Nat.add_mul];omega
theorem EI(hF:∀x,(F x).length=sz)(l:List α)(j:Nat)(hj:j<l.length)(f:Nat)(u:Value)(hf:(F l[j])[f]?=some u):(l.flatMap F)[j*sz+f]?=some u:=by
  have h1:((l.flatMap F).drop (j*sz))[f]?=some u:=by rw[EX hF,List.drop_eq_getElem_cons hj,flatMap_cons,List.getElem?_append_left (List.getElem?_eq_some_iff.1 hf).1];exact hf
  rwa [List.getElem?_drop]at h1
theorem RdL.cell(R:RdL F sz h ms v l)(hj:j<l.length){f:Nat}(hf:(F l[j])[f]?=some u):Cell h ms (((AF v).add (j*sz)).add f) u:=by obtain⟨c,_,hs⟩:=R.rd.val (by omega);rw[BT];exact hs _ u (EI R.len l j hj f u hf)
theorem RdL.cell0(R:RdL F sz h ms v l)(hj:j<l.length)(hf:(F l[j])[0]?=some u):Cell h ms ((AF v).add (j*sz)) u:=by have:=R.cell hj hf;rwa [Ey]at this
theorem RdL.seg(R:RdL F sz h ms v l)(hj:j<l.length):Seg h ms ((AF v).add (j*sz)) (F l[j]):=fun f u hf=>R.cell hj hf
theorem RdL.sub_(R:RdL F sz h ms v l){i:Nat}(hi:i<=j)(hj:j<=l.length):RdL F sz h ms (B4 sz v i j) ((l.drop i).take (j-i)):=by
  refine⟨?_,R.len⟩;have:=R.rd.sub_ hi hj;rw[EX R.len,Gw R.len]at this;have e:((l.drop i).take (j-i)).length=j-i:=by rw[length_take,List.length_drop];omega
  rw[e];exact this
end
section
variable {P:Program} {o:Oper} {s:AB} {h:Hp} {ms:List Hp} {t el:TypeId} {x y lo hi:Operand} {v:Value} {sz n:Nat} {cs:List Value} {z:Value} {bytes:Nat} {k k':IntKind}
theorem AE{i:Int}(j:Nat)(R:Rd h ms v sz n cs)(ho:o.op=.indexAddr t x y)(ht:P.underlying t=some (.slice el))(hs:Elem P el sz z bytes)(hx:ev s x=some v)(hy:ev s y=some (.int k i))(hi:i=(j:Int))(hlt:j<n):OX P o s h ms (.pointer (some ((AF v).add (j*sz)))):=by obtain⟨c,e,_⟩:=R.val (by omega);rw[e]at hx;exact BM j ho ht hs hx hy hi hlt
theorem Ar(R:Rd h ms v sz n cs)(ho:o.op=.call { callee:=.builtin .len,args:=#[x],argTypes:=#[t] })(ht:P.underlying t=some (.slice el))(hx:ev s x=some v):OX P o s h ms (.int .i64 n):=by obtain⟨a,c,rfl,_⟩:=R.ex;exact Jd (ty:=t) ho ht hx
theorem MI{l r:Int}(i j:Nat)(R:Rd h ms v sz n cs)(ho:o.op=.slice t x (some lo) (some hi) none)(ht:P.underlying t=some (.slice el))(hs:Elem P el sz z bytes)(hx:ev s x=some v)(hlo:ev s lo=some (.int k l))(hhi:ev s hi=some (.int k' r))(el':l=(i:Int))(er:r=(j:Int))(h1:i<=j)(h2:j<=n) :
    OX P o s h ms (B4 sz v i j):=by
  obtain⟨a,c,rfl,e2,e3,e4,e5⟩:=R.ex
  exact Bx fun ρ w hρ _=>by
    have g1:(0:Int)<=l/\l<=(j:Int):=by omega
    have g2:(0:Int)<=r/\r<=(c:Int):=by omega
    have g3:l.toNat=i:=by omega
    have g4:r.toNat=j:=by omega
    simp[execOp,ho,hρ _ _ hx,hρ _ _ hlo,hρ _ _ hhi,Instr.sliceAt,Instr.slice,run_underlying ht,Instr.sliceBounds,Instr.sliceBound,asIntOf,g1,g2,g3,g4,hs.sizeOf,B4]
theorem CE{l:Int}(i:Nat)(R:Rd h ms v sz n cs)(ho:o.op=.slice t x (some lo) none none)(ht:P.underlying t=some (.slice el))(hs:Elem P el sz z bytes)(hx:ev s x=some v)(hlo:ev s lo=some (.int k l))(el':l=(i:Int))(h1:i<=n) :
    OX P o s h ms (B4 sz v i n):=by
  obtain⟨a,c,rfl,e2,e3,e4,e5⟩:=R.ex
  exact Bx fun ρ w hρ _=>by
    have g1:(0:Int)<=l/\l<=(n:Int):=by omega
    have g3:l.toNat=i:=by omega
    simp[execOp,ho,hρ _ _ hx,hρ _ _ hlo,Instr.sliceAt,Instr.slice,run_underlying ht,Instr.sliceBounds,Instr.sliceBound,asIntOf,g1,g3,hs.sizeOf,B4]
theorem DS{r:Int}(j:Nat)(R:Rd h ms v sz n cs)(ho:o.op=.slice t x none (some hi) none)(ht:P.underlying t=some (.slice el))(hs:Elem P el sz z bytes)(hx:ev s x=some v)(hhi:ev s hi=some (.int k r))(er:r=(j:Int))(h2:j<=n) :
    OX P o s h ms (B4 sz v 0 j):=by
  obtain⟨a,c,rfl,e2,e3,e4,e5⟩:=R.ex
  exact Bx fun ρ w hρ _=>by
    have g2:(0:Int)<=r/\r<=(c:Int):=by omega
    have g4:r.toNat=j:=by omega
    simp[execOp,ho,hρ _ _ hx,hρ _ _ hhi,Instr.sliceAt,Instr.slice,run_underlying ht,Instr.sliceBounds,Instr.sliceBound,asIntOf,g2,g4,hs.sizeOf,B4]
end
section
variable {e:Entry} {Q:Exit->Act->World->Prop} {ops:Array Oper} {rest:List Oper} {o:Oper} {s:AB} {h:Hp} {ms:List Hp} {α:Type} {F:α->List Value}
theorem AO{t el:TypeId}{sz d:Nat}{z:Value}{bytes:Nat}{x y:Operand}{v:Value}{m:Hp}{l r:List α}(i:Nat)(O:OwnL F sz el m v l)(R:RdL F sz h ms u r)(ho:o.op=.call { callee:=.builtin .append,args:=#[x,y],argTypes:=#[t,t] })(ht:e.P.underlying t=some (.slice el))(hs:Elem e.P el sz z bytes)(hzs:z.cells.size=sz)(hsz:0<sz)
    (hx:ev s x=some v) (hy:ev s y=some u) (hm:ms[i]?=some m) (h1:∀a,∀c∈F a,c.oneCell'=true) (hb:(l.length+r.length)*bytes<=140737488355328) (hb63:l.length+r.length<=9223372036854775807) (hd:o.dst=some d) (hn:Nat.blt d e.n=true) (hg:o.guard=none)
    (K:∀v' m',OwnL F sz el m' v' (l++r)->WL e ops Q rest ((d,v')::s) h (ms.set i m')):WL e ops Q (o::rest) s h ms:=
  Mb i ho ht hs hzs hsz hx hy hm O.own R.rd (fun c hc=>by obtain⟨a,_,ha⟩:=List.mem_flatMap.1 hc;exact h1 a c ha) hb hb63 hd hn hg fun v' m' O'=>K v' m' ⟨by rw[length_append,List.flatMap_append];exact O',O.len⟩
theorem RdL.one{sz:Nat}{g:Nat}{el:TypeId}{x:α}{cs:List Value}(hF:∀x,(F x).length=sz)(hm:Bn g el cs∈ms)(hc:cs=F x):RdL F sz h ms (.slice (some ⟨g,0,none⟩) 1 1) [x]:=
  ⟨by subst hc;simpa using Rd.blk (h:=h) (n:=1) (c:=1) (sz:=sz) hm (by rw[hF];omega) (Nat.le_refl _) (by omega),hF⟩
end
def cI(n:Int):List Value:=[.int .i64 n]
def cB(b:Bool):List Value:=[.bool b]
theorem Bg:∀n,(cI n).length=1:=fun _=>rfl
theorem Aak:∀n,(cB n).length=1:=fun _=>rfl
theorem Cb:∀a,∀c∈cI a,c.oneCell'=true:=fun a c hc=>by simp[cI]at hc;subst hc;rfl
theorem IR{α:Type}(f:α->Value)(l:List α)(k:Nat)(x:α):(l.flatMap fun y=>[f y]).set k (f x)=(l.set k x).flatMap fun y=>[f y]:=by
  induction l generalizing k with
  | nil=>simp
  | cons a l ih=>
    cases k with
    | zero=>simp
    | succ k=>simp only[flatMap_cons,List.set_cons_succ,List.singleton_append];rw[ih]
theorem Aal(l:List Int)(k:Nat)(x:Int):(l.flatMap cI).set k (.int .i64 x)=(l.set k x).flatMap cI:=IR (Value.int .i64) l k x
theorem WT(n:Nat)(x:Int):replicate n (Value.int .i64 x)=(replicate n x).flatMap cI:=by
  induction n with
  | zero=>rfl
  | succ n ih=>rw[List.replicate_succ,List.replicate_succ,flatMap_cons,ih];rfl
theorem Qr(n:Nat)(x:Bool):replicate n (Value.bool x)=(replicate n x).flatMap cB:=by
  induction n with
  | zero=>rfl
  | succ n ih=>rw[List.replicate_succ,List.replicate_succ,flatMap_cons,ih];rfl
end Go.Eng
namespace Go.Eng
open Go.RowKit
structure Ez(P:Program)(t:TypeId)(i off:Nat):Prop where
  ex:∃fs f n,P.underlying t=some (.struct fs)/\fs[i]?=some f/\f.offset=off/\∀w,(sizeOf f.type).run P w=.ok (n+1) w
structure F4(P:Program)(t:TypeId)(places:Array (Nat×Nat)):Prop where
  ex:∃fs,P.underlying t=some (.struct fs)/\∀w,(fs.mapM fun f=>do pure (f.offset,<-sizeOf f.type):Sem (Array (Nat×Nat))).run P w=.ok places w
section
variable {P:Program} {o:Oper} {s:AB} {h:Hp} {ms:List Hp} {t:TypeId} {x:Operand}
theorem Ti{i off:Nat}{p:Addr}(F:Ez P t i off)(ho:o.op=.fieldAddr t x i)(hx:ev s x=some (.pointer (some p))):OX P o s h ms (.pointer (some (p.add off))):=by
  obtain⟨fs,f,n,h1,h2,h3,h4⟩:=F.ex;have:=Up (h:=h) (ms:=ms) ho h1 h2 h4 hx
  rwa [h3]at this
theorem A3{sz:Nat}{z:Value}{bytes:Nat}{lp:List (Nat×Operand)}{vs:List (Nat×Value)}{places:Array (Nat×Nat)}(S:F4 P t places)(zl:List Value)(ps:List (Nat×List Value))(vl:List Value)(ho:o.op=.build t lp.toArray)(hs:Elem P t sz z bytes)(hz:z.cells=zl.toArray)
    (hv:Xj s lp=some vs) (hps:Gc (places[·]?) zl.length vs ps) (hvl:M6 zl ps=vl):OX P o s h ms (.agg vl.toArray):=by
  obtain⟨fs,h1,h2⟩:=S.ex;exact Vn zl ps vl ho h1 hs hz h2 hv hps hvl
end
theorem Um{P:Program}{w0:World}{h0:Hp}{ms0:List Hp}{n:Nat}{fn:Func}{post:Value->Hp->List Hp->Prop}{s:AB}{h:Hp}{ms:List Hp}{t:Nat}{ty:TypeId}{p:Addr}{d:TypeDesc}{v:Value}
    (hr:fn.results=#[.cell t ty]) (hv:lk s t=some (.pointer (some p))) (ht:P.underlying ty=some d) (hd:H0 d=false) (hc:Cell h ms p v) (hp:post v h ms) :
    NX ⟨P,w0,h0,ms0,n,[]⟩ (bodyPost P fn (RP w0 h0 ms0 post)) .ret s h ms:=fun a w ha hw=>by
  have h1:a.tmps[t]?.getD undef=.pointer (some p):=by rw[ha.slots t _ hv];rfl
  have hag:(isAgg ty).run P w=.ok false w:=by rw[DU ht,hd]
  refine bodyPost_ret (v:=v) ?_ ha.defers ⟨_,h,ms,rfl,hw,hp⟩;simp[results,hr,h1,asAddr,loadVar,hag,hw.st.cell hc]
end Go.Eng
namespace Go.Eng
section
variable {e:Entry} {Q:Exit->Act->World->Prop} {s:AB} {h:Hp} {ms:List Hp} {m:Hp} {α:Type} {F:α->List Value} {sz:Nat} {el:TypeId} {v:Value} {l:List α} {ops:Array Oper}
theorem Bu{c:Code}(O:OwnL F sz el m v l)(k:∀h',h.le h'->RdL F sz h' [] v l->WS e c Q s h' ms):WS e c Q s h (m::ms):=
  fun a w ha hw=>k _ (Hp.le_join _ _) (O.frozen (hw.st.off m mem_cons_self)) a w ha (Ends.freeze hw)
theorem BA{r:List Oper}(O:OwnL F sz el m v l)(k:∀h',h.le h'->RdL F sz h' [] v l->WL e ops Q r s h' ms):WL e ops Q r s h (m::ms):=
  fun a w ha hw=>k _ (Hp.le_join _ _) (O.frozen (hw.st.off m mem_cons_self)) a w ha (Ends.freeze hw)
theorem K3{x:Exit}(O:OwnL F sz el m v l)(k:∀h',h.le h'->RdL F sz h' [] v l->NX e Q x s h' ms):NX e Q x s h (m::ms):=
  fun a w ha hw=>k _ (Hp.le_join _ _) (O.frozen (hw.st.off m mem_cons_self)) a w ha (Ends.freeze hw)
theorem AC{c:Code}{g:Nat}{cs:List Value}(k:∀h',h.le h'->Seg h' [] ⟨g,0,none⟩ cs->WS e c Q s h' ms):WS e c Q s h (Bn g el cs::ms):=
  fun a w ha hw=>k _ (Hp.le_join _ _) (fun j u hu=>⟨by unfold Addr.add;split<;>rfl,cs.toArray,el,(0,0),.inl (by
    rw[Dw]
    exact(Hp.join_le_right (hw.st.off _ mem_cons_self)) _ _ (Hp.one_self _ _)),by rw[D4];simpa using hu⟩) a w ha (Ends.freeze hw)
theorem DP{r:List Oper}{g:Nat}{cs:List Value}(k:∀h',h.le h'->Seg h' [] ⟨g,0,none⟩ cs->WL e ops Q r s h' ms):WL e ops Q r s h (Bn g el cs::ms):=
  fun a w ha hw=>k _ (Hp.le_join _ _) (fun j u hu=>⟨by unfold Addr.add;split<;>rfl,cs.toArray,el,(0,0),.inl (by
    rw[Dw]
    exact(Hp.join_le_right (hw.st.off _ mem_cons_self)) _ _ (Hp.one_self _ _)),by rw[D4];simpa using hu⟩) a w ha (Ends.freeze hw)
theorem BJ{c:Code}(k:WS e c Q s h (Hp.emp::ms)):WS e c Q s h ms:=fun a w ha hw=>k a w ha
  ⟨⟨hw.st.imm,fun m hm=>by
      rcases List.mem_cons.1 hm with rfl|hm
      · intro g o e;cases e
      · exact hw.st.own m hm,fun m hm=>by
      rcases List.mem_cons.1 hm with rfl|hm
      · exact fun _=>.inl rfl
      · exact hw.st.off m hm,List.pairwise_cons.2 ⟨fun _ _ _=>.inl rfl,hw.st.apart⟩⟩,hw.os,hw.tape,hw.output,hw.size,hw.block,hw.le,hw.hnew,fun m hm k hk hne=>by
      rcases List.mem_cons.1 hm with rfl|hm
      · exact absurd rfl hne
      · exact hw.mnew m hm k hk hne⟩
end
end Go.Eng
namespace Go.Eng
open Go.RowKit
variable {a:Act} {pu:List Nat}
def Q0(Q:Exit->Act->World->Prop):Exit->Act->World->Prop:=fun x a w=>x=.normal/\Q .normal a w
theorem Jb{Q:Exit->Act->World->Prop}:¬LetsOut (Q0 Q):=fun h=>by simp[LetsOut,Q0]at h
theorem HQ{e:Entry}{Q:Exit->Act->World->Prop}{s:AB}{h:Hp}{ms:List Hp}(k:NX e Q .normal s h ms):NX e (Q0 Q) .normal s h ms:=fun a w ha hw=>⟨rfl,k a w ha hw⟩
def PX(P:Program)(o:Oper)(s:AB)(v:Value):Prop:=∀ρ,Evs s ρ->∀w,(execOp ρ o).run P w=.ok (.value v) w
def zA(z:AB)(a:Act):Act:={ a with tmps:=a.tmps.mapIdx fun k x=>(lk z k).getD x }
theorem J3{b:Act}(h1:a.tmps=b.tmps)(h2:a.defers=b.defers):a=b:=by cases a;cases b;cases h1;cases h2;rfl
theorem EK(z:AB)(a:Act)(t:Nat):(zA z a).tmps[t]?=(a.tmps[t]?).map fun x=>(lk z t).getD x:=by simp[zA]
theorem F9{z:AB}{d:Option Nat}{v:Value}(h:∀t,d=some t->lk z t=none):zA z (a.put d v)=(zA z a).put d v:=by
  cases d with
  | none=>rfl
  | some d=>
    refine J3 ?_ rfl;apply Array.ext_getElem?;intro i;rw[EK];simp only[Act.put,Array.getElem?_setIfInBounds];have hs:(zA z a).tmps.size=a.tmps.size:=by simp[zA]
    by_cases hd:d=i
    · subst hd;simp only[if_true,hs];by_cases hlt:d<a.tmps.size
      · simp[hlt,h d rfl]
      · simp[hlt]
    · simp only[hd,if_false];rw[EK]
theorem JA{z:AB}{d:Nat}{v:Value}(h:lk z d=some v):zA z (a.put (some d) v)=zA z a:=by
  refine J3 ?_ rfl;apply Array.ext_getElem?;intro i;rw[EK,EK];simp only[Act.put,Array.getElem?_setIfInBounds];by_cases hd:d=i
  · subst hd;by_cases hlt:d<a.tmps.size
    · simp[hlt,h]
    · simp[hlt]
  · simp[hd]
def Li(pu:List Nat)(ops:Array Oper):Bool:=
  Region.noSelect ops &&
  (range ops.size).all fun i=>match ops[i]? with
    | none=>false
    | some o=>
      ((o.looksAt ops).all fun t=>(range ops.size).all fun j=>Ba ops j != some t||(if pu.contains j then FS o j else(!pu.contains i||(match ops[j]? with|some oj=>FS oj i|none=>false)))) &&
      (if pu.contains i then o.guard.isNone&&o.dst.isSome&&((range ops.size).all fun j=>j==i||Ba ops j != o.dst)
       else match o.guard with|none=>true|some (j,_)=>!pu.contains j)
structure POK(pu:List Nat)(ops:Array Oper):Prop where
  nosel:Region.noSelect ops=true
  look:∀i o t j,ops[i]?=some o->t∈o.looksAt ops->Ba ops j=some t->(pu.contains j=true/\FS o j=true)\/(pu.contains j=false/\(pu.contains i=false\/∃oj,ops[j]?=some oj/\FS oj i=true))
  plain:∀i o,ops[i]?=some o->pu.contains i=true->o.guard=none/\(∃d,o.dst=some d)/\∀j,j≠i->∀d,o.dst=some d->Ba ops j≠some d
  guard:∀i o j b,ops[i]?=some o->pu.contains i=false->o.guard=some (j,b)->pu.contains j=false
theorem C5{ops:Array Oper}{j t:Nat}(h:Ba ops j=some t):j<ops.size:=by
  unfold Ba at h;rcases Nat.lt_or_ge j ops.size with h'|h'
  · exact h'
  · rw[Array.getElem?_eq_none h']at h;cases h
theorem JG{ops:Array Oper}(h:Li pu ops=true):POK pu ops:=by
  simp only[Li,Bool.and_eq_true,List.all_eq_true,mem_range]at h;obtain⟨h1,h2⟩:=h;have at_:∀i o,ops[i]?=some o->i<ops.size:=fun i o e=>(Array.getElem?_eq_some_iff.1 e).1;refine⟨h1,?_,?_,?_⟩
  · intro i o t j e ht hd;have:=h2 i (at_ i o e);simp only[e,Bool.and_eq_true,List.all_eq_true,mem_range]at this;have h3:=this.1 t ht j (C5 hd);cases hc:pu.contains j with
    | true=>rw[hc]at h3;simp[hd]at h3;exact .inl ⟨rfl,h3⟩
    | false=>
      rw[hc]at h3;simp[hd]at h3;refine .inr ⟨rfl,?_⟩;rcases h3 with h3|h3
      · exact .inl (by simpa using h3)
      · right
        cases hoj:ops[j]? with
        | none=>rw[hoj]at h3;cases h3
        | some oj=>rw[hoj]at h3;exact⟨oj,rfl,h3⟩
  · intro i o e hi;have:=h2 i (at_ i o e);simp only[e,Bool.and_eq_true,hi,if_true,List.all_eq_true,mem_range]at this;obtain⟨_,⟨g1,g2⟩,g3⟩:=this;refine⟨by simpa using g1,by simpa[Option.isSome_iff_exists] using g2,fun j hj d hd hdj=>?_⟩;have:=g3 j (C5 hdj);simp[hj,hdj,hd]at this
  · intro i o j b e hi hg;have:=h2 i (at_ i o e);simp only[e,Bool.and_eq_true,hi,hg]at this;simpa using this.2
section
variable {P:Program} {ops:Array Oper} {Q:Exit->Act->World->Prop}
theorem Oper.wp_sim{o:Oper}{z:AB}{w:World}{K K':Act->World->Prop}(hx:execOp (zA z a).eval o=execOp a.eval o)(hd:∀t,o.dst=some t->lk z t=none)(hK:∀b w v,b.tmps=(a.put o.dst v).tmps->K' (zA z b) w->K b w)
    (h:o.wp P (zA z a) w K' (Q0 Q)):o.wp P a w K (Q0 Q):=by
  unfold Oper.wp at *;rw[hx]at h;generalize (execOp a.eval o).run P w=r at *;have hv:∀v w,K' ((zA z a).put o.dst v) w->K (a.put o.dst v) w:=fun v w hh=>hK _ _ v rfl (by rw[F9 hd];exact hh);cases r with
  | ok n w'=>
    cases n<;>simp only[Oper.upon]at h ⊢ <;>
      first
        | exact hv _ _ h
        | exact Calls.mono h (fun e w'' he=>by
            cases e
            · exact hv _ _ he
            · exact absurd he.1 (by simp)
            · exact absurd he Jb)
        | exact Rows.mono h (fun _ _ he=>hv _ _ he)
        | exact hK _ _ undef (by cases o.dst<;>rfl) (by rw[F9 hd];exact h)
  | halt x w'=>cases x<;>simp only[Oper.upon]at h ⊢<;>exact absurd h.1 (by simp)
structure Sim(pu:List Nat)(ops:Array Oper)(z:AB)(a0 a:Act)(listed:Array Bool):Prop where
  pure:∀i,pu.contains i=true->listed.getD i false=true->∀d v,Ba ops i=some d->lk z d=some v->d<a.tmps.size->a.tmps[d]?=some v
  old:∀t,(∀j,Ba ops j=some t->listed.getD j false=false)->a.tmps[t]?=a0.tmps[t]?
  size:a.tmps.size=a0.tmps.size
  closed:Closed ops listed
def un(pu:List Nat)(listed:Array Bool):Array Bool:=listed.mapIdx fun i b=>b||pu.contains i
theorem Ic(pu:List Nat)(listed:Array Bool)(i:Nat)(b:Bool)(hi:i<listed.size):(un pu listed).getD i b=(listed.getD i b||pu.contains i):=by simp[un,Array.getD_eq_getD_getElem?,hi]
theorem Vz(pu:List Nat)(listed:Array Bool)(i:Nat):un pu (listed.setIfInBounds i true)=(un pu listed).setIfInBounds i true:=by
  apply Array.ext_getElem?;intro j;simp only[un,Array.getElem?_mapIdx,Array.getElem?_setIfInBounds,Array.size_mapIdx];by_cases hij:i=j
  · subst hij;by_cases hlt:i<listed.size<;>simp[hlt]
  · simp[hij]
theorem Jv(listed:Array Bool){i:Nat}(h:pu.contains i=true):un pu (listed.setIfInBounds i true)=un pu listed:=by
  apply Array.ext_getElem?;intro j;simp only[un,Array.getElem?_mapIdx,Array.getElem?_setIfInBounds];by_cases hij:i=j
  · subst hij;by_cases hlt:i<listed.size
    · have hm:i∈pu:=by simpa using h
      simp[hlt,hm]
    · simp[hlt]
  · simp[hij]
structure ZOK(P:Program)(pu:List Nat)(ops:Array Oper)(s z:AB)(n:Nat):Prop where
  val:∀i o d,pu.contains i=true->ops[i]?=some o->o.dst=some d->∃v,lk z d=some v/\PX P o (z++s) v
  only:∀t v,lk z t=some v->t<n/\∃i,pu.contains i=true/\Ba ops i=some t
theorem Sv{o:Oper}{s:AB}{v:Value}(hs:∀cs b,o.op≠.select cs b)(hl:∀t∈o.looksAt ops,∀u,lk s t=some u->a.tmps[t]?=some u)
    (k:PX P o s v) (w:World):(execOp a.eval o).run P w=.ok (.value v) w:=by
  classical
  rw[execOp_congr (ρ:=a.eval) (ρ':=fun x=>if x∈o.op.operands then a.eval x else(ev s x).getD undef) o hs (fun x hx=>(if_pos hx).symm)];refine k _ (fun x u hu=>?_) w;show(if x∈o.op.operands then a.eval x else(ev s x).getD undef)=u;split
  · rename_i hx;cases x with
    | tmp t=>
      refine Act.eval_of_slot (hl t ?_ u hu);exact mem_append_left _ (List.mem_filterMap.2 ⟨.tmp t,by simpa using hx,rfl⟩)
    | const v=>cases hu;rfl
    | global g=>cases hu;rfl
    | func f=>cases hu;rfl
  · rw[hu];rfl
theorem Yz{s z:AB}{n:Nat}{ds:List Nat}{a0:Act}(ha0:Has n ds a0 s)(hp:POK pu ops)(hb:∀i o,ops[i]?=some o->∀e∈o.after,Region.binds .any e=true->e.on<i)(hz:ZOK P pu ops s z n) :
    ∀fuel fuel' listed a w,Sim pu ops z a0 a listed->listed.size=ops.size->left listed<=fuel->wpAny P .any ops (Q0 Q) fuel' (un pu listed) (zA z a) w->wpAny P .any ops (Q0 Q) fuel listed a w:=by
  -- all is listed
  have alldone:∀fuel' listed a w,Sim pu ops z a0 a listed->listed.size=ops.size->(∀j,j<ops.size->listed.getD j false=true)->wpAny P .any ops (Q0 Q) fuel' (un pu listed) (zA z a) w->Region.ready .any ops listed=[]/\(Q0 Q) .normal a w:=by
    intro fuel' listed a w S hsz hall H
    have noready:∀l':Array Bool,(∀j,j<ops.size->l'.getD j false=true)->Region.ready .any ops l'=[]:=fun l' hl'=>by
      cases hr:Region.ready .any ops l' with
      | nil=>rfl
      | cons x xs=>
        have hx:x∈Region.ready .any ops l':=by rw[hr];exact mem_cons_self
        obtain⟨h0,o,ho,_⟩:=mem_ready.1 hx;have:=hl' x (Array.getElem?_eq_some_iff.1 ho).1;have h2:=Be h0;rw[Array.getD_eq_getD_getElem?,h2]at this;cases this
    have hr':=noready (un pu listed) (fun j hj=>by rw[Ic _ _ _ _ (by omega),hall j hj];rfl)
    have hQ:(Q0 Q) .normal (zA z a) w:=by
      cases fuel' with
      | zero=>exact H.2
      | succ f=>exact H.1 hr'
    have hza:zA z a=a:=by
      refine J3 ?_ rfl;apply Array.ext_getElem?;intro t;rw[EK];cases hl:lk z t with
      | none=>simp
      | some v=>
        obtain⟨hn,i,hi,hd⟩:=hz.only t v hl;have hlt:t<a.tmps.size:=by rw[S.size,ha0.size];exact hn
        rw[S.pure i hi (hall i (C5 hd)) t v hd hl hlt];rfl
    rw[hza]at hQ;exact⟨noready _ hall,hQ⟩
  have hall_of:∀listed:Array Bool,listed.size=ops.size->left listed=0->∀j,j<ops.size->listed.getD j false=true:=fun listed hsz h0 j hj=>by
    have h1:=Ji h0 j;have hjlt:j<listed.size:=by omega
    rw[Array.getD_eq_getD_getElem?]at h1 ⊢;simp[hjlt]at h1 ⊢;exact h1
  intro fuel
  induction fuel with
  | zero=>
    intro fuel' listed a w S hsz hle H;exact alldone fuel' listed a w S hsz (hall_of listed hsz (by omega)) H
  | succ fuel ih=>
    intro fuel' listed a w S hsz hle H;refine⟨fun hr0=>?_,fun i hir=>?_⟩
    · -- nothing is ready: all is listed
      refine(alldone fuel' listed a w S hsz ?_ H).2;intro j
      induction j using Nat.strongRecOn with
      | _ j ihj=>
        intro hj;cases hl:listed.getD j false with
        | true=>rfl
        | false=>
          have ho:ops[j]?=some ops[j]:=by simp[hj]
          have:j∈Region.ready .any ops listed:=mem_ready.2 ⟨by
            have hjlt:j<listed.size:=by omega
            rw[Array.getD_eq_getD_getElem?]at hl ⊢
            simp[hjlt]at hl ⊢;exact hl,_,ho,fun ed hed hbd=>by
              have:=hb j _ ho ed hed hbd
              exact ihj _ this (by omega)⟩
          rw[hr0]at this;cases this
    · obtain⟨hun,o,ho,hall⟩:=mem_ready.1 hir;have hilt:i<ops.size:=(Array.getElem?_eq_some_iff.1 ho).1;have hdi:Ba ops i=o.dst:=by simp[Ba,ho]
      have hsel:∀cs b,o.op≠.select cs b:=fun cs b=>Region.noSelect_spec hp.nosel i o cs b ho;have hls:=IU (Be hun)
      have hset:∀j d,(listed.setIfInBounds i true).getD j d=if j=i then true else listed.getD j d:=fun j d=>by
        by_cases hj:j=i
        · subst hj;simp[show j<listed.size by omega]
        · rw[getD_set_ne d (Ne.symm hj)];simp[hj]
      -- the slots of pure ones that are looked at stand
      have hpl:∀t∈o.looksAt ops,∀v,lk z t=some v->a.tmps[t]?=some v/\∃j,pu.contains j=true/\Ba ops j=some t:=fun t ht v hv=>by
        obtain⟨hn,j,hj,hd⟩:=hz.only t v hv;refine⟨?_,j,hj,hd⟩;rcases hp.look i o t j ho ht hd with ⟨_,h2⟩|⟨h2,_⟩
        · obtain⟨e,he,hbd,rfl⟩:=E6 h2;exact S.pure _ hj (hall e he hbd) t v hd hv (by rw[S.size,ha0.size];exact hn)
        · rw[hj]at h2;cases h2
      have hsame:∀t∈o.looksAt ops,(zA z a).tmps[t]?=a.tmps[t]?:=fun t ht=>by
        rw[EK];cases hl:lk z t with
        | none=>simp
        | some v=>rw[(hpl t ht v hl).1];rfl
      have hx:execOp (zA z a).eval o=execOp a.eval o:=execOp_congr o hsel fun x hx=>by
        cases x with
        | tmp t=>
          have:=hsame t (mem_append_left _ (List.mem_filterMap.2 ⟨.tmp t,by simpa using hx,rfl⟩));simp only[Act.eval];rw[Array.getD_eq_getD_getElem?,this,<-Array.getD_eq_getD_getElem?]
        | const v=>rfl
        | global g=>rfl
        | func f=>rfl
      unfold wpOp;simp only[ho];cases hc:pu.contains i with
      | true=>
        obtain⟨hg,⟨d,hd⟩,huq⟩:=hp.plain i o ho hc;obtain⟨v,hv,hpx⟩:=hz.val i o d hc ho hd;have hw:Region.wanted o (yielded ops a.tmps)=true:=by unfold Region.wanted;rw[hg]
        rw[if_pos hw];refine .inl ?_;unfold Oper.wp;rw[<-hx,Sv (ops:=ops) hsel (fun t ht u hu=>?_) hpx w]
        · show wpAny P .any ops (Q0 Q) fuel (listed.setIfInBounds i true) (a.put o.dst v) w;rw[hd];refine ih fuel' _ _ w ⟨?_,?_,by simp[Act.put,S.size],S.closed.set hir⟩ (by simpa using hsz) (by omega) (by rw[Jv _ hc,JA hv];exact H)
          · intro j hj hlj d' v' hd' hv' hlt;by_cases hji:j=i
            · subst hji;rw[hdi,hd]at hd';cases hd';rw[hv]at hv';cases hv';simp only[Act.put];have:d<a.tmps.size:=by simpa[Act.put] using hlt
              simp[this]
            · rw[hset]at hlj;simp only[hji,if_false]at hlj;have hne:d≠d':=fun e'=>huq j hji d hd (by rw[hd',e']);simp only[Act.put,Array.getElem?_setIfInBounds_ne hne];exact S.pure j hj hlj d' v' hd' hv' (by simpa[Act.put] using hlt)
          · intro t ht
            have hne:d≠t:=fun e'=>by have:=ht i (by rw[hdi,hd,e']);rw[hset]at this;simp at this
            simp only[Act.put,Array.getElem?_setIfInBounds_ne hne]
            exact S.old t fun j hj=>by
              have:=ht j hj;rw[hset]at this;by_cases hji:j=i
              · simp[hji]at this
              · simpa[hji] using this
        · rw[Cm]at hu;cases hl:lk z t with
          | some v'=>rw[hl]at hu;cases hu;rw[hsame t ht];exact(hpl t ht _ hl).1
          | none=>
            rw[hl]at hu;rw[hsame t ht,S.old t fun j hj=>?_]
            · exact ha0.slots t u hu
            · rcases hp.look i o t j ho ht hj with ⟨h1,_⟩|⟨_,h2⟩
              · obtain⟨oj,hoj⟩:∃oj,ops[j]?=some oj:=⟨ops[j]'(C5 hj),by simp[C5 hj]⟩
                have hdj:oj.dst=some t:=by simpa[Ba,hoj] using hj
                obtain⟨v',hv',_⟩:=hz.val j oj t h1 hoj hdj;rw[hl]at hv';cases hv'
              · rcases h2 with h2|⟨oj,hoj,hed⟩
                · rw[hc]at h2;cases h2
                · cases hlj:listed.getD j false with
                  | false=>rfl
                  | true=>
                    obtain⟨e,he,hbd,hon⟩:=E6 hed;have h4:=S.closed j oj hlj hoj e he hbd;rw[hon,Array.getD_eq_getD_getElem?,Be hun]at h4;cases h4
      | false=>
        have hdz:∀t,o.dst=some t->lk z t=none:=fun t ht=>by
          cases hl:lk z t with
          | none=>rfl
          | some v=>
            obtain⟨_,j,hj,hd⟩:=hz.only t v hl;have hji:j≠i:=fun e'=>by rw[e',hc]at hj;cases hj
            obtain⟨oj,hoj⟩:∃oj,ops[j]?=some oj:=⟨ops[j]'(C5 hd),by simp[C5 hd]⟩
            obtain⟨_,_,huq⟩:=hp.plain j oj hoj hj;exact absurd (by rw[hdi,ht]) (huq i (Ne.symm hji) t (by simpa[Ba,hoj] using hd))
        have hir':i∈Region.ready .any ops (un pu listed):=mem_ready.2 ⟨by rw[Ic _ _ _ _ (by omega),hun,hc];rfl,o,ho,fun e he hbd=>by
          have h1:=hb i o ho e he hbd
          rw[Ic _ _ _ _ (by omega),hall e he hbd];rfl⟩
        cases fuel' with
        | zero=>rw[H.1]at hir';cases hir'
        | succ fuel'=>
          have H':=H.2 i hir';rw[<-Vz]at H';unfold wpOp at H';simp only[ho]at H'
          have hwant:Region.wanted o (yielded ops (zA z a).tmps)=Region.wanted o (yielded ops a.tmps):=by
            unfold Region.wanted;cases hg:o.guard with
            | none=>rfl
            | some p=>
              obtain⟨j,b⟩:=p
              have:yielded ops (zA z a).tmps j=yielded ops a.tmps j:=by
                unfold yielded;cases hd:(ops[j]?).bind (·.dst) with
                | none=>rfl
                | some t=>
                  have ht:t∈o.looksAt ops:=by unfold Oper.looksAt;refine mem_append_right _ ?_;simp only[hg];rw[hd];simp
                  simp[hd,hsame t ht]
              simp only[this]
          rw[hwant]at H'
          have hnext:∀b w v,b.tmps=(a.put o.dst v).tmps->wpAny P .any ops (Q0 Q) fuel' (un pu (listed.setIfInBounds i true)) (zA z b) w->wpAny P .any ops (Q0 Q) fuel (listed.setIfInBounds i true) b w:=fun b w v hbt hh=>by
            have hbget:∀t,o.dst≠some t->b.tmps[t]?=a.tmps[t]?:=fun t ht=>by
              rw[hbt];cases hd:o.dst with
              | none=>rfl
              | some d=>
                have:d≠t:=fun e'=>ht (by rw[hd,e']);simp only[Act.put,Array.getElem?_setIfInBounds_ne this]
            have hbs:b.tmps.size=a.tmps.size:=by rw[hbt];cases o.dst<;>simp[Act.put]
            refine ih fuel' _ b w ⟨?_,?_,by rw[hbs,S.size],S.closed.set hir⟩ (by simpa using hsz) (by omega) hh
            · intro j hj hlj d' v' hd' hv' hlt;have hji:j≠i:=fun e'=>by rw[e',hc]at hj;cases hj
              rw[hset]at hlj;simp only[hji,if_false]at hlj;have hne:o.dst≠some d':=fun e'=>by rw[hdz d' e']at hv';cases hv'
              rw[hbget d' hne];exact S.pure j hj hlj d' v' hd' hv' (by rw[<-hbs];exact hlt)
            · intro t ht
              rw[hbget t (fun e'=>by
                have:=ht i (by rw[hdi,e'])
                rw[hset]at this;simp at this)]
              exact S.old t fun j hj=>by
                have:=ht j hj;rw[hset]at this;by_cases hji:j=i
                · simp[hji]at this
                · simpa[hji] using this
          split
          · rename_i hw;rw[if_pos hw]at H';rcases H' with H'|⟨_,H'⟩
            · exact .inl (Oper.wp_sim hx hdz hnext H')
            · exact absurd H' Jb
          · rename_i hw;rw[if_neg hw]at H';exact hnext _ _ undef rfl (by rw[F9 hdz];exact H')
end
def zap(o:Oper):Oper:={ o with dst:=none,op:=.move (.const undef),after:=#[],guard:=none }
def Ed:List Bool->List Oper->List Oper
  | true::m,o::l=>zap o::Ed m l
  | false::m,o::l=>o::Ed m l
  | _,l=>l
def Jq:List Bool->Nat->List Nat
  | [],_=>[]
  | true::m,k=>k::Jq m (k+1)
  | false::m,k=>Jq m (k+1)
theorem Ru:∀(m:List Bool) (k i:Nat),i∈Jq m k<->k<=i/\m[i-k]?=some true
  | [],k,i=>by simp[Jq]
  | b::m,k,i=>by
    have ih:=Ru m (k+1) i;cases b with
    | true=>
      simp only[Jq,mem_cons,ih];by_cases hik:i=k
      · subst hik;simp
      · constructor
        · rintro(h|⟨h1,h2⟩)
          · exact absurd h hik
          · refine⟨by omega,?_⟩;rw[show i-k=(i-(k+1))+1 by omega];simpa using h2
        · rintro⟨h1,h2⟩
          right
          refine⟨by omega,?_⟩;rw[show i-k=(i-(k+1))+1 by omega]at h2;simpa using h2
    | false=>
      simp only[Jq,ih];by_cases hik:i=k
      · subst hik;simp;omega
      · constructor
        · rintro⟨h1,h2⟩;refine⟨by omega,?_⟩;rw[show i-k=(i-(k+1))+1 by omega];simpa using h2
        · rintro⟨h1,h2⟩;refine⟨by omega,?_⟩;rw[show i-k=(i-(k+1))+1 by omega]at h2;simpa using h2
theorem Gq(m:List Bool)(i:Nat):(Jq m 0).contains i=true<->m[i]?=some true:=by rw[List.contains_iff_mem,Ru];simp
theorem IP:∀(m:List Bool) (l:List Oper) (i:Nat),(Ed m l)[i]?=if m[i]?=some true then(l[i]?).map zap else l[i]?
  | [],l,i=>by simp[Ed]
  | b::m,[],i=>by cases b<;>simp[Ed]
  | b::m,o::l,i=>by cases b<;>cases i<;>simp[Ed,IP m l]
theorem JD:∀(m:List Bool) (l:List Oper),(Ed m l).length=l.length
  | [],l=>by simp[Ed]
  | b::m,[]=>by cases b<;>simp[Ed]
  | b::m,o::l=>by cases b<;>simp[Ed,JD m l]
theorem WM{P:Program}{ops ops':Array Oper}{Q:Exit->Act->World->Prop}(pu:List Nat)(hsz:ops'.size=ops.size)(hs:∀i,pu.contains i=false->ops'[i]?=ops[i]?)
    (hg:∀i o j b,ops[i]?=some o->pu.contains i=false->o.guard=some (j,b)->pu.contains j=false) :
    ∀fuel listed a w,(∀i,i<ops.size->pu.contains i=true->listed.getD i false=true)->wpAny P .any ops' Q fuel listed a w->wpAny P .any ops Q fuel listed a w:=by
  have hready:∀listed:Array Bool,(∀i,i<ops.size->pu.contains i=true->listed.getD i false=true)->∀i,i∈Region.ready .any ops listed<->i∈Region.ready .any ops' listed:=by
    intro listed hl i
    have hnp:listed.getD i true=false->i<ops.size->pu.contains i=false:=fun h1 h2=>by
      cases hc:pu.contains i with
      | false=>rfl
      | true=>
        have:=hl i h2 hc;rw[Array.getD_eq_getD_getElem?,Be h1]at this;cases this
    constructor
    · intro h;obtain⟨h1,o,h2,h3⟩:=mem_ready.1 h;exact mem_ready.2 ⟨h1,o,by rw[hs i (hnp h1 (Array.getElem?_eq_some_iff.1 h2).1)];exact h2,h3⟩
    · intro h;obtain⟨h1,o,h2,h3⟩:=mem_ready.1 h;have hlt:=(Array.getElem?_eq_some_iff.1 h2).1;exact mem_ready.2 ⟨h1,o,by rw[<-hs i (hnp h1 (by omega))];exact h2,h3⟩
  have hempty:∀listed:Array Bool,(∀i,i<ops.size->pu.contains i=true->listed.getD i false=true)->Region.ready .any ops listed=[]->Region.ready .any ops' listed=[]:=fun listed hl h=>by
    cases hr:Region.ready .any ops' listed with
    | nil=>rfl
    | cons x xs=>
      have:=(hready listed hl x).2 (by rw[hr];exact mem_cons_self);rw[h]at this;cases this
  have hempty':∀listed:Array Bool,(∀i,i<ops.size->pu.contains i=true->listed.getD i false=true)->Region.ready .any ops' listed=[]->Region.ready .any ops listed=[]:=fun listed hl h=>by
    cases hr:Region.ready .any ops listed with
    | nil=>rfl
    | cons x xs=>
      have:=(hready listed hl x).1 (by rw[hr];exact mem_cons_self);rw[h]at this;cases this
  intro fuel
  induction fuel with
  | zero=>intro listed a w hl H;exact⟨hempty' listed hl H.1,H.2⟩
  | succ fuel ih=>
    intro listed a w hl H;refine⟨fun h=>H.1 (hempty listed hl h),fun i hi=>?_⟩;have H':=H.2 i ((hready listed hl i).1 hi);obtain⟨h1,o,ho,_⟩:=mem_ready.1 hi
    have hnp:pu.contains i=false:=by
      cases hc:pu.contains i with
      | false=>rfl
      | true=>
        have:=hl i (Array.getElem?_eq_some_iff.1 ho).1 hc;rw[Array.getD_eq_getD_getElem?,Be h1]at this;cases this
    have hl':∀j,j<ops.size->pu.contains j=true->(listed.setIfInBounds i true).getD j false=true:=fun j hj hc=>getD_set_true (hl j hj hc);unfold wpOp at H' ⊢;rw[hs i hnp]at H';simp only[ho]at H' ⊢
    have hy:Region.wanted o (yielded ops' a.tmps)=Region.wanted o (yielded ops a.tmps):=by
      unfold Region.wanted;cases hgu:o.guard with
      | none=>rfl
      | some p=>
        obtain⟨j,b⟩:=p
        have:yielded ops' a.tmps j=yielded ops a.tmps j:=by unfold yielded;rw[hs j (hg i o j b ho hnp hgu)]
        simp only[this]
    rw[hy]at H';split
    · rename_i hw;rw[if_pos hw]at H';exact H'.imp (Oper.wp_mono fun a w h=>ih _ a w hl' h) id
    · rename_i hw;rw[if_neg hw]at H';exact ih _ _ _ hl' H'
def PZ(P:Program)(l:List Oper)(n:Nat)(s:AB)(K:AB->Prop):List Nat->AB->Prop
  | [],z=>K z
  | i::r,z=>∃o d v,l[i]?=some o/\o.dst=some d/\d<n/\lk (z++s) d=none/\PX P o (z++s) v/\PZ P l n s K r ((d,v)::z)
theorem PX.mono{P:Program}{o:Oper}{s:AB}{v:Value}{d:Nat}{u:Value}(h:PX P o s v)(hd:lk s d=none):PX P o ((d,u)::s) v:=fun ρ hρ w=>
  h ρ (fun x u' hx=>hρ x u' (by
    cases x with
    | tmp t=>
      have:d≠t:=fun e=>by subst e;simp only[ev]at hx;rw[hd]at hx;cases hx
      simp only[ev]at hx ⊢;rw[Bv _ _ this];exact hx
    | const v=>exact hx
    | global g=>exact hx
    | func f=>exact hx)) w
theorem Rl{P:Program}{l:List Oper}{n:Nat}{s:AB}{K:AB->Prop}:∀(r done:List Nat) (z:AB),
    (∀i∈done,∀o d,l[i]?=some o->o.dst=some d->∃v,lk z d=some v/\PX P o (z++s) v)->(∀t v,lk z t=some v->t<n/\∃i∈done,Ba l.toArray i=some t)->PZ P l n s K r z →
    ∃zf,K zf/\(∀i,i∈done\/i∈r->∀o d,l[i]?=some o->o.dst=some d->∃v,lk zf d=some v/\PX P o (zf++s) v)/\(∀t v,lk zf t=some v->t<n/\∃i,(i∈done\/i∈r)/\Ba l.toArray i=some t)
  | [],done,z,h1,h2,h3=>⟨z,h3,fun i hi=>h1 i (hi.resolve_right (by simp)),fun t v hv=>by
      obtain⟨g1,i,g2,g3⟩:=h2 t v hv
      exact⟨g1,i,.inl g2,g3⟩⟩
  | j::r,done,z,h1,h2,⟨o,d,v,e1,e2,e3,e4,e5,e6⟩=>by
    have hzd:lk z d=none:=by
      rw[Cm]at e4;cases hl:lk z d with
      | none=>rfl
      | some u=>rw[hl]at e4;cases e4
    obtain⟨zf,g1,g2,g3⟩:=Rl r (j::done) ((d,v)::z) (fun i hi o' d' ho' hd'=>by
      rcases List.mem_cons.1 hi with rfl|hi
      · rw[e1]at ho';cases ho';rw[e2]at hd';cases hd';exact⟨v,Bw _ _ _,e5.mono e4⟩
      · obtain⟨v',f1,f2⟩:=h1 i hi o' d' ho' hd';refine⟨v',?_,f2.mono e4⟩;have:d≠d':=fun e=>by subst e;rw[hzd]at f1;cases f1
        rw[Bv _ _ this];exact f1) (fun t u hu=>by
      by_cases hdt:d=t
      · subst hdt;exact⟨e3,j,by simp,by simp[Ba,e1,e2]⟩
      · rw[Bv _ _ hdt]at hu;obtain⟨f1,i,f2,f3⟩:=h2 t u hu
        exact⟨f1,i,mem_cons_of_mem _ f2,f3⟩) e6
    refine⟨zf,g1,fun i hi=>g2 i ?_,fun t u hu=>?_⟩
    · rcases hi with hi|hi
      · exact .inl (mem_cons_of_mem _ hi)
      · rcases List.mem_cons.1 hi with rfl|hi
        · exact .inl mem_cons_self
        · exact .inr hi
    · obtain⟨f1,i,f2,f3⟩:=g3 t u hu;refine⟨f1,i,?_,f3⟩;rcases f2 with f2|f2
      · rcases List.mem_cons.1 f2 with rfl|f2
        · exact .inr mem_cons_self
        · exact .inl f2
      · exact .inr (mem_cons_of_mem _ f2)
def Ix(ops:Array Oper):Bool:=(range ops.size).all fun i=>match ops[i]? with|none=>false|some o=>backs o i
theorem IT{ops:Array Oper}(h:Ix ops=true):∀i o,ops[i]?=some o->∀e∈o.after,Region.binds .any e=true->e.on<i:=by intro i o e ed hed hb;simp only[Ix,List.all_eq_true,mem_range]at h;have:=h i (Array.getElem?_eq_some_iff.1 e).1;simp only[e]at this;have h4:=Array.all_eq_true_iff_forall_mem.1 this ed hed;simp[hb]at h4;exact h4
theorem DJ{e:Entry}{id:Nat}{l:List Oper}{Q:Exit->Act->World->Prop}{s:AB}{h:Hp}{ms:List Hp}(np:Nat)(m:List Bool)(hm:e.P.follows .mixedOrders=true)(hp:KG (Jq m 0) (Ed m l).toArray np=true)(hpu:Li (Jq m 0) l.toArray=true)(hbk:Ix l.toArray=true)
    (k:PZ e.P l e.n s (fun z=>I8 e.n ((Ed m l).take np) (z++s)=true/\WR e (Ed m l).toArray (Q0 Q) ((Ed m l).drop np) h ms ((Ed m l).take np) (z++s) [] []) (Jq m 0) []):WS e (.region id l.toArray true) Q s h ms:=by
  intro a w ha hw;obtain⟨z,⟨hf,kw⟩,hz1,hz2⟩:=Rl _ [] [] (by simp) (fun t v hv=>by cases hv) k;have P:=KA hp;have PO:=JG hpu;have HB:=IT hbk;have hlen:(Ed m l).length=l.length:=JD m l;have hmem:∀i,(Jq m 0).contains i=true<->i∈Jq m 0:=fun i=>List.contains_iff_mem
  have hZ:ZOK e.P (Jq m 0) l.toArray s z e.n:=⟨fun i o d hi ho hd=>hz1 i (.inr ((hmem i).1 hi)) o d (by simpa using ho) hd,fun t v hv=>by
    obtain⟨g1,i,g2,g3⟩:=hz2 t v hv
    exact⟨g1,i,(hmem i).2 (g2.resolve_left (by simp)),g3⟩⟩
  refine wp_region_any hm (Q:=Q) ?_
  have hq:wpAny e.P .any l.toArray (Q0 Q) l.toArray.size (Array.replicate l.toArray.size false) a { w with drawn:=w.drawn+1 }:=by
    refine Yz ha PO HB hZ _ l.toArray.size _ a _ ⟨fun i _ hi=>(by rw[BP]at hi;cases hi),fun _ _=>rfl,rfl,fun i o hi=>(by rw[BP]at hi;cases hi)⟩ (by simp) (by
      unfold left;rw[Array.toList_replicate];exact Nat.le_trans (List.countP_le_length) (by simp)) ?_
    have hug:∀i,(un (Jq m 0) (Array.replicate l.toArray.size false)).getD i false=(Jq m 0).contains i:=fun i=>by
      rcases Nat.lt_or_ge i l.length with hi|hi
      · rw[Ic _ _ _ _ (by simpa using hi),BP];rfl
      · rw[Array.getD_eq_getD_getElem?,Array.getElem?_eq_none (by simpa[un] using hi)];cases hc:(Jq m 0).contains i with
        | false=>rfl
        | true=>
          have h1:=P.low i hc;simp[hlen]at h1;omega
    refine WM (ops':=(Ed m l).toArray) (Jq m 0) (by simp[hlen]) (fun i hi=>?_) PO.guard _ _ _ _ (fun i hi hc=>by rw[hug];exact hc) ?_
    · have:¬m[i]?=some true:=fun h'=>by rw[(Gq m i).2 h']at hi;cases hi
      simp only[List.getElem?_toArray];rw[IP,if_neg this]
    · refine N6 np hp hf kw (by simp[un,hlen]) hug (fun i o hi ho ed hed hb=>?_) (fun i hi=>?_) ?_ ⟨ha.defers,by simp[zA,ha.size],fun t u hu=>?_⟩ hw
      · rw[hug]at hi;have:=(Gq m i).1 hi;simp only[List.getElem?_toArray]at ho;rw[IP,if_pos this]at ho;cases hl:l[i]? with
        | none=>rw[hl]at ho;cases ho
        | some o'=>rw[hl]at ho;cases ho;simp[zap]at hed
      · have:=(Gq m i).1 hi;unfold Ba;simp only[List.getElem?_toArray];rw[IP,if_pos this];cases l[i]?<;>rfl
      · unfold left;refine Nat.le_trans (List.countP_le_length) ?_;simp[un]
      · rw[EK];rw[Cm]at hu;cases hl:lk z t with
        | some v=>
          rw[hl]at hu;cases hu;have hlt:t<a.tmps.size:=by rw[ha.size];exact(hz2 t _ hl).1
          simp[hlt]
        | none=>rw[hl]at hu;rw[ha.slots t u hu];rfl
  -- the end alone
  have hmono:∀fuel listed a w,wpAny e.P .any l.toArray (Q0 Q) fuel listed a w->wpAny e.P .any l.toArray Q fuel listed a w:=by
    intro fuel
    induction fuel with
    | zero=>intro listed a w H;exact⟨H.1,H.2.2⟩
    | succ fuel ih=>
      intro listed a w H;refine⟨fun h=>(H.1 h).2,fun i hi=>?_⟩;have H':=H.2 i hi;unfold wpOp at H' ⊢;split
      · rename_i ho;simp only[ho]at H';exact ih _ _ _ H'
      · rename_i o ho;simp only[ho]at H';split
        · rename_i hw;rw[if_pos hw]at H';rcases H' with H'|⟨_,H'⟩
          · refine .inl ?_;unfold Oper.wp at *;generalize (execOp a.eval o).run e.P w=r at *;cases r with
            | ok n w'=>
              cases n<;>simp only[Oper.upon]at H' ⊢ <;>
                first
                  | exact ih _ _ _ H'
                  | exact Calls.mono H' (fun x w'' he=>by
                      cases x
                      · exact ih _ _ _ he
                      · exact absurd he.1 (by simp)
                      · exact absurd he Jb)
                  | exact Rows.mono H' (fun _ _ he=>ih _ _ _ he)
            | halt x w'=>cases x<;>simp only[Oper.upon]at H' ⊢<;>exact absurd H'.1 (by simp)
          · exact absurd H' Jb
        · rename_i hw;rw[if_neg hw]at H';exact ih _ _ _ H'
  exact hmono _ _ _ _ hq
section
variable {P:Program} {l:List Oper} {n:Nat} {s z:AB} {K:AB->Prop} {r:List Nat} {i d:Nat} {o:Oper} {v:Value}
theorem DW(ho:l[i]?=some o)(hd:o.dst=some d)(hn:Nat.blt d n=true)(hf:lk (z++s) d=none)(hx:PX P o (z++s) v)(k:PZ P l n s K r ((d,v)::z)):PZ P l n s K (i::r) z:=
  ⟨o,d,v,ho,hd,Nat.le_of_ble_eq_true hn,hf,hx,k⟩
theorem Ci{x:Operand}(ho:o.op=.move x)(hx:ev s x=some v):PX P o s v:=fun ρ hρ w=>by simp[execOp,ho,hρ _ _ hx]
end
section
variable {e:Entry} {ops:Array Oper} {Q:Exit->Act->World->Prop} {tl:List Oper} {h:Hp} {ms:List Hp} {l:List Oper} {o:Oper} {s:AB} {q:List (Nat×VP)} {al:List (Nat×Nb)}
theorem DY(hd:o.dst=none)(hg:o.guard=none)(ho:o.op=.move (.const undef))(k:WR e ops Q tl h ms l s q al):WR e ops Q tl h ms (o::l) s q al:=
  .inl ⟨undef,.inl ⟨.plain hg,Au ho rfl⟩,by rw[hd];exact k⟩
end
end Go.Eng
namespace Go.Eng
open Go.RowKit
section
variable {P:Program} {o:Oper} {s:AB} {t u:TypeId} {x y:Operand} {a b:Int}
theorem M9(ho:o.op=.binOp .add t x y u)(hx:ev s x=some (.int .i64 a))(hy:ev s y=some (.int .i64 b))(hr:-9223372036854775808<=a+b/\a+b<=9223372036854775807):PX P o s (.int .i64 (a+b)):=fun ρ hρ w=>by
  have:(execOp ρ o).run P w=.ok (.value (.int .i64 (IntKind.i64.wrap (a+b)))) w:=by simp[execOp,ho,hρ _ _ hx,hρ _ _ hy,go_sem]
  rwa [CX hr]at this
theorem MS(ho:o.op=.binOp .sub t x y u)(hx:ev s x=some (.int .i64 a))(hy:ev s y=some (.int .i64 b))(hr:-9223372036854775808<=a-b/\a-b<=9223372036854775807):PX P o s (.int .i64 (a-b)):=fun ρ hρ w=>by
  have:(execOp ρ o).run P w=.ok (.value (.int .i64 (IntKind.i64.wrap (a-b)))) w:=by simp[execOp,ho,hρ _ _ hx,hρ _ _ hy,go_sem]
  rwa [CX hr]at this
end
section
variable {e:Entry} {Q:Exit->Act->World->Prop} {ops:Array Oper} {rest:List Oper} {o:Oper} {s:AB} {h:Hp} {ms:List Hp} {α:Type} {F:α->List Value} {l:List α} {v:Value} {m:Hp} {el:TypeId} {sz:Nat}
theorem SI{t:TypeId}{x y:Operand}{u:Value}{z:Value}{bytes k:Nat}{l':List α}(i:Nat)(O:OwnL F sz el m v l)(ho:o.op=.store t x y)(hs:Elem e.P t 1 z bytes)(hx:ev s x=some (.pointer (some ((AF v).add k))))(hy:ev s y=some u)(h1:u.oneCell'=true)
    (hm:ms[i]?=some m) (hk:k<l.length*sz) (hset:(l.flatMap F).set k u=l'.flatMap F) (hl:l'.length=l.length) (hd:o.dst=none) (hg:o.guard=none)
    (K:∀m',OwnL F sz el m' v l'->WL e ops Q rest s h (ms.set i m')):WL e ops Q (o::rest) s h ms:=by
  obtain⟨⟨h2,h3⟩,hF⟩:=O;rcases h3 with ⟨rfl,h4,rfl⟩|⟨g,cap,spare,rfl,rfl,e1,e2,e3⟩
  · rw[h4]at hk;simp at hk
  · refine AS i k ho hs hx hy h1 hm rfl (by rw[length_append];omega) hd hg (K _ ⟨⟨?_,.inr ⟨g,cap,spare,by rw[hl],?_,?_,by omega,e3⟩⟩,hF⟩)
    · rw[<-hset,length_set,h2,hl]
    · rw[List.set_append_left _ _ (by omega),hset]
    · rw[<-hset,length_append,length_set,<-length_append];exact e1
theorem CK{f:α->Value}{t:TypeId}{x y:Operand}{z:Value}{bytes:Nat}{a:α}(i j:Nat)(hF:∀x,F x=[f x])(O:OwnL F 1 el m v l)(ho:o.op=.store t x y)(hs:Elem e.P t 1 z bytes)(hx:ev s x=some (.pointer (some ((AF v).add (j*1)))))(hy:ev s y=some (f a))(h1:(f a).oneCell'=true)
    (hm:ms[i]?=some m) (hj:j<l.length) (hd:o.dst=none) (hg:o.guard=none)
    (K:∀m',OwnL F 1 el m' v (l.set j a)->WL e ops Q rest s h (ms.set i m')):WL e ops Q (o::rest) s h ms:=by
  have hF':F=fun y=>[f y]:=funext hF;refine SI i O ho hs hx hy h1 hm (by omega) ?_ (by simp) hd hg K;rw[hF',Nat.mul_one];exact IR f l j a
end
end Go.Eng
namespace Go.Eng
open Go.RowKit
theorem FnV.ofCalls{P:Program}{f:FuncId}{args:Array Value}{h:Hp}{ms:List Hp}{v:Value}(k:∀w,Calls P f args w (fun e w'=>e=.returned v/\w'=w)):FnV P f args h ms v:=
  fun w hw=>(k w).mono fun x w' ⟨e1,e2⟩=>⟨e1,by rw[e2];exact Ext.refl _⟩
theorem D0{n:Int}(hn:0<=n/\n<=18446744073709551615):IntKind.u64.wrap n=n:=IntWalk.u64_in n hn
section
variable {P:Program} {o:Oper} {s:AB} {h:Hp} {ms:List Hp} {t u:TypeId} {x y:Operand} {a b n:Nat} {k:IntKind}
theorem Rb(ho:o.op=.binOp .shl t x y u)(hx:ev s x=some (.int .u64 a))(hy:ev s y=some (.int k n))(hn:n<=64):OX P o s h ms (.int .u64 ((a*2^n%18446744073709551616:Nat):Int)):=
  Bx fun ρ w hρ _=>by
    have h1:¬((n:Int)<0):=by omega
    have h2:min n 64=n:=Nat.min_eq_left hn
    have h3:IntKind.u64.wrap ((a:Int)*2^n)=((a*2^n%18446744073709551616:Nat):Int):=by simp[IntKind.wrap,IntKind.bits,IntKind.signed]
    simp[execOp,ho,hρ _ _ hx,hρ _ _ hy,Op.shift,h1,IntKind.bits,h2,h3,go_sem]
theorem DN(ho:o.op=.binOp .shr t x y u)(hx:ev s x=some (.int .u64 a))(hy:ev s y=some (.int k n))(hn:n<=64):OX P o s h ms (.int .u64 ((a/2^n:Nat):Int)):=
  Bx fun ρ w hρ _=>by
    have h1:¬((n:Int)<0):=by omega
    have h2:min n 64=n:=Nat.min_eq_left hn
    have h3:(a:Int).fdiv (2^n)=((a/2^n:Nat):Int):=by rw[Int.fdiv_eq_ediv_of_nonneg _ (Int.le_of_lt (Int.pow_pos (by decide)))];simp
    simp[execOp,ho,hρ _ _ hx,hρ _ _ hy,Op.shift,h1,IntKind.bits,h2,h3,go_sem]
theorem Yg(ho:o.op=.binOp .and t x y u)(hx:ev s x=some (.int .u64 a))(hy:ev s y=some (.int .u64 b))(ha:a<18446744073709551616)(hb:b<18446744073709551616):OX P o s h ms (.int .u64 ((a &&& b:Nat):Int)):=
  Bx fun ρ w hρ _=>by
    have h0:a &&& b<=a:=Nat.and_le_left
    have h3:IntKind.u64.wrap (((BitVec.ofNat 64 a) &&& (BitVec.ofNat 64 b)).toNat:Int)=((a &&& b:Nat):Int):=by rw[BitVec.toNat_and,BitVec.toNat_ofNat,BitVec.toNat_ofNat,Nat.mod_eq_of_lt (by omega),Nat.mod_eq_of_lt (by omega)];exact D0 (by omega)
    simp[execOp,ho,hρ _ _ hx,hρ _ _ hy,Op.intBits,IntKind.bits,go_sem];exact h3
end
end Go.Eng
namespace Go.Eng
open Go.RowKit
section
variable {e:Entry} {Q:Exit->Act->World->Prop} {ops:Array Oper} {rest:List Oper} {s:AB} {h:Hp} {ms:List Hp}
theorem Kr{α:Type}:∀(l:List α) (i:Nat) (x:α),l[i]?=some x->l.Perm (x::l.eraseIdx i)
  | [],_,_,h=>by cases h
  | a::l,0,x,h=>by simp at h;subst h;exact List.Perm.refl _
  | a::l,i+1,x,h=>by rw[List.eraseIdx_cons_succ];exact((Kr l i x (by simpa using h)).cons a).trans (List.Perm.swap _ _ _)
theorem Fx{c:Code}{α:Type}{F:α->List Value}{sz:Nat}{el:TypeId}{v:Value}{l:List α}{m:Hp}(i:Nat)(O:OwnL F sz el m v l)(hm:ms[i]?=some m)(k:∀h',h.le h'->RdL F sz h' [] v l->WS e c Q s h' (ms.eraseIdx i)):WS e c Q s h ms:=
  Iq (Kr ms i _ hm) (Bu O k)
end
end Go.Eng
namespace Go.Eng
open Go.RowKit
section
variable {e:Entry} {Q:Exit->Act->World->Prop} {ops:Array Oper} {rest:List Oper} {o:Oper} {s:AB} {h:Hp} {ms:List Hp}
theorem Ug{j dj:Nat}{b:Bool}{oj:Oper}(hg:o.guard=some (j,b))(hj:ops[j]?=some oj)(hdj:oj.dst=some dj)(hv:lk s dj=some (.bool b))
    (k:WL e ops Q ({ o with guard:=none }::rest) s h ms):WL e ops Q (o::rest) s h ms:=fun a w ha hw=>by
  have h1:=k a w ha hw;unfold wpList at h1 ⊢;rw[if_pos (by simp[Region.wanted])]at h1;rw[if_pos (by simp[Region.wanted,hg,ha.yields hj hdj hv])];exact h1
end
end Go.Eng
namespace Go.Eng
open Go.RowKit Go.ChangeShapes Go.WideShapes Go.Deep
def whole(w:World):Hp:=fun g=>w.heap[g]?
theorem St.whole(w:World):St w (whole w) []:=⟨fun _ _ h=>h,by simp,by simp,List.Pairwise.nil⟩
theorem Cell.ofW{w:World}{ms:List Hp}{a:Addr}{v:Value}(h:w.cell? a=some v):Cell (whole w) ms a v:=by
  unfold World.cell? at h;split at h
  · rename_i c el fr hb;split at h
    · cases h
    · rename_i hs;exact⟨by simpa using hs,c,el,fr,.inl hb,h⟩
  · cases h
theorem JE{α:Type}{Q:Nat->α->Prop}:∀n,(∀i,i<n->∃a,Q i a)->∃l:List α,l.length=n/\∀i (hi:i<l.length),Q i l[i]
  | 0,_=>⟨[],rfl,fun i hi=>by simp at hi⟩
  | n+1,h=>by
    obtain⟨l,hl,hq⟩:=JE n fun i hi=>h i (by omega);obtain⟨a,ha⟩:=h n (by omega);refine⟨l++[a],by simp[hl],fun i hi=>?_⟩;rw[List.getElem_append];split
    · exact hq i (by assumption)
    · have:i=n:=by simp at hi;omega
      subst this;simpa using ha
section
variable {H:Type} {enc:TypeId×Value->H} {P:Program} {w:World} {base:Nat} {spare:Nat->Bool} {held:Bool}
theorem NY{α:Type}{F:α->List Value}{Ok:α->Prop}{sz:Nat}{t e:TypeId}{fuel:Nat}{v:Value}{x:DataW H×List MemPlace}(ht:P.underlying t=some (.slice e))(hC:P.cellsOf e=sz)(hF:∀x,(F x).length=sz)(hsz:0<sz)
    (hel:∀n cs y,DataW.trod enc P w base spare held n e cs=some y->∃a,cs=F a/\Ok a) (h:DataW.trod enc P w base spare held fuel t [v]=some x):∃l,RdL F sz (whole w) [] v l/\∀a∈l,Ok a:=by
  rcases open_slice ht h with ⟨h0,_⟩|⟨a,len,cap,m,n,D,Pl,hcs,hb,hl,hm,hmm,hx,hi⟩
  · simp only[List.cons.injEq,and_true]at h0;subst h0;exact⟨[],⟨⟨none,0,rfl,by simp,by omega,by simp,fun h=>by simp at h⟩,hF⟩,by simp⟩
  · simp only[List.cons.injEq,and_true]at hcs;subst hcs;rw[hC]at hi;have hlm:len<=m:=by rw[hmm];split<;>omega
    obtain⟨l,hll,hq⟩:=JE (α:=α) (Q:=fun i b=>w.cells? base (a.add (i*sz)) sz=some (F b)/\Ok b) len fun i hi'=>by obtain⟨cs,h1,h2⟩:=hi i (by omega);obtain⟨b,rfl,h3⟩:=hel n cs _ h2;exact⟨b,h1,h3⟩
    refine⟨l,⟨⟨some a,cap,by rw[hll],by omega,by unfold maxLen at hm;omega,Bf hF l,fun _=>⟨a,rfl,fun j u hj=>?_⟩⟩,hF⟩,fun b hb=>?_⟩
    · have hjl:=(List.getElem?_eq_some_iff.1 hj).1;rw[Bf hF l]at hjl;have h1:j/sz<l.length:=Nat.div_lt_of_lt_mul (by rw[Nat.mul_comm];exact hjl);have h2:j%sz<sz:=Nat.mod_lt _ hsz;have h3:j/sz*sz+j%sz=j:=by rw[Nat.mul_comm];exact Nat.div_add_mod j sz
      have h4:=EI hF l (j/sz) h1 (j%sz) ((F l[j/sz])[j%sz]'(by rw[hF];exact h2)) (List.getElem?_eq_getElem _);rw[h3,hj]at h4;have h5:=Option.some.inj h4;obtain⟨_,_,hat⟩:=World.cells?_some (hq (j/sz) h1).1;have h6:=hat (j%sz) h2;rw[BT,h3]at h6;refine Cell.ofW (h6.trans ?_);rw[List.getElem?_eq_getElem (by rw[hF];exact h2),<-h5]
    · obtain⟨i,hi',rfl⟩:=List.getElem_of_mem hb;exact(hq i hi').2
end
end Go.Eng
namespace Go.Eng
open Go.RowKit
section
variable {e:Entry} {ops:Array Oper} {Q:Exit->Act->World->Prop} {fuel:Nat} {listed:Array Bool} {s:AB} {h:Hp} {ms:List Hp}
theorem Z3{P:Program}:∀fuel listed a w,wpAny P .any ops (Q0 Q) fuel listed a w->wpAny P .any ops Q fuel listed a w:=by
  intro fuel
  induction fuel with
  | zero=>intro listed a w H;exact⟨H.1,H.2.2⟩
  | succ fuel ih=>
    intro listed a w H;refine⟨fun h=>(H.1 h).2,fun i hi=>?_⟩;have H':=H.2 i hi;unfold wpOp at H' ⊢;split
    · rename_i ho;simp only[ho]at H';exact ih _ _ _ H'
    · rename_i o ho;simp only[ho]at H';split
      · rename_i hw;rw[if_pos hw]at H';rcases H' with H'|⟨_,H'⟩
        · refine .inl ?_;unfold Oper.wp at *;generalize (execOp a.eval o).run P w=r at *;cases r with
          | ok n w'=>
            cases n<;>simp only[Oper.upon]at H' ⊢ <;>
              first
                | exact ih _ _ _ H'
                | exact Calls.mono H' (fun x w'' he=>by
                    cases x
                    · exact ih _ _ _ he
                    · exact absurd he.1 (by simp)
                    · exact absurd he Jb)
                | exact Rows.mono H' (fun _ _ he=>ih _ _ _ he)
          | halt x w'=>cases x<;>simp only[Oper.upon]at H' ⊢<;>exact absurd H'.1 (by simp)
        · exact absurd H' Jb
      · rename_i hw;rw[if_neg hw]at H';exact ih _ _ _ H'
end
end Go.Eng
namespace Go.Eng
open Go.RowKit
structure MM{κ:Type}(P:Program)(kt:TypeId)(K:κ->Value)(Ok:κ->Prop):Prop where
  law:Maps.Keyed P kt
  inj:∀a b,K a=K b->a=b
  key:∀a,Ok a->∃l,keyOf P kt (K a)=some l
section
variable {κ ν:Type} (K:κ->Value) (V:ν->Value)
def T5(p:(κ×ν)×Nat):MapEntry:=⟨K p.1.1,V p.1.2,p.2⟩
structure CO(g:Nat)(Ok:κ->Prop)(m:Hp)(T:List (κ×ν))(bs:List Nat):Prop where
  ex:∃es clock,m=Hp.one g (.map es clock)/\es.toList=(T.zip bs).map (T5 K V)/\∀b∈bs,b<clock
  len:bs.length=T.length
  up:bs.Pairwise (· < ·)
  keys:(T.map Prod.fst).Nodup
  ok:∀p∈T,Ok p.1
end
theorem Mu{α:Type}{l:List α}(hn:l.Nodup){i j:Nat}{a:α}(h1:l[i]?=some a)(h2:l[j]?=some a):i=j:=by
  obtain⟨i1,i2⟩:=List.getElem?_eq_some_iff.1 h1;obtain⟨j1,j2⟩:=List.getElem?_eq_some_iff.1 h2;have hp:=List.pairwise_iff_getElem.1 hn;rcases Nat.lt_trichotomy i j with h|h|h
  · exact absurd (i2.trans j2.symm) (hp i j i1 j1 h)
  · exact h
  · exact absurd (j2.trans i2.symm) (hp j i j1 i1 h)
section
variable {κ ν:Type} [DecidableEq κ]
def Bi(T:List (κ×ν))(a:κ):Option ν:=(T.find? fun p=>decide (p.1=a)).map Prod.snd
theorem D5{T:List (κ×ν)}(hn:(T.map Prod.fst).Nodup){j:Nat}{a:κ}{x:ν}(h:T[j]?=some (a,x)):Bi T a=some x:=by
  induction T generalizing j with
  | nil=>simp at h
  | cons p T ih=>
    unfold Bi;rw[List.find?_cons];cases j with
    | zero=>simp at h;subst h;simp
    | succ j=>
      have h':T[j]?=some (a,x):=by simpa using h
      have hne:p.1≠a:=fun e=>by rw[map_cons,List.nodup_cons]at hn;exact hn.1 (List.mem_map.2 ⟨(a,x),List.mem_of_getElem? h',e.symm⟩)
      simp only[hne,decide_false];rw[map_cons,List.nodup_cons]at hn;exact ih hn.2 h'
theorem CZ{T:List (κ×ν)}{a:κ}(h:a ∉ T.map Prod.fst):Bi T a=none:=by
  unfold Bi
  rw[List.find?_eq_none.2 fun p hp=>by
    simp only[decide_eq_true_eq]
    exact fun e=>h (List.mem_map.2 ⟨p,hp,e⟩)]
  rfl
end
section
variable {κ ν:Type} [DecidableEq κ] {K:κ->Value} {V:ν->Value} {Ok:κ->Prop} {P:Program} {kt et t:TypeId} {g:Nat} {m:Hp} {T:List (κ×ν)} {bs:List Nat}
theorem I1(L:MM P kt K Ok)(hn:(T.map Prod.fst).Nodup)(hok:∀p∈T,Ok p.1)(hl:bs.length=T.length){es:Array MapEntry}(he:es.toList=(T.zip bs).map (T5 K V))(w:World)(a:κ)(ha:Ok a) :
    ((Instr.findKey kt (K a) es.toList).run P w=.ok none w/\a ∉ T.map Prod.fst)\/∃(j:Nat) (x:ν) (b:Nat),(Instr.findKey kt (K a) es.toList).run P w=.ok (some (j,V x)) w/\T[j]?=some (a,x)/\bs[j]?=some b/\es[j]?=some ⟨K a,V x,b⟩:=by
  obtain⟨l,hk⟩:=L.key a ha
  rcases L.law.find w hk es.toList (fun e hmem=>by
    rw[he]at hmem;obtain⟨p,hp,rfl⟩:=List.mem_map.1 hmem
    exact L.key p.1.1 (hok p.1 (List.of_mem_zip hp).1)) with ⟨h1,h2⟩|⟨j,e,h1,h2,h3⟩
  · refine .inl ⟨h1,fun hmem=>?_⟩;obtain⟨p,hp,rfl⟩:=List.mem_map.1 hmem;obtain⟨j,hj,e⟩:=List.getElem_of_mem hp;have hjb:j<bs.length:=by omega
    refine h2 (T5 K V (p,bs[j])) ?_ rfl;rw[he];exact List.mem_map.2 ⟨(p,bs[j]),List.mem_of_getElem? (i:=j) (by rw[List.getElem?_zip_eq_some];exact⟨by rw[List.getElem?_eq_getElem hj,e],List.getElem?_eq_getElem hjb⟩),rfl⟩
  · rw[he,List.getElem?_map]at h2;cases hz:(T.zip bs)[j]? with
    | none=>rw[hz]at h2;cases h2
    | some p=>
      rw[hz]at h2;have h2:=Option.some.inj h2;obtain⟨z1,z2⟩:=List.getElem?_zip_eq_some.1 hz;have e1:p.1.1=a:=L.inj _ _ (by rw[<-h2]at h3;exact h3);refine .inr ⟨j,p.1.2,p.2,?_,?_,z2,?_⟩
      · rw[h1,<-h2];rfl
      · rw[z1,<-e1]
      · rw[<-Array.getElem?_toList,he,List.getElem?_map,hz,<-e1];rfl
variable {o:Oper} {s:AB} {h:Hp} {ms:List Hp}
theorem HC{x y:Operand}{z:ν}(a:κ)(L:MM P kt K Ok)(O:CO K V g Ok m T bs)(hm:m∈ms)(ho:o.op=.lookup t x y false)(ht:P.underlying t=some (.map kt et))(hz:∀w,(zeroValue et).run P w=.ok (V z) w)(hx:ev s x=some (.map (some g)))(hy:ev s y=some (K a))(ha:Ok a) :
    OX P o s h ms (V ((Bi T a).getD z)):=
  Bx fun ρ w hρ hw=>by
    obtain⟨es,clock,rfl,he,hb⟩:=O.ex;have hgw:w.heap[g]?=some (.map es clock):=hw.own _ hm g _ (Hp.one_self _ _);obtain⟨l,hk⟩:=L.key a ha;have hc:=L.law.check w es.isEmpty hk;rcases I1 L O.keys O.ok O.len he w a ha with ⟨h1,h2⟩|⟨j,u,b,h1,h2,_,_⟩
    · rw[CZ h2];simp only[execOp,ho,hρ _ _ hx,hρ _ _ hy,Instr.lookup,Sem.run_bind,run_underlying ht,Result.andThen_ok,getObj,Sem.run_pure,h1,hz];simp[Sem.run,hgw,hc,h1,hz,Result.andThen]
    · rw[D5 O.keys h2];simp only[execOp,ho,hρ _ _ hx,hρ _ _ hy,Instr.lookup,Sem.run_bind,run_underlying ht,Result.andThen_ok,getObj,Sem.run_pure,h1,hz];simp[Sem.run,hgw,hc,h1,hz,Result.andThen]
theorem Ends.turn{w0 w:World}{h0 h:Hp}{ms0 ms:List Hp}{i g:Nat}{o o':Obj}(H:Ends w0 h0 ms0 w h ms)(hm:ms[i]?=some (Hp.one g o)):Ends w0 h0 ms0 { w with heap:=w.heap.setIfInBounds g o' } h (ms.set i (Hp.one g o')):=by
  obtain⟨r,p1,p2⟩:=FW ms i (Hp.one g o) (Hp.one g o') hm;have hgw:w.heap[g]?=some o:=H.st.own _ (List.mem_of_getElem? hm) g o (Hp.one_self g o);have hlt:=(Array.getElem?_eq_some_iff.1 hgw).1;refine Ends.perm (Ends.change (H.perm p1) rfl ⟨rfl,Nat.le_refl _⟩ rfl (by simp) ?_ fun k hk hne=>?_) p2.symm
  · simp[hlt]
  · show(w.heap.setIfInBounds g o')[k]?=w.heap[k]?;rw[Array.getElem?_setIfInBounds_ne (Ne.symm hne)]
def C4(T:List (κ×ν))(a:κ)(x:ν):List (κ×ν):=if a∈T.map Prod.fst then T.map fun p=>if p.1=a then(a,x) else p else T++[(a,x)]
theorem Hv{T:List (κ×ν)}(hn:(T.map Prod.fst).Nodup)(a:κ)(x:ν):((C4 T a x).map Prod.fst).Nodup:=by
  unfold C4;split
  · have:(T.map fun p=>if p.1=a then(a,x) else p).map Prod.fst=T.map Prod.fst:=by
      rw[map_map];refine List.map_congr_left fun p _=>?_;show(if p.1=a then(a,x) else p).1=p.1;split
      · rename_i e;exact e.symm
      · rfl
    rw[this];exact hn
  · rename_i h;rw[map_append]
    exact List.nodup_append.2 ⟨hn,by simp,fun b hb c hc e=>by
      simp at hc;subst hc;subst e;exact h hb⟩
theorem If{T:List (κ×ν)}(hn:(T.map Prod.fst).Nodup){j:Nat}{a:κ}{y x:ν}(h:T[j]?=some (a,y)):C4 T a x=T.set j (a,x):=by
  have hmem:a∈T.map Prod.fst:=List.mem_map.2 ⟨(a,y),List.mem_of_getElem? h,rfl⟩;unfold C4;rw[if_pos hmem];refine List.ext_getElem? fun i=>?_;rw[List.getElem?_map,List.getElem?_set];obtain⟨hj,hje⟩:=List.getElem?_eq_some_iff.1 h;by_cases hij:j=i
  · subst hij;simp[h,hj,hje]
  · rw[if_neg hij];cases hi:T[i]? with
    | none=>rfl
    | some p=>
      have:p.1≠a:=fun e=>by
        have h1:(T.map Prod.fst)[i]?=some a:=by rw[List.getElem?_map,hi];exact congrArg some e
        have h2:(T.map Prod.fst)[j]?=some a:=by rw[List.getElem?_map,h];rfl
        exact hij (Mu hn h2 h1)
      simp[this]
theorem Dd{T:List (κ×ν)}(a b:κ)(x:ν):Bi (C4 T a x) b=if b=a then some x else Bi T b:=by
  unfold Bi C4;split
  · rename_i hmem
    induction T with
    | nil=>simp at hmem
    | cons p T ih=>
      rw[map_cons,List.find?_cons,List.find?_cons];by_cases hp:p.1=a
      · rw[if_pos hp];by_cases hba:b=a
        · subst hba;simp
        · have h1:a≠b:=fun e=>hba e.symm;have h2:p.1≠b:=fun e=>h1 (hp.symm.trans e);simp only[h1,h2,decide_false,if_neg hba];by_cases hmem':a∈T.map Prod.fst
          · have:=ih hmem';rw[if_neg hba]at this;exact this
          · have:(T.map fun p=>if p.1=a then(a,x) else p)=T:=by
              rw[List.map_congr_left (g:=id) fun q hq=>?_]
              · simp
              · rw[if_neg fun e=>hmem' (List.mem_map.2 ⟨q,hq,e⟩)];rfl
            rw[this]
      · rw[if_neg hp];by_cases hpb:p.1=b
        · have hba:b≠a:=fun e=>hp (hpb.trans e);simp[hpb,hba]
        · simp only[hpb,decide_false]
          exact ih (by
            rw[map_cons,mem_cons]at hmem
            exact hmem.resolve_left fun e=>hp e.symm)
  · rename_i hmem;rw[List.find?_append];by_cases hba:b=a
    · subst hba
      rw[List.find?_eq_none.2 fun p hp=>by
        simp only[decide_eq_true_eq]
        exact fun e=>hmem (List.mem_map.2 ⟨p,hp,e⟩)]
      simp
    · have h1:a≠b:=fun e=>hba e.symm;rw[if_neg hba];simp[List.find?_cons,h1]
theorem YM(T:List (κ×ν))(bs:List Nat)(j:Nat)(p:κ×ν)(b:Nat)(hb:bs[j]?=some b):(T.set j p).zip bs=(T.zip bs).set j (p,b):=by
  induction T generalizing j bs with
  | nil=>simp
  | cons q T ih=>
    cases bs with
    | nil=>simp
    | cons c bs=>
      cases j with
      | zero=>simp at hb;subst hb;simp
      | succ j=>simp[ih bs j (by simpa using hb)]
variable {e:Entry} {Q:Exit->Act->World->Prop} {ops:Array Oper} {rest:List Oper}
theorem C3{d:Nat}(ho:o.op=.makeMap t none)(hd:o.dst=some d)(hn:Nat.blt d e.n=true)(hg:o.guard=none)
    (k:∀g m,CO K V g Ok m ([]:List (κ×ν)) []->WL e ops Q rest ((d,.map (some g))::s) h (m::ms)):WL e ops Q (o::rest) s h ms:=
  Ia (post:=fun v h' ms'=>∃g,v=.map (some g)/\h'=h/\ms'=Hp.one g (.map #[] 0)::ms) (fun ρ w hρ hw=>by
    have:(execOp ρ o).run e.P w=.ok (.value (.map (some w.heap.size))) (w.alloc (.map #[] 0)):=by simp[execOp,ho,run_makeMap]
    unfold OpRes;rw[this]
    exact⟨h,_,Ends.alloc hw _,_,rfl,rfl,rfl⟩) hd hn hg fun _ _ _ ⟨g,e1,e2,e3⟩=>by subst e1 e2 e3;exact k g _ ⟨⟨#[],0,rfl,rfl,by simp⟩,rfl,List.Pairwise.nil,by simp,by simp⟩
theorem V5(T:List (κ×ν))(bs:List Nat)(hl:bs.length=T.length)(p:κ×ν)(b:Nat):(T++[p]).zip (bs++[b])=T.zip bs++[(p,b)]:=by rw[List.zip_append hl.symm];rfl
theorem X2{bs:List Nat}(h:bs.Pairwise (· < ·)){c:Nat}(hc:∀b∈bs,b<c):(bs++[c]).Pairwise (· < ·):=
  List.pairwise_append.2 ⟨h,by simp,fun a ha b hb=>by simp at hb;subst hb;exact hc a ha⟩
end
end Go.Eng
namespace Go.Eng
open Go.RowKit
structure HI(gi g:Nat)(m mi:Hp)(bs vis:List Nat):Prop where
  ex:∃es clock since seen last,m=Hp.one g (.map es clock)/\mi=Hp.one gi (.mapIter (some g) since seen last)/\(∀b∈bs,b<since)/\since<=last/\since<=clock/\seen.toList=vis.map (fun j=>bs[j]?.getD 0)/\(vis≠[]->last=clock)
  lt:∀j∈vis,j<bs.length
  nodup:vis.Nodup
theorem Rv{g:Nat}{o o':Obj}(h:Hp.one g o=Hp.one g o'):o=o':=by have:=congrFun h g;rw[Hp.one_self,Hp.one_self]at this;exact Option.some.inj this
section
variable {κ ν:Type} [DecidableEq κ] {K:κ->Value} {V:ν->Value} {Ok:κ->Prop} {P:Program} {t:TypeId} {gi g:Nat} {m mi:Hp} {T:List (κ×ν)} {bs vis:List Nat}
variable {o:Oper} {s:AB} {h:Hp} {ms:List Hp} {e:Entry} {Q:Exit->Act->World->Prop} {ops:Array Oper} {rest:List Oper}
theorem ZH{bs:List Nat}(h:bs.Pairwise (· < ·)){i j:Nat}{b:Nat}(hi:bs[i]?=some b)(hj:bs[j]?=some b):i=j:=
  Mu (h.imp fun h=>Nat.ne_of_lt h) hi hj
end
end Go.Eng
namespace Go.Eng
open Go.RowKit
variable {m c:Hp} {w:World}
theorem CT{α:Type}:∀{l:List α} {i:Nat} {a:α},l[i]?=some a->l.Perm (a::l.eraseIdx i)
  | [],i,a,h=>by simp at h
  | b::l,0,a,h=>by simp at h;subst h;simp
  | b::l,i+1,a,h=>by simp at h;exact((CT h).cons b).trans (List.Perm.swap _ _ _)
theorem Ends.erase{w0:World}{h0 h:Hp}{ms0 ms:List Hp}{i:Nat}(H:Ends w0 h0 ms0 w h ms)(hm:ms[i]?=some m):Ends w0 h0 ms0 w h (ms.eraseIdx i):=
  Ends.drop (Ends.perm H (CT hm))
section
variable {P:Program} {w0:World} {h0:Hp} {ms0:List Hp} {n:Nat} {fn:Func} {post:Value->Hp->List Hp->Prop} {s:AB} {h:Hp} {ms:List Hp} {t u:Nat} {ty el:TypeId} {g:Nat} {d:TypeDesc} {sz:Nat} {z:Value} {bytes:Nat} {vs:List Value} {v:Value}
theorem By(i:Nat)(hr:fn.results=#[.cell t ty])(hv:lk s t=some (.pointer (some ⟨g,0,none⟩)))(ht:P.underlying ty=some d)(hd:H0 d=true)(hs:Elem P ty sz z bytes)(hl:vs.length=sz)(hc:ms[i]?=some (Bn g el vs))(hp:post (.agg vs.toArray) h (ms.eraseIdx i)) :
    NX ⟨P,w0,h0,ms0,n,[]⟩ (bodyPost P fn (RP w0 h0 ms0 post)) .ret s h ms:=fun a w ha hw=>by
  have h1:a.tmps[t]?.getD undef=.pointer (some ⟨g,0,none⟩):=by rw[ha.slots t _ hv];rfl
  have hag:(isAgg ty).run P w=.ok true w:=by rw[DU ht,hd]
  have hc':∀j v,vs[j]?=some v->w.cell? ((⟨g,0,none⟩:Addr).add j)=some v:=fun j v e=>hw.st.cell (Seg.blk i hc j v e);refine bodyPost_ret (v:=.agg vs.toArray) ?_ ha.defers ⟨_,h,_,rfl,Ends.erase hw hc,hp⟩;subst hl;simp[results,hr,h1,asAddr,loadVar,hag,hs.sizeOf,run_loadCells_list (P:=P) w _ vs hc']
theorem FY(i:Nat)(hr:fn.results=#[.cell t ty,.tmp u])(hv:lk s t=some (.pointer (some ⟨g,0,none⟩)))(hu:lk s u=some v)(ht:P.underlying ty=some d)(hd:H0 d=true)(hs:Elem P ty sz z bytes)(hl:vs.length=sz)(hc:ms[i]?=some (Bn g el vs))(hp:post (.tuple #[.agg vs.toArray,v]) h (ms.eraseIdx i)) :
    NX ⟨P,w0,h0,ms0,n,[]⟩ (bodyPost P fn (RP w0 h0 ms0 post)) .ret s h ms:=fun a w ha hw=>by
  have h1:a.tmps[t]?.getD undef=.pointer (some ⟨g,0,none⟩):=by rw[ha.slots t _ hv];rfl
  have h2:a.tmps[u]?.getD undef=v:=by rw[ha.slots u _ hu];rfl
  have hag:(isAgg ty).run P w=.ok true w:=by rw[DU ht,hd]
  have hc':∀j v,vs[j]?=some v->w.cell? ((⟨g,0,none⟩:Addr).add j)=some v:=fun j v e=>hw.st.cell (Seg.blk i hc j v e);refine bodyPost_ret (v:=.tuple #[.agg vs.toArray,v]) ?_ ha.defers ⟨_,h,_,rfl,Ends.erase hw hc,hp⟩;subst hl;simp[results,hr,h1,h2,asAddr,loadVar,hag,hs.sizeOf,run_loadCells_list (P:=P) w _ vs hc']
end
def Rc:Value->Bool
  | .slice none _ _=>true
  | _=>false
section
variable {P:Program} {o:Oper} {s:AB} {h:Hp} {ms:List Hp} {t u el:TypeId} {x y:Operand} {v:Value} {sz n:Nat} {cs:List Value}
theorem Kq(R:Rd h ms v sz n cs)(ho:o.op=.binOp .eql t x y u)(ht:P.underlying t=some (.slice el))(hx:ev s x=some v)(hy:ev s y=some (.slice none 0 0)):OX P o s h ms (.bool (Rc v)):=by
  obtain⟨a,c,rfl,_⟩:=R.ex;refine Bx fun ρ w hρ _=>?_;have:=Go.Lib.run_eql_slice_nil w t el a n c 0 0 ht;have hg:(eqGuard .eql t x y (.slice a n c) (.slice none 0 0)).run P w=.ok () w:=by simp[eqGuard]
  cases a<;>simp[execOp,ho,hρ _ _ hx,hρ _ _ hy,this,hg,Rc]
end
theorem Jp{h:Hp}{ms:List Hp}{v:Value}{sz n:Nat}{cs:List Value}(R:Rd h ms v sz n cs)(hv:Rc v=true):n=0:=by obtain⟨a,c,rfl,h1,h2,h3,h4⟩:=R.ex;refine Nat.eq_zero_of_not_pos fun hn=>?_;obtain⟨q,rfl,_⟩:=h4 hn;simp[Rc]at hv
theorem Hp.disj_join{a b:Hp}(h1:a.disj c)(h2:b.disj c):(a.join b).disj c:=fun g=>by
  rcases h1 g with e1|e1
  · rcases h2 g with e2|e2
    · left;simp[Hp.join,e1,e2]
    · exact .inr e2
  · exact .inr e1
theorem Hp.disj_left{a b:Hp}(h:(a.join b).disj c):a.disj c:=fun g=>by
  rcases h g with e|e
  · left
    cases ha:a g with
    | none=>rfl
    | some o=>simp[Hp.join,ha]at e
  · exact .inr e
theorem Hp.disj_right{a b:Hp}(h:(a.join b).disj c):b.disj c:=fun g=>by
  rcases h g with e|e
  · left
    cases ha:a g with
    | none=>simpa[Hp.join,ha] using e
    | some o=>simp[Hp.join,ha]at e
  · exact .inr e
theorem M7{e:Entry}{Q:Exit->Act->World->Prop}{s:AB}{h:Hp}{ms:List Hp}{x:Exit}(k:NX e Q x s h (Hp.emp::ms)):NX e Q x s h ms:=fun a w ha hw=>k a w ha
  ⟨⟨hw.st.imm,fun m hm=>by
      rcases List.mem_cons.1 hm with rfl|hm
      · intro g o e;cases e
      · exact hw.st.own m hm,fun m hm=>by
      rcases List.mem_cons.1 hm with rfl|hm
      · exact fun _=>.inl rfl
      · exact hw.st.off m hm,List.pairwise_cons.2 ⟨fun _ _ _=>.inl rfl,hw.st.apart⟩⟩,hw.os,hw.tape,hw.output,hw.size,hw.block,hw.le,hw.hnew,fun m hm k hk hne=>by
      rcases List.mem_cons.1 hm with rfl|hm
      · exact absurd rfl hne
      · exact hw.mnew m hm k hk hne⟩
theorem A8{e:Entry}{Q:Exit->Act->World->Prop}{s:AB}{h:Hp}{ms:List Hp}{x:Exit}(i:Nat)(hm:ms[i]?=some m)(k:NX e Q x s h (ms.eraseIdx i)):NX e Q x s h ms:=fun a w ha hw=>k a w ha (Ends.erase hw hm)
theorem S5{e:Entry}{Q:Exit->Act->World->Prop}{s:AB}{h:Hp}{ms:List Hp}{ops:Array Oper}{r:List Oper}(i:Nat)(hm:ms[i]?=some m)(k:WL e ops Q r s h (ms.eraseIdx i)):WL e ops Q r s h ms:=fun a w ha hw=>k a w ha (Ends.erase hw hm)
@[simp] theorem Abt(k:IntKind)(n:Int):(Value.int k n).oneCell'=true:=rfl
@[simp] theorem Abf(b:Bool):(Value.bool b).oneCell'=true:=rfl
@[simp] theorem Abq(p:Option Addr):(Value.pointer p).oneCell'=true:=rfl
@[simp] theorem Aaw(p:Option Addr)(n c:Nat):(Value.slice p n c).oneCell'=true:=rfl
@[simp] theorem Abl(p:Option Nat):(Value.map p).oneCell'=true:=rfl
theorem De{e:Entry}{Q:Exit->Act->World->Prop}{ops:Array Oper}{rest:List Oper}{o:Oper}{s:AB}{h:Hp}{ms:List Hp}{el:TypeId}{v:Value}{l:List Int}{t:TypeId}{x y:Operand}{z:Value}{bytes:Nat}{a:Int}(i j:Nat)(O:OwnL cI 1 el m v l)(ho:o.op=.store t x y)(hs:Elem e.P t 1 z bytes)(hx:ev s x=some (.pointer (some ((AF v).add (j*1)))))(hy:ev s y=some (.int .i64 a))
    (hm:ms[i]?=some m) (hj:j<l.length) (hd:o.dst=none) (hg:o.guard=none)
    (K:∀m',OwnL cI 1 el m' v (l.set j a)->WL e ops Q rest s h (ms.set i m')):WL e ops Q (o::rest) s h ms:=
  CK i j (fun _=>rfl) O ho hs hx hy rfl hm hj hd hg K
theorem OwnL.blk{α:Type}{F:α->List Value}{sz:Nat}{el:TypeId}{g:Nat}{l:List α}(n:Nat)(hF:∀x,(F x).length=sz)(hl:l.length=n)(hn:n<=9223372036854775807):OwnL F sz el (Bn g el (l.flatMap F)) (.slice (some ⟨g,0,none⟩) n n) l:=
  ⟨⟨Bf hF l,.inr ⟨g,n,[],by rw[hl],by rw[append_nil],by rw[append_nil,Bf hF,hl],by omega,hn⟩⟩,hF⟩
theorem OwnL.rep{g:Nat}{el:TypeId}(n:Nat)(x:Int)(hn:n<=9223372036854775807):OwnL cI 1 el (Bn g el (replicate n (.int .i64 x))) (.slice (some ⟨g,0,none⟩) n n) (replicate n x):=by rw[WT];exact OwnL.blk n Bg (by simp) hn
theorem Ends.join{w0:World}{h0 h:Hp}{ms0 ms:List Hp}{a b:Hp}(H:Ends w0 h0 ms0 w h (a::b::ms)):Ends w0 h0 ms0 w h (a.join b::ms):=by
  have hap:=List.pairwise_cons.1 H.st.apart;have hap2:=List.pairwise_cons.1 hap.2;refine⟨⟨H.st.imm,?_,?_,List.pairwise_cons.2 ⟨fun m hm=>Hp.disj_join (hap.1 m (mem_cons_of_mem _ hm)) (hap2.1 m hm),hap2.2⟩⟩,H.os,H.tape,H.output,H.size,H.block,H.le,H.hnew,?_⟩
  · intro m hm;rcases List.mem_cons.1 hm with rfl|hm
    · intro k o e;unfold Hp.join at e;split at e
      · rename_i o' e';cases e;exact H.st.own a (by simp) k _ e'
      · exact H.st.own b (by simp) k o e
    · exact H.st.own m (by simp[hm])
  · intro m hm;rcases List.mem_cons.1 hm with rfl|hm
    · exact Hp.disj_join (H.st.off a (by simp)) (H.st.off b (by simp))
    · exact H.st.off m (by simp[hm])
  · intro m hm k hk e;rcases List.mem_cons.1 hm with rfl|hm
    · cases ha:a k with
      | some o=>exact H.mnew a (by simp) k hk (by rw[ha];simp)
      | none=>exact H.mnew b (by simp) k hk (by simpa[Hp.join,ha] using e)
    · exact H.mnew m (by simp[hm]) k hk e
theorem Ends.part{w0:World}{h0 h:Hp}{ms0 ms:List Hp}{a b:Hp}(H:Ends w0 h0 ms0 w h (a.join b::ms))(hd:a.disj b):Ends w0 h0 ms0 w h (a::b::ms):=by
  have hap:=List.pairwise_cons.1 H.st.apart
  have hb:∀k o,b k=some o->(a.join b) k=some o:=fun k o e=>by
    rcases hd k with e1|e1
    · simp[Hp.join,e1,e]
    · rw[e1]at e;cases e
  have ha:∀k o,a k=some o->(a.join b) k=some o:=fun k o e=>by simp[Hp.join,e]
  refine⟨⟨H.st.imm,?_,?_,List.pairwise_cons.2 ⟨?_,List.pairwise_cons.2 ⟨fun m hm=>Hp.disj_right (hap.1 m hm),hap.2⟩⟩⟩,H.os,H.tape,H.output,H.size,H.block,H.le,H.hnew,?_⟩
  · intro m hm;rcases List.mem_cons.1 hm with rfl|hm
    · exact fun k o e=>H.st.own _ (by simp) k o (ha k o e)
    rcases List.mem_cons.1 hm with rfl|hm
    · exact fun k o e=>H.st.own _ (by simp) k o (hb k o e)
    · exact H.st.own m (by simp[hm])
  · intro m hm;have h1:=H.st.off (a.join b) (by simp);rcases List.mem_cons.1 hm with rfl|hm
    · exact Hp.disj_left h1
    rcases List.mem_cons.1 hm with rfl|hm
    · exact Hp.disj_right h1
    · exact H.st.off m (by simp[hm])
  · intro m hm;rcases List.mem_cons.1 hm with rfl|hm
    · exact hd
    · exact Hp.disj_left (hap.1 m hm)
  · intro m hm k hk e;rcases List.mem_cons.1 hm with rfl|hm
    · obtain⟨o,ho⟩:=Hp.ne_none e;exact H.mnew (m.join b) (by simp) k hk (by rw[ha k o ho];simp)
    rcases List.mem_cons.1 hm with rfl|hm
    · obtain⟨o,ho⟩:=Hp.ne_none e;exact H.mnew (a.join m) (by simp) k hk (by rw[hb k o ho];simp)
    · exact H.mnew m (by simp[hm]) k hk e
section
variable {e:Entry} {Q:Exit->Act->World->Prop} {s:AB} {h:Hp} {ms:List Hp} {a b:Hp} {ops:Array Oper}
theorem Ex{y:Exit}(k:NX e Q y s h (a.join b::ms)):NX e Q y s h (a::b::ms):=fun x w ha hw=>k x w ha (Ends.join hw)
theorem Hl{c:Code}(hd:a.disj b)(k:WS e c Q s h (a::b::ms)):WS e c Q s h (a.join b::ms):=fun x w ha hw=>k x w ha (Ends.part hw hd)
theorem D9{y:Exit}(k:ms.Pairwise Hp.disj->NX e Q y s h ms):NX e Q y s h ms:=fun x w ha hw=>k hw.st.apart x w ha hw
end
end Go.Eng
namespace Go.Eng
open Go.RowKit Go.Lin
theorem RdL.row{h:Hp}{ms:List Hp}{v:Value}{r c:Nat}{f:Nat->Nat->Int}(R:RdL cI 1 h ms v (Dy r c f)){i:Nat}(hi:i<r):RdL cI 1 h ms (B4 1 v (i*c) ((i+1)*c)) (G4 c (f i)):=by
  have h0:(i+1)*c<=r*c:=Nat.mul_le_mul_right c hi;have h1:(i+1)*c=i*c+c:=by rw[Nat.add_mul,Nat.one_mul]
  have:=R.sub_ (i:=i*c) (j:=(i+1)*c) (by omega) (by rw[DC];exact h0);rw[show(i+1)*c-i*c=c by omega,YZ hi]at this;exact this
theorem RdL.ev{h:Hp}{ms:List Hp}{v:Value}{n:Nat}{f:Nat->Int}(R:RdL cI 1 h ms v (G4 n f)){j:Nat}(hj:j<n):Cell h ms ((AF v).add (j*1)) (.int .i64 (f j)):=by
  have hl:j<(G4 n f).length:=by rw[CL];exact hj
  exact R.cell0 hl (u:=.int .i64 (f j)) (by rw[Y2 hj];rfl)
end Go.Eng
namespace Go.Eng
open Go.RowKit
variable {n:Nat} {o:Oper} {l:List Oper} {a:Act} {w:World} {v:Value} {z:AB}
def WB(e:Entry)(ops:Array Oper)(Q:Exit->Act->World->Prop)(h0:Hp):Nat->Array Bool->AB->Hp->List Hp->Prop
  | 0,listed,s,h,ms=>Region.ready .any ops listed=[]/\NX e Q .normal s h ms
  | n+1,listed,s,h,ms=>(Region.ready .any ops listed=[]->NX e Q .normal s h ms)/\∀i∈Region.ready .any ops listed,∃o,ops[i]?=some o ∧
      WL e ops (fun x a w=>x=.normal/\∃s' h' ms',Has e.n e.ds a s'/\e.Ends w h' ms'/\h0.le h'/\WB e ops Q h0 n (listed.setIfInBounds i true) s' h' ms') [o] s h ms
def HB(e:Entry)(ops:Array Oper)(Q:Exit->Act->World->Prop)(h0:Hp)(n:Nat)(listed:Array Bool)(a:Act)(w:World):Prop:=
  ∃s' h' ms',Has e.n e.ds a s'/\e.Ends w h' ms'/\h0.le h'/\WB e ops Q h0 n listed s' h' ms'
def QB(e:Entry)(ops:Array Oper)(Q:Exit->Act->World->Prop)(h0:Hp)(n:Nat)(listed:Array Bool):Exit->Act->World->Prop:=
  fun x a w=>x=.normal/\HB e ops Q h0 n listed a w
theorem MO{e:Entry}{ops:Array Oper}{Q:Exit->Act->World->Prop}{h0:Hp}{listed:Array Bool}:¬LetsOut (QB e ops Q h0 n listed):=fun h=>by simp[LetsOut,QB]at h
theorem HB.ext{e:Entry}{ops:Array Oper}{Q:Exit->Act->World->Prop}{h0:Hp}{listed:Array Bool}{w':World}(H:HB e ops Q h0 n listed a w)(he:Ext w w'):HB e ops Q h0 n listed a w':=by obtain⟨s',h',ms',g1,g2,g3,g4⟩:=H;exact⟨s',h',ms',g1,Ends.ext g2 he,g3,g4⟩
structure Abb(P:Program)(pu:List Nat)(ops:Array Oper)(s z:AB)(n:Nat)(h0:Hp):Prop where
  val:∀i o d,pu.contains i=true->ops[i]?=some o->o.dst=some d->∃v,lk z d=some v/\OX P o (z++s) h0 [] v
  only:∀t v,lk z t=some v->t<n/\∃i,pu.contains i=true/\Ba ops i=some t
section
variable {P:Program} {ops:Array Oper} {Q:Exit->Act->World->Prop}
theorem TN{s:AB}{h0:Hp}(hs:∀cs b,o.op≠.select cs b)(hl:∀t∈o.looksAt ops,∀u,lk s t=some u->a.tmps[t]?=some u)
    (k:OX P o s h0 [] v) (hw:St w h0 []):OpRes P o a.eval w (fun v' w'=>v'=v/\Ext w w'):=by
  classical
  unfold OpRes;rw[execOp_congr (ρ:=a.eval) (ρ':=fun x=>if x∈o.op.operands then a.eval x else(ev s x).getD undef) o hs (fun x hx=>(if_pos hx).symm)];refine k _ w (fun x u hu=>?_) hw;show(if x∈o.op.operands then a.eval x else(ev s x).getD undef)=u;split
  · rename_i hx;cases x with
    | tmp t=>
      refine Act.eval_of_slot (hl t ?_ u hu);exact mem_append_left _ (List.mem_filterMap.2 ⟨.tmp t,by simpa using hx,rfl⟩)
    | const v=>cases hu;rfl
    | global g=>cases hu;rfl
    | func f=>cases hu;rfl
  · rw[hu];rfl
theorem Oper.wp_sim'{K K':Act->World->Prop}{Qb:Exit->Act->World->Prop}(hq:∀x a w,Qb x a w->x=.normal)(hlo:¬LetsOut Qb)(hx:execOp (zA z a).eval o=execOp a.eval o)(hd:∀t,o.dst=some t->lk z t=none)(hK:∀b w v,b.tmps=(a.put o.dst v).tmps->K' (zA z b) w->K b w)
    (h:o.wp P (zA z a) w K' Qb):o.wp P a w K (Q0 Q):=by
  unfold Oper.wp at *;rw[hx]at h;generalize (execOp a.eval o).run P w=r at *;have hv:∀v w,K' ((zA z a).put o.dst v) w->K (a.put o.dst v) w:=fun v w hh=>hK _ _ v rfl (by rw[F9 hd];exact hh);cases r with
  | ok n w'=>
    cases n<;>simp only[Oper.upon]at h ⊢ <;>
      first
        | exact hv _ _ h
        | exact Calls.mono h (fun e w'' he=>by
            cases e
            · exact hv _ _ he
            · exact absurd (hq _ _ _ he) (by simp)
            · exact absurd he hlo)
        | exact Rows.mono h (fun _ _ he=>hv _ _ he)
        | exact hK _ _ undef (by cases o.dst<;>rfl) (by rw[F9 hd];exact h)
  | halt x w'=>cases x<;>simp only[Oper.upon]at h ⊢<;>exact absurd (hq _ _ _ h) (by simp)
end
theorem Aaj{e:Entry}{ops:Array Oper}{Q:Exit->Act->World->Prop}{h0:Hp}{pu:List Nat}{s:AB}{a0:Act}(ha0:Has e.n e.ds a0 s)(hp:POK pu ops)(hb:∀i o,ops[i]?=some o->∀e∈o.after,Region.binds .any e=true->e.on<i)(hz:Abb e.P pu ops s z e.n h0) :
    ∀fuel fuel' listed a w,Sim pu ops z a0 a listed->listed.size=ops.size->left listed<=fuel->HB e ops Q h0 fuel' (un pu listed) (zA z a) w->wpAny e.P .any ops (Q0 Q) fuel listed a w:=by
  -- all is listed
  have alldone:∀fuel' listed a w,Sim pu ops z a0 a listed->listed.size=ops.size->(∀j,j<ops.size->listed.getD j false=true)->HB e ops Q h0 fuel' (un pu listed) (zA z a) w->Region.ready .any ops listed=[]/\(Q0 Q) .normal a w:=by
    intro fuel' listed a w S hsz hall H
    have noready:∀l':Array Bool,(∀j,j<ops.size->l'.getD j false=true)->Region.ready .any ops l'=[]:=fun l' hl'=>by
      cases hr:Region.ready .any ops l' with
      | nil=>rfl
      | cons x xs=>
        have hx:x∈Region.ready .any ops l':=by rw[hr];exact mem_cons_self
        obtain⟨h0,o,ho,_⟩:=mem_ready.1 hx;have:=hl' x (Array.getElem?_eq_some_iff.1 ho).1;have h2:=Be h0;rw[Array.getD_eq_getD_getElem?,h2]at this;cases this
    have hr':=noready (un pu listed) (fun j hj=>by rw[Ic _ _ _ _ (by omega),hall j hj];rfl)
    have hQ:(Q0 Q) .normal (zA z a) w:=by
      obtain⟨s',h',ms',g1,g2,g3,g4⟩:=H;cases fuel' with
      | zero=>exact⟨rfl,g4.2 _ _ g1 g2⟩
      | succ f=>exact⟨rfl,g4.1 hr' _ _ g1 g2⟩
    have hza:zA z a=a:=by
      refine J3 ?_ rfl;apply Array.ext_getElem?;intro t;rw[EK];cases hl:lk z t with
      | none=>simp
      | some v=>
        obtain⟨hn,i,hi,hd⟩:=hz.only t v hl;have hlt:t<a.tmps.size:=by rw[S.size,ha0.size];exact hn
        rw[S.pure i hi (hall i (C5 hd)) t v hd hl hlt];rfl
    rw[hza]at hQ;exact⟨noready _ hall,hQ⟩
  have hall_of:∀listed:Array Bool,listed.size=ops.size->left listed=0->∀j,j<ops.size->listed.getD j false=true:=fun listed hsz h0 j hj=>by
    have h1:=Ji h0 j;have hjlt:j<listed.size:=by omega
    rw[Array.getD_eq_getD_getElem?]at h1 ⊢;simp[hjlt]at h1 ⊢;exact h1
  intro fuel
  induction fuel with
  | zero=>
    intro fuel' listed a w S hsz hle H;exact alldone fuel' listed a w S hsz (hall_of listed hsz (by omega)) H
  | succ fuel ih=>
    intro fuel' listed a w S hsz hle H;refine⟨fun hr0=>?_,fun i hir=>?_⟩
    · -- nothing is ready: all is listed
      refine(alldone fuel' listed a w S hsz ?_ H).2;intro j
      induction j using Nat.strongRecOn with
      | _ j ihj=>
        intro hj;cases hl:listed.getD j false with
        | true=>rfl
        | false=>
          have ho:ops[j]?=some ops[j]:=by simp[hj]
          have:j∈Region.ready .any ops listed:=mem_ready.2 ⟨by
            have hjlt:j<listed.size:=by omega
            rw[Array.getD_eq_getD_getElem?]at hl ⊢
            simp[hjlt]at hl ⊢;exact hl,_,ho,fun ed hed hbd=>by
              have:=hb j _ ho ed hed hbd
              exact ihj _ this (by omega)⟩
          rw[hr0]at this;cases this
    · obtain⟨hun,o,ho,hall⟩:=mem_ready.1 hir;have hilt:i<ops.size:=(Array.getElem?_eq_some_iff.1 ho).1;have hdi:Ba ops i=o.dst:=by simp[Ba,ho]
      have hsel:∀cs b,o.op≠.select cs b:=fun cs b=>Region.noSelect_spec hp.nosel i o cs b ho;have hls:=IU (Be hun)
      have hset:∀j d,(listed.setIfInBounds i true).getD j d=if j=i then true else listed.getD j d:=fun j d=>by
        by_cases hj:j=i
        · subst hj;simp[show j<listed.size by omega]
        · rw[getD_set_ne d (Ne.symm hj)];simp[hj]
      -- the slots of pure ones that are looked at stand
      have hpl:∀t∈o.looksAt ops,∀v,lk z t=some v->a.tmps[t]?=some v/\∃j,pu.contains j=true/\Ba ops j=some t:=fun t ht v hv=>by
        obtain⟨hn,j,hj,hd⟩:=hz.only t v hv;refine⟨?_,j,hj,hd⟩;rcases hp.look i o t j ho ht hd with ⟨_,h2⟩|⟨h2,_⟩
        · obtain⟨e,he,hbd,rfl⟩:=E6 h2;exact S.pure _ hj (hall e he hbd) t v hd hv (by rw[S.size,ha0.size];exact hn)
        · rw[hj]at h2;cases h2
      have hsame:∀t∈o.looksAt ops,(zA z a).tmps[t]?=a.tmps[t]?:=fun t ht=>by
        rw[EK];cases hl:lk z t with
        | none=>simp
        | some v=>rw[(hpl t ht v hl).1];rfl
      have hx:execOp (zA z a).eval o=execOp a.eval o:=execOp_congr o hsel fun x hx=>by
        cases x with
        | tmp t=>
          have:=hsame t (mem_append_left _ (List.mem_filterMap.2 ⟨.tmp t,by simpa using hx,rfl⟩));simp only[Act.eval];rw[Array.getD_eq_getD_getElem?,this,<-Array.getD_eq_getD_getElem?]
        | const v=>rfl
        | global g=>rfl
        | func f=>rfl
      unfold wpOp;simp only[ho];cases hc:pu.contains i with
      | true=>
        obtain⟨hg,⟨d,hd⟩,huq⟩:=hp.plain i o ho hc;obtain⟨v,hv,hpx⟩:=hz.val i o d hc ho hd;have hw:Region.wanted o (yielded ops a.tmps)=true:=by unfold Region.wanted;rw[hg]
        rw[if_pos hw]
        have hst:St w h0 []:=by obtain⟨s',h',ms',g1,g2,g3,g4⟩:=H;exact⟨fun g o e=>g2.st.imm g o (g3 g o e),fun m hm=>by simp at hm,fun m hm=>by simp at hm,List.Pairwise.nil⟩
        refine .inl (OpRes.wp (Φ:=fun v' w'=>v'=v/\Ext w w') ?_ ?_)
        · unfold OpRes;rw[<-hx];refine TN (ops:=ops) hsel (fun t ht u hu=>?_) hpx hst;rw[Cm]at hu;cases hl:lk z t with
          | some v'=>rw[hl]at hu;cases hu;rw[hsame t ht];exact(hpl t ht _ hl).1
          | none=>
            rw[hl]at hu;rw[hsame t ht,S.old t fun j hj=>?_]
            · exact ha0.slots t u hu
            · rcases hp.look i o t j ho ht hj with ⟨h1,_⟩|⟨_,h2⟩
              · obtain⟨oj,hoj⟩:∃oj,ops[j]?=some oj:=⟨ops[j]'(C5 hj),by simp[C5 hj]⟩
                have hdj:oj.dst=some t:=by simpa[Ba,hoj] using hj
                obtain⟨v',hv',_⟩:=hz.val j oj t h1 hoj hdj;rw[hl]at hv';cases hv'
              · rcases h2 with h2|⟨oj,hoj,hed⟩
                · rw[hc]at h2;cases h2
                · cases hlj:listed.getD j false with
                  | false=>rfl
                  | true=>
                    obtain⟨e,he,hbd,hon⟩:=E6 hed;have h4:=S.closed j oj hlj hoj e he hbd;rw[hon,Array.getD_eq_getD_getElem?,Be hun]at h4;cases h4
        · rintro v' w' ⟨rfl,hext⟩;show wpAny e.P .any ops (Q0 Q) fuel (listed.setIfInBounds i true) (a.put o.dst v') w';rw[hd];refine ih fuel' _ _ w' ⟨?_,?_,by simp[Act.put,S.size],S.closed.set hir⟩ (by simpa using hsz) (by omega) (by rw[Jv _ hc,JA hv];exact H.ext hext)
          · intro j hj hlj d' v' hd' hv' hlt;by_cases hji:j=i
            · subst hji;rw[hdi,hd]at hd';cases hd';rw[hv]at hv';cases hv';simp only[Act.put];have:d<a.tmps.size:=by simpa[Act.put] using hlt
              simp[this]
            · rw[hset]at hlj;simp only[hji,if_false]at hlj;have hne:d≠d':=fun e'=>huq j hji d hd (by rw[hd',e']);simp only[Act.put,Array.getElem?_setIfInBounds_ne hne];exact S.pure j hj hlj d' v' hd' hv' (by simpa[Act.put] using hlt)
          · intro t ht
            have hne:d≠t:=fun e'=>by have:=ht i (by rw[hdi,hd,e']);rw[hset]at this;simp at this
            simp only[Act.put,Array.getElem?_setIfInBounds_ne hne]
            exact S.old t fun j hj=>by
              have:=ht j hj;rw[hset]at this;by_cases hji:j=i
              · simp[hji]at this
              · simpa[hji] using this
      | false=>
        have hdz:∀t,o.dst=some t->lk z t=none:=fun t ht=>by
          cases hl:lk z t with
          | none=>rfl
          | some v=>
            obtain⟨_,j,hj,hd⟩:=hz.only t v hl;have hji:j≠i:=fun e'=>by rw[e',hc]at hj;cases hj
            obtain⟨oj,hoj⟩:∃oj,ops[j]?=some oj:=⟨ops[j]'(C5 hd),by simp[C5 hd]⟩
            obtain⟨_,_,huq⟩:=hp.plain j oj hoj hj;exact absurd (by rw[hdi,ht]) (huq i (Ne.symm hji) t (by simpa[Ba,hoj] using hd))
        have hir':i∈Region.ready .any ops (un pu listed):=mem_ready.2 ⟨by rw[Ic _ _ _ _ (by omega),hun,hc];rfl,o,ho,fun e he hbd=>by
          have h1:=hb i o ho e he hbd
          rw[Ic _ _ _ _ (by omega),hall e he hbd];rfl⟩
        obtain⟨s',h',ms',g1,g2,g3,g4⟩:=H;cases fuel' with
        | zero=>rw[g4.1]at hir';cases hir'
        | succ fuel'=>
          obtain⟨o',ho',HW⟩:=g4.2 i hir';rw[ho]at ho';cases ho';have H':=HW (zA z a) w g1 g2;unfold wpList at H';rw[<-Vz]at H'
          have hwant:Region.wanted o (yielded ops (zA z a).tmps)=Region.wanted o (yielded ops a.tmps):=by
            unfold Region.wanted;cases hg:o.guard with
            | none=>rfl
            | some p=>
              obtain⟨j,b⟩:=p
              have:yielded ops (zA z a).tmps j=yielded ops a.tmps j:=by
                unfold yielded;cases hd:(ops[j]?).bind (·.dst) with
                | none=>rfl
                | some t=>
                  have ht:t∈o.looksAt ops:=by unfold Oper.looksAt;refine mem_append_right _ ?_;simp only[hg];rw[hd];simp
                  simp[hd,hsame t ht]
              simp only[this]
          rw[hwant]at H'
          have hnext:∀b w v,b.tmps=(a.put o.dst v).tmps->QB e ops Q h0 fuel' (un pu (listed.setIfInBounds i true)) .normal (zA z b) w->wpAny e.P .any ops (Q0 Q) fuel (listed.setIfInBounds i true) b w:=fun b w v hbt hh=>by
            have hbget:∀t,o.dst≠some t->b.tmps[t]?=a.tmps[t]?:=fun t ht=>by
              rw[hbt];cases hd:o.dst with
              | none=>rfl
              | some d=>
                have:d≠t:=fun e'=>ht (by rw[hd,e']);simp only[Act.put,Array.getElem?_setIfInBounds_ne this]
            have hbs:b.tmps.size=a.tmps.size:=by rw[hbt];cases o.dst<;>simp[Act.put]
            refine ih fuel' _ b w ⟨?_,?_,by rw[hbs,S.size],S.closed.set hir⟩ (by simpa using hsz) (by omega) hh.2
            · intro j hj hlj d' v' hd' hv' hlt;have hji:j≠i:=fun e'=>by rw[e',hc]at hj;cases hj
              rw[hset]at hlj;simp only[hji,if_false]at hlj;have hne:o.dst≠some d':=fun e'=>by rw[hdz d' e']at hv';cases hv'
              rw[hbget d' hne];exact S.pure j hj hlj d' v' hd' hv' (by rw[<-hbs];exact hlt)
            · intro t ht
              rw[hbget t (fun e'=>by
                have:=ht i (by rw[hdi,e'])
                rw[hset]at this;simp at this)]
              exact S.old t fun j hj=>by
                have:=ht j hj;rw[hset]at this;by_cases hji:j=i
                · simp[hji]at this
                · simpa[hji] using this
          split
          · rename_i hw;rw[if_pos hw]at H';rcases H' with H'|⟨_,H'⟩
            · exact .inl (Oper.wp_sim' (fun x a w h=>h.1) MO hx hdz hnext H')
            · exact absurd H' MO
          · rename_i hw;rw[if_neg hw]at H';exact hnext _ _ undef rfl (by rw[F9 hdz];exact H')
def Ft(P:Program)(l:List Oper)(n:Nat)(s:AB)(h0:Hp)(K:AB->Prop):List Nat->AB->Prop
  | [],z=>K z
  | i::r,z=>∃o d v,l[i]?=some o/\o.dst=some d/\d<n/\lk (z++s) d=none/\OX P o (z++s) h0 [] v/\Ft P l n s h0 K r ((d,v)::z)
theorem OX.mono_s{P:Program}{s:AB}{h:Hp}{ms:List Hp}{d:Nat}{u:Value}(k:OX P o s h ms v)(hd:lk s d=none):OX P o ((d,u)::s) h ms v:=fun ρ w hρ hw=>
  k ρ w (fun x u' hx=>hρ x u' (by
    cases x with
    | tmp t=>
      have:d≠t:=fun e=>by subst e;simp only[ev]at hx;rw[hd]at hx;cases hx
      simp only[ev]at hx ⊢;rw[Bv _ _ this];exact hx
    | const v=>exact hx
    | global g=>exact hx
    | func f=>exact hx)) hw
theorem PD{P:Program}{s:AB}{h0:Hp}{K:AB->Prop}:∀(r done:List Nat) (z:AB),
    (∀i∈done,∀o d,l[i]?=some o->o.dst=some d->∃v,lk z d=some v/\OX P o (z++s) h0 [] v)->(∀t v,lk z t=some v->t<n/\∃i∈done,Ba l.toArray i=some t)->Ft P l n s h0 K r z →
    ∃zf,K zf/\(∀i,i∈done\/i∈r->∀o d,l[i]?=some o->o.dst=some d->∃v,lk zf d=some v/\OX P o (zf++s) h0 [] v)/\(∀t v,lk zf t=some v->t<n/\∃i,(i∈done\/i∈r)/\Ba l.toArray i=some t)
  | [],done,z,h1,h2,h3=>⟨z,h3,fun i hi=>h1 i (hi.resolve_right (by simp)),fun t v hv=>by
      obtain⟨g1,i,g2,g3⟩:=h2 t v hv
      exact⟨g1,i,.inl g2,g3⟩⟩
  | j::r,done,z,h1,h2,⟨o,d,v,e1,e2,e3,e4,e5,e6⟩=>by
    have hzd:lk z d=none:=by
      rw[Cm]at e4;cases hl:lk z d with
      | none=>rfl
      | some u=>rw[hl]at e4;cases e4
    obtain⟨zf,g1,g2,g3⟩:=PD r (j::done) ((d,v)::z) (fun i hi o' d' ho' hd'=>by
      rcases List.mem_cons.1 hi with rfl|hi
      · rw[e1]at ho';cases ho';rw[e2]at hd';cases hd';exact⟨v,Bw _ _ _,e5.mono_s e4⟩
      · obtain⟨v',f1,f2⟩:=h1 i hi o' d' ho' hd';refine⟨v',?_,f2.mono_s e4⟩;have:d≠d':=fun e=>by subst e;rw[hzd]at f1;cases f1
        rw[Bv _ _ this];exact f1) (fun t u hu=>by
      by_cases hdt:d=t
      · subst hdt;exact⟨e3,j,by simp,by simp[Ba,e1,e2]⟩
      · rw[Bv _ _ hdt]at hu;obtain⟨f1,i,f2,f3⟩:=h2 t u hu
        exact⟨f1,i,mem_cons_of_mem _ f2,f3⟩) e6
    refine⟨zf,g1,fun i hi=>g2 i ?_,fun t u hu=>?_⟩
    · rcases hi with hi|hi
      · exact .inl (mem_cons_of_mem _ hi)
      · rcases List.mem_cons.1 hi with rfl|hi
        · exact .inl mem_cons_self
        · exact .inr hi
    · obtain⟨f1,i,f2,f3⟩:=g3 t u hu;refine⟨f1,i,?_,f3⟩;rcases f2 with f2|f2
      · rcases List.mem_cons.1 f2 with rfl|f2
        · exact .inr mem_cons_self
        · exact .inl f2
      · exact .inr (mem_cons_of_mem _ f2)
theorem Aa6{P:Program}{s:AB}{h0:Hp}{K:AB->Prop}{r:List Nat}{i d:Nat}(ho:l[i]?=some o)(hd:o.dst=some d)(hn:Nat.blt d n=true)(hf:lk (z++s) d=none)(hx:OX P o (z++s) h0 [] v)(k:Ft P l n s h0 K r ((d,v)::z)):Ft P l n s h0 K (i::r) z:=
  ⟨o,d,v,ho,hd,Nat.le_of_ble_eq_true hn,hf,hx,k⟩
section
variable {e:Entry} {ops:Array Oper} {Q:Exit->Act->World->Prop} {h0:Hp} {fuel:Nat} {listed:Array Bool} {s:AB} {h:Hp} {ms:List Hp}
theorem Y7(hl:h0.le h)(k:WB e ops Q h0 fuel listed s h ms):NX e (QB e ops Q h0 fuel listed) .normal s h ms:=fun a w ha hw=>⟨rfl,s,h,ms,ha,hw,hl,k⟩
theorem Aac(hr:Region.ready .any ops listed=[])(k:NX e Q .normal s h ms):WB e ops Q h0 fuel listed s h ms:=by
  cases fuel with
  | zero=>exact⟨hr,k⟩
  | succ n=>exact⟨fun _=>k,fun i hi=>by rw[hr]at hi;cases hi⟩
def WBl(e:Entry)(ops:Array Oper)(Q:Exit->Act->World->Prop)(h0:Hp)(fuel:Nat)(listed:Array Bool)(s:AB)(h:Hp)(ms:List Hp):List Nat->Prop
  | []=>True
  | i::l=>(∃o,ops[i]?=some o/\WL e ops (QB e ops Q h0 fuel (listed.setIfInBounds i true)) [o] s h ms)/\WBl e ops Q h0 fuel listed s h ms l
theorem WBl.get:∀(l:List Nat),WBl e ops Q h0 fuel listed s h ms l->∀i∈l,∃o,ops[i]?=some o/\WL e ops (QB e ops Q h0 fuel (listed.setIfInBounds i true)) [o] s h ms
  | [],_,i,hi=>by cases hi
  | j::l,H,i,hi=>by
    rcases List.mem_cons.1 hi with rfl|hi
    · exact H.1
    · exact WBl.get l H.2 i hi
theorem A5:WBl e ops Q h0 fuel listed s h ms []:=trivial
theorem AA{i:Nat}{l:List Nat}(ho:ops[i]?=some o)(k:WL e ops (QB e ops Q h0 fuel (listed.setIfInBounds i true)) [o] s h ms)(k':WBl e ops Q h0 fuel listed s h ms l):WBl e ops Q h0 fuel listed s h ms (i::l):=⟨⟨o,ho,k⟩,k'⟩
theorem A4(l:List Nat)(hr:Region.ready .any ops listed=l)(hne:l.isEmpty=false)(k:WBl e ops Q h0 fuel listed s h ms l):WB e ops Q h0 (fuel+1) listed s h ms:=
  ⟨fun h0=>(by rw[hr]at h0;subst h0;cases hne),fun i hi=>k.get l i (by rw[hr]at hi;exact hi)⟩
end
theorem UH{e:Entry}{Q:Exit->Act->World->Prop}{s:AB}{h:Hp}{ms:List Hp}{bs:List Bool}(m:List Bool)(hpu:Li (Jq m 0) l.toArray=true)(hbk:Ix l.toArray=true)(hn:l.length=n)
    (hbs:(range n).map (fun i=>(Jq m 0).contains i)=bs) (k:Ft e.P l e.n s h (fun z=>WB e l.toArray Q h n bs.toArray (z++s) h ms) (Jq m 0) []):∀a w,Has e.n e.ds a s->e.Ends w h ms->wpAny e.P .any l.toArray Q l.toArray.size (Array.replicate l.toArray.size false) a { w with drawn:=w.drawn+1 }:=by
  intro a w ha hw;obtain⟨z,kw,hz1,hz2⟩:=PD _ [] [] (by simp) (fun t v hv=>by cases hv) k;have PO:=JG hpu;have HBk:=IT hbk;have hmem:∀i,(Jq m 0).contains i=true<->i∈Jq m 0:=fun i=>List.contains_iff_mem
  have hZ:Abb e.P (Jq m 0) l.toArray s z e.n h:=⟨fun i o d hi ho hd=>hz1 i (.inr ((hmem i).1 hi)) o d (by simpa using ho) hd,fun t v hv=>by
    obtain⟨g1,i,g2,g3⟩:=hz2 t v hv
    exact⟨g1,i,(hmem i).2 (g2.resolve_left (by simp)),g3⟩⟩
  have hsz:l.toArray.size=n:=by simpa using hn
  refine Z3 _ _ _ _ ?_
  refine Aaj (h0:=h) ha PO HBk hZ _ n _ a _ ⟨fun i _ hi=>(by rw[BP]at hi;cases hi),fun _ _=>rfl,rfl,fun i o hi=>(by rw[BP]at hi;cases hi)⟩ (by simp) (by
    unfold left;rw[Array.toList_replicate];exact Nat.le_trans (List.countP_le_length) (by simp)) ?_
  have e1:un (Jq m 0) (Array.replicate l.toArray.size false)=bs.toArray:=by
    apply Array.ext_getElem?;intro i;rw[<-hbs];rcases Nat.lt_or_ge i n with hi|hi
    · simp[un,hsz,hi]
    · simp[un];simp at hsz;rw[List.getElem?_eq_none (by simpa using hi),Array.getElem?_eq_none (by simp;omega)];rfl
  rw[e1];refine⟨z++s,h,ms,⟨ha.defers,by simp[zA,ha.size],fun t u hu=>?_⟩,Ends.drew hw,Hp.le_refl _,kw⟩;rw[EK];rw[Cm]at hu;cases hl:lk z t with
  | some v=>
    rw[hl]at hu;cases hu;have hlt:t<a.tmps.size:=by rw[ha.size];exact(hz2 t _ hl).1
    simp[hlt]
  | none=>rw[hl]at hu;rw[ha.slots t u hu];rfl
theorem BG{e:Entry}{id:Nat}{Q:Exit->Act->World->Prop}{s:AB}{h:Hp}{ms:List Hp}{bs:List Bool}(m:List Bool)(hm:e.P.follows .mixedOrders=true)(hpu:Li (Jq m 0) l.toArray=true)(hbk:Ix l.toArray=true)(hn:l.length=n)
    (hbs:(range n).map (fun i=>(Jq m 0).contains i)=bs) (k:Ft e.P l e.n s h (fun z=>WB e l.toArray Q h n bs.toArray (z++s) h ms) (Jq m 0) []):WS e (.region id l.toArray true) Q s h ms:=
  fun a w ha hw=>wp_region_any hm (UH m hpu hbk hn hbs k a w ha hw)
theorem Seg.all{h:Hp}{p:Addr}{cs:List Value}(S:Seg h [] p cs):∀i v,cs[i]?=some v->∀ms,Cell h ms (p.add i) v:=fun i v hv ms=>(S i v hv).any
end Go.Eng
namespace Go.Eng
open Go.RowKit
def XP(w:World):Hp:=fun g=>w.heap[g]?
theorem Xv(w:World):(XP w).inW w:=fun _ _ e=>e
theorem RM{h:Hp}{w:World}(H:h.inW w):h.le (XP w):=fun g o e=>H g o e
theorem XF(w:World):St w (XP w) []:=⟨Xv w,fun m hm=>by simp at hm,fun m hm=>by simp at hm,List.Pairwise.nil⟩
theorem CH{P:Program}{f:FuncId}{args:Array Value}{h:Hp}{ms:List Hp}{v:Value}(k:∀h',h.le h'->(∀m∈ms,m.le h')->FnV P f args h' [] v):FnV P f args h ms v:=fun w hw=>
  k (XP w) (RM hw.imm) (fun m hm=>RM (hw.own m hm)) w (XF w)
section
variable {P:Program} {o:Oper} {s:AB} {h:Hp} {ms:List Hp} {t u:TypeId} {x y:Operand} {a n:Nat}
theorem Nl(ho:o.op=.binOp .shr t x y u){k:IntKind}(hx:ev s x=some (.int .i64 a))(hy:ev s y=some (.int k n))(hn:n<=64):OX P o s h ms (.int .i64 ((a/2^n:Nat):Int)):=
  Bx fun ρ w hρ _=>by
    have h1:¬((n:Int)<0):=by omega
    have h2:min n 64=n:=Nat.min_eq_left hn
    have h3:(a:Int).fdiv (2^n)=((a/2^n:Nat):Int):=by rw[Int.fdiv_eq_ediv_of_nonneg _ (Int.le_of_lt (Int.pow_pos (by decide)))];simp
    simp[execOp,ho,hρ _ _ hx,hρ _ _ hy,Op.shift,h1,IntKind.bits,h2,h3,go_sem]
theorem Uy(ho:o.op=.binOp .and t x y u)(hx:ev s x=some (.int .i64 a))(hy:ev s y=some (.int .i64 1))(ha:a<9223372036854775808):OX P o s h ms (.int .i64 ((a%2:Nat):Int)):=
  Bx fun ρ w hρ _=>by
    have h3:IntKind.i64.wrap (((BitVec.ofNat 64 a) &&& (BitVec.ofNat 64 1)).toNat:Int)=((a%2:Nat):Int):=by rw[BitVec.toNat_and,BitVec.toNat_ofNat,BitVec.toNat_ofNat,Nat.mod_eq_of_lt (by omega),Nat.mod_eq_of_lt (by omega),Nat.and_one_is_mod];exact CX (by omega)
    simp[execOp,ho,hρ _ _ hx,hρ _ _ hy,Op.intBits,IntKind.bits,go_sem];exact h3
end
theorem Seg.ofLe{h:Hp}{g:Nat}{el:TypeId}{cs:List Value}(hl:(Bn g el cs).le h):Seg h [] ⟨g,0,none⟩ cs:=fun j u hu=>⟨by unfold Addr.add;split<;>rfl,cs.toArray,el,(0,0),.inl (by
    rw[Dw]
    exact hl _ _ (Hp.one_self _ _)),by rw[D4];simpa using hu⟩
theorem Td{h:Hp}{ms:List Hp}{v:Value}{sz n:Nat}{cs:List Value}(R:Rd h ms v sz n cs){i j:Nat}(hi:i<n):AF (B4 sz v i j)=(AF v).add (i*sz):=by obtain⟨a,c,rfl,h1,h2,h3,h4⟩:=R.ex;obtain⟨q,rfl,_⟩:=h4 (by omega);unfold B4;simp only;rw[if_neg (by omega)];rfl
section
open Go.Lin
variable {e:Entry} {Q:Exit->Act->World->Prop} {ops:Array Oper} {rest:List Oper} {o:Oper} {s:AB} {h:Hp} {ms:List Hp}
theorem F0{el:TypeId}{m:Hp}{v:Value}{r c:Nat}{f:Nat->Nat->Int}{t:TypeId}{x y:Operand}{z:Value}{bytes:Nat}{a:Int}(i p j:Nat)(O:OwnL cI 1 el m v (Dy r c f))(hp:p<r)(hj:j<c)(ho:o.op=.store t x y)(hs:Elem e.P t 1 z bytes)(hx:ev s x=some (.pointer (some ((AF (B4 1 v (p*c) ((p+1)*c))).add (j*1)))))(hy:ev s y=some (.int .i64 a))
    (hm:ms[i]?=some m) (hd:o.dst=none) (hg:o.guard=none)
    (K:∀m',OwnL cI 1 el m' v (Dy r c (Jg f p j a))->WL e ops Q rest s h (ms.set i m')):WL e ops Q (o::rest) s h ms:=by
  have hl:p*c+j<(Dy r c f).length:=by rw[DC];exact OL hp hj
  have hl2:p*c<(Dy r c f).length:=by omega
  rw[Td (O.rd (h:=h) (ms:=[m]) (List.Mem.head _)).rd hl2,BT,<-Nat.add_mul]at hx;exact De i (p*c+j) O ho hs hx hy hm hl hd hg fun m' O'=>K m' (by rw[Nn _ hj]at O';exact O')
end
section
variable {P:Program} {o:Oper} {s:AB} {h:Hp} {ms:List Hp} {t el:TypeId} {x y lo hi:Operand} {v:Value} {sz n:Nat} {cs:List Value} {z:Value} {bytes:Nat} {k k':IntKind} {h1':Hp} {ms1':List Hp}
theorem BI{i:Int}(j:Nat)(R:Rd h1' ms1' v sz n cs)(ho:o.op=.indexAddr t x y)(ht:P.underlying t=some (.slice el))(hs:Elem P el sz z bytes)(hx:ev s x=some v)(hy:ev s y=some (.int k i))(hi:i=(j:Int))(hlt:j<n):OX P o s h ms (.pointer (some ((AF v).add (j*sz)))):=by obtain⟨c,e,_⟩:=R.val (by omega);rw[e]at hx;exact BM j ho ht hs hx hy hi hlt
theorem D8(R:Rd h1' ms1' v sz n cs)(ho:o.op=.call { callee:=.builtin .len,args:=#[x],argTypes:=#[t] })(ht:P.underlying t=some (.slice el))(hx:ev s x=some v):OX P o s h ms (.int .i64 n):=by obtain⟨a,c,rfl,_⟩:=R.ex;exact Jd (ty:=t) ho ht hx
theorem OY{l:Int}(i:Nat)(R:Rd h1' ms1' v sz n cs)(ho:o.op=.slice t x (some lo) none none)(ht:P.underlying t=some (.slice el))(hs:Elem P el sz z bytes)(hx:ev s x=some v)(hlo:ev s lo=some (.int k l))(el':l=(i:Int))(h1:i<=n) :
    OX P o s h ms (B4 sz v i n):=by
  obtain⟨a,c,rfl,e2,e3,e4,e5⟩:=R.ex
  exact Bx fun ρ w hρ _=>by
    have g1:(0:Int)<=l/\l<=(n:Int):=by omega
    have g3:l.toNat=i:=by omega
    simp[execOp,ho,hρ _ _ hx,hρ _ _ hlo,Instr.sliceAt,Instr.slice,run_underlying ht,Instr.sliceBounds,Instr.sliceBound,asIntOf,g1,g3,hs.sizeOf,B4]
theorem EA{r:Int}(j:Nat)(R:Rd h1' ms1' v sz n cs)(ho:o.op=.slice t x none (some hi) none)(ht:P.underlying t=some (.slice el))(hs:Elem P el sz z bytes)(hx:ev s x=some v)(hhi:ev s hi=some (.int k r))(er:r=(j:Int))(h2:j<=n) :
    OX P o s h ms (B4 sz v 0 j):=by
  obtain⟨a,c,rfl,e2,e3,e4,e5⟩:=R.ex
  exact Bx fun ρ w hρ _=>by
    have g2:(0:Int)<=r/\r<=(c:Int):=by omega
    have g4:r.toNat=j:=by omega
    simp[execOp,ho,hρ _ _ hx,hρ _ _ hhi,Instr.sliceAt,Instr.slice,run_underlying ht,Instr.sliceBounds,Instr.sliceBound,asIntOf,g2,g4,hs.sizeOf,B4]
end
section
variable {e:Entry} {Q:Exit->Act->World->Prop} {ops:Array Oper} {rest:List Oper} {s:AB} {h:Hp} {ms:List Hp} {c:Code} {a b:Hp}
theorem J1(k:WL e ops Q rest s h (b::a::ms)):WL e ops Q rest s h (a::b::ms):=RI (List.Perm.swap _ _ _) k
theorem J4{x:Exit}(k:NX e Q x s h (b::a::ms)):NX e Q x s h (a::b::ms):=Ir (List.Perm.swap _ _ _) k
theorem Bm{g:Nat}{el:TypeId}{cs:List Value}(i:Nat)(hm:ms[i]?=some (Bn g el cs))(k:∀h',h.le h'->Seg h' [] ⟨g,0,none⟩ cs->WS e c Q s h' (ms.eraseIdx i)):WS e c Q s h ms:=
  Iq (CT hm) (AC k)
end
section
variable {e:Entry} {Q:Exit->Act->World->Prop} {s:AB} {h:Hp} {ms:List Hp} {c:Code}
theorem V1(k:WS e c (Exit.noGoto Q) s h ms):WS e (.scope c) Q s h ms:=fun a w ha hw=>wp_scope_straight (k a w ha hw)
theorem Np(k:NX e Q .ret s h ms):NX e (Exit.noGoto Q) .ret s h ms:=fun a w ha hw=>k a w ha hw
end
end Go.Eng
namespace Go.Eng
open Go.RowKit
variable {n l id:Nat} {P:Program} {w:World} {a:Act} {next:Act->World->Prop} {y x:Code} {args:Array Value} {post:Value->Hp->List Hp->Prop}
abbrev FR(l:Nat):Fence:=Fence.wide.inRound l
theorem UO{f:FuncId}{R:Ending->World->Prop}(h:Calls P f args w R):CallsIn (FR l) n P f args w R:=by have:=(callsIn_wide (n:=n)).2 h;exact this
theorem L8{row:String}{R:Value->World->Prop}(h:Rows P row args w R):RowsIn Fence.wide n P row args w R:=
  fun c cs _=>let ⟨v,w',r,s⟩:=h c cs;⟨v,w',r,stepsIn_wide.2 s⟩
theorem Xk{row:String}{R:Value->World->Prop}(h:Rows P row args w R):RowsIn (FR l) n P row args w R:=L8 (n:=n) h
theorem Yo{o:Oper}{Q:Exit->Act->World->Prop}{r:Result Next}(h:o.upon P a next Q r):o.uponIn (FR l) n P a next Q r:=by
  have nod:(FR l).depth.isSome=true->1<=n:=fun h=>by cases h
  cases r with
  | ok x w'=>
    cases x<;>simp only[Oper.upon]at h<;>simp only[Oper.uponIn] <;>
      first
        | exact h
        | exact⟨nod,(UO h).mono fun e w he=>by cases e<;>exact he⟩
        | exact⟨nod,Xk h⟩
        | exact h.elim
  | halt x w'=>cases x<;>simp only[Oper.upon]at h<;>simp only[Oper.uponIn]<;>exact h
theorem To{o:Oper}{Q:Exit->Act->World->Prop}{r:Result Next}(h:o.upon P a next Q r):o.uponIn Fence.wide n P a next Q r:=by
  have nod:Fence.wide.depth.isSome=true->1<=n:=fun h=>by cases h
  cases r with
  | ok x w'=>
    cases x<;>simp only[Oper.upon]at h<;>simp only[Oper.uponIn] <;>
      first
        | exact h
        | exact⟨nod,(callsIn_wide.2 h).mono fun e w he=>by cases e<;>exact he⟩
        | exact⟨nod,L8 h⟩
        | exact h.elim
  | halt x w'=>cases x<;>simp only[Oper.upon]at h<;>simp only[Oper.uponIn]<;>exact h
theorem XK{o:Oper}{Q:Exit->Act->World->Prop}(hd:∀c,o.op≠.defer c)(h:o.wp P a w next Q):o.wpIn (FR l) n P a w next Q:=
  ⟨fun _ _=>trivial,by rw[Oper.semAt_eq _ _ _ hd];exact Yo h⟩
theorem Tl{o:Oper}{Q:Exit->Act->World->Prop}(h:o.wp P a w next Q):o.wpIn Fence.wide n P a w next Q:=
  ⟨fun _ _=>trivial,To h⟩
def T9(o:Op):Bool:=match o with
  | .defer _=>true
  | _=>false
theorem T8{o:Op}(h:T9 o=false)(c:Call):o≠.defer c:=fun e=>by have h2:T9 (.defer c)=true:=rfl;rw[e,h2]at h;cases h
def Ld:List Oper->Bool
  | []=>true
  | o::l=>!T9 o.op&&Ld l
theorem KB:∀{l:List Oper},Ld l=true->∀o∈l,∀c,o.op≠.defer c
  | [],_,o,ho,c=>by cases ho
  | o'::l,h,o,ho,c=>by
    simp only[Ld,Bool.and_eq_true,Bool.not_eq_true']at h;rcases List.mem_cons.1 ho with rfl|ho
    · exact T8 h.1 c
    · exact KB h.2 o ho c
theorem NH{k:Nat}{ops:Array Oper}{Q:Exit->Act->World->Prop}(hq:¬LetsOut Q):∀(l:List Oper),Ld l=true->∀a w,wpList P ops Q l a w->wpListIn (FR k) n P ops Q l a w
  | [],_,a,w,h=>h
  | o::l,hn,a,w,h=>by
    have hn2:Ld l=true:=by simp only[Ld,Bool.and_eq_true]at hn;exact hn.2
    have hd:=KB hn o (mem_cons_self);unfold wpList at h;unfold wpListIn;split at h
    · rename_i hw;rw[if_pos hw];rcases h with h|h
      · exact Oper.wpIn_mono (fun a w=>NH hq l hn2 a w) (XK hd h)
      · exact absurd h.2 hq
    · rename_i hw;rw[if_neg hw];exact⟨fun _ _=>trivial,NH hq l hn2 _ _ h⟩
def RS(e:Entry)(c:Code)(Q:Exit->Act->World->Prop)(s:AB)(h:Hp)(ms:List Hp):Prop:=
  ∀l a w,Has e.n e.ds a s->e.Ends w h ms->¬LetsOut Q->c.wpIn (FR l) 0 e.P Q a w
def cR(e:Entry)(y:Code)(Q:Exit->Act->World->Prop)(a:Act)(w:World):Prop:=∀l,¬LetsOut Q->y.wpIn (FR l) 0 e.P Q a w
section
variable {e:Entry} {Q:Exit->Act->World->Prop} {s s':AB} {h:Hp} {ms:List Hp} {ops:Array Oper}
theorem QQ(k:RS e x (Exit.then (cR e y Q) Q) s h ms):RS e (.seq x y) Q s h ms:=fun l a w ha hw hq=>
  wpIn_seq (wpIn_mono (k l a w ha hw fun⟨a,w,h⟩=>hq ⟨a,w,h⟩) fun x a w q=>by
    cases x with
    | normal=>exact q l hq
    | _=>exact q)
theorem Ku(k:RS e y Q s h ms):NX e (Exit.then (cR e y Q) Q) .normal s h ms:=fun a w ha hw l hq=>k l a w ha hw hq
theorem O6{c:Code}(k:RS e c (Exit.inBlock id Q) s h ms):RS e (.block id c) Q s h ms:=
  fun l a w ha hw hq=>wpIn_block (k l a w ha hw fun⟨a,w,h⟩=>hq ⟨a,w,h⟩)
theorem ZK(k:NX e Q .ret s h ms):RS e .ret Q s h ms:=fun l a w ha hw _=>wpIn_ret (k a w ha hw)
theorem XY(k:NX e Q .normal s h ms):RS e .skip Q s h ms:=fun l a w ha hw _=>wpIn_skip (k a w ha hw)
theorem YC{t:Nat}{b:Bool}(hc:lk s t=some (.bool b))(kt:b=true->RS e x Q s h ms)(kf:b=false->RS e y Q s h ms):RS e (.cond (.tmp t) x y) Q s h ms:=
  fun l a w ha hw hq=>wpIn_cond_split (ha.eval (.tmp t) _ hc) (fun hb=>kt hb l a w ha hw hq) (fun hb=>kf hb l a w ha hw hq)
theorem AaF{t:Nat}{p:Prop}{_:Decidable p}(hc:lk s t=some (.bool (decide p)))(kt:p->RS e x Q s h ms)(kf:¬p->RS e y Q s h ms):RS e (.cond (.tmp t) x y) Q s h ms:=
  YC hc (fun hb=>kt (of_decide_eq_true hb)) (fun hb=>kf (of_decide_eq_false hb))
theorem Es{l:List Oper}(hn:Ld l=true)(k:WL e l.toArray Q l s h ms):RS e (.region id l.toArray false) Q s h ms:=
  fun _ a w ha hw hq=>wpIn_region_lit (NH hq l hn a w (k a w ha hw))
end
abbrev AaP(e:Entry)(I:AB->Hp->List Hp->Prop):Exit->Act->World->Prop:=Exit.then (Inv e I) (fun _ _ _=>False)
theorem Yy{e:Entry}{I:AB->Hp->List Hp->Prop}:¬LetsOut (AaP e I):=fun⟨_,_,h⟩=>h
def YdT(P:Program)(l:Nat)(args:Array Value)(h:Hp)(ms:List Hp)(post:Value->Hp->List Hp->Prop):Prop:=
  ∀w,St w h ms->∃fn tmps assign body,(Instr.yield l args).run P w=.ok (.round l fn tmps assign body) w/\RoundIn Fence.wide 0 P l fn tmps assign body w (RP w h ms post)
def IL(e:Entry)(ops:Array Oper)(Q:Exit->Act->World->Prop)(l:List Oper)(s:AB)(h:Hp)(ms:List Hp):Prop:=
  ∀a w,Has e.n e.ds a s->e.Ends w h ms->wpListIn Fence.wide 0 e.P ops Q l a w
section
variable {e:Entry} {Q:Exit->Act->World->Prop} {s:AB} {h:Hp} {ms:List Hp} {ops:Array Oper} {o:Oper} {rest:List Oper}
theorem Dt{l:List Oper}(k:IL e l.toArray Q l s h ms):WS e (.region id l.toArray false) Q s h ms:=
  fun a w ha hw=>wpIn_wide.1 (wpIn_region_lit (k a w ha hw))
theorem FK(k:NX e Q .normal s h ms):IL e ops Q [] s h ms:=fun a w ha hw=>k a w ha hw
theorem DB{d:Nat}{v:Value}(hx:OX e.P o s h ms v)(hd:o.dst=some d)(hn:Nat.blt d e.n=true)(hg:o.guard=none)(k:IL e ops Q rest ((d,v)::s) h ms):IL e ops Q (o::rest) s h ms:=fun a w ha hw=>by unfold wpListIn;rw[if_pos (by simp[Region.wanted,hg])];refine Tl ((hx a.eval w ha.eval hw.st).wp fun v' w' ⟨e1,e2⟩=>?_);subst e1;rw[hd];exact k _ _ (ha.put (Nat.le_of_ble_eq_true hn) _) (hw.ext e2)
theorem OK{x:Operand}{lp:Nat}{l:List Operand}{ts:Array TypeId}{vs:List Value}{d:Nat}(ho:o.op=.call { callee:=.value x,args:=l.toArray,argTypes:=ts })(hx:ev s x=some (.func (.yield lp) #[] #[]))(ha:PG s l=some vs)(k:YdT e.P lp vs.toArray h ms post)(hd:o.dst=some d)(hn:Nat.blt d e.n=true)(hg:o.guard=none)
    (K:∀v h' ms',h.le h'->post v h' ms'->IL e ops Q rest ((d,v)::s) h' ms'):IL e ops Q (o::rest) s h ms:=fun a w hA hw=>by
  unfold wpListIn;rw[if_pos (by simp[Region.wanted,hg])];obtain⟨fn,tmps,assign,body,hy,hr⟩:=k w hw.st
  have hrun:(execOp a.eval o).run e.P w=.ok (.round lp fn tmps assign body) w:=by simp[execOp,ho,resolve,hA.eval _ _ hx,Deferred.ofValue,invoke,(show Evs s a.eval from hA.eval).map l vs ha,hy]
  refine⟨fun _ _=>trivial,?_⟩;rw[Oper.semAt_eq _ _ _ (fun c e=>by rw[ho]at e;cases e),hrun];refine⟨(fun h=>by cases h),hr.mono fun x w' ⟨r,h',ms',e1,e2,e3⟩=>?_⟩;subst e1;show wpListIn _ _ _ _ _ _ (a.put o.dst r) w';rw[hd];refine K r h' ms' e2.le e3 _ _ (hA.put (Nat.le_of_ble_eq_true hn) _) ?_;have:=Ends.call (fr:=[]) (by rw[append_nil];exact hw) e2
  rwa [append_nil]at this
end
def VR:List Nat->List Value->AB->AB
  | p::ps,v::vs,s=>VR ps vs ((p,v)::s)
  | _,_,s=>s
theorem Rn{ds:List Nat}{D:List Deferred}(hD:D=mkD ds):∀(ps:List Nat) (vs:List Value) (s:AB) (t:Array Value),(∀p∈ps,p<n)->Has n ds { tmps:=t,defers:=D } s->Has n ds { tmps:=(ps.zip vs).foldl (fun t (p,v)=>t.setIfInBounds p v) t,defers:=D } (VR ps vs s)
  | [],vs,s,t,_,H=>by cases vs<;>exact H
  | p::ps,[],s,t,_,H=>H
  | p::ps,v::vs,s,t,hp,H=>by show Has n ds { tmps:=(ps.zip vs).foldl (fun t (p,v)=>t.setIfInBounds p v) (t.setIfInBounds p v),defers:=D } (VR ps vs ((p,v)::s));exact Rn hD ps vs _ _ (fun q hq=>hp q (mem_cons_of_mem _ hq)) (H.put (hp p mem_cons_self) v)
def Mk(D:Nat):Hp:=Hp.one D (.deferred (some []))
theorem Ends.putL{w0:World}{h0 h:Hp}{ms0 ms:List Hp}{o:Obj}(o':Obj)(H:Ends w0 h0 ms0 w h (Hp.one l o::ms)):Ends w0 h0 ms0 (w.putObj l o') h (Hp.one l o'::ms):=by have hl:w.heap[l]?=some o:=H.st.own _ (mem_cons_self) l o (Hp.one_self l o);have hlt:=(Array.getElem?_eq_some_iff.1 hl).1;exact H.change rfl ⟨rfl,Nat.le_refl _⟩ rfl (by simp) (World.putObj_heap_same hlt) fun k _ hk=>World.putObj_heap_other hk
theorem LO{f:FuncId}{fn:Func}{c:Code}{l:List Value}{h:Hp}{ms:List Hp}
    (hf:P.funcs[f]?=some fn) (hn:fn.ntmps=n) (hb:fn.body=some c) (hl:Nat.ble l.length n=true)
    (k:∀w0,St w0 h ms->WS ⟨P,w0,h,ms,n,[]⟩ c (bodyPostM Fence.wide 0 P fn (RP w0 h ms post)) (AX 0 l) h ms):FnT P f l.toArray h ms post:=by
  intro w hw;refine(callsIn_wide (n:=0)).1 (callsIn_of_wp_marks hf hb trivial (wpIn_wide.2 (k w hw _ w ?_ (Ends.refl hw))));have hl':=Nat.le_of_ble_eq_true hl;refine⟨rfl,by simp[hn];omega,fun i v e=>?_⟩;obtain⟨_,h2⟩:=RF l 0 i v e
  have hi:i<l.length:=by
    rcases Nat.lt_or_ge i l.length with h'|h'
    · exact h'
    · rw[List.getElem?_eq_none (by omega)]at h2;cases h2
  simp only[Nat.sub_zero]at h2;rw[Array.getElem?_append_left (by simpa using hi)];simpa using h2
theorem J5{w0:World}{h0:Hp}{ms0:List Hp}{D:Nat}{fn:Func}{s:AB}{h:Hp}{ms:List Hp}{x:Exit}(i:Nat)(hx:x=.normal\/x=.ret)(hm:ms[i]?=some (Mk D))(k:NX ⟨P,w0,h0,ms0,n,[]⟩ (bodyPost P fn (RP w0 h0 ms0 post)) x s h (ms.eraseIdx i)) :
    NX ⟨P,w0,h0,ms0,n,[D]⟩ (bodyPostM Fence.wide 0 P fn (RP w0 h0 ms0 post)) x s h ms:=by
  intro a w ha hw;have hp:=hw.perm (CT hm);have hD:w.heap[D]?=some (.deferred (some [])):=hp.st.own _ (mem_cons_self) D _ (Hp.one_self _ _);have hE:=(Ends.putL (.deferred none) hp).drop;have hb:=k { a with defers:=[] } _ ⟨rfl,ha.size,ha.slots⟩ hE;have hd:a.defers=[{ target:=.collected D,args:=#[] }]:=ha.defers
  have goal:LeavesInM Fence.wide 0 P fn a.tmps (RP w0 h0 ms0 post) a.defers .returning w:=by rw[hd];refine⟨by simp,.inl ⟨D,_,rfl,run_takeDeferred hD,?_⟩⟩;rcases hx with rfl|rfl<;>· obtain⟨_,v,hr,hR⟩:=hb;exact⟨v,hr,hR⟩
  rcases hx with rfl|rfl<;>exact goal
end Go.Eng
namespace Go.Eng
open Go.RowKit
variable {f:Nat->Hp} {N l:Nat} {m:Hp} {R:Nat->Hp->Prop}
def Dl(f:Nat->Hp):Nat->Hp
  | 0=>Hp.emp
  | n+1=>(Dl f n).join (f n)
def GO(f:Nat->Hp)(l:Nat)(m:Hp):Nat->Hp:=fun k=>if k=l then m else f k
theorem Cd(f:Nat->Hp)(l:Nat)(m:Hp):GO f l m l=m:=if_pos rfl
theorem B3(f:Nat->Hp){k:Nat}(m:Hp)(h:k≠l):GO f l m k=f k:=if_neg h
theorem joinN_none{g:Nat}:∀{n:Nat},Dl f n g=none<->∀i,i<n->f i g=none
  | 0=>⟨fun _ i h=>by omega,fun _=>rfl⟩
  | n+1=>by
    show(match Dl f n g with|some o=>some o|none=>f n g)=none<->_;cases h:Dl f n g with
    | some o=>
      constructor
      · intro e;cases e
      · intro e;have:=(joinN_none (n:=n)).2 fun i hi=>e i (by omega);rw[h]at this;cases this
    | none=>
      constructor
      · intro e i hi;rcases (by omega:i<n\/i=n) with h2|rfl
        · exact joinN_none.1 h i h2
        · exact e
      · intro e;exact e n (by omega)
def Dj(N:Nat)(f:Nat->Hp):Prop:=∀i j,i<N->j<N->i≠j->(f i).disj (f j)
theorem Er{g:Nat}{o:Obj}:∀{n:Nat},Dj n f->∀{l:Nat},l<n->f l g=some o->Dl f n g=some o
  | n+1,hd,l,hl,e=>by
    show(match Dl f n g with|some o=>some o|none=>f n g)=some o;rcases (by omega:l<n\/l=n) with h|rfl
    · rw[Er (fun i j hi hj=>hd i j (by omega) (by omega)) h e]
    · have:Dl f l g=none:=joinN_none.2 fun i hi=>by
        rcases hd i l (by omega) (by omega) (by omega) g with h|h
        · exact h
        · rw[h]at e;cases e
      rw[this];exact e
theorem Dj.upd(h:Dj N f)(l:Nat):Dj N (GO f l Hp.emp):=fun i j hi hj hne g=>by
  by_cases h1:i=l
  · subst h1;left;rw[Cd];rfl
  · by_cases h2:j=l
    · subst h2;right;rw[Cd];rfl
    · rw[B3 f _ h1,B3 f _ h2];exact h i j hi hj hne g
theorem KY(hd:Dj N f)(hl:l<N):Dl f N=(f l).join (Dl (GO f l Hp.emp) N)/\(f l).disj (Dl (GO f l Hp.emp) N):=by
  have key:∀g,f l g≠none->Dl (GO f l Hp.emp) N g=none:=fun g hg=>joinN_none.2 fun i hi=>by
    by_cases h:i=l
    · subst h;rw[Cd];rfl
    · rw[B3 f _ h];rcases hd i l hi hl h g with h2|h2
      · exact h2
      · exact absurd h2 hg
  constructor
  · funext g;show _=match f l g with|some o=>some o|none=>Dl (GO f l Hp.emp) N g
    cases h:f l g with
    | some o=>exact Er hd hl h
    | none=>
      show Dl f N g=Dl (GO f l Hp.emp) N g;cases h2:Dl (GO f l Hp.emp) N g with
      | none=>
        refine joinN_none.2 fun i hi=>?_;by_cases h3:i=l
        · subst h3;exact h
        · have:=joinN_none.1 h2 i hi
          rwa [B3 f _ h3]at this
      | some o=>
        have:∃i,i<N/\GO f l Hp.emp i g≠none:=Classical.byContradiction fun hc=>by have:=(joinN_none (f:=GO f l Hp.emp) (g:=g) (n:=N)).2 fun i hi=>Classical.byContradiction fun hn=>hc ⟨i,hi,hn⟩;rw[h2]at this;cases this
        obtain⟨i,hi,hne⟩:=this;obtain⟨o',ho'⟩:=Hp.ne_none hne;have:=Er (hd.upd l) hi ho';rw[h2]at this;cases this;have hil:i≠l:=fun he=>by subst he;rw[Cd]at ho';cases ho'
        rw[B3 f _ hil]at ho';exact Er hd hi ho'
  · intro g;by_cases h:f l g=none
    · exact .inl h
    · exact .inr (key g h)
def Bag(N:Nat)(R:Nat->Hp->Prop)(m:Hp):Prop:=∃f:Nat->Hp,Dj N f/\m=Dl f N/\∀l,l<N->R l (f l)
theorem Bag.zero(R:Nat->Hp->Prop):Bag 0 R Hp.emp:=⟨fun _=>Hp.emp,fun i j h=>by omega,rfl,fun l h=>by omega⟩
theorem Bag.mono{R':Nat->Hp->Prop}(B:Bag N R m)(h:∀l,l<N->∀x,R l x->R' l x):Bag N R' m:=
  let ⟨f,h1,h2,h3⟩:=B
  ⟨f,h1,h2,fun l hl=>h l hl _ (h3 l hl)⟩
theorem Hp.disj_of_join{a b c:Hp}(h:a.disj (b.join c)):a.disj b/\a.disj c:=by have h':=Hp.disj_symm h;exact⟨Hp.disj_symm (Hp.disj_left h'),Hp.disj_symm (Hp.disj_right h')⟩
theorem disj_joinN{n:Nat}:m.disj (Dl f n)<->∀i,i<n->m.disj (f i):=by
  constructor
  · intro h i hi g;rcases h g with h1|h1
    · exact .inl h1
    · exact .inr (joinN_none.1 h1 i hi)
  · intro h g;by_cases hg:m g=none
    · exact .inl hg
    · refine .inr (joinN_none.2 fun i hi=>?_);rcases h i hi g with h1|h1
      · exact absurd h1 hg
      · exact h1
theorem GY{f':Nat->Hp}:∀{n:Nat},(∀i,i<n->f i=f' i)->Dl f n=Dl f' n
  | 0,_=>rfl
  | n+1,h=>by show(Dl f n).join (f n)=(Dl f' n).join (f' n);rw[GY fun i hi=>h i (by omega),h n (by omega)]
theorem Bag.snoc{x:Hp}(B:Bag N R m)(hx:R N x)(hd:m.disj x):Bag (N+1) R (m.join x):=by
  obtain⟨f,h1,rfl,h3⟩:=B;have hc:Dl (GO f N x) N=Dl f N:=GY fun i hi=>B3 f x (by omega);refine⟨GO f N x,fun i j hi hj hne=>?_,?_,fun l hl=>?_⟩
  · have hd':=disj_joinN.1 (Hp.disj_symm hd);rcases (by omega:i<N\/i=N) with h|rfl
    · rw[B3 f x (by omega:i≠N)];rcases (by omega:j<N\/j=N) with h2|rfl
      · rw[B3 f x (by omega:j≠N)];exact h1 i j h h2 hne
      · rw[Cd];exact Hp.disj_symm (hd' i h)
    · rw[Cd,B3 f x (by omega:j≠i)];exact hd' j (by omega)
  · show _=(Dl (GO f N x) N).join (GO f N x N);rw[hc,Cd]
  · rcases (by omega:l<N\/l=N) with h|rfl
    · rw[B3 f x (by omega)];exact h3 l h
    · rw[Cd];exact hx
theorem Bag.open(B:Bag N R m)(hl:l<N):∃m1 m2,m=m1.join m2/\m1.disj m2/\R l m1/\(∀k,k<N->k≠l->∃x,x.le m2/\R k x) ∧
    ∀(R':Nat->Hp->Prop) m1',m1'.disj m2->R' l m1'->(∀k,k<N->k≠l->∀x,R k x->R' k x)->Bag N R' (m1'.join m2):=by
  obtain⟨f,h1,rfl,h3⟩:=B;obtain⟨e1,e2⟩:=KY h1 hl;refine⟨f l,_,e1,e2,h3 l hl,fun k hk hne=>⟨f k,fun g o ho=>?_,h3 k hk⟩,fun R' m1' hd hR hk=>⟨GO f l m1',?_,?_,fun k hkN=>?_⟩⟩
  · exact Er (h1.upd l) hk (by rw[B3 f _ hne];exact ho)
  · have hd':=disj_joinN.1 hd;intro i j hi hj hne;by_cases hil:i=l
    · subst hil;rw[Cd,B3 f _ (Ne.symm hne)];have:=hd' j hj
      rwa [B3 f _ (Ne.symm hne)]at this
    · rw[B3 f _ hil];by_cases hjl:j=l
      · subst hjl;rw[Cd];have:=hd' i hi;rw[B3 f _ hil]at this;exact Hp.disj_symm this
      · rw[B3 f _ hjl];exact h1 i j hi hj hne
  · have hD:Dj N (GO f l m1'):=by
      have hd':=disj_joinN.1 hd;intro i j hi hj hne;by_cases hil:i=l
      · subst hil;rw[Cd,B3 f _ (Ne.symm hne)];have:=hd' j hj
        rwa [B3 f _ (Ne.symm hne)]at this
      · rw[B3 f _ hil];by_cases hjl:j=l
        · subst hjl;rw[Cd];have:=hd' i hi;rw[B3 f _ hil]at this;exact Hp.disj_symm this
        · rw[B3 f _ hjl];exact h1 i j hi hj hne
    have:=(KY hD hl).1;rw[Cd]at this;rw[this];congr 1;refine GY fun i _=>?_;by_cases hil:i=l
    · subst hil;rw[Cd,Cd]
    · rw[B3 _ _ hil,B3 _ _ hil,B3 _ _ hil]
  · by_cases hkl:k=l
    · subst hkl;rw[Cd];exact hR
    · rw[B3 f _ hkl];exact hk k hkN hkl _ (h3 k hkN)
theorem Bag.all(B:Bag N R m):∀k,k<N->∃x,x.le m/\R k x:=fun k hk=>by obtain⟨f,h1,rfl,h3⟩:=B;exact⟨f k,fun g o ho=>Er h1 hk ho,h3 k hk⟩
theorem Hp.join_emp(a:Hp):a.join Hp.emp=a:=by funext g;show(match a g with|some o=>some o|none=>none)=a g;cases a g<;>rfl
theorem Hp.emp_join(a:Hp):Hp.emp.join a=a:=rfl
theorem Hp.join_assoc(a b c:Hp):(a.join b).join c=a.join (b.join c):=by funext g;show(match (match a g with|some o=>some o|none=>b g) with|some o=>some o|none=>c g)=(match a g with|some o=>some o|none=>(match b g with|some o=>some o|none=>c g));cases a g<;>rfl
theorem Hp.join_comm{a b:Hp}(h:a.disj b):a.join b=b.join a:=by
  funext g;show(match a g with|some o=>some o|none=>b g)=(match b g with|some o=>some o|none=>a g);rcases h g with h|h<;>rw[h]
  · cases b g<;>rfl
  · cases a g<;>rfl
theorem Bd{α:Type}{F:α->List Value}{e:Entry}{Q:Exit->Act->World->Prop}{ops:Array Oper}{rest:List Oper}{o:Oper}{s:AB}{h:Hp}{ms:List Hp}{t el:TypeId}{sz d:Nat}{z:Value}{bytes:Nat}{x y:Operand}{v u:Value}{l r:List α}(i:Nat)(O:OwnL F sz el m v l)(R:RdL F sz h ms u r)(ho:o.op=.call { callee:=.builtin .append,args:=#[x,y],argTypes:=#[t,t] })(ht:e.P.underlying t=some (.slice el))(hs:Elem e.P el sz z bytes)(hzs:z.cells.size=sz)(hsz:0<sz)
    (hx:ev s x=some v) (hy:ev s y=some u) (hm:ms[i]?=some m) (h1:∀a∈r,∀c∈F a,c.oneCell'=true) (hb:(l.length+r.length)*bytes<=140737488355328) (hb63:l.length+r.length<=9223372036854775807) (hd:o.dst=some d) (hn:Nat.blt d e.n=true) (hg:o.guard=none)
    (K:∀v' m',OwnL F sz el m' v' (l++r)->WL e ops Q rest ((d,v')::s) h (ms.set i m')):WL e ops Q (o::rest) s h ms:=
  Mb i ho ht hs hzs hsz hx hy hm O.own R.rd (fun c hc=>by obtain⟨a,hm',ha⟩:=List.mem_flatMap.1 hc;exact h1 a hm' c ha) hb hb63 hd hn hg fun v' m' O'=>K v' m' ⟨by rw[length_append,List.flatMap_append];exact O',O.len⟩
end Go.Eng

namespace Go.Eng
open Go.RowKit
def Goes(ms ms':List Hp):Prop:=∀w0 h0 ms0 w h,Ends w0 h0 ms0 w h ms->Ends w0 h0 ms0 w h ms'
theorem Goes.perm{a b:List Hp}(h:a.Perm b):Goes a b:=fun _ _ _ _ _ x=>x.perm h
variable {c:Code}
def Hp.minus(h m:Hp):Hp:=fun g=>match m g with|some _=>none|none=>h g
theorem Hp.minus_le(h m:Hp):(h.minus m).le h:=fun g o e=>by
  unfold Hp.minus at e;split at e
  · cases e
  · exact e
theorem Hp.le_minus{a h m:Hp}(hl:a.le h)(hd:a.disj m):a.le (h.minus m):=fun g o e=>by
  unfold Hp.minus;rcases hd g with h1|h1
  · rw[h1]at e;cases e
  · rw[h1];exact hl g o e
theorem Hp.minus_disj(h m:Hp):m.disj (h.minus m):=fun g=>by
  unfold Hp.minus;cases hm:m g with
  | none=>exact .inl rfl
  | some o=>exact .inr rfl
def Ub(e:Entry)(m:Hp):Prop:=e.h0.disj m/\∀k,k<e.w0.heap.size->m k≠none->∃m0∈e.ms0,m0 k≠none
theorem Abp{e:Entry}{w:World}{h:Hp}{ms:List Hp}{m:Hp}(H:e.Ends w h (m::ms)):m.disj h/\Ub e m:=
  ⟨H.st.off m mem_cons_self,And.intro (fun g=>by
    rcases H.st.off m mem_cons_self g with h1|h1
    · exact .inr h1
    · left
      cases h2:e.h0 g with
      | none=>rfl
      | some o=>have:=H.le g o h2;rw[h1]at this;cases this) fun k hk hne=>H.mnew m mem_cons_self k hk hne⟩
theorem back{e:Entry}{w:World}{h:Hp}{ms:List Hp}{m:Hp}(L:Ub e m)(hm:m.le h)(H:e.Ends w h ms):e.Ends w (h.minus m) (m::ms):=by
  refine⟨⟨fun g o ho=>H.st.imm g o (Hp.minus_le h m g o ho),fun x hx=>?_,fun x hx=>?_,?_⟩,H.os,H.tape,H.output,H.size,H.block,Hp.le_minus H.le L.1,fun k hk hn=>?_,fun x hx k hk hne=>?_⟩
  · rcases List.mem_cons.1 hx with rfl|hx
    · exact fun g o ho=>H.st.imm g o (hm g o ho)
    · exact H.st.own x hx
  · rcases List.mem_cons.1 hx with rfl|hx
    · exact Hp.minus_disj h x
    · intro g;rcases H.st.off x hx g with h1|h1
      · exact .inl h1
      · right
        cases h2:h.minus m g with
        | none=>rfl
        | some o=>rw[Hp.minus_le h m g o h2]at h1;cases h1
  · refine List.pairwise_cons.2 ⟨fun x hx g=>?_,H.st.apart⟩;rcases H.st.off x hx g with h1|h1
    · exact .inr h1
    · left
      cases h2:m g with
      | none=>rfl
      | some o=>rw[hm g o h2]at h1;cases h1
  · have h1:=H.hnew k hk hn;unfold Hp.minus;cases h2:m k with
    | none=>exact h1
    | some o=>
      obtain⟨m0,hm0,hne⟩:=L.2 k hk (by rw[h2];simp);exact absurd (hn m0 hm0) hne
  · rcases List.mem_cons.1 hx with rfl|hx
    · exact L.2 k hk hne
    · exact H.mnew x hx k hk hne
section
variable {e:Entry} {Q:Exit->Act->World->Prop} {s:AB} {h:Hp} {ms:List Hp} {m:Hp}
theorem DZ(i:Nat){m:Hp}(hm:ms[i]?=some m)(k:WS e c Q s h (m::ms.eraseIdx i)):WS e c Q s h ms:=Iq (CT hm) k
theorem ME{ops:Array Oper}{r:List Oper}(i:Nat){m:Hp}(hm:ms[i]?=some m)(k:WL e ops Q r s h (m::ms.eraseIdx i)):WL e ops Q r s h ms:=RI (CT hm) k
theorem CB{x:Exit}(i:Nat){m:Hp}(hm:ms[i]?=some m)(k:NX e Q x s h (m::ms.eraseIdx i)):NX e Q x s h ms:=Ir (CT hm) k
theorem Gy(k:∀h1,h.le h1->m.le h1->h.disj m->Ub e m->WS e c Q s h1 ms):WS e c Q s h (m::ms):=fun a w ha hw=>
  let l:=Abp hw
  k _ (Hp.le_join h m) (Hp.join_le_right l.1) (Hp.disj_symm l.1) l.2 a w ha (Ends.freeze hw)
theorem Fy(L:Ub e m)(hm:m.le h)(k:∀h2,h2.le h->(∀a:Hp,a.le h->a.disj m->a.le h2)->WS e c Q s h2 (m::ms)):WS e c Q s h ms:=fun a w ha hw=>
  k _ (Hp.minus_le h m) (fun _ h1 h2=>Hp.le_minus h1 h2) a w ha (back L hm hw)
theorem RT{x:Exit}(L:Ub e m)(hm:m.le h)(k:∀h2,h2.le h->(∀a:Hp,a.le h->a.disj m->a.le h2)->NX e Q x s h2 (m::ms)):NX e Q x s h ms:=fun a w ha hw=>
  k _ (Hp.minus_le h m) (fun _ h1 h2=>Hp.le_minus h1 h2) a w ha (back L hm hw)
end
end Go.Eng
namespace Go.Eng
open Go.RowKit
section
variable {κ ν:Type} [DecidableEq κ] {K:κ->Value} {V:ν->Value} {Ok:κ->Prop} {kt et t:TypeId} {g:Nat} {m:Hp} {T:List (κ×ν)} {bs:List Nat}
variable {e:Entry} {Q:Exit->Act->World->Prop} {ops:Array Oper} {rest:List Oper} {o:Oper} {s:AB} {h:Hp} {ms:List Hp}
theorem BU{x y u:Operand}{z:Value}(i:Nat)(a:κ)(y':ν)(L:MM e.P kt K Ok)(O:CO K V g Ok m T bs)(hm:ms[i]?=some m)(ho:o.op=.mapUpdate t x y u)(ht:e.P.underlying t=some (.map kt et))(hx:ev s x=some (.map (some g)))(hy:ev s y=some (K a))(hu:ev s u=some (V y'))(ha:Ok a)
    (hd:o.dst=none) (hg:o.guard=none) (k:∀m' bs',CO K V g Ok m' (C4 T a y') bs'->WL e ops Q rest s h (ms.set i m')):WL e ops Q (o::rest) s h ms:=
  Kj (post:=fun _ h' ms'=>∃m' bs',CO K V g Ok m' (C4 T a y') bs'/\h'=h/\ms'=ms.set i m') (fun ρ w hρ hw=>by
    obtain⟨es,clock,rfl,he,hb⟩:=O.ex;have hgw:w.heap[g]?=some (.map es clock):=hw.st.own _ (List.mem_of_getElem? hm) g _ (Hp.one_self _ _);obtain⟨l,hk⟩:=L.key a ha;have hc:=L.law.check w false hk;have hs:=L.law.stays w hk;rcases I1 L O.keys O.ok O.len he w a ha with ⟨h1,h2⟩|⟨j,v,b,h1,h2,h3,h4⟩
    · have hT:C4 T a y'=T++[(a,y')]:=by unfold C4;rw[if_neg h2]
      have hrun:(execOp ρ o).run e.P w=.ok .skip { w with heap:=w.heap.setIfInBounds g (.map (es.push ⟨K a,V y',clock⟩) (clock+1)) }:=by simp only[execOp,ho,hρ _ _ hx,hρ _ _ hy,hρ _ _ hu,Instr.mapUpdate,Sem.run_bind,run_underlying ht,Result.andThen_ok,getObj,Sem.run_pure];simp[Sem.run,hgw,hc,h1,Result.andThen,setObj]
      unfold OpRes;rw[hrun];refine⟨h,_,Ends.turn hw hm,_,bs++[clock],?_,rfl,rfl⟩;rw[hT];refine⟨⟨_,_,rfl,?_,fun b hb'=>?_⟩,by simp[O.len],X2 O.up hb,?_,fun p hp=>?_⟩
      · rw[Array.toList_push,he,V5 T bs O.len,map_append];rfl
      · rcases List.mem_append.1 hb' with hb'|hb'
        · have:=hb b hb';omega
        · simp at hb';omega
      · have:=Hv O.keys a y';rw[hT]at this;exact this
      · rcases List.mem_append.1 hp with hp|hp
        · exact O.ok p hp
        · simp at hp;subst hp;exact ha
    · have hj4:=(Array.getElem?_eq_some_iff.1 h4)
      have hrun:(execOp ρ o).run e.P w=.ok .skip { w with heap:=w.heap.setIfInBounds g (.map (es.modify j fun e=>{ e with key:=K a,val:=V y' }) clock) }:=by simp only[execOp,ho,hρ _ _ hx,hρ _ _ hy,hρ _ _ hu,Instr.mapUpdate,Sem.run_bind,run_underlying ht,Result.andThen_ok,getObj,Sem.run_pure];simp[Sem.run,hgw,hc,h1,Result.andThen,setObj,h4,hs]
      unfold OpRes;rw[hrun];refine⟨h,_,Ends.turn hw hm,_,bs,?_,rfl,rfl⟩;refine⟨⟨_,_,rfl,?_,hb⟩,?_,O.up,Hv O.keys a y',fun p hp=>?_⟩
      · rw[If O.keys h2,YM T bs j _ b h3,List.map_set,<-he];refine List.ext_getElem? fun k=>?_;rw[Array.getElem?_toList,Array.getElem?_modify,List.getElem?_set];by_cases hjk:j=k
        · subst hjk;rw[if_pos rfl,if_pos rfl,h4];have:j<es.toList.length:=by simpa using (Array.getElem?_eq_some_iff.1 h4).1
          rw[if_pos this];rfl
        · rw[if_neg hjk,if_neg hjk,Array.getElem?_toList]
      · rw[If O.keys h2,length_set];exact O.len
      · rw[If O.keys h2]at hp;rcases List.mem_or_eq_of_mem_set hp with hp|hp
        · exact O.ok p hp
        · subst hp;exact ha) hd hg fun v h' ms' ⟨m',bs',e1,e2,e3⟩=>by subst e2 e3;exact k m' bs' e1
end
end Go.Eng
namespace Go.Eng
open Go.RowKit
variable {s:AB} {o:Oper} {h:Hp} {P:Program} {ms:List Hp}
def Flo(ops:Array Oper)(listed:Array Bool)(j d:Nat)(oj:Oper):Prop:=
  ∀i oi,i≠j->listed[i]?=some false->ops[i]?=some oi->oi.dst≠some d/\(∀t,oi.dst=some t->t ∉ oj.looksAt ops)/\(d∈oi.looksAt ops->∃e∈oi.after,Region.binds .any e=true/\e.on=j)/\∀cs b,oi.op≠.select cs b
def Wy:Op->Bool
  | .select ..=>false
  | _=>true
theorem Kp{o:Op}(h:Wy o=true):∀cs b,o≠.select cs b:=fun cs b e=>by rw[e]at h;cases h
def AaG(ops:Array Oper)(L:List Nat)(j d:Nat)(oi:Oper):Bool:=
  (match oi.dst with|none=>true|some t=>!(t==d)&&!(L.contains t))&&(!((oi.looksAt ops).contains d)||oi.after.any (fun e=>Region.binds .any e&&e.on==j))&&Wy oi.op
def flo(ops:Array Oper)(listed:Array Bool)(j d:Nat):Bool:=
  match ops[j]? with
  | none=>false
  | some oj=>(oj.dst==some d)&&Wy oj.op&&(Region.ready .any ops listed).contains j&&(range ops.size).all fun i=>i==j||listed.getD i true||match ops[i]? with
    | none=>true
    | some oi=>AaG ops (oj.looksAt ops) j d oi
theorem UG{ops:Array Oper}{listed:Array Bool}{j d:Nat}(h:flo ops listed j d=true):∃oj,ops[j]?=some oj/\oj.dst=some d/\(∀cs b,oj.op≠.select cs b)/\j∈Region.ready .any ops listed/\Flo ops listed j d oj:=by
  unfold flo at h;split at h
  · cases h
  · rename_i oj hoj;simp only[Bool.and_eq_true,List.all_eq_true,List.contains_iff_mem,beq_iff_eq]at h;obtain⟨⟨⟨h2,h3⟩,h4⟩,h5⟩:=h;refine⟨oj,hoj,h2,Kp h3,h4,fun i oi hi hl ho=>?_⟩;have:=h5 i (List.mem_range.2 (Array.getElem?_eq_some_iff.1 ho).1);simp only[ho,Bool.or_eq_true,beq_iff_eq]at this;rcases this with (h6|h6)|h6
    · exact absurd h6 hi
    · rw[Array.getD_eq_getD_getElem?,hl]at h6;cases h6
    · unfold AaG at h6;simp only[Bool.and_eq_true]at h6;obtain⟨⟨h7,h8⟩,h9⟩:=h6;refine⟨fun e=>?_,fun t ht hm=>?_,fun hm=>?_,Kp h9⟩
      · rw[e]at h7;simp at h7
      · rw[ht]at h7;simp at h7;exact h7.2 hm
      · simp only[Bool.or_eq_true]at h8;rcases h8 with h8|h8
        · simp at h8;exact absurd hm h8
        · simp only[Array.any_eq_true',List.any_eq_true,Bool.and_eq_true,beq_iff_eq]at h8;obtain⟨e,he,h10,h11⟩:=h8;exact⟨e,he,h10,h11⟩
theorem WO{ops:Array Oper}{s':AB}{v:Value}(hsel:∀cs b,o.op≠.select cs b)(hs:∀t∈o.looksAt ops,∀u,lk s t=some u->lk s' t=some u)(k:OX P o s h [] v):OX P o s' h [] v:=fun ρ w hρ hw=>by
  classical
  unfold OpRes;rw[execOp_congr (ρ:=ρ) (ρ':=fun x=>if x∈o.op.operands then ρ x else(ev s x).getD undef) o hsel (fun x hx=>(if_pos hx).symm)];refine k _ w (fun x u hu=>?_) hw;show(if x∈o.op.operands then ρ x else(ev s x).getD undef)=u;split
  · rename_i hx;cases x with
    | tmp t=>exact hρ _ _ (hs t (mem_append_left _ (List.mem_filterMap.2 ⟨.tmp t,by simpa using hx,rfl⟩)) u hu)
    | const v=>exact hρ _ _ hu
    | global g=>exact hρ _ _ hu
    | func f=>exact hρ _ _ hu
  · rw[hu];rfl
theorem Oper.wp_sim2{z:AB}{a:Act}{w:World}{K K':Act->World->Prop}{Qb Qc:Exit->Act->World->Prop}(hq:∀x a w,Qb x a w->x=.normal)(hlo:¬LetsOut Qb)(hx:execOp (zA z a).eval o=execOp a.eval o)(hd:∀t,o.dst=some t->lk z t=none)(hK:∀b w v,b.tmps=(a.put o.dst v).tmps->K' (zA z b) w->K b w)
    (h:o.wp P (zA z a) w K' Qb):o.wp P a w K Qc:=by
  unfold Oper.wp at *;rw[hx]at h;generalize (execOp a.eval o).run P w=r at *;have hv:∀v w,K' ((zA z a).put o.dst v) w->K (a.put o.dst v) w:=fun v w hh=>hK _ _ v rfl (by rw[F9 hd];exact hh);cases r with
  | ok n w'=>
    cases n<;>simp only[Oper.upon]at h ⊢ <;>
      first
        | exact hv _ _ h
        | exact Calls.mono h (fun e w'' he=>by
            cases e
            · exact hv _ _ he
            · exact absurd (hq _ _ _ he) (by simp)
            · exact absurd he hlo)
        | exact Rows.mono h (fun _ _ he=>hv _ _ he)
        | exact hK _ _ undef (by cases o.dst<;>rfl) (by rw[F9 hd];exact h)
  | halt x w'=>cases x<;>simp only[Oper.upon]at h ⊢<;>exact absurd (hq _ _ _ h) (by simp)
theorem OX.at{h0:Hp}{v:Value}(k:OX P o s h0 [] v)(hl:h0.le h):OX P o s h ms v:=fun ρ w hρ hw=>
  k ρ w hρ ⟨fun g o e=>hw.imm g o (hl g o e),fun m hm=>by simp at hm,fun m hm=>by simp at hm,List.Pairwise.nil⟩
def GK(ops:Array Oper)(oj:Oper)(s:AB):Prop:=oj.guard=none\/∃k b ok dk,oj.guard=some (k,b)/\ops[k]?=some ok/\ok.dst=some dk/\lk s dk=some (.bool b)
theorem GK.mono{ops:Array Oper}{oj:Oper}{s':AB}(h:GK ops oj s)(hs:∀t∈oj.looksAt ops,∀u,lk s t=some u->lk s' t=some u):GK ops oj s':=by
  rcases h with h|⟨k,b,ok,dk,h1,h2,h3,h4⟩
  · exact .inl h
  · refine .inr ⟨k,b,ok,dk,h1,h2,h3,hs dk ?_ _ h4⟩;unfold Oper.looksAt;refine mem_append_right _ ?_;simp[h1,h2,h3]
section
variable {e:Entry} {ops:Array Oper} {Q:Exit->Act->World->Prop} {h0:Hp} {j d:Nat} {v:Value} {oj:Oper}
theorem Zn{rest:List Oper}{Q:Exit->Act->World->Prop}(hG:GK ops oj s)(hx:OX e.P oj s h ms v)(hd:oj.dst=some d)(hn:Nat.blt d e.n=true)(k:WL e ops Q rest ((d,v)::s) h ms):WL e ops Q (oj::rest) s h ms:=by
  rcases hG with h|⟨q,b,ok,dk,h1,h2,h3,h4⟩
  · exact AaI hx hd hn h k
  · exact Zc hx hd hn h1 h2 h3 h4 k
theorem AaN(hoj:ops[j]?=some oj)(hdj:oj.dst=some d)(hd:d<e.n)(hsel:∀cs b,oj.op≠.select cs b) :
    ∀n listed s s1 h ms,h0.le h->j∈Region.ready .any ops listed->Flo ops listed j d oj->(∀t u,lk s1 t=some u->lk ((d,v)::s) t=some u)->GK ops oj s->OX e.P oj s h0 [] v->WB e ops Q h0 n (listed.setIfInBounds j true) s1 h ms->WB e ops Q h0 (n+1) listed s h ms:=by
  intro n
  induction n with
  | zero=>
    intro listed s s1 h ms hle hj hF hs hG hx H;refine⟨fun hr=>(by rw[hr]at hj;cases hj),fun i hi=>?_⟩;by_cases hij:i=j
    · subst hij;exact⟨oj,hoj,Zn hG (hx.at hle) hdj (Nat.ble_eq_true_of_le hd) (Ak fun a w ha hw=>⟨rfl,s1,h,ms,⟨ha.defers,ha.size,fun t u hu=>ha.slots t u (hs t u hu)⟩,hw,hle,H⟩)⟩
    · obtain⟨h1',o,ho,hall⟩:=mem_ready.1 hi;have h1:=Be h1'
      have:i∈Region.ready .any ops (listed.setIfInBounds j true):=mem_ready.2 ⟨by rw[getD_set_ne _ (Ne.symm hij)];exact h1',o,ho,fun e he hb=>by
        have:=hall e he hb;by_cases hej:j=e.on
        · rw[<-hej];have hlt:=(Array.getElem?_eq_some_iff.1 (Be (mem_ready.1 hj).1)).1;simp[hlt]
        · rw[getD_set_ne _ hej];exact this⟩
      rw[H.1]at this;cases this
  | succ n ih=>
    intro listed s s1 h ms hle hj hF hs hG hx H;refine⟨fun hr=>(by rw[hr]at hj;cases hj),fun i hi=>?_⟩;by_cases hij:i=j
    · subst hij;exact⟨oj,hoj,Zn hG (hx.at hle) hdj (Nat.ble_eq_true_of_le hd) (Ak fun a w ha hw=>⟨rfl,s1,h,ms,⟨ha.defers,ha.size,fun t u hu=>ha.slots t u (hs t u hu)⟩,hw,hle,H⟩)⟩
    · obtain⟨h1',o,ho,hall⟩:=mem_ready.1 hi;have h1:=Be h1';have hjl:=Be (mem_ready.1 hj).1;have hjlt:=(Array.getElem?_eq_some_iff.1 hjl).1
      have hr':i∈Region.ready .any ops (listed.setIfInBounds j true):=mem_ready.2 ⟨by rw[getD_set_ne _ (Ne.symm hij)];exact h1',o,ho,fun e he hb=>by
        have:=hall e he hb;by_cases hej:j=e.on
        · rw[<-hej];simp[hjlt]
        · rw[getD_set_ne _ hej];exact this⟩
      obtain⟨f1,f2,f3,f4⟩:=hF i o hij h1 ho
      have f3':d ∉ o.looksAt ops:=fun hm=>by obtain⟨e,he,hb,hon⟩:=f3 hm;have:=hall e he hb;rw[hon,Array.getD_eq_getD_getElem?,hjl]at this;cases this
      obtain⟨o',ho',HW⟩:=H.2 i hr';rw[ho]at ho';cases ho';refine⟨o,ho,fun a w ha hw=>?_⟩
      have hza:∀(b:Act) t,t≠d->(zA [(d,v)] b).tmps[t]?=b.tmps[t]?:=fun b t ht=>by rw[EK,Bv _ _ (Ne.symm ht)];cases b.tmps[t]?<;>rfl
      have hzd:∀(b:Act),d<b.tmps.size->(zA [(d,v)] b).tmps[d]?=some v:=fun b hb=>by rw[EK,Bw];simp[hb]
      have haz:Has e.n e.ds (zA [(d,v)] a) s1:=⟨ha.defers,by simp[zA,ha.size],fun t u hu=>by
        have:=hs t u hu;by_cases htd:d=t
        · subst htd;rw[Bw]at this;cases this;exact hzd a (by rw[ha.size];exact hd)
        · rw[Bv _ _ htd]at this;rw[hza a t (Ne.symm htd)];exact ha.slots t u this⟩
      have H':=HW (zA [(d,v)] a) w haz hw;unfold wpList at H' ⊢;have hsame:∀t∈o.looksAt ops,(zA [(d,v)] a).tmps[t]?=a.tmps[t]?:=fun t ht=>hza a t (fun e'=>f3' (e' ▸ ht))
      have hx':execOp (zA [(d,v)] a).eval o=execOp a.eval o:=execOp_congr o f4 fun x hx=>by
        cases x with
        | tmp t=>
          have:=hsame t (mem_append_left _ (List.mem_filterMap.2 ⟨.tmp t,by simpa using hx,rfl⟩));simp only[Act.eval];rw[Array.getD_eq_getD_getElem?,this,<-Array.getD_eq_getD_getElem?]
        | const v=>rfl
        | global g=>rfl
        | func f=>rfl
      have hwant:Region.wanted o (yielded ops (zA [(d,v)] a).tmps)=Region.wanted o (yielded ops a.tmps):=by
        unfold Region.wanted;cases hg:o.guard with
        | none=>rfl
        | some p=>
          obtain⟨k,b⟩:=p
          have:yielded ops (zA [(d,v)] a).tmps k=yielded ops a.tmps k:=by
            unfold yielded;cases hd:(ops[k]?).bind (·.dst) with
            | none=>rfl
            | some t=>
              have ht:t∈o.looksAt ops:=by unfold Oper.looksAt;refine mem_append_right _ ?_;simp only[hg];rw[hd];simp
              simp[hd,hsame t ht]
          simp only[this]
      rw[hwant]at H'
      have hdz:∀t,o.dst=some t->lk [(d,v)] t=none:=fun t ht=>by rw[Bv _ _ (fun e'=>f1 (by rw[ht,e']))];rfl
      have hnext:∀b w v',b.tmps=(a.put o.dst v').tmps->(QB e ops Q h0 n ((listed.setIfInBounds j true).setIfInBounds i true)) .normal (zA [(d,v)] b) w->(QB e ops Q h0 (n+1) (listed.setIfInBounds i true)) .normal b w:=fun b w v' hbt hh=>by
        obtain⟨-,s',h',ms',g1,g2,g3,g4⟩:=hh
        have hbget:∀t,o.dst≠some t->b.tmps[t]?=a.tmps[t]?:=fun t ht=>by
          rw[hbt];cases hd:o.dst with
          | none=>rfl
          | some d'=>
            have:d'≠t:=fun e'=>ht (by rw[hd,e']);simp only[Act.put,Array.getElem?_setIfInBounds_ne this]
        have hbs:b.tmps.size=a.tmps.size:=by rw[hbt];cases o.dst<;>simp[Act.put]
        have hbn:b.tmps.size=e.n:=by rw[hbs,ha.size]
        let L:=oj.looksAt ops
        have hlf:∀(p:Nat->Bool) (s:AB) t,lk (s.filter (fun x=>p x.1)) t=if p t=true then lk s t else none:=by
          intro p s t
          induction s with
          | nil=>simp[lk]
          | cons x s ih=>
            obtain⟨y,u⟩:=x;by_cases hy:p y=true
            · rw[List.filter_cons_of_pos (by exact hy)];by_cases hyt:y=t
              · subst hyt;rw[Bw,Bw,if_pos hy]
              · rw[Bv _ _ hyt,Bv _ _ hyt,ih]
            · rw[List.filter_cons_of_neg (by exact hy),ih];by_cases hyt:y=t
              · subst hyt;rw[if_neg hy,if_neg hy]
              · rw[Bv _ _ hyt]
        let sL:=s.filter (fun x=>L.contains x.1)
        let sR:=s'.filter (fun x=>!(x.1==d))
        have hL:∀t u,lk sL t=some u->t∈L/\lk s t=some u:=fun t u hu=>by
          rw[hlf (fun t=>L.contains t)]at hu;split at hu
          · rename_i hc;exact⟨List.contains_iff_mem.1 hc,hu⟩
          · cases hu
        have hLb:∀t u,lk sL t=some u->b.tmps[t]?=some u:=fun t u hu=>by obtain⟨k1,k2⟩:=hL t u hu;rw[hbget t (fun e'=>f2 t e' k1)];exact ha.slots t u k2
        have hR:∀t,t≠d->lk sR t=lk s' t:=fun t ht=>by rw[hlf (fun t=>!(t==d))];simp[ht]
        have hRd:lk sR d=none:=by rw[hlf (fun t=>!(t==d))];simp
        have hb':∀t u,t≠d->lk s' t=some u->b.tmps[t]?=some u:=fun t u ht hu=>by rw[<-hza b t ht];exact g1.slots t u hu
        refine⟨rfl,sL++sR,h',ms',⟨g1.defers,hbn,fun t u hu=>?_⟩,g2,g3,?_⟩
        · rw[Cm]at hu;cases hl:lk sL t with
          | some u'=>rw[hl]at hu;cases hu;exact hLb t _ hl
          | none=>
            rw[hl]at hu;have htd:t≠d:=fun e'=>by subst e';simp only[Option.none_or]at hu;rw[hRd]at hu;cases hu
            simp only[Option.none_or]at hu;rw[hR t htd]at hu;exact hb' t u htd hu
        · refine ih (listed.setIfInBounds i true) (sL++sR) s' h' ms' g3 ?_ ?_ ?_ ?_ ?_ (by rw[Array.setIfInBounds_comm _ _ hij];exact g4)
          · obtain⟨_,oj',hoj',hall'⟩:=mem_ready.1 hj;refine mem_ready.2 ⟨by rw[getD_set_ne _ hij];exact(mem_ready.1 hj).1,oj',hoj',fun ed he hb=>?_⟩;have:=hall' ed he hb;by_cases hei:i=ed.on
            · rw[<-hei];have:=(Array.getElem?_eq_some_iff.1 h1).1;simp[this]
            · rw[getD_set_ne _ hei];exact this
          · intro k ok hk hl hok;refine hF k ok hk ?_ hok;by_cases hki:i=k
            · subst hki;have:=(Array.getElem?_eq_some_iff.1 h1).1;simp[this]at hl
            · rw[Array.getElem?_setIfInBounds_ne hki]at hl;exact hl
          · intro t u hu;by_cases htd:d=t
            · subst htd;have k1:=g1.slots _ u hu;rw[hzd b (by rw[hbn];exact hd)]at k1;rw[Bw];exact k1
            · rw[Bv _ _ htd,Cm];cases hl:lk sL t with
              | some u'=>
                have k1:=hLb t u' hl;rw[hb' t u (Ne.symm htd) hu]at k1;simpa using k1.symm
              | none=>rw[hR t (Ne.symm htd)];simpa using hu
          · have hlk:∀t∈oj.looksAt ops,∀u,lk s t=some u->lk (sL++sR) t=some u:=fun t ht u hu=>by
              rw[Cm];have:lk sL t=some u:=by rw[hlf (fun t=>L.contains t),if_pos (List.contains_iff_mem.2 ht)];exact hu
              rw[this];rfl
            exact hG.mono hlk
          · refine WO (ops:=ops) hsel (fun t ht u hu=>?_) hx;rw[Cm];have:lk sL t=some u:=by rw[hlf (fun t=>L.contains t),if_pos (List.contains_iff_mem.2 ht)];exact hu
            rw[this];rfl
      split
      · rename_i hw';rw[if_pos hw']at H';rcases H' with H'|⟨_,H'⟩
        · exact .inl (Oper.wp_sim2 (fun x a w h=>h.1) MO hx' hdz (fun b w v hb hh=>hnext b w v hb hh) H')
        · exact absurd H' MO
      · rename_i hw';rw[if_neg hw']at H';exact hnext _ _ undef rfl (by rw[F9 hdz];exact H')
theorem AZ{n:Nat}{listed:Array Bool}(j d:Nat)(hF:flo ops listed j d=true)(hoj:ops[j]?=some o)(hle:h0.le h)(hn:Nat.blt d e.n=true)(hx:OX e.P o s h0 [] v)(k:WB e ops Q h0 n (listed.setIfInBounds j true) ((d,v)::s) h ms)(hg:o.guard=none:=by rfl):WB e ops Q h0 (n+1) listed s h ms:=by obtain⟨oj,g1,g3,g4,g5,g6⟩:=UG hF;rw[hoj]at g1;cases g1;exact AaN hoj g3 (Nat.le_of_ble_eq_true hn) g4 n listed s _ h ms hle g5 g6 (fun t u hu=>hu) (.inl hg) hx k
end
end Go.Eng
namespace Go.Eng
open Go.RowKit
theorem Wo(g k:Nat):(⟨g,0,none⟩:Addr).add k=⟨g,k,none⟩:=by unfold Addr.add;split<;>simp_all
theorem MA{α:Type}{F:α->List Value}{sz:Nat}(hF:∀x,(F x).length=sz){l:List α}{j:Nat}(hj:j<l.length)(a:α):(l.flatMap F).take (j*sz)++F a++(l.flatMap F).drop (j*sz+sz)=(l.set j a).flatMap F:=by
  have e:j*sz+sz=(j+1)*sz:=by rw[Nat.add_mul,Nat.one_mul]
  rw[e,Gw hF,EX hF,List.set_eq_take_append_cons_drop,if_pos hj,List.flatMap_append,flatMap_cons,append_assoc]
section
variable {e:Entry} {Q:Exit->Act->World->Prop} {ops:Array Oper} {rest:List Oper} {o:Oper} {s:AB} {h:Hp} {ms:List Hp} {α:Type} {F:α->List Value} {l:List α} {v:Value} {m:Hp} {el:TypeId} {sz:Nat}
theorem Ee{t:TypeId}{x y:Operand}{u z:Value}{bytes:Nat}(i j:Nat)(a:α)(O:OwnL F sz el m v l)(ho:o.op=.store t x y)(hs:Elem e.P t sz z bytes)(hx:ev s x=some (.pointer (some ((AF v).add (j*sz)))))(hy:ev s y=some u)(hv:u.cells=(F a).toArray)(h1:∀c∈F a,c.oneCell'=true)
    (hm:ms[i]?=some m) (hj:j<l.length) (hd:o.dst=none) (hg:o.guard=none)
    (K:∀m',OwnL F sz el m' v (l.set j a)->WL e ops Q rest s h (ms.set i m')):WL e ops Q (o::rest) s h ms:=by
  obtain⟨⟨h2,h3⟩,hF⟩:=O;rcases h3 with ⟨rfl,h4,rfl⟩|⟨g,cap,spare,rfl,rfl,e1,e2,e3⟩
  · rw[h4]at hj;simp at hj
  · have hle:(j+1)*sz<=l.length*sz:=Nat.mul_le_mul_right sz hj;have hjs:j*sz+sz=(j+1)*sz:=by rw[Nat.add_mul,Nat.one_mul]
    have hFa:=hF a;refine Kj (post:=fun _ h' ms'=>h'=h/\ms'=ms.set i (Bn g el ((l.set j a).flatMap F++spare))) (fun ρ w hρ hw=>?_) hd hg fun _ _ _ ⟨e4,e5⟩=>?_
    · have hgw:w.heap[g]?=some (.cells (l.flatMap F++spare).toArray el (0,0)):=hw.st.own _ (List.mem_of_getElem? hm) g _ (Hp.one_self _ _);have hst:=run_storeCells_at (P:=e.P) g (j*sz) el (F a) 0 _ w hgw (by simp only[List.size_toArray,length_append];omega) h1
      have hadd:(AF (.slice (some ⟨g,0,none⟩) l.length cap)).add (j*sz)=⟨g,j*sz,none⟩:=by show(⟨g,0,none⟩:Addr).add (j*sz)=_;exact Wo g (j*sz)
      have hrow:(l.flatMap F++spare).take (j*sz)++F a++(l.flatMap F++spare).drop (j*sz+sz)=(l.set j a).flatMap F++spare:=by rw[List.take_append_of_le_length (by omega),List.drop_append_of_le_length (by omega),<-append_assoc,MA hF hj]
      have:(execOp ρ o).run e.P w=.ok .skip (w.setRow g ((l.set j a).flatMap F++spare).toArray):=by simp[execOp,ho,hρ _ _ hx,hρ _ _ hy,Instr.storeAt,Instr.sureAddr,storeVar,hs.sizeOf,hv,hFa,hadd];simp at hst;rw[hFa]at hst;rw[hst,<-append_assoc,hrow];rfl
      unfold OpRes;rw[this];exact⟨h,_,Ends.put hw hm rfl ⟨rfl,Nat.le_refl _⟩ rfl (by simp) (setRow_heap w g _ _ _ _ hgw) (fun k hk hne=>setRow_other w g k _ hne),rfl,rfl⟩
    · subst e4 e5;refine K _ ⟨⟨?_,.inr ⟨g,cap,spare,by rw[length_set],rfl,?_,by rw[length_set];omega,e3⟩⟩,hF⟩
      · rw[Bf hF,length_set]
      · rw[length_append,Bf hF,length_set,<-Bf hF l,<-length_append];exact e1
end
end Go.Eng
namespace Go.Eng
open Go.RowKit
section
variable {κ ν:Type} [DecidableEq κ] {K:κ->Value} {V:ν->Value} {Ok:κ->Prop} {P:Program} {t:TypeId} {gi g:Nat} {m mi:Hp} {T:List (κ×ν)} {bs vis:List Nat}
variable {o:Oper} {s:AB} {h:Hp} {ms:List Hp} {e:Entry} {Q:Exit->Act->World->Prop} {ops:Array Oper} {rest:List Oper}
theorem Jf{x:Operand}{d:Nat}{kt et:TypeId}(O:CO K V g Ok m T bs)(hm:m.le h)(ho:o.op=.range t x)(ht:e.P.underlying t=some (.map kt et))(hx:ev s x=some (.map (some g)))(hd:o.dst=some d)(hn:Nat.blt d e.n=true)(hg:o.guard=none)
    (k:∀gi mi,HI gi g m mi bs []->WL e ops Q rest ((d,.pointer (some ⟨gi,0,none⟩))::s) h (mi::ms)):WL e ops Q (o::rest) s h ms:=
  Ia (post:=fun v h' ms'=>∃gi mi,HI gi g m mi bs []/\v=.pointer (some ⟨gi,0,none⟩)/\h'=h/\ms'=mi::ms) (fun ρ w hρ hw=>by
    obtain⟨es,clock,rfl,he,hb⟩:=O.ex;have hgw:w.heap[g]?=some (.map es clock):=hw.st.imm g _ (hm g _ (Hp.one_self _ _))
    have hrun:(execOp ρ o).run e.P w=.ok (.value (.pointer (some ⟨w.heap.size,0,none⟩))) (w.alloc (.mapIter (some g) clock #[] clock)):=by simp only[execOp,ho,hρ _ _ hx,Instr.range,Sem.run_bind,run_underlying ht,Result.andThen_ok,getObj,Sem.run_pure];simp[Sem.run,hgw,Result.andThen,newObj]
    unfold OpRes;rw[hrun]
    exact⟨h,_,Ends.alloc hw _,_,_,⟨⟨es,clock,clock,#[],clock,rfl,rfl,hb,Nat.le_refl _,Nat.le_refl _,rfl,fun h=>absurd rfl h⟩,by simp,List.Pairwise.nil⟩,rfl,rfl,rfl⟩) hd hn hg fun v h' ms' ⟨gi,mi,e1,e2,e3,e4⟩=>by subst e2 e3 e4;exact k gi mi e1
theorem Lg{x:Operand}{d:Nat}(i:Nat)(O:CO K V g Ok m T bs)(I:HI gi g m mi bs vis)(hm:m.le h)(hi:ms[i]?=some mi)(ho:o.op=.next x false)(hx:ev s x=some (.pointer (some ⟨gi,0,none⟩)))(hd:o.dst=some d)(hn:Nat.blt d e.n=true)(hg:o.guard=none)
    (k0:(∀j,j<T.length->j∈vis)->WL e ops Q rest ((d,.tuple #[.bool false])::s) h ms)
    (k1:∀(j:Nat) (hj:j<T.length) (mi':Hp),j ∉ vis->HI gi g m mi' bs (vis++[j])->WL e ops Q rest ((d,.tuple #[.bool true,K T[j].1,V T[j].2])::s) h (ms.set i mi')):WL e ops Q (o::rest) s h ms:=
  Ia (post:=fun v h' ms'=>(v=.tuple #[.bool false]/\h'=h/\ms'=ms/\∀j,j<T.length->j∈vis)\/∃(j:Nat) (hj:j<T.length) (mi':Hp),j ∉ vis/\HI gi g m mi' bs (vis++[j])/\v=.tuple #[.bool true,K T[j].1,V T[j].2]/\h'=h/\ms'=ms.set i mi') (fun ρ w hρ hw=>by
    obtain⟨es,clock,rfl,he,hb⟩:=O.ex;obtain⟨es',clock',since,seen,last,e1,rfl,i1,i2,i3,i4,i5⟩:=I.ex;have e1:=Rv e1;cases e1;have hgw:w.heap[g]?=some (.map es clock):=hw.st.imm g _ (hm g _ (Hp.one_self _ _));have hiw:w.heap[gi]?=some (.mapIter (some g) since seen last):=hw.st.own _ (List.mem_of_getElem? hi) gi _ (Hp.one_self _ _)
    have hent:∀x∈es.toList,∃(j:Nat) (hj:j<T.length) (hjb:j<bs.length),x=T5 K V (T[j],bs[j]):=fun x hx=>by rw[he]at hx;obtain⟨p,hp,rfl⟩:=List.mem_map.1 hx;obtain⟨j,hj⟩:=List.getElem?_of_mem hp;obtain⟨z1,z2⟩:=List.getElem?_zip_eq_some.1 hj;obtain⟨j1,j2⟩:=List.getElem?_eq_some_iff.1 z1;obtain⟨k1,k2⟩:=List.getElem?_eq_some_iff.1 z2;exact⟨j,j1,k1,by rw[j2,k2]⟩
    have hin:∀(j:Nat) (hj:j<T.length) (hjb:j<bs.length),T5 K V (T[j],bs[j])∈es.toList:=fun j hj hjb=>by rw[he];exact List.mem_map.2 ⟨(T[j],bs[j]),List.mem_of_getElem? (i:=j) (List.getElem?_zip_eq_some.2 ⟨List.getElem?_eq_getElem hj,List.getElem?_eq_getElem hjb⟩),rfl⟩
    have hseen:∀b,seen.contains b=true<->∃j∈vis,bs[j]?.getD 0=b:=fun b=>by rw[Array.contains_iff_mem,<-Array.mem_toList_iff,i4,List.mem_map]
    rcases run_next_at (P:=e.P) w o.type gi g since last seen es clock hiw hgw (fun x hx=>by
      obtain⟨j,hj,hjb,rfl⟩:=hent x hx
      exact i1 _ (List.getElem_mem hjb)) i2 with ⟨h1,h2⟩|⟨x,h1,w1,h2,h3⟩
    · have hrun:(execOp ρ o).run e.P w=.ok (.value (.tuple #[.bool false])) w:=by
        simp only[execOp,ho,hρ _ _ hx,Sem.run_bind,h2,Result.andThen_ok,Sem.run_pure]
      unfold OpRes;rw[hrun];refine⟨h,ms,hw,.inl ⟨rfl,rfl,rfl,fun j hj=>?_⟩⟩;have hjb:j<bs.length:=by rw[O.len];exact hj
      have hmem:=hin j hj hjb
      have hc:seen.contains bs[j]=true:=by
        cases hcc:seen.contains bs[j] with
        | true=>rfl
        | false=>
          have:T5 K V (T[j],bs[j])∈leftOf es seen:=by unfold leftOf;rw[Array.mem_filter];exact⟨Array.mem_toList_iff.1 hmem,by show(!seen.contains bs[j])=true;rw[hcc];rfl⟩
          rw[Array.size_eq_zero_iff.1 h1]at this;simp at this
      obtain⟨j',hj',e2⟩:=(hseen _).1 hc;have hj'b:=I.lt j' hj';rw[List.getElem?_eq_getElem hj'b]at e2;have:j'=j:=ZH O.up (List.getElem?_eq_getElem hj'b) (by rw[List.getElem?_eq_getElem hjb];exact congrArg some e2.symm);subst this;exact hj'
    · unfold leftOf at h1;have h1:=Array.mem_filter.1 (Array.mem_toList_iff.1 h1);obtain⟨j,hj,hjb,rfl⟩:=hent x (Array.mem_toList_iff.2 h1.1)
      have hjv:j ∉ vis:=fun hv=>by have:seen.contains bs[j]=true:=(hseen _).2 ⟨j,hv,by rw[List.getElem?_eq_getElem hjb];rfl⟩;have h4:=h1.2;simp only[T5]at h4;rw[this]at h4;cases h4
      have hrun:(execOp ρ o).run e.P w=.ok (.value (.tuple #[.bool true,K T[j].1,V T[j].2])) (ChangeMaps.setBlock w1 gi (.mapIter (some g) since (seen.push bs[j]) clock)):=by simp only[execOp,ho,hρ _ _ hx,Sem.run_bind,h3,Result.andThen_ok,Sem.run_pure,T5]
      unfold OpRes;rw[hrun]
      have hw1:e.Ends w1 h ms:=by
        rcases h2 with rfl|rfl
        · exact hw
        · exact Ends.drew hw
      refine⟨h,_,Ends.turn hw1 hi,.inr ⟨j,hj,_,hjv,⟨⟨es,clock,since,seen.push bs[j],clock,rfl,rfl,i1,i3,i3,?_,fun _=>rfl⟩,fun i hi=>?_,?_⟩,rfl,rfl,rfl⟩⟩
      · rw[Array.toList_push,i4,map_append];simp[List.getElem?_eq_getElem hjb]
      · rcases List.mem_append.1 hi with hi|hi
        · exact I.lt i hi
        · simp at hi;subst hi;exact hjb
      · exact List.nodup_append.2 ⟨I.nodup,by simp,fun a ha b hb e=>by simp at hb;subst hb;subst e;exact hjv ha⟩) hd hn hg fun v h' ms' hp=>by
    rcases hp with ⟨e1,e2,e3,e4⟩|⟨j,hj,mi',e1,e2,e3,e4,e5⟩
    · subst e1 e2 e3;exact k0 e4
    · subst e3 e4 e5;exact k1 j hj mi' e1 e2
theorem Jo{x:Operand}{j:Nat}(O:CO K V g Ok m T bs)(I:HI gi g m mi bs (vis++[j]))(hm:m.le h)(hi:mi∈ms)(hj:j<T.length)(ho:o.op=.entry x)(hx:ev s x=some (.pointer (some ⟨gi,0,none⟩))):OX P o s h ms (.tuple #[K T[j].1,V T[j].2]):=
  Bx fun ρ w hρ hw=>by
    obtain⟨es,clock,rfl,he,hb⟩:=O.ex;obtain⟨es',clock',since,seen,last,e1,rfl,i1,i2,i3,i4,i5⟩:=I.ex;have e1:=Rv e1;cases e1;have hl:last=clock:=i5 (by simp);subst hl;have hgw:w.heap[g]?=some (.map es last):=hw.imm g _ (hm g _ (Hp.one_self _ _));have hjb:j<bs.length:=by rw[O.len];exact hj
    have hs:seen=(vis.map fun j=>bs[j]?.getD 0).toArray.push bs[j]:=by apply Array.toList_inj.1;rw[i4,Array.toList_push,map_append];simp[List.getElem?_eq_getElem hjb]
    have hiw:w.heap[gi]?=some (.mapIter (some g) since ((vis.map fun j=>bs[j]?.getD 0).toArray.push (T5 K V (T[j],bs[j])).born) last):=by have:=hw.own _ hi gi _ (Hp.one_self _ _);rw[hs]at this;exact this
    have hmem:T5 K V (T[j],bs[j])∈es.toList:=by rw[he];exact List.mem_map.2 ⟨(T[j],bs[j]),List.mem_of_getElem? (i:=j) (List.getElem?_zip_eq_some.2 ⟨List.getElem?_eq_getElem hj,List.getElem?_eq_getElem hjb⟩),rfl⟩
    have hn:(es.toList.map (·.born)).Nodup:=by rw[he,map_map];have:(MapEntry.born∘T5 K V)=(Prod.snd:(κ×ν)×Nat->Nat):=rfl;rw[this,List.map_snd_zip (by rw[O.len];exact Nat.le_refl _)];exact O.up.imp fun h=>Nat.ne_of_lt h
    have:=run_entry_at (P:=P) w gi g since _ es last _ hiw hgw hmem hn;simp only[execOp,ho,hρ _ _ hx,Sem.run_bind,this,Result.andThen_ok,Sem.run_pure,T5]
theorem Kn{kt et:TypeId}{x y:Operand}{z:ν}(a:κ)(L:MM P kt K Ok)(O:CO K V g Ok m T bs)(hm:m.le h)(ho:o.op=.lookup t x y false)(ht:P.underlying t=some (.map kt et))(hz:∀w,(zeroValue et).run P w=.ok (V z) w)(hx:ev s x=some (.map (some g)))(hy:ev s y=some (K a))(ha:Ok a) :
    OX P o s h ms (V ((Bi T a).getD z)):=
  Bx fun ρ w hρ hw=>by
    obtain⟨es,clock,rfl,he,hb⟩:=O.ex;have hgw:w.heap[g]?=some (.map es clock):=hw.imm g _ (hm g _ (Hp.one_self _ _));obtain⟨l,hk⟩:=L.key a ha;have hc:=L.law.check w es.isEmpty hk;rcases I1 L O.keys O.ok O.len he w a ha with ⟨h1,h2⟩|⟨j,u,b,h1,h2,_,_⟩
    · rw[CZ h2];simp only[execOp,ho,hρ _ _ hx,hρ _ _ hy,Instr.lookup,Sem.run_bind,run_underlying ht,Result.andThen_ok,getObj,Sem.run_pure,h1,hz];simp[Sem.run,hgw,hc,h1,hz,Result.andThen]
    · rw[D5 O.keys h2];simp only[execOp,ho,hρ _ _ hx,hρ _ _ hy,Instr.lookup,Sem.run_bind,run_underlying ht,Result.andThen_ok,getObj,Sem.run_pure,h1,hz];simp[Sem.run,hgw,hc,h1,hz,Result.andThen]
end
end Go.Eng
namespace Go.Eng
open Go.RowKit Go.Sort
variable {w:World}
theorem Ext.grown{w':World}(e:Ext w w'):∃q os',w'=grow (w.drewN q) os':=by
  refine⟨w'.drawn-w.drawn,w'.heap.extract w.heap.size w'.heap.size,?_⟩
  have hh:w'.heap=w.heap++w'.heap.extract w.heap.size w'.heap.size:=by
    apply Array.ext_getElem?;intro i;rcases Nat.lt_or_ge i w.heap.size with h|h
    · rw[Array.getElem?_append_left h,e.block i h]
    · rw[Array.getElem?_append_right h];rcases Nat.lt_or_ge i w'.heap.size with h2|h2
      · simp[Array.getElem?_extract];rw[if_pos (by omega)];congr 1;omega
      · rw[Array.getElem?_eq_none h2]
        symm
        apply Array.getElem?_eq_none;simp;omega
  have hd:w'.drawn=w.drawn+(w'.drawn-w.drawn):=by have:=e.tape.drawn;omega
  have h1:=e.os;have h2:=e.tape.tape;have h3:=e.output;obtain⟨heap,tape,drawn,os,output⟩:=w';obtain⟨heap',tape',drawn',os',output'⟩:=w;simp only at *;subst h1 h2 h3;simp only[grow,World.drewN,World.mk.injEq,true_and,and_true];exact⟨hh,hd⟩
section
variable {α:Type} [Inhabited α] {enc:α->List Value} {k:Nat}
theorem Jl(hk:∀x,(enc x).length=k)(hk0:0<k)(d:Array α){t:Nat}(ht:t<d.size*k):(d.toList.flatMap enc)[t]?=some (flatK enc k d)[t]!:=by
  have hj:t/k<d.size:=Nat.div_lt_of_lt_mul (by rw[Nat.mul_comm];exact ht);have hm:=Nat.mod_lt t hk0;rw[get_flatK enc k d t ht]
  have h1:=EI hk d.toList (t/k) (by simpa using hj) (t%k) ((enc d[t/k]!)[t%k]!) (by
    have e:d.toList[t/k]'(by simpa using hj)=d[t/k]!:=by simp[hj]
    rw[e];have:t%k<(enc d[t/k]!).length:=by rw[hk];exact hm
    simp[this])
  rwa [Nat.mul_comm,Nat.div_add_mod]at h1
theorem Ua(hk:∀x,(enc x).length=k)(hk0:0<k)(d d':Array α)(hs:d'.size=d.size)(spare:List Value):putCells id 0 (flatK enc k d') (d.toList.flatMap enc++spare).toArray=(d'.toList.flatMap enc++spare).toArray:=by
  have l1:(d.toList.flatMap enc).length=d.size*k:=by rw[Bf hk];simp
  have l2:(d'.toList.flatMap enc).length=d.size*k:=by rw[Bf hk];simp[hs]
  apply Array.ext_getElem?;intro t;unfold putCells;rw[Array.getElem?_mapIdx,List.getElem?_toArray,List.getElem?_toArray];rcases Nat.lt_or_ge t (d.size*k) with h|h
  · rw[List.getElem?_append_left (by omega),List.getElem?_append_left (by omega),Jl hk hk0 d h,Jl hk hk0 d' (by rw[hs];exact h)];simp only[Option.map_some];rw[if_pos ⟨Nat.zero_le _,by rw[size_flatK,hs];omega⟩];rfl
  · rw[List.getElem?_append_right (by omega),List.getElem?_append_right (by omega),l1,l2];cases spare[t-d.size*k]? with
    | none=>rfl
    | some u=>
      simp only[Option.map_some];rw[if_neg];rw[size_flatK,hs];omega
theorem SO{g:Nat}{el:TypeId}(hk:∀x,(enc x).length=k)(hk0:0<k)(d:Array α)(spare:List Value)(hg:w.heap[g]?=some (.cells (d.toList.flatMap enc++spare).toArray el (0,0))):HoldsK enc k w g 0 d:=by
  intro j hj;rw[size_flatK]at hj;have l1:(d.toList.flatMap enc).length=d.size*k:=by rw[Bf hk];simp
  have h1:=Jl hk hk0 d hj;constructor
  · have:(d.toList.flatMap enc++spare)[j]?=some (flatK enc k d)[j]!:=by rw[List.getElem?_append_left (by omega)];exact h1
    simp[World.cell?,hg,this]
  · simp[World.frozen?,hg]
end
theorem L7{α:Type}[Inhabited α]{enc:α->List Value}{k:Nat}{h:Hp}{g n:Nat}{el:TypeId}(hk:∀x,(enc x).length=k)(hk0:0<k)(d d':Array α)(hs:d'.size=d.size)(spare:List Value)(os:Array Obj)(hS:St w h [Bn g el (d.toList.flatMap enc++spare)]) :
    Ends w h [Bn g el (d.toList.flatMap enc++spare)] (Go.Proofs.sortWorldK enc k w g 0 n d' os) h [Bn g el (d'.toList.flatMap enc++spare)]:=by
  have hg:w.heap[g]?=some (.cells (d.toList.flatMap enc++spare).toArray el (0,0)):=hS.own _ (List.mem_singleton.2 rfl) g _ (Hp.one_self _ _);have hlt:=(Array.getElem?_eq_some_iff.1 hg).1;have hv:=(Array.getElem?_eq_some_iff.1 hg).2;have hsz:(putRowK enc k (Go.Sort.ahead w n) g 0 d').heap.size=w.heap.size:=by simp[putRowK,putRow,mapBlock,ahead]
  have hg':(putRowK enc k (Go.Sort.ahead w n) g 0 d').heap[g]?=some (.cells (d'.toList.flatMap enc++spare).toArray el (0,0)):=by show(w.heap.modify g (onCells (putCells id 0 (flatK enc k d'))))[g]?=_;rw[Array.getElem?_eq_getElem (by simpa using hlt),Array.getElem_modify];simp[hv,onCells,Ua hk hk0 d d' hs spare]
  have ho':∀j,j<w.heap.size->j≠g->(putRowK enc k (Go.Sort.ahead w n) g 0 d').heap[j]?=w.heap[j]?:=fun j _ hne=>by show(w.heap.modify g (onCells (putCells id 0 (flatK enc k d'))))[j]?=_;simp[Array.getElem?_modify,Ne.symm hne]
  refine Ends.change (Ends.refl hS) rfl ⟨rfl,?_⟩ rfl ?_ ?_ ?_
  · show w.drawn<=w.drawn+n;omega
  · show w.heap.size<=((putRowK enc k (Go.Sort.ahead w n) g 0 d').heap++os).size;rw[Array.size_append,hsz];omega
  · show((putRowK enc k (Go.Sort.ahead w n) g 0 d').heap++os)[g]?=_;rw[Array.getElem?_append_left (by rw[hsz];exact hlt),hg']
  · intro j hj hne;show((putRowK enc k (Go.Sort.ahead w n) g 0 d').heap++os)[j]?=_;rw[Array.getElem?_append_left (by rw[hsz];exact hj),ho' j hj hne]
end Go.Eng
namespace Go.Eng
open Go.RowKit
variable {m:Hp}
section
variable {e:Entry} {Q:Exit->Act->World->Prop} {ops:Array Oper} {rest:List Oper} {o:Oper} {s:AB} {h:Hp} {ms:List Hp}
theorem Pb{t el:TypeId}{x y:Operand}{v z:Value}{sz bytes g:Nat}{l:List Value}(i k:Nat)(vl:List Value)(ho:o.op=.store t x y)(hs:Elem e.P t sz z bytes)(hx:ev s x=some (.pointer (some ((⟨g,0,none⟩:Addr).add k))))(hy:ev s y=some v)(hv:v.cells=vl.toArray)(hl:vl.length=sz)(h1:∀u∈vl,u.oneCell'=true)
    (hm:ms[i]?=some (Bn g el l)) (hk:k+sz<=l.length) (hd:o.dst=none) (hg:o.guard=none)
    (K:WL e ops Q rest s h (ms.set i (Bn g el (l.take k++vl++l.drop (k+sz))))):WL e ops Q (o::rest) s h ms:=by
  refine Kj (post:=fun _ h' ms'=>h'=h/\ms'=ms.set i (Bn g el (l.take k++vl++l.drop (k+sz)))) (fun ρ w hρ hw=>?_) hd hg fun _ _ _ ⟨e4,e5⟩=>by subst e4 e5;exact K
  subst hl;have hgw:w.heap[g]?=some (.cells l.toArray el (0,0)):=hw.st.own _ (List.mem_of_getElem? hm) g _ (Hp.one_self _ _);have hst:=run_storeCells_at (P:=e.P) g k el vl 0 _ w hgw (by simp only[List.size_toArray];omega) h1
  have:(execOp ρ o).run e.P w=.ok .skip (w.setRow g (l.take k++vl++l.drop (k+vl.length)).toArray):=by simp[execOp,ho,hρ _ _ hx,hρ _ _ hy,Instr.storeAt,Instr.sureAddr,storeVar,hs.sizeOf,hv,Wo];simp at hst;rw[hst];rfl
  unfold OpRes;rw[this];exact⟨h,_,Ends.put hw hm rfl ⟨rfl,Nat.le_refl _⟩ rfl (by simp) (setRow_heap w g _ _ _ _ hgw) (fun k hk hne=>setRow_other w g k _ hne),rfl,rfl⟩
theorem Bq{c:Code}(k:∀h',h.le h'->m.le h'->WS e c Q s h' ms):WS e c Q s h (m::ms):=
  fun a w ha hw=>k _ (Hp.le_join _ _) (Hp.join_le_right (hw.st.off m mem_cons_self)) a w ha (Ends.freeze hw)
theorem AH{r:List Oper}(k:∀h',h.le h'->m.le h'->WL e ops Q r s h' ms):WL e ops Q r s h (m::ms):=
  fun a w ha hw=>k _ (Hp.le_join _ _) (Hp.join_le_right (hw.st.off m mem_cons_self)) a w ha (Ends.freeze hw)
theorem HU{x:Exit}(k:∀h',h.le h'->m.le h'->NX e Q x s h' ms):NX e Q x s h (m::ms):=
  fun a w ha hw=>k _ (Hp.le_join _ _) (Hp.join_le_right (hw.st.off m mem_cons_self)) a w ha (Ends.freeze hw)
end
end Go.Eng

namespace Go.Eng
open Go.RowKit
theorem Yt{κ ν:Type}[BEq κ][LawfulBEq κ]{K:κ->Value}{V:ν->Value}{P:Program}{o:Oper}{s:AB}{h:Hp}{ms:List Hp}{t kt et:TypeId}{x:Operand}{g:Nat}{Ok:κ->Prop}{m:Hp}{T:List (κ×ν)}{bs:List Nat}(O:CO K V g Ok m T bs)(hm:m∈ms)(ho:o.op=.call { callee:=.builtin .len,args:=#[x],argTypes:=#[t] })(ht:P.underlying t=some (.map kt et))(hx:ev s x=some (.map (some g))):OX P o s h ms (.int .i64 T.length):=
  Bx fun ρ w hρ hw=>by
    obtain⟨es,clock,rfl,he,hb⟩:=O.ex;have hgw:w.heap[g]?=some (.map es clock):=hw.own _ hm g _ (Hp.one_self _ _)
    have hs:es.size=T.length:=by have:=congrArg List.length he;rw[length_map,List.length_zip,O.len,Nat.min_self,Array.length_toList]at this;exact this
    simp[execOp,ho,hρ _ _ hx,resolve,invoke,builtin,Builtin.len_,run_underlying ht,goInt,getObj,Sem.run,hgw,Result.andThen,hs]
theorem NS{α:Type}{P E S vl:List α}{p off n:Nat}(hP:P.length=p)(hn:vl.length=n)(hE:off+n<=E.length):(P++(E++S)).take (p+off)++vl++(P++(E++S)).drop (p+off+n)=P++((E.take off++vl++E.drop (off+n))++S):=by subst hP;rw[Nat.add_assoc,List.take_length_add_append,List.drop_length_add_append,List.take_append_of_le_length (by omega),List.drop_append_of_le_length (by omega)];simp only[append_assoc]
section
variable {e:Entry} {Q:Exit->Act->World->Prop} {ops:Array Oper} {rest:List Oper} {o:Oper} {s:AB} {h:Hp} {ms:List Hp} {α:Type} {F:α->List Value} {l:List α} {v:Value} {m:Hp} {el:TypeId} {sz:Nat}
theorem Gb{t:TypeId}{x y:Operand}{u z:Value}{bytes n:Nat}(i j off:Nat)(a:α)(vl:List Value)(O:OwnL F sz el m v l)(ho:o.op=.store t x y)(hs:Elem e.P t n z bytes)(hx:ev s x=some (.pointer (some (((AF v).add (j*sz)).add off))))(hy:ev s y=some u)(hv:u.cells=vl.toArray)(hl:vl.length=n)(h1:∀c∈vl,c.oneCell'=true)
    (hm:ms[i]?=some m) (hj:j<l.length) (hoff:off+n<=sz) (hFa:F a=(F l[j]).take off++vl++(F l[j]).drop (off+n)) (hd:o.dst=none) (hg:o.guard=none)
    (K:∀m',OwnL F sz el m' v (l.set j a)->WL e ops Q rest s h (ms.set i m')):WL e ops Q (o::rest) s h ms:=by
  obtain⟨⟨h2,h3⟩,hF⟩:=O;rcases h3 with ⟨rfl,h4,rfl⟩|⟨g,cap,spare,rfl,rfl,e1,e2,e3⟩
  · rw[h4]at hj;simp at hj
  · have hle:(j+1)*sz<=l.length*sz:=Nat.mul_le_mul_right sz hj;have hjs:(j+1)*sz=j*sz+sz:=by rw[Nat.add_mul,Nat.one_mul]
    have hx':ev s x=some (.pointer (some ((⟨g,0,none⟩:Addr).add (j*sz+off)))):=by rw[hx];show some (Value.pointer (some (((⟨g,0,none⟩:Addr).add (j*sz)).add off)))=_;rw[BT]
    have hP:((l.take j).flatMap F).length=j*sz:=by rw[Bf hF,length_take,Nat.min_eq_left (Nat.le_of_lt hj)]
    have hsp:l.flatMap F++spare=(l.take j).flatMap F++(F l[j]++((l.drop (j+1)).flatMap F++spare)):=by
      have e0:l.flatMap F=(l.take j).flatMap F++(F l[j]++(l.drop (j+1)).flatMap F):=by
        have e1:l=l.take j++l[j]::l.drop (j+1):=by rw[<-List.drop_eq_getElem_cons hj,List.take_append_drop]
        have e2:=congrArg (fun q=>q.flatMap F) e1;simp only[List.flatMap_append,flatMap_cons]at e2;exact e2
      rw[e0];simp only[append_assoc]
    have hst:(l.set j a).flatMap F++spare=(l.take j).flatMap F++(F a++((l.drop (j+1)).flatMap F++spare)):=by rw[List.set_eq_take_append_cons_drop,if_pos hj,List.flatMap_append,flatMap_cons];simp only[append_assoc]
    have hlen:(l.flatMap F++spare).length=l.length*sz+spare.length:=by rw[length_append,Bf hF]
    refine Pb i (j*sz+off) vl ho hs hx' hy hv hl h1 hm (by omega) hd hg ?_
    have key:(l.flatMap F++spare).take (j*sz+off)++vl++(l.flatMap F++spare).drop (j*sz+off+n)=(l.set j a).flatMap F++spare:=by rw[hsp,hst,hFa];exact NS hP hl (by rw[hF];exact hoff)
    rw[key];refine K _ ⟨⟨?_,.inr ⟨g,cap,spare,by rw[length_set],rfl,?_,by rw[length_set];omega,e3⟩⟩,hF⟩
    · rw[Bf hF,length_set]
    · rw[length_append,Bf hF,length_set,<-Bf hF l,<-length_append];exact e1
end
end Go.Eng

namespace Go.Eng
open Go.RowKit
theorem Zl{e:Entry}{Q:Exit->Act->World->Prop}{s:AB}{h:Hp}{ms ms':List Hp}{c:Code}(g:Goes ms ms')(k:WS e c Q s h ms'):WS e c Q s h ms:=fun a w ha hw=>k a w ha (g _ _ _ _ _ hw)
theorem Goes.drp(a:Hp)(ms:List Hp):Goes (a::ms) ms:=fun _ _ _ _ _ x=>x.drop
theorem VH{e:Entry}{Q:Exit->Act->World->Prop}{s:AB}{h:Hp}{ms:List Hp}{c:Code}{m:Hp}(k:WS e c Q s h ms):WS e c Q s h (m::ms):=Zl (Goes.drp m ms) k
theorem OwnL.pre{α:Type}{F:α->List Value}{sz:Nat}{el:TypeId}{m:Hp}{v:Value}{l:List α}(O:OwnL F sz el m v l){n:Nat}(hn:n<=l.length):OwnL F sz el m (B4 sz v 0 n) (l.take n):=by
  obtain⟨⟨h1,h2⟩,hF⟩:=O;have hl:(l.take n).length=n:=by rw[length_take];omega
  refine⟨⟨Bf hF _,?_⟩,hF⟩;rcases h2 with ⟨rfl,h4,rfl⟩|⟨g,cap,spare,rfl,rfl,e1,e2,e3⟩
  · have:n=0:=by omega
    subst this;exact .inl ⟨rfl,by simp,rfl⟩
  · have hv:B4 sz (.slice (some ⟨g,0,none⟩) l.length cap) 0 n=.slice (some ⟨g,0,none⟩) n cap:=by
      unfold B4;by_cases h0:cap=0
      · subst h0;rfl
      · show Value.slice (if cap=0 then _ else _) (n-0) (cap-0)=_;rw[if_neg h0,Nat.zero_mul];rfl
    have hsp:l.flatMap F=(l.take n).flatMap F++(l.drop n).flatMap F:=by rw[<-List.flatMap_append,List.take_append_drop]
    refine .inr ⟨g,cap,(l.drop n).flatMap F++spare,by rw[hl];exact hv,by rw[<-append_assoc,<-hsp],by rw[<-append_assoc,<-hsp];exact e1,by rw[hl];omega,e3⟩
section
variable {P:Program} {o:Oper} {s:AB} {h:Hp} {ms:List Hp} {t u:TypeId} {x y:Operand} {n:Nat} {k:IntKind}
theorem XQ(ho:o.op=.binOp .shl t x y u)(hx:ev s x=some (.int .i64 1))(hy:ev s y=some (.int k n))(hn:n<=60):OX P o s h ms (.int .i64 ((2^n:Nat):Int)):=
  Bx fun ρ w hρ _=>by
    have h1:¬((n:Int)<0):=by omega
    have h2:min n 64=n:=Nat.min_eq_left (by omega);have h4:2^n<=2^60:=Nat.pow_le_pow_right (by decide) hn
    have h3:IntKind.i64.wrap ((1:Int)*2^n)=((2^n:Nat):Int):=by rw[Int.one_mul,show(2:Int)^n=((2^n:Nat):Int) by simp];generalize 2^n=N at h4;exact CX (by omega)
    simp only[Int.one_mul]at h3;simp[execOp,ho,hρ _ _ hx,hρ _ _ hy,Op.shift,h1,IntKind.bits,h2,h3,go_sem]
end
end Go.Eng
namespace Go.Eng
open Go.RowKit
variable {kt et:TypeId} {x y:Operand}
section
variable {κ ν:Type} [DecidableEq κ] {K:κ->Value} {V:ν->Value} {Ok:κ->Prop} {t:TypeId} {g:Nat} {m:Hp} {T:List (κ×ν)} {bs:List Nat} {P:Program}
variable {o:Oper} {s:AB} {h:Hp} {ms:List Hp}
theorem MN{z:ν}(a:κ)(L:MM P kt K Ok)(O:CO K V g Ok m T bs)(hm:m.le h)(ho:o.op=.lookup t x y true)(ht:P.underlying t=some (.map kt et))(hz:∀w,(zeroValue et).run P w=.ok (V z) w)(hx:ev s x=some (.map (some g)))(hy:ev s y=some (K a))(ha:Ok a) :
    OX P o s h ms (.tuple #[V ((Bi T a).getD z),.bool (Bi T a).isSome]):=
  Bx fun ρ w hρ hw=>by
    obtain⟨es,clock,rfl,he,hb⟩:=O.ex;have hgw:w.heap[g]?=some (.map es clock):=hw.imm g _ (hm g _ (Hp.one_self _ _));obtain⟨l,hk⟩:=L.key a ha;have hc:=L.law.check w es.isEmpty hk;rcases I1 L O.keys O.ok O.len he w a ha with ⟨h1,h2⟩|⟨j,u,b,h1,h2,_,_⟩
    · rw[CZ h2];simp only[execOp,ho,hρ _ _ hx,hρ _ _ hy,Instr.lookup,Sem.run_bind,run_underlying ht,Result.andThen_ok,getObj,Sem.run_pure,h1,hz];simp[Sem.run,hgw,hc,h1,hz,Result.andThen]
    · rw[D5 O.keys h2];simp only[execOp,ho,hρ _ _ hx,hρ _ _ hy,Instr.lookup,Sem.run_bind,run_underlying ht,Result.andThen_ok,getObj,Sem.run_pure,h1,hz];simp[Sem.run,hgw,hc,h1,hz,Result.andThen]
theorem E1{z u:ν}{b:Bool}(a:κ)(hu:(Bi T a).getD z=u)(hb:(Bi T a).isSome=b)(L:MM P kt K Ok)(O:CO K V g Ok m T bs)(hm:m.le h)(ho:o.op=.lookup t x y true)(ht:P.underlying t=some (.map kt et))(hz:∀w,(zeroValue et).run P w=.ok (V z) w)(hx:ev s x=some (.map (some g)))(hy:ev s y=some (K a))(ha:Ok a) :
    OX P o s h ms (.tuple #[V u,.bool b]):=by rw[<-hu,<-hb];exact MN a L O hm ho ht hz hx hy ha
theorem Cf{z u:ν}(a:κ)(hu:(Bi T a).getD z=u)(L:MM P kt K Ok)(O:CO K V g Ok m T bs)(hm:m.le h)(ho:o.op=.lookup t x y false)(ht:P.underlying t=some (.map kt et))(hz:∀w,(zeroValue et).run P w=.ok (V z) w)(hx:ev s x=some (.map (some g)))(hy:ev s y=some (K a))(ha:Ok a) :
    OX P o s h ms (V u):=by rw[<-hu];exact Kn a L O hm ho ht hz hx hy ha
theorem DO{z u:ν}(a:κ)(hu:(Bi T a).getD z=u)(L:MM P kt K Ok)(O:CO K V g Ok m T bs)(hm:m∈ms)(ho:o.op=.lookup t x y false)(ht:P.underlying t=some (.map kt et))(hz:∀w,(zeroValue et).run P w=.ok (V z) w)(hx:ev s x=some (.map (some g)))(hy:ev s y=some (K a))(ha:Ok a) :
    OX P o s h ms (V u):=by rw[<-hu];exact HC a L O hm ho ht hz hx hy ha
end
end Go.Eng
namespace Go.Eng
open Go.RowKit
variable {s:AB} {h:Hp} {ms:List Hp} {e:Entry} {t:Nat}
def Z7(P:Program)(gf:FuncId)(lb:List Value)(h:Hp)(N:Nat)(enc:Nat->List Value):Prop:=
  ∀(lp:Nat) (X Y:Nat->Hp->List Hp->Prop) (h1:Hp) (ms:List Hp),h.le h1->(∀k h2 ms2,k<N->h1.le h2->X k h2 ms2->YdT P lp (enc k).toArray h2 ms2 (fun r h' ms'=>(r=.bool true/\X (k+1) h' ms')\/(r=.bool false/\Y k h' ms')))->X 0 h1 ms →
    FnT P gf ([Value.func (.yield lp) #[] #[]]++lb).toArray h1 ms (fun _ h' ms'=>X N h' ms'\/∃k,k<N/\Y k h' ms')
abbrev Z6(e:Entry)(I I2:AB->Hp->List Hp->Prop):Exit->Act->World->Prop:=Exit.then (Inv e I) (fun x a w=>x=.ret/\Inv e I2 a w)
theorem YD{I I2:AB->Hp->List Hp->Prop}:¬LetsOut (Z6 e I I2):=fun⟨_,_,h,_⟩=>by cases h
theorem YG{I I2:AB->Hp->List Hp->Prop}(s':AB)(hI:I2 s' h ms)(hs:Sub s' s):NX e (Z6 e I I2) .ret s h ms:=
  fun a w ha hw=>⟨rfl,s',h,ms,hI,ha.sub hs,hw⟩
theorem HR{Q:Exit->Act->World->Prop}{gf:Nat}{lb:List Value}{ps:List Nat}{assign body:Code}(J Jr:Nat->Hp->List Hp->Prop)(A:Nat->AB->Hp->List Hp->Prop){N:Nat}{enc:Nat->List Value}
    (hg:lk s t=some (.func (.func gf) #[] lb.toArray)) (hc:∀az w,(callFunc gf az).run e.P w=.ok (.enter gf az) w) (hit:Z7 e.P gf lb h N enc) (hps:∀k,(enc k).length=ps.length) (hpn:ps.all (fun p=>Nat.blt p e.n)=true)
    (h0:J 0 h ms)
    (hA:∀w0 k h1 ms1,k<N->h.le h1->J k h1 ms1->RS ⟨e.P,w0,h1,ms1,e.n,[]⟩ assign (AaP ⟨e.P,w0,h1,ms1,e.n,[]⟩ (A k)) (VR ps (enc k) s) h1 ms1)
    (hB:∀w0 k s1 h1 ms1,k<N->h.le h1->A k s1 h1 ms1->RS ⟨e.P,w0,h1,ms1,e.n,[]⟩ body (Z6 ⟨e.P,w0,h1,ms1,e.n,[]⟩ (fun _=>J (k+1)) (fun _=>Jr k)) s1 h1 ms1)
    (hK:∀D h1 ms1,h.le h1->J N h1 ms1->NX ⟨e.P,e.w0,e.h0,e.ms0,e.n,D::e.ds⟩ Q .normal s h1 (ms1++[Mk D]))
    (hR:∀D k h1 ms1,k<N->h.le h1->Jr k h1 ms1->NX ⟨e.P,e.w0,e.h0,e.ms0,e.n,D::e.ds⟩ Q .ret s h1 (ms1++[Mk D])) :
    WS e (.rangeFunc (.tmp t) ps.toArray assign body) Q s h ms:=by
  intro a w ha hw;refine(wpIn_wide (n:=0)).1 (wpIn_rangeFunc fun fn _=>?_);have hge:a.eval (.tmp t)=.func (.func gf) #[] lb.toArray:=ha.eval (.tmp t) _ hg;obtain⟨rec,hrec⟩:∃rec:LoopState->Loop,rec=fun st=>{ state:=st,pending:=none,fn,tmps:=a.tmps,params:=ps.toArray,assign,body,defers:=w.heap.size }:=⟨_,rfl⟩
  obtain⟨recD,hrecD⟩:∃recD:Loop,recD={ state:=.done,pending:=some .ret,fn,tmps:=a.tmps,params:=ps.toArray,assign,body,defers:=w.heap.size }:=⟨_,rfl⟩
  obtain⟨l,hl⟩:∃l,l=w.heap.size+1:=⟨_,rfl⟩
  obtain⟨W1,hW1⟩:∃W1,(w.alloc (.deferred (some []))).alloc (.loop (rec .ready))=W1:=⟨_,rfl⟩
  have hE1:e.Ends W1 h (ms++[Hp.one l (.loop (rec .ready)),Mk w.heap.size]):=by
    have h2:=(hw.alloc (.deferred (some []))).alloc (.loop (rec .ready));rw[World.size_alloc,<-hl,hW1]at h2
    exact h2.perm (by
      refine List.Perm.trans ?_ perm_append_comm
      exact List.Perm.refl _)
  refine⟨l,[{ target:=.collected w.heap.size,args:=#[] }],W1,{ target:=.fn (.func gf) lb.toArray,args:=#[.func (.yield l) #[] #[]] },W1,gf,([Value.func (.yield l) #[] #[]]++lb).toArray,W1,?_,?_,fun _ _=>trivial,?_,(fun h=>by cases h),?_⟩
  · rw[<-hW1,hrec,hl];exact run_enterLoop_outer _ _ _ _ _
  · simp only[resolve,hge];simp[go_sem]
  · simp[invoke,go_sem,hc]
  · refine(callsIn_wide (n:=0)).2 ((hit l (fun k h1 ms1=>h.le h1/\∃ms2,ms1=ms2++[Hp.one l (.loop (rec .ready)),Mk w.heap.size]/\J k h1 ms2) (fun k h1 ms1=>h.le h1/\∃ms2,ms1=ms2++[Hp.one l (.loop recD),Mk w.heap.size]/\Jr k h1 ms2) h _ (Hp.le_refl _) ?_ ⟨Hp.le_refl _,ms,rfl,h0⟩ W1 hE1.st).mono ?_)
    · -- a round
      rintro k h2 ms2 hkN hl2 ⟨_,ms2,rfl,hJ⟩ w2 hS2;have hlo:w2.heap[l]?=some (.loop (rec .ready)):=hS2.own _ (by simp) l _ (Hp.one_self _ _);have hy:=run_yield (P:=e.P) (args:=(enc k).toArray) hlo (by rw[hrec];simpa using hps k);refine⟨_,_,_,_,hy,?_⟩;have r1:(rec .ready).params=ps.toArray:=by rw[hrec]
      have r2:(rec .ready).tmps=a.tmps:=by rw[hrec]
      have r3:(rec .ready).assign=assign:=by rw[hrec]
      have r4:(rec .ready).body=body:=by rw[hrec]
      rw[r1,r2,r3,r4];refine roundIn_of_wpIn trivial ?_;have hSp:St w2 h2 ms2:=hS2.pre
      have hHas:Has e.n [] { tmps:=(ps.toArray.zip (enc k).toArray).foldl (fun t (p,v)=>t.setIfInBounds p v) a.tmps,defers:=[] } (VR ps (enc k) s):=by
        have e1:(ps.toArray.zip (enc k).toArray).foldl (fun t (p,v)=>t.setIfInBounds p v) a.tmps=(ps.zip (enc k)).foldl (fun t (p,v)=>t.setIfInBounds p v) a.tmps:=by simp
        rw[e1];exact Rn rfl ps (enc k) s a.tmps (fun p hp=>Nat.le_of_ble_eq_true (List.all_eq_true.1 hpn p hp)) ⟨rfl,ha.size,ha.slots⟩
      refine wpIn_mono (hA w2 k h2 ms2 hkN hl2 hJ l _ w2 hHas (Ends.refl hSp) Yy) ?_;intro x a1 w3 hx;cases x with
      | normal=>
        obtain⟨s3,h3,ms3,hA3,hHas3,hE3⟩:=hx;have hEf:Ends w2 h2 (ms2++[Hp.one l (.loop (rec .ready)),Mk w.heap.size]) w3 h3 (ms3++[Hp.one l (.loop (rec .ready)),Mk w.heap.size]):=Ends.call (Ends.refl hS2) hE3;have hEp:=hEf.perm (ms':=Hp.one l (.loop (rec .ready))::Mk w.heap.size::ms3) perm_append_comm;have hl3:w3.heap[l]?=some (.loop (rec .ready)):=hEp.st.own _ (mem_cons_self) l _ (Hp.one_self _ _);have hE4:=Ends.putL (.loop (rec .busy)) hEp;refine⟨_,run_beginRound hl3 (by rw[hrec]),?_⟩;have e2:({ rec .ready with state:=.busy }:Loop)=rec .busy:=by rw[hrec]
        rw[e2];have hE4':=hE4.perm (ms':=ms3++[Hp.one l (.loop (rec .busy)),Mk w.heap.size]) (perm_append_comm (l₁:=[_,_]));refine wpIn_mono (hB _ k s3 h3 ms3 hkN (Hp.le_trans hl2 hE3.le) hA3 l a1 _ hHas3 (Ends.refl hE4'.st.pre) YD) ?_;intro y a2 w5 hy5;cases y with
        | normal=>
          obtain⟨s5,h5,ms5,hJ5,_,hE5⟩:=hy5;have hE6:=Ends.call hE4' hE5;have hE6p:=hE6.perm (ms':=Hp.one l (.loop (rec .busy))::Mk w.heap.size::ms5) perm_append_comm;have hl6:w5.heap[l]?=some (.loop (rec .busy)):=hE6p.st.own _ (mem_cons_self) l _ (Hp.one_self _ _);refine⟨_,_,run_endRound none hl6,?_⟩;have e3:({ rec .busy with state:=if(none:Option Code).isNone then .ready else .done,pending:=none }:Loop)=rec .ready:=by rw[hrec];rfl
          rw[e3];exact⟨_,h5,_,rfl,(Ends.putL (.loop (rec .ready)) hE6p).perm (perm_append_comm (l₁:=[_,_])),.inl ⟨rfl,Hp.le_trans hl2 (Hp.le_trans hE3.le hE5.le),ms5,rfl,hJ5⟩⟩
        | ret=>
          obtain⟨_,s5,h5,ms5,hJ5,_,hE5⟩:=hy5;have hE6:=Ends.call hE4' hE5;have hE6p:=hE6.perm (ms':=Hp.one l (.loop (rec .busy))::Mk w.heap.size::ms5) perm_append_comm;have hl6:w5.heap[l]?=some (.loop (rec .busy)):=hE6p.st.own _ (mem_cons_self) l _ (Hp.one_self _ _);refine⟨_,_,run_endRound (some .ret) hl6,?_⟩;have e3:({ rec .busy with state:=if(some Code.ret:Option Code).isNone then .ready else .done,pending:=some .ret }:Loop)=recD:=by rw[hrec,hrecD];rfl
          rw[e3];exact⟨_,h5,_,rfl,(Ends.putL (.loop recD) hE6p).perm (perm_append_comm (l₁:=[_,_])),.inr ⟨rfl,Hp.le_trans hl2 (Hp.le_trans hE3.le hE5.le),ms5,rfl,hJ5⟩⟩
        | _=>exact absurd hy5.1 (by simp)
      | _=>exact hx
    · rintro x w3 ⟨r,h3,ms3,rfl,hE3,⟨hl3,ms4,rfl,hJ⟩|⟨k,hkN,hl3,ms4,rfl,hJ⟩⟩
      · have hE4:=Ends.call (fr:=[]) (by rw[append_nil];exact hE1) hE3;rw[append_nil]at hE4;have hE5:=hE4.perm (ms':=Hp.one l (.loop (rec .ready))::Mk w.heap.size::ms4) perm_append_comm;have hl5:w3.heap[l]?=some (.loop (rec .ready)):=hE5.st.own _ (mem_cons_self) l _ (Hp.one_self _ _);refine⟨_,_,run_endLoop hl5 (by rw[hrec];simp),?_⟩;have e4:(rec .ready).pending=none:=by rw[hrec]
        rw[e4];exact hK w.heap.size h3 ms4 hl3 hJ { a with defers:=[{ target:=.collected w.heap.size,args:=#[] }]++a.defers } _ ⟨by show [_]++a.defers=_;rw[ha.defers];rfl,ha.size,ha.slots⟩ ((Ends.putL _ hE5).drop.perm (perm_append_comm (l₁:=[_])))
      · have hE4:=Ends.call (fr:=[]) (by rw[append_nil];exact hE1) hE3;rw[append_nil]at hE4;have hE5:=hE4.perm (ms':=Hp.one l (.loop recD)::Mk w.heap.size::ms4) perm_append_comm;have hl5:w3.heap[l]?=some (.loop recD):=hE5.st.own _ (mem_cons_self) l _ (Hp.one_self _ _);refine⟨_,_,run_endLoop hl5 (by rw[hrecD];simp),?_⟩;have e4:recD.pending=some .ret:=by rw[hrecD]
        rw[e4];exact wpIn_ret (hR w.heap.size k h3 ms4 hkN hl3 hJ { a with defers:=[{ target:=.collected w.heap.size,args:=#[] }]++a.defers } _ ⟨by show [_]++a.defers=_;rw[ha.defers];rfl,ha.size,ha.slots⟩ ((Ends.putL _ hE5).drop.perm (perm_append_comm (l₁:=[_]))))
theorem Mw{P:Program}{w0:World}{h0:Hp}{ms0:List Hp}{n:Nat}{fn:Func}{post:Value->Hp->List Hp->Prop}{g:Nat}{ty el:TypeId}{d:TypeDesc}{v:Value}
    (hr:fn.results=#[.cell t ty]) (hv:lk s t=some (.pointer (some ⟨g,0,none⟩))) (ht:P.underlying ty=some d) (hd:H0 d=false) (i:Nat) (hm:ms[i]?=some (Bn g el [v])) (hp:post v h ms) :
    NX ⟨P,w0,h0,ms0,n,[]⟩ (bodyPost P fn (RP w0 h0 ms0 post)) .ret s h ms:=
  Um hr hv ht hd (Cell.blk0 i hm rfl) hp
theorem Rh{P:Program}{w0:World}{h0:Hp}{ms0:List Hp}{n:Nat}{fn:Func}{post:Value->Hp->List Hp->Prop}{u r:Nat}{v v' v2:Value}(hr:fn.results=#[.tmp t,.tmp u,.tmp r])(hv:lk s t=some v)(hv':lk s u=some v')(hv2:lk s r=some v2)(hp:post (.tuple #[v,v',v2]) h ms) :
    NX ⟨P,w0,h0,ms0,n,[]⟩ (bodyPost P fn (RP w0 h0 ms0 post)) .ret s h ms:=fun a w ha hw=>
  bodyPost_ret (v:=.tuple #[v,v',v2]) (by
    have h1:=ha.eval (.tmp t) v hv;have h2:=ha.eval (.tmp u) v' hv';have h3:=ha.eval (.tmp r) v2 hv2;simp only[Act.eval]at h1 h2 h3;rw[Array.getD_eq_getD_getElem?]at h1 h2 h3
    simp[results,hr,h1,h2,h3]) ha.defers ⟨_,h,ms,rfl,hw,hp⟩
end Go.Eng
namespace Go.Eng
open Go.RowKit
variable {a b n bytes sz:Nat} {r:Int} {el:TypeId} {z:Value}
def sv(l:List UInt8):Value:=.string ⟨l.toArray⟩
theorem Lj(l:List UInt8):(sv l).oneCell'=true:=rfl
def Y8(b:UInt8):List Value:=[.int .u8 (b.toNat:Int)]
def Cq(n:Nat):List Value:=[.int .u64 (n:Int)]
theorem Rj:∀n,(Y8 n).length=1:=fun _=>rfl
theorem DK:∀n,(Cq n).length=1:=fun _=>rfl
section
variable {P:Program} {o:Oper} {s:AB} {h:Hp} {ms:List Hp} {t u:TypeId} {x y:Operand} {l l':List UInt8} {k:IntKind}
theorem TK(ho:o.op=.call { callee:=.builtin .len,args:=#[x],argTypes:=#[t] })(ht:P.underlying t=some .string)(hx:ev s x=some (sv l)):OX P o s h ms (.int .i64 l.length):=
  Bx fun ρ w hρ _=>by have:=run_len_string w t 0 ⟨l.toArray⟩ ht;simp[execOp,ho,hρ _ _ hx,resolve,invoke,builtin,sv,Builtin.len_,run_underlying ht,goInt];rfl
theorem E9(n:Nat)(hn:l.length=n)(ho:o.op=.call { callee:=.builtin .len,args:=#[x],argTypes:=#[t] })(ht:P.underlying t=some .string)(hx:ev s x=some (sv l)):OX P o s h ms (.int .i64 n):=by subst hn;exact TK ho ht hx
theorem TI{i:Int}(j:Nat)(ho:o.op=.index t x y)(ht:P.underlying t=some .string)(hx:ev s x=some (sv l))(hy:ev s y=some (.int k i))(hi:i=(j:Int))(hlt:j<l.length):OX P o s h ms (.int .u8 ((l[j].toNat:Nat):Int)):=
  Bx fun ρ w hρ _=>by
    have h1:=run_index_string (P:=P) w t ⟨l.toArray⟩ k i ht
    have h2:0<=i/\i<((⟨l.toArray⟩:ByteArray).size:Int):=by refine⟨by omega,?_⟩;show i<((l.toArray.size:Nat):Int);rw[List.size_toArray];omega
    rw[dif_pos h2]at h1;subst hi;simp only[execOp,ho,hρ _ _ hx,hρ _ _ hy,sv,Sem.run_bind,h1];rfl
theorem S7(ho:o.op=.binOp .neq t x y u)(hx:ev s x=some (sv l))(hy:ev s y=some (sv l')):OX P o s h ms (.bool (decide (l≠l'))):=
  Bx fun ρ w hρ _=>by
    have e:(!(l==l'))=decide (l≠l'):=by
      by_cases h:l=l'
      · subst h;simp
      · simp[h]
    simp[execOp,ho,hρ _ _ hx,hρ _ _ hy,sv,binOp_string_neq,e,ByteArray.toList_eq,eqGuard_at_string]
theorem Vh(ho:o.op=.binOp .or t x y u)(hx:ev s x=some (.int .u64 a))(hy:ev s y=some (.int .u64 b))(ha:a<18446744073709551616)(hb:b<18446744073709551616):OX P o s h ms (.int .u64 ((a ||| b:Nat):Int)):=
  Bx fun ρ w hρ _=>by
    have h0:a ||| b<2^64:=Nat.or_lt_two_pow (by omega) (by omega)
    have h3:IntKind.u64.wrap (((BitVec.ofNat 64 a) ||| (BitVec.ofNat 64 b)).toNat:Int)=((a ||| b:Nat):Int):=by rw[BitVec.toNat_or,BitVec.toNat_ofNat,BitVec.toNat_ofNat,Nat.mod_eq_of_lt (by omega),Nat.mod_eq_of_lt (by omega)];exact D0 (by omega)
    simp[execOp,ho,hρ _ _ hx,hρ _ _ hy,Op.intBits,IntKind.bits,go_sem];exact h3
theorem Ip{k':IntKind}{d:TypeDesc}{a:Int}(he:k'.wrap a=r)(ho:o.op=.convert t u x)(ht:P.underlying t=some d)(hu:P.underlying u=some (.int k'))(hx:ev s x=some (.int k a)):OX P o s h ms (.int k' r):=by subst he;exact Ck ho ht hu hx
theorem Xs{a:Int}(he:k.wrap (-a)=r)(ho:o.op=.unOp .neg t x)(hx:ev s x=some (.int k a)):OX P o s h ms (.int k r):=by subst he;exact Xo ho hx
theorem JS(he:((a &&& b:Nat):Int)=r)(ho:o.op=.binOp .and t x y u)(hx:ev s x=some (.int .u64 a))(hy:ev s y=some (.int .u64 b))(ha:a<18446744073709551616)(hb:b<18446744073709551616):OX P o s h ms (.int .u64 r):=by subst he;exact Yg ho hx hy ha hb
theorem JW(he:((a/2^n:Nat):Int)=r)(ho:o.op=.binOp .shr t x y u)(hx:ev s x=some (.int .u64 a))(hy:ev s y=some (.int k n))(hn:n<=64):OX P o s h ms (.int .u64 r):=by subst he;exact DN ho hx hy hn
theorem RV(he:((a*2^n%18446744073709551616:Nat):Int)=r)(ho:o.op=.binOp .shl t x y u)(hx:ev s x=some (.int .u64 a))(hy:ev s y=some (.int k n))(hn:n<=64):OX P o s h ms (.int .u64 r):=by subst he;exact Rb ho hx hy hn
theorem UN(he:((a ||| b:Nat):Int)=r)(ho:o.op=.binOp .or t x y u)(hx:ev s x=some (.int .u64 a))(hy:ev s y=some (.int .u64 b))(ha:a<18446744073709551616)(hb:b<18446744073709551616):OX P o s h ms (.int .u64 r):=by subst he;exact Vh ho hx hy ha hb
theorem Xg(ho:o.op=.binOp .quo t x y u)(hx:ev s x=some (.int .u64 a))(hy:ev s y=some (.int .u64 b))(ha:a<18446744073709551616)(hb:0<b):OX P o s h ms (.int .u64 ((a/b:Nat):Int)):=by
  have h1:((a:Int).tdiv (b:Int))=((a/b:Nat):Int):=by rw[Int.tdiv_eq_ediv_of_nonneg (Int.natCast_nonneg a)];rfl
  have h2:a/b<=a:=Nat.div_le_self a b
  have h3:IntKind.u64.wrap ((a:Int).tdiv (b:Int))=((a/b:Nat):Int):=by rw[h1];refine D0 ⟨Int.natCast_nonneg _,?_⟩;have:((a/b:Nat):Int)<=(a:Int):=Int.ofNat_le.2 h2;omega
  have:=NL (P:=P) (h:=h) (ms:=ms) ho hx hy (by omega)
  rwa [h3]at this
theorem X6(ho:o.op=.binOp .rem t x y u)(hx:ev s x=some (.int .u64 a))(hy:ev s y=some (.int .u64 b))(hb:0<b):OX P o s h ms (.int .u64 ((a%b:Nat):Int)):=by
  have:=Cc (P:=P) (h:=h) (ms:=ms) ho hx hy (by omega) (by omega)
  rwa [<-Int.natCast_emod]at this
theorem R4(he:IntKind.u64.wrap ((a:Int)+b)=r)(ho:o.op=.binOp .add t x y u)(hx:ev s x=some (.int .u64 a))(hy:ev s y=some (.int .u64 b)):OX P o s h ms (.int .u64 r):=by subst he;exact Bx fun ρ w hρ _=>by simp[execOp,ho,hρ _ _ hx,hρ _ _ hy,Op.intArith,go_sem]
theorem Rp(he:IntKind.u64.wrap ((a:Int)-b)=r)(ho:o.op=.binOp .sub t x y u)(hx:ev s x=some (.int .u64 a))(hy:ev s y=some (.int .u64 b)):OX P o s h ms (.int .u64 r):=by subst he;exact Bx fun ρ w hρ _=>by simp[execOp,ho,hρ _ _ hx,hρ _ _ hy,Op.intArith,go_sem]
theorem Ls:∀l:List UInt8,l.flatMap Y8=(l.map fun b=>(b.toNat:Int)).map (Value.int .u8)
  | []=>rfl
  | b::l=>by rw[flatMap_cons,map_cons,map_cons,Ls l];rfl
theorem Vp{e:TypeId}{v:Value}(R:Rd h ms v 1 n (l.flatMap Y8))(hl:l.length=n)(ho:o.op=.convert t u x)(ht:P.underlying t=some (.slice e))(he:P.underlying e=some (.int .u8))(hu:P.underlying u=some .string)(hx:ev s x=some v):OX P o s h ms (sv l):=
  Bx fun ρ w hρ hw=>by
    obtain⟨a,c,rfl,e2,e3,e4,e5⟩:=R.ex;subst hl;have hfm:=Ls l
    have hs:strOfNums (l.map fun b=>(b.toNat:Int))=⟨l.toArray⟩:=by unfold strOfNums;rw[map_map];congr 2;exact(List.map_congr_left fun b _=>by simp).trans (List.map_id _)
    have key:(convert t u (.slice a l.length c)).run P w=.ok (sv l) w:=by
      cases a with
      | none=>
        have:l=[]:=by
          rcases Nat.eq_zero_or_pos l.length with h|h
          · exact List.length_eq_zero_iff.1 h
          · obtain⟨q,h1,_⟩:=e5 h;cases h1
        subst this;exact run_convert_bytes_nil w t e ht he _ _ u hu
      | some q=>
        rw[run_convert_bytes_string w t u e _ _ _ ht he hu]
        have hc:∀j v,((l.map fun b=>(b.toNat:Int)).map (Value.int .u8))[j]?=some v->w.cell? (q.add j)=some v:=by
          rw[<-hfm];rcases Nat.eq_zero_or_pos l.length with h|h
          · intro j v hv;rw[List.length_eq_zero_iff.1 h]at hv;simp at hv
          · obtain⟨q',h1,h2⟩:=e5 h;cases h1;exact fun j v hv=>hw.cell (h2 j v hv)
        have h1:=run_loadCells_list (P:=P) w q _ hc;rw[length_map,length_map]at h1;rw[run_bytesToString w q _ c _ h1,foldl_push_bytes]
        have:(ByteArray.empty.data++((l.map fun b=>(b.toNat:Int)).map fun n=>UInt8.ofNat n.toNat).toArray)=l.toArray:=by have:=congrArg ByteArray.data hs;simpa[strOfNums] using this
        rw[this];rfl
    simp only[execOp,ho,hρ _ _ hx,Sem.run_bind,key];rfl
end
section
variable {e:Entry} {Q:Exit->Act->World->Prop} {ops:Array Oper} {rest:List Oper} {o:Oper} {s:AB} {h:Hp} {ms:List Hp}
theorem UJ{t:TypeId}{d:Nat}{cp:Nat}{x y:Operand}{k1 k2:IntKind}{l c:Int}(ho:o.op=.makeSlice t x y)(ht:e.P.underlying t=some (.slice el))(hs:Elem e.P el 1 z bytes)(hz:z.cells=#[z])
    (hx:ev s x=some (.int k1 l)) (hy:ev s y=some (.int k2 c)) (hl:l=(n:Int)) (hc:c=(cp:Int)) (hnc:n<=cp) (hb:bytes*cp<=281474976710656) (h63:cp<=9223372036854775807) (hd:o.dst=some d) (hn:Nat.blt d e.n=true) (hg:o.guard=none)
    (k:∀g,WL e ops Q rest ((d,.slice (some ⟨g,0,none⟩) n cp)::s) h (Bn g el (replicate cp z)::ms)):WL e ops Q (o::rest) s h ms:=
  Ia (post:=fun v h' ms'=>∃g,v=.slice (some ⟨g,0,none⟩) n cp/\h'=h/\ms'=Bn g el (replicate cp z)::ms) (fun ρ w hρ hw=>by
    obtain⟨i,hi,hz',his,hib⟩:=hs.info
    have hb':(i.bytes:Int)*c<=281474976710656:=by
      rw[hib,hc];have h:((bytes*cp:Nat):Int)<=281474976710656:=by omega
      rwa [Int.natCast_mul]at h
    have hr:=run_make (P:=e.P) w t el i z ht hi hz' k1 k2 l c (by omega) (by omega) hb' (by omega)
    have:(execOp ρ o).run e.P w=.ok (.value (.slice (some ⟨w.heap.size,0,none⟩) n cp)) (w.alloc (.cells (replicate cp z).toArray el)):=by
      have e1:l.toNat=n:=by omega
      have e2:c.toNat=cp:=by omega
      rw[e1,e2,his,hz,Nat.mul_one,HN]at hr;simp only[execOp,ho,hρ _ _ hx,hρ _ _ hy,Sem.run_bind,hr,Result.andThen_ok,Sem.run_pure]
    unfold OpRes;rw[this]
    exact⟨h,_,Ends.alloc hw _,_,rfl,rfl,rfl⟩) hd hn hg fun _ _ _ ⟨g,e1,e2,e3⟩=>by subst e1 e2 e3;exact k g
end
theorem Pg{α:Type}{F:α->List Value}(hF:∀x,(F x).length=sz)(hsz:0<sz)(a:α)(n:Nat):madeCells (F a).toArray (n*sz)=((replicate n a).flatMap F).toArray:=by
  apply Array.ext_getElem?;intro i;unfold madeCells;have hr:((replicate n a).flatMap F).toArray[i]?=((replicate n a).flatMap F)[i]?:=List.getElem?_toArray;rw[hr,Array.getElem?_map];have hz:(F a).toArray.size=sz:=by simp[hF]
  rcases Nat.lt_or_ge i (n*sz) with h|h
  · have h1:i/sz<n:=Nat.div_lt_of_lt_mul (by rw[Nat.mul_comm];exact h);have hm:=Nat.mod_lt i hsz;have h2:i%sz<(F a).length:=by rw[hF];exact hm
    have h3:=EI hF (replicate n a) (i/sz) (by simpa using h1) (i%sz) ((F a)[i%sz]) (by simp[h2]);rw[Nat.mul_comm,Nat.div_add_mod]at h3;rw[h3];simp[h,hF];rw[List.getElem?_eq_getElem h2];rfl
  · rw[List.getElem?_eq_none (l:=(replicate n a).flatMap F) (by rw[Bf hF];simpa using h)];simp[h]
section
variable {e:Entry} {Q:Exit->Act->World->Prop} {ops:Array Oper} {rest:List Oper} {o:Oper} {s:AB} {h:Hp} {ms:List Hp}
theorem WJ{α:Type}{F:α->List Value}(hF:∀x,(F x).length=sz)(hsz:0<sz)(a:α){t:TypeId}{d:Nat}{x y:Operand}{k1 k2:IntKind}{l c:Int}(ho:o.op=.makeSlice t x y)(ht:e.P.underlying t=some (.slice el))(hs:Elem e.P el sz z bytes)(hz:z.cells=(F a).toArray)
    (hx:ev s x=some (.int k1 l)) (hy:ev s y=some (.int k2 c)) (hl:l=(n:Int)) (hc:c=(n:Int)) (hb:bytes*n<=281474976710656) (h63:n<=9223372036854775807) (hd:o.dst=some d) (hn:Nat.blt d e.n=true) (hg:o.guard=none)
    (k:∀g v m,v=.slice (some ⟨g,0,none⟩) n n->OwnL F sz el m v (replicate n a)->WL e ops Q rest ((d,v)::s) h (m::ms)):WL e ops Q (o::rest) s h ms:=
  Ia (post:=fun v h' ms'=>∃g,v=.slice (some ⟨g,0,none⟩) n n/\h'=h/\ms'=Bn g el ((replicate n a).flatMap F)::ms) (fun ρ w hρ hw=>by
    obtain⟨i,hi,hz',his,hib⟩:=hs.info
    have hb':(i.bytes:Int)*c<=281474976710656:=by
      rw[hib,hc];have h:((bytes*n:Nat):Int)<=281474976710656:=by omega
      rwa [Int.natCast_mul]at h
    have hr:=run_make (P:=e.P) w t el i z ht hi hz' k1 k2 l c (by omega) (by omega) hb' (by omega)
    have:(execOp ρ o).run e.P w=.ok (.value (.slice (some ⟨w.heap.size,0,none⟩) n n)) (w.alloc (.cells ((replicate n a).flatMap F).toArray el)):=by
      have e1:l.toNat=n:=by omega
      have e2:c.toNat=n:=by omega
      rw[e1,e2,his,hz,Pg hF hsz]at hr;simp only[execOp,ho,hρ _ _ hx,hρ _ _ hy,Sem.run_bind,hr,Result.andThen_ok,Sem.run_pure]
    unfold OpRes;rw[this]
    exact⟨h,_,Ends.alloc hw _,_,rfl,rfl,rfl⟩) hd hn hg fun _ _ _ ⟨g,e1,e2,e3⟩=>by subst e1 e2 e3;exact k g _ _ rfl (OwnL.blk n hF (by simp) (by omega))
end
theorem Wc{P:Program}{w0:World}{h0:Hp}{ms0:List Hp}{fn:Func}{post:Value->Hp->List Hp->Prop}{s:AB}{h:Hp}{t t2 u:Nat}{ty:TypeId}{g g2:Nat}{d:TypeDesc}{vs vs2:List Value}{v:Value}
    (hr:fn.results=#[.cell t ty,.cell t2 ty,.tmp u]) (hv:lk s t=some (.pointer (some ⟨g,0,none⟩))) (hv2:lk s t2=some (.pointer (some ⟨g2,0,none⟩))) (hu:lk s u=some v) (ht:P.underlying ty=some d) (hd:H0 d=true) (hs:Elem P ty sz z bytes) (hl:vs.length=sz) (hl2:vs2.length=sz)
    (hp:post (.tuple #[.agg vs.toArray,.agg vs2.toArray,v]) h []) :
    NX ⟨P,w0,h0,ms0,n,[]⟩ (bodyPost P fn (RP w0 h0 ms0 post)) .ret s h [Bn g el vs,Bn g2 el vs2]:=fun a w ha hw=>by
  have h1:a.tmps[t]?.getD undef=.pointer (some ⟨g,0,none⟩):=by rw[ha.slots t _ hv];rfl
  have h1':a.tmps[t2]?.getD undef=.pointer (some ⟨g2,0,none⟩):=by rw[ha.slots t2 _ hv2];rfl
  have h2:a.tmps[u]?.getD undef=v:=by rw[ha.slots u _ hu];rfl
  have hag:(isAgg ty).run P w=.ok true w:=by rw[DU ht,hd]
  have hc':∀j v,vs[j]?=some v->w.cell? ((⟨g,0,none⟩:Addr).add j)=some v:=fun j v e=>hw.st.cell (Seg.blk (el:=el) 0 rfl j v e);have hc2:∀j v,vs2[j]?=some v->w.cell? ((⟨g2,0,none⟩:Addr).add j)=some v:=fun j v e=>hw.st.cell (Seg.blk (el:=el) 1 rfl j v e);refine bodyPost_ret (v:=.tuple #[.agg vs.toArray,.agg vs2.toArray,v]) ?_ ha.defers ⟨_,h,_,rfl,Ends.drop (Ends.drop hw),hp⟩;have e1:=run_loadCells_list (P:=P) w _ vs hc';have e2:=run_loadCells_list (P:=P) w _ vs2 hc2;rw[hl]at e1;rw[hl2]at e2;simp[results,hr,h1,h1',h2,asAddr,loadVar,hag,hs.sizeOf,e1,e2]
end Go.Eng
