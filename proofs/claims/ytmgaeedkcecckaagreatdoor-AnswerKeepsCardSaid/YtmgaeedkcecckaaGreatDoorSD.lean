/- A part of the proof. -/
import Derived.Test.YtmgaeedkcecckaaGreatDoorSC
import Derived.Test.YtmgaeedkcecckaaGreatDoorChecked
import Derived.KernelRfl
import Derived.WalkArith
set_option linter.unusedSimpArgs false
set_option linter.unusedVariables false
set_option linter.unusedSectionVars false
set_option maxRecDepth 100000
set_option maxHeartbeats 4000000
open List (length_map length_singleton getElem_mem range length_append nil_append length_take mem_cons map_append mem_cons_of_mem length_nil length_drop length_set take_length append_assoc getElem_map length_cons range_succ drop_zero mem_of_mem_take not_mem_nil)
namespace Go.Eng
open Go.RowKit
theorem Qs{a s:AG}(h:Eng.Sub a s:=by repeat (first|exact fu|refine⟨rfl,?_⟩)):Eng.Sub a s:=h
theorem Qt{f:Nat->Option (Nat×Nat)}{n:Nat}{b:List (Nat×Value)}{a:List (Nat×List Value)}(h:HT f n b a:=by repeat (first|exact fu|refine⟨⟨by rfl,rfl,rfl⟩,?_⟩)):HT f n b a:=h
def dgQ(n:Nat)(o:Oper):Option Nat:=match o.dst,o.guard with
 | some d,none=>match Nat.blt d n with
  | true=>some d
  | false=>none
 | _,_=>none
theorem Mt{n d:Nat}{o:Oper}(h:dgQ n o=some d):o.dst=some d/\Nat.blt d n=true/\o.guard=none:=by
 grind [dgQ]
def mv(s:AG)(o:Oper):Option Value:=match o.op with
 | .move x=>ev s x
 | .assign x=>ev s x
 | .nilCheck x=>match ev s x with
  | some (.pointer (some p))=>some (.pointer (some p))
  | _=>none
 | .extract x i=>match ev s x with
  | some (.tuple vs)=>vs[i]?
  | _=>none
 | .pick c x y=>match ev s c with
  | some (.bool true)=>ev s x
  | some (.bool false)=>ev s y
  | _=>none
 | .unOp .not _ x=>match ev s x with
  | some (.bool a)=>some (.bool (!a))
  | _=>none
 | .binOp b _ x y _=>match b,ev s x,ev s y with
  | .lss,some (.int k a),some (.int k' b)=>if k=k' then some (.bool (decide (a<b))) else none
  | .leq,some (.int k a),some (.int k' b)=>if k=k' then some (.bool (decide (a<=b))) else none
  | .gtr,some (.int k a),some (.int k' b)=>if k=k' then some (.bool (decide (b<a))) else none
  | .geq,some (.int k a),some (.int k' b)=>if k=k' then some (.bool (decide (b<=a))) else none
  | .eql,some (.int k a),some (.int k' b)=>if k=k' then some (.bool (decide (a=b))) else none
  | .neq,some (.int k a),some (.int k' b)=>if k=k' then some (.bool (decide (a≠b))) else none
  | _,_,_=>none
 | _=>none
theorem Abm{P:Program}{s:AG}{h:Hp}{f:List Hp}{o:Oper}{v:Value}(a:mv s o=some v):OX P o s h f v:=by
 unfold mv at a;split at a
 .rename_i b;exact Ap b a
 .rename_i b;exact Jt b a
 .rename_i b;split at a
  .rename_i c;cases a;exact Vc b c
  .cases a
 .rename_i b;split at a
  .rename_i c;exact Bo b c a
  .cases a
 .rename_i b;split at a
  .rename_i c;exact Cf b c a
  .rename_i c;exact Bv b c a
  .cases a
 all_goals grind [Dg,Dw,W6,CE,NK,Cq,FV]
def gd(ops:Array Oper)(n:Nat)(s:AG)(o:Oper)(w:Bool):Option Nat:=match o.dst,o.guard with
 | some d,some (j,b)=>match Nat.blt d n,ops[j]? with
  | true,some oj=>match oj.dst with
   | some dj=>match lk s dj with
    | some (.bool b')=>match (b'==b)==w with
     | true=>some d
     | false=>none
    | _=>none
   | none=>none
  | _,_=>none
 | _,_=>none
theorem Yi{a:Array Oper}{n d:Nat}{s:AG}{o:Oper}{w:Bool}(h:gd a n s o w=some d):∃j b f e c,o.dst=some d/\Nat.blt d n=true/\o.guard=some (j,b)/\a[j]?=some f/\f.dst=some e/\lk s e=some (.bool c)/\(c==b)=w:=by
 unfold gd at h;split at h
 all_goals grind
section
variable {e:Entry} {Q:Exit->Act->World->Prop} {s:AG} {h h0:Hp} {ms:List Hp} {ops:Array Oper} {listed:Array Bool} {fuel:Nat} {o:Oper} {rest:List Oper} {v:Value} {d:Nat}
theorem Qx(b:OX e.P o s h ms v)(a:dgQ e.n o=some d)(k:WL e ops Q rest ((d,v)::s) h ms):WL e ops Q (o::rest) s h ms:=by grind [Mt,Zd]
theorem E:type_of% @Qx:=@Qx
def mvd(n:Nat)(s:AG)(o:Oper):Option (Nat×Value):=match dgQ n o,mv s o with
 | some d,some v=>some (d,v)
 | _,_=>none
theorem Qm(a:mvd e.n s o=some (d,v))(k:WL e ops Q rest ((d,v)::s) h ms):WL e ops Q (o::rest) s h ms:=by
 obtain⟨f,g⟩:dgQ e.n o=some d/\mv s o=some v:=by
  grind [mvd]
 exact E (Abm g) f k
theorem G:type_of% @Qm:=@Qm
theorem Qk(a:gd ops e.n s o false=some d)(k:WL e ops Q rest ((d,undef)::s) h ms):WL e ops Q (o::rest) s h ms:=
 let ⟨_,_,_,_,_,h1,h2,h3,h4,h5,h6,h7⟩:=Yi a
 Aev h1 h2 h3 h4 h5 h6 h7 k
theorem Qg(b:OX e.P o s h ms v)(a:gd ops e.n s o true=some d)(k:WL e ops Q rest ((d,v)::s) h ms):WL e ops Q (o::rest) s h ms:=
 let ⟨_,_,_,_,_,h1,h2,h3,h4,h5,h6,h7⟩:=Yi a
 Af2 b h1 h2 h3 h4 h5 (by simp_all) k
theorem Qw(k:WB e ops Q h fuel listed s h ms):WL e ops (QB e ops Q h fuel listed) [] s h ms:=Am (Hn (Hp.le_refl _) k)
theorem Qa(k:WB e ops Q h0 fuel listed s h ms)(a:h0.le h:=by assumption):WL e ops (QB e ops Q h0 fuel listed) [] s h ms:=Am (Hn a k)
theorem Qo(i:Nat)(a:ops[i]?=some o)(k:WL e ops (QB e ops Q h0 fuel (listed.setIfInBounds i true)) [o] s h ms)(b:Region.ready .any ops listed=[i]:=by kernel_rfl):WB e ops Q h0 (fuel+1) listed s h ms:=AO [i] b rfl (Al a k AN)
theorem Qe(k:NX e Q .normal s h ms)(a:Region.ready .any ops listed=[]:=by kernel_rfl):WB e ops Q h0 fuel listed s h ms:=SJ a k
theorem Ao{y:Code}(k:WS e y Q s h ms):WL e ops (Exit.then (λa w=>y.wp e.P Q a w) Q) [] s h ms:=Am (Ab k)
theorem Ax{id:Nat}{l:List Oper}{y:Code}(k:WL e l.toArray (Exit.then (λa w=>y.wp e.P Q a w) Q) l s h ms):WS e (.seq (.region id l.toArray false) y) Q s h ms:=X (Ad k)
theorem U:type_of% @Ax:=@Ax
theorem At{y:Code}(b:mvd e.n s o=some (d,v))(k:WS e y Q ((d,v)::s) h ms):WL e ops (Exit.then (λa w=>y.wp e.P Q a w) Q) [o] s h ms:=G b (Ao k)
theorem J:type_of% @At:=@At
theorem AT{c:Oper}{b:Nat}{f:Value}(g:mvd e.n s o=some (d,v))(a:mvd e.n ((d,v)::s) c=some (b,f))(k:WL e ops Q rest ((b,f)::(d,v)::s) h ms):WL e ops Q (o::c::rest) s h ms:=G g (G a k)
theorem D:type_of% @AT:=@AT
theorem Br{K a:Act->World->Prop}{id:Nat}(k:NX e Q .normal s h ms):WS e (.exit id) (Exit.then K (Exit.then a (Exit.inBlock id Q))) s h ms:=Az (Aa (Aa (Af k)))
theorem C:type_of% @Br:=@Br
theorem Cg{y:Code}(k:WS e y Q s h ms):WS e .skip (Exit.then (λa w=>y.wp e.P Q a w) Q) s h ms:=Ah (Ab k)
theorem I:type_of% @Cg:=@Cg
theorem D2{y:Code}{id:Nat}(k:WS e y Q s h ms):NX e (Exit.inBlock id (Exit.then (λa w=>y.wp e.P Q a w) Q)) .normal s h ms:=Ai (Ab k)
theorem DM{c:Oper}{b:Nat}(f:gd ops e.n s o false=some d)(a:gd ops e.n ((d,undef)::s) c false=some b)(k:WL e ops Q rest ((b,undef)::(d,undef)::s) h ms):WL e ops Q (o::c::rest) s h ms:=Qk f (Qk a k)
theorem BF{id:Nat}{l:List Oper}{y:Code}(k:WL e l.toArray (Exit.then (λa w=>y.wp e.P Q a w) Q) l s h ms):WL e ops (Exit.then (λa w=>(Code.seq (.region id l.toArray false) y).wp e.P Q a w) Q) [] s h ms:=Am (Ab (X (Ad k)))
theorem HM{id:Nat}{l:List Oper}(k:WL e l.toArray Q l s h ms):WL e ops (Exit.then (λa w=>(Code.region id l.toArray false).wp e.P Q a w) Q) [] s h ms:=Am (Ab (Ad k))
theorem BJ{t:TypeId}{sz:Nat}{z:Value}{a:Nat}(b:List Value)(f:o.op=.alloc t)(i:Elem e.P t sz z a)(j:z.cells=b.toArray)(c:dgQ e.n o=some d)(k:∀g,WL e ops Q rest ((d,.pointer (some ⟨g,0,none⟩))::s) h (BE g t b::ms)):WL e ops Q (o::rest) s h ms:=by grind [Mt,TX]
end
def pzo(l:List Oper)(n:Nat)(zs:AG)(i:Nat):Option (Oper×Nat):=match l[i]? with
 | some o=>match dgQ n o with
  | some d=>match lk zs d with
   | none=>some (o,d)
   | some _=>none
  | none=>none
 | none=>none
theorem Qp{P:Program}{l:List Oper}{n:Nat}{s z:AG}{b:Hp}{K:AG->Prop}{r:List Nat}{i d:Nat}{o:Oper}{v:Value}(a:pzo l n (z++s) i=some (o,d))(j:OX P o (z++s) b [] v)(k:C5 P l n s b K r ((d,v)::z)):C5 P l n s b K (i::r) z:=by
 grind [pzo,Mt,AhL]
def pzm(l:List Oper)(n:Nat)(zs:AG)(i:Nat):Option (Nat×Value):=match pzo l n zs i with
 | some (o,d)=>match mv zs o with
  | some v=>some (d,v)
  | none=>none
 | none=>none
def ldv(s:AG)(o:Oper):Option (TypeId×Addr):=match o.op with
 | .load t x=>match ev s x with
  | some (.pointer (some p))=>some (t,p)
  | _=>none
 | _=>none
theorem T6{s:AG}{o:Oper}{t:TypeId}{p:Addr}(h:ldv s o=some (t,p)):∃x,o.op=.load t x/\ev s x=some (.pointer (some p)):=by
 grind [ldv]
def fav(s:AG)(o:Oper):Option (TypeId×Nat×Addr):=match o.op with
 | .fieldAddr t x i=>match ev s x with
  | some (.pointer (some p))=>some (t,i,p)
  | _=>none
 | _=>none
theorem AcN{s:AG}{o:Oper}{t:TypeId}{i:Nat}{p:Addr}(h:fav s o=some (t,i,p)):∃x,o.op=.fieldAddr t x i/\ev s x=some (.pointer (some p)):=by
 grind [fav]
def wd(o:Oper):Option Nat:=match o.dst,o.guard with
 | some d,none=>some d
 | _,_=>none
theorem RX{o:Oper}{d:Nat}(h:wd o=some d):o.dst=some d/\o.guard=none:=by
 grind [wd]
section
variable {P:Program} {l:List Oper} {n:Nat} {s z:AG} {h h0:Hp} {ms:List Hp} {K:AG->Prop} {r:List Nat} {i d:Nat} {o:Oper} {v:Value} {t:TypeId} {p:Addr} {D:TypeDesc}
theorem Qq(a:pzm l n (z++s) i=some (d,v))(k:C5 P l n s h0 K r ((d,v)::z)):C5 P l n s h0 K (i::r) z:=by
 unfold pzm at a;split at a
 .rename_i b;split at a
  .rename_i c;cases a;exact Qp b (Abm c) k
  .cases a
 .cases a
def ad2{α:Type}(a:Option (Oper×Nat))(f:Oper->Option α):Option (α×Nat):=match a with
 | some (o,d)=>match f o with
  | some x=>some (x,d)
  | none=>none
 | none=>none
theorem Vo{α:Type}{a:Option (Oper×Nat)}{f:Oper->Option α}{x:α}{d:Nat}(h:ad2 a f=some (x,d)):∃o,a=some (o,d)/\f o=some x:=by
 unfold ad2 at h;grind
theorem oL(c:ldv s o=some (t,p))(e:P.underlying t=some D)(b:Cell h ms p v)(a:Iv D=false:=by rfl):OX P o s h ms v:=by grind [T6,AdZ]
theorem oG{z:Value}{sz a:Nat}{b:List Value}(g:ldv s o=some (t,p))(k:P.underlying t=some D)(j:Elem P t sz z a)(e:Seg h ms p b)(c:Iv D=true:=by rfl)(f:b.length=sz:=by rfl):OX P o s h ms (.agg b.toArray):=by grind [T6,Ac3]
theorem oF{j a:Nat}(F:GR P t j a)(b:fav s o=some (t,j,p)):OX P o s h ms (.pointer (some (p.add a))):=by grind [AcN,Aay]
theorem QL(c:ad2 (pzo l n (z++s) i) (ldv (z++s))=some ((t,p),d))(e:P.underlying t=some D)(b:Cell h0 [] p v)(k:C5 P l n s h0 K r ((d,v)::z))(a:Iv D=false:=by rfl):C5 P l n s h0 K (i::r) z:=
 let ⟨_,h1,h2⟩:=Vo c
 Qp h1 (oL h2 e b a) k
theorem QF{j a:Nat}(F:GR P t j a)(b:ad2 (pzo l n (z++s) i) (fav (z++s))=some ((t,j,p),d))(k:C5 P l n s h0 K r ((d,.pointer (some (p.add a)))::z)):C5 P l n s h0 K (i::r) z:=
 let ⟨_,h1,h2⟩:=Vo b
 Qp h1 (oF F h2) k
end
def bn(s:AG)(o:Oper):Option (BinOp×Int×Int):=match o.op with
 | .binOp b _ x y _=>match ev s x,ev s y with
  | some (.w a),some (.w c)=>some (b,a,c)
  | _,_=>none
 | _=>none
theorem R8{s:AG}{o:Oper}{b:BinOp}{a c:Int}(h:bn s o=some (b,a,c)):∃t x y u,o.op=.binOp b t x y u/\ev s x=some (.int .i64 a)/\ev s y=some (.int .i64 c):=by
 grind [bn]
section
variable {P:Program} {s:AG} {h:Hp} {ms:List Hp} {o:Oper} {a b:Int}
theorem oA(c:bn s o=some (.add,a,b))(d:-9223372036854775808<=a+b/\a+b<=9223372036854775807:=by omega):OX P o s h ms (.int .i64 (a+b)):=by grind [R8,Ag4]
theorem oS(c:bn s o=some (.sub,a,b))(d:-9223372036854775808<=a-b/\a-b<=9223372036854775807:=by omega):OX P o s h ms (.int .i64 (a-b)):=by grind [R8,Ahp]
theorem oM(c:bn s o=some (.mul,a,b))(d:-9223372036854775808<=a*b/\a*b<=9223372036854775807:=by omega):OX P o s h ms (.int .i64 (a*b)):=by grind [R8,Agi]
end
def stv(s:AG)(o:Oper):Option (TypeId×Addr×Value):=match o.op,o.dst,o.guard with
 | .store t x y,none,none=>match ev s x,ev s y with
  | some (.pointer (some p)),some v=>some (t,p,v)
  | _,_=>none
 | _,_,_=>none
theorem AcV{s:AG}{o:Oper}{t:TypeId}{p:Addr}{v:Value}(h:stv s o=some (t,p,v)):∃x y,o.op=.store t x y/\ev s x=some (.pointer (some p))/\ev s y=some v/\o.dst=none/\o.guard=none:=by
 grind [stv]
def cav(s:AG)(o:Oper):Option (FuncId×List Value):=match o.op with
 | .call c=>match c.callee,Vg s c.args.toList with
  | .value (.func f),some vs=>some (f,vs)
  | _,_=>none
 | _=>none
theorem Abk{s:AG}{o:Oper}{f:FuncId}{e:List Value}(h:cav s o=some (f,e)):∃l a,o.op=.call { callee:=.value (.func f),args:=List.toArray l,argTypes:=a }/\Vg s l=some e:=by
 unfold cav at h;split at h
 .rename_i c i;split at h
  .rename_i m j b d;cases h;obtain⟨k,g,a⟩:=c;simp only at b d;subst b;exact⟨g.toList,a,by omega,d⟩
  .cases h
 .cases h
section
variable {e:Entry} {Q:Exit->Act->World->Prop} {s:AG} {h:Hp} {ms:List Hp} {ops:Array Oper} {o:Oper} {rest l:List Oper} {v:Value} {d:Nat} {t:TypeId} {p:Addr} {D:TypeDesc}
theorem Ql(c:(ldv s o,dgQ e.n o)=(some (t,p),some d))(f:e.P.underlying t=some D)(b:Cell h ms p v)(k:WL e ops Q rest ((d,v)::s) h ms)(a:Iv D=false:=by rfl):WL e ops Q (o::rest) s h ms:=
 let ⟨h1,h2⟩:=Prod.mk.inj c
 E (oL h1 f b a) h2 k
theorem Qf{j a:Nat}(F:GR e.P t j a)(b:(fav s o,dgQ e.n o)=(some (t,j,p),some d))(k:WL e ops Q rest ((d,.pointer (some (p.add a)))::s) h ms):WL e ops Q (o::rest) s h ms:=
 let ⟨h1,h2⟩:=Prod.mk.inj b
 E (oF F h1) h2 k
theorem Sa{el:TypeId}{z:Value}{sz a g:Nat}{l:List Value}(i:Nat)(b:List Value)(j:Elem e.P t sz z a)(c:(stv s o,v.cells,ms[i]?,b.length,l.length)=(some (t,⟨g,0,none⟩,v),b.toArray,some (BE g el l),sz,sz))(f:∀u∈b,u.oneCell'=true)(K:WL e ops Q rest s h (ms.set i (BE g el b))):WL e ops Q (o::rest) s h ms:=by grind [kg,AcV,IG]
theorem Qc{f:FuncId}{i:List Value}{a:Value->Hp->List Hp->Prop}(z:∀g w,(callFunc f g).run e.P w=.ok (.enter f g) w)(A:(cav s o,dgQ e.n o)=(some (f,i),some d))(k:FnT e.P f i.toArray h [] a)(K:∀v c b,h.le c->a v c b->WL e ops Q rest ((d,v)::s) c (b++ms)):WL e ops Q (o::rest) s h ms:=by grind [Prod.mk.inj,Abk,Mt,AdE]
variable {tl:List Oper} {q:List (Nat×VP)} {al:List (Nat×Nb)}
theorem Wm(a:(wd o,mv s o)=(some d,some v))(k:WR e ops Q tl h ms l ((d,v)::s) q al):WR e ops Q tl h ms (o::l) s q al:=
 let ⟨h1,h2⟩:=Prod.mk.inj a
 let ⟨h3,h4⟩:=RX h1
 BS (Abm h2) h3 h4 k
theorem Wf{j a:Nat}(F:GR e.P t j a)(b:(wd o,fav s o)=(some d,some (t,j,p)))(k:WR e ops Q tl h ms l ((d,.pointer (some (p.add a)))::s) q al):WR e ops Q tl h ms (o::l) s q al:=
 let ⟨h1,h2⟩:=Prod.mk.inj b
 let ⟨h3,h4⟩:=RX h1
 BS (oF F h2) h3 h4 k
theorem Wl(c:(wd o,ldv s o)=(some d,some (t,p)))(f:e.P.underlying t=some D)(b:Cell h ms p v)(k:WR e ops Q tl h ms l ((d,v)::s) q al)(a:Iv D=false:=by rfl):WR e ops Q tl h ms (o::l) s q al:=
 let ⟨h1,h2⟩:=Prod.mk.inj c
 let ⟨h3,h4⟩:=RX h1
 BS (oL h2 f b a) h3 h4 k
end
theorem OwnL.o1{α:Type _}{F:α->List Value}{sz:Nat}{el:TypeId}{m:Hp}{v:Value}{l:List α}(O:OwnL F sz el m v l):v.oneCell'=true:=(O.rd (h:=Hp.emp) (ms:=[m]) (List.Mem.head _)).rd.one
theorem BP{P:Program}{s:AG}{h:Hp}{ms:List Hp}{o:Oper}{v:Value}{sz n:Nat}{cs:List Value}{t el:TypeId}{x y:Operand}{z:Value}{bytes:Nat}{k:IntKind}{i:Int}(j:Nat)(R:Rd h ms v sz n cs)(ho:o.op=.indexAddr t x y)(ht:P.underlying t=some (.slice el))(hs:Elem P el sz z bytes)(hx:ev s x=some v)(hy:ev s y=some (.int k i))(hi:i=(j:Int):=by omega)(hlt:j<n:=by omega):OX P o s h ms (.pointer (some ((AJ v).add (j*sz)))):=by grind [AR]
theorem AD{a b c:Hp}(x:a.le b)(y:b.le c):a.le c:=Hp.le_trans x y
theorem N:type_of% @AD:=@AD
theorem Bk{a:Hp}:a.le a:=Hp.le_refl a
theorem Mh{α:Type _}{a:α}{l:List α}:a∈a::l:=by simp_all
end Go.Eng
namespace Go.Proofs.Q
open Go.Proofs.Tryz
open Go.Eng Go.RowKit
section
open Go.Eng
theorem Cx:prog.follows .mixedOrders=true:=by kernel_rfl
theorem By:Elem prog 3 1 (.int .i64 0) 8:=Elem.of V
theorem el4:Elem prog 4 1 (.bool false) 1:=Elem.of V
theorem Y4:Elem prog 5 1 (.int .u8 0) 1:=Elem.of V
theorem Fv:Elem prog 22 1 (.slice none 0 0) 24:=Elem.of V
theorem Acg:Elem prog 24 1 (.nilFunc) 8:=Elem.of V
theorem AeT:Elem prog 25 1 (.slice none 0 0) 24:=Elem.of V
theorem Bd:Elem prog 27 1 (.agg #[.slice none 0 0]) 24:=Elem.of V
theorem DO:Elem prog 30 1 (.slice none 0 0) 24:=Elem.of V
theorem Av:Elem prog 33 2 (.agg #[.bool false,.string ByteArray.empty]) 24:=Elem.of V
theorem GH:Elem prog 35 5 (.agg #[.bool false,.slice none 0 0,.slice none 0 0,.bool false,.string ByteArray.empty]) 80:=Elem.of V
theorem Ag8:Elem prog 48 1 (.slice none 0 0) 24:=Elem.of V
theorem A9:Elem prog 50 3 (.agg #[.int .i64 0,.int .i64 0,.slice none 0 0]) 40:=Elem.of V
theorem B5:Elem prog 52 2 (.agg #[.int .i64 0,.int .i64 0]) 16:=Elem.of V
theorem Aei:Elem prog 74 1 (.map none) 8:=Elem.of V
theorem Cv:Elem prog 79 3 (.agg #[.int .i64 0,.bool false,.string ByteArray.empty]) 32:=Elem.of V
theorem F7:Elem prog 87 4 (.agg #[.slice none 0 0,.int .i64 0,.slice none 0 0,.slice none 0 0]) 80:=Elem.of V
theorem En:Elem prog 89 1 (.slice none 0 0) 24:=Elem.of V
theorem BQ:Elem prog 91 3 (.agg #[.int .i64 0,.int .i64 0,.slice none 0 0]) 40:=Elem.of V
theorem Ain:Elem prog 113 2 (.agg #[.int .i64 0,.int .i64 0]) 16:=Elem.of V
theorem Cs:Elem prog 117 1 (.int .u64 0) 8:=Elem.of V
theorem Ah5:Elem prog 137 2 (.agg #[.map none,.slice none 0 0]) 32:=Elem.of V
theorem Ma:Elem prog 141 1 (.map none) 8:=Elem.of V
theorem NB:Elem prog 144 15 (.agg #[.int .i64 0,.int .i64 0,.slice none 0 0,.int .i64 0,.int .i64 0,.slice none 0 0,.int .i64 0,.int .i64 0,.slice none 0 0,.int .i64 0,.int .i64 0,.slice none 0 0,.int .i64 0,.int .i64 0,.slice none 0 0]) 200:=Elem.of V
theorem J0:Elem prog 146 16 (.agg #[.int .i64 0,.int .i64 0,.slice none 0 0,.int .i64 0,.int .i64 0,.slice none 0 0,.int .i64 0,.int .i64 0,.slice none 0 0,.int .i64 0,.int .i64 0,.slice none 0 0,.int .i64 0,.int .i64 0,.slice none 0 0,.slice none 0 0]) 224:=Elem.of V
theorem AfK:Elem prog 166 1 (.nilFunc) 8:=Elem.of V
theorem Adg:Elem prog 170 1 (.slice none 0 0) 24:=Elem.of V
theorem AfW:Elem prog 208 1 (.map none) 8:=Elem.of V
theorem Af3:Elem prog 209 1 (.nilFunc) 8:=Elem.of V
theorem AhZ:Elem prog 223 5 (.agg #[.slice none 0 0,.slice none 0 0,.slice none 0 0,.slice none 0 0,.slice none 0 0]) 120:=Elem.of V
theorem Ah3:Elem prog 225 7 (.agg #[.slice none 0 0,.slice none 0 0,.slice none 0 0,.slice none 0 0,.slice none 0 0,.int .i64 0,.int .i64 0]) 136:=Elem.of V
theorem DL:Elem prog 229 8 (.agg #[.bool false,.string ByteArray.empty,.bool false,.string ByteArray.empty,.bool false,.string ByteArray.empty,.bool false,.string ByteArray.empty]) 96:=Elem.of V
theorem AeM:GL prog 27 #[(0,1)]:=⟨_,underlying27,λw=>by kernel_rfl⟩
theorem JP:GL prog 33 #[(0,1),(1,1)]:=⟨_,underlying33,λw=>by kernel_rfl⟩
theorem Afw:GL prog 35 #[(0,1),(1,1),(2,1),(3,2)]:=⟨_,underlying35,λw=>by kernel_rfl⟩
theorem R7:GL prog 50 #[(0,1),(1,1),(2,1)]:=⟨_,underlying50,λw=>by kernel_rfl⟩
theorem Za:GL prog 52 #[(0,1),(1,1)]:=⟨_,underlying52,λw=>by kernel_rfl⟩
theorem ZI:GL prog 79 #[(0,1),(1,2)]:=⟨_,underlying79,λw=>by kernel_rfl⟩
theorem Aen:GL prog 87 #[(0,1),(1,1),(2,1),(3,1)]:=⟨_,underlying87,λw=>by kernel_rfl⟩
theorem Agj:GL prog 91 #[(0,1),(1,1),(2,1)]:=⟨_,underlying91,λw=>by kernel_rfl⟩
theorem AhX:GL prog 137 #[(0,1),(1,1)]:=⟨_,underlying137,λw=>by kernel_rfl⟩
theorem AhK:GL prog 144 #[(0,3),(3,3),(6,3),(9,3),(12,3)]:=⟨_,underlying144,λw=>by kernel_rfl⟩
theorem Ahy:GL prog 146 #[(0,15),(15,1)]:=⟨_,underlying146,λw=>by kernel_rfl⟩
theorem Aik:GL prog 223 #[(0,1),(1,1),(2,1),(3,1),(4,1)]:=⟨_,underlying223,λw=>by kernel_rfl⟩
theorem Ah4:GL prog 225 #[(0,5),(5,2)]:=⟨_,underlying225,λw=>by kernel_rfl⟩
theorem Mc:GL prog 229 #[(0,2),(2,2),(4,2),(6,2)]:=⟨_,underlying229,λw=>by kernel_rfl⟩
theorem Cy:GR prog 27 0 0:=⟨_,_,_,underlying27,rfl,rfl,sizeOf25⟩
theorem DI:GR prog 33 0 0:=⟨_,_,_,underlying33,rfl,rfl,sizeOf4⟩
theorem EZ:GR prog 33 1 1:=⟨_,_,_,underlying33,rfl,rfl,sizeOf9⟩
theorem Kc:GR prog 35 0 0:=⟨_,_,_,underlying35,rfl,rfl,sizeOf4⟩
theorem Jb:GR prog 35 1 1:=⟨_,_,_,underlying35,rfl,rfl,sizeOf30⟩
theorem Ke:GR prog 35 2 2:=⟨_,_,_,underlying35,rfl,rfl,sizeOf30⟩
theorem LC:GR prog 35 3 3:=⟨_,_,_,underlying35,rfl,rfl,sizeOf33⟩
theorem B7:GR prog 50 0 0:=⟨_,_,_,underlying50,rfl,rfl,sizeOf3⟩
theorem Co:GR prog 50 1 1:=⟨_,_,_,underlying50,rfl,rfl,sizeOf3⟩
theorem BZ:GR prog 50 2 2:=⟨_,_,_,underlying50,rfl,rfl,sizeOf48⟩
theorem Dv:GR prog 52 0 0:=⟨_,_,_,underlying52,rfl,rfl,sizeOf3⟩
theorem Ep:GR prog 52 1 1:=⟨_,_,_,underlying52,rfl,rfl,sizeOf3⟩
theorem Gr:GR prog 79 0 0:=⟨_,_,_,underlying79,rfl,rfl,sizeOf3⟩
theorem Ic:GR prog 79 1 1:=⟨_,_,_,underlying79,rfl,rfl,sizeOf33⟩
theorem FW:GR prog 87 0 0:=⟨_,_,_,underlying87,rfl,rfl,sizeOf27⟩
theorem Nq:GR prog 87 1 1:=⟨_,_,_,underlying87,rfl,rfl,sizeOf3⟩
theorem Wc:GR prog 87 2 2:=⟨_,_,_,underlying87,rfl,rfl,sizeOf30⟩
theorem Wn:GR prog 87 3 3:=⟨_,_,_,underlying87,rfl,rfl,sizeOf30⟩
theorem E3:GR prog 91 0 0:=⟨_,_,_,underlying91,rfl,rfl,sizeOf3⟩
theorem Dx:GR prog 91 1 1:=⟨_,_,_,underlying91,rfl,rfl,sizeOf3⟩
theorem GF:GR prog 91 2 2:=⟨_,_,_,underlying91,rfl,rfl,sizeOf89⟩
theorem G3:GR prog 137 0 0:=⟨_,_,_,underlying137,rfl,rfl,sizeOf135⟩
theorem SL:GR prog 137 1 1:=⟨_,_,_,underlying137,rfl,rfl,sizeOf22⟩
theorem XY:GR prog 144 0 0:=⟨_,_,_,underlying144,rfl,rfl,sizeOf91⟩
theorem YF:GR prog 144 2 6:=⟨_,_,_,underlying144,rfl,rfl,sizeOf91⟩
theorem AfA:GR prog 144 3 9:=⟨_,_,_,underlying144,rfl,rfl,sizeOf91⟩
theorem MG:GR prog 146 0 0:=⟨_,_,_,underlying146,rfl,rfl,sizeOf144⟩
theorem Yx:GR prog 146 1 15:=⟨_,_,_,underlying146,rfl,rfl,sizeOf89⟩
theorem KQ:GR prog 223 0 0:=⟨_,_,_,underlying223,rfl,rfl,sizeOf220⟩
theorem MF:GR prog 223 1 1:=⟨_,_,_,underlying223,rfl,rfl,sizeOf220⟩
theorem Em:GR prog 223 2 2:=⟨_,_,_,underlying223,rfl,rfl,sizeOf220⟩
theorem Yu:GR prog 223 3 3:=⟨_,_,_,underlying223,rfl,rfl,sizeOf220⟩
theorem XK:GR prog 223 4 4:=⟨_,_,_,underlying223,rfl,rfl,sizeOf220⟩
theorem Cj:GR prog 225 0 0:=⟨_,_,_,underlying225,rfl,rfl,sizeOf223⟩
theorem Jx:GR prog 225 1 5:=⟨_,_,_,underlying225,rfl,rfl,sizeOf113⟩
theorem MO:GR prog 229 0 0:=⟨_,_,_,underlying229,rfl,rfl,sizeOf33⟩
theorem Mv:GR prog 229 1 2:=⟨_,_,_,underlying229,rfl,rfl,sizeOf33⟩
theorem Mp:GR prog 229 2 4:=⟨_,_,_,underlying229,rfl,rfl,sizeOf33⟩
theorem Ms:GR prog 229 3 6:=⟨_,_,_,underlying229,rfl,rfl,sizeOf33⟩
theorem U3:type_of% @Tryz.underlying3:=by simp_all
theorem U4:type_of% @Tryz.underlying4:=by simp_all
theorem U5:type_of% @Tryz.underlying5:=by simp_all
theorem U9:type_of% @Tryz.underlying9:=by simp_all
theorem Bb:type_of% @Tryz.underlying22:=by simp_all
theorem U23:type_of% @Tryz.underlying23:=by simp_all
theorem U24:type_of% @Tryz.underlying24:=by simp_all
theorem B8:type_of% @Tryz.underlying25:=by simp_all
theorem CV:type_of% @Tryz.underlying27:=by simp_all
theorem Ct:type_of% @Tryz.underlying30:=by simp_all
theorem Bn:type_of% @Tryz.underlying33:=by simp_all
theorem U35:type_of% @Tryz.underlying35:=by simp_all
theorem Di:type_of% @Tryz.underlying48:=by simp_all
theorem Kr:type_of% @Tryz.underlying50:=by simp_all
theorem To:type_of% @Tryz.underlying52:=@Tryz.underlying52
theorem VG:type_of% @Tryz.underlying74:=by simp_all
theorem U79:type_of% @Tryz.underlying79:=by simp_all
theorem Ks:type_of% @Tryz.underlying83:=by simp_all
theorem U87:type_of% @Tryz.underlying87:=by simp_all
theorem CJ:type_of% @Tryz.underlying89:=by simp_all
theorem Iw:type_of% @Tryz.underlying91:=by simp_all
theorem Wh:type_of% @Tryz.underlying113:=by simp_all
theorem FM:type_of% @Tryz.underlying117:=by simp_all
theorem JM:type_of% @Tryz.underlying135:=by simp_all
theorem It:type_of% @Tryz.underlying141:=by simp_all
theorem AhY:type_of% @Tryz.underlying144:=by simp_all
theorem Agm:type_of% @Tryz.underlying146:=by simp_all
theorem Cr:type_of% @Tryz.underlying164:=by simp_all
theorem AiC:type_of% @Tryz.underlying166:=by simp_all
theorem Aat:type_of% @Tryz.underlying168:=by simp_all
theorem IK:type_of% @Tryz.underlying170:=by simp_all
theorem Tk:type_of% @Tryz.underlying183:=by simp_all
theorem RN:type_of% @Tryz.underlying185:=by simp_all
theorem Ad8:type_of% @Tryz.underlying201:=by simp_all
theorem Ah2:type_of% @Tryz.underlying204:=by simp_all
theorem Aib:type_of% @Tryz.underlying206:=by simp_all
theorem Ag0:type_of% @Tryz.underlying207:=by simp_all
theorem JS:type_of% @Tryz.underlying208:=by simp_all
theorem AhH:type_of% @Tryz.underlying209:=by simp_all
theorem AdX:type_of% @Tryz.underlying219:=by simp_all
theorem CK:type_of% @Tryz.underlying220:=by simp_all
theorem Mi:type_of% @Tryz.underlying229:=by simp_all
end
section
def Cb(n:Int):Prop:=-9223372036854775808<=n/\n<=9223372036854775807
instance (n:Int):Decidable (Cb n):=by unfold Cb;infer_instance
theorem D9{P:Program}{f:FuncId}{a:Array Value}{h:Hp}{v:Value}(k:FnT P f a h [] (λr _ _=>r=v))(c:List Hp):FnV P f a h c v:=by refine λw b=>(?_:FnV _ _ _ h [] _) w<|b.weaken (Bk)<|List.nil_sublist _;exact FnT.toV k
theorem De{a b:Nat}(h:(a:Int)<b):a<b:=Z
def cD(s:Int×Int):List Value:=[.int .i64 s.1,.int .i64 s.2]
theorem GJ:∀s,(cD s).length=2:=λ_=>rfl
theorem No:∀a,∀c∈cD a,c.oneCell'=true:=by simp_all [cD,be,ia]
structure Cl where
 id:Int
 dim:Int
 sd:List (Int×Int)
 deriving DecidableEq,Inhabited
structure Ce where
 c:Cl
 v:Value
instance:Inhabited Ce:=⟨⟨default,.slice none 0 0⟩⟩
def cC(a:Ce):List Value:=[.int .i64 a.c.id,.int .i64 a.c.dim,a.v]
theorem D7:∀a,(cC a).length=3:=λ_=>rfl
structure RdC(h:Hp)(v:Value)(l:List Ce):Prop where
 q:RdL cC 3 h [] v l
 s:∀a∈l,RdL cD 2 h [] a.v a.c.sd
theorem RdC.up{h b:Hp}{v:Value}{l:List Ce}(R:RdC h v l)(c:h.le b):RdC b v l:=⟨R.q.up c,λa d=>(R.s a d).up c⟩
theorem Hd{h:Hp}{l:List Ce}(e:∀a∈l,RdL cD 2 h [] a.v a.c.sd):∀a∈l,∀c∈cC a,c.oneCell'=true:=λa d c b=>by
 simp only[cC,be,ia,j7]at b;rcases b with rfl|rfl|rfl
 .rfl
 .rfl
 .exact(e a d).rd.one
def JQ(x:Int×Int)(l:List (Int×Int)):List (Int×Int):=l.takeWhile (λy=>decide (y.1<=x.1))++x::l.dropWhile (λy=>decide (y.1<=x.1))
def CS(l:List (Int×Int)):List (Int×Int):=l.foldl (λacc x=>JQ x acc) []
theorem Ft{α:Type}(p:α->Bool):∀(l:List α) (k:Nat),k<=l.length->(∀j (c:j<l.length),j<k->p l[j]=true)->(∀b:k<l.length,p l[k]=false)->l.takeWhile p=l.take k/\l.dropWhile p=l.drop k
 | [],k,b,_,_=>by simp
 | a::l,0,_,_,h=>by simp_all
 | a::l,k+1,b,h1,h2=>by
  have e:p a=true:=h1 0 σ Z
  have d:=Ft p l k (by simpa using b) (λj c f=>by
   have:=h1 (j+1) (by simpa using c) Z
   simpa using this) (λb=>by
   have:=h2 (by simpa using b)
   simpa using this)
  simp_all
theorem Xo{x:Int×Int}{l:List (Int×Int)}{k:Nat}(a:k<=l.length)(f:∀j (c:j<l.length),j<k->l[j].1<=x.1)(g:∀a:k<l.length,¬l[k].1<=x.1):JQ x l=l.take k++x::l.drop k:=by grind [Ft,decide,bp,dx,JQ]
theorem AcQ(x:Int×Int)(l:List (Int×Int)):(JQ x l).length=l.length+1:=by grind [JQ,List.length,List.takeWhile_append_dropWhile,Int,decide,ag,de]
theorem Tu(l:List (Int×Int))(x:Int×Int):CS (l++[x])=JQ x (CS l):=by grind [CS]
theorem H8(l:List (Int×Int)):(CS l).length=l.length:=by
 have b:∀(l a:List (Int×Int)),(l.foldl (λa x=>JQ x a) a).length=a.length+l.length:=λl=>by
  induction l<;>grind [it,AcQ,de]
 have:=b l [];rw[fv,ig]at this;exact this
theorem Gs{α:Type}{F:α->List Value}{sz:Nat}{el:TypeId}(g:Nat)(a:∀x,(F x).length=sz):OwnL F sz el (BE g el []) (.slice (some ⟨g,0,none⟩) 0 0) ([]:List α):=OwnL.blk (l:=[]) 0 a rfl H
theorem VC(l:List (Int×Int))(v:Value)(h:Hp)(hl:l.length<=100000)(x:RdL cD 2 h [] v l):FnT prog 80 #[v] h [] (λr f b=>h=f/\∃m,b=[m]/\OwnL cD 2 52 m r (CS l)):=by
 have o1:=x.rd.one;refine Au func80 ntmps80 Y Y<|λ_ _=>U<|G Y<|BF<|J Y<|X<|U<|J Y<|Ag<|BW ?_
 refine AC (λq s f b=>∃(i:Nat) (y:Value) (e:Hp),q=l.length-i/\s=[(0,v),(3,y),(4,.w i)]/\h=f/\b=[e]/\i<=l.length/\OwnL cD 2 52 e y (CS (l.take i)))
  (l.length-0) _ ⟨0,_,_,rfl,rfl,rfl,rfl,Z,OwnL.nil GJ⟩ Qs ?_
 rintro q s f b ⟨i,y,e,rfl,rfl,rfl,rfl,hi,n⟩;have P:=H8 (l.take i);rw[bf]at P;refine X<|U<|D Y Y<|E (Aw x.rd.any Y Di Y) Y<|J Y<|Ay Y (λL=>?_)<|λL=>?_
 .have d:i<l.length:=De L;have ovo:=n.o1;have O:∀Q,Seg h Q ((AJ v).add (i*2)) (cD l[i]):=λQ=>(x.any (ms:=Q)).seg d;obtain⟨a,g⟩:∃a,CS (l.take i)=a:=⟨_,Y⟩
  rw[g]at n P;refine I<|X<|Ag<|U<|J Y ?_;have c:=n.rd (h:=h) (ms:=[e]) Mh;have hout2:=c.len_le;have htk:CS (l.take (i+1))=JQ l[i] a:=by rw[ap d,Tu,g]
  refine Bu (λs f b=>∃(k:Nat),s=[(0,v),(3,y),(4,.w i),(5,.w k)]/\h=f/\b=[e]/\k<=a.length/\JQ l[i] a=a.take k++l[i]::a.drop k) ?_<|λs h Q hI=>?_
  .refine Ag ?_
   refine AC (λq s f b=>∃(k:Nat),q=a.length-k/\s=[(0,v),(3,y),(4,.w i),(5,.w k)]/\h=f/\b=[e]/\k<=a.length/\∀j (hj:j<a.length),j<k->a[j].1<=l[i].1)
    (a.length-0) _ ⟨0,rfl,rfl,rfl,rfl,Z,λj hj h=>Z⟩ Qs ?_
   rintro q s f b ⟨k,rfl,rfl,rfl,rfl,p,t⟩;refine X<|X<|BK 15 Cx V Y<|Wm Y<|Wm Y<|BS (Aw c.rd Y Di Y) Y Y<|Wm Y<|Wm Y<|Dd (t:=17) Y (λM=>?_)<|λM=>?_
   .have K:k<a.length:=De M;have hck:Cell h [e] ((AJ y).add (k*2)) (.w a[k].1):=c.cell0 K Y;have hci:Cell h [e] ((AJ v).add (i*2)) (.w l[i].1):=x.any.cell0 d Y;refine AV (Ap Y Y) Y Y Y Y<|AV (Ap Y Y) Y Y Y Y<|AV (BP (k) c.rd Y Di B5 Y Y) Y Y Y Y<|AV (oF Dv Y) Y Y Y Y<|AV (oL Y U3<|hck) Y Y Y Y<|AV (Ap Y Y) Y Y Y Y<|AV (Ap Y Y) Y Y Y Y<|AV (BP (i) x.rd.any Y Di B5 Y Y) Y Y Y Y<|AV (oF Dv Y) Y Y Y Y<|AV (oL Y U3<|hci) Y Y Y Y<|BB<|Qg (W6 Y Y Y) Y<|J Y<|Ay Y (λu=>?_)<|λu=>?_
    .refine I<|Ag<|Ad<|G Y<|E (oA Y) Y<|G Y<|Am<|Ai ?_
     exact Aq (a.length-(k+1)) _ Z ⟨k+1,Y,Y,Y,Y,Z,λj hj h=>by
      rcases (Z:j<k\/j=k) with h1|rfl
      .exact t j hj h1
      .exact u⟩ Qs
    .refine C<|AI _ ⟨k,Y,Y,Y,p,Xo p t λ_=>u⟩ Qs
   .have K:k=a.length:=Z
    refine AF Y Y Y Y Y<|AF Y Y Y Y Y<|AF Y Y Y Y Y<|AF Y Y Y Y Y<|AF Y Y Y Y Y<|AF Y Y Y Y Y<|AF Y Y Y Y Y<|AF Y Y Y Y Y<|AF Y Y Y Y Y<|AF Y Y Y Y Y<|BB<|Qk Y<|J Y<|AM Y<|C<|AI _ ⟨k,Y,Y,Y,p,Xo p t λh=>lj h Z⟩ Qs
  .obtain⟨k,rfl,rfl,rfl,p,B⟩:=hI;refine X<|BK 8 Cx V rfl<|Wm rfl<|Wm rfl<|BS (BP (i) x.rd.any rfl Di B5 rfl rfl) rfl rfl<|BS (oG rfl To B5<|O _) rfl rfl<|Ahz (Ip [_,_] rfl Di B5 rfl ξ rfl rfl Z) rfl rfl<|Wm rfl<|Wm rfl<|BS (Dm (k) c.rd rfl Di B5 rfl rfl Z Z) rfl rfl<|Xx<|λR=>AL 0 (OwnL.blk (g:=R) (el:=52) (F:=cD) (l:=[l[i]]) 1 GJ rfl H) ((n.rd (h:=h)<|List.Mem.tail _ Mh).sub_ p<|ak _) rfl Di B5 rfl Z rfl rfl rfl No (by(try simp only[ae,fv,ag,bf,br,aw]);omega) (by(try simp only[ae,fv,ag,bf,br,aw]);omega) rfl rfl rfl<|λv6 m6 z=>?_;have ov6:=z.o1;refine G rfl<|HM ?_;refine AX [] [] [] rfl Di B5 rfl Z V (by repeat (first|exact fu|refine⟨⟨by first|rfl|exact(c.rd).cells|exact Rd.cells ‹_›|exact(RdL.rd ‹_›).cells,rfl,rfl⟩,?_⟩)) rfl rfl rfl rfl<|λS=>?_;refine G rfl<|G rfl<|E (Iz (k) c.rd rfl Di B5 rfl rfl Z Z) rfl<|AL 0 (Gs S GJ) ((n.rd (h:=h)<|List.Mem.tail _<|List.Mem.tail _ Mh).sub_ (fm _) p) rfl Di B5 rfl Z rfl rfl rfl No (by(try simp only[ae,fv,ag,bf,br,aw]);omega) (by(try simp only[ae,fv,ag,bf,br,aw]);omega) rfl rfl rfl<|λv7 m7 T=>G rfl<|AL 0 T (z.rd (h:=h)<|List.Mem.tail _ Mh) rfl Di B5 rfl Z rfl rfl rfl No (by(try simp only[ae,fv,ag,bf,br,aw]);omega) (by(try simp only[ae,fv,ag,bf,br,aw]);omega) rfl rfl rfl<|λv8 m8 A=>?_
   have he:[]++(a.drop 0).take (k-0)++([l[i]]++(a.drop k).take (a.length-k))=CS (l.take (i+1)):=by rw[htk,B,js,ix,bm (l:=a.drop k) (by rw[br];omega)];rfl
   rw[he]at A;refine G Y<|Am<|D2<|Ad<|G Y<|E (oA Y) Y<|G Y<|Am<|Jf (db (l₁:=[m8]) (l₂:=[m6,e]))<|AU<|AU<|Aq (l.length-(i+1)) _ Z ⟨i+1,v8,m8,Y,Y,Y,Y,Z,A⟩ Qs
 .have d:i=l.length:=Z
  rw[d,fz]at n;refine C<|Ab<|U<|G Y<|J Y<|Aj<|Ar Y Y (⟨Y,e,Y,n⟩)
open Go.Lin Go.Sort
theorem Rt(i j:Nat)(h:i+j<4611686018427387904):IntKind.i64.wrap (((i+j)%((2:Int)^IntKind.u64.bits).natAbs/2^1:Nat):Int)=(((i+j)/2:Nat):Int):=by
 grind [Int,dv,Nat,IntKind.wrap,IntKind.bits,IntKind.signed]
def c3(x y:Int):Int:=if x<y then -1 else if y<x then 1 else 0
theorem AfQ(x y:Int):c3 x y<0<->x<y:=by
 grind [c3]
theorem XA(x:Int)(h:Hp)(a:List Hp):FnV prog 176 #[.int .i64 x] h a (.bool false):=by refine D9 ?_ a;refine Au func176 ntmps176 Y Y<|λ_ _=>U<|G Y<|BF<|D Y Y<|G Y<|J Y<|Aj<|Ar Y Y σ
theorem PY(x y:Int)(h:Hp)(c:List Hp):FnV prog 215 #[.int .i64 x,.int .i64 y] h c (.int .i64 (c3 x y)):=by
 refine D9 ?_ c;refine Au func215 ntmps215 Y Y<|λ_ _=>U<|G Y<|BF<|G Y<|E (As Y call176 Y<|XA _ _ _) Y<|G Y<|BF<|G Y<|E (As Y call176 Y<|XA _ _ _) Y<|J Y<|X<|U<|J Y<|AM Y<|I<|X<|U<|J Y<|AM Y<|I<|X<|U<|D Y Y<|J Y<|Ay Y (λa=>?_)<|λa=>?_
 .refine X<|Ad<|J Y<|Aj<|Ae ?_;exact Ar Y Y (by grind [c3])
 .refine I<|X<|U<|D Y Y<|J Y<|Ay Y (λb=>?_)<|λb=>?_
  .refine X<|Ad<|J Y<|Aj<|Ae ?_;exact Ar Y Y (by grind [c3])
  .refine I<|U<|J Y<|Aj ?_;exact Ar Y Y (by grind [c3])
structure CeO where
 c:Cl
 v:Value
 one:v.oneCell'=true
instance:Inhabited CeO:=⟨⟨default,.slice none 0 0,rfl⟩⟩
def WY(a:CeO):List Value:=[.int .i64 a.c.id,.int .i64 a.c.dim,a.v]
theorem SY:∀a,(WY a).length=3:=λ_=>rfl
theorem AeL(s:CeO):∀c∈WY s,c.oneCell'=true:=λc a=>by
 simp only[WY,be,ia,j7]at a;rcases a with rfl|rfl|rfl
 .rfl
 .rfl
 .exact s.one
abbrev SdE:=Int×Int
def VS(g:Nat):Value:=.func (.func 214) #[] #[.pointer (some ⟨g,0,none⟩)]
def cvD(g:Nat):Value:=.func (.func 218) #[] #[.pointer (some ⟨g,0,none⟩)]
def fkC:Value:=.func (.func 169) #[] #[]
def fkD:Value:=.func (.func 171) #[] #[]
def Aab(h:Hp)(g:Nat):Prop:=∀ms,Cell h ms (⟨g,0,none⟩:Addr) fkC
def Acv(h:Hp)(g:Nat):Prop:=∀ms,Cell h ms (⟨g,0,none⟩:Addr) fkD
theorem AfO(x:CeO)(h:Hp)(a:List Hp):FnV prog 169 #[.agg (WY x).toArray] h a (.int .i64 x.c.id):=by refine D9 ?_ a;have o1:=x.one;show FnT _ _ #[.agg #[.int .i64 x.c.id,.int .i64 x.c.dim,x.v]] _ _ _;refine Au func169 ntmps169 Y Y<|λ_ _=>U<|AK [_,_,_] Y Y ξ Y Y Y<|λc=>G Y<|BF<|Qf B7 Y<|Ql Y U3 (Cell.blk 0 Y Y)<|J Y<|Aj<|Ar Y Y<|Y
theorem Af4(x:SdE)(h:Hp)(a:List Hp):FnV prog 171 #[.agg (cD x).toArray] h a (.int .i64 x.1):=by refine D9 ?_ a;show FnT _ _ #[.agg #[.int .i64 x.1,.int .i64 x.2]] _ _ _;refine Au func171 ntmps171 Y Y<|λ_ _=>U<|AK [_,_] Y Y ξ Y Y Y<|λc=>G Y<|BF<|Qf Dv Y<|Ql Y U3 (Cell.blk 0 Y Y)<|J Y<|Aj<|Ar Y Y<|Y
theorem Rq(x y:CeO)(h:Hp)(g:Nat)(i:Aab h g)(b:List Hp):FnV prog 214 #[.agg (WY x).toArray,.agg (WY y).toArray,.pointer (some ⟨g,0,none⟩)] h b (.int .i64 (c3 x.c.id y.c.id)):=by refine D9 ?_ b;have o1:=x.one;have p:=y.one;show FnT _ _ #[.agg #[.int .i64 x.c.id,.int .i64 x.c.dim,x.v],.agg #[.int .i64 y.c.id,.int .i64 y.c.dim,y.v],.pointer (some ⟨g,0,none⟩)] _ _ _;refine Au func214 ntmps214 Y Y<|λ_ _=>U<|AK [_,_,_] Y Y ξ Y Y Y<|λl=>AK [_,_,_] Y Y ξ Y Y Y<|λm=>J Y<|AH λn k a=>AH λf e d=>?_;have a:=a.le e;have c:∀b,Cell f b (⟨g,0,none⟩:Addr) fkC:=λb=>(i b).le (N k e);refine X<|BK 5 Cx V Y<|Wl Y Ah2 (c _)<|BS (oG Y Kr A9<|Seg.any d) Y Y<|BS (CF Y Y call169 Y ((AfO x _ _))) Y Y<|Wl Y Ah2 (c _)<|BS (oG Y Kr A9<|Seg.any a) Y Y<|BB<|E (CF Y Y call169 Y ((AfO y _ _))) Y<|E (As Y call215 Y<|PY _ _ _ _) Y<|J Y<|Aj<|Ar Y Y<|Y
theorem AgE(x y:SdE)(h:Hp)(g:Nat)(i:Acv h g)(b:List Hp):FnV prog 218 #[.agg (cD x).toArray,.agg (cD y).toArray,.pointer (some ⟨g,0,none⟩)] h b (.int .i64 (c3 x.1 y.1)):=by refine D9 ?_ b;show FnT _ _ #[.agg #[.int .i64 x.1,.int .i64 x.2],.agg #[.int .i64 y.1,.int .i64 y.2],.pointer (some ⟨g,0,none⟩)] _ _ _;refine Au func218 ntmps218 Y Y<|λ_ _=>U<|AK [_,_] Y Y ξ Y Y Y<|λl=>AK [_,_] Y Y ξ Y Y Y<|λm=>J Y<|AH λn k a=>AH λf e d=>?_;have a:=a.le e;have c:∀b,Cell f b (⟨g,0,none⟩:Addr) fkD:=λb=>(i b).le (N k e);refine X<|BK 5 Cx V Y<|Wl Y Aib (c _)<|BS (oG Y To B5<|Seg.any d) Y Y<|BS (CF Y Y call171 Y ((Af4 x _ _))) Y Y<|Wl Y Aib (c _)<|BS (oG Y To B5<|Seg.any a) Y Y<|BB<|E (CF Y Y call171 Y ((Af4 y _ _))) Y<|E (As Y call215 Y<|PY _ _ _ _) Y<|J Y<|Aj<|Ar Y Y<|Y
end
abbrev OLC(m:Hp)(v:Value)(l:List CeO):Prop:=OwnL WY 3 50 m v l
abbrev IncC(l:List CeO):Prop:=l.Pairwise λa b=>a.c.id<=b.c.id
theorem IncC.at{l:List CeO}(S:IncC l){i j:Nat}(b:i<l.length)(c:j<l.length)(h:i<=j):¬c3 l[j].c.id l[i].c.id<0:=by
 grind [AfQ,ii,bw]
theorem Xl(l:List CeO)(v:Value)(m:Hp)(e:OLC m v l)(S:IncC l)(a b:Nat)(y:a<=b)(O:b<=l.length)(L:l.length<=1000000)(h:Hp)(g:Nat)(B:Aab h g){p r:Int}(u:p=a)(x:r=b) :
  FnT prog 262 #[v,.w p,.w r,(VS g)] h [m] (λ_ d c=>h=d/\c=[m]):=by
 subst u x;refine Au func262 ntmps262 Y Y<|λ_ _=>U<|G Y<|E (oA Y) Y<|J Y<|Ag ?_
 refine AC (λn s d c=>∃(i:Nat) (z:Int),n=b-i/\s=[(0,v),(1,.w a),(2,.w b),(3,(VS g)),(8,.w z)]/\h=d/\c=[m]/\z=i/\a<i/\i<=4611686018427387905)
  _ _ ⟨a+1,(a:Int)+1,rfl,rfl,rfl,rfl,Z,Z,Z⟩ Qs ?_
 rintro n s d c ⟨i,z,rfl,rfl,rfl,rfl,Q,A,P⟩;refine X<|U<|D Y Y<|J Y<|Ay Y (λk=>?_)<|λk=>?_
 .refine I<|X<|Ag<|U<|G Y<|J Y<|Ag ?_
  refine AC (fun n s d c=>n=0/\s=[(0,v),(1,.int .i64 a),(2,.int .i64 b),(3,(VS g)),(8,.int .i64 z),(9,.int .i64 z)]/\h=d/\c=[m])
   0 _ ⟨rfl,rfl,rfl,rfl⟩ Qs ?_
  rintro n s d c ⟨rfl,rfl,rfl,rfl⟩;have f:i<l.length:=Z
  have K:=S.at (i:=i-1) Z f Z;refine X<|X<|BK 14 Cx V Y<|Wm Y<|Wm Y<|Wm Y<|Wm Y<|Dd (t:=21) Y (λj=>?_)<|λj=>?_
  .refine AV (Ap Y Y) Y Y Y Y<|AV (Ap Y Y) Y Y Y Y<|AV (Ap Y Y) Y Y Y Y<|AV (AR (i) (e.rd<|.head _).rd Y B8 A9 Y Y Z Z) Y Y Y Y<|AV (oG Y Kr A9 ((e.rd<|.head _).seg Z)) Y Y Y Y<|AV (Ap Y Y) Y Y Y Y<|AV (Ap Y Y) Y Y Y Y<|AV (oS Y) Y Y Y Y<|AV (AR (i-1) (e.rd<|.head _).rd Y B8 A9 Y Y Z Z) Y Y Y Y<|AV (oG Y Kr A9 ((e.rd<|.head _).seg Z)) Y Y Y Y<|BB<|Qg (CF Y Y call214 Y<|Rq _ _ _ g B _) Y<|Qg (Dw Y Y Y) Y<|J Y<|B1 Y (λt=>?_)<|λt=>?_
   .exact lj (dd t) K
   .refine C<|D2<|Ad<|G Y<|E (oA Y) Y<|G Y<|Am<|Aq (b-(i+1)) _ Z ⟨i+1,z+1,Y,Y,Y,Y,Z,Z,Z⟩ Qs
  .exfalso;omega
 simp_all [C,CC]
theorem Yo:∀(N:Nat) (l:List CeO) (v:Value) (m:Hp) (p:OLC m v l) (S:IncC l) (a t b:Nat) (hN:b-a<=N) (K:a<t) (O:t<b) (hb:b<=l.length) (hsz:l.length<=1000000) (h:Hp) (g:Nat) (A:Aab h g) {R t' T:Int} (ea:R=a) (et:t'=t) (eb:T=b),
  FnT prog 263 #[v,.w R,.w t',.w T,(VS g)] h [m] (λ_ f d=>h=f/\d=[m]):=by
 intro N
 induction N with
 | zero=>omega
 | succ N ih=>
 intro l v m p S a t b hN K O hb hsz h g A R t' T ea et eb;subst ea et eb;refine Au func263 ntmps263 Y Y<|λ_ _=>X<|U<|D Y Y<|E (oS Y) Y<|J Y<|Ay Y (λh1=>?_)<|λh1=>?_
 ·-- one element on the left
  obtain rfl:t=a+1:=Z
  refine U<|D Y Y<|BF<|G Y<|J Y<|X<|Ag ?_
  refine AC (λn s f d=>∃(j:Nat),n=j-(a+1)/\s=[(0,v),(1,.w a),(4,(VS g)),(10,.w ((a+1:Nat):Int)),(11,.w j)]/\h=f/\d=[m]/\a+1<=j/\j<=b)
   (b-(a+1)) _ ⟨b,rfl,rfl,rfl,rfl,Z,Z⟩ Qs ?_
  rintro n s f d ⟨j,rfl,rfl,rfl,rfl,hij,hj⟩;refine X<|U<|D Y Y<|J Y<|Ay Y (λu=>?_)<|λu=>?_
  .have M:=S.at (i:=a) (j:=(a+1+j)/2) Z Z Z;refine I<|Ag<|U<|D Y Y<|E (oA Y) Y<|E (Eu Y U3 Tk Y) Y<|E (GW (n:=1) Y Y Y Z) Y<|E (Eu Y Tk U3 Y) Y<|J Y ?_;rw[Rt (a+1) j Z];refine X<|BK 9 Cx V Y<|Wm Y<|Wm Y<|Wm Y<|BS (AR ((a+1+j)/2) (p.rd<|.head _).rd Y B8 A9 Y Y Z Z) Y Y<|BS (oG Y Kr A9 ((p.rd<|.head _).seg Z)) Y Y<|Wm Y<|Wm Y<|BS (AR (a) (p.rd<|.head _).rd Y B8 A9 Y Y Z Z) Y Y<|BS (oG Y Kr A9 ((p.rd<|.head _).seg Z)) Y Y<|BB<|E (CF Y Y call214 Y<|Rq _ _ _ g A _) Y<|J Y<|B1 Y (λz=>?_)<|λz=>?_
   .grind
   .refine Ad<|D Y Y<|Am<|Ai<|Aq ((a+1+j)/2-(a+1)) _ Z ⟨(a+1+j)/2,Y,Y,Y,Y,Z,Z⟩ Qs
  .refine C<|Ab<|X<|U<|G Y<|J Y<|Ag ?_
   refine AC (fun n s f d=>n=0/\s=[(0,v),(10,.int .i64 ((a+1:Nat):Int)),(13,.int .i64 a)]/\h=f/\d=[m])
    0 _ ⟨rfl,rfl,rfl,rfl⟩ Qs ?_
   rintro n s f d ⟨rfl,rfl,rfl,rfl⟩;refine X<|U<|D Y Y<|E (oS Y) Y<|J Y<|Ay Y (λx=>?_)<|λx=>?_
   .omega
   .refine C<|Ab<|Aj<|Ae<|La Y (⟨Y,Y⟩)
 .refine I<|X<|U<|D Y Y<|E (oS Y) Y<|J Y<|Ay Y (λh2=>?_)<|λh2=>?_
  ·-- one element on the right
   obtain rfl:b=t+1:=Z
   refine U<|D Y Y<|BF<|G Y<|J Y<|X<|Ag ?_
   refine AC (λn s f d=>∃(i:Nat),n=t-i/\s=[(0,v),(1,.w a),(2,.w t),(4,(VS g)),(14,.w i),(15,.w t)]/\h=f/\d=[m]/\i<=t)
    (t-a) _ ⟨a,rfl,rfl,rfl,rfl,Z⟩ Qs ?_
   rintro n s f d ⟨i,rfl,rfl,rfl,rfl,hj⟩;refine X<|U<|D Y Y<|J Y<|Ay Y (λu=>?_)<|λu=>?_
   .have M:=S.at (i:=(i+t)/2) (j:=t) Z Z Z;refine I<|Ag<|U<|D Y Y<|E (oA Y) Y<|E (Eu Y U3 Tk Y) Y<|E (GW (n:=1) Y Y Y Z) Y<|E (Eu Y Tk U3 Y) Y<|J Y ?_;rw[Rt i t Z];refine X<|BK 9 Cx V Y<|Wm Y<|Wm Y<|Wm Y<|BS (AR (t) (p.rd<|.head _).rd Y B8 A9 Y Y Z Z) Y Y<|BS (oG Y Kr A9 ((p.rd<|.head _).seg Z)) Y Y<|Wm Y<|Wm Y<|BS (AR ((i+t)/2) (p.rd<|.head _).rd Y B8 A9 Y Y Z Z) Y Y<|BS (oG Y Kr A9 ((p.rd<|.head _).seg Z)) Y Y<|BB<|E (CF Y Y call214 Y<|Rq _ _ _ g A _) Y<|G Y<|J Y<|B1 Y (λz=>?_)<|λz=>?_
    .refine Ad<|G Y<|E (oA Y) Y<|G Y<|Am<|Ai<|Aq (t-((i+t)/2+1)) _ Z ⟨(i+t)/2+1,Y,Y,Y,Y,Z⟩ Qs
    grind
   .obtain rfl:i=t:=Z
    refine C<|Ab<|X<|U<|G Y<|J Y<|Ag ?_
    refine AC (fun n s f d=>n=0/\s=[(0,v),(14,.int .i64 i),(17,.int .i64 i)]/\h=f/\d=[m])
     0 _ ⟨rfl,rfl,rfl,rfl⟩ Qs ?_
    rintro n s f d ⟨rfl,rfl,rfl,rfl⟩;refine X<|U<|D Y Y<|J Y<|Ay Y (λx=>?_)<|λx=>?_
    .omega
    .refine C<|Ab<|Aj<|Ae<|La Y (⟨Y,Y⟩)
  .refine I<|U<|D Y Y<|E (oA Y) Y<|E (Eu Y U3 Tk Y) Y<|E (GW (n:=1) Y Y Y Z) Y<|E (Eu Y Tk U3 Y) Y<|J Y ?_;rw[Rt a b Z];obtain⟨c,L⟩:∃c,c=(a+b)/2:=⟨_,Y⟩
   rw[<-L];refine U<|D Y Y<|E (oA Y) Y<|G Y<|BF<|G Y<|J Y<|Bu (λs f d=>∃(y k:Nat),s=[(0,v),(1,.w a),(2,.w t),(3,.w b),(4,(VS g)),(18,.w c),(19,.w ((c:Int)+t)),(20,.w y),(21,.w k)]/\h=f/\d=[m]/\((c<t/\y+b=c+t/\k=c)\/(t<=c/\y=a/\k=t))) ?_<|λs h ms B=>?_
   .refine X<|Ad<|D Y Y<|J Y<|Ay Y (λhgt=>?_)<|λhgt=>?_
    .refine X<|Ad<|D Y Y<|E (oS Y) Y<|G Y<|HM<|D Y Y<|Am ?_;have e:(c:Int)+t-b=((c+t-b:Nat):Int):=Z
     rw[e];exact AI _ ⟨c+t-b,c,Y,Y,Y,.inl ⟨Z,Z,Y⟩⟩ Qs
    .refine X<|Ad<|D Y Y<|HM<|D Y Y<|Am<|AI _ ⟨a,t,Y,Y,Y,.inr ⟨Z,Y,Y⟩⟩ Qs
   .obtain⟨y,k,rfl,rfl,rfl,hc⟩:=B;have hc1:y<=k/\k<=c/\k<=t/\(k=c\/k=t)/\c+t<=y+b:=Z
    clear hc;refine U<|G Y<|E (oS Y) Y<|J Y<|X<|Ag ?_
    refine AC (λn s f d=>∃(i:Nat),n=k-i/\s=[(0,v),(1,.w a),(2,.w t),(3,.w b),(4,(VS g)),(18,.w c),(19,.w ((c:Int)+t)),(20,.w i),(21,.w k),(22,.w ((c:Int)+t-1))]/\h=f/\d=[m]/\y<=i/\i<=k)
     (k-y) _ ⟨y,rfl,rfl,rfl,rfl,Z,Z⟩ Qs ?_
    rintro n s f d ⟨i,rfl,rfl,rfl,rfl,hi,hj⟩;refine X<|U<|D Y Y<|J Y<|Ay Y (λu=>?_)<|λu=>?_
    .have M:=S.at (i:=(i+k)/2) (j:=c+t-1-(i+k)/2) Z Z Z;refine I<|Ag<|U<|D Y Y<|E (oA Y) Y<|E (Eu Y U3 Tk Y) Y<|E (GW (n:=1) Y Y Y Z) Y<|E (Eu Y Tk U3 Y) Y<|J Y ?_;rw[Rt i k Z];refine X<|BK 11 Cx V Y<|Wm Y<|Wm Y<|Wm Y<|Wm Y<|BS (oS Y) Y Y<|BS (AR (c+t-1-(i+k)/2) (p.rd<|.head _).rd Y B8 A9 Y Y Z Z) Y Y<|BS (oG Y Kr A9 ((p.rd<|.head _).seg Z)) Y Y<|Wm Y<|Wm Y<|BS (AR ((i+k)/2) (p.rd<|.head _).rd Y B8 A9 Y Y Z Z) Y Y<|BS (oG Y Kr A9 ((p.rd<|.head _).seg Z)) Y Y<|BB<|E (CF Y Y call214 Y<|Rq _ _ _ g A _) Y<|G Y<|J Y<|B1 Y (λz=>?_)<|λz=>?_
     .refine Ad<|G Y<|E (oA Y) Y<|G Y<|Am<|Ai<|Aq (k-((i+k)/2+1)) _ Z ⟨(i+k)/2+1,Y,Y,Y,Y,Z,Z⟩ Qs
     grind
    .obtain rfl:i=k:=Z
     obtain⟨e,he⟩:∃e,e=c+t-i:=⟨_,Y⟩
     have he2:(c:Int)+t-i=(e:Int):=Z
     refine C<|Ab<|U<|D Y Y<|E (oS Y) Y<|J Y ?_;rw[he2];refine Bu (λs f d=>s=[(0,v),(1,.w a),(3,.w b),(4,(VS g)),(18,.w c),(20,.w i),(24,.w e)]/\h=f/\d=[m]) ?_<|λs h ms B=>?_
     .refine X<|Ad<|D Y Y<|D Y Y<|AY (t:=181) Y (λP=>?_)<|λP=>?_
      .refine Qg (Ap Y Y) Y<|Qg (Ap Y Y) Y<|Qg (Dw Y Y Y) Y<|J Y<|Ay Y (λQ=>?_)<|λQ=>?_
       .omega
       .refine Ah<|AI _ ⟨Y,Y,Y⟩ Qs
      .refine DM Y Y<|Qk Y<|J Y<|AM Y<|Ah<|AI _ ⟨Y,Y,Y⟩ Qs
     .obtain⟨rfl,rfl,rfl⟩:=B;refine Bu (λs f d=>s=[(0,v),(3,.w b),(4,(VS g)),(18,.w c),(24,.w e)]/\h=f/\d=[m]) ?_<|λs h ms B=>?_
      .refine X<|Ad<|D Y Y<|D Y Y<|AY (t:=195) Y (λP=>?_)<|λP=>?_
       .refine Qg (Ap Y Y) Y<|Qg (Ap Y Y) Y<|Qg (Dw Y Y Y) Y<|J Y<|Ay Y (λQ=>?_)<|λQ=>?_
        .refine Ad<|D Y Y<|D Y Y<|G Y<|AE (pre:=[m]) Y call263 Y (ih l v m p S a i c Z Z Z Z Z h g A Y Y Y) Y Y Y Y<|λr h1 ms1 l1 hF=>?_;obtain⟨rfl,rfl⟩:=hF;refine Am<|AI _ ⟨Y,Y,Y⟩ Qs
        .refine Ah<|AI _ ⟨Y,Y,Y⟩ Qs
       omega
      .obtain⟨rfl,rfl,rfl⟩:=B;refine U<|D Y Y<|D Y Y<|AY (t:=209) Y (λP=>?_)<|λP=>?_
       .refine Qg (Ap Y Y) Y<|Qg (Ap Y Y) Y<|Qg (Dw Y Y Y) Y<|J Y<|Ay Y (λQ=>?_)<|λQ=>?_
        .refine Ad<|D Y Y<|D Y Y<|G Y<|AE (pre:=[m]) Y call263 Y (ih l v m p S c e b Z Z Z Z Z h g A Y Y Y) Y Y Y Y<|λr h1 ms1 l1 hF=>?_;obtain⟨rfl,rfl⟩:=hF;refine Am<|CC Y (⟨Y,Y⟩)
        omega
       .refine DM Y Y<|Qk Y<|J Y<|AM Y<|Ah<|CC Y (⟨Y,Y⟩)
theorem V4(l:List CeO)(v:Value)(m:Hp)(i:OLC m v l)(S:IncC l)(L:l.length<=1000000)(h:Hp)(g:Nat)(j:Aab h g){y:Int}(A:y=l.length) :
  FnT prog 243 #[v,.w y,(VS g)] h [m] (λ_ c b=>h=c/\b=[m]):=by
 subst A;obtain⟨n,K⟩:∃n,n=l.length:=⟨_,Y⟩
 rw[<-K];refine Au func243 ntmps243 Y Y<|λ_ _=>U<|G Y<|BF<|D Y Y<|J Y<|X<|Ag ?_
 refine AC (λq s c b=>∃(a:Nat),q=n-a/\s=[(0,v),(1,.w n),(2,(VS g)),(6,.w 20),(7,.w a),(8,.w ((a:Int)+20))]/\h=c/\b=[m]/\a<=n)
  (n-0) _ ⟨0,rfl,rfl,rfl,rfl,Z⟩ Qs ?_
 rintro q s c b ⟨a,rfl,rfl,rfl,rfl,p⟩;refine X<|U<|D Y Y<|J Y<|Ay Y (λt=>?_)<|λt=>?_
 .refine I<|Ag<|U<|D Y Y<|D Y Y<|AE (pre:=[m]) Y call262 Y (Xl l v m i S a (a+20) Z Z Z h g j Y Z) Y Y Y Y<|λr k e x d=>?_;obtain⟨rfl,rfl⟩:=d;refine BF<|D Y Y<|HM<|D Y Y<|E (oA Y) Y<|G Y<|Am<|Ai<|Aq (n-(a+20)) _ Z ⟨a+20,Y,Y,Y,Y,Z⟩ Qs
 .refine C<|Ab<|U<|D Y Y<|D Y Y<|AE (pre:=[m]) Y call262 Y (Xl l v m i S a n Z Z Z h g j Y Y) Y Y Y Y<|λr k e x d=>?_;obtain⟨rfl,rfl⟩:=d;refine Ao<|Ag ?_
  refine AC (λq s c b=>∃(w:Nat),q=n-w/\s=[(0,v),(1,.w n),(2,(VS g)),(6,.w w)]/\h=c/\b=[m]/\1<=w/\w<=4000000)
   (n-20) _ ⟨20,rfl,rfl,rfl,rfl,Z,Z⟩ Qs ?_
  rintro q s c b ⟨w,rfl,rfl,rfl,rfl,O,P⟩;refine X<|U<|D Y Y<|J Y<|Ay Y (λu=>?_)<|λu=>?_
  .refine I<|Ag<|U<|G Y<|E (oM Y) Y<|G Y<|J Y<|X<|Ag ?_
   refine AC (λq s c b=>∃(a:Nat) (z:Int),q=n-a/\s=[(0,v),(1,.w n),(2,(VS g)),(6,.w w),(7,.w a),(8,.w z)]/\h=c/\b=[m]/\z=a+2*w/\a<=n)
    (n-0) _ ⟨0,2*(w:Int),rfl,rfl,rfl,rfl,Z,Z⟩ Qs ?_
   rintro q s c b ⟨a,z,rfl,rfl,rfl,rfl,rfl,p⟩;refine X<|U<|D Y Y<|J Y<|Ay Y (λf=>?_)<|λf=>?_
   .refine I<|Ag<|U<|D Y Y<|D Y Y<|E (oA Y) Y<|D Y Y<|AE (pre:=[m]) Y call263 Y (Yo (2*w) l v m i S a (a+w) (a+2*w) Z Z Z Z Z h g j Y Z Z) Y Y Y Y<|λr k e x d=>?_;obtain⟨rfl,rfl⟩:=d;refine BF<|D Y Y<|HM<|D Y Y<|E (oM Y) Y<|E (oA Y) Y<|G Y<|Am<|Ai<|Aq (n-(a+2*w)) _ Z ⟨a+2*w,(a:Int)+2*w+2*w,Y,Y,Y,Y,Z,Z⟩ Qs
   .refine C<|Ab<|X<|U<|D Y Y<|E (oA Y) Y<|G Y<|BF<|D Y Y<|J Y<|Ay Y (λB=>?_)<|λB=>?_
    .refine Ad<|D Y Y<|D Y Y<|G Y<|AE (pre:=[m]) Y call263 Y (Yo (2*w) l v m i S a (a+w) n Z Z Z Z Z h g j Y Z Y) Y Y Y Y<|λr k e x d=>?_;obtain⟨rfl,rfl⟩:=d;refine HM<|G Y<|E (oM Y) Y<|G Y<|Am<|Ai<|Aq (n-w*2) _ Z ⟨w*2,Y,Y,Y,Y,Z,Z⟩ Qs
    .refine I<|Ad<|G Y<|E (oM Y) Y<|G Y<|Am<|Ai<|Aq (n-w*2) _ Z ⟨w*2,Y,Y,Y,Y,Z,Z⟩ Qs
  simp_all [C,CC]
theorem Ns(l:List CeO)(v:Value)(m:Hp)(c:OLC m v l)(S:IncC l)(a:l.length<=1000000)(h:Hp)(g:Nat)(f:Aab h g) :
  FnT prog 213 #[v,(VS g)] h [m] (λ_ d b=>h=d/\b=[m]):=by
 refine Au func213 ntmps213 Y Y<|λ_ _=>Ad<|D Y Y<|E (Aw (c.rd<|.head _).rd Y B8 Y) Y<|G Y<|AE (pre:=[m]) Y call243 Y (V4 l v m c S a h g f Y) Y Y Y Y<|λr k j n e=>?_;simp_all [Am,CC]
abbrev OLD(m:Hp)(v:Value)(l:List SdE):Prop:=OwnL cD 2 52 m v l
abbrev IncD(l:List SdE):Prop:=l.Pairwise λa b=>a.1<=b.1
theorem IncD.at{l:List SdE}(S:IncD l){i j:Nat}(b:i<l.length)(c:j<l.length)(h:i<=j):¬c3 l[j].1 l[i].1<0:=by
 grind [AfQ,ii,bw]
theorem X0(l:List SdE)(v:Value)(m:Hp)(e:OLD m v l)(S:IncD l)(a b:Nat)(y:a<=b)(O:b<=l.length)(L:l.length<=20)(h:Hp)(g:Nat)(B:Acv h g){p r:Int}(u:p=a)(x:r=b) :
  FnT prog 264 #[v,.w p,.w r,(cvD g)] h [m] (λ_ d c=>h=d/\c=[m]):=by
 subst u x;refine Au func264 ntmps264 Y Y<|λ_ _=>U<|G Y<|E (oA Y) Y<|J Y<|Ag ?_
 refine AC (λn s d c=>∃(i:Nat) (z:Int),n=b-i/\s=[(0,v),(1,.w a),(2,.w b),(3,(cvD g)),(8,.w z)]/\h=d/\c=[m]/\z=i/\a<i/\i<=4611686018427387905)
  _ _ ⟨a+1,(a:Int)+1,rfl,rfl,rfl,rfl,Z,Z,Z⟩ Qs ?_
 rintro n s d c ⟨i,z,rfl,rfl,rfl,rfl,Q,A,P⟩;refine X<|U<|D Y Y<|J Y<|Ay Y (λk=>?_)<|λk=>?_
 .refine I<|X<|Ag<|U<|G Y<|J Y<|Ag ?_
  refine AC (fun n s d c=>n=0/\s=[(0,v),(1,.int .i64 a),(2,.int .i64 b),(3,(cvD g)),(8,.int .i64 z),(9,.int .i64 z)]/\h=d/\c=[m])
   0 _ ⟨rfl,rfl,rfl,rfl⟩ Qs ?_
  rintro n s d c ⟨rfl,rfl,rfl,rfl⟩;have f:i<l.length:=Z
  have K:=S.at (i:=i-1) Z f Z;refine X<|X<|BK 14 Cx V Y<|Wm Y<|Wm Y<|Wm Y<|Wm Y<|Dd (t:=21) Y (λj=>?_)<|λj=>?_
  .refine AV (Ap Y Y) Y Y Y Y<|AV (Ap Y Y) Y Y Y Y<|AV (Ap Y Y) Y Y Y Y<|AV (AR (i) (e.rd<|.head _).rd Y Di B5 Y Y Z Z) Y Y Y Y<|AV (oG Y To B5 ((e.rd<|.head _).seg Z)) Y Y Y Y<|AV (Ap Y Y) Y Y Y Y<|AV (Ap Y Y) Y Y Y Y<|AV (oS Y) Y Y Y Y<|AV (AR (i-1) (e.rd<|.head _).rd Y Di B5 Y Y Z Z) Y Y Y Y<|AV (oG Y To B5 ((e.rd<|.head _).seg Z)) Y Y Y Y<|BB<|Qg (CF Y Y call218 Y<|AgE _ _ _ g B _) Y<|Qg (Dw Y Y Y) Y<|J Y<|B1 Y (λt=>?_)<|λt=>?_
   .exact lj (dd t) K
   .refine C<|D2<|Ad<|G Y<|E (oA Y) Y<|G Y<|Am<|Aq (b-(i+1)) _ Z ⟨i+1,z+1,Y,Y,Y,Y,Z,Z,Z⟩ Qs
  .exfalso;omega
 .refine C<|CC Y (⟨Y,Y⟩)
theorem Xc(l:List SdE)(v:Value)(m:Hp)(j:OLD m v l)(S:IncD l)(z:l.length<=20)(h:Hp)(g:Nat)(k:Acv h g){p:Int}(t:p=l.length) :
  FnT prog 244 #[v,.w p,(cvD g)] h [m] (λ_ c b=>h=c/\b=[m]):=by
 subst t;obtain⟨n,y⟩:∃n,n=l.length:=⟨_,Y⟩
 rw[<-y];refine Au func244 ntmps244 Y Y<|λ_ _=>U<|G Y<|BF<|D Y Y<|J Y<|X<|Ag ?_
 refine AC (λq s c b=>∃(a:Nat),q=n-a/\s=[(0,v),(1,.w n),(2,(cvD g)),(6,.w 20),(7,.w a),(8,.w ((a:Int)+20))]/\h=c/\b=[m]/\a<=n)
  (n-0) _ ⟨0,rfl,rfl,rfl,rfl,Z⟩ Qs ?_
 rintro q s c b ⟨a,rfl,rfl,rfl,rfl,x⟩;refine X<|U<|D Y Y<|J Y<|Ay Y (λe=>?_)<|λe=>?_
 .refine I<|Ag<|U<|D Y Y<|D Y Y<|AE (pre:=[m]) Y call264 Y (X0 l v m j S a (a+20) Z Z Z h g k Y Z) Y Y Y Y<|λr u i B d=>?_;obtain⟨rfl,rfl⟩:=d;refine BF<|D Y Y<|HM<|D Y Y<|E (oA Y) Y<|G Y<|Am<|Ai<|Aq (n-(a+20)) _ Z ⟨a+20,Y,Y,Y,Y,Z⟩ Qs
 .refine C<|Ab<|U<|D Y Y<|D Y Y<|AE (pre:=[m]) Y call264 Y (X0 l v m j S a n Z Z Z h g k Y Y) Y Y Y Y<|λr u i B d=>?_;obtain⟨rfl,rfl⟩:=d;refine Ao<|Ag ?_
  refine AC (fun q s c b=>q=0/\s=[(0,v),(1,.int .i64 n),(2,(cvD g)),(6,.int .i64 20)]/\h=c/\b=[m])
   0 _ ⟨rfl,rfl,rfl,rfl⟩ Qs ?_
  rintro q s c b ⟨rfl,rfl,rfl,rfl⟩;refine X<|U<|D Y Y<|J Y<|Ay Y (λf=>?_)<|λf=>?_
  .exfalso;omega
  simp_all [C,CC]
theorem Ox(l:List SdE)(v:Value)(m:Hp)(c:OLD m v l)(S:IncD l)(a:l.length<=20)(h:Hp)(g:Nat)(f:Acv h g) :
  FnT prog 217 #[v,(cvD g)] h [m] (λ_ d b=>h=d/\b=[m]):=by
 refine Au func217 ntmps217 Y Y<|λ_ _=>Ad<|D Y Y<|E (Aw (c.rd<|.head _).rd Y Di Y) Y<|G Y<|AE (pre:=[m]) Y call244 Y (Xc l v m c S a h g f Y) Y Y Y Y<|λr k j n e=>?_;simp_all [Am,CC]
theorem Y7(l:List CeO)(v:Value)(h:Hp)(a:RdL WY 3 h [] v l)(n:l.length<=1000000):FnT prog 212 #[v] h [] (λx f c=>h=f/\∃m,c=[m]/\OwnL WY 3 50 m x l):=by
 refine Au func212 ntmps212 Y Y<|λ_ _=>U<|J Y<|X<|U<|G Y<|E (OP a.rd.any Y B8 Y Y) Y<|Ao<|B1 Y (λe=>?_)<|λe=>?_
 .have g:=Lw a.rd e;obtain rfl:l=[]:=dw g;refine U<|J Y<|Aj<|Ae<|Se<|Ar Y Y (⟨Y,_,Y,OwnL.nil SY⟩)
 .refine I<|U ?_;refine AX [] [] [] rfl B8 A9 rfl Z V (by repeat (first|exact fu|refine⟨⟨by first|rfl|exact(a.rd.any).cells|exact Rd.cells ‹_›|exact(RdL.rd ‹_›).cells,rfl,rfl⟩,?_⟩)) rfl rfl rfl rfl<|λd=>?_;refine G rfl ?_;have i:OwnL WY 3 50 (BE d 50 []) (.slice (some ⟨d,0,none⟩) 0 0) []:=OwnL.blk (l:=([]:List CeO)) 0 SY rfl Z;refine AL 0 i a.any rfl B8 A9 rfl Z rfl rfl rfl AeL (by simp;omega) (by simp;omega) rfl rfl rfl<|λp k b=>?_;refine G rfl<|Ao<|Aj<|Ar rfl rfl (⟨rfl,k,rfl,b⟩)
theorem ZY(l:List SdE)(v:Value)(h:Hp)(a:RdL cD 2 h [] v l)(n:l.length<=1000000):FnT prog 216 #[v] h [] (λx f c=>h=f/\∃m,c=[m]/\OwnL cD 2 52 m x l):=by
 refine Au func216 ntmps216 Y Y<|λ_ _=>U<|J Y<|X<|U<|G Y<|E (OP a.rd.any Y Di Y Y) Y<|Ao<|B1 Y (λe=>?_)<|λe=>?_
 .have g:=Lw a.rd e;obtain rfl:l=[]:=dw g;refine U<|J Y<|Aj<|Ae<|Se<|Ar Y Y (⟨Y,_,Y,OwnL.nil GJ⟩)
 .refine I<|U ?_;refine AX [] [] [] rfl Di B5 rfl Z V (by repeat (first|exact fu|refine⟨⟨by first|rfl|exact(a.rd.any).cells|exact Rd.cells ‹_›|exact(RdL.rd ‹_›).cells,rfl,rfl⟩,?_⟩)) rfl rfl rfl rfl<|λd=>?_;refine G rfl ?_;have i:OwnL cD 2 52 (BE d 52 []) (.slice (some ⟨d,0,none⟩) 0 0) []:=OwnL.blk (l:=([]:List SdE)) 0 GJ rfl Z;refine AL 0 i a.any rfl Di B5 rfl Z rfl rfl rfl No (by simp;omega) (by simp;omega) rfl rfl rfl<|λp k b=>?_;refine G rfl<|Ao<|Aj<|Ar rfl rfl (⟨rfl,k,rfl,b⟩)
theorem WK(l:List CeO)(v:Value)(h:Hp)(a:RdL WY 3 h [] v l)(g:l.length<=1000000)(S:IncC l):FnT prog 168 #[v,fkC] h [] (λx j e=>h.le j/\∃m,e=[m]/\OLC m x l):=by have o1:=a.rd.one;refine Au func168 ntmps168 Y Y<|λ_ _=>U<|AK [_] Y Y ξ Y Y Y<|λf=>J Y<|AH λb i k=>?_;have n:Aab b f:=λs=>Seg.all k 0 _ Y s;have a:=a.up i;refine U<|G Y<|Qc call212 Y (Y7 l v b a g)<|λr z t B c=>?_;obtain⟨rfl,m,rfl,d⟩:=c;have y:=d.o1;refine G Y<|BF<|G Y<|E (BI Y Y Y) Y<|AE (pre:=[m]) Y call213 Y (Ns l r m d S g b f n) Y Y Y Y<|λx A u K c=>?_;obtain⟨rfl,rfl⟩:=c;refine BF<|G Y<|J Y<|Aj<|Ar Y Y (⟨i,m,Y,d⟩)
theorem Wr(l:List SdE)(v:Value)(h:Hp)(a:RdL cD 2 h [] v l)(n:l.length<=20)(S:IncD l):FnT prog 170 #[v,fkD] h [] (λx i e=>h.le i/\∃m,e=[m]/\OLD m x l):=by have o1:=a.rd.one;refine Au func170 ntmps170 Y Y<|λ_ _=>U<|AK [_] Y Y ξ Y Y Y<|λf=>J Y<|AH λb g j=>?_;have k:Acv b f:=λs=>Seg.all j 0 _ Y s;have a:=a.up g;refine U<|G Y<|Qc call216 Y (ZY l v b a Z)<|λr z t B c=>?_;obtain⟨rfl,m,rfl,d⟩:=c;have y:=d.o1;refine G Y<|BF<|G Y<|E (BI Y Y Y) Y<|AE (pre:=[m]) Y call217 Y (Ox l r m d S n b f k) Y Y Y Y<|λx A u K c=>?_;obtain⟨rfl,rfl⟩:=c;refine BF<|G Y<|J Y<|Aj<|Ar Y Y (⟨g,m,Y,d⟩)
def Cl.can(c:Cl):Cl:=⟨c.id,c.dim,CS c.sd⟩
def JO(x y:Cl):Bool:=decide (x.id<=y.id)
def ordF(l:List Cl):List Cl:=if h:l.length<=1 then l.map Cl.can else
 List.merge (ordF (l.take (l.length/2))) (ordF (l.drop (l.length/2))) JO
termination_by l.length
decreasing_by
 .rw[bf];omega
 .rw[br];omega
theorem Fl{l:List Cl}(h:l.length<=1):ordF l=l.map Cl.can:=by grind [ordF]
theorem Ow{l:List Cl}(h:¬l.length<=1):ordF l=List.merge (ordF (l.take (l.length/2))) (ordF (l.drop (l.length/2))) JO:=by grind [ordF]
theorem Ed:∀(n:Nat) (l:List Cl),l.length<=n->(ordF l).Perm (l.map Cl.can)
 | 0,l,h=>by rw[Fl Z]
 | n+1,l,h=>by
  by_cases a:l.length<=1
  .rw[Fl a]
  .rw[Ow a];have b:=Ed n (l.take (l.length/2)) (by rw[bf];omega);have c:=Ed n (l.drop (l.length/2)) (by rw[br];omega);grind [List.merge_perm_append,JO,trans,List.take_append_drop]
theorem HD(l:List Cl):(ordF l).length=l.length:=by
 have:=(Ed l.length l (ak _)).length_eq
 simp_all
theorem FO:∀(n:Nat) (l:List Cl),l.length<=n->(ordF l).Pairwise (λx y=>x.id<=y.id)
 | 0,l,h=>by grind [dw,Fl,List.Pairwise.nil]
 | n+1,l,h=>by
  by_cases f:l.length<=1
  .rw[Fl f]
   match l,f with
   | [],_=>simp_all
   | [a],_=>simp_all
  .rw[Ow f];have g:=FO n (l.take (l.length/2)) (by rw[bf];omega);have i:=FO n (l.drop (l.length/2)) (by rw[br];omega)
   grind [List.pairwise_merge,JO,bp]
theorem AfG(a b:Cl)(l c:List Cl)(h:b.id<a.id):List.merge (a::l) (b::c) JO=b::List.merge (a::l) c JO:=by grind [JO,dx,List.merge]
theorem AeZ(a b:Cl)(l c:List Cl)(h:¬b.id<a.id):List.merge (a::l) (b::c) JO=a::List.merge l (b::c) JO:=by grind [JO,bp,List.merge]
theorem RdC.part{h:Hp}{v:Value}{l:List Ce}(R:RdC h v l){i j:Nat}(c:i<=j)(d:j<=l.length):RdC h (C6 3 v i j) ((l.drop i).take (j-i)):=⟨R.q.sub_ c d,λa b=>R.s a (jd (ge b))⟩
theorem ND:∀(N:Nat) (l:List Ce) (v:Value) (h:Hp),l.length<N->N<=1000000->(∀a∈l,a.c.sd.length<=100000)->RdC h v l->FnT prog 126 #[v] h [] (λr h' K=>h.le h'/\∃m A,K=[m]/\OwnL cC 3 50 m r A/\A.map Ce.c=ordF (l.map Ce.c)/\∀a∈A,RdL cD 2 h' [] a.v a.c.sd):=by
 intro N
 induction N with
 | zero=>intro l v h hN;omega
 | succ N ih=>
  intro l v h hN hM hs i;have o1:=i.q.rd.one;refine Au func126 ntmps126 Y Y<|λ_ _=>U<|J Y<|X<|U<|G Y<|E (Aw i.q.rd.any Y B8 Y) Y<|J Y<|Ay Y (λh0=>?_)<|λh0=>?_
  .obtain rfl:l=[]:=dw Z;refine BW<|U<|J Y<|Aj<|Ae ?_;exact Ar Y Y (⟨Bk,Hp.emp,[],Y,OwnL.nil D7,by rw[Fl σ];rfl,λa x=>nomatch x⟩)
  .refine I<|X<|U<|G Y<|E (Aw i.q.rd.any Y B8 Y) Y<|J Y<|Ay Y (λh1=>?_)<|λh1=>?_
   .match l,h0,h1,hs,i with
    | [a],_,_,hs,i=>
     have hsa:=i.s a Mh;have osa:=hsa.rd.one;have c0:∀e,Cell h e ((AJ v).add (0*3)) (.w a.c.id):=λe=>(i.q.any (ms:=e)).cell0 (j:=0) σ rfl;have c1:∀e,Cell h e (((AJ v).add (0*3)).add 1) (.w a.c.dim):=λe=>(i.q.any (ms:=e)).cell (j:=0) σ (f:=1) rfl;have c2:∀e,Cell h e (((AJ v).add (0*3)).add 2) a.v:=λe=>(i.q.any (ms:=e)).cell (j:=0) σ (f:=2) rfl;have h01:(0:Nat) < [a].length:=by simp
     refine X<|AS (n:=16) (bs:=[W,W,W,W,W,W,W,W,W,W,W,W,lw,lw,lw,lw]) [W,W,W,W,W,W,W,W,W,W,W,W] Cx V V Y Y<|Qq Y<|Qp Y (BP (0) i.q.rd.any Y B8 A9 Y Y)<|QF B7 Y<|QL Y U3 (c0 _)<|Qq Y<|Qp Y (BP (0) i.q.rd.any Y B8 A9 Y Y)<|QF Co Y<|QL Y U3 (c1 _)<|Qq Y<|Qp Y (BP (0) i.q.rd.any Y B8 A9 Y Y)<|QF BZ Y<|QL Y Di (c2 _)<|Qo 12 Y<|Qc call80 Y (VC a.c.sd a.v h (hs a Mh) hsa)<|λrs h2 ms2 l2 hF=>?_;obtain⟨rfl,mq,rfl,hOq⟩:=hF;refine BX hOq λh3 l3 hRq=>?_;obtain⟨a9,c9,rfl,_⟩:=hRq.rd.ex;refine Qa<|A7 13 25 V Y (by assumption) Y (AQ R7 [.w 0,.w 0,.nl] [(0,_),(1,_),(2,_)] [_,_,_] Y A9 Y Y Qt Y)<|Qo 14 Y<|AB [_,_,_] Y B8 A9 Y ξ Y Y Z Y Y Y<|λg26=>Qa<|Qo 15 Y<|G Y<|Qa<|Qe<|Ab<|Aj ?_;exact Ar Y Y ⟨l3,_,[⟨a.c.can,.slice a9 (CS a.c.sd).length c9⟩],Y,OwnL.blk (g:=g26) (el:=50) (F:=cC) (l:=[⟨a.c.can,.slice a9 (CS a.c.sd).length c9⟩]) 1 D7 Y H,by rw[Fl σ];rfl,λb hb=>by rw[bj.1 hb];exact hRq⟩
   .have hl2:¬l.length<=1:=Z
    obtain⟨k,hk⟩:∃k,l.length/2=k:=⟨_,Y⟩
    have hk1:k<l.length:=Z
    have hk0:0<k:=Z
    have hll:=i.q.len_le;have hR1:RdC h (C6 3 v 0 k) (l.take k):=by have:=i.part (i:=0) (j:=k) Z Z;rwa [js,ix]at this
    have hR2:RdC h (C6 3 v k l.length) (l.drop k):=by have:=i.part (i:=k) (j:=l.length) Z Z;rwa [bm (by rw[br];omega)]at this
    have hkt:Int.tdiv (l.length:Int) 2=(k:Int):=by rw[Int.tdiv_eq_ediv_of_nonneg Z];omega
    refine I<|U<|D Y Y<|E (Aw i.q.rd.any Y B8 Y) Y<|E (Ek Y Y Y Z Z) Y<|E (DW (k) i.q.rd.any Y B8 A9 Y Y Z Z) Y ?_;refine Qc call126 Y (ih (l.take k) _ h (by rw[bf];omega) Z (λa x=>hs a<|ge x) hR1)<|λra h2 ms2 l2 hF=>?_;obtain⟨l2',ma,A,rfl,hOA,hA,P⟩:=hF;refine BX hOA λh3 l3 T=>?_;have P:∀a∈A,RdL cD 2 h3 [] a.v a.c.sd:=λa x=>(P a x).up l3;have hR2:=hR2.up (AD l2 l3);have i:=i.up (AD l2 l3);have oA_:=T.rd.one;refine G Y<|BF<|D Y Y<|E (Aw i.q.rd.any Y B8 Y) Y<|E (Ek Y Y Y Z Z) Y<|E (Dm (k) i.q.rd.any Y B8 A9 Y Y Z Z) Y ?_;refine Qc call126 Y (ih (l.drop k) _ h3 (by rw[br];omega) Z (λa x=>hs a<|jd x) hR2)<|λrb h4 ms4 l4 hF=>?_;obtain⟨l4',mb,B,rfl,hOB,hB,hBs⟩:=hF;refine BX hOB λj l5 hRB=>?_;have l45:=AD l4 l5;have P:∀a∈A,RdL cD 2 j [] a.v a.c.sd:=λa x=>(P a x).up l45;have hBs:∀a∈B,RdL cD 2 j [] a.v a.c.sd:=λa x=>(hBs a x).up l5;have T:=T.up l45;have oB:=hRB.rd.one;have lA:A.length=k:=by have:=bh List.length hA;rw[bb,HD,bb,bf]at this;omega
    have lB:B.length=l.length-k:=by have:=bh List.length hB;rw[bb,HD,bb,br]at this;exact this
    have hmg:ordF (l.map Ce.c)=List.merge (A.map Ce.c) (B.map Ce.c) JO:=by rw[Ow (by rw[bb];exact hl2),hA,hB,bb,hk,List.map_take,List.map_drop]
    refine G Y<|BF<|J Y<|Bu (λs h' K=>∃(p t O:List Ce) (L M vo:Value) (mo:Hp),s=[(3,L),(4,M),(5,vo)]/\j=h'/\K=[mo]/\p.length+t.length+O.length=l.length/\RdL cC 3 j [] L p/\RdL cC 3 j [] M t/\OwnL cC 3 50 mo vo O/\O.map Ce.c++p.map Ce.c++t.map Ce.c=ordF (l.map Ce.c)/\(∀a∈p,RdL cD 2 j [] a.v a.c.sd)/\(∀a∈t,RdL cD 2 j [] a.v a.c.sd)/\∀a∈O,RdL cD 2 j [] a.v a.c.sd) ?_<|λs h e hI=>?_
    .refine Ag<|BW ?_
     refine AC (λq s h' K=>∃(p t O:List Ce) (L M vo:Value) (mo:Hp),q=p.length+t.length/\s=[(3,L),(4,M),(5,vo)]/\j=h'/\K=[mo]/\p.length+t.length+O.length=l.length/\RdL cC 3 j [] L p/\RdL cC 3 j [] M t/\OwnL cC 3 50 mo vo O/\O.map Ce.c++List.merge (p.map Ce.c) (t.map Ce.c) JO=ordF (l.map Ce.c)/\(∀a∈p,RdL cD 2 j [] a.v a.c.sd)/\(∀a∈t,RdL cD 2 j [] a.v a.c.sd)/\∀a∈O,RdL cD 2 j [] a.v a.c.sd)
      (A.length+B.length) _ ⟨A,B,[],_,_,_,Hp.emp,rfl,rfl,rfl,rfl,by rw[lA,lB,fv];omega,T,hRB,OwnL.nil D7,by rw[hmg];rfl,P,hBs,λa x=>nomatch x⟩ Qs ?_
     rintro q s h' K ⟨p,t,O,L,M,vo,mo,rfl,rfl,rfl,rfl,hln,c,d,n,hm,f,g,u⟩;have ova:=c.rd.one;have ovb:=d.rd.one;have ovo:=n.o1;refine X<|U<|G Y<|E (Aw c.rd.any Y B8 Y) Y<|D Y Y<|AY (t:=42) Y (λhs1=>?_)<|λhs1=>?_
     .refine Qg (Ap Y Y) Y<|Qg (Aw d.rd.any Y B8 Y) Y<|Qg (CE Y Y Y) Y<|J Y<|Ay Y (λhs2=>?_)<|λhs2=>?_
      .obtain⟨a,R,rfl⟩:=List.exists_cons_of_length_pos (l:=p) Z;obtain⟨b,S,rfl⟩:=List.exists_cons_of_length_pos (l:=t) Z;have hA0:0<(a::R).length:=by simp
       have hB0:0<(b::S).length:=by simp
       have oav:=(f a Mh).rd.one;have obv:=(g b Mh).rd.one;have ca:∀e,Cell j e ((AJ L).add (0*3)) (.w a.c.id):=λe=>(c.any (ms:=e)).cell0 (j:=0) hA0 Y;have cb:∀e,Cell j e ((AJ M).add (0*3)) (.w b.c.id):=λe=>(d.any (ms:=e)).cell0 (j:=0) hB0 Y;have ga:∀e,Seg j e ((AJ L).add (0*3)) (cC a):=λe=>(c.any (ms:=e)).seg (j:=0) hA0;have gb:∀e,Seg j e ((AJ M).add (0*3)) (cC b):=λe=>(d.any (ms:=e)).seg (j:=0) hB0;have hA2:RdL cC 3 j [] (C6 3 L 1 (a::R).length) R:=by have:=c.sub_ (i:=1) (j:=(a::R).length) σ (ak _);simpa using this
       have hB2:RdL cC 3 j [] (C6 3 M 1 (b::S).length) S:=by have:=d.sub_ (i:=1) (j:=(b::S).length) σ (ak _);simpa using this
       have oA2:=hA2.rd.one;have oB2:=hB2.rd.one;have hal:(a::R).length=R.length+1:=rfl;have hbl:(b::S).length=S.length+1:=rfl;refine I<|Ag<|X<|BK 8 Cx V Y<|Wm Y<|BS (BP (0) d.rd.any Y B8 A9 Y Y) Y Y<|Wf B7 Y<|Wl Y U3 (cb _)<|Wm Y<|BS (BP (0) c.rd.any Y B8 A9 Y Y) Y Y<|Wf B7 Y<|Wl Y U3 (ca _)<|BB<|J Y<|Ay Y (λhlt=>?_)<|λhlt=>?_
       .refine X<|Ad<|D Y Y<|E (BP (0) d.rd.any Y B8 A9 Y Y) Y<|E (oG Y Kr A9<|gb _) Y<|AB [_,_,_] Y B8 A9 Y ξ Y Y Z Y Y Y<|λg60=>?_;refine Cz 1 n (RdL.one D7 (x:=b) Mh Y) Y B8 A9 Y Z Y Y Y (Hd (l:=[b]) (λy z=>by rw[bj.1 z];exact g b Mh)) (by(try simp only[ae]);omega) (by(try simp only[ae]);omega) rfl rfl rfl<|λv6 m6 Q=>?_;have ov6:=Q.o1;refine G Y<|HM<|G Y<|E (Dm (1) d.rd.any Y B8 A9 Y Y Z Z) Y<|G Y<|Am<|Ai<|AU ?_;exact Aq ((a::R).length+S.length) _ Z ⟨a::R,S,O++[b],L,_,v6,m6,Y,Y,Y,Y,by rw[ag,ae];omega,c,hB2,Q,by rw[cz,<-hm];show _++[b.c]++_=_++List.merge (a.c::_) (b.c::_) JO;rw[AfG _ _ _ _ hlt,du];rfl,f,λy z=>g y (am _ z),λy z=>by rcases bi.1 z with h|h;exact u y h;rw[bj.1 h];exact g b Mh⟩ Qs
       .refine X<|Ad<|D Y Y<|E (BP (0) c.rd.any Y B8 A9 Y Y) Y<|E (oG Y Kr A9<|ga _) Y<|AB [_,_,_] Y B8 A9 Y ξ Y Y Z Y Y Y<|λg68=>?_;refine Cz 1 n (RdL.one D7 (x:=a) Mh Y) Y B8 A9 Y Z Y Y Y (Hd (l:=[a]) (λy z=>by rw[bj.1 z];exact f a Mh)) (by(try simp only[ae]);omega) (by(try simp only[ae]);omega) rfl rfl rfl<|λv6 m6 Q=>?_;have ov6:=Q.o1;refine G Y<|HM<|G Y<|E (Dm (1) c.rd.any Y B8 A9 Y Y Z Z) Y<|G Y<|Am<|Ai<|AU ?_;exact Aq (R.length+(b::S).length) _ Z ⟨R,b::S,O++[a],_,M,v6,m6,Y,Y,Y,Y,by rw[ag,ae];omega,hA2,d,Q,by rw[cz,<-hm];show _++[a.c]++_=_++List.merge (a.c::_) (b.c::_) JO;rw[AeZ _ _ _ _ hlt,du];rfl,λy z=>f y (am _ z),g,λy z=>by rcases bi.1 z with h|h;exact u y h;rw[bj.1 h];exact f a Mh⟩ Qs
      .obtain rfl:t=[]:=dw Z;refine C ?_;exact AI _ ⟨p,[],O,L,M,vo,mo,Y,Y,Y,hln,c,d,n,by rw[<-hm,du];simp,f,g,u⟩ Qs
     .obtain rfl:p=[]:=dw Z;refine DM Y Y<|Qk Y<|J Y<|AM Y<|C ?_;exact AI _ ⟨[],t,O,L,M,vo,mo,Y,Y,Y,hln,c,d,n,by rw[<-hm];simp,f,g,u⟩ Qs
    .obtain⟨p,t,O,L,M,vo,mo,rfl,rfl,rfl,hln,c,d,n,hm,f,g,u⟩:=hI;have ova:=c.rd.one;have ovb:=d.rd.one;have ovo:=n.o1;refine U<|D Y Y<|Cz 0 n c.any Y B8 A9 Y Z Y Y Y (Hd f) (by(try simp only[ag]);omega) (by(try simp only[ag]);omega) rfl rfl rfl<|λv7 m7 hO7=>G rfl<|Cz 0 hO7 d.any rfl B8 A9 rfl Z rfl rfl rfl (Hd g) (by(try simp only[ag]);omega) (by(try simp only[ag]);omega) rfl rfl rfl<|λv8 m8 hO8=>G rfl<|Ao<|Aj ?_;exact Ar Y Y (⟨AD l2 (AD l3 l45),m8,_,Y,hO8,by rw[cz,cz];exact hm,λy z=>by rcases bi.1 z with h|h;rcases bi.1 h with h|h;exact u y h;exact f y h;exact g y h⟩)
structure CsOk(l:List Ce):Prop where
 n:l.length<=100000
 s:∀a∈l,a.c.sd.length<=100000
theorem P0(l:List Ce)(v:Value)(h:Hp)(f:CsOk l)(b:RdC h v l):FnT prog 75 #[.agg #[v]] h [] (λr e d=>h.le e/\∃m A j,d=[m]/\r=.agg #[j]/\OwnL cC 3 50 m j A/\A.map Ce.c=ordF (l.map Ce.c)/\∀a∈A,RdL cD 2 e [] a.v a.c.sd):=by have o1:=b.q.rd.one;have P:=f.n;refine Au func75 ntmps75 Y Y<|λ_ _=>U<|AK [_] Y Y ξ Y Y Y<|λM=>BJ [.slice none 0 0] Y Bd Y Y<|λO=>Ao<|Ak 1 Y λk i t=>?_;have b:=b.up i;have c:=Seg.all t 0 _ Y;refine U<|Qf Cy Y<|Ql Y B8 (c _)<|Qc call126 Y (ND (l.length+1) l v k Z Z f.s b)<|λQ n B y s=>?_;obtain⟨z,m,A,rfl,g,p,u⟩:=s;obtain⟨K,L,rfl,_⟩:=(g.rd (h:=n) (ms:=[m]) Mh).rd.ex;refine E (AQ AeM [.slice none 0 0] [(0,_)] [_] Y Bd Y Y Qt Y) Y ?_;refine Sa 1 [_] Bd Y (by simp[Value.oneCell']) ?_;refine Ao<|Aj<|BC (vs:=[_]) 1 Y Y CV Y Bd Y Y (⟨N i y,m,A,_,Y,Y,g,p,u⟩)
def uq:Option Int->List Cl->List Cl
 | _,[]=>[]
 | p,a::l=>if p=some a.id then uq (some a.id) l else a::uq (some a.id) l
def SI:Option Int->List Ce->List Ce
 | _,[]=>[]
 | p,a::l=>if p=some a.c.id then SI (some a.c.id) l else a::SI (some a.c.id) l
theorem QW:∀(l:List Ce) (p:Option Int),(SI p l).map Ce.c=uq p (l.map Ce.c)
 :=by intro x;induction x<;>grind [SI,uq]
theorem Rk:∀(l:List Ce) (p:Option Int),∀a∈SI p l,a∈l
 :=by intro x;induction x<;>grind [SI,am,be,Mh]
theorem AdR(l:List Ce)(p:Option Int):(SI p l).length<=l.length:=by
 induction l generalizing p with
 | nil=>exact ak _
 | cons a l ih=>
  grind [SI,de]
theorem U8:∀(l:List Ce) (p:Option Int) (a:Ce),SI p (l++[a])=SI p l++(if((l.getLast?.map λx=>x.c.id).or p)=some a.c.id then [] else [a])
 :=by intro x;induction x<;>grind [SI,Ce]
theorem Adl{l:List Ce}{i:Nat}(c:i<l.length):SI none (l.take (i+1))=SI none (l.take i)++(if h:0<i/\(l[i-1]'Z).c.id=l[i].c.id then [] else [l[i]]):=by
 rw[ap c,U8];grind
def Hk(l:List Cl):List Cl:=uq none (ordF l)
theorem NN(l:List Ce)(v:Value)(h:Hp)(hK:CsOk l)(K:RdC h v l):FnT prog 74 #[.agg #[v]] h [] (λr p e=>h.le p/\∃m A,e=[m]/\OwnL cC 3 50 m r A/\A.map Ce.c=Hk (l.map Ce.c)/\∀a∈A,RdL cD 2 p [] a.v a.c.sd):=by
 have o1:=K.q.rd.one;have hn:=hK.n;refine Au func74 ntmps74 Y Y<|λ_ _=>U<|AK [_] Y Y ξ Y Y Y<|λg1=>J Y<|AH λh1 l1 hS=>?_;have K:=K.up l1;have M:=Seg.all hS 0 _ Y;refine U<|Qf Cy Y<|Ql Y B8 (M _)<|Qc call126 Y (ND (l.length+1) l v h1 Z Z hK.s K)<|λr2 h2 ms2 l2 hF=>?_;obtain⟨l2',m,A,rfl,f,hA,t⟩:=hF;refine BX f λB l3 b=>?_;have t:∀a∈A,RdL cD 2 B [] a.v a.c.sd:=λa O=>(t a O).up l3;have lA:A.length=l.length:=by have:=bh List.length hA;rwa [bb,HD,bb]at this
 have o2:=b.rd.one;refine G Y<|BF<|J Y<|X<|U<|J Y<|Ag<|BW ?_
 refine AC (λq s p e=>∃(i:Nat) (k:Value) (j:Hp),q=A.length-i/\s=[(3,r2),(4,k),(5,.w i)]/\B=p/\e=[j]/\i<=A.length/\OwnL cC 3 50 j k (SI none (A.take i)))
  (A.length-0) _ ⟨0,_,Hp.emp,rfl,rfl,rfl,rfl,Z,OwnL.nil D7⟩ Qs ?_
 rintro q s p e ⟨i,k,j,rfl,rfl,rfl,rfl,hi,f⟩;refine X<|U<|D Y Y<|E (Aw b.rd.any Y B8 Y) Y<|J Y<|Ay Y (λx=>?_)<|λx=>?_
 .have c:i<A.length:=De x;have ovo:=f.o1;have oav:=(t _ (aq c)).rd.one;have u:∀n,Seg B n ((AJ r2).add (i*3)) (cC A[i]):=λn=>(b.any (ms:=n)).seg c;have P:=λn=>(b.any (ms:=n)).cell0 c Y;have d:=Adl c;have hul:(SI none (A.take i)).length<=100000:=by have:=AdR (A.take i) none;rw[bf]at this;omega
  refine I<|Bu (λs p e=>∃(k:Value) (j:Hp),s=[(3,r2),(4,k),(5,.w i)]/\B=p/\e=[j]/\OwnL cC 3 50 j k (SI none (A.take (i+1)))) ?_<|λs h n hI=>?_
  .refine Ag<|X<|BK 14 Cx V Y<|Wm Y<|Wm Y<|Wm Y<|Dd (t:=17) Y (λT=>?_)<|λT=>?_
   .rw[dif_neg (λq=>Z)]at d;refine AF Y Y Y Y Y<|AF Y Y Y Y Y<|AF Y Y Y Y Y<|AF Y Y Y Y Y<|AF Y Y Y Y Y<|AF Y Y Y Y Y<|AF Y Y Y Y Y<|AF Y Y Y Y Y<|AF Y Y Y Y Y<|AF Y Y Y Y Y<|AF Y Y Y Y Y<|BB<|Qk Y<|J Y<|A4 Y<|Ad<|D Y Y<|G Y<|E (BP (i) b.rd.any Y B8 A9 Y Y) Y<|E (oG Y Kr A9<|u _) Y<|AB [_,_,_] Y B8 A9 Y ξ Y Y Z Y Y Y<|λL=>?_;refine Cz 1 f (RdL.one D7 (x:=A[i]) Mh Y) Y B8 A9 Y Z Y Y Y (Hd (l:=[A[i]]) (λy hy=>by rw[bj.1 hy];exact t _ (aq c))) (by(try simp only[ae]);omega) (by(try simp only[ae]);omega) rfl rfl rfl<|λv6 m6 g=>?_;rw[<-d]at g;refine G Y<|Am<|Ai<|AU<|AI _ ⟨v6,m6,Y,Y,Y,g⟩ Qs
   .have S:i-1<A.length:=Z
    have Q:=λn=>(b.any (ms:=n)).cell0 S Y;refine AV (Ap Y Y) Y Y Y Y<|AV (Ap Y Y) Y Y Y Y<|AV (BP (i) b.rd.any Y B8 A9 Y Y) Y Y Y Y<|AV (oF B7 Y) Y Y Y Y<|AV (oL Y U3<|P _) Y Y Y Y<|AV (Ap Y Y) Y Y Y Y<|AV (Ap Y Y) Y Y Y Y<|AV (oS Y) Y Y Y Y<|AV (BP (i-1) b.rd.any Y B8 A9 Y Y) Y Y Y Y<|AV (oF B7 Y) Y Y Y Y<|AV (oL Y U3<|Q _) Y Y Y Y<|BB<|Qg (FV Y Y Y) Y<|J Y<|Ay Y (λz=>?_)<|λz=>?_
    .rw[dif_neg (λq=>z q.2.symm)]at d;refine Ad<|D Y Y<|G Y<|E (BP (i) b.rd.any Y B8 A9 Y Y) Y<|E (oG Y Kr A9<|u _) Y<|AB [_,_,_] Y B8 A9 Y ξ Y Y Z Y Y Y<|λL=>?_;refine Cz 1 f (RdL.one D7 (x:=A[i]) Mh Y) Y B8 A9 Y Z Y Y Y (Hd (l:=[A[i]]) (λy hy=>by rw[bj.1 hy];exact t _ (aq c))) (by(try simp only[ae]);omega) (by(try simp only[ae]);omega) rfl rfl rfl<|λv6 m6 g=>?_;rw[<-d]at g;refine G Y<|Am<|Ai<|AU<|AI _ ⟨v6,m6,Y,Y,Y,g⟩ Qs
    ·rw[dif_pos ⟨by omega,by omega⟩,List.append_nil]at d;rw[<-d]at f;refine Ah (Ai ?_);exact AI _ ⟨k,j,rfl,rfl,rfl,f⟩ Qs
  .obtain⟨k,j,rfl,rfl,rfl,f⟩:=hI;refine Ad<|G Y<|E (oA Y) Y<|G Y<|Am<|Aq (A.length-(i+1)) _ Z ⟨i+1,k,j,Y,Y,Y,Y,Z,f⟩ Qs
 .have R:i=A.length:=Z
  rw[R,fz]at f;refine C<|Ab<|U<|G Y<|J Y<|Aj ?_;exact Ar Y Y (⟨N l1 (N l2 l3),j,_,Y,f,by rw[QW,hA];rfl,λa O=>t a (Rk _ _ a O)⟩)
def Nv(l:List Cl)(x:Int):Nat:=(l.takeWhile λc=>decide (c.id<x)).length
def MR(l:List Cl)(x:Int):Int:=if h:Nv l x<l.length then if l[Nv l x].id=x then(Nv l x:Nat) else -1 else -1
theorem Vn{l:List Cl}{x:Int}{k:Nat}(a:k<=l.length)(f:∀j (d:j<l.length),j<k->l[j].id<x)(g:∀a:k<l.length,¬l[k].id<x):Nv l x=k:=by obtain⟨e,_⟩:=Ft (λc:Cl=>decide (c.id<x)) l k a (λj d b=>bp (f j d b)) (λa=>dx (g a));grind [Nv,bf]
theorem Ahf(l:List Ce)(v:Value)(x:Int)(h:Hp)(hn:l.length<=100000)(R:(l.map Ce.c).Pairwise λa b=>a.id<=b.id)(k:RdL cC 3 h [] v l)(T:List Hp):FnV prog 109 #[v,.int .i64 x] h T (.int .i64 (MR (l.map Ce.c) x)):=by
 refine D9 ?_ T;have o1:=k.rd.one
 have A:∀i j (d:i<l.length) (e:j<l.length),i<j->l[i].c.id<=l[j].c.id:=λi j d e O=>by grind [bw]
 refine Au func109 ntmps109 Y Y<|λ_ _=>U<|G Y<|BF<|G Y<|BF<|G Y<|E (Aw k.rd.any Y B8 Y) Y<|J Y<|X<|Ag ?_
 refine AC (λq s S B=>∃(c d:Nat),q=d-c/\s=[(0,v),(1,.w x),(5,.w c),(6,.w d)]/\h=S/\B=[]/\c<=d/\d<=l.length/\(∀j (e:j<l.length),j<c->l[j].c.id<x)/\∀j (e:j<l.length),d<=j->¬l[j].c.id<x)
  (l.length-0) _ ⟨0,l.length,rfl,rfl,rfl,rfl,Z,Z,λj e h=>Z,λj e h=>Z⟩ Qs ?_
 rintro q s S B ⟨c,d,rfl,rfl,rfl,rfl,hlh,hhl,y,t⟩;refine X<|U<|D Y Y<|J Y<|Ay Y (λP=>?_)<|λP=>?_
 .obtain⟨m,hm⟩:∃m,(c+d)/2=m:=⟨_,Y⟩
  have n:m<l.length:=Z
  have Q:((c:Int)+d)/2=(m:Int):=Z
  have M:Cell h [] ((AJ v).add (m*3)) (.w l[m].c.id):=k.cell0 n Y;refine I<|Ag<|U<|D Y Y<|E (oA Y) Y<|E (Ek Y Y Y Z Z) Y<|J Y ?_;rw[Q];refine U<|D Y Y<|E (BP (m) k.rd.any Y B8 A9 Y Y) Y<|Qf B7 Y<|Ql Y U3 (M)<|G Y<|J Y<|Ay Y (λg=>?_)<|λg=>?_
  .refine Ad<|G Y<|E (oA Y) Y<|G Y<|Am<|Ai ?_
   exact Aq (d-(m+1)) _ Z ⟨m+1,d,Y,Y,Y,Y,Z,Z,λj e h=>by
    grind,t⟩ Qs
  .refine Ad<|D Y Y<|Am<|Ai ?_
   exact Aq (m-c) _ Z ⟨c,m,Y,Y,Y,Y,Z,Z,y,λj e h=>by
    grind⟩ Qs
 .obtain rfl:c=d:=Z
  have r:Nv (l.map Ce.c) x=c:=Vn (by simp_all) (λj e h=>by simp_all) (λhk=>by simp_all)
  have f:MR (l.map Ce.c) x=if h:c<l.length then(if l[c].c.id=x then(c:Int) else -1) else -1:=by unfold MR;simp only[r,bb,fd]
  refine C<|Ab<|X<|U<|D Y Y<|E (Aw k.rd.any Y B8 Y) Y<|D Y Y<|AY (t:=31) Y (λz=>?_)<|λz=>?_
  .have u:c<l.length:=De z;have L:Cell h [] ((AJ v).add (c*3)) (.w l[c].c.id):=k.cell0 u Y;rw[dif_pos u]at f;refine Qg (Ap Y Y) Y<|Qg (Ap Y Y) Y<|Qg (BP (c) k.rd.any Y B8 A9 Y Y) Y<|Qg (oF B7 Y) Y<|Qg (oL Y U3<|L) Y<|Qg (Ap Y Y) Y<|Qg (Cq Y Y Y) Y<|J Y<|Ay Y (λp=>?_)<|λp=>?_
   .refine X<|Ad<|G Y<|J Y<|Aj<|Ae ?_;exact Ar Y Y (by rw[f,ah p])
   .refine I<|U<|J Y<|Aj ?_;exact Ar Y Y (by rw[f,af p])
  .rw[dif_neg Z]at f;refine DM Y Y<|DM Y Y<|DM Y Y<|Qk Y<|J Y<|AM Y<|I<|U<|J Y<|Aj ?_;exact Ar Y Y (by rw[f])
def Bw(x:Cl)(i:Nat):Int×Int:=x.sd.getD i (0,0)
theorem Bs{x:Cl}{i:Nat}(a:i<x.sd.length):Bw x i=x.sd[i]:=by simp[Bw,List.getD,a]
def Dt(l:List Cl)(x:Cl)(i:Nat):Prop:=MR l (Bw x i).1<0\/(l.getD (MR l (Bw x i).1).toNat default).dim≠x.dim-1\/(0<i/\(Bw x i).1=(Bw x (i-1)).1)
instance (l:List Cl) (x:Cl) (i:Nat):Decidable (Dt l x i):=by unfold Dt;infer_instance
def Ck(x:Cl):Prop:=(x.dim=0/\0<x.sd.length)\/(x.dim=1/\x.sd.length≠2)\/(1<x.dim/\(x.sd.length<2\/64<x.sd.length))
instance (x:Cl):Decidable (Ck x):=by unfold Ck;infer_instance
def Ca(x:Cl)(i:Nat):Prop:=(Bw x i).2≠1/\(Bw x i).2≠-1
instance (x:Cl) (i:Nat):Decidable (Ca x i):=by unfold Ca;infer_instance
def CW(l:List Cl)(x:Cl):Int:=
 if x.dim<0\/8<x.dim then 21
 else if Ck x then 22
 else if ¬∀i,i<x.sd.length->¬Dt l x i then 22
 else if ¬∀i,i<x.sd.length->¬Ca x i then 23
 else if x.dim=1/\(Bw x 0).2=(Bw x 1).2 then 23 else 0
theorem Re(l:List Cl)(x:Int):MR l x<l.length:=by
 grind [MR]
theorem Ae5(l:List Ce)(x:Ce)(v:Value)(h:Hp)(hn:l.length<=100000)(hxn:x.c.sd.length<=100000)(hxd:-9223372036854775807<=x.c.dim/\x.c.dim<=9223372036854775807)(hst:(l.map Ce.c).Pairwise λa b=>a.id<=b.id)(O:RdL cC 3 h [] v l)(n:RdL cD 2 h [] x.v x.c.sd)(ms:List Hp):FnV prog 127 #[v,.agg #[.int .i64 x.c.id,.int .i64 x.c.dim,x.v]] h ms (.int .i64 (CW (l.map Ce.c) x.c)):=by
 refine D9 ?_ ms;have o1:=O.rd.one;have o2:=n.rd.one;refine Au func127 ntmps127 Y Y<|λ_ _=>U<|AK [_,_,_] Y Y ξ Y Y Y<|λg3=>J Y<|AH λu l1 hS=>?_;have O:=O.up l1;have n:=n.up l1;have f:=Seg.all hS;refine X<|U<|Qf Co Y<|Ql Y U3 (f _ _ Y _)<|D Y Y<|AY (t:=12) Y (λg1=>?_)<|λg1=>?_
 .refine DM Y Y<|Qk Y<|J Y<|A4 Y<|U<|J Y<|Aj<|Ae ?_;exact Ar Y Y (by grind [CW])
 .refine Qg (oF Co Y) Y<|Qg (oL Y U3<|f _ _ Y _) Y<|Qg (CE Y Y Y) Y<|J Y<|Ay Y (λg2=>?_)<|λg2=>?_
  .refine X<|Ad<|J Y<|Aj<|Ae ?_;exact Ar Y Y (by grind [CW])
  .have t:¬(x.c.dim<0\/8<x.c.dim):=Z
   refine I<|U<|Qf BZ Y<|Ql Y Di (f _ _ Y _)<|E (Aw n.rd.any Y Di Y) Y<|J Y<|Bu (λs K p=>s=[(0,v),(3,.pt g3),(5,.w x.c.sd.length)]/\u=K/\p=[]/\¬Ck x.c) ?_<|λs h ms hI=>?_
   .refine X<|Ad<|Qf Co Y<|Ql Y U3 (f _ _ Y _)<|D Y Y<|AY (t:=23) Y (λa1=>?_)<|λa1=>?_
    .refine Qg (Ap Y Y) Y<|Qg (CE Y Y Y) Y<|D Y Y<|AY (t:=27) Y (λa2=>?_)<|λa2=>?_
     .refine DM Y Y<|DM Y Y<|Bh Y Y Y Y Y Y<|Bh Y Y Y Y Y Y<|Qk Y<|D Y Y<|DM Y Y<|DM Y Y<|Bh Y Y Y Y Y Y<|Bh Y Y Y Y Y Y<|Bh Y Y Y Y Y Y<|Bh Y Y Y Y Y Y<|Bh Y Y Y Y Y Y<|Bh Y Y Y Y Y Y<|Qk Y<|J Y<|A4 Y<|U<|J Y<|Aj<|Ae ?_;exact Ar Y Y (by grind [CW,Ck])
     .refine Qg (oF Co Y) Y<|Qg (oL Y U3<|f _ _ Y _) Y<|Qg (Cq Y Y Y) Y<|Qg (Ap Y Y) Y<|AY (t:=31) Y (λa3=>?_)<|λa3=>?_
      .omega
      .refine DM Y Y<|Qg (Bv Y Y Y) Y<|D Y Y<|Qg (oF Co Y) Y<|Qg (oL Y U3<|f _ _ Y _) Y<|Qg (CE Y Y Y) Y<|Qg (Ap Y Y) Y<|AY (t:=40) Y (λa4=>?_)<|λa4=>?_
       .omega
       .refine DM Y Y<|Qk Y<|Bh Y Y Y Y Y Y<|Bh Y Y Y Y Y Y<|Qk Y<|Qg (Bv Y Y Y) Y<|J Y<|AM Y<|Ah ?_;exact AI _ ⟨Y,Y,Y,by grind [Ck]⟩ Qs
    .refine DM Y Y<|D Y Y<|Qg (oF Co Y) Y<|Qg (oL Y U3<|f _ _ Y _) Y<|Qg (Cq Y Y Y) Y<|Qg (Ap Y Y) Y<|AY (t:=31) Y (λa3=>?_)<|λa3=>?_
     .refine Qg (Ap Y Y) Y<|Qg (FV Y Y Y) Y<|Qg (Cf Y Y Y) Y<|D Y Y<|AY (t:=36) Y (λa5=>?_)<|λa5=>?_
      .refine DM Y Y<|DM Y Y<|Bh Y Y Y Y Y Y<|Bh Y Y Y Y Y Y<|Bh Y Y Y Y Y Y<|Bh Y Y Y Y Y Y<|Bh Y Y Y Y Y Y<|Bh Y Y Y Y Y Y<|Qk Y<|J Y<|A4 Y<|U<|J Y<|Aj<|Ae ?_;exact Ar Y Y (by grind [CW,Ck])
      .refine Qg (oF Co Y) Y<|Qg (oL Y U3<|f _ _ Y _) Y<|Qg (CE Y Y Y) Y<|Qg (Ap Y Y) Y<|AY (t:=40) Y (λP=>?_)<|λP=>?_
       .omega
       .refine DM Y Y<|Qk Y<|Bh Y Y Y Y Y Y<|Bh Y Y Y Y Y Y<|Qk Y<|Qg (Bv Y Y Y) Y<|J Y<|AM Y<|Ah ?_;exact AI _ ⟨Y,Y,Y,by grind [Ck]⟩ Qs
     .refine DM Y Y<|Qg (Bv Y Y Y) Y<|D Y Y<|Qg (oF Co Y) Y<|Qg (oL Y U3<|f _ _ Y _) Y<|Qg (CE Y Y Y) Y<|Qg (Ap Y Y) Y<|AY (t:=40) Y (λP=>?_)<|λP=>?_
      .refine Qg (Ap Y Y) Y<|Qg (Dw Y Y Y) Y<|Qg (Ap Y Y) Y<|AY (t:=43) Y (λa7=>?_)<|λa7=>?_
       .refine DM Y Y<|Qg (Cf Y Y Y) Y<|Qg (Cf Y Y Y) Y<|J Y<|A4 Y<|U<|J Y<|Aj<|Ae ?_;exact Ar Y Y (by unfold CW;rw[af t,ah (by unfold Ck;omega)])
       .refine Qg (Ap Y Y) Y<|Qg (CE Y Y Y) Y<|Qg (Bv Y Y Y) Y<|Qg (Cf Y Y Y) Y<|J Y<|Ay Y (λa8=>?_)<|λa8=>?_
        .refine X<|Ad<|J Y<|Aj<|Ae ?_;exact Ar Y Y (by unfold CW;rw[af t,ah (by unfold Ck;omega)])
        .refine Ah ?_;exact AI _ ⟨Y,Y,Y,by unfold Ck;omega⟩ Qs
      omega
   .obtain⟨rfl,rfl,rfl,g⟩:=hI;refine X<|U<|J Y<|Ag ?_
    refine AC (λq s K p=>∃(i:Nat),q=x.c.sd.length-i/\s=[(0,v),(3,.pt g3),(5,.w x.c.sd.length),(6,.w i)]/\u=K/\p=[]/\i<=x.c.sd.length/\∀j,j<i->¬Dt (l.map Ce.c) x.c j)
     (x.c.sd.length-0) _ ⟨0,rfl,rfl,rfl,rfl,Z,λj hj=>Z⟩ Qs ?_
    rintro q s K p ⟨i,rfl,rfl,rfl,rfl,hi,hno⟩;refine X<|U<|D Y Y<|J Y<|Ay Y (λT=>?_)<|λT=>?_
    .have d:i<x.c.sd.length:=De T;have e:=Bs d;have r:Cell u [] ((AJ x.v).add (i*2)) (.w x.c.sd[i].1):=n.cell0 d Y;obtain⟨k,L⟩:∃k,MR (l.map Ce.c) x.c.sd[i].1=k:=⟨_,Y⟩
     have hkl:=Re (l.map Ce.c) x.c.sd[i].1;rw[L,bb]at hkl
     have c:¬Dt (l.map Ce.c) x.c i->∀j,j<i+1->¬Dt (l.map Ce.c) x.c j:=λhb j hj=>by
      grind
     refine I<|X<|Ag<|U<|G Y<|Qf BZ Y<|Ql Y Di (f _ _ Y _)<|G Y<|E (BP (i) n.rd.any Y Di B5 Y Y) Y<|Qf Dv Y<|Ql Y U3 (r)<|E (As Y call109 Y<|Ahf l v _ u hn hst O _) Y<|J Y ?_;rw[L];refine X<|BK 30 Cx V Y<|Wm Y<|Wm Y<|Wm Y<|Dd (t:=64) Y (λb1=>?_)<|λb1=>?_
     .refine AF Y Y Y Y Y<|AF Y Y Y Y Y<|AF Y Y Y Y Y<|AF Y Y Y Y Y<|AF Y Y Y Y Y<|AF Y Y Y Y Y<|AF Y Y Y Y Y<|AF Y Y Y Y Y<|AF Y Y Y Y Y<|Wm Y<|Wm Y<|AF Y Y Y Y Y<|AF Y Y Y Y Y<|AF Y Y Y Y Y<|A3 Y Y Y Y<|A3 Y Y Y Y<|A3 Y Y Y Y<|A3 Y Y Y Y<|A3 Y Y Y Y<|A3 Y Y Y Y<|A3 Y Y Y Y<|A3 Y Y Y Y<|A3 Y Y Y Y<|A3 Y Y Y Y<|A3 Y Y Y Y<|A3 Y Y Y Y<|A3 Y Y Y Y<|BB<|Bh Y Y Y Y Y Y<|Qk Y<|J Y<|A4 Y<|U<|J Y<|Aj<|An<|Ae<|Ae<|An<|Ae ?_;exact Ar Y Y (by grind [CW,Dt])
     .obtain⟨m,rfl⟩:∃m:Nat,k=m:=⟨k.toNat,Z⟩
      have hml:m<l.length:=Z
      have hcd:Cell u [] (((AJ v).add (m*3)).add 1) (.w l[m].c.dim):=O.cell hml (f:=1) Y;have y:(l.map Ce.c).getD ((m:Int).toNat) default=l[m].c:=by simp[List.getD,hml]
      refine AV (Ap Y Y) Y Y Y Y<|AV (Ap Y Y) Y Y Y Y<|AV (BP (m) O.rd.any Y B8 A9 Y Y) Y Y Y Y<|AV (oF Co Y) Y Y Y Y<|AV (oL Y U3<|hcd) Y Y Y Y<|AV (oF Co Y) Y Y Y Y<|AV (oL Y U3<|f _ _ Y _) Y Y Y Y<|AV (oS Y) Y Y Y Y<|AV (FV Y Y Y) Y Y Y Y<|Wm Y<|Wm Y<|Dd (t:=75) Y (λb2=>?_)<|λb2=>?_
      .refine AF Y Y Y Y Y<|AF Y Y Y Y Y<|AF Y Y Y Y Y<|A3 Y Y Y Y<|A3 Y Y Y Y<|A3 Y Y Y Y<|A3 Y Y Y Y<|A3 Y Y Y Y<|A3 Y Y Y Y<|A3 Y Y Y Y<|A3 Y Y Y Y<|A3 Y Y Y Y<|A3 Y Y Y Y<|A3 Y Y Y Y<|A3 Y Y Y Y<|A3 Y Y Y Y<|BB<|Bh Y Y Y Y Y Y<|Qk Y<|J Y<|A4 Y<|U<|J Y<|Aj<|An<|Ae<|Ae<|An<|Ae ?_;exact Ar Y Y (by grind [CW,Dt])
      .refine AV (Ap Y Y) Y Y Y Y<|AV (CE Y Y Y) Y Y Y Y<|AV (Ap Y Y) Y Y Y Y<|Dd (t:=78) Y (λb3=>?_)<|λb3=>?_
       .have Q:i-1<x.c.sd.length:=Z
        have hsp:=Bs Q;have hcp:Cell u [] ((AJ x.v).add ((i-1)*2)) (.w x.c.sd[i-1].1):=n.cell0 Q Y;refine AV (oF BZ Y) Y Y Y Y<|AV (oL Y Di<|f _ _ Y _) Y Y Y Y<|AV (Ap Y Y) Y Y Y Y<|AV (BP (i) n.rd.any Y Di B5 Y Y) Y Y Y Y<|AV (oF Dv Y) Y Y Y Y<|AV (oL Y U3<|r) Y Y Y Y<|AV (oF BZ Y) Y Y Y Y<|AV (oL Y Di<|f _ _ Y _) Y Y Y Y<|AV (Ap Y Y) Y Y Y Y<|AV (oS Y) Y Y Y Y<|AV (BP (i-1) n.rd.any Y Di B5 Y Y) Y Y Y Y<|AV (oF Dv Y) Y Y Y Y<|AV (oL Y U3<|hcp) Y Y Y Y<|BB<|Qg (Cq Y Y Y) Y<|Qg (Cf Y Y Y) Y<|J Y<|Ay Y (λb4=>?_)<|λb4=>?_
        .refine X<|Ad<|J Y<|Aj<|An<|Ae<|Ae<|An<|Ae ?_;exact Ar Y Y (by grind [CW,Dt])
        .refine Ah<|D2<|Ad<|G Y<|E (oA Y) Y<|G Y<|Am ?_;exact Aq (x.c.sd.length-(i+1)) _ Z ⟨i+1,Y,Y,Y,Y,Z,c (by grind [Dt])⟩ Qs
       .refine AF Y Y Y Y Y<|AF Y Y Y Y Y<|AF Y Y Y Y Y<|AF Y Y Y Y Y<|AF Y Y Y Y Y<|AF Y Y Y Y Y<|AF Y Y Y Y Y<|AF Y Y Y Y Y<|AF Y Y Y Y Y<|AF Y Y Y Y Y<|AF Y Y Y Y Y<|AF Y Y Y Y Y<|AF Y Y Y Y Y<|BB<|Qk Y<|Qg (Bv Y Y Y) Y<|J Y<|AM Y<|Ah<|D2<|Ad<|G Y<|E (oA Y) Y<|G Y<|Am ?_;exact Aq (x.c.sd.length-(i+1)) _ Z ⟨i+1,Y,Y,Y,Y,Z,c (by grind [Dt])⟩ Qs
    .obtain rfl:i=x.c.sd.length:=Z
     have z:¬¬∀i,i<x.c.sd.length->¬Dt (l.map Ce.c) x.c i:=λq=>q hno;refine C<|Ab<|X<|U<|J Y<|Ag ?_
     refine AC (λq s K p=>∃(i:Nat),q=x.c.sd.length-i/\s=[(0,v),(3,.pt g3),(5,.w x.c.sd.length),(8,.w i)]/\u=K/\p=[]/\i<=x.c.sd.length/\∀j,j<i->¬Ca x.c j)
      (x.c.sd.length-0) _ ⟨0,rfl,rfl,rfl,rfl,Z,λj hj=>Z⟩ Qs ?_
     rintro q s K p ⟨i,rfl,rfl,rfl,rfl,hi,B⟩;refine X<|U<|D Y Y<|J Y<|Ay Y (λA=>?_)<|λA=>?_
     .have d:i<x.c.sd.length:=De A;have e:=Bs d;have r:Cell u [] (((AJ x.v).add (i*2)).add 1) (.w x.c.sd[i].2):=n.cell d (f:=1) Y
      have c:¬Ca x.c i->∀j,j<i+1->¬Ca x.c j:=λhb j hj=>by
       grind
      refine I<|X<|Ag<|U<|Qf BZ Y<|Ql Y Di (f _ _ Y _)<|G Y<|E (BP (i) n.rd.any Y Di B5 Y Y) Y<|Qf Ep Y<|Ql Y U3 (r)<|D Y Y<|AY (t:=107) Y (λc1=>?_)<|λc1=>?_
      .refine Qg (oF BZ Y) Y<|Qg (oL Y Di<|f _ _ Y _) Y<|Qg (Ap Y Y) Y<|Qg (BP (i) n.rd.any Y Di B5 Y Y) Y<|Qg (oF Ep Y) Y<|Qg (oL Y U3<|r) Y<|Qg (FV Y Y Y) Y<|J Y<|Ay Y (λc2=>?_)<|λc2=>?_
       .refine X<|Ad<|J Y<|Aj<|An<|Ae<|Ae<|An<|Ae ?_;exact Ar Y Y (by grind [CW,Ca])
       .refine Ah<|D2<|Ad<|G Y<|E (oA Y) Y<|G Y<|Am ?_;exact Aq (x.c.sd.length-(i+1)) _ Z ⟨i+1,Y,Y,Y,Y,Z,c (by grind [Ca])⟩ Qs
      .refine DM Y Y<|DM Y Y<|DM Y Y<|Qk Y<|J Y<|AM Y<|Ah<|D2<|Ad<|G Y<|E (oA Y) Y<|G Y<|Am ?_;exact Aq (x.c.sd.length-(i+1)) _ Z ⟨i+1,Y,Y,Y,Y,Z,c (by grind [Ca])⟩ Qs
     .obtain rfl:i=x.c.sd.length:=Z
      have M:¬¬∀i,i<x.c.sd.length->¬Ca x.c i:=λq=>q B;refine C<|Ab<|X<|X<|BK 14 Cx V Y<|Wf Co Y<|Wl Y U3 (f _ _ Y _)<|Wm Y<|Wm Y<|Dd (t:=119) Y (λd1=>?_)<|λd1=>?_
      .have h2:x.c.sd.length=2:=by unfold Ck at g;omega
       have R:0<x.c.sd.length:=Z
       have S:1<x.c.sd.length:=Z
       have hs0:=Bs R;have hs1:=Bs S;have hc0:Cell u [] (((AJ x.v).add (0*2)).add 1) (.w x.c.sd[0].2):=n.cell R (f:=1) Y;have hc1:Cell u [] (((AJ x.v).add (1*2)).add 1) (.w x.c.sd[1].2):=n.cell S (f:=1) Y;refine AV (oF BZ Y) Y Y Y Y<|AV (oL Y Di<|f _ _ Y _) Y Y Y Y<|AV (BP (0) n.rd.any Y Di B5 Y Y) Y Y Y Y<|AV (oF Ep Y) Y Y Y Y<|AV (oL Y U3<|hc0) Y Y Y Y<|AV (oF BZ Y) Y Y Y Y<|AV (oL Y Di<|f _ _ Y _) Y Y Y Y<|AV (BP (1) n.rd.any Y Di B5 Y Y) Y Y Y Y<|AV (oF Ep Y) Y Y Y Y<|AV (oL Y U3<|hc1) Y Y Y Y<|BB<|Qg (Cq Y Y Y) Y<|J Y<|Ay Y (λd2=>?_)<|λd2=>?_
       .refine X<|Ad<|J Y<|Aj<|Ae ?_;exact Ar Y Y (by grind [CW,d1,d2])
       .refine I<|U<|J Y<|Aj ?_;exact Ar Y Y (by grind [CW,d2])
      .refine AF Y Y Y Y Y<|AF Y Y Y Y Y<|AF Y Y Y Y Y<|AF Y Y Y Y Y<|AF Y Y Y Y Y<|AF Y Y Y Y Y<|AF Y Y Y Y Y<|AF Y Y Y Y Y<|AF Y Y Y Y Y<|AF Y Y Y Y Y<|BB<|Qk Y<|J Y<|AM Y<|I<|U<|J Y<|Aj ?_;exact Ar Y Y (by grind [CW,d1])
section
variable {n T i k m:Nat} {l pa:List Int} {now old w:Int}
def Fj(l:List Int)(x:Int):Nat:=(l.takeWhile λy=>decide (y≠x)).length
theorem TO(l:List Int)(x:Int):Fj l x<=l.length:=(ku _).length_le
theorem Tl{x:Int}(a:k<=l.length)(e:∀j (c:j<l.length),j<k->l[j]≠x)(f:∀a:k<l.length,l[k]=x):Fj l x=k:=by obtain⟨d,_⟩:=Ft (λy:Int=>decide (y≠x)) l k a (λj c b=>bp (e j c b)) (λa=>dx (λq=>q (f a)));grind [Fj,bf]
def GO(pa:List Int)(m:Nat)(now old:Int):List Int:=pa.mapIdx λj p=>if j<m/\p=now then old else p
theorem Ec(pa:List Int)(m:Nat)(now old:Int):(GO pa m now old).length=pa.length:=by simp[GO]
theorem FT{j:Nat}(a:j<pa.length):(GO pa m now old)[j]'(by rw[Ec];exact a)=if j<m/\pa[j]=now then old else pa[j]:=by simp[GO]
theorem Zx(pa:List Int)(now old:Int):GO pa 0 now old=pa:=by grind [gg,Ec,FT]
theorem Abb(d:m<pa.length)(h:pa[m]=now):(GO pa m now old).set m old=GO pa (m+1) now old:=by
 refine gg (by rw[fh,Ec,Ec]) λj c a=>?_;grind [Ec,FT]
theorem Ad0(d:m<pa.length)(h:pa[m]≠now):GO pa m now old=GO pa (m+1) now old:=by
 grind [gg,Ec,FT]
structure S2 where
 ids:List Int
 su:List Int
 ma:List Int
 fi:List Int
 pa:List Int
def S2.add(S:S2)(i:Nat)(id:Int):S2:=if Fj S.ids id=S.ids.length then⟨S.ids++[id],S.su++[0],S.ma++[0],S.fi++[(i:Int)],S.pa⟩ else S
def S2.hit(S:S2)(i k:Nat)(w:Int):S2:=⟨S.ids,S.su.set k (S.su.getD k 0+w),S.ma.set k (S.ma.getD k 0+1),S.fi,GO S.pa (i+1) (S.pa.getD i 0) (S.pa.getD (S.fi.getD k 0).toNat 0)⟩
def S2.side(S:S2)(i:Nat)(w:Int)(r:Int×Int):S2:=(S.add i r.1).hit i (Fj S.ids r.1) (w*r.2)
def S2.sides(S:S2)(i:Nat)(w:Int)(l:List (Int×Int)):S2:=l.foldl (λS r=>S.side i w r) S
theorem S2.sides_snoc(S:S2)(i:Nat)(w:Int)(l:List (Int×Int))(r:Int×Int):S.sides i w (l++[r])=(S.sides i w l).side i w r:=by grind [S2.sides]
def S2.start(S:S2)(i:Nat):S2:=⟨S.ids,S.su,S.ma,S.fi,S.pa.set i (i:Int)⟩
def GP(l:List Cl)(x:Cl)(i:Nat):Cl:=l.getD (MR l (Bw x i).1).toNat default
def IY(l:List Cl)(x:Cl):Nat->S2
 | 0=>⟨[],[],[],[],List.replicate x.sd.length 0⟩
 | i+1=>((IY l x i).start i).sides i (Bw x i).2 (GP l x i).sd
def Fh(l:List Cl)(x:Cl):Int:=
 if ¬∀y∈(IY l x x.sd.length).su,y=0 then 24
 else if ¬∀y∈(IY l x x.sd.length).ma,y=2 then 25
 else if ¬∀y∈(IY l x x.sd.length).pa,y=(IY l x x.sd.length).pa.getD 0 0 then 25 else 0
structure S2.Ok(S:S2)(T n:Nat):Prop where
 s:S.su.length=S.ids.length
 m:S.ma.length=S.ids.length
 f:S.fi.length=S.ids.length
 p:S.pa.length=n
 t:S.ids.length<=T
 sb:∀y∈S.su,-(T:Int)<=y/\y<=T
 mb:∀y∈S.ma,0<=y/\y<=T
 fb:∀y∈S.fi,0<=y/\y<n
theorem Iy{a y:Int}(h:y∈l++[a]):y∈l\/y=a:=by
 simp_all
theorem S2.Ok.add{S:S2}(K:S.Ok T n)(c:i<n)(id:Int):(S.add i id).Ok (T+1) n/\Fj S.ids id<(S.add i id).ids.length:=by
 have b:=TO S.ids id;unfold S2.add;split
 .rename_i h;refine⟨⟨by simp[K.s],by simp[K.m],by simp[K.f],K.p,by simp[K.t],λy a=>?_,λy a=>?_,λy a=>?_⟩,by simp_all⟩
  .rcases Iy a with h|rfl
   .have:=K.sb y h;omega
   .omega
  .rcases Iy a with h|rfl
   .have:=K.mb y h;omega
   .omega
  .rcases Iy a with h|rfl
   .exact K.fb y h
   .omega
 .rename_i h;exact⟨⟨K.s,K.m,K.f,K.p,by have:=K.t;omega,λy a=>by have:=K.sb y a;omega,λy a=>by have:=K.mb y a;omega,K.fb⟩,Z⟩
theorem Un(a:k<l.length):l.getD k 0∈l:=by simp_all
theorem S2.Ok.hit{S:S2}(K:S.Ok (T+1) n){U:S2}(f:U.Ok T n)(b:∀y∈S.su,-(T:Int)<=y/\y<=T)(a:∀y∈S.ma,0<=y/\y<=T)(d:k<S.ids.length)(e:w=1\/w=-1):(S.hit i k w).Ok (T+1) n:=by
 have g:=b _ (Un (show k<S.su.length by rw[K.s];exact d));have j:=a _ (Un (show k<S.ma.length by rw[K.m];exact d));refine⟨by show(List.set _ _ _).length=_;rw[fh];exact K.s,by show(List.set _ _ _).length=_;rw[fh];exact K.m,K.f,by show(GO _ _ _ _).length=_;rw[Ec];exact K.p,K.t,λy c=>?_,λy c=>?_,K.fb⟩
 .rcases gy c with h|rfl
  all_goals grind
 .rcases gy c with h|rfl
  all_goals grind
theorem S2.add_su{S:S2}(K:S.Ok T n)(i:Nat)(id:Int):(∀y∈(S.add i id).su,-(T:Int)<=y/\y<=T)/\∀y∈(S.add i id).ma,0<=y/\y<=T:=by
 unfold S2.add;split
 .refine⟨λy a=>?_,λy a=>?_⟩
  .rcases Iy a with h|rfl
   .exact K.sb y h
   .omega
  .rcases Iy a with h|rfl
   .exact K.mb y h
   .omega
 .exact⟨K.sb,K.mb⟩
theorem S2.Ok.side{S:S2}(K:S.Ok T n)(a:i<n){r:Int×Int}(b:w*r.2=1\/w*r.2=-1):(S.side i w r).Ok (T+1) n:=
 S2.Ok.hit (K.add a r.1).1 K (S2.add_su K i r.1).1 (S2.add_su K i r.1).2 (K.add a r.1).2 b
theorem S2.Ok.start{S:S2}(K:S.Ok T n):(S.start i).Ok T n:=⟨K.s,K.m,K.f,by show(List.set _ _ _).length=n;rw[fh];exact K.p,K.t,K.sb,K.mb,K.fb⟩
theorem U7{a b:Int}(c:a=1\/a=-1)(d:b=1\/b=-1):a*b=1\/a*b=-1:=by grind
theorem S2.Ok.sides(a:i<n)(b:w=1\/w=-1):∀(l:List (Int×Int)) (S:S2) (T:Nat),S.Ok T n->(∀r∈l,r.2=1\/r.2=-1)->(S.sides i w l).Ok (T+l.length) n
 | [],S,T,K,_=>K
 | r::l,S,T,K,h=>by have:=S2.Ok.sides a b l (S.side i w r) (T+1) (K.side a (U7 b (h r Mh))) (λr c=>h r (am _ c));rw[de,show T+(l.length+1)=T+1+l.length by omega];exact this
end
section
structure OwS(S:S2)(v5 v6 v7 v8 v9:Value)(m5 m6 m7 m8 m9:Hp):Prop where
 i:OwnL cI 1 3 m5 v5 S.ids
 s:OwnL cI 1 3 m6 v6 S.su
 m:OwnL cI 1 3 m7 v7 S.ma
 p:OwnL cI 1 3 m8 v8 S.pa
 f:OwnL cI 1 3 m9 v9 S.fi
structure YM(l:List Cl)(x:Cl):Prop where
 n:x.sd.length<=64
 sg:∀i,i<x.sd.length->(Bw x i).2=1\/(Bw x i).2=-1
 at_:∀i,i<x.sd.length->0<=MR l (Bw x i).1
 yn:∀i,i<x.sd.length->(GP l x i).sd.length<=64
 ys:∀i,i<x.sd.length->∀r∈(GP l x i).sd,r.2=1\/r.2=-1
theorem Xt{l:List Cl}{x:Cl}(K:YM l x):∀i,i<=x.sd.length->(IY l x i).Ok (64*i) x.sd.length
 | 0,_=>⟨rfl,rfl,rfl,by simp[IY],ak _,λy a=>(by cases a),λy a=>(by cases a),λy a=>(by cases a)⟩
 | i+1,hi=>by have b:=S2.Ok.sides (i:=i) Z (K.sg i Z) (GP l x i).sd _ _ ((Xt K i Z).start (i:=i)) (K.ys i Z);have c:=K.yn i Z;show(S2.sides _ _ _ _).Ok _ _;exact⟨b.s,b.m,b.f,b.p,by have:=b.t;omega,λy a=>by have:=b.sb y a;omega,λy a=>by have:=b.mb y a;omega,b.fb⟩
theorem AhR{l:List Ce}{y:Int}{k:Nat}(e:MR (l.map Ce.c) y=k)(v:Value)(h:Hp)(g:l.length<=100000)(c:(l.map Ce.c).Pairwise λa b=>a.id<=b.id)(f:RdL cC 3 h [] v l)(d:List Hp):FnV prog 109 #[v,.int .i64 y] h d (.int .i64 k):=by grind [Ahf]
theorem Zj(l:List Ce)(x:Ce)(v:Value)(h:Hp)(hn:l.length<=100000)(K:YM (l.map Ce.c) x.c)(hst:(l.map Ce.c).Pairwise λa b=>a.id<=b.id)(hR:RdC h v l)(hX:RdL cD 2 h [] x.v x.c.sd):FnT prog 128 #[v,.agg #[.int .i64 x.c.id,.int .i64 x.c.dim,x.v]] h [] (λr _ _=>r=.int .i64 (Fh (l.map Ce.c) x.c)):=by
 have o1:=hR.q.rd.one;have o2:=hX.rd.one;have hxn:=K.n;refine Au func128 ntmps128 rfl rfl<|λ_ _=>Ax<|AK [_,_,_] rfl rfl ξ rfl rfl rfl<|λg3=>G rfl<|Ao<|AH λh1 l1 hS=>?_;have hR:=hR.up l1;have hX:=hX.up l1;have hA:=Seg.all hS;refine Ax<|G rfl<|BF<|G rfl<|BF<|G rfl<|BF<|Qf BZ rfl<|Ql rfl Di (hA _ _ rfl _)<|E (Aw hX.rd.any rfl Di rfl) rfl<|FE (n:=_) rfl Bb By rfl rfl rfl ξ ξ Z Z rfl rfl rfl<|λg23=>G rfl<|BF ?_;refine AX [] [] [] rfl Bb By rfl Z V (by repeat (first|exact fu|refine⟨⟨by first|rfl|exact(hX.rd.any).cells|exact(hR.q.rd.any).cells|exact Rd.cells ‹_›|exact(RdL.rd ‹_›).cells,rfl,rfl⟩,?_⟩)) rfl rfl rfl rfl<|λg24=>?_;refine G rfl<|Ao<|X<|Ax<|G rfl<|Ao<|Ag<|BW<|BW<|BW ?_
 refine AC (λq s hh c=>∃(i:Nat) (M L A t O:Value) (m n p d g:Hp),q=x.c.sd.length-i/\s=[(0,v),(3,.pt g3),(5,M),(6,L),(7,A),(8,t),(9,O),(10,.w i)]/\h1.le hh/\c=[m,n,p,g,d]/\i<=x.c.sd.length/\OwS (IY (l.map Ce.c) x.c i) M L A t O m n p d g)
  (x.c.sd.length-0) _ ⟨0,_,_,_,_,_,Hp.emp,Hp.emp,Hp.emp,_,_,rfl,rfl,Bk,rfl,Z,⟨OwnL.nil Bf,OwnL.nil Bf,OwnL.nil Bf,OwnL.rep _ 0 Z,Gs g24 Bf⟩⟩ Qs ?_
 rintro q s hh c ⟨i,M,L,A,t,O,m,n,p,d,g,rfl,rfl,lh,rfl,hi,W⟩;have hR:=hR.up lh;have hX:=hX.up lh;have hA:=Seg.all (hS.le lh);have KS:=Xt K i hi;refine X<|Ax<|G Y<|Qf BZ Y<|Ql Y Di (hA _ _ Y _)<|E (Aw hX.rd.any Y Di Y) Y<|J Y<|Ay Y (λhlt=>?_)<|λhlt=>?_
 .have hil:i<x.c.sd.length:=De hlt;obtain⟨k,hk⟩:∃k:Nat,MR (l.map Ce.c) (Bw x.c i).1=k:=⟨(MR (l.map Ce.c) (Bw x.c i).1).toNat,by have:=K.at_ i hil;omega⟩
  have hkl:k<l.length:=by have:=Re (l.map Ce.c) (Bw x.c i).1;rw[hk,bb]at this;omega
  have hy:GP (l.map Ce.c) x.c i=l[k].c:=by unfold GP;rw[hk];simp[List.getD,hkl]
  have hsi:=Bs hil;have hci:=λu=>(hX.any (ms:=u)).cell0 hil Y;have hgk:∀u,Seg hh u ((AJ v).add (k*3)) (cC l[k]):=λu=>(hR.q.any (ms:=u)).seg hkl;have hY:=hR.s _ (aq hkl);have oy:=hY.rd.one;have o5:M.oneCell'=true:=(W.i.rd (h:=hh) (ms:=[m]) Mh).rd.one;have o6:L.oneCell'=true:=(W.s.rd (h:=hh) (ms:=[n]) Mh).rd.one;have o7:A.oneCell'=true:=(W.m.rd (h:=hh) (ms:=[p]) Mh).rd.one;have o8:t.oneCell'=true:=(W.p.rd (h:=hh) (ms:=[d]) Mh).rd.one;have o9:O.oneCell'=true:=(W.f.rd (h:=hh) (ms:=[g]) Mh).rd.one;have hpl:=KS.p;have hk':MR (l.map Ce.c) x.c.sd[i].1=k:=by rw[<-hsi];exact hk
  refine I<|X<|Ag<|Ax<|D Y Y<|G Y<|E (Be (i) (W.p.rd (h:=hh) (ms:=[d]) Mh).rd Y Bb By Y Y Z Z) Y<|Fm 4 i W.p Y By Y Y Y Z Y Y<|λd hO8=>?_;have W1:OwS ((IY (l.map Ce.c) x.c i).start i) M L A t O m n p d g:=⟨W.i,W.s,W.m,hO8,W.f⟩
  have K1:=KS.start (i:=i);refine BF<|D Y Y<|Qf BZ Y<|Ql Y Di (hA _ _ Y _)<|G Y<|E (BP (i) hX.rd.any Y Di B5 Y Y) Y<|Qf Dv Y<|Ql Y U3 (hci _)<|E (As Y call109 Y<|AhR hk' v hh hn hst hR.q _) Y<|E (BP (k) hR.q.rd.any Y B8 A9 Y Y) Y<|E (oG Y Kr A9<|hgk _) Y<|BJ [.w 0,.w 0,.nl] Y A9 Y Y<|λg11=>?_;refine Sa 0 [_,_,_] A9 Y (by simp[o1,o2,oy,o5,o6,o7,o8,o9]) ?_;refine Ao<|AH λe l2 hS11=>?_;have hX:=hX.up l2;have hY:=hY.up l2;have hA:=Seg.all ((hS.le lh).le l2);have hA11:=Seg.all hS11;have hyn:l[k].c.sd.length<=64:=by have:=K.yn i hil;rwa [hy]at this
  have hys:∀r∈l[k].c.sd,r.2=1\/r.2=-1:=by have:=K.ys i hil;rwa [hy]at this
  have hsg:=K.sg i hil;have hstep:IY (l.map Ce.c) x.c (i+1)=((IY (l.map Ce.c) x.c i).start i).sides i (Bw x.c i).2 l[k].c.sd:=by rw[<-hy];rfl
  obtain⟨S0,hS0⟩:∃S0,(IY (l.map Ce.c) x.c i).start i=S0:=⟨_,Y⟩
  rw[hS0]at W1 K1 hstep;refine Ax<|J Y<|Ag ?_
  refine AC (λq s hh c=>∃(j:Nat) (M L A t O:Value) (m n p d g:Hp),q=l[k].c.sd.length-j/\s=[(0,v),(3,.pt g3),(5,M),(6,L),(7,A),(8,t),(9,O),(10,.w i),(11,.pt g11),(12,.w j)]/\e=hh/\c=[m,n,p,g,d]/\j<=l[k].c.sd.length/\OwS (S0.sides i (Bw x.c i).2 (l[k].c.sd.take j)) M L A t O m n p d g)
   (l[k].c.sd.length-0) _ ⟨0,_,_,_,_,_,_,_,_,_,_,rfl,rfl,rfl,rfl,Z,W1⟩ Qs ?_
  rintro q s hh' c ⟨j,M,L,A,t,O,m,n,p,d,g,rfl,rfl,rfl,rfl,hj,W⟩;have hkj:=S2.Ok.sides (i:=i) hil hsg (l[k].c.sd.take j) S0 _ K1 (λr hr=>hys r (ge hr));rw[bf]at hkj;refine X<|Ax<|G Y<|Qf BZ Y<|Ql Y Di (hA11 _ _ Y _)<|E (Aw hY.rd.any Y Di Y) Y<|J Y<|Ay Y (λhlt2=>?_)<|λhlt2=>?_
  .have hjl:j<l[k].c.sd.length:=De hlt2;have hnext:S0.sides i (Bw x.c i).2 (l[k].c.sd.take (j+1))=(S0.sides i (Bw x.c i).2 (l[k].c.sd.take j)).side i (Bw x.c i).2 l[k].c.sd[j]:=by rw[ap hjl,S2.sides_snoc]
   obtain⟨S,hSS⟩:∃S,S0.sides i (Bw x.c i).2 (l[k].c.sd.take j)=S:=⟨_,Y⟩
   obtain⟨T,hT⟩:∃T,64*i+min j l[k].c.sd.length=T:=⟨_,Y⟩
   rw[hT]at hkj;rw[hSS]at W hkj hnext;have hT2:T<=4200:=Z
   have hil2:=hkj.t;have hc0:=λu=>(hY.any (ms:=u)).cell0 hjl Y;have hc1:=λu=>(hY.any (ms:=u)).cell hjl (f:=1) Y;have hcx:=λu=>(hX.any (ms:=u)).cell hil (f:=1) Y;have o5:M.oneCell'=true:=(W.i.rd (h:=e) (ms:=[m]) Mh).rd.one;have o6:L.oneCell'=true:=(W.s.rd (h:=e) (ms:=[n]) Mh).rd.one;have o7:A.oneCell'=true:=(W.m.rd (h:=e) (ms:=[p]) Mh).rd.one;have o8:t.oneCell'=true:=(W.p.rd (h:=e) (ms:=[d]) Mh).rd.one;have o9:O.oneCell'=true:=(W.f.rd (h:=e) (ms:=[g]) Mh).rd.one;obtain⟨r,hr⟩:∃r,l[k].c.sd[j]=r:=⟨_,Y⟩
   rw[hr]at hc0 hc1 hnext;refine I<|Bu (λs h' c=>∃(M L A t O:Value) (m n p d g:Hp),s=[(0,v),(3,.pt g3),(5,M),(6,L),(7,A),(8,t),(9,O),(10,.w i),(11,.pt g11),(12,.w j)]/\e=h'/\c=[m,n,p,g,d]/\OwS (S0.sides i (Bw x.c i).2 (l[k].c.sd.take (j+1))) M L A t O m n p d g) ?_<|λs h u hI=>?_
   .refine Ag<|Ax<|J Y<|Bu (λs h' c=>s=[(0,v),(3,.pt g3),(5,M),(6,L),(7,A),(8,t),(9,O),(10,.w i),(11,.pt g11),(12,.w j),(13,.w (Fj S.ids r.1))]/\e=h'/\c=[m,n,p,g,d]) ?_<|λs h u hI=>?_
    .have hri:=W.i.rd (h:=e) (ms:=[m,n,p,g,d]) Mh;refine Ag ?_
     refine AC (λq s h' c=>∃(a:Nat),q=S.ids.length-a/\s=[(0,v),(3,.pt g3),(5,M),(6,L),(7,A),(8,t),(9,O),(10,.w i),(11,.pt g11),(12,.w j),(13,.w a)]/\e=h'/\c=[m,n,p,g,d]/\a<=S.ids.length/\∀b (R:b<S.ids.length),b<a->S.ids[b]≠r.1)
      (S.ids.length-0) _ ⟨0,rfl,rfl,rfl,rfl,Z,λb R h=>Z⟩ Qs ?_
     rintro q s h' c ⟨a,rfl,rfl,rfl,rfl,ha,B⟩;refine X<|X<|BK 15 Cx V Y<|Wm Y<|Wm Y<|BS (Aw hri.rd Y Bb Y) Y Y<|Wm Y<|Wm Y<|Dd (t:=58) Y (λhs1=>?_)<|λhs1=>?_
     .have P:a<S.ids.length:=De hs1;have hca:Cell e [m,n,p,g,d] ((AJ M).add (a*1)) (.w S.ids[a]):=hri.cell0 P Y;refine AV (Ap Y Y) Y Y Y Y<|AV (Ap Y Y) Y Y Y Y<|AV (BP (a) hri.rd Y Bb By Y Y) Y Y Y Y<|AV (oL Y U3<|hca) Y Y Y Y<|AV (oF BZ Y) Y Y Y Y<|AV (oL Y Di<|hA11 _ _ Y _) Y Y Y Y<|AV (Ap Y Y) Y Y Y Y<|AV (BP (j) hY.rd.any Y Di B5 Y Y) Y Y Y Y<|AV (oF Dv Y) Y Y Y Y<|AV (oL Y U3<|hc0 _) Y Y Y Y<|BB<|Qg (FV Y Y Y) Y<|J Y<|Ay Y (λhs2=>?_)<|λhs2=>?_
      .refine I<|Ag<|Ad<|G Y<|E (oA Y) Y<|G Y<|Am<|Ai ?_
       exact Aq (S.ids.length-(a+1)) _ Z ⟨a+1,Y,Y,Y,Y,Z,λb R h=>by
        rcases (Z:b<a\/b=a) with h1|rfl
        .exact B b R h1
        .exact hs2⟩ Qs
      .have hf:Fj S.ids r.1=a:=Tl ha B λ_=>ax λq=>hs2 q;refine C ?_;rw[hf];exact AI _ ⟨Y,Y,Y⟩ Qs
     .have hf:Fj S.ids r.1=a:=Tl ha B λh=>lj h Z;refine AF Y Y Y Y Y<|AF Y Y Y Y Y<|AF Y Y Y Y Y<|AF Y Y Y Y Y<|AF Y Y Y Y Y<|AF Y Y Y Y Y<|AF Y Y Y Y Y<|AF Y Y Y Y Y<|AF Y Y Y Y Y<|AF Y Y Y Y Y<|BB<|Qk Y<|J Y<|AM Y<|C ?_;rw[hf];exact AI _ ⟨Y,Y,Y⟩ Qs
    .obtain⟨rfl,rfl,rfl⟩:=hI;refine Bu (λs h' c=>∃(M L A t O:Value) (m n p d g:Hp),s=[(0,v),(3,.pt g3),(5,M),(6,L),(7,A),(8,t),(9,O),(10,.w i),(11,.pt g11),(12,.w j),(13,.w (Fj S.ids r.1))]/\e=h'/\c=[m,n,p,g,d]/\OwS (S.add i r.1) M L A t O m n p d g) ?_<|λs h u hI=>?_
     .refine X<|Ad<|D Y Y<|E (Aw (W.i.rd (h:=e) (ms:=[m,n,p,g,d]) Mh).rd Y Bb Y) Y<|J Y<|Ay Y (λhnew=>?_)<|λhnew=>?_
      .have hadd:S.add i r.1=⟨S.ids++[r.1],S.su++[0],S.ma++[0],S.fi++[(i:Int)],S.pa⟩:=by unfold S2.add;rw[ah Z]
       have e1:=hkj.s;have e2:=hkj.m;have e3:=hkj.f;refine Ax<|G Y<|Qf BZ Y<|Ql Y Di (hA11 _ _ Y _)<|G Y<|E (BP (j) hY.rd.any Y Di B5 Y Y) Y<|Qf Dv Y<|Ql Y U3 (hc0 _)<|AB [_] Y Bb By Y ξ Y Y Z Y Y Y<|λg84=>AL 1 W.i (RdL.one Bf (x:=r.1) Mh Y) Y Bb By Y Z Y Y Y BY (by(try simp only[ae]);omega) (by(try simp only[ae]);omega) rfl rfl rfl<|λw5 n5 hN5=>?_;have p5:=hN5.o1;refine G Y<|BF<|G Y<|AB [_] Y Bb By Y ξ Y Y Z Y Y Y<|λg87=>AL 3 W.s (RdL.one Bf (x:=0) Mh Y) Y Bb By Y Z Y Y Y BY (by(try simp only[ae]);omega) (by(try simp only[ae]);omega) rfl rfl rfl<|λw6 n6 hN6=>?_;have p6:=hN6.o1;refine G Y<|BF<|G Y<|AB [_] Y Bb By Y ξ Y Y Z Y Y Y<|λg90=>AL 5 W.m (RdL.one Bf (x:=0) Mh Y) Y Bb By Y Z Y Y Y BY (by(try simp only[ae]);omega) (by(try simp only[ae]);omega) rfl rfl rfl<|λw7 n7 hN7=>?_;have p7:=hN7.o1;refine G Y<|HM<|D Y Y<|AB [_] Y Bb By Y ξ Y Y Z Y Y Y<|λg94=>AL 7 W.f (RdL.one Bf (x:=(i:Int)) Mh Y) Y Bb By Y Z Y Y Y BY (by(try simp only[ae]);omega) (by(try simp only[ae]);omega) rfl rfl rfl<|λw9 n9 hN9=>?_;have p9:=hN9.o1;refine G Y<|Am<|AU<|AU<|AU<|AU ?_;exact AI _ ⟨w5,w6,w7,t,w9,n5,n6,n7,d,n9,Y,Y,Y,by rw[hadd];exact⟨hN5,hN6,hN7,W.p,hN9⟩⟩ Qs
      .have hadd:S.add i r.1=S:=by unfold S2.add;rw[af Z]
       refine Ah ?_;exact AI _ ⟨M,L,A,t,O,m,n,p,d,g,Y,Y,Y,by rw[hadd];exact W⟩ Qs
     .obtain⟨M,L,A,t,O,m,n,p,d,g,rfl,rfl,rfl,W⟩:=hI;have hK2:=hkj.add hil r.1;have hSU:=S2.add_su hkj i r.1;have hrm:r∈l[k].c.sd:=by rw[<-hr];exact aq hjl
      have hw:=U7 hsg (hys r hrm);obtain⟨z,hkf⟩:∃z,Fj S.ids r.1=z:=⟨_,Y⟩
      obtain⟨U,hU⟩:∃U,S.add i r.1=U:=⟨_,Y⟩
      have hres:S.side i (Bw x.c i).2 r=U.hit i z ((Bw x.c i).2*r.2):=by unfold S2.side;rw[hU,hkf]
      rw[hsi]at hw hres;rw[hU]at W hK2 hSU;rw[hkf]at hK2 ⊢;rw[hsi]at hnext;obtain⟨KU,hkl2⟩:=hK2;have hsl:z<U.su.length:=by rw[KU.s];exact hkl2
      have hml:z<U.ma.length:=by rw[KU.m];exact hkl2
      have hfl:z<U.fi.length:=by rw[KU.f];exact hkl2
      have hsb:=hSU.1 _ (aq hsl);have hmb:=hSU.2 _ (aq hml);have hfb:=KU.fb _ (aq hfl);obtain⟨f,hf⟩:∃f:Nat,U.fi[z]=f:=⟨U.fi[z].toNat,Z⟩
      have hfp:f<U.pa.length:=by rw[KU.p];omega
      have hip:i<U.pa.length:=by rw[KU.p];exact hil
      have o5:M.oneCell'=true:=(W.i.rd (h:=e) (ms:=[m]) Mh).rd.one;have o6:L.oneCell'=true:=(W.s.rd (h:=e) (ms:=[n]) Mh).rd.one;have o7:A.oneCell'=true:=(W.m.rd (h:=e) (ms:=[p]) Mh).rd.one;have o8:t.oneCell'=true:=(W.p.rd (h:=e) (ms:=[d]) Mh).rd.one;have o9:O.oneCell'=true:=(W.f.rd (h:=e) (ms:=[g]) Mh).rd.one;have c6:∀u,n∈u->Cell e u ((AJ L).add (z*1)) (.w U.su[z]):=λu hm=>(W.s.rd (h:=e) hm).cell0 hsl Y;have c7:∀u,p∈u->Cell e u ((AJ A).add (z*1)) (.w U.ma[z]):=λu hm=>(W.m.rd (h:=e) hm).cell0 hml Y;have c9:∀u,g∈u->Cell e u ((AJ O).add (z*1)) (.w f):=λu hm=>by have:=(W.f.rd (h:=e) hm).cell0 hfl Y;rw[hf]at this;exact this
      have c8f:∀u,d∈u->Cell e u ((AJ t).add (f*1)) (.w U.pa[f]):=λu hm=>(W.p.rd (h:=e) hm).cell0 hfp Y;have c8i:∀u,d∈u->Cell e u ((AJ t).add (i*1)) (.w U.pa[i]):=λu hm=>(W.p.rd (h:=e) hm).cell0 hip Y;refine X<|AS (n:=22) (bs:=[lr,lr,lr,lr,lr,lw,lr,lr,lr,lr,lr,lr,lr,lr,lr,lr,lr,lr,lr,lw,lr,lw]) [lr,lr,lr,lr,lr,lw,lr,lr,lr,lr,lr,lr,lr,lr,lr,lr,lr,lr,lr,lw,lr] Cx V V Y Y<|Qq Y<|Qq Y<|Qq Y<|Qq Y<|Qp Y (Be (z) (W.s.rd (h:=e) (ms:=[n]) Mh).rd Y Bb By Y Y Z Z)<|QF BZ Y<|QL Y Di (hA _ _ Y _)<|Qq Y<|Qp Y (BP (i) hX.rd.any Y Di B5 Y Y)<|QF Ep Y<|QL Y U3 (hcx _)<|QF BZ Y<|QL Y Di (hA11 _ _ Y _)<|Qq Y<|Qp Y (BP (j) hY.rd.any Y Di B5 Y Y)<|QF Ep Y<|QL Y U3 (hc1 _)<|Qp Y (oM Y)<|Qp Y (Be (z) (W.s.rd (h:=e) (ms:=[n]) Mh).rd Y Bb By Y Y Z Z)<|Qo 5 Y ?_;refine Ql Y U3 (c6 _ (by repeat (first|exact Mh|refine List.Mem.tail _ ?_))) ?_;refine Qw<|A7 19 115 V Y (Bk) Y (oA Y)<|Qo 21 Y<|Fm 1 z W.s Y By Y Y Y hsl Y Y<|λn6 hN6=>Qw<|Qe<|Ab<|Ax<|D Y Y<|E (Be (z) (W.m.rd (h:=e) (ms:=[p]) Mh).rd Y Bb By Y Y Z Z) Y ?_;refine Ql Y U3 (c7 _ (by repeat (first|exact Mh|refine List.Mem.tail _ ?_))) ?_;refine E (oA Y) Y<|E (Be (z) (W.m.rd (h:=e) (ms:=[p]) Mh).rd Y Bb By Y Y Z Z) Y<|Fm 2 z W.m Y By Y Y Y hml Y Y<|λn7 hN7=>BF<|D Y Y<|G Y<|E (Be (z) (W.f.rd (h:=e) (ms:=[g]) Mh).rd Y Bb By Y Y Z Z) Y ?_;refine Ql Y U3 (c9 _ (by repeat (first|exact Mh|refine List.Mem.tail _ ?_))) ?_;refine E (Be (f) (W.p.rd (h:=e) (ms:=[d]) Mh).rd Y Bb By Y Y Z Z) Y ?_;refine Ql Y U3 (c8f _ (by repeat (first|exact Mh|refine List.Mem.tail _ ?_))) ?_;refine G Y<|BF<|D Y Y<|E (Be (i) (W.p.rd (h:=e) (ms:=[d]) Mh).rd Y Bb By Y Y Z Z) Y ?_;refine Ql Y U3 (c8i _ (by repeat (first|exact Mh|refine List.Mem.tail _ ?_))) ?_;refine G Y<|BF<|J Y<|Ag ?_
      refine AC (λq s h' c=>∃(a:Nat) (d:Hp),q=i+1-a/\s=[(0,v),(3,.pt g3),(5,M),(6,L),(7,A),(8,t),(9,O),(10,.w i),(11,.pt g11),(12,.w j),(14,.w U.pa[f]),(15,.w U.pa[i]),(16,.w a)]/\e=h'/\c=[m,n6,n7,g,d]/\a<=i+1/\OwnL cI 1 3 d t (GO U.pa a U.pa[i] U.pa[f]))
       (i+1-0) _ ⟨0,d,rfl,rfl,rfl,rfl,Z,by rw[Zx];exact W.p⟩ Qs ?_
      rintro q s h' c ⟨a,m8',rfl,rfl,rfl,rfl,ha,hO8⟩;refine X<|Ax<|D Y Y<|J Y<|Ay Y (λhla=>?_)<|λhla=>?_
      .have hap:a<U.pa.length:=Z
       have P:a<(GO U.pa a U.pa[i] U.pa[f]).length:=by rw[Ec];exact hap
       have hga:(GO U.pa a U.pa[i] U.pa[f])[a]=U.pa[a]:=by rw[FT hap,af (λq=>lj q.1 (Nat.lt_irrefl _))]
       have hca:Cell e [m,n6,n7,g,m8'] ((AJ t).add (a*1)) (.w U.pa[a]):=by have:=(hO8.rd (h:=e) (ms:=[m,n6,n7,g,m8']) (by repeat (first|exact Mh|refine List.Mem.tail _ ?_))).cell0 P Y;rw[hga]at this;exact this
       refine I<|X<|Ag<|Ax<|D Y Y<|E (Be (a) (hO8.rd (h:=e) (ms:=[m8']) Mh).rd Y Bb By Y Y Z Z) Y<|Ql Y U3 (hca)<|G Y<|J Y<|Ay Y (λhq=>?_)<|λhq=>?_
       .refine Ad<|D Y Y<|G Y<|E (Be (a) (hO8.rd (h:=e) (ms:=[m8']) Mh).rd Y Bb By Y Y Z Z) Y<|Fm 4 a hO8 Y By Y Y Y P Y Y<|λn8 hN8=>?_;rw[Abb hap hq]at hN8;refine Am<|D2<|Ad<|G Y<|E (oA Y) Y<|G Y<|Am<|Aq (i+1-(a+1)) _ Z ⟨a+1,n8,Y,Y,Y,Y,Z,hN8⟩ Qs
       .rw[Ad0 hap hq]at hO8;refine Ah<|D2<|Ad<|G Y<|E (oA Y) Y<|G Y<|Am<|Aq (i+1-(a+1)) _ Z ⟨a+1,m8',Y,Y,Y,Y,Z,hO8⟩ Qs
      .obtain rfl:a=i+1:=Z
       have g6:U.su.getD z 0=U.su[z]:=by simp[List.getD,hsl]
       have g7:U.ma.getD z 0=U.ma[z]:=by simp[List.getD,hml]
       have g9:(U.fi.getD z 0).toNat=f:=by rw[show U.fi.getD z 0=U.fi[z] by simp[List.getD,hfl],hf];rfl
       have g8:U.pa.getD f 0=U.pa[f]:=by simp[List.getD,hfp]
       have g8':U.pa.getD i 0=U.pa[i]:=by simp[List.getD,hip]
       have hH:U.hit i z (x.c.sd[i].2*r.2)=⟨U.ids,U.su.set z (U.su[z]+x.c.sd[i].2*r.2),U.ma.set z (U.ma[z]+1),U.fi,GO U.pa (i+1) U.pa[i] U.pa[f]⟩:=by unfold S2.hit;rw[g6,g7,g9,g8,g8']
       have hWn:OwS (S0.sides i (Bw x.c i).2 (l[k].c.sd.take (j+1))) M L A t O m n6 n7 m8' g:=by rw[hsi,hnext,hres,hH];exact⟨W.i,hN6,hN7,hO8,W.f⟩
       refine C<|Ai<|AI _ ⟨M,L,A,t,O,m,n6,n7,m8',g,Y,Y,Y,hWn⟩ Qs
   .obtain⟨M,L,A,t,O,m,n,p,d,g,rfl,rfl,rfl,W⟩:=hI;refine Ad<|G Y<|E (oA Y) Y<|G Y<|Am<|Aq (l[k].c.sd.length-(j+1)) _ Z ⟨j+1,M,L,A,t,O,m,n,p,d,g,Y,Y,Y,Y,Z,W⟩ Qs
  .have hje:j=l[k].c.sd.length:=Z
   rw[hje,fz,<-hstep]at W;refine C<|D2<|Ad<|G Y<|E (oA Y) Y<|G Y<|Am<|Aq (x.c.sd.length-(i+1)) _ Z ⟨i+1,M,L,A,t,O,m,n,p,d,g,Y,Y,N lh l2,Y,Z,W⟩ Qs
 .obtain rfl:i=x.c.sd.length:=Z
  obtain⟨S,hS⟩:∃S,IY (l.map Ce.c) x.c x.c.sd.length=S:=⟨_,Y⟩
  have Q:Fh (l.map Ce.c) x.c=(if ¬∀y∈S.su,y=0 then 24 else if ¬∀y∈S.ma,y=2 then 25 else if ¬∀y∈S.pa,y=S.pa.getD 0 0 then 25 else 0):=by unfold Fh;rw[hS]
  rw[hS]at W KS;have r6:=W.s.rd (h:=hh) (ms:=[m,n,p,g,d]) (by repeat (first|exact Mh|refine List.Mem.tail _ ?_));have r7:=W.m.rd (h:=hh) (ms:=[m,n,p,g,d]) (by repeat (first|exact Mh|refine List.Mem.tail _ ?_));have r8:=W.p.rd (h:=hh) (ms:=[m,n,p,g,d]) (by repeat (first|exact Mh|refine List.Mem.tail _ ?_));clear hlt hi hR hX hA;refine C<|Ab<|X<|Ax<|J Y<|Ag ?_
  refine AC (λq s h' c=>∃(a:Nat),q=S.su.length-a/\s=[(6,L),(7,A),(8,t),(17,.w a)]/\hh=h'/\c=[m,n,p,g,d]/\a<=S.su.length/\∀b (R:b<S.su.length),b<a->S.su[b]=0)
   (S.su.length-0) _ ⟨0,rfl,rfl,rfl,rfl,Z,λb R h=>Z⟩ Qs ?_
  rintro q s h' c ⟨a,rfl,rfl,rfl,rfl,ha,B⟩;have r6l:=r6.len_le;refine X<|Ax<|D Y Y<|E (Aw r6.rd Y Bb Y) Y<|J Y<|Ay Y (λhl6=>?_)<|λhl6=>?_
  .have P:a<S.su.length:=De hl6;have hca:=r6.cell0 P Y;refine I<|X<|Ag<|Ax<|D Y Y<|E (BP (a) r6.rd Y Bb By Y Y) Y<|Ql Y U3 (hca)<|J Y<|Ay Y (λhq=>?_)<|λhq=>?_
   .refine X<|Ad<|J Y<|Aj<|An<|Ae<|Ae<|An<|Ae ?_;exact Ar Y Y (by rw[Q,ah (λq=>hq (q _ (aq P)))])
   .have hq:S.su[a]=0:=ax λq=>hq q;refine Ah<|D2<|Ad<|G Y<|E (oA Y) Y<|G Y<|Am ?_
    exact Aq (S.su.length-(a+1)) _ Z ⟨a+1,Y,Y,Y,Y,Z,λb R h=>by
     rcases (Z:b<a\/b=a) with h1|rfl
     .exact B b R h1
     .exact hq⟩ Qs
  .have hall:∀y∈S.su,y=0:=λy hy=>by obtain⟨b,R,rfl⟩:=ef.1 hy;exact B b R Z
   rw[af (λq=>q hall)]at Q;clear B hl6 ha;refine C<|Ab<|X<|Ax<|J Y<|Ag ?_
   refine AC (λq s h' c=>∃(a:Nat),q=S.ma.length-a/\s=[(7,A),(8,t),(18,.w a)]/\hh=h'/\c=[m,n,p,g,d]/\a<=S.ma.length/\∀b (R:b<S.ma.length),b<a->S.ma[b]=2)
    (S.ma.length-0) _ ⟨0,rfl,rfl,rfl,rfl,Z,λb R h=>Z⟩ Qs ?_
   rintro q s h' c ⟨a,rfl,rfl,rfl,rfl,ha,B⟩;have r7l:=r7.len_le;refine X<|Ax<|D Y Y<|E (Aw r7.rd Y Bb Y) Y<|J Y<|Ay Y (λhl7=>?_)<|λhl7=>?_
   .have P:a<S.ma.length:=De hl7;have hca:=r7.cell0 P Y;refine I<|X<|Ag<|Ax<|D Y Y<|E (BP (a) r7.rd Y Bb By Y Y) Y<|Ql Y U3 (hca)<|J Y<|Ay Y (λhq=>?_)<|λhq=>?_
    .refine X<|Ad<|J Y<|Aj<|An<|Ae<|Ae<|An<|Ae ?_;exact Ar Y Y (by rw[Q,ah (λq=>hq (q _ (aq P)))])
    .have hq:S.ma[a]=2:=ax λq=>hq q;refine Ah<|D2<|Ad<|G Y<|E (oA Y) Y<|G Y<|Am ?_
     exact Aq (S.ma.length-(a+1)) _ Z ⟨a+1,Y,Y,Y,Y,Z,λb R h=>by
      rcases (Z:b<a\/b=a) with h1|rfl
      .exact B b R h1
      .exact hq⟩ Qs
   .have hall2:∀y∈S.ma,y=2:=λy hy=>by obtain⟨b,R,rfl⟩:=ef.1 hy;exact B b R Z
    rw[af (λq=>q hall2)]at Q;clear B hl7 ha;refine C<|Ab<|X<|Ax<|J Y<|Ag ?_
    refine AC (λq s h' c=>∃(a:Nat),q=S.pa.length-a/\s=[(8,t),(19,.w a)]/\hh=h'/\c=[m,n,p,g,d]/\a<=S.pa.length/\∀b (R:b<S.pa.length),b<a->S.pa[b]=S.pa.getD 0 0)
     (S.pa.length-0) _ ⟨0,rfl,rfl,rfl,rfl,Z,λb R h=>Z⟩ Qs ?_
    rintro q s h' c ⟨a,rfl,rfl,rfl,rfl,ha,B⟩;have r8l:=r8.len_le;refine X<|Ax<|D Y Y<|E (Aw r8.rd Y Bb Y) Y<|J Y<|Ay Y (λhl8=>?_)<|λhl8=>?_
    .have P:a<S.pa.length:=De hl8;have h0l:0<S.pa.length:=Z
     have g0:S.pa.getD 0 0=S.pa[0]:=by simp[List.getD,h0l]
     have hca:=r8.cell0 P Y;have hc0:=r8.cell0 h0l Y;refine I<|X<|Ag<|X<|BK 7 Cx V Y<|Wm Y<|Wm Y<|BS (BP (a) r8.rd Y Bb By Y Y) Y Y<|Wl Y U3 (hca)<|Wm Y<|BS (BP (0) r8.rd Y Bb By Y Y) Y Y<|Wl Y U3 (hc0)<|BB<|J Y<|Ay Y (λhq=>?_)<|λhq=>?_
     .refine X<|Ad<|J Y<|Aj<|An<|Ae<|Ae<|An<|Ae ?_;exact Ar Y Y (by rw[Q,ah (λq=>hq (by rw[<-g0];exact q _ (aq P)))])
     .have hq:S.pa[a]=S.pa.getD 0 0:=by rw[g0];exact ax λq=>hq q
      refine Ah<|D2<|Ad<|G Y<|E (oA Y) Y<|G Y<|Am ?_
      exact Aq (S.pa.length-(a+1)) _ Z ⟨a+1,Y,Y,Y,Y,Z,λb R h=>by
       rcases (Z:b<a\/b=a) with h1|rfl
       .exact B b R h1
       .exact hq⟩ Qs
    .have hall3:∀y∈S.pa,y=S.pa.getD 0 0:=λy hy=>by obtain⟨b,R,rfl⟩:=ef.1 hy;exact B b R Z
     rw[af (λq=>q hall3)]at Q;refine C<|Ab<|Ax<|J Y<|Aj ?_;exact Ar Y Y (by rw[Q])
variable {l:List Cl}
def Hs(o own:List Cl)(i:Nat):Option (Int×Int):=
 if(o.getD i default).id<1\/(0<i/\(o.getD i default).id=(o.getD (i-1) default).id) then some ((o.getD i default).id,20)
 else if CW own (o.getD i default)≠0 then some ((o.getD i default).id,CW own (o.getD i default)) else none
def Ml(o:List Cl)(i:Nat):Option (Int×Int):=
 if(o.getD i default).dim<2 then none
 else if Fh o (o.getD i default)≠0 then some ((o.getD i default).id,Fh o (o.getD i default)) else none
def Hj(l:List Cl):Int×Int:=if 4000<l.length then(0,2) else
 ((range l.length).findSome? (Hs (ordF l) (Hk l))).getD (((range l.length).findSome? (Ml (ordF l))).getD (0,0))
theorem EA{β:Type}{e:Nat->Option β}:∀n,(∀b,b<n->e b=none)->(range n).findSome? e=none
 :=by simp_all
theorem GA{β:Type}{e:Nat->Option β}{a:Nat}{x:β}(h:∀b,b<a->e b=none)(c:e a=some x):∀n,a<n->(range n).findSome? e=some x
 | 0,ha=>Z
 | n+1,ha=>by
  rw[kp,List.findSome?_append];rcases (Z:a<n\/a=n) with d|rfl
  .rw[GA h c n d];rfl
  .rw[EA a h];simp[c]
theorem Sl:∀(l:List Cl) (p:Option Int),(uq p l).Sublist l
 :=by intro x;induction x<;>grind [lg,uq]
theorem O3(l:List Cl):(Hk l).Pairwise λa b=>a.id<=b.id:=(FO l.length l (ak _)).sublist (Sl _ _)
theorem Wi(l:List Cl):(Hk l).length<=l.length:=by
 have:=(Sl (ordF l) none).length_le
 rwa [HD]at this
theorem VV:∀(l:List Cl) (p:Option Int),(∀h:0<l.length,p≠some l[0].id)->(∀i (b:i+1<l.length),l[i].id≠l[i+1].id)->uq p l=l
 | [],_,_,_=>rfl
 | a::l,p,h0,h=>by
  unfold uq
  rw[af (show p≠some a.id from h0 σ),VV l _ (λc=>by
   have:=h 0 (by simp;omega)
   simpa using this) (λi b=>by
   have:=h (i+1) (by simp;omega)
   simpa using this)]
theorem FU{x:Cl}(h:CW l x=0):(0<=x.dim/\x.dim<=8)/\x.sd.length<=64/\(∀i,i<x.sd.length->¬Dt l x i)/\∀i,i<x.sd.length->¬Ca x i:=by
 grind [CW,Ck]
theorem II{i:Nat}(a:i<l.length):l.getD i default=l[i]:=by simp_all
theorem AdN(h:∀b,b<(ordF l).length->Hs (ordF l) (Hk l) b=none){i:Nat}(s:i<(ordF l).length):YM (ordF l) (ordF l)[i]:=by
 have f:∀b (a:b<(ordF l).length),(1<=(ordF l)[b].id/\¬(0<b/\(ordF l)[b].id=((ordF l).getD (b-1) default).id))/\CW (Hk l) (ordF l)[b]=0:=λb a=>by
  have:=h b a;unfold Hs at this;rw[II a]at this;split at this
  .cases this
  .rename_i m;split at this
   .cases this
   .rename_i p;exact⟨⟨Z,λq=>m (.inr q)⟩,fp.1 p⟩
 have n:Hk l=ordF l:=VV _ _ (λ_=>nofun) λb a q=>by have m:=(f (b+1) a).1.2;refine m ⟨Z,?_⟩;rw[show b+1-1=b by omega,II (show b<(ordF l).length by omega)];exact q.symm
 rw[n]at f;have v:=FU (f i s).2
 have g:∀b (a:b<(ordF l).length),∀j,j<(ordF l)[b].sd.length->(Bw (ordF l)[b] j).2=1\/(Bw (ordF l)[b] j).2=-1:=λb a j c=>by have:=(FU (f b a).2).2.2.2 j c;unfold Ca at this;omega
 have d:∀j,j<(ordF l)[i].sd.length->0<=MR (ordF l) (Bw (ordF l)[i] j).1:=λj c=>by have:=v.2.2.1 j c;unfold Dt at this;omega
 have x:∀j,j<(ordF l)[i].sd.length->∃b,∃a:b<(ordF l).length,GP (ordF l) (ordF l)[i] j=(ordF l)[b]:=λj c=>by have m:=d j c;have p:=Re (ordF l) (Bw (ordF l)[i] j).1;exact⟨_,Z,II Z⟩
 refine⟨v.2.1,g i s,d,λj c=>?_,λj c r u=>?_⟩
 .obtain⟨b,a,e⟩:=x j c;rw[e];exact(FU (f b a).2).2.1
 grind [ef,Bs]
structure Aia(l:List Ce):Prop extends CsOk l where
 d:∀a∈l,-9223372036854775807<=a.c.dim/\a.c.dim<=9223372036854775807
theorem IU{c:Cl}(h:c∈ordF l):∃a∈l,c=a.can:=by have:=(Ed l.length l (ak _)).mem_iff.1 h;grind
theorem WM(l:List Ce)(v:Value)(h:Hp)(hK:Aia l)(K:RdC h v l):FnT prog 68 #[.agg #[v]] h [] (λr _ _=>r=.tuple #[.int .i64 (Hj (l.map Ce.c)).1,.int .i64 (Hj (l.map Ce.c)).2]):=by
 have o1:=K.q.rd.one;have hn:=hK.n;refine Au func68 ntmps68 Y Y<|λ_ _=>U<|AK [_] Y Y ξ Y Y Y<|λg1=>G Y<|J Y<|AH λR l1 hS=>?_;have K:=K.up l1;have hA0:=Seg.all hS 0 _ Y;refine X<|U<|Qf Cy Y<|Ql Y B8 (hA0 _)<|E (Aw K.q.rd.any Y B8 Y) Y<|J Y<|Ay Y (λhbig=>?_)<|λhbig=>?_
 .refine X<|Ad<|G Y<|J Y<|Aj<|Ae ?_;exact Cw Y Y Y (by grind [Hj,bb])
 .have S:Hj (l.map Ce.c)=((range l.length).findSome? (Hs (ordF (l.map Ce.c)) (Hk (l.map Ce.c)))).getD (((range l.length).findSome? (Ml (ordF (l.map Ce.c)))).getD (0,0)):=by unfold Hj;rw[af (by grind),bb]
  refine I<|U<|Qf Cy Y<|Ql Y B8 (hA0 _)<|Qc call126 Y (ND (l.length+1) l v R Z Z hK.s K)<|λro h2 ms2 l2 hF=>?_;obtain⟨l2',mo,O,rfl,hOO,B,hOs⟩:=hF;refine BX hOO λh3 l3 hRO=>?_;have l13:=N l2 l3;have K:=K.up l13;have hS:=hS.le l13;have oro:=hRO.rd.one;refine G Y<|BF<|E (oG Y CV Bd<|Seg.any hS) Y<|Qc call74 Y (NN l v h3 hK.toCsOk K)<|λrw_ h4 ms4 l4 hF=>?_;obtain⟨l4',mw,W,rfl,hOW,hW,hWs⟩:=hF;refine BX hOW λA l5 hRW=>?_;have l35:=N l4 l5;have d:RdC A ro O:=⟨hRO.up l35,λa ha=>(hOs a ha).up (N l3 l35)⟩
  have orw:=hRW.rd.one;have lO:O.length=l.length:=by have:=bh List.length B;rwa [bb,HD,bb]at this
  have lW:W.length<=100000:=by have:=bh List.length hW;rw[bb]at this;have:=Wi (l.map Ce.c);rw[bb]at this;omega
  have hOm:∀a∈O,a.c.sd.length<=100000/\-9223372036854775807<=a.c.dim/\a.c.dim<=9223372036854775807:=λa ha=>by
   have R:a.c∈ordF (l.map Ce.c):=by rw[<-B];exact List.mem_map_of_mem ha
   obtain⟨c,hc,e⟩:=IU R;obtain⟨b,hb,rfl⟩:=ai.1 hc;rw[e];exact⟨by show(CS _).length<=_;rw[H8];exact hK.s b hb,hK.d b hb⟩
  have hWst:(W.map Ce.c).Pairwise λa b=>a.id<=b.id:=by rw[hW];exact O3 _
  have hOst:(O.map Ce.c).Pairwise λa b=>a.id<=b.id:=by rw[B];exact FO _ _<|ak _
  have k:∀i (y:i<O.length),(ordF (l.map Ce.c)).getD i default=O[i].c:=λi y=>by grind
  have u:(ordF (l.map Ce.c)).length=O.length:=by rw[<-B,bb]
  obtain⟨o,P⟩:∃o,ordF (l.map Ce.c)=o:=⟨_,Y⟩
  obtain⟨w,hw⟩:∃w,Hk (l.map Ce.c)=w:=⟨_,Y⟩
  rw[P,hw,<-lO]at S;rw[P]at k u
  have hsec:(∀b,b<O.length->Hs o w b=none)->∀i (y:i<O.length),YM o O[i].c:=λh i y=>by
   grind [AdN,ordF,II]
  rw[hw]at hW;rw[P]at B;refine J Y<|X<|U<|J Y<|Ag ?_
  refine AC (λq s Q t=>∃(i:Nat),q=O.length-i/\s=[(4,ro),(5,rw_),(6,.w i)]/\A=Q/\t=[]/\i<=O.length/\∀b,b<i->Hs o w b=none)
   (O.length-0) _ ⟨0,rfl,rfl,rfl,rfl,Z,λb hb=>Z⟩ Qs ?_
  rintro q s Q t ⟨i,rfl,rfl,rfl,rfl,y,z⟩;refine X<|U<|D Y Y<|E (Aw d.q.rd.any Y B8 Y) Y<|J Y<|Ay Y (λhlt=>?_)<|λhlt=>?_
  .have f:i<O.length:=De hlt;have gi:=k i f;have n:=λj=>(d.q.any (ms:=j)).cell0 f Y;have T:∀j,Seg A j ((AJ ro).add (i*3)) (cC O[i]):=λj=>(d.q.any (ms:=j)).seg f;have oiv:=(d.s _ (aq f)).rd.one;have m:∀p,Hs o w i=some p->Hj (l.map Ce.c)=p:=λp hp=>by grind [GA]
   have g:Hs o w i=none->∀b,b<i+1->Hs o w b=none:=λh b hb=>by
    grind
   obtain⟨hm1,hm2⟩:=hOm _ (aq f);refine I<|X<|Ag<|Bu (λs Q t=>s=[(4,ro),(5,rw_),(6,.w i)]/\A=Q/\t=[]/\¬(O[i].c.id<1\/(0<i/\O[i].c.id=(o.getD (i-1) default).id))) ?_<|λs h j hI=>?_
   .refine X<|BK 21 Cx V Y<|Wm Y<|Wm Y<|BS (BP (i) d.q.rd.any Y B8 A9 Y Y) Y Y<|Wf B7 Y<|Wl Y U3 (n _)<|Wm Y<|Wm Y<|Dd (t:=31) Y (λg1=>?_)<|λg1=>?_
    .refine AF Y Y Y Y Y<|AF Y Y Y Y Y<|AF Y Y Y Y Y<|A3 Y Y Y Y<|A3 Y Y Y Y<|A3 Y Y Y Y<|A3 Y Y Y Y<|A3 Y Y Y Y<|A3 Y Y Y Y<|A3 Y Y Y Y<|A3 Y Y Y Y<|A3 Y Y Y Y<|A3 Y Y Y Y<|A3 Y Y Y Y<|BB<|Bh Y Y Y Y Y Y<|Qk Y<|J Y<|A4 Y<|U<|D Y Y<|E (BP (i) d.q.rd.any Y B8 A9 Y Y) Y<|Qf B7 Y<|Ql Y U3 (n _)<|G Y<|J Y<|Aj<|Ae<|An<|Ae<|Ae<|An<|Ae ?_;exact Cw Y Y Y (by grind [Hs])
    .refine AV (Ap Y Y) Y Y Y Y<|AV (CE Y Y Y) Y Y Y Y<|AV (Ap Y Y) Y Y Y Y<|Dd (t:=34) Y (λg2=>?_)<|λg2=>?_
     .have hip:i-1<O.length:=Z
      have gp:=k (i-1) hip;have hcp:=λj=>(d.q.any (ms:=j)).cell0 hip Y;refine AV (Ap Y Y) Y Y Y Y<|AV (Ap Y Y) Y Y Y Y<|AV (BP (i) d.q.rd.any Y B8 A9 Y Y) Y Y Y Y<|AV (oF B7 Y) Y Y Y Y<|AV (oL Y U3<|n _) Y Y Y Y<|AV (Ap Y Y) Y Y Y Y<|AV (Ap Y Y) Y Y Y Y<|AV (oS Y) Y Y Y Y<|AV (BP (i-1) d.q.rd.any Y B8 A9 Y Y) Y Y Y Y<|AV (oF B7 Y) Y Y Y Y<|AV (oL Y U3<|hcp _) Y Y Y Y<|BB<|Qg (Cq Y Y Y) Y<|Qg (Cf Y Y Y) Y<|J Y<|Ay Y (λg3=>?_)<|λg3=>?_
      .refine X<|Ad<|D Y Y<|E (BP (i) d.q.rd.any Y B8 A9 Y Y) Y<|Qf B7 Y<|Ql Y U3 (n _)<|G Y<|J Y<|Aj<|Ae<|An<|Ae<|Ae<|An<|Ae ?_;exact Cw Y Y Y (by grind [Hs])
      .refine Ah ?_;exact AI _ ⟨Y,Y,Y,λq=>by grind⟩ Qs
     .refine AF Y Y Y Y Y<|AF Y Y Y Y Y<|AF Y Y Y Y Y<|AF Y Y Y Y Y<|AF Y Y Y Y Y<|AF Y Y Y Y Y<|AF Y Y Y Y Y<|AF Y Y Y Y Y<|AF Y Y Y Y Y<|AF Y Y Y Y Y<|AF Y Y Y Y Y<|BB<|Qk Y<|Qg (Bv Y Y Y) Y<|J Y<|AM Y<|Ah ?_;exact AI _ ⟨Y,Y,Y,λq=>by omega⟩ Qs
   .obtain⟨rfl,rfl,rfl,hok⟩:=hI;have hA1:Hs o w i=if CW w O[i].c≠0 then some (O[i].c.id,CW w O[i].c) else none:=by unfold Hs;rw[gi,af hok]
    have hfv:=λj=>Ae5 W O[i] rw_ A lW hm1 hm2 hWst hRW (d.s _ (aq f)) j;rw[hW]at hfv;refine U<|D Y Y<|G Y<|E (BP (i) d.q.rd.any Y B8 A9 Y Y) Y<|E (oG Y Kr A9<|T _) Y<|E (As Y call127 Y<|hfv _) Y<|G Y<|BF<|G Y<|J Y<|Ay Y (λg4=>?_)<|λg4=>?_
    .refine X<|Ad<|D Y Y<|E (BP (i) d.q.rd.any Y B8 A9 Y Y) Y<|Qf B7 Y<|Ql Y U3 (n _)<|D Y Y<|J Y<|Aj<|An<|Ae<|Ae<|An<|Ae ?_;exact Cw Y Y Y (by grind)
    .refine Ah<|D2<|Ad<|G Y<|E (oA Y) Y<|G Y<|Am ?_;exact Aq (O.length-(i+1)) _ Z ⟨i+1,Y,Y,Y,Y,Z,g (by simp_all)⟩ Qs
  .obtain rfl:i=O.length:=Z
   have L:Hj (l.map Ce.c)=((range O.length).findSome? (Ml o)).getD (0,0):=by rw[S,EA _ z];rfl
   have hsecO:=hsec z;refine C<|Ab<|X<|U<|J Y<|Ag ?_
   refine AC (λq s Q t=>∃(i:Nat),q=O.length-i/\s=[(4,ro),(8,.w i)]/\A=Q/\t=[]/\i<=O.length/\∀b,b<i->Ml o b=none)
    (O.length-0) _ ⟨0,rfl,rfl,rfl,rfl,Z,λb hb=>Z⟩ Qs ?_
   rintro q s Q t ⟨i,rfl,rfl,rfl,rfl,y,x⟩;refine X<|U<|D Y Y<|E (Aw d.q.rd.any Y B8 Y) Y<|J Y<|Ay Y (λM=>?_)<|λM=>?_
   .have f:i<O.length:=De M;have gi:=k i f;have n:=λj=>(d.q.any (ms:=j)).cell0 f Y;have hcd:=λj=>(d.q.any (ms:=j)).cell f (f:=1) Y;have T:∀j,Seg A j ((AJ ro).add (i*3)) (cC O[i]):=λj=>(d.q.any (ms:=j)).seg f;have oiv:=(d.s _ (aq f)).rd.one;have m:∀p,Ml o i=some p->Hj (l.map Ce.c)=p:=λp hp=>by grind [GA]
    have g:Ml o i=none->∀b,b<i+1->Ml o b=none:=λh b hb=>by
     grind
    refine I<|X<|Ag<|X<|U<|D Y Y<|E (BP (i) d.q.rd.any Y B8 A9 Y Y) Y<|Qf Co Y<|Ql Y U3 (hcd _)<|J Y<|Ay Y (λg5=>?_)<|λg5=>?_
    .refine Az<|Aa<|Af<|Ab<|Ad<|G Y<|E (oA Y) Y<|G Y<|Am ?_;exact Aq (O.length-(i+1)) _ Z ⟨i+1,Y,Y,Y,Y,Z,g (by grind [Ml])⟩ Qs
    .have hB1:Ml o i=if Fh o O[i].c≠0 then some (O[i].c.id,Fh o O[i].c) else none:=by unfold Ml;rw[gi,af g5]
     have hsv:=λj=>D9 (Zj O O[i] ro A Z (by grind) hOst d (d.s _ (aq f))) j;rw[B]at hsv;refine I<|U<|D Y Y<|G Y<|E (BP (i) d.q.rd.any Y B8 A9 Y Y) Y<|E (oG Y Kr A9<|T _) Y<|E (As Y call128 Y<|hsv _) Y<|G Y<|BF<|G Y<|J Y<|Ay Y (λg6=>?_)<|λg6=>?_
     .refine X<|Ad<|D Y Y<|E (BP (i) d.q.rd.any Y B8 A9 Y Y) Y<|Qf B7 Y<|Ql Y U3 (n _)<|D Y Y<|J Y<|Aj<|An<|Ae<|Ae<|An<|Ae ?_;exact Cw Y Y Y (by grind)
     .refine Ah<|D2<|Ad<|G Y<|E (oA Y) Y<|G Y<|Am ?_;exact Aq (O.length-(i+1)) _ Z ⟨i+1,Y,Y,Y,Y,Z,g (by grind)⟩ Qs
   .obtain rfl:i=O.length:=Z
    refine C<|Ab<|U<|G Y<|J Y<|Aj ?_;exact Cw Y Y Y (by grind)
end
def Gm:List Int->List Int->Bool
 | x::a,y::b=>if x=y then Gm a b else decide (x<y)
 | _,_=>false
def DP(a b:List Int):Bool:=if a.length≠b.length then decide (a.length<b.length) else Gm a b
theorem UN(a b:List Int)(p r:Value)(h:Hp)(c:RdL cI 1 h [] p a)(d:RdL cI 1 h [] r b)(x:List Hp):FnV prog 131 #[p,r] h x (.bool (DP a b)):=by
 refine D9 ?_ x;have o1:=c.rd.one;have M:=d.rd.one;have K:=c.len_le;have L:=d.len_le;refine Au func131 ntmps131 Y Y<|λ_ _=>U<|J Y<|X<|U<|G Y<|E (Aw c.rd.any Y Bb Y) Y<|G Y<|E (Aw d.rd.any Y Bb Y) Y<|J Y<|Ay Y (λy=>?_)<|λy=>?_
 .refine X<|Ad<|G Y<|E (Aw c.rd.any Y Bb Y) Y<|G Y<|E (Aw d.rd.any Y Bb Y) Y<|G Y<|J Y<|Aj<|Ae ?_;exact Ar Y Y (by unfold DP;rw[ah Z];simp_all)
 .have z:a.length=b.length:=Z
  have f:DP a b=Gm a b:=by unfold DP;rw[af (λq=>q z)]
  refine I<|X<|U<|J Y<|Ag ?_
  refine AC (λq s u n=>∃(i:Nat),q=a.length-i/\s=[(0,p),(1,r),(5,.w i)]/\h=u/\n=[]/\i<=a.length/\Gm a b=Gm (a.drop i) (b.drop i))
   (a.length-0) _ ⟨0,rfl,rfl,rfl,rfl,Z,rfl⟩ Qs ?_
  rintro q s u n ⟨i,rfl,rfl,rfl,rfl,B,t⟩;refine X<|U<|D Y Y<|E (Aw c.rd.any Y Bb Y) Y<|J Y<|Ay Y (λm=>?_)<|λm=>?_
  .have k:i<a.length:=De m;have l:i<b.length:=Z
   have g:Cell h [] ((AJ p).add (i*1)) (.w a[i]):=c.cell0 k Y;have j:Cell h [] ((AJ r).add (i*1)) (.w b[i]):=d.cell0 l Y
   have v:Gm (a.drop i) (b.drop i)=if a[i]=b[i] then Gm (a.drop (i+1)) (b.drop (i+1)) else decide (a[i]<b[i]):=by rw[fw k,fw l];rfl
   refine I<|X<|Ag<|X<|BK 8 Cx V Y<|Wm Y<|Wm Y<|BS (BP (i) c.rd.any Y Bb By Y Y) Y Y<|Wl Y U3 (g)<|Wm Y<|Wm Y<|BS (BP (i) d.rd.any Y Bb By Y Y) Y Y<|Wl Y U3 (j)<|BB<|J Y<|Ay Y (λe=>?_)<|λe=>?_
   .refine X<|BK 8 Cx V Y<|Wm Y<|Wm Y<|BS (BP (i) c.rd.any Y Bb By Y Y) Y Y<|Wl Y U3 (g)<|Wm Y<|Wm Y<|BS (BP (i) d.rd.any Y Bb By Y Y) Y Y<|Wl Y U3 (j)<|BB<|G Y<|J Y<|Aj<|An<|Ae<|Ae<|An<|Ae ?_;exact Ar Y Y (by simp_all)
   .have e:a[i]=b[i]:=ax λq=>e q;refine Ah<|D2<|Ad<|G Y<|E (oA Y) Y<|G Y<|Am ?_;exact Aq (a.length-(i+1)) _ Z ⟨i+1,Y,Y,Y,Y,Z,by simp_all⟩ Qs
  .obtain rfl:i=a.length:=Z
   refine C<|Ab<|U<|J Y<|Aj ?_;exact Ar Y Y (by rw[f,t,List.drop_length];rfl)
def Kh(x:Int)(l:List Int):List Int:=l.takeWhile (λy=>decide (y<x))++x::l.dropWhile (λy=>decide (y<x))
def N0(x:Int)(l:List Int):Prop:=(l.dropWhile λy=>decide (y<x)).head?=some x
instance (x:Int) (l:List Int):Decidable (N0 x l):=by unfold N0;infer_instance
def Ew:List Int->List Int->Option (List Int)
 | acc,[]=>some acc
 | acc,x::l=>if N0 x acc then Ew acc l else if x<0\/9<(Kh x acc).length then none else Ew (Kh x acc) l
theorem AcK{x:Int}{l:List Int}{k:Nat}(b:k<=l.length)(g:∀j (d:j<l.length),j<k->l[j]<x)(i:∀b:k<l.length,¬l[k]<x):Kh x l=l.take k++x::l.drop k/\(N0 x l<->∃h:k<l.length,l[k]=x):=by
 obtain⟨e,f⟩:=Ft (λy:Int=>decide (y<x)) l k b (λj d c=>bp (g j d c)) (λb=>dx (i b));unfold Kh N0;rw[e,f];refine⟨Y,?_⟩;rw[List.head?_drop];grind
theorem Vk(x:Int)(l:List Int):(Kh x l).length=l.length+1:=by grind [Kh,List.length,List.takeWhile_append_dropWhile,Int,decide,ag,de]
def AhA(r:Value)(ms:List Hp):Option (List Int)->Prop
 | some l=>∃v m,ms=[m]/\r=.tuple #[v,.bool true]/\OwnL cI 1 3 m v l
 | none=>r=.tuple #[.nl,.bool false]
theorem Agn(l:List Int)(v:Value)(h:Hp)(hl:l.length<=100000)(u:RdL cI 1 h [] v l):FnT prog 78 #[v] h [] (λr f b=>h=f/\AhA r b (Ew [] l)):=by
 have o1:=u.rd.one;refine Au func78 ntmps78 Y Y<|λ_ _=>U<|D Y Y<|BF<|J Y<|X<|U<|J Y<|Ag<|BW ?_
 refine AC (λq s f b=>∃(i:Nat) (n:Value) (e:Hp) (a:List Int),q=l.length-i/\s=[(0,v),(4,n),(5,.w i)]/\h=f/\b=[e]/\i<=l.length/\a.length<=9/\OwnL cI 1 3 e n a/\Ew [] l=Ew a (l.drop i))
  (l.length-0) _ ⟨0,_,Hp.emp,[],rfl,rfl,rfl,rfl,Z,by simp,OwnL.nil Bf,rfl⟩ Qs ?_
 rintro q s f b ⟨i,n,e,a,rfl,rfl,rfl,rfl,hi,ha9,B,d⟩;refine X<|U<|D Y Y<|E (Aw u.rd.any Y Bb Y) Y<|J Y<|Ay Y (λO=>?_)<|λO=>?_
 .have L:i<l.length:=De O;have c:=B.rd (h:=h) (ms:=[e]) Mh;have ovo:n.oneCell'=true:=c.rd.one;have t:=λms=>(u.any (ms:=ms)).cell0 L Y;have hd:Ew a (l.drop i)=if N0 l[i] a then Ew a (l.drop (i+1)) else if l[i]<0\/9<(Kh l[i] a).length then none else Ew (Kh l[i] a) (l.drop (i+1)):=by rw[fw L];rfl
  rw[hd]at d;refine I<|X<|Ag<|U<|J Y<|Bu (λs f b=>∃(k:Nat),s=[(0,v),(4,n),(5,.w i),(6,.w k)]/\h=f/\b=[e]/\k<=a.length/\Kh l[i] a=a.take k++l[i]::a.drop k/\(N0 l[i] a<->∃h:k<a.length,a[k]=l[i])) ?_<|λs h ms T=>?_
  .refine Ag ?_
   refine AC (λq s f b=>∃(k:Nat),q=a.length-k/\s=[(0,v),(4,n),(5,.w i),(6,.w k)]/\h=f/\b=[e]/\k<=a.length/\∀j (hj:j<a.length),j<k->a[j]<l[i])
    (a.length-0) _ ⟨0,rfl,rfl,rfl,rfl,Z,λj hj h=>Z⟩ Qs ?_
   rintro q s f b ⟨k,rfl,rfl,rfl,rfl,y,z⟩;refine X<|X<|BK 13 Cx V Y<|Wm Y<|Wm Y<|BS (Aw c.rd Y Bb Y) Y Y<|Wm Y<|Wm Y<|Dd (t:=18) Y (λP=>?_)<|λP=>?_
   .have m:k<a.length:=De P;have x:Cell h [e] ((AJ n).add (k*1)) (.w a[k]):=c.cell0 m Y;refine AV (Ap Y Y) Y Y Y Y<|AV (Ap Y Y) Y Y Y Y<|AV (BP (k) c.rd Y Bb By Y Y) Y Y Y Y<|AV (oL Y U3<|x) Y Y Y Y<|AV (Ap Y Y) Y Y Y Y<|AV (Ap Y Y) Y Y Y Y<|AV (BP (i) u.rd.any Y Bb By Y Y) Y Y Y Y<|AV (oL Y U3<|t _) Y Y Y Y<|BB<|Qg (Dw Y Y Y) Y<|J Y<|Ay Y (λA=>?_)<|λA=>?_
    .refine I<|Ag<|Ad<|G Y<|E (oA Y) Y<|G Y<|Am<|Ai ?_
     exact Aq (a.length-(k+1)) _ Z ⟨k+1,Y,Y,Y,Y,Z,λj hj h=>by
      rcases (Z:j<k\/j=k) with h1|rfl
      .exact z j hj h1
      .exact A⟩ Qs
    .refine C<|AI _ ⟨k,Y,Y,Y,y,AcK y z λ_=>A⟩ Qs
   .have m:k=a.length:=Z
    refine AF Y Y Y Y Y<|AF Y Y Y Y Y<|AF Y Y Y Y Y<|AF Y Y Y Y Y<|AF Y Y Y Y Y<|AF Y Y Y Y Y<|AF Y Y Y Y Y<|AF Y Y Y Y Y<|BB<|Qk Y<|J Y<|AM Y<|C<|AI _ ⟨k,Y,Y,Y,y,AcK y z λh=>lj h Z⟩ Qs
  .obtain⟨k,rfl,rfl,rfl,y,M,g⟩:=T;have hil2:=Vk l[i] a;refine Bu (λs f b=>s=[(0,v),(4,n),(5,.w i),(6,.w k)]/\h=f/\b=[e]/\¬N0 l[i] a) ?_<|λs h ms T=>?_
   .refine X<|BK 13 Cx V Y<|Wm Y<|Wm Y<|BS (Aw c.rd Y Bb Y) Y Y<|Wm Y<|Wm Y<|Dd (t:=35) Y (λg1=>?_)<|λg1=>?_
    .have m:k<a.length:=De g1;have x:Cell h [e] ((AJ n).add (k*1)) (.w a[k]):=c.cell0 m Y;refine AV (Ap Y Y) Y Y Y Y<|AV (Ap Y Y) Y Y Y Y<|AV (BP (k) c.rd Y Bb By Y Y) Y Y Y Y<|AV (oL Y U3<|x) Y Y Y Y<|AV (Ap Y Y) Y Y Y Y<|AV (Ap Y Y) Y Y Y Y<|AV (BP (i) u.rd.any Y Bb By Y Y) Y Y Y Y<|AV (oL Y U3<|t _) Y Y Y Y<|BB<|Qg (Cq Y Y Y) Y<|J Y<|Ay Y (λQ=>?_)<|λQ=>?_
     .rw[ah (g.2 ⟨m,Q⟩)]at d;refine Az<|Aa<|Af<|Ab<|Ad<|G Y<|E (oA Y) Y<|G Y<|Am<|Aq (l.length-(i+1)) _ Z ⟨i+1,n,e,a,Y,Y,Y,Y,Z,ha9,B,d⟩ Qs
     .refine Ah<|AI _ ⟨Y,Y,Y,λq=>Q (g.1 q).2⟩ Qs
    .refine AF Y Y Y Y Y<|AF Y Y Y Y Y<|AF Y Y Y Y Y<|AF Y Y Y Y Y<|AF Y Y Y Y Y<|AF Y Y Y Y Y<|AF Y Y Y Y Y<|AF Y Y Y Y Y<|BB<|Qk Y<|J Y<|AM Y<|Ah<|AI _ ⟨Y,Y,Y,λq=>lj (g.1 q).1 Z⟩ Qs
   .obtain⟨rfl,rfl,rfl,hnh⟩:=T;rw[af hnh]at d;refine X<|BK 8 Cx V rfl<|Wm rfl<|Wm rfl<|BS (BP (i) u.rd.any rfl Bb By rfl rfl) rfl rfl<|Wl rfl U3 (t _)<|Ahz (Ip [_] rfl Bb By rfl ξ rfl rfl Z) rfl rfl<|Wm rfl<|Wm rfl<|BS (Dm (k) c.rd rfl Bb By rfl rfl Z Z) rfl rfl<|Xx<|λR=>AL 0 (OwnL.blk (g:=R) (el:=3) (F:=cI) (l:=[l[i]]) 1 Bf rfl H) ((B.rd (h:=h)<|List.Mem.tail _ Mh).sub_ y<|ak _) rfl Bb By rfl Z rfl rfl rfl BY (by(try simp only[ae,fv,ag,bf,br,aw]);omega) (by(try simp only[ae,fv,ag,bf,br,aw]);omega) rfl rfl rfl<|λv6 m6 K=>?_;have ov6:=K.o1;refine G rfl<|BF ?_;refine AX [] [] [] rfl Bb By rfl Z V (by repeat (first|exact fu|refine⟨⟨by first|rfl|exact(c.rd).cells|exact Rd.cells ‹_›|exact(RdL.rd ‹_›).cells,rfl,rfl⟩,?_⟩)) rfl rfl rfl rfl<|λS=>?_;refine G rfl<|G rfl<|E (Iz (k) c.rd rfl Bb By rfl rfl Z Z) rfl<|AL 0 (Gs S Bf) ((B.rd (h:=h)<|List.Mem.tail _<|List.Mem.tail _ Mh).sub_ (fm _) y) rfl Bb By rfl Z rfl rfl rfl BY (by(try simp only[ae,fv,ag,bf,br,aw]);omega) (by(try simp only[ae,fv,ag,bf,br,aw]);omega) rfl rfl rfl<|λv7 m7 hO7=>G rfl<|AL 0 hO7 (K.rd (h:=h)<|List.Mem.tail _ Mh) rfl Bb By rfl Z rfl rfl rfl BY (by(try simp only[ae,fv,ag,bf,br,aw]);omega) (by(try simp only[ae,fv,ag,bf,br,aw]);omega) rfl rfl rfl<|λv8 m8 p=>?_
    have heq:[]++(a.drop 0).take (k-0)++([l[i]]++(a.drop k).take (a.length-k))=Kh l[i] a:=by rw[M,js,ix,bm (l:=a.drop k) (by rw[br];omega)];rfl
    rw[heq]at p;have ov8:=p.o1;refine J Y<|Af0 (Goes.perm<|db (l₁:=[m8]) (l₂:=[m6,e]))<|AaU<|AaU<|U<|D Y Y<|E (BP (i) u.rd.any Y Bb By Y Y) Y<|Ql Y U3 (t _)<|D Y Y<|AY (t:=67) Y (λg3=>?_)<|λg3=>?_
    .rw[ah (.inl g3)]at d;refine DM Y Y<|Qk Y<|J Y<|A4 Y<|U<|G Y<|J Y<|Aj<|An<|Ae<|Ae<|An<|Ae ?_;exact Cw Y Y Y (⟨Y,by rw[d];rfl⟩)
    .refine Qg (Ap Y Y) Y<|Qg (Ky (p.rd (h:=h) (ms:=[m8]) Mh).rd Y Bb Y) Y<|Qg (CE Y Y Y) Y<|J Y<|Ay Y (λg4=>?_)<|λg4=>?_
     .rw[ah (.inr Z)]at d;refine U<|G Y<|J Y<|Aj<|An<|Ae<|Ae<|An<|Ae ?_;exact Cw Y Y Y (⟨Y,by rw[d];rfl⟩)
     .rw[af Z]at d;refine Ah<|D2<|Ad<|G Y<|E (oA Y) Y<|G Y<|Am<|Aq (l.length-(i+1)) _ Z ⟨i+1,v8,m8,_,Y,Y,Y,Y,Z,Z,p,d⟩ Qs
 .have hie:i=l.length:=Z
  rw[hie,List.drop_length]at d;have d:Ew [] l=some a:=d;refine C<|Ab<|U<|D Y Y<|J Y<|Aj ?_;exact Cw Y Y Y (⟨Y,by rw[d];exact⟨n,e,Y,Y,B⟩⟩)
def cW(v:Value):List Value:=[v]
theorem OD:∀v,(cW v).length=1:=λ_=>rfl
def RdEs(h:Hp)(es:List Value)(ll:List (List Int)):Prop:=es.length=ll.length/\∀i (h1:i<es.length) (h2:i<ll.length),RdL cI 1 h [] es[i] ll[i]
theorem RdEs.up{h b:Hp}{a:List Value}{c:List (List Int)}(R:RdEs h a c)(l:h.le b):RdEs b a c:=⟨R.1,λi d e=>(R.2 i d e).up l⟩
def EI(ll:List (List Int))(s:List Int):Nat:=(ll.takeWhile λt=>DP t s).length
def DS(ll:List (List Int))(s:List Int):Nat×Bool:=(EI ll s,match ll[EI ll s]? with|some t=>!DP s t|none=>false)
theorem AdM{a:List (List Int)}{s:List Int}{k:Nat}(b:k<=a.length)(d:∀j (f:j<a.length),j<k->DP a[j] s=true)(e:∀b:k<a.length,DP a[k] s=false):EI a s=k:=by obtain⟨c,_⟩:=Ft (λt=>DP t s) a k b d e;grind [EI,bf]
theorem XD(a:List (List Int))(s:List Int)(r:List Value)(v R:Value)(h:Hp)(hn:a.length<=1000000)(T:∀i j (c:i<a.length) (g:j<a.length),i<=j->DP a[j] s=true->DP a[i] s=true)(k:RdL cW 1 h [] v r)(t:RdEs h r a)(B:RdL cI 1 h [] R s)(ms:List Hp):FnV prog 79 #[v,R] h ms (.tuple #[.int .i64 (DS a s).1,.bool (DS a s).2]):=by
 refine D9 ?_ ms;have o1:=k.rd.one;have o2:=B.rd.one;have O:=t.1;refine Au func79 ntmps79 Y Y<|λ_ _=>U<|D Y Y<|BF<|G Y<|BF<|G Y<|E (Aw k.rd.any Y Ks Y) Y<|J Y<|X<|Ag ?_
 refine AC (λq sl S z=>∃(b c:Nat),q=c-b/\sl=[(0,v),(1,R),(6,.w b),(7,.w c)]/\h=S/\z=[]/\b<=c/\c<=a.length/\(∀j (g:j<a.length),j<b->DP a[j] s=true)/\∀j (g:j<a.length),c<=j->DP a[j] s=false)
  (a.length-0) _ ⟨0,a.length,rfl,by rw[<-O],rfl,rfl,Z,Z,λj g h=>Z,λj g h=>Z⟩ Qs ?_
 rintro q sl S z ⟨b,c,rfl,rfl,rfl,rfl,hlh,M,x,u⟩;refine X<|U<|D Y Y<|J Y<|Ay Y (λP=>?_)<|λP=>?_
 .obtain⟨m,hmm⟩:∃m,(b+c)/2=m:=⟨_,Y⟩
  have f:m<a.length:=Z
  have n:m<r.length:=Z
  have Q:((b:Int)+c)/2=(m:Int):=Z
  have L:Cell h [] ((AJ v).add (m*1)) r[m]:=k.cell0 n Y;have oem:=(t.2 m n f).rd.one;refine I<|Ag<|U<|D Y Y<|E (oA Y) Y<|E (Ek Y Y Y Z Z) Y<|J Y ?_;rw[Q];refine U<|D Y Y<|E (BP (m) k.rd.any Y Ks Fv Y Y) Y<|Ql Y Bb (L)<|G Y<|E (As Y call131 Y<|UN a[m] s _ _ h (t.2 m n f) B _) Y<|Ao<|B1 Y (λA=>?_)<|λA=>?_
  .refine Ad<|G Y<|E (oA Y) Y<|G Y<|Am<|Ai<|Aq (c-(m+1)) _ Z ⟨m+1,c,Y,Y,Y,Y,Z,Z,λj g h=>T j m g f Z A,u⟩ Qs
  .refine Ad<|D Y Y<|Am<|Ai ?_
   exact Aq (m-b) _ Z ⟨b,m,Y,Y,Y,Y,Z,Z,x,λj g h=>by
    grind⟩ Qs
 .obtain rfl:b=c:=Z
  have d:EI a s=b:=AdM M x λhk=>u b hk (ak _);have y:(DS a s).1=b:=d;refine C<|Ab<|U<|D Y Y<|G Y<|E (Aw k.rd.any Y Ks Y) Y<|D Y Y<|AY (t:=32) Y (λg1=>?_)<|λg1=>?_
  .have l:b<a.length:=Z
   have e:b<r.length:=Z
   have K:Cell h [] ((AJ v).add (b*1)) r[b]:=k.cell0 e Y;have oel:=(t.2 b e l).rd.one;have p:(DS a s).2=!DP s a[b]:=by unfold DS;rw[d,aj l]
   refine Qg (Ap Y Y) Y<|Qg (Ap Y Y) Y<|Qg (Ap Y Y) Y<|Qg (BP (b) k.rd.any Y Ks Fv Y Y) Y<|Qg (oL Y Bb<|K) Y<|Qg (As Y call131 Y<|UN s a[b] _ _ h B (t.2 b e l) _) Y<|Qg (Dg Y Y) Y<|D Y Y<|J Y<|Aj ?_;exact Cw Y Y Y (by rw[y,p])
  .have p:(DS a s).2=false:=by unfold DS;rw[d,fk Z]
   refine DM Y Y<|DM Y Y<|DM Y Y<|Qk Y<|D Y Y<|J Y<|Aj ?_;exact Cw Y Y Y (by rw[y,p])
section
variable {all:List (List Int)} {a b:List Int}
theorem TZ:∀a:List Int,Gm a a=false
 :=by intro x;induction x<;>grind [Gm]
theorem OA:∀{a b c:List Int},Gm a b=true->Gm b c=true->Gm a c=true
 | x::a,y::b,z::c,d,e=>by
  unfold Gm at *;by_cases g:x=y
  .subst g;rw[ah rfl]at d;by_cases f:x=z
   .subst f;rw[ah rfl]at e ⊢;exact OA d e
   .rw[af f]at e ⊢;exact e
  .rw[af g]at d;have d:=dd d;by_cases f:y=z
   .subst f;rw[af g];exact bp d
   .rw[af f]at e;have e:=dd e;rw[af Z];exact bp Z
 | [],_,_,d,_=>by cases d
 | _::_,[],_,d,_=>by cases d
 | _::_,_::_,[],_,e=>by cases e
theorem Nn:∀{a b:List Int},a.length=b.length->a≠b->Gm a b=true\/Gm b a=true
 | [],[],_,h=>lj rfl h
 | x::a,y::b,hl,h=>by
  unfold Gm;by_cases e:x=y
  .subst e;rw[ah rfl,ah rfl];exact Nn (by simpa using hl)<|λq=>h (by rw[q])
  .rw[af e,af (λq=>e q.symm)];rcases Int.lt_or_gt_of_ne e with c|c
   .exact .inl<|bp c
   .exact .inr<|bp c
 | [],_::_,hl,_=>by simp at hl
 | _::_,[],hl,_=>by simp at hl
theorem befF_iff:DP a b=true<->a.length<b.length\/(a.length=b.length/\Gm a b=true):=by
 grind [DP]
theorem IB(a:List Int):DP a a=false:=by
 grind [DP,befF_iff,TZ]
theorem Nm{c:List Int}(d:DP a b=true)(e:DP b c=true):DP a c=true:=by
 grind [befF_iff,OA]
theorem OJ(h:a≠b):DP a b=true\/DP b a=true:=by
 grind [befF_iff,iz,Nn]
def SrtB(all:List (List Int)):Prop:=all.Pairwise λa b=>DP a b=true
theorem SrtB.mono(g:SrtB all)(s:List Int):∀i j (c:i<all.length) (d:j<all.length),i<=j->DP all[j] s=true->DP all[i] s=true:=λi j c d f h=>by
 rcases (Z:i=j\/i<j) with rfl|e
 .exact h
 .exact Nm (bw.1 g i j c d e) h
theorem KP(c:List (List Int))(s:List Int):EI c s<=c.length:=(ku _).length_le
theorem Rf{α:Type}(p:α->Bool):∀l:List α,(∀j (c:j<l.length),j<(l.takeWhile p).length->p l[j]=true)/\∀h:(l.takeWhile p).length<l.length,p l[(l.takeWhile p).length]=false
 | []=>⟨λj c=>lj c σ,λh=>lj h σ⟩
 | a::l=>by
  obtain⟨f,g⟩:=Rf p l;grind [List.takeWhile,de]
theorem Kt(c:List (List Int))(s:List Int){j:Nat}(d:j<c.length)(h:j<EI c s):DP c[j] s=true:=(Rf (λt=>DP t s) c).1 j d h
theorem Ly{c:List (List Int)}{s:List Int}(d:EI c s<c.length):DP c[EI c s] s=false:=(Rf (λt=>DP t s) c).2 d
theorem Pm(m:SrtB all){s:List Int}:(DS all s).2=true<->s∈all:=by
 have l:=KP all s;unfold DS;show(match all[EI all s]? with|some t=>!DP s t|none=>false)=true<->_;by_cases f:EI all s<all.length
 .rw[aj f];have g:=Ly f;show(!DP s all[EI all s])=true<->_;constructor
  .grind [DP,EI,OJ,aq]
  .intro h;obtain⟨j,d,rfl⟩:=ef.1 h;rcases iz j (EI all all[j]) with c|c|c
   .have:=Kt all all[j] d c;grind [IB]
   .grind
   .have i:=bw.1 m _ j f d c;simp_all
 .rw[fk Z];refine⟨λh=>(nomatch h),λh=>?_⟩;obtain⟨j,d,rfl⟩:=ef.1 h;have:=Kt all all[j] d Z;grind [IB]
theorem TB(h:SrtB all){j:Nat}(e:j<all.length):(DS all all[j]).1=j:=by
 show EI all all[j]=j;have g:=KP all all[j];rcases iz j (EI all all[j]) with c|c|c
 .have:=Kt all all[j] e c;grind [IB]
 .omega
 .have f:EI all all[j]<all.length:=Z
  have d:=bw.1 h _ j f e c;grind [Ly]
def Ir(all:List (List Int))(s:List Int):List (List Int):=if(DS all s).2 then all else all.take (EI all s)++s::all.drop (EI all s)
theorem TT(A:SrtB all)(s:List Int):SrtB (Ir all s)/\∀t,t∈Ir all s<->t=s\/t∈all:=by
 unfold Ir;by_cases f:(DS all s).2=true
 .grind [Pm]
 .rw[af f];have u:s ∉ all:=λh=>f ((Pm A).2 h);refine⟨?_,λt=>?_⟩
  .have e:∀t∈all.take (EI all s),DP t s=true:=λt l=>by obtain⟨j,i,rfl⟩:=ef.1 l;rw[ka];rw[bf]at i;exact Kt all s Z Z
   have d:∀t∈all.drop (EI all s),DP s t=true:=λt l=>by
    obtain⟨j,i,rfl⟩:=ef.1 l;rw[kx];rw[br]at i;have k:EI all s<all.length:=Z
    have p:=Ly k
    have m:DP s all[EI all s]=true:=by
     rcases OJ (a:=s) (b:=all[EI all s]) (λq=>u (by rw[q];exact aq k)) with r|r
     .exact r
     .rw[p]at r;cases r
    rcases ja j with rfl|z
    .exact m
    .exact Nm m<|bw.1 A _ (EI all s+j) k Z Z
   grind [SrtB,EI,List.take_append_drop,cg,be]
  .rw[bi,be];constructor
   .grind
   .rintro(h|h)
    .simp_all
    .rw[<-d6 (EI all s) all]at h;grind
theorem Abh(all:List (List Int))(s:List Int):(Ir all s).length<=all.length+1:=by
 grind [Ir,ag,de,bf,br,KP]
def E4(s:List Int)(b n:Nat):List Int:=((range n).filter λk=>b.testBit k).map λk=>s.getD k 0
theorem JA(s:List Int)(b n:Nat):E4 s b (n+1)=E4 s b n++(if b.testBit n then [s.getD n 0] else []):=by
 grind [E4,kp,jm,cz]
def C3(all:List (List Int))(s:List Int):Nat->List (List Int)
 | 0=>all
 | b+1=>Ir (C3 all s b) (E4 s (b+1) s.length)
def Cd:List (List Int)->List (List Int)->Option (List (List Int))
 | all,[]=>some all
 | all,l::ll=>
  let a2:=match Ew [] l with
   | some s=>C3 all s (2^s.length-1)
   | none=>all
  if 4000<a2.length then none else Cd a2 ll
theorem Fk(c:SrtB all)(s:List Int):∀b,SrtB (C3 all s b)
 | 0=>c
 | b+1=>(TT (Fk c s b) _).1
theorem HZ(all:List (List Int))(s:List Int):∀b,(C3 all s b).length<=all.length+b
 | 0=>ak _
 | b+1=>by have c:=HZ all s b;have d:=Abh (C3 all s b) (E4 s (b+1) s.length);show(Ir _ _).length<=_;omega
def Ev(all:List (List Int))(i:Nat):Cl:=
 ⟨(i:Int)+1,((all.getD i []).length:Int)-1,if(all.getD i []).length<=1 then [] else CS ((range (all.getD i []).length).map λk=>(((DS all ((all.getD i []).eraseIdx k)).1:Int)+1,1-2*((k:Int)%2)))⟩
def BU(ll:List (List Int)):List Cl:=match Cd [] ll with
 | some all=>(range all.length).map (Ev all)
 | none=>[]
end
end Go.Proofs.Q