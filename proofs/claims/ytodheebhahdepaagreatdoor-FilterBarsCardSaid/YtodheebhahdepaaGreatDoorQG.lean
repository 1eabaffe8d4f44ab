/- A part of the proof. -/
import Derived.Test.YtodheebhahdepaaGreatDoorQF
import Derived.Test.YtodheebhahdepaaGreatDoorRows
import Derived.Test.YtodheebhahdepaaGreatDoorChecked
import Derived.WalkKit
import Derived.ProofKit
import Derived.ChangeOld
import Derived.LaidMore
import Derived.Lay
import Derived.SevenTiedAt
import Derived.Stop.Joined
import Derived.Test.YtodheebhahdepaaGreatDoorCards
import Derived.Test.YtodheebhahdepaaGreatDoorTie
import Derived.Laws.StructEq
import Derived.ChangeKeysEq
set_option linter.unusedSimpArgs false
set_option linter.unusedVariables false
set_option linter.unusedSectionVars false
set_option maxRecDepth 100000
set_option maxHeartbeats 4000000

open List (length_map length_singleton getElem_mem replicate range length_append nil_append length_take mem_cons mem_singleton cons_append map_append mem_cons_of_mem length_nil take_succ_eq_append_getElem append_nil map_map take_length append_assoc flatMap_cons length_cons length_range range_succ filter_append filter_cons not_mem_nil)
namespace Go.Proofs.Q
open Go.Eng Go.RowKit
def RZ(l:List Cl):List Cl:=l.map Cl.can
structure Aac(o:List Cl):Prop where
 n:o.length<=4000
 inc:o.Pairwise fun a b=>a.id<b.id
 pos:∀x∈o,1<=x.id
 fst:∀x∈o,Hq o x=0
 snd:∀x∈o,2<=x.dim->Jv o x=0
theorem PU{l:List Cl}(B:Aac (RZ l)):Rgt l:=by
 have R:RgtF (RZ l):=⟨B.n,B.inc,B.pos,fun x hx=>by obtain⟨y,_,rfl⟩:=List.mem_map.1 hx;exact⟨y,rfl⟩,B.fst,B.snd⟩
 refine R.rgt.sim ⟨by unfold RZ;rw[length_map],by unfold RZ;rw[map_map];exact List.Perm.refl _,fun x hx=>⟨x.can,List.mem_map.2 ⟨x,hx,rfl⟩,rfl,rfl,(BB _).symm⟩⟩
instance (x:Cl):DecidablePred (EJ [] x):=fun i=>inferInstance
open Go.ChangeShapes Go.WideShapes Go.ChangeAt Go.Deep
theorem own:ownKnob Tryz.prog.godebug=none:=by kernel_rfl
theorem Zd{w w':World}(E:Ext w w'):Below w.heap.size w w':=⟨E.os,E.tape.tape,E.output,E.size,E.block⟩
theorem P7:laidOutB Tryz.prog=true:=by kernel_rfl
section
variable {H:Type} {enc:TypeId×Value->H} {w:World} {base:Nat} {spare:Nat->Bool} {held:Bool}
theorem RR(n:Nat)(cs:List Value)(y:DataW H×List MemPlace)(h:DataW.trod enc Tryz.prog w base spare held n 3 cs=some y):∃a,cs=cI a/\BC a:=by obtain⟨b,h1,_,h2⟩:=DataW.trod_int U3 h;exact⟨b,h1,bounds_i64 h2⟩
theorem Qn{v:Value}{fuel:Nat}{x:DataW H×List MemPlace}(h:DataW.trod enc Tryz.prog w base spare held fuel 22 [v]=some x):∃l,RdL cI 1 (whole w) [] v l/\∀a∈l,BC a:=
 Of AR (by kernel_rfl) Bl (by decide) RR h
end
end Go.Proofs.Q

namespace Go.Proofs.YtodheebhahdepaaGreatDoor
open Go Go.ChangeShapes Go.WideShapes Go.ChangeAt Go.RowKit Go.Proofs.Q

theorem Wh:(Rows.filterBarsRow.inPlace==Tryz.prog.inPlace 5)=true:=by kernel_rfl
theorem Xs:(Rows.filterBarsRow.unfollowed==Tryz.prog.unfollowed 5)=true:=by kernel_rfl
theorem Wb:(Rows.filterBarsRow.recurses==Tryz.prog.recurses 5)=true:=by kernel_rfl
theorem Xr:(Rows.filterBarsRow.named==Tryz.prog.varsNamed 5)=true:=by kernel_rfl

theorem WN:false=Tryz.prog.looks []:=by kernel_rfl
theorem bars_g2:Tryz.prog.funcNamed "cocycle/cocyclelaw20.FilterBars" = some 5:=by kernel_rfl
theorem W7:false=Rows.filterBarsRow.goesBy Tryz.prog:=by kernel_rfl
end Go.Proofs.YtodheebhahdepaaGreatDoor

namespace Go.Proofs.Q
open Go.Eng Go.RowKit
theorem Rgt.union{a b:List Cl}(A:Rgt a)(B:Rgt b)(hd:∀x∈a,∀y∈b,x.id≠y.id)(hn:a.length+b.length<=4000):Rgt (a++b):=by
 have hnd:((a++b).map Cl.id).Nodup:=by rw[map_append];refine List.nodup_append.2 ⟨A.nd,B.nd,fun x hx y hy=>?_⟩;obtain⟨c,hc,rfl⟩:=List.mem_map.1 hx;obtain⟨e,he,rfl⟩:=List.mem_map.1 hy;exact hd c hc e he
 have tb:∀(o:List Cl) (R:Rgt o),(∀x∈o,x∈a++b)->∀x∈o,E4 (a++b) x=E4 o x:=fun o R hs x hx=>by
  unfold E4 J9;refine Dz fun s hs'=>?_;obtain⟨y,hy,e1,_⟩:=R.sid x hx s hs';have h1:FS (a++b) s.1=FS o s.1:=by rw[<-e1,Ci hnd (hs y hy),Ci R.nd hy]
  simp only[h1]
 have ta:=tb a A fun x hx=>List.mem_append.2 (.inl hx);have tb:=tb b B fun x hx=>List.mem_append.2 (.inr hx);refine⟨by rw[length_append];exact hn,hnd,fun x hx=>?_,fun x hx=>?_,fun x hx=>?_,fun x hx=>?_,fun x hx s hs=>?_,fun x hx=>?_,fun x hx=>?_,fun x hx hd=>?_⟩<;>rcases List.mem_append.1 hx with h|h
 ·exact A.pos x h
 ·exact B.pos x h
 ·exact A.dim x h
 ·exact B.dim x h
 ·exact A.num x h
 ·exact B.num x h
 ·exact A.sds x h
 ·exact B.sds x h
 ·obtain⟨y,hy,e⟩:=A.sid x h s hs;exact⟨y,List.mem_append.2 (.inl hy),e⟩
 ·obtain⟨y,hy,e⟩:=B.sid x h s hs;exact⟨y,List.mem_append.2 (.inr hy),e⟩
 ·exact A.sgn x h
 ·exact B.sgn x h
 ·exact A.one x h
 ·exact B.one x h
 ·rw[ta x h];exact A.tab x h hd
 ·rw[tb x h];exact B.tab x h hd
def UN(m:Int)(c:Cl):Cl:=⟨c.id+m,c.dim,c.sd.map fun s=>(s.1+m,s.2)⟩
theorem Rgt.shift{l:List Cl}(R:Rgt l){m:Int}(hm:0<=m):Rgt (l.map (UN m)):=by
 have hnd:((l.map (UN m)).map Cl.id).Nodup:=by rw[map_map];have:=List.pairwise_map.1 R.nd;refine List.pairwise_map.2 (this.imp_of_mem fun {a b} ha hb hne e=>hne ?_);have e:a.id+m=b.id+m:=e;omega
 refine⟨by rw[length_map];exact R.n,hnd,fun x' hx'=>?_,fun x' hx'=>?_,fun x' hx'=>?_,fun x' hx'=>?_,fun x' hx' s' hs'=>?_,fun x' hx' s' hs'=>?_,fun x' hx' hd=>?_,fun x' hx' hd=>?_⟩<;>obtain⟨x,hx,rfl⟩:=List.mem_map.1 hx'
 ·have:=R.pos x hx;show 1<=x.id+m;omega
 ·exact R.dim x hx
 ·have:=R.num x hx;unfold Cj at *;show ¬((x.dim=0/\0<(x.sd.map _).length)\/(x.dim=1/\(x.sd.map _).length≠2)\/(1<x.dim/\((x.sd.map _).length<2\/64<(x.sd.map _).length)));rw[length_map];exact this
 ·show((x.sd.map _).map Prod.fst).Nodup;rw[map_map];have:=List.pairwise_map.1 (R.sds x hx);refine List.pairwise_map.2 (this.imp fun {a b} hne e=>hne ?_);have e:a.1+m=b.1+m:=e;omega
 ·obtain⟨s,hs,rfl⟩:=List.mem_map.1 hs';obtain⟨y,hy,e1,e2⟩:=R.sid x hx s hs;exact⟨_,List.mem_map.2 ⟨y,hy,rfl⟩,by show y.id+m=s.1+m;rw[e1],e2⟩
 ·obtain⟨s,hs,rfl⟩:=List.mem_map.1 hs';exact R.sgn x hx s hs
 ·have h1:=R.one x hx hd;show((x.sd.map _).map Prod.snd).sum=0;rw[map_map];exact h1
 ·have hd:2<=x.dim:=hd
  have hT:E4 (l.map (UN m)) (UN m x)=(E4 l x).map fun e=>(e.1+m,e.2.1+m,1*e.2.2):=by
   unfold E4 J9;show(x.sd.map _).flatMap _=_;rw[List.flatMap_map,List.map_flatMap];refine Dz fun s hs=>?_;obtain⟨y,hy,e1,e2⟩:=R.sid x hx s hs
   have h1:FS (l.map (UN m)) (s.1+m)=UN m y:=by rw[<-e1];exact Ci hnd (List.mem_map.2 ⟨y,hy,rfl⟩)
   have h2:FS l s.1=y:=by rw[<-e1];exact Ci R.nd hy
   show List.map (fun r=>(s.1+m,r.1,s.2*r.2)) (FS (l.map (UN m)) (s.1+m)).sd=List.map _ (List.map (fun r=>(s.1,r.1,s.2*r.2)) (FS l s.1).sd);rw[h1,h2,map_map];show List.map _ (y.sd.map _)=_;rw[map_map];exact List.map_congr_left fun r _=>by simp
  rw[hT]
  exact(R.tab x hx hd).ren (fun c=>c+m) (fun _=>1) (fun e _ e' _ h=>by have h:e.2.1+m=e'.2.1+m:=h;omega) fun a ha=>by obtain⟨s,hs,rfl⟩:=List.mem_map.1 ha;exact⟨s,hs,rfl⟩
def HK(o:List Cl):List Int:=(o.filter fun x=>!(o.any fun y=>y.sd.any fun s=>decide (s.1=x.id))).map Cl.id
theorem Ur{o:List Cl}{c:Int}(h:c∈HK o):∀y∈o,∀s∈y.sd,s.1≠c:=by
 unfold HK at h;obtain⟨x,hx,rfl⟩:=List.mem_map.1 h;obtain⟨_,h2⟩:=List.mem_filter.1 hx;intro y hy s hs e;have h2:(o.any fun y=>y.sd.any fun s=>decide (s.1=x.id))=false:=by simpa using h2
 have h3:=List.any_eq_false.1 h2 y hy;exact h3 (List.any_eq_true.2 ⟨s,hs,decide_eq_true e⟩)
theorem Rgt.gone{l:List Cl}(R:Rgt l){c:Int}(h:∀y∈l,∀s∈y.sd,s.1≠c):Rgt (l.filter fun x=>decide (x.id≠c)):=
 R.filt fun x hx _ s hs y hy e=>decide_eq_true (by rw[e];exact h x hx s hs)
theorem XS{o:List Cl}(R:Rgt o)(h:o≠[]):HK o≠[]:=by
 -- a cell of the greatest dimension
 obtain⟨x,hx,hm⟩:∃x∈o,∀y∈o,y.dim<=x.dim:=by
  have:∀l:List Cl,l≠[]->∃x∈l,∀y∈l,y.dim<=x.dim:=fun l=>by
   induction l with
   | nil=>intro h;exact absurd rfl h
   | cons a l ih=>
    intro _;by_cases hl:l=[]
    ·subst hl;exact⟨a,Mh,fun y hy=>by rw[List.mem_singleton.1 hy];exact Int.le_refl _⟩
    ·obtain⟨x,hx,hm⟩:=ih hl;by_cases ha:a.dim<=x.dim
     ·exact⟨x,mem_cons_of_mem _ hx,fun y hy=>by
       rcases List.mem_cons.1 hy with rfl|h
       ·exact ha
       ·exact hm y h⟩
     ·exact⟨a,Mh,fun y hy=>by
       rcases List.mem_cons.1 hy with rfl|h
       ·exact Int.le_refl _
       ·have:=hm y h;omega⟩
  exact this o h
 refine List.ne_nil_of_mem (a:=x.id) (List.mem_map.2 ⟨x,List.mem_filter.2 ⟨hx,?_⟩,rfl⟩)
 have:(o.any fun y=>y.sd.any fun s=>decide (s.1=x.id))=false:=List.any_eq_false.2 fun y hy q=>by
  obtain⟨s,hs,e⟩:=List.any_eq_true.1 q;obtain⟨z,hz,e1,e2⟩:=R.sid y hy s hs
  have:z=x:=by have h1:=CL R.nd hz;have h2:=CL R.nd hx;rw[e1,of_decide_eq_true e,h2]at h1;exact(Option.some.inj h1).symm
  subst this;have:=hm y hy;omega
 rw[this];rfl
def S0(x:Int):Int×Int:=if x<0 then(-x,-1) else(x,1)
def RC(k:Nat)(r:List Int):Cl:=⟨(k:Int)+1,r.headD 0,r.tail.map S0⟩
def NF(L:List (List Int)):List Cl:=(range L.length).map fun k=>RC k (L.getD k [])
def KY(n:Nat):List Int:=if n=1 then [1,-1,2] else if n%2=0 then [(n:Int),2*n-1,-(2*n)] else [(n:Int),-(2*n-1),2*n]
def Lb(n:Nat):List (List Int):=[[0],[0]]++(range n).flatMap fun k=>[KY (k+1),KY (k+1)]
def OZ(n:Nat):List (List Int):=([[0],[0],[0],[0],[1,-2,3],[1,-3,4],[1,-4,2]]:List (List Int))++((range (3*n)).map fun(k:Nat)=>[(1:Int),-1,2+((k%3:Nat):Int)])++(range (3*n)).map fun(k:Nat)=>[(2:Int),8+(k:Int),5+((k%3:Nat):Int),-(8+(((k+1)%(3*n):Nat):Int))]
def YC:List (List Int):=[[0],[0],[0],[1,-1,2],[1,-1,2],[1,-2,3],[1,-2,3],[1,-1,3],[1,-1,3],[2,4,6,-8],[2,4,7,-9],[2,5,6,-9],[2,5,7,-8]]
def Zm:List (List Int):=[[0],[0],[0],[0],[1,-1,2],[1,-1,2],[1,-3,4],[1,-3,4],[1,-1,3],[1,-2,4],[1,-3,1],[1,-4,2],[2,5,10,-7,-9],[2,6,10,-8,-9],[2,7,12,-6,-11],[2,8,12,-5,-11]]
def Zr:List (List Int):=[[0],[0],[0],[0],[1,-1,2],[1,-1,2],[1,-3,4],[1,-3,4],[1,-1,3],[1,-2,4],[1,-3,1],[1,-4,2],[2,5,10,-7,-9],[2,6,10,-8,-9],[2,7,12,-5,-11],[2,8,12,-6,-11]]
def EG(n:Nat):List (List Int):=
 if n=0 then [[0]] else if n<=3 then Lb n else if n=4 then Lb 0 else if n=5 then YC else if n=6 then OZ 3 else if n=7 then Zm else if n=8 then Zr else OZ 4
theorem Aay(n:Nat)(h:n<10):Aac (RZ (NF (EG n))):=by rcases (by omega:n=0\/n=1\/n=2\/n=3\/n=4\/n=5\/n=6\/n=7\/n=8\/n=9) with rfl|rfl|rfl|rfl|rfl|rfl|rfl|rfl|rfl|rfl<;>exact⟨by decide,by decide,by decide,by decide +kernel,by decide +kernel⟩
theorem MO(n:Nat)(h:n<10):Rgt (NF (EG n)):=PU (Aay n h)
theorem MM(L:List (List Int)):(NF L).length=L.length:=by simp[NF]
theorem JK(n:Nat)(h:n<10):(EG n).length<=31/\(n<5->(EG n).length<=8):=by rcases (by omega:n=0\/n=1\/n=2\/n=3\/n=4\/n=5\/n=6\/n=7\/n=8\/n=9) with rfl|rfl|rfl|rfl|rfl|rfl|rfl|rfl|rfl|rfl<;>decide
theorem K5{L:List (List Int)}:∀x∈NF L,1<=x.id/\x.id<=L.length:=fun x hx=>by obtain⟨k,hk,rfl⟩:=List.mem_map.1 hx;have:=List.mem_range.1 hk;show 1<=(k:Int)+1/\(k:Int)+1<=_;omega
open Go.Proofs.Tryz
theorem Ob(id dim:Int)(sd:List Int)(v:Value)(hp:Hp)(hR:RdL cI 1 hp [] v sd)(hb:∀x∈sd,-1000000<=x/\x<=1000000)(hn:sd.length<=1000):FnT Tryz.prog 176 #[.int .i64 id,.int .i64 dim,v] hp [] (fun r h' ms'=>hp=h'/\∃vs m,ms'=[m]/\r=.agg #[.int .i64 id,.int .i64 dim,vs]/\OwnL cD 2 119 m vs (sd.map S0)):=by
 have ov:=hR.rd.one;refine Ap func176 ntmps176 rfl rfl (fun w0 hw0=>?_);simp only[AU];refine Au (CN [.int .i64 0,.int .i64 0,.slice none 0 0] rfl AH rfl rfl (fun g6=>BL (Qm rfl (Qm rfl (Qx (Bf X7 [.int .i64 0,.int .i64 0,.slice none 0 0] [(0,_),(1,_)] [_,_,_] rfl AH rfl rfl Qt rfl) rfl (CN [.int .i64 0,.int .i64 0,.slice none 0 0] rfl AH rfl rfl (fun g7=>?_)))))));refine Sa 0 [_,_,_] AH rfl (by simp[Value.oneCell']) ?_;refine Al (BG (Ac (Au (Qm rfl (Al (Af ?_))))))
 refine Ax (fun q sl h' ms'=>∃(i:Nat) (vs:Value) (m:Hp),q=sd.length-i/\sl=[(2,v),(6,.pointer (some ⟨g6,0,none⟩)),(7,.pointer (some ⟨g7,0,none⟩)),(8,.int .i64 i)]/\hp=h'/\ms'=[m,Bi g7 52 [.int .i64 id,.int .i64 dim,vs],Bi g6 52 [.int .i64 0,.int .i64 0,.slice none 0 0]]/\i<=sd.length/\OwnL cD 2 119 m vs ((sd.take i).map S0))
  (sd.length-0) _ ⟨0,_,Hp.emp,rfl,rfl,rfl,rfl,by omega,OwnL.nil D6⟩ Qs ?_
 rintro q sl h' ms' ⟨i,vs,m,rfl,rfl,rfl,rfl,hi,hO⟩;have ovs:=hO.o1;refine Ac (Au (Qm rfl (Qm rfl (Qx (Ar hR.rd.any rfl AR rfl) rfl (Qm rfl (Al ?_))))));refine Av rfl (fun hlt=>?_) (fun hlt=>?_)
 ·have hil:i<sd.length:=by omega
  obtain⟨x,hx⟩:∃x,sd[i]=x:=⟨_,rfl⟩
  have hxb:=hb x (by rw[<-hx];exact getElem_mem hil);have cx:∀ms,Cell hp ms ((AF v).add (i*1)) (.int .i64 x):=fun ms=>by rw[<-hx];exact(hR.any (ms:=ms)).cell0 hil rfl
  have hll:((sd.take i).map S0).length<=1000:=by rw[length_map,length_take];omega
  have hs:((sd.take (i+1)).map S0)=((sd.take i).map S0)++[S0 x]:=by rw[take_succ_eq_append_getElem hil,map_append,hx];rfl
  refine Ag (Ab (Ac (Af (Au (Qm rfl (Qm rfl (Qx (BU (i) hR.rd.any rfl AR Be rfl rfl) rfl (Ql rfl U3 (cx _) (Qx (Bf Vr [.int .i64 0,.int .i64 0] [(0,_),(1,_)] [_,_] rfl AJ rfl rfl Qt rfl) rfl (CN [.int .i64 0,.int .i64 0] rfl AJ rfl rfl (fun g9=>?_)))))))))));refine Sa 0 [_,_] AJ rfl (by simp[Value.oneCell']) ?_;refine Al (Ac (Au (Qm rfl (Qm rfl (Qx (BU (i) hR.rd.any rfl AR Be rfl rfl) rfl (Ql rfl U3 (cx _) (Qm rfl (Al ?_))))))));refine Av rfl (fun hneg=>?_) (fun hneg=>?_)
  ·refine Ad (Qm rfl (Qm rfl (Qx (BU (i) hR.rd.any rfl AR Be rfl rfl) rfl (Ql rfl U3 (cx _) (Qx (L4 rfl rfl (by omega)) rfl (Qx (Bf Vr [.int .i64 0,.int .i64 0] [(0,_),(1,_)] [_,_] rfl AJ rfl rfl Qt rfl) rfl ?_))))));refine Sa 0 [_,_] AJ rfl (by simp[Value.oneCell']) ?_;refine Gn (Qf B5 rfl (Ql rfl Cu (Cell.blk 2 rfl rfl) (Qx (oG rfl DE AJ (Seg.blk 0 rfl)) rfl (An [_,_] rfl Cu AJ rfl (by rfl) rfl rfl (by omega) rfl rfl rfl (fun g38=>AQ 2 hO (RdL.one D6 (x:=(-x,-1)) Mh rfl) rfl Cu AJ rfl (by omega) rfl rfl rfl F7 (by(try simp only[length_singleton]);omega) (by(try simp only[length_singleton]);omega) rfl rfl rfl (fun v9 m9 hO9=>?_))))));have hs':S0 x=(-x,-1):=by unfold S0;rw[if_pos hneg]
   rw[<-hs',<-hs]at hO9;have ov9:=hO9.o1;refine Qf B5 rfl ?_;refine AK 3 _ rfl SU rfl rfl (by assumption) rfl rfl (by(simp;done)) rfl rfl ?_;refine Aj (Ai (Ab (Ad (Qm rfl (Qx (oA rfl) rfl (Qm rfl (Aj (A8 0 rfl (A8 0 rfl ?_)))))))));exact Ak (sd.length-(i+1)) _ (by omega) ⟨i+1,v9,m9,rfl,rfl,rfl,rfl,by omega,hO9⟩ Qs
  ·refine Ag (Ab (Ad (Qf B5 rfl (Ql rfl Cu (Cell.blk 2 rfl rfl) (Qx (oG rfl DE AJ (Seg.blk 0 rfl)) rfl (An [_,_] rfl Cu AJ rfl (by rfl) rfl rfl (by omega) rfl rfl rfl (fun g38=>AQ 2 hO (RdL.one D6 (x:=(x,1)) Mh rfl) rfl Cu AJ rfl (by omega) rfl rfl rfl F7 (by(try simp only[length_singleton]);omega) (by(try simp only[length_singleton]);omega) rfl rfl rfl (fun v9 m9 hO9=>?_))))))));have hs':S0 x=(x,1):=by unfold S0;rw[if_neg hneg]
   rw[<-hs',<-hs]at hO9;have ov9:=hO9.o1;refine Qf B5 rfl ?_;refine AK 3 _ rfl SU rfl rfl (by assumption) rfl rfl (by(simp;done)) rfl rfl ?_;refine Aj (Ai (Ab (Ad (Qm rfl (Qx (oA rfl) rfl (Qm rfl (Aj (A8 0 rfl (A8 0 rfl ?_)))))))));exact Ak (sd.length-(i+1)) _ (by omega) ⟨i+1,v9,m9,rfl,rfl,rfl,rfl,by omega,hO9⟩ Qs
 ·obtain rfl:i=sd.length:=by omega
  refine As (Aa (Aa (Ae (Ab (Au (Qx (oG rfl EL AH (Seg.blk 1 rfl)) rfl ?_))))));refine Sa 2 [_,_,_] AH rfl (by simp[ov,ovs]) ?_;refine Al (Ao (A8 1 rfl ?_));exact Bs (vs:=[_,_,_]) 1 rfl rfl EL rfl AH rfl rfl (⟨rfl,vs,m,rfl,rfl,by rw[take_length]at hO;exact hO⟩)
theorem J2(L:List (List Int))(i:Nat):((range (i+1)).map fun k=>RC k (L.getD k []))=((range i).map fun k=>RC k (L.getD k []))++[RC i (L.getD i [])]:=by rw[range_succ,map_append];rfl
theorem G1(L:List (List Int))(es0:List Value)(v:Value)(hp:Hp)(hV:RdL cW 1 hp [] v es0)(hE:RdEs hp es0 L)(hb:∀l∈L,l≠[]/\l.length<=1000/\∀x∈l,-1000000<=x/\x<=1000000)(hn:L.length<=1000):FnT Tryz.prog 114 #[v] hp [] (fun r h' ms'=>hp.le h'/\O6 h' r ms' (fun o=>o=NF L)):=by
 have o1:=hV.rd.one;have hle:=hE.1;refine Ap func114 ntmps114 rfl rfl (fun w0 hw0=>?_);simp only[AU];refine Au (CN [.slice none 0 0] rfl AV rfl rfl (fun g2=>BL (CN [.slice none 0 0] rfl AV rfl rfl (fun g3=>Al (Ac (Au (Qm rfl (Al (Af (BG ?_))))))))))
 refine Ax (fun q sl hh ms'=>∃(i:Nat) (vO:Value) (mO:Hp) (O:List Ce),q=L.length-i/\sl=[(0,v),(2,.pointer (some ⟨g2,0,none⟩)),(3,.pointer (some ⟨g3,0,none⟩)),(4,.int .i64 i)]/\hp.le hh/\ms'=[mO,Bi g3 29 [vO],Bi g2 29 [.slice none 0 0]]/\i<=L.length/\OwnL cC 3 52 mO vO O/\O.map Ce.c=((range i).map fun k=>RC k (L.getD k []))/\∀a∈O,RdL cD 2 hh [] a.v a.c.sd)
  (L.length-0) _ ⟨0,_,Hp.emp,[],rfl,rfl,DU,rfl,by omega,OwnL.nil Cc,rfl,fun a ha=>nomatch ha⟩ Qs ?_
 rintro q sl hh ms' ⟨i,vO,mO,O,rfl,rfl,lh,rfl,hi,hO,hOc,hOs⟩;have hV:=hV.up lh;have hE:=hE.up lh;have ovO:=hO.o1;have hOl:O.length=i:=by have:=congrArg List.length hOc;simpa using this
 refine Ac (Au (Qm rfl (Qm rfl (Qx (Ar hV.rd.any rfl B7 rfl) rfl (Qm rfl (Al ?_))))));refine Av rfl (fun hlt=>?_) (fun hlt=>?_)
 ·have hil:i<L.length:=by omega
  have hie:i<es0.length:=by omega
  have hci:∀ms,Cell hh ms ((AF v).add (i*1)) es0[i]:=fun ms=>(hV.any (ms:=ms)).cell0 hie rfl;have hRi:=hE.2 i hie hil;have oei:=hRi.rd.one;obtain⟨hne,hl1,hlb⟩:=hb _ (getElem_mem hil);have hgi:L.getD i []=L[i]:=by simp[List.getD,hil]
  obtain⟨r,hr⟩:∃r,L[i]=r:=⟨_,rfl⟩
  rw[hr]at hne hl1 hlb hgi hRi;obtain⟨d,s,rfl⟩:∃d s,r=d::s:=by cases r with|nil=>exact absurd rfl hne|cons d s=>exact⟨d,s,rfl⟩
  have cd:∀ms,Cell hh ms ((AF es0[i]).add (0*1)) (.int .i64 d):=fun ms=>(hRi.any (ms:=ms)).cell0 (j:=0) (by simp) rfl;have hl0:0<(d::s).length:=by simp
  refine Ag (Ab ?_);refine Bb (fun sl h' ms'=>∃(vO:Value) (mO:Hp) (O:List Ce),sl=[(0,v),(2,.pointer (some ⟨g2,0,none⟩)),(3,.pointer (some ⟨g3,0,none⟩)),(4,.int .i64 i)]/\hh.le h'/\ms'=[mO,Bi g3 29 [vO],Bi g2 29 [.slice none 0 0]]/\OwnL cC 3 52 mO vO O/\O.map Ce.c=((range (i+1)).map fun k=>RC k (L.getD k []))/\∀a∈O,RdL cD 2 h' [] a.v a.c.sd) ?_ (fun s h ms hI=>?_)
  ·refine Af ?_
   have hRs:RdL cI 1 hh [] (BS 1 es0[i] 1 (d::s).length) s:=by have:=hRi.sub_ (i:=1) (j:=(d::s).length) (by simp) (Nat.le_refl _);simpa using this
   let c:Cl:=⟨(i:Int)+1,d,s.map S0⟩
   refine BE (n:=20) (bs:=[true,false,true,true,true,true,true,true,true,true,true,true,true,true,true,false,false,false,true,false]) [true,false,true,true,true,true,true,true,true,true,true,true,true,true,true,false,false,false,true] CY (by kernel_rfl) (by kernel_rfl) rfl rfl (QF BW rfl (Qq rfl (Qp rfl (oA rfl) (Qq rfl (Qq rfl (Qp rfl (BU (i) hV.rd.any rfl B7 Cb rfl rfl) (QL rfl AR (hci _) (Qp rfl (BU (0) hRi.rd.any rfl AR Be rfl rfl) (QL rfl U3 (cd _) (Qq rfl (Qq rfl (Qp rfl (BU (i) hV.rd.any rfl B7 Cb rfl rfl) (QL rfl AR (hci _) (Qp rfl (CA (1) hRi.rd.any rfl AR Be rfl rfl (by omega) (by omega)) (QF BW rfl ?_)))))))))))))));unfold Fy;simp only[cons_append,nil_append];refine A5 [1,15] (by kernel_rfl) rfl ?_;refine Ay rfl ?_ ?_
   ·refine Ql rfl Bk (Cell.blk 1 rfl rfl) (Qw (Qo 15 rfl ?_));refine Qc call176 rfl (Ob ((i:Int)+1) d s _ hh hRs (fun x hx=>hlb x (mem_cons_of_mem _ hx)) (by simp at hl1;omega)) (fun rc h2 ms2 l2 hF=>?_);obtain⟨rfl,vs,mS,rfl,rfl,hOS⟩:=hF;refine Bw hOS fun h3 l3 hRS=>?_;have ovs:=hRS.rd.one;refine Qa (Qo 16 rfl (An [_,_,_] rfl Bk AH rfl (by rfl) rfl rfl (by omega) rfl rfl rfl (fun g27=>Qa (Qo 17 rfl ?_))));refine AZ 1 hO (RdL.one Cc (x:=(⟨c,vs⟩:Ce)) Mh rfl) rfl Bk AH rfl (by omega) rfl rfl rfl (C0 (l:=[⟨c,vs⟩]) (h:=h3) fun y hy=>by rw[List.mem_singleton.1 hy];exact hRS) (by(try simp only[length_singleton]);omega) (by(try simp only[length_singleton]);omega) rfl rfl rfl (fun v9 m9 hO9=>?_);have ov9:=hO9.o1;refine Qa (Qo 19 rfl ?_);refine AK 2 _ rfl Jt rfl rfl (by assumption) rfl rfl (by(simp;done)) rfl rfl ?_;refine Qa (Qe (AL (Ai ?_)));exact AC _ ⟨v9,m9,O++[⟨c,vs⟩],rfl,AI l2 l3,rfl,hO9,by rw[J2,hgi,map_append,hOc];rfl,RdC.snoc' (fun a ha=>(hOs a ha).up (AI l2 l3)) hRS⟩ Qs
   refine Ay rfl ?_ ?_
   ·refine Qc call176 rfl (Ob ((i:Int)+1) d s _ hh hRs (fun x hx=>hlb x (mem_cons_of_mem _ hx)) (by simp at hl1;omega)) (fun rc h2 ms2 l2 hF=>?_);obtain⟨rfl,vs,mS,rfl,rfl,hOS⟩:=hF;refine Bw hOS fun h3 l3 hRS=>?_;have ovs:=hRS.rd.one;refine Qa (A5 [1,16] (by kernel_rfl) rfl ?_);refine Ay rfl ?_ ?_
    ·refine Ql rfl Bk (Cell.blk 1 rfl rfl) (Qa (Qo 16 rfl (An [_,_,_] rfl Bk AH rfl (by rfl) rfl rfl (by omega) rfl rfl rfl (fun g27=>Qa (Qo 17 rfl ?_)))));refine AZ 1 hO (RdL.one Cc (x:=(⟨c,vs⟩:Ce)) Mh rfl) rfl Bk AH rfl (by omega) rfl rfl rfl (C0 (l:=[⟨c,vs⟩]) (h:=h3) fun y hy=>by rw[List.mem_singleton.1 hy];exact hRS) (by(try simp only[length_singleton]);omega) (by(try simp only[length_singleton]);omega) rfl rfl rfl (fun v9 m9 hO9=>?_);have ov9:=hO9.o1;refine Qa (Qo 19 rfl ?_);refine AK 2 _ rfl Jt rfl rfl (by assumption) rfl rfl (by(simp;done)) rfl rfl ?_;refine Qa (Qe (AL (Ai ?_)));exact AC _ ⟨v9,m9,O++[⟨c,vs⟩],rfl,AI l2 l3,rfl,hO9,by rw[J2,hgi,map_append,hOc];rfl,RdC.snoc' (fun a ha=>(hOs a ha).up (AI l2 l3)) hRS⟩ Qs
    refine Ay rfl ?_ ?_
    ·refine An [_,_,_] rfl Bk AH rfl (by rfl) rfl rfl (by omega) rfl rfl rfl (fun g27=>Qa (Qo 1 rfl (Ql rfl Bk (Cell.blk 2 rfl rfl) (Qa (Qo 17 rfl ?_)))));refine AZ 1 hO (RdL.one Cc (x:=(⟨c,vs⟩:Ce)) Mh rfl) rfl Bk AH rfl (by omega) rfl rfl rfl (C0 (l:=[⟨c,vs⟩]) (h:=h3) fun y hy=>by rw[List.mem_singleton.1 hy];exact hRS) (by(try simp only[length_singleton]);omega) (by(try simp only[length_singleton]);omega) rfl rfl rfl (fun v9 m9 hO9=>?_);have ov9:=hO9.o1;refine Qa (Qo 19 rfl ?_);refine AK 2 _ rfl Jt rfl rfl (by assumption) rfl rfl (by(simp;done)) rfl rfl ?_;refine Qa (Qe (AL (Ai ?_)));exact AC _ ⟨v9,m9,O++[⟨c,vs⟩],rfl,AI l2 l3,rfl,hO9,by rw[J2,hgi,map_append,hOc];rfl,RdC.snoc' (fun a ha=>(hOs a ha).up (AI l2 l3)) hRS⟩ Qs
    exact A4
   exact A4
  ·obtain⟨vO,mO,O,rfl,l2,rfl,hO,hOc,hOs⟩:=hI;have ovO:=hO.o1;refine Ad (Qm rfl (Qx (oA rfl) rfl (Qm rfl (Aj ?_))));exact Ak (L.length-(i+1)) _ (by omega) ⟨i+1,vO,mO,O,rfl,rfl,AI lh l2,rfl,by omega,hO,hOc,hOs⟩ Qs
 ·obtain rfl:i=L.length:=by omega
  refine As (Aa (Aa (Ae (Ab (Au (Qx (oG rfl CM AV (Seg.blk 1 rfl)) rfl ?_))))));refine Sa 2 [_] AV rfl (by simp[o1,ovO]) ?_;refine Al (Ao (A8 1 rfl ?_));exact Bs (vs:=[_]) 1 rfl rfl CM rfl AV rfl rfl (⟨lh,mO,O,_,rfl,rfl,hO,hOc,hOs⟩)
theorem BQ{h:Hp}{el:TypeId}{g:Nat}(l:List Int)(n:Nat)(e:l.length=n)(hn:n<=1000)(k:(Bi g el (l.flatMap cI)).le h):RdL cI 1 h [] (.slice (some ⟨g,0,none⟩) n n) l:=by subst e;exact(OwnL.blk (g:=g) (el:=el) (F:=cI) (l:=l) l.length Bl rfl (by omega)).rdh k
theorem HN(n:Nat):Lb (n+1)=Lb n++[KY (n+1),KY (n+1)]:=by unfold Lb;rw[range_succ,List.flatMap_append,<-append_assoc];rfl
theorem QC(n:Nat):(Lb n).length=2+2*n:=by
 induction n with
 | zero=>rfl
 | succ n ih=>rw[HN,length_append,ih];simp;omega
theorem YH(n:Nat)(hn:n<=4):∀l∈Lb n,l≠[]/\l.length<=1000/\∀x∈l,-1000000<=x/\x<=1000000:=by rcases (by omega:n=0\/n=1\/n=2\/n=3\/n=4) with rfl|rfl|rfl|rfl|rfl<;>decide
def MP(m i:Nat):List (List Int):=([[0],[0],[0],[0],[1,-2,3],[1,-3,4],[1,-4,2]]:List (List Int))++((range i).map fun(k:Nat)=>[(1:Int),-1,2+((k%3:Nat):Int)])
def Pe(m i:Nat):List (List Int):=(range i).map fun(k:Nat)=>[(2:Int),8+(k:Int),5+((k%3:Nat):Int),-(8+(((k+1)%m:Nat):Int))]
theorem WV(n:Nat):OZ n=MP (3*n) (3*n)++Pe (3*n) (3*n):=rfl
theorem R9(m i:Nat):MP m (i+1)=MP m i++[[(1:Int),-1,2+((i%3:Nat):Int)]]:=by unfold MP;rw[range_succ,map_append,append_assoc];rfl
theorem RJ(m i:Nat):Pe m (i+1)=Pe m i++[[(2:Int),8+(i:Int),5+((i%3:Nat):Int),-(8+(((i+1)%m:Nat):Int))]]:=by unfold Pe;rw[range_succ,map_append];rfl
theorem YB(n:Nat)(hn:n=3\/n=4):∀l∈OZ n,l≠[]/\l.length<=1000/\∀x∈l,-1000000<=x/\x<=1000000:=by rcases hn with rfl|rfl<;>decide
theorem GW(n:Nat)(hp:Hp)(hn:n<=4):FnT Tryz.prog 115 #[.int .i64 n] hp [] (fun r h' ms'=>hp.le h'/\O6 h' r ms' (fun o=>o=NF (Lb n))):=by
 refine Ap func115 ntmps115 rfl rfl (fun w0 hw0=>?_);simp only[AU];have hE:=RdEs.nil hp;refine Au (CN [.slice none 0 0] rfl AV rfl rfl (fun g2=>BL (An [_] rfl AR Be rfl (by rfl) rfl rfl (by omega) rfl rfl rfl (fun g7=>AE fun h1 l1 k1=>?_))));have hE:=(hE.up l1).snoc (BQ [0] 1 rfl (by decide) k1);refine An [_] rfl AR Be rfl (by rfl) rfl rfl (by omega) rfl rfl rfl (fun g8=>AE fun h2 l2 k2=>?_);have hE:=(hE.up l2).snoc (BQ [0] 1 rfl (by decide) k2);refine Aq [(0,_),(1,_)] [.slice none 0 0,.slice none 0 0] [_,_] rfl B7 Cb rfl (by omega) (by kernel_rfl) Qt rfl rfl rfl rfl (fun g9=>Qm rfl (Al (Ac (Au (Qm rfl (Al (Af ?_)))))))
 refine Ax (fun q sl h' ms'=>∃(i:Nat) (v3:Value) (m3:Hp) (es:List Value),q=n-i/\sl=[(0,.int .i64 n),(2,.pointer (some ⟨g2,0,none⟩)),(3,v3),(4,.int .i64 ((i:Int)+1))]/\hp.le h'/\ms'=[m3,Bi g2 29 [.slice none 0 0]]/\i<=n/\OwnL cW 1 22 m3 v3 es/\RdEs h' es (Lb i))
  (n-0) _ ⟨0,_,_,_,rfl,rfl,AI l1 l2,rfl,by omega,OwnL.blk (g:=g9) (el:=22) (F:=cW) (l:=[_,_]) 2 Dl rfl (by decide),hE⟩ Qs ?_
 rintro q sl h' ms' ⟨i,v3,m3,es,rfl,rfl,lh,rfl,hi,hO,hE⟩;have hel:es.length=2+2*i:=by rw[hE.1,QC]
 have ov3:=hO.o1;refine Ac (Au (Qm rfl (Qm rfl (Qm rfl (Al ?_)))));refine Av rfl (fun hlt=>?_) (fun hlt=>?_)
 ·refine Ag (Ab (Ac (Af (Au (Qm rfl (Qx (oM rfl) rfl (Qx (oS rfl) rfl (Qm rfl (BL (Qm rfl (Qm rfl (Qx (L4 rfl rfl (by omega)) rfl (Qm rfl (Qx (oA rfl) rfl (Aq [(0,_),(1,_),(2,_)] [.int .i64 0,.int .i64 0,.int .i64 0] [_,_,_] rfl AR Be rfl (by omega) (by kernel_rfl) Qt rfl rfl rfl rfl (fun g23=>Qm rfl (Al (Bd fun h3 l3 k3=>?_))))))))))))))))));have hE:=hE.up l3;refine Ac (Au (Qm rfl (Qx (BM rfl rfl rfl (by omega) (by omega)) rfl (Qm rfl (Al ?_)))));refine Av rfl (fun hev=>?_) (fun hev=>?_)
  ·refine Ad (Qm rfl (Qm rfl (Qm rfl (Qx (oA rfl) rfl (Qx (L4 rfl rfl (by omega)) rfl (Aq [(0,_),(1,_),(2,_)] [.int .i64 0,.int .i64 0,.int .i64 0] [_,_,_] rfl AR Be rfl (by omega) (by kernel_rfl) Qt rfl rfl rfl rfl (fun g32=>Qm rfl (Al (Bd fun h4 l4 k4=>?_)))))))));have hE:=hE.up l4;refine Ac (Au (Qm rfl (Qm rfl (Al ?_))));refine Av rfl (fun h1=>?_) (fun h1=>?_)
   ·exact absurd h1 (by omega)
   ·have hrow:RdL cI 1 h4 [] (.slice (some ⟨g32,0,none⟩) 3 3) (KY (i+1)):=by
     have:=BQ (el:=3) (g:=g32) (h:=h4) [(i:Int)+1,2*((i:Int)+1)-1,-(2*((i:Int)+1)-1+1)] 3 rfl (by decide) k4
     have e:KY (i+1)=[(i:Int)+1,2*((i:Int)+1)-1,-(2*((i:Int)+1)-1+1)]:=by unfold KY;rw[if_neg (by omega),if_pos (by omega)];simp<;>omega
     rw[e];exact this
    refine Ag (Ab (Ad (Qm rfl (Qm rfl (Qm rfl (Aq [(0,_),(1,_)] [.slice none 0 0,.slice none 0 0] [_,_] rfl B7 Cb rfl (by omega) (by kernel_rfl) Qt rfl rfl rfl rfl (fun g39=>?_)))))));refine AZ 1 hO (OwnL.blk (g:=g39) (F:=cW) (l:=[.slice (some ⟨g32,0,none⟩) 3 3,.slice (some ⟨g32,0,none⟩) 3 3]) 2 Dl rfl (by decide) |>.rd Mh) rfl B7 Cb rfl (by omega) rfl rfl rfl (F6 fun u hu=>by simp only[mem_cons,not_mem_nil,or_false]at hu;rcases hu with rfl|rfl<;>rfl) (by(try simp only[length_cons,length_nil]);omega) (by(try simp only[length_cons,length_nil]);omega) rfl rfl rfl (fun v9 m9 hO9=>?_);have ov9:=hO9.o1;refine Qm rfl (Aj (Ai (Ab (Ad (Qm rfl (Qx (oA rfl) rfl (Qm rfl (Aj (A8 0 rfl ?_)))))))));exact Ak (n-(i+1)) _ (by omega) ⟨i+1,v9,m9,_,rfl,rfl,AI lh (AI l3 l4),rfl,by omega,hO9,by rw[HN];have:=(hE.snoc hrow).snoc hrow;rwa [append_assoc,append_assoc]at this⟩ Qs
  ·refine Ag (Ab (Ac (Au (Qm rfl (Qm rfl (Al ?_))))));refine Av rfl (fun h1=>?_) (fun h1=>?_)
   ·refine Ad (Aq [(0,_),(1,_),(2,_)] [.int .i64 0,.int .i64 0,.int .i64 0] [_,_,_] rfl AR Be rfl (by omega) (by kernel_rfl) Qt rfl rfl rfl rfl (fun g35=>Qm rfl (Al (Bd fun h4 l4 k4=>?_))));have hE:=hE.up l4;have hi0:i=0:=by omega
    have hrow:RdL cI 1 h4 [] (.slice (some ⟨g35,0,none⟩) 3 3) (KY (i+1)):=by subst hi0;exact BQ (el:=3) (g:=g35) (h:=h4) [1,-1,2] 3 rfl (by decide) k4
    refine Ad (Qm rfl (Qm rfl (Qm rfl (Aq [(0,_),(1,_)] [.slice none 0 0,.slice none 0 0] [_,_] rfl B7 Cb rfl (by omega) (by kernel_rfl) Qt rfl rfl rfl rfl (fun g39=>?_)))));refine AZ 1 hO (OwnL.blk (g:=g39) (F:=cW) (l:=[.slice (some ⟨g35,0,none⟩) 3 3,.slice (some ⟨g35,0,none⟩) 3 3]) 2 Dl rfl (by decide) |>.rd Mh) rfl B7 Cb rfl (by omega) rfl rfl rfl (F6 fun u hu=>by simp only[mem_cons,not_mem_nil,or_false]at hu;rcases hu with rfl|rfl<;>rfl) (by(try simp only[length_cons,length_nil]);omega) (by(try simp only[length_cons,length_nil]);omega) rfl rfl rfl (fun v9 m9 hO9=>?_);have ov9:=hO9.o1;refine Qm rfl (Aj (Ai (Ab (Ad (Qm rfl (Qx (oA rfl) rfl (Qm rfl (Aj (A8 0 rfl ?_)))))))));exact Ak (n-(i+1)) _ (by omega) ⟨i+1,v9,m9,_,rfl,rfl,AI lh (AI l3 l4),rfl,by omega,hO9,by rw[HN];have:=(hE.snoc hrow).snoc hrow;rwa [append_assoc,append_assoc]at this⟩ Qs
   ·have hrow:RdL cI 1 h3 [] (.slice (some ⟨g23,0,none⟩) 3 3) (KY (i+1)):=by
     have:=BQ (el:=3) (g:=g23) (h:=h3) [(i:Int)+1,-(2*((i:Int)+1)-1),2*((i:Int)+1)-1+1] 3 rfl (by decide) k3
     have e:KY (i+1)=[(i:Int)+1,-(2*((i:Int)+1)-1),2*((i:Int)+1)-1+1]:=by unfold KY;rw[if_neg (by omega),if_neg (by omega)];simp<;>omega
     rw[e];exact this
    refine Ag (Ab (Ad (Qm rfl (Qm rfl (Qm rfl (Aq [(0,_),(1,_)] [.slice none 0 0,.slice none 0 0] [_,_] rfl B7 Cb rfl (by omega) (by kernel_rfl) Qt rfl rfl rfl rfl (fun g39=>?_)))))));refine AZ 1 hO (OwnL.blk (g:=g39) (F:=cW) (l:=[.slice (some ⟨g23,0,none⟩) 3 3,.slice (some ⟨g23,0,none⟩) 3 3]) 2 Dl rfl (by decide) |>.rd Mh) rfl B7 Cb rfl (by omega) rfl rfl rfl (F6 fun u hu=>by simp only[mem_cons,not_mem_nil,or_false]at hu;rcases hu with rfl|rfl<;>rfl) (by(try simp only[length_cons,length_nil]);omega) (by(try simp only[length_cons,length_nil]);omega) rfl rfl rfl (fun v9 m9 hO9=>?_);have ov9:=hO9.o1;refine Qm rfl (Aj (Ai (Ab (Ad (Qm rfl (Qx (oA rfl) rfl (Qm rfl (Aj (A8 0 rfl ?_)))))))));exact Ak (n-(i+1)) _ (by omega) ⟨i+1,v9,m9,_,rfl,rfl,AI lh l3,rfl,by omega,hO9,by rw[HN];have:=(hE.snoc hrow).snoc hrow;rwa [append_assoc,append_assoc]at this⟩ Qs
 ·obtain rfl:i=n:=by omega
  refine Bd fun h3 l3 k3=>?_;have hV:=hO.rdh (ms:=[]) k3;have hE:=hE.up l3;refine As (Aa (Aa (Ae (Ab (Au (Qm rfl ?_))))));refine Qc call114 rfl (G1 (Lb i) _ _ h3 hV hE (YH i hn) (by rw[QC];omega)) (fun rC h5 ms5 l5 hF=>?_);obtain⟨l5',m,A,vA,rfl,rfl,hOA,hA,hs⟩:=hF;have ovA:=hOA.o1;refine Sa 1 [_] AV rfl (by simp[ov3,ovA]) ?_;refine Al (Ao ?_);exact Bs (vs:=[_]) 1 rfl rfl CM rfl AV rfl rfl (⟨AI lh (AI l3 l5),m,A,_,rfl,rfl,hOA,hA,hs⟩)
theorem NO(n:Nat)(hp:Hp)(hn:n=3\/n=4):FnT Tryz.prog 116 #[.int .i64 n] hp [] (fun r h' ms'=>hp.le h'/\O6 h' r ms' (fun o=>o=NF (OZ n))):=by
 have hn4:n<=4:=by omega
 refine Ap func116 ntmps116 rfl rfl (fun w0 hw0=>?_);simp only[AU];have hE:=RdEs.nil hp;refine Au (CN [.slice none 0 0] rfl AV rfl rfl (fun g2=>BL (An [_] rfl AR Be rfl (by rfl) rfl rfl (by omega) rfl rfl rfl (fun g6=>AE fun h1 l1 k1=>?_))));have hE:=(hE.up l1).snoc (BQ [0] 1 rfl (by decide) k1);refine An [_] rfl AR Be rfl (by rfl) rfl rfl (by omega) rfl rfl rfl (fun g7=>AE fun h2 l2 k2=>?_);have hE:=(hE.up l2).snoc (BQ [0] 1 rfl (by decide) k2);refine An [_] rfl AR Be rfl (by rfl) rfl rfl (by omega) rfl rfl rfl (fun g8=>AE fun h3 l3 k3=>?_);have hE:=(hE.up l3).snoc (BQ [0] 1 rfl (by decide) k3);refine An [_] rfl AR Be rfl (by rfl) rfl rfl (by omega) rfl rfl rfl (fun g9=>AE fun h4 l4 k4=>?_);have hE:=(hE.up l4).snoc (BQ [0] 1 rfl (by decide) k4);refine Aq [(0,_),(1,_),(2,_)] [.int .i64 0,.int .i64 0,.int .i64 0] [_,_,_] rfl AR Be rfl (by omega) (by kernel_rfl) Qt rfl rfl rfl rfl (fun g10=>AE fun h5 l5 k5=>?_);have hE:=(hE.up l5).snoc (BQ [1,-2,3] 3 rfl (by decide) k5);refine Aq [(0,_),(1,_),(2,_)] [.int .i64 0,.int .i64 0,.int .i64 0] [_,_,_] rfl AR Be rfl (by omega) (by kernel_rfl) Qt rfl rfl rfl rfl (fun g11=>AE fun h6 l6 k6=>?_);have hE:=(hE.up l6).snoc (BQ [1,-3,4] 3 rfl (by decide) k6);refine Aq [(0,_),(1,_),(2,_)] [.int .i64 0,.int .i64 0,.int .i64 0] [_,_,_] rfl AR Be rfl (by omega) (by kernel_rfl) Qt rfl rfl rfl rfl (fun g12=>AE fun h7 l7 k7=>?_);have hE:=(hE.up l7).snoc (BQ [1,-4,2] 3 rfl (by decide) k7);have l17:=AI l1 (AI l2 (AI l3 (AI l4 (AI l5 (AI l6 l7)))));refine Aq [(0,_),(1,_),(2,_),(3,_),(4,_),(5,_),(6,_)] [.slice none 0 0,.slice none 0 0,.slice none 0 0,.slice none 0 0,.slice none 0 0,.slice none 0 0,.slice none 0 0] [_,_,_,_,_,_,_] rfl B7 Cb rfl (by omega) (by kernel_rfl) Qt rfl rfl rfl rfl (fun g13=>Qm rfl (Al ?_));obtain⟨M,hM⟩:∃M,3*n=M:=⟨_,rfl⟩
 have hM3:3*(n:Int)=M:=by omega
 have hMb:9<=M/\M<=12:=by omega
 refine Bb (fun sl h' ms'=>∃(v3:Value) (m3:Hp) (es:List Value),sl=[(0,.int .i64 n),(2,.pointer (some ⟨g2,0,none⟩)),(3,v3)]/\hp.le h'/\ms'=[m3,Bi g2 29 [.slice none 0 0]]/\OwnL cW 1 22 m3 v3 es/\RdEs h' es (MP M M)) ?_ (fun s h ms hI=>?_)
 ·refine Ac (Ad (Qm rfl (Al (Af ?_))))
  refine Ax (fun q sl h' ms'=>∃(i:Nat) (v3:Value) (m3:Hp) (es:List Value),q=M-i/\sl=[(0,.int .i64 n),(2,.pointer (some ⟨g2,0,none⟩)),(3,v3),(4,.int .i64 i)]/\hp.le h'/\ms'=[m3,Bi g2 29 [.slice none 0 0]]/\i<=M/\OwnL cW 1 22 m3 v3 es/\RdEs h' es (MP M i))
   (M-0) _ ⟨0,_,_,_,rfl,rfl,l17,rfl,by omega,OwnL.blk (g:=g13) (el:=22) (F:=cW) (l:=[_,_,_,_,_,_,_]) 7 Dl rfl (by decide),hE⟩ Qs ?_
  rintro q sl h' ms' ⟨i,v3,m3,es,rfl,rfl,lh,rfl,hi,hO,hE⟩;have hel:es.length=7+i:=by rw[hE.1];unfold MP;simp;omega
  have ov3:=hO.o1;refine Ac (Au (Qm rfl (Qm rfl (Qx (oM rfl) rfl (Qm rfl (Al ?_))))));refine Av rfl (fun hlt=>?_) (fun hlt=>?_)
  ·refine Ag (Ab (Ac (Af (Ad (Qm rfl (Qm rfl (Qx (BM rfl rfl rfl (by omega) (by omega)) rfl (Qx (oA rfl) rfl (Aq [(0,_),(1,_),(2,_)] [.int .i64 0,.int .i64 0,.int .i64 0] [_,_,_] rfl AR Be rfl (by omega) (by kernel_rfl) Qt rfl rfl rfl rfl (fun g24=>AE fun h8 l8 k8=>?_))))))))));have hrow:RdL cI 1 h8 [] (.slice (some ⟨g24,0,none⟩) 3 3) [(1:Int),-1,2+((i%3:Nat):Int)]:=BQ (el:=3) [(1:Int),-1,2+((i%3:Nat):Int)] 3 rfl (by decide) k8;have hE:=hE.up l8;refine An [_] rfl B7 Cb rfl (by rfl) rfl rfl (by omega) rfl rfl rfl (fun g25=>?_);refine AZ 1 hO (RdL.one Dl (x:=(.slice (some ⟨g24,0,none⟩) 3 3:Value)) Mh rfl) rfl B7 Cb rfl (by omega) rfl rfl rfl (F6 fun u hu=>by rw[List.mem_singleton.1 hu];rfl) (by(try simp only[length_singleton]);omega) (by(try simp only[length_singleton]);omega) rfl rfl rfl (fun v9 m9 hO9=>?_);have ov9:=hO9.o1;refine Qm rfl (Aj (Ai (Ab (Ad (Qm rfl (Qx (oA rfl) rfl (Qm rfl (Aj (A8 0 rfl ?_)))))))));exact Ak (M-(i+1)) _ (by omega) ⟨i+1,v9,m9,_,rfl,rfl,AI lh l8,rfl,by omega,hO9,by rw[R9];exact hE.snoc hrow⟩ Qs
  ·obtain rfl:i=M:=by omega
   refine As (Aa (Aa (Ae ?_)));exact AC _ ⟨v3,m3,es,rfl,lh,rfl,hO,hE⟩ Qs
 ·obtain⟨v3,m3,es,rfl,lh,rfl,hO,hE⟩:=hI;have hEl:=hE.1;refine Ac (Au (Qm rfl (Al (Af ?_))))
  refine Ax (fun q sl h' ms'=>∃(i:Nat) (v3:Value) (m3:Hp) (es:List Value),q=M-i/\sl=[(0,.int .i64 n),(2,.pointer (some ⟨g2,0,none⟩)),(3,v3),(5,.int .i64 i)]/\hp.le h'/\ms'=[m3,Bi g2 29 [.slice none 0 0]]/\i<=M/\OwnL cW 1 22 m3 v3 es/\RdEs h' es (MP M M++Pe M i))
   (M-0) _ ⟨0,v3,m3,es,rfl,rfl,lh,rfl,by omega,hO,by rw[show Pe M 0=[] from rfl,append_nil];exact hE⟩ Qs ?_
  rintro q sl h' ms' ⟨i,v3,m3,es,rfl,rfl,lh,rfl,hi,hO,hE⟩;have hel:es.length=7+M+i:=by rw[hE.1];unfold MP Pe;simp;omega
  have ov3:=hO.o1;refine Ac (Au (Qm rfl (Qm rfl (Qx (oM rfl) rfl (Qm rfl (Al ?_))))));refine Av rfl (fun hlt=>?_) (fun hlt=>?_)
  ·have hm0:0<=((i:Int)+1)%(3*(n:Int)):=Int.emod_nonneg _ (by omega);have hm1:((i:Int)+1)%(3*(n:Int))<3*(n:Int):=Int.emod_lt_of_pos _ (by omega);refine Ag (Ab (Ac (Af (Ad (Qm rfl (Qm rfl (Qx (oA rfl) rfl (Qm rfl (Qx (BM rfl rfl rfl (by omega) (by omega)) rfl (Qx (oA rfl) rfl (Qm rfl (Qx (oA rfl) rfl (Qm rfl (Qx (oM rfl) rfl (Qx (BM rfl rfl rfl (by omega) (by omega)) rfl (Qx (oA rfl) rfl (Qx (L4 rfl rfl (by omega)) rfl (Aq [(0,_),(1,_),(2,_),(3,_)] [.int .i64 0,.int .i64 0,.int .i64 0,.int .i64 0] [_,_,_,_] rfl AR Be rfl (by omega) (by kernel_rfl) Qt rfl rfl rfl rfl (fun g46=>AE fun h8 l8 k8=>?_)))))))))))))))))));have hrow:RdL cI 1 h8 [] (.slice (some ⟨g46,0,none⟩) 4 4) [(2:Int),8+(i:Int),5+((i%3:Nat):Int),-(8+(((i+1)%M:Nat):Int))]:=BQ (el:=3) [(2:Int),8+(i:Int),5+((i%3:Nat):Int),-(8+(((i+1)%M:Nat):Int))] 4 rfl (by decide) (by subst hM;exact k8);have hE:=hE.up l8;refine An [_] rfl B7 Cb rfl (by rfl) rfl rfl (by omega) rfl rfl rfl (fun g47=>?_);refine AZ 1 hO (RdL.one Dl (x:=(.slice (some ⟨g46,0,none⟩) 4 4:Value)) Mh rfl) rfl B7 Cb rfl (by omega) rfl rfl rfl (F6 fun u hu=>by rw[List.mem_singleton.1 hu];rfl) (by(try simp only[length_singleton]);omega) (by(try simp only[length_singleton]);omega) rfl rfl rfl (fun v9 m9 hO9=>?_);have ov9:=hO9.o1;refine Qm rfl (Aj (Ai (Ab (Ad (Qm rfl (Qx (oA rfl) rfl (Qm rfl (Aj (A8 0 rfl ?_)))))))));exact Ak (M-(i+1)) _ (by omega) ⟨i+1,v9,m9,_,rfl,rfl,AI lh l8,rfl,by omega,hO9,by rw[RJ,<-append_assoc];exact hE.snoc hrow⟩ Qs
  ·obtain rfl:i=M:=by omega
   refine Bd fun h9 l9 k9=>?_;have hV:=hO.rdh (ms:=[]) k9;have hE:RdEs h9 es (OZ n):=by rw[WV,hM];exact hE.up l9
   refine As (Aa (Aa (Ae (Ab (Au (Qm rfl ?_))))));refine Qc call114 rfl (G1 (OZ n) _ _ h9 hV hE (YB n hn) (by rw[<-hE.1];omega)) (fun rC h10 ms10 l10 hF=>?_);obtain⟨l10',m,A,vA,rfl,rfl,hOA,hA,hs⟩:=hF;have ovA:=hOA.o1;refine Sa 1 [_] AV rfl (by simp[ov3,ovA]) ?_;refine Al (Ao ?_);exact Bs (vs:=[_]) 1 rfl rfl CM rfl AV rfl rfl (⟨AI lh (AI l9 l10),m,A,_,rfl,rfl,hOA,hA,hs⟩)
theorem GF{L:List (List Int)}(h:L=[[0]]\/L=YC\/L=Zm\/L=Zr):L.length<=1000/\∀l∈L,l≠[]/\l.length<=1000/\∀x∈l,-1000000<=x/\x<=1000000:=by rcases h with rfl|rfl|rfl|rfl<;>decide
theorem Io(n:Int)(hp:Hp)(hn:BC n):FnT Tryz.prog 45 #[.int .i64 n] hp [] (fun r h' ms'=>hp.le h'/\O6 h' r ms' (fun o=>o=NF (EG (n%10).toNat))):=by
 refine Ap func45 ntmps45 rfl rfl (fun w0 hw0=>?_);simp only[AU];obtain⟨k,hk⟩:∃k:Nat,n%10=k:=⟨(n%10).toNat,by omega⟩
 have hk10:k<10:=by omega
 rw[hk,Int.toNat_natCast];refine Au (CN [.slice none 0 0] rfl AV rfl rfl (fun g2=>Al (Ac (Au (Qm rfl (Qx (AO rfl call34 rfl (Ig n 10 hn (by decide) _ _)) rfl (Al (Af (Au (Qm rfl (Qm rfl (Al ?_))))))))))));refine Av rfl (fun h0=>?_) (fun h0=>?_)
 ·have hE:=RdEs.nil hp;refine Au (An [_] rfl AR Be rfl (by rfl) rfl rfl (by omega) rfl rfl rfl (fun g7=>AE fun h1 l1 k1=>?_));have hE:=(hE.up l1).snoc (BQ [0] 1 rfl (by decide) k1);refine An [_] rfl B7 Cb rfl (by rfl) rfl rfl (by omega) rfl rfl rfl (fun g8=>AE fun hz lz kz=>?_);have hE:=hE.up lz;have hV:=(OwnL.blk (g:=g8) (el:=22) (F:=cW) (l:=[_]) 1 Dl rfl (by decide)).rdh (ms:=[]) kz;have lall:=(AI l1 lz)
  refine Qc call114 rfl (G1 [[0]] _ _ hz hV hE (GF (.inl rfl)).2 (GF (.inl rfl)).1) (fun rC hc msc lc hF=>?_);obtain⟨lc',m,A,vA,rfl,rfl,hOA,hA,hs⟩:=hF;have ovA:=hOA.o1;refine Sa 1 [_] AV rfl (by simp[ovA]) ?_;refine Al (Ao (Am (Ah ?_)));exact Bs (vs:=[_]) 1 rfl rfl CM rfl AV rfl rfl (⟨AI lall lc',m,A,_,rfl,rfl,hOA,by rw[hA];unfold EG;rw[if_pos (by omega)],hs⟩)
 ·refine Ac (Au (Qm rfl (Qm rfl (Al ?_))));refine Av rfl (fun h1=>?_) (fun h1=>?_)
  ·refine Ag (Ab ?_);refine Av rfl (fun hc=>?_) (fun hc=>absurd (h1) hc);refine Au (Qm rfl (Qx (AO rfl call34 rfl (Ig n 10 hn (by decide) _ _)) rfl ?_));rw[hk];refine Qc call115 rfl (GW k hp (by omega)) (fun rC hc msc lc hF=>?_);obtain⟨lc',m,A,vA,rfl,rfl,hOA,hA,hs⟩:=hF;have ovA:=hOA.o1;refine Sa 1 [_] AV rfl (by simp[ovA]) ?_;refine Al (Ao (Am (Ah ?_)));exact Bs (vs:=[_]) 1 rfl rfl CM rfl AV rfl rfl (⟨lc',m,A,_,rfl,rfl,hOA,by rw[hA];unfold EG;rw[if_neg (by omega),if_pos (by omega)],hs⟩)
  ·refine Ac (Ad (Qm rfl (Qm rfl (Al ?_))));refine Av rfl (fun h2=>?_) (fun h2=>?_)
   ·refine Ag (Ab ?_);refine Av rfl (fun hc=>?_) (fun hc=>absurd (h2) hc);refine Au (Qm rfl (Qx (AO rfl call34 rfl (Ig n 10 hn (by decide) _ _)) rfl ?_));rw[hk];refine Qc call115 rfl (GW k hp (by omega)) (fun rC hc msc lc hF=>?_);obtain⟨lc',m,A,vA,rfl,rfl,hOA,hA,hs⟩:=hF;have ovA:=hOA.o1;refine Sa 1 [_] AV rfl (by simp[ovA]) ?_;refine Al (Ao (Am (Ah ?_)));exact Bs (vs:=[_]) 1 rfl rfl CM rfl AV rfl rfl (⟨lc',m,A,_,rfl,rfl,hOA,by rw[hA];unfold EG;rw[if_neg (by omega),if_pos (by omega)],hs⟩)
   ·refine Ad (Qm rfl (Qm rfl (Al ?_)));refine Av rfl (fun h3=>?_) (fun h3=>?_)
    ·refine Ac (Ad (Qm rfl (Qx (AO rfl call34 rfl (Ig n 10 hn (by decide) _ _)) rfl ?_)));rw[hk];refine Qc call115 rfl (GW k hp (by omega)) (fun rC hc msc lc hF=>?_);obtain⟨lc',m,A,vA,rfl,rfl,hOA,hA,hs⟩:=hF;have ovA:=hOA.o1;refine Sa 1 [_] AV rfl (by simp[ovA]) ?_;refine Al (Ao (Am (Ah ?_)));exact Bs (vs:=[_]) 1 rfl rfl CM rfl AV rfl rfl (⟨lc',m,A,_,rfl,rfl,hOA,by rw[hA];unfold EG;rw[if_neg (by omega),if_pos (by omega)],hs⟩)
    ·refine Ac (Ad (Qm rfl (Qm rfl (Al ?_))));refine Av rfl (fun h4=>?_) (fun h4=>?_)
     ·refine Ac (Ad (Qc call115 rfl (GW 0 hp (by omega)) (fun rC hc msc lc hF=>?_)));obtain⟨lc',m,A,vA,rfl,rfl,hOA,hA,hs⟩:=hF;have ovA:=hOA.o1;refine Sa 1 [_] AV rfl (by simp[ovA]) ?_;refine Al (Ao (Am (Ah ?_)));exact Bs (vs:=[_]) 1 rfl rfl CM rfl AV rfl rfl (⟨lc',m,A,_,rfl,rfl,hOA,by rw[hA];unfold EG;rw[if_neg (by omega),if_neg (by omega),if_pos (by omega)],hs⟩)
     ·refine Ac (Ad (Qm rfl (Qm rfl (Al ?_))));refine Av rfl (fun h5=>?_) (fun h5=>?_)
      ·have hE:=RdEs.nil hp;refine Au (An [_] rfl AR Be rfl (by rfl) rfl rfl (by omega) rfl rfl rfl (fun g22=>AE fun h1 l1 k1=>?_));have hE:=(hE.up l1).snoc (BQ [0] 1 rfl (by decide) k1);refine An [_] rfl AR Be rfl (by rfl) rfl rfl (by omega) rfl rfl rfl (fun g23=>AE fun h2 l2 k2=>?_);have hE:=(hE.up l2).snoc (BQ [0] 1 rfl (by decide) k2);refine An [_] rfl AR Be rfl (by rfl) rfl rfl (by omega) rfl rfl rfl (fun g24=>AE fun h3 l3 k3=>?_);have hE:=(hE.up l3).snoc (BQ [0] 1 rfl (by decide) k3);refine Aq [(0,_),(1,_),(2,_)] [.int .i64 0,.int .i64 0,.int .i64 0] [_,_,_] rfl AR Be rfl (by omega) (by kernel_rfl) Qt rfl rfl rfl rfl (fun g25=>AE fun h4 l4 k4=>?_);have hE:=(hE.up l4).snoc (BQ [1,-1,2] 3 rfl (by decide) k4);refine Aq [(0,_),(1,_),(2,_)] [.int .i64 0,.int .i64 0,.int .i64 0] [_,_,_] rfl AR Be rfl (by omega) (by kernel_rfl) Qt rfl rfl rfl rfl (fun g26=>AE fun h5 l5 k5=>?_);have hE:=(hE.up l5).snoc (BQ [1,-1,2] 3 rfl (by decide) k5);refine Aq [(0,_),(1,_),(2,_)] [.int .i64 0,.int .i64 0,.int .i64 0] [_,_,_] rfl AR Be rfl (by omega) (by kernel_rfl) Qt rfl rfl rfl rfl (fun g27=>AE fun h6 l6 k6=>?_);have hE:=(hE.up l6).snoc (BQ [1,-2,3] 3 rfl (by decide) k6);refine Aq [(0,_),(1,_),(2,_)] [.int .i64 0,.int .i64 0,.int .i64 0] [_,_,_] rfl AR Be rfl (by omega) (by kernel_rfl) Qt rfl rfl rfl rfl (fun g28=>AE fun h7 l7 k7=>?_);have hE:=(hE.up l7).snoc (BQ [1,-2,3] 3 rfl (by decide) k7);refine Aq [(0,_),(1,_),(2,_)] [.int .i64 0,.int .i64 0,.int .i64 0] [_,_,_] rfl AR Be rfl (by omega) (by kernel_rfl) Qt rfl rfl rfl rfl (fun g29=>AE fun h8 l8 k8=>?_);have hE:=(hE.up l8).snoc (BQ [1,-1,3] 3 rfl (by decide) k8);refine Aq [(0,_),(1,_),(2,_)] [.int .i64 0,.int .i64 0,.int .i64 0] [_,_,_] rfl AR Be rfl (by omega) (by kernel_rfl) Qt rfl rfl rfl rfl (fun g30=>AE fun h9 l9 k9=>?_);have hE:=(hE.up l9).snoc (BQ [1,-1,3] 3 rfl (by decide) k9);refine Aq [(0,_),(1,_),(2,_),(3,_)] [.int .i64 0,.int .i64 0,.int .i64 0,.int .i64 0] [_,_,_,_] rfl AR Be rfl (by omega) (by kernel_rfl) Qt rfl rfl rfl rfl (fun g31=>AE fun h10 l10 k10=>?_);have hE:=(hE.up l10).snoc (BQ [2,4,6,-8] 4 rfl (by decide) k10);refine Aq [(0,_),(1,_),(2,_),(3,_)] [.int .i64 0,.int .i64 0,.int .i64 0,.int .i64 0] [_,_,_,_] rfl AR Be rfl (by omega) (by kernel_rfl) Qt rfl rfl rfl rfl (fun g32=>AE fun h11 l11 k11=>?_);have hE:=(hE.up l11).snoc (BQ [2,4,7,-9] 4 rfl (by decide) k11);refine Aq [(0,_),(1,_),(2,_),(3,_)] [.int .i64 0,.int .i64 0,.int .i64 0,.int .i64 0] [_,_,_,_] rfl AR Be rfl (by omega) (by kernel_rfl) Qt rfl rfl rfl rfl (fun g33=>AE fun h12 l12 k12=>?_);have hE:=(hE.up l12).snoc (BQ [2,5,6,-9] 4 rfl (by decide) k12);refine Aq [(0,_),(1,_),(2,_),(3,_)] [.int .i64 0,.int .i64 0,.int .i64 0,.int .i64 0] [_,_,_,_] rfl AR Be rfl (by omega) (by kernel_rfl) Qt rfl rfl rfl rfl (fun g34=>AE fun h13 l13 k13=>?_);have hE:=(hE.up l13).snoc (BQ [2,5,7,-8] 4 rfl (by decide) k13);refine Aq [(0,_),(1,_),(2,_),(3,_),(4,_),(5,_),(6,_),(7,_),(8,_),(9,_),(10,_),(11,_),(12,_)] [.slice none 0 0,.slice none 0 0,.slice none 0 0,.slice none 0 0,.slice none 0 0,.slice none 0 0,.slice none 0 0,.slice none 0 0,.slice none 0 0,.slice none 0 0,.slice none 0 0,.slice none 0 0,.slice none 0 0] [_,_,_,_,_,_,_,_,_,_,_,_,_] rfl B7 Cb rfl (by omega) (by kernel_rfl) Qt rfl rfl rfl rfl (fun g35=>AE fun hz lz kz=>?_);have hE:=hE.up lz;have hV:=(OwnL.blk (g:=g35) (el:=22) (F:=cW) (l:=[_,_,_,_,_,_,_,_,_,_,_,_,_]) 13 Dl rfl (by decide)).rdh (ms:=[]) kz;have lall:=(AI l1 (AI l2 (AI l3 (AI l4 (AI l5 (AI l6 (AI l7 (AI l8 (AI l9 (AI l10 (AI l11 (AI l12 (AI l13 lz)))))))))))))
       refine Qc call114 rfl (G1 YC _ _ hz hV hE (GF (.inr (.inl rfl))).2 (GF (.inr (.inl rfl))).1) (fun rC hc msc lc hF=>?_);obtain⟨lc',m,A,vA,rfl,rfl,hOA,hA,hs⟩:=hF;have ovA:=hOA.o1;refine Sa 1 [_] AV rfl (by simp[ovA]) ?_;refine Al (Ao (Am (Ah ?_)));exact Bs (vs:=[_]) 1 rfl rfl CM rfl AV rfl rfl (⟨AI lall lc',m,A,_,rfl,rfl,hOA,by rw[hA];unfold EG;rw[if_neg (by omega),if_neg (by omega),if_neg (by omega),if_pos (by omega)],hs⟩)
      ·refine Ac (Ad (Qm rfl (Qm rfl (Al ?_))));refine Av rfl (fun h6=>?_) (fun h6=>?_)
       ·refine Ac (Ad (Qc call116 rfl (NO 3 hp (by omega)) (fun rC hc msc lc hF=>?_)));obtain⟨lc',m,A,vA,rfl,rfl,hOA,hA,hs⟩:=hF;have ovA:=hOA.o1;refine Sa 1 [_] AV rfl (by simp[ovA]) ?_;refine Al (Ao (Am (Ah ?_)));exact Bs (vs:=[_]) 1 rfl rfl CM rfl AV rfl rfl (⟨lc',m,A,_,rfl,rfl,hOA,by rw[hA];unfold EG;rw[if_neg (by omega),if_neg (by omega),if_neg (by omega),if_neg (by omega),if_pos (by omega)],hs⟩)
       ·refine Ac (Ad (Qm rfl (Qm rfl (Al ?_))));refine Av rfl (fun h7=>?_) (fun h7=>?_)
        ·have hE:=RdEs.nil hp;refine Au (An [_] rfl AR Be rfl (by rfl) rfl rfl (by omega) rfl rfl rfl (fun g42=>AE fun h1 l1 k1=>?_));have hE:=(hE.up l1).snoc (BQ [0] 1 rfl (by decide) k1);refine An [_] rfl AR Be rfl (by rfl) rfl rfl (by omega) rfl rfl rfl (fun g43=>AE fun h2 l2 k2=>?_);have hE:=(hE.up l2).snoc (BQ [0] 1 rfl (by decide) k2);refine An [_] rfl AR Be rfl (by rfl) rfl rfl (by omega) rfl rfl rfl (fun g44=>AE fun h3 l3 k3=>?_);have hE:=(hE.up l3).snoc (BQ [0] 1 rfl (by decide) k3);refine An [_] rfl AR Be rfl (by rfl) rfl rfl (by omega) rfl rfl rfl (fun g45=>AE fun h4 l4 k4=>?_);have hE:=(hE.up l4).snoc (BQ [0] 1 rfl (by decide) k4);refine Aq [(0,_),(1,_),(2,_)] [.int .i64 0,.int .i64 0,.int .i64 0] [_,_,_] rfl AR Be rfl (by omega) (by kernel_rfl) Qt rfl rfl rfl rfl (fun g46=>AE fun h5 l5 k5=>?_);have hE:=(hE.up l5).snoc (BQ [1,-1,2] 3 rfl (by decide) k5);refine Aq [(0,_),(1,_),(2,_)] [.int .i64 0,.int .i64 0,.int .i64 0] [_,_,_] rfl AR Be rfl (by omega) (by kernel_rfl) Qt rfl rfl rfl rfl (fun g47=>AE fun h6 l6 k6=>?_);have hE:=(hE.up l6).snoc (BQ [1,-1,2] 3 rfl (by decide) k6);refine Aq [(0,_),(1,_),(2,_)] [.int .i64 0,.int .i64 0,.int .i64 0] [_,_,_] rfl AR Be rfl (by omega) (by kernel_rfl) Qt rfl rfl rfl rfl (fun g48=>AE fun h7 l7 k7=>?_);have hE:=(hE.up l7).snoc (BQ [1,-3,4] 3 rfl (by decide) k7);refine Aq [(0,_),(1,_),(2,_)] [.int .i64 0,.int .i64 0,.int .i64 0] [_,_,_] rfl AR Be rfl (by omega) (by kernel_rfl) Qt rfl rfl rfl rfl (fun g49=>AE fun h8 l8 k8=>?_);have hE:=(hE.up l8).snoc (BQ [1,-3,4] 3 rfl (by decide) k8);refine Aq [(0,_),(1,_),(2,_)] [.int .i64 0,.int .i64 0,.int .i64 0] [_,_,_] rfl AR Be rfl (by omega) (by kernel_rfl) Qt rfl rfl rfl rfl (fun g50=>AE fun h9 l9 k9=>?_);have hE:=(hE.up l9).snoc (BQ [1,-1,3] 3 rfl (by decide) k9);refine Aq [(0,_),(1,_),(2,_)] [.int .i64 0,.int .i64 0,.int .i64 0] [_,_,_] rfl AR Be rfl (by omega) (by kernel_rfl) Qt rfl rfl rfl rfl (fun g51=>AE fun h10 l10 k10=>?_);have hE:=(hE.up l10).snoc (BQ [1,-2,4] 3 rfl (by decide) k10);refine Aq [(0,_),(1,_),(2,_)] [.int .i64 0,.int .i64 0,.int .i64 0] [_,_,_] rfl AR Be rfl (by omega) (by kernel_rfl) Qt rfl rfl rfl rfl (fun g52=>AE fun h11 l11 k11=>?_);have hE:=(hE.up l11).snoc (BQ [1,-3,1] 3 rfl (by decide) k11);refine Aq [(0,_),(1,_),(2,_)] [.int .i64 0,.int .i64 0,.int .i64 0] [_,_,_] rfl AR Be rfl (by omega) (by kernel_rfl) Qt rfl rfl rfl rfl (fun g53=>AE fun h12 l12 k12=>?_);have hE:=(hE.up l12).snoc (BQ [1,-4,2] 3 rfl (by decide) k12);refine Aq [(0,_),(1,_),(2,_),(3,_),(4,_)] [.int .i64 0,.int .i64 0,.int .i64 0,.int .i64 0,.int .i64 0] [_,_,_,_,_] rfl AR Be rfl (by omega) (by kernel_rfl) Qt rfl rfl rfl rfl (fun g54=>AE fun h13 l13 k13=>?_);have hE:=(hE.up l13).snoc (BQ [2,5,10,-7,-9] 5 rfl (by decide) k13);refine Aq [(0,_),(1,_),(2,_),(3,_),(4,_)] [.int .i64 0,.int .i64 0,.int .i64 0,.int .i64 0,.int .i64 0] [_,_,_,_,_] rfl AR Be rfl (by omega) (by kernel_rfl) Qt rfl rfl rfl rfl (fun g55=>AE fun h14 l14 k14=>?_);have hE:=(hE.up l14).snoc (BQ [2,6,10,-8,-9] 5 rfl (by decide) k14);refine Aq [(0,_),(1,_),(2,_),(3,_),(4,_)] [.int .i64 0,.int .i64 0,.int .i64 0,.int .i64 0,.int .i64 0] [_,_,_,_,_] rfl AR Be rfl (by omega) (by kernel_rfl) Qt rfl rfl rfl rfl (fun g56=>AE fun h15 l15 k15=>?_);have hE:=(hE.up l15).snoc (BQ [2,7,12,-6,-11] 5 rfl (by decide) k15);refine Aq [(0,_),(1,_),(2,_),(3,_),(4,_)] [.int .i64 0,.int .i64 0,.int .i64 0,.int .i64 0,.int .i64 0] [_,_,_,_,_] rfl AR Be rfl (by omega) (by kernel_rfl) Qt rfl rfl rfl rfl (fun g57=>AE fun h16 l16 k16=>?_);have hE:=(hE.up l16).snoc (BQ [2,8,12,-5,-11] 5 rfl (by decide) k16);refine Aq [(0,_),(1,_),(2,_),(3,_),(4,_),(5,_),(6,_),(7,_),(8,_),(9,_),(10,_),(11,_),(12,_),(13,_),(14,_),(15,_)] [.slice none 0 0,.slice none 0 0,.slice none 0 0,.slice none 0 0,.slice none 0 0,.slice none 0 0,.slice none 0 0,.slice none 0 0,.slice none 0 0,.slice none 0 0,.slice none 0 0,.slice none 0 0,.slice none 0 0,.slice none 0 0,.slice none 0 0,.slice none 0 0] [_,_,_,_,_,_,_,_,_,_,_,_,_,_,_,_] rfl B7 Cb rfl (by omega) (by kernel_rfl) Qt rfl rfl rfl rfl (fun g58=>AE fun hz lz kz=>?_);have hE:=hE.up lz;have hV:=(OwnL.blk (g:=g58) (el:=22) (F:=cW) (l:=[_,_,_,_,_,_,_,_,_,_,_,_,_,_,_,_]) 16 Dl rfl (by decide)).rdh (ms:=[]) kz;have lall:=(AI l1 (AI l2 (AI l3 (AI l4 (AI l5 (AI l6 (AI l7 (AI l8 (AI l9 (AI l10 (AI l11 (AI l12 (AI l13 (AI l14 (AI l15 (AI l16 lz))))))))))))))))
         refine Qc call114 rfl (G1 Zm _ _ hz hV hE (GF (.inr (.inr (.inl rfl)))).2 (GF (.inr (.inr (.inl rfl)))).1) (fun rC hc msc lc hF=>?_);obtain⟨lc',m,A,vA,rfl,rfl,hOA,hA,hs⟩:=hF;have ovA:=hOA.o1;refine Sa 1 [_] AV rfl (by simp[ovA]) ?_;refine Al (Ao (Am (Ah ?_)));exact Bs (vs:=[_]) 1 rfl rfl CM rfl AV rfl rfl (⟨AI lall lc',m,A,_,rfl,rfl,hOA,by rw[hA];unfold EG;rw[if_neg (by omega),if_neg (by omega),if_neg (by omega),if_neg (by omega),if_neg (by omega),if_pos (by omega)],hs⟩)
        ·refine Ac (Ad (Qm rfl (Qm rfl (Al ?_))));refine Av rfl (fun h8=>?_) (fun h8=>?_)
         ·have hE:=RdEs.nil hp;refine Au (An [_] rfl AR Be rfl (by rfl) rfl rfl (by omega) rfl rfl rfl (fun g62=>AE fun h1 l1 k1=>?_));have hE:=(hE.up l1).snoc (BQ [0] 1 rfl (by decide) k1);refine An [_] rfl AR Be rfl (by rfl) rfl rfl (by omega) rfl rfl rfl (fun g63=>AE fun h2 l2 k2=>?_);have hE:=(hE.up l2).snoc (BQ [0] 1 rfl (by decide) k2);refine An [_] rfl AR Be rfl (by rfl) rfl rfl (by omega) rfl rfl rfl (fun g64=>AE fun h3 l3 k3=>?_);have hE:=(hE.up l3).snoc (BQ [0] 1 rfl (by decide) k3);refine An [_] rfl AR Be rfl (by rfl) rfl rfl (by omega) rfl rfl rfl (fun g65=>AE fun h4 l4 k4=>?_);have hE:=(hE.up l4).snoc (BQ [0] 1 rfl (by decide) k4);refine Aq [(0,_),(1,_),(2,_)] [.int .i64 0,.int .i64 0,.int .i64 0] [_,_,_] rfl AR Be rfl (by omega) (by kernel_rfl) Qt rfl rfl rfl rfl (fun g66=>AE fun h5 l5 k5=>?_);have hE:=(hE.up l5).snoc (BQ [1,-1,2] 3 rfl (by decide) k5);refine Aq [(0,_),(1,_),(2,_)] [.int .i64 0,.int .i64 0,.int .i64 0] [_,_,_] rfl AR Be rfl (by omega) (by kernel_rfl) Qt rfl rfl rfl rfl (fun g67=>AE fun h6 l6 k6=>?_);have hE:=(hE.up l6).snoc (BQ [1,-1,2] 3 rfl (by decide) k6);refine Aq [(0,_),(1,_),(2,_)] [.int .i64 0,.int .i64 0,.int .i64 0] [_,_,_] rfl AR Be rfl (by omega) (by kernel_rfl) Qt rfl rfl rfl rfl (fun g68=>AE fun h7 l7 k7=>?_);have hE:=(hE.up l7).snoc (BQ [1,-3,4] 3 rfl (by decide) k7);refine Aq [(0,_),(1,_),(2,_)] [.int .i64 0,.int .i64 0,.int .i64 0] [_,_,_] rfl AR Be rfl (by omega) (by kernel_rfl) Qt rfl rfl rfl rfl (fun g69=>AE fun h8 l8 k8=>?_);have hE:=(hE.up l8).snoc (BQ [1,-3,4] 3 rfl (by decide) k8);refine Aq [(0,_),(1,_),(2,_)] [.int .i64 0,.int .i64 0,.int .i64 0] [_,_,_] rfl AR Be rfl (by omega) (by kernel_rfl) Qt rfl rfl rfl rfl (fun g70=>AE fun h9 l9 k9=>?_);have hE:=(hE.up l9).snoc (BQ [1,-1,3] 3 rfl (by decide) k9);refine Aq [(0,_),(1,_),(2,_)] [.int .i64 0,.int .i64 0,.int .i64 0] [_,_,_] rfl AR Be rfl (by omega) (by kernel_rfl) Qt rfl rfl rfl rfl (fun g71=>AE fun h10 l10 k10=>?_);have hE:=(hE.up l10).snoc (BQ [1,-2,4] 3 rfl (by decide) k10);refine Aq [(0,_),(1,_),(2,_)] [.int .i64 0,.int .i64 0,.int .i64 0] [_,_,_] rfl AR Be rfl (by omega) (by kernel_rfl) Qt rfl rfl rfl rfl (fun g72=>AE fun h11 l11 k11=>?_);have hE:=(hE.up l11).snoc (BQ [1,-3,1] 3 rfl (by decide) k11);refine Aq [(0,_),(1,_),(2,_)] [.int .i64 0,.int .i64 0,.int .i64 0] [_,_,_] rfl AR Be rfl (by omega) (by kernel_rfl) Qt rfl rfl rfl rfl (fun g73=>AE fun h12 l12 k12=>?_);have hE:=(hE.up l12).snoc (BQ [1,-4,2] 3 rfl (by decide) k12);refine Aq [(0,_),(1,_),(2,_),(3,_),(4,_)] [.int .i64 0,.int .i64 0,.int .i64 0,.int .i64 0,.int .i64 0] [_,_,_,_,_] rfl AR Be rfl (by omega) (by kernel_rfl) Qt rfl rfl rfl rfl (fun g74=>AE fun h13 l13 k13=>?_);have hE:=(hE.up l13).snoc (BQ [2,5,10,-7,-9] 5 rfl (by decide) k13);refine Aq [(0,_),(1,_),(2,_),(3,_),(4,_)] [.int .i64 0,.int .i64 0,.int .i64 0,.int .i64 0,.int .i64 0] [_,_,_,_,_] rfl AR Be rfl (by omega) (by kernel_rfl) Qt rfl rfl rfl rfl (fun g75=>AE fun h14 l14 k14=>?_);have hE:=(hE.up l14).snoc (BQ [2,6,10,-8,-9] 5 rfl (by decide) k14);refine Aq [(0,_),(1,_),(2,_),(3,_),(4,_)] [.int .i64 0,.int .i64 0,.int .i64 0,.int .i64 0,.int .i64 0] [_,_,_,_,_] rfl AR Be rfl (by omega) (by kernel_rfl) Qt rfl rfl rfl rfl (fun g76=>AE fun h15 l15 k15=>?_);have hE:=(hE.up l15).snoc (BQ [2,7,12,-5,-11] 5 rfl (by decide) k15);refine Aq [(0,_),(1,_),(2,_),(3,_),(4,_)] [.int .i64 0,.int .i64 0,.int .i64 0,.int .i64 0,.int .i64 0] [_,_,_,_,_] rfl AR Be rfl (by omega) (by kernel_rfl) Qt rfl rfl rfl rfl (fun g77=>AE fun h16 l16 k16=>?_);have hE:=(hE.up l16).snoc (BQ [2,8,12,-6,-11] 5 rfl (by decide) k16);refine Aq [(0,_),(1,_),(2,_),(3,_),(4,_),(5,_),(6,_),(7,_),(8,_),(9,_),(10,_),(11,_),(12,_),(13,_),(14,_),(15,_)] [.slice none 0 0,.slice none 0 0,.slice none 0 0,.slice none 0 0,.slice none 0 0,.slice none 0 0,.slice none 0 0,.slice none 0 0,.slice none 0 0,.slice none 0 0,.slice none 0 0,.slice none 0 0,.slice none 0 0,.slice none 0 0,.slice none 0 0,.slice none 0 0] [_,_,_,_,_,_,_,_,_,_,_,_,_,_,_,_] rfl B7 Cb rfl (by omega) (by kernel_rfl) Qt rfl rfl rfl rfl (fun g78=>AE fun hz lz kz=>?_);have hE:=hE.up lz;have hV:=(OwnL.blk (g:=g78) (el:=22) (F:=cW) (l:=[_,_,_,_,_,_,_,_,_,_,_,_,_,_,_,_]) 16 Dl rfl (by decide)).rdh (ms:=[]) kz;have lall:=(AI l1 (AI l2 (AI l3 (AI l4 (AI l5 (AI l6 (AI l7 (AI l8 (AI l9 (AI l10 (AI l11 (AI l12 (AI l13 (AI l14 (AI l15 (AI l16 lz))))))))))))))))
          refine Qc call114 rfl (G1 Zr _ _ hz hV hE (GF (.inr (.inr (.inr rfl)))).2 (GF (.inr (.inr (.inr rfl)))).1) (fun rC hc msc lc hF=>?_);obtain⟨lc',m,A,vA,rfl,rfl,hOA,hA,hs⟩:=hF;have ovA:=hOA.o1;refine Sa 1 [_] AV rfl (by simp[ovA]) ?_;refine Al (Ao (Am (Ah ?_)));exact Bs (vs:=[_]) 1 rfl rfl CM rfl AV rfl rfl (⟨AI lall lc',m,A,_,rfl,rfl,hOA,by rw[hA];unfold EG;rw[if_neg (by omega),if_neg (by omega),if_neg (by omega),if_neg (by omega),if_neg (by omega),if_neg (by omega),if_pos (by omega)],hs⟩)
         ·refine Ag (Ai (Ab (Au (Qc call116 rfl (NO 4 hp (by omega)) (fun rC hc msc lc hF=>?_)))));obtain⟨lc',m,A,vA,rfl,rfl,hOA,hA,hs⟩:=hF;have ovA:=hOA.o1;refine Sa 1 [_] AV rfl (by simp[ovA]) ?_;refine Al (Ao ?_);exact Bs (vs:=[_]) 1 rfl rfl CM rfl AV rfl rfl (⟨lc',m,A,_,rfl,rfl,hOA,by rw[hA];unfold EG;rw[if_neg (by omega),if_neg (by omega),if_neg (by omega),if_neg (by omega),if_neg (by omega),if_neg (by omega),if_neg (by omega)],hs⟩)
theorem LD(A B:List Ce)(va vb:Value)(K:Int)(hK:0<=K/\K<=1000000)(hp:Hp)(hA:RdC hp va A)(hB:RdC hp vb B)(hnA:A.length<=1000)(hnB:B.length<=1000)(hiA:∀a∈A,-1000000<=a.c.id/\a.c.id<=K)(hiB:∀b∈B,(-1000000<=b.c.id/\b.c.id<=1000000)/\b.c.sd.length<=100/\∀s∈b.c.sd,-1000000<=s.1/\s.1<=1000000) :
  FnT Tryz.prog 48 #[.agg #[va],.agg #[vb]] hp [] (fun r h' ms'=>hp.le h'/\O6 h' r ms' (fun o=>∃m:Int,0<=m/\m<=K/\(∀a∈A,a.c.id<=m)/\o=A.map Ce.c++(B.map Ce.c).map (UN m))):=by
 have oa:=hA.q.rd.one;have ob:=hB.q.rd.one;refine Ap func48 ntmps48 rfl rfl (fun w0 hw0=>?_);simp only[AU];refine Au (AX [_] rfl rfl (by rfl) rfl rfl rfl (fun g2=>AX [_] rfl rfl (by rfl) rfl rfl rfl (fun g3=>CN [.slice none 0 0] rfl AV rfl rfl (fun g4=>Al (Bo 1 rfl fun h1 l1 hS3=>(Bo 1 rfl fun h2 l2 hS2=>?_))))));have hA:=(hA.up l1).up l2;have hB:=(hB.up l1).up l2;have hS3:=hS3.le l2;have e2:∀{h},h2.le h->∀ms,Cell h ms (⟨g2,0,none⟩:Addr) va:=fun l ms=>Seg.all (hS2.le l) 0 _ rfl ms;have e3:∀{h},h2.le h->∀ms,Cell h ms (⟨g3,0,none⟩:Addr) vb:=fun l ms=>Seg.all (hS3.le l) 0 _ rfl ms;refine Au (Qm rfl (Al ?_));refine Bb (fun sl h' ms'=>∃(m:Int),sl=[(2,.pointer (some ⟨g2,0,none⟩)),(3,.pointer (some ⟨g3,0,none⟩)),(4,.pointer (some ⟨g4,0,none⟩)),(5,.int .i64 m)]/\h2=h'/\ms'=[Bi g4 29 [.slice none 0 0]]/\0<=m/\m<=K/\∀a∈A,a.c.id<=m) ?_ (fun s h ms hI=>?_)
 ·refine Ac (Ad (Qm rfl (Al (Af ?_))))
  refine Ax (fun q sl h' ms'=>∃(i:Nat) (m:Int),q=A.length-i/\sl=[(2,.pointer (some ⟨g2,0,none⟩)),(3,.pointer (some ⟨g3,0,none⟩)),(4,.pointer (some ⟨g4,0,none⟩)),(5,.int .i64 m),(6,.int .i64 i)]/\h2=h'/\ms'=[Bi g4 29 [.slice none 0 0]]/\i<=A.length/\0<=m/\m<=K/\∀a∈A.take i,a.c.id<=m)
   (A.length-0) _ ⟨0,0,rfl,rfl,rfl,rfl,by omega,by omega,by omega,by simp⟩ Qs ?_
  rintro q sl h' ms' ⟨i,m,rfl,rfl,rfl,rfl,hi,hm0,hm1,hm⟩;refine Ac (Au (Qm rfl (Qf BW rfl (Ql rfl Bk (e2 (DU) _) (Qx (Ar hA.q.rd.any rfl Bk rfl) rfl (Qm rfl (Al ?_)))))));refine Av rfl (fun hlt=>?_) (fun hlt=>?_)
  ·have hil:i<A.length:=by omega
   obtain⟨x,hx⟩:∃x,A[i]=x:=⟨_,rfl⟩
   have hxi:=hiA x (by rw[<-hx];exact getElem_mem hil);have cx:∀ms,Cell h2 ms (((AF va).add (i*3)).add 0) (.int .i64 x.c.id):=fun ms=>by rw[<-hx];exact(hA.q.any (ms:=ms)).cell (j:=i) hil (f:=0) rfl
   refine Ag (Ab (Ac (Af (Ad (Qm rfl (Qf BW rfl (Ql rfl Bk (e2 (DU) _) (Qm rfl (Qx (BU (i) hA.q.rd.any rfl Bk AH rfl rfl) rfl (Qf By rfl (Ql rfl U3 (cx _) (Qx (IX rfl rfl rfl) rfl (Qm rfl (Aj (Ai (Ab (Ad (Qm rfl (Qx (oA rfl) rfl (Qm rfl (Aj ?_)))))))))))))))))))))
   exact Ak (A.length-(i+1)) _ (by omega) ⟨i+1,max m x.c.id,rfl,rfl,rfl,rfl,by omega,by omega,by omega,fun a ha=>by
    rw[take_succ_eq_append_getElem hil,hx]at ha;rcases List.mem_append.1 ha with h|h
    ·have:=hm a h;omega
    ·rw[List.mem_singleton.1 h];omega⟩ Qs
  ·obtain rfl:i=A.length:=by omega
   refine As (Aa (Aa (Ae ?_)));exact AC _ ⟨m,rfl,rfl,rfl,hm0,hm1,fun a ha=>hm a (by rw[take_length];exact ha)⟩ Qs
 ·obtain⟨m,rfl,rfl,rfl,hm0,hm1,hm⟩:=hI;refine Au ?_;refine Aq [] [] [] rfl Bk AH rfl (by omega) (by kernel_rfl) (by repeat (first|exact trivial|refine⟨⟨by first|rfl|exact(hA.q.rd.any).cells|exact Rd.cells ‹_›|exact(RdL.rd ‹_›).cells,rfl,rfl⟩,?_⟩)) rfl rfl rfl rfl (fun g27=>?_);refine Qf BW rfl (Ql rfl Bk (e2 (DU) _) (AZ 0 (FN g27 Cc) hA.q.any rfl Bk AH rfl (by omega) rfl rfl rfl (C0 hA.s) (by(try simp only[length_singleton,length_nil,Nat.zero_add]);omega) (by(try simp only[length_singleton,length_nil,Nat.zero_add]);omega) rfl rfl rfl (fun vA mA hOA=>?_)));have ovA:=hOA.o1;rw[nil_append]at hOA;obtain⟨aA,cA,rfl,_⟩:=(hOA.rd (h:=hp) (ms:=[mA]) Mh).rd.ex;refine Qx (Bf YE [.slice none 0 0] [(0,_)] [_] rfl AV rfl rfl Qt rfl) rfl (CN [.slice none 0 0] rfl AV rfl rfl (fun g7=>?_));refine Sa 0 [_] AV rfl (by simp[Value.oneCell']) ?_;refine Al (Ac (Au (Qm rfl (Al (Af (H6 (ms':=[mA,Bi g7 29 [.slice aA A.length cA],Bi g4 29 [.slice none 0 0]]) (List.Perm.swap _ _ _) ?_))))))
  refine Ax (fun q sl h' ms'=>∃(i:Nat) (v:Value) (mO:Hp) (O:List Ce),q=B.length-i/\sl=[(2,.pointer (some ⟨g2,0,none⟩)),(3,.pointer (some ⟨g3,0,none⟩)),(4,.pointer (some ⟨g4,0,none⟩)),(5,.int .i64 m),(7,.pointer (some ⟨g7,0,none⟩)),(8,.int .i64 i)]/\h2.le h'/\ms'=[mO,Bi g7 29 [v],Bi g4 29 [.slice none 0 0]]/\i<=B.length/\OwnL cC 3 52 mO v O/\O.map Ce.c=A.map Ce.c++((B.take i).map Ce.c).map (UN m)/\∀a∈O,RdL cD 2 h' [] a.v a.c.sd)
   (B.length-0) _ ⟨0,_,mA,A,rfl,rfl,DU,rfl,by omega,hOA,by simp,hA.s⟩ Qs ?_
  rintro q sl h' ms' ⟨i,v,mO,O,rfl,rfl,lh,rfl,hi,hO,hOc,hOs⟩;have hB:=hB.up lh;have ov:=hO.o1;have hOl:O.length=A.length+i:=by have:=congrArg List.length hOc;simpa[Nat.min_eq_left hi] using this
  refine Ac (Au (Qm rfl (Qf BW rfl (Ql rfl Bk (e3 lh _) (Qx (Ar hB.q.rd.any rfl Bk rfl) rfl (Qm rfl (Al ?_)))))));refine Av rfl (fun hlt=>?_) (fun hlt=>?_)
  ·have hil:i<B.length:=by omega
   obtain⟨x,hx⟩:∃x,B[i]=x:=⟨_,rfl⟩
   have hxm:x∈B:=by rw[<-hx];exact getElem_mem hil
   obtain⟨hxi,hxl,hxs⟩:=hiB x hxm;have hX:=hB.s x hxm;have cx0:∀ms,Cell h' ms (((AF vb).add (i*3)).add 0) (.int .i64 x.c.id):=fun ms=>by rw[<-hx];exact(hB.q.any (ms:=ms)).cell (j:=i) hil (f:=0) rfl
   have cx1:∀ms,Cell h' ms (((AF vb).add (i*3)).add 1) (.int .i64 x.c.dim):=fun ms=>by rw[<-hx];exact(hB.q.any (ms:=ms)).cell (j:=i) hil (f:=1) rfl
   have cx2:∀ms,Cell h' ms (((AF vb).add (i*3)).add 2) x.v:=fun ms=>by rw[<-hx];exact(hB.q.any (ms:=ms)).cell (j:=i) hil (f:=2) rfl
   have ox:=hX.rd.one;refine Ag (Ab (Ac (Af (Ac (Bg 16 CY (by kernel_rfl) rfl (Wf BW rfl (Wl rfl Bk (e3 lh _) (Wm rfl (AP (BU (i) hB.q.rd.any rfl Bk AH rfl rfl) rfl rfl (Wf By rfl (Wl rfl U3 (cx0 _) (Wm rfl (AP (oA rfl) rfl rfl (Wf BW rfl (Wl rfl Bk (e3 lh _) (Wm rfl (AP (BU (i) hB.q.rd.any rfl Bk AH rfl rfl) rfl rfl (Wf Cw rfl (Wl rfl U3 (cx1 _) (AP (Bf X7 [.int .i64 0,.int .i64 0,.slice none 0 0] [(0,_),(1,_)] [_,_,_] rfl AH rfl rfl Qt rfl) rfl rfl (UF (LZ [.int .i64 0,.int .i64 0,.slice none 0 0] rfl AH rfl) rfl rfl (HJ (fun g9=>?_)))))))))))))))))))))));refine Sa 0 [_,_,_] AH rfl (by simp[Value.oneCell']) ?_;refine Al (BG ?_);refine Bb (fun sl h'' ms'=>∃(vs:Value) (mS:Hp),sl=[(2,.pointer (some ⟨g2,0,none⟩)),(3,.pointer (some ⟨g3,0,none⟩)),(4,.pointer (some ⟨g4,0,none⟩)),(5,.int .i64 m),(7,.pointer (some ⟨g7,0,none⟩)),(8,.int .i64 i),(9,.pointer (some ⟨g9,0,none⟩))]/\h'=h''/\ms'=[mS,Bi g9 52 [.int .i64 (x.c.id+m),.int .i64 x.c.dim,vs],mO,Bi g7 29 [v],Bi g4 29 [.slice none 0 0]]/\OwnL cD 2 119 mS vs (x.c.sd.map fun s=>(s.1+m,s.2))) ?_ (fun s h ms hI=>?_)
   ·refine Ac (Ad (Qm rfl (Al (Af ?_))))
    refine Ax (fun q sl h'' ms'=>∃(j:Nat) (vs:Value) (mS:Hp),q=x.c.sd.length-j/\sl=[(2,.pointer (some ⟨g2,0,none⟩)),(3,.pointer (some ⟨g3,0,none⟩)),(4,.pointer (some ⟨g4,0,none⟩)),(5,.int .i64 m),(7,.pointer (some ⟨g7,0,none⟩)),(8,.int .i64 i),(9,.pointer (some ⟨g9,0,none⟩)),(10,.int .i64 j)]/\h'=h''/\ms'=[mS,Bi g9 52 [.int .i64 (x.c.id+m),.int .i64 x.c.dim,vs],mO,Bi g7 29 [v],Bi g4 29 [.slice none 0 0]]/\j<=x.c.sd.length/\OwnL cD 2 119 mS vs ((x.c.sd.take j).map fun s=>(s.1+m,s.2)))
     (x.c.sd.length-0) _ ⟨0,_,Hp.emp,rfl,rfl,rfl,rfl,by omega,OwnL.nil D6⟩ Qs ?_
    rintro q sl h'' ms' ⟨j,vs,mS,rfl,rfl,rfl,rfl,hj,hOS⟩;have ovs:=hOS.o1;refine Ac (Au (Qm rfl (Qf BW rfl (Ql rfl Bk (e3 lh _) (Qm rfl (Qx (BU (i) hB.q.rd.any rfl Bk AH rfl rfl) rfl (Qf B5 rfl (Ql rfl Cu (cx2 _) (Qx (Ar hX.rd.any rfl Cu rfl) rfl (Qm rfl (Al ?_)))))))))));refine Av rfl (fun hjl=>?_) (fun hjl=>?_)
    ·have hjn:j<x.c.sd.length:=by omega
     obtain⟨s,hs⟩:∃s,x.c.sd[j]=s:=⟨_,rfl⟩
     have hsb:=hxs s (by rw[<-hs];exact getElem_mem hjn);have cs:∀ms,Seg h' ms ((AF x.v).add (j*2)) (cD s):=fun ms=>by rw[<-hs];exact(hX.any (ms:=ms)).seg hjn
     have hll:((x.c.sd.take j).map fun s=>(s.1+m,s.2)).length<=100:=by rw[length_map,length_take];omega
     have hsn:((x.c.sd.take (j+1)).map fun s=>(s.1+m,s.2))=((x.c.sd.take j).map fun s=>(s.1+m,s.2))++[(s.1+m,s.2)]:=by rw[take_succ_eq_append_getElem hjn,map_append,hs];rfl
     refine Ag (Ab (Ac (Af (Au (Qf BW rfl (Ql rfl Bk (e3 lh _) (Qm rfl (Qx (BU (i) hB.q.rd.any rfl Bk AH rfl rfl) rfl (Qf B5 rfl (Ql rfl Cu (cx2 _) (Qm rfl (Qx (BU (j) hX.rd.any rfl Cu AJ rfl rfl) rfl (Qx (oG rfl DE AJ (cs _)) rfl (CN [.int .i64 0,.int .i64 0] rfl AJ rfl rfl (fun g11=>?_)))))))))))))));refine Sa 0 [_,_] AJ rfl (by simp[Value.oneCell']) ?_;refine BL (Qf Cy rfl (Ql rfl U3 (Cell.blk 0 rfl rfl) (Qm rfl (Qx (oA rfl) rfl (Qf Cy rfl ?_)))));refine AK 0 _ rfl Be rfl rfl (by rfl) rfl rfl (by(simp;done)) rfl rfl ?_;refine Gn (Qf B5 rfl (Ql rfl Cu (Cell.blk 2 rfl rfl) (Qx (oG rfl DE AJ (Seg.blk 0 rfl)) rfl (An [_,_] rfl Cu AJ rfl (by rfl) rfl rfl (by omega) rfl rfl rfl (fun g82=>AQ 2 hOS (RdL.one D6 (x:=(s.1+m,s.2)) Mh rfl) rfl Cu AJ rfl (by omega) rfl rfl rfl F7 (by(try simp only[length_singleton]);omega) (by(try simp only[length_singleton]);omega) rfl rfl rfl (fun v9 m9 hO9=>?_))))));rw[<-hsn]at hO9;have ov9:=hO9.o1;refine Qf B5 rfl ?_;refine AK 3 _ rfl SU rfl rfl (by assumption) rfl rfl (by(simp;done)) rfl rfl ?_;refine Aj (Ai (Ab (Ad (Qm rfl (Qx (oA rfl) rfl (Qm rfl (Aj (A8 0 rfl (A8 0 rfl ?_)))))))));exact Ak (x.c.sd.length-(j+1)) _ (by omega) ⟨j+1,v9,m9,rfl,rfl,rfl,rfl,by omega,hO9⟩ Qs
    ·obtain rfl:j=x.c.sd.length:=by omega
     refine As (Aa (Aa (Ae ?_)));exact AC _ ⟨vs,mS,rfl,rfl,rfl,by rw[take_length]at hOS;exact hOS⟩ Qs
   ·obtain⟨vs,mS,rfl,rfl,rfl,hOS⟩:=hI;obtain⟨aS,cS,rfl,_⟩:=(hOS.rd (h:=hp) (ms:=[mS]) Mh).rd.ex;refine Bd fun h3 l3 k3=>?_;have hRS:=hOS.rdh (ms:=[]) k3;have oS_:=hRS.rd.one
    let ce:Ce:=⟨UN m x.c,.slice aS (x.c.sd.map fun s=>(s.1+m,s.2)).length cS⟩
    have hce:RdL cD 2 h3 [] ce.v ce.c.sd:=hRS;refine Ad (Qf BW rfl (Ql rfl Bk (Cell.blk 2 rfl rfl) (Qx (oG rfl EL AH (Seg.blk 0 rfl)) rfl (An [_,_,_] rfl Bk AH rfl (by rfl) rfl rfl (by omega) rfl rfl rfl (fun g88=>?_)))));refine AZ 2 hO (RdL.one Cc (x:=ce) Mh rfl) rfl Bk AH rfl (by omega) rfl rfl rfl (C0 (l:=[ce]) (h:=h3) fun y hy=>by rw[List.mem_singleton.1 hy];exact hce) (by(try simp only[length_singleton]);omega) (by(try simp only[length_singleton]);omega) rfl rfl rfl (fun v9 m9 hO9=>?_);have ov9:=hO9.o1;refine Qf BW rfl ?_;refine AK 3 _ rfl Jt rfl rfl (by assumption) rfl rfl (by(simp;done)) rfl rfl ?_;refine Aj (Ai (Ab (Ad (Qm rfl (Qx (oA rfl) rfl (Qm rfl (Aj (A8 0 rfl (A8 0 rfl ?_)))))))));exact Ak (B.length-(i+1)) _ (by omega) ⟨i+1,v9,m9,O++[ce],rfl,rfl,AI lh l3,rfl,by omega,hO9,by rw[map_append,hOc,take_succ_eq_append_getElem hil,map_append,map_append,hx,append_assoc];rfl,RdC.snoc' (fun a ha=>(hOs a ha).up l3) hce⟩ Qs
  ·obtain rfl:i=B.length:=by omega
   refine As (Aa (Aa (Ae (Ab (Au (Qx (oG rfl CM AV (Seg.blk 1 rfl)) rfl ?_))))));refine Sa 2 [_] AV rfl (by simp[oa,ob,ov]) ?_;refine Al (Ao (A8 1 rfl ?_));exact Bs (vs:=[_]) 1 rfl rfl CM rfl AV rfl rfl (⟨AI l1 (AI l2 lh),mO,O,_,rfl,rfl,hO,⟨m,hm0,hm1,hm,by rw[hOc,take_length]⟩,hOs⟩)
variable {o:List Cl}
theorem IH{l:List Cl}(R:Rgt l):Ub l=ordF l:=by have F:=R.ordF;refine U2 _ _ (fun _=>nofun) fun i hi e=>?_;have:=List.pairwise_iff_getElem.1 F.inc i (i+1) (by omega) hi (by omega);omega
theorem Rgt.cs{l:List Ce}(R:Rgt (l.map Ce.c)):ZP l:=by have hn:=R.n;rw[length_map]at hn;exact⟨by omega,fun a ha=>by have:=(R.bds (List.mem_map.2 ⟨a,ha,rfl⟩)).2;omega⟩
def V6(o:List Cl)(i j k:Nat):Bool:=(o.take i).any (fun y=>y.sd.any fun s=>decide (s.1=(o.getD k default).id))||((o.getD i default).sd.take j).any fun s=>decide (s.1=(o.getD k default).id)
def K9(o:List Cl)(i j:Nat):List Bool:=(range o.length).map (V6 o i j)
theorem Fh(o:List Cl)(i j:Nat):(K9 o i j).length=o.length:=by simp[K9]
theorem Vj(o:List Cl):K9 o 0 0=replicate o.length false:=by unfold K9;refine List.ext_getElem (by simp) fun k h1 h2=>?_;simp[V6]
theorem WM{i:Nat}(hi:i<o.length):K9 o i o[i].sd.length=K9 o (i+1) 0:=by unfold K9;refine List.map_congr_left fun k hk=>?_;unfold V6;rw[show o.getD i default=o[i] by simp[List.getD,hi],take_length,take_succ_eq_append_getElem hi,List.any_append];simp
theorem UQ(R:RgtF o){i j:Nat}(hi:i<o.length)(hj:j<o[i].sd.length){k:Nat}(hk:L3 o o[i].sd[j].1=k):(K9 o i j).set k true=K9 o i (j+1):=by
 have G:=R.rgt;obtain⟨y,hy,e1,_⟩:=G.sid _ (getElem_mem hi) _ (getElem_mem hj);obtain⟨h1,h2⟩:=Ik R.inc hy;rw[e1,hk]at h1 h2;rw[Int.toNat_natCast]at h2;have hkl:k<o.length:=by have:=PF o o[i].sd[j].1;omega
 refine List.ext_getElem (by rw[List.length_set,Fh,Fh]) fun q hq1 hq2=>?_;have hq:q<o.length:=by rw[Fh]at hq2;exact hq2
 have hg:o.getD i default=o[i]:=by simp[List.getD,hi]
 have hT:V6 o i (j+1) q=(V6 o i j q||decide (o[i].sd[j].1=(o.getD q default).id)):=by unfold V6;rw[hg,take_succ_eq_append_getElem hj,List.any_append,Bool.or_assoc];simp
 have hr:(K9 o i (j+1))[q]=V6 o i (j+1) q:=by simp[K9]
 have hl:(K9 o i j)[q]'(by rw[Fh];exact hq)=V6 o i j q:=by simp[K9]
 rw[hr,hT,List.getElem_set];by_cases e:k=q
 ·subst e;rw[if_pos rfl,h2,e1];simp
 ·rw[if_neg e,hl];have hne:o[i].sd[j].1≠(o.getD q default).id:=fun h=>e (Kz G.nd hkl hq (by rw[h2,e1,h]));rw[decide_eq_false hne,Bool.or_false]
theorem Xv{k:Nat}(hk:k<o.length):(K9 o o.length 0)[k]'(by rw[Fh];exact hk)=o.any fun y=>y.sd.any fun s=>decide (s.1=o[k].id):=by
 have:(K9 o o.length 0)[k]'(by rw[Fh];exact hk)=V6 o o.length 0 k:=by simp[K9]
 rw[this];unfold V6;rw[take_length,show o.getD k default=o[k] by simp[List.getD,hk]];simp
def MJ(o:List Cl)(x:Cl):Bool:=!(o.any fun y=>y.sd.any fun s=>decide (s.1=x.id))
theorem Xd(l:List Ce)(v:Value)(hp:Hp)(hK:RgC l)(hR:RdC hp v l):FnT Tryz.prog 47 #[.agg #[v]] hp [] (fun r h' ms'=>hp.le h'/\∃m,ms'=[m]/\OwnL cI 1 3 m r (HK (cn l))):=by
 have o1:=hR.q.rd.one;have hln:=hK.r.n;rw[length_map]at hln;refine Ap func47 ntmps47 rfl rfl (fun w0 hw0=>?_);simp only[AU];refine Au (AX [_] rfl rfl (by rfl) rfl rfl rfl (fun g1=>Qm rfl (Al (Bo 0 rfl fun h1 l1 hS=>?_))));have hR:=hR.up l1;refine Au (Qm rfl (BL (Qx (oG rfl CM AV (Seg.any hS)) rfl (Qc call49 rfl (KP l v h1 hK.r.cs hR) (fun rC h2 ms2 l2 hF=>?_)))));obtain⟨l2',mC,A,rfl,hOC,hA,hAs⟩:=hF;rw[IH hK.r]at hA;obtain⟨o,ho⟩:∃o,cn l=o:=⟨_,rfl⟩
 have hA:A.map Ce.c=o:=by rw[hA,<-ho];rfl
 have F:RgtF o:=by rw[<-ho];exact hK.F
 have G:=F.rgt;rw[ho];have hAl:A.length=o.length:=by rw[<-hA,length_map]
 have hol:o.length<=4000:=G.n;have oC:=hOC.o1;refine Qm rfl (Al (Bq hOC fun h3 l3 hQ=>?_));have hAs:∀a∈A,RdL cD 2 h3 [] a.v a.c.sd:=fun a ha=>(hAs a ha).up l3;have l13:=AI l2' l3;have hge:∀i (hi:i<A.length),o[i]'(by omega)=A[i].c:=fun i hi=>by subst hA;simp
 refine Au (Qm rfl (Qx (Ar hQ.rd.any rfl Bk rfl) rfl (CB (n:=_) rfl Pc V4 rfl rfl rfl (by rfl) (by rfl) (by omega) (by omega) rfl rfl rfl (fun g14=>Qm rfl (Al ?_)))));have hO5:=P6 g14 A.length (by omega);rw[hAl,<-Vj]at hO5;refine BG ?_;refine Bb (fun sl h' ms'=>∃(m5:Hp),sl=[(3,.slice none 0 0),(4,rC),(5,.slice (some ⟨g14,0,none⟩) A.length A.length)]/\h3=h'/\ms'=[Hp.emp,m5]/\OwnL cB 1 4 m5 (.slice (some ⟨g14,0,none⟩) A.length A.length) (K9 o A.length 0)) ?_ (fun s h ms hI=>?_)
 ·refine Ac (Ad (Qm rfl (Al (Af ?_))))
  refine Ax (fun q sl h' ms'=>∃(i:Nat) (m5:Hp),q=A.length-i/\sl=[(3,.slice none 0 0),(4,rC),(5,.slice (some ⟨g14,0,none⟩) A.length A.length),(6,.int .i64 i)]/\h3=h'/\ms'=[Hp.emp,m5]/\i<=A.length/\OwnL cB 1 4 m5 (.slice (some ⟨g14,0,none⟩) A.length A.length) (K9 o i 0))
   (A.length-0) _ ⟨0,_,rfl,rfl,rfl,rfl,by omega,by rw[hAl];exact hO5⟩ Qs ?_
  rintro q sl h' ms' ⟨i,m5,rfl,rfl,rfl,rfl,hi,hO5⟩;refine Ac (Au (Qm rfl (Qm rfl (Qx (Ar hQ.rd.any rfl Bk rfl) rfl (Qm rfl (Al ?_))))));refine Av rfl (fun hlt=>?_) (fun hlt=>?_)
  ·have hil:i<A.length:=by omega
   have hio:i<o.length:=by omega
   obtain⟨x,hx⟩:∃x,A[i]=x:=⟨_,rfl⟩
   have hxm:x∈A:=by rw[<-hx];exact getElem_mem hil
   have hxo:o[i]=x.c:=by rw[hge i hil,hx]
   have hX:=hAs x hxm;have oX:=hX.rd.one;have hxl:x.c.sd.length<=64:=by have:=(F.bds (getElem_mem hio)).2.1;rwa [hxo]at this
   have cx:∀ms,Cell h3 ms (((AF rC).add (i*3)).add 2) x.v:=fun ms=>by rw[<-hx];exact(hQ.any (ms:=ms)).cell (j:=i) hil (f:=2) rfl
   refine Ag (Ab (Ac (Af (Au (Qm rfl (Al (Af ?_)))))))
   refine Ax (fun q sl h' ms'=>∃(j:Nat) (m5:Hp),q=x.c.sd.length-j/\sl=[(3,.slice none 0 0),(4,rC),(5,.slice (some ⟨g14,0,none⟩) A.length A.length),(6,.int .i64 i),(7,.int .i64 j)]/\h3=h'/\ms'=[Hp.emp,m5]/\j<=x.c.sd.length/\OwnL cB 1 4 m5 (.slice (some ⟨g14,0,none⟩) A.length A.length) (K9 o i j))
    (x.c.sd.length-0) _ ⟨0,m5,rfl,rfl,rfl,rfl,by omega,hO5⟩ Qs ?_
   rintro q sl h' ms' ⟨j,m5,rfl,rfl,rfl,rfl,hj,hO5⟩;refine Ac (Au (Qm rfl (Qm rfl (Qm rfl (Qx (BU (i) hQ.rd.any rfl Bk AH rfl rfl) rfl (Qf B5 rfl (Ql rfl Cu (cx _) (Qx (Ar hX.rd.any rfl Cu rfl) rfl (Qm rfl (Al ?_))))))))));refine Av rfl (fun hjl=>?_) (fun hjl=>?_)
   ·have hjn:j<x.c.sd.length:=by omega
    obtain⟨s,hs⟩:∃s,x.c.sd[j]=s:=⟨_,rfl⟩
    have cs:∀ms,Cell h3 ms (((AF x.v).add (j*2)).add 0) (.int .i64 s.1):=fun ms=>by
     have:Seg h3 ms ((AF x.v).add (j*2)) (cD s):=by rw[<-hs];exact(hX.any (ms:=ms)).seg hjn
     exact this 0 _ rfl
    obtain⟨y,hy,ey,_⟩:=G.sid _ (getElem_mem hio) s (by rw[hxo,<-hs];exact getElem_mem hjn);have hat:=(Ik F.inc hy).1;rw[ey]at hat;obtain⟨k,hk⟩:∃k:Nat,L3 o s.1=k:=⟨_,(Int.toNat_of_nonneg hat).symm⟩
    have hko:k<o.length:=by have:=PF o s.1;omega
    have hkM:k<(K9 o i j).length:=by rw[Fh];exact hko
    have hmk:=UQ F hio (j:=j) (by rw[hxo];exact hjn) (k:=k) (by simp only[hxo,hs];exact hk);refine Ag (Ab (Ac (Af (Au (Qm rfl (Qm rfl (Qm rfl (Qx (BU (i) hQ.rd.any rfl Bk AH rfl rfl) rfl (Qf B5 rfl (Ql rfl Cu (cx _) (Qm rfl (Qx (BU (j) hX.rd.any rfl Cu AJ rfl rfl) rfl (Qf Cy rfl (Ql rfl U3 (cs _) ?_))))))))))))));refine Qx (AO rfl call117 rfl ((by have:=ZZ A rC s.1 h3 (by omega) (by rw[hA];exact F.inc.imp fun h=>Int.le_of_lt h) hQ [Hp.emp,m5];rwa [hA,hk]at this))) rfl ?_;refine Qm rfl (BL (Qm rfl (Qm rfl (Al ?_))));refine Av rfl (fun hc=>?_) (fun hc=>absurd (by omega) hc);refine Ad (Qm rfl (Qm rfl (Qx (BF (k) rfl Pc V4 rfl rfl (by omega) (by omega)) rfl (Cr (F:=cB) (f:=fun x=>.bool x) (a:=true) 1 k (fun _=>rfl) hO5 rfl V4 rfl rfl rfl rfl hkM rfl rfl (fun m6 hO6=>?_)))));rw[hmk]at hO6;refine Aj (Ai (Ab (Ad (Qm rfl (Qx (oA rfl) rfl (Qm rfl (Aj ?_)))))));exact Ak (x.c.sd.length-(j+1)) _ (by omega) ⟨j+1,m6,rfl,rfl,rfl,rfl,by omega,hO6⟩ Qs
   ·obtain rfl:j=x.c.sd.length:=by omega
    refine As (Aa (Aa (Ae (Ai (Ab (Ad (Qm rfl (Qx (oA rfl) rfl (Qm rfl (Aj ?_))))))))));exact Ak (A.length-(i+1)) _ (by omega) ⟨i+1,m5,rfl,rfl,rfl,rfl,by omega,by rw[<-WM hio,hxo];exact hO5⟩ Qs
  ·obtain rfl:i=A.length:=by omega
   refine As (Aa (Aa (Ae ?_)));exact AC _ ⟨m5,rfl,rfl,rfl,hO5⟩ Qs
 ·obtain⟨m5,rfl,rfl,rfl,hO5⟩:=hI;refine DN 1 rfl (Bd fun h4 l4 k4=>?_);have hB:=hO5.rdh (ms:=[]) k4;have hQ:=hQ.up l4
  have htk:∀i (hi:i<o.length),((o.take (i+1)).filter (MJ o)).map Cl.id=((o.take i).filter (MJ o)).map Cl.id++if MJ o o[i] then [o[i].id] else []:=fun i hi=>by rw[take_succ_eq_append_getElem hi,filter_append,map_append];congr 1;cases h:MJ o o[i]<;>simp[filter_cons,h]
  refine Ac (Au (Qm rfl (Al (Af ?_))))
  refine Ax (fun q sl h' ms'=>∃(i:Nat) (v:Value) (m:Hp),q=A.length-i/\sl=[(3,v),(4,rC),(5,.slice (some ⟨g14,0,none⟩) A.length A.length),(9,.int .i64 i)]/\h4=h'/\ms'=[m]/\i<=A.length/\OwnL cI 1 3 m v (((o.take i).filter (MJ o)).map Cl.id))
   (A.length-0) _ ⟨0,_,Hp.emp,rfl,rfl,rfl,rfl,by omega,OwnL.nil Bl⟩ Qs ?_
  rintro q sl h' ms' ⟨i,v3,m3,rfl,rfl,rfl,rfl,hi,hO3⟩;have ov3:=hO3.o1;refine Ac (Au (Qm rfl (Qm rfl (Qx (Ar hQ.rd.any rfl Bk rfl) rfl (Qm rfl (Al ?_))))));refine Av rfl (fun hlt=>?_) (fun hlt=>?_)
  ·have hil:i<A.length:=by omega
   have hio:i<o.length:=by omega
   obtain⟨x,hx⟩:∃x,A[i]=x:=⟨_,rfl⟩
   have hxo:o[i]=x.c:=by rw[hge i hil,hx]
   have hmi:i<(K9 o A.length 0).length:=by rw[Fh];exact hio
   have hmk:(K9 o A.length 0)[i]=!MJ o o[i]:=by have:=Xv hio;unfold MJ;rw[Bool.not_not,<-this];simp only[hAl]
   have cb:∀ms,Cell h4 ms ((AF (.slice (some ⟨g14,0,none⟩) A.length A.length)).add (i*1)) (.bool (!MJ o o[i])):=fun ms=>by rw[<-hmk];exact(hB.any (ms:=ms)).cell0 hmi rfl
   have cx:∀ms,Cell h4 ms (((AF rC).add (i*3)).add 0) (.int .i64 x.c.id):=fun ms=>by rw[<-hx];exact(hQ.any (ms:=ms)).cell (j:=i) hil (f:=0) rfl
   have hfl:(((o.take i).filter (MJ o)).map Cl.id).length<=4000:=by rw[length_map];exact Nat.le_trans (List.length_filter_le _ _) (by rw[length_take];omega)
   have hk:=htk i hio;refine Ag (Ab (Ac (Af (Au (Qm rfl (Qm rfl (Qx (BF (i) rfl Pc V4 rfl rfl (by omega) (by omega)) rfl (Ql rfl U4 (cb _) (Qm rfl (Al ?_))))))))));refine Bu rfl (fun hb=>?_) (fun hb=>?_)
   ·rw[Bool.not_not]at hb;rw[hb,if_pos rfl,hxo]at hk;refine Ad (Qm rfl (Qm rfl (Qm rfl (Qx (BU (i) hQ.rd.any rfl Bk AH rfl rfl) rfl (Qf By rfl (Ql rfl U3 (cx _) (An [_] rfl AR Be rfl (by rfl) rfl rfl (by omega) rfl rfl rfl (fun g64=>AQ 1 hO3 (RdL.one Bl (x:=x.c.id) Mh rfl) rfl AR Be rfl (by omega) rfl rfl rfl Cm (by(try simp only[length_singleton]);omega) (by(try simp only[length_singleton]);omega) rfl rfl rfl (fun v9 m9 hO9=>?_)))))))));rw[<-hk]at hO9;have ov9:=hO9.o1;refine Qm rfl (Aj (Ai (Ab (Ad (Qm rfl (Qx (oA rfl) rfl (Qm rfl (Aj (AL ?_)))))))));exact Ak (A.length-(i+1)) _ (by omega) ⟨i+1,v9,m9,rfl,rfl,rfl,rfl,by omega,hO9⟩ Qs
   ·rw[Bool.not_not]at hb;rw[hb,if_neg (by decide),append_nil]at hk;refine Ag (Ai (Ab (Ad (Qm rfl (Qx (oA rfl) rfl (Qm rfl (Aj ?_)))))));exact Ak (A.length-(i+1)) _ (by omega) ⟨i+1,v3,m3,rfl,rfl,rfl,rfl,by omega,by rw[hk];exact hO3⟩ Qs
  ·obtain rfl:i=A.length:=by omega
   refine As (Aa (Aa (Ae (Ab (Au (Qm rfl (Qm rfl (Al (Ao ?_)))))))));exact Az rfl rfl (⟨AI l1 (AI l2' (AI l3 l4)),m3,rfl,by rw[hAl,take_length]at hO3;exact hO3⟩)
end Go.Proofs.Q
namespace Go.Proofs.Q
open Go.Eng Go.RowKit
variable {o:List Cl} {M:List Bool} {c0 x:Int} {Q:List Int} {k:Nat}
def MkC(o:List Cl)(M:List Bool)(x:Int):Prop:=∃k,k<o.length/\(o.getD k default).id=x/\M.getD k false=true
structure ReI(o:List Cl)(c0:Int)(M:List Bool)(Q:List Int):Prop where
 len:M.length=o.length
 rM:∀x,MkC o M x->Rch (VT o) c0 x
 rQ:∀x∈Q,Rch (VT o) c0 x
 st:c0∈Q\/MkC o M c0
 cl:∀x,MkC o M x->∀s∈VT o x,s∈Q\/MkC o M s
theorem ReI.start(o:List Cl)(c0:Int):ReI o c0 (replicate o.length false) [c0]:=by
 have hn:∀x,¬MkC o (replicate o.length false) x:=fun x ⟨k,hk,_,h⟩=>by simp[List.getD,hk]at h
 exact⟨by simp,fun x h=>absurd h (hn x),fun x h=>by rw[List.mem_singleton.1 h];exact .refl _,.inl (List.mem_singleton.2 rfl),fun x h=>absurd h (hn x)⟩
theorem ReI.mem(R:Rgt o)(hc:c0∈o.map Cl.id)(I:ReI o c0 M Q)(h:Rch (VT o) c0 x):∃y∈o,y.id=x:=by
 have:x∈o.map Cl.id:=by
  induction h with
  | refl=>exact hc
  | step h hk ih=>
   obtain⟨z,hz,rfl⟩:=List.mem_map.1 ih;unfold VT at hk;rw[Ci R.nd hz]at hk;obtain⟨s,hs,rfl⟩:=List.mem_map.1 hk;obtain⟨w,hw,e,_⟩:=R.sid z hz s hs;exact List.mem_map.2 ⟨w,hw,e⟩
 obtain⟨y,hy,e⟩:=List.mem_map.1 this;exact⟨y,hy,e⟩
theorem ReI.skip(I:ReI o c0 M (x::Q))(hx:MkC o M x):ReI o c0 M Q:=by
 refine⟨I.len,I.rM,fun y hy=>I.rQ y (mem_cons_of_mem _ hy),?_,fun y hy s hs=>?_⟩
 ·rcases I.st with h|h
  ·rcases List.mem_cons.1 h with rfl|h
   ·exact .inr hx
   ·exact .inl h
  ·exact .inr h
 ·rcases I.cl y hy s hs with h|h
  ·rcases List.mem_cons.1 h with rfl|h
   ·exact .inr hx
   ·exact .inl h
  ·exact .inr h
theorem MkC.set(hk:k<M.length):MkC o (M.set k true) x<->MkC o M x\/(k<o.length/\(o.getD k default).id=x):=by
 constructor
 ·rintro⟨q,h1,h2,h3⟩;by_cases e:k=q
  ·subst e;exact .inr ⟨h1,h2⟩
  ·refine .inl ⟨q,h1,h2,?_⟩
   rwa [show(M.set k true).getD q false=M.getD q false by simp[List.getD,List.getElem?_set_ne e]]at h3
 ·rintro(⟨q,h1,h2,h3⟩|⟨h1,h2⟩)
  ·refine⟨q,h1,h2,?_⟩;by_cases e:k=q
   ·subst e;simp[List.getD,hk]
   ·rw[show(M.set k true).getD q false=M.getD q false by simp[List.getD,List.getElem?_set_ne e]];exact h3
  ·exact⟨k,h1,h2,by simp[List.getD,hk]⟩
theorem ReI.mark(R:Rgt o)(I:ReI o c0 M (x::Q))(hk:k<o.length)(e:(o.getD k default).id=x):ReI o c0 (M.set k true) (Q++(o.getD k default).sd.map Prod.fst):=by
 have hkM:k<M.length:=by rw[I.len];exact hk
 have hs:VT o x=(o.getD k default).sd.map Prod.fst:=by unfold VT;rw[<-e,Ci R.nd (DC hk)]
 have hrx:=I.rQ x Mh;refine⟨by rw[List.length_set];exact I.len,fun y hy=>?_,fun y hy=>?_,?_,fun y hy s hs'=>?_⟩
 ·rcases (MkC.set hkM).1 hy with h|⟨_,h⟩
  ·exact I.rM y h
  ·rw[<-h,e];exact hrx
 ·rcases List.mem_append.1 hy with h|h
  ·exact I.rQ y (mem_cons_of_mem _ h)
  ·exact .step hrx (by rw[hs];exact h)
 ·rcases I.st with h|h
  ·rcases List.mem_cons.1 h with rfl|h
   ·exact .inr ((MkC.set hkM).2 (.inr ⟨hk,e⟩))
   ·exact .inl (List.mem_append.2 (.inl h))
  ·exact .inr ((MkC.set hkM).2 (.inl h))
 ·rcases (MkC.set hkM).1 hy with h|⟨_,h⟩
  ·rcases I.cl y h s hs' with h2|h2
   ·rcases List.mem_cons.1 h2 with rfl|h2
    ·exact .inr ((MkC.set hkM).2 (.inr ⟨hk,e⟩))
    ·exact .inl (List.mem_append.2 (.inl h2))
   ·exact .inr ((MkC.set hkM).2 (.inl h2))
  ·rw[<-h,e,hs]at hs';exact .inl (List.mem_append.2 (.inr hs'))
theorem ReI.all(R:Rgt o)(hc:c0∈o.map Cl.id)(I:ReI o c0 M [])(hk:k<o.length):M.getD k false=true<->(o.getD k default).id∈Tx o c0:=by
 have hcl:∀x,Rch (VT o) c0 x->MkC o M x:=fun x h=>by
  induction h with
  | refl=>exact I.st.resolve_left nofun
  | step h hk' ih=>exact(I.cl _ ih _ hk').resolve_left nofun
 rw[cloL_mem];constructor
 ·intro h;exact⟨List.mem_map.2 ⟨_,DC hk,rfl⟩,I.rM _ ⟨k,hk,rfl,h⟩⟩
 ·rintro⟨_,h⟩;obtain⟨q,h1,h2,h3⟩:=hcl _ h;have:=Kz R.nd h1 hk h2;subst this;exact h3
def SB(M:List Bool)(Q:List Int):Nat:=M.count false*70+Q.length
theorem Vi(hk:k<M.length)(h:M.getD k false=false){S:List Int}(hS:S.length<=64):SB (M.set k true) (Q++S)<SB M (x::Q):=by
 have hc:(M.set k true).count false+1=M.count false:=by
  have hg:M[k]=false:=by simpa[List.getD,hk] using h
  have h1:=List.count_set (a:=true) (b:=false) (l:=M) (i:=k) hk;rw[hg]at h1;have h2:0<M.count false:=List.count_pos_iff.2 (by rw[<-hg];exact getElem_mem hk);simp at h1;omega
 unfold SB;rw[length_append,length_cons];omega
theorem Th(M:List Bool)(x:Int)(Q:List Int):SB M Q<SB M (x::Q):=by unfold SB;rw[length_cons];omega
def IP(o:List Cl)(M:List Bool)(n:Nat):List Int:=((range n).filter fun k=>M.getD k false).map fun k=>(o.getD k default).id
theorem T7(R:Rgt o)(hc:c0∈o.map Cl.id)(I:ReI o c0 M [])(x:Int):x∈IP o M o.length<->x∈Tx o c0:=by
 unfold IP;rw[List.mem_map];constructor
 ·rintro⟨k,hk,rfl⟩;obtain⟨h1,h2⟩:=List.mem_filter.1 hk;exact(I.all R hc (List.mem_range.1 h1)).1 h2
 ·intro h;obtain⟨y,hy,rfl⟩:=List.mem_map.1 (cloL_mem.1 h).1;obtain⟨h1,h2⟩:=GU hy R.nd;refine⟨N8 o y.id,List.mem_filter.2 ⟨List.mem_range.2 h1,?_⟩,by rw[h2]⟩;exact(I.all R hc h1).2 (by rw[h2];exact h)
theorem Rm(o:List Cl)(M:List Bool)(n:Nat):IP o M (n+1)=IP o M n++if M.getD n false then [(o.getD n default).id] else []:=by
 unfold IP;rw[range_succ,filter_append,map_append];congr 1;cases h:M.getD n false
 ·rw[filter_cons,h];simp
 ·rw[filter_cons,h];simp
def nM(L:List Int)(k:Int):Int:=L.getD (k%(L.length:Int)).toNat 0%6
def Q2(L:List Int)(ks:List Int):Int:=if L=[] then 0 else ks.foldl (fun m k=>max m (nM L k)) 0
theorem Gb(L:List Int)(x:Int):∀(ks:List Int) (m:Int),ks.foldl (fun m k=>max m (nM L k)) m<=x<->m<=x/\∀k∈ks,nM L k<=x
 | [],m=>by simp
 | k::ks,m=>by rw[List.foldl_cons,Gb L x ks];simp only[mem_cons,forall_eq_or_imp,Int.max_le];exact⟨fun⟨⟨a,b⟩,c⟩=>⟨a,b,c⟩,fun⟨a,b,c⟩=>⟨⟨a,b⟩,c⟩⟩
theorem Yi(L:List Int)(k:Int):0<=nM L k/\nM L k<=5:=by unfold nM;omega
theorem VG(L ks:List Int):0<=Q2 L ks/\Q2 L ks<=5:=by
 unfold Q2;split
 ·decide
 ·have h1:=((Gb L (ks.foldl (fun m k=>max m (nM L k)) 0) ks 0).1 (Int.le_refl _)).1;have h2:=(Gb L 5 ks 0).2 ⟨by decide,fun k _=>(Yi L k).2⟩;exact⟨h1,h2⟩
theorem KN{L ks ks':List Int}(h:∀k∈ks,k∈ks'):Q2 L ks<=Q2 L ks':=by
 unfold Q2;split
 ·exact Int.le_refl _
 ·have h1:=(Gb L (ks'.foldl (fun m k=>max m (nM L k)) 0) ks' 0).1 (Int.le_refl _);exact(Gb L _ ks 0).2 ⟨h1.1,fun k hk=>h1.2 k (h k hk)⟩
theorem RM{L ks ks':List Int}(h:∀k,k∈ks<->k∈ks'):Q2 L ks=Q2 L ks':=Int.le_antisymm (KN fun k hk=>(h k).1 hk) (KN fun k hk=>(h k).2 hk)
noncomputable def F0(o:List Cl)(L:List Int)(c:Int):Int:=Q2 L (Tx o c)
theorem SM(G:Rgt o)(L:List Int){x:Cl}(hx:x∈o){s:Int×Int}(hs:s∈x.sd):F0 o L s.1<=F0 o L x.id:=by refine KN fun k hk=>?_;rw[cloL_mem]at hk ⊢;refine⟨hk.1,Rch.trans (Rch.step (Rch.refl _) ?_) hk.2⟩;unfold VT;rw[Ci G.nd hx];exact List.mem_map.2 ⟨s,hs,rfl⟩
noncomputable def Gv(o:List Cl)(L:List Int)(f:Int)(n:Nat):List (Int×Int):=(o.take n).map fun x=>(x.id,F0 o L x.id*f)
theorem Zy(G:Rgt o)(L:List Int)(f:Int)(hf:0<=f/\f<=1000):X4 o (Gv o L f o.length):=by
 have hb:∀c,0<=F0 o L c/\F0 o L c<=5:=fun c=>VG _ _;have hm:∀a b:Int,a<=b->a*f<=b*f:=fun a b h=>Int.mul_le_mul_of_nonneg_right h hf.1
 have:=TA G (fun c=>F0 o L c*f) (fun y _=>by
  have h1:=hb y.id;have h2:=hm 0 _ h1.1;have h3:=hm _ 5 h1.2
  constructor<;>omega) fun x hx s hs=>hm _ _ (SM G L hx hs)
 unfold Gv
 rwa [take_length]
end Go.Proofs.Q

namespace Go.Proofs.Q
open Go.Proofs.Tryz
open Go.Eng Go.RowKit
theorem Pb(A:List Ce)(v vq:Value)(c0:Int)(hp:Hp)(F:RgtF (A.map Ce.c))(hc:c0∈(A.map Ce.c).map Cl.id)(hR:RdL cC 3 hp [] v A)(hAs:∀a∈A,RdL cD 2 hp [] a.v a.c.sd)(hq:RdL cI 1 hp [] vq [c0]):FnT Tryz.prog 119 #[v,vq] hp [] (fun r h' ms'=>hp.le h'/\∃m M,ms'=[m]/\OwnL cB 1 4 m r M/\ReI (A.map Ce.c) c0 M []):=by
 have o1:=hR.rd.one;have o2:=hq.rd.one;have G:=F.rgt;obtain⟨o,ho⟩:∃o,A.map Ce.c=o:=⟨_,rfl⟩
 rw[ho]at F G hc;rw[ho];have hAl:A.length=o.length:=by rw[<-ho,length_map]
 have hol:o.length<=4000:=G.n;have hge:∀i (hi:i<A.length),o[i]'(by omega)=A[i].c:=fun i hi=>by subst ho;simp
 refine Ap func119 ntmps119 rfl rfl (fun w0 hw0=>?_);simp only[AU];refine Au (Qm rfl (BL (Qm rfl (Qx (Ar hR.rd.any rfl Bk rfl) rfl (CB (n:=_) rfl Pc V4 rfl rfl rfl (by rfl) (by rfl) (by omega) (by omega) rfl rfl rfl (fun g11=>Qm rfl (Al ?_)))))));have hM0:=P6 g11 A.length (by omega);refine Au ?_;refine Aq [] [] [] rfl AR Be rfl (by omega) (by kernel_rfl) (by repeat (first|exact trivial|refine⟨⟨by first|rfl|exact(hR.rd.any).cells|exact Rd.cells ‹_›|exact(RdL.rd ‹_›).cells,rfl,rfl⟩,?_⟩)) rfl rfl rfl rfl (fun g12=>?_);refine Qm rfl ?_;refine KB 0 (FN g12 Bl).q hq.any rfl AR Be rfl (by omega) rfl rfl rfl (fun a _=>Cm a) (by(simp;done)) (by(simp;done)) rfl rfl rfl (fun v6 m6 hO6=>?_);have hI0:=ReI.start o c0;have hr0:SB (replicate o.length false) [c0]<=300000:=by unfold SB;rw[List.count_replicate_self];simp;omega
 refine Qm rfl (Al (Ac (Af ?_)))
 refine Ax (fun q sl h' ms'=>∃(M:List Bool) (Q:List Int) (m5 m6:Hp) (v6:Value),q=SB M Q/\sl=[(0,v),(4,.slice none 0 0),(5,.slice (some ⟨g11,0,none⟩) A.length A.length),(6,v6)]/\hp=h'/\ms'=[m6,m5]/\SB M Q<=300000/\ReI o c0 M Q/\OwnL cB 1 4 m5 (.slice (some ⟨g11,0,none⟩) A.length A.length) M/\OwnQ cI 1 3 m6 v6 Q)
  _ _ ⟨replicate o.length false,[c0],_,_,_,rfl,rfl,rfl,rfl,hr0,hI0,by rw[<-hAl];exact hM0,hO6⟩ Qs ?_
 rintro q sl h' ms' ⟨M,Q,m5,m6,v6,rfl,rfl,rfl,rfl,hr,hI,hO5,hO6⟩;have ov6:=hO6.o1;refine Ac (Au (Qm rfl (Qx (Ar (hO6.rd (h:=hp) (ms:=[m6,m5]) Mh).rd rfl AR rfl) rfl (Qm rfl (Al ?_)))));refine Av rfl (fun hql=>?_) (fun hql=>?_)
 ·obtain⟨x,Q,rfl⟩:∃x Q',Q=x::Q':=by
   cases Q with
   | nil=>simp at hql
   | cons x Q'=>exact⟨x,Q',rfl⟩
  have cq:Cell hp [m6,m5] ((AF v6).add (0*1)) (.int .i64 x):=(hO6.rd (h:=hp) (ms:=[m6,m5]) Mh).cell0 (j:=0) (by simp) rfl;obtain⟨y,hy,ey⟩:=hI.mem G hc (hI.rQ x Mh);obtain⟨hat,hgk⟩:=Ik F.inc hy;rw[ey]at hat hgk;obtain⟨k,hk⟩:∃k:Nat,L3 o x=k:=⟨_,(Int.toNat_of_nonneg hat).symm⟩
  rw[hk,Int.toNat_natCast]at hgk;have hko:k<o.length:=by have:=PF o x;omega
  have hkA:k<A.length:=by omega
  have hkM:k<M.length:=by rw[hI.len];exact hko
  have hkid:(o.getD k default).id=x:=by rw[hgk,ey]
  refine Ag (Ab (Af (Au (Qm rfl (Qm rfl (Qx (AB 0 (hO6.rd (h:=hp) (ms:=[m6,m5]) Mh).rd rfl AR Be rfl rfl rfl (by omega)) rfl (Ql rfl U3 (cq) ?_)))))));refine Qx (AO rfl call117 rfl ((by have:=ZZ A v x hp (by omega) (by rw[ho];exact F.inc.imp fun h=>Int.le_of_lt h) hR [m6,m5];rwa [ho,hk]at this))) rfl ?_;refine Qm rfl (BL (Qm rfl (Qx (CA 1 (hO6.rd (h:=hp) (ms:=[m6,m5]) Mh).rd rfl AR Be rfl rfl rfl (by simp)) rfl (Qm rfl (Al ?_)))));have hO6:=hO6.tail;obtain⟨w6,hw6⟩:∃w,BS 1 v6 1 (Q.length+1)=w:=⟨_,rfl⟩
  simp only[length_cons,hw6]at hO6 ⊢;have ov6:=hO6.o1;have cb:∀ms,m5∈ms->Cell hp ms ((AF (.slice (some ⟨g11,0,none⟩) A.length A.length)).add (k*1)) (.bool M[k]):=fun ms hm=>(hO5.rd hm).cell0 hkM rfl;refine Ac (Au (Qm rfl (Qm rfl (Qm rfl ?_))));refine AS (t:=27) rfl (fun hs=>?_) (fun hs=>?_)
  ·omega
  ·refine Qg (AA rfl rfl) rfl (Qg (AA rfl rfl) rfl (Qg (BF (k) rfl Pc V4 rfl rfl (by omega) (by omega)) rfl (Qg (oL rfl U4 (cb _ (.tail _ (.head _)))) rfl (Qm rfl (Al ?_)))));refine Bu rfl (fun hb=>?_) (fun hb=>?_)
   ·have hmk:MkC o M x:=⟨k,hko,hkid,by rw[show M.getD k false=M[k] by simp[List.getD,hkM]];exact hb⟩
    have hlt:=Th M x Q;refine As (Aa (Ae ?_));exact Ak (SB M Q) _ hlt ⟨M,Q,m5,m6,w6,rfl,rfl,rfl,rfl,by omega,hI.skip hmk,hO5,hO6⟩ Qs
   ·have hmf:M.getD k false=false:=by rw[show M.getD k false=M[k] by simp[List.getD,hkM]];exact hb
    obtain⟨z,hz⟩:∃z,A[k]=z:=⟨_,rfl⟩
    have hzo:o.getD k default=z.c:=by rw[show o.getD k default=o[k] by simp[List.getD,hko],hge k hkA,hz]
    have hI':=hI.mark G hko hkid;rw[hzo]at hI';have hX:=hAs z (by rw[<-hz];exact getElem_mem hkA);have hzl:z.c.sd.length<=64:=by have:=(F.bds (getElem_mem hko)).2.1;rwa [hge k hkA,hz]at this
    have hlt:=Vi (x:=x) (Q:=Q) (S:=z.c.sd.map Prod.fst) hkM hmf (by rw[length_map];omega);have hQl:Q.length<=300000:=by unfold SB at hr;rw[length_cons]at hr;omega
    have cx:∀ms,Cell hp ms (((AF v).add (k*3)).add 2) z.v:=fun ms=>by rw[<-hz];exact(hR.any (ms:=ms)).cell (j:=k) hkA (f:=2) rfl
    refine Ag (Ab (Au (Qm rfl (Qm rfl (Qx (BF (k) rfl Pc V4 rfl rfl (by omega) (by omega)) rfl (Cr (F:=cB) (f:=fun x=>.bool x) (a:=true) 1 k (fun _=>rfl) hO5 rfl V4 rfl rfl rfl rfl hkM rfl rfl (fun m7 hO7=>BL (Qm rfl (Al (Af ?_))))))))))
    refine Ax (fun q sl h' ms'=>∃(j:Nat) (m6:Hp) (v6:Value),q=z.c.sd.length-j/\sl=[(0,v),(4,.slice none 0 0),(5,.slice (some ⟨g11,0,none⟩) A.length A.length),(6,v6),(7,.int .i64 k),(8,.int .i64 j)]/\hp=h'/\ms'=[m6,m7]/\j<=z.c.sd.length/\OwnQ cI 1 3 m6 v6 (Q++(z.c.sd.take j).map Prod.fst))
     (z.c.sd.length-0) _ ⟨0,m6,w6,rfl,rfl,rfl,rfl,by omega,by simpa using hO6⟩ Qs ?_
    rintro q sl h' ms' ⟨j,m6,v6,rfl,rfl,rfl,rfl,hj,hO6⟩;have ov6:=hO6.o1;have hql:(Q++(z.c.sd.take j).map Prod.fst).length<=400000:=by rw[length_append,length_map,length_take];omega
    refine Ac (Au (Qm rfl (Qm rfl (Qm rfl (Qx (AB _ hR.rd.any rfl Bk AH rfl rfl rfl (by omega)) rfl (Qf B5 rfl (Ql rfl Cu (cx _) (Qx (Ar hX.rd.any rfl Cu rfl) rfl (Qm rfl (Al ?_))))))))));refine Av rfl (fun hjl=>?_) (fun hjl=>?_)
    ·have hjn:j<z.c.sd.length:=by omega
     obtain⟨s,hs⟩:∃s,z.c.sd[j]=s:=⟨_,rfl⟩
     have cs:∀ms,Cell hp ms (((AF z.v).add (j*2)).add 0) (.int .i64 s.1):=fun ms=>by
      have:Seg hp ms ((AF z.v).add (j*2)) (cD s):=by rw[<-hs];exact(hX.any (ms:=ms)).seg hjn
      exact this 0 _ rfl
     refine Ag (Ab (Ac (Af (Ad (Qm rfl (Qm rfl (Qm rfl (Qx (BU (k) hR.rd.any rfl Bk AH rfl rfl) rfl (Qf B5 rfl (Ql rfl Cu (cx _) (Qm rfl (Qx (BU (j) hX.rd.any rfl Cu AJ rfl rfl) rfl (Qf Cy rfl (Ql rfl U3 (cs _) (An [_] rfl AR Be rfl (by rfl) rfl rfl (by omega) rfl rfl rfl (fun g56=>KB 1 hO6 (RdL.one Bl (x:=s.1) Mh rfl) rfl AR Be rfl (by omega) rfl rfl rfl (fun a _=>Cm a) (by(try simp only[length_singleton]);omega) (by(try simp only[length_singleton]);omega) rfl rfl rfl (fun v9 m9 hO9=>?_)))))))))))))))));have ov9:=hO9.o1;refine Qm rfl (Aj (Ai (Ab (Ad (Qm rfl (Qx (oA rfl) rfl (Qm rfl (Aj (AL ?_)))))))));exact Ak (z.c.sd.length-(j+1)) _ (by omega) ⟨j+1,m9,v9,rfl,rfl,rfl,rfl,by omega,by rw[take_succ_eq_append_getElem hjn,map_append,<-append_assoc,hs];exact hO9⟩ Qs
    ·obtain rfl:j=z.c.sd.length:=by omega
     rw[take_length]at hO6;refine As (Aa (Aa (Ae (Ai ?_))));exact Ak (SB (M.set k true) (Q++z.c.sd.map Prod.fst)) _ hlt ⟨M.set k true,Q++z.c.sd.map Prod.fst,m7,m6,v6,rfl,rfl,rfl,rfl,by omega,hI',hO7,hO6⟩ Qs
 ·obtain rfl:Q=[]:=by
   cases Q with
   | nil=>rfl
   | cons x Q'=>simp at hql
  refine As (Aa (Aa (Ae (Ab (Au (Qm rfl (Qm rfl (Al (Ao (AL ?_))))))))));exact Az rfl rfl (⟨DU,m5,M,rfl,hO5,hI⟩)
theorem OB(l:List Ce)(v vq:Value)(c0:Int)(hp:Hp)(hK:RgC l)(hR:RdC hp v l)(hq:RdL cI 1 hp [] vq [c0])(hc:c0∈(cn l).map Cl.id):FnT Tryz.prog 50 #[.agg #[v],vq] hp [] (fun r h' ms'=>hp.le h'/\∃m M,ms'=[m]/\OwnL cI 1 3 m r (IP (cn l) M (cn l).length)/\ReI (cn l) c0 M []):=by
 have o1:=hR.q.rd.one;have o2:=hq.rd.one;have hln:=hK.r.n;rw[length_map]at hln;refine Ap func50 ntmps50 rfl rfl (fun w0 hw0=>?_);simp only[AU];refine Au (AX [_] rfl rfl (by rfl) rfl rfl rfl (fun g2=>Qm rfl (Al (Bo 0 rfl fun h1 l1 hS=>?_))));have hR:=hR.up l1;have hq:=hq.up l1;refine Au (Qx (oG rfl CM AV (Seg.any hS)) rfl (Qc call49 rfl (KP l v h1 hK.r.cs hR) (fun rC h2 ms2 l2 hF=>?_)));obtain⟨l2',mC,A,rfl,hOC,hA,hAs⟩:=hF;rw[IH hK.r]at hA;obtain⟨o,ho⟩:∃o,cn l=o:=⟨_,rfl⟩
 have hA:A.map Ce.c=o:=by rw[hA,<-ho];rfl
 have F:RgtF o:=by rw[<-ho];exact hK.F
 have G:=F.rgt;rw[ho]at hc;rw[ho];have hAl:A.length=o.length:=by rw[<-hA,length_map]
 have hol:o.length<=4000:=G.n;have oC:=hOC.o1;refine Qm rfl (Al (Bq hOC fun h3 l3 hQ=>?_));have hAs:∀a∈A,RdL cD 2 h3 [] a.v a.c.sd:=fun a ha=>(hAs a ha).up l3;have l13:=AI l2' l3;have hge:∀i (hi:i<A.length),o[i]'(by omega)=A[i].c:=fun i hi=>by subst hA;simp
 refine Au (Qm rfl (Qm rfl ?_));refine Qc call119 rfl (Pb A rC vq c0 h3 (by rw[hA];exact F) (by rw[hA];exact hc) hQ hAs (hq.up l13)) (fun rM h4 ms4 l4 hF=>?_);obtain⟨l4',mM,M,rfl,hOM,hI⟩:=hF;rw[hA]at hI;have oM_:=hOM.o1;have hQ:=hQ.up l4';refine Qm rfl (Al (Bq hOM fun h5 l5 hB=>?_));have hQ:=hQ.up l5;refine Au (Qm rfl (Al (Ac (Au (Qm rfl (Al (Af (BG ?_))))))))
 refine Ax (fun q sl h' ms'=>∃(i:Nat) (v7:Value) (m:Hp),q=A.length-i/\sl=[(4,.slice none 0 0),(5,rC),(6,rM),(7,v7),(8,.int .i64 i)]/\h5=h'/\ms'=[m]/\i<=A.length/\OwnL cI 1 3 m v7 (IP o M i))
  (A.length-0) _ ⟨0,_,Hp.emp,rfl,rfl,rfl,rfl,by omega,OwnL.nil Bl⟩ Qs ?_
 rintro q sl h' ms' ⟨i,v7,m7,rfl,rfl,rfl,rfl,hi,hO7⟩;have ov7:=hO7.o1;refine Ac (Au (Qm rfl (Qm rfl (Qx (Ar hQ.rd.any rfl Bk rfl) rfl (Qm rfl (Al ?_))))));refine Av rfl (fun hlt=>?_) (fun hlt=>?_)
 ·have hil:i<A.length:=by omega
  have hio:i<o.length:=by omega
  have hiM:i<M.length:=by rw[hI.len];exact hio
  obtain⟨x,hx⟩:∃x,A[i]=x:=⟨_,rfl⟩
  have hxo:o.getD i default=x.c:=by rw[show o.getD i default=o[i] by simp[List.getD,hio],hge i hil,hx]
  have cb:∀ms,Cell h5 ms ((AF rM).add (i*1)) (.bool M[i]):=fun ms=>(hB.any (ms:=ms)).cell0 hiM rfl;have cx:∀ms,Cell h5 ms (((AF rC).add (i*3)).add 0) (.int .i64 x.c.id):=fun ms=>by rw[<-hx];exact(hQ.any (ms:=ms)).cell (j:=i) hil (f:=0) rfl
  have hk:=Rm o M i;rw[hxo,show M.getD i false=M[i] by simp[List.getD,hiM]]at hk
  have hfl:(IP o M i).length<=4000:=by unfold IP;rw[length_map];exact Nat.le_trans (List.length_filter_le _ _) (by rw[length_range];omega)
  refine Ag (Ab (Ac (Af (Au (Qm rfl (Qm rfl (Qx (BU (i) hB.rd.any rfl Pc V4 rfl rfl) rfl (Ql rfl U4 (cb _) (Al ?_)))))))));refine Bu rfl (fun hb=>?_) (fun hb=>?_)
  ·rw[hb,if_pos rfl]at hk;refine Ad (Qm rfl (Qm rfl (Qm rfl (Qx (BU (i) hQ.rd.any rfl Bk AH rfl rfl) rfl (Qf By rfl (Ql rfl U3 (cx _) (An [_] rfl AR Be rfl (by rfl) rfl rfl (by omega) rfl rfl rfl (fun g30=>AQ 1 hO7 (RdL.one Bl (x:=x.c.id) Mh rfl) rfl AR Be rfl (by omega) rfl rfl rfl Cm (by(try simp only[length_singleton]);omega) (by(try simp only[length_singleton]);omega) rfl rfl rfl (fun v9 m9 hO9=>?_)))))))));rw[<-hk]at hO9;have ov9:=hO9.o1;refine Qm rfl (Aj (Ai (Ab (Ad (Qm rfl (Qx (oA rfl) rfl (Qm rfl (Aj (AL ?_)))))))));exact Ak (A.length-(i+1)) _ (by omega) ⟨i+1,v9,m9,rfl,rfl,rfl,rfl,by omega,hO9⟩ Qs
  ·rw[hb,if_neg (by decide),append_nil]at hk;refine Ag (Ai (Ab (Ad (Qm rfl (Qx (oA rfl) rfl (Qm rfl (Aj ?_)))))));exact Ak (A.length-(i+1)) _ (by omega) ⟨i+1,v7,m7,rfl,rfl,rfl,rfl,by omega,by rw[hk];exact hO7⟩ Qs
 ·obtain rfl:i=A.length:=by omega
  refine As (Aa (Aa (Ae (Ab (Au (Qm rfl (Qm rfl (Al (Ao ?_)))))))));exact Az rfl rfl (⟨AI l1 (AI l13 (AI l4' l5)),m7,M,rfl,by rw[hAl]at hO7;exact hO7,hI⟩)
variable {L:List Int}
theorem Ow{α:Type}{F:α->List Value}{h:Hp}{g:Nat}{x:α}(n:Nat)(hF:∀x,(F x).length=n)(hS:Seg h [] ⟨g,0,none⟩ (F x)):RdL F n h [] (.slice (some ⟨g,0,none⟩) 1 1) [x]:=
 ⟨⟨some ⟨g,0,none⟩,1,rfl,Nat.le_refl _,by decide,by rw[A7 hF],fun _=>⟨_,rfl,by simpa using hS⟩⟩,hF⟩
theorem Xx(ks:List Int):Q2 [] ks=0:=by unfold Q2;rw[if_pos rfl]
def Xm(L ks:List Int)(j:Nat):Int:=(ks.take j).foldl (fun m k=>max m (nM L k)) 0
theorem VB{ks:List Int}{j:Nat}(hj:j<ks.length):Xm L ks (j+1)=max (Xm L ks j) (nM L ks[j]):=by unfold Xm;rw[take_succ_eq_append_getElem hj,List.foldl_append];rfl
theorem XP{ks:List Int}(h:L≠[]):Xm L ks ks.length=Q2 L ks:=by unfold Xm Q2;rw[if_neg h,take_length]
theorem Yx(L ks:List Int)(j:Nat):0<=Xm L ks j/\Xm L ks j<=5:=by have h1:=((Gb L (Xm L ks j) (ks.take j) 0).1 (Int.le_refl _)).1;have h2:=(Gb L 5 (ks.take j) 0).2 ⟨by decide,fun k _=>(Yi L k).2⟩;exact⟨h1,h2⟩
theorem Xq{o:List Cl}{M:List Bool}{n:Nat}(hn:n<=o.length):∀y∈IP o M n,∃x∈o,x.id=y:=fun y hy=>by unfold IP at hy;obtain⟨k,hk,rfl⟩:=List.mem_map.1 hy;have:=List.mem_range.1 (List.mem_filter.1 hk).1;exact⟨_,DC (by omega),rfl⟩
theorem O3{o:List Cl}{f:Int}{i:Nat}(hi:i<o.length):Gv o L f (i+1)=Gv o L f i++[(o[i].id,F0 o L o[i].id*f)]:=by unfold Gv;rw[take_succ_eq_append_getElem hi,map_append];rfl
theorem SJ(l:List Ce)(v vL:Value)(L:List Int)(f:Int)(hp:Hp)(hK:RgC l)(hR:RdC hp v l)(hL:RdL cI 1 hp [] vL L)(hLb:∀x∈L,BC x)(hf:0<=f/\f<=1000):FnT Tryz.prog 14 #[.agg #[v],vL,.int .i64 f] hp [] (fun r h' ms'=>hp.le h'/\∃m,ms'=[m]/\OwnL cV 2 47 m r (Gv (cn l) L f (cn l).length)):=by
 have o1:=hR.q.rd.one;have o2:=hL.rd.one;have hln:=hK.r.n;rw[length_map]at hln;refine Ap func14 ntmps14 rfl rfl (fun w0 hw0=>?_);simp only[AU];refine Au (AX [_] rfl rfl (by rfl) rfl rfl rfl (fun g3=>Qm rfl (Al (Bo 0 rfl fun h1 l1 hS=>?_))));have hR:=hR.up l1;have hL:=hL.up l1;refine Au (Qm rfl (BL (Qx (oG rfl CM AV (Seg.any hS)) rfl (Qc call49 rfl (KP l v h1 hK.r.cs hR) (fun rC h2 ms2 l2 hF=>?_)))));obtain⟨l2',mC,A,rfl,hOC,hA,hAs⟩:=hF;rw[IH hK.r]at hA;obtain⟨o,ho⟩:∃o,cn l=o:=⟨_,rfl⟩
 have hA:A.map Ce.c=o:=by rw[hA,<-ho];rfl
 have F:RgtF o:=by rw[<-ho];exact hK.F
 have G:=F.rgt;rw[ho];have hAl:A.length=o.length:=by rw[<-hA,length_map]
 have hol:o.length<=4000:=G.n;have oC:=hOC.o1;refine Qm rfl (Al (Bq hOC fun h3 l3 hQ=>?_));have l13:=AI l2' l3;have hge:∀i (hi:i<A.length),o[i]'(by omega)=A[i].c:=fun i hi=>by subst hA;simp
 refine Ac (Au (Qm rfl (Al (Af (BG ?_)))))
 refine Ax (fun q sl h' ms'=>∃(i:Nat) (v7:Value) (m:Hp),q=A.length-i/\sl=[(1,vL),(2,.int .i64 f),(3,.pointer (some ⟨g3,0,none⟩)),(6,.slice none 0 0),(7,v7),(8,rC),(9,.int .i64 i)]/\h3.le h'/\ms'=[m]/\i<=A.length/\OwnL cV 2 47 m v7 (Gv o L f i))
  (A.length-0) _ ⟨0,_,Hp.emp,rfl,rfl,DU,rfl,by omega,OwnL.nil M8⟩ Qs ?_
 rintro q sl h4 ms' ⟨i,v7,m7,rfl,rfl,l4,rfl,hi,hO7⟩;have ov7:=hO7.o1;have hQ:=hQ.up l4;have hL:=hL.up (AI l13 l4);have hR:=hR.up (AI l13 l4);have hS:Seg h4 [] ⟨g3,0,none⟩ [v]:=hS.le (AI l13 l4);refine Ac (Au (Qm rfl (Qm rfl (Qx (Ar hQ.rd.any rfl Bk rfl) rfl (Qm rfl (Al ?_))))));refine Av rfl (fun hlt=>?_) (fun hlt=>?_)
 ·have hil:i<A.length:=by omega
  have hio:i<o.length:=by omega
  obtain⟨x,hx⟩:∃x,A[i]=x:=⟨_,rfl⟩
  have hxo:o[i]=x.c:=by rw[hge i hil,hx]
  have hxm:x.c∈o:=by rw[<-hxo];exact getElem_mem hio
  have cx:∀ms,Cell h4 ms (((AF rC).add (i*3)).add 0) (.int .i64 x.c.id):=fun ms=>by rw[<-hx];exact(hQ.any (ms:=ms)).cell (j:=i) hil (f:=0) rfl
  refine Ag (Ab (Ac (Af (Au (Qm rfl (Al (Ac (Bg 7 CY (by kernel_rfl) rfl (AP (oG rfl CM AV (Seg.any hS)) rfl rfl (Wm rfl (Wm rfl (AP (BU (i) hQ.rd.any rfl Bk AH rfl rfl) rfl rfl (Wf By rfl (Wl rfl U3 (cx _) (UF (Ev [_] rfl AR Be rfl (by rfl) rfl rfl (by omega)) rfl rfl (HJ (fun g27=>Dx fun h5 l5 hS5=>?_)))))))))))))))));refine Qc call50 rfl (OB l v _ x.c.id h5 hK (hR.up l5) (Ow 1 Bl hS5) (by rw[ho];exact List.mem_map.2 ⟨_,hxm,rfl⟩)) (fun rK h6 ms6 l6 hF=>?_);obtain⟨l6',mK,M,rfl,hOK,hI⟩:=hF;rw[ho]at hOK hI;obtain⟨K,hKe⟩:∃K,IP o M o.length=K:=⟨_,rfl⟩
  rw[hKe]at hOK
  have hKl:K.length<=4000:=by rw[<-hKe];unfold IP;rw[length_map];exact Nat.le_trans (List.length_filter_le _ _) (by rw[length_range];omega)
  have hKid:∀y∈K,0<=y:=fun y hy=>by obtain⟨z,hz,rfl⟩:=Xq (Nat.le_refl _) y (by rw[hKe];exact hy);have:=G.pos z hz;omega
  have hKv:Q2 L K=F0 o L x.c.id:=RM fun y=>by rw[<-hKe];exact T7 G (List.mem_map.2 ⟨_,hxm,rfl⟩) hI y
  have oK:=hOK.o1;refine Qm rfl (Al (Bq hOK fun h7 l7 hRK=>?_));have l47:=AI l5 (AI l6' l7);have hL:=hL.up l47;have hQ:=hQ.up l47;refine Bb (fun sl h' ms'=>sl=[(1,vL),(2,.int .i64 f),(3,.pointer (some ⟨g3,0,none⟩)),(6,.slice none 0 0),(7,v7),(8,rC),(9,.int .i64 i),(10,.int .i64 (F0 o L x.c.id))]/\h7=h'/\ms'=[m7]) ?_ (fun s h ms hI=>?_)
  ·refine Ac (Ad (Qm rfl (Al (Af ?_))))
   refine Ax (fun q sl h' ms'=>∃(j:Nat) (w:Int),q=K.length-j/\sl=[(1,vL),(2,.int .i64 f),(3,.pointer (some ⟨g3,0,none⟩)),(6,.slice none 0 0),(7,v7),(8,rC),(9,.int .i64 i),(10,.int .i64 w),(11,rK),(12,.int .i64 j)]/\h7=h'/\ms'=[m7]/\j<=K.length/\(L=[]->w=0)/\(L≠[]->w=Xm L K j))
    (K.length-0) _ ⟨0,0,rfl,rfl,rfl,rfl,by omega,fun _=>rfl,fun _=>rfl⟩ Qs ?_
   rintro q sl h' ms' ⟨j,w,rfl,rfl,rfl,rfl,hj,hw0,hw1⟩
   have hwb:0<=w/\w<=5:=by
    by_cases e:L=[]
    ·rw[hw0 e];decide
    ·rw[hw1 e];exact Yx _ _ _
   have hLl:=hL.len_le
   have hend:(j=K.length\/L=[])->w=F0 o L x.c.id:=fun h=>by
    rw[<-hKv];by_cases e:L=[]
    ·rw[hw0 e,e,Xx]
    ·rw[hw1 e,h.resolve_right e,XP e]
   refine Ac (Au (Qm rfl (Qm rfl (Qx (Ar hRK.rd.any rfl AR rfl) rfl (Qm rfl (Qm rfl ?_))))));refine AS (t:=33) rfl (fun hs=>?_) (fun hs=>?_)
   ·refine Qg (AA rfl rfl) rfl (Qg (Ar hL.rd.any rfl AR rfl) rfl (Qg (CK rfl rfl rfl) rfl (Qm rfl (Al ?_))));refine Av rfl (fun hLn=>?_) (fun hLn=>?_)
    ·have hL0:L≠[]:=fun e=>by rw[e]at hLn;simp at hLn
     have hLp:0<L.length:=by
      cases L with
      | nil=>exact absurd rfl hL0
      | cons=>simp
     have hjn:j<K.length:=by omega
     have hK0:=hKid _ (getElem_mem hjn);obtain⟨r,hr⟩:∃r:Nat,K[j]%(L.length:Int)=r:=⟨(K[j]%(L.length:Int)).toNat,by rw[Int.toNat_of_nonneg (Int.emod_nonneg _ (by omega))]⟩
     have hrl:r<L.length:=by have:=Int.emod_lt_of_pos K[j] (show(0:Int)<L.length by omega);omega
     have hn:nM L K[j]=L[r]%6:=by unfold nM;rw[hr,Int.toNat_natCast];simp[List.getD,hrl]
     have hw:=hw1 hL0;have ck:∀ms,Cell h7 ms ((AF rK).add (j*1)) (.int .i64 K[j]):=fun ms=>(hRK.any (ms:=ms)).cell0 hjn rfl;have cl:∀ms,Cell h7 ms ((AF vL).add (r*1)) (.int .i64 L[r]):=fun ms=>(hL.any (ms:=ms)).cell0 hrl rfl;refine Ag (Ab (Ac (Af (Ad (Qm rfl (Qm rfl (Qm rfl (Qm rfl (Qx (BU (j) hRK.rd.any rfl AR Be rfl rfl) rfl (Ql rfl U3 (ck _) (Qm rfl (Qx (Ar hL.rd.any rfl AR rfl) rfl (Qx (BM rfl rfl rfl hK0 (by omega)) rfl (Qx (BU (r) hL.rd.any rfl AR Be rfl rfl) rfl (Ql rfl U3 (cl _) (Qx (AO rfl call34 rfl (Ig L[r] 6 (hLb _ (getElem_mem hrl)) (by decide) h7 [m7])) rfl (Qx (IX rfl rfl rfl) rfl (Qm rfl (Aj (Ai (Ab (Ad (Qm rfl (Qx (oA rfl) rfl (Qm rfl (Aj ?_))))))))))))))))))))))))));exact Ak (K.length-(j+1)) _ (by omega) ⟨j+1,max w (L[r]%6),rfl,rfl,rfl,rfl,by omega,fun e=>absurd e hL0,fun _=>by rw[VB hjn,hn,hw]⟩ Qs
    ·have hL0:L=[]:=by
      cases L with
      | nil=>rfl
      | cons=>simp at hLn
     obtain rfl:w=F0 o L x.c.id:=hend (.inr hL0);refine As (Aa (Aa (Ae ?_)));exact AC _ ⟨rfl,rfl,rfl⟩ Qs
   ·obtain rfl:w=F0 o L x.c.id:=hend (.inl (by omega));refine Qk rfl (Qk rfl (Qk rfl (Qm rfl (Al (AM rfl (As (Aa (Aa (Ae ?_)))))))));exact AC _ ⟨rfl,rfl,rfl⟩ Qs
  ·obtain⟨rfl,rfl,rfl⟩:=hI;have hvb:0<=F0 o L x.c.id/\F0 o L x.c.id<=5:=VG _ _
   have hpb:-9223372036854775808<=F0 o L x.c.id*f/\F0 o L x.c.id*f<=9223372036854775807:=by have h1:0<=F0 o L x.c.id*f:=Int.mul_nonneg hvb.1 hf.1;have h2:F0 o L x.c.id*f<=5*f:=Int.mul_le_mul_of_nonneg_right hvb.2 hf.1;omega
   have hfl:(Gv o L f i).length<=4000:=by unfold Gv;rw[length_map,length_take];omega
   have cx7:∀ms,Cell h7 ms (((AF rC).add (i*3)).add 0) (.int .i64 x.c.id):=fun ms=>by rw[<-hx];exact(hQ.any (ms:=ms)).cell (j:=i) hil (f:=0) rfl
   refine Ad (Qm rfl (Qm rfl (Qm rfl (Qx (BU (i) hQ.rd.any rfl Bk AH rfl rfl) rfl (Qf By rfl (Ql rfl U3 (cx7 _) (Qm rfl (Qm rfl (Qx (oM rfl hpb) rfl (Qx (Bf Uz [.int .i64 0,.int .i64 0] [(0,_),(1,_)] [_,_] rfl Fz rfl rfl Qt rfl) rfl (An [_,_] rfl S8 Fz rfl (by rfl) rfl rfl (by omega) rfl rfl rfl (fun g63=>AQ 1 hO7 (RdL.one M8 (x:=(x.c.id,F0 o L x.c.id*f)) Mh rfl) rfl S8 Fz rfl (by omega) rfl rfl rfl Y3 (by(try simp only[length_singleton]);omega) (by(try simp only[length_singleton]);omega) rfl rfl rfl (fun v9 m9 hO9=>?_)))))))))))));have ov9:=hO9.o1;refine Qm rfl (Aj (Ai (Ab (Ad (Qm rfl (Qx (oA rfl) rfl (Qm rfl (Aj (AL ?_)))))))));exact Ak (A.length-(i+1)) _ (by omega) ⟨i+1,v9,m9,rfl,rfl,AI l4 l47,rfl,by omega,by rw[O3 hio,hxo];exact hO9⟩ Qs
 ·obtain rfl:i=A.length:=by omega
  refine As (Aa (Aa (Ae (Ab (Au (Qm rfl (Qm rfl (Al (Ao ?_)))))))));exact Az rfl rfl (⟨AI l1 (AI l13 l4),m7,rfl,by rw[hAl]at hO7;exact hO7⟩)
end Go.Proofs.Q
namespace Go.Proofs.Q
open Go.Proofs.Tryz
open Go.Eng Go.RowKit
theorem Q5{P:Program}{d:Nat}(X Y:Array Value)(w:World):∀(fs:List Field) (os:List (TypeId×Nat×Bool)),fs.map (fun f=>(decide (f.name ≠ "_"),f.type,f.offset))=os.map (fun o=>(true,o.1,o.2.1))->(∀o∈os,P.plainKey o.1=true/\∃a b,X[o.2.1]?=some a/\Y[o.2.1]?=some b/\(Op.equalIn (d+1) o.1 a b).run P w=.ok o.2.2 w)->(Op.eqFields (d+1) X Y fs).run P w=.ok (os.all fun o=>o.2.2) w
 | [],[],_,_=>by simp[Op.eqFields]
 | [],o::os,h,_=>by simp at h
 | f::fs,[],h,_=>by simp at h
 | f::fs,o::os,h,hc=>by
  simp only[List.map_cons,List.cons.injEq,Prod.mk.injEq]at h;obtain⟨⟨h1,h2,h3⟩,h4⟩:=h;have ih:=Q5 (d:=d) X Y w fs os h4 fun a ha=>hc a (mem_cons_of_mem _ ha);obtain⟨hp,a,b,c1,c2,he⟩:=hc o Mh;unfold Op.eqFields;rw[if_pos (of_decide_eq_true h1),h2,h3];simp only[Sem.run_bind,run_part_plain w hp c1,run_part_plain w hp c2,Result.andThen_ok,he];cases e:o.2.2
  ·simp[e]
  ·simp[e,ih]
theorem YX:(Tryz.prog.fieldsOf 43).toList.map (fun f=>(decide (f.name ≠ "_"),f.type,f.offset))=[(3,0),(3,1),(3,2),(4,3),(3,4),(3,5)].map (fun o=>(true,o.1,o.2)):=by kernel_rfl
theorem Z5:Tryz.prog.plainKey 3=true:=by kernel_rfl
theorem pk4:Tryz.prog.plainKey 4=true:=by kernel_rfl
theorem AaI:Tryz.prog.eqGuardType Tryz.prog.depth 43=false:=by kernel_rfl
theorem Aav:Tryz.prog.underlying 43=some (.struct (Tryz.prog.fieldsOf 43)):=by kernel_rfl
theorem Z3:Tryz.prog.stoodInHeld 43=false:=by kernel_rfl
theorem WI{o:Oper}{s:Aw}{h:Hp}{ms:List Hp}{x y:Operand}{u:TypeId}(a b:Br)(ho:o.op=.binOp .neq 43 x y u)(hx:ev s x=some (.agg (Nh a).toArray))(hy:ev s y=some (.agg (Nh b).toArray)):OX Tryz.prog o s h ms (.bool (decide (a≠b))):=
 Bn fun ρ w hρ _=>by
  have h1:(Op.equalIn 10000 43 (.agg (Nh a).toArray) (.agg (Nh b).toArray)).run Tryz.prog w=.ok (decide (a=b)) w:=by
   have h2:=Q5 (P:=Tryz.prog) (d:=9998) (Nh a).toArray (Nh b).toArray w (Tryz.prog.fieldsOf 43).toList [(3,0,a.dim==b.dim),(3,1,a.birth==b.birth),(3,2,a.death==b.death),(4,3,a.opn==b.opn),(3,4,a.low==b.low),(3,5,a.high==b.high)] (by rw[YX];rfl) fun o ho=>by
    simp only[mem_cons,not_mem_nil,or_false]at ho;rcases ho with rfl|rfl|rfl|rfl|rfl|rfl
    ·exact⟨Z5,_,_,rfl,rfl,run_equalIn_int w _ 3 .i64 .i64 _ _ U3⟩
    ·exact⟨Z5,_,_,rfl,rfl,run_equalIn_int w _ 3 .i64 .i64 _ _ U3⟩
    ·exact⟨Z5,_,_,rfl,rfl,run_equalIn_int w _ 3 .i64 .i64 _ _ U3⟩
    ·exact⟨pk4,_,_,rfl,rfl,run_equalIn_bool' w _ 4 _ _ U4⟩
    ·exact⟨Z5,_,_,rfl,rfl,run_equalIn_int w _ 3 .i64 .i64 _ _ U3⟩
    ·exact⟨Z5,_,_,rfl,rfl,run_equalIn_int w _ 3 .i64 .i64 _ _ U3⟩
   rw[run_equalIn_agg w 9999 43 _ _ Aav Z3,h2];congr 1;obtain⟨a1,a2,a3,a4,a5,a6⟩:=a;obtain⟨b1,b2,b3,b4,b5,b6⟩:=b;rw[Bool.eq_iff_iff,decide_eq_true_iff,Br.mk.injEq];show((a1==b1)&&((a2==b2)&&((a3==b3)&&((a4==b4)&&((a5==b5)&&((a6==b6)&&true))))))=true<->_;simp only[Bool.and_true,Bool.and_eq_true,beq_iff_eq]
  have e:(!decide (a=b))=decide (a≠b):=by simp
  simp only[execOp,ho,hρ _ _ hx,hρ _ _ hy];simp only[Sem.run_bind,run_eqGuard_agg w _ _ _ _ _ _ AaI,run_neq_struct,h1,e,Result.andThen_ok,Sem.run_pure]
theorem OY{a b:Nat}(h:(a:Int)<b):a<b:=by omega
theorem Vv(a b:List Br)(va vb:Value)(h:Hp)(hA:RdL Nh 6 h [] va a)(hB:RdL Nh 6 h [] vb b)(ms:List Hp):FnV Tryz.prog 17 #[va,vb] h ms (.bool (decide (a=b))):=by
 refine Gf ?_ ms;have la:=hA.len_le;have lb:=hB.len_le;refine Ap func17 ntmps17 rfl rfl (fun w0 hw0=>?_);simp only[AU];refine Au (Qm rfl (Al (Ac (Au (Qm rfl (Qx (Ar hA.rd.any rfl Sb rfl) rfl (Qm rfl (Qx (Ar hB.rd.any rfl Sb rfl) rfl (Qm rfl (Al ?_))))))))));refine Av rfl (fun hne=>?_) (fun hne=>?_)
 ·refine Ac (Ad (Qm rfl (Al (Ao (Ah ?_)))));exact Az rfl rfl (by rw[decide_eq_false];intro e;rw[e]at hne;exact hne rfl)
 ·have hl:a.length=b.length:=by omega
  refine Ag (Ab (Ac (Au (Qm rfl (Al (Af ?_))))))
  refine Ax (fun q s h' ms'=>∃(k:Nat),q=a.length-k/\s=[(0,va),(1,vb),(5,.int .i64 k)]/\h=h'/\ms'=[]/\k<=a.length/\a.take k=b.take k)
   (a.length-0) _ ⟨0,rfl,rfl,rfl,rfl,by omega,rfl⟩ Qs ?_
  rintro q s h' ms' ⟨k,rfl,rfl,rfl,rfl,hk,he⟩;refine Ac (Au (Qm rfl (Qm rfl (Qx (Ar hA.rd.any rfl Sb rfl) rfl (Qm rfl (Al ?_))))));refine Av rfl (fun hlt=>?_) (fun hlt=>?_)
  ·have hka:k<a.length:=OY hlt;have hkb:k<b.length:=by omega
   have ca:∀ms,Seg h ms ((AF va).add (k*6)) (Nh a[k]):=fun ms=>(hA.any (ms:=ms)).seg hka;have cb:∀ms,Seg h ms ((AF vb).add (k*6)) (Nh b[k]):=fun ms=>(hB.any (ms:=ms)).seg hkb;refine Ag (Ab (Ac (Af (Ac (Bg 8 CY (by kernel_rfl) rfl (Wm rfl (Wm rfl (AP (BU (k) hA.rd.any rfl Sb E6 rfl rfl) rfl rfl (AP (oG rfl U43 E6 (ca _)) rfl rfl (Wm rfl (Wm rfl (AP (BU (k) hB.rd.any rfl Sb E6 rfl rfl) rfl rfl (AP (oG rfl U43 E6 (cb _)) rfl rfl (Bc (Qx (WI a[k] b[k] rfl rfl rfl) rfl (Al ?_))))))))))))))));refine Av rfl (fun hne=>?_) (fun hne=>?_)
   ·refine Ac (Ad (Qm rfl (Al (Ao (Am (Ah (Ah (Am (Ah ?_)))))))));exact Az rfl rfl (by rw[decide_eq_false];rintro rfl;exact hne rfl)
   ·refine Ag (Ai (Ab (Ad (Qm rfl (Qx (oA rfl) rfl (Qm rfl (Aj ?_)))))));refine Ak (a.length-(k+1)) _ (by omega) ⟨k+1,rfl,rfl,rfl,rfl,by omega,?_⟩ Qs;rw[List.take_add_one,List.take_add_one,he,List.getElem?_eq_getElem hka,List.getElem?_eq_getElem hkb,Decidable.not_not.1 hne]
  ·obtain rfl:k=a.length:=by omega
   refine As (Aa (Aa (Ae (Ab (Au (Qm rfl (Al (Ao ?_))))))));exact Az rfl rfl (by rw[take_length,hl,take_length]at he;rw[decide_eq_true he])
theorem Q4(la lb:List Int)(va vb:Value)(h:Hp)(hA:RdL cI 1 h [] va la)(hB:RdL cI 1 h [] vb lb)(ms:List Hp):FnV Tryz.prog 44 #[va,vb] h ms (.bool (decide (la=lb))):=by
 refine Gf ?_ ms;have l1:=hA.len_le;have l2:=hB.len_le;refine Ap func44 ntmps44 rfl rfl (fun w0 hw0=>?_);simp only[AU];refine Au (Qm rfl (Al (Ac (Au (Qm rfl (Qx (Ar hA.rd.any rfl AR rfl) rfl (Qm rfl (Qx (Ar hB.rd.any rfl AR rfl) rfl (Qm rfl (Al ?_))))))))));refine Av rfl (fun hlen=>?_) (fun hlen=>?_)
 ·refine Ac (Ad (Qm rfl (Al (Ao (Ah ?_)))));exact Az rfl rfl (by rw[decide_eq_false];rintro rfl;exact hlen rfl)
 ·have hlen:la.length=lb.length:=by omega
  refine Ag (Ab (Ac (Au (Qm rfl (Al (Af ?_))))))
  refine Ax (fun q s h' ms'=>∃(k:Nat),q=la.length-k/\s=[(0,va),(1,vb),(5,.int .i64 k)]/\h=h'/\ms'=[]/\k<=la.length/\la.take k=lb.take k)
   (la.length-0) _ ⟨0,rfl,rfl,rfl,rfl,by omega,rfl⟩ Qs ?_
  rintro q s h' ms' ⟨k,rfl,rfl,rfl,rfl,hk,hno⟩;refine Ac (Au (Qm rfl (Qm rfl (Qx (Ar hA.rd.any rfl AR rfl) rfl (Qm rfl (Al ?_))))));refine Av rfl (fun hlt=>?_) (fun hlt=>?_)
  ·have k1:k<la.length:=by omega
   have k2:k<lb.length:=by omega
   have ca:∀ms,Cell h ms ((AF va).add (k*1)) (.int .i64 la[k]):=fun ms=>(hA.any (ms:=ms)).cell0 k1 rfl;have cb:∀ms,Cell h ms ((AF vb).add (k*1)) (.int .i64 lb[k]):=fun ms=>(hB.any (ms:=ms)).cell0 k2 rfl;refine Ag (Ab (Ac (Af (Ac (Bg 8 CY (by kernel_rfl) rfl (Wm rfl (Wm rfl (AP (BU (k) hA.rd.any rfl AR Be rfl rfl) rfl rfl (Wl rfl U3 (ca _) (Wm rfl (Wm rfl (AP (BU (k) hB.rd.any rfl AR Be rfl rfl) rfl rfl (Wl rfl U3 (cb _) (Bc (Qm rfl (Al ?_))))))))))))))));refine Av rfl (fun hne=>?_) (fun hne=>?_)
   ·refine Ac (Ad (Qm rfl (Al (Ao (Am (Ah (Ah (Am (Ah ?_)))))))));exact Az rfl rfl (by rw[decide_eq_false];rintro rfl;exact hne rfl)
   ·refine Ag (Ai (Ab (Ad (Qm rfl (Qx (oA rfl) rfl (Qm rfl (Aj ?_)))))));refine Ak (la.length-(k+1)) _ (by omega) ⟨k+1,rfl,rfl,rfl,rfl,by omega,?_⟩ Qs;rw[List.take_add_one,List.take_add_one,hno,List.getElem?_eq_getElem k1,List.getElem?_eq_getElem k2,Decidable.not_not.1 hne]
  ·refine As (Aa (Aa (Ae (Ab (Au (Qm rfl (Al (Ao ?_))))))));exact Az rfl rfl (by rw[decide_eq_true];rwa [List.take_of_length_le (by omega),List.take_of_length_le (by omega)]at hno)
def PQ(n:Nat):Nat:=if n%4=0 then 2 else if n%4=1 then 3 else if n%4=2 then 5 else 7
theorem Ze(n:Nat):IsP (PQ n:Int)/\(PQ n:Int)<256:=by
 unfold PQ;split
 ·decide
 ·split
  ·decide
  ·split<;>decide
theorem LU(n:Nat)(hn:n<256)(h:Hp)(ms:List Hp):FnV Tryz.prog 18 #[.int .u8 n] h ms (.int .i64 (PQ n)):=by
 refine Gf ?_ ms;obtain⟨z,hz⟩:∃z:Nat,(n:Int)%4=z:=⟨n%4,by omega⟩
 have hz4:z<4:=by omega
 have hc:([.int .i64 2,.int .i64 3,.int .i64 5,.int .i64 7]:List Value)[z]?=some (.int .i64 (PQ n)):=by
  have e:n%4=z:=by omega
  unfold PQ;rw[e];rcases (by omega:z=0\/z=1\/z=2\/z=3) with rfl|rfl|rfl|rfl<;>rfl
 refine Ap func18 ntmps18 rfl rfl (fun w0 hw0=>?_);simp only[AU];refine Au (Qm rfl (BL (Aq [(0,_),(1,_),(2,_),(3,_)] [.int .i64 0,.int .i64 0,.int .i64 0,.int .i64 0] [_,_,_,_] rfl AR Be rfl (by omega) (by kernel_rfl) Qt rfl rfl rfl rfl (fun g3=>Qm rfl (Qx (BM rfl rfl rfl (by omega) (by omega)) rfl (Qx (BF (z) rfl AR Be rfl rfl (by omega) (by omega)) rfl ?_))))));refine Ql rfl U3 (by exact Cell.blk 0 rfl (by rw[Nat.mul_one];exact hc)) ?_;refine Qm rfl (Al (Ao ?_));exact Az rfl rfl (rfl)
end Go.Proofs.Q
namespace Go.Proofs.Q
open Go.Eng Go.RowKit Go.Lin
section
variable {p:Int} {n:Nat} {D:Nat->Nat->Int} {dm:Nat->Int} {pos:Nat->Nat} {v v':Nat->Nat->Int} {low low':Nat->Option Nat}
theorem VU(R:Rdc p n D dm pos v low)(R':Rdc p n D dm pos v' low'){j i:Nat}(hj:j<n)(h:low j=some i):∃k,k<n/\low' k=some i/\pos k<=pos j:=by
 obtain⟨C,hC⟩:=R.chg R' (f:=fun i=>(pos i:Int)) (g:=fun i=>(pos i:Int)) (δ:=0) (fun i j _ _ h=>by show(pos i:Int)<=pos j;omega) (fun i j _ _ h=>by show(pos i:Int)<=pos j;omega) (fun i _=>by show(pos i:Int)<=pos i+0;omega) (dm j);have hlo:lo low j=i:=by unfold lo;rw[h];rfl
 have hb:Ni dm low (dm j) j=true:=prs_iff.2 ⟨rfl,by rw[hlo];exact h⟩;obtain⟨h1,h2⟩:=hC j hj hb;obtain⟨hi,hn,hm⟩:=R.lsome j i hj h;have h3:¬p∣DV n (Ni dm low' (dm j)) (C j) (fun k=>E3 n D (v' k)) i:=fun q=>hn ((h1 i hi).dvd_iff.2 q);obtain⟨k,hk,h4⟩:=Yu h3;cases hbk:Ni dm low' (dm j) k with
 | false=>rw[hbk]at h4;exact absurd (Int.dvd_zero p) h4
 | true=>
  rw[hbk]at h4;have h4:¬p∣C j k*E3 n D (v' k) i:=h4;have hc:¬p∣C j k:=fun q=>h4 (Int.dvd_mul_of_dvd_left q);have hv:¬p∣E3 n D (v' k) i:=fun q=>h4 (Int.dvd_mul_of_dvd_right q);obtain⟨h5,h6⟩:=h2 k hk hbk hc;rw[hlo]at h6;have T:=R'.prs_top hk hbk;have h7:=T.2.2 i hi hv;have h8:lo low' k=i:=R.pinj _ _ T.1 hi (by omega);exact⟨k,hk,by rw[<-h8];exact(prs_iff.1 hbk).2,by omega⟩
theorem Zf(R:Rdc p n D dm pos v low)(R':Rdc p n D dm pos v' low'){j:Nat}(hj:j<n):low j=low' j:=by
 have key:∀{v v':Nat->Nat->Int} {low low':Nat->Option Nat},Rdc p n D dm pos v low->Rdc p n D dm pos v' low'->∀i,low j=some i->low' j=some i:=fun {v v' low low'} R R' i h=>by obtain⟨k,hk,h1,h2⟩:=VU R R' hj h;obtain⟨j',hj',h3,h4⟩:=VU R' R hk h1;have:j'=j:=R.linj j' j i hj' hj h3 h;subst this;have:k=j':=R.pinj _ _ hk hj (by omega);rw[<-this];exact h1
 cases h:low j with
 | some i=>exact(key R R' i h).symm
 | none=>
  cases h':low' j with
  | none=>rfl
  | some i=>have:=key R' R i h';rw[h]at this;cases this
end
section
variable {p:Int} {F F':List (Int×Int)} {l l' S S':List Ce} {R V R' V':Nat->List Int}
theorem Yv{f g:Int->Int}(hS:MW f S)(hS':MW g S')(hp:(S.map Ce.c).Perm (S'.map Ce.c))(hn:(S.map fun a=>a.c.id).Nodup)(hfg:∀a∈S,∀b∈S,(f a.c.id<f b.c.id<->g a.c.id<g b.c.id)):S'.map Ce.c=S.map Ce.c:=by
 have hS1:(S.map Ce.c).Pairwise fun a b=>f a.id<f b.id\/(f a.id=f b.id/\(a.dim<b.dim\/(a.dim=b.dim/\a.id<=b.id))):=List.pairwise_map.2 hS
 have hS2:(S'.map Ce.c).Pairwise fun a b=>f a.id<f b.id\/(f a.id=f b.id/\(a.dim<b.dim\/(a.dim=b.dim/\a.id<=b.id))):=by have:(S'.map Ce.c).Pairwise fun a b=>g a.id<g b.id\/(g a.id=g b.id/\(a.dim<b.dim\/(a.dim=b.dim/\a.id<=b.id))):=List.pairwise_map.2 hS';refine this.imp_of_mem fun {a b} ha hb h=>?_;obtain⟨x,hx,rfl⟩:=List.mem_map.1 (hp.mem_iff.2 ha);obtain⟨y,hy,rfl⟩:=List.mem_map.1 (hp.mem_iff.2 hb);have h1:=hfg x hx y hy;have h2:=hfg y hy x hx;omega
 have hinj:∀a∈S.map Ce.c,∀b∈S.map Ce.c,a.id=b.id->a=b:=fun a ha b hb e=>by
  have hn':((S.map Ce.c).map Cl.id).Nodup:=by rw[map_map];exact hn
  have h1:=CL hn' ha;have h2:=CL hn' hb;rw[e,h2]at h1;exact(Option.some.inj h1).symm
 refine(List.Perm.eq_of_pairwise (fun a b ha hb h1 h2=>?_) hS1 hS2 hp).symm;exact hinj a ha b (hp.mem_iff.2 hb) (by omega)
end
end Go.Proofs.Q
namespace Go.Proofs.Q
open Go.Eng Go.RowKit Go.Lin
structure Aaj(o:List Cl)(f:Int->Int)(b:Br):Prop where
 low:∃x∈o,x.id=b.low/\x.dim=b.dim/\f b.low=b.birth
 opn:b.opn=true->b.high=0/\b.death=0
 fin:b.opn=false->∃y∈o,y.id=b.high/\y.dim=b.dim+1/\f b.high=b.death/\b.birth<b.death
def DJ(b:Br):List Int:=if b.opn then [b.low] else [b.low,b.high]
theorem KU{α β:Type}{h:α->List β}:∀{l:List α},l.Nodup->(∀a∈l,(h a).Nodup)->(∀a∈l,∀b∈l,∀x∈h a,x∈h b->a=b)->(l.flatMap h).Nodup
 | [],_,_,_=>List.Pairwise.nil
 | a::l,hn,h1,h2=>by rw[flatMap_cons];obtain⟨hn1,hn2⟩:=List.nodup_cons.1 hn;refine List.nodup_append.2 ⟨h1 a Mh,KU hn2 (fun b hb=>h1 b (mem_cons_of_mem _ hb)) fun b hb c hc=>h2 b (mem_cons_of_mem _ hb) c (mem_cons_of_mem _ hc),fun x hx y hy e=>?_⟩;subst e;obtain⟨b,hb,hxb⟩:=List.mem_flatMap.1 hy;have:=h2 a Mh b (mem_cons_of_mem _ hb) x hx hxb;subst this;exact hn1 hb
theorem Hg{α β:Type}{h:α->List β}{r:β->β->Prop}:∀{l:List α},(∀a∈l,(h a).length<=1)->(l.Pairwise fun a b=>∀x∈h a,∀y∈h b,r x y)->(l.flatMap h).Pairwise r
 | [],_,_=>List.Pairwise.nil
 | a::l,h1,h2=>by
  rw[flatMap_cons];obtain⟨h3,h4⟩:=List.pairwise_cons.1 h2;refine List.pairwise_append.2 ⟨?_,Hg (fun b hb=>h1 b (mem_cons_of_mem _ hb)) h4,fun x hx y hy=>?_⟩
  ·have:=h1 a Mh
   match h a,this with
   | [],_=>exact List.Pairwise.nil
   | [x],_=>exact List.pairwise_singleton _ _
   | _::_::_,h=>simp at h
  ·obtain⟨b,hb,hyb⟩:=List.mem_flatMap.1 hy;exact h3 b hb x hx y hyb
section
variable {p:Int} {F:List (Int×Int)} {l S:List Ce} {R V:Nat->List Int}
theorem PerH.bar_mem(H:PerH p F l S R V){m:Nat}(hm:m<S.length){b:Br}(hb:b∈Hl (CJ (Bj F)) S (C8 S R) m) :
  A3 (R m)<0/\b.dim=(CW S m).dim/\b.birth=fs F S m/\b.low=(CW S m).id/\((b.opn=true/\b.death=0/\b.high=0/\∀j,j<S.length->A3 (R j)≠m)\/∃j,j<S.length/\A3 (R j)=m/\b.opn=false/\b.death=fs F S j/\b.high=(CW S j).id/\b.birth<b.death):=by
 unfold Hl at hb;split at hb
 ·rename_i x hx;obtain⟨j,hj,rfl,e⟩:=H.end_some hx;have h0:=H.low_none hj e;rw[Int.toNat_natCast]at hb;split at hb
  ·rename_i hlt;rw[List.mem_singleton.1 hb];exact⟨h0,rfl,rfl,rfl,.inr ⟨j,hj,e,rfl,rfl,rfl,hlt⟩⟩
  ·cases hb
 ·rename_i hx;split at hb
  ·rename_i hlt;rw[If S R hm]at hlt;rw[List.mem_singleton.1 hb];refine⟨hlt,rfl,rfl,rfl,.inl ⟨rfl,rfl,rfl,fun j hj e=>?_⟩⟩;have:=H.end_get hj e;rw[hx]at this;cases this
  ·cases hb
theorem PerH.bar_q(H:PerH p F l S R V){b:Br}(hb:b∈CS (CJ (Bj F)) S (C8 S R) S.length):Aaj (cn l) (CJ (Bj F)) b:=by
 unfold CS at hb;obtain⟨m,hm,hb⟩:=List.mem_flatMap.1 hb;have hm:=List.mem_range.1 hm;obtain⟨h0,h1,h2,h3,h4⟩:=H.bar_mem hm hb;refine⟨⟨_,H.mem hm,h3.symm,h1.symm,by rw[h3,h2];rfl⟩,fun h=>?_,fun h=>?_⟩
 ·rcases h4 with ⟨_,a,b,_⟩|⟨_,_,_,q,_⟩
  ·exact⟨b,a⟩
  ·rw[q]at h;cases h
 ·rcases h4 with ⟨q,_⟩|⟨j,hj,e,_,h5,h6,h7⟩
  ·rw[q]at h;cases h
  ·have h8:=(H.low_lt hj e).2;exact⟨_,H.mem hj,h6.symm,by rw[h1];exact h8,by rw[h6,h5];rfl,h7⟩
theorem PerH.keys_nd(H:PerH p F l S R V):((CS (CJ (Bj F)) S (C8 S R) S.length).flatMap DJ).Nodup:=by
 unfold CS;rw[List.flatMap_assoc]
 -- the place of a key
 have hk:∀m,m<S.length->∀x∈(Hl (CJ (Bj F)) S (C8 S R) m).flatMap DJ,∃q,q<S.length/\(CW S q).id=x/\((A3 (R q)<0/\q=m)\/A3 (R q)=m):=fun m hm x hx=>by
  obtain⟨b,hb,hx⟩:=List.mem_flatMap.1 hx;obtain⟨h0,h1,h2,h3,h4⟩:=H.bar_mem hm hb;unfold DJ at hx;rcases h4 with ⟨q,_⟩|⟨j,hj,e,q,h5,h6,h7⟩
  ·rw[q,if_pos rfl,mem_singleton]at hx;exact⟨m,hm,by rw[hx,h3],.inl ⟨h0,rfl⟩⟩
  ·rw[q]at hx;rcases List.mem_cons.1 hx with hx|hx
   ·exact⟨m,hm,by rw[hx,h3],.inl ⟨h0,rfl⟩⟩
   ·rw[mem_singleton]at hx;exact⟨j,hj,by rw[hx,h6],.inr e⟩
 refine KU List.nodup_range (fun m hm=>?_) fun m hm m' hm' x hx hx'=>?_
 ·have hm:=List.mem_range.1 hm;have hle:=L9 (CJ (Bj F)) S (C8 S R) m;have hbm:=fun b=>H.bar_mem hm (b:=b)
  match Hl (CJ (Bj F)) S (C8 S R) m,hle,hbm with
  | [],_,_=>exact List.Pairwise.nil
  | [b],_,hbm=>
   simp only[flatMap_cons,List.flatMap_nil,append_nil];obtain⟨h0,h1,h2,h3,h4⟩:=hbm b Mh;unfold DJ;rcases h4 with ⟨q,_⟩|⟨j,hj,e,q,h5,h6,h7⟩
   ·rw[q,if_pos rfl];exact List.pairwise_singleton _ _
   ·rw[q,if_neg (by simp)];refine List.nodup_cons.2 ⟨fun h=>?_,List.pairwise_singleton _ _⟩;rw[mem_singleton,h3,h6]at h;have:=H.inj hm hj h;subst this;omega
  | _::_::_,h,_=>simp at h
 ·obtain⟨q,h1,h2,h3⟩:=hk m (List.mem_range.1 hm) x hx;obtain⟨q',h1',h2',h3'⟩:=hk m' (List.mem_range.1 hm') x hx';have:=H.inj h1 h1' (by rw[h2,h2']);subst this;omega
theorem PerH.births(H:PerH p F l S R V):(CS (CJ (Bj F)) S (C8 S R) S.length).Pairwise fun a b=>a.birth<=b.birth:=by unfold CS;refine Hg (fun m _=>L9 _ _ _ m) (List.pairwise_lt_range.imp_of_mem fun {a b} ha hb hab x hx y hy=>?_);have ha:=List.mem_range.1 ha;have hb:=List.mem_range.1 hb;rw[(H.bar_mem ha hx).2.2.1,(H.bar_mem hb hy).2.2.1];exact H.fmono (Nat.le_of_lt hab) hb
theorem PerH.opens_n(H:PerH p F l S R V)(hb:∀c,-2000000000<=CJ (Bj F) c/\CJ (Bj F) c<=2000000000){D:Int}{rk:Nat->Nat}(hD:Jb (cn l) D)(h0:rk 0=0)(hrk:∀n:Nat,n<(D+1).toNat->Y1 p (cn l) (n+1) (rk (n+1)))(d:Nat) :
  (((CS (CJ (Bj F)) S (C8 S R) S.length).filter fun b=>b.opn&&decide (b.dim=(d:Int))).length:Int)=if d<(D+1).toNat then(JF (cn l) rk (D+1).toNat).getD d 0 else 0:=by
 have e:Ee F 2000000000 (cn l)=cn l:=by unfold Ee;rw[List.filter_eq_self];intro a _;exact decide_eq_true (hb _).2
 have h1:=H.betti 2000000000 D rk (by rw[e];exact hD) h0 (by rw[e];exact hrk) d;rw[e]at h1;rw[<-h1];congr 2;refine List.filter_congr fun b hb'=>?_;have Q:=H.bar_q hb';obtain⟨x,_,_,_,h2⟩:=Q.low;have h3:=hb b.low;unfold Br.at;rw[decide_eq_true (show b.birth<=2000000000 by omega)];cases ho:b.opn with
 | true=>simp
 | false=>
  obtain⟨y,_,_,_,h4,_⟩:=Q.fin ho;have h5:=hb b.high;rw[decide_eq_false (show ¬(2000000000:Int)<b.death by omega)];simp
end
end Go.Proofs.Q
namespace Go.Proofs.Q
open Go.Eng Go.RowKit Go.Lin
variable {S:List Ce}
theorem Zx{S':List Ce}(h:S'.map Ce.c=S.map Ce.c)(i:Nat):(S'.getD i default).c=(S.getD i default).c:=by
 have e:∀S:List Ce,(S.getD i default).c=(S.map Ce.c).getD i (default:Ce).c:=fun S=>by simp only[List.getD,List.getElem?_map];cases S[i]?<;>rfl
 rw[e,e,h]
theorem Ny{S':List Ce}(f:Int->Int)(L:List Int)(h:S'.map Ce.c=S.map Ce.c)(n:Nat):CS f S' L n=CS f S L n:=by unfold CS;congr 1;funext m;unfold Hl;simp only[Zx h]
def circC:List Cl:=[⟨1,0,[]⟩,⟨2,0,[]⟩,⟨3,1,[(1,-1),(2,1)]⟩,⟨4,1,[(1,-1),(2,1)]⟩]
def circF:List (Int×Int):=[(1,0),(2,1),(3,2),(4,5)]
def circB:List Br:=[⟨0,0,0,true,1,0⟩,⟨0,1,2,false,2,3⟩,⟨1,5,0,true,4,0⟩]
def circS:List Ce:=circC.map fun c=>⟨c,undef⟩
theorem Nf:circS.map Ce.c=circC:=rfl
def J3(j i:Nat):Int:=if i=j\/(j=3/\i=2) then 1 else 0
def OP(j:Nat):Option Nat:=if j=2 then some 1 else none
theorem isP2:IsP 2:=⟨by decide,by decide,by decide⟩
theorem TW:Rdc 2 4 (DM circC) (ZH circC) (tr circC circC) J3 OP:=by
 have h1:∀i,i<4->∀j,j<4->(2:Int)∣E3 4 (DM circC) (fun k=>DM circC k j) i:=by decide
 have h2:∀i,i<4->∀j,j<4->¬(2:Int)∣DM circC i j->ZH circC j=ZH circC i+1:=by decide
 have h3:∀i,i<4->∀j,j<4->tr circC circC i=tr circC circC j->i=j:=by decide
 have h4:∀j,j<4->j<4/\¬(2:Int)∣J3 j j/\∀i,i<4->¬(2:Int)∣J3 j i->tr circC circC i<=tr circC circC j:=by decide
 have h5:∀j,j<4->∀i,i<4->¬(2:Int)∣J3 j i->ZH circC i=ZH circC j:=by decide
 have h6:∀j,j<4->OP j=none->∀i,i<4->(2:Int)∣E3 4 (DM circC) (J3 j) i:=by decide
 have h7:¬(2:Int)∣E3 4 (DM circC) (J3 2) 1/\∀i,i<4->¬(2:Int)∣E3 4 (DM circC) (J3 2) i->tr circC circC i<=tr circC circC 1:=by decide
 have h8:∀j i,OP j=some i->j=2/\i=1:=fun j i h=>by
  unfold OP at h;split at h
  ·rename_i e;exact⟨e,(Option.some.inj h).symm⟩
  ·cases h
 refine⟨isP2.fld,fun i j hi hj=>h1 i hi j hj,fun i j hi hj=>h2 i hi j hj,fun i j hi hj=>h3 i hi j hj,fun j hj=>h4 j hj,fun j i hj hi=>h5 j hj i hi,fun j hj=>h6 j hj,fun j i hj h=>?_,fun j j' i hj hj' h h'=>?_⟩
 ·obtain⟨rfl,rfl⟩:=h8 j i h;exact⟨by decide,h7.1,h7.2⟩
 ·rw[(h8 _ _ h).1,(h8 _ _ h').1]
theorem Rw{l:List Ce}{R V:Nat->List Int}(H:PerH 2 circF l S R V)(hl:cn l=circC):CS (CJ (Bj circF)) S (C8 S R) S.length=circB:=by
 have hS:S.map Ce.c=circC:=by
  have h1:MW (CJ (Bj circF)) circS:=by unfold MW;decide
  have:=Yv (f:=CJ (Bj circF)) (g:=CJ (Bj circF)) (S:=circS) (S':=S) h1 H.P.srt (by rw[Nf,<-hl];exact H.P.perm.symm) (by decide) fun _ _ _ _=>Iff.rfl;rw[this,Nf]
 have hn:S.length=4:=by have:=congrArg List.length hS;simpa[circC] using this
 have Q:=H.rdc;rw[hl,hn,hS]at Q
 have key:∀j,j<4->A3 (R j)=if j=2 then 1 else -1:=fun j hj=>by
  have e:=Zf Q TW hj;have h1:=(Gw (R j)).1;have h2:=(Gw (R j)).2;rw[(H.col j (by omega)).rl,hn]at h2;have ht:∀j,j<4->tr circC circC j=j:=by decide
  unfold O5 OP at e;rw[hS,ht j hj]at e;by_cases h0:0<=A3 (R j)
  ·rw[if_pos h0,ht _ (by omega)]at e;split at e
   ·rename_i h;rw[if_pos h];have:=Option.some.inj e;omega
   ·cases e
  ·rw[if_neg h0]at e;split at e
   ·cases e
   ·rename_i h;rw[if_neg h];omega
 have hL:C8 S R=[-1,-1,1,-1]:=by unfold C8;rw[hn];show [A3 (R 0),A3 (R 1),A3 (R 2),A3 (R 3)]=_;rw[key 0 (by omega),key 1 (by omega),key 2 (by omega),key 3 (by omega)];rfl
 rw[hL,hn,Ny (S:=circS) (S':=S) _ _ (by rw[hS,Nf]) 4];decide
end Go.Proofs.Q
namespace Go.Proofs.Q
open Go.Proofs.Tryz
open Go.Eng Go.RowKit
variable {D:Int}
theorem XZ:NF (EG 1)=circC:=by decide
theorem circ_rgtF:RgtF circC:=by
 have e:RZ circC=circC:=by decide
 exact⟨by decide,by decide,by decide,fun x hx=>by rw[<-e]at hx;obtain⟨y,_,rfl⟩:=List.mem_map.1 hx;exact⟨y,rfl⟩,by decide,by decide⟩
theorem JX:F9 circC circF=(0,0):=by decide
theorem SY:F9 circC (circF.take 3)=(4,30):=by decide
theorem Sh:F9 circC [(1,0),(2,3),(3,2),(4,5)]=(3,44):=by decide
theorem IB(F:List (Int×Int))(hF:F=circF\/F=circF.take 3\/F=[(1,0),(2,3),(3,2),(4,5)]):NM F:=by rcases hF with rfl|rfl|rfl<;>exact⟨by decide,by decide⟩
theorem Kf:∀x∈circC,∀s∈x.sd,CJ (Bj circF) s.1<=CJ (Bj circF) x.id:=by decide
theorem circ_q:X4 circC circF:=by
 have:=TA circ_rgtF.rgt (fun c=>CJ (Bj circF) c) (by decide) Kf;have e:(circC.map fun x=>(x.id,CJ (Bj circF) x.id))=circF:=by decide
 rwa [e]at this
theorem VM{o:List Cl}(h:Jb o D)(k:Int)(h1:∀c∈o,c.dim<=k)(h2:∃c∈o,c.dim=k)(h0:0<=k):D=k:=by
 obtain⟨a,b,c⟩:=h;obtain⟨y,hy,e⟩:=h2;have:=b y hy;rcases c with c|⟨z,hz,c⟩
 ·omega
 ·have:=h1 z hz;omega
theorem Xh{W:List Int}(hD:Jb (Ee circF 1 circC) D)(hl:W.length=(D+1).toNat)(key:∀d:Nat,((circB.filter (Br.at d 1)).length:Int)=if d<(D+1).toNat then W.getD d 0 else 0):W=[2]:=by
 obtain rfl:=VM hD 0 (by decide) (by decide) (by decide)
 match W,hl with
 | [a],_=>
  have h:=key 0;have h2:((circB.filter (Br.at (0:Nat) 1)).length:Int)=2:=by decide
  rw[h2,if_pos (by decide)]at h;rw[h];rfl
theorem Xw{W:List Int}(hD:Jb (Ee circF 2 circC) D)(hl:W.length=(D+1).toNat)(key:∀d:Nat,((circB.filter (Br.at d 2)).length:Int)=if d<(D+1).toNat then W.getD d 0 else 0):W=[1,0]:=by
 obtain rfl:=VM hD 1 (by decide) (by decide) (by decide)
 match W,hl with
 | [a,b],_=>
  have h:=key 0;have h':=key 1;have h2:((circB.filter (Br.at (0:Nat) 2)).length:Int)=1:=by decide
  have h3:((circB.filter (Br.at (1:Nat) 2)).length:Int)=0:=by decide
  rw[h2,if_pos (by decide)]at h;rw[h3,if_pos (by decide)]at h';have e1:a=1:=h.symm;have e2:b=0:=h'.symm;rw[e1,e2]
theorem SK(hp:Hp):FnT Tryz.prog 43 #[] hp [] (fun r h' ms'=>hp.le h'/\∃gF mC A vC,r=.tuple #[.agg #[vC],.slice (some ⟨gF,0,none⟩) 4 4]/\ms'=[Bi gF 47 [.int .i64 1,.int .i64 0,.int .i64 2,.int .i64 1,.int .i64 3,.int .i64 2,.int .i64 4,.int .i64 5],mC]/\OwnL cC 3 52 mC vC A/\A.map Ce.c=NF (EG 1)/\∀a∈A,RdL cD 2 h' [] a.v a.c.sd):=by show FnT _ _ (List.toArray []) _ _ _;refine Ap func43 ntmps43 rfl rfl (fun w0 hw0=>?_);simp only[AU];refine Au (CN [.slice none 0 0] rfl AV rfl rfl (fun g0=>Qm rfl (BL (Qc call45 rfl (Io 1 hp (by decide)) (fun rC h2 ms2 l2 hF=>?_)))));obtain⟨l2',mC,A,vC,rfl,rfl,hOC,hA,hsd⟩:=hF;have oC:=hOC.o1;refine Qx (Bf Uz [.int .i64 0,.int .i64 0] [(0,_)] [_,_] rfl Fz rfl rfl Qt rfl) rfl (Qx (Bf Uz [.int .i64 0,.int .i64 0] [(0,_),(1,_)] [_,_] rfl Fz rfl rfl Qt rfl) rfl (Qx (Bf Uz [.int .i64 0,.int .i64 0] [(0,_),(1,_)] [_,_] rfl Fz rfl rfl Qt rfl) rfl (Qx (Bf Uz [.int .i64 0,.int .i64 0] [(0,_),(1,_)] [_,_] rfl Fz rfl rfl Qt rfl) rfl (Aq [(0,_),(2,_),(4,_),(6,_)] [.int .i64 0,.int .i64 0,.int .i64 0,.int .i64 0,.int .i64 0,.int .i64 0,.int .i64 0,.int .i64 0] [_,_,_,_,_,_,_,_] rfl S8 Fz rfl (by omega) (by kernel_rfl) Qt rfl rfl rfl rfl (fun g7=>?_)))));refine Sa 2 [_] AV rfl (by simp[oC]) ?_;refine Qm rfl (Al (Ao ?_));exact H7 (vs:=[_]) 2 rfl rfl rfl CM rfl AV rfl rfl (⟨l2',_,mC,A,vC,rfl,rfl,hOC,hA,hsd⟩)
end Go.Proofs.Q

namespace Go.Proofs.Q
open Go.Proofs.Tryz
open Go.Eng Go.RowKit
theorem GZ:∀(l acc s:List Int),DF acc l=some s->s.length<=acc.length+l.length
 | [],acc,s,e=>by have:acc=s:=Option.some.inj e;rw[<-this];exact Nat.le_add_right _ _
 | x::l,acc,s,e=>by
  unfold DF at e;split at e
  ·have:=GZ l acc s e;rw[length_cons];omega
  ·split at e
   ·cases e
   ·have:=GZ l _ s e;rw[No]at this;rw[length_cons];omega
theorem KW:∀(ll acc all:List (List Int)),(∀l∈ll,l.length<=4)->Ch acc ll=some all->all.length<=acc.length+15*ll.length
 | [],acc,all,h,e=>by have:acc=all:=Option.some.inj e;rw[<-this];exact Nat.le_add_right _ _
 | l::ll,acc,all,h,e=>by
  rw[Df]at e;split at e
  ·cases e
  ·have h1:=KW ll _ all (fun x hx=>h x (mem_cons_of_mem _ hx)) e
   have h2:(R5 acc (DF [] l)).length<=acc.length+15:=by
    cases hs:DF [] l with
    | none=>exact Nat.le_add_right _ _
    | some s=>
     have h3:=GZ l [] s hs;have h4:=h l Mh;have h5:=FZ acc s (2^s.length-1);have h6:2^s.length<=16:=Nat.pow_le_pow_right (n:=2) (i:=s.length) (j:=4) (by decide) (by simp at h3;omega);show(Cx acc s (2^s.length-1)).length<=_;omega
   rw[length_cons];omega
theorem Tm{ll:List (List Int)}(h:∀l∈ll,l.length<=4):(DY ll).length<=15*ll.length:=by
 unfold DY;cases e:Ch [] ll with
 | none=>simp
 | some all=>have:=KW ll [] all h e;simpa using this
theorem TZ{all:List (List Int)}{s t:List Int}(h:t∈HA all s):t=s\/t∈all:=by
 unfold HA at h;split at h
 ·exact .inr h
 ·rcases List.mem_append.1 h with h|h
  ·exact .inr (List.mem_of_mem_take h)
  ·rcases List.mem_cons.1 h with h|h
   ·exact .inl h
   ·exact .inr (List.mem_of_mem_drop h)
theorem LO{all:List (List Int)}{s:List Int}(h:∀t∈all,t.length<=4)(hs:s.length<=4):∀b,∀t∈Cx all s b,t.length<=4
 | 0,t,ht=>h t ht
 | b+1,t,ht=>by
  rcases TZ ht with rfl|ht
  ·unfold Ea;rw[length_map];exact Nat.le_trans (List.length_filter_le _ _) (by rw[length_range];exact hs)
  ·exact LO h hs b t ht
theorem Ku:∀(ll acc all:List (List Int)),(∀l∈ll,l.length<=4)->(∀l∈acc,l.length<=4)->Ch acc ll=some all->∀l∈all,l.length<=4
 | [],acc,all,h,ha,e=>by have:acc=all:=Option.some.inj e;rw[<-this];exact ha
 | l::ll,acc,all,h,ha,e=>by
  rw[Df]at e;split at e
  ·cases e
  ·refine Ku ll _ all (fun x hx=>h x (mem_cons_of_mem _ hx)) ?_ e;cases hs:DF [] l with
   | none=>exact ha
   | some s=>exact LO ha (by have:=GZ l [] s hs;have:=h l Mh;simp at *;omega) _
theorem TY{ll:List (List Int)}(h:∀l∈ll,l.length<=4):∀x∈DY ll,x.dim<=7:=by
 unfold DY;cases e:Ch [] ll with
 | none=>nofun
 | some all=>
  intro x hx;obtain⟨i,hi,rfl⟩:=List.mem_map.1 hx;have hi:=List.mem_range.1 hi;have:=Ku ll [] all h nofun e _ (getElem_mem hi);show((all.getD i []).length:Int)-1<=7;rw[show all.getD i []=all[i] by simp[List.getD,hi]];omega
theorem Mv(l:List Int)(v:Value)(hp:Hp)(hR:RdL cI 1 hp [] v l):FnT Tryz.prog 46 #[v] hp [] (fun r h' ms'=>hp.le h'/\O6 h' r ms' (fun o=>∃ll:List (List Int),ll.length<=l.length/\(∀s∈ll,s.length<=4)/\o=DY ll)):=by
 have ov:=hR.rd.one;refine Ap func46 ntmps46 rfl rfl (fun w0 hw0=>?_);simp only[AU];refine Au (CN [.slice none 0 0] rfl AV rfl rfl (fun g2=>BL (Qm rfl (Al (Ac (Au (Qm rfl (Al (Af (BG ?_))))))))))
 refine Ax (fun q sl h' ms'=>∃(i:Nat) (v3:Value) (m3:Hp) (es:List Value) (ll:List (List Int)),q=12-i/\sl=[(0,v),(2,.pointer (some ⟨g2,0,none⟩)),(3,v3),(4,.int .i64 i)]/\hp.le h'/\ms'=[m3,Bi g2 29 [.slice none 0 0]]/\i<=12/\i<=l.length/\OwnL cW 1 22 m3 v3 es/\RdEs h' es ll/\ll.length=i/\∀s∈ll,s.length<=4)
  (12-0) _ ⟨0,_,Hp.emp,[],[],rfl,rfl,DU,rfl,by omega,by omega,OwnL.nil Dl,RdEs.nil _,rfl,nofun⟩ Qs ?_
 rintro q sl h' ms' ⟨i,v3,m3,es,ll,rfl,rfl,lh,rfl,hi,hil,hO,hE,hll,h4⟩;have hR:=hR.up lh;have hel:=hE.1;have ov3:=hO.o1;refine Ac (Au (Qm rfl (Qm rfl (Qx (Ar hR.rd.any rfl AR rfl) rfl (Qm rfl (Qm rfl ?_))))));refine AS (t:=11) rfl (fun h1=>?_) (fun h1=>?_)
 ·refine Qg (AA rfl rfl) rfl (Qg (CZ rfl rfl rfl) rfl (Qm rfl (Al ?_)));refine Av rfl (fun h2=>?_) (fun h2=>?_)
  ·have hin:i<l.length:=by omega
   obtain⟨x,hx⟩:∃x,l[i]=x:=⟨_,rfl⟩
   have cx:∀ms,Cell h' ms ((AF v).add (i*1)) (.int .i64 x):=fun ms=>by rw[<-hx];exact(hR.any (ms:=ms)).cell0 hin rfl
   refine Ag (Ab (Ac (Af (Au (Qm rfl (Al (BG ?_)))))));refine Bb (fun sl h'' ms'=>∃(v5:Value) (m5:Hp) (s:List Int),sl=[(0,v),(2,.pointer (some ⟨g2,0,none⟩)),(3,v3),(4,.int .i64 i),(5,v5)]/\h'=h''/\ms'=[m5,m3,Bi g2 29 [.slice none 0 0]]/\OwnL cI 1 3 m5 v5 s/\s.length<=4) ?_ (fun s h ms hI=>?_)
   ·refine Ac (Ad (Qm rfl (Al (Af ?_))))
    refine Ax (fun q sl h'' ms'=>∃(j:Nat) (v5:Value) (m5:Hp) (s:List Int),q=6-j/\sl=[(0,v),(2,.pointer (some ⟨g2,0,none⟩)),(3,v3),(4,.int .i64 i),(5,v5),(6,.int .i64 j)]/\h'=h''/\ms'=[m5,m3,Bi g2 29 [.slice none 0 0]]/\j<=6/\OwnL cI 1 3 m5 v5 s/\s.length<=4)
     (6-0) _ ⟨0,_,Hp.emp,[],rfl,rfl,rfl,rfl,by omega,OwnL.nil Bl,by simp⟩ Qs ?_
    rintro q sl h'' ms' ⟨j,v5,m5,s,rfl,rfl,rfl,rfl,hj,hO5,hs4⟩;have ov5:=hO5.o1;refine Ac (Au (Qm rfl (Qm rfl (Qm rfl ?_))));refine AS (t:=19) rfl (fun hj1=>?_) (fun hj1=>?_)
    ·refine Qg (AA rfl rfl) rfl (Qg (DO (hO5.rd (h:=h') (ms:=[m5]) Mh).rd rfl AR rfl) rfl (Qg (CZ rfl rfl rfl) rfl (Qm rfl (Al ?_))));refine Av rfl (fun hj2=>?_) (fun hj2=>?_)
     ·refine Ag (Ab (Ac (Af (Au (Qm rfl (Qm rfl (Qx (BU (i) hR.rd.any rfl AR Be rfl rfl) rfl (Ql rfl U3 (cx _) (Qm rfl (Qx (W3 (n:=j) rfl rfl rfl (by omega)) rfl (Qx (WE rfl rfl rfl) rfl (Qm rfl (Al ?_)))))))))))));refine Av rfl (fun hbit=>?_) (fun hbit=>?_)
      ·refine Ad (Qm rfl (Qm rfl (An [_] rfl AR Be rfl (by rfl) rfl rfl (by omega) rfl rfl rfl (fun g36=>AQ 1 hO5 (RdL.one Bl (x:=(j:Int)) Mh rfl) rfl AR Be rfl (by omega) rfl rfl rfl Cm (by(try simp only[length_singleton]);omega) (by(try simp only[length_singleton]);omega) rfl rfl rfl (fun v9 m9 hO9=>?_)))));have ov9:=hO9.o1;refine Qm rfl (Aj (Ai (Ab (Ad (Qm rfl (Qx (oA rfl) rfl (Qm rfl (Aj (AL ?_)))))))));exact Ak (6-(j+1)) _ (by omega) ⟨j+1,v9,m9,_,rfl,rfl,rfl,rfl,by omega,hO9,by rw[length_append,length_singleton];omega⟩ Qs
      ·refine Ag (Ai (Ab (Ad (Qm rfl (Qx (oA rfl) rfl (Qm rfl (Aj ?_)))))));exact Ak (6-(j+1)) _ (by omega) ⟨j+1,v5,m5,s,rfl,rfl,rfl,rfl,by omega,hO5,hs4⟩ Qs
     ·refine As (Aa (Aa (Ae ?_)));exact AC _ ⟨v5,m5,s,rfl,rfl,rfl,hO5,hs4⟩ Qs
    ·refine Qk rfl (Qk rfl (Qk rfl (Qm rfl (Al (AM rfl (As (Aa (Aa (Ae ?_)))))))));exact AC _ ⟨v5,m5,s,rfl,rfl,rfl,hO5,hs4⟩ Qs
   ·obtain⟨v5,m5,s,rfl,rfl,rfl,hO5,hs4⟩:=hI;refine Bd fun h6 l6 k6=>?_;have hS:=hO5.rdh (ms:=[]) k6;have oS_:=hS.rd.one;refine Ad (Qm rfl (Qm rfl (An [_] rfl B7 Cb rfl ((RdL.rd ‹_›).cells) rfl rfl (by omega) rfl rfl rfl (fun g40=>?_))));refine AZ 1 hO (RdL.one Dl (x:=v5) Mh rfl) rfl B7 Cb rfl (by omega) rfl rfl rfl (F6 fun u hu=>by rw[List.mem_singleton.1 hu];exact oS_) (by(try simp only[length_singleton]);omega) (by(try simp only[length_singleton]);omega) rfl rfl rfl (fun v9 m9 hO9=>?_);have ov9:=hO9.o1;refine Qm rfl (Aj (Ai (Ab (Ad (Qm rfl (Qx (oA rfl) rfl (Qm rfl (Aj (AL ?_)))))))))
    exact Ak (12-(i+1)) _ (by omega) ⟨i+1,v9,m9,_,ll++[s],rfl,rfl,AI lh l6,rfl,by omega,by omega,hO9,(hE.up l6).snoc hS,by rw[length_append,hll];rfl,fun u hu=>by
     rcases List.mem_append.1 hu with h|h
     ·exact h4 u h
     ·rw[List.mem_singleton.1 h];exact hs4⟩ Qs
  ·refine Bd fun h6 l6 k6=>?_;have hV:=hO.rdh (ms:=[]) k6;have hE:=hE.up l6;refine As (Aa (Aa (Ae (Ab (Au (Qm rfl ?_))))));refine Qc call104 rfl (Ha ll es v3 h6 (by omega) (fun s hs=>by have:=h4 s hs;omega) hV hE) (fun rC h7 ms7 l7 hF=>?_);obtain⟨l7',m,A,vA,rfl,rfl,hOA,hA,hs⟩:=hF;have ovA:=hOA.o1;refine Sa 1 [_] AV rfl (by simp[ov,ov3,ovA]) ?_;refine Al (Ao ?_);exact Bs (vs:=[_]) 1 rfl rfl CM rfl AV rfl rfl (⟨AI lh (AI l6 l7'),m,A,_,rfl,rfl,hOA,⟨ll,by omega,h4,hA⟩,hs⟩)
 ·refine Qk rfl (Qk rfl (Qm rfl (Al (AM rfl (As (Aa (Aa (Ae (Ab (Bd fun h6 l6 k6=>?_))))))))));have hV:=hO.rdh (ms:=[]) k6;have hE:=hE.up l6;refine Au (Qm rfl ?_);refine Qc call104 rfl (Ha ll es v3 h6 (by omega) (fun s hs=>by have:=h4 s hs;omega) hV hE) (fun rC h7 ms7 l7 hF=>?_);obtain⟨l7',m,A,vA,rfl,rfl,hOA,hA,hs⟩:=hF;have ovA:=hOA.o1;refine Sa 1 [_] AV rfl (by simp[ov,ov3,ovA]) ?_;refine Al (Ao ?_);exact Bs (vs:=[_]) 1 rfl rfl CM rfl AV rfl rfl (⟨AI lh (AI l6 l7'),m,A,_,rfl,rfl,hOA,⟨ll,by omega,h4,hA⟩,hs⟩)
variable {o:List Cl}
structure CxQ(K:Int)(o:List Cl):Prop where
 r:Rgt o
 n:o.length<=80
 i:∀x∈o,x.id<=K
 d:∀x∈o,x.dim<=7
theorem Q7:∀n,n<10->∀x∈NF (EG n),x.dim<=7:=by decide
theorem CxQ.spa(n:Nat)(h:n<10):CxQ 900 (NF (EG n)):=by have h1:=(JK n h).1;exact⟨MO n h,by rw[MM];omega,fun x hx=>by have:=(K5 x hx).2;omega,Q7 n h⟩
theorem CxQ.simp{ll:List (List Int)}(h1:ll.length<=5)(h4:∀l∈ll,l.length<=4):CxQ 900 (DY ll):=by have h2:=Tm h4;exact⟨TN ll,by omega,fun x hx=>by have:=Xu ll x hx;omega,TY h4⟩
theorem CxQ.gone{K:Int}(Q:CxQ K o){c:Int}(h:c∈HK (ordF o)):CxQ K (o.filter fun x=>decide (x.id≠c)):=by refine⟨Q.r.gone fun y hy s hs e=>?_,Nat.le_trans (List.length_filter_le _ _) Q.n,fun x hx=>Q.i x (List.mem_filter.1 hx).1,fun x hx=>Q.d x (List.mem_filter.1 hx).1⟩;have hc:y.can∈ordF o:=(De o.length o (Nat.le_refl _)).mem_iff.2 (List.mem_map.2 ⟨y,hy,rfl⟩);exact Ur h _ hc s ((BB y.sd).mem_iff.2 hs) e
theorem CxQ.beside(Q:CxQ 900 o)(hn:o.length<26){m:Int}(h0:0<=m)(hM:∀x∈o,x.id<=m)(hK:m<=900)(n:Nat)(h:n<5):CxQ 1000 (o++(NF (EG n)).map (UN m)):=by
 have h1:=(JK n (by omega)).2 h;have hl:=MM (EG n);refine⟨Q.r.union ((MO n (by omega)).shift h0) (fun x hx y hy=>?_) (by rw[length_map];omega),by rw[length_append,length_map];omega,fun x hx=>?_,fun x hx=>?_⟩
 ·obtain⟨z,hz,rfl⟩:=List.mem_map.1 hy;have:=hM x hx;have:=(K5 z hz).1;show x.id≠z.id+m;omega
 ·rcases List.mem_append.1 hx with h|h
  ·have:=Q.i x h;omega
  ·obtain⟨z,hz,rfl⟩:=List.mem_map.1 h;have:=(K5 z hz).2;show z.id+m<=1000;omega
 ·rcases List.mem_append.1 hx with h'|h'
  ·exact Q.d x h'
  ·obtain⟨z,hz,rfl⟩:=List.mem_map.1 h';exact Q7 n (by omega) z hz
theorem CxQ.up(Q:CxQ 900 o):CxQ 1000 o:=⟨Q.r,Q.n,fun x hx=>by have:=Q.i x hx;omega,Q.d⟩
theorem CxQ.rg{K:Int}(hK:K<=1000000){A:List Ce}(Q:CxQ K (A.map Ce.c)):RgC A:=⟨Q.r,fun a ha=>by have:=Q.i _ (List.mem_map.2 ⟨a,ha,rfl⟩);omega⟩
theorem CxQ.ids{A:List Ce}(Q:CxQ 900 (A.map Ce.c)){a:Ce}(ha:a∈A):-1000000<=a.c.id/\a.c.id<=900:=by have hm:a.c∈A.map Ce.c:=List.mem_map.2 ⟨a,ha,rfl⟩;have:=Q.i _ hm;have:=Q.r.pos _ hm;omega
theorem Re{B:List Ce}{n:Int}(hB:B.map Ce.c=NF (EG (n%10).toNat))(hn:0<=n/\n<10):B.length<=1000:=by have h1:=congrArg List.length hB;rw[length_map,MM]at h1;have:=(JK (n%10).toNat (by omega)).1;omega
theorem TK{B:List Ce}{n:Int}(hB:B.map Ce.c=NF (EG (n%10).toNat))(hn:0<=n/\n<10){b:Ce}(hb:b∈B):(-1000000<=b.c.id/\b.c.id<=1000000)/\b.c.sd.length<=100/\∀s∈b.c.sd,-1000000<=s.1/\s.1<=1000000:=by
 have hm:b.c∈NF (EG (n%10).toNat):=by rw[<-hB];exact List.mem_map.2 ⟨b,hb,rfl⟩
 have R:=MO (n%10).toNat (by omega);have hl:=(JK (n%10).toNat (by omega)).1;have h1:=K5 _ hm;refine⟨by omega,by have:=(R.bds hm).2;omega,fun s hs=>?_⟩;obtain⟨y,hy,e,_⟩:=R.sid _ hm s hs;have h2:=K5 _ hy;omega
theorem B8{P:Program}{o:Oper}{s:Aw}{h:Hp}{ms:List Hp}{v v':Value}(hx:OX P o s h ms v)(e:v=v'):OX P o s h ms v':=e ▸ hx
theorem Py(sp be:Nat)(L:List Int)(G:List Nat)(vL vG:Value)(hp:Hp)(hsp:sp<256)(hbe:be<256)(hG:∀g∈G,g<256)(hL:RdL cI 1 hp [] vL L)(hRG:RdL (fun g=>[.int .u8 (g:Nat)]) 1 hp [] vG G):FnT Tryz.prog 13 #[.agg #[.int .u8 sp,vL,vG,.int .u8 be]] hp [] (fun r h' ms'=>hp.le h'/\O6 h' r ms' (CxQ 1000)):=by
 have oL_:=hL.rd.one;have oG_:=hRG.rd.one;refine Ap func13 ntmps13 rfl rfl (fun w0 hw0=>?_);simp only[AU];refine Au (AX [_,_,_,_] rfl rfl (by rfl) rfl rfl rfl (fun g1=>CN [.slice none 0 0] rfl AV rfl rfl (fun g2=>Al (Bo 1 rfl fun h1 l1 hS=>?_))));have hL:=hL.up l1;have hRG:=hRG.up l1;have s0:∀{h},h1.le h->∀ms,Cell h ms (⟨g1,0,none⟩:Addr) (.int .u8 sp):=fun l ms=>Seg.all (hS.le l) 0 _ rfl ms;have s1:∀{h},h1.le h->∀ms,Cell h ms (⟨g1,1,none⟩:Addr) vL:=fun l ms=>Seg.all (hS.le l) 1 _ rfl ms;have s2:∀{h},h1.le h->∀ms,Cell h ms (⟨g1,2,none⟩:Addr) vG:=fun l ms=>Seg.all (hS.le l) 2 _ rfl ms;have s3:∀{h},h1.le h->∀ms,Cell h ms (⟨g1,3,none⟩:Addr) (.int .u8 be):=fun l ms=>Seg.all (hS.le l) 3 _ rfl ms;refine Au (Qf Tg rfl (Ql rfl U5 (s0 (DU) _) (Qx (H2 rfl U5 U3 rfl (CE (by omega))) rfl ?_)));refine Qc call45 rfl (Io sp h1 (by unfold BC;omega)) (fun rc h2 ms2 l2 hF=>?_);obtain⟨l2',mC,A,vC,rfl,rfl,hOC,hA,hAs⟩:=hF;have hQ:CxQ 900 (A.map Ce.c):=by rw[hA];exact CxQ.spa _ (by omega)
 have oC:=hOC.o1;refine CN [.slice none 0 0] rfl AV rfl rfl (fun g3=>?_);refine Sa 0 [_] AV rfl (by simp[oL_,oG_,oC]) ?_;refine Al ?_;refine Bb (fun sl h' ms'=>∃(vC:Value) (mC:Hp) (A:List Ce),sl=[(1,.pointer (some ⟨g1,0,none⟩)),(2,.pointer (some ⟨g2,0,none⟩)),(3,.pointer (some ⟨g3,0,none⟩))]/\h1.le h'/\ms'=[Bi g3 29 [vC],mC,Bi g2 29 [.slice none 0 0]]/\OwnL cC 3 52 mC vC A/\CxQ 900 (A.map Ce.c)/\∀a∈A,RdL cD 2 h' [] a.v a.c.sd) ?_ (fun s h ms hI=>?_)
 ·have hL2:=hL.up l2';obtain⟨k,hk⟩:∃k:Nat,min (L.length:Int) 5=k:=⟨min L.length 5,by omega⟩
  have hkl:k<=L.length/\k<=5:=by omega
  have hSub:RdL cI 1 h2 [] (BS 1 vL 0 k) (L.take k):=by have:=hL2.sub_ (i:=0) (j:=k) (by omega) hkl.1;simpa using this
  refine Au (Qf Tg rfl (Ql rfl U5 (s0 l2' _) (Qx (BM rfl rfl rfl (by omega) (by omega)) rfl (Qm rfl (Al ?_)))));refine Av rfl (fun h26=>?_) (fun h26=>?_)
  ·refine Ad (Qf VY rfl (Ql rfl AR (s1 l2' _) (Qf VY rfl (Ql rfl AR (s1 l2' _) (Qx (Ar hL2.rd.any rfl AR rfl) rfl (Qx (PS rfl rfl rfl) rfl (Qx (E7 (k) hL2.rd.any rfl AR Be rfl rfl (by omega) (by omega)) rfl (Qc call46 rfl (Mv (L.take k) _ h2 hSub) (fun rs h3 ms3 l3 hF=>?_)))))))));obtain⟨l3',mS,B,vB,rfl,rfl,hOB,⟨ll,hll,h4,hB⟩,hBs⟩:=hF;have hQB:CxQ 900 (B.map Ce.c):=by rw[hB];exact CxQ.simp (by rw[length_take]at hll;omega) h4
   have oB:=hOB.o1;refine Sa 1 [_] AV rfl (by simp[oL_,oG_,oC,oB]) ?_;refine Aj (A8 2 rfl (Ck 1 rfl ?_));exact AC _ ⟨vB,mS,B,rfl,AI l2' l3',rfl,hOB,hQB,hBs⟩ Qs
  ·refine Ag ?_;exact AC _ ⟨vC,mC,A,rfl,l2',rfl,hOC,hQ,hAs⟩ Qs
 ·obtain⟨vC,mC,A,rfl,l3,rfl,hOC,hQ,hAs⟩:=hI;refine Bb (fun sl h' ms'=>∃(vC:Value) (mC:Hp) (A:List Ce),sl=[(1,.pointer (some ⟨g1,0,none⟩)),(2,.pointer (some ⟨g2,0,none⟩)),(3,.pointer (some ⟨g3,0,none⟩))]/\h1.le h'/\ms'=[Bi g3 29 [vC],mC,Bi g2 29 [.slice none 0 0]]/\OwnL cC 3 52 mC vC A/\CxQ 900 (A.map Ce.c)/\∀a∈A,RdL cD 2 h' [] a.v a.c.sd) ?_ (fun s h ms hI=>?_)
  ·refine Ac (Ad (Qm rfl (Al (Af ?_))))
   refine Ax (fun q sl h' ms'=>∃(i:Nat) (vC:Value) (mC:Hp) (A:List Ce),q=6-i/\sl=[(1,.pointer (some ⟨g1,0,none⟩)),(2,.pointer (some ⟨g2,0,none⟩)),(3,.pointer (some ⟨g3,0,none⟩)),(4,.int .i64 i)]/\h1.le h'/\ms'=[Bi g3 29 [vC],mC,Bi g2 29 [.slice none 0 0]]/\i<=6/\OwnL cC 3 52 mC vC A/\CxQ 900 (A.map Ce.c)/\∀a∈A,RdL cD 2 h' [] a.v a.c.sd)
    (6-0) _ ⟨0,vC,mC,A,rfl,rfl,l3,rfl,by omega,hOC,hQ,hAs⟩ Qs ?_
   rintro q sl h' ms' ⟨i,vC,mC,A,rfl,rfl,lh,rfl,hi,hOC,hQ,hAs⟩;have hRG:=hRG.up lh;have hAn:=hQ.n;rw[length_map]at hAn;have oC:=hOC.o1;refine Ac (Au (Qm rfl (Qf TX rfl (Ql rfl VW (s2 lh _) (Qx (Ar hRG.rd.any rfl VW rfl) rfl (Qm rfl (Qm rfl ?_)))))));refine AS (t:=30) rfl (fun ha=>?_) (fun ha=>?_)
   ·refine Qg (AA rfl rfl) rfl (Qg (CZ rfl rfl rfl) rfl (Qm rfl (Qm rfl ?_)));refine AS (t:=34) rfl (fun hb=>?_) (fun hb=>?_)
    ·refine Qg (oF BW rfl) rfl (Qg (oL rfl Bk (Cell.blk 0 rfl rfl)) rfl (Qg (DO (hOC.rd (h:=h') (ms:=[Bi g3 29 [vC],mC,Bi g2 29 [.slice none 0 0]]) (.tail _ (.head _))).rd rfl Bk rfl) rfl (Qg (CK rfl rfl rfl) rfl (Qm rfl (Al ?_)))));refine Av rfl (fun hc=>?_) (fun hc=>?_)
     ·have hil:i<G.length:=by omega
      have hA1:1<A.length:=by omega
      refine DN 1 rfl (Bd fun h5 l5 k5=>?_);have hRC:RdC h5 vC A:=⟨hOC.rdh (ms:=[]) k5,fun a ha=>(hAs a ha).up l5⟩
      have hKA:RgC A:=hQ.rg (by decide);have l15:=AI lh l5;have hRG:=hRG.up l5;refine Ag (Ab (Ac (Af (Au (Qx (oG rfl CM AV (Seg.blk 0 rfl)) rfl (Qc call47 rfl (Xd A vC h5 hKA hRC) (fun rt h6 ms6 l6 hF=>?_)))))));obtain⟨l6',mT,rfl,hOT⟩:=hF
      have hTn:HK (cn A)≠[]:=XS hKA.F.rgt fun e=>by have h1:=Dy A;rw[e]at h1;simp at h1;omega
      obtain⟨T,hT⟩:∃T,HK (cn A)=T:=⟨_,rfl⟩
      rw[hT]at hOT hTn;have hTl:0<T.length:=List.length_pos_iff.2 hTn
      have hTm:T.length<=4000:=by rw[<-hT];unfold HK;rw[length_map];exact Nat.le_trans (List.length_filter_le _ _) hKA.F.rgt.n
      have oT:=hOT.o1;obtain⟨gg,hgg⟩:∃gg,G[i]=gg:=⟨_,rfl⟩
      have hgb:=hG gg (by rw[<-hgg];exact getElem_mem hil);have hRG:=hRG.up l6;have hRC:=hRC.up l6;have cg:∀ms,Cell h6 ms ((AF vG).add (i*1)) (.int .u8 gg):=fun ms=>by rw[<-hgg];exact(hRG.any (ms:=ms)).cell0 hil rfl
      obtain⟨z,hz⟩:∃z:Nat,(gg:Int)%(T.length:Int)=z:=⟨gg%T.length,by omega⟩
      have hzT:z<T.length:=by have:=Int.emod_lt_of_pos (gg:Int) (b:=(T.length:Int)) (by omega);omega
      obtain⟨id,hid⟩:∃id,T[z]=id:=⟨_,rfl⟩
      have hidT:id∈HK (cn A):=by rw[hT,<-hid];exact getElem_mem hzT
      refine Qm rfl (Al (Bq hOT fun h7 l7 hQT=>?_));have hRG:=hRG.up l7;have hRC:=hRC.up l7;have l17:=AI l15 (AI l6 l7);have cid:∀ms,Cell h7 ms ((AF rt).add (z*1)) (.int .i64 id):=fun ms=>by rw[<-hid];exact(hQT.any (ms:=ms)).cell0 hzT rfl
      have cg:=fun ms=>(cg ms).le l7;refine Au (Qm rfl (Qf TX rfl (Ql rfl VW (s2 l17 _) (Qm rfl (Qx (BU (i) hRG.rd.any rfl VW el5 rfl rfl) rfl (Ql rfl U5 (cg _) (Qx (H2 rfl U5 U3 rfl (CE (by omega))) rfl (Qm rfl (Qx (Ar hQT.rd.any rfl AR rfl) rfl (Qx (BM rfl rfl rfl (by omega) (by omega)) rfl (Qx (BU (z) hQT.rd.any rfl AR Be rfl rfl) rfl (Ql rfl U3 (cid _) (Qm rfl (BL (CN [.slice none 0 0] rfl AV rfl rfl (fun g7=>Al (BG ?_)))))))))))))))));refine Bb (fun sl h' ms'=>∃(v7:Value) (m7:Hp) (O:List Ce),sl=[(1,.pointer (some ⟨g1,0,none⟩)),(2,.pointer (some ⟨g2,0,none⟩)),(3,.pointer (some ⟨g3,0,none⟩)),(4,.int .i64 i),(7,.pointer (some ⟨g7,0,none⟩))]/\h7=h'/\ms'=[m7,Bi g7 29 [v7],Bi g3 29 [vC],Bi g2 29 [.slice none 0 0]]/\OwnL cC 3 52 m7 v7 O/\O.map Ce.c=(A.map Ce.c).filter (fun x=>decide (x.id≠id))/\∀a∈O,RdL cD 2 h' [] a.v a.c.sd) ?_ (fun s h ms hI=>?_)
      ·refine Ac (Ad (Qm rfl (Al (Af ?_))))
       refine Ax (fun q sl h' ms'=>∃(j:Nat) (v7:Value) (m7:Hp) (O:List Ce),q=A.length-j/\sl=[(1,.pointer (some ⟨g1,0,none⟩)),(2,.pointer (some ⟨g2,0,none⟩)),(3,.pointer (some ⟨g3,0,none⟩)),(4,.int .i64 i),(6,.int .i64 id),(7,.pointer (some ⟨g7,0,none⟩)),(8,.int .i64 j)]/\h7=h'/\ms'=[m7,Bi g7 29 [v7],Bi g3 29 [vC],Bi g2 29 [.slice none 0 0]]/\j<=A.length/\OwnL cC 3 52 m7 v7 O/\O.map Ce.c=((A.take j).map Ce.c).filter (fun x=>decide (x.id≠id))/\∀a∈O,RdL cD 2 h' [] a.v a.c.sd)
        (A.length-0) _ ⟨0,_,Hp.emp,[],rfl,rfl,rfl,rfl,by omega,OwnL.nil Cc,rfl,nofun⟩ Qs ?_
       rintro q sl h' ms' ⟨j,v7,m7,O,rfl,rfl,rfl,rfl,hj,hO7,hOc,hOs⟩
       have hOl:O.length<=80:=by have h1:=congrArg List.length hOc;rw[length_map]at h1;rw[h1];exact Nat.le_trans (List.length_filter_le _ _) (by rw[length_map,length_take];omega)
       have ov7:=hO7.o1;refine Ac (Au (Qm rfl (Qf BW rfl (Ql rfl Bk (Cell.blk 2 rfl rfl) (Qx (Ar hRC.q.rd.any rfl Bk rfl) rfl (Qm rfl (Al ?_)))))));refine Av rfl (fun hjl=>?_) (fun hjl=>?_)
       ·have hjn:j<A.length:=by omega
        obtain⟨x,hx⟩:∃x,A[j]=x:=⟨_,rfl⟩
        have hX:=hRC.s x (by rw[<-hx];exact getElem_mem hjn);have oX:=hX.rd.one;have cx:∀ms,Cell h7 ms (((AF vC).add (j*3)).add 0) (.int .i64 x.c.id):=fun ms=>by rw[<-hx];exact(hRC.q.any (ms:=ms)).cell (j:=j) hjn (f:=0) rfl
        have sx:∀ms,Seg h7 ms ((AF vC).add (j*3)) (cC x):=fun ms=>by rw[<-hx];exact(hRC.q.any (ms:=ms)).seg hjn
        have hsn:((A.take (j+1)).map Ce.c).filter (fun x=>decide (x.id≠id))=((A.take j).map Ce.c).filter (fun x=>decide (x.id≠id))++if x.c.id≠id then [x.c] else []:=by rw[take_succ_eq_append_getElem hjn,map_append,filter_append,hx];congr 1;by_cases h:x.c.id=id<;>simp[filter_cons,h]
        refine Ag (Ab ?_);refine Bb (fun sl h' ms'=>∃(v7:Value) (m7:Hp) (O:List Ce),sl=[(1,.pointer (some ⟨g1,0,none⟩)),(2,.pointer (some ⟨g2,0,none⟩)),(3,.pointer (some ⟨g3,0,none⟩)),(4,.int .i64 i),(6,.int .i64 id),(7,.pointer (some ⟨g7,0,none⟩)),(8,.int .i64 j)]/\h7=h'/\ms'=[m7,Bi g7 29 [v7],Bi g3 29 [vC],Bi g2 29 [.slice none 0 0]]/\OwnL cC 3 52 m7 v7 O/\O.map Ce.c=((A.take (j+1)).map Ce.c).filter (fun x=>decide (x.id≠id))/\∀a∈O,RdL cD 2 h' [] a.v a.c.sd) ?_ (fun s h ms hI=>?_)
        ·refine Af (Au (Qf BW rfl (Ql rfl Bk (Cell.blk 2 rfl rfl) (Qm rfl (Qx (BU (j) hRC.q.rd.any rfl Bk AH rfl rfl) rfl (Qf By rfl (Ql rfl U3 (cx _) (Qm rfl (Qm rfl (Al ?_))))))))));refine Av rfl (fun hne=>?_) (fun hne=>?_)
         ·refine BE (n:=11) (bs:=[true,false,true,false,true,false,false,false,false,true,false]) [true,false,true,false,true,false,false,false,false,true] CY (by kernel_rfl) (by kernel_rfl) rfl rfl (QF BW rfl (QF BW rfl (Qq rfl (QF BW rfl ?_))));unfold Fy;simp only[cons_append,nil_append];refine A5 [1,3] (by kernel_rfl) rfl ?_;refine Ay rfl ?_ ?_
          ·refine Ql rfl Bk (Cell.blk 1 rfl rfl) (Qw (Qo 3 rfl (Ql rfl Bk (Cell.blk 2 rfl rfl) (Qw (CT 5 76 (by kernel_rfl) rfl (DU) rfl (BU (j) hRC.q.rd.any rfl Bk AH rfl rfl) (Qo 6 rfl (Qx (oG rfl EL AH (sx _)) rfl (Qw (Qo 7 rfl (An [_,_,_] rfl Bk AH rfl (by rfl) rfl rfl (by omega) rfl rfl rfl (fun g78=>Qw (Qo 8 rfl ?_))))))))))));refine AZ 1 hO7 (RdL.one Cc (x:=x) Mh rfl) rfl Bk AH rfl (by omega) rfl rfl rfl (C0 (l:=[x]) (h:=h7) fun y hy=>by rw[List.mem_singleton.1 hy];exact hX) (by(try simp only[length_singleton]);omega) (by(try simp only[length_singleton]);omega) rfl rfl rfl (fun v9 m9 hO9=>?_);have ov9:=hO9.o1;refine Qw (Qo 10 rfl ?_);refine AK 2 _ rfl Jt rfl rfl (by assumption) rfl rfl (by(simp;done)) rfl rfl ?_;refine Qw (Qe (AL (Ai ?_)));exact AC _ ⟨v9,m9,O++[x],rfl,rfl,rfl,hO9,by rw[hsn,if_pos hne,map_append,hOc];rfl,RdC.snoc' hOs hX⟩ Qs
          refine Ay rfl ?_ ?_
          ·refine Ql rfl Bk (Cell.blk 2 rfl rfl) (Qw (CT 5 76 (by kernel_rfl) rfl (DU) rfl (BU (j) hRC.q.rd.any rfl Bk AH rfl rfl) (A5 [1,6] (by kernel_rfl) rfl ?_)));refine Ay rfl ?_ ?_
           ·refine Ql rfl Bk (Cell.blk 1 rfl rfl) (Qw (Qo 6 rfl (Qx (oG rfl EL AH (sx _)) rfl (Qw (Qo 7 rfl (An [_,_,_] rfl Bk AH rfl (by rfl) rfl rfl (by omega) rfl rfl rfl (fun g78=>Qw (Qo 8 rfl ?_))))))));refine AZ 1 hO7 (RdL.one Cc (x:=x) Mh rfl) rfl Bk AH rfl (by omega) rfl rfl rfl (C0 (l:=[x]) (h:=h7) fun y hy=>by rw[List.mem_singleton.1 hy];exact hX) (by(try simp only[length_singleton]);omega) (by(try simp only[length_singleton]);omega) rfl rfl rfl (fun v9 m9 hO9=>?_);have ov9:=hO9.o1;refine Qw (Qo 10 rfl ?_);refine AK 2 _ rfl Jt rfl rfl (by assumption) rfl rfl (by(simp;done)) rfl rfl ?_;refine Qw (Qe (AL (Ai ?_)));exact AC _ ⟨v9,m9,O++[x],rfl,rfl,rfl,hO9,by rw[hsn,if_pos hne,map_append,hOc];rfl,RdC.snoc' hOs hX⟩ Qs
           refine Ay rfl ?_ ?_
           ·refine Qx (oG rfl EL AH (sx _)) rfl (Qw (A5 [1,7] (by kernel_rfl) rfl ?_));refine Ay rfl ?_ ?_
            ·refine Ql rfl Bk (Cell.blk 1 rfl rfl) (Qw (Qo 7 rfl (An [_,_,_] rfl Bk AH rfl (by rfl) rfl rfl (by omega) rfl rfl rfl (fun g78=>Qw (Qo 8 rfl ?_)))));refine AZ 1 hO7 (RdL.one Cc (x:=x) Mh rfl) rfl Bk AH rfl (by omega) rfl rfl rfl (C0 (l:=[x]) (h:=h7) fun y hy=>by rw[List.mem_singleton.1 hy];exact hX) (by(try simp only[length_singleton]);omega) (by(try simp only[length_singleton]);omega) rfl rfl rfl (fun v9 m9 hO9=>?_);have ov9:=hO9.o1;refine Qw (Qo 10 rfl ?_);refine AK 2 _ rfl Jt rfl rfl (by assumption) rfl rfl (by(simp;done)) rfl rfl ?_;refine Qw (Qe (AL (Ai ?_)));exact AC _ ⟨v9,m9,O++[x],rfl,rfl,rfl,hO9,by rw[hsn,if_pos hne,map_append,hOc];rfl,RdC.snoc' hOs hX⟩ Qs
            refine Ay rfl ?_ ?_
            ·refine An [_,_,_] rfl Bk AH rfl (by rfl) rfl rfl (by omega) rfl rfl rfl (fun g78=>Qw (Qo 1 rfl (Ql rfl Bk (Cell.blk 2 rfl rfl) (Qw (Qo 8 rfl ?_)))));refine AZ 1 hO7 (RdL.one Cc (x:=x) Mh rfl) rfl Bk AH rfl (by omega) rfl rfl rfl (C0 (l:=[x]) (h:=h7) fun y hy=>by rw[List.mem_singleton.1 hy];exact hX) (by(try simp only[length_singleton]);omega) (by(try simp only[length_singleton]);omega) rfl rfl rfl (fun v9 m9 hO9=>?_);have ov9:=hO9.o1;refine Qw (Qo 10 rfl ?_);refine AK 2 _ rfl Jt rfl rfl (by assumption) rfl rfl (by(simp;done)) rfl rfl ?_;refine Qw (Qe (AL (Ai ?_)));exact AC _ ⟨v9,m9,O++[x],rfl,rfl,rfl,hO9,by rw[hsn,if_pos hne,map_append,hOc];rfl,RdC.snoc' hOs hX⟩ Qs
            exact A4
           exact A4
          exact A4
         ·refine Ag (Ai ?_);exact AC _ ⟨v7,m7,O,rfl,rfl,rfl,hO7,by rw[hsn,if_neg hne,append_nil];exact hOc,hOs⟩ Qs
        ·obtain⟨v7,m7,O,rfl,rfl,rfl,hO7,hOc,hOs⟩:=hI;refine Ad (Qm rfl (Qx (oA rfl) rfl (Qm rfl (Aj ?_))));exact Ak (A.length-(j+1)) _ (by omega) ⟨j+1,v7,m7,O,rfl,rfl,rfl,rfl,by omega,hO7,hOc,hOs⟩ Qs
       ·obtain rfl:j=A.length:=by omega
        refine As (Aa (Aa (Ae ?_)));exact AC _ ⟨v7,m7,O,rfl,rfl,rfl,hO7,by rw[hOc,take_length],hOs⟩ Qs
      ·obtain⟨v7,m7,O,rfl,rfl,rfl,hO7,hOc,hOs⟩:=hI;have ov7:=hO7.o1;have hQ7:CxQ 900 (O.map Ce.c):=by rw[hOc];exact hQ.gone hidT
       refine Ad (Qx (oG rfl CM AV (Seg.blk 1 rfl)) rfl ?_);refine Sa 2 [_] AV rfl (by simp[oL_,oG_,oC,oT,ov7]) ?_;refine Aj (Ai (Ab (Ad (Qm rfl (Qx (oA rfl) rfl (Qm rfl (Aj (A8 1 rfl (Ck 1 rfl ?_)))))))));exact Ak (6-(i+1)) _ (by omega) ⟨i+1,v7,m7,O,rfl,rfl,AI l15 (AI l6 l7),rfl,by omega,hO7,hQ7,hOs⟩ Qs
     ·refine As (Aa (Aa (Ae ?_)));exact AC _ ⟨vC,mC,A,rfl,lh,rfl,hOC,hQ,hAs⟩ Qs
    ·refine Qk rfl (Qk rfl (Qk rfl (Qk rfl (Qm rfl (Al (AM rfl (As (Aa (Aa (Ae ?_))))))))));exact AC _ ⟨vC,mC,A,rfl,lh,rfl,hOC,hQ,hAs⟩ Qs
   ·refine Qk rfl (Qk rfl (Qm rfl (Qm rfl (Qk rfl (Qk rfl (Qk rfl (Qk rfl (Qm rfl (Al (AM rfl (As (Aa (Aa (Ae ?_))))))))))))));exact AC _ ⟨vC,mC,A,rfl,lh,rfl,hOC,hQ,hAs⟩ Qs
  ·obtain⟨vC,mC,A,rfl,lh,rfl,hOC,hQ,hAs⟩:=hI;have hAn:=hQ.n;rw[length_map]at hAn;have oC:=hOC.o1;refine Bb (fun sl h' ms'=>∃(vC:Value) (mC:Hp) (A:List Ce),sl=[(2,.pointer (some ⟨g2,0,none⟩)),(3,.pointer (some ⟨g3,0,none⟩))]/\h1.le h'/\ms'=[Bi g3 29 [vC],mC,Bi g2 29 [.slice none 0 0]]/\OwnL cC 3 52 mC vC A/\CxQ 1000 (A.map Ce.c)/\∀a∈A,RdL cD 2 h' [] a.v a.c.sd) ?_ (fun s h ms hI=>?_)
   ·refine Ac (Ad (Qf Tn rfl (Ql rfl U5 (s3 lh _) (Qx (BM rfl rfl rfl (by omega) (by omega)) rfl (Qm rfl (Qm rfl ?_))))));refine AS (t:=86) rfl (fun hb3=>?_) (fun hb3=>?_)
    ·refine Qg (oF BW rfl) rfl (Qg (oL rfl Bk (Cell.blk 0 rfl rfl)) rfl (Qg (DO (hOC.rd (h:=h) (ms:=[Bi g3 29 [vC],mC,Bi g2 29 [.slice none 0 0]]) (.tail _ (.head _))).rd rfl Bk rfl) rfl (Qg (CZ rfl rfl rfl) rfl (Qm rfl (Al ?_)))));refine Av rfl (fun h26=>?_) (fun h26=>?_)
     ·refine DN 1 rfl (Bd fun h5 l5 k5=>?_);have hRC:RdC h5 vC A:=⟨hOC.rdh (ms:=[]) k5,fun a ha=>(hAs a ha).up l5⟩
      have l15:=AI lh l5;have hd4:(be:Int).tdiv 4=(be:Int)/4:=by rw[Int.tdiv_eq_ediv_of_nonneg (by omega)]
      have hw4:IntKind.u8.wrap ((be:Int).tdiv 4)=(be:Int)/4:=by rw[hd4];simp only[IntKind.wrap,IntKind.bits,IntKind.signed];simp;omega
      obtain⟨z,hz⟩:∃z:Nat,(be:Int)/4%5=z:=⟨be/4%5,by omega⟩
      have hz5:z<5:=by omega
      refine BE (n:=9) (bs:=[false,true,true,true,true,true,false,false,false]) [false,true,true,true,true,true] CY (by kernel_rfl) (by kernel_rfl) rfl rfl (QF Tn rfl (QL rfl U5 (s3 l15 _) (Qp rfl (B8 (Mw rfl rfl rfl (by decide)) (congrArg (Value.int .u8) hw4)) (Qp rfl (H2 rfl U5 U3 rfl (CE (by omega))) (Qp rfl (BM rfl rfl rfl (by omega) (by omega)) ?_)))));unfold Fy;simp only[cons_append,nil_append];refine A5 [0,6] (by kernel_rfl) rfl ?_;refine Ay rfl ?_ ?_
      ·refine Qx (oG rfl CM AV (Seg.blk 0 rfl)) rfl (Qw (Qo 6 rfl ?_));refine Qc call45 rfl (Io ((be:Int)/4%5) h5 (by unfold BC;omega)) (fun rs h6 ms6 l6 hF=>?_);obtain⟨l6',mS,B,vB,rfl,rfl,hOB,hB,hBs⟩:=hF;refine Bw hOB fun h7 l7 hRB=>?_;have l57:=AI l6' l7;have oB:=hRB.rd.one;refine Qa (Qo 7 rfl (Qc call48 rfl (LD A B vC vB 900 (by decide) h7 (hRC.up l57) ⟨hRB,fun a ha=>(hBs a ha).up l7⟩ (by omega) (Re hB (by omega)) (fun a ha=>hQ.ids ha) (fun b hb=>TK hB (by omega) hb)) (fun rb h8 ms8 l8 hF=>?_)));have l58:=AI l57 l8;obtain⟨l8',mD,D,vD,rfl,rfl,hOD,⟨m,hm0,hm1,hmA,hD⟩,hDs⟩:=hF;have oC:=And.intro oC (show vD.oneCell'=true from hOD.o1);refine Qa (Qo 8 rfl ?_);refine Sa 1 [_] AV rfl (by simp[oL_,oG_,oC]) ?_;refine Qa (Qe (Ck 1 rfl ?_));exact AC _ ⟨vD,mD,D,rfl,AI l15 (AI l57 l8'),rfl,hOD,by rw[hD,hB,hz,Int.emod_eq_of_lt (by omega) (by omega),Int.toNat_natCast];exact hQ.beside (by rw[length_map];omega) hm0 (fun x hx=>by obtain⟨a,ha,rfl⟩:=List.mem_map.1 hx;exact hmA a ha) hm1 z hz5,hDs⟩ Qs
      refine Ay rfl ?_ ?_
      ·refine Qc call45 rfl (Io ((be:Int)/4%5) h5 (by unfold BC;omega)) (fun rs h6 ms6 l6 hF=>?_);obtain⟨l6',mS,B,vB,rfl,rfl,hOB,hB,hBs⟩:=hF;refine Bw hOB fun h7 l7 hRB=>?_;have l57:=AI l6' l7;have oB:=hRB.rd.one;refine Qa (Qo 0 rfl (Qx (oG rfl CM AV (Seg.blk 0 rfl)) rfl (Qa (Qo 7 rfl (Qc call48 rfl (LD A B vC vB 900 (by decide) h7 (hRC.up l57) ⟨hRB,fun a ha=>(hBs a ha).up l7⟩ (by omega) (Re hB (by omega)) (fun a ha=>hQ.ids ha) (fun b hb=>TK hB (by omega) hb)) (fun rb h8 ms8 l8 hF=>?_))))));have l58:=AI l57 l8;obtain⟨l8',mD,D,vD,rfl,rfl,hOD,⟨m,hm0,hm1,hmA,hD⟩,hDs⟩:=hF;have oC:=And.intro oC (show vD.oneCell'=true from hOD.o1);refine Qa (Qo 8 rfl ?_);refine Sa 1 [_] AV rfl (by simp[oL_,oG_,oC]) ?_;refine Qa (Qe (Ck 1 rfl ?_));exact AC _ ⟨vD,mD,D,rfl,AI l15 (AI l57 l8'),rfl,hOD,by rw[hD,hB,hz,Int.emod_eq_of_lt (by omega) (by omega),Int.toNat_natCast];exact hQ.beside (by rw[length_map];omega) hm0 (fun x hx=>by obtain⟨a,ha,rfl⟩:=List.mem_map.1 hx;exact hmA a ha) hm1 z hz5,hDs⟩ Qs
      exact A4
     ·refine Ag ?_;exact AC _ ⟨vC,mC,A,rfl,lh,rfl,hOC,hQ.up,hAs⟩ Qs
    ·refine Qk rfl (Qk rfl (Qk rfl (Qk rfl (Qm rfl (Al (AM rfl (Ag ?_)))))));exact AC _ ⟨vC,mC,A,rfl,lh,rfl,hOC,hQ.up,hAs⟩ Qs
   ·obtain⟨vC,mC,A,rfl,lh,rfl,hOC,hQ,hAs⟩:=hI;have oC:=hOC.o1;refine Au (Qx (oG rfl CM AV (Seg.blk 0 rfl)) rfl ?_);refine Sa 2 [_] AV rfl (by simp[oL_,oG_,oC]) ?_;refine Al (Ao (AL ?_));exact Bs (vs:=[_]) 1 rfl rfl CM rfl AV rfl rfl (⟨AI l1 lh,mC,A,_,rfl,rfl,hOC,hQ,hAs⟩)
end Go.Proofs.Q
namespace Go.Proofs.Q
open Go.Proofs.Tryz
open Go.Eng Go.RowKit
theorem PN(h:Hp)(ms:List Hp):FnV Tryz.prog 12 #[] h ms (.bool true):=by
 refine FnV.weaken (h:=Hp.emp) (FnT.toV ?_) (Hp.emp_le h);show FnT _ _ (List.toArray []) _ _ _;refine Ap func12 ntmps12 rfl rfl (fun w0 hw0=>?_);simp only[AU];refine Au (Qm rfl (BL (Qc call43 rfl (SK Hp.emp) (fun rC h2 ms2 l2 hF=>?_))));obtain⟨l2',gF,mC,A,vC,rfl,rfl,hOC,hA,hsd⟩:=hF;obtain⟨vF,hvF⟩:∃vF:Value,vF=.slice (some ⟨gF,0,none⟩) 4 4:=⟨_,rfl⟩
 obtain⟨mF,hmF⟩:∃mF:Hp,mF=Bi gF 47 [.int .i64 1,.int .i64 0,.int .i64 2,.int .i64 1,.int .i64 3,.int .i64 2,.int .i64 4,.int .i64 5]:=⟨_,rfl⟩
 rw[<-hvF,<-hmF];have hOF:OwnL cV 2 47 mF vF circF:=by rw[hmF,hvF];exact OwnL.blk (l:=circF) 4 M8 rfl (by decide)
 have oC:=hOC.o1;have oF_:=hOF.o1;refine Qm rfl (Qm rfl (Qm rfl (CN [.slice none 0 0] rfl AV rfl rfl (fun g1=>?_))));refine Sa 0 [_] AV rfl (by simp[oC,oF_]) ?_;refine Qm rfl (Al (Bo 0 rfl fun h3 l3 hS=>(Fb 1 hOC rfl fun h4 l4 hC=>?_)));have hR:RdC h4 vC A:=⟨hC,fun a ha=>(hsd a ha).up (AI l3 l4)⟩
 have hA:A.map Ce.c=circC:=by rw[hA];exact XZ
 have hFA:RgtF (A.map Ce.c):=by rw[hA];exact circ_rgtF
 have hcn:cn A=circC:=by rw[T9 hFA,hA]
 have hAl:A.length=4:=by have:=congrArg List.length hA;rwa [length_map]at this
 have hK:RgC A:=⟨hFA.rgt,fun a ha=>by
  have h1:a.c∈circC:=by rw[<-hA];exact List.mem_map.2 ⟨a,ha,rfl⟩
  have h2:∀c∈circC,c.id<=1000000:=by decide
  exact h2 _ h1⟩
 have hS:=hS.le l4;refine Au (Qx (oG rfl CM AV (Seg.any hS)) rfl (Qm rfl ?_));refine AY (pre:=[mF]) rfl call15 rfl (FnT.borrow (fun hj l1 l2=>K7 A circF vC vF 2 hj hK (hR.up l1) (hOF.rdh l2) (IB _ (.inl rfl)) (fun c=>by have:=circ_q.bI c;unfold BC;omega) (by rw[hcn];exact JX) isP2 (by omega))) rfl rfl rfl rfl (fun ra h5 ms5 l5 hQ=>?_);obtain⟨l5',hj5,k5,ms5',lj5,⟨lk5,S,Rf,Vf,va,ma,rfl,rfl,hOa,Pa⟩,_,rfl,_⟩:=hQ;have oa:=hOa.o1;have hR:=hR.up l5;have hS:=hS.le l5;have H:PerH 2 circF A S Rf Vf:=⟨Pa,isP2,hK.F.rgt,by rw[hcn];exact circ_q.mon⟩
 have hbt:=H.betti;have hbars:=Rw H hcn;rw[hbars]at hOa hbt;rw[hcn]at hbt;refine Qm rfl (Qm rfl (Qm rfl (Qm rfl (Qm rfl (Al (Fb 1 hOa rfl fun h6 l6 hBa=>?_))))));have hR:=hR.up l6;have hS:=hS.le l6;refine Au (Qx (oG rfl CM AV (Seg.any hS)) rfl (Qm rfl ?_));refine AY (pre:=[mF]) rfl call19 rfl (FnT.borrow (fun hj l1 l2=>Lr A circF vC vF 1 2 hj hK (hR.up l1) (hOF.rdh l2) (IB _ (.inl rfl)) (by rw[hcn];exact JX) (by rw[hcn];exact Kf) isP2 (by decide) (by omega))) rfl rfl rfl rfl (fun rb h7 ms7 l7 hQ=>?_);obtain⟨l7',hj7,k7,ms7',lj7,⟨lk7,D,rk,w1,m1,rfl,rfl,hO1,hD,hr0,hrk⟩,_,rfl,_⟩:=hQ;rw[hcn]at hO1 hD hrk;have e1:JF (Ee circF 1 circC) rk (D+1).toNat=[2]:=Xh hD (by unfold JF;rw[length_map,length_range]) (hbt 1 D rk hD hr0 hrk);rw[e1]at hO1;have ow1:=hO1.o1;refine Qm rfl (Qm rfl (Qm rfl (Qm rfl (Qm rfl (Al (Fb 1 hO1 rfl fun h8 l8 hW1=>?_))))));have l68:=AI l7 l8;have hR:=hR.up l68;have hS:=hS.le l68;refine Au (Qx (oG rfl CM AV (Seg.any hS)) rfl (Qm rfl ?_));refine AY (pre:=[mF]) rfl call19 rfl (FnT.borrow (fun hj l1 l2=>Lr A circF vC vF 2 2 hj hK (hR.up l1) (hOF.rdh l2) (IB _ (.inl rfl)) (by rw[hcn];exact JX) (by rw[hcn];exact Kf) isP2 (by decide) (by omega))) rfl rfl rfl rfl (fun rd h9 ms9 l9 hQ=>?_);obtain⟨l9',hj9,k9,ms9',lj9,⟨lk9,D',rk',w2,m2,rfl,rfl,hO2,hD',hr0',hrk'⟩,_,rfl,_⟩:=hQ;rw[hcn]at hO2 hD' hrk';have e2:JF (Ee circF 2 circC) rk' (D'+1).toNat=[1,0]:=Xw hD' (by unfold JF;rw[length_map,length_range]) (hbt 2 D' rk' hD' hr0' hrk');rw[e2]at hO2;have ow2:=hO2.o1;refine Qm rfl (Qm rfl (Qm rfl (Qm rfl (Qm rfl (Al (Fb 1 hO2 rfl fun h10 l10 hW2=>(Au (Qx (Bf Yb [.int .i64 0,.int .i64 0,.int .i64 0,.bool false,.int .i64 0,.int .i64 0] [(3,_),(4,_)] [_,_,_,_,_,_] rfl E6 rfl rfl Qt rfl) rfl (Qx (Bf Yb [.int .i64 0,.int .i64 0,.int .i64 0,.bool false,.int .i64 0,.int .i64 0] [(1,_),(2,_),(4,_),(5,_)] [_,_,_,_,_,_] rfl E6 rfl rfl Qt rfl) rfl (Qx (Bf Yb [.int .i64 0,.int .i64 0,.int .i64 0,.bool false,.int .i64 0,.int .i64 0] [(0,_),(1,_),(3,_),(4,_)] [_,_,_,_,_,_] rfl E6 rfl rfl Qt rfl) rfl (Aq [(0,_),(6,_),(12,_)] [.int .i64 0,.int .i64 0,.int .i64 0,.bool false,.int .i64 0,.int .i64 0,.int .i64 0,.int .i64 0,.int .i64 0,.bool false,.int .i64 0,.int .i64 0,.int .i64 0,.int .i64 0,.int .i64 0,.bool false,.int .i64 0,.int .i64 0] [_,_,_,_,_,_,_,_,_,_,_,_,_,_,_,_,_,_] rfl Sb E6 rfl (by omega) (by kernel_rfl) Qt rfl rfl rfl rfl (fun g39=>Qm rfl (Al (Bo 0 rfl fun h11 l11 hS39=>?_))))))))))))));have l811:=AI l9 (AI l10 l11);have hR:=hR.up l811;have hS:=hS.le l811;refine Ac (BE (n:=9) (bs:=[false,true,true,false,false,false,false,false,false]) [false,true,true] CY (by kernel_rfl) (by kernel_rfl) rfl rfl (Qq rfl (Qp rfl (Eo 3 (hOF.rd (h:=h11) (ms:=[mF]) Mh).rd rfl S8 Fz rfl rfl rfl (by decide)) ?_)));unfold Fy;simp only[cons_append,nil_append];refine Qo 0 rfl (Qx (oG rfl CM AV (Seg.any hS)) rfl (Qw (Qo 3 rfl (AY (pre:=[mF]) rfl call24 rfl (FnT.borrow (fun hj l1 l2=>FL A (circF.take 3) vC (BS 2 vF 0 3) hj hK (hR.up l1) (show RdL cV 2 hj [] (BS 2 vF 0 3) (circF.take 3) from(hOF.rdh l2).sub_ (i:=0) (j:=3) (by decide) (by decide)) (IB _ (.inr (.inl rfl))))) rfl rfl rfl rfl (fun rc h12 ms12 l12 hQ=>?_)))));obtain⟨l12',hj12,k12,ms12',lj12,hr12,_,rfl,_⟩:=hQ;rw[hcn,SY]at hr12;subst hr12;refine Qa (CT 4 40 (by kernel_rfl) rfl (by assumption) rfl (AA rfl rfl) (CT 5 45 (by kernel_rfl) rfl (by assumption) rfl (Dt rfl rfl rfl) (CT 6 46 (by kernel_rfl) rfl (by assumption) rfl (Dt rfl rfl rfl) (Qo 7 rfl (Qm rfl (Qa (Qo 8 rfl (Qm rfl (Qa (Qe (Ab ?_)))))))))));rw[hmF,hvF];refine Au (Qm rfl (Qx (BF 1 rfl S8 Fz rfl rfl rfl (by omega)) rfl (Qf PH rfl ?_)));refine AK 0 3 rfl Be rfl rfl rfl rfl (by rw[BD]) (by decide) rfl rfl ?_;simp only[List.set_cons_succ,List.set_cons_zero];refine Al (AD fun h13 l13 hSF=>?_);have l1113:=AI l12 l13;have hR:=hR.up l1113;have hS:=hS.le l1113;have hFB:RdL cV 2 h13 [] (.slice (some ⟨gF,0,none⟩) 4 4) [(1,0),(2,3),(3,2),(4,5)]:=⟨⟨_,4,rfl,by decide,by decide,rfl,fun _=>⟨_,rfl,hSF⟩⟩,M8⟩
 refine Au (Qx (oG rfl CM AV (Seg.any hS)) rfl (Qm rfl (Qc call24 rfl (FL A [(1,0),(2,3),(3,2),(4,5)] vC _ h13 hK hR hFB (IB _ (.inr (.inr rfl)))) (fun rd h14 ms14 l14 hQ=>?_))));rw[hcn,Sh]at hQ;subst hQ;refine Qm rfl (Qm rfl (Qm rfl (Qm rfl (Qm rfl (Al ?_)))));have hBa:=hBa.up (AI l68 (AI l811 (AI l1113 l14)));have hW1:=hW1.up (AI l811 (AI l1113 l14));have hW2:=hW2.up (AI l11 (AI l1113 l14));have hS39:=hS39.le (AI l1113 l14);have hB9:RdL Nh 6 h14 [] (.slice (some ⟨g39,0,none⟩) 3 3) circB:=⟨⟨_,3,rfl,by decide,by decide,rfl,fun _=>⟨_,rfl,hS39⟩⟩,JC⟩
 refine Au (Qm rfl (Qx (B8 (Du rfl rfl rfl) (congrArg Value.bool (decide_eq_true rfl))) rfl (Qm rfl (Qg (AA rfl rfl) rfl (Qg (AA rfl rfl) rfl ?_)))));refine Qg (AO rfl call17 rfl ((by have:=Vv circB circB va _ h14 hBa hB9 (ms14++ms12'.append []);rwa [decide_eq_true rfl]at this))) rfl ?_;refine Qm rfl (Qm rfl (Qg (AA rfl rfl) rfl (Qg (B8 (Du rfl rfl rfl) (congrArg Value.bool (decide_eq_true rfl))) rfl (Qm rfl (Qm rfl (Qg (AA rfl rfl) rfl (Qg (B8 (Du rfl rfl rfl) (congrArg Value.bool (decide_eq_true rfl))) rfl (Qm rfl (Qm rfl (Qg (AA rfl rfl) rfl (Uc rfl rfl rfl rfl (An [_] rfl AR Be rfl (by rfl) rfl rfl (by omega) rfl rfl rfl (fun g73=>Dx fun h15 l15 hS73=>?_)))))))))))));refine Qg (AO rfl call44 rfl ((by have:=Q4 [2] [2] w1 _ h15 (hW1.up l15) (Ow 1 Bl hS73) (ms14++ms12'.append []);rwa [decide_eq_true rfl]at this))) rfl ?_;refine Qm rfl (Qm rfl (Qg (AA rfl rfl) rfl (Uc rfl rfl rfl rfl (Aq [(0,_),(1,_)] [.int .i64 0,.int .i64 0] [_,_] rfl AR Be rfl (by omega) (by kernel_rfl) Qt rfl rfl rfl rfl (fun g78=>Dx fun h16 l16 hS78=>?_)))));have hR2:RdL cI 1 h16 [] (.slice (some ⟨g78,0,none⟩) 2 2) [1,0]:=⟨⟨_,2,rfl,by decide,by decide,rfl,fun _=>⟨_,rfl,hS78⟩⟩,Bl⟩
 refine Qg (AO rfl call44 rfl ((by have:=Q4 [1,0] [1,0] w2 _ h16 (hW2.up (AI l15 l16)) hR2 (ms14++ms12'.append []);rwa [decide_eq_true rfl]at this))) rfl ?_;refine Qm rfl (Qm rfl (Qg (AA rfl rfl) rfl (Qg (B8 (Du rfl rfl rfl) (congrArg Value.bool (decide_eq_true rfl))) rfl (Qm rfl (Qm rfl (Qg (AA rfl rfl) rfl (Qg (B8 (Du rfl rfl rfl) (congrArg Value.bool (decide_eq_true rfl))) rfl (Qm rfl (Qm rfl (Qg (AA rfl rfl) rfl (Qg (B8 (Du rfl rfl rfl) (congrArg Value.bool (decide_eq_true rfl))) rfl (Qm rfl (Qm rfl (Qg (AA rfl rfl) rfl (Qg (B8 (Du rfl rfl rfl) (congrArg Value.bool (decide_eq_true rfl))) rfl (Qm rfl (Qm rfl (Al (Ao ?_)))))))))))))))))));exact Az rfl rfl (rfl)
end Go.Proofs.Q

namespace Go.Proofs.Q
open Go.Eng Go.RowKit
variable {la:List Br} {k:Nat}
def V5(d:Nat)(b:Br):Bool:=b.opn&&decide (b.dim=(d:Int))
def DD(la:List Br)(k:Nat):List Int:=(range 9).map fun(d:Nat)=>(((la.take k).filter (V5 d)).length:Int)
theorem CH(la:List Br)(k:Nat):(DD la k).length=9:=by simp[DD]
theorem K2{d:Nat}(hd:d<9):(DD la k).getD d 0=(((la.take k).filter (V5 d)).length:Int):=by unfold DD;simp[List.getD,hd]
theorem SH(la:List Br):DD la 0=replicate 9 0:=by unfold DD;rfl
theorem XY(la:List Br)(k:Nat){d:Nat}(hd:d<9):0<=(DD la k).getD d 0/\(DD la k).getD d 0<=la.length:=by rw[K2 hd];have h1:=List.length_filter_le (V5 d) (la.take k);rw[length_take]at h1;omega
theorem Lm(hk:k<la.length)(p:Br->Bool):((la.take (k+1)).filter p).length=((la.take k).filter p).length+if p la[k] then 1 else 0:=by rw[take_succ_eq_append_getElem hk,filter_append,length_append];congr 1;cases h:p la[k]<;>simp[filter_cons,h]
theorem JQ(la:List Br)(j q:Nat)(hq:q<9):(DD la j)[q]'(by rw[CH];exact hq)=(((la.take j).filter (V5 q)).length:Int):=by simp[DD]
theorem UJ(hk:k<la.length){dd:Nat}(h:la[k].opn=true)(e:la[k].dim=dd)(hd:dd<9):(DD la k).set dd ((DD la k).getD dd 0+1)=DD la (k+1):=by
 refine List.ext_getElem (by simp[CH]) fun q h1 h2=>?_;have hq:q<9:=by rw[CH]at h2;exact h2
 rw[List.getElem_set,JQ _ _ _ hq,JQ _ _ _ hq,Lm hk];by_cases c:dd=q
 ·subst c;have:V5 dd la[k]=true:=by unfold V5;rw[h,decide_eq_true e];rfl
  rw[if_pos rfl,K2 hd,this,if_pos rfl];rfl
 ·rw[if_neg c]
  have:V5 q la[k]=false:=by unfold V5;rw[decide_eq_false (by rw[e];omega),Bool.and_false]
  rw[this,if_neg (by decide)];rfl
theorem RF(hk:k<la.length)(h:la[k].opn=false):DD la k=DD la (k+1):=by
 refine List.ext_getElem (by simp[CH]) fun q h1 h2=>?_;have hq:q<9:=by rw[CH]at h2;exact h2
 have:V5 q la[k]=false:=by unfold V5;rw[h];rfl
 rw[JQ _ _ _ hq,JQ _ _ _ hq,Lm hk,this,if_neg (by decide)];rfl
theorem Sy(b:Br):b.low∈DJ b:=by unfold DJ;split<;>simp
theorem IE(hk:k<la.length):(la.take (k+1)).flatMap DJ=(la.take k).flatMap DJ++DJ la[k]:=by rw[take_succ_eq_append_getElem hk,List.flatMap_append];simp
theorem Ty(hn:(la.flatMap DJ).Nodup)(hk:k<la.length):(∀x∈DJ la[k],x ∉ (la.take k).flatMap DJ)/\(DJ la[k]).Nodup:=by have h1:=List.take_append_drop (k+1) la;rw[<-h1,List.flatMap_append,IE hk]at hn;have h2:=(List.nodup_append.1 hn).1;obtain⟨_,h3,h4⟩:=List.nodup_append.1 h2;exact⟨fun x hx hx'=>h4 x hx' x hx rfl,h3⟩
theorem Rx(h:la.Pairwise fun a b=>a.birth<=b.birth)(hk:k<la.length)(h0:0<k):la[k-1].birth<=la[k].birth:=
 List.pairwise_iff_getElem.1 h (k-1) k (by omega) hk (by omega)
end Go.Proofs.Q
