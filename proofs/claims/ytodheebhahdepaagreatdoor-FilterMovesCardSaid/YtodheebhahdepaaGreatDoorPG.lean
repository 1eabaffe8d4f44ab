/- A part of the proof. -/
import Derived.Test.YtodheebhahdepaaGreatDoorPF
import Derived.Test.YtodheebhahdepaaGreatDoorRows
import Derived.Test.YtodheebhahdepaaGreatDoorChecked
import Derived.WalkKit
import Derived.ProofKit
import Derived.ChangeOld
import Derived.LaidMore
import Derived.Lay
import Derived.SevenTiedAt
import Derived.Stop.Joined
import Derived.Test.YtodheebhahdepaaGreatDoorCards
import Derived.Test.YtodheebhahdepaaGreatDoorTie
import Derived.Laws.StructEq
import Derived.ChangeKeysEq
set_option linter.unusedSimpArgs false
set_option linter.unusedVariables false
set_option linter.unusedSectionVars false
set_option maxRecDepth 100000
set_option maxHeartbeats 4000000

open List (length_map length_singleton getElem_mem replicate range length_append nil_append length_take mem_cons cons_append map_append mem_cons_of_mem length_nil take_succ_eq_append_getElem append_nil map_map take_length append_assoc length_cons length_range range_succ filter_append filter_cons not_mem_nil)
namespace Go.Proofs.Q
open Go.Eng Go.RowKit
def Sd(l:List Cl):List Cl:=l.map Cl.can
structure Z4(o:List Cl):Prop where
 n:o.length<=4000
 inc:o.Pairwise fun a b=>a.id<b.id
 pos:∀x∈o,1<=x.id
 fst:∀x∈o,Hz o x=0
 snd:∀x∈o,2<=x.dim->JH o x=0
theorem Pf{l:List Cl}(B:Z4 (Sd l)):Rgt l:=by
 have R:RgtF (Sd l):=⟨B.n,B.inc,B.pos,fun x hx=>by obtain⟨y,_,rfl⟩:=List.mem_map.1 hx;exact⟨y,rfl⟩,B.fst,B.snd⟩
 refine R.rgt.sim ⟨by unfold Sd;rw[length_map],by unfold Sd;rw[map_map];exact List.Perm.refl _,fun x hx=>⟨x.can,List.mem_map.2 ⟨x,hx,rfl⟩,rfl,rfl,(BB _).symm⟩⟩
instance (x:Cl):DecidablePred (EI [] x):=fun i=>inferInstance
open Go.ChangeShapes Go.WideShapes Go.ChangeAt Go.Deep
theorem own:ownKnob Tryz.prog.godebug=none:=by kernel_rfl
theorem ZA{w w':World}(E:Ext w w'):Below w.heap.size w w':=⟨E.os,E.tape.tape,E.output,E.size,E.block⟩
theorem Ma:laidOutB Tryz.prog=true:=by kernel_rfl
section
variable {H:Type} {enc:TypeId×Value->H} {w:World} {base:Nat} {spare:Nat->Bool} {held:Bool}
theorem Rp(n:Nat)(cs:List Value)(y:DataW H×List MemPlace)(h:DataW.trod enc Tryz.prog w base spare held n 3 cs=some y):∃a,cs=cI a/\BE a:=by obtain⟨b,h1,_,h2⟩:=DataW.trod_int U3 h;exact⟨b,h1,bounds_i64 h2⟩
theorem QS{v:Value}{fuel:Nat}{x:DataW H×List MemPlace}(h:DataW.trod enc Tryz.prog w base spare held fuel 22 [v]=some x):∃l,RdL cI 1 (whole w) [] v l/\∀a∈l,BE a:=
 Ns AU (by kernel_rfl) Bo (by decide) Rp h
end
end Go.Proofs.Q

namespace Go.Proofs.YtodheebhahdepaaGreatDoor
open Go Go.ChangeShapes Go.WideShapes Go.ChangeAt Go.RowKit Go.Proofs.Q

theorem TK:(Rows.filterMovesRow.inPlace==Tryz.prog.inPlace 6)=true:=by kernel_rfl
theorem Vh:(Rows.filterMovesRow.unfollowed==Tryz.prog.unfollowed 6)=true:=by kernel_rfl
theorem Vy:(Rows.filterMovesRow.recurses==Tryz.prog.recurses 6)=true:=by kernel_rfl
theorem TT:(Rows.filterMovesRow.named==Tryz.prog.varsNamed 6)=true:=by kernel_rfl

theorem Vr:false=Tryz.prog.looks []:=by kernel_rfl
theorem moves_g2:Tryz.prog.funcNamed "cocycle/cocyclelaw20.FilterMoves" = some 6:=by kernel_rfl
theorem T4:false=Rows.filterMovesRow.goesBy Tryz.prog:=by kernel_rfl
end Go.Proofs.YtodheebhahdepaaGreatDoor

namespace Go.Proofs.Q
open Go.Eng Go.RowKit
theorem Rgt.union{a b:List Cl}(A:Rgt a)(B:Rgt b)(hd:∀x∈a,∀y∈b,x.id≠y.id)(hn:a.length+b.length<=4000):Rgt (a++b):=by
 have hnd:((a++b).map Cl.id).Nodup:=by rw[map_append];refine List.nodup_append.2 ⟨A.nd,B.nd,fun x hx y hy=>?_⟩;obtain⟨c,hc,rfl⟩:=List.mem_map.1 hx;obtain⟨e,he,rfl⟩:=List.mem_map.1 hy;exact hd c hc e he
 have tb:∀(o:List Cl) (R:Rgt o),(∀x∈o,x∈a++b)->∀x∈o,E9 (a++b) x=E9 o x:=fun o R hs x hx=>by
  unfold E9 Kg;refine Dw fun s hs'=>?_;obtain⟨y,hy,e1,_⟩:=R.sid x hx s hs';have h1:FZ (a++b) s.1=FZ o s.1:=by rw[<-e1,Cw hnd (hs y hy),Cw R.nd hy]
  simp only[h1]
 have ta:=tb a A fun x hx=>List.mem_append.2 (.inl hx);have tb:=tb b B fun x hx=>List.mem_append.2 (.inr hx);refine⟨by rw[length_append];exact hn,hnd,fun x hx=>?_,fun x hx=>?_,fun x hx=>?_,fun x hx=>?_,fun x hx s hs=>?_,fun x hx=>?_,fun x hx=>?_,fun x hx hd=>?_⟩<;>rcases List.mem_append.1 hx with h|h
 ·exact A.pos x h
 ·exact B.pos x h
 ·exact A.dim x h
 ·exact B.dim x h
 ·exact A.num x h
 ·exact B.num x h
 ·exact A.sds x h
 ·exact B.sds x h
 ·obtain⟨y,hy,e⟩:=A.sid x h s hs;exact⟨y,List.mem_append.2 (.inl hy),e⟩
 ·obtain⟨y,hy,e⟩:=B.sid x h s hs;exact⟨y,List.mem_append.2 (.inr hy),e⟩
 ·exact A.sgn x h
 ·exact B.sgn x h
 ·exact A.one x h
 ·exact B.one x h
 ·rw[ta x h];exact A.tab x h hd
 ·rw[tb x h];exact B.tab x h hd
def Vu(m:Int)(c:Cl):Cl:=⟨c.id+m,c.dim,c.sd.map fun s=>(s.1+m,s.2)⟩
theorem Rgt.shift{l:List Cl}(R:Rgt l){m:Int}(hm:0<=m):Rgt (l.map (Vu m)):=by
 have hnd:((l.map (Vu m)).map Cl.id).Nodup:=by rw[map_map];have:=List.pairwise_map.1 R.nd;refine List.pairwise_map.2 (this.imp_of_mem fun {a b} ha hb hne e=>hne ?_);have e:a.id+m=b.id+m:=e;omega
 refine⟨by rw[length_map];exact R.n,hnd,fun x' hx'=>?_,fun x' hx'=>?_,fun x' hx'=>?_,fun x' hx'=>?_,fun x' hx' s' hs'=>?_,fun x' hx' s' hs'=>?_,fun x' hx' hd=>?_,fun x' hx' hd=>?_⟩<;>obtain⟨x,hx,rfl⟩:=List.mem_map.1 hx'
 ·have:=R.pos x hx;show 1<=x.id+m;omega
 ·exact R.dim x hx
 ·have:=R.num x hx;unfold Ck at *;show ¬((x.dim=0/\0<(x.sd.map _).length)\/(x.dim=1/\(x.sd.map _).length≠2)\/(1<x.dim/\((x.sd.map _).length<2\/64<(x.sd.map _).length)));rw[length_map];exact this
 ·show((x.sd.map _).map Prod.fst).Nodup;rw[map_map];have:=List.pairwise_map.1 (R.sds x hx);refine List.pairwise_map.2 (this.imp fun {a b} hne e=>hne ?_);have e:a.1+m=b.1+m:=e;omega
 ·obtain⟨s,hs,rfl⟩:=List.mem_map.1 hs';obtain⟨y,hy,e1,e2⟩:=R.sid x hx s hs;exact⟨_,List.mem_map.2 ⟨y,hy,rfl⟩,by show y.id+m=s.1+m;rw[e1],e2⟩
 ·obtain⟨s,hs,rfl⟩:=List.mem_map.1 hs';exact R.sgn x hx s hs
 ·have h1:=R.one x hx hd;show((x.sd.map _).map Prod.snd).sum=0;rw[map_map];exact h1
 ·have hd:2<=x.dim:=hd
  have hT:E9 (l.map (Vu m)) (Vu m x)=(E9 l x).map fun e=>(e.1+m,e.2.1+m,1*e.2.2):=by
   unfold E9 Kg;show(x.sd.map _).flatMap _=_;rw[List.flatMap_map,List.map_flatMap];refine Dw fun s hs=>?_;obtain⟨y,hy,e1,e2⟩:=R.sid x hx s hs
   have h1:FZ (l.map (Vu m)) (s.1+m)=Vu m y:=by rw[<-e1];exact Cw hnd (List.mem_map.2 ⟨y,hy,rfl⟩)
   have h2:FZ l s.1=y:=by rw[<-e1];exact Cw R.nd hy
   show List.map (fun r=>(s.1+m,r.1,s.2*r.2)) (FZ (l.map (Vu m)) (s.1+m)).sd=List.map _ (List.map (fun r=>(s.1,r.1,s.2*r.2)) (FZ l s.1).sd);rw[h1,h2,map_map];show List.map _ (y.sd.map _)=_;rw[map_map];exact List.map_congr_left fun r _=>by simp
  rw[hT]
  exact(R.tab x hx hd).ren (fun c=>c+m) (fun _=>1) (fun e _ e' _ h=>by have h:e.2.1+m=e'.2.1+m:=h;omega) fun a ha=>by obtain⟨s,hs,rfl⟩:=List.mem_map.1 ha;exact⟨s,hs,rfl⟩
def H6(o:List Cl):List Int:=(o.filter fun x=>!(o.any fun y=>y.sd.any fun s=>decide (s.1=x.id))).map Cl.id
theorem T9{o:List Cl}{c:Int}(h:c∈H6 o):∀y∈o,∀s∈y.sd,s.1≠c:=by
 unfold H6 at h;obtain⟨x,hx,rfl⟩:=List.mem_map.1 h;obtain⟨_,h2⟩:=List.mem_filter.1 hx;intro y hy s hs e;have h2:(o.any fun y=>y.sd.any fun s=>decide (s.1=x.id))=false:=by simpa using h2
 have h3:=List.any_eq_false.1 h2 y hy;exact h3 (List.any_eq_true.2 ⟨s,hs,decide_eq_true e⟩)
theorem Rgt.gone{l:List Cl}(R:Rgt l){c:Int}(h:∀y∈l,∀s∈y.sd,s.1≠c):Rgt (l.filter fun x=>decide (x.id≠c)):=
 R.filt fun x hx _ s hs y hy e=>decide_eq_true (by rw[e];exact h x hx s hs)
theorem XT{o:List Cl}(R:Rgt o)(h:o≠[]):H6 o≠[]:=by
 -- a cell of the greatest dimension
 obtain⟨x,hx,hm⟩:∃x∈o,∀y∈o,y.dim<=x.dim:=by
  have:∀l:List Cl,l≠[]->∃x∈l,∀y∈l,y.dim<=x.dim:=fun l=>by
   induction l with
   | nil=>intro h;exact absurd rfl h
   | cons a l ih=>
    intro _;by_cases hl:l=[]
    ·subst hl;exact⟨a,Mh,fun y hy=>by rw[List.mem_singleton.1 hy];exact Int.le_refl _⟩
    ·obtain⟨x,hx,hm⟩:=ih hl;by_cases ha:a.dim<=x.dim
     ·exact⟨x,mem_cons_of_mem _ hx,fun y hy=>by
       rcases List.mem_cons.1 hy with rfl|h
       ·exact ha
       ·exact hm y h⟩
     ·exact⟨a,Mh,fun y hy=>by
       rcases List.mem_cons.1 hy with rfl|h
       ·exact Int.le_refl _
       ·have:=hm y h;omega⟩
  exact this o h
 refine List.ne_nil_of_mem (a:=x.id) (List.mem_map.2 ⟨x,List.mem_filter.2 ⟨hx,?_⟩,rfl⟩)
 have:(o.any fun y=>y.sd.any fun s=>decide (s.1=x.id))=false:=List.any_eq_false.2 fun y hy q=>by
  obtain⟨s,hs,e⟩:=List.any_eq_true.1 q;obtain⟨z,hz,e1,e2⟩:=R.sid y hy s hs
  have:z=x:=by have h1:=CY R.nd hz;have h2:=CY R.nd hx;rw[e1,of_decide_eq_true e,h2]at h1;exact(Option.some.inj h1).symm
  subst this;have:=hm y hy;omega
 rw[this];rfl
def S5(x:Int):Int×Int:=if x<0 then(-x,-1) else(x,1)
def Rv(k:Nat)(r:List Int):Cl:=⟨(k:Int)+1,r.headD 0,r.tail.map S5⟩
def OC(L:List (List Int)):List Cl:=(range L.length).map fun k=>Rv k (L.getD k [])
def KP(n:Nat):List Int:=if n=1 then [1,-1,2] else if n%2=0 then [(n:Int),2*n-1,-(2*n)] else [(n:Int),-(2*n-1),2*n]
def K9(n:Nat):List (List Int):=[[0],[0]]++(range n).flatMap fun k=>[KP (k+1),KP (k+1)]
def OW(n:Nat):List (List Int):=([[0],[0],[0],[0],[1,-2,3],[1,-3,4],[1,-4,2]]:List (List Int))++((range (3*n)).map fun(k:Nat)=>[(1:Int),-1,2+((k%3:Nat):Int)])++(range (3*n)).map fun(k:Nat)=>[(2:Int),8+(k:Int),5+((k%3:Nat):Int),-(8+(((k+1)%(3*n):Nat):Int))]
def Zw:List (List Int):=[[0],[0],[0],[1,-1,2],[1,-1,2],[1,-2,3],[1,-2,3],[1,-1,3],[1,-1,3],[2,4,6,-8],[2,4,7,-9],[2,5,6,-9],[2,5,7,-8]]
def YN:List (List Int):=[[0],[0],[0],[0],[1,-1,2],[1,-1,2],[1,-3,4],[1,-3,4],[1,-1,3],[1,-2,4],[1,-3,1],[1,-4,2],[2,5,10,-7,-9],[2,6,10,-8,-9],[2,7,12,-6,-11],[2,8,12,-5,-11]]
def Zu:List (List Int):=[[0],[0],[0],[0],[1,-1,2],[1,-1,2],[1,-3,4],[1,-3,4],[1,-1,3],[1,-2,4],[1,-3,1],[1,-4,2],[2,5,10,-7,-9],[2,6,10,-8,-9],[2,7,12,-5,-11],[2,8,12,-6,-11]]
def EL(n:Nat):List (List Int):=
 if n=0 then [[0]] else if n<=3 then K9 n else if n=4 then K9 0 else if n=5 then Zw else if n=6 then OW 3 else if n=7 then YN else if n=8 then Zu else OW 4
theorem AaA(n:Nat)(h:n<10):Z4 (Sd (OC (EL n))):=by rcases (by omega:n=0\/n=1\/n=2\/n=3\/n=4\/n=5\/n=6\/n=7\/n=8\/n=9) with rfl|rfl|rfl|rfl|rfl|rfl|rfl|rfl|rfl|rfl<;>exact⟨by decide,by decide,by decide,by decide +kernel,by decide +kernel⟩
theorem L6(n:Nat)(h:n<10):Rgt (OC (EL n)):=Pf (AaA n h)
theorem Nc(L:List (List Int)):(OC L).length=L.length:=by simp[OC]
theorem JD(n:Nat)(h:n<10):(EL n).length<=31/\(n<5->(EL n).length<=8):=by rcases (by omega:n=0\/n=1\/n=2\/n=3\/n=4\/n=5\/n=6\/n=7\/n=8\/n=9) with rfl|rfl|rfl|rfl|rfl|rfl|rfl|rfl|rfl|rfl<;>decide
theorem KO{L:List (List Int)}:∀x∈OC L,1<=x.id/\x.id<=L.length:=fun x hx=>by obtain⟨k,hk,rfl⟩:=List.mem_map.1 hx;have:=List.mem_range.1 hk;show 1<=(k:Int)+1/\(k:Int)+1<=_;omega
open Go.Proofs.Tryz
theorem OL(id dim:Int)(sd:List Int)(v:Value)(hp:Hp)(hR:RdL cI 1 hp [] v sd)(hb:∀x∈sd,-1000000<=x/\x<=1000000)(hn:sd.length<=1000):FnT Tryz.prog 176 #[.int .i64 id,.int .i64 dim,v] hp [] (fun r h' ms'=>hp=h'/\∃vs m,ms'=[m]/\r=.agg #[.int .i64 id,.int .i64 dim,vs]/\OwnL cD 2 119 m vs (sd.map S5)):=by
 have ov:=hR.rd.one;refine Aq func176 ntmps176 rfl rfl (fun w0 hw0=>?_);simp only[AV];refine Au (CJ [.int .i64 0,.int .i64 0,.slice none 0 0] rfl AG rfl rfl (fun g6=>BG (Qm rfl (Qm rfl (Qx (Bb UO [.int .i64 0,.int .i64 0,.slice none 0 0] [(0,_),(1,_)] [_,_,_] rfl AG rfl rfl Qt rfl) rfl (CJ [.int .i64 0,.int .i64 0,.slice none 0 0] rfl AG rfl rfl (fun g7=>?_)))))));refine Sa 0 [_,_,_] AG rfl (by simp[Value.oneCell']) ?_;refine Am (By (Ac (Au (Qm rfl (Am (Af ?_))))))
 refine Ax (fun q sl h' ms'=>∃(i:Nat) (vs:Value) (m:Hp),q=sd.length-i/\sl=[(2,v),(6,.pointer (some ⟨g6,0,none⟩)),(7,.pointer (some ⟨g7,0,none⟩)),(8,.int .i64 i)]/\hp=h'/\ms'=[m,Be g7 52 [.int .i64 id,.int .i64 dim,vs],Be g6 52 [.int .i64 0,.int .i64 0,.slice none 0 0]]/\i<=sd.length/\OwnL cD 2 119 m vs ((sd.take i).map S5))
  (sd.length-0) _ ⟨0,_,Hp.emp,rfl,rfl,rfl,rfl,by omega,OwnL.nil Dv⟩ Qs ?_
 rintro q sl h' ms' ⟨i,vs,m,rfl,rfl,rfl,rfl,hi,hO⟩;have ovs:=hO.o1;refine Ac (Au (Qm rfl (Qm rfl (Qx (Ap hR.rd.any rfl AU rfl) rfl (Qm rfl (Am ?_))))));refine Av rfl (fun hlt=>?_) (fun hlt=>?_)
 ·have hil:i<sd.length:=by omega
  obtain⟨x,hx⟩:∃x,sd[i]=x:=⟨_,rfl⟩
  have hxb:=hb x (by rw[<-hx];exact getElem_mem hil);have cx:∀ms,Cell hp ms ((AF v).add (i*1)) (.int .i64 x):=fun ms=>by rw[<-hx];exact(hR.any (ms:=ms)).cell0 hil rfl
  have hll:((sd.take i).map S5).length<=1000:=by rw[length_map,length_take];omega
  have hs:((sd.take (i+1)).map S5)=((sd.take i).map S5)++[S5 x]:=by rw[take_succ_eq_append_getElem hil,map_append,hx];rfl
  refine Ag (Ab (Ac (Af (Au (Qm rfl (Qm rfl (Qx (BT (i) hR.rd.any rfl AU Bg rfl rfl) rfl (Ql rfl U3 (cx _) (Qx (Bb TB [.int .i64 0,.int .i64 0] [(0,_),(1,_)] [_,_] rfl AK rfl rfl Qt rfl) rfl (CJ [.int .i64 0,.int .i64 0] rfl AK rfl rfl (fun g9=>?_)))))))))));refine Sa 0 [_,_] AK rfl (by simp[Value.oneCell']) ?_;refine Am (Ac (Au (Qm rfl (Qm rfl (Qx (BT (i) hR.rd.any rfl AU Bg rfl rfl) rfl (Ql rfl U3 (cx _) (Qm rfl (Am ?_))))))));refine Av rfl (fun hneg=>?_) (fun hneg=>?_)
  ·refine Ad (Qm rfl (Qm rfl (Qx (BT (i) hR.rd.any rfl AU Bg rfl rfl) rfl (Ql rfl U3 (cx _) (Qx (MR rfl rfl (by omega)) rfl (Qx (Bb TB [.int .i64 0,.int .i64 0] [(0,_),(1,_)] [_,_] rfl AK rfl rfl Qt rfl) rfl ?_))))));refine Sa 0 [_,_] AK rfl (by simp[Value.oneCell']) ?_;refine Gs (Qf BH rfl (Ql rfl Ci (Cell.blk 2 rfl rfl) (Qx (oG rfl DA AK (Seg.blk 0 rfl)) rfl (Al [_,_] rfl Ci AK rfl (by rfl) rfl rfl (by omega) rfl rfl rfl (fun g38=>AP 2 hO (RdL.one Dv (x:=(-x,-1)) Mh rfl) rfl Ci AK rfl (by omega) rfl rfl rfl Fu (by(try simp only[length_singleton]);omega) (by(try simp only[length_singleton]);omega) rfl rfl rfl (fun v9 m9 hO9=>?_))))));have hs':S5 x=(-x,-1):=by unfold S5;rw[if_pos hneg]
   rw[<-hs',<-hs]at hO9;have ov9:=hO9.o1;refine Qf BH rfl ?_;refine AJ 3 _ rfl PE rfl rfl (by assumption) rfl rfl (by(simp;done)) rfl rfl ?_;refine Aj (Ai (Ab (Ad (Qm rfl (Qx (oA rfl) rfl (Qm rfl (Aj (AQ 0 rfl (AQ 0 rfl ?_)))))))));exact Ak (sd.length-(i+1)) _ (by omega) ⟨i+1,v9,m9,rfl,rfl,rfl,rfl,by omega,hO9⟩ Qs
  ·refine Ag (Ab (Ad (Qf BH rfl (Ql rfl Ci (Cell.blk 2 rfl rfl) (Qx (oG rfl DA AK (Seg.blk 0 rfl)) rfl (Al [_,_] rfl Ci AK rfl (by rfl) rfl rfl (by omega) rfl rfl rfl (fun g38=>AP 2 hO (RdL.one Dv (x:=(x,1)) Mh rfl) rfl Ci AK rfl (by omega) rfl rfl rfl Fu (by(try simp only[length_singleton]);omega) (by(try simp only[length_singleton]);omega) rfl rfl rfl (fun v9 m9 hO9=>?_))))))));have hs':S5 x=(x,1):=by unfold S5;rw[if_neg hneg]
   rw[<-hs',<-hs]at hO9;have ov9:=hO9.o1;refine Qf BH rfl ?_;refine AJ 3 _ rfl PE rfl rfl (by assumption) rfl rfl (by(simp;done)) rfl rfl ?_;refine Aj (Ai (Ab (Ad (Qm rfl (Qx (oA rfl) rfl (Qm rfl (Aj (AQ 0 rfl (AQ 0 rfl ?_)))))))));exact Ak (sd.length-(i+1)) _ (by omega) ⟨i+1,v9,m9,rfl,rfl,rfl,rfl,by omega,hO9⟩ Qs
 ·obtain rfl:i=sd.length:=by omega
  refine As (Aa (Aa (Ae (Ab (Au (Qx (oG rfl EB AG (Seg.blk 1 rfl)) rfl ?_))))));refine Sa 2 [_,_,_] AG rfl (by simp[ov,ovs]) ?_;refine Am (Ao (AQ 1 rfl ?_));exact Bs (vs:=[_,_,_]) 1 rfl rfl EB rfl AG rfl rfl (⟨rfl,vs,m,rfl,rfl,by rw[take_length]at hO;exact hO⟩)
theorem K2(L:List (List Int))(i:Nat):((range (i+1)).map fun k=>Rv k (L.getD k []))=((range i).map fun k=>Rv k (L.getD k []))++[Rv i (L.getD i [])]:=by rw[range_succ,map_append];rfl
theorem GY(L:List (List Int))(es0:List Value)(v:Value)(hp:Hp)(hV:RdL cW 1 hp [] v es0)(hE:RdEs hp es0 L)(hb:∀l∈L,l≠[]/\l.length<=1000/\∀x∈l,-1000000<=x/\x<=1000000)(hn:L.length<=1000):FnT Tryz.prog 114 #[v] hp [] (fun r h' ms'=>hp.le h'/\NV h' r ms' (fun o=>o=OC L)):=by
 have o1:=hV.rd.one;have hle:=hE.1;refine Aq func114 ntmps114 rfl rfl (fun w0 hw0=>?_);simp only[AV];refine Au (CJ [.slice none 0 0] rfl AS rfl rfl (fun g2=>BG (CJ [.slice none 0 0] rfl AS rfl rfl (fun g3=>Am (Ac (Au (Qm rfl (Am (Af (By ?_))))))))))
 refine Ax (fun q sl hh ms'=>∃(i:Nat) (vO:Value) (mO:Hp) (O:List Ce),q=L.length-i/\sl=[(0,v),(2,.pointer (some ⟨g2,0,none⟩)),(3,.pointer (some ⟨g3,0,none⟩)),(4,.int .i64 i)]/\hp.le hh/\ms'=[mO,Be g3 29 [vO],Be g2 29 [.slice none 0 0]]/\i<=L.length/\OwnL cC 3 52 mO vO O/\O.map Ce.c=((range i).map fun k=>Rv k (L.getD k []))/\∀a∈O,RdL cD 2 hh [] a.v a.c.sd)
  (L.length-0) _ ⟨0,_,Hp.emp,[],rfl,rfl,DS,rfl,by omega,OwnL.nil BX,rfl,fun a ha=>nomatch ha⟩ Qs ?_
 rintro q sl hh ms' ⟨i,vO,mO,O,rfl,rfl,lh,rfl,hi,hO,hOc,hOs⟩;have hV:=hV.up lh;have hE:=hE.up lh;have ovO:=hO.o1;have hOl:O.length=i:=by have:=congrArg List.length hOc;simpa using this
 refine Ac (Au (Qm rfl (Qm rfl (Qx (Ap hV.rd.any rfl B9 rfl) rfl (Qm rfl (Am ?_))))));refine Av rfl (fun hlt=>?_) (fun hlt=>?_)
 ·have hil:i<L.length:=by omega
  have hie:i<es0.length:=by omega
  have hci:∀ms,Cell hh ms ((AF v).add (i*1)) es0[i]:=fun ms=>(hV.any (ms:=ms)).cell0 hie rfl;have hRi:=hE.2 i hie hil;have oei:=hRi.rd.one;obtain⟨hne,hl1,hlb⟩:=hb _ (getElem_mem hil);have hgi:L.getD i []=L[i]:=by simp[List.getD,hil]
  obtain⟨r,hr⟩:∃r,L[i]=r:=⟨_,rfl⟩
  rw[hr]at hne hl1 hlb hgi hRi;obtain⟨d,s,rfl⟩:∃d s,r=d::s:=by cases r with|nil=>exact absurd rfl hne|cons d s=>exact⟨d,s,rfl⟩
  have cd:∀ms,Cell hh ms ((AF es0[i]).add (0*1)) (.int .i64 d):=fun ms=>(hRi.any (ms:=ms)).cell0 (j:=0) (by simp) rfl;have hl0:0<(d::s).length:=by simp
  refine Ag (Ab ?_);refine Bd (fun sl h' ms'=>∃(vO:Value) (mO:Hp) (O:List Ce),sl=[(0,v),(2,.pointer (some ⟨g2,0,none⟩)),(3,.pointer (some ⟨g3,0,none⟩)),(4,.int .i64 i)]/\hh.le h'/\ms'=[mO,Be g3 29 [vO],Be g2 29 [.slice none 0 0]]/\OwnL cC 3 52 mO vO O/\O.map Ce.c=((range (i+1)).map fun k=>Rv k (L.getD k []))/\∀a∈O,RdL cD 2 h' [] a.v a.c.sd) ?_ (fun s h ms hI=>?_)
  ·refine Af ?_
   have hRs:RdL cI 1 hh [] (BQ 1 es0[i] 1 (d::s).length) s:=by have:=hRi.sub_ (i:=1) (j:=(d::s).length) (by simp) (Nat.le_refl _);simpa using this
   let c:Cl:=⟨(i:Int)+1,d,s.map S5⟩
   refine BK (n:=20) (bs:=[true,false,true,true,true,true,true,true,true,true,true,true,true,true,true,false,false,false,true,false]) [true,false,true,true,true,true,true,true,true,true,true,true,true,true,true,false,false,false,true] CT (by kernel_rfl) (by kernel_rfl) rfl rfl (QF BI rfl (Qq rfl (Qp rfl (oA rfl) (Qq rfl (Qq rfl (Qp rfl (BT (i) hV.rd.any rfl B9 Cc rfl rfl) (QL rfl AU (hci _) (Qp rfl (BT (0) hRi.rd.any rfl AU Bg rfl rfl) (QL rfl U3 (cd _) (Qq rfl (Qq rfl (Qp rfl (BT (i) hV.rd.any rfl B9 Cc rfl rfl) (QL rfl AU (hci _) (Qp rfl (Cx (1) hRi.rd.any rfl AU Bg rfl rfl (by omega) (by omega)) (QF BI rfl ?_)))))))))))))));unfold Gg;simp only[cons_append,nil_append];refine A4 [1,15] (by kernel_rfl) rfl ?_;refine Ay rfl ?_ ?_
   ·refine Ql rfl Bk (Cell.blk 1 rfl rfl) (Qw (Qo 15 rfl ?_));refine Qc call176 rfl (OL ((i:Int)+1) d s _ hh hRs (fun x hx=>hlb x (mem_cons_of_mem _ hx)) (by simp at hl1;omega)) (fun rc h2 ms2 l2 hF=>?_);obtain⟨rfl,vs,mS,rfl,rfl,hOS⟩:=hF;refine Bt hOS fun h3 l3 hRS=>?_;have ovs:=hRS.rd.one;refine Qa (Qo 16 rfl (Al [_,_,_] rfl Bk AG rfl (by rfl) rfl rfl (by omega) rfl rfl rfl (fun g27=>Qa (Qo 17 rfl ?_))));refine AW 1 hO (RdL.one BX (x:=(⟨c,vs⟩:Ce)) Mh rfl) rfl Bk AG rfl (by omega) rfl rfl rfl (CN (l:=[⟨c,vs⟩]) (h:=h3) fun y hy=>by rw[List.mem_singleton.1 hy];exact hRS) (by(try simp only[length_singleton]);omega) (by(try simp only[length_singleton]);omega) rfl rfl rfl (fun v9 m9 hO9=>?_);have ov9:=hO9.o1;refine Qa (Qo 19 rfl ?_);refine AJ 2 _ rfl IJ rfl rfl (by assumption) rfl rfl (by(simp;done)) rfl rfl ?_;refine Qa (Qe (AL (Ai ?_)));exact AC _ ⟨v9,m9,O++[⟨c,vs⟩],rfl,AH l2 l3,rfl,hO9,by rw[K2,hgi,map_append,hOc];rfl,RdC.snoc' (fun a ha=>(hOs a ha).up (AH l2 l3)) hRS⟩ Qs
   refine Ay rfl ?_ ?_
   ·refine Qc call176 rfl (OL ((i:Int)+1) d s _ hh hRs (fun x hx=>hlb x (mem_cons_of_mem _ hx)) (by simp at hl1;omega)) (fun rc h2 ms2 l2 hF=>?_);obtain⟨rfl,vs,mS,rfl,rfl,hOS⟩:=hF;refine Bt hOS fun h3 l3 hRS=>?_;have ovs:=hRS.rd.one;refine Qa (A4 [1,16] (by kernel_rfl) rfl ?_);refine Ay rfl ?_ ?_
    ·refine Ql rfl Bk (Cell.blk 1 rfl rfl) (Qa (Qo 16 rfl (Al [_,_,_] rfl Bk AG rfl (by rfl) rfl rfl (by omega) rfl rfl rfl (fun g27=>Qa (Qo 17 rfl ?_)))));refine AW 1 hO (RdL.one BX (x:=(⟨c,vs⟩:Ce)) Mh rfl) rfl Bk AG rfl (by omega) rfl rfl rfl (CN (l:=[⟨c,vs⟩]) (h:=h3) fun y hy=>by rw[List.mem_singleton.1 hy];exact hRS) (by(try simp only[length_singleton]);omega) (by(try simp only[length_singleton]);omega) rfl rfl rfl (fun v9 m9 hO9=>?_);have ov9:=hO9.o1;refine Qa (Qo 19 rfl ?_);refine AJ 2 _ rfl IJ rfl rfl (by assumption) rfl rfl (by(simp;done)) rfl rfl ?_;refine Qa (Qe (AL (Ai ?_)));exact AC _ ⟨v9,m9,O++[⟨c,vs⟩],rfl,AH l2 l3,rfl,hO9,by rw[K2,hgi,map_append,hOc];rfl,RdC.snoc' (fun a ha=>(hOs a ha).up (AH l2 l3)) hRS⟩ Qs
    refine Ay rfl ?_ ?_
    ·refine Al [_,_,_] rfl Bk AG rfl (by rfl) rfl rfl (by omega) rfl rfl rfl (fun g27=>Qa (Qo 1 rfl (Ql rfl Bk (Cell.blk 2 rfl rfl) (Qa (Qo 17 rfl ?_)))));refine AW 1 hO (RdL.one BX (x:=(⟨c,vs⟩:Ce)) Mh rfl) rfl Bk AG rfl (by omega) rfl rfl rfl (CN (l:=[⟨c,vs⟩]) (h:=h3) fun y hy=>by rw[List.mem_singleton.1 hy];exact hRS) (by(try simp only[length_singleton]);omega) (by(try simp only[length_singleton]);omega) rfl rfl rfl (fun v9 m9 hO9=>?_);have ov9:=hO9.o1;refine Qa (Qo 19 rfl ?_);refine AJ 2 _ rfl IJ rfl rfl (by assumption) rfl rfl (by(simp;done)) rfl rfl ?_;refine Qa (Qe (AL (Ai ?_)));exact AC _ ⟨v9,m9,O++[⟨c,vs⟩],rfl,AH l2 l3,rfl,hO9,by rw[K2,hgi,map_append,hOc];rfl,RdC.snoc' (fun a ha=>(hOs a ha).up (AH l2 l3)) hRS⟩ Qs
    exact A3
   exact A3
  ·obtain⟨vO,mO,O,rfl,l2,rfl,hO,hOc,hOs⟩:=hI;have ovO:=hO.o1;refine Ad (Qm rfl (Qx (oA rfl) rfl (Qm rfl (Aj ?_))));exact Ak (L.length-(i+1)) _ (by omega) ⟨i+1,vO,mO,O,rfl,rfl,AH lh l2,rfl,by omega,hO,hOc,hOs⟩ Qs
 ·obtain rfl:i=L.length:=by omega
  refine As (Aa (Aa (Ae (Ab (Au (Qx (oG rfl CI AS (Seg.blk 1 rfl)) rfl ?_))))));refine Sa 2 [_] AS rfl (by simp[o1,ovO]) ?_;refine Am (Ao (AQ 1 rfl ?_));exact Bs (vs:=[_]) 1 rfl rfl CI rfl AS rfl rfl (⟨lh,mO,O,_,rfl,rfl,hO,hOc,hOs⟩)
theorem BS{h:Hp}{el:TypeId}{g:Nat}(l:List Int)(n:Nat)(e:l.length=n)(hn:n<=1000)(k:(Be g el (l.flatMap cI)).le h):RdL cI 1 h [] (.slice (some ⟨g,0,none⟩) n n) l:=by subst e;exact(OwnL.blk (g:=g) (el:=el) (F:=cI) (l:=l) l.length Bo rfl (by omega)).rdh k
theorem Im(n:Nat):K9 (n+1)=K9 n++[KP (n+1),KP (n+1)]:=by unfold K9;rw[range_succ,List.flatMap_append,<-append_assoc];rfl
theorem Q2(n:Nat):(K9 n).length=2+2*n:=by
 induction n with
 | zero=>rfl
 | succ n ih=>rw[Im,length_append,ih];simp;omega
theorem YL(n:Nat)(hn:n<=4):∀l∈K9 n,l≠[]/\l.length<=1000/\∀x∈l,-1000000<=x/\x<=1000000:=by rcases (by omega:n=0\/n=1\/n=2\/n=3\/n=4) with rfl|rfl|rfl|rfl|rfl<;>decide
def MK(m i:Nat):List (List Int):=([[0],[0],[0],[0],[1,-2,3],[1,-3,4],[1,-4,2]]:List (List Int))++((range i).map fun(k:Nat)=>[(1:Int),-1,2+((k%3:Nat):Int)])
def Pi(m i:Nat):List (List Int):=(range i).map fun(k:Nat)=>[(2:Int),8+(k:Int),5+((k%3:Nat):Int),-(8+(((k+1)%m:Nat):Int))]
theorem WM(n:Nat):OW n=MK (3*n) (3*n)++Pi (3*n) (3*n):=rfl
theorem Sh(m i:Nat):MK m (i+1)=MK m i++[[(1:Int),-1,2+((i%3:Nat):Int)]]:=by unfold MK;rw[range_succ,map_append,append_assoc];rfl
theorem Ss(m i:Nat):Pi m (i+1)=Pi m i++[[(2:Int),8+(i:Int),5+((i%3:Nat):Int),-(8+(((i+1)%m:Nat):Int))]]:=by unfold Pi;rw[range_succ,map_append];rfl
theorem Yx(n:Nat)(hn:n=3\/n=4):∀l∈OW n,l≠[]/\l.length<=1000/\∀x∈l,-1000000<=x/\x<=1000000:=by rcases hn with rfl|rfl<;>decide
theorem GZ(n:Nat)(hp:Hp)(hn:n<=4):FnT Tryz.prog 115 #[.int .i64 n] hp [] (fun r h' ms'=>hp.le h'/\NV h' r ms' (fun o=>o=OC (K9 n))):=by
 refine Aq func115 ntmps115 rfl rfl (fun w0 hw0=>?_);simp only[AV];have hE:=RdEs.nil hp;refine Au (CJ [.slice none 0 0] rfl AS rfl rfl (fun g2=>BG (Al [_] rfl AU Bg rfl (by rfl) rfl rfl (by omega) rfl rfl rfl (fun g7=>AE fun h1 l1 k1=>?_))));have hE:=(hE.up l1).snoc (BS [0] 1 rfl (by decide) k1);refine Al [_] rfl AU Bg rfl (by rfl) rfl rfl (by omega) rfl rfl rfl (fun g8=>AE fun h2 l2 k2=>?_);have hE:=(hE.up l2).snoc (BS [0] 1 rfl (by decide) k2);refine Ar [(0,_),(1,_)] [.slice none 0 0,.slice none 0 0] [_,_] rfl B9 Cc rfl (by omega) (by kernel_rfl) Qt rfl rfl rfl rfl (fun g9=>Qm rfl (Am (Ac (Au (Qm rfl (Am (Af ?_)))))))
 refine Ax (fun q sl h' ms'=>∃(i:Nat) (v3:Value) (m3:Hp) (es:List Value),q=n-i/\sl=[(0,.int .i64 n),(2,.pointer (some ⟨g2,0,none⟩)),(3,v3),(4,.int .i64 ((i:Int)+1))]/\hp.le h'/\ms'=[m3,Be g2 29 [.slice none 0 0]]/\i<=n/\OwnL cW 1 22 m3 v3 es/\RdEs h' es (K9 i))
  (n-0) _ ⟨0,_,_,_,rfl,rfl,AH l1 l2,rfl,by omega,OwnL.blk (g:=g9) (el:=22) (F:=cW) (l:=[_,_]) 2 Di rfl (by decide),hE⟩ Qs ?_
 rintro q sl h' ms' ⟨i,v3,m3,es,rfl,rfl,lh,rfl,hi,hO,hE⟩;have hel:es.length=2+2*i:=by rw[hE.1,Q2]
 have ov3:=hO.o1;refine Ac (Au (Qm rfl (Qm rfl (Qm rfl (Am ?_)))));refine Av rfl (fun hlt=>?_) (fun hlt=>?_)
 ·refine Ag (Ab (Ac (Af (Au (Qm rfl (Qx (oM rfl) rfl (Qx (oS rfl) rfl (Qm rfl (BG (Qm rfl (Qm rfl (Qx (MR rfl rfl (by omega)) rfl (Qm rfl (Qx (oA rfl) rfl (Ar [(0,_),(1,_),(2,_)] [.int .i64 0,.int .i64 0,.int .i64 0] [_,_,_] rfl AU Bg rfl (by omega) (by kernel_rfl) Qt rfl rfl rfl rfl (fun g23=>Qm rfl (Am (Bc fun h3 l3 k3=>?_))))))))))))))))));have hE:=hE.up l3;refine Ac (Au (Qm rfl (Qx (BP rfl rfl rfl (by omega) (by omega)) rfl (Qm rfl (Am ?_)))));refine Av rfl (fun hev=>?_) (fun hev=>?_)
  ·refine Ad (Qm rfl (Qm rfl (Qm rfl (Qx (oA rfl) rfl (Qx (MR rfl rfl (by omega)) rfl (Ar [(0,_),(1,_),(2,_)] [.int .i64 0,.int .i64 0,.int .i64 0] [_,_,_] rfl AU Bg rfl (by omega) (by kernel_rfl) Qt rfl rfl rfl rfl (fun g32=>Qm rfl (Am (Bc fun h4 l4 k4=>?_)))))))));have hE:=hE.up l4;refine Ac (Au (Qm rfl (Qm rfl (Am ?_))));refine Av rfl (fun h1=>?_) (fun h1=>?_)
   ·exact absurd h1 (by omega)
   ·have hrow:RdL cI 1 h4 [] (.slice (some ⟨g32,0,none⟩) 3 3) (KP (i+1)):=by
     have:=BS (el:=3) (g:=g32) (h:=h4) [(i:Int)+1,2*((i:Int)+1)-1,-(2*((i:Int)+1)-1+1)] 3 rfl (by decide) k4
     have e:KP (i+1)=[(i:Int)+1,2*((i:Int)+1)-1,-(2*((i:Int)+1)-1+1)]:=by unfold KP;rw[if_neg (by omega),if_pos (by omega)];simp<;>omega
     rw[e];exact this
    refine Ag (Ab (Ad (Qm rfl (Qm rfl (Qm rfl (Ar [(0,_),(1,_)] [.slice none 0 0,.slice none 0 0] [_,_] rfl B9 Cc rfl (by omega) (by kernel_rfl) Qt rfl rfl rfl rfl (fun g39=>?_)))))));refine AW 1 hO (OwnL.blk (g:=g39) (F:=cW) (l:=[.slice (some ⟨g32,0,none⟩) 3 3,.slice (some ⟨g32,0,none⟩) 3 3]) 2 Di rfl (by decide) |>.rd Mh) rfl B9 Cc rfl (by omega) rfl rfl rfl (F0 fun u hu=>by simp only[mem_cons,not_mem_nil,or_false]at hu;rcases hu with rfl|rfl<;>rfl) (by(try simp only[length_cons,length_nil]);omega) (by(try simp only[length_cons,length_nil]);omega) rfl rfl rfl (fun v9 m9 hO9=>?_);have ov9:=hO9.o1;refine Qm rfl (Aj (Ai (Ab (Ad (Qm rfl (Qx (oA rfl) rfl (Qm rfl (Aj (AQ 0 rfl ?_)))))))));exact Ak (n-(i+1)) _ (by omega) ⟨i+1,v9,m9,_,rfl,rfl,AH lh (AH l3 l4),rfl,by omega,hO9,by rw[Im];have:=(hE.snoc hrow).snoc hrow;rwa [append_assoc,append_assoc]at this⟩ Qs
  ·refine Ag (Ab (Ac (Au (Qm rfl (Qm rfl (Am ?_))))));refine Av rfl (fun h1=>?_) (fun h1=>?_)
   ·refine Ad (Ar [(0,_),(1,_),(2,_)] [.int .i64 0,.int .i64 0,.int .i64 0] [_,_,_] rfl AU Bg rfl (by omega) (by kernel_rfl) Qt rfl rfl rfl rfl (fun g35=>Qm rfl (Am (Bc fun h4 l4 k4=>?_))));have hE:=hE.up l4;have hi0:i=0:=by omega
    have hrow:RdL cI 1 h4 [] (.slice (some ⟨g35,0,none⟩) 3 3) (KP (i+1)):=by subst hi0;exact BS (el:=3) (g:=g35) (h:=h4) [1,-1,2] 3 rfl (by decide) k4
    refine Ad (Qm rfl (Qm rfl (Qm rfl (Ar [(0,_),(1,_)] [.slice none 0 0,.slice none 0 0] [_,_] rfl B9 Cc rfl (by omega) (by kernel_rfl) Qt rfl rfl rfl rfl (fun g39=>?_)))));refine AW 1 hO (OwnL.blk (g:=g39) (F:=cW) (l:=[.slice (some ⟨g35,0,none⟩) 3 3,.slice (some ⟨g35,0,none⟩) 3 3]) 2 Di rfl (by decide) |>.rd Mh) rfl B9 Cc rfl (by omega) rfl rfl rfl (F0 fun u hu=>by simp only[mem_cons,not_mem_nil,or_false]at hu;rcases hu with rfl|rfl<;>rfl) (by(try simp only[length_cons,length_nil]);omega) (by(try simp only[length_cons,length_nil]);omega) rfl rfl rfl (fun v9 m9 hO9=>?_);have ov9:=hO9.o1;refine Qm rfl (Aj (Ai (Ab (Ad (Qm rfl (Qx (oA rfl) rfl (Qm rfl (Aj (AQ 0 rfl ?_)))))))));exact Ak (n-(i+1)) _ (by omega) ⟨i+1,v9,m9,_,rfl,rfl,AH lh (AH l3 l4),rfl,by omega,hO9,by rw[Im];have:=(hE.snoc hrow).snoc hrow;rwa [append_assoc,append_assoc]at this⟩ Qs
   ·have hrow:RdL cI 1 h3 [] (.slice (some ⟨g23,0,none⟩) 3 3) (KP (i+1)):=by
     have:=BS (el:=3) (g:=g23) (h:=h3) [(i:Int)+1,-(2*((i:Int)+1)-1),2*((i:Int)+1)-1+1] 3 rfl (by decide) k3
     have e:KP (i+1)=[(i:Int)+1,-(2*((i:Int)+1)-1),2*((i:Int)+1)-1+1]:=by unfold KP;rw[if_neg (by omega),if_neg (by omega)];simp<;>omega
     rw[e];exact this
    refine Ag (Ab (Ad (Qm rfl (Qm rfl (Qm rfl (Ar [(0,_),(1,_)] [.slice none 0 0,.slice none 0 0] [_,_] rfl B9 Cc rfl (by omega) (by kernel_rfl) Qt rfl rfl rfl rfl (fun g39=>?_)))))));refine AW 1 hO (OwnL.blk (g:=g39) (F:=cW) (l:=[.slice (some ⟨g23,0,none⟩) 3 3,.slice (some ⟨g23,0,none⟩) 3 3]) 2 Di rfl (by decide) |>.rd Mh) rfl B9 Cc rfl (by omega) rfl rfl rfl (F0 fun u hu=>by simp only[mem_cons,not_mem_nil,or_false]at hu;rcases hu with rfl|rfl<;>rfl) (by(try simp only[length_cons,length_nil]);omega) (by(try simp only[length_cons,length_nil]);omega) rfl rfl rfl (fun v9 m9 hO9=>?_);have ov9:=hO9.o1;refine Qm rfl (Aj (Ai (Ab (Ad (Qm rfl (Qx (oA rfl) rfl (Qm rfl (Aj (AQ 0 rfl ?_)))))))));exact Ak (n-(i+1)) _ (by omega) ⟨i+1,v9,m9,_,rfl,rfl,AH lh l3,rfl,by omega,hO9,by rw[Im];have:=(hE.snoc hrow).snoc hrow;rwa [append_assoc,append_assoc]at this⟩ Qs
 ·obtain rfl:i=n:=by omega
  refine Bc fun h3 l3 k3=>?_;have hV:=hO.rdh (ms:=[]) k3;have hE:=hE.up l3;refine As (Aa (Aa (Ae (Ab (Au (Qm rfl ?_))))));refine Qc call114 rfl (GY (K9 i) _ _ h3 hV hE (YL i hn) (by rw[Q2];omega)) (fun rC h5 ms5 l5 hF=>?_);obtain⟨l5',m,A,vA,rfl,rfl,hOA,hA,hs⟩:=hF;have ovA:=hOA.o1;refine Sa 1 [_] AS rfl (by simp[ov3,ovA]) ?_;refine Am (Ao ?_);exact Bs (vs:=[_]) 1 rfl rfl CI rfl AS rfl rfl (⟨AH lh (AH l3 l5),m,A,_,rfl,rfl,hOA,hA,hs⟩)
theorem N3(n:Nat)(hp:Hp)(hn:n=3\/n=4):FnT Tryz.prog 116 #[.int .i64 n] hp [] (fun r h' ms'=>hp.le h'/\NV h' r ms' (fun o=>o=OC (OW n))):=by
 have hn4:n<=4:=by omega
 refine Aq func116 ntmps116 rfl rfl (fun w0 hw0=>?_);simp only[AV];have hE:=RdEs.nil hp;refine Au (CJ [.slice none 0 0] rfl AS rfl rfl (fun g2=>BG (Al [_] rfl AU Bg rfl (by rfl) rfl rfl (by omega) rfl rfl rfl (fun g6=>AE fun h1 l1 k1=>?_))));have hE:=(hE.up l1).snoc (BS [0] 1 rfl (by decide) k1);refine Al [_] rfl AU Bg rfl (by rfl) rfl rfl (by omega) rfl rfl rfl (fun g7=>AE fun h2 l2 k2=>?_);have hE:=(hE.up l2).snoc (BS [0] 1 rfl (by decide) k2);refine Al [_] rfl AU Bg rfl (by rfl) rfl rfl (by omega) rfl rfl rfl (fun g8=>AE fun h3 l3 k3=>?_);have hE:=(hE.up l3).snoc (BS [0] 1 rfl (by decide) k3);refine Al [_] rfl AU Bg rfl (by rfl) rfl rfl (by omega) rfl rfl rfl (fun g9=>AE fun h4 l4 k4=>?_);have hE:=(hE.up l4).snoc (BS [0] 1 rfl (by decide) k4);refine Ar [(0,_),(1,_),(2,_)] [.int .i64 0,.int .i64 0,.int .i64 0] [_,_,_] rfl AU Bg rfl (by omega) (by kernel_rfl) Qt rfl rfl rfl rfl (fun g10=>AE fun h5 l5 k5=>?_);have hE:=(hE.up l5).snoc (BS [1,-2,3] 3 rfl (by decide) k5);refine Ar [(0,_),(1,_),(2,_)] [.int .i64 0,.int .i64 0,.int .i64 0] [_,_,_] rfl AU Bg rfl (by omega) (by kernel_rfl) Qt rfl rfl rfl rfl (fun g11=>AE fun h6 l6 k6=>?_);have hE:=(hE.up l6).snoc (BS [1,-3,4] 3 rfl (by decide) k6);refine Ar [(0,_),(1,_),(2,_)] [.int .i64 0,.int .i64 0,.int .i64 0] [_,_,_] rfl AU Bg rfl (by omega) (by kernel_rfl) Qt rfl rfl rfl rfl (fun g12=>AE fun h7 l7 k7=>?_);have hE:=(hE.up l7).snoc (BS [1,-4,2] 3 rfl (by decide) k7);have l17:=AH l1 (AH l2 (AH l3 (AH l4 (AH l5 (AH l6 l7)))));refine Ar [(0,_),(1,_),(2,_),(3,_),(4,_),(5,_),(6,_)] [.slice none 0 0,.slice none 0 0,.slice none 0 0,.slice none 0 0,.slice none 0 0,.slice none 0 0,.slice none 0 0] [_,_,_,_,_,_,_] rfl B9 Cc rfl (by omega) (by kernel_rfl) Qt rfl rfl rfl rfl (fun g13=>Qm rfl (Am ?_));obtain⟨M,hM⟩:∃M,3*n=M:=⟨_,rfl⟩
 have hM3:3*(n:Int)=M:=by omega
 have hMb:9<=M/\M<=12:=by omega
 refine Bd (fun sl h' ms'=>∃(v3:Value) (m3:Hp) (es:List Value),sl=[(0,.int .i64 n),(2,.pointer (some ⟨g2,0,none⟩)),(3,v3)]/\hp.le h'/\ms'=[m3,Be g2 29 [.slice none 0 0]]/\OwnL cW 1 22 m3 v3 es/\RdEs h' es (MK M M)) ?_ (fun s h ms hI=>?_)
 ·refine Ac (Ad (Qm rfl (Am (Af ?_))))
  refine Ax (fun q sl h' ms'=>∃(i:Nat) (v3:Value) (m3:Hp) (es:List Value),q=M-i/\sl=[(0,.int .i64 n),(2,.pointer (some ⟨g2,0,none⟩)),(3,v3),(4,.int .i64 i)]/\hp.le h'/\ms'=[m3,Be g2 29 [.slice none 0 0]]/\i<=M/\OwnL cW 1 22 m3 v3 es/\RdEs h' es (MK M i))
   (M-0) _ ⟨0,_,_,_,rfl,rfl,l17,rfl,by omega,OwnL.blk (g:=g13) (el:=22) (F:=cW) (l:=[_,_,_,_,_,_,_]) 7 Di rfl (by decide),hE⟩ Qs ?_
  rintro q sl h' ms' ⟨i,v3,m3,es,rfl,rfl,lh,rfl,hi,hO,hE⟩;have hel:es.length=7+i:=by rw[hE.1];unfold MK;simp;omega
  have ov3:=hO.o1;refine Ac (Au (Qm rfl (Qm rfl (Qx (oM rfl) rfl (Qm rfl (Am ?_))))));refine Av rfl (fun hlt=>?_) (fun hlt=>?_)
  ·refine Ag (Ab (Ac (Af (Ad (Qm rfl (Qm rfl (Qx (BP rfl rfl rfl (by omega) (by omega)) rfl (Qx (oA rfl) rfl (Ar [(0,_),(1,_),(2,_)] [.int .i64 0,.int .i64 0,.int .i64 0] [_,_,_] rfl AU Bg rfl (by omega) (by kernel_rfl) Qt rfl rfl rfl rfl (fun g24=>AE fun h8 l8 k8=>?_))))))))));have hrow:RdL cI 1 h8 [] (.slice (some ⟨g24,0,none⟩) 3 3) [(1:Int),-1,2+((i%3:Nat):Int)]:=BS (el:=3) [(1:Int),-1,2+((i%3:Nat):Int)] 3 rfl (by decide) k8;have hE:=hE.up l8;refine Al [_] rfl B9 Cc rfl (by rfl) rfl rfl (by omega) rfl rfl rfl (fun g25=>?_);refine AW 1 hO (RdL.one Di (x:=(.slice (some ⟨g24,0,none⟩) 3 3:Value)) Mh rfl) rfl B9 Cc rfl (by omega) rfl rfl rfl (F0 fun u hu=>by rw[List.mem_singleton.1 hu];rfl) (by(try simp only[length_singleton]);omega) (by(try simp only[length_singleton]);omega) rfl rfl rfl (fun v9 m9 hO9=>?_);have ov9:=hO9.o1;refine Qm rfl (Aj (Ai (Ab (Ad (Qm rfl (Qx (oA rfl) rfl (Qm rfl (Aj (AQ 0 rfl ?_)))))))));exact Ak (M-(i+1)) _ (by omega) ⟨i+1,v9,m9,_,rfl,rfl,AH lh l8,rfl,by omega,hO9,by rw[Sh];exact hE.snoc hrow⟩ Qs
  ·obtain rfl:i=M:=by omega
   refine As (Aa (Aa (Ae ?_)));exact AC _ ⟨v3,m3,es,rfl,lh,rfl,hO,hE⟩ Qs
 ·obtain⟨v3,m3,es,rfl,lh,rfl,hO,hE⟩:=hI;have hEl:=hE.1;refine Ac (Au (Qm rfl (Am (Af ?_))))
  refine Ax (fun q sl h' ms'=>∃(i:Nat) (v3:Value) (m3:Hp) (es:List Value),q=M-i/\sl=[(0,.int .i64 n),(2,.pointer (some ⟨g2,0,none⟩)),(3,v3),(5,.int .i64 i)]/\hp.le h'/\ms'=[m3,Be g2 29 [.slice none 0 0]]/\i<=M/\OwnL cW 1 22 m3 v3 es/\RdEs h' es (MK M M++Pi M i))
   (M-0) _ ⟨0,v3,m3,es,rfl,rfl,lh,rfl,by omega,hO,by rw[show Pi M 0=[] from rfl,append_nil];exact hE⟩ Qs ?_
  rintro q sl h' ms' ⟨i,v3,m3,es,rfl,rfl,lh,rfl,hi,hO,hE⟩;have hel:es.length=7+M+i:=by rw[hE.1];unfold MK Pi;simp;omega
  have ov3:=hO.o1;refine Ac (Au (Qm rfl (Qm rfl (Qx (oM rfl) rfl (Qm rfl (Am ?_))))));refine Av rfl (fun hlt=>?_) (fun hlt=>?_)
  ·have hm0:0<=((i:Int)+1)%(3*(n:Int)):=Int.emod_nonneg _ (by omega);have hm1:((i:Int)+1)%(3*(n:Int))<3*(n:Int):=Int.emod_lt_of_pos _ (by omega);refine Ag (Ab (Ac (Af (Ad (Qm rfl (Qm rfl (Qx (oA rfl) rfl (Qm rfl (Qx (BP rfl rfl rfl (by omega) (by omega)) rfl (Qx (oA rfl) rfl (Qm rfl (Qx (oA rfl) rfl (Qm rfl (Qx (oM rfl) rfl (Qx (BP rfl rfl rfl (by omega) (by omega)) rfl (Qx (oA rfl) rfl (Qx (MR rfl rfl (by omega)) rfl (Ar [(0,_),(1,_),(2,_),(3,_)] [.int .i64 0,.int .i64 0,.int .i64 0,.int .i64 0] [_,_,_,_] rfl AU Bg rfl (by omega) (by kernel_rfl) Qt rfl rfl rfl rfl (fun g46=>AE fun h8 l8 k8=>?_)))))))))))))))))));have hrow:RdL cI 1 h8 [] (.slice (some ⟨g46,0,none⟩) 4 4) [(2:Int),8+(i:Int),5+((i%3:Nat):Int),-(8+(((i+1)%M:Nat):Int))]:=BS (el:=3) [(2:Int),8+(i:Int),5+((i%3:Nat):Int),-(8+(((i+1)%M:Nat):Int))] 4 rfl (by decide) (by subst hM;exact k8);have hE:=hE.up l8;refine Al [_] rfl B9 Cc rfl (by rfl) rfl rfl (by omega) rfl rfl rfl (fun g47=>?_);refine AW 1 hO (RdL.one Di (x:=(.slice (some ⟨g46,0,none⟩) 4 4:Value)) Mh rfl) rfl B9 Cc rfl (by omega) rfl rfl rfl (F0 fun u hu=>by rw[List.mem_singleton.1 hu];rfl) (by(try simp only[length_singleton]);omega) (by(try simp only[length_singleton]);omega) rfl rfl rfl (fun v9 m9 hO9=>?_);have ov9:=hO9.o1;refine Qm rfl (Aj (Ai (Ab (Ad (Qm rfl (Qx (oA rfl) rfl (Qm rfl (Aj (AQ 0 rfl ?_)))))))));exact Ak (M-(i+1)) _ (by omega) ⟨i+1,v9,m9,_,rfl,rfl,AH lh l8,rfl,by omega,hO9,by rw[Ss,<-append_assoc];exact hE.snoc hrow⟩ Qs
  ·obtain rfl:i=M:=by omega
   refine Bc fun h9 l9 k9=>?_;have hV:=hO.rdh (ms:=[]) k9;have hE:RdEs h9 es (OW n):=by rw[WM,hM];exact hE.up l9
   refine As (Aa (Aa (Ae (Ab (Au (Qm rfl ?_))))));refine Qc call114 rfl (GY (OW n) _ _ h9 hV hE (Yx n hn) (by rw[<-hE.1];omega)) (fun rC h10 ms10 l10 hF=>?_);obtain⟨l10',m,A,vA,rfl,rfl,hOA,hA,hs⟩:=hF;have ovA:=hOA.o1;refine Sa 1 [_] AS rfl (by simp[ov3,ovA]) ?_;refine Am (Ao ?_);exact Bs (vs:=[_]) 1 rfl rfl CI rfl AS rfl rfl (⟨AH lh (AH l9 l10),m,A,_,rfl,rfl,hOA,hA,hs⟩)
theorem GR{L:List (List Int)}(h:L=[[0]]\/L=Zw\/L=YN\/L=Zu):L.length<=1000/\∀l∈L,l≠[]/\l.length<=1000/\∀x∈l,-1000000<=x/\x<=1000000:=by rcases h with rfl|rfl|rfl|rfl<;>decide
theorem IC(n:Int)(hp:Hp)(hn:BE n):FnT Tryz.prog 45 #[.int .i64 n] hp [] (fun r h' ms'=>hp.le h'/\NV h' r ms' (fun o=>o=OC (EL (n%10).toNat))):=by
 refine Aq func45 ntmps45 rfl rfl (fun w0 hw0=>?_);simp only[AV];obtain⟨k,hk⟩:∃k:Nat,n%10=k:=⟨(n%10).toNat,by omega⟩
 have hk10:k<10:=by omega
 rw[hk,Int.toNat_natCast];refine Au (CJ [.slice none 0 0] rfl AS rfl rfl (fun g2=>Am (Ac (Au (Qm rfl (Qx (AN rfl call34 rfl (FX n 10 hn (by decide) _ _)) rfl (Am (Af (Au (Qm rfl (Qm rfl (Am ?_))))))))))));refine Av rfl (fun h0=>?_) (fun h0=>?_)
 ·have hE:=RdEs.nil hp;refine Au (Al [_] rfl AU Bg rfl (by rfl) rfl rfl (by omega) rfl rfl rfl (fun g7=>AE fun h1 l1 k1=>?_));have hE:=(hE.up l1).snoc (BS [0] 1 rfl (by decide) k1);refine Al [_] rfl B9 Cc rfl (by rfl) rfl rfl (by omega) rfl rfl rfl (fun g8=>AE fun hz lz kz=>?_);have hE:=hE.up lz;have hV:=(OwnL.blk (g:=g8) (el:=22) (F:=cW) (l:=[_]) 1 Di rfl (by decide)).rdh (ms:=[]) kz;have lall:=(AH l1 lz)
  refine Qc call114 rfl (GY [[0]] _ _ hz hV hE (GR (.inl rfl)).2 (GR (.inl rfl)).1) (fun rC hc msc lc hF=>?_);obtain⟨lc',m,A,vA,rfl,rfl,hOA,hA,hs⟩:=hF;have ovA:=hOA.o1;refine Sa 1 [_] AS rfl (by simp[ovA]) ?_;refine Am (Ao (An (Ah ?_)));exact Bs (vs:=[_]) 1 rfl rfl CI rfl AS rfl rfl (⟨AH lall lc',m,A,_,rfl,rfl,hOA,by rw[hA];unfold EL;rw[if_pos (by omega)],hs⟩)
 ·refine Ac (Au (Qm rfl (Qm rfl (Am ?_))));refine Av rfl (fun h1=>?_) (fun h1=>?_)
  ·refine Ag (Ab ?_);refine Av rfl (fun hc=>?_) (fun hc=>absurd (h1) hc);refine Au (Qm rfl (Qx (AN rfl call34 rfl (FX n 10 hn (by decide) _ _)) rfl ?_));rw[hk];refine Qc call115 rfl (GZ k hp (by omega)) (fun rC hc msc lc hF=>?_);obtain⟨lc',m,A,vA,rfl,rfl,hOA,hA,hs⟩:=hF;have ovA:=hOA.o1;refine Sa 1 [_] AS rfl (by simp[ovA]) ?_;refine Am (Ao (An (Ah ?_)));exact Bs (vs:=[_]) 1 rfl rfl CI rfl AS rfl rfl (⟨lc',m,A,_,rfl,rfl,hOA,by rw[hA];unfold EL;rw[if_neg (by omega),if_pos (by omega)],hs⟩)
  ·refine Ac (Ad (Qm rfl (Qm rfl (Am ?_))));refine Av rfl (fun h2=>?_) (fun h2=>?_)
   ·refine Ag (Ab ?_);refine Av rfl (fun hc=>?_) (fun hc=>absurd (h2) hc);refine Au (Qm rfl (Qx (AN rfl call34 rfl (FX n 10 hn (by decide) _ _)) rfl ?_));rw[hk];refine Qc call115 rfl (GZ k hp (by omega)) (fun rC hc msc lc hF=>?_);obtain⟨lc',m,A,vA,rfl,rfl,hOA,hA,hs⟩:=hF;have ovA:=hOA.o1;refine Sa 1 [_] AS rfl (by simp[ovA]) ?_;refine Am (Ao (An (Ah ?_)));exact Bs (vs:=[_]) 1 rfl rfl CI rfl AS rfl rfl (⟨lc',m,A,_,rfl,rfl,hOA,by rw[hA];unfold EL;rw[if_neg (by omega),if_pos (by omega)],hs⟩)
   ·refine Ad (Qm rfl (Qm rfl (Am ?_)));refine Av rfl (fun h3=>?_) (fun h3=>?_)
    ·refine Ac (Ad (Qm rfl (Qx (AN rfl call34 rfl (FX n 10 hn (by decide) _ _)) rfl ?_)));rw[hk];refine Qc call115 rfl (GZ k hp (by omega)) (fun rC hc msc lc hF=>?_);obtain⟨lc',m,A,vA,rfl,rfl,hOA,hA,hs⟩:=hF;have ovA:=hOA.o1;refine Sa 1 [_] AS rfl (by simp[ovA]) ?_;refine Am (Ao (An (Ah ?_)));exact Bs (vs:=[_]) 1 rfl rfl CI rfl AS rfl rfl (⟨lc',m,A,_,rfl,rfl,hOA,by rw[hA];unfold EL;rw[if_neg (by omega),if_pos (by omega)],hs⟩)
    ·refine Ac (Ad (Qm rfl (Qm rfl (Am ?_))));refine Av rfl (fun h4=>?_) (fun h4=>?_)
     ·refine Ac (Ad (Qc call115 rfl (GZ 0 hp (by omega)) (fun rC hc msc lc hF=>?_)));obtain⟨lc',m,A,vA,rfl,rfl,hOA,hA,hs⟩:=hF;have ovA:=hOA.o1;refine Sa 1 [_] AS rfl (by simp[ovA]) ?_;refine Am (Ao (An (Ah ?_)));exact Bs (vs:=[_]) 1 rfl rfl CI rfl AS rfl rfl (⟨lc',m,A,_,rfl,rfl,hOA,by rw[hA];unfold EL;rw[if_neg (by omega),if_neg (by omega),if_pos (by omega)],hs⟩)
     ·refine Ac (Ad (Qm rfl (Qm rfl (Am ?_))));refine Av rfl (fun h5=>?_) (fun h5=>?_)
      ·have hE:=RdEs.nil hp;refine Au (Al [_] rfl AU Bg rfl (by rfl) rfl rfl (by omega) rfl rfl rfl (fun g22=>AE fun h1 l1 k1=>?_));have hE:=(hE.up l1).snoc (BS [0] 1 rfl (by decide) k1);refine Al [_] rfl AU Bg rfl (by rfl) rfl rfl (by omega) rfl rfl rfl (fun g23=>AE fun h2 l2 k2=>?_);have hE:=(hE.up l2).snoc (BS [0] 1 rfl (by decide) k2);refine Al [_] rfl AU Bg rfl (by rfl) rfl rfl (by omega) rfl rfl rfl (fun g24=>AE fun h3 l3 k3=>?_);have hE:=(hE.up l3).snoc (BS [0] 1 rfl (by decide) k3);refine Ar [(0,_),(1,_),(2,_)] [.int .i64 0,.int .i64 0,.int .i64 0] [_,_,_] rfl AU Bg rfl (by omega) (by kernel_rfl) Qt rfl rfl rfl rfl (fun g25=>AE fun h4 l4 k4=>?_);have hE:=(hE.up l4).snoc (BS [1,-1,2] 3 rfl (by decide) k4);refine Ar [(0,_),(1,_),(2,_)] [.int .i64 0,.int .i64 0,.int .i64 0] [_,_,_] rfl AU Bg rfl (by omega) (by kernel_rfl) Qt rfl rfl rfl rfl (fun g26=>AE fun h5 l5 k5=>?_);have hE:=(hE.up l5).snoc (BS [1,-1,2] 3 rfl (by decide) k5);refine Ar [(0,_),(1,_),(2,_)] [.int .i64 0,.int .i64 0,.int .i64 0] [_,_,_] rfl AU Bg rfl (by omega) (by kernel_rfl) Qt rfl rfl rfl rfl (fun g27=>AE fun h6 l6 k6=>?_);have hE:=(hE.up l6).snoc (BS [1,-2,3] 3 rfl (by decide) k6);refine Ar [(0,_),(1,_),(2,_)] [.int .i64 0,.int .i64 0,.int .i64 0] [_,_,_] rfl AU Bg rfl (by omega) (by kernel_rfl) Qt rfl rfl rfl rfl (fun g28=>AE fun h7 l7 k7=>?_);have hE:=(hE.up l7).snoc (BS [1,-2,3] 3 rfl (by decide) k7);refine Ar [(0,_),(1,_),(2,_)] [.int .i64 0,.int .i64 0,.int .i64 0] [_,_,_] rfl AU Bg rfl (by omega) (by kernel_rfl) Qt rfl rfl rfl rfl (fun g29=>AE fun h8 l8 k8=>?_);have hE:=(hE.up l8).snoc (BS [1,-1,3] 3 rfl (by decide) k8);refine Ar [(0,_),(1,_),(2,_)] [.int .i64 0,.int .i64 0,.int .i64 0] [_,_,_] rfl AU Bg rfl (by omega) (by kernel_rfl) Qt rfl rfl rfl rfl (fun g30=>AE fun h9 l9 k9=>?_);have hE:=(hE.up l9).snoc (BS [1,-1,3] 3 rfl (by decide) k9);refine Ar [(0,_),(1,_),(2,_),(3,_)] [.int .i64 0,.int .i64 0,.int .i64 0,.int .i64 0] [_,_,_,_] rfl AU Bg rfl (by omega) (by kernel_rfl) Qt rfl rfl rfl rfl (fun g31=>AE fun h10 l10 k10=>?_);have hE:=(hE.up l10).snoc (BS [2,4,6,-8] 4 rfl (by decide) k10);refine Ar [(0,_),(1,_),(2,_),(3,_)] [.int .i64 0,.int .i64 0,.int .i64 0,.int .i64 0] [_,_,_,_] rfl AU Bg rfl (by omega) (by kernel_rfl) Qt rfl rfl rfl rfl (fun g32=>AE fun h11 l11 k11=>?_);have hE:=(hE.up l11).snoc (BS [2,4,7,-9] 4 rfl (by decide) k11);refine Ar [(0,_),(1,_),(2,_),(3,_)] [.int .i64 0,.int .i64 0,.int .i64 0,.int .i64 0] [_,_,_,_] rfl AU Bg rfl (by omega) (by kernel_rfl) Qt rfl rfl rfl rfl (fun g33=>AE fun h12 l12 k12=>?_);have hE:=(hE.up l12).snoc (BS [2,5,6,-9] 4 rfl (by decide) k12);refine Ar [(0,_),(1,_),(2,_),(3,_)] [.int .i64 0,.int .i64 0,.int .i64 0,.int .i64 0] [_,_,_,_] rfl AU Bg rfl (by omega) (by kernel_rfl) Qt rfl rfl rfl rfl (fun g34=>AE fun h13 l13 k13=>?_);have hE:=(hE.up l13).snoc (BS [2,5,7,-8] 4 rfl (by decide) k13);refine Ar [(0,_),(1,_),(2,_),(3,_),(4,_),(5,_),(6,_),(7,_),(8,_),(9,_),(10,_),(11,_),(12,_)] [.slice none 0 0,.slice none 0 0,.slice none 0 0,.slice none 0 0,.slice none 0 0,.slice none 0 0,.slice none 0 0,.slice none 0 0,.slice none 0 0,.slice none 0 0,.slice none 0 0,.slice none 0 0,.slice none 0 0] [_,_,_,_,_,_,_,_,_,_,_,_,_] rfl B9 Cc rfl (by omega) (by kernel_rfl) Qt rfl rfl rfl rfl (fun g35=>AE fun hz lz kz=>?_);have hE:=hE.up lz;have hV:=(OwnL.blk (g:=g35) (el:=22) (F:=cW) (l:=[_,_,_,_,_,_,_,_,_,_,_,_,_]) 13 Di rfl (by decide)).rdh (ms:=[]) kz;have lall:=(AH l1 (AH l2 (AH l3 (AH l4 (AH l5 (AH l6 (AH l7 (AH l8 (AH l9 (AH l10 (AH l11 (AH l12 (AH l13 lz)))))))))))))
       refine Qc call114 rfl (GY Zw _ _ hz hV hE (GR (.inr (.inl rfl))).2 (GR (.inr (.inl rfl))).1) (fun rC hc msc lc hF=>?_);obtain⟨lc',m,A,vA,rfl,rfl,hOA,hA,hs⟩:=hF;have ovA:=hOA.o1;refine Sa 1 [_] AS rfl (by simp[ovA]) ?_;refine Am (Ao (An (Ah ?_)));exact Bs (vs:=[_]) 1 rfl rfl CI rfl AS rfl rfl (⟨AH lall lc',m,A,_,rfl,rfl,hOA,by rw[hA];unfold EL;rw[if_neg (by omega),if_neg (by omega),if_neg (by omega),if_pos (by omega)],hs⟩)
      ·refine Ac (Ad (Qm rfl (Qm rfl (Am ?_))));refine Av rfl (fun h6=>?_) (fun h6=>?_)
       ·refine Ac (Ad (Qc call116 rfl (N3 3 hp (by omega)) (fun rC hc msc lc hF=>?_)));obtain⟨lc',m,A,vA,rfl,rfl,hOA,hA,hs⟩:=hF;have ovA:=hOA.o1;refine Sa 1 [_] AS rfl (by simp[ovA]) ?_;refine Am (Ao (An (Ah ?_)));exact Bs (vs:=[_]) 1 rfl rfl CI rfl AS rfl rfl (⟨lc',m,A,_,rfl,rfl,hOA,by rw[hA];unfold EL;rw[if_neg (by omega),if_neg (by omega),if_neg (by omega),if_neg (by omega),if_pos (by omega)],hs⟩)
       ·refine Ac (Ad (Qm rfl (Qm rfl (Am ?_))));refine Av rfl (fun h7=>?_) (fun h7=>?_)
        ·have hE:=RdEs.nil hp;refine Au (Al [_] rfl AU Bg rfl (by rfl) rfl rfl (by omega) rfl rfl rfl (fun g42=>AE fun h1 l1 k1=>?_));have hE:=(hE.up l1).snoc (BS [0] 1 rfl (by decide) k1);refine Al [_] rfl AU Bg rfl (by rfl) rfl rfl (by omega) rfl rfl rfl (fun g43=>AE fun h2 l2 k2=>?_);have hE:=(hE.up l2).snoc (BS [0] 1 rfl (by decide) k2);refine Al [_] rfl AU Bg rfl (by rfl) rfl rfl (by omega) rfl rfl rfl (fun g44=>AE fun h3 l3 k3=>?_);have hE:=(hE.up l3).snoc (BS [0] 1 rfl (by decide) k3);refine Al [_] rfl AU Bg rfl (by rfl) rfl rfl (by omega) rfl rfl rfl (fun g45=>AE fun h4 l4 k4=>?_);have hE:=(hE.up l4).snoc (BS [0] 1 rfl (by decide) k4);refine Ar [(0,_),(1,_),(2,_)] [.int .i64 0,.int .i64 0,.int .i64 0] [_,_,_] rfl AU Bg rfl (by omega) (by kernel_rfl) Qt rfl rfl rfl rfl (fun g46=>AE fun h5 l5 k5=>?_);have hE:=(hE.up l5).snoc (BS [1,-1,2] 3 rfl (by decide) k5);refine Ar [(0,_),(1,_),(2,_)] [.int .i64 0,.int .i64 0,.int .i64 0] [_,_,_] rfl AU Bg rfl (by omega) (by kernel_rfl) Qt rfl rfl rfl rfl (fun g47=>AE fun h6 l6 k6=>?_);have hE:=(hE.up l6).snoc (BS [1,-1,2] 3 rfl (by decide) k6);refine Ar [(0,_),(1,_),(2,_)] [.int .i64 0,.int .i64 0,.int .i64 0] [_,_,_] rfl AU Bg rfl (by omega) (by kernel_rfl) Qt rfl rfl rfl rfl (fun g48=>AE fun h7 l7 k7=>?_);have hE:=(hE.up l7).snoc (BS [1,-3,4] 3 rfl (by decide) k7);refine Ar [(0,_),(1,_),(2,_)] [.int .i64 0,.int .i64 0,.int .i64 0] [_,_,_] rfl AU Bg rfl (by omega) (by kernel_rfl) Qt rfl rfl rfl rfl (fun g49=>AE fun h8 l8 k8=>?_);have hE:=(hE.up l8).snoc (BS [1,-3,4] 3 rfl (by decide) k8);refine Ar [(0,_),(1,_),(2,_)] [.int .i64 0,.int .i64 0,.int .i64 0] [_,_,_] rfl AU Bg rfl (by omega) (by kernel_rfl) Qt rfl rfl rfl rfl (fun g50=>AE fun h9 l9 k9=>?_);have hE:=(hE.up l9).snoc (BS [1,-1,3] 3 rfl (by decide) k9);refine Ar [(0,_),(1,_),(2,_)] [.int .i64 0,.int .i64 0,.int .i64 0] [_,_,_] rfl AU Bg rfl (by omega) (by kernel_rfl) Qt rfl rfl rfl rfl (fun g51=>AE fun h10 l10 k10=>?_);have hE:=(hE.up l10).snoc (BS [1,-2,4] 3 rfl (by decide) k10);refine Ar [(0,_),(1,_),(2,_)] [.int .i64 0,.int .i64 0,.int .i64 0] [_,_,_] rfl AU Bg rfl (by omega) (by kernel_rfl) Qt rfl rfl rfl rfl (fun g52=>AE fun h11 l11 k11=>?_);have hE:=(hE.up l11).snoc (BS [1,-3,1] 3 rfl (by decide) k11);refine Ar [(0,_),(1,_),(2,_)] [.int .i64 0,.int .i64 0,.int .i64 0] [_,_,_] rfl AU Bg rfl (by omega) (by kernel_rfl) Qt rfl rfl rfl rfl (fun g53=>AE fun h12 l12 k12=>?_);have hE:=(hE.up l12).snoc (BS [1,-4,2] 3 rfl (by decide) k12);refine Ar [(0,_),(1,_),(2,_),(3,_),(4,_)] [.int .i64 0,.int .i64 0,.int .i64 0,.int .i64 0,.int .i64 0] [_,_,_,_,_] rfl AU Bg rfl (by omega) (by kernel_rfl) Qt rfl rfl rfl rfl (fun g54=>AE fun h13 l13 k13=>?_);have hE:=(hE.up l13).snoc (BS [2,5,10,-7,-9] 5 rfl (by decide) k13);refine Ar [(0,_),(1,_),(2,_),(3,_),(4,_)] [.int .i64 0,.int .i64 0,.int .i64 0,.int .i64 0,.int .i64 0] [_,_,_,_,_] rfl AU Bg rfl (by omega) (by kernel_rfl) Qt rfl rfl rfl rfl (fun g55=>AE fun h14 l14 k14=>?_);have hE:=(hE.up l14).snoc (BS [2,6,10,-8,-9] 5 rfl (by decide) k14);refine Ar [(0,_),(1,_),(2,_),(3,_),(4,_)] [.int .i64 0,.int .i64 0,.int .i64 0,.int .i64 0,.int .i64 0] [_,_,_,_,_] rfl AU Bg rfl (by omega) (by kernel_rfl) Qt rfl rfl rfl rfl (fun g56=>AE fun h15 l15 k15=>?_);have hE:=(hE.up l15).snoc (BS [2,7,12,-6,-11] 5 rfl (by decide) k15);refine Ar [(0,_),(1,_),(2,_),(3,_),(4,_)] [.int .i64 0,.int .i64 0,.int .i64 0,.int .i64 0,.int .i64 0] [_,_,_,_,_] rfl AU Bg rfl (by omega) (by kernel_rfl) Qt rfl rfl rfl rfl (fun g57=>AE fun h16 l16 k16=>?_);have hE:=(hE.up l16).snoc (BS [2,8,12,-5,-11] 5 rfl (by decide) k16);refine Ar [(0,_),(1,_),(2,_),(3,_),(4,_),(5,_),(6,_),(7,_),(8,_),(9,_),(10,_),(11,_),(12,_),(13,_),(14,_),(15,_)] [.slice none 0 0,.slice none 0 0,.slice none 0 0,.slice none 0 0,.slice none 0 0,.slice none 0 0,.slice none 0 0,.slice none 0 0,.slice none 0 0,.slice none 0 0,.slice none 0 0,.slice none 0 0,.slice none 0 0,.slice none 0 0,.slice none 0 0,.slice none 0 0] [_,_,_,_,_,_,_,_,_,_,_,_,_,_,_,_] rfl B9 Cc rfl (by omega) (by kernel_rfl) Qt rfl rfl rfl rfl (fun g58=>AE fun hz lz kz=>?_);have hE:=hE.up lz;have hV:=(OwnL.blk (g:=g58) (el:=22) (F:=cW) (l:=[_,_,_,_,_,_,_,_,_,_,_,_,_,_,_,_]) 16 Di rfl (by decide)).rdh (ms:=[]) kz;have lall:=(AH l1 (AH l2 (AH l3 (AH l4 (AH l5 (AH l6 (AH l7 (AH l8 (AH l9 (AH l10 (AH l11 (AH l12 (AH l13 (AH l14 (AH l15 (AH l16 lz))))))))))))))))
         refine Qc call114 rfl (GY YN _ _ hz hV hE (GR (.inr (.inr (.inl rfl)))).2 (GR (.inr (.inr (.inl rfl)))).1) (fun rC hc msc lc hF=>?_);obtain⟨lc',m,A,vA,rfl,rfl,hOA,hA,hs⟩:=hF;have ovA:=hOA.o1;refine Sa 1 [_] AS rfl (by simp[ovA]) ?_;refine Am (Ao (An (Ah ?_)));exact Bs (vs:=[_]) 1 rfl rfl CI rfl AS rfl rfl (⟨AH lall lc',m,A,_,rfl,rfl,hOA,by rw[hA];unfold EL;rw[if_neg (by omega),if_neg (by omega),if_neg (by omega),if_neg (by omega),if_neg (by omega),if_pos (by omega)],hs⟩)
        ·refine Ac (Ad (Qm rfl (Qm rfl (Am ?_))));refine Av rfl (fun h8=>?_) (fun h8=>?_)
         ·have hE:=RdEs.nil hp;refine Au (Al [_] rfl AU Bg rfl (by rfl) rfl rfl (by omega) rfl rfl rfl (fun g62=>AE fun h1 l1 k1=>?_));have hE:=(hE.up l1).snoc (BS [0] 1 rfl (by decide) k1);refine Al [_] rfl AU Bg rfl (by rfl) rfl rfl (by omega) rfl rfl rfl (fun g63=>AE fun h2 l2 k2=>?_);have hE:=(hE.up l2).snoc (BS [0] 1 rfl (by decide) k2);refine Al [_] rfl AU Bg rfl (by rfl) rfl rfl (by omega) rfl rfl rfl (fun g64=>AE fun h3 l3 k3=>?_);have hE:=(hE.up l3).snoc (BS [0] 1 rfl (by decide) k3);refine Al [_] rfl AU Bg rfl (by rfl) rfl rfl (by omega) rfl rfl rfl (fun g65=>AE fun h4 l4 k4=>?_);have hE:=(hE.up l4).snoc (BS [0] 1 rfl (by decide) k4);refine Ar [(0,_),(1,_),(2,_)] [.int .i64 0,.int .i64 0,.int .i64 0] [_,_,_] rfl AU Bg rfl (by omega) (by kernel_rfl) Qt rfl rfl rfl rfl (fun g66=>AE fun h5 l5 k5=>?_);have hE:=(hE.up l5).snoc (BS [1,-1,2] 3 rfl (by decide) k5);refine Ar [(0,_),(1,_),(2,_)] [.int .i64 0,.int .i64 0,.int .i64 0] [_,_,_] rfl AU Bg rfl (by omega) (by kernel_rfl) Qt rfl rfl rfl rfl (fun g67=>AE fun h6 l6 k6=>?_);have hE:=(hE.up l6).snoc (BS [1,-1,2] 3 rfl (by decide) k6);refine Ar [(0,_),(1,_),(2,_)] [.int .i64 0,.int .i64 0,.int .i64 0] [_,_,_] rfl AU Bg rfl (by omega) (by kernel_rfl) Qt rfl rfl rfl rfl (fun g68=>AE fun h7 l7 k7=>?_);have hE:=(hE.up l7).snoc (BS [1,-3,4] 3 rfl (by decide) k7);refine Ar [(0,_),(1,_),(2,_)] [.int .i64 0,.int .i64 0,.int .i64 0] [_,_,_] rfl AU Bg rfl (by omega) (by kernel_rfl) Qt rfl rfl rfl rfl (fun g69=>AE fun h8 l8 k8=>?_);have hE:=(hE.up l8).snoc (BS [1,-3,4] 3 rfl (by decide) k8);refine Ar [(0,_),(1,_),(2,_)] [.int .i64 0,.int .i64 0,.int .i64 0] [_,_,_] rfl AU Bg rfl (by omega) (by kernel_rfl) Qt rfl rfl rfl rfl (fun g70=>AE fun h9 l9 k9=>?_);have hE:=(hE.up l9).snoc (BS [1,-1,3] 3 rfl (by decide) k9);refine Ar [(0,_),(1,_),(2,_)] [.int .i64 0,.int .i64 0,.int .i64 0] [_,_,_] rfl AU Bg rfl (by omega) (by kernel_rfl) Qt rfl rfl rfl rfl (fun g71=>AE fun h10 l10 k10=>?_);have hE:=(hE.up l10).snoc (BS [1,-2,4] 3 rfl (by decide) k10);refine Ar [(0,_),(1,_),(2,_)] [.int .i64 0,.int .i64 0,.int .i64 0] [_,_,_] rfl AU Bg rfl (by omega) (by kernel_rfl) Qt rfl rfl rfl rfl (fun g72=>AE fun h11 l11 k11=>?_);have hE:=(hE.up l11).snoc (BS [1,-3,1] 3 rfl (by decide) k11);refine Ar [(0,_),(1,_),(2,_)] [.int .i64 0,.int .i64 0,.int .i64 0] [_,_,_] rfl AU Bg rfl (by omega) (by kernel_rfl) Qt rfl rfl rfl rfl (fun g73=>AE fun h12 l12 k12=>?_);have hE:=(hE.up l12).snoc (BS [1,-4,2] 3 rfl (by decide) k12);refine Ar [(0,_),(1,_),(2,_),(3,_),(4,_)] [.int .i64 0,.int .i64 0,.int .i64 0,.int .i64 0,.int .i64 0] [_,_,_,_,_] rfl AU Bg rfl (by omega) (by kernel_rfl) Qt rfl rfl rfl rfl (fun g74=>AE fun h13 l13 k13=>?_);have hE:=(hE.up l13).snoc (BS [2,5,10,-7,-9] 5 rfl (by decide) k13);refine Ar [(0,_),(1,_),(2,_),(3,_),(4,_)] [.int .i64 0,.int .i64 0,.int .i64 0,.int .i64 0,.int .i64 0] [_,_,_,_,_] rfl AU Bg rfl (by omega) (by kernel_rfl) Qt rfl rfl rfl rfl (fun g75=>AE fun h14 l14 k14=>?_);have hE:=(hE.up l14).snoc (BS [2,6,10,-8,-9] 5 rfl (by decide) k14);refine Ar [(0,_),(1,_),(2,_),(3,_),(4,_)] [.int .i64 0,.int .i64 0,.int .i64 0,.int .i64 0,.int .i64 0] [_,_,_,_,_] rfl AU Bg rfl (by omega) (by kernel_rfl) Qt rfl rfl rfl rfl (fun g76=>AE fun h15 l15 k15=>?_);have hE:=(hE.up l15).snoc (BS [2,7,12,-5,-11] 5 rfl (by decide) k15);refine Ar [(0,_),(1,_),(2,_),(3,_),(4,_)] [.int .i64 0,.int .i64 0,.int .i64 0,.int .i64 0,.int .i64 0] [_,_,_,_,_] rfl AU Bg rfl (by omega) (by kernel_rfl) Qt rfl rfl rfl rfl (fun g77=>AE fun h16 l16 k16=>?_);have hE:=(hE.up l16).snoc (BS [2,8,12,-6,-11] 5 rfl (by decide) k16);refine Ar [(0,_),(1,_),(2,_),(3,_),(4,_),(5,_),(6,_),(7,_),(8,_),(9,_),(10,_),(11,_),(12,_),(13,_),(14,_),(15,_)] [.slice none 0 0,.slice none 0 0,.slice none 0 0,.slice none 0 0,.slice none 0 0,.slice none 0 0,.slice none 0 0,.slice none 0 0,.slice none 0 0,.slice none 0 0,.slice none 0 0,.slice none 0 0,.slice none 0 0,.slice none 0 0,.slice none 0 0,.slice none 0 0] [_,_,_,_,_,_,_,_,_,_,_,_,_,_,_,_] rfl B9 Cc rfl (by omega) (by kernel_rfl) Qt rfl rfl rfl rfl (fun g78=>AE fun hz lz kz=>?_);have hE:=hE.up lz;have hV:=(OwnL.blk (g:=g78) (el:=22) (F:=cW) (l:=[_,_,_,_,_,_,_,_,_,_,_,_,_,_,_,_]) 16 Di rfl (by decide)).rdh (ms:=[]) kz;have lall:=(AH l1 (AH l2 (AH l3 (AH l4 (AH l5 (AH l6 (AH l7 (AH l8 (AH l9 (AH l10 (AH l11 (AH l12 (AH l13 (AH l14 (AH l15 (AH l16 lz))))))))))))))))
          refine Qc call114 rfl (GY Zu _ _ hz hV hE (GR (.inr (.inr (.inr rfl)))).2 (GR (.inr (.inr (.inr rfl)))).1) (fun rC hc msc lc hF=>?_);obtain⟨lc',m,A,vA,rfl,rfl,hOA,hA,hs⟩:=hF;have ovA:=hOA.o1;refine Sa 1 [_] AS rfl (by simp[ovA]) ?_;refine Am (Ao (An (Ah ?_)));exact Bs (vs:=[_]) 1 rfl rfl CI rfl AS rfl rfl (⟨AH lall lc',m,A,_,rfl,rfl,hOA,by rw[hA];unfold EL;rw[if_neg (by omega),if_neg (by omega),if_neg (by omega),if_neg (by omega),if_neg (by omega),if_neg (by omega),if_pos (by omega)],hs⟩)
         ·refine Ag (Ai (Ab (Au (Qc call116 rfl (N3 4 hp (by omega)) (fun rC hc msc lc hF=>?_)))));obtain⟨lc',m,A,vA,rfl,rfl,hOA,hA,hs⟩:=hF;have ovA:=hOA.o1;refine Sa 1 [_] AS rfl (by simp[ovA]) ?_;refine Am (Ao ?_);exact Bs (vs:=[_]) 1 rfl rfl CI rfl AS rfl rfl (⟨lc',m,A,_,rfl,rfl,hOA,by rw[hA];unfold EL;rw[if_neg (by omega),if_neg (by omega),if_neg (by omega),if_neg (by omega),if_neg (by omega),if_neg (by omega),if_neg (by omega)],hs⟩)
theorem LQ(A B:List Ce)(va vb:Value)(K:Int)(hK:0<=K/\K<=1000000)(hp:Hp)(hA:RdC hp va A)(hB:RdC hp vb B)(hnA:A.length<=1000)(hnB:B.length<=1000)(hiA:∀a∈A,-1000000<=a.c.id/\a.c.id<=K)(hiB:∀b∈B,(-1000000<=b.c.id/\b.c.id<=1000000)/\b.c.sd.length<=100/\∀s∈b.c.sd,-1000000<=s.1/\s.1<=1000000) :
  FnT Tryz.prog 48 #[.agg #[va],.agg #[vb]] hp [] (fun r h' ms'=>hp.le h'/\NV h' r ms' (fun o=>∃m:Int,0<=m/\m<=K/\(∀a∈A,a.c.id<=m)/\o=A.map Ce.c++(B.map Ce.c).map (Vu m))):=by
 have oa:=hA.q.rd.one;have ob:=hB.q.rd.one;refine Aq func48 ntmps48 rfl rfl (fun w0 hw0=>?_);simp only[AV];refine Au (AX [_] rfl rfl (by rfl) rfl rfl rfl (fun g2=>AX [_] rfl rfl (by rfl) rfl rfl rfl (fun g3=>CJ [.slice none 0 0] rfl AS rfl rfl (fun g4=>Am (Bn 1 rfl fun h1 l1 hS3=>(Bn 1 rfl fun h2 l2 hS2=>?_))))));have hA:=(hA.up l1).up l2;have hB:=(hB.up l1).up l2;have hS3:=hS3.le l2;have e2:∀{h},h2.le h->∀ms,Cell h ms (⟨g2,0,none⟩:Addr) va:=fun l ms=>Seg.all (hS2.le l) 0 _ rfl ms;have e3:∀{h},h2.le h->∀ms,Cell h ms (⟨g3,0,none⟩:Addr) vb:=fun l ms=>Seg.all (hS3.le l) 0 _ rfl ms;refine Au (Qm rfl (Am ?_));refine Bd (fun sl h' ms'=>∃(m:Int),sl=[(2,.pointer (some ⟨g2,0,none⟩)),(3,.pointer (some ⟨g3,0,none⟩)),(4,.pointer (some ⟨g4,0,none⟩)),(5,.int .i64 m)]/\h2=h'/\ms'=[Be g4 29 [.slice none 0 0]]/\0<=m/\m<=K/\∀a∈A,a.c.id<=m) ?_ (fun s h ms hI=>?_)
 ·refine Ac (Ad (Qm rfl (Am (Af ?_))))
  refine Ax (fun q sl h' ms'=>∃(i:Nat) (m:Int),q=A.length-i/\sl=[(2,.pointer (some ⟨g2,0,none⟩)),(3,.pointer (some ⟨g3,0,none⟩)),(4,.pointer (some ⟨g4,0,none⟩)),(5,.int .i64 m),(6,.int .i64 i)]/\h2=h'/\ms'=[Be g4 29 [.slice none 0 0]]/\i<=A.length/\0<=m/\m<=K/\∀a∈A.take i,a.c.id<=m)
   (A.length-0) _ ⟨0,0,rfl,rfl,rfl,rfl,by omega,by omega,by omega,by simp⟩ Qs ?_
  rintro q sl h' ms' ⟨i,m,rfl,rfl,rfl,rfl,hi,hm0,hm1,hm⟩;refine Ac (Au (Qm rfl (Qf BI rfl (Ql rfl Bk (e2 (DS) _) (Qx (Ap hA.q.rd.any rfl Bk rfl) rfl (Qm rfl (Am ?_)))))));refine Av rfl (fun hlt=>?_) (fun hlt=>?_)
  ·have hil:i<A.length:=by omega
   obtain⟨x,hx⟩:∃x,A[i]=x:=⟨_,rfl⟩
   have hxi:=hiA x (by rw[<-hx];exact getElem_mem hil);have cx:∀ms,Cell h2 ms (((AF va).add (i*3)).add 0) (.int .i64 x.c.id):=fun ms=>by rw[<-hx];exact(hA.q.any (ms:=ms)).cell (j:=i) hil (f:=0) rfl
   refine Ag (Ab (Ac (Af (Ad (Qm rfl (Qf BI rfl (Ql rfl Bk (e2 (DS) _) (Qm rfl (Qx (BT (i) hA.q.rd.any rfl Bk AG rfl rfl) rfl (Qf Bx rfl (Ql rfl U3 (cx _) (Qx (IV rfl rfl rfl) rfl (Qm rfl (Aj (Ai (Ab (Ad (Qm rfl (Qx (oA rfl) rfl (Qm rfl (Aj ?_)))))))))))))))))))))
   exact Ak (A.length-(i+1)) _ (by omega) ⟨i+1,max m x.c.id,rfl,rfl,rfl,rfl,by omega,by omega,by omega,fun a ha=>by
    rw[take_succ_eq_append_getElem hil,hx]at ha;rcases List.mem_append.1 ha with h|h
    ·have:=hm a h;omega
    ·rw[List.mem_singleton.1 h];omega⟩ Qs
  ·obtain rfl:i=A.length:=by omega
   refine As (Aa (Aa (Ae ?_)));exact AC _ ⟨m,rfl,rfl,rfl,hm0,hm1,fun a ha=>hm a (by rw[take_length];exact ha)⟩ Qs
 ·obtain⟨m,rfl,rfl,rfl,hm0,hm1,hm⟩:=hI;refine Au ?_;refine Ar [] [] [] rfl Bk AG rfl (by omega) (by kernel_rfl) (by repeat (first|exact trivial|refine⟨⟨by first|rfl|exact(hA.q.rd.any).cells|exact Rd.cells ‹_›|exact(RdL.rd ‹_›).cells,rfl,rfl⟩,?_⟩)) rfl rfl rfl rfl (fun g27=>?_);refine Qf BI rfl (Ql rfl Bk (e2 (DS) _) (AW 0 (FA g27 BX) hA.q.any rfl Bk AG rfl (by omega) rfl rfl rfl (CN hA.s) (by(try simp only[length_singleton,length_nil,Nat.zero_add]);omega) (by(try simp only[length_singleton,length_nil,Nat.zero_add]);omega) rfl rfl rfl (fun vA mA hOA=>?_)));have ovA:=hOA.o1;rw[nil_append]at hOA;obtain⟨aA,cA,rfl,_⟩:=(hOA.rd (h:=hp) (ms:=[mA]) Mh).rd.ex;refine Qx (Bb YM [.slice none 0 0] [(0,_)] [_] rfl AS rfl rfl Qt rfl) rfl (CJ [.slice none 0 0] rfl AS rfl rfl (fun g7=>?_));refine Sa 0 [_] AS rfl (by simp[Value.oneCell']) ?_;refine Am (Ac (Au (Qm rfl (Am (Af (IB (ms':=[mA,Be g7 29 [.slice aA A.length cA],Be g4 29 [.slice none 0 0]]) (List.Perm.swap _ _ _) ?_))))))
  refine Ax (fun q sl h' ms'=>∃(i:Nat) (v:Value) (mO:Hp) (O:List Ce),q=B.length-i/\sl=[(2,.pointer (some ⟨g2,0,none⟩)),(3,.pointer (some ⟨g3,0,none⟩)),(4,.pointer (some ⟨g4,0,none⟩)),(5,.int .i64 m),(7,.pointer (some ⟨g7,0,none⟩)),(8,.int .i64 i)]/\h2.le h'/\ms'=[mO,Be g7 29 [v],Be g4 29 [.slice none 0 0]]/\i<=B.length/\OwnL cC 3 52 mO v O/\O.map Ce.c=A.map Ce.c++((B.take i).map Ce.c).map (Vu m)/\∀a∈O,RdL cD 2 h' [] a.v a.c.sd)
   (B.length-0) _ ⟨0,_,mA,A,rfl,rfl,DS,rfl,by omega,hOA,by simp,hA.s⟩ Qs ?_
  rintro q sl h' ms' ⟨i,v,mO,O,rfl,rfl,lh,rfl,hi,hO,hOc,hOs⟩;have hB:=hB.up lh;have ov:=hO.o1;have hOl:O.length=A.length+i:=by have:=congrArg List.length hOc;simpa[Nat.min_eq_left hi] using this
  refine Ac (Au (Qm rfl (Qf BI rfl (Ql rfl Bk (e3 lh _) (Qx (Ap hB.q.rd.any rfl Bk rfl) rfl (Qm rfl (Am ?_)))))));refine Av rfl (fun hlt=>?_) (fun hlt=>?_)
  ·have hil:i<B.length:=by omega
   obtain⟨x,hx⟩:∃x,B[i]=x:=⟨_,rfl⟩
   have hxm:x∈B:=by rw[<-hx];exact getElem_mem hil
   obtain⟨hxi,hxl,hxs⟩:=hiB x hxm;have hX:=hB.s x hxm;have cx0:∀ms,Cell h' ms (((AF vb).add (i*3)).add 0) (.int .i64 x.c.id):=fun ms=>by rw[<-hx];exact(hB.q.any (ms:=ms)).cell (j:=i) hil (f:=0) rfl
   have cx1:∀ms,Cell h' ms (((AF vb).add (i*3)).add 1) (.int .i64 x.c.dim):=fun ms=>by rw[<-hx];exact(hB.q.any (ms:=ms)).cell (j:=i) hil (f:=1) rfl
   have cx2:∀ms,Cell h' ms (((AF vb).add (i*3)).add 2) x.v:=fun ms=>by rw[<-hx];exact(hB.q.any (ms:=ms)).cell (j:=i) hil (f:=2) rfl
   have ox:=hX.rd.one;refine Ag (Ab (Ac (Af (Ac (Bh 16 CT (by kernel_rfl) rfl (Wf BI rfl (Wl rfl Bk (e3 lh _) (Wm rfl (AM (BT (i) hB.q.rd.any rfl Bk AG rfl rfl) rfl rfl (Wf Bx rfl (Wl rfl U3 (cx0 _) (Wm rfl (AM (oA rfl) rfl rfl (Wf BI rfl (Wl rfl Bk (e3 lh _) (Wm rfl (AM (BT (i) hB.q.rd.any rfl Bk AG rfl rfl) rfl rfl (Wf CA rfl (Wl rfl U3 (cx1 _) (AM (Bb UO [.int .i64 0,.int .i64 0,.slice none 0 0] [(0,_),(1,_)] [_,_,_] rfl AG rfl rfl Qt rfl) rfl rfl (PS (I7 [.int .i64 0,.int .i64 0,.slice none 0 0] rfl AG rfl) rfl rfl (F5 (fun g9=>?_)))))))))))))))))))))));refine Sa 0 [_,_,_] AG rfl (by simp[Value.oneCell']) ?_;refine Am (By ?_);refine Bd (fun sl h'' ms'=>∃(vs:Value) (mS:Hp),sl=[(2,.pointer (some ⟨g2,0,none⟩)),(3,.pointer (some ⟨g3,0,none⟩)),(4,.pointer (some ⟨g4,0,none⟩)),(5,.int .i64 m),(7,.pointer (some ⟨g7,0,none⟩)),(8,.int .i64 i),(9,.pointer (some ⟨g9,0,none⟩))]/\h'=h''/\ms'=[mS,Be g9 52 [.int .i64 (x.c.id+m),.int .i64 x.c.dim,vs],mO,Be g7 29 [v],Be g4 29 [.slice none 0 0]]/\OwnL cD 2 119 mS vs (x.c.sd.map fun s=>(s.1+m,s.2))) ?_ (fun s h ms hI=>?_)
   ·refine Ac (Ad (Qm rfl (Am (Af ?_))))
    refine Ax (fun q sl h'' ms'=>∃(j:Nat) (vs:Value) (mS:Hp),q=x.c.sd.length-j/\sl=[(2,.pointer (some ⟨g2,0,none⟩)),(3,.pointer (some ⟨g3,0,none⟩)),(4,.pointer (some ⟨g4,0,none⟩)),(5,.int .i64 m),(7,.pointer (some ⟨g7,0,none⟩)),(8,.int .i64 i),(9,.pointer (some ⟨g9,0,none⟩)),(10,.int .i64 j)]/\h'=h''/\ms'=[mS,Be g9 52 [.int .i64 (x.c.id+m),.int .i64 x.c.dim,vs],mO,Be g7 29 [v],Be g4 29 [.slice none 0 0]]/\j<=x.c.sd.length/\OwnL cD 2 119 mS vs ((x.c.sd.take j).map fun s=>(s.1+m,s.2)))
     (x.c.sd.length-0) _ ⟨0,_,Hp.emp,rfl,rfl,rfl,rfl,by omega,OwnL.nil Dv⟩ Qs ?_
    rintro q sl h'' ms' ⟨j,vs,mS,rfl,rfl,rfl,rfl,hj,hOS⟩;have ovs:=hOS.o1;refine Ac (Au (Qm rfl (Qf BI rfl (Ql rfl Bk (e3 lh _) (Qm rfl (Qx (BT (i) hB.q.rd.any rfl Bk AG rfl rfl) rfl (Qf BH rfl (Ql rfl Ci (cx2 _) (Qx (Ap hX.rd.any rfl Ci rfl) rfl (Qm rfl (Am ?_)))))))))));refine Av rfl (fun hjl=>?_) (fun hjl=>?_)
    ·have hjn:j<x.c.sd.length:=by omega
     obtain⟨s,hs⟩:∃s,x.c.sd[j]=s:=⟨_,rfl⟩
     have hsb:=hxs s (by rw[<-hs];exact getElem_mem hjn);have cs:∀ms,Seg h' ms ((AF x.v).add (j*2)) (cD s):=fun ms=>by rw[<-hs];exact(hX.any (ms:=ms)).seg hjn
     have hll:((x.c.sd.take j).map fun s=>(s.1+m,s.2)).length<=100:=by rw[length_map,length_take];omega
     have hsn:((x.c.sd.take (j+1)).map fun s=>(s.1+m,s.2))=((x.c.sd.take j).map fun s=>(s.1+m,s.2))++[(s.1+m,s.2)]:=by rw[take_succ_eq_append_getElem hjn,map_append,hs];rfl
     refine Ag (Ab (Ac (Af (Au (Qf BI rfl (Ql rfl Bk (e3 lh _) (Qm rfl (Qx (BT (i) hB.q.rd.any rfl Bk AG rfl rfl) rfl (Qf BH rfl (Ql rfl Ci (cx2 _) (Qm rfl (Qx (BT (j) hX.rd.any rfl Ci AK rfl rfl) rfl (Qx (oG rfl DA AK (cs _)) rfl (CJ [.int .i64 0,.int .i64 0] rfl AK rfl rfl (fun g11=>?_)))))))))))))));refine Sa 0 [_,_] AK rfl (by simp[Value.oneCell']) ?_;refine BG (Qf Cy rfl (Ql rfl U3 (Cell.blk 0 rfl rfl) (Qm rfl (Qx (oA rfl) rfl (Qf Cy rfl ?_)))));refine AJ 0 _ rfl Bg rfl rfl (by rfl) rfl rfl (by(simp;done)) rfl rfl ?_;refine Gs (Qf BH rfl (Ql rfl Ci (Cell.blk 2 rfl rfl) (Qx (oG rfl DA AK (Seg.blk 0 rfl)) rfl (Al [_,_] rfl Ci AK rfl (by rfl) rfl rfl (by omega) rfl rfl rfl (fun g82=>AP 2 hOS (RdL.one Dv (x:=(s.1+m,s.2)) Mh rfl) rfl Ci AK rfl (by omega) rfl rfl rfl Fu (by(try simp only[length_singleton]);omega) (by(try simp only[length_singleton]);omega) rfl rfl rfl (fun v9 m9 hO9=>?_))))));rw[<-hsn]at hO9;have ov9:=hO9.o1;refine Qf BH rfl ?_;refine AJ 3 _ rfl PE rfl rfl (by assumption) rfl rfl (by(simp;done)) rfl rfl ?_;refine Aj (Ai (Ab (Ad (Qm rfl (Qx (oA rfl) rfl (Qm rfl (Aj (AQ 0 rfl (AQ 0 rfl ?_)))))))));exact Ak (x.c.sd.length-(j+1)) _ (by omega) ⟨j+1,v9,m9,rfl,rfl,rfl,rfl,by omega,hO9⟩ Qs
    ·obtain rfl:j=x.c.sd.length:=by omega
     refine As (Aa (Aa (Ae ?_)));exact AC _ ⟨vs,mS,rfl,rfl,rfl,by rw[take_length]at hOS;exact hOS⟩ Qs
   ·obtain⟨vs,mS,rfl,rfl,rfl,hOS⟩:=hI;obtain⟨aS,cS,rfl,_⟩:=(hOS.rd (h:=hp) (ms:=[mS]) Mh).rd.ex;refine Bc fun h3 l3 k3=>?_;have hRS:=hOS.rdh (ms:=[]) k3;have oS_:=hRS.rd.one
    let ce:Ce:=⟨Vu m x.c,.slice aS (x.c.sd.map fun s=>(s.1+m,s.2)).length cS⟩
    have hce:RdL cD 2 h3 [] ce.v ce.c.sd:=hRS;refine Ad (Qf BI rfl (Ql rfl Bk (Cell.blk 2 rfl rfl) (Qx (oG rfl EB AG (Seg.blk 0 rfl)) rfl (Al [_,_,_] rfl Bk AG rfl (by rfl) rfl rfl (by omega) rfl rfl rfl (fun g88=>?_)))));refine AW 2 hO (RdL.one BX (x:=ce) Mh rfl) rfl Bk AG rfl (by omega) rfl rfl rfl (CN (l:=[ce]) (h:=h3) fun y hy=>by rw[List.mem_singleton.1 hy];exact hce) (by(try simp only[length_singleton]);omega) (by(try simp only[length_singleton]);omega) rfl rfl rfl (fun v9 m9 hO9=>?_);have ov9:=hO9.o1;refine Qf BI rfl ?_;refine AJ 3 _ rfl IJ rfl rfl (by assumption) rfl rfl (by(simp;done)) rfl rfl ?_;refine Aj (Ai (Ab (Ad (Qm rfl (Qx (oA rfl) rfl (Qm rfl (Aj (AQ 0 rfl (AQ 0 rfl ?_)))))))));exact Ak (B.length-(i+1)) _ (by omega) ⟨i+1,v9,m9,O++[ce],rfl,rfl,AH lh l3,rfl,by omega,hO9,by rw[map_append,hOc,take_succ_eq_append_getElem hil,map_append,map_append,hx,append_assoc];rfl,RdC.snoc' (fun a ha=>(hOs a ha).up l3) hce⟩ Qs
  ·obtain rfl:i=B.length:=by omega
   refine As (Aa (Aa (Ae (Ab (Au (Qx (oG rfl CI AS (Seg.blk 1 rfl)) rfl ?_))))));refine Sa 2 [_] AS rfl (by simp[oa,ob,ov]) ?_;refine Am (Ao (AQ 1 rfl ?_));exact Bs (vs:=[_]) 1 rfl rfl CI rfl AS rfl rfl (⟨AH l1 (AH l2 lh),mO,O,_,rfl,rfl,hO,⟨m,hm0,hm1,hm,by rw[hOc,take_length]⟩,hOs⟩)
variable {o:List Cl}
theorem IY{l:List Cl}(R:Rgt l):Ux l=ordF l:=by have F:=R.ordF;refine UJ _ _ (fun _=>nofun) fun i hi e=>?_;have:=List.pairwise_iff_getElem.1 F.inc i (i+1) (by omega) hi (by omega);omega
theorem Rgt.cs{l:List Ce}(R:Rgt (l.map Ce.c)):Aal l:=by have hn:=R.n;rw[length_map]at hn;exact⟨by omega,fun a ha=>by have:=(R.bds (List.mem_map.2 ⟨a,ha,rfl⟩)).2;omega⟩
def V8(o:List Cl)(i j k:Nat):Bool:=(o.take i).any (fun y=>y.sd.any fun s=>decide (s.1=(o.getD k default).id))||((o.getD i default).sd.take j).any fun s=>decide (s.1=(o.getD k default).id)
def K5(o:List Cl)(i j:Nat):List Bool:=(range o.length).map (V8 o i j)
theorem Fg(o:List Cl)(i j:Nat):(K5 o i j).length=o.length:=by simp[K5]
theorem VB(o:List Cl):K5 o 0 0=replicate o.length false:=by unfold K5;refine List.ext_getElem (by simp) fun k h1 h2=>?_;simp[V8]
theorem WX{i:Nat}(hi:i<o.length):K5 o i o[i].sd.length=K5 o (i+1) 0:=by unfold K5;refine List.map_congr_left fun k hk=>?_;unfold V8;rw[show o.getD i default=o[i] by simp[List.getD,hi],take_length,take_succ_eq_append_getElem hi,List.any_append];simp
theorem VQ(R:RgtF o){i j:Nat}(hi:i<o.length)(hj:j<o[i].sd.length){k:Nat}(hk:M6 o o[i].sd[j].1=k):(K5 o i j).set k true=K5 o i (j+1):=by
 have G:=R.rgt;obtain⟨y,hy,e1,_⟩:=G.sid _ (getElem_mem hi) _ (getElem_mem hj);obtain⟨h1,h2⟩:=H7 R.inc hy;rw[e1,hk]at h1 h2;rw[Int.toNat_natCast]at h2;have hkl:k<o.length:=by have:=Pp o o[i].sd[j].1;omega
 refine List.ext_getElem (by rw[List.length_set,Fg,Fg]) fun q hq1 hq2=>?_;have hq:q<o.length:=by rw[Fg]at hq2;exact hq2
 have hg:o.getD i default=o[i]:=by simp[List.getD,hi]
 have hT:V8 o i (j+1) q=(V8 o i j q||decide (o[i].sd[j].1=(o.getD q default).id)):=by unfold V8;rw[hg,take_succ_eq_append_getElem hj,List.any_append,Bool.or_assoc];simp
 have hr:(K5 o i (j+1))[q]=V8 o i (j+1) q:=by simp[K5]
 have hl:(K5 o i j)[q]'(by rw[Fg];exact hq)=V8 o i j q:=by simp[K5]
 rw[hr,hT,List.getElem_set];by_cases e:k=q
 ·subst e;rw[if_pos rfl,h2,e1];simp
 ·rw[if_neg e,hl];have hne:o[i].sd[j].1≠(o.getD q default).id:=fun h=>e (J6 G.nd hkl hq (by rw[h2,e1,h]));rw[decide_eq_false hne,Bool.or_false]
theorem WY{k:Nat}(hk:k<o.length):(K5 o o.length 0)[k]'(by rw[Fg];exact hk)=o.any fun y=>y.sd.any fun s=>decide (s.1=o[k].id):=by
 have:(K5 o o.length 0)[k]'(by rw[Fg];exact hk)=V8 o o.length 0 k:=by simp[K5]
 rw[this];unfold V8;rw[take_length,show o.getD k default=o[k] by simp[List.getD,hk]];simp
def MD(o:List Cl)(x:Cl):Bool:=!(o.any fun y=>y.sd.any fun s=>decide (s.1=x.id))
theorem X0(l:List Ce)(v:Value)(hp:Hp)(hK:RgC l)(hR:RdC hp v l):FnT Tryz.prog 47 #[.agg #[v]] hp [] (fun r h' ms'=>hp.le h'/\∃m,ms'=[m]/\OwnL cI 1 3 m r (H6 (cn l))):=by
 have o1:=hR.q.rd.one;have hln:=hK.r.n;rw[length_map]at hln;refine Aq func47 ntmps47 rfl rfl (fun w0 hw0=>?_);simp only[AV];refine Au (AX [_] rfl rfl (by rfl) rfl rfl rfl (fun g1=>Qm rfl (Am (Bn 0 rfl fun h1 l1 hS=>?_))));have hR:=hR.up l1;refine Au (Qm rfl (BG (Qx (oG rfl CI AS (Seg.any hS)) rfl (Qc call49 rfl (K1 l v h1 hK.r.cs hR) (fun rC h2 ms2 l2 hF=>?_)))));obtain⟨l2',mC,A,rfl,hOC,hA,hAs⟩:=hF;rw[IY hK.r]at hA;obtain⟨o,ho⟩:∃o,cn l=o:=⟨_,rfl⟩
 have hA:A.map Ce.c=o:=by rw[hA,<-ho];rfl
 have F:RgtF o:=by rw[<-ho];exact hK.F
 have G:=F.rgt;rw[ho];have hAl:A.length=o.length:=by rw[<-hA,length_map]
 have hol:o.length<=4000:=G.n;have oC:=hOC.o1;refine Qm rfl (Am (Bl hOC fun h3 l3 hQ=>?_));have hAs:∀a∈A,RdL cD 2 h3 [] a.v a.c.sd:=fun a ha=>(hAs a ha).up l3;have l13:=AH l2' l3;have hge:∀i (hi:i<A.length),o[i]'(by omega)=A[i].c:=fun i hi=>by subst hA;simp
 refine Au (Qm rfl (Qx (Ap hQ.rd.any rfl Bk rfl) rfl (CC (n:=_) rfl PF V6 rfl rfl rfl (by rfl) (by rfl) (by omega) (by omega) rfl rfl rfl (fun g14=>Qm rfl (Am ?_)))));have hO5:=Qy g14 A.length (by omega);rw[hAl,<-VB]at hO5;refine By ?_;refine Bd (fun sl h' ms'=>∃(m5:Hp),sl=[(3,.slice none 0 0),(4,rC),(5,.slice (some ⟨g14,0,none⟩) A.length A.length)]/\h3=h'/\ms'=[Hp.emp,m5]/\OwnL cB 1 4 m5 (.slice (some ⟨g14,0,none⟩) A.length A.length) (K5 o A.length 0)) ?_ (fun s h ms hI=>?_)
 ·refine Ac (Ad (Qm rfl (Am (Af ?_))))
  refine Ax (fun q sl h' ms'=>∃(i:Nat) (m5:Hp),q=A.length-i/\sl=[(3,.slice none 0 0),(4,rC),(5,.slice (some ⟨g14,0,none⟩) A.length A.length),(6,.int .i64 i)]/\h3=h'/\ms'=[Hp.emp,m5]/\i<=A.length/\OwnL cB 1 4 m5 (.slice (some ⟨g14,0,none⟩) A.length A.length) (K5 o i 0))
   (A.length-0) _ ⟨0,_,rfl,rfl,rfl,rfl,by omega,by rw[hAl];exact hO5⟩ Qs ?_
  rintro q sl h' ms' ⟨i,m5,rfl,rfl,rfl,rfl,hi,hO5⟩;refine Ac (Au (Qm rfl (Qm rfl (Qx (Ap hQ.rd.any rfl Bk rfl) rfl (Qm rfl (Am ?_))))));refine Av rfl (fun hlt=>?_) (fun hlt=>?_)
  ·have hil:i<A.length:=by omega
   have hio:i<o.length:=by omega
   obtain⟨x,hx⟩:∃x,A[i]=x:=⟨_,rfl⟩
   have hxm:x∈A:=by rw[<-hx];exact getElem_mem hil
   have hxo:o[i]=x.c:=by rw[hge i hil,hx]
   have hX:=hAs x hxm;have oX:=hX.rd.one;have hxl:x.c.sd.length<=64:=by have:=(F.bds (getElem_mem hio)).2.1;rwa [hxo]at this
   have cx:∀ms,Cell h3 ms (((AF rC).add (i*3)).add 2) x.v:=fun ms=>by rw[<-hx];exact(hQ.any (ms:=ms)).cell (j:=i) hil (f:=2) rfl
   refine Ag (Ab (Ac (Af (Au (Qm rfl (Am (Af ?_)))))))
   refine Ax (fun q sl h' ms'=>∃(j:Nat) (m5:Hp),q=x.c.sd.length-j/\sl=[(3,.slice none 0 0),(4,rC),(5,.slice (some ⟨g14,0,none⟩) A.length A.length),(6,.int .i64 i),(7,.int .i64 j)]/\h3=h'/\ms'=[Hp.emp,m5]/\j<=x.c.sd.length/\OwnL cB 1 4 m5 (.slice (some ⟨g14,0,none⟩) A.length A.length) (K5 o i j))
    (x.c.sd.length-0) _ ⟨0,m5,rfl,rfl,rfl,rfl,by omega,hO5⟩ Qs ?_
   rintro q sl h' ms' ⟨j,m5,rfl,rfl,rfl,rfl,hj,hO5⟩;refine Ac (Au (Qm rfl (Qm rfl (Qm rfl (Qx (BT (i) hQ.rd.any rfl Bk AG rfl rfl) rfl (Qf BH rfl (Ql rfl Ci (cx _) (Qx (Ap hX.rd.any rfl Ci rfl) rfl (Qm rfl (Am ?_))))))))));refine Av rfl (fun hjl=>?_) (fun hjl=>?_)
   ·have hjn:j<x.c.sd.length:=by omega
    obtain⟨s,hs⟩:∃s,x.c.sd[j]=s:=⟨_,rfl⟩
    have cs:∀ms,Cell h3 ms (((AF x.v).add (j*2)).add 0) (.int .i64 s.1):=fun ms=>by
     have:Seg h3 ms ((AF x.v).add (j*2)) (cD s):=by rw[<-hs];exact(hX.any (ms:=ms)).seg hjn
     exact this 0 _ rfl
    obtain⟨y,hy,ey,_⟩:=G.sid _ (getElem_mem hio) s (by rw[hxo,<-hs];exact getElem_mem hjn);have hat:=(H7 F.inc hy).1;rw[ey]at hat;obtain⟨k,hk⟩:∃k:Nat,M6 o s.1=k:=⟨_,(Int.toNat_of_nonneg hat).symm⟩
    have hko:k<o.length:=by have:=Pp o s.1;omega
    have hkM:k<(K5 o i j).length:=by rw[Fg];exact hko
    have hmk:=VQ F hio (j:=j) (by rw[hxo];exact hjn) (k:=k) (by simp only[hxo,hs];exact hk);refine Ag (Ab (Ac (Af (Au (Qm rfl (Qm rfl (Qm rfl (Qx (BT (i) hQ.rd.any rfl Bk AG rfl rfl) rfl (Qf BH rfl (Ql rfl Ci (cx _) (Qm rfl (Qx (BT (j) hX.rd.any rfl Ci AK rfl rfl) rfl (Qf Cy rfl (Ql rfl U3 (cs _) ?_))))))))))))));refine Qx (AN rfl call117 rfl ((by have:=ZQ A rC s.1 h3 (by omega) (by rw[hA];exact F.inc.imp fun h=>Int.le_of_lt h) hQ [Hp.emp,m5];rwa [hA,hk]at this))) rfl ?_;refine Qm rfl (BG (Qm rfl (Qm rfl (Am ?_))));refine Av rfl (fun hc=>?_) (fun hc=>absurd (by omega) hc);refine Ad (Qm rfl (Qm rfl (Qx (B4 (k) rfl PF V6 rfl rfl (by omega) (by omega)) rfl (CB (F:=cB) (f:=fun x=>.bool x) (a:=true) 1 k (fun _=>rfl) hO5 rfl V6 rfl rfl rfl rfl hkM rfl rfl (fun m6 hO6=>?_)))));rw[hmk]at hO6;refine Aj (Ai (Ab (Ad (Qm rfl (Qx (oA rfl) rfl (Qm rfl (Aj ?_)))))));exact Ak (x.c.sd.length-(j+1)) _ (by omega) ⟨j+1,m6,rfl,rfl,rfl,rfl,by omega,hO6⟩ Qs
   ·obtain rfl:j=x.c.sd.length:=by omega
    refine As (Aa (Aa (Ae (Ai (Ab (Ad (Qm rfl (Qx (oA rfl) rfl (Qm rfl (Aj ?_))))))))));exact Ak (A.length-(i+1)) _ (by omega) ⟨i+1,m5,rfl,rfl,rfl,rfl,by omega,by rw[<-WX hio,hxo];exact hO5⟩ Qs
  ·obtain rfl:i=A.length:=by omega
   refine As (Aa (Aa (Ae ?_)));exact AC _ ⟨m5,rfl,rfl,rfl,hO5⟩ Qs
 ·obtain⟨m5,rfl,rfl,rfl,hO5⟩:=hI;refine DK 1 rfl (Bc fun h4 l4 k4=>?_);have hB:=hO5.rdh (ms:=[]) k4;have hQ:=hQ.up l4
  have htk:∀i (hi:i<o.length),((o.take (i+1)).filter (MD o)).map Cl.id=((o.take i).filter (MD o)).map Cl.id++if MD o o[i] then [o[i].id] else []:=fun i hi=>by rw[take_succ_eq_append_getElem hi,filter_append,map_append];congr 1;cases h:MD o o[i]<;>simp[filter_cons,h]
  refine Ac (Au (Qm rfl (Am (Af ?_))))
  refine Ax (fun q sl h' ms'=>∃(i:Nat) (v:Value) (m:Hp),q=A.length-i/\sl=[(3,v),(4,rC),(5,.slice (some ⟨g14,0,none⟩) A.length A.length),(9,.int .i64 i)]/\h4=h'/\ms'=[m]/\i<=A.length/\OwnL cI 1 3 m v (((o.take i).filter (MD o)).map Cl.id))
   (A.length-0) _ ⟨0,_,Hp.emp,rfl,rfl,rfl,rfl,by omega,OwnL.nil Bo⟩ Qs ?_
  rintro q sl h' ms' ⟨i,v3,m3,rfl,rfl,rfl,rfl,hi,hO3⟩;have ov3:=hO3.o1;refine Ac (Au (Qm rfl (Qm rfl (Qx (Ap hQ.rd.any rfl Bk rfl) rfl (Qm rfl (Am ?_))))));refine Av rfl (fun hlt=>?_) (fun hlt=>?_)
  ·have hil:i<A.length:=by omega
   have hio:i<o.length:=by omega
   obtain⟨x,hx⟩:∃x,A[i]=x:=⟨_,rfl⟩
   have hxo:o[i]=x.c:=by rw[hge i hil,hx]
   have hmi:i<(K5 o A.length 0).length:=by rw[Fg];exact hio
   have hmk:(K5 o A.length 0)[i]=!MD o o[i]:=by have:=WY hio;unfold MD;rw[Bool.not_not,<-this];simp only[hAl]
   have cb:∀ms,Cell h4 ms ((AF (.slice (some ⟨g14,0,none⟩) A.length A.length)).add (i*1)) (.bool (!MD o o[i])):=fun ms=>by rw[<-hmk];exact(hB.any (ms:=ms)).cell0 hmi rfl
   have cx:∀ms,Cell h4 ms (((AF rC).add (i*3)).add 0) (.int .i64 x.c.id):=fun ms=>by rw[<-hx];exact(hQ.any (ms:=ms)).cell (j:=i) hil (f:=0) rfl
   have hfl:(((o.take i).filter (MD o)).map Cl.id).length<=4000:=by rw[length_map];exact Nat.le_trans (List.length_filter_le _ _) (by rw[length_take];omega)
   have hk:=htk i hio;refine Ag (Ab (Ac (Af (Au (Qm rfl (Qm rfl (Qx (B4 (i) rfl PF V6 rfl rfl (by omega) (by omega)) rfl (Ql rfl U4 (cb _) (Qm rfl (Am ?_))))))))));refine Bv rfl (fun hb=>?_) (fun hb=>?_)
   ·rw[Bool.not_not]at hb;rw[hb,if_pos rfl,hxo]at hk;refine Ad (Qm rfl (Qm rfl (Qm rfl (Qx (BT (i) hQ.rd.any rfl Bk AG rfl rfl) rfl (Qf Bx rfl (Ql rfl U3 (cx _) (Al [_] rfl AU Bg rfl (by rfl) rfl rfl (by omega) rfl rfl rfl (fun g64=>AP 1 hO3 (RdL.one Bo (x:=x.c.id) Mh rfl) rfl AU Bg rfl (by omega) rfl rfl rfl Cn (by(try simp only[length_singleton]);omega) (by(try simp only[length_singleton]);omega) rfl rfl rfl (fun v9 m9 hO9=>?_)))))))));rw[<-hk]at hO9;have ov9:=hO9.o1;refine Qm rfl (Aj (Ai (Ab (Ad (Qm rfl (Qx (oA rfl) rfl (Qm rfl (Aj (AL ?_)))))))));exact Ak (A.length-(i+1)) _ (by omega) ⟨i+1,v9,m9,rfl,rfl,rfl,rfl,by omega,hO9⟩ Qs
   ·rw[Bool.not_not]at hb;rw[hb,if_neg (by decide),append_nil]at hk;refine Ag (Ai (Ab (Ad (Qm rfl (Qx (oA rfl) rfl (Qm rfl (Aj ?_)))))));exact Ak (A.length-(i+1)) _ (by omega) ⟨i+1,v3,m3,rfl,rfl,rfl,rfl,by omega,by rw[hk];exact hO3⟩ Qs
  ·obtain rfl:i=A.length:=by omega
   refine As (Aa (Aa (Ae (Ab (Au (Qm rfl (Qm rfl (Am (Ao ?_)))))))));exact Az rfl rfl (⟨AH l1 (AH l2' (AH l3 l4)),m3,rfl,by rw[hAl,take_length]at hO3;exact hO3⟩)
end Go.Proofs.Q
namespace Go.Proofs.Q
open Go.Eng Go.RowKit
variable {o:List Cl} {M:List Bool} {c0 x:Int} {Q:List Int} {k:Nat}
def MkC(o:List Cl)(M:List Bool)(x:Int):Prop:=∃k,k<o.length/\(o.getD k default).id=x/\M.getD k false=true
structure ReI(o:List Cl)(c0:Int)(M:List Bool)(Q:List Int):Prop where
 len:M.length=o.length
 rM:∀x,MkC o M x->Rch (Ti o) c0 x
 rQ:∀x∈Q,Rch (Ti o) c0 x
 st:c0∈Q\/MkC o M c0
 cl:∀x,MkC o M x->∀s∈Ti o x,s∈Q\/MkC o M s
theorem ReI.start(o:List Cl)(c0:Int):ReI o c0 (replicate o.length false) [c0]:=by
 have hn:∀x,¬MkC o (replicate o.length false) x:=fun x ⟨k,hk,_,h⟩=>by simp[List.getD,hk]at h
 exact⟨by simp,fun x h=>absurd h (hn x),fun x h=>by rw[List.mem_singleton.1 h];exact .refl _,.inl (List.mem_singleton.2 rfl),fun x h=>absurd h (hn x)⟩
theorem ReI.mem(R:Rgt o)(hc:c0∈o.map Cl.id)(I:ReI o c0 M Q)(h:Rch (Ti o) c0 x):∃y∈o,y.id=x:=by
 have:x∈o.map Cl.id:=by
  induction h with
  | refl=>exact hc
  | step h hk ih=>
   obtain⟨z,hz,rfl⟩:=List.mem_map.1 ih;unfold Ti at hk;rw[Cw R.nd hz]at hk;obtain⟨s,hs,rfl⟩:=List.mem_map.1 hk;obtain⟨w,hw,e,_⟩:=R.sid z hz s hs;exact List.mem_map.2 ⟨w,hw,e⟩
 obtain⟨y,hy,e⟩:=List.mem_map.1 this;exact⟨y,hy,e⟩
theorem ReI.skip(I:ReI o c0 M (x::Q))(hx:MkC o M x):ReI o c0 M Q:=by
 refine⟨I.len,I.rM,fun y hy=>I.rQ y (mem_cons_of_mem _ hy),?_,fun y hy s hs=>?_⟩
 ·rcases I.st with h|h
  ·rcases List.mem_cons.1 h with rfl|h
   ·exact .inr hx
   ·exact .inl h
  ·exact .inr h
 ·rcases I.cl y hy s hs with h|h
  ·rcases List.mem_cons.1 h with rfl|h
   ·exact .inr hx
   ·exact .inl h
  ·exact .inr h
theorem MkC.set(hk:k<M.length):MkC o (M.set k true) x<->MkC o M x\/(k<o.length/\(o.getD k default).id=x):=by
 constructor
 ·rintro⟨q,h1,h2,h3⟩;by_cases e:k=q
  ·subst e;exact .inr ⟨h1,h2⟩
  ·refine .inl ⟨q,h1,h2,?_⟩
   rwa [show(M.set k true).getD q false=M.getD q false by simp[List.getD,List.getElem?_set_ne e]]at h3
 ·rintro(⟨q,h1,h2,h3⟩|⟨h1,h2⟩)
  ·refine⟨q,h1,h2,?_⟩;by_cases e:k=q
   ·subst e;simp[List.getD,hk]
   ·rw[show(M.set k true).getD q false=M.getD q false by simp[List.getD,List.getElem?_set_ne e]];exact h3
  ·exact⟨k,h1,h2,by simp[List.getD,hk]⟩
theorem ReI.mark(R:Rgt o)(I:ReI o c0 M (x::Q))(hk:k<o.length)(e:(o.getD k default).id=x):ReI o c0 (M.set k true) (Q++(o.getD k default).sd.map Prod.fst):=by
 have hkM:k<M.length:=by rw[I.len];exact hk
 have hs:Ti o x=(o.getD k default).sd.map Prod.fst:=by unfold Ti;rw[<-e,Cw R.nd (CS hk)]
 have hrx:=I.rQ x Mh;refine⟨by rw[List.length_set];exact I.len,fun y hy=>?_,fun y hy=>?_,?_,fun y hy s hs'=>?_⟩
 ·rcases (MkC.set hkM).1 hy with h|⟨_,h⟩
  ·exact I.rM y h
  ·rw[<-h,e];exact hrx
 ·rcases List.mem_append.1 hy with h|h
  ·exact I.rQ y (mem_cons_of_mem _ h)
  ·exact .step hrx (by rw[hs];exact h)
 ·rcases I.st with h|h
  ·rcases List.mem_cons.1 h with rfl|h
   ·exact .inr ((MkC.set hkM).2 (.inr ⟨hk,e⟩))
   ·exact .inl (List.mem_append.2 (.inl h))
  ·exact .inr ((MkC.set hkM).2 (.inl h))
 ·rcases (MkC.set hkM).1 hy with h|⟨_,h⟩
  ·rcases I.cl y h s hs' with h2|h2
   ·rcases List.mem_cons.1 h2 with rfl|h2
    ·exact .inr ((MkC.set hkM).2 (.inr ⟨hk,e⟩))
    ·exact .inl (List.mem_append.2 (.inl h2))
   ·exact .inr ((MkC.set hkM).2 (.inl h2))
  ·rw[<-h,e,hs]at hs';exact .inl (List.mem_append.2 (.inr hs'))
theorem ReI.all(R:Rgt o)(hc:c0∈o.map Cl.id)(I:ReI o c0 M [])(hk:k<o.length):M.getD k false=true<->(o.getD k default).id∈VM o c0:=by
 have hcl:∀x,Rch (Ti o) c0 x->MkC o M x:=fun x h=>by
  induction h with
  | refl=>exact I.st.resolve_left nofun
  | step h hk' ih=>exact(I.cl _ ih _ hk').resolve_left nofun
 rw[cloL_mem];constructor
 ·intro h;exact⟨List.mem_map.2 ⟨_,CS hk,rfl⟩,I.rM _ ⟨k,hk,rfl,h⟩⟩
 ·rintro⟨_,h⟩;obtain⟨q,h1,h2,h3⟩:=hcl _ h;have:=J6 R.nd h1 hk h2;subst this;exact h3
def RV(M:List Bool)(Q:List Int):Nat:=M.count false*70+Q.length
theorem Uw(hk:k<M.length)(h:M.getD k false=false){S:List Int}(hS:S.length<=64):RV (M.set k true) (Q++S)<RV M (x::Q):=by
 have hc:(M.set k true).count false+1=M.count false:=by
  have hg:M[k]=false:=by simpa[List.getD,hk] using h
  have h1:=List.count_set (a:=true) (b:=false) (l:=M) (i:=k) hk;rw[hg]at h1;have h2:0<M.count false:=List.count_pos_iff.2 (by rw[<-hg];exact getElem_mem hk);simp at h1;omega
 unfold RV;rw[length_append,length_cons];omega
theorem U8(M:List Bool)(x:Int)(Q:List Int):RV M Q<RV M (x::Q):=by unfold RV;rw[length_cons];omega
def IS(o:List Cl)(M:List Bool)(n:Nat):List Int:=((range n).filter fun k=>M.getD k false).map fun k=>(o.getD k default).id
theorem VE(R:Rgt o)(hc:c0∈o.map Cl.id)(I:ReI o c0 M [])(x:Int):x∈IS o M o.length<->x∈VM o c0:=by
 unfold IS;rw[List.mem_map];constructor
 ·rintro⟨k,hk,rfl⟩;obtain⟨h1,h2⟩:=List.mem_filter.1 hk;exact(I.all R hc (List.mem_range.1 h1)).1 h2
 ·intro h;obtain⟨y,hy,rfl⟩:=List.mem_map.1 (cloL_mem.1 h).1;obtain⟨h1,h2⟩:=G7 hy R.nd;refine⟨Nv o y.id,List.mem_filter.2 ⟨List.mem_range.2 h1,?_⟩,by rw[h2]⟩;exact(I.all R hc h1).2 (by rw[h2];exact h)
theorem SB(o:List Cl)(M:List Bool)(n:Nat):IS o M (n+1)=IS o M n++if M.getD n false then [(o.getD n default).id] else []:=by
 unfold IS;rw[range_succ,filter_append,map_append];congr 1;cases h:M.getD n false
 ·rw[filter_cons,h];simp
 ·rw[filter_cons,h];simp
def nM(L:List Int)(k:Int):Int:=L.getD (k%(L.length:Int)).toNat 0%6
def P6(L:List Int)(ks:List Int):Int:=if L=[] then 0 else ks.foldl (fun m k=>max m (nM L k)) 0
theorem Gh(L:List Int)(x:Int):∀(ks:List Int) (m:Int),ks.foldl (fun m k=>max m (nM L k)) m<=x<->m<=x/\∀k∈ks,nM L k<=x
 | [],m=>by simp
 | k::ks,m=>by rw[List.foldl_cons,Gh L x ks];simp only[mem_cons,forall_eq_or_imp,Int.max_le];exact⟨fun⟨⟨a,b⟩,c⟩=>⟨a,b,c⟩,fun⟨a,b,c⟩=>⟨⟨a,b⟩,c⟩⟩
theorem Yt(L:List Int)(k:Int):0<=nM L k/\nM L k<=5:=by unfold nM;omega
theorem Mb(L ks:List Int):0<=P6 L ks/\P6 L ks<=5:=by
 unfold P6;split
 ·decide
 ·have h1:=((Gh L (ks.foldl (fun m k=>max m (nM L k)) 0) ks 0).1 (Int.le_refl _)).1;have h2:=(Gh L 5 ks 0).2 ⟨by decide,fun k _=>(Yt L k).2⟩;exact⟨h1,h2⟩
theorem Kf{L ks ks':List Int}(h:∀k∈ks,k∈ks'):P6 L ks<=P6 L ks':=by
 unfold P6;split
 ·exact Int.le_refl _
 ·have h1:=(Gh L (ks'.foldl (fun m k=>max m (nM L k)) 0) ks' 0).1 (Int.le_refl _);exact(Gh L _ ks 0).2 ⟨h1.1,fun k hk=>h1.2 k (h k hk)⟩
theorem Sg{L ks ks':List Int}(h:∀k,k∈ks<->k∈ks'):P6 L ks=P6 L ks':=Int.le_antisymm (Kf fun k hk=>(h k).1 hk) (Kf fun k hk=>(h k).2 hk)
noncomputable def Dm(o:List Cl)(L:List Int)(c:Int):Int:=P6 L (VM o c)
theorem IX(G:Rgt o)(L:List Int){x:Cl}(hx:x∈o){s:Int×Int}(hs:s∈x.sd):Dm o L s.1<=Dm o L x.id:=by refine Kf fun k hk=>?_;rw[cloL_mem]at hk ⊢;refine⟨hk.1,Rch.trans (Rch.step (Rch.refl _) ?_) hk.2⟩;unfold Ti;rw[Cw G.nd hx];exact List.mem_map.2 ⟨s,hs,rfl⟩
noncomputable def Ff(o:List Cl)(L:List Int)(f:Int)(n:Nat):List (Int×Int):=(o.take n).map fun x=>(x.id,Dm o L x.id*f)
theorem Ze(G:Rgt o)(L:List Int)(f:Int)(hf:0<=f/\f<=1000):Xe o (Ff o L f o.length):=by
 have hb:∀c,0<=Dm o L c/\Dm o L c<=5:=fun c=>Mb _ _;have hm:∀a b:Int,a<=b->a*f<=b*f:=fun a b h=>Int.mul_le_mul_of_nonneg_right h hf.1
 have:=Uk G (fun c=>Dm o L c*f) (fun y _=>by
  have h1:=hb y.id;have h2:=hm 0 _ h1.1;have h3:=hm _ 5 h1.2
  constructor<;>omega) fun x hx s hs=>hm _ _ (IX G L hx hs)
 unfold Ff
 rwa [take_length]
end Go.Proofs.Q

namespace Go.Proofs.Q
open Go.Proofs.Tryz
open Go.Eng Go.RowKit
theorem _root_.Go.Eng.OwnQ.o1{α:Type}{F:α->List Value}{sz:Nat}{el:TypeId}{m:Hp}{v:Value}{l:List α}(O:OwnQ F sz el m v l):v.oneCell'=true:=(O.rd (h:=Hp.emp) (ms:=[m]) (List.Mem.head _)).rd.one
theorem OY(A:List Ce)(v vq:Value)(c0:Int)(hp:Hp)(F:RgtF (A.map Ce.c))(hc:c0∈(A.map Ce.c).map Cl.id)(hR:RdL cC 3 hp [] v A)(hAs:∀a∈A,RdL cD 2 hp [] a.v a.c.sd)(hq:RdL cI 1 hp [] vq [c0]):FnT Tryz.prog 119 #[v,vq] hp [] (fun r h' ms'=>hp.le h'/\∃m M,ms'=[m]/\OwnL cB 1 4 m r M/\ReI (A.map Ce.c) c0 M []):=by
 have o1:=hR.rd.one;have o2:=hq.rd.one;have G:=F.rgt;obtain⟨o,ho⟩:∃o,A.map Ce.c=o:=⟨_,rfl⟩
 rw[ho]at F G hc;rw[ho];have hAl:A.length=o.length:=by rw[<-ho,length_map]
 have hol:o.length<=4000:=G.n;have hge:∀i (hi:i<A.length),o[i]'(by omega)=A[i].c:=fun i hi=>by subst ho;simp
 refine Aq func119 ntmps119 rfl rfl (fun w0 hw0=>?_);simp only[AV];refine Au (Qm rfl (BG (Qm rfl (Qx (Ap hR.rd.any rfl Bk rfl) rfl (CC (n:=_) rfl PF V6 rfl rfl rfl (by rfl) (by rfl) (by omega) (by omega) rfl rfl rfl (fun g11=>Qm rfl (Am ?_)))))));have hM0:=Qy g11 A.length (by omega);refine Au ?_;refine Ar [] [] [] rfl AU Bg rfl (by omega) (by kernel_rfl) (by repeat (first|exact trivial|refine⟨⟨by first|rfl|exact(hR.rd.any).cells|exact Rd.cells ‹_›|exact(RdL.rd ‹_›).cells,rfl,rfl⟩,?_⟩)) rfl rfl rfl rfl (fun g12=>?_);refine Qm rfl ?_;refine Kr 0 (FA g12 Bo).q hq.any rfl AU Bg rfl (by omega) rfl rfl rfl (fun a _=>Cn a) (by(simp;done)) (by(simp;done)) rfl rfl rfl (fun v6 m6 hO6=>?_);have hI0:=ReI.start o c0;have hr0:RV (replicate o.length false) [c0]<=300000:=by unfold RV;rw[List.count_replicate_self];simp;omega
 refine Qm rfl (Am (Ac (Af ?_)))
 refine Ax (fun q sl h' ms'=>∃(M:List Bool) (Q:List Int) (m5 m6:Hp) (v6:Value),q=RV M Q/\sl=[(0,v),(4,.slice none 0 0),(5,.slice (some ⟨g11,0,none⟩) A.length A.length),(6,v6)]/\hp=h'/\ms'=[m6,m5]/\RV M Q<=300000/\ReI o c0 M Q/\OwnL cB 1 4 m5 (.slice (some ⟨g11,0,none⟩) A.length A.length) M/\OwnQ cI 1 3 m6 v6 Q)
  _ _ ⟨replicate o.length false,[c0],_,_,_,rfl,rfl,rfl,rfl,hr0,hI0,by rw[<-hAl];exact hM0,hO6⟩ Qs ?_
 rintro q sl h' ms' ⟨M,Q,m5,m6,v6,rfl,rfl,rfl,rfl,hr,hI,hO5,hO6⟩;have ov6:=hO6.o1;refine Ac (Au (Qm rfl (Qx (Ap (hO6.rd (h:=hp) (ms:=[m6,m5]) Mh).rd rfl AU rfl) rfl (Qm rfl (Am ?_)))));refine Av rfl (fun hql=>?_) (fun hql=>?_)
 ·obtain⟨x,Q,rfl⟩:∃x Q',Q=x::Q':=by
   cases Q with
   | nil=>simp at hql
   | cons x Q'=>exact⟨x,Q',rfl⟩
  have cq:Cell hp [m6,m5] ((AF v6).add (0*1)) (.int .i64 x):=(hO6.rd (h:=hp) (ms:=[m6,m5]) Mh).cell0 (j:=0) (by simp) rfl;obtain⟨y,hy,ey⟩:=hI.mem G hc (hI.rQ x Mh);obtain⟨hat,hgk⟩:=H7 F.inc hy;rw[ey]at hat hgk;obtain⟨k,hk⟩:∃k:Nat,M6 o x=k:=⟨_,(Int.toNat_of_nonneg hat).symm⟩
  rw[hk,Int.toNat_natCast]at hgk;have hko:k<o.length:=by have:=Pp o x;omega
  have hkA:k<A.length:=by omega
  have hkM:k<M.length:=by rw[hI.len];exact hko
  have hkid:(o.getD k default).id=x:=by rw[hgk,ey]
  refine Ag (Ab (Af (Au (Qm rfl (Qm rfl (Qx (AB 0 (hO6.rd (h:=hp) (ms:=[m6,m5]) Mh).rd rfl AU Bg rfl rfl rfl (by omega)) rfl (Ql rfl U3 (cq) ?_)))))));refine Qx (AN rfl call117 rfl ((by have:=ZQ A v x hp (by omega) (by rw[ho];exact F.inc.imp fun h=>Int.le_of_lt h) hR [m6,m5];rwa [ho,hk]at this))) rfl ?_;refine Qm rfl (BG (Qm rfl (Qx (Cx 1 (hO6.rd (h:=hp) (ms:=[m6,m5]) Mh).rd rfl AU Bg rfl rfl rfl (by simp)) rfl (Qm rfl (Am ?_)))));have hO6:=hO6.tail;obtain⟨w6,hw6⟩:∃w,BQ 1 v6 1 (Q.length+1)=w:=⟨_,rfl⟩
  simp only[length_cons,hw6]at hO6 ⊢;have ov6:=hO6.o1;have cb:∀ms,m5∈ms->Cell hp ms ((AF (.slice (some ⟨g11,0,none⟩) A.length A.length)).add (k*1)) (.bool M[k]):=fun ms hm=>(hO5.rd hm).cell0 hkM rfl;refine Ac (Au (Qm rfl (Qm rfl (Qm rfl ?_))));refine AR (t:=27) rfl (fun hs=>?_) (fun hs=>?_)
  ·omega
  ·refine Qg (AA rfl rfl) rfl (Qg (AA rfl rfl) rfl (Qg (B4 (k) rfl PF V6 rfl rfl (by omega) (by omega)) rfl (Qg (oL rfl U4 (cb _ (.tail _ (.head _)))) rfl (Qm rfl (Am ?_)))));refine Bv rfl (fun hb=>?_) (fun hb=>?_)
   ·have hmk:MkC o M x:=⟨k,hko,hkid,by rw[show M.getD k false=M[k] by simp[List.getD,hkM]];exact hb⟩
    have hlt:=U8 M x Q;refine As (Aa (Ae ?_));exact Ak (RV M Q) _ hlt ⟨M,Q,m5,m6,w6,rfl,rfl,rfl,rfl,by omega,hI.skip hmk,hO5,hO6⟩ Qs
   ·have hmf:M.getD k false=false:=by rw[show M.getD k false=M[k] by simp[List.getD,hkM]];exact hb
    obtain⟨z,hz⟩:∃z,A[k]=z:=⟨_,rfl⟩
    have hzo:o.getD k default=z.c:=by rw[show o.getD k default=o[k] by simp[List.getD,hko],hge k hkA,hz]
    have hI':=hI.mark G hko hkid;rw[hzo]at hI';have hX:=hAs z (by rw[<-hz];exact getElem_mem hkA);have hzl:z.c.sd.length<=64:=by have:=(F.bds (getElem_mem hko)).2.1;rwa [hge k hkA,hz]at this
    have hlt:=Uw (x:=x) (Q:=Q) (S:=z.c.sd.map Prod.fst) hkM hmf (by rw[length_map];omega);have hQl:Q.length<=300000:=by unfold RV at hr;rw[length_cons]at hr;omega
    have cx:∀ms,Cell hp ms (((AF v).add (k*3)).add 2) z.v:=fun ms=>by rw[<-hz];exact(hR.any (ms:=ms)).cell (j:=k) hkA (f:=2) rfl
    refine Ag (Ab (Au (Qm rfl (Qm rfl (Qx (B4 (k) rfl PF V6 rfl rfl (by omega) (by omega)) rfl (CB (F:=cB) (f:=fun x=>.bool x) (a:=true) 1 k (fun _=>rfl) hO5 rfl V6 rfl rfl rfl rfl hkM rfl rfl (fun m7 hO7=>BG (Qm rfl (Am (Af ?_))))))))))
    refine Ax (fun q sl h' ms'=>∃(j:Nat) (m6:Hp) (v6:Value),q=z.c.sd.length-j/\sl=[(0,v),(4,.slice none 0 0),(5,.slice (some ⟨g11,0,none⟩) A.length A.length),(6,v6),(7,.int .i64 k),(8,.int .i64 j)]/\hp=h'/\ms'=[m6,m7]/\j<=z.c.sd.length/\OwnQ cI 1 3 m6 v6 (Q++(z.c.sd.take j).map Prod.fst))
     (z.c.sd.length-0) _ ⟨0,m6,w6,rfl,rfl,rfl,rfl,by omega,by simpa using hO6⟩ Qs ?_
    rintro q sl h' ms' ⟨j,m6,v6,rfl,rfl,rfl,rfl,hj,hO6⟩;have ov6:=hO6.o1;have hql:(Q++(z.c.sd.take j).map Prod.fst).length<=400000:=by rw[length_append,length_map,length_take];omega
    refine Ac (Au (Qm rfl (Qm rfl (Qm rfl (Qx (AB _ hR.rd.any rfl Bk AG rfl rfl rfl (by omega)) rfl (Qf BH rfl (Ql rfl Ci (cx _) (Qx (Ap hX.rd.any rfl Ci rfl) rfl (Qm rfl (Am ?_))))))))));refine Av rfl (fun hjl=>?_) (fun hjl=>?_)
    ·have hjn:j<z.c.sd.length:=by omega
     obtain⟨s,hs⟩:∃s,z.c.sd[j]=s:=⟨_,rfl⟩
     have cs:∀ms,Cell hp ms (((AF z.v).add (j*2)).add 0) (.int .i64 s.1):=fun ms=>by
      have:Seg hp ms ((AF z.v).add (j*2)) (cD s):=by rw[<-hs];exact(hX.any (ms:=ms)).seg hjn
      exact this 0 _ rfl
     refine Ag (Ab (Ac (Af (Ad (Qm rfl (Qm rfl (Qm rfl (Qx (BT (k) hR.rd.any rfl Bk AG rfl rfl) rfl (Qf BH rfl (Ql rfl Ci (cx _) (Qm rfl (Qx (BT (j) hX.rd.any rfl Ci AK rfl rfl) rfl (Qf Cy rfl (Ql rfl U3 (cs _) (Al [_] rfl AU Bg rfl (by rfl) rfl rfl (by omega) rfl rfl rfl (fun g56=>Kr 1 hO6 (RdL.one Bo (x:=s.1) Mh rfl) rfl AU Bg rfl (by omega) rfl rfl rfl (fun a _=>Cn a) (by(try simp only[length_singleton]);omega) (by(try simp only[length_singleton]);omega) rfl rfl rfl (fun v9 m9 hO9=>?_)))))))))))))))));have ov9:=hO9.o1;refine Qm rfl (Aj (Ai (Ab (Ad (Qm rfl (Qx (oA rfl) rfl (Qm rfl (Aj (AL ?_)))))))));exact Ak (z.c.sd.length-(j+1)) _ (by omega) ⟨j+1,m9,v9,rfl,rfl,rfl,rfl,by omega,by rw[take_succ_eq_append_getElem hjn,map_append,<-append_assoc,hs];exact hO9⟩ Qs
    ·obtain rfl:j=z.c.sd.length:=by omega
     rw[take_length]at hO6;refine As (Aa (Aa (Ae (Ai ?_))));exact Ak (RV (M.set k true) (Q++z.c.sd.map Prod.fst)) _ hlt ⟨M.set k true,Q++z.c.sd.map Prod.fst,m7,m6,v6,rfl,rfl,rfl,rfl,by omega,hI',hO7,hO6⟩ Qs
 ·obtain rfl:Q=[]:=by
   cases Q with
   | nil=>rfl
   | cons x Q'=>simp at hql
  refine As (Aa (Aa (Ae (Ab (Au (Qm rfl (Qm rfl (Am (Ao (AL ?_))))))))));exact Az rfl rfl (⟨DS,m5,M,rfl,hO5,hI⟩)
theorem Oj(l:List Ce)(v vq:Value)(c0:Int)(hp:Hp)(hK:RgC l)(hR:RdC hp v l)(hq:RdL cI 1 hp [] vq [c0])(hc:c0∈(cn l).map Cl.id):FnT Tryz.prog 50 #[.agg #[v],vq] hp [] (fun r h' ms'=>hp.le h'/\∃m M,ms'=[m]/\OwnL cI 1 3 m r (IS (cn l) M (cn l).length)/\ReI (cn l) c0 M []):=by
 have o1:=hR.q.rd.one;have o2:=hq.rd.one;have hln:=hK.r.n;rw[length_map]at hln;refine Aq func50 ntmps50 rfl rfl (fun w0 hw0=>?_);simp only[AV];refine Au (AX [_] rfl rfl (by rfl) rfl rfl rfl (fun g2=>Qm rfl (Am (Bn 0 rfl fun h1 l1 hS=>?_))));have hR:=hR.up l1;have hq:=hq.up l1;refine Au (Qx (oG rfl CI AS (Seg.any hS)) rfl (Qc call49 rfl (K1 l v h1 hK.r.cs hR) (fun rC h2 ms2 l2 hF=>?_)));obtain⟨l2',mC,A,rfl,hOC,hA,hAs⟩:=hF;rw[IY hK.r]at hA;obtain⟨o,ho⟩:∃o,cn l=o:=⟨_,rfl⟩
 have hA:A.map Ce.c=o:=by rw[hA,<-ho];rfl
 have F:RgtF o:=by rw[<-ho];exact hK.F
 have G:=F.rgt;rw[ho]at hc;rw[ho];have hAl:A.length=o.length:=by rw[<-hA,length_map]
 have hol:o.length<=4000:=G.n;have oC:=hOC.o1;refine Qm rfl (Am (Bl hOC fun h3 l3 hQ=>?_));have hAs:∀a∈A,RdL cD 2 h3 [] a.v a.c.sd:=fun a ha=>(hAs a ha).up l3;have l13:=AH l2' l3;have hge:∀i (hi:i<A.length),o[i]'(by omega)=A[i].c:=fun i hi=>by subst hA;simp
 refine Au (Qm rfl (Qm rfl ?_));refine Qc call119 rfl (OY A rC vq c0 h3 (by rw[hA];exact F) (by rw[hA];exact hc) hQ hAs (hq.up l13)) (fun rM h4 ms4 l4 hF=>?_);obtain⟨l4',mM,M,rfl,hOM,hI⟩:=hF;rw[hA]at hI;have oM_:=hOM.o1;have hQ:=hQ.up l4';refine Qm rfl (Am (Bl hOM fun h5 l5 hB=>?_));have hQ:=hQ.up l5;refine Au (Qm rfl (Am (Ac (Au (Qm rfl (Am (Af (By ?_))))))))
 refine Ax (fun q sl h' ms'=>∃(i:Nat) (v7:Value) (m:Hp),q=A.length-i/\sl=[(4,.slice none 0 0),(5,rC),(6,rM),(7,v7),(8,.int .i64 i)]/\h5=h'/\ms'=[m]/\i<=A.length/\OwnL cI 1 3 m v7 (IS o M i))
  (A.length-0) _ ⟨0,_,Hp.emp,rfl,rfl,rfl,rfl,by omega,OwnL.nil Bo⟩ Qs ?_
 rintro q sl h' ms' ⟨i,v7,m7,rfl,rfl,rfl,rfl,hi,hO7⟩;have ov7:=hO7.o1;refine Ac (Au (Qm rfl (Qm rfl (Qx (Ap hQ.rd.any rfl Bk rfl) rfl (Qm rfl (Am ?_))))));refine Av rfl (fun hlt=>?_) (fun hlt=>?_)
 ·have hil:i<A.length:=by omega
  have hio:i<o.length:=by omega
  have hiM:i<M.length:=by rw[hI.len];exact hio
  obtain⟨x,hx⟩:∃x,A[i]=x:=⟨_,rfl⟩
  have hxo:o.getD i default=x.c:=by rw[show o.getD i default=o[i] by simp[List.getD,hio],hge i hil,hx]
  have cb:∀ms,Cell h5 ms ((AF rM).add (i*1)) (.bool M[i]):=fun ms=>(hB.any (ms:=ms)).cell0 hiM rfl;have cx:∀ms,Cell h5 ms (((AF rC).add (i*3)).add 0) (.int .i64 x.c.id):=fun ms=>by rw[<-hx];exact(hQ.any (ms:=ms)).cell (j:=i) hil (f:=0) rfl
  have hk:=SB o M i;rw[hxo,show M.getD i false=M[i] by simp[List.getD,hiM]]at hk
  have hfl:(IS o M i).length<=4000:=by unfold IS;rw[length_map];exact Nat.le_trans (List.length_filter_le _ _) (by rw[length_range];omega)
  refine Ag (Ab (Ac (Af (Au (Qm rfl (Qm rfl (Qx (BT (i) hB.rd.any rfl PF V6 rfl rfl) rfl (Ql rfl U4 (cb _) (Am ?_)))))))));refine Bv rfl (fun hb=>?_) (fun hb=>?_)
  ·rw[hb,if_pos rfl]at hk;refine Ad (Qm rfl (Qm rfl (Qm rfl (Qx (BT (i) hQ.rd.any rfl Bk AG rfl rfl) rfl (Qf Bx rfl (Ql rfl U3 (cx _) (Al [_] rfl AU Bg rfl (by rfl) rfl rfl (by omega) rfl rfl rfl (fun g30=>AP 1 hO7 (RdL.one Bo (x:=x.c.id) Mh rfl) rfl AU Bg rfl (by omega) rfl rfl rfl Cn (by(try simp only[length_singleton]);omega) (by(try simp only[length_singleton]);omega) rfl rfl rfl (fun v9 m9 hO9=>?_)))))))));rw[<-hk]at hO9;have ov9:=hO9.o1;refine Qm rfl (Aj (Ai (Ab (Ad (Qm rfl (Qx (oA rfl) rfl (Qm rfl (Aj (AL ?_)))))))));exact Ak (A.length-(i+1)) _ (by omega) ⟨i+1,v9,m9,rfl,rfl,rfl,rfl,by omega,hO9⟩ Qs
  ·rw[hb,if_neg (by decide),append_nil]at hk;refine Ag (Ai (Ab (Ad (Qm rfl (Qx (oA rfl) rfl (Qm rfl (Aj ?_)))))));exact Ak (A.length-(i+1)) _ (by omega) ⟨i+1,v7,m7,rfl,rfl,rfl,rfl,by omega,by rw[hk];exact hO7⟩ Qs
 ·obtain rfl:i=A.length:=by omega
  refine As (Aa (Aa (Ae (Ab (Au (Qm rfl (Qm rfl (Am (Ao ?_)))))))));exact Az rfl rfl (⟨AH l1 (AH l13 (AH l4' l5)),m7,M,rfl,by rw[hAl]at hO7;exact hO7,hI⟩)
variable {L:List Int}
theorem N7{α:Type}{F:α->List Value}{h:Hp}{g:Nat}{x:α}(n:Nat)(hF:∀x,(F x).length=n)(hS:Seg h [] ⟨g,0,none⟩ (F x)):RdL F n h [] (.slice (some ⟨g,0,none⟩) 1 1) [x]:=
 ⟨⟨some ⟨g,0,none⟩,1,rfl,Nat.le_refl _,by decide,by rw[A6 hF],fun _=>⟨_,rfl,by simpa using hS⟩⟩,hF⟩
theorem XL(ks:List Int):P6 [] ks=0:=by unfold P6;rw[if_pos rfl]
def W5(L ks:List Int)(j:Nat):Int:=(ks.take j).foldl (fun m k=>max m (nM L k)) 0
theorem Ve{ks:List Int}{j:Nat}(hj:j<ks.length):W5 L ks (j+1)=max (W5 L ks j) (nM L ks[j]):=by unfold W5;rw[take_succ_eq_append_getElem hj,List.foldl_append];rfl
theorem Wk{ks:List Int}(h:L≠[]):W5 L ks ks.length=P6 L ks:=by unfold W5 P6;rw[if_neg h,take_length]
theorem Zr(L ks:List Int)(j:Nat):0<=W5 L ks j/\W5 L ks j<=5:=by have h1:=((Gh L (W5 L ks j) (ks.take j) 0).1 (Int.le_refl _)).1;have h2:=(Gh L 5 (ks.take j) 0).2 ⟨by decide,fun k _=>(Yt L k).2⟩;exact⟨h1,h2⟩
theorem Xi{o:List Cl}{M:List Bool}{n:Nat}(hn:n<=o.length):∀y∈IS o M n,∃x∈o,x.id=y:=fun y hy=>by unfold IS at hy;obtain⟨k,hk,rfl⟩:=List.mem_map.1 hy;have:=List.mem_range.1 (List.mem_filter.1 hk).1;exact⟨_,CS (by omega),rfl⟩
theorem Po{o:List Cl}{f:Int}{i:Nat}(hi:i<o.length):Ff o L f (i+1)=Ff o L f i++[(o[i].id,Dm o L o[i].id*f)]:=by unfold Ff;rw[take_succ_eq_append_getElem hi,map_append];rfl
theorem Sq(l:List Ce)(v vL:Value)(L:List Int)(f:Int)(hp:Hp)(hK:RgC l)(hR:RdC hp v l)(hL:RdL cI 1 hp [] vL L)(hLb:∀x∈L,BE x)(hf:0<=f/\f<=1000):FnT Tryz.prog 14 #[.agg #[v],vL,.int .i64 f] hp [] (fun r h' ms'=>hp.le h'/\∃m,ms'=[m]/\OwnL cV 2 47 m r (Ff (cn l) L f (cn l).length)):=by
 have o1:=hR.q.rd.one;have o2:=hL.rd.one;have hln:=hK.r.n;rw[length_map]at hln;refine Aq func14 ntmps14 rfl rfl (fun w0 hw0=>?_);simp only[AV];refine Au (AX [_] rfl rfl (by rfl) rfl rfl rfl (fun g3=>Qm rfl (Am (Bn 0 rfl fun h1 l1 hS=>?_))));have hR:=hR.up l1;have hL:=hL.up l1;refine Au (Qm rfl (BG (Qx (oG rfl CI AS (Seg.any hS)) rfl (Qc call49 rfl (K1 l v h1 hK.r.cs hR) (fun rC h2 ms2 l2 hF=>?_)))));obtain⟨l2',mC,A,rfl,hOC,hA,hAs⟩:=hF;rw[IY hK.r]at hA;obtain⟨o,ho⟩:∃o,cn l=o:=⟨_,rfl⟩
 have hA:A.map Ce.c=o:=by rw[hA,<-ho];rfl
 have F:RgtF o:=by rw[<-ho];exact hK.F
 have G:=F.rgt;rw[ho];have hAl:A.length=o.length:=by rw[<-hA,length_map]
 have hol:o.length<=4000:=G.n;have oC:=hOC.o1;refine Qm rfl (Am (Bl hOC fun h3 l3 hQ=>?_));have l13:=AH l2' l3;have hge:∀i (hi:i<A.length),o[i]'(by omega)=A[i].c:=fun i hi=>by subst hA;simp
 refine Ac (Au (Qm rfl (Am (Af (By ?_)))))
 refine Ax (fun q sl h' ms'=>∃(i:Nat) (v7:Value) (m:Hp),q=A.length-i/\sl=[(1,vL),(2,.int .i64 f),(3,.pointer (some ⟨g3,0,none⟩)),(6,.slice none 0 0),(7,v7),(8,rC),(9,.int .i64 i)]/\h3.le h'/\ms'=[m]/\i<=A.length/\OwnL cV 2 47 m v7 (Ff o L f i))
  (A.length-0) _ ⟨0,_,Hp.emp,rfl,rfl,DS,rfl,by omega,OwnL.nil GA⟩ Qs ?_
 rintro q sl h4 ms' ⟨i,v7,m7,rfl,rfl,l4,rfl,hi,hO7⟩;have ov7:=hO7.o1;have hQ:=hQ.up l4;have hL:=hL.up (AH l13 l4);have hR:=hR.up (AH l13 l4);have hS:Seg h4 [] ⟨g3,0,none⟩ [v]:=hS.le (AH l13 l4);refine Ac (Au (Qm rfl (Qm rfl (Qx (Ap hQ.rd.any rfl Bk rfl) rfl (Qm rfl (Am ?_))))));refine Av rfl (fun hlt=>?_) (fun hlt=>?_)
 ·have hil:i<A.length:=by omega
  have hio:i<o.length:=by omega
  obtain⟨x,hx⟩:∃x,A[i]=x:=⟨_,rfl⟩
  have hxo:o[i]=x.c:=by rw[hge i hil,hx]
  have hxm:x.c∈o:=by rw[<-hxo];exact getElem_mem hio
  have cx:∀ms,Cell h4 ms (((AF rC).add (i*3)).add 0) (.int .i64 x.c.id):=fun ms=>by rw[<-hx];exact(hQ.any (ms:=ms)).cell (j:=i) hil (f:=0) rfl
  refine Ag (Ab (Ac (Af (Au (Qm rfl (Am (Ac (Bh 7 CT (by kernel_rfl) rfl (AM (oG rfl CI AS (Seg.any hS)) rfl rfl (Wm rfl (Wm rfl (AM (BT (i) hQ.rd.any rfl Bk AG rfl rfl) rfl rfl (Wf Bx rfl (Wl rfl U3 (cx _) (PS (Dt [_] rfl AU Bg rfl (by rfl) rfl rfl (by omega)) rfl rfl (F5 (fun g27=>Dy fun h5 l5 hS5=>?_)))))))))))))))));refine Qc call50 rfl (Oj l v _ x.c.id h5 hK (hR.up l5) (N7 1 Bo hS5) (by rw[ho];exact List.mem_map.2 ⟨_,hxm,rfl⟩)) (fun rK h6 ms6 l6 hF=>?_);obtain⟨l6',mK,M,rfl,hOK,hI⟩:=hF;rw[ho]at hOK hI;obtain⟨K,hKe⟩:∃K,IS o M o.length=K:=⟨_,rfl⟩
  rw[hKe]at hOK
  have hKl:K.length<=4000:=by rw[<-hKe];unfold IS;rw[length_map];exact Nat.le_trans (List.length_filter_le _ _) (by rw[length_range];omega)
  have hKid:∀y∈K,0<=y:=fun y hy=>by obtain⟨z,hz,rfl⟩:=Xi (Nat.le_refl _) y (by rw[hKe];exact hy);have:=G.pos z hz;omega
  have hKv:P6 L K=Dm o L x.c.id:=Sg fun y=>by rw[<-hKe];exact VE G (List.mem_map.2 ⟨_,hxm,rfl⟩) hI y
  have oK:=hOK.o1;refine Qm rfl (Am (Bl hOK fun h7 l7 hRK=>?_));have l47:=AH l5 (AH l6' l7);have hL:=hL.up l47;have hQ:=hQ.up l47;refine Bd (fun sl h' ms'=>sl=[(1,vL),(2,.int .i64 f),(3,.pointer (some ⟨g3,0,none⟩)),(6,.slice none 0 0),(7,v7),(8,rC),(9,.int .i64 i),(10,.int .i64 (Dm o L x.c.id))]/\h7=h'/\ms'=[m7]) ?_ (fun s h ms hI=>?_)
  ·refine Ac (Ad (Qm rfl (Am (Af ?_))))
   refine Ax (fun q sl h' ms'=>∃(j:Nat) (w:Int),q=K.length-j/\sl=[(1,vL),(2,.int .i64 f),(3,.pointer (some ⟨g3,0,none⟩)),(6,.slice none 0 0),(7,v7),(8,rC),(9,.int .i64 i),(10,.int .i64 w),(11,rK),(12,.int .i64 j)]/\h7=h'/\ms'=[m7]/\j<=K.length/\(L=[]->w=0)/\(L≠[]->w=W5 L K j))
    (K.length-0) _ ⟨0,0,rfl,rfl,rfl,rfl,by omega,fun _=>rfl,fun _=>rfl⟩ Qs ?_
   rintro q sl h' ms' ⟨j,w,rfl,rfl,rfl,rfl,hj,hw0,hw1⟩
   have hwb:0<=w/\w<=5:=by
    by_cases e:L=[]
    ·rw[hw0 e];decide
    ·rw[hw1 e];exact Zr _ _ _
   have hLl:=hL.len_le
   have hend:(j=K.length\/L=[])->w=Dm o L x.c.id:=fun h=>by
    rw[<-hKv];by_cases e:L=[]
    ·rw[hw0 e,e,XL]
    ·rw[hw1 e,h.resolve_right e,Wk e]
   refine Ac (Au (Qm rfl (Qm rfl (Qx (Ap hRK.rd.any rfl AU rfl) rfl (Qm rfl (Qm rfl ?_))))));refine AR (t:=33) rfl (fun hs=>?_) (fun hs=>?_)
   ·refine Qg (AA rfl rfl) rfl (Qg (Ap hL.rd.any rfl AU rfl) rfl (Qg (Dc rfl rfl rfl) rfl (Qm rfl (Am ?_))));refine Av rfl (fun hLn=>?_) (fun hLn=>?_)
    ·have hL0:L≠[]:=fun e=>by rw[e]at hLn;simp at hLn
     have hLp:0<L.length:=by
      cases L with
      | nil=>exact absurd rfl hL0
      | cons=>simp
     have hjn:j<K.length:=by omega
     have hK0:=hKid _ (getElem_mem hjn);obtain⟨r,hr⟩:∃r:Nat,K[j]%(L.length:Int)=r:=⟨(K[j]%(L.length:Int)).toNat,by rw[Int.toNat_of_nonneg (Int.emod_nonneg _ (by omega))]⟩
     have hrl:r<L.length:=by have:=Int.emod_lt_of_pos K[j] (show(0:Int)<L.length by omega);omega
     have hn:nM L K[j]=L[r]%6:=by unfold nM;rw[hr,Int.toNat_natCast];simp[List.getD,hrl]
     have hw:=hw1 hL0;have ck:∀ms,Cell h7 ms ((AF rK).add (j*1)) (.int .i64 K[j]):=fun ms=>(hRK.any (ms:=ms)).cell0 hjn rfl;have cl:∀ms,Cell h7 ms ((AF vL).add (r*1)) (.int .i64 L[r]):=fun ms=>(hL.any (ms:=ms)).cell0 hrl rfl;refine Ag (Ab (Ac (Af (Ad (Qm rfl (Qm rfl (Qm rfl (Qm rfl (Qx (BT (j) hRK.rd.any rfl AU Bg rfl rfl) rfl (Ql rfl U3 (ck _) (Qm rfl (Qx (Ap hL.rd.any rfl AU rfl) rfl (Qx (BP rfl rfl rfl hK0 (by omega)) rfl (Qx (BT (r) hL.rd.any rfl AU Bg rfl rfl) rfl (Ql rfl U3 (cl _) (Qx (AN rfl call34 rfl (FX L[r] 6 (hLb _ (getElem_mem hrl)) (by decide) h7 [m7])) rfl (Qx (IV rfl rfl rfl) rfl (Qm rfl (Aj (Ai (Ab (Ad (Qm rfl (Qx (oA rfl) rfl (Qm rfl (Aj ?_))))))))))))))))))))))))));exact Ak (K.length-(j+1)) _ (by omega) ⟨j+1,max w (L[r]%6),rfl,rfl,rfl,rfl,by omega,fun e=>absurd e hL0,fun _=>by rw[Ve hjn,hn,hw]⟩ Qs
    ·have hL0:L=[]:=by
      cases L with
      | nil=>rfl
      | cons=>simp at hLn
     obtain rfl:w=Dm o L x.c.id:=hend (.inr hL0);refine As (Aa (Aa (Ae ?_)));exact AC _ ⟨rfl,rfl,rfl⟩ Qs
   ·obtain rfl:w=Dm o L x.c.id:=hend (.inl (by omega));refine Qk rfl (Qk rfl (Qk rfl (Qm rfl (Am (AO rfl (As (Aa (Aa (Ae ?_)))))))));exact AC _ ⟨rfl,rfl,rfl⟩ Qs
  ·obtain⟨rfl,rfl,rfl⟩:=hI;have hvb:0<=Dm o L x.c.id/\Dm o L x.c.id<=5:=Mb _ _
   have hpb:-9223372036854775808<=Dm o L x.c.id*f/\Dm o L x.c.id*f<=9223372036854775807:=by have h1:0<=Dm o L x.c.id*f:=Int.mul_nonneg hvb.1 hf.1;have h2:Dm o L x.c.id*f<=5*f:=Int.mul_le_mul_of_nonneg_right hvb.2 hf.1;omega
   have hfl:(Ff o L f i).length<=4000:=by unfold Ff;rw[length_map,length_take];omega
   have cx7:∀ms,Cell h7 ms (((AF rC).add (i*3)).add 0) (.int .i64 x.c.id):=fun ms=>by rw[<-hx];exact(hQ.any (ms:=ms)).cell (j:=i) hil (f:=0) rfl
   refine Ad (Qm rfl (Qm rfl (Qm rfl (Qx (BT (i) hQ.rd.any rfl Bk AG rfl rfl) rfl (Qf Bx rfl (Ql rfl U3 (cx7 _) (Qm rfl (Qm rfl (Qx (oM rfl hpb) rfl (Qx (Bb T5 [.int .i64 0,.int .i64 0] [(0,_),(1,_)] [_,_] rfl DV rfl rfl Qt rfl) rfl (Al [_,_] rfl OU DV rfl (by rfl) rfl rfl (by omega) rfl rfl rfl (fun g63=>AP 1 hO7 (RdL.one GA (x:=(x.c.id,Dm o L x.c.id*f)) Mh rfl) rfl OU DV rfl (by omega) rfl rfl rfl O8 (by(try simp only[length_singleton]);omega) (by(try simp only[length_singleton]);omega) rfl rfl rfl (fun v9 m9 hO9=>?_)))))))))))));have ov9:=hO9.o1;refine Qm rfl (Aj (Ai (Ab (Ad (Qm rfl (Qx (oA rfl) rfl (Qm rfl (Aj (AL ?_)))))))));exact Ak (A.length-(i+1)) _ (by omega) ⟨i+1,v9,m9,rfl,rfl,AH l4 l47,rfl,by omega,by rw[Po hio,hxo];exact hO9⟩ Qs
 ·obtain rfl:i=A.length:=by omega
  refine As (Aa (Aa (Ae (Ab (Au (Qm rfl (Qm rfl (Am (Ao ?_)))))))));exact Az rfl rfl (⟨AH l1 (AH l13 l4),m7,rfl,by rw[hAl]at hO7;exact hO7⟩)
end Go.Proofs.Q
namespace Go.Proofs.Q
open Go.Proofs.Tryz
open Go.Eng Go.RowKit
theorem Qi{P:Program}{d:Nat}(X Y:Array Value)(w:World):∀(fs:List Field) (os:List (TypeId×Nat×Bool)),fs.map (fun f=>(decide (f.name ≠ "_"),f.type,f.offset))=os.map (fun o=>(true,o.1,o.2.1))->(∀o∈os,P.plainKey o.1=true/\∃a b,X[o.2.1]?=some a/\Y[o.2.1]?=some b/\(Op.equalIn (d+1) o.1 a b).run P w=.ok o.2.2 w)->(Op.eqFields (d+1) X Y fs).run P w=.ok (os.all fun o=>o.2.2) w
 | [],[],_,_=>by simp[Op.eqFields]
 | [],o::os,h,_=>by simp at h
 | f::fs,[],h,_=>by simp at h
 | f::fs,o::os,h,hc=>by
  simp only[List.map_cons,List.cons.injEq,Prod.mk.injEq]at h;obtain⟨⟨h1,h2,h3⟩,h4⟩:=h;have ih:=Qi (d:=d) X Y w fs os h4 fun a ha=>hc a (mem_cons_of_mem _ ha);obtain⟨hp,a,b,c1,c2,he⟩:=hc o Mh;unfold Op.eqFields;rw[if_pos (of_decide_eq_true h1),h2,h3];simp only[Sem.run_bind,run_part_plain w hp c1,run_part_plain w hp c2,Result.andThen_ok,he];cases e:o.2.2
  ·simp[e]
  ·simp[e,ih]
theorem YO:(Tryz.prog.fieldsOf 43).toList.map (fun f=>(decide (f.name ≠ "_"),f.type,f.offset))=[(3,0),(3,1),(3,2),(4,3),(3,4),(3,5)].map (fun o=>(true,o.1,o.2)):=by kernel_rfl
theorem pk3:Tryz.prog.plainKey 3=true:=by kernel_rfl
theorem pk4:Tryz.prog.plainKey 4=true:=by kernel_rfl
theorem AaC:Tryz.prog.eqGuardType Tryz.prog.depth 43=false:=by kernel_rfl
theorem ZO:Tryz.prog.underlying 43=some (.struct (Tryz.prog.fieldsOf 43)):=by kernel_rfl
theorem Aae:Tryz.prog.stoodInHeld 43=false:=by kernel_rfl
theorem MA{o:Oper}{s:Aw}{h:Hp}{ms:List Hp}{x y:Operand}{u:TypeId}(a b:Br)(ho:o.op=.binOp .neq 43 x y u)(hx:ev s x=some (.agg (Ld a).toArray))(hy:ev s y=some (.agg (Ld b).toArray)):OX Tryz.prog o s h ms (.bool (decide (a≠b))):=
 Bp fun ρ w hρ _=>by
  have h1:(Op.equalIn 10000 43 (.agg (Ld a).toArray) (.agg (Ld b).toArray)).run Tryz.prog w=.ok (decide (a=b)) w:=by
   have h2:=Qi (P:=Tryz.prog) (d:=9998) (Ld a).toArray (Ld b).toArray w (Tryz.prog.fieldsOf 43).toList [(3,0,a.dim==b.dim),(3,1,a.birth==b.birth),(3,2,a.death==b.death),(4,3,a.opn==b.opn),(3,4,a.low==b.low),(3,5,a.high==b.high)] (by rw[YO];rfl) fun o ho=>by
    simp only[mem_cons,not_mem_nil,or_false]at ho;rcases ho with rfl|rfl|rfl|rfl|rfl|rfl
    ·exact⟨pk3,_,_,rfl,rfl,run_equalIn_int w _ 3 .i64 .i64 _ _ U3⟩
    ·exact⟨pk3,_,_,rfl,rfl,run_equalIn_int w _ 3 .i64 .i64 _ _ U3⟩
    ·exact⟨pk3,_,_,rfl,rfl,run_equalIn_int w _ 3 .i64 .i64 _ _ U3⟩
    ·exact⟨pk4,_,_,rfl,rfl,run_equalIn_bool' w _ 4 _ _ U4⟩
    ·exact⟨pk3,_,_,rfl,rfl,run_equalIn_int w _ 3 .i64 .i64 _ _ U3⟩
    ·exact⟨pk3,_,_,rfl,rfl,run_equalIn_int w _ 3 .i64 .i64 _ _ U3⟩
   rw[run_equalIn_agg w 9999 43 _ _ ZO Aae,h2];congr 1;obtain⟨a1,a2,a3,a4,a5,a6⟩:=a;obtain⟨b1,b2,b3,b4,b5,b6⟩:=b;rw[Bool.eq_iff_iff,decide_eq_true_iff,Br.mk.injEq];show((a1==b1)&&((a2==b2)&&((a3==b3)&&((a4==b4)&&((a5==b5)&&((a6==b6)&&true))))))=true<->_;simp only[Bool.and_true,Bool.and_eq_true,beq_iff_eq]
  have e:(!decide (a=b))=decide (a≠b):=by simp
  simp only[execOp,ho,hρ _ _ hx,hρ _ _ hy];simp only[Sem.run_bind,run_eqGuard_agg w _ _ _ _ _ _ AaC,run_neq_struct,h1,e,Result.andThen_ok,Sem.run_pure]
theorem PT{a b:Nat}(h:(a:Int)<b):a<b:=by omega
theorem ND(a b:List Br)(va vb:Value)(h:Hp)(hA:RdL Ld 6 h [] va a)(hB:RdL Ld 6 h [] vb b)(ms:List Hp):FnV Tryz.prog 17 #[va,vb] h ms (.bool (decide (a=b))):=by
 refine Gp ?_ ms;have la:=hA.len_le;have lb:=hB.len_le;refine Aq func17 ntmps17 rfl rfl (fun w0 hw0=>?_);simp only[AV];refine Au (Qm rfl (Am (Ac (Au (Qm rfl (Qx (Ap hA.rd.any rfl OO rfl) rfl (Qm rfl (Qx (Ap hB.rd.any rfl OO rfl) rfl (Qm rfl (Am ?_))))))))));refine Av rfl (fun hne=>?_) (fun hne=>?_)
 ·refine Ac (Ad (Qm rfl (Am (Ao (Ah ?_)))));exact Az rfl rfl (by rw[decide_eq_false];intro e;rw[e]at hne;exact hne rfl)
 ·have hl:a.length=b.length:=by omega
  refine Ag (Ab (Ac (Au (Qm rfl (Am (Af ?_))))))
  refine Ax (fun q s h' ms'=>∃(k:Nat),q=a.length-k/\s=[(0,va),(1,vb),(5,.int .i64 k)]/\h=h'/\ms'=[]/\k<=a.length/\a.take k=b.take k)
   (a.length-0) _ ⟨0,rfl,rfl,rfl,rfl,by omega,rfl⟩ Qs ?_
  rintro q s h' ms' ⟨k,rfl,rfl,rfl,rfl,hk,he⟩;refine Ac (Au (Qm rfl (Qm rfl (Qx (Ap hA.rd.any rfl OO rfl) rfl (Qm rfl (Am ?_))))));refine Av rfl (fun hlt=>?_) (fun hlt=>?_)
  ·have hka:k<a.length:=PT hlt;have hkb:k<b.length:=by omega
   have ca:∀ms,Seg h ms ((AF va).add (k*6)) (Ld a[k]):=fun ms=>(hA.any (ms:=ms)).seg hka;have cb:∀ms,Seg h ms ((AF vb).add (k*6)) (Ld b[k]):=fun ms=>(hB.any (ms:=ms)).seg hkb;refine Ag (Ab (Ac (Af (Ac (Bh 8 CT (by kernel_rfl) rfl (Wm rfl (Wm rfl (AM (BT (k) hA.rd.any rfl OO D3 rfl rfl) rfl rfl (AM (oG rfl Xg D3 (ca _)) rfl rfl (Wm rfl (Wm rfl (AM (BT (k) hB.rd.any rfl OO D3 rfl rfl) rfl rfl (AM (oG rfl Xg D3 (cb _)) rfl rfl (Bf (Qx (MA a[k] b[k] rfl rfl rfl) rfl (Am ?_))))))))))))))));refine Av rfl (fun hne=>?_) (fun hne=>?_)
   ·refine Ac (Ad (Qm rfl (Am (Ao (An (Ah (Ah (An (Ah ?_)))))))));exact Az rfl rfl (by rw[decide_eq_false];rintro rfl;exact hne rfl)
   ·refine Ag (Ai (Ab (Ad (Qm rfl (Qx (oA rfl) rfl (Qm rfl (Aj ?_)))))));refine Ak (a.length-(k+1)) _ (by omega) ⟨k+1,rfl,rfl,rfl,rfl,by omega,?_⟩ Qs;rw[List.take_add_one,List.take_add_one,he,List.getElem?_eq_getElem hka,List.getElem?_eq_getElem hkb,Decidable.not_not.1 hne]
  ·obtain rfl:k=a.length:=by omega
   refine As (Aa (Aa (Ae (Ab (Au (Qm rfl (Am (Ao ?_))))))));exact Az rfl rfl (by rw[take_length,hl,take_length]at he;rw[decide_eq_true he])
theorem Rc(la lb:List Int)(va vb:Value)(h:Hp)(hA:RdL cI 1 h [] va la)(hB:RdL cI 1 h [] vb lb)(ms:List Hp):FnV Tryz.prog 44 #[va,vb] h ms (.bool (decide (la=lb))):=by
 refine Gp ?_ ms;have l1:=hA.len_le;have l2:=hB.len_le;refine Aq func44 ntmps44 rfl rfl (fun w0 hw0=>?_);simp only[AV];refine Au (Qm rfl (Am (Ac (Au (Qm rfl (Qx (Ap hA.rd.any rfl AU rfl) rfl (Qm rfl (Qx (Ap hB.rd.any rfl AU rfl) rfl (Qm rfl (Am ?_))))))))));refine Av rfl (fun hlen=>?_) (fun hlen=>?_)
 ·refine Ac (Ad (Qm rfl (Am (Ao (Ah ?_)))));exact Az rfl rfl (by rw[decide_eq_false];rintro rfl;exact hlen rfl)
 ·have hlen:la.length=lb.length:=by omega
  refine Ag (Ab (Ac (Au (Qm rfl (Am (Af ?_))))))
  refine Ax (fun q s h' ms'=>∃(k:Nat),q=la.length-k/\s=[(0,va),(1,vb),(5,.int .i64 k)]/\h=h'/\ms'=[]/\k<=la.length/\la.take k=lb.take k)
   (la.length-0) _ ⟨0,rfl,rfl,rfl,rfl,by omega,rfl⟩ Qs ?_
  rintro q s h' ms' ⟨k,rfl,rfl,rfl,rfl,hk,hno⟩;refine Ac (Au (Qm rfl (Qm rfl (Qx (Ap hA.rd.any rfl AU rfl) rfl (Qm rfl (Am ?_))))));refine Av rfl (fun hlt=>?_) (fun hlt=>?_)
  ·have k1:k<la.length:=by omega
   have k2:k<lb.length:=by omega
   have ca:∀ms,Cell h ms ((AF va).add (k*1)) (.int .i64 la[k]):=fun ms=>(hA.any (ms:=ms)).cell0 k1 rfl;have cb:∀ms,Cell h ms ((AF vb).add (k*1)) (.int .i64 lb[k]):=fun ms=>(hB.any (ms:=ms)).cell0 k2 rfl;refine Ag (Ab (Ac (Af (Ac (Bh 8 CT (by kernel_rfl) rfl (Wm rfl (Wm rfl (AM (BT (k) hA.rd.any rfl AU Bg rfl rfl) rfl rfl (Wl rfl U3 (ca _) (Wm rfl (Wm rfl (AM (BT (k) hB.rd.any rfl AU Bg rfl rfl) rfl rfl (Wl rfl U3 (cb _) (Bf (Qm rfl (Am ?_))))))))))))))));refine Av rfl (fun hne=>?_) (fun hne=>?_)
   ·refine Ac (Ad (Qm rfl (Am (Ao (An (Ah (Ah (An (Ah ?_)))))))));exact Az rfl rfl (by rw[decide_eq_false];rintro rfl;exact hne rfl)
   ·refine Ag (Ai (Ab (Ad (Qm rfl (Qx (oA rfl) rfl (Qm rfl (Aj ?_)))))));refine Ak (la.length-(k+1)) _ (by omega) ⟨k+1,rfl,rfl,rfl,rfl,by omega,?_⟩ Qs;rw[List.take_add_one,List.take_add_one,hno,List.getElem?_eq_getElem k1,List.getElem?_eq_getElem k2,Decidable.not_not.1 hne]
  ·refine As (Aa (Aa (Ae (Ab (Au (Qm rfl (Am (Ao ?_))))))));exact Az rfl rfl (by rw[decide_eq_true];rwa [List.take_of_length_le (by omega),List.take_of_length_le (by omega)]at hno)
end Go.Proofs.Q
namespace Go.Proofs.Q
open Go.Eng Go.RowKit Go.Lin
variable {j:Nat}
section
variable {p:Int} {n:Nat} {D:Nat->Nat->Int} {dm:Nat->Int} {pos:Nat->Nat} {v v':Nat->Nat->Int} {low low':Nat->Option Nat}
theorem Va(R:Rdc p n D dm pos v low)(R':Rdc p n D dm pos v' low'){i:Nat}(hj:j<n)(h:low j=some i):∃k,k<n/\low' k=some i/\pos k<=pos j:=by
 obtain⟨C,hC⟩:=R.chg R' (f:=fun i=>(pos i:Int)) (g:=fun i=>(pos i:Int)) (δ:=0) (fun i j _ _ h=>by show(pos i:Int)<=pos j;omega) (fun i j _ _ h=>by show(pos i:Int)<=pos j;omega) (fun i _=>by show(pos i:Int)<=pos i+0;omega) (dm j);have hlo:lo low j=i:=by unfold lo;rw[h];rfl
 have hb:Nf dm low (dm j) j=true:=prs_iff.2 ⟨rfl,by rw[hlo];exact h⟩;obtain⟨h1,h2⟩:=hC j hj hb;obtain⟨hi,hn,hm⟩:=R.lsome j i hj h;have h3:¬p∣DW n (Nf dm low' (dm j)) (C j) (fun k=>E7 n D (v' k)) i:=fun q=>hn ((h1 i hi).dvd_iff.2 q);obtain⟨k,hk,h4⟩:=Yq h3;cases hbk:Nf dm low' (dm j) k with
 | false=>rw[hbk]at h4;exact absurd (Int.dvd_zero p) h4
 | true=>
  rw[hbk]at h4;have h4:¬p∣C j k*E7 n D (v' k) i:=h4;have hc:¬p∣C j k:=fun q=>h4 (Int.dvd_mul_of_dvd_left q);have hv:¬p∣E7 n D (v' k) i:=fun q=>h4 (Int.dvd_mul_of_dvd_right q);obtain⟨h5,h6⟩:=h2 k hk hbk hc;rw[hlo]at h6;have T:=R'.prs_top hk hbk;have h7:=T.2.2 i hi hv;have h8:lo low' k=i:=R.pinj _ _ T.1 hi (by omega);exact⟨k,hk,by rw[<-h8];exact(prs_iff.1 hbk).2,by omega⟩
theorem Tz(R:Rdc p n D dm pos v low)(R':Rdc p n D dm pos v' low')(hj:j<n):low j=low' j:=by
 have key:∀{v v':Nat->Nat->Int} {low low':Nat->Option Nat},Rdc p n D dm pos v low->Rdc p n D dm pos v' low'->∀i,low j=some i->low' j=some i:=fun {v v' low low'} R R' i h=>by obtain⟨k,hk,h1,h2⟩:=Va R R' hj h;obtain⟨j',hj',h3,h4⟩:=Va R' R hk h1;have:j'=j:=R.linj j' j i hj' hj h3 h;subst this;have:k=j':=R.pinj _ _ hk hj (by omega);rw[<-this];exact h1
 cases h:low j with
 | some i=>exact(key R R' i h).symm
 | none=>
  cases h':low' j with
  | none=>rfl
  | some i=>have:=key R' R i h';rw[h]at this;cases this
end
section
variable {p:Int} {F F':List (Int×Int)} {l l' S S':List Ce} {R V R' V':Nat->List Int}
theorem PerH.low_eq(H:PerH p F l S R V)(H':PerH p F' l' S' R' V')(hl:cn l'=cn l)(hS:S'.map Ce.c=S.map Ce.c)(hj:j<S.length):AY (R j)=AY (R' j):=by
 have Q:=H.rdc;have Q':=H'.rdc;have hln:S'.length=S.length:=by have:=congrArg List.length hS;simpa using this
 rw[hln,hl,hS]at Q';have e:=Tz Q Q' (H.inv hj).1;have h3:=(H.inv hj).2.2;unfold Oh at e;rw[hS,h3]at e;have hb:=(Et (R j)).1;have hb':=(Et (R' j)).1
 have hu:∀{R:Nat->List Int} {V} {F:List (Int×Int)} {l S'},PerH p F l S' R V->S'.length=S.length->AY (R j)<S.length:=fun {R V F l S'} H e=>by have:=(Et (R j)).2;rw[(H.col j (by omega)).rl]at this;omega
 have hlt:=hu H rfl;have hlt':=hu H' hln;split at e
 ·rename_i h0;split at e
  ·rename_i h1;have e:=Option.some.inj e;have hnS:((S.map Ce.c).map Cl.id).Nodup:=(H.P.perm.map Cl.id).nodup_iff.2 H.G.nd;have:=O3 H.P.perm hnS (i:=(AY (R j)).toNat) (j:=(AY (R' j)).toNat) (by rw[length_map];omega) (by rw[length_map];omega) e;omega
  ·cases e
 ·split at e
  ·cases e
  ·omega
theorem Ub{f g:Int->Int}(hS:M9 f S)(hS':M9 g S')(hp:(S.map Ce.c).Perm (S'.map Ce.c))(hn:(S.map fun a=>a.c.id).Nodup)(hfg:∀a∈S,∀b∈S,(f a.c.id<f b.c.id<->g a.c.id<g b.c.id)):S'.map Ce.c=S.map Ce.c:=by
 have hS1:(S.map Ce.c).Pairwise fun a b=>f a.id<f b.id\/(f a.id=f b.id/\(a.dim<b.dim\/(a.dim=b.dim/\a.id<=b.id))):=List.pairwise_map.2 hS
 have hS2:(S'.map Ce.c).Pairwise fun a b=>f a.id<f b.id\/(f a.id=f b.id/\(a.dim<b.dim\/(a.dim=b.dim/\a.id<=b.id))):=by have:(S'.map Ce.c).Pairwise fun a b=>g a.id<g b.id\/(g a.id=g b.id/\(a.dim<b.dim\/(a.dim=b.dim/\a.id<=b.id))):=List.pairwise_map.2 hS';refine this.imp_of_mem fun {a b} ha hb h=>?_;obtain⟨x,hx,rfl⟩:=List.mem_map.1 (hp.mem_iff.2 ha);obtain⟨y,hy,rfl⟩:=List.mem_map.1 (hp.mem_iff.2 hb);have h1:=hfg x hx y hy;have h2:=hfg y hy x hx;omega
 have hinj:∀a∈S.map Ce.c,∀b∈S.map Ce.c,a.id=b.id->a=b:=fun a ha b hb e=>by
  have hn':((S.map Ce.c).map Cl.id).Nodup:=by rw[map_map];exact hn
  have h1:=CY hn' ha;have h2:=CY hn' hb;rw[e,h2]at h1;exact(Option.some.inj h1).symm
 refine(List.Perm.eq_of_pairwise (fun a b ha hb h1 h2=>?_) hS1 hS2 hp).symm;exact hinj a ha b (hp.mem_iff.2 hb) (by omega)
theorem Pj{f g:Int->Int}{φ:Int->Int}{L L':List Int}(hS:S'.map Ce.c=S.map Ce.c)(hg:∀a∈S,g a.c.id=φ (f a.c.id))(hφ:∀a∈S,∀b∈S,(φ (f a.c.id)<φ (f b.c.id)<->f a.c.id<f b.c.id))(hL:L'.length=L.length)(hn:L.length=S.length)(hl:∀j,j<L.length->L'.getD j 0=L.getD j 0){m:Nat}(hm:m<S.length) :
  Gr g S' L' m=(Gr f S L m).map fun b=>⟨b.dim,φ b.birth,if b.opn then b.death else φ b.death,b.opn,b.low,b.high⟩:=by
 have hLL:L'=L:=List.ext_getElem hL fun j h1 h2=>by have:=hl j h2;simp[List.getD,h1,h2]at this;exact this
 subst hLL;have hln:S'.length=S.length:=by have:=congrArg List.length hS;simpa using this
 have hsc:∀i,i<S.length->(S'.getD i default).c=(S.getD i default).c:=fun i hi=>by have h1:=HU hi;have h2:=HU (S:=S') (i:=i) (by omega);rw[hS,h1]at h2;exact h2.symm
 have hmm:∀i,i<S.length->∃a∈S,(S.getD i default).c=a.c:=fun i hi=>⟨S[i],getElem_mem hi,by simp[List.getD,hi]⟩
 obtain⟨a,ha,ea⟩:=hmm m hm;unfold Gr;cases hg':A9 (CK L' L'.length) (m:Int) with
 | some x=>
  obtain⟨j,hj,rfl,_⟩:=EZ hg';obtain⟨b,hb,eb⟩:=hmm j (by omega);simp only[Int.toNat_natCast];rw[hsc m hm,hsc j (by omega),ea,eb,hg a ha,hg b hb];have:=hφ a ha b hb;by_cases h:f a.c.id<f b.c.id
  ·rw[if_pos h,if_pos (this.2 h)];rfl
  ·rw[if_neg h,if_neg fun q=>h (this.1 q)];rfl
 | none=>
  simp only[];rw[hsc m hm,ea,hg a ha];by_cases h:L'.getD m 0<0
  ·rw[if_pos h,if_pos h];rfl
  ·rw[if_neg h,if_neg h];rfl
theorem Jw{α β:Type}(g:α->β)(h:Nat->List α)(l:List Nat):l.flatMap (fun m=>(h m).map g)=(l.flatMap h).map g:=by rw[List.map_flatMap]
theorem PerH.bars_eq(H:PerH p F l S R V)(H':PerH p F' l' S' R' V')(hl:cn l'=cn l)(φ:Int->Int)(hg:∀a∈cn l,Cj (A8 F') a.id=φ (Cj (A8 F) a.id))(hφ:∀a∈cn l,∀b∈cn l,(φ (Cj (A8 F) a.id)<φ (Cj (A8 F) b.id)<->Cj (A8 F) a.id<Cj (A8 F) b.id)) :
  C0 (Cj (A8 F')) S' (Dk S' R') S'.length=(C0 (Cj (A8 F)) S (Dk S R) S.length).map fun b=>⟨b.dim,φ b.birth,if b.opn then b.death else φ b.death,b.opn,b.low,b.high⟩:=by
 have hm:∀a∈S,a.c∈cn l:=fun a ha=>H.P.perm.mem_iff.1 (List.mem_map.2 ⟨a,ha,rfl⟩);have hp:(S.map Ce.c).Perm (S'.map Ce.c):=H.P.perm.trans (by rw[<-hl];exact H'.P.perm.symm);have hS:=Ub H.P.srt H'.P.srt hp H.nd fun a ha b hb=>by rw[hg _ (hm a ha),hg _ (hm b hb)];exact(hφ _ (hm a ha) _ (hm b hb)).symm
 have hln:S'.length=S.length:=by have:=congrArg List.length hS;simpa using this
 unfold C0;rw[<-Jw,hln]
 have:∀l:List Nat,(∀m∈l,m<S.length)->l.flatMap (Gr (Cj (A8 F')) S' (Dk S' R'))=l.flatMap fun m=>(Gr (Cj (A8 F)) S (Dk S R) m).map fun b=>⟨b.dim,φ b.birth,if b.opn then b.death else φ b.death,b.opn,b.low,b.high⟩:=fun l=>by
  induction l with
  | nil=>intro _;rfl
  | cons m l ih=>
   intro h;rw[List.flatMap_cons,List.flatMap_cons,ih fun x hx=>h x (mem_cons_of_mem _ hx)];congr 1;refine Pj hS (fun a ha=>hg _ (hm a ha)) (fun a ha b hb=>hφ _ (hm a ha) _ (hm b hb)) (by rw[EW,EW,hln]) (EW S R) (fun j hj=>?_) (h m Mh);rw[EW]at hj;rw[FJ S R hj,FJ S' R' (by omega),H.low_eq H' hl hS hj]
 exact this _ fun m hm=>List.mem_range.1 hm
end
end Go.Proofs.Q
namespace Go.Proofs.Q
open Go.Eng Go.RowKit Go.Lin
structure Aaw(o:List Cl)(f:Int->Int)(b:Br):Prop where
 low:∃x∈o,x.id=b.low/\x.dim=b.dim/\f b.low=b.birth
 opn:b.opn=true->b.high=0/\b.death=0
 fin:b.opn=false->∃y∈o,y.id=b.high/\y.dim=b.dim+1/\f b.high=b.death/\b.birth<b.death
section
variable {p:Int} {F:List (Int×Int)} {l S:List Ce} {R V:Nat->List Int}
theorem PerH.bar_mem(H:PerH p F l S R V){m:Nat}(hm:m<S.length){b:Br}(hb:b∈Gr (Cj (A8 F)) S (Dk S R) m) :
  AY (R m)<0/\b.dim=(CU S m).dim/\b.birth=fs F S m/\b.low=(CU S m).id/\((b.opn=true/\b.death=0/\b.high=0/\∀j,j<S.length->AY (R j)≠m)\/∃j,j<S.length/\AY (R j)=m/\b.opn=false/\b.death=fs F S j/\b.high=(CU S j).id/\b.birth<b.death):=by
 unfold Gr at hb;split at hb
 ·rename_i x hx;obtain⟨j,hj,rfl,e⟩:=H.end_some hx;have h0:=H.low_none hj e;rw[Int.toNat_natCast]at hb;split at hb
  ·rename_i hlt;rw[List.mem_singleton.1 hb];exact⟨h0,rfl,rfl,rfl,.inr ⟨j,hj,e,rfl,rfl,rfl,hlt⟩⟩
  ·cases hb
 ·rename_i hx;split at hb
  ·rename_i hlt;rw[FJ S R hm]at hlt;rw[List.mem_singleton.1 hb];refine⟨hlt,rfl,rfl,rfl,.inl ⟨rfl,rfl,rfl,fun j hj e=>?_⟩⟩;have:=H.end_get hj e;rw[hx]at this;cases this
  ·cases hb
theorem PerH.bar_q(H:PerH p F l S R V){b:Br}(hb:b∈C0 (Cj (A8 F)) S (Dk S R) S.length):Aaw (cn l) (Cj (A8 F)) b:=by
 unfold C0 at hb;obtain⟨m,hm,hb⟩:=List.mem_flatMap.1 hb;have hm:=List.mem_range.1 hm;obtain⟨h0,h1,h2,h3,h4⟩:=H.bar_mem hm hb;refine⟨⟨_,H.mem hm,h3.symm,h1.symm,by rw[h3,h2];rfl⟩,fun h=>?_,fun h=>?_⟩
 ·rcases h4 with ⟨_,a,b,_⟩|⟨_,_,_,q,_⟩
  ·exact⟨b,a⟩
  ·rw[q]at h;cases h
 ·rcases h4 with ⟨q,_⟩|⟨j,hj,e,_,h5,h6,h7⟩
  ·rw[q]at h;cases h
  ·have h8:=(H.low_lt hj e).2;exact⟨_,H.mem hj,h6.symm,by rw[h1];exact h8,by rw[h6,h5];rfl,h7⟩
end
end Go.Proofs.Q
namespace Go.Proofs.Q
open Go.Eng Go.RowKit Go.Lin
variable {S:List Ce}
theorem YA{S':List Ce}(h:S'.map Ce.c=S.map Ce.c)(i:Nat):(S'.getD i default).c=(S.getD i default).c:=by
 have e:∀S:List Ce,(S.getD i default).c=(S.map Ce.c).getD i (default:Ce).c:=fun S=>by simp only[List.getD,List.getElem?_map];cases S[i]?<;>rfl
 rw[e,e,h]
theorem NI{S':List Ce}(f:Int->Int)(L:List Int)(h:S'.map Ce.c=S.map Ce.c)(n:Nat):C0 f S' L n=C0 f S L n:=by unfold C0;congr 1;funext m;unfold Gr;simp only[YA h]
def circC:List Cl:=[⟨1,0,[]⟩,⟨2,0,[]⟩,⟨3,1,[(1,-1),(2,1)]⟩,⟨4,1,[(1,-1),(2,1)]⟩]
def circF:List (Int×Int):=[(1,0),(2,1),(3,2),(4,5)]
def circB:List Br:=[⟨0,0,0,true,1,0⟩,⟨0,1,2,false,2,3⟩,⟨1,5,0,true,4,0⟩]
def circS:List Ce:=circC.map fun c=>⟨c,undef⟩
theorem MN:circS.map Ce.c=circC:=rfl
def JU(j i:Nat):Int:=if i=j\/(j=3/\i=2) then 1 else 0
def OD(j:Nat):Option Nat:=if j=2 then some 1 else none
theorem isP2:IsP 2:=⟨by decide,by decide,by decide⟩
theorem Uh:Rdc 2 4 (DM circC) (ZD circC) (tr circC circC) JU OD:=by
 have h1:∀i,i<4->∀j,j<4->(2:Int)∣E7 4 (DM circC) (fun k=>DM circC k j) i:=by decide
 have h2:∀i,i<4->∀j,j<4->¬(2:Int)∣DM circC i j->ZD circC j=ZD circC i+1:=by decide
 have h3:∀i,i<4->∀j,j<4->tr circC circC i=tr circC circC j->i=j:=by decide
 have h4:∀j,j<4->j<4/\¬(2:Int)∣JU j j/\∀i,i<4->¬(2:Int)∣JU j i->tr circC circC i<=tr circC circC j:=by decide
 have h5:∀j,j<4->∀i,i<4->¬(2:Int)∣JU j i->ZD circC i=ZD circC j:=by decide
 have h6:∀j,j<4->OD j=none->∀i,i<4->(2:Int)∣E7 4 (DM circC) (JU j) i:=by decide
 have h7:¬(2:Int)∣E7 4 (DM circC) (JU 2) 1/\∀i,i<4->¬(2:Int)∣E7 4 (DM circC) (JU 2) i->tr circC circC i<=tr circC circC 1:=by decide
 have h8:∀j i,OD j=some i->j=2/\i=1:=fun j i h=>by
  unfold OD at h;split at h
  ·rename_i e;exact⟨e,(Option.some.inj h).symm⟩
  ·cases h
 refine⟨isP2.fld,fun i j hi hj=>h1 i hi j hj,fun i j hi hj=>h2 i hi j hj,fun i j hi hj=>h3 i hi j hj,fun j hj=>h4 j hj,fun j i hj hi=>h5 j hj i hi,fun j hj=>h6 j hj,fun j i hj h=>?_,fun j j' i hj hj' h h'=>?_⟩
 ·obtain⟨rfl,rfl⟩:=h8 j i h;exact⟨by decide,h7.1,h7.2⟩
 ·rw[(h8 _ _ h).1,(h8 _ _ h').1]
theorem SC{l:List Ce}{R V:Nat->List Int}(H:PerH 2 circF l S R V)(hl:cn l=circC):C0 (Cj (A8 circF)) S (Dk S R) S.length=circB:=by
 have hS:S.map Ce.c=circC:=by
  have h1:M9 (Cj (A8 circF)) circS:=by unfold M9;decide
  have:=Ub (f:=Cj (A8 circF)) (g:=Cj (A8 circF)) (S:=circS) (S':=S) h1 H.P.srt (by rw[MN,<-hl];exact H.P.perm.symm) (by decide) fun _ _ _ _=>Iff.rfl;rw[this,MN]
 have hn:S.length=4:=by have:=congrArg List.length hS;simpa[circC] using this
 have Q:=H.rdc;rw[hl,hn,hS]at Q
 have key:∀j,j<4->AY (R j)=if j=2 then 1 else -1:=fun j hj=>by
  have e:=Tz Q Uh hj;have h1:=(Et (R j)).1;have h2:=(Et (R j)).2;rw[(H.col j (by omega)).rl,hn]at h2;have ht:∀j,j<4->tr circC circC j=j:=by decide
  unfold Oh OD at e;rw[hS,ht j hj]at e;by_cases h0:0<=AY (R j)
  ·rw[if_pos h0,ht _ (by omega)]at e;split at e
   ·rename_i h;rw[if_pos h];have:=Option.some.inj e;omega
   ·cases e
  ·rw[if_neg h0]at e;split at e
   ·cases e
   ·rename_i h;rw[if_neg h];omega
 have hL:Dk S R=[-1,-1,1,-1]:=by unfold Dk;rw[hn];show [AY (R 0),AY (R 1),AY (R 2),AY (R 3)]=_;rw[key 0 (by omega),key 1 (by omega),key 2 (by omega),key 3 (by omega)];rfl
 rw[hL,hn,NI (S:=circS) (S':=S) _ _ (by rw[hS,MN]) 4];decide
end Go.Proofs.Q
namespace Go.Proofs.Q
open Go.Proofs.Tryz
open Go.Eng Go.RowKit
variable {D:Int}
theorem WC:OC (EL 1)=circC:=by decide
theorem circ_rgtF:RgtF circC:=by
 have e:Sd circC=circC:=by decide
 exact⟨by decide,by decide,by decide,fun x hx=>by rw[<-e]at hx;obtain⟨y,_,rfl⟩:=List.mem_map.1 hx;exact⟨y,rfl⟩,by decide,by decide⟩
theorem Kz:FP circC circF=(0,0):=by decide
theorem RB:FP circC (circF.take 3)=(4,30):=by decide
theorem RL:FP circC [(1,0),(2,3),(3,2),(4,5)]=(3,44):=by decide
theorem Ie(F:List (Int×Int))(hF:F=circF\/F=circF.take 3\/F=[(1,0),(2,3),(3,2),(4,5)]):K8 F:=by rcases hF with rfl|rfl|rfl<;>exact⟨by decide,by decide⟩
theorem KF:∀x∈circC,∀s∈x.sd,Cj (A8 circF) s.1<=Cj (A8 circF) x.id:=by decide
theorem circ_q:Xe circC circF:=by
 have:=Uk circ_rgtF.rgt (fun c=>Cj (A8 circF) c) (by decide) KF;have e:(circC.map fun x=>(x.id,Cj (A8 circF) x.id))=circF:=by decide
 rwa [e]at this
theorem TH{o:List Cl}(h:KV o D)(k:Int)(h1:∀c∈o,c.dim<=k)(h2:∃c∈o,c.dim=k)(h0:0<=k):D=k:=by
 obtain⟨a,b,c⟩:=h;obtain⟨y,hy,e⟩:=h2;have:=b y hy;rcases c with c|⟨z,hz,c⟩
 ·omega
 ·have:=h1 z hz;omega
theorem Wy{W:List Int}(hD:KV (Ez circF 1 circC) D)(hl:W.length=(D+1).toNat)(key:∀d:Nat,((circB.filter (Br.at d 1)).length:Int)=if d<(D+1).toNat then W.getD d 0 else 0):W=[2]:=by
 obtain rfl:=TH hD 0 (by decide) (by decide) (by decide)
 match W,hl with
 | [a],_=>
  have h:=key 0;have h2:((circB.filter (Br.at (0:Nat) 1)).length:Int)=2:=by decide
  rw[h2,if_pos (by decide)]at h;rw[h];rfl
theorem Xc{W:List Int}(hD:KV (Ez circF 2 circC) D)(hl:W.length=(D+1).toNat)(key:∀d:Nat,((circB.filter (Br.at d 2)).length:Int)=if d<(D+1).toNat then W.getD d 0 else 0):W=[1,0]:=by
 obtain rfl:=TH hD 1 (by decide) (by decide) (by decide)
 match W,hl with
 | [a,b],_=>
  have h:=key 0;have h':=key 1;have h2:((circB.filter (Br.at (0:Nat) 2)).length:Int)=1:=by decide
  have h3:((circB.filter (Br.at (1:Nat) 2)).length:Int)=0:=by decide
  rw[h2,if_pos (by decide)]at h;rw[h3,if_pos (by decide)]at h';have e1:a=1:=h.symm;have e2:b=0:=h'.symm;rw[e1,e2]
theorem RW(hp:Hp):FnT Tryz.prog 43 #[] hp [] (fun r h' ms'=>hp.le h'/\∃gF mC A vC,r=.tuple #[.agg #[vC],.slice (some ⟨gF,0,none⟩) 4 4]/\ms'=[Be gF 47 [.int .i64 1,.int .i64 0,.int .i64 2,.int .i64 1,.int .i64 3,.int .i64 2,.int .i64 4,.int .i64 5],mC]/\OwnL cC 3 52 mC vC A/\A.map Ce.c=OC (EL 1)/\∀a∈A,RdL cD 2 h' [] a.v a.c.sd):=by show FnT _ _ (List.toArray []) _ _ _;refine Aq func43 ntmps43 rfl rfl (fun w0 hw0=>?_);simp only[AV];refine Au (CJ [.slice none 0 0] rfl AS rfl rfl (fun g0=>Qm rfl (BG (Qc call45 rfl (IC 1 hp (by decide)) (fun rC h2 ms2 l2 hF=>?_)))));obtain⟨l2',mC,A,vC,rfl,rfl,hOC,hA,hsd⟩:=hF;have oC:=hOC.o1;refine Qx (Bb T5 [.int .i64 0,.int .i64 0] [(0,_)] [_,_] rfl DV rfl rfl Qt rfl) rfl (Qx (Bb T5 [.int .i64 0,.int .i64 0] [(0,_),(1,_)] [_,_] rfl DV rfl rfl Qt rfl) rfl (Qx (Bb T5 [.int .i64 0,.int .i64 0] [(0,_),(1,_)] [_,_] rfl DV rfl rfl Qt rfl) rfl (Qx (Bb T5 [.int .i64 0,.int .i64 0] [(0,_),(1,_)] [_,_] rfl DV rfl rfl Qt rfl) rfl (Ar [(0,_),(2,_),(4,_),(6,_)] [.int .i64 0,.int .i64 0,.int .i64 0,.int .i64 0,.int .i64 0,.int .i64 0,.int .i64 0,.int .i64 0] [_,_,_,_,_,_,_,_] rfl OU DV rfl (by omega) (by kernel_rfl) Qt rfl rfl rfl rfl (fun g7=>?_)))));refine Sa 2 [_] AS rfl (by simp[oC]) ?_;refine Qm rfl (Am (Ao ?_));exact HR (vs:=[_]) 2 rfl rfl rfl CI rfl AS rfl rfl (⟨l2',_,mC,A,vC,rfl,rfl,hOC,hA,hsd⟩)
end Go.Proofs.Q

namespace Go.Proofs.Q
open Go.Proofs.Tryz
open Go.Eng Go.RowKit
theorem G3:∀(l acc s:List Int),DG acc l=some s->s.length<=acc.length+l.length
 | [],acc,s,e=>by have:acc=s:=Option.some.inj e;rw[<-this];exact Nat.le_add_right _ _
 | x::l,acc,s,e=>by
  unfold DG at e;split at e
  ·have:=G3 l acc s e;rw[length_cons];omega
  ·split at e
   ·cases e
   ·have:=G3 l _ s e;rw[NK]at this;rw[length_cons];omega
theorem J0:∀(ll acc all:List (List Int)),(∀l∈ll,l.length<=4)->Cf acc ll=some all->all.length<=acc.length+15*ll.length
 | [],acc,all,h,e=>by have:acc=all:=Option.some.inj e;rw[<-this];exact Nat.le_add_right _ _
 | l::ll,acc,all,h,e=>by
  rw[Dd]at e;split at e
  ·cases e
  ·have h1:=J0 ll _ all (fun x hx=>h x (mem_cons_of_mem _ hx)) e
   have h2:(SO acc (DG [] l)).length<=acc.length+15:=by
    cases hs:DG [] l with
    | none=>exact Nat.le_add_right _ _
    | some s=>
     have h3:=G3 l [] s hs;have h4:=h l Mh;have h5:=F7 acc s (2^s.length-1);have h6:2^s.length<=16:=Nat.pow_le_pow_right (n:=2) (i:=s.length) (j:=4) (by decide) (by simp at h3;omega);show(Ct acc s (2^s.length-1)).length<=_;omega
   rw[length_cons];omega
theorem VX{ll:List (List Int)}(h:∀l∈ll,l.length<=4):(DX ll).length<=15*ll.length:=by
 unfold DX;cases e:Cf [] ll with
 | none=>simp
 | some all=>have:=J0 ll [] all h e;simpa using this
theorem VH{all:List (List Int)}{s t:List Int}(h:t∈HD all s):t=s\/t∈all:=by
 unfold HD at h;split at h
 ·exact .inr h
 ·rcases List.mem_append.1 h with h|h
  ·exact .inr (List.mem_of_mem_take h)
  ·rcases List.mem_cons.1 h with h|h
   ·exact .inl h
   ·exact .inr (List.mem_of_mem_drop h)
theorem LC{all:List (List Int)}{s:List Int}(h:∀t∈all,t.length<=4)(hs:s.length<=4):∀b,∀t∈Ct all s b,t.length<=4
 | 0,t,ht=>h t ht
 | b+1,t,ht=>by
  rcases VH ht with rfl|ht
  ·unfold DZ;rw[length_map];exact Nat.le_trans (List.length_filter_le _ _) (by rw[length_range];exact hs)
  ·exact LC h hs b t ht
theorem J5:∀(ll acc all:List (List Int)),(∀l∈ll,l.length<=4)->(∀l∈acc,l.length<=4)->Cf acc ll=some all->∀l∈all,l.length<=4
 | [],acc,all,h,ha,e=>by have:acc=all:=Option.some.inj e;rw[<-this];exact ha
 | l::ll,acc,all,h,ha,e=>by
  rw[Dd]at e;split at e
  ·cases e
  ·refine J5 ll _ all (fun x hx=>h x (mem_cons_of_mem _ hx)) ?_ e;cases hs:DG [] l with
   | none=>exact ha
   | some s=>exact LC ha (by have:=G3 l [] s hs;have:=h l Mh;simp at *;omega) _
theorem VA{ll:List (List Int)}(h:∀l∈ll,l.length<=4):∀x∈DX ll,x.dim<=7:=by
 unfold DX;cases e:Cf [] ll with
 | none=>nofun
 | some all=>
  intro x hx;obtain⟨i,hi,rfl⟩:=List.mem_map.1 hx;have hi:=List.mem_range.1 hi;have:=J5 ll [] all h nofun e _ (getElem_mem hi);show((all.getD i []).length:Int)-1<=7;rw[show all.getD i []=all[i] by simp[List.getD,hi]];omega
theorem MP(l:List Int)(v:Value)(hp:Hp)(hR:RdL cI 1 hp [] v l):FnT Tryz.prog 46 #[v] hp [] (fun r h' ms'=>hp.le h'/\NV h' r ms' (fun o=>∃ll:List (List Int),ll.length<=l.length/\(∀s∈ll,s.length<=4)/\o=DX ll)):=by
 have ov:=hR.rd.one;refine Aq func46 ntmps46 rfl rfl (fun w0 hw0=>?_);simp only[AV];refine Au (CJ [.slice none 0 0] rfl AS rfl rfl (fun g2=>BG (Qm rfl (Am (Ac (Au (Qm rfl (Am (Af (By ?_))))))))))
 refine Ax (fun q sl h' ms'=>∃(i:Nat) (v3:Value) (m3:Hp) (es:List Value) (ll:List (List Int)),q=12-i/\sl=[(0,v),(2,.pointer (some ⟨g2,0,none⟩)),(3,v3),(4,.int .i64 i)]/\hp.le h'/\ms'=[m3,Be g2 29 [.slice none 0 0]]/\i<=12/\i<=l.length/\OwnL cW 1 22 m3 v3 es/\RdEs h' es ll/\ll.length=i/\∀s∈ll,s.length<=4)
  (12-0) _ ⟨0,_,Hp.emp,[],[],rfl,rfl,DS,rfl,by omega,by omega,OwnL.nil Di,RdEs.nil _,rfl,nofun⟩ Qs ?_
 rintro q sl h' ms' ⟨i,v3,m3,es,ll,rfl,rfl,lh,rfl,hi,hil,hO,hE,hll,h4⟩;have hR:=hR.up lh;have hel:=hE.1;have ov3:=hO.o1;refine Ac (Au (Qm rfl (Qm rfl (Qx (Ap hR.rd.any rfl AU rfl) rfl (Qm rfl (Qm rfl ?_))))));refine AR (t:=11) rfl (fun h1=>?_) (fun h1=>?_)
 ·refine Qg (AA rfl rfl) rfl (Qg (Db rfl rfl rfl) rfl (Qm rfl (Am ?_)));refine Av rfl (fun h2=>?_) (fun h2=>?_)
  ·have hin:i<l.length:=by omega
   obtain⟨x,hx⟩:∃x,l[i]=x:=⟨_,rfl⟩
   have cx:∀ms,Cell h' ms ((AF v).add (i*1)) (.int .i64 x):=fun ms=>by rw[<-hx];exact(hR.any (ms:=ms)).cell0 hin rfl
   refine Ag (Ab (Ac (Af (Au (Qm rfl (Am (By ?_)))))));refine Bd (fun sl h'' ms'=>∃(v5:Value) (m5:Hp) (s:List Int),sl=[(0,v),(2,.pointer (some ⟨g2,0,none⟩)),(3,v3),(4,.int .i64 i),(5,v5)]/\h'=h''/\ms'=[m5,m3,Be g2 29 [.slice none 0 0]]/\OwnL cI 1 3 m5 v5 s/\s.length<=4) ?_ (fun s h ms hI=>?_)
   ·refine Ac (Ad (Qm rfl (Am (Af ?_))))
    refine Ax (fun q sl h'' ms'=>∃(j:Nat) (v5:Value) (m5:Hp) (s:List Int),q=6-j/\sl=[(0,v),(2,.pointer (some ⟨g2,0,none⟩)),(3,v3),(4,.int .i64 i),(5,v5),(6,.int .i64 j)]/\h'=h''/\ms'=[m5,m3,Be g2 29 [.slice none 0 0]]/\j<=6/\OwnL cI 1 3 m5 v5 s/\s.length<=4)
     (6-0) _ ⟨0,_,Hp.emp,[],rfl,rfl,rfl,rfl,by omega,OwnL.nil Bo,by simp⟩ Qs ?_
    rintro q sl h'' ms' ⟨j,v5,m5,s,rfl,rfl,rfl,rfl,hj,hO5,hs4⟩;have ov5:=hO5.o1;refine Ac (Au (Qm rfl (Qm rfl (Qm rfl ?_))));refine AR (t:=19) rfl (fun hj1=>?_) (fun hj1=>?_)
    ·refine Qg (AA rfl rfl) rfl (Qg (DH (hO5.rd (h:=h') (ms:=[m5]) Mh).rd rfl AU rfl) rfl (Qg (Db rfl rfl rfl) rfl (Qm rfl (Am ?_))));refine Av rfl (fun hj2=>?_) (fun hj2=>?_)
     ·refine Ag (Ab (Ac (Af (Au (Qm rfl (Qm rfl (Qx (BT (i) hR.rd.any rfl AU Bg rfl rfl) rfl (Ql rfl U3 (cx _) (Qm rfl (Qx (Xt (n:=j) rfl rfl rfl (by omega)) rfl (Qx (Xd rfl rfl rfl) rfl (Qm rfl (Am ?_)))))))))))));refine Av rfl (fun hbit=>?_) (fun hbit=>?_)
      ·refine Ad (Qm rfl (Qm rfl (Al [_] rfl AU Bg rfl (by rfl) rfl rfl (by omega) rfl rfl rfl (fun g36=>AP 1 hO5 (RdL.one Bo (x:=(j:Int)) Mh rfl) rfl AU Bg rfl (by omega) rfl rfl rfl Cn (by(try simp only[length_singleton]);omega) (by(try simp only[length_singleton]);omega) rfl rfl rfl (fun v9 m9 hO9=>?_)))));have ov9:=hO9.o1;refine Qm rfl (Aj (Ai (Ab (Ad (Qm rfl (Qx (oA rfl) rfl (Qm rfl (Aj (AL ?_)))))))));exact Ak (6-(j+1)) _ (by omega) ⟨j+1,v9,m9,_,rfl,rfl,rfl,rfl,by omega,hO9,by rw[length_append,length_singleton];omega⟩ Qs
      ·refine Ag (Ai (Ab (Ad (Qm rfl (Qx (oA rfl) rfl (Qm rfl (Aj ?_)))))));exact Ak (6-(j+1)) _ (by omega) ⟨j+1,v5,m5,s,rfl,rfl,rfl,rfl,by omega,hO5,hs4⟩ Qs
     ·refine As (Aa (Aa (Ae ?_)));exact AC _ ⟨v5,m5,s,rfl,rfl,rfl,hO5,hs4⟩ Qs
    ·refine Qk rfl (Qk rfl (Qk rfl (Qm rfl (Am (AO rfl (As (Aa (Aa (Ae ?_)))))))));exact AC _ ⟨v5,m5,s,rfl,rfl,rfl,hO5,hs4⟩ Qs
   ·obtain⟨v5,m5,s,rfl,rfl,rfl,hO5,hs4⟩:=hI;refine Bc fun h6 l6 k6=>?_;have hS:=hO5.rdh (ms:=[]) k6;have oS_:=hS.rd.one;refine Ad (Qm rfl (Qm rfl (Al [_] rfl B9 Cc rfl ((RdL.rd ‹_›).cells) rfl rfl (by omega) rfl rfl rfl (fun g40=>?_))));refine AW 1 hO (RdL.one Di (x:=v5) Mh rfl) rfl B9 Cc rfl (by omega) rfl rfl rfl (F0 fun u hu=>by rw[List.mem_singleton.1 hu];exact oS_) (by(try simp only[length_singleton]);omega) (by(try simp only[length_singleton]);omega) rfl rfl rfl (fun v9 m9 hO9=>?_);have ov9:=hO9.o1;refine Qm rfl (Aj (Ai (Ab (Ad (Qm rfl (Qx (oA rfl) rfl (Qm rfl (Aj (AL ?_)))))))))
    exact Ak (12-(i+1)) _ (by omega) ⟨i+1,v9,m9,_,ll++[s],rfl,rfl,AH lh l6,rfl,by omega,by omega,hO9,(hE.up l6).snoc hS,by rw[length_append,hll];rfl,fun u hu=>by
     rcases List.mem_append.1 hu with h|h
     ·exact h4 u h
     ·rw[List.mem_singleton.1 h];exact hs4⟩ Qs
  ·refine Bc fun h6 l6 k6=>?_;have hV:=hO.rdh (ms:=[]) k6;have hE:=hE.up l6;refine As (Aa (Aa (Ae (Ab (Au (Qm rfl ?_))))));refine Qc call104 rfl (Hm ll es v3 h6 (by omega) (fun s hs=>by have:=h4 s hs;omega) hV hE) (fun rC h7 ms7 l7 hF=>?_);obtain⟨l7',m,A,vA,rfl,rfl,hOA,hA,hs⟩:=hF;have ovA:=hOA.o1;refine Sa 1 [_] AS rfl (by simp[ov,ov3,ovA]) ?_;refine Am (Ao ?_);exact Bs (vs:=[_]) 1 rfl rfl CI rfl AS rfl rfl (⟨AH lh (AH l6 l7'),m,A,_,rfl,rfl,hOA,⟨ll,by omega,h4,hA⟩,hs⟩)
 ·refine Qk rfl (Qk rfl (Qm rfl (Am (AO rfl (As (Aa (Aa (Ae (Ab (Bc fun h6 l6 k6=>?_))))))))));have hV:=hO.rdh (ms:=[]) k6;have hE:=hE.up l6;refine Au (Qm rfl ?_);refine Qc call104 rfl (Hm ll es v3 h6 (by omega) (fun s hs=>by have:=h4 s hs;omega) hV hE) (fun rC h7 ms7 l7 hF=>?_);obtain⟨l7',m,A,vA,rfl,rfl,hOA,hA,hs⟩:=hF;have ovA:=hOA.o1;refine Sa 1 [_] AS rfl (by simp[ov,ov3,ovA]) ?_;refine Am (Ao ?_);exact Bs (vs:=[_]) 1 rfl rfl CI rfl AS rfl rfl (⟨AH lh (AH l6 l7'),m,A,_,rfl,rfl,hOA,⟨ll,by omega,h4,hA⟩,hs⟩)
variable {o:List Cl}
structure CxQ(K:Int)(o:List Cl):Prop where
 r:Rgt o
 n:o.length<=80
 i:∀x∈o,x.id<=K
 d:∀x∈o,x.dim<=7
theorem P5:∀n,n<10->∀x∈OC (EL n),x.dim<=7:=by decide
theorem CxQ.spa(n:Nat)(h:n<10):CxQ 900 (OC (EL n)):=by have h1:=(JD n h).1;exact⟨L6 n h,by rw[Nc];omega,fun x hx=>by have:=(KO x hx).2;omega,P5 n h⟩
theorem CxQ.simp{ll:List (List Int)}(h1:ll.length<=5)(h4:∀l∈ll,l.length<=4):CxQ 900 (DX ll):=by have h2:=VX h4;exact⟨UG ll,by omega,fun x hx=>by have:=WE ll x hx;omega,VA h4⟩
theorem CxQ.gone{K:Int}(Q:CxQ K o){c:Int}(h:c∈H6 (ordF o)):CxQ K (o.filter fun x=>decide (x.id≠c)):=by refine⟨Q.r.gone fun y hy s hs e=>?_,Nat.le_trans (List.length_filter_le _ _) Q.n,fun x hx=>Q.i x (List.mem_filter.1 hx).1,fun x hx=>Q.d x (List.mem_filter.1 hx).1⟩;have hc:y.can∈ordF o:=(CE o.length o (Nat.le_refl _)).mem_iff.2 (List.mem_map.2 ⟨y,hy,rfl⟩);exact T9 h _ hc s ((BB y.sd).mem_iff.2 hs) e
theorem CxQ.beside(Q:CxQ 900 o)(hn:o.length<26){m:Int}(h0:0<=m)(hM:∀x∈o,x.id<=m)(hK:m<=900)(n:Nat)(h:n<5):CxQ 1000 (o++(OC (EL n)).map (Vu m)):=by
 have h1:=(JD n (by omega)).2 h;have hl:=Nc (EL n);refine⟨Q.r.union ((L6 n (by omega)).shift h0) (fun x hx y hy=>?_) (by rw[length_map];omega),by rw[length_append,length_map];omega,fun x hx=>?_,fun x hx=>?_⟩
 ·obtain⟨z,hz,rfl⟩:=List.mem_map.1 hy;have:=hM x hx;have:=(KO z hz).1;show x.id≠z.id+m;omega
 ·rcases List.mem_append.1 hx with h|h
  ·have:=Q.i x h;omega
  ·obtain⟨z,hz,rfl⟩:=List.mem_map.1 h;have:=(KO z hz).2;show z.id+m<=1000;omega
 ·rcases List.mem_append.1 hx with h'|h'
  ·exact Q.d x h'
  ·obtain⟨z,hz,rfl⟩:=List.mem_map.1 h';exact P5 n (by omega) z hz
theorem CxQ.up(Q:CxQ 900 o):CxQ 1000 o:=⟨Q.r,Q.n,fun x hx=>by have:=Q.i x hx;omega,Q.d⟩
theorem CxQ.rg{K:Int}(hK:K<=1000000){A:List Ce}(Q:CxQ K (A.map Ce.c)):RgC A:=⟨Q.r,fun a ha=>by have:=Q.i _ (List.mem_map.2 ⟨a,ha,rfl⟩);omega⟩
theorem CxQ.ids{A:List Ce}(Q:CxQ 900 (A.map Ce.c)){a:Ce}(ha:a∈A):-1000000<=a.c.id/\a.c.id<=900:=by have hm:a.c∈A.map Ce.c:=List.mem_map.2 ⟨a,ha,rfl⟩;have:=Q.i _ hm;have:=Q.r.pos _ hm;omega
theorem QK{B:List Ce}{n:Int}(hB:B.map Ce.c=OC (EL (n%10).toNat))(hn:0<=n/\n<10):B.length<=1000:=by have h1:=congrArg List.length hB;rw[length_map,Nc]at h1;have:=(JD (n%10).toNat (by omega)).1;omega
theorem To{B:List Ce}{n:Int}(hB:B.map Ce.c=OC (EL (n%10).toNat))(hn:0<=n/\n<10){b:Ce}(hb:b∈B):(-1000000<=b.c.id/\b.c.id<=1000000)/\b.c.sd.length<=100/\∀s∈b.c.sd,-1000000<=s.1/\s.1<=1000000:=by
 have hm:b.c∈OC (EL (n%10).toNat):=by rw[<-hB];exact List.mem_map.2 ⟨b,hb,rfl⟩
 have R:=L6 (n%10).toNat (by omega);have hl:=(JD (n%10).toNat (by omega)).1;have h1:=KO _ hm;refine⟨by omega,by have:=(R.bds hm).2;omega,fun s hs=>?_⟩;obtain⟨y,hy,e,_⟩:=R.sid _ hm s hs;have h2:=KO _ hy;omega
theorem Dr{P:Program}{o:Oper}{s:Aw}{h:Hp}{ms:List Hp}{v v':Value}(hx:OX P o s h ms v)(e:v=v'):OX P o s h ms v':=e ▸ hx
theorem Pq(sp be:Nat)(L:List Int)(G:List Nat)(vL vG:Value)(hp:Hp)(hsp:sp<256)(hbe:be<256)(hG:∀g∈G,g<256)(hL:RdL cI 1 hp [] vL L)(hRG:RdL (fun g=>[.int .u8 (g:Nat)]) 1 hp [] vG G):FnT Tryz.prog 13 #[.agg #[.int .u8 sp,vL,vG,.int .u8 be]] hp [] (fun r h' ms'=>hp.le h'/\NV h' r ms' (CxQ 1000)):=by
 have oL_:=hL.rd.one;have oG_:=hRG.rd.one;refine Aq func13 ntmps13 rfl rfl (fun w0 hw0=>?_);simp only[AV];refine Au (AX [_,_,_,_] rfl rfl (by rfl) rfl rfl rfl (fun g1=>CJ [.slice none 0 0] rfl AS rfl rfl (fun g2=>Am (Bn 1 rfl fun h1 l1 hS=>?_))));have hL:=hL.up l1;have hRG:=hRG.up l1;have s0:∀{h},h1.le h->∀ms,Cell h ms (⟨g1,0,none⟩:Addr) (.int .u8 sp):=fun l ms=>Seg.all (hS.le l) 0 _ rfl ms;have s1:∀{h},h1.le h->∀ms,Cell h ms (⟨g1,1,none⟩:Addr) vL:=fun l ms=>Seg.all (hS.le l) 1 _ rfl ms;have s2:∀{h},h1.le h->∀ms,Cell h ms (⟨g1,2,none⟩:Addr) vG:=fun l ms=>Seg.all (hS.le l) 2 _ rfl ms;have s3:∀{h},h1.le h->∀ms,Cell h ms (⟨g1,3,none⟩:Addr) (.int .u8 be):=fun l ms=>Seg.all (hS.le l) 3 _ rfl ms;refine Au (Qf S6 rfl (Ql rfl U5 (s0 (DS) _) (Qx (Ef rfl U5 U3 rfl (B3 (by omega))) rfl ?_)));refine Qc call45 rfl (IC sp h1 (by unfold BE;omega)) (fun rc h2 ms2 l2 hF=>?_);obtain⟨l2',mC,A,vC,rfl,rfl,hOC,hA,hAs⟩:=hF;have hQ:CxQ 900 (A.map Ce.c):=by rw[hA];exact CxQ.spa _ (by omega)
 have oC:=hOC.o1;refine CJ [.slice none 0 0] rfl AS rfl rfl (fun g3=>?_);refine Sa 0 [_] AS rfl (by simp[oL_,oG_,oC]) ?_;refine Am ?_;refine Bd (fun sl h' ms'=>∃(vC:Value) (mC:Hp) (A:List Ce),sl=[(1,.pointer (some ⟨g1,0,none⟩)),(2,.pointer (some ⟨g2,0,none⟩)),(3,.pointer (some ⟨g3,0,none⟩))]/\h1.le h'/\ms'=[Be g3 29 [vC],mC,Be g2 29 [.slice none 0 0]]/\OwnL cC 3 52 mC vC A/\CxQ 900 (A.map Ce.c)/\∀a∈A,RdL cD 2 h' [] a.v a.c.sd) ?_ (fun s h ms hI=>?_)
 ·have hL2:=hL.up l2';obtain⟨k,hk⟩:∃k:Nat,min (L.length:Int) 5=k:=⟨min L.length 5,by omega⟩
  have hkl:k<=L.length/\k<=5:=by omega
  have hSub:RdL cI 1 h2 [] (BQ 1 vL 0 k) (L.take k):=by have:=hL2.sub_ (i:=0) (j:=k) (by omega) hkl.1;simpa using this
  refine Au (Qf S6 rfl (Ql rfl U5 (s0 l2' _) (Qx (BP rfl rfl rfl (by omega) (by omega)) rfl (Qm rfl (Am ?_)))));refine Av rfl (fun h26=>?_) (fun h26=>?_)
  ·refine Ad (Qf VZ rfl (Ql rfl AU (s1 l2' _) (Qf VZ rfl (Ql rfl AU (s1 l2' _) (Qx (Ap hL2.rd.any rfl AU rfl) rfl (Qx (Ps rfl rfl rfl) rfl (Qx (Fe (k) hL2.rd.any rfl AU Bg rfl rfl (by omega) (by omega)) rfl (Qc call46 rfl (MP (L.take k) _ h2 hSub) (fun rs h3 ms3 l3 hF=>?_)))))))));obtain⟨l3',mS,B,vB,rfl,rfl,hOB,⟨ll,hll,h4,hB⟩,hBs⟩:=hF;have hQB:CxQ 900 (B.map Ce.c):=by rw[hB];exact CxQ.simp (by rw[length_take]at hll;omega) h4
   have oB:=hOB.o1;refine Sa 1 [_] AS rfl (by simp[oL_,oG_,oC,oB]) ?_;refine Aj (AQ 2 rfl (Cm 1 rfl ?_));exact AC _ ⟨vB,mS,B,rfl,AH l2' l3',rfl,hOB,hQB,hBs⟩ Qs
  ·refine Ag ?_;exact AC _ ⟨vC,mC,A,rfl,l2',rfl,hOC,hQ,hAs⟩ Qs
 ·obtain⟨vC,mC,A,rfl,l3,rfl,hOC,hQ,hAs⟩:=hI;refine Bd (fun sl h' ms'=>∃(vC:Value) (mC:Hp) (A:List Ce),sl=[(1,.pointer (some ⟨g1,0,none⟩)),(2,.pointer (some ⟨g2,0,none⟩)),(3,.pointer (some ⟨g3,0,none⟩))]/\h1.le h'/\ms'=[Be g3 29 [vC],mC,Be g2 29 [.slice none 0 0]]/\OwnL cC 3 52 mC vC A/\CxQ 900 (A.map Ce.c)/\∀a∈A,RdL cD 2 h' [] a.v a.c.sd) ?_ (fun s h ms hI=>?_)
  ·refine Ac (Ad (Qm rfl (Am (Af ?_))))
   refine Ax (fun q sl h' ms'=>∃(i:Nat) (vC:Value) (mC:Hp) (A:List Ce),q=6-i/\sl=[(1,.pointer (some ⟨g1,0,none⟩)),(2,.pointer (some ⟨g2,0,none⟩)),(3,.pointer (some ⟨g3,0,none⟩)),(4,.int .i64 i)]/\h1.le h'/\ms'=[Be g3 29 [vC],mC,Be g2 29 [.slice none 0 0]]/\i<=6/\OwnL cC 3 52 mC vC A/\CxQ 900 (A.map Ce.c)/\∀a∈A,RdL cD 2 h' [] a.v a.c.sd)
    (6-0) _ ⟨0,vC,mC,A,rfl,rfl,l3,rfl,by omega,hOC,hQ,hAs⟩ Qs ?_
   rintro q sl h' ms' ⟨i,vC,mC,A,rfl,rfl,lh,rfl,hi,hOC,hQ,hAs⟩;have hRG:=hRG.up lh;have hAn:=hQ.n;rw[length_map]at hAn;have oC:=hOC.o1;refine Ac (Au (Qm rfl (Qf Uq rfl (Ql rfl Tk (s2 lh _) (Qx (Ap hRG.rd.any rfl Tk rfl) rfl (Qm rfl (Qm rfl ?_)))))));refine AR (t:=30) rfl (fun ha=>?_) (fun ha=>?_)
   ·refine Qg (AA rfl rfl) rfl (Qg (Db rfl rfl rfl) rfl (Qm rfl (Qm rfl ?_)));refine AR (t:=34) rfl (fun hb=>?_) (fun hb=>?_)
    ·refine Qg (oF BI rfl) rfl (Qg (oL rfl Bk (Cell.blk 0 rfl rfl)) rfl (Qg (DH (hOC.rd (h:=h') (ms:=[Be g3 29 [vC],mC,Be g2 29 [.slice none 0 0]]) (.tail _ (.head _))).rd rfl Bk rfl) rfl (Qg (Dc rfl rfl rfl) rfl (Qm rfl (Am ?_)))));refine Av rfl (fun hc=>?_) (fun hc=>?_)
     ·have hil:i<G.length:=by omega
      have hA1:1<A.length:=by omega
      refine DK 1 rfl (Bc fun h5 l5 k5=>?_);have hRC:RdC h5 vC A:=⟨hOC.rdh (ms:=[]) k5,fun a ha=>(hAs a ha).up l5⟩
      have hKA:RgC A:=hQ.rg (by decide);have l15:=AH lh l5;have hRG:=hRG.up l5;refine Ag (Ab (Ac (Af (Au (Qx (oG rfl CI AS (Seg.blk 0 rfl)) rfl (Qc call47 rfl (X0 A vC h5 hKA hRC) (fun rt h6 ms6 l6 hF=>?_)))))));obtain⟨l6',mT,rfl,hOT⟩:=hF
      have hTn:H6 (cn A)≠[]:=XT hKA.F.rgt fun e=>by have h1:=C4 A;rw[e]at h1;simp at h1;omega
      obtain⟨T,hT⟩:∃T,H6 (cn A)=T:=⟨_,rfl⟩
      rw[hT]at hOT hTn;have hTl:0<T.length:=List.length_pos_iff.2 hTn
      have hTm:T.length<=4000:=by rw[<-hT];unfold H6;rw[length_map];exact Nat.le_trans (List.length_filter_le _ _) hKA.F.rgt.n
      have oT:=hOT.o1;obtain⟨gg,hgg⟩:∃gg,G[i]=gg:=⟨_,rfl⟩
      have hgb:=hG gg (by rw[<-hgg];exact getElem_mem hil);have hRG:=hRG.up l6;have hRC:=hRC.up l6;have cg:∀ms,Cell h6 ms ((AF vG).add (i*1)) (.int .u8 gg):=fun ms=>by rw[<-hgg];exact(hRG.any (ms:=ms)).cell0 hil rfl
      obtain⟨z,hz⟩:∃z:Nat,(gg:Int)%(T.length:Int)=z:=⟨gg%T.length,by omega⟩
      have hzT:z<T.length:=by have:=Int.emod_lt_of_pos (gg:Int) (b:=(T.length:Int)) (by omega);omega
      obtain⟨id,hid⟩:∃id,T[z]=id:=⟨_,rfl⟩
      have hidT:id∈H6 (cn A):=by rw[hT,<-hid];exact getElem_mem hzT
      refine Qm rfl (Am (Bl hOT fun h7 l7 hQT=>?_));have hRG:=hRG.up l7;have hRC:=hRC.up l7;have l17:=AH l15 (AH l6 l7);have cid:∀ms,Cell h7 ms ((AF rt).add (z*1)) (.int .i64 id):=fun ms=>by rw[<-hid];exact(hQT.any (ms:=ms)).cell0 hzT rfl
      have cg:=fun ms=>(cg ms).le l7;refine Au (Qm rfl (Qf Uq rfl (Ql rfl Tk (s2 l17 _) (Qm rfl (Qx (BT (i) hRG.rd.any rfl Tk X6 rfl rfl) rfl (Ql rfl U5 (cg _) (Qx (Ef rfl U5 U3 rfl (B3 (by omega))) rfl (Qm rfl (Qx (Ap hQT.rd.any rfl AU rfl) rfl (Qx (BP rfl rfl rfl (by omega) (by omega)) rfl (Qx (BT (z) hQT.rd.any rfl AU Bg rfl rfl) rfl (Ql rfl U3 (cid _) (Qm rfl (BG (CJ [.slice none 0 0] rfl AS rfl rfl (fun g7=>Am (By ?_)))))))))))))))));refine Bd (fun sl h' ms'=>∃(v7:Value) (m7:Hp) (O:List Ce),sl=[(1,.pointer (some ⟨g1,0,none⟩)),(2,.pointer (some ⟨g2,0,none⟩)),(3,.pointer (some ⟨g3,0,none⟩)),(4,.int .i64 i),(7,.pointer (some ⟨g7,0,none⟩))]/\h7=h'/\ms'=[m7,Be g7 29 [v7],Be g3 29 [vC],Be g2 29 [.slice none 0 0]]/\OwnL cC 3 52 m7 v7 O/\O.map Ce.c=(A.map Ce.c).filter (fun x=>decide (x.id≠id))/\∀a∈O,RdL cD 2 h' [] a.v a.c.sd) ?_ (fun s h ms hI=>?_)
      ·refine Ac (Ad (Qm rfl (Am (Af ?_))))
       refine Ax (fun q sl h' ms'=>∃(j:Nat) (v7:Value) (m7:Hp) (O:List Ce),q=A.length-j/\sl=[(1,.pointer (some ⟨g1,0,none⟩)),(2,.pointer (some ⟨g2,0,none⟩)),(3,.pointer (some ⟨g3,0,none⟩)),(4,.int .i64 i),(6,.int .i64 id),(7,.pointer (some ⟨g7,0,none⟩)),(8,.int .i64 j)]/\h7=h'/\ms'=[m7,Be g7 29 [v7],Be g3 29 [vC],Be g2 29 [.slice none 0 0]]/\j<=A.length/\OwnL cC 3 52 m7 v7 O/\O.map Ce.c=((A.take j).map Ce.c).filter (fun x=>decide (x.id≠id))/\∀a∈O,RdL cD 2 h' [] a.v a.c.sd)
        (A.length-0) _ ⟨0,_,Hp.emp,[],rfl,rfl,rfl,rfl,by omega,OwnL.nil BX,rfl,nofun⟩ Qs ?_
       rintro q sl h' ms' ⟨j,v7,m7,O,rfl,rfl,rfl,rfl,hj,hO7,hOc,hOs⟩
       have hOl:O.length<=80:=by have h1:=congrArg List.length hOc;rw[length_map]at h1;rw[h1];exact Nat.le_trans (List.length_filter_le _ _) (by rw[length_map,length_take];omega)
       have ov7:=hO7.o1;refine Ac (Au (Qm rfl (Qf BI rfl (Ql rfl Bk (Cell.blk 2 rfl rfl) (Qx (Ap hRC.q.rd.any rfl Bk rfl) rfl (Qm rfl (Am ?_)))))));refine Av rfl (fun hjl=>?_) (fun hjl=>?_)
       ·have hjn:j<A.length:=by omega
        obtain⟨x,hx⟩:∃x,A[j]=x:=⟨_,rfl⟩
        have hX:=hRC.s x (by rw[<-hx];exact getElem_mem hjn);have oX:=hX.rd.one;have cx:∀ms,Cell h7 ms (((AF vC).add (j*3)).add 0) (.int .i64 x.c.id):=fun ms=>by rw[<-hx];exact(hRC.q.any (ms:=ms)).cell (j:=j) hjn (f:=0) rfl
        have sx:∀ms,Seg h7 ms ((AF vC).add (j*3)) (cC x):=fun ms=>by rw[<-hx];exact(hRC.q.any (ms:=ms)).seg hjn
        have hsn:((A.take (j+1)).map Ce.c).filter (fun x=>decide (x.id≠id))=((A.take j).map Ce.c).filter (fun x=>decide (x.id≠id))++if x.c.id≠id then [x.c] else []:=by rw[take_succ_eq_append_getElem hjn,map_append,filter_append,hx];congr 1;by_cases h:x.c.id=id<;>simp[filter_cons,h]
        refine Ag (Ab ?_);refine Bd (fun sl h' ms'=>∃(v7:Value) (m7:Hp) (O:List Ce),sl=[(1,.pointer (some ⟨g1,0,none⟩)),(2,.pointer (some ⟨g2,0,none⟩)),(3,.pointer (some ⟨g3,0,none⟩)),(4,.int .i64 i),(6,.int .i64 id),(7,.pointer (some ⟨g7,0,none⟩)),(8,.int .i64 j)]/\h7=h'/\ms'=[m7,Be g7 29 [v7],Be g3 29 [vC],Be g2 29 [.slice none 0 0]]/\OwnL cC 3 52 m7 v7 O/\O.map Ce.c=((A.take (j+1)).map Ce.c).filter (fun x=>decide (x.id≠id))/\∀a∈O,RdL cD 2 h' [] a.v a.c.sd) ?_ (fun s h ms hI=>?_)
        ·refine Af (Au (Qf BI rfl (Ql rfl Bk (Cell.blk 2 rfl rfl) (Qm rfl (Qx (BT (j) hRC.q.rd.any rfl Bk AG rfl rfl) rfl (Qf Bx rfl (Ql rfl U3 (cx _) (Qm rfl (Qm rfl (Am ?_))))))))));refine Av rfl (fun hne=>?_) (fun hne=>?_)
         ·refine BK (n:=11) (bs:=[true,false,true,false,true,false,false,false,false,true,false]) [true,false,true,false,true,false,false,false,false,true] CT (by kernel_rfl) (by kernel_rfl) rfl rfl (QF BI rfl (QF BI rfl (Qq rfl (QF BI rfl ?_))));unfold Gg;simp only[cons_append,nil_append];refine A4 [1,3] (by kernel_rfl) rfl ?_;refine Ay rfl ?_ ?_
          ·refine Ql rfl Bk (Cell.blk 1 rfl rfl) (Qw (Qo 3 rfl (Ql rfl Bk (Cell.blk 2 rfl rfl) (Qw (FG 5 76 (by kernel_rfl) rfl (DS) rfl (BT (j) hRC.q.rd.any rfl Bk AG rfl rfl) (Qo 6 rfl (Qx (oG rfl EB AG (sx _)) rfl (Qw (Qo 7 rfl (Al [_,_,_] rfl Bk AG rfl (by rfl) rfl rfl (by omega) rfl rfl rfl (fun g78=>Qw (Qo 8 rfl ?_))))))))))));refine AW 1 hO7 (RdL.one BX (x:=x) Mh rfl) rfl Bk AG rfl (by omega) rfl rfl rfl (CN (l:=[x]) (h:=h7) fun y hy=>by rw[List.mem_singleton.1 hy];exact hX) (by(try simp only[length_singleton]);omega) (by(try simp only[length_singleton]);omega) rfl rfl rfl (fun v9 m9 hO9=>?_);have ov9:=hO9.o1;refine Qw (Qo 10 rfl ?_);refine AJ 2 _ rfl IJ rfl rfl (by assumption) rfl rfl (by(simp;done)) rfl rfl ?_;refine Qw (Qe (AL (Ai ?_)));exact AC _ ⟨v9,m9,O++[x],rfl,rfl,rfl,hO9,by rw[hsn,if_pos hne,map_append,hOc];rfl,RdC.snoc' hOs hX⟩ Qs
          refine Ay rfl ?_ ?_
          ·refine Ql rfl Bk (Cell.blk 2 rfl rfl) (Qw (FG 5 76 (by kernel_rfl) rfl (DS) rfl (BT (j) hRC.q.rd.any rfl Bk AG rfl rfl) (A4 [1,6] (by kernel_rfl) rfl ?_)));refine Ay rfl ?_ ?_
           ·refine Ql rfl Bk (Cell.blk 1 rfl rfl) (Qw (Qo 6 rfl (Qx (oG rfl EB AG (sx _)) rfl (Qw (Qo 7 rfl (Al [_,_,_] rfl Bk AG rfl (by rfl) rfl rfl (by omega) rfl rfl rfl (fun g78=>Qw (Qo 8 rfl ?_))))))));refine AW 1 hO7 (RdL.one BX (x:=x) Mh rfl) rfl Bk AG rfl (by omega) rfl rfl rfl (CN (l:=[x]) (h:=h7) fun y hy=>by rw[List.mem_singleton.1 hy];exact hX) (by(try simp only[length_singleton]);omega) (by(try simp only[length_singleton]);omega) rfl rfl rfl (fun v9 m9 hO9=>?_);have ov9:=hO9.o1;refine Qw (Qo 10 rfl ?_);refine AJ 2 _ rfl IJ rfl rfl (by assumption) rfl rfl (by(simp;done)) rfl rfl ?_;refine Qw (Qe (AL (Ai ?_)));exact AC _ ⟨v9,m9,O++[x],rfl,rfl,rfl,hO9,by rw[hsn,if_pos hne,map_append,hOc];rfl,RdC.snoc' hOs hX⟩ Qs
           refine Ay rfl ?_ ?_
           ·refine Qx (oG rfl EB AG (sx _)) rfl (Qw (A4 [1,7] (by kernel_rfl) rfl ?_));refine Ay rfl ?_ ?_
            ·refine Ql rfl Bk (Cell.blk 1 rfl rfl) (Qw (Qo 7 rfl (Al [_,_,_] rfl Bk AG rfl (by rfl) rfl rfl (by omega) rfl rfl rfl (fun g78=>Qw (Qo 8 rfl ?_)))));refine AW 1 hO7 (RdL.one BX (x:=x) Mh rfl) rfl Bk AG rfl (by omega) rfl rfl rfl (CN (l:=[x]) (h:=h7) fun y hy=>by rw[List.mem_singleton.1 hy];exact hX) (by(try simp only[length_singleton]);omega) (by(try simp only[length_singleton]);omega) rfl rfl rfl (fun v9 m9 hO9=>?_);have ov9:=hO9.o1;refine Qw (Qo 10 rfl ?_);refine AJ 2 _ rfl IJ rfl rfl (by assumption) rfl rfl (by(simp;done)) rfl rfl ?_;refine Qw (Qe (AL (Ai ?_)));exact AC _ ⟨v9,m9,O++[x],rfl,rfl,rfl,hO9,by rw[hsn,if_pos hne,map_append,hOc];rfl,RdC.snoc' hOs hX⟩ Qs
            refine Ay rfl ?_ ?_
            ·refine Al [_,_,_] rfl Bk AG rfl (by rfl) rfl rfl (by omega) rfl rfl rfl (fun g78=>Qw (Qo 1 rfl (Ql rfl Bk (Cell.blk 2 rfl rfl) (Qw (Qo 8 rfl ?_)))));refine AW 1 hO7 (RdL.one BX (x:=x) Mh rfl) rfl Bk AG rfl (by omega) rfl rfl rfl (CN (l:=[x]) (h:=h7) fun y hy=>by rw[List.mem_singleton.1 hy];exact hX) (by(try simp only[length_singleton]);omega) (by(try simp only[length_singleton]);omega) rfl rfl rfl (fun v9 m9 hO9=>?_);have ov9:=hO9.o1;refine Qw (Qo 10 rfl ?_);refine AJ 2 _ rfl IJ rfl rfl (by assumption) rfl rfl (by(simp;done)) rfl rfl ?_;refine Qw (Qe (AL (Ai ?_)));exact AC _ ⟨v9,m9,O++[x],rfl,rfl,rfl,hO9,by rw[hsn,if_pos hne,map_append,hOc];rfl,RdC.snoc' hOs hX⟩ Qs
            exact A3
           exact A3
          exact A3
         ·refine Ag (Ai ?_);exact AC _ ⟨v7,m7,O,rfl,rfl,rfl,hO7,by rw[hsn,if_neg hne,append_nil];exact hOc,hOs⟩ Qs
        ·obtain⟨v7,m7,O,rfl,rfl,rfl,hO7,hOc,hOs⟩:=hI;refine Ad (Qm rfl (Qx (oA rfl) rfl (Qm rfl (Aj ?_))));exact Ak (A.length-(j+1)) _ (by omega) ⟨j+1,v7,m7,O,rfl,rfl,rfl,rfl,by omega,hO7,hOc,hOs⟩ Qs
       ·obtain rfl:j=A.length:=by omega
        refine As (Aa (Aa (Ae ?_)));exact AC _ ⟨v7,m7,O,rfl,rfl,rfl,hO7,by rw[hOc,take_length],hOs⟩ Qs
      ·obtain⟨v7,m7,O,rfl,rfl,rfl,hO7,hOc,hOs⟩:=hI;have ov7:=hO7.o1;have hQ7:CxQ 900 (O.map Ce.c):=by rw[hOc];exact hQ.gone hidT
       refine Ad (Qx (oG rfl CI AS (Seg.blk 1 rfl)) rfl ?_);refine Sa 2 [_] AS rfl (by simp[oL_,oG_,oC,oT,ov7]) ?_;refine Aj (Ai (Ab (Ad (Qm rfl (Qx (oA rfl) rfl (Qm rfl (Aj (AQ 1 rfl (Cm 1 rfl ?_)))))))));exact Ak (6-(i+1)) _ (by omega) ⟨i+1,v7,m7,O,rfl,rfl,AH l15 (AH l6 l7),rfl,by omega,hO7,hQ7,hOs⟩ Qs
     ·refine As (Aa (Aa (Ae ?_)));exact AC _ ⟨vC,mC,A,rfl,lh,rfl,hOC,hQ,hAs⟩ Qs
    ·refine Qk rfl (Qk rfl (Qk rfl (Qk rfl (Qm rfl (Am (AO rfl (As (Aa (Aa (Ae ?_))))))))));exact AC _ ⟨vC,mC,A,rfl,lh,rfl,hOC,hQ,hAs⟩ Qs
   ·refine Qk rfl (Qk rfl (Qm rfl (Qm rfl (Qk rfl (Qk rfl (Qk rfl (Qk rfl (Qm rfl (Am (AO rfl (As (Aa (Aa (Ae ?_))))))))))))));exact AC _ ⟨vC,mC,A,rfl,lh,rfl,hOC,hQ,hAs⟩ Qs
  ·obtain⟨vC,mC,A,rfl,lh,rfl,hOC,hQ,hAs⟩:=hI;have hAn:=hQ.n;rw[length_map]at hAn;have oC:=hOC.o1;refine Bd (fun sl h' ms'=>∃(vC:Value) (mC:Hp) (A:List Ce),sl=[(2,.pointer (some ⟨g2,0,none⟩)),(3,.pointer (some ⟨g3,0,none⟩))]/\h1.le h'/\ms'=[Be g3 29 [vC],mC,Be g2 29 [.slice none 0 0]]/\OwnL cC 3 52 mC vC A/\CxQ 1000 (A.map Ce.c)/\∀a∈A,RdL cD 2 h' [] a.v a.c.sd) ?_ (fun s h ms hI=>?_)
   ·refine Ac (Ad (Qf S7 rfl (Ql rfl U5 (s3 lh _) (Qx (BP rfl rfl rfl (by omega) (by omega)) rfl (Qm rfl (Qm rfl ?_))))));refine AR (t:=86) rfl (fun hb3=>?_) (fun hb3=>?_)
    ·refine Qg (oF BI rfl) rfl (Qg (oL rfl Bk (Cell.blk 0 rfl rfl)) rfl (Qg (DH (hOC.rd (h:=h) (ms:=[Be g3 29 [vC],mC,Be g2 29 [.slice none 0 0]]) (.tail _ (.head _))).rd rfl Bk rfl) rfl (Qg (Db rfl rfl rfl) rfl (Qm rfl (Am ?_)))));refine Av rfl (fun h26=>?_) (fun h26=>?_)
     ·refine DK 1 rfl (Bc fun h5 l5 k5=>?_);have hRC:RdC h5 vC A:=⟨hOC.rdh (ms:=[]) k5,fun a ha=>(hAs a ha).up l5⟩
      have l15:=AH lh l5;have hd4:(be:Int).tdiv 4=(be:Int)/4:=by rw[Int.tdiv_eq_ediv_of_nonneg (by omega)]
      have hw4:IntKind.u8.wrap ((be:Int).tdiv 4)=(be:Int)/4:=by rw[hd4];simp only[IntKind.wrap,IntKind.bits,IntKind.signed];simp;omega
      obtain⟨z,hz⟩:∃z:Nat,(be:Int)/4%5=z:=⟨be/4%5,by omega⟩
      have hz5:z<5:=by omega
      refine BK (n:=9) (bs:=[false,true,true,true,true,true,false,false,false]) [false,true,true,true,true,true] CT (by kernel_rfl) (by kernel_rfl) rfl rfl (QF S7 rfl (QL rfl U5 (s3 l15 _) (Qp rfl (Dr (MV rfl rfl rfl (by decide)) (congrArg (Value.int .u8) hw4)) (Qp rfl (Ef rfl U5 U3 rfl (B3 (by omega))) (Qp rfl (BP rfl rfl rfl (by omega) (by omega)) ?_)))));unfold Gg;simp only[cons_append,nil_append];refine A4 [0,6] (by kernel_rfl) rfl ?_;refine Ay rfl ?_ ?_
      ·refine Qx (oG rfl CI AS (Seg.blk 0 rfl)) rfl (Qw (Qo 6 rfl ?_));refine Qc call45 rfl (IC ((be:Int)/4%5) h5 (by unfold BE;omega)) (fun rs h6 ms6 l6 hF=>?_);obtain⟨l6',mS,B,vB,rfl,rfl,hOB,hB,hBs⟩:=hF;refine Bt hOB fun h7 l7 hRB=>?_;have l57:=AH l6' l7;have oB:=hRB.rd.one;refine Qa (Qo 7 rfl (Qc call48 rfl (LQ A B vC vB 900 (by decide) h7 (hRC.up l57) ⟨hRB,fun a ha=>(hBs a ha).up l7⟩ (by omega) (QK hB (by omega)) (fun a ha=>hQ.ids ha) (fun b hb=>To hB (by omega) hb)) (fun rb h8 ms8 l8 hF=>?_)));have l58:=AH l57 l8;obtain⟨l8',mD,D,vD,rfl,rfl,hOD,⟨m,hm0,hm1,hmA,hD⟩,hDs⟩:=hF;have oC:=And.intro oC (show vD.oneCell'=true from hOD.o1);refine Qa (Qo 8 rfl ?_);refine Sa 1 [_] AS rfl (by simp[oL_,oG_,oC]) ?_;refine Qa (Qe (Cm 1 rfl ?_));exact AC _ ⟨vD,mD,D,rfl,AH l15 (AH l57 l8'),rfl,hOD,by rw[hD,hB,hz,Int.emod_eq_of_lt (by omega) (by omega),Int.toNat_natCast];exact hQ.beside (by rw[length_map];omega) hm0 (fun x hx=>by obtain⟨a,ha,rfl⟩:=List.mem_map.1 hx;exact hmA a ha) hm1 z hz5,hDs⟩ Qs
      refine Ay rfl ?_ ?_
      ·refine Qc call45 rfl (IC ((be:Int)/4%5) h5 (by unfold BE;omega)) (fun rs h6 ms6 l6 hF=>?_);obtain⟨l6',mS,B,vB,rfl,rfl,hOB,hB,hBs⟩:=hF;refine Bt hOB fun h7 l7 hRB=>?_;have l57:=AH l6' l7;have oB:=hRB.rd.one;refine Qa (Qo 0 rfl (Qx (oG rfl CI AS (Seg.blk 0 rfl)) rfl (Qa (Qo 7 rfl (Qc call48 rfl (LQ A B vC vB 900 (by decide) h7 (hRC.up l57) ⟨hRB,fun a ha=>(hBs a ha).up l7⟩ (by omega) (QK hB (by omega)) (fun a ha=>hQ.ids ha) (fun b hb=>To hB (by omega) hb)) (fun rb h8 ms8 l8 hF=>?_))))));have l58:=AH l57 l8;obtain⟨l8',mD,D,vD,rfl,rfl,hOD,⟨m,hm0,hm1,hmA,hD⟩,hDs⟩:=hF;have oC:=And.intro oC (show vD.oneCell'=true from hOD.o1);refine Qa (Qo 8 rfl ?_);refine Sa 1 [_] AS rfl (by simp[oL_,oG_,oC]) ?_;refine Qa (Qe (Cm 1 rfl ?_));exact AC _ ⟨vD,mD,D,rfl,AH l15 (AH l57 l8'),rfl,hOD,by rw[hD,hB,hz,Int.emod_eq_of_lt (by omega) (by omega),Int.toNat_natCast];exact hQ.beside (by rw[length_map];omega) hm0 (fun x hx=>by obtain⟨a,ha,rfl⟩:=List.mem_map.1 hx;exact hmA a ha) hm1 z hz5,hDs⟩ Qs
      exact A3
     ·refine Ag ?_;exact AC _ ⟨vC,mC,A,rfl,lh,rfl,hOC,hQ.up,hAs⟩ Qs
    ·refine Qk rfl (Qk rfl (Qk rfl (Qk rfl (Qm rfl (Am (AO rfl (Ag ?_)))))));exact AC _ ⟨vC,mC,A,rfl,lh,rfl,hOC,hQ.up,hAs⟩ Qs
   ·obtain⟨vC,mC,A,rfl,lh,rfl,hOC,hQ,hAs⟩:=hI;have oC:=hOC.o1;refine Au (Qx (oG rfl CI AS (Seg.blk 0 rfl)) rfl ?_);refine Sa 2 [_] AS rfl (by simp[oL_,oG_,oC]) ?_;refine Am (Ao (AL ?_));exact Bs (vs:=[_]) 1 rfl rfl CI rfl AS rfl rfl (⟨AH l1 lh,mC,A,_,rfl,rfl,hOC,hQ,hAs⟩)
end Go.Proofs.Q

namespace Go.Proofs.Q
open Go.Proofs.Tryz
open Go.Eng Go.RowKit
theorem Ph(h:Hp)(ms:List Hp):FnV Tryz.prog 12 #[] h ms (.bool true):=by
 refine FnV.weaken (h:=Hp.emp) (FnT.toV ?_) (Hp.emp_le h);show FnT _ _ (List.toArray []) _ _ _;refine Aq func12 ntmps12 rfl rfl (fun w0 hw0=>?_);simp only[AV];refine Au (Qm rfl (BG (Qc call43 rfl (RW Hp.emp) (fun rC h2 ms2 l2 hF=>?_))));obtain⟨l2',gF,mC,A,vC,rfl,rfl,hOC,hA,hsd⟩:=hF;obtain⟨vF,hvF⟩:∃vF:Value,vF=.slice (some ⟨gF,0,none⟩) 4 4:=⟨_,rfl⟩
 obtain⟨mF,hmF⟩:∃mF:Hp,mF=Be gF 47 [.int .i64 1,.int .i64 0,.int .i64 2,.int .i64 1,.int .i64 3,.int .i64 2,.int .i64 4,.int .i64 5]:=⟨_,rfl⟩
 rw[<-hvF,<-hmF];have hOF:OwnL cV 2 47 mF vF circF:=by rw[hmF,hvF];exact OwnL.blk (l:=circF) 4 GA rfl (by decide)
 have oC:=hOC.o1;have oF_:=hOF.o1;refine Qm rfl (Qm rfl (Qm rfl (CJ [.slice none 0 0] rfl AS rfl rfl (fun g1=>?_))));refine Sa 0 [_] AS rfl (by simp[oC,oF_]) ?_;refine Qm rfl (Am (Bn 0 rfl fun h3 l3 hS=>(Fm 1 hOC rfl fun h4 l4 hC=>?_)));have hR:RdC h4 vC A:=⟨hC,fun a ha=>(hsd a ha).up (AH l3 l4)⟩
 have hA:A.map Ce.c=circC:=by rw[hA];exact WC
 have hFA:RgtF (A.map Ce.c):=by rw[hA];exact circ_rgtF
 have hcn:cn A=circC:=by rw[Uo hFA,hA]
 have hAl:A.length=4:=by have:=congrArg List.length hA;rwa [length_map]at this
 have hK:RgC A:=⟨hFA.rgt,fun a ha=>by
  have h1:a.c∈circC:=by rw[<-hA];exact List.mem_map.2 ⟨a,ha,rfl⟩
  have h2:∀c∈circC,c.id<=1000000:=by decide
  exact h2 _ h1⟩
 have hS:=hS.le l4;refine Au (Qx (oG rfl CI AS (Seg.any hS)) rfl (Qm rfl ?_));refine AZ (pre:=[mF]) rfl call15 rfl (FnT.borrow (fun hj l1 l2=>Gj A circF vC vF 2 hj hK (hR.up l1) (hOF.rdh l2) (Ie _ (.inl rfl)) (fun c=>by have:=circ_q.bI c;unfold BE;omega) (by rw[hcn];exact Kz) isP2 (by omega))) rfl rfl rfl rfl (fun ra h5 ms5 l5 hQ=>?_);obtain⟨l5',hj5,k5,ms5',lj5,⟨lk5,S,Rf,Vf,va,ma,rfl,rfl,hOa,Pa⟩,_,rfl,_⟩:=hQ;have oa:=hOa.o1;have hR:=hR.up l5;have hS:=hS.le l5;have H:PerH 2 circF A S Rf Vf:=⟨Pa,isP2,hK.F.rgt,by rw[hcn];exact circ_q.mon⟩
 have hbt:=H.betti;have hbars:=SC H hcn;rw[hbars]at hOa hbt;rw[hcn]at hbt;refine Qm rfl (Qm rfl (Qm rfl (Qm rfl (Qm rfl (Am (Fm 1 hOa rfl fun h6 l6 hBa=>?_))))));have hR:=hR.up l6;have hS:=hS.le l6;refine Au (Qx (oG rfl CI AS (Seg.any hS)) rfl (Qm rfl ?_));refine AZ (pre:=[mF]) rfl call19 rfl (FnT.borrow (fun hj l1 l2=>LW A circF vC vF 1 2 hj hK (hR.up l1) (hOF.rdh l2) (Ie _ (.inl rfl)) (by rw[hcn];exact Kz) (by rw[hcn];exact KF) isP2 (by decide) (by omega))) rfl rfl rfl rfl (fun rb h7 ms7 l7 hQ=>?_);obtain⟨l7',hj7,k7,ms7',lj7,⟨lk7,D,rk,w1,m1,rfl,rfl,hO1,hD,hr0,hrk⟩,_,rfl,_⟩:=hQ;rw[hcn]at hO1 hD hrk;have e1:Lv (Ez circF 1 circC) rk (D+1).toNat=[2]:=Wy hD (by unfold Lv;rw[length_map,length_range]) (hbt 1 D rk hD hr0 hrk);rw[e1]at hO1;have ow1:=hO1.o1;refine Qm rfl (Qm rfl (Qm rfl (Qm rfl (Qm rfl (Am (Fm 1 hO1 rfl fun h8 l8 hW1=>?_))))));have l68:=AH l7 l8;have hR:=hR.up l68;have hS:=hS.le l68;refine Au (Qx (oG rfl CI AS (Seg.any hS)) rfl (Qm rfl ?_));refine AZ (pre:=[mF]) rfl call19 rfl (FnT.borrow (fun hj l1 l2=>LW A circF vC vF 2 2 hj hK (hR.up l1) (hOF.rdh l2) (Ie _ (.inl rfl)) (by rw[hcn];exact Kz) (by rw[hcn];exact KF) isP2 (by decide) (by omega))) rfl rfl rfl rfl (fun rd h9 ms9 l9 hQ=>?_);obtain⟨l9',hj9,k9,ms9',lj9,⟨lk9,D',rk',w2,m2,rfl,rfl,hO2,hD',hr0',hrk'⟩,_,rfl,_⟩:=hQ;rw[hcn]at hO2 hD' hrk';have e2:Lv (Ez circF 2 circC) rk' (D'+1).toNat=[1,0]:=Xc hD' (by unfold Lv;rw[length_map,length_range]) (hbt 2 D' rk' hD' hr0' hrk');rw[e2]at hO2;have ow2:=hO2.o1;refine Qm rfl (Qm rfl (Qm rfl (Qm rfl (Qm rfl (Am (Fm 1 hO2 rfl fun h10 l10 hW2=>(Au (Qx (Bb X8 [.int .i64 0,.int .i64 0,.int .i64 0,.bool false,.int .i64 0,.int .i64 0] [(3,_),(4,_)] [_,_,_,_,_,_] rfl D3 rfl rfl Qt rfl) rfl (Qx (Bb X8 [.int .i64 0,.int .i64 0,.int .i64 0,.bool false,.int .i64 0,.int .i64 0] [(1,_),(2,_),(4,_),(5,_)] [_,_,_,_,_,_] rfl D3 rfl rfl Qt rfl) rfl (Qx (Bb X8 [.int .i64 0,.int .i64 0,.int .i64 0,.bool false,.int .i64 0,.int .i64 0] [(0,_),(1,_),(3,_),(4,_)] [_,_,_,_,_,_] rfl D3 rfl rfl Qt rfl) rfl (Ar [(0,_),(6,_),(12,_)] [.int .i64 0,.int .i64 0,.int .i64 0,.bool false,.int .i64 0,.int .i64 0,.int .i64 0,.int .i64 0,.int .i64 0,.bool false,.int .i64 0,.int .i64 0,.int .i64 0,.int .i64 0,.int .i64 0,.bool false,.int .i64 0,.int .i64 0] [_,_,_,_,_,_,_,_,_,_,_,_,_,_,_,_,_,_] rfl OO D3 rfl (by omega) (by kernel_rfl) Qt rfl rfl rfl rfl (fun g39=>Qm rfl (Am (Bn 0 rfl fun h11 l11 hS39=>?_))))))))))))));have l811:=AH l9 (AH l10 l11);have hR:=hR.up l811;have hS:=hS.le l811;refine Ac (BK (n:=9) (bs:=[false,true,true,false,false,false,false,false,false]) [false,true,true] CT (by kernel_rfl) (by kernel_rfl) rfl rfl (Qq rfl (Qp rfl (Eu 3 (hOF.rd (h:=h11) (ms:=[mF]) Mh).rd rfl OU DV rfl rfl rfl (by decide)) ?_)));unfold Gg;simp only[cons_append,nil_append];refine Qo 0 rfl (Qx (oG rfl CI AS (Seg.any hS)) rfl (Qw (Qo 3 rfl (AZ (pre:=[mF]) rfl call24 rfl (FnT.borrow (fun hj l1 l2=>FU A (circF.take 3) vC (BQ 2 vF 0 3) hj hK (hR.up l1) (show RdL cV 2 hj [] (BQ 2 vF 0 3) (circF.take 3) from(hOF.rdh l2).sub_ (i:=0) (j:=3) (by decide) (by decide)) (Ie _ (.inr (.inl rfl))))) rfl rfl rfl rfl (fun rc h12 ms12 l12 hQ=>?_)))));obtain⟨l12',hj12,k12,ms12',lj12,hr12,_,rfl,_⟩:=hQ;rw[hcn,RB]at hr12;subst hr12;refine Qa (FG 4 40 (by kernel_rfl) rfl (by assumption) rfl (AA rfl rfl) (FG 5 45 (by kernel_rfl) rfl (by assumption) rfl (Ho rfl rfl rfl) (FG 6 46 (by kernel_rfl) rfl (by assumption) rfl (Ho rfl rfl rfl) (Qo 7 rfl (Qm rfl (Qa (Qo 8 rfl (Qm rfl (Qa (Qe (Ab ?_)))))))))));rw[hmF,hvF];refine Au (Qm rfl (Qx (B4 1 rfl OU DV rfl rfl rfl (by omega)) rfl (Qf Ke rfl ?_)));refine AJ 0 3 rfl Bg rfl rfl rfl rfl (by rw[BD]) (by decide) rfl rfl ?_;simp only[List.set_cons_succ,List.set_cons_zero];refine Am (AD fun h13 l13 hSF=>?_);have l1113:=AH l12 l13;have hR:=hR.up l1113;have hS:=hS.le l1113;have hFB:RdL cV 2 h13 [] (.slice (some ⟨gF,0,none⟩) 4 4) [(1,0),(2,3),(3,2),(4,5)]:=⟨⟨_,4,rfl,by decide,by decide,rfl,fun _=>⟨_,rfl,hSF⟩⟩,GA⟩
 refine Au (Qx (oG rfl CI AS (Seg.any hS)) rfl (Qm rfl (Qc call24 rfl (FU A [(1,0),(2,3),(3,2),(4,5)] vC _ h13 hK hR hFB (Ie _ (.inr (.inr rfl)))) (fun rd h14 ms14 l14 hQ=>?_))));rw[hcn,RL]at hQ;subst hQ;refine Qm rfl (Qm rfl (Qm rfl (Qm rfl (Qm rfl (Am ?_)))));have hBa:=hBa.up (AH l68 (AH l811 (AH l1113 l14)));have hW1:=hW1.up (AH l811 (AH l1113 l14));have hW2:=hW2.up (AH l11 (AH l1113 l14));have hS39:=hS39.le (AH l1113 l14);have hB9:RdL Ld 6 h14 [] (.slice (some ⟨g39,0,none⟩) 3 3) circB:=⟨⟨_,3,rfl,by decide,by decide,rfl,fun _=>⟨_,rfl,hS39⟩⟩,JS⟩
 refine Au (Qm rfl (Qx (Dr (Dx rfl rfl rfl) (congrArg Value.bool (decide_eq_true rfl))) rfl (Qm rfl (Qg (AA rfl rfl) rfl (Qg (AA rfl rfl) rfl ?_)))));refine Qg (AN rfl call17 rfl ((by have:=ND circB circB va _ h14 hBa hB9 (ms14++ms12'.append []);rwa [decide_eq_true rfl]at this))) rfl ?_;refine Qm rfl (Qm rfl (Qg (AA rfl rfl) rfl (Qg (Dr (Dx rfl rfl rfl) (congrArg Value.bool (decide_eq_true rfl))) rfl (Qm rfl (Qm rfl (Qg (AA rfl rfl) rfl (Qg (Dr (Dx rfl rfl rfl) (congrArg Value.bool (decide_eq_true rfl))) rfl (Qm rfl (Qm rfl (Qg (AA rfl rfl) rfl (Vl rfl rfl rfl rfl (Al [_] rfl AU Bg rfl (by rfl) rfl rfl (by omega) rfl rfl rfl (fun g73=>Dy fun h15 l15 hS73=>?_)))))))))))));refine Qg (AN rfl call44 rfl ((by have:=Rc [2] [2] w1 _ h15 (hW1.up l15) (N7 1 Bo hS73) (ms14++ms12'.append []);rwa [decide_eq_true rfl]at this))) rfl ?_;refine Qm rfl (Qm rfl (Qg (AA rfl rfl) rfl (Vl rfl rfl rfl rfl (Ar [(0,_),(1,_)] [.int .i64 0,.int .i64 0] [_,_] rfl AU Bg rfl (by omega) (by kernel_rfl) Qt rfl rfl rfl rfl (fun g78=>Dy fun h16 l16 hS78=>?_)))));have hR2:RdL cI 1 h16 [] (.slice (some ⟨g78,0,none⟩) 2 2) [1,0]:=⟨⟨_,2,rfl,by decide,by decide,rfl,fun _=>⟨_,rfl,hS78⟩⟩,Bo⟩
 refine Qg (AN rfl call44 rfl ((by have:=Rc [1,0] [1,0] w2 _ h16 (hW2.up (AH l15 l16)) hR2 (ms14++ms12'.append []);rwa [decide_eq_true rfl]at this))) rfl ?_;refine Qm rfl (Qm rfl (Qg (AA rfl rfl) rfl (Qg (Dr (Dx rfl rfl rfl) (congrArg Value.bool (decide_eq_true rfl))) rfl (Qm rfl (Qm rfl (Qg (AA rfl rfl) rfl (Qg (Dr (Dx rfl rfl rfl) (congrArg Value.bool (decide_eq_true rfl))) rfl (Qm rfl (Qm rfl (Qg (AA rfl rfl) rfl (Qg (Dr (Dx rfl rfl rfl) (congrArg Value.bool (decide_eq_true rfl))) rfl (Qm rfl (Qm rfl (Qg (AA rfl rfl) rfl (Qg (Dr (Dx rfl rfl rfl) (congrArg Value.bool (decide_eq_true rfl))) rfl (Qm rfl (Qm rfl (Am (Ao ?_)))))))))))))))))));exact Az rfl rfl (rfl)
variable {α:Type}
def Ek[Inhabited α](l:List α)(s k:Nat):List α:=(range k).map fun i=>l.getD ((i+s)%l.length) default
theorem ID[Inhabited α](l:List α)(s k:Nat):Ek l s (k+1)=Ek l s k++[l.getD ((k+s)%l.length) default]:=by unfold Ek;rw[range_succ,map_append];rfl
theorem DD[Inhabited α](l:List α)(s k:Nat):(Ek l s k).length=k:=by simp[Ek]
def Jd(s:Nat)(x:Cl):Cl:=⟨x.id,x.dim,Ek x.sd s x.sd.length⟩
theorem RZ(l:List Ce)(v:Value)(s:Nat)(hp:Hp)(hs:s<256)(hR:RdC hp v l)(hn:l.length<=1000)(hsl:∀a∈l,a.c.sd.length<=100):FnT Tryz.prog 22 #[.agg #[v],.int .i64 s] hp [] (fun r h' ms'=>hp.le h'/\NV h' r ms' (fun o=>o=(Ek (l.map Ce.c) s l.length).map (Jd s))):=by
 have o1:=hR.q.rd.one;refine Aq func22 ntmps22 rfl rfl (fun w0 hw0=>?_);simp only[AV];refine Au (AX [_] rfl rfl (by rfl) rfl rfl rfl (fun g2=>CJ [.slice none 0 0] rfl AS rfl rfl (fun g4=>Am (Bn 1 rfl fun h1 l1 hS=>?_))));have hR:=hR.up l1;have e2:∀{h},h1.le h->∀ms,Cell h ms (⟨g2,0,none⟩:Addr) v:=fun l ms=>Seg.all (hS.le l) 0 _ rfl ms;refine Au (CJ [.slice none 0 0] rfl AS rfl rfl (fun g5=>BG (Qf BI rfl (Ql rfl Bk (e2 (DS) _) (Qx (Ap hR.q.rd.any rfl Bk rfl) rfl (Qm rfl (Am (Ac (Au (Qm rfl (Am (Af (By ?_)))))))))))))
 refine Ax (fun q sl h' ms'=>∃(i:Nat) (vO:Value) (mO:Hp) (O:List Ce),q=l.length-i/\sl=[(1,.int .i64 s),(2,.pointer (some ⟨g2,0,none⟩)),(4,.pointer (some ⟨g4,0,none⟩)),(5,.pointer (some ⟨g5,0,none⟩)),(6,.int .i64 l.length),(7,.int .i64 i)]/\h1.le h'/\ms'=[mO,Be g5 29 [vO],Be g4 29 [.slice none 0 0]]/\i<=l.length/\OwnL cC 3 52 mO vO O/\O.map Ce.c=(Ek (l.map Ce.c) s i).map (Jd s)/\∀a∈O,RdL cD 2 h' [] a.v a.c.sd)
  (l.length-0) _ ⟨0,_,Hp.emp,[],rfl,rfl,DS,rfl,by omega,OwnL.nil BX,rfl,nofun⟩ Qs ?_
 rintro q sl h' ms' ⟨i,vO,mO,O,rfl,rfl,lh,rfl,hi,hO,hOc,hOs⟩;have hR:=hR.up lh;have ov:=hO.o1;have hOl:O.length=i:=by have:=congrArg List.length hOc;rwa [length_map,length_map,DD]at this
 refine Ac (Au (Qm rfl (Qm rfl (Qm rfl (Am ?_)))));refine Av rfl (fun hlt=>?_) (fun hlt=>?_)
 ·have hil:i<l.length:=by omega
  obtain⟨k,hkn⟩:∃k:Nat,(i+s)%l.length=k:=⟨_,rfl⟩
  have hk:((i:Int)+s)%(l.length:Int)=k:=by rw[<-hkn,Int.natCast_emod,Int.natCast_add]
  have hkl:k<l.length:=by rw[<-hkn];exact Nat.mod_lt _ (by omega)
  obtain⟨x,hx⟩:∃x,l[k]=x:=⟨_,rfl⟩
  have hxm:x∈l:=by rw[<-hx];exact getElem_mem hkl
  have hX:=hR.s x hxm;have hxl:=hsl x hxm;have sx:∀ms,Seg h' ms ((AF v).add (k*3)) (cC x):=fun ms=>by rw[<-hx];exact(hR.q.any (ms:=ms)).seg hkl
  have ox:=hX.rd.one;refine Ag (Ab (Ac (Af (Ac (Bh 10 CT (by kernel_rfl) rfl (Wf BI rfl (Wl rfl Bk (e2 lh _) (Wm rfl (Wm rfl (AM (oA rfl) rfl rfl (Wm rfl ?_)))))))))));refine AM (AN rfl call34 rfl ((by have:=FX ((i:Int)+s) l.length (by unfold BE;omega) (by omega) h' [mO,Be g5 29 [vO],Be g4 29 [.slice none 0 0]];rwa [hk]at this))) rfl rfl ?_;refine AM (BT (k) hR.q.rd.any rfl Bk AG rfl rfl) rfl rfl (AM (oG rfl EB AG (sx _)) rfl rfl (PS (I7 [.int .i64 0,.int .i64 0,.slice none 0 0] rfl AG rfl) rfl rfl (F5 (fun g8=>?_))));refine Sa 0 [_,_,_] AG rfl (by simp[o1,ov,ox]) ?_;refine BG (Qf Bx rfl (Ql rfl U3 (Cell.blk 0 rfl rfl) (Qf CA rfl (Ql rfl U3 (Cell.blk 0 rfl rfl) (Qx (Bb UO [.int .i64 0,.int .i64 0,.slice none 0 0] [(0,_),(1,_)] [_,_,_] rfl AG rfl rfl Qt rfl) rfl (CJ [.int .i64 0,.int .i64 0,.slice none 0 0] rfl AG rfl rfl (fun g9=>?_)))))));refine Sa 0 [_,_,_] AG rfl (by simp[Value.oneCell']) ?_;refine Am (By ?_);refine Bd (fun sl h'' ms'=>∃(vs:Value) (mS:Hp),sl=[(1,.int .i64 s),(2,.pointer (some ⟨g2,0,none⟩)),(4,.pointer (some ⟨g4,0,none⟩)),(5,.pointer (some ⟨g5,0,none⟩)),(6,.int .i64 l.length),(7,.int .i64 i),(8,.pointer (some ⟨g8,0,none⟩)),(9,.pointer (some ⟨g9,0,none⟩))]/\h'=h''/\ms'=[mS,Be g9 52 [.int .i64 x.c.id,.int .i64 x.c.dim,vs],Be g8 52 [.int .i64 x.c.id,.int .i64 x.c.dim,x.v],mO,Be g5 29 [vO],Be g4 29 [.slice none 0 0]]/\OwnL cD 2 119 mS vs (Ek x.c.sd s x.c.sd.length)) ?_ (fun s h ms hI=>?_)
  ·refine Ac (Ad (Qm rfl (Am (Af ?_))))
   refine Ax (fun q sl h'' ms'=>∃(j:Nat) (vs:Value) (mS:Hp),q=x.c.sd.length-j/\sl=[(1,.int .i64 s),(2,.pointer (some ⟨g2,0,none⟩)),(4,.pointer (some ⟨g4,0,none⟩)),(5,.pointer (some ⟨g5,0,none⟩)),(6,.int .i64 l.length),(7,.int .i64 i),(8,.pointer (some ⟨g8,0,none⟩)),(9,.pointer (some ⟨g9,0,none⟩)),(10,.int .i64 j)]/\h'=h''/\ms'=[mS,Be g9 52 [.int .i64 x.c.id,.int .i64 x.c.dim,vs],Be g8 52 [.int .i64 x.c.id,.int .i64 x.c.dim,x.v],mO,Be g5 29 [vO],Be g4 29 [.slice none 0 0]]/\j<=x.c.sd.length/\OwnL cD 2 119 mS vs (Ek x.c.sd s j))
    (x.c.sd.length-0) _ ⟨0,_,Hp.emp,rfl,rfl,rfl,rfl,by omega,OwnL.nil Dv⟩ Qs ?_
   rintro q sl h'' ms' ⟨j,vs,mS,rfl,rfl,rfl,rfl,hj,hOS⟩;have ovs:=hOS.o1;refine Ac (Au (Qm rfl (Qf BH rfl (Ql rfl Ci (Cell.blk 2 rfl rfl) (Qx (Ap hX.rd.any rfl Ci rfl) rfl (Qm rfl (Am ?_)))))));refine Av rfl (fun hjl=>?_) (fun hjl=>?_)
   ·have hjn:j<x.c.sd.length:=by omega
    obtain⟨z,hzn⟩:∃z:Nat,(j+s)%x.c.sd.length=z:=⟨_,rfl⟩
    have hz:((j:Int)+s)%(x.c.sd.length:Int)=z:=by rw[<-hzn,Int.natCast_emod,Int.natCast_add]
    have hzl:z<x.c.sd.length:=by rw[<-hzn];exact Nat.mod_lt _ (by omega)
    obtain⟨sd,hsd⟩:∃sd,x.c.sd[z]=sd:=⟨_,rfl⟩
    have cs:∀ms,Seg h' ms ((AF x.v).add (z*2)) (cD sd):=fun ms=>by rw[<-hsd];exact(hX.any (ms:=ms)).seg hzl
    have hll:(Ek x.c.sd s j).length<=100:=by rw[DD];omega
    have hsn:Ek x.c.sd s (j+1)=Ek x.c.sd s j++[sd]:=by rw[ID,hzn,show x.c.sd.getD z default=x.c.sd[z] by simp[List.getD,hzl],hsd]
    refine Ag (Ab (Ac (Af (Bh 14 CT (by kernel_rfl) rfl (Wf BH rfl (Wl rfl Ci (Cell.blk 1 rfl rfl) (Wf BH rfl (Wl rfl Ci (Cell.blk 2 rfl rfl) (Wm rfl (Wm rfl (AM (oA rfl) rfl rfl (Wf BH rfl (Wl rfl Ci (Cell.blk 2 rfl rfl) (AM (Ap hX.rd.any rfl Ci rfl) rfl rfl ?_))))))))))))));refine AM (AN rfl call34 rfl ((by have:=FX ((j:Int)+s) x.c.sd.length (by unfold BE;omega) (by omega) h' [mS,Be g9 52 [.int .i64 x.c.id,.int .i64 x.c.dim,vs],Be g8 52 [.int .i64 x.c.id,.int .i64 x.c.dim,x.v],mO,Be g5 29 [vO],Be g4 29 [.slice none 0 0]];rwa [hz]at this))) rfl rfl ?_;refine AM (BT (z) hX.rd.any rfl Ci AK rfl rfl) rfl rfl (AM (oG rfl DA AK (cs _)) rfl rfl (PS (Dt [_,_] rfl Ci AK rfl (by rfl) rfl rfl (by omega)) rfl rfl (F5 (fun g53=>AP 1 hOS (RdL.one Dv (x:=sd) Mh rfl) rfl Ci AK rfl (by omega) rfl rfl rfl Fu (by(try simp only[length_singleton]);omega) (by(try simp only[length_singleton]);omega) rfl rfl rfl (fun v9 m9 hO9=>?_)))));rw[<-hsn]at hO9;have ov9:=hO9.o1;refine Qf BH rfl ?_;refine AJ 2 _ rfl PE rfl rfl (by assumption) rfl rfl (by(simp;done)) rfl rfl ?_;refine Aj (Ai (Ab (Ad (Qm rfl (Qx (oA rfl) rfl (Qm rfl (Aj (AQ 0 rfl ?_))))))));exact Ak (x.c.sd.length-(j+1)) _ (by omega) ⟨j+1,v9,m9,rfl,rfl,rfl,rfl,by omega,hO9⟩ Qs
   ·obtain rfl:j=x.c.sd.length:=by omega
    refine As (Aa (Aa (Ae ?_)));exact AC _ ⟨vs,mS,rfl,rfl,rfl,hOS⟩ Qs
  ·obtain⟨vs,mS,rfl,rfl,rfl,hOS⟩:=hI;obtain⟨aS,cS,rfl,_⟩:=(hOS.rd (h:=hp) (ms:=[mS]) Mh).rd.ex;refine Bc fun h3 l3 k3=>?_;have hRS:=hOS.rdh (ms:=[]) k3;have oS_:=hRS.rd.one
   let ce:Ce:=⟨Jd s x.c,.slice aS (Ek x.c.sd s x.c.sd.length).length cS⟩
   have hce:RdL cD 2 h3 [] ce.v ce.c.sd:=hRS
   have hrn:(Ek (l.map Ce.c) s (i+1)).map (Jd s)=(Ek (l.map Ce.c) s i).map (Jd s)++[Jd s x.c]:=by rw[ID,map_append,length_map,hkn,show(l.map Ce.c).getD k default=x.c by rw[<-hx];simp[List.getD,hkl]];rfl
   refine Ad (Qf BI rfl (Ql rfl Bk (Cell.blk 3 rfl rfl) (Qx (oG rfl EB AG (Seg.blk 0 rfl)) rfl (Al [_,_,_] rfl Bk AG rfl (by rfl) rfl rfl (by omega) rfl rfl rfl (fun g59=>?_)))));refine AW 3 hO (RdL.one BX (x:=ce) Mh rfl) rfl Bk AG rfl (by omega) rfl rfl rfl (CN (l:=[ce]) (h:=h3) fun y hy=>by rw[List.mem_singleton.1 hy];exact hce) (by(try simp only[length_singleton]);omega) (by(try simp only[length_singleton]);omega) rfl rfl rfl (fun v9 m9 hO9=>?_);have ov9:=hO9.o1;refine Qf BI rfl ?_;refine AJ 4 _ rfl IJ rfl rfl (by assumption) rfl rfl (by(simp;done)) rfl rfl ?_;refine Aj (Ai (Ab (Ad (Qm rfl (Qx (oA rfl) rfl (Qm rfl (Aj (AQ 0 rfl (AQ 0 rfl (AQ 0 rfl ?_))))))))));exact Ak (l.length-(i+1)) _ (by omega) ⟨i+1,v9,m9,O++[ce],rfl,rfl,AH lh l3,rfl,by omega,hO9,by rw[map_append,hOc,hrn];rfl,RdC.snoc' (fun a ha=>(hOs a ha).up l3) hce⟩ Qs
 ·obtain rfl:i=l.length:=by omega
  refine As (Aa (Aa (Ae (Ab (Au (Qx (oG rfl CI AS (Seg.blk 1 rfl)) rfl ?_))))));refine Sa 2 [_] AS rfl (by simp[o1,ov]) ?_;refine Am (Ao (AQ 1 rfl ?_));exact Bs (vs:=[_]) 1 rfl rfl CI rfl AS rfl rfl (⟨AH l1 lh,mO,O,_,rfl,rfl,hO,hOc,hOs⟩)
end Go.Proofs.Q
namespace Go.Proofs.Q
open Go.Eng Go.RowKit
variable {α:Type}
theorem Tm[Inhabited α](l:List α)(s:Nat):Ek l s l.length=l.drop (s%l.length)++l.take (s%l.length):=by
 rcases Nat.eq_zero_or_pos l.length with h0|h0
 ·have:l=[]:=List.eq_nil_of_length_eq_zero h0;subst this;simp[Ek]
 have hm:s%l.length<l.length:=Nat.mod_lt _ h0;refine List.ext_getElem (by rw[DD,length_append,List.length_drop,length_take];omega) fun i h1 h2=>?_;rw[DD]at h1;have hi:(Ek l s l.length)[i]'(by rw[DD];exact h1)=l.getD ((i+s)%l.length) default:=by simp[Ek]
 have e:(i+s)%l.length=if i+s%l.length<l.length then i+s%l.length else i+s%l.length-l.length:=by
  rw[<-Nat.add_mod_mod];split
  ·rw[Nat.mod_eq_of_lt ‹_›]
  ·rw[Nat.mod_eq_sub_mod (by omega),Nat.mod_eq_of_lt (by omega)]
 rw[hi,e,List.getElem_append];simp only[List.length_drop];split
 ·rw[dif_pos (by omega),List.getElem_drop];simp only[List.getD];rw[List.getElem?_eq_getElem (by omega)];simp[Nat.add_comm]
 ·rw[dif_neg (by omega),List.getElem_take];simp only[List.getD];rw[List.getElem?_eq_getElem (by omega)];simp only[Option.getD_some];congr 1;omega
theorem DB[Inhabited α](l:List α)(s:Nat):(Ek l s l.length).Perm l:=by rw[Tm];exact List.perm_append_comm.trans (by rw[List.take_append_drop])
def Iz(o:List Cl)(s:Nat):List Cl:=(Ek o s o.length).map (Jd s)
theorem turn_sim(o:List Cl)(s:Nat):SimC o (Iz o s):=by
 refine⟨by unfold Iz;rw[length_map,DD],?_,fun x' hx=>?_⟩
 ·unfold Iz;rw[map_map];exact(DB o s).map _
 ·obtain⟨x,hx',rfl⟩:=List.mem_map.1 hx;exact⟨x,(DB o s).mem_iff.1 hx',rfl,rfl,DB _ _⟩
theorem Mc(f:α->Int):∀{l l':List α},(l.Pairwise fun a b=>f a<f b)->(l'.Pairwise fun a b=>f a<f b)->l.Perm l'->l=l'
 | [],l',_,_,p=>p.nil_eq
 | a::l,[],_,_,p=>absurd p.symm (by simp)
 | a::l,b::l',h,h',p=>by
  obtain⟨h1,h2⟩:=List.pairwise_cons.1 h;obtain⟨h1',h2'⟩:=List.pairwise_cons.1 h'
  have e:a=b:=by
   rcases List.mem_cons.1 (p.mem_iff.1 (List.Mem.head l)) with e|e
   ·exact e
   ·rcases List.mem_cons.1 (p.mem_iff.2 (List.Mem.head l')) with e'|e'
    ·exact e'.symm
    ·have:=h1 b e';have:=h1' a e;omega
  subst e;rw[Mc f h2 h2' p.cons_inv]
theorem can_eq{x y:Cl}(h:x.id=y.id)(hd:x.dim=y.dim)(hs:x.sd.Perm y.sd)(hn:(y.sd.map Prod.fst).Nodup):x.can=y.can:=by
 have e:BY x.sd=BY y.sd:=by
  have p:(BY x.sd).Perm (BY y.sd):=(BB _).trans (hs.trans (BB _).symm)
  have inc:∀l:List (Int×Int),(l.map Prod.fst).Nodup->(BY l).Pairwise fun a b=>a.1<b.1:=fun l hl=>by have h1:=E4 l;have h2:((BY l).map Prod.fst).Nodup:=(((BB l).map Prod.fst).nodup_iff).2 hl;exact(h1.and (List.pairwise_map.1 h2)).imp fun h=>by omega
  exact Mc Prod.fst (inc _ ((hs.map Prod.fst).nodup_iff.2 hn)) (inc _ hn) p
 unfold Cl.can;rw[h,hd,e]
theorem turn_ord{o:List Cl}(R:Rgt o)(s:Nat):ordF (Iz o s)=ordF o:=by
 have R':=R.sim (turn_sim o s)
 have p:((Iz o s).map Cl.can).Perm (o.map Cl.can):=by
  have h1:(Iz o s).map Cl.can=(Ek o s o.length).map Cl.can:=by unfold Iz;rw[map_map];refine List.map_congr_left fun x hx=>?_;exact can_eq (x:=Jd s x) (y:=x) rfl rfl (DB _ _) (R.sds x ((DB o s).mem_iff.1 hx))
  rw[h1];exact(DB o s).map _
 exact Mc Cl.id R'.ordF.inc R.ordF.inc ((CE _ _ (Nat.le_refl _)).trans (p.trans (CE _ _ (Nat.le_refl _)).symm))
end Go.Proofs.Q
namespace Go.Proofs.Q
open Go.Eng Go.RowKit Go.Lin Go.Kuhn
structure W0(o:List Cl)(F:List (Int×Int))(w:Int->Int):Prop where
 chk:FP o F=(0,0)
 at_:∀x∈o,Cj (A8 F) x.id=w x.id
 bI:∀c,-2000000000<=Cj (A8 F) c/\Cj (A8 F) c<=2000000000
 mon:∀x∈o,∀s∈x.sd,Cj (A8 F) s.1<=Cj (A8 F) x.id
theorem ZZ{o:List Cl}(G:Rgt o)(F:List (Int×Int))(w:Int->Int)(hk:(F.map Prod.fst).Perm (o.map Cl.id))(hv:∀q∈F,q.2=w q.1)(hb:∀y∈o,-2000000000<=w y.id/\w y.id<=2000000000)(hm:∀x∈o,∀s∈x.sd,w s.1<=w x.id):W0 o F w:=by
 have hnd:(F.map Prod.fst).Nodup:=hk.nodup_iff.2 G.nd
 have hat:∀x∈o,Cj (A8 F) x.id=w x.id:=fun x hx=>by obtain⟨q,hq,e⟩:=List.mem_map.1 (hk.mem_iff.2 (List.mem_map.2 ⟨x,hx,rfl⟩));have:=hv q hq;refine GM hnd ?_;rw[<-e,<-this];exact hq
 have hmon:∀x∈o,∀s∈x.sd,Cj (A8 F) s.1<=Cj (A8 F) x.id:=fun x hx s hs=>by obtain⟨y,hy,e,_⟩:=G.sid x hx s hs;rw[hat x hx,<-e,hat y hy,e];exact hm x hx s hs
 refine⟨PD (fun j hj=>?_) (fun j hj=>?_) (fun j hj=>?_),hat,fun c=>?_,hmon⟩
 ·have hg:F.getD j (0,0)=F[j]:=by simp[List.getD,hj]
  obtain⟨y,hy,e⟩:=List.mem_map.1 (hk.mem_iff.1 (List.mem_map.2 ⟨F[j],getElem_mem hj,rfl⟩));unfold fA;rw[hg,<-e,CY G.nd hy,if_neg (by simp),if_neg fun h=>?_];obtain⟨q,hq,e'⟩:=List.mem_map.1 h;obtain⟨i,hi,rfl⟩:=List.getElem_of_mem hq;rw[length_take]at hi;have hp:=List.pairwise_iff_getElem.1 hnd i j (by simp;omega) (by simpa using hj) (by omega);rw[List.getElem_map,List.getElem_map]at hp;refine hp ?_;rw[List.getElem_take]at e';rw[e',e]
 ·unfold fB;rw[if_neg];intro h;exact h (hk.mem_iff.2 (List.mem_map.2 ⟨_,CS hj,rfl⟩))
 ·unfold fC;rw[if_neg];rintro⟨s,hs,h⟩;have:=hmon _ (CS hj) s hs;unfold Cj at this;unfold Hs at h;omega
 ·unfold Cj;cases h:A9 (A8 F) c with
  | none=>simp
  | some x=>
   have hc:c∈(A8 F).map Prod.fst:=Classical.byContradiction fun hn=>by rw[CF hn]at h;cases h
   rw[LJ]at hc;obtain⟨y,hy,rfl⟩:=List.mem_map.1 (hk.mem_iff.1 hc);have:=hat y hy;unfold Cj at this;rw[h]at this;rw[this];exact hb y hy
def Es(F:List (Int×Int))(s:Nat)(φ:Int->Int)(k:Nat):List (Int×Int):=(Ek F s k).map fun q=>(q.1,φ q.2)
theorem Li(F:List (Int×Int))(s:Nat)(φ:Int->Int)(k:Nat):Es F s φ (k+1)=Es F s φ k++[((F.getD ((k+s)%F.length) default).1,φ (F.getD ((k+s)%F.length) default).2)]:=by unfold Es;rw[ID,map_append];rfl
theorem Yp{o:List Cl}(G:Rgt o){F:List (Int×Int)}(w:Int->Int)(hF:F=o.map fun x=>(x.id,w x.id))(s:Nat)(φ:Int->Int)(hb:∀y∈o,-2000000000<=φ (w y.id)/\φ (w y.id)<=2000000000)(hm:∀x∈o,∀s∈x.sd,φ (w s.1)<=φ (w x.id)):W0 o (Es F s φ F.length) (fun c=>φ (w c)):=by
 have hp:=DB F s;refine ZZ G _ _ ?_ (fun q hq=>?_) hb hm
 ·unfold Es;rw[map_map];have:((Ek F s F.length).map (Prod.fst∘fun q=>(q.1,φ q.2)))=(Ek F s F.length).map Prod.fst:=rfl;rw[this];refine(hp.map _).trans ?_;rw[hF,map_map];exact List.Perm.refl _
 ·obtain⟨q',hq',rfl⟩:=List.mem_map.1 hq;have:=hp.mem_iff.1 hq';rw[hF]at this;obtain⟨x,_,rfl⟩:=List.mem_map.1 this;rfl
def DJ(s v:Int):Int:=v*v*7-s
theorem QT(s:Int){a b:Int}(ha:0<=a)(hb:0<=b):DJ s a<DJ s b<->a<b:=by
 unfold DJ;constructor
 ·intro h;refine Classical.byContradiction fun hn=>?_;have h1:b*b<=a*a:=Int.mul_le_mul (by omega) (by omega) hb ha;omega
 ·intro h
  have h1:a*a<b*b:=by have h2:a*a<=a*b:=Int.mul_le_mul_of_nonneg_left (by omega) ha;have h3:a*b<b*b:=Int.mul_lt_mul_of_pos_right h (by omega);omega
  omega
end Go.Proofs.Q
